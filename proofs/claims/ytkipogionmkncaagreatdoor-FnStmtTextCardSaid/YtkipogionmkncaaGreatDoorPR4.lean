/- Helper of the proof (see the last text). -/
import Derived.Test.YtkipogionmkncaaGreatDoorPL
set_option linter.unusedVariables false
set_option linter.unusedSimpArgs false
namespace Go.LN
theorem specAcT(a:zE){d:Int}(h:accB a d=true):vK a=some ⟨acT a⟩:=by
 obtain⟨⟨c,e,_⟩,h1,h2⟩:=qT h;have s1:=zA5 h1.2;have t1:=specSideT _ h1.2 (by omega);unfold vK acT;rw[e];simp only[t1,Option.bind_eq_bind,Option.bind_some];generalize sdT a.Subs=u at s1 ⊢;rw[sJ (by simp)];simp only[Option.bind_some];rw[sJ (by simp;omega)];simp only[Option.bind_some];rw[sJ (by simp;omega)];simp
theorem specExT{d:Int}:∀(n:Nat) (e:zB),n<=10->shapeB d n e=true->wI e=some ⟨exT n e⟩
 | 0,_,_,h=>by cases h
 | n+1,e,hn,h=>by
  have h2:1<=2 ^ n:=Nat.one_le_two_pow
  have h3:2 ^ n<=2 ^ 10:=Nat.pow_le_pow_right (by omega) (by omega)
  cases mN h with
  | num k hk=>
   rw[wI,gR]
   have t:=dK k hk
   have e1:((zB.mk 1 k ⟨[],0⟩ ⟨⟨[]⟩,[]⟩ []).Kind==1)=true:=rfl
   have e2:(zB.mk 1 k ⟨[],0⟩ ⟨⟨[]⟩,[]⟩ []).Num=(k:Int):=rfl
   rw[if_pos e1,e2,t];rfl
  | ix a ha=>
   rw[wI,zAb]
   unfold okA at ha
   rw[bW] at ha
   have hl:=mV ha.1
   have t:=zA0 a ha.1
   have e1:((zB.mk 2 0 a ⟨⟨[]⟩,[]⟩ []).Kind==1)=false:=rfl
   have e2:((zB.mk 2 0 a ⟨⟨[]⟩,[]⟩ []).Kind==2)=true:=rfl
   have e3:(zB.mk 2 0 a ⟨⟨[]⟩,[]⟩ []).Index=a:=rfl
   rw[e1,e2,e3,t]
   generalize tx a=u at hl ⊢
   simp only[bV,if_false,if_true,Option.bind_eq_bind,Option.bind_some]
   rw[sJ (by simp;omega)];simp only[Option.bind_some]
   rw[sJ (by simp;omega)];rfl
  | rd a ha=>
   rw[wI,zAc]
   have t:=specAcT a ha
   have e1:((zB.mk 3 0 ⟨[],0⟩ a []).Kind==1)=false:=rfl
   have e2:((zB.mk 3 0 ⟨[],0⟩ a []).Kind==2)=false:=rfl
   have e3:((zB.mk 3 0 ⟨[],0⟩ a []).Kind==3)=true:=rfl
   have e4:(zB.mk 3 0 ⟨[],0⟩ a []).Read=a:=rfl
   rw[e1,e2,e3,e4,t];rfl
  | op k x y hk hx hy=>
   rw[wI,zAd hk]
   have l1:=(implExT n x (by omega) hx).2
   have l2:=(implExT n y (by omega) hy).2
   have t1:=specExT n x (by omega) hx
   have t2:=specExT n y (by omega) hy
   have e1:((zB.mk k 0 ⟨[],0⟩ ⟨⟨[]⟩,[]⟩ [x,y]).Kind==1)=false:=by show (k==1)=false;rw[beq_eq_false_iff_ne];omega
   have e2:((zB.mk k 0 ⟨[],0⟩ ⟨⟨[]⟩,[]⟩ [x,y]).Kind==2)=false:=by show (k==2)=false;rw[beq_eq_false_iff_ne];omega
   have e3:((zB.mk k 0 ⟨[],0⟩ ⟨⟨[]⟩,[]⟩ [x,y]).Kind==3)=false:=by show (k==3)=false;rw[beq_eq_false_iff_ne];omega
   have e4:idx (zB.mk k 0 ⟨[],0⟩ ⟨⟨[]⟩,[]⟩ [x,y]).Kids 0=some x:=rfl
   have e5:idx (zB.mk k 0 ⟨[],0⟩ ⟨⟨[]⟩,[]⟩ [x,y]).Kids 1=some y:=rfl
   have e6:(zB.mk k 0 ⟨[],0⟩ ⟨⟨[]⟩,[]⟩ [x,y]).Kind=k:=rfl
   rw[e1,e2,e3,e4,e5,e6,zCY hk]
   simp only[bV,if_false,Option.bind_eq_bind,Option.bind_some,same,t1,t2]
   generalize exT n x=u at l1 ⊢
   generalize exT n y=v at l2 ⊢
   rw[sJ (by simp;omega)];simp only[Option.bind_some]
   rw[sJ (by simp;omega)];simp only[Option.bind_some]
   rw[sJ (by simp;omega)];simp only[Option.bind_some]
   rw[sJ (by simp;omega)]
   simp
theorem specFS(s:zL)(h:BS s):vO s=some (if stmtB s 4 then⟨stT s⟩ else⟨[]⟩):=by
 unfold vO;rw[specStmt s 4 h];cases hb:stmtB s 4 with
 | false=>rfl
 | true=>
  obtain⟨a1,a2⟩:=oK hb;have l1:=zCw a1;have l2:=(implExT 5 _ (by omega) a2).2;have t1:=specAcT _ a1;have t2:=specExT 5 _ (by omega) a2;simp only[Option.bind_eq_bind,Option.bind_some,cJ,bV,if_false,if_true,t1,t2];unfold stT;generalize acT s.Write=u at l1 ⊢;generalize exT 5 s.Value=v at l2 ⊢;rw[sJ (by simp;omega)];simp only[Option.bind_some];rw[sJ (by simp;omega)];simp
def unt(c:UInt8):List UInt8->Nat
 | []=>0
 | b::t=>if b=c then 0 else unt c t+1
theorem zEo{c:UInt8}{r:List UInt8}:∀{u:List UInt8},c ∉ u->unt c (u++c::r)=u.length
 | [],_=>by show unt c (c::r)=0;unfold unt;rw[if_pos rfl]
 | b::u,h=>by
  show unt c (b::(u++c::r))=_
  unfold unt
  rw[if_neg λe=>h (by rw[e];exact b9 ..),zEo λhm=>h (bZ _ hm)];rfl
theorem zHv(b c:UInt8):((b.toNat:Int)==(c.toNat:Int))=decide (b=c):=by
 by_cases h:b=c
 ·subst h;simp
 ·have:¬b.toNat=c.toNat:=λe=>h (UInt8.toNat_inj.1 e);rw[decide_eq_false h,beq_eq_false_iff_ne];omega
theorem zGR(s:Str)(c:UInt8)(hs:s.l.length<=1000000):∀j i:Nat,i+j=s.l.length->wS s c (i:Int)=some (if unt c (s.l.drop i)<j then .ret ((i+unt c (s.l.drop i):Nat):Int) else .done ()):=by
 intro j
 induction j with
 | zero=>
  intro i hi;rw[wS];have hc:¬((i:Int)<(s.l.length:Int)):=by omega
  simp only[hc,decide_false,bV,if_false];rfl
 | succ j ih=>
  intro i hi;rw[wS];have av:i<s.l.length:=by omega
  have hc:((i:Int)<(s.l.length:Int)):=by omega
  have hx:sidx s (i:Int)=some s.l[i]:=by unfold sidx;exact tX av
  rw[cf av,unt];simp only[hc,decide_true,if_true,hx,Option.bind_eq_bind,Option.bind_some,zHv];by_cases hb:s.l[i]=c
  ·simp only[hb,decide_true,if_true];rw[if_pos (by omega)];rfl
  ·simp only[hb,decide_false,bV,if_false];rw[qI (by omega),ih (i+1) (by omega)];by_cases hq:unt c (s.l.drop (i+1))<j
   ·rw[if_pos hq,if_pos (by omega)]
    congr 3
    omega
   ·rw[if_neg hq,if_neg (by omega)]
theorem zBq(s:Str)(c:UInt8)(hs:s.l.length<=1000000)(p:Nat)(hp:p<=s.l.length):vX s (p:Int) c=some (if p+unt c (s.l.drop p)<s.l.length then((p+unt c (s.l.drop p):Nat):Int) else -1):=by
 unfold vX;rw[zGR s c hs (s.l.length - p) p (by omega)];by_cases h:p+unt c (s.l.drop p)<s.l.length
 ·rw[if_pos h,if_pos (by omega)];rfl
 ·rw[if_neg h,if_neg (by omega)];rfl
theorem zFQ(s:Str)(c:UInt8)(hs:s.l.length<=1000000)(p:Nat)(hp:p<=s.l.length):Ok (vX s (p:Int) c) (λy=>y=-1∨((p:Int)<=y/\y<(s.l.length:Int))):=by
 refine⟨_,zBq s c hs p hp,?_⟩;split
 ·right;constructor <;> omega
 ·left;rfl
theorem dU{β:Type}{s:Str}{p:Int}{f:UInt8->Option β}{φ:β->Prop}(h0:0<=p)(h1:p<(s.l.length:Int))(h:∀b,Ok (f b) φ):Ok (sidx s p >>= f) φ:=by
 obtain⟨n,rfl⟩:∃n:Nat,p=(n:Int):=⟨p.toNat,by omega⟩;have hx:sidx s (n:Int)=some s.l[n]:=by unfold sidx;exact tX (by omega)
 rw[hx];exact h _
theorem zAe(s:Str)(hs:s.l.length<=1000000)(p:Nat)(hp:p<=s.l.length):Ok (xD s (p:Int)) (λo=>BL o.1.Subs/\-1<=o.2/\o.2<=(s.l.length:Int)):=by
 unfold xD;refine Ok.bind (zFQ s 93 hs p hp) λy hy=>?_;rw[vM (x:=(p:Int)+2) (by omega) (by omega),vM (x:=(p:Int)+1) (by omega) (by omega)];refine Ok.bind (φ:=λb:Bool=>b=false->(p:Int)+2<=y) ?_ λb hb=>?_
 ·refine Ok.ite_dec (λ_=>⟨true,rfl,λh=>by cases h⟩) λh=>dU (by omega) (by omega) λb=>⟨_,rfl,λ_=>by omega⟩
 ·cases b with
  | true=>exact⟨(⟨⟨[]⟩,[]⟩,-1),rfl,bl0,by show (-1:Int) <= -1;omega,by show (-1:Int)<=_;omega⟩
  | false=>
   have aB:=hb rfl;refine Ok.ite_ff ?_;refine Ok.sslc (by omega) (by omega) (by omega) λm1 _ l1=>Ok.sslc (by omega) (by omega) (by omega) λm2 _ l2=>?_;obtain⟨l,h1,h2,_⟩:=specSideP m2 (by omega);rw[h1,vM (x:=y+1) (by omega) (by omega)];exact⟨(⟨m1,l⟩,y+1),rfl,h2,by show (-1:Int)<=y+1;omega,by show y+1<=_;omega⟩
theorem digD(s:Str)(hs:s.l.length<=1000000)(p:Nat)(hp:p<=s.l.length):uC s (p:Int)=some ((dgt (s.l.drop p)).1,((p+(dgt (s.l.drop p)).2:Nat):Int)):=by
 rw[zCX s p (by omega) hp];unfold dgt;split <;> rfl
theorem zHA{β:Type}{s:Str}{p:Nat}{f:UInt8->Option β}{φ:β->Prop}(h1:p<s.l.length)(h:∀b t,s.l.drop p=b::t->Ok (f b) φ):Ok (sidx s (p:Int) >>= f) φ:=by
 have hx:sidx s (p:Int)=some s.l[p]:=by unfold sidx;exact tX h1
 rw[hx];exact h _ _ (cf h1)
theorem zEW(s:Str)(c:UInt8)(hs:s.l.length<=1000000)(p:Nat)(hp:p<=s.l.length){b:UInt8}{t:List UInt8}(hd:s.l.drop p=b::t)(hb:b ≠ c):Ok (vX s (p:Int) c) (λy=>y=-1∨((p:Int)+1<=y/\y<(s.l.length:Int))):=by
 refine⟨_,zBq s c hs p hp,?_⟩;have:1<=unt c (s.l.drop p):=by rw[hd,unt,if_neg hb];omega
 split
 ·right;constructor <;> omega
 ·left;rfl
def PO(s:Str)(n:Nat)(o:zB×Int):Prop:=BE n o.1/\-1<=o.2/\o.2<=(s.l.length:Int)
theorem PO.fail{s:Str}{n:Nat}:PO s n (.mk 0 0 ⟨[],0⟩ ⟨⟨[]⟩,[]⟩ [],-1):=⟨BE.leaf ba0 bl0,by show (-1:Int) <= -1;omega,by show (-1:Int)<=_;omega⟩
theorem PO.mk'{s:Str}{n:Nat}{e:zB}{y:Int}(h:BE n e)(h1:-1<=y)(h2:y<=(s.l.length:Int)):PO s n (e,y):=⟨h,h1,h2⟩
theorem zFR(s:Str)(hs:s.l.length<=1000000):∀(n:Nat),n<=10->∀p:Int,0<=p->p<=(s.l.length:Int)+10->Ok (xA s p (n:Int)) (PO s n):=by
 intro n
 induction n with
 | zero=>
  intro hn p h0 h1;rw[xA];have:(((0:Nat):Int)<1):=by omega
  refine⟨(.mk 0 0 ⟨[],0⟩ ⟨⟨[]⟩,[]⟩ [],-1),?_,PO.fail⟩;simp only[this,decide_true,if_true];rfl
 | succ n ih=>
  intro hn p h0 h1;rw[xA];refine Ok.bind (φ:=λb:Bool=>b=false->p<(s.l.length:Int)) ?_ λb hb=>?_
  ·refine Ok.ite_dec (λh=>absurd h (by omega)) λ_=>Ok.ite_dec (λh=>absurd h (by omega)) λ_=>⟨_,rfl,λh=>?_⟩;have:=of_decide_eq_false h;omega
  ·refine Ok.ite (λ_=>⟨_,rfl,PO.fail⟩) λhbf=>?_;have av:=hb (by simpa using hbf);obtain⟨q,rfl⟩:∃q:Nat,p=(q:Int):=⟨p.toNat,by omega⟩;refine zHA (by omega) λb1 t1 hd=>?_;refine Ok.ite_beq (λhb1=>?_) λ_=>?_
   ·have hne:b1 ≠ 125:=by rintro rfl;revert hb1;decide
    refine Ok.bind (zEW s 125 hs q (by omega) hd hne) λy hy=>?_;refine Ok.ite_dec (λ_=>⟨_,rfl,PO.fail⟩) λhy0=>?_;rw[vM (x:=(q:Int)+1) (by omega) (by omega)];refine Ok.sslc (by omega) (by omega) (by omega) λm1 _ l1=>?_;obtain⟨⟨r1,r2⟩,hr,hres⟩:=specParse m1 (by omega);rw[hr];refine Ok.bind_some ?_;rw[vM (x:=y+1) (by omega) (by omega)];exact⟨_,rfl,PO.mk' (BE.leaf hres.ba bl0) (by omega) (by omega)⟩
   ·refine Ok.bind (φ:=λ_:Bool=>True) (dU h0 av λb=>Ok.ite_dec (λ_=>dU h0 av λb=>⟨_,rfl,trivial⟩) λ_=>⟨_,rfl,trivial⟩) λb _=>?_;refine Ok.ite (λ_=>?_) λ_=>?_
    ·refine Ok.bind (zAe s hs q (by omega)) λo ho=>?_;obtain⟨y5,y6⟩:=o;exact⟨_,rfl,PO.mk' (BE.leaf ba0 ho.1) ho.2.1 ho.2.2⟩
    ·refine dU h0 av λb6=>Ok.ite_beq (λ_=>?_) λ_=>?_
     ·refine Ok.bind (φ:=PO s (n+1)) ?_ λo ho=>by
       obtain⟨y8,y9⟩:=o;exact⟨_,rfl,ho⟩
      rw[sA];dsimp only [same];rw[vM (x:=(q:Int)+1) (by omega) (by omega),show W (((n+1:Nat):Int) - 1)=(n:Int) by rw[vM (by omega) (by omega)];omega];refine Ok.bind (ih (by omega) ((q:Int)+1) (by omega) (by omega)) λo ho=>?_;obtain⟨y1,y2⟩:=o;obtain⟨g1,g2,g3⟩:=ho;dsimp only at g1 g2 g3 ⊢;refine Ok.bind (φ:=λb:Bool=>b=false->0<=y2/\y2<(s.l.length:Int)) ?_ λb hb=>?_
      ·refine Ok.ite_dec (λ_=>⟨_,rfl,λh=>by cases h⟩) λhn0=>⟨_,rfl,λh=>?_⟩;have:=of_decide_eq_false h;omega
      ·refine Ok.ite (λ_=>⟨_,rfl,PO.fail⟩) λhbf=>?_;obtain⟨p0,p1⟩:=hb (by simpa using hbf);refine dU p0 p1 λb2=>?_;refine Ok.bind (φ:=λ_:Int=>True) (Ok.ite_beq (λ_=>⟨_,rfl,trivial⟩) λ_=>Ok.bind (φ:=λ_:Int=>True) (Ok.ite_beq (λ_=>⟨_,rfl,trivial⟩) λ_=>⟨_,rfl,trivial⟩) λ_ _=>⟨_,rfl,trivial⟩) λkind _=>?_;rw[vM (x:=y2+1) (by omega) (by omega)];refine Ok.bind (ih (by omega) (y2+1) (by omega) (by omega)) λo ho=>?_;obtain⟨y4,y5⟩:=o;obtain⟨f1,f2,f3⟩:=ho;dsimp only at f1 f2 f3 ⊢;refine Ok.bind (φ:=λb:Bool=>b=false->0<=y5/\y5<(s.l.length:Int)) ?_ λb hb=>?_
       ·refine Ok.ite_dec (λ_=>⟨_,rfl,λh=>by cases h⟩) λhn0=>⟨_,rfl,λh=>?_⟩;have:=of_decide_eq_false h;omega
       ·refine Ok.ite (λ_=>⟨_,rfl,PO.fail⟩) λhbf=>?_;obtain⟨p2,p3⟩:=hb (by simpa using hbf);rw[vM (x:=y5+1) (by omega) (by omega)];refine⟨_,rfl,PO.mk' ⟨ba0,bl0,by show (2:Nat)<=1000;omega,λk hk=>?_⟩ (by omega) (by omega)⟩;rcases cg.1 hk with rfl|hk
        ·exact g1
        ·rw[cm.1 hk];exact f1
     ·rw[digD s hs q (by omega)];refine Ok.bind_some ?_;have:=zER (s.l.drop q);rw[ce] at this;refine Ok.ite_beq (λ_=>⟨_,rfl,PO.fail⟩) λ_=>⟨_,rfl,PO.mk' (BE.leaf ba0 bl0) (by omega) (by omega)⟩
end Go.LN
namespace Go.LN
theorem zCy{s:Str}{p:Nat}{u v:List UInt8}(hp:p<=s.l.length)(h:s.l.drop p=u++v):p+u.length+v.length=s.l.length:=by
 have:=congrArg List.length h;rw[ce,ca] at this;omega
theorem nK{s:Str}{p:Nat}{u v:List UInt8}(h:s.l.drop p=u++v):s.l.drop (p+u.length)=v:=by
 rw[<- cF,h,List.drop_left' rfl]
theorem zBr{s:Str}{p:Nat}{u v:List UInt8}(hp:p<=s.l.length)(h:s.l.drop p=u++v):sslc s (p:Int) ((p+u.length:Nat):Int)=some ⟨u⟩:=by
 have hl:=zCy hp h;unfold sslc slc;rw[if_pos ⟨by omega,by omega,by omega⟩,cP,cP];show some (Str.mk ((s.l.take (p+u.length)).drop p))=_;rw[<- List.take_drop,h,List.take_left' rfl]
theorem mO{s:Str}{p:Nat}{c:UInt8}{t:List UInt8}(h:s.l.drop p=c::t):sidx s (p:Int)=some c/\p<s.l.length:=by
 have av:p<s.l.length:=by
  have:=congrArg List.length h;rw[ce,bY] at this;omega
 refine⟨?_,av⟩;have hx:sidx s (p:Int)=some s.l[p]:=by unfold sidx;exact tX av
 rw[hx];rw[cf av] at h;rw[(List.cons.inj h).1]
theorem zDp{s:Str}(hs:s.l.length<=1000000){p:Nat}{c:UInt8}{u v:List UInt8}(hp:p<=s.l.length)(h:s.l.drop p=u++c::v)(hc:c ∉ u):vX s (p:Int) c=some ((p+u.length:Nat):Int):=by
 have hl:=zCy hp h;rw[bY] at hl;rw[zBq s c hs p hp,h,zEo hc,if_pos (by omega)]
theorem zEp{s:Str}(hs:s.l.length<=1000000){p:Nat}{a:zE}{d:Int}{rest:List UInt8}(hp:p<=s.l.length)(ha:accB a d=true)(h:s.l.drop p=acT a++rest):xD s (p:Int)=some (a,((p+(acT a).length:Nat):Int)):=by
 obtain⟨⟨c,e1,g1,g2⟩,v1,v2⟩:=qT ha;obtain⟨n,b⟩:=a;simp only at e1 v1 v2;subst e1;have eT:acT ⟨⟨[c]⟩,b⟩++rest=(c::91::sdT b)++93::rest:=by simp[acT]
 have eL:(acT ⟨⟨[c]⟩,b⟩).length=(sdT b).length+3:=by simp[acT]
 rw[eT] at h;rw[eL];have hl:=zCy hp h;simp only[bY] at hl;have hnot:(93:UInt8) ∉ c::91::sdT b:=λhm=>by
  rcases cg.1 hm with e|hm
  ·rw[<- e] at g2;revert g2;decide
  ·rcases cg.1 hm with e|hm
   ·revert e;decide
   ·exact oV v1 rfl (by decide) hm
 have hU:=zDp hs hp h hnot;have h1:s.l.drop (p+1)=91::(sdT b++93::rest):=nK (u:=[c]) (v:=91::(sdT b++93::rest)) (by rw[h];rfl);have h2:s.l.drop (p+2)=sdT b++93::rest:=nK (u:=[c,91]) (v:=sdT b++93::rest) (by rw[h];rfl);have hs1:sslc s (p:Int) ((p+1:Nat):Int)=some ⟨[c]⟩:=zBr (u:=[c]) (v:=91::(sdT b++93::rest)) hp (by rw[h];rfl);have aj:=zBr (by omega) h2;obtain⟨l,k1,_,k2⟩:=specSideP ⟨sdT b⟩ (by show (sdT b).length<=_;omega);have bS:=k2 b v1 v2 rfl;subst bS;have hy:p+(c::91::sdT l).length=p+2+(sdT l).length:=by simp only[bY];omega
 rw[hy] at hU;have z1:¬(((p+2+(sdT l).length:Nat):Int)<((p+2:Nat):Int)):=by omega
 unfold xD;rw[hU];simp only[Option.bind_eq_bind,Option.bind_some];have w2:W ((p:Int)+2)=((p+2:Nat):Int):=by rw[vM (by omega) (by omega)];omega
 have w1:W ((p:Int)+1)=((p+1:Nat):Int):=qI (by omega);have wy:W (((p+2+(sdT l).length:Nat):Int)+1)=((p+((sdT l).length+3):Nat):Int):=by rw[qI (by omega)];congr 1;omega
 have z2:(((91:UInt8).toNat:Int) != 91)=false:=rfl;rw[w2,w1,(mO h1).1];simp only[z1,decide_false,bV,if_false,Option.bind_some,Option.pure_def,z2,hs1,aj,k1,wy]
theorem zCz:∀(n:Nat) (u r:List UInt8),u.all isDig=true->noDig r->u.length<=n->run (u++r) n=u.length
 | 0,[],r,_,_,_=>by show run r 0=0;cases r <;> rfl
 | 0,_::_,_,_,_,h=>absurd h (by simp)
 | n+1,[],r,_,hr,_=>by
  rcases hr with rfl|⟨b,t,rfl,hb⟩
  ·rfl
  ·show run (b::t) (n+1)=0
   have hb:isDg b=false:=hb
   simp[run,hb]
 | n+1,c::u,r,hu,hr,hl=>by
  rw[cG,bW] at hu
  simp only[bY] at hl ⊢
  have hc:isDg c=true:=hu.1
  have ih:=zCz n u r hu.2 hr (by omega)
  show run (c::(u++r)) (n+1)=_
  simp only[run,hc,if_true,ih]
  omega
theorem zHB{k:Nat}(hk:k<=99){r:List UInt8}(hr:noDig r):dgt (dtx k++r)=((k:Int),(dtx k).length):=by
 have h0:dgt (dtx k)=((k:Int),(dtx k).length):=(dtxU ⟨k,by omega⟩).1;have hd:=(dQ ⟨k,by omega⟩).1;have hl:=(rQ k).2;have r1:=zCz 2 (dtx k) r hd hr hl;have r2:=zCz 2 (dtx k) [] hd (.inl rfl) hl;rw[cr] at r2;rw[<- h0];unfold dgt;rw[r1,r2,List.take_left' rfl,cV]
theorem zGS{s:Str}(hs:s.l.length<=1000000){d:Int}:∀(n:Nat) (e:zB) (p:Nat) (rest:List UInt8),n<=5->p<=s.l.length->shapeB d n e=true->noDig rest->s.l.drop p=exT n e++rest ->
 xA s (p:Int) (n:Int)=some (e,((p+(exT n e).length:Nat):Int)):=by
 intro n
 induction n with
 | zero=>intro e p rest _ _ h;cases h
 | succ n ih=>
  intro e p rest hn hp h hr hd
  have q1:¬(((n+1:Nat):Int)<1):=by omega
  have q2:¬((p:Int)<0):=by omega
  have aE:=zCy hp hd
  cases mN h with
  | num k hk=>
   rw[gR] at hd aE ⊢
   obtain⟨c,t,e,hc⟩:=zBm hk
   obtain⟨hx,av⟩:=mO (c:=c) (t:=t++rest) (by rw[hd,e];rfl)
   have q3:¬((p:Int)>=(s.l.length:Int)):=by omega
   unfold isDig at hc
   simp only[bW,decide_eq_true_eq] at hc
   have z1:((c.toNat:Int)==123)=false:=by rw[beq_eq_false_iff_ne];omega
   have z2:¬((c.toNat:Int)>=65):=by omega
   have z3:((c.toNat:Int)==40)=false:=by rw[beq_eq_false_iff_ne];omega
   have hD:=digD s hs p hp
   rw[hd,zHB hk hr] at hD
   have z4:(((p+(dtx k).length:Nat):Int)==(p:Int))=false:=by
    have:=(rQ k).1
    rw[beq_eq_false_iff_ne];omega
   rw[xA]
   simp only[q1,q2,q3,decide_false,bV,if_false,Option.pure_def,Option.bind_eq_bind,Option.bind_some,hx,z1,z2,z3,hD,z4]
  | ix a ha=>
   unfold okA at ha
   rw[bW] at ha
   have ha:=ha.1
   rw[zAb] at hd aE ⊢
   have hT:=mV ha
   have hd1:s.l.drop p=(123::tx a)++125::rest:=by rw[hd];simp
   obtain⟨hx,av⟩:=mO (c:=123) (t:=tx a++125::rest) (by rw[hd1];rfl)
   have q3:¬((p:Int)>=(s.l.length:Int)):=by omega
   have hU:=zDp hs hp hd1 (λhm=>by
    rcases cg.1 hm with e|hm
    ·revert e;decide
    ·exact zA4 ha rfl hm)
   have hd2:s.l.drop (p+1)=tx a++125::rest:=nK (u:=[123]) (v:=tx a++125::rest) (by rw[hd1];rfl)
   have aj:=zBr (by omega) hd2
   obtain⟨⟨r1,r2⟩,hP,hres⟩:=specParse ⟨tx a⟩ (by show (tx a).length<=_;omega)
   have hr1:r1=a:=ResA.of_tx ha hres
   subst hr1
   have hy:p+(123::tx r1).length=p+1+(tx r1).length:=by simp only[bY];omega
   rw[hy] at hU
   have z0:¬(((p+1+(tx r1).length:Nat):Int)<0):=by omega
   have w1:W ((p:Int)+1)=((p+1:Nat):Int):=qI (by omega)
   have wy:W (((p+1+(tx r1).length:Nat):Int)+1)=((p+(123::(tx r1++[125])).length:Nat):Int):=by
    rw[qI (by omega)];congr 1;simp only[bY,ca,co];omega
   have z1:(((123:UInt8).toNat:Int)==123)=true:=rfl
   rw[xA,hx,<- wy]
   simp only[q1,q2,q3,decide_false,bV,if_false,Option.pure_def,Option.bind_eq_bind,Option.bind_some]
   rw[if_pos z1,hU]
   simp only[z0,decide_false,bV,if_false,Option.bind_some,w1,aj,hP]
  | rd a ha=>
   rw[zAc] at hd aE ⊢
   obtain⟨c,t,e,g1,g2⟩:=zGI ha
   obtain⟨hx,av⟩:=mO (c:=c) (t:=t++rest) (by rw[hd,e];rfl)
   have q3:¬((p:Int)>=(s.l.length:Int)):=by omega
   have z1:((c.toNat:Int)==123)=false:=by rw[beq_eq_false_iff_ne];omega
   have z2:((c.toNat:Int)>=65):=by omega
   have z3:((c.toNat:Int)<=68):=by omega
   have hA:=zEp hs hp ha hd
   rw[xA]
   simp only[q1,q2,q3,decide_false,bV,if_false,Option.pure_def,Option.bind_eq_bind,Option.bind_some,hx,z1,z2,z3,decide_true,if_true,hA]
  | op k x y hk hx hy=>
   rw[zAd hk] at hd aE ⊢
   have hd0:s.l.drop p=40::(exT n x++opc k::(exT n y++41::rest)):=by rw[hd];simp
   obtain⟨hc0,av⟩:=mO hd0
   have q3:¬((p:Int)>=(s.l.length:Int)):=by omega
   have hd1:s.l.drop (p+1)=exT n x++opc k::(exT n y++41::rest):=nK (u:=[40]) (v:=exT n x++opc k::(exT n y++41::rest)) (by rw[hd0];rfl)
   have i1:=ih x (p+1) _ (by omega) (by omega) hx (.inr ⟨_,_,rfl,zCv⟩) hd1
   have hd2:=nK hd1
   obtain⟨aJ,hlt2⟩:=mO hd2
   have hd3:s.l.drop (p+1+(exT n x).length+1)=exT n y++41::rest:=nK (u:=[opc k]) (v:=exT n y++41::rest) (by rw[hd2];rfl)
   have i2:=ih y (p+1+(exT n x).length+1) _ (by omega) (by omega) hy (.inr ⟨_,_,rfl,rfl⟩) hd3
   have hd4:=nK hd3
   obtain⟨_,hlt4⟩:=mO hd4
   have hL:p+(40::(exT n x++opc k::(exT n y++[41]))).length=p+1+(exT n x).length+1+(exT n y).length+1:=by
    simp only[bY,ca,co];omega
   rw[hL]
   generalize p+1+(exT n x).length=A at *
   have w1:W ((p:Int)+1)=((p+1:Nat):Int):=qI (by omega)
   have wn:W (((n+1:Nat):Int) - 1)=(n:Int):=by rw[vM (by omega) (by omega)];omega
   have wA:W ((A:Int)+1)=((A+1:Nat):Int):=qI (by omega)
   generalize hB:A+1+(exT n y).length=B at *
   have wB:W ((B:Int)+1)=((B+1:Nat):Int):=qI (by omega)
   have z1:¬(((40:UInt8).toNat:Int)==123)=true:=by decide
   have z2:¬(((40:UInt8).toNat:Int)>=65):=by decide
   have z3:(((40:UInt8).toNat:Int)==40)=true:=rfl
   have nA:¬((A:Int)<0):=by omega
   have nA2:¬((A:Int)>=(s.l.length:Int)):=by omega
   have nB:¬((B:Int)<0):=by omega
   have nB2:¬((B:Int)>=(s.l.length:Int)):=by omega
   have hR:sA s ((p+1:Nat):Int) (n:Int)=some (.mk k 0 ⟨[],0⟩ ⟨⟨[]⟩,[]⟩ [x,y],((B+1:Nat):Int)):=by
    rw[sA]
    dsimp only [same]
    rw[i1]
    simp only[Option.bind_eq_bind,Option.bind_some,nA,nA2,decide_false,bV,if_false,Option.pure_def,aJ,wA,i2,nB,nB2,wB]
    rcases hk with rfl|rfl|rfl <;> rfl
   rw[xA,hc0]
   simp only[q1,q2,q3,decide_false,bV,if_false,Option.pure_def,Option.bind_eq_bind,Option.bind_some]
   rw[if_neg z1,decide_eq_false z2]
   simp only[bV,if_false,Option.bind_some]
   rw[if_pos z3,w1,wn]
   dsimp only [same]
   rw[hR];rfl
theorem zDA{s:zL}{d:Int}(h:stmtB s d=true):4<=(stT s).length:=by
 obtain⟨a1,a2⟩:=oK h;obtain⟨⟨c,e,_⟩,v1,_⟩:=qT a1;have:=zHt v1;have:1<=(sdT s.Write.Subs).length:=by
  cases hq:sdT s.Write.Subs with
  | nil=>exact absurd hq this
  | cons a b=>simp
 unfold stT acT;rw[e];simp only[ca,bY,co];omega
theorem zFS{s:zL}(h:stmtB s 4=true):uE ⟨stT s⟩=some (s,true):=by
 have hl:=zEV h;have hl4:=zDA h;obtain⟨a1,a2⟩:=oK h;have hT:stT s=acT s.Write++61::exT 5 s.Value:=rfl;have hs:(⟨stT s⟩:Str).l.length<=1000000:=by show (stT s).length<=_;omega
 have d0:(⟨stT s⟩:Str).l.drop 0=acT s.Write++61::exT 5 s.Value:=by rw[cI];exact hT
 have h1:=zEp hs (cN _) a1 d0;have d1:=nK d0;rw[cO] at h1 d1;have d2:(⟨stT s⟩:Str).l.drop ((acT s.Write).length+1)=exT 5 s.Value++[]:=by
  have:=nK (u:=[61]) (v:=exT 5 s.Value) (by rw[d1];rfl);rw[cr];exact this
 have av:=(mO d1).2;have h2:=zGS hs 5 s.Value ((acT s.Write).length+1) [] (cu _) (by omega) a2 (.inl rfl) d2;have h1:xD ⟨stT s⟩ 0=some (s.Write,(((acT s.Write).length:Nat):Int)):=h1;have h2:xA ⟨stT s⟩ (((acT s.Write).length+1:Nat):Int) 5=some (s.Value,_):=h2;have hL:(⟨stT s⟩:Str).l.length=(stT s).length:=rfl;have c1:¬(((⟨stT s⟩:Str).l.length:Int)<4):=by omega
 have c2:¬((((acT s.Write).length:Nat):Int)<0):=by omega
 have c3:¬((((acT s.Write).length:Nat):Int)>=((⟨stT s⟩:Str).l.length:Int)):=by omega
 have w1:W ((((acT s.Write).length:Nat):Int)+1)=(((acT s.Write).length+1:Nat):Int):=qI (by omega);have hss:(⟨s.Write,s.Value⟩:zL)=s:=rfl;unfold uE;simp only[c1,c2,c3,decide_false,bV,if_false,Option.bind_eq_bind,Option.bind_some,Option.pure_def,h1,w1,h2,hss,specFS s (zBA h),h,if_true,beq_self_eq_true,cJ]
theorem specParseS(t:Str)(hl:t.l.length<=100000):∃r,uE t=some r/\ResS t.l r:=by
 by_cases hex:∃s,stmtB s 4=true/\t.l=stT s
 ·obtain⟨s,h1,h2⟩:=hex;refine⟨(s,true),?_,.inl ⟨rfl,h1,h2⟩⟩;have:=zFS h1;rw[<- h2] at this;exact this
 have hno:∀s,stmtB s 4=true->t.l ≠ stT s:=λs h1 h2=>hex ⟨s,h1,h2⟩;refine⟨(stm0,false),?_,.inr ⟨rfl,rfl,hno⟩⟩;unfold uE;by_cases hc:(t.l.length:Int)<4
 ·rw[decide_eq_true hc];rfl
 obtain⟨⟨y1,y2⟩,h1,k1,k2,k3⟩:=zAe t (by omega) 0 (cN _);dsimp only at k1 k2 k3;have h1:xD t 0=some (y1,y2):=h1;simp only[hc,decide_false,bV,if_false,Option.bind_eq_bind,Option.bind_some,Option.pure_def,h1];by_cases c1:y2<0
 ·simp only[c1,decide_true,if_true,Option.bind_some];rfl
 by_cases c2:y2>=(t.l.length:Int)
 ·simp only[c1,c2,decide_true,decide_false,if_true,bV,if_false,Option.bind_some];rfl
 obtain⟨⟨y4,y5⟩,h5,k5,_,_⟩:=zFR t (by omega) 5 (by omega) (y2+1) (by omega) (by omega);have h5:xA t (y2+1) 5=some (y4,y5):=h5;have hBS:BS ⟨y1,y4⟩:=⟨k1,5,k5⟩;simp only[c1,c2,decide_false,bV,if_false,Option.bind_some,vM (x:=y2+1) (by omega) (by omega),h5,specFS _ hBS];cases hv:stmtB ⟨y1,y4⟩ 4 with
 | false=>
  have e1:(([]:List UInt8)==t.l)=false:=by
   rw[beq_eq_false_iff_ne];intro e;rw[<- e] at hc;exact hc (by decide)
  simp only[bV,if_false,e1,cB,if_true];rfl
 | true=>
  have e1:(stT ⟨y1,y4⟩==t.l)=false:=by
   rw[beq_eq_false_iff_ne];exact λe=>hno _ hv e.symm
  simp only[if_true,e1,cB];rfl
end Go.LN
namespace Go.LN
theorem drawStm(code:List UInt8):Ok (sB code) (λy=>BS y.1):=by
 unfold sB;refine Ok.call (zAa code) trivial λs hs=>Ok.call (mA s 4) ⟨by omega,by omega⟩ λy u k1 k2 k3=>Ok.call (zB7 u y) ⟨by omega,by omega,k1,by omega⟩ λa v g1 g2 g3=>?_;refine Ok.bind (mut3 100 (by omega) v a g1.qs (by omega) (by omega)) λq k=>?_;obtain⟨n,w⟩:=q;obtain⟨c1,c2,c3⟩:=k;dsimp only at c2 c3;refine Ok.call (qM w _) ⟨by decide,c2,by omega,by decide⟩ λy11 s2 _ _ _=>Ok.pure (c1.bs (by omega))
theorem drawFSt(code:List UInt8):Ok (tL code) BS:=by
 unfold tL;refine Ok.bind (drawStm code) λq hq=>?_;obtain⟨n,w⟩:=q;exact Ok.pure hq
theorem zGT{a:zE}{d:Int}(ha:accB a d=true){b:UInt8}(hb:b∈acT a):b.toNat<128:=by
 obtain⟨⟨c,e,_,g2⟩,v1,_⟩:=qT ha;unfold acT at hb;rw[e] at hb;simp only[cH,cg,List.mem_nil_iff,or_false] at hb;rcases hb with rfl|rfl|hb|rfl
 ·omega
 ·decide
 ·exact zHe v1.2 hb
 ·decide
theorem zEX{d:Int}:∀(n:Nat) (e:zB),shapeB d n e=true->∀b∈exT n e,b.toNat<128
 | 0,_,h=>by cases h
 | n+1,e,h=>by
  intro b hb
  cases mN h with
  | num k hk=>
   rw[gR] at hb
   exact dR (gX ⟨k,by omega⟩).2.2.2 hb
  | ix a ha=>
   unfold okA at ha
   rw[bW] at ha
   rw[zAb] at hb
   simp only[cH,cg,List.mem_nil_iff,or_false] at hb
   rcases hb with rfl|hb|rfl
   ·decide
   ·exact dR (zBe ha.1) hb
   ·decide
  | rd a ha=>rw[zAc] at hb;exact zGT ha hb
  | op k x y hk hx hy=>
   rw[zAd hk] at hb
   simp only[cH,cg,List.mem_nil_iff,or_false] at hb
   rcases hb with rfl|hb|rfl|hb|rfl
   ·decide
   ·exact zEX n x hx b hb
   ·rcases hk with rfl|rfl|rfl <;> decide
   ·exact zEX n y hy b hb
   ·decide
theorem zHg{s:zL}{d:Int}(h:stmtB s d=true):asc (stT s)=true:=zA6 λb hb=>by
 obtain⟨a1,a2⟩:=oK h;unfold stT at hb;rcases cH.1 hb with hb|hb
 ·exact zGT a1 hb
 ·rcases cg.1 hb with rfl|hb
  ·decide
  ·exact zEX 5 _ a2 b hb
theorem drawPSt(code:List UInt8):Ok (sC code) (λy=>asc y.l=true/\y.l.length<=20000):=by
 unfold sC;refine Ok.call (zAa code) trivial λs hs=>Ok.call (zB7 s 3) ⟨by omega,by omega,by omega,by omega⟩ λa v g1 g2 g3=>?_;dsimp only;rw[specFS a (g1.qs.bs (by omega))];refine Ok.bind_some ?_;have ht:asc (if stmtB a 4 then(⟨stT a⟩:Str) else⟨[]⟩).l=true/\(if stmtB a 4 then(⟨stT a⟩:Str) else⟨[]⟩).l.length<=5000:=by
  cases hb:stmtB a 4 with
  | true=>exact⟨zHg hb,by show (stT a).length<=_;have:=zEV hb;omega⟩
  | false=>exact⟨rfl,cN _⟩
 refine Ok.bind (zGK v _ _ (by decide) (by decide) (by omega) (by omega) ht.1 ht.2) λp hp=>?_;obtain⟨p1,p2⟩:=p;exact Ok.pure hp
theorem zA7{s:zL}(h:BS s):tH s s=some true:=by
 obtain⟨r,h1,h2⟩:=implStY s s h;rw[h1,h2.2 rfl]
theorem zHC(code more:List UInt8):∃r,qP code more=some r/\r=true:=by
 obtain⟨y,hd,hb⟩:=drawFSt code;obtain⟨t,ht,ha,hl⟩:=drawPSt more;refine⟨true,?_,rfl⟩;unfold qP;by_cases c1:(code.length:Int)>1048576
 ·rw[decide_eq_true c1];rfl
 by_cases c2:(more.length:Int)>1048576
 ·rw[decide_eq_false c1,decide_eq_true c2];rfl
 obtain⟨⟨a1,a2⟩,hA,hA2⟩:=implParseS t ha (by omega);obtain⟨⟨b1,b2⟩,hB,hB2⟩:=specParseS t (by omega);have hab:=hA2.uniq hB2;rw[Prod.mk.injEq] at hab;obtain⟨rfl,rfl⟩:=hab;have hlast:(do
  let y16<-tH a1 a1
  if y16 then
   if(!a2) then pure true
   else
    let y17<-tE a1
    pure (y17.l==t.l)
  else pure false:Option Bool)=some true:=by
  rcases hA2 with⟨e1,e2,e3⟩|⟨e1,e2,e3⟩
  ·simp only at e1 e2 e3;subst e1;have e4:(stT a1==t.l)=true:=by rw[e3];simp
   simp only[zA7 (zBA e2),implFS a1 (zBA e2),e2,e4,Option.bind_eq_bind,Option.bind_some,if_true,cJ,bV,if_false,Option.pure_def]
  ·simp only at e1 e2 e3;subst e1;subst e2;have:BS stm0:=⟨bl0,0,BE.leaf ba0 bl0⟩;simp only[zA7 this,Option.bind_eq_bind,Option.bind_some,if_true,cB,Option.pure_def]
 simp only[Option.bind_eq_bind,Option.pure_def] at hlast;simp only[decide_eq_false c1,decide_eq_false c2,bV,if_false,Option.pure_def,Option.bind_eq_bind,Option.bind_some,hd,implFS y hb,specFS y hb,beq_self_eq_true,cJ,ht,hA,hB,if_true,implStmt y 4 hb,id,hlast];cases hv:stmtB y 4 with
 | true=>
  have hne:(stT y==[])=false:=by
   rw[beq_eq_false_iff_ne];intro e;have:=zDA hv;rw[e] at this;exact absurd this (by decide)
  simp only[if_true,zC1 hv,Option.bind_some,hne,zA7 hb];rfl
 | false=>
  obtain⟨⟨r1,r2⟩,hr,hres⟩:=implParseS ⟨[]⟩ rfl (cN _);have hr2:r2=false:=by
   rcases hres with⟨e1,e2,e3⟩|⟨e1,_,_⟩
   ·have:=zDA e2;have e3:[]=stT r1:=e3;rw[<- e3] at this;exact absurd this (by decide)
   ·exact e1
  subst hr2;simp only[bV,if_false,hr,Option.bind_some];rfl
end Go.LN
