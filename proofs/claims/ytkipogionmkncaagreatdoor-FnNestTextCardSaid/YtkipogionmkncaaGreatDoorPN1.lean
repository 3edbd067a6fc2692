/- Helper of the proof (see the last text). -/
import Derived.Test.YtkipogionmkncaaGreatDoorVB1
import Derived.Lib.SplitLaws
set_option linter.unusedVariables false
set_option linter.unusedSimpArgs false
namespace Go.LN
open Lib (itoa decDigits)
def pre(p:List UInt8):List (List UInt8)->List (List UInt8)
 | []=>[p]
 | h::t=>(p++h)::t
def cutS(c:UInt8):List UInt8->List (List UInt8)
 | []=>[[]]
 | b::l=>if b=c then[]::cutS c l else pre [b] (cutS c l)
theorem zE7(p q:List UInt8)(X:List (List UInt8)):pre p (pre q X)=pre (p++q) X:=by
 cases X <;> simp[pre]
theorem zFD(p:List UInt8)(X:List (List UInt8)):pre p X ≠ []:=by
 cases X <;> simp[pre]
theorem oK(c:UInt8):∀l,cutS c l ≠ []
 | []=>by simp[cutS]
 | b::l=>by
  unfold cutS
  split
  ·simp
  ·exact zFD _ _
theorem zCf{X:List (List UInt8)}(h:X ≠ []):pre [] X=X:=by
 cases X with
 | nil=>exact absurd rfl h
 | cons=>simp[pre]
theorem zE8(p:List UInt8)(X:List (List UInt8))(h:X ≠ []):(pre p X).length=X.length:=by
 cases X with
 | nil=>exact absurd rfl h
 | cons=>simp[pre]
theorem dD(c:UInt8):∀l,(cutS c l).length<=l.length+1
 | []=>by simp[cutS]
 | b::l=>by
  have:=dD c l
  unfold cutS
  split
  ·simp;omega
  ·rw[zE8 _ _ (oK c l)];simp;omega
theorem zAM{α:Type}(s:List α){f i:Nat}(hf:f<=i)(hi:i<s.length):(s.take (i+1)).drop f=(s.take i).drop f++[s[i]]:=by
 rw[cU,bW hi,List.drop_append_of_le_length (by rw[ci];omega)];rfl
theorem zFE(s:Str)(c:UInt8)(hs:s.l.length<=1048576):∀j i f (ak:List Str),i+j=s.l.length->f<=i->ak.length<=i ->
 xP s c ak (f:Int) (i:Int)=some (ak++(pre ((s.l.take i).drop f) (cutS c (s.l.drop i))).map Str.mk):=by
 intro j
 induction j with
 | zero=>
  intro i f ak hi hf ho
  rw[xP]
  have h1:((i:Int)<=(s.l.length:Int)):=by omega
  have h2:((i:Int)==(s.l.length:Int))=true:=by simp;omega
  simp only[h1,h2,decide_true,if_true,Option.pure_def,Option.bind_eq_bind,Option.bind_some,qJ hf (by omega:i<=s.l.length)]
  rw[qR (by simp;omega)]
  simp only[Option.bind_some]
  rw[rD (by omega),xP]
  have h3:¬(((i+1:Nat):Int)<=(s.l.length:Int)):=by omega
  simp only[h3,decide_false,bV,if_false]
  rw[show s.l.drop i=[] from ck.2 (by omega)]
  simp[cutS,pre]
 | succ j ih=>
  intro i f ak hi hf ho
  rw[xP]
  have av:i<s.l.length:=by omega
  have h1:((i:Int)<=(s.l.length:Int)):=by omega
  have h2:((i:Int)==(s.l.length:Int))=false:=by simp;omega
  simp only[h1,h2,decide_true,if_true,bV,if_false,sidx,rH,bW av,Option.pure_def,Option.bind_eq_bind,Option.bind_some,zAe]
  rw[cm av]
  by_cases hc:s.l[i]=c
  ·simp only[hc,decide_true,if_true,qJ hf (by omega:i<=s.l.length),Option.bind_some]
   rw[qR (by simp;omega)]
   simp only[Option.bind_some]
   rw[rD (by omega),ih (i+1) (i+1) _ (by omega) (by omega) (by simp;omega)]
   rw[ck.2 (show (s.l.take (i+1)).length<=i+1 by rw[ci];omega),zCf (oK _ _)]
   simp[cutS,pre]
  ·simp only[hc,decide_false,bV,if_false,Option.bind_some]
   rw[rD (by omega),ih (i+1) f ak (by omega) (by omega) (by omega)]
   rw[zAM _ hf av]
   conv=>rhs;unfold cutS
   rw[if_neg hc,zE7]
theorem fZ(s:Str)(c:UInt8)(hs:s.l.length<=1048576):uM s c=some ((cutS c s.l).map Str.mk):=by
 unfold uM;have:=zFE s c hs s.l.length 0 0 [] (by omega) (by omega) (by simp);simp only[cK] at this;rw[this];simp[zCf (oK _ _)]
theorem zBj(c:UInt8):∀s:List UInt8,Lib.split s [c]=cutS c s
 | []=>by rw[Lib.split,Lib.count_miss (by simp[Lib.index])];rfl
 | b::l=>by
  have ih:=zBj c l
  unfold Lib.split at ih ⊢
  unfold cutS
  by_cases h:b=c
  ·subst h
   rw[if_pos rfl,Lib.count_cons_eq,<- ih,Nat.add_comm 1]
   have hix:Lib.index (b::l) [b]=0:=by rw[Lib.index];simp[List.isPrefixOf]
   rw[Lib.splitK,hix]
   simp
  ·rw[if_neg h,Lib.count_cons_ne b c l h,<- ih]
   have hp:([c]:List UInt8).isPrefixOf (b::l)=false:=by simp[List.isPrefixOf,Ne.symm h]
   have hix:Lib.index (b::l) [c]=if Lib.index l [c] == -1 then -1 else Lib.index l [c]+1:=by rw[Lib.index,hp];simp
   cases Lib.count l [c] with
   | zero=>rfl
   | succ k=>
    rw[Lib.splitK,Lib.splitK,hix]
    by_cases hm:Lib.index l [c]=-1
    ·simp[hm,pre]
    ·have hge:=Lib.index_ge l [c]
     obtain⟨j,hj⟩:∃j:Nat,Lib.index l [c]=j:=⟨(Lib.index l [c]).toNat,by omega⟩
     have e1:¬(Lib.index l [c] == -1)=true:=by simp[hm]
     rw[if_neg e1,if_neg e1,hj]
     have e2:¬(((j:Int)+1 == -1)=true):=by simp;omega
     rw[if_neg e2]
     have e3:((j:Int)+1).toNat=j+1:=by omega
     simp[pre,e3]
theorem zAN(s:Str)(c:UInt8)(hs:s.l.length<=1048576):uX s ⟨[c]⟩=some ((cutS c s.l).map Str.mk):=by
 unfold uX splitM;rw[if_pos ⟨by omega,by simp⟩,zBj]
theorem zAO{c:UInt8}:∀{w:List UInt8},c ∉ w->cutS c w=[w]
 | [],_=>rfl
 | b::w,h=>by
  rw[cutS,if_neg (λe=>h (by rw[e];exact bZ ..)),zAO (λe=>h (bY _ e))]
  rfl
theorem gT{c:UInt8}{r:List UInt8}:∀{w:List UInt8},c ∉ w->cutS c (w++c::r)=w::cutS c r
 | [],_=>by simp[cutS]
 | b::w,h=>by
  rw[cO,cutS,if_neg (λe=>h (by rw[e];exact bZ ..)),gT (λe=>h (bY _ e))]
  rfl
def joinS(c:UInt8):List (List UInt8)->List UInt8
 | []=>[]
 | [x]=>x
 | x::y::t=>x++c::joinS c (y::t)
theorem zDw(c:UInt8)(p:List UInt8):∀X,X ≠ []->joinS c (pre p X)=p++joinS c X
 | [],h=>absurd rfl h
 | [x],_=>rfl
 | x::y::t,_=>by simp[pre,joinS]
theorem gU(c:UInt8):∀s,joinS c (cutS c s)=s
 | []=>rfl
 | b::l=>by
  have ih:=gU c l
  unfold cutS
  split
  ·rename_i h
   subst h
   cases hx:cutS b l with
   | nil=>exact absurd hx (oK _ _)
   | cons x t=>rw[hx] at ih;simp[joinS,ih]
  ·rw[zDw _ _ _ (oK _ _),ih];rfl
theorem nU{c:UInt8}:∀{s x},x∈cutS c s->x.length<=s.length
 | [],x,h=>by simp[cutS] at h;simp[h]
 | b::l,x,h=>by
  have ih:∀y∈cutS c l,y.length<=l.length:=λy hy=>nU hy
  unfold cutS at h
  split at h
  ·rcases cr.1 h with rfl|h
   ·simp
   ·have:=ih _ h;simp;omega
  ·cases hx:cutS c l with
   | nil=>exact absurd hx (oK _ _)
   | cons y t=>
    rw[hx] at h ih
    rcases cr.1 h with rfl|h
    ·have:=ih y (bZ ..);simp;omega
    ·have:=ih x (bY _ h);simp;omega
def full(X:List (List UInt8)):List (List UInt8):=X.filter λx=>!(x==[])
theorem zDx(y:List Str)(hy:y.length<=1048577):∀j i (ak:List Str),i+j=y.length->ak.length<=i ->
 xJ y ak (i:Int)=some (ak++(y.drop i).filter λx=>!(x.l==[])):=by
 intro j
 induction j with
 | zero=>
  intro i ak hi ho
  rw[xJ]
  have:¬((i:Int)<(y.length:Int)):=by omega
  simp only[this,decide_false,bV,if_false]
  rw[ck.2 (by omega)]
  simp
 | succ j ih=>
  intro i ak hi ho
  rw[xJ]
  have av:i<y.length:=by omega
  have h1:((i:Int)<(y.length:Int)):=by omega
  simp only[h1,decide_true,if_true,rH,bW av,Option.pure_def,Option.bind_eq_bind,Option.bind_some]
  rw[cm av,List.filter_cons]
  cases he:y[i].l==[] with
  | true=>
   simp only[cP,bV,if_false,Option.bind_some,id]
   rw[rD (by omega),ih (i+1) _ (by omega) (by omega)]
  | false=>
   simp only[cJ,if_true]
   rw[qR (by simp;omega)]
   simp only[Option.bind_some,id]
   rw[rD (by omega),ih (i+1) _ (by omega) (by simp;omega)]
   simp
theorem zDF(X:List (List UInt8)):(X.map Str.mk).filter (λx=>!(x.l==[]))=(full X).map Str.mk:=by
 unfold full;rw[List.filter_map];rfl
theorem zBk(s:Str)(hs:s.l.length<=1048576):uY s=some ((full (cutS 32 s.l)).map Str.mk):=by
 unfold uY;rw[fZ s 32 hs];have hl:=dD 32 s.l;have:=zDx ((cutS 32 s.l).map Str.mk) (by rw[ce];omega) _ 0 [] (cS _) (by simp);simp only[cK] at this;simp only[Option.bind_eq_bind,Option.bind_some,this,id];simp only[cN,cx,zDF,Option.pure_def]
end Go.LN
namespace Go.LN
def afc(b:UInt8):Bool:=b==42||b==43||b==45||(decide (48<=b.toNat)&&decide (b.toNat<=57))||(decide (105<=b.toNat)&&decide (b.toNat<=108))
theorem zDG:∀(k:Fin 10) (i:Fin 4),(bodyV k.val i.val).all afc=true:=by decide +kernel
theorem zE9:∀k:Fin 100,(dtx k.val).all afc=true:=by decide +kernel
theorem zCg(c:Int):afc (sgn c)=true:=by unfold sgn;split <;> rfl
theorem zDy:∀(cs:List Int) (i:Nat),(∀c∈cs,coefB c=true)->i+cs.length<=4->(T0 cs i).all afc=true
 | [],_,_,_=>rfl
 | c::cs,i,h,hi=>by
  have h1:=h c (bZ ..)
  simp only[coefB,bX,decide_eq_true_eq] at h1
  simp only[cg] at hi
  have ih:=zDy cs (i+1) (λx hx=>h x (bY _ hx)) (by omega)
  unfold T0
  by_cases h0:c=0
  ·simpa [h0] using ih
  ·have hb:=zDG ⟨c.natAbs,by omega⟩ ⟨i,by omega⟩
   simp only[h0,if_false,ec,cX]
   simp only at hb
   rw[zCg,hb,ih];rfl
theorem zFF(k:Int)(h:constB k=true):(TK k).all afc=true:=by
 simp only[constB,bX,decide_eq_true_eq] at h;unfold TK;split
 ·rfl
 ·have hb:=zE9 ⟨k.natAbs,by omega⟩;simp only[cX];simp only at hb;rw[zCg,hb];rfl
theorem zDH{l:List UInt8}(h:l.all afc=true):(strip l).all afc=true:=by
 unfold strip;split
 ·rfl
 ·rw[cX,bX] at h;split
  ·exact h.2
  ·rw[cX,h.1,h.2];rfl
theorem zFG{a:zA}(ha:validB a=true):(tx a).all afc=true:=by
 simp only[validB,bX,decide_eq_true_eq] at ha;obtain⟨⟨h4,hk⟩,hall⟩:=ha;unfold tx;split
 ·rfl
 ·refine zDH ?_;unfold raw;rw[ec,zDy _ 0 (λc hc=>cb.1 hall c hc) (by omega),zFF _ hk];rfl
theorem zDz{a:zA}(ha:validB a=true){c:UInt8}(hc:afc c=false):c ∉ tx a:=λh=>by
 have:=cb.1 (zFG ha) c h;rw[hc] at this;cases this
theorem zAP{c b:UInt8}:∀{X:List (List UInt8)},b∈joinS c X->b=c∨∃x∈X,b∈x
 | [],h=>by simp[joinS] at h
 | [x],h=>.inr ⟨x,bZ ..,h⟩
 | x::y::t,h=>by
  rcases cC.1 h with h|h
  ·exact .inr ⟨x,bZ ..,h⟩
  ·rcases cr.1 h with h|h
   ·exact .inl h
   ·rcases zAP h with h|⟨z,hz,h⟩
    ·exact .inl h
    ·exact .inr ⟨z,bY _ hz,h⟩
theorem zBl{c:UInt8}:∀{X:List (List UInt8)},X ≠ []->(∀x∈X,c ∉ x)->cutS c (joinS c X)=X
 | [],h,_=>absurd rfl h
 | [x],_,h=>zAO (h x (bZ ..))
 | x::y::t,_,h=>by
  rw[joinS,gT (h x (bZ ..)),zBl (by simp) λz hz=>h z (bY _ hz)]
def sdT(l:List zA):List UInt8:=joinS 44 (l.map tx)
def allV(l:List zA):Prop:=l ≠ []/\∀a∈l,validB a=true
theorem zBm{l:List zA}{d:Int}(h:sideB l d=true):allV l/\l.length<=2:=by
 unfold sideB at h;simp only[bX,decide_eq_true_eq,cb] at h;obtain⟨⟨h1,h2⟩,h3⟩:=h;refine⟨⟨λe=>by rw[e] at h1;simp at h1,λa ha=>?_⟩,h2⟩;have:=h3 a ha;unfold okA at this;exact(bX _ _ ▸ this).1
theorem kD{l:List zA}(h:allV l):cutS 44 (sdT l)=l.map tx:=by
 refine zBl (λe=>h.1 (List.map_eq_nil_iff.1 e)) λx hx=>?_;obtain⟨a,ha,rfl⟩:=ds.1 hx;exact zDz (h.2 a ha) rfl
theorem gV{l:List zA}(h:allV l){c:UInt8}(hc:afc c=false)(h44:c ≠ 44):c ∉ sdT l:=λhm=>by
 rcases zAP hm with e|⟨x,hx,hm⟩
 ·exact h44 e
 ·obtain⟨a,ha,rfl⟩:=ds.1 hx;exact zDz (h.2 a ha) hc hm
theorem zAQ:∀{l k:List zA},(∀a∈l,validB a=true)->(∀a∈k,validB a=true)->l.map tx=k.map tx->l=k
 | [],[],_,_,_=>rfl
 | [],_::_,_,_,h=>by cases h
 | _::_,[],_,_,h=>by cases h
 | a::l,b::k,h1,h2,h=>by
  rw[cW,cW,List.cons.injEq] at h
  rw[zDv (h1 a (bZ ..)) (h2 b (bZ ..)) h.1,zAQ (λx hx=>h1 x (bY _ hx)) (λx hx=>h2 x (bY _ hx)) h.2]
theorem zBn{l k:List zA}(h1:allV l)(h2:allV k)(h:sdT l=sdT k):l=k:=
 zAQ h1.2 h2.2 (by rw[<- kD h1,<- kD h2,h])
def lpT(l:zB):List UInt8:=[102,111,114]++32::(sdT l.Lo++32::sdT l.Hi)
def ntT(n:List zB):List UInt8:=n.flatMap λl=>lpT l++[10]
def LV(l:zB):Prop:=allV l.Lo/\allV l.Hi
theorem nE{l:zB}(h:LV l):cutS 32 (lpT l)=[[102,111,114],sdT l.Lo,sdT l.Hi]:=by
 unfold lpT;rw[gT (by decide),gT (gV h.1 rfl (by decide)),zAO (gV h.2 rfl (by decide))]
theorem zEA{l:zB}(h:LV l):(10:UInt8) ∉ lpT l:=λhm=>by
 unfold lpT at hm;simp only[cC,cr,List.mem_nil_iff,or_false] at hm;rcases hm with(hm|hm|hm)|hm|hm|hm|hm
 ·revert hm;decide
 ·revert hm;decide
 ·revert hm;decide
 ·revert hm;decide
 ·exact gV h.1 rfl (by decide) hm
 ·revert hm;decide
 ·exact gV h.2 rfl (by decide) hm
theorem zEB{l k:zB}(h1:LV l)(h2:LV k)(h:lpT l=lpT k):l=k:=by
 have e:=nE h1;rw[h,nE h2] at e;simp only[List.cons.injEq,and_true,true_and] at e;obtain⟨a,b⟩:=l;obtain⟨c,d⟩:=k;rw[show a=c from zBn h1.1 h2.1 e.1.symm,show b=d from zBn h1.2 h2.2 e.2.symm]
theorem gW{r:List UInt8}:∀{n:List zB},(∀l∈n,LV l)->cutS 10 (ntT n++r)=n.map lpT++cutS 10 r
 | [],_=>rfl
 | l::n,h=>by
  have e:ntT (l::n)++r=lpT l++10::(ntT n++r):=by simp[ntT]
  rw[e,gT (zEA (h l (bZ ..))),gW λx hx=>h x (bY _ hx)];rfl
theorem oC{n:List zB}(h:nestB n=true):n.length<=4/\∀l∈n,LV l/\l.Lo.length<=2/\l.Hi.length<=2:=by
 unfold nestB at h;simp only[bX,decide_eq_true_eq,cb,cA] at h;refine⟨h.1,λl hl=>?_⟩;obtain⟨i,hi,rfl⟩:=List.mem_iff_getElem.1 hl;have:=h.2 i hi;rw[cH,bW hi,Option.getD_some] at this;obtain⟨h1,h2⟩:=zBm this.1;obtain⟨h3,h4⟩:=zBm this.2;exact⟨⟨h1,h3⟩,h2,h4⟩
theorem jO:∀{l k:List zB},(∀a∈l,LV a)->(∀a∈k,LV a)->l.map lpT=k.map lpT->l=k
 | [],[],_,_,_=>rfl
 | [],_::_,_,_,h=>by cases h
 | _::_,[],_,_,h=>by cases h
 | a::l,b::k,h1,h2,h=>by
  rw[cW,cW,List.cons.injEq] at h
  rw[zEB (h1 a (bZ ..)) (h2 b (bZ ..)) h.1,jO (λx hx=>h1 x (bY _ hx)) (λx hx=>h2 x (bY _ hx)) h.2]
theorem zBo{n m:List zB}(h1:∀l∈n,LV l)(h2:∀l∈m,LV l)(h:ntT n=ntT m):n=m:=by
 have e1:=gW (r:=[]) h1;have e2:=gW (r:=[]) h2;rw[h,e2] at e1;exact jO h1 h2 (List.append_cancel_right e1).symm
end Go.LN
namespace Go.LN
end Go.LN
namespace Go.LN
def Sy(x:Option Bool)(p:Prop):Prop:=∃r:Bool,x=some r/\(r=true↔p)
theorem Sy.and{x y:Option Bool}{p q:Prop}(h:Sy x p)(k:Sy y q):Sy (x.bind λa=>if a=true then y else some false) (p/\q):=by
 obtain⟨r,rfl,hr⟩:=h;obtain⟨s,rfl,hs⟩:=k;cases r with
 | true=>exact⟨s,rfl,by rw[hs];exact⟨λh=>⟨hr.1 rfl,h⟩,λh=>h.2⟩⟩
 | false=>exact⟨false,rfl,⟨λh=>(by cases h),λh=>absurd (hr.2 h.1) (by decide)⟩⟩
theorem leq{α:Type}{a b:List α}(h:a.length=b.length):((a.length:Int) != (b.length:Int))=false:=by simp[h]
end Go.LN
namespace Go.LN
end Go.LN
namespace Go.LN
theorem zBp(c:UInt8):∀X:List (List UInt8),Lib.join X [c]=joinS c X
 | []=>rfl
 | [x]=>Lib.join_one x [c]
 | x::y::t=>by
  have:=zBp c (y::t)
  rw[joinS,<- this]
  simp[Lib.join,List.intercalate]
theorem zBq(c:UInt8):∀(X:List (List UInt8)) (n:Nat),(∀x∈X,x.length<=n)->(joinS c X).length<=(n+1)*X.length
 | [],n,h=>eg _
 | [x],n,h=>by
  have:=h x (bZ ..)
  show x.length<=(n+1)*1
  omega
 | x::y::t,n,h=>by
  have h1:=h x (bZ ..)
  have ih:=zBq c (y::t) n λz hz=>h z (bY _ hz)
  rw[show (x::y::t).length=(y::t).length+1 from rfl,Nat.mul_succ,joinS,lA,cg]
  omega
theorem kE{l:List zA}(h:∀a∈l,validB a=true):(sdT l).length<=24*l.length:=by
 have:=zBq 44 (l.map tx) 23 λx hx=>by
  obtain⟨a,ha,rfl⟩:=ds.1 hx;exact fY (h a ha)
 rw[lM] at this;exact this
theorem zAl{α:Type}{l:List α}{f:Str->Int->Option Str}{g:α->List UInt8}{C B:Nat}
 (step:∀(i:Nat) (h:i<l.length) (o:Str),o.l.length<=C+B*i->(g l[i]).length<=B/\f o (i:Int)=f ⟨o.l++g l[i]⟩ ((i+1:Nat):Int))
 (fin:∀o,f o (l.length:Int)=some o) (o:Str) (ho:o.l.length<=C):f o 0=some ⟨o.l++l.flatMap g⟩/\(l.flatMap g).length<=B*l.length:=by
 have key:∀(j i:Nat) (o:Str),i+j=l.length->o.l.length<=C+B*i->f o (i:Int)=some ⟨o.l++(l.drop i).flatMap g⟩/\((l.drop i).flatMap g).length<=B*j:=by
  intro j
  induction j with
  | zero=>
   intro i o hi ho
   rw[show i=l.length by omega,fin,dN.2 (cw _)]
   simp
  | succ j ih=>
   intro i o hi ho
   have av:i<l.length:=by omega
   obtain⟨h1,h2⟩:=step i av o ho
   obtain⟨k1,k2⟩:=ih (i+1) ⟨o.l++g l[i]⟩ (by omega) (by rw[Nat.mul_succ];simp only[lA];omega)
   rw[h2,k1,gC av,cd,lA,Nat.mul_succ]
   exact⟨by simp,by omega⟩
 have:=key l.length 0 o (cS _) (by omega)
 rwa[nZ,cN] at this
theorem implAT(l:List zA)(h:∀a∈l,validB a=true)(hl:l.length<=100):uH l=some ⟨sdT l⟩:=by
 unfold uH;have key:∀(j i:Nat) (o:List Str),i+j=l.length->o=(l.take i).map (λa=>(⟨tx a⟩:Str))->wC l o (i:Int)=some (l.map λa=>(⟨tx a⟩:Str)):=by
  intro j
  induction j with
  | zero=>
   intro i o hi ho;rw[wC];have:¬((i:Int)<(l.length:Int)):=by omega
   simp only[this,dF,bF,if_false,ho];rw[cv (by omega)];rfl
  | succ j ih=>
   intro i o hi ho;rw[wC];have av:i<l.length:=by omega
   have hc:((i:Int)<(l.length:Int)):=by omega
   have ho':o.length=i:=by rw[ho,lM,ci];omega
   simp only[hc,dT,if_true,wW av,oB,oS,zAi _ (h _ (gM av)),qR (show (o.length+[(⟨tx l[i]⟩:Str)].length)*16<=140737488355328 by simp;omega)];rw[rW (by omega)];exact ih (i+1) _ (by omega) (by rw[ho,cU,bW av,du];rfl)
 have h1:=key _ 0 [] (cS _) (by simp);rw[nZ] at h1;rw[h1];simp only[oB,oS];have e:(l.map λa=>(⟨tx a⟩:Str)).map (·.l)=l.map tx:=by rw[List.map_map];rfl
 have hj:Lib.join (l.map tx) (⟨[44]⟩:Str).l=sdT l:=zBp 44 _;have hb:=kE h;unfold qF;rw[e,hj,if_pos ⟨by rw[lM];omega,by omega⟩];rfl
theorem zEC{l:zB}(h:LV l/\l.Lo.length<=2/\l.Hi.length<=2):(lpT l).length<=101:=by
 obtain⟨⟨h1,h2⟩,h3,h4⟩:=h;have s1:=kE h1.2;have s2:=kE h2.2;unfold lpT;simp only[lA,cg,cF];omega
theorem qS{o:Str}{b:List UInt8}(h:o.l.length+b.length<=9223372036854775807):cat o ⟨b⟩=some ⟨o.l++b⟩:=sP h
theorem implNT(n:List zB)(h:∀l∈n,LV l/\l.Lo.length<=2/\l.Hi.length<=2)(hn:n.length<=4):tS n=some ⟨ntT n⟩/\(ntT n).length<=408:=by
 have hl:=zAl (l:=n) (f:=vC n) (g:=λl=>lpT l++[10]) (C:=0) (B:=102) (λi hi o ho=>by
  have hh:=h _ (gM hi);have hL:=zEC hh;obtain⟨⟨h1,h2⟩,h3,h4⟩:=hh;have s1:=kE h1.2;have s2:=kE h2.2;have t1:=implAT _ h1.2 (by omega);have t2:=implAT _ h2.2 (by omega);refine⟨by simp only[lA,cg,cF];omega,?_⟩;have hc:((i:Int)<(n.length:Int)):=by omega
  rw[vC];simp only[hc,dT,if_true,wW hi,oB,oS,t1,t2];have e:lpT n[i]++[10]=([102,111,114,32]++sdT n[i].Lo++[32]++sdT n[i].Hi)++[10]:=by unfold lpT;simp
  rw[e];generalize sdT n[i].Lo=u at s1 ⊢;generalize sdT n[i].Hi=v at s2 ⊢;rw[qS (by simp;omega)];simp only[oS];rw[qS (by simp;omega)];simp only[oS];rw[qS (by simp;omega)];simp only[oS];rw[qS (by simp;omega)];simp only[oS];rw[qS (by simp;omega)];simp only[oS];rw[rW (by omega)]) (λo=>by
  rw[vC];simp) ⟨[]⟩ (cw _)
 obtain⟨h1,h2⟩:=hl;unfold tS;rw[h1];refine⟨rfl,?_⟩;have:(ntT n).length<=102*n.length:=h2;omega
end Go.LN
namespace Go.LN
def ResL(t:List UInt8)(r:List zA×Bool):Prop:=(r.2=true/\allV r.1/\r.1.length<=2/\t=sdT r.1)∨(r.2=false/\r.1=[]/\∀l,allV l->l.length<=2->t ≠ sdT l)
theorem dE{c:UInt8}:∀{s:List UInt8},asc s=true->∀x∈cutS c s,asc x=true
 | [],_,x,hx=>by
  rw[cutS,co] at hx;rw[hx];rfl
 | b::s,h,x,hx=>by
  have h2:=dC (a:=[b]) (b:=s) h
  have ih:=dE (c:=c) h2.2
  unfold cutS at hx
  split at hx
  ·rcases cr.1 hx with rfl|hx
   ·rfl
   ·exact ih x hx
  ·cases hq:cutS c s with
   | nil=>exact absurd hq (oK c s)
   | cons y t=>
    rw[hq] at hx ih
    rcases cr.1 hx with rfl|hx
    ·exact nD h2.1 (ih y (bZ ..))
    ·exact ih x (bY _ hx)
theorem zBr{X:List (List UInt8)}(hX:∀x∈X,asc x=true/\x.length<=1048576)(hl:X.length<=10000000):∀(j q:Nat) (o:List zA),q+j=X.length->o.length=q->q<=2->(∀a∈o,validB a=true)->X.take q=o.map tx ->
 (∃o2,xM (X.map Str.mk) o (q:Int)=some (.done o2)/\(∀a∈o2,validB a=true)/\o2.length<=2/\X=o2.map tx)∨(xM (X.map Str.mk) o (q:Int)=some (.ret ([],false))/\∀l:List zA,(∀a∈l,validB a=true)->l.length<=2->X ≠ l.map tx):=by
 intro j
 induction j with
 | zero=>
  intro q o hq ho h2 hv ht
  left
  refine⟨o,?_,hv,by omega,by rw[<- ht,cv (by omega)]⟩
  rw[xM]
  have:¬((q:Int)<((X.map Str.mk).length:Int)):=by rw[ce];omega
  simp only[this,decide_false,bV,if_false,Option.pure_def,id]
 | succ j ih=>
  intro q o hq ho h2 hv ht
  have av:q<X.length:=by omega
  have hc:((q:Int)<((X.map Str.mk).length:Int)):=by rw[ce];omega
  obtain⟨a1,a2⟩:=hX _ (List.getElem_mem av)
  have hx:idx (X.map Str.mk) (q:Int)=some ⟨X[q]⟩:=by rw[wW (by rw[ce];exact av),dt]
  obtain⟨r,hr,hres⟩:=implParse ⟨X[q]⟩ a1 a2
  obtain⟨r1,r2⟩:=r
  rw[xM]
  simp only[hc,decide_true,if_true,hx,hr,Option.bind_eq_bind,Option.bind_some,Option.pure_def]
  rcases hres with⟨e1,e2,e3⟩|⟨e1,e2,e3⟩ <;> simp only at e1 e2 e3
  ·subst e1
   by_cases h22:q=2
   ·have hb:((o.length:Int)==2)=true:=by rw[ho,h22];rfl
    right
    simp only[cP,bV,if_false,hb,if_true,Option.bind_some]
    exact⟨trivial,λl _ h3 e=>by rw[e,ce] at av;omega⟩
   ·have hb:((o.length:Int)==2)=false:=by
     rw[ho];simp;omega
    have hn:=ih (q+1) (o++[r1]) (by omega) (by rw[ca,ho];rfl) (by omega) (λa ha=>by
     rcases cC.1 ha with ha|ha
     ·exact hv a ha
     ·rw[co.1 ha];exact e2) (by rw[du,<- ht,cU,bW av];simp[e3])
    simp only[cP,bV,if_false,hb,Option.bind_some,qR (show (o.length+[r1].length)*32<=140737488355328 by simp;omega)]
    rw[rW (by omega)]
    exact hn
  ·subst e1
   right
   simp only[cJ,if_true,Option.bind_some]
   refine⟨trivial,λl h1 h3 e=>?_⟩
   have:q<l.length:=by rw[e,ce] at av;exact av
   have h9:X[q]=tx l[q]:=by simp[e]
   exact e3 l[q] (h1 _ (List.getElem_mem this)) h9
theorem implAffs(t:Str)(ha:asc t.l=true)(hl:t.l.length<=1000000):∃r,uJ t=some r/\ResL t.l r:=by
 obtain⟨t⟩:=t;simp only at ha hl;have bH:=dD 44 t;have hX:∀x∈cutS 44 t,asc x=true/\x.length<=1048576:=λx hx=>⟨dE ha x hx,by have:=nU hx;omega⟩;have h1:=zBr hX (by omega) _ 0 [] (cS _) rfl (by omega) (λa h=>by cases h) rfl;rw[cK] at h1;unfold uJ;rw[zAN ⟨t⟩ 44 (by show t.length<=_;omega)];simp only[Option.bind_eq_bind,Option.bind_some];rcases h1 with⟨o2,h1,h2,h3,h4⟩|⟨h1,h2⟩
 ·rw[h1];refine⟨(o2,true),rfl,.inl ⟨rfl,⟨λe=>?_,h2⟩,h3,?_⟩⟩
  ·have e:o2=[]:=e;rw[e] at h4;exact oK 44 t h4
  ·show t=sdT o2;unfold sdT;rw[<- h4,gU]
 ·rw[h1];refine⟨([],false),rfl,.inr ⟨rfl,rfl,λl hv hl2 e=>?_⟩⟩;have e:t=sdT l:=e;exact h2 l hv.2 hl2 (by rw[e,kD hv])
def ResLp(t:List UInt8)(r:zB×Bool):Prop:=(r.2=true/\LV r.1/\r.1.Lo.length<=2/\r.1.Hi.length<=2/\t=lpT r.1)∨(r.2=false/\∀l,LV l->l.Lo.length<=2->l.Hi.length<=2->t ≠ lpT l)
theorem implLoop(t:Str)(ha:asc t.l=true)(hl:t.l.length<=1000000):∃r,sU t=some r/\ResLp t.l r:=by
 obtain⟨t⟩:=t;simp only at ha hl;have hasc:=dE (c:=32) ha;have ar:∀x∈cutS 32 t,x.length<=1000000:=λx hx=>cQ (nU hx) hl;unfold sU;rw[zAN ⟨t⟩ 32 (by show t.length<=_;omega)];have hj:=gU 32 t;generalize hC:cutS 32 t=C at hasc ar hj;have hno:(∀a b,C=[[102,111,114],a,b]->False)->∀l,LV l->l.Lo.length<=2->l.Hi.length<=2->t ≠ lpT l:=λh l hl _ _ e=>by
  rw[e,nE hl] at hC;exact h _ _ hC.symm
 by_cases h3:C.length=3
 ·match C,h3,hasc,ar,hno,hj with
  | [w,a,b],_,hasc,ar,hno,hj=>
   by_cases hw:w=[102,111,114]
   ·subst hw;obtain⟨⟨p1,p2⟩,hp,hpr⟩:=implAffs ⟨a⟩ (hasc a (by simp)) (ar a (by simp));obtain⟨⟨q1,q2⟩,hq,hqr⟩:=implAffs ⟨b⟩ (hasc b (by simp)) (ar b (by simp));have hj:t=[102,111,114]++32::(a++32::b):=by rw[<- hj];rfl
    refine⟨(⟨p1,q1⟩,p2&&q2),?_,?_⟩
    ·simp[hp,hq,idx,Str.mk];cases p2 <;> rfl
    ·rcases hpr with⟨e1,e2,e3,e4⟩|⟨e1,e2,e3⟩ <;> simp only at e1 e2 e3
     ·rcases hqr with⟨f1,f2,f3,f4⟩|⟨f1,f2,f3⟩ <;> simp only at f1 f2 f3
      ·left;refine⟨by rw[e1,f1];rfl,⟨e2,f2⟩,e3,f3,?_⟩;show t=lpT ⟨p1,q1⟩;unfold lpT;rw[hj];simp only at e4 f4;rw[e4,f4]
      ·right;refine⟨by rw[f1,Bool.and_false],λl hl h2 h2' e=>?_⟩;have e:t=lpT l:=e;rw[e,nE hl] at hC;simp only[List.cons.injEq,and_true,true_and] at hC;exact f3 l.Hi hl.2 h2' hC.2.symm
     ·right;refine⟨by rw[e1,Bool.false_and],λl hl h2 h2' e=>?_⟩;have e:t=lpT l:=e;rw[e,nE hl] at hC;simp only[List.cons.injEq,and_true,true_and] at hC;exact e3 l.Lo hl.1 h2 hC.1.symm
   ·refine⟨(⟨[],[]⟩,false),?_,.inr ⟨rfl,hno λa b e=>hw (List.cons.inj e).1⟩⟩;have:(w==[102,111,114])=false:=by simpa using hw
    simp[idx,this,hw]
 ·refine⟨(⟨[],[]⟩,false),?_,.inr ⟨rfl,hno λa b e=>h3 (by rw[e];rfl)⟩⟩;have h4:¬(C.length:Int)=3:=by omega
  simp[h4]
end Go.LN
namespace Go.LN
def NV(n:List zB):Prop:=∀l∈n,LV l/\l.Lo.length<=2/\l.Hi.length<=2
theorem NV.lv{n:List zB}(h:NV n):∀l∈n,LV l:=λl hl=>(h l hl).1
theorem sQ{n:List zB}(h:nestB n=true):NV n:=(oC h).2
theorem NV.bn{n:List zB}(h:NV n)(hl:n.length<=1000):BN n:=⟨by omega,λl hm=>by
 obtain⟨⟨h1,h2⟩,h3,h4⟩:=h l hm;have hb:∀a,validB a=true->BA a:=λa ha=>by
  simp only[validB,bX,decide_eq_true_eq] at ha;unfold BA;omega
 exact⟨⟨by omega,λa ha=>hb a (h1.2 a ha)⟩,⟨by omega,λa ha=>hb a (h2.2 a ha)⟩⟩⟩
def ResN(t:List UInt8)(r:List zB×Bool):Prop:=(r.2=true/\nestB r.1=true/\t=ntT r.1)∨(r.2=false/\r.1=[]/\∀n,nestB n=true->t ≠ ntT n)
theorem ResN.uniq{t:List UInt8}{r s:List zB×Bool}(h:ResN t r)(k:ResN t s):r=s:=by
 obtain⟨r1,r2⟩:=r;obtain⟨s1,s2⟩:=s;rcases h with⟨h1,h2,h3⟩|⟨h1,h2,h3⟩ <;> rcases k with⟨k1,k2,k3⟩|⟨k1,k2,k3⟩ <;> simp only at h1 h2 h3 k1 k2 k3
 ·rw[h1,k1,zBo (sQ h2).lv (sQ k2).lv (h3.symm.trans k3)]
 ·exact absurd h3 (k3 _ h2)
 ·exact absurd k3 (h3 _ k2)
 ·rw[h1,h2,k1,k2]
theorem zAR(c:UInt8):∀L:List (List UInt8),joinS c (L++[[]])=L.flatMap λl=>l++[c]
 | []=>rfl
 | x::L=>by
  have ih:=zAR c L
  cases hL:L++[[]] with
  | nil=>simp at hL
  | cons y t=>
   show joinS c (x::(L++[[]]))=_
   rw[hL,joinS,<- hL,ih,cd]
   simp
theorem zED{n:List zB}(h:NV n):cutS 10 (ntT n)=n.map lpT++[[]]:=by
 have:=gW (r:=[]) h.lv;rw[cG] at this;exact this
theorem zEa{L:List (List UInt8)}{n:List zB}(h:L=n.map lpT):joinS 10 (L++[[]])=ntT n:=by
 rw[zAR,h,List.flatMap_map];rfl
theorem zBs{X:List (List UInt8)}(hX:∀x∈X,asc x=true/\x.length<=1000000)(hl:X.length<=4):∀(j q:Nat) (o:List zB),q+j=X.length->o.length=q->NV o->X.take q=o.map lpT ->
 (∃o2,wB (X.map Str.mk) o (q:Int)=some (.done o2)/\NV o2/\X=o2.map lpT)∨(wB (X.map Str.mk) o (q:Int)=some (.ret ([],false))/\∀n:List zB,NV n->X ≠ n.map lpT):=by
 intro j
 induction j with
 | zero=>
  intro q o hq ho hv ht
  left
  refine⟨o,?_,hv,by rw[<- ht,cv (by omega)]⟩
  rw[wB]
  have:¬((q:Int)<((X.map Str.mk).length:Int)):=by rw[ce];omega
  simp only[this,decide_false,bV,if_false,Option.pure_def]
 | succ j ih=>
  intro q o hq ho hv ht
  have av:q<X.length:=by omega
  have hc:((q:Int)<((X.map Str.mk).length:Int)):=by rw[ce];omega
  obtain⟨a1,a2⟩:=hX _ (List.getElem_mem av)
  have hx:idx (X.map Str.mk) (q:Int)=some ⟨X[q]⟩:=by rw[wW (by rw[ce];exact av),dt]
  obtain⟨⟨r1,r2⟩,hr,hres⟩:=implLoop ⟨X[q]⟩ a1 a2
  rw[wB]
  simp only[hc,decide_true,if_true,hx,hr,Option.bind_eq_bind,Option.bind_some,Option.pure_def]
  rcases hres with⟨e1,e2,e3,e4,e5⟩|⟨e1,e2⟩
  ·simp only at e1 e2 e3 e4 e5
   subst e1
   have hn:=ih (q+1) (o++[r1]) (by omega) (by rw[ca,ho];rfl) (λa ha=>by
    rcases cC.1 ha with ha|ha
    ·exact hv a ha
    ·rw[co.1 ha];exact⟨e2,e3,e4⟩) (by rw[du,<- ht,cU,bW av];simp[e5])
   simp only[cP,bV,if_false,qR (show (o.length+[r1].length)*48<=140737488355328 by simp;omega),Option.bind_some]
   rw[rW (by omega)]
   exact hn
  ·simp only at e1 e2
   subst e1
   right
   simp only[cJ,if_true]
   refine⟨trivial,λn h1 e=>?_⟩
   have:q<n.length:=by rw[e,ce] at av;exact av
   have h9:X[q]=lpT n[q]:=by simp[e]
   obtain⟨k1,k2,k3⟩:=h1 _ (List.getElem_mem this)
   exact e2 n[q] k1 k2 k3 h9
theorem implParseN(t:Str)(ha:asc t.l=true)(hl:t.l.length<=1000000):∃r,tI t=some r/\ResN t.l r:=by
 obtain⟨t⟩:=t;simp only at ha hl;have hasc:=dE (c:=10) ha;have ar:∀x∈cutS 10 t,x.length<=1000000:=λx hx=>cQ (nU hx) hl;have hj:=gU 10 t;have bH:=dD 10 t;unfold tI;rw[zAN ⟨t⟩ 10 (by show t.length<=_;omega)];obtain hC|⟨L,z,hC⟩:=List.eq_nil_or_concat (cutS 10 t)
 ·exact absurd hC (oK 10 t)
 rw[List.concat_eq_append] at hC;have hno:∀n,nestB n=true->t=ntT n->L=n.map lpT/\z=[]:=λn hn e=>by
  have h1:=zED (sQ hn);rw[<- e,hC] at h1;obtain⟨a,b⟩:=List.append_inj' h1 rfl;exact⟨a,(List.cons.inj b).1⟩
 have e1:cutS 10 (⟨t⟩:Str).l=L++[z]:=hC;rw[e1];rw[hC] at hasc ar hj bH;have hlenY:(((L++[z]).map Str.mk).length:Int)=(L.length:Int)+1:=by simp
 have hLb:L.length<=1000001:=by rw[ca] at bH;omega
 have hW:W ((((L++[z]).map Str.mk).length:Int) - 1)=(L.length:Int):=by rw[hlenY,tW (by omega) (by omega)];omega
 have hi:idx ((L++[z]).map Str.mk) (L.length:Int)=some ⟨z⟩:=by rw[wW (by simp),dt];simp
 have hs:slc ((L++[z]).map Str.mk) 0 (L.length:Int)=some (L.map Str.mk):=by
  unfold slc;rw[if_pos ⟨by omega,by omega,by rw[hlenY];omega⟩,du,d7];show some (List.drop 0 (List.take L.length (L.map Str.mk++[⟨z⟩])))=_;rw[cN,List.take_left' (ce ..)]
 simp only[Option.bind_eq_bind,Option.bind_some,hW,hi,Option.pure_def];by_cases hz:z=[]
 ·subst hz;by_cases h4:L.length<=4
  ·have d4:¬((L.length:Int)>4):=by omega
   have dz:(([]:List UInt8)==[])=true:=rfl;simp only[dz,cP,bV,if_false,d4,decide_false,Option.bind_some,hs];rcases zBs (X:=L) (λx hx=>⟨hasc x (cD _ hx),ar x (cD _ hx)⟩) h4 _ 0 [] (cS _) rfl (λ_ h=>by cases h) rfl with⟨o2,h1,h2,h3⟩|⟨h1,h2⟩
   ·rw[cK] at h1;have bc:o2.length=L.length:=by rw[h3,ce]
    simp only[h1,Option.bind_some,implNest _ (h2.bn (by omega))];have hnt:ntT o2=t:=by rw[<- hj,zEa h3]
    cases hb:nestB o2 with
    | false=>
     refine⟨([],false),rfl,.inr ⟨rfl,rfl,λn hn e=>?_⟩⟩;have:=jO (sQ hn).lv h2.lv ((hno n hn e).1.symm.trans h3);rw[this,hb] at hn;cases hn
    | true=>
     have hT:=(implNT o2 h2 (by omega)).1;simp only[cP,bV,if_false,hT,Option.bind_some,hnt,beq_self_eq_true];exact⟨(o2,true),rfl,.inl ⟨rfl,hb,hnt.symm⟩⟩
   ·rw[cK] at h1;simp only[h1,Option.bind_some];exact⟨([],false),rfl,.inr ⟨rfl,rfl,λn hn e=>h2 n (sQ hn) (hno n hn e).1⟩⟩
  ·have d4:((L.length:Int)>4):=by omega
   have dz:(([]:List UInt8)==[])=true:=rfl;simp only[dz,cP,bV,if_false,d4,decide_true,Option.bind_some,if_true];refine⟨([],false),rfl,.inr ⟨rfl,rfl,λn hn e=>h4 ?_⟩⟩;rw[(hno n hn e).1,ce];exact(oC hn).1
 ·have dz:(z==[])=false:=by simpa using hz
  simp only[dz,cJ,if_true,Option.bind_some];exact⟨([],false),rfl,.inr ⟨rfl,rfl,λn hn e=>hz (hno n hn e).2⟩⟩
theorem implFN(n:List zB)(h:BN n):uU n=some (if nestB n then⟨ntT n⟩ else⟨[]⟩):=by
 unfold uU;rw[implNest n h];cases hb:nestB n with
 | false=>rfl
 | true=>
  have:=(implNT n (sQ hb) (oC hb).1).1;rw[this];rfl
end Go.LN
namespace Go.LN
theorem zAm(c:UInt8):∀(X:List (List UInt8)) (x:List UInt8),X ≠ []->joinS c (X++[x])=joinS c X++c::x
 | [],_,h=>absurd rfl h
 | [y],x,_=>rfl
 | y::z::t,x,_=>by
  have ih:=zAm c (z::t) x (by simp)
  show joinS c (y::((z::t)++[x]))=joinS c (y::z::t)++c::x
  have e:joinS c (y::((z::t)++[x]))=y++c::joinS c ((z::t)++[x]):=rfl
  rw[e,ih,joinS]
  simp
theorem specSideT(l:List zA)(h:∀a∈l,validB a=true)(hl:l.length<=100):wV l=some ⟨sdT l⟩:=by
 unfold wV;have key:∀(j i:Nat) (o:Str),i+j=l.length->o.l=sdT (l.take i)->yV l o (i:Int)=some ⟨sdT l⟩:=by
  intro j
  induction j with
  | zero=>
   intro i o hi ho;rw[yV];have:¬((i:Int)<(l.length:Int)):=by omega
   simp only[this,decide_false,bV,if_false];rw[cv (by omega)] at ho;rw[<- ho];rfl
  | succ j ih=>
   intro i o hi ho;rw[yV];have av:i<l.length:=by omega
   have hc:((i:Int)<(l.length:Int)):=by omega
   have hv:=h _ (List.getElem_mem av);have hb:=kE (l:=l.take i) λa ha=>h a (List.mem_of_mem_take ha);have hb2:(l.take i).length<=100:=by rw[ci];omega
   have ht:=fY hv;have hs:=zAg _ hv;have hstep:sdT (l.take (i+1))=(if 0<i then o.l++[44] else o.l)++tx l[i]:=by
    unfold sdT;rw[cU,bW av,Option.toList_some,du];by_cases h0:0<i
    ·have hne:(l.take i).map tx ≠ []:=λe=>by
      have:=congrArg List.length e;rw[ce,ci] at this;simp only[cF] at this;omega
     show joinS 44 ((l.take i).map tx++[tx l[i]])=_;rw[zAm 44 _ _ hne,if_pos h0,ho];unfold sdT;simp
    ·have e:i=0:=by omega
     subst e;rw[if_neg h0,ho];rfl
   simp only[hc,decide_true,if_true,wW av,hs,Option.bind_eq_bind,Option.bind_some,Option.pure_def,id];by_cases h0:0<i
   ·have d0:((i:Int)>0):=by omega
    rw[if_pos h0] at hstep;simp only[d0,decide_true,if_true];rw[qS (by rw[ho];simp;omega)];simp only[Option.bind_some];rw[qS (by show (o.l++[44]).length+_<=_;rw[ho];simp;omega)];simp only[Option.bind_some];rw[rW (by omega)];exact ih (i+1) _ (by omega) hstep.symm
   ·have d0:¬((i:Int)>0):=by omega
    rw[if_neg h0] at hstep;simp only[d0,decide_false,bV,if_false,Option.bind_some];rw[qS (by rw[ho];omega)];simp only[Option.bind_some];rw[rW (by omega)];exact ih (i+1) _ (by omega) hstep.symm
 have:=key _ 0 ⟨[]⟩ (cS _) rfl;rw[cK] at this;rw[this];rfl
theorem specNT(n:List zB)(h:NV n)(hn:n.length<=100):sY n=some ⟨ntT n⟩:=by
 have hl:=zAl (l:=n) (f:=uK n) (g:=λl=>lpT l++[10]) (C:=0) (B:=102) (λi hi o ho=>by
  have hh:=h _ (List.getElem_mem hi);have hL:=zEC hh;obtain⟨⟨h1,h2⟩,h3,h4⟩:=hh;have s1:=kE h1.2;have s2:=kE h2.2;have t1:=specSideT _ h1.2 (by omega);have t2:=specSideT _ h2.2 (by omega);refine⟨by simp only[ca,cg,cF];omega,?_⟩;have hc:((i:Int)<(n.length:Int)):=by omega
  rw[uK];simp only[hc,decide_true,if_true,wW hi,Option.bind_eq_bind,Option.bind_some,t1,t2];have e:lpT n[i]++[10]=([102,111,114,32]++sdT n[i].Lo++[32]++sdT n[i].Hi)++[10]:=by unfold lpT;simp
  rw[e];generalize sdT n[i].Lo=u at s1 ⊢;generalize sdT n[i].Hi=v at s2 ⊢;rw[qS (by simp;omega)];simp only[Option.bind_some];rw[qS (by simp;omega)];simp only[Option.bind_some];rw[qS (by simp;omega)];simp only[Option.bind_some];rw[qS (by simp;omega)];simp only[Option.bind_some];rw[qS (by simp;omega)];simp only[Option.bind_some];rw[rW (by omega)];simp) (λo=>by
  rw[uK];simp) ⟨[]⟩ (cw _)
 unfold sY;rw[hl.1];rfl
theorem specFN(n:List zB)(h:BN n):uV n=some (if nestB n then⟨ntT n⟩ else⟨[]⟩):=by
 unfold uV;rw[specNest n h];cases hb:nestB n with
 | false=>rfl
 | true=>
  have:=specNT n (sQ hb) (by have:=(oC hb).1;omega);rw[this];rfl
theorem ResA.of_tx{a:zA}{r:zA×Bool}(ha:validB a=true)(h:ResA (tx a) r):r.1=a:=by
 rcases h with⟨h1,h2,h3⟩|⟨h1,h2,h3⟩
 ·exact(zDv ha h2 h3).symm
 ·exact absurd rfl (h3 a ha)
theorem ResA.ba{t:List UInt8}{r:zA×Bool}(h:ResA t r):BA r.1:=by
 rcases h with⟨h1,h2,h3⟩|⟨h1,h2,h3⟩
 ·simp only[validB,bX,decide_eq_true_eq] at h2;unfold BA;omega
 ·rw[h2];show (0:Nat)<=1000;omega
theorem zBt{X:List (List UInt8)}(hX:∀x∈X,x.length<=1000000):∀(j q:Nat) (o:List zA),q+j=3->o.length=q->(∀a∈o,BA a) ->
 ∃o2,yQ (X.map Str.mk) o (q:Int)=some o2/\o2.length<=3/\(∀a∈o2,BA a)/\∀k:List zA,(∀a∈k,validB a=true)->k.length<=2->X=k.map tx->o=k.take q->o2=k:=by
 intro j
 induction j with
 | zero=>
  intro q o hq ho hv
  refine⟨o,?_,by omega,hv,λk _ h2 _ e=>by rw[e,cv (by omega)]⟩
  rw[yQ]
  have h2:¬((q:Int)<=2):=by omega
  by_cases hc:(q:Int)<((X.map Str.mk).length:Int)
  ·simp only[hc,h2,decide_true,decide_false,if_true,bV,if_false,Option.pure_def,Option.bind_eq_bind,Option.bind_some,id]
  ·simp only[hc,decide_false,bV,if_false,Option.pure_def,Option.bind_eq_bind,Option.bind_some,id]
 | succ j ih=>
  intro q o hq ho hv
  rw[yQ]
  have h2:((q:Int)<=2):=by omega
  by_cases av:q<X.length
  ·have hc:((q:Int)<((X.map Str.mk).length:Int)):=by rw[ce];omega
   have hx:idx (X.map Str.mk) (q:Int)=some ⟨X[q]⟩:=by rw[wW (by rw[ce];exact av),dt]
   obtain⟨⟨r1,r2⟩,hr,hres⟩:=specParse ⟨X[q]⟩ (hX _ (List.getElem_mem av))
   obtain⟨o2,k1,k2,k3,k4⟩:=ih (q+1) (o++[r1]) (by omega) (by rw[ca,ho];rfl) (λa ha=>by
    rcases cC.1 ha with ha|ha
    ·exact hv a ha
    ·rw[co.1 ha];exact hres.ba)
   refine⟨o2,?_,k2,k3,λk v1 v2 e1 e2=>k4 k v1 v2 e1 ?_⟩
   ·simp only[hc,h2,decide_true,if_true,hx,hr,Option.bind_eq_bind,Option.bind_some,Option.pure_def,qR (show (o.length+[r1].length)*32<=140737488355328 by simp;omega)]
    rw[rW (by omega)]
    exact k1
   ·have hk:q<k.length:=by rw[e1,ce] at av;exact av
    have h9:X[q]=tx k[q]:=by simp[e1]
    have hres':ResA (tx k[q]) (r1,r2):=by rw[<- h9];exact hres
    have:=ResA.of_tx (v1 _ (List.getElem_mem hk)) hres'
    rw[e2,cU,bW hk]
    simp only at this
    rw[this];rfl
  ·have hc:¬((q:Int)<((X.map Str.mk).length:Int)):=by rw[ce];omega
   refine⟨o,?_,by omega,hv,λk _ _ e1 e2=>by
    rw[e2,cv]
    have:=congrArg List.length e1
    rw[ce] at this
    omega⟩
   simp only[hc,decide_false,bV,if_false,Option.pure_def,Option.bind_eq_bind,Option.bind_some,id]
theorem specSideP(t:Str)(hl:t.l.length<=1000000):∃l,wG t=some l/\BL l/\∀k,allV k->k.length<=2->t.l=sdT k->l=k:=by
 obtain⟨o2,h1,h2,h3,h4⟩:=zBt (X:=cutS 44 t.l) (λx hx=>cQ (nU hx) hl) 3 0 [] rfl rfl (λ_ h=>by cases h);rw[cK] at h1;unfold wG;rw[fZ t 44 (by omega)];refine⟨o2,?_,⟨by omega,h3⟩,λk v1 v2 e=>h4 k v1.2 v2 (by rw[e,kD v1]) rfl⟩;simp only[Option.bind_eq_bind,Option.bind_some,h1];rfl
theorem zCh{l:List zA}(h:allV l):sdT l ≠ []:=λe=>by
 have h1:=kD h;rw[e] at h1
 match l,h with
 | [],h=>exact h.1 rfl
 | a::l,h=>
  rw[cW] at h1;have:tx a=[]:=((List.cons.inj h1).1).symm;exact zFV a (h.2 a (bZ ..)) this
theorem zEE{X:List (List UInt8)}{x:List UInt8}(h:x∈full X):x∈X:=(dl.1 h).1
theorem specLineP(t:Str)(hl:t.l.length<=1000000):∃l,sF t=some l/\(BL l.Lo/\BL l.Hi)/\∀k,LV k->k.Lo.length<=2->k.Hi.length<=2->t.l=lpT k->l=k:=by
 unfold sF;rw[zBk t (by omega)];have hF:∀k,LV k->t.l=lpT k->full (cutS 32 t.l)=[[102,111,114],sdT k.Lo,sdT k.Hi]:=λk hk e=>by
  rw[e,nE hk];unfold full;have e1:(sdT k.Lo==[])=false:=by simpa using zCh hk.1
  have e2:(sdT k.Hi==[])=false:=by simpa using zCh hk.2
  simp[e1,e2,zCh hk.1,zCh hk.2]
 have ar:∀x∈full (cutS 32 t.l),x.length<=1000000:=λx hx=>cQ (nU (zEE hx)) hl;generalize full (cutS 32 t.l)=F at hF ar;by_cases h3:F.length=3
 ·match F,h3,hF,ar with
  | [w,a,b],_,hF,ar=>
   obtain⟨l1,p1,p2,p3⟩:=specSideP ⟨a⟩ (ar a (by simp));obtain⟨l2,q1,q2,q3⟩:=specSideP ⟨b⟩ (ar b (by simp));refine⟨⟨l1,l2⟩,?_,⟨p2,q2⟩,λk hk k1 k2 e=>?_⟩
   ·have i1:idx ([w,a,b].map Str.mk) 1=some ⟨a⟩:=rfl;have i2:idx ([w,a,b].map Str.mk) 2=some ⟨b⟩:=rfl;have i0:((([w,a,b].map Str.mk).length:Int) != 3)=false:=rfl;simp only[Option.bind_eq_bind,Option.bind_some,i0,i1,i2,bV,if_false,p1,q1];rfl
   ·have:=hF k hk e;simp only[List.cons.injEq,and_true] at this;obtain⟨_,e1,e2⟩:=this;rw[p3 k.Lo hk.1 k1 e1,q3 k.Hi hk.2 k2 e2]
 ·refine⟨⟨[],[]⟩,?_,⟨⟨by show (0:Nat)<=1000;omega,λ_ h=>by cases h⟩,⟨by show (0:Nat)<=1000;omega,λ_ h=>by cases h⟩⟩,λk hk _ _ e=>absurd (by rw[hF k hk e];rfl) h3⟩;have:(((F.map Str.mk).length:Int) != 3)=true:=by rw[ce];simp;omega
  simp only[Option.bind_eq_bind,Option.bind_some,this,if_true];rfl
theorem zBu{L:List (List UInt8)}{z:List UInt8}(hX:∀x∈L,x.length<=1000000)(hl:L.length<=4):∀(j q:Nat) (o:List zB),q+j=L.length->o.length=q->(∀l∈o,BL l.Lo/\BL l.Hi) ->
 ∃o2,wS ((L++[z]).map Str.mk) o (q:Int)=some o2/\o2.length<=4/\(∀l∈o2,BL l.Lo/\BL l.Hi)/\∀n:List zB,NV n->L=n.map lpT->o=n.take q->o2=n:=by
 intro j
 induction j with
 | zero=>
  intro q o hq ho hv
  refine⟨o,?_,by omega,hv,λn _ e1 e2=>by
   rw[e2,cv]
   have:=congrArg List.length e1
   rw[ce] at this
   omega⟩
  rw[wS]
  have hc:¬(((q+1:Nat):Int)<(((L++[z]).map Str.mk).length:Int)):=by rw[ce,ca];simp;omega
  rw[rW (by omega)]
  simp only[hc,decide_false,bV,if_false,Option.pure_def,id]
 | succ j ih=>
  intro q o hq ho hv
  have av:q<L.length:=by omega
  obtain⟨r,hr,hb,hu⟩:=specLineP ⟨L[q]⟩ (hX _ (List.getElem_mem av))
  obtain⟨o2,k1,k2,k3,k4⟩:=ih (q+1) (o++[r]) (by omega) (by rw[ca,ho];rfl) (λa ha=>by
   rcases cC.1 ha with ha|ha
   ·exact hv a ha
   ·rw[co.1 ha];exact hb)
  refine⟨o2,?_,k2,k3,λn v1 e1 e2=>k4 n v1 e1 ?_⟩
  ·rw[wS]
   have hc:(((q+1:Nat):Int)<(((L++[z]).map Str.mk).length:Int)):=by rw[ce,ca];simp;omega
   have hx:idx ((L++[z]).map Str.mk) (q:Int)=some ⟨L[q]⟩:=by
    rw[wW (by rw[ce,ca];omega),dt,List.getElem_append_left av]
   rw[rW (by omega)]
   simp only[hc,decide_true,if_true,hx,hr,Option.bind_eq_bind,Option.bind_some,qR (show (o.length+[r].length)*48<=140737488355328 by simp;omega)]
   exact k1
  ·have hk:q<n.length:=by rw[e1,ce] at av;exact av
   have h9:L[q]=lpT n[q]:=by simp[e1]
   obtain⟨w1,w2,w3⟩:=v1 _ (List.getElem_mem hk)
   rw[e2,cU,bW hk,hu _ w1 w2 w3 h9];rfl
theorem specParseN(t:Str)(hl:t.l.length<=1000000):∃r,sK t=some r/\ResN t.l r:=by
 obtain⟨t⟩:=t;simp only at hl;have ar:∀x∈cutS 10 t,x.length<=1000000:=λx hx=>cQ (nU hx) hl;unfold sK;rw[fZ ⟨t⟩ 10 (by show t.length<=_;omega)];obtain hC|⟨L,z,hC⟩:=List.eq_nil_or_concat (cutS 10 t)
 ·exact absurd hC (oK 10 t)
 rw[List.concat_eq_append] at hC;have hno:∀n,nestB n=true->t=ntT n->L=n.map lpT/\z=[]:=λn hn e=>by
  have h1:=zED (sQ hn);rw[<- e,hC] at h1;obtain⟨a,b⟩:=List.append_inj' h1 rfl;exact⟨a,(List.cons.inj b).1⟩
 have e1:cutS 10 (⟨t⟩:Str).l=L++[z]:=hC;rw[e1];rw[hC] at ar;have hlenY:(((L++[z]).map Str.mk).length:Int)=(L.length:Int)+1:=by simp
 by_cases h4:L.length<=4
 ·have d5:¬((((L++[z]).map Str.mk).length:Int)>5):=by omega
  obtain⟨o2,p1,p2,p3,p4⟩:=zBu (L:=L) (z:=z) (λx hx=>ar x (cD _ hx)) h4 _ 0 [] (cS _) rfl (λ_ h=>by cases h);rw[cK] at p1;have hBN:BN o2:=⟨by omega,p3⟩;have hu:∀n,nestB n=true->t=ntT n->o2=n:=λn hn e=>p4 n (sQ hn) (hno n hn e).1 rfl;simp only[Option.bind_eq_bind,Option.bind_some,d5,decide_false,bV,if_false,p1,specFN o2 hBN,specNest o2 hBN,Option.pure_def];cases hb:nestB o2 with
  | false=>
   refine⟨([],false),?_,.inr ⟨rfl,rfl,λn hn e=>by rw[<- hu n hn e,hb] at hn;cases hn⟩⟩;cases he:(([]:List UInt8)==t) <;> simp[he]
  | true=>
   by_cases he:ntT o2=t
   ·refine⟨(o2,true),?_,.inl ⟨rfl,hb,he.symm⟩⟩;simp[he]
   ·refine⟨([],false),?_,.inr ⟨rfl,rfl,λn hn e=>he (by rw[hu n hn e];exact e.symm)⟩⟩;have:(ntT o2==t)=false:=by simpa using he
    simp[this]
 ·have d5:((((L++[z]).map Str.mk).length:Int)>5):=by omega
  simp only[Option.bind_eq_bind,Option.bind_some,d5,decide_true,if_true];refine⟨([],false),rfl,.inr ⟨rfl,rfl,λn hn e=>h4 ?_⟩⟩;rw[(hno n hn e).1,ce];exact(oC hn).1
end Go.LN
namespace Go.LN
theorem drawNest(code:List UInt8):Ok (uQ code) (λy=>BN y):=by
 unfold uQ;refine Ok.call (eE code) trivial λs hs=>Ok.call (zCP s) ⟨by omega,by omega⟩ λa t g1 g2 g3 g4=>?_;refine Ok.bind (mut2 100 (by omega) t a ⟨by omega,λy hy=>⟨(g1.2 y hy).1.ql,(g1.2 y hy).2.ql⟩⟩ (by omega) (by omega)) λq k=>?_;obtain⟨n,s2⟩:=q;exact Ok.pure (k.1.bn (by omega))
def unit4:List zA:=[⟨[1,0,0,0],0⟩,⟨[0,1,0,0],0⟩,⟨[0,0,1,0],0⟩,⟨[0,0,0,1],0⟩]
theorem zBv:unit4.all validB=true:=by decide
theorem zAS(v:Int)(h0:0<=v)(h1:v<4):Ok (tE v) (λr=>r∈unit4):=by
 unfold tE;refine Ok.call nR trivial (Ok.idx h0 (by simp;omega) λx _ _=>Ok.bind_pure (Ok.pure ?_));obtain rfl|rfl|rfl|rfl:v=0∨v=1∨v=2∨v=3:=by omega
 ·exact .head _
 ·exact .tail _ (.head _)
 ·exact .tail _ (.tail _ (.head _))
 ·exact .tail _ (.tail _ (.tail _ (.head _)))
theorem zCU(a b c d k:Int):zV ⟨[a,b,c,d],k⟩ 1 ⟨[0,0,0,0],1⟩ 1 0 []=some [W (W (1*a)+W (1*0)),W (W (1*b)+W (1*0)),W (W (1*c)+W (1*0)),W (W (1*d)+W (1*0))]:=by
 rw[zV];show zV _ _ _ _ 1 [_]=_;rw[zV];show zV _ _ _ _ 2 [_,_]=_;rw[zV];show zV _ _ _ _ 3 [_,_,_]=_;rw[zV];show zV _ _ _ _ 4 [_,_,_,_]=_;rw[zV];rfl
theorem zBQ{a:zA}(h:a∈unit4):Ok (vJ a 1 ⟨[0,0,0,0],1⟩ 1) (λr=>validB r=true):=by
 have key:∀x y z w:Int,(x=0∨x=1)->(y=0∨y=1)->(z=0∨z=1)->(w=0∨w=1)->Ok (vJ ⟨[x,y,z,w],0⟩ 1 ⟨[0,0,0,0],1⟩ 1) (λr=>validB r=true):=by
  intro x y z w hx hy hz hw;unfold vJ;rw[zCU];refine⟨_,rfl,?_⟩;rcases hx with rfl|rfl <;> rcases hy with rfl|rfl <;> rcases hz with rfl|rfl <;> rcases hw with rfl|rfl <;> decide
 unfold unit4 at h;simp only[cr,List.mem_nil_iff,or_false] at h;rcases h with rfl|rfl|rfl|rfl
 ·exact key 1 0 0 0 (.inr rfl) (.inl rfl) (.inl rfl) (.inl rfl)
 ·exact key 0 1 0 0 (.inl rfl) (.inr rfl) (.inl rfl) (.inl rfl)
 ·exact key 0 0 1 0 (.inl rfl) (.inl rfl) (.inr rfl) (.inl rfl)
 ·exact key 0 0 0 1 (.inl rfl) (.inl rfl) (.inl rfl) (.inr rfl)
theorem oD{l:List Int}{y:Int}(h:y∈l)(hl:l.all constB=true):validB ⟨[0,0,0,0],y⟩=true:=by
 have:=cb.1 hl y h;unfold validB;simp only[this,Bool.and_true,dm];rfl
def V2(l:List zA):Prop:=allV l/\l.length<=2
theorem V2.one{a:zA}(h:validB a=true):V2 [a]:=⟨⟨by simp,λx hx=>by rw[co.1 hx];exact h⟩,by simp⟩
theorem V2.two{a b:zA}(h:validB a=true)(k:validB b=true):V2 [a,b]:=⟨⟨by simp,λx hx=>by
 rcases cr.1 hx with rfl|hx
 ·exact h
 ·rw[co.1 hx];exact k⟩,by simp⟩
theorem drawLoopV(r:zH)(ap:Int):Tot (sE r ap) (0<=r.p/\r.p<=900000000/\0<=ap/\ap<=4) (λφ=>∀a s,(V2 a.Lo/\V2 a.Hi)->r.p<=s.p->s.p<=r.p+20->φ (a,s)):=⟨by
 rintro⟨h0,h1,h2,h3⟩ φ hk;unfold sE;refine Ok.call (vM r _) ⟨by decide,h0,by omega,by decide⟩ λy1 s1 q1 g1 e1=>Ok.call (vL _) trivial ?_;refine Ok.call (vM s1 _) ⟨by decide,by omega,by omega,by decide⟩ λy2 s2 q2 g2 e2=>Ok.call (vL _) trivial ?_;have a1:validB ⟨[0,0,0,0],y1⟩=true:=oD q1 (by decide);have a2:validB ⟨[0,0,0,0],y2⟩=true:=oD q2 (by decide);refine Ok.bind (φ:=λo:Bool×zH=>(o.1=true->0<ap)/\r.p<=o.2.p/\o.2.p<=r.p+3) ?_ ?_
 ·refine Ok.ite_dec (λhd=>Ok.call (sV s2 4) ⟨by omega,by omega⟩ λy s k1 k2 k3=>Ok.pure ⟨λ_=>by omega,by dsimp only;omega,by dsimp only;omega⟩) λ_=>Ok.pure ⟨λh=>(by cases h),by dsimp only;omega,by dsimp only;omega⟩
 rintro⟨t,x⟩ ⟨gt,g3,g4⟩;dsimp only at gt g3 g4 ⊢;refine Ok.bind (φ:=λo:zA×zA×zH=>validB o.1=true/\validB o.2.1=true/\r.p<=o.2.2.p/\o.2.2.p<=r.p+6) (Ok.ite (λht=>?_) λ_=>Ok.pure ⟨a1,a2,by dsimp only;omega,by dsimp only;omega⟩) ?_
 ·have hd:=gt ht;refine Ok.call (sV x _) ⟨by omega,by omega⟩ λy s k1 k2 k3=>Ok.call (sV s _) ⟨by omega,by omega⟩ λz u k4 k5 k6=>?_;refine Ok.bind (φ:=λo:zA×zA=>validB o.1=true/\validB o.2=true) (Ok.ite_beq (λ_=>?_) λ_=>?_) ?_
  ·exact Ok.bind (zAS y k1 (by omega)) λb hb=>Ok.pure ⟨cb.1 zBv b hb,a2⟩
  ·exact Ok.bind (zAS y k1 (by omega)) λb hb=>Ok.call (vL _) trivial (Ok.bind (zBQ hb) λd hd=>Ok.pure ⟨a1,hd⟩)
  rintro⟨b,c⟩ ⟨c1,c2⟩;exact Ok.pure ⟨c1,c2,by dsimp only at *;omega,by dsimp only at *;omega⟩
 rintro⟨b,c,u⟩ ⟨b1,b2,b3,b4⟩;dsimp only at b1 b2 b3 b4 ⊢;refine Ok.call (sV u _) ⟨by omega,by omega⟩ λy s k1 k2 k3=>?_;refine Ok.bind (φ:=λo:List zA×List zA×zH=>V2 o.1/\V2 o.2.1/\r.p<=o.2.2.p/\o.2.2.p<=r.p+20) (Ok.ite_beq (λ_=>?_) λ_=>?_) ?_
 ·refine Ok.call (vM s _) ⟨by decide,by omega,by omega,by decide⟩ λy3 s3 q3 g3 e3=>Ok.call (vL _) trivial (Ok.app (by show (1+1)*32<=140737488355328;omega) (Ok.pure ⟨V2.one b1,V2.two b2 (oD q3 (by decide)),by dsimp only;omega,by dsimp only;omega⟩))
 ·refine Ok.bind (φ:=λo:List zA×zH=>V2 o.1/\r.p<=o.2.p/\o.2.p<=r.p+20) (Ok.ite_beq (λ_=>?_) λ_=>Ok.pure ⟨V2.one b1,by dsimp only;omega,by dsimp only;omega⟩) ?_
  ·refine Ok.call (vM s _) ⟨by decide,by omega,by omega,by decide⟩ λy3 s3 q3 g3 e3=>Ok.call (vL _) trivial (Ok.app (by show (1+1)*32<=140737488355328;omega) (Ok.pure ⟨V2.two b1 (oD q3 (by decide)),by dsimp only;omega,by dsimp only;omega⟩))
  rintro⟨d,w⟩ ⟨d1,d2,d3⟩;exact Ok.pure ⟨d1,V2.one b2,d2,d3⟩
 rintro⟨d,e,w⟩ ⟨d1,d2,d3,d4⟩;exact Ok.pure (hk _ _ ⟨d1,d2⟩ d3 d4)⟩
theorem zBR:∀(k:Nat) (o:List zB) (r:zH),o.length+k<=4->NV o->0<=r.p->r.p+20*k<=800000100->Ok (xZ o (k:Int) r) (λy=>NV y.1/\y.1.length<=4/\0<=y.2.p/\y.2.p<=r.p+20*k):=by
 intro k
 induction k with
 | zero=>
  intro o r h1 h2 h3 h4;rw[xZ];exact Ok.ite_dec (λh=>absurd h (by omega)) λ_=>Ok.pure ⟨h2,by dsimp only;omega,h3,by dsimp only;omega⟩
 | succ k ih=>
  intro o r h1 h2 h3 h4;rw[xZ];refine Ok.ite_dec (λ_=>?_) λh=>absurd (show ((k+1:Nat):Int)>0 by omega) h;refine Ok.call (drawLoopV r _) ⟨h3,by omega,by omega,by omega⟩ λa s g1 g2 g3=>?_;refine Ok.app (by show (o.length+1)*48<=_;omega) ?_;rw[show W (((k+1:Nat):Int) - 1)=(k:Int) by rw[tW (by omega) (by omega)];omega];obtain⟨y,hy,k1,k2,k3,k4⟩:=ih (o++[a]) s (by rw[ca];show o.length+1+k<=4;omega) (λl hl=>by
   rcases cC.1 hl with hl|hl
   ·exact h2 l hl
   ·rw[co.1 hl];exact⟨⟨g1.1.1,g1.2.1⟩,g1.1.2,g1.2.2⟩) (by omega) (by omega)
  exact⟨y,hy,k1,k2,k3,by omega⟩
theorem drawNestV(r:zH)(h0:0<=r.p)(h1:r.p<=800000000):Ok (tH r) (λy=>NV y.1/\y.1.length<=4/\0<=y.2.p/\y.2.p<=r.p+100):=by
 unfold tH;refine Ok.call (vM r _) ⟨by decide,h0,by omega,by decide⟩ λy s g1 g2 g3=>?_;have hy:∃k:Nat,y=(k:Int)/\k<=3:=by
  simp only[cr,d9,or_false] at g1;exact⟨y.toNat,by omega,by omega⟩
 obtain⟨k,rfl,hk⟩:=hy;refine Ok.bind (zBR k [] s (by show 0+k<=4;omega) (λ_ h=>by cases h) (by omega) (by omega)) λq hq=>?_;obtain⟨q1,q2⟩:=q;obtain⟨k1,k2,k3,k4⟩:=hq;exact Ok.pure ⟨k1,k2,k3,by dsimp only at k4 ⊢;omega⟩
theorem eA{l:List UInt8}(h:∀b∈l,b.toNat<128):asc l=true:=cb.2 λb hb=>decide_eq_true (h b hb)
theorem zBS{l:List UInt8}(h:asc l=true){b:UInt8}(hb:b∈l):b.toNat<128:=of_decide_eq_true (cb.1 h b hb)
theorem zEF{l:List zA}(h:∀a∈l,validB a=true){b:UInt8}(hb:b∈sdT l):b.toNat<128:=by
 rcases zAP hb with rfl|⟨x,hx,hb⟩
 ·decide
 ·obtain⟨a,ha,rfl⟩:=ds.1 hx;exact zBS (zDq (h a ha)) hb
theorem zEG{n:List zB}(h:NV n):asc (ntT n)=true:=eA λb hb=>by
 unfold ntT at hb;obtain⟨l,hl,hb⟩:=cu.1 hb;obtain⟨⟨h1,h2⟩,_⟩:=h l hl;rcases cC.1 hb with hb|hb
 ·unfold lpT at hb;rcases cC.1 hb with hb|hb
  ·have:∀x∈([102,111,114]:List UInt8),x.toNat<128:=by decide
   exact this b hb
  ·rcases cr.1 hb with rfl|hb
   ·decide
   ·rcases cC.1 hb with hb|hb
    ·exact zEF h1.2 hb
    ·rcases cr.1 hb with rfl|hb
     ·decide
     ·exact zEF h2.2 hb
 ·rw[co.1 hb];decide
theorem zCi{l:List UInt8}(h:asc l=true)(n:Nat):asc (l.take n)=true:=eA λb hb=>zBS h (List.mem_of_mem_take hb)
theorem zCj{l:List UInt8}(h:asc l=true)(n:Nat):asc (l.drop n)=true:=eA λb hb=>zBS h (List.mem_of_mem_drop hb)
theorem zEH(r:zH)(s:Str)(bits:List Str)(hbn:0<bits.length/\bits.length<=1000)(hb:∀x∈bits,asc x.l=true/\x.l.length<=100)(h0:0<=r.p)(h1:r.p<=800000100)(hs:asc s.l=true)(hl:s.l.length<=5000):Ok (rM r s bits) (λy=>asc y.1.l=true/\y.1.l.length<=20000):=by
 unfold rM;refine Ok.bind (φ:=λp:Bool×zH=>(p.1=false->0<s.l.length)/\0<=p.2.p/\p.2.p<=800000110) ?_ λp hp=>?_
 ·refine Ok.ite_beq (λ_=>Ok.pure ⟨λh=>(by cases h),h0,(by show r.p<=_;omega)⟩) λh=>?_;refine Ok.call (sV r 2) ⟨h0,by omega⟩ λy s1 g1 g2 g3=>Ok.pure ⟨λ_=>by omega,by show 0<=s1.p;omega,by show s1.p<=_;omega⟩
 ·obtain⟨b,r1⟩:=p;simp only at hp;cases b with
  | true=>exact Ok.ite_tt (Ok.pure ⟨hs,by show s.l.length<=20000;omega⟩)
  | false=>
   have hpos:=hp.1 rfl;refine Ok.ite_ff ?_;refine Ok.call (sV r1 _) ⟨hp.2.1,by omega⟩ λy s1 g1 g2 g3=>?_;have hy:y<(s.l.length:Int):=by rcases g2 with h|h <;> omega
   refine Ok.sslc (by omega) (by omega) (by omega) λm1 e1 l1=>?_;refine Ok.call (zAx s1 bits) ⟨hbn.1,by omega,by omega⟩ λy7 s2 g4 g5=>?_;obtain⟨a7,l7⟩:=hb y7 g4;refine Ok.cat (by omega) λm2 e2 l2=>?_;refine Ok.call (sV s2 2) ⟨by omega,by omega⟩ λy10 s3 g6 g7 g8=>?_;dsimp only;rw[tW (by omega) (by omega)];refine Ok.sslc (by omega) (by omega) (by omega) λm3 e3 l3=>?_;refine Ok.cat (by omega) λm4 e4 l4=>Ok.pure ⟨?_,by show m4.l.length<=_;omega⟩;show asc m4.l=true;rw[e4,e2,e1,e3];exact nD (nD (zCj (zCi hs _) _) a7) (zCj (zCi hs _) _)
theorem drawNT(code:List UInt8):Ok (uR code) (λy=>asc y.l=true/\y.l.length<=20000):=by
 unfold uR;refine Ok.call (eE code) trivial λs hs=>?_;refine Ok.bind (drawNestV s (by omega) (by omega)) λq hq=>?_;obtain⟨n,s1⟩:=q;obtain⟨k1,k2,k3,k4⟩:=hq;dsimp only at k1 k2 k3 k4 ⊢;rw[specNT n k1 (by omega)];refine Ok.bind_some ?_;have hl:=(implNT n k1 k2).2;refine Ok.bind (zEH s1 ⟨ntT n⟩ _ (by decide) (by decide) k3 (by omega) (zEG k1) (by show (ntT n).length<=_;omega)) λp hp=>?_;obtain⟨p1,p2⟩:=p;exact Ok.pure hp
end Go.LN
namespace Go.LN
theorem zEb(code more:List UInt8):∃r,rB code more=some r/\r=true:=by
 obtain⟨y,hy,hb⟩:=drawNest code;obtain⟨t,ht,ha,hl⟩:=drawNT more;have hd:uC code=some y:=by unfold uC;rw[hy];rfl
 refine⟨true,?_,rfl⟩;unfold rB;by_cases c1:(code.length:Int)>1048576
 ·rw[decide_eq_true c1];rfl
 by_cases c2:(more.length:Int)>1048576
 ·rw[decide_eq_false c1,decide_eq_true c2];rfl
 obtain⟨n0,hn0,hT,hE⟩:∃n0,nestB n0=true/\(if nestB y then(⟨ntT y⟩:Str) else⟨[]⟩)=⟨ntT n0⟩/\(nestB y=true->n0=y):=by
  cases hv:nestB y with
  | true=>exact⟨y,hv,rfl,λ_=>rfl⟩
  | false=>exact⟨[],rfl,rfl,λh=>(by cases h)⟩
 have hnl:=(implNT n0 (sQ hn0) (oC hn0).1).2;obtain⟨⟨p1,p2⟩,hp,hP⟩:=implParseN ⟨ntT n0⟩ (zEG (sQ hn0)) (by show (ntT n0).length<=_;omega);have hp12:p2=true/\p1=n0:=by
  rcases hP with⟨e1,e2,e3⟩|⟨e1,e2,e3⟩
  ·exact⟨e1,zBo (sQ e2).lv (sQ hn0).lv e3.symm⟩
  ·exact absurd rfl (e3 n0 hn0)
 obtain⟨rfl,rfl⟩:=hp12;obtain⟨⟨a1,a2⟩,hA,hA2⟩:=implParseN t ha (by omega);obtain⟨⟨b1,b2⟩,hB,hB2⟩:=specParseN t (by omega);have hab:=hA2.uniq hB2;rw[Prod.mk.injEq] at hab;obtain⟨rfl,rfl⟩:=hab;have hbn:BN p1:=(sQ hn0).bn (by have:=(oC hn0).1;omega);simp only[decide_eq_false c1,decide_eq_false c2,bV,if_false,Option.pure_def,Option.bind_eq_bind,Option.bind_some,hd,implFN y hb,specFN y hb,hT,hp,implNest y hb,specNest y hb,beq_self_eq_true,cP,ht,hA,hB,if_true,implNs p1 y hbn];have hself:∀n:List zB,eqL lpB n n=true:=λn=>zE1.2 rfl;have hfirst:∀(b:Bool) (x:Option Bool),(b=true->p1=y)->(Option.bind (if b=true then some (!eqL lpB p1 y) else some false) λt55=>if t55=true then some false else x)=x:=λb x h=>by
  cases b with
  | false=>rfl
  | true=>rw[h rfl,hself];rfl
 rw[hfirst _ _ hE];rcases hA2 with⟨e1,e2,e3⟩|⟨e1,e2,e3⟩
 ·simp only at e1 e2 e3;subst e1;have hab:BN a1:=(sQ e2).bn (by have:=(oC e2).1;omega);have e4:(ntT a1==t.l)=true:=by rw[e3];simp
  simp only[implNs a1 a1 hab,hself,Option.bind_some,if_true,cP,bV,if_false,implFN a1 hab,e2,e4,id]
 ·simp only at e1 e2 e3;subst e1;subst e2;have hab:BN []:=⟨by simp,λ_ h=>by cases h⟩;simp only[implNs [] [] hab,hself,Option.bind_some,if_true,cJ,id]
end Go.LN
