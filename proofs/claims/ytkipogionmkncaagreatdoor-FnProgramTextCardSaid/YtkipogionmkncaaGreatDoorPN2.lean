/- Helper of the proof (see the last text). -/
import Derived.Test.YtkipogionmkncaaGreatDoorVC1
import Derived.Test.YtkipogionmkncaaGreatDoorVB1
set_option linter.unusedVariables false
set_option linter.unusedSimpArgs false
namespace Go.LN
def afc(b:UInt8):Bool:=b==42||b==43||b==45||(decide (48<=b.toNat)&&decide (b.toNat<=57))||(decide (105<=b.toNat)&&decide (b.toNat<=108))
theorem zNb:∀(k:Fin 10) (i:Fin 4),(bodyV k.val i.val).all afc=true:=by decide +kernel
theorem zHm:∀k:Fin 100,(dtx k.val).all afc=true:=by decide +kernel
theorem zMw(c:Int):afc (sgn c)=true:=by unfold sgn;split <;> rfl
theorem zOf:∀(cs:List Int) (i:Nat),(∀c∈cs,coefB c=true)->i+cs.length<=4->(T0 cs i).all afc=true
 | [],_,_,_=>rfl
 | c::cs,i,h,hi=>by
  have h1:=h c (xz ..)
  simp only[coefB,xv,yd] at h1
  simp only[xy] at hi
  have ih:=zOf cs (i+1) (λx hx=>h x (xx _ hx)) (by omega)
  unfold T0
  by_cases h0:c=0
  ·simpa [h0] using ih
  ·have hb:=zNb ⟨c.natAbs,by omega⟩ ⟨i,by omega⟩
   simp only[h0,xt,Ba,zh]
   simp only at hb
   rw[zMw,hb,ih];rfl
theorem zQr(k:Int)(h:constB k=true):(TK k).all afc=true:=by
 simp only[constB,xv,yd] at h;unfold TK;split
 ·rfl
 ·have hb:=zHm ⟨k.natAbs,by omega⟩;simp only[zh];simp only at hb;rw[zMw,hb];rfl
theorem zNc{l:List UInt8}(h:l.all afc=true):(strip l).all afc=true:=by
 unfold strip;split
 ·rfl
 ·rw[zh,xv] at h;split
  ·exact h.2
  ·rw[zh,h.1,h.2];rfl
theorem zQs{a:zA}(ha:validB a=true):(tx a).all afc=true:=by
 simp only[validB,xv,yd] at ha;obtain⟨⟨h4,hk⟩,hall⟩:=ha;unfold tx;split
 ·rfl
 ·refine zNc ?_;unfold raw;rw[Ba,zOf _ 0 (λc hc=>yb.1 hall c hc) (by omega),zQr _ hk];rfl
theorem zFF{a:zA}(ha:validB a=true){c:UInt8}(hc:afc c=false):c ∉ tx a:=λh=>by
 have:=yb.1 (zQs ha) c h;rw[hc] at this;cases this
theorem zGD{c b:UInt8}:∀{X:List (List UInt8)},b∈joinS c X->b=c∨∃x∈X,b∈x
 | [],h=>by simp[joinS] at h
 | [x],h=>.inr ⟨x,xz ..,h⟩
 | x::y::t,h=>by
  rcases yr.1 h with h|h
  ·exact .inr ⟨x,xz ..,h⟩
  ·rcases yh.1 h with h|h
   ·exact .inl h
   ·rcases zGD h with h|⟨z,hz,h⟩
    ·exact .inl h
    ·exact .inr ⟨z,xx _ hz,h⟩
theorem zL6{c:UInt8}:∀{X:List (List UInt8)},X ≠ []->(∀x∈X,c ∉ x)->cutS c (joinS c X)=X
 | [],h,_=>absurd rfl h
 | [x],_,h=>zEB (h x (xz ..))
 | x::y::t,_,h=>by
  rw[joinS,zBu (h x (xz ..)),zL6 (by simp) λz hz=>h z (xx _ hz)]
def sdT(l:List zA):List UInt8:=joinS 44 (l.map tx)
def allV(l:List zA):Prop:=l ≠ []/\∀a∈l,validB a=true
theorem zL7{l:List zA}{d:Int}(h:sideB l d=true):allV l/\l.length<=2:=by
 unfold sideB at h;simp only[xv,yd,yb] at h;obtain⟨⟨h1,h2⟩,h3⟩:=h;refine⟨⟨λe=>by rw[e] at h1;simp at h1,λa ha=>?_⟩,h2⟩;have:=h3 a ha;unfold okA at this;exact(xv _ _ ▸ this).1
theorem zEC{l:List zA}(h:allV l):cutS 44 (sdT l)=l.map tx:=by
 refine zL6 (λe=>h.1 (List.map_eq_nil_iff.1 e)) λx hx=>?_;obtain⟨a,ha,rfl⟩:=zi.1 hx;exact zFF (h.2 a ha) rfl
theorem zA0{l:List zA}(h:allV l){c:UInt8}(hc:afc c=false)(mu:c ≠ 44):c ∉ sdT l:=λhm=>by
 rcases zGD hm with e|⟨x,hx,hm⟩
 ·exact mu e
 ·obtain⟨a,ha,rfl⟩:=zi.1 hx;exact zFF (h.2 a ha) hc hm
theorem zIq:∀{l k:List zA},(∀a∈l,validB a=true)->(∀a∈k,validB a=true)->l.map tx=k.map tx->l=k
 | [],[],_,_,_=>rfl
 | [],_::_,_,_,h=>by cases h
 | _::_,[],_,_,h=>by cases h
 | a::l,b::k,h1,h2,h=>by
  rw[zl,zl,List.cons.injEq] at h
  rw[zK5 (h1 a (xz ..)) (h2 b (xz ..)) h.1,zIq (λx hx=>h1 x (xx _ hx)) (λx hx=>h2 x (xx _ hx)) h.2]
theorem zGE{l k:List zA}(h1:allV l)(h2:allV k)(h:sdT l=sdT k):l=k:=
 zIq h1.2 h2.2 (by rw[<- zEC h1,<- zEC h2,h])
def lpT(l:zD):List UInt8:=[102,111,114]++32::(sdT l.Lo++32::sdT l.Hi)
def ntT(n:List zD):List UInt8:=n.flatMap λl=>lpT l++[10]
def LV(l:zD):Prop:=allV l.Lo/\allV l.Hi
theorem zB7{l:zD}(h:LV l):cutS 32 (lpT l)=[[102,111,114],sdT l.Lo,sdT l.Hi]:=by
 unfold lpT;rw[zBu (by decide),zBu (zA0 h.1 rfl (by decide)),zEB (zA0 h.2 rfl (by decide))]
theorem zL8{l:zD}(h:LV l):(10:UInt8) ∉ lpT l:=λhm=>by
 unfold lpT at hm;simp only[yr,yh,As,or_false] at hm;rcases hm with(hm|hm|hm)|hm|hm|hm|hm
 ·revert hm;decide
 ·revert hm;decide
 ·revert hm;decide
 ·revert hm;decide
 ·exact zA0 h.1 rfl (by decide) hm
 ·revert hm;decide
 ·exact zA0 h.2 rfl (by decide) hm
theorem zL9{l k:zD}(h1:LV l)(h2:LV k)(h:lpT l=lpT k):l=k:=by
 have e:=zB7 h1;rw[h,zB7 h2] at e;simp only[List.cons.injEq,and_true,true_and] at e;obtain⟨a,b⟩:=l;obtain⟨c,d⟩:=k;rw[show a=c from zGE h1.1 h2.1 e.1.symm,show b=d from zGE h1.2 h2.2 e.2.symm]
theorem zIr{r:List UInt8}:∀{n:List zD},(∀l∈n,LV l)->cutS 10 (ntT n++r)=n.map lpT++cutS 10 r
 | [],_=>rfl
 | l::n,h=>by
  have e:ntT (l::n)++r=lpT l++10::(ntT n++r):=by simp[ntT]
  rw[e,zBu (zL8 (h l (xz ..))),zIr λx hx=>h x (xx _ hx)];rfl
theorem zBw{n:List zD}(h:nestB n=true):n.length<=4/\∀l∈n,LV l/\l.Lo.length<=2/\l.Hi.length<=2:=by
 unfold nestB at h;simp only[xv,yd,yb,zg] at h;refine⟨h.1,λl hl=>?_⟩;obtain⟨i,hi,rfl⟩:=Ao.1 hl;have:=h.2 i hi;rw[zp,ya hi,zx] at this;obtain⟨h1,h2⟩:=zL7 this.1;obtain⟨h3,h4⟩:=zL7 this.2;exact⟨⟨h1,h3⟩,h2,h4⟩
theorem zFG:∀{l k:List zD},(∀a∈l,LV a)->(∀a∈k,LV a)->l.map lpT=k.map lpT->l=k
 | [],[],_,_,_=>rfl
 | [],_::_,_,_,h=>by cases h
 | _::_,[],_,_,h=>by cases h
 | a::l,b::k,h1,h2,h=>by
  rw[zl,zl,List.cons.injEq] at h
  rw[zL9 (h1 a (xz ..)) (h2 b (xz ..)) h.1,zFG (λx hx=>h1 x (xx _ hx)) (λx hx=>h2 x (xx _ hx)) h.2]
theorem zOg{n m:List zD}(h1:∀l∈n,LV l)(h2:∀l∈m,LV l)(h:ntT n=ntT m):n=m:=by
 have e1:=zIr (r:=[]) h1;have e2:=zIr (r:=[]) h2;rw[h,e2] at e1;exact zFG h1 h2 (List.append_cancel_right e1).symm
theorem zIs{c:UInt8}:∀{u v r s:List UInt8},c ∉ u->c ∉ v->u++c::r=v++c::s->u=v/\r=s
 | [],[],_,_,_,_,h=>⟨rfl,(List.cons.inj h).2⟩
 | [],b::v,_,_,_,h2,h=>by
  have:=(List.cons.inj h).1
  exact absurd (yh.2 (.inl this)) h2
 | a::u,[],_,_,h1,_,h=>by
  have:=(List.cons.inj h).1
  exact absurd (yh.2 (.inl this.symm)) h1
 | a::u,b::v,_,_,h1,h2,h=>by
  obtain⟨e1,e2⟩:=List.cons.inj h
  obtain⟨e3,e4⟩:=zIs (λhm=>h1 (xx _ hm)) (λhm=>h2 (xx _ hm)) e2
  exact⟨by rw[e1,e3],e4⟩
def acT(a:zJ):List UInt8:=a.Array.l++91::(sdT a.Subs++[93])
theorem eM{a:zJ}{d:Int}(h:accB a d=true):(∃c:UInt8,a.Array=⟨[c]⟩/\65<=c.toNat/\c.toNat<=68)/\allV a.Subs/\a.Subs.length<=2:=by
 unfold accB at h;simp only[xv,yd,yb] at h;obtain⟨⟨h1,h2,h3⟩,h4⟩:=h;refine⟨?_,⟨λe=>by rw[e] at h2;simp at h2,λx hx=>?_⟩,h3⟩
 ·obtain⟨⟨l⟩,s⟩:=a;simp only at h1
  match l,h1 with
  | [c],h1=>
   unfold nameL at h1;simp only[xv,yd] at h1;exact⟨c,rfl,h1.1,h1.2⟩
 ·have:=h4 x hx;unfold okA at this;exact(xv _ _ ▸ this).1
theorem zOh{a b:zJ}{d d':Int}(ha:accB a d=true)(hb:accB b d'=true){r s:List UInt8}(h:acT a++r=acT b++s):a=b/\r=s:=by
 obtain⟨⟨c,e1,_⟩,v1,_⟩:=eM ha;obtain⟨⟨c',e2,_⟩,v2,_⟩:=eM hb;obtain⟨na,sa⟩:=a;obtain⟨nb,sb⟩:=b;simp only at e1 e2 v1 v2;subst e1;subst e2;have h:c::91::(sdT sa++93::r)=c'::91::(sdT sb++93::s):=by simpa [acT] using h
 rw[List.cons.injEq,List.cons.injEq] at h;obtain⟨h1,_,h2⟩:=h;obtain⟨h3,h4⟩:=zIs (zA0 v1 rfl (by decide)) (zA0 v2 rfl (by decide)) h2;subst h1;rw[zGE v1 v2 h3];exact⟨rfl,h4⟩
theorem zMx{a:zJ}{d:Int}(ha:accB a d=true):∃(c:UInt8) (t:List UInt8),acT a=c::t/\65<=c.toNat/\c.toNat<=68:=by
 obtain⟨⟨c,e1,h1,h2⟩,_⟩:=eM ha;exact⟨c,_,by unfold acT;rw[e1];rfl,h1,h2⟩
def opc(k:Int):UInt8:=if k=4 then 43 else if k=5 then 45 else 42
def exT:Nat->zF->List UInt8
 | 0,_=>[]
 | n+1,e=>if e.Kind=1 then dtx e.Num.toNat else if e.Kind=2 then 123::(tx e.Index++[125]) else if e.Kind=3 then acT e.Read
  else match e.Kids with
  | [x,y]=>40::(exT n x++opc e.Kind::(exT n y++[41]))
  | _=>[]
def isDig(b:UInt8):Bool:=decide (48<=b.toNat)&&decide (b.toNat<=57)
def noDig(r:List UInt8):Prop:=r=[]∨∃b t,r=b::t/\isDig b=false
theorem zK6:∀{u v r s:List UInt8},u.all isDig=true->v.all isDig=true->noDig r->noDig s->u++r=v++s->u=v/\r=s
 | [],[],_,_,_,_,_,_,h=>⟨rfl,h⟩
 | [],b::v,r,s,_,h2,h3,_,h=>by
  have h:r=b::(v++s):=h
  rcases h3 with e|⟨c,t,e,hc⟩
  ·rw[e] at h;cases h
  ·rw[e,List.cons.injEq] at h
   rw[h.1] at hc
   rw[zh,hc] at h2;cases h2
 | a::u,[],r,s,h1,_,_,h4,h=>by
  have h:a::(u++r)=s:=h
  rcases h4 with e|⟨c,t,e,hc⟩
  ·rw[e] at h;cases h
  ·rw[e,List.cons.injEq] at h
   rw[<- h.1] at hc
   rw[zh,hc] at h1;cases h1
 | a::u,b::v,r,s,h1,h2,h3,h4,h=>by
  rw[ze,ze,List.cons.injEq] at h
  rw[zh,xv] at h1 h2
  obtain⟨e1,e2⟩:=zK6 h1.2 h2.2 h3 h4 h.2
  exact⟨by rw[h.1,e1],e2⟩
theorem zDC:∀k:Fin 100,(dtx k.val).all isDig=true/\dtx k.val ≠ []:=by decide +kernel
theorem zMy:∀(k m:Fin 100),dtx k.val=dtx m.val->k=m:=by
 intro k m h;have h1:=(zCy k).1;rw[h,(zCy m).1] at h1;have:(m.val:Int)=(k.val:Int):=Option.some.inj h1;exact Fin.ext (by omega)
theorem zMX{a:zA}(h:noA a=true):a=⟨[],0⟩:=by
 unfold noA at h;simp only[xv,yd,beq_iff_eq] at h;obtain⟨c,k⟩:=a;have h1:c=[]:=Aw h.1;have h2:k=0:=h.2;rw[h1,h2]
theorem zMY{a:zJ}(h:noC a=true):a=⟨⟨[]⟩,[]⟩:=by
 unfold noC at h;simp only[xv,yd,beq_iff_eq] at h;obtain⟨⟨l⟩,s⟩:=a;simp only at h;rw[h.1,Aw h.2]
inductive Node (d:Int) (n:Nat):zF->Prop where
 | num (k:Nat) (h:k<=99):Node d n (.mk 1 k ⟨[],0⟩ ⟨⟨[]⟩,[]⟩ [])
 | ix (a:zA) (h:okA d a=true):Node d n (.mk 2 0 a ⟨⟨[]⟩,[]⟩ [])
 | rd (a:zJ) (h:accB a d=true):Node d n (.mk 3 0 ⟨[],0⟩ a [])
 | op (k:Int) (x y:zF) (hk:k=4∨k=5∨k=6) (hx:shapeB d n x=true) (hy:shapeB d n y=true):Node d n (.mk k 0 ⟨[],0⟩ ⟨⟨[]⟩,[]⟩ [x,y])
theorem zBR{d:Int}{n:Nat}{e:zF}(h:shapeB d (n+1) e=true):Node d n e:=by
 obtain⟨K,N,I,R,Q⟩:=e;unfold shapeB at h;simp only[xv,beq_iff_eq,yb] at h;obtain⟨⟨hk,ho⟩,hq⟩:=h;have hk:kidsN K=(Q.length:Int):=hk;have hq:∀x∈Q,shapeB d n x=true:=hq;unfold ownB at ho;have ho:(if K=2 then(N==0)&&noC R&&okA d I else if K=3 then(N==0)&&noA I&&accB R d else if K=1 then(decide (0<=N)&&decide (N<=99))&&noA I&&noC R else(N==0)&&noA I&&noC R)=true:=ho;have leaf:kidsN K=0->Q=[]:=λe=>Aw (by omega);by_cases k2:K=2
 ·subst k2;simp only[xu,xv,beq_iff_eq] at ho;rw[leaf rfl,ho.1.1,zMY ho.1.2];exact .ix I ho.2
 ·by_cases k3:K=3
  ·subst k3;rw[if_neg (by decide),if_pos rfl] at ho;simp only[xv,beq_iff_eq] at ho;rw[leaf rfl,ho.1.1,zMX ho.1.2];exact .rd R ho.2
  ·rw[if_neg k2,if_neg k3] at ho;by_cases k1:K=1
   ·subst k1;rw[if_pos rfl] at ho;simp only[xv,yd] at ho;obtain⟨⟨⟨n1,n2⟩,n3⟩,n4⟩:=ho;obtain⟨k,rfl⟩:∃k:Nat,N=(k:Int):=⟨N.toNat,by omega⟩;rw[leaf rfl,zMX n3,zMY n4];exact .num k (by omega)
   ·rw[if_neg k1] at ho;simp only[xv,beq_iff_eq] at ho;have hkk:K=4∨K=5∨K=6:=by
     unfold kidsN at hk;rw[if_neg (by omega)] at hk;by_cases hh:K=4∨K=5∨K=6
     ·exact hh
     ·rw[if_neg hh] at hk;omega
    have hl:Q.length=2:=by
     unfold kidsN at hk;rw[if_neg (by omega),if_pos hkk] at hk;omega
    rw[ho.1.1,zMX ho.1.2,zMY ho.2]
    match Q,hl,hq with
    | [x,y],_,hq=>exact .op K x y hkk (hq x (by simp)) (hq y (by simp))
theorem zDD{n k:Nat}{I:zA}{R:zJ}{Q:List zF}:exT (n+1) (.mk 1 k I R Q)=dtx k:=by
 rw[exT];exact if_pos rfl
theorem zGF{n:Nat}{N:Int}{I:zA}{R:zJ}{Q:List zF}:exT (n+1) (.mk 2 N I R Q)=123::(tx I++[125]):=by
 rw[exT];exact(if_neg (by decide:¬(2:Int)=1)).trans (if_pos rfl)
theorem zGG{n:Nat}{N:Int}{I:zA}{R:zJ}{Q:List zF}:exT (n+1) (.mk 3 N I R Q)=acT R:=by
 rw[exT];exact(if_neg (by decide:¬(3:Int)=1)).trans ((if_neg (by decide:¬(3:Int)=2)).trans (if_pos rfl))
theorem zGH{n:Nat}{k N:Int}{I:zA}{R:zJ}{x y:zF}(hk:k=4∨k=5∨k=6):exT (n+1) (.mk k N I R [x,y])=40::(exT n x++opc k::(exT n y++[41])):=by
 rw[exT];exact(if_neg (show ¬k=1 by omega)).trans ((if_neg (show ¬k=2 by omega)).trans (if_neg (show ¬k=3 by omega)))
theorem zIt{k:Nat}(h:k<=99):∃c t,dtx k=c::t/\isDig c=true:=by
 obtain⟨h1,h2⟩:=zDC ⟨k,by omega⟩;cases hd:dtx k with
 | nil=>exact absurd hd h2
 | cons c t=>
  refine⟨c,t,rfl,?_⟩;simp only at h1;rw[hd,zh,xv] at h1;exact h1.1
def hdK(c:UInt8):Nat:=if isDig c then 1 else if c=123 then 2 else if c=40 then 4 else 3
theorem zPu{c:UInt8}(h1:65<=c.toNat)(h2:c.toNat<=68):hdK c=3:=by
 unfold hdK isDig;have e1:¬c=123:=by rintro rfl;revert h2;decide
 have e2:¬c=40:=by rintro rfl;revert h1;decide
 have e3:(decide (48<=c.toNat)&&decide (c.toNat<=57))=false:=by
  rw[Bool.and_eq_false_iff];right;exact Az (by omega)
 rw[e3,if_neg e1,if_neg e2];rfl
theorem zK7{k:Int}:isDig (opc k)=false:=by
 unfold opc;split
 ·rfl
 ·split <;> rfl
theorem zPv{k m:Int}(hk:k=4∨k=5∨k=6)(hm:m=4∨m=5∨m=6)(h:opc k=opc m):k=m:=by
 rcases hk with rfl|rfl|rfl <;> rcases hm with rfl|rfl|rfl <;> first|rfl|(exfalso;revert h;decide)
theorem zQR{d:Int}{n:Nat}{e:zF}(h:Node d n e):∃c t,exT (n+1) e=c::t/\hdK c=if e.Kind=1 then 1 else if e.Kind=2 then 2 else if e.Kind=3 then 3 else 4:=by
 cases h with
 | num k h=>
  obtain⟨c,t,e,hc⟩:=zIt h;exact⟨c,t,by rw[zDD,e],by unfold hdK;rw[hc];rfl⟩
 | ix a h=>exact⟨123,_,zGF,rfl⟩
 | rd a h=>
  obtain⟨c,t,e,h1,h2⟩:=zMx h;exact⟨c,t,by rw[zGG,e],by rw[zPu h1 h2];rfl⟩
 | op k x y hk hx hy=>
  refine⟨40,_,zGH hk,?_⟩;show hdK 40=if k=1 then 1 else if k=2 then 2 else if k=3 then 3 else 4;rw[if_neg (by omega),if_neg (by omega),if_neg (by omega)];rfl
theorem zMZ{d d':Int}:∀(n m:Nat) (e f:zF) (r s:List UInt8),shapeB d n e=true->shapeB d' m f=true->noDig r->noDig s->exT n e++r=exT m f++s->e=f/\r=s
 | 0,_,_,_,_,_,h,_,_,_,_=>by cases h
 | _+1,0,_,_,_,_,_,h,_,_,_=>by cases h
 | n+1,m+1,e,f,r,s,h1,h2,h3,h4,h=>by
  have N1:=zBR h1
  have N2:=zBR h2
  obtain⟨c,t,q1,q2⟩:=zQR N1
  obtain⟨c',t',q3,q4⟩:=zQR N2
  have hc:c=c':=by
   have h':=h
   rw[q1,q3,ze,ze,List.cons.injEq] at h'
   exact h'.1
  rw[<- hc,q2] at q4
  clear q1 q2 q3 hc c c' t t'
  cases N1 with
  | num k hk=>
   cases N2 with
   | num l hl=>
    rw[zDD,zDD] at h
    obtain⟨e1,e2⟩:=zK6 (zDC ⟨k,by omega⟩).1 (zDC ⟨l,by omega⟩).1 h3 h4 h
    have:=zMy ⟨k,by omega⟩ ⟨l,by omega⟩ e1
    have:k=l:=by simpa using this
    rw[this];exact⟨rfl,e2⟩
   | ix a ha=>exact absurd (show (1:Nat)=2 from q4) (by decide)
   | rd a ha=>exact absurd (show (1:Nat)=3 from q4) (by decide)
   | op l x y hl hx hy=>
    have q4:(1:Nat)=if l=1 then 1 else if l=2 then 2 else if l=3 then 3 else 4:=q4
    rw[if_neg (by omega),if_neg (by omega),if_neg (by omega)] at q4;cases q4
  | ix a ha=>
   cases N2 with
   | num l hl=>exact absurd (show (2:Nat)=1 from q4) (by decide)
   | ix b hb=>
    rw[zGF,zGF] at h
    have h:tx a++125::r=tx b++125::s:=by simpa using h
    unfold okA at ha hb
    rw[xv] at ha hb
    obtain⟨e1,e2⟩:=zIs (zFF ha.1 rfl) (zFF hb.1 rfl) h
    rw[zK5 ha.1 hb.1 e1];exact⟨rfl,e2⟩
   | rd b hb=>exact absurd (show (2:Nat)=3 from q4) (by decide)
   | op l x y hl hx hy=>
    have q4:(2:Nat)=if l=1 then 1 else if l=2 then 2 else if l=3 then 3 else 4:=q4
    rw[if_neg (by omega),if_neg (by omega),if_neg (by omega)] at q4;cases q4
  | rd a ha=>
   cases N2 with
   | num l hl=>exact absurd (show (3:Nat)=1 from q4) (by decide)
   | ix b hb=>exact absurd (show (3:Nat)=2 from q4) (by decide)
   | rd b hb=>
    rw[zGG,zGG] at h
    obtain⟨e1,e2⟩:=zOh ha hb h
    rw[e1];exact⟨rfl,e2⟩
   | op l x y hl hx hy=>
    have q4:(3:Nat)=if l=1 then 1 else if l=2 then 2 else if l=3 then 3 else 4:=q4
    rw[if_neg (by omega),if_neg (by omega),if_neg (by omega)] at q4;cases q4
  | op k x y hk hx hy=>
   have q4:(if k=1 then 1 else if k=2 then 2 else if k=3 then 3 else 4:Nat)=_:=q4
   rw[if_neg (by omega),if_neg (by omega),if_neg (by omega)] at q4
   cases N2 with
   | num l hl=>exact absurd (show (4:Nat)=1 from q4) (by decide)
   | ix b hb=>exact absurd (show (4:Nat)=2 from q4) (by decide)
   | rd b hb=>exact absurd (show (4:Nat)=3 from q4) (by decide)
   | op l u v hl hu hv=>
    rw[zGH hk,zGH hl] at h
    have h:exT n x++opc k::(exT n y++41::r)=exT m u++opc l::(exT m v++41::s):=by simpa using h
    obtain⟨e1,e2⟩:=zMZ n m x u _ _ hx hu (.inr ⟨_,_,rfl,zK7⟩) (.inr ⟨_,_,rfl,zK7⟩) h
    rw[List.cons.injEq] at e2
    obtain⟨e3,e4⟩:=zMZ n m y v _ _ hy hv (.inr ⟨_,_,rfl,rfl⟩) (.inr ⟨_,_,rfl,rfl⟩) e2.2
    rw[List.cons.injEq] at e4
    rw[e1,e3,zPv hk hl e2.1]
    exact⟨rfl,e4.2⟩
def stT(s:zI):List UInt8:=acT s.Write++61::exT 5 s.Value
theorem dO{s:zI}{d:Int}(h:stmtB s d=true):accB s.Write d=true/\shapeB d 5 s.Value=true:=by
 unfold stmtB at h;simp only[xv] at h;exact⟨h.1.2,h.2.1⟩
theorem zOi{s t:zI}{d d':Int}(hs:stmtB s d=true)(ht:stmtB t d'=true)(h:stT s=stT t):s=t:=by
 obtain⟨a1,a2⟩:=dO hs;obtain⟨b1,b2⟩:=dO ht;unfold stT at h;obtain⟨e1,e2⟩:=zOh a1 b1 h;rw[List.cons.injEq] at e2;obtain⟨e3,_⟩:=zMZ 5 5 _ _ [] [] a2 b2 (.inl rfl) (.inl rfl) (by rw[yk,yk];exact e2.2);obtain⟨w,v⟩:=s;obtain⟨w',v'⟩:=t;simp only at e1 e3;rw[e1,e3]
theorem zOj{a:zJ}{d:Int}(ha:accB a d=true){c:UInt8}(hc:afc c=false)(h1:c ≠ 44)(h2:c ≠ 91)(h3:c ≠ 93)(h4:¬(65<=c.toNat/\c.toNat<=68)):c ∉ acT a:=λhm=>by
 obtain⟨⟨x,e1,g1,g2⟩,v1,_⟩:=eM ha;unfold acT at hm;rw[e1] at hm;simp only[yr,yh,As,or_false] at hm;rcases hm with rfl|rfl|hm|rfl
 ·exact h4 ⟨g1,g2⟩
 ·exact h2 rfl
 ·exact zA0 v1 hc h1 hm
 ·exact h3 rfl
theorem zM0{d:Int}{c:UInt8}(hc:afc c=false)(h1:c ≠ 44)(h2:c ≠ 91)(h3:c ≠ 93)(h4:¬(65<=c.toNat/\c.toNat<=68))(h5:c ≠ 40)(h6:c ≠ 41)(h7:c ≠ 123)(h8:c ≠ 125):∀(n:Nat) (e:zF),shapeB d n e=true->c ∉ exT n e
 | 0,_,h=>by cases h
 | n+1,e,h=>by
  cases zBR h with
  | num k hk=>
   rw[zDD]
   intro hm
   have:=yb.1 (zHm ⟨k,by omega⟩) c hm
   rw[hc] at this;cases this
  | ix a ha=>
   rw[zGF]
   unfold okA at ha
   rw[xv] at ha
   intro hm
   simp only[yr,yh,As,or_false] at hm
   rcases hm with rfl|hm|rfl
   ·exact h7 rfl
   ·exact zFF ha.1 hc hm
   ·exact h8 rfl
  | rd a ha=>rw[zGG];exact zOj ha hc h1 h2 h3 h4
  | op k x y hk hx hy=>
   rw[zGH hk]
   intro hm
   simp only[yr,yh,As,or_false] at hm
   rcases hm with rfl|hm|hm|hm|rfl
   ·exact h5 rfl
   ·exact zM0 hc h1 h2 h3 h4 h5 h6 h7 h8 n x hx hm
   ·rw[hm] at hc
    unfold opc at hc
    split at hc
    ·cases hc
    ·split at hc <;> cases hc
   ·exact zM0 hc h1 h2 h3 h4 h5 h6 h7 h8 n y hy hm
   ·exact h6 rfl
theorem zM1{s:zI}{d:Int}(hs:stmtB s d=true){c:UInt8}(hc:c=10∨c=32):c ∉ stT s:=λhm=>by
 obtain⟨a1,a2⟩:=dO hs;unfold stT at hm;rcases hc with rfl|rfl <;>
 ·simp only[yr,yh] at hm;rcases hm with hm|hm|hm
  ·exact zOj a1 rfl (by decide) (by decide) (by decide) (by decide) hm
  ·revert hm;decide
  ·exact zM0 rfl (by decide) (by decide) (by decide) (by decide) (by decide) (by decide) (by decide) (by decide) _ _ a2 hm
theorem zMz{s:zI}{d:Int}(hs:stmtB s d=true):∃(c:UInt8) (t:List UInt8),stT s=c::t/\65<=c.toNat/\c.toNat<=68:=by
 obtain⟨c,t,e,h1,h2⟩:=zMx (dO hs).1;exact⟨c,_,by unfold stT;rw[e];rfl,h1,h2⟩
def arL(a:zE):List UInt8:=[97,114,114,97,121,32]++(a.Name.l++a.Dims.flatMap λn=>32::dtx n.toNat)
def prL(x:zL):List (List UInt8):=[112,97,114,116]::(x.Nest.map lpT++x.Body.map stT)
def pgL(P:zH):List (List UInt8):=P.Arrays.map arL++P.Parts.flatMap prL
def pgT(P:zH):List UInt8:=([112,114,111,103,114,97,109]::pgL P).flatMap λl=>l++[10]
theorem zEN:∀{X:List (List UInt8)},(∀x∈X,(10:UInt8) ∉ x)->cutS 10 (X.flatMap λl=>l++[10])=X++[[]]
 | [],_=>rfl
 | x::X,h=>by
  have e:((x::X).flatMap λl=>l++[10])=x++10::(X.flatMap λl=>l++[10]):=by simp
  rw[e,zBu (h x (xz ..)),zEN λy hy=>h y (xx _ hy)];rfl
theorem seg{p:List UInt8->Bool}:∀{X Y r s:List (List UInt8)},(∀x∈X,p x=true)->(∀x∈Y,p x=true)->(r=[]∨∃x t,r=x::t/\p x=false)->(s=[]∨∃x t,s=x::t/\p x=false)->X++r=Y++s->X=Y/\r=s
 | [],[],_,_,_,_,_,_,h=>⟨rfl,h⟩
 | [],b::Y,r,s,_,h2,h3,_,h=>by
  have h:r=b::(Y++s):=h
  have hb:=h2 b (xz ..)
  rcases h3 with e|⟨c,t,e,hc⟩
  ·rw[e] at h;cases h
  ·rw[e,List.cons.injEq] at h
   rw[h.1,hb] at hc;cases hc
 | a::X,[],r,s,h1,_,_,h4,h=>by
  have h:a::(X++r)=s:=h
  have ha:=h1 a (xz ..)
  rcases h4 with e|⟨c,t,e,hc⟩
  ·rw[e] at h;cases h
  ·rw[e,List.cons.injEq] at h
   rw[<- h.1,ha] at hc;cases hc
 | a::X,b::Y,r,s,h1,h2,h3,h4,h=>by
  rw[ze,ze,List.cons.injEq] at h
  obtain⟨e1,e2⟩:=seg (λx hx=>h1 x (xx _ hx)) (λx hx=>h2 x (xx _ hx)) h3 h4 h.2
  exact⟨by rw[h.1,e1],e2⟩
def hdIs(p:UInt8->Bool):List UInt8->Bool
 | []=>false
 | b::_=>p b
def isUp(b:UInt8):Bool:=decide (65<=b.toNat)&&decide (b.toNat<=68)
theorem zFH{α:Type}{f:α->List UInt8}:∀{l k:List α},(∀a∈l,∀b∈k,f a=f b->a=b)->l.map f=k.map f->l=k
 | [],[],_,_=>rfl
 | [],_::_,_,h=>by cases h
 | _::_,[],_,h=>by cases h
 | a::l,b::k,h1,h=>by
  rw[zl,zl,List.cons.injEq] at h
  rw[h1 a (xz ..) b (xz ..) h.1,zFH (λx hx y hy=>h1 x (xx _ hx) y (xx _ hy)) h.2]
def PV(x:zL):Prop:=(∀l∈x.Nest,LV l)/\∀s∈x.Body,∃d:Int,stmtB s d=true
def AV1(a:zE):Prop:=(∃c:UInt8,a.Name=⟨[c]⟩/\65<=c.toNat/\c.toNat<=68)/\∀n∈a.Dims,1<=n/\n<=6
theorem zLa:∀{l k:List Int},(∀n∈l,1<=n/\n<=6)->(∀n∈k,1<=n/\n<=6)->(l.flatMap λn=>32::dtx n.toNat)=(k.flatMap λn=>32::dtx n.toNat)->l=k
 | [],[],_,_,_=>rfl
 | [],_::_,_,_,h=>by cases h
 | _::_,[],_,_,h=>by cases h
 | a::l,b::k,h1,h2,h=>by
  have a1:=h1 a (xz ..)
  have b1:=h2 b (xz ..)
  rw[yf,yf,ze,ze,List.cons.injEq] at h
  have nd:∀l:List Int,noDig (l.flatMap λn=>32::dtx n.toNat):=λl=>by
   cases l with
   | nil=>exact .inl rfl
   | cons x l=>exact .inr ⟨32,_,rfl,rfl⟩
  obtain⟨e1,e2⟩:=zK6 (zDC ⟨a.toNat,by omega⟩).1 (zDC ⟨b.toNat,by omega⟩).1 (nd l) (nd k) h.2
  have:=zMy ⟨a.toNat,by omega⟩ ⟨b.toNat,by omega⟩ e1
  have:a.toNat=b.toNat:=by simpa using this
  rw[show a=b by omega,zLa (λx hx=>h1 x (xx _ hx)) (λx hx=>h2 x (xx _ hx)) e2]
theorem zQt{a b:zE}(ha:AV1 a)(hb:AV1 b)(h:arL a=arL b):a=b:=by
 obtain⟨⟨c,e1,_⟩,h1⟩:=ha;obtain⟨⟨c',e2,_⟩,h2⟩:=hb;obtain⟨n,l⟩:=a;obtain⟨m,k⟩:=b;simp only at e1 e2 h1 h2;subst e1;subst e2;unfold arL at h;have h:=List.append_cancel_left h;have h:c::(l.flatMap λn=>32::dtx n.toNat)=c'::(k.flatMap λn=>32::dtx n.toNat):=h;rw[List.cons.injEq] at h;rw[h.1,zLa h1 h2 h.2]
theorem zM2(X:List zL):X.flatMap prL=[]∨∃x t,X.flatMap prL=x::t/\hdIs (λb=>b==97) x=false/\hdIs (λb=>b==102) x=false/\hdIs isUp x=false:=by
 cases X with
 | nil=>exact .inl rfl
 | cons x X=>exact .inr ⟨_,_,rfl,rfl,rfl,rfl⟩
theorem zQS(l:zD):hdIs (λb=>b==102) (lpT l)=true:=rfl
theorem zM3{X:List zI}(h:∀s∈X,∃d:Int,stmtB s d=true):∀x∈X.map stT,hdIs isUp x=true/\hdIs (λb=>b==102) x=false:=λx hx=>by
 obtain⟨s,hs,rfl⟩:=zi.1 hx;obtain⟨d,hd⟩:=h s hs;obtain⟨c,t,e,h1,h2⟩:=zMz hd;rw[e];refine⟨by show isUp c=true;unfold isUp;simp[h1,h2],?_⟩;show (c==102)=false;rw[yj];rintro rfl;revert h2;decide
theorem zNA:∀{X Y:List zL},(∀x∈X,PV x)->(∀x∈Y,PV x)->X.flatMap prL=Y.flatMap prL->X=Y
 | [],[],_,_,_=>rfl
 | [],_::_,_,_,h=>by cases h
 | _::_,[],_,_,h=>by cases h
 | x::X,y::Y,h1,h2,h=>by
  obtain⟨x1,x2⟩:=h1 x (xz ..)
  obtain⟨y1,y2⟩:=h2 y (xz ..)
  rw[yf,yf] at h
  have h:x.Nest.map lpT++(x.Body.map stT++X.flatMap prL)=y.Nest.map lpT++(y.Body.map stT++Y.flatMap prL):=by
   have:=(List.cons.inj h).2
   simpa using this
  have hd2:∀(B:List zI) (Z:List zL),(∀s∈B,∃d:Int,stmtB s d=true)->(B.map stT++Z.flatMap prL=[]∨∃u t,B.map stT++Z.flatMap prL=u::t/\hdIs (λb=>b==102) u=false):=λB Z hB=>by
   cases B with
   | nil=>
    rcases zM2 Z with e|⟨u,t,e,_,g,_⟩
    ·exact .inl e
    ·exact .inr ⟨u,t,e,g⟩
   | cons s B=>exact .inr ⟨stT s,B.map stT++Z.flatMap prL,rfl,(zM3 hB _ (zi.2 ⟨s,xz ..,rfl⟩)).2⟩
  obtain⟨e1,e2⟩:=seg (p:=hdIs λb=>b==102) (λz hz=>by obtain⟨l,_,rfl⟩:=zi.1 hz;exact zQS l) (λz hz=>by obtain⟨l,_,rfl⟩:=zi.1 hz;exact zQS l) (hd2 _ _ x2) (hd2 _ _ y2) h
  have pz:∀Z:List zL,Z.flatMap prL=[]∨∃u t,Z.flatMap prL=u::t/\hdIs isUp u=false:=λZ=>by
   rcases zM2 Z with e|⟨u,t,e,_,_,g⟩
   ·exact .inl e
   ·exact .inr ⟨u,t,e,g⟩
  obtain⟨e3,e4⟩:=seg (p:=hdIs isUp) (λz hz=>(zM3 x2 z hz).1) (λz hz=>(zM3 y2 z hz).1) (pz X) (pz Y) e2
  have n1:=zFG x1 y1 e1
  have n2:x.Body=y.Body:=zFH (λs hs t ht e=>by
   obtain⟨d,hd⟩:=x2 s hs
   obtain⟨d',my⟩:=y2 t ht
   exact zOi hd my e) e3
  obtain⟨a,b⟩:=x
  obtain⟨a',b'⟩:=y
  simp only at n1 n2
  rw[n1,n2,zNA (λz hz=>h1 z (xx _ hz)) (λz hz=>h2 z (xx _ hz)) e4]
theorem zQu{a:zE}(h:AV1 a):(10:UInt8) ∉ arL a:=λhm=>by
 obtain⟨⟨c,e1,g1,g2⟩,h1⟩:=h;unfold arL at hm;rw[e1] at hm;rcases yr.1 hm with hm|hm
 ·revert hm;decide
 ·rcases yr.1 hm with hm|hm
  ·have:=yq.1 hm;rw[<- this] at g1;revert g1;decide
  ·obtain⟨n,hn,hm⟩:=zd.1 hm;rcases yh.1 hm with hm|hm
   ·revert hm;decide
   ·have:=h1 n hn;have:=yb.1 (zHm ⟨n.toNat,by omega⟩) 10 hm;cases this
theorem zIu{P:zH}(h1:∀a∈P.Arrays,AV1 a)(h2:∀x∈P.Parts,PV x):∀l∈pgL P,(10:UInt8) ∉ l:=λl hl=>by
 rcases yr.1 hl with hl|hl
 ·obtain⟨a,ha,rfl⟩:=zi.1 hl;exact zQu (h1 a ha)
 ·obtain⟨x,hx,hl⟩:=zd.1 hl;obtain⟨p1,p2⟩:=h2 x hx;rcases yh.1 hl with rfl|hl
  ·decide
  ·rcases yr.1 hl with hl|hl
   ·obtain⟨n,hn,rfl⟩:=zi.1 hl;exact zL8 (p1 n hn)
   ·obtain⟨s,hs,rfl⟩:=zi.1 hl;obtain⟨d,hd⟩:=p2 s hs;exact zM1 hd (.inl rfl)
theorem zQv{P Q:zH}(h1:∀a∈P.Arrays,AV1 a)(h2:∀x∈P.Parts,PV x)(h3:∀a∈Q.Arrays,AV1 a)(h4:∀x∈Q.Parts,PV x)(h:pgT P=pgT Q):P=Q:=by
 have c1:=zEN (X:=[112,114,111,103,114,97,109]::pgL P) (λl hl=>by
  rcases yh.1 hl with rfl|hl
  ·decide
  ·exact zIu h1 h2 l hl)
 have c2:=zEN (X:=[112,114,111,103,114,97,109]::pgL Q) (λl hl=>by
  rcases yh.1 hl with rfl|hl
  ·decide
  ·exact zIu h3 h4 l hl)
 unfold pgT at h;rw[h,c2] at c1;have e:=(List.cons.inj (List.append_cancel_right c1)).2;unfold pgL at e;have pa:∀Z:List zL,Z.flatMap prL=[]∨∃u t,Z.flatMap prL=u::t/\hdIs (λb=>b==97) u=false:=λZ=>by
  rcases zM2 Z with e|⟨u,t,e,g,_,_⟩
  ·exact .inl e
  ·exact .inr ⟨u,t,e,g⟩
 obtain⟨e1,e2⟩:=seg (p:=hdIs λb=>b==97) (λz hz=>by obtain⟨l,_,rfl⟩:=zi.1 hz;rfl) (λz hz=>by obtain⟨l,_,rfl⟩:=zi.1 hz;rfl) (pa Q.Parts) (pa P.Parts) e;have n1:Q.Arrays=P.Arrays:=zFH (λa ha b hb e=>zQt (h3 a ha) (h1 b hb) e) e1;have n2:=zNA h4 h2 e2;obtain⟨a,b⟩:=P;obtain⟨a',b'⟩:=Q;simp only at n1 n2;rw[n1,n2]
def Sy(x:Option Bool)(p:Prop):Prop:=∃r:Bool,x=some r/\(r=true↔p)
theorem Sy.of{x:Option Bool}{r:Bool}{p:Prop}(h:x=some r)(hp:r=true↔p):Sy x p:=⟨r,h,hp⟩
theorem Sy.and{x y:Option Bool}{p q:Prop}(h:Sy x p)(k:Sy y q):Sy (x.bind λa=>if a=true then y else some false) (p/\q):=by
 obtain⟨r,rfl,hr⟩:=h;obtain⟨s,rfl,hs⟩:=k;cases r with
 | true=>exact⟨s,rfl,by rw[hs];exact⟨λh=>⟨hr.1 rfl,h⟩,λh=>h.2⟩⟩
 | false=>exact⟨false,rfl,⟨λh=>(by cases h),λh=>absurd (hr.2 h.1) (by decide)⟩⟩
theorem zGI{α:Type}{a b:List α}(hl:a.length=b.length){f:Int->Option (Out Unit Bool)}(step:∀(i:Nat) (h1:i<a.length) (h2:i<b.length),∃r:Bool,(r=true↔a[i]=b[i])/\f (i:Int)=if r then f ((i+1:Nat):Int) else some (.ret false))(fin:f (a.length:Int)=some (.done ())):
 ∃r:Bool,f 0=some (if r then .done () else .ret false)/\(r=true↔a=b):=by
 have fh:∀(j i:Nat),i+j=a.length->∃r:Bool,f (i:Int)=some (if r then .done () else .ret false)/\(r=true↔a.drop i=b.drop i):=by
  intro j
  induction j with
  | zero=>
   intro i hi
   refine⟨true,?_,?_⟩
   ·rw[show i=a.length by omega,fin];rfl
   ·rw[dN.2 (show a.length<=i by omega),dN.2 (show b.length<=i by omega)]
    simp
  | succ j ih=>
   intro i hi
   have h1:i<a.length:=by omega
   have h2:i<b.length:=by omega
   obtain⟨r,hr,hf⟩:=step i h1 h2
   obtain⟨s,hs,au⟩:=ih (i+1) (by omega)
   rw[gC h1,gC h2,hf]
   cases r with
   | true=>exact⟨s,hs,by rw[au,List.cons.injEq];exact⟨λh=>⟨hr.1 rfl,h⟩,λh=>h.2⟩⟩
   | false=>exact⟨false,rfl,⟨λh=>(by cases h),λh=>absurd (hr.2 (List.cons.inj h).1) (by decide)⟩⟩
 have:=fh a.length 0 (yv _)
 rwa[nZ,yn,yn] at this
theorem lne{α:Type}{a b:List α}(h:a.length ≠ b.length):((a.length:Int) != (b.length:Int))=true/\¬a=b:=⟨by simp;omega,λe=>h (by rw[e])⟩
theorem leq{α:Type}{a b:List α}(h:a.length=b.length):((a.length:Int) != (b.length:Int))=false:=by simp[h]
theorem zOk{a b:Str}:(a.l==b.l)=true↔a=b:=by
 cases a;cases b;simp
theorem implAcY(a b:zJ)(ha:BL a.Subs):Sy (kY a b) (a=b):=by
 refine⟨a.Array.l==b.Array.l&&eqL afB a.Subs b.Subs,?_,?_⟩
 ·unfold kY;rw[implSd _ _ ha];cases a.Array.l==b.Array.l <;> rfl
 ·rw[bA,zOk,zEL zHk];cases a;cases b;simp
theorem zPw{e f:zF}:e=f↔e.Kind=f.Kind/\e.Num=f.Num/\e.Index=f.Index/\e.Read=f.Read/\e.Kids=f.Kids:=by
 cases e;cases f
 simp only[zF.mk.injEq,zF.Kind,zF.Num,zF.Index,zF.Read,zF.Kids]
theorem implExY:∀(m:Nat) (e f:zF),BE m e->Sy (gH e f) (e=f)
 | m,e,f,h=>by
  obtain⟨h1,h2,h3⟩:=h.own
  have cp:e.Index.Coefs.length<=1048576:=by unfold BA at h1;omega
  have hK:Sy (xP e.Kids f.Kids) (e.Kids=f.Kids):=by
   rw[xP]
   by_cases hl:e.Kids.length=f.Kids.length
   ·obtain⟨r,hr,lh⟩:=zGI hl (f:=xA e.Kids f.Kids) (λi q1 q2=>by
     obtain⟨m',hm,hm'⟩:=h.kid (gM q1)
     obtain⟨r,hr,lh⟩:=implExY m' e.Kids[i] f.Kids[i] hm'
     refine⟨r,lh,?_⟩
     rw[xA]
     have k1:((i:Int)<(e.Kids.length:Int)):=by omega
     simp only[k1,dT,xu,yN q1,yN q2,oB,oS,same,hr]
     rw[wY (by omega)]
     cases r <;> rfl) (by rw[xA];simp)
    refine⟨r,?_,lh⟩
    simp only[leq hl,bF,xt,same,hr,oB,oS]
    cases r <;> rfl
   ·obtain⟨q1,q2⟩:=lne hl
    refine⟨false,?_,⟨λh=>(by cases h),λh=>absurd h q2⟩⟩
    simp only[q1,xu];rfl
  obtain⟨ra,ha,ha2⟩:=implAcY e.Read f.Read h2
  obtain⟨rk,hk,pn⟩:=hK
  refine⟨(e.Kind==f.Kind&&(e.Num==f.Num&&(afB e.Index f.Index&&(ra&&rk)))),?_,?_⟩
  ·rw[gH]
   simp only[implAff _ _ cp,ha,hk,same]
   cases e.Kind==f.Kind <;> cases e.Num==f.Num <;> cases afB e.Index f.Index <;> cases ra <;> cases rk <;> rfl
  ·rw[zPw]
   simp only[bA,beq_iff_eq,zHk,ha2,pn]
theorem implStY(s t:zI)(h:BS s):Sy (oM s t) (s=t):=by
 obtain⟨h1,m,h2⟩:=h;obtain⟨ra,ha,ha2⟩:=implAcY s.Write t.Write h1;obtain⟨re,he,he2⟩:=implExY m s.Value t.Value h2;refine⟨ra&&re,?_,?_⟩
 ·unfold oM;rw[ha,he];cases ra <;> cases re <;> rfl
 ·rw[bA,ha2,he2];cases s;cases t;simp
theorem implArsY(a b:List zE)(h:BR a):Sy (xJ a b tS) (a=b):=by
 obtain⟨h1,h2⟩:=h;unfold xJ;by_cases hl:a.length=b.length
 ·obtain⟨r,hr,lh⟩:=zGI hl (f:=yO a b tS) (λi q1 q2=>by
   have hd:=h2 _ (gM q1);refine⟨a[i].Name.l==b[i].Name.l&&eqI a[i].Dims b[i].Dims,?_,?_⟩
   ·rw[bA,zOk,zMq];cases a[i];cases b[i];simp
   ·rw[yO];have k1:((i:Int)<(a.length:Int)):=by omega
    have e:tS a[i] b[i]=some (a[i].Name.l==b[i].Name.l&&eqI a[i].Dims b[i].Dims):=by
     unfold tS;rw[implEqI _ _ (by omega)];cases a[i].Name.l==b[i].Name.l <;> rfl
    simp only[k1,dT,xu,yN q1,yN q2,e,oB,oS];rw[wY (by omega)];cases a[i].Name.l==b[i].Name.l&&eqI a[i].Dims b[i].Dims <;> rfl) (by rw[yO];simp)
  refine⟨r,?_,lh⟩;simp only[leq hl,bF,xt,hr,oB,oS];cases r <;> rfl
 ·obtain⟨q1,q2⟩:=lne hl;refine⟨false,?_,⟨λh=>(by cases h),λh=>absurd h q2⟩⟩;simp only[q1,xu];rfl
theorem implBodY(a b:List zI)(cH:a.length<=100000)(h:∀s∈a,BS s):Sy (xQ a b oM) (a=b):=by
 unfold xQ;by_cases hl:a.length=b.length
 ·obtain⟨r,hr,lh⟩:=zGI hl (f:=yS a b oM) (λi q1 q2=>by
   obtain⟨r,hr,lh⟩:=implStY a[i] b[i] (h _ (gM q1));refine⟨r,lh,?_⟩;rw[yS];have k1:((i:Int)<(a.length:Int)):=by omega
   simp only[k1,dT,xu,yN q1,yN q2,hr,oB,oS];rw[wY (by omega)];cases r <;> rfl) (by rw[yS];simp)
  refine⟨r,?_,lh⟩;simp only[leq hl,bF,xt,hr,oB,oS];cases r <;> rfl
 ·obtain⟨q1,q2⟩:=lne hl;refine⟨false,?_,⟨λh=>(by cases h),λh=>absurd h q2⟩⟩;simp only[q1,xu];rfl
theorem zPx{x y:zL}:x=y↔x.Nest=y.Nest/\x.Body=y.Body:=by
 cases x;cases y;simp
theorem implPartY(x y:zL)(h:BP x):Sy (tT x y) (x=y):=by
 obtain⟨x1,x2,x3⟩:=h;obtain⟨r,hr,lh⟩:=implBodY x.Body y.Body (by omega) x3;refine⟨eqL lpB x.Nest y.Nest&&r,?_,?_⟩
 ·unfold tT;rw[implNs _ _ x1,hr];cases eqL lpB x.Nest y.Nest <;> cases r <;> rfl
 ·rw[bA,zPm,lh,zPx]
theorem implPgY(P Q:zH)(h:BG P):Sy (qY P Q) (P=Q):=by
 obtain⟨a1,p1,p2⟩:=h;have hA:=implArsY P.Arrays Q.Arrays a1;have hP:Sy (xR P.Parts Q.Parts tT) (P.Parts=Q.Parts):=by
  unfold xR;by_cases hl:P.Parts.length=Q.Parts.length
  ·obtain⟨r,hr,lh⟩:=zGI hl (f:=yT P.Parts Q.Parts tT) (λi q1 q2=>by
    obtain⟨r,hr,lh⟩:=implPartY P.Parts[i] Q.Parts[i] (p2 _ (gM q1));refine⟨r,lh,?_⟩;rw[yT];have k1:((i:Int)<(P.Parts.length:Int)):=by omega
    simp only[k1,dT,xu,yN q1,yN q2,hr,oB,oS];rw[wY (by omega)];cases r <;> rfl) (by rw[yT];simp)
   refine⟨r,?_,lh⟩;simp only[leq hl,bF,xt,hr,oB,oS];cases r <;> rfl
  ·obtain⟨q1,q2⟩:=lne hl;refine⟨false,?_,⟨λh=>(by cases h),λh=>absurd h q2⟩⟩;simp only[q1,xu];rfl
 obtain⟨ra,ha,ha2⟩:=hA;obtain⟨rp,hp,hp2⟩:=hP;refine⟨ra&&rp,?_,?_⟩
 ·unfold qY;rw[ha,hp];cases ra <;> cases rp <;> rfl
 ·rw[bA,ha2,hp2];cases P;cases Q;simp
theorem zLb(c:UInt8):∀X:List (List UInt8),Lib.join X [c]=joinS c X
 | []=>rfl
 | [x]=>Lib.join_one x [c]
 | x::y::t=>by
  have:=zLb c (y::t)
  rw[joinS,<- this]
  simp[Lib.join,List.intercalate]
theorem zLc(c:UInt8):∀(X:List (List UInt8)) (n:Nat),(∀x∈X,x.length<=n)->(joinS c X).length<=(n+1)*X.length
 | [],n,h=>zt _
 | [x],n,h=>by
  have:=h x (xz ..)
  show x.length<=(n+1)*1
  omega
 | x::y::t,n,h=>by
  have h1:=h x (xz ..)
  have ih:=zLc c (y::t) n λz hz=>h z (xx _ hz)
  rw[show (x::y::t).length=(y::t).length+1 from rfl,Nat.mul_succ,joinS,lA,xy]
  omega
theorem zBA{l:List zA}(h:∀a∈l,validB a=true):(sdT l).length<=24*l.length:=by
 have:=zLc 44 (l.map tx) 23 λx hx=>by
  obtain⟨a,ha,rfl⟩:=zi.1 hx;exact zCL (h a ha)
 rw[lM] at this;exact this
theorem eX{α:Type}{l:List α}{f:Str->Int->Option Str}{g:α->List UInt8}{C B:Nat}
 (step:∀(i:Nat) (h:i<l.length) (o:Str),o.l.length<=C+B*i->(g l[i]).length<=B/\f o (i:Int)=f ⟨o.l++g l[i]⟩ ((i+1:Nat):Int))
 (fin:∀o,f o (l.length:Int)=some o) (o:Str) (ho:o.l.length<=C):f o 0=some ⟨o.l++l.flatMap g⟩/\(l.flatMap g).length<=B*l.length:=by
 have fh:∀(j i:Nat) (o:Str),i+j=l.length->o.l.length<=C+B*i->f o (i:Int)=some ⟨o.l++(l.drop i).flatMap g⟩/\((l.drop i).flatMap g).length<=B*j:=by
  intro j
  induction j with
  | zero=>
   intro i o hi ho
   rw[show i=l.length by omega,fin,dN.2 (zf _)]
   simp
  | succ j ih=>
   intro i o hi ho
   have aG:i<l.length:=by omega
   obtain⟨h1,h2⟩:=step i aG o ho
   obtain⟨k1,k2⟩:=ih (i+1) ⟨o.l++g l[i]⟩ (by omega) (by rw[Nat.mul_succ];simp only[lA];omega)
   rw[h2,k1,gC aG,yf,lA,Nat.mul_succ]
   exact⟨by simp,by omega⟩
 have:=fh l.length 0 o (yv _) (by omega)
 rwa[nZ,yn] at this
theorem implAT(l:List zA)(h:∀a∈l,validB a=true)(hl:l.length<=100):oT l=some ⟨sdT l⟩:=by
 unfold oT;have fh:∀(j i:Nat) (o:List Str),i+j=l.length->o=(l.take i).map (λa=>(⟨tx a⟩:Str))->qF l o (i:Int)=some (l.map λa=>(⟨tx a⟩:Str)):=by
  intro j
  induction j with
  | zero=>
   intro i o hi ho;rw[qF];have:¬((i:Int)<(l.length:Int)):=by omega
   simp only[this,dF,bF,xt,ho];rw[zb (by omega)];rfl
  | succ j ih=>
   intro i o hi ho;rw[qF];have aG:i<l.length:=by omega
   have hc:((i:Int)<(l.length:Int)):=by omega
   have pu:o.length=i:=by rw[ho,lM,yl];omega
   simp only[hc,dT,xu,yN aG,oB,oS,zHA _ (h _ (gM aG)),sX (show (o.length+[(⟨tx l[i]⟩:Str)].length)*16<=140737488355328 by simp;omega)];rw[wY (by omega)];exact ih (i+1) _ (by omega) (by rw[ho,Ab,ya aG,List.map_append];rfl)
 have h1:=fh _ 0 [] (yv _) (by simp);rw[nZ] at h1;rw[h1];simp only[oB,oS];have e:(l.map λa=>(⟨tx a⟩:Str)).map (·.l)=l.map tx:=by rw[List.map_map];rfl
 have hj:Lib.join (l.map tx) (⟨[44]⟩:Str).l=sdT l:=zLb 44 _;have hb:=zBA h;unfold zAX;rw[e,hj,if_pos ⟨by rw[lM];omega,by omega⟩];rfl
theorem zIv{l:zD}(h:LV l/\l.Lo.length<=2/\l.Hi.length<=2):(lpT l).length<=101:=by
 obtain⟨⟨h1,h2⟩,h3,h4⟩:=h;have s1:=zBA h1.2;have s2:=zBA h2.2;unfold lpT;simp only[lA,xy,yo];omega
theorem vM{o:Str}{b:List UInt8}(h:o.l.length+b.length<=9223372036854775807):cat o ⟨b⟩=some ⟨o.l++b⟩:=fU h
theorem implNT(n:List zD)(h:∀l∈n,LV l/\l.Lo.length<=2/\l.Hi.length<=2)(hn:n.length<=4):eI n=some ⟨ntT n⟩/\(ntT n).length<=408:=by
 have hl:=eX (l:=n) (f:=oU n) (g:=λl=>lpT l++[10]) (C:=0) (B:=102) (λi hi o ho=>by
  have hh:=h _ (gM hi);have hL:=zIv hh;obtain⟨⟨h1,h2⟩,h3,h4⟩:=hh;have s1:=zBA h1.2;have s2:=zBA h2.2;have t1:=implAT _ h1.2 (by omega);have t2:=implAT _ h2.2 (by omega);refine⟨by simp only[lA,xy,yo];omega,?_⟩;have hc:((i:Int)<(n.length:Int)):=by omega
  rw[oU];simp only[hc,dT,xu,yN hi,oB,oS,t1,t2];have e:lpT n[i]++[10]=([102,111,114,32]++sdT n[i].Lo++[32]++sdT n[i].Hi)++[10]:=by unfold lpT;simp
  rw[e];generalize sdT n[i].Lo=u at s1 ⊢;generalize sdT n[i].Hi=v at s2 ⊢;rw[vM (by simp;omega)];simp only[oS];rw[vM (by simp;omega)];simp only[oS];rw[vM (by simp;omega)];simp only[oS];rw[vM (by simp;omega)];simp only[oS];rw[vM (by simp;omega)];simp only[oS];rw[wY (by omega)]) (λo=>by
  rw[oU];simp) ⟨[]⟩ (zf _)
 obtain⟨h1,h2⟩:=hl;unfold eI;rw[h1];refine⟨rfl,?_⟩;have:(ntT n).length<=102*n.length:=h2;omega
theorem zK8{a:zJ}{d:Int}(h:accB a d=true):(acT a).length<=51:=by
 obtain⟨⟨c,e,_⟩,h1,h2⟩:=eM h;have:=zBA h1.2;unfold acT;rw[e];simp only[lA,xy,yo];omega
theorem implAcT(a:zJ){d:Int}(h:accB a d=true):kX a=some ⟨acT a⟩:=by
 obtain⟨⟨c,e,_⟩,h1,h2⟩:=eM h;have s1:=zBA h1.2;have t1:=implAT _ h1.2 (by omega);unfold kX acT;rw[e];simp only[t1,oB,oS];generalize sdT a.Subs=u at s1 ⊢;rw[vM (by simp)];simp only[oS];rw[vM (by simp;omega)];simp only[oS];rw[vM (by simp;omega)];simp
theorem zJs{k:Int}(hk:k=4∨k=5∨k=6):sslc (⟨[43,45,42]⟩:Str) (W (k - 4)) (W (W (k - 4)+1))=some ⟨[opc k]⟩:=by
 rcases hk with rfl|rfl|rfl <;> rfl
theorem implExT{d:Int}:∀(n:Nat) (e:zF),n<=10->shapeB d n e=true->pD e=some ⟨exT n e⟩/\(exT n e).length+3<=60*2 ^ n
 | 0,_,_,h=>by cases h
 | n+1,e,hn,h=>by
  have h2:1<=2 ^ n:=AP
  have h3:2 ^ n<=2 ^ 10:=AD (by omega) (by omega)
  rw[Nat.pow_succ]
  cases zBR h with
  | num k hk=>
   rw[pD,zDD]
   have hd:=kM k
   have t:=zEM k hk
   have e1:((zF.mk 1 k ⟨[],0⟩ ⟨⟨[]⟩,[]⟩ []).Kind==1)=true:=rfl
   have e2:(zF.mk 1 k ⟨[],0⟩ ⟨⟨[]⟩,[]⟩ []).Num=(k:Int):=rfl
   rw[if_pos e1,e2,t]
   exact⟨rfl,by omega⟩
  | ix a ha=>
   rw[pD,zGF]
   unfold okA at ha
   rw[bA] at ha
   have hl:=zCL ha.1
   have t:=zHA a ha.1
   have e1:((zF.mk 2 0 a ⟨⟨[]⟩,[]⟩ []).Kind==1)=false:=rfl
   have e2:((zF.mk 2 0 a ⟨⟨[]⟩,[]⟩ []).Kind==2)=true:=rfl
   have e3:(zF.mk 2 0 a ⟨⟨[]⟩,[]⟩ []).Index=a:=rfl
   rw[e1,e2,e3,t]
   generalize tx a=u at hl ⊢
   simp only[bF,xt,xu,oB,oS]
   rw[vM (by simp;omega)];simp only[oS]
   rw[vM (by simp;omega)]
   exact⟨rfl,by simp only[lA,xy,yo];omega⟩
  | rd a ha=>
   rw[pD,zGG]
   have hl:=zK8 ha
   have t:=implAcT a ha
   have e1:((zF.mk 3 0 ⟨[],0⟩ a []).Kind==1)=false:=rfl
   have e2:((zF.mk 3 0 ⟨[],0⟩ a []).Kind==2)=false:=rfl
   have e3:((zF.mk 3 0 ⟨[],0⟩ a []).Kind==3)=true:=rfl
   have e4:(zF.mk 3 0 ⟨[],0⟩ a []).Read=a:=rfl
   rw[e1,e2,e3,e4,t]
   exact⟨rfl,by omega⟩
  | op k x y hk hx hy=>
   rw[pD,zGH hk]
   obtain⟨t1,l1⟩:=implExT n x (by omega) hx
   obtain⟨t2,l2⟩:=implExT n y (by omega) hy
   have e1:((zF.mk k 0 ⟨[],0⟩ ⟨⟨[]⟩,[]⟩ [x,y]).Kind==1)=false:=by show (k==1)=false;rw[yj];omega
   have e2:((zF.mk k 0 ⟨[],0⟩ ⟨⟨[]⟩,[]⟩ [x,y]).Kind==2)=false:=by show (k==2)=false;rw[yj];omega
   have e3:((zF.mk k 0 ⟨[],0⟩ ⟨⟨[]⟩,[]⟩ [x,y]).Kind==3)=false:=by show (k==3)=false;rw[yj];omega
   have e4:idx (zF.mk k 0 ⟨[],0⟩ ⟨⟨[]⟩,[]⟩ [x,y]).Kids 0=some x:=rfl
   have e5:idx (zF.mk k 0 ⟨[],0⟩ ⟨⟨[]⟩,[]⟩ [x,y]).Kids 1=some y:=rfl
   have e6:(zF.mk k 0 ⟨[],0⟩ ⟨⟨[]⟩,[]⟩ [x,y]).Kind=k:=rfl
   rw[e1,e2,e3,e4,e5,e6,zJs hk]
   simp only[bF,xt,oB,oS,same,t1,t2]
   generalize exT n x=u at l1 ⊢
   generalize exT n y=v at l2 ⊢
   rw[vM (by simp;omega)];simp only[oS]
   rw[vM (by simp;omega)];simp only[oS]
   rw[vM (by simp;omega)];simp only[oS]
   rw[vM (by simp;omega)]
   refine⟨by simp,?_⟩
   simp only[lA,xy,yo]
   omega
theorem zHD{s:zI}{d:Int}(h:stmtB s d=true):(stT s).length<=2000:=by
 obtain⟨a1,a2⟩:=dO h;have h1:=zK8 a1;have h2:=(implExT 5 _ (by omega) a2).2;unfold stT;simp only[lA,xy];omega
theorem implStT(s:zI){d:Int}(h:stmtB s d=true):gE s=some ⟨stT s⟩:=by
 obtain⟨a1,a2⟩:=dO h;have h1:=zK8 a1;have h2:=implExT 5 _ (by omega) a2;obtain⟨h2,h3⟩:=h2;unfold gE stT;simp only[implAcT _ a1,h2,oB,oS];generalize acT s.Write=u at h1 ⊢;generalize exT 5 s.Value=v at h3 ⊢;rw[vM (by simp;omega)];simp only[oS];rw[vM (by simp;omega)];simp
theorem zNd{l:List UInt8}(h:nameL l=true):∃c:UInt8,l=[c]/\65<=c.toNat/\c.toNat<=68:=by
 match l,h with
 | [c],h=>
  unfold nameL at h;simp only[bA,yd] at h;exact⟨c,rfl,h.1,h.2⟩
theorem zQw{A:List zE}(h:arrB A=true):A.length<=4/\∀a∈A,AV1 a/\a.Dims.length<=2:=by
 unfold arrB at h;simp only[bA,yd,yb,zg] at h;refine⟨h.1,λa ha=>?_⟩;obtain⟨i,hi,rfl⟩:=Ao.1 ha;have:=h.2 i hi;unfold arrI at this;rw[zp,ya hi,zx] at this;simp only[bA,yd,yb] at this;obtain⟨⟨⟨k1,_⟩,_,k2⟩,k3⟩:=this;obtain⟨c,e,c1,c2⟩:=zNd k1;refine⟨⟨⟨c,?_,c1,c2⟩,λn hn=>?_⟩,k2⟩
 ·exact(show ∀s:Str,s.l=[c]->s=⟨[c]⟩ from λs h=>by cases s with|mk l=>exact congrArg Str.mk h) _ e
 ·have:=k3 n hn;unfold dimB at this;simpa using this
theorem zFI{A:List zE}{x:zL}(h:partB A x=true):nestB x.Nest=true/\x.Body.length<=4/\∀s∈x.Body,stmtB s (x.Nest.length:Int)=true:=by
 unfold partB at h;simp only[bA] at h;obtain⟨⟨h1,h2⟩,_⟩:=h;refine⟨?_,?_⟩
 ·unfold nestPts at h1;split at h1
  ·rename_i hh;exact hh.1
  ·cases h1
 ·unfold bodyB at h2;simp only[bA,yd,yb] at h2;exact⟨h2.1.2,h2.2⟩
theorem zK9{A:List zE}{x:zL}(h:partB A x=true):PV x:=by
 obtain⟨h1,_,h2⟩:=zFI h;exact⟨λl hl=>((zBw h1).2 l hl).1,λs hs=>⟨_,h2 s hs⟩⟩
theorem zA1{P:zH}(h:validP P=true):(P.Arrays.length<=4/\∀a∈P.Arrays,AV1 a/\a.Dims.length<=2)/\P.Parts.length<=4/\∀x∈P.Parts,partB P.Arrays x=true:=by
 simp only[validP,progB,bA,yd] at h;obtain⟨⟨⟨h1,h2⟩,h3⟩,_⟩:=h;refine⟨zQw h1,h2,λx hx=>?_⟩;obtain⟨i,hi,rfl⟩:=Ao.1 hx;have:=yb.1 h3 i (List.mem_range'_1.2 ⟨zt _,by omega⟩);rwa[show gP P i=P.Parts[i] by simp[gP,hi]] at this
def arN(a:zE):List UInt8:=a.Dims.flatMap λn=>32::dtx n.toNat
theorem implDm(a:zE)(h:∀n∈a.Dims,1<=n/\n<=6)(hl:a.Dims.length<=2)(o:Str)(ho:o.l.length<=100000):sG a o 0=some ⟨o.l++arN a⟩/\(arN a).length<=6:=by
 have:=eX (l:=a.Dims) (f:=sG a) (g:=λn=>32::dtx n.toNat) (C:=100000) (B:=3) (λi hi o ho=>by
  have hd:=h _ (gM hi);have u6:=kM a.Dims[i].toNat;refine⟨by simp only[xy];omega,?_⟩;have hc:((i:Int)<(a.Dims.length:Int)):=by omega
  have t:=zEM a.Dims[i].toNat (by omega);rw[show ((a.Dims[i].toNat:Nat):Int)=a.Dims[i] by omega] at t;rw[sG];simp only[hc,dT,xu,yN hi,oB,oS,t];generalize dtx a.Dims[i].toNat=u at u6 ⊢;rw[vM (by simp;omega)];simp only[oS];rw[vM (by simp;omega)];simp only[oS];rw[wY (by omega)];rfl) (λo=>by rw[sG];simp) o ho
 obtain⟨h1,h2⟩:=this;exact⟨h1,by unfold arN;omega⟩
theorem implPgT(P:zH)(hv:validP P=true):kE P=some ⟨pgT P⟩:=by
 obtain⟨⟨a0,a1⟩,p0,p1⟩:=zA1 hv;have hA:=eX (l:=P.Arrays) (f:=qG P) (g:=λa=>arL a++[10]) (C:=8) (B:=20) (λi hi o ho=>by
  obtain⟨⟨⟨c,e,_⟩,k2⟩,k3⟩:=a1 _ (gM hi);have hm:=implDm _ k2 k3 ⟨o.l++([97,114,114,97,121,32]++[c])⟩ (by simp;omega);obtain⟨m1,m2⟩:=hm;have eL:arL P.Arrays[i]++[10]=[97,114,114,97,121,32]++[c]++arN P.Arrays[i]++[10]:=by unfold arL arN;rw[e];simp
  rw[eL];refine⟨by simp;omega,?_⟩;have hc:((i:Int)<(P.Arrays.length:Int)):=by omega
  rw[qG];simp only[hc,dT,xu,yN hi,oB,oS,e];rw[vM (by simp)];simp only[oS];rw[vM (by simp;omega)];simp only[oS];rw[m1];simp only[oS];generalize arN P.Arrays[i]=u at m2 ⊢;rw[vM (by simp;omega)];simp only[oS];rw[wY (by omega)];simp) (λo=>by rw[qG];simp) ⟨[112,114,111,103,114,97,109,10]⟩ (by simp)
 obtain⟨A1,A2⟩:=hA;have hP:=eX (l:=P.Parts) (f:=qI P) (g:=λx=>[112,97,114,116,10]++ntT x.Nest++x.Body.flatMap λs=>stT s++[10]) (C:=100) (B:=10000) (λi hi o ho=>by
  obtain⟨n1,n2,n3⟩:=zFI (p1 _ (gM hi));obtain⟨v1,v2⟩:=zBw n1;obtain⟨t1,t2⟩:=implNT _ v2 v1;have hB:=eX (l:=P.Parts[i].Body) (f:=qH P.Parts[i]) (g:=λs=>stT s++[10]) (C:=100000) (B:=2001) (λj hj o ho=>by
   have q1:=n3 _ (gM hj);have q2:=implStT _ q1;have q3:=zHD q1;refine⟨by simp;omega,?_⟩;have hc:((j:Int)<(P.Parts[i].Body.length:Int)):=by omega
   rw[qH];simp only[hc,dT,xu,yN hj,oB,oS,q2];generalize stT P.Parts[i].Body[j]=u at q3 ⊢;rw[vM (by simp;omega)];simp only[oS];rw[vM (by simp;omega)];simp only[oS];rw[wY (by omega)]) (λo=>by rw[qH];simp) ⟨o.l++([112,97,114,116,10]++ntT P.Parts[i].Nest)⟩ (by simp;omega)
  obtain⟨B1,B2⟩:=hB;refine⟨by simp only[lA,xy,yo];omega,?_⟩;have hc:((i:Int)<(P.Parts.length:Int)):=by omega
  rw[qI];simp only[hc,dT,xu,yN hi,oB,oS,t1];generalize hu:ntT P.Parts[i].Nest=u at t2 B1 ⊢;rw[vM (by simp;omega)];simp only[oS];rw[vM (by simp;omega)];simp only[oS];rw[B1];simp only[oS];rw[wY (by omega)];simp) (λo=>by rw[qI];simp) ⟨[112,114,111,103,114,97,109,10]++P.Arrays.flatMap λa=>arL a++[10]⟩ (by simp only[lA,xy,yo];omega)
 unfold kE;rw[A1];simp only[oB,oS];rw[hP.1];simp only[oS,oP,id]
 congr 2
 unfold pgT pgL;rw[yf,zu,Ah,List.flatMap_assoc];have e:(λx=>([112,97,114,116,10]++ntT x.Nest++x.Body.flatMap λs=>stT s++[10]:List UInt8))=λx=>(prL x).flatMap λl=>l++[10]:=by
  funext x
  unfold prL ntT;rw[yf,zu,Ah,Ah];simp
 rw[e];simp
theorem implFP(P:zH)(h:BG P):qW P=some (if validP P then⟨pgT P⟩ else⟨[]⟩):=by
 unfold qW;rw[implValidP P h];cases hv:validP P with
 | false=>rfl
 | true=>
  rw[implPgT P hv];rfl
theorem zOl(P:zH):pgT P ≠ []:=by
 unfold pgT;rw[yf];exact λe=>by cases (A3.1 (A3.1 e).1).1
theorem zM4{P Q:zH}(hP:validP P=true)(hQ:validP Q=true):pgT P=pgT Q↔P=Q:=by
 refine⟨λh=>?_,λh=>by rw[h]⟩;obtain⟨⟨_,a1⟩,_,p1⟩:=zA1 hP;obtain⟨⟨_,b1⟩,_,q1⟩:=zA1 hQ;exact zQv (λa ha=>(a1 a ha).1) (λx hx=>zK9 (p1 x hx)) (λa ha=>(b1 a ha).1) (λx hx=>zK9 (q1 x hx)) h
def DXq(q:Nat)(x:zL):Prop:=QN q x.Nest/\x.Body.length<=1000/\∀s∈x.Body,QS q s
def DQ(q:Nat)(P:zH):Prop:=(P.Arrays.length<=1000+q/\∀a∈P.Arrays,a.Dims.length<=1000)/\P.Parts.length<=1000/\∀x∈P.Parts,DXq q x
theorem DXq.up{q r:Nat}{x:zL}(h:DXq q x)(hr:q<=r):DXq r x:=⟨h.1.up hr,h.2.1,λs hs=>(h.2.2 s hs).up hr⟩
theorem DXq.bp{q:Nat}{x:zL}(h:DXq q x)(hq:q<=300):BP x:=⟨h.1.bn (by omega),by have:=h.2.1;omega,λs hs=>(h.2.2 s hs).bs (by omega)⟩
theorem DQ.bg{q:Nat}{P:zH}(h:DQ q P)(hq:q<=300):BG P:=⟨⟨by have:=h.1.1;omega,h.1.2⟩,by have:=h.2.1;omega,λx hx=>(h.2.2 x hx).bp hq⟩
def PBq(q:Nat)(l:List zL):Prop:=l.length<=1000/\∀x∈l,DXq q x
theorem PBq.set{q:Nat}{l:List zL}(h:PBq q l){x:zL}(hx:DXq q x)(k:Nat):PBq q (l.set k x):=⟨by rw[zk];exact h.1,zBQ h.2 hx k⟩
theorem SG.dq{P:zH}(h:SG 1000 P):DQ 100 P:=by
 obtain⟨⟨h1,h2⟩,h3,h4⟩:=h.dp;exact⟨⟨by omega,h2⟩,h3,h4⟩
def ResL(t:List UInt8)(r:List zA×Bool):Prop:=(r.2=true/\allV r.1/\r.1.length<=2/\t=sdT r.1)∨(r.2=false/\r.1=[]/\∀l,allV l->l.length<=2->t ≠ sdT l)
theorem zHn{c:UInt8}:∀{s:List UInt8},asc s=true->∀x∈cutS c s,asc x=true
 | [],_,x,hx=>by
  rw[cutS,yq] at hx;rw[hx];rfl
 | b::s,h,x,hx=>by
  have h2:=zHl (a:=[b]) (b:=s) h
  have ih:=zHn (c:=c) h2.2
  unfold cutS at hx
  split at hx
  ·rcases yh.1 hx with rfl|hx
   ·rfl
   ·exact ih x hx
  ·cases hq:cutS c s with
   | nil=>exact absurd hq (zDB c s)
   | cons y t=>
    rw[hq] at hx ih
    rcases yh.1 hx with rfl|hx
    ·exact zCd h2.1 (ih y (xz ..))
    ·exact ih x (xx _ hx)
theorem zLd{X:List (List UInt8)}(hX:∀x∈X,asc x=true/\x.length<=1048576)(hl:X.length<=10000000):∀(j q:Nat) (o:List zA),q+j=X.length->o.length=q->q<=2->(∀a∈o,validB a=true)->X.take q=o.map tx ->
 (∃o2,sH (X.map Str.mk) o (q:Int)=some (.done o2)/\(∀a∈o2,validB a=true)/\o2.length<=2/\X=o2.map tx)∨(sH (X.map Str.mk) o (q:Int)=some (.ret ([],false))/\∀l:List zA,(∀a∈l,validB a=true)->l.length<=2->X ≠ l.map tx):=by
 intro j
 induction j with
 | zero=>
  intro q o hq ho h2 hv ht
  left
  refine⟨o,?_,hv,by omega,by rw[<- ht,zb (by omega)]⟩
  rw[sH]
  have:¬((q:Int)<((X.map Str.mk).length:Int)):=by rw[ym];omega
  simp only[this,ye,xq,xt,xw,id]
 | succ j ih=>
  intro q o hq ho h2 hv ht
  have aG:q<X.length:=by omega
  have hc:((q:Int)<((X.map Str.mk).length:Int)):=by rw[ym];omega
  obtain⟨a1,a2⟩:=hX _ (List.getElem_mem aG)
  have hx:idx (X.map Str.mk) (q:Int)=some ⟨X[q]⟩:=by rw[yN (by rw[ym];exact aG),A7]
  obtain⟨r,hr,iK⟩:=implParse ⟨X[q]⟩ a1 a2
  obtain⟨r1,r2⟩:=r
  rw[sH]
  simp only[hc,yg,xu,hx,hr,xr,xp,xw]
  rcases iK with⟨e1,e2,e3⟩|⟨e1,e2,e3⟩ <;> simp only at e1 e2 e3
  ·subst e1
   by_cases j3:q=2
   ·have hb:((o.length:Int)==2)=true:=by rw[ho,j3];rfl
    right
    simp only[y0,xq,xt,hb,xu,xp]
    exact⟨trivial,λl _ h3 e=>by rw[e,ym] at aG;omega⟩
   ·have hb:((o.length:Int)==2)=false:=by
     rw[ho];simp;omega
    have hn:=ih (q+1) (o++[r1]) (by omega) (by rw[yc,ho];rfl) (by omega) (λa ha=>by
     rcases yr.1 ha with ha|ha
     ·exact hv a ha
     ·rw[yq.1 ha];exact e2) (by rw[List.map_append,<- ht,Ab,ya aG];simp[e3])
    simp only[y0,xq,xt,hb,xp,sX (show (o.length+[r1].length)*32<=140737488355328 by simp;omega)]
    rw[wY (by omega)]
    exact hn
  ·subst e1
   right
   simp only[yx,xu,xp]
   refine⟨trivial,λl h1 h3 e=>?_⟩
   have:q<l.length:=by rw[e,ym] at aG;exact aG
   have h9:X[q]=tx l[q]:=by simp[e]
   exact e3 l[q] (h1 _ (List.getElem_mem this)) h9
theorem implAffs(t:Str)(ha:asc t.l=true)(hl:t.l.length<=1000000):∃r,oV t=some r/\ResL t.l r:=by
 obtain⟨t⟩:=t;simp only at ha hl;have qh:=zGC 44 t;have hX:∀x∈cutS 44 t,asc x=true/\x.length<=1048576:=λx hx=>⟨zHn ha x hx,by have:=zBv hx;omega⟩;have h1:=zLd hX (by omega) _ 0 [] (yv _) rfl (by omega) (λa h=>by cases h) rfl;rw[Aa] at h1;unfold oV;rw[zEA ⟨t⟩ 44 (by show t.length<=_;omega)];simp only[xr,xp];rcases h1 with⟨o2,h1,h2,h3,h4⟩|⟨h1,h2⟩
 ·rw[h1];refine⟨(o2,true),rfl,.inl ⟨rfl,⟨λe=>?_,h2⟩,h3,?_⟩⟩
  ·have e:o2=[]:=e;rw[e] at h4;exact zDB 44 t h4
  ·show t=sdT o2;unfold sdT;rw[<- h4,zIp]
 ·rw[h1];refine⟨([],false),rfl,.inr ⟨rfl,rfl,λl hv r3 e=>?_⟩⟩;have e:t=sdT l:=e;exact h2 l hv.2 r3 (by rw[e,zEC hv])
def ResLp(t:List UInt8)(r:zD×Bool):Prop:=(r.2=true/\LV r.1/\r.1.Lo.length<=2/\r.1.Hi.length<=2/\t=lpT r.1)∨(r.2=false/\∀l,LV l->l.Lo.length<=2->l.Hi.length<=2->t ≠ lpT l)
theorem implLoop(t:Str)(ha:asc t.l=true)(hl:t.l.length<=1000000):∃r,gG t=some r/\ResLp t.l r:=by
 obtain⟨t⟩:=t;simp only at ha hl;have pi:=zHn (c:=32) ha;have aP:∀x∈cutS 32 t,x.length<=1000000:=λx hx=>zw (zBv hx) hl;unfold gG;rw[zEA ⟨t⟩ 32 (by show t.length<=_;omega)];have hj:=zIp 32 t;generalize hC:cutS 32 t=C at pi aP hj;have pr:(∀a b,C=[[102,111,114],a,b]->False)->∀l,LV l->l.Lo.length<=2->l.Hi.length<=2->t ≠ lpT l:=λh l hl _ _ e=>by
  rw[e,zB7 hl] at hC;exact h _ _ hC.symm
 by_cases h3:C.length=3
 ·match C,h3,pi,aP,pr,hj with
  | [w,a,b],_,pi,aP,pr,hj=>
   by_cases hw:w=[102,111,114]
   ·subst hw;obtain⟨⟨p1,p2⟩,hp,hpr⟩:=implAffs ⟨a⟩ (pi a (by simp)) (aP a (by simp));obtain⟨⟨q1,q2⟩,hq,hqr⟩:=implAffs ⟨b⟩ (pi b (by simp)) (aP b (by simp));have hj:t=[102,111,114]++32::(a++32::b):=by rw[<- hj];rfl
    refine⟨(⟨p1,q1⟩,p2&&q2),?_,?_⟩
    ·simp[hp,hq,idx,Str.mk];cases p2 <;> rfl
    ·rcases hpr with⟨e1,e2,e3,e4⟩|⟨e1,e2,e3⟩ <;> simp only at e1 e2 e3
     ·rcases hqr with⟨f1,f2,f3,f4⟩|⟨f1,f2,f3⟩ <;> simp only at f1 f2 f3
      ·left;refine⟨by rw[e1,f1];rfl,⟨e2,f2⟩,e3,f3,?_⟩;show t=lpT ⟨p1,q1⟩;unfold lpT;rw[hj];simp only at e4 f4;rw[e4,f4]
      ·right;refine⟨by rw[f1,Bool.and_false],λl hl h2 h2' e=>?_⟩;have e:t=lpT l:=e;rw[e,zB7 hl] at hC;simp only[List.cons.injEq,and_true,true_and] at hC;exact f3 l.Hi hl.2 h2' hC.2.symm
     ·right;refine⟨by rw[e1,Bg],λl hl h2 h2' e=>?_⟩;have e:t=lpT l:=e;rw[e,zB7 hl] at hC;simp only[List.cons.injEq,and_true,true_and] at hC;exact e3 l.Lo hl.1 h2 hC.1.symm
   ·refine⟨(⟨[],[]⟩,false),?_,.inr ⟨rfl,pr λa b e=>hw (List.cons.inj e).1⟩⟩;have:(w==[102,111,114])=false:=by simpa using hw
    simp[idx,this,hw]
 ·refine⟨(⟨[],[]⟩,false),?_,.inr ⟨rfl,pr λa b e=>h3 (by rw[e];rfl)⟩⟩;have h4:¬(C.length:Int)=3:=by omega
  simp[h4]
def NV(n:List zD):Prop:=∀l∈n,LV l/\l.Lo.length<=2/\l.Hi.length<=2
theorem NV.lv{n:List zD}(h:NV n):∀l∈n,LV l:=λl hl=>(h l hl).1
theorem zKa{n:List zD}(h:nestB n=true):NV n:=(zBw h).2
theorem NV.bn{n:List zD}(h:NV n)(hl:n.length<=1000):BN n:=⟨by omega,λl hm=>by
 obtain⟨⟨h1,h2⟩,h3,h4⟩:=h l hm;have hb:∀a,validB a=true->BA a:=λa ha=>by
  simp only[validB,xv,yd] at ha;unfold BA;omega
 exact⟨⟨by omega,λa ha=>hb a (h1.2 a ha)⟩,⟨by omega,λa ha=>hb a (h2.2 a ha)⟩⟩⟩
def ResN(t:List UInt8)(r:List zD×Bool):Prop:=(r.2=true/\nestB r.1=true/\t=ntT r.1)∨(r.2=false/\r.1=[]/\∀n,nestB n=true->t ≠ ntT n)
theorem ResN.uniq{t:List UInt8}{r s:List zD×Bool}(h:ResN t r)(k:ResN t s):r=s:=by
 obtain⟨r1,r2⟩:=r;obtain⟨s1,s2⟩:=s;rcases h with⟨h1,h2,h3⟩|⟨h1,h2,h3⟩ <;> rcases k with⟨k1,k2,k3⟩|⟨k1,k2,k3⟩ <;> simp only at h1 h2 h3 k1 k2 k3
 ·rw[h1,k1,zOg (zKa h2).lv (zKa k2).lv (h3.symm.trans k3)]
 ·exact absurd h3 (k3 _ h2)
 ·exact absurd k3 (h3 _ k2)
 ·rw[h1,h2,k1,k2]
theorem zJt(c:UInt8):∀(X:List (List UInt8)) (x:List UInt8),X ≠ []->joinS c (X++[x])=joinS c X++c::x
 | [],_,h=>absurd rfl h
 | [y],x,_=>rfl
 | y::z::t,x,_=>by
  have ih:=zJt c (z::t) x (by simp)
  show joinS c (y::((z::t)++[x]))=joinS c (y::z::t)++c::x
  have e:joinS c (y::((z::t)++[x]))=y++c::joinS c ((z::t)++[x]):=rfl
  rw[e,ih,joinS]
  simp
theorem specSideT(l:List zA)(h:∀a∈l,validB a=true)(hl:l.length<=100):qL l=some ⟨sdT l⟩:=by
 unfold qL;have fh:∀(j i:Nat) (o:Str),i+j=l.length->o.l=sdT (l.take i)->uS l o (i:Int)=some ⟨sdT l⟩:=by
  intro j
  induction j with
  | zero=>
   intro i o hi ho;rw[uS];have:¬((i:Int)<(l.length:Int)):=by omega
   simp only[this,ye,xq,xt];rw[zb (by omega)] at ho;rw[<- ho];rfl
  | succ j ih=>
   intro i o hi ho;rw[uS];have aG:i<l.length:=by omega
   have hc:((i:Int)<(l.length:Int)):=by omega
   have hv:=h _ (List.getElem_mem aG);have hb:=zBA (l:=l.take i) λa ha=>h a (AH ha);have fl:(l.take i).length<=100:=by rw[yl];omega
   have ht:=zCL hv;have hs:=zGy _ hv;have qy:sdT (l.take (i+1))=(if 0<i then o.l++[44] else o.l)++tx l[i]:=by
    unfold sdT;rw[Ab,ya aG,Bc,List.map_append];by_cases h0:0<i
    ·have cT:(l.take i).map tx ≠ []:=λe=>by
      have:=congrArg List.length e;rw[ym,yl] at this;simp only[yo] at this;omega
     show joinS 44 ((l.take i).map tx++[tx l[i]])=_;rw[zJt 44 _ _ cT,if_pos h0,ho];unfold sdT;simp
    ·have e:i=0:=by omega
     subst e;rw[if_neg h0,ho];rfl
   simp only[hc,yg,xu,yN aG,hs,xr,xp,xw,id];by_cases h0:0<i
   ·have d0:((i:Int)>0):=by omega
    rw[if_pos h0] at qy;simp only[d0,yg,xu];rw[vM (by rw[ho];simp;omega)];simp only[xp];rw[vM (by show (o.l++[44]).length+_<=_;rw[ho];simp;omega)];simp only[xp];rw[wY (by omega)];exact ih (i+1) _ (by omega) qy.symm
   ·have d0:¬((i:Int)>0):=by omega
    rw[if_neg h0] at qy;simp only[d0,ye,xq,xt,xp];rw[vM (by rw[ho];omega)];simp only[xp];rw[wY (by omega)];exact ih (i+1) _ (by omega) qy.symm
 have:=fh _ 0 ⟨[]⟩ (yv _) rfl;rw[Aa] at this;rw[this];rfl
theorem specNT(n:List zD)(h:NV n)(hn:n.length<=100):fA n=some ⟨ntT n⟩:=by
 have hl:=eX (l:=n) (f:=rZ n) (g:=λl=>lpT l++[10]) (C:=0) (B:=102) (λi hi o ho=>by
  have hh:=h _ (List.getElem_mem hi);have hL:=zIv hh;obtain⟨⟨h1,h2⟩,h3,h4⟩:=hh;have s1:=zBA h1.2;have s2:=zBA h2.2;have t1:=specSideT _ h1.2 (by omega);have t2:=specSideT _ h2.2 (by omega);refine⟨by simp only[yc,xy,yo];omega,?_⟩;have hc:((i:Int)<(n.length:Int)):=by omega
  rw[rZ];simp only[hc,yg,xu,yN hi,xr,xp,t1,t2];have e:lpT n[i]++[10]=([102,111,114,32]++sdT n[i].Lo++[32]++sdT n[i].Hi)++[10]:=by unfold lpT;simp
  rw[e];generalize sdT n[i].Lo=u at s1 ⊢;generalize sdT n[i].Hi=v at s2 ⊢;rw[vM (by simp;omega)];simp only[xp];rw[vM (by simp;omega)];simp only[xp];rw[vM (by simp;omega)];simp only[xp];rw[vM (by simp;omega)];simp only[xp];rw[vM (by simp;omega)];simp only[xp];rw[wY (by omega)];simp) (λo=>by
  rw[rZ];simp) ⟨[]⟩ (zf _)
 unfold fA;rw[hl.1];rfl
theorem ResA.of_tx{a:zA}{r:zA×Bool}(ha:validB a=true)(h:ResA (tx a) r):r.1=a:=by
 rcases h with⟨h1,h2,h3⟩|⟨h1,h2,h3⟩
 ·exact(zK5 ha h2 h3).symm
 ·exact absurd rfl (h3 a ha)
theorem ResA.ba{t:List UInt8}{r:zA×Bool}(h:ResA t r):BA r.1:=by
 rcases h with⟨h1,h2,h3⟩|⟨h1,h2,h3⟩
 ·simp only[validB,xv,yd] at h2;unfold BA;omega
 ·rw[h2];show (0:Nat)<=1000;omega
theorem zLe{X:List (List UInt8)}(hX:∀x∈X,x.length<=1000000):∀(j q:Nat) (o:List zA),q+j=3->o.length=q->(∀a∈o,BA a) ->
 ∃o2,uE (X.map Str.mk) o (q:Int)=some o2/\o2.length<=3/\(∀a∈o2,BA a)/\∀k:List zA,(∀a∈k,validB a=true)->k.length<=2->X=k.map tx->o=k.take q->o2=k:=by
 intro j
 induction j with
 | zero=>
  intro q o hq ho hv
  refine⟨o,?_,by omega,hv,λk _ h2 _ e=>by rw[e,zb (by omega)]⟩
  rw[uE]
  have h2:¬((q:Int)<=2):=by omega
  by_cases hc:(q:Int)<((X.map Str.mk).length:Int)
  ·simp only[hc,h2,yg,ye,xu,xq,xt,xw,xr,xp,id]
  ·simp only[hc,ye,xq,xt,xw,xr,xp,id]
 | succ j ih=>
  intro q o hq ho hv
  rw[uE]
  have h2:((q:Int)<=2):=by omega
  by_cases aG:q<X.length
  ·have hc:((q:Int)<((X.map Str.mk).length:Int)):=by rw[ym];omega
   have hx:idx (X.map Str.mk) (q:Int)=some ⟨X[q]⟩:=by rw[yN (by rw[ym];exact aG),A7]
   obtain⟨⟨r1,r2⟩,hr,iK⟩:=specParse ⟨X[q]⟩ (hX _ (List.getElem_mem aG))
   obtain⟨o2,k1,k2,k3,k4⟩:=ih (q+1) (o++[r1]) (by omega) (by rw[yc,ho];rfl) (λa ha=>by
    rcases yr.1 ha with ha|ha
    ·exact hv a ha
    ·rw[yq.1 ha];exact iK.ba)
   refine⟨o2,?_,k2,k3,λk v1 v2 e1 e2=>k4 k v1 v2 e1 ?_⟩
   ·simp only[hc,h2,yg,xu,hx,hr,xr,xp,xw,sX (show (o.length+[r1].length)*32<=140737488355328 by simp;omega)]
    rw[wY (by omega)]
    exact k1
   ·have hk:q<k.length:=by rw[e1,ym] at aG;exact aG
    have h9:X[q]=tx k[q]:=by simp[e1]
    have hres':ResA (tx k[q]) (r1,r2):=by rw[<- h9];exact iK
    have:=ResA.of_tx (v1 _ (List.getElem_mem hk)) hres'
    rw[e2,Ab,ya hk]
    simp only at this
    rw[this];rfl
  ·have hc:¬((q:Int)<((X.map Str.mk).length:Int)):=by rw[ym];omega
   refine⟨o,?_,by omega,hv,λk _ _ e1 e2=>by
    rw[e2,zb]
    have:=congrArg List.length e1
    rw[ym] at this
    omega⟩
   simp only[hc,ye,xq,xt,xw,xr,xp,id]
theorem specSideP(t:Str)(hl:t.l.length<=1000000):∃l,rL t=some l/\BL l/\∀k,allV k->k.length<=2->t.l=sdT k->l=k:=by
 obtain⟨o2,h1,h2,h3,h4⟩:=zLe (X:=cutS 44 t.l) (λx hx=>zw (zBv hx) hl) 3 0 [] rfl rfl (λ_ h=>by cases h);rw[Aa] at h1;unfold rL;rw[zHC t 44 (by omega)];refine⟨o2,?_,⟨by omega,h3⟩,λk v1 v2 e=>h4 k v1.2 v2 (by rw[e,zEC v1]) rfl⟩;simp only[xr,xp,h1];rfl
theorem zGJ{l:List zA}(h:allV l):sdT l ≠ []:=λe=>by
 have h1:=zEC h;rw[e] at h1
 match l,h with
 | [],h=>exact h.1 rfl
 | a::l,h=>
  rw[zl] at h1;have:tx a=[]:=((List.cons.inj h1).1).symm;exact zRM a (h.2 a (xz ..)) this
theorem zOm{X:List (List UInt8)}{x:List UInt8}(h:x∈full X):x∈X:=(AA.1 h).1
theorem specLineP(t:Str)(hl:t.l.length<=1000000):∃l,fB t=some l/\(BL l.Lo/\BL l.Hi)/\∀k,LV k->k.Lo.length<=2->k.Hi.length<=2->t.l=lpT k->l=k:=by
 unfold fB;rw[zAt t (by omega)];have hF:∀k,LV k->t.l=lpT k->full (cutS 32 t.l)=[[102,111,114],sdT k.Lo,sdT k.Hi]:=λk hk e=>by
  rw[e,zB7 hk];unfold full;have e1:(sdT k.Lo==[])=false:=by simpa using zGJ hk.1
  have e2:(sdT k.Hi==[])=false:=by simpa using zGJ hk.2
  simp[e1,e2,zGJ hk.1,zGJ hk.2]
 have aP:∀x∈full (cutS 32 t.l),x.length<=1000000:=λx hx=>zw (zBv (zOm hx)) hl;generalize full (cutS 32 t.l)=F at hF aP;by_cases h3:F.length=3
 ·match F,h3,hF,aP with
  | [w,a,b],_,hF,aP=>
   obtain⟨l1,p1,p2,p3⟩:=specSideP ⟨a⟩ (aP a (by simp));obtain⟨l2,q1,q2,q3⟩:=specSideP ⟨b⟩ (aP b (by simp));refine⟨⟨l1,l2⟩,?_,⟨p2,q2⟩,λk hk k1 k2 e=>?_⟩
   ·have i1:idx ([w,a,b].map Str.mk) 1=some ⟨a⟩:=rfl;have i2:idx ([w,a,b].map Str.mk) 2=some ⟨b⟩:=rfl;have i0:((([w,a,b].map Str.mk).length:Int) != 3)=false:=rfl;simp only[xr,xp,i0,i1,i2,xq,xt,p1,q1];rfl
   ·have:=hF k hk e;simp only[List.cons.injEq,and_true] at this;obtain⟨_,e1,e2⟩:=this;rw[p3 k.Lo hk.1 k1 e1,q3 k.Hi hk.2 k2 e2]
 ·refine⟨⟨[],[]⟩,?_,⟨⟨by show (0:Nat)<=1000;omega,λ_ h=>by cases h⟩,⟨by show (0:Nat)<=1000;omega,λ_ h=>by cases h⟩⟩,λk hk _ _ e=>absurd (by rw[hF k hk e];rfl) h3⟩;have:(((F.map Str.mk).length:Int) != 3)=true:=by rw[ym];simp;omega
  simp only[xr,xp,this,xu];rfl
def V2(l:List zA):Prop:=allV l/\l.length<=2
theorem V2.one{a:zA}(h:validB a=true):V2 [a]:=⟨⟨by simp,λx hx=>by rw[yq.1 hx];exact h⟩,by simp⟩
theorem V2.two{a b:zA}(h:validB a=true)(k:validB b=true):V2 [a,b]:=⟨⟨by simp,λx hx=>by
 rcases yh.1 hx with rfl|hx
 ·exact h
 ·rw[yq.1 hx];exact k⟩,by simp⟩
theorem zCe{l:List UInt8}(h:∀b∈l,b.toNat<128):asc l=true:=yb.2 λb hb=>AZ (h b hb)
theorem zBx{l:List UInt8}(h:asc l=true){b:UInt8}(hb:b∈l):b.toNat<128:=of_decide_eq_true (yb.1 h b hb)
theorem zM5{l:List zA}(h:∀a∈l,validB a=true){b:UInt8}(hb:b∈sdT l):b.toNat<128:=by
 rcases zGD hb with rfl|⟨x,hx,hb⟩
 ·decide
 ·obtain⟨a,ha,rfl⟩:=zi.1 hx;exact zBx (zIm (h a ha)) hb
theorem zNB{l:List UInt8}(h:asc l=true)(n:Nat):asc (l.take n)=true:=zCe λb hb=>zBx h (AH hb)
theorem zNC{l:List UInt8}(h:asc l=true)(n:Nat):asc (l.drop n)=true:=zCe λb hb=>zBx h (AI hb)
theorem zLf{c:UInt8}{r:List UInt8}:∀{u:List UInt8},c ∉ u->Lib.index (u++c::r) [c]=(u.length:Int)
 | [],_=>by
  show Lib.index (c::r) [c]=0
  rw[Lib.index];simp[List.isPrefixOf]
 | b::u,h=>by
  have hb:c ≠ b:=λe=>h (by rw[e];exact xz ..)
  have ih:=zLf (r:=r) (u:=u) λhm=>h (xx _ hm)
  have hp:([c]:List UInt8).isPrefixOf (b::(u++c::r))=false:=by simp[List.isPrefixOf,hb]
  show Lib.index (b::(u++c::r)) [c]=_
  rw[Lib.index,hp,ih]
  have e:((u.length:Int) == -1)=false:=by rw[yj];omega
  simp only[xq,xt,e,xy]
  omega
theorem zOn{c:UInt8}{u r:List UInt8}(h:c ∉ u):Lib.cut (u++c::r) [c]=(u,r,true):=by
 unfold Lib.cut;rw[zLf h,if_pos (by omega)];simp
def RG(r:yU):Prop:=asc r.s.l=true/\r.s.l.length<=100000
theorem zLg{l:List UInt8}(h:asc l=true)(n:Nat):asc (l.take n)=true:=yb.2 λb hb=>yb.1 h b (AH hb)
theorem zOo{l:List UInt8}(h:asc l=true)(n:Nat):asc (l.drop n)=true:=yb.2 λb hb=>yb.1 h b (AI hb)
theorem RG.drop{r:yU}(h:RG r)(n:Nat)(b:Bool):RG ⟨⟨r.s.l.drop n⟩,b⟩:=⟨zOo h.1 n,by have:=h.2;show (r.s.l.drop n).length<=_;rw[yt];omega⟩
theorem RG.bad{r:yU}(h:RG r)(b:Bool):RG ⟨r.s,b⟩:=h
theorem zND(r:yU):∃c,vL r=some (c,r)/\(c.toNat ≠ 0->r.bad=false/\∃t,r.s.l=c::t):=by
 obtain⟨⟨l⟩,b⟩:=r;unfold vL;cases b with
 | true=>exact⟨0,rfl,λh=>absurd rfl h⟩
 | false=>
  cases l with
  | nil=>exact⟨0,rfl,λh=>absurd rfl h⟩
  | cons c t=>exact⟨c,rfl,λ_=>⟨rfl,t,rfl⟩⟩
theorem zLh(s:Str)(hs:0<s.l.length):sslc s 1 (s.l.length:Int)=some ⟨s.l.drop 1⟩:=by
 unfold sslc slc;rw[if_pos ⟨by omega,by omega,by omega⟩,zq,z7];rfl
theorem zGK(r:yU)(h:RG r):Ok (tQ r) (λo=>RG o.2):=by
 obtain⟨c,h1,h2⟩:=zND r;unfold tQ;rw[h1];by_cases hc:c.toNat=0
 ·have:((c.toNat:Int)==0)=true:=by rw[hc];rfl
  exact⟨(0,⟨r.s,true⟩),by simp only[xr,xp,this,xu];rfl,h⟩
 ·obtain⟨hb,t,ht⟩:=h2 hc;have:((c.toNat:Int)==0)=false:=by rw[yj];omega
  refine⟨(c,⟨⟨r.s.l.drop 1⟩,r.bad⟩),?_,h.drop 1 _⟩;simp only[xr,xp,this,xq,xt,zLh r.s (by rw[ht];simp)];rfl
theorem zIw{c:UInt8}(hc:c.toNat ≠ 0)(t:List UInt8):tQ ⟨⟨c::t⟩,false⟩=some (c,⟨⟨t⟩,false⟩):=by
 unfold tQ;have e:vL ⟨⟨c::t⟩,false⟩=some (c,⟨⟨c::t⟩,false⟩):=rfl;have:((c.toNat:Int)==0)=false:=by rw[yj];omega
 rw[e];simp only[xr,xp,this,xq,xt,zLh ⟨c::t⟩ (by simp)];rfl
theorem zIx(r:yU)(b:UInt8)(h:RG r):Ok (rQ r b) RG:=by
 unfold rQ;refine Ok.bind (φ:=RG) ?_ λx hx=>Ok.pure hx;refine Ok.bind (zGK r h) λo ho=>?_;obtain⟨y1,y2⟩:=o;cases hc:((y1.toNat:Int) != (b.toNat:Int)) with
 | true=>exact⟨⟨y2.s,true⟩,by simp only[hc,xu];rfl,ho⟩
 | false=>exact⟨y2,by simp only[hc,xq,xt];rfl,ho⟩
theorem zKb{c:UInt8}(hc:c.toNat ≠ 0)(t:List UInt8):rQ ⟨⟨c::t⟩,false⟩ c=some ⟨⟨t⟩,false⟩:=by
 unfold rQ;rw[zIw hc];simp
theorem zLi(r:yU)(b:UInt8)(h:RG r):Ok (qX r b) (λo=>(asc o.1.l=true/\o.1.l.length<=100000)/\RG o.2):=by
 have hl:=h.2;unfold qX jM;rw[if_pos (by omega)];have mx:∃i j,(Lib.cut r.s.l [b]).1=r.s.l.take i/\(Lib.cut r.s.l [b]).2.1=r.s.l.drop j:=by
  unfold Lib.cut;split
  ·exact⟨_,_,rfl,rfl⟩
  ·exact⟨r.s.l.length,r.s.l.length,by rw[z7],by rw[A8]⟩
 obtain⟨i,j,e1,e2⟩:=mx;obtain⟨rs,rb⟩:=r;cases rb with
 | true=>
  refine⟨(⟨(Lib.cut rs.l [b]).1⟩,⟨⟨(Lib.cut rs.l [b]).2.1⟩,true⟩),rfl,?_,?_⟩
  ·simp only at e1 ⊢;rw[e1];exact⟨zLg h.1 i,by rw[yl];simp only at hl;omega⟩
  ·show RG ⟨⟨(Lib.cut rs.l [b]).2.1⟩,true⟩;simp only at e2;rw[e2];exact h.drop j _
 | false=>
  refine⟨(⟨(Lib.cut rs.l [b]).1⟩,⟨⟨(Lib.cut rs.l [b]).2.1⟩,!(Lib.cut rs.l [b]).2.2⟩),rfl,?_,?_⟩
  ·simp only at e1 ⊢;rw[e1];exact⟨zLg h.1 i,by rw[yl];simp only at hl;omega⟩
  ·show RG ⟨⟨(Lib.cut rs.l [b]).2.1⟩,_⟩;simp only at e2;rw[e2];exact h.drop j _
theorem zNE{c:UInt8}{u:List UInt8}(h:c ∉ u)(t:List UInt8)(hl:(u++c::t).length<=100000):qX ⟨⟨u++c::t⟩,false⟩ c=some (⟨u⟩,⟨⟨t⟩,false⟩):=by
 unfold qX jM;rw[if_pos (by show (u++c::t).length<_;omega)];have e:Lib.cut (⟨u++c::t⟩:Str).l (⟨[c]⟩:Str).l=(u,t,true):=zOn h;rw[e];rfl
theorem ResL.bl{t:List UInt8}{r:List zA×Bool}(h:ResL t r):BL r.1:=by
 rcases h with⟨_,h1,h2,_⟩|⟨_,h1,_⟩
 ·exact⟨by omega,λa ha=>by
   have:=h1.2 a ha;simp only[validB,xv,yd] at this;unfold BA;omega⟩
 ·rw[h1];exact⟨by show (0:Nat)<=1000;omega,λ_ h=>by cases h⟩
theorem zIy(r:yU)(h:RG r):Ok (tR r) (λo=>BL o.1.Subs/\RG o.2):=by
 unfold tR;refine Ok.bind (zGK r h) λo1 k1=>?_;obtain⟨y1,y2⟩:=o1;refine Ok.bind (zIx y2 91 k1) λy3 k3=>?_;refine Ok.bind (zLi y3 93 k3) λo5 k5=>?_;obtain⟨y5,y6⟩:=o5;obtain⟨⟨k5,k5'⟩,k6⟩:=k5;dsimp only at k5 k5' k6 ⊢;obtain⟨⟨y8,y9⟩,h8,hr⟩:=implAffs y5 k5 (by omega);rw[h8];refine Ok.bind_some ?_;have hb:=hr.bl;cases mv:y6.bad with
 | true=>exact⟨(⟨⟨[y1]⟩,y8⟩,⟨y6.s,true⟩),by simp only[mv,xu];rfl,hb,k6⟩
 | false=>exact⟨(⟨⟨[y1]⟩,y8⟩,⟨y6.s,!y9⟩),by simp only[mv,xq,xt];rfl,hb,k6⟩
theorem zPy{l:List zA}(h:∀a∈l,validB a=true):asc (sdT l)=true:=yb.2 λb hb=>by
 rcases zGD hb with rfl|⟨x,hx,hb⟩
 ·decide
 ·obtain⟨a,ha,rfl⟩:=zi.1 hx;exact yb.1 (zIm (h a ha)) b hb
theorem zRN{c:UInt8}(h1:65<=c.toNat):c.toNat ≠ 0:=by omega
theorem zJu{a:zJ}{d:Int}(ha:accB a d=true)(t:List UInt8)(hl:(acT a++t).length<=100000):tR ⟨⟨acT a++t⟩,false⟩=some (a,⟨⟨t⟩,false⟩):=by
 obtain⟨⟨c,e1,g1,g2⟩,v1,v2⟩:=eM ha;obtain⟨n,s⟩:=a;simp only at e1 v1 v2;subst e1;have eT:acT ⟨⟨[c]⟩,s⟩++t=c::91::(sdT s++93::t):=by simp[acT]
 have hb:=zBA v1.2;rw[eT] at hl ⊢;have r3:(sdT s++93::t).length<=100000:=by simp only[xy] at hl;omega
 unfold tR;rw[zIw (zRN g1)];obtain⟨⟨r1,r2⟩,hr,iK⟩:=implAffs ⟨sdT s⟩ (zPy v1.2) (by show (sdT s).length<=_;omega);have hr12:r2=true/\r1=s:=by
  rcases iK with⟨q1,q2,q3,q4⟩|⟨q1,q2,q3⟩
  ·exact⟨q1,(zGE v1 q2 q4).symm⟩
  ·exact absurd rfl (q3 s v1 v2)
 obtain⟨rfl,rfl⟩:=hr12;simp only[xr,xp];rw[zKb (by decide)];simp only[xp];rw[zNE (zA0 v1 rfl (by decide)) t r3];simp only[xp,hr];rfl
def lead:Nat->List UInt8->Nat
 | 0,_=>0
 | _+1,[]=>0
 | n+1,c::t=>if isDig c then lead n t+1 else 0
theorem zNF:∀(n:Nat) (u:List UInt8),lead n u<=u.length/\lead n u<=n
 | 0,_=>⟨zt _,zf _⟩
 | _+1,[]=>⟨zf _,zt _⟩
 | n+1,c::t=>by
  unfold lead
  have:=zNF n t
  split
  ·exact⟨by rw[xy];omega,by omega⟩
  ·exact⟨zt _,zt _⟩
theorem zPz(s:Str)(b:Bool)(hs:s.l.length<=100000):∀j i:Nat,i+j=3->i<=s.l.length->sI ⟨s,b⟩ (i:Int)=some ((i+lead j (s.l.drop i):Nat):Int):=by
 intro j
 induction j with
 | zero=>
  intro i hi hl;rw[sI];have h3:¬((i:Int)<3):=by omega
  by_cases hc:(i:Int)<(s.l.length:Int)
  ·simp only[hc,h3,yg,ye,xu,xq,xt,xw,xr,xp,id];rfl
  ·simp only[hc,ye,xq,xt,xw,xr,xp,id];rfl
 | succ j ih=>
  intro i hi hl;rw[sI];have h3:((i:Int)<3):=by omega
  by_cases aG:i<s.l.length
  ·have hc:(i:Int)<(s.l.length:Int):=by omega
   have hx:sidx s (i:Int)=some s.l[i]:=by unfold sidx;exact yN aG
   rw[yp aG,lead];have hd:isDig s.l[i]=(decide (((s.l[i]).toNat:Int)>=48)&&decide (((s.l[i]).toNat:Int)<=57)):=by
    unfold isDig
    congr 1
    ·exact decide_eq_decide.2 (by omega)
    ·exact decide_eq_decide.2 (by omega)
   rw[hd];by_cases h1:((s.l[i]).toNat:Int)>=48
   ·by_cases h2:((s.l[i]).toNat:Int)<=57
    ·simp only[hc,h3,hx,h1,h2,yg,xu,xw,xr,xp,Bool.and_self];rw[wY (by omega),ih (i+1) (by omega) (by omega)]
     congr 2
     omega
    ·simp only[hc,h3,hx,h1,h2,yg,ye,xu,xw,xr,xp,Bool.and_false,xq,xt,id];rfl
   ·simp only[hc,h3,hx,h1,yg,ye,xu,xw,xr,xp,Bg,xq,xt,id];rfl
  ·have hc:¬((i:Int)<(s.l.length:Int)):=by omega
   rw[yw.2 (by omega)];simp only[hc,ye,xq,xt,xw,xr,xp,id];rfl
theorem zOp(s:Str)(b:Bool)(hs:s.l.length<=100000):sI ⟨s,b⟩ 0=some ((lead 3 s.l:Nat):Int):=by
 have:=zPz s b hs 3 0 rfl (zt _);rw[Aa,yn,yv] at this;exact this
theorem cutN(s:Str)(n:Nat)(h:n<=s.l.length):sslc s 0 (n:Int)=some ⟨s.l.take n⟩/\sslc s (n:Int) (s.l.length:Int)=some ⟨s.l.drop n⟩:=by
 unfold sslc slc;constructor
 ·rw[if_pos ⟨by omega,by omega,by omega⟩,zq];rfl
 ·rw[if_pos ⟨by omega,by omega,by omega⟩,zq,zq,z7];rfl
theorem BE.leaf{n:Nat}{k v:Int}{a:zA}{r:zJ}(ha:BA a)(hr:BL r.Subs):BE n (.mk k v a r []):=by
 cases n with
 | zero=>exact⟨ha,hr,rfl⟩
 | succ n=>exact⟨ha,hr,zt _,λ_ h=>by cases h⟩
theorem ba0:BA ⟨[],0⟩:=by show (0:Nat)<=1000;omega
theorem bl0:BL []:=⟨by show (0:Nat)<=1000;omega,λ_ h=>by cases h⟩
theorem zOq:∀(j:Nat) (r:yU),j<=5->RG r->Ok (xK r ((6 - j:Nat):Int)) (λo=>BE j o.1/\RG o.2):=by
 intro j
 induction j with
 | zero=>
  intro r hj h;rw[xK];have hd:((((6 - 0:Nat):Int))>5):=by omega
  have e:vL ⟨r.s,true⟩=some (0,⟨r.s,true⟩):=rfl;have e0:(((0:UInt8).toNat:Int)==0)=true:=rfl;refine⟨(.mk 0 0 ⟨[],0⟩ ⟨⟨[]⟩,[]⟩ [],⟨r.s,true⟩),?_,BE.leaf ba0 bl0,h⟩;simp only[hd,yg,xu,xw,xr,xp,e,e0]
 | succ j ih=>
  intro r hj h;rw[xK];have hd:¬((((6 - (j+1):Nat):Int))>5):=by omega
  have hW:W (((6 - (j+1):Nat):Int)+1)=((6 - j:Nat):Int):=by rw[tV (by omega) (by omega)];omega
  obtain⟨c,h1,h2⟩:=zND r;have er:vL ⟨r.s,r.bad⟩=some (c,r):=h1;simp only[hd,ye,xq,xt,xw,hW];refine Ok.bind (φ:=λb=>b=r.bad) ⟨r.bad,rfl,rfl⟩ λb hb=>?_;subst hb;rw[er];refine Ok.bind_some ?_;refine Ok.ite_beq (λ_=>⟨_,rfl,BE.leaf ba0 bl0,h⟩) λ_=>?_;refine Ok.bind (φ:=λ_:Bool=>True) (Ok.ite_dec (λ_=>⟨_,rfl,trivial⟩) λ_=>⟨_,rfl,trivial⟩) λb _=>?_;refine Ok.ite (λ_=>?_) λ_=>?_
  ·obtain⟨rs,rb⟩:=r;rw[zOp rs rb h.2];refine Ok.bind_some ?_;obtain⟨k1,k2⟩:=zNF 3 rs.l;obtain⟨c1,c2⟩:=cutN rs _ k1;rw[c1];refine Ok.bind_some ?_;have hA:tC ⟨rs.l.take (lead 3 rs.l)⟩=some (atoiM ⟨rs.l.take (lead 3 rs.l)⟩):=by
    unfold tC;rw[if_pos (by show (rs.l.take _).length<=_;rw[yl];omega)]
   rw[hA];refine Ok.bind_some ?_;rw[c2];exact Ok.bind_some ⟨_,rfl,BE.leaf ba0 bl0,h.drop _ _⟩
  ·refine Ok.ite_beq (λ_=>?_) λ_=>?_
   ·refine Ok.bind (zGK r h) λo1 k1=>?_;obtain⟨y7,y8⟩:=o1;refine Ok.bind (zLi y8 125 k1) λo5 k5=>?_;obtain⟨y10,fm⟩:=o5;obtain⟨⟨k5,k5'⟩,k6⟩:=k5;dsimp only at k5 k5' k6 ⊢;obtain⟨⟨y13,y14⟩,hp,hr⟩:=implParse y10 k5 (by omega);rw[hp];refine Ok.bind_some ?_;refine Ok.bind (φ:=λ_:Bool=>True) (Ok.ite (λ_=>⟨_,rfl,trivial⟩) λ_=>⟨_,rfl,trivial⟩) λb _=>?_;exact⟨_,rfl,BE.leaf hr.ba bl0,k6⟩
   ·refine Ok.ite_beq (λ_=>?_) λ_=>?_
    ·refine Ok.bind (zGK r h) λo1 k1=>?_;obtain⟨ii,lx⟩:=o1;refine Ok.bind (ih lx (by omega) k1) λo2 k2=>?_;obtain⟨fj,jh⟩:=o2;obtain⟨k2,k3⟩:=k2;refine Ok.bind (zGK jh k3) λo3 k4=>?_;obtain⟨nn,me⟩:=o3;refine Ok.bind_some ?_;refine Ok.bind (ih me (by omega) k4) λo4 k5=>?_;obtain⟨fo,ko⟩:=o4;obtain⟨k5,k6⟩:=k5;refine Ok.bind (zIx ko 41 k6) λy28 k7=>?_;refine Ok.bind (φ:=λ_:Bool=>True) (Ok.ite (λ_=>⟨_,rfl,trivial⟩) λ_=>⟨_,rfl,trivial⟩) λb _=>?_;refine⟨_,rfl,⟨ba0,bl0,by show (2:Nat)<=1000;omega,λk hk=>?_⟩,k7⟩;rcases yh.1 hk with rfl|hk
     ·exact k2
     ·rw[yq.1 hk];exact k5
    ·refine Ok.bind (zIy r h) λo1 k1=>?_;obtain⟨uw,o7⟩:=o1;exact⟨_,rfl,BE.leaf ba0 k1.1,k1.2⟩
theorem zLj:∀(n:Nat) (u r:List UInt8),u.all isDig=true->noDig r->u.length<n->lead n (u++r)=u.length
 | 0,_,_,_,_,h=>absurd h (by omega)
 | n+1,[],r,_,hr,_=>by
  rcases hr with rfl|⟨b,t,rfl,hb⟩
  ·rfl
  ·show lead (n+1) (b::t)=0
   rw[lead,hb];rfl
 | n+1,c::u,r,hu,hr,hl=>by
  rw[zh,xv] at hu
  simp only[xy] at hl ⊢
  show lead (n+1) (c::(u++r))=_
  rw[lead,if_pos hu.1,zLj n u r hu.2 hr (by omega)]
theorem zLk:∀k:Fin 100,atoiM ⟨dtx k.val⟩=((k.val:Int),false):=by decide +kernel
theorem zOr{cf:Int}(hd:¬cf>5)(k:Nat)(hk:k<=99)(rest:List UInt8)(hr:noDig rest)(hl:(dtx k++rest).length<=100000):
 xK ⟨⟨dtx k++rest⟩,false⟩ cf=some (.mk 1 k ⟨[],0⟩ ⟨⟨[]⟩,[]⟩ [],⟨⟨rest⟩,false⟩):=by
 obtain⟨c,t,e,hc⟩:=zIt hk
 have hn:vL ⟨⟨dtx k++rest⟩,false⟩=some (c,⟨⟨dtx k++rest⟩,false⟩):=by rw[e];rfl
 unfold isDig at hc
 simp only[xv,yd] at hc
 have z1:((c.toNat:Int)==0)=false:=by rw[yj];omega
 have z2:((c.toNat:Int)>=48):=by omega
 have z3:((c.toNat:Int)<=57):=by omega
 have hlead:lead 3 (dtx k++rest)=(dtx k).length:=zLj 3 _ _ (zDC ⟨k,by omega⟩).1 hr (by have:=kM k;omega)
 have h0:=zOp ⟨dtx k++rest⟩ false hl
 rw[show (⟨dtx k++rest⟩:Str).l=dtx k++rest from rfl,hlead] at h0
 obtain⟨c1,c2⟩:=cutN ⟨dtx k++rest⟩ (dtx k).length (by show _<=(dtx k++rest).length;rw[yc];omega)
 rw[show (⟨dtx k++rest⟩:Str).l=dtx k++rest from rfl] at c1 c2
 rw[AO rfl] at c1
 rw[List.drop_left' rfl] at c2
 have hA:tC ⟨dtx k⟩=some ((k:Int),false):=by
  unfold tC
  rw[if_pos (by show (dtx k).length<=_;have:=kM k;omega),zLk ⟨k,by omega⟩]
 rw[xK]
 simp only[hd,ye,xq,xt,xw,xr,xp,hn,z1,z2,z3,yg,xu,h0,c1,c2,hA]
theorem zQA{cf:Int}(hd:¬cf>5)(a:zA)(ha:validB a=true)(rest:List UInt8)(hl:(123::(tx a++125::rest)).length<=100000):
 xK ⟨⟨123::(tx a++125::rest)⟩,false⟩ cf=some (.mk 2 0 a ⟨⟨[]⟩,[]⟩ [],⟨⟨rest⟩,false⟩):=by
 have h1:=zIw (c:=123) (by decide) (tx a++125::rest)
 have h2:=zNE (c:=125) (zFF ha rfl) rest (by simp only[xy] at hl;omega)
 have hT:=zCL ha
 obtain⟨⟨r1,r2⟩,hr,iK⟩:=implParse ⟨tx a⟩ (zIm ha) (by show (tx a).length<=_;omega)
 have hr12:r2=true/\r1=a:=by
  rcases iK with⟨q1,q2,q3⟩|⟨q1,q2,q3⟩
  ·exact⟨q1,(zK5 ha q2 q3).symm⟩
  ·exact absurd rfl (q3 a ha)
 obtain⟨rfl,rfl⟩:=hr12
 obtain⟨c,hc⟩:∃c:UInt8,c=123:=⟨_,rfl⟩
 rw[<- hc] at h1 ⊢
 have hn:∀t,vL ⟨⟨c::t⟩,false⟩=some (c,⟨⟨c::t⟩,false⟩):=λt=>rfl
 have z1:((c.toNat:Int)==0)=false:=by rw[hc];rfl
 have z2:((c.toNat:Int)>=48):=by rw[hc];decide
 have z3:¬((c.toNat:Int)<=57):=by rw[hc];decide
 have z4:((c.toNat:Int)==123)=true:=by rw[hc];rfl
 rw[xK]
 simp only[hd,ye,xq,xt,xw,xr,xp,hn,z1,z2,z3,z4,yg,xu,h1,h2,hr,y0]
theorem zQB{cf:Int}(hd:¬cf>5)(a:zJ){d:Int}(ha:accB a d=true)(rest:List UInt8)(hl:(acT a++rest).length<=100000):
 xK ⟨⟨acT a++rest⟩,false⟩ cf=some (.mk 3 0 ⟨[],0⟩ a [],⟨⟨rest⟩,false⟩):=by
 have h1:=zJu ha rest hl
 obtain⟨c,t,e,g1,g2⟩:=zMx ha
 have hn:vL ⟨⟨acT a++rest⟩,false⟩=some (c,⟨⟨acT a++rest⟩,false⟩):=by rw[e];rfl
 have z1:((c.toNat:Int)==0)=false:=by rw[yj];omega
 have z2:((c.toNat:Int)>=48):=by omega
 have z3:¬((c.toNat:Int)<=57):=by omega
 have z4:((c.toNat:Int)==123)=false:=by rw[yj];omega
 have z5:((c.toNat:Int)==40)=false:=by rw[yj];omega
 rw[xK]
 simp only[hd,ye,xq,xt,xw,xr,xp,hn,z1,z2,z3,z4,z5,yg,xu,h1]
theorem zQC{cf:Int}(hd:¬cf>5){k:Int}(hk:k=4∨k=5∨k=6)(x y:zF)(u v rest:List UInt8)
 (hx:xK ⟨⟨u++opc k::(v++41::rest)⟩,false⟩ (W (cf+1))=some (x,⟨⟨opc k::(v++41::rest)⟩,false⟩))
 (hy:xK ⟨⟨v++41::rest⟩,false⟩ (W (cf+1))=some (y,⟨⟨41::rest⟩,false⟩)) :
 xK ⟨⟨40::(u++opc k::(v++41::rest))⟩,false⟩ cf=some (.mk k 0 ⟨[],0⟩ ⟨⟨[]⟩,[]⟩ [x,y],⟨⟨rest⟩,false⟩):=by
 have h1:=zIw (c:=40) (by decide) (u++opc k::(v++41::rest))
 have h2:=zIw (c:=opc k) (by rcases hk with rfl|rfl|rfl <;> decide) (v++41::rest)
 have h3:=zKb (c:=41) (by decide) rest
 have hI:fE ⟨[43,45,42]⟩ (opc k)=some (k - 4):=by rcases hk with rfl|rfl|rfl <;> rfl
 have hW:W (4+(k - 4))=k:=by rw[tV (by omega) (by omega)];omega
 have hneg:¬(k - 4<0):=by omega
 obtain⟨c,hc⟩:∃c:UInt8,c=40:=⟨_,rfl⟩
 rw[<- hc] at h1 ⊢
 have hn:∀t,vL ⟨⟨c::t⟩,false⟩=some (c,⟨⟨c::t⟩,false⟩):=λt=>rfl
 have z1:((c.toNat:Int)==0)=false:=by rw[hc];rfl
 have z2:¬((c.toNat:Int)>=48):=by rw[hc];decide
 have z4:((c.toNat:Int)==123)=false:=by rw[hc];rfl
 have z5:((c.toNat:Int)==40)=true:=by rw[hc];rfl
 rw[xK]
 simp only[hd,ye,xq,xt,xw,xr,xp,hn,z1,z2,z4,z5,yg,xu,h1,same,hx,h2,hI,hy,h3,hneg,hW]
theorem zOs{d:Int}:∀(n:Nat) (e:zF) (rest:List UInt8),n<=5->shapeB d n e=true->noDig rest->(exT n e++rest).length<=100000 ->
 xK ⟨⟨exT n e++rest⟩,false⟩ ((6 - n:Nat):Int)=some (e,⟨⟨rest⟩,false⟩):=by
 intro n
 induction n with
 | zero=>intro e rest _ h;cases h
 | succ n ih=>
  intro e rest hn h hr hl
  have hd:¬(((6 - (n+1):Nat):Int)>5):=by omega
  have hW:W (((6 - (n+1):Nat):Int)+1)=((6 - n:Nat):Int):=by rw[tV (by omega) (by omega)];omega
  cases zBR h with
  | num k hk=>rw[zDD] at hl ⊢;exact zOr hd k hk rest hr hl
  | ix a ha=>
   unfold okA at ha
   rw[xv] at ha
   have e1:exT (n+1) (.mk 2 0 a ⟨⟨[]⟩,[]⟩ [])++rest=123::(tx a++125::rest):=by rw[zGF];simp
   rw[e1] at hl ⊢
   exact zQA hd a ha.1 rest hl
  | rd a ha=>rw[zGG] at hl ⊢;exact zQB hd a ha rest hl
  | op k x y hk hx hy=>
   have e1:exT (n+1) (.mk k 0 ⟨[],0⟩ ⟨⟨[]⟩,[]⟩ [x,y])++rest=40::(exT n x++opc k::(exT n y++41::rest)):=by rw[zGH hk];simp
   rw[e1] at hl ⊢
   simp only[xy,yc] at hl
   refine zQC hd hk x y _ _ rest ?_ ?_
   ·rw[hW];exact ih x _ (by omega) hx (.inr ⟨_,_,rfl,zK7⟩) (by simp only[xy,yc];omega)
   ·rw[hW];exact ih y _ (by omega) hy (.inr ⟨_,_,rfl,rfl⟩) (by simp only[xy,yc];omega)
def stm0:zI:=⟨⟨⟨[]⟩,[]⟩,.mk 0 0 ⟨[],0⟩ ⟨⟨[]⟩,[]⟩ []⟩
def ResS(t:List UInt8)(r:zI×Bool):Prop:=(r.2=true/\stmtB r.1 4=true/\t=stT r.1)∨(r.2=false/\r.1=stm0/\∀s,stmtB s 4=true->t ≠ stT s)
theorem ResS.uniq{t:List UInt8}{r s:zI×Bool}(h:ResS t r)(k:ResS t s):r=s:=by
 obtain⟨r1,r2⟩:=r;obtain⟨s1,s2⟩:=s;rcases h with⟨h1,h2,h3⟩|⟨h1,h2,h3⟩ <;> rcases k with⟨k1,k2,k3⟩|⟨k1,k2,k3⟩ <;> simp only at h1 h2 h3 k1 k2 k3
 ·rw[h1,k1,zOi h2 k2 (h3.symm.trans k3)]
 ·exact absurd h3 (k3 _ h2)
 ·exact absurd k3 (h3 _ k2)
 ·rw[h1,h2,k1,k2]
theorem implIsS(s:zI)(h:BS s):zAA s=some (stmtB s 4):=by
 unfold zAA;rw[implStmt s 4 h];rfl
theorem zHo{s:zI}{d:Int}(h:stmtB s d=true):BS s:=by
 obtain⟨a1,a2⟩:=dO h;have hac:∀{a:zJ},accB a d=true->BL a.Subs:=λ{a} ha=>by
  obtain⟨_,v,hl⟩:=eM ha;exact⟨by omega,λx hx=>by
   have:=v.2 x hx;simp only[validB,xv,yd] at this;unfold BA;omega⟩
 have u4:∀(n:Nat) (e:zF),shapeB d n e=true->BE n e:=by
  intro n
  induction n with
  | zero=>intro e h;cases h
  | succ n ih=>
   intro e h;cases zBR h with
   | num k hk=>exact BE.leaf ba0 bl0
   | ix a ha=>
    unfold okA at ha;rw[xv] at ha;have:=ha.1;simp only[validB,xv,yd] at this;exact BE.leaf (by unfold BA;omega) bl0
   | rd a ha=>exact BE.leaf ba0 (hac ha)
   | op k x y hk hx hy=>
    refine⟨ba0,bl0,by show (2:Nat)<=1000;omega,λz hz=>?_⟩;rcases yh.1 hz with rfl|hz
    ·exact ih _ hx
    ·rw[yq.1 hz];exact ih _ hy
 exact⟨hac a1,5,u4 5 _ a2⟩
theorem zJv{s:zI}(h:stmtB s 4=true):kG ⟨stT s⟩=some (s,true):=by
 have hl:=zHD h;obtain⟨a1,a2⟩:=dO h;have h1:=zJu a1 (61::exT 5 s.Value) (by show (stT s).length<=_;omega);have h2:=zKb (c:=61) (by decide) (exT 5 s.Value);have r4:(exT 5 s.Value++[]).length<=100000:=by
  unfold stT at hl;simp only[yc,xy,yo] at hl ⊢;omega
 have h3:=zOs 5 s.Value [] (zf _) a2 (.inl rfl) r4;rw[yk] at h3;have h3:xK ⟨⟨exT 5 s.Value⟩,false⟩ 1=some (s.Value,⟨⟨[]⟩,false⟩):=h3;have h1:tR ⟨⟨stT s⟩,false⟩=some (s.Write,⟨⟨61::exT 5 s.Value⟩,false⟩):=h1;have hc:¬(((⟨stT s⟩:Str).l.length:Int)>2000):=by show ¬(((stT s).length:Int)>2000);omega
 have hs:(⟨s.Write,s.Value⟩:zI)=s:=rfl;have hq:((([]:List UInt8)==[]))=true:=rfl;unfold kG;simp only[hc,ye,xq,xt,xr,xp,h1,h2,h3,hq,y0,hs,implIsS s (zHo h),h,implStT s h,A5,xw]
theorem implParseS(t:Str)(ha:asc t.l=true)(hl:t.l.length<=100000):∃r,kG t=some r/\ResS t.l r:=by
 by_cases u4:∃s,stmtB s 4=true/\t.l=stT s
 ·obtain⟨s,h1,h2⟩:=u4;refine⟨(s,true),?_,.inl ⟨rfl,h1,h2⟩⟩;have:=zJv h1;rw[<- h2] at this;exact this
 have pr:∀s,stmtB s 4=true->t.l ≠ stT s:=λs h1 h2=>u4 ⟨s,h1,h2⟩;refine⟨(stm0,false),?_,.inr ⟨rfl,rfl,pr⟩⟩;unfold kG;by_cases hc:(t.l.length:Int)>2000
 ·rw[AZ hc];rfl
 obtain⟨⟨y1,y2⟩,h1,k1,k2⟩:=zIy ⟨t,false⟩ ⟨ha,hl⟩;obtain⟨y3,h3,k3⟩:=zIx y2 61 k2;obtain⟨⟨y5,y6⟩,h5,k5,k6⟩:=zOq 5 y3 (zf _) k3;have h5:xK y3 1=some (y5,y6):=h5;have hBS:BS ⟨y1,y5⟩:=⟨k1,5,k5⟩;simp only[hc,ye,xq,xt,xr,xp,h1,h3,h5,implIsS _ hBS,xw];cases hb:y6.bad with
 | true=>rfl
 | false=>
  by_cases hz:y6.s.l=[]
  ·have e1:(y6.s.l==[])=true:=by rw[hz];rfl
   cases hv:stmtB ⟨y1,y5⟩ 4 with
   | false=>simp only[e1,y0,yx,xq,xt,xu,xp];rfl
   | true=>
    have e2:(stT ⟨y1,y5⟩==t.l)=false:=by
     rw[yj];exact λe=>pr _ hv e.symm
    simp only[e1,y0,yx,xq,xt,xu,xp,implStT _ hv,e2];rfl
  ·have e1:(y6.s.l==[])=false:=by simpa using hz
   simp only[e1,yx,xq,xt,xu,xp];rfl
theorem specAcT(a:zJ){d:Int}(h:accB a d=true):sK a=some ⟨acT a⟩:=by
 obtain⟨⟨c,e,_⟩,h1,h2⟩:=eM h;have s1:=zBA h1.2;have t1:=specSideT _ h1.2 (by omega);unfold sK acT;rw[e];simp only[t1,xr,xp];generalize sdT a.Subs=u at s1 ⊢;rw[vM (by simp)];simp only[xp];rw[vM (by simp;omega)];simp only[xp];rw[vM (by simp;omega)];simp
theorem specExT{d:Int}:∀(n:Nat) (e:zF),n<=10->shapeB d n e=true->tE e=some ⟨exT n e⟩
 | 0,_,_,h=>by cases h
 | n+1,e,hn,h=>by
  have h2:1<=2 ^ n:=AP
  have h3:2 ^ n<=2 ^ 10:=AD (by omega) (by omega)
  cases zBR h with
  | num k hk=>
   rw[tE,zDD]
   have t:=zDy k hk
   have e1:((zF.mk 1 k ⟨[],0⟩ ⟨⟨[]⟩,[]⟩ []).Kind==1)=true:=rfl
   have e2:(zF.mk 1 k ⟨[],0⟩ ⟨⟨[]⟩,[]⟩ []).Num=(k:Int):=rfl
   rw[if_pos e1,e2,t];rfl
  | ix a ha=>
   rw[tE,zGF]
   unfold okA at ha
   rw[xv] at ha
   have hl:=zCL ha.1
   have t:=zGy a ha.1
   have e1:((zF.mk 2 0 a ⟨⟨[]⟩,[]⟩ []).Kind==1)=false:=rfl
   have e2:((zF.mk 2 0 a ⟨⟨[]⟩,[]⟩ []).Kind==2)=true:=rfl
   have e3:(zF.mk 2 0 a ⟨⟨[]⟩,[]⟩ []).Index=a:=rfl
   rw[e1,e2,e3,t]
   generalize tx a=u at hl ⊢
   simp only[xq,xt,xu,xr,xp]
   rw[vM (by simp;omega)];simp only[xp]
   rw[vM (by simp;omega)];rfl
  | rd a ha=>
   rw[tE,zGG]
   have t:=specAcT a ha
   have e1:((zF.mk 3 0 ⟨[],0⟩ a []).Kind==1)=false:=rfl
   have e2:((zF.mk 3 0 ⟨[],0⟩ a []).Kind==2)=false:=rfl
   have e3:((zF.mk 3 0 ⟨[],0⟩ a []).Kind==3)=true:=rfl
   have e4:(zF.mk 3 0 ⟨[],0⟩ a []).Read=a:=rfl
   rw[e1,e2,e3,e4,t];rfl
  | op k x y hk hx hy=>
   rw[tE,zGH hk]
   have l1:=(implExT n x (by omega) hx).2
   have l2:=(implExT n y (by omega) hy).2
   have t1:=specExT n x (by omega) hx
   have t2:=specExT n y (by omega) hy
   have e1:((zF.mk k 0 ⟨[],0⟩ ⟨⟨[]⟩,[]⟩ [x,y]).Kind==1)=false:=by show (k==1)=false;rw[yj];omega
   have e2:((zF.mk k 0 ⟨[],0⟩ ⟨⟨[]⟩,[]⟩ [x,y]).Kind==2)=false:=by show (k==2)=false;rw[yj];omega
   have e3:((zF.mk k 0 ⟨[],0⟩ ⟨⟨[]⟩,[]⟩ [x,y]).Kind==3)=false:=by show (k==3)=false;rw[yj];omega
   have e4:idx (zF.mk k 0 ⟨[],0⟩ ⟨⟨[]⟩,[]⟩ [x,y]).Kids 0=some x:=rfl
   have e5:idx (zF.mk k 0 ⟨[],0⟩ ⟨⟨[]⟩,[]⟩ [x,y]).Kids 1=some y:=rfl
   have e6:(zF.mk k 0 ⟨[],0⟩ ⟨⟨[]⟩,[]⟩ [x,y]).Kind=k:=rfl
   rw[e1,e2,e3,e4,e5,e6,zJs hk]
   simp only[xq,xt,xr,xp,same,t1,t2]
   generalize exT n x=u at l1 ⊢
   generalize exT n y=v at l2 ⊢
   rw[vM (by simp;omega)];simp only[xp]
   rw[vM (by simp;omega)];simp only[xp]
   rw[vM (by simp;omega)];simp only[xp]
   rw[vM (by simp;omega)]
   simp
theorem specFS(s:zI)(h:BS s):nN s=some (if stmtB s 4 then⟨stT s⟩ else⟨[]⟩):=by
 unfold nN;rw[specStmt s 4 h];cases hb:stmtB s 4 with
 | false=>rfl
 | true=>
  obtain⟨a1,a2⟩:=dO hb;have l1:=zK8 a1;have l2:=(implExT 5 _ (by omega) a2).2;have t1:=specAcT _ a1;have t2:=specExT 5 _ (by omega) a2;simp only[xr,xp,y0,xq,xt,xu,t1,t2];unfold stT;generalize acT s.Write=u at l1 ⊢;generalize exT 5 s.Value=v at l2 ⊢;rw[vM (by simp;omega)];simp only[xp];rw[vM (by simp;omega)];simp
def unt(c:UInt8):List UInt8->Nat
 | []=>0
 | b::t=>if b=c then 0 else unt c t+1
theorem zNG{c:UInt8}{r:List UInt8}:∀{u:List UInt8},c ∉ u->unt c (u++c::r)=u.length
 | [],_=>by show unt c (c::r)=0;unfold unt;rw[if_pos rfl]
 | b::u,h=>by
  show unt c (b::(u++c::r))=_
  unfold unt
  rw[if_neg λe=>h (by rw[e];exact xz ..),zNG λhm=>h (xx _ hm)];rfl
theorem zRO(b c:UInt8):((b.toNat:Int)==(c.toNat:Int))=decide (b=c):=by
 by_cases h:b=c
 ·subst h;simp
 ·have:¬b.toNat=c.toNat:=λe=>h (UInt8.toNat_inj.1 e);rw[Az h,yj];omega
theorem zOt(s:Str)(c:UInt8)(hs:s.l.length<=1000000):∀j i:Nat,i+j=s.l.length->rD s c (i:Int)=some (if unt c (s.l.drop i)<j then .ret ((i+unt c (s.l.drop i):Nat):Int) else .done ()):=by
 intro j
 induction j with
 | zero=>
  intro i hi;rw[rD];have hc:¬((i:Int)<(s.l.length:Int)):=by omega
  simp only[hc,ye,xq,xt];rfl
 | succ j ih=>
  intro i hi;rw[rD];have aG:i<s.l.length:=by omega
  have hc:((i:Int)<(s.l.length:Int)):=by omega
  have hx:sidx s (i:Int)=some s.l[i]:=by unfold sidx;exact yN aG
  rw[yp aG,unt];simp only[hc,yg,xu,hx,xr,xp,zRO];by_cases hb:s.l[i]=c
  ·simp only[hb,yg,xu];rw[if_pos (by omega)];rfl
  ·simp only[hb,ye,xq,xt];rw[wY (by omega),ih (i+1) (by omega)];by_cases hq:unt c (s.l.drop (i+1))<j
   ·rw[if_pos hq,if_pos (by omega)]
    congr 3
    omega
   ·rw[if_neg hq,if_neg (by omega)]
theorem zOu(s:Str)(c:UInt8)(hs:s.l.length<=1000000)(p:Nat)(hp:p<=s.l.length):nP s (p:Int) c=some (if p+unt c (s.l.drop p)<s.l.length then((p+unt c (s.l.drop p):Nat):Int) else -1):=by
 unfold nP;rw[zOt s c hs (s.l.length - p) p (by omega)];by_cases h:p+unt c (s.l.drop p)<s.l.length
 ·rw[if_pos h,if_pos (by omega)];rfl
 ·rw[if_neg h,if_neg (by omega)];rfl
theorem digD(s:Str)(hs:s.l.length<=1000000)(p:Nat)(hp:p<=s.l.length):pA s (p:Int)=some ((dgt (s.l.drop p)).1,((p+(dgt (s.l.drop p)).2:Nat):Int)):=by
 rw[zJr s p (by omega) hp];unfold dgt;split <;> rfl
def PO(s:Str)(n:Nat)(o:zF×Int):Prop:=BE n o.1/\-1<=o.2/\o.2<=(s.l.length:Int)
theorem PO.mk'{s:Str}{n:Nat}{e:zF}{y:Int}(h:BE n e)(h1:-1<=y)(h2:y<=(s.l.length:Int)):PO s n (e,y):=⟨h,h1,h2⟩
theorem zKc{s:Str}{p:Nat}{u v:List UInt8}(hp:p<=s.l.length)(h:s.l.drop p=u++v):p+u.length+v.length=s.l.length:=by
 have:=congrArg List.length h;rw[yt,yc] at this;omega
theorem zBS{s:Str}{p:Nat}{u v:List UInt8}(h:s.l.drop p=u++v):s.l.drop (p+u.length)=v:=by
 rw[<- zr,h,List.drop_left' rfl]
theorem zIz{s:Str}{p:Nat}{u v:List UInt8}(hp:p<=s.l.length)(h:s.l.drop p=u++v):sslc s (p:Int) ((p+u.length:Nat):Int)=some ⟨u⟩:=by
 have hl:=zKc hp h;unfold sslc slc;rw[if_pos ⟨by omega,by omega,by omega⟩,zq,zq];show some (Str.mk ((s.l.take (p+u.length)).drop p))=_;rw[<- List.take_drop,h,AO rfl]
theorem zBy{s:Str}{p:Nat}{c:UInt8}{t:List UInt8}(h:s.l.drop p=c::t):sidx s (p:Int)=some c/\p<s.l.length:=by
 have aG:p<s.l.length:=by
  have:=congrArg List.length h;rw[yt,xy] at this;omega
 refine⟨?_,aG⟩;have hx:sidx s (p:Int)=some s.l[p]:=by unfold sidx;exact yN aG
 rw[hx];rw[yp aG] at h;rw[(List.cons.inj h).1]
theorem zLl{s:Str}(hs:s.l.length<=1000000){p:Nat}{c:UInt8}{u v:List UInt8}(hp:p<=s.l.length)(h:s.l.drop p=u++c::v)(hc:c ∉ u):nP s (p:Int) c=some ((p+u.length:Nat):Int):=by
 have hl:=zKc hp h;rw[xy] at hl;rw[zOu s c hs p hp,h,zNG hc,if_pos (by omega)]
theorem zNH{s:Str}(hs:s.l.length<=1000000){p:Nat}{a:zJ}{d:Int}{rest:List UInt8}(hp:p<=s.l.length)(ha:accB a d=true)(h:s.l.drop p=acT a++rest):tM s (p:Int)=some (a,((p+(acT a).length:Nat):Int)):=by
 obtain⟨⟨c,e1,g1,g2⟩,v1,v2⟩:=eM ha;obtain⟨n,b⟩:=a;simp only at e1 v1 v2;subst e1;have eT:acT ⟨⟨[c]⟩,b⟩++rest=(c::91::sdT b)++93::rest:=by simp[acT]
 have eL:(acT ⟨⟨[c]⟩,b⟩).length=(sdT b).length+3:=by simp[acT]
 rw[eT] at h;rw[eL];have hl:=zKc hp h;simp only[xy] at hl;have hnot:(93:UInt8) ∉ c::91::sdT b:=λhm=>by
  rcases yh.1 hm with e|hm
  ·rw[<- e] at g2;revert g2;decide
  ·rcases yh.1 hm with e|hm
   ·revert e;decide
   ·exact zA0 v1 rfl (by decide) hm
 have hU:=zLl hs hp h hnot;have h1:s.l.drop (p+1)=91::(sdT b++93::rest):=zBS (u:=[c]) (v:=91::(sdT b++93::rest)) (by rw[h];rfl);have h2:s.l.drop (p+2)=sdT b++93::rest:=zBS (u:=[c,91]) (v:=sdT b++93::rest) (by rw[h];rfl);have hs1:sslc s (p:Int) ((p+1:Nat):Int)=some ⟨[c]⟩:=zIz (u:=[c]) (v:=91::(sdT b++93::rest)) hp (by rw[h];rfl);have au:=zIz (by omega) h2;obtain⟨l,k1,_,k2⟩:=specSideP ⟨sdT b⟩ (by show (sdT b).length<=_;omega);have xn:=k2 b v1 v2 rfl;subst xn;have hy:p+(c::91::sdT l).length=p+2+(sdT l).length:=by simp only[xy];omega
 rw[hy] at hU;have z1:¬(((p+2+(sdT l).length:Nat):Int)<((p+2:Nat):Int)):=by omega
 unfold tM;rw[hU];simp only[xr,xp];have w2:W ((p:Int)+2)=((p+2:Nat):Int):=by rw[tV (by omega) (by omega)];omega
 have w1:W ((p:Int)+1)=((p+1:Nat):Int):=wY (by omega);have wy:W (((p+2+(sdT l).length:Nat):Int)+1)=((p+((sdT l).length+3):Nat):Int):=by rw[wY (by omega)];congr 1;omega
 have z2:(((91:UInt8).toNat:Int) != 91)=false:=rfl;rw[w2,w1,(zBy h1).1];simp only[z1,ye,xq,xt,xp,xw,z2,hs1,au,k1,wy]
theorem zKd:∀(n:Nat) (u r:List UInt8),u.all isDig=true->noDig r->u.length<=n->run (u++r) n=u.length
 | 0,[],r,_,_,_=>by show run r 0=0;cases r <;> rfl
 | 0,_::_,_,_,_,h=>absurd h (by simp)
 | n+1,[],r,_,hr,_=>by
  rcases hr with rfl|⟨b,t,rfl,hb⟩
  ·rfl
  ·show run (b::t) (n+1)=0
   have hb:isDg b=false:=hb
   simp[run,hb]
 | n+1,c::u,r,hu,hr,hl=>by
  rw[zh,xv] at hu
  simp only[xy] at hl ⊢
  have hc:isDg c=true:=hu.1
  have ih:=zKd n u r hu.2 hr (by omega)
  show run (c::(u++r)) (n+1)=_
  simp only[run,hc,xu,ih]
  omega
theorem zQD{k:Nat}(hk:k<=99){r:List UInt8}(hr:noDig r):dgt (dtx k++r)=((k:Int),(dtx k).length):=by
 have h0:dgt (dtx k)=((k:Int),(dtx k).length):=(dtxU ⟨k,by omega⟩).1;have hd:=(zDC ⟨k,by omega⟩).1;have hl:=(kM k).2;have r1:=zKd 2 (dtx k) r hd hr hl;have r2:=zKd 2 (dtx k) [] hd (.inl rfl) hl;rw[yk] at r2;rw[<- h0];unfold dgt;rw[r1,r2,AO rfl,z7]
theorem zOv{s:Str}(hs:s.l.length<=1000000){d:Int}:∀(n:Nat) (e:zF) (p:Nat) (rest:List UInt8),n<=5->p<=s.l.length->shapeB d n e=true->noDig rest->s.l.drop p=exT n e++rest ->
 uZ s (p:Int) (n:Int)=some (e,((p+(exT n e).length:Nat):Int)):=by
 intro n
 induction n with
 | zero=>intro e p rest _ _ h;cases h
 | succ n ih=>
  intro e p rest hn hp h hr hd
  have q1:¬(((n+1:Nat):Int)<1):=by omega
  have q2:¬((p:Int)<0):=by omega
  have aP:=zKc hp hd
  cases zBR h with
  | num k hk=>
   rw[zDD] at hd aP ⊢
   obtain⟨c,t,e,hc⟩:=zIt hk
   obtain⟨hx,aG⟩:=zBy (c:=c) (t:=t++rest) (by rw[hd,e];rfl)
   have q3:¬((p:Int)>=(s.l.length:Int)):=by omega
   unfold isDig at hc
   simp only[xv,yd] at hc
   have z1:((c.toNat:Int)==123)=false:=by rw[yj];omega
   have z2:¬((c.toNat:Int)>=65):=by omega
   have z3:((c.toNat:Int)==40)=false:=by rw[yj];omega
   have hD:=digD s hs p hp
   rw[hd,zQD hk hr] at hD
   have z4:(((p+(dtx k).length:Nat):Int)==(p:Int))=false:=by
    have:=(kM k).1
    rw[yj];omega
   rw[uZ]
   simp only[q1,q2,q3,ye,xq,xt,xw,xr,xp,hx,z1,z2,z3,hD,z4]
  | ix a ha=>
   unfold okA at ha
   rw[xv] at ha
   have ha:=ha.1
   rw[zGF] at hd aP ⊢
   have hT:=zCL ha
   have hd1:s.l.drop p=(123::tx a)++125::rest:=by rw[hd];simp
   obtain⟨hx,aG⟩:=zBy (c:=123) (t:=tx a++125::rest) (by rw[hd1];rfl)
   have q3:¬((p:Int)>=(s.l.length:Int)):=by omega
   have hU:=zLl hs hp hd1 (λhm=>by
    rcases yh.1 hm with e|hm
    ·revert e;decide
    ·exact zFF ha rfl hm)
   have hd2:s.l.drop (p+1)=tx a++125::rest:=zBS (u:=[123]) (v:=tx a++125::rest) (by rw[hd1];rfl)
   have au:=zIz (by omega) hd2
   obtain⟨⟨r1,r2⟩,hP,iK⟩:=specParse ⟨tx a⟩ (by show (tx a).length<=_;omega)
   have hr1:r1=a:=ResA.of_tx ha iK
   subst hr1
   have hy:p+(123::tx r1).length=p+1+(tx r1).length:=by simp only[xy];omega
   rw[hy] at hU
   have z0:¬(((p+1+(tx r1).length:Nat):Int)<0):=by omega
   have w1:W ((p:Int)+1)=((p+1:Nat):Int):=wY (by omega)
   have wy:W (((p+1+(tx r1).length:Nat):Int)+1)=((p+(123::(tx r1++[125])).length:Nat):Int):=by
    rw[wY (by omega)];congr 1;simp only[xy,yc,yo];omega
   have z1:(((123:UInt8).toNat:Int)==123)=true:=rfl
   rw[uZ,hx,<- wy]
   simp only[q1,q2,q3,ye,xq,xt,xw,xr,xp]
   rw[if_pos z1,hU]
   simp only[z0,ye,xq,xt,xp,w1,au,hP]
  | rd a ha=>
   rw[zGG] at hd aP ⊢
   obtain⟨c,t,e,g1,g2⟩:=zMx ha
   obtain⟨hx,aG⟩:=zBy (c:=c) (t:=t++rest) (by rw[hd,e];rfl)
   have q3:¬((p:Int)>=(s.l.length:Int)):=by omega
   have z1:((c.toNat:Int)==123)=false:=by rw[yj];omega
   have z2:((c.toNat:Int)>=65):=by omega
   have z3:((c.toNat:Int)<=68):=by omega
   have hA:=zNH hs hp ha hd
   rw[uZ]
   simp only[q1,q2,q3,ye,xq,xt,xw,xr,xp,hx,z1,z2,z3,yg,xu,hA]
  | op k x y hk hx hy=>
   rw[zGH hk] at hd aP ⊢
   have hd0:s.l.drop p=40::(exT n x++opc k::(exT n y++41::rest)):=by rw[hd];simp
   obtain⟨hc0,aG⟩:=zBy hd0
   have q3:¬((p:Int)>=(s.l.length:Int)):=by omega
   have hd1:s.l.drop (p+1)=exT n x++opc k::(exT n y++41::rest):=zBS (u:=[40]) (v:=exT n x++opc k::(exT n y++41::rest)) (by rw[hd0];rfl)
   have i1:=ih x (p+1) _ (by omega) (by omega) hx (.inr ⟨_,_,rfl,zK7⟩) hd1
   have hd2:=zBS hd1
   obtain⟨aU,ke⟩:=zBy hd2
   have hd3:s.l.drop (p+1+(exT n x).length+1)=exT n y++41::rest:=zBS (u:=[opc k]) (v:=exT n y++41::rest) (by rw[hd2];rfl)
   have i2:=ih y (p+1+(exT n x).length+1) _ (by omega) (by omega) hy (.inr ⟨_,_,rfl,rfl⟩) hd3
   have hd4:=zBS hd3
   obtain⟨_,hlt4⟩:=zBy hd4
   have hL:p+(40::(exT n x++opc k::(exT n y++[41]))).length=p+1+(exT n x).length+1+(exT n y).length+1:=by
    simp only[xy,yc,yo];omega
   rw[hL]
   generalize p+1+(exT n x).length=A at *
   have w1:W ((p:Int)+1)=((p+1:Nat):Int):=wY (by omega)
   have wn:W (((n+1:Nat):Int) - 1)=(n:Int):=by rw[tV (by omega) (by omega)];omega
   have wA:W ((A:Int)+1)=((A+1:Nat):Int):=wY (by omega)
   generalize hB:A+1+(exT n y).length=B at *
   have wB:W ((B:Int)+1)=((B+1:Nat):Int):=wY (by omega)
   have z1:¬(((40:UInt8).toNat:Int)==123)=true:=by decide
   have z2:¬(((40:UInt8).toNat:Int)>=65):=by decide
   have z3:(((40:UInt8).toNat:Int)==40)=true:=rfl
   have nA:¬((A:Int)<0):=by omega
   have nA2:¬((A:Int)>=(s.l.length:Int)):=by omega
   have nB:¬((B:Int)<0):=by omega
   have nB2:¬((B:Int)>=(s.l.length:Int)):=by omega
   have hR:jR s ((p+1:Nat):Int) (n:Int)=some (.mk k 0 ⟨[],0⟩ ⟨⟨[]⟩,[]⟩ [x,y],((B+1:Nat):Int)):=by
    rw[jR]
    dsimp only [same]
    rw[i1]
    simp only[xr,xp,nA,nA2,ye,xq,xt,xw,aU,wA,i2,nB,nB2,wB]
    rcases hk with rfl|rfl|rfl <;> rfl
   rw[uZ,hc0]
   simp only[q1,q2,q3,ye,xq,xt,xw,xr,xp]
   rw[if_neg z1,Az z2]
   simp only[xq,xt,xp]
   rw[if_pos z3,w1,wn]
   dsimp only [same]
   rw[hR];rfl
theorem zQE{s:zI}{d:Int}(h:stmtB s d=true):4<=(stT s).length:=by
 obtain⟨a1,a2⟩:=dO h;obtain⟨⟨c,e,_⟩,v1,_⟩:=eM a1;have:=zGJ v1;have:1<=(sdT s.Write.Subs).length:=by
  cases hq:sdT s.Write.Subs with
  | nil=>exact absurd hq this
  | cons a b=>simp
 unfold stT acT;rw[e];simp only[yc,xy,yo];omega
theorem zNe{s:zI}(h:stmtB s 4=true):oX ⟨stT s⟩=some (s,true):=by
 have hl:=zHD h;have u7:=zQE h;obtain⟨a1,a2⟩:=dO h;have hT:stT s=acT s.Write++61::exT 5 s.Value:=rfl;have hs:(⟨stT s⟩:Str).l.length<=1000000:=by show (stT s).length<=_;omega
 have d0:(⟨stT s⟩:Str).l.drop 0=acT s.Write++61::exT 5 s.Value:=by rw[yn];exact hT
 have h1:=zNH hs (zt _) a1 d0;have d1:=zBS d0;rw[yv] at h1 d1;have d2:(⟨stT s⟩:Str).l.drop ((acT s.Write).length+1)=exT 5 s.Value++[]:=by
  have:=zBS (u:=[61]) (v:=exT 5 s.Value) (by rw[d1];rfl);rw[yk];exact this
 have aG:=(zBy d1).2;have h2:=zOv hs 5 s.Value ((acT s.Write).length+1) [] (zf _) (by omega) a2 (.inl rfl) d2;have h1:tM ⟨stT s⟩ 0=some (s.Write,(((acT s.Write).length:Nat):Int)):=h1;have h2:uZ ⟨stT s⟩ (((acT s.Write).length+1:Nat):Int) 5=some (s.Value,_):=h2;have hL:(⟨stT s⟩:Str).l.length=(stT s).length:=rfl;have c1:¬(((⟨stT s⟩:Str).l.length:Int)<4):=by omega
 have c2:¬((((acT s.Write).length:Nat):Int)<0):=by omega
 have c3:¬((((acT s.Write).length:Nat):Int)>=((⟨stT s⟩:Str).l.length:Int)):=by omega
 have w1:W ((((acT s.Write).length:Nat):Int)+1)=(((acT s.Write).length+1:Nat):Int):=wY (by omega);have hss:(⟨s.Write,s.Value⟩:zI)=s:=rfl;unfold oX;simp only[c1,c2,c3,ye,xq,xt,xr,xp,xw,h1,w1,h2,hss,specFS s (zHo h),h,xu,A5,y0]
end Go.LN
