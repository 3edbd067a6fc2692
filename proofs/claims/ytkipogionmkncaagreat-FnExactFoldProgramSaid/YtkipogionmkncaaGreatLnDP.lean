/- Helper of the proof (see the last text). -/
import Derived.Test.YtkipogionmkncaaGreatLnO
import Derived.Test.YtkipogionmkncaaGreatHM5
set_option linter.unusedVariables false
set_option linter.unusedSimpArgs false
namespace Go.LN
structure RawN(α : Type)[Rp α] where
 c : List Value
instance {α : Type} [Rp α] : Rp (RawN α) where
 sz:=Rp.sz α
 pos:=Rp.pos
 rep _ cs r:=cs = r.c /\ r.c.length = Rp.sz α /\ ∀v∈r.c,v.oneCell' = true
 len h:=by obtain⟨rfl,h,_⟩:=h;exact h
 mono _ h:=h
 one h:=by obtain⟨rfl,_,h⟩:=h;exact h
def flR{α : Type}[Rp α]: List (RawN α) -> List Value
 | []=>[]
 | r :: l=>r.c++flR l
def okR{α : Type}[Rp α](r : RawN α): Prop:=r.c.length = Rp.sz α /\ ∀v∈r.c,v.oneCell' = true
section
variable {α : Type} [Rp α]
theorem zGi{imm : Imm}: ∀{l : List (RawN α)} {cs : List Value},RL imm cs l -> cs = flR l
 | [],cs,h=>h
 | r :: l,cs,⟨c1,c2,h1,_,h3,h4⟩=>by
  obtain⟨rfl,_⟩:=h3
  rw[h1,zGi h4];rfl
theorem zEN{imm : Imm}: ∀{l : List (RawN α)},(∀r∈l,okR r) -> RL imm (flR l) l
 | [],_=>rfl
 | r :: l,h=>⟨r.c,flR l,rfl,(h r (ci ..)).1,⟨rfl,h r (ci ..)⟩,zEN λx hx=>h x (cd _ hx)⟩
end
class Dp (α : Type) [Rp α] where
 dp : List HA -> List Value -> α -> Prop
 len : ∀{X cs a},dp X cs a -> cs.length = Rp.sz α
 one : ∀{X cs a},dp X cs a -> ∀v∈cs,v.oneCell' = true
 plain : ∀{X cs a},dp X cs a -> X.all HA.plain = true
 fz : ∀{imm X cs a},dp X cs a -> (∀A∈X,Lent imm A) -> Rp.rep imm cs a
def dpR{α : Type}[Rp α][Dp α]: List HA -> List (RawN α) -> List α -> Prop
 | X,[],[]=>X = []
 | X,r :: rs,a :: l => ∃X1 X2,X = X1++X2 /\ Dp.dp X1 r.c a /\ dpR X2 rs l
 | _,_,_=>False
def DS{α : Type}[Rp α][Dp α](X : List HA)(v : Value)(l : List α): Prop:=
 ∃(p : Option Addr) (c : Nat) (ae : List (RawN α)) (Y : List HA),v = .slice p l.length c /\ X = .osl v (Rp.sz α) (flR ae) :: Y /\ dpR Y ae l
section
variable {α : Type} [Rp α] [Dp α]
theorem dpR.len : ∀{X : List HA} {ae : List (RawN α)} {l : List α},dpR X ae l -> ae.length = l.length
 | _,[],[],_=>rfl
 | _,r :: rs,a :: l,⟨_,_,_,_,h⟩=>by rw[cx,cx,dpR.len h]
 | _,[],_ :: _,h=>h.elim
 | _,_ :: _,[],h=>h.elim
theorem dpR.ok : ∀{X : List HA} {ae : List (RawN α)} {l : List α},dpR X ae l -> ∀r∈ae,okR r
 | _,[],[],_=>λr h=>by cases h
 | _,r :: rs,a :: l,⟨_,_,_,h1,h⟩=>λx hx=>by
  rcases cP.1 hx with rfl|hx
  ·exact⟨Dp.len h1,Dp.one h1⟩
  ·exact dpR.ok h x hx
 | _,[],_ :: _,h=>h.elim
 | _,_ :: _,[],h=>h.elim
theorem dpR.rl{imm : Imm}{X : List HA}{ae : List (RawN α)}{l : List α}(h : dpR X ae l): RL imm (flR ae) ae:=zEN h.ok
theorem dpR.plain : ∀{X : List HA} {ae : List (RawN α)} {l : List α},dpR X ae l -> X.all HA.plain = true
 | _,[],[],h=>by have h : _ = []:=h;rw[h];rfl
 | _,r :: rs,a :: l,⟨_,_,h0,h1,h⟩=>by rw[h0,List.all_append,Dp.plain h1,dpR.plain h];rfl
 | _,[],_ :: _,h=>h.elim
 | _,_ :: _,[],h=>h.elim
theorem dpR.fz{imm : Imm}: ∀{X : List HA} {ae : List (RawN α)} {l : List α},dpR X ae l -> (∀A∈X,Lent imm A) -> RL imm (flR ae) l
 | _,[],[],_,_=>rfl
 | _,r :: rs,a :: l,⟨X1,X2,h0,h1,h⟩,hL=>by
  subst h0
  exact⟨r.c,flR rs,rfl,Dp.len h1,Dp.fz h1 λA hA=>hL A (cI _ hA),dpR.fz h λA hA=>hL A (cR _ hA)⟩
 | _,[],_ :: _,h,_=>h.elim
 | _,_ :: _,[],h,_=>h.elim
theorem dpR.append : ∀{X Y : List HA} {ae rs' : List (RawN α)} {l l' : List α},dpR X ae l -> dpR Y rs' l' -> dpR (X++Y) (ae++rs') (l++l')
 | _,_,[],_,[],_,h,h' => by have h : _ = []:=h;rw[h];exact h'
 | _,_,r :: rs,_,a :: l,_,⟨X1,X2,h0,h1,h⟩,h' => by
  subst h0
  exact⟨X1,X2++_,bZ ..,h1,dpR.append h h'⟩
 | _,_,[],_,_ :: _,_,h,_=>h.elim
 | _,_,_ :: _,_,[],_,h,_=>h.elim
theorem dpR.nil : dpR [] ([] : List (RawN α)) []:=rfl
theorem dpR.one{X : List HA}{c : List Value}{a : α}(h : Dp.dp X c a): dpR X [⟨c⟩] [a]:=⟨X,[],(ce X).symm,h,rfl⟩
theorem dpR.get : ∀{X : List HA} {ae : List (RawN α)} {l : List α} {k : Nat} {a : α},dpR X ae l -> l[k]? = some a -> ∃(r : RawN α) (X1 Y X2 : List HA),ae[k]? = some r /\ X = X1++(Y++X2) /\ Dp.dp Y r.c a /\
 ∀(Y' : List HA) (c' : List Value) (a' : α),Dp.dp Y' c' a' -> dpR (X1++(Y'++X2)) (ae.set k ⟨c'⟩) (l.set k a')
 | _,[],[],_,_,_,e=>by cases e
 | _,r :: rs,a :: l,0,b,⟨X1,X2,h0,h1,h⟩,e=>by
  have e : some a = some b:=e
  cases e
  exact⟨r,[],X1,X2,rfl,h0,h1,λY' c' a' h' => ⟨Y',X2,rfl,h',h⟩⟩
 | _,r :: rs,a :: l,k+1,b,⟨X1,X2,h0,h1,h⟩,e=>by
  obtain⟨r',Z1,Y,Z2,k1,k2,k3,k4⟩:=dpR.get h (k:=k) (by simpa using e)
  subst h0;subst k2
  refine⟨r',X1++Z1,Y,Z2,by simpa using k1,by simp,k3,λY' c' a' h' => ⟨X1,Z1++(Y'++Z2),by simp,h1,k4 Y' c' a' h'⟩⟩
 | _,[],_ :: _,_,_,h,_=>h.elim
 | _,_ :: _,[],_,_,h,_=>h.elim
theorem dpR.at{X : List HA}{ae : List (RawN α)}{l : List α}{i : Int}{a : α}(h : dpR X ae l)(e : idx l i = some a): ∃(r : RawN α) (X1 Y X2 : List HA),idx ae i = some r /\ X = X1++(Y++X2) /\ Dp.dp Y r.c a /\
 ∀(Y' : List HA) (c' : List Value) (a' : α),Dp.dp Y' c' a' -> dpR (X1++(Y'++X2)) (ae.set i.toNat ⟨c'⟩) (l.set i.toNat a'):=by
 obtain⟨h0,h1,h2⟩:=pP e
 obtain⟨r,X1,Y,X2,k1,k2⟩:=h.get h2
 exact⟨r,X1,Y,X2,by unfold idx;rw[if_pos h0,k1],k2⟩
theorem DS.form{X : List HA}{v : Value}{l : List α}(h : DS X v l): ∃(p : Option Addr) (c : Nat),v = vS p l c:=by
 obtain⟨p,c,_,_,e,_⟩:=h
 exact⟨p,c,e⟩
theorem DS.one{X : List HA}{v : Value}{l : List α}(h : DS X v l): v.oneCell' = true:=by
 obtain⟨p,c,_,_,rfl,_⟩:=h
 rfl
theorem DS.plain{X : List HA}{v : Value}{l : List α}(h : DS X v l): X.all HA.plain = true:=by
 obtain⟨p,c,ae,Y,rfl,rfl,h⟩:=h
 rw[cV,h.plain];rfl
theorem DS.sl{imm : Imm}{X : List HA}{v : Value}{l : List α}(h : DS X v l)(hL : ∀A∈X,Lent imm A): SL imm v l:=by
 obtain⟨p,c,ae,Y,e,rfl,h⟩:=h
 exact⟨flR ae,hL _ (ci ..),h.fz λA hA=>hL A (cd _ hA)⟩
theorem DS.nil : DS [.osl (.slice none 0 0) (Rp.sz α) []] (.slice none 0 0) ([] : List α):=⟨none,0,[],[],rfl,rfl,rfl⟩
theorem DS.mk'{p : Option Addr}{c : Nat}{ae : List (RawN α)}{Y : List HA}{l : List α}(h : dpR Y ae l): DS (.osl (vS p l c) (Rp.sz α) (flR ae) :: Y) (vS p l c) l:=⟨p,c,ae,Y,rfl,rfl,h⟩
end
instance : Dp Int where
 dp X cs n:=X = [] /\ cs = [vI n]
 len h:=by obtain⟨_,rfl⟩:=h;rfl
 one h:=by obtain⟨_,rfl⟩:=h;simp[Value.oneCell']
 plain h:=by obtain⟨rfl,_⟩:=h;rfl
 fz h _:=h.2
theorem dpI{cs : List Value}: ∀{l : List Int},cs = l.map vI -> ∃ae : List (RawN Int),cs = flR ae /\ dpR [] ae l
 | [],h=>⟨[],h,rfl⟩
 | n :: l,h=>by
  obtain⟨ae,h1,h2⟩:=dpI (l:=l) rfl
  exact⟨⟨[vI n]⟩ :: ae,by rw[h,cA,h1];rfl,[],[],rfl,⟨rfl,rfl⟩,h2⟩
theorem rlI{imm : Imm}: ∀{l : List Int} {cs : List Value},RL imm cs l -> cs = l.map vI
 | [],_,h=>h
 | n :: l,_,⟨c1,c2,h1,_,h3,h4⟩=>by
  have h3 : c1 = [vI n]:=h3
  rw[h1,h3,rlI h4];rfl
theorem dsI{imm : Imm}{p : Option Addr}{c : Nat}{cs : List Value}{l : List Int}(h : RL imm cs l): DS [hO Int (vS p l c) cs] (vS p l c) l:=by
 obtain⟨ae,h1,h2⟩:=dpI (rlI h)
 rw[h1]
 exact .mk' h2
instance : Dp zC where
 dp X cs a := ∃v0,cs = [v0,vI a.Const] /\ DS X v0 a.Coefs
 len h:=by obtain⟨v0,rfl,_⟩:=h;rfl
 one h:=by obtain⟨v0,rfl,h⟩:=h;simp[h.one,dQ,dR]
 plain h:=by obtain⟨v0,_,h⟩:=h;exact h.plain
 fz h hL:=by obtain⟨v0,rfl,h⟩:=h;exact sA ⟨_,rfl,h.sl hL⟩
instance : Dp zI where
 dp X cs a := ∃v0,cs = [vT a.Name.l,v0] /\ DS X v0 a.Dims
 len h:=by obtain⟨v0,rfl,_⟩:=h;rfl
 one h:=by obtain⟨v0,rfl,h⟩:=h;simp[h.one,dQ,dR]
 plain h:=by obtain⟨v0,_,h⟩:=h;exact h.plain
 fz h hL:=by obtain⟨v0,rfl,h⟩:=h;exact gS ⟨_,rfl,h.sl hL⟩
instance : Dp zK where
 dp X cs a := ∃v0,cs = [vT a.Array.l,v0] /\ DS X v0 a.Subs
 len h:=by obtain⟨v0,rfl,_⟩:=h;rfl
 one h:=by obtain⟨v0,rfl,h⟩:=h;simp[h.one,dQ,dR]
 plain h:=by obtain⟨v0,_,h⟩:=h;exact h.plain
 fz h hL:=by obtain⟨v0,rfl,h⟩:=h;exact nU ⟨_,rfl,h.sl hL⟩
theorem eZ{imm : Imm}{X Y : List HA}(h : ∀A∈X++Y,Lent imm A): ∀A∈X,Lent imm A:=λA hA=>h A (cI _ hA)
theorem gB{imm : Imm}{X Y : List HA}(h : ∀A∈X++Y,Lent imm A): ∀A∈Y,Lent imm A:=λA hA=>h A (cR _ hA)
theorem fK{X Y : List HA}(h : X.all HA.plain = true)(k : Y.all HA.plain = true): (X++Y).all HA.plain = true:=by rw[List.all_append,h,k];rfl
instance : Dp zL where
 dp X cs a := ∃v0 v1 X0 X1,cs = [v0,v1] /\ X = X0++X1 /\ DS X0 v0 a.Lo /\ DS X1 v1 a.Hi
 len h:=by obtain⟨v0,v1,_,_,rfl,_⟩:=h;rfl
 one h:=by obtain⟨v0,v1,_,_,rfl,_,h,k⟩:=h;simp[h.one,k.one]
 plain h:=by obtain⟨v0,v1,_,_,_,rfl,h,k⟩:=h;exact fK h.plain k.plain
 fz h hL:=by obtain⟨v0,v1,_,_,rfl,rfl,h,k⟩:=h;exact jL ⟨_,_,rfl,h.sl (eZ hL),k.sl (gB hL)⟩
mutual
def dpE : zD -> List HA -> List Value -> Prop
 | .mk K N I R Q,X,cs => ∃v0 v1 v2 X0 X1 X2,cs = [vI K,vI N,v0,vI I.Const,vT R.Array.l,v1,v2] /\ X = X0++(X1++X2) /\ DS X0 v0 I.Coefs /\ DS X1 v1 R.Subs /\
  ∃(p : Option Addr) (c : Nat) (ae : List (RawN zD)) (Y : List HA),v2 = .slice p Q.length c /\ X2 = .osl v2 7 (flR ae) :: Y /\ dpEs Q ae Y
def dpEs : List zD -> List (RawN zD) -> List HA -> Prop
 | [],[],X=>X = []
 | e :: es,r :: rs,X => ∃X1 X2,X = X1++X2 /\ dpE e X1 r.c /\ dpEs es rs X2
 | _,_,_=>False
end
mutual
theorem zHa : ∀{e : zD} {X : List HA} {cs : List Value},dpE e X cs -> cs.length = 7
 | .mk K N I R Q,X,cs,h=>by
  simp only[dpE] at h
  obtain⟨v0,v1,v2,X0,X1,X2,rfl,_⟩:=h;rfl
theorem zKa : ∀{es : List zD} {rs : List (RawN zD)} {X : List HA},dpEs es rs X -> ∀r∈rs,okR r
 | [],[],_,_=>λr h=>by cases h
 | e :: es,r :: rs,X,h=>by
  simp only[dpEs] at h
  obtain⟨X1,X2,_,h1,h2⟩:=h
  intro x hx
  rcases cP.1 hx with rfl|hx
  ·exact⟨zHa h1,zJF h1⟩
  ·exact zKa h2 x hx
 | [],_ :: _,_,h=>by simp only[dpEs] at h
 | _ :: _,[],_,h=>by simp only[dpEs] at h
theorem zJF : ∀{e : zD} {X : List HA} {cs : List Value},dpE e X cs -> ∀v∈cs,v.oneCell' = true
 | .mk K N I R Q,X,cs,h=>by
  simp only[dpE] at h
  obtain⟨v0,v1,v2,X0,X1,X2,rfl,_,h0,h1,p,c,ae,Y,rfl,_⟩:=h
  have hsl : (Value.slice p Q.length c).oneCell' = true:=rfl
  simp[h0.one,h1.one,dQ,dR,hsl]
end
mutual
theorem zHN : ∀{e : zD} {X : List HA} {cs : List Value},dpE e X cs -> X.all HA.plain = true
 | .mk K N I R Q,X,cs,h=>by
  simp only[dpE] at h
  obtain⟨v0,v1,v2,X0,X1,X2,_,rfl,h0,h1,p,c,ae,Y,_,rfl,h2⟩:=h
  refine fK h0.plain (fK h1.plain ?_)
  rw[cV,zGj h2];rfl
theorem zGj : ∀{es : List zD} {rs : List (RawN zD)} {X : List HA},dpEs es rs X -> X.all HA.plain = true
 | [],[],_,h=>by simp only[dpEs] at h;subst h;rfl
 | e :: es,r :: rs,X,h=>by
  simp only[dpEs] at h
  obtain⟨X1,X2,rfl,h1,h2⟩:=h
  exact fK (zHN h1) (zGj h2)
 | [],_ :: _,_,h=>by simp only[dpEs] at h
 | _ :: _,[],_,h=>by simp only[dpEs] at h
end
mutual
theorem zKC{imm : Imm}: ∀{e : zD} {X : List HA} {cs : List Value},dpE e X cs -> (∀A∈X,Lent imm A) -> Rp.rep imm cs e
 | .mk K N I R Q,X,cs,h,hL=>by
  simp only[dpE] at h
  obtain⟨v0,v1,v2,X0,X1,X2,rfl,rfl,h0,h1,p,c,ae,Y,rfl,rfl,h2⟩:=h
  have hL2:=gB (gB hL)
  refine wI ⟨_,_,_,rfl,h0.sl (eZ hL),h1.sl (eZ (gB hL)),flR ae,hL2 _ (ci ..),zJG h2 λA hA=>hL2 A (cd _ hA)⟩
theorem zJG{imm : Imm}: ∀{es : List zD} {rs : List (RawN zD)} {X : List HA},dpEs es rs X -> (∀A∈X,Lent imm A) -> RL imm (flR rs) es
 | [],[],_,_,_=>rfl
 | e :: es,r :: rs,X,h,hL=>by
  simp only[dpEs] at h
  obtain⟨X1,X2,rfl,h1,h2⟩:=h
  exact⟨r.c,flR rs,rfl,zHa h1,zKC h1 (eZ hL),zJG h2 (gB hL)⟩
 | [],_ :: _,_,h,_=>by simp only[dpEs] at h
 | _ :: _,[],_,h,_=>by simp only[dpEs] at h
end
instance : Dp zD where
 dp X cs e:=dpE e X cs
 len h:=zHa h
 one h:=zJF h
 plain h:=zHN h
 fz h hL:=zKC h hL
theorem zEz : ∀{es : List zD} {rs : List (RawN zD)} {X : List HA},dpEs es rs X↔dpR X rs es
 | [],[],X=>by simp[dpEs,dpR]
 | e :: es,r :: rs,X=>by
  simp only[dpEs,dpR]
  constructor
  ·rintro⟨X1,X2,h0,h1,h2⟩;exact⟨X1,X2,h0,h1,zEz.1 h2⟩
  ·rintro⟨X1,X2,h0,h1,h2⟩;exact⟨X1,X2,h0,h1,zEz.2 h2⟩
 | [],_ :: _,_=>by simp[dpEs,dpR]
 | _ :: _,[],_=>by simp[dpEs,dpR]
theorem eH{X : List HA}{cs : List Value}{e : zD}(h : Dp.dp X cs e): ∃v0 v1 v2 X0 X1 X2,cs = [vI e.Kind,vI e.Num,v0,vI e.Index.Const,vT e.Read.Array.l,v1,v2] /\ X = X0++(X1++X2) /\ DS X0 v0 e.Index.Coefs /\ DS X1 v1 e.Read.Subs /\ DS X2 v2 e.Kids:=by
 obtain⟨K,N,I,R,Q⟩:=e
 have h : dpE _ X cs:=h
 simp only[dpE] at h
 obtain⟨v0,v1,v2,X0,X1,X2,h0,h1,h2,h3,p,c,ae,Y,h4,h5,h6⟩:=h
 exact⟨v0,v1,v2,X0,X1,X2,h0,h1,h2,h3,p,c,ae,Y,h4,h5,zEz.1 h6⟩
theorem zAH{X0 X1 X2 : List HA}{v0 v1 v2 : Value}{e : zD}(h0 : DS X0 v0 e.Index.Coefs)(h1 : DS X1 v1 e.Read.Subs)(h2 : DS X2 v2 e.Kids):
 Dp.dp (X0++(X1++X2)) [vI e.Kind,vI e.Num,v0,vI e.Index.Const,vT e.Read.Array.l,v1,v2] e:=by
 obtain⟨K,N,I,R,Q⟩:=e
 show dpE _ _ _
 simp only[dpE]
 obtain⟨p,c,ae,Y,h4,h5,h6⟩:=h2
 exact⟨v0,v1,v2,X0,X1,X2,rfl,rfl,h0,h1,p,c,ae,Y,h4,h5,zEz.2 h6⟩
instance : Dp zJ where
 dp X cs a := ∃c0 c1 X0 X1,cs = c0++c1 /\ X = X0++X1 /\ Dp.dp X0 c0 a.Write /\ Dp.dp X1 c1 a.Value
 len h:=by obtain⟨c0,c1,_,_,rfl,_,h,k⟩:=h;rw[cO,Dp.len h,Dp.len k];rfl
 one h:=by
  obtain⟨c0,c1,_,_,rfl,_,h,k⟩:=h
  intro v hv
  rcases dj.1 hv with hv|hv
  ·exact Dp.one h v hv
  ·exact Dp.one k v hv
 plain h:=by obtain⟨c0,c1,_,_,_,rfl,h,k⟩:=h;exact fK (Dp.plain h) (Dp.plain k)
 fz h hL:=by
  obtain⟨c0,c1,_,_,rfl,rfl,h,k⟩:=h
  have h1:=Dp.fz h (eZ hL)
  have k1:=Dp.fz k (gB hL)
  obtain⟨w0,rfl,g0⟩:=zB3 h1
  obtain⟨w1,w2,w3,rfl,g1,g2,g3⟩:=zAq k1
  exact oQ ⟨_,_,_,_,rfl,g0,g1,g2,g3⟩
instance : Dp zN where
 dp X cs a := ∃v0 v1 X0 X1,cs = [v0,v1] /\ X = X0++X1 /\ DS X0 v0 a.Nest /\ DS X1 v1 a.Body
 len h:=by obtain⟨v0,v1,_,_,rfl,_⟩:=h;rfl
 one h:=by obtain⟨v0,v1,_,_,rfl,_,h,k⟩:=h;simp[h.one,k.one]
 plain h:=by obtain⟨v0,v1,_,_,_,rfl,h,k⟩:=h;exact fK h.plain k.plain
 fz h hL:=by obtain⟨v0,v1,_,_,rfl,rfl,h,k⟩:=h;exact mD ⟨_,_,rfl,h.sl (eZ hL),k.sl (gB hL)⟩
instance : Dp zV where
 dp X cs a := ∃v0 v1 X0 X1,cs = [v0,v1] /\ X = X0++X1 /\ DS X0 v0 a.Arrays /\ DS X1 v1 a.Parts
 len h:=by obtain⟨v0,v1,_,_,rfl,_⟩:=h;rfl
 one h:=by obtain⟨v0,v1,_,_,rfl,_,h,k⟩:=h;simp[h.one,k.one]
 plain h:=by obtain⟨v0,v1,_,_,_,rfl,h,k⟩:=h;exact fK h.plain k.plain
 fz h hL:=by obtain⟨v0,v1,_,_,rfl,rfl,h,k⟩:=h;exact fN ⟨_,_,rfl,h.sl (eZ hL),k.sl (gB hL)⟩
section
variable {P : Program} {n : Nat} {B : Base} {Q : Exit -> Act -> World -> Prop} {hs : List HA} {m : FM}
theorem zKl{c : Code}: ∀(X : List HA) {imm : Imm},X.all HA.plain = true -> (∀af,imm.le af -> (∀A∈X,Lent af A) -> J P n B c Q af hs m) -> J P n B c Q imm (X++hs) m
 | [],imm,_,h=>h imm (Imm.le.refl _) (λ_ h=>by cases h)
 | A :: X,imm,hp,h=>by
  rw[cV,cy] at hp
  show J P n B c Q imm (A :: (X++hs)) m
  refine zB1 0 rfl (λimm1 ai hl1 => ?_) hp.1
  refine zKl X hp.2 λimm2 ax h2=>h imm2 (ai.trans ax) λA' hA' => ?_
  rcases cP.1 hA' with rfl|hA'
  ·exact hl1.mono ax
  ·exact h2 A' hA'
theorem zIO{aa : List Oper}{pc : Nat}: ∀(X : List HA) {imm : Imm},X.all HA.plain = true -> (∀af,imm.le af -> (∀A∈X,Lent af A) -> R P n B aa Q pc af hs m) -> R P n B aa Q pc imm (X++hs) m
 | [],imm,_,h=>h imm (Imm.le.refl _) (λ_ h=>by cases h)
 | A :: X,imm,hp,h=>by
  rw[cV,cy] at hp
  show R P n B aa Q pc imm (A :: (X++hs)) m
  refine tP 0 rfl (λimm1 ai hl1 => ?_) hp.1
  refine zIO X hp.2 λimm2 ax h2=>h imm2 (ai.trans ax) λA' hA' => ?_
  rcases cP.1 hA' with rfl|hA'
  ·exact hl1.mono ax
  ·exact h2 A' hA'
end
def DPo{α : Type}[Rp α][Dp α](r : α): Nat -> Imm -> List HA -> Value -> Prop:=λ_ _ aj v => ∃cs,v = tupV [.agg ⟨cs⟩] /\ Dp.dp aj cs r
def DSo{α : Type}[Rp α][Dp α](r : List α): Nat -> Imm -> List HA -> Value -> Prop:=λ_ _ aj v => ∃v0,v = tupV [v0] /\ DS aj v0 r
def DMo{α : Type}[Rp α][Dp α](v : Value)(r : Int × List α): Nat -> Imm -> List HA -> Value -> Prop:=λ_ _ aj u=>u = tupV [vI r.1] /\ DS aj v r.2
theorem app3(r : HA)(X Y T : List HA): r :: (X++(Y++T)) = (r :: (X++Y))++T:=by rw[em,bZ]
theorem pm1(L Z R : List HA): (L++(Z++R)).Perm (Z++(L++R)):=by
 rw[<- bZ,<- bZ]
 exact cf.append_right R
theorem pm2(L M Z R : List HA): (L++(M++(Z++R))).Perm (Z++(L++(M++R))):=((pm1 M Z R).append_left L).trans (pm1 L Z _)
theorem pm3(L M N Z R : List HA): (L++(M++(N++(Z++R)))).Perm (Z++(L++(M++(N++R)))):=((pm2 M N Z R).append_left L).trans (pm1 L Z _)
theorem pm4(L M N O Z R : List HA): (L++(M++(N++(O++(Z++R))))).Perm (Z++(L++(M++(N++(O++R))))):=((pm3 M N O Z R).append_left L).trans (pm1 L Z _)
theorem pm5(L M N O S Z R : List HA): (L++(M++(N++(O++(S++(Z++R)))))).Perm (Z++(L++(M++(N++(O++(S++R)))))):=((pm4 M N O S Z R).append_left L).trans (pm1 L Z _)
theorem pmF(C L M Y0 Y1 Yt : List HA): (L++(M++(Yt++(C++(Y0++Y1))))).Perm (C++(L++(M++(Y0++(Y1++Yt))))):=
 (pm3 L M Yt C (Y0++Y1)).trans (List.Perm.append_left C (List.Perm.append_left L (List.Perm.append_left M (by rw[<- bZ Y0];exact cf))))
theorem pmE(r : HA)(Yx Yy C : List HA): (Yx++(r :: (Yy++C))).Perm (r :: (C++(Yx++Yy))):=
 (pm1 Yx [r] (Yy++C)).trans (List.Perm.cons r (by show (Yx++(Yy++C)).Perm _;rw[<- bZ];exact cf))
def nilE : List HA:=[.osl (.slice none 0 0) 1 [],.osl (.slice none 0 0) 2 [],.osl (.slice none 0 0) 7 []]
def nilO(A : HA): Prop := ∃sz,A = .osl (.slice none 0 0) sz []
def nilB : HA -> Bool
 | .osl (.slice none 0 0) _ []=>true
 | _=>false
theorem nilB.out : ∀{A : HA},nilB A = true -> nilO A:=by
 intro A h
 unfold nilB at h
 split at h
 ·exact⟨_,rfl⟩
 ·cases h
theorem zHO{B : Base}{imm : Imm}: ∀{Z hs : List HA} {w : World},(∀A∈Z,nilO A) -> Good B imm hs w -> Good B imm (Z++hs) w
 | [],_,_,_,h=>h
 | A :: Z,_,_,hz,h=>by
  obtain⟨sz,e⟩:=hz A (ci ..)
  subst e
  exact(zHO (λB hB=>hz B (cd _ hB)) h).nil_osl sz
theorem nY{B : Base}{imm : Imm}: ∀(Z : List HA) {hs : List HA} {w : World},Good B imm (Z++hs) w -> Good B imm hs w
 | [],_,_,h=>h
 | _ :: Z,_,_,h=>nY Z h.tail
theorem zGk{B : Base}{imm : Imm}{hs Z : List HA}{w : World}(h : Good B imm (hs++Z) w): Good B imm hs w:=nY Z (h.perm cf)
section
variable {α : Type} [Rp α]
theorem zCE{α : Type}{l : List α}{i : Int}{y z : α}(h : idx l i = some y): idx (l.set i.toNat z) i = some z:=by
 obtain⟨h0,h1,h2⟩:=pP h
 unfold idx
 rw[if_pos h0,List.getElem?_set_self (ck.1 h2).1]
theorem zBP{α : Type}{l : List α}{i : Int}{y : α}(h : idx l i = some y): l.set i.toNat y = l:=by
 obtain⟨h0,h1,h2⟩:=pP h
 obtain⟨h3,h4⟩:=ck.1 h2
 rw[<- h4,List.set_getElem_self]
theorem zIr{ae : List (RawN α)}(h : ∀r∈ae,okR r)(k : Nat){c : List Value}(hc : okR (⟨c⟩ : RawN α)): ∀r∈ae.set k ⟨c⟩,okR r:=λr hr=>by
 rcases List.mem_or_eq_of_mem_set hr with k|rfl
 ·exact h r k
 ·exact hc
theorem dpR.two{α : Type}[Rp α][Dp α]{X : List HA}{ae : List (RawN α)}{l : List α}{a b : α}(h : dpR X ae l)(ea : idx l 0 = some a)(eb : idx l 1 = some b): ∃(r0 r1 : RawN α) (rt : List (RawN α)) (Y0 Y1 Yt : List HA),ae = r0 :: r1 :: rt /\ X = Y0++(Y1++Yt) /\ Dp.dp Y0 r0.c a /\ Dp.dp Y1 r1.c b:=by
 obtain⟨_,_,e0⟩:=pP ea
 obtain⟨_,_,e1⟩:=pP eb
 match l,ae,h with
 | [],_,_=>cases e0
 | [_],_,_=>cases e1
 | a' :: b' :: l,[],h=>exact h.elim
 | a' :: b' :: l,[_],⟨_,_,_,_,h⟩=>exact h.elim
 | a' :: b' :: l,r0 :: r1 :: rt,⟨Y0,Z,e,k0,Y1,Yt,e',k1,_⟩=>
  have ha : some a' = some a:=e0
  have hb : some b' = some b:=e1
  cases ha;cases hb
  exact⟨r0,r1,rt,Y0,Y1,Yt,rfl,by rw[e,e'],k0,k1⟩
theorem dpR.idx{α : Type}[Rp α][Dp α]{X : List HA}{ae : List (RawN α)}{l : List α}{i : Int}{a : α}(h : dpR X ae l)(e : idx l i = some a): ∃r,idx ae i = some r:=by
 obtain⟨r,_,_,_,k,_⟩:=h.at e
 exact⟨r,k⟩
theorem zIP{ae : List (RawN α)}{i : Int}{r : RawN α}(hr : idx ae i = some r)(hok : ∀r∈ae,okR r): ((flR ae).drop (i.toNat*Rp.sz α)).take (Rp.sz α) = r.c:=by
 obtain⟨h0,h1,h2⟩:=pP hr
 have:=(zEN (imm:=λ_=>none) hok).at h2
 exact this.1.1
end
section
variable {P : Program} {n : Nat} {B : Base} {Q : Exit -> Act -> World -> Prop} {imm : Imm} {hs : List HA} {m : FM} {aa : List Oper} {pc d : Nat} {ty : TypeId} {pos : String} {after : Array Edge} {g : Option (Nat × Bool)}
theorem zCF(aj : List HA)(hp : hs.Perm aj)(h : R P n B aa Q pc imm aj m): R P n B aa Q pc imm hs m:=dY (λ_ g=>g.perm hp.symm) h
theorem zEO{c : Code}(aj : List HA)(hp : hs.Perm aj)(h : J P n B c Q imm aj m): J P n B c Q imm hs m:=kU (λ_ g=>g.perm hp.symm) h
theorem uO{f : FuncId}{x : Operand}{xs : Array Operand}{ts : Array TypeId}{vs : List Value}{post : Nat -> Imm -> List HA -> Value -> Prop}
 (ho : aa[pc]? = some ⟨some d,.call { callee:=.value x,args:=xs,argTypes:=ts },ty,pos,after,g⟩) (hc : Ret P f vs imm [] post)
 (next : ∀af X v k,imm.le af -> post k af X v -> R P n B aa Q (pc+1) af (hs++X) ((d,v) :: m))
 (hg : guardB aa m g = some true:=by kernel_rfl) (hn : Nat.blt d n = true:=by kernel_rfl) (hx : val m x = some (.func (.func f) #[] #[]):=by kernel_rfl) (hf : callable P f = true:=by kernel_rfl)
 (hvs : vals m xs.toList = some vs:=by kernel_rfl) : R P n B aa Q pc imm hs m:=
 uZ (hs1:=[]) (rest:=hs) ho hg hn hx hf hvs rfl hc λaf X v k le _ hp _=>zCF _ cf (next af X v k le hp)
theorem mV{f : FuncId}{x : Operand}{xs : Array Operand}{ts : Array TypeId}{vs : List Value}{Z rest : List HA}{post : Nat -> Imm -> List HA -> Value -> Prop}
 (ho : aa[pc]? = some ⟨some d,.call { callee:=.value x,args:=xs,argTypes:=ts },ty,pos,after,g⟩) (bag : List HA -> List HA) (hp : ∀Z,(bag Z).Perm (Z++rest)) (hh : hs = bag Z) (hc : Ret P f vs imm Z post)
 (next : ∀af Z' v k,imm.le af -> post k af Z' v -> R P n B aa Q (pc+1) af (bag Z') ((d,v) :: m))
 (hg : guardB aa m g = some true:=by kernel_rfl) (hn : Nat.blt d n = true:=by kernel_rfl) (hx : val m x = some (.func (.func f) #[] #[]):=by kernel_rfl) (hf : callable P f = true:=by kernel_rfl)
 (hvs : vals m xs.toList = some vs:=by kernel_rfl) : R P n B aa Q pc imm hs m:=by
 subst hh
 exact zCF _ (hp Z) <| uZ (hs1:=Z) (rest:=rest) ho hg hn hx hf hvs rfl hc λaf X v k le _ hq _=>zCF _ (hp X).symm (next af X v k le hq)
theorem zBk{f : FuncId}{x : Operand}{xs : Array Operand}{ts : Array TypeId}{vs : List Value}{L rest : List HA}{post : Nat -> Imm -> List HA -> Value -> Prop}
 (ho : aa[pc]? = some ⟨some d,.call { callee:=.value x,args:=xs,argTypes:=ts },ty,pos,after,g⟩) (hp : hs.Perm (L++rest)) (hpl : L.all HA.plain = true) (hc : ∀imm1,imm.le imm1 -> (∀A∈L,Lent imm1 A) -> Ret P f vs imm1 [] post)
 (next : ∀imm2 imm3 v k,imm.le imm3 -> imm3.le imm2 -> (∃X,post k imm2 X v) -> R P n B aa Q (pc+1) imm3 hs ((d,v) :: m))
 (hg : guardB aa m g = some true:=by kernel_rfl) (hn : Nat.blt d n = true:=by kernel_rfl) (hx : val m x = some (.func (.func f) #[] #[]):=by kernel_rfl) (hf : callable P f = true:=by kernel_rfl)
 (hvs : vals m xs.toList = some vs:=by kernel_rfl) : R P n B aa Q pc imm hs m:=
 zCF _ hp <| zFc (L:=L) (hs1:=[]) (rest:=rest) ho hg hn hx hf hvs (by rw[ce]) hc (λimm2 imm3 X v k ai ax _ _ hq _=>dY (λw g=>by
  have g' : Good B imm3 (X++(L++rest)) w:=g.perm (by rw[bZ];exact(pm1 L X rest).symm)
  exact(nY X g').perm hp) (next imm2 imm3 v k ai ax ⟨X,hq⟩)) hpl
theorem zKb{f : FuncId}{x : Operand}{xs : Array Operand}{ts : Array TypeId}{vs : List Value}{L rest : List HA}{post : Nat -> Imm -> List HA -> Value -> Prop}
 (ho : aa[pc]? = some ⟨some d,.call { callee:=.value x,args:=xs,argTypes:=ts },ty,pos,after,g⟩) (hp : hs.Perm (L++rest)) (hpl : L.all HA.plain = true) (hc : ∀imm1,imm.le imm1 -> (∀A∈L,Lent imm1 A) -> Ret P f vs imm1 [] post)
 (next : ∀imm2 imm3 X v k,imm.le imm3 -> imm3.le imm2 -> post k imm2 X v -> R P n B aa Q (pc+1) imm3 (hs++X) ((d,v) :: m))
 (hg : guardB aa m g = some true:=by kernel_rfl) (hn : Nat.blt d n = true:=by kernel_rfl) (hx : val m x = some (.func (.func f) #[] #[]):=by kernel_rfl) (hf : callable P f = true:=by kernel_rfl)
 (hvs : vals m xs.toList = some vs:=by kernel_rfl) : R P n B aa Q pc imm hs m:=
 zCF _ hp <| zFc (L:=L) (hs1:=[]) (rest:=rest) ho hg hn hx hf hvs (by rw[ce]) hc (λimm2 imm3 X v k ai ax _ _ hq _=>zCF _ (by
  rw[bZ]
  exact(cf.append_left L).trans (by rw[<- bZ];exact hp.symm.append_right X)) (next imm2 imm3 X v k ai ax hq)) hpl
theorem zDb{α : Type}[Rp α]{t : TypeId}{x xi : Operand}{v : Value}{k : IntKind}{i : Int}{ae : List (RawN α)}{r : RawN α}{bag : List HA}
 (ho : aa[pc]? = some ⟨some d,.indexAddr t x xi,ty,pos,after,g⟩) (hi : val m xi = some (.int k i)) (hr : idx ae i = some r) (hok : ∀r∈ae,okR r)
 (next : ∀ad,AtO v (Rp.sz α) i.toNat ad -> R P n B aa Q (pc+1) imm (hO α v (flR ae) :: bag) ((d,.pointer (some ad)) :: m))
 (hg : guardB aa m g = some true:=by kernel_rfl) (hn : Nat.blt d n = true:=by kernel_rfl) (hx : val m x = some v:=by kernel_rfl) (ht : elemT P t = some (Rp.sz α):=by kernel_rfl) : R P n B aa Q pc imm (hO α v (flR ae) :: bag) m:=
 zIK (α:=RawN α) 0 ho hi rfl (zEN hok) hr (λad cc av _ _=>next ad av) hg hn hx ht
theorem zKD{α : Type}[Rp α]{t : TypeId}{x : Operand}{v0 : Value}{i : Int}{ad : Addr}{ae : List (RawN α)}{c : List Value}{bag : List HA}(o : Nat)(cc' : List Value)(v : Value)
 (ho : aa[pc]? = some ⟨some d,.load t x,ty,pos,after,g⟩) (av : AtO v0 (Rp.sz α) i.toNat ad) (hr : idx ae i = some ⟨c⟩) (hok : ∀r∈ae,okR r)
 (next : R P n B aa Q (pc+1) imm (hO α v0 (flR ae) :: bag) ((d,v) :: m))
 (hg : guardB aa m g = some true:=by kernel_rfl) (hn : Nat.blt d n = true:=by kernel_rfl) (hx : val m x = some (.pointer (some (ad.add o))):=by kernel_rfl) (bt : Nat.ble (o+cc'.length) (Rp.sz α) = true:=by kernel_rfl) (hc : (c.drop o).take cc'.length = cc' := by kernel_rfl) (hv : loadV P t cc' = some v:=by kernel_rfl) : R P n B aa Q pc imm (hO α v0 (flR ae) :: bag) m:=
 zKx 0 o av (zIP hr hok) cc' v ho rfl next hg hn hx bt hc hv
theorem zKE{α : Type}[Rp α]{t : TypeId}{x z : Operand}{v0 v : Value}{i : Int}{ad : Addr}{ae : List (RawN α)}{c : List Value}{bag : List HA}(o : Nat)(c' : List Value)
 (ho : aa[pc]? = some ⟨none,.store t x z,ty,pos,after,g⟩) (av : AtO v0 (Rp.sz α) i.toNat ad) (hr : idx ae i = some ⟨c⟩) (hok : ∀r∈ae,okR r) (hc' : okR (⟨c'⟩ : RawN α))
 (hz : val m z = some v)
 (next : R P n B aa Q (pc+1) imm (hO α v0 (flR (ae.set i.toNat ⟨c'⟩)) :: bag) m)
 (hg : guardB aa m g = some true:=by kernel_rfl) (hx : val m x = some (.pointer (some (ad.add o))):=by kernel_rfl) (bv : sizeT P t = some v.cells.size:=by kernel_rfl) (bt : Nat.ble (o+v.cells.size) (Rp.sz α) = true:=by kernel_rfl)
 (bK : v.cells.toList.all Value.oneCell' = true:=by rfl) (hc : c.take o++v.cells.toList++c.drop (o+v.cells.size) = c' := by kernel_rfl) : R P n B aa Q pc imm (hO α v0 (flR ae) :: bag) m:=
 zDe (α:=RawN α) (x' := ⟨c'⟩) (y:=⟨c⟩) (l:=ae) (cs:=flR ae) 0 o ho hg rfl av hx hz (zIP hr hok) bv bt bK (zEN hok) hr hc ⟨rfl,hc'⟩ λcs' h _=>by
  rw[zGi h];exact next
theorem zHP{α : Type}[Rp α][Dp α]{t : TypeId}{x z : Operand}{v0 : Value}{i : Int}{ad : Addr}{ae : List (RawN α)}{X Y : List HA}{l : List α}{a y : α}{cs : List Value}
 (ho : aa[pc]? = some ⟨none,.store t x z,ty,pos,after,g⟩) (av : AtO v0 (Rp.sz α) i.toNat ad) (hd : dpR X ae l) (hy : idx l i = some y) (hD : Dp.dp Y cs a)
 (hz : val m z = some (.agg ⟨cs⟩))
 (next : ∀raws' X',dpR X' raws' (l.set i.toNat a) -> R P n B aa Q (pc+1) imm (hO α v0 (flR raws') :: X') m)
 (hg : guardB aa m g = some true:=by kernel_rfl) (hx : val m x = some (.pointer (some (ad.add 0))):=by kernel_rfl) (bv : sizeT P t = some (Rp.sz α):=by kernel_rfl) : R P n B aa Q pc imm (hO α v0 (flR ae) :: (X++Y)) m:=by
 obtain⟨r,X1,Y0,X2,hr,rfl,hY0,bJ⟩:=hd.at hy
 have aU : cs.length = Rp.sz α:=Dp.len hD
 have hok : okR (⟨cs⟩ : RawN α):=⟨aU,Dp.one hD⟩
 have hsz' : (Value.agg ⟨cs⟩).cells.size = Rp.sz α:=aU
 have hr0 : okR r:=by
  obtain⟨_,_,k⟩:=pP hr
  exact hd.ok r (cQ k)
 refine zKE (c:=r.c) 0 cs ho av (by rw[hr]) hd.ok hok hz ?_ hg hx (by rw[hsz'];exact bv) (by rw[hsz',cu];exact Nat.ble_self_eq_true _) (cb.2 λv hv=>hok.2 v hv) (by
  rw[hsz',cu,List.drop_of_length_le (Nat.le_of_eq hr0.1)]
  show []++cs++[] = cs
  simp)
 refine dY (aj:=hO α v0 (flR (ae.set i.toNat ⟨cs⟩)) :: (X1++(Y++X2))) (λw g => ?_) (next _ _ (bJ Y cs a hD))
 have g' : Good B imm (Y0++(hO α v0 (flR (ae.set i.toNat ⟨cs⟩)) :: (X1++(Y++X2)))) w:=g.perm (by
  refine(pm1 Y0 [hO α v0 (flR (ae.set i.toNat ⟨cs⟩))] _).trans (List.Perm.cons _ ?_)
  show (Y0++(X1++(Y++X2))).Perm ((X1++(Y0++X2))++Y)
  rw[bZ,bZ]
  exact(pm1 Y0 X1 _).trans ((cf.append_left Y0).append_left X1))
 exact nY Y0 g'
theorem zLM{α : Type}[Rp α][Dp α]{t : TypeId}{x z : Operand}{v0 : Value}{i : Int}{ad : Addr}{ae : List (RawN α)}{c : List Value}{bag Y : List HA}{a : α}{cs : List Value}
 (ho : aa[pc]? = some ⟨none,.store t x z,ty,pos,after,g⟩) (av : AtO v0 (Rp.sz α) i.toNat ad) (hr : idx ae i = some ⟨c⟩) (hok : ∀r∈ae,okR r) (hD : Dp.dp Y cs a)
 (hz : val m z = some (.agg ⟨cs⟩))
 (next : R P n B aa Q (pc+1) imm (hO α v0 (flR (ae.set i.toNat ⟨cs⟩)) :: bag) m)
 (hg : guardB aa m g = some true:=by kernel_rfl) (hx : val m x = some (.pointer (some (ad.add 0))):=by kernel_rfl) (bv : sizeT P t = some (Rp.sz α):=by kernel_rfl) : R P n B aa Q pc imm (hO α v0 (flR ae) :: bag) m:=by
 have aU : cs.length = Rp.sz α:=Dp.len hD
 have hokc : okR (⟨cs⟩ : RawN α):=⟨aU,Dp.one hD⟩
 have hsz' : (Value.agg ⟨cs⟩).cells.size = Rp.sz α:=aU
 have hr0 : okR (⟨c⟩ : RawN α):=by
  obtain⟨_,_,k⟩:=pP hr
  exact hok _ (cQ k)
 refine zKE (c:=c) 0 cs ho av hr hok hokc hz next hg hx (by rw[hsz'];exact bv) (by rw[hsz',cu];exact Nat.ble_self_eq_true _) (cb.2 λv hv=>hokc.2 v hv) (by
  rw[hsz',cu,List.drop_of_length_le (Nat.le_of_eq hr0.1)]
  show []++cs++[] = cs
  simp)
theorem pmG(R X1 Y X2 : List HA): (R++(X1++(Y++X2))).Perm ((R++(X1++X2))++Y):=by
 rw[bZ,bZ]
 exact(cf.append_left X1).append_left R
theorem pmH(r q : HA)(R X1 YN Yb X2 : List HA): (r :: (R++(X1++((YN++(q :: Yb))++X2)))).Perm (q :: ((r :: (R++(X1++(YN++X2))))++Yb)):=by
 rw[bZ YN]
 exact(pm4 [r] R X1 YN (q :: Yb) X2).trans (cf.cons q)
theorem zFA{f : FuncId}{x : Operand}{xs : Array Operand}{ts : Array TypeId}{vs : List Value}{post : Nat -> Imm -> List HA -> Value -> Prop}
 (ho : aa[pc]? = some ⟨some d,.call { callee:=.value x,args:=xs,argTypes:=ts },ty,pos,after,g⟩) (hc : Ret P f vs imm [] post)
 (next : ∀af v k,imm.le af -> (∃X,post k af X v) -> R P n B aa Q (pc+1) af hs ((d,v) :: m))
 (hg : guardB aa m g = some true:=by kernel_rfl) (hn : Nat.blt d n = true:=by kernel_rfl) (hx : val m x = some (.func (.func f) #[] #[]):=by kernel_rfl) (hf : callable P f = true:=by kernel_rfl)
 (hvs : vals m xs.toList = some vs:=by kernel_rfl) : R P n B aa Q pc imm hs m:=
 uZ (hs1:=[]) (rest:=hs) ho hg hn hx hf hvs rfl hc λaf X v k le _ hp _=>dY (λw g=>nY X g) (next af v k le ⟨X,hp⟩)
def okC(sz : Nat)(c : List Value): Bool:=Nat.beq c.length sz&&c.all Value.oneCell'
theorem okC.out{α : Type}[Rp α]{c : List Value}(h : okC (Rp.sz α) c = true): okR (⟨c⟩ : RawN α):=by
 unfold okC at h
 rw[cy] at h
 exact⟨cC h.1,cb.1 h.2⟩
section
variable {α : Type} [Rp α] {v0 : Value} {i : Int} {ae : List (RawN α)} {r : RawN α} {c : List Value} {bag : List HA}
theorem gW{t : TypeId}{x xi : Operand}{k : IntKind}(ho : aa[pc]? = some ⟨some d,.indexAddr t x xi,ty,pos,after,g⟩)(hi : val m xi = some (.int k i))(hr : idx ae i = some r)(hok : ∀r∈ae,okR r)
 (next : ∀ad,AtO v0 (Rp.sz α) i.toNat ad -> R P n B aa Q (pc+1) imm (hO α v0 (flR (ae.set i.toNat ⟨c⟩)) :: bag) ((d,.pointer (some ad)) :: m))
 (hc : okC (Rp.sz α) c = true:=by kernel_rfl) (hg : guardB aa m g = some true:=by kernel_rfl) (hn : Nat.blt d n = true:=by kernel_rfl) (hx : val m x = some v0:=by kernel_rfl) (ht : elemT P t = some (Rp.sz α):=by kernel_rfl) : R P n B aa Q pc imm (hO α v0 (flR (ae.set i.toNat ⟨c⟩)) :: bag) m:=
 zDb ho hi (zCE hr) (zIr hok _ (okC.out hc)) next hg hn hx ht
theorem zBl{t : TypeId}{x : Operand}{ad : Addr}(o : Nat)(cc' : List Value)(v : Value)(ho : aa[pc]? = some ⟨some d,.load t x,ty,pos,after,g⟩)(av : AtO v0 (Rp.sz α) i.toNat ad)(hr : idx ae i = some r)(hok : ∀r∈ae,okR r)
 (next : R P n B aa Q (pc+1) imm (hO α v0 (flR (ae.set i.toNat ⟨c⟩)) :: bag) ((d,v) :: m)) (hok' : okC (Rp.sz α) c = true:=by kernel_rfl)
 (hg : guardB aa m g = some true:=by kernel_rfl) (hn : Nat.blt d n = true:=by kernel_rfl) (hx : val m x = some (.pointer (some (ad.add o))):=by kernel_rfl) (bt : Nat.ble (o+cc'.length) (Rp.sz α) = true:=by kernel_rfl) (hc : (c.drop o).take cc'.length = cc' := by kernel_rfl) (hv : loadV P t cc' = some v:=by kernel_rfl) : R P n B aa Q pc imm (hO α v0 (flR (ae.set i.toNat ⟨c⟩)) :: bag) m:=
 zKD o cc' v ho av (zCE hr) (zIr hok _ (okC.out hok')) next hg hn hx bt hc hv
theorem zCS{t : TypeId}{x z : Operand}{v : Value}{ad : Addr}(o : Nat)(c' : List Value)(ho : aa[pc]? = some ⟨none,.store t x z,ty,pos,after,g⟩)(av : AtO v0 (Rp.sz α) i.toNat ad)(hr : idx ae i = some r)(hok : ∀r∈ae,okR r)(hz : val m z = some v)
 (next : R P n B aa Q (pc+1) imm (hO α v0 (flR (ae.set i.toNat ⟨c'⟩)) :: bag) m) (hok' : okC (Rp.sz α) c = true:=by kernel_rfl) (hok2 : okC (Rp.sz α) c' = true:=by kernel_rfl)
 (hg : guardB aa m g = some true:=by kernel_rfl) (hx : val m x = some (.pointer (some (ad.add o))):=by kernel_rfl) (bv : sizeT P t = some v.cells.size:=by kernel_rfl) (bt : Nat.ble (o+v.cells.size) (Rp.sz α) = true:=by kernel_rfl)
 (bK : v.cells.toList.all Value.oneCell' = true:=by rfl) (hc : c.take o++v.cells.toList++c.drop (o+v.cells.size) = c' := by kernel_rfl) : R P n B aa Q pc imm (hO α v0 (flR (ae.set i.toNat ⟨c⟩)) :: bag) m:=
 zKE o c' ho av (zCE hr) (zIr hok _ (okC.out hok')) (okC.out hok2) hz (by rw[List.set_set];exact next) hg hx bv bt bK hc
end
theorem zJ8{α β : Type}{by' : Nat}{k : Int}{a : α}{l : List α}(b : β)(h : mkrow by' k a = some l): mkrow by' k b = some (List.replicate l.length b):=by
 unfold mkrow at h ⊢
 split at h
 ·rename_i h0
  cases h
  rw[if_pos h0,cK]
 ·cases h
theorem zJH{α : Type}[Rp α][Dp α]{Z : List HA}{z : List Value}{a : α}(h : Dp.dp Z z a): ∀k : Nat,dpR ((List.replicate k Z).flatten) (List.replicate k ⟨z⟩) (List.replicate k a)
 | 0=>rfl
 | k+1=>⟨Z,(List.replicate k Z).flatten,by rw[List.replicate_succ,ey],h,zJH h k⟩
theorem zHQ{α : Type}[Rp α][Dp α]{t : TypeId}{x y : Operand}{k : Int}{a : α}{l : List α}{Z : List HA}(by' : Nat)(z : List Value)(ho : aa[pc]? = some ⟨some d,.makeSlice t x y,ty,pos,after,g⟩)(hk : mkrow by' k a = some l)(hD : Dp.dp Z z a)
 (next : ∀b ae X,dpR X ae l -> R P n B aa Q (pc+1) imm (hO α (vS (some ⟨b,0,none⟩) l l.length) (flR ae) :: X) ((d,vS (some ⟨b,0,none⟩) l l.length) :: m))
 (hg : guardB aa m g = some true:=by kernel_rfl) (hn : Nat.blt d n = true:=by kernel_rfl) (hx : val m x = some (.int .i64 k):=by kernel_rfl) (hy : val m y = some (.int .i64 k):=by kernel_rfl) (ht : mkT P t = some (Rp.sz α,by',z):=by kernel_rfl) (hZ : Z.all nilB = true:=by rfl) :
 R P n B aa Q pc imm [] m:=by
 have hl : l = List.replicate l.length a:=by
  unfold mkrow at hk
  split at hk
  ·cases hk;rw[cK]
  ·cases hk
 refine zLH (α:=RawN α) (a:=(⟨z⟩ : RawN α)) (l:=List.replicate l.length ⟨z⟩) by' z ho (zJ8 _ hk) (show Rp.rep imm z (⟨z⟩ : RawN α) from⟨rfl,Dp.len hD,Dp.one hD⟩) (λb cs h => ?_) hg hn hx hy ht
 rw[zGi h]
 have hd:=zJH hD l.length
 rw[<- hl] at hd
 refine dY (aj:=hO α (vS (some ⟨b,0,none⟩) l l.length) (flR (List.replicate l.length (⟨z⟩ : RawN α))) :: (List.replicate l.length Z).flatten) (λw g => ?_) ?_
 ·have hn : ∀A∈(List.replicate l.length Z).flatten,nilO A:=λA hA=>by
   obtain⟨Z',h1,h2⟩:=List.mem_flatten.1 hA
   rw[(List.mem_replicate.1 h1).2] at h2
   exact nilB.out (cb.1 hZ A h2)
  refine(zHO hn g).perm ?_
  simp only[cK]
  exact(cf (l₁:=[_]))
 ·have:=next b _ _ hd
  simp only[cK]
  exact this
end
section
variable {P : Program} {n : Nat} {B : Base} {Q : Exit -> Act -> World -> Prop} {imm : Imm} {hs : List HA} {m : FM} {aa : List Oper} {pc d : Nat} {ty : TypeId} {pos : String} {after : Array Edge} {g : Option (Nat × Bool)}
theorem zKF{α : Type}[Rp α]{by' : Nat}{l y : List α}{a : α}{ae : List (RawN α)}{c : List Value}(h : app by' l [a] = some y)(hl : ae.length = l.length): app by' ae [⟨c⟩] = some (ae++[⟨c⟩]) /\ y = l++[a]:=by
 obtain⟨h1,h2⟩:=zAo h
 refine⟨?_,h2.symm⟩
 unfold app
 rw[hl]
 exact if_pos h1
theorem SL.src{α : Type}[Rp α]{vx : Value}{cs : List Value}(h : SL imm vx ([⟨cs⟩] : List (RawN α))): Src imm hs vx (Rp.sz α) cs:=by
 obtain⟨aF,h1,h2⟩:=h
 have e:=zGi h2
 subst e
 have e2 : flR ([⟨cs⟩] : List (RawN α)) = cs:=ce cs
 rw[e2] at h1
 exact .inl h1
theorem zGl{α : Type}[Rp α][Dp α]{t t2 : TypeId}{x1 x2 : Operand}{v vx : Value}{ae : List (RawN α)}{X Y rest : List HA}{l y : List α}{a : α}{by' : Nat}{cs : List Value}(e zs : Nat)
 (ho : aa[pc]? = some ⟨some d,.call { callee:=.builtin .append,args := #[x1,x2],argTypes := #[t,t2] },ty,pos,after,g⟩) (hy : val m x2 = some vx) (hd : dpR X ae l) (hD : Dp.dp Y cs a) (s : Src imm (hO α v (flR ae) :: rest) vx (Rp.sz α) cs) (hb : app by' l [a] = some y)
 (next : ∀p' c' raws',dpR (X++Y) raws' y -> R P n B aa Q (pc+1) imm (hO α (vS p' y c') (flR raws') :: rest) ((d,vS p' y c') :: m))
 (hg : guardB aa m g = some true:=by kernel_rfl) (hn : Nat.blt d n = true:=by kernel_rfl) (hx : val m x1 = some v:=by kernel_rfl) (ht : appT P t = some (e,Rp.sz α,by',zs):=by kernel_rfl) (ht2 : appT P t2 = some (e,Rp.sz α,by',zs):=by kernel_rfl) : R P n B aa Q pc imm (hO α v (flR ae) :: rest) m:=by
 obtain⟨hb',rfl⟩:=zKF (c:=cs) hb hd.len
 have hok : okR (⟨cs⟩ : RawN α):=⟨Dp.len hD,Dp.one hD⟩
 have hr2 : RL imm cs ([⟨cs⟩] : List (RawN α)):=⟨cs,[],(ce cs).symm,hok.1,⟨rfl,hok⟩,rfl⟩
 refine fU (α:=RawN α) e zs 0 ho rfl hy (zEN hd.ok) s hr2 hb' (λp' c' cs' h => ?_) hg hn hx ht ht2
 rw[zGi h]
 have hd' : dpR (X++Y) (ae++[⟨cs⟩]) (l++[a]):=hd.append (.one hD)
 have:=next p' c' _ hd'
 unfold vS at this
 rw[<- hd'.len] at this
 exact this
theorem zF6 : ∀w,Good B imm hs w -> Good B imm nilE w:=λw g=>(((nY hs (g.perm (.of_eq (ce hs)))).nil_osl 7).nil_osl 2).nil_osl 1
theorem zGm{A r : HA}(L : List HA){X : List HA}{w : World}(g : Good B imm (A :: r :: (L++X)) w): Good B imm (r :: X) w:=nY L (g.tail.perm (pm1 L [r] X))
theorem zHR(sz : Nat): ∀w,Good B imm hs w -> Good B imm (hs++[.osl (.slice none 0 0) sz []]) w:=λw g=>(g.nil_osl sz).perm cf
theorem zJ9(sz : Nat)(C X : List HA): ∀w,Good B imm (C++X) w -> Good B imm (C++([.osl (.slice none 0 0) sz []]++X)) w:=λw g=>(g.nil_osl sz).perm (pm1 C [_] X)
theorem zF7(C D : List HA)(r : HA)(X : List HA): ∀w,Good B imm (C++(r :: (D++X))) w -> Good B imm ((C++D)++[r :: X].flatten) w:=λw g=>g.perm (by
 rw[ey,List.flatten_nil,ce]
 refine(pm1 (C++D) [r] X).trans ?_
 show (r :: ((C++D)++X)).Perm (C++([r]++(D++X)))
 rw[bZ]
 exact(pm1 C [r] (D++X)).symm)
end
theorem zFB{X : List HA}{cs : List Value}{a : zJ}(h : Dp.dp X cs a): ∃v0 v1 v2 v3 X0 X1 X2 X3,cs = [vT a.Write.Array.l,v0,vI a.Value.Kind,vI a.Value.Num,v1,vI a.Value.Index.Const,vT a.Value.Read.Array.l,v2,v3] /\ X = X0++(X1++(X2++X3)) /\ DS X0 v0 a.Write.Subs /\ DS X1 v1 a.Value.Index.Coefs /\ DS X2 v2 a.Value.Read.Subs /\ DS X3 v3 a.Value.Kids:=by
 obtain⟨_,_,X0,_,rfl,rfl,⟨v0,rfl,h0⟩,hV⟩:=h
 obtain⟨v1,v2,v3,X1,X2,X3,rfl,rfl,h1,h2,h3⟩:=eH hV
 exact⟨v0,v1,v2,v3,X0,X1,X2,X3,rfl,rfl,h0,h1,h2,h3⟩
theorem dzF : Dp.dp [.osl (.slice none 0 0) 1 []] [.slice none 0 0,vI 0] (zC.mk [] 0):=⟨_,rfl,.nil⟩
theorem dzA : Dp.dp [.osl (.slice none 0 0) 1 []] [vT [],.slice none 0 0] (zI.mk ⟨[]⟩ []):=⟨_,rfl,.nil⟩
theorem dzC : Dp.dp [.osl (.slice none 0 0) 2 []] [vT [],.slice none 0 0] (zK.mk ⟨[]⟩ []):=⟨_,rfl,.nil⟩
theorem dzL : Dp.dp [.osl (.slice none 0 0) 2 [],.osl (.slice none 0 0) 2 []] [.slice none 0 0,.slice none 0 0] (zL.mk [] []):=⟨_,_,[_],[_],rfl,rfl,.nil,.nil⟩
theorem dzE : Dp.dp [.osl (.slice none 0 0) 1 [],.osl (.slice none 0 0) 2 [],.osl (.slice none 0 0) 7 []] [vI 0,vI 0,.slice none 0 0,vI 0,vT [],.slice none 0 0,.slice none 0 0] (zD.mk 0 0 (zC.mk [] 0) (zK.mk ⟨[]⟩ []) []):=
 zAH (X0:=[_]) (X1:=[_]) (X2:=[_]) (e:=zD.mk 0 0 (zC.mk [] 0) (zK.mk ⟨[]⟩ []) []) .nil .nil .nil
theorem dzS : Dp.dp ([.osl (.slice none 0 0) 2 []]++[.osl (.slice none 0 0) 1 [],.osl (.slice none 0 0) 2 [],.osl (.slice none 0 0) 7 []]) ([vT [],.slice none 0 0]++[vI 0,vI 0,.slice none 0 0,vI 0,vT [],.slice none 0 0,.slice none 0 0]) (zJ.mk (zK.mk ⟨[]⟩ []) (zD.mk 0 0 (zC.mk [] 0) (zK.mk ⟨[]⟩ []) [])):=⟨_,_,_,_,rfl,rfl,dzC,dzE⟩
theorem dzP : Dp.dp [.osl (.slice none 0 0) 2 [],.osl (.slice none 0 0) 9 []] [.slice none 0 0,.slice none 0 0] (zN.mk [] []):=⟨_,_,[_],[_],rfl,rfl,.nil,.nil⟩
open Go.Proofs Go.Proofs.Tryz
set_option maxRecDepth 20000
def oD(a0 : (List Int))(ak : List Int)(i : Int): Option (List Int):=do
 if(decide (i<(a0.length : Int))) then
  let x <- idx a0 i
  let x1 <- idx ak i
  let l <- pure (ak.set i.toNat x)
  oD a0 l (W (i+1))
 else
  pure (id ak)
 partial_fixpoint
theorem zFC(a0 : (List Int)): ∀(ak : List Int) (i : Int) (o : List Int),oD a0 ak i = some o -> ∀{B : Base} {imm0 imm : Imm} {Q : Exit -> Act -> World -> Prop}  {p : Option Addr} {c : Nat} {p1 : Option Addr} {c1 : Nat} {aM : List Value},imm0.le imm -> (SL imm (vS p a0 c) a0) -> (RL imm aM ak) -> (∀gl a w,¬ Q (.goto gl) a w) -> (∀a w,¬ Q .outgrown a w) -> (∀(af : Imm) (ar : List Int) (p2 : Option Addr) (c2 : Nat) (aV : List Value),o = ar -> imm0.le af -> (RL af aV ar) -> T 22 B Q (.exit 0) af [hO Int (vS p2 ar c2) aV] [(3,vS p2 ar c2)]) -> J Tryz.prog 22 B (nav (bodyOf f69) [1,1,0,1,0]) Q imm [hO Int (vS p1 ak c1) aM] [(0,vS p a0 c),(3,vS p1 ak c1),(4,vI i)]:=by
 refine oD.partial_correctness a0 _ ?_
 intro aG ih ak i o hM B imm0 imm Q p c p1 c1 aM ap h h2 hg ho hx
 refine yK hg ho <| zM <| zM <| zE <| yO [] [(11,.bool (decide (i<(a0.length : Int))))] <| zH <| yD hM ?_ ?_
 ·intro hc hM
  refine zT <| zH <| zM <| zZ <| zE <| xF 4 [] [(14,vS p1 ak c1),(15,vI i),(16,vS p a0 c),(17,vI i)] ?_
  obtain⟨x,aw,hM⟩:=zF hM
  refine xL rfl rfl h aw ?_
  intro ad aF av aq
  obtain rfl:=aq
  refine yY 0 av [vI x] (vI x) rfl ?_
  obtain⟨x1,aI,hM⟩:=zF hM
  refine zIK 0 rfl rfl rfl h2 aI ?_
  intro ad1 aY au bP aA
  obtain rfl:=aA
  obtain⟨l,aW,hM⟩:=zF hM
  refine zDe (c:=[vI x]) (x' := x) 0 0 rfl rfl rfl au rfl rfl bP (by kernel_rfl) (by kernel_rfl) (by kernel_rfl) h2 aI (by kernel_rfl) rfl ?_
  rw[show ak.set i.toNat x = l from zB aW]
  intro bb h4 hl0
  exact fS (m' := [(0,vS p a0 c),(3,vS p1 ak c1),(4,vI i),(14,vS p1 ak c1),(15,vI i),(16,vS p a0 c),(17,vI i),(18,.pointer (some ad)),(19,vI x)]) ⟨rfl,rfl,rfl,rfl,rfl,rfl,rfl,rfl,rfl,trivial⟩ <| zDf (aj:=[hO Int (vS p1 l c1) bb]) (m' := [(0,vS p a0 c),(3,vS p1 l c1),(4,vI i),(14,vS p1 l c1),(15,vI i),(16,vS p a0 c),(17,vI i),(18,.pointer (some ad)),(19,vI x)]) (by first|rfl|simp only[vS,hl0,cj,em,List.set_cons_zero,List.set_cons_succ,List.eraseIdx_cons_zero,List.eraseIdx_cons_succ]) (by first|rfl|simp only[vS,hl0]) <| zX rfl <| zQ <| zH <| zE <| yO [] [(4,vI (W (i+1)))] <| yL <| rX [(0,vS p a0 c),(3,vS p1 l c1),(4,vI (W (i+1)))] <| ih l (W (i+1)) _ hM ap h h4 hg ho hx
 ·intro hc hM
  exact oO <| yH <| yH <| dZ [(3,vS p1 ak c1)] <| hx _ _ _ _ _ (zB hM).symm ap h2
def fL(a0 : (List Int)): Option ((List Int)):=do
 let out <- mkrow 8 (a0.length : Int) (0 : Int)
 let ar <- oD a0 out 0
 pure (id ar)
theorem zCz : ∀(a0 : (List Int)) r,fL a0 = some r -> ∀{imm : Imm} {p : Option Addr} {c : Nat},(SL imm (vS p a0 c) a0) -> Ret Tryz.prog 69 [vS p a0 c] imm [] (DSo r):=by
 intro a0 r hM imm p c h
 unfold fL at hM
 refine xW (fn:=f69) (c:=(bodyOf f69)) func69 rfl rfl ?_
 rintro B - -
 have ap : imm.le imm:=Imm.le.refl _
 refine zM <| zE <| yO [] [] <| zH <| zM <| zE <| xF 2 [] [(6,vI (a0.length : Int))] ?_
 obtain⟨out,hy,hM⟩:=zF hM
 refine zLH 8 [vI 0] rfl hy rfl ?_
 intro b cs h1
 refine yO [] [(3,vS (some ⟨b,0,none⟩) out out.length)] <| zH <| zM <| zM <| zE <| yO [] [(4,vI 0)] <| zH <| zZ <| rX [(0,vS p a0 c),(3,vS (some ⟨b,0,none⟩) out out.length),(4,vI 0)] ?_
 obtain⟨o0,ay,aB⟩:=zF hM
 refine zFC a0 out 0 o0 ay (Imm.le.refl _) h h1 (λ_ _ _ h=>h) (λ_ _ h=>h) ?_
 intro imm0 ar p2 c2 aV heq le h3
 subst o0
 replace ap:=ap.trans le
 refine zU <| zH <| zM <| zE <| yO [] [(2,vS p2 ar c2)] <| zH <| yF ?_
 obtain rfl:=zB aB
 exact yV ⟨_,_,(.tmp rfl ResV.nil),(λ_ g=>g),⟨_,rfl,dsI h3⟩⟩
def eI(a0 : wQ): Option (zI):=do
 let y <- fL a0.Dims
 pure (zI.mk a0.Name y)
theorem zGA : ∀(a0 : wQ) r,eI a0 = some r -> ∀{imm : Imm} {p : Option Addr} {c : Nat},(SL imm (vS p a0.Dims c) a0.Dims) -> Ret Tryz.prog 39 [vA [vT a0.Name.l,vS p a0.Dims c]] imm [] (DPo r):=by
 intro a0 r hM imm p c h
 unfold eI at hM
 refine xW (fn:=f39) (c:=(bodyOf f39)) func39 rfl rfl ?_
 rintro B - -
 have ap : imm.le imm:=Imm.le.refl _
 refine zM <| zE <| eX (c:=⟨[vT a0.Name.l,vS p a0.Dims c]⟩) rfl rfl rfl rfl rfl ?_
 intro b hb
 refine xT (c:=⟨[vT ([]),.slice none 0 0]⟩) rfl rfl rfl (by kernel_rfl) ?_
 intro b1 hb1
 refine zX rfl <| zH <| zM <| zE <| xT (c:=⟨[vT ([]),.slice none 0 0]⟩) rfl rfl rfl (by kernel_rfl) ?_
 intro b2 hb2
 refine zX rfl <| zH <| zM <| zE <| xF 3 [2] [(5,vT a0.Name.l),(6,vP b2 0)] <| uJ 0 [vT a0.Name.l,.slice none 0 0] [hB b2 [vT a0.Name.l,.slice none 0 0],hB b1 [vT ([]),.slice none 0 0],hB b [vT a0.Name.l,vS p a0.Dims c]] rfl rfl rfl rfl <| zX rfl <| zH <| zM <| zE <| xF 2 [2] [(8,vS p a0.Dims c)] ?_
 obtain⟨y,hy,hM⟩:=zF hM
 refine uO rfl (zCz a0.Dims _ hy h) ?_
 rintro imm0 X1 v2 k2 le ⟨v0,rfl,h1⟩
 replace h:=h.mono le
 replace ap:=ap.trans le
 obtain⟨p1,c1,rfl⟩:=h1.form
 refine xF 4 [] [(10,vP b2 1)] <| uJ 0 [vT a0.Name.l,vS p1 y c1] (hB b2 [vT a0.Name.l,vS p1 y c1] :: hB b1 [vT ([]),.slice none 0 0] :: hB b [vT a0.Name.l,vS p a0.Dims c] :: X1) rfl rfl rfl rfl <| zX rfl <| zH <| zM <| zE <| xF 1 [0] [(11,vA [vT a0.Name.l,vS p1 y c1])] <| uJ 1 [vT a0.Name.l,vS p1 y c1] (hB b2 [vT a0.Name.l,vS p1 y c1] :: hB b1 [vT a0.Name.l,vS p1 y c1] :: hB b [vT a0.Name.l,vS p a0.Dims c] :: X1) rfl rfl rfl rfl <| zX rfl <| zH <| yF ?_
 obtain rfl:=zB hM
 exact yV ⟨_,_,(.cell 1 rfl rfl (by kernel_rfl) ResV.nil),(λ_ g=>g.tail.tail.tail),⟨_,rfl,⟨_,rfl,h1⟩⟩⟩
def rU(a0 : (List wQ))(ak : List zI)(i : Int): Option (List zI):=do
 if(decide (i<(a0.length : Int))) then
  let x <- idx a0 i
  let y <- eI x
  let x1 <- idx ak i
  let l <- pure (ak.set i.toNat y)
  rU a0 l (W (i+1))
 else
  pure (id ak)
 partial_fixpoint
theorem zD3(a0 : (List wQ)): ∀(ak : List zI) (i : Int) (o : List zI),rU a0 ak i = some o -> ∀{B : Base} {imm0 imm : Imm} {Q : Exit -> Act -> World -> Prop}  {p : Option Addr} {c : Nat} {p1 : Option Addr} {c1 : Nat} {ae : List (RawN zI)} {X : List HA},imm0.le imm -> (SL imm (vS p a0 c) a0) -> (dpR X ae ak) -> (∀gl a w,¬ Q (.goto gl) a w) -> (∀a w,¬ Q .outgrown a w) -> (∀(af : Imm) (ar : List zI) (p2 : Option Addr) (c2 : Nat) (raws2 : List (RawN zI)) (X2 : List HA),o = ar -> imm0.le af -> (dpR X2 raws2 ar) -> T 23 B Q (.exit 0) af (hO zI (vS p2 ar c2) (flR raws2) :: X2) [(3,vS p2 ar c2)]) -> J Tryz.prog 23 B (nav (bodyOf f17) [1,1,0,1,0]) Q imm (hO zI (vS p1 ak c1) (flR ae) :: X) [(0,vS p a0 c),(3,vS p1 ak c1),(4,vI i)]:=by
 refine rU.partial_correctness a0 _ ?_
 intro aG ih ak i o hM B imm0 imm Q p c p1 c1 ae X ap h h2 hg ho hx
 refine yK hg ho <| zM <| zM <| zE <| yO [] [(11,.bool (decide (i<(a0.length : Int))))] <| zH <| yD hM ?_ ?_
 ·intro hc hM
  refine zT <| zH <| zM <| zZ <| zE <| xF 4 [] [(14,vS p1 ak c1),(15,vI i),(16,vS p a0 c),(17,vI i)] ?_
  obtain⟨x,aw,hM⟩:=zF hM
  refine xL rfl rfl h aw ?_
  intro ad aF av aq
  obtain⟨v0,rfl,h4⟩:=zCO aq
  obtain⟨p3,c3,rfl⟩:=h4.form
  refine yY 0 av [vT x.Name.l,vS p3 x.Dims c3] (vA [vT x.Name.l,vS p3 x.Dims c3]) rfl ?_
  obtain⟨y,aI,hM⟩:=zF hM
  refine uO rfl (zGA x _ aI h4) ?_
  rintro imm0 Y v2 k2 le ⟨bb,rfl,h5⟩
  replace h:=h.mono le
  replace ap:=ap.trans le
  obtain⟨x1,aW,hM⟩:=zF hM
  obtain⟨r0,hr0⟩:=h2.idx aW
  refine zDb rfl rfl hr0 h2.ok ?_
  intro ad1 au
  obtain⟨l,bk,hM⟩:=zF hM
  refine zHP rfl au h2 aW h5 rfl ?_
  rw[show ak.set i.toNat y = l from zB bk]
  intro raws2 X2 h8
  have hl0 : l.length = ak.length:=by rw[<- zB bk,cF]
  exact fS (m' := [(0,vS p a0 c),(3,vS p1 ak c1),(4,vI i)]) ⟨rfl,rfl,rfl,trivial⟩ <| zDf (aj:=hO zI (vS p1 l c1) (flR raws2) :: X2) (m' := [(0,vS p a0 c),(3,vS p1 l c1),(4,vI i)]) (by simp only[vS,hl0]) (by simp only[vS,hl0]) <| zX rfl <| zQ <| zH <| zE <| yO [] [(4,vI (W (i+1)))] <| yL <| rX [(0,vS p a0 c),(3,vS p1 l c1),(4,vI (W (i+1)))] <| ih l (W (i+1)) _ hM ap h h8 hg ho hx
 ·intro hc hM
  exact oO <| yH <| yH <| dZ [(3,vS p1 ak c1)] <| hx _ _ _ _ _ _ (zB hM).symm ap h2
def gX(a0 : (List wQ)): Option ((List zI)):=do
 let out <- mkrow 40 (a0.length : Int) ((zI.mk (⟨[]⟩ : Str) ([] : List Int)) : zI)
 let ar <- rU a0 out 0
 pure (id ar)
theorem zF8 : ∀(a0 : (List wQ)) r,gX a0 = some r -> ∀{imm : Imm} {p : Option Addr} {c : Nat},(SL imm (vS p a0 c) a0) -> Ret Tryz.prog 17 [vS p a0 c] imm [] (DSo r):=by
 intro a0 r hM imm p c h
 unfold gX at hM
 refine xW (fn:=f17) (c:=(bodyOf f17)) func17 rfl rfl ?_
 rintro B - -
 have ap : imm.le imm:=Imm.le.refl _
 refine zM <| zE <| yO [] [] <| zH <| zM <| zE <| xF 2 [] [(6,vI (a0.length : Int))] ?_
 obtain⟨out,hy,hM⟩:=zF hM
 refine zHQ 40 [vT ([]),.slice none 0 0] rfl hy dzA ?_
 intro b ae X h1
 refine yO [] [(3,vS (some ⟨b,0,none⟩) out out.length)] <| zH <| zM <| zM <| zE <| yO [] [(4,vI 0)] <| zH <| zZ <| rX [(0,vS p a0 c),(3,vS (some ⟨b,0,none⟩) out out.length),(4,vI 0)] ?_
 obtain⟨o0,ay,aB⟩:=zF hM
 refine zD3 a0 out 0 o0 ay (Imm.le.refl _) h h1 (λ_ _ _ h=>h) (λ_ _ h=>h) ?_
 intro imm01 ar p2 c2 raws2 X2 heq ai h3
 subst o0
 replace ap:=ap.trans ai
 refine zU <| zH <| zM <| zE <| yO [] [(2,vS p2 ar c2)] <| zH <| yF <| ?_
 obtain rfl:=zB aB
 exact yV ⟨_,_,(.tmp rfl ResV.nil),(λ_ g=>g),⟨_,rfl,.mk' h3⟩⟩
def kM(a0 : yX): Option (zC):=do
 let y <- fL a0.Coefs
 pure (zC.mk y a0.Const)
theorem zBm : ∀(a0 : yX) r,kM a0 = some r -> ∀{imm : Imm} {p : Option Addr} {c : Nat},(SL imm (vS p a0.Coefs c) a0.Coefs) -> Ret Tryz.prog 165 [vA [vS p a0.Coefs c,vI a0.Const]] imm [] (DPo r):=by
 intro a0 r hM imm p c h
 unfold kM at hM
 refine xW (fn:=f165) (c:=(bodyOf f165)) func165 rfl rfl ?_
 rintro B - -
 have ap : imm.le imm:=Imm.le.refl _
 refine zM <| zE <| eX (c:=⟨[vS p a0.Coefs c,vI a0.Const]⟩) rfl rfl rfl rfl rfl ?_
 intro b hb
 refine xT (c:=⟨[.slice none 0 0,vI 0]⟩) rfl rfl rfl (by kernel_rfl) ?_
 intro b1 hb1
 refine zX rfl <| zH <| zM <| zE <| xT (c:=⟨[.slice none 0 0,vI 0]⟩) rfl rfl rfl (by kernel_rfl) ?_
 intro b2 hb2
 refine zX rfl <| zH <| zM <| zE <| xF 2 [2] [(5,vS p a0.Coefs c)] ?_
 obtain⟨y,hy,hM⟩:=zF hM
 refine uO rfl (zCz a0.Coefs _ hy h) ?_
 rintro imm0 X1 v2 k2 le ⟨v0,rfl,h1⟩
 replace h:=h.mono le
 replace ap:=ap.trans le
 obtain⟨p1,c1,rfl⟩:=h1.form
 refine xF 4 [] [(7,vP b2 0)] <| uJ 0 [vS p1 y c1,vI 0] (hB b2 [vS p1 y c1,vI 0] :: hB b1 [.slice none 0 0,vI 0] :: hB b [vS p a0.Coefs c,vI a0.Const] :: X1) rfl rfl rfl rfl <| zX rfl <| zH <| zM <| zE <| xF 3 [2] [(9,vI a0.Const),(10,vP b2 1)] <| uJ 0 [vS p1 y c1,vI a0.Const] (hB b2 [vS p1 y c1,vI a0.Const] :: hB b1 [.slice none 0 0,vI 0] :: hB b [vS p a0.Coefs c,vI a0.Const] :: X1) rfl rfl rfl rfl <| zX rfl <| zH <| zM <| zE <| xF 1 [0] [(11,vA [vS p1 y c1,vI a0.Const])] <| uJ 1 [vS p1 y c1,vI a0.Const] (hB b2 [vS p1 y c1,vI a0.Const] :: hB b1 [vS p1 y c1,vI a0.Const] :: hB b [vS p a0.Coefs c,vI a0.Const] :: X1) rfl rfl rfl rfl <| zX rfl <| zH <| yF ?_
 obtain rfl:=zB hM
 exact yV ⟨_,_,(.cell 1 rfl rfl (by kernel_rfl) ResV.nil),(λ_ g=>g.tail.tail.tail),⟨_,rfl,⟨_,rfl,h1⟩⟩⟩
def sT(a0 : (List yX))(ak : List zC)(i : Int): Option (List zC):=do
 if(decide (i<(a0.length : Int))) then
  let x <- idx a0 i
  let y <- kM x
  let x1 <- idx ak i
  let l <- pure (ak.set i.toNat y)
  sT a0 l (W (i+1))
 else
  pure (id ak)
 partial_fixpoint
theorem zDA(a0 : (List yX)): ∀(ak : List zC) (i : Int) (o : List zC),sT a0 ak i = some o -> ∀{B : Base} {imm0 imm : Imm} {Q : Exit -> Act -> World -> Prop}  {p : Option Addr} {c : Nat} {p1 : Option Addr} {c1 : Nat} {ae : List (RawN zC)} {X : List HA},imm0.le imm -> (SL imm (vS p a0 c) a0) -> (dpR X ae ak) -> (∀gl a w,¬ Q (.goto gl) a w) -> (∀a w,¬ Q .outgrown a w) -> (∀(af : Imm) (ar : List zC) (p2 : Option Addr) (c2 : Nat) (raws2 : List (RawN zC)) (X2 : List HA),o = ar -> imm0.le af -> (dpR X2 raws2 ar) -> T 23 B Q (.exit 0) af (hO zC (vS p2 ar c2) (flR raws2) :: X2) [(3,vS p2 ar c2)]) -> J Tryz.prog 23 B (nav (bodyOf f142) [1,1,0,1,0]) Q imm (hO zC (vS p1 ak c1) (flR ae) :: X) [(0,vS p a0 c),(3,vS p1 ak c1),(4,vI i)]:=by
 refine sT.partial_correctness a0 _ ?_
 intro aG ih ak i o hM B imm0 imm Q p c p1 c1 ae X ap h h2 hg ho hx
 refine yK hg ho <| zM <| zM <| zE <| yO [] [(11,.bool (decide (i<(a0.length : Int))))] <| zH <| yD hM ?_ ?_
 ·intro hc hM
  refine zT <| zH <| zM <| zZ <| zE <| xF 4 [] [(14,vS p1 ak c1),(15,vI i),(16,vS p a0 c),(17,vI i)] ?_
  obtain⟨x,aw,hM⟩:=zF hM
  refine xL rfl rfl h aw ?_
  intro ad aF av aq
  obtain⟨v0,rfl,h4⟩:=zB2 aq
  obtain⟨p3,c3,rfl⟩:=h4.form
  refine yY 0 av [vS p3 x.Coefs c3,vI x.Const] (vA [vS p3 x.Coefs c3,vI x.Const]) rfl ?_
  obtain⟨y,aI,hM⟩:=zF hM
  refine uO rfl (zBm x _ aI h4) ?_
  rintro imm0 Y v2 k2 le ⟨bb,rfl,h5⟩
  replace h:=h.mono le
  replace ap:=ap.trans le
  obtain⟨x1,aW,hM⟩:=zF hM
  obtain⟨r0,hr0⟩:=h2.idx aW
  refine zDb rfl rfl hr0 h2.ok ?_
  intro ad1 au
  obtain⟨l,bk,hM⟩:=zF hM
  refine zHP rfl au h2 aW h5 rfl ?_
  rw[show ak.set i.toNat y = l from zB bk]
  intro raws2 X2 h8
  have hl0 : l.length = ak.length:=by rw[<- zB bk,cF]
  exact fS (m' := [(0,vS p a0 c),(3,vS p1 ak c1),(4,vI i)]) ⟨rfl,rfl,rfl,trivial⟩ <| zDf (aj:=hO zC (vS p1 l c1) (flR raws2) :: X2) (m' := [(0,vS p a0 c),(3,vS p1 l c1),(4,vI i)]) (by simp only[vS,hl0]) (by simp only[vS,hl0]) <| zX rfl <| zQ <| zH <| zE <| yO [] [(4,vI (W (i+1)))] <| yL <| rX [(0,vS p a0 c),(3,vS p1 l c1),(4,vI (W (i+1)))] <| ih l (W (i+1)) _ hM ap h h8 hg ho hx
 ·intro hc hM
  exact oO <| yH <| yH <| dZ [(3,vS p1 ak c1)] <| hx _ _ _ _ _ _ (zB hM).symm ap h2
def oE(a0 : (List yX)): Option ((List zC)):=do
 let out <- mkrow 32 (a0.length : Int) ((zC.mk ([] : List Int) 0) : zC)
 let ar <- sT a0 out 0
 pure (id ar)
theorem zAI : ∀(a0 : (List yX)) r,oE a0 = some r -> ∀{imm : Imm} {p : Option Addr} {c : Nat},(SL imm (vS p a0 c) a0) -> Ret Tryz.prog 142 [vS p a0 c] imm [] (DSo r):=by
 intro a0 r hM imm p c h
 unfold oE at hM
 refine xW (fn:=f142) (c:=(bodyOf f142)) func142 rfl rfl ?_
 rintro B - -
 have ap : imm.le imm:=Imm.le.refl _
 refine zM <| zE <| yO [] [] <| zH <| zM <| zE <| xF 2 [] [(6,vI (a0.length : Int))] ?_
 obtain⟨out,hy,hM⟩:=zF hM
 refine zHQ 32 [.slice none 0 0,vI 0] rfl hy dzF ?_
 intro b ae X h1
 refine yO [] [(3,vS (some ⟨b,0,none⟩) out out.length)] <| zH <| zM <| zM <| zE <| yO [] [(4,vI 0)] <| zH <| zZ <| rX [(0,vS p a0 c),(3,vS (some ⟨b,0,none⟩) out out.length),(4,vI 0)] ?_
 obtain⟨o0,ay,aB⟩:=zF hM
 refine zDA a0 out 0 o0 ay (Imm.le.refl _) h h1 (λ_ _ _ h=>h) (λ_ _ h=>h) ?_
 intro imm01 ar p2 c2 raws2 X2 heq ai h3
 subst o0
 replace ap:=ap.trans ai
 refine zU <| zH <| zM <| zE <| yO [] [(2,vS p2 ar c2)] <| zH <| yF <| ?_
 obtain rfl:=zB aB
 exact yV ⟨_,_,(.tmp rfl ResV.nil),(λ_ g=>g),⟨_,rfl,.mk' h3⟩⟩
def dL(a0 : vZ): Option (zL):=do
 let y <- oE a0.Lo
 let y1 <- oE a0.Hi
 pure (zL.mk y y1)
theorem zGn : ∀(a0 : vZ) r,dL a0 = some r -> ∀{imm : Imm} {p : Option Addr} {c : Nat} {p1 : Option Addr} {c1 : Nat},(SL imm (vS p a0.Lo c) a0.Lo) -> (SL imm (vS p1 a0.Hi c1) a0.Hi) -> Ret Tryz.prog 111 [vA [vS p a0.Lo c,vS p1 a0.Hi c1]] imm [] (DPo r):=by
 intro a0 r hM imm p c p1 c1 h h1
 unfold dL at hM
 refine xW (fn:=f111) (c:=(bodyOf f111)) func111 rfl rfl ?_
 rintro B - -
 have ap : imm.le imm:=Imm.le.refl _
 refine zM <| zE <| eX (c:=⟨[vS p a0.Lo c,vS p1 a0.Hi c1]⟩) rfl rfl rfl rfl rfl ?_
 intro b hb
 refine xT (c:=⟨[.slice none 0 0,.slice none 0 0]⟩) rfl rfl rfl (by kernel_rfl) ?_
 intro b1 hb1
 refine zX rfl <| zH <| zM <| zE <| xT (c:=⟨[.slice none 0 0,.slice none 0 0]⟩) rfl rfl rfl (by kernel_rfl) ?_
 intro b2 hb2
 refine zX rfl <| zH <| zM <| zE <| xF 2 [2] [(5,vS p a0.Lo c)] ?_
 obtain⟨y,hy,hM⟩:=zF hM
 refine uO rfl (zAI a0.Lo _ hy h) ?_
 rintro imm0 X1 v2 k2 le ⟨v0,rfl,h2⟩
 replace h:=h.mono le
 replace h1:=h1.mono le
 replace ap:=ap.trans le
 obtain⟨p2,c2,rfl⟩:=h2.form
 refine xF 4 [] [(7,vP b2 0)] <| uJ 0 [vS p2 y c2,.slice none 0 0] (hB b2 [vS p2 y c2,.slice none 0 0] :: hB b1 [.slice none 0 0,.slice none 0 0] :: hB b [vS p a0.Lo c,vS p1 a0.Hi c1] :: X1) rfl rfl rfl rfl <| zX rfl <| zH <| zM <| zE <| xF 2 [2] [(9,vS p1 a0.Hi c1)] ?_
 obtain⟨y1,aw,hM⟩:=zF hM
 refine uO rfl (zAI a0.Hi _ aw h1) ?_
 rintro imm01 X2 v2 k2 ai ⟨v01,rfl,h3⟩
 replace h:=h.mono ai
 replace h1:=h1.mono ai
 replace ap:=ap.trans ai
 obtain⟨p3,c3,rfl⟩:=h3.form
 refine xF 4 [] [(11,vP b2 1)] <| uJ 0 [vS p2 y c2,vS p3 y1 c3] (hB b2 [vS p2 y c2,vS p3 y1 c3] :: hB b1 [.slice none 0 0,.slice none 0 0] :: hB b [vS p a0.Lo c,vS p1 a0.Hi c1] :: (X1++X2)) rfl rfl rfl rfl <| zX rfl <| zH <| zM <| zE <| xF 1 [0] [(12,vA [vS p2 y c2,vS p3 y1 c3])] <| uJ 1 [vS p2 y c2,vS p3 y1 c3] (hB b2 [vS p2 y c2,vS p3 y1 c3] :: hB b1 [vS p2 y c2,vS p3 y1 c3] :: hB b [vS p a0.Lo c,vS p1 a0.Hi c1] :: (X1++X2)) rfl rfl rfl rfl <| zX rfl <| zH <| yF ?_
 obtain rfl:=zB hM
 exact yV ⟨_,_,(.cell 1 rfl rfl (by kernel_rfl) ResV.nil),(λ_ g=>g.tail.tail.tail),⟨_,rfl,⟨_,_,X1,X2,rfl,rfl,h2,h3⟩⟩⟩
def pA(a0 : (List vZ))(ak : List zL)(i : Int): Option (List zL):=do
 if(decide (i<(a0.length : Int))) then
  let x <- idx a0 i
  let y <- dL x
  let x1 <- idx ak i
  let l <- pure (ak.set i.toNat y)
  pA a0 l (W (i+1))
 else
  pure (id ak)
 partial_fixpoint
theorem zEP(a0 : (List vZ)): ∀(ak : List zL) (i : Int) (o : List zL),pA a0 ak i = some o -> ∀{B : Base} {imm0 imm : Imm} {Q : Exit -> Act -> World -> Prop}  {p : Option Addr} {c : Nat} {p1 : Option Addr} {c1 : Nat} {ae : List (RawN zL)} {X : List HA},imm0.le imm -> (SL imm (vS p a0 c) a0) -> (dpR X ae ak) -> (∀gl a w,¬ Q (.goto gl) a w) -> (∀a w,¬ Q .outgrown a w) -> (∀(af : Imm) (ar : List zL) (p2 : Option Addr) (c2 : Nat) (raws2 : List (RawN zL)) (X2 : List HA),o = ar -> imm0.le af -> (dpR X2 raws2 ar) -> T 23 B Q (.exit 0) af (hO zL (vS p2 ar c2) (flR raws2) :: X2) [(3,vS p2 ar c2)]) -> J Tryz.prog 23 B (nav (bodyOf f70) [1,1,0,1,0]) Q imm (hO zL (vS p1 ak c1) (flR ae) :: X) [(0,vS p a0 c),(3,vS p1 ak c1),(4,vI i)]:=by
 refine pA.partial_correctness a0 _ ?_
 intro aG ih ak i o hM B imm0 imm Q p c p1 c1 ae X ap h h2 hg ho hx
 refine yK hg ho <| zM <| zM <| zE <| yO [] [(11,.bool (decide (i<(a0.length : Int))))] <| zH <| yD hM ?_ ?_
 ·intro hc hM
  refine zT <| zH <| zM <| zZ <| zE <| xF 4 [] [(14,vS p1 ak c1),(15,vI i),(16,vS p a0 c),(17,vI i)] ?_
  obtain⟨x,aw,hM⟩:=zF hM
  refine xL rfl rfl h aw ?_
  intro ad aF av aq
  obtain⟨v0,v01,rfl,h4,h5⟩:=zC8 aq
  obtain⟨p3,c3,rfl⟩:=h4.form
  obtain⟨p4,c4,rfl⟩:=h5.form
  refine yY 0 av [vS p3 x.Lo c3,vS p4 x.Hi c4] (vA [vS p3 x.Lo c3,vS p4 x.Hi c4]) rfl ?_
  obtain⟨y,aI,hM⟩:=zF hM
  refine uO rfl (zGn x _ aI h4 h5) ?_
  rintro imm0 Y v2 k2 le ⟨bb,rfl,h6⟩
  replace h:=h.mono le
  replace ap:=ap.trans le
  obtain⟨x1,aW,hM⟩:=zF hM
  obtain⟨r0,hr0⟩:=h2.idx aW
  refine zDb rfl rfl hr0 h2.ok ?_
  intro ad1 au
  obtain⟨l,bk,hM⟩:=zF hM
  refine zHP rfl au h2 aW h6 rfl ?_
  rw[show ak.set i.toNat y = l from zB bk]
  intro raws2 X2 h11
  have hl0 : l.length = ak.length:=by rw[<- zB bk,cF]
  exact fS (m' := [(0,vS p a0 c),(3,vS p1 ak c1),(4,vI i)]) ⟨rfl,rfl,rfl,trivial⟩ <| zDf (aj:=hO zL (vS p1 l c1) (flR raws2) :: X2) (m' := [(0,vS p a0 c),(3,vS p1 l c1),(4,vI i)]) (by simp only[vS,hl0]) (by simp only[vS,hl0]) <| zX rfl <| zQ <| zH <| zE <| yO [] [(4,vI (W (i+1)))] <| yL <| rX [(0,vS p a0 c),(3,vS p1 l c1),(4,vI (W (i+1)))] <| ih l (W (i+1)) _ hM ap h h11 hg ho hx
 ·intro hc hM
  exact oO <| yH <| yH <| dZ [(3,vS p1 ak c1)] <| hx _ _ _ _ _ _ (zB hM).symm ap h2
def eJ(a0 : (List vZ)): Option ((List zL)):=do
 let out <- mkrow 48 (a0.length : Int) ((zL.mk ([] : List zC) ([] : List zC)) : zL)
 let ar <- pA a0 out 0
 pure (id ar)
theorem zGB : ∀(a0 : (List vZ)) r,eJ a0 = some r -> ∀{imm : Imm} {p : Option Addr} {c : Nat},(SL imm (vS p a0 c) a0) -> Ret Tryz.prog 70 [vS p a0 c] imm [] (DSo r):=by
 intro a0 r hM imm p c h
 unfold eJ at hM
 refine xW (fn:=f70) (c:=(bodyOf f70)) func70 rfl rfl ?_
 rintro B - -
 have ap : imm.le imm:=Imm.le.refl _
 refine zM <| zE <| yO [] [] <| zH <| zM <| zE <| xF 2 [] [(6,vI (a0.length : Int))] ?_
 obtain⟨out,hy,hM⟩:=zF hM
 refine zHQ 48 [.slice none 0 0,.slice none 0 0] rfl hy dzL ?_
 intro b ae X h1
 refine yO [] [(3,vS (some ⟨b,0,none⟩) out out.length)] <| zH <| zM <| zM <| zE <| yO [] [(4,vI 0)] <| zH <| zZ <| rX [(0,vS p a0 c),(3,vS (some ⟨b,0,none⟩) out out.length),(4,vI 0)] ?_
 obtain⟨o0,ay,aB⟩:=zF hM
 refine zEP a0 out 0 o0 ay (Imm.le.refl _) h h1 (λ_ _ _ h=>h) (λ_ _ h=>h) ?_
 intro imm01 ar p2 c2 raws2 X2 heq ai h3
 subst o0
 replace ap:=ap.trans ai
 refine zU <| zH <| zM <| zE <| yO [] [(2,vS p2 ar c2)] <| zH <| yF <| ?_
 obtain rfl:=zB aB
 exact yV ⟨_,_,(.tmp rfl ResV.nil),(λ_ g=>g),⟨_,rfl,.mk' h3⟩⟩
def kO(a0 : tS): Option (zK):=do
 let y <- oE a0.Subs
 pure (zK.mk a0.Array y)
theorem zBn : ∀(a0 : tS) r,kO a0 = some r -> ∀{imm : Imm} {p : Option Addr} {c : Nat},(SL imm (vS p a0.Subs c) a0.Subs) -> Ret Tryz.prog 143 [vA [vT a0.Array.l,vS p a0.Subs c]] imm [] (DPo r):=by
 intro a0 r hM imm p c h
 unfold kO at hM
 refine xW (fn:=f143) (c:=(bodyOf f143)) func143 rfl rfl ?_
 rintro B - -
 have ap : imm.le imm:=Imm.le.refl _
 refine zM <| zE <| eX (c:=⟨[vT a0.Array.l,vS p a0.Subs c]⟩) rfl rfl rfl rfl rfl ?_
 intro b hb
 refine xT (c:=⟨[vT ([]),.slice none 0 0]⟩) rfl rfl rfl (by kernel_rfl) ?_
 intro b1 hb1
 refine zX rfl <| zH <| zM <| zE <| xT (c:=⟨[vT ([]),.slice none 0 0]⟩) rfl rfl rfl (by kernel_rfl) ?_
 intro b2 hb2
 refine zX rfl <| zH <| zM <| zE <| xF 3 [2] [(5,vT a0.Array.l),(6,vP b2 0)] <| uJ 0 [vT a0.Array.l,.slice none 0 0] [hB b2 [vT a0.Array.l,.slice none 0 0],hB b1 [vT ([]),.slice none 0 0],hB b [vT a0.Array.l,vS p a0.Subs c]] rfl rfl rfl rfl <| zX rfl <| zH <| zM <| zE <| xF 2 [2] [(8,vS p a0.Subs c)] ?_
 obtain⟨y,hy,hM⟩:=zF hM
 refine uO rfl (zAI a0.Subs _ hy h) ?_
 rintro imm0 X1 v2 k2 le ⟨v0,rfl,h1⟩
 replace h:=h.mono le
 replace ap:=ap.trans le
 obtain⟨p1,c1,rfl⟩:=h1.form
 refine xF 4 [] [(10,vP b2 1)] <| uJ 0 [vT a0.Array.l,vS p1 y c1] (hB b2 [vT a0.Array.l,vS p1 y c1] :: hB b1 [vT ([]),.slice none 0 0] :: hB b [vT a0.Array.l,vS p a0.Subs c] :: X1) rfl rfl rfl rfl <| zX rfl <| zH <| zM <| zE <| xF 1 [0] [(11,vA [vT a0.Array.l,vS p1 y c1])] <| uJ 1 [vT a0.Array.l,vS p1 y c1] (hB b2 [vT a0.Array.l,vS p1 y c1] :: hB b1 [vT a0.Array.l,vS p1 y c1] :: hB b [vT a0.Array.l,vS p a0.Subs c] :: X1) rfl rfl rfl rfl <| zX rfl <| zH <| yF ?_
 obtain rfl:=zB hM
 exact yV ⟨_,_,(.cell 1 rfl rfl (by kernel_rfl) ResV.nil),(λ_ g=>g.tail.tail.tail),⟨_,rfl,⟨_,rfl,h1⟩⟩⟩
mutual
def eK(a0 : (List yB)): Option ((List zD)):=do
 let out <- mkrow 112 (a0.length : Int) ((zD.mk 0 0 (zC.mk ([] : List Int) 0) (zK.mk (⟨[]⟩ : Str) ([] : List zC)) ([] : List zD)) : zD)
 let ar <- nA (same a0) (same out) (same 0)
 pure (id ar)
 partial_fixpoint
def nA(a0 : (List yB))(ak : List zD)(i : Int): Option (List zD):=do
 if(decide (i<(a0.length : Int))) then
  let x <- idx a0 i
  let y <- nS (same x)
  let x1 <- idx ak i
  let l <- pure (ak.set i.toNat y)
  nA (same a0) (same l) (W (i+1))
 else
  pure (id ak)
 partial_fixpoint
def nS(a0 : yB): Option (zD):=do
 let y <- kM a0.Index
 let y1 <- kO a0.Read
 let y2 <- eK a0.Kids
 pure (zD.mk a0.Kind a0.Num y y1 y2)
 partial_fixpoint
end
theorem zF9 : (∀(a0 : (List yB)) r,eK a0 = some r -> ∀{imm : Imm} {p : Option Addr} {c : Nat},(SL imm (vS p a0 c) a0) -> Ret Tryz.prog 166 [vS p a0 c] imm [] (DSo r)) /\ (∀(a0 : (List yB)) (ak : List zD) (i : Int) o,nA a0 ak i = some o -> ∀{B : Base} {imm0 imm : Imm} {Q : Exit -> Act -> World -> Prop}  {p : Option Addr} {c : Nat} {p1 : Option Addr} {c1 : Nat} {ae : List (RawN zD)} {X : List HA},imm0.le imm -> (SL imm (vS p a0 c) a0) -> (dpR X ae ak) -> (∀gl a w,¬ Q (.goto gl) a w) -> (∀a w,¬ Q .outgrown a w) -> (∀(af : Imm) (ar : List zD) (p2 : Option Addr) (c2 : Nat) (raws2 : List (RawN zD)) (X2 : List HA),o = ar -> imm0.le af -> (dpR X2 raws2 ar) -> T 23 B Q (.exit 0) af (hO zD (vS p2 ar c2) (flR raws2) :: X2) [(3,vS p2 ar c2)]) -> J Tryz.prog 23 B (nav (bodyOf f166) [1,1,0,1,0]) Q imm (hO zD (vS p1 ak c1) (flR ae) :: X) [(0,vS p a0 c),(3,vS p1 ak c1),(4,vI i)]) /\ (∀(a0 : yB) r,nS a0 = some r -> ∀{imm : Imm} {p : Option Addr} {c : Nat} {p1 : Option Addr} {c1 : Nat} {p2 : Option Addr} {c2 : Nat},(SL imm (vS p a0.Index.Coefs c) a0.Index.Coefs) -> (SL imm (vS p1 a0.Read.Subs c1) a0.Read.Subs) -> (SL imm (vS p2 a0.Kids c2) a0.Kids) -> Ret Tryz.prog 144 [vA [vI a0.Kind,vI a0.Num,vS p a0.Index.Coefs c,vI a0.Index.Const,vT a0.Read.Array.l,vS p1 a0.Read.Subs c1,vS p2 a0.Kids c2]] imm [] (DPo r)):=by
 refine eK.mutual_partial_correctness (λa0 r => ∀{imm : Imm} {p : Option Addr} {c : Nat},(SL imm (vS p a0 c) a0) -> Ret Tryz.prog 166 [vS p a0 c] imm [] (DSo r)) (λa0 ak i o => ∀{B : Base} {imm0 imm : Imm} {Q : Exit -> Act -> World -> Prop}  {p : Option Addr} {c : Nat} {p1 : Option Addr} {c1 : Nat} {ae : List (RawN zD)} {X : List HA},imm0.le imm -> (SL imm (vS p a0 c) a0) -> (dpR X ae ak) -> (∀gl a w,¬ Q (.goto gl) a w) -> (∀a w,¬ Q .outgrown a w) -> (∀(af : Imm) (ar : List zD) (p2 : Option Addr) (c2 : Nat) (raws2 : List (RawN zD)) (X2 : List HA),o = ar -> imm0.le af -> (dpR X2 raws2 ar) -> T 23 B Q (.exit 0) af (hO zD (vS p2 ar c2) (flR raws2) :: X2) [(3,vS p2 ar c2)]) -> J Tryz.prog 23 B (nav (bodyOf f166) [1,1,0,1,0]) Q imm (hO zD (vS p1 ak c1) (flR ae) :: X) [(0,vS p a0 c),(3,vS p1 ak c1),(4,vI i)]) (λa0 r => ∀{imm : Imm} {p : Option Addr} {c : Nat} {p1 : Option Addr} {c1 : Nat} {p2 : Option Addr} {c2 : Nat},(SL imm (vS p a0.Index.Coefs c) a0.Index.Coefs) -> (SL imm (vS p1 a0.Read.Subs c1) a0.Read.Subs) -> (SL imm (vS p2 a0.Kids c2) a0.Kids) -> Ret Tryz.prog 144 [vA [vI a0.Kind,vI a0.Num,vS p a0.Index.Coefs c,vI a0.Index.Const,vT a0.Read.Array.l,vS p1 a0.Read.Subs c1,vS p2 a0.Kids c2]] imm [] (DPo r)) ?_ ?_ ?_
 ·intro F_laws_toExprS_l1 ih_laws_toExprS_l1 a0 r hM imm p c h
  refine xW (fn:=f166) (c:=(bodyOf f166)) func166 rfl rfl ?_
  rintro B - -
  have ap : imm.le imm:=Imm.le.refl _
  refine zM <| zE <| yO [] [] <| zH <| zM <| zE <| xF 2 [] [(6,vI (a0.length : Int))] ?_
  obtain⟨out,hy,hM⟩:=zF hM
  refine zHQ 112 [vI 0,vI 0,.slice none 0 0,vI 0,vT ([]),.slice none 0 0,.slice none 0 0] rfl hy dzE ?_
  intro b ae X h1
  refine yO [] [(3,vS (some ⟨b,0,none⟩) out out.length)] <| zH <| zM <| zM <| zE <| yO [] [(4,vI 0)] <| zH <| zZ <| rX [(0,vS p a0 c),(3,vS (some ⟨b,0,none⟩) out out.length),(4,vI 0)] ?_
  obtain⟨o0,ay,aB⟩:=zF hM
  refine ih_laws_toExprS_l1 a0 out 0 o0 ay (Imm.le.refl _) h h1 (λ_ _ _ h=>h) (λ_ _ h=>h) ?_
  intro imm01 ar p2 c2 raws2 X2 heq ai h3
  subst o0
  replace ap:=ap.trans ai
  refine zU <| zH <| zM <| zE <| yO [] [(2,vS p2 ar c2)] <| zH <| yF <| ?_
  obtain rfl:=zB aB
  exact yV ⟨_,_,(.tmp rfl ResV.nil),(λ_ g=>g),⟨_,rfl,.mk' h3⟩⟩
 ·intro F_laws_toExprS_l1 F_laws_toExpr ih_laws_toExprS_l1 ih_laws_toExpr a0 ak i o hM B imm0 imm Q p c p1 c1 ae X ap h h2 hg ho hx
  refine yK hg ho <| zM <| zM <| zE <| yO [] [(11,.bool (decide (i<(a0.length : Int))))] <| zH <| yD hM ?_ ?_
  ·intro hc hM
   refine zT <| zH <| zM <| zZ <| zE <| xF 4 [] [(14,vS p1 ak c1),(15,vI i),(16,vS p a0 c),(17,vI i)] ?_
   obtain⟨x,aw,hM⟩:=zF hM
   refine xL rfl rfl h aw ?_
   intro ad aF av aq
   obtain⟨v0,v01,v02,rfl,h4,h5,h6⟩:=zC9 aq
   obtain⟨p3,c3,rfl⟩:=h4.form
   obtain⟨p4,c4,rfl⟩:=h5.form
   obtain⟨p5,c5,rfl⟩:=h6.form
   refine yY 0 av [vI x.Kind,vI x.Num,vS p3 x.Index.Coefs c3,vI x.Index.Const,vT x.Read.Array.l,vS p4 x.Read.Subs c4,vS p5 x.Kids c5] (vA [vI x.Kind,vI x.Num,vS p3 x.Index.Coefs c3,vI x.Index.Const,vT x.Read.Array.l,vS p4 x.Read.Subs c4,vS p5 x.Kids c5]) rfl ?_
   obtain⟨y,aI,hM⟩:=zF hM
   refine uO rfl (ih_laws_toExpr x _ aI h4 h5 h6) ?_
   rintro imm0 Y v2 k2 le ⟨bb,rfl,h7⟩
   replace h:=h.mono le
   replace ap:=ap.trans le
   obtain⟨x1,aW,hM⟩:=zF hM
   obtain⟨r0,hr0⟩:=h2.idx aW
   refine zDb rfl rfl hr0 h2.ok ?_
   intro ad1 au
   obtain⟨l,bk,hM⟩:=zF hM
   refine zHP rfl au h2 aW h7 rfl ?_
   rw[show ak.set i.toNat y = l from zB bk]
   intro raws2 X2 h14
   have hl0 : l.length = ak.length:=by rw[<- zB bk,cF]
   exact fS (m' := [(0,vS p a0 c),(3,vS p1 ak c1),(4,vI i)]) ⟨rfl,rfl,rfl,trivial⟩ <| zDf (aj:=hO zD (vS p1 l c1) (flR raws2) :: X2) (m' := [(0,vS p a0 c),(3,vS p1 l c1),(4,vI i)]) (by simp only[vS,hl0]) (by simp only[vS,hl0]) <| zX rfl <| zQ <| zH <| zE <| yO [] [(4,vI (W (i+1)))] <| yL <| rX [(0,vS p a0 c),(3,vS p1 l c1),(4,vI (W (i+1)))] <| ih_laws_toExprS_l1 a0 l (W (i+1)) _ hM ap h h14 hg ho hx
  ·intro hc hM
   exact oO <| yH <| yH <| dZ [(3,vS p1 ak c1)] <| hx _ _ _ _ _ _ (zB hM).symm ap h2
 ·intro F_laws_toExprS ih_laws_toExprS a0 r hM imm p c p1 c1 p2 c2 h h1 h2
  refine xW (fn:=f144) (c:=(bodyOf f144)) func144 rfl rfl ?_
  rintro B - -
  have ap : imm.le imm:=Imm.le.refl _
  refine zM <| zE <| eX (c:=⟨[vI a0.Kind,vI a0.Num,vS p a0.Index.Coefs c,vI a0.Index.Const,vT a0.Read.Array.l,vS p1 a0.Read.Subs c1,vS p2 a0.Kids c2]⟩) rfl rfl rfl rfl rfl ?_
  intro b hb
  refine xT (c:=⟨[vI 0,vI 0,.slice none 0 0,vI 0,vT ([]),.slice none 0 0,.slice none 0 0]⟩) rfl rfl rfl (by kernel_rfl) ?_
  intro b1 hb1
  refine zX rfl <| zH <| zM <| zE <| xT (c:=⟨[vI 0,vI 0,.slice none 0 0,vI 0,vT ([]),.slice none 0 0,.slice none 0 0]⟩) rfl rfl rfl (by kernel_rfl) ?_
  intro b2 hb2
  refine zX rfl <| zH <| zM <| zE <| xF 3 [2] [(5,vI a0.Kind),(6,vP b2 0)] <| uJ 0 [vI a0.Kind,vI 0,.slice none 0 0,vI 0,vT ([]),.slice none 0 0,.slice none 0 0] [hB b2 [vI a0.Kind,vI 0,.slice none 0 0,vI 0,vT ([]),.slice none 0 0,.slice none 0 0],hB b1 [vI 0,vI 0,.slice none 0 0,vI 0,vT ([]),.slice none 0 0,.slice none 0 0],hB b [vI a0.Kind,vI a0.Num,vS p a0.Index.Coefs c,vI a0.Index.Const,vT a0.Read.Array.l,vS p1 a0.Read.Subs c1,vS p2 a0.Kids c2]] rfl rfl rfl rfl <| zX rfl <| zH <| zM <| zE <| xF 3 [2] [(8,vI a0.Num),(9,vP b2 1)] <| uJ 0 [vI a0.Kind,vI a0.Num,.slice none 0 0,vI 0,vT ([]),.slice none 0 0,.slice none 0 0] [hB b2 [vI a0.Kind,vI a0.Num,.slice none 0 0,vI 0,vT ([]),.slice none 0 0,.slice none 0 0],hB b1 [vI 0,vI 0,.slice none 0 0,vI 0,vT ([]),.slice none 0 0,.slice none 0 0],hB b [vI a0.Kind,vI a0.Num,vS p a0.Index.Coefs c,vI a0.Index.Const,vT a0.Read.Array.l,vS p1 a0.Read.Subs c1,vS p2 a0.Kids c2]] rfl rfl rfl rfl <| zX rfl <| zH <| zM <| zE <| xF 2 [2] [(11,vA [vS p a0.Index.Coefs c,vI a0.Index.Const])] ?_
  obtain⟨y,hy,hM⟩:=zF hM
  refine uO rfl (zBm a0.Index _ hy h) ?_
  rintro imm0 X1 v2 k2 le ⟨cs,rfl,h3⟩
  replace h:=h.mono le
  replace h1:=h1.mono le
  replace h2:=h2.mono le
  replace ap:=ap.trans le
  have g1:=h3
  obtain⟨v01,rfl,h4⟩:=h3
  obtain⟨p3,c3,rfl⟩:=h4.form
  refine xF 4 [] [(13,vP b2 2)] <| uJ 0 [vI a0.Kind,vI a0.Num,vS p3 y.Coefs c3,vI y.Const,vT ([]),.slice none 0 0,.slice none 0 0] (hB b2 [vI a0.Kind,vI a0.Num,vS p3 y.Coefs c3,vI y.Const,vT ([]),.slice none 0 0,.slice none 0 0] :: hB b1 [vI 0,vI 0,.slice none 0 0,vI 0,vT ([]),.slice none 0 0,.slice none 0 0] :: hB b [vI a0.Kind,vI a0.Num,vS p a0.Index.Coefs c,vI a0.Index.Const,vT a0.Read.Array.l,vS p1 a0.Read.Subs c1,vS p2 a0.Kids c2] :: X1) rfl rfl rfl rfl <| zX rfl <| zH <| zM <| zE <| xF 2 [2] [(15,vA [vT a0.Read.Array.l,vS p1 a0.Read.Subs c1])] ?_
  obtain⟨y1,aw,hM⟩:=zF hM
  refine uO rfl (zBn a0.Read _ aw h1) ?_
  rintro imm01 X2 v2 k2 ai ⟨aM,rfl,h5⟩
  replace h:=h.mono ai
  replace h1:=h1.mono ai
  replace h2:=h2.mono ai
  replace ap:=ap.trans ai
  have g2:=h5
  obtain⟨v03,rfl,h6⟩:=h5
  obtain⟨p4,c4,rfl⟩:=h6.form
  refine xF 4 [] [(17,vP b2 4)] <| uJ 0 [vI a0.Kind,vI a0.Num,vS p3 y.Coefs c3,vI y.Const,vT y1.Array.l,vS p4 y1.Subs c4,.slice none 0 0] (hB b2 [vI a0.Kind,vI a0.Num,vS p3 y.Coefs c3,vI y.Const,vT y1.Array.l,vS p4 y1.Subs c4,.slice none 0 0] :: hB b1 [vI 0,vI 0,.slice none 0 0,vI 0,vT ([]),.slice none 0 0,.slice none 0 0] :: hB b [vI a0.Kind,vI a0.Num,vS p a0.Index.Coefs c,vI a0.Index.Const,vT a0.Read.Array.l,vS p1 a0.Read.Subs c1,vS p2 a0.Kids c2] :: (X1++X2)) rfl rfl rfl rfl <| zX rfl <| zH <| zM <| zE <| xF 2 [2] [(19,vS p2 a0.Kids c2)] ?_
  obtain⟨y2,aI,hM⟩:=zF hM
  refine uO rfl (ih_laws_toExprS a0.Kids _ aI h2) ?_
  rintro imm02 X3 v2 k2 ax ⟨v04,rfl,h7⟩
  replace h:=h.mono ax
  replace h1:=h1.mono ax
  replace h2:=h2.mono ax
  replace ap:=ap.trans ax
  obtain⟨p5,c5,rfl⟩:=h7.form
  refine xF 4 [] [(21,vP b2 6)] <| uJ 0 [vI a0.Kind,vI a0.Num,vS p3 y.Coefs c3,vI y.Const,vT y1.Array.l,vS p4 y1.Subs c4,vS p5 y2 c5] (hB b2 [vI a0.Kind,vI a0.Num,vS p3 y.Coefs c3,vI y.Const,vT y1.Array.l,vS p4 y1.Subs c4,vS p5 y2 c5] :: hB b1 [vI 0,vI 0,.slice none 0 0,vI 0,vT ([]),.slice none 0 0,.slice none 0 0] :: hB b [vI a0.Kind,vI a0.Num,vS p a0.Index.Coefs c,vI a0.Index.Const,vT a0.Read.Array.l,vS p1 a0.Read.Subs c1,vS p2 a0.Kids c2] :: ((X1++X2)++X3)) rfl rfl rfl rfl <| zX rfl <| zH <| zM <| zE <| xF 1 [0] [(22,vA [vI a0.Kind,vI a0.Num,vS p3 y.Coefs c3,vI y.Const,vT y1.Array.l,vS p4 y1.Subs c4,vS p5 y2 c5])] <| uJ 1 [vI a0.Kind,vI a0.Num,vS p3 y.Coefs c3,vI y.Const,vT y1.Array.l,vS p4 y1.Subs c4,vS p5 y2 c5] (hB b2 [vI a0.Kind,vI a0.Num,vS p3 y.Coefs c3,vI y.Const,vT y1.Array.l,vS p4 y1.Subs c4,vS p5 y2 c5] :: hB b1 [vI a0.Kind,vI a0.Num,vS p3 y.Coefs c3,vI y.Const,vT y1.Array.l,vS p4 y1.Subs c4,vS p5 y2 c5] :: hB b [vI a0.Kind,vI a0.Num,vS p a0.Index.Coefs c,vI a0.Index.Const,vT a0.Read.Array.l,vS p1 a0.Read.Subs c1,vS p2 a0.Kids c2] :: ((X1++X2)++X3)) rfl rfl rfl rfl <| zX rfl <| zH <| yF ?_
  obtain rfl:=zB hM
  exact yV ⟨_,X1++(X2++X3),(.cell 1 rfl rfl (by kernel_rfl) ResV.nil),(λ_ g=>by rw[<- bZ];exact g.tail.tail.tail),⟨_,rfl,(zAH h4 h6 h7)⟩⟩
theorem zGo : ∀(a0 : yB) r,nS a0 = some r -> ∀{imm : Imm} {p : Option Addr} {c : Nat} {p1 : Option Addr} {c1 : Nat} {p2 : Option Addr} {c2 : Nat},(SL imm (vS p a0.Index.Coefs c) a0.Index.Coefs) -> (SL imm (vS p1 a0.Read.Subs c1) a0.Read.Subs) -> (SL imm (vS p2 a0.Kids c2) a0.Kids) -> Ret Tryz.prog 144 [vA [vI a0.Kind,vI a0.Num,vS p a0.Index.Coefs c,vI a0.Index.Const,vT a0.Read.Array.l,vS p1 a0.Read.Subs c1,vS p2 a0.Kids c2]] imm [] (DPo r):=zF9.2.2
def dM(a0 : vG): Option (zJ):=do
 let y <- kO a0.Write
 let y1 <- nS a0.Value
 pure (zJ.mk y y1)
theorem zGp : ∀(a0 : vG) r,dM a0 = some r -> ∀{imm : Imm} {p : Option Addr} {c : Nat} {p1 : Option Addr} {c1 : Nat} {p2 : Option Addr} {c2 : Nat} {p3 : Option Addr} {c3 : Nat},(SL imm (vS p a0.Write.Subs c) a0.Write.Subs) -> (SL imm (vS p1 a0.Value.Index.Coefs c1) a0.Value.Index.Coefs) -> (SL imm (vS p2 a0.Value.Read.Subs c2) a0.Value.Read.Subs) -> (SL imm (vS p3 a0.Value.Kids c3) a0.Value.Kids) -> Ret Tryz.prog 112 [vA [vT a0.Write.Array.l,vS p a0.Write.Subs c,vI a0.Value.Kind,vI a0.Value.Num,vS p1 a0.Value.Index.Coefs c1,vI a0.Value.Index.Const,vT a0.Value.Read.Array.l,vS p2 a0.Value.Read.Subs c2,vS p3 a0.Value.Kids c3]] imm [] (DPo r):=by
 intro a0 r hM imm p c p1 c1 p2 c2 p3 c3 h h1 h2 h3
 unfold dM at hM
 refine xW (fn:=f112) (c:=(bodyOf f112)) func112 rfl rfl ?_
 rintro B - -
 have ap : imm.le imm:=Imm.le.refl _
 refine zM <| zE <| eX (c:=⟨[vT a0.Write.Array.l,vS p a0.Write.Subs c,vI a0.Value.Kind,vI a0.Value.Num,vS p1 a0.Value.Index.Coefs c1,vI a0.Value.Index.Const,vT a0.Value.Read.Array.l,vS p2 a0.Value.Read.Subs c2,vS p3 a0.Value.Kids c3]⟩) rfl rfl rfl rfl rfl ?_
 intro b hb
 refine xT (c:=⟨[vT ([]),.slice none 0 0,vI 0,vI 0,.slice none 0 0,vI 0,vT ([]),.slice none 0 0,.slice none 0 0]⟩) rfl rfl rfl (by kernel_rfl) ?_
 intro b1 hb1
 refine zX rfl <| zH <| zM <| zE <| xT (c:=⟨[vT ([]),.slice none 0 0,vI 0,vI 0,.slice none 0 0,vI 0,vT ([]),.slice none 0 0,.slice none 0 0]⟩) rfl rfl rfl (by kernel_rfl) ?_
 intro b2 hb2
 refine zX rfl <| zH <| zM <| zE <| xF 2 [2] [(5,vA [vT a0.Write.Array.l,vS p a0.Write.Subs c])] ?_
 obtain⟨y,hy,hM⟩:=zF hM
 refine uO rfl (zBn a0.Write _ hy h) ?_
 rintro imm0 X1 v2 k2 le ⟨cs,rfl,h4⟩
 replace h:=h.mono le
 replace h1:=h1.mono le
 replace h2:=h2.mono le
 replace h3:=h3.mono le
 replace ap:=ap.trans le
 have g1:=h4
 obtain⟨v01,rfl,h5⟩:=h4
 obtain⟨p4,c4,rfl⟩:=h5.form
 refine xF 4 [] [(7,vP b2 0)] <| uJ 0 [vT y.Array.l,vS p4 y.Subs c4,vI 0,vI 0,.slice none 0 0,vI 0,vT ([]),.slice none 0 0,.slice none 0 0] (hB b2 [vT y.Array.l,vS p4 y.Subs c4,vI 0,vI 0,.slice none 0 0,vI 0,vT ([]),.slice none 0 0,.slice none 0 0] :: hB b1 [vT ([]),.slice none 0 0,vI 0,vI 0,.slice none 0 0,vI 0,vT ([]),.slice none 0 0,.slice none 0 0] :: hB b [vT a0.Write.Array.l,vS p a0.Write.Subs c,vI a0.Value.Kind,vI a0.Value.Num,vS p1 a0.Value.Index.Coefs c1,vI a0.Value.Index.Const,vT a0.Value.Read.Array.l,vS p2 a0.Value.Read.Subs c2,vS p3 a0.Value.Kids c3] :: X1) rfl rfl rfl rfl <| zX rfl <| zH <| zM <| zE <| xF 2 [2] [(9,vA [vI a0.Value.Kind,vI a0.Value.Num,vS p1 a0.Value.Index.Coefs c1,vI a0.Value.Index.Const,vT a0.Value.Read.Array.l,vS p2 a0.Value.Read.Subs c2,vS p3 a0.Value.Kids c3])] ?_
 obtain⟨y1,aw,hM⟩:=zF hM
 refine uO rfl (zGo a0.Value _ aw h1 h2 h3) ?_
 rintro imm01 X2 v2 k2 ai ⟨aM,rfl,h6⟩
 replace h:=h.mono ai
 replace h1:=h1.mono ai
 replace h2:=h2.mono ai
 replace h3:=h3.mono ai
 replace ap:=ap.trans ai
 have g2:=h6
 obtain⟨v03,v04,v05,Xa,Xb,Xc,rfl,-,h7,h8,h9⟩:=eH h6
 obtain⟨p5,c5,rfl⟩:=h7.form
 obtain⟨p6,c6,rfl⟩:=h8.form
 obtain⟨p7,c7,rfl⟩:=h9.form
 refine xF 4 [] [(11,vP b2 2)] <| uJ 0 [vT y.Array.l,vS p4 y.Subs c4,vI y1.Kind,vI y1.Num,vS p5 y1.Index.Coefs c5,vI y1.Index.Const,vT y1.Read.Array.l,vS p6 y1.Read.Subs c6,vS p7 y1.Kids c7] (hB b2 [vT y.Array.l,vS p4 y.Subs c4,vI y1.Kind,vI y1.Num,vS p5 y1.Index.Coefs c5,vI y1.Index.Const,vT y1.Read.Array.l,vS p6 y1.Read.Subs c6,vS p7 y1.Kids c7] :: hB b1 [vT ([]),.slice none 0 0,vI 0,vI 0,.slice none 0 0,vI 0,vT ([]),.slice none 0 0,.slice none 0 0] :: hB b [vT a0.Write.Array.l,vS p a0.Write.Subs c,vI a0.Value.Kind,vI a0.Value.Num,vS p1 a0.Value.Index.Coefs c1,vI a0.Value.Index.Const,vT a0.Value.Read.Array.l,vS p2 a0.Value.Read.Subs c2,vS p3 a0.Value.Kids c3] :: (X1++X2)) rfl rfl rfl rfl <| zX rfl <| zH <| zM <| zE <| xF 1 [0] [(12,vA [vT y.Array.l,vS p4 y.Subs c4,vI y1.Kind,vI y1.Num,vS p5 y1.Index.Coefs c5,vI y1.Index.Const,vT y1.Read.Array.l,vS p6 y1.Read.Subs c6,vS p7 y1.Kids c7])] <| uJ 1 [vT y.Array.l,vS p4 y.Subs c4,vI y1.Kind,vI y1.Num,vS p5 y1.Index.Coefs c5,vI y1.Index.Const,vT y1.Read.Array.l,vS p6 y1.Read.Subs c6,vS p7 y1.Kids c7] (hB b2 [vT y.Array.l,vS p4 y.Subs c4,vI y1.Kind,vI y1.Num,vS p5 y1.Index.Coefs c5,vI y1.Index.Const,vT y1.Read.Array.l,vS p6 y1.Read.Subs c6,vS p7 y1.Kids c7] :: hB b1 [vT y.Array.l,vS p4 y.Subs c4,vI y1.Kind,vI y1.Num,vS p5 y1.Index.Coefs c5,vI y1.Index.Const,vT y1.Read.Array.l,vS p6 y1.Read.Subs c6,vS p7 y1.Kids c7] :: hB b [vT a0.Write.Array.l,vS p a0.Write.Subs c,vI a0.Value.Kind,vI a0.Value.Num,vS p1 a0.Value.Index.Coefs c1,vI a0.Value.Index.Const,vT a0.Value.Read.Array.l,vS p2 a0.Value.Read.Subs c2,vS p3 a0.Value.Kids c3] :: (X1++X2)) rfl rfl rfl rfl <| zX rfl <| zH <| yF ?_
 obtain rfl:=zB hM
 exact yV ⟨_,_,(.cell 1 rfl rfl (by kernel_rfl) ResV.nil),(λ_ g=>g.tail.tail.tail),⟨_,rfl,⟨[vT y.Array.l,vS p4 y.Subs c4],[vI y1.Kind,vI y1.Num,vS p5 y1.Index.Coefs c5,vI y1.Index.Const,vT y1.Read.Array.l,vS p6 y1.Read.Subs c6,vS p7 y1.Kids c7],X1,X2,rfl,rfl,g1,g2⟩⟩⟩
def pB(a0 : (List vG))(ak : List zJ)(i : Int): Option (List zJ):=do
 if(decide (i<(a0.length : Int))) then
  let x <- idx a0 i
  let y <- dM x
  let x1 <- idx ak i
  let l <- pure (ak.set i.toNat y)
  pB a0 l (W (i+1))
 else
  pure (id ak)
 partial_fixpoint
theorem zEQ(a0 : (List vG)): ∀(ak : List zJ) (i : Int) (o : List zJ),pB a0 ak i = some o -> ∀{B : Base} {imm0 imm : Imm} {Q : Exit -> Act -> World -> Prop}  {p : Option Addr} {c : Nat} {p1 : Option Addr} {c1 : Nat} {ae : List (RawN zJ)} {X : List HA},imm0.le imm -> (SL imm (vS p a0 c) a0) -> (dpR X ae ak) -> (∀gl a w,¬ Q (.goto gl) a w) -> (∀a w,¬ Q .outgrown a w) -> (∀(af : Imm) (ar : List zJ) (p2 : Option Addr) (c2 : Nat) (raws2 : List (RawN zJ)) (X2 : List HA),o = ar -> imm0.le af -> (dpR X2 raws2 ar) -> T 23 B Q (.exit 0) af (hO zJ (vS p2 ar c2) (flR raws2) :: X2) [(3,vS p2 ar c2)]) -> J Tryz.prog 23 B (nav (bodyOf f71) [1,1,0,1,0]) Q imm (hO zJ (vS p1 ak c1) (flR ae) :: X) [(0,vS p a0 c),(3,vS p1 ak c1),(4,vI i)]:=by
 refine pB.partial_correctness a0 _ ?_
 intro aG ih ak i o hM B imm0 imm Q p c p1 c1 ae X ap h h2 hg ho hx
 refine yK hg ho <| zM <| zM <| zE <| yO [] [(11,.bool (decide (i<(a0.length : Int))))] <| zH <| yD hM ?_ ?_
 ·intro hc hM
  refine zT <| zH <| zM <| zZ <| zE <| xF 4 [] [(14,vS p1 ak c1),(15,vI i),(16,vS p a0 c),(17,vI i)] ?_
  obtain⟨x,aw,hM⟩:=zF hM
  refine xL rfl rfl h aw ?_
  intro ad aF av aq
  obtain⟨v0,v01,v02,v03,rfl,h4,h5,h6,h7⟩:=zCa aq
  obtain⟨p3,c3,rfl⟩:=h4.form
  obtain⟨p4,c4,rfl⟩:=h5.form
  obtain⟨p5,c5,rfl⟩:=h6.form
  obtain⟨p6,c6,rfl⟩:=h7.form
  refine yY 0 av [vT x.Write.Array.l,vS p3 x.Write.Subs c3,vI x.Value.Kind,vI x.Value.Num,vS p4 x.Value.Index.Coefs c4,vI x.Value.Index.Const,vT x.Value.Read.Array.l,vS p5 x.Value.Read.Subs c5,vS p6 x.Value.Kids c6] (vA [vT x.Write.Array.l,vS p3 x.Write.Subs c3,vI x.Value.Kind,vI x.Value.Num,vS p4 x.Value.Index.Coefs c4,vI x.Value.Index.Const,vT x.Value.Read.Array.l,vS p5 x.Value.Read.Subs c5,vS p6 x.Value.Kids c6]) rfl ?_
  obtain⟨y,aI,hM⟩:=zF hM
  refine uO rfl (zGp x _ aI h4 h5 h6 h7) ?_
  rintro imm0 Y v2 k2 le ⟨bb,rfl,h8⟩
  replace h:=h.mono le
  replace ap:=ap.trans le
  obtain⟨x1,aW,hM⟩:=zF hM
  obtain⟨r0,hr0⟩:=h2.idx aW
  refine zDb rfl rfl hr0 h2.ok ?_
  intro ad1 au
  obtain⟨l,bk,hM⟩:=zF hM
  refine zHP rfl au h2 aW h8 rfl ?_
  rw[show ak.set i.toNat y = l from zB bk]
  intro raws2 X2 h17
  have hl0 : l.length = ak.length:=by rw[<- zB bk,cF]
  exact fS (m' := [(0,vS p a0 c),(3,vS p1 ak c1),(4,vI i)]) ⟨rfl,rfl,rfl,trivial⟩ <| zDf (aj:=hO zJ (vS p1 l c1) (flR raws2) :: X2) (m' := [(0,vS p a0 c),(3,vS p1 l c1),(4,vI i)]) (by simp only[vS,hl0]) (by simp only[vS,hl0]) <| zX rfl <| zQ <| zH <| zE <| yO [] [(4,vI (W (i+1)))] <| yL <| rX [(0,vS p a0 c),(3,vS p1 l c1),(4,vI (W (i+1)))] <| ih l (W (i+1)) _ hM ap h h17 hg ho hx
 ·intro hc hM
  exact oO <| yH <| yH <| dZ [(3,vS p1 ak c1)] <| hx _ _ _ _ _ _ (zB hM).symm ap h2
def eL(a0 : (List vG)): Option ((List zJ)):=do
 let out <- mkrow 152 (a0.length : Int) ((zJ.mk (zK.mk (⟨[]⟩ : Str) ([] : List zC)) (zD.mk 0 0 (zC.mk ([] : List Int) 0) (zK.mk (⟨[]⟩ : Str) ([] : List zC)) ([] : List zD))) : zJ)
 let ar <- pB a0 out 0
 pure (id ar)
theorem zGC : ∀(a0 : (List vG)) r,eL a0 = some r -> ∀{imm : Imm} {p : Option Addr} {c : Nat},(SL imm (vS p a0 c) a0) -> Ret Tryz.prog 71 [vS p a0 c] imm [] (DSo r):=by
 intro a0 r hM imm p c h
 unfold eL at hM
 refine xW (fn:=f71) (c:=(bodyOf f71)) func71 rfl rfl ?_
 rintro B - -
 have ap : imm.le imm:=Imm.le.refl _
 refine zM <| zE <| yO [] [] <| zH <| zM <| zE <| xF 2 [] [(6,vI (a0.length : Int))] ?_
 obtain⟨out,hy,hM⟩:=zF hM
 refine zHQ 152 [vT ([]),.slice none 0 0,vI 0,vI 0,.slice none 0 0,vI 0,vT ([]),.slice none 0 0,.slice none 0 0] rfl hy dzS ?_
 intro b ae X h1
 refine yO [] [(3,vS (some ⟨b,0,none⟩) out out.length)] <| zH <| zM <| zM <| zE <| yO [] [(4,vI 0)] <| zH <| zZ <| rX [(0,vS p a0 c),(3,vS (some ⟨b,0,none⟩) out out.length),(4,vI 0)] ?_
 obtain⟨o0,ay,aB⟩:=zF hM
 refine zEQ a0 out 0 o0 ay (Imm.le.refl _) h h1 (λ_ _ _ h=>h) (λ_ _ h=>h) ?_
 intro imm01 ar p2 c2 raws2 X2 heq ai h3
 subst o0
 replace ap:=ap.trans ai
 refine zU <| zH <| zM <| zE <| yO [] [(2,vS p2 ar c2)] <| zH <| yF <| ?_
 obtain rfl:=zB aB
 exact yV ⟨_,_,(.tmp rfl ResV.nil),(λ_ g=>g),⟨_,rfl,.mk' h3⟩⟩
def dO(a0 : vH): Option (zN):=do
 let y <- eJ a0.Nest
 let y1 <- eL a0.Body
 pure (zN.mk y y1)
theorem zGq : ∀(a0 : vH) r,dO a0 = some r -> ∀{imm : Imm} {p : Option Addr} {c : Nat} {p1 : Option Addr} {c1 : Nat},(SL imm (vS p a0.Nest c) a0.Nest) -> (SL imm (vS p1 a0.Body c1) a0.Body) -> Ret Tryz.prog 40 [vA [vS p a0.Nest c,vS p1 a0.Body c1]] imm [] (DPo r):=by
 intro a0 r hM imm p c p1 c1 h h1
 unfold dO at hM
 refine xW (fn:=f40) (c:=(bodyOf f40)) func40 rfl rfl ?_
 rintro B - -
 have ap : imm.le imm:=Imm.le.refl _
 refine zM <| zE <| eX (c:=⟨[vS p a0.Nest c,vS p1 a0.Body c1]⟩) rfl rfl rfl rfl rfl ?_
 intro b hb
 refine xT (c:=⟨[.slice none 0 0,.slice none 0 0]⟩) rfl rfl rfl (by kernel_rfl) ?_
 intro b1 hb1
 refine zX rfl <| zH <| zM <| zE <| xT (c:=⟨[.slice none 0 0,.slice none 0 0]⟩) rfl rfl rfl (by kernel_rfl) ?_
 intro b2 hb2
 refine zX rfl <| zH <| zM <| zE <| xF 2 [2] [(5,vS p a0.Nest c)] ?_
 obtain⟨y,hy,hM⟩:=zF hM
 refine uO rfl (zGB a0.Nest _ hy h) ?_
 rintro imm0 X1 v2 k2 le ⟨v0,rfl,h2⟩
 replace h:=h.mono le
 replace h1:=h1.mono le
 replace ap:=ap.trans le
 obtain⟨p2,c2,rfl⟩:=h2.form
 refine xF 4 [] [(7,vP b2 0)] <| uJ 0 [vS p2 y c2,.slice none 0 0] (hB b2 [vS p2 y c2,.slice none 0 0] :: hB b1 [.slice none 0 0,.slice none 0 0] :: hB b [vS p a0.Nest c,vS p1 a0.Body c1] :: X1) rfl rfl rfl rfl <| zX rfl <| zH <| zM <| zE <| xF 2 [2] [(9,vS p1 a0.Body c1)] ?_
 obtain⟨y1,aw,hM⟩:=zF hM
 refine uO rfl (zGC a0.Body _ aw h1) ?_
 rintro imm01 X2 v2 k2 ai ⟨v01,rfl,h3⟩
 replace h:=h.mono ai
 replace h1:=h1.mono ai
 replace ap:=ap.trans ai
 obtain⟨p3,c3,rfl⟩:=h3.form
 refine xF 4 [] [(11,vP b2 1)] <| uJ 0 [vS p2 y c2,vS p3 y1 c3] (hB b2 [vS p2 y c2,vS p3 y1 c3] :: hB b1 [.slice none 0 0,.slice none 0 0] :: hB b [vS p a0.Nest c,vS p1 a0.Body c1] :: (X1++X2)) rfl rfl rfl rfl <| zX rfl <| zH <| zM <| zE <| xF 1 [0] [(12,vA [vS p2 y c2,vS p3 y1 c3])] <| uJ 1 [vS p2 y c2,vS p3 y1 c3] (hB b2 [vS p2 y c2,vS p3 y1 c3] :: hB b1 [vS p2 y c2,vS p3 y1 c3] :: hB b [vS p a0.Nest c,vS p1 a0.Body c1] :: (X1++X2)) rfl rfl rfl rfl <| zX rfl <| zH <| yF ?_
 obtain rfl:=zB hM
 exact yV ⟨_,_,(.cell 1 rfl rfl (by kernel_rfl) ResV.nil),(λ_ g=>g.tail.tail.tail),⟨_,rfl,⟨_,_,X1,X2,rfl,rfl,h2,h3⟩⟩⟩
def pC(a0 : (List vH))(ak : List zN)(i : Int): Option (List zN):=do
 if(decide (i<(a0.length : Int))) then
  let x <- idx a0 i
  let y <- dO x
  let x1 <- idx ak i
  let l <- pure (ak.set i.toNat y)
  pC a0 l (W (i+1))
 else
  pure (id ak)
 partial_fixpoint
theorem zER(a0 : (List vH)): ∀(ak : List zN) (i : Int) (o : List zN),pC a0 ak i = some o -> ∀{B : Base} {imm0 imm : Imm} {Q : Exit -> Act -> World -> Prop}  {p : Option Addr} {c : Nat} {p1 : Option Addr} {c1 : Nat} {ae : List (RawN zN)} {X : List HA},imm0.le imm -> (SL imm (vS p a0 c) a0) -> (dpR X ae ak) -> (∀gl a w,¬ Q (.goto gl) a w) -> (∀a w,¬ Q .outgrown a w) -> (∀(af : Imm) (ar : List zN) (p2 : Option Addr) (c2 : Nat) (raws2 : List (RawN zN)) (X2 : List HA),o = ar -> imm0.le af -> (dpR X2 raws2 ar) -> T 23 B Q (.exit 0) af (hO zN (vS p2 ar c2) (flR raws2) :: X2) [(3,vS p2 ar c2)]) -> J Tryz.prog 23 B (nav (bodyOf f18) [1,1,0,1,0]) Q imm (hO zN (vS p1 ak c1) (flR ae) :: X) [(0,vS p a0 c),(3,vS p1 ak c1),(4,vI i)]:=by
 refine pC.partial_correctness a0 _ ?_
 intro aG ih ak i o hM B imm0 imm Q p c p1 c1 ae X ap h h2 hg ho hx
 refine yK hg ho <| zM <| zM <| zE <| yO [] [(11,.bool (decide (i<(a0.length : Int))))] <| zH <| yD hM ?_ ?_
 ·intro hc hM
  refine zT <| zH <| zM <| zZ <| zE <| xF 4 [] [(14,vS p1 ak c1),(15,vI i),(16,vS p a0 c),(17,vI i)] ?_
  obtain⟨x,aw,hM⟩:=zF hM
  refine xL rfl rfl h aw ?_
  intro ad aF av aq
  obtain⟨v0,v01,rfl,h4,h5⟩:=zCb aq
  obtain⟨p3,c3,rfl⟩:=h4.form
  obtain⟨p4,c4,rfl⟩:=h5.form
  refine yY 0 av [vS p3 x.Nest c3,vS p4 x.Body c4] (vA [vS p3 x.Nest c3,vS p4 x.Body c4]) rfl ?_
  obtain⟨y,aI,hM⟩:=zF hM
  refine uO rfl (zGq x _ aI h4 h5) ?_
  rintro imm0 Y v2 k2 le ⟨bb,rfl,h6⟩
  replace h:=h.mono le
  replace ap:=ap.trans le
  obtain⟨x1,aW,hM⟩:=zF hM
  obtain⟨r0,hr0⟩:=h2.idx aW
  refine zDb rfl rfl hr0 h2.ok ?_
  intro ad1 au
  obtain⟨l,bk,hM⟩:=zF hM
  refine zHP rfl au h2 aW h6 rfl ?_
  rw[show ak.set i.toNat y = l from zB bk]
  intro raws2 X2 h11
  have hl0 : l.length = ak.length:=by rw[<- zB bk,cF]
  exact fS (m' := [(0,vS p a0 c),(3,vS p1 ak c1),(4,vI i)]) ⟨rfl,rfl,rfl,trivial⟩ <| zDf (aj:=hO zN (vS p1 l c1) (flR raws2) :: X2) (m' := [(0,vS p a0 c),(3,vS p1 l c1),(4,vI i)]) (by simp only[vS,hl0]) (by simp only[vS,hl0]) <| zX rfl <| zQ <| zH <| zE <| yO [] [(4,vI (W (i+1)))] <| yL <| rX [(0,vS p a0 c),(3,vS p1 l c1),(4,vI (W (i+1)))] <| ih l (W (i+1)) _ hM ap h h11 hg ho hx
 ·intro hc hM
  exact oO <| yH <| yH <| dZ [(3,vS p1 ak c1)] <| hx _ _ _ _ _ _ (zB hM).symm ap h2
def eM(a0 : (List vH)): Option ((List zN)):=do
 let out <- mkrow 48 (a0.length : Int) ((zN.mk ([] : List zL) ([] : List zJ)) : zN)
 let ar <- pC a0 out 0
 pure (id ar)
theorem zGD : ∀(a0 : (List vH)) r,eM a0 = some r -> ∀{imm : Imm} {p : Option Addr} {c : Nat},(SL imm (vS p a0 c) a0) -> Ret Tryz.prog 18 [vS p a0 c] imm [] (DSo r):=by
 intro a0 r hM imm p c h
 unfold eM at hM
 refine xW (fn:=f18) (c:=(bodyOf f18)) func18 rfl rfl ?_
 rintro B - -
 have ap : imm.le imm:=Imm.le.refl _
 refine zM <| zE <| yO [] [] <| zH <| zM <| zE <| xF 2 [] [(6,vI (a0.length : Int))] ?_
 obtain⟨out,hy,hM⟩:=zF hM
 refine zHQ 48 [.slice none 0 0,.slice none 0 0] rfl hy dzP ?_
 intro b ae X h1
 refine yO [] [(3,vS (some ⟨b,0,none⟩) out out.length)] <| zH <| zM <| zM <| zE <| yO [] [(4,vI 0)] <| zH <| zZ <| rX [(0,vS p a0 c),(3,vS (some ⟨b,0,none⟩) out out.length),(4,vI 0)] ?_
 obtain⟨o0,ay,aB⟩:=zF hM
 refine zER a0 out 0 o0 ay (Imm.le.refl _) h h1 (λ_ _ _ h=>h) (λ_ _ h=>h) ?_
 intro imm01 ar p2 c2 raws2 X2 heq ai h3
 subst o0
 replace ap:=ap.trans ai
 refine zU <| zH <| zM <| zE <| yO [] [(2,vS p2 ar c2)] <| zH <| yF <| ?_
 obtain rfl:=zB aB
 exact yV ⟨_,_,(.tmp rfl ResV.nil),(λ_ g=>g),⟨_,rfl,.mk' h3⟩⟩
def qG(a0 : wT): Option (zV):=do
 let y <- gX a0.Arrays
 let y1 <- eM a0.Parts
 pure (zV.mk y y1)
theorem fQ : ∀(a0 : wT) r,qG a0 = some r -> ∀{imm : Imm} {p : Option Addr} {c : Nat} {p1 : Option Addr} {c1 : Nat},(SL imm (vS p a0.Arrays c) a0.Arrays) -> (SL imm (vS p1 a0.Parts c1) a0.Parts) -> Ret Tryz.prog 6 [vA [vS p a0.Arrays c,vS p1 a0.Parts c1]] imm [] (DPo r):=by
 intro a0 r hM imm p c p1 c1 h h1
 unfold qG at hM
 refine xW (fn:=f6) (c:=(bodyOf f6)) func6 rfl rfl ?_
 rintro B - -
 have ap : imm.le imm:=Imm.le.refl _
 refine zM <| zE <| eX (c:=⟨[vS p a0.Arrays c,vS p1 a0.Parts c1]⟩) rfl rfl rfl rfl rfl ?_
 intro b hb
 refine xT (c:=⟨[.slice none 0 0,.slice none 0 0]⟩) rfl rfl rfl (by kernel_rfl) ?_
 intro b1 hb1
 refine zX rfl <| zH <| zM <| zE <| xT (c:=⟨[.slice none 0 0,.slice none 0 0]⟩) rfl rfl rfl (by kernel_rfl) ?_
 intro b2 hb2
 refine zX rfl <| zH <| zM <| zE <| xF 2 [2] [(5,vS p a0.Arrays c)] ?_
 obtain⟨y,hy,hM⟩:=zF hM
 refine uO rfl (zF8 a0.Arrays _ hy h) ?_
 rintro imm0 X1 v2 k2 le ⟨v0,rfl,h2⟩
 replace h:=h.mono le
 replace h1:=h1.mono le
 replace ap:=ap.trans le
 obtain⟨p2,c2,rfl⟩:=h2.form
 refine xF 4 [] [(7,vP b2 0)] <| uJ 0 [vS p2 y c2,.slice none 0 0] (hB b2 [vS p2 y c2,.slice none 0 0] :: hB b1 [.slice none 0 0,.slice none 0 0] :: hB b [vS p a0.Arrays c,vS p1 a0.Parts c1] :: X1) rfl rfl rfl rfl <| zX rfl <| zH <| zM <| zE <| xF 2 [2] [(9,vS p1 a0.Parts c1)] ?_
 obtain⟨y1,aw,hM⟩:=zF hM
 refine uO rfl (zGD a0.Parts _ aw h1) ?_
 rintro imm01 X2 v2 k2 ai ⟨v01,rfl,h3⟩
 replace h:=h.mono ai
 replace h1:=h1.mono ai
 replace ap:=ap.trans ai
 obtain⟨p3,c3,rfl⟩:=h3.form
 refine xF 4 [] [(11,vP b2 1)] <| uJ 0 [vS p2 y c2,vS p3 y1 c3] (hB b2 [vS p2 y c2,vS p3 y1 c3] :: hB b1 [.slice none 0 0,.slice none 0 0] :: hB b [vS p a0.Arrays c,vS p1 a0.Parts c1] :: (X1++X2)) rfl rfl rfl rfl <| zX rfl <| zH <| zM <| zE <| xF 1 [0] [(12,vA [vS p2 y c2,vS p3 y1 c3])] <| uJ 1 [vS p2 y c2,vS p3 y1 c3] (hB b2 [vS p2 y c2,vS p3 y1 c3] :: hB b1 [vS p2 y c2,vS p3 y1 c3] :: hB b [vS p a0.Arrays c,vS p1 a0.Parts c1] :: (X1++X2)) rfl rfl rfl rfl <| zX rfl <| zH <| yF ?_
 obtain rfl:=zB hM
 exact yV ⟨_,_,(.cell 1 rfl rfl (by kernel_rfl) ResV.nil),(λ_ g=>g.tail.tail.tail),⟨_,rfl,⟨_,_,X1,X2,rfl,rfl,h2,h3⟩⟩⟩
end Go.LN
