/- Helper of the proof (see the last text). -/
import Derived.Test.YtknadcjnkbdpdaaGreatHM6
set_option linter.unusedVariables false
set_option linter.unusedSimpArgs false
namespace Go.LN
open Go.Proofs
set_option maxRecDepth 20000
def jA (a0:(List Int)) (b:(List Int)) (i:Int):Option (Out Unit (Bool)):=do
 if (decide (i < (a0.length:Int))) then
  let x←idx a0 i
  let x1←idx b i
  if (x != x1) then
   pure (.ret false)
  else
   jA a0 b (W (i + 1))
 else
  pure (.done ())
 partial_fixpoint
theorem zDQ (a0:(List Int)) (b:(List Int)):∀ (i:Int) (o:Out Unit (Bool)),jA a0 b i=some o→∀ {B}{I0 I:Imm}{Q p c p1 c1},I0.le I→(S4 I p a0 c)→(S4 I p1 b c1)→NG Q→NO Q→(∀ (I':Imm) ,o=(.done ())→I0.le I'→T 26 B Q (.exit 0) I' [] [])→(∀ r I' hs' m',o=(.ret r)→I0.le I'→RS Tryz.prog Tryz.f222 B (zU  r) I' hs' m'→T 26 B Q .ret I' hs' m')→J Tryz.prog 26 B (nav (bodyOf Tryz.f222) [1,1,0,1,0]) Q I [] [(0,vS p a0 c),(1,vS p1 b c1),(5,vI i)]:=by
 refine jA.partial_correctness a0 b _ fun self ih i o N B I0 I Q p c p1 c1 H h h1 hg ho hx hr=>yZ hg ho<|yG<|yF [(14,.bool (decide (i < (a0.length:Int))))]<|zM<|yL N ?_ ?_
 · intro hc1 N;refine zW<|yI<|yP<|yG<|jR (by kernel_rfl) (by kernel_rfl)<|eQ 2 [] [(17,vS p a0 c),(18,vI i)]<|bE N fun x hy N=>zBA rfl rfl h hy ?_;intro ad ccs hat hrep;obtain rfl:=hrep;refine zAz 0 hat [vI x] (vI x) rfl<|eQ 6 [] [(21,vS p1 b c1),(22,vI i)]<|bE N fun x1 hy1 N=>zBA rfl rfl h1 hy1 ?_;intro ad1 ccs1 hat1 hrep1;obtain rfl:=hrep1;refine zAz 0 hat1 [vI x1] (vI x1) rfl<|zCc [] [(25,.bool (x != x1))]<|zM<|yL N ?_ ?_
   · intro hc2 N;exact yF [(4,vF)]<|xG<|zZ<|zH<|zH<|hr _ _ _ _ (zC N).symm H ⟨_,_,(.tmp rfl ResV.nil),zR,⟨_,rfl,rfl,rfl⟩⟩
   intro hc2 N;exact zW<|zT<|zM<|zQ<|yC [] [(5,vI (W (i + 1)))]<|yY<|vE [(0,vS p a0 c),(1,vS p1 b c1),(5,vI (W (i + 1)))]<|ih (W (i + 1)) _ N H h h1 hg ho hx hr
 intro hc1 N;exact vW<|yT []<|hx _  (zC N).symm H
def dX (a0:(List Int)) (b:(List Int)):Option (Bool):=do
 if ((a0.length:Int) != (b.length:Int)) then
  pure false
 else
  match←jA a0 b 0 with
  | .ret r0=>pure r0
  | .done _ =>
   pure true
theorem zFO:∀ a0 b r,dX a0 b=some r→∀ {I:Imm}{p c p1 c1},(S4 I p a0 c)→(S4 I p1 b c1)→RT 222 [vS p a0 c,vS p1 b c1] I [] (zU  r):=by
 intro a0 b r N I p c p1 c1 h h1;unfold dX at N;refine zY (fn:=Tryz.f222) (c:=(bodyOf Tryz.f222)) Tryz.func222 rfl rfl ?_;rintro B - -;refine yF []<|yI<|yF [(10,.bool ((a0.length:Int) != (b.length:Int)))]<|zM<|yL N ?_ ?_
 · intro hc N;refine yF [(4,vF)]<|xG<|zH ?_;obtain rfl:=zC N;exact wN
 intro hc N;refine zW<|yI<|yF [(5,vI 0)]<|wO<|vE [(0,vS p a0 c),(1,vS p1 b c1),(5,vI 0)] ?_;obtain ⟨o0,ho0,hMl⟩:=zB N;refine zDQ a0 b 0 o0 ho0 iR h h1 (fun _ _ _ h=>h) (fun _ _ h=>h) ?_ ?_
 · intro I0  heq le;subst o0;refine zX<|vH [(4,vY)]<|zM<|yX ?_;obtain rfl:=zC hMl;exact wN
 intro r0 I9 hs9 m9 heq9 le9 hrs9;subst heq9;refine zZ<|zH ?_;obtain rfl:=zC hMl;exact xC hrs9
def gK (a0:zA) (b:zA):Option (Bool):=do
 let t4←(do
   if (a0.Const == b.Const) then
    let y←dX a0.Coefs b.Coefs
    pure (id y)
   else
    pure false
     : Option Bool)
 pure (id t4)
theorem zCX:∀ a0 b r,gK a0 b=some r→∀ {I:Imm}{p c p1 c1},(S4 I p a0.Coefs c)→(S4 I p1 b.Coefs c1)→RT 212 [vA (cAff a0 p c),vA (cAff b p1 c1)] I [] (zU  r):=by
 intro a0 b r N I p c p1 c1 h h1;unfold gK at N;refine zY (fn:=Tryz.f212) (c:=(bodyOf Tryz.f212)) Tryz.func212 rfl rfl ?_;rintro B - -;have H:=iS I;refine yK<|uD (cAff a0 p c) ?_;intro b1 hb;refine uD (cAff b p1 c1) ?_;intro b2 hb1;refine yC [] []<|zM<|yG ?_;obtain ⟨o0,ho0,hMc⟩:=zB N;refine yU (fun I' hs' m'=>∃ (t4:Bool),o0=t4∧I.le I'∧hs'=[]∧m'=[(4,.bool t4)]) ?_ ?_
 · have H:=iS I;refine zQ<|yD 6 [1,0] [(10,.bool (a0.Const == b.Const))] ?_;cases hc:(a0.Const == b.Const) with
   | true =>
    have hM0:=zP hc ho0
    try rw [hc]
    refine yD 10 [1,0] [(12,vS p a0.Coefs c),(14,vS p1 b.Coefs c1)] ?_;obtain ⟨y,hy,N⟩:=zB hM0;refine vJ (zFO a0.Coefs b.Coefs _ hy h h1) ?_;intro I01 le;have H:=H.trans le;exact yC [] [(4,.bool y)]<|xU zR<|yT [(4,.bool y)]<|zV (ct N H)
   | false =>
    have hM01:=zL hc ho0
    try rw [hc]
    exact yC [] [(4,vF)]<|xU zR<|yT [(4,vF)]<|zV (ct hM01 H)
 rintro I0 hs2 m2 ⟨t4,heq,le1,rfl,rfl⟩;subst o0;refine zM<|yX ?_;obtain rfl:=zC hMc;exact wN
def nF (a0:(List zA)) (b:(List zA)) (i:Int):Option (Out Unit (Bool)):=do
 if (decide (i < (a0.length:Int))) then
  let x←idx a0 i
  let x1←idx b i
  let y←gK x x1
  if (!y) then
   pure (.ret false)
  else
   nF a0 b (W (i + 1))
 else
  pure (.done ())
 partial_fixpoint
theorem zAt (a0:(List zA)) (b:(List zA)):∀ (i:Int) (o:Out Unit (Bool)),nF a0 b i=some o→∀ {B}{I0 I:Imm}{Q p c p1 c1},I0.le I→(S4 I p a0 c)→(S4 I p1 b c1)→NG Q→NO Q→(∀ (I':Imm) ,o=(.done ())→I0.le I'→T 27 B Q (.exit 0) I' [] [])→(∀ r I' hs' m',o=(.ret r)→I0.le I'→RS Tryz.prog Tryz.f194 B (zU  r) I' hs' m'→T 27 B Q .ret I' hs' m')→J Tryz.prog 27 B (nav (bodyOf Tryz.f194) [1,1,0,1,0]) Q I [] [(0,vS p a0 c),(1,vS p1 b c1),(5,vI i)]:=by
 refine nF.partial_correctness a0 b _ fun self ih i o N B I0 I Q p c p1 c1 H h h1 hg ho hx hr=>yZ hg ho<|yG<|yF [(14,.bool (decide (i < (a0.length:Int))))]<|zM<|yL N ?_ ?_
 · intro hc1 N;refine zW<|yI<|yP<|yG ?_;obtain ⟨x,hy,N⟩:=zB N;obtain ⟨x1,hy1,N⟩:=zB N;obtain ⟨y,hy2,N⟩:=zB N;refine wA [.p (vS p a0 c) [],.p (vI i) [],.x (fun I' v hx=>∃ ad p2 c2,v=.pointer (some ad)∧hx=[]∧(At I' ad (cAff x p2 c2))∧(S4 I' p2 x.Coefs c2)),.x (fun I' v hx=>∃ p21 c21,v=vA (cAff x p21 c21)∧hx=[]∧(S4 I' p21 x.Coefs c21)),.p (vS p1 b c1) [],.p (vI i) [],.x (fun I' v hx=>∃ ad1 p3 c3,v=.pointer (some ad1)∧hx=[]∧(At I' ad1 (cAff x1 p3 c3))∧(S4 I' p3 x1.Coefs c3)),.x (fun I' v hx=>∃ p31 c31,v=vA (cAff x1 p31 c31)∧hx=[]∧(S4 I' p31 x1.Coefs c31)),.q (.bool y),.p (.bool (!y)) []] [[],[],[(0,false),(1,false)],[(2,false)],[],[],[(4,false),(5,false)],[(6,false)],[(3,false),(7,false)],[(8,false)]] [] [] [(9,false)] zR ?_ ?_
   · refine Op<|Op<|Ox ?_<|Ox ?_<|Op<|Op<|Ox ?_<|Ox ?_<|Oq ?_<|Op<|On
     · intro I1 hf le1;refine yM [(17,vS p a0 c),(18,vI i)] ?_;have h:=h.mono le1;refine xS rfl rfl h hy ?_;intro ad ccs hat hrep;obtain ⟨p2,c2,rfl,h2⟩:=yN hrep;exact yO [] iR ⟨_,_,_,rfl,rfl,hat,h2⟩
     · intro I1 hf le1;refine zF ?_;rintro _ _ ⟨ad,p2,c2,rfl,rfl,hat,h2⟩;exact yM [(19,.pointer (some ad))]<|xM 0 hat (cAff x p2 c2) (vA (cAff x p2 c2)) rfl<|yO [] iR ⟨_,_,rfl,rfl,h2⟩
     · intro I1 hf le1;refine yM [(21,vS p1 b c1),(22,vI i)] ?_;have h1:=h1.mono le1;refine xS rfl rfl h1 hy1 ?_;intro ad1 ccs1 hat1 hrep1;obtain ⟨p3,c3,rfl,h3⟩:=yN hrep1;exact yO [] iR ⟨_,_,_,rfl,rfl,hat1,h3⟩
     · intro I1 hf le1;refine zF ?_;rintro _ _ ⟨ad1,p3,c3,rfl,rfl,hat1,h3⟩;exact yM [(23,.pointer (some ad1))]<|xM 0 hat1 (cAff x1 p3 c3) (vA (cAff x1 p3 c3)) rfl<|yO [] iR ⟨_,_,rfl,rfl,h3⟩
     intro I1 hf le1;refine zF ?_;rintro _ _ ⟨p21,c21,rfl,rfl,h21⟩;refine zF ?_;rintro _ _ ⟨p31,c31,rfl,rfl,h31⟩;refine yM [(20,vA (cAff x p21 c21)),(24,vA (cAff x1 p31 c31))] ?_;have H:=iS I1;refine vJ (zCX x x1 _ hy2 h21 h31) ?_;intro I0 le;have H:=H.trans le;exact yS H
   intro I01 le1;refine yM [(0,vS p a0 c),(1,vS p1 b c1),(5,vI i),(26,.bool (!y))] ?_;have h:=h.mono le1;have h1:=h1.mono le1;have H:=H.trans le1;refine yH rfl<|zM<|yL N ?_ ?_
   · intro hc2 N;exact yF [(4,vF)]<|xG<|zZ<|zH<|zH<|hr _ _ _ _ (zC N).symm H ⟨_,_,(.tmp rfl ResV.nil),zR,⟨_,rfl,rfl,rfl⟩⟩
   intro hc2 N;exact zW<|zT<|zM<|zQ<|yC [] [(5,vI (W (i + 1)))]<|yY<|vE [(0,vS p a0 c),(1,vS p1 b c1),(5,vI (W (i + 1)))]<|ih (W (i + 1)) _ N H h h1 hg ho hx hr
 intro hc1 N;exact vW<|yT []<|hx _  (zC N).symm H
def gL (a0:(List zA)) (b:(List zA)):Option (Bool):=do
 if ((a0.length:Int) != (b.length:Int)) then
  pure false
 else
  match←nF a0 b 0 with
  | .ret r0=>pure r0
  | .done _ =>
   pure true
theorem zCY:∀ a0 b r,gL a0 b=some r→∀ {I:Imm}{p c p1 c1},(S4 I p a0 c)→(S4 I p1 b c1)→RT 194 [vS p a0 c,vS p1 b c1] I [] (zU  r):=by
 intro a0 b r N I p c p1 c1 h h1;unfold gL at N;refine zY (fn:=Tryz.f194) (c:=(bodyOf Tryz.f194)) Tryz.func194 rfl rfl ?_;rintro B - -;refine yF []<|yI<|yF [(10,.bool ((a0.length:Int) != (b.length:Int)))]<|zM<|yL N ?_ ?_
 · intro hc N;refine yF [(4,vF)]<|xG<|zH ?_;obtain rfl:=zC N;exact wN
 intro hc N;refine zW<|yI<|yF [(5,vI 0)]<|wO<|vE [(0,vS p a0 c),(1,vS p1 b c1),(5,vI 0)] ?_;obtain ⟨o0,ho0,hMl⟩:=zB N;refine zAt a0 b 0 o0 ho0 iR h h1 (fun _ _ _ h=>h) (fun _ _ h=>h) ?_ ?_
 · intro I02  heq le2;subst o0;refine zX<|vH [(4,vY)]<|zM<|yX ?_;obtain rfl:=zC hMl;exact wN
 intro r0 I9 hs9 m9 heq9 le9 hrs9;subst heq9;refine zZ<|zH ?_;obtain rfl:=zC hMl;exact xC hrs9
def jD (a0:zJ) (b:zJ):Option (Bool):=do
 let t4←(do
   if (a0.Array.l == b.Array.l) then
    let y←gL a0.Subs b.Subs
    pure (id y)
   else
    pure false
     : Option Bool)
 pure (id t4)
theorem fH:∀ a0 b r,jD a0 b=some r→∀ {I:Imm}{p c p1 c1},(S4 I p a0.Subs c)→(S4 I p1 b.Subs c1)→RT 167 [vA (cAccess a0 p c),vA (cAccess b p1 c1)] I [] (zU  r):=by
 intro a0 b r N I p c p1 c1 h h1;unfold jD at N;refine zY (fn:=Tryz.f167) (c:=(bodyOf Tryz.f167)) Tryz.func167 rfl rfl ?_;rintro B - -;have H:=iS I;refine yK<|uD (cAccess a0 p c) ?_;intro b1 hb;refine uD (cAccess b p1 c1) ?_;intro b2 hb1;refine yC [] []<|zM<|yG ?_;obtain ⟨o0,ho0,hMc⟩:=zB N;refine yU (fun I' hs' m'=>∃ (t4:Bool),o0=t4∧I.le I'∧hs'=[]∧m'=[(4,.bool t4)]) ?_ ?_
 · have H:=iS I;refine zQ<|yD 6 [1,0] [(10,.bool (a0.Array.l == b.Array.l))] ?_;cases hc:(a0.Array.l == b.Array.l) with
   | true =>
    have hM0:=zP hc ho0
    try rw [hc]
    refine yD 10 [1,0] [(12,vS p a0.Subs c),(14,vS p1 b.Subs c1)] ?_;obtain ⟨y,hy,N⟩:=zB hM0;refine vJ (zCY a0.Subs b.Subs _ hy h h1) ?_;intro I01 le;have H:=H.trans le;exact yC [] [(4,.bool y)]<|xU zR<|yT [(4,.bool y)]<|zV (ct N H)
   | false =>
    have hM01:=zL hc ho0
    try rw [hc]
    exact yC [] [(4,vF)]<|xU zR<|yT [(4,vF)]<|zV (ct hM01 H)
 rintro I0 hs2 m2 ⟨t4,heq,le1,rfl,rfl⟩;subst o0;refine zM<|yX ?_;obtain rfl:=zC hMc;exact wN
mutual
def kY (e0:zG) (name:Str):Option (Bool):=do
 let t15←(do
   if (e0.Kind == 3) then
    pure (e0.Read.Array.l == name.l)
   else
    pure false
     : Option Bool)
 if t15 then
  pure true
 else
  match←gN (same e0) (same name) (same 0) with
  | .ret r0=>pure r0
  | .done _ =>
   pure false
 partial_fixpoint
def gN (e0:zG) (name:Str) (i:Int):Option (Out Unit (Bool)):=do
 if (decide (i < (e0.Kids.length:Int))) then
  let x←idx e0.Kids i
  let y←kY (same x) (same name)
  if y then
   pure (.ret true)
  else
   gN (same e0) (same name) (W (i + 1))
 else
  pure (.done ())
 partial_fixpoint
end
theorem zDv:(∀ (e0:zG) (name:Str) r,kY e0 name=some r→∀ {I:Imm}{p c p1 c1 p2 c2},(S4 I p e0.Index.Coefs c)→(S4 I p1 e0.Read.Subs c1)→(S4 I p2 e0.Kids c2)→RT 168 [vA (cExpr e0 p c p1 c1 p2 c2),vT name.l] I [] (zU  r))∧(∀ (e0:zG) (name:Str) (i:Int) o,gN e0 name i=some o→∀ {B}{I0 I:Imm}{Q p c p1 c1 p2 c2}{b:Nat},I0.le I→(S4 I p e0.Index.Coefs c)→(S4 I p1 e0.Read.Subs c1)→(S4 I p2 e0.Kids c2)→NG Q→NO Q→(∀ (I':Imm) ,o=(.done ())→I0.le I'→T 30 B Q (.exit 0) I' [] [])→(∀ r I' hs' m',o=(.ret r)→I0.le I'→RS Tryz.prog Tryz.f168 B (zU  r) I' hs' m'→T 30 B Q .ret I' hs' m')→J Tryz.prog 30 B (nav (bodyOf Tryz.f168) [1,1,0,1,0]) Q I [hB b (cExpr e0 p c p1 c1 p2 c2)] [(1,vT name.l),(2,vP b 0),(5,vI i)]):=by
  refine kY.mutual_partial_correctness _ _ ?_ ?_
  · intro F_spec_l12Uses_l1 ih_spec_l12Uses_l1 e0 name r N I p c p1 c1 p2 c2 h h1 h2;refine zY (fn:=Tryz.f168) (c:=(bodyOf Tryz.f168)) Tryz.func168 rfl rfl ?_;rintro B - -;have H:=iS I;refine yK<|uD (cExpr e0 p c p1 c1 p2 c2) ?_;intro b hb;refine yC [] []<|yI<|yG ?_;obtain ⟨o0,ho0,hMc⟩:=zB N;refine yU (fun I' hs' m'=>∃ (t15:Bool),o0=t15∧I.le I'∧hs'=[hB b (cExpr e0 p c p1 c1 p2 c2)]∧m'=[(1,vT name.l),(2,vP b 0),(15,.bool t15)]) ?_ ?_
    · have H:=iS I;refine zQ<|yD 4 [0] [(9,.bool (e0.Kind == 3))] ?_;cases hc:(e0.Kind == 3) with
      | true =>
       have hM0:=zP hc ho0
       try rw [hc]
       exact yC [0] [(15,.bool (e0.Read.Array.l == name.l))]<|yT [(1,vT name.l),(2,vP b 0),(15,.bool (e0.Read.Array.l == name.l))]<|zV (ct hM0 H)
      | false =>
       have hM01:=zL hc ho0
       try rw [hc]
       exact yC [] [(15,vF)]<|yT [(1,vT name.l),(2,vP b 0),(15,vF)]<|zV (ct hM01 H)
    rintro I0 hs2 m2 ⟨t15,heq,le,rfl,rfl⟩;subst o0;have h:=h.mono le;have h1:=h1.mono le;have h2:=h2.mono le;refine zM<|yL hMc ?_ ?_
    · intro hc1 N;refine yF [(4,vY)]<|xG<|zH ?_;obtain rfl:=zC N;exact wN
    intro hc1 N;refine zW<|yI<|yF [(5,vI 0)]<|wO<|vE [(1,vT name.l),(2,vP b 0),(5,vI 0)] ?_;obtain ⟨o01,ho01,hMl⟩:=zB N;refine ih_spec_l12Uses_l1 e0 name 0 o01 ho01 iR h h1 h2 (fun _ _ _ h=>h) (fun _ _ h=>h) ?_ ?_
    · intro I02  heq1 le2;subst o01;refine zX<|vH [(4,vF)]<|zM<|yX ?_;obtain rfl:=zC hMl;exact wN
    intro r0 I9 hs9 m9 heq9 le9 hrs9;subst heq9;refine zZ<|zH ?_;obtain rfl:=zC hMl;exact xC hrs9
  intro F_spec_l12Uses F_spec_l12Uses_l1 ih_spec_l12Uses ih_spec_l12Uses_l1 e0 name i o N B I0 I Q p c p1 c1 p2 c2 b H h h1 h2 hg ho hx hr;refine yZ hg ho<|yG<|yK<|yC [0] [(20,.bool (decide (i < (e0.Kids.length:Int))))]<|zM<|yL N ?_ ?_
  · intro hc2 N;refine zW<|yI<|yP<|yK<|yD 3 [0] [(24,vS p2 e0.Kids c2),(25,vI i)]<|bE N fun x hy N=>xS rfl rfl h2 hy ?_;intro ad ccs hat hrep;obtain ⟨p3,c3,p4,c4,p5,c5,rfl,h3,h4,h5⟩:=xV hrep;refine xM 0 hat (cExpr x p3 c3 p4 c4 p5 c5) (vA (cExpr x p3 c3 p4 c4 p5 c5)) rfl<|yD 6 [] [(28,vT name.l)]<|bE N fun y hy1 N=>xT (ih_spec_l12Uses x name _ hy1 h3 h4 h5) ?_;rintro I01 hs2 v2 k2 le1 - ⟨v03,rfl,rfl,rfl⟩ -;have h:=h.mono le1;have h1:=h1.mono le1;have h2:=h2.mono le1;have H:=H.trans le1;refine yH rfl<|zM<|yL N ?_ ?_
    · intro hc3 N;exact yF [(4,vY)]<|xG<|zZ<|zH<|zH<|hr _ _ _ _ (zC N).symm H ⟨_,_,(.tmp rfl ResV.nil),zR,⟨_,rfl,rfl,rfl⟩⟩
    intro hc3 N;exact zW<|zT<|zM<|zQ<|yC [] [(5,vI (W (i + 1)))]<|yY<|vE [(1,vT name.l),(2,vP b 0),(5,vI (W (i + 1)))]<|ih_spec_l12Uses_l1 e0 name (W (i + 1)) _ N H h h1 h2 hg ho hx hr
  intro hc2 N;exact vW<|xU zR<|yT []<|hx _  (zC N).symm H
theorem zE2:∀ e0 name r,kY e0 name=some r→∀ {I:Imm}{p c p1 c1 p2 c2},(S4 I p e0.Index.Coefs c)→(S4 I p1 e0.Read.Subs c1)→(S4 I p2 e0.Kids c2)→RT 168 [vA (cExpr e0 p c p1 c1 p2 c2),vT name.l] I [] (zU  r):=zDv.1
def zAb (s:zI):Option (Bool):=do
 let t14←(do
   if (s.Value.Kind != 4) then
    pure (s.Value.Kind != 5)
   else
    pure false
     : Option Bool)
 if t14 then
  pure false
 else
  let x←idx s.Value.Kids 0
  let t2←(do
    if (x.Kind == 3) then
     let y←jD x.Read s.Write
     if y then
      let x1←idx s.Value.Kids 1
      let y1←kY x1 s.Write.Array
      pure (!y1)
     else
      pure false
    else
     pure false
      : Option Bool)
  pure (id t2)
theorem zFj:∀ s r,zAb s=some r→∀ {I:Imm}{p c p1 c1 p2 c2 p3 c3},(S4 I p s.Write.Subs c)→(S4 I p1 s.Value.Index.Coefs c1)→(S4 I p2 s.Value.Read.Subs c2)→(S4 I p3 s.Value.Kids c3)→RT 126 [vA (cStmt s p c p1 c1 p2 c2 p3 c3)] I [] (zU  r):=by
 intro s r N I p c p1 c1 p2 c2 p3 c3 h h1 h2 h3;unfold zAb at N;refine zY (fn:=Tryz.f126) (c:=(bodyOf Tryz.f126)) Tryz.func126 rfl rfl ?_;rintro B - -;have H:=iS I;refine yK<|uD (cStmt s p c p1 c1 p2 c2 p3 c3) ?_;intro b hb;refine yC [] []<|xD<|yD 2 [0] [(6,vA (cExpr s.Value p1 c1 p2 c2 p3 c3))]<|wR zExpr ?_;intro b1 hb1;refine xE 0 (cExpr s.Value p1 c1 p2 c2 p3 c3) [hB b1 (cExpr s.Value p1 c1 p2 c2 p3 c3),hB b (cStmt s p c p1 c1 p2 c2 p3 c3)] rfl rfl rfl rfl<|yH rfl<|yI<|yG ?_;obtain ⟨o0,ho0,hMc⟩:=zB N;refine yU (fun I' hs' m'=>∃ (t14:Bool),o0=t14∧I.le I'∧hs'=[hB b1 (cExpr s.Value p1 c1 p2 c2 p3 c3),hB b (cStmt s p c p1 c1 p2 c2 p3 c3)]∧m'=[(1,vP b 0),(3,vP b1 0),(14,.bool t14)]) ?_ ?_
 · have H:=iS I;refine zQ<|yD 4 [0] [(10,.bool (s.Value.Kind != 4))] ?_;cases hc:(s.Value.Kind != 4) with
   | true =>
    have hM0:=zP hc ho0
    try rw [hc]
    exact yC [0] [(14,.bool (s.Value.Kind != 5))]<|yT [(1,vP b 0),(3,vP b1 0),(14,.bool (s.Value.Kind != 5))]<|zV (ct hM0 H)
   | false =>
    have hM01:=zL hc ho0
    try rw [hc]
    exact yC [] [(14,vF)]<|yT [(1,vP b 0),(3,vP b1 0),(14,vF)]<|zV (ct hM01 H)
 rintro I0 hs2 m2 ⟨t14,heq,le,rfl,rfl⟩;subst o0;have h3:=h3.mono le;have h:=h.mono le;have H:=H.trans le;refine zM<|yL hMc ?_ ?_
 · intro hc1 N;refine yF [(2,vF)]<|xG<|zH ?_;obtain rfl:=zC N;exact wN
 intro hc1 N;refine zW<|xD<|yD 2 [0] [(16,vS p3 s.Value.Kids c3)]<|bE N fun x hy N=>xS rfl rfl h3 hy ?_;intro ad ccs hat hrep;obtain ⟨p4,c4,p5,c5,p6,c6,rfl,h4,h5,h6⟩:=xV hrep;refine xM 0 hat (cExpr x p4 c4 p5 c5 p6 c6) (vA (cExpr x p4 c4 p5 c5 p6 c6)) rfl<|wR zExpr ?_;intro b2 hb2;refine xE 0 (cExpr x p4 c4 p5 c5 p6 c6) [hB b2 (cExpr x p4 c4 p5 c5 p6 c6),hB b1 (cExpr s.Value p1 c1 p2 c2 p3 c3),hB b (cStmt s p c p1 c1 p2 c2 p3 c3)] rfl rfl rfl rfl<|yH rfl<|zM<|yG ?_;obtain ⟨o01,ho01,hMc1⟩:=zB N;refine yU (fun I' hs' m'=>∃ (t2:Bool),o01=t2∧I0.le I'∧hs'=[]∧m'=[(2,.bool t2)]) ?_ ?_
 · have H:=iS I0;cases hc2:(x.Kind == 3) with
   | true =>
    have hM02:=zP hc2 ho01;obtain ⟨y,hy1,N⟩:=zB hM02;cases hc3:y with
    | true =>
     have hM03:=zP hc3 N;obtain ⟨x1,hy2,N⟩:=zB hM03;obtain ⟨y1,hy3,N⟩:=zB N;refine wA [.p (vP b2 0) [],.p (vI x.Kind) [0],.q vY,.q vY,.p (vP b2 4) [],.p (vA (cAccess x.Read p5 c5)) [0],.p (vP b 0) [],.p (vA (cAccess s.Write p c)) [2],.q vY,.q vY,.q vY,.p (vP b1 6) [],.p (vS p3 s.Value.Kids c3) [1],.x (fun I' v hx=>∃ ad1 p7 c7 p8 c8 p9 c9,v=.pointer (some ad1)∧hx=[]∧(At I' ad1 (cExpr x1 p7 c7 p8 c8 p9 c9))∧(S4 I' p7 x1.Index.Coefs c7)∧(S4 I' p8 x1.Read.Subs c8)∧(S4 I' p9 x1.Kids c9)),.x (fun I' v hx=>∃ p71 c71 p81 c81 p91 c91,v=vA (cExpr x1 p71 c71 p81 c81 p91 c91)∧hx=[]∧(S4 I' p71 x1.Index.Coefs c71)∧(S4 I' p81 x1.Read.Subs c81)∧(S4 I' p91 x1.Kids c91)),.p (vP b 0) [],.p (vP b 0) [],.p (vT s.Write.Array.l) [2],.q (.bool y1),.p (.bool (!y1)) [],.p (.bool (!y1)) []] [[],[(0,false)],[(1,false)],[(2,false)],[(3,false)],[(3,false),(4,false)],[(3,false)],[(3,false),(6,false)],[(3,false),(5,false),(7,false)],[(3,false),(8,false)],[(9,false)],[(10,false)],[(10,false),(11,false)],[(10,false),(12,false)],[(10,false),(13,false)],[(10,false)],[(10,false),(15,false)],[(10,false),(16,false)],[(10,false),(14,false),(17,false)],[(10,false),(18,false)],[(10,false),(19,false)]] [hB b2 (cExpr x p4 c4 p5 c5 p6 c6),hB b1 (cExpr s.Value p1 c1 p2 c2 p3 c3),hB b (cStmt s p c p1 c1 p2 c2 p3 c3)] [] [(20,false)] (yB [0,1,2]) ?_ ?_
     · refine Op<|Op<|Oq ?_<|Oq ?_<|Op<|Op<|Op<|Op<|Oq ?_<|Oq ?_<|Oq ?_<|Op<|Op<|Ox ?_<|Ox ?_<|Op<|Op<|Op<|Oq ?_<|Op<|Op<|On
       · intro I1 hf le1;refine yM [(20,vI x.Kind)]<|uS 3 [(21,.bool (x.Kind == 3))] ?_;rw [hc2];exact yS iR
       · intro I1 hf le1;exact yM [(21,vY)]<|uS 4 [(22,vY)]<|yS iR
       · intro I1 hf le1;refine yM [(22,vY),(24,vA (cAccess x.Read p5 c5)),(26,vA (cAccess s.Write p c))] ?_;have H:=iS I1;have h5:=h5.mono le1;have h:=h.mono le1;refine vJ (fH x.Read s.Write _ hy1 h5 h) ?_;intro I02 le1;have H:=H.trans le1;rw [hc3];exact yS H
       · intro I1 hf le1;exact yM [(22,vY),(27,vY)]<|uS 10 [(28,vY)]<|yS iR
       · intro I1 hf le1;exact yM [(28,vY)]<|uS 11 [(29,vY)]<|yS iR
       · intro I1 hf le1;refine yM [(29,vY),(31,vS p3 s.Value.Kids c3)] ?_;have h3:=h3.mono le1;refine xS rfl rfl h3 hy2 ?_;intro ad1 ccs1 hat1 hrep1;obtain ⟨p7,c7,p8,c8,p9,c9,rfl,h8,h9,h10⟩:=xV hrep1;exact yO [] iR ⟨_,_,_,_,_,_,_,rfl,rfl,hat1,h8,h9,h10⟩
       · intro I1 hf le1;refine zF ?_;rintro _ _ ⟨rfl,rfl⟩;refine zF ?_;rintro _ _ ⟨ad1,p7,c7,p8,c8,p9,c9,rfl,rfl,hat1,h8,h9,h10⟩;exact yM [(29,vY),(32,.pointer (some ad1))]<|xM 0 hat1 (cExpr x1 p7 c7 p8 c8 p9 c9) (vA (cExpr x1 p7 c7 p8 c8 p9 c9)) rfl<|yO [] iR ⟨_,_,_,_,_,_,rfl,rfl,h8,h9,h10⟩
       intro I1 hf le1;refine zF ?_;rintro _ _ ⟨rfl,rfl⟩;refine zF ?_;rintro _ _ ⟨p71,c71,p81,c81,p91,c91,rfl,rfl,h81,h91,h101⟩;refine yM [(29,vY),(33,vA (cExpr x1 p71 c71 p81 c81 p91 c91)),(36,vT s.Write.Array.l)] ?_;have H:=iS I1;refine vJ (zE2 x1 s.Write.Array _ hy3 h81 h91 h101) ?_;intro I03 le2;have H:=H.trans le2;exact yS H
     intro I04 le3;refine yM [(39,.bool (!y1))] ?_;have H:=H.trans le3;exact yC [] [(2,.bool (!y1))]<|xU zR<|yT [(2,.bool (!y1))]<|zV (ct N H)
    | false =>
     have hM04:=zL hc3 N;refine wA [.p (vP b2 0) [],.p (vI x.Kind) [0],.q vY,.q vY,.p (vP b2 4) [],.p (vA (cAccess x.Read p5 c5)) [0],.p (vP b 0) [],.p (vA (cAccess s.Write p c)) [2],.q vF,.q vF,.q vF,.p undef [],.p undef [],.p undef [],.p undef [],.p undef [],.p undef [],.p undef [],.p undef [],.p undef [],.p vF []] [[],[(0,false)],[(1,false)],[(2,false)],[(3,false)],[(3,false),(4,false)],[(3,false)],[(3,false),(6,false)],[(3,false),(5,false),(7,false)],[(3,false),(8,false)],[(9,false)],[(10,false)],[(10,false),(11,false)],[(10,false),(12,false)],[(10,false),(13,false)],[(10,false)],[(10,false),(15,false)],[(10,false),(16,false)],[(10,false),(14,false),(17,false)],[(10,false),(18,false)],[(10,false),(19,false)]] [hB b2 (cExpr x p4 c4 p5 c5 p6 c6),hB b1 (cExpr s.Value p1 c1 p2 c2 p3 c3),hB b (cStmt s p c p1 c1 p2 c2 p3 c3)] [] [(20,false)] (yB [0,1,2]) ?_ ?_
     · refine Op<|Op<|Oq ?_<|Oq ?_<|Op<|Op<|Op<|Op<|Oq ?_<|Oq ?_<|Oq ?_<|Op<|Op<|Op<|Op<|Op<|Op<|Op<|Op<|Op<|Op<|On
       · intro I1 hf le1;refine yM [(20,vI x.Kind)]<|uS 3 [(21,.bool (x.Kind == 3))] ?_;rw [hc2];exact yS iR
       · intro I1 hf le1;exact yM [(21,vY)]<|uS 4 [(22,vY)]<|yS iR
       · intro I1 hf le1;refine yM [(22,vY),(24,vA (cAccess x.Read p5 c5)),(26,vA (cAccess s.Write p c))] ?_;have H:=iS I1;have h5:=h5.mono le1;have h:=h.mono le1;refine vJ (fH x.Read s.Write _ hy1 h5 h) ?_;intro I02 le1;have H:=H.trans le1;rw [hc3];exact yS H
       · intro I1 hf le1;exact yM [(22,vY),(27,vF)]<|uS 10 [(28,vF)]<|yS iR
       intro I1 hf le1;exact yM [(28,vF)]<|uS 11 [(29,vF)]<|yS iR
     intro I05 le4;refine yM [(39,vF)] ?_;have H:=H.trans le4;exact yC [] [(2,vF)]<|xU zR<|yT [(2,vF)]<|zV (ct hM04 H)
   | false =>
    have hM05:=zL hc2 ho01;refine wA [.p (vP b2 0) [],.p (vI x.Kind) [0],.q vF,.q vF,.p undef [],.p undef [],.p undef [],.p undef [],.p undef [],.p vF [],.p vF [],.p undef [],.p undef [],.p undef [],.p undef [],.p undef [],.p undef [],.p undef [],.p undef [],.p undef [],.p vF []] [[],[(0,false)],[(1,false)],[(2,false)],[(3,false)],[(3,false),(4,false)],[(3,false)],[(3,false),(6,false)],[(3,false),(5,false),(7,false)],[(3,false),(8,false)],[(9,false)],[(10,false)],[(10,false),(11,false)],[(10,false),(12,false)],[(10,false),(13,false)],[(10,false)],[(10,false),(15,false)],[(10,false),(16,false)],[(10,false),(14,false),(17,false)],[(10,false),(18,false)],[(10,false),(19,false)]] [hB b2 (cExpr x p4 c4 p5 c5 p6 c6),hB b1 (cExpr s.Value p1 c1 p2 c2 p3 c3),hB b (cStmt s p c p1 c1 p2 c2 p3 c3)] [] [(20,false)] (yB [0,1,2]) ?_ ?_
    · refine Op<|Op<|Oq ?_<|Oq ?_<|Op<|Op<|Op<|Op<|Op<|Op<|Op<|Op<|Op<|Op<|Op<|Op<|Op<|Op<|Op<|Op<|Op<|On
      · intro I1 hf le1;refine yM [(20,vI x.Kind)]<|uS 3 [(21,.bool (x.Kind == 3))] ?_;rw [hc2];exact yS iR
      intro I1 hf le1;exact yM [(21,vF)]<|uS 4 [(22,vF)]<|yS iR
    intro I06 le5;refine yM [(39,vF)] ?_;have H:=H.trans le5;exact yC [] [(2,vF)]<|xU zR<|yT [(2,vF)]<|zV (ct hM05 H)
 rintro I01 hs2 m2 ⟨t2,heq1,le6,rfl,rfl⟩;subst o01;refine zM<|yX ?_;obtain rfl:=zC hMc1;exact wN
def mS (p:zK) (y:(List zS)) (out:List Str) (i:Int):Option (List Str):=do
 if (decide (i < (y.length:Int))) then
  let x←idx y i
  let x1←idx p.Parts x.Part
  let x2←idx y i
  let x3←idx x1.Body x2.Stmt
  let y1←zAb x3
  let name←(do
    if y1 then
     pure x3.Write.Array
    else
     pure (⟨[]⟩:Str)
      : Option Str)
  let out2←app 16 out ([name]:List Str)
  mS p y out2 (W (i + 1))
 else
  pure (id out)
 partial_fixpoint
theorem zBl (p:zK) (y:(List zS)):∀ (out:List Str) (i:Int) (o:List Str),mS p y out i=some o→∀ {B}{I0 I:Imm}{Q p1 c p2 c1}{b:Nat}{p3 c2 p4 c3 cs},I0.le I→(S4 I p3 y c2)→(S4 I p1 p.Arrays c)→(S4 I p2 p.Parts c1)→(RL I cs out)→NG Q→NO Q→(∀ (I':Imm) (out1:List Str) (p5:Option Addr) (c4:Nat) (cs1:List Value),o=out1→I0.le I'→(RL I' cs1 out1)→T 44 B Q (.exit 0) I' [hO Str (vS p5 out1 c4) cs1] [(3,vS p5 out1 c4)])→J Tryz.prog 44 B (nav (bodyOf Tryz.f70) [1,1,1,0,1,0]) Q I [hO Str (vS p4 out c3) cs,hB b (cProg p p1 c p2 c1)] [(1,vP b 0),(3,vS p4 out c3),(4,vS p3 y c2),(5,vI i)]:=by
 refine mS.partial_correctness p y _ fun self ih out i o N B I0 I Q p1 c p2 c1 b p3 c2 p4 c3 cs H h3 h h1 h4 hg ho hx=>yZ hg ho<|yG<|yF [(14,.bool (decide (i < (y.length:Int))))]<|zM<|yL N ?_ ?_
 · intro hc N;refine zW<|yI<|yP<|yG ?_;obtain ⟨x,hy1,N⟩:=zB N;obtain ⟨x1,hy2,N⟩:=zB N;obtain ⟨x2,hy3,N⟩:=zB N;obtain ⟨x3,hy4,N⟩:=zB N;refine wA [.p (vP b 1) [],.p (vS p2 p.Parts c1) [1],.p (vS p3 y c2) [],.p (vI i) [],.x (fun I' v hx=>∃ ad p6 c5,v=.pointer (some ad)∧hx=[]∧(At I' ad (cInst x p6 c5))∧(S4 I' p6 x.Point c5)),.x (fun I' v hx=>∃ ad1 p61 c51,v=.pointer (some ad1)∧hx=[]∧(At I' ad1 (cInst x p61 c51))∧(S4 I' p61 x.Point c51)),.q (vI x.Part),.x (fun I' v hx=>∃ ad2 p7 c6 p8 c7,v=.pointer (some ad2)∧hx=[]∧(At I' ad2 (cPart x1 p7 c6 p8 c7))∧(S4 I' p7 x1.Nest c6)∧(S4 I' p8 x1.Body c7)),.x (fun I' v hx=>∃ ad21 p71 c61 p81 c71,v=.pointer (some (ad21.add 1))∧hx=[]∧(At I' ad21 (cPart x1 p71 c61 p81 c71))∧(S4 I' p71 x1.Nest c61)∧(S4 I' p81 x1.Body c71)),.x (fun I' v hx=>∃ p811 c711,v=vS p811 x1.Body c711∧hx=[]∧(S4 I' p811 x1.Body c711)),.p (vS p3 y c2) [],.p (vI i) [],.x (fun I' v hx=>∃ ad3 p9 c8,v=.pointer (some ad3)∧hx=[]∧(At I' ad3 (cInst x2 p9 c8))∧(S4 I' p9 x2.Point c8)),.x (fun I' v hx=>∃ ad31 p91 c81,v=.pointer (some (ad31.add 1))∧hx=[]∧(At I' ad31 (cInst x2 p91 c81))∧(S4 I' p91 x2.Point c81)),.q (vI x2.Stmt),.x (fun I' v hx=>∃ ad4 p10 c9 p11 c10 p12 c11 p13 c12,v=.pointer (some ad4)∧hx=[]∧(At I' ad4 (cStmt x3 p10 c9 p11 c10 p12 c11 p13 c12))∧(S4 I' p10 x3.Write.Subs c9)∧(S4 I' p11 x3.Value.Index.Coefs c10)∧(S4 I' p12 x3.Value.Read.Subs c11)∧(S4 I' p13 x3.Value.Kids c12)),.x (fun I' v hx=>∃ p101 c91 p111 c101 p121 c111 p131 c121,v=vA (cStmt x3 p101 c91 p111 c101 p121 c111 p131 c121)∧hx=[]∧(S4 I' p101 x3.Write.Subs c91)∧(S4 I' p111 x3.Value.Index.Coefs c101)∧(S4 I' p121 x3.Value.Read.Subs c111)∧(S4 I' p131 x3.Value.Kids c121)),.x (fun I' v hx=>∃ b2,v=vP b2 0∧hx=[hB b2 [vT ([]),z0,vI 0,vI 0,z0,vI 0,vT ([]),z0,z0]])] [[],[(0,false)],[],[],[(2,false),(3,false)],[(4,false)],[(5,false)],[(1,false),(6,false)],[(7,false)],[(8,false)],[],[],[(10,false),(11,false)],[(12,false)],[(13,false)],[(9,false),(14,false)],[(15,false)],[]] [hO Str (vS p4 out c3) cs,hB b (cProg p p1 c p2 c1)] [] [(16,false),(17,true)] (yB [0,1]) ?_ ?_
   · refine Op<|Op<|Op<|Op<|Ox ?_<|Ox ?_<|Oq ?_<|Ox ?_<|Ox ?_<|Ox ?_<|Op<|Op<|Ox ?_<|Ox ?_<|Oq ?_<|Ox ?_<|Ox ?_<|Ox ?_<|On
     · intro I1 hf le1;refine yM [(19,vS p3 y c2),(20,vI i)] ?_;have h3:=h3.mono le1;refine xS rfl rfl h3 hy1 ?_;intro ad ccs hat hrep;obtain ⟨p6,c5,rfl,h6⟩:=oG hrep;exact yO [] iR ⟨_,_,_,rfl,rfl,hat,h6⟩
     · intro I1 hf le1;refine zF ?_;rintro _ _ ⟨ad,p6,c5,rfl,rfl,hat,h6⟩;exact yM [(21,.pointer (some ad))]<|uS 6 [(22,.pointer (some ad))]<|yO [] iR ⟨_,_,_,rfl,rfl,hat,h6⟩
     · intro I1 hf le1;refine zF ?_;rintro _ _ ⟨ad1,p61,c51,rfl,rfl,hat1,h61⟩;exact yM [(22,.pointer (some ad1))]<|xM 0 hat1 [vI x.Part] (vI x.Part) rfl<|yS iR
     · intro I1 hf le1;refine yM [(18,vS p2 p.Parts c1),(23,vI x.Part)] ?_;have h1:=h1.mono le1;refine xS rfl rfl h1 hy2 ?_;intro ad2 ccs1 hat2 hrep1;obtain ⟨p7,c6,p8,c7,rfl,h7,h8⟩:=wT hrep1;exact yO [] iR ⟨_,_,_,_,_,rfl,rfl,hat2,h7,h8⟩
     · intro I1 hf le1;refine zF ?_;rintro _ _ ⟨ad2,p7,c6,p8,c7,rfl,rfl,hat2,h7,h8⟩;exact yM [(24,.pointer (some ad2))]<|uS 9 [(25,.pointer (some (ad2.add 1)))]<|yO [] iR ⟨_,_,_,_,_,rfl,rfl,hat2,h7,h8⟩
     · intro I1 hf le1;refine zF ?_;rintro _ _ ⟨ad21,p71,c61,p81,c71,rfl,rfl,hat21,h71,h81⟩;exact yM [(25,.pointer (some (ad21.add 1)))]<|xM 1 hat21 [vS p81 x1.Body c71] (vS p81 x1.Body c71) rfl<|yO [] iR ⟨_,_,rfl,rfl,h81⟩
     · intro I1 hf le1;refine yM [(27,vS p3 y c2),(28,vI i)] ?_;have h3:=h3.mono le1;refine xS rfl rfl h3 hy3 ?_;intro ad3 ccs2 hat3 hrep2;obtain ⟨p9,c8,rfl,h9⟩:=oG hrep2;exact yO [] iR ⟨_,_,_,rfl,rfl,hat3,h9⟩
     · intro I1 hf le1;refine zF ?_;rintro _ _ ⟨ad3,p9,c8,rfl,rfl,hat3,h9⟩;exact yM [(29,.pointer (some ad3))]<|uS 14 [(30,.pointer (some (ad3.add 1)))]<|yO [] iR ⟨_,_,_,rfl,rfl,hat3,h9⟩
     · intro I1 hf le1;refine zF ?_;rintro _ _ ⟨ad31,p91,c81,rfl,rfl,hat31,h91⟩;exact yM [(30,.pointer (some (ad31.add 1)))]<|xM 1 hat31 [vI x2.Stmt] (vI x2.Stmt) rfl<|yS iR
     · intro I1 hf le1;refine zF ?_;rintro _ _ ⟨p811,c711,rfl,rfl,h811⟩;refine yM [(26,vS p811 x1.Body c711),(31,vI x2.Stmt)]<|xS rfl rfl h811 hy4 ?_;intro ad4 ccs3 hat4 hrep3;obtain ⟨p10,c9,p11,c10,p12,c11,p13,c12,rfl,h10,h11,h12,h13⟩:=tQ hrep3;exact yO [] iR ⟨_,_,_,_,_,_,_,_,_,rfl,rfl,hat4,h10,h11,h12,h13⟩
     · intro I1 hf le1;refine zF ?_;rintro _ _ ⟨ad4,p10,c9,p11,c10,p12,c11,p13,c12,rfl,rfl,hat4,h10,h11,h12,h13⟩;exact yM [(32,.pointer (some ad4))]<|xM 0 hat4 (cStmt x3 p10 c9 p11 c10 p12 c11 p13 c12) (vA (cStmt x3 p10 c9 p11 c10 p12 c11 p13 c12)) rfl<|yO [] iR ⟨_,_,_,_,_,_,_,_,rfl,rfl,h10,h11,h12,h13⟩
     intro I1 hf le1;refine yM []<|wR [vT ([]),z0,vI 0,vI 0,z0,vI 0,vT ([]),z0,z0] ?_;intro b2 hb2;exact yO [hB b2 [vT ([]),z0,vI 0,vI 0,z0,vI 0,vT ([]),z0,z0]] iR ⟨_,rfl,rfl⟩
   intro I01 le1;refine zF ?_;rintro _ _ ⟨p101,c91,p111,c101,p121,c111,p131,c121,rfl,rfl,h101,h111,h121,h131⟩;refine zF ?_;rintro _ _ ⟨b2,rfl,rfl⟩;refine yM [(1,vP b 0),(3,vS p4 out c3),(4,vS p3 y c2),(5,vI i),(6,vP b2 0),(33,vA (cStmt x3 p101 c91 p111 c101 p121 c111 p131 c121))] ?_;have h4:=iM le1 h4;have h3:=h3.mono le1;have h:=h.mono le1;have h1:=h1.mono le1;have H:=H.trans le1;refine xE 0 (cStmt x3 p101 c91 p111 c101 p121 c111 p131 c121) [hB b2 (cStmt x3 p101 c91 p111 c101 p121 c111 p131 c121),hO Str (vS p4 out c3) cs,hB b (cProg p p1 c p2 c1)] rfl rfl rfl rfl<|yH rfl<|vH [(7,vT ([]))]<|yI<|yK<|yD 1 [0] [(34,vA (cStmt x3 p101 c91 p111 c101 p121 c111 p131 c121))]<|bE N fun y1 hy5 N=>vJ (zFj x3 _ hy5 h101 h111 h121 h131) ?_;intro I02 le2;have h4:=iM le2 h4;have h3:=h3.mono le2;have h:=h.mono le2;have h1:=h1.mono le2;have H:=H.trans le2;refine yH rfl<|zM ?_;obtain ⟨o0,ho0,hMc⟩:=zB N;refine yU (fun I' hs' m'=>∃ (name:Str),o0=name∧I02.le I'∧hs'=[hO Str (vS p4 out c3) cs,hB b (cProg p p1 c p2 c1)]∧m'=[(1,vP b 0),(3,vS p4 out c3),(4,vS p3 y c2),(5,vI i),(7,vT name.l)]) ?_ ?_
   · have H:=iS I02;refine yL ho0 ?_ ?_
     · intro hc1 N;exact zQ<|yC [0] [(7,vT x3.Write.Array.l)]<|xU (yA [1,2] rfl (by decide))<|yT [(1,vP b 0),(3,vS p4 out c3),(4,vS p3 y c2),(5,vI i),(7,vT x3.Write.Array.l)]<|zV (ct N H)
     intro hc1 N;exact zW<|xU (yA [1,2] rfl (by decide))<|yT [(1,vP b 0),(3,vS p4 out c3),(4,vS p3 y c2),(5,vI i),(7,vT ([]))]<|zV (ct N H)
   rintro I03 hs2 m2 ⟨name,heq,le3,rfl,rfl⟩;subst o0;have h4:=iM le3 h4;have h3:=h3.mono le3;have h:=h.mono le3;have h1:=h1.mono le3;have H:=H.trans le3;refine zM<|zQ<|yD 2 [] [(39,vS p4 out c3),(40,vT name.l)]<|xY [vT name.l] Str ?_;intro b3 hb3;have h15:RL I03 [vT name.l] ([name]:List Str):=⟨[vT name.l],_,rfl,rfl,rfl,rfl⟩;obtain ⟨out2,hy6,N⟩:=zB hMc;exact pG 9 1 1 rfl rfl rfl h4 (.inr ⟨0,rfl⟩) h15 hy6 fun p14 c13 cs2 h16=>sU (yB [1,2] (hs':=[hO Str (vS p14 out2 c13) cs2,hB b (cProg p p1 c p2 c1)]))<|yC [] [(3,vS p14 out2 c13)]<|zT<|zM<|zQ<|yC [] [(5,vI (W (i + 1)))]<|yY<|vE [(1,vP b 0),(3,vS p14 out2 c13),(4,vS p3 y c2),(5,vI (W (i + 1)))]<|ih out2 (W (i + 1)) _ N H h3 h h1 h16 hg ho hx
 intro hc N;exact vW<|xU (yA [0] rfl (by decide))<|yT [(3,vS p4 out c3)]<|hx _ _ _ _ _ (zC N).symm H h4
def fO (p:zK):Option ((List Str)):=do
 let y←tA p
 let out1←mS p y ([]:List Str) 0
 pure (id out1)
theorem zDw:∀ p r,fO p=some r→∀ {I:Imm}{p1 c p2 c1},(S4 I p1 p.Arrays c)→(S4 I p2 p.Parts c1)→RT 70 [vA (cProg p p1 c p2 c1)] I [] (gT  r):=by
 intro p r N I p1 c p2 c1 h h1;unfold fO at N;refine zY (fn:=Tryz.f70) (c:=(bodyOf Tryz.f70)) Tryz.func70 rfl rfl ?_;rintro B - -;refine yK<|uD (cProg p p1 c p2 c1) ?_;intro b hb;refine yC [] []<|xD<|xY [] Str ?_;intro b1 hb1;have h2:RL I [] ([]:List Str):=rfl;refine yC [] [(3,vS (some ⟨b1,0,none⟩) ([]:List Str) 0)]<|xD<|yD 1 [1] [(9,vA (cProg p p1 c p2 c1))]<|bE N fun y hy N=>xT (fS p _ hy h h1) ?_;rintro I0 hs2 v2 k2 le - ⟨v0,rfl,rfl,h3⟩ -;have h2:=iM le h2;have h:=h.mono le;have h1:=h1.mono le;obtain ⟨p3,c2,rfl⟩:=h3.form;refine yC [] [(4,vS p3 y c2)]<|yI<|yF [(5,vI 0)]<|wO<|vE [(1,vP b 0),(3,vS (some ⟨b1,0,none⟩) ([]:List Str) 0),(4,vS p3 y c2),(5,vI 0)] ?_;obtain ⟨o01,ho01,hMl⟩:=zB N;refine zBl p y ([]:List Str) 0 o01 ho01 iR h3 h h1 h2 (fun _ _ _ h=>h) (fun _ _ h=>h) ?_;intro I04 out1 p5 c4 cs1 heq1 le4 h5;subst o01;refine zX<|vH [(2,vS p5 out1 c4)]<|xG<|xP 0 rfl ?_;intro I05 le5 hl0;have h17:=SL.of_frozen hl0 le5 h5;obtain rfl:=zC hMl;exact xC ⟨_,_,(.tmp rfl ResV.nil),zR,⟨_,rfl,rfl,h17⟩⟩
def kF (p:zK) (at0:Int):Option (Str×Bool):=do
 let y←vG p
 if (!y) then
  pure ((⟨[]⟩:Str),false)
 else
  let y1←fO p
  let t26←(do
    if (decide (at0 < 0)) then
     pure true
    else
     if (decide (at0 ≥ (y1.length:Int))) then
      pure true
     else
      let x←idx y1 at0
      pure (x.l == ([]:List UInt8))
      : Option Bool)
  if t26 then
   pure ((⟨[]⟩:Str),false)
  else
   let x1←idx y1 at0
   pure (x1,true)
theorem zAc:∀ p at0 r,kF p at0=some r→∀ {I:Imm}{p1 c p2 c1},(S4 I p1 p.Arrays c)→(S4 I p2 p.Parts c1)→RT 21 [vA (cProg p p1 c p2 c1),vI at0] I [] (jP  r):=by
 intro p at0 r N I p1 c p2 c1 h h1;unfold kF at N;refine zY (fn:=Tryz.f21) (c:=(bodyOf Tryz.f21)) Tryz.func21 rfl rfl ?_;rintro B - -;have H:=iS I;refine yK<|uD (cProg p p1 c p2 c1) ?_;intro b hb;refine yC [] []<|yI<|yK<|yD 1 [0] [(7,vA (cProg p p1 c p2 c1))]<|bE N fun y hy N=>vJ (nA p _ hy h h1) ?_;intro I0 le;have h:=h.mono le;have h1:=h1.mono le;have H:=H.trans le;refine yC [] [(9,.bool (!y))]<|zM<|yL N ?_ ?_
 · intro hc N;refine yF [(4,vT ([])),(5,vF)]<|xG<|zH ?_;obtain rfl:=zC N;exact xC ⟨_,_,(.tmp rfl (.tmp rfl ResV.nil)),zR,⟨_,_,rfl,rfl,rfl,rfl⟩⟩
 intro hc N;refine zW<|xD<|yD 1 [0] [(10,vA (cProg p p1 c p2 c1))]<|bE N fun y1 hy1 N=>xT (zDw p _ hy1 h h1) ?_;rintro I01 hs2 v2 k2 le1 - ⟨v01,rfl,rfl,h3⟩ -;have H:=H.trans le1;obtain ⟨p3,c2,rfl⟩:=h3.form;refine yC [] [(6,vS p3 y1 c2)]<|yI<|yG ?_;obtain ⟨o0,ho0,hMc⟩:=zB N;refine yU (fun I' hs' m'=>∃ (t26:Bool),o0=t26∧I01.le I'∧hs'=[]∧m'=[(1,vI at0),(6,vS p3 y1 c2),(26,.bool t26)]) ?_ ?_
 · have H:=iS I01;refine zQ<|yD 3 [] [(14,.bool (decide (at0 < 0)))] ?_;cases hc1:(decide (at0 < 0)) with
   | true =>
    have hM0:=zP hc1 ho0
    try rw [hc1]
    exact yC [] [(26,vY)]<|xU zR<|yT [(1,vI at0),(6,vS p3 y1 c2),(26,vY)]<|zV (ct hM0 H)
   | false =>
    have hM01:=zL hc1 ho0
    try rw [hc1]
    refine yD 9 [] [(20,.bool (decide (at0 ≥ (y1.length:Int))))] ?_;cases hc2:(decide (at0 ≥ (y1.length:Int))) with
    | true =>
     have hM02:=zP hc2 hM01
     try rw [hc2]
     exact yC [] [(26,vY)]<|xU zR<|yT [(1,vI at0),(6,vS p3 y1 c2),(26,vY)]<|zV (ct hM02 H)
    | false =>
     have hM03:=zL hc2 hM01
     try rw [hc2]
     refine yD 11 [] [(21,vS p3 y1 c2),(22,vI at0)] ?_;obtain ⟨x,hy2,N⟩:=zB hM03;refine xS rfl rfl h3 hy2 ?_;intro ad ccs hat hrep;obtain rfl:=hrep;exact xM 0 hat [vT x.l] (vT x.l) rfl<|yC [] [(26,.bool (x.l == ([]:List UInt8)))]<|xU zR<|yT [(1,vI at0),(6,vS p3 y1 c2),(26,.bool (x.l == ([]:List UInt8)))]<|zV (ct N H)
 rintro I02 hs2 m2 ⟨t26,heq,le2,rfl,rfl⟩;subst o0;have h3:=h3.mono le2;refine zM<|yL hMc ?_ ?_
 · intro hc3 N;refine yF [(4,vT ([])),(5,vF)]<|xG<|zH ?_;obtain rfl:=zC N;exact xC ⟨_,_,(.tmp rfl (.tmp rfl ResV.nil)),zR,⟨_,_,rfl,rfl,rfl,rfl⟩⟩
 intro hc3 N;refine zW<|xD<|yD 2 [] [(27,vS p3 y1 c2),(28,vI at0)]<|bE N fun x1 hy3 N=>xS rfl rfl h3 hy3 ?_;intro ad1 ccs1 hat1 hrep1;obtain rfl:=hrep1;refine xM 0 hat1 [vT x1.l] (vT x1.l) rfl<|yC [] [(4,vT x1.l),(5,vY)]<|zM<|yX ?_;obtain rfl:=zC N;exact xC ⟨_,_,(.tmp rfl (.tmp rfl ResV.nil)),zR,⟨_,_,rfl,rfl,rfl,rfl⟩⟩
def rO (p:zK):Option ((List zS)):=do
 let (y1,y2)←tJ p
 if (!y2) then
  pure ([]:List zS)
 else
  pure (id y1)
theorem dY:∀ p r,rO p=some r→∀ {I:Imm}{p1 c p2 c1},(S4 I p1 p.Arrays c)→(S4 I p2 p.Parts c1)→RT 22 [vA (cProg p p1 c p2 c1)] I [] (kD  r):=by
 intro p r N I p1 c p2 c1 h h1;unfold rO at N;refine zY (fn:=Tryz.f22) (c:=(bodyOf Tryz.f22)) Tryz.func22 rfl rfl ?_;rintro B - -;refine yK<|uD (cProg p p1 c p2 c1) ?_;intro b hb;refine yC [] []<|xD<|yD 1 [0] [(6,vA (cProg p p1 c p2 c1))] ?_;obtain ⟨⟨y1,y2⟩,hy,N⟩:=zB N;refine xT (jB p _ hy h h1) ?_;rintro I0 hs2 v2 k2 le - ⟨v0,v01,rfl,rfl,h2,rfl⟩ -;obtain ⟨p3,c2,rfl⟩:=h2.form;refine yC [] [(3,vS p3 y1 c2),(4,.bool y2)]<|yI<|yF [(11,.bool (!y2))]<|zM<|yL N ?_ ?_
 · intro hc N;refine yF [(2,z0)]<|xG<|zH ?_;obtain rfl:=zC N;exact xC ⟨_,_,(.tmp rfl ResV.nil),zR,⟨_,rfl,rfl,(SL.nil _)⟩⟩
 intro hc N;refine zW<|vH [(2,vS p3 y1 c2)]<|zM<|yX ?_;obtain rfl:=zC N;exact xC ⟨_,_,(.tmp rfl ResV.nil),zR,⟨_,rfl,rfl,h2⟩⟩
def dZ (s:zI):Option (Bool):=do
 let y←oJ s 4
 pure (id y)
theorem zFP:∀ s r,dZ s=some r→∀ {I:Imm}{p c p1 c1 p2 c2 p3 c3},(S4 I p s.Write.Subs c)→(S4 I p1 s.Value.Index.Coefs c1)→(S4 I p2 s.Value.Read.Subs c2)→(S4 I p3 s.Value.Kids c3)→RT 51 [vA (cStmt s p c p1 c1 p2 c2 p3 c3)] I [] (zU  r):=by
 intro s r N I p c p1 c1 p2 c2 p3 c3 h h1 h2 h3;unfold dZ at N;refine zY (fn:=Tryz.f51) (c:=(bodyOf Tryz.f51)) Tryz.func51 rfl rfl ?_;rintro B - -;refine yK<|uD (cStmt s p c p1 c1 p2 c2 p3 c3) ?_;intro b hb;refine yC [] []<|xD<|yD 1 [0] [(3,vA (cStmt s p c p1 c1 p2 c2 p3 c3))]<|bE N fun y hy N=>vJ (dK s 4 _ hy h h1 h2 h3) fun I0 le=>yC [] [(2,.bool y)]<|zM<|yX ?_;obtain rfl:=zC N;exact wN
def jV (s:zI):Option (Bool):=do
 let t2←(do
   let y←dZ s
   if y then
    let y1←gJ s
    pure (id y1)
   else
    pure false
     : Option Bool)
 pure (id t2)
theorem zBm:∀ s r,jV s=some r→∀ {I:Imm}{p c p1 c1 p2 c2 p3 c3},(S4 I p s.Write.Subs c)→(S4 I p1 s.Value.Index.Coefs c1)→(S4 I p2 s.Value.Read.Subs c2)→(S4 I p3 s.Value.Kids c3)→RT 23 [vA (cStmt s p c p1 c1 p2 c2 p3 c3)] I [] (zU  r):=by
 intro s r N I p c p1 c1 p2 c2 p3 c3 h h1 h2 h3;unfold jV at N;refine zY (fn:=Tryz.f23) (c:=(bodyOf Tryz.f23)) Tryz.func23 rfl rfl ?_;rintro B - -;have H:=iS I;refine yK<|uD (cStmt s p c p1 c1 p2 c2 p3 c3) ?_;intro b hb;refine yC [] []<|zM<|yG ?_;obtain ⟨o0,ho0,hMc⟩:=zB N;refine yU (fun I' hs' m'=>∃ (t2:Bool),o0=t2∧I.le I'∧hs'=[]∧m'=[(2,.bool t2)]) ?_ ?_
 · have H:=iS I;refine zQ<|yD 1 [0] [(3,vA (cStmt s p c p1 c1 p2 c2 p3 c3))] ?_;obtain ⟨y,hy,N⟩:=zB ho0;refine vJ (zFP s _ hy h h1 h2 h3) ?_;intro I01 le;have h:=h.mono le;have h1:=h1.mono le;have h2:=h2.mono le;have h3:=h3.mono le;have H:=H.trans le;refine yD 3 [] [(5,.bool y)] ?_;cases hc:y with
   | true =>
    have hM0:=zP hc N
    try rw [hc]
    refine yD 4 [0] [(6,vA (cStmt s p c p1 c1 p2 c2 p3 c3))] ?_;obtain ⟨y1,hy1,N⟩:=zB hM0;refine vJ (zAl s _ hy1 h h1 h2 h3) ?_;intro I02 le1;have H:=H.trans le1;exact yC [] [(2,.bool y1)]<|xU zR<|yT [(2,.bool y1)]<|zV (ct N H)
   | false =>
    have hM01:=zL hc N
    try rw [hc]
    exact yC [] [(2,vF)]<|xU zR<|yT [(2,vF)]<|zV (ct hM01 H)
 rintro I0 hs2 m2 ⟨t2,heq,le2,rfl,rfl⟩;subst o0;refine zM<|yX ?_;obtain rfl:=zC hMc;exact wN
def jZ (code:(List UInt8)):Option (Bool):=do
 if (decide ((code.length:Int) > 1048576)) then
  pure true
 else
  let (y1,y2)←oN code
  let (y4,y5)←kE y1 y2
  let (y7,y8)←kF y1 y2
  let y9←rO y1
  let t50←(do
    if (!(y5 == y8)) then
     pure true
    else
     if (!(y4.l == y7.l)) then
      pure true
     else
      if (decide (y2 < 0)) then
       pure true
      else
       pure (decide (y2 ≥ (y9.length:Int)))
      : Option Bool)
  if t50 then
   let t2←(do
     if (y5 == y8) then
      pure (y4.l == y7.l)
     else
      pure false
       : Option Bool)
   pure (id t2)
  else
   let x←idx y9 y2
   let x1←idx y1.Parts x.Part
   let x2←idx y9 y2
   let x3←idx x1.Body x2.Stmt
   let t21←(do
     let y10←jV x3
     if (y5 == y10) then
      if (!y5) then
       pure true
      else
       pure (y4.l == x3.Write.Array.l)
     else
      pure false
       : Option Bool)
   pure (id t21)
theorem zFk:∀ code r,jZ code=some r→∀ {I:Imm}{p c},(S4 I p code c)→RT 6 [vS p code c] I [] (zU  r):=by
 intro code r N I p c h;unfold jZ at N;refine zY (fn:=Tryz.f6) (c:=(bodyOf Tryz.f6)) Tryz.func6 rfl rfl ?_;rintro B - -;have H:=iS I;refine yF []<|yI<|yF [(13,.bool (decide ((code.length:Int) > 1048576)))]<|zM<|yL N ?_ ?_
 · intro hc N;refine yF [(2,vY)]<|xG<|zH ?_;obtain rfl:=zC N;exact wN
 intro hc N;refine zW<|xD<|yD 1 [] [(15,vS p code c)] ?_;obtain ⟨⟨y1,y2⟩,hy,N⟩:=zB N;refine xT (eK code _ hy h) ?_;rintro I0 hs2 v2 k2 le - ⟨v0,v01,rfl,rfl,⟨cs,rfl,h1⟩,rfl⟩ -;have H:=H.trans le;obtain ⟨p1,c1,p2,c2,rfl,h3,h4⟩:=pS h1;refine yD 5 [] [(17,vA (cProg y1 p1 c1 p2 c2)),(18,vI y2)]<|wR zTwo ?_;intro b hb;refine xE 0 (cProg y1 p1 c1 p2 c2) [hB b (cProg y1 p1 c1 p2 c2)] rfl rfl rfl rfl<|yC [] [(4,vI y2)]<|xD<|yD 2 [0] [(20,vA (cProg y1 p1 c1 p2 c2)),(21,vI y2)] ?_;obtain ⟨⟨y4,y5⟩,hy1,N⟩:=zB N;refine xT (zAa y1 y2 _ hy1 h3 h4) ?_;rintro I01 hs2 v2 k2 le1 - ⟨v04,v05,rfl,rfl,rfl,rfl⟩ -;have h3:=h3.mono le1;have h4:=h4.mono le1;have H:=H.trans le1;refine yC [] [(5,vT y4.l),(6,.bool y5)]<|xD<|yD 2 [0] [(26,vA (cProg y1 p1 c1 p2 c2)),(27,vI y2)] ?_;obtain ⟨⟨y7,y8⟩,hy2,N⟩:=zB N;refine xT (zAc y1 y2 _ hy2 h3 h4) ?_;rintro I02 hs2 v2 k2 le2 - ⟨v06,v07,rfl,rfl,rfl,rfl⟩ -;have h3:=h3.mono le2;have h4:=h4.mono le2;have H:=H.trans le2;refine yC [] [(7,vT y7.l),(8,.bool y8)]<|xD<|yD 1 [0] [(31,vA (cProg y1 p1 c1 p2 c2))]<|bE N fun y9 hy3 N=>xT (dY y1 _ hy3 h3 h4) ?_;rintro I03 hs2 v2 k2 le3 - ⟨v08,rfl,rfl,h9⟩ -;have h4:=h4.mono le3;have H:=H.trans le3;obtain ⟨p3,c3,rfl⟩:=h9.form;refine yC [] [(9,vS p3 y9 c3)]<|yI<|yG ?_;obtain ⟨o0,ho0,hMc⟩:=zB N;refine yU (fun I' hs' m'=>∃ (t50:Bool),o0=t50∧I03.le I'∧hs'=[hB b (cProg y1 p1 c1 p2 c2)]∧m'=[(3,vP b 0),(4,vI y2),(5,vT y4.l),(6,.bool y5),(7,vT y7.l),(8,.bool y8),(9,vS p3 y9 c3),(50,.bool t50)]) ?_ ?_
 · have H:=iS I03;refine zQ<|yD 4 [] [(36,.bool (!(y5 == y8)))] ?_;cases hc1:(!(y5 == y8)) with
   | true =>
    have hM0:=zP hc1 ho0
    try rw [hc1]
    exact yC [] [(50,vY)]<|yT [(3,vP b 0),(4,vI y2),(5,vT y4.l),(6,.bool y5),(7,vT y7.l),(8,.bool y8),(9,vS p3 y9 c3),(50,vY)]<|zV (ct hM0 H)
   | false =>
    have hM01:=zL hc1 ho0
    try rw [hc1]
    refine yD 9 [] [(41,.bool (!(y4.l == y7.l)))] ?_;cases hc2:(!(y4.l == y7.l)) with
    | true =>
     have hM02:=zP hc2 hM01
     try rw [hc2]
     exact yC [] [(50,vY)]<|yT [(3,vP b 0),(4,vI y2),(5,vT y4.l),(6,.bool y5),(7,vT y7.l),(8,.bool y8),(9,vS p3 y9 c3),(50,vY)]<|zV (ct hM02 H)
    | false =>
     have hM03:=zL hc2 hM01
     try rw [hc2]
     refine yD 13 [] [(45,.bool (decide (y2 < 0)))] ?_;cases hc3:(decide (y2 < 0)) with
     | true =>
      have hM04:=zP hc3 hM03
      try rw [hc3]
      exact yC [] [(50,vY)]<|yT [(3,vP b 0),(4,vI y2),(5,vT y4.l),(6,.bool y5),(7,vT y7.l),(8,.bool y8),(9,vS p3 y9 c3),(50,vY)]<|zV (ct hM04 H)
     | false =>
      have hM05:=zL hc3 hM03
      try rw [hc3]
      exact yC [] [(50,.bool (decide (y2 ≥ (y9.length:Int))))]<|yT [(3,vP b 0),(4,vI y2),(5,vT y4.l),(6,.bool y5),(7,vT y7.l),(8,.bool y8),(9,vS p3 y9 c3),(50,.bool (decide (y2 ≥ (y9.length:Int))))]<|zV (ct hM05 H)
 rintro I04 hs2 m2 ⟨t50,heq,le4,rfl,rfl⟩;subst o0;have h9:=h9.mono le4;have h4:=h4.mono le4;have H:=H.trans le4;refine zM<|yL hMc ?_ ?_
 · intro hc4 N;refine yG ?_;obtain ⟨o01,ho01,hMc1⟩:=zB N;refine yU (fun I' hs' m'=>∃ (t2:Bool),o01=t2∧I04.le I'∧hs'=[]∧m'=[(2,.bool t2)]) ?_ ?_
   · have H:=iS I04;refine zQ<|yD 4 [] [(54,.bool (y5 == y8))] ?_;cases hc5:(y5 == y8) with
     | true =>
      have hM06:=zP hc5 ho01
      try rw [hc5]
      exact yC [] [(2,.bool (y4.l == y7.l))]<|xU zR<|yT [(2,.bool (y4.l == y7.l))]<|zV (ct hM06 H)
     | false =>
      have hM07:=zL hc5 ho01
      try rw [hc5]
      exact yC [] [(2,vF)]<|xU zR<|yT [(2,vF)]<|zV (ct hM07 H)
   rintro I05 hs2 m2 ⟨t2,heq1,le5,rfl,rfl⟩;subst o01;refine xG<|zH ?_;obtain rfl:=zC hMc1;exact wN
 intro hc4 N;refine zW<|zM<|yG ?_;obtain ⟨x,hy4,N⟩:=zB N;obtain ⟨x1,hy5,N⟩:=zB N;obtain ⟨x2,hy6,N⟩:=zB N;obtain ⟨x3,hy7,N⟩:=zB N;refine wA [.p (vP b 1) [],.p (vS p2 y1.Parts c2) [0],.p (vS p3 y9 c3) [],.p (vI y2) [],.x (fun I' v hx=>∃ ad p4 c4,v=.pointer (some ad)∧hx=[]∧(At I' ad (cInst x p4 c4))∧(S4 I' p4 x.Point c4)),.x (fun I' v hx=>∃ ad1 p41 c41,v=.pointer (some ad1)∧hx=[]∧(At I' ad1 (cInst x p41 c41))∧(S4 I' p41 x.Point c41)),.q (vI x.Part),.x (fun I' v hx=>∃ ad2 p5 c5 p6 c6,v=.pointer (some ad2)∧hx=[]∧(At I' ad2 (cPart x1 p5 c5 p6 c6))∧(S4 I' p5 x1.Nest c5)∧(S4 I' p6 x1.Body c6)),.x (fun I' v hx=>∃ ad21 p51 c51 p61 c61,v=.pointer (some (ad21.add 1))∧hx=[]∧(At I' ad21 (cPart x1 p51 c51 p61 c61))∧(S4 I' p51 x1.Nest c51)∧(S4 I' p61 x1.Body c61)),.x (fun I' v hx=>∃ p611 c611,v=vS p611 x1.Body c611∧hx=[]∧(S4 I' p611 x1.Body c611)),.p (vS p3 y9 c3) [],.p (vI y2) [],.x (fun I' v hx=>∃ ad3 p7 c7,v=.pointer (some ad3)∧hx=[]∧(At I' ad3 (cInst x2 p7 c7))∧(S4 I' p7 x2.Point c7)),.x (fun I' v hx=>∃ ad31 p71 c71,v=.pointer (some (ad31.add 1))∧hx=[]∧(At I' ad31 (cInst x2 p71 c71))∧(S4 I' p71 x2.Point c71)),.q (vI x2.Stmt),.x (fun I' v hx=>∃ ad4 p8 c8 p9 c9 p10 c10 p11 c11,v=.pointer (some ad4)∧hx=[]∧(At I' ad4 (cStmt x3 p8 c8 p9 c9 p10 c10 p11 c11))∧(S4 I' p8 x3.Write.Subs c8)∧(S4 I' p9 x3.Value.Index.Coefs c9)∧(S4 I' p10 x3.Value.Read.Subs c10)∧(S4 I' p11 x3.Value.Kids c11)),.x (fun I' v hx=>∃ p81 c81 p91 c91 p101 c101 p111 c111,v=vA (cStmt x3 p81 c81 p91 c91 p101 c101 p111 c111)∧hx=[]∧(S4 I' p81 x3.Write.Subs c81)∧(S4 I' p91 x3.Value.Index.Coefs c91)∧(S4 I' p101 x3.Value.Read.Subs c101)∧(S4 I' p111 x3.Value.Kids c111)),.x (fun I' v hx=>∃ b1,v=vP b1 0∧hx=[hB b1 [vT ([]),z0,vI 0,vI 0,z0,vI 0,vT ([]),z0,z0]])] [[],[(0,false)],[],[],[(2,false),(3,false)],[(4,false)],[(5,false)],[(1,false),(6,false)],[(7,false)],[(8,false)],[],[],[(10,false),(11,false)],[(12,false)],[(13,false)],[(9,false),(14,false)],[(15,false)],[]] [hB b (cProg y1 p1 c1 p2 c2)] [] [(16,false),(17,true)] (yB [0]) ?_ ?_
 · refine Op<|Op<|Op<|Op<|Ox ?_<|Ox ?_<|Oq ?_<|Ox ?_<|Ox ?_<|Ox ?_<|Op<|Op<|Ox ?_<|Ox ?_<|Oq ?_<|Ox ?_<|Ox ?_<|Ox ?_<|On
   · intro I1 hf le1;refine yM [(61,vS p3 y9 c3),(62,vI y2)] ?_;have h9:=h9.mono le1;refine xS rfl rfl h9 hy4 ?_;intro ad ccs hat hrep;obtain ⟨p4,c4,rfl,h10⟩:=oG hrep;exact yO [] iR ⟨_,_,_,rfl,rfl,hat,h10⟩
   · intro I1 hf le1;refine zF ?_;rintro _ _ ⟨ad,p4,c4,rfl,rfl,hat,h10⟩;exact yM [(63,.pointer (some ad))]<|uS 6 [(64,.pointer (some ad))]<|yO [] iR ⟨_,_,_,rfl,rfl,hat,h10⟩
   · intro I1 hf le1;refine zF ?_;rintro _ _ ⟨ad1,p41,c41,rfl,rfl,hat1,h101⟩;exact yM [(64,.pointer (some ad1))]<|xM 0 hat1 [vI x.Part] (vI x.Part) rfl<|yS iR
   · intro I1 hf le1;refine yM [(60,vS p2 y1.Parts c2),(65,vI x.Part)] ?_;have h4:=h4.mono le1;refine xS rfl rfl h4 hy5 ?_;intro ad2 ccs1 hat2 hrep1;obtain ⟨p5,c5,p6,c6,rfl,h11,h12⟩:=wT hrep1;exact yO [] iR ⟨_,_,_,_,_,rfl,rfl,hat2,h11,h12⟩
   · intro I1 hf le1;refine zF ?_;rintro _ _ ⟨ad2,p5,c5,p6,c6,rfl,rfl,hat2,h11,h12⟩;exact yM [(66,.pointer (some ad2))]<|uS 9 [(67,.pointer (some (ad2.add 1)))]<|yO [] iR ⟨_,_,_,_,_,rfl,rfl,hat2,h11,h12⟩
   · intro I1 hf le1;refine zF ?_;rintro _ _ ⟨ad21,p51,c51,p61,c61,rfl,rfl,hat21,h111,h121⟩;exact yM [(67,.pointer (some (ad21.add 1)))]<|xM 1 hat21 [vS p61 x1.Body c61] (vS p61 x1.Body c61) rfl<|yO [] iR ⟨_,_,rfl,rfl,h121⟩
   · intro I1 hf le1;refine yM [(69,vS p3 y9 c3),(70,vI y2)] ?_;have h9:=h9.mono le1;refine xS rfl rfl h9 hy6 ?_;intro ad3 ccs2 hat3 hrep2;obtain ⟨p7,c7,rfl,h13⟩:=oG hrep2;exact yO [] iR ⟨_,_,_,rfl,rfl,hat3,h13⟩
   · intro I1 hf le1;refine zF ?_;rintro _ _ ⟨ad3,p7,c7,rfl,rfl,hat3,h13⟩;exact yM [(71,.pointer (some ad3))]<|uS 14 [(72,.pointer (some (ad3.add 1)))]<|yO [] iR ⟨_,_,_,rfl,rfl,hat3,h13⟩
   · intro I1 hf le1;refine zF ?_;rintro _ _ ⟨ad31,p71,c71,rfl,rfl,hat31,h131⟩;exact yM [(72,.pointer (some (ad31.add 1)))]<|xM 1 hat31 [vI x2.Stmt] (vI x2.Stmt) rfl<|yS iR
   · intro I1 hf le1;refine zF ?_;rintro _ _ ⟨p611,c611,rfl,rfl,h1211⟩;refine yM [(68,vS p611 x1.Body c611),(73,vI x2.Stmt)]<|xS rfl rfl h1211 hy7 ?_;intro ad4 ccs3 hat4 hrep3;obtain ⟨p8,c8,p9,c9,p10,c10,p11,c11,rfl,h14,h15,h16,h17⟩:=tQ hrep3;exact yO [] iR ⟨_,_,_,_,_,_,_,_,_,rfl,rfl,hat4,h14,h15,h16,h17⟩
   · intro I1 hf le1;refine zF ?_;rintro _ _ ⟨ad4,p8,c8,p9,c9,p10,c10,p11,c11,rfl,rfl,hat4,h14,h15,h16,h17⟩;exact yM [(74,.pointer (some ad4))]<|xM 0 hat4 (cStmt x3 p8 c8 p9 c9 p10 c10 p11 c11) (vA (cStmt x3 p8 c8 p9 c9 p10 c10 p11 c11)) rfl<|yO [] iR ⟨_,_,_,_,_,_,_,_,rfl,rfl,h14,h15,h16,h17⟩
   intro I1 hf le1;refine yM []<|wR [vT ([]),z0,vI 0,vI 0,z0,vI 0,vT ([]),z0,z0] ?_;intro b1 hb1;exact yO [hB b1 [vT ([]),z0,vI 0,vI 0,z0,vI 0,vT ([]),z0,z0]] iR ⟨_,rfl,rfl⟩
 intro I06 le6;refine zF ?_;rintro _ _ ⟨p81,c81,p91,c91,p101,c101,p111,c111,rfl,rfl,h141,h151,h161,h171⟩;refine zF ?_;rintro _ _ ⟨b1,rfl,rfl⟩;refine yM [(5,vT y4.l),(6,.bool y5),(10,vP b1 0),(75,vA (cStmt x3 p81 c81 p91 c91 p101 c101 p111 c111))] ?_;have H:=H.trans le6;refine xE 0 (cStmt x3 p81 c81 p91 c91 p101 c101 p111 c111) [hB b1 (cStmt x3 p81 c81 p91 c91 p101 c101 p111 c111),hB b (cProg y1 p1 c1 p2 c2)] rfl rfl rfl rfl<|yH rfl<|zM<|yG ?_;obtain ⟨o02,ho02,hMc2⟩:=zB N;refine yU (fun I' hs' m'=>∃ (t21:Bool),o02=t21∧I06.le I'∧hs'=[]∧m'=[(2,.bool t21)]) ?_ ?_
 · have H:=iS I06;refine zQ<|yD 2 [0] [(76,.bool y5),(77,vA (cStmt x3 p81 c81 p91 c91 p101 c101 p111 c111))] ?_;obtain ⟨y10,hy8,N⟩:=zB ho02;refine vJ (zBm x3 _ hy8 h141 h151 h161 h171) ?_;intro I08 le7;have H:=H.trans le7;refine yD 5 [] [(80,.bool (y5 == y10))] ?_;cases hc6:(y5 == y10) with
   | true =>
    have hM08:=zP hc6 N
    try rw [hc6]
    refine yD 8 [] [(83,.bool (!y5))] ?_;cases hc7:(!y5) with
    | true =>
     have hM09:=zP hc7 hM08
     try rw [hc7]
     exact yC [] [(2,vY)]<|xU zR<|yT [(2,vY)]<|zV (ct hM09 H)
    | false =>
     have hM010:=zL hc7 hM08
     try rw [hc7]
     exact yC [0] [(2,.bool (y4.l == x3.Write.Array.l))]<|xU zR<|yT [(2,.bool (y4.l == x3.Write.Array.l))]<|zV (ct hM010 H)
   | false =>
    have hM011:=zL hc6 N
    try rw [hc6]
    exact yC [] [(2,vF)]<|xU zR<|yT [(2,vF)]<|zV (ct hM011 H)
 rintro I07 hs2 m2 ⟨t21,heq2,le8,rfl,rfl⟩;subst o02;refine zM<|yX ?_;obtain rfl:=zC hMc2;exact wN
end Go.LN
