/- Helper of the proof (see the last text). -/
import Derived.Test.YtaedjkaagcbkdaaGreatHM2
set_option linter.unusedVariables false
set_option linter.unusedSimpArgs false
namespace Go.LN
open Go.Proofs
set_option maxRecDepth 20000
def fN (r:Bool):KT:=fun kk imm' hs' v=>
  ∃ v0,hs'=[]∧v=tupV [v0]∧v0=.bool r
def uK (list:(List zA)) (depth:Int) (i:Int):Option (Out Unit (Bool)):=do
 if (decide (i < (list.length:Int))) then
  let t26←(do
    let x←idx list i
    let y←wY x
    if (!y) then
     pure true
    else
     let x1←idx list i
     let y1←sM x1
     pure (decide (y1 > depth))
      : Option Bool)
  if t26 then
   pure (.ret false)
  else
   uK list depth (W (i + 1))
 else
  pure (.done ())
 partial_fixpoint
theorem zBu (list:(List zA)) (depth:Int):∀ (i:Int) (o:Out Unit (Bool)),uK list depth i=some o→∀ {B}{imm0 imm:Imm}{Q p c},imm0.le imm→(S4 imm p list c)→(∀ gl a w,¬Q (.goto gl) a w)→(∀ a w,¬Q .outgrown a w)→(∀ (imm':Imm) ,o=(.done ())→imm0.le imm'→T 35 B Q (.exit 0) imm' [] [(0,vS p list c)])→(∀ r imm' hs' m',o=(.ret r)→imm0.le imm'→RS Tryz.prog Tryz.f194 B (fN  r) imm' hs' m'→T 35 B Q .ret imm' hs' m')→J Tryz.prog 35 B (nav (bodyOf Tryz.f194) [1,0,1,0]) Q imm [] [(0,vS p list c),(1,vI depth),(5,vI i)]:=by
 refine uK.partial_correctness list depth _ ?_;intro self ih i o hM B imm0 imm Q p c hle h hg ho hx hr;refine xA hg ho<|zG<|zG<|zB<|yA [] [(9,.bool (decide (i < (list.length:Int))))]<|zF<|yO hM ?_ ?_
 · intro hc hM;refine yE<|zF<|zG<|yC<|zG ?_;obtain ⟨o0,ho0,hMc⟩:=zC hM;refine yT (fun imm' hs' m'=>∃ (t26:Bool),o0=t26∧imm.le imm'∧hs'=[]∧m'=[(0,vS p list c),(1,vI depth),(5,vI i),(26,.bool t26)]) ?_ ?_
   · have hle:=iS imm;refine zB<|yK 2 [] [(12,vS p list c),(13,vI i)] ?_;obtain ⟨x,hy,hM⟩:=zC ho0;refine wD rfl rfl h hy ?_;intro ad ccs hat hrep;obtain ⟨v0,rfl,h1⟩:=yM hrep;obtain ⟨p1,c1,rfl⟩:=h1.form;refine xQ 0 hat (cAff x p1 c1) (vA (cAff x p1 c1)) rfl ?_;obtain ⟨y,hy1,hM⟩:=zC hM;refine yQ (oG x _ hy1 h1) ?_;rintro imm01 hs2 v2 k2 le - ⟨v01,rfl,rfl,rfl⟩ -;have h:=h.mono le;have hle:=hle.trans le;refine yK 7 [] [(18,.bool (!y))] ?_;cases hc1:(!y) with
     | true =>
      have hM0:=zV hc1 hM
      try rw [hc1]
      exact yA [] [(26,.bool true)]<|yS [(0,vS p list c),(1,vI depth),(5,vI i),(26,.bool true)]<|yB ⟨_,(zD hM0).symm,hle,rfl,rfl⟩
     | false =>
      have hM01:=zT hc1 hM
      try rw [hc1]
      refine yK 9 [] [(19,vS p list c),(20,vI i)] ?_;obtain ⟨x1,hy2,hM⟩:=zC hM01;refine wD rfl rfl h hy2 ?_;intro ad1 ccs1 hat1 hrep1;obtain ⟨v02,rfl,h3⟩:=yM hrep1;obtain ⟨p2,c2,rfl⟩:=h3.form;refine xQ 0 hat1 (cAff x1 p2 c2) (vA (cAff x1 p2 c2)) rfl ?_;obtain ⟨y1,hy3,hM⟩:=zC hM;refine yQ (kU x1 _ hy3 h3) ?_;rintro imm02 hs2 v2 k2 le1 - ⟨v03,rfl,rfl,rfl⟩ -;have hle:=hle.trans le1;exact yA [] [(26,.bool (decide (y1 > depth)))]<|yS [(0,vS p list c),(1,vI depth),(5,vI i),(26,.bool (decide (y1 > depth)))]<|yB ⟨_,(zD hM).symm,hle,rfl,rfl⟩
   rintro imm0 hs2 m2 ⟨t26,heq,le2,rfl,rfl⟩;subst o0;have h:=h.mono le2;have hle:=hle.trans le2;refine zF<|yO hMc ?_ ?_
   · intro hc2 hM;exact zG<|zB<|yA [] [(4,.bool false)]<|zF<|yI<|yF<|zP<|zP<|hr _ _ _ _ (zD hM).symm hle ⟨_,_,(.tmp rfl ResV.nil),zX,⟨_,rfl,rfl,rfl⟩⟩
   intro hc2 hM;exact yE<|zY<|zF<|zB<|yA [] [(5,vI (W (i + 1)))]<|xB<|vG [(0,vS p list c),(1,vI depth),(5,vI (W (i + 1)))]<|ih (W (i + 1)) _ hM hle h hg ho hx hr
 intro hc hM;exact yZ<|zS<|zS<|yS [(0,vS p list c)]<|hx _  (zD hM).symm hle
def qO (list:(List zA)) (depth:Int):Option (Bool):=do
 match←uK list depth 0 with
 | .ret r0=>pure r0
 | .done _ =>
  let t4←(do
    if (decide ((list.length:Int) ≥ 1)) then
     pure (decide ((list.length:Int) ≤ 2))
    else
     pure false
      : Option Bool)
  pure (id t4)
theorem zAE:∀ (list:(List zA)) (depth:Int) r,qO list depth=some r→∀ {imm:Imm}{p c},(S4 imm p list c)→Ret Tryz.prog 194 [vS p list c,vI depth] imm [] (fN  r):=by
 intro list depth r hM imm p c h;unfold qO at hM;refine yH (fn:=Tryz.f194) (c:=(bodyOf Tryz.f194)) Tryz.func194 rfl rfl ?_;rintro B - -;have hle:=iS imm;refine zG<|zB<|yA [] []<|zF<|zG<|zG<|zB<|yA [] [(5,vI 0)]<|zF<|yC<|vG [(0,vS p list c),(1,vI depth),(5,vI 0)] ?_;obtain ⟨o01,ho01,hMl⟩:=zC hM;refine zBu list depth 0 o01 ho01 iR h (fun _ _ _ h=>h) (fun _ _ h=>h) ?_ ?_
 · intro imm03  heq1 le3;subst o01;have hle:=hle.trans le3;refine yD<|zF<|zG ?_;obtain ⟨o02,ho02,hMc1⟩:=zC hMl;refine yT (fun imm' hs' m'=>∃ (t4:Bool),o02=t4∧imm03.le imm'∧hs'=[]∧m'=[(4,.bool t4)]) ?_ ?_
   · have hle:=iS imm03;refine zB<|yK 4 [] [(30,.bool (decide ((list.length:Int) ≥ 1)))] ?_;cases hc3:(decide ((list.length:Int) ≥ 1)) with
     | true =>
      have hM02:=zV hc3 ho02
      try rw [hc3]
      exact yA [] [(4,.bool (decide ((list.length:Int) ≤ 2)))]<|yS [(4,.bool (decide ((list.length:Int) ≤ 2)))]<|yB ⟨_,(zD hM02).symm,hle,rfl,rfl⟩
     | false =>
      have hM03:=zT hc3 ho02
      try rw [hc3]
      exact yA [] [(4,.bool false)]<|yS [(4,.bool false)]<|yB ⟨_,(zD hM03).symm,hle,rfl,rfl⟩
   rintro imm04 hs2 m2 ⟨t4,heq2,le4,rfl,rfl⟩;subst o02;refine zF<|yI ?_;obtain rfl:=zD hMc1;exact yP ⟨_,_,(.tmp rfl ResV.nil),zX,⟨_,rfl,rfl,rfl⟩⟩
 intro r0 imm9 hs9 m9 heq9 le9 hrs9;subst heq9;refine yF<|zP ?_;obtain rfl:=zD hMl;exact yP hrs9
def jD (r:Bool):KT:=fun kk imm' hs' v=>
  ∃ v0,hs'=[]∧v=tupV [v0]∧v0=.bool r
def wG (nest:(List zI)) (i:Int):Option (Out Unit (Bool)):=do
 let t12←(do
   if (decide (i < (nest.length:Int))) then
    pure (decide ((nest.length:Int) ≤ 4))
   else
    pure false
     : Option Bool)
 if t12 then
  let t32←(do
    let x←idx nest i
    let y←qO x.Lo i
    if (!y) then
     pure true
    else
     let x1←idx nest i
     let y1←qO x1.Hi i
     pure (!y1)
      : Option Bool)
  if t32 then
   pure (.ret false)
  else
   wG nest (W (i + 1))
 else
  pure (.done ())
 partial_fixpoint
theorem zAF (nest:(List zI)):∀ (i:Int) (o:Out Unit (Bool)),wG nest i=some o→∀ {B}{imm0 imm:Imm}{Q p c},imm0.le imm→(S4 imm p nest c)→(∀ gl a w,¬Q (.goto gl) a w)→(∀ a w,¬Q .outgrown a w)→(∀ (imm':Imm) ,o=(.done ())→imm0.le imm'→T 36 B Q (.exit 0) imm' [] [(0,vS p nest c)])→(∀ r imm' hs' m',o=(.ret r)→imm0.le imm'→RS Tryz.prog Tryz.f173 B (jD  r) imm' hs' m'→T 36 B Q .ret imm' hs' m')→J Tryz.prog 36 B (nav (bodyOf Tryz.f173) [1,0,1,0]) Q imm [] [(0,vS p nest c),(3,vI i)]:=by
 refine wG.partial_correctness nest _ ?_;intro self ih i o hM B imm0 imm Q p c hle h hg ho hx hr;refine xA hg ho<|zG<|zG ?_;obtain ⟨o0,ho0,hMc⟩:=zC hM;refine yT (fun imm' hs' m'=>∃ (t12:Bool),o0=t12∧imm.le imm'∧hs'=[]∧m'=[(0,vS p nest c),(3,vI i),(12,.bool t12)]) ?_ ?_
 · have hle:=iS imm;refine zB<|yK 5 [] [(8,.bool (decide (i < (nest.length:Int))))] ?_;cases hc:(decide (i < (nest.length:Int))) with
   | true =>
    have hM0:=zV hc ho0
    try rw [hc]
    exact yA [] [(12,.bool (decide ((nest.length:Int) ≤ 4)))]<|yS [(0,vS p nest c),(3,vI i),(12,.bool (decide ((nest.length:Int) ≤ 4)))]<|yB ⟨_,(zD hM0).symm,hle,rfl,rfl⟩
   | false =>
    have hM01:=zT hc ho0
    try rw [hc]
    exact yA [] [(12,.bool false)]<|yS [(0,vS p nest c),(3,vI i),(12,.bool false)]<|yB ⟨_,(zD hM01).symm,hle,rfl,rfl⟩
 rintro imm0 hs2 m2 ⟨t12,heq,le,rfl,rfl⟩;subst o0;have h:=h.mono le;have hle:=hle.trans le;refine zF<|yO hMc ?_ ?_
 · intro hc1 hM;refine yE<|zF<|zG<|yC<|zG ?_;obtain ⟨o01,ho01,hMc1⟩:=zC hM;refine yT (fun imm' hs' m'=>∃ (t32:Bool),o01=t32∧imm0.le imm'∧hs'=[]∧m'=[(0,vS p nest c),(3,vI i),(32,.bool t32)]) ?_ ?_
   · have hle:=iS imm0;refine zB<|yK 2 [] [(15,vS p nest c),(16,vI i)] ?_;obtain ⟨x,hy,hM⟩:=zC ho01;refine wD rfl rfl h hy ?_;intro ad ccs hat hrep;obtain ⟨v0,v01,rfl,h1,h2⟩:=vH hrep;obtain ⟨p1,c1,rfl⟩:=h1.form;obtain ⟨p2,c2,rfl⟩:=h2.form;refine yK 4 [] [(18,.pointer (some ad))]<|xQ 0 hat [vS p1 x.Lo c1] (vS p1 x.Lo c1) rfl<|yK 6 [] [(20,vI i)] ?_;obtain ⟨y,hy1,hM⟩:=zC hM;refine yQ (zAE x.Lo i _ hy1 h1) ?_;rintro imm02 hs2 v2 k2 le1 - ⟨v02,rfl,rfl,rfl⟩ -;have h:=h.mono le1;have hle:=hle.trans le1;refine yK 9 [] [(23,.bool (!y))] ?_;cases hc2:(!y) with
     | true =>
      have hM02:=zV hc2 hM
      try rw [hc2]
      exact yA [] [(32,.bool true)]<|yS [(0,vS p nest c),(3,vI i),(32,.bool true)]<|yB ⟨_,(zD hM02).symm,hle,rfl,rfl⟩
     | false =>
      have hM03:=zT hc2 hM
      try rw [hc2]
      refine yK 11 [] [(24,vS p nest c),(25,vI i)] ?_;obtain ⟨x1,hy2,hM⟩:=zC hM03;refine wD rfl rfl h hy2 ?_;intro ad1 ccs1 hat1 hrep1;obtain ⟨v03,v04,rfl,h4,h5⟩:=vH hrep1;obtain ⟨p3,c3,rfl⟩:=h4.form;obtain ⟨p4,c4,rfl⟩:=h5.form;refine yK 13 [] [(27,.pointer (some (ad1.add 1)))]<|xQ 1 hat1 [vS p4 x1.Hi c4] (vS p4 x1.Hi c4) rfl<|yK 15 [] [(29,vI i)] ?_;obtain ⟨y1,hy3,hM⟩:=zC hM;refine yQ (zAE x1.Hi i _ hy3 h5) ?_;rintro imm03 hs2 v2 k2 le2 - ⟨v05,rfl,rfl,rfl⟩ -;have hle:=hle.trans le2;exact yA [] [(32,.bool (!y1))]<|yS [(0,vS p nest c),(3,vI i),(32,.bool (!y1))]<|yB ⟨_,(zD hM).symm,hle,rfl,rfl⟩
   rintro imm01 hs2 m2 ⟨t32,heq1,le3,rfl,rfl⟩;subst o01;have h:=h.mono le3;have hle:=hle.trans le3;refine zF<|yO hMc1 ?_ ?_
   · intro hc3 hM;exact zG<|zB<|yA [] [(2,.bool false)]<|zF<|yI<|yF<|zP<|zP<|hr _ _ _ _ (zD hM).symm hle ⟨_,_,(.tmp rfl ResV.nil),zX,⟨_,rfl,rfl,rfl⟩⟩
   intro hc3 hM;exact yE<|zY<|zF<|zB<|yA [] [(3,vI (W (i + 1)))]<|xB<|vG [(0,vS p nest c),(3,vI (W (i + 1)))]<|ih (W (i + 1)) _ hM hle h hg ho hx hr
 intro hc1 hM;exact yZ<|zS<|zS<|yS [(0,vS p nest c)]<|hx _  (zD hM).symm hle
def rE (nest:(List zI)):Option (Bool):=do
 match←wG nest 0 with
 | .ret r0=>pure r0
 | .done _ =>
  pure (decide ((nest.length:Int) ≤ 4))
theorem zBv:∀ (nest:(List zI)) r,rE nest=some r→∀ {imm:Imm}{p c},(S4 imm p nest c)→Ret Tryz.prog 173 [vS p nest c] imm [] (jD  r):=by
 intro nest r hM imm p c h;unfold rE at hM;refine yH (fn:=Tryz.f173) (c:=(bodyOf Tryz.f173)) Tryz.func173 rfl rfl ?_;rintro B - -;refine zG<|zB<|yA [] []<|zF<|zG<|zG<|zB<|yA [] [(3,vI 0)]<|zF<|yC<|vG [(0,vS p nest c),(3,vI 0)] ?_;obtain ⟨o02,ho02,hMl⟩:=zC hM;refine zAF nest 0 o02 ho02 iR h (fun _ _ _ h=>h) (fun _ _ h=>h) ?_ ?_
 · intro imm04  heq2 le4;subst o02;refine yD<|zF<|zG<|zB<|yA [] [(2,.bool (decide ((nest.length:Int) ≤ 4)))]<|zF<|yI ?_;obtain rfl:=zD hMl;exact yP ⟨_,_,(.tmp rfl ResV.nil),zX,⟨_,rfl,rfl,rfl⟩⟩
 intro r0 imm9 hs9 m9 heq9 le9 hrs9;subst heq9;refine yF<|zP ?_;obtain rfl:=zD hMl;exact yP hrs9
def kH (r:Int):KT:=fun kk imm' hs' v=>
  ∃ v0,hs'=[]∧v=tupV [v0]∧v0=.int .i64 r
mutual
def uZ (nest:(List zI)) (p1:(List Int)) (most:Int):Option (Int):=do
 if ((p1.length:Int) == (nest.length:Int)) then
  pure (id 1)
 else
  let x←idx nest (p1.length:Int)
  let (y1,y2)←rX x p1
  let n01←tG (same nest) (same p1) (same most) (same y2) (same 1) (same y1)
  pure (id n01)
 partial_fixpoint
def tG (nest:(List zI)) (p1:(List Int)) (most:Int) (y2:Int) (n0:Int) (v04:Int):Option (Int):=do
 let t35←(do
   if (decide (v04 < y2)) then
    pure (decide (n0 ≤ most))
   else
    pure false
     : Option Bool)
 if t35 then
  let l←app 8 ([]:List Int) p1
  let l1←app 8 l ([v04]:List Int)
  let y3←uZ (same nest) (same l1) (W (most - n0))
  tG (same nest) (same p1) (same most) (same y2) (W (n0 + y3)) (W (v04 + 1))
 else
  pure (id n0)
 partial_fixpoint
end
theorem zDS:(∀ (nest:(List zI)) (p1:(List Int)) (most:Int) r,uZ nest p1 most=some r→∀ {imm:Imm}{p c p2 c1},(S4 imm p nest c)→(S4 imm p2 p1 c1)→Ret Tryz.prog 187 [vS p nest c,vS p2 p1 c1,vI most] imm [] (kH  r))∧(∀ (nest:(List zI)) (p1:(List Int)) (most:Int) (y2:Int) (n0:Int) (v04:Int) o,tG nest p1 most y2 n0 v04=some o→∀ {B}{imm0 imm:Imm}{Q p c p2 c1},imm0.le imm→(S4 imm p nest c)→(S4 imm p2 p1 c1)→(∀ gl a w,¬Q (.goto gl) a w)→(∀ a w,¬Q .outgrown a w)→(∀ (imm':Imm) (n01:Int),o=n01→imm0.le imm'→T 52 B Q (.exit 0) imm' [] [(7,vI n01)])→J Tryz.prog 52 B (nav (bodyOf Tryz.f187) [1,1,1,1,0,1,0]) Q imm [] [(0,vS p nest c),(1,vS p2 p1 c1),(2,vI most),(7,vI n0),(9,vI y2),(10,vI v04)]):=by
  refine uZ.mutual_partial_correctness (fun nest p1 most r=>∀ {imm:Imm}{p c p2 c1},(S4 imm p nest c)→(S4 imm p2 p1 c1)→Ret Tryz.prog 187 [vS p nest c,vS p2 p1 c1,vI most] imm [] (kH  r)) (fun nest p1 most y2 n0 v04 o=>∀ {B}{imm0 imm:Imm}{Q p c p2 c1},imm0.le imm→(S4 imm p nest c)→(S4 imm p2 p1 c1)→(∀ gl a w,¬Q (.goto gl) a w)→(∀ a w,¬Q .outgrown a w)→(∀ (imm':Imm) (n01:Int),o=n01→imm0.le imm'→T 52 B Q (.exit 0) imm' [] [(7,vI n01)])→J Tryz.prog 52 B (nav (bodyOf Tryz.f187) [1,1,1,1,0,1,0]) Q imm [] [(0,vS p nest c),(1,vS p2 p1 c1),(2,vI most),(7,vI n0),(9,vI y2),(10,vI v04)]) ?_ ?_
  · intro F_spec_l2Work_l1 ih_spec_l2Work_l1 nest p1 most r hM imm p c p2 c1 h h1;refine yH (fn:=Tryz.f187) (c:=(bodyOf Tryz.f187)) Tryz.func187 rfl rfl ?_;rintro B - -;refine zG<|zB<|yA [] []<|zF<|zG<|zB<|yA [] [(7,vI 1)]<|zF<|zG<|zG<|zB<|yA [] [(15,.bool ((p1.length:Int) == (nest.length:Int)))]<|zF<|yO hM ?_ ?_
    · intro hc hM;refine zG<|zB<|yA [] [(6,vI 1)]<|zF<|yI<|zP ?_;obtain rfl:=zD hM;exact yP ⟨_,_,(.tmp rfl ResV.nil),zX,⟨_,rfl,rfl,rfl⟩⟩
    intro hc hM;refine yE<|zF<|zG<|zB<|yK 3 [] [(18,vS p nest c),(20,vI (p1.length:Int))] ?_;obtain ⟨x,hy,hM⟩:=zC hM;refine wD rfl rfl h hy ?_;intro ad ccs hat hrep;obtain ⟨v0,v01,rfl,h2,h3⟩:=vH hrep;obtain ⟨p3,c2,rfl⟩:=h2.form;obtain ⟨p4,c3,rfl⟩:=h3.form;refine xQ 0 hat (cLoop x p3 c2 p4 c3) (vA (cLoop x p3 c2 p4 c3)) rfl<|yK 6 [] [(23,vS p2 p1 c1)] ?_;obtain ⟨⟨y1,y2⟩,hy1,hM⟩:=zC hM;refine yQ (dG x p1 _ hy1 h2 h3 h1) ?_;rintro imm0 hs2 v2 k2 le - ⟨v02,v03,rfl,rfl,rfl,rfl⟩ -;have h:=h.mono le;have h1:=h1.mono le;refine yA [] [(8,vI y1),(9,vI y2)]<|zF<|zG<|zG<|zB<|yA [] [(10,vI y1)]<|zF<|yC<|vG [(0,vS p nest c),(1,vS p2 p1 c1),(2,vI most),(7,vI 1),(9,vI y2),(10,vI y1)] ?_;obtain ⟨o01,ho01,hMl⟩:=zC hM;refine ih_spec_l2Work_l1 nest p1 most y2 1 y1 o01 ho01 iR h h1 (fun _ _ _ h=>h) (fun _ _ h=>h) ?_;intro imm04 n01 heq1 le4;subst o01;refine yD<|zF<|zG<|zB<|yA [] [(6,vI n01)]<|zF<|yI ?_;obtain rfl:=zD hMl;exact yP ⟨_,_,(.tmp rfl ResV.nil),zX,⟨_,rfl,rfl,rfl⟩⟩
  intro F_spec_l2Work F_spec_l2Work_l1 ih_spec_l2Work ih_spec_l2Work_l1 nest p1 most y2 n0 v04 o hM B imm0 imm Q p c p2 c1 hle h h1 hg ho hx;refine xA hg ho<|zG<|zG ?_;obtain ⟨o0,ho0,hMc⟩:=zC hM;refine yT (fun imm' hs' m'=>∃ (t35:Bool),o0=t35∧imm.le imm'∧hs'=[]∧m'=[(0,vS p nest c),(1,vS p2 p1 c1),(2,vI most),(7,vI n0),(9,vI y2),(10,vI v04),(35,.bool t35)]) ?_ ?_
  · have hle:=iS imm;refine zB<|yK 4 [] [(31,.bool (decide (v04 < y2)))] ?_;cases hc1:(decide (v04 < y2)) with
    | true =>
     have hM0:=zV hc1 ho0
     try rw [hc1]
     exact yA [] [(35,.bool (decide (n0 ≤ most)))]<|yS [(0,vS p nest c),(1,vS p2 p1 c1),(2,vI most),(7,vI n0),(9,vI y2),(10,vI v04),(35,.bool (decide (n0 ≤ most)))]<|yB ⟨_,(zD hM0).symm,hle,rfl,rfl⟩
    | false =>
     have hM01:=zT hc1 ho0
     try rw [hc1]
     exact yA [] [(35,.bool false)]<|yS [(0,vS p nest c),(1,vS p2 p1 c1),(2,vI most),(7,vI n0),(9,vI y2),(10,vI v04),(35,.bool false)]<|yB ⟨_,(zD hM01).symm,hle,rfl,rfl⟩
  rintro imm01 hs2 m2 ⟨t35,heq,le1,rfl,rfl⟩;subst o0;have h:=h.mono le1;have h1:=h1.mono le1;have hle:=hle.trans le1;refine zF<|yO hMc ?_ ?_
  · intro hc2 hM;refine yE<|zF<|zG<|yC<|zB<|yK 2 [] [(38,vI n0),(39,vS p nest c)]<|xV [] Int ?_;intro b hb;have h6:RL imm01 [] ([]:List Int):=rfl;refine yK 4 [] [(41,vS p2 p1 c1)] ?_;obtain ⟨ccs1,k0,k01⟩:=h1;have h1:SL imm01 (vS p2 p1 c1) p1:=⟨_,k0,k01⟩;obtain ⟨l,hy2,hM⟩:=zC hM;refine qQ 3 1 0 rfl rfl rfl h6 (.inl k0) k01 hy2 ?_;intro p5 c4 cs h7;refine rY (zL [0] (hs':=[hO Int (vS p5 l c4) cs]) rfl (by decide))<|yK 6 [] [(43,vI v04)]<|xV [vI v04] Int ?_;intro b1 hb1;have h8:RL imm01 [vI v04] ([v04]:List Int):=⟨[vI v04],_,rfl,rfl,rfl,rfl⟩;obtain ⟨l1,hy3,hM⟩:=zC hM;refine qQ 3 1 1 rfl rfl rfl h7 (.inr ⟨0,rfl⟩) h8 hy3 ?_;intro p6 c5 cs1 h9;refine rY (zL [1] (hs':=[hO Int (vS p6 l1 c5) cs1]) rfl (by decide))<|yK 11 [] [(48,vI (W (most - n0)))]<|yL 0 rfl ?_;intro imm02 le2 hl0;have h10:=SL.of_frozen hl0 le2 h9;have h:=h.mono le2;have h1:=h1.mono le2;have hle:=hle.trans le2;obtain ⟨y3,hy4,hM⟩:=zC hM;refine yQ (ih_spec_l2Work nest l1 (W (most - n0)) _ hy4 h h10) ?_;rintro imm03 hs2 v2 k2 le3 - ⟨v05,rfl,rfl,rfl⟩ -;have h:=h.mono le3;have h1:=h1.mono le3;have hle:=hle.trans le3;exact yA [] [(7,vI (W (n0 + y3)))]<|zY<|zF<|zB<|yA [] [(10,vI (W (v04 + 1)))]<|xB<|vG [(0,vS p nest c),(1,vS p2 p1 c1),(2,vI most),(7,vI (W (n0 + y3))),(9,vI y2),(10,vI (W (v04 + 1)))]<|ih_spec_l2Work_l1 nest p1 most y2 (W (n0 + y3)) (W (v04 + 1)) _ hM hle h h1 hg ho hx
  intro hc2 hM;exact yZ<|zS<|zS<|yS [(7,vI n0)]<|hx _ _ (zD hM).symm hle
theorem zDs:∀ (nest:(List zI)) (p1:(List Int)) (most:Int) r,uZ nest p1 most=some r→∀ {imm:Imm}{p c p2 c1},(S4 imm p nest c)→(S4 imm p2 p1 c1)→Ret Tryz.prog 187 [vS p nest c,vS p2 p1 c1,vI most] imm [] (kH  r):=zDS.1
def zAG (r:(List (List Int))×Bool):KT:=fun kk imm' hs' v=>
  ∃ v0 v1,hs'=[]∧v=tupV [v0,v1]∧SL imm' v0 r.1∧v1=.bool r.2
def sO (nest:(List zI)):Option ((List (List Int))×Bool):=do
 let t12←(do
   let y←rE nest
   if (!y) then
    pure true
   else
    let y1←uZ nest ([]:List Int) 1200
    pure (decide (y1 > 1200))
     : Option Bool)
 if t12 then
  pure (([]:List (List Int)),false)
 else
  let y2←wR ([]:List (List Int)) nest ([]:List Int)
  if (decide ((y2.length:Int) > 120)) then
   pure (([]:List (List Int)),false)
  else
   pure (y2,true)
theorem zBL:∀ (nest:(List zI)) r,sO nest=some r→∀ {imm:Imm}{p c},(S4 imm p nest c)→Ret Tryz.prog 162 [vS p nest c] imm [] (zAG  r):=by
 intro nest r hM imm p c h;unfold sO at hM;refine yH (fn:=Tryz.f162) (c:=(bodyOf Tryz.f162)) Tryz.func162 rfl rfl ?_;rintro B - -;have hle:=iS imm;refine zG<|zB<|yA [] []<|zF<|zG<|zG ?_;obtain ⟨o0,ho0,hMc⟩:=zC hM;refine yT (fun imm' hs' m'=>∃ (t12:Bool),o0=t12∧imm.le imm'∧hs'=[]∧m'=[(0,vS p nest c),(12,.bool t12)]) ?_ ?_
 · have hle:=iS imm;refine zB<|yK 1 [] [(5,vS p nest c)] ?_;obtain ⟨y,hy,hM⟩:=zC ho0;refine yQ (zBv nest _ hy h) ?_;rintro imm01 hs2 v2 k2 le - ⟨v0,rfl,rfl,rfl⟩ -;have h:=h.mono le;have hle:=hle.trans le;refine yK 4 [] [(8,.bool (!y))] ?_;cases hc:(!y) with
   | true =>
    have hM0:=zV hc hM
    try rw [hc]
    exact yA [] [(12,.bool true)]<|yS [(0,vS p nest c),(12,.bool true)]<|yB ⟨_,(zD hM0).symm,hle,rfl,rfl⟩
   | false =>
    have hM01:=zT hc hM
    try rw [hc]
    refine yK 5 [] [(9,vS p nest c)] ?_;obtain ⟨y1,hy1,hM⟩:=zC hM01;refine yQ (zDs nest ([]:List Int) 1200 _ hy1 h (SL.nil _)) ?_;rintro imm02 hs2 v2 k2 le1 - ⟨v01,rfl,rfl,rfl⟩ -;have hle:=hle.trans le1;exact yA [] [(12,.bool (decide (y1 > 1200)))]<|yS [(0,vS p nest c),(12,.bool (decide (y1 > 1200)))]<|yB ⟨_,(zD hM).symm,hle,rfl,rfl⟩
 rintro imm0 hs2 m2 ⟨t12,heq,le2,rfl,rfl⟩;subst o0;have h:=h.mono le2;refine zF<|yO hMc ?_ ?_
 · intro hc1 hM;refine zG<|zB<|xV [] (List Int) ?_;intro b hb;have h3:RL imm0 [] ([]:List (List Int)):=rfl;refine yA [] [(2,vS (some ⟨b,0,none⟩) ([]:List (List Int)) 0),(3,.bool false)]<|zF<|yI<|zP<|xJ 0 rfl ?_;intro imm03 le3 hl0;have h4:=SL.of_frozen hl0 le3 h3;obtain rfl:=zD hM;exact yP ⟨_,_,(.tmp rfl (.tmp rfl ResV.nil)),zX,⟨_,_,rfl,rfl,h4,rfl⟩⟩
 intro hc1 hM;refine yE<|zF<|zG<|zB<|xV [] (List Int) ?_;intro b1 hb1;have h5:RL imm0 [] ([]:List (List Int)):=rfl;refine yK 2 [] [(15,vS p nest c)] ?_;obtain ⟨y2,hy2,hM⟩:=zC hM;refine tV [hO (List Int) (vS (some ⟨b1,0,none⟩) ([]:List (List Int)) 0) []] [] (fM ([]:List (List Int)) nest ([]:List Int) _ hy2 h5 h (SL.nil _)) ?_;rintro imm04 hs2 v2 k2 le4 - ⟨p1,c1,cs,rfl,rfl,h6⟩ -;refine yA [] [(4,vS p1 y2 c1)]<|zF<|zG<|zG<|zB<|yA [] [(19,.bool (decide ((y2.length:Int) > 120)))]<|zF<|yO hM ?_ ?_
 · intro hc2 hM;refine zG<|zB<|xV [] (List Int) ?_;intro b2 hb2;have h7:RL imm04 [] ([]:List (List Int)):=rfl;refine yA [] [(2,vS (some ⟨b2,0,none⟩) ([]:List (List Int)) 0),(3,.bool false)]<|zF<|yI<|zP<|xJ 0 rfl ?_;intro imm05 le5 hl01;have h8:=SL.of_frozen hl01 le5 h7;obtain rfl:=zD hM;exact yP ⟨_,_,(.tmp rfl (.tmp rfl ResV.nil)),zX,⟨_,_,rfl,rfl,h8,rfl⟩⟩
 intro hc2 hM;refine yE<|zF<|zG<|zB<|yA [] [(2,vS p1 y2 c1),(3,.bool true)]<|zF<|yI<|xJ 0 rfl ?_;intro imm06 le6 hl02;have h9:=SL.of_frozen hl02 le6 h6;obtain rfl:=zD hM;exact yP ⟨_,_,(.tmp rfl (.tmp rfl ResV.nil)),zX,⟨_,_,rfl,rfl,h9,rfl⟩⟩
def kI (r:Int×Bool):KT:=fun kk imm' hs' v=>
  ∃ v0 v1,hs'=[]∧v=tupV [v0,v1]∧v0=.int .i64 r.1∧v1=.bool r.2
def vO (list:(List zJ)) (part:zQ) (y1:(List (List Int))) (i:Int) (k0:Int):Option (Out Unit (Int×Bool)):=do
 if (decide (k0 < (y1.length:Int))) then
  let x1←idx part.Body i
  let x2←idx y1 k0
  let (y5,y6,y7)←pA list x1 x2
  let t80←(do
    if (!y7) then
     pure true
    else
     let x3←idx y1 k0
     let y8←qZ x3
     pure (!y8)
      : Option Bool)
  if t80 then
   pure (.ret (0,false))
  else
   vO list part y1 i (W (k0 + 1))
 else
  pure (.done ())
 partial_fixpoint
theorem zBw (list:(List zJ)) (part:zQ) (y1:(List (List Int))) (i:Int):∀ (k0:Int) (o:Out Unit (Int×Bool)),vO list part y1 i k0=some o→∀ {B}{imm0 imm:Imm}{Q p c p1 c1 p2 c2}{b:Nat}{p3 c3},imm0.le imm→(S4 imm p list c)→(S4 imm p3 y1 c3)→(S4 imm p1 part.Nest c1)→(S4 imm p2 part.Body c2)→(∀ gl a w,¬Q (.goto gl) a w)→(∀ a w,¬Q .outgrown a w)→(∀ (imm':Imm) ,o=(.done ())→imm0.le imm'→T 87 B Q (.exit 2) imm' [hB b (cPart part p1 c1 p2 c2)] [(0,vS p list c),(3,vP b 0),(6,vS p3 y1 c3),(8,vI i)])→(∀ r imm' hs' m',o=(.ret r)→imm0.le imm'→RS Tryz.prog Tryz.f112 B (kI  r) imm' hs' m'→T 87 B Q .ret imm' hs' m')→J Tryz.prog 87 B (nav (bodyOf Tryz.f112) [1,1,1,0,1,0,0,1,0,0,1,1,0]) Q imm [hB b (cPart part p1 c1 p2 c2)] [(0,vS p list c),(3,vP b 0),(6,vS p3 y1 c3),(8,vI i),(9,vI k0)]:=by
 refine vO.partial_correctness list part y1 i _ ?_;intro self ih k0 o hM B imm0 imm Q p c p1 c1 p2 c2 b p3 c3 hle h h3 h1 h2 hg ho hx hr;refine xA hg ho<|zG<|zG<|zB<|yA [] [(53,.bool (decide (k0 < (y1.length:Int))))]<|zF<|yO hM ?_ ?_
 · intro hc5 hM;refine yE<|zF<|zG<|yC<|zG ?_;obtain ⟨x1,hy3,hM⟩:=zC hM;obtain ⟨x2,hy4,hM⟩:=zC hM;obtain ⟨⟨y5,y6,y7⟩,hy5,hM⟩:=zC hM;refine vC [.p (vS p list c) [],.p (vP b 1) [],.p (vS p2 part.Body c2) [0],.p (vI i) [],.x (fun imm' v hx=>∃ ad1 p8 c8 p9 c9 p10 c10 p11 c11,v=.pointer (some ad1)∧hx=[]∧(At imm' ad1 (cStmt x1 p8 c8 p9 c9 p10 c10 p11 c11))∧(S4 imm' p8 x1.Write.Subs c8)∧(S4 imm' p9 x1.Value.Index.Coefs c9)∧(S4 imm' p10 x1.Value.Read.Subs c10)∧(S4 imm' p11 x1.Value.Kids c11)),.x (fun imm' v hx=>∃ p81 c81 p91 c91 p101 c101 p111 c111,v=vA (cStmt x1 p81 c81 p91 c91 p101 c101 p111 c111)∧hx=[]∧(S4 imm' p81 x1.Write.Subs c81)∧(S4 imm' p91 x1.Value.Index.Coefs c91)∧(S4 imm' p101 x1.Value.Read.Subs c101)∧(S4 imm' p111 x1.Value.Kids c111)),.p (vS p3 y1 c3) [],.p (vI k0) [],.x (fun imm' v hx=>∃ ad2 p12 c12,v=.pointer (some ad2)∧hx=[]∧(At imm' ad2 [vS p12 x2 c12])∧(S4 imm' p12 x2 c12)),.x (fun imm' v hx=>∃ p121 c121,v=vS p121 x2 c121∧hx=[]∧(S4 imm' p121 x2 c121)),.x (fun imm' v hx=>∃ p13 c13,v=.tuple ⟨[vS p13 y5 c13,vI y6,.bool y7]⟩∧hx=[]∧(S4 imm' p13 y5 c13)),.x (fun imm' v hx=>∃ p131 c131,v=.tuple ⟨[vS p131 y5 c131,vI y6,.bool y7]⟩∧hx=[]∧(S4 imm' p131 y5 c131)),.x (fun imm' v hx=>∃ p1311 c1311,v=vS p1311 y5 c1311∧hx=[]∧(S4 imm' p1311 y5 c1311)),.q (vI y6),.q (.bool y7),.x (fun imm' v hx=>∃ p13111 c13111,v=vS p13111 y5 c13111∧hx=[]∧(S4 imm' p13111 y5 c13111)),.p (vI y6) []] [[],[],[(1,false)],[],[(2,false),(3,false)],[(4,false)],[],[],[(6,false),(7,false)],[(8,false)],[(0,false),(5,false),(9,false)],[(10,false)],[(11,false)],[(11,false)],[(11,false)],[(12,false)],[(13,false)]] [hB b (cPart part p1 c1 p2 c2)] [] [(14,false)] (zL [0] rfl (by decide)) ?_ ?_
   · refine Op<|Op<|Op<|Op<|Ox ?_<|Ox ?_<|Op<|Op<|Ox ?_<|Ox ?_<|Ox ?_<|Ox ?_<|Ox ?_<|Oq ?_<|Oq ?_<|Ox ?_<|Op<|On
     · intro imm1 hf le1;refine zE ?_;rintro _ _ ⟨rfl,rfl⟩;refine zE ?_;rintro _ _ ⟨rfl,rfl⟩;refine zM<|yG [(59,vS p2 part.Body c2),(60,vI i)] ?_;have hle:=iS imm1;have h2:=h2.mono le1;refine wD rfl rfl h2 hy3 ?_;intro ad1 ccs1 hat1 hrep1;obtain ⟨v07,v08,v09,v010,rfl,h10,h11,h12,h13⟩:=wE hrep1;obtain ⟨p8,c8,rfl⟩:=h10.form;obtain ⟨p9,c9,rfl⟩:=h11.form;obtain ⟨p10,c10,rfl⟩:=h12.form;obtain ⟨p11,c11,rfl⟩:=h13.form;exact zZ (hx:=[]) rfl hle rfl (zK rfl) ⟨_,_,_,_,_,_,_,_,_,rfl,rfl,hat1,h10,h11,h12,h13⟩
     · intro imm1 hf le1;refine zE ?_;rintro _ _ ⟨ad1,p8,c8,p9,c9,p10,c10,p11,c11,rfl,rfl,hat1,h10,h11,h12,h13⟩;refine zM<|yG [(61,.pointer (some ad1))] ?_;have hle:=iS imm1;exact xQ 0 hat1 (cStmt x1 p8 c8 p9 c9 p10 c10 p11 c11) (vA (cStmt x1 p8 c8 p9 c9 p10 c10 p11 c11)) rfl<|zZ (hx:=[]) rfl hle rfl (zK rfl) ⟨_,_,_,_,_,_,_,_,rfl,rfl,h10,h11,h12,h13⟩
     · intro imm1 hf le1;refine zE ?_;rintro _ _ ⟨rfl,rfl⟩;refine zE ?_;rintro _ _ ⟨rfl,rfl⟩;refine zM<|yG [(63,vS p3 y1 c3),(64,vI k0)] ?_;have hle:=iS imm1;have h3:=h3.mono le1;refine wD rfl rfl h3 hy4 ?_;intro ad2 ccs2 hat2 hrep2;obtain ⟨v011,rfl,h14⟩:=hrep2;obtain ⟨p12,c12,rfl⟩:=h14.form;exact zZ (hx:=[]) rfl hle rfl (zK rfl) ⟨_,_,_,rfl,rfl,hat2,h14⟩
     · intro imm1 hf le1;refine zE ?_;rintro _ _ ⟨ad2,p12,c12,rfl,rfl,hat2,h14⟩;refine zM<|yG [(65,.pointer (some ad2))] ?_;have hle:=iS imm1;exact xQ 0 hat2 [vS p12 x2 c12] (vS p12 x2 c12) rfl<|zZ (hx:=[]) rfl hle rfl (zK rfl) ⟨_,_,rfl,rfl,h14⟩
     · intro imm1 hf le1;refine zE ?_;rintro _ _ ⟨rfl,rfl⟩;refine zE ?_;rintro _ _ ⟨p81,c81,p91,c91,p101,c101,p111,c111,rfl,rfl,h101,h111,h121,h131⟩;refine zE ?_;rintro _ _ ⟨p121,c121,rfl,rfl,h141⟩;refine zM<|yG [(57,vS p list c),(62,vA (cStmt x1 p81 c81 p91 c91 p101 c101 p111 c111)),(66,vS p121 x2 c121)] ?_;have hle:=iS imm1;have h:=h.mono le1;refine yQ (zDO list x1 x2 _ hy5 h h101 h111 h121 h131 h141) ?_;rintro imm04 hs2 v2 k2 le4 - ⟨v012,v013,v014,rfl,rfl,h15,rfl,rfl⟩ -;have hle:=hle.trans le4;obtain ⟨p13,c13,rfl⟩:=h15.form;exact zZ (hx:=[]) rfl hle rfl (zK rfl) ⟨_,_,rfl,rfl,h15⟩
     · intro imm1 hf le1;refine zE ?_;rintro _ _ ⟨p13,c13,rfl,rfl,h15⟩;refine zM<|yG [(67,.tuple ⟨[vS p13 y5 c13,vI y6,.bool y7]⟩)] ?_;have hle:=iS imm1;exact rW 12 [(56,.tuple ⟨[vS p13 y5 c13,vI y6,.bool y7]⟩)]<|zZ (hx:=[]) rfl hle rfl (zK rfl) ⟨_,_,rfl,rfl,h15⟩
     · intro imm1 hf le1;refine zE ?_;rintro _ _ ⟨p131,c131,rfl,rfl,h151⟩;refine zM<|yG [(56,.tuple ⟨[vS p131 y5 c131,vI y6,.bool y7]⟩)] ?_;have hle:=iS imm1;exact rW 13 [(68,vS p131 y5 c131)]<|zZ (hx:=[]) rfl hle rfl (zK rfl) ⟨_,_,rfl,rfl,h151⟩
     · intro imm1 hf le1;refine zE ?_;rintro _ _ ⟨p131,c131,rfl,rfl,h151⟩;refine zM<|yG [(56,.tuple ⟨[vS p131 y5 c131,vI y6,.bool y7]⟩)] ?_;have hle:=iS imm1;exact rW 14 [(69,vI y6)]<|zZ (hx:=[]) rfl hle rfl (zK rfl) ⟨rfl,rfl⟩
     · intro imm1 hf le1;refine zE ?_;rintro _ _ ⟨p131,c131,rfl,rfl,h151⟩;refine zM<|yG [(56,.tuple ⟨[vS p131 y5 c131,vI y6,.bool y7]⟩)] ?_;have hle:=iS imm1;exact rW 15 [(70,.bool y7)]<|zZ (hx:=[]) rfl hle rfl (zK rfl) ⟨rfl,rfl⟩
     intro imm1 hf le1;refine zE ?_;rintro _ _ ⟨p1311,c1311,rfl,rfl,h1511⟩;refine zM<|yG [(68,vS p1311 y5 c1311)] ?_;have hle:=iS imm1;exact rW 16 [(10,vS p1311 y5 c1311)]<|zZ (hx:=[]) rfl hle rfl (zK rfl) ⟨_,_,rfl,rfl,h1511⟩
   intro imm05 le5;refine zE ?_;rintro _ _ ⟨rfl,rfl⟩;refine zM<|yG [(0,vS p list c),(3,vP b 0),(6,vS p3 y1 c3),(8,vI i),(9,vI k0),(70,.bool y7)] ?_;have h:=h.mono le5;have h3:=h3.mono le5;have h1:=h1.mono le5;have h2:=h2.mono le5;have hle:=hle.trans le5;refine yA [] [(12,.bool y7)]<|zF<|zG ?_;obtain ⟨o01,ho01,hMc1⟩:=zC hM;refine yT (fun imm' hs' m'=>∃ (t80:Bool),o01=t80∧imm05.le imm'∧hs'=[hB b (cPart part p1 c1 p2 c2)]∧m'=[(0,vS p list c),(3,vP b 0),(6,vS p3 y1 c3),(8,vI i),(9,vI k0),(80,.bool t80)]) ?_ ?_
   · have hle:=iS imm05;refine zB<|yK 3 [] [(73,.bool (!y7))] ?_;cases hc6:(!y7) with
     | true =>
      have hM04:=zV hc6 ho01
      try rw [hc6]
      exact yA [] [(80,.bool true)]<|yS [(0,vS p list c),(3,vP b 0),(6,vS p3 y1 c3),(8,vI i),(9,vI k0),(80,.bool true)]<|yB ⟨_,(zD hM04).symm,hle,rfl,rfl⟩
     | false =>
      have hM05:=zT hc6 ho01
      try rw [hc6]
      refine yK 5 [] [(74,vS p3 y1 c3),(75,vI k0)] ?_;obtain ⟨x3,hy6,hM⟩:=zC hM05;refine wD rfl rfl h3 hy6 ?_;intro ad3 ccs3 hat3 hrep3;obtain ⟨v015,rfl,h18⟩:=hrep3;obtain ⟨p14,c14,rfl⟩:=h18.form;refine xQ 0 hat3 [vS p14 x3 c14] (vS p14 x3 c14) rfl ?_;obtain ⟨y8,hy7,hM⟩:=zC hM;refine yQ (zDM x3 _ hy7 h18) ?_;rintro imm07 hs2 v2 k2 le6 - ⟨v016,rfl,rfl,rfl⟩ -;have hle:=hle.trans le6;exact yA [] [(80,.bool (!y8))]<|yS [(0,vS p list c),(3,vP b 0),(6,vS p3 y1 c3),(8,vI i),(9,vI k0),(80,.bool (!y8))]<|yB ⟨_,(zD hM).symm,hle,rfl,rfl⟩
   rintro imm06 hs2 m2 ⟨t80,heq1,le7,rfl,rfl⟩;subst o01;have h:=h.mono le7;have h3:=h3.mono le7;have h1:=h1.mono le7;have h2:=h2.mono le7;have hle:=hle.trans le7;refine zF<|yO hMc1 ?_ ?_
   · intro hc7 hM;exact zG<|zB<|yA [] [(4,vI 0),(5,.bool false)]<|zF<|yI<|yF<|zP<|zP<|hr _ _ _ _ (zD hM).symm hle ⟨_,_,(.tmp rfl (.tmp rfl ResV.nil)),zX,⟨_,_,rfl,rfl,rfl,rfl⟩⟩
   intro hc7 hM;exact yE<|zY<|zF<|zB<|yA [] [(9,vI (W (k0 + 1)))]<|xB<|vG [(0,vS p list c),(3,vP b 0),(6,vS p3 y1 c3),(8,vI i),(9,vI (W (k0 + 1)))]<|ih (W (k0 + 1)) _ hM hle h h3 h1 h2 hg ho hx hr
 intro hc5 hM;exact yZ<|zS<|zS<|yS [(0,vS p list c),(3,vP b 0),(6,vS p3 y1 c3),(8,vI i)]<|hx _  (zD hM).symm hle
def vQ (list:(List zJ)) (part:zQ) (y1:(List (List Int))) (i:Int):Option (Out Unit (Int×Bool)):=do
 if (decide (i < (part.Body.length:Int))) then
  let x←idx part.Body i
  let y3←tF x (part.Nest.length:Int)
  if (!y3) then
   pure (.ret (0,false))
  else
   match←vO list part y1 i 0 with
   | .ret r0=>pure (.ret r0)
   | .done _ =>
    vQ list part y1 (W (i + 1))
 else
  pure (.done ())
 partial_fixpoint
theorem zBx (list:(List zJ)) (part:zQ) (y1:(List (List Int))):∀ (i:Int) (o:Out Unit (Int×Bool)),vQ list part y1 i=some o→∀ {B}{imm0 imm:Imm}{Q p c p1 c1 p2 c2}{b:Nat}{p3 c3},imm0.le imm→(S4 imm p list c)→(S4 imm p3 y1 c3)→(S4 imm p1 part.Nest c1)→(S4 imm p2 part.Body c2)→(∀ gl a w,¬Q (.goto gl) a w)→(∀ a w,¬Q .outgrown a w)→(∀ (imm':Imm) ,o=(.done ())→imm0.le imm'→T 87 B Q (.exit 0) imm' [hB b (cPart part p1 c1 p2 c2)] [(3,vP b 0),(6,vS p3 y1 c3)])→(∀ r imm' hs' m',o=(.ret r)→imm0.le imm'→RS Tryz.prog Tryz.f112 B (kI  r) imm' hs' m'→T 87 B Q .ret imm' hs' m')→J Tryz.prog 87 B (nav (bodyOf Tryz.f112) [1,1,1,0,1,0]) Q imm [hB b (cPart part p1 c1 p2 c2)] [(0,vS p list c),(3,vP b 0),(6,vS p3 y1 c3),(8,vI i)]:=by
 refine vQ.partial_correctness list part y1 _ ?_;intro self ih i o hM B imm0 imm Q p c p1 c1 p2 c2 b p3 c3 hle h h3 h1 h2 hg ho hx hr;refine xA hg ho<|zG<|zG<|zB<|yA [0] [(37,.bool (decide (i < (part.Body.length:Int))))]<|zF<|yO hM ?_ ?_
 · intro hc3 hM;refine yE<|zF<|zG<|yC<|zG<|zG ?_;obtain ⟨x,hy1,hM⟩:=zC hM;obtain ⟨y3,hy2,hM⟩:=zC hM;refine vC [.p (vP b 1) [],.p (vS p2 part.Body c2) [0],.p (vI i) [],.x (fun imm' v hx=>∃ ad p4 c4 p5 c5 p6 c6 p7 c7,v=.pointer (some ad)∧hx=[]∧(At imm' ad (cStmt x p4 c4 p5 c5 p6 c6 p7 c7))∧(S4 imm' p4 x.Write.Subs c4)∧(S4 imm' p5 x.Value.Index.Coefs c5)∧(S4 imm' p6 x.Value.Read.Subs c6)∧(S4 imm' p7 x.Value.Kids c7)),.x (fun imm' v hx=>∃ p41 c41 p51 c51 p61 c61 p71 c71,v=vA (cStmt x p41 c41 p51 c51 p61 c61 p71 c71)∧hx=[]∧(S4 imm' p41 x.Write.Subs c41)∧(S4 imm' p51 x.Value.Index.Coefs c51)∧(S4 imm' p61 x.Value.Read.Subs c61)∧(S4 imm' p71 x.Value.Kids c71)),.p (vP b 0) [],.p (vS p1 part.Nest c1) [0],.p (vI (part.Nest.length:Int)) [],.q (.bool y3),.p (.bool (!y3)) []] [[],[(0,false)],[],[(1,false),(2,false)],[(3,false)],[],[(5,false)],[(6,false)],[(4,false),(7,false)],[(8,false)]] [hB b (cPart part p1 c1 p2 c2)] [] [(9,false)] (zL [0] rfl (by decide)) ?_ ?_
   · refine Op<|Op<|Op<|Ox ?_<|Ox ?_<|Op<|Op<|Op<|Oq ?_<|Op<|On
     · intro imm1 hf le1;refine zE ?_;rintro _ _ ⟨rfl,rfl⟩;refine zE ?_;rintro _ _ ⟨rfl,rfl⟩;refine zM<|yG [(41,vS p2 part.Body c2),(42,vI i)] ?_;have hle:=iS imm1;have h2:=h2.mono le1;refine wD rfl rfl h2 hy1 ?_;intro ad ccs hat hrep;obtain ⟨v02,v03,v04,v05,rfl,h5,h6,h7,h8⟩:=wE hrep;obtain ⟨p4,c4,rfl⟩:=h5.form;obtain ⟨p5,c5,rfl⟩:=h6.form;obtain ⟨p6,c6,rfl⟩:=h7.form;obtain ⟨p7,c7,rfl⟩:=h8.form;exact zZ (hx:=[]) rfl hle rfl (zK rfl) ⟨_,_,_,_,_,_,_,_,_,rfl,rfl,hat,h5,h6,h7,h8⟩
     · intro imm1 hf le1;refine zE ?_;rintro _ _ ⟨ad,p4,c4,p5,c5,p6,c6,p7,c7,rfl,rfl,hat,h5,h6,h7,h8⟩;refine zM<|yG [(43,.pointer (some ad))] ?_;have hle:=iS imm1;exact xQ 0 hat (cStmt x p4 c4 p5 c5 p6 c6 p7 c7) (vA (cStmt x p4 c4 p5 c5 p6 c6 p7 c7)) rfl<|zZ (hx:=[]) rfl hle rfl (zK rfl) ⟨_,_,_,_,_,_,_,_,rfl,rfl,h5,h6,h7,h8⟩
     intro imm1 hf le1;refine zE ?_;rintro _ _ ⟨p41,c41,p51,c51,p61,c61,p71,c71,rfl,rfl,h51,h61,h71,h81⟩;refine zE ?_;rintro _ _ ⟨rfl,rfl⟩;refine zM<|yG [(44,vA (cStmt x p41 c41 p51 c51 p61 c61 p71 c71)),(47,vI (part.Nest.length:Int))] ?_;have hle:=iS imm1;refine yQ (mP x (part.Nest.length:Int) _ hy2 h51 h61 h71 h81) ?_;rintro imm02 hs2 v2 k2 le2 - ⟨v06,rfl,rfl,rfl⟩ -;have hle:=hle.trans le2;exact zZ (hx:=[]) rfl hle rfl (zK rfl) ⟨rfl,rfl⟩
   intro imm03 le3;refine zE ?_;rintro _ _ ⟨rfl,rfl⟩;refine zM<|yG [(0,vS p list c),(3,vP b 0),(6,vS p3 y1 c3),(8,vI i),(49,.bool (!y3))] ?_;have h:=h.mono le3;have h3:=h3.mono le3;have h1:=h1.mono le3;have h2:=h2.mono le3;have hle:=hle.trans le3;refine yN rfl<|zF<|yO hM ?_ ?_
   · intro hc4 hM;exact zG<|zB<|yA [] [(4,vI 0),(5,.bool false)]<|zF<|yI<|zP<|yF<|zP<|zP<|hr _ _ _ _ (zD hM).symm hle ⟨_,_,(.tmp rfl (.tmp rfl ResV.nil)),zX,⟨_,_,rfl,rfl,rfl,rfl⟩⟩
   intro hc4 hM;refine yE<|zF<|zG<|zB<|yA [] [(9,vI 0)]<|zF<|yC<|vG [(0,vS p list c),(3,vP b 0),(6,vS p3 y1 c3),(8,vI i),(9,vI 0)] ?_;obtain ⟨o02,ho02,hMl⟩:=zC hM;refine zBw list part y1 i 0 o02 ho02 iR h h3 h1 h2 (fun _ _ _ h=>hg _ _ _ h) (fun _ _ h=>ho _ _ h) ?_ ?_
   · intro imm08  heq2 le8;subst o02;have h:=h.mono le8;have h3:=h3.mono le8;have h1:=h1.mono le8;have h2:=h2.mono le8;have hle:=hle.trans le8;exact yD<|zY<|zF<|zB<|yA [] [(8,vI (W (i + 1)))]<|xB<|vG [(0,vS p list c),(3,vP b 0),(6,vS p3 y1 c3),(8,vI (W (i + 1)))]<|ih (W (i + 1)) _ hMl hle h h3 h1 h2 hg ho hx hr
   intro r0 imm9 hs9 m9 heq9 le9 hrs9;subst heq9;exact yF<|yF<|zP<|zP<|hr _ _ _ _ (zD hMl).symm (hle.trans le9) hrs9
 intro hc3 hM;exact yZ<|zS<|zS<|yS [(3,vP b 0),(6,vS p3 y1 c3)]<|hx _  (zD hM).symm hle
def rV (list:(List zJ)) (part:zQ):Option (Int×Bool):=do
 let (y1,y2)←sO part.Nest
 let t32←(do
   if (!y2) then
    pure true
   else
    if (decide ((part.Body.length:Int) < 1)) then
     pure true
    else
     pure (decide ((part.Body.length:Int) > 4))
     : Option Bool)
 if t32 then
  pure (0,false)
 else
  match←vQ list part y1 0 with
  | .ret r0=>pure r0
  | .done _ =>
   pure ((W ((y1.length:Int) * (part.Body.length:Int))),true)
theorem jR:∀ (list:(List zJ)) (part:zQ) r,rV list part=some r→∀ {imm:Imm}{p c p1 c1 p2 c2},(S4 imm p list c)→(S4 imm p1 part.Nest c1)→(S4 imm p2 part.Body c2)→Ret Tryz.prog 112 [vS p list c,vA (cPart part p1 c1 p2 c2)] imm [] (kI  r):=by
 intro list part r hM imm p c p1 c1 p2 c2 h h1 h2;unfold rV at hM;refine yH (fn:=Tryz.f112) (c:=(bodyOf Tryz.f112)) Tryz.func112 rfl rfl ?_;rintro B - -;have hle:=iS imm;refine zG<|zB<|tA (cPart part p1 c1 p2 c2) ?_;intro b hb;refine yA [] []<|zF<|zG<|zB<|yK 2 [0] [(15,vS p1 part.Nest c1)] ?_;obtain ⟨⟨y1,y2⟩,hy,hM⟩:=zC hM;refine yQ (zBL part.Nest _ hy h1) ?_;rintro imm0 hs2 v2 k2 le - ⟨v0,v01,rfl,rfl,h3,rfl⟩ -;have h:=h.mono le;have h1:=h1.mono le;have h2:=h2.mono le;have hle:=hle.trans le;obtain ⟨p3,c3,rfl⟩:=h3.form;refine yA [] [(6,vS p3 y1 c3),(7,.bool y2)]<|zF<|zG<|zG ?_;obtain ⟨o0,ho0,hMc⟩:=zC hM;refine yT (fun imm' hs' m'=>∃ (t32:Bool),o0=t32∧imm0.le imm'∧hs'=[hB b (cPart part p1 c1 p2 c2)]∧m'=[(0,vS p list c),(3,vP b 0),(6,vS p3 y1 c3),(32,.bool t32)]) ?_ ?_
 · have hle:=iS imm0;refine zB<|yK 3 [] [(21,.bool (!y2))] ?_;cases hc:(!y2) with
   | true =>
    have hM0:=zV hc ho0
    try rw [hc]
    exact yA [] [(32,.bool true)]<|yS [(0,vS p list c),(3,vP b 0),(6,vS p3 y1 c3),(32,.bool true)]<|yB ⟨_,(zD hM0).symm,hle,rfl,rfl⟩
   | false =>
    have hM01:=zT hc ho0
    try rw [hc]
    refine yK 9 [0] [(27,.bool (decide ((part.Body.length:Int) < 1)))] ?_;cases hc1:(decide ((part.Body.length:Int) < 1)) with
    | true =>
     have hM02:=zV hc1 hM01
     try rw [hc1]
     exact yA [] [(32,.bool true)]<|yS [(0,vS p list c),(3,vP b 0),(6,vS p3 y1 c3),(32,.bool true)]<|yB ⟨_,(zD hM02).symm,hle,rfl,rfl⟩
    | false =>
     have hM03:=zT hc1 hM01
     try rw [hc1]
     exact yA [0] [(32,.bool (decide ((part.Body.length:Int) > 4)))]<|yS [(0,vS p list c),(3,vP b 0),(6,vS p3 y1 c3),(32,.bool (decide ((part.Body.length:Int) > 4)))]<|yB ⟨_,(zD hM03).symm,hle,rfl,rfl⟩
 rintro imm01 hs2 m2 ⟨t32,heq,le1,rfl,rfl⟩;subst o0;have h:=h.mono le1;have h3:=h3.mono le1;have h1:=h1.mono le1;have h2:=h2.mono le1;refine zF<|yO hMc ?_ ?_
 · intro hc2 hM;refine zG<|zB<|yA [] [(4,vI 0),(5,.bool false)]<|zF<|yI<|zP ?_;obtain rfl:=zD hM;exact yP ⟨_,_,(.tmp rfl (.tmp rfl ResV.nil)),zX,⟨_,_,rfl,rfl,rfl,rfl⟩⟩
 intro hc2 hM;refine yE<|zF<|zG<|zG<|zB<|yA [] [(8,vI 0)]<|zF<|yC<|vG [(0,vS p list c),(3,vP b 0),(6,vS p3 y1 c3),(8,vI 0)] ?_;obtain ⟨o03,ho03,hMl1⟩:=zC hM;refine zBx list part y1 0 o03 ho03 iR h h3 h1 h2 (fun _ _ _ h=>h) (fun _ _ h=>h) ?_ ?_
 · intro imm09  heq3 le9;subst o03;refine yD<|zF<|zG<|zB<|yA [0] [(4,vI (W ((y1.length:Int) * (part.Body.length:Int)))),(5,.bool true)]<|zF<|yI ?_;obtain rfl:=zD hMl1;exact yP ⟨_,_,(.tmp rfl (.tmp rfl ResV.nil)),zX,⟨_,_,rfl,rfl,rfl,rfl⟩⟩
 intro r0 imm9 hs9 m9 heq9 le9 hrs9;subst heq9;refine yF<|zP ?_;obtain rfl:=zD hMl1;exact yP hrs9
def mQ (r:Bool):KT:=fun kk imm' hs' v=>
  ∃ v0,hs'=[]∧v=tupV [v0]∧v0=.bool r
def xS (p:zW) (total:Int) (i:Int):Option (Out Int (Bool)):=do
 if (decide (i < (p.Parts.length:Int))) then
  let x←idx p.Parts i
  let (y2,y3)←rV p.Arrays x
  if (!y3) then
   pure (.ret false)
  else
   xS p (W (total + y2)) (W (i + 1))
 else
  pure (.done total)
 partial_fixpoint
theorem fO (p:zW):∀ (total:Int) (i:Int) (o:Out Int (Bool)),xS p total i=some o→∀ {B}{imm0 imm:Imm}{Q p1 c p2 c1}{b:Nat},imm0.le imm→(S4 imm p1 p.Arrays c)→(S4 imm p2 p.Parts c1)→(∀ gl a w,¬Q (.goto gl) a w)→(∀ a w,¬Q .outgrown a w)→(∀ (imm':Imm) (total1:Int),o=(.done total1)→imm0.le imm'→T 42 B Q (.exit 0) imm' [] [(3,vI total1)])→(∀ r imm' hs' m',o=(.ret r)→imm0.le imm'→RS Tryz.prog Tryz.f51 B (mQ  r) imm' hs' m'→T 42 B Q .ret imm' hs' m')→J Tryz.prog 42 B (nav (bodyOf Tryz.f51) [1,1,1,0,1,0]) Q imm [hB b (cProg p p1 c p2 c1)] [(1,vP b 0),(3,vI total),(4,vI i)]:=by
 refine xS.partial_correctness p _ ?_;intro self ih total i o hM B imm0 imm Q p1 c p2 c1 b hle h h1 hg ho hx hr;refine xA hg ho<|zG<|zG<|zB<|yA [0] [(21,.bool (decide (i < (p.Parts.length:Int))))]<|zF<|yO hM ?_ ?_
 · intro hc2 hM;refine yE<|zF<|zG<|yC<|zG ?_;obtain ⟨x,hy1,hM⟩:=zC hM;obtain ⟨⟨y2,y3⟩,hy2,hM⟩:=zC hM;refine vC [.p (vP b 0) [],.p (vS p1 p.Arrays c) [0],.p (vP b 1) [],.p (vS p2 p.Parts c1) [0],.p (vI i) [],.x (fun imm' v hx=>∃ ad p3 c2 p4 c3,v=.pointer (some ad)∧hx=[]∧(At imm' ad (cPart x p3 c2 p4 c3))∧(S4 imm' p3 x.Nest c2)∧(S4 imm' p4 x.Body c3)),.x (fun imm' v hx=>∃ p31 c21 p41 c31,v=vA (cPart x p31 c21 p41 c31)∧hx=[]∧(S4 imm' p31 x.Nest c21)∧(S4 imm' p41 x.Body c31)),.q (.tuple ⟨[vI y2,.bool y3]⟩),.p (.tuple ⟨[vI y2,.bool y3]⟩) [],.p (vI y2) [],.p (.bool y3) [],.p (vI y2) []] [[],[(0,false)],[],[(2,false)],[],[(3,false),(4,false)],[(5,false)],[(1,false),(6,false)],[(7,false)],[(8,false)],[(8,false)],[(9,false)]] [hB b (cProg p p1 c p2 c1)] [] [(10,false),(11,false)] (zL [0] rfl (by decide)) ?_ ?_
   · refine Op<|Op<|Op<|Op<|Op<|Ox ?_<|Ox ?_<|Oq ?_<|Op<|Op<|Op<|Op<|On
     · intro imm1 hf le1;refine zE ?_;rintro _ _ ⟨rfl,rfl⟩;refine zE ?_;rintro _ _ ⟨rfl,rfl⟩;refine zM<|yG [(28,vS p2 p.Parts c1),(29,vI i)] ?_;have hle:=iS imm1;have h1:=h1.mono le1;refine wD rfl rfl h1 hy1 ?_;intro ad ccs hat hrep;obtain ⟨v01,v02,rfl,h3,h4⟩:=xT hrep;obtain ⟨p3,c2,rfl⟩:=h3.form;obtain ⟨p4,c3,rfl⟩:=h4.form;exact zZ (hx:=[]) rfl hle rfl (zK rfl) ⟨_,_,_,_,_,rfl,rfl,hat,h3,h4⟩
     · intro imm1 hf le1;refine zE ?_;rintro _ _ ⟨ad,p3,c2,p4,c3,rfl,rfl,hat,h3,h4⟩;refine zM<|yG [(30,.pointer (some ad))] ?_;have hle:=iS imm1;exact xQ 0 hat (cPart x p3 c2 p4 c3) (vA (cPart x p3 c2 p4 c3)) rfl<|zZ (hx:=[]) rfl hle rfl (zK rfl) ⟨_,_,_,_,rfl,rfl,h3,h4⟩
     intro imm1 hf le1;refine zE ?_;rintro _ _ ⟨rfl,rfl⟩;refine zE ?_;rintro _ _ ⟨p31,c21,p41,c31,rfl,rfl,h31,h41⟩;refine zM<|yG [(26,vS p1 p.Arrays c),(31,vA (cPart x p31 c21 p41 c31))] ?_;have hle:=iS imm1;have h:=h.mono le1;refine yQ (jR p.Arrays x _ hy2 h h31 h41) ?_;rintro imm02 hs2 v2 k2 le2 - ⟨v03,v04,rfl,rfl,rfl,rfl⟩ -;have hle:=hle.trans le2;exact zZ (hx:=[]) rfl hle rfl (zK rfl) ⟨rfl,rfl⟩
   intro imm03 le3;refine zE ?_;rintro _ _ ⟨rfl,rfl⟩;refine zE ?_;rintro _ _ ⟨rfl,rfl⟩;refine zM<|yG [(1,vP b 0),(3,vI total),(4,vI i),(5,vI y2),(34,.bool y3)] ?_;have h:=h.mono le3;have h1:=h1.mono le3;have hle:=hle.trans le3;refine yA [] [(6,.bool y3)]<|zF<|zG<|zG<|zB<|yA [] [(36,.bool (!y3))]<|zF<|yO hM ?_ ?_
   · intro hc3 hM;exact zG<|zB<|yA [] [(2,.bool false)]<|zF<|yI<|zP<|yF<|zP<|zP<|hr _ _ _ _ (zD hM).symm hle ⟨_,_,(.tmp rfl ResV.nil),zX,⟨_,rfl,rfl,rfl⟩⟩
   intro hc3 hM;exact yE<|zF<|zB<|yA [] [(3,vI (W (total + y2)))]<|zY<|zF<|zB<|yA [] [(4,vI (W (i + 1)))]<|xB<|vG [(1,vP b 0),(3,vI (W (total + y2))),(4,vI (W (i + 1)))]<|ih (W (total + y2)) (W (i + 1)) _ hM hle h h1 hg ho hx hr
 intro hc2 hM;exact yZ<|zS<|zS<|wB (zL [] rfl (by decide))<|yS [(3,vI total)]<|hx _ _ (zD hM).symm hle
def tK (p:zW):Option (Bool):=do
 let t16←(do
   let y←qE p.Arrays
   if (!y) then
    pure true
   else
    pure (decide ((p.Parts.length:Int) > 4))
     : Option Bool)
 if t16 then
  pure false
 else
  match←xS p 0 0 with
  | .ret r0=>pure r0
  | .done total1 =>
   pure (decide (total1 ≤ 120))
theorem zAH:∀ (p:zW) r,tK p=some r→∀ {imm:Imm}{p1 c p2 c1},(S4 imm p1 p.Arrays c)→(S4 imm p2 p.Parts c1)→Ret Tryz.prog 51 [vA (cProg p p1 c p2 c1)] imm [] (mQ  r):=by
 intro p r hM imm p1 c p2 c1 h h1;unfold tK at hM;refine yH (fn:=Tryz.f51) (c:=(bodyOf Tryz.f51)) Tryz.func51 rfl rfl ?_;rintro B - -;have hle:=iS imm;refine zG<|zB<|tA (cProg p p1 c p2 c1) ?_;intro b hb;refine yA [] []<|zF<|zG<|zG ?_;obtain ⟨o0,ho0,hMc⟩:=zC hM;refine yT (fun imm' hs' m'=>∃ (t16:Bool),o0=t16∧imm.le imm'∧hs'=[hB b (cProg p p1 c p2 c1)]∧m'=[(1,vP b 0),(16,.bool t16)]) ?_ ?_
 · have hle:=iS imm;refine zB<|yK 2 [0] [(8,vS p1 p.Arrays c)] ?_;obtain ⟨y,hy,hM⟩:=zC ho0;refine yQ (zCa p.Arrays _ hy h) ?_;rintro imm01 hs2 v2 k2 le - ⟨v0,rfl,rfl,rfl⟩ -;have hle:=hle.trans le;refine yK 5 [] [(11,.bool (!y))] ?_;cases hc:(!y) with
   | true =>
    have hM0:=zV hc hM
    try rw [hc]
    exact yA [] [(16,.bool true)]<|yS [(1,vP b 0),(16,.bool true)]<|yB ⟨_,(zD hM0).symm,hle,rfl,rfl⟩
   | false =>
    have hM01:=zT hc hM
    try rw [hc]
    exact yA [0] [(16,.bool (decide ((p.Parts.length:Int) > 4)))]<|yS [(1,vP b 0),(16,.bool (decide ((p.Parts.length:Int) > 4)))]<|yB ⟨_,(zD hM01).symm,hle,rfl,rfl⟩
 rintro imm0 hs2 m2 ⟨t16,heq,le1,rfl,rfl⟩;subst o0;have h:=h.mono le1;have h1:=h1.mono le1;refine zF<|yO hMc ?_ ?_
 · intro hc1 hM;refine zG<|zB<|yA [] [(2,.bool false)]<|zF<|yI<|zP ?_;obtain rfl:=zD hM;exact yP ⟨_,_,(.tmp rfl ResV.nil),zX,⟨_,rfl,rfl,rfl⟩⟩
 intro hc1 hM;refine yE<|zF<|zG<|zB<|yA [] [(3,vI 0)]<|zF<|zG<|zG<|zB<|yA [] [(4,vI 0)]<|zF<|yC<|vG [(1,vP b 0),(3,vI 0),(4,vI 0)] ?_;obtain ⟨o01,ho01,hMl⟩:=zC hM;refine fO p 0 0 o01 ho01 iR h h1 (fun _ _ _ h=>h) (fun _ _ h=>h) ?_ ?_
 · intro imm04 total1 heq1 le4;subst o01;refine yD<|zF<|zG<|zB<|yA [] [(2,.bool (decide (total1 ≤ 120)))]<|zF<|yI ?_;obtain rfl:=zD hMl;exact yP ⟨_,_,(.tmp rfl ResV.nil),zX,⟨_,rfl,rfl,rfl⟩⟩
 intro r0 imm9 hs9 m9 heq9 le9 hrs9;subst heq9;refine yF<|zP ?_;obtain rfl:=zD hMl;exact yP hrs9
def zCi (r:(List zJ)):KT:=fun kk imm' hs' v=>
  ∃ v0,hs'=[]∧v=tupV [v0]∧SL imm' v0 r
def oA :Option ((List zJ)):=do
 pure ([(zJ.mk (⟨[65]⟩:Str) ([6]:List Int)),(zJ.mk (⟨[66]⟩:Str) ([4,5]:List Int)),(zJ.mk (⟨[67]⟩:Str) ([3]:List Int))]:List zJ)
theorem mR:∀ r,oA =some r→∀ {imm:Imm} ,Ret Tryz.prog 125 [] imm [] (zCi  r):=by
 intro  r hM imm;unfold oA at hM;refine yH (fn:=Tryz.f125) (c:=(bodyOf Tryz.f125)) Tryz.func125 rfl rfl ?_;rintro B - -;refine zG<|zB<|yA [] []<|zF<|zG<|zB<|xV [vI 6] Int ?_;intro b hb;have h:RL imm [vI 6] ([6]:List Int):=⟨[vI 6],_,rfl,rfl,rfl,rfl⟩;refine yK 2 [] [(2,vA [vT ([65]),vS (some ⟨b,0,none⟩) ([6]:List Int) 1])]<|xV [vI 4,vI 5] Int ?_;intro b1 hb1;have h1:RL imm [vI 4,vI 5] ([4,5]:List Int):=⟨[vI 4],_,rfl,rfl,rfl,⟨[vI 5],_,rfl,rfl,rfl,rfl⟩⟩;refine yK 4 [] [(4,vA [vT ([66]),vS (some ⟨b1,0,none⟩) ([4,5]:List Int) 2])]<|xV [vI 3] Int ?_;intro b2 hb2;have h2:RL imm [vI 3] ([3]:List Int):=⟨[vI 3],_,rfl,rfl,rfl,rfl⟩;refine yK 6 [] [(6,vA [vT ([67]),vS (some ⟨b2,0,none⟩) ([3]:List Int) 1])]<|yL 2 rfl ?_;intro imm0 le hl0;have h3:=SL.of_frozen hl0 le h;have h1:=iM le h1;have h2:=iM le h2;refine yL 1 rfl ?_;intro imm01 le1 hl01;have h4:=SL.of_frozen hl01 le1 h1;have h3:=h3.mono le1;have h2:=iM le1 h2;refine yL 0 rfl ?_;intro imm02 le2 hl02;have h5:=SL.of_frozen hl02 le2 h2;have h3:=h3.mono le2;have h4:=h4.mono le2;refine xV [vT ([65]),vS (some ⟨b,0,none⟩) ([6]:List Int) 1,vT ([66]),vS (some ⟨b1,0,none⟩) ([4,5]:List Int) 2,vT ([67]),vS (some ⟨b2,0,none⟩) ([3]:List Int) 1] zJ ?_;intro b3 hb3;have h6:RL imm02 [vT ([65]),vS (some ⟨b,0,none⟩) ([6]:List Int) 1,vT ([66]),vS (some ⟨b1,0,none⟩) ([4,5]:List Int) 2,vT ([67]),vS (some ⟨b2,0,none⟩) ([3]:List Int) 1] ([(zJ.mk (⟨[65]⟩:Str) ([6]:List Int)),(zJ.mk (⟨[66]⟩:Str) ([4,5]:List Int)),(zJ.mk (⟨[67]⟩:Str) ([3]:List Int))]:List zJ):=⟨[vT ([65]),vS (some ⟨b,0,none⟩) ([6]:List Int) 1],_,rfl,rfl,(pG ⟨_,rfl,h3⟩),⟨[vT ([66]),vS (some ⟨b1,0,none⟩) ([4,5]:List Int) 2],_,rfl,rfl,(pG ⟨_,rfl,h4⟩),⟨[vT ([67]),vS (some ⟨b2,0,none⟩) ([3]:List Int) 1],_,rfl,rfl,(pG ⟨_,rfl,h5⟩),rfl⟩⟩⟩;refine yA [] [(0,vS (some ⟨b3,0,none⟩) ([(zJ.mk (⟨[65]⟩:Str) ([6]:List Int)),(zJ.mk (⟨[66]⟩:Str) ([4,5]:List Int)),(zJ.mk (⟨[67]⟩:Str) ([3]:List Int))]:List zJ) 3)]<|zF<|yI<|xJ 0 rfl ?_;intro imm03 le3 hl03;have h7:=SL.of_frozen hl03 le3 h6;obtain rfl:=zD hM;exact yP ⟨_,_,(.tmp rfl ResV.nil),zX,⟨_,rfl,rfl,h7⟩⟩
def zAf (r:zA):KT:=fun kk imm' hs' v=>
  ∃ v0,hs'=[]∧v=tupV [v0]∧(∃ cs,v0=.agg ⟨cs⟩∧Rp.rep imm' cs r)
def tL (a0:zA) (x:Int) (b:zA) (y:Int) (i:Int) (Coefs:List Int):Option (List Int):=do
 if (decide (i < 4)) then
  let x1←idx a0.Coefs i
  let x2←idx b.Coefs i
  let l←app 8 Coefs ([(W ((W (x * x1)) + (W (y * x2))))]:List Int)
  tL a0 x b y (W (i + 1)) l
 else
  pure (id Coefs)
 partial_fixpoint
theorem zAI (a0:zA) (x:Int) (b:zA) (y:Int):∀ (i:Int) (Coefs:List Int) (o:List Int),tL a0 x b y i Coefs=some o→∀ {B}{imm0 imm:Imm}{Q p c p1 c1}{b1:Nat}{b2:Nat}{b3:Nat}{b4:Nat}{p2 c2 cs},imm0.le imm→(S4 imm p1 b.Coefs c1)→(S4 imm p a0.Coefs c)→(RL imm cs Coefs)→(∀ gl a w,¬Q (.goto gl) a w)→(∀ a w,¬Q .outgrown a w)→(∀ (imm':Imm) (Coefs1:List Int) (p3:Option Addr) (c3:Nat) (cs1:List Value),o=Coefs1→imm0.le imm'→(RL imm' cs1 Coefs1)→T 46 B Q (.exit 0) imm' [hO Int (vS p3 Coefs1 c3) cs1,hB b4 [vS p3 Coefs1 c3,vI (W ((W (x * a0.Const)) + (W (y * b.Const))))],hB b3 [z0,vI 0]] [(8,vP b3 0),(9,vP b4 0)])→J Tryz.prog 46 B (nav (bodyOf Tryz.f128) [1,1,0,1,0]) Q imm [hO Int (vS p2 Coefs c2) cs,hB b4 [vS p2 Coefs c2,vI (W ((W (x * a0.Const)) + (W (y * b.Const))))],hB b3 [z0,vI 0],hB b2 (cAff b p1 c1),hB b1 (cAff a0 p c)] [(1,vI x),(3,vI y),(4,vP b1 0),(6,vP b2 0),(8,vP b3 0),(9,vP b4 0),(10,vI i)]:=by
 refine tL.partial_correctness a0 x b y _ ?_;intro self ih i Coefs o hM B imm0 imm Q p c p1 c1 b1 b2 b3 b4 p2 c2 cs hle h1 h h3 hg ho hx;refine xA hg ho<|zG<|zG<|zB<|yA [] [(22,.bool (decide (i < 4)))]<|zF<|yO hM ?_ ?_
 · intro hc hM;refine yE<|zF<|zG<|yC ?_;obtain ⟨x1,hy,hM⟩:=zC hM;obtain ⟨x2,hy1,hM⟩:=zC hM;obtain ⟨l,hy2,hM⟩:=zC hM;refine vC [.p (vP b4 0) [],.p (vS p2 Coefs c2) [0],.p (vI x) [],.p (vP b1 0) [],.p (vS p a0.Coefs c) [3],.p (vI i) [],.x (fun imm' v hx=>∃ ad,v=.pointer (some ad)∧hx=[]∧(At imm' ad [vI x1])),.q (vI x1),.p (vI (W (x * x1))) [],.p (vI y) [],.p (vP b2 0) [],.p (vS p1 b.Coefs c1) [2],.p (vI i) [],.x (fun imm' v hx=>∃ ad1,v=.pointer (some ad1)∧hx=[]∧(At imm' ad1 [vI x2])),.q (vI x2),.p (vI (W (y * x2))) [],.p (vI (W ((W (x * x1)) + (W (y * x2))))) [],.x (fun imm' v hx=>∃ b5,v=vS (some ⟨b5,0,none⟩) ([(W ((W (x * x1)) + (W (y * x2))))]:List Int) 1∧hx=[]∧(SL imm' (vS (some ⟨b5,0,none⟩) ([(W ((W (x * x1)) + (W (y * x2))))]:List Int) 1) ([(W ((W (x * x1)) + (W (y * x2))))]:List Int))),.x (fun imm' v hx=>∃ p4 c4 cs2,v=vS p4 l c4∧hx=[hO Int (vS p4 l c4) cs2]∧(RL imm' cs2 l))] [[],[(0,false)],[],[],[(3,false)],[],[(4,false),(5,false)],[(6,false)],[(2,false),(7,false)],[],[],[(10,false)],[],[(11,false),(12,false)],[(13,false)],[(9,false),(14,false)],[(8,false),(15,false)],[(16,false)],[(1,false),(17,false),(21,true)]] [hB b4 [vS p2 Coefs c2,vI (W ((W (x * a0.Const)) + (W (y * b.Const))))],hB b3 [z0,vI 0],hB b2 (cAff b p1 c1),hB b1 (cAff a0 p c)] [[hO Int (vS p2 Coefs c2) cs]] [(18,true)] (zL [1,2,3,4,0] rfl (by decide)) ?_ ?_
   · refine Op<|Op<|Op<|Op<|Op<|Op<|Ox ?_<|Oq ?_<|Op<|Op<|Op<|Op<|Op<|Ox ?_<|Oq ?_<|Op<|Op<|Ox ?_<|Ox ?_<|On
     · intro imm1 hf le1;refine zE ?_;rintro _ _ ⟨rfl,rfl⟩;refine zE ?_;rintro _ _ ⟨rfl,rfl⟩;refine zM<|yG [(29,vS p a0.Coefs c),(30,vI i)] ?_;have hle:=iS imm1;have h:=h.mono le1;refine wD rfl rfl h hy ?_;intro ad ccs hat hrep;obtain rfl:=hrep;exact zZ (hx:=[]) rfl hle rfl (zK rfl) ⟨_,rfl,rfl,hat⟩
     · intro imm1 hf le1;refine zE ?_;rintro _ _ ⟨ad,rfl,rfl,hat⟩;refine zM<|yG [(31,.pointer (some ad))] ?_;have hle:=iS imm1;exact xQ 0 hat [vI x1] (vI x1) rfl<|zZ (hx:=[]) rfl hle rfl (zK rfl) ⟨rfl,rfl⟩
     · intro imm1 hf le1;refine zE ?_;rintro _ _ ⟨rfl,rfl⟩;refine zE ?_;rintro _ _ ⟨rfl,rfl⟩;refine zM<|yG [(36,vS p1 b.Coefs c1),(37,vI i)] ?_;have hle:=iS imm1;have h1:=h1.mono le1;refine wD rfl rfl h1 hy1 ?_;intro ad1 ccs1 hat1 hrep1;obtain rfl:=hrep1;exact zZ (hx:=[]) rfl hle rfl (zK rfl) ⟨_,rfl,rfl,hat1⟩
     · intro imm1 hf le1;refine zE ?_;rintro _ _ ⟨ad1,rfl,rfl,hat1⟩;refine zM<|yG [(38,.pointer (some ad1))] ?_;have hle:=iS imm1;exact xQ 0 hat1 [vI x2] (vI x2) rfl<|zZ (hx:=[]) rfl hle rfl (zK rfl) ⟨rfl,rfl⟩
     · intro imm1 hf le1;refine zE ?_;rintro _ _ ⟨rfl,rfl⟩;refine zM<|yG [(41,vI (W ((W (x * x1)) + (W (y * x2)))))] ?_;have hle:=iS imm1;refine xV [vI (W ((W (x * x1)) + (W (y * x2))))] Int ?_;intro b5 hb4;have h5:RL imm1 [vI (W ((W (x * x1)) + (W (y * x2))))] ([(W ((W (x * x1)) + (W (y * x2))))]:List Int):=⟨[vI (W ((W (x * x1)) + (W (y * x2))))],_,rfl,rfl,rfl,rfl⟩;refine yL 0 rfl ?_;intro imm0 le hl0;have h6:=SL.of_frozen hl0 le h5;have hle:=hle.trans le;exact zZ (hx:=[]) rfl hle rfl (zK rfl) ⟨_,rfl,rfl,h6⟩
     intro imm1 hf le1;refine zE ?_;rintro _ _ ⟨rfl,rfl⟩;refine zE ?_;rintro _ _ ⟨b5,rfl,rfl,h6⟩;refine zE ?_;rintro _ _ rfl;refine zM<|yG [(26,vS p2 Coefs c2),(42,vS (some ⟨b5,0,none⟩) ([(W ((W (x * x1)) + (W (y * x2))))]:List Int) 1)] ?_;have hle:=iS imm1;have h3:=iM le1 h3;obtain ⟨ccs2,k0,k01⟩:=h6;have h6:SL imm1 (vS (some ⟨b5,0,none⟩) ([(W ((W (x * x1)) + (W (y * x2))))]:List Int) 1) ([(W ((W (x * x1)) + (W (y * x2))))]:List Int):=⟨_,k0,k01⟩;refine qQ 3 1 0 rfl rfl rfl h3 (.inl k0) k01 hy2 ?_;intro p4 c4 cs2 h7;exact uP (hs':=(hO Int (vS p4 l c4) cs2::hB b4 [vS p2 Coefs c2,vI (W ((W (x * a0.Const)) + (W (y * b.Const))))]::hB b3 [z0,vI 0]::hB b2 (cAff b p1 c1)::hB b1 (cAff a0 p c)::hf)) rfl<|zZ (hx:=[hO Int (vS p4 l c4) cs2]) rfl hle rfl (zK rfl) ⟨_,_,_,rfl,rfl,h7⟩
   intro imm01 le1;refine zE ?_;rintro _ _ ⟨p4,c4,cs2,rfl,rfl,h7⟩;refine zM<|yG [(1,vI x),(3,vI y),(4,vP b1 0),(6,vP b2 0),(8,vP b3 0),(9,vP b4 0),(10,vI i),(43,vS p4 l c4)] ?_;have h1:=h1.mono le1;have h:=h.mono le1;have hle:=hle.trans le1;exact yK 20 [] [(44,vP b4 0)]<|xI 1 [vS p4 l c4,vI (W ((W (x * a0.Const)) + (W (y * b.Const))))] [hO Int (vS p4 l c4) cs2,hB b4 [vS p4 l c4,vI (W ((W (x * a0.Const)) + (W (y * b.Const))))],hB b3 [z0,vI 0],hB b2 (cAff b p1 c1),hB b1 (cAff a0 p c)] rfl rfl rfl rfl<|yN rfl<|zY<|zF<|zB<|yA [] [(10,vI (W (i + 1)))]<|xB<|vG [(1,vI x),(3,vI y),(4,vP b1 0),(6,vP b2 0),(8,vP b3 0),(9,vP b4 0),(10,vI (W (i + 1)))]<|ih (W (i + 1)) l _ hM hle h1 h h7 hg ho hx
 intro hc hM;exact yZ<|zS<|zS<|wB (zL [0,1,2] rfl (by decide))<|yS [(8,vP b3 0),(9,vP b4 0)]<|hx _ _ _ _ _ (zD hM).symm hle h3
def qS (a0:zA) (x:Int) (b:zA) (y:Int):Option (zA):=do
 let Coefs1←tL a0 x b y 0 ([]:List Int)
 pure (zA.mk Coefs1 (W ((W (x * a0.Const)) + (W (y * b.Const)))))
theorem gS:∀ (a0:zA) (x:Int) (b:zA) (y:Int) r,qS a0 x b y=some r→∀ {imm:Imm}{p c p1 c1},(S4 imm p a0.Coefs c)→(S4 imm p1 b.Coefs c1)→Ret Tryz.prog 128 [vA (cAff a0 p c),vI x,vA (cAff b p1 c1),vI y] imm [] (zAf  r):=by
 intro a0 x b y r hM imm p c p1 c1 h h1;unfold qS at hM;refine yH (fn:=Tryz.f128) (c:=(bodyOf Tryz.f128)) Tryz.func128 rfl rfl ?_;rintro B - -;refine zG<|zB<|tA (cAff a0 p c) ?_;intro b1 hb;refine tA (cAff b p1 c1) ?_;intro b2 hb1;refine uB [z0,vI 0] ?_;intro b3 hb2;refine yN rfl<|zF<|zG<|zB<|yK 10 [2,1] [(20,vA [z0,vI (W ((W (x * a0.Const)) + (W (y * b.Const))))])]<|uB [z0,vI 0] ?_;intro b4 hb3;refine xI 0 [z0,vI (W ((W (x * a0.Const)) + (W (y * b.Const))))] [hB b4 [z0,vI (W ((W (x * a0.Const)) + (W (y * b.Const))))],hB b3 [z0,vI 0],hB b2 (cAff b p1 c1),hB b1 (cAff a0 p c)] rfl rfl rfl rfl<|yN rfl<|zF<|zG<|zG<|zB<|yA [] [(10,vI 0)]<|zF<|yC<|vG [(1,vI x),(3,vI y),(4,vP b1 0),(6,vP b2 0),(8,vP b3 0),(9,vP b4 0),(10,vI 0)]<|qP (uS (Rp.sz Int)) ?_;have h2:RL imm [] ([]:List Int):=RepL.nil;obtain ⟨o0,ho0,hMl⟩:=zC hM;refine zAI a0 x b y 0 ([]:List Int) o0 ho0 iR h1 h h2 (fun _ _ _ h=>h) (fun _ _ h=>h) ?_;intro imm02 Coefs1 p3 c3 cs1 heq le2 h4;subst o0;refine yD<|zF<|zG<|zB<|yK 1 [1] [(45,vA [vS p3 Coefs1 c3,vI (W ((W (x * a0.Const)) + (W (y * b.Const))))])]<|xI 2 [vS p3 Coefs1 c3,vI (W ((W (x * a0.Const)) + (W (y * b.Const))))] [hO Int (vS p3 Coefs1 c3) cs1,hB b4 [vS p3 Coefs1 c3,vI (W ((W (x * a0.Const)) + (W (y * b.Const))))],hB b3 [vS p3 Coefs1 c3,vI (W ((W (x * a0.Const)) + (W (y * b.Const))))]] rfl rfl rfl rfl<|yN rfl<|zF<|yI<|xJ 0 rfl ?_;intro imm03 le3 hl01;have h8:=SL.of_frozen hl01 le3 h4;obtain rfl:=zD hMl;exact yP ⟨_,_,(.cell 1 rfl rfl (by kernel_rfl) ResV.nil),zX,⟨_,rfl,rfl,⟨_,rfl,(yR ⟨_,rfl,h8⟩)⟩⟩⟩
def zCj (b0:Nat) (r:zI×zO):KT:=fun kk imm' hs' v=>
  ∃ v0 k0,hs'=[.blk b0 ⟨k0⟩]∧v=tupV [v0]∧(∃ cs,v0=.agg ⟨cs⟩∧Rp.rep imm' cs r.1)∧Rp.rep imm' k0 r.2
def nZ (r0:zO) (depth:Int):Option (zI×zO):=do
 let (y1,y2)←yV r0 ([0,0,1,0,(-1)]:List Int)
 let y3←wF y1
 let (y5,y6)←yV y2 ([3,4,2,3,1]:List Int)
 let y7←wF y5
 let (t23,x)←(do
   if (decide (depth > 0)) then
    let (y9,y10)←yW y6 4
    pure ((y9 == 0),y10)
   else
    pure (false,y6)
     : Option (Bool×zO))
 let (x1,x2,x3)←(do
   if t23 then
    let (y12,y13)←yW x depth
    let (y15,y16)←yW y13 2
    let (x4,x5)←(do
      if (y15 == 0) then
       let y17←qL y12
       pure (y17,(zA.mk y7.Coefs y7.Const))
      else
       let y18←qL y12
       let y19←wF 1
       let y20←qS y18 1 y19 1
       pure ((zA.mk y3.Coefs y3.Const),y20)
        : Option (zA×zA))
    pure (x4,x5,y16)
   else
    pure ((zA.mk y3.Coefs y3.Const),(zA.mk y7.Coefs y7.Const),x)
     : Option (zA×zA×zO))
 let (y22,y23)←yW x3 12
 let (Lo,Hi,x6)←(do
   if (y22 == 0) then
    let (y25,y26)←yV y23 ([3,2,4]:List Int)
    let y27←wF y25
    let l←app 32 ([x2]:List zA) ([y27]:List zA)
    pure (([x1]:List zA),l,y26)
   else
    let (Lo1,x7)←(do
      if (y22 == 1) then
       let (y29,y30)←yV y23 ([0,1]:List Int)
       let y31←wF y29
       let l1←app 32 ([x1]:List zA) ([y31]:List zA)
       pure (l1,y30)
      else
       pure (([x1]:List zA),y23)
        : Option (List zA×zO))
    pure (Lo1,([x2]:List zA),x7)
     : Option (List zA×List zA×zO))
 pure ((zI.mk Lo Hi),x6)
theorem zDt:∀ (r0:zO) (depth:Int) r,nZ r0 depth=some r→∀ {imm:Imm}{r01:Nat}{p c},(S4 imm p r0.b c)→Ret Tryz.prog 189 [vP r01 0,vI depth] imm [hB r01 (cRd r0 p c)] (zCj r01 r):=by
 intro r0 depth r hM imm r01 p c h;unfold nZ at hM;refine yH (fn:=Tryz.f189) (c:=(bodyOf Tryz.f189)) Tryz.func189 rfl rfl ?_;rintro B - -;have hle:=iS imm;refine zG<|zB<|uB zTwo ?_;intro b hb;refine yN rfl<|zF<|zG<|zB<|yK 1 [] [(9,vP r01 0)]<|xV [vI 0,vI 0,vI 1,vI 0,vI (-1)] Int ?_;intro b1 hb1;have h1:RL imm [vI 0,vI 0,vI 1,vI 0,vI (-1)] ([0,0,1,0,(-1)]:List Int):=⟨[vI 0],_,rfl,rfl,rfl,⟨[vI 0],_,rfl,rfl,rfl,⟨[vI 1],_,rfl,rfl,rfl,⟨[vI 0],_,rfl,rfl,rfl,⟨[vI (-1)],_,rfl,rfl,rfl,rfl⟩⟩⟩⟩⟩;refine yL 0 rfl ?_;intro imm0 le hl0;have h2:=SL.of_frozen hl0 le h1;have h:=h.mono le;have hle:=hle.trans le;refine rY (zL [1,0] (hs':=[hB r01 (cRd r0 p c),hB b zTwo]) rfl (by decide)) ?_;obtain ⟨⟨y1,y2⟩,hy,hM⟩:=zC hM;refine tV [hB r01 (cRd r0 p c)] [hB b zTwo] (xE r0 ([0,0,1,0,(-1)]:List Int) _ hy h h2) ?_;rintro imm01 hs2 v2 k2 le1 - ⟨v0,kk,rfl,rfl,rfl,h4⟩ -;have hle:=hle.trans le1;obtain ⟨v01,rfl,h5⟩:=yJ h4;obtain ⟨p1,c1,rfl⟩:=h5.form;obtain ⟨y3,hy1,hM⟩:=zC hM;refine yQ (vE y1 _ hy1 ) ?_;rintro imm02 hs2 v2 k2 le2 - ⟨p2,c2,cs,rfl,rfl,h6⟩ -;have h5:=h5.mono le2;have hle:=hle.trans le2;refine uB [z0,vI 0] ?_;intro b2 hb2;refine xI 0 (cAff y3 p2 c2) [hB b2 (cAff y3 p2 c2),hO Int (vS p2 y3.Coefs c2) cs,hB r01 (cRd y2 p1 c1),hB b zTwo] rfl rfl rfl rfl<|yN rfl<|zF<|zG<|zB<|yK 1 [] [(13,vP r01 0)]<|xV [vI 3,vI 4,vI 2,vI 3,vI 1] Int ?_;intro b3 hb3;have h7:RL imm02 [vI 3,vI 4,vI 2,vI 3,vI 1] ([3,4,2,3,1]:List Int):=⟨[vI 3],_,rfl,rfl,rfl,⟨[vI 4],_,rfl,rfl,rfl,⟨[vI 2],_,rfl,rfl,rfl,⟨[vI 3],_,rfl,rfl,rfl,⟨[vI 1],_,rfl,rfl,rfl,rfl⟩⟩⟩⟩⟩;refine yL 0 rfl ?_;intro imm03 le3 hl01;have h8:=SL.of_frozen hl01 le3 h7;have h6:=iM le3 h6;have h5:=h5.mono le3;have hle:=hle.trans le3;refine rY (zL [2,0,1,3] (hs':=[hB r01 (cRd y2 p1 c1),hB b2 (cAff y3 p2 c2),hO Int (vS p2 y3.Coefs c2) cs,hB b zTwo]) rfl (by decide)) ?_;obtain ⟨⟨y5,y6⟩,hy2,hM⟩:=zC hM;refine tV [hB r01 (cRd y2 p1 c1)] [hB b2 (cAff y3 p2 c2),hO Int (vS p2 y3.Coefs c2) cs,hB b zTwo] (xE y2 ([3,4,2,3,1]:List Int) _ hy2 h5 h8) ?_;rintro imm04 hs2 v2 k2 le4 - ⟨v02,kk1,rfl,rfl,rfl,h10⟩ -;have h6:=iM le4 h6;have hle:=hle.trans le4;obtain ⟨v03,rfl,h11⟩:=yJ h10;obtain ⟨p3,c3,rfl⟩:=h11.form;obtain ⟨y7,hy3,hM⟩:=zC hM;refine yQ (vE y5 _ hy3 ) ?_;rintro imm05 hs2 v2 k2 le5 - ⟨p4,c4,cs1,rfl,rfl,h12⟩ -;have h11:=h11.mono le5;have h6:=iM le5 h6;have hle:=hle.trans le5;refine uB [z0,vI 0] ?_;intro b4 hb4;refine xI 0 (cAff y7 p4 c4) [hB b4 (cAff y7 p4 c4),hO Int (vS p4 y7.Coefs c4) cs1,hB r01 (cRd y6 p3 c3),hB b2 (cAff y3 p2 c2),hO Int (vS p2 y3.Coefs c2) cs,hB b zTwo] rfl rfl rfl rfl<|yN rfl<|zF<|zG<|zG ?_;obtain ⟨o0,ho0,hMc⟩:=zC hM;refine yT (fun imm' hs' m'=>∃ (t23:Bool) (x:zO) (p5:Option Addr) (c5:Nat),o0=(t23,x)∧imm05.le imm'∧(S4 imm' p5 x.b c5)∧hs'=[hB b4 (cAff y7 p4 c4),hO Int (vS p4 y7.Coefs c4) cs1,hB r01 (cRd x p5 c5),hB b2 (cAff y3 p2 c2),hO Int (vS p2 y3.Coefs c2) cs,hB b zTwo]∧m'=[(0,vP r01 0),(1,vI depth),(4,vP b 0),(5,vP b2 0),(6,vP b4 0),(23,.bool t23)]) ?_ ?_
 · have hle:=iS imm05;refine zB<|yK 3 [] [(19,.bool (decide (depth > 0)))] ?_;cases hc:(decide (depth > 0)) with
   | true =>
    have hM0:=zV hc ho0
    try rw [hc]
    refine yK 4 [] [(20,vP r01 0)]<|rY (zL [2,0,1,3,4,5] (hs':=[hB r01 (cRd y6 p3 c3),hB b4 (cAff y7 p4 c4),hO Int (vS p4 y7.Coefs c4) cs1,hB b2 (cAff y3 p2 c2),hO Int (vS p2 y3.Coefs c2) cs,hB b zTwo]) rfl (by decide)) ?_;obtain ⟨⟨y9,y10⟩,hy4,hM⟩:=zC hM0;refine tV [hB r01 (cRd y6 p3 c3)] [hB b4 (cAff y7 p4 c4),hO Int (vS p4 y7.Coefs c4) cs1,hB b2 (cAff y3 p2 c2),hO Int (vS p2 y3.Coefs c2) cs,hB b zTwo] (xL y6 4 _ hy4 h11) ?_;rintro imm07 hs2 v2 k2 le6 - ⟨v04,kk2,rfl,rfl,rfl,h15⟩ -;have hle:=hle.trans le6;obtain ⟨v05,rfl,h16⟩:=yJ h15;obtain ⟨p6,c6,rfl⟩:=h16.form;exact yA [] [(23,.bool (y9 == 0))]<|wB (zL [1,2,0,3,4,5] rfl (by decide))<|yS [(0,vP r01 0),(1,vI depth),(4,vP b 0),(5,vP b2 0),(6,vP b4 0),(23,.bool (y9 == 0))]<|yB ⟨_,_,_,_,(zD hM).symm,hle,h16,rfl,rfl⟩
   | false =>
    have hM01:=zT hc ho0
    try rw [hc]
    exact yA [] [(23,.bool false)]<|yS [(0,vP r01 0),(1,vI depth),(4,vP b 0),(5,vP b2 0),(6,vP b4 0),(23,.bool false)]<|yB ⟨_,_,_,_,(zD hM01).symm,hle,h11,rfl,rfl⟩
 rintro imm06 hs2 m2 ⟨t23,x,p5,c5,heq,le7,h13,rfl,rfl⟩;subst o0;have h12:=iM le7 h12;have h6:=iM le7 h6;have hle:=hle.trans le7;refine zF<|qW 4 rfl ?_;intro imm08 le8 hl02;have h17:=SL.of_frozen hl02 le8 h6;have h12:=iM le8 h12;have h13:=h13.mono le8;have hle:=hle.trans le8;refine qW 1 rfl ?_;intro imm09 le9 hl03;have h18:=SL.of_frozen hl03 le9 h12;have h13:=h13.mono le9;have h17:=h17.mono le9;have hle:=hle.trans le9;obtain ⟨o01,ho01,hMc1⟩:=zC hMc;refine yT (fun imm' hs' m'=>∃ (x1:zA) (x2:zA) (x3:zO) (p7:Option Addr) (c7:Nat) (p8:Option Addr) (c8:Nat) (p9:Option Addr) (c9:Nat),o01=(x1,x2,x3)∧imm09.le imm'∧(S4 imm' p7 x1.Coefs c7)∧(S4 imm' p8 x2.Coefs c8)∧(S4 imm' p9 x3.b c9)∧hs'=[hB b4 (cAff x2 p8 c8),hB r01 (cRd x3 p9 c9),hB b2 (cAff x1 p7 c7),hB b zTwo]∧m'=[(0,vP r01 0),(4,vP b 0),(5,vP b2 0),(6,vP b4 0)]) ?_ ?_
 · have hle:=iS imm09;refine yO ho01 ?_ ?_
   · intro hc1 hM;refine zG<|zB<|yK 2 [] [(24,vP r01 0),(25,vI depth)]<|rY (zL [1,0,2,3] (hs':=[hB r01 (cRd x p5 c5),hB b4 (cAff y7 p4 c4),hB b2 (cAff y3 p2 c2),hB b zTwo]) rfl (by decide)) ?_;obtain ⟨⟨y12,y13⟩,hy5,hM⟩:=zC hM;refine tV [hB r01 (cRd x p5 c5)] [hB b4 (cAff y7 p4 c4),hB b2 (cAff y3 p2 c2),hB b zTwo] (xL x depth _ hy5 h13) ?_;rintro imm011 hs2 v2 k2 le10 - ⟨v06,kk3,rfl,rfl,rfl,h23⟩ -;have h18:=h18.mono le10;have h17:=h17.mono le10;have hle:=hle.trans le10;obtain ⟨v07,rfl,h24⟩:=yJ h23;obtain ⟨p10,c10,rfl⟩:=h24.form;refine yA [] [(7,vI y12)]<|zF<|zG<|zB<|yK 1 [] [(27,vP r01 0)] ?_;obtain ⟨⟨y15,y16⟩,hy6,hM⟩:=zC hM;refine tV [hB r01 (cRd y13 p10 c10)] [hB b4 (cAff y7 p4 c4),hB b2 (cAff y3 p2 c2),hB b zTwo] (xL y13 2 _ hy6 h24) ?_;rintro imm012 hs2 v2 k2 le11 - ⟨v08,kk4,rfl,rfl,rfl,h26⟩ -;have h18:=h18.mono le11;have h17:=h17.mono le11;have hle:=hle.trans le11;obtain ⟨v09,rfl,h27⟩:=yJ h26;obtain ⟨p11,c11,rfl⟩:=h27.form;refine yA [] [(29,.bool (y15 == 0))]<|zF ?_;obtain ⟨o02,ho02,hMc2⟩:=zC hM;refine yT (fun imm' hs' m'=>∃ (x4:zA) (x5:zA) (p12:Option Addr) (c12:Nat) (p13:Option Addr) (c13:Nat),o02=(x4,x5)∧imm012.le imm'∧(S4 imm' p12 x4.Coefs c12)∧(S4 imm' p13 x5.Coefs c13)∧hs'=[hB r01 (cRd y16 p11 c11),hB b4 (cAff x5 p13 c13),hB b2 (cAff x4 p12 c12),hB b zTwo]∧m'=[(0,vP r01 0),(4,vP b 0),(5,vP b2 0),(6,vP b4 0)]) ?_ ?_
     · have hle:=iS imm012;refine yO ho02 ?_ ?_
       · intro hc2 hM;refine zB<|yK 1 [] [(30,vI y12)] ?_;obtain ⟨y17,hy7,hM⟩:=zC hM;refine yQ (nY y12 _ hy7 ) ?_;rintro imm014 hs2 v2 k2 le12 - ⟨v010,rfl,rfl,⟨cs2,rfl,h30⟩⟩ -;have h18:=h18.mono le12;have hle:=hle.trans le12;obtain ⟨v011,rfl,h31⟩:=yM h30;obtain ⟨p14,c14,rfl⟩:=h31.form;exact xI 2 (cAff y17 p14 c14) [hB r01 (cRd y16 p11 c11),hB b4 (cAff y7 p4 c4),hB b2 (cAff y17 p14 c14),hB b zTwo] rfl rfl rfl rfl<|yN rfl<|yS [(0,vP r01 0),(4,vP b 0),(5,vP b2 0),(6,vP b4 0)]<|yB ⟨_,_,_,_,_,_,(zD hM).symm,hle,h31,h18,rfl,rfl⟩
       intro hc2 hM;refine zB<|yK 1 [] [(32,vI y12)] ?_;obtain ⟨y18,hy8,hM⟩:=zC hM;refine yQ (nY y12 _ hy8 ) ?_;rintro imm015 hs2 v2 k2 le13 - ⟨v012,rfl,rfl,⟨cs3,rfl,h32⟩⟩ -;have h17:=h17.mono le13;have hle:=hle.trans le13;obtain ⟨v013,rfl,h33⟩:=yM h32;obtain ⟨p15,c15,rfl⟩:=h33.form;obtain ⟨y19,hy9,hM⟩:=zC hM;refine yQ (vE 1 _ hy9 ) ?_;rintro imm016 hs2 v2 k2 le14 - ⟨p16,c16,cs4,rfl,rfl,h34⟩ -;have h33:=h33.mono le14;have h17:=h17.mono le14;have hle:=hle.trans le14;refine yL 0 rfl ?_;intro imm017 le15 hl04;have h35:=SL.of_frozen hl04 le15 h34;have h33:=h33.mono le15;have h17:=h17.mono le15;have hle:=hle.trans le15;obtain ⟨y20,hy10,hM⟩:=zC hM;refine yQ (gS y18 1 y19 1 _ hy10 h33 h35) ?_;rintro imm018 hs2 v2 k2 le16 - ⟨v014,rfl,rfl,⟨cs5,rfl,h36⟩⟩ -;have h17:=h17.mono le16;have hle:=hle.trans le16;obtain ⟨v015,rfl,h37⟩:=yM h36;obtain ⟨p17,c17,rfl⟩:=h37.form;exact xI 1 (cAff y20 p17 c17) [hB r01 (cRd y16 p11 c11),hB b4 (cAff y20 p17 c17),hB b2 (cAff y3 p2 c2),hB b zTwo] rfl rfl rfl rfl<|yN rfl<|yS [(0,vP r01 0),(4,vP b 0),(5,vP b2 0),(6,vP b4 0)]<|yB ⟨_,_,_,_,_,_,(zD hM).symm,hle,h17,h37,rfl,rfl⟩
     rintro imm013 hs2 m2 ⟨x4,x5,p12,c12,p13,c13,heq1,le17,h28,h29,rfl,rfl⟩;subst o02;have h27:=h27.mono le17;have hle:=hle.trans le17;exact wB (zL [1,0,2,3] rfl (by decide))<|yS [(0,vP r01 0),(4,vP b 0),(5,vP b2 0),(6,vP b4 0)]<|yB ⟨_,_,_,_,_,_,_,_,_,(zD hMc2).symm,hle,h28,h29,h27,rfl,rfl⟩
   intro hc1 hM;exact yE<|yS [(0,vP r01 0),(4,vP b 0),(5,vP b2 0),(6,vP b4 0)]<|yB ⟨_,_,_,_,_,_,_,_,_,(zD hM).symm,hle,h17,h18,h13,rfl,rfl⟩
 rintro imm010 hs2 m2 ⟨x1,x2,x3,p7,c7,p8,c8,p9,c9,heq2,le18,h19,h20,h21,rfl,rfl⟩;subst o01;have hle:=hle.trans le18;refine zF<|zG<|zB<|yK 1 [2] [(36,vA (cAff x1 p7 c7))]<|xV (cAff x1 p7 c7) zA ?_;intro b5 hb5;have h38:RL imm010 (cAff x1 p7 c7) ([x1]:List zA):=⟨(cAff x1 p7 c7),_,rfl,rfl,(yR ⟨_,rfl,h19⟩),rfl⟩;refine yK 3 [1] [(38,vA (cAff x2 p8 c8))]<|xV (cAff x2 p8 c8) zA ?_;intro b6 hb6;have h39:RL imm010 (cAff x2 p8 c8) ([x2]:List zA):=⟨(cAff x2 p8 c8),_,rfl,rfl,(yR ⟨_,rfl,h20⟩),rfl⟩;refine yK 5 [] [(40,vA [vS (some ⟨b5,0,none⟩) ([x1]:List zA) 1,vS (some ⟨b6,0,none⟩) ([x2]:List zA) 1])]<|uB zTwo ?_;intro b7 hb7;refine xI 0 [vS (some ⟨b5,0,none⟩) ([x1]:List zA) 1,vS (some ⟨b6,0,none⟩) ([x2]:List zA) 1] [hB b7 [vS (some ⟨b5,0,none⟩) ([x1]:List zA) 1,vS (some ⟨b6,0,none⟩) ([x2]:List zA) 1],hO zA (vS (some ⟨b6,0,none⟩) ([x2]:List zA) 1) (cAff x2 p8 c8),hO zA (vS (some ⟨b5,0,none⟩) ([x1]:List zA) 1) (cAff x1 p7 c7),hB b4 (cAff x2 p8 c8),hB r01 (cRd x3 p9 c9),hB b2 (cAff x1 p7 c7),hB b zTwo] rfl rfl rfl rfl<|yN rfl<|zF<|zG<|zG<|zB<|yK 1 [] [(41,vP r01 0)]<|rY (zL [4,0,1,2,3,5,6] (hs':=[hB r01 (cRd x3 p9 c9),hB b7 [vS (some ⟨b5,0,none⟩) ([x1]:List zA) 1,vS (some ⟨b6,0,none⟩) ([x2]:List zA) 1],hO zA (vS (some ⟨b6,0,none⟩) ([x2]:List zA) 1) (cAff x2 p8 c8),hO zA (vS (some ⟨b5,0,none⟩) ([x1]:List zA) 1) (cAff x1 p7 c7),hB b4 (cAff x2 p8 c8),hB b2 (cAff x1 p7 c7),hB b zTwo]) rfl (by decide)) ?_;obtain ⟨⟨y22,y23⟩,hy11,hM⟩:=zC hMc1;refine tV [hB r01 (cRd x3 p9 c9)] [hB b7 [vS (some ⟨b5,0,none⟩) ([x1]:List zA) 1,vS (some ⟨b6,0,none⟩) ([x2]:List zA) 1],hO zA (vS (some ⟨b6,0,none⟩) ([x2]:List zA) 1) (cAff x2 p8 c8),hO zA (vS (some ⟨b5,0,none⟩) ([x1]:List zA) 1) (cAff x1 p7 c7),hB b4 (cAff x2 p8 c8),hB b2 (cAff x1 p7 c7),hB b zTwo] (xL x3 12 _ hy11 h21) ?_;rintro imm019 hs2 v2 k2 le19 - ⟨v016,kk5,rfl,rfl,rfl,h41⟩ -;have h38:=iM le19 h38;have h39:=iM le19 h39;have hle:=hle.trans le19;obtain ⟨v017,rfl,h42⟩:=yJ h41;obtain ⟨p18,c18,rfl⟩:=h42.form;refine yN rfl<|zF<|yC<|zG<|zB<|yA [] [(43,.bool (y22 == 0))]<|zF<|qW 4 rfl ?_;intro imm020 le20 hl05;have hat:At imm020 ⟨b4,0,none⟩ (cAff x2 p8 c8):=At.of_blk hl05;have h42:=h42.mono le20;have h38:=iM le20 h38;have h39:=iM le20 h39;have hle:=hle.trans le20;refine qW 4 rfl ?_;intro imm021 le21 hl06;have hat1:At imm021 ⟨b2,0,none⟩ (cAff x1 p7 c7):=At.of_blk hl06;have h42:=h42.mono le21;have h38:=iM le21 h38;have h39:=iM le21 h39;have hle:=hle.trans le21;obtain ⟨o03,ho03,hMc3⟩:=zC hM;refine yT (fun imm' hs' m'=>∃ (Lo:List zA) (Hi:List zA) (x6:zO) (p19:Option Addr) (c19:Nat) (cs6:List Value) (p20:Option Addr) (c20:Nat) (cs7:List Value) (p21:Option Addr) (c21:Nat),o03=(Lo,Hi,x6)∧imm021.le imm'∧(RL imm' cs6 Lo)∧(RL imm' cs7 Hi)∧(S4 imm' p21 x6.b c21)∧hs'=[hB r01 (cRd x6 p21 c21),hB b7 [vS p19 Lo c19,vS p20 Hi c20],hO zA (vS p20 Hi c20) cs7,hO zA (vS p19 Lo c19) cs6,hB b zTwo]∧m'=[(4,vP b 0),(8,vP b7 0)]) ?_ ?_
 · have hle:=iS imm021;refine yO ho03 ?_ ?_
   · intro hc3 hM;obtain ⟨⟨y25,y26⟩,hy12,hM⟩:=zC hM;obtain ⟨y27,hy13,hM⟩:=zC hM;obtain ⟨l,hy14,hM⟩:=zC hM;refine vC [.p (vP b7 1) [],.p (vS (some ⟨b6,0,none⟩) ([x2]:List zA) 1) [0],.p (vP r01 0) [],.x (fun imm' v hx=>∃ b8,v=vS (some ⟨b8,0,none⟩) ([3,2,4]:List Int) 3∧hx=[]∧(SL imm' (vS (some ⟨b8,0,none⟩) ([3,2,4]:List Int) 3) ([3,2,4]:List Int))),.x (fun imm' v hx=>∃ p22 c22,v=vI y25∧hx=[hB r01 (cRd y26 p22 c22)]∧(S4 imm' p22 y26.b c22)),.x (fun imm' v hx=>∃ p23 c23 cs8,v=vA (cAff y27 p23 c23)∧hx=[hO Int (vS p23 y27.Coefs c23) cs8]∧(RL imm' cs8 y27.Coefs)),.x (fun imm' v hx=>∃ b9,v=vS (some ⟨b9,0,none⟩) ([y27]:List zA) 1∧hx=[]∧(SL imm' (vS (some ⟨b9,0,none⟩) ([y27]:List zA) 1) ([y27]:List zA))),.x (fun imm' v hx=>∃ p24 c24 cs9,v=vS p24 l c24∧hx=[hO zA (vS p24 l c24) cs9]∧(RL imm' cs9 l))] [[],[(0,false)],[],[],[(2,false),(3,false),(10,true)],[(4,false)],[(5,true)],[(1,false),(6,false),(11,true)]] [hB b7 [vS (some ⟨b5,0,none⟩) ([x1]:List zA) 1,vS (some ⟨b6,0,none⟩) ([x2]:List zA) 1],hO zA (vS (some ⟨b5,0,none⟩) ([x1]:List zA) 1) (cAff x1 p7 c7),hB b zTwo] [[hB r01 (cRd y23 p18 c18)],[hO zA (vS (some ⟨b6,0,none⟩) ([x2]:List zA) 1) (cAff x2 p8 c8)]] [(4,true),(7,true)] (zL [1,3,4,0,2] rfl (by decide)) ?_ ?_
     · refine Op<|Op<|Op<|Ox ?_<|Ox ?_<|Ox ?_<|Ox ?_<|Ox ?_<|On
       · intro imm1 hf le1;refine zM<|yG [] ?_;have hle:=iS imm1;refine xV [vI 3,vI 2,vI 4] Int ?_;intro b8 hb8;have h46:RL imm1 [vI 3,vI 2,vI 4] ([3,2,4]:List Int):=⟨[vI 3],_,rfl,rfl,rfl,⟨[vI 2],_,rfl,rfl,rfl,⟨[vI 4],_,rfl,rfl,rfl,rfl⟩⟩⟩;refine yL 0 rfl ?_;intro imm023 le22 hl07;have h47:=SL.of_frozen hl07 le22 h46;have hle:=hle.trans le22;exact zZ (hx:=[]) rfl hle rfl (zK rfl) ⟨_,rfl,rfl,h47⟩
       · intro imm1 hf le1;refine zE ?_;rintro _ _ ⟨rfl,rfl⟩;refine zE ?_;rintro _ _ ⟨b8,rfl,rfl,h47⟩;refine zE ?_;rintro _ _ rfl;refine zM<|yG [(47,vP r01 0),(48,vS (some ⟨b8,0,none⟩) ([3,2,4]:List Int) 3)] ?_;have hle:=iS imm1;have h42:=h42.mono le1;refine tV [hB r01 (cRd y23 p18 c18)] (hB b7 [vS (some ⟨b5,0,none⟩) ([x1]:List zA) 1,vS (some ⟨b6,0,none⟩) ([x2]:List zA) 1]::hO zA (vS (some ⟨b5,0,none⟩) ([x1]:List zA) 1) (cAff x1 p7 c7)::hB b zTwo::hf) (xE y23 ([3,2,4]:List Int) _ hy12 h42 h47) ?_;rintro imm024 hs2 v2 k2 le23 - ⟨v018,kk6,rfl,rfl,rfl,h49⟩ -;have hle:=hle.trans le23;obtain ⟨v019,rfl,h50⟩:=yJ h49;obtain ⟨p22,c22,rfl⟩:=h50.form;exact zZ (hx:=[hB r01 (cRd y26 p22 c22)]) rfl hle rfl (zK rfl) ⟨_,_,rfl,rfl,h50⟩
       · intro imm1 hf le1;refine zE ?_;rintro _ _ ⟨p22,c22,rfl,rfl,h50⟩;refine zM<|yG [(49,vI y25)] ?_;have hle:=iS imm1;refine yQ (vE y25 _ hy13 ) ?_;rintro imm025 hs2 v2 k2 le24 - ⟨p23,c23,cs8,rfl,rfl,h51⟩ -;have hle:=hle.trans le24;exact zZ (hx:=[hO Int (vS p23 y27.Coefs c23) cs8]) rfl hle rfl (zK rfl) ⟨_,_,_,rfl,rfl,h51⟩
       · intro imm1 hf le1;refine zE ?_;rintro _ _ ⟨p23,c23,cs8,rfl,rfl,h51⟩;refine zM<|yG [(50,vA (cAff y27 p23 c23))] ?_;have hle:=iS imm1;refine yL 0 rfl ?_;intro imm026 le25 hl08;have h52:=SL.of_frozen hl08 le25 h51;have hle:=hle.trans le25;refine xV (cAff y27 p23 c23) zA ?_;intro b9 hb9;have h53:RL imm026 (cAff y27 p23 c23) ([y27]:List zA):=⟨(cAff y27 p23 c23),_,rfl,rfl,(yR ⟨_,rfl,h52⟩),rfl⟩;refine yL 0 rfl ?_;intro imm027 le26 hl09;have h54:=SL.of_frozen hl09 le26 h53;have hle:=hle.trans le26;exact zZ (hx:=[]) rfl hle rfl (zK rfl) ⟨_,rfl,rfl,h54⟩
       intro imm1 hf le1;refine zE ?_;rintro _ _ ⟨rfl,rfl⟩;refine zE ?_;rintro _ _ ⟨b9,rfl,rfl,h54⟩;refine zE ?_;rintro _ _ rfl;refine zM<|yG [(46,vS (some ⟨b6,0,none⟩) ([x2]:List zA) 1),(51,vS (some ⟨b9,0,none⟩) ([y27]:List zA) 1)] ?_;have hle:=iS imm1;have h39:=iM le1 h39;obtain ⟨ccs,k0,k01⟩:=h54;have h54:SL imm1 (vS (some ⟨b9,0,none⟩) ([y27]:List zA) 1) ([y27]:List zA):=⟨_,k0,k01⟩;refine qQ 45 2 0 rfl rfl rfl h39 (.inl k0) k01 hy14 ?_;intro p24 c24 cs9 h55;exact uP (hs':=(hO zA (vS p24 l c24) cs9::hB b7 [vS (some ⟨b5,0,none⟩) ([x1]:List zA) 1,vS (some ⟨b6,0,none⟩) ([x2]:List zA) 1]::hO zA (vS (some ⟨b5,0,none⟩) ([x1]:List zA) 1) (cAff x1 p7 c7)::hB b zTwo::hf)) rfl<|zZ (hx:=[hO zA (vS p24 l c24) cs9]) rfl hle rfl (zK rfl) ⟨_,_,_,rfl,rfl,h55⟩
     intro imm028 le27;refine zE ?_;rintro _ _ ⟨p22,c22,rfl,rfl,h50⟩;refine zE ?_;rintro _ _ ⟨p24,c24,cs9,rfl,rfl,h55⟩;refine zM<|yG [(4,vP b 0),(8,vP b7 0),(52,vS p24 l c24)] ?_;have h38:=iM le27 h38;have hle:=hle.trans le27;exact yK 9 [] [(53,vP b7 1)]<|xI 2 [vS (some ⟨b5,0,none⟩) ([x1]:List zA) 1,vS p24 l c24] [hO zA (vS p24 l c24) cs9,hB r01 (cRd y26 p22 c22),hB b7 [vS (some ⟨b5,0,none⟩) ([x1]:List zA) 1,vS p24 l c24],hO zA (vS (some ⟨b5,0,none⟩) ([x1]:List zA) 1) (cAff x1 p7 c7),hB b zTwo] rfl rfl rfl rfl<|yN rfl<|wB (zL [1,2,0,3,4] rfl (by decide))<|yS [(4,vP b 0),(8,vP b7 0)]<|yB ⟨_,_,_,_,_,_,_,_,_,_,_,(zD hM).symm,hle,h38,h55,h50,rfl,rfl⟩
   intro hc3 hM;refine zG<|zB<|yA [] [(54,.bool (y22 == 1))]<|zF ?_;obtain ⟨o04,ho04,hMc4⟩:=zC hM;refine yT (fun imm' hs' m'=>∃ (Lo1:List zA) (x7:zO) (p25:Option Addr) (c25:Nat) (cs10:List Value) (p26:Option Addr) (c26:Nat),o04=(Lo1,x7)∧imm021.le imm'∧(RL imm' cs10 Lo1)∧(S4 imm' p26 x7.b c26)∧hs'=[hB r01 (cRd x7 p26 c26),hB b7 [vS p25 Lo1 c25,vS (some ⟨b6,0,none⟩) ([x2]:List zA) 1],hO zA (vS (some ⟨b6,0,none⟩) ([x2]:List zA) 1) (cAff x2 p8 c8),hO zA (vS p25 Lo1 c25) cs10,hB b zTwo]∧m'=[(4,vP b 0),(8,vP b7 0)]) ?_ ?_
   · have hle:=iS imm021;refine yO ho04 ?_ ?_
     · intro hc4 hM;obtain ⟨⟨y29,y30⟩,hy15,hM⟩:=zC hM;obtain ⟨y31,hy16,hM⟩:=zC hM;obtain ⟨l1,hy17,hM⟩:=zC hM;refine vC [.p (vP b7 0) [],.p (vS (some ⟨b5,0,none⟩) ([x1]:List zA) 1) [0],.p (vP r01 0) [],.x (fun imm' v hx=>∃ b10,v=vS (some ⟨b10,0,none⟩) ([0,1]:List Int) 2∧hx=[]∧(SL imm' (vS (some ⟨b10,0,none⟩) ([0,1]:List Int) 2) ([0,1]:List Int))),.x (fun imm' v hx=>∃ p27 c27,v=vI y29∧hx=[hB r01 (cRd y30 p27 c27)]∧(S4 imm' p27 y30.b c27)),.x (fun imm' v hx=>∃ p28 c28 cs11,v=vA (cAff y31 p28 c28)∧hx=[hO Int (vS p28 y31.Coefs c28) cs11]∧(RL imm' cs11 y31.Coefs)),.x (fun imm' v hx=>∃ b11,v=vS (some ⟨b11,0,none⟩) ([y31]:List zA) 1∧hx=[]∧(SL imm' (vS (some ⟨b11,0,none⟩) ([y31]:List zA) 1) ([y31]:List zA))),.x (fun imm' v hx=>∃ p29 c29 cs12,v=vS p29 l1 c29∧hx=[hO zA (vS p29 l1 c29) cs12]∧(RL imm' cs12 l1))] [[],[(0,false)],[],[],[(2,false),(3,false),(10,true)],[(4,false)],[(5,true)],[(1,false),(6,false),(11,true)]] [hB b7 [vS (some ⟨b5,0,none⟩) ([x1]:List zA) 1,vS (some ⟨b6,0,none⟩) ([x2]:List zA) 1],hO zA (vS (some ⟨b6,0,none⟩) ([x2]:List zA) 1) (cAff x2 p8 c8),hB b zTwo] [[hB r01 (cRd y23 p18 c18)],[hO zA (vS (some ⟨b5,0,none⟩) ([x1]:List zA) 1) (cAff x1 p7 c7)]] [(4,true),(7,true)] (zL [1,2,4,0,3] rfl (by decide)) ?_ ?_
       · refine Op<|Op<|Op<|Ox ?_<|Ox ?_<|Ox ?_<|Ox ?_<|Ox ?_<|On
         · intro imm1 hf le1;refine zM<|yG [] ?_;have hle:=iS imm1;refine xV [vI 0,vI 1] Int ?_;intro b10 hb10;have h58:RL imm1 [vI 0,vI 1] ([0,1]:List Int):=⟨[vI 0],_,rfl,rfl,rfl,⟨[vI 1],_,rfl,rfl,rfl,rfl⟩⟩;refine yL 0 rfl ?_;intro imm030 le28 hl010;have h59:=SL.of_frozen hl010 le28 h58;have hle:=hle.trans le28;exact zZ (hx:=[]) rfl hle rfl (zK rfl) ⟨_,rfl,rfl,h59⟩
         · intro imm1 hf le1;refine zE ?_;rintro _ _ ⟨rfl,rfl⟩;refine zE ?_;rintro _ _ ⟨b10,rfl,rfl,h59⟩;refine zE ?_;rintro _ _ rfl;refine zM<|yG [(58,vP r01 0),(59,vS (some ⟨b10,0,none⟩) ([0,1]:List Int) 2)] ?_;have hle:=iS imm1;have h42:=h42.mono le1;refine tV [hB r01 (cRd y23 p18 c18)] (hB b7 [vS (some ⟨b5,0,none⟩) ([x1]:List zA) 1,vS (some ⟨b6,0,none⟩) ([x2]:List zA) 1]::hO zA (vS (some ⟨b6,0,none⟩) ([x2]:List zA) 1) (cAff x2 p8 c8)::hB b zTwo::hf) (xE y23 ([0,1]:List Int) _ hy15 h42 h59) ?_;rintro imm031 hs2 v2 k2 le29 - ⟨v020,kk7,rfl,rfl,rfl,h61⟩ -;have hle:=hle.trans le29;obtain ⟨v021,rfl,h62⟩:=yJ h61;obtain ⟨p27,c27,rfl⟩:=h62.form;exact zZ (hx:=[hB r01 (cRd y30 p27 c27)]) rfl hle rfl (zK rfl) ⟨_,_,rfl,rfl,h62⟩
         · intro imm1 hf le1;refine zE ?_;rintro _ _ ⟨p27,c27,rfl,rfl,h62⟩;refine zM<|yG [(60,vI y29)] ?_;have hle:=iS imm1;refine yQ (vE y29 _ hy16 ) ?_;rintro imm032 hs2 v2 k2 le30 - ⟨p28,c28,cs11,rfl,rfl,h63⟩ -;have hle:=hle.trans le30;exact zZ (hx:=[hO Int (vS p28 y31.Coefs c28) cs11]) rfl hle rfl (zK rfl) ⟨_,_,_,rfl,rfl,h63⟩
         · intro imm1 hf le1;refine zE ?_;rintro _ _ ⟨p28,c28,cs11,rfl,rfl,h63⟩;refine zM<|yG [(61,vA (cAff y31 p28 c28))] ?_;have hle:=iS imm1;refine yL 0 rfl ?_;intro imm033 le31 hl011;have h64:=SL.of_frozen hl011 le31 h63;have hle:=hle.trans le31;refine xV (cAff y31 p28 c28) zA ?_;intro b11 hb11;have h65:RL imm033 (cAff y31 p28 c28) ([y31]:List zA):=⟨(cAff y31 p28 c28),_,rfl,rfl,(yR ⟨_,rfl,h64⟩),rfl⟩;refine yL 0 rfl ?_;intro imm034 le32 hl012;have h66:=SL.of_frozen hl012 le32 h65;have hle:=hle.trans le32;exact zZ (hx:=[]) rfl hle rfl (zK rfl) ⟨_,rfl,rfl,h66⟩
         intro imm1 hf le1;refine zE ?_;rintro _ _ ⟨rfl,rfl⟩;refine zE ?_;rintro _ _ ⟨b11,rfl,rfl,h66⟩;refine zE ?_;rintro _ _ rfl;refine zM<|yG [(57,vS (some ⟨b5,0,none⟩) ([x1]:List zA) 1),(62,vS (some ⟨b11,0,none⟩) ([y31]:List zA) 1)] ?_;have hle:=iS imm1;have h38:=iM le1 h38;obtain ⟨ccs1,k02,k03⟩:=h66;have h66:SL imm1 (vS (some ⟨b11,0,none⟩) ([y31]:List zA) 1) ([y31]:List zA):=⟨_,k02,k03⟩;refine qQ 45 2 0 rfl rfl rfl h38 (.inl k02) k03 hy17 ?_;intro p29 c29 cs12 h67;exact uP (hs':=(hO zA (vS p29 l1 c29) cs12::hB b7 [vS (some ⟨b5,0,none⟩) ([x1]:List zA) 1,vS (some ⟨b6,0,none⟩) ([x2]:List zA) 1]::hO zA (vS (some ⟨b6,0,none⟩) ([x2]:List zA) 1) (cAff x2 p8 c8)::hB b zTwo::hf)) rfl<|zZ (hx:=[hO zA (vS p29 l1 c29) cs12]) rfl hle rfl (zK rfl) ⟨_,_,_,rfl,rfl,h67⟩
       intro imm035 le33;refine zE ?_;rintro _ _ ⟨p27,c27,rfl,rfl,h62⟩;refine zE ?_;rintro _ _ ⟨p29,c29,cs12,rfl,rfl,h67⟩;refine zM<|yG [(4,vP b 0),(8,vP b7 0),(63,vS p29 l1 c29)] ?_;have hle:=hle.trans le33;exact yK 9 [] [(64,vP b7 0)]<|xI 2 [vS p29 l1 c29,vS (some ⟨b6,0,none⟩) ([x2]:List zA) 1] [hO zA (vS p29 l1 c29) cs12,hB r01 (cRd y30 p27 c27),hB b7 [vS p29 l1 c29,vS (some ⟨b6,0,none⟩) ([x2]:List zA) 1],hO zA (vS (some ⟨b6,0,none⟩) ([x2]:List zA) 1) (cAff x2 p8 c8),hB b zTwo] rfl rfl rfl rfl<|yN rfl<|wB (zL [1,2,3,0,4] rfl (by decide))<|yS [(4,vP b 0),(8,vP b7 0)]<|yB ⟨_,_,_,_,_,_,_,(zD hM).symm,hle,h67,h62,rfl,rfl⟩
     intro hc4 hM;exact yE<|yS [(4,vP b 0),(8,vP b7 0)]<|yB ⟨_,_,_,_,_,_,_,(zD hM).symm,hle,h38,h42,rfl,rfl⟩
   rintro imm029 hs2 m2 ⟨Lo1,x7,p25,c25,cs10,p26,c26,heq3,le34,h56,h57,rfl,rfl⟩;subst o04;have h39:=iM le34 h39;have hle:=hle.trans le34;exact yS [(4,vP b 0),(8,vP b7 0)]<|yB ⟨_,_,_,_,_,_,_,_,_,_,_,(zD hMc4).symm,hle,h56,h39,h57,rfl,rfl⟩
 rintro imm022 hs2 m2 ⟨Lo,Hi,x6,p19,c19,cs6,p20,c20,cs7,p21,c21,heq4,le35,h43,h44,h45,rfl,rfl⟩;subst o03;refine zY<|zF<|zG<|zB<|yK 1 [1] [(65,vA [vS p19 Lo c19,vS p20 Hi c20])]<|xI 4 [vS p19 Lo c19,vS p20 Hi c20] [hB r01 (cRd x6 p21 c21),hB b7 [vS p19 Lo c19,vS p20 Hi c20],hO zA (vS p20 Hi c20) cs7,hO zA (vS p19 Lo c19) cs6,hB b [vS p19 Lo c19,vS p20 Hi c20]] rfl rfl rfl rfl<|yN rfl<|zF<|yI<|xJ 3 rfl ?_;intro imm036 le36 hl013;have h68:=SL.of_frozen hl013 le36 h43;have h45:=h45.mono le36;have h44:=iM le36 h44;refine xJ 2 rfl ?_;intro imm037 le37 hl014;have h69:=SL.of_frozen hl014 le37 h44;have h45:=h45.mono le37;have h68:=h68.mono le37;obtain rfl:=zD hMc3;exact yP ⟨_,_,(.cell 2 rfl rfl (by kernel_rfl) ResV.nil),(zL [0] rfl (by decide)),⟨_,_,rfl,rfl,⟨_,rfl,(qY ⟨_,_,rfl,h68,h69⟩)⟩,(yU ⟨_,rfl,h45⟩)⟩⟩
def zCk (b0:Nat) (r:(List zI)×zO):KT:=fun kk imm' hs' v=>
  ∃ v0 k0,hs'=[.blk b0 ⟨k0⟩]∧v=tupV [v0]∧SL imm' v0 r.1∧Rp.rep imm' k0 r.2
def rF (out:List zI) (i:Int) (x:zO):Option ((List zI×zO)):=do
 if (decide (i > 0)) then
  let (y4,y5)←nZ x (out.length:Int)
  let out2←app 48 out ([y4]:List zI)
  rF out2 (W (i - 1)) y5
 else
  pure (out,x)
 partial_fixpoint
theorem zBy :∀ (out:List zI) (i:Int) (x:zO) (o:(List zI×zO)),rF out i x=some o→∀ {B}{imm0 imm:Imm}{Q}  {r01:Nat}{p2 c2 cs p3 c3},imm0.le imm→(RL imm cs out)→(S4 imm p3 x.b c3)→(∀ gl a w,¬Q (.goto gl) a w)→(∀ a w,¬Q .outgrown a w)→(∀ (imm':Imm) (out1:List zI) (x1:zO) (p4:Option Addr) (c4:Nat) (cs1:List Value) (p5:Option Addr) (c5:Nat),o=(out1,x1)→imm0.le imm'→(RL imm' cs1 out1)→(S4 imm' p5 x1.b c5)→T 21 B Q (.exit 0) imm' [hB r01 (cRd x1 p5 c5),hO zI (vS p4 out1 c4) cs1] [(3,vS p4 out1 c4)])→J Tryz.prog 21 B (nav (bodyOf Tryz.f168) [1,1,0,1,0]) Q imm [hB r01 (cRd x p3 c3),hO zI (vS p2 out c2) cs] [(0,vP r01 0),(3,vS p2 out c2),(4,vI i)]:=by
 refine rF.partial_correctness  _ ?_;intro self ih out i x o hM B imm0 imm Q r01 p2 c2 cs p3 c3 hle h7 h8 hg ho hx;refine xA hg ho<|zG<|zG<|zB<|yA [] [(10,.bool (decide (i > 0)))]<|zF<|yO hM ?_ ?_
 · intro hc hM;refine yE<|zF<|zG<|yC<|zB<|yK 4 [] [(13,vS p2 out c2),(14,vP r01 0),(16,vI (out.length:Int))] ?_;obtain ⟨⟨y4,y5⟩,hy1,hM⟩:=zC hM;refine tV [hB r01 (cRd x p3 c3)] [hO zI (vS p2 out c2) cs] (zDt x (out.length:Int) _ hy1 h8) ?_;rintro imm02 hs2 v2 k2 le2 - ⟨v02,kk1,rfl,rfl,⟨cs2,rfl,h11⟩,h12⟩ -;have h7:=iM le2 h7;have hle:=hle.trans le2;obtain ⟨v03,v04,rfl,h13,h14⟩:=vH h11;obtain ⟨p6,c6,rfl⟩:=h13.form;obtain ⟨p7,c7,rfl⟩:=h14.form;obtain ⟨v05,rfl,h15⟩:=yJ h12;obtain ⟨p8,c8,rfl⟩:=h15.form;refine xV (cLoop y4 p6 c6 p7 c7) zI ?_;intro b2 hb2;have h16:RL imm02 (cLoop y4 p6 c6 p7 c7) ([y4]:List zI):=⟨(cLoop y4 p6 c6 p7 c7),_,rfl,rfl,(qY ⟨_,_,rfl,h13,h14⟩),rfl⟩;obtain ⟨out2,hy2,hM⟩:=zC hM;refine qQ 113 2 2 rfl rfl rfl h7 (.inr ⟨0,rfl⟩) h16 hy2 ?_;intro p9 c9 cs3 h17;exact rY (zL [1,2] (hs':=[hB r01 (cRd y5 p8 c8),hO zI (vS p9 out2 c9) cs3]) rfl (by decide))<|yA [] [(3,vS p9 out2 c9)]<|zY<|zF<|zB<|yA [] [(4,vI (W (i - 1)))]<|xB<|vG [(0,vP r01 0),(3,vS p9 out2 c9),(4,vI (W (i - 1)))]<|ih out2 (W (i - 1)) y5 _ hM hle h17 h15 hg ho hx
 intro hc hM;exact yZ<|zS<|zS<|yS [(3,vS p2 out c2)]<|hx _ _ _ _ _ _ _ _ (zD hM).symm hle h7 h8
def mA (r0:zO):Option ((List zI)×zO):=do
 let (y1,y2)←yV r0 ([2,1,2,3]:List Int)
 let (out1,x1)←rF ([]:List zI) y1 y2
 pure (out1,x1)
theorem zDu:∀ (r0:zO) r,mA r0=some r→∀ {imm:Imm}{r01:Nat}{p c},(S4 imm p r0.b c)→Ret Tryz.prog 168 [vP r01 0] imm [hB r01 (cRd r0 p c)] (zCk r01 r):=by
 intro r0 r hM imm r01 p c h;unfold mA at hM;refine yH (fn:=Tryz.f168) (c:=(bodyOf Tryz.f168)) Tryz.func168 rfl rfl ?_;rintro B - -;refine zG<|zB<|yA [] []<|zF<|zG<|zB<|xV [] zI ?_;intro b hb;have h1:RL imm [] ([]:List zI):=rfl;refine yA [] [(3,vS (some ⟨b,0,none⟩) ([]:List zI) 0)]<|zF<|zG<|zG<|zB<|yK 1 [] [(6,vP r01 0)]<|xV [vI 2,vI 1,vI 2,vI 3] Int ?_;intro b1 hb1;have h2:RL imm [vI 2,vI 1,vI 2,vI 3] ([2,1,2,3]:List Int):=⟨[vI 2],_,rfl,rfl,rfl,⟨[vI 1],_,rfl,rfl,rfl,⟨[vI 2],_,rfl,rfl,rfl,⟨[vI 3],_,rfl,rfl,rfl,rfl⟩⟩⟩⟩;refine yL 0 rfl ?_;intro imm0 le hl0;have h3:=SL.of_frozen hl0 le h2;have h1:=iM le h1;have h:=h.mono le;refine rY (zL [1,0] (hs':=[hB r01 (cRd r0 p c),hO zI (vS (some ⟨b,0,none⟩) ([]:List zI) 0) []]) rfl (by decide)) ?_;obtain ⟨⟨y1,y2⟩,hy,hM⟩:=zC hM;refine tV [hB r01 (cRd r0 p c)] [hO zI (vS (some ⟨b,0,none⟩) ([]:List zI) 0) []] (xE r0 ([2,1,2,3]:List Int) _ hy h h3) ?_;rintro imm01 hs2 v2 k2 le1 - ⟨v0,kk,rfl,rfl,rfl,h5⟩ -;have h1:=iM le1 h1;obtain ⟨v01,rfl,h6⟩:=yJ h5;obtain ⟨p1,c1,rfl⟩:=h6.form;refine yA [] [(4,vI y1)]<|zF<|yC<|vG [(0,vP r01 0),(3,vS (some ⟨b,0,none⟩) ([]:List zI) 0),(4,vI y1)] ?_;obtain ⟨o0,ho0,hMl⟩:=zC hM;refine zBy ([]:List zI) y1 y2 o0 ho0 iR h1 h6 (fun _ _ _ h=>h) (fun _ _ h=>h) ?_;intro imm03 out1 x1 p4 c4 cs1 p5 c5 heq le3 h9 h10;subst o0;refine yD<|zF<|zG<|zB<|yA [] [(2,vS p4 out1 c4)]<|zF<|yI<|xJ 1 rfl ?_;intro imm04 le4 hl01;have h18:=SL.of_frozen hl01 le4 h9;have h10:=h10.mono le4;obtain rfl:=zD hMl;exact yP ⟨_,_,(.tmp rfl ResV.nil),(zL [0] rfl (by decide)),⟨_,_,rfl,rfl,h18,(yU ⟨_,rfl,h10⟩)⟩⟩
def zCl (b0:Nat) (r:zN×zO):KT:=fun kk imm' hs' v=>
  ∃ v0 k0,hs'=[.blk b0 ⟨k0⟩]∧v=tupV [v0]∧(∃ cs,v0=.agg ⟨cs⟩∧Rp.rep imm' cs r.1)∧Rp.rep imm' k0 r.2
def rG (depth:Int) (n0:Int) (i:Int) (Subs:List zA) (x:zO):Option ((List zA×zO)):=do
 if (decide (i < n0)) then
  let (y4,y5)←yV x ([0,1,0,2]:List Int)
  let y6←wF y4
  let (t32,x2)←(do
    if (decide (depth > 0)) then
     let (y8,y9)←yW y5 5
     pure ((decide (y8 > 0)),y9)
    else
     pure (false,y5)
      : Option (Bool×zO))
  let (x3,x4)←(do
    if t32 then
     let (y11,y12)←yW x2 depth
     let y13←qL y11
     let (y15,y16)←yV y12 ([1,1,1,2,(-1)]:List Int)
     let (y18,y19)←yV y16 ([0,1,0,0,2]:List Int)
     let y20←wF y18
     let y21←qS y13 y15 y20 1
     pure (y21,y19)
    else
     pure ((zA.mk y6.Coefs y6.Const),x2)
      : Option (zA×zO))
  let l←app 32 Subs ([x3]:List zA)
  rG depth n0 (W (i + 1)) l x4
 else
  pure (Subs,x)
 partial_fixpoint
theorem zBz (depth:Int) (n0:Int):∀ (i:Int) (Subs:List zA) (x:zO) (o:(List zA×zO)),rG depth n0 i Subs x=some o→∀ {B}{imm0 imm:Imm}{Q}{y1:Str}{r01:Nat}{b:Nat}{b2:Nat}{p2 c2 cs p3 c3},imm0.le imm→(RL imm cs Subs)→(S4 imm p3 x.b c3)→(∀ gl a w,¬Q (.goto gl) a w)→(∀ a w,¬Q .outgrown a w)→(∀ (imm':Imm) (Subs1:List zA) (x1:zO) (p4:Option Addr) (c4:Nat) (cs1:List Value) (p5:Option Addr) (c5:Nat),o=(Subs1,x1)→imm0.le imm'→(RL imm' cs1 Subs1)→(S4 imm' p5 x1.b c5)→T 53 B Q (.exit 0) imm' [hO zA (vS p4 Subs1 c4) cs1,hB b2 [vT y1.l,vS p4 Subs1 c4],hB r01 (cRd x1 p5 c5),hB b [vT ([]),z0]] [(4,vP b 0),(5,vP b2 0)])→J Tryz.prog 53 B (nav (bodyOf Tryz.f63) [1,1,1,1,0,1,0]) Q imm [hO zA (vS p2 Subs c2) cs,hB b2 [vT y1.l,vS p2 Subs c2],hB r01 (cRd x p3 c3),hB b [vT ([]),z0]] [(0,vP r01 0),(1,vI depth),(4,vP b 0),(5,vP b2 0),(6,vI n0),(7,vI i)]:=by
 refine rG.partial_correctness depth n0 _ ?_;intro self ih i Subs x o hM B imm0 imm Q y1 r01 b b2 p2 c2 cs p3 c3 hle h7 h8 hg ho hx;refine xA hg ho<|zG<|zG<|zB<|yA [] [(19,.bool (decide (i < n0)))]<|zF<|yO hM ?_ ?_
 · intro hc1 hM;refine yE<|zF<|zG<|yC<|zG<|zB<|yK 1 [] [(22,vP r01 0)]<|xV [vI 0,vI 1,vI 0,vI 2] Int ?_;intro b3 hb3;have h11:RL imm [vI 0,vI 1,vI 0,vI 2] ([0,1,0,2]:List Int):=⟨[vI 0],_,rfl,rfl,rfl,⟨[vI 1],_,rfl,rfl,rfl,⟨[vI 0],_,rfl,rfl,rfl,⟨[vI 2],_,rfl,rfl,rfl,rfl⟩⟩⟩⟩;refine yL 0 rfl ?_;intro imm03 le3 hl01;have h12:=SL.of_frozen hl01 le3 h11;have h7:=iM le3 h7;have h8:=h8.mono le3;have hle:=hle.trans le3;refine rY (zL [2,0,1,3] (hs':=[hB r01 (cRd x p3 c3),hO zA (vS p2 Subs c2) cs,hB b2 [vT y1.l,vS p2 Subs c2],hB b [vT ([]),z0]]) rfl (by decide)) ?_;obtain ⟨⟨y4,y5⟩,hy1,hM⟩:=zC hM;refine tV [hB r01 (cRd x p3 c3)] [hO zA (vS p2 Subs c2) cs,hB b2 [vT y1.l,vS p2 Subs c2],hB b [vT ([]),z0]] (xE x ([0,1,0,2]:List Int) _ hy1 h8 h12) ?_;rintro imm04 hs2 v2 k2 le4 - ⟨v02,kk1,rfl,rfl,rfl,h14⟩ -;have h7:=iM le4 h7;have hle:=hle.trans le4;obtain ⟨v03,rfl,h15⟩:=yJ h14;obtain ⟨p6,c6,rfl⟩:=h15.form;obtain ⟨y6,hy2,hM⟩:=zC hM;refine yQ (vE y4 _ hy2 ) ?_;rintro imm05 hs2 v2 k2 le5 - ⟨p7,c7,cs2,rfl,rfl,h16⟩ -;have h15:=h15.mono le5;have h7:=iM le5 h7;have hle:=hle.trans le5;refine uB [z0,vI 0] ?_;intro b4 hb4;refine xI 0 (cAff y6 p7 c7) [hB b4 (cAff y6 p7 c7),hO Int (vS p7 y6.Coefs c7) cs2,hB r01 (cRd y5 p6 c6),hO zA (vS p2 Subs c2) cs,hB b2 [vT y1.l,vS p2 Subs c2],hB b [vT ([]),z0]] rfl rfl rfl rfl<|yN rfl<|zF<|zG<|zG ?_;obtain ⟨o01,ho01,hMc1⟩:=zC hM;refine yT (fun imm' hs' m'=>∃ (t32:Bool) (x2:zO) (p8:Option Addr) (c8:Nat),o01=(t32,x2)∧imm05.le imm'∧(S4 imm' p8 x2.b c8)∧hs'=[hB b4 (cAff y6 p7 c7),hO Int (vS p7 y6.Coefs c7) cs2,hB r01 (cRd x2 p8 c8),hO zA (vS p2 Subs c2) cs,hB b2 [vT y1.l,vS p2 Subs c2],hB b [vT ([]),z0]]∧m'=[(0,vP r01 0),(1,vI depth),(4,vP b 0),(5,vP b2 0),(6,vI n0),(7,vI i),(8,vP b4 0),(32,.bool t32)]) ?_ ?_
   · have hle:=iS imm05;refine zB<|yK 3 [] [(28,.bool (decide (depth > 0)))] ?_;cases hc2:(decide (depth > 0)) with
     | true =>
      have hM0:=zV hc2 ho01
      try rw [hc2]
      refine yK 4 [] [(29,vP r01 0)]<|rY (zL [2,0,1,3,4,5] (hs':=[hB r01 (cRd y5 p6 c6),hB b4 (cAff y6 p7 c7),hO Int (vS p7 y6.Coefs c7) cs2,hO zA (vS p2 Subs c2) cs,hB b2 [vT y1.l,vS p2 Subs c2],hB b [vT ([]),z0]]) rfl (by decide)) ?_;obtain ⟨⟨y8,y9⟩,hy3,hM⟩:=zC hM0;refine tV [hB r01 (cRd y5 p6 c6)] [hB b4 (cAff y6 p7 c7),hO Int (vS p7 y6.Coefs c7) cs2,hO zA (vS p2 Subs c2) cs,hB b2 [vT y1.l,vS p2 Subs c2],hB b [vT ([]),z0]] (xL y5 5 _ hy3 h15) ?_;rintro imm07 hs2 v2 k2 le6 - ⟨v04,kk2,rfl,rfl,rfl,h19⟩ -;have hle:=hle.trans le6;obtain ⟨v05,rfl,h20⟩:=yJ h19;obtain ⟨p9,c9,rfl⟩:=h20.form;exact yA [] [(32,.bool (decide (y8 > 0)))]<|wB (zL [1,2,0,3,4,5] rfl (by decide))<|yS [(0,vP r01 0),(1,vI depth),(4,vP b 0),(5,vP b2 0),(6,vI n0),(7,vI i),(8,vP b4 0),(32,.bool (decide (y8 > 0)))]<|yB ⟨_,_,_,_,(zD hM).symm,hle,h20,rfl,rfl⟩
     | false =>
      have hM01:=zT hc2 ho01
      try rw [hc2]
      exact yA [] [(32,.bool false)]<|yS [(0,vP r01 0),(1,vI depth),(4,vP b 0),(5,vP b2 0),(6,vI n0),(7,vI i),(8,vP b4 0),(32,.bool false)]<|yB ⟨_,_,_,_,(zD hM01).symm,hle,h15,rfl,rfl⟩
   rintro imm06 hs2 m2 ⟨t32,x2,p8,c8,heq1,le7,h17,rfl,rfl⟩;subst o01;have h16:=iM le7 h16;have h7:=iM le7 h7;have hle:=hle.trans le7;refine zF<|qW 1 rfl ?_;intro imm08 le8 hl02;have h21:=SL.of_frozen hl02 le8 h16;have h17:=h17.mono le8;have h7:=iM le8 h7;have hle:=hle.trans le8;obtain ⟨o02,ho02,hMc2⟩:=zC hMc1;refine yT (fun imm' hs' m'=>∃ (x3:zA) (x4:zO) (p10:Option Addr) (c10:Nat) (p11:Option Addr) (c11:Nat),o02=(x3,x4)∧imm08.le imm'∧(S4 imm' p10 x3.Coefs c10)∧(S4 imm' p11 x4.b c11)∧hs'=[hB b4 (cAff x3 p10 c10),hB r01 (cRd x4 p11 c11),hO zA (vS p2 Subs c2) cs,hB b2 [vT y1.l,vS p2 Subs c2],hB b [vT ([]),z0]]∧m'=[(0,vP r01 0),(1,vI depth),(4,vP b 0),(5,vP b2 0),(6,vI n0),(7,vI i),(8,vP b4 0)]) ?_ ?_
   · have hle:=iS imm08;refine yO ho02 ?_ ?_
     · intro hc3 hM;refine zG<|zB<|yK 2 [] [(33,vP r01 0),(34,vI depth)]<|rY (zL [1,0,2,3,4] (hs':=[hB r01 (cRd x2 p8 c8),hB b4 (cAff y6 p7 c7),hO zA (vS p2 Subs c2) cs,hB b2 [vT y1.l,vS p2 Subs c2],hB b [vT ([]),z0]]) rfl (by decide)) ?_;obtain ⟨⟨y11,y12⟩,hy4,hM⟩:=zC hM;refine tV [hB r01 (cRd x2 p8 c8)] [hB b4 (cAff y6 p7 c7),hO zA (vS p2 Subs c2) cs,hB b2 [vT y1.l,vS p2 Subs c2],hB b [vT ([]),z0]] (xL x2 depth _ hy4 h17) ?_;rintro imm010 hs2 v2 k2 le9 - ⟨v06,kk3,rfl,rfl,rfl,h25⟩ -;have hle:=hle.trans le9;obtain ⟨v07,rfl,h26⟩:=yJ h25;obtain ⟨p12,c12,rfl⟩:=h26.form;refine yA [] [(9,vI y11)]<|zF<|zB<|yK 1 [] [(36,vI y11)] ?_;obtain ⟨y13,hy5,hM⟩:=zC hM;refine yQ (nY y11 _ hy5 ) ?_;rintro imm011 hs2 v2 k2 le10 - ⟨v08,rfl,rfl,⟨cs3,rfl,h27⟩⟩ -;have h26:=h26.mono le10;have hle:=hle.trans le10;obtain ⟨v09,rfl,h28⟩:=yM h27;obtain ⟨p13,c13,rfl⟩:=h28.form;refine yK 3 [] [(38,vP r01 0)]<|xV [vI 1,vI 1,vI 1,vI 2,vI (-1)] Int ?_;intro b5 hb5;have h29:RL imm011 [vI 1,vI 1,vI 1,vI 2,vI (-1)] ([1,1,1,2,(-1)]:List Int):=⟨[vI 1],_,rfl,rfl,rfl,⟨[vI 1],_,rfl,rfl,rfl,⟨[vI 1],_,rfl,rfl,rfl,⟨[vI 2],_,rfl,rfl,rfl,⟨[vI (-1)],_,rfl,rfl,rfl,rfl⟩⟩⟩⟩⟩;refine yL 0 rfl ?_;intro imm012 le11 hl03;have h30:=SL.of_frozen hl03 le11 h29;have h28:=h28.mono le11;have h26:=h26.mono le11;have hle:=hle.trans le11;obtain ⟨⟨y15,y16⟩,hy6,hM⟩:=zC hM;refine tV [hB r01 (cRd y12 p12 c12)] [hB b4 (cAff y6 p7 c7),hO zA (vS p2 Subs c2) cs,hB b2 [vT y1.l,vS p2 Subs c2],hB b [vT ([]),z0]] (xE y12 ([1,1,1,2,(-1)]:List Int) _ hy6 h26 h30) ?_;rintro imm013 hs2 v2 k2 le12 - ⟨v010,kk4,rfl,rfl,rfl,h32⟩ -;have h28:=h28.mono le12;have hle:=hle.trans le12;obtain ⟨v011,rfl,h33⟩:=yJ h32;obtain ⟨p14,c14,rfl⟩:=h33.form;refine yK 6 [] [(41,vP r01 0)]<|xV [vI 0,vI 1,vI 0,vI 0,vI 2] Int ?_;intro b6 hb6;have h34:RL imm013 [vI 0,vI 1,vI 0,vI 0,vI 2] ([0,1,0,0,2]:List Int):=⟨[vI 0],_,rfl,rfl,rfl,⟨[vI 1],_,rfl,rfl,rfl,⟨[vI 0],_,rfl,rfl,rfl,⟨[vI 0],_,rfl,rfl,rfl,⟨[vI 2],_,rfl,rfl,rfl,rfl⟩⟩⟩⟩⟩;refine yL 0 rfl ?_;intro imm014 le13 hl04;have h35:=SL.of_frozen hl04 le13 h34;have h28:=h28.mono le13;have h33:=h33.mono le13;have hle:=hle.trans le13;obtain ⟨⟨y18,y19⟩,hy7,hM⟩:=zC hM;refine tV [hB r01 (cRd y16 p14 c14)] [hB b4 (cAff y6 p7 c7),hO zA (vS p2 Subs c2) cs,hB b2 [vT y1.l,vS p2 Subs c2],hB b [vT ([]),z0]] (xE y16 ([0,1,0,0,2]:List Int) _ hy7 h33 h35) ?_;rintro imm015 hs2 v2 k2 le14 - ⟨v012,kk5,rfl,rfl,rfl,h37⟩ -;have h28:=h28.mono le14;have hle:=hle.trans le14;obtain ⟨v013,rfl,h38⟩:=yJ h37;obtain ⟨p15,c15,rfl⟩:=h38.form;obtain ⟨y20,hy8,hM⟩:=zC hM;refine yQ (vE y18 _ hy8 ) ?_;rintro imm016 hs2 v2 k2 le15 - ⟨p16,c16,cs4,rfl,rfl,h39⟩ -;have h28:=h28.mono le15;have h38:=h38.mono le15;have hle:=hle.trans le15;refine yL 0 rfl ?_;intro imm017 le16 hl05;have h40:=SL.of_frozen hl05 le16 h39;have h28:=h28.mono le16;have h38:=h38.mono le16;have hle:=hle.trans le16;obtain ⟨y21,hy9,hM⟩:=zC hM;refine yQ (gS y13 y15 y20 1 _ hy9 h28 h40) ?_;rintro imm018 hs2 v2 k2 le17 - ⟨v014,rfl,rfl,⟨cs5,rfl,h41⟩⟩ -;have h38:=h38.mono le17;have hle:=hle.trans le17;obtain ⟨v015,rfl,h42⟩:=yM h41;obtain ⟨p17,c17,rfl⟩:=h42.form;exact xI 1 (cAff y21 p17 c17) [hB r01 (cRd y19 p15 c15),hB b4 (cAff y21 p17 c17),hO zA (vS p2 Subs c2) cs,hB b2 [vT y1.l,vS p2 Subs c2],hB b [vT ([]),z0]] rfl rfl rfl rfl<|yN rfl<|wB (zL [1,0,2,3,4] rfl (by decide))<|yS [(0,vP r01 0),(1,vI depth),(4,vP b 0),(5,vP b2 0),(6,vI n0),(7,vI i),(8,vP b4 0)]<|yB ⟨_,_,_,_,_,_,(zD hM).symm,hle,h42,h38,rfl,rfl⟩
     intro hc3 hM;exact yE<|yS [(0,vP r01 0),(1,vI depth),(4,vP b 0),(5,vP b2 0),(6,vI n0),(7,vI i),(8,vP b4 0)]<|yB ⟨_,_,_,_,_,_,(zD hM).symm,hle,h21,h17,rfl,rfl⟩
   rintro imm09 hs2 m2 ⟨x3,x4,p10,c10,p11,c11,heq2,le18,h22,h23,rfl,rfl⟩;subst o02;have h7:=iM le18 h7;have hle:=hle.trans le18;refine zF<|zB<|yK 3 [3,0] [(47,vS p2 Subs c2),(48,vA (cAff x3 p10 c10))]<|xV (cAff x3 p10 c10) zA ?_;intro b7 hb7;have h43:RL imm09 (cAff x3 p10 c10) ([x3]:List zA):=⟨(cAff x3 p10 c10),_,rfl,rfl,(yR ⟨_,rfl,h22⟩),rfl⟩;obtain ⟨l,hy10,hM⟩:=zC hMc2;refine qQ 45 2 3 rfl rfl rfl h7 (.inr ⟨0,rfl⟩) h43 hy10 ?_;intro p18 c18 cs6 h44;exact rY (zL [1,2,3,4,5] (hs':=[hB b4 (cAff x3 p10 c10),hB r01 (cRd x4 p11 c11),hO zA (vS p18 l c18) cs6,hB b2 [vT y1.l,vS p2 Subs c2],hB b [vT ([]),z0]]) rfl (by decide))<|yK 6 [] [(51,vP b2 1)]<|xI 3 [vT y1.l,vS p18 l c18] [hB b4 (cAff x3 p10 c10),hB r01 (cRd x4 p11 c11),hO zA (vS p18 l c18) cs6,hB b2 [vT y1.l,vS p18 l c18],hB b [vT ([]),z0]] rfl rfl rfl rfl<|yN rfl<|zY<|zF<|zB<|yA [] [(7,vI (W (i + 1)))]<|xB<|qP (zL [2,3,1,4] rfl (by decide))<|vG [(0,vP r01 0),(1,vI depth),(4,vP b 0),(5,vP b2 0),(6,vI n0),(7,vI (W (i + 1)))]<|ih (W (i + 1)) l x4 _ hM hle h44 h23 hg ho hx
 intro hc1 hM;exact yZ<|zS<|zS<|yS [(4,vP b 0),(5,vP b2 0)]<|hx _ _ _ _ _ _ _ _ (zD hM).symm hle h7 h8
def oB (r0:zO) (depth:Int):Option (zN×zO):=do
 let (y1,y2)←qC r0 ([(⟨[65]⟩:Str),(⟨[66]⟩:Str),(⟨[65]⟩:Str),(⟨[67]⟩:Str)]:List Str)
 let n0←(do
   if (y1.l == ([66]:List UInt8)) then
    pure (id 2)
   else
    pure (id 1)
     : Option Int)
 let (Subs1,x1)←rG depth n0 0 ([]:List zA) y2
 pure ((zN.mk y1 Subs1),x1)
theorem zAJ:∀ (r0:zO) (depth:Int) r,oB r0 depth=some r→∀ {imm:Imm}{r01:Nat}{p c},(S4 imm p r0.b c)→Ret Tryz.prog 63 [vP r01 0,vI depth] imm [hB r01 (cRd r0 p c)] (zCl r01 r):=by
 intro r0 depth r hM imm r01 p c h;unfold oB at hM;refine yH (fn:=Tryz.f63) (c:=(bodyOf Tryz.f63)) Tryz.func63 rfl rfl ?_;rintro B - -;have hle:=iS imm;refine zG<|zB<|uB [vT ([]),z0] ?_;intro b hb;refine yN rfl<|zF<|zG<|zB<|yK 1 [] [(10,vP r01 0)]<|xV [vT ([65]),vT ([66]),vT ([65]),vT ([67])] Str ?_;intro b1 hb1;have h1:RL imm [vT ([65]),vT ([66]),vT ([65]),vT ([67])] ([(⟨[65]⟩:Str),(⟨[66]⟩:Str),(⟨[65]⟩:Str),(⟨[67]⟩:Str)]:List Str):=⟨[vT ([65])],_,rfl,rfl,rfl,⟨[vT ([66])],_,rfl,rfl,rfl,⟨[vT ([65])],_,rfl,rfl,rfl,⟨[vT ([67])],_,rfl,rfl,rfl,rfl⟩⟩⟩⟩;refine yL 0 rfl ?_;intro imm0 le hl0;have h2:=SL.of_frozen hl0 le h1;have h:=h.mono le;have hle:=hle.trans le;refine rY (zL [1,0] (hs':=[hB r01 (cRd r0 p c),hB b [vT ([]),z0]]) rfl (by decide)) ?_;obtain ⟨⟨y1,y2⟩,hy,hM⟩:=zC hM;refine tV [hB r01 (cRd r0 p c)] [hB b [vT ([]),z0]] (kC r0 ([(⟨[65]⟩:Str),(⟨[66]⟩:Str),(⟨[65]⟩:Str),(⟨[67]⟩:Str)]:List Str) _ hy h h2) ?_;rintro imm01 hs2 v2 k2 le1 - ⟨v0,kk,rfl,rfl,rfl,h4⟩ -;have hle:=hle.trans le1;obtain ⟨v01,rfl,h5⟩:=yJ h4;obtain ⟨p1,c1,rfl⟩:=h5.form;refine yK 4 [] [(13,vA [vT y1.l,z0])]<|uB [vT ([]),z0] ?_;intro b2 hb2;refine xI 0 [vT y1.l,z0] [hB b2 [vT y1.l,z0],hB r01 (cRd y2 p1 c1),hB b [vT ([]),z0]] rfl rfl rfl rfl<|yN rfl<|zF<|zG<|zB<|yA [] [(6,vI 1)]<|zF<|zG<|zG<|zB<|yA [0] [(16,.bool (y1.l == ([66]:List UInt8)))]<|zF ?_;obtain ⟨o0,ho0,hMc⟩:=zC hM;refine yT (fun imm' hs' m'=>∃ (n0:Int),o0=n0∧imm01.le imm'∧hs'=[hB b2 [vT y1.l,z0],hB r01 (cRd y2 p1 c1),hB b [vT ([]),z0]]∧m'=[(0,vP r01 0),(1,vI depth),(4,vP b 0),(5,vP b2 0),(6,vI n0)]) ?_ ?_
 · have hle:=iS imm01;refine yO ho0 ?_ ?_
   · intro hc hM;exact zB<|yA [] [(6,vI 2)]<|yS [(0,vP r01 0),(1,vI depth),(4,vP b 0),(5,vP b2 0),(6,vI 2)]<|yB ⟨_,(zD hM).symm,hle,rfl,rfl⟩
   intro hc hM;exact yE<|yS [(0,vP r01 0),(1,vI depth),(4,vP b 0),(5,vP b2 0),(6,vI 1)]<|yB ⟨_,(zD hM).symm,hle,rfl,rfl⟩
 rintro imm02 hs2 m2 ⟨n0,heq,le2,rfl,rfl⟩;subst o0;have h5:=h5.mono le2;refine zF<|zG<|zG<|zB<|yA [] [(7,vI 0)]<|zF<|yC<|vG [(0,vP r01 0),(1,vI depth),(4,vP b 0),(5,vP b2 0),(6,vI n0),(7,vI 0)]<|qP (uS (Rp.sz zA)) ?_;have h6:RL imm02 [] ([]:List zA):=RepL.nil;obtain ⟨o03,ho03,hMl⟩:=zC hMc;refine zBz depth n0 0 ([]:List zA) y2 o03 ho03 iR h6 h5 (fun _ _ _ h=>h) (fun _ _ h=>h) ?_;intro imm019 Subs1 x1 p4 c4 cs1 p5 c5 heq3 le19 h9 h10;subst o03;refine yD<|zF<|zG<|zB<|yK 1 [1] [(52,vA [vT y1.l,vS p4 Subs1 c4])]<|xI 3 [vT y1.l,vS p4 Subs1 c4] [hO zA (vS p4 Subs1 c4) cs1,hB b2 [vT y1.l,vS p4 Subs1 c4],hB r01 (cRd x1 p5 c5),hB b [vT y1.l,vS p4 Subs1 c4]] rfl rfl rfl rfl<|yN rfl<|zF<|yI<|xJ 0 rfl ?_;intro imm020 le20 hl06;have h45:=SL.of_frozen hl06 le20 h9;have h10:=h10.mono le20;obtain rfl:=zD hMl;exact yP ⟨_,_,(.cell 2 rfl rfl (by kernel_rfl) ResV.nil),(zL [1] rfl (by decide)),⟨_,_,rfl,rfl,⟨_,rfl,(qR ⟨_,rfl,h45⟩)⟩,(yU ⟨_,rfl,h10⟩)⟩⟩
def zCm (b0:Nat) (r:zA×zO):KT:=fun kk imm' hs' v=>
  ∃ v0 k0,hs'=[.blk b0 ⟨k0⟩]∧v=tupV [v0]∧(∃ cs,v0=.agg ⟨cs⟩∧Rp.rep imm' cs r.1)∧Rp.rep imm' k0 r.2
def rH (depth:Int) (i:Int) (Coefs:List Int) (x:zO):Option ((List Int×zO)):=do
 if (decide (i < depth)) then
  let (y5,y6)←yV x ([0,1,0,(-1),2,0,9]:List Int)
  let x2←idx Coefs i
  let l←pure (Coefs.set i.toNat y5)
  rH depth (W (i + 1)) l y6
 else
  pure (Coefs,x)
 partial_fixpoint
theorem zCA (depth:Int):∀ (i:Int) (Coefs:List Int) (x:zO) (o:(List Int×zO)),rH depth i Coefs x=some o→∀ {B}{imm0 imm:Imm}{Q}{y3:zA}{r01:Nat}{b:Nat}{b2:Nat}{p3 c3 cs1 p4 c4},imm0.le imm→(RL imm cs1 Coefs)→(S4 imm p4 x.b c4)→(∀ gl a w,¬Q (.goto gl) a w)→(∀ a w,¬Q .outgrown a w)→(∀ (imm':Imm) (Coefs1:List Int) (x1:zO) (p5:Option Addr) (c5:Nat) (cs2:List Value) (p6:Option Addr) (c6:Nat),o=(Coefs1,x1)→imm0.le imm'→(RL imm' cs2 Coefs1)→(S4 imm' p6 x1.b c6)→T 24 B Q (.exit 0) imm' [hB b2 [vS p5 Coefs1 c5,vI y3.Const],hO Int (vS p5 Coefs1 c5) cs2,hB r01 (cRd x1 p6 c6),hB b [z0,vI 0]] [(4,vP b 0),(5,vP b2 0)])→J Tryz.prog 24 B (nav (bodyOf Tryz.f207) [1,1,0,1,0]) Q imm [hB b2 [vS p3 Coefs c3,vI y3.Const],hO Int (vS p3 Coefs c3) cs1,hB r01 (cRd x p4 c4),hB b [z0,vI 0]] [(0,vP r01 0),(1,vI depth),(4,vP b 0),(5,vP b2 0),(6,vI i)]:=by
 refine rH.partial_correctness depth _ ?_;intro self ih i Coefs x o hM B imm0 imm Q y3 r01 b b2 p3 c3 cs1 p4 c4 hle h7 h8 hg ho hx;refine xA hg ho<|zG<|zG<|zB<|yA [] [(13,.bool (decide (i < depth)))]<|zF<|yO hM ?_ ?_
 · intro hc hM;refine yE<|zF<|zG<|yC ?_;obtain ⟨⟨y5,y6⟩,hy2,hM⟩:=zC hM;refine vC [.p (vP b2 0) [],.p (vS p3 Coefs c3) [0],.p (vI i) [],.p (vP r01 0) [],.x (fun imm' v hx=>∃ b3,v=vS (some ⟨b3,0,none⟩) ([0,1,0,(-1),2,0,9]:List Int) 7∧hx=[]∧(SL imm' (vS (some ⟨b3,0,none⟩) ([0,1,0,(-1),2,0,9]:List Int) 7) ([0,1,0,(-1),2,0,9]:List Int))),.x (fun imm' v hx=>∃ p7 c7,v=vI y5∧hx=[hB r01 (cRd y6 p7 c7)]∧(S4 imm' p7 y6.b c7))] [[],[(0,false)],[],[],[],[(3,false),(4,false),(8,true)]] [hB b2 [vS p3 Coefs c3,vI y3.Const],hO Int (vS p3 Coefs c3) cs1,hB b [z0,vI 0]] [[hB r01 (cRd x p4 c4)]] [(1,false),(2,false),(5,true)] (zL [0,1,3,2] rfl (by decide)) ?_ ?_
   · refine Op<|Op<|Op<|Op<|Ox ?_<|Ox ?_<|On
     · intro imm1 hf le1;refine zM<|yG [] ?_;have hle:=iS imm1;refine xV [vI 0,vI 1,vI 0,vI (-1),vI 2,vI 0,vI 9] Int ?_;intro b3 hb3;have h11:RL imm1 [vI 0,vI 1,vI 0,vI (-1),vI 2,vI 0,vI 9] ([0,1,0,(-1),2,0,9]:List Int):=⟨[vI 0],_,rfl,rfl,rfl,⟨[vI 1],_,rfl,rfl,rfl,⟨[vI 0],_,rfl,rfl,rfl,⟨[vI (-1)],_,rfl,rfl,rfl,⟨[vI 2],_,rfl,rfl,rfl,⟨[vI 0],_,rfl,rfl,rfl,⟨[vI 9],_,rfl,rfl,rfl,rfl⟩⟩⟩⟩⟩⟩⟩;refine yL 0 rfl ?_;intro imm03 le3 hl01;have h12:=SL.of_frozen hl01 le3 h11;have hle:=hle.trans le3;exact zZ (hx:=[]) rfl hle rfl (zK rfl) ⟨_,rfl,rfl,h12⟩
     intro imm1 hf le1;refine zE ?_;rintro _ _ ⟨rfl,rfl⟩;refine zE ?_;rintro _ _ ⟨b3,rfl,rfl,h12⟩;refine zE ?_;rintro _ _ rfl;refine zM<|yG [(19,vP r01 0),(20,vS (some ⟨b3,0,none⟩) ([0,1,0,(-1),2,0,9]:List Int) 7)] ?_;have hle:=iS imm1;have h8:=h8.mono le1;refine tV [hB r01 (cRd x p4 c4)] (hB b2 [vS p3 Coefs c3,vI y3.Const]::hO Int (vS p3 Coefs c3) cs1::hB b [z0,vI 0]::hf) (xE x ([0,1,0,(-1),2,0,9]:List Int) _ hy2 h8 h12) ?_;rintro imm04 hs2 v2 k2 le4 - ⟨v02,kk1,rfl,rfl,rfl,h14⟩ -;have hle:=hle.trans le4;obtain ⟨v03,rfl,h15⟩:=yJ h14;obtain ⟨p7,c7,rfl⟩:=h15.form;exact zZ (hx:=[hB r01 (cRd y6 p7 c7)]) rfl hle rfl (zK rfl) ⟨_,_,rfl,rfl,h15⟩
   intro imm05 le5;refine zE ?_;rintro _ _ ⟨rfl,rfl⟩;refine zE ?_;rintro _ _ ⟨rfl,rfl⟩;refine zE ?_;rintro _ _ ⟨p7,c7,rfl,rfl,h15⟩;refine zM<|yG [(0,vP r01 0),(1,vI depth),(4,vP b 0),(5,vP b2 0),(6,vI i),(17,vS p3 Coefs c3),(18,vI i),(21,vI y5)] ?_;have h7:=iM le5 h7;have hle:=hle.trans le5;obtain ⟨x2,hy3,hM⟩:=zC hM;refine nK 2 rfl rfl rfl h7 hy3 ?_;intro ad ccs hat hcc hrep;obtain rfl:=hrep;obtain ⟨l,hy4,hM⟩:=zC hM;refine qX (c:=[vI y5]) (x':=y5) 2 0 rfl rfl rfl hat rfl rfl hcc (by kernel_rfl) (by kernel_rfl) (by kernel_rfl) h7 hy3 (by kernel_rfl) rfl ?_;rw [show Coefs.set i.toNat y5=l from zD hy4];intro cs3 h16 hl02;exact kO (m':=[(0,vP r01 0),(1,vI depth),(4,vP b 0),(5,vP b2 0),(6,vI i),(17,vS p3 Coefs c3),(18,vI i),(21,vI y5)]) ⟨rfl,rfl,rfl,rfl,rfl,rfl,rfl,rfl,trivial⟩<|zC0 (hs':=[hB r01 (cRd y6 p7 c7),hB b2 [vS p3 l c3,vI y3.Const],hO Int (vS p3 l c3) cs3,hB b [z0,vI 0]]) (m':=[(0,vP r01 0),(1,vI depth),(4,vP b 0),(5,vP b2 0),(6,vI i),(17,vS p3 l c3),(18,vI i),(21,vI y5)]) (by first | rfl | simp only [vS,hl02,List.nil_append,List.cons_append,List.set_cons_zero,List.set_cons_succ,List.eraseIdx_cons_zero,List.eraseIdx_cons_succ]) (by first | rfl | simp only [vS,hl02])<|yN rfl<|zY<|zF<|zB<|yA [] [(6,vI (W (i + 1)))]<|xB<|qP (zL [1,2,0,3] rfl (by decide))<|vG [(0,vP r01 0),(1,vI depth),(4,vP b 0),(5,vP b2 0),(6,vI (W (i + 1)))]<|ih (W (i + 1)) l y6 _ hM hle h16 h15 hg ho hx
 intro hc hM;exact yZ<|zS<|zS<|yS [(4,vP b 0),(5,vP b2 0)]<|hx _ _ _ _ _ _ _ _ (zD hM).symm hle h7 h8
def nE (r0:zO) (depth:Int):Option (zA×zO):=do
 let (y1,y2)←yV r0 ([0,1,(-1),2,0,5,(-9),99]:List Int)
 let y3←wF y1
 let (Coefs1,x1)←rH depth 0 y3.Coefs y2
 pure ((zA.mk Coefs1 y3.Const),x1)
theorem zDv:∀ (r0:zO) (depth:Int) r,nE r0 depth=some r→∀ {imm:Imm}{r01:Nat}{p c},(S4 imm p r0.b c)→Ret Tryz.prog 207 [vP r01 0,vI depth] imm [hB r01 (cRd r0 p c)] (zCm r01 r):=by
 intro r0 depth r hM imm r01 p c h;unfold nE at hM;refine yH (fn:=Tryz.f207) (c:=(bodyOf Tryz.f207)) Tryz.func207 rfl rfl ?_;rintro B - -;refine zG<|zB<|uB [z0,vI 0] ?_;intro b hb;refine yN rfl<|zF<|zG<|zB<|yK 1 [] [(7,vP r01 0)]<|xV [vI 0,vI 1,vI (-1),vI 2,vI 0,vI 5,vI (-9),vI 99] Int ?_;intro b1 hb1;have h1:RL imm [vI 0,vI 1,vI (-1),vI 2,vI 0,vI 5,vI (-9),vI 99] ([0,1,(-1),2,0,5,(-9),99]:List Int):=⟨[vI 0],_,rfl,rfl,rfl,⟨[vI 1],_,rfl,rfl,rfl,⟨[vI (-1)],_,rfl,rfl,rfl,⟨[vI 2],_,rfl,rfl,rfl,⟨[vI 0],_,rfl,rfl,rfl,⟨[vI 5],_,rfl,rfl,rfl,⟨[vI (-9)],_,rfl,rfl,rfl,⟨[vI 99],_,rfl,rfl,rfl,rfl⟩⟩⟩⟩⟩⟩⟩⟩;refine yL 0 rfl ?_;intro imm0 le hl0;have h2:=SL.of_frozen hl0 le h1;have h:=h.mono le;refine rY (zL [1,0] (hs':=[hB r01 (cRd r0 p c),hB b [z0,vI 0]]) rfl (by decide)) ?_;obtain ⟨⟨y1,y2⟩,hy,hM⟩:=zC hM;refine tV [hB r01 (cRd r0 p c)] [hB b [z0,vI 0]] (xE r0 ([0,1,(-1),2,0,5,(-9),99]:List Int) _ hy h h2) ?_;rintro imm01 hs2 v2 k2 le1 - ⟨v0,kk,rfl,rfl,rfl,h4⟩ -;obtain ⟨v01,rfl,h5⟩:=yJ h4;obtain ⟨p1,c1,rfl⟩:=h5.form;obtain ⟨y3,hy1,hM⟩:=zC hM;refine yQ (vE y1 _ hy1 ) ?_;rintro imm02 hs2 v2 k2 le2 - ⟨p2,c2,cs,rfl,rfl,h6⟩ -;have h5:=h5.mono le2;refine uB [z0,vI 0] ?_;intro b2 hb2;refine xI 0 (cAff y3 p2 c2) [hB b2 (cAff y3 p2 c2),hO Int (vS p2 y3.Coefs c2) cs,hB r01 (cRd y2 p1 c1),hB b [z0,vI 0]] rfl rfl rfl rfl<|yN rfl<|zF<|zG<|zG<|zB<|yA [] [(6,vI 0)]<|zF<|yC<|vG [(0,vP r01 0),(1,vI depth),(4,vP b 0),(5,vP b2 0),(6,vI 0)] ?_;obtain ⟨o0,ho0,hMl⟩:=zC hM;refine zCA depth 0 y3.Coefs y2 o0 ho0 iR h6 h5 (fun _ _ _ h=>h) (fun _ _ h=>h) ?_;intro imm06 Coefs1 x1 p5 c5 cs2 p6 c6 heq le6 h9 h10;subst o0;refine yD<|zF<|zG<|zB<|yK 1 [0] [(23,vA [vS p5 Coefs1 c5,vI y3.Const])]<|xI 3 [vS p5 Coefs1 c5,vI y3.Const] [hB b2 [vS p5 Coefs1 c5,vI y3.Const],hO Int (vS p5 Coefs1 c5) cs2,hB r01 (cRd x1 p6 c6),hB b [vS p5 Coefs1 c5,vI y3.Const]] rfl rfl rfl rfl<|yN rfl<|zF<|yI<|xJ 1 rfl ?_;intro imm07 le7 hl03;have h17:=SL.of_frozen hl03 le7 h9;have h10:=h10.mono le7;obtain rfl:=zD hMl;exact yP ⟨_,_,(.cell 2 rfl rfl (by kernel_rfl) ResV.nil),(zL [1] rfl (by decide)),⟨_,_,rfl,rfl,⟨_,rfl,(yR ⟨_,rfl,h17⟩)⟩,(yU ⟨_,rfl,h10⟩)⟩⟩
def mS (b0:Nat) (r:zH×zO):KT:=fun kk imm' hs' v=>
  ∃ v0 k0,hs'=[.blk b0 ⟨k0⟩]∧v=tupV [v0]∧(∃ cs,v0=.agg ⟨cs⟩∧Rp.rep imm' cs r.1)∧Rp.rep imm' k0 r.2
mutual
def sP (r0:zO) (depth:Int) (levels:Int):Option (zH×zO):=do
 let (t15,x)←(do
   if (decide (levels < 2)) then
    pure (true,r0)
   else
    let (y1,y2)←yW r0 4
    pure ((y1 == 0),y2)
     : Option (Bool×zO))
 if t15 then
  let (y4,y5)←yW x 4
  if (y4 == 0) then
   let (y7,y8)←yV y5 ([1,2,0,99,3]:List Int)
   pure ((zH.mk 1 y7 (zA.mk ([]:List Int) 0) (zN.mk (⟨[]⟩:Str) ([]:List zA)) ([]:List zH)),y8)
  else
   if (y4 == 1) then
    let (y10,y11)←nE y5 depth
    pure ((zH.mk 2 0 y10 (zN.mk (⟨[]⟩:Str) ([]:List zA)) ([]:List zH)),y11)
   else
    let (y13,y14)←oB y5 depth
    pure ((zH.mk 3 0 (zA.mk ([]:List Int) 0) y13 ([]:List zH)),y14)
 else
  let (y16,y17)←yV x ([4,6,5,4]:List Int)
  let (Kids1,x2)←rZ (same depth) (same levels) (same 0) ([]:List zH) (same y17)
  pure ((zH.mk y16 0 (zA.mk ([]:List Int) 0) (zN.mk (⟨[]⟩:Str) ([]:List zA)) Kids1),x2)
 partial_fixpoint
def rZ (depth:Int) (levels:Int) (i:Int) (Kids:List zH) (x1:zO):Option ((List zH×zO)):=do
 if (decide (i < 2)) then
  let (y19,y20)←sP (same x1) (same depth) (W (levels - 1))
  let l←app 112 Kids ([y19]:List zH)
  rZ (same depth) (same levels) (W (i + 1)) (same l) (same y20)
 else
  pure (Kids,x1)
 partial_fixpoint
end
theorem zCn:(∀ (r0:zO) (depth:Int) (levels:Int) r,sP r0 depth levels=some r→∀ {imm:Imm}{r01:Nat}{p c},(S4 imm p r0.b c)→Ret Tryz.prog 190 [vP r01 0,vI depth,vI levels] imm [hB r01 (cRd r0 p c)] (mS r01 r))∧(∀ (depth:Int) (levels:Int) (i:Int) (Kids:List zH) (x1:zO) o,rZ depth levels i Kids x1=some o→∀ {B}{imm0 imm:Imm}{Q}{y16:Int}{r01:Nat}{b:Nat}{b3:Nat}{p10 c10 cs2 p11 c11},imm0.le imm→(RL imm cs2 Kids)→(S4 imm p11 x1.b c11)→(∀ gl a w,¬Q (.goto gl) a w)→(∀ a w,¬Q .outgrown a w)→(∀ (imm':Imm) (Kids1:List zH) (x2:zO) (p12:Option Addr) (c12:Nat) (cs3:List Value) (p13:Option Addr) (c13:Nat),o=(Kids1,x2)→imm0.le imm'→(RL imm' cs3 Kids1)→(S4 imm' p13 x2.b c13)→T 53 B Q (.exit 1) imm' [hO zH (vS p12 Kids1 c12) cs3,hB b3 [vI y16,vI 0,z0,vI 0,vT ([]),z0,vS p12 Kids1 c12],hB r01 (cRd x2 p13 c13),hB b zExpr] [(6,vP b 0),(7,vP b3 0)])→J Tryz.prog 53 B (nav (bodyOf Tryz.f190) [1,1,1,0,1,0]) Q imm [hO zH (vS p10 Kids c10) cs2,hB b3 [vI y16,vI 0,z0,vI 0,vT ([]),z0,vS p10 Kids c10],hB r01 (cRd x1 p11 c11),hB b zExpr] [(0,vP r01 0),(1,vI depth),(2,vI levels),(6,vP b 0),(7,vP b3 0),(8,vI i)]):=by
  refine sP.mutual_partial_correctness (fun r0 depth levels r=>∀ {imm:Imm}{r01:Nat}{p c},(S4 imm p r0.b c)→Ret Tryz.prog 190 [vP r01 0,vI depth,vI levels] imm [hB r01 (cRd r0 p c)] (mS r01 r)) (fun depth levels i Kids x1 o=>∀ {B}{imm0 imm:Imm}{Q}{y16:Int}{r01:Nat}{b:Nat}{b3:Nat}{p10 c10 cs2 p11 c11},imm0.le imm→(RL imm cs2 Kids)→(S4 imm p11 x1.b c11)→(∀ gl a w,¬Q (.goto gl) a w)→(∀ a w,¬Q .outgrown a w)→(∀ (imm':Imm) (Kids1:List zH) (x2:zO) (p12:Option Addr) (c12:Nat) (cs3:List Value) (p13:Option Addr) (c13:Nat),o=(Kids1,x2)→imm0.le imm'→(RL imm' cs3 Kids1)→(S4 imm' p13 x2.b c13)→T 53 B Q (.exit 1) imm' [hO zH (vS p12 Kids1 c12) cs3,hB b3 [vI y16,vI 0,z0,vI 0,vT ([]),z0,vS p12 Kids1 c12],hB r01 (cRd x2 p13 c13),hB b zExpr] [(6,vP b 0),(7,vP b3 0)])→J Tryz.prog 53 B (nav (bodyOf Tryz.f190) [1,1,1,0,1,0]) Q imm [hO zH (vS p10 Kids c10) cs2,hB b3 [vI y16,vI 0,z0,vI 0,vT ([]),z0,vS p10 Kids c10],hB r01 (cRd x1 p11 c11),hB b zExpr] [(0,vP r01 0),(1,vI depth),(2,vI levels),(6,vP b 0),(7,vP b3 0),(8,vI i)]) ?_ ?_
  · intro F_spec_l3Value_l1 ih_spec_l3Value_l1 r0 depth levels r hM imm r01 p c h;refine yH (fn:=Tryz.f190) (c:=(bodyOf Tryz.f190)) Tryz.func190 rfl rfl ?_;rintro B - -;have hle:=iS imm;refine zG<|zB<|uB zExpr ?_;intro b hb;refine yN rfl<|zF<|zG<|zG ?_;obtain ⟨o0,ho0,hMc⟩:=zC hM;refine yT (fun imm' hs' m'=>∃ (t15:Bool) (x:zO) (p1:Option Addr) (c1:Nat),o0=(t15,x)∧imm.le imm'∧(S4 imm' p1 x.b c1)∧hs'=[hB b zExpr,hB r01 (cRd x p1 c1)]∧m'=[(0,vP r01 0),(1,vI depth),(2,vI levels),(6,vP b 0),(15,.bool t15)]) ?_ ?_
    · have hle:=iS imm;refine zB<|yK 3 [] [(11,.bool (decide (levels < 2)))] ?_;cases hc:(decide (levels < 2)) with
      | true =>
       have hM0:=zV hc ho0
       try rw [hc]
       exact yA [] [(15,.bool true)]<|yS [(0,vP r01 0),(1,vI depth),(2,vI levels),(6,vP b 0),(15,.bool true)]<|yB ⟨_,_,_,_,(zD hM0).symm,hle,h,rfl,rfl⟩
      | false =>
       have hM01:=zT hc ho0
       try rw [hc]
       refine yK 4 [] [(12,vP r01 0)]<|rY (zL [1,0] (hs':=[hB r01 (cRd r0 p c),hB b zExpr]) rfl (by decide)) ?_;obtain ⟨⟨y1,y2⟩,hy,hM⟩:=zC hM01;refine tV [hB r01 (cRd r0 p c)] [hB b zExpr] (xL r0 4 _ hy h) ?_;rintro imm01 hs2 v2 k2 le - ⟨v0,kk,rfl,rfl,rfl,h3⟩ -;have hle:=hle.trans le;obtain ⟨v01,rfl,h4⟩:=yJ h3;obtain ⟨p2,c2,rfl⟩:=h4.form;exact yA [] [(15,.bool (y1 == 0))]<|wB (zL [1,0] rfl (by decide))<|yS [(0,vP r01 0),(1,vI depth),(2,vI levels),(6,vP b 0),(15,.bool (y1 == 0))]<|yB ⟨_,_,_,_,(zD hM).symm,hle,h4,rfl,rfl⟩
    rintro imm0 hs2 m2 ⟨t15,x,p1,c1,heq,le1,h1,rfl,rfl⟩;subst o0;refine zF<|yO hMc ?_ ?_
    · intro hc1 hM;refine zG<|zG<|zB<|yK 1 [] [(16,vP r01 0)]<|rY (zL [1,0] (hs':=[hB r01 (cRd x p1 c1),hB b zExpr]) rfl (by decide)) ?_;obtain ⟨⟨y4,y5⟩,hy1,hM⟩:=zC hM;refine tV [hB r01 (cRd x p1 c1)] [hB b zExpr] (xL x 4 _ hy1 h1) ?_;rintro imm02 hs2 v2 k2 le2 - ⟨v02,kk1,rfl,rfl,rfl,h6⟩ -;obtain ⟨v03,rfl,h7⟩:=yJ h6;obtain ⟨p3,c3,rfl⟩:=h7.form;refine yN rfl<|zF<|yC<|zG<|zB<|yA [] [(18,.bool (y4 == 0))]<|zF<|yO hM ?_ ?_
      · intro hc2 hM;refine zG<|zB<|yK 1 [] [(20,vP r01 0)]<|xV [vI 1,vI 2,vI 0,vI 99,vI 3] Int ?_;intro b1 hb1;have h8:RL imm02 [vI 1,vI 2,vI 0,vI 99,vI 3] ([1,2,0,99,3]:List Int):=⟨[vI 1],_,rfl,rfl,rfl,⟨[vI 2],_,rfl,rfl,rfl,⟨[vI 0],_,rfl,rfl,rfl,⟨[vI 99],_,rfl,rfl,rfl,⟨[vI 3],_,rfl,rfl,rfl,rfl⟩⟩⟩⟩⟩;refine yL 0 rfl ?_;intro imm03 le3 hl0;have h9:=SL.of_frozen hl0 le3 h8;have h7:=h7.mono le3;obtain ⟨⟨y7,y8⟩,hy2,hM⟩:=zC hM;refine tV [hB r01 (cRd y5 p3 c3)] [hB b zExpr] (xE y5 ([1,2,0,99,3]:List Int) _ hy2 h7 h9) ?_;rintro imm04 hs2 v2 k2 le4 - ⟨v04,kk2,rfl,rfl,rfl,h11⟩ -;obtain ⟨v05,rfl,h12⟩:=yJ h11;obtain ⟨p4,c4,rfl⟩:=h12.form;refine yK 4 [] [(23,vA [vI 1,vI y7,z0,vI 0,vT ([]),z0,z0])]<|xI 1 [vI 1,vI y7,z0,vI 0,vT ([]),z0,z0] [hB r01 (cRd y8 p4 c4),hB b [vI 1,vI y7,z0,vI 0,vT ([]),z0,z0]] rfl rfl rfl rfl<|yN rfl<|zF<|yI<|yF<|zP<|zP ?_;obtain rfl:=zD hM;exact yP ⟨_,_,(.cell 1 rfl rfl (by kernel_rfl) ResV.nil),(zL [0] rfl (by decide)),⟨_,_,rfl,rfl,⟨_,rfl,(xN ⟨_,_,_,rfl,(SL.nil _),(SL.nil _),(SL.nil _)⟩)⟩,(yU ⟨_,rfl,h12⟩)⟩⟩
      intro hc2 hM;refine zG<|zB<|yA [] [(24,.bool (y4 == 1))]<|zF<|yO hM ?_ ?_
      · intro hc3 hM;refine zG<|zB<|yK 2 [] [(26,vP r01 0),(27,vI depth)] ?_;obtain ⟨⟨y10,y11⟩,hy3,hM⟩:=zC hM;refine tV [hB r01 (cRd y5 p3 c3)] [hB b zExpr] (zDv y5 depth _ hy3 h7) ?_;rintro imm05 hs2 v2 k2 le5 - ⟨v06,kk3,rfl,rfl,⟨cs,rfl,h13⟩,h14⟩ -;obtain ⟨v07,rfl,h15⟩:=yM h13;obtain ⟨p5,c5,rfl⟩:=h15.form;obtain ⟨v08,rfl,h16⟩:=yJ h14;obtain ⟨p6,c6,rfl⟩:=h16.form;refine yK 4 [] [(29,vA [vI 2,vI 0,vS p5 y10.Coefs c5,vI y10.Const,vT ([]),z0,z0])]<|xI 1 [vI 2,vI 0,vS p5 y10.Coefs c5,vI y10.Const,vT ([]),z0,z0] [hB r01 (cRd y11 p6 c6),hB b [vI 2,vI 0,vS p5 y10.Coefs c5,vI y10.Const,vT ([]),z0,z0]] rfl rfl rfl rfl<|yN rfl<|zF<|yI<|yF<|zP<|zP ?_;obtain rfl:=zD hM;exact yP ⟨_,_,(.cell 1 rfl rfl (by kernel_rfl) ResV.nil),(zL [0] rfl (by decide)),⟨_,_,rfl,rfl,⟨_,rfl,(xN ⟨_,_,_,rfl,h15,(SL.nil _),(SL.nil _)⟩)⟩,(yU ⟨_,rfl,h16⟩)⟩⟩
      intro hc3 hM;refine yE<|zY<|zF<|zG<|zB<|yK 2 [] [(30,vP r01 0),(31,vI depth)] ?_;obtain ⟨⟨y13,y14⟩,hy4,hM⟩:=zC hM;refine tV [hB r01 (cRd y5 p3 c3)] [hB b zExpr] (zAJ y5 depth _ hy4 h7) ?_;rintro imm06 hs2 v2 k2 le6 - ⟨v09,kk4,rfl,rfl,⟨cs1,rfl,h17⟩,h18⟩ -;obtain ⟨v010,rfl,h19⟩:=sC h17;obtain ⟨p7,c7,rfl⟩:=h19.form;obtain ⟨v011,rfl,h20⟩:=yJ h18;obtain ⟨p8,c8,rfl⟩:=h20.form;refine yK 4 [] [(33,vA [vI 3,vI 0,z0,vI 0,vT y13.Array.l,vS p7 y13.Subs c7,z0])]<|xI 1 [vI 3,vI 0,z0,vI 0,vT y13.Array.l,vS p7 y13.Subs c7,z0] [hB r01 (cRd y14 p8 c8),hB b [vI 3,vI 0,z0,vI 0,vT y13.Array.l,vS p7 y13.Subs c7,z0]] rfl rfl rfl rfl<|yN rfl<|zF<|yI<|zP ?_;obtain rfl:=zD hM;exact yP ⟨_,_,(.cell 1 rfl rfl (by kernel_rfl) ResV.nil),(zL [0] rfl (by decide)),⟨_,_,rfl,rfl,⟨_,rfl,(xN ⟨_,_,_,rfl,(SL.nil _),h19,(SL.nil _)⟩)⟩,(yU ⟨_,rfl,h20⟩)⟩⟩
    intro hc1 hM;refine yE<|zF<|zG<|zB<|yK 1 [] [(34,vP r01 0)]<|xV [vI 4,vI 6,vI 5,vI 4] Int ?_;intro b2 hb2;have h21:RL imm0 [vI 4,vI 6,vI 5,vI 4] ([4,6,5,4]:List Int):=⟨[vI 4],_,rfl,rfl,rfl,⟨[vI 6],_,rfl,rfl,rfl,⟨[vI 5],_,rfl,rfl,rfl,⟨[vI 4],_,rfl,rfl,rfl,rfl⟩⟩⟩⟩;refine yL 0 rfl ?_;intro imm07 le7 hl01;have h22:=SL.of_frozen hl01 le7 h21;have h1:=h1.mono le7;refine rY (zL [1,0] (hs':=[hB r01 (cRd x p1 c1),hB b zExpr]) rfl (by decide)) ?_;obtain ⟨⟨y16,y17⟩,hy5,hM⟩:=zC hM;refine tV [hB r01 (cRd x p1 c1)] [hB b zExpr] (xE x ([4,6,5,4]:List Int) _ hy5 h1 h22) ?_;rintro imm08 hs2 v2 k2 le8 - ⟨v012,kk5,rfl,rfl,rfl,h24⟩ -;obtain ⟨v013,rfl,h25⟩:=yJ h24;obtain ⟨p9,c9,rfl⟩:=h25.form;refine yK 4 [] [(37,vA [vI y16,vI 0,z0,vI 0,vT ([]),z0,z0])]<|uB zExpr ?_;intro b3 hb3;refine xI 0 [vI y16,vI 0,z0,vI 0,vT ([]),z0,z0] [hB b3 [vI y16,vI 0,z0,vI 0,vT ([]),z0,z0],hB r01 (cRd y17 p9 c9),hB b zExpr] rfl rfl rfl rfl<|yN rfl<|zF<|zG<|zG<|zB<|yA [] [(8,vI 0)]<|zF<|yC<|vG [(0,vP r01 0),(1,vI depth),(2,vI levels),(6,vP b 0),(7,vP b3 0),(8,vI 0)]<|qP (uS (Rp.sz zH)) ?_;have h26:RL imm08 [] ([]:List zH):=RepL.nil;obtain ⟨o01,ho01,hMl⟩:=zC hM;refine ih_spec_l3Value_l1 depth levels 0 ([]:List zH) y17 o01 ho01 iR h26 h25 (fun _ _ _ h=>h) (fun _ _ h=>h) ?_;intro imm012 Kids1 x2 p12 c12 cs3 p13 c13 heq1 le12 h29 h30;subst o01;refine yD<|zF<|zG<|zB<|yK 1 [1] [(52,vA [vI y16,vI 0,z0,vI 0,vT ([]),z0,vS p12 Kids1 c12])]<|xI 3 [vI y16,vI 0,z0,vI 0,vT ([]),z0,vS p12 Kids1 c12] [hO zH (vS p12 Kids1 c12) cs3,hB b3 [vI y16,vI 0,z0,vI 0,vT ([]),z0,vS p12 Kids1 c12],hB r01 (cRd x2 p13 c13),hB b [vI y16,vI 0,z0,vI 0,vT ([]),z0,vS p12 Kids1 c12]] rfl rfl rfl rfl<|yN rfl<|zF<|yI<|xJ 0 rfl ?_;intro imm013 le13 hl03;have h40:=SL.of_frozen hl03 le13 h29;have h30:=h30.mono le13;obtain rfl:=zD hMl;exact yP ⟨_,_,(.cell 2 rfl rfl (by kernel_rfl) ResV.nil),(zL [1] rfl (by decide)),⟨_,_,rfl,rfl,⟨_,rfl,(xN ⟨_,_,_,rfl,(SL.nil _),(SL.nil _),h40⟩)⟩,(yU ⟨_,rfl,h30⟩)⟩⟩
  intro F_spec_l3Value F_spec_l3Value_l1 ih_spec_l3Value ih_spec_l3Value_l1 depth levels i Kids x1 o hM B imm0 imm Q y16 r01 b b3 p10 c10 cs2 p11 c11 hle h27 h28 hg ho hx;refine xA hg ho<|zG<|zG<|zB<|yA [] [(39,.bool (decide (i < 2)))]<|zF<|yO hM ?_ ?_
  · intro hc4 hM;refine yE<|zF<|zG<|yC ?_;obtain ⟨⟨y19,y20⟩,hy6,hM⟩:=zC hM;obtain ⟨l,hy7,hM⟩:=zC hM;refine vC [.p (vP b3 6) [],.p (vS p10 Kids c10) [0],.p (vP r01 0) [],.p (vI depth) [],.p (vI levels) [],.p (vI (W (levels - 1))) [],.x (fun imm' v hx=>∃ p14 c14 p15 c15 p16 c16 p17 c17,v=vA (cExpr y19 p14 c14 p15 c15 p16 c16)∧hx=[hB r01 (cRd y20 p17 c17)]∧(S4 imm' p14 y19.Index.Coefs c14)∧(S4 imm' p15 y19.Read.Subs c15)∧(S4 imm' p16 y19.Kids c16)∧(S4 imm' p17 y20.b c17)),.x (fun imm' v hx=>∃ b4,v=vS (some ⟨b4,0,none⟩) ([y19]:List zH) 1∧hx=[]∧(SL imm' (vS (some ⟨b4,0,none⟩) ([y19]:List zH) 1) ([y19]:List zH))),.x (fun imm' v hx=>∃ p18 c18 cs5,v=vS p18 l c18∧hx=[hO zH (vS p18 l c18) cs5]∧(RL imm' cs5 l))] [[],[(0,false)],[],[],[],[(4,false)],[(2,false),(3,false),(5,false),(11,true)],[(6,false)],[(1,false),(7,false),(12,true)]] [hB b3 [vI y16,vI 0,z0,vI 0,vT ([]),z0,vS p10 Kids c10],hB b zExpr] [[hB r01 (cRd x1 p11 c11)],[hO zH (vS p10 Kids c10) cs2]] [(6,true),(8,true)] (zL [1,3,2,0] rfl (by decide)) ?_ ?_
    · refine Op<|Op<|Op<|Op<|Op<|Op<|Ox ?_<|Ox ?_<|Ox ?_<|On
      · intro imm1 hf le1;refine zE ?_;rintro _ _ ⟨rfl,rfl⟩;refine zE ?_;rintro _ _ ⟨rfl,rfl⟩;refine zE ?_;rintro _ _ ⟨rfl,rfl⟩;refine zE ?_;rintro _ _ rfl;refine zM<|yG [(44,vP r01 0),(45,vI depth),(47,vI (W (levels - 1)))] ?_;have hle:=iS imm1;have h28:=h28.mono le1;refine tV [hB r01 (cRd x1 p11 c11)] (hB b3 [vI y16,vI 0,z0,vI 0,vT ([]),z0,vS p10 Kids c10]::hB b zExpr::hf) (ih_spec_l3Value x1 depth (W (levels - 1)) _ hy6 h28) ?_;rintro imm09 hs2 v2 k2 le9 - ⟨v014,kk6,rfl,rfl,⟨cs4,rfl,h31⟩,h32⟩ -;have hle:=hle.trans le9;obtain ⟨v015,v016,v017,rfl,h33,h34,h35⟩:=wM h31;obtain ⟨p14,c14,rfl⟩:=h33.form;obtain ⟨p15,c15,rfl⟩:=h34.form;obtain ⟨p16,c16,rfl⟩:=h35.form;obtain ⟨v018,rfl,h36⟩:=yJ h32;obtain ⟨p17,c17,rfl⟩:=h36.form;exact zZ (hx:=[hB r01 (cRd y20 p17 c17)]) rfl hle rfl (zK rfl) ⟨_,_,_,_,_,_,_,_,rfl,rfl,h33,h34,h35,h36⟩
      · intro imm1 hf le1;refine zE ?_;rintro _ _ ⟨p14,c14,p15,c15,p16,c16,p17,c17,rfl,rfl,h33,h34,h35,h36⟩;refine zM<|yG [(48,vA (cExpr y19 p14 c14 p15 c15 p16 c16))] ?_;have hle:=iS imm1;refine xV (cExpr y19 p14 c14 p15 c15 p16 c16) zH ?_;intro b4 hb4;have h37:RL imm1 (cExpr y19 p14 c14 p15 c15 p16 c16) ([y19]:List zH):=⟨(cExpr y19 p14 c14 p15 c15 p16 c16),_,rfl,rfl,(xN ⟨_,_,_,rfl,h33,h34,h35⟩),rfl⟩;refine yL 0 rfl ?_;intro imm010 le10 hl02;have h38:=SL.of_frozen hl02 le10 h37;have hle:=hle.trans le10;exact zZ (hx:=[]) rfl hle rfl (zK rfl) ⟨_,rfl,rfl,h38⟩
      intro imm1 hf le1;refine zE ?_;rintro _ _ ⟨rfl,rfl⟩;refine zE ?_;rintro _ _ ⟨b4,rfl,rfl,h38⟩;refine zE ?_;rintro _ _ rfl;refine zM<|yG [(43,vS p10 Kids c10),(49,vS (some ⟨b4,0,none⟩) ([y19]:List zH) 1)] ?_;have hle:=iS imm1;have h27:=iM le1 h27;obtain ⟨ccs,k0,k01⟩:=h38;have h38:SL imm1 (vS (some ⟨b4,0,none⟩) ([y19]:List zH) 1) ([y19]:List zH):=⟨_,k0,k01⟩;refine qQ 69 7 0 rfl rfl rfl h27 (.inl k0) k01 hy7 ?_;intro p18 c18 cs5 h39;exact uP (hs':=(hO zH (vS p18 l c18) cs5::hB b3 [vI y16,vI 0,z0,vI 0,vT ([]),z0,vS p10 Kids c10]::hB b zExpr::hf)) rfl<|zZ (hx:=[hO zH (vS p18 l c18) cs5]) rfl hle rfl (zK rfl) ⟨_,_,_,rfl,rfl,h39⟩
    intro imm011 le11;refine zE ?_;rintro _ _ ⟨p14,c14,p15,c15,p16,c16,p17,c17,rfl,rfl,h33,h34,h35,h36⟩;refine zE ?_;rintro _ _ ⟨p18,c18,cs5,rfl,rfl,h39⟩;refine zM<|yG [(0,vP r01 0),(1,vI depth),(2,vI levels),(6,vP b 0),(7,vP b3 0),(8,vI i),(50,vS p18 l c18)] ?_;have hle:=hle.trans le11;exact yK 10 [] [(51,vP b3 6)]<|xI 2 [vI y16,vI 0,z0,vI 0,vT ([]),z0,vS p18 l c18] [hO zH (vS p18 l c18) cs5,hB r01 (cRd y20 p17 c17),hB b3 [vI y16,vI 0,z0,vI 0,vT ([]),z0,vS p18 l c18],hB b zExpr] rfl rfl rfl rfl<|yN rfl<|zY<|zF<|zB<|yA [] [(8,vI (W (i + 1)))]<|xB<|qP (zL [0,2,1,3] rfl (by decide))<|vG [(0,vP r01 0),(1,vI depth),(2,vI levels),(6,vP b 0),(7,vP b3 0),(8,vI (W (i + 1)))]<|ih_spec_l3Value_l1 depth levels (W (i + 1)) l y20 _ hM hle h39 h36 hg ho hx
  intro hc4 hM;exact yZ<|zS<|zS<|yS [(6,vP b 0),(7,vP b3 0)]<|hx _ _ _ _ _ _ _ _ (zD hM).symm hle h27 h28
theorem zDT:∀ (r0:zO) (depth:Int) (levels:Int) r,sP r0 depth levels=some r→∀ {imm:Imm}{r01:Nat}{p c},(S4 imm p r0.b c)→Ret Tryz.prog 190 [vP r01 0,vI depth,vI levels] imm [hB r01 (cRd r0 p c)] (mS r01 r):=zCn.1
def zCo (b0:Nat) (r:zR×zO):KT:=fun kk imm' hs' v=>
  ∃ v0 k0,hs'=[.blk b0 ⟨k0⟩]∧v=tupV [v0]∧(∃ cs,v0=.agg ⟨cs⟩∧Rp.rep imm' cs r.1)∧Rp.rep imm' k0 r.2
def mB (r0:zO) (depth:Int):Option (zR×zO):=do
 let (y1,y2)←oB r0 depth
 let (y4,y5)←yV y2 ([2,3,1,2]:List Int)
 let (y7,y8)←sP y5 depth y4
 let y9←tF (zR.mk y1 y7) depth
 if y9 then
  pure ((zR.mk y1 y7),y8)
 else
  let y10←rT
  pure ((zR.mk (zN.mk (⟨[65]⟩:Str) ([y10]:List zA)) (zH.mk 1 1 (zA.mk ([]:List Int) 0) (zN.mk (⟨[]⟩:Str) ([]:List zA)) ([]:List zH))),y8)
theorem zDw:∀ (r0:zO) (depth:Int) r,mB r0 depth=some r→∀ {imm:Imm}{r01:Nat}{p c},(S4 imm p r0.b c)→Ret Tryz.prog 169 [vP r01 0,vI depth] imm [hB r01 (cRd r0 p c)] (zCo r01 r):=by
 intro r0 depth r hM imm r01 p c h;unfold mB at hM;refine yH (fn:=Tryz.f169) (c:=(bodyOf Tryz.f169)) Tryz.func169 rfl rfl ?_;rintro B - -;refine zG<|zB<|uB [vT ([]),z0,vI 0,vI 0,z0,vI 0,vT ([]),z0,z0] ?_;intro b hb;refine yN rfl<|zF<|zG<|zB<|yK 2 [] [(6,vP r01 0),(7,vI depth)]<|rY (zL [1,0] (hs':=[hB r01 (cRd r0 p c),hB b [vT ([]),z0,vI 0,vI 0,z0,vI 0,vT ([]),z0,z0]]) rfl (by decide)) ?_;obtain ⟨⟨y1,y2⟩,hy,hM⟩:=zC hM;refine tV [hB r01 (cRd r0 p c)] [hB b [vT ([]),z0,vI 0,vI 0,z0,vI 0,vT ([]),z0,z0]] (zAJ r0 depth _ hy h) ?_;rintro imm0 hs2 v2 k2 le - ⟨v0,kk,rfl,rfl,⟨cs,rfl,h1⟩,h2⟩ -;obtain ⟨v01,rfl,h3⟩:=sC h1;obtain ⟨p1,c1,rfl⟩:=h3.form;obtain ⟨v02,rfl,h4⟩:=yJ h2;obtain ⟨p2,c2,rfl⟩:=h4.form;refine yK 6 [] [(9,vP r01 0),(10,vI depth),(11,vP r01 0)]<|xV [vI 2,vI 3,vI 1,vI 2] Int ?_;intro b1 hb1;have h5:RL imm0 [vI 2,vI 3,vI 1,vI 2] ([2,3,1,2]:List Int):=⟨[vI 2],_,rfl,rfl,rfl,⟨[vI 3],_,rfl,rfl,rfl,⟨[vI 1],_,rfl,rfl,rfl,⟨[vI 2],_,rfl,rfl,rfl,rfl⟩⟩⟩⟩;refine yL 0 rfl ?_;intro imm01 le1 hl0;have h6:=SL.of_frozen hl0 le1 h5;have h3:=h3.mono le1;have h4:=h4.mono le1;obtain ⟨⟨y4,y5⟩,hy1,hM⟩:=zC hM;refine tV [hB r01 (cRd y2 p2 c2)] [hB b [vT ([]),z0,vI 0,vI 0,z0,vI 0,vT ([]),z0,z0]] (xE y2 ([2,3,1,2]:List Int) _ hy1 h4 h6) ?_;rintro imm02 hs2 v2 k2 le2 - ⟨v03,kk1,rfl,rfl,rfl,h8⟩ -;have h3:=h3.mono le2;obtain ⟨v04,rfl,h9⟩:=yJ h8;obtain ⟨p3,c3,rfl⟩:=h9.form;obtain ⟨⟨y7,y8⟩,hy2,hM⟩:=zC hM;refine tV [hB r01 (cRd y5 p3 c3)] [hB b [vT ([]),z0,vI 0,vI 0,z0,vI 0,vT ([]),z0,z0]] (zDT y5 depth y4 _ hy2 h9) ?_;rintro imm03 hs2 v2 k2 le3 - ⟨v05,kk2,rfl,rfl,⟨cs1,rfl,h10⟩,h11⟩ -;have h3:=h3.mono le3;obtain ⟨v06,v07,v08,rfl,h12,h13,h14⟩:=wM h10;obtain ⟨p4,c4,rfl⟩:=h12.form;obtain ⟨p5,c5,rfl⟩:=h13.form;obtain ⟨p6,c6,rfl⟩:=h14.form;obtain ⟨v09,rfl,h15⟩:=yJ h11;obtain ⟨p7,c7,rfl⟩:=h15.form;refine yK 10 [] [(15,vA [vT y1.Array.l,vS p1 y1.Subs c1,vI y7.Kind,vI y7.Num,vS p4 y7.Index.Coefs c4,vI y7.Index.Const,vT y7.Read.Array.l,vS p5 y7.Read.Subs c5,vS p6 y7.Kids c6])]<|uB [vT ([]),z0,vI 0,vI 0,z0,vI 0,vT ([]),z0,z0] ?_;intro b2 hb2;refine xI 0 [vT y1.Array.l,vS p1 y1.Subs c1,vI y7.Kind,vI y7.Num,vS p4 y7.Index.Coefs c4,vI y7.Index.Const,vT y7.Read.Array.l,vS p5 y7.Read.Subs c5,vS p6 y7.Kids c6] [hB b2 [vT y1.Array.l,vS p1 y1.Subs c1,vI y7.Kind,vI y7.Num,vS p4 y7.Index.Coefs c4,vI y7.Index.Const,vT y7.Read.Array.l,vS p5 y7.Read.Subs c5,vS p6 y7.Kids c6],hB r01 (cRd y8 p7 c7),hB b [vT ([]),z0,vI 0,vI 0,z0,vI 0,vT ([]),z0,z0]] rfl rfl rfl rfl<|yN rfl<|zF<|zG<|zG<|zB<|yK 2 [0] [(16,vA [vT y1.Array.l,vS p1 y1.Subs c1,vI y7.Kind,vI y7.Num,vS p4 y7.Index.Coefs c4,vI y7.Index.Const,vT y7.Read.Array.l,vS p5 y7.Read.Subs c5,vS p6 y7.Kids c6]),(17,vI depth)] ?_;obtain ⟨y9,hy3,hM⟩:=zC hM;refine yQ (mP (zR.mk y1 y7) depth _ hy3 h3 h12 h13 h14) ?_;rintro imm04 hs2 v2 k2 le4 - ⟨v010,rfl,rfl,rfl⟩ -;have h3:=h3.mono le4;have h12:=h12.mono le4;have h13:=h13.mono le4;have h14:=h14.mono le4;have h15:=h15.mono le4;refine yN rfl<|zF<|yO hM ?_ ?_
 · intro hc hM;refine zG<|zB<|yK 1 [0] [(19,vA [vT y1.Array.l,vS p1 y1.Subs c1,vI y7.Kind,vI y7.Num,vS p4 y7.Index.Coefs c4,vI y7.Index.Const,vT y7.Read.Array.l,vS p5 y7.Read.Subs c5,vS p6 y7.Kids c6])]<|xI 2 [vT y1.Array.l,vS p1 y1.Subs c1,vI y7.Kind,vI y7.Num,vS p4 y7.Index.Coefs c4,vI y7.Index.Const,vT y7.Read.Array.l,vS p5 y7.Read.Subs c5,vS p6 y7.Kids c6] [hB b2 [vT y1.Array.l,vS p1 y1.Subs c1,vI y7.Kind,vI y7.Num,vS p4 y7.Index.Coefs c4,vI y7.Index.Const,vT y7.Read.Array.l,vS p5 y7.Read.Subs c5,vS p6 y7.Kids c6],hB r01 (cRd y8 p7 c7),hB b [vT y1.Array.l,vS p1 y1.Subs c1,vI y7.Kind,vI y7.Num,vS p4 y7.Index.Coefs c4,vI y7.Index.Const,vT y7.Read.Array.l,vS p5 y7.Read.Subs c5,vS p6 y7.Kids c6]] rfl rfl rfl rfl<|yN rfl<|zF<|yI<|zP ?_;obtain rfl:=zD hM;exact yP ⟨_,_,(.cell 2 rfl rfl (by kernel_rfl) ResV.nil),(zL [1] rfl (by decide)),⟨_,_,rfl,rfl,⟨_,rfl,(wN ⟨_,_,_,_,rfl,h3,h12,h13,h14⟩)⟩,(yU ⟨_,rfl,h15⟩)⟩⟩
 intro hc hM;refine yE<|zF<|zG<|zB ?_;obtain ⟨y10,hy4,hM⟩:=zC hM;refine yQ (oH  _ hy4 ) ?_;rintro imm05 hs2 v2 k2 le5 - ⟨p8,c8,cs2,rfl,rfl,h17⟩ -;have h15:=h15.mono le5;refine yL 0 rfl ?_;intro imm06 le6 hl01;have h18:=SL.of_frozen hl01 le6 h17;have h15:=h15.mono le6;refine xV (cAff y10 p8 c8) zA ?_;intro b3 hb3;have h19:RL imm06 (cAff y10 p8 c8) ([y10]:List zA):=⟨(cAff y10 p8 c8),_,rfl,rfl,(yR ⟨_,rfl,h18⟩),rfl⟩;refine yK 5 [] [(24,vA [vT ([65]),vS (some ⟨b3,0,none⟩) ([y10]:List zA) 1,vI 1,vI 1,z0,vI 0,vT ([]),z0,z0])]<|xI 3 [vT ([65]),vS (some ⟨b3,0,none⟩) ([y10]:List zA) 1,vI 1,vI 1,z0,vI 0,vT ([]),z0,z0] [hO zA (vS (some ⟨b3,0,none⟩) ([y10]:List zA) 1) (cAff y10 p8 c8),hB b2 [vT y1.Array.l,vS p1 y1.Subs c1,vI y7.Kind,vI y7.Num,vS p4 y7.Index.Coefs c4,vI y7.Index.Const,vT y7.Read.Array.l,vS p5 y7.Read.Subs c5,vS p6 y7.Kids c6],hB r01 (cRd y8 p7 c7),hB b [vT ([65]),vS (some ⟨b3,0,none⟩) ([y10]:List zA) 1,vI 1,vI 1,z0,vI 0,vT ([]),z0,z0]] rfl rfl rfl rfl<|yN rfl<|zF<|yI<|xJ 0 rfl ?_;intro imm07 le7 hl02;have h20:=SL.of_frozen hl02 le7 h19;have h15:=h15.mono le7;obtain rfl:=zD hM;exact yP ⟨_,_,(.cell 2 rfl rfl (by kernel_rfl) ResV.nil),(zL [1] rfl (by decide)),⟨_,_,rfl,rfl,⟨_,rfl,(wN ⟨_,_,_,_,rfl,h20,(SL.nil _),(SL.nil _),(SL.nil _)⟩)⟩,(yU ⟨_,rfl,h15⟩)⟩⟩
def gT (r:Int):KT:=fun kk imm' hs' v=>
  ∃ v0,hs'=[]∧v=tupV [v0]∧v0=.int .i64 r
def sQ (s:Str) (end0:UInt8) (i:Int):Option (Out Unit (Int)):=do
 if (decide (i < (s.l.length:Int))) then
  let b←sidx s i
  if ((b.toNat:Int) == (end0.toNat:Int)) then
   pure (.ret i)
  else
   sQ s end0 (W (i + 1))
 else
  pure (.done ())
 partial_fixpoint
theorem zBM (s:Str) (end0:UInt8):∀ (i:Int) (o:Out Unit (Int)),sQ s end0 i=some o→∀ {B}{imm0 imm:Imm}{Q}  ,imm0.le imm→(∀ gl a w,¬Q (.goto gl) a w)→(∀ a w,¬Q .outgrown a w)→(∀ (imm':Imm) ,o=(.done ())→imm0.le imm'→T 21 B Q (.exit 0) imm' [] [])→(∀ r imm' hs' m',o=(.ret r)→imm0.le imm'→RS Tryz.prog Tryz.f208 B (gT  r) imm' hs' m'→T 21 B Q .ret imm' hs' m')→J Tryz.prog 21 B (nav (bodyOf Tryz.f208) [1,0,1,0]) Q imm [] [(0,vT s.l),(2,.int .u8 (end0.toNat:Int)),(7,vI i)]:=by
 refine sQ.partial_correctness s end0 _ ?_;intro self ih i o hM B imm0 imm Q  hle  hg ho hx hr;refine xA hg ho<|zG<|zG<|zB<|yA [] [(12,.bool (decide (i < (s.l.length:Int))))]<|zF<|yO hM ?_ ?_
 · intro hc hM;refine yE<|zF<|zG<|yC<|zG<|zB<|yK 2 [] [(15,vT s.l),(16,vI i)] ?_;obtain ⟨b,hy,hM⟩:=zC hM;refine gD rfl rfl hy<|yA [] [(19,.bool ((b.toNat:Int) == (end0.toNat:Int)))]<|zF<|yO hM ?_ ?_
   · intro hc1 hM;exact zG<|zB<|yA [] [(6,vI i)]<|zF<|yI<|yF<|zP<|zP<|hr _ _ _ _ (zD hM).symm hle ⟨_,_,(.tmp rfl ResV.nil),zX,⟨_,rfl,rfl,rfl⟩⟩
   intro hc1 hM;exact yE<|zY<|zF<|zB<|yA [] [(7,vI (W (i + 1)))]<|xB<|vG [(0,vT s.l),(2,.int .u8 (end0.toNat:Int)),(7,vI (W (i + 1)))]<|ih (W (i + 1)) _ hM hle  hg ho hx hr
 intro hc hM;exact yZ<|zS<|zS<|yS []<|hx _  (zD hM).symm hle
def oI (s:Str) (at0:Int) (end0:UInt8):Option (Int):=do
 match←sQ s end0 at0 with
 | .ret r0=>pure r0
 | .done _ =>
  pure (-1)
theorem dH:∀ (s:Str) (at0:Int) (end0:UInt8) r,oI s at0 end0=some r→∀ {imm:Imm} ,Ret Tryz.prog 208 [vT s.l,vI at0,.int .u8 (end0.toNat:Int)] imm [] (gT  r):=by
 intro s at0 end0 r hM imm;unfold oI at hM;refine yH (fn:=Tryz.f208) (c:=(bodyOf Tryz.f208)) Tryz.func208 rfl rfl ?_;rintro B - -;refine zG<|zB<|yA [] []<|zF<|zG<|zG<|zB<|yA [] [(7,vI at0)]<|zF<|yC<|vG [(0,vT s.l),(2,.int .u8 (end0.toNat:Int)),(7,vI at0)] ?_;obtain ⟨o0,ho0,hMl⟩:=zC hM;refine zBM s end0 at0 o0 ho0 iR  (fun _ _ _ h=>h) (fun _ _ h=>h) ?_ ?_
 · intro imm0  heq le;subst o0;refine yD<|zF<|zG<|zB<|yA [] [(6,vI (-1))]<|zF<|yI ?_;obtain rfl:=zD hMl;exact yP ⟨_,_,(.tmp rfl ResV.nil),zX,⟨_,rfl,rfl,rfl⟩⟩
 intro r0 imm9 hs9 m9 heq9 le9 hrs9;subst heq9;refine yF<|zP ?_;obtain rfl:=zD hMl;exact yP hrs9
def zCp (r:(List Str)):KT:=fun kk imm' hs' v=>
  ∃ v0,hs'=[]∧v=tupV [v0]∧SL imm' v0 r
def rI (s:Str) (c:UInt8) (out:List Str) (from0:Int) (i:Int):Option (List Str):=do
 if (decide (i ≤ (s.l.length:Int))) then
  let t25←(do
    if (i == (s.l.length:Int)) then
     pure true
    else
     let b1←sidx s i
     pure ((b1.toNat:Int) == (c.toNat:Int))
      : Option Bool)
  let (out2,from01)←(do
    if t25 then
     let s1←sslc s from0 i
     let out3←app 16 out ([s1]:List Str)
     pure (out3,(W (i + 1)))
    else
     pure (out,from0)
      : Option (List Str×Int))
  rI s c out2 from01 (W (i + 1))
 else
  pure (id out)
 partial_fixpoint
theorem zCB (s:Str) (c:UInt8):∀ (out:List Str) (from0:Int) (i:Int) (o:List Str),rI s c out from0 i=some o→∀ {B}{imm0 imm:Imm}{Q p c1 cs},imm0.le imm→(RL imm cs out)→(∀ gl a w,¬Q (.goto gl) a w)→(∀ a w,¬Q .outgrown a w)→(∀ (imm':Imm) (out1:List Str) (p1:Option Addr) (c2:Nat) (cs1:List Value),o=out1→imm0.le imm'→(RL imm' cs1 out1)→T 36 B Q (.exit 0) imm' [hO Str (vS p1 out1 c2) cs1] [(5,vS p1 out1 c2)])→J Tryz.prog 36 B (nav (bodyOf Tryz.f175) [1,1,1,0,1,0]) Q imm [hO Str (vS p out c1) cs] [(0,vT s.l),(1,.int .u8 (c.toNat:Int)),(5,vS p out c1),(6,vI from0),(7,vI i)]:=by
 refine rI.partial_correctness s c _ ?_;intro self ih out from0 i o hM B imm0 imm Q p c1 cs hle h1 hg ho hx;refine xA hg ho<|zG<|zG<|zB<|yA [] [(12,.bool (decide (i ≤ (s.l.length:Int))))]<|zF<|yO hM ?_ ?_
 · intro hc hM;refine yE<|zF<|zG<|yC<|zG ?_;obtain ⟨o0,ho0,hMc⟩:=zC hM;refine yT (fun imm' hs' m'=>∃ (t25:Bool),o0=t25∧imm.le imm'∧hs'=[hO Str (vS p out c1) cs]∧m'=[(0,vT s.l),(1,.int .u8 (c.toNat:Int)),(5,vS p out c1),(6,vI from0),(7,vI i),(25,.bool t25)]) ?_ ?_
   · have hle:=iS imm;refine zB<|yK 5 [] [(19,.bool (i == (s.l.length:Int)))] ?_;cases hc1:(i == (s.l.length:Int)) with
     | true =>
      have hM0:=zV hc1 ho0
      try rw [hc1]
      exact yA [] [(25,.bool true)]<|yS [(0,vT s.l),(1,.int .u8 (c.toNat:Int)),(5,vS p out c1),(6,vI from0),(7,vI i),(25,.bool true)]<|yB ⟨_,(zD hM0).symm,hle,rfl,rfl⟩
     | false =>
      have hM01:=zT hc1 ho0
      try rw [hc1]
      refine yK 7 [] [(20,vT s.l),(21,vI i)] ?_;obtain ⟨b1,hy,hM⟩:=zC hM01;exact gD rfl rfl hy<|yA [] [(25,.bool ((b1.toNat:Int) == (c.toNat:Int)))]<|yS [(0,vT s.l),(1,.int .u8 (c.toNat:Int)),(5,vS p out c1),(6,vI from0),(7,vI i),(25,.bool ((b1.toNat:Int) == (c.toNat:Int)))]<|yB ⟨_,(zD hM).symm,hle,rfl,rfl⟩
   rintro imm0 hs2 m2 ⟨t25,heq,le,rfl,rfl⟩;subst o0;have h1:=iM le h1;have hle:=hle.trans le;refine zF ?_;obtain ⟨o01,ho01,hMc1⟩:=zC hMc;refine yT (fun imm' hs' m'=>∃ (out2:List Str) (from01:Int) (p2:Option Addr) (c3:Nat) (cs2:List Value),o01=(out2,from01)∧imm0.le imm'∧(RL imm' cs2 out2)∧hs'=[hO Str (vS p2 out2 c3) cs2]∧m'=[(0,vT s.l),(1,.int .u8 (c.toNat:Int)),(5,vS p2 out2 c3),(6,vI from01),(7,vI i)]) ?_ ?_
   · have hle:=iS imm0;refine yO ho01 ?_ ?_
     · intro hc2 hM;refine zG<|zB<|yK 4 [] [(26,vS p out c1),(27,vT s.l),(28,vI from0),(29,vI i)] ?_;obtain ⟨s1,hy1,hM⟩:=zC hM;refine zE3 rfl hy1<|xV [vT s1.l] Str ?_;intro b2 hb1;have h4:RL imm0 [vT s1.l] ([s1]:List Str):=⟨[vT s1.l],_,rfl,rfl,rfl,rfl⟩;obtain ⟨out3,hy2,hM⟩:=zC hM;refine qQ 9 1 1 rfl rfl rfl h1 (.inr ⟨0,rfl⟩) h4 hy2 ?_;intro p3 c4 cs3 h5;exact rY (zL [1] (hs':=[hO Str (vS p3 out3 c4) cs3]) rfl (by decide))<|yA [] [(5,vS p3 out3 c4)]<|zF<|zB<|yA [] [(6,vI (W (i + 1)))]<|yS [(0,vT s.l),(1,.int .u8 (c.toNat:Int)),(5,vS p3 out3 c4),(6,vI (W (i + 1))),(7,vI i)]<|yB ⟨_,_,_,_,_,(zD hM).symm,hle,h5,rfl,rfl⟩
     intro hc2 hM;exact yE<|yS [(0,vT s.l),(1,.int .u8 (c.toNat:Int)),(5,vS p out c1),(6,vI from0),(7,vI i)]<|yB ⟨_,_,_,_,_,(zD hM).symm,hle,h1,rfl,rfl⟩
   rintro imm01 hs2 m2 ⟨out2,from01,p2,c3,cs2,heq1,le1,h3,rfl,rfl⟩;subst o01;have hle:=hle.trans le1;exact zY<|zF<|zB<|yA [] [(7,vI (W (i + 1)))]<|xB<|vG [(0,vT s.l),(1,.int .u8 (c.toNat:Int)),(5,vS p2 out2 c3),(6,vI from01),(7,vI (W (i + 1)))]<|ih out2 from01 (W (i + 1)) _ hMc1 hle h3 hg ho hx
 intro hc hM;exact yZ<|zS<|zS<|yS [(5,vS p out c1)]<|hx _ _ _ _ _ (zD hM).symm hle h1
def mC (s:Str) (c:UInt8):Option ((List Str)):=do
 let out1←rI s c ([]:List Str) 0 0
 pure (id out1)
theorem zDx:∀ (s:Str) (c:UInt8) r,mC s c=some r→∀ {imm:Imm} ,Ret Tryz.prog 175 [vT s.l,.int .u8 (c.toNat:Int)] imm [] (zCp  r):=by
 intro s c r hM imm;unfold mC at hM;refine yH (fn:=Tryz.f175) (c:=(bodyOf Tryz.f175)) Tryz.func175 rfl rfl ?_;rintro B - -;refine zG<|zB<|yA [] []<|zF<|zG<|zB<|xV [] Str ?_;intro b hb;have h:RL imm [] ([]:List Str):=rfl;refine yA [] [(5,vS (some ⟨b,0,none⟩) ([]:List Str) 0)]<|zF<|zG<|zB<|yA [] [(6,vI 0)]<|zF<|zG<|zG<|zB<|yA [] [(7,vI 0)]<|zF<|yC<|vG [(0,vT s.l),(1,.int .u8 (c.toNat:Int)),(5,vS (some ⟨b,0,none⟩) ([]:List Str) 0),(6,vI 0),(7,vI 0)] ?_;obtain ⟨o02,ho02,hMl⟩:=zC hM;refine zCB s c ([]:List Str) 0 0 o02 ho02 iR h (fun _ _ _ h=>h) (fun _ _ h=>h) ?_;intro imm02 out1 p1 c2 cs1 heq2 le2 h2;subst o02;refine yD<|zF<|zG<|zB<|yA [] [(4,vS p1 out1 c2)]<|zF<|yI<|xJ 0 rfl ?_;intro imm03 le3 hl0;have h6:=SL.of_frozen hl0 le3 h2;obtain rfl:=zD hMl;exact yP ⟨_,_,(.tmp rfl ResV.nil),zX,⟨_,rfl,rfl,h6⟩⟩
def fP (r:Int×Bool):KT:=fun kk imm' hs' v=>
  ∃ v0 v1,hs'=[]∧v=tupV [v0,v1]∧v0=.int .i64 r.1∧v1=.bool r.2
def rJ (s1:Str) (n0:Int) (i:Int):Option (Out Int (Int×Bool)):=do
 if (decide (i < (s1.l.length:Int))) then
  let t54←(do
    let b2←sidx s1 i
    if (decide ((b2.toNat:Int) < 48)) then
     pure true
    else
     let b3←sidx s1 i
     pure (decide ((b3.toNat:Int) > 57))
      : Option Bool)
  if t54 then
   pure (.ret (0,false))
  else
   let b4←sidx s1 i
   rJ s1 (W ((W (n0 * 10)) + (W (IntKind.u8.wrap ((b4.toNat:Int) - 48))))) (W (i + 1))
 else
  pure (.done n0)
 partial_fixpoint
theorem zCC (s1:Str):∀ (n0:Int) (i:Int) (o:Out Int (Int×Bool)),rJ s1 n0 i=some o→∀ {B}{imm0 imm:Imm}{Q}{neg:Bool} ,imm0.le imm→(∀ gl a w,¬Q (.goto gl) a w)→(∀ a w,¬Q .outgrown a w)→(∀ (imm':Imm) (n01:Int),o=(.done n01)→imm0.le imm'→T 67 B Q (.exit 0) imm' [] [(4,.bool neg),(5,vI n01)])→(∀ r imm' hs' m',o=(.ret r)→imm0.le imm'→RS Tryz.prog Tryz.f213 B (fP  r) imm' hs' m'→T 67 B Q .ret imm' hs' m')→J Tryz.prog 67 B (nav (bodyOf Tryz.f213) [1,1,1,1,1,0,1,0]) Q imm [] [(0,vT s1.l),(4,.bool neg),(5,vI n0),(6,vI i)]:=by
 refine rJ.partial_correctness s1 _ ?_;intro self ih n0 i o hM B imm0 imm Q neg hle  hg ho hx hr;refine xA hg ho<|zG<|zG<|zB<|yA [] [(42,.bool (decide (i < (s1.l.length:Int))))]<|zF<|yO hM ?_ ?_
 · intro hc7 hM;refine yE<|zF<|zG<|yC<|zG<|zG ?_;obtain ⟨o03,ho03,hMc3⟩:=zC hM;refine yT (fun imm' hs' m'=>∃ (t54:Bool),o03=t54∧imm.le imm'∧hs'=[]∧m'=[(0,vT s1.l),(4,.bool neg),(5,vI n0),(6,vI i),(54,.bool t54)]) ?_ ?_
   · have hle:=iS imm;refine zB<|yK 2 [] [(45,vT s1.l),(46,vI i)] ?_;obtain ⟨b2,hy3,hM⟩:=zC ho03;refine gD rfl rfl hy3<|yK 5 [] [(49,.bool (decide ((b2.toNat:Int) < 48)))] ?_;cases hc8:(decide ((b2.toNat:Int) < 48)) with
     | true =>
      have hM010:=zV hc8 hM
      try rw [hc8]
      exact yA [] [(54,.bool true)]<|yS [(0,vT s1.l),(4,.bool neg),(5,vI n0),(6,vI i),(54,.bool true)]<|yB ⟨_,(zD hM010).symm,hle,rfl,rfl⟩
     | false =>
      have hM011:=zT hc8 hM
      try rw [hc8]
      refine yK 7 [] [(50,vT s1.l),(51,vI i)] ?_;obtain ⟨b3,hy4,hM⟩:=zC hM011;exact gD rfl rfl hy4<|yA [] [(54,.bool (decide ((b3.toNat:Int) > 57)))]<|yS [(0,vT s1.l),(4,.bool neg),(5,vI n0),(6,vI i),(54,.bool (decide ((b3.toNat:Int) > 57)))]<|yB ⟨_,(zD hM).symm,hle,rfl,rfl⟩
   rintro imm03 hs2 m2 ⟨t54,heq3,le3,rfl,rfl⟩;subst o03;have hle:=hle.trans le3;refine zF<|yO hMc3 ?_ ?_
   · intro hc9 hM;exact zG<|zB<|yA [] [(2,vI 0),(3,.bool false)]<|zF<|yI<|zP<|yF<|zP<|zP<|hr _ _ _ _ (zD hM).symm hle ⟨_,_,(.tmp rfl (.tmp rfl ResV.nil)),zX,⟨_,_,rfl,rfl,rfl,rfl⟩⟩
   intro hc9 hM;refine yE<|zF<|zB<|yK 4 [] [(56,vI (W (n0 * 10))),(57,vT s1.l),(58,vI i)] ?_;obtain ⟨b4,hy5,hM⟩:=zC hM;exact gD rfl rfl hy5<|yA [] [(5,vI (W ((W (n0 * 10)) + (W (IntKind.u8.wrap ((b4.toNat:Int) - 48))))))]<|zY<|zF<|zB<|yA [] [(6,vI (W (i + 1)))]<|xB<|vG [(0,vT s1.l),(4,.bool neg),(5,vI (W ((W (n0 * 10)) + (W (IntKind.u8.wrap ((b4.toNat:Int) - 48)))))),(6,vI (W (i + 1)))]<|ih (W ((W (n0 * 10)) + (W (IntKind.u8.wrap ((b4.toNat:Int) - 48))))) (W (i + 1)) _ hM hle  hg ho hx hr
 intro hc7 hM;exact yZ<|zS<|zS<|yS [(4,.bool neg),(5,vI n0)]<|hx _ _ (zD hM).symm hle
def mD (s:Str):Option (Int×Bool):=do
 let neg←(do
   if (decide ((s.l.length:Int) > 0)) then
    let b←sidx s 0
    pure ((b.toNat:Int) == 45)
   else
    pure false
     : Option Bool)
 let s1←(do
   if neg then
    let s2←sslc s 1 (s.l.length:Int)
    pure (id s2)
   else
    pure (id s)
     : Option Str)
 let t38←(do
   if ((s1.l.length:Int) == 0) then
    pure true
   else
    if (decide ((s1.l.length:Int) > 17)) then
     pure true
    else
     let b1←sidx s1 0
     if ((b1.toNat:Int) == 48) then
      if (decide ((s1.l.length:Int) > 1)) then
       pure true
      else
       pure (id neg)
     else
      pure false
     : Option Bool)
 if t38 then
  pure (0,false)
 else
  match←rJ s1 0 0 with
  | .ret r0=>pure r0
  | .done n01 =>
   let n02←(do
     if neg then
      pure (W (0 - n01))
     else
      pure (id n01)
       : Option Int)
   pure (n02,true)
theorem zDy:∀ (s:Str) r,mD s=some r→∀ {imm:Imm} ,Ret Tryz.prog 213 [vT s.l] imm [] (fP  r):=by
 intro s r hM imm;unfold mD at hM;refine yH (fn:=Tryz.f213) (c:=(bodyOf Tryz.f213)) Tryz.func213 rfl rfl ?_;rintro B - -;have hle:=iS imm;refine zG<|zB<|yA [] []<|zF<|zG ?_;obtain ⟨o0,ho0,hMc⟩:=zC hM;refine yT (fun imm' hs' m'=>∃ (neg:Bool),o0=neg∧imm.le imm'∧hs'=[]∧m'=[(0,vT s.l),(4,.bool neg)]) ?_ ?_
 · have hle:=iS imm;refine zB<|yK 4 [] [(10,.bool (decide ((s.l.length:Int) > 0)))] ?_;cases hc:(decide ((s.l.length:Int) > 0)) with
   | true =>
    have hM0:=zV hc ho0
    try rw [hc]
    refine yK 5 [] [(11,vT s.l)] ?_;obtain ⟨b,hy,hM⟩:=zC hM0;exact gD rfl rfl hy<|yA [] [(4,.bool ((b.toNat:Int) == 45))]<|yS [(0,vT s.l),(4,.bool ((b.toNat:Int) == 45))]<|yB ⟨_,(zD hM).symm,hle,rfl,rfl⟩
   | false =>
    have hM01:=zT hc ho0
    try rw [hc]
    exact yA [] [(4,.bool false)]<|yS [(0,vT s.l),(4,.bool false)]<|yB ⟨_,(zD hM01).symm,hle,rfl,rfl⟩
 rintro imm0 hs2 m2 ⟨neg,heq,le,rfl,rfl⟩;subst o0;have hle:=hle.trans le;refine zF<|zG<|zG<|zB<|yA [] [(15,.bool neg)]<|zF ?_;obtain ⟨o01,ho01,hMc1⟩:=zC hMc;refine yT (fun imm' hs' m'=>∃ (s1:Str),o01=s1∧imm0.le imm'∧hs'=[]∧m'=[(0,vT s1.l),(4,.bool neg)]) ?_ ?_
 · have hle:=iS imm0;refine yO ho01 ?_ ?_
   · intro hc1 hM;refine zB<|yK 1 [] [(16,vT s.l)] ?_;obtain ⟨s2,hy1,hM⟩:=zC hM;exact zE3 rfl hy1<|yA [] [(0,vT s2.l)]<|yS [(0,vT s2.l),(4,.bool neg)]<|yB ⟨_,(zD hM).symm,hle,rfl,rfl⟩
   intro hc1 hM;exact yE<|yS [(0,vT s.l),(4,.bool neg)]<|yB ⟨_,(zD hM).symm,hle,rfl,rfl⟩
 rintro imm01 hs2 m2 ⟨s1,heq1,le1,rfl,rfl⟩;subst o01;have hle:=hle.trans le1;refine zF<|zG<|zG ?_;obtain ⟨o02,ho02,hMc2⟩:=zC hMc1;refine yT (fun imm' hs' m'=>∃ (t38:Bool),o02=t38∧imm01.le imm'∧hs'=[]∧m'=[(0,vT s1.l),(4,.bool neg),(38,.bool t38)]) ?_ ?_
 · have hle:=iS imm01;refine zB<|yK 4 [] [(21,.bool ((s1.l.length:Int) == 0))] ?_;cases hc2:((s1.l.length:Int) == 0) with
   | true =>
    have hM02:=zV hc2 ho02
    try rw [hc2]
    exact yA [] [(38,.bool true)]<|yS [(0,vT s1.l),(4,.bool neg),(38,.bool true)]<|yB ⟨_,(zD hM02).symm,hle,rfl,rfl⟩
   | false =>
    have hM03:=zT hc2 ho02
    try rw [hc2]
    refine yK 9 [] [(26,.bool (decide ((s1.l.length:Int) > 17)))] ?_;cases hc3:(decide ((s1.l.length:Int) > 17)) with
    | true =>
     have hM04:=zV hc3 hM03
     try rw [hc3]
     exact yA [] [(38,.bool true)]<|yS [(0,vT s1.l),(4,.bool neg),(38,.bool true)]<|yB ⟨_,(zD hM04).symm,hle,rfl,rfl⟩
    | false =>
     have hM05:=zT hc3 hM03
     try rw [hc3]
     refine yK 10 [] [(27,vT s1.l)] ?_;obtain ⟨b1,hy2,hM⟩:=zC hM05;refine gD rfl rfl hy2<|yK 13 [] [(30,.bool ((b1.toNat:Int) == 48))] ?_;cases hc4:((b1.toNat:Int) == 48) with
     | true =>
      have hM06:=zV hc4 hM
      try rw [hc4]
      refine yK 17 [] [(34,.bool (decide ((s1.l.length:Int) > 1)))] ?_;cases hc5:(decide ((s1.l.length:Int) > 1)) with
      | true =>
       have hM07:=zV hc5 hM06
       try rw [hc5]
       exact yA [] [(38,.bool true)]<|yS [(0,vT s1.l),(4,.bool neg),(38,.bool true)]<|yB ⟨_,(zD hM07).symm,hle,rfl,rfl⟩
      | false =>
       have hM08:=zT hc5 hM06
       try rw [hc5]
       exact yA [] [(38,.bool neg)]<|yS [(0,vT s1.l),(4,.bool neg),(38,.bool neg)]<|yB ⟨_,(zD hM08).symm,hle,rfl,rfl⟩
     | false =>
      have hM09:=zT hc4 hM
      try rw [hc4]
      exact yA [] [(38,.bool false)]<|yS [(0,vT s1.l),(4,.bool neg),(38,.bool false)]<|yB ⟨_,(zD hM09).symm,hle,rfl,rfl⟩
 rintro imm02 hs2 m2 ⟨t38,heq2,le2,rfl,rfl⟩;subst o02;have hle:=hle.trans le2;refine zF<|yO hMc2 ?_ ?_
 · intro hc6 hM;refine zG<|zB<|yA [] [(2,vI 0),(3,.bool false)]<|zF<|yI<|zP ?_;obtain rfl:=zD hM;exact yP ⟨_,_,(.tmp rfl (.tmp rfl ResV.nil)),zX,⟨_,_,rfl,rfl,rfl,rfl⟩⟩
 intro hc6 hM;refine yE<|zF<|zG<|zB<|yA [] [(5,vI 0)]<|zF<|zG<|zG<|zB<|yA [] [(6,vI 0)]<|zF<|yC<|vG [(0,vT s1.l),(4,.bool neg),(5,vI 0),(6,vI 0)] ?_;obtain ⟨o04,ho04,hMl⟩:=zC hM;refine zCC s1 0 0 o04 ho04 iR  (fun _ _ _ h=>h) (fun _ _ h=>h) ?_ ?_
 · intro imm04 n01 heq4 le4;subst o04;have hle:=hle.trans le4;refine yD<|zF<|zG<|zG<|zB<|yA [] [(63,.bool neg)]<|zF ?_;obtain ⟨o05,ho05,hMc4⟩:=zC hMl;refine yT (fun imm' hs' m'=>∃ (n02:Int),o05=n02∧imm04.le imm'∧hs'=[]∧m'=[(5,vI n02)]) ?_ ?_
   · have hle:=iS imm04;refine yO ho05 ?_ ?_
     · intro hc10 hM;exact zB<|yA [] [(5,vI (W (0 - n01)))]<|yS [(5,vI (W (0 - n01)))]<|yB ⟨_,(zD hM).symm,hle,rfl,rfl⟩
     intro hc10 hM;exact yE<|yS [(5,vI n01)]<|yB ⟨_,(zD hM).symm,hle,rfl,rfl⟩
   rintro imm05 hs2 m2 ⟨n02,heq5,le5,rfl,rfl⟩;subst o05;refine zF<|zG<|zB<|yA [] [(2,vI n02),(3,.bool true)]<|zF<|yI ?_;obtain rfl:=zD hMc4;exact yP ⟨_,_,(.tmp rfl (.tmp rfl ResV.nil)),zX,⟨_,_,rfl,rfl,rfl,rfl⟩⟩
 intro r0 imm9 hs9 m9 heq9 le9 hrs9;subst heq9;refine yF<|zP ?_;obtain rfl:=zD hMl;exact yP hrs9
def zBN (r:Int×Int):KT:=fun kk imm' hs' v=>
  ∃ v0 v1,hs'=[]∧v=tupV [v0,v1]∧v0=.int .i64 r.1∧v1=.int .i64 r.2
def tZ (s:Str) (at0:Int) (end0:Int):Option (Int):=do
 let t31←(do
   if (decide (end0 < (s.l.length:Int))) then
    if (decide (end0 < (W (at0 + 2)))) then
     let b←sidx s end0
     if (decide ((b.toNat:Int) ≥ 48)) then
      let b1←sidx s end0
      pure (decide ((b1.toNat:Int) ≤ 57))
     else
      pure false
    else
     pure false
   else
    pure false
     : Option Bool)
 if t31 then
  tZ s at0 (W (end0 + 1))
 else
  pure (id end0)
 partial_fixpoint
theorem zAg (s:Str) (at0:Int):∀ (end0:Int) (o:Int),tZ s at0 end0=some o→∀ {B}{imm0 imm:Imm}{Q}  ,imm0.le imm→(∀ gl a w,¬Q (.goto gl) a w)→(∀ a w,¬Q .outgrown a w)→(∀ (imm':Imm) (end01:Int),o=end01→imm0.le imm'→T 47 B Q (.exit 0) imm' [] [(0,vT s.l),(1,vI at0),(6,vI end01)])→J Tryz.prog 47 B (nav (bodyOf Tryz.f212) [1,1,0,0]) Q imm [] [(0,vT s.l),(1,vI at0),(6,vI end0)]:=by
 refine tZ.partial_correctness s at0 _ ?_;intro self ih end0 o hM B imm0 imm Q  hle  hg ho hx;refine xA hg ho<|zG<|zG ?_;obtain ⟨o0,ho0,hMc⟩:=zC hM;refine yT (fun imm' hs' m'=>∃ (t31:Bool),o0=t31∧imm.le imm'∧hs'=[]∧m'=[(0,vT s.l),(1,vI at0),(6,vI end0),(31,.bool t31)]) ?_ ?_
 · have hle:=iS imm;refine zB<|yK 5 [] [(14,.bool (decide (end0 < (s.l.length:Int))))] ?_;cases hc:(decide (end0 < (s.l.length:Int))) with
   | true =>
    have hM0:=zV hc ho0
    try rw [hc]
    refine yK 11 [] [(20,.bool (decide (end0 < (W (at0 + 2)))))] ?_;cases hc1:(decide (end0 < (W (at0 + 2)))) with
    | true =>
     have hM01:=zV hc1 hM0
     try rw [hc1]
     refine yK 13 [] [(21,vT s.l),(22,vI end0)] ?_;obtain ⟨b,hy,hM⟩:=zC hM01;refine gD rfl rfl hy<|yK 17 [] [(26,.bool (decide ((b.toNat:Int) ≥ 48)))] ?_;cases hc2:(decide ((b.toNat:Int) ≥ 48)) with
     | true =>
      have hM02:=zV hc2 hM
      try rw [hc2]
      refine yK 19 [] [(27,vT s.l),(28,vI end0)] ?_;obtain ⟨b1,hy1,hM⟩:=zC hM02;exact gD rfl rfl hy1<|yA [] [(31,.bool (decide ((b1.toNat:Int) ≤ 57)))]<|yS [(0,vT s.l),(1,vI at0),(6,vI end0),(31,.bool (decide ((b1.toNat:Int) ≤ 57)))]<|yB ⟨_,(zD hM).symm,hle,rfl,rfl⟩
     | false =>
      have hM03:=zT hc2 hM
      try rw [hc2]
      exact yA [] [(31,.bool false)]<|yS [(0,vT s.l),(1,vI at0),(6,vI end0),(31,.bool false)]<|yB ⟨_,(zD hM03).symm,hle,rfl,rfl⟩
    | false =>
     have hM04:=zT hc1 hM0
     try rw [hc1]
     exact yA [] [(31,.bool false)]<|yS [(0,vT s.l),(1,vI at0),(6,vI end0),(31,.bool false)]<|yB ⟨_,(zD hM04).symm,hle,rfl,rfl⟩
   | false =>
    have hM05:=zT hc ho0
    try rw [hc]
    exact yA [] [(31,.bool false)]<|yS [(0,vT s.l),(1,vI at0),(6,vI end0),(31,.bool false)]<|yB ⟨_,(zD hM05).symm,hle,rfl,rfl⟩
 rintro imm0 hs2 m2 ⟨t31,heq,le,rfl,rfl⟩;subst o0;have hle:=hle.trans le;refine zF<|yO hMc ?_ ?_
 · intro hc3 hM;exact yE<|zF<|yC<|zB<|yA [] [(6,vI (W (end0 + 1)))]<|zY<|xB<|vG [(0,vT s.l),(1,vI at0),(6,vI (W (end0 + 1)))]<|ih (W (end0 + 1)) _ hM hle  hg ho hx
 intro hc3 hM;exact yZ<|zS<|zS<|yS [(0,vT s.l),(1,vI at0),(6,vI end0)]<|hx _ _ (zD hM).symm hle
def pH (s:Str) (at0:Int):Option (Int×Int):=do
 let end01←tZ s at0 at0
 let s1←sslc s at0 end01
 let (y1,y2)←mD s1
 if (!y2) then
  pure (1,at0)
 else
  pure (y1,end01)
theorem fQ:∀ (s:Str) (at0:Int) r,pH s at0=some r→∀ {imm:Imm} ,Ret Tryz.prog 212 [vT s.l,vI at0] imm [] (zBN  r):=by
 intro s at0 r hM imm;unfold pH at hM;refine yH (fn:=Tryz.f212) (c:=(bodyOf Tryz.f212)) Tryz.func212 rfl rfl ?_;rintro B - -;refine zG<|zB<|yA [] []<|zF<|zG<|zB<|yA [] [(6,vI at0)]<|zF<|zG<|yC<|vG [(0,vT s.l),(1,vI at0),(6,vI at0)] ?_;obtain ⟨o01,ho01,hMl⟩:=zC hM;refine zAg s at0 at0 o01 ho01 iR  (fun _ _ _ h=>h) (fun _ _ h=>h) ?_;intro imm01 end01 heq1 le1;subst o01;refine yD<|zF<|zG<|zB<|yK 3 [] [(35,vT s.l),(36,vI at0),(37,vI end01)] ?_;obtain ⟨s1,hy2,hM⟩:=zC hMl;refine zE3 rfl hy2 ?_;obtain ⟨⟨y1,y2⟩,hy3,hM⟩:=zC hM;refine yQ (zDy s1 _ hy3 ) ?_;rintro imm02 hs2 v2 k2 le2 - ⟨v0,v01,rfl,rfl,rfl,rfl⟩ -;refine yA [] [(7,vI y1),(8,.bool y2)]<|zF<|zG<|zG<|zB<|yA [] [(43,.bool (!y2))]<|zF<|yO hM ?_ ?_
 · intro hc4 hM;refine zG<|zB<|yA [] [(4,vI 1),(5,vI at0)]<|zF<|yI<|zP ?_;obtain rfl:=zD hM;exact yP ⟨_,_,(.tmp rfl (.tmp rfl ResV.nil)),zX,⟨_,_,rfl,rfl,rfl,rfl⟩⟩
 intro hc4 hM;refine yE<|zF<|zG<|zB<|yA [] [(4,vI y1),(5,vI end01)]<|zF<|yI ?_;obtain rfl:=zD hM;exact yP ⟨_,_,(.tmp rfl (.tmp rfl ResV.nil)),zX,⟨_,_,rfl,rfl,rfl,rfl⟩⟩
def zCq (r:Int):KT:=fun kk imm' hs' v=>
  ∃ v0,hs'=[]∧v=tupV [v0]∧v0=.int .i64 r
def mE (s:Str) (at0:Int):Option (Int):=do
 let t20←(do
   if (decide (at0 ≥ (s.l.length:Int))) then
    pure true
   else
    let b←sidx s at0
    if (decide ((b.toNat:Int) < 105)) then
     pure true
    else
     let b1←sidx s at0
     pure (decide ((b1.toNat:Int) > 108))
     : Option Bool)
 if t20 then
  pure (-1)
 else
  let b2←sidx s at0
  pure (W ((W (b2.toNat:Int)) - 105))
theorem zDz:∀ (s:Str) (at0:Int) r,mE s at0=some r→∀ {imm:Imm} ,Ret Tryz.prog 226 [vT s.l,vI at0] imm [] (zCq  r):=by
 intro s at0 r hM imm;unfold mE at hM;refine yH (fn:=Tryz.f226) (c:=(bodyOf Tryz.f226)) Tryz.func226 rfl rfl ?_;rintro B - -;have hle:=iS imm;refine zG<|zB<|yA [] []<|zF<|zG<|zG ?_;obtain ⟨o0,ho0,hMc⟩:=zC hM;refine yT (fun imm' hs' m'=>∃ (t20:Bool),o0=t20∧imm.le imm'∧hs'=[]∧m'=[(0,vT s.l),(1,vI at0),(20,.bool t20)]) ?_ ?_
 · have hle:=iS imm;refine zB<|yK 5 [] [(9,.bool (decide (at0 ≥ (s.l.length:Int))))] ?_;cases hc:(decide (at0 ≥ (s.l.length:Int))) with
   | true =>
    have hM0:=zV hc ho0
    try rw [hc]
    exact yA [] [(20,.bool true)]<|yS [(0,vT s.l),(1,vI at0),(20,.bool true)]<|yB ⟨_,(zD hM0).symm,hle,rfl,rfl⟩
   | false =>
    have hM01:=zT hc ho0
    try rw [hc]
    refine yK 7 [] [(10,vT s.l),(11,vI at0)] ?_;obtain ⟨b,hy,hM⟩:=zC hM01;refine gD rfl rfl hy<|yK 11 [] [(15,.bool (decide ((b.toNat:Int) < 105)))] ?_;cases hc1:(decide ((b.toNat:Int) < 105)) with
    | true =>
     have hM02:=zV hc1 hM
     try rw [hc1]
     exact yA [] [(20,.bool true)]<|yS [(0,vT s.l),(1,vI at0),(20,.bool true)]<|yB ⟨_,(zD hM02).symm,hle,rfl,rfl⟩
    | false =>
     have hM03:=zT hc1 hM
     try rw [hc1]
     refine yK 13 [] [(16,vT s.l),(17,vI at0)] ?_;obtain ⟨b1,hy1,hM⟩:=zC hM03;exact gD rfl rfl hy1<|yA [] [(20,.bool (decide ((b1.toNat:Int) > 108)))]<|yS [(0,vT s.l),(1,vI at0),(20,.bool (decide ((b1.toNat:Int) > 108)))]<|yB ⟨_,(zD hM).symm,hle,rfl,rfl⟩
 rintro imm0 hs2 m2 ⟨t20,heq,le,rfl,rfl⟩;subst o0;refine zF<|yO hMc ?_ ?_
 · intro hc2 hM;refine zG<|zB<|yA [] [(4,vI (-1))]<|zF<|yI<|zP ?_;obtain rfl:=zD hM;exact yP ⟨_,_,(.tmp rfl ResV.nil),zX,⟨_,rfl,rfl,rfl⟩⟩
 intro hc2 hM;refine yE<|zF<|zG<|zB<|yK 2 [] [(21,vT s.l),(22,vI at0)] ?_;obtain ⟨b2,hy2,hM⟩:=zC hM;refine gD rfl rfl hy2<|yA [] [(4,vI (W ((W (b2.toNat:Int)) - 105)))]<|zF<|yI ?_;obtain rfl:=zD hM;exact yP ⟨_,_,(.tmp rfl ResV.nil),zX,⟨_,rfl,rfl,rfl⟩⟩
def zCD (r:zA×Int):KT:=fun kk imm' hs' v=>
  ∃ v0 v1,hs'=[]∧v=tupV [v0,v1]∧(∃ cs,v0=.agg ⟨cs⟩∧Rp.rep imm' cs r.1)∧v1=.int .i64 r.2
def nP (a0:zA) (s:Str) (at0:Int):Option (zA×Int):=do
 let b2←sidx s at0
 let sign←(do
   if ((b2.toNat:Int) == 45) then
    pure (-1)
   else
    pure (id 1)
     : Option Int)
 let t27←(do
   let b3←sidx s at0
   if ((b3.toNat:Int) == 45) then
    pure true
   else
    let b4←sidx s at0
    pure ((b4.toNat:Int) == 43)
     : Option Bool)
 let at01←(do
   if t27 then
    pure (W (at0 + 1))
   else
    pure (id at0)
     : Option Int)
 let (y1,y2)←pH s at01
 let t51←(do
   if (decide (y2 > at01)) then
    if (decide (y2 < (s.l.length:Int))) then
     let b5←sidx s y2
     pure ((b5.toNat:Int) == 42)
    else
     pure false
   else
    pure false
     : Option Bool)
 let star←(do
   if t51 then
    pure (W (y2 + 1))
   else
    pure (id y2)
     : Option Int)
 let y3←mE s star
 let l←app 8 ([]:List Int) a0.Coefs
 let t75←(do
   if (decide (y3 ≥ 0)) then
    if (decide (star > y2)) then
     pure true
    else
     pure (y2 == at01)
   else
    pure false
     : Option Bool)
 if t75 then
  let x←idx l y3
  let x1←idx l y3
  let l1←pure (l.set y3.toNat (W (x + (W (sign * y1)))))
  pure ((zA.mk l1 a0.Const),(W (star + 1)))
 else
  if (y2 == at01) then
   pure (a0,(-1))
  else
   pure ((zA.mk l (W (a0.Const + (W (sign * y1))))),y2)
theorem zDU:∀ (a0:zA) (s:Str) (at0:Int) r,nP a0 s at0=some r→∀ {imm:Imm}{p c},(S4 imm p a0.Coefs c)→Ret Tryz.prog 221 [vA (cAff a0 p c),vT s.l,vI at0] imm [] (zCD  r):=by
 intro a0 s at0 r hM imm p c h;unfold nP at hM;refine yH (fn:=Tryz.f221) (c:=(bodyOf Tryz.f221)) Tryz.func221 rfl rfl ?_;rintro B - -;have hle:=iS imm;refine zG<|zB<|tA (cAff a0 p c) ?_;intro b hb;refine uB [z0,vI 0] ?_;intro b1 hb1;refine yA [] []<|zF<|zG<|zB<|yA [] [(8,vI 1)]<|zF<|zG<|zG<|zB<|yK 2 [] [(14,vT s.l),(15,vI at0)] ?_;obtain ⟨b2,hy,hM⟩:=zC hM;refine gD rfl rfl hy<|yA [] [(17,.bool ((b2.toNat:Int) == 45))]<|zF ?_;obtain ⟨o0,ho0,hMc⟩:=zC hM;refine yT (fun imm' hs' m'=>∃ (sign:Int),o0=sign∧imm.le imm'∧hs'=[hB b1 [z0,vI 0],hB b (cAff a0 p c)]∧m'=[(1,vT s.l),(2,vI at0),(3,vP b 0),(6,vP b1 0),(8,vI sign)]) ?_ ?_
 · have hle:=iS imm;refine yO ho0 ?_ ?_
   · intro hc hM;exact zB<|yA [] [(8,vI (-1))]<|yS [(1,vT s.l),(2,vI at0),(3,vP b 0),(6,vP b1 0),(8,vI (-1))]<|yB ⟨_,(zD hM).symm,hle,rfl,rfl⟩
   intro hc hM;exact yE<|yS [(1,vT s.l),(2,vI at0),(3,vP b 0),(6,vP b1 0),(8,vI 1)]<|yB ⟨_,(zD hM).symm,hle,rfl,rfl⟩
 rintro imm0 hs2 m2 ⟨sign,heq,le,rfl,rfl⟩;subst o0;have h:=h.mono le;have hle:=hle.trans le;refine zF<|zG<|zG ?_;obtain ⟨o01,ho01,hMc1⟩:=zC hMc;refine yT (fun imm' hs' m'=>∃ (t27:Bool),o01=t27∧imm0.le imm'∧hs'=[hB b1 [z0,vI 0],hB b (cAff a0 p c)]∧m'=[(1,vT s.l),(2,vI at0),(3,vP b 0),(6,vP b1 0),(8,vI sign),(27,.bool t27)]) ?_ ?_
 · have hle:=iS imm0;refine zB<|yK 2 [] [(18,vT s.l),(19,vI at0)] ?_;obtain ⟨b3,hy1,hM⟩:=zC ho01;refine gD rfl rfl hy1<|yK 5 [] [(22,.bool ((b3.toNat:Int) == 45))] ?_;cases hc1:((b3.toNat:Int) == 45) with
   | true =>
    have hM0:=zV hc1 hM
    try rw [hc1]
    exact yA [] [(27,.bool true)]<|yS [(1,vT s.l),(2,vI at0),(3,vP b 0),(6,vP b1 0),(8,vI sign),(27,.bool true)]<|yB ⟨_,(zD hM0).symm,hle,rfl,rfl⟩
   | false =>
    have hM01:=zT hc1 hM
    try rw [hc1]
    refine yK 7 [] [(23,vT s.l),(24,vI at0)] ?_;obtain ⟨b4,hy2,hM⟩:=zC hM01;exact gD rfl rfl hy2<|yA [] [(27,.bool ((b4.toNat:Int) == 43))]<|yS [(1,vT s.l),(2,vI at0),(3,vP b 0),(6,vP b1 0),(8,vI sign),(27,.bool ((b4.toNat:Int) == 43))]<|yB ⟨_,(zD hM).symm,hle,rfl,rfl⟩
 rintro imm01 hs2 m2 ⟨t27,heq1,le1,rfl,rfl⟩;subst o01;have h:=h.mono le1;have hle:=hle.trans le1;refine zF ?_;obtain ⟨o02,ho02,hMc2⟩:=zC hMc1;refine yT (fun imm' hs' m'=>∃ (at01:Int),o02=at01∧imm01.le imm'∧hs'=[hB b1 [z0,vI 0],hB b (cAff a0 p c)]∧m'=[(1,vT s.l),(2,vI at01),(3,vP b 0),(6,vP b1 0),(8,vI sign)]) ?_ ?_
 · have hle:=iS imm01;refine yO ho02 ?_ ?_
   · intro hc2 hM;exact zB<|yA [] [(2,vI (W (at0 + 1)))]<|yS [(1,vT s.l),(2,vI (W (at0 + 1))),(3,vP b 0),(6,vP b1 0),(8,vI sign)]<|yB ⟨_,(zD hM).symm,hle,rfl,rfl⟩
   intro hc2 hM;exact yE<|yS [(1,vT s.l),(2,vI at0),(3,vP b 0),(6,vP b1 0),(8,vI sign)]<|yB ⟨_,(zD hM).symm,hle,rfl,rfl⟩
 rintro imm02 hs2 m2 ⟨at01,heq2,le2,rfl,rfl⟩;subst o02;have h:=h.mono le2;have hle:=hle.trans le2;refine zF<|zG<|zB<|yK 2 [] [(31,vT s.l),(32,vI at01)] ?_;obtain ⟨⟨y1,y2⟩,hy3,hM⟩:=zC hMc2;refine yQ (fQ s at01 _ hy3 ) ?_;rintro imm03 hs2 v2 k2 le3 - ⟨v0,v01,rfl,rfl,rfl,rfl⟩ -;have h:=h.mono le3;have hle:=hle.trans le3;refine yA [] [(9,vI y1),(10,vI y2)]<|zF<|zG<|zB<|yA [] [(11,vI y2)]<|zF<|zG<|zG ?_;obtain ⟨o03,ho03,hMc3⟩:=zC hM;refine yT (fun imm' hs' m'=>∃ (t51:Bool),o03=t51∧imm03.le imm'∧hs'=[hB b1 [z0,vI 0],hB b (cAff a0 p c)]∧m'=[(1,vT s.l),(2,vI at01),(3,vP b 0),(6,vP b1 0),(8,vI sign),(9,vI y1),(10,vI y2),(11,vI y2),(51,.bool t51)]) ?_ ?_
 · have hle:=iS imm03;refine zB<|yK 4 [] [(40,.bool (decide (y2 > at01)))] ?_;cases hc3:(decide (y2 > at01)) with
   | true =>
    have hM02:=zV hc3 ho03
    try rw [hc3]
    refine yK 10 [] [(46,.bool (decide (y2 < (s.l.length:Int))))] ?_;cases hc4:(decide (y2 < (s.l.length:Int))) with
    | true =>
     have hM03:=zV hc4 hM02
     try rw [hc4]
     refine yK 12 [] [(47,vT s.l),(48,vI y2)] ?_;obtain ⟨b5,hy4,hM⟩:=zC hM03;exact gD rfl rfl hy4<|yA [] [(51,.bool ((b5.toNat:Int) == 42))]<|yS [(1,vT s.l),(2,vI at01),(3,vP b 0),(6,vP b1 0),(8,vI sign),(9,vI y1),(10,vI y2),(11,vI y2),(51,.bool ((b5.toNat:Int) == 42))]<|yB ⟨_,(zD hM).symm,hle,rfl,rfl⟩
    | false =>
     have hM04:=zT hc4 hM02
     try rw [hc4]
     exact yA [] [(51,.bool false)]<|yS [(1,vT s.l),(2,vI at01),(3,vP b 0),(6,vP b1 0),(8,vI sign),(9,vI y1),(10,vI y2),(11,vI y2),(51,.bool false)]<|yB ⟨_,(zD hM04).symm,hle,rfl,rfl⟩
   | false =>
    have hM05:=zT hc3 ho03
    try rw [hc3]
    exact yA [] [(51,.bool false)]<|yS [(1,vT s.l),(2,vI at01),(3,vP b 0),(6,vP b1 0),(8,vI sign),(9,vI y1),(10,vI y2),(11,vI y2),(51,.bool false)]<|yB ⟨_,(zD hM05).symm,hle,rfl,rfl⟩
 rintro imm04 hs2 m2 ⟨t51,heq3,le4,rfl,rfl⟩;subst o03;have h:=h.mono le4;have hle:=hle.trans le4;refine zF ?_;obtain ⟨o04,ho04,hMc4⟩:=zC hMc3;refine yT (fun imm' hs' m'=>∃ (star:Int),o04=star∧imm04.le imm'∧hs'=[hB b1 [z0,vI 0],hB b (cAff a0 p c)]∧m'=[(1,vT s.l),(2,vI at01),(3,vP b 0),(6,vP b1 0),(8,vI sign),(9,vI y1),(10,vI y2),(11,vI star)]) ?_ ?_
 · have hle:=iS imm04;refine yO ho04 ?_ ?_
   · intro hc5 hM;exact zB<|yA [] [(11,vI (W (y2 + 1)))]<|yS [(1,vT s.l),(2,vI at01),(3,vP b 0),(6,vP b1 0),(8,vI sign),(9,vI y1),(10,vI y2),(11,vI (W (y2 + 1)))]<|yB ⟨_,(zD hM).symm,hle,rfl,rfl⟩
   intro hc5 hM;exact yE<|yS [(1,vT s.l),(2,vI at01),(3,vP b 0),(6,vP b1 0),(8,vI sign),(9,vI y1),(10,vI y2),(11,vI y2)]<|yB ⟨_,(zD hM).symm,hle,rfl,rfl⟩
 rintro imm05 hs2 m2 ⟨star,heq4,le5,rfl,rfl⟩;subst o04;have h:=h.mono le5;have hle:=hle.trans le5;refine zF<|zG<|zB<|yK 2 [] [(54,vT s.l),(55,vI star)] ?_;obtain ⟨y3,hy5,hM⟩:=zC hMc4;refine yQ (zDz s star _ hy5 ) ?_;rintro imm06 hs2 v2 k2 le6 - ⟨v02,rfl,rfl,rfl⟩ -;have h:=h.mono le6;have hle:=hle.trans le6;refine yA [] [(12,vI y3)]<|zF<|zG ?_;obtain ⟨l,hy6,hM⟩:=zC hM;refine vC [.x (fun imm' v hx=>∃ b6,v=vS (some ⟨b6,0,none⟩) ([]:List Int) 0∧hx=[hO Int (vS (some ⟨b6,0,none⟩) ([]:List Int) 0) []]∧(RL imm' [] ([]:List Int))),.p (vP b 0) [],.p (vS p a0.Coefs c) [1],.x (fun imm' v hx=>∃ p1 c1 cs,v=vS p1 l c1∧hx=[hO Int (vS p1 l c1) cs]∧(RL imm' cs l)),.p (vP b 1) [],.p (vI a0.Const) [1],.x (fun imm' v hx=>∃ p11 c11 cs1,v=vA [vS p11 l c11,vI a0.Const]∧hx=[hO Int (vS p11 l c11) cs1]∧(RL imm' cs1 l)),.x (fun imm' v hx=>∃ b7,v=vP b7 0∧hx=[hB b7 [z0,vI 0]])] [[],[],[(1,false)],[(0,true),(2,false)],[],[(4,false)],[(3,true),(5,false)],[]] [hB b1 [z0,vI 0],hB b (cAff a0 p c)] [] [(6,true),(7,true)] (zL [0,1] rfl (by decide)) ?_ ?_
 · refine Ox ?_<|Op<|Op<|Ox ?_<|Op<|Op<|Ox ?_<|Ox ?_<|On
   · intro imm1 hf le1;refine zM<|yG [] ?_;have hle:=iS imm1;refine xV [] Int ?_;intro b6 hb2;have h4:RL imm1 [] ([]:List Int):=rfl;exact zZ (hx:=[hO Int (vS (some ⟨b6,0,none⟩) ([]:List Int) 0) []]) rfl hle rfl (zK rfl) ⟨_,rfl,rfl,h4⟩
   · intro imm1 hf le1;refine zE ?_;rintro _ _ ⟨b6,rfl,rfl,h4⟩;refine zE ?_;rintro _ _ ⟨rfl,rfl⟩;refine zM<|yG [(57,vS (some ⟨b6,0,none⟩) ([]:List Int) 0),(59,vS p a0.Coefs c)] ?_;have hle:=iS imm1;have h:=h.mono le1;obtain ⟨ccs,k0,k01⟩:=h;have h:SL imm1 (vS p a0.Coefs c) a0.Coefs:=⟨_,k0,k01⟩;refine qQ 3 1 0 rfl rfl rfl h4 (.inl k0) k01 hy6 ?_;intro p1 c1 cs h5;exact uP (hs':=(hO Int (vS p1 l c1) cs::hB b1 [z0,vI 0]::hB b (cAff a0 p c)::hf)) rfl<|zZ (hx:=[hO Int (vS p1 l c1) cs]) rfl hle rfl (zK rfl) ⟨_,_,_,rfl,rfl,h5⟩
   · intro imm1 hf le1;refine zE ?_;rintro _ _ ⟨p1,c1,cs,rfl,rfl,h5⟩;refine zE ?_;rintro _ _ ⟨rfl,rfl⟩;refine zM<|yG [(60,vS p1 l c1),(62,vI a0.Const)] ?_;have hle:=iS imm1;exact rW 7 [(63,vA [vS p1 l c1,vI a0.Const])]<|zZ (hx:=[hO Int (vS p1 l c1) cs]) rfl hle rfl (zK rfl) ⟨_,_,_,rfl,rfl,h5⟩
   intro imm1 hf le1;refine zM<|yG [] ?_;have hle:=iS imm1;refine uB [z0,vI 0] ?_;intro b7 hb3;exact zZ (hx:=[hB b7 [z0,vI 0]]) rfl hle rfl (zK rfl) ⟨_,rfl,rfl⟩
 intro imm07 le7;refine zE ?_;rintro _ _ ⟨p11,c11,cs1,rfl,rfl,h51⟩;refine zE ?_;rintro _ _ ⟨b7,rfl,rfl⟩;refine zM<|yG [(2,vI at01),(3,vP b 0),(6,vP b1 0),(8,vI sign),(9,vI y1),(10,vI y2),(11,vI star),(12,vI y3),(13,vP b7 0),(63,vA [vS p11 l c11,vI a0.Const])] ?_;have h:=h.mono le7;have hle:=hle.trans le7;refine xI 0 [vS p11 l c11,vI a0.Const] [hB b7 [vS p11 l c11,vI a0.Const],hO Int (vS p11 l c11) cs1,hB b1 [z0,vI 0],hB b (cAff a0 p c)] rfl rfl rfl rfl<|yN rfl<|zF<|zG<|zG ?_;obtain ⟨o05,ho05,hMc5⟩:=zC hM;refine yT (fun imm' hs' m'=>∃ (t75:Bool),o05=t75∧imm07.le imm'∧hs'=[hB b7 [vS p11 l c11,vI a0.Const],hO Int (vS p11 l c11) cs1,hB b1 [z0,vI 0],hB b (cAff a0 p c)]∧m'=[(2,vI at01),(3,vP b 0),(6,vP b1 0),(8,vI sign),(9,vI y1),(10,vI y2),(11,vI star),(12,vI y3),(13,vP b7 0),(75,.bool t75)]) ?_ ?_
 · have hle:=iS imm07;refine zB<|yK 3 [] [(66,.bool (decide (y3 ≥ 0)))] ?_;cases hc6:(decide (y3 ≥ 0)) with
   | true =>
    have hM06:=zV hc6 ho05
    try rw [hc6]
    refine yK 7 [] [(70,.bool (decide (star > y2)))] ?_;cases hc7:(decide (star > y2)) with
    | true =>
     have hM07:=zV hc7 hM06
     try rw [hc7]
     exact yA [] [(75,.bool true)]<|yS [(2,vI at01),(3,vP b 0),(6,vP b1 0),(8,vI sign),(9,vI y1),(10,vI y2),(11,vI star),(12,vI y3),(13,vP b7 0),(75,.bool true)]<|yB ⟨_,(zD hM07).symm,hle,rfl,rfl⟩
    | false =>
     have hM08:=zT hc7 hM06
     try rw [hc7]
     exact yA [] [(75,.bool (y2 == at01))]<|yS [(2,vI at01),(3,vP b 0),(6,vP b1 0),(8,vI sign),(9,vI y1),(10,vI y2),(11,vI star),(12,vI y3),(13,vP b7 0),(75,.bool (y2 == at01))]<|yB ⟨_,(zD hM08).symm,hle,rfl,rfl⟩
   | false =>
    have hM09:=zT hc6 ho05
    try rw [hc6]
    exact yA [] [(75,.bool false)]<|yS [(2,vI at01),(3,vP b 0),(6,vP b1 0),(8,vI sign),(9,vI y1),(10,vI y2),(11,vI star),(12,vI y3),(13,vP b7 0),(75,.bool false)]<|yB ⟨_,(zD hM09).symm,hle,rfl,rfl⟩
 rintro imm08 hs2 m2 ⟨t75,heq5,le8,rfl,rfl⟩;subst o05;have h51:=iM le8 h51;have h:=h.mono le8;have hle:=hle.trans le8;refine zF<|yO hMc5 ?_ ?_
 · intro hc8 hM;refine zG ?_;obtain ⟨x,hy7,hM⟩:=zC hM;refine vC [.p (vP b7 0) [],.p (vS p11 l c11) [0],.p (vI y3) [],.p (vP b7 0) [],.p (vS p11 l c11) [0],.p (vI y3) [],.x (fun imm' v hx=>∃ ad,v=.pointer (some ad)∧hx=[]∧(AtO (vS p11 l c11) (Rp.sz Int) y3.toNat ad)∧((cs1.drop (y3.toNat * Rp.sz Int)).take (Rp.sz Int)=[vI x])),.q (vI x),.p (vI sign) [],.p (vI y1) [],.p (vI (W (sign * y1))) [],.p (vI (W (x + (W (sign * y1))))) []] [[],[(0,false)],[],[],[(3,false)],[],[(4,false),(5,false)],[(6,false)],[],[],[(8,false),(9,false)],[(7,false),(10,false)]] [hB b7 [vS p11 l c11,vI a0.Const],hO Int (vS p11 l c11) cs1,hB b1 [z0,vI 0],hB b (cAff a0 p c)] [] [(1,false),(2,false),(11,false)] (zL [0,1,2,3] rfl (by decide)) ?_ ?_
   · refine Op<|Op<|Op<|Op<|Op<|Op<|Ox ?_<|Oq ?_<|Op<|Op<|Op<|Op<|On
     · intro imm1 hf le1;refine zE ?_;rintro _ _ ⟨rfl,rfl⟩;refine zE ?_;rintro _ _ ⟨rfl,rfl⟩;refine zM<|yG [(80,vS p11 l c11),(81,vI y3)] ?_;have hle:=iS imm1;have h51:=iM le1 h51;refine nK 1 rfl rfl rfl h51 hy7 ?_;intro ad ccs1 hat hcc hrep;obtain rfl:=hrep;exact zZ (hx:=[]) rfl hle rfl (zK rfl) ⟨_,rfl,rfl,hat,hcc⟩
     intro imm1 hf le1;refine zE ?_;rintro _ _ ⟨ad,rfl,rfl,hat,hcc⟩;refine zM<|yG [(82,.pointer (some ad))] ?_;have hle:=iS imm1;exact zDH 1 0 hat hcc [vI x] (vI x) rfl rfl<|zZ (hx:=[]) rfl hle rfl (zK rfl) ⟨rfl,rfl⟩
   intro imm09 le9;refine zE ?_;rintro _ _ ⟨rfl,rfl⟩;refine zE ?_;rintro _ _ ⟨rfl,rfl⟩;refine zE ?_;rintro _ _ ⟨rfl,rfl⟩;refine zM<|yG [(6,vP b1 0),(11,vI star),(13,vP b7 0),(77,vS p11 l c11),(78,vI y3),(87,vI (W (x + (W (sign * y1)))))] ?_;have h51:=iM le9 h51;obtain ⟨x1,hy8,hM⟩:=zC hM;refine nK 1 rfl rfl rfl h51 hy8 ?_;intro ad1 ccs2 hat1 hcc1 hrep1;obtain rfl:=hrep1;obtain ⟨l1,hy9,hM⟩:=zC hM;refine qX (c:=[vI (W (x + (W (sign * y1))))]) (x':=(W (x + (W (sign * y1))))) 1 0 rfl rfl rfl hat1 rfl rfl hcc1 (by kernel_rfl) (by kernel_rfl) (by kernel_rfl) h51 hy8 (by kernel_rfl) rfl ?_;rw [show l.set y3.toNat (W (x + (W (sign * y1))))=l1 from zD hy9];intro cs2 h6 hl0;refine kO (m':=[(6,vP b1 0),(11,vI star),(13,vP b7 0),(77,vS p11 l c11),(78,vI y3),(87,vI (W (x + (W (sign * y1)))))]) ⟨rfl,rfl,rfl,rfl,rfl,rfl,trivial⟩<|zC0 (hs':=[hB b7 [vS p11 l1 c11,vI a0.Const],hO Int (vS p11 l1 c11) cs2,hB b1 [z0,vI 0],hB b (cAff a0 p c)]) (m':=[(6,vP b1 0),(11,vI star),(13,vP b7 0),(77,vS p11 l1 c11),(78,vI y3),(87,vI (W (x + (W (sign * y1)))))]) (by first | rfl | simp only [vS,hl0,List.nil_append,List.cons_append,List.set_cons_zero,List.set_cons_succ,List.eraseIdx_cons_zero,List.eraseIdx_cons_succ]) (by first | rfl | simp only [vS,hl0])<|yN rfl<|zF<|zG<|zB<|yK 3 [0] [(89,vA [vS p11 l1 c11,vI a0.Const]),(91,vI (W (star + 1)))]<|xI 2 [vS p11 l1 c11,vI a0.Const] [hB b7 [vS p11 l1 c11,vI a0.Const],hO Int (vS p11 l1 c11) cs2,hB b1 [vS p11 l1 c11,vI a0.Const],hB b (cAff a0 p c)] rfl rfl rfl rfl<|yA [] [(7,vI (W (star + 1)))]<|zF<|yI<|zP<|xJ 1 rfl ?_;intro imm010 le10 hl01;have h7:=SL.of_frozen hl01 le10 h6;obtain rfl:=zD hM;exact yP ⟨_,_,(.cell 1 rfl rfl (by kernel_rfl) (.tmp rfl ResV.nil)),zX,⟨_,_,rfl,rfl,⟨_,rfl,(yR ⟨_,rfl,h7⟩)⟩,rfl⟩⟩
 intro hc8 hM;refine yE<|zF<|zG<|zG<|zB<|yA [] [(94,.bool (y2 == at01))]<|zF<|yO hM ?_ ?_
 · intro hc9 hM;refine zG<|zB<|yK 1 [3] [(95,vA (cAff a0 p c))]<|xI 2 (cAff a0 p c) [hB b7 [vS p11 l c11,vI a0.Const],hO Int (vS p11 l c11) cs1,hB b1 (cAff a0 p c),hB b (cAff a0 p c)] rfl rfl rfl rfl<|yA [] [(7,vI (-1))]<|zF<|yI<|zP ?_;obtain rfl:=zD hM;exact yP ⟨_,_,(.cell 2 rfl rfl (by kernel_rfl) (.tmp rfl ResV.nil)),zX,⟨_,_,rfl,rfl,⟨_,rfl,(yR ⟨_,rfl,h⟩)⟩,rfl⟩⟩
 intro hc9 hM;refine yE<|zF<|zG<|zB<|yK 7 [0] [(101,vI (W (a0.Const + (W (sign * y1))))),(102,vP b7 1)]<|xI 0 [vS p11 l c11,vI (W (a0.Const + (W (sign * y1))))] [hB b7 [vS p11 l c11,vI (W (a0.Const + (W (sign * y1))))],hO Int (vS p11 l c11) cs1,hB b1 [z0,vI 0],hB b (cAff a0 p c)] rfl rfl rfl rfl<|yN rfl<|zF<|zG<|zB<|yK 2 [0] [(103,vA [vS p11 l c11,vI (W (a0.Const + (W (sign * y1))))]),(104,vI y2)]<|xI 2 [vS p11 l c11,vI (W (a0.Const + (W (sign * y1))))] [hB b7 [vS p11 l c11,vI (W (a0.Const + (W (sign * y1))))],hO Int (vS p11 l c11) cs1,hB b1 [vS p11 l c11,vI (W (a0.Const + (W (sign * y1))))],hB b (cAff a0 p c)] rfl rfl rfl rfl<|yA [] [(7,vI y2)]<|zF<|yI<|xJ 1 rfl ?_;intro imm011 le11 hl02;have h8:=SL.of_frozen hl02 le11 h51;obtain rfl:=zD hM;exact yP ⟨_,_,(.cell 1 rfl rfl (by kernel_rfl) (.tmp rfl ResV.nil)),zX,⟨_,_,rfl,rfl,⟨_,rfl,(yR ⟨_,rfl,h8⟩)⟩,rfl⟩⟩
end Go.LN
