/- Helper of the proof (see the last text). -/
import Derived.Test.YtknadcjnkbdpdaaGreatHM2
set_option linter.unusedVariables false
set_option linter.unusedSimpArgs false
namespace Go.LN
open Go.Proofs
set_option maxRecDepth 20000
mutual
def uZ (e0:zG) (depth:Int) (levels:Int):Option (Bool):=do
 let t24←(do
   if (decide (levels < 1)) then
    pure true
   else
    let y←nN e0.Kind
    if (y != (e0.Kids.length:Int)) then
     pure true
    else
     let y1←mS e0 depth
     pure (!y1)
     : Option Bool)
 if t24 then
  pure false
 else
  match←vL (same e0) (same depth) (same levels) (same 0) with
  | .ret r0=>pure r0
  | .done _ =>
   pure true
 partial_fixpoint
def vL (e0:zG) (depth:Int) (levels:Int) (i:Int):Option (Out Unit (Bool)):=do
 if (decide (i < (e0.Kids.length:Int))) then
  let x←idx e0.Kids i
  let y2←uZ (same x) (same depth) (W (levels - 1))
  if (!y2) then
   pure (.ret false)
  else
   vL (same e0) (same depth) (same levels) (W (i + 1))
 else
  pure (.done ())
 partial_fixpoint
end
theorem zD6:(∀ (e0:zG) (depth:Int) (levels:Int) r,uZ e0 depth levels=some r→∀ {I:Imm}{p c p1 c1 p2 c2},(S4 I p e0.Index.Coefs c)→(S4 I p1 e0.Read.Subs c1)→(S4 I p2 e0.Kids c2)→RT 182 [vA (cExpr e0 p c p1 c1 p2 c2),vI depth,vI levels] I [] (zY  r))∧(∀ (e0:zG) (depth:Int) (levels:Int) (i:Int) o,vL e0 depth levels i=some o→∀ {B}{I0 I:Imm}{Q p c p1 c1 p2 c2}{b:Nat},I0.le I→(S4 I p e0.Index.Coefs c)→(S4 I p1 e0.Read.Subs c1)→(S4 I p2 e0.Kids c2)→NG Q→NO Q→(∀ (I':Imm) ,o=(.done ())→I0.le I'→T 42 B Q (.exit 0) I' [] [])→(∀ r I' hs' m',o=(.ret r)→I0.le I'→RS Tryz.prog Tryz.f182 B (zY  r) I' hs' m'→T 42 B Q .ret I' hs' m')→J Tryz.prog 42 B (nav (bodyOf Tryz.f182) [1,1,0,1,0]) Q I [hB b (cExpr e0 p c p1 c1 p2 c2)] [(1,vI depth),(2,vI levels),(3,vP b 0),(7,vI i)]):=by
  refine uZ.mutual_partial_correctness _ _ ?_ ?_
  · intro F_spec_l3Shape_l1 ih_spec_l3Shape_l1 e0 depth levels r N I p c p1 c1 p2 c2 h h1 h2;refine zX (fn:=Tryz.f182) (c:=(bodyOf Tryz.f182)) Tryz.func182 rfl rfl ?_;rintro B - -;have H:=iS I;refine yK<|tO (cExpr e0 p c p1 c1 p2 c2) ?_;intro b hb;refine yB [] []<|yG<|yI ?_;obtain ⟨o0,ho0,hMc⟩:=zB N;refine yU (fun I' hs' m'=>∃ (t24:Bool),o0=t24∧I.le I'∧hs'=[hB b (cExpr e0 p c p1 c1 p2 c2)]∧m'=[(1,vI depth),(2,vI levels),(3,vP b 0),(24,.bool t24)]) ?_ ?_
    · have H:=iS I;cases hc:(decide (levels < 1)) with
      | true =>
       have hM0:=zS hc ho0;refine vC [.p (vI levels) [],.q vY,.q vY,.p undef [],.p undef [],.p undef [],.p undef [],.p undef [],.p undef [],.p undef [],.p vY [],.p vY [],.p undef [],.p undef [],.p undef [],.p undef [],.p vY []] [[],[(0,false)],[(1,false)],[(2,false)],[(2,false),(3,false)],[(2,false),(4,false)],[(2,false)],[(2,false),(6,false)],[(2,false),(7,false)],[(2,false),(5,false),(8,false)],[(2,false),(9,false)],[(10,false)],[(11,false)],[(11,false)],[(11,false),(12,false),(13,false)],[(11,false),(14,false)],[(11,false),(15,false)]] [hB b (cExpr e0 p c p1 c1 p2 c2)] [] [(16,false)] (yD [0]) ?_ ?_
       · refine Op<|Oq ?_<|Oq ?_<|Op<|Op<|Op<|Op<|Op<|Op<|Op<|Op<|Op<|Op<|Op<|Op<|Op<|Op<|On
         · intro I1 hf le1;refine yR [(8,vI levels)]<|pM 2 [(9,.bool (decide (levels < 1)))] ?_;rw [hc];exact xI iR
         intro I1 hf le1;exact yR [(9,vY)]<|pM 3 [(10,vY)]<|xI iR
       intro I01 le;refine yR [(1,vI depth),(2,vI levels),(3,vP b 0),(24,vY)] ?_;have H:=H.trans le;exact yH rfl<|yS [(1,vI depth),(2,vI levels),(3,vP b 0),(24,vY)]<|zW (ct hM0 H)
      | false =>
       have hM01:=zQ hc ho0;obtain ⟨y,hy,N⟩:=zB hM01;cases hc1:(y != (e0.Kids.length:Int)) with
       | true =>
        have hM02:=zS hc1 N;refine vC [.p (vI levels) [],.q vF,.q vF,.p (vP b 0) [],.p (vI e0.Kind) [0],.q (vI y),.p (vP b 6) [],.p (vS p2 e0.Kids c2) [0],.p (vI (e0.Kids.length:Int)) [],.q vY,.q vY,.q vY,.p undef [],.p undef [],.p undef [],.p undef [],.p vY []] [[],[(0,false)],[(1,false)],[(2,false)],[(2,false),(3,false)],[(2,false),(4,false)],[(2,false)],[(2,false),(6,false)],[(2,false),(7,false)],[(2,false),(5,false),(8,false)],[(2,false),(9,false)],[(10,false)],[(11,false)],[(11,false)],[(11,false),(12,false),(13,false)],[(11,false),(14,false)],[(11,false),(15,false)]] [hB b (cExpr e0 p c p1 c1 p2 c2)] [] [(16,false)] (yD [0]) ?_ ?_
        · refine Op<|Oq ?_<|Oq ?_<|Op<|Op<|Oq ?_<|Op<|Op<|Op<|Oq ?_<|Oq ?_<|Oq ?_<|Op<|Op<|Op<|Op<|Op<|On
          · intro I1 hf le1;refine yR [(8,vI levels)]<|pM 2 [(9,.bool (decide (levels < 1)))] ?_;rw [hc];exact xI iR
          · intro I1 hf le1;exact yR [(9,vF)]<|pM 3 [(10,vF)]<|xI iR
          · intro I1 hf le1;refine yR [(10,vF),(12,vI e0.Kind)] ?_;have H:=iS I1;refine kI (zBA e0.Kind _ hy ) ?_;intro I02 le1;have H:=H.trans le1;exact xI H
          · intro I1 hf le1;refine yR [(10,vF),(13,vI y),(16,vI (e0.Kids.length:Int))]<|pM 10 [(17,.bool (y != (e0.Kids.length:Int)))] ?_;rw [hc1];exact xI iR
          · intro I1 hf le1;exact yR [(10,vF),(17,vY)]<|pM 11 [(18,vY)]<|xI iR
          intro I1 hf le1;exact yR [(18,vY)]<|pM 12 [(19,vY)]<|xI iR
        intro I03 le2;refine yR [(1,vI depth),(2,vI levels),(3,vP b 0),(24,vY)] ?_;have H:=H.trans le2;exact yH rfl<|yS [(1,vI depth),(2,vI levels),(3,vP b 0),(24,vY)]<|zW (ct hM02 H)
       | false =>
        have hM03:=zQ hc1 N;obtain ⟨y1,hy1,N⟩:=zB hM03;refine vC [.p (vI levels) [],.q vF,.q vF,.p (vP b 0) [],.p (vI e0.Kind) [0],.q (vI y),.p (vP b 6) [],.p (vS p2 e0.Kids c2) [0],.p (vI (e0.Kids.length:Int)) [],.q vF,.q vF,.q vF,.p (vA (cExpr e0 p c p1 c1 p2 c2)) [0],.p (vI depth) [],.q (.bool y1),.p (.bool (!y1)) [],.p (.bool (!y1)) []] [[],[(0,false)],[(1,false)],[(2,false)],[(2,false),(3,false)],[(2,false),(4,false)],[(2,false)],[(2,false),(6,false)],[(2,false),(7,false)],[(2,false),(5,false),(8,false)],[(2,false),(9,false)],[(10,false)],[(11,false)],[(11,false)],[(11,false),(12,false),(13,false)],[(11,false),(14,false)],[(11,false),(15,false)]] [hB b (cExpr e0 p c p1 c1 p2 c2)] [] [(16,false)] (yD [0]) ?_ ?_
        · refine Op<|Oq ?_<|Oq ?_<|Op<|Op<|Oq ?_<|Op<|Op<|Op<|Oq ?_<|Oq ?_<|Oq ?_<|Op<|Op<|Oq ?_<|Op<|Op<|On
          · intro I1 hf le1;refine yR [(8,vI levels)]<|pM 2 [(9,.bool (decide (levels < 1)))] ?_;rw [hc];exact xI iR
          · intro I1 hf le1;exact yR [(9,vF)]<|pM 3 [(10,vF)]<|xI iR
          · intro I1 hf le1;refine yR [(10,vF),(12,vI e0.Kind)] ?_;have H:=iS I1;refine kI (zBA e0.Kind _ hy ) ?_;intro I02 le1;have H:=H.trans le1;exact xI H
          · intro I1 hf le1;refine yR [(10,vF),(13,vI y),(16,vI (e0.Kids.length:Int))]<|pM 10 [(17,.bool (y != (e0.Kids.length:Int)))] ?_;rw [hc1];exact xI iR
          · intro I1 hf le1;exact yR [(10,vF),(17,vF)]<|pM 11 [(18,vF)]<|xI iR
          · intro I1 hf le1;exact yR [(18,vF)]<|pM 12 [(19,vF)]<|xI iR
          intro I1 hf le1;refine yR [(19,vF),(20,vA (cExpr e0 p c p1 c1 p2 c2)),(21,vI depth)] ?_;have H:=iS I1;have h:=h.mono le1;have h1:=h1.mono le1;have h2:=h2.mono le1;refine tQ (zFa e0 depth _ hy1 h h1 h2) ?_;intro I04 le3;have H:=H.trans le3;exact xI H
        intro I05 le4;refine yR [(1,vI depth),(2,vI levels),(3,vP b 0),(24,.bool (!y1))] ?_;have H:=H.trans le4;exact yH rfl<|yS [(1,vI depth),(2,vI levels),(3,vP b 0),(24,.bool (!y1))]<|zW (ct N H)
    rintro I0 hs2 m2 ⟨t24,heq,le5,rfl,rfl⟩;subst o0;have h:=h.mono le5;have h1:=h1.mono le5;have h2:=h2.mono le5;refine zL<|yL hMc ?_ ?_
    · intro hc2 N;refine yF [(6,vF)]<|xP<|zN ?_;obtain rfl:=zC N;exact uM
    intro hc2 N;refine zV<|yG<|yF [(7,vI 0)]<|wD<|wN [(1,vI depth),(2,vI levels),(3,vP b 0),(7,vI 0)] ?_;obtain ⟨o01,ho01,hMl⟩:=zB N;refine ih_spec_l3Shape_l1 e0 depth levels 0 o01 ho01 iR h h1 h2 (fun _ _ _ h=>h) (fun _ _ h=>h) ?_ ?_
    · intro I07  heq1 le7;subst o01;refine zU<|wW [(6,vY)]<|zL<|xG ?_;obtain rfl:=zC hMl;exact uM
    intro r0 I9 hs9 m9 heq9 le9 hrs9;subst heq9;refine yA<|zN ?_;obtain rfl:=zC hMl;exact xF hrs9
  intro F_spec_l3Shape F_spec_l3Shape_l1 ih_spec_l3Shape ih_spec_l3Shape_l1 e0 depth levels i o N B I0 I Q p c p1 c1 p2 c2 b H h h1 h2 hg ho hx hr;refine yW hg ho<|yI<|yK<|yB [0] [(29,.bool (decide (i < (e0.Kids.length:Int))))]<|zL<|yL N ?_ ?_
  · intro hc3 N;refine zV<|yG<|yM<|yK<|yC 3 [0] [(33,vS p2 e0.Kids c2),(34,vI i)]<|bE N fun x hy2 N=>xR rfl rfl h2 hy2 ?_;intro ad ccs hat hrep;obtain ⟨p3,c3,p4,c4,p5,c5,rfl,h5,h6,h7⟩:=uU hrep;refine xN 0 hat (cExpr x p3 c3 p4 c4 p5 c5) (vA (cExpr x p3 c3 p4 c4 p5 c5)) rfl<|yC 8 [] [(37,vI depth),(39,vI (W (levels - 1)))]<|bE N fun y2 hy3 N=>xS (ih_spec_l3Shape x depth (W (levels - 1)) _ hy3 h5 h6 h7) ?_;rintro I06 hs2 v2 k2 le6 - ⟨v05,rfl,rfl,rfl⟩ -;have h:=h.mono le6;have h1:=h1.mono le6;have h2:=h2.mono le6;have H:=H.trans le6;refine yB [] [(41,.bool (!y2))]<|zL<|yL N ?_ ?_
    · intro hc4 N;exact yF [(6,vF)]<|xP<|yA<|zN<|zN<|hr _ _ _ _ (zC N).symm H ⟨_,_,(.tmp rfl ResV.nil),zT,⟨_,rfl,rfl,rfl⟩⟩
    intro hc4 N;exact zV<|zR<|zL<|zP<|yB [] [(7,vI (W (i + 1)))]<|yT<|wN [(1,vI depth),(2,vI levels),(3,vP b 0),(7,vI (W (i + 1)))]<|ih_spec_l3Shape_l1 e0 depth levels (W (i + 1)) _ N H h h1 h2 hg ho hx hr
  intro hc3 N;exact vD<|wC zT<|yS []<|hx _  (zC N).symm H
theorem zEI:∀ e0 depth levels r,uZ e0 depth levels=some r→∀ {I:Imm}{p c p1 c1 p2 c2},(S4 I p e0.Index.Coefs c)→(S4 I p1 e0.Read.Subs c1)→(S4 I p2 e0.Kids c2)→RT 182 [vA (cExpr e0 p c p1 c1 p2 c2),vI depth,vI levels] I [] (zY  r):=zD6.1
mutual
def tV (e0:zG) (levels:Int):Option (Int):=do
 let n01←vM (same e0) (same levels) (same 1) (same 0)
 pure (id n01)
 partial_fixpoint
def vM (e0:zG) (levels:Int) (n0:Int) (i:Int):Option (Int):=do
 let t15←(do
   if (decide (i < (e0.Kids.length:Int))) then
    pure (decide (levels > 0))
   else
    pure false
     : Option Bool)
 if t15 then
  let x←idx e0.Kids i
  let y←tV (same x) (W (levels - 1))
  vM (same e0) (same levels) (W (n0 + y)) (W (i + 1))
 else
  pure (id n0)
 partial_fixpoint
end
theorem zD7:(∀ (e0:zG) (levels:Int) r,tV e0 levels=some r→∀ {I:Imm}{p c p1 c1 p2 c2},(S4 I p e0.Index.Coefs c)→(S4 I p1 e0.Read.Subs c1)→(S4 I p2 e0.Kids c2)→RT 183 [vA (cExpr e0 p c p1 c1 p2 c2),vI levels] I [] (xE  r))∧(∀ (e0:zG) (levels:Int) (n0:Int) (i:Int) o,vM e0 levels n0 i=some o→∀ {B}{I0 I:Imm}{Q p c p1 c1 p2 c2}{b:Nat},I0.le I→(S4 I p e0.Index.Coefs c)→(S4 I p1 e0.Read.Subs c1)→(S4 I p2 e0.Kids c2)→NG Q→NO Q→(∀ (I':Imm) (n01:Int),o=n01→I0.le I'→T 29 B Q (.exit 0) I' [] [(5,vI n01)])→J Tryz.prog 29 B (nav (bodyOf Tryz.f183) [1,1,0,1,0]) Q I [hB b (cExpr e0 p c p1 c1 p2 c2)] [(1,vI levels),(2,vP b 0),(5,vI n0),(6,vI i)]):=by
  refine tV.mutual_partial_correctness _ _ ?_ ?_
  · intro F_spec_l3Count_l1 ih_spec_l3Count_l1 e0 levels r N I p c p1 c1 p2 c2 h h1 h2;refine zX (fn:=Tryz.f183) (c:=(bodyOf Tryz.f183)) Tryz.func183 rfl rfl ?_;rintro B - -;refine yK<|tO (cExpr e0 p c p1 c1 p2 c2) ?_;intro b hb;refine yB [] []<|wW [(5,vI 1)]<|yG<|yF [(6,vI 0)]<|wD<|wN [(1,vI levels),(2,vP b 0),(5,vI 1),(6,vI 0)] ?_;obtain ⟨o01,ho01,hMl⟩:=zB N;refine ih_spec_l3Count_l1 e0 levels 1 0 o01 ho01 iR h h1 h2 (fun _ _ _ h=>h) (fun _ _ h=>h) ?_;intro I02 n01 heq1 le2;subst o01;refine zU<|wW [(4,vI n01)]<|zL<|xG ?_;obtain rfl:=zC hMl;exact uM
  intro F_spec_l3Count F_spec_l3Count_l1 ih_spec_l3Count ih_spec_l3Count_l1 e0 levels n0 i o N B I0 I Q p c p1 c1 p2 c2 b H h h1 h2 hg ho hx;refine yW hg ho<|yI<|yI ?_;obtain ⟨o0,ho0,hMc⟩:=zB N;refine yU (fun I' hs' m'=>∃ (t15:Bool),o0=t15∧I.le I'∧hs'=[hB b (cExpr e0 p c p1 c1 p2 c2)]∧m'=[(1,vI levels),(2,vP b 0),(5,vI n0),(6,vI i),(15,.bool t15)]) ?_ ?_
  · have H:=iS I;refine zP<|yC 6 [0] [(12,.bool (decide (i < (e0.Kids.length:Int))))] ?_;cases hc:(decide (i < (e0.Kids.length:Int))) with
    | true =>
     have hM0:=zS hc ho0
     try rw [hc]
     exact yB [] [(15,.bool (decide (levels > 0)))]<|yS [(1,vI levels),(2,vP b 0),(5,vI n0),(6,vI i),(15,.bool (decide (levels > 0)))]<|zW (ct hM0 H)
    | false =>
     have hM01:=zQ hc ho0
     try rw [hc]
     exact yB [] [(15,vF)]<|yS [(1,vI levels),(2,vP b 0),(5,vI n0),(6,vI i),(15,vF)]<|zW (ct hM01 H)
  rintro I0 hs2 m2 ⟨t15,heq,le,rfl,rfl⟩;subst o0;have h:=h.mono le;have h1:=h1.mono le;have h2:=h2.mono le;have H:=H.trans le;refine zL<|yL hMc ?_ ?_
  · intro hc1 N;refine zV<|yG<|yM<|zP<|yC 4 [0] [(18,vI n0),(20,vS p2 e0.Kids c2),(21,vI i)]<|bE N fun x hy N=>xR rfl rfl h2 hy ?_;intro ad ccs hat hrep;obtain ⟨p3,c3,p4,c4,p5,c5,rfl,h3,h4,h5⟩:=uU hrep;refine xN 0 hat (cExpr x p3 c3 p4 c4 p5 c5) (vA (cExpr x p3 c3 p4 c4 p5 c5)) rfl<|yC 8 [] [(25,vI (W (levels - 1)))]<|bE N fun y hy1 N=>xS (ih_spec_l3Count x (W (levels - 1)) _ hy1 h3 h4 h5) ?_;rintro I01 hs2 v2 k2 le1 - ⟨v03,rfl,rfl,rfl⟩ -;have h:=h.mono le1;have h1:=h1.mono le1;have h2:=h2.mono le1;have H:=H.trans le1;exact yB [] [(5,vI (W (n0 + y)))]<|zR<|zL<|zP<|yB [] [(6,vI (W (i + 1)))]<|yT<|wN [(1,vI levels),(2,vP b 0),(5,vI (W (n0 + y))),(6,vI (W (i + 1)))]<|ih_spec_l3Count_l1 e0 levels (W (n0 + y)) (W (i + 1)) _ N H h h1 h2 hg ho hx
  intro hc1 N;exact vD<|wC zT<|yS [(5,vI n0)]<|hx _ _ (zC N).symm H
theorem zEJ:∀ e0 levels r,tV e0 levels=some r→∀ {I:Imm}{p c p1 c1 p2 c2},(S4 I p e0.Index.Coefs c)→(S4 I p1 e0.Read.Subs c1)→(S4 I p2 e0.Kids c2)→RT 183 [vA (cExpr e0 p c p1 c1 p2 c2),vI levels] I [] (xE  r):=zD7.1
def sH (s:zJ) (depth:Int):Option (Bool):=do
 let t24←(do
   if (decide (depth < 0)) then
    pure true
   else
    if (decide (depth > 4)) then
     pure true
    else
     let y←qL s.Write depth
     if (!y) then
      pure true
     else
      let y1←uZ s.Value depth 5
      pure (!y1)
     : Option Bool)
 if t24 then
  pure false
 else
  let y2←tV s.Value 5
  pure (decide (y2 ≤ 12))
theorem jT:∀ s depth r,sH s depth=some r→∀ {I:Imm}{p c p1 c1 p2 c2 p3 c3},(S4 I p s.Write.Subs c)→(S4 I p1 s.Value.Index.Coefs c1)→(S4 I p2 s.Value.Read.Subs c2)→(S4 I p3 s.Value.Kids c3)→RT 148 [vA (cStmt s p c p1 c1 p2 c2 p3 c3),vI depth] I [] (zY  r):=by
 intro s depth r N I p c p1 c1 p2 c2 p3 c3 h h1 h2 h3;unfold sH at N;refine zX (fn:=Tryz.f148) (c:=(bodyOf Tryz.f148)) Tryz.func148 rfl rfl ?_;rintro B - -;have H:=iS I;refine yK<|tO (cStmt s p c p1 c1 p2 c2 p3 c3) ?_;intro b hb;refine yB [] []<|yG<|yI ?_;obtain ⟨o0,ho0,hMc⟩:=zB N;refine yU (fun I' hs' m'=>∃ (t24:Bool),o0=t24∧I.le I'∧hs'=[hB b (cStmt s p c p1 c1 p2 c2 p3 c3)]∧m'=[(2,vP b 0),(24,.bool t24)]) ?_ ?_
 · have H:=iS I;refine zP<|yC 3 [] [(7,.bool (decide (depth < 0)))] ?_;cases hc:(decide (depth < 0)) with
   | true =>
    have hM0:=zS hc ho0
    try rw [hc]
    exact yB [] [(24,vY)]<|yS [(2,vP b 0),(24,vY)]<|zW (ct hM0 H)
   | false =>
    have hM01:=zQ hc ho0
    try rw [hc]
    refine yC 7 [] [(11,.bool (decide (depth > 4)))] ?_;cases hc1:(decide (depth > 4)) with
    | true =>
     have hM02:=zS hc1 hM01
     try rw [hc1]
     exact yB [] [(24,vY)]<|yS [(2,vP b 0),(24,vY)]<|zW (ct hM02 H)
    | false =>
     have hM03:=zQ hc1 hM01
     try rw [hc1]
     refine yC 10 [0] [(13,vA (cAccess s.Write p c)),(14,vI depth)] ?_;obtain ⟨y,hy,N⟩:=zB hM03;refine tQ (dY s.Write depth _ hy h) ?_;intro I01 le;have h1:=h1.mono le;have h2:=h2.mono le;have h3:=h3.mono le;have H:=H.trans le;refine yC 14 [] [(18,.bool (!y))] ?_;cases hc2:(!y) with
     | true =>
      have hM04:=zS hc2 N
      try rw [hc2]
      exact yB [] [(24,vY)]<|yS [(2,vP b 0),(24,vY)]<|zW (ct hM04 H)
     | false =>
      have hM05:=zQ hc2 N
      try rw [hc2]
      refine yC 17 [0] [(20,vA (cExpr s.Value p1 c1 p2 c2 p3 c3)),(21,vI depth)] ?_;obtain ⟨y1,hy1,N⟩:=zB hM05;refine tQ (zEI s.Value depth 5 _ hy1 h1 h2 h3) ?_;intro I02 le1;have H:=H.trans le1;exact yB [] [(24,.bool (!y1))]<|yS [(2,vP b 0),(24,.bool (!y1))]<|zW (ct N H)
 rintro I0 hs2 m2 ⟨t24,heq,le2,rfl,rfl⟩;subst o0;have h1:=h1.mono le2;have h2:=h2.mono le2;have h3:=h3.mono le2;refine zL<|yL hMc ?_ ?_
 · intro hc3 N;refine yF [(4,vF)]<|xP<|zN ?_;obtain rfl:=zC N;exact uM
 intro hc3 N;refine zV<|xD<|yC 2 [0] [(26,vA (cExpr s.Value p1 c1 p2 c2 p3 c3))]<|bE N fun y2 hy2 N=>kI (zEJ s.Value 5 _ hy2 h1 h2 h3) fun I03 le3=>yB [] [(4,.bool (decide (y2 ≤ 12)))]<|zL<|xG ?_;obtain rfl:=zC N;exact uM
def mE (r:Int×Bool):KT:=fun kk I' hs' v=>
  ∃ v0 v1,hs'=[]∧v=tupV [v0,v1]∧v0=.int .i64 r.1∧v1=.bool r.2
def uE (list:(List zD)) (part:zK) (y1:(List (List Int))) (i:Int) (k0:Int):Option (Out Unit (Int×Bool)):=do
 if (decide (k0 < (y1.length:Int))) then
  let x1←idx part.Body i
  let x2←idx y1 k0
  let (y5,y6,y7)←pR list x1 x2
  let t80←(do
    if (!y7) then
     pure true
    else
     let x3←idx y1 k0
     let y8←oV x3
     pure (!y8)
      : Option Bool)
  if t80 then
   pure (.ret (0,false))
  else
   uE list part y1 i (W (k0 + 1))
 else
  pure (.done ())
 partial_fixpoint
theorem zCj (list:(List zD)) (part:zK) (y1:(List (List Int))) (i:Int):∀ (k0:Int) (o:Out Unit (Int×Bool)),uE list part y1 i k0=some o→∀ {B}{I0 I:Imm}{Q p c p1 c1 p2 c2}{b:Nat}{p3 c3},I0.le I→(S4 I p list c)→(S4 I p3 y1 c3)→(S4 I p1 part.Nest c1)→(S4 I p2 part.Body c2)→NG Q→NO Q→(∀ (I':Imm) ,o=(.done ())→I0.le I'→T 87 B Q (.exit 2) I' [hB b (cPart part p1 c1 p2 c2)] [(0,vS p list c),(3,vP b 0),(6,vS p3 y1 c3),(8,vI i)])→(∀ r I' hs' m',o=(.ret r)→I0.le I'→RS Tryz.prog Tryz.f100 B (mE  r) I' hs' m'→T 87 B Q .ret I' hs' m')→J Tryz.prog 87 B (nav (bodyOf Tryz.f100) [1,1,1,0,1,0,0,1,0,0,1,1,0]) Q I [hB b (cPart part p1 c1 p2 c2)] [(0,vS p list c),(3,vP b 0),(6,vS p3 y1 c3),(8,vI i),(9,vI k0)]:=by
 refine uE.partial_correctness list part y1 i _ fun self ih k0 o N B I0 I Q p c p1 c1 p2 c2 b p3 c3 H h h3 h1 h2 hg ho hx hr=>yW hg ho<|yI<|yF [(53,.bool (decide (k0 < (y1.length:Int))))]<|zL<|yL N ?_ ?_
 · intro hc5 N;refine zV<|yG<|yM<|yI ?_;obtain ⟨x1,hy3,N⟩:=zB N;obtain ⟨x2,hy4,N⟩:=zB N;obtain ⟨⟨y5,y6,y7⟩,hy5,N⟩:=zB N;refine vC [.p (vS p list c) [],.p (vP b 1) [],.p (vS p2 part.Body c2) [0],.p (vI i) [],.x (fun I' v hx=>∃ ad1 p8 c8 p9 c9 p10 c10 p11 c11,v=.pointer (some ad1)∧hx=[]∧(At I' ad1 (cStmt x1 p8 c8 p9 c9 p10 c10 p11 c11))∧(S4 I' p8 x1.Write.Subs c8)∧(S4 I' p9 x1.Value.Index.Coefs c9)∧(S4 I' p10 x1.Value.Read.Subs c10)∧(S4 I' p11 x1.Value.Kids c11)),.x (fun I' v hx=>∃ p81 c81 p91 c91 p101 c101 p111 c111,v=vA (cStmt x1 p81 c81 p91 c91 p101 c101 p111 c111)∧hx=[]∧(S4 I' p81 x1.Write.Subs c81)∧(S4 I' p91 x1.Value.Index.Coefs c91)∧(S4 I' p101 x1.Value.Read.Subs c101)∧(S4 I' p111 x1.Value.Kids c111)),.p (vS p3 y1 c3) [],.p (vI k0) [],.x (fun I' v hx=>∃ ad2 p12 c12,v=.pointer (some ad2)∧hx=[]∧(At I' ad2 [vS p12 x2 c12])∧(S4 I' p12 x2 c12)),.x (fun I' v hx=>∃ p121 c121,v=vS p121 x2 c121∧hx=[]∧(S4 I' p121 x2 c121)),.x (fun I' v hx=>∃ p13 c13,v=.tuple ⟨[vS p13 y5 c13,vI y6,.bool y7]⟩∧hx=[]∧(S4 I' p13 y5 c13)),.x (fun I' v hx=>∃ p131 c131,v=.tuple ⟨[vS p131 y5 c131,vI y6,.bool y7]⟩∧hx=[]∧(S4 I' p131 y5 c131)),.x (fun I' v hx=>∃ p1311 c1311,v=vS p1311 y5 c1311∧hx=[]∧(S4 I' p1311 y5 c1311)),.q (vI y6),.q (.bool y7),.x (fun I' v hx=>∃ p13111 c13111,v=vS p13111 y5 c13111∧hx=[]∧(S4 I' p13111 y5 c13111)),.p (vI y6) []] [[],[],[(1,false)],[],[(2,false),(3,false)],[(4,false)],[],[],[(6,false),(7,false)],[(8,false)],[(0,false),(5,false),(9,false)],[(10,false)],[(11,false)],[(11,false)],[(11,false)],[(12,false)],[(13,false)]] [hB b (cPart part p1 c1 p2 c2)] [] [(14,false)] (yD [0]) ?_ ?_
   · refine Op<|Op<|Op<|Op<|Ox ?_<|Ox ?_<|Op<|Op<|Ox ?_<|Ox ?_<|Ox ?_<|Ox ?_<|Ox ?_<|Oq ?_<|Oq ?_<|Ox ?_<|Op<|On
     · intro I1 hf le1;refine yR [(59,vS p2 part.Body c2),(60,vI i)] ?_;have h2:=h2.mono le1;refine xR rfl rfl h2 hy3 ?_;intro ad1 ccs1 hat1 hrep1;obtain ⟨p8,c8,p9,c9,p10,c10,p11,c11,rfl,h10,h11,h12,h13⟩:=rC hrep1;exact yP [] iR ⟨_,_,_,_,_,_,_,_,_,rfl,rfl,hat1,h10,h11,h12,h13⟩
     · intro I1 hf le1;refine zF ?_;rintro _ _ ⟨ad1,p8,c8,p9,c9,p10,c10,p11,c11,rfl,rfl,hat1,h10,h11,h12,h13⟩;exact yR [(61,.pointer (some ad1))]<|xN 0 hat1 (cStmt x1 p8 c8 p9 c9 p10 c10 p11 c11) (vA (cStmt x1 p8 c8 p9 c9 p10 c10 p11 c11)) rfl<|yP [] iR ⟨_,_,_,_,_,_,_,_,rfl,rfl,h10,h11,h12,h13⟩
     · intro I1 hf le1;refine yR [(63,vS p3 y1 c3),(64,vI k0)] ?_;have h3:=h3.mono le1;refine xR rfl rfl h3 hy4 ?_;intro ad2 ccs2 hat2 hrep2;obtain ⟨v011,rfl,h14⟩:=hrep2;obtain ⟨p12,c12,rfl⟩:=h14.form;exact yP [] iR ⟨_,_,_,rfl,rfl,hat2,h14⟩
     · intro I1 hf le1;refine zF ?_;rintro _ _ ⟨ad2,p12,c12,rfl,rfl,hat2,h14⟩;exact yR [(65,.pointer (some ad2))]<|xN 0 hat2 [vS p12 x2 c12] (vS p12 x2 c12) rfl<|yP [] iR ⟨_,_,rfl,rfl,h14⟩
     · intro I1 hf le1;refine zF ?_;rintro _ _ ⟨rfl,rfl⟩;refine zF ?_;rintro _ _ ⟨p81,c81,p91,c91,p101,c101,p111,c111,rfl,rfl,h101,h111,h121,h131⟩;refine zF ?_;rintro _ _ ⟨p121,c121,rfl,rfl,h141⟩;refine yR [(57,vS p list c),(62,vA (cStmt x1 p81 c81 p91 c91 p101 c101 p111 c111)),(66,vS p121 x2 c121)] ?_;have H:=iS I1;have h:=h.mono le1;refine xS (zA8 list x1 x2 _ hy5 h h101 h111 h121 h131 h141) ?_;rintro I04 hs2 v2 k2 le4 - ⟨v012,v013,v014,rfl,rfl,h15,rfl,rfl⟩ -;have H:=H.trans le4;obtain ⟨p13,c13,rfl⟩:=h15.form;exact yP [] H ⟨_,_,rfl,rfl,h15⟩
     · intro I1 hf le1;refine zF ?_;rintro _ _ ⟨p13,c13,rfl,rfl,h15⟩;exact yR [(67,.tuple ⟨[vS p13 y5 c13,vI y6,.bool y7]⟩)]<|pM 12 [(56,.tuple ⟨[vS p13 y5 c13,vI y6,.bool y7]⟩)]<|yP [] iR ⟨_,_,rfl,rfl,h15⟩
     · intro I1 hf le1;refine zF ?_;rintro _ _ ⟨p131,c131,rfl,rfl,h151⟩;exact yR [(56,.tuple ⟨[vS p131 y5 c131,vI y6,.bool y7]⟩)]<|pM 13 [(68,vS p131 y5 c131)]<|yP [] iR ⟨_,_,rfl,rfl,h151⟩
     · intro I1 hf le1;refine zF ?_;rintro _ _ ⟨p131,c131,rfl,rfl,h151⟩;exact yR [(56,.tuple ⟨[vS p131 y5 c131,vI y6,.bool y7]⟩)]<|pM 14 [(69,vI y6)]<|xI iR
     · intro I1 hf le1;refine zF ?_;rintro _ _ ⟨p131,c131,rfl,rfl,h151⟩;exact yR [(56,.tuple ⟨[vS p131 y5 c131,vI y6,.bool y7]⟩)]<|pM 15 [(70,.bool y7)]<|xI iR
     intro I1 hf le1;refine zF ?_;rintro _ _ ⟨p1311,c1311,rfl,rfl,h1511⟩;exact yR [(68,vS p1311 y5 c1311)]<|pM 16 [(10,vS p1311 y5 c1311)]<|yP [] iR ⟨_,_,rfl,rfl,h1511⟩
   intro I05 le5;refine yR [(0,vS p list c),(3,vP b 0),(6,vS p3 y1 c3),(8,vI i),(9,vI k0),(70,.bool y7)] ?_;have h:=h.mono le5;have h3:=h3.mono le5;have h1:=h1.mono le5;have h2:=h2.mono le5;have H:=H.trans le5;refine yB [] [(12,.bool y7)]<|zL<|yI ?_;obtain ⟨o01,ho01,hMc1⟩:=zB N;refine yU (fun I' hs' m'=>∃ (t80:Bool),o01=t80∧I05.le I'∧hs'=[hB b (cPart part p1 c1 p2 c2)]∧m'=[(0,vS p list c),(3,vP b 0),(6,vS p3 y1 c3),(8,vI i),(9,vI k0),(80,.bool t80)]) ?_ ?_
   · have H:=iS I05;refine zP<|yC 3 [] [(73,.bool (!y7))] ?_;cases hc6:(!y7) with
     | true =>
      have hM04:=zS hc6 ho01
      try rw [hc6]
      exact yB [] [(80,vY)]<|yS [(0,vS p list c),(3,vP b 0),(6,vS p3 y1 c3),(8,vI i),(9,vI k0),(80,vY)]<|zW (ct hM04 H)
     | false =>
      have hM05:=zQ hc6 ho01
      try rw [hc6]
      refine yC 5 [] [(74,vS p3 y1 c3),(75,vI k0)] ?_;obtain ⟨x3,hy6,N⟩:=zB hM05;refine xR rfl rfl h3 hy6 ?_;intro ad3 ccs3 hat3 hrep3;obtain ⟨v015,rfl,h18⟩:=hrep3;obtain ⟨p14,c14,rfl⟩:=h18.form;refine xN 0 hat3 [vS p14 x3 c14] (vS p14 x3 c14) rfl<|bE N fun y8 hy7 N=>tQ (zEG x3 _ hy7 h18) ?_;intro I07 le6;have H:=H.trans le6;exact yB [] [(80,.bool (!y8))]<|yS [(0,vS p list c),(3,vP b 0),(6,vS p3 y1 c3),(8,vI i),(9,vI k0),(80,.bool (!y8))]<|zW (ct N H)
   rintro I06 hs2 m2 ⟨t80,heq1,le7,rfl,rfl⟩;subst o01;have h:=h.mono le7;have h3:=h3.mono le7;have h1:=h1.mono le7;have h2:=h2.mono le7;have H:=H.trans le7;refine zL<|yL hMc1 ?_ ?_
   · intro hc7 N;exact yF [(4,vI 0),(5,vF)]<|xP<|yA<|zN<|zN<|hr _ _ _ _ (zC N).symm H ⟨_,_,(.tmp rfl (.tmp rfl ResV.nil)),zT,⟨_,_,rfl,rfl,rfl,rfl⟩⟩
   intro hc7 N;exact zV<|zR<|zL<|zP<|yB [] [(9,vI (W (k0 + 1)))]<|yT<|wN [(0,vS p list c),(3,vP b 0),(6,vS p3 y1 c3),(8,vI i),(9,vI (W (k0 + 1)))]<|ih (W (k0 + 1)) _ N H h h3 h1 h2 hg ho hx hr
 intro hc5 N;exact vD<|yS [(0,vS p list c),(3,vP b 0),(6,vS p3 y1 c3),(8,vI i)]<|hx _  (zC N).symm H
def uF (list:(List zD)) (part:zK) (y1:(List (List Int))) (i:Int):Option (Out Unit (Int×Bool)):=do
 if (decide (i < (part.Body.length:Int))) then
  let x←idx part.Body i
  let y3←sH x (part.Nest.length:Int)
  if (!y3) then
   pure (.ret (0,false))
  else
   match←uE list part y1 i 0 with
   | .ret r0=>pure (.ret r0)
   | .done _ =>
    uF list part y1 (W (i + 1))
 else
  pure (.done ())
 partial_fixpoint
theorem zCk (list:(List zD)) (part:zK) (y1:(List (List Int))):∀ (i:Int) (o:Out Unit (Int×Bool)),uF list part y1 i=some o→∀ {B}{I0 I:Imm}{Q p c p1 c1 p2 c2}{b:Nat}{p3 c3},I0.le I→(S4 I p list c)→(S4 I p3 y1 c3)→(S4 I p1 part.Nest c1)→(S4 I p2 part.Body c2)→NG Q→NO Q→(∀ (I':Imm) ,o=(.done ())→I0.le I'→T 87 B Q (.exit 0) I' [hB b (cPart part p1 c1 p2 c2)] [(3,vP b 0),(6,vS p3 y1 c3)])→(∀ r I' hs' m',o=(.ret r)→I0.le I'→RS Tryz.prog Tryz.f100 B (mE  r) I' hs' m'→T 87 B Q .ret I' hs' m')→J Tryz.prog 87 B (nav (bodyOf Tryz.f100) [1,1,1,0,1,0]) Q I [hB b (cPart part p1 c1 p2 c2)] [(0,vS p list c),(3,vP b 0),(6,vS p3 y1 c3),(8,vI i)]:=by
 refine uF.partial_correctness list part y1 _ fun self ih i o N B I0 I Q p c p1 c1 p2 c2 b p3 c3 H h h3 h1 h2 hg ho hx hr=>yW hg ho<|yI<|yK<|yB [0] [(37,.bool (decide (i < (part.Body.length:Int))))]<|zL<|yL N ?_ ?_
 · intro hc3 N;refine zV<|yG<|yM<|yI<|yI ?_;obtain ⟨x,hy1,N⟩:=zB N;obtain ⟨y3,hy2,N⟩:=zB N;refine vC [.p (vP b 1) [],.p (vS p2 part.Body c2) [0],.p (vI i) [],.x (fun I' v hx=>∃ ad p4 c4 p5 c5 p6 c6 p7 c7,v=.pointer (some ad)∧hx=[]∧(At I' ad (cStmt x p4 c4 p5 c5 p6 c6 p7 c7))∧(S4 I' p4 x.Write.Subs c4)∧(S4 I' p5 x.Value.Index.Coefs c5)∧(S4 I' p6 x.Value.Read.Subs c6)∧(S4 I' p7 x.Value.Kids c7)),.x (fun I' v hx=>∃ p41 c41 p51 c51 p61 c61 p71 c71,v=vA (cStmt x p41 c41 p51 c51 p61 c61 p71 c71)∧hx=[]∧(S4 I' p41 x.Write.Subs c41)∧(S4 I' p51 x.Value.Index.Coefs c51)∧(S4 I' p61 x.Value.Read.Subs c61)∧(S4 I' p71 x.Value.Kids c71)),.p (vP b 0) [],.p (vS p1 part.Nest c1) [0],.p (vI (part.Nest.length:Int)) [],.q (.bool y3),.p (.bool (!y3)) []] [[],[(0,false)],[],[(1,false),(2,false)],[(3,false)],[],[(5,false)],[(6,false)],[(4,false),(7,false)],[(8,false)]] [hB b (cPart part p1 c1 p2 c2)] [] [(9,false)] (yD [0]) ?_ ?_
   · refine Op<|Op<|Op<|Ox ?_<|Ox ?_<|Op<|Op<|Op<|Oq ?_<|Op<|On
     · intro I1 hf le1;refine yR [(41,vS p2 part.Body c2),(42,vI i)] ?_;have h2:=h2.mono le1;refine xR rfl rfl h2 hy1 ?_;intro ad ccs hat hrep;obtain ⟨p4,c4,p5,c5,p6,c6,p7,c7,rfl,h5,h6,h7,h8⟩:=rC hrep;exact yP [] iR ⟨_,_,_,_,_,_,_,_,_,rfl,rfl,hat,h5,h6,h7,h8⟩
     · intro I1 hf le1;refine zF ?_;rintro _ _ ⟨ad,p4,c4,p5,c5,p6,c6,p7,c7,rfl,rfl,hat,h5,h6,h7,h8⟩;exact yR [(43,.pointer (some ad))]<|xN 0 hat (cStmt x p4 c4 p5 c5 p6 c6 p7 c7) (vA (cStmt x p4 c4 p5 c5 p6 c6 p7 c7)) rfl<|yP [] iR ⟨_,_,_,_,_,_,_,_,rfl,rfl,h5,h6,h7,h8⟩
     intro I1 hf le1;refine zF ?_;rintro _ _ ⟨p41,c41,p51,c51,p61,c61,p71,c71,rfl,rfl,h51,h61,h71,h81⟩;refine yR [(44,vA (cStmt x p41 c41 p51 c51 p61 c61 p71 c71)),(47,vI (part.Nest.length:Int))] ?_;have H:=iS I1;refine tQ (jT x (part.Nest.length:Int) _ hy2 h51 h61 h71 h81) ?_;intro I02 le2;have H:=H.trans le2;exact xI H
   intro I03 le3;refine yR [(0,vS p list c),(3,vP b 0),(6,vS p3 y1 c3),(8,vI i),(49,.bool (!y3))] ?_;have h:=h.mono le3;have h3:=h3.mono le3;have h1:=h1.mono le3;have h2:=h2.mono le3;have H:=H.trans le3;refine yH rfl<|zL<|yL N ?_ ?_
   · intro hc4 N;exact yF [(4,vI 0),(5,vF)]<|xP<|zN<|yA<|zN<|zN<|hr _ _ _ _ (zC N).symm H ⟨_,_,(.tmp rfl (.tmp rfl ResV.nil)),zT,⟨_,_,rfl,rfl,rfl,rfl⟩⟩
   intro hc4 N;refine zV<|wW [(9,vI 0)]<|wD<|wN [(0,vS p list c),(3,vP b 0),(6,vS p3 y1 c3),(8,vI i),(9,vI 0)] ?_;obtain ⟨o02,ho02,hMl⟩:=zB N;refine zCj list part y1 i 0 o02 ho02 iR h h3 h1 h2 (fun _ _ _ h=>hg _ _ _ h) (fun _ _ h=>ho _ _ h) ?_ ?_
   · intro I08  heq2 le8;subst o02;have h:=h.mono le8;have h3:=h3.mono le8;have h1:=h1.mono le8;have h2:=h2.mono le8;have H:=H.trans le8;exact zU<|zR<|zL<|zP<|yB [] [(8,vI (W (i + 1)))]<|yT<|wN [(0,vS p list c),(3,vP b 0),(6,vS p3 y1 c3),(8,vI (W (i + 1)))]<|ih (W (i + 1)) _ hMl H h h3 h1 h2 hg ho hx hr
   intro r0 I9 hs9 m9 heq9 le9 hrs9;subst heq9;exact yA<|yA<|zN<|zN<|hr _ _ _ _ (zC hMl).symm (H.trans le9) hrs9
 intro hc3 N;exact vD<|yS [(3,vP b 0),(6,vS p3 y1 c3)]<|hx _  (zC N).symm H
def pK (list:(List zD)) (part:zK):Option (Int×Bool):=do
 let (y1,y2)←rW part.Nest
 let t32←(do
   if (!y2) then
    pure true
   else
    if (decide ((part.Body.length:Int) < 1)) then
     pure true
    else
     pure (decide ((part.Body.length:Int) > 4))
     : Option Bool)
 if t32 then
  pure (0,false)
 else
  match←uF list part y1 0 with
  | .ret r0=>pure r0
  | .done _ =>
   pure ((W ((y1.length:Int) * (part.Body.length:Int))),true)
theorem fV:∀ list part r,pK list part=some r→∀ {I:Imm}{p c p1 c1 p2 c2},(S4 I p list c)→(S4 I p1 part.Nest c1)→(S4 I p2 part.Body c2)→RT 100 [vS p list c,vA (cPart part p1 c1 p2 c2)] I [] (mE  r):=by
 intro list part r N I p c p1 c1 p2 c2 h h1 h2;unfold pK at N;refine zX (fn:=Tryz.f100) (c:=(bodyOf Tryz.f100)) Tryz.func100 rfl rfl ?_;rintro B - -;have H:=iS I;refine yK<|tO (cPart part p1 c1 p2 c2) ?_;intro b hb;refine yB [] []<|xD<|yC 2 [0] [(15,vS p1 part.Nest c1)] ?_;obtain ⟨⟨y1,y2⟩,hy,N⟩:=zB N;refine xS (zCG part.Nest _ hy h1) ?_;rintro I0 hs2 v2 k2 le - ⟨v0,v01,rfl,rfl,h3,rfl⟩ -;have h:=h.mono le;have h1:=h1.mono le;have h2:=h2.mono le;have H:=H.trans le;obtain ⟨p3,c3,rfl⟩:=h3.form;refine yB [] [(6,vS p3 y1 c3),(7,.bool y2)]<|yG<|yI ?_;obtain ⟨o0,ho0,hMc⟩:=zB N;refine yU (fun I' hs' m'=>∃ (t32:Bool),o0=t32∧I0.le I'∧hs'=[hB b (cPart part p1 c1 p2 c2)]∧m'=[(0,vS p list c),(3,vP b 0),(6,vS p3 y1 c3),(32,.bool t32)]) ?_ ?_
 · have H:=iS I0;refine zP<|yC 3 [] [(21,.bool (!y2))] ?_;cases hc:(!y2) with
   | true =>
    have hM0:=zS hc ho0
    try rw [hc]
    exact yB [] [(32,vY)]<|yS [(0,vS p list c),(3,vP b 0),(6,vS p3 y1 c3),(32,vY)]<|zW (ct hM0 H)
   | false =>
    have hM01:=zQ hc ho0
    try rw [hc]
    refine yC 9 [0] [(27,.bool (decide ((part.Body.length:Int) < 1)))] ?_;cases hc1:(decide ((part.Body.length:Int) < 1)) with
    | true =>
     have hM02:=zS hc1 hM01
     try rw [hc1]
     exact yB [] [(32,vY)]<|yS [(0,vS p list c),(3,vP b 0),(6,vS p3 y1 c3),(32,vY)]<|zW (ct hM02 H)
    | false =>
     have hM03:=zQ hc1 hM01
     try rw [hc1]
     exact yB [0] [(32,.bool (decide ((part.Body.length:Int) > 4)))]<|yS [(0,vS p list c),(3,vP b 0),(6,vS p3 y1 c3),(32,.bool (decide ((part.Body.length:Int) > 4)))]<|zW (ct hM03 H)
 rintro I01 hs2 m2 ⟨t32,heq,le1,rfl,rfl⟩;subst o0;have h:=h.mono le1;have h3:=h3.mono le1;have h1:=h1.mono le1;have h2:=h2.mono le1;refine zL<|yL hMc ?_ ?_
 · intro hc2 N;refine yF [(4,vI 0),(5,vF)]<|xP<|zN ?_;obtain rfl:=zC N;exact xF ⟨_,_,(.tmp rfl (.tmp rfl ResV.nil)),zT,⟨_,_,rfl,rfl,rfl,rfl⟩⟩
 intro hc2 N;refine zV<|yG<|yF [(8,vI 0)]<|wD<|wN [(0,vS p list c),(3,vP b 0),(6,vS p3 y1 c3),(8,vI 0)] ?_;obtain ⟨o03,ho03,hMl1⟩:=zB N;refine zCk list part y1 0 o03 ho03 iR h h3 h1 h2 (fun _ _ _ h=>h) (fun _ _ h=>h) ?_ ?_
 · intro I09  heq3 le9;subst o03;refine zU<|xD<|yB [0] [(4,vI (W ((y1.length:Int) * (part.Body.length:Int)))),(5,vY)]<|zL<|xG ?_;obtain rfl:=zC hMl1;exact xF ⟨_,_,(.tmp rfl (.tmp rfl ResV.nil)),zT,⟨_,_,rfl,rfl,rfl,rfl⟩⟩
 intro r0 I9 hs9 m9 heq9 le9 hrs9;subst heq9;refine yA<|zN ?_;obtain rfl:=zC hMl1;exact xF hrs9
def xZ (p:zH) (total:Int) (i:Int):Option (Out Int (Bool)):=do
 if (decide (i < (p.Parts.length:Int))) then
  let x←idx p.Parts i
  let (y2,y3)←pK p.Arrays x
  if (!y3) then
   pure (.ret false)
  else
   xZ p (W (total + y2)) (W (i + 1))
 else
  pure (.done total)
 partial_fixpoint
theorem dZ (p:zH):∀ (total:Int) (i:Int) (o:Out Int (Bool)),xZ p total i=some o→∀ {B}{I0 I:Imm}{Q p1 c p2 c1}{b:Nat},I0.le I→(S4 I p1 p.Arrays c)→(S4 I p2 p.Parts c1)→NG Q→NO Q→(∀ (I':Imm) (total1:Int),o=(.done total1)→I0.le I'→T 42 B Q (.exit 0) I' [] [(3,vI total1)])→(∀ r I' hs' m',o=(.ret r)→I0.le I'→RS Tryz.prog Tryz.f49 B (zY  r) I' hs' m'→T 42 B Q .ret I' hs' m')→J Tryz.prog 42 B (nav (bodyOf Tryz.f49) [1,1,1,0,1,0]) Q I [hB b (cProg p p1 c p2 c1)] [(1,vP b 0),(3,vI total),(4,vI i)]:=by
 refine xZ.partial_correctness p _ fun self ih total i o N B I0 I Q p1 c p2 c1 b H h h1 hg ho hx hr=>yW hg ho<|yI<|yK<|yB [0] [(21,.bool (decide (i < (p.Parts.length:Int))))]<|zL<|yL N ?_ ?_
 · intro hc2 N;refine zV<|yG<|yM<|yI ?_;obtain ⟨x,hy1,N⟩:=zB N;obtain ⟨⟨y2,y3⟩,hy2,N⟩:=zB N;refine vC [.p (vP b 0) [],.p (vS p1 p.Arrays c) [0],.p (vP b 1) [],.p (vS p2 p.Parts c1) [0],.p (vI i) [],.x (fun I' v hx=>∃ ad p3 c2 p4 c3,v=.pointer (some ad)∧hx=[]∧(At I' ad (cPart x p3 c2 p4 c3))∧(S4 I' p3 x.Nest c2)∧(S4 I' p4 x.Body c3)),.x (fun I' v hx=>∃ p31 c21 p41 c31,v=vA (cPart x p31 c21 p41 c31)∧hx=[]∧(S4 I' p31 x.Nest c21)∧(S4 I' p41 x.Body c31)),.q (.tuple ⟨[vI y2,.bool y3]⟩),.p (.tuple ⟨[vI y2,.bool y3]⟩) [],.p (vI y2) [],.p (.bool y3) [],.p (vI y2) []] [[],[(0,false)],[],[(2,false)],[],[(3,false),(4,false)],[(5,false)],[(1,false),(6,false)],[(7,false)],[(8,false)],[(8,false)],[(9,false)]] [hB b (cProg p p1 c p2 c1)] [] [(10,false),(11,false)] (yD [0]) ?_ ?_
   · refine Op<|Op<|Op<|Op<|Op<|Ox ?_<|Ox ?_<|Oq ?_<|Op<|Op<|Op<|Op<|On
     · intro I1 hf le1;refine yR [(28,vS p2 p.Parts c1),(29,vI i)] ?_;have h1:=h1.mono le1;refine xR rfl rfl h1 hy1 ?_;intro ad ccs hat hrep;obtain ⟨p3,c2,p4,c3,rfl,h3,h4⟩:=wZ hrep;exact yP [] iR ⟨_,_,_,_,_,rfl,rfl,hat,h3,h4⟩
     · intro I1 hf le1;refine zF ?_;rintro _ _ ⟨ad,p3,c2,p4,c3,rfl,rfl,hat,h3,h4⟩;exact yR [(30,.pointer (some ad))]<|xN 0 hat (cPart x p3 c2 p4 c3) (vA (cPart x p3 c2 p4 c3)) rfl<|yP [] iR ⟨_,_,_,_,rfl,rfl,h3,h4⟩
     intro I1 hf le1;refine zF ?_;rintro _ _ ⟨rfl,rfl⟩;refine zF ?_;rintro _ _ ⟨p31,c21,p41,c31,rfl,rfl,h31,h41⟩;refine yR [(26,vS p1 p.Arrays c),(31,vA (cPart x p31 c21 p41 c31))] ?_;have H:=iS I1;have h:=h.mono le1;refine xS (fV p.Arrays x _ hy2 h h31 h41) ?_;rintro I02 hs2 v2 k2 le2 - ⟨v03,v04,rfl,rfl,rfl,rfl⟩ -;have H:=H.trans le2;exact xI H
   intro I03 le3;refine yR [(1,vP b 0),(3,vI total),(4,vI i),(5,vI y2),(34,.bool y3)] ?_;have h:=h.mono le3;have h1:=h1.mono le3;have H:=H.trans le3;refine yB [] [(6,.bool y3)]<|yG<|yF [(36,.bool (!y3))]<|zL<|yL N ?_ ?_
   · intro hc3 N;exact yF [(2,vF)]<|xP<|zN<|yA<|zN<|zN<|hr _ _ _ _ (zC N).symm H ⟨_,_,(.tmp rfl ResV.nil),zT,⟨_,rfl,rfl,rfl⟩⟩
   intro hc3 N;exact zV<|zL<|zP<|yB [] [(3,vI (W (total + y2)))]<|zR<|zL<|zP<|yB [] [(4,vI (W (i + 1)))]<|yT<|wN [(1,vP b 0),(3,vI (W (total + y2))),(4,vI (W (i + 1)))]<|ih (W (total + y2)) (W (i + 1)) _ N H h h1 hg ho hx hr
 intro hc2 N;exact vD<|wC zT<|yS [(3,vI total)]<|hx _ _ (zC N).symm H
def tH (p:zH):Option (Bool):=do
 let t16←(do
   let y←pZ p.Arrays
   if (!y) then
    pure true
   else
    pure (decide ((p.Parts.length:Int) > 4))
     : Option Bool)
 if t16 then
  pure false
 else
  match←xZ p 0 0 with
  | .ret r0=>pure r0
  | .done total1 =>
   pure (decide (total1 ≤ 120))
theorem gV:∀ p r,tH p=some r→∀ {I:Imm}{p1 c p2 c1},(S4 I p1 p.Arrays c)→(S4 I p2 p.Parts c1)→RT 49 [vA (cProg p p1 c p2 c1)] I [] (zY  r):=by
 intro p r N I p1 c p2 c1 h h1;unfold tH at N;refine zX (fn:=Tryz.f49) (c:=(bodyOf Tryz.f49)) Tryz.func49 rfl rfl ?_;rintro B - -;have H:=iS I;refine yK<|tO (cProg p p1 c p2 c1) ?_;intro b hb;refine yB [] []<|yG<|yI ?_;obtain ⟨o0,ho0,hMc⟩:=zB N;refine yU (fun I' hs' m'=>∃ (t16:Bool),o0=t16∧I.le I'∧hs'=[hB b (cProg p p1 c p2 c1)]∧m'=[(1,vP b 0),(16,.bool t16)]) ?_ ?_
 · have H:=iS I;refine zP<|yC 2 [0] [(8,vS p1 p.Arrays c)] ?_;obtain ⟨y,hy,N⟩:=zB ho0;refine tQ (zD4 p.Arrays _ hy h) ?_;intro I01 le;have H:=H.trans le;refine yC 5 [] [(11,.bool (!y))] ?_;cases hc:(!y) with
   | true =>
    have hM0:=zS hc N
    try rw [hc]
    exact yB [] [(16,vY)]<|yS [(1,vP b 0),(16,vY)]<|zW (ct hM0 H)
   | false =>
    have hM01:=zQ hc N
    try rw [hc]
    exact yB [0] [(16,.bool (decide ((p.Parts.length:Int) > 4)))]<|yS [(1,vP b 0),(16,.bool (decide ((p.Parts.length:Int) > 4)))]<|zW (ct hM01 H)
 rintro I0 hs2 m2 ⟨t16,heq,le1,rfl,rfl⟩;subst o0;have h:=h.mono le1;have h1:=h1.mono le1;refine zL<|yL hMc ?_ ?_
 · intro hc1 N;refine yF [(2,vF)]<|xP<|zN ?_;obtain rfl:=zC N;exact uM
 intro hc1 N;refine zV<|wW [(3,vI 0)]<|yG<|yF [(4,vI 0)]<|wD<|wN [(1,vP b 0),(3,vI 0),(4,vI 0)] ?_;obtain ⟨o01,ho01,hMl⟩:=zB N;refine dZ p 0 0 o01 ho01 iR h h1 (fun _ _ _ h=>h) (fun _ _ h=>h) ?_ ?_
 · intro I04 total1 heq1 le4;subst o01;refine zU<|wW [(2,.bool (decide (total1 ≤ 120)))]<|zL<|xG ?_;obtain rfl:=zC hMl;exact uM
 intro r0 I9 hs9 m9 heq9 le9 hrs9;subst heq9;refine yA<|zN ?_;obtain rfl:=zC hMl;exact xF hrs9
def zD8 (r:(List zD)):KT:=fun kk I' hs' v=>
  ∃ v0,hs'=[]∧v=tupV [v0]∧SL I' v0 r
def nO :Option ((List zD)):=do
 pure ([(zD.mk (⟨[65]⟩:Str) ([6]:List Int)),(zD.mk (⟨[66]⟩:Str) ([4,5]:List Int)),(zD.mk (⟨[67]⟩:Str) ([3]:List Int))]:List zD)
theorem jU:∀ r,nO =some r→∀ {I:Imm} ,RT 85 [] I [] (zD8  r):=by
 intro  r N I;unfold nO at N;refine zX (fn:=Tryz.f85) (c:=(bodyOf Tryz.f85)) Tryz.func85 rfl rfl ?_;rintro B - -;refine yF []<|xD<|xU [vI 6] Int ?_;intro b hb;have h:RL I [vI 6] ([6]:List Int):=⟨[vI 6],_,rfl,rfl,rfl,rfl⟩;refine yC 2 [] [(2,vA [vT ([65]),vS (some ⟨b,0,none⟩) ([6]:List Int) 1])]<|xU [vI 4,vI 5] Int ?_;intro b1 hb1;have h1:RL I [vI 4,vI 5] ([4,5]:List Int):=⟨[vI 4],_,rfl,rfl,rfl,⟨[vI 5],_,rfl,rfl,rfl,rfl⟩⟩;refine yC 4 [] [(4,vA [vT ([66]),vS (some ⟨b1,0,none⟩) ([4,5]:List Int) 2])]<|xU [vI 3] Int ?_;intro b2 hb2;have h2:RL I [vI 3] ([3]:List Int):=⟨[vI 3],_,rfl,rfl,rfl,rfl⟩;refine yC 6 [] [(6,vA [vT ([67]),vS (some ⟨b2,0,none⟩) ([3]:List Int) 1])]<|yJ 2 rfl ?_;intro I0 le hl0;have h3:=SL.of_frozen hl0 le h;have h1:=iM le h1;have h2:=iM le h2;refine yJ 1 rfl ?_;intro I01 le1 hl01;have h4:=SL.of_frozen hl01 le1 h1;have h3:=h3.mono le1;have h2:=iM le1 h2;refine yJ 0 rfl ?_;intro I02 le2 hl02;have h5:=SL.of_frozen hl02 le2 h2;have h3:=h3.mono le2;have h4:=h4.mono le2;refine xU [vT ([65]),vS (some ⟨b,0,none⟩) ([6]:List Int) 1,vT ([66]),vS (some ⟨b1,0,none⟩) ([4,5]:List Int) 2,vT ([67]),vS (some ⟨b2,0,none⟩) ([3]:List Int) 1] zD ?_;intro b3 hb3;have h6:RL I02 [vT ([65]),vS (some ⟨b,0,none⟩) ([6]:List Int) 1,vT ([66]),vS (some ⟨b1,0,none⟩) ([4,5]:List Int) 2,vT ([67]),vS (some ⟨b2,0,none⟩) ([3]:List Int) 1] ([(zD.mk (⟨[65]⟩:Str) ([6]:List Int)),(zD.mk (⟨[66]⟩:Str) ([4,5]:List Int)),(zD.mk (⟨[67]⟩:Str) ([3]:List Int))]:List zD):=⟨[vT ([65]),vS (some ⟨b,0,none⟩) ([6]:List Int) 1],_,rfl,rfl,(qJ ⟨_,rfl,h3⟩),⟨[vT ([66]),vS (some ⟨b1,0,none⟩) ([4,5]:List Int) 2],_,rfl,rfl,(qJ ⟨_,rfl,h4⟩),⟨[vT ([67]),vS (some ⟨b2,0,none⟩) ([3]:List Int) 1],_,rfl,rfl,(qJ ⟨_,rfl,h5⟩),rfl⟩⟩⟩;refine yB [] [(0,vS (some ⟨b3,0,none⟩) ([(zD.mk (⟨[65]⟩:Str) ([6]:List Int)),(zD.mk (⟨[66]⟩:Str) ([4,5]:List Int)),(zD.mk (⟨[67]⟩:Str) ([3]:List Int))]:List zD) 3)]<|xP<|xA 0 rfl ?_;intro I03 le3 hl03;have h7:=SL.of_frozen hl03 le3 h6;obtain rfl:=zC N;exact xF ⟨_,_,(.tmp rfl ResV.nil),zT,⟨_,rfl,rfl,h7⟩⟩
def sM (a0:zA) (x:Int) (b:zA) (y:Int) (i:Int) (Coefs:List Int):Option (List Int):=do
 if (decide (i < 4)) then
  let x1←idx a0.Coefs i
  let x2←idx b.Coefs i
  let l←app 8 Coefs ([(W ((W (x * x1)) + (W (y * x2))))]:List Int)
  sM a0 x b y (W (i + 1)) l
 else
  pure (id Coefs)
 partial_fixpoint
theorem zBB (a0:zA) (x:Int) (b:zA) (y:Int):∀ (i:Int) (Coefs:List Int) (o:List Int),sM a0 x b y i Coefs=some o→∀ {B}{I0 I:Imm}{Q p c p1 c1}{b1:Nat}{b2:Nat}{b3:Nat}{b4:Nat}{p2 c2 cs},I0.le I→(S4 I p1 b.Coefs c1)→(S4 I p a0.Coefs c)→(RL I cs Coefs)→NG Q→NO Q→(∀ (I':Imm) (Coefs1:List Int) (p3:Option Addr) (c3:Nat) (cs1:List Value),o=Coefs1→I0.le I'→(RL I' cs1 Coefs1)→T 46 B Q (.exit 0) I' [hO Int (vS p3 Coefs1 c3) cs1,hB b4 [vS p3 Coefs1 c3,vI (W ((W (x * a0.Const)) + (W (y * b.Const))))],hB b3 [z0,vI 0]] [(8,vP b3 0),(9,vP b4 0)])→J Tryz.prog 46 B (nav (bodyOf Tryz.f196) [1,1,0,1,0]) Q I [hO Int (vS p2 Coefs c2) cs,hB b4 [vS p2 Coefs c2,vI (W ((W (x * a0.Const)) + (W (y * b.Const))))],hB b3 [z0,vI 0],hB b2 (cAff b p1 c1),hB b1 (cAff a0 p c)] [(1,vI x),(3,vI y),(4,vP b1 0),(6,vP b2 0),(8,vP b3 0),(9,vP b4 0),(10,vI i)]:=by
 refine sM.partial_correctness a0 x b y _ fun self ih i Coefs o N B I0 I Q p c p1 c1 b1 b2 b3 b4 p2 c2 cs H h1 h h3 hg ho hx=>yW hg ho<|yI<|yF [(22,.bool (decide (i < 4)))]<|zL<|yL N ?_ ?_
 · intro hc N;refine zV<|yG<|yM ?_;obtain ⟨x1,hy,N⟩:=zB N;obtain ⟨x2,hy1,N⟩:=zB N;obtain ⟨l,hy2,N⟩:=zB N;refine vC [.p (vP b4 0) [],.p (vS p2 Coefs c2) [0],.p (vI x) [],.p (vP b1 0) [],.p (vS p a0.Coefs c) [3],.p (vI i) [],.x (fun I' v hx=>∃ ad,v=.pointer (some ad)∧hx=[]∧(At I' ad [vI x1])),.q (vI x1),.p (vI (W (x * x1))) [],.p (vI y) [],.p (vP b2 0) [],.p (vS p1 b.Coefs c1) [2],.p (vI i) [],.x (fun I' v hx=>∃ ad1,v=.pointer (some ad1)∧hx=[]∧(At I' ad1 [vI x2])),.q (vI x2),.p (vI (W (y * x2))) [],.p (vI (W ((W (x * x1)) + (W (y * x2))))) [],.x (fun I' v hx=>∃ b5,v=vS (some ⟨b5,0,none⟩) ([(W ((W (x * x1)) + (W (y * x2))))]:List Int) 1∧hx=[]∧(SL I' (vS (some ⟨b5,0,none⟩) ([(W ((W (x * x1)) + (W (y * x2))))]:List Int) 1) ([(W ((W (x * x1)) + (W (y * x2))))]:List Int))),.x (fun I' v hx=>∃ p4 c4 cs2,v=vS p4 l c4∧hx=[hO Int (vS p4 l c4) cs2]∧(RL I' cs2 l))] [[],[(0,false)],[],[],[(3,false)],[],[(4,false),(5,false)],[(6,false)],[(2,false),(7,false)],[],[],[(10,false)],[],[(11,false),(12,false)],[(13,false)],[(9,false),(14,false)],[(8,false),(15,false)],[(16,false)],[(1,false),(17,false),(21,true)]] [hB b4 [vS p2 Coefs c2,vI (W ((W (x * a0.Const)) + (W (y * b.Const))))],hB b3 [z0,vI 0],hB b2 (cAff b p1 c1),hB b1 (cAff a0 p c)] [[hO Int (vS p2 Coefs c2) cs]] [(18,true)] (yD [1,2,3,4,0]) ?_ ?_
   · refine Op<|Op<|Op<|Op<|Op<|Op<|Ox ?_<|Oq ?_<|Op<|Op<|Op<|Op<|Op<|Ox ?_<|Oq ?_<|Op<|Op<|Ox ?_<|Ox ?_<|On
     · intro I1 hf le1;refine yR [(29,vS p a0.Coefs c),(30,vI i)] ?_;have h:=h.mono le1;refine xR rfl rfl h hy ?_;intro ad ccs hat hrep;obtain rfl:=hrep;exact yP [] iR ⟨_,rfl,rfl,hat⟩
     · intro I1 hf le1;refine zF ?_;rintro _ _ ⟨ad,rfl,rfl,hat⟩;exact yR [(31,.pointer (some ad))]<|xN 0 hat [vI x1] (vI x1) rfl<|xI iR
     · intro I1 hf le1;refine yR [(36,vS p1 b.Coefs c1),(37,vI i)] ?_;have h1:=h1.mono le1;refine xR rfl rfl h1 hy1 ?_;intro ad1 ccs1 hat1 hrep1;obtain rfl:=hrep1;exact yP [] iR ⟨_,rfl,rfl,hat1⟩
     · intro I1 hf le1;refine zF ?_;rintro _ _ ⟨ad1,rfl,rfl,hat1⟩;exact yR [(38,.pointer (some ad1))]<|xN 0 hat1 [vI x2] (vI x2) rfl<|xI iR
     · intro I1 hf le1;refine yR [(41,vI (W ((W (x * x1)) + (W (y * x2)))))] ?_;have H:=iS I1;refine xU [vI (W ((W (x * x1)) + (W (y * x2))))] Int ?_;intro b5 hb4;have h5:RL I1 [vI (W ((W (x * x1)) + (W (y * x2))))] ([(W ((W (x * x1)) + (W (y * x2))))]:List Int):=⟨[vI (W ((W (x * x1)) + (W (y * x2))))],_,rfl,rfl,rfl,rfl⟩;refine yJ 0 rfl ?_;intro I0 le hl0;have h6:=SL.of_frozen hl0 le h5;have H:=H.trans le;exact yP [] H ⟨_,rfl,rfl,h6⟩
     intro I1 hf le1;refine zF ?_;rintro _ _ ⟨rfl,rfl⟩;refine zF ?_;rintro _ _ ⟨b5,rfl,rfl,h6⟩;refine zF ?_;rintro _ _ rfl;refine yR [(26,vS p2 Coefs c2),(42,vS (some ⟨b5,0,none⟩) ([(W ((W (x * x1)) + (W (y * x2))))]:List Int) 1)] ?_;have h3:=iM le1 h3;obtain ⟨ccs2,k0,k01⟩:=h6;have h6:SL I1 (vS (some ⟨b5,0,none⟩) ([(W ((W (x * x1)) + (W (y * x2))))]:List Int) 1) ([(W ((W (x * x1)) + (W (y * x2))))]:List Int):=⟨_,k0,k01⟩;exact qI 3 1 0 rfl rfl rfl h3 (.inl k0) k01 hy2 fun p4 c4 cs2 h7=>vJ (hs':=(hO Int (vS p4 l c4) cs2::hB b4 [vS p2 Coefs c2,vI (W ((W (x * a0.Const)) + (W (y * b.Const))))]::hB b3 [z0,vI 0]::hB b2 (cAff b p1 c1)::hB b1 (cAff a0 p c)::hf)) rfl<|yP [hO Int (vS p4 l c4) cs2] iR ⟨_,_,_,rfl,rfl,h7⟩
   intro I01 le1;refine zF ?_;rintro _ _ ⟨p4,c4,cs2,rfl,rfl,h7⟩;refine yR [(1,vI x),(3,vI y),(4,vP b1 0),(6,vP b2 0),(8,vP b3 0),(9,vP b4 0),(10,vI i),(43,vS p4 l c4)] ?_;have h1:=h1.mono le1;have h:=h.mono le1;have H:=H.trans le1;exact yC 20 [] [(44,vP b4 0)]<|xB 1 [vS p4 l c4,vI (W ((W (x * a0.Const)) + (W (y * b.Const))))] [hO Int (vS p4 l c4) cs2,hB b4 [vS p4 l c4,vI (W ((W (x * a0.Const)) + (W (y * b.Const))))],hB b3 [z0,vI 0],hB b2 (cAff b p1 c1),hB b1 (cAff a0 p c)] rfl rfl rfl rfl<|yH rfl<|zR<|zL<|zP<|yB [] [(10,vI (W (i + 1)))]<|yT<|wN [(1,vI x),(3,vI y),(4,vP b1 0),(6,vP b2 0),(8,vP b3 0),(9,vP b4 0),(10,vI (W (i + 1)))]<|ih (W (i + 1)) l _ N H h1 h h7 hg ho hx
 intro hc N;exact vD<|wC (zZ [0,1,2] rfl (by decide))<|yS [(8,vP b3 0),(9,vP b4 0)]<|hx _ _ _ _ _ (zC N).symm H h3
def oR (a0:zA) (x:Int) (b:zA) (y:Int):Option (zA):=do
 let Coefs1←sM a0 x b y 0 ([]:List Int)
 pure (zA.mk Coefs1 (W ((W (x * a0.Const)) + (W (y * b.Const)))))
theorem eX:∀ a0 x b y r,oR a0 x b y=some r→∀ {I:Imm}{p c p1 c1},(S4 I p a0.Coefs c)→(S4 I p1 b.Coefs c1)→RT 196 [vA (cAff a0 p c),vI x,vA (cAff b p1 c1),vI y] I [] (mR  r):=by
 intro a0 x b y r N I p c p1 c1 h h1;unfold oR at N;refine zX (fn:=Tryz.f196) (c:=(bodyOf Tryz.f196)) Tryz.func196 rfl rfl ?_;rintro B - -;refine yK<|tO (cAff a0 p c) ?_;intro b1 hb;refine tO (cAff b p1 c1) ?_;intro b2 hb1;refine wU [z0,vI 0] ?_;intro b3 hb2;refine yH rfl<|xD<|yC 10 [2,1] [(20,vA [z0,vI (W ((W (x * a0.Const)) + (W (y * b.Const))))])]<|wU [z0,vI 0] ?_;intro b4 hb3;refine xB 0 [z0,vI (W ((W (x * a0.Const)) + (W (y * b.Const))))] [hB b4 [z0,vI (W ((W (x * a0.Const)) + (W (y * b.Const))))],hB b3 [z0,vI 0],hB b2 (cAff b p1 c1),hB b1 (cAff a0 p c)] rfl rfl rfl rfl<|yH rfl<|yG<|yF [(10,vI 0)]<|wD<|wN [(1,vI x),(3,vI y),(4,vP b1 0),(6,vP b2 0),(8,vP b3 0),(9,vP b4 0),(10,vI 0)]<|rM (wT (Rp.sz Int)) ?_;have h2:RL I [] ([]:List Int):=RepL.nil;obtain ⟨o0,ho0,hMl⟩:=zB N;refine zBB a0 x b y 0 ([]:List Int) o0 ho0 iR h1 h h2 (fun _ _ _ h=>h) (fun _ _ h=>h) ?_;intro I02 Coefs1 p3 c3 cs1 heq le2 h4;subst o0;refine zU<|xD<|yC 1 [1] [(45,vA [vS p3 Coefs1 c3,vI (W ((W (x * a0.Const)) + (W (y * b.Const))))])]<|xB 2 [vS p3 Coefs1 c3,vI (W ((W (x * a0.Const)) + (W (y * b.Const))))] [hO Int (vS p3 Coefs1 c3) cs1,hB b4 [vS p3 Coefs1 c3,vI (W ((W (x * a0.Const)) + (W (y * b.Const))))],hB b3 [vS p3 Coefs1 c3,vI (W ((W (x * a0.Const)) + (W (y * b.Const))))]] rfl rfl rfl rfl<|yH rfl<|xP<|xA 0 rfl ?_;intro I03 le3 hl01;have h8:=SL.of_frozen hl01 le3 h4;obtain rfl:=zC hMl;exact xF ⟨_,_,(.cell 1 rfl rfl (by kernel_rfl) ResV.nil),zT,⟨_,rfl,rfl,⟨_,rfl,(yN ⟨_,rfl,h8⟩)⟩⟩⟩
def zD9 (b0:Nat) (r:zE×zM):KT:=fun kk I' hs' v=>
  ∃ v0 k0,hs'=[.blk b0 ⟨k0⟩]∧v=tupV [v0]∧(∃ cs,v0=.agg ⟨cs⟩∧Rp.rep I' cs r.1)∧Rp.rep I' k0 r.2
def jB (r0:zM) (depth:Int):Option (zE×zM):=do
 let (y1,y2)←yX r0 ([0,0,1,0,(-1)]:List Int)
 let y3←wK y1
 let (y5,y6)←yX y2 ([3,4,2,3,1]:List Int)
 let y7←wK y5
 let (t23,x)←(do
   if (decide (depth > 0)) then
    let (y9,y10)←yV y6 4
    pure ((y9 == 0),y10)
   else
    pure (false,y6)
     : Option (Bool×zM))
 let (x1,x2,x3)←(do
   if t23 then
    let (y12,y13)←yV x depth
    let (y15,y16)←yV y13 2
    let (x4,x5)←(do
      if (y15 == 0) then
       let y17←oH y12
       pure (y17,(zA.mk y7.Coefs y7.Const))
      else
       let y18←oH y12
       let y19←wK 1
       let y20←oR y18 1 y19 1
       pure ((zA.mk y3.Coefs y3.Const),y20)
        : Option (zA×zA))
    pure (x4,x5,y16)
   else
    pure ((zA.mk y3.Coefs y3.Const),(zA.mk y7.Coefs y7.Const),x)
     : Option (zA×zA×zM))
 let (y22,y23)←yV x3 12
 let (Lo,Hi,x6)←(do
   if (y22 == 0) then
    let (y25,y26)←yX y23 ([3,2,4]:List Int)
    let y27←wK y25
    let l←app 32 ([x2]:List zA) ([y27]:List zA)
    pure (([x1]:List zA),l,y26)
   else
    let (Lo1,x7)←(do
      if (y22 == 1) then
       let (y29,y30)←yX y23 ([0,1]:List Int)
       let y31←wK y29
       let l1←app 32 ([x1]:List zA) ([y31]:List zA)
       pure (l1,y30)
      else
       pure (([x1]:List zA),y23)
        : Option (List zA×zM))
    pure (Lo1,([x2]:List zA),x7)
     : Option (List zA×List zA×zM))
 pure ((zE.mk Lo Hi),x6)
theorem zEu:∀ r0 depth r,jB r0 depth=some r→∀ {I:Imm}{r01:Nat}{p c},(S4 I p r0.b c)→RT 171 [vP r01 0,vI depth] I [hB r01 (cRd r0 p c)] (zD9 r01 r):=by
 intro r0 depth r N I r01 p c h;unfold jB at N;refine zX (fn:=Tryz.f171) (c:=(bodyOf Tryz.f171)) Tryz.func171 rfl rfl ?_;rintro B - -;have H:=iS I;refine yK<|wU zTwo ?_;intro b hb;refine yH rfl<|xD<|yC 1 [] [(9,vP r01 0)]<|xU [vI 0,vI 0,vI 1,vI 0,vI (-1)] Int ?_;intro b1 hb1;have h1:RL I [vI 0,vI 0,vI 1,vI 0,vI (-1)] ([0,0,1,0,(-1)]:List Int):=⟨[vI 0],_,rfl,rfl,rfl,⟨[vI 0],_,rfl,rfl,rfl,⟨[vI 1],_,rfl,rfl,rfl,⟨[vI 0],_,rfl,rfl,rfl,⟨[vI (-1)],_,rfl,rfl,rfl,rfl⟩⟩⟩⟩⟩;refine yJ 0 rfl ?_;intro I0 le hl0;have h2:=SL.of_frozen hl0 le h1;have h:=h.mono le;have H:=H.trans le;refine sU (yD [1,0] (hs':=[hB r01 (cRd r0 p c),hB b zTwo])) ?_;obtain ⟨⟨y1,y2⟩,hy,N⟩:=zB N;refine tS [hB r01 (cRd r0 p c)] [hB b zTwo] (xH r0 ([0,0,1,0,(-1)]:List Int) _ hy h h2) ?_;rintro I01 hs2 v2 k2 le1 - ⟨v0,kk,rfl,rfl,rfl,h4⟩ -;have H:=H.trans le1;obtain ⟨p1,c1,rfl,h5⟩:=yE h4;obtain ⟨y3,hy1,N⟩:=zB N;refine xS (vX y1 _ hy1 ) ?_;rintro I02 hs2 v2 k2 le2 - ⟨p2,c2,cs,rfl,rfl,h6⟩ -;have h5:=h5.mono le2;have H:=H.trans le2;refine wU [z0,vI 0] ?_;intro b2 hb2;refine xB 0 (cAff y3 p2 c2) [hB b2 (cAff y3 p2 c2),hO Int (vS p2 y3.Coefs c2) cs,hB r01 (cRd y2 p1 c1),hB b zTwo] rfl rfl rfl rfl<|yH rfl<|xD<|yC 1 [] [(13,vP r01 0)]<|xU [vI 3,vI 4,vI 2,vI 3,vI 1] Int ?_;intro b3 hb3;have h7:RL I02 [vI 3,vI 4,vI 2,vI 3,vI 1] ([3,4,2,3,1]:List Int):=⟨[vI 3],_,rfl,rfl,rfl,⟨[vI 4],_,rfl,rfl,rfl,⟨[vI 2],_,rfl,rfl,rfl,⟨[vI 3],_,rfl,rfl,rfl,⟨[vI 1],_,rfl,rfl,rfl,rfl⟩⟩⟩⟩⟩;refine yJ 0 rfl ?_;intro I03 le3 hl01;have h8:=SL.of_frozen hl01 le3 h7;have h6:=iM le3 h6;have h5:=h5.mono le3;have H:=H.trans le3;refine sU (yD [2,0,1,3] (hs':=[hB r01 (cRd y2 p1 c1),hB b2 (cAff y3 p2 c2),hO Int (vS p2 y3.Coefs c2) cs,hB b zTwo])) ?_;obtain ⟨⟨y5,y6⟩,hy2,N⟩:=zB N;refine tS [hB r01 (cRd y2 p1 c1)] [hB b2 (cAff y3 p2 c2),hO Int (vS p2 y3.Coefs c2) cs,hB b zTwo] (xH y2 ([3,4,2,3,1]:List Int) _ hy2 h5 h8) ?_;rintro I04 hs2 v2 k2 le4 - ⟨v02,kk1,rfl,rfl,rfl,h10⟩ -;have h6:=iM le4 h6;have H:=H.trans le4;obtain ⟨p3,c3,rfl,h11⟩:=yE h10;obtain ⟨y7,hy3,N⟩:=zB N;refine xS (vX y5 _ hy3 ) ?_;rintro I05 hs2 v2 k2 le5 - ⟨p4,c4,cs1,rfl,rfl,h12⟩ -;have h11:=h11.mono le5;have h6:=iM le5 h6;have H:=H.trans le5;refine wU [z0,vI 0] ?_;intro b4 hb4;refine xB 0 (cAff y7 p4 c4) [hB b4 (cAff y7 p4 c4),hO Int (vS p4 y7.Coefs c4) cs1,hB r01 (cRd y6 p3 c3),hB b2 (cAff y3 p2 c2),hO Int (vS p2 y3.Coefs c2) cs,hB b zTwo] rfl rfl rfl rfl<|yH rfl<|yG<|yI ?_;obtain ⟨o0,ho0,hMc⟩:=zB N;refine yU (fun I' hs' m'=>∃ (t23:Bool) (x:zM) (p5:Option Addr) (c5:Nat),o0=(t23,x)∧I05.le I'∧(S4 I' p5 x.b c5)∧hs'=[hB b4 (cAff y7 p4 c4),hO Int (vS p4 y7.Coefs c4) cs1,hB r01 (cRd x p5 c5),hB b2 (cAff y3 p2 c2),hO Int (vS p2 y3.Coefs c2) cs,hB b zTwo]∧m'=[(0,vP r01 0),(1,vI depth),(4,vP b 0),(5,vP b2 0),(6,vP b4 0),(23,.bool t23)]) ?_ ?_
 · have H:=iS I05;refine zP<|yC 3 [] [(19,.bool (decide (depth > 0)))] ?_;cases hc:(decide (depth > 0)) with
   | true =>
    have hM0:=zS hc ho0
    try rw [hc]
    refine yC 4 [] [(20,vP r01 0)]<|sU (yD [2,0,1,3,4,5] (hs':=[hB r01 (cRd y6 p3 c3),hB b4 (cAff y7 p4 c4),hO Int (vS p4 y7.Coefs c4) cs1,hB b2 (cAff y3 p2 c2),hO Int (vS p2 y3.Coefs c2) cs,hB b zTwo])) ?_;obtain ⟨⟨y9,y10⟩,hy4,N⟩:=zB hM0;refine tS [hB r01 (cRd y6 p3 c3)] [hB b4 (cAff y7 p4 c4),hO Int (vS p4 y7.Coefs c4) cs1,hB b2 (cAff y3 p2 c2),hO Int (vS p2 y3.Coefs c2) cs,hB b zTwo] (xQ y6 4 _ hy4 h11) ?_;rintro I07 hs2 v2 k2 le6 - ⟨v04,kk2,rfl,rfl,rfl,h15⟩ -;have H:=H.trans le6;obtain ⟨p6,c6,rfl,h16⟩:=yE h15;exact yB [] [(23,.bool (y9 == 0))]<|wC (zZ [1,2,0,3,4,5] rfl (by decide))<|yS [(0,vP r01 0),(1,vI depth),(4,vP b 0),(5,vP b2 0),(6,vP b4 0),(23,.bool (y9 == 0))]<|zW ⟨_,_,_,_,(zC N).symm,H,h16,rfl,rfl⟩
   | false =>
    have hM01:=zQ hc ho0
    try rw [hc]
    exact yB [] [(23,vF)]<|yS [(0,vP r01 0),(1,vI depth),(4,vP b 0),(5,vP b2 0),(6,vP b4 0),(23,vF)]<|zW ⟨_,_,_,_,(zC hM01).symm,H,h11,rfl,rfl⟩
 rintro I06 hs2 m2 ⟨t23,x,p5,c5,heq,le7,h13,rfl,rfl⟩;subst o0;have h12:=iM le7 h12;have h6:=iM le7 h6;have H:=H.trans le7;refine zL<|pO 4 rfl ?_;intro I08 le8 hl02;have h17:=SL.of_frozen hl02 le8 h6;have h12:=iM le8 h12;have h13:=h13.mono le8;have H:=H.trans le8;refine pO 1 rfl ?_;intro I09 le9 hl03;have h18:=SL.of_frozen hl03 le9 h12;have h13:=h13.mono le9;have h17:=h17.mono le9;have H:=H.trans le9;obtain ⟨o01,ho01,hMc1⟩:=zB hMc;refine yU (fun I' hs' m'=>∃ (x1:zA) (x2:zA) (x3:zM) (p7:Option Addr) (c7:Nat) (p8:Option Addr) (c8:Nat) (p9:Option Addr) (c9:Nat),o01=(x1,x2,x3)∧I09.le I'∧(S4 I' p7 x1.Coefs c7)∧(S4 I' p8 x2.Coefs c8)∧(S4 I' p9 x3.b c9)∧hs'=[hB b4 (cAff x2 p8 c8),hB r01 (cRd x3 p9 c9),hB b2 (cAff x1 p7 c7),hB b zTwo]∧m'=[(0,vP r01 0),(4,vP b 0),(5,vP b2 0),(6,vP b4 0)]) ?_ ?_
 · have H:=iS I09;refine yL ho01 ?_ ?_
   · intro hc1 N;refine yK<|yC 2 [] [(24,vP r01 0),(25,vI depth)]<|sU (yD [1,0,2,3] (hs':=[hB r01 (cRd x p5 c5),hB b4 (cAff y7 p4 c4),hB b2 (cAff y3 p2 c2),hB b zTwo])) ?_;obtain ⟨⟨y12,y13⟩,hy5,N⟩:=zB N;refine tS [hB r01 (cRd x p5 c5)] [hB b4 (cAff y7 p4 c4),hB b2 (cAff y3 p2 c2),hB b zTwo] (xQ x depth _ hy5 h13) ?_;rintro I011 hs2 v2 k2 le10 - ⟨v06,kk3,rfl,rfl,rfl,h23⟩ -;have h18:=h18.mono le10;have h17:=h17.mono le10;have H:=H.trans le10;obtain ⟨p10,c10,rfl,h24⟩:=yE h23;refine yB [] [(7,vI y12)]<|xD<|yC 1 [] [(27,vP r01 0)] ?_;obtain ⟨⟨y15,y16⟩,hy6,N⟩:=zB N;refine tS [hB r01 (cRd y13 p10 c10)] [hB b4 (cAff y7 p4 c4),hB b2 (cAff y3 p2 c2),hB b zTwo] (xQ y13 2 _ hy6 h24) ?_;rintro I012 hs2 v2 k2 le11 - ⟨v08,kk4,rfl,rfl,rfl,h26⟩ -;have h18:=h18.mono le11;have h17:=h17.mono le11;have H:=H.trans le11;obtain ⟨p11,c11,rfl,h27⟩:=yE h26;refine yB [] [(29,.bool (y15 == 0))]<|zL ?_;obtain ⟨o02,ho02,hMc2⟩:=zB N;refine yU (fun I' hs' m'=>∃ (x4:zA) (x5:zA) (p12:Option Addr) (c12:Nat) (p13:Option Addr) (c13:Nat),o02=(x4,x5)∧I012.le I'∧(S4 I' p12 x4.Coefs c12)∧(S4 I' p13 x5.Coefs c13)∧hs'=[hB r01 (cRd y16 p11 c11),hB b4 (cAff x5 p13 c13),hB b2 (cAff x4 p12 c12),hB b zTwo]∧m'=[(0,vP r01 0),(4,vP b 0),(5,vP b2 0),(6,vP b4 0)]) ?_ ?_
     · have H:=iS I012;refine yL ho02 ?_ ?_
       · intro hc2 N;refine zP<|yC 1 [] [(30,vI y12)]<|bE N fun y17 hy7 N=>xS (jA y12 _ hy7 ) ?_;rintro I014 hs2 v2 k2 le12 - ⟨v010,rfl,rfl,⟨cs2,rfl,h30⟩⟩ -;have h18:=h18.mono le12;have H:=H.trans le12;obtain ⟨p14,c14,rfl,h31⟩:=yQ h30;exact xB 2 (cAff y17 p14 c14) [hB r01 (cRd y16 p11 c11),hB b4 (cAff y7 p4 c4),hB b2 (cAff y17 p14 c14),hB b zTwo] rfl rfl rfl rfl<|yH rfl<|yS [(0,vP r01 0),(4,vP b 0),(5,vP b2 0),(6,vP b4 0)]<|zW ⟨_,_,_,_,_,_,(zC N).symm,H,h31,h18,rfl,rfl⟩
       intro hc2 N;refine zP<|yC 1 [] [(32,vI y12)]<|bE N fun y18 hy8 N=>xS (jA y12 _ hy8 ) ?_;rintro I015 hs2 v2 k2 le13 - ⟨v012,rfl,rfl,⟨cs3,rfl,h32⟩⟩ -;have h17:=h17.mono le13;have H:=H.trans le13;obtain ⟨p15,c15,rfl,h33⟩:=yQ h32;obtain ⟨y19,hy9,N⟩:=zB N;refine xS (vX 1 _ hy9 ) ?_;rintro I016 hs2 v2 k2 le14 - ⟨p16,c16,cs4,rfl,rfl,h34⟩ -;have h33:=h33.mono le14;have h17:=h17.mono le14;have H:=H.trans le14;refine yJ 0 rfl ?_;intro I017 le15 hl04;have h35:=SL.of_frozen hl04 le15 h34;have h33:=h33.mono le15;have h17:=h17.mono le15;have H:=H.trans le15;obtain ⟨y20,hy10,N⟩:=zB N;refine xS (eX y18 1 y19 1 _ hy10 h33 h35) ?_;rintro I018 hs2 v2 k2 le16 - ⟨v014,rfl,rfl,⟨cs5,rfl,h36⟩⟩ -;have h17:=h17.mono le16;have H:=H.trans le16;obtain ⟨p17,c17,rfl,h37⟩:=yQ h36;exact xB 1 (cAff y20 p17 c17) [hB r01 (cRd y16 p11 c11),hB b4 (cAff y20 p17 c17),hB b2 (cAff y3 p2 c2),hB b zTwo] rfl rfl rfl rfl<|yH rfl<|yS [(0,vP r01 0),(4,vP b 0),(5,vP b2 0),(6,vP b4 0)]<|zW ⟨_,_,_,_,_,_,(zC N).symm,H,h17,h37,rfl,rfl⟩
     rintro I013 hs2 m2 ⟨x4,x5,p12,c12,p13,c13,heq1,le17,h28,h29,rfl,rfl⟩;subst o02;have h27:=h27.mono le17;have H:=H.trans le17;exact wC (zZ [1,0,2,3] rfl (by decide))<|yS [(0,vP r01 0),(4,vP b 0),(5,vP b2 0),(6,vP b4 0)]<|zW ⟨_,_,_,_,_,_,_,_,_,(zC hMc2).symm,H,h28,h29,h27,rfl,rfl⟩
   intro hc1 N;exact zV<|yS [(0,vP r01 0),(4,vP b 0),(5,vP b2 0),(6,vP b4 0)]<|zW ⟨_,_,_,_,_,_,_,_,_,(zC N).symm,H,h17,h18,h13,rfl,rfl⟩
 rintro I010 hs2 m2 ⟨x1,x2,x3,p7,c7,p8,c8,p9,c9,heq2,le18,h19,h20,h21,rfl,rfl⟩;subst o01;have H:=H.trans le18;refine xD<|yC 1 [2] [(36,vA (cAff x1 p7 c7))]<|xU (cAff x1 p7 c7) zA ?_;intro b5 hb5;have h38:RL I010 (cAff x1 p7 c7) ([x1]:List zA):=⟨(cAff x1 p7 c7),_,rfl,rfl,(yN ⟨_,rfl,h19⟩),rfl⟩;refine yC 3 [1] [(38,vA (cAff x2 p8 c8))]<|xU (cAff x2 p8 c8) zA ?_;intro b6 hb6;have h39:RL I010 (cAff x2 p8 c8) ([x2]:List zA):=⟨(cAff x2 p8 c8),_,rfl,rfl,(yN ⟨_,rfl,h20⟩),rfl⟩;refine yC 5 [] [(40,vA [vS (some ⟨b5,0,none⟩) ([x1]:List zA) 1,vS (some ⟨b6,0,none⟩) ([x2]:List zA) 1])]<|wU zTwo ?_;intro b7 hb7;refine xB 0 [vS (some ⟨b5,0,none⟩) ([x1]:List zA) 1,vS (some ⟨b6,0,none⟩) ([x2]:List zA) 1] [hB b7 [vS (some ⟨b5,0,none⟩) ([x1]:List zA) 1,vS (some ⟨b6,0,none⟩) ([x2]:List zA) 1],hO zA (vS (some ⟨b6,0,none⟩) ([x2]:List zA) 1) (cAff x2 p8 c8),hO zA (vS (some ⟨b5,0,none⟩) ([x1]:List zA) 1) (cAff x1 p7 c7),hB b4 (cAff x2 p8 c8),hB r01 (cRd x3 p9 c9),hB b2 (cAff x1 p7 c7),hB b zTwo] rfl rfl rfl rfl<|yH rfl<|yG<|yK<|yC 1 [] [(41,vP r01 0)]<|sU (yD [4,0,1,2,3,5,6] (hs':=[hB r01 (cRd x3 p9 c9),hB b7 [vS (some ⟨b5,0,none⟩) ([x1]:List zA) 1,vS (some ⟨b6,0,none⟩) ([x2]:List zA) 1],hO zA (vS (some ⟨b6,0,none⟩) ([x2]:List zA) 1) (cAff x2 p8 c8),hO zA (vS (some ⟨b5,0,none⟩) ([x1]:List zA) 1) (cAff x1 p7 c7),hB b4 (cAff x2 p8 c8),hB b2 (cAff x1 p7 c7),hB b zTwo])) ?_;obtain ⟨⟨y22,y23⟩,hy11,N⟩:=zB hMc1;refine tS [hB r01 (cRd x3 p9 c9)] [hB b7 [vS (some ⟨b5,0,none⟩) ([x1]:List zA) 1,vS (some ⟨b6,0,none⟩) ([x2]:List zA) 1],hO zA (vS (some ⟨b6,0,none⟩) ([x2]:List zA) 1) (cAff x2 p8 c8),hO zA (vS (some ⟨b5,0,none⟩) ([x1]:List zA) 1) (cAff x1 p7 c7),hB b4 (cAff x2 p8 c8),hB b2 (cAff x1 p7 c7),hB b zTwo] (xQ x3 12 _ hy11 h21) ?_;rintro I019 hs2 v2 k2 le19 - ⟨v016,kk5,rfl,rfl,rfl,h41⟩ -;have h38:=iM le19 h38;have h39:=iM le19 h39;have H:=H.trans le19;obtain ⟨p18,c18,rfl,h42⟩:=yE h41;refine yH rfl<|wD<|yF [(43,.bool (y22 == 0))]<|zL<|pO 4 rfl ?_;intro I020 le20 hl05;have hat:At I020 ⟨b4,0,none⟩ (cAff x2 p8 c8):=At.of_blk hl05;have h42:=h42.mono le20;have h38:=iM le20 h38;have h39:=iM le20 h39;have H:=H.trans le20;refine pO 4 rfl ?_;intro I021 le21 hl06;have hat1:At I021 ⟨b2,0,none⟩ (cAff x1 p7 c7):=At.of_blk hl06;have h42:=h42.mono le21;have h38:=iM le21 h38;have h39:=iM le21 h39;have H:=H.trans le21;obtain ⟨o03,ho03,hMc3⟩:=zB N;refine yU (fun I' hs' m'=>∃ (Lo:List zA) (Hi:List zA) (x6:zM) (p19:Option Addr) (c19:Nat) (cs6:List Value) (p20:Option Addr) (c20:Nat) (cs7:List Value) (p21:Option Addr) (c21:Nat),o03=(Lo,Hi,x6)∧I021.le I'∧(RL I' cs6 Lo)∧(RL I' cs7 Hi)∧(S4 I' p21 x6.b c21)∧hs'=[hB r01 (cRd x6 p21 c21),hB b7 [vS p19 Lo c19,vS p20 Hi c20],hO zA (vS p20 Hi c20) cs7,hO zA (vS p19 Lo c19) cs6,hB b zTwo]∧m'=[(4,vP b 0),(8,vP b7 0)]) ?_ ?_
 · have H:=iS I021;refine yL ho03 ?_ ?_
   · intro hc3 N;obtain ⟨⟨y25,y26⟩,hy12,N⟩:=zB N;obtain ⟨y27,hy13,N⟩:=zB N;obtain ⟨l,hy14,N⟩:=zB N;refine vC [.p (vP b7 1) [],.p (vS (some ⟨b6,0,none⟩) ([x2]:List zA) 1) [0],.p (vP r01 0) [],.x (fun I' v hx=>∃ b8,v=vS (some ⟨b8,0,none⟩) ([3,2,4]:List Int) 3∧hx=[]∧(SL I' (vS (some ⟨b8,0,none⟩) ([3,2,4]:List Int) 3) ([3,2,4]:List Int))),.x (fun I' v hx=>∃ p22 c22,v=vI y25∧hx=[hB r01 (cRd y26 p22 c22)]∧(S4 I' p22 y26.b c22)),.x (fun I' v hx=>∃ p23 c23 cs8,v=vA (cAff y27 p23 c23)∧hx=[hO Int (vS p23 y27.Coefs c23) cs8]∧(RL I' cs8 y27.Coefs)),.x (fun I' v hx=>∃ b9,v=vS (some ⟨b9,0,none⟩) ([y27]:List zA) 1∧hx=[]∧(SL I' (vS (some ⟨b9,0,none⟩) ([y27]:List zA) 1) ([y27]:List zA))),.x (fun I' v hx=>∃ p24 c24 cs9,v=vS p24 l c24∧hx=[hO zA (vS p24 l c24) cs9]∧(RL I' cs9 l))] [[],[(0,false)],[],[],[(2,false),(3,false),(10,true)],[(4,false)],[(5,true)],[(1,false),(6,false),(11,true)]] [hB b7 [vS (some ⟨b5,0,none⟩) ([x1]:List zA) 1,vS (some ⟨b6,0,none⟩) ([x2]:List zA) 1],hO zA (vS (some ⟨b5,0,none⟩) ([x1]:List zA) 1) (cAff x1 p7 c7),hB b zTwo] [[hB r01 (cRd y23 p18 c18)],[hO zA (vS (some ⟨b6,0,none⟩) ([x2]:List zA) 1) (cAff x2 p8 c8)]] [(4,true),(7,true)] (yD [1,3,4,0,2]) ?_ ?_
     · refine Op<|Op<|Op<|Ox ?_<|Ox ?_<|Ox ?_<|Ox ?_<|Ox ?_<|On
       · intro I1 hf le1;refine yR [] ?_;have H:=iS I1;refine xU [vI 3,vI 2,vI 4] Int ?_;intro b8 hb8;have h46:RL I1 [vI 3,vI 2,vI 4] ([3,2,4]:List Int):=⟨[vI 3],_,rfl,rfl,rfl,⟨[vI 2],_,rfl,rfl,rfl,⟨[vI 4],_,rfl,rfl,rfl,rfl⟩⟩⟩;refine yJ 0 rfl ?_;intro I023 le22 hl07;have h47:=SL.of_frozen hl07 le22 h46;have H:=H.trans le22;exact yP [] H ⟨_,rfl,rfl,h47⟩
       · intro I1 hf le1;refine zF ?_;rintro _ _ ⟨rfl,rfl⟩;refine zF ?_;rintro _ _ ⟨b8,rfl,rfl,h47⟩;refine zF ?_;rintro _ _ rfl;refine yR [(47,vP r01 0),(48,vS (some ⟨b8,0,none⟩) ([3,2,4]:List Int) 3)] ?_;have H:=iS I1;have h42:=h42.mono le1;refine tS [hB r01 (cRd y23 p18 c18)] (hB b7 [vS (some ⟨b5,0,none⟩) ([x1]:List zA) 1,vS (some ⟨b6,0,none⟩) ([x2]:List zA) 1]::hO zA (vS (some ⟨b5,0,none⟩) ([x1]:List zA) 1) (cAff x1 p7 c7)::hB b zTwo::hf) (xH y23 ([3,2,4]:List Int) _ hy12 h42 h47) ?_;rintro I024 hs2 v2 k2 le23 - ⟨v018,kk6,rfl,rfl,rfl,h49⟩ -;have H:=H.trans le23;obtain ⟨p22,c22,rfl,h50⟩:=yE h49;exact yP [hB r01 (cRd y26 p22 c22)] H ⟨_,_,rfl,rfl,h50⟩
       · intro I1 hf le1;refine zF ?_;rintro _ _ ⟨p22,c22,rfl,rfl,h50⟩;refine yR [(49,vI y25)] ?_;have H:=iS I1;refine xS (vX y25 _ hy13 ) ?_;rintro I025 hs2 v2 k2 le24 - ⟨p23,c23,cs8,rfl,rfl,h51⟩ -;have H:=H.trans le24;exact yP [hO Int (vS p23 y27.Coefs c23) cs8] H ⟨_,_,_,rfl,rfl,h51⟩
       · intro I1 hf le1;refine zF ?_;rintro _ _ ⟨p23,c23,cs8,rfl,rfl,h51⟩;refine yR [(50,vA (cAff y27 p23 c23))] ?_;have H:=iS I1;refine yJ 0 rfl ?_;intro I026 le25 hl08;have h52:=SL.of_frozen hl08 le25 h51;have H:=H.trans le25;refine xU (cAff y27 p23 c23) zA ?_;intro b9 hb9;have h53:RL I026 (cAff y27 p23 c23) ([y27]:List zA):=⟨(cAff y27 p23 c23),_,rfl,rfl,(yN ⟨_,rfl,h52⟩),rfl⟩;refine yJ 0 rfl ?_;intro I027 le26 hl09;have h54:=SL.of_frozen hl09 le26 h53;have H:=H.trans le26;exact yP [] H ⟨_,rfl,rfl,h54⟩
       intro I1 hf le1;refine zF ?_;rintro _ _ ⟨rfl,rfl⟩;refine zF ?_;rintro _ _ ⟨b9,rfl,rfl,h54⟩;refine zF ?_;rintro _ _ rfl;refine yR [(46,vS (some ⟨b6,0,none⟩) ([x2]:List zA) 1),(51,vS (some ⟨b9,0,none⟩) ([y27]:List zA) 1)] ?_;have h39:=iM le1 h39;obtain ⟨ccs,k0,k01⟩:=h54;have h54:SL I1 (vS (some ⟨b9,0,none⟩) ([y27]:List zA) 1) ([y27]:List zA):=⟨_,k0,k01⟩;exact qI 44 2 0 rfl rfl rfl h39 (.inl k0) k01 hy14 fun p24 c24 cs9 h55=>vJ (hs':=(hO zA (vS p24 l c24) cs9::hB b7 [vS (some ⟨b5,0,none⟩) ([x1]:List zA) 1,vS (some ⟨b6,0,none⟩) ([x2]:List zA) 1]::hO zA (vS (some ⟨b5,0,none⟩) ([x1]:List zA) 1) (cAff x1 p7 c7)::hB b zTwo::hf)) rfl<|yP [hO zA (vS p24 l c24) cs9] iR ⟨_,_,_,rfl,rfl,h55⟩
     intro I028 le27;refine zF ?_;rintro _ _ ⟨p22,c22,rfl,rfl,h50⟩;refine zF ?_;rintro _ _ ⟨p24,c24,cs9,rfl,rfl,h55⟩;refine yR [(4,vP b 0),(8,vP b7 0),(52,vS p24 l c24)] ?_;have h38:=iM le27 h38;have H:=H.trans le27;exact yC 9 [] [(53,vP b7 1)]<|xB 2 [vS (some ⟨b5,0,none⟩) ([x1]:List zA) 1,vS p24 l c24] [hO zA (vS p24 l c24) cs9,hB r01 (cRd y26 p22 c22),hB b7 [vS (some ⟨b5,0,none⟩) ([x1]:List zA) 1,vS p24 l c24],hO zA (vS (some ⟨b5,0,none⟩) ([x1]:List zA) 1) (cAff x1 p7 c7),hB b zTwo] rfl rfl rfl rfl<|yH rfl<|wC (zZ [1,2,0,3,4] rfl (by decide))<|yS [(4,vP b 0),(8,vP b7 0)]<|zW ⟨_,_,_,_,_,_,_,_,_,_,_,(zC N).symm,H,h38,h55,h50,rfl,rfl⟩
   intro hc3 N;refine yF [(54,.bool (y22 == 1))]<|zL ?_;obtain ⟨o04,ho04,hMc4⟩:=zB N;refine yU (fun I' hs' m'=>∃ (Lo1:List zA) (x7:zM) (p25:Option Addr) (c25:Nat) (cs10:List Value) (p26:Option Addr) (c26:Nat),o04=(Lo1,x7)∧I021.le I'∧(RL I' cs10 Lo1)∧(S4 I' p26 x7.b c26)∧hs'=[hB r01 (cRd x7 p26 c26),hB b7 [vS p25 Lo1 c25,vS (some ⟨b6,0,none⟩) ([x2]:List zA) 1],hO zA (vS (some ⟨b6,0,none⟩) ([x2]:List zA) 1) (cAff x2 p8 c8),hO zA (vS p25 Lo1 c25) cs10,hB b zTwo]∧m'=[(4,vP b 0),(8,vP b7 0)]) ?_ ?_
   · have H:=iS I021;refine yL ho04 ?_ ?_
     · intro hc4 N;obtain ⟨⟨y29,y30⟩,hy15,N⟩:=zB N;obtain ⟨y31,hy16,N⟩:=zB N;obtain ⟨l1,hy17,N⟩:=zB N;refine vC [.p (vP b7 0) [],.p (vS (some ⟨b5,0,none⟩) ([x1]:List zA) 1) [0],.p (vP r01 0) [],.x (fun I' v hx=>∃ b10,v=vS (some ⟨b10,0,none⟩) ([0,1]:List Int) 2∧hx=[]∧(SL I' (vS (some ⟨b10,0,none⟩) ([0,1]:List Int) 2) ([0,1]:List Int))),.x (fun I' v hx=>∃ p27 c27,v=vI y29∧hx=[hB r01 (cRd y30 p27 c27)]∧(S4 I' p27 y30.b c27)),.x (fun I' v hx=>∃ p28 c28 cs11,v=vA (cAff y31 p28 c28)∧hx=[hO Int (vS p28 y31.Coefs c28) cs11]∧(RL I' cs11 y31.Coefs)),.x (fun I' v hx=>∃ b11,v=vS (some ⟨b11,0,none⟩) ([y31]:List zA) 1∧hx=[]∧(SL I' (vS (some ⟨b11,0,none⟩) ([y31]:List zA) 1) ([y31]:List zA))),.x (fun I' v hx=>∃ p29 c29 cs12,v=vS p29 l1 c29∧hx=[hO zA (vS p29 l1 c29) cs12]∧(RL I' cs12 l1))] [[],[(0,false)],[],[],[(2,false),(3,false),(10,true)],[(4,false)],[(5,true)],[(1,false),(6,false),(11,true)]] [hB b7 [vS (some ⟨b5,0,none⟩) ([x1]:List zA) 1,vS (some ⟨b6,0,none⟩) ([x2]:List zA) 1],hO zA (vS (some ⟨b6,0,none⟩) ([x2]:List zA) 1) (cAff x2 p8 c8),hB b zTwo] [[hB r01 (cRd y23 p18 c18)],[hO zA (vS (some ⟨b5,0,none⟩) ([x1]:List zA) 1) (cAff x1 p7 c7)]] [(4,true),(7,true)] (yD [1,2,4,0,3]) ?_ ?_
       · refine Op<|Op<|Op<|Ox ?_<|Ox ?_<|Ox ?_<|Ox ?_<|Ox ?_<|On
         · intro I1 hf le1;refine yR [] ?_;have H:=iS I1;refine xU [vI 0,vI 1] Int ?_;intro b10 hb10;have h58:RL I1 [vI 0,vI 1] ([0,1]:List Int):=⟨[vI 0],_,rfl,rfl,rfl,⟨[vI 1],_,rfl,rfl,rfl,rfl⟩⟩;refine yJ 0 rfl ?_;intro I030 le28 hl010;have h59:=SL.of_frozen hl010 le28 h58;have H:=H.trans le28;exact yP [] H ⟨_,rfl,rfl,h59⟩
         · intro I1 hf le1;refine zF ?_;rintro _ _ ⟨rfl,rfl⟩;refine zF ?_;rintro _ _ ⟨b10,rfl,rfl,h59⟩;refine zF ?_;rintro _ _ rfl;refine yR [(58,vP r01 0),(59,vS (some ⟨b10,0,none⟩) ([0,1]:List Int) 2)] ?_;have H:=iS I1;have h42:=h42.mono le1;refine tS [hB r01 (cRd y23 p18 c18)] (hB b7 [vS (some ⟨b5,0,none⟩) ([x1]:List zA) 1,vS (some ⟨b6,0,none⟩) ([x2]:List zA) 1]::hO zA (vS (some ⟨b6,0,none⟩) ([x2]:List zA) 1) (cAff x2 p8 c8)::hB b zTwo::hf) (xH y23 ([0,1]:List Int) _ hy15 h42 h59) ?_;rintro I031 hs2 v2 k2 le29 - ⟨v020,kk7,rfl,rfl,rfl,h61⟩ -;have H:=H.trans le29;obtain ⟨p27,c27,rfl,h62⟩:=yE h61;exact yP [hB r01 (cRd y30 p27 c27)] H ⟨_,_,rfl,rfl,h62⟩
         · intro I1 hf le1;refine zF ?_;rintro _ _ ⟨p27,c27,rfl,rfl,h62⟩;refine yR [(60,vI y29)] ?_;have H:=iS I1;refine xS (vX y29 _ hy16 ) ?_;rintro I032 hs2 v2 k2 le30 - ⟨p28,c28,cs11,rfl,rfl,h63⟩ -;have H:=H.trans le30;exact yP [hO Int (vS p28 y31.Coefs c28) cs11] H ⟨_,_,_,rfl,rfl,h63⟩
         · intro I1 hf le1;refine zF ?_;rintro _ _ ⟨p28,c28,cs11,rfl,rfl,h63⟩;refine yR [(61,vA (cAff y31 p28 c28))] ?_;have H:=iS I1;refine yJ 0 rfl ?_;intro I033 le31 hl011;have h64:=SL.of_frozen hl011 le31 h63;have H:=H.trans le31;refine xU (cAff y31 p28 c28) zA ?_;intro b11 hb11;have h65:RL I033 (cAff y31 p28 c28) ([y31]:List zA):=⟨(cAff y31 p28 c28),_,rfl,rfl,(yN ⟨_,rfl,h64⟩),rfl⟩;refine yJ 0 rfl ?_;intro I034 le32 hl012;have h66:=SL.of_frozen hl012 le32 h65;have H:=H.trans le32;exact yP [] H ⟨_,rfl,rfl,h66⟩
         intro I1 hf le1;refine zF ?_;rintro _ _ ⟨rfl,rfl⟩;refine zF ?_;rintro _ _ ⟨b11,rfl,rfl,h66⟩;refine zF ?_;rintro _ _ rfl;refine yR [(57,vS (some ⟨b5,0,none⟩) ([x1]:List zA) 1),(62,vS (some ⟨b11,0,none⟩) ([y31]:List zA) 1)] ?_;have h38:=iM le1 h38;obtain ⟨ccs1,k02,k03⟩:=h66;have h66:SL I1 (vS (some ⟨b11,0,none⟩) ([y31]:List zA) 1) ([y31]:List zA):=⟨_,k02,k03⟩;exact qI 44 2 0 rfl rfl rfl h38 (.inl k02) k03 hy17 fun p29 c29 cs12 h67=>vJ (hs':=(hO zA (vS p29 l1 c29) cs12::hB b7 [vS (some ⟨b5,0,none⟩) ([x1]:List zA) 1,vS (some ⟨b6,0,none⟩) ([x2]:List zA) 1]::hO zA (vS (some ⟨b6,0,none⟩) ([x2]:List zA) 1) (cAff x2 p8 c8)::hB b zTwo::hf)) rfl<|yP [hO zA (vS p29 l1 c29) cs12] iR ⟨_,_,_,rfl,rfl,h67⟩
       intro I035 le33;refine zF ?_;rintro _ _ ⟨p27,c27,rfl,rfl,h62⟩;refine zF ?_;rintro _ _ ⟨p29,c29,cs12,rfl,rfl,h67⟩;refine yR [(4,vP b 0),(8,vP b7 0),(63,vS p29 l1 c29)] ?_;have H:=H.trans le33;exact yC 9 [] [(64,vP b7 0)]<|xB 2 [vS p29 l1 c29,vS (some ⟨b6,0,none⟩) ([x2]:List zA) 1] [hO zA (vS p29 l1 c29) cs12,hB r01 (cRd y30 p27 c27),hB b7 [vS p29 l1 c29,vS (some ⟨b6,0,none⟩) ([x2]:List zA) 1],hO zA (vS (some ⟨b6,0,none⟩) ([x2]:List zA) 1) (cAff x2 p8 c8),hB b zTwo] rfl rfl rfl rfl<|yH rfl<|wC (zZ [1,2,3,0,4] rfl (by decide))<|yS [(4,vP b 0),(8,vP b7 0)]<|zW ⟨_,_,_,_,_,_,_,(zC N).symm,H,h67,h62,rfl,rfl⟩
     intro hc4 N;exact zV<|yS [(4,vP b 0),(8,vP b7 0)]<|zW ⟨_,_,_,_,_,_,_,(zC N).symm,H,h38,h42,rfl,rfl⟩
   rintro I029 hs2 m2 ⟨Lo1,x7,p25,c25,cs10,p26,c26,heq3,le34,h56,h57,rfl,rfl⟩;subst o04;have h39:=iM le34 h39;have H:=H.trans le34;exact yS [(4,vP b 0),(8,vP b7 0)]<|zW ⟨_,_,_,_,_,_,_,_,_,_,_,(zC hMc4).symm,H,h56,h39,h57,rfl,rfl⟩
 rintro I022 hs2 m2 ⟨Lo,Hi,x6,p19,c19,cs6,p20,c20,cs7,p21,c21,heq4,le35,h43,h44,h45,rfl,rfl⟩;subst o03;refine zR<|xD<|yC 1 [1] [(65,vA [vS p19 Lo c19,vS p20 Hi c20])]<|xB 4 [vS p19 Lo c19,vS p20 Hi c20] [hB r01 (cRd x6 p21 c21),hB b7 [vS p19 Lo c19,vS p20 Hi c20],hO zA (vS p20 Hi c20) cs7,hO zA (vS p19 Lo c19) cs6,hB b [vS p19 Lo c19,vS p20 Hi c20]] rfl rfl rfl rfl<|yH rfl<|xP<|xA 3 rfl ?_;intro I036 le36 hl013;have h68:=SL.of_frozen hl013 le36 h43;have h45:=h45.mono le36;have h44:=iM le36 h44;refine xA 2 rfl ?_;intro I037 le37 hl014;have h69:=SL.of_frozen hl014 le37 h44;have h45:=h45.mono le37;have h68:=h68.mono le37;obtain rfl:=zC hMc3;exact xF ⟨_,_,(.cell 2 rfl rfl (by kernel_rfl) ResV.nil),(zZ [0] rfl (by decide)),⟨_,_,rfl,rfl,⟨_,rfl,(sW ⟨_,_,rfl,h68,h69⟩)⟩,(yO ⟨_,rfl,h45⟩)⟩⟩
def zDa (b0:Nat) (r:(List zE)×zM):KT:=fun kk I' hs' v=>
  ∃ v0 k0,hs'=[.blk b0 ⟨k0⟩]∧v=tupV [v0]∧SL I' v0 r.1∧Rp.rep I' k0 r.2
def qR (out:List zE) (i:Int) (x:zM):Option ((List zE×zM)):=do
 if (decide (i > 0)) then
  let (y4,y5)←jB x (out.length:Int)
  let out2←app 48 out ([y4]:List zE)
  qR out2 (W (i - 1)) y5
 else
  pure (out,x)
 partial_fixpoint
theorem zCl :∀ (out:List zE) (i:Int) (x:zM) (o:(List zE×zM)),qR out i x=some o→∀ {B}{I0 I:Imm}{Q}  {r01:Nat}{p2 c2 cs p3 c3},I0.le I→(RL I cs out)→(S4 I p3 x.b c3)→NG Q→NO Q→(∀ (I':Imm) (out1:List zE) (x1:zM) (p4:Option Addr) (c4:Nat) (cs1:List Value) (p5:Option Addr) (c5:Nat),o=(out1,x1)→I0.le I'→(RL I' cs1 out1)→(S4 I' p5 x1.b c5)→T 21 B Q (.exit 0) I' [hB r01 (cRd x1 p5 c5),hO zE (vS p4 out1 c4) cs1] [(3,vS p4 out1 c4)])→J Tryz.prog 21 B (nav (bodyOf Tryz.f137) [1,1,0,1,0]) Q I [hB r01 (cRd x p3 c3),hO zE (vS p2 out c2) cs] [(0,vP r01 0),(3,vS p2 out c2),(4,vI i)]:=by
 refine qR.partial_correctness  _ fun self ih out i x o N B I0 I Q r01 p2 c2 cs p3 c3 H h7 h8 hg ho hx=>yW hg ho<|yI<|yF [(10,.bool (decide (i > 0)))]<|zL<|yL N ?_ ?_
 · intro hc N;refine zV<|yG<|yM<|zP<|yC 4 [] [(13,vS p2 out c2),(14,vP r01 0),(16,vI (out.length:Int))] ?_;obtain ⟨⟨y4,y5⟩,hy1,N⟩:=zB N;refine tS [hB r01 (cRd x p3 c3)] [hO zE (vS p2 out c2) cs] (zEu x (out.length:Int) _ hy1 h8) ?_;rintro I02 hs2 v2 k2 le2 - ⟨v02,kk1,rfl,rfl,⟨cs2,rfl,h11⟩,h12⟩ -;have h7:=iM le2 h7;have H:=H.trans le2;obtain ⟨p6,c6,p7,c7,rfl,h13,h14⟩:=tM h11;obtain ⟨p8,c8,rfl,h15⟩:=yE h12;refine xU (cLoop y4 p6 c6 p7 c7) zE ?_;intro b2 hb2;have h16:RL I02 (cLoop y4 p6 c6 p7 c7) ([y4]:List zE):=⟨(cLoop y4 p6 c6 p7 c7),_,rfl,rfl,(sW ⟨_,_,rfl,h13,h14⟩),rfl⟩;obtain ⟨out2,hy2,N⟩:=zB N;exact qI 169 2 2 rfl rfl rfl h7 (.inr ⟨0,rfl⟩) h16 hy2 fun p9 c9 cs3 h17=>sU (yD [1,2] (hs':=[hB r01 (cRd y5 p8 c8),hO zE (vS p9 out2 c9) cs3]))<|yB [] [(3,vS p9 out2 c9)]<|zR<|zL<|zP<|yB [] [(4,vI (W (i - 1)))]<|yT<|wN [(0,vP r01 0),(3,vS p9 out2 c9),(4,vI (W (i - 1)))]<|ih out2 (W (i - 1)) y5 _ N H h17 h15 hg ho hx
 intro hc N;exact vD<|yS [(3,vS p2 out c2)]<|hx _ _ _ _ _ _ _ _ (zC N).symm H h7 h8
def jC (r0:zM):Option ((List zE)×zM):=do
 let (y1,y2)←yX r0 ([2,1,2,3]:List Int)
 let (out1,x1)←qR ([]:List zE) y1 y2
 pure (out1,x1)
theorem zEv:∀ r0 r,jC r0=some r→∀ {I:Imm}{r01:Nat}{p c},(S4 I p r0.b c)→RT 137 [vP r01 0] I [hB r01 (cRd r0 p c)] (zDa r01 r):=by
 intro r0 r N I r01 p c h;unfold jC at N;refine zX (fn:=Tryz.f137) (c:=(bodyOf Tryz.f137)) Tryz.func137 rfl rfl ?_;rintro B - -;refine yF []<|xD<|xU [] zE ?_;intro b hb;have h1:RL I [] ([]:List zE):=rfl;refine yB [] [(3,vS (some ⟨b,0,none⟩) ([]:List zE) 0)]<|yG<|yK<|yC 1 [] [(6,vP r01 0)]<|xU [vI 2,vI 1,vI 2,vI 3] Int ?_;intro b1 hb1;have h2:RL I [vI 2,vI 1,vI 2,vI 3] ([2,1,2,3]:List Int):=⟨[vI 2],_,rfl,rfl,rfl,⟨[vI 1],_,rfl,rfl,rfl,⟨[vI 2],_,rfl,rfl,rfl,⟨[vI 3],_,rfl,rfl,rfl,rfl⟩⟩⟩⟩;refine yJ 0 rfl ?_;intro I0 le hl0;have h3:=SL.of_frozen hl0 le h2;have h1:=iM le h1;have h:=h.mono le;refine sU (yD [1,0] (hs':=[hB r01 (cRd r0 p c),hO zE (vS (some ⟨b,0,none⟩) ([]:List zE) 0) []])) ?_;obtain ⟨⟨y1,y2⟩,hy,N⟩:=zB N;refine tS [hB r01 (cRd r0 p c)] [hO zE (vS (some ⟨b,0,none⟩) ([]:List zE) 0) []] (xH r0 ([2,1,2,3]:List Int) _ hy h h3) ?_;rintro I01 hs2 v2 k2 le1 - ⟨v0,kk,rfl,rfl,rfl,h5⟩ -;have h1:=iM le1 h1;obtain ⟨p1,c1,rfl,h6⟩:=yE h5;refine yB [] [(4,vI y1)]<|wD<|wN [(0,vP r01 0),(3,vS (some ⟨b,0,none⟩) ([]:List zE) 0),(4,vI y1)] ?_;obtain ⟨o0,ho0,hMl⟩:=zB N;refine zCl ([]:List zE) y1 y2 o0 ho0 iR h1 h6 (fun _ _ _ h=>h) (fun _ _ h=>h) ?_;intro I03 out1 x1 p4 c4 cs1 p5 c5 heq le3 h9 h10;subst o0;refine zU<|wW [(2,vS p4 out1 c4)]<|xP<|xA 1 rfl ?_;intro I04 le4 hl01;have h18:=SL.of_frozen hl01 le4 h9;have h10:=h10.mono le4;obtain rfl:=zC hMl;exact xF ⟨_,_,(.tmp rfl ResV.nil),(zZ [0] rfl (by decide)),⟨_,_,rfl,rfl,h18,(yO ⟨_,rfl,h10⟩)⟩⟩
def zDb (b0:Nat) (r:zI×zM):KT:=fun kk I' hs' v=>
  ∃ v0 k0,hs'=[.blk b0 ⟨k0⟩]∧v=tupV [v0]∧(∃ cs,v0=.agg ⟨cs⟩∧Rp.rep I' cs r.1)∧Rp.rep I' k0 r.2
def qS (depth:Int) (n0:Int) (i:Int) (Subs:List zA) (x:zM):Option ((List zA×zM)):=do
 if (decide (i < n0)) then
  let (y4,y5)←yX x ([0,1,0,2]:List Int)
  let y6←wK y4
  let (t32,x2)←(do
    if (decide (depth > 0)) then
     let (y8,y9)←yV y5 5
     pure ((decide (y8 > 0)),y9)
    else
     pure (false,y5)
      : Option (Bool×zM))
  let (x3,x4)←(do
    if t32 then
     let (y11,y12)←yV x2 depth
     let y13←oH y11
     let (y15,y16)←yX y12 ([1,1,1,2,(-1)]:List Int)
     let (y18,y19)←yX y16 ([0,1,0,0,2]:List Int)
     let y20←wK y18
     let y21←oR y13 y15 y20 1
     pure (y21,y19)
    else
     pure ((zA.mk y6.Coefs y6.Const),x2)
      : Option (zA×zM))
  let l←app 32 Subs ([x3]:List zA)
  qS depth n0 (W (i + 1)) l x4
 else
  pure (Subs,x)
 partial_fixpoint
theorem zCm (depth:Int) (n0:Int):∀ (i:Int) (Subs:List zA) (x:zM) (o:(List zA×zM)),qS depth n0 i Subs x=some o→∀ {B}{I0 I:Imm}{Q}{y1:Str}{r01:Nat}{b:Nat}{b2:Nat}{p2 c2 cs p3 c3},I0.le I→(RL I cs Subs)→(S4 I p3 x.b c3)→NG Q→NO Q→(∀ (I':Imm) (Subs1:List zA) (x1:zM) (p4:Option Addr) (c4:Nat) (cs1:List Value) (p5:Option Addr) (c5:Nat),o=(Subs1,x1)→I0.le I'→(RL I' cs1 Subs1)→(S4 I' p5 x1.b c5)→T 53 B Q (.exit 0) I' [hO zA (vS p4 Subs1 c4) cs1,hB b2 [vT y1.l,vS p4 Subs1 c4],hB r01 (cRd x1 p5 c5),hB b [vT ([]),z0]] [(4,vP b 0),(5,vP b2 0)])→J Tryz.prog 53 B (nav (bodyOf Tryz.f172) [1,1,1,1,0,1,0]) Q I [hO zA (vS p2 Subs c2) cs,hB b2 [vT y1.l,vS p2 Subs c2],hB r01 (cRd x p3 c3),hB b [vT ([]),z0]] [(0,vP r01 0),(1,vI depth),(4,vP b 0),(5,vP b2 0),(6,vI n0),(7,vI i)]:=by
 refine qS.partial_correctness depth n0 _ fun self ih i Subs x o N B I0 I Q y1 r01 b b2 p2 c2 cs p3 c3 H h7 h8 hg ho hx=>yW hg ho<|yI<|yF [(19,.bool (decide (i < n0)))]<|zL<|yL N ?_ ?_
 · intro hc1 N;refine zV<|yG<|yM<|yK<|yC 1 [] [(22,vP r01 0)]<|xU [vI 0,vI 1,vI 0,vI 2] Int ?_;intro b3 hb3;have h11:RL I [vI 0,vI 1,vI 0,vI 2] ([0,1,0,2]:List Int):=⟨[vI 0],_,rfl,rfl,rfl,⟨[vI 1],_,rfl,rfl,rfl,⟨[vI 0],_,rfl,rfl,rfl,⟨[vI 2],_,rfl,rfl,rfl,rfl⟩⟩⟩⟩;refine yJ 0 rfl ?_;intro I03 le3 hl01;have h12:=SL.of_frozen hl01 le3 h11;have h7:=iM le3 h7;have h8:=h8.mono le3;have H:=H.trans le3;refine sU (yD [2,0,1,3] (hs':=[hB r01 (cRd x p3 c3),hO zA (vS p2 Subs c2) cs,hB b2 [vT y1.l,vS p2 Subs c2],hB b [vT ([]),z0]])) ?_;obtain ⟨⟨y4,y5⟩,hy1,N⟩:=zB N;refine tS [hB r01 (cRd x p3 c3)] [hO zA (vS p2 Subs c2) cs,hB b2 [vT y1.l,vS p2 Subs c2],hB b [vT ([]),z0]] (xH x ([0,1,0,2]:List Int) _ hy1 h8 h12) ?_;rintro I04 hs2 v2 k2 le4 - ⟨v02,kk1,rfl,rfl,rfl,h14⟩ -;have h7:=iM le4 h7;have H:=H.trans le4;obtain ⟨p6,c6,rfl,h15⟩:=yE h14;obtain ⟨y6,hy2,N⟩:=zB N;refine xS (vX y4 _ hy2 ) ?_;rintro I05 hs2 v2 k2 le5 - ⟨p7,c7,cs2,rfl,rfl,h16⟩ -;have h15:=h15.mono le5;have h7:=iM le5 h7;have H:=H.trans le5;refine wU [z0,vI 0] ?_;intro b4 hb4;refine xB 0 (cAff y6 p7 c7) [hB b4 (cAff y6 p7 c7),hO Int (vS p7 y6.Coefs c7) cs2,hB r01 (cRd y5 p6 c6),hO zA (vS p2 Subs c2) cs,hB b2 [vT y1.l,vS p2 Subs c2],hB b [vT ([]),z0]] rfl rfl rfl rfl<|yH rfl<|yG<|yI ?_;obtain ⟨o01,ho01,hMc1⟩:=zB N;refine yU (fun I' hs' m'=>∃ (t32:Bool) (x2:zM) (p8:Option Addr) (c8:Nat),o01=(t32,x2)∧I05.le I'∧(S4 I' p8 x2.b c8)∧hs'=[hB b4 (cAff y6 p7 c7),hO Int (vS p7 y6.Coefs c7) cs2,hB r01 (cRd x2 p8 c8),hO zA (vS p2 Subs c2) cs,hB b2 [vT y1.l,vS p2 Subs c2],hB b [vT ([]),z0]]∧m'=[(0,vP r01 0),(1,vI depth),(4,vP b 0),(5,vP b2 0),(6,vI n0),(7,vI i),(8,vP b4 0),(32,.bool t32)]) ?_ ?_
   · have H:=iS I05;refine zP<|yC 3 [] [(28,.bool (decide (depth > 0)))] ?_;cases hc2:(decide (depth > 0)) with
     | true =>
      have hM0:=zS hc2 ho01
      try rw [hc2]
      refine yC 4 [] [(29,vP r01 0)]<|sU (yD [2,0,1,3,4,5] (hs':=[hB r01 (cRd y5 p6 c6),hB b4 (cAff y6 p7 c7),hO Int (vS p7 y6.Coefs c7) cs2,hO zA (vS p2 Subs c2) cs,hB b2 [vT y1.l,vS p2 Subs c2],hB b [vT ([]),z0]])) ?_;obtain ⟨⟨y8,y9⟩,hy3,N⟩:=zB hM0;refine tS [hB r01 (cRd y5 p6 c6)] [hB b4 (cAff y6 p7 c7),hO Int (vS p7 y6.Coefs c7) cs2,hO zA (vS p2 Subs c2) cs,hB b2 [vT y1.l,vS p2 Subs c2],hB b [vT ([]),z0]] (xQ y5 5 _ hy3 h15) ?_;rintro I07 hs2 v2 k2 le6 - ⟨v04,kk2,rfl,rfl,rfl,h19⟩ -;have H:=H.trans le6;obtain ⟨p9,c9,rfl,h20⟩:=yE h19;exact yB [] [(32,.bool (decide (y8 > 0)))]<|wC (zZ [1,2,0,3,4,5] rfl (by decide))<|yS [(0,vP r01 0),(1,vI depth),(4,vP b 0),(5,vP b2 0),(6,vI n0),(7,vI i),(8,vP b4 0),(32,.bool (decide (y8 > 0)))]<|zW ⟨_,_,_,_,(zC N).symm,H,h20,rfl,rfl⟩
     | false =>
      have hM01:=zQ hc2 ho01
      try rw [hc2]
      exact yB [] [(32,vF)]<|yS [(0,vP r01 0),(1,vI depth),(4,vP b 0),(5,vP b2 0),(6,vI n0),(7,vI i),(8,vP b4 0),(32,vF)]<|zW ⟨_,_,_,_,(zC hM01).symm,H,h15,rfl,rfl⟩
   rintro I06 hs2 m2 ⟨t32,x2,p8,c8,heq1,le7,h17,rfl,rfl⟩;subst o01;have h16:=iM le7 h16;have h7:=iM le7 h7;have H:=H.trans le7;refine zL<|pO 1 rfl ?_;intro I08 le8 hl02;have h21:=SL.of_frozen hl02 le8 h16;have h17:=h17.mono le8;have h7:=iM le8 h7;have H:=H.trans le8;obtain ⟨o02,ho02,hMc2⟩:=zB hMc1;refine yU (fun I' hs' m'=>∃ (x3:zA) (x4:zM) (p10:Option Addr) (c10:Nat) (p11:Option Addr) (c11:Nat),o02=(x3,x4)∧I08.le I'∧(S4 I' p10 x3.Coefs c10)∧(S4 I' p11 x4.b c11)∧hs'=[hB b4 (cAff x3 p10 c10),hB r01 (cRd x4 p11 c11),hO zA (vS p2 Subs c2) cs,hB b2 [vT y1.l,vS p2 Subs c2],hB b [vT ([]),z0]]∧m'=[(0,vP r01 0),(1,vI depth),(4,vP b 0),(5,vP b2 0),(6,vI n0),(7,vI i),(8,vP b4 0)]) ?_ ?_
   · have H:=iS I08;refine yL ho02 ?_ ?_
     · intro hc3 N;refine yK<|yC 2 [] [(33,vP r01 0),(34,vI depth)]<|sU (yD [1,0,2,3,4] (hs':=[hB r01 (cRd x2 p8 c8),hB b4 (cAff y6 p7 c7),hO zA (vS p2 Subs c2) cs,hB b2 [vT y1.l,vS p2 Subs c2],hB b [vT ([]),z0]])) ?_;obtain ⟨⟨y11,y12⟩,hy4,N⟩:=zB N;refine tS [hB r01 (cRd x2 p8 c8)] [hB b4 (cAff y6 p7 c7),hO zA (vS p2 Subs c2) cs,hB b2 [vT y1.l,vS p2 Subs c2],hB b [vT ([]),z0]] (xQ x2 depth _ hy4 h17) ?_;rintro I010 hs2 v2 k2 le9 - ⟨v06,kk3,rfl,rfl,rfl,h25⟩ -;have H:=H.trans le9;obtain ⟨p12,c12,rfl,h26⟩:=yE h25;refine yB [] [(9,vI y11)]<|zL<|zP<|yC 1 [] [(36,vI y11)]<|bE N fun y13 hy5 N=>xS (jA y11 _ hy5 ) ?_;rintro I011 hs2 v2 k2 le10 - ⟨v08,rfl,rfl,⟨cs3,rfl,h27⟩⟩ -;have h26:=h26.mono le10;have H:=H.trans le10;obtain ⟨p13,c13,rfl,h28⟩:=yQ h27;refine yC 3 [] [(38,vP r01 0)]<|xU [vI 1,vI 1,vI 1,vI 2,vI (-1)] Int ?_;intro b5 hb5;have h29:RL I011 [vI 1,vI 1,vI 1,vI 2,vI (-1)] ([1,1,1,2,(-1)]:List Int):=⟨[vI 1],_,rfl,rfl,rfl,⟨[vI 1],_,rfl,rfl,rfl,⟨[vI 1],_,rfl,rfl,rfl,⟨[vI 2],_,rfl,rfl,rfl,⟨[vI (-1)],_,rfl,rfl,rfl,rfl⟩⟩⟩⟩⟩;refine yJ 0 rfl ?_;intro I012 le11 hl03;have h30:=SL.of_frozen hl03 le11 h29;have h28:=h28.mono le11;have h26:=h26.mono le11;have H:=H.trans le11;obtain ⟨⟨y15,y16⟩,hy6,N⟩:=zB N;refine tS [hB r01 (cRd y12 p12 c12)] [hB b4 (cAff y6 p7 c7),hO zA (vS p2 Subs c2) cs,hB b2 [vT y1.l,vS p2 Subs c2],hB b [vT ([]),z0]] (xH y12 ([1,1,1,2,(-1)]:List Int) _ hy6 h26 h30) ?_;rintro I013 hs2 v2 k2 le12 - ⟨v010,kk4,rfl,rfl,rfl,h32⟩ -;have h28:=h28.mono le12;have H:=H.trans le12;obtain ⟨p14,c14,rfl,h33⟩:=yE h32;refine yC 6 [] [(41,vP r01 0)]<|xU [vI 0,vI 1,vI 0,vI 0,vI 2] Int ?_;intro b6 hb6;have h34:RL I013 [vI 0,vI 1,vI 0,vI 0,vI 2] ([0,1,0,0,2]:List Int):=⟨[vI 0],_,rfl,rfl,rfl,⟨[vI 1],_,rfl,rfl,rfl,⟨[vI 0],_,rfl,rfl,rfl,⟨[vI 0],_,rfl,rfl,rfl,⟨[vI 2],_,rfl,rfl,rfl,rfl⟩⟩⟩⟩⟩;refine yJ 0 rfl ?_;intro I014 le13 hl04;have h35:=SL.of_frozen hl04 le13 h34;have h28:=h28.mono le13;have h33:=h33.mono le13;have H:=H.trans le13;obtain ⟨⟨y18,y19⟩,hy7,N⟩:=zB N;refine tS [hB r01 (cRd y16 p14 c14)] [hB b4 (cAff y6 p7 c7),hO zA (vS p2 Subs c2) cs,hB b2 [vT y1.l,vS p2 Subs c2],hB b [vT ([]),z0]] (xH y16 ([0,1,0,0,2]:List Int) _ hy7 h33 h35) ?_;rintro I015 hs2 v2 k2 le14 - ⟨v012,kk5,rfl,rfl,rfl,h37⟩ -;have h28:=h28.mono le14;have H:=H.trans le14;obtain ⟨p15,c15,rfl,h38⟩:=yE h37;obtain ⟨y20,hy8,N⟩:=zB N;refine xS (vX y18 _ hy8 ) ?_;rintro I016 hs2 v2 k2 le15 - ⟨p16,c16,cs4,rfl,rfl,h39⟩ -;have h28:=h28.mono le15;have h38:=h38.mono le15;have H:=H.trans le15;refine yJ 0 rfl ?_;intro I017 le16 hl05;have h40:=SL.of_frozen hl05 le16 h39;have h28:=h28.mono le16;have h38:=h38.mono le16;have H:=H.trans le16;obtain ⟨y21,hy9,N⟩:=zB N;refine xS (eX y13 y15 y20 1 _ hy9 h28 h40) ?_;rintro I018 hs2 v2 k2 le17 - ⟨v014,rfl,rfl,⟨cs5,rfl,h41⟩⟩ -;have h38:=h38.mono le17;have H:=H.trans le17;obtain ⟨p17,c17,rfl,h42⟩:=yQ h41;exact xB 1 (cAff y21 p17 c17) [hB r01 (cRd y19 p15 c15),hB b4 (cAff y21 p17 c17),hO zA (vS p2 Subs c2) cs,hB b2 [vT y1.l,vS p2 Subs c2],hB b [vT ([]),z0]] rfl rfl rfl rfl<|yH rfl<|wC (zZ [1,0,2,3,4] rfl (by decide))<|yS [(0,vP r01 0),(1,vI depth),(4,vP b 0),(5,vP b2 0),(6,vI n0),(7,vI i),(8,vP b4 0)]<|zW ⟨_,_,_,_,_,_,(zC N).symm,H,h42,h38,rfl,rfl⟩
     intro hc3 N;exact zV<|yS [(0,vP r01 0),(1,vI depth),(4,vP b 0),(5,vP b2 0),(6,vI n0),(7,vI i),(8,vP b4 0)]<|zW ⟨_,_,_,_,_,_,(zC N).symm,H,h21,h17,rfl,rfl⟩
   rintro I09 hs2 m2 ⟨x3,x4,p10,c10,p11,c11,heq2,le18,h22,h23,rfl,rfl⟩;subst o02;have h7:=iM le18 h7;have H:=H.trans le18;refine zL<|zP<|yC 3 [3,0] [(47,vS p2 Subs c2),(48,vA (cAff x3 p10 c10))]<|xU (cAff x3 p10 c10) zA ?_;intro b7 hb7;have h43:RL I09 (cAff x3 p10 c10) ([x3]:List zA):=⟨(cAff x3 p10 c10),_,rfl,rfl,(yN ⟨_,rfl,h22⟩),rfl⟩;obtain ⟨l,hy10,N⟩:=zB hMc2;refine qI 44 2 3 rfl rfl rfl h7 (.inr ⟨0,rfl⟩) h43 hy10 ?_;intro p18 c18 cs6 h44;exact sU (yD [1,2,3,4,5] (hs':=[hB b4 (cAff x3 p10 c10),hB r01 (cRd x4 p11 c11),hO zA (vS p18 l c18) cs6,hB b2 [vT y1.l,vS p2 Subs c2],hB b [vT ([]),z0]]))<|yC 6 [] [(51,vP b2 1)]<|xB 3 [vT y1.l,vS p18 l c18] [hB b4 (cAff x3 p10 c10),hB r01 (cRd x4 p11 c11),hO zA (vS p18 l c18) cs6,hB b2 [vT y1.l,vS p18 l c18],hB b [vT ([]),z0]] rfl rfl rfl rfl<|yH rfl<|zR<|zL<|zP<|yB [] [(7,vI (W (i + 1)))]<|yT<|rM (zZ [2,3,1,4] rfl (by decide))<|wN [(0,vP r01 0),(1,vI depth),(4,vP b 0),(5,vP b2 0),(6,vI n0),(7,vI (W (i + 1)))]<|ih (W (i + 1)) l x4 _ N H h44 h23 hg ho hx
 intro hc1 N;exact vD<|yS [(4,vP b 0),(5,vP b2 0)]<|hx _ _ _ _ _ _ _ _ (zC N).symm H h7 h8
def nP (r0:zM) (depth:Int):Option (zI×zM):=do
 let (y1,y2)←rD r0 ([(⟨[65]⟩:Str),(⟨[66]⟩:Str),(⟨[65]⟩:Str),(⟨[67]⟩:Str)]:List Str)
 let n0←(do
   if (y1.l == ([66]:List UInt8)) then
    pure (id 2)
   else
    pure (id 1)
     : Option Int)
 let (Subs1,x1)←qS depth n0 0 ([]:List zA) y2
 pure ((zI.mk y1 Subs1),x1)
theorem zBC:∀ r0 depth r,nP r0 depth=some r→∀ {I:Imm}{r01:Nat}{p c},(S4 I p r0.b c)→RT 172 [vP r01 0,vI depth] I [hB r01 (cRd r0 p c)] (zDb r01 r):=by
 intro r0 depth r N I r01 p c h;unfold nP at N;refine zX (fn:=Tryz.f172) (c:=(bodyOf Tryz.f172)) Tryz.func172 rfl rfl ?_;rintro B - -;have H:=iS I;refine yK<|wU [vT ([]),z0] ?_;intro b hb;refine yH rfl<|xD<|yC 1 [] [(10,vP r01 0)]<|xU [vT ([65]),vT ([66]),vT ([65]),vT ([67])] Str ?_;intro b1 hb1;have h1:RL I [vT ([65]),vT ([66]),vT ([65]),vT ([67])] ([(⟨[65]⟩:Str),(⟨[66]⟩:Str),(⟨[65]⟩:Str),(⟨[67]⟩:Str)]:List Str):=⟨[vT ([65])],_,rfl,rfl,rfl,⟨[vT ([66])],_,rfl,rfl,rfl,⟨[vT ([65])],_,rfl,rfl,rfl,⟨[vT ([67])],_,rfl,rfl,rfl,rfl⟩⟩⟩⟩;refine yJ 0 rfl ?_;intro I0 le hl0;have h2:=SL.of_frozen hl0 le h1;have h:=h.mono le;have H:=H.trans le;refine sU (yD [1,0] (hs':=[hB r01 (cRd r0 p c),hB b [vT ([]),z0]])) ?_;obtain ⟨⟨y1,y2⟩,hy,N⟩:=zB N;refine tS [hB r01 (cRd r0 p c)] [hB b [vT ([]),z0]] (mC r0 ([(⟨[65]⟩:Str),(⟨[66]⟩:Str),(⟨[65]⟩:Str),(⟨[67]⟩:Str)]:List Str) _ hy h h2) ?_;rintro I01 hs2 v2 k2 le1 - ⟨v0,kk,rfl,rfl,rfl,h4⟩ -;have H:=H.trans le1;obtain ⟨p1,c1,rfl,h5⟩:=yE h4;refine yC 4 [] [(13,vA [vT y1.l,z0])]<|wU [vT ([]),z0] ?_;intro b2 hb2;refine xB 0 [vT y1.l,z0] [hB b2 [vT y1.l,z0],hB r01 (cRd y2 p1 c1),hB b [vT ([]),z0]] rfl rfl rfl rfl<|yH rfl<|wW [(6,vI 1)]<|yG<|yK<|yB [0] [(16,.bool (y1.l == ([66]:List UInt8)))]<|zL ?_;obtain ⟨o0,ho0,hMc⟩:=zB N;refine yU (fun I' hs' m'=>∃ (n0:Int),o0=n0∧I01.le I'∧hs'=[hB b2 [vT y1.l,z0],hB r01 (cRd y2 p1 c1),hB b [vT ([]),z0]]∧m'=[(0,vP r01 0),(1,vI depth),(4,vP b 0),(5,vP b2 0),(6,vI n0)]) ?_ ?_
 · have H:=iS I01;refine yL ho0 ?_ ?_
   · intro hc N;exact zP<|yB [] [(6,vI 2)]<|yS [(0,vP r01 0),(1,vI depth),(4,vP b 0),(5,vP b2 0),(6,vI 2)]<|zW (ct N H)
   intro hc N;exact zV<|yS [(0,vP r01 0),(1,vI depth),(4,vP b 0),(5,vP b2 0),(6,vI 1)]<|zW (ct N H)
 rintro I02 hs2 m2 ⟨n0,heq,le2,rfl,rfl⟩;subst o0;have h5:=h5.mono le2;refine yG<|yF [(7,vI 0)]<|wD<|wN [(0,vP r01 0),(1,vI depth),(4,vP b 0),(5,vP b2 0),(6,vI n0),(7,vI 0)]<|rM (wT (Rp.sz zA)) ?_;have h6:RL I02 [] ([]:List zA):=RepL.nil;obtain ⟨o03,ho03,hMl⟩:=zB hMc;refine zCm depth n0 0 ([]:List zA) y2 o03 ho03 iR h6 h5 (fun _ _ _ h=>h) (fun _ _ h=>h) ?_;intro I019 Subs1 x1 p4 c4 cs1 p5 c5 heq3 le19 h9 h10;subst o03;refine zU<|xD<|yC 1 [1] [(52,vA [vT y1.l,vS p4 Subs1 c4])]<|xB 3 [vT y1.l,vS p4 Subs1 c4] [hO zA (vS p4 Subs1 c4) cs1,hB b2 [vT y1.l,vS p4 Subs1 c4],hB r01 (cRd x1 p5 c5),hB b [vT y1.l,vS p4 Subs1 c4]] rfl rfl rfl rfl<|yH rfl<|xP<|xA 0 rfl ?_;intro I020 le20 hl06;have h45:=SL.of_frozen hl06 le20 h9;have h10:=h10.mono le20;obtain rfl:=zC hMl;exact xF ⟨_,_,(.cell 2 rfl rfl (by kernel_rfl) ResV.nil),(zZ [1] rfl (by decide)),⟨_,_,rfl,rfl,⟨_,rfl,(oO ⟨_,rfl,h45⟩)⟩,(yO ⟨_,rfl,h10⟩)⟩⟩
def zDc (b0:Nat) (r:zA×zM):KT:=fun kk I' hs' v=>
  ∃ v0 k0,hs'=[.blk b0 ⟨k0⟩]∧v=tupV [v0]∧(∃ cs,v0=.agg ⟨cs⟩∧Rp.rep I' cs r.1)∧Rp.rep I' k0 r.2
def qT (depth:Int) (i:Int) (Coefs:List Int) (x:zM):Option ((List Int×zM)):=do
 if (decide (i < depth)) then
  let (y5,y6)←yX x ([0,1,0,(-1),2,0,9]:List Int)
  let x2←idx Coefs i
  let l←pure (Coefs.set i.toNat y5)
  qT depth (W (i + 1)) l y6
 else
  pure (Coefs,x)
 partial_fixpoint
theorem zCn (depth:Int):∀ (i:Int) (Coefs:List Int) (x:zM) (o:(List Int×zM)),qT depth i Coefs x=some o→∀ {B}{I0 I:Imm}{Q}{y3:zA}{r01:Nat}{b:Nat}{b2:Nat}{p3 c3 cs1 p4 c4},I0.le I→(RL I cs1 Coefs)→(S4 I p4 x.b c4)→NG Q→NO Q→(∀ (I':Imm) (Coefs1:List Int) (x1:zM) (p5:Option Addr) (c5:Nat) (cs2:List Value) (p6:Option Addr) (c6:Nat),o=(Coefs1,x1)→I0.le I'→(RL I' cs2 Coefs1)→(S4 I' p6 x1.b c6)→T 24 B Q (.exit 0) I' [hB b2 [vS p5 Coefs1 c5,vI y3.Const],hO Int (vS p5 Coefs1 c5) cs2,hB r01 (cRd x1 p6 c6),hB b [z0,vI 0]] [(4,vP b 0),(5,vP b2 0)])→J Tryz.prog 24 B (nav (bodyOf Tryz.f197) [1,1,0,1,0]) Q I [hB b2 [vS p3 Coefs c3,vI y3.Const],hO Int (vS p3 Coefs c3) cs1,hB r01 (cRd x p4 c4),hB b [z0,vI 0]] [(0,vP r01 0),(1,vI depth),(4,vP b 0),(5,vP b2 0),(6,vI i)]:=by
 refine qT.partial_correctness depth _ fun self ih i Coefs x o N B I0 I Q y3 r01 b b2 p3 c3 cs1 p4 c4 H h7 h8 hg ho hx=>yW hg ho<|yI<|yF [(13,.bool (decide (i < depth)))]<|zL<|yL N ?_ ?_
 · intro hc N;refine zV<|yG<|yM ?_;obtain ⟨⟨y5,y6⟩,hy2,N⟩:=zB N;refine vC [.p (vP b2 0) [],.p (vS p3 Coefs c3) [0],.p (vI i) [],.p (vP r01 0) [],.x (fun I' v hx=>∃ b3,v=vS (some ⟨b3,0,none⟩) ([0,1,0,(-1),2,0,9]:List Int) 7∧hx=[]∧(SL I' (vS (some ⟨b3,0,none⟩) ([0,1,0,(-1),2,0,9]:List Int) 7) ([0,1,0,(-1),2,0,9]:List Int))),.x (fun I' v hx=>∃ p7 c7,v=vI y5∧hx=[hB r01 (cRd y6 p7 c7)]∧(S4 I' p7 y6.b c7))] [[],[(0,false)],[],[],[],[(3,false),(4,false),(8,true)]] [hB b2 [vS p3 Coefs c3,vI y3.Const],hO Int (vS p3 Coefs c3) cs1,hB b [z0,vI 0]] [[hB r01 (cRd x p4 c4)]] [(1,false),(2,false),(5,true)] (yD [0,1,3,2]) ?_ ?_
   · refine Op<|Op<|Op<|Op<|Ox ?_<|Ox ?_<|On
     · intro I1 hf le1;refine yR [] ?_;have H:=iS I1;refine xU [vI 0,vI 1,vI 0,vI (-1),vI 2,vI 0,vI 9] Int ?_;intro b3 hb3;have h11:RL I1 [vI 0,vI 1,vI 0,vI (-1),vI 2,vI 0,vI 9] ([0,1,0,(-1),2,0,9]:List Int):=⟨[vI 0],_,rfl,rfl,rfl,⟨[vI 1],_,rfl,rfl,rfl,⟨[vI 0],_,rfl,rfl,rfl,⟨[vI (-1)],_,rfl,rfl,rfl,⟨[vI 2],_,rfl,rfl,rfl,⟨[vI 0],_,rfl,rfl,rfl,⟨[vI 9],_,rfl,rfl,rfl,rfl⟩⟩⟩⟩⟩⟩⟩;refine yJ 0 rfl ?_;intro I03 le3 hl01;have h12:=SL.of_frozen hl01 le3 h11;have H:=H.trans le3;exact yP [] H ⟨_,rfl,rfl,h12⟩
     intro I1 hf le1;refine zF ?_;rintro _ _ ⟨rfl,rfl⟩;refine zF ?_;rintro _ _ ⟨b3,rfl,rfl,h12⟩;refine zF ?_;rintro _ _ rfl;refine yR [(19,vP r01 0),(20,vS (some ⟨b3,0,none⟩) ([0,1,0,(-1),2,0,9]:List Int) 7)] ?_;have H:=iS I1;have h8:=h8.mono le1;refine tS [hB r01 (cRd x p4 c4)] (hB b2 [vS p3 Coefs c3,vI y3.Const]::hO Int (vS p3 Coefs c3) cs1::hB b [z0,vI 0]::hf) (xH x ([0,1,0,(-1),2,0,9]:List Int) _ hy2 h8 h12) ?_;rintro I04 hs2 v2 k2 le4 - ⟨v02,kk1,rfl,rfl,rfl,h14⟩ -;have H:=H.trans le4;obtain ⟨p7,c7,rfl,h15⟩:=yE h14;exact yP [hB r01 (cRd y6 p7 c7)] H ⟨_,_,rfl,rfl,h15⟩
   intro I05 le5;refine zF ?_;rintro _ _ ⟨rfl,rfl⟩;refine zF ?_;rintro _ _ ⟨rfl,rfl⟩;refine zF ?_;rintro _ _ ⟨p7,c7,rfl,rfl,h15⟩;refine yR [(0,vP r01 0),(1,vI depth),(4,vP b 0),(5,vP b2 0),(6,vI i),(17,vS p3 Coefs c3),(18,vI i),(21,vI y5)] ?_;have h7:=iM le5 h7;have H:=H.trans le5;obtain ⟨x2,hy3,N⟩:=zB N;refine oU 2 rfl rfl rfl h7 hy3 ?_;intro ad ccs hat hcc hrep;obtain rfl:=hrep;obtain ⟨l,hy4,N⟩:=zB N;refine tT (c:=[vI y5]) (x':=y5) 2 0 rfl rfl rfl hat rfl rfl hcc (by kernel_rfl) (by kernel_rfl) (by kernel_rfl) h7 hy3 (by kernel_rfl) rfl ?_;rw [show Coefs.set i.toNat y5=l from zC hy4];intro cs3 h16 hl02;exact mA (m':=[(0,vP r01 0),(1,vI depth),(4,vP b 0),(5,vP b2 0),(6,vI i),(17,vS p3 Coefs c3),(18,vI i),(21,vI y5)]) ⟨rfl,rfl,rfl,rfl,rfl,rfl,rfl,rfl,trivial⟩<|dE (hs':=[hB r01 (cRd y6 p7 c7),hB b2 [vS p3 l c3,vI y3.Const],hO Int (vS p3 l c3) cs3,hB b [z0,vI 0]]) (m':=[(0,vP r01 0),(1,vI depth),(4,vP b 0),(5,vP b2 0),(6,vI i),(17,vS p3 l c3),(18,vI i),(21,vI y5)]) (by first | rfl | simp only [vS,hl02,List.nil_append,List.cons_append,List.set_cons_zero,List.set_cons_succ,List.eraseIdx_cons_zero,List.eraseIdx_cons_succ]) (by first | rfl | simp only [vS,hl02])<|yH rfl<|zR<|zL<|zP<|yB [] [(6,vI (W (i + 1)))]<|yT<|rM (zZ [1,2,0,3] rfl (by decide))<|wN [(0,vP r01 0),(1,vI depth),(4,vP b 0),(5,vP b2 0),(6,vI (W (i + 1)))]<|ih (W (i + 1)) l y6 _ N H h16 h15 hg ho hx
 intro hc N;exact vD<|yS [(4,vP b 0),(5,vP b2 0)]<|hx _ _ _ _ _ _ _ _ (zC N).symm H h7 h8
def kF (r0:zM) (depth:Int):Option (zA×zM):=do
 let (y1,y2)←yX r0 ([0,1,(-1),2,0,5,(-9),99]:List Int)
 let y3←wK y1
 let (Coefs1,x1)←qT depth 0 y3.Coefs y2
 pure ((zA.mk Coefs1 y3.Const),x1)
theorem zEw:∀ r0 depth r,kF r0 depth=some r→∀ {I:Imm}{r01:Nat}{p c},(S4 I p r0.b c)→RT 197 [vP r01 0,vI depth] I [hB r01 (cRd r0 p c)] (zDc r01 r):=by
 intro r0 depth r N I r01 p c h;unfold kF at N;refine zX (fn:=Tryz.f197) (c:=(bodyOf Tryz.f197)) Tryz.func197 rfl rfl ?_;rintro B - -;refine yK<|wU [z0,vI 0] ?_;intro b hb;refine yH rfl<|xD<|yC 1 [] [(7,vP r01 0)]<|xU [vI 0,vI 1,vI (-1),vI 2,vI 0,vI 5,vI (-9),vI 99] Int ?_;intro b1 hb1;have h1:RL I [vI 0,vI 1,vI (-1),vI 2,vI 0,vI 5,vI (-9),vI 99] ([0,1,(-1),2,0,5,(-9),99]:List Int):=⟨[vI 0],_,rfl,rfl,rfl,⟨[vI 1],_,rfl,rfl,rfl,⟨[vI (-1)],_,rfl,rfl,rfl,⟨[vI 2],_,rfl,rfl,rfl,⟨[vI 0],_,rfl,rfl,rfl,⟨[vI 5],_,rfl,rfl,rfl,⟨[vI (-9)],_,rfl,rfl,rfl,⟨[vI 99],_,rfl,rfl,rfl,rfl⟩⟩⟩⟩⟩⟩⟩⟩;refine yJ 0 rfl ?_;intro I0 le hl0;have h2:=SL.of_frozen hl0 le h1;have h:=h.mono le;refine sU (yD [1,0] (hs':=[hB r01 (cRd r0 p c),hB b [z0,vI 0]])) ?_;obtain ⟨⟨y1,y2⟩,hy,N⟩:=zB N;refine tS [hB r01 (cRd r0 p c)] [hB b [z0,vI 0]] (xH r0 ([0,1,(-1),2,0,5,(-9),99]:List Int) _ hy h h2) ?_;rintro I01 hs2 v2 k2 le1 - ⟨v0,kk,rfl,rfl,rfl,h4⟩ -;obtain ⟨p1,c1,rfl,h5⟩:=yE h4;obtain ⟨y3,hy1,N⟩:=zB N;refine xS (vX y1 _ hy1 ) ?_;rintro I02 hs2 v2 k2 le2 - ⟨p2,c2,cs,rfl,rfl,h6⟩ -;have h5:=h5.mono le2;refine wU [z0,vI 0] ?_;intro b2 hb2;refine xB 0 (cAff y3 p2 c2) [hB b2 (cAff y3 p2 c2),hO Int (vS p2 y3.Coefs c2) cs,hB r01 (cRd y2 p1 c1),hB b [z0,vI 0]] rfl rfl rfl rfl<|yH rfl<|yG<|yF [(6,vI 0)]<|wD<|wN [(0,vP r01 0),(1,vI depth),(4,vP b 0),(5,vP b2 0),(6,vI 0)] ?_;obtain ⟨o0,ho0,hMl⟩:=zB N;refine zCn depth 0 y3.Coefs y2 o0 ho0 iR h6 h5 (fun _ _ _ h=>h) (fun _ _ h=>h) ?_;intro I06 Coefs1 x1 p5 c5 cs2 p6 c6 heq le6 h9 h10;subst o0;refine zU<|xD<|yC 1 [0] [(23,vA [vS p5 Coefs1 c5,vI y3.Const])]<|xB 3 [vS p5 Coefs1 c5,vI y3.Const] [hB b2 [vS p5 Coefs1 c5,vI y3.Const],hO Int (vS p5 Coefs1 c5) cs2,hB r01 (cRd x1 p6 c6),hB b [vS p5 Coefs1 c5,vI y3.Const]] rfl rfl rfl rfl<|yH rfl<|xP<|xA 1 rfl ?_;intro I07 le7 hl03;have h17:=SL.of_frozen hl03 le7 h9;have h10:=h10.mono le7;obtain rfl:=zC hMl;exact xF ⟨_,_,(.cell 2 rfl rfl (by kernel_rfl) ResV.nil),(zZ [1] rfl (by decide)),⟨_,_,rfl,rfl,⟨_,rfl,(yN ⟨_,rfl,h17⟩)⟩,(yO ⟨_,rfl,h10⟩)⟩⟩
def eY (b0:Nat) (r:zG×zM):KT:=fun kk I' hs' v=>
  ∃ v0 k0,hs'=[.blk b0 ⟨k0⟩]∧v=tupV [v0]∧(∃ cs,v0=.agg ⟨cs⟩∧Rp.rep I' cs r.1)∧Rp.rep I' k0 r.2
mutual
def rY (r0:zM) (depth:Int) (levels:Int):Option (zG×zM):=do
 let (t15,x)←(do
   if (decide (levels < 2)) then
    pure (true,r0)
   else
    let (y1,y2)←yV r0 4
    pure ((y1 == 0),y2)
     : Option (Bool×zM))
 if t15 then
  let (y4,y5)←yV x 4
  if (y4 == 0) then
   let (y7,y8)←yX y5 ([1,2,0,99,3]:List Int)
   pure ((zG.mk 1 y7 (zA.mk ([]:List Int) 0) (zI.mk (⟨[]⟩:Str) ([]:List zA)) ([]:List zG)),y8)
  else
   if (y4 == 1) then
    let (y10,y11)←kF y5 depth
    pure ((zG.mk 2 0 y10 (zI.mk (⟨[]⟩:Str) ([]:List zA)) ([]:List zG)),y11)
   else
    let (y13,y14)←nP y5 depth
    pure ((zG.mk 3 0 (zA.mk ([]:List Int) 0) y13 ([]:List zG)),y14)
 else
  let (y16,y17)←yX x ([4,6,5,4]:List Int)
  let (Kids1,x2)←pU (same depth) (same levels) (same 0) ([]:List zG) (same y17)
  pure ((zG.mk y16 0 (zA.mk ([]:List Int) 0) (zI.mk (⟨[]⟩:Str) ([]:List zA)) Kids1),x2)
 partial_fixpoint
def pU (depth:Int) (levels:Int) (i:Int) (Kids:List zG) (x1:zM):Option ((List zG×zM)):=do
 if (decide (i < 2)) then
  let (y19,y20)←rY (same x1) (same depth) (W (levels - 1))
  let l←app 112 Kids ([y19]:List zG)
  pU (same depth) (same levels) (W (i + 1)) (same l) (same y20)
 else
  pure (Kids,x1)
 partial_fixpoint
end
theorem zDd:(∀ (r0:zM) (depth:Int) (levels:Int) r,rY r0 depth levels=some r→∀ {I:Imm}{r01:Nat}{p c},(S4 I p r0.b c)→RT 173 [vP r01 0,vI depth,vI levels] I [hB r01 (cRd r0 p c)] (eY r01 r))∧(∀ (depth:Int) (levels:Int) (i:Int) (Kids:List zG) (x1:zM) o,pU depth levels i Kids x1=some o→∀ {B}{I0 I:Imm}{Q}{y16:Int}{r01:Nat}{b:Nat}{b3:Nat}{p10 c10 cs2 p11 c11},I0.le I→(RL I cs2 Kids)→(S4 I p11 x1.b c11)→NG Q→NO Q→(∀ (I':Imm) (Kids1:List zG) (x2:zM) (p12:Option Addr) (c12:Nat) (cs3:List Value) (p13:Option Addr) (c13:Nat),o=(Kids1,x2)→I0.le I'→(RL I' cs3 Kids1)→(S4 I' p13 x2.b c13)→T 53 B Q (.exit 1) I' [hO zG (vS p12 Kids1 c12) cs3,hB b3 [vI y16,vI 0,z0,vI 0,vT ([]),z0,vS p12 Kids1 c12],hB r01 (cRd x2 p13 c13),hB b zExpr] [(6,vP b 0),(7,vP b3 0)])→J Tryz.prog 53 B (nav (bodyOf Tryz.f173) [1,1,1,0,1,0]) Q I [hO zG (vS p10 Kids c10) cs2,hB b3 [vI y16,vI 0,z0,vI 0,vT ([]),z0,vS p10 Kids c10],hB r01 (cRd x1 p11 c11),hB b zExpr] [(0,vP r01 0),(1,vI depth),(2,vI levels),(6,vP b 0),(7,vP b3 0),(8,vI i)]):=by
  refine rY.mutual_partial_correctness _ _ ?_ ?_
  · intro F_spec_l3Value_l1 ih_spec_l3Value_l1 r0 depth levels r N I r01 p c h;refine zX (fn:=Tryz.f173) (c:=(bodyOf Tryz.f173)) Tryz.func173 rfl rfl ?_;rintro B - -;have H:=iS I;refine yK<|wU zExpr ?_;intro b hb;refine yH rfl<|yG<|yI ?_;obtain ⟨o0,ho0,hMc⟩:=zB N;refine yU (fun I' hs' m'=>∃ (t15:Bool) (x:zM) (p1:Option Addr) (c1:Nat),o0=(t15,x)∧I.le I'∧(S4 I' p1 x.b c1)∧hs'=[hB b zExpr,hB r01 (cRd x p1 c1)]∧m'=[(0,vP r01 0),(1,vI depth),(2,vI levels),(6,vP b 0),(15,.bool t15)]) ?_ ?_
    · have H:=iS I;refine zP<|yC 3 [] [(11,.bool (decide (levels < 2)))] ?_;cases hc:(decide (levels < 2)) with
      | true =>
       have hM0:=zS hc ho0
       try rw [hc]
       exact yB [] [(15,vY)]<|yS [(0,vP r01 0),(1,vI depth),(2,vI levels),(6,vP b 0),(15,vY)]<|zW ⟨_,_,_,_,(zC hM0).symm,H,h,rfl,rfl⟩
      | false =>
       have hM01:=zQ hc ho0
       try rw [hc]
       refine yC 4 [] [(12,vP r01 0)]<|sU (yD [1,0] (hs':=[hB r01 (cRd r0 p c),hB b zExpr])) ?_;obtain ⟨⟨y1,y2⟩,hy,N⟩:=zB hM01;refine tS [hB r01 (cRd r0 p c)] [hB b zExpr] (xQ r0 4 _ hy h) ?_;rintro I01 hs2 v2 k2 le - ⟨v0,kk,rfl,rfl,rfl,h3⟩ -;have H:=H.trans le;obtain ⟨p2,c2,rfl,h4⟩:=yE h3;exact yB [] [(15,.bool (y1 == 0))]<|wC (zZ [1,0] rfl (by decide))<|yS [(0,vP r01 0),(1,vI depth),(2,vI levels),(6,vP b 0),(15,.bool (y1 == 0))]<|zW ⟨_,_,_,_,(zC N).symm,H,h4,rfl,rfl⟩
    rintro I0 hs2 m2 ⟨t15,x,p1,c1,heq,le1,h1,rfl,rfl⟩;subst o0;refine zL<|yL hMc ?_ ?_
    · intro hc1 N;refine yI<|yK<|yC 1 [] [(16,vP r01 0)]<|sU (yD [1,0] (hs':=[hB r01 (cRd x p1 c1),hB b zExpr])) ?_;obtain ⟨⟨y4,y5⟩,hy1,N⟩:=zB N;refine tS [hB r01 (cRd x p1 c1)] [hB b zExpr] (xQ x 4 _ hy1 h1) ?_;rintro I02 hs2 v2 k2 le2 - ⟨v02,kk1,rfl,rfl,rfl,h6⟩ -;obtain ⟨p3,c3,rfl,h7⟩:=yE h6;refine yH rfl<|wD<|yF [(18,.bool (y4 == 0))]<|zL<|yL N ?_ ?_
      · intro hc2 N;refine yK<|yC 1 [] [(20,vP r01 0)]<|xU [vI 1,vI 2,vI 0,vI 99,vI 3] Int ?_;intro b1 hb1;have h8:RL I02 [vI 1,vI 2,vI 0,vI 99,vI 3] ([1,2,0,99,3]:List Int):=⟨[vI 1],_,rfl,rfl,rfl,⟨[vI 2],_,rfl,rfl,rfl,⟨[vI 0],_,rfl,rfl,rfl,⟨[vI 99],_,rfl,rfl,rfl,⟨[vI 3],_,rfl,rfl,rfl,rfl⟩⟩⟩⟩⟩;refine yJ 0 rfl ?_;intro I03 le3 hl0;have h9:=SL.of_frozen hl0 le3 h8;have h7:=h7.mono le3;obtain ⟨⟨y7,y8⟩,hy2,N⟩:=zB N;refine tS [hB r01 (cRd y5 p3 c3)] [hB b zExpr] (xH y5 ([1,2,0,99,3]:List Int) _ hy2 h7 h9) ?_;rintro I04 hs2 v2 k2 le4 - ⟨v04,kk2,rfl,rfl,rfl,h11⟩ -;obtain ⟨p4,c4,rfl,h12⟩:=yE h11;refine yC 4 [] [(23,vA [vI 1,vI y7,z0,vI 0,vT ([]),z0,z0])]<|xB 1 [vI 1,vI y7,z0,vI 0,vT ([]),z0,z0] [hB r01 (cRd y8 p4 c4),hB b [vI 1,vI y7,z0,vI 0,vT ([]),z0,z0]] rfl rfl rfl rfl<|yH rfl<|xP<|yA<|zN<|zN ?_;obtain rfl:=zC N;exact xF ⟨_,_,(.cell 1 rfl rfl (by kernel_rfl) ResV.nil),(zZ [0] rfl (by decide)),⟨_,_,rfl,rfl,⟨_,rfl,(xV ⟨_,_,_,rfl,(SL.nil _),(SL.nil _),(SL.nil _)⟩)⟩,(yO ⟨_,rfl,h12⟩)⟩⟩
      intro hc2 N;refine yF [(24,.bool (y4 == 1))]<|zL<|yL N ?_ ?_
      · intro hc3 N;refine yK<|yC 2 [] [(26,vP r01 0),(27,vI depth)] ?_;obtain ⟨⟨y10,y11⟩,hy3,N⟩:=zB N;refine tS [hB r01 (cRd y5 p3 c3)] [hB b zExpr] (zEw y5 depth _ hy3 h7) ?_;rintro I05 hs2 v2 k2 le5 - ⟨v06,kk3,rfl,rfl,⟨cs,rfl,h13⟩,h14⟩ -;obtain ⟨p5,c5,rfl,h15⟩:=yQ h13;obtain ⟨p6,c6,rfl,h16⟩:=yE h14;refine yC 4 [] [(29,vA [vI 2,vI 0,vS p5 y10.Coefs c5,vI y10.Const,vT ([]),z0,z0])]<|xB 1 [vI 2,vI 0,vS p5 y10.Coefs c5,vI y10.Const,vT ([]),z0,z0] [hB r01 (cRd y11 p6 c6),hB b [vI 2,vI 0,vS p5 y10.Coefs c5,vI y10.Const,vT ([]),z0,z0]] rfl rfl rfl rfl<|yH rfl<|xP<|yA<|zN<|zN ?_;obtain rfl:=zC N;exact xF ⟨_,_,(.cell 1 rfl rfl (by kernel_rfl) ResV.nil),(zZ [0] rfl (by decide)),⟨_,_,rfl,rfl,⟨_,rfl,(xV ⟨_,_,_,rfl,h15,(SL.nil _),(SL.nil _)⟩)⟩,(yO ⟨_,rfl,h16⟩)⟩⟩
      intro hc3 N;refine zV<|zR<|xD<|yC 2 [] [(30,vP r01 0),(31,vI depth)] ?_;obtain ⟨⟨y13,y14⟩,hy4,N⟩:=zB N;refine tS [hB r01 (cRd y5 p3 c3)] [hB b zExpr] (zBC y5 depth _ hy4 h7) ?_;rintro I06 hs2 v2 k2 le6 - ⟨v09,kk4,rfl,rfl,⟨cs1,rfl,h17⟩,h18⟩ -;obtain ⟨p7,c7,rfl,h19⟩:=pP h17;obtain ⟨p8,c8,rfl,h20⟩:=yE h18;refine yC 4 [] [(33,vA [vI 3,vI 0,z0,vI 0,vT y13.Array.l,vS p7 y13.Subs c7,z0])]<|xB 1 [vI 3,vI 0,z0,vI 0,vT y13.Array.l,vS p7 y13.Subs c7,z0] [hB r01 (cRd y14 p8 c8),hB b [vI 3,vI 0,z0,vI 0,vT y13.Array.l,vS p7 y13.Subs c7,z0]] rfl rfl rfl rfl<|yH rfl<|xP<|zN ?_;obtain rfl:=zC N;exact xF ⟨_,_,(.cell 1 rfl rfl (by kernel_rfl) ResV.nil),(zZ [0] rfl (by decide)),⟨_,_,rfl,rfl,⟨_,rfl,(xV ⟨_,_,_,rfl,(SL.nil _),h19,(SL.nil _)⟩)⟩,(yO ⟨_,rfl,h20⟩)⟩⟩
    intro hc1 N;refine zV<|xD<|yC 1 [] [(34,vP r01 0)]<|xU [vI 4,vI 6,vI 5,vI 4] Int ?_;intro b2 hb2;have h21:RL I0 [vI 4,vI 6,vI 5,vI 4] ([4,6,5,4]:List Int):=⟨[vI 4],_,rfl,rfl,rfl,⟨[vI 6],_,rfl,rfl,rfl,⟨[vI 5],_,rfl,rfl,rfl,⟨[vI 4],_,rfl,rfl,rfl,rfl⟩⟩⟩⟩;refine yJ 0 rfl ?_;intro I07 le7 hl01;have h22:=SL.of_frozen hl01 le7 h21;have h1:=h1.mono le7;refine sU (yD [1,0] (hs':=[hB r01 (cRd x p1 c1),hB b zExpr])) ?_;obtain ⟨⟨y16,y17⟩,hy5,N⟩:=zB N;refine tS [hB r01 (cRd x p1 c1)] [hB b zExpr] (xH x ([4,6,5,4]:List Int) _ hy5 h1 h22) ?_;rintro I08 hs2 v2 k2 le8 - ⟨v012,kk5,rfl,rfl,rfl,h24⟩ -;obtain ⟨p9,c9,rfl,h25⟩:=yE h24;refine yC 4 [] [(37,vA [vI y16,vI 0,z0,vI 0,vT ([]),z0,z0])]<|wU zExpr ?_;intro b3 hb3;refine xB 0 [vI y16,vI 0,z0,vI 0,vT ([]),z0,z0] [hB b3 [vI y16,vI 0,z0,vI 0,vT ([]),z0,z0],hB r01 (cRd y17 p9 c9),hB b zExpr] rfl rfl rfl rfl<|yH rfl<|yG<|yF [(8,vI 0)]<|wD<|wN [(0,vP r01 0),(1,vI depth),(2,vI levels),(6,vP b 0),(7,vP b3 0),(8,vI 0)]<|rM (wT (Rp.sz zG)) ?_;have h26:RL I08 [] ([]:List zG):=RepL.nil;obtain ⟨o01,ho01,hMl⟩:=zB N;refine ih_spec_l3Value_l1 depth levels 0 ([]:List zG) y17 o01 ho01 iR h26 h25 (fun _ _ _ h=>h) (fun _ _ h=>h) ?_;intro I012 Kids1 x2 p12 c12 cs3 p13 c13 heq1 le12 h29 h30;subst o01;refine zU<|xD<|yC 1 [1] [(52,vA [vI y16,vI 0,z0,vI 0,vT ([]),z0,vS p12 Kids1 c12])]<|xB 3 [vI y16,vI 0,z0,vI 0,vT ([]),z0,vS p12 Kids1 c12] [hO zG (vS p12 Kids1 c12) cs3,hB b3 [vI y16,vI 0,z0,vI 0,vT ([]),z0,vS p12 Kids1 c12],hB r01 (cRd x2 p13 c13),hB b [vI y16,vI 0,z0,vI 0,vT ([]),z0,vS p12 Kids1 c12]] rfl rfl rfl rfl<|yH rfl<|xP<|xA 0 rfl ?_;intro I013 le13 hl03;have h40:=SL.of_frozen hl03 le13 h29;have h30:=h30.mono le13;obtain rfl:=zC hMl;exact xF ⟨_,_,(.cell 2 rfl rfl (by kernel_rfl) ResV.nil),(zZ [1] rfl (by decide)),⟨_,_,rfl,rfl,⟨_,rfl,(xV ⟨_,_,_,rfl,(SL.nil _),(SL.nil _),h40⟩)⟩,(yO ⟨_,rfl,h30⟩)⟩⟩
  intro F_spec_l3Value F_spec_l3Value_l1 ih_spec_l3Value ih_spec_l3Value_l1 depth levels i Kids x1 o N B I0 I Q y16 r01 b b3 p10 c10 cs2 p11 c11 H h27 h28 hg ho hx;refine yW hg ho<|yI<|yF [(39,.bool (decide (i < 2)))]<|zL<|yL N ?_ ?_
  · intro hc4 N;refine zV<|yG<|yM ?_;obtain ⟨⟨y19,y20⟩,hy6,N⟩:=zB N;obtain ⟨l,hy7,N⟩:=zB N;refine vC [.p (vP b3 6) [],.p (vS p10 Kids c10) [0],.p (vP r01 0) [],.p (vI depth) [],.p (vI levels) [],.p (vI (W (levels - 1))) [],.x (fun I' v hx=>∃ p14 c14 p15 c15 p16 c16 p17 c17,v=vA (cExpr y19 p14 c14 p15 c15 p16 c16)∧hx=[hB r01 (cRd y20 p17 c17)]∧(S4 I' p14 y19.Index.Coefs c14)∧(S4 I' p15 y19.Read.Subs c15)∧(S4 I' p16 y19.Kids c16)∧(S4 I' p17 y20.b c17)),.x (fun I' v hx=>∃ b4,v=vS (some ⟨b4,0,none⟩) ([y19]:List zG) 1∧hx=[]∧(SL I' (vS (some ⟨b4,0,none⟩) ([y19]:List zG) 1) ([y19]:List zG))),.x (fun I' v hx=>∃ p18 c18 cs5,v=vS p18 l c18∧hx=[hO zG (vS p18 l c18) cs5]∧(RL I' cs5 l))] [[],[(0,false)],[],[],[],[(4,false)],[(2,false),(3,false),(5,false),(11,true)],[(6,false)],[(1,false),(7,false),(12,true)]] [hB b3 [vI y16,vI 0,z0,vI 0,vT ([]),z0,vS p10 Kids c10],hB b zExpr] [[hB r01 (cRd x1 p11 c11)],[hO zG (vS p10 Kids c10) cs2]] [(6,true),(8,true)] (yD [1,3,2,0]) ?_ ?_
    · refine Op<|Op<|Op<|Op<|Op<|Op<|Ox ?_<|Ox ?_<|Ox ?_<|On
      · intro I1 hf le1;refine zF ?_;rintro _ _ ⟨rfl,rfl⟩;refine zF ?_;rintro _ _ ⟨rfl,rfl⟩;refine zF ?_;rintro _ _ ⟨rfl,rfl⟩;refine zF ?_;rintro _ _ rfl;refine yR [(44,vP r01 0),(45,vI depth),(47,vI (W (levels - 1)))] ?_;have H:=iS I1;have h28:=h28.mono le1;refine tS [hB r01 (cRd x1 p11 c11)] (hB b3 [vI y16,vI 0,z0,vI 0,vT ([]),z0,vS p10 Kids c10]::hB b zExpr::hf) (ih_spec_l3Value x1 depth (W (levels - 1)) _ hy6 h28) ?_;rintro I09 hs2 v2 k2 le9 - ⟨v014,kk6,rfl,rfl,⟨cs4,rfl,h31⟩,h32⟩ -;have H:=H.trans le9;obtain ⟨p14,c14,p15,c15,p16,c16,rfl,h33,h34,h35⟩:=uU h31;obtain ⟨p17,c17,rfl,h36⟩:=yE h32;exact yP [hB r01 (cRd y20 p17 c17)] H ⟨_,_,_,_,_,_,_,_,rfl,rfl,h33,h34,h35,h36⟩
      · intro I1 hf le1;refine zF ?_;rintro _ _ ⟨p14,c14,p15,c15,p16,c16,p17,c17,rfl,rfl,h33,h34,h35,h36⟩;refine yR [(48,vA (cExpr y19 p14 c14 p15 c15 p16 c16))] ?_;have H:=iS I1;refine xU (cExpr y19 p14 c14 p15 c15 p16 c16) zG ?_;intro b4 hb4;have h37:RL I1 (cExpr y19 p14 c14 p15 c15 p16 c16) ([y19]:List zG):=⟨(cExpr y19 p14 c14 p15 c15 p16 c16),_,rfl,rfl,(xV ⟨_,_,_,rfl,h33,h34,h35⟩),rfl⟩;refine yJ 0 rfl ?_;intro I010 le10 hl02;have h38:=SL.of_frozen hl02 le10 h37;have H:=H.trans le10;exact yP [] H ⟨_,rfl,rfl,h38⟩
      intro I1 hf le1;refine zF ?_;rintro _ _ ⟨rfl,rfl⟩;refine zF ?_;rintro _ _ ⟨b4,rfl,rfl,h38⟩;refine zF ?_;rintro _ _ rfl;refine yR [(43,vS p10 Kids c10),(49,vS (some ⟨b4,0,none⟩) ([y19]:List zG) 1)] ?_;have h27:=iM le1 h27;obtain ⟨ccs,k0,k01⟩:=h38;have h38:SL I1 (vS (some ⟨b4,0,none⟩) ([y19]:List zG) 1) ([y19]:List zG):=⟨_,k0,k01⟩;exact qI 47 7 0 rfl rfl rfl h27 (.inl k0) k01 hy7 fun p18 c18 cs5 h39=>vJ (hs':=(hO zG (vS p18 l c18) cs5::hB b3 [vI y16,vI 0,z0,vI 0,vT ([]),z0,vS p10 Kids c10]::hB b zExpr::hf)) rfl<|yP [hO zG (vS p18 l c18) cs5] iR ⟨_,_,_,rfl,rfl,h39⟩
    intro I011 le11;refine zF ?_;rintro _ _ ⟨p14,c14,p15,c15,p16,c16,p17,c17,rfl,rfl,h33,h34,h35,h36⟩;refine zF ?_;rintro _ _ ⟨p18,c18,cs5,rfl,rfl,h39⟩;refine yR [(0,vP r01 0),(1,vI depth),(2,vI levels),(6,vP b 0),(7,vP b3 0),(8,vI i),(50,vS p18 l c18)] ?_;have H:=H.trans le11;exact yC 10 [] [(51,vP b3 6)]<|xB 2 [vI y16,vI 0,z0,vI 0,vT ([]),z0,vS p18 l c18] [hO zG (vS p18 l c18) cs5,hB r01 (cRd y20 p17 c17),hB b3 [vI y16,vI 0,z0,vI 0,vT ([]),z0,vS p18 l c18],hB b zExpr] rfl rfl rfl rfl<|yH rfl<|zR<|zL<|zP<|yB [] [(8,vI (W (i + 1)))]<|yT<|rM (zZ [0,2,1,3] rfl (by decide))<|wN [(0,vP r01 0),(1,vI depth),(2,vI levels),(6,vP b 0),(7,vP b3 0),(8,vI (W (i + 1)))]<|ih_spec_l3Value_l1 depth levels (W (i + 1)) l y20 _ N H h39 h36 hg ho hx
  intro hc4 N;exact vD<|yS [(6,vP b 0),(7,vP b3 0)]<|hx _ _ _ _ _ _ _ _ (zC N).symm H h27 h28
theorem zEK:∀ r0 depth levels r,rY r0 depth levels=some r→∀ {I:Imm}{r01:Nat}{p c},(S4 I p r0.b c)→RT 173 [vP r01 0,vI depth,vI levels] I [hB r01 (cRd r0 p c)] (eY r01 r):=zDd.1
def zDe (b0:Nat) (r:zJ×zM):KT:=fun kk I' hs' v=>
  ∃ v0 k0,hs'=[.blk b0 ⟨k0⟩]∧v=tupV [v0]∧(∃ cs,v0=.agg ⟨cs⟩∧Rp.rep I' cs r.1)∧Rp.rep I' k0 r.2
def jD (r0:zM) (depth:Int):Option (zJ×zM):=do
 let (y1,y2)←nP r0 depth
 let (y4,y5)←yX y2 ([2,3,1,2]:List Int)
 let (y7,y8)←rY y5 depth y4
 let y9←sH (zJ.mk y1 y7) depth
 if y9 then
  pure ((zJ.mk y1 y7),y8)
 else
  let y10←pI
  pure ((zJ.mk (zI.mk (⟨[65]⟩:Str) ([y10]:List zA)) (zG.mk 1 1 (zA.mk ([]:List Int) 0) (zI.mk (⟨[]⟩:Str) ([]:List zA)) ([]:List zG))),y8)
theorem zEx:∀ r0 depth r,jD r0 depth=some r→∀ {I:Imm}{r01:Nat}{p c},(S4 I p r0.b c)→RT 138 [vP r01 0,vI depth] I [hB r01 (cRd r0 p c)] (zDe r01 r):=by
 intro r0 depth r N I r01 p c h;unfold jD at N;refine zX (fn:=Tryz.f138) (c:=(bodyOf Tryz.f138)) Tryz.func138 rfl rfl ?_;rintro B - -;refine yK<|wU [vT ([]),z0,vI 0,vI 0,z0,vI 0,vT ([]),z0,z0] ?_;intro b hb;refine yH rfl<|xD<|yC 2 [] [(6,vP r01 0),(7,vI depth)]<|sU (yD [1,0] (hs':=[hB r01 (cRd r0 p c),hB b [vT ([]),z0,vI 0,vI 0,z0,vI 0,vT ([]),z0,z0]])) ?_;obtain ⟨⟨y1,y2⟩,hy,N⟩:=zB N;refine tS [hB r01 (cRd r0 p c)] [hB b [vT ([]),z0,vI 0,vI 0,z0,vI 0,vT ([]),z0,z0]] (zBC r0 depth _ hy h) ?_;rintro I0 hs2 v2 k2 le - ⟨v0,kk,rfl,rfl,⟨cs,rfl,h1⟩,h2⟩ -;obtain ⟨p1,c1,rfl,h3⟩:=pP h1;obtain ⟨p2,c2,rfl,h4⟩:=yE h2;refine yC 6 [] [(9,vP r01 0),(10,vI depth),(11,vP r01 0)]<|xU [vI 2,vI 3,vI 1,vI 2] Int ?_;intro b1 hb1;have h5:RL I0 [vI 2,vI 3,vI 1,vI 2] ([2,3,1,2]:List Int):=⟨[vI 2],_,rfl,rfl,rfl,⟨[vI 3],_,rfl,rfl,rfl,⟨[vI 1],_,rfl,rfl,rfl,⟨[vI 2],_,rfl,rfl,rfl,rfl⟩⟩⟩⟩;refine yJ 0 rfl ?_;intro I01 le1 hl0;have h6:=SL.of_frozen hl0 le1 h5;have h3:=h3.mono le1;have h4:=h4.mono le1;obtain ⟨⟨y4,y5⟩,hy1,N⟩:=zB N;refine tS [hB r01 (cRd y2 p2 c2)] [hB b [vT ([]),z0,vI 0,vI 0,z0,vI 0,vT ([]),z0,z0]] (xH y2 ([2,3,1,2]:List Int) _ hy1 h4 h6) ?_;rintro I02 hs2 v2 k2 le2 - ⟨v03,kk1,rfl,rfl,rfl,h8⟩ -;have h3:=h3.mono le2;obtain ⟨p3,c3,rfl,h9⟩:=yE h8;obtain ⟨⟨y7,y8⟩,hy2,N⟩:=zB N;refine tS [hB r01 (cRd y5 p3 c3)] [hB b [vT ([]),z0,vI 0,vI 0,z0,vI 0,vT ([]),z0,z0]] (zEK y5 depth y4 _ hy2 h9) ?_;rintro I03 hs2 v2 k2 le3 - ⟨v05,kk2,rfl,rfl,⟨cs1,rfl,h10⟩,h11⟩ -;have h3:=h3.mono le3;obtain ⟨p4,c4,p5,c5,p6,c6,rfl,h12,h13,h14⟩:=uU h10;obtain ⟨p7,c7,rfl,h15⟩:=yE h11;refine yC 10 [] [(15,vA [vT y1.Array.l,vS p1 y1.Subs c1,vI y7.Kind,vI y7.Num,vS p4 y7.Index.Coefs c4,vI y7.Index.Const,vT y7.Read.Array.l,vS p5 y7.Read.Subs c5,vS p6 y7.Kids c6])]<|wU [vT ([]),z0,vI 0,vI 0,z0,vI 0,vT ([]),z0,z0] ?_;intro b2 hb2;refine xB 0 [vT y1.Array.l,vS p1 y1.Subs c1,vI y7.Kind,vI y7.Num,vS p4 y7.Index.Coefs c4,vI y7.Index.Const,vT y7.Read.Array.l,vS p5 y7.Read.Subs c5,vS p6 y7.Kids c6] [hB b2 [vT y1.Array.l,vS p1 y1.Subs c1,vI y7.Kind,vI y7.Num,vS p4 y7.Index.Coefs c4,vI y7.Index.Const,vT y7.Read.Array.l,vS p5 y7.Read.Subs c5,vS p6 y7.Kids c6],hB r01 (cRd y8 p7 c7),hB b [vT ([]),z0,vI 0,vI 0,z0,vI 0,vT ([]),z0,z0]] rfl rfl rfl rfl<|yH rfl<|yG<|yK<|yC 2 [0] [(16,vA [vT y1.Array.l,vS p1 y1.Subs c1,vI y7.Kind,vI y7.Num,vS p4 y7.Index.Coefs c4,vI y7.Index.Const,vT y7.Read.Array.l,vS p5 y7.Read.Subs c5,vS p6 y7.Kids c6]),(17,vI depth)]<|bE N fun y9 hy3 N=>tQ (jT (zJ.mk y1 y7) depth _ hy3 h3 h12 h13 h14) ?_;intro I04 le4;have h3:=h3.mono le4;have h12:=h12.mono le4;have h13:=h13.mono le4;have h14:=h14.mono le4;have h15:=h15.mono le4;refine yH rfl<|zL<|yL N ?_ ?_
 · intro hc N;refine yK<|yC 1 [0] [(19,vA [vT y1.Array.l,vS p1 y1.Subs c1,vI y7.Kind,vI y7.Num,vS p4 y7.Index.Coefs c4,vI y7.Index.Const,vT y7.Read.Array.l,vS p5 y7.Read.Subs c5,vS p6 y7.Kids c6])]<|xB 2 [vT y1.Array.l,vS p1 y1.Subs c1,vI y7.Kind,vI y7.Num,vS p4 y7.Index.Coefs c4,vI y7.Index.Const,vT y7.Read.Array.l,vS p5 y7.Read.Subs c5,vS p6 y7.Kids c6] [hB b2 [vT y1.Array.l,vS p1 y1.Subs c1,vI y7.Kind,vI y7.Num,vS p4 y7.Index.Coefs c4,vI y7.Index.Const,vT y7.Read.Array.l,vS p5 y7.Read.Subs c5,vS p6 y7.Kids c6],hB r01 (cRd y8 p7 c7),hB b [vT y1.Array.l,vS p1 y1.Subs c1,vI y7.Kind,vI y7.Num,vS p4 y7.Index.Coefs c4,vI y7.Index.Const,vT y7.Read.Array.l,vS p5 y7.Read.Subs c5,vS p6 y7.Kids c6]] rfl rfl rfl rfl<|yH rfl<|xP<|zN ?_;obtain rfl:=zC N;exact xF ⟨_,_,(.cell 2 rfl rfl (by kernel_rfl) ResV.nil),(zZ [1] rfl (by decide)),⟨_,_,rfl,rfl,⟨_,rfl,(wJ ⟨_,_,_,_,rfl,h3,h12,h13,h14⟩)⟩,(yO ⟨_,rfl,h15⟩)⟩⟩
 intro hc N;refine zV<|xD<|bE N fun y10 hy4 N=>xS (mD  _ hy4 ) ?_;rintro I05 hs2 v2 k2 le5 - ⟨p8,c8,cs2,rfl,rfl,h17⟩ -;have h15:=h15.mono le5;refine yJ 0 rfl ?_;intro I06 le6 hl01;have h18:=SL.of_frozen hl01 le6 h17;have h15:=h15.mono le6;refine xU (cAff y10 p8 c8) zA ?_;intro b3 hb3;have h19:RL I06 (cAff y10 p8 c8) ([y10]:List zA):=⟨(cAff y10 p8 c8),_,rfl,rfl,(yN ⟨_,rfl,h18⟩),rfl⟩;refine yC 5 [] [(24,vA [vT ([65]),vS (some ⟨b3,0,none⟩) ([y10]:List zA) 1,vI 1,vI 1,z0,vI 0,vT ([]),z0,z0])]<|xB 3 [vT ([65]),vS (some ⟨b3,0,none⟩) ([y10]:List zA) 1,vI 1,vI 1,z0,vI 0,vT ([]),z0,z0] [hO zA (vS (some ⟨b3,0,none⟩) ([y10]:List zA) 1) (cAff y10 p8 c8),hB b2 [vT y1.Array.l,vS p1 y1.Subs c1,vI y7.Kind,vI y7.Num,vS p4 y7.Index.Coefs c4,vI y7.Index.Const,vT y7.Read.Array.l,vS p5 y7.Read.Subs c5,vS p6 y7.Kids c6],hB r01 (cRd y8 p7 c7),hB b [vT ([65]),vS (some ⟨b3,0,none⟩) ([y10]:List zA) 1,vI 1,vI 1,z0,vI 0,vT ([]),z0,z0]] rfl rfl rfl rfl<|yH rfl<|xP<|xA 0 rfl ?_;intro I07 le7 hl02;have h20:=SL.of_frozen hl02 le7 h19;have h15:=h15.mono le7;obtain rfl:=zC N;exact xF ⟨_,_,(.cell 2 rfl rfl (by kernel_rfl) ResV.nil),(zZ [1] rfl (by decide)),⟨_,_,rfl,rfl,⟨_,rfl,(wJ ⟨_,_,_,_,rfl,h20,(SL.nil _),(SL.nil _),(SL.nil _)⟩)⟩,(yO ⟨_,rfl,h15⟩)⟩⟩
def rZ (s:Str) (end0:UInt8) (i:Int):Option (Out Unit (Int)):=do
 if (decide (i < (s.l.length:Int))) then
  let b←sidx s i
  if ((b.toNat:Int) == (end0.toNat:Int)) then
   pure (.ret i)
  else
   rZ s end0 (W (i + 1))
 else
  pure (.done ())
 partial_fixpoint
theorem zCH (s:Str) (end0:UInt8):∀ (i:Int) (o:Out Unit (Int)),rZ s end0 i=some o→∀ {B}{I0 I:Imm}{Q}  ,I0.le I→NG Q→NO Q→(∀ (I':Imm) ,o=(.done ())→I0.le I'→T 21 B Q (.exit 0) I' [] [])→(∀ r I' hs' m',o=(.ret r)→I0.le I'→RS Tryz.prog Tryz.f198 B (xE  r) I' hs' m'→T 21 B Q .ret I' hs' m')→J Tryz.prog 21 B (nav (bodyOf Tryz.f198) [1,0,1,0]) Q I [] [(0,vT s.l),(2,.int .u8 (end0.toNat:Int)),(7,vI i)]:=by
 refine rZ.partial_correctness s end0 _ fun self ih i o N B I0 I Q H hg ho hx hr=>yW hg ho<|yI<|yF [(12,.bool (decide (i < (s.l.length:Int))))]<|zL<|yL N ?_ ?_
 · intro hc N;refine zV<|yG<|yM<|yK<|yC 2 [] [(15,vT s.l),(16,vI i)]<|bE N fun b hy N=>eE rfl rfl hy<|yB [] [(19,.bool ((b.toNat:Int) == (end0.toNat:Int)))]<|zL<|yL N ?_ ?_
   · intro hc1 N;exact yF [(6,vI i)]<|xP<|yA<|zN<|zN<|hr _ _ _ _ (zC N).symm H ⟨_,_,(.tmp rfl ResV.nil),zT,⟨_,rfl,rfl,rfl⟩⟩
   intro hc1 N;exact zV<|zR<|zL<|zP<|yB [] [(7,vI (W (i + 1)))]<|yT<|wN [(0,vT s.l),(2,.int .u8 (end0.toNat:Int)),(7,vI (W (i + 1)))]<|ih (W (i + 1)) _ N H  hg ho hx hr
 intro hc N;exact vD<|yS []<|hx _  (zC N).symm H
def mF (s:Str) (at0:Int) (end0:UInt8):Option (Int):=do
 match←rZ s end0 at0 with
 | .ret r0=>pure r0
 | .done _ =>
  pure (-1)
theorem zAa:∀ s at0 end0 r,mF s at0 end0=some r→∀ {I:Imm} ,RT 198 [vT s.l,vI at0,.int .u8 (end0.toNat:Int)] I [] (xE  r):=by
 intro s at0 end0 r N I;unfold mF at N;refine zX (fn:=Tryz.f198) (c:=(bodyOf Tryz.f198)) Tryz.func198 rfl rfl ?_;rintro B - -;refine yF []<|yG<|yF [(7,vI at0)]<|wD<|wN [(0,vT s.l),(2,.int .u8 (end0.toNat:Int)),(7,vI at0)] ?_;obtain ⟨o0,ho0,hMl⟩:=zB N;refine zCH s end0 at0 o0 ho0 iR  (fun _ _ _ h=>h) (fun _ _ h=>h) ?_ ?_
 · intro I0  heq le;subst o0;refine zU<|wW [(6,vI (-1))]<|zL<|xG ?_;obtain rfl:=zC hMl;exact uM
 intro r0 I9 hs9 m9 heq9 le9 hrs9;subst heq9;refine yA<|zN ?_;obtain rfl:=zC hMl;exact xF hrs9
def zAA (r:(List Str)):KT:=fun kk I' hs' v=>
  ∃ v0,hs'=[]∧v=tupV [v0]∧SL I' v0 r
def qU (s:Str) (c:UInt8) (out:List Str) (from0:Int) (i:Int):Option (List Str):=do
 if (decide (i ≤ (s.l.length:Int))) then
  let t25←(do
    if (i == (s.l.length:Int)) then
     pure true
    else
     let b1←sidx s i
     pure ((b1.toNat:Int) == (c.toNat:Int))
      : Option Bool)
  let (out2,from01)←(do
    if t25 then
     let s1←sslc s from0 i
     let out3←app 16 out ([s1]:List Str)
     pure (out3,(W (i + 1)))
    else
     pure (out,from0)
      : Option (List Str×Int))
  qU s c out2 from01 (W (i + 1))
 else
  pure (id out)
 partial_fixpoint
theorem zCo (s:Str) (c:UInt8):∀ (out:List Str) (from0:Int) (i:Int) (o:List Str),qU s c out from0 i=some o→∀ {B}{I0 I:Imm}{Q p c1 cs},I0.le I→(RL I cs out)→NG Q→NO Q→(∀ (I':Imm) (out1:List Str) (p1:Option Addr) (c2:Nat) (cs1:List Value),o=out1→I0.le I'→(RL I' cs1 out1)→T 36 B Q (.exit 0) I' [hO Str (vS p1 out1 c2) cs1] [(5,vS p1 out1 c2)])→J Tryz.prog 36 B (nav (bodyOf Tryz.f156) [1,1,1,0,1,0]) Q I [hO Str (vS p out c1) cs] [(0,vT s.l),(1,.int .u8 (c.toNat:Int)),(5,vS p out c1),(6,vI from0),(7,vI i)]:=by
 refine qU.partial_correctness s c _ fun self ih out from0 i o N B I0 I Q p c1 cs H h1 hg ho hx=>yW hg ho<|yI<|yF [(12,.bool (decide (i ≤ (s.l.length:Int))))]<|zL<|yL N ?_ ?_
 · intro hc N;refine zV<|yG<|yM<|yI ?_;obtain ⟨o0,ho0,hMc⟩:=zB N;refine yU (fun I' hs' m'=>∃ (t25:Bool),o0=t25∧I.le I'∧hs'=[hO Str (vS p out c1) cs]∧m'=[(0,vT s.l),(1,.int .u8 (c.toNat:Int)),(5,vS p out c1),(6,vI from0),(7,vI i),(25,.bool t25)]) ?_ ?_
   · have H:=iS I;refine zP<|yC 5 [] [(19,.bool (i == (s.l.length:Int)))] ?_;cases hc1:(i == (s.l.length:Int)) with
     | true =>
      have hM0:=zS hc1 ho0
      try rw [hc1]
      exact yB [] [(25,vY)]<|yS [(0,vT s.l),(1,.int .u8 (c.toNat:Int)),(5,vS p out c1),(6,vI from0),(7,vI i),(25,vY)]<|zW (ct hM0 H)
     | false =>
      have hM01:=zQ hc1 ho0
      try rw [hc1]
      refine yC 7 [] [(20,vT s.l),(21,vI i)] ?_;obtain ⟨b1,hy,N⟩:=zB hM01;exact eE rfl rfl hy<|yB [] [(25,.bool ((b1.toNat:Int) == (c.toNat:Int)))]<|yS [(0,vT s.l),(1,.int .u8 (c.toNat:Int)),(5,vS p out c1),(6,vI from0),(7,vI i),(25,.bool ((b1.toNat:Int) == (c.toNat:Int)))]<|zW (ct N H)
   rintro I0 hs2 m2 ⟨t25,heq,le,rfl,rfl⟩;subst o0;have h1:=iM le h1;have H:=H.trans le;refine zL ?_;obtain ⟨o01,ho01,hMc1⟩:=zB hMc;refine yU (fun I' hs' m'=>∃ (out2:List Str) (from01:Int) (p2:Option Addr) (c3:Nat) (cs2:List Value),o01=(out2,from01)∧I0.le I'∧(RL I' cs2 out2)∧hs'=[hO Str (vS p2 out2 c3) cs2]∧m'=[(0,vT s.l),(1,.int .u8 (c.toNat:Int)),(5,vS p2 out2 c3),(6,vI from01),(7,vI i)]) ?_ ?_
   · have H:=iS I0;refine yL ho01 ?_ ?_
     · intro hc2 N;refine yK<|yC 4 [] [(26,vS p out c1),(27,vT s.l),(28,vI from0),(29,vI i)]<|bE N fun s1 hy1 N=>zF9 rfl hy1<|xU [vT s1.l] Str ?_;intro b2 hb1;have h4:RL I0 [vT s1.l] ([s1]:List Str):=⟨[vT s1.l],_,rfl,rfl,rfl,rfl⟩;obtain ⟨out3,hy2,N⟩:=zB N;exact qI 9 1 1 rfl rfl rfl h1 (.inr ⟨0,rfl⟩) h4 hy2 fun p3 c4 cs3 h5=>sU (yD [1] (hs':=[hO Str (vS p3 out3 c4) cs3]))<|yB [] [(5,vS p3 out3 c4)]<|zL<|zP<|yB [] [(6,vI (W (i + 1)))]<|yS [(0,vT s.l),(1,.int .u8 (c.toNat:Int)),(5,vS p3 out3 c4),(6,vI (W (i + 1))),(7,vI i)]<|zW ⟨_,_,_,_,_,(zC N).symm,H,h5,rfl,rfl⟩
     intro hc2 N;exact zV<|yS [(0,vT s.l),(1,.int .u8 (c.toNat:Int)),(5,vS p out c1),(6,vI from0),(7,vI i)]<|zW ⟨_,_,_,_,_,(zC N).symm,H,h1,rfl,rfl⟩
   rintro I01 hs2 m2 ⟨out2,from01,p2,c3,cs2,heq1,le1,h3,rfl,rfl⟩;subst o01;have H:=H.trans le1;exact zR<|zL<|zP<|yB [] [(7,vI (W (i + 1)))]<|yT<|wN [(0,vT s.l),(1,.int .u8 (c.toNat:Int)),(5,vS p2 out2 c3),(6,vI from01),(7,vI (W (i + 1)))]<|ih out2 from01 (W (i + 1)) _ hMc1 H h3 hg ho hx
 intro hc N;exact vD<|yS [(5,vS p out c1)]<|hx _ _ _ _ _ (zC N).symm H h1
def nQ (s:Str) (c:UInt8):Option ((List Str)):=do
 let out1←qU s c ([]:List Str) 0 0
 pure (id out1)
theorem fW:∀ s c r,nQ s c=some r→∀ {I:Imm} ,RT 156 [vT s.l,.int .u8 (c.toNat:Int)] I [] (zAA  r):=by
 intro s c r N I;unfold nQ at N;refine zX (fn:=Tryz.f156) (c:=(bodyOf Tryz.f156)) Tryz.func156 rfl rfl ?_;rintro B - -;refine yF []<|xD<|xU [] Str ?_;intro b hb;have h:RL I [] ([]:List Str):=rfl;refine yB [] [(5,vS (some ⟨b,0,none⟩) ([]:List Str) 0)]<|wW [(6,vI 0)]<|yG<|yF [(7,vI 0)]<|wD<|wN [(0,vT s.l),(1,.int .u8 (c.toNat:Int)),(5,vS (some ⟨b,0,none⟩) ([]:List Str) 0),(6,vI 0),(7,vI 0)] ?_;obtain ⟨o02,ho02,hMl⟩:=zB N;refine zCo s c ([]:List Str) 0 0 o02 ho02 iR h (fun _ _ _ h=>h) (fun _ _ h=>h) ?_;intro I02 out1 p1 c2 cs1 heq2 le2 h2;subst o02;refine zU<|wW [(4,vS p1 out1 c2)]<|xP<|xA 0 rfl ?_;intro I03 le3 hl0;have h6:=SL.of_frozen hl0 le3 h2;obtain rfl:=zC hMl;exact xF ⟨_,_,(.tmp rfl ResV.nil),zT,⟨_,rfl,rfl,h6⟩⟩
def qV (s1:Str) (n0:Int) (i:Int):Option (Out Int (Int×Bool)):=do
 if (decide (i < (s1.l.length:Int))) then
  let t54←(do
    let b2←sidx s1 i
    if (decide ((b2.toNat:Int) < 48)) then
     pure true
    else
     let b3←sidx s1 i
     pure (decide ((b3.toNat:Int) > 57))
      : Option Bool)
  if t54 then
   pure (.ret (0,false))
  else
   let b4←sidx s1 i
   qV s1 (W ((W (n0 * 10)) + (W (IntKind.u8.wrap ((b4.toNat:Int) - 48))))) (W (i + 1))
 else
  pure (.done n0)
 partial_fixpoint
theorem zCp (s1:Str):∀ (n0:Int) (i:Int) (o:Out Int (Int×Bool)),qV s1 n0 i=some o→∀ {B}{I0 I:Imm}{Q}{neg:Bool} ,I0.le I→NG Q→NO Q→(∀ (I':Imm) (n01:Int),o=(.done n01)→I0.le I'→T 67 B Q (.exit 0) I' [] [(4,.bool neg),(5,vI n01)])→(∀ r I' hs' m',o=(.ret r)→I0.le I'→RS Tryz.prog Tryz.f209 B (mE  r) I' hs' m'→T 67 B Q .ret I' hs' m')→J Tryz.prog 67 B (nav (bodyOf Tryz.f209) [1,1,1,1,1,0,1,0]) Q I [] [(0,vT s1.l),(4,.bool neg),(5,vI n0),(6,vI i)]:=by
 refine qV.partial_correctness s1 _ fun self ih n0 i o N B I0 I Q neg H hg ho hx hr=>yW hg ho<|yI<|yF [(42,.bool (decide (i < (s1.l.length:Int))))]<|zL<|yL N ?_ ?_
 · intro hc7 N;refine zV<|yG<|yM<|yI<|yI ?_;obtain ⟨o03,ho03,hMc3⟩:=zB N;refine yU (fun I' hs' m'=>∃ (t54:Bool),o03=t54∧I.le I'∧hs'=[]∧m'=[(0,vT s1.l),(4,.bool neg),(5,vI n0),(6,vI i),(54,.bool t54)]) ?_ ?_
   · have H:=iS I;refine zP<|yC 2 [] [(45,vT s1.l),(46,vI i)] ?_;obtain ⟨b2,hy3,N⟩:=zB ho03;refine eE rfl rfl hy3<|yC 5 [] [(49,.bool (decide ((b2.toNat:Int) < 48)))] ?_;cases hc8:(decide ((b2.toNat:Int) < 48)) with
     | true =>
      have hM010:=zS hc8 N
      try rw [hc8]
      exact yB [] [(54,vY)]<|yS [(0,vT s1.l),(4,.bool neg),(5,vI n0),(6,vI i),(54,vY)]<|zW (ct hM010 H)
     | false =>
      have hM011:=zQ hc8 N
      try rw [hc8]
      refine yC 7 [] [(50,vT s1.l),(51,vI i)] ?_;obtain ⟨b3,hy4,N⟩:=zB hM011;exact eE rfl rfl hy4<|yB [] [(54,.bool (decide ((b3.toNat:Int) > 57)))]<|yS [(0,vT s1.l),(4,.bool neg),(5,vI n0),(6,vI i),(54,.bool (decide ((b3.toNat:Int) > 57)))]<|zW (ct N H)
   rintro I03 hs2 m2 ⟨t54,heq3,le3,rfl,rfl⟩;subst o03;have H:=H.trans le3;refine zL<|yL hMc3 ?_ ?_
   · intro hc9 N;exact yF [(2,vI 0),(3,vF)]<|xP<|zN<|yA<|zN<|zN<|hr _ _ _ _ (zC N).symm H ⟨_,_,(.tmp rfl (.tmp rfl ResV.nil)),zT,⟨_,_,rfl,rfl,rfl,rfl⟩⟩
   intro hc9 N;exact zV<|zL<|zP<|yC 4 [] [(56,vI (W (n0 * 10))),(57,vT s1.l),(58,vI i)]<|bE N fun b4 hy5 N=>eE rfl rfl hy5<|yB [] [(5,vI (W ((W (n0 * 10)) + (W (IntKind.u8.wrap ((b4.toNat:Int) - 48))))))]<|zR<|zL<|zP<|yB [] [(6,vI (W (i + 1)))]<|yT<|wN [(0,vT s1.l),(4,.bool neg),(5,vI (W ((W (n0 * 10)) + (W (IntKind.u8.wrap ((b4.toNat:Int) - 48)))))),(6,vI (W (i + 1)))]<|ih (W ((W (n0 * 10)) + (W (IntKind.u8.wrap ((b4.toNat:Int) - 48))))) (W (i + 1)) _ N H  hg ho hx hr
 intro hc7 N;exact vD<|yS [(4,.bool neg),(5,vI n0)]<|hx _ _ (zC N).symm H
def kG (s:Str):Option (Int×Bool):=do
 let neg←(do
   if (decide ((s.l.length:Int) > 0)) then
    let b←sidx s 0
    pure ((b.toNat:Int) == 45)
   else
    pure false
     : Option Bool)
 let s1←(do
   if neg then
    let s2←sslc s 1 (s.l.length:Int)
    pure (id s2)
   else
    pure (id s)
     : Option Str)
 let t38←(do
   if ((s1.l.length:Int) == 0) then
    pure true
   else
    if (decide ((s1.l.length:Int) > 17)) then
     pure true
    else
     let b1←sidx s1 0
     if ((b1.toNat:Int) == 48) then
      if (decide ((s1.l.length:Int) > 1)) then
       pure true
      else
       pure (id neg)
     else
      pure false
     : Option Bool)
 if t38 then
  pure (0,false)
 else
  match←qV s1 0 0 with
  | .ret r0=>pure r0
  | .done n01 =>
   let n02←(do
     if neg then
      pure (W (0 - n01))
     else
      pure (id n01)
       : Option Int)
   pure (n02,true)
theorem zBD:∀ s r,kG s=some r→∀ {I:Imm} ,RT 209 [vT s.l] I [] (mE  r):=by
 intro s r N I;unfold kG at N;refine zX (fn:=Tryz.f209) (c:=(bodyOf Tryz.f209)) Tryz.func209 rfl rfl ?_;rintro B - -;have H:=iS I;refine yF []<|zL<|yI ?_;obtain ⟨o0,ho0,hMc⟩:=zB N;refine yU (fun I' hs' m'=>∃ (neg:Bool),o0=neg∧I.le I'∧hs'=[]∧m'=[(0,vT s.l),(4,.bool neg)]) ?_ ?_
 · have H:=iS I;refine zP<|yC 4 [] [(10,.bool (decide ((s.l.length:Int) > 0)))] ?_;cases hc:(decide ((s.l.length:Int) > 0)) with
   | true =>
    have hM0:=zS hc ho0
    try rw [hc]
    refine yC 5 [] [(11,vT s.l)] ?_;obtain ⟨b,hy,N⟩:=zB hM0;exact eE rfl rfl hy<|yB [] [(4,.bool ((b.toNat:Int) == 45))]<|yS [(0,vT s.l),(4,.bool ((b.toNat:Int) == 45))]<|zW (ct N H)
   | false =>
    have hM01:=zQ hc ho0
    try rw [hc]
    exact yB [] [(4,vF)]<|yS [(0,vT s.l),(4,vF)]<|zW (ct hM01 H)
 rintro I0 hs2 m2 ⟨neg,heq,le,rfl,rfl⟩;subst o0;have H:=H.trans le;refine yG<|yF [(15,.bool neg)]<|zL ?_;obtain ⟨o01,ho01,hMc1⟩:=zB hMc;refine yU (fun I' hs' m'=>∃ (s1:Str),o01=s1∧I0.le I'∧hs'=[]∧m'=[(0,vT s1.l),(4,.bool neg)]) ?_ ?_
 · have H:=iS I0;refine yL ho01 ?_ ?_
   · intro hc1 N;exact zP<|yC 1 [] [(16,vT s.l)]<|bE N fun s2 hy1 N=>zF9 rfl hy1<|yB [] [(0,vT s2.l)]<|yS [(0,vT s2.l),(4,.bool neg)]<|zW (ct N H)
   intro hc1 N;exact zV<|yS [(0,vT s.l),(4,.bool neg)]<|zW (ct N H)
 rintro I01 hs2 m2 ⟨s1,heq1,le1,rfl,rfl⟩;subst o01;have H:=H.trans le1;refine yG<|yI ?_;obtain ⟨o02,ho02,hMc2⟩:=zB hMc1;refine yU (fun I' hs' m'=>∃ (t38:Bool),o02=t38∧I01.le I'∧hs'=[]∧m'=[(0,vT s1.l),(4,.bool neg),(38,.bool t38)]) ?_ ?_
 · have H:=iS I01;refine zP<|yC 4 [] [(21,.bool ((s1.l.length:Int) == 0))] ?_;cases hc2:((s1.l.length:Int) == 0) with
   | true =>
    have hM02:=zS hc2 ho02
    try rw [hc2]
    exact yB [] [(38,vY)]<|yS [(0,vT s1.l),(4,.bool neg),(38,vY)]<|zW (ct hM02 H)
   | false =>
    have hM03:=zQ hc2 ho02
    try rw [hc2]
    refine yC 9 [] [(26,.bool (decide ((s1.l.length:Int) > 17)))] ?_;cases hc3:(decide ((s1.l.length:Int) > 17)) with
    | true =>
     have hM04:=zS hc3 hM03
     try rw [hc3]
     exact yB [] [(38,vY)]<|yS [(0,vT s1.l),(4,.bool neg),(38,vY)]<|zW (ct hM04 H)
    | false =>
     have hM05:=zQ hc3 hM03
     try rw [hc3]
     refine yC 10 [] [(27,vT s1.l)] ?_;obtain ⟨b1,hy2,N⟩:=zB hM05;refine eE rfl rfl hy2<|yC 13 [] [(30,.bool ((b1.toNat:Int) == 48))] ?_;cases hc4:((b1.toNat:Int) == 48) with
     | true =>
      have hM06:=zS hc4 N
      try rw [hc4]
      refine yC 17 [] [(34,.bool (decide ((s1.l.length:Int) > 1)))] ?_;cases hc5:(decide ((s1.l.length:Int) > 1)) with
      | true =>
       have hM07:=zS hc5 hM06
       try rw [hc5]
       exact yB [] [(38,vY)]<|yS [(0,vT s1.l),(4,.bool neg),(38,vY)]<|zW (ct hM07 H)
      | false =>
       have hM08:=zQ hc5 hM06
       try rw [hc5]
       exact yB [] [(38,.bool neg)]<|yS [(0,vT s1.l),(4,.bool neg),(38,.bool neg)]<|zW (ct hM08 H)
     | false =>
      have hM09:=zQ hc4 N
      try rw [hc4]
      exact yB [] [(38,vF)]<|yS [(0,vT s1.l),(4,.bool neg),(38,vF)]<|zW (ct hM09 H)
 rintro I02 hs2 m2 ⟨t38,heq2,le2,rfl,rfl⟩;subst o02;have H:=H.trans le2;refine zL<|yL hMc2 ?_ ?_
 · intro hc6 N;refine yF [(2,vI 0),(3,vF)]<|xP<|zN ?_;obtain rfl:=zC N;exact xF ⟨_,_,(.tmp rfl (.tmp rfl ResV.nil)),zT,⟨_,_,rfl,rfl,rfl,rfl⟩⟩
 intro hc6 N;refine zV<|wW [(5,vI 0)]<|yG<|yF [(6,vI 0)]<|wD<|wN [(0,vT s1.l),(4,.bool neg),(5,vI 0),(6,vI 0)] ?_;obtain ⟨o04,ho04,hMl⟩:=zB N;refine zCp s1 0 0 o04 ho04 iR  (fun _ _ _ h=>h) (fun _ _ h=>h) ?_ ?_
 · intro I04 n01 heq4 le4;subst o04;have H:=H.trans le4;refine zU<|yG<|yF [(63,.bool neg)]<|zL ?_;obtain ⟨o05,ho05,hMc4⟩:=zB hMl;refine yU (fun I' hs' m'=>∃ (n02:Int),o05=n02∧I04.le I'∧hs'=[]∧m'=[(5,vI n02)]) ?_ ?_
   · have H:=iS I04;refine yL ho05 ?_ ?_
     · intro hc10 N;exact zP<|yB [] [(5,vI (W (0 - n01)))]<|yS [(5,vI (W (0 - n01)))]<|zW (ct N H)
     intro hc10 N;exact zV<|yS [(5,vI n01)]<|zW (ct N H)
   rintro I05 hs2 m2 ⟨n02,heq5,le5,rfl,rfl⟩;subst o05;refine wW [(2,vI n02),(3,vY)]<|zL<|xG ?_;obtain rfl:=zC hMc4;exact xF ⟨_,_,(.tmp rfl (.tmp rfl ResV.nil)),zT,⟨_,_,rfl,rfl,rfl,rfl⟩⟩
 intro r0 I9 hs9 m9 heq9 le9 hrs9;subst heq9;refine yA<|zN ?_;obtain rfl:=zC hMl;exact xF hrs9
def rH (s:Str) (at0:Int) (end0:Int):Option (Int):=do
 let t31←(do
   if (decide (end0 < (s.l.length:Int))) then
    if (decide (end0 < (W (at0 + 2)))) then
     let b←sidx s end0
     if (decide ((b.toNat:Int) ≥ 48)) then
      let b1←sidx s end0
      pure (decide ((b1.toNat:Int) ≤ 57))
     else
      pure false
    else
     pure false
   else
    pure false
     : Option Bool)
 if t31 then
  rH s at0 (W (end0 + 1))
 else
  pure (id end0)
 partial_fixpoint
theorem zBa (s:Str) (at0:Int):∀ (end0:Int) (o:Int),rH s at0 end0=some o→∀ {B}{I0 I:Imm}{Q}  ,I0.le I→NG Q→NO Q→(∀ (I':Imm) (end01:Int),o=end01→I0.le I'→T 47 B Q (.exit 0) I' [] [(0,vT s.l),(1,vI at0),(6,vI end01)])→J Tryz.prog 47 B (nav (bodyOf Tryz.f202) [1,1,0,0]) Q I [] [(0,vT s.l),(1,vI at0),(6,vI end0)]:=by
 refine rH.partial_correctness s at0 _ fun self ih end0 o N B I0 I Q H hg ho hx=>yW hg ho<|yI<|yI ?_;obtain ⟨o0,ho0,hMc⟩:=zB N;refine yU (fun I' hs' m'=>∃ (t31:Bool),o0=t31∧I.le I'∧hs'=[]∧m'=[(0,vT s.l),(1,vI at0),(6,vI end0),(31,.bool t31)]) ?_ ?_
 · have H:=iS I;refine zP<|yC 5 [] [(14,.bool (decide (end0 < (s.l.length:Int))))] ?_;cases hc:(decide (end0 < (s.l.length:Int))) with
   | true =>
    have hM0:=zS hc ho0
    try rw [hc]
    refine yC 11 [] [(20,.bool (decide (end0 < (W (at0 + 2)))))] ?_;cases hc1:(decide (end0 < (W (at0 + 2)))) with
    | true =>
     have hM01:=zS hc1 hM0
     try rw [hc1]
     refine yC 13 [] [(21,vT s.l),(22,vI end0)] ?_;obtain ⟨b,hy,N⟩:=zB hM01;refine eE rfl rfl hy<|yC 17 [] [(26,.bool (decide ((b.toNat:Int) ≥ 48)))] ?_;cases hc2:(decide ((b.toNat:Int) ≥ 48)) with
     | true =>
      have hM02:=zS hc2 N
      try rw [hc2]
      refine yC 19 [] [(27,vT s.l),(28,vI end0)] ?_;obtain ⟨b1,hy1,N⟩:=zB hM02;exact eE rfl rfl hy1<|yB [] [(31,.bool (decide ((b1.toNat:Int) ≤ 57)))]<|yS [(0,vT s.l),(1,vI at0),(6,vI end0),(31,.bool (decide ((b1.toNat:Int) ≤ 57)))]<|zW (ct N H)
     | false =>
      have hM03:=zQ hc2 N
      try rw [hc2]
      exact yB [] [(31,vF)]<|yS [(0,vT s.l),(1,vI at0),(6,vI end0),(31,vF)]<|zW (ct hM03 H)
    | false =>
     have hM04:=zQ hc1 hM0
     try rw [hc1]
     exact yB [] [(31,vF)]<|yS [(0,vT s.l),(1,vI at0),(6,vI end0),(31,vF)]<|zW (ct hM04 H)
   | false =>
    have hM05:=zQ hc ho0
    try rw [hc]
    exact yB [] [(31,vF)]<|yS [(0,vT s.l),(1,vI at0),(6,vI end0),(31,vF)]<|zW (ct hM05 H)
 rintro I0 hs2 m2 ⟨t31,heq,le,rfl,rfl⟩;subst o0;have H:=H.trans le;refine zL<|yL hMc ?_ ?_
 · intro hc3 N;exact zV<|wD<|zP<|yB [] [(6,vI (W (end0 + 1)))]<|zR<|yT<|wN [(0,vT s.l),(1,vI at0),(6,vI (W (end0 + 1)))]<|ih (W (end0 + 1)) _ N H  hg ho hx
 intro hc3 N;exact vD<|yS [(0,vT s.l),(1,vI at0),(6,vI end0)]<|hx _ _ (zC N).symm H
def nA (s:Str) (at0:Int):Option (Int×Int):=do
 let end01←rH s at0 at0
 let s1←sslc s at0 end01
 let (y1,y2)←kG s1
 if (!y2) then
  pure (1,at0)
 else
  pure (y1,end01)
theorem zAB:∀ s at0 r,nA s at0=some r→∀ {I:Imm} ,RT 202 [vT s.l,vI at0] I [] (jS  r):=by
 intro s at0 r N I;unfold nA at N;refine zX (fn:=Tryz.f202) (c:=(bodyOf Tryz.f202)) Tryz.func202 rfl rfl ?_;rintro B - -;refine yF []<|wW [(6,vI at0)]<|yG<|yM<|wN [(0,vT s.l),(1,vI at0),(6,vI at0)] ?_;obtain ⟨o01,ho01,hMl⟩:=zB N;refine zBa s at0 at0 o01 ho01 iR  (fun _ _ _ h=>h) (fun _ _ h=>h) ?_;intro I01 end01 heq1 le1;subst o01;refine zU<|xD<|yC 3 [] [(35,vT s.l),(36,vI at0),(37,vI end01)] ?_;obtain ⟨s1,hy2,N⟩:=zB hMl;refine zF9 rfl hy2 ?_;obtain ⟨⟨y1,y2⟩,hy3,N⟩:=zB N;refine xS (zBD s1 _ hy3 ) ?_;rintro I02 hs2 v2 k2 le2 - ⟨v0,v01,rfl,rfl,rfl,rfl⟩ -;refine yB [] [(7,vI y1),(8,.bool y2)]<|yG<|yF [(43,.bool (!y2))]<|zL<|yL N ?_ ?_
 · intro hc4 N;refine yF [(4,vI 1),(5,vI at0)]<|xP<|zN ?_;obtain rfl:=zC N;exact xF ⟨_,_,(.tmp rfl (.tmp rfl ResV.nil)),zT,⟨_,_,rfl,rfl,rfl,rfl⟩⟩
 intro hc4 N;refine zV<|wW [(4,vI y1),(5,vI end01)]<|zL<|xG ?_;obtain rfl:=zC N;exact xF ⟨_,_,(.tmp rfl (.tmp rfl ResV.nil)),zT,⟨_,_,rfl,rfl,rfl,rfl⟩⟩
def jE (s:Str) (at0:Int):Option (Int):=do
 let t20←(do
   if (decide (at0 ≥ (s.l.length:Int))) then
    pure true
   else
    let b←sidx s at0
    if (decide ((b.toNat:Int) < 105)) then
     pure true
    else
     let b1←sidx s at0
     pure (decide ((b1.toNat:Int) > 108))
     : Option Bool)
 if t20 then
  pure (-1)
 else
  let b2←sidx s at0
  pure (W ((W (b2.toNat:Int)) - 105))
theorem zEy:∀ s at0 r,jE s at0=some r→∀ {I:Imm} ,RT 223 [vT s.l,vI at0] I [] (xE  r):=by
 intro s at0 r N I;unfold jE at N;refine zX (fn:=Tryz.f223) (c:=(bodyOf Tryz.f223)) Tryz.func223 rfl rfl ?_;rintro B - -;have H:=iS I;refine yF []<|yG<|yI ?_;obtain ⟨o0,ho0,hMc⟩:=zB N;refine yU (fun I' hs' m'=>∃ (t20:Bool),o0=t20∧I.le I'∧hs'=[]∧m'=[(0,vT s.l),(1,vI at0),(20,.bool t20)]) ?_ ?_
 · have H:=iS I;refine zP<|yC 5 [] [(9,.bool (decide (at0 ≥ (s.l.length:Int))))] ?_;cases hc:(decide (at0 ≥ (s.l.length:Int))) with
   | true =>
    have hM0:=zS hc ho0
    try rw [hc]
    exact yB [] [(20,vY)]<|yS [(0,vT s.l),(1,vI at0),(20,vY)]<|zW (ct hM0 H)
   | false =>
    have hM01:=zQ hc ho0
    try rw [hc]
    refine yC 7 [] [(10,vT s.l),(11,vI at0)] ?_;obtain ⟨b,hy,N⟩:=zB hM01;refine eE rfl rfl hy<|yC 11 [] [(15,.bool (decide ((b.toNat:Int) < 105)))] ?_;cases hc1:(decide ((b.toNat:Int) < 105)) with
    | true =>
     have hM02:=zS hc1 N
     try rw [hc1]
     exact yB [] [(20,vY)]<|yS [(0,vT s.l),(1,vI at0),(20,vY)]<|zW (ct hM02 H)
    | false =>
     have hM03:=zQ hc1 N
     try rw [hc1]
     refine yC 13 [] [(16,vT s.l),(17,vI at0)] ?_;obtain ⟨b1,hy1,N⟩:=zB hM03;exact eE rfl rfl hy1<|yB [] [(20,.bool (decide ((b1.toNat:Int) > 108)))]<|yS [(0,vT s.l),(1,vI at0),(20,.bool (decide ((b1.toNat:Int) > 108)))]<|zW (ct N H)
 rintro I0 hs2 m2 ⟨t20,heq,le,rfl,rfl⟩;subst o0;refine zL<|yL hMc ?_ ?_
 · intro hc2 N;refine yF [(4,vI (-1))]<|xP<|zN ?_;obtain rfl:=zC N;exact uM
 intro hc2 N;refine zV<|xD<|yC 2 [] [(21,vT s.l),(22,vI at0)]<|bE N fun b2 hy2 N=>eE rfl rfl hy2<|yB [] [(4,vI (W ((W (b2.toNat:Int)) - 105)))]<|zL<|xG ?_;obtain rfl:=zC N;exact uM
end Go.LN
