/- Helper of the proof (see the last text). -/
import Derived.Test.YtknadcjnkbdpdaaGreatHM2
set_option linter.unusedVariables false
set_option linter.unusedSimpArgs false
namespace Go.LN
open Go.Proofs
set_option maxRecDepth 20000
mutual
def uQ (e0:zF) (depth:Int) (levels:Int):Option (Bool):=do
 let t24←(do
   if (decide (levels < 1)) then
    pure true
   else
    let y←oO e0.Kind
    if (y != (e0.Kids.length:Int)) then
     pure true
    else
     let y1←nP e0 depth
     pure (!y1)
     : Option Bool)
 if t24 then
  pure false
 else
  match←wY (same e0) (same depth) (same levels) (same 0) with
  | .ret r0=>pure r0
  | .done _ =>
   pure true
 partial_fixpoint
def wY (e0:zF) (depth:Int) (levels:Int) (i:Int):Option (Out Unit (Bool)):=do
 if (decide (i < (e0.Kids.length:Int))) then
  let x←idx e0.Kids i
  let y2←uQ (same x) (same depth) (W (levels - 1))
  if (!y2) then
   pure (.ret false)
  else
   wY (same e0) (same depth) (same levels) (W (i + 1))
 else
  pure (.done ())
 partial_fixpoint
end
theorem zCR:(∀ (e0:zF) (depth:Int) (levels:Int) r,uQ e0 depth levels=some r→∀ {I:Imm}{p c p1 c1 p2 c2},(S4 I p e0.Index.Coefs c)→(S4 I p1 e0.Read.Subs c1)→(S4 I p2 e0.Kids c2)→Ret Tryz.prog 182 [vA (cExpr e0 p c p1 c1 p2 c2),vI depth,vI levels] I [] (zW  r))∧(∀ (e0:zF) (depth:Int) (levels:Int) (i:Int) o,wY e0 depth levels i=some o→∀ {B}{I0 I:Imm}{Q p c p1 c1 p2 c2}{b:Nat},I0.le I→(S4 I p e0.Index.Coefs c)→(S4 I p1 e0.Read.Subs c1)→(S4 I p2 e0.Kids c2)→NG Q→NO Q→(∀ (I':Imm) ,o=(.done ())→I0.le I'→T 42 B Q (.exit 0) I' [] [])→(∀ r I' hs' m',o=(.ret r)→I0.le I'→RS Tryz.prog Tryz.f182 B (zW  r) I' hs' m'→T 42 B Q .ret I' hs' m')→J Tryz.prog 42 B (nav (bodyOf Tryz.f182) [1,1,0,1,0]) Q I [hB b (cExpr e0 p c p1 c1 p2 c2)] [(1,vI depth),(2,vI levels),(3,vP b 0),(7,vI i)]):=by
  refine uQ.mutual_partial_correctness _ _ ?_ ?_
  · intro F_spec_l3Shape_l1 ih_spec_l3Shape_l1 e0 depth levels r N I p c p1 c1 p2 c2 h h1 h2;refine yB (fn:=Tryz.f182) (c:=(bodyOf Tryz.f182)) Tryz.func182 rfl rfl ?_;rintro B - -;have H:=iS I;refine yM<|tD (cExpr e0 p c p1 c1 p2 c2) ?_;intro b hb;refine yF [] []<|yL<|yK ?_;obtain ⟨o0,ho0,hMc⟩:=zC N;refine yU (fun I' hs' m'=>∃ (t24:Bool),o0=t24∧I.le I'∧hs'=[hB b (cExpr e0 p c p1 c1 p2 c2)]∧m'=[(1,vI depth),(2,vI levels),(3,vP b 0),(24,.bool t24)]) ?_ ?_
    · have H:=iS I;cases hc:(decide (levels < 1)) with
      | true =>
       have hM0:=zQ hc ho0;refine vK [.p (vI levels) [],.q vY,.q vY,.p undef [],.p undef [],.p undef [],.p undef [],.p undef [],.p undef [],.p undef [],.p vY [],.p vY [],.p undef [],.p undef [],.p undef [],.p undef [],.p vY []] [[],[(0,false)],[(1,false)],[(2,false)],[(2,false),(3,false)],[(2,false),(4,false)],[(2,false)],[(2,false),(6,false)],[(2,false),(7,false)],[(2,false),(5,false),(8,false)],[(2,false),(9,false)],[(10,false)],[(11,false)],[(11,false)],[(11,false),(12,false),(13,false)],[(11,false),(14,false)],[(11,false),(15,false)]] [hB b (cExpr e0 p c p1 c1 p2 c2)] [] [(16,false)] (yH [0]) ?_ ?_
       · refine Op<|Oq ?_<|Oq ?_<|Op<|Op<|Op<|Op<|Op<|Op<|Op<|Op<|Op<|Op<|Op<|Op<|Op<|Op<|On
         · intro I1 hf le1;refine yX [(8,vI levels)]<|qO 2 [(9,.bool (decide (levels < 1)))] ?_;rw [hc];exact xJ iR
         intro I1 hf le1;exact yX [(9,vY)]<|qO 3 [(10,vY)]<|xJ iR
       intro I01 le;refine yX [(1,vI depth),(2,vI levels),(3,vP b 0),(24,vY)] ?_;have H:=H.trans le;exact yN rfl<|yV [(1,vI depth),(2,vI levels),(3,vP b 0),(24,vY)]<|zV ⟨_,(zB hM0).symm,H,rfl,rfl⟩
      | false =>
       have hM01:=zN hc ho0;obtain ⟨y,hy,N⟩:=zC hM01;cases hc1:(y != (e0.Kids.length:Int)) with
       | true =>
        have hM02:=zQ hc1 N;refine vK [.p (vI levels) [],.q vF,.q vF,.p (vP b 0) [],.p (vI e0.Kind) [0],.q (vI y),.p (vP b 6) [],.p (vS p2 e0.Kids c2) [0],.p (vI (e0.Kids.length:Int)) [],.q vY,.q vY,.q vY,.p undef [],.p undef [],.p undef [],.p undef [],.p vY []] [[],[(0,false)],[(1,false)],[(2,false)],[(2,false),(3,false)],[(2,false),(4,false)],[(2,false)],[(2,false),(6,false)],[(2,false),(7,false)],[(2,false),(5,false),(8,false)],[(2,false),(9,false)],[(10,false)],[(11,false)],[(11,false)],[(11,false),(12,false),(13,false)],[(11,false),(14,false)],[(11,false),(15,false)]] [hB b (cExpr e0 p c p1 c1 p2 c2)] [] [(16,false)] (yH [0]) ?_ ?_
        · refine Op<|Oq ?_<|Oq ?_<|Op<|Op<|Oq ?_<|Op<|Op<|Op<|Oq ?_<|Oq ?_<|Oq ?_<|Op<|Op<|Op<|Op<|Op<|On
          · intro I1 hf le1;refine yX [(8,vI levels)]<|qO 2 [(9,.bool (decide (levels < 1)))] ?_;rw [hc];exact xJ iR
          · intro I1 hf le1;exact yX [(9,vF)]<|qO 3 [(10,vF)]<|xJ iR
          · intro I1 hf le1;refine yX [(10,vF),(12,vI e0.Kind)] ?_;have H:=iS I1;refine kD (zAF e0.Kind _ hy ) ?_;intro I02 le1;have H:=H.trans le1;exact xJ H
          · intro I1 hf le1;refine yX [(10,vF),(13,vI y),(16,vI (e0.Kids.length:Int))]<|qO 10 [(17,.bool (y != (e0.Kids.length:Int)))] ?_;rw [hc1];exact xJ iR
          · intro I1 hf le1;exact yX [(10,vF),(17,vY)]<|qO 11 [(18,vY)]<|xJ iR
          intro I1 hf le1;exact yX [(18,vY)]<|qO 12 [(19,vY)]<|xJ iR
        intro I03 le2;refine yX [(1,vI depth),(2,vI levels),(3,vP b 0),(24,vY)] ?_;have H:=H.trans le2;exact yN rfl<|yV [(1,vI depth),(2,vI levels),(3,vP b 0),(24,vY)]<|zV ⟨_,(zB hM02).symm,H,rfl,rfl⟩
       | false =>
        have hM03:=zN hc1 N;obtain ⟨y1,hy1,N⟩:=zC hM03;refine vK [.p (vI levels) [],.q vF,.q vF,.p (vP b 0) [],.p (vI e0.Kind) [0],.q (vI y),.p (vP b 6) [],.p (vS p2 e0.Kids c2) [0],.p (vI (e0.Kids.length:Int)) [],.q vF,.q vF,.q vF,.p (vA (cExpr e0 p c p1 c1 p2 c2)) [0],.p (vI depth) [],.q (.bool y1),.p (.bool (!y1)) [],.p (.bool (!y1)) []] [[],[(0,false)],[(1,false)],[(2,false)],[(2,false),(3,false)],[(2,false),(4,false)],[(2,false)],[(2,false),(6,false)],[(2,false),(7,false)],[(2,false),(5,false),(8,false)],[(2,false),(9,false)],[(10,false)],[(11,false)],[(11,false)],[(11,false),(12,false),(13,false)],[(11,false),(14,false)],[(11,false),(15,false)]] [hB b (cExpr e0 p c p1 c1 p2 c2)] [] [(16,false)] (yH [0]) ?_ ?_
        · refine Op<|Oq ?_<|Oq ?_<|Op<|Op<|Oq ?_<|Op<|Op<|Op<|Oq ?_<|Oq ?_<|Oq ?_<|Op<|Op<|Oq ?_<|Op<|Op<|On
          · intro I1 hf le1;refine yX [(8,vI levels)]<|qO 2 [(9,.bool (decide (levels < 1)))] ?_;rw [hc];exact xJ iR
          · intro I1 hf le1;exact yX [(9,vF)]<|qO 3 [(10,vF)]<|xJ iR
          · intro I1 hf le1;refine yX [(10,vF),(12,vI e0.Kind)] ?_;have H:=iS I1;refine kD (zAF e0.Kind _ hy ) ?_;intro I02 le1;have H:=H.trans le1;exact xJ H
          · intro I1 hf le1;refine yX [(10,vF),(13,vI y),(16,vI (e0.Kids.length:Int))]<|qO 10 [(17,.bool (y != (e0.Kids.length:Int)))] ?_;rw [hc1];exact xJ iR
          · intro I1 hf le1;exact yX [(10,vF),(17,vF)]<|qO 11 [(18,vF)]<|xJ iR
          · intro I1 hf le1;exact yX [(18,vF)]<|qO 12 [(19,vF)]<|xJ iR
          intro I1 hf le1;refine yX [(19,vF),(20,vA (cExpr e0 p c p1 c1 p2 c2)),(21,vI depth)] ?_;have H:=iS I1;have h:=h.mono le1;have h1:=h1.mono le1;have h2:=h2.mono le1;refine vL (zEC e0 depth _ hy1 h h1 h2) ?_;intro I04 le3;have H:=H.trans le3;exact xJ H
        intro I05 le4;refine yX [(1,vI depth),(2,vI levels),(3,vP b 0),(24,.bool (!y1))] ?_;have H:=H.trans le4;exact yN rfl<|yV [(1,vI depth),(2,vI levels),(3,vP b 0),(24,.bool (!y1))]<|zV ⟨_,(zB N).symm,H,rfl,rfl⟩
    rintro I0 hs2 m2 ⟨t24,heq,le5,rfl,rfl⟩;subst o0;have h:=h.mono le5;have h1:=h1.mono le5;have h2:=h2.mono le5;refine zE<|yO hMc ?_ ?_
    · intro hc2 N;refine yI [(6,vF)]<|zE<|yC<|zK ?_;obtain rfl:=zB N;exact vQ
    intro hc2 N;refine zZ<|yL<|yI [(7,vI 0)]<|zE<|zX<|vM [(1,vI depth),(2,vI levels),(3,vP b 0),(7,vI 0)] ?_;obtain ⟨o01,ho01,hMl⟩:=zC N;refine ih_spec_l3Shape_l1 e0 depth levels 0 o01 ho01 iR h h1 h2 (fun _ _ _ h=>h) (fun _ _ h=>h) ?_ ?_
    · intro I07  heq1 le7;subst o01;refine zY<|vO [(6,vY)]<|zE<|yC ?_;obtain rfl:=zB hMl;exact vQ
    intro r0 I9 hs9 m9 heq9 le9 hrs9;subst heq9;refine yA<|zK ?_;obtain rfl:=zB hMl;exact xM hrs9
  intro F_spec_l3Shape F_spec_l3Shape_l1 ih_spec_l3Shape ih_spec_l3Shape_l1 e0 depth levels i o N B I0 I Q p c p1 c1 p2 c2 b H h h1 h2 hg ho hx hr;refine xD hg ho<|yK<|yM<|yF [0] [(29,.bool (decide (i < (e0.Kids.length:Int))))]<|zE<|yO N ?_ ?_
  · intro hc3 N;refine zZ<|yL<|zX<|yM<|yG 3 [0] [(33,vS p2 e0.Kids c2),(34,vI i)]<|bE N fun x hy2 N=>wD rfl rfl h2 hy2 ?_;intro ad ccs hat hrep;obtain ⟨p3,c3,p4,c4,p5,c5,rfl,h5,h6,h7⟩:=uL hrep;refine xT 0 hat (cExpr x p3 c3 p4 c4 p5 c5) (vA (cExpr x p3 c3 p4 c4 p5 c5)) rfl<|yG 8 [] [(37,vI depth),(39,vI (W (levels - 1)))]<|bE N fun y2 hy3 N=>xX (ih_spec_l3Shape x depth (W (levels - 1)) _ hy3 h5 h6 h7) ?_;rintro I06 hs2 v2 k2 le6 - ⟨v05,rfl,rfl,rfl⟩ -;have h:=h.mono le6;have h1:=h1.mono le6;have h2:=h2.mono le6;have H:=H.trans le6;refine yF [] [(41,.bool (!y2))]<|zE<|yO N ?_ ?_
    · intro hc4 N;exact yI [(6,vF)]<|zE<|yC<|yA<|zK<|zK<|hr _ _ _ _ (zB N).symm H ⟨_,_,(.tmp rfl ResV.nil),zT,⟨_,rfl,rfl,rfl⟩⟩
    intro hc4 N;exact zZ<|zU<|zE<|zR<|yF [] [(7,vI (W (i + 1)))]<|xE<|vM [(1,vI depth),(2,vI levels),(3,vP b 0),(7,vI (W (i + 1)))]<|ih_spec_l3Shape_l1 e0 depth levels (W (i + 1)) _ N H h h1 h2 hg ho hx hr
  intro hc3 N;exact xC<|zO<|zO<|wB zT<|yV []<|hx _  (zB N).symm H
theorem zCl:∀ e0 depth levels r,uQ e0 depth levels=some r→∀ {I:Imm}{p c p1 c1 p2 c2},(S4 I p e0.Index.Coefs c)→(S4 I p1 e0.Read.Subs c1)→(S4 I p2 e0.Kids c2)→Ret Tryz.prog 182 [vA (cExpr e0 p c p1 c1 p2 c2),vI depth,vI levels] I [] (zW  r):=zCR.1
mutual
def tH (e0:zF) (levels:Int):Option (Int):=do
 let n01←wZ (same e0) (same levels) (same 1) (same 0)
 pure (id n01)
 partial_fixpoint
def wZ (e0:zF) (levels:Int) (n0:Int) (i:Int):Option (Int):=do
 let t15←(do
   if (decide (i < (e0.Kids.length:Int))) then
    pure (decide (levels > 0))
   else
    pure false
     : Option Bool)
 if t15 then
  let x←idx e0.Kids i
  let y←tH (same x) (W (levels - 1))
  wZ (same e0) (same levels) (W (n0 + y)) (W (i + 1))
 else
  pure (id n0)
 partial_fixpoint
end
theorem zCS:(∀ (e0:zF) (levels:Int) r,tH e0 levels=some r→∀ {I:Imm}{p c p1 c1 p2 c2},(S4 I p e0.Index.Coefs c)→(S4 I p1 e0.Read.Subs c1)→(S4 I p2 e0.Kids c2)→Ret Tryz.prog 183 [vA (cExpr e0 p c p1 c1 p2 c2),vI levels] I [] (xK  r))∧(∀ (e0:zF) (levels:Int) (n0:Int) (i:Int) o,wZ e0 levels n0 i=some o→∀ {B}{I0 I:Imm}{Q p c p1 c1 p2 c2}{b:Nat},I0.le I→(S4 I p e0.Index.Coefs c)→(S4 I p1 e0.Read.Subs c1)→(S4 I p2 e0.Kids c2)→NG Q→NO Q→(∀ (I':Imm) (n01:Int),o=n01→I0.le I'→T 29 B Q (.exit 0) I' [] [(5,vI n01)])→J Tryz.prog 29 B (nav (bodyOf Tryz.f183) [1,1,0,1,0]) Q I [hB b (cExpr e0 p c p1 c1 p2 c2)] [(1,vI levels),(2,vP b 0),(5,vI n0),(6,vI i)]):=by
  refine tH.mutual_partial_correctness _ _ ?_ ?_
  · intro F_spec_l3Count_l1 ih_spec_l3Count_l1 e0 levels r N I p c p1 c1 p2 c2 h h1 h2;refine yB (fn:=Tryz.f183) (c:=(bodyOf Tryz.f183)) Tryz.func183 rfl rfl ?_;rintro B - -;refine yM<|tD (cExpr e0 p c p1 c1 p2 c2) ?_;intro b hb;refine yF [] []<|vO [(5,vI 1)]<|yL<|yI [(6,vI 0)]<|zE<|zX<|vM [(1,vI levels),(2,vP b 0),(5,vI 1),(6,vI 0)] ?_;obtain ⟨o01,ho01,hMl⟩:=zC N;refine ih_spec_l3Count_l1 e0 levels 1 0 o01 ho01 iR h h1 h2 (fun _ _ _ h=>h) (fun _ _ h=>h) ?_;intro I02 n01 heq1 le2;subst o01;refine zY<|vO [(4,vI n01)]<|zE<|yC ?_;obtain rfl:=zB hMl;exact vQ
  intro F_spec_l3Count F_spec_l3Count_l1 ih_spec_l3Count ih_spec_l3Count_l1 e0 levels n0 i o N B I0 I Q p c p1 c1 p2 c2 b H h h1 h2 hg ho hx;refine xD hg ho<|yK<|yK ?_;obtain ⟨o0,ho0,hMc⟩:=zC N;refine yU (fun I' hs' m'=>∃ (t15:Bool),o0=t15∧I.le I'∧hs'=[hB b (cExpr e0 p c p1 c1 p2 c2)]∧m'=[(1,vI levels),(2,vP b 0),(5,vI n0),(6,vI i),(15,.bool t15)]) ?_ ?_
  · have H:=iS I;refine zR<|yG 6 [0] [(12,.bool (decide (i < (e0.Kids.length:Int))))] ?_;cases hc:(decide (i < (e0.Kids.length:Int))) with
    | true =>
     have hM0:=zQ hc ho0
     try rw [hc]
     exact yF [] [(15,.bool (decide (levels > 0)))]<|yV [(1,vI levels),(2,vP b 0),(5,vI n0),(6,vI i),(15,.bool (decide (levels > 0)))]<|zV ⟨_,(zB hM0).symm,H,rfl,rfl⟩
    | false =>
     have hM01:=zN hc ho0
     try rw [hc]
     exact yF [] [(15,vF)]<|yV [(1,vI levels),(2,vP b 0),(5,vI n0),(6,vI i),(15,vF)]<|zV ⟨_,(zB hM01).symm,H,rfl,rfl⟩
  rintro I0 hs2 m2 ⟨t15,heq,le,rfl,rfl⟩;subst o0;have h:=h.mono le;have h1:=h1.mono le;have h2:=h2.mono le;have H:=H.trans le;refine zE<|yO hMc ?_ ?_
  · intro hc1 N;refine zZ<|yL<|zX<|zR<|yG 4 [0] [(18,vI n0),(20,vS p2 e0.Kids c2),(21,vI i)]<|bE N fun x hy N=>wD rfl rfl h2 hy ?_;intro ad ccs hat hrep;obtain ⟨p3,c3,p4,c4,p5,c5,rfl,h3,h4,h5⟩:=uL hrep;refine xT 0 hat (cExpr x p3 c3 p4 c4 p5 c5) (vA (cExpr x p3 c3 p4 c4 p5 c5)) rfl<|yG 8 [] [(25,vI (W (levels - 1)))]<|bE N fun y hy1 N=>xX (ih_spec_l3Count x (W (levels - 1)) _ hy1 h3 h4 h5) ?_;rintro I01 hs2 v2 k2 le1 - ⟨v03,rfl,rfl,rfl⟩ -;have h:=h.mono le1;have h1:=h1.mono le1;have h2:=h2.mono le1;have H:=H.trans le1;exact yF [] [(5,vI (W (n0 + y)))]<|zU<|zE<|zR<|yF [] [(6,vI (W (i + 1)))]<|xE<|vM [(1,vI levels),(2,vP b 0),(5,vI (W (n0 + y))),(6,vI (W (i + 1)))]<|ih_spec_l3Count_l1 e0 levels (W (n0 + y)) (W (i + 1)) _ N H h h1 h2 hg ho hx
  intro hc1 N;exact xC<|zO<|zO<|wB zT<|yV [(5,vI n0)]<|hx _ _ (zB N).symm H
theorem zCm:∀ e0 levels r,tH e0 levels=some r→∀ {I:Imm}{p c p1 c1 p2 c2},(S4 I p e0.Index.Coefs c)→(S4 I p1 e0.Read.Subs c1)→(S4 I p2 e0.Kids c2)→Ret Tryz.prog 183 [vA (cExpr e0 p c p1 c1 p2 c2),vI levels] I [] (xK  r):=zCS.1
def tT (s:zP) (depth:Int):Option (Bool):=do
 let t24←(do
   if (decide (depth < 0)) then
    pure true
   else
    if (decide (depth > 4)) then
     pure true
    else
     let y←rQ s.Write depth
     if (!y) then
      pure true
     else
      let y1←uQ s.Value depth 5
      pure (!y1)
     : Option Bool)
 if t24 then
  pure false
 else
  let y2←tH s.Value 5
  pure (decide (y2 ≤ 12))
theorem kL:∀ s depth r,tT s depth=some r→∀ {I:Imm}{p c p1 c1 p2 c2 p3 c3},(S4 I p s.Write.Subs c)→(S4 I p1 s.Value.Index.Coefs c1)→(S4 I p2 s.Value.Read.Subs c2)→(S4 I p3 s.Value.Kids c3)→Ret Tryz.prog 148 [vA (cStmt s p c p1 c1 p2 c2 p3 c3),vI depth] I [] (zW  r):=by
 intro s depth r N I p c p1 c1 p2 c2 p3 c3 h h1 h2 h3;unfold tT at N;refine yB (fn:=Tryz.f148) (c:=(bodyOf Tryz.f148)) Tryz.func148 rfl rfl ?_;rintro B - -;have H:=iS I;refine yM<|tD (cStmt s p c p1 c1 p2 c2 p3 c3) ?_;intro b hb;refine yF [] []<|yL<|yK ?_;obtain ⟨o0,ho0,hMc⟩:=zC N;refine yU (fun I' hs' m'=>∃ (t24:Bool),o0=t24∧I.le I'∧hs'=[hB b (cStmt s p c p1 c1 p2 c2 p3 c3)]∧m'=[(2,vP b 0),(24,.bool t24)]) ?_ ?_
 · have H:=iS I;refine zR<|yG 3 [] [(7,.bool (decide (depth < 0)))] ?_;cases hc:(decide (depth < 0)) with
   | true =>
    have hM0:=zQ hc ho0
    try rw [hc]
    exact yF [] [(24,vY)]<|yV [(2,vP b 0),(24,vY)]<|zV ⟨_,(zB hM0).symm,H,rfl,rfl⟩
   | false =>
    have hM01:=zN hc ho0
    try rw [hc]
    refine yG 7 [] [(11,.bool (decide (depth > 4)))] ?_;cases hc1:(decide (depth > 4)) with
    | true =>
     have hM02:=zQ hc1 hM01
     try rw [hc1]
     exact yF [] [(24,vY)]<|yV [(2,vP b 0),(24,vY)]<|zV ⟨_,(zB hM02).symm,H,rfl,rfl⟩
    | false =>
     have hM03:=zN hc1 hM01
     try rw [hc1]
     refine yG 10 [0] [(13,vA (cAccess s.Write p c)),(14,vI depth)] ?_;obtain ⟨y,hy,N⟩:=zC hM03;refine vL (fW s.Write depth _ hy h) ?_;intro I01 le;have h1:=h1.mono le;have h2:=h2.mono le;have h3:=h3.mono le;have H:=H.trans le;refine yG 14 [] [(18,.bool (!y))] ?_;cases hc2:(!y) with
     | true =>
      have hM04:=zQ hc2 N
      try rw [hc2]
      exact yF [] [(24,vY)]<|yV [(2,vP b 0),(24,vY)]<|zV ⟨_,(zB hM04).symm,H,rfl,rfl⟩
     | false =>
      have hM05:=zN hc2 N
      try rw [hc2]
      refine yG 17 [0] [(20,vA (cExpr s.Value p1 c1 p2 c2 p3 c3)),(21,vI depth)] ?_;obtain ⟨y1,hy1,N⟩:=zC hM05;refine vL (zCl s.Value depth 5 _ hy1 h1 h2 h3) ?_;intro I02 le1;have H:=H.trans le1;exact yF [] [(24,.bool (!y1))]<|yV [(2,vP b 0),(24,.bool (!y1))]<|zV ⟨_,(zB N).symm,H,rfl,rfl⟩
 rintro I0 hs2 m2 ⟨t24,heq,le2,rfl,rfl⟩;subst o0;have h1:=h1.mono le2;have h2:=h2.mono le2;have h3:=h3.mono le2;refine zE<|yO hMc ?_ ?_
 · intro hc3 N;refine yI [(4,vF)]<|zE<|yC<|zK ?_;obtain rfl:=zB N;exact vQ
 intro hc3 N;refine zZ<|xP<|yG 2 [0] [(26,vA (cExpr s.Value p1 c1 p2 c2 p3 c3))]<|bE N fun y2 hy2 N=>kD (zCm s.Value 5 _ hy2 h1 h2 h3) fun I03 le3=>yF [] [(4,.bool (decide (y2 ≤ 12)))]<|zE<|yC ?_;obtain rfl:=zB N;exact vQ
def nB (r:Int×Bool):KT:=fun kk I' hs' v=>
  ∃ v0 v1,hs'=[]∧v=tupV [v0,v1]∧v0=.int .i64 r.1∧v1=.bool r.2
def uB (list:(List zG)) (part:zL) (y1:(List (List Int))) (i:Int) (k0:Int):Option (Out Unit (Int×Bool)):=do
 if (decide (k0 < (y1.length:Int))) then
  let x1←idx part.Body i
  let x2←idx y1 k0
  let (y5,y6,y7)←pU list x1 x2
  let t80←(do
    if (!y7) then
     pure true
    else
     let x3←idx y1 k0
     let y8←qQ x3
     pure (!y8)
      : Option Bool)
  if t80 then
   pure (.ret (0,false))
  else
   uB list part y1 i (W (k0 + 1))
 else
  pure (.done ())
 partial_fixpoint
theorem zBe (list:(List zG)) (part:zL) (y1:(List (List Int))) (i:Int):∀ (k0:Int) (o:Out Unit (Int×Bool)),uB list part y1 i k0=some o→∀ {B}{I0 I:Imm}{Q p c p1 c1 p2 c2}{b:Nat}{p3 c3},I0.le I→(S4 I p list c)→(S4 I p3 y1 c3)→(S4 I p1 part.Nest c1)→(S4 I p2 part.Body c2)→NG Q→NO Q→(∀ (I':Imm) ,o=(.done ())→I0.le I'→T 87 B Q (.exit 2) I' [hB b (cPart part p1 c1 p2 c2)] [(0,vS p list c),(3,vP b 0),(6,vS p3 y1 c3),(8,vI i)])→(∀ r I' hs' m',o=(.ret r)→I0.le I'→RS Tryz.prog Tryz.f100 B (nB  r) I' hs' m'→T 87 B Q .ret I' hs' m')→J Tryz.prog 87 B (nav (bodyOf Tryz.f100) [1,1,1,0,1,0,0,1,0,0,1,1,0]) Q I [hB b (cPart part p1 c1 p2 c2)] [(0,vS p list c),(3,vP b 0),(6,vS p3 y1 c3),(8,vI i),(9,vI k0)]:=by
 refine uB.partial_correctness list part y1 i _ fun self ih k0 o N B I0 I Q p c p1 c1 p2 c2 b p3 c3 H h h3 h1 h2 hg ho hx hr=>xD hg ho<|yK<|yI [(53,.bool (decide (k0 < (y1.length:Int))))]<|zE<|yO N ?_ ?_
 · intro hc5 N;refine zZ<|yL<|zX<|yK ?_;obtain ⟨x1,hy3,N⟩:=zC N;obtain ⟨x2,hy4,N⟩:=zC N;obtain ⟨⟨y5,y6,y7⟩,hy5,N⟩:=zC N;refine vK [.p (vS p list c) [],.p (vP b 1) [],.p (vS p2 part.Body c2) [0],.p (vI i) [],.x (fun I' v hx=>∃ ad1 p8 c8 p9 c9 p10 c10 p11 c11,v=.pointer (some ad1)∧hx=[]∧(At I' ad1 (cStmt x1 p8 c8 p9 c9 p10 c10 p11 c11))∧(S4 I' p8 x1.Write.Subs c8)∧(S4 I' p9 x1.Value.Index.Coefs c9)∧(S4 I' p10 x1.Value.Read.Subs c10)∧(S4 I' p11 x1.Value.Kids c11)),.x (fun I' v hx=>∃ p81 c81 p91 c91 p101 c101 p111 c111,v=vA (cStmt x1 p81 c81 p91 c91 p101 c101 p111 c111)∧hx=[]∧(S4 I' p81 x1.Write.Subs c81)∧(S4 I' p91 x1.Value.Index.Coefs c91)∧(S4 I' p101 x1.Value.Read.Subs c101)∧(S4 I' p111 x1.Value.Kids c111)),.p (vS p3 y1 c3) [],.p (vI k0) [],.x (fun I' v hx=>∃ ad2 p12 c12,v=.pointer (some ad2)∧hx=[]∧(At I' ad2 [vS p12 x2 c12])∧(S4 I' p12 x2 c12)),.x (fun I' v hx=>∃ p121 c121,v=vS p121 x2 c121∧hx=[]∧(S4 I' p121 x2 c121)),.x (fun I' v hx=>∃ p13 c13,v=.tuple ⟨[vS p13 y5 c13,vI y6,.bool y7]⟩∧hx=[]∧(S4 I' p13 y5 c13)),.x (fun I' v hx=>∃ p131 c131,v=.tuple ⟨[vS p131 y5 c131,vI y6,.bool y7]⟩∧hx=[]∧(S4 I' p131 y5 c131)),.x (fun I' v hx=>∃ p1311 c1311,v=vS p1311 y5 c1311∧hx=[]∧(S4 I' p1311 y5 c1311)),.q (vI y6),.q (.bool y7),.x (fun I' v hx=>∃ p13111 c13111,v=vS p13111 y5 c13111∧hx=[]∧(S4 I' p13111 y5 c13111)),.p (vI y6) []] [[],[],[(1,false)],[],[(2,false),(3,false)],[(4,false)],[],[],[(6,false),(7,false)],[(8,false)],[(0,false),(5,false),(9,false)],[(10,false)],[(11,false)],[(11,false)],[(11,false)],[(12,false)],[(13,false)]] [hB b (cPart part p1 c1 p2 c2)] [] [(14,false)] (yH [0]) ?_ ?_
   · refine Op<|Op<|Op<|Op<|Ox ?_<|Ox ?_<|Op<|Op<|Ox ?_<|Ox ?_<|Ox ?_<|Ox ?_<|Ox ?_<|Oq ?_<|Oq ?_<|Ox ?_<|Op<|On
     · intro I1 hf le1;refine yX [(59,vS p2 part.Body c2),(60,vI i)] ?_;have h2:=h2.mono le1;refine wD rfl rfl h2 hy3 ?_;intro ad1 ccs1 hat1 hrep1;obtain ⟨p8,c8,p9,c9,p10,c10,p11,c11,rfl,h10,h11,h12,h13⟩:=qK hrep1;exact yY [] iR ⟨_,_,_,_,_,_,_,_,_,rfl,rfl,hat1,h10,h11,h12,h13⟩
     · intro I1 hf le1;refine zH ?_;rintro _ _ ⟨ad1,p8,c8,p9,c9,p10,c10,p11,c11,rfl,rfl,hat1,h10,h11,h12,h13⟩;exact yX [(61,.pointer (some ad1))]<|xT 0 hat1 (cStmt x1 p8 c8 p9 c9 p10 c10 p11 c11) (vA (cStmt x1 p8 c8 p9 c9 p10 c10 p11 c11)) rfl<|yY [] iR ⟨_,_,_,_,_,_,_,_,rfl,rfl,h10,h11,h12,h13⟩
     · intro I1 hf le1;refine yX [(63,vS p3 y1 c3),(64,vI k0)] ?_;have h3:=h3.mono le1;refine wD rfl rfl h3 hy4 ?_;intro ad2 ccs2 hat2 hrep2;obtain ⟨v011,rfl,h14⟩:=hrep2;obtain ⟨p12,c12,rfl⟩:=h14.form;exact yY [] iR ⟨_,_,_,rfl,rfl,hat2,h14⟩
     · intro I1 hf le1;refine zH ?_;rintro _ _ ⟨ad2,p12,c12,rfl,rfl,hat2,h14⟩;exact yX [(65,.pointer (some ad2))]<|xT 0 hat2 [vS p12 x2 c12] (vS p12 x2 c12) rfl<|yY [] iR ⟨_,_,rfl,rfl,h14⟩
     · intro I1 hf le1;refine zH ?_;rintro _ _ ⟨rfl,rfl⟩;refine zH ?_;rintro _ _ ⟨p81,c81,p91,c91,p101,c101,p111,c111,rfl,rfl,h101,h111,h121,h131⟩;refine zH ?_;rintro _ _ ⟨p121,c121,rfl,rfl,h141⟩;refine yX [(57,vS p list c),(62,vA (cStmt x1 p81 c81 p91 c91 p101 c101 p111 c111)),(66,vS p121 x2 c121)] ?_;have H:=iS I1;have h:=h.mono le1;refine xX (zCj list x1 x2 _ hy5 h h101 h111 h121 h131 h141) ?_;rintro I04 hs2 v2 k2 le4 - ⟨v012,v013,v014,rfl,rfl,h15,rfl,rfl⟩ -;have H:=H.trans le4;obtain ⟨p13,c13,rfl⟩:=h15.form;exact yY [] H ⟨_,_,rfl,rfl,h15⟩
     · intro I1 hf le1;refine zH ?_;rintro _ _ ⟨p13,c13,rfl,rfl,h15⟩;exact yX [(67,.tuple ⟨[vS p13 y5 c13,vI y6,.bool y7]⟩)]<|qO 12 [(56,.tuple ⟨[vS p13 y5 c13,vI y6,.bool y7]⟩)]<|yY [] iR ⟨_,_,rfl,rfl,h15⟩
     · intro I1 hf le1;refine zH ?_;rintro _ _ ⟨p131,c131,rfl,rfl,h151⟩;exact yX [(56,.tuple ⟨[vS p131 y5 c131,vI y6,.bool y7]⟩)]<|qO 13 [(68,vS p131 y5 c131)]<|yY [] iR ⟨_,_,rfl,rfl,h151⟩
     · intro I1 hf le1;refine zH ?_;rintro _ _ ⟨p131,c131,rfl,rfl,h151⟩;exact yX [(56,.tuple ⟨[vS p131 y5 c131,vI y6,.bool y7]⟩)]<|qO 14 [(69,vI y6)]<|xJ iR
     · intro I1 hf le1;refine zH ?_;rintro _ _ ⟨p131,c131,rfl,rfl,h151⟩;exact yX [(56,.tuple ⟨[vS p131 y5 c131,vI y6,.bool y7]⟩)]<|qO 15 [(70,.bool y7)]<|xJ iR
     intro I1 hf le1;refine zH ?_;rintro _ _ ⟨p1311,c1311,rfl,rfl,h1511⟩;exact yX [(68,vS p1311 y5 c1311)]<|qO 16 [(10,vS p1311 y5 c1311)]<|yY [] iR ⟨_,_,rfl,rfl,h1511⟩
   intro I05 le5;refine yX [(0,vS p list c),(3,vP b 0),(6,vS p3 y1 c3),(8,vI i),(9,vI k0),(70,.bool y7)] ?_;have h:=h.mono le5;have h3:=h3.mono le5;have h1:=h1.mono le5;have h2:=h2.mono le5;have H:=H.trans le5;refine yF [] [(12,.bool y7)]<|zE<|yK ?_;obtain ⟨o01,ho01,hMc1⟩:=zC N;refine yU (fun I' hs' m'=>∃ (t80:Bool),o01=t80∧I05.le I'∧hs'=[hB b (cPart part p1 c1 p2 c2)]∧m'=[(0,vS p list c),(3,vP b 0),(6,vS p3 y1 c3),(8,vI i),(9,vI k0),(80,.bool t80)]) ?_ ?_
   · have H:=iS I05;refine zR<|yG 3 [] [(73,.bool (!y7))] ?_;cases hc6:(!y7) with
     | true =>
      have hM04:=zQ hc6 ho01
      try rw [hc6]
      exact yF [] [(80,vY)]<|yV [(0,vS p list c),(3,vP b 0),(6,vS p3 y1 c3),(8,vI i),(9,vI k0),(80,vY)]<|zV ⟨_,(zB hM04).symm,H,rfl,rfl⟩
     | false =>
      have hM05:=zN hc6 ho01
      try rw [hc6]
      refine yG 5 [] [(74,vS p3 y1 c3),(75,vI k0)] ?_;obtain ⟨x3,hy6,N⟩:=zC hM05;refine wD rfl rfl h3 hy6 ?_;intro ad3 ccs3 hat3 hrep3;obtain ⟨v015,rfl,h18⟩:=hrep3;obtain ⟨p14,c14,rfl⟩:=h18.form;refine xT 0 hat3 [vS p14 x3 c14] (vS p14 x3 c14) rfl<|bE N fun y8 hy7 N=>vL (dH x3 _ hy7 h18) ?_;intro I07 le6;have H:=H.trans le6;exact yF [] [(80,.bool (!y8))]<|yV [(0,vS p list c),(3,vP b 0),(6,vS p3 y1 c3),(8,vI i),(9,vI k0),(80,.bool (!y8))]<|zV ⟨_,(zB N).symm,H,rfl,rfl⟩
   rintro I06 hs2 m2 ⟨t80,heq1,le7,rfl,rfl⟩;subst o01;have h:=h.mono le7;have h3:=h3.mono le7;have h1:=h1.mono le7;have h2:=h2.mono le7;have H:=H.trans le7;refine zE<|yO hMc1 ?_ ?_
   · intro hc7 N;exact yI [(4,vI 0),(5,vF)]<|zE<|yC<|yA<|zK<|zK<|hr _ _ _ _ (zB N).symm H ⟨_,_,(.tmp rfl (.tmp rfl ResV.nil)),zT,⟨_,_,rfl,rfl,rfl,rfl⟩⟩
   intro hc7 N;exact zZ<|zU<|zE<|zR<|yF [] [(9,vI (W (k0 + 1)))]<|xE<|vM [(0,vS p list c),(3,vP b 0),(6,vS p3 y1 c3),(8,vI i),(9,vI (W (k0 + 1)))]<|ih (W (k0 + 1)) _ N H h h3 h1 h2 hg ho hx hr
 intro hc5 N;exact xC<|zO<|zO<|yV [(0,vS p list c),(3,vP b 0),(6,vS p3 y1 c3),(8,vI i)]<|hx _  (zB N).symm H
def uC (list:(List zG)) (part:zL) (y1:(List (List Int))) (i:Int):Option (Out Unit (Int×Bool)):=do
 if (decide (i < (part.Body.length:Int))) then
  let x←idx part.Body i
  let y3←tT x (part.Nest.length:Int)
  if (!y3) then
   pure (.ret (0,false))
  else
   match←uB list part y1 i 0 with
   | .ret r0=>pure (.ret r0)
   | .done _ =>
    uC list part y1 (W (i + 1))
 else
  pure (.done ())
 partial_fixpoint
theorem zBf (list:(List zG)) (part:zL) (y1:(List (List Int))):∀ (i:Int) (o:Out Unit (Int×Bool)),uC list part y1 i=some o→∀ {B}{I0 I:Imm}{Q p c p1 c1 p2 c2}{b:Nat}{p3 c3},I0.le I→(S4 I p list c)→(S4 I p3 y1 c3)→(S4 I p1 part.Nest c1)→(S4 I p2 part.Body c2)→NG Q→NO Q→(∀ (I':Imm) ,o=(.done ())→I0.le I'→T 87 B Q (.exit 0) I' [hB b (cPart part p1 c1 p2 c2)] [(3,vP b 0),(6,vS p3 y1 c3)])→(∀ r I' hs' m',o=(.ret r)→I0.le I'→RS Tryz.prog Tryz.f100 B (nB  r) I' hs' m'→T 87 B Q .ret I' hs' m')→J Tryz.prog 87 B (nav (bodyOf Tryz.f100) [1,1,1,0,1,0]) Q I [hB b (cPart part p1 c1 p2 c2)] [(0,vS p list c),(3,vP b 0),(6,vS p3 y1 c3),(8,vI i)]:=by
 refine uC.partial_correctness list part y1 _ fun self ih i o N B I0 I Q p c p1 c1 p2 c2 b p3 c3 H h h3 h1 h2 hg ho hx hr=>xD hg ho<|yK<|yM<|yF [0] [(37,.bool (decide (i < (part.Body.length:Int))))]<|zE<|yO N ?_ ?_
 · intro hc3 N;refine zZ<|yL<|zX<|yK<|yK ?_;obtain ⟨x,hy1,N⟩:=zC N;obtain ⟨y3,hy2,N⟩:=zC N;refine vK [.p (vP b 1) [],.p (vS p2 part.Body c2) [0],.p (vI i) [],.x (fun I' v hx=>∃ ad p4 c4 p5 c5 p6 c6 p7 c7,v=.pointer (some ad)∧hx=[]∧(At I' ad (cStmt x p4 c4 p5 c5 p6 c6 p7 c7))∧(S4 I' p4 x.Write.Subs c4)∧(S4 I' p5 x.Value.Index.Coefs c5)∧(S4 I' p6 x.Value.Read.Subs c6)∧(S4 I' p7 x.Value.Kids c7)),.x (fun I' v hx=>∃ p41 c41 p51 c51 p61 c61 p71 c71,v=vA (cStmt x p41 c41 p51 c51 p61 c61 p71 c71)∧hx=[]∧(S4 I' p41 x.Write.Subs c41)∧(S4 I' p51 x.Value.Index.Coefs c51)∧(S4 I' p61 x.Value.Read.Subs c61)∧(S4 I' p71 x.Value.Kids c71)),.p (vP b 0) [],.p (vS p1 part.Nest c1) [0],.p (vI (part.Nest.length:Int)) [],.q (.bool y3),.p (.bool (!y3)) []] [[],[(0,false)],[],[(1,false),(2,false)],[(3,false)],[],[(5,false)],[(6,false)],[(4,false),(7,false)],[(8,false)]] [hB b (cPart part p1 c1 p2 c2)] [] [(9,false)] (yH [0]) ?_ ?_
   · refine Op<|Op<|Op<|Ox ?_<|Ox ?_<|Op<|Op<|Op<|Oq ?_<|Op<|On
     · intro I1 hf le1;refine yX [(41,vS p2 part.Body c2),(42,vI i)] ?_;have h2:=h2.mono le1;refine wD rfl rfl h2 hy1 ?_;intro ad ccs hat hrep;obtain ⟨p4,c4,p5,c5,p6,c6,p7,c7,rfl,h5,h6,h7,h8⟩:=qK hrep;exact yY [] iR ⟨_,_,_,_,_,_,_,_,_,rfl,rfl,hat,h5,h6,h7,h8⟩
     · intro I1 hf le1;refine zH ?_;rintro _ _ ⟨ad,p4,c4,p5,c5,p6,c6,p7,c7,rfl,rfl,hat,h5,h6,h7,h8⟩;exact yX [(43,.pointer (some ad))]<|xT 0 hat (cStmt x p4 c4 p5 c5 p6 c6 p7 c7) (vA (cStmt x p4 c4 p5 c5 p6 c6 p7 c7)) rfl<|yY [] iR ⟨_,_,_,_,_,_,_,_,rfl,rfl,h5,h6,h7,h8⟩
     intro I1 hf le1;refine zH ?_;rintro _ _ ⟨p41,c41,p51,c51,p61,c61,p71,c71,rfl,rfl,h51,h61,h71,h81⟩;refine yX [(44,vA (cStmt x p41 c41 p51 c51 p61 c61 p71 c71)),(47,vI (part.Nest.length:Int))] ?_;have H:=iS I1;refine vL (kL x (part.Nest.length:Int) _ hy2 h51 h61 h71 h81) ?_;intro I02 le2;have H:=H.trans le2;exact xJ H
   intro I03 le3;refine yX [(0,vS p list c),(3,vP b 0),(6,vS p3 y1 c3),(8,vI i),(49,.bool (!y3))] ?_;have h:=h.mono le3;have h3:=h3.mono le3;have h1:=h1.mono le3;have h2:=h2.mono le3;have H:=H.trans le3;refine yN rfl<|zE<|yO N ?_ ?_
   · intro hc4 N;exact yI [(4,vI 0),(5,vF)]<|zE<|yC<|zK<|yA<|zK<|zK<|hr _ _ _ _ (zB N).symm H ⟨_,_,(.tmp rfl (.tmp rfl ResV.nil)),zT,⟨_,_,rfl,rfl,rfl,rfl⟩⟩
   intro hc4 N;refine zZ<|vO [(9,vI 0)]<|zE<|zX<|vM [(0,vS p list c),(3,vP b 0),(6,vS p3 y1 c3),(8,vI i),(9,vI 0)] ?_;obtain ⟨o02,ho02,hMl⟩:=zC N;refine zBe list part y1 i 0 o02 ho02 iR h h3 h1 h2 (fun _ _ _ h=>hg _ _ _ h) (fun _ _ h=>ho _ _ h) ?_ ?_
   · intro I08  heq2 le8;subst o02;have h:=h.mono le8;have h3:=h3.mono le8;have h1:=h1.mono le8;have h2:=h2.mono le8;have H:=H.trans le8;exact zY<|zU<|zE<|zR<|yF [] [(8,vI (W (i + 1)))]<|xE<|vM [(0,vS p list c),(3,vP b 0),(6,vS p3 y1 c3),(8,vI (W (i + 1)))]<|ih (W (i + 1)) _ hMl H h h3 h1 h2 hg ho hx hr
   intro r0 I9 hs9 m9 heq9 le9 hrs9;subst heq9;exact yA<|yA<|zK<|zK<|hr _ _ _ _ (zB hMl).symm (H.trans le9) hrs9
 intro hc3 N;exact xC<|zO<|zO<|yV [(3,vP b 0),(6,vS p3 y1 c3)]<|hx _  (zB N).symm H
def qN (list:(List zG)) (part:zL):Option (Int×Bool):=do
 let (y1,y2)←rC part.Nest
 let t32←(do
   if (!y2) then
    pure true
   else
    if (decide ((part.Body.length:Int) < 1)) then
     pure true
    else
     pure (decide ((part.Body.length:Int) > 4))
     : Option Bool)
 if t32 then
  pure (0,false)
 else
  match←uC list part y1 0 with
  | .ret r0=>pure r0
  | .done _ =>
   pure ((W ((y1.length:Int) * (part.Body.length:Int))),true)
theorem gG:∀ list part r,qN list part=some r→∀ {I:Imm}{p c p1 c1 p2 c2},(S4 I p list c)→(S4 I p1 part.Nest c1)→(S4 I p2 part.Body c2)→Ret Tryz.prog 100 [vS p list c,vA (cPart part p1 c1 p2 c2)] I [] (nB  r):=by
 intro list part r N I p c p1 c1 p2 c2 h h1 h2;unfold qN at N;refine yB (fn:=Tryz.f100) (c:=(bodyOf Tryz.f100)) Tryz.func100 rfl rfl ?_;rintro B - -;have H:=iS I;refine yM<|tD (cPart part p1 c1 p2 c2) ?_;intro b hb;refine yF [] []<|xP<|yG 2 [0] [(15,vS p1 part.Nest c1)] ?_;obtain ⟨⟨y1,y2⟩,hy,N⟩:=zC N;refine xX (zAz part.Nest _ hy h1) ?_;rintro I0 hs2 v2 k2 le - ⟨v0,v01,rfl,rfl,h3,rfl⟩ -;have h:=h.mono le;have h1:=h1.mono le;have h2:=h2.mono le;have H:=H.trans le;obtain ⟨p3,c3,rfl⟩:=h3.form;refine yF [] [(6,vS p3 y1 c3),(7,.bool y2)]<|yL<|yK ?_;obtain ⟨o0,ho0,hMc⟩:=zC N;refine yU (fun I' hs' m'=>∃ (t32:Bool),o0=t32∧I0.le I'∧hs'=[hB b (cPart part p1 c1 p2 c2)]∧m'=[(0,vS p list c),(3,vP b 0),(6,vS p3 y1 c3),(32,.bool t32)]) ?_ ?_
 · have H:=iS I0;refine zR<|yG 3 [] [(21,.bool (!y2))] ?_;cases hc:(!y2) with
   | true =>
    have hM0:=zQ hc ho0
    try rw [hc]
    exact yF [] [(32,vY)]<|yV [(0,vS p list c),(3,vP b 0),(6,vS p3 y1 c3),(32,vY)]<|zV ⟨_,(zB hM0).symm,H,rfl,rfl⟩
   | false =>
    have hM01:=zN hc ho0
    try rw [hc]
    refine yG 9 [0] [(27,.bool (decide ((part.Body.length:Int) < 1)))] ?_;cases hc1:(decide ((part.Body.length:Int) < 1)) with
    | true =>
     have hM02:=zQ hc1 hM01
     try rw [hc1]
     exact yF [] [(32,vY)]<|yV [(0,vS p list c),(3,vP b 0),(6,vS p3 y1 c3),(32,vY)]<|zV ⟨_,(zB hM02).symm,H,rfl,rfl⟩
    | false =>
     have hM03:=zN hc1 hM01
     try rw [hc1]
     exact yF [0] [(32,.bool (decide ((part.Body.length:Int) > 4)))]<|yV [(0,vS p list c),(3,vP b 0),(6,vS p3 y1 c3),(32,.bool (decide ((part.Body.length:Int) > 4)))]<|zV ⟨_,(zB hM03).symm,H,rfl,rfl⟩
 rintro I01 hs2 m2 ⟨t32,heq,le1,rfl,rfl⟩;subst o0;have h:=h.mono le1;have h3:=h3.mono le1;have h1:=h1.mono le1;have h2:=h2.mono le1;refine zE<|yO hMc ?_ ?_
 · intro hc2 N;refine yI [(4,vI 0),(5,vF)]<|zE<|yC<|zK ?_;obtain rfl:=zB N;exact xM ⟨_,_,(.tmp rfl (.tmp rfl ResV.nil)),zT,⟨_,_,rfl,rfl,rfl,rfl⟩⟩
 intro hc2 N;refine zZ<|yL<|yI [(8,vI 0)]<|zE<|zX<|vM [(0,vS p list c),(3,vP b 0),(6,vS p3 y1 c3),(8,vI 0)] ?_;obtain ⟨o03,ho03,hMl1⟩:=zC N;refine zBf list part y1 0 o03 ho03 iR h h3 h1 h2 (fun _ _ _ h=>h) (fun _ _ h=>h) ?_ ?_
 · intro I09  heq3 le9;subst o03;refine zY<|xP<|yF [0] [(4,vI (W ((y1.length:Int) * (part.Body.length:Int)))),(5,vY)]<|zE<|yC ?_;obtain rfl:=zB hMl1;exact xM ⟨_,_,(.tmp rfl (.tmp rfl ResV.nil)),zT,⟨_,_,rfl,rfl,rfl,rfl⟩⟩
 intro r0 I9 hs9 m9 heq9 le9 hrs9;subst heq9;refine yA<|zK ?_;obtain rfl:=zB hMl1;exact xM hrs9
def xZ (p:zS) (total:Int) (i:Int):Option (Out Int (Bool)):=do
 if (decide (i < (p.Parts.length:Int))) then
  let x←idx p.Parts i
  let (y2,y3)←qN p.Arrays x
  if (!y3) then
   pure (.ret false)
  else
   xZ p (W (total + y2)) (W (i + 1))
 else
  pure (.done total)
 partial_fixpoint
theorem fX (p:zS):∀ (total:Int) (i:Int) (o:Out Int (Bool)),xZ p total i=some o→∀ {B}{I0 I:Imm}{Q p1 c p2 c1}{b:Nat},I0.le I→(S4 I p1 p.Arrays c)→(S4 I p2 p.Parts c1)→NG Q→NO Q→(∀ (I':Imm) (total1:Int),o=(.done total1)→I0.le I'→T 42 B Q (.exit 0) I' [] [(3,vI total1)])→(∀ r I' hs' m',o=(.ret r)→I0.le I'→RS Tryz.prog Tryz.f49 B (zW  r) I' hs' m'→T 42 B Q .ret I' hs' m')→J Tryz.prog 42 B (nav (bodyOf Tryz.f49) [1,1,1,0,1,0]) Q I [hB b (cProg p p1 c p2 c1)] [(1,vP b 0),(3,vI total),(4,vI i)]:=by
 refine xZ.partial_correctness p _ fun self ih total i o N B I0 I Q p1 c p2 c1 b H h h1 hg ho hx hr=>xD hg ho<|yK<|yM<|yF [0] [(21,.bool (decide (i < (p.Parts.length:Int))))]<|zE<|yO N ?_ ?_
 · intro hc2 N;refine zZ<|yL<|zX<|yK ?_;obtain ⟨x,hy1,N⟩:=zC N;obtain ⟨⟨y2,y3⟩,hy2,N⟩:=zC N;refine vK [.p (vP b 0) [],.p (vS p1 p.Arrays c) [0],.p (vP b 1) [],.p (vS p2 p.Parts c1) [0],.p (vI i) [],.x (fun I' v hx=>∃ ad p3 c2 p4 c3,v=.pointer (some ad)∧hx=[]∧(At I' ad (cPart x p3 c2 p4 c3))∧(S4 I' p3 x.Nest c2)∧(S4 I' p4 x.Body c3)),.x (fun I' v hx=>∃ p31 c21 p41 c31,v=vA (cPart x p31 c21 p41 c31)∧hx=[]∧(S4 I' p31 x.Nest c21)∧(S4 I' p41 x.Body c31)),.q (.tuple ⟨[vI y2,.bool y3]⟩),.p (.tuple ⟨[vI y2,.bool y3]⟩) [],.p (vI y2) [],.p (.bool y3) [],.p (vI y2) []] [[],[(0,false)],[],[(2,false)],[],[(3,false),(4,false)],[(5,false)],[(1,false),(6,false)],[(7,false)],[(8,false)],[(8,false)],[(9,false)]] [hB b (cProg p p1 c p2 c1)] [] [(10,false),(11,false)] (yH [0]) ?_ ?_
   · refine Op<|Op<|Op<|Op<|Op<|Ox ?_<|Ox ?_<|Oq ?_<|Op<|Op<|Op<|Op<|On
     · intro I1 hf le1;refine yX [(28,vS p2 p.Parts c1),(29,vI i)] ?_;have h1:=h1.mono le1;refine wD rfl rfl h1 hy1 ?_;intro ad ccs hat hrep;obtain ⟨p3,c2,p4,c3,rfl,h3,h4⟩:=wT hrep;exact yY [] iR ⟨_,_,_,_,_,rfl,rfl,hat,h3,h4⟩
     · intro I1 hf le1;refine zH ?_;rintro _ _ ⟨ad,p3,c2,p4,c3,rfl,rfl,hat,h3,h4⟩;exact yX [(30,.pointer (some ad))]<|xT 0 hat (cPart x p3 c2 p4 c3) (vA (cPart x p3 c2 p4 c3)) rfl<|yY [] iR ⟨_,_,_,_,rfl,rfl,h3,h4⟩
     intro I1 hf le1;refine zH ?_;rintro _ _ ⟨rfl,rfl⟩;refine zH ?_;rintro _ _ ⟨p31,c21,p41,c31,rfl,rfl,h31,h41⟩;refine yX [(26,vS p1 p.Arrays c),(31,vA (cPart x p31 c21 p41 c31))] ?_;have H:=iS I1;have h:=h.mono le1;refine xX (gG p.Arrays x _ hy2 h h31 h41) ?_;rintro I02 hs2 v2 k2 le2 - ⟨v03,v04,rfl,rfl,rfl,rfl⟩ -;have H:=H.trans le2;exact xJ H
   intro I03 le3;refine yX [(1,vP b 0),(3,vI total),(4,vI i),(5,vI y2),(34,.bool y3)] ?_;have h:=h.mono le3;have h1:=h1.mono le3;have H:=H.trans le3;refine yF [] [(6,.bool y3)]<|yL<|yI [(36,.bool (!y3))]<|zE<|yO N ?_ ?_
   · intro hc3 N;exact yI [(2,vF)]<|zE<|yC<|zK<|yA<|zK<|zK<|hr _ _ _ _ (zB N).symm H ⟨_,_,(.tmp rfl ResV.nil),zT,⟨_,rfl,rfl,rfl⟩⟩
   intro hc3 N;exact zZ<|zE<|zR<|yF [] [(3,vI (W (total + y2)))]<|zU<|zE<|zR<|yF [] [(4,vI (W (i + 1)))]<|xE<|vM [(1,vP b 0),(3,vI (W (total + y2))),(4,vI (W (i + 1)))]<|ih (W (total + y2)) (W (i + 1)) _ N H h h1 hg ho hx hr
 intro hc2 N;exact xC<|zO<|zO<|wB zT<|yV [(3,vI total)]<|hx _ _ (zB N).symm H
def uV (p:zS):Option (Bool):=do
 let t16←(do
   let y←qW p.Arrays
   if (!y) then
    pure true
   else
    pure (decide ((p.Parts.length:Int) > 4))
     : Option Bool)
 if t16 then
  pure false
 else
  match←xZ p 0 0 with
  | .ret r0=>pure r0
  | .done total1 =>
   pure (decide (total1 ≤ 120))
theorem jG:∀ p r,uV p=some r→∀ {I:Imm}{p1 c p2 c1},(S4 I p1 p.Arrays c)→(S4 I p2 p.Parts c1)→Ret Tryz.prog 49 [vA (cProg p p1 c p2 c1)] I [] (zW  r):=by
 intro p r N I p1 c p2 c1 h h1;unfold uV at N;refine yB (fn:=Tryz.f49) (c:=(bodyOf Tryz.f49)) Tryz.func49 rfl rfl ?_;rintro B - -;have H:=iS I;refine yM<|tD (cProg p p1 c p2 c1) ?_;intro b hb;refine yF [] []<|yL<|yK ?_;obtain ⟨o0,ho0,hMc⟩:=zC N;refine yU (fun I' hs' m'=>∃ (t16:Bool),o0=t16∧I.le I'∧hs'=[hB b (cProg p p1 c p2 c1)]∧m'=[(1,vP b 0),(16,.bool t16)]) ?_ ?_
 · have H:=iS I;refine zR<|yG 2 [0] [(8,vS p1 p.Arrays c)] ?_;obtain ⟨y,hy,N⟩:=zC ho0;refine vL (zCP p.Arrays _ hy h) ?_;intro I01 le;have H:=H.trans le;refine yG 5 [] [(11,.bool (!y))] ?_;cases hc:(!y) with
   | true =>
    have hM0:=zQ hc N
    try rw [hc]
    exact yF [] [(16,vY)]<|yV [(1,vP b 0),(16,vY)]<|zV ⟨_,(zB hM0).symm,H,rfl,rfl⟩
   | false =>
    have hM01:=zN hc N
    try rw [hc]
    exact yF [0] [(16,.bool (decide ((p.Parts.length:Int) > 4)))]<|yV [(1,vP b 0),(16,.bool (decide ((p.Parts.length:Int) > 4)))]<|zV ⟨_,(zB hM01).symm,H,rfl,rfl⟩
 rintro I0 hs2 m2 ⟨t16,heq,le1,rfl,rfl⟩;subst o0;have h:=h.mono le1;have h1:=h1.mono le1;refine zE<|yO hMc ?_ ?_
 · intro hc1 N;refine yI [(2,vF)]<|zE<|yC<|zK ?_;obtain rfl:=zB N;exact vQ
 intro hc1 N;refine zZ<|vO [(3,vI 0)]<|yL<|yI [(4,vI 0)]<|zE<|zX<|vM [(1,vP b 0),(3,vI 0),(4,vI 0)] ?_;obtain ⟨o01,ho01,hMl⟩:=zC N;refine fX p 0 0 o01 ho01 iR h h1 (fun _ _ _ h=>h) (fun _ _ h=>h) ?_ ?_
 · intro I04 total1 heq1 le4;subst o01;refine zY<|vO [(2,.bool (decide (total1 ≤ 120)))]<|zE<|yC ?_;obtain rfl:=zB hMl;exact vQ
 intro r0 I9 hs9 m9 heq9 le9 hrs9;subst heq9;refine yA<|zK ?_;obtain rfl:=zB hMl;exact xM hrs9
def zCT (r:(List zG)):KT:=fun kk I' hs' v=>
  ∃ v0,hs'=[]∧v=tupV [v0]∧SL I' v0 r
def oQ :Option ((List zG)):=do
 pure ([(zG.mk (⟨[65]⟩:Str) ([6]:List Int)),(zG.mk (⟨[66]⟩:Str) ([4,5]:List Int)),(zG.mk (⟨[67]⟩:Str) ([3]:List Int))]:List zG)
theorem kM:∀ r,oQ =some r→∀ {I:Imm} ,Ret Tryz.prog 85 [] I [] (zCT  r):=by
 intro  r N I;unfold oQ at N;refine yB (fn:=Tryz.f85) (c:=(bodyOf Tryz.f85)) Tryz.func85 rfl rfl ?_;rintro B - -;refine yI []<|xP<|xW [vI 6] Int ?_;intro b hb;have h:RL I [vI 6] ([6]:List Int):=⟨[vI 6],_,rfl,rfl,rfl,rfl⟩;refine yG 2 [] [(2,vA [vT ([65]),vS (some ⟨b,0,none⟩) ([6]:List Int) 1])]<|xW [vI 4,vI 5] Int ?_;intro b1 hb1;have h1:RL I [vI 4,vI 5] ([4,5]:List Int):=⟨[vI 4],_,rfl,rfl,rfl,⟨[vI 5],_,rfl,rfl,rfl,rfl⟩⟩;refine yG 4 [] [(4,vA [vT ([66]),vS (some ⟨b1,0,none⟩) ([4,5]:List Int) 2])]<|xW [vI 3] Int ?_;intro b2 hb2;have h2:RL I [vI 3] ([3]:List Int):=⟨[vI 3],_,rfl,rfl,rfl,rfl⟩;refine yG 6 [] [(6,vA [vT ([67]),vS (some ⟨b2,0,none⟩) ([3]:List Int) 1])]<|yJ 2 rfl ?_;intro I0 le hl0;have h3:=SL.of_frozen hl0 le h;have h1:=iM le h1;have h2:=iM le h2;refine yJ 1 rfl ?_;intro I01 le1 hl01;have h4:=SL.of_frozen hl01 le1 h1;have h3:=h3.mono le1;have h2:=iM le1 h2;refine yJ 0 rfl ?_;intro I02 le2 hl02;have h5:=SL.of_frozen hl02 le2 h2;have h3:=h3.mono le2;have h4:=h4.mono le2;refine xW [vT ([65]),vS (some ⟨b,0,none⟩) ([6]:List Int) 1,vT ([66]),vS (some ⟨b1,0,none⟩) ([4,5]:List Int) 2,vT ([67]),vS (some ⟨b2,0,none⟩) ([3]:List Int) 1] zG ?_;intro b3 hb3;have h6:RL I02 [vT ([65]),vS (some ⟨b,0,none⟩) ([6]:List Int) 1,vT ([66]),vS (some ⟨b1,0,none⟩) ([4,5]:List Int) 2,vT ([67]),vS (some ⟨b2,0,none⟩) ([3]:List Int) 1] ([(zG.mk (⟨[65]⟩:Str) ([6]:List Int)),(zG.mk (⟨[66]⟩:Str) ([4,5]:List Int)),(zG.mk (⟨[67]⟩:Str) ([3]:List Int))]:List zG):=⟨[vT ([65]),vS (some ⟨b,0,none⟩) ([6]:List Int) 1],_,rfl,rfl,(pY ⟨_,rfl,h3⟩),⟨[vT ([66]),vS (some ⟨b1,0,none⟩) ([4,5]:List Int) 2],_,rfl,rfl,(pY ⟨_,rfl,h4⟩),⟨[vT ([67]),vS (some ⟨b2,0,none⟩) ([3]:List Int) 1],_,rfl,rfl,(pY ⟨_,rfl,h5⟩),rfl⟩⟩⟩;refine yF [] [(0,vS (some ⟨b3,0,none⟩) ([(zG.mk (⟨[65]⟩:Str) ([6]:List Int)),(zG.mk (⟨[66]⟩:Str) ([4,5]:List Int)),(zG.mk (⟨[67]⟩:Str) ([3]:List Int))]:List zG) 3)]<|zE<|yC<|xO 0 rfl ?_;intro I03 le3 hl03;have h7:=SL.of_frozen hl03 le3 h6;obtain rfl:=zB N;exact xM ⟨_,_,(.tmp rfl ResV.nil),zT,⟨_,rfl,rfl,h7⟩⟩
def tY (a0:zA) (x:Int) (b:zA) (y:Int) (i:Int) (Coefs:List Int):Option (List Int):=do
 if (decide (i < 4)) then
  let x1←idx a0.Coefs i
  let x2←idx b.Coefs i
  let l←app 8 Coefs ([(W ((W (x * x1)) + (W (y * x2))))]:List Int)
  tY a0 x b y (W (i + 1)) l
 else
  pure (id Coefs)
 partial_fixpoint
theorem zAG (a0:zA) (x:Int) (b:zA) (y:Int):∀ (i:Int) (Coefs:List Int) (o:List Int),tY a0 x b y i Coefs=some o→∀ {B}{I0 I:Imm}{Q p c p1 c1}{b1:Nat}{b2:Nat}{b3:Nat}{b4:Nat}{p2 c2 cs},I0.le I→(S4 I p1 b.Coefs c1)→(S4 I p a0.Coefs c)→(RL I cs Coefs)→NG Q→NO Q→(∀ (I':Imm) (Coefs1:List Int) (p3:Option Addr) (c3:Nat) (cs1:List Value),o=Coefs1→I0.le I'→(RL I' cs1 Coefs1)→T 46 B Q (.exit 0) I' [hO Int (vS p3 Coefs1 c3) cs1,hB b4 [vS p3 Coefs1 c3,vI (W ((W (x * a0.Const)) + (W (y * b.Const))))],hB b3 [z0,vI 0]] [(8,vP b3 0),(9,vP b4 0)])→J Tryz.prog 46 B (nav (bodyOf Tryz.f196) [1,1,0,1,0]) Q I [hO Int (vS p2 Coefs c2) cs,hB b4 [vS p2 Coefs c2,vI (W ((W (x * a0.Const)) + (W (y * b.Const))))],hB b3 [z0,vI 0],hB b2 (cAff b p1 c1),hB b1 (cAff a0 p c)] [(1,vI x),(3,vI y),(4,vP b1 0),(6,vP b2 0),(8,vP b3 0),(9,vP b4 0),(10,vI i)]:=by
 refine tY.partial_correctness a0 x b y _ fun self ih i Coefs o N B I0 I Q p c p1 c1 b1 b2 b3 b4 p2 c2 cs H h1 h h3 hg ho hx=>xD hg ho<|yK<|yI [(22,.bool (decide (i < 4)))]<|zE<|yO N ?_ ?_
 · intro hc N;refine zZ<|yL<|zX ?_;obtain ⟨x1,hy,N⟩:=zC N;obtain ⟨x2,hy1,N⟩:=zC N;obtain ⟨l,hy2,N⟩:=zC N;refine vK [.p (vP b4 0) [],.p (vS p2 Coefs c2) [0],.p (vI x) [],.p (vP b1 0) [],.p (vS p a0.Coefs c) [3],.p (vI i) [],.x (fun I' v hx=>∃ ad,v=.pointer (some ad)∧hx=[]∧(At I' ad [vI x1])),.q (vI x1),.p (vI (W (x * x1))) [],.p (vI y) [],.p (vP b2 0) [],.p (vS p1 b.Coefs c1) [2],.p (vI i) [],.x (fun I' v hx=>∃ ad1,v=.pointer (some ad1)∧hx=[]∧(At I' ad1 [vI x2])),.q (vI x2),.p (vI (W (y * x2))) [],.p (vI (W ((W (x * x1)) + (W (y * x2))))) [],.x (fun I' v hx=>∃ b5,v=vS (some ⟨b5,0,none⟩) ([(W ((W (x * x1)) + (W (y * x2))))]:List Int) 1∧hx=[]∧(SL I' (vS (some ⟨b5,0,none⟩) ([(W ((W (x * x1)) + (W (y * x2))))]:List Int) 1) ([(W ((W (x * x1)) + (W (y * x2))))]:List Int))),.x (fun I' v hx=>∃ p4 c4 cs2,v=vS p4 l c4∧hx=[hO Int (vS p4 l c4) cs2]∧(RL I' cs2 l))] [[],[(0,false)],[],[],[(3,false)],[],[(4,false),(5,false)],[(6,false)],[(2,false),(7,false)],[],[],[(10,false)],[],[(11,false),(12,false)],[(13,false)],[(9,false),(14,false)],[(8,false),(15,false)],[(16,false)],[(1,false),(17,false),(21,true)]] [hB b4 [vS p2 Coefs c2,vI (W ((W (x * a0.Const)) + (W (y * b.Const))))],hB b3 [z0,vI 0],hB b2 (cAff b p1 c1),hB b1 (cAff a0 p c)] [[hO Int (vS p2 Coefs c2) cs]] [(18,true)] (yH [1,2,3,4,0]) ?_ ?_
   · refine Op<|Op<|Op<|Op<|Op<|Op<|Ox ?_<|Oq ?_<|Op<|Op<|Op<|Op<|Op<|Ox ?_<|Oq ?_<|Op<|Op<|Ox ?_<|Ox ?_<|On
     · intro I1 hf le1;refine yX [(29,vS p a0.Coefs c),(30,vI i)] ?_;have h:=h.mono le1;refine wD rfl rfl h hy ?_;intro ad ccs hat hrep;obtain rfl:=hrep;exact yY [] iR ⟨_,rfl,rfl,hat⟩
     · intro I1 hf le1;refine zH ?_;rintro _ _ ⟨ad,rfl,rfl,hat⟩;exact yX [(31,.pointer (some ad))]<|xT 0 hat [vI x1] (vI x1) rfl<|xJ iR
     · intro I1 hf le1;refine yX [(36,vS p1 b.Coefs c1),(37,vI i)] ?_;have h1:=h1.mono le1;refine wD rfl rfl h1 hy1 ?_;intro ad1 ccs1 hat1 hrep1;obtain rfl:=hrep1;exact yY [] iR ⟨_,rfl,rfl,hat1⟩
     · intro I1 hf le1;refine zH ?_;rintro _ _ ⟨ad1,rfl,rfl,hat1⟩;exact yX [(38,.pointer (some ad1))]<|xT 0 hat1 [vI x2] (vI x2) rfl<|xJ iR
     · intro I1 hf le1;refine yX [(41,vI (W ((W (x * x1)) + (W (y * x2)))))] ?_;have H:=iS I1;refine xW [vI (W ((W (x * x1)) + (W (y * x2))))] Int ?_;intro b5 hb4;have h5:RL I1 [vI (W ((W (x * x1)) + (W (y * x2))))] ([(W ((W (x * x1)) + (W (y * x2))))]:List Int):=⟨[vI (W ((W (x * x1)) + (W (y * x2))))],_,rfl,rfl,rfl,rfl⟩;refine yJ 0 rfl ?_;intro I0 le hl0;have h6:=SL.of_frozen hl0 le h5;have H:=H.trans le;exact yY [] H ⟨_,rfl,rfl,h6⟩
     intro I1 hf le1;refine zH ?_;rintro _ _ ⟨rfl,rfl⟩;refine zH ?_;rintro _ _ ⟨b5,rfl,rfl,h6⟩;refine zH ?_;rintro _ _ rfl;refine yX [(26,vS p2 Coefs c2),(42,vS (some ⟨b5,0,none⟩) ([(W ((W (x * x1)) + (W (y * x2))))]:List Int) 1)] ?_;have h3:=iM le1 h3;obtain ⟨ccs2,k0,k01⟩:=h6;have h6:SL I1 (vS (some ⟨b5,0,none⟩) ([(W ((W (x * x1)) + (W (y * x2))))]:List Int) 1) ([(W ((W (x * x1)) + (W (y * x2))))]:List Int):=⟨_,k0,k01⟩;exact qZ 3 1 0 rfl rfl rfl h3 (.inl k0) k01 hy2 fun p4 c4 cs2 h7=>uY (hs':=(hO Int (vS p4 l c4) cs2::hB b4 [vS p2 Coefs c2,vI (W ((W (x * a0.Const)) + (W (y * b.Const))))]::hB b3 [z0,vI 0]::hB b2 (cAff b p1 c1)::hB b1 (cAff a0 p c)::hf)) rfl<|yY [hO Int (vS p4 l c4) cs2] iR ⟨_,_,_,rfl,rfl,h7⟩
   intro I01 le1;refine zH ?_;rintro _ _ ⟨p4,c4,cs2,rfl,rfl,h7⟩;refine yX [(1,vI x),(3,vI y),(4,vP b1 0),(6,vP b2 0),(8,vP b3 0),(9,vP b4 0),(10,vI i),(43,vS p4 l c4)] ?_;have h1:=h1.mono le1;have h:=h.mono le1;have H:=H.trans le1;exact yG 20 [] [(44,vP b4 0)]<|xN 1 [vS p4 l c4,vI (W ((W (x * a0.Const)) + (W (y * b.Const))))] [hO Int (vS p4 l c4) cs2,hB b4 [vS p4 l c4,vI (W ((W (x * a0.Const)) + (W (y * b.Const))))],hB b3 [z0,vI 0],hB b2 (cAff b p1 c1),hB b1 (cAff a0 p c)] rfl rfl rfl rfl<|yN rfl<|zU<|zE<|zR<|yF [] [(10,vI (W (i + 1)))]<|xE<|vM [(1,vI x),(3,vI y),(4,vP b1 0),(6,vP b2 0),(8,vP b3 0),(9,vP b4 0),(10,vI (W (i + 1)))]<|ih (W (i + 1)) l _ N H h1 h h7 hg ho hx
 intro hc N;exact xC<|zO<|zO<|wB (yD [0,1,2] rfl (by decide))<|yV [(8,vP b3 0),(9,vP b4 0)]<|hx _ _ _ _ _ (zB N).symm H h3
def pL (a0:zA) (x:Int) (b:zA) (y:Int):Option (zA):=do
 let Coefs1←tY a0 x b y 0 ([]:List Int)
 pure (zA.mk Coefs1 (W ((W (x * a0.Const)) + (W (y * b.Const)))))
theorem fC:∀ a0 x b y r,pL a0 x b y=some r→∀ {I:Imm}{p c p1 c1},(S4 I p a0.Coefs c)→(S4 I p1 b.Coefs c1)→Ret Tryz.prog 196 [vA (cAff a0 p c),vI x,vA (cAff b p1 c1),vI y] I [] (nO  r):=by
 intro a0 x b y r N I p c p1 c1 h h1;unfold pL at N;refine yB (fn:=Tryz.f196) (c:=(bodyOf Tryz.f196)) Tryz.func196 rfl rfl ?_;rintro B - -;refine yM<|tD (cAff a0 p c) ?_;intro b1 hb;refine tD (cAff b p1 c1) ?_;intro b2 hb1;refine uK [z0,vI 0] ?_;intro b3 hb2;refine yN rfl<|xP<|yG 10 [2,1] [(20,vA [z0,vI (W ((W (x * a0.Const)) + (W (y * b.Const))))])]<|uK [z0,vI 0] ?_;intro b4 hb3;refine xN 0 [z0,vI (W ((W (x * a0.Const)) + (W (y * b.Const))))] [hB b4 [z0,vI (W ((W (x * a0.Const)) + (W (y * b.Const))))],hB b3 [z0,vI 0],hB b2 (cAff b p1 c1),hB b1 (cAff a0 p c)] rfl rfl rfl rfl<|yN rfl<|yL<|yI [(10,vI 0)]<|zE<|zX<|vM [(1,vI x),(3,vI y),(4,vP b1 0),(6,vP b2 0),(8,vP b3 0),(9,vP b4 0),(10,vI 0)]<|pJ (tE (Rp.sz Int)) ?_;have h2:RL I [] ([]:List Int):=RepL.nil;obtain ⟨o0,ho0,hMl⟩:=zC N;refine zAG a0 x b y 0 ([]:List Int) o0 ho0 iR h1 h h2 (fun _ _ _ h=>h) (fun _ _ h=>h) ?_;intro I02 Coefs1 p3 c3 cs1 heq le2 h4;subst o0;refine zY<|xP<|yG 1 [1] [(45,vA [vS p3 Coefs1 c3,vI (W ((W (x * a0.Const)) + (W (y * b.Const))))])]<|xN 2 [vS p3 Coefs1 c3,vI (W ((W (x * a0.Const)) + (W (y * b.Const))))] [hO Int (vS p3 Coefs1 c3) cs1,hB b4 [vS p3 Coefs1 c3,vI (W ((W (x * a0.Const)) + (W (y * b.Const))))],hB b3 [vS p3 Coefs1 c3,vI (W ((W (x * a0.Const)) + (W (y * b.Const))))]] rfl rfl rfl rfl<|yN rfl<|zE<|yC<|xO 0 rfl ?_;intro I03 le3 hl01;have h8:=SL.of_frozen hl01 le3 h4;obtain rfl:=zB hMl;exact xM ⟨_,_,(.cell 1 rfl rfl (by kernel_rfl) ResV.nil),zT,⟨_,rfl,rfl,⟨_,rfl,(yP ⟨_,rfl,h8⟩)⟩⟩⟩
def zCU (b0:Nat) (r:zD×zJ):KT:=fun kk I' hs' v=>
  ∃ v0 k0,hs'=[.blk b0 ⟨k0⟩]∧v=tupV [v0]∧(∃ cs,v0=.agg ⟨cs⟩∧Rp.rep I' cs r.1)∧Rp.rep I' k0 r.2
def mU (r0:zJ) (depth:Int):Option (zD×zJ):=do
 let (y1,y2)←yR r0 ([0,0,1,0,(-1)]:List Int)
 let y3←wJ y1
 let (y5,y6)←yR y2 ([3,4,2,3,1]:List Int)
 let y7←wJ y5
 let (t23,x)←(do
   if (decide (depth > 0)) then
    let (y9,y10)←yT y6 4
    pure ((y9 == 0),y10)
   else
    pure (false,y6)
     : Option (Bool×zJ))
 let (x1,x2,x3)←(do
   if t23 then
    let (y12,y13)←yT x depth
    let (y15,y16)←yT y13 2
    let (x4,x5)←(do
      if (y15 == 0) then
       let y17←pF y12
       pure (y17,(zA.mk y7.Coefs y7.Const))
      else
       let y18←pF y12
       let y19←wJ 1
       let y20←pL y18 1 y19 1
       pure ((zA.mk y3.Coefs y3.Const),y20)
        : Option (zA×zA))
    pure (x4,x5,y16)
   else
    pure ((zA.mk y3.Coefs y3.Const),(zA.mk y7.Coefs y7.Const),x)
     : Option (zA×zA×zJ))
 let (y22,y23)←yT x3 12
 let (Lo,Hi,x6)←(do
   if (y22 == 0) then
    let (y25,y26)←yR y23 ([3,2,4]:List Int)
    let y27←wJ y25
    let l←app 32 ([x2]:List zA) ([y27]:List zA)
    pure (([x1]:List zA),l,y26)
   else
    let (Lo1,x7)←(do
      if (y22 == 1) then
       let (y29,y30)←yR y23 ([0,1]:List Int)
       let y31←wJ y29
       let l1←app 32 ([x1]:List zA) ([y31]:List zA)
       pure (l1,y30)
      else
       pure (([x1]:List zA),y23)
        : Option (List zA×zJ))
    pure (Lo1,([x2]:List zA),x7)
     : Option (List zA×List zA×zJ))
 pure ((zD.mk Lo Hi),x6)
theorem zD4:∀ r0 depth r,mU r0 depth=some r→∀ {I:Imm}{r01:Nat}{p c},(S4 I p r0.b c)→Ret Tryz.prog 171 [vP r01 0,vI depth] I [hB r01 (cRd r0 p c)] (zCU r01 r):=by
 intro r0 depth r N I r01 p c h;unfold mU at N;refine yB (fn:=Tryz.f171) (c:=(bodyOf Tryz.f171)) Tryz.func171 rfl rfl ?_;rintro B - -;have H:=iS I;refine yM<|uK zTwo ?_;intro b hb;refine yN rfl<|xP<|yG 1 [] [(9,vP r01 0)]<|xW [vI 0,vI 0,vI 1,vI 0,vI (-1)] Int ?_;intro b1 hb1;have h1:RL I [vI 0,vI 0,vI 1,vI 0,vI (-1)] ([0,0,1,0,(-1)]:List Int):=⟨[vI 0],_,rfl,rfl,rfl,⟨[vI 0],_,rfl,rfl,rfl,⟨[vI 1],_,rfl,rfl,rfl,⟨[vI 0],_,rfl,rfl,rfl,⟨[vI (-1)],_,rfl,rfl,rfl,rfl⟩⟩⟩⟩⟩;refine yJ 0 rfl ?_;intro I0 le hl0;have h2:=SL.of_frozen hl0 le h1;have h:=h.mono le;have H:=H.trans le;refine rP (yH [1,0] (hs':=[hB r01 (cRd r0 p c),hB b zTwo])) ?_;obtain ⟨⟨y1,y2⟩,hy,N⟩:=zC N;refine tF [hB r01 (cRd r0 p c)] [hB b zTwo] (yW r0 ([0,0,1,0,(-1)]:List Int) _ hy h h2) ?_;rintro I01 hs2 v2 k2 le1 - ⟨v0,kk,rfl,rfl,rfl,h4⟩ -;have H:=H.trans le1;obtain ⟨p1,c1,rfl,h5⟩:=yE h4;obtain ⟨y3,hy1,N⟩:=zC N;refine xX (vU y1 _ hy1 ) ?_;rintro I02 hs2 v2 k2 le2 - ⟨p2,c2,cs,rfl,rfl,h6⟩ -;have h5:=h5.mono le2;have H:=H.trans le2;refine uK [z0,vI 0] ?_;intro b2 hb2;refine xN 0 (cAff y3 p2 c2) [hB b2 (cAff y3 p2 c2),hO Int (vS p2 y3.Coefs c2) cs,hB r01 (cRd y2 p1 c1),hB b zTwo] rfl rfl rfl rfl<|yN rfl<|xP<|yG 1 [] [(13,vP r01 0)]<|xW [vI 3,vI 4,vI 2,vI 3,vI 1] Int ?_;intro b3 hb3;have h7:RL I02 [vI 3,vI 4,vI 2,vI 3,vI 1] ([3,4,2,3,1]:List Int):=⟨[vI 3],_,rfl,rfl,rfl,⟨[vI 4],_,rfl,rfl,rfl,⟨[vI 2],_,rfl,rfl,rfl,⟨[vI 3],_,rfl,rfl,rfl,⟨[vI 1],_,rfl,rfl,rfl,rfl⟩⟩⟩⟩⟩;refine yJ 0 rfl ?_;intro I03 le3 hl01;have h8:=SL.of_frozen hl01 le3 h7;have h6:=iM le3 h6;have h5:=h5.mono le3;have H:=H.trans le3;refine rP (yH [2,0,1,3] (hs':=[hB r01 (cRd y2 p1 c1),hB b2 (cAff y3 p2 c2),hO Int (vS p2 y3.Coefs c2) cs,hB b zTwo])) ?_;obtain ⟨⟨y5,y6⟩,hy2,N⟩:=zC N;refine tF [hB r01 (cRd y2 p1 c1)] [hB b2 (cAff y3 p2 c2),hO Int (vS p2 y3.Coefs c2) cs,hB b zTwo] (yW y2 ([3,4,2,3,1]:List Int) _ hy2 h5 h8) ?_;rintro I04 hs2 v2 k2 le4 - ⟨v02,kk1,rfl,rfl,rfl,h10⟩ -;have h6:=iM le4 h6;have H:=H.trans le4;obtain ⟨p3,c3,rfl,h11⟩:=yE h10;obtain ⟨y7,hy3,N⟩:=zC N;refine xX (vU y5 _ hy3 ) ?_;rintro I05 hs2 v2 k2 le5 - ⟨p4,c4,cs1,rfl,rfl,h12⟩ -;have h11:=h11.mono le5;have h6:=iM le5 h6;have H:=H.trans le5;refine uK [z0,vI 0] ?_;intro b4 hb4;refine xN 0 (cAff y7 p4 c4) [hB b4 (cAff y7 p4 c4),hO Int (vS p4 y7.Coefs c4) cs1,hB r01 (cRd y6 p3 c3),hB b2 (cAff y3 p2 c2),hO Int (vS p2 y3.Coefs c2) cs,hB b zTwo] rfl rfl rfl rfl<|yN rfl<|yL<|yK ?_;obtain ⟨o0,ho0,hMc⟩:=zC N;refine yU (fun I' hs' m'=>∃ (t23:Bool) (x:zJ) (p5:Option Addr) (c5:Nat),o0=(t23,x)∧I05.le I'∧(S4 I' p5 x.b c5)∧hs'=[hB b4 (cAff y7 p4 c4),hO Int (vS p4 y7.Coefs c4) cs1,hB r01 (cRd x p5 c5),hB b2 (cAff y3 p2 c2),hO Int (vS p2 y3.Coefs c2) cs,hB b zTwo]∧m'=[(0,vP r01 0),(1,vI depth),(4,vP b 0),(5,vP b2 0),(6,vP b4 0),(23,.bool t23)]) ?_ ?_
 · have H:=iS I05;refine zR<|yG 3 [] [(19,.bool (decide (depth > 0)))] ?_;cases hc:(decide (depth > 0)) with
   | true =>
    have hM0:=zQ hc ho0
    try rw [hc]
    refine yG 4 [] [(20,vP r01 0)]<|rP (yH [2,0,1,3,4,5] (hs':=[hB r01 (cRd y6 p3 c3),hB b4 (cAff y7 p4 c4),hO Int (vS p4 y7.Coefs c4) cs1,hB b2 (cAff y3 p2 c2),hO Int (vS p2 y3.Coefs c2) cs,hB b zTwo])) ?_;obtain ⟨⟨y9,y10⟩,hy4,N⟩:=zC hM0;refine tF [hB r01 (cRd y6 p3 c3)] [hB b4 (cAff y7 p4 c4),hO Int (vS p4 y7.Coefs c4) cs1,hB b2 (cAff y3 p2 c2),hO Int (vS p2 y3.Coefs c2) cs,hB b zTwo] (xG y6 4 _ hy4 h11) ?_;rintro I07 hs2 v2 k2 le6 - ⟨v04,kk2,rfl,rfl,rfl,h15⟩ -;have H:=H.trans le6;obtain ⟨p6,c6,rfl,h16⟩:=yE h15;exact yF [] [(23,.bool (y9 == 0))]<|wB (yD [1,2,0,3,4,5] rfl (by decide))<|yV [(0,vP r01 0),(1,vI depth),(4,vP b 0),(5,vP b2 0),(6,vP b4 0),(23,.bool (y9 == 0))]<|zV ⟨_,_,_,_,(zB N).symm,H,h16,rfl,rfl⟩
   | false =>
    have hM01:=zN hc ho0
    try rw [hc]
    exact yF [] [(23,vF)]<|yV [(0,vP r01 0),(1,vI depth),(4,vP b 0),(5,vP b2 0),(6,vP b4 0),(23,vF)]<|zV ⟨_,_,_,_,(zB hM01).symm,H,h11,rfl,rfl⟩
 rintro I06 hs2 m2 ⟨t23,x,p5,c5,heq,le7,h13,rfl,rfl⟩;subst o0;have h12:=iM le7 h12;have h6:=iM le7 h6;have H:=H.trans le7;refine zE<|pQ 4 rfl ?_;intro I08 le8 hl02;have h17:=SL.of_frozen hl02 le8 h6;have h12:=iM le8 h12;have h13:=h13.mono le8;have H:=H.trans le8;refine pQ 1 rfl ?_;intro I09 le9 hl03;have h18:=SL.of_frozen hl03 le9 h12;have h13:=h13.mono le9;have h17:=h17.mono le9;have H:=H.trans le9;obtain ⟨o01,ho01,hMc1⟩:=zC hMc;refine yU (fun I' hs' m'=>∃ (x1:zA) (x2:zA) (x3:zJ) (p7:Option Addr) (c7:Nat) (p8:Option Addr) (c8:Nat) (p9:Option Addr) (c9:Nat),o01=(x1,x2,x3)∧I09.le I'∧(S4 I' p7 x1.Coefs c7)∧(S4 I' p8 x2.Coefs c8)∧(S4 I' p9 x3.b c9)∧hs'=[hB b4 (cAff x2 p8 c8),hB r01 (cRd x3 p9 c9),hB b2 (cAff x1 p7 c7),hB b zTwo]∧m'=[(0,vP r01 0),(4,vP b 0),(5,vP b2 0),(6,vP b4 0)]) ?_ ?_
 · have H:=iS I09;refine yO ho01 ?_ ?_
   · intro hc1 N;refine yM<|yG 2 [] [(24,vP r01 0),(25,vI depth)]<|rP (yH [1,0,2,3] (hs':=[hB r01 (cRd x p5 c5),hB b4 (cAff y7 p4 c4),hB b2 (cAff y3 p2 c2),hB b zTwo])) ?_;obtain ⟨⟨y12,y13⟩,hy5,N⟩:=zC N;refine tF [hB r01 (cRd x p5 c5)] [hB b4 (cAff y7 p4 c4),hB b2 (cAff y3 p2 c2),hB b zTwo] (xG x depth _ hy5 h13) ?_;rintro I011 hs2 v2 k2 le10 - ⟨v06,kk3,rfl,rfl,rfl,h23⟩ -;have h18:=h18.mono le10;have h17:=h17.mono le10;have H:=H.trans le10;obtain ⟨p10,c10,rfl,h24⟩:=yE h23;refine yF [] [(7,vI y12)]<|xP<|yG 1 [] [(27,vP r01 0)] ?_;obtain ⟨⟨y15,y16⟩,hy6,N⟩:=zC N;refine tF [hB r01 (cRd y13 p10 c10)] [hB b4 (cAff y7 p4 c4),hB b2 (cAff y3 p2 c2),hB b zTwo] (xG y13 2 _ hy6 h24) ?_;rintro I012 hs2 v2 k2 le11 - ⟨v08,kk4,rfl,rfl,rfl,h26⟩ -;have h18:=h18.mono le11;have h17:=h17.mono le11;have H:=H.trans le11;obtain ⟨p11,c11,rfl,h27⟩:=yE h26;refine yF [] [(29,.bool (y15 == 0))]<|zE ?_;obtain ⟨o02,ho02,hMc2⟩:=zC N;refine yU (fun I' hs' m'=>∃ (x4:zA) (x5:zA) (p12:Option Addr) (c12:Nat) (p13:Option Addr) (c13:Nat),o02=(x4,x5)∧I012.le I'∧(S4 I' p12 x4.Coefs c12)∧(S4 I' p13 x5.Coefs c13)∧hs'=[hB r01 (cRd y16 p11 c11),hB b4 (cAff x5 p13 c13),hB b2 (cAff x4 p12 c12),hB b zTwo]∧m'=[(0,vP r01 0),(4,vP b 0),(5,vP b2 0),(6,vP b4 0)]) ?_ ?_
     · have H:=iS I012;refine yO ho02 ?_ ?_
       · intro hc2 N;refine zR<|yG 1 [] [(30,vI y12)]<|bE N fun y17 hy7 N=>xX (mT y12 _ hy7 ) ?_;rintro I014 hs2 v2 k2 le12 - ⟨v010,rfl,rfl,⟨cs2,rfl,h30⟩⟩ -;have h18:=h18.mono le12;have H:=H.trans le12;obtain ⟨p14,c14,rfl,h31⟩:=yQ h30;exact xN 2 (cAff y17 p14 c14) [hB r01 (cRd y16 p11 c11),hB b4 (cAff y7 p4 c4),hB b2 (cAff y17 p14 c14),hB b zTwo] rfl rfl rfl rfl<|yN rfl<|yV [(0,vP r01 0),(4,vP b 0),(5,vP b2 0),(6,vP b4 0)]<|zV ⟨_,_,_,_,_,_,(zB N).symm,H,h31,h18,rfl,rfl⟩
       intro hc2 N;refine zR<|yG 1 [] [(32,vI y12)]<|bE N fun y18 hy8 N=>xX (mT y12 _ hy8 ) ?_;rintro I015 hs2 v2 k2 le13 - ⟨v012,rfl,rfl,⟨cs3,rfl,h32⟩⟩ -;have h17:=h17.mono le13;have H:=H.trans le13;obtain ⟨p15,c15,rfl,h33⟩:=yQ h32;obtain ⟨y19,hy9,N⟩:=zC N;refine xX (vU 1 _ hy9 ) ?_;rintro I016 hs2 v2 k2 le14 - ⟨p16,c16,cs4,rfl,rfl,h34⟩ -;have h33:=h33.mono le14;have h17:=h17.mono le14;have H:=H.trans le14;refine yJ 0 rfl ?_;intro I017 le15 hl04;have h35:=SL.of_frozen hl04 le15 h34;have h33:=h33.mono le15;have h17:=h17.mono le15;have H:=H.trans le15;obtain ⟨y20,hy10,N⟩:=zC N;refine xX (fC y18 1 y19 1 _ hy10 h33 h35) ?_;rintro I018 hs2 v2 k2 le16 - ⟨v014,rfl,rfl,⟨cs5,rfl,h36⟩⟩ -;have h17:=h17.mono le16;have H:=H.trans le16;obtain ⟨p17,c17,rfl,h37⟩:=yQ h36;exact xN 1 (cAff y20 p17 c17) [hB r01 (cRd y16 p11 c11),hB b4 (cAff y20 p17 c17),hB b2 (cAff y3 p2 c2),hB b zTwo] rfl rfl rfl rfl<|yN rfl<|yV [(0,vP r01 0),(4,vP b 0),(5,vP b2 0),(6,vP b4 0)]<|zV ⟨_,_,_,_,_,_,(zB N).symm,H,h17,h37,rfl,rfl⟩
     rintro I013 hs2 m2 ⟨x4,x5,p12,c12,p13,c13,heq1,le17,h28,h29,rfl,rfl⟩;subst o02;have h27:=h27.mono le17;have H:=H.trans le17;exact wB (yD [1,0,2,3] rfl (by decide))<|yV [(0,vP r01 0),(4,vP b 0),(5,vP b2 0),(6,vP b4 0)]<|zV ⟨_,_,_,_,_,_,_,_,_,(zB hMc2).symm,H,h28,h29,h27,rfl,rfl⟩
   intro hc1 N;exact zZ<|yV [(0,vP r01 0),(4,vP b 0),(5,vP b2 0),(6,vP b4 0)]<|zV ⟨_,_,_,_,_,_,_,_,_,(zB N).symm,H,h17,h18,h13,rfl,rfl⟩
 rintro I010 hs2 m2 ⟨x1,x2,x3,p7,c7,p8,c8,p9,c9,heq2,le18,h19,h20,h21,rfl,rfl⟩;subst o01;have H:=H.trans le18;refine xP<|yG 1 [2] [(36,vA (cAff x1 p7 c7))]<|xW (cAff x1 p7 c7) zA ?_;intro b5 hb5;have h38:RL I010 (cAff x1 p7 c7) ([x1]:List zA):=⟨(cAff x1 p7 c7),_,rfl,rfl,(yP ⟨_,rfl,h19⟩),rfl⟩;refine yG 3 [1] [(38,vA (cAff x2 p8 c8))]<|xW (cAff x2 p8 c8) zA ?_;intro b6 hb6;have h39:RL I010 (cAff x2 p8 c8) ([x2]:List zA):=⟨(cAff x2 p8 c8),_,rfl,rfl,(yP ⟨_,rfl,h20⟩),rfl⟩;refine yG 5 [] [(40,vA [vS (some ⟨b5,0,none⟩) ([x1]:List zA) 1,vS (some ⟨b6,0,none⟩) ([x2]:List zA) 1])]<|uK zTwo ?_;intro b7 hb7;refine xN 0 [vS (some ⟨b5,0,none⟩) ([x1]:List zA) 1,vS (some ⟨b6,0,none⟩) ([x2]:List zA) 1] [hB b7 [vS (some ⟨b5,0,none⟩) ([x1]:List zA) 1,vS (some ⟨b6,0,none⟩) ([x2]:List zA) 1],hO zA (vS (some ⟨b6,0,none⟩) ([x2]:List zA) 1) (cAff x2 p8 c8),hO zA (vS (some ⟨b5,0,none⟩) ([x1]:List zA) 1) (cAff x1 p7 c7),hB b4 (cAff x2 p8 c8),hB r01 (cRd x3 p9 c9),hB b2 (cAff x1 p7 c7),hB b zTwo] rfl rfl rfl rfl<|yN rfl<|yL<|yM<|yG 1 [] [(41,vP r01 0)]<|rP (yH [4,0,1,2,3,5,6] (hs':=[hB r01 (cRd x3 p9 c9),hB b7 [vS (some ⟨b5,0,none⟩) ([x1]:List zA) 1,vS (some ⟨b6,0,none⟩) ([x2]:List zA) 1],hO zA (vS (some ⟨b6,0,none⟩) ([x2]:List zA) 1) (cAff x2 p8 c8),hO zA (vS (some ⟨b5,0,none⟩) ([x1]:List zA) 1) (cAff x1 p7 c7),hB b4 (cAff x2 p8 c8),hB b2 (cAff x1 p7 c7),hB b zTwo])) ?_;obtain ⟨⟨y22,y23⟩,hy11,N⟩:=zC hMc1;refine tF [hB r01 (cRd x3 p9 c9)] [hB b7 [vS (some ⟨b5,0,none⟩) ([x1]:List zA) 1,vS (some ⟨b6,0,none⟩) ([x2]:List zA) 1],hO zA (vS (some ⟨b6,0,none⟩) ([x2]:List zA) 1) (cAff x2 p8 c8),hO zA (vS (some ⟨b5,0,none⟩) ([x1]:List zA) 1) (cAff x1 p7 c7),hB b4 (cAff x2 p8 c8),hB b2 (cAff x1 p7 c7),hB b zTwo] (xG x3 12 _ hy11 h21) ?_;rintro I019 hs2 v2 k2 le19 - ⟨v016,kk5,rfl,rfl,rfl,h41⟩ -;have h38:=iM le19 h38;have h39:=iM le19 h39;have H:=H.trans le19;obtain ⟨p18,c18,rfl,h42⟩:=yE h41;refine yN rfl<|zE<|zX<|yI [(43,.bool (y22 == 0))]<|zE<|pQ 4 rfl ?_;intro I020 le20 hl05;have hat:At I020 ⟨b4,0,none⟩ (cAff x2 p8 c8):=At.of_blk hl05;have h42:=h42.mono le20;have h38:=iM le20 h38;have h39:=iM le20 h39;have H:=H.trans le20;refine pQ 4 rfl ?_;intro I021 le21 hl06;have hat1:At I021 ⟨b2,0,none⟩ (cAff x1 p7 c7):=At.of_blk hl06;have h42:=h42.mono le21;have h38:=iM le21 h38;have h39:=iM le21 h39;have H:=H.trans le21;obtain ⟨o03,ho03,hMc3⟩:=zC N;refine yU (fun I' hs' m'=>∃ (Lo:List zA) (Hi:List zA) (x6:zJ) (p19:Option Addr) (c19:Nat) (cs6:List Value) (p20:Option Addr) (c20:Nat) (cs7:List Value) (p21:Option Addr) (c21:Nat),o03=(Lo,Hi,x6)∧I021.le I'∧(RL I' cs6 Lo)∧(RL I' cs7 Hi)∧(S4 I' p21 x6.b c21)∧hs'=[hB r01 (cRd x6 p21 c21),hB b7 [vS p19 Lo c19,vS p20 Hi c20],hO zA (vS p20 Hi c20) cs7,hO zA (vS p19 Lo c19) cs6,hB b zTwo]∧m'=[(4,vP b 0),(8,vP b7 0)]) ?_ ?_
 · have H:=iS I021;refine yO ho03 ?_ ?_
   · intro hc3 N;obtain ⟨⟨y25,y26⟩,hy12,N⟩:=zC N;obtain ⟨y27,hy13,N⟩:=zC N;obtain ⟨l,hy14,N⟩:=zC N;refine vK [.p (vP b7 1) [],.p (vS (some ⟨b6,0,none⟩) ([x2]:List zA) 1) [0],.p (vP r01 0) [],.x (fun I' v hx=>∃ b8,v=vS (some ⟨b8,0,none⟩) ([3,2,4]:List Int) 3∧hx=[]∧(SL I' (vS (some ⟨b8,0,none⟩) ([3,2,4]:List Int) 3) ([3,2,4]:List Int))),.x (fun I' v hx=>∃ p22 c22,v=vI y25∧hx=[hB r01 (cRd y26 p22 c22)]∧(S4 I' p22 y26.b c22)),.x (fun I' v hx=>∃ p23 c23 cs8,v=vA (cAff y27 p23 c23)∧hx=[hO Int (vS p23 y27.Coefs c23) cs8]∧(RL I' cs8 y27.Coefs)),.x (fun I' v hx=>∃ b9,v=vS (some ⟨b9,0,none⟩) ([y27]:List zA) 1∧hx=[]∧(SL I' (vS (some ⟨b9,0,none⟩) ([y27]:List zA) 1) ([y27]:List zA))),.x (fun I' v hx=>∃ p24 c24 cs9,v=vS p24 l c24∧hx=[hO zA (vS p24 l c24) cs9]∧(RL I' cs9 l))] [[],[(0,false)],[],[],[(2,false),(3,false),(10,true)],[(4,false)],[(5,true)],[(1,false),(6,false),(11,true)]] [hB b7 [vS (some ⟨b5,0,none⟩) ([x1]:List zA) 1,vS (some ⟨b6,0,none⟩) ([x2]:List zA) 1],hO zA (vS (some ⟨b5,0,none⟩) ([x1]:List zA) 1) (cAff x1 p7 c7),hB b zTwo] [[hB r01 (cRd y23 p18 c18)],[hO zA (vS (some ⟨b6,0,none⟩) ([x2]:List zA) 1) (cAff x2 p8 c8)]] [(4,true),(7,true)] (yH [1,3,4,0,2]) ?_ ?_
     · refine Op<|Op<|Op<|Ox ?_<|Ox ?_<|Ox ?_<|Ox ?_<|Ox ?_<|On
       · intro I1 hf le1;refine yX [] ?_;have H:=iS I1;refine xW [vI 3,vI 2,vI 4] Int ?_;intro b8 hb8;have h46:RL I1 [vI 3,vI 2,vI 4] ([3,2,4]:List Int):=⟨[vI 3],_,rfl,rfl,rfl,⟨[vI 2],_,rfl,rfl,rfl,⟨[vI 4],_,rfl,rfl,rfl,rfl⟩⟩⟩;refine yJ 0 rfl ?_;intro I023 le22 hl07;have h47:=SL.of_frozen hl07 le22 h46;have H:=H.trans le22;exact yY [] H ⟨_,rfl,rfl,h47⟩
       · intro I1 hf le1;refine zH ?_;rintro _ _ ⟨rfl,rfl⟩;refine zH ?_;rintro _ _ ⟨b8,rfl,rfl,h47⟩;refine zH ?_;rintro _ _ rfl;refine yX [(47,vP r01 0),(48,vS (some ⟨b8,0,none⟩) ([3,2,4]:List Int) 3)] ?_;have H:=iS I1;have h42:=h42.mono le1;refine tF [hB r01 (cRd y23 p18 c18)] (hB b7 [vS (some ⟨b5,0,none⟩) ([x1]:List zA) 1,vS (some ⟨b6,0,none⟩) ([x2]:List zA) 1]::hO zA (vS (some ⟨b5,0,none⟩) ([x1]:List zA) 1) (cAff x1 p7 c7)::hB b zTwo::hf) (yW y23 ([3,2,4]:List Int) _ hy12 h42 h47) ?_;rintro I024 hs2 v2 k2 le23 - ⟨v018,kk6,rfl,rfl,rfl,h49⟩ -;have H:=H.trans le23;obtain ⟨p22,c22,rfl,h50⟩:=yE h49;exact yY [hB r01 (cRd y26 p22 c22)] H ⟨_,_,rfl,rfl,h50⟩
       · intro I1 hf le1;refine zH ?_;rintro _ _ ⟨p22,c22,rfl,rfl,h50⟩;refine yX [(49,vI y25)] ?_;have H:=iS I1;refine xX (vU y25 _ hy13 ) ?_;rintro I025 hs2 v2 k2 le24 - ⟨p23,c23,cs8,rfl,rfl,h51⟩ -;have H:=H.trans le24;exact yY [hO Int (vS p23 y27.Coefs c23) cs8] H ⟨_,_,_,rfl,rfl,h51⟩
       · intro I1 hf le1;refine zH ?_;rintro _ _ ⟨p23,c23,cs8,rfl,rfl,h51⟩;refine yX [(50,vA (cAff y27 p23 c23))] ?_;have H:=iS I1;refine yJ 0 rfl ?_;intro I026 le25 hl08;have h52:=SL.of_frozen hl08 le25 h51;have H:=H.trans le25;refine xW (cAff y27 p23 c23) zA ?_;intro b9 hb9;have h53:RL I026 (cAff y27 p23 c23) ([y27]:List zA):=⟨(cAff y27 p23 c23),_,rfl,rfl,(yP ⟨_,rfl,h52⟩),rfl⟩;refine yJ 0 rfl ?_;intro I027 le26 hl09;have h54:=SL.of_frozen hl09 le26 h53;have H:=H.trans le26;exact yY [] H ⟨_,rfl,rfl,h54⟩
       intro I1 hf le1;refine zH ?_;rintro _ _ ⟨rfl,rfl⟩;refine zH ?_;rintro _ _ ⟨b9,rfl,rfl,h54⟩;refine zH ?_;rintro _ _ rfl;refine yX [(46,vS (some ⟨b6,0,none⟩) ([x2]:List zA) 1),(51,vS (some ⟨b9,0,none⟩) ([y27]:List zA) 1)] ?_;have h39:=iM le1 h39;obtain ⟨ccs,k0,k01⟩:=h54;have h54:SL I1 (vS (some ⟨b9,0,none⟩) ([y27]:List zA) 1) ([y27]:List zA):=⟨_,k0,k01⟩;exact qZ 44 2 0 rfl rfl rfl h39 (.inl k0) k01 hy14 fun p24 c24 cs9 h55=>uY (hs':=(hO zA (vS p24 l c24) cs9::hB b7 [vS (some ⟨b5,0,none⟩) ([x1]:List zA) 1,vS (some ⟨b6,0,none⟩) ([x2]:List zA) 1]::hO zA (vS (some ⟨b5,0,none⟩) ([x1]:List zA) 1) (cAff x1 p7 c7)::hB b zTwo::hf)) rfl<|yY [hO zA (vS p24 l c24) cs9] iR ⟨_,_,_,rfl,rfl,h55⟩
     intro I028 le27;refine zH ?_;rintro _ _ ⟨p22,c22,rfl,rfl,h50⟩;refine zH ?_;rintro _ _ ⟨p24,c24,cs9,rfl,rfl,h55⟩;refine yX [(4,vP b 0),(8,vP b7 0),(52,vS p24 l c24)] ?_;have h38:=iM le27 h38;have H:=H.trans le27;exact yG 9 [] [(53,vP b7 1)]<|xN 2 [vS (some ⟨b5,0,none⟩) ([x1]:List zA) 1,vS p24 l c24] [hO zA (vS p24 l c24) cs9,hB r01 (cRd y26 p22 c22),hB b7 [vS (some ⟨b5,0,none⟩) ([x1]:List zA) 1,vS p24 l c24],hO zA (vS (some ⟨b5,0,none⟩) ([x1]:List zA) 1) (cAff x1 p7 c7),hB b zTwo] rfl rfl rfl rfl<|yN rfl<|wB (yD [1,2,0,3,4] rfl (by decide))<|yV [(4,vP b 0),(8,vP b7 0)]<|zV ⟨_,_,_,_,_,_,_,_,_,_,_,(zB N).symm,H,h38,h55,h50,rfl,rfl⟩
   intro hc3 N;refine yI [(54,.bool (y22 == 1))]<|zE ?_;obtain ⟨o04,ho04,hMc4⟩:=zC N;refine yU (fun I' hs' m'=>∃ (Lo1:List zA) (x7:zJ) (p25:Option Addr) (c25:Nat) (cs10:List Value) (p26:Option Addr) (c26:Nat),o04=(Lo1,x7)∧I021.le I'∧(RL I' cs10 Lo1)∧(S4 I' p26 x7.b c26)∧hs'=[hB r01 (cRd x7 p26 c26),hB b7 [vS p25 Lo1 c25,vS (some ⟨b6,0,none⟩) ([x2]:List zA) 1],hO zA (vS (some ⟨b6,0,none⟩) ([x2]:List zA) 1) (cAff x2 p8 c8),hO zA (vS p25 Lo1 c25) cs10,hB b zTwo]∧m'=[(4,vP b 0),(8,vP b7 0)]) ?_ ?_
   · have H:=iS I021;refine yO ho04 ?_ ?_
     · intro hc4 N;obtain ⟨⟨y29,y30⟩,hy15,N⟩:=zC N;obtain ⟨y31,hy16,N⟩:=zC N;obtain ⟨l1,hy17,N⟩:=zC N;refine vK [.p (vP b7 0) [],.p (vS (some ⟨b5,0,none⟩) ([x1]:List zA) 1) [0],.p (vP r01 0) [],.x (fun I' v hx=>∃ b10,v=vS (some ⟨b10,0,none⟩) ([0,1]:List Int) 2∧hx=[]∧(SL I' (vS (some ⟨b10,0,none⟩) ([0,1]:List Int) 2) ([0,1]:List Int))),.x (fun I' v hx=>∃ p27 c27,v=vI y29∧hx=[hB r01 (cRd y30 p27 c27)]∧(S4 I' p27 y30.b c27)),.x (fun I' v hx=>∃ p28 c28 cs11,v=vA (cAff y31 p28 c28)∧hx=[hO Int (vS p28 y31.Coefs c28) cs11]∧(RL I' cs11 y31.Coefs)),.x (fun I' v hx=>∃ b11,v=vS (some ⟨b11,0,none⟩) ([y31]:List zA) 1∧hx=[]∧(SL I' (vS (some ⟨b11,0,none⟩) ([y31]:List zA) 1) ([y31]:List zA))),.x (fun I' v hx=>∃ p29 c29 cs12,v=vS p29 l1 c29∧hx=[hO zA (vS p29 l1 c29) cs12]∧(RL I' cs12 l1))] [[],[(0,false)],[],[],[(2,false),(3,false),(10,true)],[(4,false)],[(5,true)],[(1,false),(6,false),(11,true)]] [hB b7 [vS (some ⟨b5,0,none⟩) ([x1]:List zA) 1,vS (some ⟨b6,0,none⟩) ([x2]:List zA) 1],hO zA (vS (some ⟨b6,0,none⟩) ([x2]:List zA) 1) (cAff x2 p8 c8),hB b zTwo] [[hB r01 (cRd y23 p18 c18)],[hO zA (vS (some ⟨b5,0,none⟩) ([x1]:List zA) 1) (cAff x1 p7 c7)]] [(4,true),(7,true)] (yH [1,2,4,0,3]) ?_ ?_
       · refine Op<|Op<|Op<|Ox ?_<|Ox ?_<|Ox ?_<|Ox ?_<|Ox ?_<|On
         · intro I1 hf le1;refine yX [] ?_;have H:=iS I1;refine xW [vI 0,vI 1] Int ?_;intro b10 hb10;have h58:RL I1 [vI 0,vI 1] ([0,1]:List Int):=⟨[vI 0],_,rfl,rfl,rfl,⟨[vI 1],_,rfl,rfl,rfl,rfl⟩⟩;refine yJ 0 rfl ?_;intro I030 le28 hl010;have h59:=SL.of_frozen hl010 le28 h58;have H:=H.trans le28;exact yY [] H ⟨_,rfl,rfl,h59⟩
         · intro I1 hf le1;refine zH ?_;rintro _ _ ⟨rfl,rfl⟩;refine zH ?_;rintro _ _ ⟨b10,rfl,rfl,h59⟩;refine zH ?_;rintro _ _ rfl;refine yX [(58,vP r01 0),(59,vS (some ⟨b10,0,none⟩) ([0,1]:List Int) 2)] ?_;have H:=iS I1;have h42:=h42.mono le1;refine tF [hB r01 (cRd y23 p18 c18)] (hB b7 [vS (some ⟨b5,0,none⟩) ([x1]:List zA) 1,vS (some ⟨b6,0,none⟩) ([x2]:List zA) 1]::hO zA (vS (some ⟨b6,0,none⟩) ([x2]:List zA) 1) (cAff x2 p8 c8)::hB b zTwo::hf) (yW y23 ([0,1]:List Int) _ hy15 h42 h59) ?_;rintro I031 hs2 v2 k2 le29 - ⟨v020,kk7,rfl,rfl,rfl,h61⟩ -;have H:=H.trans le29;obtain ⟨p27,c27,rfl,h62⟩:=yE h61;exact yY [hB r01 (cRd y30 p27 c27)] H ⟨_,_,rfl,rfl,h62⟩
         · intro I1 hf le1;refine zH ?_;rintro _ _ ⟨p27,c27,rfl,rfl,h62⟩;refine yX [(60,vI y29)] ?_;have H:=iS I1;refine xX (vU y29 _ hy16 ) ?_;rintro I032 hs2 v2 k2 le30 - ⟨p28,c28,cs11,rfl,rfl,h63⟩ -;have H:=H.trans le30;exact yY [hO Int (vS p28 y31.Coefs c28) cs11] H ⟨_,_,_,rfl,rfl,h63⟩
         · intro I1 hf le1;refine zH ?_;rintro _ _ ⟨p28,c28,cs11,rfl,rfl,h63⟩;refine yX [(61,vA (cAff y31 p28 c28))] ?_;have H:=iS I1;refine yJ 0 rfl ?_;intro I033 le31 hl011;have h64:=SL.of_frozen hl011 le31 h63;have H:=H.trans le31;refine xW (cAff y31 p28 c28) zA ?_;intro b11 hb11;have h65:RL I033 (cAff y31 p28 c28) ([y31]:List zA):=⟨(cAff y31 p28 c28),_,rfl,rfl,(yP ⟨_,rfl,h64⟩),rfl⟩;refine yJ 0 rfl ?_;intro I034 le32 hl012;have h66:=SL.of_frozen hl012 le32 h65;have H:=H.trans le32;exact yY [] H ⟨_,rfl,rfl,h66⟩
         intro I1 hf le1;refine zH ?_;rintro _ _ ⟨rfl,rfl⟩;refine zH ?_;rintro _ _ ⟨b11,rfl,rfl,h66⟩;refine zH ?_;rintro _ _ rfl;refine yX [(57,vS (some ⟨b5,0,none⟩) ([x1]:List zA) 1),(62,vS (some ⟨b11,0,none⟩) ([y31]:List zA) 1)] ?_;have h38:=iM le1 h38;obtain ⟨ccs1,k02,k03⟩:=h66;have h66:SL I1 (vS (some ⟨b11,0,none⟩) ([y31]:List zA) 1) ([y31]:List zA):=⟨_,k02,k03⟩;exact qZ 44 2 0 rfl rfl rfl h38 (.inl k02) k03 hy17 fun p29 c29 cs12 h67=>uY (hs':=(hO zA (vS p29 l1 c29) cs12::hB b7 [vS (some ⟨b5,0,none⟩) ([x1]:List zA) 1,vS (some ⟨b6,0,none⟩) ([x2]:List zA) 1]::hO zA (vS (some ⟨b6,0,none⟩) ([x2]:List zA) 1) (cAff x2 p8 c8)::hB b zTwo::hf)) rfl<|yY [hO zA (vS p29 l1 c29) cs12] iR ⟨_,_,_,rfl,rfl,h67⟩
       intro I035 le33;refine zH ?_;rintro _ _ ⟨p27,c27,rfl,rfl,h62⟩;refine zH ?_;rintro _ _ ⟨p29,c29,cs12,rfl,rfl,h67⟩;refine yX [(4,vP b 0),(8,vP b7 0),(63,vS p29 l1 c29)] ?_;have H:=H.trans le33;exact yG 9 [] [(64,vP b7 0)]<|xN 2 [vS p29 l1 c29,vS (some ⟨b6,0,none⟩) ([x2]:List zA) 1] [hO zA (vS p29 l1 c29) cs12,hB r01 (cRd y30 p27 c27),hB b7 [vS p29 l1 c29,vS (some ⟨b6,0,none⟩) ([x2]:List zA) 1],hO zA (vS (some ⟨b6,0,none⟩) ([x2]:List zA) 1) (cAff x2 p8 c8),hB b zTwo] rfl rfl rfl rfl<|yN rfl<|wB (yD [1,2,3,0,4] rfl (by decide))<|yV [(4,vP b 0),(8,vP b7 0)]<|zV ⟨_,_,_,_,_,_,_,(zB N).symm,H,h67,h62,rfl,rfl⟩
     intro hc4 N;exact zZ<|yV [(4,vP b 0),(8,vP b7 0)]<|zV ⟨_,_,_,_,_,_,_,(zB N).symm,H,h38,h42,rfl,rfl⟩
   rintro I029 hs2 m2 ⟨Lo1,x7,p25,c25,cs10,p26,c26,heq3,le34,h56,h57,rfl,rfl⟩;subst o04;have h39:=iM le34 h39;have H:=H.trans le34;exact yV [(4,vP b 0),(8,vP b7 0)]<|zV ⟨_,_,_,_,_,_,_,_,_,_,_,(zB hMc4).symm,H,h56,h39,h57,rfl,rfl⟩
 rintro I022 hs2 m2 ⟨Lo,Hi,x6,p19,c19,cs6,p20,c20,cs7,p21,c21,heq4,le35,h43,h44,h45,rfl,rfl⟩;subst o03;refine zU<|xP<|yG 1 [1] [(65,vA [vS p19 Lo c19,vS p20 Hi c20])]<|xN 4 [vS p19 Lo c19,vS p20 Hi c20] [hB r01 (cRd x6 p21 c21),hB b7 [vS p19 Lo c19,vS p20 Hi c20],hO zA (vS p20 Hi c20) cs7,hO zA (vS p19 Lo c19) cs6,hB b [vS p19 Lo c19,vS p20 Hi c20]] rfl rfl rfl rfl<|yN rfl<|zE<|yC<|xO 3 rfl ?_;intro I036 le36 hl013;have h68:=SL.of_frozen hl013 le36 h43;have h45:=h45.mono le36;have h44:=iM le36 h44;refine xO 2 rfl ?_;intro I037 le37 hl014;have h69:=SL.of_frozen hl014 le37 h44;have h45:=h45.mono le37;have h68:=h68.mono le37;obtain rfl:=zB hMc3;exact xM ⟨_,_,(.cell 2 rfl rfl (by kernel_rfl) ResV.nil),(yD [0] rfl (by decide)),⟨_,_,rfl,rfl,⟨_,rfl,(pS ⟨_,_,rfl,h68,h69⟩)⟩,(yS ⟨_,rfl,h45⟩)⟩⟩
def zCV (b0:Nat) (r:(List zD)×zJ):KT:=fun kk I' hs' v=>
  ∃ v0 k0,hs'=[.blk b0 ⟨k0⟩]∧v=tupV [v0]∧SL I' v0 r.1∧Rp.rep I' k0 r.2
def rV (out:List zD) (i:Int) (x:zJ):Option ((List zD×zJ)):=do
 if (decide (i > 0)) then
  let (y4,y5)←mU x (out.length:Int)
  let out2←app 48 out ([y4]:List zD)
  rV out2 (W (i - 1)) y5
 else
  pure (out,x)
 partial_fixpoint
theorem zBg :∀ (out:List zD) (i:Int) (x:zJ) (o:(List zD×zJ)),rV out i x=some o→∀ {B}{I0 I:Imm}{Q}  {r01:Nat}{p2 c2 cs p3 c3},I0.le I→(RL I cs out)→(S4 I p3 x.b c3)→NG Q→NO Q→(∀ (I':Imm) (out1:List zD) (x1:zJ) (p4:Option Addr) (c4:Nat) (cs1:List Value) (p5:Option Addr) (c5:Nat),o=(out1,x1)→I0.le I'→(RL I' cs1 out1)→(S4 I' p5 x1.b c5)→T 21 B Q (.exit 0) I' [hB r01 (cRd x1 p5 c5),hO zD (vS p4 out1 c4) cs1] [(3,vS p4 out1 c4)])→J Tryz.prog 21 B (nav (bodyOf Tryz.f137) [1,1,0,1,0]) Q I [hB r01 (cRd x p3 c3),hO zD (vS p2 out c2) cs] [(0,vP r01 0),(3,vS p2 out c2),(4,vI i)]:=by
 refine rV.partial_correctness  _ fun self ih out i x o N B I0 I Q r01 p2 c2 cs p3 c3 H h7 h8 hg ho hx=>xD hg ho<|yK<|yI [(10,.bool (decide (i > 0)))]<|zE<|yO N ?_ ?_
 · intro hc N;refine zZ<|yL<|zX<|zR<|yG 4 [] [(13,vS p2 out c2),(14,vP r01 0),(16,vI (out.length:Int))] ?_;obtain ⟨⟨y4,y5⟩,hy1,N⟩:=zC N;refine tF [hB r01 (cRd x p3 c3)] [hO zD (vS p2 out c2) cs] (zD4 x (out.length:Int) _ hy1 h8) ?_;rintro I02 hs2 v2 k2 le2 - ⟨v02,kk1,rfl,rfl,⟨cs2,rfl,h11⟩,h12⟩ -;have h7:=iM le2 h7;have H:=H.trans le2;obtain ⟨p6,c6,p7,c7,rfl,h13,h14⟩:=tB h11;obtain ⟨p8,c8,rfl,h15⟩:=yE h12;refine xW (cLoop y4 p6 c6 p7 c7) zD ?_;intro b2 hb2;have h16:RL I02 (cLoop y4 p6 c6 p7 c7) ([y4]:List zD):=⟨(cLoop y4 p6 c6 p7 c7),_,rfl,rfl,(pS ⟨_,_,rfl,h13,h14⟩),rfl⟩;obtain ⟨out2,hy2,N⟩:=zC N;exact qZ 169 2 2 rfl rfl rfl h7 (.inr ⟨0,rfl⟩) h16 hy2 fun p9 c9 cs3 h17=>rP (yH [1,2] (hs':=[hB r01 (cRd y5 p8 c8),hO zD (vS p9 out2 c9) cs3]))<|yF [] [(3,vS p9 out2 c9)]<|zU<|zE<|zR<|yF [] [(4,vI (W (i - 1)))]<|xE<|vM [(0,vP r01 0),(3,vS p9 out2 c9),(4,vI (W (i - 1)))]<|ih out2 (W (i - 1)) y5 _ N H h17 h15 hg ho hx
 intro hc N;exact xC<|zO<|zO<|yV [(3,vS p2 out c2)]<|hx _ _ _ _ _ _ _ _ (zB N).symm H h7 h8
def mV (r0:zJ):Option ((List zD)×zJ):=do
 let (y1,y2)←yR r0 ([2,1,2,3]:List Int)
 let (out1,x1)←rV ([]:List zD) y1 y2
 pure (out1,x1)
theorem zD5:∀ r0 r,mV r0=some r→∀ {I:Imm}{r01:Nat}{p c},(S4 I p r0.b c)→Ret Tryz.prog 137 [vP r01 0] I [hB r01 (cRd r0 p c)] (zCV r01 r):=by
 intro r0 r N I r01 p c h;unfold mV at N;refine yB (fn:=Tryz.f137) (c:=(bodyOf Tryz.f137)) Tryz.func137 rfl rfl ?_;rintro B - -;refine yI []<|xP<|xW [] zD ?_;intro b hb;have h1:RL I [] ([]:List zD):=rfl;refine yF [] [(3,vS (some ⟨b,0,none⟩) ([]:List zD) 0)]<|yL<|yM<|yG 1 [] [(6,vP r01 0)]<|xW [vI 2,vI 1,vI 2,vI 3] Int ?_;intro b1 hb1;have h2:RL I [vI 2,vI 1,vI 2,vI 3] ([2,1,2,3]:List Int):=⟨[vI 2],_,rfl,rfl,rfl,⟨[vI 1],_,rfl,rfl,rfl,⟨[vI 2],_,rfl,rfl,rfl,⟨[vI 3],_,rfl,rfl,rfl,rfl⟩⟩⟩⟩;refine yJ 0 rfl ?_;intro I0 le hl0;have h3:=SL.of_frozen hl0 le h2;have h1:=iM le h1;have h:=h.mono le;refine rP (yH [1,0] (hs':=[hB r01 (cRd r0 p c),hO zD (vS (some ⟨b,0,none⟩) ([]:List zD) 0) []])) ?_;obtain ⟨⟨y1,y2⟩,hy,N⟩:=zC N;refine tF [hB r01 (cRd r0 p c)] [hO zD (vS (some ⟨b,0,none⟩) ([]:List zD) 0) []] (yW r0 ([2,1,2,3]:List Int) _ hy h h3) ?_;rintro I01 hs2 v2 k2 le1 - ⟨v0,kk,rfl,rfl,rfl,h5⟩ -;have h1:=iM le1 h1;obtain ⟨p1,c1,rfl,h6⟩:=yE h5;refine yF [] [(4,vI y1)]<|zE<|zX<|vM [(0,vP r01 0),(3,vS (some ⟨b,0,none⟩) ([]:List zD) 0),(4,vI y1)] ?_;obtain ⟨o0,ho0,hMl⟩:=zC N;refine zBg ([]:List zD) y1 y2 o0 ho0 iR h1 h6 (fun _ _ _ h=>h) (fun _ _ h=>h) ?_;intro I03 out1 x1 p4 c4 cs1 p5 c5 heq le3 h9 h10;subst o0;refine zY<|vO [(2,vS p4 out1 c4)]<|zE<|yC<|xO 1 rfl ?_;intro I04 le4 hl01;have h18:=SL.of_frozen hl01 le4 h9;have h10:=h10.mono le4;obtain rfl:=zB hMl;exact xM ⟨_,_,(.tmp rfl ResV.nil),(yD [0] rfl (by decide)),⟨_,_,rfl,rfl,h18,(yS ⟨_,rfl,h10⟩)⟩⟩
def zCW (b0:Nat) (r:zI×zJ):KT:=fun kk I' hs' v=>
  ∃ v0 k0,hs'=[.blk b0 ⟨k0⟩]∧v=tupV [v0]∧(∃ cs,v0=.agg ⟨cs⟩∧Rp.rep I' cs r.1)∧Rp.rep I' k0 r.2
def rW (depth:Int) (n0:Int) (i:Int) (Subs:List zA) (x:zJ):Option ((List zA×zJ)):=do
 if (decide (i < n0)) then
  let (y4,y5)←yR x ([0,1,0,2]:List Int)
  let y6←wJ y4
  let (t32,x2)←(do
    if (decide (depth > 0)) then
     let (y8,y9)←yT y5 5
     pure ((decide (y8 > 0)),y9)
    else
     pure (false,y5)
      : Option (Bool×zJ))
  let (x3,x4)←(do
    if t32 then
     let (y11,y12)←yT x2 depth
     let y13←pF y11
     let (y15,y16)←yR y12 ([1,1,1,2,(-1)]:List Int)
     let (y18,y19)←yR y16 ([0,1,0,0,2]:List Int)
     let y20←wJ y18
     let y21←pL y13 y15 y20 1
     pure (y21,y19)
    else
     pure ((zA.mk y6.Coefs y6.Const),x2)
      : Option (zA×zJ))
  let l←app 32 Subs ([x3]:List zA)
  rW depth n0 (W (i + 1)) l x4
 else
  pure (Subs,x)
 partial_fixpoint
theorem zBh (depth:Int) (n0:Int):∀ (i:Int) (Subs:List zA) (x:zJ) (o:(List zA×zJ)),rW depth n0 i Subs x=some o→∀ {B}{I0 I:Imm}{Q}{y1:Str}{r01:Nat}{b:Nat}{b2:Nat}{p2 c2 cs p3 c3},I0.le I→(RL I cs Subs)→(S4 I p3 x.b c3)→NG Q→NO Q→(∀ (I':Imm) (Subs1:List zA) (x1:zJ) (p4:Option Addr) (c4:Nat) (cs1:List Value) (p5:Option Addr) (c5:Nat),o=(Subs1,x1)→I0.le I'→(RL I' cs1 Subs1)→(S4 I' p5 x1.b c5)→T 53 B Q (.exit 0) I' [hO zA (vS p4 Subs1 c4) cs1,hB b2 [vT y1.l,vS p4 Subs1 c4],hB r01 (cRd x1 p5 c5),hB b [vT ([]),z0]] [(4,vP b 0),(5,vP b2 0)])→J Tryz.prog 53 B (nav (bodyOf Tryz.f172) [1,1,1,1,0,1,0]) Q I [hO zA (vS p2 Subs c2) cs,hB b2 [vT y1.l,vS p2 Subs c2],hB r01 (cRd x p3 c3),hB b [vT ([]),z0]] [(0,vP r01 0),(1,vI depth),(4,vP b 0),(5,vP b2 0),(6,vI n0),(7,vI i)]:=by
 refine rW.partial_correctness depth n0 _ fun self ih i Subs x o N B I0 I Q y1 r01 b b2 p2 c2 cs p3 c3 H h7 h8 hg ho hx=>xD hg ho<|yK<|yI [(19,.bool (decide (i < n0)))]<|zE<|yO N ?_ ?_
 · intro hc1 N;refine zZ<|yL<|zX<|yM<|yG 1 [] [(22,vP r01 0)]<|xW [vI 0,vI 1,vI 0,vI 2] Int ?_;intro b3 hb3;have h11:RL I [vI 0,vI 1,vI 0,vI 2] ([0,1,0,2]:List Int):=⟨[vI 0],_,rfl,rfl,rfl,⟨[vI 1],_,rfl,rfl,rfl,⟨[vI 0],_,rfl,rfl,rfl,⟨[vI 2],_,rfl,rfl,rfl,rfl⟩⟩⟩⟩;refine yJ 0 rfl ?_;intro I03 le3 hl01;have h12:=SL.of_frozen hl01 le3 h11;have h7:=iM le3 h7;have h8:=h8.mono le3;have H:=H.trans le3;refine rP (yH [2,0,1,3] (hs':=[hB r01 (cRd x p3 c3),hO zA (vS p2 Subs c2) cs,hB b2 [vT y1.l,vS p2 Subs c2],hB b [vT ([]),z0]])) ?_;obtain ⟨⟨y4,y5⟩,hy1,N⟩:=zC N;refine tF [hB r01 (cRd x p3 c3)] [hO zA (vS p2 Subs c2) cs,hB b2 [vT y1.l,vS p2 Subs c2],hB b [vT ([]),z0]] (yW x ([0,1,0,2]:List Int) _ hy1 h8 h12) ?_;rintro I04 hs2 v2 k2 le4 - ⟨v02,kk1,rfl,rfl,rfl,h14⟩ -;have h7:=iM le4 h7;have H:=H.trans le4;obtain ⟨p6,c6,rfl,h15⟩:=yE h14;obtain ⟨y6,hy2,N⟩:=zC N;refine xX (vU y4 _ hy2 ) ?_;rintro I05 hs2 v2 k2 le5 - ⟨p7,c7,cs2,rfl,rfl,h16⟩ -;have h15:=h15.mono le5;have h7:=iM le5 h7;have H:=H.trans le5;refine uK [z0,vI 0] ?_;intro b4 hb4;refine xN 0 (cAff y6 p7 c7) [hB b4 (cAff y6 p7 c7),hO Int (vS p7 y6.Coefs c7) cs2,hB r01 (cRd y5 p6 c6),hO zA (vS p2 Subs c2) cs,hB b2 [vT y1.l,vS p2 Subs c2],hB b [vT ([]),z0]] rfl rfl rfl rfl<|yN rfl<|yL<|yK ?_;obtain ⟨o01,ho01,hMc1⟩:=zC N;refine yU (fun I' hs' m'=>∃ (t32:Bool) (x2:zJ) (p8:Option Addr) (c8:Nat),o01=(t32,x2)∧I05.le I'∧(S4 I' p8 x2.b c8)∧hs'=[hB b4 (cAff y6 p7 c7),hO Int (vS p7 y6.Coefs c7) cs2,hB r01 (cRd x2 p8 c8),hO zA (vS p2 Subs c2) cs,hB b2 [vT y1.l,vS p2 Subs c2],hB b [vT ([]),z0]]∧m'=[(0,vP r01 0),(1,vI depth),(4,vP b 0),(5,vP b2 0),(6,vI n0),(7,vI i),(8,vP b4 0),(32,.bool t32)]) ?_ ?_
   · have H:=iS I05;refine zR<|yG 3 [] [(28,.bool (decide (depth > 0)))] ?_;cases hc2:(decide (depth > 0)) with
     | true =>
      have hM0:=zQ hc2 ho01
      try rw [hc2]
      refine yG 4 [] [(29,vP r01 0)]<|rP (yH [2,0,1,3,4,5] (hs':=[hB r01 (cRd y5 p6 c6),hB b4 (cAff y6 p7 c7),hO Int (vS p7 y6.Coefs c7) cs2,hO zA (vS p2 Subs c2) cs,hB b2 [vT y1.l,vS p2 Subs c2],hB b [vT ([]),z0]])) ?_;obtain ⟨⟨y8,y9⟩,hy3,N⟩:=zC hM0;refine tF [hB r01 (cRd y5 p6 c6)] [hB b4 (cAff y6 p7 c7),hO Int (vS p7 y6.Coefs c7) cs2,hO zA (vS p2 Subs c2) cs,hB b2 [vT y1.l,vS p2 Subs c2],hB b [vT ([]),z0]] (xG y5 5 _ hy3 h15) ?_;rintro I07 hs2 v2 k2 le6 - ⟨v04,kk2,rfl,rfl,rfl,h19⟩ -;have H:=H.trans le6;obtain ⟨p9,c9,rfl,h20⟩:=yE h19;exact yF [] [(32,.bool (decide (y8 > 0)))]<|wB (yD [1,2,0,3,4,5] rfl (by decide))<|yV [(0,vP r01 0),(1,vI depth),(4,vP b 0),(5,vP b2 0),(6,vI n0),(7,vI i),(8,vP b4 0),(32,.bool (decide (y8 > 0)))]<|zV ⟨_,_,_,_,(zB N).symm,H,h20,rfl,rfl⟩
     | false =>
      have hM01:=zN hc2 ho01
      try rw [hc2]
      exact yF [] [(32,vF)]<|yV [(0,vP r01 0),(1,vI depth),(4,vP b 0),(5,vP b2 0),(6,vI n0),(7,vI i),(8,vP b4 0),(32,vF)]<|zV ⟨_,_,_,_,(zB hM01).symm,H,h15,rfl,rfl⟩
   rintro I06 hs2 m2 ⟨t32,x2,p8,c8,heq1,le7,h17,rfl,rfl⟩;subst o01;have h16:=iM le7 h16;have h7:=iM le7 h7;have H:=H.trans le7;refine zE<|pQ 1 rfl ?_;intro I08 le8 hl02;have h21:=SL.of_frozen hl02 le8 h16;have h17:=h17.mono le8;have h7:=iM le8 h7;have H:=H.trans le8;obtain ⟨o02,ho02,hMc2⟩:=zC hMc1;refine yU (fun I' hs' m'=>∃ (x3:zA) (x4:zJ) (p10:Option Addr) (c10:Nat) (p11:Option Addr) (c11:Nat),o02=(x3,x4)∧I08.le I'∧(S4 I' p10 x3.Coefs c10)∧(S4 I' p11 x4.b c11)∧hs'=[hB b4 (cAff x3 p10 c10),hB r01 (cRd x4 p11 c11),hO zA (vS p2 Subs c2) cs,hB b2 [vT y1.l,vS p2 Subs c2],hB b [vT ([]),z0]]∧m'=[(0,vP r01 0),(1,vI depth),(4,vP b 0),(5,vP b2 0),(6,vI n0),(7,vI i),(8,vP b4 0)]) ?_ ?_
   · have H:=iS I08;refine yO ho02 ?_ ?_
     · intro hc3 N;refine yM<|yG 2 [] [(33,vP r01 0),(34,vI depth)]<|rP (yH [1,0,2,3,4] (hs':=[hB r01 (cRd x2 p8 c8),hB b4 (cAff y6 p7 c7),hO zA (vS p2 Subs c2) cs,hB b2 [vT y1.l,vS p2 Subs c2],hB b [vT ([]),z0]])) ?_;obtain ⟨⟨y11,y12⟩,hy4,N⟩:=zC N;refine tF [hB r01 (cRd x2 p8 c8)] [hB b4 (cAff y6 p7 c7),hO zA (vS p2 Subs c2) cs,hB b2 [vT y1.l,vS p2 Subs c2],hB b [vT ([]),z0]] (xG x2 depth _ hy4 h17) ?_;rintro I010 hs2 v2 k2 le9 - ⟨v06,kk3,rfl,rfl,rfl,h25⟩ -;have H:=H.trans le9;obtain ⟨p12,c12,rfl,h26⟩:=yE h25;refine yF [] [(9,vI y11)]<|zE<|zR<|yG 1 [] [(36,vI y11)]<|bE N fun y13 hy5 N=>xX (mT y11 _ hy5 ) ?_;rintro I011 hs2 v2 k2 le10 - ⟨v08,rfl,rfl,⟨cs3,rfl,h27⟩⟩ -;have h26:=h26.mono le10;have H:=H.trans le10;obtain ⟨p13,c13,rfl,h28⟩:=yQ h27;refine yG 3 [] [(38,vP r01 0)]<|xW [vI 1,vI 1,vI 1,vI 2,vI (-1)] Int ?_;intro b5 hb5;have h29:RL I011 [vI 1,vI 1,vI 1,vI 2,vI (-1)] ([1,1,1,2,(-1)]:List Int):=⟨[vI 1],_,rfl,rfl,rfl,⟨[vI 1],_,rfl,rfl,rfl,⟨[vI 1],_,rfl,rfl,rfl,⟨[vI 2],_,rfl,rfl,rfl,⟨[vI (-1)],_,rfl,rfl,rfl,rfl⟩⟩⟩⟩⟩;refine yJ 0 rfl ?_;intro I012 le11 hl03;have h30:=SL.of_frozen hl03 le11 h29;have h28:=h28.mono le11;have h26:=h26.mono le11;have H:=H.trans le11;obtain ⟨⟨y15,y16⟩,hy6,N⟩:=zC N;refine tF [hB r01 (cRd y12 p12 c12)] [hB b4 (cAff y6 p7 c7),hO zA (vS p2 Subs c2) cs,hB b2 [vT y1.l,vS p2 Subs c2],hB b [vT ([]),z0]] (yW y12 ([1,1,1,2,(-1)]:List Int) _ hy6 h26 h30) ?_;rintro I013 hs2 v2 k2 le12 - ⟨v010,kk4,rfl,rfl,rfl,h32⟩ -;have h28:=h28.mono le12;have H:=H.trans le12;obtain ⟨p14,c14,rfl,h33⟩:=yE h32;refine yG 6 [] [(41,vP r01 0)]<|xW [vI 0,vI 1,vI 0,vI 0,vI 2] Int ?_;intro b6 hb6;have h34:RL I013 [vI 0,vI 1,vI 0,vI 0,vI 2] ([0,1,0,0,2]:List Int):=⟨[vI 0],_,rfl,rfl,rfl,⟨[vI 1],_,rfl,rfl,rfl,⟨[vI 0],_,rfl,rfl,rfl,⟨[vI 0],_,rfl,rfl,rfl,⟨[vI 2],_,rfl,rfl,rfl,rfl⟩⟩⟩⟩⟩;refine yJ 0 rfl ?_;intro I014 le13 hl04;have h35:=SL.of_frozen hl04 le13 h34;have h28:=h28.mono le13;have h33:=h33.mono le13;have H:=H.trans le13;obtain ⟨⟨y18,y19⟩,hy7,N⟩:=zC N;refine tF [hB r01 (cRd y16 p14 c14)] [hB b4 (cAff y6 p7 c7),hO zA (vS p2 Subs c2) cs,hB b2 [vT y1.l,vS p2 Subs c2],hB b [vT ([]),z0]] (yW y16 ([0,1,0,0,2]:List Int) _ hy7 h33 h35) ?_;rintro I015 hs2 v2 k2 le14 - ⟨v012,kk5,rfl,rfl,rfl,h37⟩ -;have h28:=h28.mono le14;have H:=H.trans le14;obtain ⟨p15,c15,rfl,h38⟩:=yE h37;obtain ⟨y20,hy8,N⟩:=zC N;refine xX (vU y18 _ hy8 ) ?_;rintro I016 hs2 v2 k2 le15 - ⟨p16,c16,cs4,rfl,rfl,h39⟩ -;have h28:=h28.mono le15;have h38:=h38.mono le15;have H:=H.trans le15;refine yJ 0 rfl ?_;intro I017 le16 hl05;have h40:=SL.of_frozen hl05 le16 h39;have h28:=h28.mono le16;have h38:=h38.mono le16;have H:=H.trans le16;obtain ⟨y21,hy9,N⟩:=zC N;refine xX (fC y13 y15 y20 1 _ hy9 h28 h40) ?_;rintro I018 hs2 v2 k2 le17 - ⟨v014,rfl,rfl,⟨cs5,rfl,h41⟩⟩ -;have h38:=h38.mono le17;have H:=H.trans le17;obtain ⟨p17,c17,rfl,h42⟩:=yQ h41;exact xN 1 (cAff y21 p17 c17) [hB r01 (cRd y19 p15 c15),hB b4 (cAff y21 p17 c17),hO zA (vS p2 Subs c2) cs,hB b2 [vT y1.l,vS p2 Subs c2],hB b [vT ([]),z0]] rfl rfl rfl rfl<|yN rfl<|wB (yD [1,0,2,3,4] rfl (by decide))<|yV [(0,vP r01 0),(1,vI depth),(4,vP b 0),(5,vP b2 0),(6,vI n0),(7,vI i),(8,vP b4 0)]<|zV ⟨_,_,_,_,_,_,(zB N).symm,H,h42,h38,rfl,rfl⟩
     intro hc3 N;exact zZ<|yV [(0,vP r01 0),(1,vI depth),(4,vP b 0),(5,vP b2 0),(6,vI n0),(7,vI i),(8,vP b4 0)]<|zV ⟨_,_,_,_,_,_,(zB N).symm,H,h21,h17,rfl,rfl⟩
   rintro I09 hs2 m2 ⟨x3,x4,p10,c10,p11,c11,heq2,le18,h22,h23,rfl,rfl⟩;subst o02;have h7:=iM le18 h7;have H:=H.trans le18;refine zE<|zR<|yG 3 [3,0] [(47,vS p2 Subs c2),(48,vA (cAff x3 p10 c10))]<|xW (cAff x3 p10 c10) zA ?_;intro b7 hb7;have h43:RL I09 (cAff x3 p10 c10) ([x3]:List zA):=⟨(cAff x3 p10 c10),_,rfl,rfl,(yP ⟨_,rfl,h22⟩),rfl⟩;obtain ⟨l,hy10,N⟩:=zC hMc2;refine qZ 44 2 3 rfl rfl rfl h7 (.inr ⟨0,rfl⟩) h43 hy10 ?_;intro p18 c18 cs6 h44;exact rP (yH [1,2,3,4,5] (hs':=[hB b4 (cAff x3 p10 c10),hB r01 (cRd x4 p11 c11),hO zA (vS p18 l c18) cs6,hB b2 [vT y1.l,vS p2 Subs c2],hB b [vT ([]),z0]]))<|yG 6 [] [(51,vP b2 1)]<|xN 3 [vT y1.l,vS p18 l c18] [hB b4 (cAff x3 p10 c10),hB r01 (cRd x4 p11 c11),hO zA (vS p18 l c18) cs6,hB b2 [vT y1.l,vS p18 l c18],hB b [vT ([]),z0]] rfl rfl rfl rfl<|yN rfl<|zU<|zE<|zR<|yF [] [(7,vI (W (i + 1)))]<|xE<|pJ (yD [2,3,1,4] rfl (by decide))<|vM [(0,vP r01 0),(1,vI depth),(4,vP b 0),(5,vP b2 0),(6,vI n0),(7,vI (W (i + 1)))]<|ih (W (i + 1)) l x4 _ N H h44 h23 hg ho hx
 intro hc1 N;exact xC<|zO<|zO<|yV [(4,vP b 0),(5,vP b2 0)]<|hx _ _ _ _ _ _ _ _ (zB N).symm H h7 h8
def oR (r0:zJ) (depth:Int):Option (zI×zJ):=do
 let (y1,y2)←qT r0 ([(⟨[65]⟩:Str),(⟨[66]⟩:Str),(⟨[65]⟩:Str),(⟨[67]⟩:Str)]:List Str)
 let n0←(do
   if (y1.l == ([66]:List UInt8)) then
    pure (id 2)
   else
    pure (id 1)
     : Option Int)
 let (Subs1,x1)←rW depth n0 0 ([]:List zA) y2
 pure ((zI.mk y1 Subs1),x1)
theorem zAH:∀ r0 depth r,oR r0 depth=some r→∀ {I:Imm}{r01:Nat}{p c},(S4 I p r0.b c)→Ret Tryz.prog 172 [vP r01 0,vI depth] I [hB r01 (cRd r0 p c)] (zCW r01 r):=by
 intro r0 depth r N I r01 p c h;unfold oR at N;refine yB (fn:=Tryz.f172) (c:=(bodyOf Tryz.f172)) Tryz.func172 rfl rfl ?_;rintro B - -;have H:=iS I;refine yM<|uK [vT ([]),z0] ?_;intro b hb;refine yN rfl<|xP<|yG 1 [] [(10,vP r01 0)]<|xW [vT ([65]),vT ([66]),vT ([65]),vT ([67])] Str ?_;intro b1 hb1;have h1:RL I [vT ([65]),vT ([66]),vT ([65]),vT ([67])] ([(⟨[65]⟩:Str),(⟨[66]⟩:Str),(⟨[65]⟩:Str),(⟨[67]⟩:Str)]:List Str):=⟨[vT ([65])],_,rfl,rfl,rfl,⟨[vT ([66])],_,rfl,rfl,rfl,⟨[vT ([65])],_,rfl,rfl,rfl,⟨[vT ([67])],_,rfl,rfl,rfl,rfl⟩⟩⟩⟩;refine yJ 0 rfl ?_;intro I0 le hl0;have h2:=SL.of_frozen hl0 le h1;have h:=h.mono le;have H:=H.trans le;refine rP (yH [1,0] (hs':=[hB r01 (cRd r0 p c),hB b [vT ([]),z0]])) ?_;obtain ⟨⟨y1,y2⟩,hy,N⟩:=zC N;refine tF [hB r01 (cRd r0 p c)] [hB b [vT ([]),z0]] (kT r0 ([(⟨[65]⟩:Str),(⟨[66]⟩:Str),(⟨[65]⟩:Str),(⟨[67]⟩:Str)]:List Str) _ hy h h2) ?_;rintro I01 hs2 v2 k2 le1 - ⟨v0,kk,rfl,rfl,rfl,h4⟩ -;have H:=H.trans le1;obtain ⟨p1,c1,rfl,h5⟩:=yE h4;refine yG 4 [] [(13,vA [vT y1.l,z0])]<|uK [vT ([]),z0] ?_;intro b2 hb2;refine xN 0 [vT y1.l,z0] [hB b2 [vT y1.l,z0],hB r01 (cRd y2 p1 c1),hB b [vT ([]),z0]] rfl rfl rfl rfl<|yN rfl<|vO [(6,vI 1)]<|yL<|yM<|yF [0] [(16,.bool (y1.l == ([66]:List UInt8)))]<|zE ?_;obtain ⟨o0,ho0,hMc⟩:=zC N;refine yU (fun I' hs' m'=>∃ (n0:Int),o0=n0∧I01.le I'∧hs'=[hB b2 [vT y1.l,z0],hB r01 (cRd y2 p1 c1),hB b [vT ([]),z0]]∧m'=[(0,vP r01 0),(1,vI depth),(4,vP b 0),(5,vP b2 0),(6,vI n0)]) ?_ ?_
 · have H:=iS I01;refine yO ho0 ?_ ?_
   · intro hc N;exact zR<|yF [] [(6,vI 2)]<|yV [(0,vP r01 0),(1,vI depth),(4,vP b 0),(5,vP b2 0),(6,vI 2)]<|zV ⟨_,(zB N).symm,H,rfl,rfl⟩
   intro hc N;exact zZ<|yV [(0,vP r01 0),(1,vI depth),(4,vP b 0),(5,vP b2 0),(6,vI 1)]<|zV ⟨_,(zB N).symm,H,rfl,rfl⟩
 rintro I02 hs2 m2 ⟨n0,heq,le2,rfl,rfl⟩;subst o0;have h5:=h5.mono le2;refine yL<|yI [(7,vI 0)]<|zE<|zX<|vM [(0,vP r01 0),(1,vI depth),(4,vP b 0),(5,vP b2 0),(6,vI n0),(7,vI 0)]<|pJ (tE (Rp.sz zA)) ?_;have h6:RL I02 [] ([]:List zA):=RepL.nil;obtain ⟨o03,ho03,hMl⟩:=zC hMc;refine zBh depth n0 0 ([]:List zA) y2 o03 ho03 iR h6 h5 (fun _ _ _ h=>h) (fun _ _ h=>h) ?_;intro I019 Subs1 x1 p4 c4 cs1 p5 c5 heq3 le19 h9 h10;subst o03;refine zY<|xP<|yG 1 [1] [(52,vA [vT y1.l,vS p4 Subs1 c4])]<|xN 3 [vT y1.l,vS p4 Subs1 c4] [hO zA (vS p4 Subs1 c4) cs1,hB b2 [vT y1.l,vS p4 Subs1 c4],hB r01 (cRd x1 p5 c5),hB b [vT y1.l,vS p4 Subs1 c4]] rfl rfl rfl rfl<|yN rfl<|zE<|yC<|xO 0 rfl ?_;intro I020 le20 hl06;have h45:=SL.of_frozen hl06 le20 h9;have h10:=h10.mono le20;obtain rfl:=zB hMl;exact xM ⟨_,_,(.cell 2 rfl rfl (by kernel_rfl) ResV.nil),(yD [1] rfl (by decide)),⟨_,_,rfl,rfl,⟨_,rfl,(pK ⟨_,rfl,h45⟩)⟩,(yS ⟨_,rfl,h10⟩)⟩⟩
def zCX (b0:Nat) (r:zA×zJ):KT:=fun kk I' hs' v=>
  ∃ v0 k0,hs'=[.blk b0 ⟨k0⟩]∧v=tupV [v0]∧(∃ cs,v0=.agg ⟨cs⟩∧Rp.rep I' cs r.1)∧Rp.rep I' k0 r.2
def rX (depth:Int) (i:Int) (Coefs:List Int) (x:zJ):Option ((List Int×zJ)):=do
 if (decide (i < depth)) then
  let (y5,y6)←yR x ([0,1,0,(-1),2,0,9]:List Int)
  let x2←idx Coefs i
  let l←pure (Coefs.set i.toNat y5)
  rX depth (W (i + 1)) l y6
 else
  pure (Coefs,x)
 partial_fixpoint
theorem zBi (depth:Int):∀ (i:Int) (Coefs:List Int) (x:zJ) (o:(List Int×zJ)),rX depth i Coefs x=some o→∀ {B}{I0 I:Imm}{Q}{y3:zA}{r01:Nat}{b:Nat}{b2:Nat}{p3 c3 cs1 p4 c4},I0.le I→(RL I cs1 Coefs)→(S4 I p4 x.b c4)→NG Q→NO Q→(∀ (I':Imm) (Coefs1:List Int) (x1:zJ) (p5:Option Addr) (c5:Nat) (cs2:List Value) (p6:Option Addr) (c6:Nat),o=(Coefs1,x1)→I0.le I'→(RL I' cs2 Coefs1)→(S4 I' p6 x1.b c6)→T 24 B Q (.exit 0) I' [hB b2 [vS p5 Coefs1 c5,vI y3.Const],hO Int (vS p5 Coefs1 c5) cs2,hB r01 (cRd x1 p6 c6),hB b [z0,vI 0]] [(4,vP b 0),(5,vP b2 0)])→J Tryz.prog 24 B (nav (bodyOf Tryz.f197) [1,1,0,1,0]) Q I [hB b2 [vS p3 Coefs c3,vI y3.Const],hO Int (vS p3 Coefs c3) cs1,hB r01 (cRd x p4 c4),hB b [z0,vI 0]] [(0,vP r01 0),(1,vI depth),(4,vP b 0),(5,vP b2 0),(6,vI i)]:=by
 refine rX.partial_correctness depth _ fun self ih i Coefs x o N B I0 I Q y3 r01 b b2 p3 c3 cs1 p4 c4 H h7 h8 hg ho hx=>xD hg ho<|yK<|yI [(13,.bool (decide (i < depth)))]<|zE<|yO N ?_ ?_
 · intro hc N;refine zZ<|yL<|zX ?_;obtain ⟨⟨y5,y6⟩,hy2,N⟩:=zC N;refine vK [.p (vP b2 0) [],.p (vS p3 Coefs c3) [0],.p (vI i) [],.p (vP r01 0) [],.x (fun I' v hx=>∃ b3,v=vS (some ⟨b3,0,none⟩) ([0,1,0,(-1),2,0,9]:List Int) 7∧hx=[]∧(SL I' (vS (some ⟨b3,0,none⟩) ([0,1,0,(-1),2,0,9]:List Int) 7) ([0,1,0,(-1),2,0,9]:List Int))),.x (fun I' v hx=>∃ p7 c7,v=vI y5∧hx=[hB r01 (cRd y6 p7 c7)]∧(S4 I' p7 y6.b c7))] [[],[(0,false)],[],[],[],[(3,false),(4,false),(8,true)]] [hB b2 [vS p3 Coefs c3,vI y3.Const],hO Int (vS p3 Coefs c3) cs1,hB b [z0,vI 0]] [[hB r01 (cRd x p4 c4)]] [(1,false),(2,false),(5,true)] (yH [0,1,3,2]) ?_ ?_
   · refine Op<|Op<|Op<|Op<|Ox ?_<|Ox ?_<|On
     · intro I1 hf le1;refine yX [] ?_;have H:=iS I1;refine xW [vI 0,vI 1,vI 0,vI (-1),vI 2,vI 0,vI 9] Int ?_;intro b3 hb3;have h11:RL I1 [vI 0,vI 1,vI 0,vI (-1),vI 2,vI 0,vI 9] ([0,1,0,(-1),2,0,9]:List Int):=⟨[vI 0],_,rfl,rfl,rfl,⟨[vI 1],_,rfl,rfl,rfl,⟨[vI 0],_,rfl,rfl,rfl,⟨[vI (-1)],_,rfl,rfl,rfl,⟨[vI 2],_,rfl,rfl,rfl,⟨[vI 0],_,rfl,rfl,rfl,⟨[vI 9],_,rfl,rfl,rfl,rfl⟩⟩⟩⟩⟩⟩⟩;refine yJ 0 rfl ?_;intro I03 le3 hl01;have h12:=SL.of_frozen hl01 le3 h11;have H:=H.trans le3;exact yY [] H ⟨_,rfl,rfl,h12⟩
     intro I1 hf le1;refine zH ?_;rintro _ _ ⟨rfl,rfl⟩;refine zH ?_;rintro _ _ ⟨b3,rfl,rfl,h12⟩;refine zH ?_;rintro _ _ rfl;refine yX [(19,vP r01 0),(20,vS (some ⟨b3,0,none⟩) ([0,1,0,(-1),2,0,9]:List Int) 7)] ?_;have H:=iS I1;have h8:=h8.mono le1;refine tF [hB r01 (cRd x p4 c4)] (hB b2 [vS p3 Coefs c3,vI y3.Const]::hO Int (vS p3 Coefs c3) cs1::hB b [z0,vI 0]::hf) (yW x ([0,1,0,(-1),2,0,9]:List Int) _ hy2 h8 h12) ?_;rintro I04 hs2 v2 k2 le4 - ⟨v02,kk1,rfl,rfl,rfl,h14⟩ -;have H:=H.trans le4;obtain ⟨p7,c7,rfl,h15⟩:=yE h14;exact yY [hB r01 (cRd y6 p7 c7)] H ⟨_,_,rfl,rfl,h15⟩
   intro I05 le5;refine zH ?_;rintro _ _ ⟨rfl,rfl⟩;refine zH ?_;rintro _ _ ⟨rfl,rfl⟩;refine zH ?_;rintro _ _ ⟨p7,c7,rfl,rfl,h15⟩;refine yX [(0,vP r01 0),(1,vI depth),(4,vP b 0),(5,vP b2 0),(6,vI i),(17,vS p3 Coefs c3),(18,vI i),(21,vI y5)] ?_;have h7:=iM le5 h7;have H:=H.trans le5;obtain ⟨x2,hy3,N⟩:=zC N;refine mH 2 rfl rfl rfl h7 hy3 ?_;intro ad ccs hat hcc hrep;obtain rfl:=hrep;obtain ⟨l,hy4,N⟩:=zC N;refine pR (c:=[vI y5]) (x':=y5) 2 0 rfl rfl rfl hat rfl rfl hcc (by kernel_rfl) (by kernel_rfl) (by kernel_rfl) h7 hy3 (by kernel_rfl) rfl ?_;rw [show Coefs.set i.toNat y5=l from zB hy4];intro cs3 h16 hl02;exact kH (m':=[(0,vP r01 0),(1,vI depth),(4,vP b 0),(5,vP b2 0),(6,vI i),(17,vS p3 Coefs c3),(18,vI i),(21,vI y5)]) ⟨rfl,rfl,rfl,rfl,rfl,rfl,rfl,rfl,trivial⟩<|zCF (hs':=[hB r01 (cRd y6 p7 c7),hB b2 [vS p3 l c3,vI y3.Const],hO Int (vS p3 l c3) cs3,hB b [z0,vI 0]]) (m':=[(0,vP r01 0),(1,vI depth),(4,vP b 0),(5,vP b2 0),(6,vI i),(17,vS p3 l c3),(18,vI i),(21,vI y5)]) (by first | rfl | simp only [vS,hl02,List.nil_append,List.cons_append,List.set_cons_zero,List.set_cons_succ,List.eraseIdx_cons_zero,List.eraseIdx_cons_succ]) (by first | rfl | simp only [vS,hl02])<|yN rfl<|zU<|zE<|zR<|yF [] [(6,vI (W (i + 1)))]<|xE<|pJ (yD [1,2,0,3] rfl (by decide))<|vM [(0,vP r01 0),(1,vI depth),(4,vP b 0),(5,vP b2 0),(6,vI (W (i + 1)))]<|ih (W (i + 1)) l y6 _ N H h16 h15 hg ho hx
 intro hc N;exact xC<|zO<|zO<|yV [(4,vP b 0),(5,vP b2 0)]<|hx _ _ _ _ _ _ _ _ (zB N).symm H h7 h8
def mA (r0:zJ) (depth:Int):Option (zA×zJ):=do
 let (y1,y2)←yR r0 ([0,1,(-1),2,0,5,(-9),99]:List Int)
 let y3←wJ y1
 let (Coefs1,x1)←rX depth 0 y3.Coefs y2
 pure ((zA.mk Coefs1 y3.Const),x1)
theorem zD6:∀ r0 depth r,mA r0 depth=some r→∀ {I:Imm}{r01:Nat}{p c},(S4 I p r0.b c)→Ret Tryz.prog 197 [vP r01 0,vI depth] I [hB r01 (cRd r0 p c)] (zCX r01 r):=by
 intro r0 depth r N I r01 p c h;unfold mA at N;refine yB (fn:=Tryz.f197) (c:=(bodyOf Tryz.f197)) Tryz.func197 rfl rfl ?_;rintro B - -;refine yM<|uK [z0,vI 0] ?_;intro b hb;refine yN rfl<|xP<|yG 1 [] [(7,vP r01 0)]<|xW [vI 0,vI 1,vI (-1),vI 2,vI 0,vI 5,vI (-9),vI 99] Int ?_;intro b1 hb1;have h1:RL I [vI 0,vI 1,vI (-1),vI 2,vI 0,vI 5,vI (-9),vI 99] ([0,1,(-1),2,0,5,(-9),99]:List Int):=⟨[vI 0],_,rfl,rfl,rfl,⟨[vI 1],_,rfl,rfl,rfl,⟨[vI (-1)],_,rfl,rfl,rfl,⟨[vI 2],_,rfl,rfl,rfl,⟨[vI 0],_,rfl,rfl,rfl,⟨[vI 5],_,rfl,rfl,rfl,⟨[vI (-9)],_,rfl,rfl,rfl,⟨[vI 99],_,rfl,rfl,rfl,rfl⟩⟩⟩⟩⟩⟩⟩⟩;refine yJ 0 rfl ?_;intro I0 le hl0;have h2:=SL.of_frozen hl0 le h1;have h:=h.mono le;refine rP (yH [1,0] (hs':=[hB r01 (cRd r0 p c),hB b [z0,vI 0]])) ?_;obtain ⟨⟨y1,y2⟩,hy,N⟩:=zC N;refine tF [hB r01 (cRd r0 p c)] [hB b [z0,vI 0]] (yW r0 ([0,1,(-1),2,0,5,(-9),99]:List Int) _ hy h h2) ?_;rintro I01 hs2 v2 k2 le1 - ⟨v0,kk,rfl,rfl,rfl,h4⟩ -;obtain ⟨p1,c1,rfl,h5⟩:=yE h4;obtain ⟨y3,hy1,N⟩:=zC N;refine xX (vU y1 _ hy1 ) ?_;rintro I02 hs2 v2 k2 le2 - ⟨p2,c2,cs,rfl,rfl,h6⟩ -;have h5:=h5.mono le2;refine uK [z0,vI 0] ?_;intro b2 hb2;refine xN 0 (cAff y3 p2 c2) [hB b2 (cAff y3 p2 c2),hO Int (vS p2 y3.Coefs c2) cs,hB r01 (cRd y2 p1 c1),hB b [z0,vI 0]] rfl rfl rfl rfl<|yN rfl<|yL<|yI [(6,vI 0)]<|zE<|zX<|vM [(0,vP r01 0),(1,vI depth),(4,vP b 0),(5,vP b2 0),(6,vI 0)] ?_;obtain ⟨o0,ho0,hMl⟩:=zC N;refine zBi depth 0 y3.Coefs y2 o0 ho0 iR h6 h5 (fun _ _ _ h=>h) (fun _ _ h=>h) ?_;intro I06 Coefs1 x1 p5 c5 cs2 p6 c6 heq le6 h9 h10;subst o0;refine zY<|xP<|yG 1 [0] [(23,vA [vS p5 Coefs1 c5,vI y3.Const])]<|xN 3 [vS p5 Coefs1 c5,vI y3.Const] [hB b2 [vS p5 Coefs1 c5,vI y3.Const],hO Int (vS p5 Coefs1 c5) cs2,hB r01 (cRd x1 p6 c6),hB b [vS p5 Coefs1 c5,vI y3.Const]] rfl rfl rfl rfl<|yN rfl<|zE<|yC<|xO 1 rfl ?_;intro I07 le7 hl03;have h17:=SL.of_frozen hl03 le7 h9;have h10:=h10.mono le7;obtain rfl:=zB hMl;exact xM ⟨_,_,(.cell 2 rfl rfl (by kernel_rfl) ResV.nil),(yD [1] rfl (by decide)),⟨_,_,rfl,rfl,⟨_,rfl,(yP ⟨_,rfl,h17⟩)⟩,(yS ⟨_,rfl,h10⟩)⟩⟩
def fD (b0:Nat) (r:zF×zJ):KT:=fun kk I' hs' v=>
  ∃ v0 k0,hs'=[.blk b0 ⟨k0⟩]∧v=tupV [v0]∧(∃ cs,v0=.agg ⟨cs⟩∧Rp.rep I' cs r.1)∧Rp.rep I' k0 r.2
mutual
def rE (r0:zJ) (depth:Int) (levels:Int):Option (zF×zJ):=do
 let (t15,x)←(do
   if (decide (levels < 2)) then
    pure (true,r0)
   else
    let (y1,y2)←yT r0 4
    pure ((y1 == 0),y2)
     : Option (Bool×zJ))
 if t15 then
  let (y4,y5)←yT x 4
  if (y4 == 0) then
   let (y7,y8)←yR y5 ([1,2,0,99,3]:List Int)
   pure ((zF.mk 1 y7 (zA.mk ([]:List Int) 0) (zI.mk (⟨[]⟩:Str) ([]:List zA)) ([]:List zF)),y8)
  else
   if (y4 == 1) then
    let (y10,y11)←mA y5 depth
    pure ((zF.mk 2 0 y10 (zI.mk (⟨[]⟩:Str) ([]:List zA)) ([]:List zF)),y11)
   else
    let (y13,y14)←oR y5 depth
    pure ((zF.mk 3 0 (zA.mk ([]:List Int) 0) y13 ([]:List zF)),y14)
 else
  let (y16,y17)←yR x ([4,6,5,4]:List Int)
  let (Kids1,x2)←qR (same depth) (same levels) (same 0) ([]:List zF) (same y17)
  pure ((zF.mk y16 0 (zA.mk ([]:List Int) 0) (zI.mk (⟨[]⟩:Str) ([]:List zA)) Kids1),x2)
 partial_fixpoint
def qR (depth:Int) (levels:Int) (i:Int) (Kids:List zF) (x1:zJ):Option ((List zF×zJ)):=do
 if (decide (i < 2)) then
  let (y19,y20)←rE (same x1) (same depth) (W (levels - 1))
  let l←app 112 Kids ([y19]:List zF)
  qR (same depth) (same levels) (W (i + 1)) (same l) (same y20)
 else
  pure (Kids,x1)
 partial_fixpoint
end
theorem zCY:(∀ (r0:zJ) (depth:Int) (levels:Int) r,rE r0 depth levels=some r→∀ {I:Imm}{r01:Nat}{p c},(S4 I p r0.b c)→Ret Tryz.prog 173 [vP r01 0,vI depth,vI levels] I [hB r01 (cRd r0 p c)] (fD r01 r))∧(∀ (depth:Int) (levels:Int) (i:Int) (Kids:List zF) (x1:zJ) o,qR depth levels i Kids x1=some o→∀ {B}{I0 I:Imm}{Q}{y16:Int}{r01:Nat}{b:Nat}{b3:Nat}{p10 c10 cs2 p11 c11},I0.le I→(RL I cs2 Kids)→(S4 I p11 x1.b c11)→NG Q→NO Q→(∀ (I':Imm) (Kids1:List zF) (x2:zJ) (p12:Option Addr) (c12:Nat) (cs3:List Value) (p13:Option Addr) (c13:Nat),o=(Kids1,x2)→I0.le I'→(RL I' cs3 Kids1)→(S4 I' p13 x2.b c13)→T 53 B Q (.exit 1) I' [hO zF (vS p12 Kids1 c12) cs3,hB b3 [vI y16,vI 0,z0,vI 0,vT ([]),z0,vS p12 Kids1 c12],hB r01 (cRd x2 p13 c13),hB b zExpr] [(6,vP b 0),(7,vP b3 0)])→J Tryz.prog 53 B (nav (bodyOf Tryz.f173) [1,1,1,0,1,0]) Q I [hO zF (vS p10 Kids c10) cs2,hB b3 [vI y16,vI 0,z0,vI 0,vT ([]),z0,vS p10 Kids c10],hB r01 (cRd x1 p11 c11),hB b zExpr] [(0,vP r01 0),(1,vI depth),(2,vI levels),(6,vP b 0),(7,vP b3 0),(8,vI i)]):=by
  refine rE.mutual_partial_correctness _ _ ?_ ?_
  · intro F_spec_l3Value_l1 ih_spec_l3Value_l1 r0 depth levels r N I r01 p c h;refine yB (fn:=Tryz.f173) (c:=(bodyOf Tryz.f173)) Tryz.func173 rfl rfl ?_;rintro B - -;have H:=iS I;refine yM<|uK zExpr ?_;intro b hb;refine yN rfl<|yL<|yK ?_;obtain ⟨o0,ho0,hMc⟩:=zC N;refine yU (fun I' hs' m'=>∃ (t15:Bool) (x:zJ) (p1:Option Addr) (c1:Nat),o0=(t15,x)∧I.le I'∧(S4 I' p1 x.b c1)∧hs'=[hB b zExpr,hB r01 (cRd x p1 c1)]∧m'=[(0,vP r01 0),(1,vI depth),(2,vI levels),(6,vP b 0),(15,.bool t15)]) ?_ ?_
    · have H:=iS I;refine zR<|yG 3 [] [(11,.bool (decide (levels < 2)))] ?_;cases hc:(decide (levels < 2)) with
      | true =>
       have hM0:=zQ hc ho0
       try rw [hc]
       exact yF [] [(15,vY)]<|yV [(0,vP r01 0),(1,vI depth),(2,vI levels),(6,vP b 0),(15,vY)]<|zV ⟨_,_,_,_,(zB hM0).symm,H,h,rfl,rfl⟩
      | false =>
       have hM01:=zN hc ho0
       try rw [hc]
       refine yG 4 [] [(12,vP r01 0)]<|rP (yH [1,0] (hs':=[hB r01 (cRd r0 p c),hB b zExpr])) ?_;obtain ⟨⟨y1,y2⟩,hy,N⟩:=zC hM01;refine tF [hB r01 (cRd r0 p c)] [hB b zExpr] (xG r0 4 _ hy h) ?_;rintro I01 hs2 v2 k2 le - ⟨v0,kk,rfl,rfl,rfl,h3⟩ -;have H:=H.trans le;obtain ⟨p2,c2,rfl,h4⟩:=yE h3;exact yF [] [(15,.bool (y1 == 0))]<|wB (yD [1,0] rfl (by decide))<|yV [(0,vP r01 0),(1,vI depth),(2,vI levels),(6,vP b 0),(15,.bool (y1 == 0))]<|zV ⟨_,_,_,_,(zB N).symm,H,h4,rfl,rfl⟩
    rintro I0 hs2 m2 ⟨t15,x,p1,c1,heq,le1,h1,rfl,rfl⟩;subst o0;refine zE<|yO hMc ?_ ?_
    · intro hc1 N;refine yK<|yM<|yG 1 [] [(16,vP r01 0)]<|rP (yH [1,0] (hs':=[hB r01 (cRd x p1 c1),hB b zExpr])) ?_;obtain ⟨⟨y4,y5⟩,hy1,N⟩:=zC N;refine tF [hB r01 (cRd x p1 c1)] [hB b zExpr] (xG x 4 _ hy1 h1) ?_;rintro I02 hs2 v2 k2 le2 - ⟨v02,kk1,rfl,rfl,rfl,h6⟩ -;obtain ⟨p3,c3,rfl,h7⟩:=yE h6;refine yN rfl<|zE<|zX<|yI [(18,.bool (y4 == 0))]<|zE<|yO N ?_ ?_
      · intro hc2 N;refine yM<|yG 1 [] [(20,vP r01 0)]<|xW [vI 1,vI 2,vI 0,vI 99,vI 3] Int ?_;intro b1 hb1;have h8:RL I02 [vI 1,vI 2,vI 0,vI 99,vI 3] ([1,2,0,99,3]:List Int):=⟨[vI 1],_,rfl,rfl,rfl,⟨[vI 2],_,rfl,rfl,rfl,⟨[vI 0],_,rfl,rfl,rfl,⟨[vI 99],_,rfl,rfl,rfl,⟨[vI 3],_,rfl,rfl,rfl,rfl⟩⟩⟩⟩⟩;refine yJ 0 rfl ?_;intro I03 le3 hl0;have h9:=SL.of_frozen hl0 le3 h8;have h7:=h7.mono le3;obtain ⟨⟨y7,y8⟩,hy2,N⟩:=zC N;refine tF [hB r01 (cRd y5 p3 c3)] [hB b zExpr] (yW y5 ([1,2,0,99,3]:List Int) _ hy2 h7 h9) ?_;rintro I04 hs2 v2 k2 le4 - ⟨v04,kk2,rfl,rfl,rfl,h11⟩ -;obtain ⟨p4,c4,rfl,h12⟩:=yE h11;refine yG 4 [] [(23,vA [vI 1,vI y7,z0,vI 0,vT ([]),z0,z0])]<|xN 1 [vI 1,vI y7,z0,vI 0,vT ([]),z0,z0] [hB r01 (cRd y8 p4 c4),hB b [vI 1,vI y7,z0,vI 0,vT ([]),z0,z0]] rfl rfl rfl rfl<|yN rfl<|zE<|yC<|yA<|zK<|zK ?_;obtain rfl:=zB N;exact xM ⟨_,_,(.cell 1 rfl rfl (by kernel_rfl) ResV.nil),(yD [0] rfl (by decide)),⟨_,_,rfl,rfl,⟨_,rfl,(xS ⟨_,_,_,rfl,(SL.nil _),(SL.nil _),(SL.nil _)⟩)⟩,(yS ⟨_,rfl,h12⟩)⟩⟩
      intro hc2 N;refine yI [(24,.bool (y4 == 1))]<|zE<|yO N ?_ ?_
      · intro hc3 N;refine yM<|yG 2 [] [(26,vP r01 0),(27,vI depth)] ?_;obtain ⟨⟨y10,y11⟩,hy3,N⟩:=zC N;refine tF [hB r01 (cRd y5 p3 c3)] [hB b zExpr] (zD6 y5 depth _ hy3 h7) ?_;rintro I05 hs2 v2 k2 le5 - ⟨v06,kk3,rfl,rfl,⟨cs,rfl,h13⟩,h14⟩ -;obtain ⟨p5,c5,rfl,h15⟩:=yQ h13;obtain ⟨p6,c6,rfl,h16⟩:=yE h14;refine yG 4 [] [(29,vA [vI 2,vI 0,vS p5 y10.Coefs c5,vI y10.Const,vT ([]),z0,z0])]<|xN 1 [vI 2,vI 0,vS p5 y10.Coefs c5,vI y10.Const,vT ([]),z0,z0] [hB r01 (cRd y11 p6 c6),hB b [vI 2,vI 0,vS p5 y10.Coefs c5,vI y10.Const,vT ([]),z0,z0]] rfl rfl rfl rfl<|yN rfl<|zE<|yC<|yA<|zK<|zK ?_;obtain rfl:=zB N;exact xM ⟨_,_,(.cell 1 rfl rfl (by kernel_rfl) ResV.nil),(yD [0] rfl (by decide)),⟨_,_,rfl,rfl,⟨_,rfl,(xS ⟨_,_,_,rfl,h15,(SL.nil _),(SL.nil _)⟩)⟩,(yS ⟨_,rfl,h16⟩)⟩⟩
      intro hc3 N;refine zZ<|zU<|xP<|yG 2 [] [(30,vP r01 0),(31,vI depth)] ?_;obtain ⟨⟨y13,y14⟩,hy4,N⟩:=zC N;refine tF [hB r01 (cRd y5 p3 c3)] [hB b zExpr] (zAH y5 depth _ hy4 h7) ?_;rintro I06 hs2 v2 k2 le6 - ⟨v09,kk4,rfl,rfl,⟨cs1,rfl,h17⟩,h18⟩ -;obtain ⟨p7,c7,rfl,h19⟩:=qP h17;obtain ⟨p8,c8,rfl,h20⟩:=yE h18;refine yG 4 [] [(33,vA [vI 3,vI 0,z0,vI 0,vT y13.Array.l,vS p7 y13.Subs c7,z0])]<|xN 1 [vI 3,vI 0,z0,vI 0,vT y13.Array.l,vS p7 y13.Subs c7,z0] [hB r01 (cRd y14 p8 c8),hB b [vI 3,vI 0,z0,vI 0,vT y13.Array.l,vS p7 y13.Subs c7,z0]] rfl rfl rfl rfl<|yN rfl<|zE<|yC<|zK ?_;obtain rfl:=zB N;exact xM ⟨_,_,(.cell 1 rfl rfl (by kernel_rfl) ResV.nil),(yD [0] rfl (by decide)),⟨_,_,rfl,rfl,⟨_,rfl,(xS ⟨_,_,_,rfl,(SL.nil _),h19,(SL.nil _)⟩)⟩,(yS ⟨_,rfl,h20⟩)⟩⟩
    intro hc1 N;refine zZ<|xP<|yG 1 [] [(34,vP r01 0)]<|xW [vI 4,vI 6,vI 5,vI 4] Int ?_;intro b2 hb2;have h21:RL I0 [vI 4,vI 6,vI 5,vI 4] ([4,6,5,4]:List Int):=⟨[vI 4],_,rfl,rfl,rfl,⟨[vI 6],_,rfl,rfl,rfl,⟨[vI 5],_,rfl,rfl,rfl,⟨[vI 4],_,rfl,rfl,rfl,rfl⟩⟩⟩⟩;refine yJ 0 rfl ?_;intro I07 le7 hl01;have h22:=SL.of_frozen hl01 le7 h21;have h1:=h1.mono le7;refine rP (yH [1,0] (hs':=[hB r01 (cRd x p1 c1),hB b zExpr])) ?_;obtain ⟨⟨y16,y17⟩,hy5,N⟩:=zC N;refine tF [hB r01 (cRd x p1 c1)] [hB b zExpr] (yW x ([4,6,5,4]:List Int) _ hy5 h1 h22) ?_;rintro I08 hs2 v2 k2 le8 - ⟨v012,kk5,rfl,rfl,rfl,h24⟩ -;obtain ⟨p9,c9,rfl,h25⟩:=yE h24;refine yG 4 [] [(37,vA [vI y16,vI 0,z0,vI 0,vT ([]),z0,z0])]<|uK zExpr ?_;intro b3 hb3;refine xN 0 [vI y16,vI 0,z0,vI 0,vT ([]),z0,z0] [hB b3 [vI y16,vI 0,z0,vI 0,vT ([]),z0,z0],hB r01 (cRd y17 p9 c9),hB b zExpr] rfl rfl rfl rfl<|yN rfl<|yL<|yI [(8,vI 0)]<|zE<|zX<|vM [(0,vP r01 0),(1,vI depth),(2,vI levels),(6,vP b 0),(7,vP b3 0),(8,vI 0)]<|pJ (tE (Rp.sz zF)) ?_;have h26:RL I08 [] ([]:List zF):=RepL.nil;obtain ⟨o01,ho01,hMl⟩:=zC N;refine ih_spec_l3Value_l1 depth levels 0 ([]:List zF) y17 o01 ho01 iR h26 h25 (fun _ _ _ h=>h) (fun _ _ h=>h) ?_;intro I012 Kids1 x2 p12 c12 cs3 p13 c13 heq1 le12 h29 h30;subst o01;refine zY<|xP<|yG 1 [1] [(52,vA [vI y16,vI 0,z0,vI 0,vT ([]),z0,vS p12 Kids1 c12])]<|xN 3 [vI y16,vI 0,z0,vI 0,vT ([]),z0,vS p12 Kids1 c12] [hO zF (vS p12 Kids1 c12) cs3,hB b3 [vI y16,vI 0,z0,vI 0,vT ([]),z0,vS p12 Kids1 c12],hB r01 (cRd x2 p13 c13),hB b [vI y16,vI 0,z0,vI 0,vT ([]),z0,vS p12 Kids1 c12]] rfl rfl rfl rfl<|yN rfl<|zE<|yC<|xO 0 rfl ?_;intro I013 le13 hl03;have h40:=SL.of_frozen hl03 le13 h29;have h30:=h30.mono le13;obtain rfl:=zB hMl;exact xM ⟨_,_,(.cell 2 rfl rfl (by kernel_rfl) ResV.nil),(yD [1] rfl (by decide)),⟨_,_,rfl,rfl,⟨_,rfl,(xS ⟨_,_,_,rfl,(SL.nil _),(SL.nil _),h40⟩)⟩,(yS ⟨_,rfl,h30⟩)⟩⟩
  intro F_spec_l3Value F_spec_l3Value_l1 ih_spec_l3Value ih_spec_l3Value_l1 depth levels i Kids x1 o N B I0 I Q y16 r01 b b3 p10 c10 cs2 p11 c11 H h27 h28 hg ho hx;refine xD hg ho<|yK<|yI [(39,.bool (decide (i < 2)))]<|zE<|yO N ?_ ?_
  · intro hc4 N;refine zZ<|yL<|zX ?_;obtain ⟨⟨y19,y20⟩,hy6,N⟩:=zC N;obtain ⟨l,hy7,N⟩:=zC N;refine vK [.p (vP b3 6) [],.p (vS p10 Kids c10) [0],.p (vP r01 0) [],.p (vI depth) [],.p (vI levels) [],.p (vI (W (levels - 1))) [],.x (fun I' v hx=>∃ p14 c14 p15 c15 p16 c16 p17 c17,v=vA (cExpr y19 p14 c14 p15 c15 p16 c16)∧hx=[hB r01 (cRd y20 p17 c17)]∧(S4 I' p14 y19.Index.Coefs c14)∧(S4 I' p15 y19.Read.Subs c15)∧(S4 I' p16 y19.Kids c16)∧(S4 I' p17 y20.b c17)),.x (fun I' v hx=>∃ b4,v=vS (some ⟨b4,0,none⟩) ([y19]:List zF) 1∧hx=[]∧(SL I' (vS (some ⟨b4,0,none⟩) ([y19]:List zF) 1) ([y19]:List zF))),.x (fun I' v hx=>∃ p18 c18 cs5,v=vS p18 l c18∧hx=[hO zF (vS p18 l c18) cs5]∧(RL I' cs5 l))] [[],[(0,false)],[],[],[],[(4,false)],[(2,false),(3,false),(5,false),(11,true)],[(6,false)],[(1,false),(7,false),(12,true)]] [hB b3 [vI y16,vI 0,z0,vI 0,vT ([]),z0,vS p10 Kids c10],hB b zExpr] [[hB r01 (cRd x1 p11 c11)],[hO zF (vS p10 Kids c10) cs2]] [(6,true),(8,true)] (yH [1,3,2,0]) ?_ ?_
    · refine Op<|Op<|Op<|Op<|Op<|Op<|Ox ?_<|Ox ?_<|Ox ?_<|On
      · intro I1 hf le1;refine zH ?_;rintro _ _ ⟨rfl,rfl⟩;refine zH ?_;rintro _ _ ⟨rfl,rfl⟩;refine zH ?_;rintro _ _ ⟨rfl,rfl⟩;refine zH ?_;rintro _ _ rfl;refine yX [(44,vP r01 0),(45,vI depth),(47,vI (W (levels - 1)))] ?_;have H:=iS I1;have h28:=h28.mono le1;refine tF [hB r01 (cRd x1 p11 c11)] (hB b3 [vI y16,vI 0,z0,vI 0,vT ([]),z0,vS p10 Kids c10]::hB b zExpr::hf) (ih_spec_l3Value x1 depth (W (levels - 1)) _ hy6 h28) ?_;rintro I09 hs2 v2 k2 le9 - ⟨v014,kk6,rfl,rfl,⟨cs4,rfl,h31⟩,h32⟩ -;have H:=H.trans le9;obtain ⟨p14,c14,p15,c15,p16,c16,rfl,h33,h34,h35⟩:=uL h31;obtain ⟨p17,c17,rfl,h36⟩:=yE h32;exact yY [hB r01 (cRd y20 p17 c17)] H ⟨_,_,_,_,_,_,_,_,rfl,rfl,h33,h34,h35,h36⟩
      · intro I1 hf le1;refine zH ?_;rintro _ _ ⟨p14,c14,p15,c15,p16,c16,p17,c17,rfl,rfl,h33,h34,h35,h36⟩;refine yX [(48,vA (cExpr y19 p14 c14 p15 c15 p16 c16))] ?_;have H:=iS I1;refine xW (cExpr y19 p14 c14 p15 c15 p16 c16) zF ?_;intro b4 hb4;have h37:RL I1 (cExpr y19 p14 c14 p15 c15 p16 c16) ([y19]:List zF):=⟨(cExpr y19 p14 c14 p15 c15 p16 c16),_,rfl,rfl,(xS ⟨_,_,_,rfl,h33,h34,h35⟩),rfl⟩;refine yJ 0 rfl ?_;intro I010 le10 hl02;have h38:=SL.of_frozen hl02 le10 h37;have H:=H.trans le10;exact yY [] H ⟨_,rfl,rfl,h38⟩
      intro I1 hf le1;refine zH ?_;rintro _ _ ⟨rfl,rfl⟩;refine zH ?_;rintro _ _ ⟨b4,rfl,rfl,h38⟩;refine zH ?_;rintro _ _ rfl;refine yX [(43,vS p10 Kids c10),(49,vS (some ⟨b4,0,none⟩) ([y19]:List zF) 1)] ?_;have h27:=iM le1 h27;obtain ⟨ccs,k0,k01⟩:=h38;have h38:SL I1 (vS (some ⟨b4,0,none⟩) ([y19]:List zF) 1) ([y19]:List zF):=⟨_,k0,k01⟩;exact qZ 47 7 0 rfl rfl rfl h27 (.inl k0) k01 hy7 fun p18 c18 cs5 h39=>uY (hs':=(hO zF (vS p18 l c18) cs5::hB b3 [vI y16,vI 0,z0,vI 0,vT ([]),z0,vS p10 Kids c10]::hB b zExpr::hf)) rfl<|yY [hO zF (vS p18 l c18) cs5] iR ⟨_,_,_,rfl,rfl,h39⟩
    intro I011 le11;refine zH ?_;rintro _ _ ⟨p14,c14,p15,c15,p16,c16,p17,c17,rfl,rfl,h33,h34,h35,h36⟩;refine zH ?_;rintro _ _ ⟨p18,c18,cs5,rfl,rfl,h39⟩;refine yX [(0,vP r01 0),(1,vI depth),(2,vI levels),(6,vP b 0),(7,vP b3 0),(8,vI i),(50,vS p18 l c18)] ?_;have H:=H.trans le11;exact yG 10 [] [(51,vP b3 6)]<|xN 2 [vI y16,vI 0,z0,vI 0,vT ([]),z0,vS p18 l c18] [hO zF (vS p18 l c18) cs5,hB r01 (cRd y20 p17 c17),hB b3 [vI y16,vI 0,z0,vI 0,vT ([]),z0,vS p18 l c18],hB b zExpr] rfl rfl rfl rfl<|yN rfl<|zU<|zE<|zR<|yF [] [(8,vI (W (i + 1)))]<|xE<|pJ (yD [0,2,1,3] rfl (by decide))<|vM [(0,vP r01 0),(1,vI depth),(2,vI levels),(6,vP b 0),(7,vP b3 0),(8,vI (W (i + 1)))]<|ih_spec_l3Value_l1 depth levels (W (i + 1)) l y20 _ N H h39 h36 hg ho hx
  intro hc4 N;exact xC<|zO<|zO<|yV [(6,vP b 0),(7,vP b3 0)]<|hx _ _ _ _ _ _ _ _ (zB N).symm H h27 h28
theorem zCn:∀ r0 depth levels r,rE r0 depth levels=some r→∀ {I:Imm}{r01:Nat}{p c},(S4 I p r0.b c)→Ret Tryz.prog 173 [vP r01 0,vI depth,vI levels] I [hB r01 (cRd r0 p c)] (fD r01 r):=zCY.1
def zCZ (b0:Nat) (r:zP×zJ):KT:=fun kk I' hs' v=>
  ∃ v0 k0,hs'=[.blk b0 ⟨k0⟩]∧v=tupV [v0]∧(∃ cs,v0=.agg ⟨cs⟩∧Rp.rep I' cs r.1)∧Rp.rep I' k0 r.2
def mW (r0:zJ) (depth:Int):Option (zP×zJ):=do
 let (y1,y2)←oR r0 depth
 let (y4,y5)←yR y2 ([2,3,1,2]:List Int)
 let (y7,y8)←rE y5 depth y4
 let y9←tT (zP.mk y1 y7) depth
 if y9 then
  pure ((zP.mk y1 y7),y8)
 else
  let y10←qL
  pure ((zP.mk (zI.mk (⟨[65]⟩:Str) ([y10]:List zA)) (zF.mk 1 1 (zA.mk ([]:List Int) 0) (zI.mk (⟨[]⟩:Str) ([]:List zA)) ([]:List zF))),y8)
theorem zD7:∀ r0 depth r,mW r0 depth=some r→∀ {I:Imm}{r01:Nat}{p c},(S4 I p r0.b c)→Ret Tryz.prog 138 [vP r01 0,vI depth] I [hB r01 (cRd r0 p c)] (zCZ r01 r):=by
 intro r0 depth r N I r01 p c h;unfold mW at N;refine yB (fn:=Tryz.f138) (c:=(bodyOf Tryz.f138)) Tryz.func138 rfl rfl ?_;rintro B - -;refine yM<|uK [vT ([]),z0,vI 0,vI 0,z0,vI 0,vT ([]),z0,z0] ?_;intro b hb;refine yN rfl<|xP<|yG 2 [] [(6,vP r01 0),(7,vI depth)]<|rP (yH [1,0] (hs':=[hB r01 (cRd r0 p c),hB b [vT ([]),z0,vI 0,vI 0,z0,vI 0,vT ([]),z0,z0]])) ?_;obtain ⟨⟨y1,y2⟩,hy,N⟩:=zC N;refine tF [hB r01 (cRd r0 p c)] [hB b [vT ([]),z0,vI 0,vI 0,z0,vI 0,vT ([]),z0,z0]] (zAH r0 depth _ hy h) ?_;rintro I0 hs2 v2 k2 le - ⟨v0,kk,rfl,rfl,⟨cs,rfl,h1⟩,h2⟩ -;obtain ⟨p1,c1,rfl,h3⟩:=qP h1;obtain ⟨p2,c2,rfl,h4⟩:=yE h2;refine yG 6 [] [(9,vP r01 0),(10,vI depth),(11,vP r01 0)]<|xW [vI 2,vI 3,vI 1,vI 2] Int ?_;intro b1 hb1;have h5:RL I0 [vI 2,vI 3,vI 1,vI 2] ([2,3,1,2]:List Int):=⟨[vI 2],_,rfl,rfl,rfl,⟨[vI 3],_,rfl,rfl,rfl,⟨[vI 1],_,rfl,rfl,rfl,⟨[vI 2],_,rfl,rfl,rfl,rfl⟩⟩⟩⟩;refine yJ 0 rfl ?_;intro I01 le1 hl0;have h6:=SL.of_frozen hl0 le1 h5;have h3:=h3.mono le1;have h4:=h4.mono le1;obtain ⟨⟨y4,y5⟩,hy1,N⟩:=zC N;refine tF [hB r01 (cRd y2 p2 c2)] [hB b [vT ([]),z0,vI 0,vI 0,z0,vI 0,vT ([]),z0,z0]] (yW y2 ([2,3,1,2]:List Int) _ hy1 h4 h6) ?_;rintro I02 hs2 v2 k2 le2 - ⟨v03,kk1,rfl,rfl,rfl,h8⟩ -;have h3:=h3.mono le2;obtain ⟨p3,c3,rfl,h9⟩:=yE h8;obtain ⟨⟨y7,y8⟩,hy2,N⟩:=zC N;refine tF [hB r01 (cRd y5 p3 c3)] [hB b [vT ([]),z0,vI 0,vI 0,z0,vI 0,vT ([]),z0,z0]] (zCn y5 depth y4 _ hy2 h9) ?_;rintro I03 hs2 v2 k2 le3 - ⟨v05,kk2,rfl,rfl,⟨cs1,rfl,h10⟩,h11⟩ -;have h3:=h3.mono le3;obtain ⟨p4,c4,p5,c5,p6,c6,rfl,h12,h13,h14⟩:=uL h10;obtain ⟨p7,c7,rfl,h15⟩:=yE h11;refine yG 10 [] [(15,vA [vT y1.Array.l,vS p1 y1.Subs c1,vI y7.Kind,vI y7.Num,vS p4 y7.Index.Coefs c4,vI y7.Index.Const,vT y7.Read.Array.l,vS p5 y7.Read.Subs c5,vS p6 y7.Kids c6])]<|uK [vT ([]),z0,vI 0,vI 0,z0,vI 0,vT ([]),z0,z0] ?_;intro b2 hb2;refine xN 0 [vT y1.Array.l,vS p1 y1.Subs c1,vI y7.Kind,vI y7.Num,vS p4 y7.Index.Coefs c4,vI y7.Index.Const,vT y7.Read.Array.l,vS p5 y7.Read.Subs c5,vS p6 y7.Kids c6] [hB b2 [vT y1.Array.l,vS p1 y1.Subs c1,vI y7.Kind,vI y7.Num,vS p4 y7.Index.Coefs c4,vI y7.Index.Const,vT y7.Read.Array.l,vS p5 y7.Read.Subs c5,vS p6 y7.Kids c6],hB r01 (cRd y8 p7 c7),hB b [vT ([]),z0,vI 0,vI 0,z0,vI 0,vT ([]),z0,z0]] rfl rfl rfl rfl<|yN rfl<|yL<|yM<|yG 2 [0] [(16,vA [vT y1.Array.l,vS p1 y1.Subs c1,vI y7.Kind,vI y7.Num,vS p4 y7.Index.Coefs c4,vI y7.Index.Const,vT y7.Read.Array.l,vS p5 y7.Read.Subs c5,vS p6 y7.Kids c6]),(17,vI depth)]<|bE N fun y9 hy3 N=>vL (kL (zP.mk y1 y7) depth _ hy3 h3 h12 h13 h14) ?_;intro I04 le4;have h3:=h3.mono le4;have h12:=h12.mono le4;have h13:=h13.mono le4;have h14:=h14.mono le4;have h15:=h15.mono le4;refine yN rfl<|zE<|yO N ?_ ?_
 · intro hc N;refine yM<|yG 1 [0] [(19,vA [vT y1.Array.l,vS p1 y1.Subs c1,vI y7.Kind,vI y7.Num,vS p4 y7.Index.Coefs c4,vI y7.Index.Const,vT y7.Read.Array.l,vS p5 y7.Read.Subs c5,vS p6 y7.Kids c6])]<|xN 2 [vT y1.Array.l,vS p1 y1.Subs c1,vI y7.Kind,vI y7.Num,vS p4 y7.Index.Coefs c4,vI y7.Index.Const,vT y7.Read.Array.l,vS p5 y7.Read.Subs c5,vS p6 y7.Kids c6] [hB b2 [vT y1.Array.l,vS p1 y1.Subs c1,vI y7.Kind,vI y7.Num,vS p4 y7.Index.Coefs c4,vI y7.Index.Const,vT y7.Read.Array.l,vS p5 y7.Read.Subs c5,vS p6 y7.Kids c6],hB r01 (cRd y8 p7 c7),hB b [vT y1.Array.l,vS p1 y1.Subs c1,vI y7.Kind,vI y7.Num,vS p4 y7.Index.Coefs c4,vI y7.Index.Const,vT y7.Read.Array.l,vS p5 y7.Read.Subs c5,vS p6 y7.Kids c6]] rfl rfl rfl rfl<|yN rfl<|zE<|yC<|zK ?_;obtain rfl:=zB N;exact xM ⟨_,_,(.cell 2 rfl rfl (by kernel_rfl) ResV.nil),(yD [1] rfl (by decide)),⟨_,_,rfl,rfl,⟨_,rfl,(wQ ⟨_,_,_,_,rfl,h3,h12,h13,h14⟩)⟩,(yS ⟨_,rfl,h15⟩)⟩⟩
 intro hc N;refine zZ<|xP<|bE N fun y10 hy4 N=>xX (nA  _ hy4 ) ?_;rintro I05 hs2 v2 k2 le5 - ⟨p8,c8,cs2,rfl,rfl,h17⟩ -;have h15:=h15.mono le5;refine yJ 0 rfl ?_;intro I06 le6 hl01;have h18:=SL.of_frozen hl01 le6 h17;have h15:=h15.mono le6;refine xW (cAff y10 p8 c8) zA ?_;intro b3 hb3;have h19:RL I06 (cAff y10 p8 c8) ([y10]:List zA):=⟨(cAff y10 p8 c8),_,rfl,rfl,(yP ⟨_,rfl,h18⟩),rfl⟩;refine yG 5 [] [(24,vA [vT ([65]),vS (some ⟨b3,0,none⟩) ([y10]:List zA) 1,vI 1,vI 1,z0,vI 0,vT ([]),z0,z0])]<|xN 3 [vT ([65]),vS (some ⟨b3,0,none⟩) ([y10]:List zA) 1,vI 1,vI 1,z0,vI 0,vT ([]),z0,z0] [hO zA (vS (some ⟨b3,0,none⟩) ([y10]:List zA) 1) (cAff y10 p8 c8),hB b2 [vT y1.Array.l,vS p1 y1.Subs c1,vI y7.Kind,vI y7.Num,vS p4 y7.Index.Coefs c4,vI y7.Index.Const,vT y7.Read.Array.l,vS p5 y7.Read.Subs c5,vS p6 y7.Kids c6],hB r01 (cRd y8 p7 c7),hB b [vT ([65]),vS (some ⟨b3,0,none⟩) ([y10]:List zA) 1,vI 1,vI 1,z0,vI 0,vT ([]),z0,z0]] rfl rfl rfl rfl<|yN rfl<|zE<|yC<|xO 0 rfl ?_;intro I07 le7 hl02;have h20:=SL.of_frozen hl02 le7 h19;have h15:=h15.mono le7;obtain rfl:=zB N;exact xM ⟨_,_,(.cell 2 rfl rfl (by kernel_rfl) ResV.nil),(yD [1] rfl (by decide)),⟨_,_,rfl,rfl,⟨_,rfl,(wQ ⟨_,_,_,_,rfl,h20,(SL.nil _),(SL.nil _),(SL.nil _)⟩)⟩,(yS ⟨_,rfl,h15⟩)⟩⟩
def rF (s:Str) (end0:UInt8) (i:Int):Option (Out Unit (Int)):=do
 if (decide (i < (s.l.length:Int))) then
  let b←sidx s i
  if ((b.toNat:Int) == (end0.toNat:Int)) then
   pure (.ret i)
  else
   rF s end0 (W (i + 1))
 else
  pure (.done ())
 partial_fixpoint
theorem zBA (s:Str) (end0:UInt8):∀ (i:Int) (o:Out Unit (Int)),rF s end0 i=some o→∀ {B}{I0 I:Imm}{Q}  ,I0.le I→NG Q→NO Q→(∀ (I':Imm) ,o=(.done ())→I0.le I'→T 21 B Q (.exit 0) I' [] [])→(∀ r I' hs' m',o=(.ret r)→I0.le I'→RS Tryz.prog Tryz.f198 B (xK  r) I' hs' m'→T 21 B Q .ret I' hs' m')→J Tryz.prog 21 B (nav (bodyOf Tryz.f198) [1,0,1,0]) Q I [] [(0,vT s.l),(2,.int .u8 (end0.toNat:Int)),(7,vI i)]:=by
 refine rF.partial_correctness s end0 _ fun self ih i o N B I0 I Q H hg ho hx hr=>xD hg ho<|yK<|yI [(12,.bool (decide (i < (s.l.length:Int))))]<|zE<|yO N ?_ ?_
 · intro hc N;refine zZ<|yL<|zX<|yM<|yG 2 [] [(15,vT s.l),(16,vI i)]<|bE N fun b hy N=>gN rfl rfl hy<|yF [] [(19,.bool ((b.toNat:Int) == (end0.toNat:Int)))]<|zE<|yO N ?_ ?_
   · intro hc1 N;exact yI [(6,vI i)]<|zE<|yC<|yA<|zK<|zK<|hr _ _ _ _ (zB N).symm H ⟨_,_,(.tmp rfl ResV.nil),zT,⟨_,rfl,rfl,rfl⟩⟩
   intro hc1 N;exact zZ<|zU<|zE<|zR<|yF [] [(7,vI (W (i + 1)))]<|xE<|vM [(0,vT s.l),(2,.int .u8 (end0.toNat:Int)),(7,vI (W (i + 1)))]<|ih (W (i + 1)) _ N H  hg ho hx hr
 intro hc N;exact xC<|zO<|zO<|yV []<|hx _  (zB N).symm H
def nC (s:Str) (at0:Int) (end0:UInt8):Option (Int):=do
 match←rF s end0 at0 with
 | .ret r0=>pure r0
 | .done _ =>
  pure (-1)
theorem dI:∀ s at0 end0 r,nC s at0 end0=some r→∀ {I:Imm} ,Ret Tryz.prog 198 [vT s.l,vI at0,.int .u8 (end0.toNat:Int)] I [] (xK  r):=by
 intro s at0 end0 r N I;unfold nC at N;refine yB (fn:=Tryz.f198) (c:=(bodyOf Tryz.f198)) Tryz.func198 rfl rfl ?_;rintro B - -;refine yI []<|yL<|yI [(7,vI at0)]<|zE<|zX<|vM [(0,vT s.l),(2,.int .u8 (end0.toNat:Int)),(7,vI at0)] ?_;obtain ⟨o0,ho0,hMl⟩:=zC N;refine zBA s end0 at0 o0 ho0 iR  (fun _ _ _ h=>h) (fun _ _ h=>h) ?_ ?_
 · intro I0  heq le;subst o0;refine zY<|vO [(6,vI (-1))]<|zE<|yC ?_;obtain rfl:=zB hMl;exact vQ
 intro r0 I9 hs9 m9 heq9 le9 hrs9;subst heq9;refine yA<|zK ?_;obtain rfl:=zB hMl;exact xM hrs9
def zC0 (r:(List Str)):KT:=fun kk I' hs' v=>
  ∃ v0,hs'=[]∧v=tupV [v0]∧SL I' v0 r
def rY (s:Str) (c:UInt8) (out:List Str) (from0:Int) (i:Int):Option (List Str):=do
 if (decide (i ≤ (s.l.length:Int))) then
  let t25←(do
    if (i == (s.l.length:Int)) then
     pure true
    else
     let b1←sidx s i
     pure ((b1.toNat:Int) == (c.toNat:Int))
      : Option Bool)
  let (out2,from01)←(do
    if t25 then
     let s1←sslc s from0 i
     let out3←app 16 out ([s1]:List Str)
     pure (out3,(W (i + 1)))
    else
     pure (out,from0)
      : Option (List Str×Int))
  rY s c out2 from01 (W (i + 1))
 else
  pure (id out)
 partial_fixpoint
theorem zBj (s:Str) (c:UInt8):∀ (out:List Str) (from0:Int) (i:Int) (o:List Str),rY s c out from0 i=some o→∀ {B}{I0 I:Imm}{Q p c1 cs},I0.le I→(RL I cs out)→NG Q→NO Q→(∀ (I':Imm) (out1:List Str) (p1:Option Addr) (c2:Nat) (cs1:List Value),o=out1→I0.le I'→(RL I' cs1 out1)→T 36 B Q (.exit 0) I' [hO Str (vS p1 out1 c2) cs1] [(5,vS p1 out1 c2)])→J Tryz.prog 36 B (nav (bodyOf Tryz.f156) [1,1,1,0,1,0]) Q I [hO Str (vS p out c1) cs] [(0,vT s.l),(1,.int .u8 (c.toNat:Int)),(5,vS p out c1),(6,vI from0),(7,vI i)]:=by
 refine rY.partial_correctness s c _ fun self ih out from0 i o N B I0 I Q p c1 cs H h1 hg ho hx=>xD hg ho<|yK<|yI [(12,.bool (decide (i ≤ (s.l.length:Int))))]<|zE<|yO N ?_ ?_
 · intro hc N;refine zZ<|yL<|zX<|yK ?_;obtain ⟨o0,ho0,hMc⟩:=zC N;refine yU (fun I' hs' m'=>∃ (t25:Bool),o0=t25∧I.le I'∧hs'=[hO Str (vS p out c1) cs]∧m'=[(0,vT s.l),(1,.int .u8 (c.toNat:Int)),(5,vS p out c1),(6,vI from0),(7,vI i),(25,.bool t25)]) ?_ ?_
   · have H:=iS I;refine zR<|yG 5 [] [(19,.bool (i == (s.l.length:Int)))] ?_;cases hc1:(i == (s.l.length:Int)) with
     | true =>
      have hM0:=zQ hc1 ho0
      try rw [hc1]
      exact yF [] [(25,vY)]<|yV [(0,vT s.l),(1,.int .u8 (c.toNat:Int)),(5,vS p out c1),(6,vI from0),(7,vI i),(25,vY)]<|zV ⟨_,(zB hM0).symm,H,rfl,rfl⟩
     | false =>
      have hM01:=zN hc1 ho0
      try rw [hc1]
      refine yG 7 [] [(20,vT s.l),(21,vI i)] ?_;obtain ⟨b1,hy,N⟩:=zC hM01;exact gN rfl rfl hy<|yF [] [(25,.bool ((b1.toNat:Int) == (c.toNat:Int)))]<|yV [(0,vT s.l),(1,.int .u8 (c.toNat:Int)),(5,vS p out c1),(6,vI from0),(7,vI i),(25,.bool ((b1.toNat:Int) == (c.toNat:Int)))]<|zV ⟨_,(zB N).symm,H,rfl,rfl⟩
   rintro I0 hs2 m2 ⟨t25,heq,le,rfl,rfl⟩;subst o0;have h1:=iM le h1;have H:=H.trans le;refine zE ?_;obtain ⟨o01,ho01,hMc1⟩:=zC hMc;refine yU (fun I' hs' m'=>∃ (out2:List Str) (from01:Int) (p2:Option Addr) (c3:Nat) (cs2:List Value),o01=(out2,from01)∧I0.le I'∧(RL I' cs2 out2)∧hs'=[hO Str (vS p2 out2 c3) cs2]∧m'=[(0,vT s.l),(1,.int .u8 (c.toNat:Int)),(5,vS p2 out2 c3),(6,vI from01),(7,vI i)]) ?_ ?_
   · have H:=iS I0;refine yO ho01 ?_ ?_
     · intro hc2 N;refine yM<|yG 4 [] [(26,vS p out c1),(27,vT s.l),(28,vI from0),(29,vI i)]<|bE N fun s1 hy1 N=>zEB rfl hy1<|xW [vT s1.l] Str ?_;intro b2 hb1;have h4:RL I0 [vT s1.l] ([s1]:List Str):=⟨[vT s1.l],_,rfl,rfl,rfl,rfl⟩;obtain ⟨out3,hy2,N⟩:=zC N;exact qZ 9 1 1 rfl rfl rfl h1 (.inr ⟨0,rfl⟩) h4 hy2 fun p3 c4 cs3 h5=>rP (yH [1] (hs':=[hO Str (vS p3 out3 c4) cs3]))<|yF [] [(5,vS p3 out3 c4)]<|zE<|zR<|yF [] [(6,vI (W (i + 1)))]<|yV [(0,vT s.l),(1,.int .u8 (c.toNat:Int)),(5,vS p3 out3 c4),(6,vI (W (i + 1))),(7,vI i)]<|zV ⟨_,_,_,_,_,(zB N).symm,H,h5,rfl,rfl⟩
     intro hc2 N;exact zZ<|yV [(0,vT s.l),(1,.int .u8 (c.toNat:Int)),(5,vS p out c1),(6,vI from0),(7,vI i)]<|zV ⟨_,_,_,_,_,(zB N).symm,H,h1,rfl,rfl⟩
   rintro I01 hs2 m2 ⟨out2,from01,p2,c3,cs2,heq1,le1,h3,rfl,rfl⟩;subst o01;have H:=H.trans le1;exact zU<|zE<|zR<|yF [] [(7,vI (W (i + 1)))]<|xE<|vM [(0,vT s.l),(1,.int .u8 (c.toNat:Int)),(5,vS p2 out2 c3),(6,vI from01),(7,vI (W (i + 1)))]<|ih out2 from01 (W (i + 1)) _ hMc1 H h3 hg ho hx
 intro hc N;exact xC<|zO<|zO<|yV [(5,vS p out c1)]<|hx _ _ _ _ _ (zB N).symm H h1
def mX (s:Str) (c:UInt8):Option ((List Str)):=do
 let out1←rY s c ([]:List Str) 0 0
 pure (id out1)
theorem zD8:∀ s c r,mX s c=some r→∀ {I:Imm} ,Ret Tryz.prog 156 [vT s.l,.int .u8 (c.toNat:Int)] I [] (zC0  r):=by
 intro s c r N I;unfold mX at N;refine yB (fn:=Tryz.f156) (c:=(bodyOf Tryz.f156)) Tryz.func156 rfl rfl ?_;rintro B - -;refine yI []<|xP<|xW [] Str ?_;intro b hb;have h:RL I [] ([]:List Str):=rfl;refine yF [] [(5,vS (some ⟨b,0,none⟩) ([]:List Str) 0)]<|vO [(6,vI 0)]<|yL<|yI [(7,vI 0)]<|zE<|zX<|vM [(0,vT s.l),(1,.int .u8 (c.toNat:Int)),(5,vS (some ⟨b,0,none⟩) ([]:List Str) 0),(6,vI 0),(7,vI 0)] ?_;obtain ⟨o02,ho02,hMl⟩:=zC N;refine zBj s c ([]:List Str) 0 0 o02 ho02 iR h (fun _ _ _ h=>h) (fun _ _ h=>h) ?_;intro I02 out1 p1 c2 cs1 heq2 le2 h2;subst o02;refine zY<|vO [(4,vS p1 out1 c2)]<|zE<|yC<|xO 0 rfl ?_;intro I03 le3 hl0;have h6:=SL.of_frozen hl0 le3 h2;obtain rfl:=zB hMl;exact xM ⟨_,_,(.tmp rfl ResV.nil),zT,⟨_,rfl,rfl,h6⟩⟩
def rZ (s1:Str) (n0:Int) (i:Int):Option (Out Int (Int×Bool)):=do
 if (decide (i < (s1.l.length:Int))) then
  let t54←(do
    let b2←sidx s1 i
    if (decide ((b2.toNat:Int) < 48)) then
     pure true
    else
     let b3←sidx s1 i
     pure (decide ((b3.toNat:Int) > 57))
      : Option Bool)
  if t54 then
   pure (.ret (0,false))
  else
   let b4←sidx s1 i
   rZ s1 (W ((W (n0 * 10)) + (W (IntKind.u8.wrap ((b4.toNat:Int) - 48))))) (W (i + 1))
 else
  pure (.done n0)
 partial_fixpoint
theorem zBk (s1:Str):∀ (n0:Int) (i:Int) (o:Out Int (Int×Bool)),rZ s1 n0 i=some o→∀ {B}{I0 I:Imm}{Q}{neg:Bool} ,I0.le I→NG Q→NO Q→(∀ (I':Imm) (n01:Int),o=(.done n01)→I0.le I'→T 67 B Q (.exit 0) I' [] [(4,.bool neg),(5,vI n01)])→(∀ r I' hs' m',o=(.ret r)→I0.le I'→RS Tryz.prog Tryz.f209 B (nB  r) I' hs' m'→T 67 B Q .ret I' hs' m')→J Tryz.prog 67 B (nav (bodyOf Tryz.f209) [1,1,1,1,1,0,1,0]) Q I [] [(0,vT s1.l),(4,.bool neg),(5,vI n0),(6,vI i)]:=by
 refine rZ.partial_correctness s1 _ fun self ih n0 i o N B I0 I Q neg H hg ho hx hr=>xD hg ho<|yK<|yI [(42,.bool (decide (i < (s1.l.length:Int))))]<|zE<|yO N ?_ ?_
 · intro hc7 N;refine zZ<|yL<|zX<|yK<|yK ?_;obtain ⟨o03,ho03,hMc3⟩:=zC N;refine yU (fun I' hs' m'=>∃ (t54:Bool),o03=t54∧I.le I'∧hs'=[]∧m'=[(0,vT s1.l),(4,.bool neg),(5,vI n0),(6,vI i),(54,.bool t54)]) ?_ ?_
   · have H:=iS I;refine zR<|yG 2 [] [(45,vT s1.l),(46,vI i)] ?_;obtain ⟨b2,hy3,N⟩:=zC ho03;refine gN rfl rfl hy3<|yG 5 [] [(49,.bool (decide ((b2.toNat:Int) < 48)))] ?_;cases hc8:(decide ((b2.toNat:Int) < 48)) with
     | true =>
      have hM010:=zQ hc8 N
      try rw [hc8]
      exact yF [] [(54,vY)]<|yV [(0,vT s1.l),(4,.bool neg),(5,vI n0),(6,vI i),(54,vY)]<|zV ⟨_,(zB hM010).symm,H,rfl,rfl⟩
     | false =>
      have hM011:=zN hc8 N
      try rw [hc8]
      refine yG 7 [] [(50,vT s1.l),(51,vI i)] ?_;obtain ⟨b3,hy4,N⟩:=zC hM011;exact gN rfl rfl hy4<|yF [] [(54,.bool (decide ((b3.toNat:Int) > 57)))]<|yV [(0,vT s1.l),(4,.bool neg),(5,vI n0),(6,vI i),(54,.bool (decide ((b3.toNat:Int) > 57)))]<|zV ⟨_,(zB N).symm,H,rfl,rfl⟩
   rintro I03 hs2 m2 ⟨t54,heq3,le3,rfl,rfl⟩;subst o03;have H:=H.trans le3;refine zE<|yO hMc3 ?_ ?_
   · intro hc9 N;exact yI [(2,vI 0),(3,vF)]<|zE<|yC<|zK<|yA<|zK<|zK<|hr _ _ _ _ (zB N).symm H ⟨_,_,(.tmp rfl (.tmp rfl ResV.nil)),zT,⟨_,_,rfl,rfl,rfl,rfl⟩⟩
   intro hc9 N;exact zZ<|zE<|zR<|yG 4 [] [(56,vI (W (n0 * 10))),(57,vT s1.l),(58,vI i)]<|bE N fun b4 hy5 N=>gN rfl rfl hy5<|yF [] [(5,vI (W ((W (n0 * 10)) + (W (IntKind.u8.wrap ((b4.toNat:Int) - 48))))))]<|zU<|zE<|zR<|yF [] [(6,vI (W (i + 1)))]<|xE<|vM [(0,vT s1.l),(4,.bool neg),(5,vI (W ((W (n0 * 10)) + (W (IntKind.u8.wrap ((b4.toNat:Int) - 48)))))),(6,vI (W (i + 1)))]<|ih (W ((W (n0 * 10)) + (W (IntKind.u8.wrap ((b4.toNat:Int) - 48))))) (W (i + 1)) _ N H  hg ho hx hr
 intro hc7 N;exact xC<|zO<|zO<|yV [(4,.bool neg),(5,vI n0)]<|hx _ _ (zB N).symm H
def mY (s:Str):Option (Int×Bool):=do
 let neg←(do
   if (decide ((s.l.length:Int) > 0)) then
    let b←sidx s 0
    pure ((b.toNat:Int) == 45)
   else
    pure false
     : Option Bool)
 let s1←(do
   if neg then
    let s2←sslc s 1 (s.l.length:Int)
    pure (id s2)
   else
    pure (id s)
     : Option Str)
 let t38←(do
   if ((s1.l.length:Int) == 0) then
    pure true
   else
    if (decide ((s1.l.length:Int) > 17)) then
     pure true
    else
     let b1←sidx s1 0
     if ((b1.toNat:Int) == 48) then
      if (decide ((s1.l.length:Int) > 1)) then
       pure true
      else
       pure (id neg)
     else
      pure false
     : Option Bool)
 if t38 then
  pure (0,false)
 else
  match←rZ s1 0 0 with
  | .ret r0=>pure r0
  | .done n01 =>
   let n02←(do
     if neg then
      pure (W (0 - n01))
     else
      pure (id n01)
       : Option Int)
   pure (n02,true)
theorem zD9:∀ s r,mY s=some r→∀ {I:Imm} ,Ret Tryz.prog 209 [vT s.l] I [] (nB  r):=by
 intro s r N I;unfold mY at N;refine yB (fn:=Tryz.f209) (c:=(bodyOf Tryz.f209)) Tryz.func209 rfl rfl ?_;rintro B - -;have H:=iS I;refine yI []<|zE<|yK ?_;obtain ⟨o0,ho0,hMc⟩:=zC N;refine yU (fun I' hs' m'=>∃ (neg:Bool),o0=neg∧I.le I'∧hs'=[]∧m'=[(0,vT s.l),(4,.bool neg)]) ?_ ?_
 · have H:=iS I;refine zR<|yG 4 [] [(10,.bool (decide ((s.l.length:Int) > 0)))] ?_;cases hc:(decide ((s.l.length:Int) > 0)) with
   | true =>
    have hM0:=zQ hc ho0
    try rw [hc]
    refine yG 5 [] [(11,vT s.l)] ?_;obtain ⟨b,hy,N⟩:=zC hM0;exact gN rfl rfl hy<|yF [] [(4,.bool ((b.toNat:Int) == 45))]<|yV [(0,vT s.l),(4,.bool ((b.toNat:Int) == 45))]<|zV ⟨_,(zB N).symm,H,rfl,rfl⟩
   | false =>
    have hM01:=zN hc ho0
    try rw [hc]
    exact yF [] [(4,vF)]<|yV [(0,vT s.l),(4,vF)]<|zV ⟨_,(zB hM01).symm,H,rfl,rfl⟩
 rintro I0 hs2 m2 ⟨neg,heq,le,rfl,rfl⟩;subst o0;have H:=H.trans le;refine yL<|yI [(15,.bool neg)]<|zE ?_;obtain ⟨o01,ho01,hMc1⟩:=zC hMc;refine yU (fun I' hs' m'=>∃ (s1:Str),o01=s1∧I0.le I'∧hs'=[]∧m'=[(0,vT s1.l),(4,.bool neg)]) ?_ ?_
 · have H:=iS I0;refine yO ho01 ?_ ?_
   · intro hc1 N;exact zR<|yG 1 [] [(16,vT s.l)]<|bE N fun s2 hy1 N=>zEB rfl hy1<|yF [] [(0,vT s2.l)]<|yV [(0,vT s2.l),(4,.bool neg)]<|zV ⟨_,(zB N).symm,H,rfl,rfl⟩
   intro hc1 N;exact zZ<|yV [(0,vT s.l),(4,.bool neg)]<|zV ⟨_,(zB N).symm,H,rfl,rfl⟩
 rintro I01 hs2 m2 ⟨s1,heq1,le1,rfl,rfl⟩;subst o01;have H:=H.trans le1;refine yL<|yK ?_;obtain ⟨o02,ho02,hMc2⟩:=zC hMc1;refine yU (fun I' hs' m'=>∃ (t38:Bool),o02=t38∧I01.le I'∧hs'=[]∧m'=[(0,vT s1.l),(4,.bool neg),(38,.bool t38)]) ?_ ?_
 · have H:=iS I01;refine zR<|yG 4 [] [(21,.bool ((s1.l.length:Int) == 0))] ?_;cases hc2:((s1.l.length:Int) == 0) with
   | true =>
    have hM02:=zQ hc2 ho02
    try rw [hc2]
    exact yF [] [(38,vY)]<|yV [(0,vT s1.l),(4,.bool neg),(38,vY)]<|zV ⟨_,(zB hM02).symm,H,rfl,rfl⟩
   | false =>
    have hM03:=zN hc2 ho02
    try rw [hc2]
    refine yG 9 [] [(26,.bool (decide ((s1.l.length:Int) > 17)))] ?_;cases hc3:(decide ((s1.l.length:Int) > 17)) with
    | true =>
     have hM04:=zQ hc3 hM03
     try rw [hc3]
     exact yF [] [(38,vY)]<|yV [(0,vT s1.l),(4,.bool neg),(38,vY)]<|zV ⟨_,(zB hM04).symm,H,rfl,rfl⟩
    | false =>
     have hM05:=zN hc3 hM03
     try rw [hc3]
     refine yG 10 [] [(27,vT s1.l)] ?_;obtain ⟨b1,hy2,N⟩:=zC hM05;refine gN rfl rfl hy2<|yG 13 [] [(30,.bool ((b1.toNat:Int) == 48))] ?_;cases hc4:((b1.toNat:Int) == 48) with
     | true =>
      have hM06:=zQ hc4 N
      try rw [hc4]
      refine yG 17 [] [(34,.bool (decide ((s1.l.length:Int) > 1)))] ?_;cases hc5:(decide ((s1.l.length:Int) > 1)) with
      | true =>
       have hM07:=zQ hc5 hM06
       try rw [hc5]
       exact yF [] [(38,vY)]<|yV [(0,vT s1.l),(4,.bool neg),(38,vY)]<|zV ⟨_,(zB hM07).symm,H,rfl,rfl⟩
      | false =>
       have hM08:=zN hc5 hM06
       try rw [hc5]
       exact yF [] [(38,.bool neg)]<|yV [(0,vT s1.l),(4,.bool neg),(38,.bool neg)]<|zV ⟨_,(zB hM08).symm,H,rfl,rfl⟩
     | false =>
      have hM09:=zN hc4 N
      try rw [hc4]
      exact yF [] [(38,vF)]<|yV [(0,vT s1.l),(4,.bool neg),(38,vF)]<|zV ⟨_,(zB hM09).symm,H,rfl,rfl⟩
 rintro I02 hs2 m2 ⟨t38,heq2,le2,rfl,rfl⟩;subst o02;have H:=H.trans le2;refine zE<|yO hMc2 ?_ ?_
 · intro hc6 N;refine yI [(2,vI 0),(3,vF)]<|zE<|yC<|zK ?_;obtain rfl:=zB N;exact xM ⟨_,_,(.tmp rfl (.tmp rfl ResV.nil)),zT,⟨_,_,rfl,rfl,rfl,rfl⟩⟩
 intro hc6 N;refine zZ<|vO [(5,vI 0)]<|yL<|yI [(6,vI 0)]<|zE<|zX<|vM [(0,vT s1.l),(4,.bool neg),(5,vI 0),(6,vI 0)] ?_;obtain ⟨o04,ho04,hMl⟩:=zC N;refine zBk s1 0 0 o04 ho04 iR  (fun _ _ _ h=>h) (fun _ _ h=>h) ?_ ?_
 · intro I04 n01 heq4 le4;subst o04;have H:=H.trans le4;refine zY<|yL<|yI [(63,.bool neg)]<|zE ?_;obtain ⟨o05,ho05,hMc4⟩:=zC hMl;refine yU (fun I' hs' m'=>∃ (n02:Int),o05=n02∧I04.le I'∧hs'=[]∧m'=[(5,vI n02)]) ?_ ?_
   · have H:=iS I04;refine yO ho05 ?_ ?_
     · intro hc10 N;exact zR<|yF [] [(5,vI (W (0 - n01)))]<|yV [(5,vI (W (0 - n01)))]<|zV ⟨_,(zB N).symm,H,rfl,rfl⟩
     intro hc10 N;exact zZ<|yV [(5,vI n01)]<|zV ⟨_,(zB N).symm,H,rfl,rfl⟩
   rintro I05 hs2 m2 ⟨n02,heq5,le5,rfl,rfl⟩;subst o05;refine vO [(2,vI n02),(3,vY)]<|zE<|yC ?_;obtain rfl:=zB hMc4;exact xM ⟨_,_,(.tmp rfl (.tmp rfl ResV.nil)),zT,⟨_,_,rfl,rfl,rfl,rfl⟩⟩
 intro r0 I9 hs9 m9 heq9 le9 hrs9;subst heq9;refine yA<|zK ?_;obtain rfl:=zB hMl;exact xM hrs9
def sM (s:Str) (at0:Int) (end0:Int):Option (Int):=do
 let t31←(do
   if (decide (end0 < (s.l.length:Int))) then
    if (decide (end0 < (W (at0 + 2)))) then
     let b←sidx s end0
     if (decide ((b.toNat:Int) ≥ 48)) then
      let b1←sidx s end0
      pure (decide ((b1.toNat:Int) ≤ 57))
     else
      pure false
    else
     pure false
   else
    pure false
     : Option Bool)
 if t31 then
  sM s at0 (W (end0 + 1))
 else
  pure (id end0)
 partial_fixpoint
theorem zA7 (s:Str) (at0:Int):∀ (end0:Int) (o:Int),sM s at0 end0=some o→∀ {B}{I0 I:Imm}{Q}  ,I0.le I→NG Q→NO Q→(∀ (I':Imm) (end01:Int),o=end01→I0.le I'→T 47 B Q (.exit 0) I' [] [(0,vT s.l),(1,vI at0),(6,vI end01)])→J Tryz.prog 47 B (nav (bodyOf Tryz.f202) [1,1,0,0]) Q I [] [(0,vT s.l),(1,vI at0),(6,vI end0)]:=by
 refine sM.partial_correctness s at0 _ fun self ih end0 o N B I0 I Q H hg ho hx=>xD hg ho<|yK<|yK ?_;obtain ⟨o0,ho0,hMc⟩:=zC N;refine yU (fun I' hs' m'=>∃ (t31:Bool),o0=t31∧I.le I'∧hs'=[]∧m'=[(0,vT s.l),(1,vI at0),(6,vI end0),(31,.bool t31)]) ?_ ?_
 · have H:=iS I;refine zR<|yG 5 [] [(14,.bool (decide (end0 < (s.l.length:Int))))] ?_;cases hc:(decide (end0 < (s.l.length:Int))) with
   | true =>
    have hM0:=zQ hc ho0
    try rw [hc]
    refine yG 11 [] [(20,.bool (decide (end0 < (W (at0 + 2)))))] ?_;cases hc1:(decide (end0 < (W (at0 + 2)))) with
    | true =>
     have hM01:=zQ hc1 hM0
     try rw [hc1]
     refine yG 13 [] [(21,vT s.l),(22,vI end0)] ?_;obtain ⟨b,hy,N⟩:=zC hM01;refine gN rfl rfl hy<|yG 17 [] [(26,.bool (decide ((b.toNat:Int) ≥ 48)))] ?_;cases hc2:(decide ((b.toNat:Int) ≥ 48)) with
     | true =>
      have hM02:=zQ hc2 N
      try rw [hc2]
      refine yG 19 [] [(27,vT s.l),(28,vI end0)] ?_;obtain ⟨b1,hy1,N⟩:=zC hM02;exact gN rfl rfl hy1<|yF [] [(31,.bool (decide ((b1.toNat:Int) ≤ 57)))]<|yV [(0,vT s.l),(1,vI at0),(6,vI end0),(31,.bool (decide ((b1.toNat:Int) ≤ 57)))]<|zV ⟨_,(zB N).symm,H,rfl,rfl⟩
     | false =>
      have hM03:=zN hc2 N
      try rw [hc2]
      exact yF [] [(31,vF)]<|yV [(0,vT s.l),(1,vI at0),(6,vI end0),(31,vF)]<|zV ⟨_,(zB hM03).symm,H,rfl,rfl⟩
    | false =>
     have hM04:=zN hc1 hM0
     try rw [hc1]
     exact yF [] [(31,vF)]<|yV [(0,vT s.l),(1,vI at0),(6,vI end0),(31,vF)]<|zV ⟨_,(zB hM04).symm,H,rfl,rfl⟩
   | false =>
    have hM05:=zN hc ho0
    try rw [hc]
    exact yF [] [(31,vF)]<|yV [(0,vT s.l),(1,vI at0),(6,vI end0),(31,vF)]<|zV ⟨_,(zB hM05).symm,H,rfl,rfl⟩
 rintro I0 hs2 m2 ⟨t31,heq,le,rfl,rfl⟩;subst o0;have H:=H.trans le;refine zE<|yO hMc ?_ ?_
 · intro hc3 N;exact zZ<|zE<|zX<|zR<|yF [] [(6,vI (W (end0 + 1)))]<|zU<|xE<|vM [(0,vT s.l),(1,vI at0),(6,vI (W (end0 + 1)))]<|ih (W (end0 + 1)) _ N H  hg ho hx
 intro hc3 N;exact xC<|zO<|zO<|yV [(0,vT s.l),(1,vI at0),(6,vI end0)]<|hx _ _ (zB N).symm H
def pZ (s:Str) (at0:Int):Option (Int×Int):=do
 let end01←sM s at0 at0
 let s1←sslc s at0 end01
 let (y1,y2)←mY s1
 if (!y2) then
  pure (1,at0)
 else
  pure (y1,end01)
theorem fY:∀ s at0 r,pZ s at0=some r→∀ {I:Imm} ,Ret Tryz.prog 202 [vT s.l,vI at0] I [] (kK  r):=by
 intro s at0 r N I;unfold pZ at N;refine yB (fn:=Tryz.f202) (c:=(bodyOf Tryz.f202)) Tryz.func202 rfl rfl ?_;rintro B - -;refine yI []<|vO [(6,vI at0)]<|yL<|zX<|vM [(0,vT s.l),(1,vI at0),(6,vI at0)] ?_;obtain ⟨o01,ho01,hMl⟩:=zC N;refine zA7 s at0 at0 o01 ho01 iR  (fun _ _ _ h=>h) (fun _ _ h=>h) ?_;intro I01 end01 heq1 le1;subst o01;refine zY<|xP<|yG 3 [] [(35,vT s.l),(36,vI at0),(37,vI end01)] ?_;obtain ⟨s1,hy2,N⟩:=zC hMl;refine zEB rfl hy2 ?_;obtain ⟨⟨y1,y2⟩,hy3,N⟩:=zC N;refine xX (zD9 s1 _ hy3 ) ?_;rintro I02 hs2 v2 k2 le2 - ⟨v0,v01,rfl,rfl,rfl,rfl⟩ -;refine yF [] [(7,vI y1),(8,.bool y2)]<|yL<|yI [(43,.bool (!y2))]<|zE<|yO N ?_ ?_
 · intro hc4 N;refine yI [(4,vI 1),(5,vI at0)]<|zE<|yC<|zK ?_;obtain rfl:=zB N;exact xM ⟨_,_,(.tmp rfl (.tmp rfl ResV.nil)),zT,⟨_,_,rfl,rfl,rfl,rfl⟩⟩
 intro hc4 N;refine zZ<|vO [(4,vI y1),(5,vI end01)]<|zE<|yC ?_;obtain rfl:=zB N;exact xM ⟨_,_,(.tmp rfl (.tmp rfl ResV.nil)),zT,⟨_,_,rfl,rfl,rfl,rfl⟩⟩
def mZ (s:Str) (at0:Int):Option (Int):=do
 let t20←(do
   if (decide (at0 ≥ (s.l.length:Int))) then
    pure true
   else
    let b←sidx s at0
    if (decide ((b.toNat:Int) < 105)) then
     pure true
    else
     let b1←sidx s at0
     pure (decide ((b1.toNat:Int) > 108))
     : Option Bool)
 if t20 then
  pure (-1)
 else
  let b2←sidx s at0
  pure (W ((W (b2.toNat:Int)) - 105))
theorem zDa:∀ s at0 r,mZ s at0=some r→∀ {I:Imm} ,Ret Tryz.prog 223 [vT s.l,vI at0] I [] (xK  r):=by
 intro s at0 r N I;unfold mZ at N;refine yB (fn:=Tryz.f223) (c:=(bodyOf Tryz.f223)) Tryz.func223 rfl rfl ?_;rintro B - -;have H:=iS I;refine yI []<|yL<|yK ?_;obtain ⟨o0,ho0,hMc⟩:=zC N;refine yU (fun I' hs' m'=>∃ (t20:Bool),o0=t20∧I.le I'∧hs'=[]∧m'=[(0,vT s.l),(1,vI at0),(20,.bool t20)]) ?_ ?_
 · have H:=iS I;refine zR<|yG 5 [] [(9,.bool (decide (at0 ≥ (s.l.length:Int))))] ?_;cases hc:(decide (at0 ≥ (s.l.length:Int))) with
   | true =>
    have hM0:=zQ hc ho0
    try rw [hc]
    exact yF [] [(20,vY)]<|yV [(0,vT s.l),(1,vI at0),(20,vY)]<|zV ⟨_,(zB hM0).symm,H,rfl,rfl⟩
   | false =>
    have hM01:=zN hc ho0
    try rw [hc]
    refine yG 7 [] [(10,vT s.l),(11,vI at0)] ?_;obtain ⟨b,hy,N⟩:=zC hM01;refine gN rfl rfl hy<|yG 11 [] [(15,.bool (decide ((b.toNat:Int) < 105)))] ?_;cases hc1:(decide ((b.toNat:Int) < 105)) with
    | true =>
     have hM02:=zQ hc1 N
     try rw [hc1]
     exact yF [] [(20,vY)]<|yV [(0,vT s.l),(1,vI at0),(20,vY)]<|zV ⟨_,(zB hM02).symm,H,rfl,rfl⟩
    | false =>
     have hM03:=zN hc1 N
     try rw [hc1]
     refine yG 13 [] [(16,vT s.l),(17,vI at0)] ?_;obtain ⟨b1,hy1,N⟩:=zC hM03;exact gN rfl rfl hy1<|yF [] [(20,.bool (decide ((b1.toNat:Int) > 108)))]<|yV [(0,vT s.l),(1,vI at0),(20,.bool (decide ((b1.toNat:Int) > 108)))]<|zV ⟨_,(zB N).symm,H,rfl,rfl⟩
 rintro I0 hs2 m2 ⟨t20,heq,le,rfl,rfl⟩;subst o0;refine zE<|yO hMc ?_ ?_
 · intro hc2 N;refine yI [(4,vI (-1))]<|zE<|yC<|zK ?_;obtain rfl:=zB N;exact vQ
 intro hc2 N;refine zZ<|xP<|yG 2 [] [(21,vT s.l),(22,vI at0)]<|bE N fun b2 hy2 N=>gN rfl rfl hy2<|yF [] [(4,vI (W ((W (b2.toNat:Int)) - 105)))]<|zE<|yC ?_;obtain rfl:=zB N;exact vQ
end Go.LN
