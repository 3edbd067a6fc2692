/- Helper of the proof (see the last text). -/
import Derived.Test.YtgempbddefdamaaGreatHM2
set_option linter.unusedVariables false
set_option linter.unusedSimpArgs false
namespace Go.LN
open Go.Proofs
set_option maxRecDepth 20000
def pO (r:Bool):KT:=fun kk imm' hs' v=>
  ∃ v0,hs'=[]∧v=tupV [v0]∧v0=.bool r
mutual
def uK (e0:zH) (depth:Int) (levels:Int):Option (Bool):=do
 let t24←(do
   if (decide (levels < 1)) then
    pure true
   else
    let y←pZ e0.Kind
    if (y != (e0.Kids.length:Int)) then
     pure true
    else
     let y1←oV e0 depth
     pure (!y1)
     : Option Bool)
 if t24 then
  pure false
 else
  match←wU (same e0) (same depth) (same levels) (same 0) with
  | .ret r0=>pure r0
  | .done _ =>
   pure true
 partial_fixpoint
def wU (e0:zH) (depth:Int) (levels:Int) (i:Int):Option (Out Unit (Bool)):=do
 if (decide (i < (e0.Kids.length:Int))) then
  let x←idx e0.Kids i
  let y2←uK (same x) (same depth) (W (levels - 1))
  if (!y2) then
   pure (.ret false)
  else
   wU (same e0) (same depth) (same levels) (W (i + 1))
 else
  pure (.done ())
 partial_fixpoint
end
theorem zC1:(∀ (e0:zH) (depth:Int) (levels:Int) r,uK e0 depth levels=some r→∀ {imm:Imm}{p c p1 c1 p2 c2},(S4 imm p e0.Index.Coefs c)→(S4 imm p1 e0.Read.Subs c1)→(S4 imm p2 e0.Kids c2)→Ret Tryz.prog 136 [vA (cExpr e0 p c p1 c1 p2 c2),vI depth,vI levels] imm [] (pO  r))∧(∀ (e0:zH) (depth:Int) (levels:Int) (i:Int) o,wU e0 depth levels i=some o→∀ {B}{imm0 imm:Imm}{Q p c p1 c1 p2 c2}{b:Nat},imm0.le imm→(S4 imm p e0.Index.Coefs c)→(S4 imm p1 e0.Read.Subs c1)→(S4 imm p2 e0.Kids c2)→(∀ gl a w,¬Q (.goto gl) a w)→(∀ a w,¬Q .outgrown a w)→(∀ (imm':Imm) ,o=(.done ())→imm0.le imm'→T 42 B Q (.exit 0) imm' [] [])→(∀ r imm' hs' m',o=(.ret r)→imm0.le imm'→RS Tryz.prog Tryz.f136 B (pO  r) imm' hs' m'→T 42 B Q .ret imm' hs' m')→J Tryz.prog 42 B (nav (bodyOf Tryz.f136) [1,1,0,1,0]) Q imm [hB b (cExpr e0 p c p1 c1 p2 c2)] [(1,vI depth),(2,vI levels),(3,vP b 0),(7,vI i)]):=by
  refine uK.mutual_partial_correctness (fun e0 depth levels r=>∀ {imm:Imm}{p c p1 c1 p2 c2},(S4 imm p e0.Index.Coefs c)→(S4 imm p1 e0.Read.Subs c1)→(S4 imm p2 e0.Kids c2)→Ret Tryz.prog 136 [vA (cExpr e0 p c p1 c1 p2 c2),vI depth,vI levels] imm [] (pO  r)) (fun e0 depth levels i o=>∀ {B}{imm0 imm:Imm}{Q p c p1 c1 p2 c2}{b:Nat},imm0.le imm→(S4 imm p e0.Index.Coefs c)→(S4 imm p1 e0.Read.Subs c1)→(S4 imm p2 e0.Kids c2)→(∀ gl a w,¬Q (.goto gl) a w)→(∀ a w,¬Q .outgrown a w)→(∀ (imm':Imm) ,o=(.done ())→imm0.le imm'→T 42 B Q (.exit 0) imm' [] [])→(∀ r imm' hs' m',o=(.ret r)→imm0.le imm'→RS Tryz.prog Tryz.f136 B (pO  r) imm' hs' m'→T 42 B Q .ret imm' hs' m')→J Tryz.prog 42 B (nav (bodyOf Tryz.f136) [1,1,0,1,0]) Q imm [hB b (cExpr e0 p c p1 c1 p2 c2)] [(1,vI depth),(2,vI levels),(3,vP b 0),(7,vI i)]) ?_ ?_
  · intro F_spec_l3Shape_l1 ih_spec_l3Shape_l1 e0 depth levels r hM imm p c p1 c1 p2 c2 h h1 h2;refine yG (fn:=Tryz.f136) (c:=(bodyOf Tryz.f136)) Tryz.func136 rfl rfl ?_;rintro B - -;have hle:=iS imm;refine zF<|zB<|tR (cExpr e0 p c p1 c1 p2 c2) ?_;intro b hb;refine yA [] []<|zE<|zF<|zF ?_;obtain ⟨o0,ho0,hMc⟩:=zC hM;refine yU (fun imm' hs' m'=>∃ (t24:Bool),o0=t24∧imm.le imm'∧hs'=[hB b (cExpr e0 p c p1 c1 p2 c2)]∧m'=[(1,vI depth),(2,vI levels),(3,vP b 0),(24,.bool t24)]) ?_ ?_
    · have hle:=iS imm;cases hc:(decide (levels < 1)) with
      | true =>
       have hM0:=zW hc ho0;refine uA [.p (vI levels) [],.q (.bool true),.q (.bool true),.p undef [],.p undef [],.p undef [],.p undef [],.p undef [],.p undef [],.p undef [],.p (.bool true) [],.p (.bool true) [],.p undef [],.p undef [],.p undef [],.p undef [],.p (.bool true) []] [[],[(0,false)],[(1,false)],[(2,false)],[(2,false),(3,false)],[(2,false),(4,false)],[(2,false)],[(2,false),(6,false)],[(2,false),(7,false)],[(2,false),(5,false),(8,false)],[(2,false),(9,false)],[(10,false)],[(11,false)],[(11,false)],[(11,false),(12,false),(13,false)],[(11,false),(14,false)],[(11,false),(15,false)]] [hB b (cExpr e0 p c p1 c1 p2 c2)] [] [(16,false)] (zK [0] rfl (by decide)) ?_ ?_
       · refine Op<|Oq ?_<|Oq ?_<|Op<|Op<|Op<|Op<|Op<|Op<|Op<|Op<|Op<|Op<|Op<|Op<|Op<|Op<|On
         · intro imm1 hf le1;refine zG ?_;rintro _ _ ⟨rfl,rfl⟩;refine zN<|yH [(8,vI levels)] ?_;have hle:=iS imm1;refine qV 2 [(9,.bool (decide (levels < 1)))] ?_;rw [hc];exact zZ (hx:=[]) rfl hle rfl (zM rfl) ⟨rfl,rfl⟩
         intro imm1 hf le1;refine zG ?_;rintro _ _ ⟨rfl,rfl⟩;refine zN<|yH [(9,.bool true)] ?_;have hle:=iS imm1;exact qV 3 [(10,.bool true)]<|zZ (hx:=[]) rfl hle rfl (zM rfl) ⟨rfl,rfl⟩
       intro imm01 le;refine zG ?_;rintro _ _ ⟨rfl,rfl⟩;refine zN<|yH [(1,vI depth),(2,vI levels),(3,vP b 0),(24,.bool true)] ?_;have hle:=hle.trans le;exact yN rfl<|yT [(1,vI depth),(2,vI levels),(3,vP b 0),(24,.bool true)]<|yB ⟨_,(zD hM0).symm,hle,rfl,rfl⟩
      | false =>
       have hM01:=zU hc ho0;obtain ⟨y,hy,hM⟩:=zC hM01;cases hc1:(y != (e0.Kids.length:Int)) with
       | true =>
        have hM02:=zW hc1 hM;refine uA [.p (vI levels) [],.q (.bool false),.q (.bool false),.p (vP b 0) [],.p (vI e0.Kind) [0],.q (vI y),.p (vP b 6) [],.p (vS p2 e0.Kids c2) [0],.p (vI (e0.Kids.length:Int)) [],.q (.bool true),.q (.bool true),.q (.bool true),.p undef [],.p undef [],.p undef [],.p undef [],.p (.bool true) []] [[],[(0,false)],[(1,false)],[(2,false)],[(2,false),(3,false)],[(2,false),(4,false)],[(2,false)],[(2,false),(6,false)],[(2,false),(7,false)],[(2,false),(5,false),(8,false)],[(2,false),(9,false)],[(10,false)],[(11,false)],[(11,false)],[(11,false),(12,false),(13,false)],[(11,false),(14,false)],[(11,false),(15,false)]] [hB b (cExpr e0 p c p1 c1 p2 c2)] [] [(16,false)] (zK [0] rfl (by decide)) ?_ ?_
        · refine Op<|Oq ?_<|Oq ?_<|Op<|Op<|Oq ?_<|Op<|Op<|Op<|Oq ?_<|Oq ?_<|Oq ?_<|Op<|Op<|Op<|Op<|Op<|On
          · intro imm1 hf le1;refine zG ?_;rintro _ _ ⟨rfl,rfl⟩;refine zN<|yH [(8,vI levels)] ?_;have hle:=iS imm1;refine qV 2 [(9,.bool (decide (levels < 1)))] ?_;rw [hc];exact zZ (hx:=[]) rfl hle rfl (zM rfl) ⟨rfl,rfl⟩
          · intro imm1 hf le1;refine zG ?_;rintro _ _ ⟨rfl,rfl⟩;refine zN<|yH [(9,.bool false)] ?_;have hle:=iS imm1;exact qV 3 [(10,.bool false)]<|zZ (hx:=[]) rfl hle rfl (zM rfl) ⟨rfl,rfl⟩
          · intro imm1 hf le1;refine zG ?_;rintro _ _ ⟨rfl,rfl⟩;refine zG ?_;rintro _ _ ⟨rfl,rfl⟩;refine zN<|yH [(10,.bool false),(12,vI e0.Kind)] ?_;have hle:=iS imm1;refine yR (dS e0.Kind _ hy ) ?_;rintro imm02 hs2 v2 k2 le1 - ⟨v0,rfl,rfl,rfl⟩ -;have hle:=hle.trans le1;exact zZ (hx:=[]) rfl hle rfl (zM rfl) ⟨rfl,rfl⟩
          · intro imm1 hf le1;refine zG ?_;rintro _ _ ⟨rfl,rfl⟩;refine zG ?_;rintro _ _ ⟨rfl,rfl⟩;refine zG ?_;rintro _ _ ⟨rfl,rfl⟩;refine zN<|yH [(10,.bool false),(13,vI y),(16,vI (e0.Kids.length:Int))] ?_;have hle:=iS imm1;refine qV 10 [(17,.bool (y != (e0.Kids.length:Int)))] ?_;rw [hc1];exact zZ (hx:=[]) rfl hle rfl (zM rfl) ⟨rfl,rfl⟩
          · intro imm1 hf le1;refine zG ?_;rintro _ _ ⟨rfl,rfl⟩;refine zG ?_;rintro _ _ ⟨rfl,rfl⟩;refine zN<|yH [(10,.bool false),(17,.bool true)] ?_;have hle:=iS imm1;exact qV 11 [(18,.bool true)]<|zZ (hx:=[]) rfl hle rfl (zM rfl) ⟨rfl,rfl⟩
          intro imm1 hf le1;refine zG ?_;rintro _ _ ⟨rfl,rfl⟩;refine zN<|yH [(18,.bool true)] ?_;have hle:=iS imm1;exact qV 12 [(19,.bool true)]<|zZ (hx:=[]) rfl hle rfl (zM rfl) ⟨rfl,rfl⟩
        intro imm03 le2;refine zG ?_;rintro _ _ ⟨rfl,rfl⟩;refine zN<|yH [(1,vI depth),(2,vI levels),(3,vP b 0),(24,.bool true)] ?_;have hle:=hle.trans le2;exact yN rfl<|yT [(1,vI depth),(2,vI levels),(3,vP b 0),(24,.bool true)]<|yB ⟨_,(zD hM02).symm,hle,rfl,rfl⟩
       | false =>
        have hM03:=zU hc1 hM;obtain ⟨y1,hy1,hM⟩:=zC hM03;refine uA [.p (vI levels) [],.q (.bool false),.q (.bool false),.p (vP b 0) [],.p (vI e0.Kind) [0],.q (vI y),.p (vP b 6) [],.p (vS p2 e0.Kids c2) [0],.p (vI (e0.Kids.length:Int)) [],.q (.bool false),.q (.bool false),.q (.bool false),.p (vA (cExpr e0 p c p1 c1 p2 c2)) [0],.p (vI depth) [],.q (.bool y1),.p (.bool (!y1)) [],.p (.bool (!y1)) []] [[],[(0,false)],[(1,false)],[(2,false)],[(2,false),(3,false)],[(2,false),(4,false)],[(2,false)],[(2,false),(6,false)],[(2,false),(7,false)],[(2,false),(5,false),(8,false)],[(2,false),(9,false)],[(10,false)],[(11,false)],[(11,false)],[(11,false),(12,false),(13,false)],[(11,false),(14,false)],[(11,false),(15,false)]] [hB b (cExpr e0 p c p1 c1 p2 c2)] [] [(16,false)] (zK [0] rfl (by decide)) ?_ ?_
        · refine Op<|Oq ?_<|Oq ?_<|Op<|Op<|Oq ?_<|Op<|Op<|Op<|Oq ?_<|Oq ?_<|Oq ?_<|Op<|Op<|Oq ?_<|Op<|Op<|On
          · intro imm1 hf le1;refine zG ?_;rintro _ _ ⟨rfl,rfl⟩;refine zN<|yH [(8,vI levels)] ?_;have hle:=iS imm1;refine qV 2 [(9,.bool (decide (levels < 1)))] ?_;rw [hc];exact zZ (hx:=[]) rfl hle rfl (zM rfl) ⟨rfl,rfl⟩
          · intro imm1 hf le1;refine zG ?_;rintro _ _ ⟨rfl,rfl⟩;refine zN<|yH [(9,.bool false)] ?_;have hle:=iS imm1;exact qV 3 [(10,.bool false)]<|zZ (hx:=[]) rfl hle rfl (zM rfl) ⟨rfl,rfl⟩
          · intro imm1 hf le1;refine zG ?_;rintro _ _ ⟨rfl,rfl⟩;refine zG ?_;rintro _ _ ⟨rfl,rfl⟩;refine zN<|yH [(10,.bool false),(12,vI e0.Kind)] ?_;have hle:=iS imm1;refine yR (dS e0.Kind _ hy ) ?_;rintro imm02 hs2 v2 k2 le1 - ⟨v0,rfl,rfl,rfl⟩ -;have hle:=hle.trans le1;exact zZ (hx:=[]) rfl hle rfl (zM rfl) ⟨rfl,rfl⟩
          · intro imm1 hf le1;refine zG ?_;rintro _ _ ⟨rfl,rfl⟩;refine zG ?_;rintro _ _ ⟨rfl,rfl⟩;refine zG ?_;rintro _ _ ⟨rfl,rfl⟩;refine zN<|yH [(10,.bool false),(13,vI y),(16,vI (e0.Kids.length:Int))] ?_;have hle:=iS imm1;refine qV 10 [(17,.bool (y != (e0.Kids.length:Int)))] ?_;rw [hc1];exact zZ (hx:=[]) rfl hle rfl (zM rfl) ⟨rfl,rfl⟩
          · intro imm1 hf le1;refine zG ?_;rintro _ _ ⟨rfl,rfl⟩;refine zG ?_;rintro _ _ ⟨rfl,rfl⟩;refine zN<|yH [(10,.bool false),(17,.bool false)] ?_;have hle:=iS imm1;exact qV 11 [(18,.bool false)]<|zZ (hx:=[]) rfl hle rfl (zM rfl) ⟨rfl,rfl⟩
          · intro imm1 hf le1;refine zG ?_;rintro _ _ ⟨rfl,rfl⟩;refine zN<|yH [(18,.bool false)] ?_;have hle:=iS imm1;exact qV 12 [(19,.bool false)]<|zZ (hx:=[]) rfl hle rfl (zM rfl) ⟨rfl,rfl⟩
          intro imm1 hf le1;refine zG ?_;rintro _ _ ⟨rfl,rfl⟩;refine zG ?_;rintro _ _ ⟨rfl,rfl⟩;refine zG ?_;rintro _ _ ⟨rfl,rfl⟩;refine zN<|yH [(19,.bool false),(20,vA (cExpr e0 p c p1 c1 p2 c2)),(21,vI depth)] ?_;have hle:=iS imm1;have h:=h.mono le1;have h1:=h1.mono le1;have h2:=h2.mono le1;refine yR (zER e0 depth _ hy1 h h1 h2) ?_;rintro imm04 hs2 v2 k2 le3 - ⟨v01,rfl,rfl,rfl⟩ -;have hle:=hle.trans le3;exact zZ (hx:=[]) rfl hle rfl (zM rfl) ⟨rfl,rfl⟩
        intro imm05 le4;refine zG ?_;rintro _ _ ⟨rfl,rfl⟩;refine zN<|yH [(1,vI depth),(2,vI levels),(3,vP b 0),(24,.bool (!y1))] ?_;have hle:=hle.trans le4;exact yN rfl<|yT [(1,vI depth),(2,vI levels),(3,vP b 0),(24,.bool (!y1))]<|yB ⟨_,(zD hM).symm,hle,rfl,rfl⟩
    rintro imm0 hs2 m2 ⟨t24,heq,le5,rfl,rfl⟩;subst o0;have h:=h.mono le5;have h1:=h1.mono le5;have h2:=h2.mono le5;refine zE<|yO hMc ?_ ?_
    · intro hc2 hM;refine zF<|zB<|yA [] [(6,.bool false)]<|zE<|yJ<|zR ?_;obtain rfl:=zD hM;exact yQ ⟨_,_,(.tmp rfl ResV.nil),zX,⟨_,rfl,rfl,rfl⟩⟩
    intro hc2 hM;refine yE<|zE<|zF<|zF<|zB<|yA [] [(7,vI 0)]<|zE<|yC<|vQ [(1,vI depth),(2,vI levels),(3,vP b 0),(7,vI 0)] ?_;obtain ⟨o01,ho01,hMl⟩:=zC hM;refine ih_spec_l3Shape_l1 e0 depth levels 0 o01 ho01 iR h h1 h2 (fun _ _ _ h=>h) (fun _ _ h=>h) ?_ ?_
    · intro imm07  heq1 le7;subst o01;refine yD<|zE<|zF<|zB<|yA [] [(6,.bool true)]<|zE<|yJ ?_;obtain rfl:=zD hMl;exact yQ ⟨_,_,(.tmp rfl ResV.nil),zX,⟨_,rfl,rfl,rfl⟩⟩
    intro r0 imm9 hs9 m9 heq9 le9 hrs9;subst heq9;refine yF<|zR ?_;obtain rfl:=zD hMl;exact yQ hrs9
  intro F_spec_l3Shape F_spec_l3Shape_l1 ih_spec_l3Shape ih_spec_l3Shape_l1 e0 depth levels i o hM B imm0 imm Q p c p1 c1 p2 c2 b hle h h1 h2 hg ho hx hr;refine xC hg ho<|zF<|zF<|zB<|yA [0] [(29,.bool (decide (i < (e0.Kids.length:Int))))]<|zE<|yO hM ?_ ?_
  · intro hc3 hM;refine yE<|zE<|zF<|yC<|zF<|zB<|yK 3 [0] [(33,vS p2 e0.Kids c2),(34,vI i)] ?_;obtain ⟨x,hy2,hM⟩:=zC hM;refine wJ rfl rfl h2 hy2 ?_;intro ad ccs hat hrep;obtain ⟨v02,v03,v04,rfl,h5,h6,h7⟩:=wK hrep;obtain ⟨p3,c3,rfl⟩:=h5.form;obtain ⟨p4,c4,rfl⟩:=h6.form;obtain ⟨p5,c5,rfl⟩:=h7.form;refine xS 0 hat (cExpr x p3 c3 p4 c4 p5 c5) (vA (cExpr x p3 c3 p4 c4 p5 c5)) rfl<|yK 8 [] [(37,vI depth),(39,vI (W (levels - 1)))] ?_;obtain ⟨y2,hy3,hM⟩:=zC hM;refine yR (ih_spec_l3Shape x depth (W (levels - 1)) _ hy3 h5 h6 h7) ?_;rintro imm06 hs2 v2 k2 le6 - ⟨v05,rfl,rfl,rfl⟩ -;have h:=h.mono le6;have h1:=h1.mono le6;have h2:=h2.mono le6;have hle:=hle.trans le6;refine yA [] [(41,.bool (!y2))]<|zE<|yO hM ?_ ?_
    · intro hc4 hM;exact zF<|zB<|yA [] [(6,.bool false)]<|zE<|yJ<|yF<|zR<|zR<|hr _ _ _ _ (zD hM).symm hle ⟨_,_,(.tmp rfl ResV.nil),zX,⟨_,rfl,rfl,rfl⟩⟩
    intro hc4 hM;exact yE<|zY<|zE<|zB<|yA [] [(7,vI (W (i + 1)))]<|xD<|vQ [(1,vI depth),(2,vI levels),(3,vP b 0),(7,vI (W (i + 1)))]<|ih_spec_l3Shape_l1 e0 depth levels (W (i + 1)) _ hM hle h h1 h2 hg ho hx hr
  intro hc3 hM;exact xA<|zS<|zS<|wD (zK [] rfl (by decide))<|yT []<|hx _  (zD hM).symm hle
theorem zDC:∀ (e0:zH) (depth:Int) (levels:Int) r,uK e0 depth levels=some r→∀ {imm:Imm}{p c p1 c1 p2 c2},(S4 imm p e0.Index.Coefs c)→(S4 imm p1 e0.Read.Subs c1)→(S4 imm p2 e0.Kids c2)→Ret Tryz.prog 136 [vA (cExpr e0 p c p1 c1 p2 c2),vI depth,vI levels] imm [] (pO  r):=zC1.1
def mJ (r:Int):KT:=fun kk imm' hs' v=>
  ∃ v0,hs'=[]∧v=tupV [v0]∧v0=.int .i64 r
mutual
def uU (e0:zH) (levels:Int):Option (Int):=do
 let n01←wV (same e0) (same levels) (same 1) (same 0)
 pure (id n01)
 partial_fixpoint
def wV (e0:zH) (levels:Int) (n0:Int) (i:Int):Option (Int):=do
 let t15←(do
   if (decide (i < (e0.Kids.length:Int))) then
    pure (decide (levels > 0))
   else
    pure false
     : Option Bool)
 if t15 then
  let x←idx e0.Kids i
  let y←uU (same x) (W (levels - 1))
  wV (same e0) (same levels) (W (n0 + y)) (W (i + 1))
 else
  pure (id n0)
 partial_fixpoint
end
theorem zC2:(∀ (e0:zH) (levels:Int) r,uU e0 levels=some r→∀ {imm:Imm}{p c p1 c1 p2 c2},(S4 imm p e0.Index.Coefs c)→(S4 imm p1 e0.Read.Subs c1)→(S4 imm p2 e0.Kids c2)→Ret Tryz.prog 137 [vA (cExpr e0 p c p1 c1 p2 c2),vI levels] imm [] (mJ  r))∧(∀ (e0:zH) (levels:Int) (n0:Int) (i:Int) o,wV e0 levels n0 i=some o→∀ {B}{imm0 imm:Imm}{Q p c p1 c1 p2 c2}{b:Nat},imm0.le imm→(S4 imm p e0.Index.Coefs c)→(S4 imm p1 e0.Read.Subs c1)→(S4 imm p2 e0.Kids c2)→(∀ gl a w,¬Q (.goto gl) a w)→(∀ a w,¬Q .outgrown a w)→(∀ (imm':Imm) (n01:Int),o=n01→imm0.le imm'→T 29 B Q (.exit 0) imm' [] [(5,vI n01)])→J Tryz.prog 29 B (nav (bodyOf Tryz.f137) [1,1,0,1,0]) Q imm [hB b (cExpr e0 p c p1 c1 p2 c2)] [(1,vI levels),(2,vP b 0),(5,vI n0),(6,vI i)]):=by
  refine uU.mutual_partial_correctness (fun e0 levels r=>∀ {imm:Imm}{p c p1 c1 p2 c2},(S4 imm p e0.Index.Coefs c)→(S4 imm p1 e0.Read.Subs c1)→(S4 imm p2 e0.Kids c2)→Ret Tryz.prog 137 [vA (cExpr e0 p c p1 c1 p2 c2),vI levels] imm [] (mJ  r)) (fun e0 levels n0 i o=>∀ {B}{imm0 imm:Imm}{Q p c p1 c1 p2 c2}{b:Nat},imm0.le imm→(S4 imm p e0.Index.Coefs c)→(S4 imm p1 e0.Read.Subs c1)→(S4 imm p2 e0.Kids c2)→(∀ gl a w,¬Q (.goto gl) a w)→(∀ a w,¬Q .outgrown a w)→(∀ (imm':Imm) (n01:Int),o=n01→imm0.le imm'→T 29 B Q (.exit 0) imm' [] [(5,vI n01)])→J Tryz.prog 29 B (nav (bodyOf Tryz.f137) [1,1,0,1,0]) Q imm [hB b (cExpr e0 p c p1 c1 p2 c2)] [(1,vI levels),(2,vP b 0),(5,vI n0),(6,vI i)]) ?_ ?_
  · intro F_spec_l3Count_l1 ih_spec_l3Count_l1 e0 levels r hM imm p c p1 c1 p2 c2 h h1 h2;refine yG (fn:=Tryz.f137) (c:=(bodyOf Tryz.f137)) Tryz.func137 rfl rfl ?_;rintro B - -;refine zF<|zB<|tR (cExpr e0 p c p1 c1 p2 c2) ?_;intro b hb;refine yA [] []<|zE<|zF<|zB<|yA [] [(5,vI 1)]<|zE<|zF<|zF<|zB<|yA [] [(6,vI 0)]<|zE<|yC<|vQ [(1,vI levels),(2,vP b 0),(5,vI 1),(6,vI 0)] ?_;obtain ⟨o01,ho01,hMl⟩:=zC hM;refine ih_spec_l3Count_l1 e0 levels 1 0 o01 ho01 iR h h1 h2 (fun _ _ _ h=>h) (fun _ _ h=>h) ?_;intro imm02 n01 heq1 le2;subst o01;refine yD<|zE<|zF<|zB<|yA [] [(4,vI n01)]<|zE<|yJ ?_;obtain rfl:=zD hMl;exact yQ ⟨_,_,(.tmp rfl ResV.nil),zX,⟨_,rfl,rfl,rfl⟩⟩
  intro F_spec_l3Count F_spec_l3Count_l1 ih_spec_l3Count ih_spec_l3Count_l1 e0 levels n0 i o hM B imm0 imm Q p c p1 c1 p2 c2 b hle h h1 h2 hg ho hx;refine xC hg ho<|zF<|zF ?_;obtain ⟨o0,ho0,hMc⟩:=zC hM;refine yU (fun imm' hs' m'=>∃ (t15:Bool),o0=t15∧imm.le imm'∧hs'=[hB b (cExpr e0 p c p1 c1 p2 c2)]∧m'=[(1,vI levels),(2,vP b 0),(5,vI n0),(6,vI i),(15,.bool t15)]) ?_ ?_
  · have hle:=iS imm;refine zB<|yK 6 [0] [(12,.bool (decide (i < (e0.Kids.length:Int))))] ?_;cases hc:(decide (i < (e0.Kids.length:Int))) with
    | true =>
     have hM0:=zW hc ho0
     try rw [hc]
     exact yA [] [(15,.bool (decide (levels > 0)))]<|yT [(1,vI levels),(2,vP b 0),(5,vI n0),(6,vI i),(15,.bool (decide (levels > 0)))]<|yB ⟨_,(zD hM0).symm,hle,rfl,rfl⟩
    | false =>
     have hM01:=zU hc ho0
     try rw [hc]
     exact yA [] [(15,.bool false)]<|yT [(1,vI levels),(2,vP b 0),(5,vI n0),(6,vI i),(15,.bool false)]<|yB ⟨_,(zD hM01).symm,hle,rfl,rfl⟩
  rintro imm0 hs2 m2 ⟨t15,heq,le,rfl,rfl⟩;subst o0;have h:=h.mono le;have h1:=h1.mono le;have h2:=h2.mono le;have hle:=hle.trans le;refine zE<|yO hMc ?_ ?_
  · intro hc1 hM;refine yE<|zE<|zF<|yC<|zB<|yK 4 [0] [(18,vI n0),(20,vS p2 e0.Kids c2),(21,vI i)] ?_;obtain ⟨x,hy,hM⟩:=zC hM;refine wJ rfl rfl h2 hy ?_;intro ad ccs hat hrep;obtain ⟨v0,v01,v02,rfl,h3,h4,h5⟩:=wK hrep;obtain ⟨p3,c3,rfl⟩:=h3.form;obtain ⟨p4,c4,rfl⟩:=h4.form;obtain ⟨p5,c5,rfl⟩:=h5.form;refine xS 0 hat (cExpr x p3 c3 p4 c4 p5 c5) (vA (cExpr x p3 c3 p4 c4 p5 c5)) rfl<|yK 8 [] [(25,vI (W (levels - 1)))] ?_;obtain ⟨y,hy1,hM⟩:=zC hM;refine yR (ih_spec_l3Count x (W (levels - 1)) _ hy1 h3 h4 h5) ?_;rintro imm01 hs2 v2 k2 le1 - ⟨v03,rfl,rfl,rfl⟩ -;have h:=h.mono le1;have h1:=h1.mono le1;have h2:=h2.mono le1;have hle:=hle.trans le1;exact yA [] [(5,vI (W (n0 + y)))]<|zY<|zE<|zB<|yA [] [(6,vI (W (i + 1)))]<|xD<|vQ [(1,vI levels),(2,vP b 0),(5,vI (W (n0 + y))),(6,vI (W (i + 1)))]<|ih_spec_l3Count_l1 e0 levels (W (n0 + y)) (W (i + 1)) _ hM hle h h1 h2 hg ho hx
  intro hc1 hM;exact xA<|zS<|zS<|wD (zK [] rfl (by decide))<|yT [(5,vI n0)]<|hx _ _ (zD hM).symm hle
theorem zDD:∀ (e0:zH) (levels:Int) r,uU e0 levels=some r→∀ {imm:Imm}{p c p1 c1 p2 c2},(S4 imm p e0.Index.Coefs c)→(S4 imm p1 e0.Read.Subs c1)→(S4 imm p2 e0.Kids c2)→Ret Tryz.prog 137 [vA (cExpr e0 p c p1 c1 p2 c2),vI levels] imm [] (mJ  r):=zC2.1
def zA0 (r:Bool):KT:=fun kk imm' hs' v=>
  ∃ v0,hs'=[]∧v=tupV [v0]∧v0=.bool r
def tG (s:zQ) (depth:Int):Option (Bool):=do
 let t24←(do
   if (decide (depth < 0)) then
    pure true
   else
    if (decide (depth > 4)) then
     pure true
    else
     let y←sZ s.Write depth
     if (!y) then
      pure true
     else
      let y1←uK s.Value depth 5
      pure (!y1)
     : Option Bool)
 if t24 then
  pure false
 else
  let y2←uU s.Value 5
  pure (decide (y2 ≤ 12))
theorem mK:∀ (s:zQ) (depth:Int) r,tG s depth=some r→∀ {imm:Imm}{p c p1 c1 p2 c2 p3 c3},(S4 imm p s.Write.Subs c)→(S4 imm p1 s.Value.Index.Coefs c1)→(S4 imm p2 s.Value.Read.Subs c2)→(S4 imm p3 s.Value.Kids c3)→Ret Tryz.prog 106 [vA (cStmt s p c p1 c1 p2 c2 p3 c3),vI depth] imm [] (zA0  r):=by
 intro s depth r hM imm p c p1 c1 p2 c2 p3 c3 h h1 h2 h3;unfold tG at hM;refine yG (fn:=Tryz.f106) (c:=(bodyOf Tryz.f106)) Tryz.func106 rfl rfl ?_;rintro B - -;have hle:=iS imm;refine zF<|zB<|tR (cStmt s p c p1 c1 p2 c2 p3 c3) ?_;intro b hb;refine yA [] []<|zE<|zF<|zF ?_;obtain ⟨o0,ho0,hMc⟩:=zC hM;refine yU (fun imm' hs' m'=>∃ (t24:Bool),o0=t24∧imm.le imm'∧hs'=[hB b (cStmt s p c p1 c1 p2 c2 p3 c3)]∧m'=[(2,vP b 0),(24,.bool t24)]) ?_ ?_
 · have hle:=iS imm;refine zB<|yK 3 [] [(7,.bool (decide (depth < 0)))] ?_;cases hc:(decide (depth < 0)) with
   | true =>
    have hM0:=zW hc ho0
    try rw [hc]
    exact yA [] [(24,.bool true)]<|yT [(2,vP b 0),(24,.bool true)]<|yB ⟨_,(zD hM0).symm,hle,rfl,rfl⟩
   | false =>
    have hM01:=zU hc ho0
    try rw [hc]
    refine yK 7 [] [(11,.bool (decide (depth > 4)))] ?_;cases hc1:(decide (depth > 4)) with
    | true =>
     have hM02:=zW hc1 hM01
     try rw [hc1]
     exact yA [] [(24,.bool true)]<|yT [(2,vP b 0),(24,.bool true)]<|yB ⟨_,(zD hM02).symm,hle,rfl,rfl⟩
    | false =>
     have hM03:=zU hc1 hM01
     try rw [hc1]
     refine yK 10 [0] [(13,vA (cAccess s.Write p c)),(14,vI depth)] ?_;obtain ⟨y,hy,hM⟩:=zC hM03;refine yR (fB s.Write depth _ hy h) ?_;rintro imm01 hs2 v2 k2 le - ⟨v0,rfl,rfl,rfl⟩ -;have h1:=h1.mono le;have h2:=h2.mono le;have h3:=h3.mono le;have hle:=hle.trans le;refine yK 14 [] [(18,.bool (!y))] ?_;cases hc2:(!y) with
     | true =>
      have hM04:=zW hc2 hM
      try rw [hc2]
      exact yA [] [(24,.bool true)]<|yT [(2,vP b 0),(24,.bool true)]<|yB ⟨_,(zD hM04).symm,hle,rfl,rfl⟩
     | false =>
      have hM05:=zU hc2 hM
      try rw [hc2]
      refine yK 17 [0] [(20,vA (cExpr s.Value p1 c1 p2 c2 p3 c3)),(21,vI depth)] ?_;obtain ⟨y1,hy1,hM⟩:=zC hM05;refine yR (zDC s.Value depth 5 _ hy1 h1 h2 h3) ?_;rintro imm02 hs2 v2 k2 le1 - ⟨v01,rfl,rfl,rfl⟩ -;have hle:=hle.trans le1;exact yA [] [(24,.bool (!y1))]<|yT [(2,vP b 0),(24,.bool (!y1))]<|yB ⟨_,(zD hM).symm,hle,rfl,rfl⟩
 rintro imm0 hs2 m2 ⟨t24,heq,le2,rfl,rfl⟩;subst o0;have h1:=h1.mono le2;have h2:=h2.mono le2;have h3:=h3.mono le2;refine zE<|yO hMc ?_ ?_
 · intro hc3 hM;refine zF<|zB<|yA [] [(4,.bool false)]<|zE<|yJ<|zR ?_;obtain rfl:=zD hM;exact yQ ⟨_,_,(.tmp rfl ResV.nil),zX,⟨_,rfl,rfl,rfl⟩⟩
 intro hc3 hM;refine yE<|zE<|zF<|zB<|yK 2 [0] [(26,vA (cExpr s.Value p1 c1 p2 c2 p3 c3))] ?_;obtain ⟨y2,hy2,hM⟩:=zC hM;refine yR (zDD s.Value 5 _ hy2 h1 h2 h3) ?_;rintro imm03 hs2 v2 k2 le3 - ⟨v02,rfl,rfl,rfl⟩ -;refine yA [] [(4,.bool (decide (y2 ≤ 12)))]<|zE<|yJ ?_;obtain rfl:=zD hM;exact yQ ⟨_,_,(.tmp rfl ResV.nil),zX,⟨_,rfl,rfl,rfl⟩⟩
def gI (r:Bool):KT:=fun kk imm' hs' v=>
  ∃ v0,hs'=[]∧v=tupV [v0]∧v0=.bool r
def vX (p:(List Int)) (i:Int):Option (Out Unit (Bool)):=do
 if (decide (i < (p.length:Int))) then
  let x←idx p i
  let y←wR x 9999
  if (!y) then
   pure (.ret false)
  else
   vX p (W (i + 1))
 else
  pure (.done ())
 partial_fixpoint
theorem zAy (p:(List Int)):∀ (i:Int) (o:Out Unit (Bool)),vX p i=some o→∀ {B}{imm0 imm:Imm}{Q p1 c},imm0.le imm→(S4 imm p1 p c)→(∀ gl a w,¬Q (.goto gl) a w)→(∀ a w,¬Q .outgrown a w)→(∀ (imm':Imm) ,o=(.done ())→imm0.le imm'→T 19 B Q (.exit 0) imm' [] [(0,vS p1 p c)])→(∀ r imm' hs' m',o=(.ret r)→imm0.le imm'→RS Tryz.prog Tryz.f107 B (gI  r) imm' hs' m'→T 19 B Q .ret imm' hs' m')→J Tryz.prog 19 B (nav (bodyOf Tryz.f107) [1,0,1,0]) Q imm [] [(0,vS p1 p c),(3,vI i)]:=by
 refine vX.partial_correctness p _ ?_;intro self ih i o hM B imm0 imm Q p1 c hle h hg ho hx hr;refine xC hg ho<|zF<|zF<|zB<|yA [] [(7,.bool (decide (i < (p.length:Int))))]<|zE<|yO hM ?_ ?_
 · intro hc hM;refine yE<|zE<|zF<|yC<|zF<|zB<|yK 2 [] [(10,vS p1 p c),(11,vI i)] ?_;obtain ⟨x,hy,hM⟩:=zC hM;refine wJ rfl rfl h hy ?_;intro ad ccs hat hrep;obtain rfl:=hrep;refine xS 0 hat [vI x] (vI x) rfl ?_;obtain ⟨y,hy1,hM⟩:=zC hM;refine yR (mZ x 9999 _ hy1 ) ?_;rintro imm0 hs2 v2 k2 le - ⟨v0,rfl,rfl,rfl⟩ -;have h:=h.mono le;have hle:=hle.trans le;refine yA [] [(15,.bool (!y))]<|zE<|yO hM ?_ ?_
   · intro hc1 hM;exact zF<|zB<|yA [] [(2,.bool false)]<|zE<|yJ<|yF<|zR<|zR<|hr _ _ _ _ (zD hM).symm hle ⟨_,_,(.tmp rfl ResV.nil),zX,⟨_,rfl,rfl,rfl⟩⟩
   intro hc1 hM;exact yE<|zY<|zE<|zB<|yA [] [(3,vI (W (i + 1)))]<|xD<|vQ [(0,vS p1 p c),(3,vI (W (i + 1)))]<|ih (W (i + 1)) _ hM hle h hg ho hx hr
 intro hc hM;exact xA<|zS<|zS<|yT [(0,vS p1 p c)]<|hx _  (zD hM).symm hle
def pA (p:(List Int)):Option (Bool):=do
 match←vX p 0 with
 | .ret r0=>pure r0
 | .done _ =>
  pure (decide ((p.length:Int) ≤ 4))
theorem zDE:∀ (p:(List Int)) r,pA p=some r→∀ {imm:Imm}{p1 c},(S4 imm p1 p c)→Ret Tryz.prog 107 [vS p1 p c] imm [] (gI  r):=by
 intro p r hM imm p1 c h;unfold pA at hM;refine yG (fn:=Tryz.f107) (c:=(bodyOf Tryz.f107)) Tryz.func107 rfl rfl ?_;rintro B - -;refine zF<|zB<|yA [] []<|zE<|zF<|zF<|zB<|yA [] [(3,vI 0)]<|zE<|yC<|vQ [(0,vS p1 p c),(3,vI 0)] ?_;obtain ⟨o0,ho0,hMl⟩:=zC hM;refine zAy p 0 o0 ho0 iR h (fun _ _ _ h=>h) (fun _ _ h=>h) ?_ ?_
 · intro imm01  heq le1;subst o0;refine yD<|zE<|zF<|zB<|yA [] [(2,.bool (decide ((p.length:Int) ≤ 4)))]<|zE<|yJ ?_;obtain rfl:=zD hMl;exact yQ ⟨_,_,(.tmp rfl ResV.nil),zX,⟨_,rfl,rfl,rfl⟩⟩
 intro r0 imm9 hs9 m9 heq9 le9 hrs9;subst heq9;refine yF<|zR ?_;obtain rfl:=zD hMl;exact yQ hrs9
def kC (r:Int×Bool):KT:=fun kk imm' hs' v=>
  ∃ v0 v1,hs'=[]∧v=tupV [v0,v1]∧v0=.int .i64 r.1∧v1=.bool r.2
def vL (list:(List zJ)) (part:zP) (y1:(List (List Int))) (i:Int) (k0:Int):Option (Out Unit (Int×Bool)):=do
 if (decide (k0 < (y1.length:Int))) then
  let x1←idx part.Body i
  let x2←idx y1 k0
  let (y5,y6,y7)←qZ list x1 x2
  let t80←(do
    if (!y7) then
     pure true
    else
     let x3←idx y1 k0
     let y8←pA x3
     pure (!y8)
      : Option Bool)
  if t80 then
   pure (.ret (0,false))
  else
   vL list part y1 i (W (k0 + 1))
 else
  pure (.done ())
 partial_fixpoint
theorem zBg (list:(List zJ)) (part:zP) (y1:(List (List Int))) (i:Int):∀ (k0:Int) (o:Out Unit (Int×Bool)),vL list part y1 i k0=some o→∀ {B}{imm0 imm:Imm}{Q p c p1 c1 p2 c2}{b:Nat}{p3 c3},imm0.le imm→(S4 imm p list c)→(S4 imm p3 y1 c3)→(S4 imm p1 part.Nest c1)→(S4 imm p2 part.Body c2)→(∀ gl a w,¬Q (.goto gl) a w)→(∀ a w,¬Q .outgrown a w)→(∀ (imm':Imm) ,o=(.done ())→imm0.le imm'→T 87 B Q (.exit 2) imm' [hB b (cPart part p1 c1 p2 c2)] [(0,vS p list c),(3,vP b 0),(6,vS p3 y1 c3),(8,vI i)])→(∀ r imm' hs' m',o=(.ret r)→imm0.le imm'→RS Tryz.prog Tryz.f76 B (kC  r) imm' hs' m'→T 87 B Q .ret imm' hs' m')→J Tryz.prog 87 B (nav (bodyOf Tryz.f76) [1,1,1,0,1,0,0,1,0,0,1,1,0]) Q imm [hB b (cPart part p1 c1 p2 c2)] [(0,vS p list c),(3,vP b 0),(6,vS p3 y1 c3),(8,vI i),(9,vI k0)]:=by
 refine vL.partial_correctness list part y1 i _ ?_;intro self ih k0 o hM B imm0 imm Q p c p1 c1 p2 c2 b p3 c3 hle h h3 h1 h2 hg ho hx hr;refine xC hg ho<|zF<|zF<|zB<|yA [] [(53,.bool (decide (k0 < (y1.length:Int))))]<|zE<|yO hM ?_ ?_
 · intro hc5 hM;refine yE<|zE<|zF<|yC<|zF ?_;obtain ⟨x1,hy3,hM⟩:=zC hM;obtain ⟨x2,hy4,hM⟩:=zC hM;obtain ⟨⟨y5,y6,y7⟩,hy5,hM⟩:=zC hM;refine uA [.p (vS p list c) [],.p (vP b 1) [],.p (vS p2 part.Body c2) [0],.p (vI i) [],.x (fun imm' v hx=>∃ ad1 p8 c8 p9 c9 p10 c10 p11 c11,v=.pointer (some ad1)∧hx=[]∧(At imm' ad1 (cStmt x1 p8 c8 p9 c9 p10 c10 p11 c11))∧(S4 imm' p8 x1.Write.Subs c8)∧(S4 imm' p9 x1.Value.Index.Coefs c9)∧(S4 imm' p10 x1.Value.Read.Subs c10)∧(S4 imm' p11 x1.Value.Kids c11)),.x (fun imm' v hx=>∃ p81 c81 p91 c91 p101 c101 p111 c111,v=vA (cStmt x1 p81 c81 p91 c91 p101 c101 p111 c111)∧hx=[]∧(S4 imm' p81 x1.Write.Subs c81)∧(S4 imm' p91 x1.Value.Index.Coefs c91)∧(S4 imm' p101 x1.Value.Read.Subs c101)∧(S4 imm' p111 x1.Value.Kids c111)),.p (vS p3 y1 c3) [],.p (vI k0) [],.x (fun imm' v hx=>∃ ad2 p12 c12,v=.pointer (some ad2)∧hx=[]∧(At imm' ad2 [vS p12 x2 c12])∧(S4 imm' p12 x2 c12)),.x (fun imm' v hx=>∃ p121 c121,v=vS p121 x2 c121∧hx=[]∧(S4 imm' p121 x2 c121)),.x (fun imm' v hx=>∃ p13 c13,v=.tuple ⟨[vS p13 y5 c13,vI y6,.bool y7]⟩∧hx=[]∧(S4 imm' p13 y5 c13)),.x (fun imm' v hx=>∃ p131 c131,v=.tuple ⟨[vS p131 y5 c131,vI y6,.bool y7]⟩∧hx=[]∧(S4 imm' p131 y5 c131)),.x (fun imm' v hx=>∃ p1311 c1311,v=vS p1311 y5 c1311∧hx=[]∧(S4 imm' p1311 y5 c1311)),.q (vI y6),.q (.bool y7),.x (fun imm' v hx=>∃ p13111 c13111,v=vS p13111 y5 c13111∧hx=[]∧(S4 imm' p13111 y5 c13111)),.p (vI y6) []] [[],[],[(1,false)],[],[(2,false),(3,false)],[(4,false)],[],[],[(6,false),(7,false)],[(8,false)],[(0,false),(5,false),(9,false)],[(10,false)],[(11,false)],[(11,false)],[(11,false)],[(12,false)],[(13,false)]] [hB b (cPart part p1 c1 p2 c2)] [] [(14,false)] (zK [0] rfl (by decide)) ?_ ?_
   · refine Op<|Op<|Op<|Op<|Ox ?_<|Ox ?_<|Op<|Op<|Ox ?_<|Ox ?_<|Ox ?_<|Ox ?_<|Ox ?_<|Oq ?_<|Oq ?_<|Ox ?_<|Op<|On
     · intro imm1 hf le1;refine zG ?_;rintro _ _ ⟨rfl,rfl⟩;refine zG ?_;rintro _ _ ⟨rfl,rfl⟩;refine zN<|yH [(59,vS p2 part.Body c2),(60,vI i)] ?_;have hle:=iS imm1;have h2:=h2.mono le1;refine wJ rfl rfl h2 hy3 ?_;intro ad1 ccs1 hat1 hrep1;obtain ⟨v07,v08,v09,v010,rfl,h10,h11,h12,h13⟩:=wA hrep1;obtain ⟨p8,c8,rfl⟩:=h10.form;obtain ⟨p9,c9,rfl⟩:=h11.form;obtain ⟨p10,c10,rfl⟩:=h12.form;obtain ⟨p11,c11,rfl⟩:=h13.form;exact zZ (hx:=[]) rfl hle rfl (zM rfl) ⟨_,_,_,_,_,_,_,_,_,rfl,rfl,hat1,h10,h11,h12,h13⟩
     · intro imm1 hf le1;refine zG ?_;rintro _ _ ⟨ad1,p8,c8,p9,c9,p10,c10,p11,c11,rfl,rfl,hat1,h10,h11,h12,h13⟩;refine zN<|yH [(61,.pointer (some ad1))] ?_;have hle:=iS imm1;exact xS 0 hat1 (cStmt x1 p8 c8 p9 c9 p10 c10 p11 c11) (vA (cStmt x1 p8 c8 p9 c9 p10 c10 p11 c11)) rfl<|zZ (hx:=[]) rfl hle rfl (zM rfl) ⟨_,_,_,_,_,_,_,_,rfl,rfl,h10,h11,h12,h13⟩
     · intro imm1 hf le1;refine zG ?_;rintro _ _ ⟨rfl,rfl⟩;refine zG ?_;rintro _ _ ⟨rfl,rfl⟩;refine zN<|yH [(63,vS p3 y1 c3),(64,vI k0)] ?_;have hle:=iS imm1;have h3:=h3.mono le1;refine wJ rfl rfl h3 hy4 ?_;intro ad2 ccs2 hat2 hrep2;obtain ⟨v011,rfl,h14⟩:=hrep2;obtain ⟨p12,c12,rfl⟩:=h14.form;exact zZ (hx:=[]) rfl hle rfl (zM rfl) ⟨_,_,_,rfl,rfl,hat2,h14⟩
     · intro imm1 hf le1;refine zG ?_;rintro _ _ ⟨ad2,p12,c12,rfl,rfl,hat2,h14⟩;refine zN<|yH [(65,.pointer (some ad2))] ?_;have hle:=iS imm1;exact xS 0 hat2 [vS p12 x2 c12] (vS p12 x2 c12) rfl<|zZ (hx:=[]) rfl hle rfl (zM rfl) ⟨_,_,rfl,rfl,h14⟩
     · intro imm1 hf le1;refine zG ?_;rintro _ _ ⟨rfl,rfl⟩;refine zG ?_;rintro _ _ ⟨p81,c81,p91,c91,p101,c101,p111,c111,rfl,rfl,h101,h111,h121,h131⟩;refine zG ?_;rintro _ _ ⟨p121,c121,rfl,rfl,h141⟩;refine zN<|yH [(57,vS p list c),(62,vA (cStmt x1 p81 c81 p91 c91 p101 c101 p111 c111)),(66,vS p121 x2 c121)] ?_;have hle:=iS imm1;have h:=h.mono le1;refine yR (zCz list x1 x2 _ hy5 h h101 h111 h121 h131 h141) ?_;rintro imm04 hs2 v2 k2 le4 - ⟨v012,v013,v014,rfl,rfl,h15,rfl,rfl⟩ -;have hle:=hle.trans le4;obtain ⟨p13,c13,rfl⟩:=h15.form;exact zZ (hx:=[]) rfl hle rfl (zM rfl) ⟨_,_,rfl,rfl,h15⟩
     · intro imm1 hf le1;refine zG ?_;rintro _ _ ⟨p13,c13,rfl,rfl,h15⟩;refine zN<|yH [(67,.tuple ⟨[vS p13 y5 c13,vI y6,.bool y7]⟩)] ?_;have hle:=iS imm1;exact qV 12 [(56,.tuple ⟨[vS p13 y5 c13,vI y6,.bool y7]⟩)]<|zZ (hx:=[]) rfl hle rfl (zM rfl) ⟨_,_,rfl,rfl,h15⟩
     · intro imm1 hf le1;refine zG ?_;rintro _ _ ⟨p131,c131,rfl,rfl,h151⟩;refine zN<|yH [(56,.tuple ⟨[vS p131 y5 c131,vI y6,.bool y7]⟩)] ?_;have hle:=iS imm1;exact qV 13 [(68,vS p131 y5 c131)]<|zZ (hx:=[]) rfl hle rfl (zM rfl) ⟨_,_,rfl,rfl,h151⟩
     · intro imm1 hf le1;refine zG ?_;rintro _ _ ⟨p131,c131,rfl,rfl,h151⟩;refine zN<|yH [(56,.tuple ⟨[vS p131 y5 c131,vI y6,.bool y7]⟩)] ?_;have hle:=iS imm1;exact qV 14 [(69,vI y6)]<|zZ (hx:=[]) rfl hle rfl (zM rfl) ⟨rfl,rfl⟩
     · intro imm1 hf le1;refine zG ?_;rintro _ _ ⟨p131,c131,rfl,rfl,h151⟩;refine zN<|yH [(56,.tuple ⟨[vS p131 y5 c131,vI y6,.bool y7]⟩)] ?_;have hle:=iS imm1;exact qV 15 [(70,.bool y7)]<|zZ (hx:=[]) rfl hle rfl (zM rfl) ⟨rfl,rfl⟩
     intro imm1 hf le1;refine zG ?_;rintro _ _ ⟨p1311,c1311,rfl,rfl,h1511⟩;refine zN<|yH [(68,vS p1311 y5 c1311)] ?_;have hle:=iS imm1;exact qV 16 [(10,vS p1311 y5 c1311)]<|zZ (hx:=[]) rfl hle rfl (zM rfl) ⟨_,_,rfl,rfl,h1511⟩
   intro imm05 le5;refine zG ?_;rintro _ _ ⟨rfl,rfl⟩;refine zN<|yH [(0,vS p list c),(3,vP b 0),(6,vS p3 y1 c3),(8,vI i),(9,vI k0),(70,.bool y7)] ?_;have h:=h.mono le5;have h3:=h3.mono le5;have h1:=h1.mono le5;have h2:=h2.mono le5;have hle:=hle.trans le5;refine yA [] [(12,.bool y7)]<|zE<|zF ?_;obtain ⟨o01,ho01,hMc1⟩:=zC hM;refine yU (fun imm' hs' m'=>∃ (t80:Bool),o01=t80∧imm05.le imm'∧hs'=[hB b (cPart part p1 c1 p2 c2)]∧m'=[(0,vS p list c),(3,vP b 0),(6,vS p3 y1 c3),(8,vI i),(9,vI k0),(80,.bool t80)]) ?_ ?_
   · have hle:=iS imm05;refine zB<|yK 3 [] [(73,.bool (!y7))] ?_;cases hc6:(!y7) with
     | true =>
      have hM04:=zW hc6 ho01
      try rw [hc6]
      exact yA [] [(80,.bool true)]<|yT [(0,vS p list c),(3,vP b 0),(6,vS p3 y1 c3),(8,vI i),(9,vI k0),(80,.bool true)]<|yB ⟨_,(zD hM04).symm,hle,rfl,rfl⟩
     | false =>
      have hM05:=zU hc6 ho01
      try rw [hc6]
      refine yK 5 [] [(74,vS p3 y1 c3),(75,vI k0)] ?_;obtain ⟨x3,hy6,hM⟩:=zC hM05;refine wJ rfl rfl h3 hy6 ?_;intro ad3 ccs3 hat3 hrep3;obtain ⟨v015,rfl,h18⟩:=hrep3;obtain ⟨p14,c14,rfl⟩:=h18.form;refine xS 0 hat3 [vS p14 x3 c14] (vS p14 x3 c14) rfl ?_;obtain ⟨y8,hy7,hM⟩:=zC hM;refine yR (zDE x3 _ hy7 h18) ?_;rintro imm07 hs2 v2 k2 le6 - ⟨v016,rfl,rfl,rfl⟩ -;have hle:=hle.trans le6;exact yA [] [(80,.bool (!y8))]<|yT [(0,vS p list c),(3,vP b 0),(6,vS p3 y1 c3),(8,vI i),(9,vI k0),(80,.bool (!y8))]<|yB ⟨_,(zD hM).symm,hle,rfl,rfl⟩
   rintro imm06 hs2 m2 ⟨t80,heq1,le7,rfl,rfl⟩;subst o01;have h:=h.mono le7;have h3:=h3.mono le7;have h1:=h1.mono le7;have h2:=h2.mono le7;have hle:=hle.trans le7;refine zE<|yO hMc1 ?_ ?_
   · intro hc7 hM;exact zF<|zB<|yA [] [(4,vI 0),(5,.bool false)]<|zE<|yJ<|yF<|zR<|zR<|hr _ _ _ _ (zD hM).symm hle ⟨_,_,(.tmp rfl (.tmp rfl ResV.nil)),zX,⟨_,_,rfl,rfl,rfl,rfl⟩⟩
   intro hc7 hM;exact yE<|zY<|zE<|zB<|yA [] [(9,vI (W (k0 + 1)))]<|xD<|vQ [(0,vS p list c),(3,vP b 0),(6,vS p3 y1 c3),(8,vI i),(9,vI (W (k0 + 1)))]<|ih (W (k0 + 1)) _ hM hle h h3 h1 h2 hg ho hx hr
 intro hc5 hM;exact xA<|zS<|zS<|yT [(0,vS p list c),(3,vP b 0),(6,vS p3 y1 c3),(8,vI i)]<|hx _  (zD hM).symm hle
def vM (list:(List zJ)) (part:zP) (y1:(List (List Int))) (i:Int):Option (Out Unit (Int×Bool)):=do
 if (decide (i < (part.Body.length:Int))) then
  let x←idx part.Body i
  let y3←tG x (part.Nest.length:Int)
  if (!y3) then
   pure (.ret (0,false))
  else
   match←vL list part y1 i 0 with
   | .ret r0=>pure (.ret r0)
   | .done _ =>
    vM list part y1 (W (i + 1))
 else
  pure (.done ())
 partial_fixpoint
theorem zBh (list:(List zJ)) (part:zP) (y1:(List (List Int))):∀ (i:Int) (o:Out Unit (Int×Bool)),vM list part y1 i=some o→∀ {B}{imm0 imm:Imm}{Q p c p1 c1 p2 c2}{b:Nat}{p3 c3},imm0.le imm→(S4 imm p list c)→(S4 imm p3 y1 c3)→(S4 imm p1 part.Nest c1)→(S4 imm p2 part.Body c2)→(∀ gl a w,¬Q (.goto gl) a w)→(∀ a w,¬Q .outgrown a w)→(∀ (imm':Imm) ,o=(.done ())→imm0.le imm'→T 87 B Q (.exit 0) imm' [hB b (cPart part p1 c1 p2 c2)] [(3,vP b 0),(6,vS p3 y1 c3)])→(∀ r imm' hs' m',o=(.ret r)→imm0.le imm'→RS Tryz.prog Tryz.f76 B (kC  r) imm' hs' m'→T 87 B Q .ret imm' hs' m')→J Tryz.prog 87 B (nav (bodyOf Tryz.f76) [1,1,1,0,1,0]) Q imm [hB b (cPart part p1 c1 p2 c2)] [(0,vS p list c),(3,vP b 0),(6,vS p3 y1 c3),(8,vI i)]:=by
 refine vM.partial_correctness list part y1 _ ?_;intro self ih i o hM B imm0 imm Q p c p1 c1 p2 c2 b p3 c3 hle h h3 h1 h2 hg ho hx hr;refine xC hg ho<|zF<|zF<|zB<|yA [0] [(37,.bool (decide (i < (part.Body.length:Int))))]<|zE<|yO hM ?_ ?_
 · intro hc3 hM;refine yE<|zE<|zF<|yC<|zF<|zF ?_;obtain ⟨x,hy1,hM⟩:=zC hM;obtain ⟨y3,hy2,hM⟩:=zC hM;refine uA [.p (vP b 1) [],.p (vS p2 part.Body c2) [0],.p (vI i) [],.x (fun imm' v hx=>∃ ad p4 c4 p5 c5 p6 c6 p7 c7,v=.pointer (some ad)∧hx=[]∧(At imm' ad (cStmt x p4 c4 p5 c5 p6 c6 p7 c7))∧(S4 imm' p4 x.Write.Subs c4)∧(S4 imm' p5 x.Value.Index.Coefs c5)∧(S4 imm' p6 x.Value.Read.Subs c6)∧(S4 imm' p7 x.Value.Kids c7)),.x (fun imm' v hx=>∃ p41 c41 p51 c51 p61 c61 p71 c71,v=vA (cStmt x p41 c41 p51 c51 p61 c61 p71 c71)∧hx=[]∧(S4 imm' p41 x.Write.Subs c41)∧(S4 imm' p51 x.Value.Index.Coefs c51)∧(S4 imm' p61 x.Value.Read.Subs c61)∧(S4 imm' p71 x.Value.Kids c71)),.p (vP b 0) [],.p (vS p1 part.Nest c1) [0],.p (vI (part.Nest.length:Int)) [],.q (.bool y3),.p (.bool (!y3)) []] [[],[(0,false)],[],[(1,false),(2,false)],[(3,false)],[],[(5,false)],[(6,false)],[(4,false),(7,false)],[(8,false)]] [hB b (cPart part p1 c1 p2 c2)] [] [(9,false)] (zK [0] rfl (by decide)) ?_ ?_
   · refine Op<|Op<|Op<|Ox ?_<|Ox ?_<|Op<|Op<|Op<|Oq ?_<|Op<|On
     · intro imm1 hf le1;refine zG ?_;rintro _ _ ⟨rfl,rfl⟩;refine zG ?_;rintro _ _ ⟨rfl,rfl⟩;refine zN<|yH [(41,vS p2 part.Body c2),(42,vI i)] ?_;have hle:=iS imm1;have h2:=h2.mono le1;refine wJ rfl rfl h2 hy1 ?_;intro ad ccs hat hrep;obtain ⟨v02,v03,v04,v05,rfl,h5,h6,h7,h8⟩:=wA hrep;obtain ⟨p4,c4,rfl⟩:=h5.form;obtain ⟨p5,c5,rfl⟩:=h6.form;obtain ⟨p6,c6,rfl⟩:=h7.form;obtain ⟨p7,c7,rfl⟩:=h8.form;exact zZ (hx:=[]) rfl hle rfl (zM rfl) ⟨_,_,_,_,_,_,_,_,_,rfl,rfl,hat,h5,h6,h7,h8⟩
     · intro imm1 hf le1;refine zG ?_;rintro _ _ ⟨ad,p4,c4,p5,c5,p6,c6,p7,c7,rfl,rfl,hat,h5,h6,h7,h8⟩;refine zN<|yH [(43,.pointer (some ad))] ?_;have hle:=iS imm1;exact xS 0 hat (cStmt x p4 c4 p5 c5 p6 c6 p7 c7) (vA (cStmt x p4 c4 p5 c5 p6 c6 p7 c7)) rfl<|zZ (hx:=[]) rfl hle rfl (zM rfl) ⟨_,_,_,_,_,_,_,_,rfl,rfl,h5,h6,h7,h8⟩
     intro imm1 hf le1;refine zG ?_;rintro _ _ ⟨p41,c41,p51,c51,p61,c61,p71,c71,rfl,rfl,h51,h61,h71,h81⟩;refine zG ?_;rintro _ _ ⟨rfl,rfl⟩;refine zN<|yH [(44,vA (cStmt x p41 c41 p51 c51 p61 c61 p71 c71)),(47,vI (part.Nest.length:Int))] ?_;have hle:=iS imm1;refine yR (mK x (part.Nest.length:Int) _ hy2 h51 h61 h71 h81) ?_;rintro imm02 hs2 v2 k2 le2 - ⟨v06,rfl,rfl,rfl⟩ -;have hle:=hle.trans le2;exact zZ (hx:=[]) rfl hle rfl (zM rfl) ⟨rfl,rfl⟩
   intro imm03 le3;refine zG ?_;rintro _ _ ⟨rfl,rfl⟩;refine zN<|yH [(0,vS p list c),(3,vP b 0),(6,vS p3 y1 c3),(8,vI i),(49,.bool (!y3))] ?_;have h:=h.mono le3;have h3:=h3.mono le3;have h1:=h1.mono le3;have h2:=h2.mono le3;have hle:=hle.trans le3;refine yN rfl<|zE<|yO hM ?_ ?_
   · intro hc4 hM;exact zF<|zB<|yA [] [(4,vI 0),(5,.bool false)]<|zE<|yJ<|zR<|yF<|zR<|zR<|hr _ _ _ _ (zD hM).symm hle ⟨_,_,(.tmp rfl (.tmp rfl ResV.nil)),zX,⟨_,_,rfl,rfl,rfl,rfl⟩⟩
   intro hc4 hM;refine yE<|zE<|zF<|zB<|yA [] [(9,vI 0)]<|zE<|yC<|vQ [(0,vS p list c),(3,vP b 0),(6,vS p3 y1 c3),(8,vI i),(9,vI 0)] ?_;obtain ⟨o02,ho02,hMl⟩:=zC hM;refine zBg list part y1 i 0 o02 ho02 iR h h3 h1 h2 (fun _ _ _ h=>hg _ _ _ h) (fun _ _ h=>ho _ _ h) ?_ ?_
   · intro imm08  heq2 le8;subst o02;have h:=h.mono le8;have h3:=h3.mono le8;have h1:=h1.mono le8;have h2:=h2.mono le8;have hle:=hle.trans le8;exact yD<|zY<|zE<|zB<|yA [] [(8,vI (W (i + 1)))]<|xD<|vQ [(0,vS p list c),(3,vP b 0),(6,vS p3 y1 c3),(8,vI (W (i + 1)))]<|ih (W (i + 1)) _ hMl hle h h3 h1 h2 hg ho hx hr
   intro r0 imm9 hs9 m9 heq9 le9 hrs9;subst heq9;exact yF<|yF<|zR<|zR<|hr _ _ _ _ (zD hMl).symm (hle.trans le9) hrs9
 intro hc3 hM;exact xA<|zS<|zS<|yT [(3,vP b 0),(6,vS p3 y1 c3)]<|hx _  (zD hM).symm hle
def rW (list:(List zJ)) (part:zP):Option (Int×Bool):=do
 let (y1,y2)←sO part.Nest
 let t32←(do
   if (!y2) then
    pure true
   else
    if (decide ((part.Body.length:Int) < 1)) then
     pure true
    else
     pure (decide ((part.Body.length:Int) > 4))
     : Option Bool)
 if t32 then
  pure (0,false)
 else
  match←vM list part y1 0 with
  | .ret r0=>pure r0
  | .done _ =>
   pure ((W ((y1.length:Int) * (part.Body.length:Int))),true)
theorem jM:∀ (list:(List zJ)) (part:zP) r,rW list part=some r→∀ {imm:Imm}{p c p1 c1 p2 c2},(S4 imm p list c)→(S4 imm p1 part.Nest c1)→(S4 imm p2 part.Body c2)→Ret Tryz.prog 76 [vS p list c,vA (cPart part p1 c1 p2 c2)] imm [] (kC  r):=by
 intro list part r hM imm p c p1 c1 p2 c2 h h1 h2;unfold rW at hM;refine yG (fn:=Tryz.f76) (c:=(bodyOf Tryz.f76)) Tryz.func76 rfl rfl ?_;rintro B - -;have hle:=iS imm;refine zF<|zB<|tR (cPart part p1 c1 p2 c2) ?_;intro b hb;refine yA [] []<|zE<|zF<|zB<|yK 2 [0] [(15,vS p1 part.Nest c1)] ?_;obtain ⟨⟨y1,y2⟩,hy,hM⟩:=zC hM;refine yR (zAx part.Nest _ hy h1) ?_;rintro imm0 hs2 v2 k2 le - ⟨v0,v01,rfl,rfl,h3,rfl⟩ -;have h:=h.mono le;have h1:=h1.mono le;have h2:=h2.mono le;have hle:=hle.trans le;obtain ⟨p3,c3,rfl⟩:=h3.form;refine yA [] [(6,vS p3 y1 c3),(7,.bool y2)]<|zE<|zF<|zF ?_;obtain ⟨o0,ho0,hMc⟩:=zC hM;refine yU (fun imm' hs' m'=>∃ (t32:Bool),o0=t32∧imm0.le imm'∧hs'=[hB b (cPart part p1 c1 p2 c2)]∧m'=[(0,vS p list c),(3,vP b 0),(6,vS p3 y1 c3),(32,.bool t32)]) ?_ ?_
 · have hle:=iS imm0;refine zB<|yK 3 [] [(21,.bool (!y2))] ?_;cases hc:(!y2) with
   | true =>
    have hM0:=zW hc ho0
    try rw [hc]
    exact yA [] [(32,.bool true)]<|yT [(0,vS p list c),(3,vP b 0),(6,vS p3 y1 c3),(32,.bool true)]<|yB ⟨_,(zD hM0).symm,hle,rfl,rfl⟩
   | false =>
    have hM01:=zU hc ho0
    try rw [hc]
    refine yK 9 [0] [(27,.bool (decide ((part.Body.length:Int) < 1)))] ?_;cases hc1:(decide ((part.Body.length:Int) < 1)) with
    | true =>
     have hM02:=zW hc1 hM01
     try rw [hc1]
     exact yA [] [(32,.bool true)]<|yT [(0,vS p list c),(3,vP b 0),(6,vS p3 y1 c3),(32,.bool true)]<|yB ⟨_,(zD hM02).symm,hle,rfl,rfl⟩
    | false =>
     have hM03:=zU hc1 hM01
     try rw [hc1]
     exact yA [0] [(32,.bool (decide ((part.Body.length:Int) > 4)))]<|yT [(0,vS p list c),(3,vP b 0),(6,vS p3 y1 c3),(32,.bool (decide ((part.Body.length:Int) > 4)))]<|yB ⟨_,(zD hM03).symm,hle,rfl,rfl⟩
 rintro imm01 hs2 m2 ⟨t32,heq,le1,rfl,rfl⟩;subst o0;have h:=h.mono le1;have h3:=h3.mono le1;have h1:=h1.mono le1;have h2:=h2.mono le1;refine zE<|yO hMc ?_ ?_
 · intro hc2 hM;refine zF<|zB<|yA [] [(4,vI 0),(5,.bool false)]<|zE<|yJ<|zR ?_;obtain rfl:=zD hM;exact yQ ⟨_,_,(.tmp rfl (.tmp rfl ResV.nil)),zX,⟨_,_,rfl,rfl,rfl,rfl⟩⟩
 intro hc2 hM;refine yE<|zE<|zF<|zF<|zB<|yA [] [(8,vI 0)]<|zE<|yC<|vQ [(0,vS p list c),(3,vP b 0),(6,vS p3 y1 c3),(8,vI 0)] ?_;obtain ⟨o03,ho03,hMl1⟩:=zC hM;refine zBh list part y1 0 o03 ho03 iR h h3 h1 h2 (fun _ _ _ h=>h) (fun _ _ h=>h) ?_ ?_
 · intro imm09  heq3 le9;subst o03;refine yD<|zE<|zF<|zB<|yA [0] [(4,vI (W ((y1.length:Int) * (part.Body.length:Int)))),(5,.bool true)]<|zE<|yJ ?_;obtain rfl:=zD hMl1;exact yQ ⟨_,_,(.tmp rfl (.tmp rfl ResV.nil)),zX,⟨_,_,rfl,rfl,rfl,rfl⟩⟩
 intro r0 imm9 hs9 m9 heq9 le9 hrs9;subst heq9;refine yF<|zR ?_;obtain rfl:=zD hMl1;exact yQ hrs9
def mL (r:Bool):KT:=fun kk imm' hs' v=>
  ∃ v0,hs'=[]∧v=tupV [v0]∧v0=.bool r
def xP (p:zV) (total:Int) (i:Int):Option (Out Int (Bool)):=do
 if (decide (i < (p.Parts.length:Int))) then
  let x←idx p.Parts i
  let (y2,y3)←rW p.Arrays x
  if (!y3) then
   pure (.ret false)
  else
   xP p (W (total + y2)) (W (i + 1))
 else
  pure (.done total)
 partial_fixpoint
theorem fC (p:zV):∀ (total:Int) (i:Int) (o:Out Int (Bool)),xP p total i=some o→∀ {B}{imm0 imm:Imm}{Q p1 c p2 c1}{b:Nat},imm0.le imm→(S4 imm p1 p.Arrays c)→(S4 imm p2 p.Parts c1)→(∀ gl a w,¬Q (.goto gl) a w)→(∀ a w,¬Q .outgrown a w)→(∀ (imm':Imm) (total1:Int),o=(.done total1)→imm0.le imm'→T 42 B Q (.exit 0) imm' [] [(3,vI total1)])→(∀ r imm' hs' m',o=(.ret r)→imm0.le imm'→RS Tryz.prog Tryz.f40 B (mL  r) imm' hs' m'→T 42 B Q .ret imm' hs' m')→J Tryz.prog 42 B (nav (bodyOf Tryz.f40) [1,1,1,0,1,0]) Q imm [hB b (cProg p p1 c p2 c1)] [(1,vP b 0),(3,vI total),(4,vI i)]:=by
 refine xP.partial_correctness p _ ?_;intro self ih total i o hM B imm0 imm Q p1 c p2 c1 b hle h h1 hg ho hx hr;refine xC hg ho<|zF<|zF<|zB<|yA [0] [(21,.bool (decide (i < (p.Parts.length:Int))))]<|zE<|yO hM ?_ ?_
 · intro hc2 hM;refine yE<|zE<|zF<|yC<|zF ?_;obtain ⟨x,hy1,hM⟩:=zC hM;obtain ⟨⟨y2,y3⟩,hy2,hM⟩:=zC hM;refine uA [.p (vP b 0) [],.p (vS p1 p.Arrays c) [0],.p (vP b 1) [],.p (vS p2 p.Parts c1) [0],.p (vI i) [],.x (fun imm' v hx=>∃ ad p3 c2 p4 c3,v=.pointer (some ad)∧hx=[]∧(At imm' ad (cPart x p3 c2 p4 c3))∧(S4 imm' p3 x.Nest c2)∧(S4 imm' p4 x.Body c3)),.x (fun imm' v hx=>∃ p31 c21 p41 c31,v=vA (cPart x p31 c21 p41 c31)∧hx=[]∧(S4 imm' p31 x.Nest c21)∧(S4 imm' p41 x.Body c31)),.q (.tuple ⟨[vI y2,.bool y3]⟩),.p (.tuple ⟨[vI y2,.bool y3]⟩) [],.p (vI y2) [],.p (.bool y3) [],.p (vI y2) []] [[],[(0,false)],[],[(2,false)],[],[(3,false),(4,false)],[(5,false)],[(1,false),(6,false)],[(7,false)],[(8,false)],[(8,false)],[(9,false)]] [hB b (cProg p p1 c p2 c1)] [] [(10,false),(11,false)] (zK [0] rfl (by decide)) ?_ ?_
   · refine Op<|Op<|Op<|Op<|Op<|Ox ?_<|Ox ?_<|Oq ?_<|Op<|Op<|Op<|Op<|On
     · intro imm1 hf le1;refine zG ?_;rintro _ _ ⟨rfl,rfl⟩;refine zG ?_;rintro _ _ ⟨rfl,rfl⟩;refine zN<|yH [(28,vS p2 p.Parts c1),(29,vI i)] ?_;have hle:=iS imm1;have h1:=h1.mono le1;refine wJ rfl rfl h1 hy1 ?_;intro ad ccs hat hrep;obtain ⟨v01,v02,rfl,h3,h4⟩:=wS hrep;obtain ⟨p3,c2,rfl⟩:=h3.form;obtain ⟨p4,c3,rfl⟩:=h4.form;exact zZ (hx:=[]) rfl hle rfl (zM rfl) ⟨_,_,_,_,_,rfl,rfl,hat,h3,h4⟩
     · intro imm1 hf le1;refine zG ?_;rintro _ _ ⟨ad,p3,c2,p4,c3,rfl,rfl,hat,h3,h4⟩;refine zN<|yH [(30,.pointer (some ad))] ?_;have hle:=iS imm1;exact xS 0 hat (cPart x p3 c2 p4 c3) (vA (cPart x p3 c2 p4 c3)) rfl<|zZ (hx:=[]) rfl hle rfl (zM rfl) ⟨_,_,_,_,rfl,rfl,h3,h4⟩
     intro imm1 hf le1;refine zG ?_;rintro _ _ ⟨rfl,rfl⟩;refine zG ?_;rintro _ _ ⟨p31,c21,p41,c31,rfl,rfl,h31,h41⟩;refine zN<|yH [(26,vS p1 p.Arrays c),(31,vA (cPart x p31 c21 p41 c31))] ?_;have hle:=iS imm1;have h:=h.mono le1;refine yR (jM p.Arrays x _ hy2 h h31 h41) ?_;rintro imm02 hs2 v2 k2 le2 - ⟨v03,v04,rfl,rfl,rfl,rfl⟩ -;have hle:=hle.trans le2;exact zZ (hx:=[]) rfl hle rfl (zM rfl) ⟨rfl,rfl⟩
   intro imm03 le3;refine zG ?_;rintro _ _ ⟨rfl,rfl⟩;refine zG ?_;rintro _ _ ⟨rfl,rfl⟩;refine zN<|yH [(1,vP b 0),(3,vI total),(4,vI i),(5,vI y2),(34,.bool y3)] ?_;have h:=h.mono le3;have h1:=h1.mono le3;have hle:=hle.trans le3;refine yA [] [(6,.bool y3)]<|zE<|zF<|zF<|zB<|yA [] [(36,.bool (!y3))]<|zE<|yO hM ?_ ?_
   · intro hc3 hM;exact zF<|zB<|yA [] [(2,.bool false)]<|zE<|yJ<|zR<|yF<|zR<|zR<|hr _ _ _ _ (zD hM).symm hle ⟨_,_,(.tmp rfl ResV.nil),zX,⟨_,rfl,rfl,rfl⟩⟩
   intro hc3 hM;exact yE<|zE<|zB<|yA [] [(3,vI (W (total + y2)))]<|zY<|zE<|zB<|yA [] [(4,vI (W (i + 1)))]<|xD<|vQ [(1,vP b 0),(3,vI (W (total + y2))),(4,vI (W (i + 1)))]<|ih (W (total + y2)) (W (i + 1)) _ hM hle h h1 hg ho hx hr
 intro hc2 hM;exact xA<|zS<|zS<|wD (zK [] rfl (by decide))<|yT [(3,vI total)]<|hx _ _ (zD hM).symm hle
def tK (p:zV):Option (Bool):=do
 let t16←(do
   let y←qE p.Arrays
   if (!y) then
    pure true
   else
    pure (decide ((p.Parts.length:Int) > 4))
     : Option Bool)
 if t16 then
  pure false
 else
  match←xP p 0 0 with
  | .ret r0=>pure r0
  | .done total1 =>
   pure (decide (total1 ≤ 120))
theorem dT:∀ (p:zV) r,tK p=some r→∀ {imm:Imm}{p1 c p2 c1},(S4 imm p1 p.Arrays c)→(S4 imm p2 p.Parts c1)→Ret Tryz.prog 40 [vA (cProg p p1 c p2 c1)] imm [] (mL  r):=by
 intro p r hM imm p1 c p2 c1 h h1;unfold tK at hM;refine yG (fn:=Tryz.f40) (c:=(bodyOf Tryz.f40)) Tryz.func40 rfl rfl ?_;rintro B - -;have hle:=iS imm;refine zF<|zB<|tR (cProg p p1 c p2 c1) ?_;intro b hb;refine yA [] []<|zE<|zF<|zF ?_;obtain ⟨o0,ho0,hMc⟩:=zC hM;refine yU (fun imm' hs' m'=>∃ (t16:Bool),o0=t16∧imm.le imm'∧hs'=[hB b (cProg p p1 c p2 c1)]∧m'=[(1,vP b 0),(16,.bool t16)]) ?_ ?_
 · have hle:=iS imm;refine zB<|yK 2 [0] [(8,vS p1 p.Arrays c)] ?_;obtain ⟨y,hy,hM⟩:=zC ho0;refine yR (zCV p.Arrays _ hy h) ?_;rintro imm01 hs2 v2 k2 le - ⟨v0,rfl,rfl,rfl⟩ -;have hle:=hle.trans le;refine yK 5 [] [(11,.bool (!y))] ?_;cases hc:(!y) with
   | true =>
    have hM0:=zW hc hM
    try rw [hc]
    exact yA [] [(16,.bool true)]<|yT [(1,vP b 0),(16,.bool true)]<|yB ⟨_,(zD hM0).symm,hle,rfl,rfl⟩
   | false =>
    have hM01:=zU hc hM
    try rw [hc]
    exact yA [0] [(16,.bool (decide ((p.Parts.length:Int) > 4)))]<|yT [(1,vP b 0),(16,.bool (decide ((p.Parts.length:Int) > 4)))]<|yB ⟨_,(zD hM01).symm,hle,rfl,rfl⟩
 rintro imm0 hs2 m2 ⟨t16,heq,le1,rfl,rfl⟩;subst o0;have h:=h.mono le1;have h1:=h1.mono le1;refine zE<|yO hMc ?_ ?_
 · intro hc1 hM;refine zF<|zB<|yA [] [(2,.bool false)]<|zE<|yJ<|zR ?_;obtain rfl:=zD hM;exact yQ ⟨_,_,(.tmp rfl ResV.nil),zX,⟨_,rfl,rfl,rfl⟩⟩
 intro hc1 hM;refine yE<|zE<|zF<|zB<|yA [] [(3,vI 0)]<|zE<|zF<|zF<|zB<|yA [] [(4,vI 0)]<|zE<|yC<|vQ [(1,vP b 0),(3,vI 0),(4,vI 0)] ?_;obtain ⟨o01,ho01,hMl⟩:=zC hM;refine fC p 0 0 o01 ho01 iR h h1 (fun _ _ _ h=>h) (fun _ _ h=>h) ?_ ?_
 · intro imm04 total1 heq1 le4;subst o01;refine yD<|zE<|zF<|zB<|yA [] [(2,.bool (decide (total1 ≤ 120)))]<|zE<|yJ ?_;obtain rfl:=zD hMl;exact yQ ⟨_,_,(.tmp rfl ResV.nil),zX,⟨_,rfl,rfl,rfl⟩⟩
 intro r0 imm9 hs9 m9 heq9 le9 hrs9;subst heq9;refine yF<|zR ?_;obtain rfl:=zD hMl;exact yQ hrs9
def zC3 (r:(List zJ)):KT:=fun kk imm' hs' v=>
  ∃ v0,hs'=[]∧v=tupV [v0]∧SL imm' v0 r
def oA :Option ((List zJ)):=do
 pure ([(zJ.mk (⟨[65]⟩:Str) ([6]:List Int)),(zJ.mk (⟨[66]⟩:Str) ([4,5]:List Int)),(zJ.mk (⟨[67]⟩:Str) ([3]:List Int))]:List zJ)
theorem mM:∀ r,oA =some r→∀ {imm:Imm} ,Ret Tryz.prog 87 [] imm [] (zC3  r):=by
 intro  r hM imm;unfold oA at hM;refine yG (fn:=Tryz.f87) (c:=(bodyOf Tryz.f87)) Tryz.func87 rfl rfl ?_;rintro B - -;refine zF<|zB<|yA [] []<|zE<|zF<|zB<|xQ [vI 6] Int ?_;intro b hb;have h:RL imm [vI 6] ([6]:List Int):=⟨[vI 6],_,rfl,rfl,rfl,rfl⟩;refine yK 2 [] [(2,vA [vT ([65]),vS (some ⟨b,0,none⟩) ([6]:List Int) 1])]<|xQ [vI 4,vI 5] Int ?_;intro b1 hb1;have h1:RL imm [vI 4,vI 5] ([4,5]:List Int):=⟨[vI 4],_,rfl,rfl,rfl,⟨[vI 5],_,rfl,rfl,rfl,rfl⟩⟩;refine yK 4 [] [(4,vA [vT ([66]),vS (some ⟨b1,0,none⟩) ([4,5]:List Int) 2])]<|xQ [vI 3] Int ?_;intro b2 hb2;have h2:RL imm [vI 3] ([3]:List Int):=⟨[vI 3],_,rfl,rfl,rfl,rfl⟩;refine yK 6 [] [(6,vA [vT ([67]),vS (some ⟨b2,0,none⟩) ([3]:List Int) 1])]<|yL 2 rfl ?_;intro imm0 le hl0;have h3:=SL.of_frozen hl0 le h;have h1:=iM le h1;have h2:=iM le h2;refine yL 1 rfl ?_;intro imm01 le1 hl01;have h4:=SL.of_frozen hl01 le1 h1;have h3:=h3.mono le1;have h2:=iM le1 h2;refine yL 0 rfl ?_;intro imm02 le2 hl02;have h5:=SL.of_frozen hl02 le2 h2;have h3:=h3.mono le2;have h4:=h4.mono le2;refine xQ [vT ([65]),vS (some ⟨b,0,none⟩) ([6]:List Int) 1,vT ([66]),vS (some ⟨b1,0,none⟩) ([4,5]:List Int) 2,vT ([67]),vS (some ⟨b2,0,none⟩) ([3]:List Int) 1] zJ ?_;intro b3 hb3;have h6:RL imm02 [vT ([65]),vS (some ⟨b,0,none⟩) ([6]:List Int) 1,vT ([66]),vS (some ⟨b1,0,none⟩) ([4,5]:List Int) 2,vT ([67]),vS (some ⟨b2,0,none⟩) ([3]:List Int) 1] ([(zJ.mk (⟨[65]⟩:Str) ([6]:List Int)),(zJ.mk (⟨[66]⟩:Str) ([4,5]:List Int)),(zJ.mk (⟨[67]⟩:Str) ([3]:List Int))]:List zJ):=⟨[vT ([65]),vS (some ⟨b,0,none⟩) ([6]:List Int) 1],_,rfl,rfl,(pG ⟨_,rfl,h3⟩),⟨[vT ([66]),vS (some ⟨b1,0,none⟩) ([4,5]:List Int) 2],_,rfl,rfl,(pG ⟨_,rfl,h4⟩),⟨[vT ([67]),vS (some ⟨b2,0,none⟩) ([3]:List Int) 1],_,rfl,rfl,(pG ⟨_,rfl,h5⟩),rfl⟩⟩⟩;refine yA [] [(0,vS (some ⟨b3,0,none⟩) ([(zJ.mk (⟨[65]⟩:Str) ([6]:List Int)),(zJ.mk (⟨[66]⟩:Str) ([4,5]:List Int)),(zJ.mk (⟨[67]⟩:Str) ([3]:List Int))]:List zJ) 3)]<|zE<|yJ<|xI 0 rfl ?_;intro imm03 le3 hl03;have h7:=SL.of_frozen hl03 le3 h6;obtain rfl:=zD hM;exact yQ ⟨_,_,(.tmp rfl ResV.nil),zX,⟨_,rfl,rfl,h7⟩⟩
def zA1 (r:zA):KT:=fun kk imm' hs' v=>
  ∃ v0,hs'=[]∧v=tupV [v0]∧(∃ cs,v0=.agg ⟨cs⟩∧Rp.rep imm' cs r)
def tL (a0:zA) (x:Int) (b:zA) (y:Int) (i:Int) (Coefs:List Int):Option (List Int):=do
 if (decide (i < 4)) then
  let x1←idx a0.Coefs i
  let x2←idx b.Coefs i
  let l←app 8 Coefs ([(W ((W (x * x1)) + (W (y * x2))))]:List Int)
  tL a0 x b y (W (i + 1)) l
 else
  pure (id Coefs)
 partial_fixpoint
theorem dU (a0:zA) (x:Int) (b:zA) (y:Int):∀ (i:Int) (Coefs:List Int) (o:List Int),tL a0 x b y i Coefs=some o→∀ {B}{imm0 imm:Imm}{Q p c p1 c1}{b1:Nat}{b2:Nat}{b3:Nat}{b4:Nat}{p2 c2 cs},imm0.le imm→(S4 imm p1 b.Coefs c1)→(S4 imm p a0.Coefs c)→(RL imm cs Coefs)→(∀ gl a w,¬Q (.goto gl) a w)→(∀ a w,¬Q .outgrown a w)→(∀ (imm':Imm) (Coefs1:List Int) (p3:Option Addr) (c3:Nat) (cs1:List Value),o=Coefs1→imm0.le imm'→(RL imm' cs1 Coefs1)→T 46 B Q (.exit 0) imm' [hO Int (vS p3 Coefs1 c3) cs1,hB b4 [vS p3 Coefs1 c3,vI (W ((W (x * a0.Const)) + (W (y * b.Const))))],hB b3 [z0,vI 0]] [(8,vP b3 0),(9,vP b4 0)])→J Tryz.prog 46 B (nav (bodyOf Tryz.f157) [1,1,0,1,0]) Q imm [hO Int (vS p2 Coefs c2) cs,hB b4 [vS p2 Coefs c2,vI (W ((W (x * a0.Const)) + (W (y * b.Const))))],hB b3 [z0,vI 0],hB b2 (cAff b p1 c1),hB b1 (cAff a0 p c)] [(1,vI x),(3,vI y),(4,vP b1 0),(6,vP b2 0),(8,vP b3 0),(9,vP b4 0),(10,vI i)]:=by
 refine tL.partial_correctness a0 x b y _ ?_;intro self ih i Coefs o hM B imm0 imm Q p c p1 c1 b1 b2 b3 b4 p2 c2 cs hle h1 h h3 hg ho hx;refine xC hg ho<|zF<|zF<|zB<|yA [] [(22,.bool (decide (i < 4)))]<|zE<|yO hM ?_ ?_
 · intro hc hM;refine yE<|zE<|zF<|yC ?_;obtain ⟨x1,hy,hM⟩:=zC hM;obtain ⟨x2,hy1,hM⟩:=zC hM;obtain ⟨l,hy2,hM⟩:=zC hM;refine uA [.p (vP b4 0) [],.p (vS p2 Coefs c2) [0],.p (vI x) [],.p (vP b1 0) [],.p (vS p a0.Coefs c) [3],.p (vI i) [],.x (fun imm' v hx=>∃ ad,v=.pointer (some ad)∧hx=[]∧(At imm' ad [vI x1])),.q (vI x1),.p (vI (W (x * x1))) [],.p (vI y) [],.p (vP b2 0) [],.p (vS p1 b.Coefs c1) [2],.p (vI i) [],.x (fun imm' v hx=>∃ ad1,v=.pointer (some ad1)∧hx=[]∧(At imm' ad1 [vI x2])),.q (vI x2),.p (vI (W (y * x2))) [],.p (vI (W ((W (x * x1)) + (W (y * x2))))) [],.x (fun imm' v hx=>∃ b5,v=vS (some ⟨b5,0,none⟩) ([(W ((W (x * x1)) + (W (y * x2))))]:List Int) 1∧hx=[]∧(SL imm' (vS (some ⟨b5,0,none⟩) ([(W ((W (x * x1)) + (W (y * x2))))]:List Int) 1) ([(W ((W (x * x1)) + (W (y * x2))))]:List Int))),.x (fun imm' v hx=>∃ p4 c4 cs2,v=vS p4 l c4∧hx=[hO Int (vS p4 l c4) cs2]∧(RL imm' cs2 l))] [[],[(0,false)],[],[],[(3,false)],[],[(4,false),(5,false)],[(6,false)],[(2,false),(7,false)],[],[],[(10,false)],[],[(11,false),(12,false)],[(13,false)],[(9,false),(14,false)],[(8,false),(15,false)],[(16,false)],[(1,false),(17,false),(21,true)]] [hB b4 [vS p2 Coefs c2,vI (W ((W (x * a0.Const)) + (W (y * b.Const))))],hB b3 [z0,vI 0],hB b2 (cAff b p1 c1),hB b1 (cAff a0 p c)] [[hO Int (vS p2 Coefs c2) cs]] [(18,true)] (zK [1,2,3,4,0] rfl (by decide)) ?_ ?_
   · refine Op<|Op<|Op<|Op<|Op<|Op<|Ox ?_<|Oq ?_<|Op<|Op<|Op<|Op<|Op<|Ox ?_<|Oq ?_<|Op<|Op<|Ox ?_<|Ox ?_<|On
     · intro imm1 hf le1;refine zG ?_;rintro _ _ ⟨rfl,rfl⟩;refine zG ?_;rintro _ _ ⟨rfl,rfl⟩;refine zN<|yH [(29,vS p a0.Coefs c),(30,vI i)] ?_;have hle:=iS imm1;have h:=h.mono le1;refine wJ rfl rfl h hy ?_;intro ad ccs hat hrep;obtain rfl:=hrep;exact zZ (hx:=[]) rfl hle rfl (zM rfl) ⟨_,rfl,rfl,hat⟩
     · intro imm1 hf le1;refine zG ?_;rintro _ _ ⟨ad,rfl,rfl,hat⟩;refine zN<|yH [(31,.pointer (some ad))] ?_;have hle:=iS imm1;exact xS 0 hat [vI x1] (vI x1) rfl<|zZ (hx:=[]) rfl hle rfl (zM rfl) ⟨rfl,rfl⟩
     · intro imm1 hf le1;refine zG ?_;rintro _ _ ⟨rfl,rfl⟩;refine zG ?_;rintro _ _ ⟨rfl,rfl⟩;refine zN<|yH [(36,vS p1 b.Coefs c1),(37,vI i)] ?_;have hle:=iS imm1;have h1:=h1.mono le1;refine wJ rfl rfl h1 hy1 ?_;intro ad1 ccs1 hat1 hrep1;obtain rfl:=hrep1;exact zZ (hx:=[]) rfl hle rfl (zM rfl) ⟨_,rfl,rfl,hat1⟩
     · intro imm1 hf le1;refine zG ?_;rintro _ _ ⟨ad1,rfl,rfl,hat1⟩;refine zN<|yH [(38,.pointer (some ad1))] ?_;have hle:=iS imm1;exact xS 0 hat1 [vI x2] (vI x2) rfl<|zZ (hx:=[]) rfl hle rfl (zM rfl) ⟨rfl,rfl⟩
     · intro imm1 hf le1;refine zG ?_;rintro _ _ ⟨rfl,rfl⟩;refine zN<|yH [(41,vI (W ((W (x * x1)) + (W (y * x2)))))] ?_;have hle:=iS imm1;refine xQ [vI (W ((W (x * x1)) + (W (y * x2))))] Int ?_;intro b5 hb4;have h5:RL imm1 [vI (W ((W (x * x1)) + (W (y * x2))))] ([(W ((W (x * x1)) + (W (y * x2))))]:List Int):=⟨[vI (W ((W (x * x1)) + (W (y * x2))))],_,rfl,rfl,rfl,rfl⟩;refine yL 0 rfl ?_;intro imm0 le hl0;have h6:=SL.of_frozen hl0 le h5;have hle:=hle.trans le;exact zZ (hx:=[]) rfl hle rfl (zM rfl) ⟨_,rfl,rfl,h6⟩
     intro imm1 hf le1;refine zG ?_;rintro _ _ ⟨rfl,rfl⟩;refine zG ?_;rintro _ _ ⟨b5,rfl,rfl,h6⟩;refine zG ?_;rintro _ _ rfl;refine zN<|yH [(26,vS p2 Coefs c2),(42,vS (some ⟨b5,0,none⟩) ([(W ((W (x * x1)) + (W (y * x2))))]:List Int) 1)] ?_;have hle:=iS imm1;have h3:=iM le1 h3;obtain ⟨ccs2,k0,k01⟩:=h6;have h6:SL imm1 (vS (some ⟨b5,0,none⟩) ([(W ((W (x * x1)) + (W (y * x2))))]:List Int) 1) ([(W ((W (x * x1)) + (W (y * x2))))]:List Int):=⟨_,k0,k01⟩;refine qI 3 1 0 rfl rfl rfl h3 (.inl k0) k01 hy2 ?_;intro p4 c4 cs2 h7;exact uB (hs':=(hO Int (vS p4 l c4) cs2::hB b4 [vS p2 Coefs c2,vI (W ((W (x * a0.Const)) + (W (y * b.Const))))]::hB b3 [z0,vI 0]::hB b2 (cAff b p1 c1)::hB b1 (cAff a0 p c)::hf)) rfl<|zZ (hx:=[hO Int (vS p4 l c4) cs2]) rfl hle rfl (zM rfl) ⟨_,_,_,rfl,rfl,h7⟩
   intro imm01 le1;refine zG ?_;rintro _ _ ⟨p4,c4,cs2,rfl,rfl,h7⟩;refine zN<|yH [(1,vI x),(3,vI y),(4,vP b1 0),(6,vP b2 0),(8,vP b3 0),(9,vP b4 0),(10,vI i),(43,vS p4 l c4)] ?_;have h1:=h1.mono le1;have h:=h.mono le1;have hle:=hle.trans le1;exact yK 20 [] [(44,vP b4 0)]<|xJ 1 [vS p4 l c4,vI (W ((W (x * a0.Const)) + (W (y * b.Const))))] [hO Int (vS p4 l c4) cs2,hB b4 [vS p4 l c4,vI (W ((W (x * a0.Const)) + (W (y * b.Const))))],hB b3 [z0,vI 0],hB b2 (cAff b p1 c1),hB b1 (cAff a0 p c)] rfl rfl rfl rfl<|yN rfl<|zY<|zE<|zB<|yA [] [(10,vI (W (i + 1)))]<|xD<|vQ [(1,vI x),(3,vI y),(4,vP b1 0),(6,vP b2 0),(8,vP b3 0),(9,vP b4 0),(10,vI (W (i + 1)))]<|ih (W (i + 1)) l _ hM hle h1 h h7 hg ho hx
 intro hc hM;exact xA<|zS<|zS<|wD (zK [0,1,2] rfl (by decide))<|yT [(8,vP b3 0),(9,vP b4 0)]<|hx _ _ _ _ _ (zD hM).symm hle h3
def qR (a0:zA) (x:Int) (b:zA) (y:Int):Option (zA):=do
 let Coefs1←tL a0 x b y 0 ([]:List Int)
 pure (zA.mk Coefs1 (W ((W (x * a0.Const)) + (W (y * b.Const)))))
theorem gJ:∀ (a0:zA) (x:Int) (b:zA) (y:Int) r,qR a0 x b y=some r→∀ {imm:Imm}{p c p1 c1},(S4 imm p a0.Coefs c)→(S4 imm p1 b.Coefs c1)→Ret Tryz.prog 157 [vA (cAff a0 p c),vI x,vA (cAff b p1 c1),vI y] imm [] (zA1  r):=by
 intro a0 x b y r hM imm p c p1 c1 h h1;unfold qR at hM;refine yG (fn:=Tryz.f157) (c:=(bodyOf Tryz.f157)) Tryz.func157 rfl rfl ?_;rintro B - -;refine zF<|zB<|tR (cAff a0 p c) ?_;intro b1 hb;refine tR (cAff b p1 c1) ?_;intro b2 hb1;refine uD [z0,vI 0] ?_;intro b3 hb2;refine yN rfl<|zE<|zF<|zB<|yK 10 [2,1] [(20,vA [z0,vI (W ((W (x * a0.Const)) + (W (y * b.Const))))])]<|uD [z0,vI 0] ?_;intro b4 hb3;refine xJ 0 [z0,vI (W ((W (x * a0.Const)) + (W (y * b.Const))))] [hB b4 [z0,vI (W ((W (x * a0.Const)) + (W (y * b.Const))))],hB b3 [z0,vI 0],hB b2 (cAff b p1 c1),hB b1 (cAff a0 p c)] rfl rfl rfl rfl<|yN rfl<|zE<|zF<|zF<|zB<|yA [] [(10,vI 0)]<|zE<|yC<|vQ [(1,vI x),(3,vI y),(4,vP b1 0),(6,vP b2 0),(8,vP b3 0),(9,vP b4 0),(10,vI 0)]<|qA (uI (Rp.sz Int)) ?_;have h2:RL imm [] ([]:List Int):=RepL.nil;obtain ⟨o0,ho0,hMl⟩:=zC hM;refine dU a0 x b y 0 ([]:List Int) o0 ho0 iR h1 h h2 (fun _ _ _ h=>h) (fun _ _ h=>h) ?_;intro imm02 Coefs1 p3 c3 cs1 heq le2 h4;subst o0;refine yD<|zE<|zF<|zB<|yK 1 [1] [(45,vA [vS p3 Coefs1 c3,vI (W ((W (x * a0.Const)) + (W (y * b.Const))))])]<|xJ 2 [vS p3 Coefs1 c3,vI (W ((W (x * a0.Const)) + (W (y * b.Const))))] [hO Int (vS p3 Coefs1 c3) cs1,hB b4 [vS p3 Coefs1 c3,vI (W ((W (x * a0.Const)) + (W (y * b.Const))))],hB b3 [vS p3 Coefs1 c3,vI (W ((W (x * a0.Const)) + (W (y * b.Const))))]] rfl rfl rfl rfl<|yN rfl<|zE<|yJ<|xI 0 rfl ?_;intro imm03 le3 hl01;have h8:=SL.of_frozen hl01 le3 h4;obtain rfl:=zD hMl;exact yQ ⟨_,_,(.cell 1 rfl rfl (by kernel_rfl) ResV.nil),zX,⟨_,rfl,rfl,⟨_,rfl,(yP ⟨_,rfl,h8⟩)⟩⟩⟩
def zC4 (b0:Nat) (r:zI×zO):KT:=fun kk imm' hs' v=>
  ∃ v0 k0,hs'=[.blk b0 ⟨k0⟩]∧v=tupV [v0]∧(∃ cs,v0=.agg ⟨cs⟩∧Rp.rep imm' cs r.1)∧Rp.rep imm' k0 r.2
def nV (r0:zO) (depth:Int):Option (zI×zO):=do
 let (y1,y2)←yV r0 ([0,0,1,0,(-1)]:List Int)
 let y3←wB y1
 let (y5,y6)←yV y2 ([3,4,2,3,1]:List Int)
 let y7←wB y5
 let (t23,x)←(do
   if (decide (depth > 0)) then
    let (y9,y10)←yW y6 4
    pure ((y9 == 0),y10)
   else
    pure (false,y6)
     : Option (Bool×zO))
 let (x1,x2,x3)←(do
   if t23 then
    let (y12,y13)←yW x depth
    let (y15,y16)←yW y13 2
    let (x4,x5)←(do
      if (y15 == 0) then
       let y17←qM y12
       pure (y17,(zA.mk y7.Coefs y7.Const))
      else
       let y18←qM y12
       let y19←wB 1
       let y20←qR y18 1 y19 1
       pure ((zA.mk y3.Coefs y3.Const),y20)
        : Option (zA×zA))
    pure (x4,x5,y16)
   else
    pure ((zA.mk y3.Coefs y3.Const),(zA.mk y7.Coefs y7.Const),x)
     : Option (zA×zA×zO))
 let (y22,y23)←yW x3 12
 let (Lo,Hi,x6)←(do
   if (y22 == 0) then
    let (y25,y26)←yV y23 ([3,2,4]:List Int)
    let y27←wB y25
    let l←app 32 ([x2]:List zA) ([y27]:List zA)
    pure (([x1]:List zA),l,y26)
   else
    let (Lo1,x7)←(do
      if (y22 == 1) then
       let (y29,y30)←yV y23 ([0,1]:List Int)
       let y31←wB y29
       let l1←app 32 ([x1]:List zA) ([y31]:List zA)
       pure (l1,y30)
      else
       pure (([x1]:List zA),y23)
        : Option (List zA×zO))
    pure (Lo1,([x2]:List zA),x7)
     : Option (List zA×List zA×zO))
 pure ((zI.mk Lo Hi),x6)
theorem zDh:∀ (r0:zO) (depth:Int) r,nV r0 depth=some r→∀ {imm:Imm}{r01:Nat}{p c},(S4 imm p r0.b c)→Ret Tryz.prog 141 [vP r01 0,vI depth] imm [hB r01 (cRd r0 p c)] (zC4 r01 r):=by
 intro r0 depth r hM imm r01 p c h;unfold nV at hM;refine yG (fn:=Tryz.f141) (c:=(bodyOf Tryz.f141)) Tryz.func141 rfl rfl ?_;rintro B - -;have hle:=iS imm;refine zF<|zB<|uD zTwo ?_;intro b hb;refine yN rfl<|zE<|zF<|zB<|yK 1 [] [(9,vP r01 0)]<|xQ [vI 0,vI 0,vI 1,vI 0,vI (-1)] Int ?_;intro b1 hb1;have h1:RL imm [vI 0,vI 0,vI 1,vI 0,vI (-1)] ([0,0,1,0,(-1)]:List Int):=⟨[vI 0],_,rfl,rfl,rfl,⟨[vI 0],_,rfl,rfl,rfl,⟨[vI 1],_,rfl,rfl,rfl,⟨[vI 0],_,rfl,rfl,rfl,⟨[vI (-1)],_,rfl,rfl,rfl,rfl⟩⟩⟩⟩⟩;refine yL 0 rfl ?_;intro imm0 le hl0;have h2:=SL.of_frozen hl0 le h1;have h:=h.mono le;have hle:=hle.trans le;refine rX (zK [1,0] (hs':=[hB r01 (cRd r0 p c),hB b zTwo]) rfl (by decide)) ?_;obtain ⟨⟨y1,y2⟩,hy,hM⟩:=zC hM;refine sD [hB r01 (cRd r0 p c)] [hB b zTwo] (xF r0 ([0,0,1,0,(-1)]:List Int) _ hy h h2) ?_;rintro imm01 hs2 v2 k2 le1 - ⟨v0,kk,rfl,rfl,rfl,h4⟩ -;have hle:=hle.trans le1;obtain ⟨v01,rfl,h5⟩:=yI h4;obtain ⟨p1,c1,rfl⟩:=h5.form;obtain ⟨y3,hy1,hM⟩:=zC hM;refine yR (vE y1 _ hy1 ) ?_;rintro imm02 hs2 v2 k2 le2 - ⟨p2,c2,cs,rfl,rfl,h6⟩ -;have h5:=h5.mono le2;have hle:=hle.trans le2;refine uD [z0,vI 0] ?_;intro b2 hb2;refine xJ 0 (cAff y3 p2 c2) [hB b2 (cAff y3 p2 c2),hO Int (vS p2 y3.Coefs c2) cs,hB r01 (cRd y2 p1 c1),hB b zTwo] rfl rfl rfl rfl<|yN rfl<|zE<|zF<|zB<|yK 1 [] [(13,vP r01 0)]<|xQ [vI 3,vI 4,vI 2,vI 3,vI 1] Int ?_;intro b3 hb3;have h7:RL imm02 [vI 3,vI 4,vI 2,vI 3,vI 1] ([3,4,2,3,1]:List Int):=⟨[vI 3],_,rfl,rfl,rfl,⟨[vI 4],_,rfl,rfl,rfl,⟨[vI 2],_,rfl,rfl,rfl,⟨[vI 3],_,rfl,rfl,rfl,⟨[vI 1],_,rfl,rfl,rfl,rfl⟩⟩⟩⟩⟩;refine yL 0 rfl ?_;intro imm03 le3 hl01;have h8:=SL.of_frozen hl01 le3 h7;have h6:=iM le3 h6;have h5:=h5.mono le3;have hle:=hle.trans le3;refine rX (zK [2,0,1,3] (hs':=[hB r01 (cRd y2 p1 c1),hB b2 (cAff y3 p2 c2),hO Int (vS p2 y3.Coefs c2) cs,hB b zTwo]) rfl (by decide)) ?_;obtain ⟨⟨y5,y6⟩,hy2,hM⟩:=zC hM;refine sD [hB r01 (cRd y2 p1 c1)] [hB b2 (cAff y3 p2 c2),hO Int (vS p2 y3.Coefs c2) cs,hB b zTwo] (xF y2 ([3,4,2,3,1]:List Int) _ hy2 h5 h8) ?_;rintro imm04 hs2 v2 k2 le4 - ⟨v02,kk1,rfl,rfl,rfl,h10⟩ -;have h6:=iM le4 h6;have hle:=hle.trans le4;obtain ⟨v03,rfl,h11⟩:=yI h10;obtain ⟨p3,c3,rfl⟩:=h11.form;obtain ⟨y7,hy3,hM⟩:=zC hM;refine yR (vE y5 _ hy3 ) ?_;rintro imm05 hs2 v2 k2 le5 - ⟨p4,c4,cs1,rfl,rfl,h12⟩ -;have h11:=h11.mono le5;have h6:=iM le5 h6;have hle:=hle.trans le5;refine uD [z0,vI 0] ?_;intro b4 hb4;refine xJ 0 (cAff y7 p4 c4) [hB b4 (cAff y7 p4 c4),hO Int (vS p4 y7.Coefs c4) cs1,hB r01 (cRd y6 p3 c3),hB b2 (cAff y3 p2 c2),hO Int (vS p2 y3.Coefs c2) cs,hB b zTwo] rfl rfl rfl rfl<|yN rfl<|zE<|zF<|zF ?_;obtain ⟨o0,ho0,hMc⟩:=zC hM;refine yU (fun imm' hs' m'=>∃ (t23:Bool) (x:zO) (p5:Option Addr) (c5:Nat),o0=(t23,x)∧imm05.le imm'∧(S4 imm' p5 x.b c5)∧hs'=[hB b4 (cAff y7 p4 c4),hO Int (vS p4 y7.Coefs c4) cs1,hB r01 (cRd x p5 c5),hB b2 (cAff y3 p2 c2),hO Int (vS p2 y3.Coefs c2) cs,hB b zTwo]∧m'=[(0,vP r01 0),(1,vI depth),(4,vP b 0),(5,vP b2 0),(6,vP b4 0),(23,.bool t23)]) ?_ ?_
 · have hle:=iS imm05;refine zB<|yK 3 [] [(19,.bool (decide (depth > 0)))] ?_;cases hc:(decide (depth > 0)) with
   | true =>
    have hM0:=zW hc ho0
    try rw [hc]
    refine yK 4 [] [(20,vP r01 0)]<|rX (zK [2,0,1,3,4,5] (hs':=[hB r01 (cRd y6 p3 c3),hB b4 (cAff y7 p4 c4),hO Int (vS p4 y7.Coefs c4) cs1,hB b2 (cAff y3 p2 c2),hO Int (vS p2 y3.Coefs c2) cs,hB b zTwo]) rfl (by decide)) ?_;obtain ⟨⟨y9,y10⟩,hy4,hM⟩:=zC hM0;refine sD [hB r01 (cRd y6 p3 c3)] [hB b4 (cAff y7 p4 c4),hO Int (vS p4 y7.Coefs c4) cs1,hB b2 (cAff y3 p2 c2),hO Int (vS p2 y3.Coefs c2) cs,hB b zTwo] (xL y6 4 _ hy4 h11) ?_;rintro imm07 hs2 v2 k2 le6 - ⟨v04,kk2,rfl,rfl,rfl,h15⟩ -;have hle:=hle.trans le6;obtain ⟨v05,rfl,h16⟩:=yI h15;obtain ⟨p6,c6,rfl⟩:=h16.form;exact yA [] [(23,.bool (y9 == 0))]<|wD (zK [1,2,0,3,4,5] rfl (by decide))<|yT [(0,vP r01 0),(1,vI depth),(4,vP b 0),(5,vP b2 0),(6,vP b4 0),(23,.bool (y9 == 0))]<|yB ⟨_,_,_,_,(zD hM).symm,hle,h16,rfl,rfl⟩
   | false =>
    have hM01:=zU hc ho0
    try rw [hc]
    exact yA [] [(23,.bool false)]<|yT [(0,vP r01 0),(1,vI depth),(4,vP b 0),(5,vP b2 0),(6,vP b4 0),(23,.bool false)]<|yB ⟨_,_,_,_,(zD hM01).symm,hle,h11,rfl,rfl⟩
 rintro imm06 hs2 m2 ⟨t23,x,p5,c5,heq,le7,h13,rfl,rfl⟩;subst o0;have h12:=iM le7 h12;have h6:=iM le7 h6;have hle:=hle.trans le7;refine zE<|qW 4 rfl ?_;intro imm08 le8 hl02;have h17:=SL.of_frozen hl02 le8 h6;have h12:=iM le8 h12;have h13:=h13.mono le8;have hle:=hle.trans le8;refine qW 1 rfl ?_;intro imm09 le9 hl03;have h18:=SL.of_frozen hl03 le9 h12;have h13:=h13.mono le9;have h17:=h17.mono le9;have hle:=hle.trans le9;obtain ⟨o01,ho01,hMc1⟩:=zC hMc;refine yU (fun imm' hs' m'=>∃ (x1:zA) (x2:zA) (x3:zO) (p7:Option Addr) (c7:Nat) (p8:Option Addr) (c8:Nat) (p9:Option Addr) (c9:Nat),o01=(x1,x2,x3)∧imm09.le imm'∧(S4 imm' p7 x1.Coefs c7)∧(S4 imm' p8 x2.Coefs c8)∧(S4 imm' p9 x3.b c9)∧hs'=[hB b4 (cAff x2 p8 c8),hB r01 (cRd x3 p9 c9),hB b2 (cAff x1 p7 c7),hB b zTwo]∧m'=[(0,vP r01 0),(4,vP b 0),(5,vP b2 0),(6,vP b4 0)]) ?_ ?_
 · have hle:=iS imm09;refine yO ho01 ?_ ?_
   · intro hc1 hM;refine zF<|zB<|yK 2 [] [(24,vP r01 0),(25,vI depth)]<|rX (zK [1,0,2,3] (hs':=[hB r01 (cRd x p5 c5),hB b4 (cAff y7 p4 c4),hB b2 (cAff y3 p2 c2),hB b zTwo]) rfl (by decide)) ?_;obtain ⟨⟨y12,y13⟩,hy5,hM⟩:=zC hM;refine sD [hB r01 (cRd x p5 c5)] [hB b4 (cAff y7 p4 c4),hB b2 (cAff y3 p2 c2),hB b zTwo] (xL x depth _ hy5 h13) ?_;rintro imm011 hs2 v2 k2 le10 - ⟨v06,kk3,rfl,rfl,rfl,h23⟩ -;have h18:=h18.mono le10;have h17:=h17.mono le10;have hle:=hle.trans le10;obtain ⟨v07,rfl,h24⟩:=yI h23;obtain ⟨p10,c10,rfl⟩:=h24.form;refine yA [] [(7,vI y12)]<|zE<|zF<|zB<|yK 1 [] [(27,vP r01 0)] ?_;obtain ⟨⟨y15,y16⟩,hy6,hM⟩:=zC hM;refine sD [hB r01 (cRd y13 p10 c10)] [hB b4 (cAff y7 p4 c4),hB b2 (cAff y3 p2 c2),hB b zTwo] (xL y13 2 _ hy6 h24) ?_;rintro imm012 hs2 v2 k2 le11 - ⟨v08,kk4,rfl,rfl,rfl,h26⟩ -;have h18:=h18.mono le11;have h17:=h17.mono le11;have hle:=hle.trans le11;obtain ⟨v09,rfl,h27⟩:=yI h26;obtain ⟨p11,c11,rfl⟩:=h27.form;refine yA [] [(29,.bool (y15 == 0))]<|zE ?_;obtain ⟨o02,ho02,hMc2⟩:=zC hM;refine yU (fun imm' hs' m'=>∃ (x4:zA) (x5:zA) (p12:Option Addr) (c12:Nat) (p13:Option Addr) (c13:Nat),o02=(x4,x5)∧imm012.le imm'∧(S4 imm' p12 x4.Coefs c12)∧(S4 imm' p13 x5.Coefs c13)∧hs'=[hB r01 (cRd y16 p11 c11),hB b4 (cAff x5 p13 c13),hB b2 (cAff x4 p12 c12),hB b zTwo]∧m'=[(0,vP r01 0),(4,vP b 0),(5,vP b2 0),(6,vP b4 0)]) ?_ ?_
     · have hle:=iS imm012;refine yO ho02 ?_ ?_
       · intro hc2 hM;refine zB<|yK 1 [] [(30,vI y12)] ?_;obtain ⟨y17,hy7,hM⟩:=zC hM;refine yR (nU y12 _ hy7 ) ?_;rintro imm014 hs2 v2 k2 le12 - ⟨v010,rfl,rfl,⟨cs2,rfl,h30⟩⟩ -;have h18:=h18.mono le12;have hle:=hle.trans le12;obtain ⟨v011,rfl,h31⟩:=yM h30;obtain ⟨p14,c14,rfl⟩:=h31.form;exact xJ 2 (cAff y17 p14 c14) [hB r01 (cRd y16 p11 c11),hB b4 (cAff y7 p4 c4),hB b2 (cAff y17 p14 c14),hB b zTwo] rfl rfl rfl rfl<|yN rfl<|yT [(0,vP r01 0),(4,vP b 0),(5,vP b2 0),(6,vP b4 0)]<|yB ⟨_,_,_,_,_,_,(zD hM).symm,hle,h31,h18,rfl,rfl⟩
       intro hc2 hM;refine zB<|yK 1 [] [(32,vI y12)] ?_;obtain ⟨y18,hy8,hM⟩:=zC hM;refine yR (nU y12 _ hy8 ) ?_;rintro imm015 hs2 v2 k2 le13 - ⟨v012,rfl,rfl,⟨cs3,rfl,h32⟩⟩ -;have h17:=h17.mono le13;have hle:=hle.trans le13;obtain ⟨v013,rfl,h33⟩:=yM h32;obtain ⟨p15,c15,rfl⟩:=h33.form;obtain ⟨y19,hy9,hM⟩:=zC hM;refine yR (vE 1 _ hy9 ) ?_;rintro imm016 hs2 v2 k2 le14 - ⟨p16,c16,cs4,rfl,rfl,h34⟩ -;have h33:=h33.mono le14;have h17:=h17.mono le14;have hle:=hle.trans le14;refine yL 0 rfl ?_;intro imm017 le15 hl04;have h35:=SL.of_frozen hl04 le15 h34;have h33:=h33.mono le15;have h17:=h17.mono le15;have hle:=hle.trans le15;obtain ⟨y20,hy10,hM⟩:=zC hM;refine yR (gJ y18 1 y19 1 _ hy10 h33 h35) ?_;rintro imm018 hs2 v2 k2 le16 - ⟨v014,rfl,rfl,⟨cs5,rfl,h36⟩⟩ -;have h17:=h17.mono le16;have hle:=hle.trans le16;obtain ⟨v015,rfl,h37⟩:=yM h36;obtain ⟨p17,c17,rfl⟩:=h37.form;exact xJ 1 (cAff y20 p17 c17) [hB r01 (cRd y16 p11 c11),hB b4 (cAff y20 p17 c17),hB b2 (cAff y3 p2 c2),hB b zTwo] rfl rfl rfl rfl<|yN rfl<|yT [(0,vP r01 0),(4,vP b 0),(5,vP b2 0),(6,vP b4 0)]<|yB ⟨_,_,_,_,_,_,(zD hM).symm,hle,h17,h37,rfl,rfl⟩
     rintro imm013 hs2 m2 ⟨x4,x5,p12,c12,p13,c13,heq1,le17,h28,h29,rfl,rfl⟩;subst o02;have h27:=h27.mono le17;have hle:=hle.trans le17;exact wD (zK [1,0,2,3] rfl (by decide))<|yT [(0,vP r01 0),(4,vP b 0),(5,vP b2 0),(6,vP b4 0)]<|yB ⟨_,_,_,_,_,_,_,_,_,(zD hMc2).symm,hle,h28,h29,h27,rfl,rfl⟩
   intro hc1 hM;exact yE<|yT [(0,vP r01 0),(4,vP b 0),(5,vP b2 0),(6,vP b4 0)]<|yB ⟨_,_,_,_,_,_,_,_,_,(zD hM).symm,hle,h17,h18,h13,rfl,rfl⟩
 rintro imm010 hs2 m2 ⟨x1,x2,x3,p7,c7,p8,c8,p9,c9,heq2,le18,h19,h20,h21,rfl,rfl⟩;subst o01;have hle:=hle.trans le18;refine zE<|zF<|zB<|yK 1 [2] [(36,vA (cAff x1 p7 c7))]<|xQ (cAff x1 p7 c7) zA ?_;intro b5 hb5;have h38:RL imm010 (cAff x1 p7 c7) ([x1]:List zA):=⟨(cAff x1 p7 c7),_,rfl,rfl,(yP ⟨_,rfl,h19⟩),rfl⟩;refine yK 3 [1] [(38,vA (cAff x2 p8 c8))]<|xQ (cAff x2 p8 c8) zA ?_;intro b6 hb6;have h39:RL imm010 (cAff x2 p8 c8) ([x2]:List zA):=⟨(cAff x2 p8 c8),_,rfl,rfl,(yP ⟨_,rfl,h20⟩),rfl⟩;refine yK 5 [] [(40,vA [vS (some ⟨b5,0,none⟩) ([x1]:List zA) 1,vS (some ⟨b6,0,none⟩) ([x2]:List zA) 1])]<|uD zTwo ?_;intro b7 hb7;refine xJ 0 [vS (some ⟨b5,0,none⟩) ([x1]:List zA) 1,vS (some ⟨b6,0,none⟩) ([x2]:List zA) 1] [hB b7 [vS (some ⟨b5,0,none⟩) ([x1]:List zA) 1,vS (some ⟨b6,0,none⟩) ([x2]:List zA) 1],hO zA (vS (some ⟨b6,0,none⟩) ([x2]:List zA) 1) (cAff x2 p8 c8),hO zA (vS (some ⟨b5,0,none⟩) ([x1]:List zA) 1) (cAff x1 p7 c7),hB b4 (cAff x2 p8 c8),hB r01 (cRd x3 p9 c9),hB b2 (cAff x1 p7 c7),hB b zTwo] rfl rfl rfl rfl<|yN rfl<|zE<|zF<|zF<|zB<|yK 1 [] [(41,vP r01 0)]<|rX (zK [4,0,1,2,3,5,6] (hs':=[hB r01 (cRd x3 p9 c9),hB b7 [vS (some ⟨b5,0,none⟩) ([x1]:List zA) 1,vS (some ⟨b6,0,none⟩) ([x2]:List zA) 1],hO zA (vS (some ⟨b6,0,none⟩) ([x2]:List zA) 1) (cAff x2 p8 c8),hO zA (vS (some ⟨b5,0,none⟩) ([x1]:List zA) 1) (cAff x1 p7 c7),hB b4 (cAff x2 p8 c8),hB b2 (cAff x1 p7 c7),hB b zTwo]) rfl (by decide)) ?_;obtain ⟨⟨y22,y23⟩,hy11,hM⟩:=zC hMc1;refine sD [hB r01 (cRd x3 p9 c9)] [hB b7 [vS (some ⟨b5,0,none⟩) ([x1]:List zA) 1,vS (some ⟨b6,0,none⟩) ([x2]:List zA) 1],hO zA (vS (some ⟨b6,0,none⟩) ([x2]:List zA) 1) (cAff x2 p8 c8),hO zA (vS (some ⟨b5,0,none⟩) ([x1]:List zA) 1) (cAff x1 p7 c7),hB b4 (cAff x2 p8 c8),hB b2 (cAff x1 p7 c7),hB b zTwo] (xL x3 12 _ hy11 h21) ?_;rintro imm019 hs2 v2 k2 le19 - ⟨v016,kk5,rfl,rfl,rfl,h41⟩ -;have h38:=iM le19 h38;have h39:=iM le19 h39;have hle:=hle.trans le19;obtain ⟨v017,rfl,h42⟩:=yI h41;obtain ⟨p18,c18,rfl⟩:=h42.form;refine yN rfl<|zE<|yC<|zF<|zB<|yA [] [(43,.bool (y22 == 0))]<|zE<|qW 4 rfl ?_;intro imm020 le20 hl05;have hat:At imm020 ⟨b4,0,none⟩ (cAff x2 p8 c8):=At.of_blk hl05;have h42:=h42.mono le20;have h38:=iM le20 h38;have h39:=iM le20 h39;have hle:=hle.trans le20;refine qW 4 rfl ?_;intro imm021 le21 hl06;have hat1:At imm021 ⟨b2,0,none⟩ (cAff x1 p7 c7):=At.of_blk hl06;have h42:=h42.mono le21;have h38:=iM le21 h38;have h39:=iM le21 h39;have hle:=hle.trans le21;obtain ⟨o03,ho03,hMc3⟩:=zC hM;refine yU (fun imm' hs' m'=>∃ (Lo:List zA) (Hi:List zA) (x6:zO) (p19:Option Addr) (c19:Nat) (cs6:List Value) (p20:Option Addr) (c20:Nat) (cs7:List Value) (p21:Option Addr) (c21:Nat),o03=(Lo,Hi,x6)∧imm021.le imm'∧(RL imm' cs6 Lo)∧(RL imm' cs7 Hi)∧(S4 imm' p21 x6.b c21)∧hs'=[hB r01 (cRd x6 p21 c21),hB b7 [vS p19 Lo c19,vS p20 Hi c20],hO zA (vS p20 Hi c20) cs7,hO zA (vS p19 Lo c19) cs6,hB b zTwo]∧m'=[(4,vP b 0),(8,vP b7 0)]) ?_ ?_
 · have hle:=iS imm021;refine yO ho03 ?_ ?_
   · intro hc3 hM;obtain ⟨⟨y25,y26⟩,hy12,hM⟩:=zC hM;obtain ⟨y27,hy13,hM⟩:=zC hM;obtain ⟨l,hy14,hM⟩:=zC hM;refine uA [.p (vP b7 1) [],.p (vS (some ⟨b6,0,none⟩) ([x2]:List zA) 1) [0],.p (vP r01 0) [],.x (fun imm' v hx=>∃ b8,v=vS (some ⟨b8,0,none⟩) ([3,2,4]:List Int) 3∧hx=[]∧(SL imm' (vS (some ⟨b8,0,none⟩) ([3,2,4]:List Int) 3) ([3,2,4]:List Int))),.x (fun imm' v hx=>∃ p22 c22,v=vI y25∧hx=[hB r01 (cRd y26 p22 c22)]∧(S4 imm' p22 y26.b c22)),.x (fun imm' v hx=>∃ p23 c23 cs8,v=vA (cAff y27 p23 c23)∧hx=[hO Int (vS p23 y27.Coefs c23) cs8]∧(RL imm' cs8 y27.Coefs)),.x (fun imm' v hx=>∃ b9,v=vS (some ⟨b9,0,none⟩) ([y27]:List zA) 1∧hx=[]∧(SL imm' (vS (some ⟨b9,0,none⟩) ([y27]:List zA) 1) ([y27]:List zA))),.x (fun imm' v hx=>∃ p24 c24 cs9,v=vS p24 l c24∧hx=[hO zA (vS p24 l c24) cs9]∧(RL imm' cs9 l))] [[],[(0,false)],[],[],[(2,false),(3,false),(10,true)],[(4,false)],[(5,true)],[(1,false),(6,false),(11,true)]] [hB b7 [vS (some ⟨b5,0,none⟩) ([x1]:List zA) 1,vS (some ⟨b6,0,none⟩) ([x2]:List zA) 1],hO zA (vS (some ⟨b5,0,none⟩) ([x1]:List zA) 1) (cAff x1 p7 c7),hB b zTwo] [[hB r01 (cRd y23 p18 c18)],[hO zA (vS (some ⟨b6,0,none⟩) ([x2]:List zA) 1) (cAff x2 p8 c8)]] [(4,true),(7,true)] (zK [1,3,4,0,2] rfl (by decide)) ?_ ?_
     · refine Op<|Op<|Op<|Ox ?_<|Ox ?_<|Ox ?_<|Ox ?_<|Ox ?_<|On
       · intro imm1 hf le1;refine zN<|yH [] ?_;have hle:=iS imm1;refine xQ [vI 3,vI 2,vI 4] Int ?_;intro b8 hb8;have h46:RL imm1 [vI 3,vI 2,vI 4] ([3,2,4]:List Int):=⟨[vI 3],_,rfl,rfl,rfl,⟨[vI 2],_,rfl,rfl,rfl,⟨[vI 4],_,rfl,rfl,rfl,rfl⟩⟩⟩;refine yL 0 rfl ?_;intro imm023 le22 hl07;have h47:=SL.of_frozen hl07 le22 h46;have hle:=hle.trans le22;exact zZ (hx:=[]) rfl hle rfl (zM rfl) ⟨_,rfl,rfl,h47⟩
       · intro imm1 hf le1;refine zG ?_;rintro _ _ ⟨rfl,rfl⟩;refine zG ?_;rintro _ _ ⟨b8,rfl,rfl,h47⟩;refine zG ?_;rintro _ _ rfl;refine zN<|yH [(47,vP r01 0),(48,vS (some ⟨b8,0,none⟩) ([3,2,4]:List Int) 3)] ?_;have hle:=iS imm1;have h42:=h42.mono le1;refine sD [hB r01 (cRd y23 p18 c18)] (hB b7 [vS (some ⟨b5,0,none⟩) ([x1]:List zA) 1,vS (some ⟨b6,0,none⟩) ([x2]:List zA) 1]::hO zA (vS (some ⟨b5,0,none⟩) ([x1]:List zA) 1) (cAff x1 p7 c7)::hB b zTwo::hf) (xF y23 ([3,2,4]:List Int) _ hy12 h42 h47) ?_;rintro imm024 hs2 v2 k2 le23 - ⟨v018,kk6,rfl,rfl,rfl,h49⟩ -;have hle:=hle.trans le23;obtain ⟨v019,rfl,h50⟩:=yI h49;obtain ⟨p22,c22,rfl⟩:=h50.form;exact zZ (hx:=[hB r01 (cRd y26 p22 c22)]) rfl hle rfl (zM rfl) ⟨_,_,rfl,rfl,h50⟩
       · intro imm1 hf le1;refine zG ?_;rintro _ _ ⟨p22,c22,rfl,rfl,h50⟩;refine zN<|yH [(49,vI y25)] ?_;have hle:=iS imm1;refine yR (vE y25 _ hy13 ) ?_;rintro imm025 hs2 v2 k2 le24 - ⟨p23,c23,cs8,rfl,rfl,h51⟩ -;have hle:=hle.trans le24;exact zZ (hx:=[hO Int (vS p23 y27.Coefs c23) cs8]) rfl hle rfl (zM rfl) ⟨_,_,_,rfl,rfl,h51⟩
       · intro imm1 hf le1;refine zG ?_;rintro _ _ ⟨p23,c23,cs8,rfl,rfl,h51⟩;refine zN<|yH [(50,vA (cAff y27 p23 c23))] ?_;have hle:=iS imm1;refine yL 0 rfl ?_;intro imm026 le25 hl08;have h52:=SL.of_frozen hl08 le25 h51;have hle:=hle.trans le25;refine xQ (cAff y27 p23 c23) zA ?_;intro b9 hb9;have h53:RL imm026 (cAff y27 p23 c23) ([y27]:List zA):=⟨(cAff y27 p23 c23),_,rfl,rfl,(yP ⟨_,rfl,h52⟩),rfl⟩;refine yL 0 rfl ?_;intro imm027 le26 hl09;have h54:=SL.of_frozen hl09 le26 h53;have hle:=hle.trans le26;exact zZ (hx:=[]) rfl hle rfl (zM rfl) ⟨_,rfl,rfl,h54⟩
       intro imm1 hf le1;refine zG ?_;rintro _ _ ⟨rfl,rfl⟩;refine zG ?_;rintro _ _ ⟨b9,rfl,rfl,h54⟩;refine zG ?_;rintro _ _ rfl;refine zN<|yH [(46,vS (some ⟨b6,0,none⟩) ([x2]:List zA) 1),(51,vS (some ⟨b9,0,none⟩) ([y27]:List zA) 1)] ?_;have hle:=iS imm1;have h39:=iM le1 h39;obtain ⟨ccs,k0,k01⟩:=h54;have h54:SL imm1 (vS (some ⟨b9,0,none⟩) ([y27]:List zA) 1) ([y27]:List zA):=⟨_,k0,k01⟩;refine qI 66 2 0 rfl rfl rfl h39 (.inl k0) k01 hy14 ?_;intro p24 c24 cs9 h55;exact uB (hs':=(hO zA (vS p24 l c24) cs9::hB b7 [vS (some ⟨b5,0,none⟩) ([x1]:List zA) 1,vS (some ⟨b6,0,none⟩) ([x2]:List zA) 1]::hO zA (vS (some ⟨b5,0,none⟩) ([x1]:List zA) 1) (cAff x1 p7 c7)::hB b zTwo::hf)) rfl<|zZ (hx:=[hO zA (vS p24 l c24) cs9]) rfl hle rfl (zM rfl) ⟨_,_,_,rfl,rfl,h55⟩
     intro imm028 le27;refine zG ?_;rintro _ _ ⟨p22,c22,rfl,rfl,h50⟩;refine zG ?_;rintro _ _ ⟨p24,c24,cs9,rfl,rfl,h55⟩;refine zN<|yH [(4,vP b 0),(8,vP b7 0),(52,vS p24 l c24)] ?_;have h38:=iM le27 h38;have hle:=hle.trans le27;exact yK 9 [] [(53,vP b7 1)]<|xJ 2 [vS (some ⟨b5,0,none⟩) ([x1]:List zA) 1,vS p24 l c24] [hO zA (vS p24 l c24) cs9,hB r01 (cRd y26 p22 c22),hB b7 [vS (some ⟨b5,0,none⟩) ([x1]:List zA) 1,vS p24 l c24],hO zA (vS (some ⟨b5,0,none⟩) ([x1]:List zA) 1) (cAff x1 p7 c7),hB b zTwo] rfl rfl rfl rfl<|yN rfl<|wD (zK [1,2,0,3,4] rfl (by decide))<|yT [(4,vP b 0),(8,vP b7 0)]<|yB ⟨_,_,_,_,_,_,_,_,_,_,_,(zD hM).symm,hle,h38,h55,h50,rfl,rfl⟩
   intro hc3 hM;refine zF<|zB<|yA [] [(54,.bool (y22 == 1))]<|zE ?_;obtain ⟨o04,ho04,hMc4⟩:=zC hM;refine yU (fun imm' hs' m'=>∃ (Lo1:List zA) (x7:zO) (p25:Option Addr) (c25:Nat) (cs10:List Value) (p26:Option Addr) (c26:Nat),o04=(Lo1,x7)∧imm021.le imm'∧(RL imm' cs10 Lo1)∧(S4 imm' p26 x7.b c26)∧hs'=[hB r01 (cRd x7 p26 c26),hB b7 [vS p25 Lo1 c25,vS (some ⟨b6,0,none⟩) ([x2]:List zA) 1],hO zA (vS (some ⟨b6,0,none⟩) ([x2]:List zA) 1) (cAff x2 p8 c8),hO zA (vS p25 Lo1 c25) cs10,hB b zTwo]∧m'=[(4,vP b 0),(8,vP b7 0)]) ?_ ?_
   · have hle:=iS imm021;refine yO ho04 ?_ ?_
     · intro hc4 hM;obtain ⟨⟨y29,y30⟩,hy15,hM⟩:=zC hM;obtain ⟨y31,hy16,hM⟩:=zC hM;obtain ⟨l1,hy17,hM⟩:=zC hM;refine uA [.p (vP b7 0) [],.p (vS (some ⟨b5,0,none⟩) ([x1]:List zA) 1) [0],.p (vP r01 0) [],.x (fun imm' v hx=>∃ b10,v=vS (some ⟨b10,0,none⟩) ([0,1]:List Int) 2∧hx=[]∧(SL imm' (vS (some ⟨b10,0,none⟩) ([0,1]:List Int) 2) ([0,1]:List Int))),.x (fun imm' v hx=>∃ p27 c27,v=vI y29∧hx=[hB r01 (cRd y30 p27 c27)]∧(S4 imm' p27 y30.b c27)),.x (fun imm' v hx=>∃ p28 c28 cs11,v=vA (cAff y31 p28 c28)∧hx=[hO Int (vS p28 y31.Coefs c28) cs11]∧(RL imm' cs11 y31.Coefs)),.x (fun imm' v hx=>∃ b11,v=vS (some ⟨b11,0,none⟩) ([y31]:List zA) 1∧hx=[]∧(SL imm' (vS (some ⟨b11,0,none⟩) ([y31]:List zA) 1) ([y31]:List zA))),.x (fun imm' v hx=>∃ p29 c29 cs12,v=vS p29 l1 c29∧hx=[hO zA (vS p29 l1 c29) cs12]∧(RL imm' cs12 l1))] [[],[(0,false)],[],[],[(2,false),(3,false),(10,true)],[(4,false)],[(5,true)],[(1,false),(6,false),(11,true)]] [hB b7 [vS (some ⟨b5,0,none⟩) ([x1]:List zA) 1,vS (some ⟨b6,0,none⟩) ([x2]:List zA) 1],hO zA (vS (some ⟨b6,0,none⟩) ([x2]:List zA) 1) (cAff x2 p8 c8),hB b zTwo] [[hB r01 (cRd y23 p18 c18)],[hO zA (vS (some ⟨b5,0,none⟩) ([x1]:List zA) 1) (cAff x1 p7 c7)]] [(4,true),(7,true)] (zK [1,2,4,0,3] rfl (by decide)) ?_ ?_
       · refine Op<|Op<|Op<|Ox ?_<|Ox ?_<|Ox ?_<|Ox ?_<|Ox ?_<|On
         · intro imm1 hf le1;refine zN<|yH [] ?_;have hle:=iS imm1;refine xQ [vI 0,vI 1] Int ?_;intro b10 hb10;have h58:RL imm1 [vI 0,vI 1] ([0,1]:List Int):=⟨[vI 0],_,rfl,rfl,rfl,⟨[vI 1],_,rfl,rfl,rfl,rfl⟩⟩;refine yL 0 rfl ?_;intro imm030 le28 hl010;have h59:=SL.of_frozen hl010 le28 h58;have hle:=hle.trans le28;exact zZ (hx:=[]) rfl hle rfl (zM rfl) ⟨_,rfl,rfl,h59⟩
         · intro imm1 hf le1;refine zG ?_;rintro _ _ ⟨rfl,rfl⟩;refine zG ?_;rintro _ _ ⟨b10,rfl,rfl,h59⟩;refine zG ?_;rintro _ _ rfl;refine zN<|yH [(58,vP r01 0),(59,vS (some ⟨b10,0,none⟩) ([0,1]:List Int) 2)] ?_;have hle:=iS imm1;have h42:=h42.mono le1;refine sD [hB r01 (cRd y23 p18 c18)] (hB b7 [vS (some ⟨b5,0,none⟩) ([x1]:List zA) 1,vS (some ⟨b6,0,none⟩) ([x2]:List zA) 1]::hO zA (vS (some ⟨b6,0,none⟩) ([x2]:List zA) 1) (cAff x2 p8 c8)::hB b zTwo::hf) (xF y23 ([0,1]:List Int) _ hy15 h42 h59) ?_;rintro imm031 hs2 v2 k2 le29 - ⟨v020,kk7,rfl,rfl,rfl,h61⟩ -;have hle:=hle.trans le29;obtain ⟨v021,rfl,h62⟩:=yI h61;obtain ⟨p27,c27,rfl⟩:=h62.form;exact zZ (hx:=[hB r01 (cRd y30 p27 c27)]) rfl hle rfl (zM rfl) ⟨_,_,rfl,rfl,h62⟩
         · intro imm1 hf le1;refine zG ?_;rintro _ _ ⟨p27,c27,rfl,rfl,h62⟩;refine zN<|yH [(60,vI y29)] ?_;have hle:=iS imm1;refine yR (vE y29 _ hy16 ) ?_;rintro imm032 hs2 v2 k2 le30 - ⟨p28,c28,cs11,rfl,rfl,h63⟩ -;have hle:=hle.trans le30;exact zZ (hx:=[hO Int (vS p28 y31.Coefs c28) cs11]) rfl hle rfl (zM rfl) ⟨_,_,_,rfl,rfl,h63⟩
         · intro imm1 hf le1;refine zG ?_;rintro _ _ ⟨p28,c28,cs11,rfl,rfl,h63⟩;refine zN<|yH [(61,vA (cAff y31 p28 c28))] ?_;have hle:=iS imm1;refine yL 0 rfl ?_;intro imm033 le31 hl011;have h64:=SL.of_frozen hl011 le31 h63;have hle:=hle.trans le31;refine xQ (cAff y31 p28 c28) zA ?_;intro b11 hb11;have h65:RL imm033 (cAff y31 p28 c28) ([y31]:List zA):=⟨(cAff y31 p28 c28),_,rfl,rfl,(yP ⟨_,rfl,h64⟩),rfl⟩;refine yL 0 rfl ?_;intro imm034 le32 hl012;have h66:=SL.of_frozen hl012 le32 h65;have hle:=hle.trans le32;exact zZ (hx:=[]) rfl hle rfl (zM rfl) ⟨_,rfl,rfl,h66⟩
         intro imm1 hf le1;refine zG ?_;rintro _ _ ⟨rfl,rfl⟩;refine zG ?_;rintro _ _ ⟨b11,rfl,rfl,h66⟩;refine zG ?_;rintro _ _ rfl;refine zN<|yH [(57,vS (some ⟨b5,0,none⟩) ([x1]:List zA) 1),(62,vS (some ⟨b11,0,none⟩) ([y31]:List zA) 1)] ?_;have hle:=iS imm1;have h38:=iM le1 h38;obtain ⟨ccs1,k02,k03⟩:=h66;have h66:SL imm1 (vS (some ⟨b11,0,none⟩) ([y31]:List zA) 1) ([y31]:List zA):=⟨_,k02,k03⟩;refine qI 66 2 0 rfl rfl rfl h38 (.inl k02) k03 hy17 ?_;intro p29 c29 cs12 h67;exact uB (hs':=(hO zA (vS p29 l1 c29) cs12::hB b7 [vS (some ⟨b5,0,none⟩) ([x1]:List zA) 1,vS (some ⟨b6,0,none⟩) ([x2]:List zA) 1]::hO zA (vS (some ⟨b6,0,none⟩) ([x2]:List zA) 1) (cAff x2 p8 c8)::hB b zTwo::hf)) rfl<|zZ (hx:=[hO zA (vS p29 l1 c29) cs12]) rfl hle rfl (zM rfl) ⟨_,_,_,rfl,rfl,h67⟩
       intro imm035 le33;refine zG ?_;rintro _ _ ⟨p27,c27,rfl,rfl,h62⟩;refine zG ?_;rintro _ _ ⟨p29,c29,cs12,rfl,rfl,h67⟩;refine zN<|yH [(4,vP b 0),(8,vP b7 0),(63,vS p29 l1 c29)] ?_;have hle:=hle.trans le33;exact yK 9 [] [(64,vP b7 0)]<|xJ 2 [vS p29 l1 c29,vS (some ⟨b6,0,none⟩) ([x2]:List zA) 1] [hO zA (vS p29 l1 c29) cs12,hB r01 (cRd y30 p27 c27),hB b7 [vS p29 l1 c29,vS (some ⟨b6,0,none⟩) ([x2]:List zA) 1],hO zA (vS (some ⟨b6,0,none⟩) ([x2]:List zA) 1) (cAff x2 p8 c8),hB b zTwo] rfl rfl rfl rfl<|yN rfl<|wD (zK [1,2,3,0,4] rfl (by decide))<|yT [(4,vP b 0),(8,vP b7 0)]<|yB ⟨_,_,_,_,_,_,_,(zD hM).symm,hle,h67,h62,rfl,rfl⟩
     intro hc4 hM;exact yE<|yT [(4,vP b 0),(8,vP b7 0)]<|yB ⟨_,_,_,_,_,_,_,(zD hM).symm,hle,h38,h42,rfl,rfl⟩
   rintro imm029 hs2 m2 ⟨Lo1,x7,p25,c25,cs10,p26,c26,heq3,le34,h56,h57,rfl,rfl⟩;subst o04;have h39:=iM le34 h39;have hle:=hle.trans le34;exact yT [(4,vP b 0),(8,vP b7 0)]<|yB ⟨_,_,_,_,_,_,_,_,_,_,_,(zD hMc4).symm,hle,h56,h39,h57,rfl,rfl⟩
 rintro imm022 hs2 m2 ⟨Lo,Hi,x6,p19,c19,cs6,p20,c20,cs7,p21,c21,heq4,le35,h43,h44,h45,rfl,rfl⟩;subst o03;refine zY<|zE<|zF<|zB<|yK 1 [1] [(65,vA [vS p19 Lo c19,vS p20 Hi c20])]<|xJ 4 [vS p19 Lo c19,vS p20 Hi c20] [hB r01 (cRd x6 p21 c21),hB b7 [vS p19 Lo c19,vS p20 Hi c20],hO zA (vS p20 Hi c20) cs7,hO zA (vS p19 Lo c19) cs6,hB b [vS p19 Lo c19,vS p20 Hi c20]] rfl rfl rfl rfl<|yN rfl<|zE<|yJ<|xI 3 rfl ?_;intro imm036 le36 hl013;have h68:=SL.of_frozen hl013 le36 h43;have h45:=h45.mono le36;have h44:=iM le36 h44;refine xI 2 rfl ?_;intro imm037 le37 hl014;have h69:=SL.of_frozen hl014 le37 h44;have h45:=h45.mono le37;have h68:=h68.mono le37;obtain rfl:=zD hMc3;exact yQ ⟨_,_,(.cell 2 rfl rfl (by kernel_rfl) ResV.nil),(zK [0] rfl (by decide)),⟨_,_,rfl,rfl,⟨_,rfl,(qY ⟨_,_,rfl,h68,h69⟩)⟩,(yS ⟨_,rfl,h45⟩)⟩⟩
def zC5 (b0:Nat) (r:(List zI)×zO):KT:=fun kk imm' hs' v=>
  ∃ v0 k0,hs'=[.blk b0 ⟨k0⟩]∧v=tupV [v0]∧SL imm' v0 r.1∧Rp.rep imm' k0 r.2
def rF (out:List zI) (i:Int) (x:zO):Option ((List zI×zO)):=do
 if (decide (i > 0)) then
  let (y4,y5)←nV x (out.length:Int)
  let out2←app 48 out ([y4]:List zI)
  rF out2 (W (i - 1)) y5
 else
  pure (out,x)
 partial_fixpoint
theorem zBi :∀ (out:List zI) (i:Int) (x:zO) (o:(List zI×zO)),rF out i x=some o→∀ {B}{imm0 imm:Imm}{Q}  {r01:Nat}{p2 c2 cs p3 c3},imm0.le imm→(RL imm cs out)→(S4 imm p3 x.b c3)→(∀ gl a w,¬Q (.goto gl) a w)→(∀ a w,¬Q .outgrown a w)→(∀ (imm':Imm) (out1:List zI) (x1:zO) (p4:Option Addr) (c4:Nat) (cs1:List Value) (p5:Option Addr) (c5:Nat),o=(out1,x1)→imm0.le imm'→(RL imm' cs1 out1)→(S4 imm' p5 x1.b c5)→T 21 B Q (.exit 0) imm' [hB r01 (cRd x1 p5 c5),hO zI (vS p4 out1 c4) cs1] [(3,vS p4 out1 c4)])→J Tryz.prog 21 B (nav (bodyOf Tryz.f116) [1,1,0,1,0]) Q imm [hB r01 (cRd x p3 c3),hO zI (vS p2 out c2) cs] [(0,vP r01 0),(3,vS p2 out c2),(4,vI i)]:=by
 refine rF.partial_correctness  _ ?_;intro self ih out i x o hM B imm0 imm Q r01 p2 c2 cs p3 c3 hle h7 h8 hg ho hx;refine xC hg ho<|zF<|zF<|zB<|yA [] [(10,.bool (decide (i > 0)))]<|zE<|yO hM ?_ ?_
 · intro hc hM;refine yE<|zE<|zF<|yC<|zB<|yK 4 [] [(13,vS p2 out c2),(14,vP r01 0),(16,vI (out.length:Int))] ?_;obtain ⟨⟨y4,y5⟩,hy1,hM⟩:=zC hM;refine sD [hB r01 (cRd x p3 c3)] [hO zI (vS p2 out c2) cs] (zDh x (out.length:Int) _ hy1 h8) ?_;rintro imm02 hs2 v2 k2 le2 - ⟨v02,kk1,rfl,rfl,⟨cs2,rfl,h11⟩,h12⟩ -;have h7:=iM le2 h7;have hle:=hle.trans le2;obtain ⟨v03,v04,rfl,h13,h14⟩:=uJ h11;obtain ⟨p6,c6,rfl⟩:=h13.form;obtain ⟨p7,c7,rfl⟩:=h14.form;obtain ⟨v05,rfl,h15⟩:=yI h12;obtain ⟨p8,c8,rfl⟩:=h15.form;refine xQ (cLoop y4 p6 c6 p7 c7) zI ?_;intro b2 hb2;have h16:RL imm02 (cLoop y4 p6 c6 p7 c7) ([y4]:List zI):=⟨(cLoop y4 p6 c6 p7 c7),_,rfl,rfl,(qY ⟨_,_,rfl,h13,h14⟩),rfl⟩;obtain ⟨out2,hy2,hM⟩:=zC hM;refine qI 150 2 2 rfl rfl rfl h7 (.inr ⟨0,rfl⟩) h16 hy2 ?_;intro p9 c9 cs3 h17;exact rX (zK [1,2] (hs':=[hB r01 (cRd y5 p8 c8),hO zI (vS p9 out2 c9) cs3]) rfl (by decide))<|yA [] [(3,vS p9 out2 c9)]<|zY<|zE<|zB<|yA [] [(4,vI (W (i - 1)))]<|xD<|vQ [(0,vP r01 0),(3,vS p9 out2 c9),(4,vI (W (i - 1)))]<|ih out2 (W (i - 1)) y5 _ hM hle h17 h15 hg ho hx
 intro hc hM;exact xA<|zS<|zS<|yT [(3,vS p2 out c2)]<|hx _ _ _ _ _ _ _ _ (zD hM).symm hle h7 h8
def nW (r0:zO):Option ((List zI)×zO):=do
 let (y1,y2)←yV r0 ([2,1,2,3]:List Int)
 let (out1,x1)←rF ([]:List zI) y1 y2
 pure (out1,x1)
theorem zDi:∀ (r0:zO) r,nW r0=some r→∀ {imm:Imm}{r01:Nat}{p c},(S4 imm p r0.b c)→Ret Tryz.prog 116 [vP r01 0] imm [hB r01 (cRd r0 p c)] (zC5 r01 r):=by
 intro r0 r hM imm r01 p c h;unfold nW at hM;refine yG (fn:=Tryz.f116) (c:=(bodyOf Tryz.f116)) Tryz.func116 rfl rfl ?_;rintro B - -;refine zF<|zB<|yA [] []<|zE<|zF<|zB<|xQ [] zI ?_;intro b hb;have h1:RL imm [] ([]:List zI):=rfl;refine yA [] [(3,vS (some ⟨b,0,none⟩) ([]:List zI) 0)]<|zE<|zF<|zF<|zB<|yK 1 [] [(6,vP r01 0)]<|xQ [vI 2,vI 1,vI 2,vI 3] Int ?_;intro b1 hb1;have h2:RL imm [vI 2,vI 1,vI 2,vI 3] ([2,1,2,3]:List Int):=⟨[vI 2],_,rfl,rfl,rfl,⟨[vI 1],_,rfl,rfl,rfl,⟨[vI 2],_,rfl,rfl,rfl,⟨[vI 3],_,rfl,rfl,rfl,rfl⟩⟩⟩⟩;refine yL 0 rfl ?_;intro imm0 le hl0;have h3:=SL.of_frozen hl0 le h2;have h1:=iM le h1;have h:=h.mono le;refine rX (zK [1,0] (hs':=[hB r01 (cRd r0 p c),hO zI (vS (some ⟨b,0,none⟩) ([]:List zI) 0) []]) rfl (by decide)) ?_;obtain ⟨⟨y1,y2⟩,hy,hM⟩:=zC hM;refine sD [hB r01 (cRd r0 p c)] [hO zI (vS (some ⟨b,0,none⟩) ([]:List zI) 0) []] (xF r0 ([2,1,2,3]:List Int) _ hy h h3) ?_;rintro imm01 hs2 v2 k2 le1 - ⟨v0,kk,rfl,rfl,rfl,h5⟩ -;have h1:=iM le1 h1;obtain ⟨v01,rfl,h6⟩:=yI h5;obtain ⟨p1,c1,rfl⟩:=h6.form;refine yA [] [(4,vI y1)]<|zE<|yC<|vQ [(0,vP r01 0),(3,vS (some ⟨b,0,none⟩) ([]:List zI) 0),(4,vI y1)] ?_;obtain ⟨o0,ho0,hMl⟩:=zC hM;refine zBi ([]:List zI) y1 y2 o0 ho0 iR h1 h6 (fun _ _ _ h=>h) (fun _ _ h=>h) ?_;intro imm03 out1 x1 p4 c4 cs1 p5 c5 heq le3 h9 h10;subst o0;refine yD<|zE<|zF<|zB<|yA [] [(2,vS p4 out1 c4)]<|zE<|yJ<|xI 1 rfl ?_;intro imm04 le4 hl01;have h18:=SL.of_frozen hl01 le4 h9;have h10:=h10.mono le4;obtain rfl:=zD hMl;exact yQ ⟨_,_,(.tmp rfl ResV.nil),(zK [0] rfl (by decide)),⟨_,_,rfl,rfl,h18,(yS ⟨_,rfl,h10⟩)⟩⟩
def zC6 (b0:Nat) (r:zL×zO):KT:=fun kk imm' hs' v=>
  ∃ v0 k0,hs'=[.blk b0 ⟨k0⟩]∧v=tupV [v0]∧(∃ cs,v0=.agg ⟨cs⟩∧Rp.rep imm' cs r.1)∧Rp.rep imm' k0 r.2
def rG (depth:Int) (n0:Int) (i:Int) (Subs:List zA) (x:zO):Option ((List zA×zO)):=do
 if (decide (i < n0)) then
  let (y4,y5)←yV x ([0,1,0,2]:List Int)
  let y6←wB y4
  let (t32,x2)←(do
    if (decide (depth > 0)) then
     let (y8,y9)←yW y5 5
     pure ((decide (y8 > 0)),y9)
    else
     pure (false,y5)
      : Option (Bool×zO))
  let (x3,x4)←(do
    if t32 then
     let (y11,y12)←yW x2 depth
     let y13←qM y11
     let (y15,y16)←yV y12 ([1,1,1,2,(-1)]:List Int)
     let (y18,y19)←yV y16 ([0,1,0,0,2]:List Int)
     let y20←wB y18
     let y21←qR y13 y15 y20 1
     pure (y21,y19)
    else
     pure ((zA.mk y6.Coefs y6.Const),x2)
      : Option (zA×zO))
  let l←app 32 Subs ([x3]:List zA)
  rG depth n0 (W (i + 1)) l x4
 else
  pure (Subs,x)
 partial_fixpoint
theorem zBj (depth:Int) (n0:Int):∀ (i:Int) (Subs:List zA) (x:zO) (o:(List zA×zO)),rG depth n0 i Subs x=some o→∀ {B}{imm0 imm:Imm}{Q}{y1:Str}{r01:Nat}{b:Nat}{b2:Nat}{p2 c2 cs p3 c3},imm0.le imm→(RL imm cs Subs)→(S4 imm p3 x.b c3)→(∀ gl a w,¬Q (.goto gl) a w)→(∀ a w,¬Q .outgrown a w)→(∀ (imm':Imm) (Subs1:List zA) (x1:zO) (p4:Option Addr) (c4:Nat) (cs1:List Value) (p5:Option Addr) (c5:Nat),o=(Subs1,x1)→imm0.le imm'→(RL imm' cs1 Subs1)→(S4 imm' p5 x1.b c5)→T 53 B Q (.exit 0) imm' [hO zA (vS p4 Subs1 c4) cs1,hB b2 [vT y1.l,vS p4 Subs1 c4],hB r01 (cRd x1 p5 c5),hB b [vT ([]),z0]] [(4,vP b 0),(5,vP b2 0)])→J Tryz.prog 53 B (nav (bodyOf Tryz.f142) [1,1,1,1,0,1,0]) Q imm [hO zA (vS p2 Subs c2) cs,hB b2 [vT y1.l,vS p2 Subs c2],hB r01 (cRd x p3 c3),hB b [vT ([]),z0]] [(0,vP r01 0),(1,vI depth),(4,vP b 0),(5,vP b2 0),(6,vI n0),(7,vI i)]:=by
 refine rG.partial_correctness depth n0 _ ?_;intro self ih i Subs x o hM B imm0 imm Q y1 r01 b b2 p2 c2 cs p3 c3 hle h7 h8 hg ho hx;refine xC hg ho<|zF<|zF<|zB<|yA [] [(19,.bool (decide (i < n0)))]<|zE<|yO hM ?_ ?_
 · intro hc1 hM;refine yE<|zE<|zF<|yC<|zF<|zB<|yK 1 [] [(22,vP r01 0)]<|xQ [vI 0,vI 1,vI 0,vI 2] Int ?_;intro b3 hb3;have h11:RL imm [vI 0,vI 1,vI 0,vI 2] ([0,1,0,2]:List Int):=⟨[vI 0],_,rfl,rfl,rfl,⟨[vI 1],_,rfl,rfl,rfl,⟨[vI 0],_,rfl,rfl,rfl,⟨[vI 2],_,rfl,rfl,rfl,rfl⟩⟩⟩⟩;refine yL 0 rfl ?_;intro imm03 le3 hl01;have h12:=SL.of_frozen hl01 le3 h11;have h7:=iM le3 h7;have h8:=h8.mono le3;have hle:=hle.trans le3;refine rX (zK [2,0,1,3] (hs':=[hB r01 (cRd x p3 c3),hO zA (vS p2 Subs c2) cs,hB b2 [vT y1.l,vS p2 Subs c2],hB b [vT ([]),z0]]) rfl (by decide)) ?_;obtain ⟨⟨y4,y5⟩,hy1,hM⟩:=zC hM;refine sD [hB r01 (cRd x p3 c3)] [hO zA (vS p2 Subs c2) cs,hB b2 [vT y1.l,vS p2 Subs c2],hB b [vT ([]),z0]] (xF x ([0,1,0,2]:List Int) _ hy1 h8 h12) ?_;rintro imm04 hs2 v2 k2 le4 - ⟨v02,kk1,rfl,rfl,rfl,h14⟩ -;have h7:=iM le4 h7;have hle:=hle.trans le4;obtain ⟨v03,rfl,h15⟩:=yI h14;obtain ⟨p6,c6,rfl⟩:=h15.form;obtain ⟨y6,hy2,hM⟩:=zC hM;refine yR (vE y4 _ hy2 ) ?_;rintro imm05 hs2 v2 k2 le5 - ⟨p7,c7,cs2,rfl,rfl,h16⟩ -;have h15:=h15.mono le5;have h7:=iM le5 h7;have hle:=hle.trans le5;refine uD [z0,vI 0] ?_;intro b4 hb4;refine xJ 0 (cAff y6 p7 c7) [hB b4 (cAff y6 p7 c7),hO Int (vS p7 y6.Coefs c7) cs2,hB r01 (cRd y5 p6 c6),hO zA (vS p2 Subs c2) cs,hB b2 [vT y1.l,vS p2 Subs c2],hB b [vT ([]),z0]] rfl rfl rfl rfl<|yN rfl<|zE<|zF<|zF ?_;obtain ⟨o01,ho01,hMc1⟩:=zC hM;refine yU (fun imm' hs' m'=>∃ (t32:Bool) (x2:zO) (p8:Option Addr) (c8:Nat),o01=(t32,x2)∧imm05.le imm'∧(S4 imm' p8 x2.b c8)∧hs'=[hB b4 (cAff y6 p7 c7),hO Int (vS p7 y6.Coefs c7) cs2,hB r01 (cRd x2 p8 c8),hO zA (vS p2 Subs c2) cs,hB b2 [vT y1.l,vS p2 Subs c2],hB b [vT ([]),z0]]∧m'=[(0,vP r01 0),(1,vI depth),(4,vP b 0),(5,vP b2 0),(6,vI n0),(7,vI i),(8,vP b4 0),(32,.bool t32)]) ?_ ?_
   · have hle:=iS imm05;refine zB<|yK 3 [] [(28,.bool (decide (depth > 0)))] ?_;cases hc2:(decide (depth > 0)) with
     | true =>
      have hM0:=zW hc2 ho01
      try rw [hc2]
      refine yK 4 [] [(29,vP r01 0)]<|rX (zK [2,0,1,3,4,5] (hs':=[hB r01 (cRd y5 p6 c6),hB b4 (cAff y6 p7 c7),hO Int (vS p7 y6.Coefs c7) cs2,hO zA (vS p2 Subs c2) cs,hB b2 [vT y1.l,vS p2 Subs c2],hB b [vT ([]),z0]]) rfl (by decide)) ?_;obtain ⟨⟨y8,y9⟩,hy3,hM⟩:=zC hM0;refine sD [hB r01 (cRd y5 p6 c6)] [hB b4 (cAff y6 p7 c7),hO Int (vS p7 y6.Coefs c7) cs2,hO zA (vS p2 Subs c2) cs,hB b2 [vT y1.l,vS p2 Subs c2],hB b [vT ([]),z0]] (xL y5 5 _ hy3 h15) ?_;rintro imm07 hs2 v2 k2 le6 - ⟨v04,kk2,rfl,rfl,rfl,h19⟩ -;have hle:=hle.trans le6;obtain ⟨v05,rfl,h20⟩:=yI h19;obtain ⟨p9,c9,rfl⟩:=h20.form;exact yA [] [(32,.bool (decide (y8 > 0)))]<|wD (zK [1,2,0,3,4,5] rfl (by decide))<|yT [(0,vP r01 0),(1,vI depth),(4,vP b 0),(5,vP b2 0),(6,vI n0),(7,vI i),(8,vP b4 0),(32,.bool (decide (y8 > 0)))]<|yB ⟨_,_,_,_,(zD hM).symm,hle,h20,rfl,rfl⟩
     | false =>
      have hM01:=zU hc2 ho01
      try rw [hc2]
      exact yA [] [(32,.bool false)]<|yT [(0,vP r01 0),(1,vI depth),(4,vP b 0),(5,vP b2 0),(6,vI n0),(7,vI i),(8,vP b4 0),(32,.bool false)]<|yB ⟨_,_,_,_,(zD hM01).symm,hle,h15,rfl,rfl⟩
   rintro imm06 hs2 m2 ⟨t32,x2,p8,c8,heq1,le7,h17,rfl,rfl⟩;subst o01;have h16:=iM le7 h16;have h7:=iM le7 h7;have hle:=hle.trans le7;refine zE<|qW 1 rfl ?_;intro imm08 le8 hl02;have h21:=SL.of_frozen hl02 le8 h16;have h17:=h17.mono le8;have h7:=iM le8 h7;have hle:=hle.trans le8;obtain ⟨o02,ho02,hMc2⟩:=zC hMc1;refine yU (fun imm' hs' m'=>∃ (x3:zA) (x4:zO) (p10:Option Addr) (c10:Nat) (p11:Option Addr) (c11:Nat),o02=(x3,x4)∧imm08.le imm'∧(S4 imm' p10 x3.Coefs c10)∧(S4 imm' p11 x4.b c11)∧hs'=[hB b4 (cAff x3 p10 c10),hB r01 (cRd x4 p11 c11),hO zA (vS p2 Subs c2) cs,hB b2 [vT y1.l,vS p2 Subs c2],hB b [vT ([]),z0]]∧m'=[(0,vP r01 0),(1,vI depth),(4,vP b 0),(5,vP b2 0),(6,vI n0),(7,vI i),(8,vP b4 0)]) ?_ ?_
   · have hle:=iS imm08;refine yO ho02 ?_ ?_
     · intro hc3 hM;refine zF<|zB<|yK 2 [] [(33,vP r01 0),(34,vI depth)]<|rX (zK [1,0,2,3,4] (hs':=[hB r01 (cRd x2 p8 c8),hB b4 (cAff y6 p7 c7),hO zA (vS p2 Subs c2) cs,hB b2 [vT y1.l,vS p2 Subs c2],hB b [vT ([]),z0]]) rfl (by decide)) ?_;obtain ⟨⟨y11,y12⟩,hy4,hM⟩:=zC hM;refine sD [hB r01 (cRd x2 p8 c8)] [hB b4 (cAff y6 p7 c7),hO zA (vS p2 Subs c2) cs,hB b2 [vT y1.l,vS p2 Subs c2],hB b [vT ([]),z0]] (xL x2 depth _ hy4 h17) ?_;rintro imm010 hs2 v2 k2 le9 - ⟨v06,kk3,rfl,rfl,rfl,h25⟩ -;have hle:=hle.trans le9;obtain ⟨v07,rfl,h26⟩:=yI h25;obtain ⟨p12,c12,rfl⟩:=h26.form;refine yA [] [(9,vI y11)]<|zE<|zB<|yK 1 [] [(36,vI y11)] ?_;obtain ⟨y13,hy5,hM⟩:=zC hM;refine yR (nU y11 _ hy5 ) ?_;rintro imm011 hs2 v2 k2 le10 - ⟨v08,rfl,rfl,⟨cs3,rfl,h27⟩⟩ -;have h26:=h26.mono le10;have hle:=hle.trans le10;obtain ⟨v09,rfl,h28⟩:=yM h27;obtain ⟨p13,c13,rfl⟩:=h28.form;refine yK 3 [] [(38,vP r01 0)]<|xQ [vI 1,vI 1,vI 1,vI 2,vI (-1)] Int ?_;intro b5 hb5;have h29:RL imm011 [vI 1,vI 1,vI 1,vI 2,vI (-1)] ([1,1,1,2,(-1)]:List Int):=⟨[vI 1],_,rfl,rfl,rfl,⟨[vI 1],_,rfl,rfl,rfl,⟨[vI 1],_,rfl,rfl,rfl,⟨[vI 2],_,rfl,rfl,rfl,⟨[vI (-1)],_,rfl,rfl,rfl,rfl⟩⟩⟩⟩⟩;refine yL 0 rfl ?_;intro imm012 le11 hl03;have h30:=SL.of_frozen hl03 le11 h29;have h28:=h28.mono le11;have h26:=h26.mono le11;have hle:=hle.trans le11;obtain ⟨⟨y15,y16⟩,hy6,hM⟩:=zC hM;refine sD [hB r01 (cRd y12 p12 c12)] [hB b4 (cAff y6 p7 c7),hO zA (vS p2 Subs c2) cs,hB b2 [vT y1.l,vS p2 Subs c2],hB b [vT ([]),z0]] (xF y12 ([1,1,1,2,(-1)]:List Int) _ hy6 h26 h30) ?_;rintro imm013 hs2 v2 k2 le12 - ⟨v010,kk4,rfl,rfl,rfl,h32⟩ -;have h28:=h28.mono le12;have hle:=hle.trans le12;obtain ⟨v011,rfl,h33⟩:=yI h32;obtain ⟨p14,c14,rfl⟩:=h33.form;refine yK 6 [] [(41,vP r01 0)]<|xQ [vI 0,vI 1,vI 0,vI 0,vI 2] Int ?_;intro b6 hb6;have h34:RL imm013 [vI 0,vI 1,vI 0,vI 0,vI 2] ([0,1,0,0,2]:List Int):=⟨[vI 0],_,rfl,rfl,rfl,⟨[vI 1],_,rfl,rfl,rfl,⟨[vI 0],_,rfl,rfl,rfl,⟨[vI 0],_,rfl,rfl,rfl,⟨[vI 2],_,rfl,rfl,rfl,rfl⟩⟩⟩⟩⟩;refine yL 0 rfl ?_;intro imm014 le13 hl04;have h35:=SL.of_frozen hl04 le13 h34;have h28:=h28.mono le13;have h33:=h33.mono le13;have hle:=hle.trans le13;obtain ⟨⟨y18,y19⟩,hy7,hM⟩:=zC hM;refine sD [hB r01 (cRd y16 p14 c14)] [hB b4 (cAff y6 p7 c7),hO zA (vS p2 Subs c2) cs,hB b2 [vT y1.l,vS p2 Subs c2],hB b [vT ([]),z0]] (xF y16 ([0,1,0,0,2]:List Int) _ hy7 h33 h35) ?_;rintro imm015 hs2 v2 k2 le14 - ⟨v012,kk5,rfl,rfl,rfl,h37⟩ -;have h28:=h28.mono le14;have hle:=hle.trans le14;obtain ⟨v013,rfl,h38⟩:=yI h37;obtain ⟨p15,c15,rfl⟩:=h38.form;obtain ⟨y20,hy8,hM⟩:=zC hM;refine yR (vE y18 _ hy8 ) ?_;rintro imm016 hs2 v2 k2 le15 - ⟨p16,c16,cs4,rfl,rfl,h39⟩ -;have h28:=h28.mono le15;have h38:=h38.mono le15;have hle:=hle.trans le15;refine yL 0 rfl ?_;intro imm017 le16 hl05;have h40:=SL.of_frozen hl05 le16 h39;have h28:=h28.mono le16;have h38:=h38.mono le16;have hle:=hle.trans le16;obtain ⟨y21,hy9,hM⟩:=zC hM;refine yR (gJ y13 y15 y20 1 _ hy9 h28 h40) ?_;rintro imm018 hs2 v2 k2 le17 - ⟨v014,rfl,rfl,⟨cs5,rfl,h41⟩⟩ -;have h38:=h38.mono le17;have hle:=hle.trans le17;obtain ⟨v015,rfl,h42⟩:=yM h41;obtain ⟨p17,c17,rfl⟩:=h42.form;exact xJ 1 (cAff y21 p17 c17) [hB r01 (cRd y19 p15 c15),hB b4 (cAff y21 p17 c17),hO zA (vS p2 Subs c2) cs,hB b2 [vT y1.l,vS p2 Subs c2],hB b [vT ([]),z0]] rfl rfl rfl rfl<|yN rfl<|wD (zK [1,0,2,3,4] rfl (by decide))<|yT [(0,vP r01 0),(1,vI depth),(4,vP b 0),(5,vP b2 0),(6,vI n0),(7,vI i),(8,vP b4 0)]<|yB ⟨_,_,_,_,_,_,(zD hM).symm,hle,h42,h38,rfl,rfl⟩
     intro hc3 hM;exact yE<|yT [(0,vP r01 0),(1,vI depth),(4,vP b 0),(5,vP b2 0),(6,vI n0),(7,vI i),(8,vP b4 0)]<|yB ⟨_,_,_,_,_,_,(zD hM).symm,hle,h21,h17,rfl,rfl⟩
   rintro imm09 hs2 m2 ⟨x3,x4,p10,c10,p11,c11,heq2,le18,h22,h23,rfl,rfl⟩;subst o02;have h7:=iM le18 h7;have hle:=hle.trans le18;refine zE<|zB<|yK 3 [3,0] [(47,vS p2 Subs c2),(48,vA (cAff x3 p10 c10))]<|xQ (cAff x3 p10 c10) zA ?_;intro b7 hb7;have h43:RL imm09 (cAff x3 p10 c10) ([x3]:List zA):=⟨(cAff x3 p10 c10),_,rfl,rfl,(yP ⟨_,rfl,h22⟩),rfl⟩;obtain ⟨l,hy10,hM⟩:=zC hMc2;refine qI 66 2 3 rfl rfl rfl h7 (.inr ⟨0,rfl⟩) h43 hy10 ?_;intro p18 c18 cs6 h44;exact rX (zK [1,2,3,4,5] (hs':=[hB b4 (cAff x3 p10 c10),hB r01 (cRd x4 p11 c11),hO zA (vS p18 l c18) cs6,hB b2 [vT y1.l,vS p2 Subs c2],hB b [vT ([]),z0]]) rfl (by decide))<|yK 6 [] [(51,vP b2 1)]<|xJ 3 [vT y1.l,vS p18 l c18] [hB b4 (cAff x3 p10 c10),hB r01 (cRd x4 p11 c11),hO zA (vS p18 l c18) cs6,hB b2 [vT y1.l,vS p18 l c18],hB b [vT ([]),z0]] rfl rfl rfl rfl<|yN rfl<|zY<|zE<|zB<|yA [] [(7,vI (W (i + 1)))]<|xD<|qA (zK [2,3,1,4] rfl (by decide))<|vQ [(0,vP r01 0),(1,vI depth),(4,vP b 0),(5,vP b2 0),(6,vI n0),(7,vI (W (i + 1)))]<|ih (W (i + 1)) l x4 _ hM hle h44 h23 hg ho hx
 intro hc1 hM;exact xA<|zS<|zS<|yT [(4,vP b 0),(5,vP b2 0)]<|hx _ _ _ _ _ _ _ _ (zD hM).symm hle h7 h8
def oB (r0:zO) (depth:Int):Option (zL×zO):=do
 let (y1,y2)←qB r0 ([(⟨[65]⟩:Str),(⟨[66]⟩:Str),(⟨[65]⟩:Str),(⟨[67]⟩:Str)]:List Str)
 let n0←(do
   if (y1.l == ([66]:List UInt8)) then
    pure (id 2)
   else
    pure (id 1)
     : Option Int)
 let (Subs1,x1)←rG depth n0 0 ([]:List zA) y2
 pure ((zL.mk y1 Subs1),x1)
theorem dV:∀ (r0:zO) (depth:Int) r,oB r0 depth=some r→∀ {imm:Imm}{r01:Nat}{p c},(S4 imm p r0.b c)→Ret Tryz.prog 142 [vP r01 0,vI depth] imm [hB r01 (cRd r0 p c)] (zC6 r01 r):=by
 intro r0 depth r hM imm r01 p c h;unfold oB at hM;refine yG (fn:=Tryz.f142) (c:=(bodyOf Tryz.f142)) Tryz.func142 rfl rfl ?_;rintro B - -;have hle:=iS imm;refine zF<|zB<|uD [vT ([]),z0] ?_;intro b hb;refine yN rfl<|zE<|zF<|zB<|yK 1 [] [(10,vP r01 0)]<|xQ [vT ([65]),vT ([66]),vT ([65]),vT ([67])] Str ?_;intro b1 hb1;have h1:RL imm [vT ([65]),vT ([66]),vT ([65]),vT ([67])] ([(⟨[65]⟩:Str),(⟨[66]⟩:Str),(⟨[65]⟩:Str),(⟨[67]⟩:Str)]:List Str):=⟨[vT ([65])],_,rfl,rfl,rfl,⟨[vT ([66])],_,rfl,rfl,rfl,⟨[vT ([65])],_,rfl,rfl,rfl,⟨[vT ([67])],_,rfl,rfl,rfl,rfl⟩⟩⟩⟩;refine yL 0 rfl ?_;intro imm0 le hl0;have h2:=SL.of_frozen hl0 le h1;have h:=h.mono le;have hle:=hle.trans le;refine rX (zK [1,0] (hs':=[hB r01 (cRd r0 p c),hB b [vT ([]),z0]]) rfl (by decide)) ?_;obtain ⟨⟨y1,y2⟩,hy,hM⟩:=zC hM;refine sD [hB r01 (cRd r0 p c)] [hB b [vT ([]),z0]] (mV r0 ([(⟨[65]⟩:Str),(⟨[66]⟩:Str),(⟨[65]⟩:Str),(⟨[67]⟩:Str)]:List Str) _ hy h h2) ?_;rintro imm01 hs2 v2 k2 le1 - ⟨v0,kk,rfl,rfl,rfl,h4⟩ -;have hle:=hle.trans le1;obtain ⟨v01,rfl,h5⟩:=yI h4;obtain ⟨p1,c1,rfl⟩:=h5.form;refine yK 4 [] [(13,vA [vT y1.l,z0])]<|uD [vT ([]),z0] ?_;intro b2 hb2;refine xJ 0 [vT y1.l,z0] [hB b2 [vT y1.l,z0],hB r01 (cRd y2 p1 c1),hB b [vT ([]),z0]] rfl rfl rfl rfl<|yN rfl<|zE<|zF<|zB<|yA [] [(6,vI 1)]<|zE<|zF<|zF<|zB<|yA [0] [(16,.bool (y1.l == ([66]:List UInt8)))]<|zE ?_;obtain ⟨o0,ho0,hMc⟩:=zC hM;refine yU (fun imm' hs' m'=>∃ (n0:Int),o0=n0∧imm01.le imm'∧hs'=[hB b2 [vT y1.l,z0],hB r01 (cRd y2 p1 c1),hB b [vT ([]),z0]]∧m'=[(0,vP r01 0),(1,vI depth),(4,vP b 0),(5,vP b2 0),(6,vI n0)]) ?_ ?_
 · have hle:=iS imm01;refine yO ho0 ?_ ?_
   · intro hc hM;exact zB<|yA [] [(6,vI 2)]<|yT [(0,vP r01 0),(1,vI depth),(4,vP b 0),(5,vP b2 0),(6,vI 2)]<|yB ⟨_,(zD hM).symm,hle,rfl,rfl⟩
   intro hc hM;exact yE<|yT [(0,vP r01 0),(1,vI depth),(4,vP b 0),(5,vP b2 0),(6,vI 1)]<|yB ⟨_,(zD hM).symm,hle,rfl,rfl⟩
 rintro imm02 hs2 m2 ⟨n0,heq,le2,rfl,rfl⟩;subst o0;have h5:=h5.mono le2;refine zE<|zF<|zF<|zB<|yA [] [(7,vI 0)]<|zE<|yC<|vQ [(0,vP r01 0),(1,vI depth),(4,vP b 0),(5,vP b2 0),(6,vI n0),(7,vI 0)]<|qA (uI (Rp.sz zA)) ?_;have h6:RL imm02 [] ([]:List zA):=RepL.nil;obtain ⟨o03,ho03,hMl⟩:=zC hMc;refine zBj depth n0 0 ([]:List zA) y2 o03 ho03 iR h6 h5 (fun _ _ _ h=>h) (fun _ _ h=>h) ?_;intro imm019 Subs1 x1 p4 c4 cs1 p5 c5 heq3 le19 h9 h10;subst o03;refine yD<|zE<|zF<|zB<|yK 1 [1] [(52,vA [vT y1.l,vS p4 Subs1 c4])]<|xJ 3 [vT y1.l,vS p4 Subs1 c4] [hO zA (vS p4 Subs1 c4) cs1,hB b2 [vT y1.l,vS p4 Subs1 c4],hB r01 (cRd x1 p5 c5),hB b [vT y1.l,vS p4 Subs1 c4]] rfl rfl rfl rfl<|yN rfl<|zE<|yJ<|xI 0 rfl ?_;intro imm020 le20 hl06;have h45:=SL.of_frozen hl06 le20 h9;have h10:=h10.mono le20;obtain rfl:=zD hMl;exact yQ ⟨_,_,(.cell 2 rfl rfl (by kernel_rfl) ResV.nil),(zK [1] rfl (by decide)),⟨_,_,rfl,rfl,⟨_,rfl,(qQ ⟨_,rfl,h45⟩)⟩,(yS ⟨_,rfl,h10⟩)⟩⟩
def zC7 (b0:Nat) (r:zA×zO):KT:=fun kk imm' hs' v=>
  ∃ v0 k0,hs'=[.blk b0 ⟨k0⟩]∧v=tupV [v0]∧(∃ cs,v0=.agg ⟨cs⟩∧Rp.rep imm' cs r.1)∧Rp.rep imm' k0 r.2
def rH (depth:Int) (i:Int) (Coefs:List Int) (x:zO):Option ((List Int×zO)):=do
 if (decide (i < depth)) then
  let (y5,y6)←yV x ([0,1,0,(-1),2,0,9]:List Int)
  let x2←idx Coefs i
  let l←pure (Coefs.set i.toNat y5)
  rH depth (W (i + 1)) l y6
 else
  pure (Coefs,x)
 partial_fixpoint
theorem zBk (depth:Int):∀ (i:Int) (Coefs:List Int) (x:zO) (o:(List Int×zO)),rH depth i Coefs x=some o→∀ {B}{imm0 imm:Imm}{Q}{y3:zA}{r01:Nat}{b:Nat}{b2:Nat}{p3 c3 cs1 p4 c4},imm0.le imm→(RL imm cs1 Coefs)→(S4 imm p4 x.b c4)→(∀ gl a w,¬Q (.goto gl) a w)→(∀ a w,¬Q .outgrown a w)→(∀ (imm':Imm) (Coefs1:List Int) (x1:zO) (p5:Option Addr) (c5:Nat) (cs2:List Value) (p6:Option Addr) (c6:Nat),o=(Coefs1,x1)→imm0.le imm'→(RL imm' cs2 Coefs1)→(S4 imm' p6 x1.b c6)→T 24 B Q (.exit 0) imm' [hB b2 [vS p5 Coefs1 c5,vI y3.Const],hO Int (vS p5 Coefs1 c5) cs2,hB r01 (cRd x1 p6 c6),hB b [z0,vI 0]] [(4,vP b 0),(5,vP b2 0)])→J Tryz.prog 24 B (nav (bodyOf Tryz.f158) [1,1,0,1,0]) Q imm [hB b2 [vS p3 Coefs c3,vI y3.Const],hO Int (vS p3 Coefs c3) cs1,hB r01 (cRd x p4 c4),hB b [z0,vI 0]] [(0,vP r01 0),(1,vI depth),(4,vP b 0),(5,vP b2 0),(6,vI i)]:=by
 refine rH.partial_correctness depth _ ?_;intro self ih i Coefs x o hM B imm0 imm Q y3 r01 b b2 p3 c3 cs1 p4 c4 hle h7 h8 hg ho hx;refine xC hg ho<|zF<|zF<|zB<|yA [] [(13,.bool (decide (i < depth)))]<|zE<|yO hM ?_ ?_
 · intro hc hM;refine yE<|zE<|zF<|yC ?_;obtain ⟨⟨y5,y6⟩,hy2,hM⟩:=zC hM;refine uA [.p (vP b2 0) [],.p (vS p3 Coefs c3) [0],.p (vI i) [],.p (vP r01 0) [],.x (fun imm' v hx=>∃ b3,v=vS (some ⟨b3,0,none⟩) ([0,1,0,(-1),2,0,9]:List Int) 7∧hx=[]∧(SL imm' (vS (some ⟨b3,0,none⟩) ([0,1,0,(-1),2,0,9]:List Int) 7) ([0,1,0,(-1),2,0,9]:List Int))),.x (fun imm' v hx=>∃ p7 c7,v=vI y5∧hx=[hB r01 (cRd y6 p7 c7)]∧(S4 imm' p7 y6.b c7))] [[],[(0,false)],[],[],[],[(3,false),(4,false),(8,true)]] [hB b2 [vS p3 Coefs c3,vI y3.Const],hO Int (vS p3 Coefs c3) cs1,hB b [z0,vI 0]] [[hB r01 (cRd x p4 c4)]] [(1,false),(2,false),(5,true)] (zK [0,1,3,2] rfl (by decide)) ?_ ?_
   · refine Op<|Op<|Op<|Op<|Ox ?_<|Ox ?_<|On
     · intro imm1 hf le1;refine zN<|yH [] ?_;have hle:=iS imm1;refine xQ [vI 0,vI 1,vI 0,vI (-1),vI 2,vI 0,vI 9] Int ?_;intro b3 hb3;have h11:RL imm1 [vI 0,vI 1,vI 0,vI (-1),vI 2,vI 0,vI 9] ([0,1,0,(-1),2,0,9]:List Int):=⟨[vI 0],_,rfl,rfl,rfl,⟨[vI 1],_,rfl,rfl,rfl,⟨[vI 0],_,rfl,rfl,rfl,⟨[vI (-1)],_,rfl,rfl,rfl,⟨[vI 2],_,rfl,rfl,rfl,⟨[vI 0],_,rfl,rfl,rfl,⟨[vI 9],_,rfl,rfl,rfl,rfl⟩⟩⟩⟩⟩⟩⟩;refine yL 0 rfl ?_;intro imm03 le3 hl01;have h12:=SL.of_frozen hl01 le3 h11;have hle:=hle.trans le3;exact zZ (hx:=[]) rfl hle rfl (zM rfl) ⟨_,rfl,rfl,h12⟩
     intro imm1 hf le1;refine zG ?_;rintro _ _ ⟨rfl,rfl⟩;refine zG ?_;rintro _ _ ⟨b3,rfl,rfl,h12⟩;refine zG ?_;rintro _ _ rfl;refine zN<|yH [(19,vP r01 0),(20,vS (some ⟨b3,0,none⟩) ([0,1,0,(-1),2,0,9]:List Int) 7)] ?_;have hle:=iS imm1;have h8:=h8.mono le1;refine sD [hB r01 (cRd x p4 c4)] (hB b2 [vS p3 Coefs c3,vI y3.Const]::hO Int (vS p3 Coefs c3) cs1::hB b [z0,vI 0]::hf) (xF x ([0,1,0,(-1),2,0,9]:List Int) _ hy2 h8 h12) ?_;rintro imm04 hs2 v2 k2 le4 - ⟨v02,kk1,rfl,rfl,rfl,h14⟩ -;have hle:=hle.trans le4;obtain ⟨v03,rfl,h15⟩:=yI h14;obtain ⟨p7,c7,rfl⟩:=h15.form;exact zZ (hx:=[hB r01 (cRd y6 p7 c7)]) rfl hle rfl (zM rfl) ⟨_,_,rfl,rfl,h15⟩
   intro imm05 le5;refine zG ?_;rintro _ _ ⟨rfl,rfl⟩;refine zG ?_;rintro _ _ ⟨rfl,rfl⟩;refine zG ?_;rintro _ _ ⟨p7,c7,rfl,rfl,h15⟩;refine zN<|yH [(0,vP r01 0),(1,vI depth),(4,vP b 0),(5,vP b2 0),(6,vI i),(17,vS p3 Coefs c3),(18,vI i),(21,vI y5)] ?_;have h7:=iM le5 h7;have hle:=hle.trans le5;obtain ⟨x2,hy3,hM⟩:=zC hM;refine nK 2 rfl rfl rfl h7 hy3 ?_;intro ad ccs hat hcc hrep;obtain rfl:=hrep;obtain ⟨l,hy4,hM⟩:=zC hM;refine qX (c:=[vI y5]) (x':=y5) 2 0 rfl rfl rfl hat rfl rfl hcc (by kernel_rfl) (by kernel_rfl) (by kernel_rfl) h7 hy3 (by kernel_rfl) rfl ?_;rw [show Coefs.set i.toNat y5=l from zD hy4];intro cs3 h16 hl02;exact kJ (m':=[(0,vP r01 0),(1,vI depth),(4,vP b 0),(5,vP b2 0),(6,vI i),(17,vS p3 Coefs c3),(18,vI i),(21,vI y5)]) ⟨rfl,rfl,rfl,rfl,rfl,rfl,rfl,rfl,trivial⟩<|zCM (hs':=[hB r01 (cRd y6 p7 c7),hB b2 [vS p3 l c3,vI y3.Const],hO Int (vS p3 l c3) cs3,hB b [z0,vI 0]]) (m':=[(0,vP r01 0),(1,vI depth),(4,vP b 0),(5,vP b2 0),(6,vI i),(17,vS p3 l c3),(18,vI i),(21,vI y5)]) (by first | rfl | simp only [vS,hl02,List.nil_append,List.cons_append,List.set_cons_zero,List.set_cons_succ,List.eraseIdx_cons_zero,List.eraseIdx_cons_succ]) (by first | rfl | simp only [vS,hl02])<|yN rfl<|zY<|zE<|zB<|yA [] [(6,vI (W (i + 1)))]<|xD<|qA (zK [1,2,0,3] rfl (by decide))<|vQ [(0,vP r01 0),(1,vI depth),(4,vP b 0),(5,vP b2 0),(6,vI (W (i + 1)))]<|ih (W (i + 1)) l y6 _ hM hle h16 h15 hg ho hx
 intro hc hM;exact xA<|zS<|zS<|yT [(4,vP b 0),(5,vP b2 0)]<|hx _ _ _ _ _ _ _ _ (zD hM).symm hle h7 h8
def nE (r0:zO) (depth:Int):Option (zA×zO):=do
 let (y1,y2)←yV r0 ([0,1,(-1),2,0,5,(-9),99]:List Int)
 let y3←wB y1
 let (Coefs1,x1)←rH depth 0 y3.Coefs y2
 pure ((zA.mk Coefs1 y3.Const),x1)
theorem zDj:∀ (r0:zO) (depth:Int) r,nE r0 depth=some r→∀ {imm:Imm}{r01:Nat}{p c},(S4 imm p r0.b c)→Ret Tryz.prog 158 [vP r01 0,vI depth] imm [hB r01 (cRd r0 p c)] (zC7 r01 r):=by
 intro r0 depth r hM imm r01 p c h;unfold nE at hM;refine yG (fn:=Tryz.f158) (c:=(bodyOf Tryz.f158)) Tryz.func158 rfl rfl ?_;rintro B - -;refine zF<|zB<|uD [z0,vI 0] ?_;intro b hb;refine yN rfl<|zE<|zF<|zB<|yK 1 [] [(7,vP r01 0)]<|xQ [vI 0,vI 1,vI (-1),vI 2,vI 0,vI 5,vI (-9),vI 99] Int ?_;intro b1 hb1;have h1:RL imm [vI 0,vI 1,vI (-1),vI 2,vI 0,vI 5,vI (-9),vI 99] ([0,1,(-1),2,0,5,(-9),99]:List Int):=⟨[vI 0],_,rfl,rfl,rfl,⟨[vI 1],_,rfl,rfl,rfl,⟨[vI (-1)],_,rfl,rfl,rfl,⟨[vI 2],_,rfl,rfl,rfl,⟨[vI 0],_,rfl,rfl,rfl,⟨[vI 5],_,rfl,rfl,rfl,⟨[vI (-9)],_,rfl,rfl,rfl,⟨[vI 99],_,rfl,rfl,rfl,rfl⟩⟩⟩⟩⟩⟩⟩⟩;refine yL 0 rfl ?_;intro imm0 le hl0;have h2:=SL.of_frozen hl0 le h1;have h:=h.mono le;refine rX (zK [1,0] (hs':=[hB r01 (cRd r0 p c),hB b [z0,vI 0]]) rfl (by decide)) ?_;obtain ⟨⟨y1,y2⟩,hy,hM⟩:=zC hM;refine sD [hB r01 (cRd r0 p c)] [hB b [z0,vI 0]] (xF r0 ([0,1,(-1),2,0,5,(-9),99]:List Int) _ hy h h2) ?_;rintro imm01 hs2 v2 k2 le1 - ⟨v0,kk,rfl,rfl,rfl,h4⟩ -;obtain ⟨v01,rfl,h5⟩:=yI h4;obtain ⟨p1,c1,rfl⟩:=h5.form;obtain ⟨y3,hy1,hM⟩:=zC hM;refine yR (vE y1 _ hy1 ) ?_;rintro imm02 hs2 v2 k2 le2 - ⟨p2,c2,cs,rfl,rfl,h6⟩ -;have h5:=h5.mono le2;refine uD [z0,vI 0] ?_;intro b2 hb2;refine xJ 0 (cAff y3 p2 c2) [hB b2 (cAff y3 p2 c2),hO Int (vS p2 y3.Coefs c2) cs,hB r01 (cRd y2 p1 c1),hB b [z0,vI 0]] rfl rfl rfl rfl<|yN rfl<|zE<|zF<|zF<|zB<|yA [] [(6,vI 0)]<|zE<|yC<|vQ [(0,vP r01 0),(1,vI depth),(4,vP b 0),(5,vP b2 0),(6,vI 0)] ?_;obtain ⟨o0,ho0,hMl⟩:=zC hM;refine zBk depth 0 y3.Coefs y2 o0 ho0 iR h6 h5 (fun _ _ _ h=>h) (fun _ _ h=>h) ?_;intro imm06 Coefs1 x1 p5 c5 cs2 p6 c6 heq le6 h9 h10;subst o0;refine yD<|zE<|zF<|zB<|yK 1 [0] [(23,vA [vS p5 Coefs1 c5,vI y3.Const])]<|xJ 3 [vS p5 Coefs1 c5,vI y3.Const] [hB b2 [vS p5 Coefs1 c5,vI y3.Const],hO Int (vS p5 Coefs1 c5) cs2,hB r01 (cRd x1 p6 c6),hB b [vS p5 Coefs1 c5,vI y3.Const]] rfl rfl rfl rfl<|yN rfl<|zE<|yJ<|xI 1 rfl ?_;intro imm07 le7 hl03;have h17:=SL.of_frozen hl03 le7 h9;have h10:=h10.mono le7;obtain rfl:=zD hMl;exact yQ ⟨_,_,(.cell 2 rfl rfl (by kernel_rfl) ResV.nil),(zK [1] rfl (by decide)),⟨_,_,rfl,rfl,⟨_,rfl,(yP ⟨_,rfl,h17⟩)⟩,(yS ⟨_,rfl,h10⟩)⟩⟩
def mN (b0:Nat) (r:zH×zO):KT:=fun kk imm' hs' v=>
  ∃ v0 k0,hs'=[.blk b0 ⟨k0⟩]∧v=tupV [v0]∧(∃ cs,v0=.agg ⟨cs⟩∧Rp.rep imm' cs r.1)∧Rp.rep imm' k0 r.2
mutual
def sQ (r0:zO) (depth:Int) (levels:Int):Option (zH×zO):=do
 let (t15,x)←(do
   if (decide (levels < 2)) then
    pure (true,r0)
   else
    let (y1,y2)←yW r0 4
    pure ((y1 == 0),y2)
     : Option (Bool×zO))
 if t15 then
  let (y4,y5)←yW x 4
  if (y4 == 0) then
   let (y7,y8)←yV y5 ([1,2,0,99,3]:List Int)
   pure ((zH.mk 1 y7 (zA.mk ([]:List Int) 0) (zL.mk (⟨[]⟩:Str) ([]:List zA)) ([]:List zH)),y8)
  else
   if (y4 == 1) then
    let (y10,y11)←nE y5 depth
    pure ((zH.mk 2 0 y10 (zL.mk (⟨[]⟩:Str) ([]:List zA)) ([]:List zH)),y11)
   else
    let (y13,y14)←oB y5 depth
    pure ((zH.mk 3 0 (zA.mk ([]:List Int) 0) y13 ([]:List zH)),y14)
 else
  let (y16,y17)←yV x ([4,6,5,4]:List Int)
  let (Kids1,x2)←rZ (same depth) (same levels) (same 0) ([]:List zH) (same y17)
  pure ((zH.mk y16 0 (zA.mk ([]:List Int) 0) (zL.mk (⟨[]⟩:Str) ([]:List zA)) Kids1),x2)
 partial_fixpoint
def rZ (depth:Int) (levels:Int) (i:Int) (Kids:List zH) (x1:zO):Option ((List zH×zO)):=do
 if (decide (i < 2)) then
  let (y19,y20)←sQ (same x1) (same depth) (W (levels - 1))
  let l←app 112 Kids ([y19]:List zH)
  rZ (same depth) (same levels) (W (i + 1)) (same l) (same y20)
 else
  pure (Kids,x1)
 partial_fixpoint
end
theorem zC8:(∀ (r0:zO) (depth:Int) (levels:Int) r,sQ r0 depth levels=some r→∀ {imm:Imm}{r01:Nat}{p c},(S4 imm p r0.b c)→Ret Tryz.prog 143 [vP r01 0,vI depth,vI levels] imm [hB r01 (cRd r0 p c)] (mN r01 r))∧(∀ (depth:Int) (levels:Int) (i:Int) (Kids:List zH) (x1:zO) o,rZ depth levels i Kids x1=some o→∀ {B}{imm0 imm:Imm}{Q}{y16:Int}{r01:Nat}{b:Nat}{b3:Nat}{p10 c10 cs2 p11 c11},imm0.le imm→(RL imm cs2 Kids)→(S4 imm p11 x1.b c11)→(∀ gl a w,¬Q (.goto gl) a w)→(∀ a w,¬Q .outgrown a w)→(∀ (imm':Imm) (Kids1:List zH) (x2:zO) (p12:Option Addr) (c12:Nat) (cs3:List Value) (p13:Option Addr) (c13:Nat),o=(Kids1,x2)→imm0.le imm'→(RL imm' cs3 Kids1)→(S4 imm' p13 x2.b c13)→T 53 B Q (.exit 1) imm' [hO zH (vS p12 Kids1 c12) cs3,hB b3 [vI y16,vI 0,z0,vI 0,vT ([]),z0,vS p12 Kids1 c12],hB r01 (cRd x2 p13 c13),hB b zExpr] [(6,vP b 0),(7,vP b3 0)])→J Tryz.prog 53 B (nav (bodyOf Tryz.f143) [1,1,1,0,1,0]) Q imm [hO zH (vS p10 Kids c10) cs2,hB b3 [vI y16,vI 0,z0,vI 0,vT ([]),z0,vS p10 Kids c10],hB r01 (cRd x1 p11 c11),hB b zExpr] [(0,vP r01 0),(1,vI depth),(2,vI levels),(6,vP b 0),(7,vP b3 0),(8,vI i)]):=by
  refine sQ.mutual_partial_correctness (fun r0 depth levels r=>∀ {imm:Imm}{r01:Nat}{p c},(S4 imm p r0.b c)→Ret Tryz.prog 143 [vP r01 0,vI depth,vI levels] imm [hB r01 (cRd r0 p c)] (mN r01 r)) (fun depth levels i Kids x1 o=>∀ {B}{imm0 imm:Imm}{Q}{y16:Int}{r01:Nat}{b:Nat}{b3:Nat}{p10 c10 cs2 p11 c11},imm0.le imm→(RL imm cs2 Kids)→(S4 imm p11 x1.b c11)→(∀ gl a w,¬Q (.goto gl) a w)→(∀ a w,¬Q .outgrown a w)→(∀ (imm':Imm) (Kids1:List zH) (x2:zO) (p12:Option Addr) (c12:Nat) (cs3:List Value) (p13:Option Addr) (c13:Nat),o=(Kids1,x2)→imm0.le imm'→(RL imm' cs3 Kids1)→(S4 imm' p13 x2.b c13)→T 53 B Q (.exit 1) imm' [hO zH (vS p12 Kids1 c12) cs3,hB b3 [vI y16,vI 0,z0,vI 0,vT ([]),z0,vS p12 Kids1 c12],hB r01 (cRd x2 p13 c13),hB b zExpr] [(6,vP b 0),(7,vP b3 0)])→J Tryz.prog 53 B (nav (bodyOf Tryz.f143) [1,1,1,0,1,0]) Q imm [hO zH (vS p10 Kids c10) cs2,hB b3 [vI y16,vI 0,z0,vI 0,vT ([]),z0,vS p10 Kids c10],hB r01 (cRd x1 p11 c11),hB b zExpr] [(0,vP r01 0),(1,vI depth),(2,vI levels),(6,vP b 0),(7,vP b3 0),(8,vI i)]) ?_ ?_
  · intro F_spec_l3Value_l1 ih_spec_l3Value_l1 r0 depth levels r hM imm r01 p c h;refine yG (fn:=Tryz.f143) (c:=(bodyOf Tryz.f143)) Tryz.func143 rfl rfl ?_;rintro B - -;have hle:=iS imm;refine zF<|zB<|uD zExpr ?_;intro b hb;refine yN rfl<|zE<|zF<|zF ?_;obtain ⟨o0,ho0,hMc⟩:=zC hM;refine yU (fun imm' hs' m'=>∃ (t15:Bool) (x:zO) (p1:Option Addr) (c1:Nat),o0=(t15,x)∧imm.le imm'∧(S4 imm' p1 x.b c1)∧hs'=[hB b zExpr,hB r01 (cRd x p1 c1)]∧m'=[(0,vP r01 0),(1,vI depth),(2,vI levels),(6,vP b 0),(15,.bool t15)]) ?_ ?_
    · have hle:=iS imm;refine zB<|yK 3 [] [(11,.bool (decide (levels < 2)))] ?_;cases hc:(decide (levels < 2)) with
      | true =>
       have hM0:=zW hc ho0
       try rw [hc]
       exact yA [] [(15,.bool true)]<|yT [(0,vP r01 0),(1,vI depth),(2,vI levels),(6,vP b 0),(15,.bool true)]<|yB ⟨_,_,_,_,(zD hM0).symm,hle,h,rfl,rfl⟩
      | false =>
       have hM01:=zU hc ho0
       try rw [hc]
       refine yK 4 [] [(12,vP r01 0)]<|rX (zK [1,0] (hs':=[hB r01 (cRd r0 p c),hB b zExpr]) rfl (by decide)) ?_;obtain ⟨⟨y1,y2⟩,hy,hM⟩:=zC hM01;refine sD [hB r01 (cRd r0 p c)] [hB b zExpr] (xL r0 4 _ hy h) ?_;rintro imm01 hs2 v2 k2 le - ⟨v0,kk,rfl,rfl,rfl,h3⟩ -;have hle:=hle.trans le;obtain ⟨v01,rfl,h4⟩:=yI h3;obtain ⟨p2,c2,rfl⟩:=h4.form;exact yA [] [(15,.bool (y1 == 0))]<|wD (zK [1,0] rfl (by decide))<|yT [(0,vP r01 0),(1,vI depth),(2,vI levels),(6,vP b 0),(15,.bool (y1 == 0))]<|yB ⟨_,_,_,_,(zD hM).symm,hle,h4,rfl,rfl⟩
    rintro imm0 hs2 m2 ⟨t15,x,p1,c1,heq,le1,h1,rfl,rfl⟩;subst o0;refine zE<|yO hMc ?_ ?_
    · intro hc1 hM;refine zF<|zF<|zB<|yK 1 [] [(16,vP r01 0)]<|rX (zK [1,0] (hs':=[hB r01 (cRd x p1 c1),hB b zExpr]) rfl (by decide)) ?_;obtain ⟨⟨y4,y5⟩,hy1,hM⟩:=zC hM;refine sD [hB r01 (cRd x p1 c1)] [hB b zExpr] (xL x 4 _ hy1 h1) ?_;rintro imm02 hs2 v2 k2 le2 - ⟨v02,kk1,rfl,rfl,rfl,h6⟩ -;obtain ⟨v03,rfl,h7⟩:=yI h6;obtain ⟨p3,c3,rfl⟩:=h7.form;refine yN rfl<|zE<|yC<|zF<|zB<|yA [] [(18,.bool (y4 == 0))]<|zE<|yO hM ?_ ?_
      · intro hc2 hM;refine zF<|zB<|yK 1 [] [(20,vP r01 0)]<|xQ [vI 1,vI 2,vI 0,vI 99,vI 3] Int ?_;intro b1 hb1;have h8:RL imm02 [vI 1,vI 2,vI 0,vI 99,vI 3] ([1,2,0,99,3]:List Int):=⟨[vI 1],_,rfl,rfl,rfl,⟨[vI 2],_,rfl,rfl,rfl,⟨[vI 0],_,rfl,rfl,rfl,⟨[vI 99],_,rfl,rfl,rfl,⟨[vI 3],_,rfl,rfl,rfl,rfl⟩⟩⟩⟩⟩;refine yL 0 rfl ?_;intro imm03 le3 hl0;have h9:=SL.of_frozen hl0 le3 h8;have h7:=h7.mono le3;obtain ⟨⟨y7,y8⟩,hy2,hM⟩:=zC hM;refine sD [hB r01 (cRd y5 p3 c3)] [hB b zExpr] (xF y5 ([1,2,0,99,3]:List Int) _ hy2 h7 h9) ?_;rintro imm04 hs2 v2 k2 le4 - ⟨v04,kk2,rfl,rfl,rfl,h11⟩ -;obtain ⟨v05,rfl,h12⟩:=yI h11;obtain ⟨p4,c4,rfl⟩:=h12.form;refine yK 4 [] [(23,vA [vI 1,vI y7,z0,vI 0,vT ([]),z0,z0])]<|xJ 1 [vI 1,vI y7,z0,vI 0,vT ([]),z0,z0] [hB r01 (cRd y8 p4 c4),hB b [vI 1,vI y7,z0,vI 0,vT ([]),z0,z0]] rfl rfl rfl rfl<|yN rfl<|zE<|yJ<|yF<|zR<|zR ?_;obtain rfl:=zD hM;exact yQ ⟨_,_,(.cell 1 rfl rfl (by kernel_rfl) ResV.nil),(zK [0] rfl (by decide)),⟨_,_,rfl,rfl,⟨_,rfl,(xM ⟨_,_,_,rfl,(SL.nil _),(SL.nil _),(SL.nil _)⟩)⟩,(yS ⟨_,rfl,h12⟩)⟩⟩
      intro hc2 hM;refine zF<|zB<|yA [] [(24,.bool (y4 == 1))]<|zE<|yO hM ?_ ?_
      · intro hc3 hM;refine zF<|zB<|yK 2 [] [(26,vP r01 0),(27,vI depth)] ?_;obtain ⟨⟨y10,y11⟩,hy3,hM⟩:=zC hM;refine sD [hB r01 (cRd y5 p3 c3)] [hB b zExpr] (zDj y5 depth _ hy3 h7) ?_;rintro imm05 hs2 v2 k2 le5 - ⟨v06,kk3,rfl,rfl,⟨cs,rfl,h13⟩,h14⟩ -;obtain ⟨v07,rfl,h15⟩:=yM h13;obtain ⟨p5,c5,rfl⟩:=h15.form;obtain ⟨v08,rfl,h16⟩:=yI h14;obtain ⟨p6,c6,rfl⟩:=h16.form;refine yK 4 [] [(29,vA [vI 2,vI 0,vS p5 y10.Coefs c5,vI y10.Const,vT ([]),z0,z0])]<|xJ 1 [vI 2,vI 0,vS p5 y10.Coefs c5,vI y10.Const,vT ([]),z0,z0] [hB r01 (cRd y11 p6 c6),hB b [vI 2,vI 0,vS p5 y10.Coefs c5,vI y10.Const,vT ([]),z0,z0]] rfl rfl rfl rfl<|yN rfl<|zE<|yJ<|yF<|zR<|zR ?_;obtain rfl:=zD hM;exact yQ ⟨_,_,(.cell 1 rfl rfl (by kernel_rfl) ResV.nil),(zK [0] rfl (by decide)),⟨_,_,rfl,rfl,⟨_,rfl,(xM ⟨_,_,_,rfl,h15,(SL.nil _),(SL.nil _)⟩)⟩,(yS ⟨_,rfl,h16⟩)⟩⟩
      intro hc3 hM;refine yE<|zY<|zE<|zF<|zB<|yK 2 [] [(30,vP r01 0),(31,vI depth)] ?_;obtain ⟨⟨y13,y14⟩,hy4,hM⟩:=zC hM;refine sD [hB r01 (cRd y5 p3 c3)] [hB b zExpr] (dV y5 depth _ hy4 h7) ?_;rintro imm06 hs2 v2 k2 le6 - ⟨v09,kk4,rfl,rfl,⟨cs1,rfl,h17⟩,h18⟩ -;obtain ⟨v010,rfl,h19⟩:=sC h17;obtain ⟨p7,c7,rfl⟩:=h19.form;obtain ⟨v011,rfl,h20⟩:=yI h18;obtain ⟨p8,c8,rfl⟩:=h20.form;refine yK 4 [] [(33,vA [vI 3,vI 0,z0,vI 0,vT y13.Array.l,vS p7 y13.Subs c7,z0])]<|xJ 1 [vI 3,vI 0,z0,vI 0,vT y13.Array.l,vS p7 y13.Subs c7,z0] [hB r01 (cRd y14 p8 c8),hB b [vI 3,vI 0,z0,vI 0,vT y13.Array.l,vS p7 y13.Subs c7,z0]] rfl rfl rfl rfl<|yN rfl<|zE<|yJ<|zR ?_;obtain rfl:=zD hM;exact yQ ⟨_,_,(.cell 1 rfl rfl (by kernel_rfl) ResV.nil),(zK [0] rfl (by decide)),⟨_,_,rfl,rfl,⟨_,rfl,(xM ⟨_,_,_,rfl,(SL.nil _),h19,(SL.nil _)⟩)⟩,(yS ⟨_,rfl,h20⟩)⟩⟩
    intro hc1 hM;refine yE<|zE<|zF<|zB<|yK 1 [] [(34,vP r01 0)]<|xQ [vI 4,vI 6,vI 5,vI 4] Int ?_;intro b2 hb2;have h21:RL imm0 [vI 4,vI 6,vI 5,vI 4] ([4,6,5,4]:List Int):=⟨[vI 4],_,rfl,rfl,rfl,⟨[vI 6],_,rfl,rfl,rfl,⟨[vI 5],_,rfl,rfl,rfl,⟨[vI 4],_,rfl,rfl,rfl,rfl⟩⟩⟩⟩;refine yL 0 rfl ?_;intro imm07 le7 hl01;have h22:=SL.of_frozen hl01 le7 h21;have h1:=h1.mono le7;refine rX (zK [1,0] (hs':=[hB r01 (cRd x p1 c1),hB b zExpr]) rfl (by decide)) ?_;obtain ⟨⟨y16,y17⟩,hy5,hM⟩:=zC hM;refine sD [hB r01 (cRd x p1 c1)] [hB b zExpr] (xF x ([4,6,5,4]:List Int) _ hy5 h1 h22) ?_;rintro imm08 hs2 v2 k2 le8 - ⟨v012,kk5,rfl,rfl,rfl,h24⟩ -;obtain ⟨v013,rfl,h25⟩:=yI h24;obtain ⟨p9,c9,rfl⟩:=h25.form;refine yK 4 [] [(37,vA [vI y16,vI 0,z0,vI 0,vT ([]),z0,z0])]<|uD zExpr ?_;intro b3 hb3;refine xJ 0 [vI y16,vI 0,z0,vI 0,vT ([]),z0,z0] [hB b3 [vI y16,vI 0,z0,vI 0,vT ([]),z0,z0],hB r01 (cRd y17 p9 c9),hB b zExpr] rfl rfl rfl rfl<|yN rfl<|zE<|zF<|zF<|zB<|yA [] [(8,vI 0)]<|zE<|yC<|vQ [(0,vP r01 0),(1,vI depth),(2,vI levels),(6,vP b 0),(7,vP b3 0),(8,vI 0)]<|qA (uI (Rp.sz zH)) ?_;have h26:RL imm08 [] ([]:List zH):=RepL.nil;obtain ⟨o01,ho01,hMl⟩:=zC hM;refine ih_spec_l3Value_l1 depth levels 0 ([]:List zH) y17 o01 ho01 iR h26 h25 (fun _ _ _ h=>h) (fun _ _ h=>h) ?_;intro imm012 Kids1 x2 p12 c12 cs3 p13 c13 heq1 le12 h29 h30;subst o01;refine yD<|zE<|zF<|zB<|yK 1 [1] [(52,vA [vI y16,vI 0,z0,vI 0,vT ([]),z0,vS p12 Kids1 c12])]<|xJ 3 [vI y16,vI 0,z0,vI 0,vT ([]),z0,vS p12 Kids1 c12] [hO zH (vS p12 Kids1 c12) cs3,hB b3 [vI y16,vI 0,z0,vI 0,vT ([]),z0,vS p12 Kids1 c12],hB r01 (cRd x2 p13 c13),hB b [vI y16,vI 0,z0,vI 0,vT ([]),z0,vS p12 Kids1 c12]] rfl rfl rfl rfl<|yN rfl<|zE<|yJ<|xI 0 rfl ?_;intro imm013 le13 hl03;have h40:=SL.of_frozen hl03 le13 h29;have h30:=h30.mono le13;obtain rfl:=zD hMl;exact yQ ⟨_,_,(.cell 2 rfl rfl (by kernel_rfl) ResV.nil),(zK [1] rfl (by decide)),⟨_,_,rfl,rfl,⟨_,rfl,(xM ⟨_,_,_,rfl,(SL.nil _),(SL.nil _),h40⟩)⟩,(yS ⟨_,rfl,h30⟩)⟩⟩
  intro F_spec_l3Value F_spec_l3Value_l1 ih_spec_l3Value ih_spec_l3Value_l1 depth levels i Kids x1 o hM B imm0 imm Q y16 r01 b b3 p10 c10 cs2 p11 c11 hle h27 h28 hg ho hx;refine xC hg ho<|zF<|zF<|zB<|yA [] [(39,.bool (decide (i < 2)))]<|zE<|yO hM ?_ ?_
  · intro hc4 hM;refine yE<|zE<|zF<|yC ?_;obtain ⟨⟨y19,y20⟩,hy6,hM⟩:=zC hM;obtain ⟨l,hy7,hM⟩:=zC hM;refine uA [.p (vP b3 6) [],.p (vS p10 Kids c10) [0],.p (vP r01 0) [],.p (vI depth) [],.p (vI levels) [],.p (vI (W (levels - 1))) [],.x (fun imm' v hx=>∃ p14 c14 p15 c15 p16 c16 p17 c17,v=vA (cExpr y19 p14 c14 p15 c15 p16 c16)∧hx=[hB r01 (cRd y20 p17 c17)]∧(S4 imm' p14 y19.Index.Coefs c14)∧(S4 imm' p15 y19.Read.Subs c15)∧(S4 imm' p16 y19.Kids c16)∧(S4 imm' p17 y20.b c17)),.x (fun imm' v hx=>∃ b4,v=vS (some ⟨b4,0,none⟩) ([y19]:List zH) 1∧hx=[]∧(SL imm' (vS (some ⟨b4,0,none⟩) ([y19]:List zH) 1) ([y19]:List zH))),.x (fun imm' v hx=>∃ p18 c18 cs5,v=vS p18 l c18∧hx=[hO zH (vS p18 l c18) cs5]∧(RL imm' cs5 l))] [[],[(0,false)],[],[],[],[(4,false)],[(2,false),(3,false),(5,false),(11,true)],[(6,false)],[(1,false),(7,false),(12,true)]] [hB b3 [vI y16,vI 0,z0,vI 0,vT ([]),z0,vS p10 Kids c10],hB b zExpr] [[hB r01 (cRd x1 p11 c11)],[hO zH (vS p10 Kids c10) cs2]] [(6,true),(8,true)] (zK [1,3,2,0] rfl (by decide)) ?_ ?_
    · refine Op<|Op<|Op<|Op<|Op<|Op<|Ox ?_<|Ox ?_<|Ox ?_<|On
      · intro imm1 hf le1;refine zG ?_;rintro _ _ ⟨rfl,rfl⟩;refine zG ?_;rintro _ _ ⟨rfl,rfl⟩;refine zG ?_;rintro _ _ ⟨rfl,rfl⟩;refine zG ?_;rintro _ _ rfl;refine zN<|yH [(44,vP r01 0),(45,vI depth),(47,vI (W (levels - 1)))] ?_;have hle:=iS imm1;have h28:=h28.mono le1;refine sD [hB r01 (cRd x1 p11 c11)] (hB b3 [vI y16,vI 0,z0,vI 0,vT ([]),z0,vS p10 Kids c10]::hB b zExpr::hf) (ih_spec_l3Value x1 depth (W (levels - 1)) _ hy6 h28) ?_;rintro imm09 hs2 v2 k2 le9 - ⟨v014,kk6,rfl,rfl,⟨cs4,rfl,h31⟩,h32⟩ -;have hle:=hle.trans le9;obtain ⟨v015,v016,v017,rfl,h33,h34,h35⟩:=wK h31;obtain ⟨p14,c14,rfl⟩:=h33.form;obtain ⟨p15,c15,rfl⟩:=h34.form;obtain ⟨p16,c16,rfl⟩:=h35.form;obtain ⟨v018,rfl,h36⟩:=yI h32;obtain ⟨p17,c17,rfl⟩:=h36.form;exact zZ (hx:=[hB r01 (cRd y20 p17 c17)]) rfl hle rfl (zM rfl) ⟨_,_,_,_,_,_,_,_,rfl,rfl,h33,h34,h35,h36⟩
      · intro imm1 hf le1;refine zG ?_;rintro _ _ ⟨p14,c14,p15,c15,p16,c16,p17,c17,rfl,rfl,h33,h34,h35,h36⟩;refine zN<|yH [(48,vA (cExpr y19 p14 c14 p15 c15 p16 c16))] ?_;have hle:=iS imm1;refine xQ (cExpr y19 p14 c14 p15 c15 p16 c16) zH ?_;intro b4 hb4;have h37:RL imm1 (cExpr y19 p14 c14 p15 c15 p16 c16) ([y19]:List zH):=⟨(cExpr y19 p14 c14 p15 c15 p16 c16),_,rfl,rfl,(xM ⟨_,_,_,rfl,h33,h34,h35⟩),rfl⟩;refine yL 0 rfl ?_;intro imm010 le10 hl02;have h38:=SL.of_frozen hl02 le10 h37;have hle:=hle.trans le10;exact zZ (hx:=[]) rfl hle rfl (zM rfl) ⟨_,rfl,rfl,h38⟩
      intro imm1 hf le1;refine zG ?_;rintro _ _ ⟨rfl,rfl⟩;refine zG ?_;rintro _ _ ⟨b4,rfl,rfl,h38⟩;refine zG ?_;rintro _ _ rfl;refine zN<|yH [(43,vS p10 Kids c10),(49,vS (some ⟨b4,0,none⟩) ([y19]:List zH) 1)] ?_;have hle:=iS imm1;have h27:=iM le1 h27;obtain ⟨ccs,k0,k01⟩:=h38;have h38:SL imm1 (vS (some ⟨b4,0,none⟩) ([y19]:List zH) 1) ([y19]:List zH):=⟨_,k0,k01⟩;refine qI 69 7 0 rfl rfl rfl h27 (.inl k0) k01 hy7 ?_;intro p18 c18 cs5 h39;exact uB (hs':=(hO zH (vS p18 l c18) cs5::hB b3 [vI y16,vI 0,z0,vI 0,vT ([]),z0,vS p10 Kids c10]::hB b zExpr::hf)) rfl<|zZ (hx:=[hO zH (vS p18 l c18) cs5]) rfl hle rfl (zM rfl) ⟨_,_,_,rfl,rfl,h39⟩
    intro imm011 le11;refine zG ?_;rintro _ _ ⟨p14,c14,p15,c15,p16,c16,p17,c17,rfl,rfl,h33,h34,h35,h36⟩;refine zG ?_;rintro _ _ ⟨p18,c18,cs5,rfl,rfl,h39⟩;refine zN<|yH [(0,vP r01 0),(1,vI depth),(2,vI levels),(6,vP b 0),(7,vP b3 0),(8,vI i),(50,vS p18 l c18)] ?_;have hle:=hle.trans le11;exact yK 10 [] [(51,vP b3 6)]<|xJ 2 [vI y16,vI 0,z0,vI 0,vT ([]),z0,vS p18 l c18] [hO zH (vS p18 l c18) cs5,hB r01 (cRd y20 p17 c17),hB b3 [vI y16,vI 0,z0,vI 0,vT ([]),z0,vS p18 l c18],hB b zExpr] rfl rfl rfl rfl<|yN rfl<|zY<|zE<|zB<|yA [] [(8,vI (W (i + 1)))]<|xD<|qA (zK [0,2,1,3] rfl (by decide))<|vQ [(0,vP r01 0),(1,vI depth),(2,vI levels),(6,vP b 0),(7,vP b3 0),(8,vI (W (i + 1)))]<|ih_spec_l3Value_l1 depth levels (W (i + 1)) l y20 _ hM hle h39 h36 hg ho hx
  intro hc4 hM;exact xA<|zS<|zS<|yT [(6,vP b 0),(7,vP b3 0)]<|hx _ _ _ _ _ _ _ _ (zD hM).symm hle h27 h28
theorem zDF:∀ (r0:zO) (depth:Int) (levels:Int) r,sQ r0 depth levels=some r→∀ {imm:Imm}{r01:Nat}{p c},(S4 imm p r0.b c)→Ret Tryz.prog 143 [vP r01 0,vI depth,vI levels] imm [hB r01 (cRd r0 p c)] (mN r01 r):=zC8.1
def zC9 (b0:Nat) (r:zQ×zO):KT:=fun kk imm' hs' v=>
  ∃ v0 k0,hs'=[.blk b0 ⟨k0⟩]∧v=tupV [v0]∧(∃ cs,v0=.agg ⟨cs⟩∧Rp.rep imm' cs r.1)∧Rp.rep imm' k0 r.2
def nX (r0:zO) (depth:Int):Option (zQ×zO):=do
 let (y1,y2)←oB r0 depth
 let (y4,y5)←yV y2 ([2,3,1,2]:List Int)
 let (y7,y8)←sQ y5 depth y4
 let y9←tG (zQ.mk y1 y7) depth
 if y9 then
  pure ((zQ.mk y1 y7),y8)
 else
  let y10←rU
  pure ((zQ.mk (zL.mk (⟨[65]⟩:Str) ([y10]:List zA)) (zH.mk 1 1 (zA.mk ([]:List Int) 0) (zL.mk (⟨[]⟩:Str) ([]:List zA)) ([]:List zH))),y8)
theorem zDk:∀ (r0:zO) (depth:Int) r,nX r0 depth=some r→∀ {imm:Imm}{r01:Nat}{p c},(S4 imm p r0.b c)→Ret Tryz.prog 117 [vP r01 0,vI depth] imm [hB r01 (cRd r0 p c)] (zC9 r01 r):=by
 intro r0 depth r hM imm r01 p c h;unfold nX at hM;refine yG (fn:=Tryz.f117) (c:=(bodyOf Tryz.f117)) Tryz.func117 rfl rfl ?_;rintro B - -;refine zF<|zB<|uD [vT ([]),z0,vI 0,vI 0,z0,vI 0,vT ([]),z0,z0] ?_;intro b hb;refine yN rfl<|zE<|zF<|zB<|yK 2 [] [(6,vP r01 0),(7,vI depth)]<|rX (zK [1,0] (hs':=[hB r01 (cRd r0 p c),hB b [vT ([]),z0,vI 0,vI 0,z0,vI 0,vT ([]),z0,z0]]) rfl (by decide)) ?_;obtain ⟨⟨y1,y2⟩,hy,hM⟩:=zC hM;refine sD [hB r01 (cRd r0 p c)] [hB b [vT ([]),z0,vI 0,vI 0,z0,vI 0,vT ([]),z0,z0]] (dV r0 depth _ hy h) ?_;rintro imm0 hs2 v2 k2 le - ⟨v0,kk,rfl,rfl,⟨cs,rfl,h1⟩,h2⟩ -;obtain ⟨v01,rfl,h3⟩:=sC h1;obtain ⟨p1,c1,rfl⟩:=h3.form;obtain ⟨v02,rfl,h4⟩:=yI h2;obtain ⟨p2,c2,rfl⟩:=h4.form;refine yK 6 [] [(9,vP r01 0),(10,vI depth),(11,vP r01 0)]<|xQ [vI 2,vI 3,vI 1,vI 2] Int ?_;intro b1 hb1;have h5:RL imm0 [vI 2,vI 3,vI 1,vI 2] ([2,3,1,2]:List Int):=⟨[vI 2],_,rfl,rfl,rfl,⟨[vI 3],_,rfl,rfl,rfl,⟨[vI 1],_,rfl,rfl,rfl,⟨[vI 2],_,rfl,rfl,rfl,rfl⟩⟩⟩⟩;refine yL 0 rfl ?_;intro imm01 le1 hl0;have h6:=SL.of_frozen hl0 le1 h5;have h3:=h3.mono le1;have h4:=h4.mono le1;obtain ⟨⟨y4,y5⟩,hy1,hM⟩:=zC hM;refine sD [hB r01 (cRd y2 p2 c2)] [hB b [vT ([]),z0,vI 0,vI 0,z0,vI 0,vT ([]),z0,z0]] (xF y2 ([2,3,1,2]:List Int) _ hy1 h4 h6) ?_;rintro imm02 hs2 v2 k2 le2 - ⟨v03,kk1,rfl,rfl,rfl,h8⟩ -;have h3:=h3.mono le2;obtain ⟨v04,rfl,h9⟩:=yI h8;obtain ⟨p3,c3,rfl⟩:=h9.form;obtain ⟨⟨y7,y8⟩,hy2,hM⟩:=zC hM;refine sD [hB r01 (cRd y5 p3 c3)] [hB b [vT ([]),z0,vI 0,vI 0,z0,vI 0,vT ([]),z0,z0]] (zDF y5 depth y4 _ hy2 h9) ?_;rintro imm03 hs2 v2 k2 le3 - ⟨v05,kk2,rfl,rfl,⟨cs1,rfl,h10⟩,h11⟩ -;have h3:=h3.mono le3;obtain ⟨v06,v07,v08,rfl,h12,h13,h14⟩:=wK h10;obtain ⟨p4,c4,rfl⟩:=h12.form;obtain ⟨p5,c5,rfl⟩:=h13.form;obtain ⟨p6,c6,rfl⟩:=h14.form;obtain ⟨v09,rfl,h15⟩:=yI h11;obtain ⟨p7,c7,rfl⟩:=h15.form;refine yK 10 [] [(15,vA [vT y1.Array.l,vS p1 y1.Subs c1,vI y7.Kind,vI y7.Num,vS p4 y7.Index.Coefs c4,vI y7.Index.Const,vT y7.Read.Array.l,vS p5 y7.Read.Subs c5,vS p6 y7.Kids c6])]<|uD [vT ([]),z0,vI 0,vI 0,z0,vI 0,vT ([]),z0,z0] ?_;intro b2 hb2;refine xJ 0 [vT y1.Array.l,vS p1 y1.Subs c1,vI y7.Kind,vI y7.Num,vS p4 y7.Index.Coefs c4,vI y7.Index.Const,vT y7.Read.Array.l,vS p5 y7.Read.Subs c5,vS p6 y7.Kids c6] [hB b2 [vT y1.Array.l,vS p1 y1.Subs c1,vI y7.Kind,vI y7.Num,vS p4 y7.Index.Coefs c4,vI y7.Index.Const,vT y7.Read.Array.l,vS p5 y7.Read.Subs c5,vS p6 y7.Kids c6],hB r01 (cRd y8 p7 c7),hB b [vT ([]),z0,vI 0,vI 0,z0,vI 0,vT ([]),z0,z0]] rfl rfl rfl rfl<|yN rfl<|zE<|zF<|zF<|zB<|yK 2 [0] [(16,vA [vT y1.Array.l,vS p1 y1.Subs c1,vI y7.Kind,vI y7.Num,vS p4 y7.Index.Coefs c4,vI y7.Index.Const,vT y7.Read.Array.l,vS p5 y7.Read.Subs c5,vS p6 y7.Kids c6]),(17,vI depth)] ?_;obtain ⟨y9,hy3,hM⟩:=zC hM;refine yR (mK (zQ.mk y1 y7) depth _ hy3 h3 h12 h13 h14) ?_;rintro imm04 hs2 v2 k2 le4 - ⟨v010,rfl,rfl,rfl⟩ -;have h3:=h3.mono le4;have h12:=h12.mono le4;have h13:=h13.mono le4;have h14:=h14.mono le4;have h15:=h15.mono le4;refine yN rfl<|zE<|yO hM ?_ ?_
 · intro hc hM;refine zF<|zB<|yK 1 [0] [(19,vA [vT y1.Array.l,vS p1 y1.Subs c1,vI y7.Kind,vI y7.Num,vS p4 y7.Index.Coefs c4,vI y7.Index.Const,vT y7.Read.Array.l,vS p5 y7.Read.Subs c5,vS p6 y7.Kids c6])]<|xJ 2 [vT y1.Array.l,vS p1 y1.Subs c1,vI y7.Kind,vI y7.Num,vS p4 y7.Index.Coefs c4,vI y7.Index.Const,vT y7.Read.Array.l,vS p5 y7.Read.Subs c5,vS p6 y7.Kids c6] [hB b2 [vT y1.Array.l,vS p1 y1.Subs c1,vI y7.Kind,vI y7.Num,vS p4 y7.Index.Coefs c4,vI y7.Index.Const,vT y7.Read.Array.l,vS p5 y7.Read.Subs c5,vS p6 y7.Kids c6],hB r01 (cRd y8 p7 c7),hB b [vT y1.Array.l,vS p1 y1.Subs c1,vI y7.Kind,vI y7.Num,vS p4 y7.Index.Coefs c4,vI y7.Index.Const,vT y7.Read.Array.l,vS p5 y7.Read.Subs c5,vS p6 y7.Kids c6]] rfl rfl rfl rfl<|yN rfl<|zE<|yJ<|zR ?_;obtain rfl:=zD hM;exact yQ ⟨_,_,(.cell 2 rfl rfl (by kernel_rfl) ResV.nil),(zK [1] rfl (by decide)),⟨_,_,rfl,rfl,⟨_,rfl,(wL ⟨_,_,_,_,rfl,h3,h12,h13,h14⟩)⟩,(yS ⟨_,rfl,h15⟩)⟩⟩
 intro hc hM;refine yE<|zE<|zF<|zB ?_;obtain ⟨y10,hy4,hM⟩:=zC hM;refine yR (oI  _ hy4 ) ?_;rintro imm05 hs2 v2 k2 le5 - ⟨p8,c8,cs2,rfl,rfl,h17⟩ -;have h15:=h15.mono le5;refine yL 0 rfl ?_;intro imm06 le6 hl01;have h18:=SL.of_frozen hl01 le6 h17;have h15:=h15.mono le6;refine xQ (cAff y10 p8 c8) zA ?_;intro b3 hb3;have h19:RL imm06 (cAff y10 p8 c8) ([y10]:List zA):=⟨(cAff y10 p8 c8),_,rfl,rfl,(yP ⟨_,rfl,h18⟩),rfl⟩;refine yK 5 [] [(24,vA [vT ([65]),vS (some ⟨b3,0,none⟩) ([y10]:List zA) 1,vI 1,vI 1,z0,vI 0,vT ([]),z0,z0])]<|xJ 3 [vT ([65]),vS (some ⟨b3,0,none⟩) ([y10]:List zA) 1,vI 1,vI 1,z0,vI 0,vT ([]),z0,z0] [hO zA (vS (some ⟨b3,0,none⟩) ([y10]:List zA) 1) (cAff y10 p8 c8),hB b2 [vT y1.Array.l,vS p1 y1.Subs c1,vI y7.Kind,vI y7.Num,vS p4 y7.Index.Coefs c4,vI y7.Index.Const,vT y7.Read.Array.l,vS p5 y7.Read.Subs c5,vS p6 y7.Kids c6],hB r01 (cRd y8 p7 c7),hB b [vT ([65]),vS (some ⟨b3,0,none⟩) ([y10]:List zA) 1,vI 1,vI 1,z0,vI 0,vT ([]),z0,z0]] rfl rfl rfl rfl<|yN rfl<|zE<|yJ<|xI 0 rfl ?_;intro imm07 le7 hl02;have h20:=SL.of_frozen hl02 le7 h19;have h15:=h15.mono le7;obtain rfl:=zD hM;exact yQ ⟨_,_,(.cell 2 rfl rfl (by kernel_rfl) ResV.nil),(zK [1] rfl (by decide)),⟨_,_,rfl,rfl,⟨_,rfl,(wL ⟨_,_,_,_,rfl,h20,(SL.nil _),(SL.nil _),(SL.nil _)⟩)⟩,(yS ⟨_,rfl,h15⟩)⟩⟩
def gK (r:Int):KT:=fun kk imm' hs' v=>
  ∃ v0,hs'=[]∧v=tupV [v0]∧v0=.int .i64 r
def sR (s:Str) (end0:UInt8) (i:Int):Option (Out Unit (Int)):=do
 if (decide (i < (s.l.length:Int))) then
  let b←sidx s i
  if ((b.toNat:Int) == (end0.toNat:Int)) then
   pure (.ret i)
  else
   sR s end0 (W (i + 1))
 else
  pure (.done ())
 partial_fixpoint
theorem zAz (s:Str) (end0:UInt8):∀ (i:Int) (o:Out Unit (Int)),sR s end0 i=some o→∀ {B}{imm0 imm:Imm}{Q}  ,imm0.le imm→(∀ gl a w,¬Q (.goto gl) a w)→(∀ a w,¬Q .outgrown a w)→(∀ (imm':Imm) ,o=(.done ())→imm0.le imm'→T 21 B Q (.exit 0) imm' [] [])→(∀ r imm' hs' m',o=(.ret r)→imm0.le imm'→RS Tryz.prog Tryz.f159 B (gK  r) imm' hs' m'→T 21 B Q .ret imm' hs' m')→J Tryz.prog 21 B (nav (bodyOf Tryz.f159) [1,0,1,0]) Q imm [] [(0,vT s.l),(2,.int .u8 (end0.toNat:Int)),(7,vI i)]:=by
 refine sR.partial_correctness s end0 _ ?_;intro self ih i o hM B imm0 imm Q  hle  hg ho hx hr;refine xC hg ho<|zF<|zF<|zB<|yA [] [(12,.bool (decide (i < (s.l.length:Int))))]<|zE<|yO hM ?_ ?_
 · intro hc hM;refine yE<|zE<|zF<|yC<|zF<|zB<|yK 2 [] [(15,vT s.l),(16,vI i)] ?_;obtain ⟨b,hy,hM⟩:=zC hM;refine jV rfl rfl hy<|yA [] [(19,.bool ((b.toNat:Int) == (end0.toNat:Int)))]<|zE<|yO hM ?_ ?_
   · intro hc1 hM;exact zF<|zB<|yA [] [(6,vI i)]<|zE<|yJ<|yF<|zR<|zR<|hr _ _ _ _ (zD hM).symm hle ⟨_,_,(.tmp rfl ResV.nil),zX,⟨_,rfl,rfl,rfl⟩⟩
   intro hc1 hM;exact yE<|zY<|zE<|zB<|yA [] [(7,vI (W (i + 1)))]<|xD<|vQ [(0,vT s.l),(2,.int .u8 (end0.toNat:Int)),(7,vI (W (i + 1)))]<|ih (W (i + 1)) _ hM hle  hg ho hx hr
 intro hc hM;exact xA<|zS<|zS<|yT []<|hx _  (zD hM).symm hle
def oJ (s:Str) (at0:Int) (end0:UInt8):Option (Int):=do
 match←sR s end0 at0 with
 | .ret r0=>pure r0
 | .done _ =>
  pure (-1)
theorem eT:∀ (s:Str) (at0:Int) (end0:UInt8) r,oJ s at0 end0=some r→∀ {imm:Imm} ,Ret Tryz.prog 159 [vT s.l,vI at0,.int .u8 (end0.toNat:Int)] imm [] (gK  r):=by
 intro s at0 end0 r hM imm;unfold oJ at hM;refine yG (fn:=Tryz.f159) (c:=(bodyOf Tryz.f159)) Tryz.func159 rfl rfl ?_;rintro B - -;refine zF<|zB<|yA [] []<|zE<|zF<|zF<|zB<|yA [] [(7,vI at0)]<|zE<|yC<|vQ [(0,vT s.l),(2,.int .u8 (end0.toNat:Int)),(7,vI at0)] ?_;obtain ⟨o0,ho0,hMl⟩:=zC hM;refine zAz s end0 at0 o0 ho0 iR  (fun _ _ _ h=>h) (fun _ _ h=>h) ?_ ?_
 · intro imm0  heq le;subst o0;refine yD<|zE<|zF<|zB<|yA [] [(6,vI (-1))]<|zE<|yJ ?_;obtain rfl:=zD hMl;exact yQ ⟨_,_,(.tmp rfl ResV.nil),zX,⟨_,rfl,rfl,rfl⟩⟩
 intro r0 imm9 hs9 m9 heq9 le9 hrs9;subst heq9;refine yF<|zR ?_;obtain rfl:=zD hMl;exact yQ hrs9
def fD (r:Int×Bool):KT:=fun kk imm' hs' v=>
  ∃ v0 v1,hs'=[]∧v=tupV [v0,v1]∧v0=.int .i64 r.1∧v1=.bool r.2
def rI (s1:Str) (n0:Int) (i:Int):Option (Out Int (Int×Bool)):=do
 if (decide (i < (s1.l.length:Int))) then
  let t54←(do
    let b2←sidx s1 i
    if (decide ((b2.toNat:Int) < 48)) then
     pure true
    else
     let b3←sidx s1 i
     pure (decide ((b3.toNat:Int) > 57))
      : Option Bool)
  if t54 then
   pure (.ret (0,false))
  else
   let b4←sidx s1 i
   rI s1 (W ((W (n0 * 10)) + (W (IntKind.u8.wrap ((b4.toNat:Int) - 48))))) (W (i + 1))
 else
  pure (.done n0)
 partial_fixpoint
theorem zBl (s1:Str):∀ (n0:Int) (i:Int) (o:Out Int (Int×Bool)),rI s1 n0 i=some o→∀ {B}{imm0 imm:Imm}{Q}{neg:Bool} ,imm0.le imm→(∀ gl a w,¬Q (.goto gl) a w)→(∀ a w,¬Q .outgrown a w)→(∀ (imm':Imm) (n01:Int),o=(.done n01)→imm0.le imm'→T 67 B Q (.exit 0) imm' [] [(4,.bool neg),(5,vI n01)])→(∀ r imm' hs' m',o=(.ret r)→imm0.le imm'→RS Tryz.prog Tryz.f172 B (fD  r) imm' hs' m'→T 67 B Q .ret imm' hs' m')→J Tryz.prog 67 B (nav (bodyOf Tryz.f172) [1,1,1,1,1,0,1,0]) Q imm [] [(0,vT s1.l),(4,.bool neg),(5,vI n0),(6,vI i)]:=by
 refine rI.partial_correctness s1 _ ?_;intro self ih n0 i o hM B imm0 imm Q neg hle  hg ho hx hr;refine xC hg ho<|zF<|zF<|zB<|yA [] [(42,.bool (decide (i < (s1.l.length:Int))))]<|zE<|yO hM ?_ ?_
 · intro hc7 hM;refine yE<|zE<|zF<|yC<|zF<|zF ?_;obtain ⟨o03,ho03,hMc3⟩:=zC hM;refine yU (fun imm' hs' m'=>∃ (t54:Bool),o03=t54∧imm.le imm'∧hs'=[]∧m'=[(0,vT s1.l),(4,.bool neg),(5,vI n0),(6,vI i),(54,.bool t54)]) ?_ ?_
   · have hle:=iS imm;refine zB<|yK 2 [] [(45,vT s1.l),(46,vI i)] ?_;obtain ⟨b2,hy3,hM⟩:=zC ho03;refine jV rfl rfl hy3<|yK 5 [] [(49,.bool (decide ((b2.toNat:Int) < 48)))] ?_;cases hc8:(decide ((b2.toNat:Int) < 48)) with
     | true =>
      have hM010:=zW hc8 hM
      try rw [hc8]
      exact yA [] [(54,.bool true)]<|yT [(0,vT s1.l),(4,.bool neg),(5,vI n0),(6,vI i),(54,.bool true)]<|yB ⟨_,(zD hM010).symm,hle,rfl,rfl⟩
     | false =>
      have hM011:=zU hc8 hM
      try rw [hc8]
      refine yK 7 [] [(50,vT s1.l),(51,vI i)] ?_;obtain ⟨b3,hy4,hM⟩:=zC hM011;exact jV rfl rfl hy4<|yA [] [(54,.bool (decide ((b3.toNat:Int) > 57)))]<|yT [(0,vT s1.l),(4,.bool neg),(5,vI n0),(6,vI i),(54,.bool (decide ((b3.toNat:Int) > 57)))]<|yB ⟨_,(zD hM).symm,hle,rfl,rfl⟩
   rintro imm03 hs2 m2 ⟨t54,heq3,le3,rfl,rfl⟩;subst o03;have hle:=hle.trans le3;refine zE<|yO hMc3 ?_ ?_
   · intro hc9 hM;exact zF<|zB<|yA [] [(2,vI 0),(3,.bool false)]<|zE<|yJ<|zR<|yF<|zR<|zR<|hr _ _ _ _ (zD hM).symm hle ⟨_,_,(.tmp rfl (.tmp rfl ResV.nil)),zX,⟨_,_,rfl,rfl,rfl,rfl⟩⟩
   intro hc9 hM;refine yE<|zE<|zB<|yK 4 [] [(56,vI (W (n0 * 10))),(57,vT s1.l),(58,vI i)] ?_;obtain ⟨b4,hy5,hM⟩:=zC hM;exact jV rfl rfl hy5<|yA [] [(5,vI (W ((W (n0 * 10)) + (W (IntKind.u8.wrap ((b4.toNat:Int) - 48))))))]<|zY<|zE<|zB<|yA [] [(6,vI (W (i + 1)))]<|xD<|vQ [(0,vT s1.l),(4,.bool neg),(5,vI (W ((W (n0 * 10)) + (W (IntKind.u8.wrap ((b4.toNat:Int) - 48)))))),(6,vI (W (i + 1)))]<|ih (W ((W (n0 * 10)) + (W (IntKind.u8.wrap ((b4.toNat:Int) - 48))))) (W (i + 1)) _ hM hle  hg ho hx hr
 intro hc7 hM;exact xA<|zS<|zS<|yT [(4,.bool neg),(5,vI n0)]<|hx _ _ (zD hM).symm hle
def nY (s:Str):Option (Int×Bool):=do
 let neg←(do
   if (decide ((s.l.length:Int) > 0)) then
    let b←sidx s 0
    pure ((b.toNat:Int) == 45)
   else
    pure false
     : Option Bool)
 let s1←(do
   if neg then
    let s2←sslc s 1 (s.l.length:Int)
    pure (id s2)
   else
    pure (id s)
     : Option Str)
 let t38←(do
   if ((s1.l.length:Int) == 0) then
    pure true
   else
    if (decide ((s1.l.length:Int) > 17)) then
     pure true
    else
     let b1←sidx s1 0
     if ((b1.toNat:Int) == 48) then
      if (decide ((s1.l.length:Int) > 1)) then
       pure true
      else
       pure (id neg)
     else
      pure false
     : Option Bool)
 if t38 then
  pure (0,false)
 else
  match←rI s1 0 0 with
  | .ret r0=>pure r0
  | .done n01 =>
   let n02←(do
     if neg then
      pure (W (0 - n01))
     else
      pure (id n01)
       : Option Int)
   pure (n02,true)
theorem zDl:∀ (s:Str) r,nY s=some r→∀ {imm:Imm} ,Ret Tryz.prog 172 [vT s.l] imm [] (fD  r):=by
 intro s r hM imm;unfold nY at hM;refine yG (fn:=Tryz.f172) (c:=(bodyOf Tryz.f172)) Tryz.func172 rfl rfl ?_;rintro B - -;have hle:=iS imm;refine zF<|zB<|yA [] []<|zE<|zF ?_;obtain ⟨o0,ho0,hMc⟩:=zC hM;refine yU (fun imm' hs' m'=>∃ (neg:Bool),o0=neg∧imm.le imm'∧hs'=[]∧m'=[(0,vT s.l),(4,.bool neg)]) ?_ ?_
 · have hle:=iS imm;refine zB<|yK 4 [] [(10,.bool (decide ((s.l.length:Int) > 0)))] ?_;cases hc:(decide ((s.l.length:Int) > 0)) with
   | true =>
    have hM0:=zW hc ho0
    try rw [hc]
    refine yK 5 [] [(11,vT s.l)] ?_;obtain ⟨b,hy,hM⟩:=zC hM0;exact jV rfl rfl hy<|yA [] [(4,.bool ((b.toNat:Int) == 45))]<|yT [(0,vT s.l),(4,.bool ((b.toNat:Int) == 45))]<|yB ⟨_,(zD hM).symm,hle,rfl,rfl⟩
   | false =>
    have hM01:=zU hc ho0
    try rw [hc]
    exact yA [] [(4,.bool false)]<|yT [(0,vT s.l),(4,.bool false)]<|yB ⟨_,(zD hM01).symm,hle,rfl,rfl⟩
 rintro imm0 hs2 m2 ⟨neg,heq,le,rfl,rfl⟩;subst o0;have hle:=hle.trans le;refine zE<|zF<|zF<|zB<|yA [] [(15,.bool neg)]<|zE ?_;obtain ⟨o01,ho01,hMc1⟩:=zC hMc;refine yU (fun imm' hs' m'=>∃ (s1:Str),o01=s1∧imm0.le imm'∧hs'=[]∧m'=[(0,vT s1.l),(4,.bool neg)]) ?_ ?_
 · have hle:=iS imm0;refine yO ho01 ?_ ?_
   · intro hc1 hM;refine zB<|yK 1 [] [(16,vT s.l)] ?_;obtain ⟨s2,hy1,hM⟩:=zC hM;exact zEQ rfl hy1<|yA [] [(0,vT s2.l)]<|yT [(0,vT s2.l),(4,.bool neg)]<|yB ⟨_,(zD hM).symm,hle,rfl,rfl⟩
   intro hc1 hM;exact yE<|yT [(0,vT s.l),(4,.bool neg)]<|yB ⟨_,(zD hM).symm,hle,rfl,rfl⟩
 rintro imm01 hs2 m2 ⟨s1,heq1,le1,rfl,rfl⟩;subst o01;have hle:=hle.trans le1;refine zE<|zF<|zF ?_;obtain ⟨o02,ho02,hMc2⟩:=zC hMc1;refine yU (fun imm' hs' m'=>∃ (t38:Bool),o02=t38∧imm01.le imm'∧hs'=[]∧m'=[(0,vT s1.l),(4,.bool neg),(38,.bool t38)]) ?_ ?_
 · have hle:=iS imm01;refine zB<|yK 4 [] [(21,.bool ((s1.l.length:Int) == 0))] ?_;cases hc2:((s1.l.length:Int) == 0) with
   | true =>
    have hM02:=zW hc2 ho02
    try rw [hc2]
    exact yA [] [(38,.bool true)]<|yT [(0,vT s1.l),(4,.bool neg),(38,.bool true)]<|yB ⟨_,(zD hM02).symm,hle,rfl,rfl⟩
   | false =>
    have hM03:=zU hc2 ho02
    try rw [hc2]
    refine yK 9 [] [(26,.bool (decide ((s1.l.length:Int) > 17)))] ?_;cases hc3:(decide ((s1.l.length:Int) > 17)) with
    | true =>
     have hM04:=zW hc3 hM03
     try rw [hc3]
     exact yA [] [(38,.bool true)]<|yT [(0,vT s1.l),(4,.bool neg),(38,.bool true)]<|yB ⟨_,(zD hM04).symm,hle,rfl,rfl⟩
    | false =>
     have hM05:=zU hc3 hM03
     try rw [hc3]
     refine yK 10 [] [(27,vT s1.l)] ?_;obtain ⟨b1,hy2,hM⟩:=zC hM05;refine jV rfl rfl hy2<|yK 13 [] [(30,.bool ((b1.toNat:Int) == 48))] ?_;cases hc4:((b1.toNat:Int) == 48) with
     | true =>
      have hM06:=zW hc4 hM
      try rw [hc4]
      refine yK 17 [] [(34,.bool (decide ((s1.l.length:Int) > 1)))] ?_;cases hc5:(decide ((s1.l.length:Int) > 1)) with
      | true =>
       have hM07:=zW hc5 hM06
       try rw [hc5]
       exact yA [] [(38,.bool true)]<|yT [(0,vT s1.l),(4,.bool neg),(38,.bool true)]<|yB ⟨_,(zD hM07).symm,hle,rfl,rfl⟩
      | false =>
       have hM08:=zU hc5 hM06
       try rw [hc5]
       exact yA [] [(38,.bool neg)]<|yT [(0,vT s1.l),(4,.bool neg),(38,.bool neg)]<|yB ⟨_,(zD hM08).symm,hle,rfl,rfl⟩
     | false =>
      have hM09:=zU hc4 hM
      try rw [hc4]
      exact yA [] [(38,.bool false)]<|yT [(0,vT s1.l),(4,.bool neg),(38,.bool false)]<|yB ⟨_,(zD hM09).symm,hle,rfl,rfl⟩
 rintro imm02 hs2 m2 ⟨t38,heq2,le2,rfl,rfl⟩;subst o02;have hle:=hle.trans le2;refine zE<|yO hMc2 ?_ ?_
 · intro hc6 hM;refine zF<|zB<|yA [] [(2,vI 0),(3,.bool false)]<|zE<|yJ<|zR ?_;obtain rfl:=zD hM;exact yQ ⟨_,_,(.tmp rfl (.tmp rfl ResV.nil)),zX,⟨_,_,rfl,rfl,rfl,rfl⟩⟩
 intro hc6 hM;refine yE<|zE<|zF<|zB<|yA [] [(5,vI 0)]<|zE<|zF<|zF<|zB<|yA [] [(6,vI 0)]<|zE<|yC<|vQ [(0,vT s1.l),(4,.bool neg),(5,vI 0),(6,vI 0)] ?_;obtain ⟨o04,ho04,hMl⟩:=zC hM;refine zBl s1 0 0 o04 ho04 iR  (fun _ _ _ h=>h) (fun _ _ h=>h) ?_ ?_
 · intro imm04 n01 heq4 le4;subst o04;have hle:=hle.trans le4;refine yD<|zE<|zF<|zF<|zB<|yA [] [(63,.bool neg)]<|zE ?_;obtain ⟨o05,ho05,hMc4⟩:=zC hMl;refine yU (fun imm' hs' m'=>∃ (n02:Int),o05=n02∧imm04.le imm'∧hs'=[]∧m'=[(5,vI n02)]) ?_ ?_
   · have hle:=iS imm04;refine yO ho05 ?_ ?_
     · intro hc10 hM;exact zB<|yA [] [(5,vI (W (0 - n01)))]<|yT [(5,vI (W (0 - n01)))]<|yB ⟨_,(zD hM).symm,hle,rfl,rfl⟩
     intro hc10 hM;exact yE<|yT [(5,vI n01)]<|yB ⟨_,(zD hM).symm,hle,rfl,rfl⟩
   rintro imm05 hs2 m2 ⟨n02,heq5,le5,rfl,rfl⟩;subst o05;refine zE<|zF<|zB<|yA [] [(2,vI n02),(3,.bool true)]<|zE<|yJ ?_;obtain rfl:=zD hMc4;exact yQ ⟨_,_,(.tmp rfl (.tmp rfl ResV.nil)),zX,⟨_,_,rfl,rfl,rfl,rfl⟩⟩
 intro r0 imm9 hs9 m9 heq9 le9 hrs9;subst heq9;refine yF<|zR ?_;obtain rfl:=zD hMl;exact yQ hrs9
def zBA (r:Int×Int):KT:=fun kk imm' hs' v=>
  ∃ v0 v1,hs'=[]∧v=tupV [v0,v1]∧v0=.int .i64 r.1∧v1=.int .i64 r.2
def tZ (s:Str) (at0:Int) (end0:Int):Option (Int):=do
 let t31←(do
   if (decide (end0 < (s.l.length:Int))) then
    if (decide (end0 < (W (at0 + 2)))) then
     let b←sidx s end0
     if (decide ((b.toNat:Int) ≥ 48)) then
      let b1←sidx s end0
      pure (decide ((b1.toNat:Int) ≤ 57))
     else
      pure false
    else
     pure false
   else
    pure false
     : Option Bool)
 if t31 then
  tZ s at0 (W (end0 + 1))
 else
  pure (id end0)
 partial_fixpoint
theorem zA2 (s:Str) (at0:Int):∀ (end0:Int) (o:Int),tZ s at0 end0=some o→∀ {B}{imm0 imm:Imm}{Q}  ,imm0.le imm→(∀ gl a w,¬Q (.goto gl) a w)→(∀ a w,¬Q .outgrown a w)→(∀ (imm':Imm) (end01:Int),o=end01→imm0.le imm'→T 47 B Q (.exit 0) imm' [] [(0,vT s.l),(1,vI at0),(6,vI end01)])→J Tryz.prog 47 B (nav (bodyOf Tryz.f163) [1,1,0,0]) Q imm [] [(0,vT s.l),(1,vI at0),(6,vI end0)]:=by
 refine tZ.partial_correctness s at0 _ ?_;intro self ih end0 o hM B imm0 imm Q  hle  hg ho hx;refine xC hg ho<|zF<|zF ?_;obtain ⟨o0,ho0,hMc⟩:=zC hM;refine yU (fun imm' hs' m'=>∃ (t31:Bool),o0=t31∧imm.le imm'∧hs'=[]∧m'=[(0,vT s.l),(1,vI at0),(6,vI end0),(31,.bool t31)]) ?_ ?_
 · have hle:=iS imm;refine zB<|yK 5 [] [(14,.bool (decide (end0 < (s.l.length:Int))))] ?_;cases hc:(decide (end0 < (s.l.length:Int))) with
   | true =>
    have hM0:=zW hc ho0
    try rw [hc]
    refine yK 11 [] [(20,.bool (decide (end0 < (W (at0 + 2)))))] ?_;cases hc1:(decide (end0 < (W (at0 + 2)))) with
    | true =>
     have hM01:=zW hc1 hM0
     try rw [hc1]
     refine yK 13 [] [(21,vT s.l),(22,vI end0)] ?_;obtain ⟨b,hy,hM⟩:=zC hM01;refine jV rfl rfl hy<|yK 17 [] [(26,.bool (decide ((b.toNat:Int) ≥ 48)))] ?_;cases hc2:(decide ((b.toNat:Int) ≥ 48)) with
     | true =>
      have hM02:=zW hc2 hM
      try rw [hc2]
      refine yK 19 [] [(27,vT s.l),(28,vI end0)] ?_;obtain ⟨b1,hy1,hM⟩:=zC hM02;exact jV rfl rfl hy1<|yA [] [(31,.bool (decide ((b1.toNat:Int) ≤ 57)))]<|yT [(0,vT s.l),(1,vI at0),(6,vI end0),(31,.bool (decide ((b1.toNat:Int) ≤ 57)))]<|yB ⟨_,(zD hM).symm,hle,rfl,rfl⟩
     | false =>
      have hM03:=zU hc2 hM
      try rw [hc2]
      exact yA [] [(31,.bool false)]<|yT [(0,vT s.l),(1,vI at0),(6,vI end0),(31,.bool false)]<|yB ⟨_,(zD hM03).symm,hle,rfl,rfl⟩
    | false =>
     have hM04:=zU hc1 hM0
     try rw [hc1]
     exact yA [] [(31,.bool false)]<|yT [(0,vT s.l),(1,vI at0),(6,vI end0),(31,.bool false)]<|yB ⟨_,(zD hM04).symm,hle,rfl,rfl⟩
   | false =>
    have hM05:=zU hc ho0
    try rw [hc]
    exact yA [] [(31,.bool false)]<|yT [(0,vT s.l),(1,vI at0),(6,vI end0),(31,.bool false)]<|yB ⟨_,(zD hM05).symm,hle,rfl,rfl⟩
 rintro imm0 hs2 m2 ⟨t31,heq,le,rfl,rfl⟩;subst o0;have hle:=hle.trans le;refine zE<|yO hMc ?_ ?_
 · intro hc3 hM;exact yE<|zE<|yC<|zB<|yA [] [(6,vI (W (end0 + 1)))]<|zY<|xD<|vQ [(0,vT s.l),(1,vI at0),(6,vI (W (end0 + 1)))]<|ih (W (end0 + 1)) _ hM hle  hg ho hx
 intro hc3 hM;exact xA<|zS<|zS<|yT [(0,vT s.l),(1,vI at0),(6,vI end0)]<|hx _ _ (zD hM).symm hle
def pH (s:Str) (at0:Int):Option (Int×Int):=do
 let end01←tZ s at0 at0
 let s1←sslc s at0 end01
 let (y1,y2)←nY s1
 if (!y2) then
  pure (1,at0)
 else
  pure (y1,end01)
theorem fE:∀ (s:Str) (at0:Int) r,pH s at0=some r→∀ {imm:Imm} ,Ret Tryz.prog 163 [vT s.l,vI at0] imm [] (zBA  r):=by
 intro s at0 r hM imm;unfold pH at hM;refine yG (fn:=Tryz.f163) (c:=(bodyOf Tryz.f163)) Tryz.func163 rfl rfl ?_;rintro B - -;refine zF<|zB<|yA [] []<|zE<|zF<|zB<|yA [] [(6,vI at0)]<|zE<|zF<|yC<|vQ [(0,vT s.l),(1,vI at0),(6,vI at0)] ?_;obtain ⟨o01,ho01,hMl⟩:=zC hM;refine zA2 s at0 at0 o01 ho01 iR  (fun _ _ _ h=>h) (fun _ _ h=>h) ?_;intro imm01 end01 heq1 le1;subst o01;refine yD<|zE<|zF<|zB<|yK 3 [] [(35,vT s.l),(36,vI at0),(37,vI end01)] ?_;obtain ⟨s1,hy2,hM⟩:=zC hMl;refine zEQ rfl hy2 ?_;obtain ⟨⟨y1,y2⟩,hy3,hM⟩:=zC hM;refine yR (zDl s1 _ hy3 ) ?_;rintro imm02 hs2 v2 k2 le2 - ⟨v0,v01,rfl,rfl,rfl,rfl⟩ -;refine yA [] [(7,vI y1),(8,.bool y2)]<|zE<|zF<|zF<|zB<|yA [] [(43,.bool (!y2))]<|zE<|yO hM ?_ ?_
 · intro hc4 hM;refine zF<|zB<|yA [] [(4,vI 1),(5,vI at0)]<|zE<|yJ<|zR ?_;obtain rfl:=zD hM;exact yQ ⟨_,_,(.tmp rfl (.tmp rfl ResV.nil)),zX,⟨_,_,rfl,rfl,rfl,rfl⟩⟩
 intro hc4 hM;refine yE<|zE<|zF<|zB<|yA [] [(4,vI y1),(5,vI end01)]<|zE<|yJ ?_;obtain rfl:=zD hM;exact yQ ⟨_,_,(.tmp rfl (.tmp rfl ResV.nil)),zX,⟨_,_,rfl,rfl,rfl,rfl⟩⟩
def zCa (r:Int):KT:=fun kk imm' hs' v=>
  ∃ v0,hs'=[]∧v=tupV [v0]∧v0=.int .i64 r
def nZ (s:Str) (at0:Int):Option (Int):=do
 let t20←(do
   if (decide (at0 ≥ (s.l.length:Int))) then
    pure true
   else
    let b←sidx s at0
    if (decide ((b.toNat:Int) < 105)) then
     pure true
    else
     let b1←sidx s at0
     pure (decide ((b1.toNat:Int) > 108))
     : Option Bool)
 if t20 then
  pure (-1)
 else
  let b2←sidx s at0
  pure (W ((W (b2.toNat:Int)) - 105))
theorem zDm:∀ (s:Str) (at0:Int) r,nZ s at0=some r→∀ {imm:Imm} ,Ret Tryz.prog 180 [vT s.l,vI at0] imm [] (zCa  r):=by
 intro s at0 r hM imm;unfold nZ at hM;refine yG (fn:=Tryz.f180) (c:=(bodyOf Tryz.f180)) Tryz.func180 rfl rfl ?_;rintro B - -;have hle:=iS imm;refine zF<|zB<|yA [] []<|zE<|zF<|zF ?_;obtain ⟨o0,ho0,hMc⟩:=zC hM;refine yU (fun imm' hs' m'=>∃ (t20:Bool),o0=t20∧imm.le imm'∧hs'=[]∧m'=[(0,vT s.l),(1,vI at0),(20,.bool t20)]) ?_ ?_
 · have hle:=iS imm;refine zB<|yK 5 [] [(9,.bool (decide (at0 ≥ (s.l.length:Int))))] ?_;cases hc:(decide (at0 ≥ (s.l.length:Int))) with
   | true =>
    have hM0:=zW hc ho0
    try rw [hc]
    exact yA [] [(20,.bool true)]<|yT [(0,vT s.l),(1,vI at0),(20,.bool true)]<|yB ⟨_,(zD hM0).symm,hle,rfl,rfl⟩
   | false =>
    have hM01:=zU hc ho0
    try rw [hc]
    refine yK 7 [] [(10,vT s.l),(11,vI at0)] ?_;obtain ⟨b,hy,hM⟩:=zC hM01;refine jV rfl rfl hy<|yK 11 [] [(15,.bool (decide ((b.toNat:Int) < 105)))] ?_;cases hc1:(decide ((b.toNat:Int) < 105)) with
    | true =>
     have hM02:=zW hc1 hM
     try rw [hc1]
     exact yA [] [(20,.bool true)]<|yT [(0,vT s.l),(1,vI at0),(20,.bool true)]<|yB ⟨_,(zD hM02).symm,hle,rfl,rfl⟩
    | false =>
     have hM03:=zU hc1 hM
     try rw [hc1]
     refine yK 13 [] [(16,vT s.l),(17,vI at0)] ?_;obtain ⟨b1,hy1,hM⟩:=zC hM03;exact jV rfl rfl hy1<|yA [] [(20,.bool (decide ((b1.toNat:Int) > 108)))]<|yT [(0,vT s.l),(1,vI at0),(20,.bool (decide ((b1.toNat:Int) > 108)))]<|yB ⟨_,(zD hM).symm,hle,rfl,rfl⟩
 rintro imm0 hs2 m2 ⟨t20,heq,le,rfl,rfl⟩;subst o0;refine zE<|yO hMc ?_ ?_
 · intro hc2 hM;refine zF<|zB<|yA [] [(4,vI (-1))]<|zE<|yJ<|zR ?_;obtain rfl:=zD hM;exact yQ ⟨_,_,(.tmp rfl ResV.nil),zX,⟨_,rfl,rfl,rfl⟩⟩
 intro hc2 hM;refine yE<|zE<|zF<|zB<|yK 2 [] [(21,vT s.l),(22,vI at0)] ?_;obtain ⟨b2,hy2,hM⟩:=zC hM;refine jV rfl rfl hy2<|yA [] [(4,vI (W ((W (b2.toNat:Int)) - 105)))]<|zE<|yJ ?_;obtain rfl:=zD hM;exact yQ ⟨_,_,(.tmp rfl ResV.nil),zX,⟨_,rfl,rfl,rfl⟩⟩
end Go.LN
