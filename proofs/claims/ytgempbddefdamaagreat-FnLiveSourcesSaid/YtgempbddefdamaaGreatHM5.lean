/- Helper of the proof (see the last text). -/
import Derived.Test.YtgempbddefdamaaGreatHM4
set_option linter.unusedVariables false
set_option linter.unusedSimpArgs false
namespace Go.LN
open Go.Proofs
set_option maxRecDepth 20000
def jQ (r:Bool):KT:=fun kk imm' hs' v=>
  ∃ v0,hs'=[]∧v=tupV [v0]∧v0=.bool r
def sA (list:(List zJ)) (t7:Int):Option (Out Unit (Bool)):=do
 if (decide (t7 < (list.length:Int))) then
  let x←idx list t7
  let t42←(do
    let y←oL x.Name
    if (!y) then
     pure true
    else
     if (decide (t7 > 0)) then
      let x1←idx list (W (t7 - 1))
      if (!(Op.bytesLess x1.Name.l x.Name.l)) then
       pure true
      else
       let y1←xV (x.Dims.length:Int) 1 2
       if (!y1) then
        pure true
       else
        let y2←xG x.Dims vY
        pure (id y2)
     else
      let y3←xV (x.Dims.length:Int) 1 2
      if (!y3) then
       pure true
      else
       let y4←xG x.Dims vY
       pure (id y4)
      : Option Bool)
  if t42 then
   pure (.ret false)
  else
   sA list (W (t7 + 1))
 else
  pure (.done ())
 partial_fixpoint
theorem zA6 (list:(List zJ)):∀ (t7:Int) (o:Out Unit (Bool)),sA list t7=some o→∀ {B}{imm0 imm:Imm}{Q p c},imm0.le imm→(S4 imm p list c)→(∀ gl a w,¬Q (.goto gl) a w)→(∀ a w,¬Q .outgrown a w)→(∀ (imm':Imm) ,o=(.done ())→imm0.le imm'→T 47 B Q (.exit 0) imm' [] [(0,vS p list c)])→(∀ r imm' hs' m',o=(.ret r)→imm0.le imm'→RS Tryz.prog Tryz.f63 B (jQ  r) imm' hs' m'→T 47 B Q .ret imm' hs' m')→J Tryz.prog 47 B (nav (bodyOf Tryz.f63) [1,0,1,0]) Q imm [] [(0,vS p list c),(5,vS p list c),(6,vI (list.length:Int)),(7,vI t7)]:=by
 refine sA.partial_correctness list _ ?_;intro self ih t7 o hM B imm0 imm Q p c hle h hg ho hx hr;refine xC hg ho<|zF<|zB<|yA [] [(8,.bool (decide (t7 < (list.length:Int))))]<|zE<|zF<|yO hM ?_ ?_
 · intro hc hM;refine yE<|zE<|zF<|yC<|zF<|zB<|yK 1 [] [(9,vI t7)] ?_;obtain ⟨x,hy,hM⟩:=zC hM;refine wJ rfl rfl h hy ?_;intro ad ccs hat hrep;obtain ⟨v0,rfl,h1⟩:=xZ hrep;obtain ⟨p1,c1,rfl⟩:=h1.form;refine xS 0 hat (cArr x p1 c1) (vA (cArr x p1 c1)) rfl<|uD [vT ([]),z0] ?_;intro b hb;refine yK 5 [] [(3,vI t7)]<|xJ 0 (cArr x p1 c1) [hB b (cArr x p1 c1)] rfl rfl rfl rfl<|yN rfl<|zE<|zF ?_;obtain ⟨o0,ho0,hMc⟩:=zC hM;refine yU (fun imm' hs' m'=>∃ (t42:Bool),o0=t42∧imm.le imm'∧hs'=[]∧m'=[(0,vS p list c),(5,vS p list c),(6,vI (list.length:Int)),(7,vI t7),(42,.bool t42)]) ?_ ?_
   · have hle:=iS imm;obtain ⟨y,hy1,hM⟩:=zC ho0;cases hc1:(!y) with
     | true =>
      have hM0:=zW hc1 hM;refine uA [.p (vP b 0) [],.p (vT x.Name.l) [0],.q (.bool y),.q (.bool true),.q (.bool true),.p undef [],.p undef [],.p undef [],.p undef [],.p undef [],.p undef [],.p undef [],.p undef [],.p undef [],.p undef [],.p undef [],.p undef [],.p undef [],.p (.bool true) [],.p (.bool true) [],.p undef [],.p undef [],.p undef [],.p undef [],.p undef [],.p (.bool true) [],.p (.bool true) [],.p undef [],.p undef [],.p undef [],.p (.bool true) []] [[],[(0,false)],[(1,false)],[(2,false)],[(3,false)],[(4,false)],[(4,false),(5,false)],[(4,false),(6,false)],[(7,false)],[(7,false)],[(7,false),(9,false)],[(7,false),(8,false),(10,false)],[(7,false),(11,false)],[(7,false),(12,false)],[(7,false)],[(7,false),(14,false)],[(7,false),(13,false),(15,false)],[(4,false),(7,false),(16,false)],[(4,false),(17,false)],[(18,false)],[(19,false)],[(19,false),(20,false)],[(19,false),(21,false)],[(19,false),(22,false)],[(19,false),(23,false)],[(19,false),(24,false)],[(25,false)],[(26,false)],[(26,false),(27,false)],[(26,false),(28,false)],[(26,false),(29,false)]] [hB b (cArr x p1 c1)] [] [(30,false)] (zK [0] rfl (by decide)) ?_ ?_
      · refine Op<|Op<|Oq ?_<|Oq ?_<|Oq ?_<|Op<|Op<|Op<|Op<|Op<|Op<|Op<|Op<|Op<|Op<|Op<|Op<|Op<|Op<|Op<|Op<|Op<|Op<|Op<|Op<|Op<|Op<|Op<|Op<|Op<|Op<|On
        · intro imm1 hf le1;refine zG ?_;rintro _ _ ⟨rfl,rfl⟩;refine zN<|yH [(13,vT x.Name.l)] ?_;have hle:=iS imm1;refine yR (qF x.Name _ hy1 ) ?_;rintro imm01 hs2 v2 k2 le - ⟨v01,rfl,rfl,rfl⟩ -;have hle:=hle.trans le;exact zZ (hx:=[]) rfl hle rfl (zM rfl) ⟨rfl,rfl⟩
        · intro imm1 hf le1;refine zG ?_;rintro _ _ ⟨rfl,rfl⟩;refine zN<|yH [(14,.bool y)] ?_;have hle:=iS imm1;refine qV 4 [(15,.bool (!y))] ?_;rw [hc1];exact zZ (hx:=[]) rfl hle rfl (zM rfl) ⟨rfl,rfl⟩
        intro imm1 hf le1;refine zG ?_;rintro _ _ ⟨rfl,rfl⟩;refine zN<|yH [(15,.bool true)] ?_;have hle:=iS imm1;exact qV 5 [(16,.bool true)]<|zZ (hx:=[]) rfl hle rfl (zM rfl) ⟨rfl,rfl⟩
      intro imm02 le1;refine zG ?_;rintro _ _ ⟨rfl,rfl⟩;refine zN<|yH [(0,vS p list c),(5,vS p list c),(6,vI (list.length:Int)),(7,vI t7),(42,.bool true)] ?_;have hle:=hle.trans le1;exact yN rfl<|wD (zK [] rfl (by decide))<|yT [(0,vS p list c),(5,vS p list c),(6,vI (list.length:Int)),(7,vI t7),(42,.bool true)]<|yB ⟨_,(zD hM0).symm,hle,rfl,rfl⟩
     | false =>
      have hM01:=zU hc1 hM;cases hc2:(decide (t7 > 0)) with
      | true =>
       have hM02:=zW hc2 hM01;obtain ⟨x1,hy2,hM⟩:=zC hM02;cases hc3:(!(Op.bytesLess x1.Name.l x.Name.l)) with
       | true =>
        have hM03:=zW hc3 hM;refine uA [.p (vP b 0) [],.p (vT x.Name.l) [0],.q (.bool y),.q (.bool false),.q (.bool false),.p (vI t7) [],.q (.bool true),.q (.bool true),.p (vS p list c) [],.p (vI t7) [],.p (vI (W (t7 - 1))) [],.x (fun imm' v hx=>∃ ad1 p2 c2,v=.pointer (some ad1)∧hx=[]∧(At imm' ad1 (cArr x1 p2 c2))∧(S4 imm' p2 x1.Dims c2)),.x (fun imm' v hx=>∃ ad11 p21 c21,v=.pointer (some ad11)∧hx=[]∧(At imm' ad11 (cArr x1 p21 c21))∧(S4 imm' p21 x1.Dims c21)),.q (vT x1.Name.l),.p (vP b 0) [],.p (vT x.Name.l) [0],.q (.bool true),.q (.bool true),.q (.bool true),.q (.bool true),.p undef [],.p undef [],.p undef [],.p undef [],.p undef [],.p (.bool true) [],.p (.bool true) [],.p undef [],.p undef [],.p undef [],.p (.bool true) []] [[],[(0,false)],[(1,false)],[(2,false)],[(3,false)],[(4,false)],[(4,false),(5,false)],[(4,false),(6,false)],[(7,false)],[(7,false)],[(7,false),(9,false)],[(7,false),(8,false),(10,false)],[(7,false),(11,false)],[(7,false),(12,false)],[(7,false)],[(7,false),(14,false)],[(7,false),(13,false),(15,false)],[(4,false),(7,false),(16,false)],[(4,false),(17,false)],[(18,false)],[(19,false)],[(19,false),(20,false)],[(19,false),(21,false)],[(19,false),(22,false)],[(19,false),(23,false)],[(19,false),(24,false)],[(25,false)],[(26,false)],[(26,false),(27,false)],[(26,false),(28,false)],[(26,false),(29,false)]] [hB b (cArr x p1 c1)] [] [(30,false)] (zK [0] rfl (by decide)) ?_ ?_
        · refine Op<|Op<|Oq ?_<|Oq ?_<|Oq ?_<|Op<|Oq ?_<|Oq ?_<|Op<|Op<|Op<|Ox ?_<|Ox ?_<|Oq ?_<|Op<|Op<|Oq ?_<|Oq ?_<|Oq ?_<|Oq ?_<|Op<|Op<|Op<|Op<|Op<|Op<|Op<|Op<|Op<|Op<|Op<|On
          · intro imm1 hf le1;refine zG ?_;rintro _ _ ⟨rfl,rfl⟩;refine zN<|yH [(13,vT x.Name.l)] ?_;have hle:=iS imm1;refine yR (qF x.Name _ hy1 ) ?_;rintro imm01 hs2 v2 k2 le - ⟨v01,rfl,rfl,rfl⟩ -;have hle:=hle.trans le;exact zZ (hx:=[]) rfl hle rfl (zM rfl) ⟨rfl,rfl⟩
          · intro imm1 hf le1;refine zG ?_;rintro _ _ ⟨rfl,rfl⟩;refine zN<|yH [(14,.bool y)] ?_;have hle:=iS imm1;refine qV 4 [(15,.bool (!y))] ?_;rw [hc1];exact zZ (hx:=[]) rfl hle rfl (zM rfl) ⟨rfl,rfl⟩
          · intro imm1 hf le1;refine zG ?_;rintro _ _ ⟨rfl,rfl⟩;refine zN<|yH [(15,.bool false)] ?_;have hle:=iS imm1;exact qV 5 [(16,.bool false)]<|zZ (hx:=[]) rfl hle rfl (zM rfl) ⟨rfl,rfl⟩
          · intro imm1 hf le1;refine zG ?_;rintro _ _ ⟨rfl,rfl⟩;refine zG ?_;rintro _ _ ⟨rfl,rfl⟩;refine zN<|yH [(16,.bool false),(17,vI t7)] ?_;have hle:=iS imm1;refine qV 7 [(18,.bool (decide (t7 > 0)))] ?_;rw [hc2];exact zZ (hx:=[]) rfl hle rfl (zM rfl) ⟨rfl,rfl⟩
          · intro imm1 hf le1;refine zG ?_;rintro _ _ ⟨rfl,rfl⟩;refine zG ?_;rintro _ _ ⟨rfl,rfl⟩;refine zN<|yH [(16,.bool false),(18,.bool true)] ?_;have hle:=iS imm1;exact qV 8 [(19,.bool true)]<|zZ (hx:=[]) rfl hle rfl (zM rfl) ⟨rfl,rfl⟩
          · intro imm1 hf le1;refine zG ?_;rintro _ _ ⟨rfl,rfl⟩;refine zG ?_;rintro _ _ ⟨rfl,rfl⟩;refine zG ?_;rintro _ _ ⟨rfl,rfl⟩;refine zN<|yH [(19,.bool true),(20,vS p list c),(22,vI (W (t7 - 1)))] ?_;have hle:=iS imm1;have h:=h.mono le1;refine wJ rfl rfl h hy2 ?_;intro ad1 ccs1 hat1 hrep1;obtain ⟨v02,rfl,h3⟩:=xZ hrep1;obtain ⟨p2,c2,rfl⟩:=h3.form;exact zZ (hx:=[]) rfl hle rfl (zM rfl) ⟨_,_,_,rfl,rfl,hat1,h3⟩
          · intro imm1 hf le1;refine zG ?_;rintro _ _ ⟨rfl,rfl⟩;refine zG ?_;rintro _ _ ⟨ad1,p2,c2,rfl,rfl,hat1,h3⟩;refine zN<|yH [(19,.bool true),(23,.pointer (some ad1))] ?_;have hle:=iS imm1;exact qV 13 [(24,.pointer (some ad1))]<|zZ (hx:=[]) rfl hle rfl (zM rfl) ⟨_,_,_,rfl,rfl,hat1,h3⟩
          · intro imm1 hf le1;refine zG ?_;rintro _ _ ⟨rfl,rfl⟩;refine zG ?_;rintro _ _ ⟨ad11,p21,c21,rfl,rfl,hat11,h31⟩;refine zN<|yH [(19,.bool true),(24,.pointer (some ad11))] ?_;have hle:=iS imm1;exact xS 0 hat11 [vT x1.Name.l] (vT x1.Name.l) rfl<|zZ (hx:=[]) rfl hle rfl (zM rfl) ⟨rfl,rfl⟩
          · intro imm1 hf le1;refine zG ?_;rintro _ _ ⟨rfl,rfl⟩;refine zG ?_;rintro _ _ ⟨rfl,rfl⟩;refine zG ?_;rintro _ _ ⟨rfl,rfl⟩;refine zN<|yH [(19,.bool true),(25,vT x1.Name.l),(27,vT x.Name.l)] ?_;have hle:=iS imm1;refine qV 17 [(28,.bool (!(Op.bytesLess x1.Name.l x.Name.l)))] ?_;rw [hc3];exact zZ (hx:=[]) rfl hle rfl (zM rfl) ⟨rfl,rfl⟩
          · intro imm1 hf le1;refine zG ?_;rintro _ _ ⟨rfl,rfl⟩;refine zG ?_;rintro _ _ ⟨rfl,rfl⟩;refine zG ?_;rintro _ _ ⟨rfl,rfl⟩;refine zN<|yH [(16,.bool false),(19,.bool true),(28,.bool true)] ?_;have hle:=iS imm1;exact qV 18 [(29,.bool true)]<|zZ (hx:=[]) rfl hle rfl (zM rfl) ⟨rfl,rfl⟩
          · intro imm1 hf le1;refine zG ?_;rintro _ _ ⟨rfl,rfl⟩;refine zG ?_;rintro _ _ ⟨rfl,rfl⟩;refine zN<|yH [(16,.bool false),(29,.bool true)] ?_;have hle:=iS imm1;exact qV 19 [(30,.bool true)]<|zZ (hx:=[]) rfl hle rfl (zM rfl) ⟨rfl,rfl⟩
          intro imm1 hf le1;refine zG ?_;rintro _ _ ⟨rfl,rfl⟩;refine zN<|yH [(30,.bool true)] ?_;have hle:=iS imm1;exact qV 20 [(31,.bool true)]<|zZ (hx:=[]) rfl hle rfl (zM rfl) ⟨rfl,rfl⟩
        intro imm03 le2;refine zG ?_;rintro _ _ ⟨rfl,rfl⟩;refine zN<|yH [(0,vS p list c),(5,vS p list c),(6,vI (list.length:Int)),(7,vI t7),(42,.bool true)] ?_;have hle:=hle.trans le2;exact yN rfl<|wD (zK [] rfl (by decide))<|yT [(0,vS p list c),(5,vS p list c),(6,vI (list.length:Int)),(7,vI t7),(42,.bool true)]<|yB ⟨_,(zD hM03).symm,hle,rfl,rfl⟩
       | false =>
        have hM04:=zU hc3 hM;obtain ⟨y1,hy3,hM⟩:=zC hM04;cases hc4:(!y1) with
        | true =>
         have hM05:=zW hc4 hM;refine uA [.p (vP b 0) [],.p (vT x.Name.l) [0],.q (.bool y),.q (.bool false),.q (.bool false),.p (vI t7) [],.q (.bool true),.q (.bool true),.p (vS p list c) [],.p (vI t7) [],.p (vI (W (t7 - 1))) [],.x (fun imm' v hx=>∃ ad1 p2 c2,v=.pointer (some ad1)∧hx=[]∧(At imm' ad1 (cArr x1 p2 c2))∧(S4 imm' p2 x1.Dims c2)),.x (fun imm' v hx=>∃ ad11 p21 c21,v=.pointer (some ad11)∧hx=[]∧(At imm' ad11 (cArr x1 p21 c21))∧(S4 imm' p21 x1.Dims c21)),.q (vT x1.Name.l),.p (vP b 0) [],.p (vT x.Name.l) [0],.q (.bool false),.q (.bool false),.q (.bool false),.q (.bool false),.p (vP b 1) [],.p (vS p1 x.Dims c1) [0],.p (vI (x.Dims.length:Int)) [],.q (.bool y1),.q (.bool true),.q (.bool true),.q (.bool true),.p undef [],.p undef [],.p undef [],.p (.bool true) []] [[],[(0,false)],[(1,false)],[(2,false)],[(3,false)],[(4,false)],[(4,false),(5,false)],[(4,false),(6,false)],[(7,false)],[(7,false)],[(7,false),(9,false)],[(7,false),(8,false),(10,false)],[(7,false),(11,false)],[(7,false),(12,false)],[(7,false)],[(7,false),(14,false)],[(7,false),(13,false),(15,false)],[(4,false),(7,false),(16,false)],[(4,false),(17,false)],[(18,false)],[(19,false)],[(19,false),(20,false)],[(19,false),(21,false)],[(19,false),(22,false)],[(19,false),(23,false)],[(19,false),(24,false)],[(25,false)],[(26,false)],[(26,false),(27,false)],[(26,false),(28,false)],[(26,false),(29,false)]] [hB b (cArr x p1 c1)] [] [(30,false)] (zK [0] rfl (by decide)) ?_ ?_
         · refine Op<|Op<|Oq ?_<|Oq ?_<|Oq ?_<|Op<|Oq ?_<|Oq ?_<|Op<|Op<|Op<|Ox ?_<|Ox ?_<|Oq ?_<|Op<|Op<|Oq ?_<|Oq ?_<|Oq ?_<|Oq ?_<|Op<|Op<|Op<|Oq ?_<|Oq ?_<|Oq ?_<|Oq ?_<|Op<|Op<|Op<|Op<|On
           · intro imm1 hf le1;refine zG ?_;rintro _ _ ⟨rfl,rfl⟩;refine zN<|yH [(13,vT x.Name.l)] ?_;have hle:=iS imm1;refine yR (qF x.Name _ hy1 ) ?_;rintro imm01 hs2 v2 k2 le - ⟨v01,rfl,rfl,rfl⟩ -;have hle:=hle.trans le;exact zZ (hx:=[]) rfl hle rfl (zM rfl) ⟨rfl,rfl⟩
           · intro imm1 hf le1;refine zG ?_;rintro _ _ ⟨rfl,rfl⟩;refine zN<|yH [(14,.bool y)] ?_;have hle:=iS imm1;refine qV 4 [(15,.bool (!y))] ?_;rw [hc1];exact zZ (hx:=[]) rfl hle rfl (zM rfl) ⟨rfl,rfl⟩
           · intro imm1 hf le1;refine zG ?_;rintro _ _ ⟨rfl,rfl⟩;refine zN<|yH [(15,.bool false)] ?_;have hle:=iS imm1;exact qV 5 [(16,.bool false)]<|zZ (hx:=[]) rfl hle rfl (zM rfl) ⟨rfl,rfl⟩
           · intro imm1 hf le1;refine zG ?_;rintro _ _ ⟨rfl,rfl⟩;refine zG ?_;rintro _ _ ⟨rfl,rfl⟩;refine zN<|yH [(16,.bool false),(17,vI t7)] ?_;have hle:=iS imm1;refine qV 7 [(18,.bool (decide (t7 > 0)))] ?_;rw [hc2];exact zZ (hx:=[]) rfl hle rfl (zM rfl) ⟨rfl,rfl⟩
           · intro imm1 hf le1;refine zG ?_;rintro _ _ ⟨rfl,rfl⟩;refine zG ?_;rintro _ _ ⟨rfl,rfl⟩;refine zN<|yH [(16,.bool false),(18,.bool true)] ?_;have hle:=iS imm1;exact qV 8 [(19,.bool true)]<|zZ (hx:=[]) rfl hle rfl (zM rfl) ⟨rfl,rfl⟩
           · intro imm1 hf le1;refine zG ?_;rintro _ _ ⟨rfl,rfl⟩;refine zG ?_;rintro _ _ ⟨rfl,rfl⟩;refine zG ?_;rintro _ _ ⟨rfl,rfl⟩;refine zN<|yH [(19,.bool true),(20,vS p list c),(22,vI (W (t7 - 1)))] ?_;have hle:=iS imm1;have h:=h.mono le1;refine wJ rfl rfl h hy2 ?_;intro ad1 ccs1 hat1 hrep1;obtain ⟨v02,rfl,h3⟩:=xZ hrep1;obtain ⟨p2,c2,rfl⟩:=h3.form;exact zZ (hx:=[]) rfl hle rfl (zM rfl) ⟨_,_,_,rfl,rfl,hat1,h3⟩
           · intro imm1 hf le1;refine zG ?_;rintro _ _ ⟨rfl,rfl⟩;refine zG ?_;rintro _ _ ⟨ad1,p2,c2,rfl,rfl,hat1,h3⟩;refine zN<|yH [(19,.bool true),(23,.pointer (some ad1))] ?_;have hle:=iS imm1;exact qV 13 [(24,.pointer (some ad1))]<|zZ (hx:=[]) rfl hle rfl (zM rfl) ⟨_,_,_,rfl,rfl,hat1,h3⟩
           · intro imm1 hf le1;refine zG ?_;rintro _ _ ⟨rfl,rfl⟩;refine zG ?_;rintro _ _ ⟨ad11,p21,c21,rfl,rfl,hat11,h31⟩;refine zN<|yH [(19,.bool true),(24,.pointer (some ad11))] ?_;have hle:=iS imm1;exact xS 0 hat11 [vT x1.Name.l] (vT x1.Name.l) rfl<|zZ (hx:=[]) rfl hle rfl (zM rfl) ⟨rfl,rfl⟩
           · intro imm1 hf le1;refine zG ?_;rintro _ _ ⟨rfl,rfl⟩;refine zG ?_;rintro _ _ ⟨rfl,rfl⟩;refine zG ?_;rintro _ _ ⟨rfl,rfl⟩;refine zN<|yH [(19,.bool true),(25,vT x1.Name.l),(27,vT x.Name.l)] ?_;have hle:=iS imm1;refine qV 17 [(28,.bool (!(Op.bytesLess x1.Name.l x.Name.l)))] ?_;rw [hc3];exact zZ (hx:=[]) rfl hle rfl (zM rfl) ⟨rfl,rfl⟩
           · intro imm1 hf le1;refine zG ?_;rintro _ _ ⟨rfl,rfl⟩;refine zG ?_;rintro _ _ ⟨rfl,rfl⟩;refine zG ?_;rintro _ _ ⟨rfl,rfl⟩;refine zN<|yH [(16,.bool false),(19,.bool true),(28,.bool false)] ?_;have hle:=iS imm1;exact qV 18 [(29,.bool false)]<|zZ (hx:=[]) rfl hle rfl (zM rfl) ⟨rfl,rfl⟩
           · intro imm1 hf le1;refine zG ?_;rintro _ _ ⟨rfl,rfl⟩;refine zG ?_;rintro _ _ ⟨rfl,rfl⟩;refine zN<|yH [(16,.bool false),(29,.bool false)] ?_;have hle:=iS imm1;exact qV 19 [(30,.bool false)]<|zZ (hx:=[]) rfl hle rfl (zM rfl) ⟨rfl,rfl⟩
           · intro imm1 hf le1;refine zG ?_;rintro _ _ ⟨rfl,rfl⟩;refine zN<|yH [(30,.bool false)] ?_;have hle:=iS imm1;exact qV 20 [(31,.bool false)]<|zZ (hx:=[]) rfl hle rfl (zM rfl) ⟨rfl,rfl⟩
           · intro imm1 hf le1;refine zG ?_;rintro _ _ ⟨rfl,rfl⟩;refine zG ?_;rintro _ _ ⟨rfl,rfl⟩;refine zN<|yH [(31,.bool false),(34,vI (x.Dims.length:Int))] ?_;have hle:=iS imm1;refine yR (wN (x.Dims.length:Int) 1 2 _ hy3 ) ?_;rintro imm04 hs2 v2 k2 le3 - ⟨v03,rfl,rfl,rfl⟩ -;have hle:=hle.trans le3;exact zZ (hx:=[]) rfl hle rfl (zM rfl) ⟨rfl,rfl⟩
           · intro imm1 hf le1;refine zG ?_;rintro _ _ ⟨rfl,rfl⟩;refine zG ?_;rintro _ _ ⟨rfl,rfl⟩;refine zN<|yH [(31,.bool false),(35,.bool y1)] ?_;have hle:=iS imm1;refine qV 25 [(36,.bool (!y1))] ?_;rw [hc4];exact zZ (hx:=[]) rfl hle rfl (zM rfl) ⟨rfl,rfl⟩
           · intro imm1 hf le1;refine zG ?_;rintro _ _ ⟨rfl,rfl⟩;refine zG ?_;rintro _ _ ⟨rfl,rfl⟩;refine zN<|yH [(31,.bool false),(36,.bool true)] ?_;have hle:=iS imm1;exact qV 26 [(37,.bool true)]<|zZ (hx:=[]) rfl hle rfl (zM rfl) ⟨rfl,rfl⟩
           intro imm1 hf le1;refine zG ?_;rintro _ _ ⟨rfl,rfl⟩;refine zN<|yH [(37,.bool true)] ?_;have hle:=iS imm1;exact qV 27 [(38,.bool true)]<|zZ (hx:=[]) rfl hle rfl (zM rfl) ⟨rfl,rfl⟩
         intro imm05 le4;refine zG ?_;rintro _ _ ⟨rfl,rfl⟩;refine zN<|yH [(0,vS p list c),(5,vS p list c),(6,vI (list.length:Int)),(7,vI t7),(42,.bool true)] ?_;have hle:=hle.trans le4;exact yN rfl<|wD (zK [] rfl (by decide))<|yT [(0,vS p list c),(5,vS p list c),(6,vI (list.length:Int)),(7,vI t7),(42,.bool true)]<|yB ⟨_,(zD hM05).symm,hle,rfl,rfl⟩
        | false =>
         have hM06:=zU hc4 hM;obtain ⟨y2,hy4,hM⟩:=zC hM06;refine uA [.p (vP b 0) [],.p (vT x.Name.l) [0],.q (.bool y),.q (.bool false),.q (.bool false),.p (vI t7) [],.q (.bool true),.q (.bool true),.p (vS p list c) [],.p (vI t7) [],.p (vI (W (t7 - 1))) [],.x (fun imm' v hx=>∃ ad1 p2 c2,v=.pointer (some ad1)∧hx=[]∧(At imm' ad1 (cArr x1 p2 c2))∧(S4 imm' p2 x1.Dims c2)),.x (fun imm' v hx=>∃ ad11 p21 c21,v=.pointer (some ad11)∧hx=[]∧(At imm' ad11 (cArr x1 p21 c21))∧(S4 imm' p21 x1.Dims c21)),.q (vT x1.Name.l),.p (vP b 0) [],.p (vT x.Name.l) [0],.q (.bool false),.q (.bool false),.q (.bool false),.q (.bool false),.p (vP b 1) [],.p (vS p1 x.Dims c1) [0],.p (vI (x.Dims.length:Int)) [],.q (.bool y1),.q (.bool false),.q (.bool false),.q (.bool false),.p (vP b 1) [],.p (vS p1 x.Dims c1) [0],.q (.bool y2),.p (.bool y2) []] [[],[(0,false)],[(1,false)],[(2,false)],[(3,false)],[(4,false)],[(4,false),(5,false)],[(4,false),(6,false)],[(7,false)],[(7,false)],[(7,false),(9,false)],[(7,false),(8,false),(10,false)],[(7,false),(11,false)],[(7,false),(12,false)],[(7,false)],[(7,false),(14,false)],[(7,false),(13,false),(15,false)],[(4,false),(7,false),(16,false)],[(4,false),(17,false)],[(18,false)],[(19,false)],[(19,false),(20,false)],[(19,false),(21,false)],[(19,false),(22,false)],[(19,false),(23,false)],[(19,false),(24,false)],[(25,false)],[(26,false)],[(26,false),(27,false)],[(26,false),(28,false)],[(26,false),(29,false)]] [hB b (cArr x p1 c1)] [] [(30,false)] (zK [0] rfl (by decide)) ?_ ?_
         · refine Op<|Op<|Oq ?_<|Oq ?_<|Oq ?_<|Op<|Oq ?_<|Oq ?_<|Op<|Op<|Op<|Ox ?_<|Ox ?_<|Oq ?_<|Op<|Op<|Oq ?_<|Oq ?_<|Oq ?_<|Oq ?_<|Op<|Op<|Op<|Oq ?_<|Oq ?_<|Oq ?_<|Oq ?_<|Op<|Op<|Oq ?_<|Op<|On
           · intro imm1 hf le1;refine zG ?_;rintro _ _ ⟨rfl,rfl⟩;refine zN<|yH [(13,vT x.Name.l)] ?_;have hle:=iS imm1;refine yR (qF x.Name _ hy1 ) ?_;rintro imm01 hs2 v2 k2 le - ⟨v01,rfl,rfl,rfl⟩ -;have hle:=hle.trans le;exact zZ (hx:=[]) rfl hle rfl (zM rfl) ⟨rfl,rfl⟩
           · intro imm1 hf le1;refine zG ?_;rintro _ _ ⟨rfl,rfl⟩;refine zN<|yH [(14,.bool y)] ?_;have hle:=iS imm1;refine qV 4 [(15,.bool (!y))] ?_;rw [hc1];exact zZ (hx:=[]) rfl hle rfl (zM rfl) ⟨rfl,rfl⟩
           · intro imm1 hf le1;refine zG ?_;rintro _ _ ⟨rfl,rfl⟩;refine zN<|yH [(15,.bool false)] ?_;have hle:=iS imm1;exact qV 5 [(16,.bool false)]<|zZ (hx:=[]) rfl hle rfl (zM rfl) ⟨rfl,rfl⟩
           · intro imm1 hf le1;refine zG ?_;rintro _ _ ⟨rfl,rfl⟩;refine zG ?_;rintro _ _ ⟨rfl,rfl⟩;refine zN<|yH [(16,.bool false),(17,vI t7)] ?_;have hle:=iS imm1;refine qV 7 [(18,.bool (decide (t7 > 0)))] ?_;rw [hc2];exact zZ (hx:=[]) rfl hle rfl (zM rfl) ⟨rfl,rfl⟩
           · intro imm1 hf le1;refine zG ?_;rintro _ _ ⟨rfl,rfl⟩;refine zG ?_;rintro _ _ ⟨rfl,rfl⟩;refine zN<|yH [(16,.bool false),(18,.bool true)] ?_;have hle:=iS imm1;exact qV 8 [(19,.bool true)]<|zZ (hx:=[]) rfl hle rfl (zM rfl) ⟨rfl,rfl⟩
           · intro imm1 hf le1;refine zG ?_;rintro _ _ ⟨rfl,rfl⟩;refine zG ?_;rintro _ _ ⟨rfl,rfl⟩;refine zG ?_;rintro _ _ ⟨rfl,rfl⟩;refine zN<|yH [(19,.bool true),(20,vS p list c),(22,vI (W (t7 - 1)))] ?_;have hle:=iS imm1;have h:=h.mono le1;refine wJ rfl rfl h hy2 ?_;intro ad1 ccs1 hat1 hrep1;obtain ⟨v02,rfl,h3⟩:=xZ hrep1;obtain ⟨p2,c2,rfl⟩:=h3.form;exact zZ (hx:=[]) rfl hle rfl (zM rfl) ⟨_,_,_,rfl,rfl,hat1,h3⟩
           · intro imm1 hf le1;refine zG ?_;rintro _ _ ⟨rfl,rfl⟩;refine zG ?_;rintro _ _ ⟨ad1,p2,c2,rfl,rfl,hat1,h3⟩;refine zN<|yH [(19,.bool true),(23,.pointer (some ad1))] ?_;have hle:=iS imm1;exact qV 13 [(24,.pointer (some ad1))]<|zZ (hx:=[]) rfl hle rfl (zM rfl) ⟨_,_,_,rfl,rfl,hat1,h3⟩
           · intro imm1 hf le1;refine zG ?_;rintro _ _ ⟨rfl,rfl⟩;refine zG ?_;rintro _ _ ⟨ad11,p21,c21,rfl,rfl,hat11,h31⟩;refine zN<|yH [(19,.bool true),(24,.pointer (some ad11))] ?_;have hle:=iS imm1;exact xS 0 hat11 [vT x1.Name.l] (vT x1.Name.l) rfl<|zZ (hx:=[]) rfl hle rfl (zM rfl) ⟨rfl,rfl⟩
           · intro imm1 hf le1;refine zG ?_;rintro _ _ ⟨rfl,rfl⟩;refine zG ?_;rintro _ _ ⟨rfl,rfl⟩;refine zG ?_;rintro _ _ ⟨rfl,rfl⟩;refine zN<|yH [(19,.bool true),(25,vT x1.Name.l),(27,vT x.Name.l)] ?_;have hle:=iS imm1;refine qV 17 [(28,.bool (!(Op.bytesLess x1.Name.l x.Name.l)))] ?_;rw [hc3];exact zZ (hx:=[]) rfl hle rfl (zM rfl) ⟨rfl,rfl⟩
           · intro imm1 hf le1;refine zG ?_;rintro _ _ ⟨rfl,rfl⟩;refine zG ?_;rintro _ _ ⟨rfl,rfl⟩;refine zG ?_;rintro _ _ ⟨rfl,rfl⟩;refine zN<|yH [(16,.bool false),(19,.bool true),(28,.bool false)] ?_;have hle:=iS imm1;exact qV 18 [(29,.bool false)]<|zZ (hx:=[]) rfl hle rfl (zM rfl) ⟨rfl,rfl⟩
           · intro imm1 hf le1;refine zG ?_;rintro _ _ ⟨rfl,rfl⟩;refine zG ?_;rintro _ _ ⟨rfl,rfl⟩;refine zN<|yH [(16,.bool false),(29,.bool false)] ?_;have hle:=iS imm1;exact qV 19 [(30,.bool false)]<|zZ (hx:=[]) rfl hle rfl (zM rfl) ⟨rfl,rfl⟩
           · intro imm1 hf le1;refine zG ?_;rintro _ _ ⟨rfl,rfl⟩;refine zN<|yH [(30,.bool false)] ?_;have hle:=iS imm1;exact qV 20 [(31,.bool false)]<|zZ (hx:=[]) rfl hle rfl (zM rfl) ⟨rfl,rfl⟩
           · intro imm1 hf le1;refine zG ?_;rintro _ _ ⟨rfl,rfl⟩;refine zG ?_;rintro _ _ ⟨rfl,rfl⟩;refine zN<|yH [(31,.bool false),(34,vI (x.Dims.length:Int))] ?_;have hle:=iS imm1;refine yR (wN (x.Dims.length:Int) 1 2 _ hy3 ) ?_;rintro imm04 hs2 v2 k2 le3 - ⟨v03,rfl,rfl,rfl⟩ -;have hle:=hle.trans le3;exact zZ (hx:=[]) rfl hle rfl (zM rfl) ⟨rfl,rfl⟩
           · intro imm1 hf le1;refine zG ?_;rintro _ _ ⟨rfl,rfl⟩;refine zG ?_;rintro _ _ ⟨rfl,rfl⟩;refine zN<|yH [(31,.bool false),(35,.bool y1)] ?_;have hle:=iS imm1;refine qV 25 [(36,.bool (!y1))] ?_;rw [hc4];exact zZ (hx:=[]) rfl hle rfl (zM rfl) ⟨rfl,rfl⟩
           · intro imm1 hf le1;refine zG ?_;rintro _ _ ⟨rfl,rfl⟩;refine zG ?_;rintro _ _ ⟨rfl,rfl⟩;refine zN<|yH [(31,.bool false),(36,.bool false)] ?_;have hle:=iS imm1;exact qV 26 [(37,.bool false)]<|zZ (hx:=[]) rfl hle rfl (zM rfl) ⟨rfl,rfl⟩
           · intro imm1 hf le1;refine zG ?_;rintro _ _ ⟨rfl,rfl⟩;refine zN<|yH [(37,.bool false)] ?_;have hle:=iS imm1;exact qV 27 [(38,.bool false)]<|zZ (hx:=[]) rfl hle rfl (zM rfl) ⟨rfl,rfl⟩
           intro imm1 hf le1;refine zG ?_;rintro _ _ ⟨rfl,rfl⟩;refine zG ?_;rintro _ _ ⟨rfl,rfl⟩;refine zN<|yH [(38,.bool false),(40,vS p1 x.Dims c1)] ?_;have hle:=iS imm1;have h:=h.mono le1;have h1:=h1.mono le1;have hf0:FV1 Tryz.prog imm1 [] (.func (.func 95) ⟨[]⟩ ⟨[]⟩) vY:=by
             refine FV1.intro ?_;intro imm1 le1 x0 r u0 hF k0;obtain rfl:=k0;exact (jP x0 r hF ).mono (by rintro k i hs u ⟨v0,rfl,rfl,h⟩; exact ⟨rfl,h⟩)
           refine yR (tH x.Dims vY _ hy4 h1 hf0) ?_;rintro imm06 hs2 v2 k2 le5 - ⟨v04,rfl,rfl,rfl⟩ -;have hle:=hle.trans le5;exact zZ (hx:=[]) rfl hle rfl (zM rfl) ⟨rfl,rfl⟩
         intro imm07 le6;refine zG ?_;rintro _ _ ⟨rfl,rfl⟩;refine zN<|yH [(0,vS p list c),(5,vS p list c),(6,vI (list.length:Int)),(7,vI t7),(42,.bool y2)] ?_;have hle:=hle.trans le6;exact yN rfl<|wD (zK [] rfl (by decide))<|yT [(0,vS p list c),(5,vS p list c),(6,vI (list.length:Int)),(7,vI t7),(42,.bool y2)]<|yB ⟨_,(zD hM).symm,hle,rfl,rfl⟩
      | false =>
       have hM07:=zU hc2 hM01;obtain ⟨y3,hy5,hM⟩:=zC hM07;cases hc5:(!y3) with
       | true =>
        have hM08:=zW hc5 hM;refine uA [.p (vP b 0) [],.p (vT x.Name.l) [0],.q (.bool y),.q (.bool false),.q (.bool false),.p (vI t7) [],.q (.bool false),.q (.bool false),.p undef [],.p undef [],.p undef [],.p undef [],.p undef [],.p undef [],.p undef [],.p undef [],.p undef [],.p (.bool false) [],.p (.bool false) [],.p (.bool false) [],.p (vP b 1) [],.p (vS p1 x.Dims c1) [0],.p (vI (x.Dims.length:Int)) [],.q (.bool y3),.q (.bool true),.q (.bool true),.q (.bool true),.p undef [],.p undef [],.p undef [],.p (.bool true) []] [[],[(0,false)],[(1,false)],[(2,false)],[(3,false)],[(4,false)],[(4,false),(5,false)],[(4,false),(6,false)],[(7,false)],[(7,false)],[(7,false),(9,false)],[(7,false),(8,false),(10,false)],[(7,false),(11,false)],[(7,false),(12,false)],[(7,false)],[(7,false),(14,false)],[(7,false),(13,false),(15,false)],[(4,false),(7,false),(16,false)],[(4,false),(17,false)],[(18,false)],[(19,false)],[(19,false),(20,false)],[(19,false),(21,false)],[(19,false),(22,false)],[(19,false),(23,false)],[(19,false),(24,false)],[(25,false)],[(26,false)],[(26,false),(27,false)],[(26,false),(28,false)],[(26,false),(29,false)]] [hB b (cArr x p1 c1)] [] [(30,false)] (zK [0] rfl (by decide)) ?_ ?_
        · refine Op<|Op<|Oq ?_<|Oq ?_<|Oq ?_<|Op<|Oq ?_<|Oq ?_<|Op<|Op<|Op<|Op<|Op<|Op<|Op<|Op<|Op<|Op<|Op<|Op<|Op<|Op<|Op<|Oq ?_<|Oq ?_<|Oq ?_<|Oq ?_<|Op<|Op<|Op<|Op<|On
          · intro imm1 hf le1;refine zG ?_;rintro _ _ ⟨rfl,rfl⟩;refine zN<|yH [(13,vT x.Name.l)] ?_;have hle:=iS imm1;refine yR (qF x.Name _ hy1 ) ?_;rintro imm01 hs2 v2 k2 le - ⟨v01,rfl,rfl,rfl⟩ -;have hle:=hle.trans le;exact zZ (hx:=[]) rfl hle rfl (zM rfl) ⟨rfl,rfl⟩
          · intro imm1 hf le1;refine zG ?_;rintro _ _ ⟨rfl,rfl⟩;refine zN<|yH [(14,.bool y)] ?_;have hle:=iS imm1;refine qV 4 [(15,.bool (!y))] ?_;rw [hc1];exact zZ (hx:=[]) rfl hle rfl (zM rfl) ⟨rfl,rfl⟩
          · intro imm1 hf le1;refine zG ?_;rintro _ _ ⟨rfl,rfl⟩;refine zN<|yH [(15,.bool false)] ?_;have hle:=iS imm1;exact qV 5 [(16,.bool false)]<|zZ (hx:=[]) rfl hle rfl (zM rfl) ⟨rfl,rfl⟩
          · intro imm1 hf le1;refine zG ?_;rintro _ _ ⟨rfl,rfl⟩;refine zG ?_;rintro _ _ ⟨rfl,rfl⟩;refine zN<|yH [(16,.bool false),(17,vI t7)] ?_;have hle:=iS imm1;refine qV 7 [(18,.bool (decide (t7 > 0)))] ?_;rw [hc2];exact zZ (hx:=[]) rfl hle rfl (zM rfl) ⟨rfl,rfl⟩
          · intro imm1 hf le1;refine zG ?_;rintro _ _ ⟨rfl,rfl⟩;refine zG ?_;rintro _ _ ⟨rfl,rfl⟩;refine zN<|yH [(16,.bool false),(18,.bool false)] ?_;have hle:=iS imm1;exact qV 8 [(19,.bool false)]<|zZ (hx:=[]) rfl hle rfl (zM rfl) ⟨rfl,rfl⟩
          · intro imm1 hf le1;refine zG ?_;rintro _ _ ⟨rfl,rfl⟩;refine zG ?_;rintro _ _ ⟨rfl,rfl⟩;refine zN<|yH [(31,.bool false),(34,vI (x.Dims.length:Int))] ?_;have hle:=iS imm1;refine yR (wN (x.Dims.length:Int) 1 2 _ hy5 ) ?_;rintro imm08 hs2 v2 k2 le7 - ⟨v05,rfl,rfl,rfl⟩ -;have hle:=hle.trans le7;exact zZ (hx:=[]) rfl hle rfl (zM rfl) ⟨rfl,rfl⟩
          · intro imm1 hf le1;refine zG ?_;rintro _ _ ⟨rfl,rfl⟩;refine zG ?_;rintro _ _ ⟨rfl,rfl⟩;refine zN<|yH [(31,.bool false),(35,.bool y3)] ?_;have hle:=iS imm1;refine qV 25 [(36,.bool (!y3))] ?_;rw [hc5];exact zZ (hx:=[]) rfl hle rfl (zM rfl) ⟨rfl,rfl⟩
          · intro imm1 hf le1;refine zG ?_;rintro _ _ ⟨rfl,rfl⟩;refine zG ?_;rintro _ _ ⟨rfl,rfl⟩;refine zN<|yH [(31,.bool false),(36,.bool true)] ?_;have hle:=iS imm1;exact qV 26 [(37,.bool true)]<|zZ (hx:=[]) rfl hle rfl (zM rfl) ⟨rfl,rfl⟩
          intro imm1 hf le1;refine zG ?_;rintro _ _ ⟨rfl,rfl⟩;refine zN<|yH [(37,.bool true)] ?_;have hle:=iS imm1;exact qV 27 [(38,.bool true)]<|zZ (hx:=[]) rfl hle rfl (zM rfl) ⟨rfl,rfl⟩
        intro imm09 le8;refine zG ?_;rintro _ _ ⟨rfl,rfl⟩;refine zN<|yH [(0,vS p list c),(5,vS p list c),(6,vI (list.length:Int)),(7,vI t7),(42,.bool true)] ?_;have hle:=hle.trans le8;exact yN rfl<|wD (zK [] rfl (by decide))<|yT [(0,vS p list c),(5,vS p list c),(6,vI (list.length:Int)),(7,vI t7),(42,.bool true)]<|yB ⟨_,(zD hM08).symm,hle,rfl,rfl⟩
       | false =>
        have hM09:=zU hc5 hM;obtain ⟨y4,hy6,hM⟩:=zC hM09;refine uA [.p (vP b 0) [],.p (vT x.Name.l) [0],.q (.bool y),.q (.bool false),.q (.bool false),.p (vI t7) [],.q (.bool false),.q (.bool false),.p undef [],.p undef [],.p undef [],.p undef [],.p undef [],.p undef [],.p undef [],.p undef [],.p undef [],.p (.bool false) [],.p (.bool false) [],.p (.bool false) [],.p (vP b 1) [],.p (vS p1 x.Dims c1) [0],.p (vI (x.Dims.length:Int)) [],.q (.bool y3),.q (.bool false),.q (.bool false),.q (.bool false),.p (vP b 1) [],.p (vS p1 x.Dims c1) [0],.q (.bool y4),.p (.bool y4) []] [[],[(0,false)],[(1,false)],[(2,false)],[(3,false)],[(4,false)],[(4,false),(5,false)],[(4,false),(6,false)],[(7,false)],[(7,false)],[(7,false),(9,false)],[(7,false),(8,false),(10,false)],[(7,false),(11,false)],[(7,false),(12,false)],[(7,false)],[(7,false),(14,false)],[(7,false),(13,false),(15,false)],[(4,false),(7,false),(16,false)],[(4,false),(17,false)],[(18,false)],[(19,false)],[(19,false),(20,false)],[(19,false),(21,false)],[(19,false),(22,false)],[(19,false),(23,false)],[(19,false),(24,false)],[(25,false)],[(26,false)],[(26,false),(27,false)],[(26,false),(28,false)],[(26,false),(29,false)]] [hB b (cArr x p1 c1)] [] [(30,false)] (zK [0] rfl (by decide)) ?_ ?_
        · refine Op<|Op<|Oq ?_<|Oq ?_<|Oq ?_<|Op<|Oq ?_<|Oq ?_<|Op<|Op<|Op<|Op<|Op<|Op<|Op<|Op<|Op<|Op<|Op<|Op<|Op<|Op<|Op<|Oq ?_<|Oq ?_<|Oq ?_<|Oq ?_<|Op<|Op<|Oq ?_<|Op<|On
          · intro imm1 hf le1;refine zG ?_;rintro _ _ ⟨rfl,rfl⟩;refine zN<|yH [(13,vT x.Name.l)] ?_;have hle:=iS imm1;refine yR (qF x.Name _ hy1 ) ?_;rintro imm01 hs2 v2 k2 le - ⟨v01,rfl,rfl,rfl⟩ -;have hle:=hle.trans le;exact zZ (hx:=[]) rfl hle rfl (zM rfl) ⟨rfl,rfl⟩
          · intro imm1 hf le1;refine zG ?_;rintro _ _ ⟨rfl,rfl⟩;refine zN<|yH [(14,.bool y)] ?_;have hle:=iS imm1;refine qV 4 [(15,.bool (!y))] ?_;rw [hc1];exact zZ (hx:=[]) rfl hle rfl (zM rfl) ⟨rfl,rfl⟩
          · intro imm1 hf le1;refine zG ?_;rintro _ _ ⟨rfl,rfl⟩;refine zN<|yH [(15,.bool false)] ?_;have hle:=iS imm1;exact qV 5 [(16,.bool false)]<|zZ (hx:=[]) rfl hle rfl (zM rfl) ⟨rfl,rfl⟩
          · intro imm1 hf le1;refine zG ?_;rintro _ _ ⟨rfl,rfl⟩;refine zG ?_;rintro _ _ ⟨rfl,rfl⟩;refine zN<|yH [(16,.bool false),(17,vI t7)] ?_;have hle:=iS imm1;refine qV 7 [(18,.bool (decide (t7 > 0)))] ?_;rw [hc2];exact zZ (hx:=[]) rfl hle rfl (zM rfl) ⟨rfl,rfl⟩
          · intro imm1 hf le1;refine zG ?_;rintro _ _ ⟨rfl,rfl⟩;refine zG ?_;rintro _ _ ⟨rfl,rfl⟩;refine zN<|yH [(16,.bool false),(18,.bool false)] ?_;have hle:=iS imm1;exact qV 8 [(19,.bool false)]<|zZ (hx:=[]) rfl hle rfl (zM rfl) ⟨rfl,rfl⟩
          · intro imm1 hf le1;refine zG ?_;rintro _ _ ⟨rfl,rfl⟩;refine zG ?_;rintro _ _ ⟨rfl,rfl⟩;refine zN<|yH [(31,.bool false),(34,vI (x.Dims.length:Int))] ?_;have hle:=iS imm1;refine yR (wN (x.Dims.length:Int) 1 2 _ hy5 ) ?_;rintro imm08 hs2 v2 k2 le7 - ⟨v05,rfl,rfl,rfl⟩ -;have hle:=hle.trans le7;exact zZ (hx:=[]) rfl hle rfl (zM rfl) ⟨rfl,rfl⟩
          · intro imm1 hf le1;refine zG ?_;rintro _ _ ⟨rfl,rfl⟩;refine zG ?_;rintro _ _ ⟨rfl,rfl⟩;refine zN<|yH [(31,.bool false),(35,.bool y3)] ?_;have hle:=iS imm1;refine qV 25 [(36,.bool (!y3))] ?_;rw [hc5];exact zZ (hx:=[]) rfl hle rfl (zM rfl) ⟨rfl,rfl⟩
          · intro imm1 hf le1;refine zG ?_;rintro _ _ ⟨rfl,rfl⟩;refine zG ?_;rintro _ _ ⟨rfl,rfl⟩;refine zN<|yH [(31,.bool false),(36,.bool false)] ?_;have hle:=iS imm1;exact qV 26 [(37,.bool false)]<|zZ (hx:=[]) rfl hle rfl (zM rfl) ⟨rfl,rfl⟩
          · intro imm1 hf le1;refine zG ?_;rintro _ _ ⟨rfl,rfl⟩;refine zN<|yH [(37,.bool false)] ?_;have hle:=iS imm1;exact qV 27 [(38,.bool false)]<|zZ (hx:=[]) rfl hle rfl (zM rfl) ⟨rfl,rfl⟩
          intro imm1 hf le1;refine zG ?_;rintro _ _ ⟨rfl,rfl⟩;refine zG ?_;rintro _ _ ⟨rfl,rfl⟩;refine zN<|yH [(38,.bool false),(40,vS p1 x.Dims c1)] ?_;have hle:=iS imm1;have h:=h.mono le1;have h1:=h1.mono le1;have hf01:FV1 Tryz.prog imm1 [] (.func (.func 95) ⟨[]⟩ ⟨[]⟩) vY:=by
            refine FV1.intro ?_;intro imm1 le1 x0 r u0 hF k0;obtain rfl:=k0;exact (jP x0 r hF ).mono (by rintro k i hs u ⟨v0,rfl,rfl,h⟩; exact ⟨rfl,h⟩)
          refine yR (tH x.Dims vY _ hy6 h1 hf01) ?_;rintro imm010 hs2 v2 k2 le9 - ⟨v06,rfl,rfl,rfl⟩ -;have hle:=hle.trans le9;exact zZ (hx:=[]) rfl hle rfl (zM rfl) ⟨rfl,rfl⟩
        intro imm011 le10;refine zG ?_;rintro _ _ ⟨rfl,rfl⟩;refine zN<|yH [(0,vS p list c),(5,vS p list c),(6,vI (list.length:Int)),(7,vI t7),(42,.bool y4)] ?_;have hle:=hle.trans le10;exact yN rfl<|wD (zK [] rfl (by decide))<|yT [(0,vS p list c),(5,vS p list c),(6,vI (list.length:Int)),(7,vI t7),(42,.bool y4)]<|yB ⟨_,(zD hM).symm,hle,rfl,rfl⟩
   rintro imm0 hs2 m2 ⟨t42,heq,le11,rfl,rfl⟩;subst o0;have h:=h.mono le11;have hle:=hle.trans le11;refine zE<|yO hMc ?_ ?_
   · intro hc6 hM;exact zF<|zB<|yA [] [(2,.bool false)]<|zE<|yJ<|yF<|zR<|zR<|hr _ _ _ _ (zD hM).symm hle ⟨_,_,(.tmp rfl ResV.nil),zX,⟨_,rfl,rfl,rfl⟩⟩
   intro hc6 hM;exact yE<|zY<|zE<|zB<|yA [] [(7,vI (W (t7 + 1)))]<|xD<|vQ [(0,vS p list c),(5,vS p list c),(6,vI (list.length:Int)),(7,vI (W (t7 + 1)))]<|ih (W (t7 + 1)) _ hM hle h hg ho hx hr
 intro hc hM;exact xA<|zS<|zS<|yT [(0,vS p list c)]<|hx _  (zD hM).symm hle
def nB (list:(List zJ)):Option (Bool):=do
 match←sA list 0 with
 | .ret r0=>pure r0
 | .done _ =>
  pure (decide ((list.length:Int) ≤ 4))
theorem zCh:∀ (list:(List zJ)) r,nB list=some r→∀ {imm:Imm}{p c},(S4 imm p list c)→Ret Tryz.prog 63 [vS p list c] imm [] (jQ  r):=by
 intro list r hM imm p c h;unfold nB at hM;refine yG (fn:=Tryz.f63) (c:=(bodyOf Tryz.f63)) Tryz.func63 rfl rfl ?_;rintro B - -;refine zF<|zB<|yA [] []<|zE<|zF<|zF<|zB<|yA [] [(5,vS p list c),(6,vI (list.length:Int)),(7,vI 0)]<|zE<|yC<|vQ [(0,vS p list c),(5,vS p list c),(6,vI (list.length:Int)),(7,vI 0)] ?_;obtain ⟨o01,ho01,hMl⟩:=zC hM;refine zA6 list 0 o01 ho01 iR h (fun _ _ _ h=>h) (fun _ _ h=>h) ?_ ?_
 · intro imm012  heq1 le12;subst o01;refine yD<|zE<|zF<|zB<|yA [] [(2,.bool (decide ((list.length:Int) ≤ 4)))]<|zE<|yJ ?_;obtain rfl:=zD hMl;exact yQ ⟨_,_,(.tmp rfl ResV.nil),zX,⟨_,rfl,rfl,rfl⟩⟩
 intro r0 imm9 hs9 m9 heq9 le9 hrs9;subst heq9;refine yF<|zR ?_;obtain rfl:=zD hMl;exact yQ hrs9
def tW (hsF:List HA) (r:Int):KT:=fun kk imm' hs' v=>
  ∃ v0,hsF=hs'∧v=tupV [v0]∧v0=.int .i64 r
def yX (s:(List zA)) (f0:(zA→Option Bool)) (t8:Int):Option (Out Unit (Int)):=do
 if (decide (t8 < (s.length:Int))) then
  let x←idx s t8
  let y←f0 x
  if y then
   pure (.ret t8)
  else
   yX s f0 (W (t8 + 1))
 else
  pure (.done ())
 partial_fixpoint
theorem oD (s:(List zA)) (f0:(zA→Option Bool)):∀ (t8:Int) (o:Out Unit (Int)),yX s f0 t8=some o→∀ {B}{imm0 imm:Imm}{Q p c}{fv:Value}{hsF:List HA},imm0.le imm→(S4 imm p s c)→(FV1 Tryz.prog imm hsF fv f0)→(∀ gl a w,¬Q (.goto gl) a w)→(∀ a w,¬Q .outgrown a w)→(∀ (imm':Imm) ,o=(.done ())→imm0.le imm'→T 19 B Q (.exit 0) imm' hsF [])→(∀ r imm' hs' m',o=(.ret r)→imm0.le imm'→RS Tryz.prog Tryz.f149 B (tW hsF r) imm' hs' m'→T 19 B Q .ret imm' hs' m')→J Tryz.prog 19 B (nav (bodyOf Tryz.f149) [1,0,1,0]) Q imm hsF [(0,vS p s c),(1,fv),(7,vI (s.length:Int)),(8,vI t8)]:=by
 refine yX.partial_correctness s f0 _ ?_;intro self ih t8 o hM B imm0 imm Q p c fv hsF hle h h1 hg ho hx hr;refine xC hg ho<|zF<|zB<|yA [] [(9,.bool (decide (t8 < (s.length:Int))))]<|zE<|zF<|yO hM ?_ ?_
 · intro hc hM;refine yE<|zE<|zF<|yC<|zF<|zB<|yA [] [(5,vI t8)]<|zE<|zF<|zB<|yK 3 [] [(11,fv),(12,vS p s c),(13,vI t8)] ?_;obtain ⟨x,hy,hM⟩:=zC hM;refine wJ rfl rfl h hy ?_;intro ad ccs hat hrep;obtain ⟨v0,rfl,h2⟩:=yM hrep;obtain ⟨p1,c1,rfl⟩:=h2.form;refine xS 0 hat (cAff x p1 c1) (vA (cAff x p1 c1)) rfl ?_;obtain ⟨y,hy1,hM⟩:=zC hM;refine zG5 rfl rfl h1 hy1 ⟨_,rfl,(yP ⟨_,rfl,h2⟩)⟩ (List.append_nil _).symm ?_;rintro imm0 v01 le rfl;refine uB (hs':=hsF) (List.append_nil _) ?_;have h:=h.mono le;have h1:=h1.mono le;have hle:=hle.trans le;refine yN rfl<|zE<|yO hM ?_ ?_
   · intro hc1 hM;exact zF<|zB<|yA [] [(4,vI t8)]<|zE<|yJ<|yF<|zR<|zR<|hr _ _ _ _ (zD hM).symm hle ⟨_,_,(.tmp rfl ResV.nil),(fun _ h=>h),⟨_,rfl,rfl,rfl⟩⟩
   intro hc1 hM;exact yE<|zY<|zE<|zB<|yA [] [(8,vI (W (t8 + 1)))]<|xD<|vQ [(0,vS p s c),(1,fv),(7,vI (s.length:Int)),(8,vI (W (t8 + 1)))]<|ih (W (t8 + 1)) _ hM hle h h1 hg ho hx hr
 intro hc hM;exact xA<|zS<|zS<|yT []<|hx _  (zD hM).symm hle
def wE (s:(List zA)) (f0:(zA→Option Bool)):Option (Int):=do
 match←yX s f0 0 with
 | .ret r0=>pure r0
 | .done _ =>
  pure (-1)
theorem oQ:∀ (s:(List zA)) (f0:(zA→Option Bool)) r,wE s f0=some r→∀ {imm:Imm}{p c}{fv:Value}{hsF:List HA},(S4 imm p s c)→(FV1 Tryz.prog imm hsF fv f0)→Ret Tryz.prog 149 [vS p s c,fv] imm hsF (tW hsF r):=by
 intro s f0 r hM imm p c fv hsF h h1;unfold wE at hM;refine yG (fn:=Tryz.f149) (c:=(bodyOf Tryz.f149)) Tryz.func149 rfl rfl ?_;rintro B - -;refine zF<|zB<|yA [] []<|zE<|zF<|zF<|zB<|yA [] [(7,vI (s.length:Int)),(8,vI 0)]<|zE<|yC<|vQ [(0,vS p s c),(1,fv),(7,vI (s.length:Int)),(8,vI 0)] ?_;obtain ⟨o0,ho0,hMl⟩:=zC hM;refine oD s f0 0 o0 ho0 iR h h1 (fun _ _ _ h=>h) (fun _ _ h=>h) ?_ ?_
 · intro imm01  heq le1;subst o0;refine yD<|zE<|zF<|zB<|yA [] [(4,vI (-1))]<|zE<|yJ ?_;obtain rfl:=zD hMl;exact yQ ⟨_,_,(.tmp rfl ResV.nil),(fun _ h=>h),⟨_,rfl,rfl,rfl⟩⟩
 intro r0 imm9 hs9 m9 heq9 le9 hrs9;subst heq9;refine yF<|zR ?_;obtain rfl:=zD hMl;exact yQ hrs9
def pE (hsF:List HA) (r:Bool):KT:=fun kk imm' hs' v=>
  ∃ v0,hsF=hs'∧v=tupV [v0]∧v0=.bool r
def xE (s:(List zA)) (f0:(zA→Option Bool)):Option (Bool):=do
 let y←wE s f0
 pure (decide (y ≥ 0))
theorem tU:∀ (s:(List zA)) (f0:(zA→Option Bool)) r,xE s f0=some r→∀ {imm:Imm}{p c}{fv:Value}{hsF:List HA},(S4 imm p s c)→(FV1 Tryz.prog imm hsF fv f0)→Ret Tryz.prog 125 [vS p s c,fv] imm hsF (pE hsF r):=by
 intro s f0 r hM imm p c fv hsF h h1;unfold xE at hM;refine yG (fn:=Tryz.f125) (c:=(bodyOf Tryz.f125)) Tryz.func125 rfl rfl ?_;rintro B - -;refine zF<|zB<|yA [] []<|zE<|zF<|zB<|yK 2 [] [(5,vS p s c),(6,fv)] ?_;obtain ⟨y,hy,hM⟩:=zC hM;refine zCK (hs1:=hsF) (rest:=[]) rfl rfl rfl rfl (by kernel_rfl) rfl (List.append_nil _).symm (oQ s f0 _ hy h h1) ?_;rintro imm0 hs2 v2 k2 le - ⟨v0,rfl,rfl,rfl⟩ -;refine uB (hs':=hsF) (List.append_nil _) ?_;refine yA [] [(4,.bool (decide (y ≥ 0)))]<|zE<|yJ ?_;obtain rfl:=zD hM;exact yQ ⟨_,_,(.tmp rfl ResV.nil),(fun _ h=>h),⟨_,rfl,rfl,rfl⟩⟩
def zBw (r:Bool):KT:=fun kk imm' hs' v=>
  ∃ v0,hs'=[]∧v=tupV [v0]∧v0=.bool r
def mQ (n0:Int):Option (Bool):=do
 let y←xV n0 (-99) 99
 pure (id y)
theorem zDJ:∀ (n0:Int) r,mQ n0=some r→∀ {imm:Imm} ,Ret Tryz.prog 150 [vI n0] imm [] (zBw  r):=by
 intro n0 r hM imm;unfold mQ at hM;refine yG (fn:=Tryz.f150) (c:=(bodyOf Tryz.f150)) Tryz.func150 rfl rfl ?_;rintro B - -;refine zF<|zB<|yA [] []<|zE<|zF<|zB<|yK 1 [] [(3,vI n0)] ?_;obtain ⟨y,hy,hM⟩:=zC hM;refine yR (wN n0 (-99) 99 _ hy ) ?_;rintro imm0 hs2 v2 k2 le - ⟨v0,rfl,rfl,rfl⟩ -;refine yA [] [(2,.bool y)]<|zE<|yJ ?_;obtain rfl:=zD hM;exact yQ ⟨_,_,(.tmp rfl ResV.nil),zX,⟨_,rfl,rfl,rfl⟩⟩
def fJ (r:Bool):KT:=fun kk imm' hs' v=>
  ∃ v0,hs'=[]∧v=tupV [v0]∧v0=.bool r
def uW (c:Int):Option (Bool):=do
 let y←xV c (-9) 9
 pure (!y)
theorem eZ:∀ (c:Int) r,uW c=some r→∀ {imm:Imm} ,Ret Tryz.prog 151 [vI c] imm [] (fJ  r):=by
 intro c r hM imm;unfold uW at hM;refine yG (fn:=Tryz.f151) (c:=(bodyOf Tryz.f151)) Tryz.func151 rfl rfl ?_;rintro B - -;refine zF<|zB<|yA [] []<|zE<|zF<|zB<|yK 1 [] [(3,vI c)] ?_;obtain ⟨y,hy,hM⟩:=zC hM;refine yR (wN c (-9) 9 _ hy ) ?_;rintro imm0 hs2 v2 k2 le - ⟨v0,rfl,rfl,rfl⟩ -;refine yA [] [(2,.bool (!y))]<|zE<|yJ ?_;obtain rfl:=zD hM;exact yQ ⟨_,_,(.tmp rfl ResV.nil),zX,⟨_,rfl,rfl,rfl⟩⟩
def dA (r:Bool):KT:=fun kk imm' hs' v=>
  ∃ v0,hs'=[]∧v=tupV [v0]∧v0=.bool r
def sB (a0:zA):Option (Bool):=do
 let t2←(do
   if ((a0.Coefs.length:Int) == 4) then
    let y←mQ a0.Const
    if y then
     let y1←xG a0.Coefs uW
     pure (!y1)
    else
     pure false
   else
    pure false
     : Option Bool)
 pure (id t2)
theorem qK:∀ (a0:zA) r,sB a0=some r→∀ {imm:Imm}{p c},(S4 imm p a0.Coefs c)→Ret Tryz.prog 127 [vA (cAff a0 p c)] imm [] (dA  r):=by
 intro a0 r hM imm p c h;unfold sB at hM;refine yG (fn:=Tryz.f127) (c:=(bodyOf Tryz.f127)) Tryz.func127 rfl rfl ?_;rintro B - -;have hle:=iS imm;refine zF<|zB<|tR (cAff a0 p c) ?_;intro b hb;refine yA [] []<|zE<|zF ?_;obtain ⟨o0,ho0,hMc⟩:=zC hM;refine yU (fun imm' hs' m'=>∃ (t2:Bool),o0=t2∧imm.le imm'∧hs'=[]∧m'=[(2,.bool t2)]) ?_ ?_
 · have hle:=iS imm;refine zB<|yK 5 [0] [(7,.bool ((a0.Coefs.length:Int) == 4))] ?_;cases hc:((a0.Coefs.length:Int) == 4) with
   | true =>
    have hM0:=zW hc ho0
    try rw [hc]
    refine yK 7 [0] [(9,vI a0.Const)] ?_;obtain ⟨y,hy,hM⟩:=zC hM0;refine yR (zDJ a0.Const _ hy ) ?_;rintro imm01 hs2 v2 k2 le - ⟨v0,rfl,rfl,rfl⟩ -;have h:=h.mono le;have hle:=hle.trans le;refine yK 10 [] [(12,.bool y)] ?_;cases hc1:y with
    | true =>
     have hM01:=zW hc1 hM
     try rw [hc1]
     refine yK 12 [0] [(14,vS p a0.Coefs c)] ?_;have hf0:FV1 Tryz.prog imm01 [] (.func (.func 151) ⟨[]⟩ ⟨[]⟩) uW:=by
       refine FV1.intro ?_;intro imm1 le1 x0 r u0 hF k0;obtain rfl:=k0;exact (eZ x0 r hF ).mono (by rintro k i hs u ⟨v0,rfl,rfl,h⟩; exact ⟨rfl,h⟩)
     obtain ⟨y1,hy1,hM⟩:=zC hM01;refine yR (tH a0.Coefs uW _ hy1 h hf0) ?_;rintro imm02 hs2 v2 k2 le1 - ⟨v01,rfl,rfl,rfl⟩ -;have hle:=hle.trans le1;exact yA [] [(2,.bool (!y1))]<|wD (zK [] rfl (by decide))<|yT [(2,.bool (!y1))]<|yB ⟨_,(zD hM).symm,hle,rfl,rfl⟩
    | false =>
     have hM02:=zU hc1 hM
     try rw [hc1]
     exact yA [] [(2,.bool false)]<|wD (zK [] rfl (by decide))<|yT [(2,.bool false)]<|yB ⟨_,(zD hM02).symm,hle,rfl,rfl⟩
   | false =>
    have hM03:=zU hc ho0
    try rw [hc]
    exact yA [] [(2,.bool false)]<|wD (zK [] rfl (by decide))<|yT [(2,.bool false)]<|yB ⟨_,(zD hM03).symm,hle,rfl,rfl⟩
 rintro imm0 hs2 m2 ⟨t2,heq,le2,rfl,rfl⟩;subst o0;refine zE<|yJ ?_;obtain rfl:=zD hMc;exact yQ ⟨_,_,(.tmp rfl ResV.nil),zX,⟨_,rfl,rfl,rfl⟩⟩
def eA (r:Int):KT:=fun kk imm' hs' v=>
  ∃ v0,hs'=[]∧v=tupV [v0]∧v0=.int .i64 r
def uF (a0:zA) (n0:Int):Option (Int):=do
 let t17←(do
   if (decide (n0 > 0)) then
    let x←idx a0.Coefs (W (n0 - 1))
    pure (x == 0)
   else
    pure false
     : Option Bool)
 if t17 then
  uF a0 (W (n0 - 1))
 else
  pure (id n0)
 partial_fixpoint
theorem fK (a0:zA):∀ (n0:Int) (o:Int),uF a0 n0=some o→∀ {B}{imm0 imm:Imm}{Q p c}{b:Nat},imm0.le imm→(S4 imm p a0.Coefs c)→(∀ gl a w,¬Q (.goto gl) a w)→(∀ a w,¬Q .outgrown a w)→(∀ (imm':Imm) (n01:Int),o=n01→imm0.le imm'→T 21 B Q (.exit 0) imm' [] [(3,vI n01)])→J Tryz.prog 21 B (nav (bodyOf Tryz.f128) [1,1,0,0]) Q imm [hB b (cAff a0 p c)] [(1,vP b 0),(3,vI n0)]:=by
 refine uF.partial_correctness a0 _ ?_;intro self ih n0 o hM B imm0 imm Q p c b hle h hg ho hx;refine xC hg ho<|zF<|zF ?_;obtain ⟨o0,ho0,hMc⟩:=zC hM;refine yU (fun imm' hs' m'=>∃ (t17:Bool),o0=t17∧imm.le imm'∧hs'=[hB b (cAff a0 p c)]∧m'=[(1,vP b 0),(3,vI n0),(17,.bool t17)]) ?_ ?_
 · have hle:=iS imm;refine zB<|yK 3 [] [(9,.bool (decide (n0 > 0)))] ?_;cases hc:(decide (n0 > 0)) with
   | true =>
    have hM0:=zW hc ho0
    try rw [hc]
    refine yK 7 [0] [(11,vS p a0.Coefs c),(13,vI (W (n0 - 1)))] ?_;obtain ⟨x,hy,hM⟩:=zC hM0;refine wJ rfl rfl h hy ?_;intro ad ccs hat hrep;obtain rfl:=hrep;exact xS 0 hat [vI x] (vI x) rfl<|yA [] [(17,.bool (x == 0))]<|yT [(1,vP b 0),(3,vI n0),(17,.bool (x == 0))]<|yB ⟨_,(zD hM).symm,hle,rfl,rfl⟩
   | false =>
    have hM01:=zU hc ho0
    try rw [hc]
    exact yA [] [(17,.bool false)]<|yT [(1,vP b 0),(3,vI n0),(17,.bool false)]<|yB ⟨_,(zD hM01).symm,hle,rfl,rfl⟩
 rintro imm0 hs2 m2 ⟨t17,heq,le,rfl,rfl⟩;subst o0;have h:=h.mono le;have hle:=hle.trans le;refine zE<|yO hMc ?_ ?_
 · intro hc1 hM;exact yE<|zE<|yC<|zB<|yA [] [(3,vI (W (n0 - 1)))]<|zY<|xD<|vQ [(1,vP b 0),(3,vI (W (n0 - 1)))]<|ih (W (n0 - 1)) _ hM hle h hg ho hx
 intro hc1 hM;exact xA<|zS<|zS<|wD (zK [] rfl (by decide))<|yT [(3,vI n0)]<|hx _ _ (zD hM).symm hle
def tM (a0:zA):Option (Int):=do
 let n01←uF a0 (a0.Coefs.length:Int)
 pure (id n01)
theorem nR:∀ (a0:zA) r,tM a0=some r→∀ {imm:Imm}{p c},(S4 imm p a0.Coefs c)→Ret Tryz.prog 128 [vA (cAff a0 p c)] imm [] (eA  r):=by
 intro a0 r hM imm p c h;unfold tM at hM;refine yG (fn:=Tryz.f128) (c:=(bodyOf Tryz.f128)) Tryz.func128 rfl rfl ?_;rintro B - -;refine zF<|zB<|tR (cAff a0 p c) ?_;intro b hb;refine yA [] []<|zE<|zF<|zB<|yA [0] [(3,vI (a0.Coefs.length:Int))]<|zE<|zF<|yC<|vQ [(1,vP b 0),(3,vI (a0.Coefs.length:Int))] ?_;obtain ⟨o01,ho01,hMl⟩:=zC hM;refine fK a0 (a0.Coefs.length:Int) o01 ho01 iR h (fun _ _ _ h=>h) (fun _ _ h=>h) ?_;intro imm01 n01 heq1 le1;subst o01;refine yD<|zE<|zF<|zB<|yA [] [(2,vI n01)]<|zE<|yJ ?_;obtain rfl:=zD hMl;exact yQ ⟨_,_,(.tmp rfl ResV.nil),zX,⟨_,rfl,rfl,rfl⟩⟩
def zAB (r:Bool):KT:=fun kk imm' hs' v=>
  ∃ v0,hs'=[]∧v=tupV [v0]∧v0=.bool r
def tQ (a0:zA) (x:Int):Option (Bool):=do
 let t3←(do
   let y←sB a0
   if (!y) then
    pure true
   else
    let y1←tM a0
    pure (decide (y1 > x))
     : Option Bool)
 pure (id t3)
theorem zBE:∀ (a0:zA) (x:Int) r,tQ a0 x=some r→∀ {imm:Imm}{p c}{ad:Addr},(S4 imm p a0.Coefs c)→(At imm ad [vI x])→Ret Tryz.prog 148 [vA (cAff a0 p c),.pointer (some ad)] imm [] (zAB  r):=by
 intro a0 x r hM imm p c ad h hat;unfold tQ at hM;refine yG (fn:=Tryz.f148) (c:=(bodyOf Tryz.f148)) Tryz.func148 rfl rfl ?_;rintro B - -;have hle:=iS imm;refine zF<|zB<|tR (cAff a0 p c) ?_;intro b hb;refine yA [] []<|zE<|zF ?_;obtain ⟨o0,ho0,hMc⟩:=zC hM;refine yU (fun imm' hs' m'=>∃ (t3:Bool),o0=t3∧imm.le imm'∧hs'=[]∧m'=[(3,.bool t3)]) ?_ ?_
 · have hle:=iS imm;obtain ⟨y,hy,hM⟩:=zC ho0;cases hc:(!y) with
   | true =>
    have hM0:=zW hc hM;refine uA [.p (vA (cAff a0 p c)) [0],.q (.bool y),.q (.bool true),.q (.bool true),.p undef [],.p undef [],.p undef [],.p undef [],.p (.bool true) []] [[],[(0,false)],[(1,false)],[(2,false)],[(3,false)],[(3,false),(4,false)],[(3,false)],[(3,false),(5,false),(6,false)],[(3,false),(7,false)]] [hB b (cAff a0 p c)] [] [(8,false)] (zK [0] rfl (by decide)) ?_ ?_
    · refine Op<|Oq ?_<|Oq ?_<|Oq ?_<|Op<|Op<|Op<|Op<|Op<|On
      · intro imm1 hf le1;refine zG ?_;rintro _ _ ⟨rfl,rfl⟩;refine zN<|yH [(4,vA (cAff a0 p c))] ?_;have hle:=iS imm1;have h:=h.mono le1;refine yR (qK a0 _ hy h) ?_;rintro imm01 hs2 v2 k2 le - ⟨v0,rfl,rfl,rfl⟩ -;have hle:=hle.trans le;exact zZ (hx:=[]) rfl hle rfl (zM rfl) ⟨rfl,rfl⟩
      · intro imm1 hf le1;refine zG ?_;rintro _ _ ⟨rfl,rfl⟩;refine zN<|yH [(5,.bool y)] ?_;have hle:=iS imm1;refine qV 3 [(6,.bool (!y))] ?_;rw [hc];exact zZ (hx:=[]) rfl hle rfl (zM rfl) ⟨rfl,rfl⟩
      intro imm1 hf le1;refine zG ?_;rintro _ _ ⟨rfl,rfl⟩;refine zN<|yH [(6,.bool true)] ?_;have hle:=iS imm1;exact qV 4 [(7,.bool true)]<|zZ (hx:=[]) rfl hle rfl (zM rfl) ⟨rfl,rfl⟩
    intro imm02 le1;refine zG ?_;rintro _ _ ⟨rfl,rfl⟩;refine zN<|yH [(12,.bool true)] ?_;have hle:=hle.trans le1;exact yA [] [(3,.bool true)]<|wD (zK [] rfl (by decide))<|yT [(3,.bool true)]<|yB ⟨_,(zD hM0).symm,hle,rfl,rfl⟩
   | false =>
    have hM01:=zU hc hM;obtain ⟨y1,hy1,hM⟩:=zC hM01;refine uA [.p (vA (cAff a0 p c)) [0],.q (.bool y),.q (.bool false),.q (.bool false),.p (vA (cAff a0 p c)) [0],.q (vI y1),.q (vI x),.p (.bool (decide (y1 > x))) [],.p (.bool (decide (y1 > x))) []] [[],[(0,false)],[(1,false)],[(2,false)],[(3,false)],[(3,false),(4,false)],[(3,false)],[(3,false),(5,false),(6,false)],[(3,false),(7,false)]] [hB b (cAff a0 p c)] [] [(8,false)] (zK [0] rfl (by decide)) ?_ ?_
    · refine Op<|Oq ?_<|Oq ?_<|Oq ?_<|Op<|Oq ?_<|Oq ?_<|Op<|Op<|On
      · intro imm1 hf le1;refine zG ?_;rintro _ _ ⟨rfl,rfl⟩;refine zN<|yH [(4,vA (cAff a0 p c))] ?_;have hle:=iS imm1;have h:=h.mono le1;refine yR (qK a0 _ hy h) ?_;rintro imm01 hs2 v2 k2 le - ⟨v0,rfl,rfl,rfl⟩ -;have hle:=hle.trans le;exact zZ (hx:=[]) rfl hle rfl (zM rfl) ⟨rfl,rfl⟩
      · intro imm1 hf le1;refine zG ?_;rintro _ _ ⟨rfl,rfl⟩;refine zN<|yH [(5,.bool y)] ?_;have hle:=iS imm1;refine qV 3 [(6,.bool (!y))] ?_;rw [hc];exact zZ (hx:=[]) rfl hle rfl (zM rfl) ⟨rfl,rfl⟩
      · intro imm1 hf le1;refine zG ?_;rintro _ _ ⟨rfl,rfl⟩;refine zN<|yH [(6,.bool false)] ?_;have hle:=iS imm1;exact qV 4 [(7,.bool false)]<|zZ (hx:=[]) rfl hle rfl (zM rfl) ⟨rfl,rfl⟩
      · intro imm1 hf le1;refine zG ?_;rintro _ _ ⟨rfl,rfl⟩;refine zG ?_;rintro _ _ ⟨rfl,rfl⟩;refine zN<|yH [(7,.bool false),(8,vA (cAff a0 p c))] ?_;have hle:=iS imm1;have h:=h.mono le1;refine yR (nR a0 _ hy1 h) ?_;rintro imm03 hs2 v2 k2 le2 - ⟨v01,rfl,rfl,rfl⟩ -;have hle:=hle.trans le2;exact zZ (hx:=[]) rfl hle rfl (zM rfl) ⟨rfl,rfl⟩
      intro imm1 hf le1;refine zG ?_;rintro _ _ ⟨rfl,rfl⟩;refine zN<|yH [(1,.pointer (some ad)),(7,.bool false)] ?_;have hle:=iS imm1;have hat:=hat.mono le1;exact xS 0 hat [vI x] (vI x) rfl<|zZ (hx:=[]) rfl hle rfl (zM rfl) ⟨rfl,rfl⟩
    intro imm04 le3;refine zG ?_;rintro _ _ ⟨rfl,rfl⟩;refine zN<|yH [(12,.bool (decide (y1 > x)))] ?_;have hle:=hle.trans le3;exact yA [] [(3,.bool (decide (y1 > x)))]<|wD (zK [] rfl (by decide))<|yT [(3,.bool (decide (y1 > x)))]<|yB ⟨_,(zD hM).symm,hle,rfl,rfl⟩
 rintro imm0 hs2 m2 ⟨t3,heq,le4,rfl,rfl⟩;subst o0;refine zE<|yJ ?_;obtain rfl:=zD hMc;exact yQ ⟨_,_,(.tmp rfl ResV.nil),zX,⟨_,rfl,rfl,rfl⟩⟩
def zBF (r:Bool):KT:=fun kk imm' hs' v=>
  ∃ v0,hs'=[]∧v=tupV [v0]∧v0=.bool r
def pI (list:(List zA)) (depth:Int):Option (Bool):=do
 let t4←(do
   let y←xV (list.length:Int) 1 2
   if y then
    let y1←xE list (fun x0=>tQ x0 depth)
    pure (!y1)
   else
    pure false
     : Option Bool)
 pure (id t4)
theorem fL:∀ (list:(List zA)) (depth:Int) r,pI list depth=some r→∀ {imm:Imm}{p c},(S4 imm p list c)→Ret Tryz.prog 124 [vS p list c,vI depth] imm [] (zBF  r):=by
 intro list depth r hM imm p c h;unfold pI at hM;refine yG (fn:=Tryz.f124) (c:=(bodyOf Tryz.f124)) Tryz.func124 rfl rfl ?_;rintro B - -;have hle:=iS imm;refine zF<|zB<|tR [vI depth] ?_;intro b hb;refine yL 0 rfl ?_;intro imm0 le hl0;have hat:At imm0 ⟨b,0,none⟩ [vI depth]:=At.of_blk hl0;have h:=h.mono le;have hle:=hle.trans le;refine yA [] []<|zE<|zF ?_;obtain ⟨o0,ho0,hMc⟩:=zC hM;refine yU (fun imm' hs' m'=>∃ (t4:Bool),o0=t4∧imm0.le imm'∧hs'=[]∧m'=[(4,.bool t4)]) ?_ ?_
 · have hle:=iS imm0;refine zB<|yK 2 [] [(6,vI (list.length:Int))] ?_;obtain ⟨y,hy,hM⟩:=zC ho0;refine yR (wN (list.length:Int) 1 2 _ hy ) ?_;rintro imm02 hs2 v2 k2 le1 - ⟨v0,rfl,rfl,rfl⟩ -;have h:=h.mono le1;have hat:=hat.mono le1;have hle:=hle.trans le1;refine yK 4 [] [(8,.bool y)] ?_;cases hc:y with
   | true =>
    have hM0:=zW hc hM
    try rw [hc]
    refine yK 6 [] [(9,vS p list c),(10,.func (.func 148) ⟨[]⟩ ⟨[vP b 0]⟩)] ?_;have hf0:FV1 Tryz.prog imm02 [] (.func (.func 148) ⟨[]⟩ ⟨[vP b 0]⟩) (fun x0=>tQ x0 depth):=by
      refine FV1.intro ?_;intro imm1 le1 x0 r u0 hF k0;obtain ⟨_,rfl,k0⟩:=k0;obtain ⟨v01,rfl,h2⟩:=yM k0;obtain ⟨p1,c1,rfl⟩:=h2.form;exact (zBE x0 depth r hF h2 (hat.mono le1)).mono (by rintro k i hs u ⟨v0,rfl,rfl,h⟩; exact ⟨rfl,h⟩)
    obtain ⟨y1,hy1,hM⟩:=zC hM0;refine yR (tU list (fun x0=>tQ x0 depth) _ hy1 h hf0) ?_;rintro imm03 hs2 v2 k2 le2 - ⟨v02,rfl,rfl,rfl⟩ -;have hle:=hle.trans le2;exact yA [] [(4,.bool (!y1))]<|yT [(4,.bool (!y1))]<|yB ⟨_,(zD hM).symm,hle,rfl,rfl⟩
   | false =>
    have hM01:=zU hc hM
    try rw [hc]
    exact yA [] [(4,.bool false)]<|yT [(4,.bool false)]<|yB ⟨_,(zD hM01).symm,hle,rfl,rfl⟩
 rintro imm01 hs2 m2 ⟨t4,heq,le3,rfl,rfl⟩;subst o0;refine zE<|yJ ?_;obtain rfl:=zD hMc;exact yQ ⟨_,_,(.tmp rfl ResV.nil),zX,⟨_,rfl,rfl,rfl⟩⟩
def kY (r:Bool):KT:=fun kk imm' hs' v=>
  ∃ v0,hs'=[]∧v=tupV [v0]∧v0=.bool r
def tN (nest:(List zI)) (t7:Int):Option (Out Unit (Bool)):=do
 if (decide (t7 < (nest.length:Int))) then
  let x←idx nest t7
  let t23←(do
    let y←pI x.Lo t7
    if (!y) then
     pure true
    else
     let y1←pI x.Hi t7
     pure (!y1)
      : Option Bool)
  if t23 then
   pure (.ret false)
  else
   tN nest (W (t7 + 1))
 else
  pure (.done ())
 partial_fixpoint
theorem zAC (nest:(List zI)):∀ (t7:Int) (o:Out Unit (Bool)),tN nest t7=some o→∀ {B}{imm0 imm:Imm}{Q p c},imm0.le imm→(S4 imm p nest c)→(∀ gl a w,¬Q (.goto gl) a w)→(∀ a w,¬Q .outgrown a w)→(∀ (imm':Imm) ,o=(.done ())→imm0.le imm'→T 28 B Q (.exit 0) imm' [] [(0,vS p nest c)])→(∀ r imm' hs' m',o=(.ret r)→imm0.le imm'→RS Tryz.prog Tryz.f96 B (kY  r) imm' hs' m'→T 28 B Q .ret imm' hs' m')→J Tryz.prog 28 B (nav (bodyOf Tryz.f96) [1,0,1,0]) Q imm [] [(0,vS p nest c),(5,vS p nest c),(6,vI (nest.length:Int)),(7,vI t7)]:=by
 refine tN.partial_correctness nest _ ?_;intro self ih t7 o hM B imm0 imm Q p c hle h hg ho hx hr;refine xC hg ho<|zF<|zB<|yA [] [(8,.bool (decide (t7 < (nest.length:Int))))]<|zE<|zF<|yO hM ?_ ?_
 · intro hc hM;refine yE<|zE<|zF<|yC<|zF<|zB<|yK 1 [] [(9,vI t7)] ?_;obtain ⟨x,hy,hM⟩:=zC hM;refine wJ rfl rfl h hy ?_;intro ad ccs hat hrep;obtain ⟨v0,v01,rfl,h1,h2⟩:=uJ hrep;obtain ⟨p1,c1,rfl⟩:=h1.form;obtain ⟨p2,c2,rfl⟩:=h2.form;refine xS 0 hat (cLoop x p1 c1 p2 c2) (vA (cLoop x p1 c1 p2 c2)) rfl<|uD zTwo ?_;intro b hb;refine yK 5 [] [(3,vI t7)]<|xJ 0 (cLoop x p1 c1 p2 c2) [hB b (cLoop x p1 c1 p2 c2)] rfl rfl rfl rfl<|yN rfl<|zE<|zF ?_;obtain ⟨o0,ho0,hMc⟩:=zC hM;refine yU (fun imm' hs' m'=>∃ (t23:Bool),o0=t23∧imm.le imm'∧hs'=[]∧m'=[(0,vS p nest c),(5,vS p nest c),(6,vI (nest.length:Int)),(7,vI t7),(23,.bool t23)]) ?_ ?_
   · have hle:=iS imm;refine zB<|yK 3 [0] [(13,vS p1 x.Lo c1),(14,vI t7)] ?_;obtain ⟨y,hy1,hM⟩:=zC ho0;refine yR (fL x.Lo t7 _ hy1 h1) ?_;rintro imm01 hs2 v2 k2 le - ⟨v02,rfl,rfl,rfl⟩ -;have h2:=h2.mono le;have hle:=hle.trans le;refine yK 6 [] [(17,.bool (!y))] ?_;cases hc1:(!y) with
     | true =>
      have hM0:=zW hc1 hM
      try rw [hc1]
      exact yA [] [(23,.bool true)]<|wD (zK [] rfl (by decide))<|yT [(0,vS p nest c),(5,vS p nest c),(6,vI (nest.length:Int)),(7,vI t7),(23,.bool true)]<|yB ⟨_,(zD hM0).symm,hle,rfl,rfl⟩
     | false =>
      have hM01:=zU hc1 hM
      try rw [hc1]
      refine yK 9 [0] [(19,vS p2 x.Hi c2),(20,vI t7)] ?_;obtain ⟨y1,hy2,hM⟩:=zC hM01;refine yR (fL x.Hi t7 _ hy2 h2) ?_;rintro imm02 hs2 v2 k2 le1 - ⟨v03,rfl,rfl,rfl⟩ -;have hle:=hle.trans le1;exact yA [] [(23,.bool (!y1))]<|wD (zK [] rfl (by decide))<|yT [(0,vS p nest c),(5,vS p nest c),(6,vI (nest.length:Int)),(7,vI t7),(23,.bool (!y1))]<|yB ⟨_,(zD hM).symm,hle,rfl,rfl⟩
   rintro imm0 hs2 m2 ⟨t23,heq,le2,rfl,rfl⟩;subst o0;have h:=h.mono le2;have hle:=hle.trans le2;refine zE<|yO hMc ?_ ?_
   · intro hc2 hM;exact zF<|zB<|yA [] [(2,.bool false)]<|zE<|yJ<|yF<|zR<|zR<|hr _ _ _ _ (zD hM).symm hle ⟨_,_,(.tmp rfl ResV.nil),zX,⟨_,rfl,rfl,rfl⟩⟩
   intro hc2 hM;exact yE<|zY<|zE<|zB<|yA [] [(7,vI (W (t7 + 1)))]<|xD<|vQ [(0,vS p nest c),(5,vS p nest c),(6,vI (nest.length:Int)),(7,vI (W (t7 + 1)))]<|ih (W (t7 + 1)) _ hM hle h hg ho hx hr
 intro hc hM;exact xA<|zS<|zS<|yT [(0,vS p nest c)]<|hx _  (zD hM).symm hle
def qS (nest:(List zI)):Option (Bool):=do
 match←tN nest 0 with
 | .ret r0=>pure r0
 | .done _ =>
  pure (decide ((nest.length:Int) ≤ 4))
theorem zBx:∀ (nest:(List zI)) r,qS nest=some r→∀ {imm:Imm}{p c},(S4 imm p nest c)→Ret Tryz.prog 96 [vS p nest c] imm [] (kY  r):=by
 intro nest r hM imm p c h;unfold qS at hM;refine yG (fn:=Tryz.f96) (c:=(bodyOf Tryz.f96)) Tryz.func96 rfl rfl ?_;rintro B - -;refine zF<|zB<|yA [] []<|zE<|zF<|zF<|zB<|yA [] [(5,vS p nest c),(6,vI (nest.length:Int)),(7,vI 0)]<|zE<|yC<|vQ [(0,vS p nest c),(5,vS p nest c),(6,vI (nest.length:Int)),(7,vI 0)] ?_;obtain ⟨o01,ho01,hMl⟩:=zC hM;refine zAC nest 0 o01 ho01 iR h (fun _ _ _ h=>h) (fun _ _ h=>h) ?_ ?_
 · intro imm03  heq1 le3;subst o01;refine yD<|zE<|zF<|zB<|yA [] [(2,.bool (decide ((nest.length:Int) ≤ 4)))]<|zE<|yJ ?_;obtain rfl:=zD hMl;exact yQ ⟨_,_,(.tmp rfl ResV.nil),zX,⟨_,rfl,rfl,rfl⟩⟩
 intro r0 imm9 hs9 m9 heq9 le9 hrs9;subst heq9;refine yF<|zR ?_;obtain rfl:=zD hMl;exact yQ hrs9
def jW (r:List Int):KT:=fun kk imm' hs' v=>
  ∃ a0 c0 s0,hs'=[.osl (.slice a0 r.length c0) (Rp.sz Int) s0]∧v=tupV [(.slice a0 r.length c0)]∧RepL (Rp.rep imm') (Rp.sz Int) s0 r
def tI (s:List Int):Option (List Int):=app 8 ([]:List Int) s
theorem oM:∀ (s:List Int) r,tI s=some r→∀ {imm:Imm}{p c},SL imm (vS p s c) s→Ret Tryz.prog 70 [vS p s c] imm [] (jW r):=by
 intro s r hM imm p c h;unfold tI at hM;obtain ⟨ccs,k0,k01⟩:=h;refine yG (fn:=Tryz.f70) (c:=(bodyOf Tryz.f70)) Tryz.func70 rfl rfl ?_;rintro B - -;cases p with
 | none =>
  have hs:s=[]:=by
    rcases k0 with ⟨hv,rfl⟩ | ⟨b0,off,len,cap,cc,hv,k2⟩
    · cases s with
      | nil=>rfl
      | cons _ _=>simp at hv
    simp at hv
  subst hs;obtain ⟨_,rfl⟩:=gV hM;refine zF<|zB<|yA [] [(0,vS none ([]:List Int) c),(2,z0)]<|zE<|zF<|zF<|zB<|yK 1 [] [(3,vS none ([]:List Int) c)]<|zJV true rfl rfl ?_ rfl;exact yA [] [(4,.bool true)]<|zE<|dG rfl<|zF<|zB<|yA [] [(2,z0)]<|zE<|yJ<|zR<|wD (uI (Rp.sz Int))<|yQ ⟨_,_,(.tmp rfl ResV.nil),(zK [0] rfl (by decide)),⟨none,0,[],rfl,rfl,rfl⟩⟩
 | some ad =>
  refine zF<|zB<|yA [] [(0,vS (some ad) s c),(2,z0)]<|zE<|zF<|zF<|zB<|yK 1 [] [(3,vS (some ad) s c)]<|zJV false rfl rfl ?_ rfl;refine yA [] [(0,vS (some ad) s c),(4,.bool false)]<|zE<|kZ rfl<|yE<|zE<|zF<|zB<|xQ [] Int ?_;intro b2 hb2;have h1:RL imm [] ([]:List Int):=rfl;refine yK 2 [] [(6,vS (some ad) s c)]<|qI 3 1 0 rfl rfl rfl h1 (.inl k0) k01 hM ?_;intro p1 c1 cs h2;exact yA [] [(2,vS p1 r c1)]<|zE<|yJ<|yQ ⟨_,_,(.tmp rfl ResV.nil),(zK [0] rfl (by decide)),⟨_,_,_,rfl,rfl,h2⟩⟩
def dB (r:Int):KT:=fun kk imm' hs' v=>
  ∃ v0,hs'=[]∧v=tupV [v0]∧v0=.int .i64 r
def uS (a0:zA) (point:(List Int)) (sum:Int) (t12:Int):Option (Int):=do
 if (decide (t12 < (point.length:Int))) then
  let x←idx point t12
  let x1←idx a0.Coefs t12
  uS a0 point (W (sum + (W (x1 * x)))) (W (t12 + 1))
 else
  pure (id sum)
 partial_fixpoint
theorem eC (a0:zA) (point:(List Int)):∀ (sum:Int) (t12:Int) (o:Int),uS a0 point sum t12=some o→∀ {B}{imm0 imm:Imm}{Q p c p1 c1}{b:Nat},imm0.le imm→(S4 imm p1 point c1)→(S4 imm p a0.Coefs c)→(∀ gl a w,¬Q (.goto gl) a w)→(∀ a w,¬Q .outgrown a w)→(∀ (imm':Imm) (sum1:Int),o=sum1→imm0.le imm'→T 28 B Q (.exit 0) imm' [] [(5,vI sum1)])→J Tryz.prog 28 B (nav (bodyOf Tryz.f104) [1,1,0,1,0]) Q imm [hB b (cAff a0 p c)] [(2,vP b 0),(5,vI sum),(10,vS p1 point c1),(11,vI (point.length:Int)),(12,vI t12)]:=by
 refine uS.partial_correctness a0 point _ ?_;intro self ih sum t12 o hM B imm0 imm Q p c p1 c1 b hle h1 h hg ho hx;refine xC hg ho<|zF<|zB<|yA [] [(13,.bool (decide (t12 < (point.length:Int))))]<|zE<|zF<|yO hM ?_ ?_
 · intro hc hM;refine yE<|zE<|zF<|yC<|zF<|zB<|yK 1 [] [(14,vI t12)] ?_;obtain ⟨x,hy,hM⟩:=zC hM;refine wJ rfl rfl h1 hy ?_;intro ad ccs hat hrep;obtain rfl:=hrep;refine xS 0 hat [vI x] (vI x) rfl<|yA [] [(6,vI t12),(7,vI x)]<|zE<|zB<|yK 4 [0] [(17,vI sum),(19,vS p a0.Coefs c),(20,vI t12)] ?_;obtain ⟨x1,hy1,hM⟩:=zC hM;refine wJ rfl rfl h hy1 ?_;intro ad1 ccs1 hat1 hrep1;obtain rfl:=hrep1;exact xS 0 hat1 [vI x1] (vI x1) rfl<|yA [] [(5,vI (W (sum + (W (x1 * x)))))]<|zY<|zE<|zB<|yA [] [(12,vI (W (t12 + 1)))]<|xD<|vQ [(2,vP b 0),(5,vI (W (sum + (W (x1 * x))))),(10,vS p1 point c1),(11,vI (point.length:Int)),(12,vI (W (t12 + 1)))]<|ih (W (sum + (W (x1 * x)))) (W (t12 + 1)) _ hM hle h1 h hg ho hx
 intro hc hM;exact xA<|zS<|zS<|wD (zK [] rfl (by decide))<|yT [(5,vI sum)]<|hx _ _ (zD hM).symm hle
def uG (a0:zA) (point:(List Int)):Option (Int):=do
 let sum1←uS a0 point a0.Const 0
 pure (id sum1)
theorem qL:∀ (a0:zA) (point:(List Int)) r,uG a0 point=some r→∀ {imm:Imm}{p c p1 c1},(S4 imm p a0.Coefs c)→(S4 imm p1 point c1)→Ret Tryz.prog 104 [vA (cAff a0 p c),vS p1 point c1] imm [] (dB  r):=by
 intro a0 point r hM imm p c p1 c1 h h1;unfold uG at hM;refine yG (fn:=Tryz.f104) (c:=(bodyOf Tryz.f104)) Tryz.func104 rfl rfl ?_;rintro B - -;refine zF<|zB<|tR (cAff a0 p c) ?_;intro b hb;refine yA [] []<|zE<|zF<|zB<|yA [0] [(5,vI a0.Const)]<|zE<|zF<|zF<|zB<|yA [] [(10,vS p1 point c1),(11,vI (point.length:Int)),(12,vI 0)]<|zE<|yC<|vQ [(2,vP b 0),(5,vI a0.Const),(10,vS p1 point c1),(11,vI (point.length:Int)),(12,vI 0)] ?_;obtain ⟨o0,ho0,hMl⟩:=zC hM;refine eC a0 point a0.Const 0 o0 ho0 iR h1 h (fun _ _ _ h=>h) (fun _ _ h=>h) ?_;intro imm0 sum1 heq le;subst o0;refine yD<|zE<|zF<|zB<|yA [] [(4,vI sum1)]<|zE<|yJ ?_;obtain rfl:=zD hMl;exact yQ ⟨_,_,(.tmp rfl ResV.nil),zX,⟨_,rfl,rfl,rfl⟩⟩
def zA7 (r:Int×Int):KT:=fun kk imm' hs' v=>
  ∃ v0 v1,hs'=[]∧v=tupV [v0,v1]∧v0=.int .i64 r.1∧v1=.int .i64 r.2
def tO (l:zI) (point:(List Int)) (lo:Int) (t27:Int):Option (Int):=do
 if (decide (t27 < (l.Lo.length:Int))) then
  let x2←idx l.Lo t27
  let y2←uG x2 point
  tO l point (if y2 > lo then y2 else lo) (W (t27 + 1))
 else
  pure (id lo)
 partial_fixpoint
theorem zAD (l:zI) (point:(List Int)):∀ (lo:Int) (t27:Int) (o:Int),tO l point lo t27=some o→∀ {B}{imm0 imm:Imm}{Q}{y1:Int}{p c p1 c1 p2 c2}{b:Nat},imm0.le imm→(S4 imm p2 point c2)→(S4 imm p l.Lo c)→(S4 imm p1 l.Hi c1)→(∀ gl a w,¬Q (.goto gl) a w)→(∀ a w,¬Q .outgrown a w)→(∀ (imm':Imm) (lo1:Int),o=lo1→imm0.le imm'→T 52 B Q (.exit 0) imm' [hB b (cLoop l p c p1 c1)] [(1,vS p2 point c2),(2,vP b 0),(6,vI lo1),(7,vI y1)])→J Tryz.prog 52 B (nav (bodyOf Tryz.f121) [1,1,0,1,0]) Q imm [hB b (cLoop l p c p1 c1)] [(1,vS p2 point c2),(2,vP b 0),(6,vI lo),(7,vI y1),(25,vS p l.Lo c),(26,vI (l.Lo.length:Int)),(27,vI t27)]:=by
 refine tO.partial_correctness l point _ ?_;intro self ih lo t27 o hM B imm0 imm Q y1 p c p1 c1 p2 c2 b hle h2 h h1 hg ho hx;refine xC hg ho<|zF<|zB<|yA [] [(28,.bool (decide (t27 < (l.Lo.length:Int))))]<|zE<|zF<|yO hM ?_ ?_
 · intro hc hM;refine yE<|zE<|zF<|yC<|zF<|zB ?_;obtain ⟨x2,hy4,hM⟩:=zC hM;refine wJ rfl rfl h hy4 ?_;intro ad2 ccs2 hat2 hrep2;obtain ⟨v04,rfl,h7⟩:=yM hrep2;obtain ⟨p5,c5,rfl⟩:=h7.form;refine xS 0 hat2 (cAff x2 p5 c5) (vA (cAff x2 p5 c5)) rfl<|uD [z0,vI 0] ?_;intro b1 hb1;refine xJ 0 (cAff x2 p5 c5) [hB b1 (cAff x2 p5 c5),hB b (cLoop l p c p1 c1)] rfl rfl rfl rfl<|yN rfl<|zE<|zB<|yK 3 [0] [(31,vI lo),(32,vA (cAff x2 p5 c5)),(33,vS p2 point c2)] ?_;obtain ⟨y2,hy5,hM⟩:=zC hM;refine yR (qL x2 point _ hy5 h7 h2) ?_;rintro imm03 hs2 v2 k2 le3 - ⟨v05,rfl,rfl,rfl⟩ -;have h2:=h2.mono le3;have h:=h.mono le3;have h1:=h1.mono le3;have hle:=hle.trans le3;exact yA [] [(6,vI (if y2 > lo then y2 else lo))]<|zY<|zE<|zB<|yA [] [(27,vI (W (t27 + 1)))]<|xD<|qA (zK [1] rfl (by decide))<|vQ [(1,vS p2 point c2),(2,vP b 0),(6,vI (if y2 > lo then y2 else lo)),(7,vI y1),(25,vS p l.Lo c),(26,vI (l.Lo.length:Int)),(27,vI (W (t27 + 1)))]<|ih (if y2 > lo then y2 else lo) (W (t27 + 1)) _ hM hle h2 h h1 hg ho hx
 intro hc hM;exact xA<|zS<|zS<|yT [(1,vS p2 point c2),(2,vP b 0),(6,vI lo),(7,vI y1)]<|hx _ _ (zD hM).symm hle
def tP (l:zI) (point:(List Int)) (hi:Int) (t40:Int):Option (Int):=do
 if (decide (t40 < (l.Hi.length:Int))) then
  let x3←idx l.Hi t40
  let y3←uG x3 point
  tP l point (if y3 < hi then y3 else hi) (W (t40 + 1))
 else
  pure (id hi)
 partial_fixpoint
theorem zAE (l:zI) (point:(List Int)):∀ (hi:Int) (t40:Int) (o:Int),tP l point hi t40=some o→∀ {B}{imm0 imm:Imm}{Q}{lo1:Int}{p1 c1 p2 c2},imm0.le imm→(S4 imm p2 point c2)→(S4 imm p1 l.Hi c1)→(∀ gl a w,¬Q (.goto gl) a w)→(∀ a w,¬Q .outgrown a w)→(∀ (imm':Imm) (hi1:Int),o=hi1→imm0.le imm'→T 52 B Q (.exit 2) imm' [] [(6,vI lo1),(7,vI hi1)])→J Tryz.prog 52 B (nav (bodyOf Tryz.f121) [1,1,1,0,1,0]) Q imm [] [(1,vS p2 point c2),(6,vI lo1),(7,vI hi),(38,vS p1 l.Hi c1),(39,vI (l.Hi.length:Int)),(40,vI t40)]:=by
 refine tP.partial_correctness l point _ ?_;intro self ih hi t40 o hM B imm0 imm Q lo1 p1 c1 p2 c2 hle h2 h1 hg ho hx;refine xC hg ho<|zF<|zB<|yA [] [(41,.bool (decide (t40 < (l.Hi.length:Int))))]<|zE<|zF<|yO hM ?_ ?_
 · intro hc1 hM;refine yE<|zE<|zF<|yC<|zF<|zB ?_;obtain ⟨x3,hy6,hM⟩:=zC hM;refine wJ rfl rfl h1 hy6 ?_;intro ad3 ccs3 hat3 hrep3;obtain ⟨v06,rfl,h9⟩:=yM hrep3;obtain ⟨p6,c6,rfl⟩:=h9.form;refine xS 0 hat3 (cAff x3 p6 c6) (vA (cAff x3 p6 c6)) rfl<|uD [z0,vI 0] ?_;intro b2 hb2;refine xJ 0 (cAff x3 p6 c6) [hB b2 (cAff x3 p6 c6)] rfl rfl rfl rfl<|yN rfl<|zE<|zB<|yK 3 [0] [(44,vI hi),(45,vA (cAff x3 p6 c6)),(46,vS p2 point c2)] ?_;obtain ⟨y3,hy7,hM⟩:=zC hM;refine yR (qL x3 point _ hy7 h9 h2) ?_;rintro imm05 hs2 v2 k2 le5 - ⟨v07,rfl,rfl,rfl⟩ -;have h2:=h2.mono le5;have h1:=h1.mono le5;have hle:=hle.trans le5;exact yA [] [(7,vI (if y3 < hi then y3 else hi))]<|zY<|zE<|zB<|yA [] [(40,vI (W (t40 + 1)))]<|xD<|qA (zK [] rfl (by decide))<|vQ [(1,vS p2 point c2),(6,vI lo1),(7,vI (if y3 < hi then y3 else hi)),(38,vS p1 l.Hi c1),(39,vI (l.Hi.length:Int)),(40,vI (W (t40 + 1)))]<|ih (if y3 < hi then y3 else hi) (W (t40 + 1)) _ hM hle h2 h1 hg ho hx
 intro hc1 hM;exact xA<|zS<|zS<|yT [(6,vI lo1),(7,vI hi)]<|hx _ _ (zD hM).symm hle
def qT (l:zI) (point:(List Int)):Option (Int×Int):=do
 let x←idx l.Lo 0
 let y←uG x point
 let x1←idx l.Hi 0
 let y1←uG x1 point
 let lo1←tO l point y 0
 let hi1←tP l point y1 0
 pure (lo1,hi1)
theorem zBy:∀ (l:zI) (point:(List Int)) r,qT l point=some r→∀ {imm:Imm}{p c p1 c1 p2 c2},(S4 imm p l.Lo c)→(S4 imm p1 l.Hi c1)→(S4 imm p2 point c2)→Ret Tryz.prog 121 [vA (cLoop l p c p1 c1),vS p2 point c2] imm [] (zA7  r):=by
 intro l point r hM imm p c p1 c1 p2 c2 h h1 h2;unfold qT at hM;refine yG (fn:=Tryz.f121) (c:=(bodyOf Tryz.f121)) Tryz.func121 rfl rfl ?_;rintro B - -;have hle:=iS imm;refine zF<|zB<|tR (cLoop l p c p1 c1) ?_;intro b hb;refine yA [] []<|zE<|zF ?_;obtain ⟨x,hy,hM⟩:=zC hM;obtain ⟨y,hy1,hM⟩:=zC hM;obtain ⟨x1,hy2,hM⟩:=zC hM;obtain ⟨y1,hy3,hM⟩:=zC hM;refine uA [.p (vP b 0) [],.p (vS p l.Lo c) [0],.x (fun imm' v hx=>∃ ad p3 c3,v=.pointer (some ad)∧hx=[]∧(At imm' ad (cAff x p3 c3))∧(S4 imm' p3 x.Coefs c3)),.x (fun imm' v hx=>∃ p31 c31,v=vA (cAff x p31 c31)∧hx=[]∧(S4 imm' p31 x.Coefs c31)),.p (vS p2 point c2) [],.q (vI y),.p (vP b 1) [],.p (vS p1 l.Hi c1) [0],.x (fun imm' v hx=>∃ ad1 p4 c4,v=.pointer (some ad1)∧hx=[]∧(At imm' ad1 (cAff x1 p4 c4))∧(S4 imm' p4 x1.Coefs c4)),.x (fun imm' v hx=>∃ p41 c41,v=vA (cAff x1 p41 c41)∧hx=[]∧(S4 imm' p41 x1.Coefs c41)),.p (vS p2 point c2) [],.q (vI y1),.p (vI y) []] [[],[(0,false)],[(1,false)],[(2,false)],[],[(3,false),(4,false)],[],[(6,false)],[(7,false)],[(8,false)],[],[(9,false),(10,false)],[(5,false)]] [hB b (cLoop l p c p1 c1)] [] [(11,false),(12,false)] (zK [0] rfl (by decide)) ?_ ?_
 · refine Op<|Op<|Ox ?_<|Ox ?_<|Op<|Oq ?_<|Op<|Op<|Ox ?_<|Ox ?_<|Op<|Oq ?_<|Op<|On
   · intro imm1 hf le1;refine zG ?_;rintro _ _ ⟨rfl,rfl⟩;refine zN<|yH [(13,vS p l.Lo c)] ?_;have hle:=iS imm1;have h:=h.mono le1;refine wJ rfl rfl h hy ?_;intro ad ccs hat hrep;obtain ⟨v0,rfl,h3⟩:=yM hrep;obtain ⟨p3,c3,rfl⟩:=h3.form;exact zZ (hx:=[]) rfl hle rfl (zM rfl) ⟨_,_,_,rfl,rfl,hat,h3⟩
   · intro imm1 hf le1;refine zG ?_;rintro _ _ ⟨ad,p3,c3,rfl,rfl,hat,h3⟩;refine zN<|yH [(14,.pointer (some ad))] ?_;have hle:=iS imm1;exact xS 0 hat (cAff x p3 c3) (vA (cAff x p3 c3)) rfl<|zZ (hx:=[]) rfl hle rfl (zM rfl) ⟨_,_,rfl,rfl,h3⟩
   · intro imm1 hf le1;refine zG ?_;rintro _ _ ⟨p31,c31,rfl,rfl,h31⟩;refine zG ?_;rintro _ _ ⟨rfl,rfl⟩;refine zN<|yH [(15,vA (cAff x p31 c31)),(16,vS p2 point c2)] ?_;have hle:=iS imm1;have h2:=h2.mono le1;refine yR (qL x point _ hy1 h31 h2) ?_;rintro imm0 hs2 v2 k2 le - ⟨v01,rfl,rfl,rfl⟩ -;have hle:=hle.trans le;exact zZ (hx:=[]) rfl hle rfl (zM rfl) ⟨rfl,rfl⟩
   · intro imm1 hf le1;refine zG ?_;rintro _ _ ⟨rfl,rfl⟩;refine zN<|yH [(19,vS p1 l.Hi c1)] ?_;have hle:=iS imm1;have h1:=h1.mono le1;refine wJ rfl rfl h1 hy2 ?_;intro ad1 ccs1 hat1 hrep1;obtain ⟨v02,rfl,h5⟩:=yM hrep1;obtain ⟨p4,c4,rfl⟩:=h5.form;exact zZ (hx:=[]) rfl hle rfl (zM rfl) ⟨_,_,_,rfl,rfl,hat1,h5⟩
   · intro imm1 hf le1;refine zG ?_;rintro _ _ ⟨ad1,p4,c4,rfl,rfl,hat1,h5⟩;refine zN<|yH [(20,.pointer (some ad1))] ?_;have hle:=iS imm1;exact xS 0 hat1 (cAff x1 p4 c4) (vA (cAff x1 p4 c4)) rfl<|zZ (hx:=[]) rfl hle rfl (zM rfl) ⟨_,_,rfl,rfl,h5⟩
   intro imm1 hf le1;refine zG ?_;rintro _ _ ⟨p41,c41,rfl,rfl,h51⟩;refine zG ?_;rintro _ _ ⟨rfl,rfl⟩;refine zN<|yH [(21,vA (cAff x1 p41 c41)),(22,vS p2 point c2)] ?_;have hle:=iS imm1;have h2:=h2.mono le1;refine yR (qL x1 point _ hy3 h51 h2) ?_;rintro imm01 hs2 v2 k2 le1 - ⟨v03,rfl,rfl,rfl⟩ -;have hle:=hle.trans le1;exact zZ (hx:=[]) rfl hle rfl (zM rfl) ⟨rfl,rfl⟩
 intro imm02 le2;refine zG ?_;rintro _ _ ⟨rfl,rfl⟩;refine zG ?_;rintro _ _ ⟨rfl,rfl⟩;refine zN<|yH [(1,vS p2 point c2),(2,vP b 0),(6,vI y),(23,vI y1)] ?_;have h2:=h2.mono le2;have h:=h.mono le2;have h1:=h1.mono le2;refine yA [] [(7,vI y1)]<|zE<|zF<|zF<|zB<|yA [0] [(25,vS p l.Lo c),(26,vI (l.Lo.length:Int)),(27,vI 0)]<|zE<|yC<|vQ [(1,vS p2 point c2),(2,vP b 0),(6,vI y),(7,vI y1),(25,vS p l.Lo c),(26,vI (l.Lo.length:Int)),(27,vI 0)] ?_;obtain ⟨o0,ho0,hMl⟩:=zC hM;refine zAD l point y 0 o0 ho0 iR h2 h h1 (fun _ _ _ h=>h) (fun _ _ h=>h) ?_;intro imm04 lo1 heq le4;subst o0;have h2:=h2.mono le4;have h:=h.mono le4;have h1:=h1.mono le4;refine yD<|zE<|zF<|zF<|zB<|yA [0] [(38,vS p1 l.Hi c1),(39,vI (l.Hi.length:Int)),(40,vI 0)]<|zE<|yC<|qA (zK [] (hs':=[]) rfl (by decide))<|vQ [(1,vS p2 point c2),(6,vI lo1),(7,vI y1),(38,vS p1 l.Hi c1),(39,vI (l.Hi.length:Int)),(40,vI 0)] ?_;obtain ⟨o01,ho01,hMl1⟩:=zC hMl;refine zAE l point y1 0 o01 ho01 iR h2 h1 (fun _ _ _ h=>h) (fun _ _ h=>h) ?_;intro imm06 hi1 heq1 le6;subst o01;refine yD<|zE<|zF<|zB<|yA [] [(4,vI lo1),(5,vI hi1)]<|zE<|yJ ?_;obtain rfl:=zD hMl1;exact yQ ⟨_,_,(.tmp rfl (.tmp rfl ResV.nil)),zX,⟨_,_,rfl,rfl,rfl,rfl⟩⟩
def sV (b0:Nat) (r:Bool×uC):KT:=fun kk imm' hs' v=>
  ∃ v0 x0_0 y0_0 x0_2 y0_2 z0_2,hs'=[.blk b0 ⟨[.slice x0_0 r.2.nest.length y0_0,.int .i64 r.2.steps,.slice x0_2 r.2.out.length y0_2]⟩,.osl (.slice x0_2 r.2.out.length y0_2) (Rp.sz (List Int)) z0_2]∧v=tupV [v0]∧v0=.bool r.1∧SL imm' (.slice x0_0 r.2.nest.length y0_0) r.2.nest∧RepL (Rp.rep imm') (Rp.sz (List Int)) z0_2 r.2.out
mutual
def uP (w0:uC) (point:(List Int)):Option (Bool×uC):=do
 if ((point.length:Int) == (w0.nest.length:Int)) then
  let y←tI point
  let l←app 24 w0.out ([y]:List (List Int))
  pure ((decide ((l.length:Int) ≤ 120)),(uC.mk w0.nest w0.steps l))
 else
  let x←idx w0.nest (point.length:Int)
  let (y2,y3)←qT x point
  match←tJ (same point) (same y3) (same y2) w0.nest w0.steps w0.out with
  | .ret r0=>pure r0
  | .done (nest1,steps1,out1) =>
   pure (true,(uC.mk nest1 steps1 out1))
 partial_fixpoint
def tJ (point:(List Int)) (y3:Int) (n0:Int) (nest:List zI) (steps:Int) (out:List (List Int)):Option (Out (List zI×Int×List (List Int)) (Bool×uC)):=do
 if (decide (n0 < y3)) then
  let (t74,nest2,steps2,out2)←(do
    if (decide ((W ((W (steps + 1)) + 1)) > 1200)) then
     pure (true,nest,(W (steps + 1)),out)
    else
     let y4←tI point
     let l1←app 8 y4 ([n0]:List Int)
     let (y6,y7)←uP (uC.mk nest (W (steps + 1)) out) (same l1)
     pure ((!y6),y7.nest,y7.steps,y7.out)
      : Option (Bool×List zI×Int×List (List Int)))
  if t74 then
   pure (.ret (false,(uC.mk nest2 steps2 out2)))
  else
   tJ (same point) (same y3) (W (n0 + 1)) (same nest2) (same steps2) (same out2)
 else
  pure (.done (nest,steps,out))
 partial_fixpoint
end
theorem dC:(∀ (w0:uC) (point:(List Int)) r,uP w0 point=some r→∀ {imm:Imm}{r0:Nat}{p c p1 c1 cs p2 c2},(S4 imm p w0.nest c)→(RL imm cs w0.out)→(S4 imm p2 point c2)→Ret Tryz.prog 97 [vP r0 0,vS p2 point c2] imm [hB r0 [vS p w0.nest c,vI w0.steps,vS p1 w0.out c1],hO (List Int) (vS p1 w0.out c1) cs] (sV r0 r))∧(∀ (point:(List Int)) (y3:Int) (n0:Int) (nest:List zI) (steps:Int) (out:List (List Int)) o,tJ point y3 n0 nest steps out=some o→∀ {B}{imm0 imm:Imm}{Q}  {r0:Nat}{p2 c2 p7 c7 p8 c8 cs3},imm0.le imm→(S4 imm p2 point c2)→(S4 imm p7 nest c7)→(RL imm cs3 out)→(∀ gl a w,¬Q (.goto gl) a w)→(∀ a w,¬Q .outgrown a w)→(∀ (imm':Imm) (nest1:List zI) (steps1:Int) (out1:List (List Int)) (p9:Option Addr) (c9:Nat) (p10:Option Addr) (c10:Nat) (cs4:List Value),o=(.done (nest1,steps1,out1))→imm0.le imm'→(S4 imm' p9 nest1 c9)→(RL imm' cs4 out1)→T 75 B Q (.exit 0) imm' [hB r0 [vS p9 nest1 c9,vI steps1,vS p10 out1 c10],hO (List Int) (vS p10 out1 c10) cs4] [])→(∀ r imm' hs' m',o=(.ret r)→imm0.le imm'→RS Tryz.prog Tryz.f97 B (sV r0 r) imm' hs' m'→T 75 B Q .ret imm' hs' m')→J Tryz.prog 75 B (nav (bodyOf Tryz.f97) [1,1,1,0,1,0]) Q imm [hB r0 [vS p7 nest c7,vI steps,vS p8 out c8],hO (List Int) (vS p8 out c8) cs3] [(0,vP r0 0),(1,vS p2 point c2),(6,vI y3),(7,vI n0)]):=by
  refine uP.mutual_partial_correctness (fun w0 point r=>∀ {imm:Imm}{r0:Nat}{p c p1 c1 cs p2 c2},(S4 imm p w0.nest c)→(RL imm cs w0.out)→(S4 imm p2 point c2)→Ret Tryz.prog 97 [vP r0 0,vS p2 point c2] imm [hB r0 [vS p w0.nest c,vI w0.steps,vS p1 w0.out c1],hO (List Int) (vS p1 w0.out c1) cs] (sV r0 r)) (fun point y3 n0 nest steps out o=>∀ {B}{imm0 imm:Imm}{Q}  {r0:Nat}{p2 c2 p7 c7 p8 c8 cs3},imm0.le imm→(S4 imm p2 point c2)→(S4 imm p7 nest c7)→(RL imm cs3 out)→(∀ gl a w,¬Q (.goto gl) a w)→(∀ a w,¬Q .outgrown a w)→(∀ (imm':Imm) (nest1:List zI) (steps1:Int) (out1:List (List Int)) (p9:Option Addr) (c9:Nat) (p10:Option Addr) (c10:Nat) (cs4:List Value),o=(.done (nest1,steps1,out1))→imm0.le imm'→(S4 imm' p9 nest1 c9)→(RL imm' cs4 out1)→T 75 B Q (.exit 0) imm' [hB r0 [vS p9 nest1 c9,vI steps1,vS p10 out1 c10],hO (List Int) (vS p10 out1 c10) cs4] [])→(∀ r imm' hs' m',o=(.ret r)→imm0.le imm'→RS Tryz.prog Tryz.f97 B (sV r0 r) imm' hs' m'→T 75 B Q .ret imm' hs' m')→J Tryz.prog 75 B (nav (bodyOf Tryz.f97) [1,1,1,0,1,0]) Q imm [hB r0 [vS p7 nest c7,vI steps,vS p8 out c8],hO (List Int) (vS p8 out c8) cs3] [(0,vP r0 0),(1,vS p2 point c2),(6,vI y3),(7,vI n0)]) ?_ ?_
  · intro F_impl_walking_walk_l1 ih_impl_walking_walk_l1 w0 point r hM imm r0 p c p1 c1 cs p2 c2 h h1 h2;refine yG (fn:=Tryz.f97) (c:=(bodyOf Tryz.f97)) Tryz.func97 rfl rfl ?_;rintro B - -;have hle:=iS imm;refine zF<|zB<|yA [] []<|zE<|zF<|zF<|zB<|yA [0] [(15,.bool ((point.length:Int) == (w0.nest.length:Int)))]<|zE<|yO hM ?_ ?_
    · intro hc hM;refine zF ?_;obtain ⟨y,hy,hM⟩:=zC hM;obtain ⟨l,hy1,hM⟩:=zC hM;refine uA [.p (vP r0 0) [],.p (vP r0 0) [],.p (vP r0 0) [],.p (vP r0 2) [],.p (vS p1 w0.out c1) [0],.p (vS p2 point c2) [],.x (fun imm' v hx=>∃ p3 c3 cs1,v=vS p3 y c3∧hx=[hO Int (vS p3 y c3) cs1]∧(RL imm' cs1 y)),.x (fun imm' v hx=>∃ b,v=vS (some ⟨b,0,none⟩) ([y]:List (List Int)) 1∧hx=[]∧(SL imm' (vS (some ⟨b,0,none⟩) ([y]:List (List Int)) 1) ([y]:List (List Int)))),.x (fun imm' v hx=>∃ p4 c4 cs2,v=vS p4 l c4∧hx=[hO (List Int) (vS p4 l c4) cs2]∧(RL imm' cs2 l))] [[],[],[(1,false)],[(2,false)],[(3,false)],[],[(5,false)],[(6,true)],[(4,false),(7,false),(12,true)]] [hB r0 [vS p w0.nest c,vI w0.steps,vS p1 w0.out c1]] [[hO (List Int) (vS p1 w0.out c1) cs]] [(0,false),(8,true)] (zK [0,1] rfl (by decide)) ?_ ?_
      · refine Op<|Op<|Op<|Op<|Op<|Op<|Ox ?_<|Ox ?_<|Ox ?_<|On
        · intro imm1 hf le1;refine zG ?_;rintro _ _ ⟨rfl,rfl⟩;refine zN<|yH [(21,vS p2 point c2)] ?_;have hle:=iS imm1;have h2:=h2.mono le1;refine yR (oM point _ hy h2) ?_;rintro imm0 hs2 v2 k2 le - ⟨p3,c3,cs1,rfl,rfl,h3⟩ -;have hle:=hle.trans le;exact zZ (hx:=[hO Int (vS p3 y c3) cs1]) rfl hle rfl (zM rfl) ⟨_,_,_,rfl,rfl,h3⟩
        · intro imm1 hf le1;refine zG ?_;rintro _ _ ⟨p3,c3,cs1,rfl,rfl,h3⟩;refine zN<|yH [(22,vS p3 y c3)] ?_;have hle:=iS imm1;refine yL 0 rfl ?_;intro imm01 le1 hl0;have h4:=SL.of_frozen hl0 le1 h3;have hle:=hle.trans le1;refine xQ [vS p3 y c3] (List Int) ?_;intro b hb;have h5:RL imm01 [vS p3 y c3] ([y]:List (List Int)):=⟨[vS p3 y c3],_,rfl,rfl,⟨_,rfl,h4⟩,rfl⟩;refine yL 0 rfl ?_;intro imm02 le2 hl01;have h6:=SL.of_frozen hl01 le2 h5;have hle:=hle.trans le2;exact zZ (hx:=[]) rfl hle rfl (zM rfl) ⟨_,rfl,rfl,h6⟩
        intro imm1 hf le1;refine zG ?_;rintro _ _ ⟨rfl,rfl⟩;refine zG ?_;rintro _ _ ⟨b,rfl,rfl,h6⟩;refine zG ?_;rintro _ _ rfl;refine zN<|yH [(20,vS p1 w0.out c1),(23,vS (some ⟨b,0,none⟩) ([y]:List (List Int)) 1)] ?_;have hle:=iS imm1;have h1:=iM le1 h1;obtain ⟨ccs,k0,k01⟩:=h6;have h6:SL imm1 (vS (some ⟨b,0,none⟩) ([y]:List (List Int)) 1) ([y]:List (List Int)):=⟨_,k0,k01⟩;refine qI 28 1 0 rfl rfl rfl h1 (.inl k0) k01 hy1 ?_;intro p4 c4 cs2 h7;exact uB (hs':=(hO (List Int) (vS p4 l c4) cs2::hB r0 [vS p w0.nest c,vI w0.steps,vS p1 w0.out c1]::hf)) rfl<|zZ (hx:=[hO (List Int) (vS p4 l c4) cs2]) rfl hle rfl (zM rfl) ⟨_,_,_,rfl,rfl,h7⟩
      intro imm03 le3;refine zG ?_;rintro _ _ ⟨rfl,rfl⟩;refine zG ?_;rintro _ _ ⟨p4,c4,cs2,rfl,rfl,h7⟩;refine zN<|yH [(0,vP r0 0),(16,vP r0 0),(24,vS p4 l c4)] ?_;have h:=h.mono le3;refine yK 11 [] [(26,vP r0 2)]<|xJ 1 [vS p w0.nest c,vI w0.steps,vS p4 l c4] [hO (List Int) (vS p4 l c4) cs2,hB r0 [vS p w0.nest c,vI w0.steps,vS p4 l c4]] rfl rfl rfl rfl<|yN rfl<|zE<|zF<|zB<|yA [1] [(4,.bool (decide ((l.length:Int) ≤ 120)))]<|zE<|yJ<|zR ?_;obtain rfl:=zD hM;exact yQ ⟨_,_,(.tmp rfl ResV.nil),(zK [1,0] rfl (by decide)),⟨_,_,_,_,_,_,rfl,rfl,rfl,h,h7⟩⟩
    intro hc hM;refine yE<|zE<|zF<|zB<|yK 6 [0] [(37,vS p w0.nest c),(39,vI (point.length:Int))] ?_;obtain ⟨x,hy2,hM⟩:=zC hM;refine wJ rfl rfl h hy2 ?_;intro ad ccs1 hat hrep;obtain ⟨v0,v01,rfl,h8,h9⟩:=uJ hrep;obtain ⟨p5,c5,rfl⟩:=h8.form;obtain ⟨p6,c6,rfl⟩:=h9.form;refine xS 0 hat (cLoop x p5 c5 p6 c6) (vA (cLoop x p5 c5 p6 c6)) rfl<|yK 9 [] [(42,vS p2 point c2)] ?_;obtain ⟨⟨y2,y3⟩,hy3,hM⟩:=zC hM;refine yR (zBy x point _ hy3 h8 h9 h2) ?_;rintro imm04 hs2 v2 k2 le4 - ⟨v02,v03,rfl,rfl,rfl,rfl⟩ -;have h2:=h2.mono le4;have h:=h.mono le4;have h1:=iM le4 h1;refine yA [] [(5,vI y2),(6,vI y3)]<|zE<|zF<|zF<|zB<|yA [] [(7,vI y2)]<|zE<|yC<|vQ [(0,vP r0 0),(1,vS p2 point c2),(6,vI y3),(7,vI y2)] ?_;obtain ⟨o01,ho01,hMl⟩:=zC hM;refine ih_impl_walking_walk_l1 point y3 y2 w0.nest w0.steps w0.out o01 ho01 iR h2 h h1 (fun _ _ _ h=>h) (fun _ _ h=>h) ?_ ?_
    · intro imm09 nest1 steps1 out1 p9 c9 p10 c10 cs4 heq1 le9 h14 h15;subst o01;refine yD<|zE<|zF<|zB<|yA [] [(4,.bool true)]<|zE<|yJ ?_;obtain rfl:=zD hMl;exact yQ ⟨_,_,(.tmp rfl ResV.nil),(zK [0,1] rfl (by decide)),⟨_,_,_,_,_,_,rfl,rfl,rfl,h14,h15⟩⟩
    intro r0 imm9 hs9 m9 heq9 le9 hrs9;subst heq9;refine yF<|zR ?_;obtain rfl:=zD hMl;exact yQ hrs9
  intro F_impl_walking_walk F_impl_walking_walk_l1 ih_impl_walking_walk ih_impl_walking_walk_l1 point y3 n0 nest steps out o hM B imm0 imm Q r0 p2 c2 p7 c7 p8 c8 cs3 hle h2 h12 h13 hg ho hx hr;refine xC hg ho<|zF<|zF<|zB<|yA [] [(49,.bool (decide (n0 < y3)))]<|zE<|yO hM ?_ ?_
  · intro hc1 hM;refine yE<|zE<|zF<|yC<|zF<|zB<|yK 7 [0] [(56,vI (W (steps + 1))),(58,vP r0 1)]<|xJ 0 [vS p7 nest c7,vI (W (steps + 1)),vS p8 out c8] [hB r0 [vS p7 nest c7,vI (W (steps + 1)),vS p8 out c8],hO (List Int) (vS p8 out c8) cs3] rfl rfl rfl rfl<|yN rfl<|zE<|zF ?_;obtain ⟨o0,ho0,hMc⟩:=zC hM;refine yU (fun imm' hs' m'=>∃ (t74:Bool) (nest2:List zI) (steps2:Int) (out2:List (List Int)) (p11:Option Addr) (c11:Nat) (p12:Option Addr) (c12:Nat) (cs5:List Value),o0=(t74,nest2,steps2,out2)∧imm.le imm'∧(S4 imm' p11 nest2 c11)∧(RL imm' cs5 out2)∧hs'=[hB r0 [vS p11 nest2 c11,vI steps2,vS p12 out2 c12],hO (List Int) (vS p12 out2 c12) cs5]∧m'=[(0,vP r0 0),(1,vS p2 point c2),(6,vI y3),(7,vI n0),(74,.bool t74)]) ?_ ?_
    · have hle:=iS imm;refine zB<|yK 7 [0] [(65,.bool (decide ((W ((W (steps + 1)) + 1)) > 1200)))] ?_;cases hc2:(decide ((W ((W (steps + 1)) + 1)) > 1200)) with
      | true =>
       have hM0:=zW hc2 ho0
       try rw [hc2]
       exact yA [] [(74,.bool true)]<|yT [(0,vP r0 0),(1,vS p2 point c2),(6,vI y3),(7,vI n0),(74,.bool true)]<|yB ⟨_,_,_,_,_,_,_,_,_,(zD hM0).symm,hle,h12,h13,rfl,rfl⟩
      | false =>
       have hM01:=zU hc2 ho0
       try rw [hc2]
       refine yK 9 [] [(66,vP r0 0),(67,vS p2 point c2)] ?_;obtain ⟨y4,hy4,hM⟩:=zC hM01;refine yR (oM point _ hy4 h2) ?_;rintro imm06 hs2 v2 k2 le5 - ⟨p13,c13,cs6,rfl,rfl,h18⟩ -;have h12:=h12.mono le5;have h13:=iM le5 h13;have hle:=hle.trans le5;refine yK 11 [] [(69,vI n0)]<|xQ [vI n0] Int ?_;intro b1 hb1;have h19:RL imm06 [vI n0] ([n0]:List Int):=⟨[vI n0],_,rfl,rfl,rfl,rfl⟩;obtain ⟨l1,hy5,hM⟩:=zC hM;refine qI 3 1 1 rfl rfl rfl h18 (.inr ⟨0,rfl⟩) h19 hy5 ?_;intro p14 c14 cs7 h20;refine rX (zK [1,2,3] (hs':=[hO Int (vS p14 l1 c14) cs7,hB r0 [vS p7 nest c7,vI (W (steps + 1)),vS p8 out c8],hO (List Int) (vS p8 out c8) cs3]) rfl (by decide))<|yL 0 rfl ?_;intro imm07 le6 hl02;have h21:=SL.of_frozen hl02 le6 h20;have h12:=h12.mono le6;have h13:=iM le6 h13;have hle:=hle.trans le6;obtain ⟨⟨y6,y7⟩,hy6,hM⟩:=zC hM;refine sD [hB r0 [vS p7 nest c7,vI (W (steps + 1)),vS p8 out c8],hO (List Int) (vS p8 out c8) cs3] [] (ih_impl_walking_walk (uC.mk nest (W (steps + 1)) out) l1 _ hy6 h12 h13 h21) ?_;rintro imm08 hs2 v2 k2 le7 - ⟨v04,p15,c15,p16,c16,cs8,rfl,rfl,rfl,h23,h24⟩ -;have hle:=hle.trans le7;exact yA [] [(74,.bool (!y6))]<|yT [(0,vP r0 0),(1,vS p2 point c2),(6,vI y3),(7,vI n0),(74,.bool (!y6))]<|yB ⟨_,_,_,_,_,_,_,_,_,(zD hM).symm,hle,h23,h24,rfl,rfl⟩
    rintro imm05 hs2 m2 ⟨t74,nest2,steps2,out2,p11,c11,p12,c12,cs5,heq,le8,h16,h17,rfl,rfl⟩;subst o0;have h2:=h2.mono le8;have hle:=hle.trans le8;refine zE<|yO hMc ?_ ?_
    · intro hc3 hM;exact zF<|zB<|yA [] [(4,.bool false)]<|zE<|yJ<|yF<|zR<|zR<|hr _ _ _ _ (zD hM).symm hle ⟨_,_,(.tmp rfl ResV.nil),(zK [0,1] rfl (by decide)),⟨_,_,_,_,_,_,rfl,rfl,rfl,h16,h17⟩⟩
    intro hc3 hM;exact yE<|zY<|zE<|zB<|yA [] [(7,vI (W (n0 + 1)))]<|xD<|vQ [(0,vP r0 0),(1,vS p2 point c2),(6,vI y3),(7,vI (W (n0 + 1)))]<|ih_impl_walking_walk_l1 point y3 (W (n0 + 1)) nest2 steps2 out2 _ hM hle h2 h16 h17 hg ho hx hr
  intro hc1 hM;exact xA<|zS<|zS<|yT []<|hx _ _ _ _ _ _ _ _ _ (zD hM).symm hle h12 h13
theorem zAF:∀ (w0:uC) (point:(List Int)) r,uP w0 point=some r→∀ {imm:Imm}{r0:Nat}{p c p1 c1 cs p2 c2},(S4 imm p w0.nest c)→(RL imm cs w0.out)→(S4 imm p2 point c2)→Ret Tryz.prog 97 [vP r0 0,vS p2 point c2] imm [hB r0 [vS p w0.nest c,vI w0.steps,vS p1 w0.out c1],hO (List Int) (vS p1 w0.out c1) cs] (sV r0 r):=dC.1
def zAG (r:(List (List Int))×Bool):KT:=fun kk imm' hs' v=>
  ∃ v0 v1,hs'=[]∧v=tupV [v0,v1]∧SL imm' v0 r.1∧v1=.bool r.2
def pR (nest:(List zI)):Option ((List (List Int))×Bool):=do
 let y←qS nest
 if (!y) then
  pure (([]:List (List Int)),false)
 else
  let (y2,y3)←uP (uC.mk nest 0 ([]:List (List Int))) ([]:List Int)
  if (!y2) then
   pure (([]:List (List Int)),false)
  else
   pure (y3.out,true)
theorem zBG:∀ (nest:(List zI)) r,pR nest=some r→∀ {imm:Imm}{p c},(S4 imm p nest c)→Ret Tryz.prog 64 [vS p nest c] imm [] (zAG  r):=by
 intro nest r hM imm p c h;unfold pR at hM;refine yG (fn:=Tryz.f64) (c:=(bodyOf Tryz.f64)) Tryz.func64 rfl rfl ?_;rintro B - -;refine zF<|zB<|yA [] []<|zE<|zF<|zF<|zB<|yK 1 [] [(5,vS p nest c)] ?_;obtain ⟨y,hy,hM⟩:=zC hM;refine yR (zBx nest _ hy h) ?_;rintro imm0 hs2 v2 k2 le - ⟨v0,rfl,rfl,rfl⟩ -;have h:=h.mono le;refine yA [] [(7,.bool (!y))]<|zE<|yO hM ?_ ?_
 · intro hc hM;refine zF<|zB<|yA [] [(2,z0),(3,.bool false)]<|zE<|yJ<|zR ?_;obtain rfl:=zD hM;exact yQ ⟨_,_,(.tmp rfl (.tmp rfl ResV.nil)),zX,⟨_,_,rfl,rfl,(SL.nil _),rfl⟩⟩
 intro hc hM;refine yE<|zE<|zF<|zB<|yK 2 [] [(9,vA [vS p nest c,vI 0,z0])]<|tR [vS p nest c,vI 0,z0] ?_;intro b hb;refine yA [] [(4,vP b 0)]<|zE<|zF<|zF<|zB<|yK 1 [] [(11,vP b 0)]<|rX (uI (Rp.sz (List Int))) ?_;have h2:RL imm0 [] ([]:List (List Int)):=RepL.nil;refine rX (zK [1,0] (hs':=[hB b [vS p nest c,vI 0,vS none ([]:List (List Int)) 0],hO (List Int) (vS none ([]:List (List Int)) 0) []]) rfl (by decide)) ?_;obtain ⟨⟨y2,y3⟩,hy1,hM⟩:=zC hM;refine sD [hB b [vS p nest c,vI 0,vS none ([]:List (List Int)) 0],hO (List Int) (vS none ([]:List (List Int)) 0) []] [] (zAF (uC.mk nest 0 ([]:List (List Int))) ([]:List Int) _ hy1 h h2 (SL.nil _)) ?_;rintro imm01 hs2 v2 k2 le1 - ⟨v01,p1,c1,p2,c2,cs,rfl,rfl,rfl,h4,h5⟩ -;refine yA [] [(13,.bool (!y2))]<|zE<|yO hM ?_ ?_
 · intro hc1 hM;refine zF<|zB<|yA [] [(2,z0),(3,.bool false)]<|zE<|yJ<|zR ?_;obtain rfl:=zD hM;exact yQ ⟨_,_,(.tmp rfl (.tmp rfl ResV.nil)),zX,⟨_,_,rfl,rfl,(SL.nil _),rfl⟩⟩
 intro hc1 hM;refine yE<|zE<|zF<|zB<|yA [0] [(2,vS p2 y3.out c2),(3,.bool true)]<|zE<|yJ<|xI 1 rfl ?_;intro imm02 le2 hl0;have h6:=SL.of_frozen hl0 le2 h5;obtain rfl:=zD hM;exact yQ ⟨_,_,(.tmp rfl (.tmp rfl ResV.nil)),zX,⟨_,_,rfl,rfl,h6,rfl⟩⟩
def rA (hsF:List HA) (r:Int):KT:=fun kk imm' hs' v=>
  ∃ v0,hsF=hs'∧v=tupV [v0]∧v0=.int .i64 r
def xB (s:(List zQ)) (f0:(zQ→Option Bool)) (t8:Int):Option (Out Unit (Int)):=do
 if (decide (t8 < (s.length:Int))) then
  let x←idx s t8
  let y←f0 x
  if y then
   pure (.ret t8)
  else
   xB s f0 (W (t8 + 1))
 else
  pure (.done ())
 partial_fixpoint
theorem oX (s:(List zQ)) (f0:(zQ→Option Bool)):∀ (t8:Int) (o:Out Unit (Int)),xB s f0 t8=some o→∀ {B}{imm0 imm:Imm}{Q p c}{fv:Value}{hsF:List HA},imm0.le imm→(S4 imm p s c)→(FV1 Tryz.prog imm hsF fv f0)→(∀ gl a w,¬Q (.goto gl) a w)→(∀ a w,¬Q .outgrown a w)→(∀ (imm':Imm) ,o=(.done ())→imm0.le imm'→T 19 B Q (.exit 0) imm' hsF [])→(∀ r imm' hs' m',o=(.ret r)→imm0.le imm'→RS Tryz.prog Tryz.f98 B (rA hsF r) imm' hs' m'→T 19 B Q .ret imm' hs' m')→J Tryz.prog 19 B (nav (bodyOf Tryz.f98) [1,0,1,0]) Q imm hsF [(0,vS p s c),(1,fv),(7,vI (s.length:Int)),(8,vI t8)]:=by
 refine xB.partial_correctness s f0 _ ?_;intro self ih t8 o hM B imm0 imm Q p c fv hsF hle h h1 hg ho hx hr;refine xC hg ho<|zF<|zB<|yA [] [(9,.bool (decide (t8 < (s.length:Int))))]<|zE<|zF<|yO hM ?_ ?_
 · intro hc hM;refine yE<|zE<|zF<|yC<|zF<|zB<|yA [] [(5,vI t8)]<|zE<|zF<|zB<|yK 3 [] [(11,fv),(12,vS p s c),(13,vI t8)] ?_;obtain ⟨x,hy,hM⟩:=zC hM;refine wJ rfl rfl h hy ?_;intro ad ccs hat hrep;obtain ⟨v0,v01,v02,v03,rfl,h2,h3,h4,h5⟩:=wA hrep;obtain ⟨p1,c1,rfl⟩:=h2.form;obtain ⟨p2,c2,rfl⟩:=h3.form;obtain ⟨p3,c3,rfl⟩:=h4.form;obtain ⟨p4,c4,rfl⟩:=h5.form;refine xS 0 hat (cStmt x p1 c1 p2 c2 p3 c3 p4 c4) (vA (cStmt x p1 c1 p2 c2 p3 c3 p4 c4)) rfl ?_;obtain ⟨y,hy1,hM⟩:=zC hM;refine zG5 rfl rfl h1 hy1 ⟨_,rfl,(wL ⟨_,_,_,_,rfl,h2,h3,h4,h5⟩)⟩ (List.append_nil _).symm ?_;rintro imm0 v04 le rfl;refine uB (hs':=hsF) (List.append_nil _) ?_;have h:=h.mono le;have h1:=h1.mono le;have hle:=hle.trans le;refine yN rfl<|zE<|yO hM ?_ ?_
   · intro hc1 hM;exact zF<|zB<|yA [] [(4,vI t8)]<|zE<|yJ<|yF<|zR<|zR<|hr _ _ _ _ (zD hM).symm hle ⟨_,_,(.tmp rfl ResV.nil),(fun _ h=>h),⟨_,rfl,rfl,rfl⟩⟩
   intro hc1 hM;exact yE<|zY<|zE<|zB<|yA [] [(8,vI (W (t8 + 1)))]<|xD<|vQ [(0,vS p s c),(1,fv),(7,vI (s.length:Int)),(8,vI (W (t8 + 1)))]<|ih (W (t8 + 1)) _ hM hle h h1 hg ho hx hr
 intro hc hM;exact xA<|zS<|zS<|yT []<|hx _  (zD hM).symm hle
def wW (s:(List zQ)) (f0:(zQ→Option Bool)):Option (Int):=do
 match←xB s f0 0 with
 | .ret r0=>pure r0
 | .done _ =>
  pure (-1)
theorem nI:∀ (s:(List zQ)) (f0:(zQ→Option Bool)) r,wW s f0=some r→∀ {imm:Imm}{p c}{fv:Value}{hsF:List HA},(S4 imm p s c)→(FV1 Tryz.prog imm hsF fv f0)→Ret Tryz.prog 98 [vS p s c,fv] imm hsF (rA hsF r):=by
 intro s f0 r hM imm p c fv hsF h h1;unfold wW at hM;refine yG (fn:=Tryz.f98) (c:=(bodyOf Tryz.f98)) Tryz.func98 rfl rfl ?_;rintro B - -;refine zF<|zB<|yA [] []<|zE<|zF<|zF<|zB<|yA [] [(7,vI (s.length:Int)),(8,vI 0)]<|zE<|yC<|vQ [(0,vS p s c),(1,fv),(7,vI (s.length:Int)),(8,vI 0)] ?_;obtain ⟨o0,ho0,hMl⟩:=zC hM;refine oX s f0 0 o0 ho0 iR h h1 (fun _ _ _ h=>h) (fun _ _ h=>h) ?_ ?_
 · intro imm01  heq le1;subst o0;refine yD<|zE<|zF<|zB<|yA [] [(4,vI (-1))]<|zE<|yJ ?_;obtain rfl:=zD hMl;exact yQ ⟨_,_,(.tmp rfl ResV.nil),(fun _ h=>h),⟨_,rfl,rfl,rfl⟩⟩
 intro r0 imm9 hs9 m9 heq9 le9 hrs9;subst heq9;refine yF<|zR ?_;obtain rfl:=zD hMl;exact yQ hrs9
def oN (hsF:List HA) (r:Bool):KT:=fun kk imm' hs' v=>
  ∃ v0,hsF=hs'∧v=tupV [v0]∧v0=.bool r
def xN (s:(List zQ)) (f0:(zQ→Option Bool)):Option (Bool):=do
 let y←wW s f0
 pure (decide (y ≥ 0))
theorem oY:∀ (s:(List zQ)) (f0:(zQ→Option Bool)) r,xN s f0=some r→∀ {imm:Imm}{p c}{fv:Value}{hsF:List HA},(S4 imm p s c)→(FV1 Tryz.prog imm hsF fv f0)→Ret Tryz.prog 65 [vS p s c,fv] imm hsF (oN hsF r):=by
 intro s f0 r hM imm p c fv hsF h h1;unfold xN at hM;refine yG (fn:=Tryz.f65) (c:=(bodyOf Tryz.f65)) Tryz.func65 rfl rfl ?_;rintro B - -;refine zF<|zB<|yA [] []<|zE<|zF<|zB<|yK 2 [] [(5,vS p s c),(6,fv)] ?_;obtain ⟨y,hy,hM⟩:=zC hM;refine zCK (hs1:=hsF) (rest:=[]) rfl rfl rfl rfl (by kernel_rfl) rfl (List.append_nil _).symm (nI s f0 _ hy h h1) ?_;rintro imm0 hs2 v2 k2 le - ⟨v0,rfl,rfl,rfl⟩ -;refine uB (hs':=hsF) (List.append_nil _) ?_;refine yA [] [(4,.bool (decide (y ≥ 0)))]<|zE<|yJ ?_;obtain rfl:=zD hM;exact yQ ⟨_,_,(.tmp rfl ResV.nil),(fun _ h=>h),⟨_,rfl,rfl,rfl⟩⟩
def zAH (r:Bool):KT:=fun kk imm' hs' v=>
  ∃ v0,hs'=[]∧v=tupV [v0]∧v0=.bool r
def sW (s:zA) (x:Int):Option (Bool):=do
 let t3←(do
   let y←sB s
   if (!y) then
    pure true
   else
    let y1←tM s
    pure (decide (y1 > x))
     : Option Bool)
 pure (id t3)
theorem zBH:∀ (s:zA) (x:Int) r,sW s x=some r→∀ {imm:Imm}{p c}{ad:Addr},(S4 imm p s.Coefs c)→(At imm ad [vI x])→Ret Tryz.prog 126 [vA (cAff s p c),.pointer (some ad)] imm [] (zAH  r):=by
 intro s x r hM imm p c ad h hat;unfold sW at hM;refine yG (fn:=Tryz.f126) (c:=(bodyOf Tryz.f126)) Tryz.func126 rfl rfl ?_;rintro B - -;have hle:=iS imm;refine zF<|zB<|tR (cAff s p c) ?_;intro b hb;refine yA [] []<|zE<|zF ?_;obtain ⟨o0,ho0,hMc⟩:=zC hM;refine yU (fun imm' hs' m'=>∃ (t3:Bool),o0=t3∧imm.le imm'∧hs'=[]∧m'=[(3,.bool t3)]) ?_ ?_
 · have hle:=iS imm;obtain ⟨y,hy,hM⟩:=zC ho0;cases hc:(!y) with
   | true =>
    have hM0:=zW hc hM;refine uA [.p (vA (cAff s p c)) [0],.q (.bool y),.q (.bool true),.q (.bool true),.p undef [],.p undef [],.p undef [],.p undef [],.p (.bool true) []] [[],[(0,false)],[(1,false)],[(2,false)],[(3,false)],[(3,false),(4,false)],[(3,false)],[(3,false),(5,false),(6,false)],[(3,false),(7,false)]] [hB b (cAff s p c)] [] [(8,false)] (zK [0] rfl (by decide)) ?_ ?_
    · refine Op<|Oq ?_<|Oq ?_<|Oq ?_<|Op<|Op<|Op<|Op<|Op<|On
      · intro imm1 hf le1;refine zG ?_;rintro _ _ ⟨rfl,rfl⟩;refine zN<|yH [(4,vA (cAff s p c))] ?_;have hle:=iS imm1;have h:=h.mono le1;refine yR (qK s _ hy h) ?_;rintro imm01 hs2 v2 k2 le - ⟨v0,rfl,rfl,rfl⟩ -;have hle:=hle.trans le;exact zZ (hx:=[]) rfl hle rfl (zM rfl) ⟨rfl,rfl⟩
      · intro imm1 hf le1;refine zG ?_;rintro _ _ ⟨rfl,rfl⟩;refine zN<|yH [(5,.bool y)] ?_;have hle:=iS imm1;refine qV 3 [(6,.bool (!y))] ?_;rw [hc];exact zZ (hx:=[]) rfl hle rfl (zM rfl) ⟨rfl,rfl⟩
      intro imm1 hf le1;refine zG ?_;rintro _ _ ⟨rfl,rfl⟩;refine zN<|yH [(6,.bool true)] ?_;have hle:=iS imm1;exact qV 4 [(7,.bool true)]<|zZ (hx:=[]) rfl hle rfl (zM rfl) ⟨rfl,rfl⟩
    intro imm02 le1;refine zG ?_;rintro _ _ ⟨rfl,rfl⟩;refine zN<|yH [(12,.bool true)] ?_;have hle:=hle.trans le1;exact yA [] [(3,.bool true)]<|wD (zK [] rfl (by decide))<|yT [(3,.bool true)]<|yB ⟨_,(zD hM0).symm,hle,rfl,rfl⟩
   | false =>
    have hM01:=zU hc hM;obtain ⟨y1,hy1,hM⟩:=zC hM01;refine uA [.p (vA (cAff s p c)) [0],.q (.bool y),.q (.bool false),.q (.bool false),.p (vA (cAff s p c)) [0],.q (vI y1),.q (vI x),.p (.bool (decide (y1 > x))) [],.p (.bool (decide (y1 > x))) []] [[],[(0,false)],[(1,false)],[(2,false)],[(3,false)],[(3,false),(4,false)],[(3,false)],[(3,false),(5,false),(6,false)],[(3,false),(7,false)]] [hB b (cAff s p c)] [] [(8,false)] (zK [0] rfl (by decide)) ?_ ?_
    · refine Op<|Oq ?_<|Oq ?_<|Oq ?_<|Op<|Oq ?_<|Oq ?_<|Op<|Op<|On
      · intro imm1 hf le1;refine zG ?_;rintro _ _ ⟨rfl,rfl⟩;refine zN<|yH [(4,vA (cAff s p c))] ?_;have hle:=iS imm1;have h:=h.mono le1;refine yR (qK s _ hy h) ?_;rintro imm01 hs2 v2 k2 le - ⟨v0,rfl,rfl,rfl⟩ -;have hle:=hle.trans le;exact zZ (hx:=[]) rfl hle rfl (zM rfl) ⟨rfl,rfl⟩
      · intro imm1 hf le1;refine zG ?_;rintro _ _ ⟨rfl,rfl⟩;refine zN<|yH [(5,.bool y)] ?_;have hle:=iS imm1;refine qV 3 [(6,.bool (!y))] ?_;rw [hc];exact zZ (hx:=[]) rfl hle rfl (zM rfl) ⟨rfl,rfl⟩
      · intro imm1 hf le1;refine zG ?_;rintro _ _ ⟨rfl,rfl⟩;refine zN<|yH [(6,.bool false)] ?_;have hle:=iS imm1;exact qV 4 [(7,.bool false)]<|zZ (hx:=[]) rfl hle rfl (zM rfl) ⟨rfl,rfl⟩
      · intro imm1 hf le1;refine zG ?_;rintro _ _ ⟨rfl,rfl⟩;refine zG ?_;rintro _ _ ⟨rfl,rfl⟩;refine zN<|yH [(7,.bool false),(8,vA (cAff s p c))] ?_;have hle:=iS imm1;have h:=h.mono le1;refine yR (nR s _ hy1 h) ?_;rintro imm03 hs2 v2 k2 le2 - ⟨v01,rfl,rfl,rfl⟩ -;have hle:=hle.trans le2;exact zZ (hx:=[]) rfl hle rfl (zM rfl) ⟨rfl,rfl⟩
      intro imm1 hf le1;refine zG ?_;rintro _ _ ⟨rfl,rfl⟩;refine zN<|yH [(1,.pointer (some ad)),(7,.bool false)] ?_;have hle:=iS imm1;have hat:=hat.mono le1;exact xS 0 hat [vI x] (vI x) rfl<|zZ (hx:=[]) rfl hle rfl (zM rfl) ⟨rfl,rfl⟩
    intro imm04 le3;refine zG ?_;rintro _ _ ⟨rfl,rfl⟩;refine zN<|yH [(12,.bool (decide (y1 > x)))] ?_;have hle:=hle.trans le3;exact yA [] [(3,.bool (decide (y1 > x)))]<|wD (zK [] rfl (by decide))<|yT [(3,.bool (decide (y1 > x)))]<|yB ⟨_,(zD hM).symm,hle,rfl,rfl⟩
 rintro imm0 hs2 m2 ⟨t3,heq,le4,rfl,rfl⟩;subst o0;refine zE<|yJ ?_;obtain rfl:=zD hMc;exact yQ ⟨_,_,(.tmp rfl ResV.nil),zX,⟨_,rfl,rfl,rfl⟩⟩
def zBI (r:Bool):KT:=fun kk imm' hs' v=>
  ∃ v0,hs'=[]∧v=tupV [v0]∧v0=.bool r
def pJ (a0:zL) (depth:Int):Option (Bool):=do
 let t4←(do
   let y←oL a0.Array
   if y then
    let y1←xV (a0.Subs.length:Int) 1 2
    if y1 then
     let y2←xE a0.Subs (fun x0=>sW x0 depth)
     pure (!y2)
    else
     pure false
   else
    pure false
     : Option Bool)
 pure (id t4)
theorem fM:∀ (a0:zL) (depth:Int) r,pJ a0 depth=some r→∀ {imm:Imm}{p c},(S4 imm p a0.Subs c)→Ret Tryz.prog 99 [vA (cAccess a0 p c),vI depth] imm [] (zBI  r):=by
 intro a0 depth r hM imm p c h;unfold pJ at hM;refine yG (fn:=Tryz.f99) (c:=(bodyOf Tryz.f99)) Tryz.func99 rfl rfl ?_;rintro B - -;have hle:=iS imm;refine zF<|zB<|tR (cAccess a0 p c) ?_;intro b hb;refine tR [vI depth] ?_;intro b1 hb1;refine yL 0 rfl ?_;intro imm0 le hl0;have hat:At imm0 ⟨b1,0,none⟩ [vI depth]:=At.of_blk hl0;have h:=h.mono le;have hle:=hle.trans le;refine yA [] []<|zE<|zF ?_;obtain ⟨o0,ho0,hMc⟩:=zC hM;refine yU (fun imm' hs' m'=>∃ (t4:Bool),o0=t4∧imm0.le imm'∧hs'=[]∧m'=[(4,.bool t4)]) ?_ ?_
 · have hle:=iS imm0;refine zB<|yK 2 [0] [(6,vT a0.Array.l)] ?_;obtain ⟨y,hy,hM⟩:=zC ho0;refine yR (qF a0.Array _ hy ) ?_;rintro imm02 hs2 v2 k2 le1 - ⟨v0,rfl,rfl,rfl⟩ -;have hat:=hat.mono le1;have h:=h.mono le1;have hle:=hle.trans le1;refine yK 4 [] [(8,.bool y)] ?_;cases hc:y with
   | true =>
    have hM0:=zW hc hM
    try rw [hc]
    refine yK 7 [0] [(11,vI (a0.Subs.length:Int))] ?_;obtain ⟨y1,hy1,hM⟩:=zC hM0;refine yR (wN (a0.Subs.length:Int) 1 2 _ hy1 ) ?_;rintro imm03 hs2 v2 k2 le2 - ⟨v01,rfl,rfl,rfl⟩ -;have hat:=hat.mono le2;have h:=h.mono le2;have hle:=hle.trans le2;refine yK 10 [] [(14,.bool y1)] ?_;cases hc1:y1 with
    | true =>
     have hM01:=zW hc1 hM
     try rw [hc1]
     refine yK 13 [0] [(16,vS p a0.Subs c),(17,.func (.func 126) ⟨[]⟩ ⟨[vP b1 0]⟩)] ?_;have hf0:FV1 Tryz.prog imm03 [] (.func (.func 126) ⟨[]⟩ ⟨[vP b1 0]⟩) (fun x0=>sW x0 depth):=by
       refine FV1.intro ?_;intro imm1 le1 x0 r u0 hF k0;obtain ⟨_,rfl,k0⟩:=k0;obtain ⟨v02,rfl,h3⟩:=yM k0;obtain ⟨p1,c1,rfl⟩:=h3.form;exact (zBH x0 depth r hF h3 (hat.mono le1)).mono (by rintro k i hs u ⟨v0,rfl,rfl,h⟩; exact ⟨rfl,h⟩)
     obtain ⟨y2,hy2,hM⟩:=zC hM01;refine yR (tU a0.Subs (fun x0=>sW x0 depth) _ hy2 h hf0) ?_;rintro imm04 hs2 v2 k2 le3 - ⟨v03,rfl,rfl,rfl⟩ -;have hle:=hle.trans le3;exact yA [] [(4,.bool (!y2))]<|wD (zK [] rfl (by decide))<|yT [(4,.bool (!y2))]<|yB ⟨_,(zD hM).symm,hle,rfl,rfl⟩
    | false =>
     have hM02:=zU hc1 hM
     try rw [hc1]
     exact yA [] [(4,.bool false)]<|wD (zK [] rfl (by decide))<|yT [(4,.bool false)]<|yB ⟨_,(zD hM02).symm,hle,rfl,rfl⟩
   | false =>
    have hM03:=zU hc hM
    try rw [hc]
    exact yA [] [(4,.bool false)]<|wD (zK [] rfl (by decide))<|yT [(4,.bool false)]<|yB ⟨_,(zD hM03).symm,hle,rfl,rfl⟩
 rintro imm01 hs2 m2 ⟨t4,heq,le4,rfl,rfl⟩;subst o0;refine zE<|yJ ?_;obtain rfl:=zD hMc;exact yQ ⟨_,_,(.tmp rfl ResV.nil),zX,⟨_,rfl,rfl,rfl⟩⟩
def zBJ (r:Bool):KT:=fun kk imm' hs' v=>
  ∃ v0,hs'=[]∧v=tupV [v0]∧v0=.bool r
def pK (a0:zA):Option (Bool):=do
 let t2←(do
   if ((a0.Coefs.length:Int) == 0) then
    pure (a0.Const == 0)
   else
    pure false
     : Option Bool)
 pure (id t2)
theorem fN:∀ (a0:zA) r,pK a0=some r→∀ {imm:Imm}{p c},(S4 imm p a0.Coefs c)→Ret Tryz.prog 129 [vA (cAff a0 p c)] imm [] (zBJ  r):=by
 intro a0 r hM imm p c h;unfold pK at hM;refine yG (fn:=Tryz.f129) (c:=(bodyOf Tryz.f129)) Tryz.func129 rfl rfl ?_;rintro B - -;have hle:=iS imm;refine zF<|zB<|tR (cAff a0 p c) ?_;intro b hb;refine yA [] []<|zE<|zF ?_;obtain ⟨o0,ho0,hMc⟩:=zC hM;refine yU (fun imm' hs' m'=>∃ (t2:Bool),o0=t2∧imm.le imm'∧hs'=[]∧m'=[(2,.bool t2)]) ?_ ?_
 · have hle:=iS imm;refine zB<|yK 5 [0] [(7,.bool ((a0.Coefs.length:Int) == 0))] ?_;cases hc:((a0.Coefs.length:Int) == 0) with
   | true =>
    have hM0:=zW hc ho0
    try rw [hc]
    exact yA [0] [(2,.bool (a0.Const == 0))]<|wD (zK [] rfl (by decide))<|yT [(2,.bool (a0.Const == 0))]<|yB ⟨_,(zD hM0).symm,hle,rfl,rfl⟩
   | false =>
    have hM01:=zU hc ho0
    try rw [hc]
    exact yA [] [(2,.bool false)]<|wD (zK [] rfl (by decide))<|yT [(2,.bool false)]<|yB ⟨_,(zD hM01).symm,hle,rfl,rfl⟩
 rintro imm0 hs2 m2 ⟨t2,heq,le,rfl,rfl⟩;subst o0;refine zE<|yJ ?_;obtain rfl:=zD hMc;exact yQ ⟨_,_,(.tmp rfl ResV.nil),zX,⟨_,rfl,rfl,rfl⟩⟩
def zBK (r:Bool):KT:=fun kk imm' hs' v=>
  ∃ v0,hs'=[]∧v=tupV [v0]∧v0=.bool r
def rB (a0:zL):Option (Bool):=do
 let t2←(do
   if (a0.Array.l == ([]:List UInt8)) then
    pure ((a0.Subs.length:Int) == 0)
   else
    pure false
     : Option Bool)
 pure (id t2)
theorem nT:∀ (a0:zL) r,rB a0=some r→∀ {imm:Imm}{p c},(S4 imm p a0.Subs c)→Ret Tryz.prog 130 [vA (cAccess a0 p c)] imm [] (zBK  r):=by
 intro a0 r hM imm p c h;unfold rB at hM;refine yG (fn:=Tryz.f130) (c:=(bodyOf Tryz.f130)) Tryz.func130 rfl rfl ?_;rintro B - -;have hle:=iS imm;refine zF<|zB<|tR (cAccess a0 p c) ?_;intro b hb;refine yA [] []<|zE<|zF ?_;obtain ⟨o0,ho0,hMc⟩:=zC hM;refine yU (fun imm' hs' m'=>∃ (t2:Bool),o0=t2∧imm.le imm'∧hs'=[]∧m'=[(2,.bool t2)]) ?_ ?_
 · have hle:=iS imm;refine zB<|yK 4 [0] [(6,.bool (a0.Array.l == ([]:List UInt8)))] ?_;cases hc:(a0.Array.l == ([]:List UInt8)) with
   | true =>
    have hM0:=zW hc ho0
    try rw [hc]
    exact yA [0] [(2,.bool ((a0.Subs.length:Int) == 0))]<|wD (zK [] rfl (by decide))<|yT [(2,.bool ((a0.Subs.length:Int) == 0))]<|yB ⟨_,(zD hM0).symm,hle,rfl,rfl⟩
   | false =>
    have hM01:=zU hc ho0
    try rw [hc]
    exact yA [] [(2,.bool false)]<|wD (zK [] rfl (by decide))<|yT [(2,.bool false)]<|yB ⟨_,(zD hM01).symm,hle,rfl,rfl⟩
 rintro imm0 hs2 m2 ⟨t2,heq,le,rfl,rfl⟩;subst o0;refine zE<|yJ ?_;obtain rfl:=zD hMc;exact yQ ⟨_,_,(.tmp rfl ResV.nil),zX,⟨_,rfl,rfl,rfl⟩⟩
def zDq (r:Bool):KT:=fun kk imm' hs' v=>
  ∃ v0,hs'=[]∧v=tupV [v0]∧v0=.bool r
def kM (kind:Int):Option (Bool):=do
 let y←xV kind 4 6
 pure (id y)
theorem zFC:∀ (kind:Int) r,kM kind=some r→∀ {imm:Imm} ,Ret Tryz.prog 131 [vI kind] imm [] (zDq  r):=by
 intro kind r hM imm;unfold kM at hM;refine yG (fn:=Tryz.f131) (c:=(bodyOf Tryz.f131)) Tryz.func131 rfl rfl ?_;rintro B - -;refine zF<|zB<|yA [] []<|zE<|zF<|zB<|yK 1 [] [(3,vI kind)] ?_;obtain ⟨y,hy,hM⟩:=zC hM;refine yR (wN kind 4 6 _ hy ) ?_;rintro imm0 hs2 v2 k2 le - ⟨v0,rfl,rfl,rfl⟩ -;refine yA [] [(2,.bool y)]<|zE<|yJ ?_;obtain rfl:=zD hM;exact yQ ⟨_,_,(.tmp rfl ResV.nil),zX,⟨_,rfl,rfl,rfl⟩⟩
def jR (b0:Nat) (r:Bool×Int):KT:=fun kk imm' hs' v=>
  ∃ v0 k0,hs'=[.blk b0 ⟨k0⟩]∧v=tupV [v0]∧v0=.bool r.1∧Rp.rep imm' k0 r.2
def vF (e0:zH) (depth:Int) (deep:Int) (count:Int):Option (Bool×Int):=do
 let t21←(do
   if (decide ((W (count + 1)) > 12)) then
    pure true
   else
    pure (decide (deep > 5))
     : Option Bool)
 if t21 then
  pure (false,(W (count + 1)))
 else
  let t51←(do
    if (e0.Kind != 1) then
     if (e0.Num != 0) then
      pure true
     else
      if (e0.Kind != 2) then
       let y←pK e0.Index
       if (!y) then
        pure true
       else
        if (e0.Kind != 3) then
         let y1←rB e0.Read
         pure (!y1)
        else
         pure false
      else
       if (e0.Kind != 3) then
        let y2←rB e0.Read
        pure (!y2)
       else
        pure false
    else
     if (e0.Kind != 2) then
      let y3←pK e0.Index
      if (!y3) then
       pure true
      else
       if (e0.Kind != 3) then
        let y4←rB e0.Read
        pure (!y4)
       else
        pure false
     else
      if (e0.Kind != 3) then
       let y5←rB e0.Read
       pure (!y5)
      else
       pure false
      : Option Bool)
  if t51 then
   pure (false,(W (count + 1)))
  else
   if (e0.Kind == 1) then
    let t8←(do
      let y6←xV e0.Num 0 99
      if y6 then
       pure ((e0.Kids.length:Int) == 0)
      else
       pure false
        : Option Bool)
    pure (t8,(W (count + 1)))
   else
    if (e0.Kind == 2) then
     let t81←(do
       let y7←sB e0.Index
       if y7 then
        let y8←tM e0.Index
        if (decide (y8 ≤ depth)) then
         pure ((e0.Kids.length:Int) == 0)
        else
         pure false
       else
        pure false
         : Option Bool)
     pure (t81,(W (count + 1)))
    else
     if (e0.Kind == 3) then
      let t82←(do
        let y9←pJ e0.Read depth
        if y9 then
         pure ((e0.Kids.length:Int) == 0)
        else
         pure false
          : Option Bool)
      pure (t82,(W (count + 1)))
     else
      let t99←(do
        let y10←kM e0.Kind
        if (!y10) then
         pure true
        else
         pure ((e0.Kids.length:Int) != 2)
          : Option Bool)
      if t99 then
       pure (false,(W (count + 1)))
      else
       let (t83,x)←(do
         let x1←idx e0.Kids 0
         let (y12,y13)←vF (same x1) (same depth) (W (deep + 1)) (W (count + 1))
         if y12 then
          let x2←idx e0.Kids 1
          let (y15,y16)←vF (same x2) (same depth) (W (deep + 1)) (same y13)
          pure (y15,y16)
         else
          pure (false,y13)
           : Option (Bool×Int))
       pure (t83,x)
 partial_fixpoint
theorem zCi:∀ (e0:zH) (depth:Int) (deep:Int) (count:Int) r,vF e0 depth deep count=some r→∀ {imm:Imm}{p c p1 c1 p2 c2}{r0:Nat},(S4 imm p e0.Index.Coefs c)→(S4 imm p1 e0.Read.Subs c1)→(S4 imm p2 e0.Kids c2)→Ret Tryz.prog 100 [vA (cExpr e0 p c p1 c1 p2 c2),vI depth,vI deep,vP r0 0] imm [hB r0 [vI count]] (jR r0 r):=by
 refine vF.partial_correctness (fun e0 depth deep count r=>∀ {imm:Imm}{p c p1 c1 p2 c2}{r0:Nat},(S4 imm p e0.Index.Coefs c)→(S4 imm p1 e0.Read.Subs c1)→(S4 imm p2 e0.Kids c2)→Ret Tryz.prog 100 [vA (cExpr e0 p c p1 c1 p2 c2),vI depth,vI deep,vP r0 0] imm [hB r0 [vI count]] (jR r0 r)) ?_;intro F_impl_exprScan ih_impl_exprScan e0 depth deep count r hM imm p c p1 c1 p2 c2 r0 h h1 h2;refine yG (fn:=Tryz.f100) (c:=(bodyOf Tryz.f100)) Tryz.func100 rfl rfl ?_;rintro B - -;have hle:=iS imm;refine zF<|zB<|tR (cExpr e0 p c p1 c1 p2 c2) ?_;intro b hb;refine yA [] []<|zE<|zF<|zB<|yK 5 [1] [(12,vI (W (count + 1))),(13,vP r0 0)]<|xJ 1 [vI (W (count + 1))] [hB b (cExpr e0 p c p1 c1 p2 c2),hB r0 [vI (W (count + 1))]] rfl rfl rfl rfl<|yN rfl<|zE<|zF<|zF ?_;obtain ⟨o0,ho0,hMc⟩:=zC hM;refine yU (fun imm' hs' m'=>∃ (t21:Bool),o0=t21∧imm.le imm'∧hs'=[hB b (cExpr e0 p c p1 c1 p2 c2),hB r0 [vI (W (count + 1))]]∧m'=[(1,vI depth),(2,vI deep),(3,vP r0 0),(4,vP b 0),(21,.bool t21)]) ?_ ?_
 · have hle:=iS imm;refine zB<|yK 5 [1] [(18,.bool (decide ((W (count + 1)) > 12)))] ?_;cases hc:(decide ((W (count + 1)) > 12)) with
   | true =>
    have hM0:=zW hc ho0
    try rw [hc]
    exact yA [] [(21,.bool true)]<|yT [(1,vI depth),(2,vI deep),(3,vP r0 0),(4,vP b 0),(21,.bool true)]<|yB ⟨_,(zD hM0).symm,hle,rfl,rfl⟩
   | false =>
    have hM01:=zU hc ho0
    try rw [hc]
    exact yA [] [(21,.bool (decide (deep > 5)))]<|yT [(1,vI depth),(2,vI deep),(3,vP r0 0),(4,vP b 0),(21,.bool (decide (deep > 5)))]<|yB ⟨_,(zD hM01).symm,hle,rfl,rfl⟩
 rintro imm0 hs2 m2 ⟨t21,heq,le,rfl,rfl⟩;subst o0;have h:=h.mono le;have h1:=h1.mono le;have h2:=h2.mono le;have hle:=hle.trans le;refine zE<|yO hMc ?_ ?_
 · intro hc1 hM;refine zF<|zB<|yA [] [(8,.bool false)]<|zE<|yJ<|zR ?_;obtain rfl:=zD hM;exact yQ ⟨_,_,(.tmp rfl ResV.nil),(zK [1] rfl (by decide)),⟨_,_,rfl,rfl,rfl,rfl⟩⟩
 intro hc1 hM;refine yE<|zE<|zF<|zF ?_;obtain ⟨o01,ho01,hMc1⟩:=zC hM;refine yU (fun imm' hs' m'=>∃ (t51:Bool),o01=t51∧imm0.le imm'∧hs'=[hB b (cExpr e0 p c p1 c1 p2 c2),hB r0 [vI (W (count + 1))]]∧m'=[(1,vI depth),(2,vI deep),(3,vP r0 0),(4,vP b 0),(51,.bool t51)]) ?_ ?_
 · have hle:=iS imm0;refine zB<|yK 4 [0] [(25,.bool (e0.Kind != 1))] ?_;cases hc2:(e0.Kind != 1) with
   | true =>
    have hM02:=zW hc2 ho01
    try rw [hc2]
    refine yK 9 [0] [(30,.bool (e0.Num != 0))] ?_;cases hc3:(e0.Num != 0) with
    | true =>
     have hM03:=zW hc3 hM02
     try rw [hc3]
     exact yA [] [(51,.bool true)]<|yT [(1,vI depth),(2,vI deep),(3,vP r0 0),(4,vP b 0),(51,.bool true)]<|yB ⟨_,(zD hM03).symm,hle,rfl,rfl⟩
    | false =>
     have hM04:=zU hc3 hM02
     try rw [hc3]
     refine yK 13 [0] [(34,.bool (e0.Kind != 2))] ?_;cases hc4:(e0.Kind != 2) with
     | true =>
      have hM05:=zW hc4 hM04
      try rw [hc4]
      refine yK 15 [0] [(36,vA (cAff e0.Index p c))] ?_;obtain ⟨y,hy,hM⟩:=zC hM05;refine yR (fN e0.Index _ hy h) ?_;rintro imm02 hs2 v2 k2 le1 - ⟨v0,rfl,rfl,rfl⟩ -;have h1:=h1.mono le1;have hle:=hle.trans le1;refine yK 20 [] [(41,.bool (!y))] ?_;cases hc5:(!y) with
      | true =>
       have hM06:=zW hc5 hM
       try rw [hc5]
       exact yA [] [(51,.bool true)]<|yT [(1,vI depth),(2,vI deep),(3,vP r0 0),(4,vP b 0),(51,.bool true)]<|yB ⟨_,(zD hM06).symm,hle,rfl,rfl⟩
      | false =>
       have hM07:=zU hc5 hM
       try rw [hc5]
       refine yK 24 [0] [(45,.bool (e0.Kind != 3))] ?_;cases hc6:(e0.Kind != 3) with
       | true =>
        have hM08:=zW hc6 hM07
        try rw [hc6]
        refine yK 26 [0] [(47,vA (cAccess e0.Read p1 c1))] ?_;obtain ⟨y1,hy1,hM⟩:=zC hM08;refine yR (nT e0.Read _ hy1 h1) ?_;rintro imm03 hs2 v2 k2 le2 - ⟨v01,rfl,rfl,rfl⟩ -;have hle:=hle.trans le2;exact yA [] [(51,.bool (!y1))]<|yT [(1,vI depth),(2,vI deep),(3,vP r0 0),(4,vP b 0),(51,.bool (!y1))]<|yB ⟨_,(zD hM).symm,hle,rfl,rfl⟩
       | false =>
        have hM09:=zU hc6 hM07
        try rw [hc6]
        exact yA [] [(51,.bool false)]<|yT [(1,vI depth),(2,vI deep),(3,vP r0 0),(4,vP b 0),(51,.bool false)]<|yB ⟨_,(zD hM09).symm,hle,rfl,rfl⟩
     | false =>
      have hM010:=zU hc4 hM04
      try rw [hc4]
      refine yK 24 [0] [(41,.bool false),(45,.bool (e0.Kind != 3))] ?_;cases hc7:(e0.Kind != 3) with
      | true =>
       have hM011:=zW hc7 hM010
       try rw [hc7]
       refine yK 26 [0] [(47,vA (cAccess e0.Read p1 c1))] ?_;obtain ⟨y2,hy2,hM⟩:=zC hM011;refine yR (nT e0.Read _ hy2 h1) ?_;rintro imm04 hs2 v2 k2 le3 - ⟨v02,rfl,rfl,rfl⟩ -;have hle:=hle.trans le3;exact yA [] [(51,.bool (!y2))]<|yT [(1,vI depth),(2,vI deep),(3,vP r0 0),(4,vP b 0),(51,.bool (!y2))]<|yB ⟨_,(zD hM).symm,hle,rfl,rfl⟩
      | false =>
       have hM012:=zU hc7 hM010
       try rw [hc7]
       exact yA [] [(51,.bool false)]<|yT [(1,vI depth),(2,vI deep),(3,vP r0 0),(4,vP b 0),(51,.bool false)]<|yB ⟨_,(zD hM012).symm,hle,rfl,rfl⟩
   | false =>
    have hM013:=zU hc2 ho01
    try rw [hc2]
    refine yK 13 [0] [(30,.bool false),(34,.bool (e0.Kind != 2))] ?_;cases hc8:(e0.Kind != 2) with
    | true =>
     have hM014:=zW hc8 hM013
     try rw [hc8]
     refine yK 15 [0] [(36,vA (cAff e0.Index p c))] ?_;obtain ⟨y3,hy3,hM⟩:=zC hM014;refine yR (fN e0.Index _ hy3 h) ?_;rintro imm05 hs2 v2 k2 le4 - ⟨v03,rfl,rfl,rfl⟩ -;have h1:=h1.mono le4;have hle:=hle.trans le4;refine yK 20 [] [(41,.bool (!y3))] ?_;cases hc9:(!y3) with
     | true =>
      have hM015:=zW hc9 hM
      try rw [hc9]
      exact yA [] [(51,.bool true)]<|yT [(1,vI depth),(2,vI deep),(3,vP r0 0),(4,vP b 0),(51,.bool true)]<|yB ⟨_,(zD hM015).symm,hle,rfl,rfl⟩
     | false =>
      have hM016:=zU hc9 hM
      try rw [hc9]
      refine yK 24 [0] [(45,.bool (e0.Kind != 3))] ?_;cases hc10:(e0.Kind != 3) with
      | true =>
       have hM017:=zW hc10 hM016
       try rw [hc10]
       refine yK 26 [0] [(47,vA (cAccess e0.Read p1 c1))] ?_;obtain ⟨y4,hy4,hM⟩:=zC hM017;refine yR (nT e0.Read _ hy4 h1) ?_;rintro imm06 hs2 v2 k2 le5 - ⟨v04,rfl,rfl,rfl⟩ -;have hle:=hle.trans le5;exact yA [] [(51,.bool (!y4))]<|yT [(1,vI depth),(2,vI deep),(3,vP r0 0),(4,vP b 0),(51,.bool (!y4))]<|yB ⟨_,(zD hM).symm,hle,rfl,rfl⟩
      | false =>
       have hM018:=zU hc10 hM016
       try rw [hc10]
       exact yA [] [(51,.bool false)]<|yT [(1,vI depth),(2,vI deep),(3,vP r0 0),(4,vP b 0),(51,.bool false)]<|yB ⟨_,(zD hM018).symm,hle,rfl,rfl⟩
    | false =>
     have hM019:=zU hc8 hM013
     try rw [hc8]
     refine yK 24 [0] [(41,.bool false),(45,.bool (e0.Kind != 3))] ?_;cases hc11:(e0.Kind != 3) with
     | true =>
      have hM020:=zW hc11 hM019
      try rw [hc11]
      refine yK 26 [0] [(47,vA (cAccess e0.Read p1 c1))] ?_;obtain ⟨y5,hy5,hM⟩:=zC hM020;refine yR (nT e0.Read _ hy5 h1) ?_;rintro imm07 hs2 v2 k2 le6 - ⟨v05,rfl,rfl,rfl⟩ -;have hle:=hle.trans le6;exact yA [] [(51,.bool (!y5))]<|yT [(1,vI depth),(2,vI deep),(3,vP r0 0),(4,vP b 0),(51,.bool (!y5))]<|yB ⟨_,(zD hM).symm,hle,rfl,rfl⟩
     | false =>
      have hM021:=zU hc11 hM019
      try rw [hc11]
      exact yA [] [(51,.bool false)]<|yT [(1,vI depth),(2,vI deep),(3,vP r0 0),(4,vP b 0),(51,.bool false)]<|yB ⟨_,(zD hM021).symm,hle,rfl,rfl⟩
 rintro imm01 hs2 m2 ⟨t51,heq1,le7,rfl,rfl⟩;subst o01;have h:=h.mono le7;have h1:=h1.mono le7;have h2:=h2.mono le7;have hle:=hle.trans le7;refine zE<|yO hMc1 ?_ ?_
 · intro hc12 hM;refine zF<|zB<|yA [] [(8,.bool false)]<|zE<|yJ<|zR ?_;obtain rfl:=zD hM;exact yQ ⟨_,_,(.tmp rfl ResV.nil),(zK [1] rfl (by decide)),⟨_,_,rfl,rfl,rfl,rfl⟩⟩
 intro hc12 hM;refine yE<|zE<|zF<|yC<|zF<|zB<|yA [0] [(52,.bool (e0.Kind == 1))]<|zE<|yO hM ?_ ?_
 · intro hc13 hM;refine zF ?_;obtain ⟨o02,ho02,hMc2⟩:=zC hM;refine yU (fun imm' hs' m'=>∃ (t8:Bool),o02=t8∧imm01.le imm'∧hs'=[hB r0 [vI (W (count + 1))]]∧m'=[(8,.bool t8)]) ?_ ?_
   · have hle:=iS imm01;refine zB<|yK 2 [0] [(57,vI e0.Num)] ?_;obtain ⟨y6,hy6,hM⟩:=zC ho02;refine yR (wN e0.Num 0 99 _ hy6 ) ?_;rintro imm09 hs2 v2 k2 le8 - ⟨v06,rfl,rfl,rfl⟩ -;have hle:=hle.trans le8;refine yK 4 [] [(59,.bool y6)] ?_;cases hc14:y6 with
     | true =>
      have hM022:=zW hc14 hM
      try rw [hc14]
      exact yA [0] [(8,.bool ((e0.Kids.length:Int) == 0))]<|wD (zK [1] rfl (by decide))<|yT [(8,.bool ((e0.Kids.length:Int) == 0))]<|yB ⟨_,(zD hM022).symm,hle,rfl,rfl⟩
     | false =>
      have hM023:=zU hc14 hM
      try rw [hc14]
      exact yA [] [(8,.bool false)]<|wD (zK [1] rfl (by decide))<|yT [(8,.bool false)]<|yB ⟨_,(zD hM023).symm,hle,rfl,rfl⟩
   rintro imm08 hs2 m2 ⟨t8,heq2,le9,rfl,rfl⟩;subst o02;refine zE<|yJ<|yF<|zR ?_;obtain rfl:=zD hMc2;exact yQ ⟨_,_,(.tmp rfl ResV.nil),(zK [0] rfl (by decide)),⟨_,_,rfl,rfl,rfl,rfl⟩⟩
 intro hc13 hM;refine zF<|zB<|yA [0] [(65,.bool (e0.Kind == 2))]<|zE<|yO hM ?_ ?_
 · intro hc15 hM;refine zF ?_;obtain ⟨o03,ho03,hMc3⟩:=zC hM;refine yU (fun imm' hs' m'=>∃ (t81:Bool),o03=t81∧imm01.le imm'∧hs'=[hB r0 [vI (W (count + 1))]]∧m'=[(8,.bool t81)]) ?_ ?_
   · have hle:=iS imm01;refine zB<|yK 2 [0] [(70,vA (cAff e0.Index p c))] ?_;obtain ⟨y7,hy7,hM⟩:=zC ho03;refine yR (qK e0.Index _ hy7 h) ?_;rintro imm011 hs2 v2 k2 le10 - ⟨v07,rfl,rfl,rfl⟩ -;have h:=h.mono le10;have hle:=hle.trans le10;refine yK 4 [] [(72,.bool y7)] ?_;cases hc16:y7 with
     | true =>
      have hM024:=zW hc16 hM
      try rw [hc16]
      refine yK 6 [0] [(74,vA (cAff e0.Index p c))] ?_;obtain ⟨y8,hy8,hM⟩:=zC hM024;refine yR (nR e0.Index _ hy8 h) ?_;rintro imm012 hs2 v2 k2 le11 - ⟨v08,rfl,rfl,rfl⟩ -;have hle:=hle.trans le11;refine yK 11 [] [(79,.bool (decide (y8 ≤ depth)))] ?_;cases hc17:(decide (y8 ≤ depth)) with
      | true =>
       have hM025:=zW hc17 hM
       try rw [hc17]
       exact yA [0] [(8,.bool ((e0.Kids.length:Int) == 0))]<|wD (zK [1] rfl (by decide))<|yT [(8,.bool ((e0.Kids.length:Int) == 0))]<|yB ⟨_,(zD hM025).symm,hle,rfl,rfl⟩
      | false =>
       have hM026:=zU hc17 hM
       try rw [hc17]
       exact yA [] [(8,.bool false)]<|wD (zK [1] rfl (by decide))<|yT [(8,.bool false)]<|yB ⟨_,(zD hM026).symm,hle,rfl,rfl⟩
     | false =>
      have hM027:=zU hc16 hM
      try rw [hc16]
      exact yA [] [(8,.bool false)]<|wD (zK [1] rfl (by decide))<|yT [(8,.bool false)]<|yB ⟨_,(zD hM027).symm,hle,rfl,rfl⟩
   rintro imm010 hs2 m2 ⟨t81,heq3,le12,rfl,rfl⟩;subst o03;refine zE<|yJ<|yF<|zR ?_;obtain rfl:=zD hMc3;exact yQ ⟨_,_,(.tmp rfl ResV.nil),(zK [0] rfl (by decide)),⟨_,_,rfl,rfl,rfl,rfl⟩⟩
 intro hc15 hM;refine zF<|zB<|yA [0] [(85,.bool (e0.Kind == 3))]<|zE<|yO hM ?_ ?_
 · intro hc18 hM;refine zF ?_;obtain ⟨o04,ho04,hMc4⟩:=zC hM;refine yU (fun imm' hs' m'=>∃ (t82:Bool),o04=t82∧imm01.le imm'∧hs'=[hB r0 [vI (W (count + 1))]]∧m'=[(8,.bool t82)]) ?_ ?_
   · have hle:=iS imm01;refine zB<|yK 3 [0] [(90,vA (cAccess e0.Read p1 c1)),(91,vI depth)] ?_;obtain ⟨y9,hy9,hM⟩:=zC ho04;refine yR (fM e0.Read depth _ hy9 h1) ?_;rintro imm014 hs2 v2 k2 le13 - ⟨v09,rfl,rfl,rfl⟩ -;have hle:=hle.trans le13;refine yK 5 [] [(93,.bool y9)] ?_;cases hc19:y9 with
     | true =>
      have hM028:=zW hc19 hM
      try rw [hc19]
      exact yA [0] [(8,.bool ((e0.Kids.length:Int) == 0))]<|wD (zK [1] rfl (by decide))<|yT [(8,.bool ((e0.Kids.length:Int) == 0))]<|yB ⟨_,(zD hM028).symm,hle,rfl,rfl⟩
     | false =>
      have hM029:=zU hc19 hM
      try rw [hc19]
      exact yA [] [(8,.bool false)]<|wD (zK [1] rfl (by decide))<|yT [(8,.bool false)]<|yB ⟨_,(zD hM029).symm,hle,rfl,rfl⟩
   rintro imm013 hs2 m2 ⟨t82,heq4,le14,rfl,rfl⟩;subst o04;refine zE<|yJ<|yF<|zR ?_;obtain rfl:=zD hMc4;exact yQ ⟨_,_,(.tmp rfl ResV.nil),(zK [0] rfl (by decide)),⟨_,_,rfl,rfl,rfl,rfl⟩⟩
 intro hc18 hM;refine zF ?_;obtain ⟨o05,ho05,hMc5⟩:=zC hM;refine yU (fun imm' hs' m'=>∃ (t99:Bool),o05=t99∧imm01.le imm'∧hs'=[hB b (cExpr e0 p c p1 c1 p2 c2),hB r0 [vI (W (count + 1))]]∧m'=[(1,vI depth),(2,vI deep),(3,vP r0 0),(4,vP b 0),(99,.bool t99)]) ?_ ?_
 · have hle:=iS imm01;refine zB<|yK 2 [0] [(101,vI e0.Kind)] ?_;obtain ⟨y10,hy10,hM⟩:=zC ho05;refine yR (zFC e0.Kind _ hy10 ) ?_;rintro imm016 hs2 v2 k2 le15 - ⟨v010,rfl,rfl,rfl⟩ -;have hle:=hle.trans le15;refine yK 5 [] [(104,.bool (!y10))] ?_;cases hc20:(!y10) with
   | true =>
    have hM030:=zW hc20 hM
    try rw [hc20]
    exact yA [] [(99,.bool true)]<|yT [(1,vI depth),(2,vI deep),(3,vP r0 0),(4,vP b 0),(99,.bool true)]<|yB ⟨_,(zD hM030).symm,hle,rfl,rfl⟩
   | false =>
    have hM031:=zU hc20 hM
    try rw [hc20]
    exact yA [0] [(99,.bool ((e0.Kids.length:Int) != 2))]<|yT [(1,vI depth),(2,vI deep),(3,vP r0 0),(4,vP b 0),(99,.bool ((e0.Kids.length:Int) != 2))]<|yB ⟨_,(zD hM031).symm,hle,rfl,rfl⟩
 rintro imm015 hs2 m2 ⟨t99,heq5,le16,rfl,rfl⟩;subst o05;have h2:=h2.mono le16;have hle:=hle.trans le16;refine zE<|yO hMc5 ?_ ?_
 · intro hc21 hM;refine zF<|zB<|yA [] [(8,.bool false)]<|zE<|yJ<|yF<|zR ?_;obtain rfl:=zD hM;exact yQ ⟨_,_,(.tmp rfl ResV.nil),(zK [1] rfl (by decide)),⟨_,_,rfl,rfl,rfl,rfl⟩⟩
 intro hc21 hM;refine yE<|zY<|zE<|zF ?_;obtain ⟨o06,ho06,hMc6⟩:=zC hM;refine yU (fun imm' hs' m'=>∃ (t83:Bool) (x:Int),o06=(t83,x)∧imm015.le imm'∧hs'=[hB r0 [vI x]]∧m'=[(8,.bool t83)]) ?_ ?_
 · have hle:=iS imm015;refine zB<|yK 2 [0] [(111,vS p2 e0.Kids c2)] ?_;obtain ⟨x1,hy11,hM⟩:=zC ho06;refine wJ rfl rfl h2 hy11 ?_;intro ad ccs hat hrep;obtain ⟨v011,v012,v013,rfl,h14,h15,h16⟩:=wK hrep;obtain ⟨p3,c3,rfl⟩:=h14.form;obtain ⟨p4,c4,rfl⟩:=h15.form;obtain ⟨p5,c5,rfl⟩:=h16.form;refine xS 0 hat (cExpr x1 p3 c3 p4 c4 p5 c5) (vA (cExpr x1 p3 c3 p4 c4 p5 c5)) rfl<|yK 8 [] [(114,vI depth),(116,vI (W (deep + 1))),(117,vP r0 0)]<|rX (zK [1,0] (hs':=[hB r0 [vI (W (count + 1))],hB b (cExpr e0 p c p1 c1 p2 c2)]) rfl (by decide)) ?_;obtain ⟨⟨y12,y13⟩,hy12,hM⟩:=zC hM;refine sD [hB r0 [vI (W (count + 1))]] [hB b (cExpr e0 p c p1 c1 p2 c2)] (ih_impl_exprScan x1 depth (W (deep + 1)) (W (count + 1)) _ hy12 h14 h15 h16) ?_;rintro imm018 hs2 v2 k2 le17 - ⟨v014,kk,rfl,rfl,rfl,h18⟩ -;have h2:=h2.mono le17;have hle:=hle.trans le17;obtain rfl:=h18;refine yK 10 [] [(119,.bool y12)] ?_;cases hc22:y12 with
   | true =>
    have hM032:=zW hc22 hM
    try rw [hc22]
    refine yK 12 [1] [(121,vS p2 e0.Kids c2)] ?_;obtain ⟨x2,hy13,hM⟩:=zC hM032;refine wJ rfl rfl h2 hy13 ?_;intro ad1 ccs1 hat1 hrep1;obtain ⟨v015,v016,v017,rfl,h19,h20,h21⟩:=wK hrep1;obtain ⟨p6,c6,rfl⟩:=h19.form;obtain ⟨p7,c7,rfl⟩:=h20.form;obtain ⟨p8,c8,rfl⟩:=h21.form;refine xS 0 hat1 (cExpr x2 p6 c6 p7 c7 p8 c8) (vA (cExpr x2 p6 c6 p7 c7 p8 c8)) rfl<|yK 18 [] [(124,vI depth),(126,vI (W (deep + 1))),(127,vP r0 0)] ?_;obtain ⟨⟨y15,y16⟩,hy14,hM⟩:=zC hM;refine sD [hB r0 [vI y13]] [hB b (cExpr e0 p c p1 c1 p2 c2)] (ih_impl_exprScan x2 depth (W (deep + 1)) y13 _ hy14 h19 h20 h21) ?_;rintro imm019 hs2 v2 k2 le18 - ⟨v018,kk1,rfl,rfl,rfl,h23⟩ -;have hle:=hle.trans le18;obtain rfl:=h23;exact yA [] [(8,.bool y15)]<|wD (zK [0] rfl (by decide))<|yT [(8,.bool y15)]<|yB ⟨_,_,(zD hM).symm,hle,rfl,rfl⟩
   | false =>
    have hM033:=zU hc22 hM
    try rw [hc22]
    exact yA [] [(8,.bool false)]<|wD (zK [0] rfl (by decide))<|yT [(8,.bool false)]<|yB ⟨_,_,(zD hM033).symm,hle,rfl,rfl⟩
 rintro imm017 hs2 m2 ⟨t83,x,heq6,le19,rfl,rfl⟩;subst o06;refine zE<|yJ ?_;obtain rfl:=zD hMc6;exact yQ ⟨_,_,(.tmp rfl ResV.nil),(zK [0] rfl (by decide)),⟨_,_,rfl,rfl,rfl,rfl⟩⟩
def zA8 (r:Bool):KT:=fun kk imm' hs' v=>
  ∃ v0,hs'=[]∧v=tupV [v0]∧v0=.bool r
def oO (s:zQ) (depth:Int):Option (Bool):=do
 let t4←(do
   let y←xV depth 0 4
   if y then
    let y1←pJ s.Write depth
    if y1 then
     let (y3,y4)←vF s.Value depth 1 0
     pure (id y3)
    else
     pure false
   else
    pure false
     : Option Bool)
 pure (id t4)
theorem zBz:∀ (s:zQ) (depth:Int) r,oO s depth=some r→∀ {imm:Imm}{p c p1 c1 p2 c2 p3 c3},(S4 imm p s.Write.Subs c)→(S4 imm p1 s.Value.Index.Coefs c1)→(S4 imm p2 s.Value.Read.Subs c2)→(S4 imm p3 s.Value.Kids c3)→Ret Tryz.prog 67 [vA (cStmt s p c p1 c1 p2 c2 p3 c3),vI depth] imm [] (zA8  r):=by
 intro s depth r hM imm p c p1 c1 p2 c2 p3 c3 h h1 h2 h3;unfold oO at hM;refine yG (fn:=Tryz.f67) (c:=(bodyOf Tryz.f67)) Tryz.func67 rfl rfl ?_;rintro B - -;have hle:=iS imm;refine zF<|zB<|tR (cStmt s p c p1 c1 p2 c2 p3 c3) ?_;intro b hb;refine yA [] []<|zE<|zF<|zB<|uD [vI 0] ?_;intro b1 hb1;refine xJ 0 [vI 0] [hB b1 [vI 0],hB b (cStmt s p c p1 c1 p2 c2 p3 c3)] rfl rfl rfl rfl<|yN rfl<|zE<|zF ?_;obtain ⟨o0,ho0,hMc⟩:=zC hM;refine yU (fun imm' hs' m'=>∃ (t4:Bool),o0=t4∧imm.le imm'∧hs'=[]∧m'=[(4,.bool t4)]) ?_ ?_
 · have hle:=iS imm;refine zB<|yK 1 [] [(6,vI depth)] ?_;obtain ⟨y,hy,hM⟩:=zC ho0;refine yR (wN depth 0 4 _ hy ) ?_;rintro imm01 hs2 v2 k2 le - ⟨v0,rfl,rfl,rfl⟩ -;have h:=h.mono le;have h1:=h1.mono le;have h2:=h2.mono le;have h3:=h3.mono le;have hle:=hle.trans le;refine yK 3 [] [(8,.bool y)] ?_;cases hc:y with
   | true =>
    have hM0:=zW hc hM
    try rw [hc]
    refine yK 6 [1] [(10,vA (cAccess s.Write p c)),(11,vI depth)] ?_;obtain ⟨y1,hy1,hM⟩:=zC hM0;refine yR (fM s.Write depth _ hy1 h) ?_;rintro imm02 hs2 v2 k2 le1 - ⟨v01,rfl,rfl,rfl⟩ -;have h1:=h1.mono le1;have h2:=h2.mono le1;have h3:=h3.mono le1;have hle:=hle.trans le1;refine yK 9 [] [(14,.bool y1)] ?_;cases hc1:y1 with
    | true =>
     have hM01:=zW hc1 hM
     try rw [hc1]
     refine yK 12 [1] [(16,vA (cExpr s.Value p1 c1 p2 c2 p3 c3)),(17,vI depth)] ?_;obtain ⟨⟨y3,y4⟩,hy2,hM⟩:=zC hM01;refine sD [hB b1 [vI 0]] [hB b (cStmt s p c p1 c1 p2 c2 p3 c3)] (zCi s.Value depth 1 0 _ hy2 h1 h2 h3) ?_;rintro imm03 hs2 v2 k2 le2 - ⟨v02,kk,rfl,rfl,rfl,h7⟩ -;have hle:=hle.trans le2;obtain rfl:=h7;exact yA [] [(4,.bool y3)]<|wD (zK [] rfl (by decide))<|yT [(4,.bool y3)]<|yB ⟨_,(zD hM).symm,hle,rfl,rfl⟩
    | false =>
     have hM02:=zU hc1 hM
     try rw [hc1]
     exact yA [] [(4,.bool false)]<|wD (zK [] rfl (by decide))<|yT [(4,.bool false)]<|yB ⟨_,(zD hM02).symm,hle,rfl,rfl⟩
   | false =>
    have hM03:=zU hc hM
    try rw [hc]
    exact yA [] [(4,.bool false)]<|wD (zK [] rfl (by decide))<|yT [(4,.bool false)]<|yB ⟨_,(zD hM03).symm,hle,rfl,rfl⟩
 rintro imm0 hs2 m2 ⟨t4,heq,le3,rfl,rfl⟩;subst o0;refine zE<|yJ ?_;obtain rfl:=zD hMc;exact yQ ⟨_,_,(.tmp rfl ResV.nil),zX,⟨_,rfl,rfl,rfl⟩⟩
def kN (r:Bool):KT:=fun kk imm' hs' v=>
  ∃ v0,hs'=[]∧v=tupV [v0]∧v0=.bool r
def wO (s:zQ) (x:zP):Option (Bool):=do
 let y←oO s (x.Nest.length:Int)
 pure (!y)
theorem jB:∀ (s:zQ) (x:zP) r,wO s x=some r→∀ {imm:Imm}{p c p1 c1 p2 c2 p3 c3}{ad:Addr}{p4 c4 p5 c5},(S4 imm p s.Write.Subs c)→(S4 imm p1 s.Value.Index.Coefs c1)→(S4 imm p2 s.Value.Read.Subs c2)→(S4 imm p3 s.Value.Kids c3)→(S4 imm p4 x.Nest c4)→(S4 imm p5 x.Body c5)→(At imm ad (cPart x p4 c4 p5 c5))→Ret Tryz.prog 66 [vA (cStmt s p c p1 c1 p2 c2 p3 c3),.pointer (some ad)] imm [] (kN  r):=by
 intro s x r hM imm p c p1 c1 p2 c2 p3 c3 ad p4 c4 p5 c5 h h1 h2 h3 h4 h5 hat;unfold wO at hM;refine yG (fn:=Tryz.f66) (c:=(bodyOf Tryz.f66)) Tryz.func66 rfl rfl ?_;rintro B - -;refine zF<|zB<|tR (cStmt s p c p1 c1 p2 c2 p3 c3) ?_;intro b hb;refine yA [] []<|zE<|zF<|zB<|yK 2 [0] [(4,vA (cStmt s p c p1 c1 p2 c2 p3 c3)),(5,.pointer (some ad))]<|xS 0 hat [vS p4 x.Nest c4] (vS p4 x.Nest c4) rfl<|yK 4 [] [(7,vI (x.Nest.length:Int))] ?_;obtain ⟨y,hy,hM⟩:=zC hM;refine yR (zBz s (x.Nest.length:Int) _ hy h h1 h2 h3) ?_;rintro imm0 hs2 v2 k2 le - ⟨v0,rfl,rfl,rfl⟩ -;refine yA [] [(3,.bool (!y))]<|zE<|yJ ?_;obtain rfl:=zD hM;exact yQ ⟨_,_,(.tmp rfl ResV.nil),zX,⟨_,rfl,rfl,rfl⟩⟩
def zA9 (r:Bool):KT:=fun kk imm' hs' v=>
  ∃ v0,hs'=[]∧v=tupV [v0]∧v0=.bool r
def rR (n0:Int):Option (Bool):=do
 let y←xV n0 (-9999) 9999
 pure (!y)
theorem zCA:∀ (n0:Int) r,rR n0=some r→∀ {imm:Imm} ,Ret Tryz.prog 101 [vI n0] imm [] (zA9  r):=by
 intro n0 r hM imm;unfold rR at hM;refine yG (fn:=Tryz.f101) (c:=(bodyOf Tryz.f101)) Tryz.func101 rfl rfl ?_;rintro B - -;refine zF<|zB<|yA [] []<|zE<|zF<|zB<|yK 1 [] [(3,vI n0)] ?_;obtain ⟨y,hy,hM⟩:=zC hM;refine yR (wN n0 (-9999) 9999 _ hy ) ?_;rintro imm0 hs2 v2 k2 le - ⟨v0,rfl,rfl,rfl⟩ -;refine yA [] [(2,.bool (!y))]<|zE<|yJ ?_;obtain rfl:=zD hM;exact yQ ⟨_,_,(.tmp rfl ResV.nil),zX,⟨_,rfl,rfl,rfl⟩⟩
def zCB (r:Bool):KT:=fun kk imm' hs' v=>
  ∃ v0,hs'=[]∧v=tupV [v0]∧v0=.bool r
def oP (point:(List Int)):Option (Bool):=do
 let t2←(do
   if (decide ((point.length:Int) ≤ 4)) then
    let y←xG point rR
    pure (!y)
   else
    pure false
     : Option Bool)
 pure (id t2)
theorem zDK:∀ (point:(List Int)) r,oP point=some r→∀ {imm:Imm}{p c},(S4 imm p point c)→Ret Tryz.prog 68 [vS p point c] imm [] (zCB  r):=by
 intro point r hM imm p c h;unfold oP at hM;refine yG (fn:=Tryz.f68) (c:=(bodyOf Tryz.f68)) Tryz.func68 rfl rfl ?_;rintro B - -;have hle:=iS imm;refine zF<|zB<|yA [] []<|zE<|zF ?_;obtain ⟨o0,ho0,hMc⟩:=zC hM;refine yU (fun imm' hs' m'=>∃ (t2:Bool),o0=t2∧imm.le imm'∧hs'=[]∧m'=[(2,.bool t2)]) ?_ ?_
 · have hle:=iS imm;refine zB<|yK 4 [] [(6,.bool (decide ((point.length:Int) ≤ 4)))] ?_;cases hc:(decide ((point.length:Int) ≤ 4)) with
   | true =>
    have hM0:=zW hc ho0
    try rw [hc]
    refine yK 5 [] [(7,vS p point c)] ?_;have hf0:FV1 Tryz.prog imm [] (.func (.func 101) ⟨[]⟩ ⟨[]⟩) rR:=by
      refine FV1.intro ?_;intro imm1 le1 x0 r u0 hF k0;obtain rfl:=k0;exact (zCA x0 r hF ).mono (by rintro k i hs u ⟨v0,rfl,rfl,h⟩; exact ⟨rfl,h⟩)
    obtain ⟨y,hy,hM⟩:=zC hM0;refine yR (tH point rR _ hy h hf0) ?_;rintro imm01 hs2 v2 k2 le - ⟨v0,rfl,rfl,rfl⟩ -;have hle:=hle.trans le;exact yA [] [(2,.bool (!y))]<|yT [(2,.bool (!y))]<|yB ⟨_,(zD hM).symm,hle,rfl,rfl⟩
   | false =>
    have hM01:=zU hc ho0
    try rw [hc]
    exact yA [] [(2,.bool false)]<|yT [(2,.bool false)]<|yB ⟨_,(zD hM01).symm,hle,rfl,rfl⟩
 rintro imm0 hs2 m2 ⟨t2,heq,le1,rfl,rfl⟩;subst o0;refine zE<|yJ ?_;obtain rfl:=zD hMc;exact yQ ⟨_,_,(.tmp rfl ResV.nil),zX,⟨_,rfl,rfl,rfl⟩⟩
def kQ (r:(List zL)):KT:=fun kk imm' hs' v=>
  ∃ v0,hs'=[]∧v=tupV [v0]∧SL imm' v0 r
mutual
def pS (e0:zH):Option ((List zL)):=do
 if (e0.Kind == 3) then
  pure ([e0.Read]:List zL)
 else
  let out1←qG (same e0) ([]:List zL) (same 0)
  pure (id out1)
 partial_fixpoint
def qG (e0:zH) (out:List zL) (t15:Int):Option (List zL):=do
 if (decide (t15 < (e0.Kids.length:Int))) then
  let x←idx e0.Kids t15
  let y←pS (same x)
  let out2←app 40 out y
  qG (same e0) (same out2) (W (t15 + 1))
 else
  pure (id out)
 partial_fixpoint
end
theorem zDr:(∀ (e0:zH) r,pS e0=some r→∀ {imm:Imm}{p c p1 c1 p2 c2},(S4 imm p e0.Index.Coefs c)→(S4 imm p1 e0.Read.Subs c1)→(S4 imm p2 e0.Kids c2)→Ret Tryz.prog 73 [vA (cExpr e0 p c p1 c1 p2 c2)] imm [] (kQ  r))∧(∀ (e0:zH) (out:List zL) (t15:Int) o,qG e0 out t15=some o→∀ {B}{imm0 imm:Imm}{Q p2 c2 p3 c3 cs},imm0.le imm→(S4 imm p2 e0.Kids c2)→(RL imm cs out)→(∀ gl a w,¬Q (.goto gl) a w)→(∀ a w,¬Q .outgrown a w)→(∀ (imm':Imm) (out1:List zL) (p4:Option Addr) (c4:Nat) (cs1:List Value),o=out1→imm0.le imm'→(RL imm' cs1 out1)→T 25 B Q (.exit 0) imm' [hO zL (vS p4 out1 c4) cs1] [(3,vS p4 out1 c4)])→J Tryz.prog 25 B (nav (bodyOf Tryz.f73) [1,1,1,0,1,0]) Q imm [hO zL (vS p3 out c3) cs] [(3,vS p3 out c3),(13,vS p2 e0.Kids c2),(14,vI (e0.Kids.length:Int)),(15,vI t15)]):=by
  refine pS.mutual_partial_correctness (fun e0 r=>∀ {imm:Imm}{p c p1 c1 p2 c2},(S4 imm p e0.Index.Coefs c)→(S4 imm p1 e0.Read.Subs c1)→(S4 imm p2 e0.Kids c2)→Ret Tryz.prog 73 [vA (cExpr e0 p c p1 c1 p2 c2)] imm [] (kQ  r)) (fun e0 out t15 o=>∀ {B}{imm0 imm:Imm}{Q p2 c2 p3 c3 cs},imm0.le imm→(S4 imm p2 e0.Kids c2)→(RL imm cs out)→(∀ gl a w,¬Q (.goto gl) a w)→(∀ a w,¬Q .outgrown a w)→(∀ (imm':Imm) (out1:List zL) (p4:Option Addr) (c4:Nat) (cs1:List Value),o=out1→imm0.le imm'→(RL imm' cs1 out1)→T 25 B Q (.exit 0) imm' [hO zL (vS p4 out1 c4) cs1] [(3,vS p4 out1 c4)])→J Tryz.prog 25 B (nav (bodyOf Tryz.f73) [1,1,1,0,1,0]) Q imm [hO zL (vS p3 out c3) cs] [(3,vS p3 out c3),(13,vS p2 e0.Kids c2),(14,vI (e0.Kids.length:Int)),(15,vI t15)]) ?_ ?_
  · intro F_impl_reads_l1 ih_impl_reads_l1 e0 r hM imm p c p1 c1 p2 c2 h h1 h2;refine yG (fn:=Tryz.f73) (c:=(bodyOf Tryz.f73)) Tryz.func73 rfl rfl ?_;rintro B - -;refine zF<|zB<|tR (cExpr e0 p c p1 c1 p2 c2) ?_;intro b hb;refine yA [] []<|zE<|zF<|zF<|zB<|yA [0] [(8,.bool (e0.Kind == 3))]<|zE<|yO hM ?_ ?_
    · intro hc hM;refine zF<|zB<|yK 2 [0] [(10,vA (cAccess e0.Read p1 c1))]<|xQ (cAccess e0.Read p1 c1) zL ?_;intro b1 hb1;have h3:RL imm (cAccess e0.Read p1 c1) ([e0.Read]:List zL):=⟨(cAccess e0.Read p1 c1),_,rfl,rfl,(qQ ⟨_,rfl,h1⟩),rfl⟩;refine yA [] [(2,vS (some ⟨b1,0,none⟩) ([e0.Read]:List zL) 1)]<|zE<|yJ<|zR<|xI 0 rfl ?_;intro imm0 le hl0;have h4:=SL.of_frozen hl0 le h3;obtain rfl:=zD hM;exact yQ ⟨_,_,(.tmp rfl ResV.nil),zX,⟨_,rfl,rfl,h4⟩⟩
    intro hc hM;refine yE<|zE<|zF<|zB<|yA [] [(3,z0)]<|zE<|zF<|zF<|zB<|yA [0] [(13,vS p2 e0.Kids c2),(14,vI (e0.Kids.length:Int)),(15,vI 0)]<|zE<|yC<|qA (zK [] (hs':=[]) rfl (by decide))<|vQ [(3,z0),(13,vS p2 e0.Kids c2),(14,vI (e0.Kids.length:Int)),(15,vI 0)]<|qA (uI (Rp.sz zL)) ?_;have h5:RL imm [] ([]:List zL):=RepL.nil;obtain ⟨o0,ho0,hMl⟩:=zC hM;refine ih_impl_reads_l1 e0 ([]:List zL) 0 o0 ho0 iR h2 h5 (fun _ _ _ h=>h) (fun _ _ h=>h) ?_;intro imm02 out1 p4 c4 cs1 heq le2 h7;subst o0;refine yD<|zE<|zF<|zB<|yA [] [(2,vS p4 out1 c4)]<|zE<|yJ<|xI 0 rfl ?_;intro imm03 le3 hl01;have h13:=SL.of_frozen hl01 le3 h7;obtain rfl:=zD hMl;exact yQ ⟨_,_,(.tmp rfl ResV.nil),zX,⟨_,rfl,rfl,h13⟩⟩
  intro F_impl_reads F_impl_reads_l1 ih_impl_reads ih_impl_reads_l1 e0 out t15 o hM B imm0 imm Q p2 c2 p3 c3 cs hle h2 h6 hg ho hx;refine xC hg ho<|zF<|zB<|yA [] [(16,.bool (decide (t15 < (e0.Kids.length:Int))))]<|zE<|zF<|yO hM ?_ ?_
  · intro hc1 hM;refine yE<|zE<|zF<|yC<|zF<|zB ?_;obtain ⟨x,hy,hM⟩:=zC hM;refine wJ rfl rfl h2 hy ?_;intro ad ccs hat hrep;obtain ⟨v0,v01,v02,rfl,h8,h9,h10⟩:=wK hrep;obtain ⟨p5,c5,rfl⟩:=h8.form;obtain ⟨p6,c6,rfl⟩:=h9.form;obtain ⟨p7,c7,rfl⟩:=h10.form;refine xS 0 hat (cExpr x p5 c5 p6 c6 p7 c7) (vA (cExpr x p5 c5 p6 c6 p7 c7)) rfl<|uD zExpr ?_;intro b2 hb2;refine xJ 0 (cExpr x p5 c5 p6 c6 p7 c7) [hB b2 (cExpr x p5 c5 p6 c6 p7 c7),hO zL (vS p3 out c3) cs] rfl rfl rfl rfl<|yN rfl<|zE<|zB<|yK 2 [0] [(19,vS p3 out c3),(20,vA (cExpr x p5 c5 p6 c6 p7 c7))] ?_;obtain ⟨y,hy1,hM⟩:=zC hM;refine yR (ih_impl_reads x _ hy1 h8 h9 h10) ?_;rintro imm01 hs2 v2 k2 le1 - ⟨v03,rfl,rfl,h11⟩ -;have h2:=h2.mono le1;have h6:=iM le1 h6;have hle:=hle.trans le1;obtain ⟨p8,c8,rfl⟩:=h11.form;obtain ⟨ccs1,k0,k01⟩:=h11;have h11:SL imm01 (vS p8 y c8) y:=⟨_,k0,k01⟩;obtain ⟨out2,hy2,hM⟩:=zC hM;refine qI 64 2 1 rfl rfl rfl h6 (.inl k0) k01 hy2 ?_;intro p9 c9 cs2 h12;exact rX (zK [0,1] (hs':=[hB b2 (cExpr x p5 c5 p6 c6 p7 c7),hO zL (vS p9 out2 c9) cs2]) rfl (by decide))<|yA [] [(3,vS p9 out2 c9)]<|zY<|zE<|zB<|yA [] [(15,vI (W (t15 + 1)))]<|xD<|qA (zK [1] rfl (by decide))<|vQ [(3,vS p9 out2 c9),(13,vS p2 e0.Kids c2),(14,vI (e0.Kids.length:Int)),(15,vI (W (t15 + 1)))]<|ih_impl_reads_l1 e0 out2 (W (t15 + 1)) _ hM hle h2 h12 hg ho hx
  intro hc1 hM;exact xA<|zS<|zS<|yT [(3,vS p3 out c3)]<|hx _ _ _ _ _ (zD hM).symm hle h6
theorem zAg:∀ (e0:zH) r,pS e0=some r→∀ {imm:Imm}{p c p1 c1 p2 c2},(S4 imm p e0.Index.Coefs c)→(S4 imm p1 e0.Read.Subs c1)→(S4 imm p2 e0.Kids c2)→Ret Tryz.prog 73 [vA (cExpr e0 p c p1 c1 p2 c2)] imm [] (kQ  r):=zDr.1
def zAI (r:Int):KT:=fun kk imm' hs' v=>
  ∃ v0,hs'=[]∧v=tupV [v0]∧v0=.int .i64 r
def uX (a0:zJ) (n0:Int) (t9:Int):Option (Int):=do
 if (decide (t9 < (a0.Dims.length:Int))) then
  let x←idx a0.Dims t9
  uX a0 (W (n0 * x)) (W (t9 + 1))
 else
  pure (id n0)
 partial_fixpoint
theorem dD (a0:zJ):∀ (n0:Int) (t9:Int) (o:Int),uX a0 n0 t9=some o→∀ {B}{imm0 imm:Imm}{Q p c},imm0.le imm→(S4 imm p a0.Dims c)→(∀ gl a w,¬Q (.goto gl) a w)→(∀ a w,¬Q .outgrown a w)→(∀ (imm':Imm) (n01:Int),o=n01→imm0.le imm'→T 18 B Q (.exit 0) imm' [] [(3,vI n01)])→J Tryz.prog 18 B (nav (bodyOf Tryz.f71) [1,1,0,1,0]) Q imm [] [(3,vI n0),(7,vS p a0.Dims c),(8,vI (a0.Dims.length:Int)),(9,vI t9)]:=by
 refine uX.partial_correctness a0 _ ?_;intro self ih n0 t9 o hM B imm0 imm Q p c hle h hg ho hx;refine xC hg ho<|zF<|zB<|yA [] [(10,.bool (decide (t9 < (a0.Dims.length:Int))))]<|zE<|zF<|yO hM ?_ ?_
 · intro hc hM;refine yE<|zE<|zF<|yC<|zF<|zB ?_;obtain ⟨x,hy,hM⟩:=zC hM;refine wJ rfl rfl h hy ?_;intro ad ccs hat hrep;obtain rfl:=hrep;exact xS 0 hat [vI x] (vI x) rfl<|yA [] [(5,vI x)]<|zE<|zB<|yA [] [(3,vI (W (n0 * x)))]<|zY<|zE<|zB<|yA [] [(9,vI (W (t9 + 1)))]<|xD<|vQ [(3,vI (W (n0 * x))),(7,vS p a0.Dims c),(8,vI (a0.Dims.length:Int)),(9,vI (W (t9 + 1)))]<|ih (W (n0 * x)) (W (t9 + 1)) _ hM hle h hg ho hx
 intro hc hM;exact xA<|zS<|zS<|yT [(3,vI n0)]<|hx _ _ (zD hM).symm hle
def pT (a0:zJ):Option (Int):=do
 let n01←uX a0 1 0
 pure (id n01)
theorem zBL:∀ (a0:zJ) r,pT a0=some r→∀ {imm:Imm}{p c},(S4 imm p a0.Dims c)→Ret Tryz.prog 71 [vA (cArr a0 p c)] imm [] (zAI  r):=by
 intro a0 r hM imm p c h;unfold pT at hM;refine yG (fn:=Tryz.f71) (c:=(bodyOf Tryz.f71)) Tryz.func71 rfl rfl ?_;rintro B - -;refine zF<|zB<|tR (cArr a0 p c) ?_;intro b hb;refine yA [] []<|zE<|zF<|zB<|yA [] [(3,vI 1)]<|zE<|zF<|zF<|zB<|yA [0] [(7,vS p a0.Dims c),(8,vI (a0.Dims.length:Int)),(9,vI 0)]<|zE<|yC<|qA (zK [] (hs':=[]) rfl (by decide))<|vQ [(3,vI 1),(7,vS p a0.Dims c),(8,vI (a0.Dims.length:Int)),(9,vI 0)] ?_;obtain ⟨o0,ho0,hMl⟩:=zC hM;refine dD a0 1 0 o0 ho0 iR h (fun _ _ _ h=>h) (fun _ _ h=>h) ?_;intro imm0 n01 heq le;subst o0;refine yD<|zE<|zF<|zB<|yA [] [(2,vI n01)]<|zE<|yJ ?_;obtain rfl:=zD hMl;exact yQ ⟨_,_,(.tmp rfl ResV.nil),zX,⟨_,rfl,rfl,rfl⟩⟩
def oZ (r:Int):KT:=fun kk imm' hs' v=>
  ∃ v0,hs'=[]∧v=tupV [v0]∧v0=.int .i64 r
def uH (a0:zL) (point:(List Int)) (x:zJ) (at0:Int) (t40:Int):Option (Out Int (Int)):=do
 if (decide (t40 < (a0.Subs.length:Int))) then
  let x1←idx a0.Subs t40
  let y1←uG x1 point
  let x2←idx x.Dims t40
  let y2←xV y1 0 (W (x2 - 1))
  if (!y2) then
   pure (.ret (-1))
  else
   let x3←idx x.Dims t40
   uH a0 point x (W ((W (at0 * x3)) + y1)) (W (t40 + 1))
 else
  pure (.done at0)
 partial_fixpoint
theorem fO (a0:zL) (point:(List Int)) (x:zJ):∀ (at0:Int) (t40:Int) (o:Out Int (Int)),uH a0 point x at0 t40=some o→∀ {B}{imm0 imm:Imm}{Q}{first:Int}{p3 c2 p4 c3 p5 c4}{b2:Nat},imm0.le imm→(S4 imm p4 point c3)→(S4 imm p3 a0.Subs c2)→(S4 imm p5 x.Dims c4)→(∀ gl a w,¬Q (.goto gl) a w)→(∀ a w,¬Q .outgrown a w)→(∀ (imm':Imm) (at01:Int),o=(.done at01)→imm0.le imm'→T 71 B Q (.exit 2) imm' [] [(7,vI first),(10,vI at01)])→(∀ r imm' hs' m',o=(.ret r)→imm0.le imm'→RS Tryz.prog Tryz.f74 B (oZ  r) imm' hs' m'→T 71 B Q .ret imm' hs' m')→J Tryz.prog 71 B (nav (bodyOf Tryz.f74) [1,1,0,1,0,0,1,1,0,0,1,1,1,1,0,1,0]) Q imm [hB b2 (cArr x p5 c4)] [(2,vS p4 point c3),(7,vI first),(9,vP b2 0),(10,vI at0),(38,vS p3 a0.Subs c2),(39,vI (a0.Subs.length:Int)),(40,vI t40)]:=by
 refine uH.partial_correctness a0 point x _ ?_;intro self ih at0 t40 o hM B imm0 imm Q first p3 c2 p4 c3 p5 c4 b2 hle h3 h2 h4 hg ho hx hr;refine xC hg ho<|zF<|zB<|yA [] [(41,.bool (decide (t40 < (a0.Subs.length:Int))))]<|zE<|zF<|yO hM ?_ ?_
 · intro hc3 hM;refine yE<|zE<|zF<|yC<|zF<|zB<|yK 1 [] [(42,vI t40)] ?_;obtain ⟨x1,hy2,hM⟩:=zC hM;refine wJ rfl rfl h2 hy2 ?_;intro ad1 ccs1 hat1 hrep1;obtain ⟨v02,rfl,h6⟩:=yM hrep1;obtain ⟨p6,c5,rfl⟩:=h6.form;refine xS 0 hat1 (cAff x1 p6 c5) (vA (cAff x1 p6 c5)) rfl<|uD [z0,vI 0] ?_;intro b3 hb3;refine yK 5 [] [(11,vI t40)]<|xJ 0 (cAff x1 p6 c5) [hB b3 (cAff x1 p6 c5),hB b2 (cArr x p5 c4)] rfl rfl rfl rfl<|yN rfl<|zE<|zF<|zB<|yK 2 [0] [(45,vA (cAff x1 p6 c5)),(46,vS p4 point c3)] ?_;obtain ⟨y1,hy3,hM⟩:=zC hM;refine yR (qL x1 point _ hy3 h6 h3) ?_;rintro imm01 hs2 v2 k2 le1 - ⟨v03,rfl,rfl,rfl⟩ -;have h3:=h3.mono le1;have h2:=h2.mono le1;have h4:=h4.mono le1;have hle:=hle.trans le1;refine yA [] [(13,vI y1)]<|zE<|zF<|zF<|zB<|yK 4 [1] [(48,vI y1),(50,vS p5 x.Dims c4),(51,vI t40)] ?_;obtain ⟨x2,hy4,hM⟩:=zC hM;refine wJ rfl rfl h4 hy4 ?_;intro ad2 ccs2 hat2 hrep2;obtain rfl:=hrep2;refine xS 0 hat2 [vI x2] (vI x2) rfl<|yK 7 [] [(54,vI (W (x2 - 1)))] ?_;obtain ⟨y2,hy5,hM⟩:=zC hM;refine yR (wN y1 0 (W (x2 - 1)) _ hy5 ) ?_;rintro imm02 hs2 v2 k2 le2 - ⟨v04,rfl,rfl,rfl⟩ -;have h3:=h3.mono le2;have h2:=h2.mono le2;have h4:=h4.mono le2;have hle:=hle.trans le2;refine yA [] [(56,.bool (!y2))]<|zE<|yO hM ?_ ?_
   · intro hc4 hM;exact zF<|zB<|yA [] [(6,vI (-1))]<|zE<|yJ<|zR<|yF<|zR<|zR<|hr _ _ _ _ (zD hM).symm hle ⟨_,_,(.tmp rfl ResV.nil),zX,⟨_,rfl,rfl,rfl⟩⟩
   intro hc4 hM;refine yE<|zE<|zB<|yK 4 [1] [(57,vI at0),(59,vS p5 x.Dims c4),(60,vI t40)] ?_;obtain ⟨x3,hy6,hM⟩:=zC hM;refine wJ rfl rfl h4 hy6 ?_;intro ad3 ccs3 hat3 hrep3;obtain rfl:=hrep3;exact xS 0 hat3 [vI x3] (vI x3) rfl<|yA [] [(10,vI (W ((W (at0 * x3)) + y1)))]<|zY<|zE<|zB<|yA [] [(40,vI (W (t40 + 1)))]<|xD<|qA (zK [1] rfl (by decide))<|vQ [(2,vS p4 point c3),(7,vI first),(9,vP b2 0),(10,vI (W ((W (at0 * x3)) + y1))),(38,vS p3 a0.Subs c2),(39,vI (a0.Subs.length:Int)),(40,vI (W (t40 + 1)))]<|ih (W ((W (at0 * x3)) + y1)) (W (t40 + 1)) _ hM hle h3 h2 h4 hg ho hx hr
 intro hc3 hM;exact xA<|zS<|zS<|wD (zK [] rfl (by decide))<|yT [(7,vI first),(10,vI at0)]<|hx _ _ (zD hM).symm hle
def wX (p:zV) (a0:zL) (point:(List Int)) (first:Int) (t17:Int):Option (Out Unit (Int)):=do
 if (decide (t17 < (p.Arrays.length:Int))) then
  let x←idx p.Arrays t17
  if (!(x.Name.l == a0.Array.l)) then
   let y←pT x
   wX p a0 point (W (first + y)) (W (t17 + 1))
  else
   if ((a0.Subs.length:Int) != (x.Dims.length:Int)) then
    pure (.ret (-1))
   else
    match←uH a0 point x 0 0 with
    | .ret r0=>pure (.ret r0)
    | .done at01 =>
     pure (.ret (W (first + at01)))
 else
  pure (.done ())
 partial_fixpoint
theorem fP (p:zV) (a0:zL) (point:(List Int)):∀ (first:Int) (t17:Int) (o:Out Unit (Int)),wX p a0 point first t17=some o→∀ {B}{imm0 imm:Imm}{Q p1 c p3 c2 p4 c3}{b1:Nat},imm0.le imm→(S4 imm p4 point c3)→(S4 imm p1 p.Arrays c)→(S4 imm p3 a0.Subs c2)→(∀ gl a w,¬Q (.goto gl) a w)→(∀ a w,¬Q .outgrown a w)→(∀ (imm':Imm) ,o=(.done ())→imm0.le imm'→T 71 B Q (.exit 0) imm' [] [])→(∀ r imm' hs' m',o=(.ret r)→imm0.le imm'→RS Tryz.prog Tryz.f74 B (oZ  r) imm' hs' m'→T 71 B Q .ret imm' hs' m')→J Tryz.prog 71 B (nav (bodyOf Tryz.f74) [1,1,0,1,0]) Q imm [hB b1 (cAccess a0 p3 c2)] [(2,vS p4 point c3),(4,vP b1 0),(7,vI first),(15,vS p1 p.Arrays c),(16,vI (p.Arrays.length:Int)),(17,vI t17)]:=by
 refine wX.partial_correctness p a0 point _ ?_;intro self ih first t17 o hM B imm0 imm Q p1 c p3 c2 p4 c3 b1 hle h3 h h2 hg ho hx hr;refine xC hg ho<|zF<|zB<|yA [] [(18,.bool (decide (t17 < (p.Arrays.length:Int))))]<|zE<|zF<|yO hM ?_ ?_
 · intro hc hM;refine yE<|zE<|zF<|yC<|zF<|zB ?_;obtain ⟨x,hy,hM⟩:=zC hM;refine wJ rfl rfl h hy ?_;intro ad ccs hat hrep;obtain ⟨v0,rfl,h4⟩:=xZ hrep;obtain ⟨p5,c4,rfl⟩:=h4.form;refine xS 0 hat (cArr x p5 c4) (vA (cArr x p5 c4)) rfl<|uD [vT ([]),z0] ?_;intro b2 hb2;refine xJ 0 (cArr x p5 c4) [hB b2 (cArr x p5 c4),hB b1 (cAccess a0 p3 c2)] rfl rfl rfl rfl<|yN rfl<|zE<|zF<|zF<|zB<|yA [0,1] [(25,.bool (!(x.Name.l == a0.Array.l)))]<|zE<|yO hM ?_ ?_
   · intro hc1 hM;refine zF<|zB<|yK 2 [0] [(26,vI first),(27,vA (cArr x p5 c4))] ?_;obtain ⟨y,hy1,hM⟩:=zC hM;refine yR (zBL x _ hy1 h4) ?_;rintro imm0 hs2 v2 k2 le - ⟨v01,rfl,rfl,rfl⟩ -;have h3:=h3.mono le;have h:=h.mono le;have h2:=h2.mono le;have hle:=hle.trans le;exact yA [] [(7,vI (W (first + y)))]<|zE<|xA<|zS<|yD<|zE<|zB<|yA [] [(17,vI (W (t17 + 1)))]<|xD<|qA (zK [1] rfl (by decide))<|vQ [(2,vS p4 point c3),(4,vP b1 0),(7,vI (W (first + y))),(15,vS p1 p.Arrays c),(16,vI (p.Arrays.length:Int)),(17,vI (W (t17 + 1)))]<|ih (W (first + y)) (W (t17 + 1)) _ hM hle h3 h h2 hg ho hx hr
   intro hc1 hM;refine yE<|zE<|zF<|zF<|zB<|yA [1,0] [(36,.bool ((a0.Subs.length:Int) != (x.Dims.length:Int)))]<|zE<|yO hM ?_ ?_
   · intro hc2 hM;exact zF<|zB<|yA [] [(6,vI (-1))]<|zE<|yJ<|zR<|yF<|zR<|zR<|hr _ _ _ _ (zD hM).symm hle ⟨_,_,(.tmp rfl ResV.nil),zX,⟨_,rfl,rfl,rfl⟩⟩
   intro hc2 hM;refine yE<|zE<|zF<|zB<|yA [] [(10,vI 0)]<|zE<|zF<|zF<|zB<|yA [1] [(38,vS p3 a0.Subs c2),(39,vI (a0.Subs.length:Int)),(40,vI 0)]<|zE<|yC<|qA (zK [0] (hs':=[hB b2 (cArr x p5 c4)]) rfl (by decide))<|vQ [(2,vS p4 point c3),(7,vI first),(9,vP b2 0),(10,vI 0),(38,vS p3 a0.Subs c2),(39,vI (a0.Subs.length:Int)),(40,vI 0)] ?_;obtain ⟨o0,ho0,hMl⟩:=zC hM;refine fO a0 point x 0 0 o0 ho0 iR h3 h2 h4 (fun _ _ _ h=>hg _ _ _ h) (fun _ _ h=>ho _ _ h) ?_ ?_
   · intro imm03 at01 heq le3;subst o0;have hle:=hle.trans le3;exact yD<|zE<|zF<|zB<|yA [] [(6,vI (W (first + at01)))]<|zE<|yJ<|yF<|zR<|zR<|hr _ _ _ _ (zD hMl).symm hle ⟨_,_,(.tmp rfl ResV.nil),zX,⟨_,rfl,rfl,rfl⟩⟩
   intro r0 imm9 hs9 m9 heq9 le9 hrs9;subst heq9;exact yF<|zR<|yF<|zR<|zR<|hr _ _ _ _ (zD hMl).symm (hle.trans le9) hrs9
 intro hc hM;exact xA<|zS<|zS<|wD (zK [] rfl (by decide))<|yT []<|hx _  (zD hM).symm hle
def uQ (p:zV) (a0:zL) (point:(List Int)):Option (Int):=do
 match←wX p a0 point 0 0 with
 | .ret r0=>pure r0
 | .done _ =>
  pure (-1)
theorem pU:∀ (p:zV) (a0:zL) (point:(List Int)) r,uQ p a0 point=some r→∀ {imm:Imm}{p1 c p2 c1 p3 c2 p4 c3},(S4 imm p1 p.Arrays c)→(S4 imm p2 p.Parts c1)→(S4 imm p3 a0.Subs c2)→(S4 imm p4 point c3)→Ret Tryz.prog 74 [vA (cProg p p1 c p2 c1),vA (cAccess a0 p3 c2),vS p4 point c3] imm [] (oZ  r):=by
 intro p a0 point r hM imm p1 c p2 c1 p3 c2 p4 c3 h h1 h2 h3;unfold uQ at hM;refine yG (fn:=Tryz.f74) (c:=(bodyOf Tryz.f74)) Tryz.func74 rfl rfl ?_;rintro B - -;refine zF<|zB<|tR (cProg p p1 c p2 c1) ?_;intro b hb;refine tR (cAccess a0 p3 c2) ?_;intro b1 hb1;refine yA [] []<|zE<|zF<|zB<|yA [] [(7,vI 0)]<|zE<|zF<|zF<|zB<|yA [1] [(15,vS p1 p.Arrays c),(16,vI (p.Arrays.length:Int)),(17,vI 0)]<|zE<|yC<|qA (zK [0] (hs':=[hB b1 (cAccess a0 p3 c2)]) rfl (by decide))<|vQ [(2,vS p4 point c3),(4,vP b1 0),(7,vI 0),(15,vS p1 p.Arrays c),(16,vI (p.Arrays.length:Int)),(17,vI 0)] ?_;obtain ⟨o01,ho01,hMl1⟩:=zC hM;refine fP p a0 point 0 0 o01 ho01 iR h3 h h2 (fun _ _ _ h=>h) (fun _ _ h=>h) ?_ ?_
 · intro imm04  heq1 le4;subst o01;refine yD<|zE<|zF<|zB<|yA [] [(6,vI (-1))]<|zE<|yJ ?_;obtain rfl:=zD hMl1;exact yQ ⟨_,_,(.tmp rfl ResV.nil),zX,⟨_,rfl,rfl,rfl⟩⟩
 intro r0 imm9 hs9 m9 heq9 le9 hrs9;subst heq9;refine yF<|zR ?_;obtain rfl:=zD hMl1;exact yQ hrs9
def tX (hsF:List HA) (r:Int):KT:=fun kk imm' hs' v=>
  ∃ v0,hsF=hs'∧v=tupV [v0]∧v0=.int .i64 r
def yY (s:(List zL)) (f0:(zL→Option Bool)) (t8:Int):Option (Out Unit (Int)):=do
 if (decide (t8 < (s.length:Int))) then
  let x←idx s t8
  let y←f0 x
  if y then
   pure (.ret t8)
  else
   yY s f0 (W (t8 + 1))
 else
  pure (.done ())
 partial_fixpoint
theorem oE (s:(List zL)) (f0:(zL→Option Bool)):∀ (t8:Int) (o:Out Unit (Int)),yY s f0 t8=some o→∀ {B}{imm0 imm:Imm}{Q p c}{fv:Value}{hsF:List HA},imm0.le imm→(S4 imm p s c)→(FV1 Tryz.prog imm hsF fv f0)→(∀ gl a w,¬Q (.goto gl) a w)→(∀ a w,¬Q .outgrown a w)→(∀ (imm':Imm) ,o=(.done ())→imm0.le imm'→T 19 B Q (.exit 0) imm' hsF [])→(∀ r imm' hs' m',o=(.ret r)→imm0.le imm'→RS Tryz.prog Tryz.f132 B (tX hsF r) imm' hs' m'→T 19 B Q .ret imm' hs' m')→J Tryz.prog 19 B (nav (bodyOf Tryz.f132) [1,0,1,0]) Q imm hsF [(0,vS p s c),(1,fv),(7,vI (s.length:Int)),(8,vI t8)]:=by
 refine yY.partial_correctness s f0 _ ?_;intro self ih t8 o hM B imm0 imm Q p c fv hsF hle h h1 hg ho hx hr;refine xC hg ho<|zF<|zB<|yA [] [(9,.bool (decide (t8 < (s.length:Int))))]<|zE<|zF<|yO hM ?_ ?_
 · intro hc hM;refine yE<|zE<|zF<|yC<|zF<|zB<|yA [] [(5,vI t8)]<|zE<|zF<|zB<|yK 3 [] [(11,fv),(12,vS p s c),(13,vI t8)] ?_;obtain ⟨x,hy,hM⟩:=zC hM;refine wJ rfl rfl h hy ?_;intro ad ccs hat hrep;obtain ⟨v0,rfl,h2⟩:=sC hrep;obtain ⟨p1,c1,rfl⟩:=h2.form;refine xS 0 hat (cAccess x p1 c1) (vA (cAccess x p1 c1)) rfl ?_;obtain ⟨y,hy1,hM⟩:=zC hM;refine zG5 rfl rfl h1 hy1 ⟨_,rfl,(qQ ⟨_,rfl,h2⟩)⟩ (List.append_nil _).symm ?_;rintro imm0 v01 le rfl;refine uB (hs':=hsF) (List.append_nil _) ?_;have h:=h.mono le;have h1:=h1.mono le;have hle:=hle.trans le;refine yN rfl<|zE<|yO hM ?_ ?_
   · intro hc1 hM;exact zF<|zB<|yA [] [(4,vI t8)]<|zE<|yJ<|yF<|zR<|zR<|hr _ _ _ _ (zD hM).symm hle ⟨_,_,(.tmp rfl ResV.nil),(fun _ h=>h),⟨_,rfl,rfl,rfl⟩⟩
   intro hc1 hM;exact yE<|zY<|zE<|zB<|yA [] [(8,vI (W (t8 + 1)))]<|xD<|vQ [(0,vS p s c),(1,fv),(7,vI (s.length:Int)),(8,vI (W (t8 + 1)))]<|ih (W (t8 + 1)) _ hM hle h h1 hg ho hx hr
 intro hc hM;exact xA<|zS<|zS<|yT []<|hx _  (zD hM).symm hle
def wF (s:(List zL)) (f0:(zL→Option Bool)):Option (Int):=do
 match←yY s f0 0 with
 | .ret r0=>pure r0
 | .done _ =>
  pure (-1)
theorem oR:∀ (s:(List zL)) (f0:(zL→Option Bool)) r,wF s f0=some r→∀ {imm:Imm}{p c}{fv:Value}{hsF:List HA},(S4 imm p s c)→(FV1 Tryz.prog imm hsF fv f0)→Ret Tryz.prog 132 [vS p s c,fv] imm hsF (tX hsF r):=by
 intro s f0 r hM imm p c fv hsF h h1;unfold wF at hM;refine yG (fn:=Tryz.f132) (c:=(bodyOf Tryz.f132)) Tryz.func132 rfl rfl ?_;rintro B - -;refine zF<|zB<|yA [] []<|zE<|zF<|zF<|zB<|yA [] [(7,vI (s.length:Int)),(8,vI 0)]<|zE<|yC<|vQ [(0,vS p s c),(1,fv),(7,vI (s.length:Int)),(8,vI 0)] ?_;obtain ⟨o0,ho0,hMl⟩:=zC hM;refine oE s f0 0 o0 ho0 iR h h1 (fun _ _ _ h=>h) (fun _ _ h=>h) ?_ ?_
 · intro imm01  heq le1;subst o0;refine yD<|zE<|zF<|zB<|yA [] [(4,vI (-1))]<|zE<|yJ ?_;obtain rfl:=zD hMl;exact yQ ⟨_,_,(.tmp rfl ResV.nil),(fun _ h=>h),⟨_,rfl,rfl,rfl⟩⟩
 intro r0 imm9 hs9 m9 heq9 le9 hrs9;subst heq9;refine yF<|zR ?_;obtain rfl:=zD hMl;exact yQ hrs9
def pF (hsF:List HA) (r:Bool):KT:=fun kk imm' hs' v=>
  ∃ v0,hsF=hs'∧v=tupV [v0]∧v0=.bool r
def xK (s:(List zL)) (f0:(zL→Option Bool)):Option (Bool):=do
 let y←wF s f0
 pure (decide (y ≥ 0))
theorem oF:∀ (s:(List zL)) (f0:(zL→Option Bool)) r,xK s f0=some r→∀ {imm:Imm}{p c}{fv:Value}{hsF:List HA},(S4 imm p s c)→(FV1 Tryz.prog imm hsF fv f0)→Ret Tryz.prog 102 [vS p s c,fv] imm hsF (pF hsF r):=by
 intro s f0 r hM imm p c fv hsF h h1;unfold xK at hM;refine yG (fn:=Tryz.f102) (c:=(bodyOf Tryz.f102)) Tryz.func102 rfl rfl ?_;rintro B - -;refine zF<|zB<|yA [] []<|zE<|zF<|zB<|yK 2 [] [(5,vS p s c),(6,fv)] ?_;obtain ⟨y,hy,hM⟩:=zC hM;refine zCK (hs1:=hsF) (rest:=[]) rfl rfl rfl rfl (by kernel_rfl) rfl (List.append_nil _).symm (oR s f0 _ hy h h1) ?_;rintro imm0 hs2 v2 k2 le - ⟨v0,rfl,rfl,rfl⟩ -;refine uB (hs':=hsF) (List.append_nil _) ?_;refine yA [] [(4,.bool (decide (y ≥ 0)))]<|zE<|yJ ?_;obtain rfl:=zD hM;exact yQ ⟨_,_,(.tmp rfl ResV.nil),(fun _ h=>h),⟨_,rfl,rfl,rfl⟩⟩
def jS (r:Bool):KT:=fun kk imm' hs' v=>
  ∃ v0,hs'=[]∧v=tupV [v0]∧v0=.bool r
def vO (a0:zL) (x:zV) (x1:(List Int)):Option (Bool):=do
 let y←uQ x a0 x1
 pure (decide (y < 0))
theorem gS:∀ (a0:zL) (x:zV) (x1:(List Int)) r,vO a0 x x1=some r→∀ {imm:Imm}{p c}{ad:Addr}{p1 c1 p2 c2}{ad1:Addr}{p3 c3},(S4 imm p a0.Subs c)→(S4 imm p1 x.Arrays c1)→(S4 imm p2 x.Parts c2)→(At imm ad (cProg x p1 c1 p2 c2))→(S4 imm p3 x1 c3)→(At imm ad1 [vS p3 x1 c3])→Ret Tryz.prog 103 [vA (cAccess a0 p c),.pointer (some ad),.pointer (some ad1)] imm [] (jS  r):=by
 intro a0 x x1 r hM imm p c ad p1 c1 p2 c2 ad1 p3 c3 h h1 h2 hat h3 hat1;unfold vO at hM;refine yG (fn:=Tryz.f103) (c:=(bodyOf Tryz.f103)) Tryz.func103 rfl rfl ?_;rintro B - -;refine zF<|zB<|tR (cAccess a0 p c) ?_;intro b hb;refine yA [] []<|zE<|zF<|zB<|xS 0 hat (cProg x p1 c1 p2 c2) (vA (cProg x p1 c1 p2 c2)) rfl<|yK 2 [0] [(6,vA (cAccess a0 p c))]<|xS 0 hat1 [vS p3 x1 c3] (vS p3 x1 c3) rfl ?_;obtain ⟨y,hy,hM⟩:=zC hM;refine yR (pU x a0 x1 _ hy h1 h2 h h3) ?_;rintro imm0 hs2 v2 k2 le - ⟨v0,rfl,rfl,rfl⟩ -;refine yA [] [(4,.bool (decide (y < 0)))]<|zE<|yJ ?_;obtain rfl:=zD hM;exact yQ ⟨_,_,(.tmp rfl ResV.nil),zX,⟨_,rfl,rfl,rfl⟩⟩
def gT (r:Bool):KT:=fun kk imm' hs' v=>
  ∃ v0,hs'=[]∧v=tupV [v0]∧v0=.bool r
def rC (p:zV) (s:zQ) (point:(List Int)):Option (Bool):=do
 let t6←(do
   let y←uQ p s.Write point
   if (decide (y ≥ 0)) then
    let y1←pS s.Value
    let y2←xK y1 (fun x0=>vO x0 p point)
    pure (!y2)
   else
    pure false
     : Option Bool)
 pure (id t6)
theorem eE:∀ (p:zV) (s:zQ) (point:(List Int)) r,rC p s point=some r→∀ {imm:Imm}{p1 c p2 c1 p3 c2 p4 c3 p5 c4 p6 c5 p7 c6},(S4 imm p1 p.Arrays c)→(S4 imm p2 p.Parts c1)→(S4 imm p3 s.Write.Subs c2)→(S4 imm p4 s.Value.Index.Coefs c3)→(S4 imm p5 s.Value.Read.Subs c4)→(S4 imm p6 s.Value.Kids c5)→(S4 imm p7 point c6)→Ret Tryz.prog 69 [vA (cProg p p1 c p2 c1),vA (cStmt s p3 c2 p4 c3 p5 c4 p6 c5),vS p7 point c6] imm [] (gT  r):=by
 intro p s point r hM imm p1 c p2 c1 p3 c2 p4 c3 p5 c4 p6 c5 p7 c6 h h1 h2 h3 h4 h5 h6;unfold rC at hM;refine yG (fn:=Tryz.f69) (c:=(bodyOf Tryz.f69)) Tryz.func69 rfl rfl ?_;rintro B - -;have hle:=iS imm;refine zF<|zB<|tR (cProg p p1 c p2 c1) ?_;intro b hb;refine yL 0 rfl ?_;intro imm0 le hl0;have hat:At imm0 ⟨b,0,none⟩ (cProg p p1 c p2 c1):=At.of_blk hl0;have h:=h.mono le;have h1:=h1.mono le;have h2:=h2.mono le;have h3:=h3.mono le;have h4:=h4.mono le;have h5:=h5.mono le;have h6:=h6.mono le;have hle:=hle.trans le;refine tR (cStmt s p3 c2 p4 c3 p5 c4 p6 c5) ?_;intro b1 hb1;refine tR [vS p7 point c6] ?_;intro b2 hb2;refine yL 0 rfl ?_;intro imm01 le1 hl01;have hat1:At imm01 ⟨b2,0,none⟩ [vS p7 point c6]:=At.of_blk hl01;have h:=h.mono le1;have h1:=h1.mono le1;have h2:=h2.mono le1;have h3:=h3.mono le1;have h4:=h4.mono le1;have h5:=h5.mono le1;have h6:=h6.mono le1;have hat:=hat.mono le1;have hle:=hle.trans le1;refine yA [] []<|zE<|zF ?_;obtain ⟨o0,ho0,hMc⟩:=zC hM;refine yU (fun imm' hs' m'=>∃ (t6:Bool),o0=t6∧imm01.le imm'∧hs'=[]∧m'=[(6,.bool t6)]) ?_ ?_
 · have hle:=iS imm01;refine zB<|xS 0 hat (cProg p p1 c p2 c1) (vA (cProg p p1 c p2 c1)) rfl<|yK 3 [0] [(9,vA (cAccess s.Write p3 c2))]<|xS 0 hat1 [vS p7 point c6] (vS p7 point c6) rfl ?_;obtain ⟨y,hy,hM⟩:=zC ho0;refine yR (pU p s.Write point _ hy h h1 h2 h6) ?_;rintro imm03 hs2 v2 k2 le2 - ⟨v0,rfl,rfl,rfl⟩ -;have h:=h.mono le2;have h1:=h1.mono le2;have hat:=hat.mono le2;have h6:=h6.mono le2;have hat1:=hat1.mono le2;have h3:=h3.mono le2;have h4:=h4.mono le2;have h5:=h5.mono le2;have hle:=hle.trans le2;refine yK 7 [] [(13,.bool (decide (y ≥ 0)))] ?_;cases hc:(decide (y ≥ 0)) with
   | true =>
    have hM0:=zW hc hM
    try rw [hc]
    refine yK 9 [0] [(15,vA (cExpr s.Value p4 c3 p5 c4 p6 c5))] ?_;obtain ⟨y1,hy1,hM⟩:=zC hM0;refine yR (zAg s.Value _ hy1 h3 h4 h5) ?_;rintro imm04 hs2 v2 k2 le3 - ⟨v01,rfl,rfl,h8⟩ -;have h:=h.mono le3;have h1:=h1.mono le3;have hat:=hat.mono le3;have h6:=h6.mono le3;have hat1:=hat1.mono le3;have hle:=hle.trans le3;obtain ⟨p8,c7,rfl⟩:=h8.form;refine yK 11 [] [(17,.func (.func 103) ⟨[]⟩ ⟨[vP b 0,vP b2 0]⟩)] ?_;have hf0:FV1 Tryz.prog imm04 [] (.func (.func 103) ⟨[]⟩ ⟨[vP b 0,vP b2 0]⟩) (fun x0=>vO x0 p point):=by
      refine FV1.intro ?_;intro imm1 le1 x0 r u0 hF k0;obtain ⟨_,rfl,k0⟩:=k0;obtain ⟨v02,rfl,h9⟩:=sC k0;obtain ⟨p9,c8,rfl⟩:=h9.form;exact (gS x0 p point r hF h9 (h.mono le1) (h1.mono le1) (hat.mono le1) (h6.mono le1) (hat1.mono le1)).mono (by rintro k i hs u ⟨v0,rfl,rfl,h⟩; exact ⟨rfl,h⟩)
    obtain ⟨y2,hy2,hM⟩:=zC hM;refine yR (oF y1 (fun x0=>vO x0 p point) _ hy2 h8 hf0) ?_;rintro imm05 hs2 v2 k2 le4 - ⟨v03,rfl,rfl,rfl⟩ -;have hle:=hle.trans le4;exact yA [] [(6,.bool (!y2))]<|wD (zK [] rfl (by decide))<|yT [(6,.bool (!y2))]<|yB ⟨_,(zD hM).symm,hle,rfl,rfl⟩
   | false =>
    have hM01:=zU hc hM
    try rw [hc]
    exact yA [] [(6,.bool false)]<|wD (zK [] rfl (by decide))<|yT [(6,.bool false)]<|yB ⟨_,(zD hM01).symm,hle,rfl,rfl⟩
 rintro imm02 hs2 m2 ⟨t6,heq,le5,rfl,rfl⟩;subst o0;refine zE<|yJ ?_;obtain rfl:=zD hMc;exact yQ ⟨_,_,(.tmp rfl ResV.nil),zX,⟨_,rfl,rfl,rfl⟩⟩
end Go.LN
