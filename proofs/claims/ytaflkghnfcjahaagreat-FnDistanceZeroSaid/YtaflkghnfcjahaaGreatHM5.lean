/- Helper of the proof (see the last text). -/
import Derived.Test.YtaflkghnfcjahaaGreatHM4
set_option linter.unusedVariables false
set_option linter.unusedSimpArgs false
namespace Go.LN
open Go.Proofs
set_option maxRecDepth 20000
def rO (list:(List zH)) (t7:Int):Option (Out Unit (Bool)):=do
 if (decide (t7 < (list.length:Int))) then
  let x←idx list t7
  let t42←(do
    let y←mZ x.Name
    if (!y) then
     pure true
    else
     if (decide (t7 > 0)) then
      let x1←idx list (W (t7 - 1))
      if (!(Op.bytesLess x1.Name.l x.Name.l)) then
       pure true
      else
       let y1←wE (x.Dims.length:Int) 1 2
       if (!y1) then
        pure true
       else
        let y2←xK x.Dims uZ
        pure (id y2)
     else
      let y3←wE (x.Dims.length:Int) 1 2
      if (!y3) then
       pure true
      else
       let y4←xK x.Dims uZ
       pure (id y4)
      : Option Bool)
  if t42 then
   pure (.ret false)
  else
   rO list (W (t7 + 1))
 else
  pure (.done ())
 partial_fixpoint
theorem zCD (list:(List zH)):∀ (t7:Int) (o:Out Unit (Bool)),rO list t7=some o→∀ {B}{I0 I:Imm}{Q p c},I0.le I→(S4 I p list c)→NG Q→NO Q→(∀ (I':Imm) ,o=(.done ())→I0.le I'→T 47 B Q (.exit 0) I' [] [(0,vS p list c)])→(∀ r I' hs' m',o=(.ret r)→I0.le I'→RS Tryz.prog Tryz.f101 B (zT  r) I' hs' m'→T 47 B Q .ret I' hs' m')→J Tryz.prog 47 B (nav (bodyOf Tryz.f101) [1,0,1,0]) Q I [] [(0,vS p list c),(5,vS p list c),(6,vI (list.length:Int)),(7,vI t7)]:=by
 refine rO.partial_correctness list _ fun self ih t7 o N B I0 I Q p c H h hg ho hx hr=>yR hg ho<|yD [8] rfl<|zX<|yB N ?_ ?_
 · intro hc N;refine zS<|zX<|yG<|yF<|yH 1 [] [9] rfl<|bE N fun x hy N=>xS rfl rfl h hy ?_;intro ad ccs hat hrep;obtain ⟨p1,c1,rfl,h1⟩:=vZ hrep;refine xL 0 hat (cArr x p1 c1) (vA (cArr x p1 c1)) rfl<|uF [vT ([]),z0] ?_;intro b hb;refine yH 5 [] [3] rfl<|xQ 0 (cArr x p1 c1) rfl<|yE rfl<|zI<|zZ ?_;refine wP N [] (fun t42=>[(0,vS p list c),(5,vS p list c),(6,vI (list.length:Int)),(7,vI t7),(42,.bool t42)]) (fun o0 ho0=>?_) ?_
   · have H:=iS I;obtain ⟨y,hy1,N⟩:=zC ho0;cases hc1:(!y) with
     | true =>
      have hM0:=oX hc1 N;refine wX [.p (vP b 0) [],.p (vT x.Name.l) [0],.q (.bool y),.q vY,.q vY,.p undef [],.p undef [],.p undef [],.p undef [],.p undef [],.p undef [],.p undef [],.p undef [],.p undef [],.p undef [],.p undef [],.p undef [],.p undef [],.p vY [],.p vY [],.p undef [],.p undef [],.p undef [],.p undef [],.p undef [],.p vY [],.p vY [],.p undef [],.p undef [],.p undef [],.p vY []] [[],[(0,false)],[(1,false)],[(2,false)],[(3,false)],[(4,false)],[(4,false),(5,false)],[(4,false),(6,false)],[(7,false)],[(7,false)],[(7,false),(9,false)],[(7,false),(8,false),(10,false)],[(7,false),(11,false)],[(7,false),(12,false)],[(7,false)],[(7,false),(14,false)],[(7,false),(13,false),(15,false)],[(4,false),(7,false),(16,false)],[(4,false),(17,false)],[(18,false)],[(19,false)],[(19,false),(20,false)],[(19,false),(21,false)],[(19,false),(22,false)],[(19,false),(23,false)],[(19,false),(24,false)],[(25,false)],[(26,false)],[(26,false),(27,false)],[(26,false),(28,false)],[(26,false),(29,false)]] [hB b (cArr x p1 c1)] [] [(30,false)] (zY [0]) ?_ ?_
      · refine Op<|Op<|Oq ?_<|Oq ?_<|Oq ?_<|Op<|Op<|Op<|Op<|Op<|Op<|Op<|Op<|Op<|Op<|Op<|Op<|Op<|Op<|Op<|Op<|Op<|Op<|Op<|Op<|Op<|Op<|Op<|Op<|Op<|Op<|On
        · intro I1 hf le1;refine yS [13] rfl ?_;have H:=iS I1;refine uH (oN x.Name _ hy1 ) ?_;intro I01 le;have H:=H.trans le;exact xF H
        · intro I1 hf le1;refine yS [14] rfl<|oH 4 [(15,.bool (!y))] ?_;rw [hc1];exact xF iR
        intro I1 hf le1;exact eU [(15,vY)]<|oH 5 [(16,vY)]<|xF iR
      intro I02 le1;refine yS [0,5,6,7,42] rfl ?_;have H:=H.trans le1;exact yE rfl<|wA zP<|yO<|zV (ct hM0 H)
     | false =>
      have hM01:=pW hc1 N;cases hc2:(decide (t7 > 0)) with
      | true =>
       have hM02:=oX hc2 hM01;obtain ⟨x1,hy2,N⟩:=zC hM02;cases hc3:(!(Op.bytesLess x1.Name.l x.Name.l)) with
       | true =>
        have hM03:=oX hc3 N;refine wX [.p (vP b 0) [],.p (vT x.Name.l) [0],.q (.bool y),.q vF,.q vF,.p (vI t7) [],.q vY,.q vY,.p (vS p list c) [],.p (vI t7) [],.p (vI (W (t7 - 1))) [],.x (ePArr x1),.x (ePArr x1),.q (vT x1.Name.l),.p (vP b 0) [],.p (vT x.Name.l) [0],.q vY,.q vY,.q vY,.q vY,.p undef [],.p undef [],.p undef [],.p undef [],.p undef [],.p vY [],.p vY [],.p undef [],.p undef [],.p undef [],.p vY []] [[],[(0,false)],[(1,false)],[(2,false)],[(3,false)],[(4,false)],[(4,false),(5,false)],[(4,false),(6,false)],[(7,false)],[(7,false)],[(7,false),(9,false)],[(7,false),(8,false),(10,false)],[(7,false),(11,false)],[(7,false),(12,false)],[(7,false)],[(7,false),(14,false)],[(7,false),(13,false),(15,false)],[(4,false),(7,false),(16,false)],[(4,false),(17,false)],[(18,false)],[(19,false)],[(19,false),(20,false)],[(19,false),(21,false)],[(19,false),(22,false)],[(19,false),(23,false)],[(19,false),(24,false)],[(25,false)],[(26,false)],[(26,false),(27,false)],[(26,false),(28,false)],[(26,false),(29,false)]] [hB b (cArr x p1 c1)] [] [(30,false)] (zY [0]) ?_ ?_
        · refine Op<|Op<|Oq ?_<|Oq ?_<|Oq ?_<|Op<|Oq ?_<|Oq ?_<|Op<|Op<|Op<|Ox ?_<|Ox ?_<|Oq ?_<|Op<|Op<|Oq ?_<|Oq ?_<|Oq ?_<|Oq ?_<|Op<|Op<|Op<|Op<|Op<|Op<|Op<|Op<|Op<|Op<|Op<|On
          · intro I1 hf le1;refine yS [13] rfl ?_;have H:=iS I1;refine uH (oN x.Name _ hy1 ) ?_;intro I01 le;have H:=H.trans le;exact xF H
          · intro I1 hf le1;refine yS [14] rfl<|oH 4 [(15,.bool (!y))] ?_;rw [hc1];exact xF iR
          · intro I1 hf le1;exact eU [(15,vF)]<|oH 5 [(16,vF)]<|xF iR
          · intro I1 hf le1;refine yS [16,17] rfl<|oH 7 [(18,.bool (decide (t7 > 0)))] ?_;rw [hc2];exact xF iR
          · intro I1 hf le1;exact yS [16,18] rfl<|oH 8 [(19,vY)]<|xF iR
          · intro I1 hf le1;refine yS [19,20,22] rfl ?_;have h:=h.mono le1;refine xS rfl rfl h hy2 ?_;intro ad1 ccs1 hat1 hrep1;obtain ⟨p2,c2,rfl,h3⟩:=vZ hrep1;exact yK [] iR ⟨_,_,_,rfl,rfl,hat1,h3⟩
          · rintro I1 hf le1 _ _ ⟨rfl,rfl⟩ _ _ ⟨ad1,p2,c2,rfl,rfl,hat1,h3⟩;exact yS [19,23] rfl<|oH 13 [(24,.pointer (some ad1))]<|yK [] iR ⟨_,_,_,rfl,rfl,hat1,h3⟩
          · rintro I1 hf le1 _ _ ⟨rfl,rfl⟩ _ _ ⟨ad11,p21,c21,rfl,rfl,hat11,h31⟩;exact yS [19,24] rfl<|xL 0 hat11 [vT x1.Name.l] (vT x1.Name.l) rfl<|xF iR
          · intro I1 hf le1;refine yS [19,25,27] rfl<|oH 17 [(28,.bool (!(Op.bytesLess x1.Name.l x.Name.l)))] ?_;rw [hc3];exact xF iR
          · intro I1 hf le1;exact yS [16,19,28] rfl<|oH 18 [(29,vY)]<|xF iR
          · intro I1 hf le1;exact yS [16,29] rfl<|oH 19 [(30,vY)]<|xF iR
          intro I1 hf le1;exact eU [(30,vY)]<|oH 20 [(31,vY)]<|xF iR
        intro I03 le2;refine yS [0,5,6,7,42] rfl ?_;have H:=H.trans le2;exact yE rfl<|wA zP<|yO<|zV (ct hM03 H)
       | false =>
        have hM04:=pW hc3 N;obtain ⟨y1,hy3,N⟩:=zC hM04;cases hc4:(!y1) with
        | true =>
         have hM05:=oX hc4 N;refine wX [.p (vP b 0) [],.p (vT x.Name.l) [0],.q (.bool y),.q vF,.q vF,.p (vI t7) [],.q vY,.q vY,.p (vS p list c) [],.p (vI t7) [],.p (vI (W (t7 - 1))) [],.x (ePArr x1),.x (ePArr x1),.q (vT x1.Name.l),.p (vP b 0) [],.p (vT x.Name.l) [0],.q vF,.q vF,.q vF,.q vF,.p (vP b 1) [],.p (vS p1 x.Dims c1) [0],.p (vI (x.Dims.length:Int)) [],.q (.bool y1),.q vY,.q vY,.q vY,.p undef [],.p undef [],.p undef [],.p vY []] [[],[(0,false)],[(1,false)],[(2,false)],[(3,false)],[(4,false)],[(4,false),(5,false)],[(4,false),(6,false)],[(7,false)],[(7,false)],[(7,false),(9,false)],[(7,false),(8,false),(10,false)],[(7,false),(11,false)],[(7,false),(12,false)],[(7,false)],[(7,false),(14,false)],[(7,false),(13,false),(15,false)],[(4,false),(7,false),(16,false)],[(4,false),(17,false)],[(18,false)],[(19,false)],[(19,false),(20,false)],[(19,false),(21,false)],[(19,false),(22,false)],[(19,false),(23,false)],[(19,false),(24,false)],[(25,false)],[(26,false)],[(26,false),(27,false)],[(26,false),(28,false)],[(26,false),(29,false)]] [hB b (cArr x p1 c1)] [] [(30,false)] (zY [0]) ?_ ?_
         · refine Op<|Op<|Oq ?_<|Oq ?_<|Oq ?_<|Op<|Oq ?_<|Oq ?_<|Op<|Op<|Op<|Ox ?_<|Ox ?_<|Oq ?_<|Op<|Op<|Oq ?_<|Oq ?_<|Oq ?_<|Oq ?_<|Op<|Op<|Op<|Oq ?_<|Oq ?_<|Oq ?_<|Oq ?_<|Op<|Op<|Op<|Op<|On
           · intro I1 hf le1;refine yS [13] rfl ?_;have H:=iS I1;refine uH (oN x.Name _ hy1 ) ?_;intro I01 le;have H:=H.trans le;exact xF H
           · intro I1 hf le1;refine yS [14] rfl<|oH 4 [(15,.bool (!y))] ?_;rw [hc1];exact xF iR
           · intro I1 hf le1;exact eU [(15,vF)]<|oH 5 [(16,vF)]<|xF iR
           · intro I1 hf le1;refine yS [16,17] rfl<|oH 7 [(18,.bool (decide (t7 > 0)))] ?_;rw [hc2];exact xF iR
           · intro I1 hf le1;exact yS [16,18] rfl<|oH 8 [(19,vY)]<|xF iR
           · intro I1 hf le1;refine yS [19,20,22] rfl ?_;have h:=h.mono le1;refine xS rfl rfl h hy2 ?_;intro ad1 ccs1 hat1 hrep1;obtain ⟨p2,c2,rfl,h3⟩:=vZ hrep1;exact yK [] iR ⟨_,_,_,rfl,rfl,hat1,h3⟩
           · rintro I1 hf le1 _ _ ⟨rfl,rfl⟩ _ _ ⟨ad1,p2,c2,rfl,rfl,hat1,h3⟩;exact yS [19,23] rfl<|oH 13 [(24,.pointer (some ad1))]<|yK [] iR ⟨_,_,_,rfl,rfl,hat1,h3⟩
           · rintro I1 hf le1 _ _ ⟨rfl,rfl⟩ _ _ ⟨ad11,p21,c21,rfl,rfl,hat11,h31⟩;exact yS [19,24] rfl<|xL 0 hat11 [vT x1.Name.l] (vT x1.Name.l) rfl<|xF iR
           · intro I1 hf le1;refine yS [19,25,27] rfl<|oH 17 [(28,.bool (!(Op.bytesLess x1.Name.l x.Name.l)))] ?_;rw [hc3];exact xF iR
           · intro I1 hf le1;exact yS [16,19,28] rfl<|oH 18 [(29,vF)]<|xF iR
           · intro I1 hf le1;exact yS [16,29] rfl<|oH 19 [(30,vF)]<|xF iR
           · intro I1 hf le1;exact eU [(30,vF)]<|oH 20 [(31,vF)]<|xF iR
           · intro I1 hf le1;refine yS [31,34] rfl ?_;have H:=iS I1;refine uH (wO (x.Dims.length:Int) 1 2 _ hy3 ) ?_;intro I04 le3;have H:=H.trans le3;exact xF H
           · intro I1 hf le1;refine yS [31,35] rfl<|oH 25 [(36,.bool (!y1))] ?_;rw [hc4];exact xF iR
           · intro I1 hf le1;exact yS [31,36] rfl<|oH 26 [(37,vY)]<|xF iR
           intro I1 hf le1;exact eU [(37,vY)]<|oH 27 [(38,vY)]<|xF iR
         intro I05 le4;refine yS [0,5,6,7,42] rfl ?_;have H:=H.trans le4;exact yE rfl<|wA zP<|yO<|zV (ct hM05 H)
        | false =>
         have hM06:=pW hc4 N;obtain ⟨y2,hy4,N⟩:=zC hM06;refine wX [.p (vP b 0) [],.p (vT x.Name.l) [0],.q (.bool y),.q vF,.q vF,.p (vI t7) [],.q vY,.q vY,.p (vS p list c) [],.p (vI t7) [],.p (vI (W (t7 - 1))) [],.x (ePArr x1),.x (ePArr x1),.q (vT x1.Name.l),.p (vP b 0) [],.p (vT x.Name.l) [0],.q vF,.q vF,.q vF,.q vF,.p (vP b 1) [],.p (vS p1 x.Dims c1) [0],.p (vI (x.Dims.length:Int)) [],.q (.bool y1),.q vF,.q vF,.q vF,.p (vP b 1) [],.p (vS p1 x.Dims c1) [0],.q (.bool y2),.p (.bool y2) []] [[],[(0,false)],[(1,false)],[(2,false)],[(3,false)],[(4,false)],[(4,false),(5,false)],[(4,false),(6,false)],[(7,false)],[(7,false)],[(7,false),(9,false)],[(7,false),(8,false),(10,false)],[(7,false),(11,false)],[(7,false),(12,false)],[(7,false)],[(7,false),(14,false)],[(7,false),(13,false),(15,false)],[(4,false),(7,false),(16,false)],[(4,false),(17,false)],[(18,false)],[(19,false)],[(19,false),(20,false)],[(19,false),(21,false)],[(19,false),(22,false)],[(19,false),(23,false)],[(19,false),(24,false)],[(25,false)],[(26,false)],[(26,false),(27,false)],[(26,false),(28,false)],[(26,false),(29,false)]] [hB b (cArr x p1 c1)] [] [(30,false)] (zY [0]) ?_ ?_
         · refine Op<|Op<|Oq ?_<|Oq ?_<|Oq ?_<|Op<|Oq ?_<|Oq ?_<|Op<|Op<|Op<|Ox ?_<|Ox ?_<|Oq ?_<|Op<|Op<|Oq ?_<|Oq ?_<|Oq ?_<|Oq ?_<|Op<|Op<|Op<|Oq ?_<|Oq ?_<|Oq ?_<|Oq ?_<|Op<|Op<|Oq ?_<|Op<|On
           · intro I1 hf le1;refine yS [13] rfl ?_;have H:=iS I1;refine uH (oN x.Name _ hy1 ) ?_;intro I01 le;have H:=H.trans le;exact xF H
           · intro I1 hf le1;refine yS [14] rfl<|oH 4 [(15,.bool (!y))] ?_;rw [hc1];exact xF iR
           · intro I1 hf le1;exact eU [(15,vF)]<|oH 5 [(16,vF)]<|xF iR
           · intro I1 hf le1;refine yS [16,17] rfl<|oH 7 [(18,.bool (decide (t7 > 0)))] ?_;rw [hc2];exact xF iR
           · intro I1 hf le1;exact yS [16,18] rfl<|oH 8 [(19,vY)]<|xF iR
           · intro I1 hf le1;refine yS [19,20,22] rfl ?_;have h:=h.mono le1;refine xS rfl rfl h hy2 ?_;intro ad1 ccs1 hat1 hrep1;obtain ⟨p2,c2,rfl,h3⟩:=vZ hrep1;exact yK [] iR ⟨_,_,_,rfl,rfl,hat1,h3⟩
           · rintro I1 hf le1 _ _ ⟨rfl,rfl⟩ _ _ ⟨ad1,p2,c2,rfl,rfl,hat1,h3⟩;exact yS [19,23] rfl<|oH 13 [(24,.pointer (some ad1))]<|yK [] iR ⟨_,_,_,rfl,rfl,hat1,h3⟩
           · rintro I1 hf le1 _ _ ⟨rfl,rfl⟩ _ _ ⟨ad11,p21,c21,rfl,rfl,hat11,h31⟩;exact yS [19,24] rfl<|xL 0 hat11 [vT x1.Name.l] (vT x1.Name.l) rfl<|xF iR
           · intro I1 hf le1;refine yS [19,25,27] rfl<|oH 17 [(28,.bool (!(Op.bytesLess x1.Name.l x.Name.l)))] ?_;rw [hc3];exact xF iR
           · intro I1 hf le1;exact yS [16,19,28] rfl<|oH 18 [(29,vF)]<|xF iR
           · intro I1 hf le1;exact yS [16,29] rfl<|oH 19 [(30,vF)]<|xF iR
           · intro I1 hf le1;exact eU [(30,vF)]<|oH 20 [(31,vF)]<|xF iR
           · intro I1 hf le1;refine yS [31,34] rfl ?_;have H:=iS I1;refine uH (wO (x.Dims.length:Int) 1 2 _ hy3 ) ?_;intro I04 le3;have H:=H.trans le3;exact xF H
           · intro I1 hf le1;refine yS [31,35] rfl<|oH 25 [(36,.bool (!y1))] ?_;rw [hc4];exact xF iR
           · intro I1 hf le1;exact yS [31,36] rfl<|oH 26 [(37,vF)]<|xF iR
           · intro I1 hf le1;exact eU [(37,vF)]<|oH 27 [(38,vF)]<|xF iR
           intro I1 hf le1;refine yS [38,40] rfl ?_;have H:=iS I1;have ⟨h,h1⟩:=m2 le1 h h1;have hf0:FV1 Tryz.prog I1 [] (.func (.func 151) ⟨[]⟩ ⟨[]⟩) uZ:=by
             refine FV1.intro ?_;intro I1 le1 x0 r u0 hF k0;obtain rfl:=k0;exact (dL x0 r hF ).mono (by rintro k i hs u ⟨v0,rfl,rfl,h⟩; exact ⟨rfl,h⟩)
           refine xV (sM x.Dims uZ _ hy4 h1 hf0) ?_;rintro I06 hs2 v2 k2 le5 - ⟨v04,rfl,rfl,rfl⟩ -;have H:=H.trans le5;exact xF H
         intro I07 le6;refine yS [0,5,6,7,42] rfl ?_;have H:=H.trans le6;exact yE rfl<|wA zP<|yO<|zV (ct N H)
      | false =>
       have hM07:=pW hc2 hM01;obtain ⟨y3,hy5,N⟩:=zC hM07;cases hc5:(!y3) with
       | true =>
        have hM08:=oX hc5 N;refine wX [.p (vP b 0) [],.p (vT x.Name.l) [0],.q (.bool y),.q vF,.q vF,.p (vI t7) [],.q vF,.q vF,.p undef [],.p undef [],.p undef [],.p undef [],.p undef [],.p undef [],.p undef [],.p undef [],.p undef [],.p vF [],.p vF [],.p vF [],.p (vP b 1) [],.p (vS p1 x.Dims c1) [0],.p (vI (x.Dims.length:Int)) [],.q (.bool y3),.q vY,.q vY,.q vY,.p undef [],.p undef [],.p undef [],.p vY []] [[],[(0,false)],[(1,false)],[(2,false)],[(3,false)],[(4,false)],[(4,false),(5,false)],[(4,false),(6,false)],[(7,false)],[(7,false)],[(7,false),(9,false)],[(7,false),(8,false),(10,false)],[(7,false),(11,false)],[(7,false),(12,false)],[(7,false)],[(7,false),(14,false)],[(7,false),(13,false),(15,false)],[(4,false),(7,false),(16,false)],[(4,false),(17,false)],[(18,false)],[(19,false)],[(19,false),(20,false)],[(19,false),(21,false)],[(19,false),(22,false)],[(19,false),(23,false)],[(19,false),(24,false)],[(25,false)],[(26,false)],[(26,false),(27,false)],[(26,false),(28,false)],[(26,false),(29,false)]] [hB b (cArr x p1 c1)] [] [(30,false)] (zY [0]) ?_ ?_
        · refine Op<|Op<|Oq ?_<|Oq ?_<|Oq ?_<|Op<|Oq ?_<|Oq ?_<|Op<|Op<|Op<|Op<|Op<|Op<|Op<|Op<|Op<|Op<|Op<|Op<|Op<|Op<|Op<|Oq ?_<|Oq ?_<|Oq ?_<|Oq ?_<|Op<|Op<|Op<|Op<|On
          · intro I1 hf le1;refine yS [13] rfl ?_;have H:=iS I1;refine uH (oN x.Name _ hy1 ) ?_;intro I01 le;have H:=H.trans le;exact xF H
          · intro I1 hf le1;refine yS [14] rfl<|oH 4 [(15,.bool (!y))] ?_;rw [hc1];exact xF iR
          · intro I1 hf le1;exact eU [(15,vF)]<|oH 5 [(16,vF)]<|xF iR
          · intro I1 hf le1;refine yS [16,17] rfl<|oH 7 [(18,.bool (decide (t7 > 0)))] ?_;rw [hc2];exact xF iR
          · intro I1 hf le1;exact yS [16,18] rfl<|oH 8 [(19,vF)]<|xF iR
          · intro I1 hf le1;refine yS [31,34] rfl ?_;have H:=iS I1;refine uH (wO (x.Dims.length:Int) 1 2 _ hy5 ) ?_;intro I08 le7;have H:=H.trans le7;exact xF H
          · intro I1 hf le1;refine yS [31,35] rfl<|oH 25 [(36,.bool (!y3))] ?_;rw [hc5];exact xF iR
          · intro I1 hf le1;exact yS [31,36] rfl<|oH 26 [(37,vY)]<|xF iR
          intro I1 hf le1;exact eU [(37,vY)]<|oH 27 [(38,vY)]<|xF iR
        intro I09 le8;refine yS [0,5,6,7,42] rfl ?_;have H:=H.trans le8;exact yE rfl<|wA zP<|yO<|zV (ct hM08 H)
       | false =>
        have hM09:=pW hc5 N;obtain ⟨y4,hy6,N⟩:=zC hM09;refine wX [.p (vP b 0) [],.p (vT x.Name.l) [0],.q (.bool y),.q vF,.q vF,.p (vI t7) [],.q vF,.q vF,.p undef [],.p undef [],.p undef [],.p undef [],.p undef [],.p undef [],.p undef [],.p undef [],.p undef [],.p vF [],.p vF [],.p vF [],.p (vP b 1) [],.p (vS p1 x.Dims c1) [0],.p (vI (x.Dims.length:Int)) [],.q (.bool y3),.q vF,.q vF,.q vF,.p (vP b 1) [],.p (vS p1 x.Dims c1) [0],.q (.bool y4),.p (.bool y4) []] [[],[(0,false)],[(1,false)],[(2,false)],[(3,false)],[(4,false)],[(4,false),(5,false)],[(4,false),(6,false)],[(7,false)],[(7,false)],[(7,false),(9,false)],[(7,false),(8,false),(10,false)],[(7,false),(11,false)],[(7,false),(12,false)],[(7,false)],[(7,false),(14,false)],[(7,false),(13,false),(15,false)],[(4,false),(7,false),(16,false)],[(4,false),(17,false)],[(18,false)],[(19,false)],[(19,false),(20,false)],[(19,false),(21,false)],[(19,false),(22,false)],[(19,false),(23,false)],[(19,false),(24,false)],[(25,false)],[(26,false)],[(26,false),(27,false)],[(26,false),(28,false)],[(26,false),(29,false)]] [hB b (cArr x p1 c1)] [] [(30,false)] (zY [0]) ?_ ?_
        · refine Op<|Op<|Oq ?_<|Oq ?_<|Oq ?_<|Op<|Oq ?_<|Oq ?_<|Op<|Op<|Op<|Op<|Op<|Op<|Op<|Op<|Op<|Op<|Op<|Op<|Op<|Op<|Op<|Oq ?_<|Oq ?_<|Oq ?_<|Oq ?_<|Op<|Op<|Oq ?_<|Op<|On
          · intro I1 hf le1;refine yS [13] rfl ?_;have H:=iS I1;refine uH (oN x.Name _ hy1 ) ?_;intro I01 le;have H:=H.trans le;exact xF H
          · intro I1 hf le1;refine yS [14] rfl<|oH 4 [(15,.bool (!y))] ?_;rw [hc1];exact xF iR
          · intro I1 hf le1;exact eU [(15,vF)]<|oH 5 [(16,vF)]<|xF iR
          · intro I1 hf le1;refine yS [16,17] rfl<|oH 7 [(18,.bool (decide (t7 > 0)))] ?_;rw [hc2];exact xF iR
          · intro I1 hf le1;exact yS [16,18] rfl<|oH 8 [(19,vF)]<|xF iR
          · intro I1 hf le1;refine yS [31,34] rfl ?_;have H:=iS I1;refine uH (wO (x.Dims.length:Int) 1 2 _ hy5 ) ?_;intro I08 le7;have H:=H.trans le7;exact xF H
          · intro I1 hf le1;refine yS [31,35] rfl<|oH 25 [(36,.bool (!y3))] ?_;rw [hc5];exact xF iR
          · intro I1 hf le1;exact yS [31,36] rfl<|oH 26 [(37,vF)]<|xF iR
          · intro I1 hf le1;exact eU [(37,vF)]<|oH 27 [(38,vF)]<|xF iR
          intro I1 hf le1;refine yS [38,40] rfl ?_;have H:=iS I1;have ⟨h,h1⟩:=m2 le1 h h1;have hf01:FV1 Tryz.prog I1 [] (.func (.func 151) ⟨[]⟩ ⟨[]⟩) uZ:=by
            refine FV1.intro ?_;intro I1 le1 x0 r u0 hF k0;obtain rfl:=k0;exact (dL x0 r hF ).mono (by rintro k i hs u ⟨v0,rfl,rfl,h⟩; exact ⟨rfl,h⟩)
          refine xV (sM x.Dims uZ _ hy6 h1 hf01) ?_;rintro I010 hs2 v2 k2 le9 - ⟨v06,rfl,rfl,rfl⟩ -;have H:=H.trans le9;exact xF H
        intro I011 le10;refine yS [0,5,6,7,42] rfl ?_;have H:=H.trans le10;exact yE rfl<|wA zP<|yO<|zV (ct N H)
   intro t42 I0 le11 hMc;have ⟨h,H⟩:=m2 le11 h H;refine zI<|yB hMc ?_ ?_
   · intro hc6 N;exact wV [(2,vF)]<|xB<|zU<|zF<|zF<|hr _ _ _ _ (zB N).symm H ⟨_,_,(.tmp rfl ResV.nil),zP,⟨_,rfl,rfl,rfl⟩⟩
   intro hc6 N;exact zS<|zO<|zI<|zL<|yJ [] [7] rfl<|yQ<|nO<|ih (W (t7 + 1)) _ N H h hg ho hx hr
 intro hc N;exact wY<|yO<|hx _  (zB N).symm H
def kU (list:(List zH)):Option (Bool):=do
 match←rO list 0 with
 | .ret r0=>pure r0
 | .done _ =>
  pure (decide ((list.length:Int) ≤ 4))
theorem zES:∀ list r,kU list=some r→∀ {I:Imm}{p c},(S4 I p list c)→RT 101 [vS p list c] I [] (zT  r):=by
 intro list r N I p c h;unfold kU at N;refine yL Tryz.func101 fun B=>wV []<|zX<|yD [5,6,7] rfl<|wB<|qW [(0,vS p list c),(5,vS p list c),(6,vI (list.length:Int)),(7,vI 0)] ?_;obtain ⟨o01,ho01,hMl⟩:=zC N;refine zCD list 0 o01 ho01 iR h (fun _ _ _ h=>h) (fun _ _ h=>h) ?_ ?_
 · intro I012  heq1 le12;subst o01;refine zR<|wW [2] rfl<|zI<|yZ ?_;obtain rfl:=zB hMl;exact wL
 intro r0 I9 hs9 m9 heq9 le9 hrs9;subst heq9;refine zU<|zF ?_;obtain rfl:=zB hMl;exact xC hrs9
def rJ (hsF:List HA) (r:Int):KT:=fun kk I' hs' v=>
  ∃ v0,hsF=hs'∧v=tupV [v0]∧v0=.int .i64 r
def yX (s:(List zA)) (f0:(zA→Option Bool)) (t8:Int):Option (Out Unit (Int)):=do
 if (decide (t8 < (s.length:Int))) then
  let x←idx s t8
  let y←f0 x
  if y then
   pure (.ret t8)
  else
   yX s f0 (W (t8 + 1))
 else
  pure (.done ())
 partial_fixpoint
theorem mO (s:(List zA)) (f0:(zA→Option Bool)):∀ (t8:Int) (o:Out Unit (Int)),yX s f0 t8=some o→∀ {B}{I0 I:Imm}{Q p c}{fv:Value}{hsF:List HA},I0.le I→(S4 I p s c)→(FV1 Tryz.prog I hsF fv f0)→NG Q→NO Q→(∀ (I':Imm) ,o=(.done ())→I0.le I'→T 19 B Q (.exit 0) I' hsF [])→(∀ r I' hs' m',o=(.ret r)→I0.le I'→RS Tryz.prog Tryz.f239 B (rJ hsF r) I' hs' m'→T 19 B Q .ret I' hs' m')→J Tryz.prog 19 B (nav (bodyOf Tryz.f239) [1,0,1,0]) Q I hsF [(0,vS p s c),(1,fv),(7,vI (s.length:Int)),(8,vI t8)]:=by
 refine yX.partial_correctness s f0 _ fun self ih t8 o N B I0 I Q p c fv hsF H h h1 hg ho hx hr=>yR hg ho<|yD [9] rfl<|zX<|yB N ?_ ?_
 · intro hc N;refine zS<|zX<|yG<|yD [5] rfl<|xG<|yH 3 [] [11,12,13] rfl<|bE N fun x hy N=>xS rfl rfl h hy ?_;intro ad ccs hat hrep;obtain ⟨p1,c1,rfl,h2⟩:=yN hrep;refine xL 0 hat (cAff x p1 c1) (vA (cAff x p1 c1)) rfl<|bE N fun y hy1 N=>zJI rfl rfl h1 hy1 ⟨_,rfl,(yM ⟨_,rfl,h2⟩)⟩ (List.append_nil _).symm ?_;rintro I0 v01 le rfl;refine uG (hs':=hsF) (List.append_nil _) ?_;have ⟨h,h1,H⟩:=m3 le h h1 H;refine yE rfl<|zI<|yB N ?_ ?_
   · intro hc1 N;exact yD [4] rfl<|xB<|zU<|zF<|zF<|hr _ _ _ _ (zB N).symm H ⟨_,_,(.tmp rfl ResV.nil),(fun _ h=>h),⟨_,rfl,rfl,rfl⟩⟩
   intro hc1 N;exact zS<|zO<|zI<|zL<|yJ [] [8] rfl<|yQ<|nO<|ih (W (t8 + 1)) _ N H h h1 hg ho hx hr
 intro hc N;exact wY<|yO<|hx _  (zB N).symm H
def wQ (s:(List zA)) (f0:(zA→Option Bool)):Option (Int):=do
 match←yX s f0 0 with
 | .ret r0=>pure r0
 | .done _ =>
  pure (-1)
theorem kG:∀ s f0 r,wQ s f0=some r→∀ {I:Imm}{p c}{fv:Value}{hsF:List HA},(S4 I p s c)→(FV1 Tryz.prog I hsF fv f0)→RT 239 [vS p s c,fv] I hsF (rJ hsF r):=by
 intro s f0 r N I p c fv hsF h h1;unfold wQ at N;refine yL Tryz.func239 fun B=>wV []<|zX<|yD [7,8] rfl<|wB<|qW [(0,vS p s c),(1,fv),(7,vI (s.length:Int)),(8,vI 0)] ?_;obtain ⟨o0,ho0,hMl⟩:=zC N;refine mO s f0 0 o0 ho0 iR h h1 (fun _ _ _ h=>h) (fun _ _ h=>h) ?_ ?_
 · intro I01  heq le1;subst o0;refine zR<|wW [4] rfl<|zI<|yZ ?_;obtain rfl:=zB hMl;exact xC ⟨_,_,(.tmp rfl ResV.nil),(fun _ h=>h),⟨_,rfl,rfl,rfl⟩⟩
 intro r0 I9 hs9 m9 heq9 le9 hrs9;subst heq9;refine zU<|zF ?_;obtain rfl:=zB hMl;exact xC hrs9
def nP (hsF:List HA) (r:Bool):KT:=fun kk I' hs' v=>
  ∃ v0,hsF=hs'∧v=tupV [v0]∧v0=.bool r
def xI (s:(List zA)) (f0:(zA→Option Bool)):Option (Bool):=do
 let y←wQ s f0
 pure (decide (y ≥ 0))
theorem rE:∀ s f0 r,xI s f0=some r→∀ {I:Imm}{p c}{fv:Value}{hsF:List HA},(S4 I p s c)→(FV1 Tryz.prog I hsF fv f0)→RT 196 [vS p s c,fv] I hsF (nP hsF r):=by
 intro s f0 r N I p c fv hsF h h1;unfold xI at N;refine yL Tryz.func196 fun B=>wV []<|xG<|yH 2 [] [5,6] rfl<|bE N fun y hy N=>zDq (hs1:=hsF) (rest:=[]) rfl rfl rfl rfl (by kernel_rfl) rfl (List.append_nil _).symm (kG s f0 _ hy h h1) ?_;rintro I0 hs2 v2 k2 le - ⟨v0,rfl,rfl,rfl⟩ -;refine uG (hs':=hsF) (List.append_nil _) ?_;refine yJ [] [4] rfl<|zI<|yZ ?_;obtain rfl:=zB N;exact xC ⟨_,_,(.tmp rfl ResV.nil),(fun _ h=>h),⟨_,rfl,rfl,rfl⟩⟩
def fC (n0:Int):Option (Bool):=do
 let y←wE n0 (-99) 99
 pure (id y)
theorem zEv:∀ n0 r,fC n0=some r→∀ {I:Imm} ,RT 240 [vI n0] I [] (zT  r):=by
 intro n0 r N I;unfold fC at N;refine yL Tryz.func240 fun B=>wV []<|xG<|yH 1 [] [3] rfl<|bE N fun y hy N=>uH (wO n0 (-99) 99 _ hy ) fun I0 le=>yJ [] [2] rfl<|zI<|yZ ?_;obtain rfl:=zB N;exact wL
def sC (c:Int):Option (Bool):=do
 let y←wE c (-9) 9
 pure (!y)
theorem zBP:∀ c r,sC c=some r→∀ {I:Imm} ,RT 241 [vI c] I [] (zT  r):=by
 intro c r N I;unfold sC at N;refine yL Tryz.func241 fun B=>wV []<|xG<|yH 1 [] [3] rfl<|bE N fun y hy N=>uH (wO c (-9) 9 _ hy ) fun I0 le=>yJ [] [2] rfl<|zI<|yZ ?_;obtain rfl:=zB N;exact wL
def rP (a0:zA):Option (Bool):=do
 let t2←(do
   if ((a0.Coefs.length:Int) == 4) then
    let y←fC a0.Const
    if y then
     let y1←xK a0.Coefs sC
     pure (!y1)
    else
     pure false
   else
    pure false
     : Option Bool)
 pure (id t2)
theorem oV:∀ a0 r,rP a0=some r→∀ {I:Imm}{p c},(S4 I p a0.Coefs c)→RT 198 [vA (cAff a0 p c)] I [] (zT  r):=by
 intro a0 r N I p c h;unfold rP at N;refine yL Tryz.func198 fun B=>?_;have H:=iS I;refine yF<|tX (cAff a0 p c) ?_;intro b hb;refine vG [] []<|zI<|zZ ?_;refine wP N [] (fun t2=>[(2,.bool t2)]) (fun o0 ho0=>?_) ?_
 · have H:=iS I;refine zL<|yH 5 [0] [7] rfl<|xZ [7] ho0 ?_ ?_
   · intro hc N;refine yH 7 [0] [9] rfl<|bE N fun y hy N=>uH (zEv a0.Const _ hy ) ?_;intro I01 le;have ⟨h,H⟩:=m2 le h H;refine yH 10 [] [12] rfl<|xZ [12] N ?_ ?_
     · intro hc1 N;refine yH 12 [0] [14] rfl ?_;have hf0:FV1 Tryz.prog I01 [] (.func (.func 241) ⟨[]⟩ ⟨[]⟩) sC:=by
         refine FV1.intro ?_;intro I1 le1 x0 r u0 hF k0;obtain rfl:=k0;exact (zBP x0 r hF ).mono (by rintro k i hs u ⟨v0,rfl,rfl,h⟩; exact ⟨rfl,h⟩)
       obtain ⟨y1,hy1,N⟩:=zC N;refine xV (sM a0.Coefs sC _ hy1 h hf0) ?_;rintro I02 hs2 v2 k2 le1 - ⟨v01,rfl,rfl,rfl⟩ -;have H:=H.trans le1;exact yJ [] [2] rfl<|wA zP<|yO<|zV (ct N H)
     intro hc1 N;exact vG [] [(2,vF)]<|wA zP<|yO<|zV (ct N H)
   intro hc N;exact vG [] [(2,vF)]<|wA zP<|yO<|zV (ct N H)
 intro t2 I0 le2 hMc;refine zI<|yZ ?_;obtain rfl:=zB hMc;exact wL
def tF (a0:zA) (n0:Int):Option (Int):=do
 let t17←(do
   if (decide (n0 > 0)) then
    let x←idx a0.Coefs (W (n0 - 1))
    pure (x == 0)
   else
    pure false
     : Option Bool)
 if t17 then
  tF a0 (W (n0 - 1))
 else
  pure (id n0)
 partial_fixpoint
theorem zA9 (a0:zA):∀ (n0:Int) (o:Int),tF a0 n0=some o→∀ {B}{I0 I:Imm}{Q p c}{b:Nat},I0.le I→(S4 I p a0.Coefs c)→NG Q→NO Q→(∀ (I':Imm) (n01:Int),o=n01→I0.le I'→T 21 B Q (.exit 0) I' [] [(3,vI n01)])→J Tryz.prog 21 B (nav (bodyOf Tryz.f199) [1,1,0,0]) Q I [hB b (cAff a0 p c)] [(1,vP b 0),(3,vI n0)]:=by
 refine tF.partial_correctness a0 _ fun self ih n0 o N B I0 I Q p c b H h hg ho hx=>yR hg ho<|zZ<|zZ ?_;refine wP N [hB b (cAff a0 p c)] (fun t17=>[(1,vP b 0),(3,vI n0),(17,.bool t17)]) (fun o0 ho0=>?_) ?_
 · have H:=iS I;refine zL<|yH 3 [] [9] rfl<|xZ [9] ho0 ?_ ?_
   · intro hc N;refine yH 7 [0] [11,13] rfl<|bE N fun x hy N=>xS rfl rfl h hy ?_;intro ad ccs hat hrep;obtain rfl:=hrep;exact xL 0 hat [vI x] (vI x) rfl<|yJ [] [17] rfl<|yO<|zV (ct N H)
   intro hc N;exact vG [] [(17,vF)]<|yO<|zV (ct N H)
 intro t17 I0 le hMc;have ⟨h,H⟩:=m2 le h H;refine zI<|yB hMc ?_ ?_
 · intro hc1 N;exact zS<|wB<|zL<|yJ [] [3] rfl<|zO<|yQ<|nO<|ih (W (n0 - 1)) _ N H h hg ho hx
 intro hc1 N;exact wY<|wA zP<|yO<|hx _ _ (zB N).symm H
def sT (a0:zA):Option (Int):=do
 let n01←tF a0 (a0.Coefs.length:Int)
 pure (id n01)
theorem jK:∀ a0 r,sT a0=some r→∀ {I:Imm}{p c},(S4 I p a0.Coefs c)→RT 199 [vA (cAff a0 p c)] I [] (yP  r):=by
 intro a0 r N I p c h;unfold sT at N;refine yL Tryz.func199 fun B=>yF<|tX (cAff a0 p c) ?_;intro b hb;refine vG [] []<|xG<|yJ [0] [3] rfl<|zX<|yG<|qW [(1,vP b 0),(3,vI (a0.Coefs.length:Int))] ?_;obtain ⟨o01,ho01,hMl⟩:=zC N;refine zA9 a0 (a0.Coefs.length:Int) o01 ho01 iR h (fun _ _ _ h=>h) (fun _ _ h=>h) ?_;intro I01 n01 heq1 le1;subst o01;refine zR<|wW [2] rfl<|zI<|yZ ?_;obtain rfl:=zB hMl;exact wL
def sY (a0:zA) (x:Int):Option (Bool):=do
 let t3←(do
   let y←rP a0
   if (!y) then
    pure true
   else
    let y1←sT a0
    pure (decide (y1 > x))
     : Option Bool)
 pure (id t3)
theorem zCc:∀ a0 x r,sY a0 x=some r→∀ {I:Imm}{p c}{ad:Addr},(S4 I p a0.Coefs c)→(At I ad [vI x])→RT 238 [vA (cAff a0 p c),.pointer (some ad)] I [] (zT  r):=by
 intro a0 x r N I p c ad h hat;unfold sY at N;refine yL Tryz.func238 fun B=>?_;have H:=iS I;refine yF<|tX (cAff a0 p c) ?_;intro b hb;refine vG [] []<|zI<|zZ ?_;refine wP N [] (fun t3=>[(3,.bool t3)]) (fun o0 ho0=>?_) ?_
 · have H:=iS I;obtain ⟨y,hy,N⟩:=zC ho0;cases hc:(!y) with
   | true =>
    have hM0:=oX hc N;refine wX [.p (vA (cAff a0 p c)) [0],.q (.bool y),.q vY,.q vY,.p undef [],.p undef [],.p undef [],.p undef [],.p vY []] [[],[(0,false)],[(1,false)],[(2,false)],[(3,false)],[(3,false),(4,false)],[(3,false)],[(3,false),(5,false),(6,false)],[(3,false),(7,false)]] [hB b (cAff a0 p c)] [] [(8,false)] (zY [0]) ?_ ?_
    · refine Op<|Oq ?_<|Oq ?_<|Oq ?_<|Op<|Op<|Op<|Op<|Op<|On
      · intro I1 hf le1;refine yS [4] rfl ?_;have H:=iS I1;have h:=h.mono le1;refine uH (oV a0 _ hy h) ?_;intro I01 le;have H:=H.trans le;exact xF H
      · intro I1 hf le1;refine yS [5] rfl<|oH 3 [(6,.bool (!y))] ?_;rw [hc];exact xF iR
      intro I1 hf le1;exact eU [(6,vY)]<|oH 4 [(7,vY)]<|xF iR
    intro I02 le1;refine eU [(12,vY)] ?_;have H:=H.trans le1;exact vG [] [(3,vY)]<|wA zP<|yO<|zV (ct hM0 H)
   | false =>
    have hM01:=pW hc N;obtain ⟨y1,hy1,N⟩:=zC hM01;refine wX [.p (vA (cAff a0 p c)) [0],.q (.bool y),.q vF,.q vF,.p (vA (cAff a0 p c)) [0],.q (vI y1),.q (vI x),.p (.bool (decide (y1 > x))) [],.p (.bool (decide (y1 > x))) []] [[],[(0,false)],[(1,false)],[(2,false)],[(3,false)],[(3,false),(4,false)],[(3,false)],[(3,false),(5,false),(6,false)],[(3,false),(7,false)]] [hB b (cAff a0 p c)] [] [(8,false)] (zY [0]) ?_ ?_
    · refine Op<|Oq ?_<|Oq ?_<|Oq ?_<|Op<|Oq ?_<|Oq ?_<|Op<|Op<|On
      · intro I1 hf le1;refine yS [4] rfl ?_;have H:=iS I1;have h:=h.mono le1;refine uH (oV a0 _ hy h) ?_;intro I01 le;have H:=H.trans le;exact xF H
      · intro I1 hf le1;refine yS [5] rfl<|oH 3 [(6,.bool (!y))] ?_;rw [hc];exact xF iR
      · intro I1 hf le1;exact eU [(6,vF)]<|oH 4 [(7,vF)]<|xF iR
      · intro I1 hf le1;refine yS [7,8] rfl ?_;have H:=iS I1;have h:=h.mono le1;refine jD (jK a0 _ hy1 h) ?_;intro I03 le2;have H:=H.trans le2;exact xF H
      intro I1 hf le1;refine yS [1,7] rfl ?_;have hat:=hat.mono le1;exact xL 0 hat [vI x] (vI x) rfl<|xF iR
    intro I04 le3;refine yS [12] rfl ?_;have H:=H.trans le3;exact yJ [] [3] rfl<|wA zP<|yO<|zV (ct N H)
 intro t3 I0 le4 hMc;refine zI<|yZ ?_;obtain rfl:=zB hMc;exact wL
def nU (list:(List zA)) (depth:Int):Option (Bool):=do
 let t4←(do
   let y←wE (list.length:Int) 1 2
   if y then
    let y1←xI list (fun x0=>sY x0 depth)
    pure (!y1)
   else
    pure false
     : Option Bool)
 pure (id t4)
theorem zAa:∀ list depth r,nU list depth=some r→∀ {I:Imm}{p c},(S4 I p list c)→RT 194 [vS p list c,vI depth] I [] (zT  r):=by
 intro list depth r N I p c h;unfold nU at N;refine yL Tryz.func194 fun B=>?_;have H:=iS I;refine yF<|tX [vI depth] ?_;intro b hb;refine xM 0 rfl ?_;intro I0 le hl0;have hat:At I0 ⟨b,0,none⟩ [vI depth]:=At.of_blk hl0;have ⟨h,H⟩:=m2 le h H;refine vG [] []<|zI<|zZ ?_;refine wP N [] (fun t4=>[(4,.bool t4)]) (fun o0 ho0=>?_) ?_
 · have H:=iS I0;refine zL<|yH 2 [] [6] rfl ?_;obtain ⟨y,hy,N⟩:=zC ho0;refine uH (wO (list.length:Int) 1 2 _ hy ) ?_;intro I02 le1;have ⟨h,hat,H⟩:=m3 le1 h hat H;refine yH 4 [] [8] rfl<|xZ [8] N ?_ ?_
   · intro hc N;refine yH 6 [] [9,10] rfl ?_;have hf0:FV1 Tryz.prog I02 [] (.func (.func 238) ⟨[]⟩ ⟨[vP b 0]⟩) (fun x0=>sY x0 depth):=by
       refine FV1.intro ?_;intro I1 le1 x0 r u0 hF k0;obtain ⟨_,rfl,k0⟩:=k0;obtain ⟨p1,c1,rfl,h2⟩:=yN k0;exact (zCc x0 depth r hF h2 (hat.mono le1)).mono (by rintro k i hs u ⟨v0,rfl,rfl,h⟩; exact ⟨rfl,h⟩)
     obtain ⟨y1,hy1,N⟩:=zC N;refine xV (rE list (fun x0=>sY x0 depth) _ hy1 h hf0) ?_;rintro I03 hs2 v2 k2 le2 - ⟨v02,rfl,rfl,rfl⟩ -;have H:=H.trans le2;exact yJ [] [4] rfl<|yO<|zV (ct N H)
   intro hc N;exact vG [] [(4,vF)]<|yO<|zV (ct N H)
 intro t4 I01 le3 hMc;refine zI<|yZ ?_;obtain rfl:=zB hMc;exact wL
def sU (nest:(List zD)) (t7:Int):Option (Out Unit (Bool)):=do
 if (decide (t7 < (nest.length:Int))) then
  let x←idx nest t7
  let t23←(do
    let y←nU x.Lo t7
    if (!y) then
     pure true
    else
     let y1←nU x.Hi t7
     pure (!y1)
      : Option Bool)
  if t23 then
   pure (.ret false)
  else
   sU nest (W (t7 + 1))
 else
  pure (.done ())
 partial_fixpoint
theorem zBb (nest:(List zD)):∀ (t7:Int) (o:Out Unit (Bool)),sU nest t7=some o→∀ {B}{I0 I:Imm}{Q p c},I0.le I→(S4 I p nest c)→NG Q→NO Q→(∀ (I':Imm) ,o=(.done ())→I0.le I'→T 28 B Q (.exit 0) I' [] [(0,vS p nest c)])→(∀ r I' hs' m',o=(.ret r)→I0.le I'→RS Tryz.prog Tryz.f152 B (zT  r) I' hs' m'→T 28 B Q .ret I' hs' m')→J Tryz.prog 28 B (nav (bodyOf Tryz.f152) [1,0,1,0]) Q I [] [(0,vS p nest c),(5,vS p nest c),(6,vI (nest.length:Int)),(7,vI t7)]:=by
 refine sU.partial_correctness nest _ fun self ih t7 o N B I0 I Q p c H h hg ho hx hr=>yR hg ho<|yD [8] rfl<|zX<|yB N ?_ ?_
 · intro hc N;refine zS<|zX<|yG<|yF<|yH 1 [] [9] rfl<|bE N fun x hy N=>xS rfl rfl h hy ?_;intro ad ccs hat hrep;obtain ⟨p1,c1,p2,c2,rfl,h1,h2⟩:=rH hrep;refine xL 0 hat (cLoop x p1 c1 p2 c2) (vA (cLoop x p1 c1 p2 c2)) rfl<|uF zTwo ?_;intro b hb;refine yH 5 [] [3] rfl<|xQ 0 (cLoop x p1 c1 p2 c2) rfl<|yE rfl<|zI<|zZ ?_;refine wP N [] (fun t23=>[(0,vS p nest c),(5,vS p nest c),(6,vI (nest.length:Int)),(7,vI t7),(23,.bool t23)]) (fun o0 ho0=>?_) ?_
   · have H:=iS I;refine zL<|yH 3 [0] [13,14] rfl ?_;obtain ⟨y,hy1,N⟩:=zC ho0;refine uH (zAa x.Lo t7 _ hy1 h1) ?_;intro I01 le;have ⟨h2,H⟩:=m2 le h2 H;refine yH 6 [] [17] rfl<|xZ [17] N ?_ ?_
     · intro hc1 N;exact vG [] [(23,vY)]<|wA zP<|yO<|zV (ct N H)
     intro hc1 N;refine yH 9 [0] [19,20] rfl<|bE N fun y1 hy2 N=>uH (zAa x.Hi t7 _ hy2 h2) ?_;intro I02 le1;have H:=H.trans le1;exact yJ [] [23] rfl<|wA zP<|yO<|zV (ct N H)
   intro t23 I0 le2 hMc;have ⟨h,H⟩:=m2 le2 h H;refine zI<|yB hMc ?_ ?_
   · intro hc2 N;exact wV [(2,vF)]<|xB<|zU<|zF<|zF<|hr _ _ _ _ (zB N).symm H ⟨_,_,(.tmp rfl ResV.nil),zP,⟨_,rfl,rfl,rfl⟩⟩
   intro hc2 N;exact zS<|zO<|zI<|zL<|yJ [] [7] rfl<|yQ<|nO<|ih (W (t7 + 1)) _ N H h hg ho hx hr
 intro hc N;exact wY<|yO<|hx _  (zB N).symm H
def kA (nest:(List zD)):Option (Bool):=do
 match←sU nest 0 with
 | .ret r0=>pure r0
 | .done _ =>
  pure (decide ((nest.length:Int) ≤ 4))
theorem zD6:∀ nest r,kA nest=some r→∀ {I:Imm}{p c},(S4 I p nest c)→RT 152 [vS p nest c] I [] (zT  r):=by
 intro nest r N I p c h;unfold kA at N;refine yL Tryz.func152 fun B=>wV []<|zX<|yD [5,6,7] rfl<|wB<|qW [(0,vS p nest c),(5,vS p nest c),(6,vI (nest.length:Int)),(7,vI 0)] ?_;obtain ⟨o01,ho01,hMl⟩:=zC N;refine zBb nest 0 o01 ho01 iR h (fun _ _ _ h=>h) (fun _ _ h=>h) ?_ ?_
 · intro I03  heq1 le3;subst o01;refine zR<|wW [2] rfl<|zI<|yZ ?_;obtain rfl:=zB hMl;exact wL
 intro r0 I9 hs9 m9 heq9 le9 hrs9;subst heq9;refine zU<|zF ?_;obtain rfl:=zB hMl;exact xC hrs9
def dS (r:List Int):KT:=fun kk I' hs' v=>
  ∃ a0 c0 s0,hs'=[.osl (.slice a0 r.length c0) (Rp.sz Int) s0]∧v=tupV [(.slice a0 r.length c0)]∧RepL (Rp.rep I') (Rp.sz Int) s0 r
def sN (s:List Int):Option (List Int):=app 8 ([]:List Int) s
theorem kC:∀ s r,sN s=some r→∀ {I:Imm}{p c},SL I (vS p s c) s→RT 108 [vS p s c] I [] (dS r):=by
 intro s r N I p c h;unfold sN at N;obtain ⟨ccs,k0,k01⟩:=h;refine yL Tryz.func108 fun B=>?_;cases p with
 | none =>
  have hs:s=[]:=by
    rcases k0 with ⟨hv,rfl⟩ | ⟨b0,off,len,cap,cc,hv,k2⟩
    · cases s with
      | nil=>rfl
      | cons _ _=>simp at hv
    simp at hv
  subst hs;obtain ⟨_,rfl⟩:=zAW N;refine yD [0,2] rfl<|zX<|yF<|yH 1 [] [3] rfl<|zMm true rfl rfl ?_ rfl;exact vG [] [(4,vY)]<|zI<|zBU rfl<|wV [(2,z0)]<|xB<|zF<|wA (zBW (Rp.sz Int))<|xC ⟨_,_,(.tmp rfl ResV.nil),(zW [0] rfl (by decide)),⟨none,0,[],rfl,rfl,rfl⟩⟩
 | some ad =>
  refine yD [0,2] rfl<|zX<|yF<|yH 1 [] [3] rfl<|zMm false rfl rfl ?_ rfl;refine yJ [] [0,4] rfl<|zI<|eT rfl<|zS<|xG<|tJ [] Int ?_;intro b2 hb2;have h1:RL I [] ([]:List Int):=rfl;exact yH 2 [] [6] rfl<|qB 3 1 0 rfl rfl rfl h1 (.inl k0) k01 N fun p1 c1 cs h2=>yJ [] [2] rfl<|xB<|xC ⟨_,_,(.tmp rfl ResV.nil),(zW [0] rfl (by decide)),⟨_,_,_,rfl,rfl,h2⟩⟩
def tT (a0:zA) (point:(List Int)) (sum:Int) (t12:Int):Option (Int):=do
 if (decide (t12 < (point.length:Int))) then
  let x←idx point t12
  let x1←idx a0.Coefs t12
  tT a0 point (W (sum + (W (x1 * x)))) (W (t12 + 1))
 else
  pure (id sum)
 partial_fixpoint
theorem zAq (a0:zA) (point:(List Int)):∀ (sum:Int) (t12:Int) (o:Int),tT a0 point sum t12=some o→∀ {B}{I0 I:Imm}{Q p c p1 c1}{b:Nat},I0.le I→(S4 I p1 point c1)→(S4 I p a0.Coefs c)→NG Q→NO Q→(∀ (I':Imm) (sum1:Int),o=sum1→I0.le I'→T 28 B Q (.exit 0) I' [] [(5,vI sum1)])→J Tryz.prog 28 B (nav (bodyOf Tryz.f204) [1,1,0,1,0]) Q I [hB b (cAff a0 p c)] [(2,vP b 0),(5,vI sum),(10,vS p1 point c1),(11,vI (point.length:Int)),(12,vI t12)]:=by
 refine tT.partial_correctness a0 point _ fun self ih sum t12 o N B I0 I Q p c p1 c1 b H h1 h hg ho hx=>yR hg ho<|yD [13] rfl<|zX<|yB N ?_ ?_
 · intro hc N;refine zS<|zX<|yG<|yF<|yH 1 [] [14] rfl<|bE N fun x hy N=>xS rfl rfl h1 hy ?_;intro ad ccs hat hrep;obtain rfl:=hrep;refine xL 0 hat [vI x] (vI x) rfl<|yJ [] [6,7] rfl<|zI<|zL<|yH 4 [0] [17,19,20] rfl<|bE N fun x1 hy1 N=>xS rfl rfl h hy1 ?_;intro ad1 ccs1 hat1 hrep1;obtain rfl:=hrep1;exact xL 0 hat1 [vI x1] (vI x1) rfl<|yJ [] [5] rfl<|zO<|zI<|zL<|yJ [] [12] rfl<|yQ<|nO<|ih (W (sum + (W (x1 * x)))) (W (t12 + 1)) _ N H h1 h hg ho hx
 intro hc N;exact wY<|wA zP<|yO<|hx _ _ (zB N).symm H
def tG (a0:zA) (point:(List Int)):Option (Int):=do
 let sum1←tT a0 point a0.Const 0
 pure (id sum1)
theorem oW:∀ a0 point r,tG a0 point=some r→∀ {I:Imm}{p c p1 c1},(S4 I p a0.Coefs c)→(S4 I p1 point c1)→RT 204 [vA (cAff a0 p c),vS p1 point c1] I [] (yP  r):=by
 intro a0 point r N I p c p1 c1 h h1;unfold tG at N;refine yL Tryz.func204 fun B=>yF<|tX (cAff a0 p c) ?_;intro b hb;refine vG [] []<|xG<|yJ [0] [5] rfl<|zX<|yD [10,11,12] rfl<|wB<|qW [(2,vP b 0),(5,vI a0.Const),(10,vS p1 point c1),(11,vI (point.length:Int)),(12,vI 0)] ?_;obtain ⟨o0,ho0,hMl⟩:=zC N;refine zAq a0 point a0.Const 0 o0 ho0 iR h1 h (fun _ _ _ h=>h) (fun _ _ h=>h) ?_;intro I0 sum1 heq le;subst o0;refine zR<|wW [4] rfl<|zI<|yZ ?_;obtain rfl:=zB hMl;exact wL
def sV (l:zD) (point:(List Int)) (lo:Int) (t27:Int):Option (Int):=do
 if (decide (t27 < (l.Lo.length:Int))) then
  let x2←idx l.Lo t27
  let y2←tG x2 point
  sV l point (if y2 > lo then y2 else lo) (W (t27 + 1))
 else
  pure (id lo)
 partial_fixpoint
theorem zBc (l:zD) (point:(List Int)):∀ (lo:Int) (t27:Int) (o:Int),sV l point lo t27=some o→∀ {B}{I0 I:Imm}{Q}{y1:Int}{p c p1 c1 p2 c2}{b:Nat},I0.le I→(S4 I p2 point c2)→(S4 I p l.Lo c)→(S4 I p1 l.Hi c1)→NG Q→NO Q→(∀ (I':Imm) (lo1:Int),o=lo1→I0.le I'→T 52 B Q (.exit 0) I' [hB b (cLoop l p c p1 c1)] [(1,vS p2 point c2),(2,vP b 0),(6,vI lo1),(7,vI y1)])→J Tryz.prog 52 B (nav (bodyOf Tryz.f195) [1,1,0,1,0]) Q I [hB b (cLoop l p c p1 c1)] [(1,vS p2 point c2),(2,vP b 0),(6,vI lo),(7,vI y1),(25,vS p l.Lo c),(26,vI (l.Lo.length:Int)),(27,vI t27)]:=by
 refine sV.partial_correctness l point _ fun self ih lo t27 o N B I0 I Q y1 p c p1 c1 p2 c2 b H h2 h h1 hg ho hx=>yR hg ho<|yD [28] rfl<|zX<|yB N ?_ ?_
 · intro hc N;refine zS<|zX<|yG<|yF<|bE N fun x2 hy4 N=>xS rfl rfl h hy4 ?_;intro ad2 ccs2 hat2 hrep2;obtain ⟨p5,c5,rfl,h7⟩:=yN hrep2;refine xL 0 hat2 (cAff x2 p5 c5) (vA (cAff x2 p5 c5)) rfl<|uF [z0,vI 0] ?_;intro b1 hb1;refine xQ 0 (cAff x2 p5 c5) rfl<|yE rfl<|zI<|zL<|oD 3 [0] [(31,vI lo),(32,vA (cAff x2 p5 c5)),(33,vS p2 point c2)]<|bE N fun y2 hy5 N=>jD (oW x2 point _ hy5 h7 h2) ?_;intro I03 le3;have ⟨h2,h,h1,H⟩:=m4 le3 h2 h h1 H;exact yJ [] [6] rfl<|zO<|zI<|zL<|yJ [] [27] rfl<|yQ<|jR (zW [1] rfl (by decide))<|nO<|ih (if y2 > lo then y2 else lo) (W (t27 + 1)) _ N H h2 h h1 hg ho hx
 intro hc N;exact wY<|yO<|hx _ _ (zB N).symm H
def sW (l:zD) (point:(List Int)) (hi:Int) (t40:Int):Option (Int):=do
 if (decide (t40 < (l.Hi.length:Int))) then
  let x3←idx l.Hi t40
  let y3←tG x3 point
  sW l point (if y3 < hi then y3 else hi) (W (t40 + 1))
 else
  pure (id hi)
 partial_fixpoint
theorem zBd (l:zD) (point:(List Int)):∀ (hi:Int) (t40:Int) (o:Int),sW l point hi t40=some o→∀ {B}{I0 I:Imm}{Q}{lo1:Int}{p1 c1 p2 c2},I0.le I→(S4 I p2 point c2)→(S4 I p1 l.Hi c1)→NG Q→NO Q→(∀ (I':Imm) (hi1:Int),o=hi1→I0.le I'→T 52 B Q (.exit 2) I' [] [(6,vI lo1),(7,vI hi1)])→J Tryz.prog 52 B (nav (bodyOf Tryz.f195) [1,1,1,0,1,0]) Q I [] [(1,vS p2 point c2),(6,vI lo1),(7,vI hi),(38,vS p1 l.Hi c1),(39,vI (l.Hi.length:Int)),(40,vI t40)]:=by
 refine sW.partial_correctness l point _ fun self ih hi t40 o N B I0 I Q lo1 p1 c1 p2 c2 H h2 h1 hg ho hx=>yR hg ho<|yD [41] rfl<|zX<|yB N ?_ ?_
 · intro hc1 N;refine zS<|zX<|yG<|yF<|bE N fun x3 hy6 N=>xS rfl rfl h1 hy6 ?_;intro ad3 ccs3 hat3 hrep3;obtain ⟨p6,c6,rfl,h9⟩:=yN hrep3;refine xL 0 hat3 (cAff x3 p6 c6) (vA (cAff x3 p6 c6)) rfl<|uF [z0,vI 0] ?_;intro b2 hb2;refine xQ 0 (cAff x3 p6 c6) rfl<|yE rfl<|zI<|zL<|oD 3 [0] [(44,vI hi),(45,vA (cAff x3 p6 c6)),(46,vS p2 point c2)]<|bE N fun y3 hy7 N=>jD (oW x3 point _ hy7 h9 h2) ?_;intro I05 le5;have ⟨h2,h1,H⟩:=m3 le5 h2 h1 H;exact yJ [] [7] rfl<|zO<|zI<|zL<|yJ [] [40] rfl<|yQ<|jR zP<|nO<|ih (if y3 < hi then y3 else hi) (W (t40 + 1)) _ N H h2 h1 hg ho hx
 intro hc1 N;exact wY<|yO<|hx _ _ (zB N).symm H
def kD (l:zD) (point:(List Int)):Option (Int×Int):=do
 let x←idx l.Lo 0
 let y←tG x point
 let x1←idx l.Hi 0
 let y1←tG x1 point
 let lo1←sV l point y 0
 let hi1←sW l point y1 0
 pure (lo1,hi1)
theorem zD7:∀ l point r,kD l point=some r→∀ {I:Imm}{p c p1 c1 p2 c2},(S4 I p l.Lo c)→(S4 I p1 l.Hi c1)→(S4 I p2 point c2)→RT 195 [vA (cLoop l p c p1 c1),vS p2 point c2] I [] (gX  r):=by
 intro l point r N I p c p1 c1 p2 c2 h h1 h2;unfold kD at N;refine yL Tryz.func195 fun B=>?_;have H:=iS I;refine yF<|tX (cLoop l p c p1 c1) ?_;intro b hb;refine vG [] []<|zI<|zZ ?_;obtain ⟨x,hy,N⟩:=zC N;obtain ⟨y,hy1,N⟩:=zC N;obtain ⟨x1,hy2,N⟩:=zC N;obtain ⟨y1,hy3,N⟩:=zC N;refine wX [.p (vP b 0) [],.p (vS p l.Lo c) [0],.x (ePAff x),.x (eVAff x),.p (vS p2 point c2) [],.q (vI y),.p (vP b 1) [],.p (vS p1 l.Hi c1) [0],.x (ePAff x1),.x (eVAff x1),.p (vS p2 point c2) [],.q (vI y1),.p (vI y) []] [[],[(0,false)],[(1,false)],[(2,false)],[],[(3,false),(4,false)],[],[(6,false)],[(7,false)],[(8,false)],[],[(9,false),(10,false)],[(5,false)]] [hB b (cLoop l p c p1 c1)] [] [(11,false),(12,false)] (zY [0]) ?_ ?_
 · refine Op<|Op<|Ox ?_<|Ox ?_<|Op<|Oq ?_<|Op<|Op<|Ox ?_<|Ox ?_<|Op<|Oq ?_<|Op<|On
   · intro I1 hf le1;refine yS [13] rfl ?_;have h:=h.mono le1;refine xS rfl rfl h hy ?_;intro ad ccs hat hrep;obtain ⟨p3,c3,rfl,h3⟩:=yN hrep;exact yK [] iR ⟨_,_,_,rfl,rfl,hat,h3⟩
   · rintro I1 hf le1 _ _ ⟨ad,p3,c3,rfl,rfl,hat,h3⟩;exact yS [14] rfl<|xL 0 hat (cAff x p3 c3) (vA (cAff x p3 c3)) rfl<|yK [] iR ⟨_,_,rfl,rfl,h3⟩
   · rintro I1 hf le1 _ _ ⟨p31,c31,rfl,rfl,h31⟩;refine yS [15,16] rfl ?_;have H:=iS I1;have h2:=h2.mono le1;refine jD (oW x point _ hy1 h31 h2) ?_;intro I0 le;have H:=H.trans le;exact xF H
   · intro I1 hf le1;refine yS [19] rfl ?_;have h1:=h1.mono le1;refine xS rfl rfl h1 hy2 ?_;intro ad1 ccs1 hat1 hrep1;obtain ⟨p4,c4,rfl,h5⟩:=yN hrep1;exact yK [] iR ⟨_,_,_,rfl,rfl,hat1,h5⟩
   · rintro I1 hf le1 _ _ ⟨ad1,p4,c4,rfl,rfl,hat1,h5⟩;exact yS [20] rfl<|xL 0 hat1 (cAff x1 p4 c4) (vA (cAff x1 p4 c4)) rfl<|yK [] iR ⟨_,_,rfl,rfl,h5⟩
   rintro I1 hf le1 _ _ ⟨p41,c41,rfl,rfl,h51⟩;refine yS [21,22] rfl ?_;have H:=iS I1;have h2:=h2.mono le1;refine jD (oW x1 point _ hy3 h51 h2) ?_;intro I01 le1;have H:=H.trans le1;exact xF H
 intro I02 le2;refine yS [1,2,6,23] rfl ?_;have ⟨h2,h,h1⟩:=m3 le2 h2 h h1;refine yJ [] [7] rfl<|zX<|yF<|yJ [0] [25,26,27] rfl<|wB<|qW [(1,vS p2 point c2),(2,vP b 0),(6,vI y),(7,vI y1),(25,vS p l.Lo c),(26,vI (l.Lo.length:Int)),(27,vI 0)] ?_;obtain ⟨o0,ho0,hMl⟩:=zC N;refine zBc l point y 0 o0 ho0 iR h2 h h1 (fun _ _ _ h=>h) (fun _ _ h=>h) ?_;intro I04 lo1 heq le4;subst o0;have ⟨h2,h,h1⟩:=m3 le4 h2 h h1;refine zR<|zX<|yF<|yJ [0] [38,39,40] rfl<|wB<|jR (zY [] (hs':=[]))<|qW [(1,vS p2 point c2),(6,vI lo1),(7,vI y1),(38,vS p1 l.Hi c1),(39,vI (l.Hi.length:Int)),(40,vI 0)] ?_;obtain ⟨o01,ho01,hMl1⟩:=zC hMl;refine zBd l point y1 0 o01 ho01 iR h2 h1 (fun _ _ _ h=>h) (fun _ _ h=>h) ?_;intro I06 hi1 heq1 le6;subst o01;refine zR<|wW [4,5] rfl<|zI<|yZ ?_;obtain rfl:=zB hMl1;exact xC ⟨_,_,(.tmp rfl (.tmp rfl ResV.nil)),zP,⟨_,_,rfl,rfl,rfl,rfl⟩⟩
def kO (b0:Nat) (r:Bool×tW):KT:=fun kk I' hs' v=>
  ∃ v0 x0_0 y0_0 x0_2 y0_2 z0_2,hs'=[.blk b0 ⟨[.slice x0_0 r.2.nest.length y0_0,.int .i64 r.2.steps,.slice x0_2 r.2.out.length y0_2]⟩,.osl (.slice x0_2 r.2.out.length y0_2) (Rp.sz (List Int)) z0_2]∧v=tupV [v0]∧v0=.bool r.1∧SL I' (.slice x0_0 r.2.nest.length y0_0) r.2.nest∧RepL (Rp.rep I') (Rp.sz (List Int)) z0_2 r.2.out
mutual
def tQ (w0:tW) (point:(List Int)):Option (Bool×tW):=do
 if ((point.length:Int) == (w0.nest.length:Int)) then
  let y←sN point
  let l←app 24 w0.out ([y]:List (List Int))
  pure ((decide ((l.length:Int) ≤ 120)),(tW.mk w0.nest w0.steps l))
 else
  let x←idx w0.nest (point.length:Int)
  let (y2,y3)←kD x point
  match←sO (same point) (same y3) (same y2) w0.nest w0.steps w0.out with
  | .ret r0=>pure r0
  | .done (nest1,steps1,out1) =>
   pure (true,(tW.mk nest1 steps1 out1))
 partial_fixpoint
def sO (point:(List Int)) (y3:Int) (n0:Int) (nest:List zD) (steps:Int) (out:List (List Int)):Option (Out (List zD×Int×List (List Int)) (Bool×tW)):=do
 if (decide (n0 < y3)) then
  let (t74,nest2,steps2,out2)←(do
    if (decide ((W ((W (steps + 1)) + 1)) > 1200)) then
     pure (true,nest,(W (steps + 1)),out)
    else
     let y4←sN point
     let l1←app 8 y4 ([n0]:List Int)
     let (y6,y7)←tQ (tW.mk nest (W (steps + 1)) out) (same l1)
     pure ((!y6),y7.nest,y7.steps,y7.out)
      : Option (Bool×List zD×Int×List (List Int)))
  if t74 then
   pure (.ret (false,(tW.mk nest2 steps2 out2)))
  else
   sO (same point) (same y3) (W (n0 + 1)) (same nest2) (same steps2) (same out2)
 else
  pure (.done (nest,steps,out))
 partial_fixpoint
end
theorem zBQ:(∀ (w0:tW) (point:(List Int)) r,tQ w0 point=some r→∀ {I:Imm}{r0:Nat}{p c p1 c1 cs p2 c2},(S4 I p w0.nest c)→(RL I cs w0.out)→(S4 I p2 point c2)→RT 153 [vP r0 0,vS p2 point c2] I [hB r0 [vS p w0.nest c,vI w0.steps,vS p1 w0.out c1],hO (List Int) (vS p1 w0.out c1) cs] (kO r0 r))∧(∀ (point:(List Int)) (y3:Int) (n0:Int) (nest:List zD) (steps:Int) (out:List (List Int)) o,sO point y3 n0 nest steps out=some o→∀ {B}{I0 I:Imm}{Q}  {r0:Nat}{p2 c2 p7 c7 p8 c8 cs3},I0.le I→(S4 I p2 point c2)→(S4 I p7 nest c7)→(RL I cs3 out)→NG Q→NO Q→(∀ (I':Imm) (nest1:List zD) (steps1:Int) (out1:List (List Int)) (p9:Option Addr) (c9:Nat) (p10:Option Addr) (c10:Nat) (cs4:List Value),o=(.done (nest1,steps1,out1))→I0.le I'→(S4 I' p9 nest1 c9)→(RL I' cs4 out1)→T 75 B Q (.exit 0) I' [hB r0 [vS p9 nest1 c9,vI steps1,vS p10 out1 c10],hO (List Int) (vS p10 out1 c10) cs4] [])→(∀ r I' hs' m',o=(.ret r)→I0.le I'→RS Tryz.prog Tryz.f153 B (kO r0 r) I' hs' m'→T 75 B Q .ret I' hs' m')→J Tryz.prog 75 B (nav (bodyOf Tryz.f153) [1,1,1,0,1,0]) Q I [hB r0 [vS p7 nest c7,vI steps,vS p8 out c8],hO (List Int) (vS p8 out c8) cs3] [(0,vP r0 0),(1,vS p2 point c2),(6,vI y3),(7,vI n0)]):=by
  refine tQ.mutual_partial_correctness _ _ ?_ ?_
  · intro F_impl_walking_walk_l1 ih_impl_walking_walk_l1 w0 point r N I r0 p c p1 c1 cs p2 c2 h h1 h2;refine yL Tryz.func153 fun B=>?_;have H:=iS I;refine wV []<|zX<|yF<|yJ [0] [15] rfl<|zI<|yB N ?_ ?_
    · intro hc N;refine zZ ?_;obtain ⟨y,hy,N⟩:=zC N;obtain ⟨l,hy1,N⟩:=zC N;refine wX [.p (vP r0 0) [],.p (vP r0 0) [],.p (vP r0 0) [],.p (vP r0 2) [],.p (vS p1 w0.out c1) [0],.p (vS p2 point c2) [],.x (fun I' v hx=>∃ p3 c3 cs1,v=vS p3 y c3∧hx=[hO Int (vS p3 y c3) cs1]∧(RL I' cs1 y)),.x (fun I' v hx=>∃ b,v=vS (some ⟨b,0,none⟩) ([y]:List (List Int)) 1∧hx=[]∧(SL I' (vS (some ⟨b,0,none⟩) ([y]:List (List Int)) 1) ([y]:List (List Int)))),.x (fun I' v hx=>∃ p4 c4 cs2,v=vS p4 l c4∧hx=[hO (List Int) (vS p4 l c4) cs2]∧(RL I' cs2 l))] [[],[],[(1,false)],[(2,false)],[(3,false)],[],[(5,false)],[(6,true)],[(4,false),(7,false),(12,true)]] [hB r0 [vS p w0.nest c,vI w0.steps,vS p1 w0.out c1]] [[hO (List Int) (vS p1 w0.out c1) cs]] [(0,false),(8,true)] (zY [0,1]) ?_ ?_
      · refine Op<|Op<|Op<|Op<|Op<|Op<|Ox ?_<|Ox ?_<|Ox ?_<|On
        · intro I1 hf le1;refine yS [21] rfl ?_;have H:=iS I1;have h2:=h2.mono le1;refine xV (kC point _ hy h2) ?_;rintro I0 hs2 v2 k2 le - ⟨p3,c3,cs1,rfl,rfl,h3⟩ -;have H:=H.trans le;exact yK [hO Int (vS p3 y c3) cs1] H ⟨_,_,_,rfl,rfl,h3⟩
        · rintro I1 hf le1 _ _ ⟨p3,c3,cs1,rfl,rfl,h3⟩;refine yS [22] rfl ?_;have H:=iS I1;refine xM 0 rfl ?_;intro I01 le1 hl0;have h4:=SL.of_frozen hl0 le1 h3;have H:=H.trans le1;refine nE (rc y ⟨_,rfl,h4⟩ rN) ?_;intro b I02 le2 h6;have H:=H.trans le2;exact yK [] H ⟨_,rfl,rfl,h6⟩
        rintro I1 hf le1 _ _ ⟨rfl,rfl⟩ _ _ ⟨b,rfl,rfl,h6⟩ _ _ rfl;refine yS [20,23] rfl ?_;have h1:=iM le1 h1;obtain ⟨ccs,k0,k01⟩:=h6;have h6:SL I1 (vS (some ⟨b,0,none⟩) ([y]:List (List Int)) 1) ([y]:List (List Int)):=⟨_,k0,k01⟩;exact qB 36 1 0 rfl rfl rfl h1 (.inl k0) k01 hy1 fun p4 c4 cs2 h7=>uG (hs':=(hO (List Int) (vS p4 l c4) cs2::hB r0 [vS p w0.nest c,vI w0.steps,vS p1 w0.out c1]::hf)) rfl<|yK [hO (List Int) (vS p4 l c4) cs2] iR ⟨_,_,_,rfl,rfl,h7⟩
      rintro I03 le3 _ _ ⟨rfl,rfl⟩ _ _ ⟨p4,c4,cs2,rfl,rfl,h7⟩;refine yS [0,16,24] rfl ?_;have h:=h.mono le3;refine yH 11 [] [26] rfl<|xQ 1 [vS p w0.nest c,vI w0.steps,vS p4 l c4] rfl<|yE rfl<|xG<|yJ [1] [4] rfl<|xB<|zF ?_;obtain rfl:=zB N;exact xC ⟨_,_,(.tmp rfl ResV.nil),(zW [1,0] rfl (by decide)),⟨_,_,_,_,_,_,rfl,rfl,rfl,h,h7⟩⟩
    intro hc N;refine zS<|xG<|yH 6 [0] [37,39] rfl<|bE N fun x hy2 N=>xS rfl rfl h hy2 ?_;intro ad ccs1 hat hrep;obtain ⟨p5,c5,p6,c6,rfl,h8,h9⟩:=rH hrep;refine xL 0 hat (cLoop x p5 c5 p6 c6) (vA (cLoop x p5 c5 p6 c6)) rfl<|yH 9 [] [42] rfl ?_;obtain ⟨⟨y2,y3⟩,hy3,N⟩:=zC N;refine xV (zD7 x point _ hy3 h8 h9 h2) ?_;rintro I04 hs2 v2 k2 le4 - ⟨v02,v03,rfl,rfl,rfl,rfl⟩ -;have ⟨h2,h,h1⟩:=m3 le4 h2 h h1;refine yJ [] [5,6] rfl<|zX<|yD [7] rfl<|wB<|qW [(0,vP r0 0),(1,vS p2 point c2),(6,vI y3),(7,vI y2)] ?_;obtain ⟨o01,ho01,hMl⟩:=zC N;refine ih_impl_walking_walk_l1 point y3 y2 w0.nest w0.steps w0.out o01 ho01 iR h2 h h1 (fun _ _ _ h=>h) (fun _ _ h=>h) ?_ ?_
    · intro I09 nest1 steps1 out1 p9 c9 p10 c10 cs4 heq1 le9 h14 h15;subst o01;refine zR<|zDB [(4,vY)]<|zI<|yZ ?_;obtain rfl:=zB hMl;exact xC ⟨_,_,(.tmp rfl ResV.nil),(zW [0,1] rfl (by decide)),⟨_,_,_,_,_,_,rfl,rfl,rfl,h14,h15⟩⟩
    intro r0 I9 hs9 m9 heq9 le9 hrs9;subst heq9;refine zU<|zF ?_;obtain rfl:=zB hMl;exact xC hrs9
  intro F_impl_walking_walk F_impl_walking_walk_l1 ih_impl_walking_walk ih_impl_walking_walk_l1 point y3 n0 nest steps out o N B I0 I Q r0 p2 c2 p7 c7 p8 c8 cs3 H h2 h12 h13 hg ho hx hr;refine yR hg ho<|zZ<|yD [49] rfl<|zI<|yB N ?_ ?_
  · intro hc1 N;refine zS<|zX<|yG<|yF<|yH 7 [0] [56,58] rfl<|xQ 0 [vS p7 nest c7,vI (W (steps + 1)),vS p8 out c8] rfl<|yE rfl<|zI<|zZ ?_;obtain ⟨o0,ho0,hMc⟩:=zC N;refine oC (fun I' hs' m'=>∃ (t74:Bool) (nest2:List zD) (steps2:Int) (out2:List (List Int)) (p11:Option Addr) (c11:Nat) (p12:Option Addr) (c12:Nat) (cs5:List Value),o0=(t74,nest2,steps2,out2)∧I.le I'∧(S4 I' p11 nest2 c11)∧(RL I' cs5 out2)∧hs'=[hB r0 [vS p11 nest2 c11,vI steps2,vS p12 out2 c12],hO (List Int) (vS p12 out2 c12) cs5]∧m'=[(0,vP r0 0),(1,vS p2 point c2),(6,vI y3),(7,vI n0),(74,.bool t74)]) ?_ ?_
    · have H:=iS I;refine zL<|yH 7 [0] [65] rfl<|xZ [65] ho0 ?_ ?_
      · intro hc2 N;exact vG [] [(74,vY)]<|yO<|zV ⟨_,_,_,_,_,_,_,_,_,(zB N).symm,H,h12,h13,rfl,rfl⟩
      intro hc2 N;refine yH 9 [] [66,67] rfl<|bE N fun y4 hy4 N=>xV (kC point _ hy4 h2) ?_;rintro I06 hs2 v2 k2 le5 - ⟨p13,c13,cs6,rfl,rfl,h18⟩ -;have ⟨h12,h13,H⟩:=m3 le5 h12 h13 H;refine yH 11 [] [69] rfl<|tJ [vI n0] Int ?_;intro b1 hb1;have h19:RL I06 [vI n0] ([n0]:List Int):=rI [n0];obtain ⟨l1,hy5,N⟩:=zC N;refine qB 3 1 1 rfl rfl rfl h18 (.inr ⟨0,rfl⟩) h19 hy5 fun p14 c14 cs7 h20=>rW (zY [1,2,3] (hs':=[hO Int (vS p14 l1 c14) cs7,hB r0 [vS p7 nest c7,vI (W (steps + 1)),vS p8 out c8],hO (List Int) (vS p8 out c8) cs3]))<|xM 0 rfl ?_;intro I07 le6 hl02;have h21:=SL.of_frozen hl02 le6 h20;have ⟨h12,h13,H⟩:=m3 le6 h12 h13 H;obtain ⟨⟨y6,y7⟩,hy6,N⟩:=zC N;refine sR (ih_impl_walking_walk (tW.mk nest (W (steps + 1)) out) l1 _ hy6 h12 h13 h21) rfl ?_;rintro I08 hs2 v2 k2 le7 - ⟨v04,p15,c15,p16,c16,cs8,rfl,rfl,rfl,h23,h24⟩ -;have H:=H.trans le7;exact yJ [] [74] rfl<|yO<|zV ⟨_,_,_,_,_,_,_,_,_,(zB N).symm,H,h23,h24,rfl,rfl⟩
    rintro I05 hs2 m2 ⟨t74,nest2,steps2,out2,p11,c11,p12,c12,cs5,heq,le8,h16,h17,rfl,rfl⟩;subst o0;have ⟨h2,H⟩:=m2 le8 h2 H;refine zI<|yB hMc ?_ ?_
    · intro hc3 N;exact wV [(4,vF)]<|xB<|zU<|zF<|zF<|hr _ _ _ _ (zB N).symm H ⟨_,_,(.tmp rfl ResV.nil),(zW [0,1] rfl (by decide)),⟨_,_,_,_,_,_,rfl,rfl,rfl,h16,h17⟩⟩
    intro hc3 N;exact zS<|zO<|zI<|zL<|yJ [] [7] rfl<|yQ<|nO<|ih_impl_walking_walk_l1 point y3 (W (n0 + 1)) nest2 steps2 out2 _ N H h2 h16 h17 hg ho hx hr
  intro hc1 N;exact wY<|yO<|hx _ _ _ _ _ _ _ _ _ (zB N).symm H h12 h13
theorem zBe:∀ w0 point r,tQ w0 point=some r→∀ {I:Imm}{r0:Nat}{p c p1 c1 cs p2 c2},(S4 I p w0.nest c)→(RL I cs w0.out)→(S4 I p2 point c2)→RT 153 [vP r0 0,vS p2 point c2] I [hB r0 [vS p w0.nest c,vI w0.steps,vS p1 w0.out c1],hO (List Int) (vS p1 w0.out c1) cs] (kO r0 r):=zBQ.1
def mD (nest:(List zD)):Option ((List (List Int))×Bool):=do
 let y←kA nest
 if (!y) then
  pure (([]:List (List Int)),false)
 else
  let (y2,y3)←tQ (tW.mk nest 0 ([]:List (List Int))) ([]:List Int)
  if (!y2) then
   pure (([]:List (List Int)),false)
  else
   pure (y3.out,true)
theorem zCd:∀ nest r,mD nest=some r→∀ {I:Imm}{p c},(S4 I p nest c)→RT 102 [vS p nest c] I [] (fX  r):=by
 intro nest r N I p c h;unfold mD at N;refine yL Tryz.func102 fun B=>wV []<|zX<|yF<|yH 1 [] [5] rfl<|bE N fun y hy N=>uH (zD6 nest _ hy h) ?_;intro I0 le;have h:=h.mono le;refine yJ [] [7] rfl<|zI<|yB N ?_ ?_
 · intro hc N;refine yD [2,3] rfl<|xB<|zF ?_;obtain rfl:=zB N;exact xC ⟨_,_,(.tmp rfl (.tmp rfl ResV.nil)),zP,⟨_,_,rfl,rfl,(SL.nil _),rfl⟩⟩
 intro hc N;refine zS<|xG<|yH 2 [] [9] rfl<|tX [vS p nest c,vI 0,z0] ?_;intro b hb;refine yJ [] [4] rfl<|zX<|yF<|yH 1 [] [11] rfl<|zMx (List Int) fun h2=>?_;refine rW (zY [1,0] (hs':=[hB b [vS p nest c,vI 0,vS none ([]:List (List Int)) 0],hO (List Int) (vS none ([]:List (List Int)) 0) []])) ?_;obtain ⟨⟨y2,y3⟩,hy1,N⟩:=zC N;refine sR (zBe (tW.mk nest 0 ([]:List (List Int))) ([]:List Int) _ hy1 h h2 (SL.nil _)) rfl ?_;rintro I01 hs2 v2 k2 le1 - ⟨v01,p1,c1,p2,c2,cs,rfl,rfl,rfl,h4,h5⟩ -;refine yJ [] [13] rfl<|zI<|yB N ?_ ?_
 · intro hc1 N;refine yD [2,3] rfl<|xB<|zF ?_;obtain rfl:=zB N;exact xC ⟨_,_,(.tmp rfl (.tmp rfl ResV.nil)),zP,⟨_,_,rfl,rfl,(SL.nil _),rfl⟩⟩
 intro hc1 N;refine zS<|xG<|yJ [0] [2,3] rfl<|xB<|xA 1 rfl ?_;intro I02 le2 hl0;have h6:=SL.of_frozen hl0 le2 h5;obtain rfl:=zB N;exact xC ⟨_,_,(.tmp rfl (.tmp rfl ResV.nil)),zP,⟨_,_,rfl,rfl,h6,rfl⟩⟩
def qT (hsF:List HA) (r:Int):KT:=fun kk I' hs' v=>
  ∃ v0,hsF=hs'∧v=tupV [v0]∧v0=.int .i64 r
def xE (s:(List zQ)) (f0:(zQ→Option Bool)) (t8:Int):Option (Out Unit (Int)):=do
 if (decide (t8 < (s.length:Int))) then
  let x←idx s t8
  let y←f0 x
  if y then
   pure (.ret t8)
  else
   xE s f0 (W (t8 + 1))
 else
  pure (.done ())
 partial_fixpoint
theorem kP (s:(List zQ)) (f0:(zQ→Option Bool)):∀ (t8:Int) (o:Out Unit (Int)),xE s f0 t8=some o→∀ {B}{I0 I:Imm}{Q p c}{fv:Value}{hsF:List HA},I0.le I→(S4 I p s c)→(FV1 Tryz.prog I hsF fv f0)→NG Q→NO Q→(∀ (I':Imm) ,o=(.done ())→I0.le I'→T 19 B Q (.exit 0) I' hsF [])→(∀ r I' hs' m',o=(.ret r)→I0.le I'→RS Tryz.prog Tryz.f154 B (qT hsF r) I' hs' m'→T 19 B Q .ret I' hs' m')→J Tryz.prog 19 B (nav (bodyOf Tryz.f154) [1,0,1,0]) Q I hsF [(0,vS p s c),(1,fv),(7,vI (s.length:Int)),(8,vI t8)]:=by
 refine xE.partial_correctness s f0 _ fun self ih t8 o N B I0 I Q p c fv hsF H h h1 hg ho hx hr=>yR hg ho<|yD [9] rfl<|zX<|yB N ?_ ?_
 · intro hc N;refine zS<|zX<|yG<|yD [5] rfl<|xG<|yH 3 [] [11,12,13] rfl<|bE N fun x hy N=>xS rfl rfl h hy ?_;intro ad ccs hat hrep;obtain ⟨p1,c1,p2,c2,p3,c3,p4,c4,rfl,h2,h3,h4,h5⟩:=qC hrep;refine xL 0 hat (cStmt x p1 c1 p2 c2 p3 c3 p4 c4) (vA (cStmt x p1 c1 p2 c2 p3 c3 p4 c4)) rfl<|bE N fun y hy1 N=>zJI rfl rfl h1 hy1 ⟨_,rfl,(wZ ⟨_,_,_,_,rfl,h2,h3,h4,h5⟩)⟩ (List.append_nil _).symm ?_;rintro I0 v04 le rfl;refine uG (hs':=hsF) (List.append_nil _) ?_;have ⟨h,h1,H⟩:=m3 le h h1 H;refine yE rfl<|zI<|yB N ?_ ?_
   · intro hc1 N;exact yD [4] rfl<|xB<|zU<|zF<|zF<|hr _ _ _ _ (zB N).symm H ⟨_,_,(.tmp rfl ResV.nil),(fun _ h=>h),⟨_,rfl,rfl,rfl⟩⟩
   intro hc1 N;exact zS<|zO<|zI<|zL<|yJ [] [8] rfl<|yQ<|nO<|ih (W (t8 + 1)) _ N H h h1 hg ho hx hr
 intro hc N;exact wY<|yO<|hx _  (zB N).symm H
def vW (s:(List zQ)) (f0:(zQ→Option Bool)):Option (Int):=do
 match←xE s f0 0 with
 | .ret r0=>pure r0
 | .done _ =>
  pure (-1)
theorem jA:∀ s f0 r,vW s f0=some r→∀ {I:Imm}{p c}{fv:Value}{hsF:List HA},(S4 I p s c)→(FV1 Tryz.prog I hsF fv f0)→RT 154 [vS p s c,fv] I hsF (qT hsF r):=by
 intro s f0 r N I p c fv hsF h h1;unfold vW at N;refine yL Tryz.func154 fun B=>wV []<|zX<|yD [7,8] rfl<|wB<|qW [(0,vS p s c),(1,fv),(7,vI (s.length:Int)),(8,vI 0)] ?_;obtain ⟨o0,ho0,hMl⟩:=zC N;refine kP s f0 0 o0 ho0 iR h h1 (fun _ _ _ h=>h) (fun _ _ h=>h) ?_ ?_
 · intro I01  heq le1;subst o0;refine zR<|wW [4] rfl<|zI<|yZ ?_;obtain rfl:=zB hMl;exact xC ⟨_,_,(.tmp rfl ResV.nil),(fun _ h=>h),⟨_,rfl,rfl,rfl⟩⟩
 intro r0 I9 hs9 m9 heq9 le9 hrs9;subst heq9;refine zU<|zF ?_;obtain rfl:=zB hMl;exact xC hrs9
def kE (hsF:List HA) (r:Bool):KT:=fun kk I' hs' v=>
  ∃ v0,hsF=hs'∧v=tupV [v0]∧v0=.bool r
def xY (s:(List zQ)) (f0:(zQ→Option Bool)):Option (Bool):=do
 let y←vW s f0
 pure (decide (y ≥ 0))
theorem kQ:∀ s f0 r,xY s f0=some r→∀ {I:Imm}{p c}{fv:Value}{hsF:List HA},(S4 I p s c)→(FV1 Tryz.prog I hsF fv f0)→RT 103 [vS p s c,fv] I hsF (kE hsF r):=by
 intro s f0 r N I p c fv hsF h h1;unfold xY at N;refine yL Tryz.func103 fun B=>wV []<|xG<|yH 2 [] [5,6] rfl<|bE N fun y hy N=>zDq (hs1:=hsF) (rest:=[]) rfl rfl rfl rfl (by kernel_rfl) rfl (List.append_nil _).symm (jA s f0 _ hy h h1) ?_;rintro I0 hs2 v2 k2 le - ⟨v0,rfl,rfl,rfl⟩ -;refine uG (hs':=hsF) (List.append_nil _) ?_;refine yJ [] [4] rfl<|zI<|yZ ?_;obtain rfl:=zB N;exact xC ⟨_,_,(.tmp rfl ResV.nil),(fun _ h=>h),⟨_,rfl,rfl,rfl⟩⟩
def qM (s:zA) (x:Int):Option (Bool):=do
 let t3←(do
   let y←rP s
   if (!y) then
    pure true
   else
    let y1←sT s
    pure (decide (y1 > x))
     : Option Bool)
 pure (id t3)
theorem zCe:∀ s x r,qM s x=some r→∀ {I:Imm}{p c}{ad:Addr},(S4 I p s.Coefs c)→(At I ad [vI x])→RT 197 [vA (cAff s p c),.pointer (some ad)] I [] (zT  r):=by
 intro s x r N I p c ad h hat;unfold qM at N;refine yL Tryz.func197 fun B=>?_;have H:=iS I;refine yF<|tX (cAff s p c) ?_;intro b hb;refine vG [] []<|zI<|zZ ?_;refine wP N [] (fun t3=>[(3,.bool t3)]) (fun o0 ho0=>?_) ?_
 · have H:=iS I;obtain ⟨y,hy,N⟩:=zC ho0;cases hc:(!y) with
   | true =>
    have hM0:=oX hc N;refine wX [.p (vA (cAff s p c)) [0],.q (.bool y),.q vY,.q vY,.p undef [],.p undef [],.p undef [],.p undef [],.p vY []] [[],[(0,false)],[(1,false)],[(2,false)],[(3,false)],[(3,false),(4,false)],[(3,false)],[(3,false),(5,false),(6,false)],[(3,false),(7,false)]] [hB b (cAff s p c)] [] [(8,false)] (zY [0]) ?_ ?_
    · refine Op<|Oq ?_<|Oq ?_<|Oq ?_<|Op<|Op<|Op<|Op<|Op<|On
      · intro I1 hf le1;refine yS [4] rfl ?_;have H:=iS I1;have h:=h.mono le1;refine uH (oV s _ hy h) ?_;intro I01 le;have H:=H.trans le;exact xF H
      · intro I1 hf le1;refine yS [5] rfl<|oH 3 [(6,.bool (!y))] ?_;rw [hc];exact xF iR
      intro I1 hf le1;exact eU [(6,vY)]<|oH 4 [(7,vY)]<|xF iR
    intro I02 le1;refine eU [(12,vY)] ?_;have H:=H.trans le1;exact vG [] [(3,vY)]<|wA zP<|yO<|zV (ct hM0 H)
   | false =>
    have hM01:=pW hc N;obtain ⟨y1,hy1,N⟩:=zC hM01;refine wX [.p (vA (cAff s p c)) [0],.q (.bool y),.q vF,.q vF,.p (vA (cAff s p c)) [0],.q (vI y1),.q (vI x),.p (.bool (decide (y1 > x))) [],.p (.bool (decide (y1 > x))) []] [[],[(0,false)],[(1,false)],[(2,false)],[(3,false)],[(3,false),(4,false)],[(3,false)],[(3,false),(5,false),(6,false)],[(3,false),(7,false)]] [hB b (cAff s p c)] [] [(8,false)] (zY [0]) ?_ ?_
    · refine Op<|Oq ?_<|Oq ?_<|Oq ?_<|Op<|Oq ?_<|Oq ?_<|Op<|Op<|On
      · intro I1 hf le1;refine yS [4] rfl ?_;have H:=iS I1;have h:=h.mono le1;refine uH (oV s _ hy h) ?_;intro I01 le;have H:=H.trans le;exact xF H
      · intro I1 hf le1;refine yS [5] rfl<|oH 3 [(6,.bool (!y))] ?_;rw [hc];exact xF iR
      · intro I1 hf le1;exact eU [(6,vF)]<|oH 4 [(7,vF)]<|xF iR
      · intro I1 hf le1;refine yS [7,8] rfl ?_;have H:=iS I1;have h:=h.mono le1;refine jD (jK s _ hy1 h) ?_;intro I03 le2;have H:=H.trans le2;exact xF H
      intro I1 hf le1;refine yS [1,7] rfl ?_;have hat:=hat.mono le1;exact xL 0 hat [vI x] (vI x) rfl<|xF iR
    intro I04 le3;refine yS [12] rfl ?_;have H:=H.trans le3;exact yJ [] [3] rfl<|wA zP<|yO<|zV (ct N H)
 intro t3 I0 le4 hMc;refine zI<|yZ ?_;obtain rfl:=zB hMc;exact wL
def nV (a0:zJ) (depth:Int):Option (Bool):=do
 let t4←(do
   let y←mZ a0.Array
   if y then
    let y1←wE (a0.Subs.length:Int) 1 2
    if y1 then
     let y2←xI a0.Subs (fun x0=>qM x0 depth)
     pure (!y2)
    else
     pure false
   else
    pure false
     : Option Bool)
 pure (id t4)
theorem zAb:∀ a0 depth r,nV a0 depth=some r→∀ {I:Imm}{p c},(S4 I p a0.Subs c)→RT 155 [vA (cAccess a0 p c),vI depth] I [] (zT  r):=by
 intro a0 depth r N I p c h;unfold nV at N;refine yL Tryz.func155 fun B=>?_;have H:=iS I;refine yF<|tX (cAccess a0 p c) ?_;intro b hb;refine tX [vI depth] ?_;intro b1 hb1;refine xM 0 rfl ?_;intro I0 le hl0;have hat:At I0 ⟨b1,0,none⟩ [vI depth]:=At.of_blk hl0;have ⟨h,H⟩:=m2 le h H;refine vG [] []<|zI<|zZ ?_;refine wP N [] (fun t4=>[(4,.bool t4)]) (fun o0 ho0=>?_) ?_
 · have H:=iS I0;refine zL<|yH 2 [0] [6] rfl ?_;obtain ⟨y,hy,N⟩:=zC ho0;refine uH (oN a0.Array _ hy ) ?_;intro I02 le1;have ⟨hat,h,H⟩:=m3 le1 hat h H;refine yH 4 [] [8] rfl<|xZ [8] N ?_ ?_
   · intro hc N;refine yH 7 [0] [11] rfl<|bE N fun y1 hy1 N=>uH (wO (a0.Subs.length:Int) 1 2 _ hy1 ) ?_;intro I03 le2;have ⟨hat,h,H⟩:=m3 le2 hat h H;refine yH 10 [] [14] rfl<|xZ [14] N ?_ ?_
     · intro hc1 N;refine yH 13 [0] [16,17] rfl ?_;have hf0:FV1 Tryz.prog I03 [] (.func (.func 197) ⟨[]⟩ ⟨[vP b1 0]⟩) (fun x0=>qM x0 depth):=by
         refine FV1.intro ?_;intro I1 le1 x0 r u0 hF k0;obtain ⟨_,rfl,k0⟩:=k0;obtain ⟨p1,c1,rfl,h3⟩:=yN k0;exact (zCe x0 depth r hF h3 (hat.mono le1)).mono (by rintro k i hs u ⟨v0,rfl,rfl,h⟩; exact ⟨rfl,h⟩)
       obtain ⟨y2,hy2,N⟩:=zC N;refine xV (rE a0.Subs (fun x0=>qM x0 depth) _ hy2 h hf0) ?_;rintro I04 hs2 v2 k2 le3 - ⟨v03,rfl,rfl,rfl⟩ -;have H:=H.trans le3;exact yJ [] [4] rfl<|wA zP<|yO<|zV (ct N H)
     intro hc1 N;exact vG [] [(4,vF)]<|wA zP<|yO<|zV (ct N H)
   intro hc N;exact vG [] [(4,vF)]<|wA zP<|yO<|zV (ct N H)
 intro t4 I01 le4 hMc;refine zI<|yZ ?_;obtain rfl:=zB hMc;exact wL
def nW (a0:zA):Option (Bool):=do
 let t2←(do
   if ((a0.Coefs.length:Int) == 0) then
    pure (a0.Const == 0)
   else
    pure false
     : Option Bool)
 pure (id t2)
theorem zAc:∀ a0 r,nW a0=some r→∀ {I:Imm}{p c},(S4 I p a0.Coefs c)→RT 200 [vA (cAff a0 p c)] I [] (zT  r):=by
 intro a0 r N I p c h;unfold nW at N;refine yL Tryz.func200 fun B=>?_;have H:=iS I;refine yF<|tX (cAff a0 p c) ?_;intro b hb;refine vG [] []<|zI<|zZ ?_;refine wP N [] (fun t2=>[(2,.bool t2)]) (fun o0 ho0=>?_) ?_
 · have H:=iS I;refine zL<|yH 5 [0] [7] rfl<|xZ [7] ho0 ?_ ?_
   · intro hc N;exact yJ [0] [2] rfl<|wA zP<|yO<|zV (ct N H)
   intro hc N;exact vG [] [(2,vF)]<|wA zP<|yO<|zV (ct N H)
 intro t2 I0 le hMc;refine zI<|yZ ?_;obtain rfl:=zB hMc;exact wL
def qU (a0:zJ):Option (Bool):=do
 let t2←(do
   if (a0.Array.l == ([]:List UInt8)) then
    pure ((a0.Subs.length:Int) == 0)
   else
    pure false
     : Option Bool)
 pure (id t2)
theorem jT:∀ a0 r,qU a0=some r→∀ {I:Imm}{p c},(S4 I p a0.Subs c)→RT 201 [vA (cAccess a0 p c)] I [] (zT  r):=by
 intro a0 r N I p c h;unfold qU at N;refine yL Tryz.func201 fun B=>?_;have H:=iS I;refine yF<|tX (cAccess a0 p c) ?_;intro b hb;refine vG [] []<|zI<|zZ ?_;refine wP N [] (fun t2=>[(2,.bool t2)]) (fun o0 ho0=>?_) ?_
 · have H:=iS I;refine zL<|yH 4 [0] [6] rfl<|xZ [6] ho0 ?_ ?_
   · intro hc N;exact yJ [0] [2] rfl<|wA zP<|yO<|zV (ct N H)
   intro hc N;exact vG [] [(2,vF)]<|wA zP<|yO<|zV (ct N H)
 intro t2 I0 le hMc;refine zI<|yZ ?_;obtain rfl:=zB hMc;exact wL
def eA (kind:Int):Option (Bool):=do
 let y←wE kind 4 6
 pure (id y)
theorem zHP:∀ kind r,eA kind=some r→∀ {I:Imm} ,RT 202 [vI kind] I [] (zT  r):=by
 intro kind r N I;unfold eA at N;refine yL Tryz.func202 fun B=>wV []<|xG<|yH 1 [] [3] rfl<|bE N fun y hy N=>uH (wO kind 4 6 _ hy ) fun I0 le=>yJ [] [2] rfl<|zI<|yZ ?_;obtain rfl:=zB N;exact wL
def zCf (b0:Nat) (r:Bool×Int):KT:=fun kk I' hs' v=>
  ∃ v0 k0,hs'=[.blk b0 ⟨k0⟩]∧v=tupV [v0]∧v0=.bool r.1∧Rp.rep I' k0 r.2
def uL (e0:zG) (depth:Int) (deep:Int) (count:Int):Option (Bool×Int):=do
 let t21←(do
   if (decide ((W (count + 1)) > 12)) then
    pure true
   else
    pure (decide (deep > 5))
     : Option Bool)
 if t21 then
  pure (false,(W (count + 1)))
 else
  let t51←(do
    if (e0.Kind != 1) then
     if (e0.Num != 0) then
      pure true
     else
      if (e0.Kind != 2) then
       let y←nW e0.Index
       if (!y) then
        pure true
       else
        if (e0.Kind != 3) then
         let y1←qU e0.Read
         pure (!y1)
        else
         pure false
      else
       if (e0.Kind != 3) then
        let y2←qU e0.Read
        pure (!y2)
       else
        pure false
    else
     if (e0.Kind != 2) then
      let y3←nW e0.Index
      if (!y3) then
       pure true
      else
       if (e0.Kind != 3) then
        let y4←qU e0.Read
        pure (!y4)
       else
        pure false
     else
      if (e0.Kind != 3) then
       let y5←qU e0.Read
       pure (!y5)
      else
       pure false
      : Option Bool)
  if t51 then
   pure (false,(W (count + 1)))
  else
   if (e0.Kind == 1) then
    let t8←(do
      let y6←wE e0.Num 0 99
      if y6 then
       pure ((e0.Kids.length:Int) == 0)
      else
       pure false
        : Option Bool)
    pure (t8,(W (count + 1)))
   else
    if (e0.Kind == 2) then
     let t81←(do
       let y7←rP e0.Index
       if y7 then
        let y8←sT e0.Index
        if (decide (y8 ≤ depth)) then
         pure ((e0.Kids.length:Int) == 0)
        else
         pure false
       else
        pure false
         : Option Bool)
     pure (t81,(W (count + 1)))
    else
     if (e0.Kind == 3) then
      let t82←(do
        let y9←nV e0.Read depth
        if y9 then
         pure ((e0.Kids.length:Int) == 0)
        else
         pure false
          : Option Bool)
      pure (t82,(W (count + 1)))
     else
      let t99←(do
        let y10←eA e0.Kind
        if (!y10) then
         pure true
        else
         pure ((e0.Kids.length:Int) != 2)
          : Option Bool)
      if t99 then
       pure (false,(W (count + 1)))
      else
       let (t83,x)←(do
         let x1←idx e0.Kids 0
         let (y12,y13)←uL (same x1) (same depth) (W (deep + 1)) (W (count + 1))
         if y12 then
          let x2←idx e0.Kids 1
          let (y15,y16)←uL (same x2) (same depth) (W (deep + 1)) (same y13)
          pure (y15,y16)
         else
          pure (false,y13)
           : Option (Bool×Int))
       pure (t83,x)
 partial_fixpoint
theorem zET:∀ e0 depth deep count r,uL e0 depth deep count=some r→∀ {I:Imm}{p c p1 c1 p2 c2}{r0:Nat},(S4 I p e0.Index.Coefs c)→(S4 I p1 e0.Read.Subs c1)→(S4 I p2 e0.Kids c2)→RT 156 [vA (cExpr e0 p c p1 c1 p2 c2),vI depth,vI deep,vP r0 0] I [hB r0 [vI count]] (zCf r0 r):=by
 refine uL.partial_correctness _ fun F_impl_exprScan ih_impl_exprScan e0 depth deep count r N I p c p1 c1 p2 c2 r0 h h1 h2=>yL Tryz.func156 fun B=>?_;have H:=iS I;refine yF<|tX (cExpr e0 p c p1 c1 p2 c2) ?_;intro b hb;refine vG [] []<|xG<|yH 5 [1] [12,13] rfl<|xQ 1 [vI (W (count + 1))] rfl<|yE rfl<|zX<|zZ ?_;refine wP N [hB b (cExpr e0 p c p1 c1 p2 c2),hB r0 [vI (W (count + 1))]] (fun t21=>[(1,vI depth),(2,vI deep),(3,vP r0 0),(4,vP b 0),(21,.bool t21)]) (fun o0 ho0=>?_) ?_
 · have H:=iS I;refine zL<|yH 5 [1] [18] rfl<|xZ [18] ho0 ?_ ?_
   · intro hc N;exact vG [] [(21,vY)]<|yO<|zV (ct N H)
   intro hc N;exact yJ [] [21] rfl<|yO<|zV (ct N H)
 intro t21 I0 le hMc;have ⟨h,h1,h2,H⟩:=m4 le h h1 h2 H;refine zI<|yB hMc ?_ ?_
 · intro hc1 N;refine wV [(8,vF)]<|xB<|zF ?_;obtain rfl:=zB N;exact xC ⟨_,_,(.tmp rfl ResV.nil),(zW [1] rfl (by decide)),⟨_,_,rfl,rfl,rfl,rfl⟩⟩
 intro hc1 N;refine zS<|zX<|zZ ?_;refine wP N [hB b (cExpr e0 p c p1 c1 p2 c2),hB r0 [vI (W (count + 1))]] (fun t51=>[(1,vI depth),(2,vI deep),(3,vP r0 0),(4,vP b 0),(51,.bool t51)]) (fun o01 ho01=>?_) ?_
 · have H:=iS I0;refine zL<|yH 4 [0] [25] rfl<|xZ [25] ho01 ?_ ?_
   · intro hc2 N;refine yH 9 [0] [30] rfl<|xZ [30] N ?_ ?_
     · intro hc3 N;exact vG [] [(51,vY)]<|yO<|zV (ct N H)
     intro hc3 N;refine yH 13 [0] [34] rfl<|xZ [34] N ?_ ?_
     · intro hc4 N;refine oD 15 [0] [(36,vA (cAff e0.Index p c))]<|bE N fun y hy N=>uH (zAc e0.Index _ hy h) ?_;intro I02 le1;have ⟨h1,H⟩:=m2 le1 h1 H;refine yH 20 [] [41] rfl<|xZ [41] N ?_ ?_
       · intro hc5 N;exact vG [] [(51,vY)]<|yO<|zV (ct N H)
       intro hc5 N;refine yH 24 [0] [45] rfl<|xZ [45] N ?_ ?_
       · intro hc6 N;refine oD 26 [0] [(47,vA (cAccess e0.Read p1 c1))]<|bE N fun y1 hy1 N=>uH (jT e0.Read _ hy1 h1) ?_;intro I03 le2;have H:=H.trans le2;exact yJ [] [51] rfl<|yO<|zV (ct N H)
       intro hc6 N;exact vG [] [(51,vF)]<|yO<|zV (ct N H)
     intro hc4 N;refine yH 24 [0] [41,45] rfl<|xZ [45] N ?_ ?_
     · intro hc7 N;refine oD 26 [0] [(47,vA (cAccess e0.Read p1 c1))]<|bE N fun y2 hy2 N=>uH (jT e0.Read _ hy2 h1) ?_;intro I04 le3;have H:=H.trans le3;exact yJ [] [51] rfl<|yO<|zV (ct N H)
     intro hc7 N;exact vG [] [(51,vF)]<|yO<|zV (ct N H)
   intro hc2 N;refine yH 13 [0] [30,34] rfl<|xZ [34] N ?_ ?_
   · intro hc8 N;refine oD 15 [0] [(36,vA (cAff e0.Index p c))]<|bE N fun y3 hy3 N=>uH (zAc e0.Index _ hy3 h) ?_;intro I05 le4;have ⟨h1,H⟩:=m2 le4 h1 H;refine yH 20 [] [41] rfl<|xZ [41] N ?_ ?_
     · intro hc9 N;exact vG [] [(51,vY)]<|yO<|zV (ct N H)
     intro hc9 N;refine yH 24 [0] [45] rfl<|xZ [45] N ?_ ?_
     · intro hc10 N;refine oD 26 [0] [(47,vA (cAccess e0.Read p1 c1))]<|bE N fun y4 hy4 N=>uH (jT e0.Read _ hy4 h1) ?_;intro I06 le5;have H:=H.trans le5;exact yJ [] [51] rfl<|yO<|zV (ct N H)
     intro hc10 N;exact vG [] [(51,vF)]<|yO<|zV (ct N H)
   intro hc8 N;refine yH 24 [0] [41,45] rfl<|xZ [45] N ?_ ?_
   · intro hc11 N;refine oD 26 [0] [(47,vA (cAccess e0.Read p1 c1))]<|bE N fun y5 hy5 N=>uH (jT e0.Read _ hy5 h1) ?_;intro I07 le6;have H:=H.trans le6;exact yJ [] [51] rfl<|yO<|zV (ct N H)
   intro hc11 N;exact vG [] [(51,vF)]<|yO<|zV (ct N H)
 intro t51 I01 le7 hMc1;have ⟨h,h1,h2,H⟩:=m4 le7 h h1 h2 H;refine zI<|yB hMc1 ?_ ?_
 · intro hc12 N;refine wV [(8,vF)]<|xB<|zF ?_;obtain rfl:=zB N;exact xC ⟨_,_,(.tmp rfl ResV.nil),(zW [1] rfl (by decide)),⟨_,_,rfl,rfl,rfl,rfl⟩⟩
 intro hc12 N;refine zS<|zX<|yG<|yF<|yJ [0] [52] rfl<|zI<|yB N ?_ ?_
 · intro hc13 N;refine zZ ?_;refine wP N [hB r0 [vI (W (count + 1))]] (fun t8=>[(8,.bool t8)]) (fun o02 ho02=>?_) ?_
   · have H:=iS I01;refine zL<|yH 2 [0] [57] rfl ?_;obtain ⟨y6,hy6,N⟩:=zC ho02;refine uH (wO e0.Num 0 99 _ hy6 ) ?_;intro I09 le8;have H:=H.trans le8;refine yH 4 [] [59] rfl<|xZ [59] N ?_ ?_
     · intro hc14 N;exact yJ [0] [8] rfl<|wA (zW [1] rfl (by decide))<|yO<|zV (ct N H)
     intro hc14 N;exact vG [] [(8,vF)]<|wA (zW [1] rfl (by decide))<|yO<|zV (ct N H)
   intro t8 I08 le9 hMc2;refine xB<|zU<|zF ?_;obtain rfl:=zB hMc2;exact xC ⟨_,_,(.tmp rfl ResV.nil),(zW [0] rfl (by decide)),⟨_,_,rfl,rfl,rfl,rfl⟩⟩
 intro hc13 N;refine yF<|yJ [0] [65] rfl<|zI<|yB N ?_ ?_
 · intro hc15 N;refine zZ ?_;refine wP N [hB r0 [vI (W (count + 1))]] (fun t81=>[(8,.bool t81)]) (fun o03 ho03=>?_) ?_
   · have H:=iS I01;refine zL<|oD 2 [0] [(70,vA (cAff e0.Index p c))] ?_;obtain ⟨y7,hy7,N⟩:=zC ho03;refine uH (oV e0.Index _ hy7 h) ?_;intro I011 le10;have ⟨h,H⟩:=m2 le10 h H;refine yH 4 [] [72] rfl<|xZ [72] N ?_ ?_
     · intro hc16 N;refine oD 6 [0] [(74,vA (cAff e0.Index p c))]<|bE N fun y8 hy8 N=>jD (jK e0.Index _ hy8 h) ?_;intro I012 le11;have H:=H.trans le11;refine yH 11 [] [79] rfl<|xZ [79] N ?_ ?_
       · intro hc17 N;exact yJ [0] [8] rfl<|wA (zW [1] rfl (by decide))<|yO<|zV (ct N H)
       intro hc17 N;exact vG [] [(8,vF)]<|wA (zW [1] rfl (by decide))<|yO<|zV (ct N H)
     intro hc16 N;exact vG [] [(8,vF)]<|wA (zW [1] rfl (by decide))<|yO<|zV (ct N H)
   intro t81 I010 le12 hMc3;refine xB<|zU<|zF ?_;obtain rfl:=zB hMc3;exact xC ⟨_,_,(.tmp rfl ResV.nil),(zW [0] rfl (by decide)),⟨_,_,rfl,rfl,rfl,rfl⟩⟩
 intro hc15 N;refine yF<|yJ [0] [85] rfl<|zI<|yB N ?_ ?_
 · intro hc18 N;refine zZ ?_;refine wP N [hB r0 [vI (W (count + 1))]] (fun t82=>[(8,.bool t82)]) (fun o04 ho04=>?_) ?_
   · have H:=iS I01;refine zL<|oD 3 [0] [(90,vA (cAccess e0.Read p1 c1)),(91,vI depth)] ?_;obtain ⟨y9,hy9,N⟩:=zC ho04;refine uH (zAb e0.Read depth _ hy9 h1) ?_;intro I014 le13;have H:=H.trans le13;refine yH 5 [] [93] rfl<|xZ [93] N ?_ ?_
     · intro hc19 N;exact yJ [0] [8] rfl<|wA (zW [1] rfl (by decide))<|yO<|zV (ct N H)
     intro hc19 N;exact vG [] [(8,vF)]<|wA (zW [1] rfl (by decide))<|yO<|zV (ct N H)
   intro t82 I013 le14 hMc4;refine xB<|zU<|zF ?_;obtain rfl:=zB hMc4;exact xC ⟨_,_,(.tmp rfl ResV.nil),(zW [0] rfl (by decide)),⟨_,_,rfl,rfl,rfl,rfl⟩⟩
 intro hc18 N;refine zZ ?_;refine wP N [hB b (cExpr e0 p c p1 c1 p2 c2),hB r0 [vI (W (count + 1))]] (fun t99=>[(1,vI depth),(2,vI deep),(3,vP r0 0),(4,vP b 0),(99,.bool t99)]) (fun o05 ho05=>?_) ?_
 · have H:=iS I01;refine zL<|yH 2 [0] [101] rfl ?_;obtain ⟨y10,hy10,N⟩:=zC ho05;refine uH (zHP e0.Kind _ hy10 ) ?_;intro I016 le15;have H:=H.trans le15;refine yH 5 [] [104] rfl<|xZ [104] N ?_ ?_
   · intro hc20 N;exact vG [] [(99,vY)]<|yO<|zV (ct N H)
   intro hc20 N;exact yJ [0] [99] rfl<|yO<|zV (ct N H)
 intro t99 I015 le16 hMc5;have ⟨h2,H⟩:=m2 le16 h2 H;refine zI<|yB hMc5 ?_ ?_
 · intro hc21 N;refine wV [(8,vF)]<|xB<|zU<|zF ?_;obtain rfl:=zB N;exact xC ⟨_,_,(.tmp rfl ResV.nil),(zW [1] rfl (by decide)),⟨_,_,rfl,rfl,rfl,rfl⟩⟩
 intro hc21 N;refine zS<|zO<|zI<|zZ ?_;obtain ⟨o06,ho06,hMc6⟩:=zC N;refine oC (fun I' hs' m'=>∃ (t83:Bool) (x:Int),o06=(t83,x)∧I015.le I'∧hs'=[hB r0 [vI x]]∧m'=[(8,.bool t83)]) ?_ ?_
 · have H:=iS I015;refine zL<|yH 2 [0] [111] rfl ?_;obtain ⟨x1,hy11,N⟩:=zC ho06;refine xS rfl rfl h2 hy11 ?_;intro ad ccs hat hrep;obtain ⟨p3,c3,p4,c4,p5,c5,rfl,h14,h15,h16⟩:=tC hrep;refine xL 0 hat (cExpr x1 p3 c3 p4 c4 p5 c5) (vA (cExpr x1 p3 c3 p4 c4 p5 c5)) rfl<|yH 8 [] [114,116,117] rfl<|rW (zY [1,0] (hs':=[hB r0 [vI (W (count + 1))],hB b (cExpr e0 p c p1 c1 p2 c2)])) ?_;obtain ⟨⟨y12,y13⟩,hy12,N⟩:=zC N;refine sR (ih_impl_exprScan x1 depth (W (deep + 1)) (W (count + 1)) _ hy12 h14 h15 h16) rfl ?_;rintro I018 hs2 v2 k2 le17 - ⟨v014,kk,rfl,rfl,rfl,h18⟩ -;have ⟨h2,H⟩:=m2 le17 h2 H;obtain rfl:=h18;refine yH 10 [] [119] rfl<|xZ [119] N ?_ ?_
   · intro hc22 N;refine yH 12 [1] [121] rfl<|bE N fun x2 hy13 N=>xS rfl rfl h2 hy13 ?_;intro ad1 ccs1 hat1 hrep1;obtain ⟨p6,c6,p7,c7,p8,c8,rfl,h19,h20,h21⟩:=tC hrep1;refine xL 0 hat1 (cExpr x2 p6 c6 p7 c7 p8 c8) (vA (cExpr x2 p6 c6 p7 c7 p8 c8)) rfl<|yH 18 [] [124,126,127] rfl ?_;obtain ⟨⟨y15,y16⟩,hy14,N⟩:=zC N;refine sR (ih_impl_exprScan x2 depth (W (deep + 1)) y13 _ hy14 h19 h20 h21) rfl ?_;rintro I019 hs2 v2 k2 le18 - ⟨v018,kk1,rfl,rfl,rfl,h23⟩ -;have H:=H.trans le18;obtain rfl:=h23;exact yJ [] [8] rfl<|wA (zW [0] rfl (by decide))<|yO<|zV ⟨_,_,(zB N).symm,H,rfl,rfl⟩
   intro hc22 N;exact vG [] [(8,vF)]<|wA (zW [0] rfl (by decide))<|yO<|zV ⟨_,_,(zB N).symm,H,rfl,rfl⟩
 rintro I017 hs2 m2 ⟨t83,x,heq6,le19,rfl,rfl⟩;subst o06;refine zI<|yZ ?_;obtain rfl:=zB hMc6;exact xC ⟨_,_,(.tmp rfl ResV.nil),(zW [0] rfl (by decide)),⟨_,_,rfl,rfl,rfl,rfl⟩⟩
def kF (s:zQ) (depth:Int):Option (Bool):=do
 let t4←(do
   let y←wE depth 0 4
   if y then
    let y1←nV s.Write depth
    if y1 then
     let (y3,y4)←uL s.Value depth 1 0
     pure (id y3)
    else
     pure false
   else
    pure false
     : Option Bool)
 pure (id t4)
theorem zD8:∀ s depth r,kF s depth=some r→∀ {I:Imm}{p c p1 c1 p2 c2 p3 c3},(S4 I p s.Write.Subs c)→(S4 I p1 s.Value.Index.Coefs c1)→(S4 I p2 s.Value.Read.Subs c2)→(S4 I p3 s.Value.Kids c3)→RT 105 [vA (cStmt s p c p1 c1 p2 c2 p3 c3),vI depth] I [] (zT  r):=by
 intro s depth r N I p c p1 c1 p2 c2 p3 c3 h h1 h2 h3;unfold kF at N;refine yL Tryz.func105 fun B=>?_;have H:=iS I;refine yF<|tX (cStmt s p c p1 c1 p2 c2 p3 c3) ?_;intro b hb;refine vG [] []<|xG<|uF [vI 0] ?_;intro b1 hb1;refine xQ 0 [vI 0] rfl<|yE rfl<|zI<|zZ ?_;refine wP N [] (fun t4=>[(4,.bool t4)]) (fun o0 ho0=>?_) ?_
 · have H:=iS I;refine zL<|yH 1 [] [6] rfl ?_;obtain ⟨y,hy,N⟩:=zC ho0;refine uH (wO depth 0 4 _ hy ) ?_;intro I01 le;have ⟨h,h1,h2,h3,H⟩:=m5 le h h1 h2 h3 H;refine yH 3 [] [8] rfl<|xZ [8] N ?_ ?_
   · intro hc N;refine oD 6 [1] [(10,vA (cAccess s.Write p c)),(11,vI depth)]<|bE N fun y1 hy1 N=>uH (zAb s.Write depth _ hy1 h) ?_;intro I02 le1;have ⟨h1,h2,h3,H⟩:=m4 le1 h1 h2 h3 H;refine yH 9 [] [14] rfl<|xZ [14] N ?_ ?_
     · intro hc1 N;refine oD 12 [1] [(16,vA (cExpr s.Value p1 c1 p2 c2 p3 c3)),(17,vI depth)] ?_;obtain ⟨⟨y3,y4⟩,hy2,N⟩:=zC N;refine sR (zET s.Value depth 1 0 _ hy2 h1 h2 h3) rfl ?_;rintro I03 hs2 v2 k2 le2 - ⟨v02,kk,rfl,rfl,rfl,h7⟩ -;have H:=H.trans le2;obtain rfl:=h7;exact yJ [] [4] rfl<|wA zP<|yO<|zV (ct N H)
     intro hc1 N;exact vG [] [(4,vF)]<|wA zP<|yO<|zV (ct N H)
   intro hc N;exact vG [] [(4,vF)]<|wA zP<|yO<|zV (ct N H)
 intro t4 I0 le3 hMc;refine zI<|yZ ?_;obtain rfl:=zB hMc;exact wL
def vD (s:zQ) (x:zN):Option (Bool):=do
 let y←kF s (x.Nest.length:Int)
 pure (!y)
theorem eX:∀ s x r,vD s x=some r→∀ {I:Imm}{p c p1 c1 p2 c2 p3 c3}{ad:Addr}{p4 c4 p5 c5},(S4 I p s.Write.Subs c)→(S4 I p1 s.Value.Index.Coefs c1)→(S4 I p2 s.Value.Read.Subs c2)→(S4 I p3 s.Value.Kids c3)→(S4 I p4 x.Nest c4)→(S4 I p5 x.Body c5)→(At I ad (cPart x p4 c4 p5 c5))→RT 104 [vA (cStmt s p c p1 c1 p2 c2 p3 c3),.pointer (some ad)] I [] (zT  r):=by
 intro s x r N I p c p1 c1 p2 c2 p3 c3 ad p4 c4 p5 c5 h h1 h2 h3 h4 h5 hat;unfold vD at N;refine yL Tryz.func104 fun B=>yF<|tX (cStmt s p c p1 c1 p2 c2 p3 c3) ?_;intro b hb;refine vG [] []<|xG<|oD 2 [0] [(4,vA (cStmt s p c p1 c1 p2 c2 p3 c3)),(5,.pointer (some ad))]<|xL 0 hat [vS p4 x.Nest c4] (vS p4 x.Nest c4) rfl<|yH 4 [] [7] rfl<|bE N fun y hy N=>uH (zD8 s (x.Nest.length:Int) _ hy h h1 h2 h3) fun I0 le=>yJ [] [3] rfl<|zI<|yZ ?_;obtain rfl:=zB N;exact wL
def pQ (n0:Int):Option (Bool):=do
 let y←wE n0 (-9999) 9999
 pure (!y)
theorem zD9:∀ n0 r,pQ n0=some r→∀ {I:Imm} ,RT 157 [vI n0] I [] (zT  r):=by
 intro n0 r N I;unfold pQ at N;refine yL Tryz.func157 fun B=>wV []<|xG<|yH 1 [] [3] rfl<|bE N fun y hy N=>uH (wO n0 (-9999) 9999 _ hy ) fun I0 le=>yJ [] [2] rfl<|zI<|yZ ?_;obtain rfl:=zB N;exact wL
def jL (point:(List Int)):Option (Bool):=do
 let t2←(do
   if (decide ((point.length:Int) ≤ 4)) then
    let y←xK point pQ
    pure (!y)
   else
    pure false
     : Option Bool)
 pure (id t2)
theorem zEw:∀ point r,jL point=some r→∀ {I:Imm}{p c},(S4 I p point c)→RT 106 [vS p point c] I [] (zT  r):=by
 intro point r N I p c h;unfold jL at N;refine yL Tryz.func106 fun B=>?_;have H:=iS I;refine wV []<|zI<|zZ ?_;refine wP N [] (fun t2=>[(2,.bool t2)]) (fun o0 ho0=>?_) ?_
 · have H:=iS I;refine zL<|yH 4 [] [6] rfl<|xZ [6] ho0 ?_ ?_
   · intro hc N;refine yH 5 [] [7] rfl ?_;have hf0:FV1 Tryz.prog I [] (.func (.func 157) ⟨[]⟩ ⟨[]⟩) pQ:=by
       refine FV1.intro ?_;intro I1 le1 x0 r u0 hF k0;obtain rfl:=k0;exact (zD9 x0 r hF ).mono (by rintro k i hs u ⟨v0,rfl,rfl,h⟩; exact ⟨rfl,h⟩)
     obtain ⟨y,hy,N⟩:=zC N;refine xV (sM point pQ _ hy h hf0) ?_;rintro I01 hs2 v2 k2 le - ⟨v0,rfl,rfl,rfl⟩ -;have H:=H.trans le;exact yJ [] [2] rfl<|yO<|zV (ct N H)
   intro hc N;exact vG [] [(2,vF)]<|yO<|zV (ct N H)
 intro t2 I0 le1 hMc;refine zI<|yZ ?_;obtain rfl:=zB hMc;exact wL
def rK (hsF:List HA) (r:Int):KT:=fun kk I' hs' v=>
  ∃ v0,hsF=hs'∧v=tupV [v0]∧v0=.int .i64 r
def yY (s:(List zJ)) (f0:(zJ→Option Bool)) (t8:Int):Option (Out Unit (Int)):=do
 if (decide (t8 < (s.length:Int))) then
  let x←idx s t8
  let y←f0 x
  if y then
   pure (.ret t8)
  else
   yY s f0 (W (t8 + 1))
 else
  pure (.done ())
 partial_fixpoint
theorem mP (s:(List zJ)) (f0:(zJ→Option Bool)):∀ (t8:Int) (o:Out Unit (Int)),yY s f0 t8=some o→∀ {B}{I0 I:Imm}{Q p c}{fv:Value}{hsF:List HA},I0.le I→(S4 I p s c)→(FV1 Tryz.prog I hsF fv f0)→NG Q→NO Q→(∀ (I':Imm) ,o=(.done ())→I0.le I'→T 19 B Q (.exit 0) I' hsF [])→(∀ r I' hs' m',o=(.ret r)→I0.le I'→RS Tryz.prog Tryz.f162 B (rK hsF r) I' hs' m'→T 19 B Q .ret I' hs' m')→J Tryz.prog 19 B (nav (bodyOf Tryz.f162) [1,0,1,0]) Q I hsF [(0,vS p s c),(1,fv),(7,vI (s.length:Int)),(8,vI t8)]:=by
 refine yY.partial_correctness s f0 _ fun self ih t8 o N B I0 I Q p c fv hsF H h h1 hg ho hx hr=>yR hg ho<|yD [9] rfl<|zX<|yB N ?_ ?_
 · intro hc N;refine zS<|zX<|yG<|yD [5] rfl<|xG<|yH 3 [] [11,12,13] rfl<|bE N fun x hy N=>xS rfl rfl h hy ?_;intro ad ccs hat hrep;obtain ⟨p1,c1,rfl,h2⟩:=oE hrep;refine xL 0 hat (cAccess x p1 c1) (vA (cAccess x p1 c1)) rfl<|bE N fun y hy1 N=>zJI rfl rfl h1 hy1 ⟨_,rfl,(nD ⟨_,rfl,h2⟩)⟩ (List.append_nil _).symm ?_;rintro I0 v01 le rfl;refine uG (hs':=hsF) (List.append_nil _) ?_;have ⟨h,h1,H⟩:=m3 le h h1 H;refine yE rfl<|zI<|yB N ?_ ?_
   · intro hc1 N;exact yD [4] rfl<|xB<|zU<|zF<|zF<|hr _ _ _ _ (zB N).symm H ⟨_,_,(.tmp rfl ResV.nil),(fun _ h=>h),⟨_,rfl,rfl,rfl⟩⟩
   intro hc1 N;exact zS<|zO<|zI<|zL<|yJ [] [8] rfl<|yQ<|nO<|ih (W (t8 + 1)) _ N H h h1 hg ho hx hr
 intro hc N;exact wY<|yO<|hx _  (zB N).symm H
def wR (s:(List zJ)) (f0:(zJ→Option Bool)):Option (Int):=do
 match←yY s f0 0 with
 | .ret r0=>pure r0
 | .done _ =>
  pure (-1)
theorem kH:∀ s f0 r,wR s f0=some r→∀ {I:Imm}{p c}{fv:Value}{hsF:List HA},(S4 I p s c)→(FV1 Tryz.prog I hsF fv f0)→RT 162 [vS p s c,fv] I hsF (rK hsF r):=by
 intro s f0 r N I p c fv hsF h h1;unfold wR at N;refine yL Tryz.func162 fun B=>wV []<|zX<|yD [7,8] rfl<|wB<|qW [(0,vS p s c),(1,fv),(7,vI (s.length:Int)),(8,vI 0)] ?_;obtain ⟨o0,ho0,hMl⟩:=zC N;refine mP s f0 0 o0 ho0 iR h h1 (fun _ _ _ h=>h) (fun _ _ h=>h) ?_ ?_
 · intro I01  heq le1;subst o0;refine zR<|wW [4] rfl<|zI<|yZ ?_;obtain rfl:=zB hMl;exact xC ⟨_,_,(.tmp rfl ResV.nil),(fun _ h=>h),⟨_,rfl,rfl,rfl⟩⟩
 intro r0 I9 hs9 m9 heq9 le9 hrs9;subst heq9;refine zU<|zF ?_;obtain rfl:=zB hMl;exact xC hrs9
def nQ (hsF:List HA) (r:Bool):KT:=fun kk I' hs' v=>
  ∃ v0,hsF=hs'∧v=tupV [v0]∧v0=.bool r
def xR (s:(List zJ)) (f0:(zJ→Option Bool)):Option (Bool):=do
 let y←wR s f0
 pure (decide (y ≥ 0))
theorem mQ:∀ s f0 r,xR s f0=some r→∀ {I:Imm}{p c}{fv:Value}{hsF:List HA},(S4 I p s c)→(FV1 Tryz.prog I hsF fv f0)→RT 110 [vS p s c,fv] I hsF (nQ hsF r):=by
 intro s f0 r N I p c fv hsF h h1;unfold xR at N;refine yL Tryz.func110 fun B=>wV []<|xG<|yH 2 [] [5,6] rfl<|bE N fun y hy N=>zDq (hs1:=hsF) (rest:=[]) rfl rfl rfl rfl (by kernel_rfl) rfl (List.append_nil _).symm (kH s f0 _ hy h h1) ?_;rintro I0 hs2 v2 k2 le - ⟨v0,rfl,rfl,rfl⟩ -;refine uG (hs':=hsF) (List.append_nil _) ?_;refine yJ [] [4] rfl<|zI<|yZ ?_;obtain rfl:=zB N;exact xC ⟨_,_,(.tmp rfl ResV.nil),(fun _ h=>h),⟨_,rfl,rfl,rfl⟩⟩
def zBL (r:(List zJ)):KT:=fun kk I' hs' v=>
  ∃ v0,hs'=[]∧v=tupV [v0]∧SL I' v0 r
mutual
def mE (e0:zG):Option ((List zJ)):=do
 if (e0.Kind == 3) then
  pure ([e0.Read]:List zJ)
 else
  let out1←oO (same e0) ([]:List zJ) (same 0)
  pure (id out1)
 partial_fixpoint
def oO (e0:zG) (out:List zJ) (t15:Int):Option (List zJ):=do
 if (decide (t15 < (e0.Kids.length:Int))) then
  let x←idx e0.Kids t15
  let y←mE (same x)
  let out2←app 40 out y
  oO (same e0) (same out2) (W (t15 + 1))
 else
  pure (id out)
 partial_fixpoint
end
theorem zFp:(∀ (e0:zG) r,mE e0=some r→∀ {I:Imm}{p c p1 c1 p2 c2},(S4 I p e0.Index.Coefs c)→(S4 I p1 e0.Read.Subs c1)→(S4 I p2 e0.Kids c2)→RT 111 [vA (cExpr e0 p c p1 c1 p2 c2)] I [] (zBL  r))∧(∀ (e0:zG) (out:List zJ) (t15:Int) o,oO e0 out t15=some o→∀ {B}{I0 I:Imm}{Q p2 c2 p3 c3 cs},I0.le I→(S4 I p2 e0.Kids c2)→(RL I cs out)→NG Q→NO Q→(∀ (I':Imm) (out1:List zJ) (p4:Option Addr) (c4:Nat) (cs1:List Value),o=out1→I0.le I'→(RL I' cs1 out1)→T 25 B Q (.exit 0) I' [hO zJ (vS p4 out1 c4) cs1] [(3,vS p4 out1 c4)])→J Tryz.prog 25 B (nav (bodyOf Tryz.f111) [1,1,1,0,1,0]) Q I [hO zJ (vS p3 out c3) cs] [(3,vS p3 out c3),(13,vS p2 e0.Kids c2),(14,vI (e0.Kids.length:Int)),(15,vI t15)]):=by
  refine mE.mutual_partial_correctness _ _ ?_ ?_
  · intro F_impl_reads_l1 ih_impl_reads_l1 e0 r N I p c p1 c1 p2 c2 h h1 h2;refine yL Tryz.func111 fun B=>yF<|tX (cExpr e0 p c p1 c1 p2 c2) ?_;intro b hb;refine vG [] []<|zX<|yF<|yJ [0] [8] rfl<|zI<|yB N ?_ ?_
    · intro hc N;refine yF<|oD 2 [0] [(10,vA (cAccess e0.Read p1 c1))]<|tJ (cAccess e0.Read p1 c1) zJ ?_;intro b1 hb1;have h3:RL I (cAccess e0.Read p1 c1) ([e0.Read]:List zJ):=⟨(cAccess e0.Read p1 c1),_,rfl,rfl,(nD ⟨_,rfl,h1⟩),rfl⟩;refine yJ [] [2] rfl<|xB<|zF<|xA 0 rfl ?_;intro I0 le hl0;have h4:=SL.of_frozen hl0 le h3;obtain rfl:=zB N;exact xC ⟨_,_,(.tmp rfl ResV.nil),zP,⟨_,rfl,rfl,h4⟩⟩
    intro hc N;refine zS<|zDB [(3,z0)]<|zX<|yF<|yJ [0] [13,14,15] rfl<|wB<|jR (zY [] (hs':=[]))<|qW [(3,z0),(13,vS p2 e0.Kids c2),(14,vI (e0.Kids.length:Int)),(15,vI 0)]<|eV zJ fun h5=>?_;obtain ⟨o0,ho0,hMl⟩:=zC N;refine ih_impl_reads_l1 e0 ([]:List zJ) 0 o0 ho0 iR h2 h5 (fun _ _ _ h=>h) (fun _ _ h=>h) ?_;intro I02 out1 p4 c4 cs1 heq le2 h7;subst o0;refine zR<|wW [2] rfl<|xB<|xA 0 rfl ?_;intro I03 le3 hl01;have h13:=SL.of_frozen hl01 le3 h7;obtain rfl:=zB hMl;exact xC ⟨_,_,(.tmp rfl ResV.nil),zP,⟨_,rfl,rfl,h13⟩⟩
  intro F_impl_reads F_impl_reads_l1 ih_impl_reads ih_impl_reads_l1 e0 out t15 o N B I0 I Q p2 c2 p3 c3 cs H h2 h6 hg ho hx;refine yR hg ho<|yD [16] rfl<|zX<|yB N ?_ ?_
  · intro hc1 N;refine zS<|zX<|yG<|yF<|bE N fun x hy N=>xS rfl rfl h2 hy ?_;intro ad ccs hat hrep;obtain ⟨p5,c5,p6,c6,p7,c7,rfl,h8,h9,h10⟩:=tC hrep;refine xL 0 hat (cExpr x p5 c5 p6 c6 p7 c7) (vA (cExpr x p5 c5 p6 c6 p7 c7)) rfl<|uF zExpr ?_;intro b2 hb2;refine xQ 0 (cExpr x p5 c5 p6 c6 p7 c7) rfl<|yE rfl<|zI<|zL<|oD 2 [0] [(19,vS p3 out c3),(20,vA (cExpr x p5 c5 p6 c6 p7 c7))]<|bE N fun y hy1 N=>xV (ih_impl_reads x _ hy1 h8 h9 h10) ?_;rintro I01 hs2 v2 k2 le1 - ⟨v03,rfl,rfl,h11⟩ -;have ⟨h2,h6,H⟩:=m3 le1 h2 h6 H;obtain ⟨p8,c8,rfl⟩:=h11.form;obtain ⟨ccs1,k0,k01⟩:=h11;have h11:SL I01 (vS p8 y c8) y:=⟨_,k0,k01⟩;obtain ⟨out2,hy2,N⟩:=zC N;exact qB 35 2 1 rfl rfl rfl h6 (.inl k0) k01 hy2 fun p9 c9 cs2 h12=>rW (zY [0,1] (hs':=[hB b2 (cExpr x p5 c5 p6 c6 p7 c7),hO zJ (vS p9 out2 c9) cs2]))<|yJ [] [3] rfl<|zO<|zI<|zL<|yJ [] [15] rfl<|yQ<|jR (zW [1] rfl (by decide))<|nO<|ih_impl_reads_l1 e0 out2 (W (t15 + 1)) _ N H h2 h12 hg ho hx
  intro hc1 N;exact wY<|yO<|hx _ _ _ _ _ (zB N).symm H h6
theorem zCO:∀ e0 r,mE e0=some r→∀ {I:Imm}{p c p1 c1 p2 c2},(S4 I p e0.Index.Coefs c)→(S4 I p1 e0.Read.Subs c1)→(S4 I p2 e0.Kids c2)→RT 111 [vA (cExpr e0 p c p1 c1 p2 c2)] I [] (zBL  r):=zFp.1
def sD (a0:zH) (n0:Int) (t9:Int):Option (Int):=do
 if (decide (t9 < (a0.Dims.length:Int))) then
  let x←idx a0.Dims t9
  sD a0 (W (n0 * x)) (W (t9 + 1))
 else
  pure (id n0)
 partial_fixpoint
theorem zBR (a0:zH):∀ (n0:Int) (t9:Int) (o:Int),sD a0 n0 t9=some o→∀ {B}{I0 I:Imm}{Q p c},I0.le I→(S4 I p a0.Dims c)→NG Q→NO Q→(∀ (I':Imm) (n01:Int),o=n01→I0.le I'→T 18 B Q (.exit 0) I' [] [(3,vI n01)])→J Tryz.prog 18 B (nav (bodyOf Tryz.f203) [1,1,0,1,0]) Q I [] [(3,vI n0),(7,vS p a0.Dims c),(8,vI (a0.Dims.length:Int)),(9,vI t9)]:=by
 refine sD.partial_correctness a0 _ fun self ih n0 t9 o N B I0 I Q p c H h hg ho hx=>yR hg ho<|yD [10] rfl<|zX<|yB N ?_ ?_
 · intro hc N;refine zS<|zX<|yG<|yF<|bE N fun x hy N=>xS rfl rfl h hy ?_;intro ad ccs hat hrep;obtain rfl:=hrep;exact xL 0 hat [vI x] (vI x) rfl<|yJ [] [5] rfl<|zI<|zL<|yJ [] [3] rfl<|zO<|zI<|zL<|yJ [] [9] rfl<|yQ<|nO<|ih (W (n0 * x)) (W (t9 + 1)) _ N H h hg ho hx
 intro hc N;exact wY<|yO<|hx _ _ (zB N).symm H
def mF (a0:zH):Option (Int):=do
 let n01←sD a0 1 0
 pure (id n01)
theorem zCg:∀ a0 r,mF a0=some r→∀ {I:Imm}{p c},(S4 I p a0.Dims c)→RT 203 [vA (cArr a0 p c)] I [] (yP  r):=by
 intro a0 r N I p c h;unfold mF at N;refine yL Tryz.func203 fun B=>yF<|tX (cArr a0 p c) ?_;intro b hb;refine vG [] []<|wW [3] rfl<|zX<|yF<|yJ [0] [7,8,9] rfl<|wB<|jR (zY [] (hs':=[]))<|qW [(3,vI 1),(7,vS p a0.Dims c),(8,vI (a0.Dims.length:Int)),(9,vI 0)] ?_;obtain ⟨o0,ho0,hMl⟩:=zC N;refine zBR a0 1 0 o0 ho0 iR h (fun _ _ _ h=>h) (fun _ _ h=>h) ?_;intro I0 n01 heq le;subst o0;refine zR<|wW [2] rfl<|zI<|yZ ?_;obtain rfl:=zB hMl;exact wL
def tH (a0:zJ) (point:(List Int)) (x:zH) (at0:Int) (t40:Int):Option (Out Int (Int)):=do
 if (decide (t40 < (a0.Subs.length:Int))) then
  let x1←idx a0.Subs t40
  let y1←tG x1 point
  let x2←idx x.Dims t40
  let y2←wE y1 0 (W (x2 - 1))
  if (!y2) then
   pure (.ret (-1))
  else
   let x3←idx x.Dims t40
   tH a0 point x (W ((W (at0 * x3)) + y1)) (W (t40 + 1))
 else
  pure (.done at0)
 partial_fixpoint
theorem zAd (a0:zJ) (point:(List Int)) (x:zH):∀ (at0:Int) (t40:Int) (o:Out Int (Int)),tH a0 point x at0 t40=some o→∀ {B}{I0 I:Imm}{Q}{first:Int}{p3 c2 p4 c3 p5 c4}{b2:Nat},I0.le I→(S4 I p4 point c3)→(S4 I p3 a0.Subs c2)→(S4 I p5 x.Dims c4)→NG Q→NO Q→(∀ (I':Imm) (at01:Int),o=(.done at01)→I0.le I'→T 71 B Q (.exit 2) I' [] [(7,vI first),(10,vI at01)])→(∀ r I' hs' m',o=(.ret r)→I0.le I'→RS Tryz.prog Tryz.f158 B (yP  r) I' hs' m'→T 71 B Q .ret I' hs' m')→J Tryz.prog 71 B (nav (bodyOf Tryz.f158) [1,1,0,1,0,0,1,1,0,0,1,1,1,1,0,1,0]) Q I [hB b2 (cArr x p5 c4)] [(2,vS p4 point c3),(7,vI first),(9,vP b2 0),(10,vI at0),(38,vS p3 a0.Subs c2),(39,vI (a0.Subs.length:Int)),(40,vI t40)]:=by
 refine tH.partial_correctness a0 point x _ fun self ih at0 t40 o N B I0 I Q first p3 c2 p4 c3 p5 c4 b2 H h3 h2 h4 hg ho hx hr=>yR hg ho<|yD [41] rfl<|zX<|yB N ?_ ?_
 · intro hc3 N;refine zS<|zX<|yG<|yF<|yH 1 [] [42] rfl<|bE N fun x1 hy2 N=>xS rfl rfl h2 hy2 ?_;intro ad1 ccs1 hat1 hrep1;obtain ⟨p6,c5,rfl,h6⟩:=yN hrep1;refine xL 0 hat1 (cAff x1 p6 c5) (vA (cAff x1 p6 c5)) rfl<|uF [z0,vI 0] ?_;intro b3 hb3;refine yH 5 [] [11] rfl<|xQ 0 (cAff x1 p6 c5) rfl<|yE rfl<|xG<|oD 2 [0] [(45,vA (cAff x1 p6 c5)),(46,vS p4 point c3)]<|bE N fun y1 hy3 N=>jD (oW x1 point _ hy3 h6 h3) ?_;intro I01 le1;have ⟨h3,h2,h4,H⟩:=m4 le1 h3 h2 h4 H;refine yJ [] [13] rfl<|zX<|yF<|yH 4 [1] [48,50,51] rfl<|bE N fun x2 hy4 N=>xS rfl rfl h4 hy4 ?_;intro ad2 ccs2 hat2 hrep2;obtain rfl:=hrep2;refine xL 0 hat2 [vI x2] (vI x2) rfl<|yH 7 [] [54] rfl<|bE N fun y2 hy5 N=>uH (wO y1 0 (W (x2 - 1)) _ hy5 ) ?_;intro I02 le2;have ⟨h3,h2,h4,H⟩:=m4 le2 h3 h2 h4 H;refine yJ [] [56] rfl<|zI<|yB N ?_ ?_
   · intro hc4 N;exact yD [6] rfl<|xB<|zF<|zU<|zF<|zF<|hr _ _ _ _ (zB N).symm H ⟨_,_,(.tmp rfl ResV.nil),zP,⟨_,rfl,rfl,rfl⟩⟩
   intro hc4 N;refine zS<|zI<|zL<|yH 4 [1] [57,59,60] rfl<|bE N fun x3 hy6 N=>xS rfl rfl h4 hy6 ?_;intro ad3 ccs3 hat3 hrep3;obtain rfl:=hrep3;exact xL 0 hat3 [vI x3] (vI x3) rfl<|yJ [] [10] rfl<|zO<|zI<|zL<|yJ [] [40] rfl<|yQ<|jR (zW [1] rfl (by decide))<|nO<|ih (W ((W (at0 * x3)) + y1)) (W (t40 + 1)) _ N H h3 h2 h4 hg ho hx hr
 intro hc3 N;exact wY<|wA zP<|yO<|hx _ _ (zB N).symm H
def vX (p:zE) (a0:zJ) (point:(List Int)) (first:Int) (t17:Int):Option (Out Unit (Int)):=do
 if (decide (t17 < (p.Arrays.length:Int))) then
  let x←idx p.Arrays t17
  if (!(x.Name.l == a0.Array.l)) then
   let y←mF x
   vX p a0 point (W (first + y)) (W (t17 + 1))
  else
   if ((a0.Subs.length:Int) != (x.Dims.length:Int)) then
    pure (.ret (-1))
   else
    match←tH a0 point x 0 0 with
    | .ret r0=>pure (.ret r0)
    | .done at01 =>
     pure (.ret (W (first + at01)))
 else
  pure (.done ())
 partial_fixpoint
theorem zAe (p:zE) (a0:zJ) (point:(List Int)):∀ (first:Int) (t17:Int) (o:Out Unit (Int)),vX p a0 point first t17=some o→∀ {B}{I0 I:Imm}{Q p1 c p3 c2 p4 c3}{b1:Nat},I0.le I→(S4 I p4 point c3)→(S4 I p1 p.Arrays c)→(S4 I p3 a0.Subs c2)→NG Q→NO Q→(∀ (I':Imm) ,o=(.done ())→I0.le I'→T 71 B Q (.exit 0) I' [] [])→(∀ r I' hs' m',o=(.ret r)→I0.le I'→RS Tryz.prog Tryz.f158 B (yP  r) I' hs' m'→T 71 B Q .ret I' hs' m')→J Tryz.prog 71 B (nav (bodyOf Tryz.f158) [1,1,0,1,0]) Q I [hB b1 (cAccess a0 p3 c2)] [(2,vS p4 point c3),(4,vP b1 0),(7,vI first),(15,vS p1 p.Arrays c),(16,vI (p.Arrays.length:Int)),(17,vI t17)]:=by
 refine vX.partial_correctness p a0 point _ fun self ih first t17 o N B I0 I Q p1 c p3 c2 p4 c3 b1 H h3 h h2 hg ho hx hr=>yR hg ho<|yD [18] rfl<|zX<|yB N ?_ ?_
 · intro hc N;refine zS<|zX<|yG<|yF<|bE N fun x hy N=>xS rfl rfl h hy ?_;intro ad ccs hat hrep;obtain ⟨p5,c4,rfl,h4⟩:=vZ hrep;refine xL 0 hat (cArr x p5 c4) (vA (cArr x p5 c4)) rfl<|uF [vT ([]),z0] ?_;intro b2 hb2;refine xQ 0 (cArr x p5 c4) rfl<|yE rfl<|zX<|yF<|yJ [0,1] [25] rfl<|zI<|yB N ?_ ?_
   · intro hc1 N;refine yF<|oD 2 [0] [(26,vI first),(27,vA (cArr x p5 c4))]<|bE N fun y hy1 N=>jD (zCg x _ hy1 h4) ?_;intro I0 le;have ⟨h3,h,h2,H⟩:=m4 le h3 h h2 H;exact yJ [] [7] rfl<|zI<|zFS<|jB<|zR<|zI<|zL<|yJ [] [17] rfl<|yQ<|jR (zW [1] rfl (by decide))<|nO<|ih (W (first + y)) (W (t17 + 1)) _ N H h3 h h2 hg ho hx hr
   intro hc1 N;refine zS<|zX<|yF<|yJ [1,0] [36] rfl<|zI<|yB N ?_ ?_
   · intro hc2 N;exact yD [6] rfl<|xB<|zF<|zU<|zF<|zF<|hr _ _ _ _ (zB N).symm H ⟨_,_,(.tmp rfl ResV.nil),zP,⟨_,rfl,rfl,rfl⟩⟩
   intro hc2 N;refine zS<|wW [10] rfl<|zX<|yF<|yJ [1] [38,39,40] rfl<|wB<|jR (zY [0] (hs':=[hB b2 (cArr x p5 c4)]))<|qW [(2,vS p4 point c3),(7,vI first),(9,vP b2 0),(10,vI 0),(38,vS p3 a0.Subs c2),(39,vI (a0.Subs.length:Int)),(40,vI 0)] ?_;obtain ⟨o0,ho0,hMl⟩:=zC N;refine zAd a0 point x 0 0 o0 ho0 iR h3 h2 h4 (fun _ _ _ h=>hg _ _ _ h) (fun _ _ h=>ho _ _ h) ?_ ?_
   · intro I03 at01 heq le3;subst o0;have H:=H.trans le3;exact zR<|wW [6] rfl<|xB<|zU<|zF<|zF<|hr _ _ _ _ (zB hMl).symm H ⟨_,_,(.tmp rfl ResV.nil),zP,⟨_,rfl,rfl,rfl⟩⟩
   intro r0 I9 hs9 m9 heq9 le9 hrs9;subst heq9;exact zU<|zF<|zU<|zF<|zF<|hr _ _ _ _ (zB hMl).symm (H.trans le9) hrs9
 intro hc N;exact wY<|wA zP<|yO<|hx _  (zB N).symm H
def tR (p:zE) (a0:zJ) (point:(List Int)):Option (Int):=do
 match←vX p a0 point 0 0 with
 | .ret r0=>pure r0
 | .done _ =>
  pure (-1)
theorem mG:∀ p a0 point r,tR p a0 point=some r→∀ {I:Imm}{p1 c p2 c1 p3 c2 p4 c3},(S4 I p1 p.Arrays c)→(S4 I p2 p.Parts c1)→(S4 I p3 a0.Subs c2)→(S4 I p4 point c3)→RT 158 [vA (cProg p p1 c p2 c1),vA (cAccess a0 p3 c2),vS p4 point c3] I [] (yP  r):=by
 intro p a0 point r N I p1 c p2 c1 p3 c2 p4 c3 h h1 h2 h3;unfold tR at N;refine yL Tryz.func158 fun B=>yF<|tX (cProg p p1 c p2 c1) ?_;intro b hb;refine tX (cAccess a0 p3 c2) ?_;intro b1 hb1;refine vG [] []<|wW [7] rfl<|zX<|yF<|yJ [1] [15,16,17] rfl<|wB<|jR (zY [0] (hs':=[hB b1 (cAccess a0 p3 c2)]))<|qW [(2,vS p4 point c3),(4,vP b1 0),(7,vI 0),(15,vS p1 p.Arrays c),(16,vI (p.Arrays.length:Int)),(17,vI 0)] ?_;obtain ⟨o01,ho01,hMl1⟩:=zC N;refine zAe p a0 point 0 0 o01 ho01 iR h3 h h2 (fun _ _ _ h=>h) (fun _ _ h=>h) ?_ ?_
 · intro I04  heq1 le4;subst o01;refine zR<|wW [6] rfl<|zI<|yZ ?_;obtain rfl:=zB hMl1;exact wL
 intro r0 I9 hs9 m9 heq9 le9 hrs9;subst heq9;refine zU<|zF ?_;obtain rfl:=zB hMl1;exact xC hrs9
def uT (a0:zJ) (x:zE) (x1:(List Int)):Option (Bool):=do
 let y←tR x a0 x1
 pure (decide (y < 0))
theorem zAR:∀ a0 x x1 r,uT a0 x x1=some r→∀ {I:Imm}{p c}{ad:Addr}{p1 c1 p2 c2}{ad1:Addr}{p3 c3},(S4 I p a0.Subs c)→(S4 I p1 x.Arrays c1)→(S4 I p2 x.Parts c2)→(At I ad (cProg x p1 c1 p2 c2))→(S4 I p3 x1 c3)→(At I ad1 [vS p3 x1 c3])→RT 159 [vA (cAccess a0 p c),.pointer (some ad),.pointer (some ad1)] I [] (zT  r):=by
 intro a0 x x1 r N I p c ad p1 c1 p2 c2 ad1 p3 c3 h h1 h2 hat h3 hat1;unfold uT at N;refine yL Tryz.func159 fun B=>yF<|tX (cAccess a0 p c) ?_;intro b hb;refine vG [] []<|xG<|xL 0 hat (cProg x p1 c1 p2 c2) (vA (cProg x p1 c1 p2 c2)) rfl<|oD 2 [0] [(6,vA (cAccess a0 p c))]<|xL 0 hat1 [vS p3 x1 c3] (vS p3 x1 c3) rfl<|bE N fun y hy N=>jD (mG x a0 x1 _ hy h1 h2 h h3) fun I0 le=>yJ [] [4] rfl<|zI<|yZ ?_;obtain rfl:=zB N;exact wL
def qX (p:zE) (s:zQ) (point:(List Int)):Option (Bool):=do
 let t6←(do
   let y←tR p s.Write point
   if (decide (y ≥ 0)) then
    let y1←mE s.Value
    let y2←xR y1 (fun x0=>uT x0 p point)
    pure (!y2)
   else
    pure false
     : Option Bool)
 pure (id t6)
theorem zAr:∀ p s point r,qX p s point=some r→∀ {I:Imm}{p1 c p2 c1 p3 c2 p4 c3 p5 c4 p6 c5 p7 c6},(S4 I p1 p.Arrays c)→(S4 I p2 p.Parts c1)→(S4 I p3 s.Write.Subs c2)→(S4 I p4 s.Value.Index.Coefs c3)→(S4 I p5 s.Value.Read.Subs c4)→(S4 I p6 s.Value.Kids c5)→(S4 I p7 point c6)→RT 107 [vA (cProg p p1 c p2 c1),vA (cStmt s p3 c2 p4 c3 p5 c4 p6 c5),vS p7 point c6] I [] (zT  r):=by
 intro p s point r N I p1 c p2 c1 p3 c2 p4 c3 p5 c4 p6 c5 p7 c6 h h1 h2 h3 h4 h5 h6;unfold qX at N;refine yL Tryz.func107 fun B=>?_;have H:=iS I;refine yF<|tX (cProg p p1 c p2 c1) ?_;intro b hb;refine xM 0 rfl ?_;intro I0 le hl0;have hat:At I0 ⟨b,0,none⟩ (cProg p p1 c p2 c1):=At.of_blk hl0;have ⟨h,h1,h2,h3,h4,h5⟩:=m6 le h h1 h2 h3 h4 h5;have ⟨h6,H⟩:=m2 le h6 H;refine tX (cStmt s p3 c2 p4 c3 p5 c4 p6 c5) ?_;intro b1 hb1;refine tX [vS p7 point c6] ?_;intro b2 hb2;refine xM 0 rfl ?_;intro I01 le1 hl01;have hat1:At I01 ⟨b2,0,none⟩ [vS p7 point c6]:=At.of_blk hl01;have ⟨h,h1,h2,h3,h4,h5⟩:=m6 le1 h h1 h2 h3 h4 h5;have ⟨h6,hat,H⟩:=m3 le1 h6 hat H;refine vG [] []<|zI<|zZ ?_;refine wP N [] (fun t6=>[(6,.bool t6)]) (fun o0 ho0=>?_) ?_
 · have H:=iS I01;refine zL<|xL 0 hat (cProg p p1 c p2 c1) (vA (cProg p p1 c p2 c1)) rfl<|oD 3 [0] [(9,vA (cAccess s.Write p3 c2))]<|xL 0 hat1 [vS p7 point c6] (vS p7 point c6) rfl ?_;obtain ⟨y,hy,N⟩:=zC ho0;refine jD (mG p s.Write point _ hy h h1 h2 h6) ?_;intro I03 le2;have ⟨h,h1,hat,h6,hat1,h3⟩:=m6 le2 h h1 hat h6 hat1 h3;have ⟨h4,h5,H⟩:=m3 le2 h4 h5 H;refine yH 7 [] [13] rfl<|xZ [13] N ?_ ?_
   · intro hc N;refine oD 9 [0] [(15,vA (cExpr s.Value p4 c3 p5 c4 p6 c5))]<|bE N fun y1 hy1 N=>xV (zCO s.Value _ hy1 h3 h4 h5) ?_;rintro I04 hs2 v2 k2 le3 - ⟨v01,rfl,rfl,h8⟩ -;have ⟨h,h1,hat,h6,hat1,H⟩:=m6 le3 h h1 hat h6 hat1 H;obtain ⟨p8,c7,rfl⟩:=h8.form;refine yH 11 [] [17] rfl ?_;have hf0:FV1 Tryz.prog I04 [] (.func (.func 159) ⟨[]⟩ ⟨[vP b 0,vP b2 0]⟩) (fun x0=>uT x0 p point):=by
       refine FV1.intro ?_;intro I1 le1 x0 r u0 hF k0;obtain ⟨_,rfl,k0⟩:=k0;obtain ⟨p9,c8,rfl,h9⟩:=oE k0;exact (zAR x0 p point r hF h9 (h.mono le1) (h1.mono le1) (hat.mono le1) (h6.mono le1) (hat1.mono le1)).mono (by rintro k i hs u ⟨v0,rfl,rfl,h⟩; exact ⟨rfl,h⟩)
     obtain ⟨y2,hy2,N⟩:=zC N;refine xV (mQ y1 (fun x0=>uT x0 p point) _ hy2 h8 hf0) ?_;rintro I05 hs2 v2 k2 le4 - ⟨v03,rfl,rfl,rfl⟩ -;have H:=H.trans le4;exact yJ [] [6] rfl<|wA zP<|yO<|zV (ct N H)
   intro hc N;exact vG [] [(6,vF)]<|wA zP<|yO<|zV (ct N H)
 intro t6 I02 le5 hMc;refine zI<|yZ ?_;obtain rfl:=zB hMc;exact wL
end Go.LN
