/- Helper of the proof (see the last text). -/
import Derived.Test.YtoifmcbchallnaaGreatHM4
set_option linter.unusedVariables false
set_option linter.unusedSimpArgs false
namespace Go.LN
open Go.Proofs
set_option maxRecDepth 20000
def sW (list:(List zG)) (t7:Int):Option (Out Unit (Bool)):=do
 if (decide (t7 < (list.length:Int))) then
  let x←idx list t7
  let t42←(do
    let y←nX x.Name
    if (!y) then
     pure true
    else
     if (decide (t7 > 0)) then
      let x1←idx list (W (t7 - 1))
      if (!(Op.bytesLess x1.Name.l x.Name.l)) then
       pure true
      else
       let y1←wB (x.Dims.length:Int) 1 2
       if (!y1) then
        pure true
       else
        let y2←xM x.Dims uM
        pure (id y2)
     else
      let y3←wB (x.Dims.length:Int) 1 2
      if (!y3) then
       pure true
      else
       let y4←xM x.Dims uM
       pure (id y4)
      : Option Bool)
  if t42 then
   pure (.ret false)
  else
   sW list (W (t7 + 1))
 else
  pure (.done ())
 partial_fixpoint
theorem zBK (list:(List zG)):∀ (t7:Int) (o:Out Unit (Bool)),sW list t7=some o→∀ {B}{I0 I:Imm}{Q p c},I0.le I→(S4 I p list c)→NG Q→NO Q→(∀ (I':Imm) ,o=(.done ())→I0.le I'→T 47 B Q (.exit 0) I' [] [(0,vS p list c)])→(∀ r I' hs' m',o=(.ret r)→I0.le I'→RS Tryz.prog Tryz.f66 B (zZ  r) I' hs' m'→T 47 B Q .ret I' hs' m')→J Tryz.prog 47 B (nav (bodyOf Tryz.f66) [1,0,1,0]) Q I [] [(0,vS p list c),(5,vS p list c),(6,vI (list.length:Int)),(7,vI t7)]:=by
 refine sW.partial_correctness list _ fun self ih t7 o N B I0 I Q p c H h hg ho hx hr=>yY hg ho<|yE [(8,.bool (decide (t7 < (list.length:Int))))]<|yI<|yM N ?_ ?_
 · intro hc N;refine zX<|yI<|zV<|yO<|yH 1 [] [(9,vI t7)]<|bE N fun x hy N=>xV rfl rfl h hy ?_;intro ad ccs hat hrep;obtain ⟨p1,c1,rfl,h1⟩:=vK hrep;refine xR 0 hat (cArr x p1 c1) (vA (cArr x p1 c1)) rfl<|uQ [vT ([]),z0] ?_;intro b hb;refine yH 5 [] [(3,vI t7)]<|xQ 0 (cArr x p1 c1) [hB b (cArr x p1 c1)] rfl rfl rfl rfl<|yN rfl<|zD<|yK ?_;obtain ⟨o0,ho0,hMc⟩:=zC N;refine yU (fun I' hs' m'=>∃ (t42:Bool),o0=t42∧I.le I'∧hs'=[]∧m'=[(0,vS p list c),(5,vS p list c),(6,vI (list.length:Int)),(7,vI t7),(42,.bool t42)]) ?_ ?_
   · have H:=iS I;obtain ⟨y,hy1,N⟩:=zC ho0;cases hc1:(!y) with
     | true =>
      have hM0:=zU hc1 N;refine vQ [.p (vP b 0) [],.p (vT x.Name.l) [0],.q (.bool y),.q vY,.q vY,.p undef [],.p undef [],.p undef [],.p undef [],.p undef [],.p undef [],.p undef [],.p undef [],.p undef [],.p undef [],.p undef [],.p undef [],.p undef [],.p vY [],.p vY [],.p undef [],.p undef [],.p undef [],.p undef [],.p undef [],.p vY [],.p vY [],.p undef [],.p undef [],.p undef [],.p vY []] [[],[(0,false)],[(1,false)],[(2,false)],[(3,false)],[(4,false)],[(4,false),(5,false)],[(4,false),(6,false)],[(7,false)],[(7,false)],[(7,false),(9,false)],[(7,false),(8,false),(10,false)],[(7,false),(11,false)],[(7,false),(12,false)],[(7,false)],[(7,false),(14,false)],[(7,false),(13,false),(15,false)],[(4,false),(7,false),(16,false)],[(4,false),(17,false)],[(18,false)],[(19,false)],[(19,false),(20,false)],[(19,false),(21,false)],[(19,false),(22,false)],[(19,false),(23,false)],[(19,false),(24,false)],[(25,false)],[(26,false)],[(26,false),(27,false)],[(26,false),(28,false)],[(26,false),(29,false)]] [hB b (cArr x p1 c1)] [] [(30,false)] (zE [0] rfl (by decide)) ?_ ?_
      · refine Op<|Op<|Oq ?_<|Oq ?_<|Oq ?_<|Op<|Op<|Op<|Op<|Op<|Op<|Op<|Op<|Op<|Op<|Op<|Op<|Op<|Op<|Op<|Op<|Op<|Op<|Op<|Op<|Op<|Op<|Op<|Op<|Op<|Op<|On
        · intro I1 hf le1;refine yV [(13,vT x.Name.l)] ?_;have H:=iS I1;refine uR (pP x.Name _ hy1 ) ?_;intro I01 le;have H:=H.trans le;exact xP H
        · intro I1 hf le1;refine yV [(14,.bool y)]<|pH 4 [(15,.bool (!y))] ?_;rw [hc1];exact xP iR
        intro I1 hf le1;exact yV [(15,vY)]<|pH 5 [(16,vY)]<|xP iR
      intro I02 le1;refine yV [(0,vS p list c),(5,vS p list c),(6,vI (list.length:Int)),(7,vI t7),(42,vY)] ?_;have H:=H.trans le1;exact yN rfl<|wC (zE [] rfl (by decide))<|yR [(0,vS p list c),(5,vS p list c),(6,vI (list.length:Int)),(7,vI t7),(42,vY)]<|zY ⟨_,(zB hM0).symm,H,rfl,rfl⟩
     | false =>
      have hM01:=zS hc1 N;cases hc2:(decide (t7 > 0)) with
      | true =>
       have hM02:=zU hc2 hM01;obtain ⟨x1,hy2,N⟩:=zC hM02;cases hc3:(!(Op.bytesLess x1.Name.l x.Name.l)) with
       | true =>
        have hM03:=zU hc3 N;refine vQ [.p (vP b 0) [],.p (vT x.Name.l) [0],.q (.bool y),.q vF,.q vF,.p (vI t7) [],.q vY,.q vY,.p (vS p list c) [],.p (vI t7) [],.p (vI (W (t7 - 1))) [],.x (fun I' v hx=>∃ ad1 p2 c2,v=.pointer (some ad1)∧hx=[]∧(At I' ad1 (cArr x1 p2 c2))∧(S4 I' p2 x1.Dims c2)),.x (fun I' v hx=>∃ ad11 p21 c21,v=.pointer (some ad11)∧hx=[]∧(At I' ad11 (cArr x1 p21 c21))∧(S4 I' p21 x1.Dims c21)),.q (vT x1.Name.l),.p (vP b 0) [],.p (vT x.Name.l) [0],.q vY,.q vY,.q vY,.q vY,.p undef [],.p undef [],.p undef [],.p undef [],.p undef [],.p vY [],.p vY [],.p undef [],.p undef [],.p undef [],.p vY []] [[],[(0,false)],[(1,false)],[(2,false)],[(3,false)],[(4,false)],[(4,false),(5,false)],[(4,false),(6,false)],[(7,false)],[(7,false)],[(7,false),(9,false)],[(7,false),(8,false),(10,false)],[(7,false),(11,false)],[(7,false),(12,false)],[(7,false)],[(7,false),(14,false)],[(7,false),(13,false),(15,false)],[(4,false),(7,false),(16,false)],[(4,false),(17,false)],[(18,false)],[(19,false)],[(19,false),(20,false)],[(19,false),(21,false)],[(19,false),(22,false)],[(19,false),(23,false)],[(19,false),(24,false)],[(25,false)],[(26,false)],[(26,false),(27,false)],[(26,false),(28,false)],[(26,false),(29,false)]] [hB b (cArr x p1 c1)] [] [(30,false)] (zE [0] rfl (by decide)) ?_ ?_
        · refine Op<|Op<|Oq ?_<|Oq ?_<|Oq ?_<|Op<|Oq ?_<|Oq ?_<|Op<|Op<|Op<|Ox ?_<|Ox ?_<|Oq ?_<|Op<|Op<|Oq ?_<|Oq ?_<|Oq ?_<|Oq ?_<|Op<|Op<|Op<|Op<|Op<|Op<|Op<|Op<|Op<|Op<|Op<|On
          · intro I1 hf le1;refine yV [(13,vT x.Name.l)] ?_;have H:=iS I1;refine uR (pP x.Name _ hy1 ) ?_;intro I01 le;have H:=H.trans le;exact xP H
          · intro I1 hf le1;refine yV [(14,.bool y)]<|pH 4 [(15,.bool (!y))] ?_;rw [hc1];exact xP iR
          · intro I1 hf le1;exact yV [(15,vF)]<|pH 5 [(16,vF)]<|xP iR
          · intro I1 hf le1;refine yV [(16,vF),(17,vI t7)]<|pH 7 [(18,.bool (decide (t7 > 0)))] ?_;rw [hc2];exact xP iR
          · intro I1 hf le1;exact yV [(16,vF),(18,vY)]<|pH 8 [(19,vY)]<|xP iR
          · intro I1 hf le1;refine yV [(19,vY),(20,vS p list c),(22,vI (W (t7 - 1)))] ?_;have h:=h.mono le1;refine xV rfl rfl h hy2 ?_;intro ad1 ccs1 hat1 hrep1;obtain ⟨p2,c2,rfl,h3⟩:=vK hrep1;exact yS [] iR ⟨_,_,_,rfl,rfl,hat1,h3⟩
          · intro I1 hf le1;refine zI ?_;rintro _ _ ⟨rfl,rfl⟩;refine zI ?_;rintro _ _ ⟨ad1,p2,c2,rfl,rfl,hat1,h3⟩;exact yV [(19,vY),(23,.pointer (some ad1))]<|pH 13 [(24,.pointer (some ad1))]<|yS [] iR ⟨_,_,_,rfl,rfl,hat1,h3⟩
          · intro I1 hf le1;refine zI ?_;rintro _ _ ⟨rfl,rfl⟩;refine zI ?_;rintro _ _ ⟨ad11,p21,c21,rfl,rfl,hat11,h31⟩;exact yV [(19,vY),(24,.pointer (some ad11))]<|xR 0 hat11 [vT x1.Name.l] (vT x1.Name.l) rfl<|xP iR
          · intro I1 hf le1;refine yV [(19,vY),(25,vT x1.Name.l),(27,vT x.Name.l)]<|pH 17 [(28,.bool (!(Op.bytesLess x1.Name.l x.Name.l)))] ?_;rw [hc3];exact xP iR
          · intro I1 hf le1;exact yV [(16,vF),(19,vY),(28,vY)]<|pH 18 [(29,vY)]<|xP iR
          · intro I1 hf le1;exact yV [(16,vF),(29,vY)]<|pH 19 [(30,vY)]<|xP iR
          intro I1 hf le1;exact yV [(30,vY)]<|pH 20 [(31,vY)]<|xP iR
        intro I03 le2;refine yV [(0,vS p list c),(5,vS p list c),(6,vI (list.length:Int)),(7,vI t7),(42,vY)] ?_;have H:=H.trans le2;exact yN rfl<|wC (zE [] rfl (by decide))<|yR [(0,vS p list c),(5,vS p list c),(6,vI (list.length:Int)),(7,vI t7),(42,vY)]<|zY ⟨_,(zB hM03).symm,H,rfl,rfl⟩
       | false =>
        have hM04:=zS hc3 N;obtain ⟨y1,hy3,N⟩:=zC hM04;cases hc4:(!y1) with
        | true =>
         have hM05:=zU hc4 N;refine vQ [.p (vP b 0) [],.p (vT x.Name.l) [0],.q (.bool y),.q vF,.q vF,.p (vI t7) [],.q vY,.q vY,.p (vS p list c) [],.p (vI t7) [],.p (vI (W (t7 - 1))) [],.x (fun I' v hx=>∃ ad1 p2 c2,v=.pointer (some ad1)∧hx=[]∧(At I' ad1 (cArr x1 p2 c2))∧(S4 I' p2 x1.Dims c2)),.x (fun I' v hx=>∃ ad11 p21 c21,v=.pointer (some ad11)∧hx=[]∧(At I' ad11 (cArr x1 p21 c21))∧(S4 I' p21 x1.Dims c21)),.q (vT x1.Name.l),.p (vP b 0) [],.p (vT x.Name.l) [0],.q vF,.q vF,.q vF,.q vF,.p (vP b 1) [],.p (vS p1 x.Dims c1) [0],.p (vI (x.Dims.length:Int)) [],.q (.bool y1),.q vY,.q vY,.q vY,.p undef [],.p undef [],.p undef [],.p vY []] [[],[(0,false)],[(1,false)],[(2,false)],[(3,false)],[(4,false)],[(4,false),(5,false)],[(4,false),(6,false)],[(7,false)],[(7,false)],[(7,false),(9,false)],[(7,false),(8,false),(10,false)],[(7,false),(11,false)],[(7,false),(12,false)],[(7,false)],[(7,false),(14,false)],[(7,false),(13,false),(15,false)],[(4,false),(7,false),(16,false)],[(4,false),(17,false)],[(18,false)],[(19,false)],[(19,false),(20,false)],[(19,false),(21,false)],[(19,false),(22,false)],[(19,false),(23,false)],[(19,false),(24,false)],[(25,false)],[(26,false)],[(26,false),(27,false)],[(26,false),(28,false)],[(26,false),(29,false)]] [hB b (cArr x p1 c1)] [] [(30,false)] (zE [0] rfl (by decide)) ?_ ?_
         · refine Op<|Op<|Oq ?_<|Oq ?_<|Oq ?_<|Op<|Oq ?_<|Oq ?_<|Op<|Op<|Op<|Ox ?_<|Ox ?_<|Oq ?_<|Op<|Op<|Oq ?_<|Oq ?_<|Oq ?_<|Oq ?_<|Op<|Op<|Op<|Oq ?_<|Oq ?_<|Oq ?_<|Oq ?_<|Op<|Op<|Op<|Op<|On
           · intro I1 hf le1;refine yV [(13,vT x.Name.l)] ?_;have H:=iS I1;refine uR (pP x.Name _ hy1 ) ?_;intro I01 le;have H:=H.trans le;exact xP H
           · intro I1 hf le1;refine yV [(14,.bool y)]<|pH 4 [(15,.bool (!y))] ?_;rw [hc1];exact xP iR
           · intro I1 hf le1;exact yV [(15,vF)]<|pH 5 [(16,vF)]<|xP iR
           · intro I1 hf le1;refine yV [(16,vF),(17,vI t7)]<|pH 7 [(18,.bool (decide (t7 > 0)))] ?_;rw [hc2];exact xP iR
           · intro I1 hf le1;exact yV [(16,vF),(18,vY)]<|pH 8 [(19,vY)]<|xP iR
           · intro I1 hf le1;refine yV [(19,vY),(20,vS p list c),(22,vI (W (t7 - 1)))] ?_;have h:=h.mono le1;refine xV rfl rfl h hy2 ?_;intro ad1 ccs1 hat1 hrep1;obtain ⟨p2,c2,rfl,h3⟩:=vK hrep1;exact yS [] iR ⟨_,_,_,rfl,rfl,hat1,h3⟩
           · intro I1 hf le1;refine zI ?_;rintro _ _ ⟨rfl,rfl⟩;refine zI ?_;rintro _ _ ⟨ad1,p2,c2,rfl,rfl,hat1,h3⟩;exact yV [(19,vY),(23,.pointer (some ad1))]<|pH 13 [(24,.pointer (some ad1))]<|yS [] iR ⟨_,_,_,rfl,rfl,hat1,h3⟩
           · intro I1 hf le1;refine zI ?_;rintro _ _ ⟨rfl,rfl⟩;refine zI ?_;rintro _ _ ⟨ad11,p21,c21,rfl,rfl,hat11,h31⟩;exact yV [(19,vY),(24,.pointer (some ad11))]<|xR 0 hat11 [vT x1.Name.l] (vT x1.Name.l) rfl<|xP iR
           · intro I1 hf le1;refine yV [(19,vY),(25,vT x1.Name.l),(27,vT x.Name.l)]<|pH 17 [(28,.bool (!(Op.bytesLess x1.Name.l x.Name.l)))] ?_;rw [hc3];exact xP iR
           · intro I1 hf le1;exact yV [(16,vF),(19,vY),(28,vF)]<|pH 18 [(29,vF)]<|xP iR
           · intro I1 hf le1;exact yV [(16,vF),(29,vF)]<|pH 19 [(30,vF)]<|xP iR
           · intro I1 hf le1;exact yV [(30,vF)]<|pH 20 [(31,vF)]<|xP iR
           · intro I1 hf le1;refine yV [(31,vF),(34,vI (x.Dims.length:Int))] ?_;have H:=iS I1;refine uR (wL (x.Dims.length:Int) 1 2 _ hy3 ) ?_;intro I04 le3;have H:=H.trans le3;exact xP H
           · intro I1 hf le1;refine yV [(31,vF),(35,.bool y1)]<|pH 25 [(36,.bool (!y1))] ?_;rw [hc4];exact xP iR
           · intro I1 hf le1;exact yV [(31,vF),(36,vY)]<|pH 26 [(37,vY)]<|xP iR
           intro I1 hf le1;exact yV [(37,vY)]<|pH 27 [(38,vY)]<|xP iR
         intro I05 le4;refine yV [(0,vS p list c),(5,vS p list c),(6,vI (list.length:Int)),(7,vI t7),(42,vY)] ?_;have H:=H.trans le4;exact yN rfl<|wC (zE [] rfl (by decide))<|yR [(0,vS p list c),(5,vS p list c),(6,vI (list.length:Int)),(7,vI t7),(42,vY)]<|zY ⟨_,(zB hM05).symm,H,rfl,rfl⟩
        | false =>
         have hM06:=zS hc4 N;obtain ⟨y2,hy4,N⟩:=zC hM06;refine vQ [.p (vP b 0) [],.p (vT x.Name.l) [0],.q (.bool y),.q vF,.q vF,.p (vI t7) [],.q vY,.q vY,.p (vS p list c) [],.p (vI t7) [],.p (vI (W (t7 - 1))) [],.x (fun I' v hx=>∃ ad1 p2 c2,v=.pointer (some ad1)∧hx=[]∧(At I' ad1 (cArr x1 p2 c2))∧(S4 I' p2 x1.Dims c2)),.x (fun I' v hx=>∃ ad11 p21 c21,v=.pointer (some ad11)∧hx=[]∧(At I' ad11 (cArr x1 p21 c21))∧(S4 I' p21 x1.Dims c21)),.q (vT x1.Name.l),.p (vP b 0) [],.p (vT x.Name.l) [0],.q vF,.q vF,.q vF,.q vF,.p (vP b 1) [],.p (vS p1 x.Dims c1) [0],.p (vI (x.Dims.length:Int)) [],.q (.bool y1),.q vF,.q vF,.q vF,.p (vP b 1) [],.p (vS p1 x.Dims c1) [0],.q (.bool y2),.p (.bool y2) []] [[],[(0,false)],[(1,false)],[(2,false)],[(3,false)],[(4,false)],[(4,false),(5,false)],[(4,false),(6,false)],[(7,false)],[(7,false)],[(7,false),(9,false)],[(7,false),(8,false),(10,false)],[(7,false),(11,false)],[(7,false),(12,false)],[(7,false)],[(7,false),(14,false)],[(7,false),(13,false),(15,false)],[(4,false),(7,false),(16,false)],[(4,false),(17,false)],[(18,false)],[(19,false)],[(19,false),(20,false)],[(19,false),(21,false)],[(19,false),(22,false)],[(19,false),(23,false)],[(19,false),(24,false)],[(25,false)],[(26,false)],[(26,false),(27,false)],[(26,false),(28,false)],[(26,false),(29,false)]] [hB b (cArr x p1 c1)] [] [(30,false)] (zE [0] rfl (by decide)) ?_ ?_
         · refine Op<|Op<|Oq ?_<|Oq ?_<|Oq ?_<|Op<|Oq ?_<|Oq ?_<|Op<|Op<|Op<|Ox ?_<|Ox ?_<|Oq ?_<|Op<|Op<|Oq ?_<|Oq ?_<|Oq ?_<|Oq ?_<|Op<|Op<|Op<|Oq ?_<|Oq ?_<|Oq ?_<|Oq ?_<|Op<|Op<|Oq ?_<|Op<|On
           · intro I1 hf le1;refine yV [(13,vT x.Name.l)] ?_;have H:=iS I1;refine uR (pP x.Name _ hy1 ) ?_;intro I01 le;have H:=H.trans le;exact xP H
           · intro I1 hf le1;refine yV [(14,.bool y)]<|pH 4 [(15,.bool (!y))] ?_;rw [hc1];exact xP iR
           · intro I1 hf le1;exact yV [(15,vF)]<|pH 5 [(16,vF)]<|xP iR
           · intro I1 hf le1;refine yV [(16,vF),(17,vI t7)]<|pH 7 [(18,.bool (decide (t7 > 0)))] ?_;rw [hc2];exact xP iR
           · intro I1 hf le1;exact yV [(16,vF),(18,vY)]<|pH 8 [(19,vY)]<|xP iR
           · intro I1 hf le1;refine yV [(19,vY),(20,vS p list c),(22,vI (W (t7 - 1)))] ?_;have h:=h.mono le1;refine xV rfl rfl h hy2 ?_;intro ad1 ccs1 hat1 hrep1;obtain ⟨p2,c2,rfl,h3⟩:=vK hrep1;exact yS [] iR ⟨_,_,_,rfl,rfl,hat1,h3⟩
           · intro I1 hf le1;refine zI ?_;rintro _ _ ⟨rfl,rfl⟩;refine zI ?_;rintro _ _ ⟨ad1,p2,c2,rfl,rfl,hat1,h3⟩;exact yV [(19,vY),(23,.pointer (some ad1))]<|pH 13 [(24,.pointer (some ad1))]<|yS [] iR ⟨_,_,_,rfl,rfl,hat1,h3⟩
           · intro I1 hf le1;refine zI ?_;rintro _ _ ⟨rfl,rfl⟩;refine zI ?_;rintro _ _ ⟨ad11,p21,c21,rfl,rfl,hat11,h31⟩;exact yV [(19,vY),(24,.pointer (some ad11))]<|xR 0 hat11 [vT x1.Name.l] (vT x1.Name.l) rfl<|xP iR
           · intro I1 hf le1;refine yV [(19,vY),(25,vT x1.Name.l),(27,vT x.Name.l)]<|pH 17 [(28,.bool (!(Op.bytesLess x1.Name.l x.Name.l)))] ?_;rw [hc3];exact xP iR
           · intro I1 hf le1;exact yV [(16,vF),(19,vY),(28,vF)]<|pH 18 [(29,vF)]<|xP iR
           · intro I1 hf le1;exact yV [(16,vF),(29,vF)]<|pH 19 [(30,vF)]<|xP iR
           · intro I1 hf le1;exact yV [(30,vF)]<|pH 20 [(31,vF)]<|xP iR
           · intro I1 hf le1;refine yV [(31,vF),(34,vI (x.Dims.length:Int))] ?_;have H:=iS I1;refine uR (wL (x.Dims.length:Int) 1 2 _ hy3 ) ?_;intro I04 le3;have H:=H.trans le3;exact xP H
           · intro I1 hf le1;refine yV [(31,vF),(35,.bool y1)]<|pH 25 [(36,.bool (!y1))] ?_;rw [hc4];exact xP iR
           · intro I1 hf le1;exact yV [(31,vF),(36,vF)]<|pH 26 [(37,vF)]<|xP iR
           · intro I1 hf le1;exact yV [(37,vF)]<|pH 27 [(38,vF)]<|xP iR
           intro I1 hf le1;refine yV [(38,vF),(40,vS p1 x.Dims c1)] ?_;have H:=iS I1;have h:=h.mono le1;have h1:=h1.mono le1;have hf0:FV1 Tryz.prog I1 [] (.func (.func 102) ⟨[]⟩ ⟨[]⟩) uM:=by
             refine FV1.intro ?_;intro I1 le1 x0 r u0 hF k0;obtain rfl:=k0;exact (fV x0 r hF ).mono (by rintro k i hs u ⟨v0,rfl,rfl,h⟩; exact ⟨rfl,h⟩)
           refine xW (sC x.Dims uM _ hy4 h1 hf0) ?_;rintro I06 hs2 v2 k2 le5 - ⟨v04,rfl,rfl,rfl⟩ -;have H:=H.trans le5;exact xP H
         intro I07 le6;refine yV [(0,vS p list c),(5,vS p list c),(6,vI (list.length:Int)),(7,vI t7),(42,.bool y2)] ?_;have H:=H.trans le6;exact yN rfl<|wC (zE [] rfl (by decide))<|yR [(0,vS p list c),(5,vS p list c),(6,vI (list.length:Int)),(7,vI t7),(42,.bool y2)]<|zY ⟨_,(zB N).symm,H,rfl,rfl⟩
      | false =>
       have hM07:=zS hc2 hM01;obtain ⟨y3,hy5,N⟩:=zC hM07;cases hc5:(!y3) with
       | true =>
        have hM08:=zU hc5 N;refine vQ [.p (vP b 0) [],.p (vT x.Name.l) [0],.q (.bool y),.q vF,.q vF,.p (vI t7) [],.q vF,.q vF,.p undef [],.p undef [],.p undef [],.p undef [],.p undef [],.p undef [],.p undef [],.p undef [],.p undef [],.p vF [],.p vF [],.p vF [],.p (vP b 1) [],.p (vS p1 x.Dims c1) [0],.p (vI (x.Dims.length:Int)) [],.q (.bool y3),.q vY,.q vY,.q vY,.p undef [],.p undef [],.p undef [],.p vY []] [[],[(0,false)],[(1,false)],[(2,false)],[(3,false)],[(4,false)],[(4,false),(5,false)],[(4,false),(6,false)],[(7,false)],[(7,false)],[(7,false),(9,false)],[(7,false),(8,false),(10,false)],[(7,false),(11,false)],[(7,false),(12,false)],[(7,false)],[(7,false),(14,false)],[(7,false),(13,false),(15,false)],[(4,false),(7,false),(16,false)],[(4,false),(17,false)],[(18,false)],[(19,false)],[(19,false),(20,false)],[(19,false),(21,false)],[(19,false),(22,false)],[(19,false),(23,false)],[(19,false),(24,false)],[(25,false)],[(26,false)],[(26,false),(27,false)],[(26,false),(28,false)],[(26,false),(29,false)]] [hB b (cArr x p1 c1)] [] [(30,false)] (zE [0] rfl (by decide)) ?_ ?_
        · refine Op<|Op<|Oq ?_<|Oq ?_<|Oq ?_<|Op<|Oq ?_<|Oq ?_<|Op<|Op<|Op<|Op<|Op<|Op<|Op<|Op<|Op<|Op<|Op<|Op<|Op<|Op<|Op<|Oq ?_<|Oq ?_<|Oq ?_<|Oq ?_<|Op<|Op<|Op<|Op<|On
          · intro I1 hf le1;refine yV [(13,vT x.Name.l)] ?_;have H:=iS I1;refine uR (pP x.Name _ hy1 ) ?_;intro I01 le;have H:=H.trans le;exact xP H
          · intro I1 hf le1;refine yV [(14,.bool y)]<|pH 4 [(15,.bool (!y))] ?_;rw [hc1];exact xP iR
          · intro I1 hf le1;exact yV [(15,vF)]<|pH 5 [(16,vF)]<|xP iR
          · intro I1 hf le1;refine yV [(16,vF),(17,vI t7)]<|pH 7 [(18,.bool (decide (t7 > 0)))] ?_;rw [hc2];exact xP iR
          · intro I1 hf le1;exact yV [(16,vF),(18,vF)]<|pH 8 [(19,vF)]<|xP iR
          · intro I1 hf le1;refine yV [(31,vF),(34,vI (x.Dims.length:Int))] ?_;have H:=iS I1;refine uR (wL (x.Dims.length:Int) 1 2 _ hy5 ) ?_;intro I08 le7;have H:=H.trans le7;exact xP H
          · intro I1 hf le1;refine yV [(31,vF),(35,.bool y3)]<|pH 25 [(36,.bool (!y3))] ?_;rw [hc5];exact xP iR
          · intro I1 hf le1;exact yV [(31,vF),(36,vY)]<|pH 26 [(37,vY)]<|xP iR
          intro I1 hf le1;exact yV [(37,vY)]<|pH 27 [(38,vY)]<|xP iR
        intro I09 le8;refine yV [(0,vS p list c),(5,vS p list c),(6,vI (list.length:Int)),(7,vI t7),(42,vY)] ?_;have H:=H.trans le8;exact yN rfl<|wC (zE [] rfl (by decide))<|yR [(0,vS p list c),(5,vS p list c),(6,vI (list.length:Int)),(7,vI t7),(42,vY)]<|zY ⟨_,(zB hM08).symm,H,rfl,rfl⟩
       | false =>
        have hM09:=zS hc5 N;obtain ⟨y4,hy6,N⟩:=zC hM09;refine vQ [.p (vP b 0) [],.p (vT x.Name.l) [0],.q (.bool y),.q vF,.q vF,.p (vI t7) [],.q vF,.q vF,.p undef [],.p undef [],.p undef [],.p undef [],.p undef [],.p undef [],.p undef [],.p undef [],.p undef [],.p vF [],.p vF [],.p vF [],.p (vP b 1) [],.p (vS p1 x.Dims c1) [0],.p (vI (x.Dims.length:Int)) [],.q (.bool y3),.q vF,.q vF,.q vF,.p (vP b 1) [],.p (vS p1 x.Dims c1) [0],.q (.bool y4),.p (.bool y4) []] [[],[(0,false)],[(1,false)],[(2,false)],[(3,false)],[(4,false)],[(4,false),(5,false)],[(4,false),(6,false)],[(7,false)],[(7,false)],[(7,false),(9,false)],[(7,false),(8,false),(10,false)],[(7,false),(11,false)],[(7,false),(12,false)],[(7,false)],[(7,false),(14,false)],[(7,false),(13,false),(15,false)],[(4,false),(7,false),(16,false)],[(4,false),(17,false)],[(18,false)],[(19,false)],[(19,false),(20,false)],[(19,false),(21,false)],[(19,false),(22,false)],[(19,false),(23,false)],[(19,false),(24,false)],[(25,false)],[(26,false)],[(26,false),(27,false)],[(26,false),(28,false)],[(26,false),(29,false)]] [hB b (cArr x p1 c1)] [] [(30,false)] (zE [0] rfl (by decide)) ?_ ?_
        · refine Op<|Op<|Oq ?_<|Oq ?_<|Oq ?_<|Op<|Oq ?_<|Oq ?_<|Op<|Op<|Op<|Op<|Op<|Op<|Op<|Op<|Op<|Op<|Op<|Op<|Op<|Op<|Op<|Oq ?_<|Oq ?_<|Oq ?_<|Oq ?_<|Op<|Op<|Oq ?_<|Op<|On
          · intro I1 hf le1;refine yV [(13,vT x.Name.l)] ?_;have H:=iS I1;refine uR (pP x.Name _ hy1 ) ?_;intro I01 le;have H:=H.trans le;exact xP H
          · intro I1 hf le1;refine yV [(14,.bool y)]<|pH 4 [(15,.bool (!y))] ?_;rw [hc1];exact xP iR
          · intro I1 hf le1;exact yV [(15,vF)]<|pH 5 [(16,vF)]<|xP iR
          · intro I1 hf le1;refine yV [(16,vF),(17,vI t7)]<|pH 7 [(18,.bool (decide (t7 > 0)))] ?_;rw [hc2];exact xP iR
          · intro I1 hf le1;exact yV [(16,vF),(18,vF)]<|pH 8 [(19,vF)]<|xP iR
          · intro I1 hf le1;refine yV [(31,vF),(34,vI (x.Dims.length:Int))] ?_;have H:=iS I1;refine uR (wL (x.Dims.length:Int) 1 2 _ hy5 ) ?_;intro I08 le7;have H:=H.trans le7;exact xP H
          · intro I1 hf le1;refine yV [(31,vF),(35,.bool y3)]<|pH 25 [(36,.bool (!y3))] ?_;rw [hc5];exact xP iR
          · intro I1 hf le1;exact yV [(31,vF),(36,vF)]<|pH 26 [(37,vF)]<|xP iR
          · intro I1 hf le1;exact yV [(37,vF)]<|pH 27 [(38,vF)]<|xP iR
          intro I1 hf le1;refine yV [(38,vF),(40,vS p1 x.Dims c1)] ?_;have H:=iS I1;have h:=h.mono le1;have h1:=h1.mono le1;have hf01:FV1 Tryz.prog I1 [] (.func (.func 102) ⟨[]⟩ ⟨[]⟩) uM:=by
            refine FV1.intro ?_;intro I1 le1 x0 r u0 hF k0;obtain rfl:=k0;exact (fV x0 r hF ).mono (by rintro k i hs u ⟨v0,rfl,rfl,h⟩; exact ⟨rfl,h⟩)
          refine xW (sC x.Dims uM _ hy6 h1 hf01) ?_;rintro I010 hs2 v2 k2 le9 - ⟨v06,rfl,rfl,rfl⟩ -;have H:=H.trans le9;exact xP H
        intro I011 le10;refine yV [(0,vS p list c),(5,vS p list c),(6,vI (list.length:Int)),(7,vI t7),(42,.bool y4)] ?_;have H:=H.trans le10;exact yN rfl<|wC (zE [] rfl (by decide))<|yR [(0,vS p list c),(5,vS p list c),(6,vI (list.length:Int)),(7,vI t7),(42,.bool y4)]<|zY ⟨_,(zB N).symm,H,rfl,rfl⟩
   rintro I0 hs2 m2 ⟨t42,heq,le11,rfl,rfl⟩;subst o0;have h:=h.mono le11;have H:=H.trans le11;refine zD<|yM hMc ?_ ?_
   · intro hc6 N;exact yE [(2,vF)]<|zD<|yC<|yB<|zM<|zM<|hr _ _ _ _ (zB N).symm H ⟨_,_,(.tmp rfl ResV.nil),yD,⟨_,rfl,rfl,rfl⟩⟩
   intro hc6 N;exact zX<|zT<|zD<|zQ<|yF [] [(7,vI (W (t7 + 1)))]<|yZ<|wS [(0,vS p list c),(5,vS p list c),(6,vI (list.length:Int)),(7,vI (W (t7 + 1)))]<|ih (W (t7 + 1)) _ N H h hg ho hx hr
 intro hc N;exact yX<|zL<|zL<|yR [(0,vS p list c)]<|hx _  (zB N).symm H
def mR (list:(List zG)):Option (Bool):=do
 match←sW list 0 with
 | .ret r0=>pure r0
 | .done _ =>
  pure (decide ((list.length:Int) ≤ 4))
theorem zDP:∀ list r,mR list=some r→∀ {I:Imm}{p c},(S4 I p list c)→Ret Tryz.prog 66 [vS p list c] I [] (zZ  r):=by
 intro list r N I p c h;unfold mR at N;refine yA (fn:=Tryz.f66) (c:=(bodyOf Tryz.f66)) Tryz.func66 rfl rfl ?_;rintro B - -;refine yE []<|yI<|yE [(5,vS p list c),(6,vI (list.length:Int)),(7,vI 0)]<|zD<|zV<|wS [(0,vS p list c),(5,vS p list c),(6,vI (list.length:Int)),(7,vI 0)] ?_;obtain ⟨o01,ho01,hMl⟩:=zC N;refine zBK list 0 o01 ho01 iR h (fun _ _ _ h=>h) (fun _ _ h=>h) ?_ ?_
 · intro I012  heq1 le12;subst o01;refine zW<|wR [(2,.bool (decide ((list.length:Int) ≤ 4)))]<|zD<|yC ?_;obtain rfl:=zB hMl;exact wY
 intro r0 I9 hs9 m9 heq9 le9 hrs9;subst heq9;refine yB<|zM ?_;obtain rfl:=zB hMl;exact xH hrs9
def sR (hsF:List HA) (r:Int):KT:=fun kk I' hs' v=>
  ∃ v0,hsF=hs'∧v=tupV [v0]∧v0=.int .i64 r
def xD (s:(List zA)) (f0:(zA→Option Bool)) (t8:Int):Option (Out Unit (Int)):=do
 if (decide (t8 < (s.length:Int))) then
  let x←idx s t8
  let y←f0 x
  if y then
   pure (.ret t8)
  else
   xD s f0 (W (t8 + 1))
 else
  pure (.done ())
 partial_fixpoint
theorem nM (s:(List zA)) (f0:(zA→Option Bool)):∀ (t8:Int) (o:Out Unit (Int)),xD s f0 t8=some o→∀ {B}{I0 I:Imm}{Q p c}{fv:Value}{hsF:List HA},I0.le I→(S4 I p s c)→(FV1 Tryz.prog I hsF fv f0)→NG Q→NO Q→(∀ (I':Imm) ,o=(.done ())→I0.le I'→T 19 B Q (.exit 0) I' hsF [])→(∀ r I' hs' m',o=(.ret r)→I0.le I'→RS Tryz.prog Tryz.f162 B (sR hsF r) I' hs' m'→T 19 B Q .ret I' hs' m')→J Tryz.prog 19 B (nav (bodyOf Tryz.f162) [1,0,1,0]) Q I hsF [(0,vS p s c),(1,fv),(7,vI (s.length:Int)),(8,vI t8)]:=by
 refine xD.partial_correctness s f0 _ fun self ih t8 o N B I0 I Q p c fv hsF H h h1 hg ho hx hr=>yY hg ho<|yE [(9,.bool (decide (t8 < (s.length:Int))))]<|yI<|yM N ?_ ?_
 · intro hc N;refine zX<|yI<|zV<|yE [(5,vI t8)]<|xI<|yH 3 [] [(11,fv),(12,vS p s c),(13,vI t8)]<|bE N fun x hy N=>xV rfl rfl h hy ?_;intro ad ccs hat hrep;obtain ⟨p1,c1,rfl,h2⟩:=yQ hrep;refine xR 0 hat (cAff x p1 c1) (vA (cAff x p1 c1)) rfl<|bE N fun y hy1 N=>zG7 rfl rfl h1 hy1 ⟨_,rfl,(yP ⟨_,rfl,h2⟩)⟩ (List.append_nil _).symm ?_;rintro I0 v01 le rfl;refine uO (hs':=hsF) (List.append_nil _) ?_;have h:=h.mono le;have h1:=h1.mono le;have H:=H.trans le;refine yN rfl<|zD<|yM N ?_ ?_
   · intro hc1 N;exact yE [(4,vI t8)]<|zD<|yC<|yB<|zM<|zM<|hr _ _ _ _ (zB N).symm H ⟨_,_,(.tmp rfl ResV.nil),(fun _ h=>h),⟨_,rfl,rfl,rfl⟩⟩
   intro hc1 N;exact zX<|zT<|zD<|zQ<|yF [] [(8,vI (W (t8 + 1)))]<|yZ<|wS [(0,vS p s c),(1,fv),(7,vI (s.length:Int)),(8,vI (W (t8 + 1)))]<|ih (W (t8 + 1)) _ N H h h1 hg ho hx hr
 intro hc N;exact yX<|zL<|zL<|yR []<|hx _  (zB N).symm H
def wM (s:(List zA)) (f0:(zA→Option Bool)):Option (Int):=do
 match←xD s f0 0 with
 | .ret r0=>pure r0
 | .done _ =>
  pure (-1)
theorem mE:∀ s f0 r,wM s f0=some r→∀ {I:Imm}{p c}{fv:Value}{hsF:List HA},(S4 I p s c)→(FV1 Tryz.prog I hsF fv f0)→Ret Tryz.prog 162 [vS p s c,fv] I hsF (sR hsF r):=by
 intro s f0 r N I p c fv hsF h h1;unfold wM at N;refine yA (fn:=Tryz.f162) (c:=(bodyOf Tryz.f162)) Tryz.func162 rfl rfl ?_;rintro B - -;refine yE []<|yI<|yE [(7,vI (s.length:Int)),(8,vI 0)]<|zD<|zV<|wS [(0,vS p s c),(1,fv),(7,vI (s.length:Int)),(8,vI 0)] ?_;obtain ⟨o0,ho0,hMl⟩:=zC N;refine nM s f0 0 o0 ho0 iR h h1 (fun _ _ _ h=>h) (fun _ _ h=>h) ?_ ?_
 · intro I01  heq le1;subst o0;refine zW<|wR [(4,vI (-1))]<|zD<|yC ?_;obtain rfl:=zB hMl;exact xH ⟨_,_,(.tmp rfl ResV.nil),(fun _ h=>h),⟨_,rfl,rfl,rfl⟩⟩
 intro r0 I9 hs9 m9 heq9 le9 hrs9;subst heq9;refine yB<|zM ?_;obtain rfl:=zB hMl;exact xH hrs9
def oN (hsF:List HA) (r:Bool):KT:=fun kk I' hs' v=>
  ∃ v0,hsF=hs'∧v=tupV [v0]∧v0=.bool r
def xJ (s:(List zA)) (f0:(zA→Option Bool)):Option (Bool):=do
 let y←wM s f0
 pure (decide (y ≥ 0))
theorem sP:∀ s f0 r,xJ s f0=some r→∀ {I:Imm}{p c}{fv:Value}{hsF:List HA},(S4 I p s c)→(FV1 Tryz.prog I hsF fv f0)→Ret Tryz.prog 137 [vS p s c,fv] I hsF (oN hsF r):=by
 intro s f0 r N I p c fv hsF h h1;unfold xJ at N;refine yA (fn:=Tryz.f137) (c:=(bodyOf Tryz.f137)) Tryz.func137 rfl rfl ?_;rintro B - -;refine yE []<|xI<|yH 2 [] [(5,vS p s c),(6,fv)]<|bE N fun y hy N=>zCp (hs1:=hsF) (rest:=[]) rfl rfl rfl rfl (by kernel_rfl) rfl (List.append_nil _).symm (mE s f0 _ hy h h1) ?_;rintro I0 hs2 v2 k2 le - ⟨v0,rfl,rfl,rfl⟩ -;refine uO (hs':=hsF) (List.append_nil _) ?_;refine yF [] [(4,.bool (decide (y ≥ 0)))]<|zD<|yC ?_;obtain rfl:=zB N;exact xH ⟨_,_,(.tmp rfl ResV.nil),(fun _ h=>h),⟨_,rfl,rfl,rfl⟩⟩
def jT (n0:Int):Option (Bool):=do
 let y←wB n0 (-99) 99
 pure (id y)
theorem zDm:∀ n0 r,jT n0=some r→∀ {I:Imm} ,Ret Tryz.prog 163 [vI n0] I [] (zZ  r):=by
 intro n0 r N I;unfold jT at N;refine yA (fn:=Tryz.f163) (c:=(bodyOf Tryz.f163)) Tryz.func163 rfl rfl ?_;rintro B - -;refine yE []<|xI<|yH 1 [] [(3,vI n0)]<|bE N fun y hy N=>uR (wL n0 (-99) 99 _ hy ) fun I0 le=>yF [] [(2,.bool y)]<|zD<|yC ?_;obtain rfl:=zB N;exact wY
def tR (c:Int):Option (Bool):=do
 let y←wB c (-9) 9
 pure (!y)
theorem zA1:∀ c r,tR c=some r→∀ {I:Imm} ,Ret Tryz.prog 164 [vI c] I [] (zZ  r):=by
 intro c r N I;unfold tR at N;refine yA (fn:=Tryz.f164) (c:=(bodyOf Tryz.f164)) Tryz.func164 rfl rfl ?_;rintro B - -;refine yE []<|xI<|yH 1 [] [(3,vI c)]<|bE N fun y hy N=>uR (wL c (-9) 9 _ hy ) fun I0 le=>yF [] [(2,.bool (!y))]<|zD<|yC ?_;obtain rfl:=zB N;exact wY
def sX (a0:zA):Option (Bool):=do
 let t2←(do
   if ((a0.Coefs.length:Int) == 4) then
    let y←jT a0.Const
    if y then
     let y1←xM a0.Coefs tR
     pure (!y1)
    else
     pure false
   else
    pure false
     : Option Bool)
 pure (id t2)
theorem pU:∀ a0 r,sX a0=some r→∀ {I:Imm}{p c},(S4 I p a0.Coefs c)→Ret Tryz.prog 139 [vA (cAff a0 p c)] I [] (zZ  r):=by
 intro a0 r N I p c h;unfold sX at N;refine yA (fn:=Tryz.f139) (c:=(bodyOf Tryz.f139)) Tryz.func139 rfl rfl ?_;rintro B - -;have H:=iS I;refine yO<|tA (cAff a0 p c) ?_;intro b hb;refine yF [] []<|zD<|yK ?_;obtain ⟨o0,ho0,hMc⟩:=zC N;refine yU (fun I' hs' m'=>∃ (t2:Bool),o0=t2∧I.le I'∧hs'=[]∧m'=[(2,.bool t2)]) ?_ ?_
 · have H:=iS I;refine zQ<|yH 5 [0] [(7,.bool ((a0.Coefs.length:Int) == 4))] ?_;cases hc:((a0.Coefs.length:Int) == 4) with
   | true =>
    have hM0:=zU hc ho0
    try rw [hc]
    refine yH 7 [0] [(9,vI a0.Const)] ?_;obtain ⟨y,hy,N⟩:=zC hM0;refine uR (zDm a0.Const _ hy ) ?_;intro I01 le;have h:=h.mono le;have H:=H.trans le;refine yH 10 [] [(12,.bool y)] ?_;cases hc1:y with
    | true =>
     have hM01:=zU hc1 N
     try rw [hc1]
     refine yH 12 [0] [(14,vS p a0.Coefs c)] ?_;have hf0:FV1 Tryz.prog I01 [] (.func (.func 164) ⟨[]⟩ ⟨[]⟩) tR:=by
       refine FV1.intro ?_;intro I1 le1 x0 r u0 hF k0;obtain rfl:=k0;exact (zA1 x0 r hF ).mono (by rintro k i hs u ⟨v0,rfl,rfl,h⟩; exact ⟨rfl,h⟩)
     obtain ⟨y1,hy1,N⟩:=zC hM01;refine xW (sC a0.Coefs tR _ hy1 h hf0) ?_;rintro I02 hs2 v2 k2 le1 - ⟨v01,rfl,rfl,rfl⟩ -;have H:=H.trans le1;exact yF [] [(2,.bool (!y1))]<|wC (zE [] rfl (by decide))<|yR [(2,.bool (!y1))]<|zY ⟨_,(zB N).symm,H,rfl,rfl⟩
    | false =>
     have hM02:=zS hc1 N
     try rw [hc1]
     exact yF [] [(2,vF)]<|wC (zE [] rfl (by decide))<|yR [(2,vF)]<|zY ⟨_,(zB hM02).symm,H,rfl,rfl⟩
   | false =>
    have hM03:=zS hc ho0
    try rw [hc]
    exact yF [] [(2,vF)]<|wC (zE [] rfl (by decide))<|yR [(2,vF)]<|zY ⟨_,(zB hM03).symm,H,rfl,rfl⟩
 rintro I0 hs2 m2 ⟨t2,heq,le2,rfl,rfl⟩;subst o0;refine zD<|yC ?_;obtain rfl:=zB hMc;exact wY
def uW (a0:zA) (n0:Int):Option (Int):=do
 let t17←(do
   if (decide (n0 > 0)) then
    let x←idx a0.Coefs (W (n0 - 1))
    pure (x == 0)
   else
    pure false
     : Option Bool)
 if t17 then
  uW a0 (W (n0 - 1))
 else
  pure (id n0)
 partial_fixpoint
theorem dQ (a0:zA):∀ (n0:Int) (o:Int),uW a0 n0=some o→∀ {B}{I0 I:Imm}{Q p c}{b:Nat},I0.le I→(S4 I p a0.Coefs c)→NG Q→NO Q→(∀ (I':Imm) (n01:Int),o=n01→I0.le I'→T 21 B Q (.exit 0) I' [] [(3,vI n01)])→J Tryz.prog 21 B (nav (bodyOf Tryz.f140) [1,1,0,0]) Q I [hB b (cAff a0 p c)] [(1,vP b 0),(3,vI n0)]:=by
 refine uW.partial_correctness a0 _ fun self ih n0 o N B I0 I Q p c b H h hg ho hx=>yY hg ho<|yK<|yK ?_;obtain ⟨o0,ho0,hMc⟩:=zC N;refine yU (fun I' hs' m'=>∃ (t17:Bool),o0=t17∧I.le I'∧hs'=[hB b (cAff a0 p c)]∧m'=[(1,vP b 0),(3,vI n0),(17,.bool t17)]) ?_ ?_
 · have H:=iS I;refine zQ<|yH 3 [] [(9,.bool (decide (n0 > 0)))] ?_;cases hc:(decide (n0 > 0)) with
   | true =>
    have hM0:=zU hc ho0
    try rw [hc]
    refine yH 7 [0] [(11,vS p a0.Coefs c),(13,vI (W (n0 - 1)))] ?_;obtain ⟨x,hy,N⟩:=zC hM0;refine xV rfl rfl h hy ?_;intro ad ccs hat hrep;obtain rfl:=hrep;exact xR 0 hat [vI x] (vI x) rfl<|yF [] [(17,.bool (x == 0))]<|yR [(1,vP b 0),(3,vI n0),(17,.bool (x == 0))]<|zY ⟨_,(zB N).symm,H,rfl,rfl⟩
   | false =>
    have hM01:=zS hc ho0
    try rw [hc]
    exact yF [] [(17,vF)]<|yR [(1,vP b 0),(3,vI n0),(17,vF)]<|zY ⟨_,(zB hM01).symm,H,rfl,rfl⟩
 rintro I0 hs2 m2 ⟨t17,heq,le,rfl,rfl⟩;subst o0;have h:=h.mono le;have H:=H.trans le;refine zD<|yM hMc ?_ ?_
 · intro hc1 N;exact zX<|zD<|zV<|zQ<|yF [] [(3,vI (W (n0 - 1)))]<|zT<|yZ<|wS [(1,vP b 0),(3,vI (W (n0 - 1)))]<|ih (W (n0 - 1)) _ N H h hg ho hx
 intro hc1 N;exact yX<|zL<|zL<|wC (zE [] rfl (by decide))<|yR [(3,vI n0)]<|hx _ _ (zB N).symm H
def sH (a0:zA):Option (Int):=do
 let n01←uW a0 (a0.Coefs.length:Int)
 pure (id n01)
theorem kM:∀ a0 r,sH a0=some r→∀ {I:Imm}{p c},(S4 I p a0.Coefs c)→Ret Tryz.prog 140 [vA (cAff a0 p c)] I [] (yW  r):=by
 intro a0 r N I p c h;unfold sH at N;refine yA (fn:=Tryz.f140) (c:=(bodyOf Tryz.f140)) Tryz.func140 rfl rfl ?_;rintro B - -;refine yO<|tA (cAff a0 p c) ?_;intro b hb;refine yF [] []<|xI<|yF [0] [(3,vI (a0.Coefs.length:Int))]<|yI<|zV<|wS [(1,vP b 0),(3,vI (a0.Coefs.length:Int))] ?_;obtain ⟨o01,ho01,hMl⟩:=zC N;refine dQ a0 (a0.Coefs.length:Int) o01 ho01 iR h (fun _ _ _ h=>h) (fun _ _ h=>h) ?_;intro I01 n01 heq1 le1;subst o01;refine zW<|wR [(2,vI n01)]<|zD<|yC ?_;obtain rfl:=zB hMl;exact wY
def sM (a0:zA) (x:Int):Option (Bool):=do
 let t3←(do
   let y←sX a0
   if (!y) then
    pure true
   else
    let y1←sH a0
    pure (decide (y1 > x))
     : Option Bool)
 pure (id t3)
theorem zBh:∀ a0 x r,sM a0 x=some r→∀ {I:Imm}{p c}{ad:Addr},(S4 I p a0.Coefs c)→(At I ad [vI x])→Ret Tryz.prog 161 [vA (cAff a0 p c),.pointer (some ad)] I [] (zZ  r):=by
 intro a0 x r N I p c ad h hat;unfold sM at N;refine yA (fn:=Tryz.f161) (c:=(bodyOf Tryz.f161)) Tryz.func161 rfl rfl ?_;rintro B - -;have H:=iS I;refine yO<|tA (cAff a0 p c) ?_;intro b hb;refine yF [] []<|zD<|yK ?_;obtain ⟨o0,ho0,hMc⟩:=zC N;refine yU (fun I' hs' m'=>∃ (t3:Bool),o0=t3∧I.le I'∧hs'=[]∧m'=[(3,.bool t3)]) ?_ ?_
 · have H:=iS I;obtain ⟨y,hy,N⟩:=zC ho0;cases hc:(!y) with
   | true =>
    have hM0:=zU hc N;refine vQ [.p (vA (cAff a0 p c)) [0],.q (.bool y),.q vY,.q vY,.p undef [],.p undef [],.p undef [],.p undef [],.p vY []] [[],[(0,false)],[(1,false)],[(2,false)],[(3,false)],[(3,false),(4,false)],[(3,false)],[(3,false),(5,false),(6,false)],[(3,false),(7,false)]] [hB b (cAff a0 p c)] [] [(8,false)] (zE [0] rfl (by decide)) ?_ ?_
    · refine Op<|Oq ?_<|Oq ?_<|Oq ?_<|Op<|Op<|Op<|Op<|Op<|On
      · intro I1 hf le1;refine yV [(4,vA (cAff a0 p c))] ?_;have H:=iS I1;have h:=h.mono le1;refine uR (pU a0 _ hy h) ?_;intro I01 le;have H:=H.trans le;exact xP H
      · intro I1 hf le1;refine yV [(5,.bool y)]<|pH 3 [(6,.bool (!y))] ?_;rw [hc];exact xP iR
      intro I1 hf le1;exact yV [(6,vY)]<|pH 4 [(7,vY)]<|xP iR
    intro I02 le1;refine yV [(12,vY)] ?_;have H:=H.trans le1;exact yF [] [(3,vY)]<|wC (zE [] rfl (by decide))<|yR [(3,vY)]<|zY ⟨_,(zB hM0).symm,H,rfl,rfl⟩
   | false =>
    have hM01:=zS hc N;obtain ⟨y1,hy1,N⟩:=zC hM01;refine vQ [.p (vA (cAff a0 p c)) [0],.q (.bool y),.q vF,.q vF,.p (vA (cAff a0 p c)) [0],.q (vI y1),.q (vI x),.p (.bool (decide (y1 > x))) [],.p (.bool (decide (y1 > x))) []] [[],[(0,false)],[(1,false)],[(2,false)],[(3,false)],[(3,false),(4,false)],[(3,false)],[(3,false),(5,false),(6,false)],[(3,false),(7,false)]] [hB b (cAff a0 p c)] [] [(8,false)] (zE [0] rfl (by decide)) ?_ ?_
    · refine Op<|Oq ?_<|Oq ?_<|Oq ?_<|Op<|Oq ?_<|Oq ?_<|Op<|Op<|On
      · intro I1 hf le1;refine yV [(4,vA (cAff a0 p c))] ?_;have H:=iS I1;have h:=h.mono le1;refine uR (pU a0 _ hy h) ?_;intro I01 le;have H:=H.trans le;exact xP H
      · intro I1 hf le1;refine yV [(5,.bool y)]<|pH 3 [(6,.bool (!y))] ?_;rw [hc];exact xP iR
      · intro I1 hf le1;exact yV [(6,vF)]<|pH 4 [(7,vF)]<|xP iR
      · intro I1 hf le1;refine yV [(7,vF),(8,vA (cAff a0 p c))] ?_;have H:=iS I1;have h:=h.mono le1;refine kE (kM a0 _ hy1 h) ?_;intro I03 le2;have H:=H.trans le2;exact xP H
      intro I1 hf le1;refine yV [(1,.pointer (some ad)),(7,vF)] ?_;have hat:=hat.mono le1;exact xR 0 hat [vI x] (vI x) rfl<|xP iR
    intro I04 le3;refine yV [(12,.bool (decide (y1 > x)))] ?_;have H:=H.trans le3;exact yF [] [(3,.bool (decide (y1 > x)))]<|wC (zE [] rfl (by decide))<|yR [(3,.bool (decide (y1 > x)))]<|zY ⟨_,(zB N).symm,H,rfl,rfl⟩
 rintro I0 hs2 m2 ⟨t3,heq,le4,rfl,rfl⟩;subst o0;refine zD<|yC ?_;obtain rfl:=zB hMc;exact wY
def oT (list:(List zA)) (depth:Int):Option (Bool):=do
 let t4←(do
   let y←wB (list.length:Int) 1 2
   if y then
    let y1←xJ list (fun x0=>sM x0 depth)
    pure (!y1)
   else
    pure false
     : Option Bool)
 pure (id t4)
theorem dR:∀ list depth r,oT list depth=some r→∀ {I:Imm}{p c},(S4 I p list c)→Ret Tryz.prog 135 [vS p list c,vI depth] I [] (zZ  r):=by
 intro list depth r N I p c h;unfold oT at N;refine yA (fn:=Tryz.f135) (c:=(bodyOf Tryz.f135)) Tryz.func135 rfl rfl ?_;rintro B - -;have H:=iS I;refine yO<|tA [vI depth] ?_;intro b hb;refine yJ 0 rfl ?_;intro I0 le hl0;have hat:At I0 ⟨b,0,none⟩ [vI depth]:=At.of_blk hl0;have h:=h.mono le;have H:=H.trans le;refine yF [] []<|zD<|yK ?_;obtain ⟨o0,ho0,hMc⟩:=zC N;refine yU (fun I' hs' m'=>∃ (t4:Bool),o0=t4∧I0.le I'∧hs'=[]∧m'=[(4,.bool t4)]) ?_ ?_
 · have H:=iS I0;refine zQ<|yH 2 [] [(6,vI (list.length:Int))] ?_;obtain ⟨y,hy,N⟩:=zC ho0;refine uR (wL (list.length:Int) 1 2 _ hy ) ?_;intro I02 le1;have h:=h.mono le1;have hat:=hat.mono le1;have H:=H.trans le1;refine yH 4 [] [(8,.bool y)] ?_;cases hc:y with
   | true =>
    have hM0:=zU hc N
    try rw [hc]
    refine yH 6 [] [(9,vS p list c),(10,.func (.func 161) ⟨[]⟩ ⟨[vP b 0]⟩)] ?_;have hf0:FV1 Tryz.prog I02 [] (.func (.func 161) ⟨[]⟩ ⟨[vP b 0]⟩) (fun x0=>sM x0 depth):=by
      refine FV1.intro ?_;intro I1 le1 x0 r u0 hF k0;obtain ⟨_,rfl,k0⟩:=k0;obtain ⟨p1,c1,rfl,h2⟩:=yQ k0;exact (zBh x0 depth r hF h2 (hat.mono le1)).mono (by rintro k i hs u ⟨v0,rfl,rfl,h⟩; exact ⟨rfl,h⟩)
    obtain ⟨y1,hy1,N⟩:=zC hM0;refine xW (sP list (fun x0=>sM x0 depth) _ hy1 h hf0) ?_;rintro I03 hs2 v2 k2 le2 - ⟨v02,rfl,rfl,rfl⟩ -;have H:=H.trans le2;exact yF [] [(4,.bool (!y1))]<|yR [(4,.bool (!y1))]<|zY ⟨_,(zB N).symm,H,rfl,rfl⟩
   | false =>
    have hM01:=zS hc N
    try rw [hc]
    exact yF [] [(4,vF)]<|yR [(4,vF)]<|zY ⟨_,(zB hM01).symm,H,rfl,rfl⟩
 rintro I01 hs2 m2 ⟨t4,heq,le3,rfl,rfl⟩;subst o0;refine zD<|yC ?_;obtain rfl:=zB hMc;exact wY
def sI (nest:(List zH)) (t7:Int):Option (Out Unit (Bool)):=do
 if (decide (t7 < (nest.length:Int))) then
  let x←idx nest t7
  let t23←(do
    let y←oT x.Lo t7
    if (!y) then
     pure true
    else
     let y1←oT x.Hi t7
     pure (!y1)
      : Option Bool)
  if t23 then
   pure (.ret false)
  else
   sI nest (W (t7 + 1))
 else
  pure (.done ())
 partial_fixpoint
theorem zAl (nest:(List zH)):∀ (t7:Int) (o:Out Unit (Bool)),sI nest t7=some o→∀ {B}{I0 I:Imm}{Q p c},I0.le I→(S4 I p nest c)→NG Q→NO Q→(∀ (I':Imm) ,o=(.done ())→I0.le I'→T 28 B Q (.exit 0) I' [] [(0,vS p nest c)])→(∀ r I' hs' m',o=(.ret r)→I0.le I'→RS Tryz.prog Tryz.f103 B (zZ  r) I' hs' m'→T 28 B Q .ret I' hs' m')→J Tryz.prog 28 B (nav (bodyOf Tryz.f103) [1,0,1,0]) Q I [] [(0,vS p nest c),(5,vS p nest c),(6,vI (nest.length:Int)),(7,vI t7)]:=by
 refine sI.partial_correctness nest _ fun self ih t7 o N B I0 I Q p c H h hg ho hx hr=>yY hg ho<|yE [(8,.bool (decide (t7 < (nest.length:Int))))]<|yI<|yM N ?_ ?_
 · intro hc N;refine zX<|yI<|zV<|yO<|yH 1 [] [(9,vI t7)]<|bE N fun x hy N=>xV rfl rfl h hy ?_;intro ad ccs hat hrep;obtain ⟨p1,c1,p2,c2,rfl,h1,h2⟩:=sQ hrep;refine xR 0 hat (cLoop x p1 c1 p2 c2) (vA (cLoop x p1 c1 p2 c2)) rfl<|uQ zTwo ?_;intro b hb;refine yH 5 [] [(3,vI t7)]<|xQ 0 (cLoop x p1 c1 p2 c2) [hB b (cLoop x p1 c1 p2 c2)] rfl rfl rfl rfl<|yN rfl<|zD<|yK ?_;obtain ⟨o0,ho0,hMc⟩:=zC N;refine yU (fun I' hs' m'=>∃ (t23:Bool),o0=t23∧I.le I'∧hs'=[]∧m'=[(0,vS p nest c),(5,vS p nest c),(6,vI (nest.length:Int)),(7,vI t7),(23,.bool t23)]) ?_ ?_
   · have H:=iS I;refine zQ<|yH 3 [0] [(13,vS p1 x.Lo c1),(14,vI t7)] ?_;obtain ⟨y,hy1,N⟩:=zC ho0;refine uR (dR x.Lo t7 _ hy1 h1) ?_;intro I01 le;have h2:=h2.mono le;have H:=H.trans le;refine yH 6 [] [(17,.bool (!y))] ?_;cases hc1:(!y) with
     | true =>
      have hM0:=zU hc1 N
      try rw [hc1]
      exact yF [] [(23,vY)]<|wC (zE [] rfl (by decide))<|yR [(0,vS p nest c),(5,vS p nest c),(6,vI (nest.length:Int)),(7,vI t7),(23,vY)]<|zY ⟨_,(zB hM0).symm,H,rfl,rfl⟩
     | false =>
      have hM01:=zS hc1 N
      try rw [hc1]
      refine yH 9 [0] [(19,vS p2 x.Hi c2),(20,vI t7)] ?_;obtain ⟨y1,hy2,N⟩:=zC hM01;refine uR (dR x.Hi t7 _ hy2 h2) ?_;intro I02 le1;have H:=H.trans le1;exact yF [] [(23,.bool (!y1))]<|wC (zE [] rfl (by decide))<|yR [(0,vS p nest c),(5,vS p nest c),(6,vI (nest.length:Int)),(7,vI t7),(23,.bool (!y1))]<|zY ⟨_,(zB N).symm,H,rfl,rfl⟩
   rintro I0 hs2 m2 ⟨t23,heq,le2,rfl,rfl⟩;subst o0;have h:=h.mono le2;have H:=H.trans le2;refine zD<|yM hMc ?_ ?_
   · intro hc2 N;exact yE [(2,vF)]<|zD<|yC<|yB<|zM<|zM<|hr _ _ _ _ (zB N).symm H ⟨_,_,(.tmp rfl ResV.nil),yD,⟨_,rfl,rfl,rfl⟩⟩
   intro hc2 N;exact zX<|zT<|zD<|zQ<|yF [] [(7,vI (W (t7 + 1)))]<|yZ<|wS [(0,vS p nest c),(5,vS p nest c),(6,vI (nest.length:Int)),(7,vI (W (t7 + 1)))]<|ih (W (t7 + 1)) _ N H h hg ho hx hr
 intro hc N;exact yX<|zL<|zL<|yR [(0,vS p nest c)]<|hx _  (zB N).symm H
def nY (nest:(List zH)):Option (Bool):=do
 match←sI nest 0 with
 | .ret r0=>pure r0
 | .done _ =>
  pure (decide ((nest.length:Int) ≤ 4))
theorem zC8:∀ nest r,nY nest=some r→∀ {I:Imm}{p c},(S4 I p nest c)→Ret Tryz.prog 103 [vS p nest c] I [] (zZ  r):=by
 intro nest r N I p c h;unfold nY at N;refine yA (fn:=Tryz.f103) (c:=(bodyOf Tryz.f103)) Tryz.func103 rfl rfl ?_;rintro B - -;refine yE []<|yI<|yE [(5,vS p nest c),(6,vI (nest.length:Int)),(7,vI 0)]<|zD<|zV<|wS [(0,vS p nest c),(5,vS p nest c),(6,vI (nest.length:Int)),(7,vI 0)] ?_;obtain ⟨o01,ho01,hMl⟩:=zC N;refine zAl nest 0 o01 ho01 iR h (fun _ _ _ h=>h) (fun _ _ h=>h) ?_ ?_
 · intro I03  heq1 le3;subst o01;refine zW<|wR [(2,.bool (decide ((nest.length:Int) ≤ 4)))]<|zD<|yC ?_;obtain rfl:=zB hMl;exact wY
 intro r0 I9 hs9 m9 heq9 le9 hrs9;subst heq9;refine yB<|zM ?_;obtain rfl:=zB hMl;exact xH hrs9
def eE (r:List Int):KT:=fun kk I' hs' v=>
  ∃ a0 c0 s0,hs'=[.osl (.slice a0 r.length c0) (Rp.sz Int) s0]∧v=tupV [(.slice a0 r.length c0)]∧RepL (Rp.rep I') (Rp.sz Int) s0 r
def sD (s:List Int):Option (List Int):=app 8 ([]:List Int) s
theorem nZ:∀ s r,sD s=some r→∀ {I:Imm}{p c},SL I (vS p s c) s→Ret Tryz.prog 73 [vS p s c] I [] (eE r):=by
 intro s r N I p c h;unfold sD at N;obtain ⟨ccs,k0,k01⟩:=h;refine yA (fn:=Tryz.f73) (c:=(bodyOf Tryz.f73)) Tryz.func73 rfl rfl ?_;rintro B - -;cases p with
 | none =>
  have hs:s=[]:=by
    rcases k0 with ⟨hv,rfl⟩ | ⟨b0,off,len,cap,cc,hv,k2⟩
    · cases s with
      | nil=>rfl
      | cons _ _=>simp at hv
    simp at hv
  subst hs;obtain ⟨_,rfl⟩:=dF N;refine yE [(0,vS none ([]:List Int) c),(2,z0)]<|yI<|yO<|yH 1 [] [(3,vS none ([]:List Int) c)]<|zKr true rfl rfl ?_ rfl;exact yF [] [(4,vY)]<|zD<|zA5 rfl<|yE [(2,z0)]<|zD<|yC<|zM<|wC (uP (Rp.sz Int))<|xH ⟨_,_,(.tmp rfl ResV.nil),(zE [0] rfl (by decide)),⟨none,0,[],rfl,rfl,rfl⟩⟩
 | some ad =>
  refine yE [(0,vS (some ad) s c),(2,z0)]<|yI<|yO<|yH 1 [] [(3,vS (some ad) s c)]<|zKr false rfl rfl ?_ rfl;refine yF [] [(0,vS (some ad) s c),(4,vF)]<|zD<|fD rfl<|zX<|xI<|xX [] Int ?_;intro b2 hb2;have h1:RL I [] ([]:List Int):=rfl;exact yH 2 [] [(6,vS (some ad) s c)]<|qF 3 1 0 rfl rfl rfl h1 (.inl k0) k01 N fun p1 c1 cs h2=>yF [] [(2,vS p1 r c1)]<|zD<|yC<|xH ⟨_,_,(.tmp rfl ResV.nil),(zE [0] rfl (by decide)),⟨_,_,_,rfl,rfl,h2⟩⟩
def tJ (a0:zA) (point:(List Int)) (sum:Int) (t12:Int):Option (Int):=do
 if (decide (t12 < (point.length:Int))) then
  let x←idx point t12
  let x1←idx a0.Coefs t12
  tJ a0 point (W (sum + (W (x1 * x)))) (W (t12 + 1))
 else
  pure (id sum)
 partial_fixpoint
theorem zAF (a0:zA) (point:(List Int)):∀ (sum:Int) (t12:Int) (o:Int),tJ a0 point sum t12=some o→∀ {B}{I0 I:Imm}{Q p c p1 c1}{b:Nat},I0.le I→(S4 I p1 point c1)→(S4 I p a0.Coefs c)→NG Q→NO Q→(∀ (I':Imm) (sum1:Int),o=sum1→I0.le I'→T 28 B Q (.exit 0) I' [] [(5,vI sum1)])→J Tryz.prog 28 B (nav (bodyOf Tryz.f132) [1,1,0,1,0]) Q I [hB b (cAff a0 p c)] [(2,vP b 0),(5,vI sum),(10,vS p1 point c1),(11,vI (point.length:Int)),(12,vI t12)]:=by
 refine tJ.partial_correctness a0 point _ fun self ih sum t12 o N B I0 I Q p c p1 c1 b H h1 h hg ho hx=>yY hg ho<|yE [(13,.bool (decide (t12 < (point.length:Int))))]<|yI<|yM N ?_ ?_
 · intro hc N;refine zX<|yI<|zV<|yO<|yH 1 [] [(14,vI t12)]<|bE N fun x hy N=>xV rfl rfl h1 hy ?_;intro ad ccs hat hrep;obtain rfl:=hrep;refine xR 0 hat [vI x] (vI x) rfl<|yF [] [(6,vI t12),(7,vI x)]<|zD<|zQ<|yH 4 [0] [(17,vI sum),(19,vS p a0.Coefs c),(20,vI t12)]<|bE N fun x1 hy1 N=>xV rfl rfl h hy1 ?_;intro ad1 ccs1 hat1 hrep1;obtain rfl:=hrep1;exact xR 0 hat1 [vI x1] (vI x1) rfl<|yF [] [(5,vI (W (sum + (W (x1 * x)))))]<|zT<|zD<|zQ<|yF [] [(12,vI (W (t12 + 1)))]<|yZ<|wS [(2,vP b 0),(5,vI (W (sum + (W (x1 * x))))),(10,vS p1 point c1),(11,vI (point.length:Int)),(12,vI (W (t12 + 1)))]<|ih (W (sum + (W (x1 * x)))) (W (t12 + 1)) _ N H h1 h hg ho hx
 intro hc N;exact yX<|zL<|zL<|wC (zE [] rfl (by decide))<|yR [(5,vI sum)]<|hx _ _ (zB N).symm H
def uX (a0:zA) (point:(List Int)):Option (Int):=do
 let sum1←tJ a0 point a0.Const 0
 pure (id sum1)
theorem pV:∀ a0 point r,uX a0 point=some r→∀ {I:Imm}{p c p1 c1},(S4 I p a0.Coefs c)→(S4 I p1 point c1)→Ret Tryz.prog 132 [vA (cAff a0 p c),vS p1 point c1] I [] (yW  r):=by
 intro a0 point r N I p c p1 c1 h h1;unfold uX at N;refine yA (fn:=Tryz.f132) (c:=(bodyOf Tryz.f132)) Tryz.func132 rfl rfl ?_;rintro B - -;refine yO<|tA (cAff a0 p c) ?_;intro b hb;refine yF [] []<|xI<|yF [0] [(5,vI a0.Const)]<|yI<|yE [(10,vS p1 point c1),(11,vI (point.length:Int)),(12,vI 0)]<|zD<|zV<|wS [(2,vP b 0),(5,vI a0.Const),(10,vS p1 point c1),(11,vI (point.length:Int)),(12,vI 0)] ?_;obtain ⟨o0,ho0,hMl⟩:=zC N;refine zAF a0 point a0.Const 0 o0 ho0 iR h1 h (fun _ _ _ h=>h) (fun _ _ h=>h) ?_;intro I0 sum1 heq le;subst o0;refine zW<|wR [(4,vI sum1)]<|zD<|yC ?_;obtain rfl:=zB hMl;exact wY
def sJ (l:zH) (point:(List Int)) (lo:Int) (t27:Int):Option (Int):=do
 if (decide (t27 < (l.Lo.length:Int))) then
  let x2←idx l.Lo t27
  let y2←uX x2 point
  sJ l point (if y2 > lo then y2 else lo) (W (t27 + 1))
 else
  pure (id lo)
 partial_fixpoint
theorem zAm (l:zH) (point:(List Int)):∀ (lo:Int) (t27:Int) (o:Int),sJ l point lo t27=some o→∀ {B}{I0 I:Imm}{Q}{y1:Int}{p c p1 c1 p2 c2}{b:Nat},I0.le I→(S4 I p2 point c2)→(S4 I p l.Lo c)→(S4 I p1 l.Hi c1)→NG Q→NO Q→(∀ (I':Imm) (lo1:Int),o=lo1→I0.le I'→T 52 B Q (.exit 0) I' [hB b (cLoop l p c p1 c1)] [(1,vS p2 point c2),(2,vP b 0),(6,vI lo1),(7,vI y1)])→J Tryz.prog 52 B (nav (bodyOf Tryz.f136) [1,1,0,1,0]) Q I [hB b (cLoop l p c p1 c1)] [(1,vS p2 point c2),(2,vP b 0),(6,vI lo),(7,vI y1),(25,vS p l.Lo c),(26,vI (l.Lo.length:Int)),(27,vI t27)]:=by
 refine sJ.partial_correctness l point _ fun self ih lo t27 o N B I0 I Q y1 p c p1 c1 p2 c2 b H h2 h h1 hg ho hx=>yY hg ho<|yE [(28,.bool (decide (t27 < (l.Lo.length:Int))))]<|yI<|yM N ?_ ?_
 · intro hc N;refine zX<|yI<|zV<|yO<|bE N fun x2 hy4 N=>xV rfl rfl h hy4 ?_;intro ad2 ccs2 hat2 hrep2;obtain ⟨p5,c5,rfl,h7⟩:=yQ hrep2;refine xR 0 hat2 (cAff x2 p5 c5) (vA (cAff x2 p5 c5)) rfl<|uQ [z0,vI 0] ?_;intro b1 hb1;refine xQ 0 (cAff x2 p5 c5) [hB b1 (cAff x2 p5 c5),hB b (cLoop l p c p1 c1)] rfl rfl rfl rfl<|yN rfl<|zD<|zQ<|yH 3 [0] [(31,vI lo),(32,vA (cAff x2 p5 c5)),(33,vS p2 point c2)]<|bE N fun y2 hy5 N=>kE (pV x2 point _ hy5 h7 h2) ?_;intro I03 le3;have h2:=h2.mono le3;have h:=h.mono le3;have h1:=h1.mono le3;have H:=H.trans le3;exact yF [] [(6,vI (if y2 > lo then y2 else lo))]<|zT<|zD<|zQ<|yF [] [(27,vI (W (t27 + 1)))]<|yZ<|qE (zE [1] rfl (by decide))<|wS [(1,vS p2 point c2),(2,vP b 0),(6,vI (if y2 > lo then y2 else lo)),(7,vI y1),(25,vS p l.Lo c),(26,vI (l.Lo.length:Int)),(27,vI (W (t27 + 1)))]<|ih (if y2 > lo then y2 else lo) (W (t27 + 1)) _ N H h2 h h1 hg ho hx
 intro hc N;exact yX<|zL<|zL<|yR [(1,vS p2 point c2),(2,vP b 0),(6,vI lo),(7,vI y1)]<|hx _ _ (zB N).symm H
def sK (l:zH) (point:(List Int)) (hi:Int) (t40:Int):Option (Int):=do
 if (decide (t40 < (l.Hi.length:Int))) then
  let x3←idx l.Hi t40
  let y3←uX x3 point
  sK l point (if y3 < hi then y3 else hi) (W (t40 + 1))
 else
  pure (id hi)
 partial_fixpoint
theorem zAn (l:zH) (point:(List Int)):∀ (hi:Int) (t40:Int) (o:Int),sK l point hi t40=some o→∀ {B}{I0 I:Imm}{Q}{lo1:Int}{p1 c1 p2 c2},I0.le I→(S4 I p2 point c2)→(S4 I p1 l.Hi c1)→NG Q→NO Q→(∀ (I':Imm) (hi1:Int),o=hi1→I0.le I'→T 52 B Q (.exit 2) I' [] [(6,vI lo1),(7,vI hi1)])→J Tryz.prog 52 B (nav (bodyOf Tryz.f136) [1,1,1,0,1,0]) Q I [] [(1,vS p2 point c2),(6,vI lo1),(7,vI hi),(38,vS p1 l.Hi c1),(39,vI (l.Hi.length:Int)),(40,vI t40)]:=by
 refine sK.partial_correctness l point _ fun self ih hi t40 o N B I0 I Q lo1 p1 c1 p2 c2 H h2 h1 hg ho hx=>yY hg ho<|yE [(41,.bool (decide (t40 < (l.Hi.length:Int))))]<|yI<|yM N ?_ ?_
 · intro hc1 N;refine zX<|yI<|zV<|yO<|bE N fun x3 hy6 N=>xV rfl rfl h1 hy6 ?_;intro ad3 ccs3 hat3 hrep3;obtain ⟨p6,c6,rfl,h9⟩:=yQ hrep3;refine xR 0 hat3 (cAff x3 p6 c6) (vA (cAff x3 p6 c6)) rfl<|uQ [z0,vI 0] ?_;intro b2 hb2;refine xQ 0 (cAff x3 p6 c6) [hB b2 (cAff x3 p6 c6)] rfl rfl rfl rfl<|yN rfl<|zD<|zQ<|yH 3 [0] [(44,vI hi),(45,vA (cAff x3 p6 c6)),(46,vS p2 point c2)]<|bE N fun y3 hy7 N=>kE (pV x3 point _ hy7 h9 h2) ?_;intro I05 le5;have h2:=h2.mono le5;have h1:=h1.mono le5;have H:=H.trans le5;exact yF [] [(7,vI (if y3 < hi then y3 else hi))]<|zT<|zD<|zQ<|yF [] [(40,vI (W (t40 + 1)))]<|yZ<|qE (zE [] rfl (by decide))<|wS [(1,vS p2 point c2),(6,vI lo1),(7,vI (if y3 < hi then y3 else hi)),(38,vS p1 l.Hi c1),(39,vI (l.Hi.length:Int)),(40,vI (W (t40 + 1)))]<|ih (if y3 < hi then y3 else hi) (W (t40 + 1)) _ N H h2 h1 hg ho hx
 intro hc1 N;exact yX<|zL<|zL<|yR [(6,vI lo1),(7,vI hi)]<|hx _ _ (zB N).symm H
def mA (l:zH) (point:(List Int)):Option (Int×Int):=do
 let x←idx l.Lo 0
 let y←uX x point
 let x1←idx l.Hi 0
 let y1←uX x1 point
 let lo1←sJ l point y 0
 let hi1←sK l point y1 0
 pure (lo1,hi1)
theorem zC9:∀ l point r,mA l point=some r→∀ {I:Imm}{p c p1 c1 p2 c2},(S4 I p l.Lo c)→(S4 I p1 l.Hi c1)→(S4 I p2 point c2)→Ret Tryz.prog 136 [vA (cLoop l p c p1 c1),vS p2 point c2] I [] (jO  r):=by
 intro l point r N I p c p1 c1 p2 c2 h h1 h2;unfold mA at N;refine yA (fn:=Tryz.f136) (c:=(bodyOf Tryz.f136)) Tryz.func136 rfl rfl ?_;rintro B - -;have H:=iS I;refine yO<|tA (cLoop l p c p1 c1) ?_;intro b hb;refine yF [] []<|zD<|yK ?_;obtain ⟨x,hy,N⟩:=zC N;obtain ⟨y,hy1,N⟩:=zC N;obtain ⟨x1,hy2,N⟩:=zC N;obtain ⟨y1,hy3,N⟩:=zC N;refine vQ [.p (vP b 0) [],.p (vS p l.Lo c) [0],.x (fun I' v hx=>∃ ad p3 c3,v=.pointer (some ad)∧hx=[]∧(At I' ad (cAff x p3 c3))∧(S4 I' p3 x.Coefs c3)),.x (fun I' v hx=>∃ p31 c31,v=vA (cAff x p31 c31)∧hx=[]∧(S4 I' p31 x.Coefs c31)),.p (vS p2 point c2) [],.q (vI y),.p (vP b 1) [],.p (vS p1 l.Hi c1) [0],.x (fun I' v hx=>∃ ad1 p4 c4,v=.pointer (some ad1)∧hx=[]∧(At I' ad1 (cAff x1 p4 c4))∧(S4 I' p4 x1.Coefs c4)),.x (fun I' v hx=>∃ p41 c41,v=vA (cAff x1 p41 c41)∧hx=[]∧(S4 I' p41 x1.Coefs c41)),.p (vS p2 point c2) [],.q (vI y1),.p (vI y) []] [[],[(0,false)],[(1,false)],[(2,false)],[],[(3,false),(4,false)],[],[(6,false)],[(7,false)],[(8,false)],[],[(9,false),(10,false)],[(5,false)]] [hB b (cLoop l p c p1 c1)] [] [(11,false),(12,false)] (zE [0] rfl (by decide)) ?_ ?_
 · refine Op<|Op<|Ox ?_<|Ox ?_<|Op<|Oq ?_<|Op<|Op<|Ox ?_<|Ox ?_<|Op<|Oq ?_<|Op<|On
   · intro I1 hf le1;refine yV [(13,vS p l.Lo c)] ?_;have h:=h.mono le1;refine xV rfl rfl h hy ?_;intro ad ccs hat hrep;obtain ⟨p3,c3,rfl,h3⟩:=yQ hrep;exact yS [] iR ⟨_,_,_,rfl,rfl,hat,h3⟩
   · intro I1 hf le1;refine zI ?_;rintro _ _ ⟨ad,p3,c3,rfl,rfl,hat,h3⟩;exact yV [(14,.pointer (some ad))]<|xR 0 hat (cAff x p3 c3) (vA (cAff x p3 c3)) rfl<|yS [] iR ⟨_,_,rfl,rfl,h3⟩
   · intro I1 hf le1;refine zI ?_;rintro _ _ ⟨p31,c31,rfl,rfl,h31⟩;refine yV [(15,vA (cAff x p31 c31)),(16,vS p2 point c2)] ?_;have H:=iS I1;have h2:=h2.mono le1;refine kE (pV x point _ hy1 h31 h2) ?_;intro I0 le;have H:=H.trans le;exact xP H
   · intro I1 hf le1;refine yV [(19,vS p1 l.Hi c1)] ?_;have h1:=h1.mono le1;refine xV rfl rfl h1 hy2 ?_;intro ad1 ccs1 hat1 hrep1;obtain ⟨p4,c4,rfl,h5⟩:=yQ hrep1;exact yS [] iR ⟨_,_,_,rfl,rfl,hat1,h5⟩
   · intro I1 hf le1;refine zI ?_;rintro _ _ ⟨ad1,p4,c4,rfl,rfl,hat1,h5⟩;exact yV [(20,.pointer (some ad1))]<|xR 0 hat1 (cAff x1 p4 c4) (vA (cAff x1 p4 c4)) rfl<|yS [] iR ⟨_,_,rfl,rfl,h5⟩
   intro I1 hf le1;refine zI ?_;rintro _ _ ⟨p41,c41,rfl,rfl,h51⟩;refine yV [(21,vA (cAff x1 p41 c41)),(22,vS p2 point c2)] ?_;have H:=iS I1;have h2:=h2.mono le1;refine kE (pV x1 point _ hy3 h51 h2) ?_;intro I01 le1;have H:=H.trans le1;exact xP H
 intro I02 le2;refine yV [(1,vS p2 point c2),(2,vP b 0),(6,vI y),(23,vI y1)] ?_;have h2:=h2.mono le2;have h:=h.mono le2;have h1:=h1.mono le2;refine yF [] [(7,vI y1)]<|yI<|yO<|yF [0] [(25,vS p l.Lo c),(26,vI (l.Lo.length:Int)),(27,vI 0)]<|zD<|zV<|wS [(1,vS p2 point c2),(2,vP b 0),(6,vI y),(7,vI y1),(25,vS p l.Lo c),(26,vI (l.Lo.length:Int)),(27,vI 0)] ?_;obtain ⟨o0,ho0,hMl⟩:=zC N;refine zAm l point y 0 o0 ho0 iR h2 h h1 (fun _ _ _ h=>h) (fun _ _ h=>h) ?_;intro I04 lo1 heq le4;subst o0;have h2:=h2.mono le4;have h:=h.mono le4;have h1:=h1.mono le4;refine zW<|yI<|yO<|yF [0] [(38,vS p1 l.Hi c1),(39,vI (l.Hi.length:Int)),(40,vI 0)]<|zD<|zV<|qE (zE [] (hs':=[]) rfl (by decide))<|wS [(1,vS p2 point c2),(6,vI lo1),(7,vI y1),(38,vS p1 l.Hi c1),(39,vI (l.Hi.length:Int)),(40,vI 0)] ?_;obtain ⟨o01,ho01,hMl1⟩:=zC hMl;refine zAn l point y1 0 o01 ho01 iR h2 h1 (fun _ _ _ h=>h) (fun _ _ h=>h) ?_;intro I06 hi1 heq1 le6;subst o01;refine zW<|wR [(4,vI lo1),(5,vI hi1)]<|zD<|yC ?_;obtain rfl:=zB hMl1;exact xH ⟨_,_,(.tmp rfl (.tmp rfl ResV.nil)),yD,⟨_,_,rfl,rfl,rfl,rfl⟩⟩
def mM (b0:Nat) (r:Bool×tM):KT:=fun kk I' hs' v=>
  ∃ v0 x0_0 y0_0 x0_2 y0_2 z0_2,hs'=[.blk b0 ⟨[.slice x0_0 r.2.nest.length y0_0,.int .i64 r.2.steps,.slice x0_2 r.2.out.length y0_2]⟩,.osl (.slice x0_2 r.2.out.length y0_2) (Rp.sz (List Int)) z0_2]∧v=tupV [v0]∧v0=.bool r.1∧SL I' (.slice x0_0 r.2.nest.length y0_0) r.2.nest∧RepL (Rp.rep I') (Rp.sz (List Int)) z0_2 r.2.out
mutual
def tG (w0:tM) (point:(List Int)):Option (Bool×tM):=do
 if ((point.length:Int) == (w0.nest.length:Int)) then
  let y←sD point
  let l←app 24 w0.out ([y]:List (List Int))
  pure ((decide ((l.length:Int) ≤ 120)),(tM.mk w0.nest w0.steps l))
 else
  let x←idx w0.nest (point.length:Int)
  let (y2,y3)←mA x point
  match←sE (same point) (same y3) (same y2) w0.nest w0.steps w0.out with
  | .ret r0=>pure r0
  | .done (nest1,steps1,out1) =>
   pure (true,(tM.mk nest1 steps1 out1))
 partial_fixpoint
def sE (point:(List Int)) (y3:Int) (n0:Int) (nest:List zH) (steps:Int) (out:List (List Int)):Option (Out (List zH×Int×List (List Int)) (Bool×tM)):=do
 if (decide (n0 < y3)) then
  let (t74,nest2,steps2,out2)←(do
    if (decide ((W ((W (steps + 1)) + 1)) > 1200)) then
     pure (true,nest,(W (steps + 1)),out)
    else
     let y4←sD point
     let l1←app 8 y4 ([n0]:List Int)
     let (y6,y7)←tG (tM.mk nest (W (steps + 1)) out) (same l1)
     pure ((!y6),y7.nest,y7.steps,y7.out)
      : Option (Bool×List zH×Int×List (List Int)))
  if t74 then
   pure (.ret (false,(tM.mk nest2 steps2 out2)))
  else
   sE (same point) (same y3) (W (n0 + 1)) (same nest2) (same steps2) (same out2)
 else
  pure (.done (nest,steps,out))
 partial_fixpoint
end
theorem zA2:(∀ (w0:tM) (point:(List Int)) r,tG w0 point=some r→∀ {I:Imm}{r0:Nat}{p c p1 c1 cs p2 c2},(S4 I p w0.nest c)→(RL I cs w0.out)→(S4 I p2 point c2)→Ret Tryz.prog 104 [vP r0 0,vS p2 point c2] I [hB r0 [vS p w0.nest c,vI w0.steps,vS p1 w0.out c1],hO (List Int) (vS p1 w0.out c1) cs] (mM r0 r))∧(∀ (point:(List Int)) (y3:Int) (n0:Int) (nest:List zH) (steps:Int) (out:List (List Int)) o,sE point y3 n0 nest steps out=some o→∀ {B}{I0 I:Imm}{Q}  {r0:Nat}{p2 c2 p7 c7 p8 c8 cs3},I0.le I→(S4 I p2 point c2)→(S4 I p7 nest c7)→(RL I cs3 out)→NG Q→NO Q→(∀ (I':Imm) (nest1:List zH) (steps1:Int) (out1:List (List Int)) (p9:Option Addr) (c9:Nat) (p10:Option Addr) (c10:Nat) (cs4:List Value),o=(.done (nest1,steps1,out1))→I0.le I'→(S4 I' p9 nest1 c9)→(RL I' cs4 out1)→T 75 B Q (.exit 0) I' [hB r0 [vS p9 nest1 c9,vI steps1,vS p10 out1 c10],hO (List Int) (vS p10 out1 c10) cs4] [])→(∀ r I' hs' m',o=(.ret r)→I0.le I'→RS Tryz.prog Tryz.f104 B (mM r0 r) I' hs' m'→T 75 B Q .ret I' hs' m')→J Tryz.prog 75 B (nav (bodyOf Tryz.f104) [1,1,1,0,1,0]) Q I [hB r0 [vS p7 nest c7,vI steps,vS p8 out c8],hO (List Int) (vS p8 out c8) cs3] [(0,vP r0 0),(1,vS p2 point c2),(6,vI y3),(7,vI n0)]):=by
  refine tG.mutual_partial_correctness _ _ ?_ ?_
  · intro F_impl_walking_walk_l1 ih_impl_walking_walk_l1 w0 point r N I r0 p c p1 c1 cs p2 c2 h h1 h2;refine yA (fn:=Tryz.f104) (c:=(bodyOf Tryz.f104)) Tryz.func104 rfl rfl ?_;rintro B - -;have H:=iS I;refine yE []<|yI<|yO<|yF [0] [(15,.bool ((point.length:Int) == (w0.nest.length:Int)))]<|zD<|yM N ?_ ?_
    · intro hc N;refine yK ?_;obtain ⟨y,hy,N⟩:=zC N;obtain ⟨l,hy1,N⟩:=zC N;refine vQ [.p (vP r0 0) [],.p (vP r0 0) [],.p (vP r0 0) [],.p (vP r0 2) [],.p (vS p1 w0.out c1) [0],.p (vS p2 point c2) [],.x (fun I' v hx=>∃ p3 c3 cs1,v=vS p3 y c3∧hx=[hO Int (vS p3 y c3) cs1]∧(RL I' cs1 y)),.x (fun I' v hx=>∃ b,v=vS (some ⟨b,0,none⟩) ([y]:List (List Int)) 1∧hx=[]∧(SL I' (vS (some ⟨b,0,none⟩) ([y]:List (List Int)) 1) ([y]:List (List Int)))),.x (fun I' v hx=>∃ p4 c4 cs2,v=vS p4 l c4∧hx=[hO (List Int) (vS p4 l c4) cs2]∧(RL I' cs2 l))] [[],[],[(1,false)],[(2,false)],[(3,false)],[],[(5,false)],[(6,true)],[(4,false),(7,false),(12,true)]] [hB r0 [vS p w0.nest c,vI w0.steps,vS p1 w0.out c1]] [[hO (List Int) (vS p1 w0.out c1) cs]] [(0,false),(8,true)] (zE [0,1] rfl (by decide)) ?_ ?_
      · refine Op<|Op<|Op<|Op<|Op<|Op<|Ox ?_<|Ox ?_<|Ox ?_<|On
        · intro I1 hf le1;refine yV [(21,vS p2 point c2)] ?_;have H:=iS I1;have h2:=h2.mono le1;refine xW (nZ point _ hy h2) ?_;rintro I0 hs2 v2 k2 le - ⟨p3,c3,cs1,rfl,rfl,h3⟩ -;have H:=H.trans le;exact yS [hO Int (vS p3 y c3) cs1] H ⟨_,_,_,rfl,rfl,h3⟩
        · intro I1 hf le1;refine zI ?_;rintro _ _ ⟨p3,c3,cs1,rfl,rfl,h3⟩;refine yV [(22,vS p3 y c3)] ?_;have H:=iS I1;refine yJ 0 rfl ?_;intro I01 le1 hl0;have h4:=SL.of_frozen hl0 le1 h3;have H:=H.trans le1;refine xX [vS p3 y c3] (List Int) ?_;intro b hb;have h5:RL I01 [vS p3 y c3] ([y]:List (List Int)):=⟨[vS p3 y c3],_,rfl,rfl,⟨_,rfl,h4⟩,rfl⟩;refine yJ 0 rfl ?_;intro I02 le2 hl01;have h6:=SL.of_frozen hl01 le2 h5;have H:=H.trans le2;exact yS [] H ⟨_,rfl,rfl,h6⟩
        intro I1 hf le1;refine zI ?_;rintro _ _ ⟨rfl,rfl⟩;refine zI ?_;rintro _ _ ⟨b,rfl,rfl,h6⟩;refine zI ?_;rintro _ _ rfl;refine yV [(20,vS p1 w0.out c1),(23,vS (some ⟨b,0,none⟩) ([y]:List (List Int)) 1)] ?_;have h1:=iM le1 h1;obtain ⟨ccs,k0,k01⟩:=h6;have h6:SL I1 (vS (some ⟨b,0,none⟩) ([y]:List (List Int)) 1) ([y]:List (List Int)):=⟨_,k0,k01⟩;exact qF 28 1 0 rfl rfl rfl h1 (.inl k0) k01 hy1 fun p4 c4 cs2 h7=>uO (hs':=(hO (List Int) (vS p4 l c4) cs2::hB r0 [vS p w0.nest c,vI w0.steps,vS p1 w0.out c1]::hf)) rfl<|yS [hO (List Int) (vS p4 l c4) cs2] iR ⟨_,_,_,rfl,rfl,h7⟩
      intro I03 le3;refine zI ?_;rintro _ _ ⟨rfl,rfl⟩;refine zI ?_;rintro _ _ ⟨p4,c4,cs2,rfl,rfl,h7⟩;refine yV [(0,vP r0 0),(16,vP r0 0),(24,vS p4 l c4)] ?_;have h:=h.mono le3;refine yH 11 [] [(26,vP r0 2)]<|xQ 1 [vS p w0.nest c,vI w0.steps,vS p4 l c4] [hO (List Int) (vS p4 l c4) cs2,hB r0 [vS p w0.nest c,vI w0.steps,vS p4 l c4]] rfl rfl rfl rfl<|yN rfl<|xI<|yF [1] [(4,.bool (decide ((l.length:Int) ≤ 120)))]<|zD<|yC<|zM ?_;obtain rfl:=zB N;exact xH ⟨_,_,(.tmp rfl ResV.nil),(zE [1,0] rfl (by decide)),⟨_,_,_,_,_,_,rfl,rfl,rfl,h,h7⟩⟩
    intro hc N;refine zX<|xI<|yH 6 [0] [(37,vS p w0.nest c),(39,vI (point.length:Int))]<|bE N fun x hy2 N=>xV rfl rfl h hy2 ?_;intro ad ccs1 hat hrep;obtain ⟨p5,c5,p6,c6,rfl,h8,h9⟩:=sQ hrep;refine xR 0 hat (cLoop x p5 c5 p6 c6) (vA (cLoop x p5 c5 p6 c6)) rfl<|yH 9 [] [(42,vS p2 point c2)] ?_;obtain ⟨⟨y2,y3⟩,hy3,N⟩:=zC N;refine xW (zC9 x point _ hy3 h8 h9 h2) ?_;rintro I04 hs2 v2 k2 le4 - ⟨v02,v03,rfl,rfl,rfl,rfl⟩ -;have h2:=h2.mono le4;have h:=h.mono le4;have h1:=iM le4 h1;refine yF [] [(5,vI y2),(6,vI y3)]<|yI<|yE [(7,vI y2)]<|zD<|zV<|wS [(0,vP r0 0),(1,vS p2 point c2),(6,vI y3),(7,vI y2)] ?_;obtain ⟨o01,ho01,hMl⟩:=zC N;refine ih_impl_walking_walk_l1 point y3 y2 w0.nest w0.steps w0.out o01 ho01 iR h2 h h1 (fun _ _ _ h=>h) (fun _ _ h=>h) ?_ ?_
    · intro I09 nest1 steps1 out1 p9 c9 p10 c10 cs4 heq1 le9 h14 h15;subst o01;refine zW<|wR [(4,vY)]<|zD<|yC ?_;obtain rfl:=zB hMl;exact xH ⟨_,_,(.tmp rfl ResV.nil),(zE [0,1] rfl (by decide)),⟨_,_,_,_,_,_,rfl,rfl,rfl,h14,h15⟩⟩
    intro r0 I9 hs9 m9 heq9 le9 hrs9;subst heq9;refine yB<|zM ?_;obtain rfl:=zB hMl;exact xH hrs9
  intro F_impl_walking_walk F_impl_walking_walk_l1 ih_impl_walking_walk ih_impl_walking_walk_l1 point y3 n0 nest steps out o N B I0 I Q r0 p2 c2 p7 c7 p8 c8 cs3 H h2 h12 h13 hg ho hx hr;refine yY hg ho<|yK<|yE [(49,.bool (decide (n0 < y3)))]<|zD<|yM N ?_ ?_
  · intro hc1 N;refine zX<|yI<|zV<|yO<|yH 7 [0] [(56,vI (W (steps + 1))),(58,vP r0 1)]<|xQ 0 [vS p7 nest c7,vI (W (steps + 1)),vS p8 out c8] [hB r0 [vS p7 nest c7,vI (W (steps + 1)),vS p8 out c8],hO (List Int) (vS p8 out c8) cs3] rfl rfl rfl rfl<|yN rfl<|zD<|yK ?_;obtain ⟨o0,ho0,hMc⟩:=zC N;refine yU (fun I' hs' m'=>∃ (t74:Bool) (nest2:List zH) (steps2:Int) (out2:List (List Int)) (p11:Option Addr) (c11:Nat) (p12:Option Addr) (c12:Nat) (cs5:List Value),o0=(t74,nest2,steps2,out2)∧I.le I'∧(S4 I' p11 nest2 c11)∧(RL I' cs5 out2)∧hs'=[hB r0 [vS p11 nest2 c11,vI steps2,vS p12 out2 c12],hO (List Int) (vS p12 out2 c12) cs5]∧m'=[(0,vP r0 0),(1,vS p2 point c2),(6,vI y3),(7,vI n0),(74,.bool t74)]) ?_ ?_
    · have H:=iS I;refine zQ<|yH 7 [0] [(65,.bool (decide ((W ((W (steps + 1)) + 1)) > 1200)))] ?_;cases hc2:(decide ((W ((W (steps + 1)) + 1)) > 1200)) with
      | true =>
       have hM0:=zU hc2 ho0
       try rw [hc2]
       exact yF [] [(74,vY)]<|yR [(0,vP r0 0),(1,vS p2 point c2),(6,vI y3),(7,vI n0),(74,vY)]<|zY ⟨_,_,_,_,_,_,_,_,_,(zB hM0).symm,H,h12,h13,rfl,rfl⟩
      | false =>
       have hM01:=zS hc2 ho0
       try rw [hc2]
       refine yH 9 [] [(66,vP r0 0),(67,vS p2 point c2)] ?_;obtain ⟨y4,hy4,N⟩:=zC hM01;refine xW (nZ point _ hy4 h2) ?_;rintro I06 hs2 v2 k2 le5 - ⟨p13,c13,cs6,rfl,rfl,h18⟩ -;have h12:=h12.mono le5;have h13:=iM le5 h13;have H:=H.trans le5;refine yH 11 [] [(69,vI n0)]<|xX [vI n0] Int ?_;intro b1 hb1;have h19:RL I06 [vI n0] ([n0]:List Int):=⟨[vI n0],_,rfl,rfl,rfl,rfl⟩;obtain ⟨l1,hy5,N⟩:=zC N;refine qF 3 1 1 rfl rfl rfl h18 (.inr ⟨0,rfl⟩) h19 hy5 fun p14 c14 cs7 h20=>rW (zE [1,2,3] (hs':=[hO Int (vS p14 l1 c14) cs7,hB r0 [vS p7 nest c7,vI (W (steps + 1)),vS p8 out c8],hO (List Int) (vS p8 out c8) cs3]) rfl (by decide))<|yJ 0 rfl ?_;intro I07 le6 hl02;have h21:=SL.of_frozen hl02 le6 h20;have h12:=h12.mono le6;have h13:=iM le6 h13;have H:=H.trans le6;obtain ⟨⟨y6,y7⟩,hy6,N⟩:=zC N;refine sY [hB r0 [vS p7 nest c7,vI (W (steps + 1)),vS p8 out c8],hO (List Int) (vS p8 out c8) cs3] [] (ih_impl_walking_walk (tM.mk nest (W (steps + 1)) out) l1 _ hy6 h12 h13 h21) ?_;rintro I08 hs2 v2 k2 le7 - ⟨v04,p15,c15,p16,c16,cs8,rfl,rfl,rfl,h23,h24⟩ -;have H:=H.trans le7;exact yF [] [(74,.bool (!y6))]<|yR [(0,vP r0 0),(1,vS p2 point c2),(6,vI y3),(7,vI n0),(74,.bool (!y6))]<|zY ⟨_,_,_,_,_,_,_,_,_,(zB N).symm,H,h23,h24,rfl,rfl⟩
    rintro I05 hs2 m2 ⟨t74,nest2,steps2,out2,p11,c11,p12,c12,cs5,heq,le8,h16,h17,rfl,rfl⟩;subst o0;have h2:=h2.mono le8;have H:=H.trans le8;refine zD<|yM hMc ?_ ?_
    · intro hc3 N;exact yE [(4,vF)]<|zD<|yC<|yB<|zM<|zM<|hr _ _ _ _ (zB N).symm H ⟨_,_,(.tmp rfl ResV.nil),(zE [0,1] rfl (by decide)),⟨_,_,_,_,_,_,rfl,rfl,rfl,h16,h17⟩⟩
    intro hc3 N;exact zX<|zT<|zD<|zQ<|yF [] [(7,vI (W (n0 + 1)))]<|yZ<|wS [(0,vP r0 0),(1,vS p2 point c2),(6,vI y3),(7,vI (W (n0 + 1)))]<|ih_impl_walking_walk_l1 point y3 (W (n0 + 1)) nest2 steps2 out2 _ N H h2 h16 h17 hg ho hx hr
  intro hc1 N;exact yX<|zL<|zL<|yR []<|hx _ _ _ _ _ _ _ _ _ (zB N).symm H h12 h13
theorem zAo:∀ w0 point r,tG w0 point=some r→∀ {I:Imm}{r0:Nat}{p c p1 c1 cs p2 c2},(S4 I p w0.nest c)→(RL I cs w0.out)→(S4 I p2 point c2)→Ret Tryz.prog 104 [vP r0 0,vS p2 point c2] I [hB r0 [vS p w0.nest c,vI w0.steps,vS p1 w0.out c1],hO (List Int) (vS p1 w0.out c1) cs] (mM r0 r):=zA2.1
def nA (nest:(List zH)):Option ((List (List Int))×Bool):=do
 let y←nY nest
 if (!y) then
  pure (([]:List (List Int)),false)
 else
  let (y2,y3)←tG (tM.mk nest 0 ([]:List (List Int))) ([]:List Int)
  if (!y2) then
   pure (([]:List (List Int)),false)
  else
   pure (y3.out,true)
theorem zBi:∀ nest r,nA nest=some r→∀ {I:Imm}{p c},(S4 I p nest c)→Ret Tryz.prog 67 [vS p nest c] I [] (gN  r):=by
 intro nest r N I p c h;unfold nA at N;refine yA (fn:=Tryz.f67) (c:=(bodyOf Tryz.f67)) Tryz.func67 rfl rfl ?_;rintro B - -;refine yE []<|yI<|yO<|yH 1 [] [(5,vS p nest c)]<|bE N fun y hy N=>uR (zC8 nest _ hy h) ?_;intro I0 le;have h:=h.mono le;refine yF [] [(7,.bool (!y))]<|zD<|yM N ?_ ?_
 · intro hc N;refine yE [(2,z0),(3,vF)]<|zD<|yC<|zM ?_;obtain rfl:=zB N;exact xH ⟨_,_,(.tmp rfl (.tmp rfl ResV.nil)),yD,⟨_,_,rfl,rfl,(SL.nil _),rfl⟩⟩
 intro hc N;refine zX<|xI<|yH 2 [] [(9,vA [vS p nest c,vI 0,z0])]<|tA [vS p nest c,vI 0,z0] ?_;intro b hb;refine yF [] [(4,vP b 0)]<|yI<|yO<|yH 1 [] [(11,vP b 0)]<|rW (uP (Rp.sz (List Int))) ?_;have h2:RL I0 [] ([]:List (List Int)):=RepL.nil;refine rW (zE [1,0] (hs':=[hB b [vS p nest c,vI 0,vS none ([]:List (List Int)) 0],hO (List Int) (vS none ([]:List (List Int)) 0) []]) rfl (by decide)) ?_;obtain ⟨⟨y2,y3⟩,hy1,N⟩:=zC N;refine sY [hB b [vS p nest c,vI 0,vS none ([]:List (List Int)) 0],hO (List Int) (vS none ([]:List (List Int)) 0) []] [] (zAo (tM.mk nest 0 ([]:List (List Int))) ([]:List Int) _ hy1 h h2 (SL.nil _)) ?_;rintro I01 hs2 v2 k2 le1 - ⟨v01,p1,c1,p2,c2,cs,rfl,rfl,rfl,h4,h5⟩ -;refine yF [] [(13,.bool (!y2))]<|zD<|yM N ?_ ?_
 · intro hc1 N;refine yE [(2,z0),(3,vF)]<|zD<|yC<|zM ?_;obtain rfl:=zB N;exact xH ⟨_,_,(.tmp rfl (.tmp rfl ResV.nil)),yD,⟨_,_,rfl,rfl,(SL.nil _),rfl⟩⟩
 intro hc1 N;refine zX<|xI<|yF [0] [(2,vS p2 y3.out c2),(3,vY)]<|zD<|yC<|xG 1 rfl ?_;intro I02 le2 hl0;have h6:=SL.of_frozen hl0 le2 h5;obtain rfl:=zB N;exact xH ⟨_,_,(.tmp rfl (.tmp rfl ResV.nil)),yD,⟨_,_,rfl,rfl,h6,rfl⟩⟩
def rY (hsF:List HA) (r:Int):KT:=fun kk I' hs' v=>
  ∃ v0,hsF=hs'∧v=tupV [v0]∧v0=.int .i64 r
def xF (s:(List zR)) (f0:(zR→Option Bool)) (t8:Int):Option (Out Unit (Int)):=do
 if (decide (t8 < (s.length:Int))) then
  let x←idx s t8
  let y←f0 x
  if y then
   pure (.ret t8)
  else
   xF s f0 (W (t8 + 1))
 else
  pure (.done ())
 partial_fixpoint
theorem mN (s:(List zR)) (f0:(zR→Option Bool)):∀ (t8:Int) (o:Out Unit (Int)),xF s f0 t8=some o→∀ {B}{I0 I:Imm}{Q p c}{fv:Value}{hsF:List HA},I0.le I→(S4 I p s c)→(FV1 Tryz.prog I hsF fv f0)→NG Q→NO Q→(∀ (I':Imm) ,o=(.done ())→I0.le I'→T 19 B Q (.exit 0) I' hsF [])→(∀ r I' hs' m',o=(.ret r)→I0.le I'→RS Tryz.prog Tryz.f105 B (rY hsF r) I' hs' m'→T 19 B Q .ret I' hs' m')→J Tryz.prog 19 B (nav (bodyOf Tryz.f105) [1,0,1,0]) Q I hsF [(0,vS p s c),(1,fv),(7,vI (s.length:Int)),(8,vI t8)]:=by
 refine xF.partial_correctness s f0 _ fun self ih t8 o N B I0 I Q p c fv hsF H h h1 hg ho hx hr=>yY hg ho<|yE [(9,.bool (decide (t8 < (s.length:Int))))]<|yI<|yM N ?_ ?_
 · intro hc N;refine zX<|yI<|zV<|yE [(5,vI t8)]<|xI<|yH 3 [] [(11,fv),(12,vS p s c),(13,vI t8)]<|bE N fun x hy N=>xV rfl rfl h hy ?_;intro ad ccs hat hrep;obtain ⟨p1,c1,p2,c2,p3,c3,p4,c4,rfl,h2,h3,h4,h5⟩:=rH hrep;refine xR 0 hat (cStmt x p1 c1 p2 c2 p3 c3 p4 c4) (vA (cStmt x p1 c1 p2 c2 p3 c3 p4 c4)) rfl<|bE N fun y hy1 N=>zG7 rfl rfl h1 hy1 ⟨_,rfl,(wT ⟨_,_,_,_,rfl,h2,h3,h4,h5⟩)⟩ (List.append_nil _).symm ?_;rintro I0 v04 le rfl;refine uO (hs':=hsF) (List.append_nil _) ?_;have h:=h.mono le;have h1:=h1.mono le;have H:=H.trans le;refine yN rfl<|zD<|yM N ?_ ?_
   · intro hc1 N;exact yE [(4,vI t8)]<|zD<|yC<|yB<|zM<|zM<|hr _ _ _ _ (zB N).symm H ⟨_,_,(.tmp rfl ResV.nil),(fun _ h=>h),⟨_,rfl,rfl,rfl⟩⟩
   intro hc1 N;exact zX<|zT<|zD<|zQ<|yF [] [(8,vI (W (t8 + 1)))]<|yZ<|wS [(0,vS p s c),(1,fv),(7,vI (s.length:Int)),(8,vI (W (t8 + 1)))]<|ih (W (t8 + 1)) _ N H h h1 hg ho hx hr
 intro hc N;exact yX<|zL<|zL<|yR []<|hx _  (zB N).symm H
def vH (s:(List zR)) (f0:(zR→Option Bool)):Option (Int):=do
 match←xF s f0 0 with
 | .ret r0=>pure r0
 | .done _ =>
  pure (-1)
theorem kF:∀ s f0 r,vH s f0=some r→∀ {I:Imm}{p c}{fv:Value}{hsF:List HA},(S4 I p s c)→(FV1 Tryz.prog I hsF fv f0)→Ret Tryz.prog 105 [vS p s c,fv] I hsF (rY hsF r):=by
 intro s f0 r N I p c fv hsF h h1;unfold vH at N;refine yA (fn:=Tryz.f105) (c:=(bodyOf Tryz.f105)) Tryz.func105 rfl rfl ?_;rintro B - -;refine yE []<|yI<|yE [(7,vI (s.length:Int)),(8,vI 0)]<|zD<|zV<|wS [(0,vS p s c),(1,fv),(7,vI (s.length:Int)),(8,vI 0)] ?_;obtain ⟨o0,ho0,hMl⟩:=zC N;refine mN s f0 0 o0 ho0 iR h h1 (fun _ _ _ h=>h) (fun _ _ h=>h) ?_ ?_
 · intro I01  heq le1;subst o0;refine zW<|wR [(4,vI (-1))]<|zD<|yC ?_;obtain rfl:=zB hMl;exact xH ⟨_,_,(.tmp rfl ResV.nil),(fun _ h=>h),⟨_,rfl,rfl,rfl⟩⟩
 intro r0 I9 hs9 m9 heq9 le9 hrs9;subst heq9;refine yB<|zM ?_;obtain rfl:=zB hMl;exact xH hrs9
def mB (hsF:List HA) (r:Bool):KT:=fun kk I' hs' v=>
  ∃ v0,hsF=hs'∧v=tupV [v0]∧v0=.bool r
def xY (s:(List zR)) (f0:(zR→Option Bool)):Option (Bool):=do
 let y←vH s f0
 pure (decide (y ≥ 0))
theorem mO:∀ s f0 r,xY s f0=some r→∀ {I:Imm}{p c}{fv:Value}{hsF:List HA},(S4 I p s c)→(FV1 Tryz.prog I hsF fv f0)→Ret Tryz.prog 68 [vS p s c,fv] I hsF (mB hsF r):=by
 intro s f0 r N I p c fv hsF h h1;unfold xY at N;refine yA (fn:=Tryz.f68) (c:=(bodyOf Tryz.f68)) Tryz.func68 rfl rfl ?_;rintro B - -;refine yE []<|xI<|yH 2 [] [(5,vS p s c),(6,fv)]<|bE N fun y hy N=>zCp (hs1:=hsF) (rest:=[]) rfl rfl rfl rfl (by kernel_rfl) rfl (List.append_nil _).symm (kF s f0 _ hy h h1) ?_;rintro I0 hs2 v2 k2 le - ⟨v0,rfl,rfl,rfl⟩ -;refine uO (hs':=hsF) (List.append_nil _) ?_;refine yF [] [(4,.bool (decide (y ≥ 0)))]<|zD<|yC ?_;obtain rfl:=zB N;exact xH ⟨_,_,(.tmp rfl ResV.nil),(fun _ h=>h),⟨_,rfl,rfl,rfl⟩⟩
def rS (s:zA) (x:Int):Option (Bool):=do
 let t3←(do
   let y←sX s
   if (!y) then
    pure true
   else
    let y1←sH s
    pure (decide (y1 > x))
     : Option Bool)
 pure (id t3)
theorem zBj:∀ s x r,rS s x=some r→∀ {I:Imm}{p c}{ad:Addr},(S4 I p s.Coefs c)→(At I ad [vI x])→Ret Tryz.prog 138 [vA (cAff s p c),.pointer (some ad)] I [] (zZ  r):=by
 intro s x r N I p c ad h hat;unfold rS at N;refine yA (fn:=Tryz.f138) (c:=(bodyOf Tryz.f138)) Tryz.func138 rfl rfl ?_;rintro B - -;have H:=iS I;refine yO<|tA (cAff s p c) ?_;intro b hb;refine yF [] []<|zD<|yK ?_;obtain ⟨o0,ho0,hMc⟩:=zC N;refine yU (fun I' hs' m'=>∃ (t3:Bool),o0=t3∧I.le I'∧hs'=[]∧m'=[(3,.bool t3)]) ?_ ?_
 · have H:=iS I;obtain ⟨y,hy,N⟩:=zC ho0;cases hc:(!y) with
   | true =>
    have hM0:=zU hc N;refine vQ [.p (vA (cAff s p c)) [0],.q (.bool y),.q vY,.q vY,.p undef [],.p undef [],.p undef [],.p undef [],.p vY []] [[],[(0,false)],[(1,false)],[(2,false)],[(3,false)],[(3,false),(4,false)],[(3,false)],[(3,false),(5,false),(6,false)],[(3,false),(7,false)]] [hB b (cAff s p c)] [] [(8,false)] (zE [0] rfl (by decide)) ?_ ?_
    · refine Op<|Oq ?_<|Oq ?_<|Oq ?_<|Op<|Op<|Op<|Op<|Op<|On
      · intro I1 hf le1;refine yV [(4,vA (cAff s p c))] ?_;have H:=iS I1;have h:=h.mono le1;refine uR (pU s _ hy h) ?_;intro I01 le;have H:=H.trans le;exact xP H
      · intro I1 hf le1;refine yV [(5,.bool y)]<|pH 3 [(6,.bool (!y))] ?_;rw [hc];exact xP iR
      intro I1 hf le1;exact yV [(6,vY)]<|pH 4 [(7,vY)]<|xP iR
    intro I02 le1;refine yV [(12,vY)] ?_;have H:=H.trans le1;exact yF [] [(3,vY)]<|wC (zE [] rfl (by decide))<|yR [(3,vY)]<|zY ⟨_,(zB hM0).symm,H,rfl,rfl⟩
   | false =>
    have hM01:=zS hc N;obtain ⟨y1,hy1,N⟩:=zC hM01;refine vQ [.p (vA (cAff s p c)) [0],.q (.bool y),.q vF,.q vF,.p (vA (cAff s p c)) [0],.q (vI y1),.q (vI x),.p (.bool (decide (y1 > x))) [],.p (.bool (decide (y1 > x))) []] [[],[(0,false)],[(1,false)],[(2,false)],[(3,false)],[(3,false),(4,false)],[(3,false)],[(3,false),(5,false),(6,false)],[(3,false),(7,false)]] [hB b (cAff s p c)] [] [(8,false)] (zE [0] rfl (by decide)) ?_ ?_
    · refine Op<|Oq ?_<|Oq ?_<|Oq ?_<|Op<|Oq ?_<|Oq ?_<|Op<|Op<|On
      · intro I1 hf le1;refine yV [(4,vA (cAff s p c))] ?_;have H:=iS I1;have h:=h.mono le1;refine uR (pU s _ hy h) ?_;intro I01 le;have H:=H.trans le;exact xP H
      · intro I1 hf le1;refine yV [(5,.bool y)]<|pH 3 [(6,.bool (!y))] ?_;rw [hc];exact xP iR
      · intro I1 hf le1;exact yV [(6,vF)]<|pH 4 [(7,vF)]<|xP iR
      · intro I1 hf le1;refine yV [(7,vF),(8,vA (cAff s p c))] ?_;have H:=iS I1;have h:=h.mono le1;refine kE (kM s _ hy1 h) ?_;intro I03 le2;have H:=H.trans le2;exact xP H
      intro I1 hf le1;refine yV [(1,.pointer (some ad)),(7,vF)] ?_;have hat:=hat.mono le1;exact xR 0 hat [vI x] (vI x) rfl<|xP iR
    intro I04 le3;refine yV [(12,.bool (decide (y1 > x)))] ?_;have H:=H.trans le3;exact yF [] [(3,.bool (decide (y1 > x)))]<|wC (zE [] rfl (by decide))<|yR [(3,.bool (decide (y1 > x)))]<|zY ⟨_,(zB N).symm,H,rfl,rfl⟩
 rintro I0 hs2 m2 ⟨t3,heq,le4,rfl,rfl⟩;subst o0;refine zD<|yC ?_;obtain rfl:=zB hMc;exact wY
def oU (a0:zK) (depth:Int):Option (Bool):=do
 let t4←(do
   let y←nX a0.Array
   if y then
    let y1←wB (a0.Subs.length:Int) 1 2
    if y1 then
     let y2←xJ a0.Subs (fun x0=>rS x0 depth)
     pure (!y2)
    else
     pure false
   else
    pure false
     : Option Bool)
 pure (id t4)
theorem dS:∀ a0 depth r,oU a0 depth=some r→∀ {I:Imm}{p c},(S4 I p a0.Subs c)→Ret Tryz.prog 106 [vA (cAccess a0 p c),vI depth] I [] (zZ  r):=by
 intro a0 depth r N I p c h;unfold oU at N;refine yA (fn:=Tryz.f106) (c:=(bodyOf Tryz.f106)) Tryz.func106 rfl rfl ?_;rintro B - -;have H:=iS I;refine yO<|tA (cAccess a0 p c) ?_;intro b hb;refine tA [vI depth] ?_;intro b1 hb1;refine yJ 0 rfl ?_;intro I0 le hl0;have hat:At I0 ⟨b1,0,none⟩ [vI depth]:=At.of_blk hl0;have h:=h.mono le;have H:=H.trans le;refine yF [] []<|zD<|yK ?_;obtain ⟨o0,ho0,hMc⟩:=zC N;refine yU (fun I' hs' m'=>∃ (t4:Bool),o0=t4∧I0.le I'∧hs'=[]∧m'=[(4,.bool t4)]) ?_ ?_
 · have H:=iS I0;refine zQ<|yH 2 [0] [(6,vT a0.Array.l)] ?_;obtain ⟨y,hy,N⟩:=zC ho0;refine uR (pP a0.Array _ hy ) ?_;intro I02 le1;have hat:=hat.mono le1;have h:=h.mono le1;have H:=H.trans le1;refine yH 4 [] [(8,.bool y)] ?_;cases hc:y with
   | true =>
    have hM0:=zU hc N
    try rw [hc]
    refine yH 7 [0] [(11,vI (a0.Subs.length:Int))] ?_;obtain ⟨y1,hy1,N⟩:=zC hM0;refine uR (wL (a0.Subs.length:Int) 1 2 _ hy1 ) ?_;intro I03 le2;have hat:=hat.mono le2;have h:=h.mono le2;have H:=H.trans le2;refine yH 10 [] [(14,.bool y1)] ?_;cases hc1:y1 with
    | true =>
     have hM01:=zU hc1 N
     try rw [hc1]
     refine yH 13 [0] [(16,vS p a0.Subs c),(17,.func (.func 138) ⟨[]⟩ ⟨[vP b1 0]⟩)] ?_;have hf0:FV1 Tryz.prog I03 [] (.func (.func 138) ⟨[]⟩ ⟨[vP b1 0]⟩) (fun x0=>rS x0 depth):=by
       refine FV1.intro ?_;intro I1 le1 x0 r u0 hF k0;obtain ⟨_,rfl,k0⟩:=k0;obtain ⟨p1,c1,rfl,h3⟩:=yQ k0;exact (zBj x0 depth r hF h3 (hat.mono le1)).mono (by rintro k i hs u ⟨v0,rfl,rfl,h⟩; exact ⟨rfl,h⟩)
     obtain ⟨y2,hy2,N⟩:=zC hM01;refine xW (sP a0.Subs (fun x0=>rS x0 depth) _ hy2 h hf0) ?_;rintro I04 hs2 v2 k2 le3 - ⟨v03,rfl,rfl,rfl⟩ -;have H:=H.trans le3;exact yF [] [(4,.bool (!y2))]<|wC (zE [] rfl (by decide))<|yR [(4,.bool (!y2))]<|zY ⟨_,(zB N).symm,H,rfl,rfl⟩
    | false =>
     have hM02:=zS hc1 N
     try rw [hc1]
     exact yF [] [(4,vF)]<|wC (zE [] rfl (by decide))<|yR [(4,vF)]<|zY ⟨_,(zB hM02).symm,H,rfl,rfl⟩
   | false =>
    have hM03:=zS hc N
    try rw [hc]
    exact yF [] [(4,vF)]<|wC (zE [] rfl (by decide))<|yR [(4,vF)]<|zY ⟨_,(zB hM03).symm,H,rfl,rfl⟩
 rintro I01 hs2 m2 ⟨t4,heq,le4,rfl,rfl⟩;subst o0;refine zD<|yC ?_;obtain rfl:=zB hMc;exact wY
def oV (a0:zA):Option (Bool):=do
 let t2←(do
   if ((a0.Coefs.length:Int) == 0) then
    pure (a0.Const == 0)
   else
    pure false
     : Option Bool)
 pure (id t2)
theorem dT:∀ a0 r,oV a0=some r→∀ {I:Imm}{p c},(S4 I p a0.Coefs c)→Ret Tryz.prog 141 [vA (cAff a0 p c)] I [] (zZ  r):=by
 intro a0 r N I p c h;unfold oV at N;refine yA (fn:=Tryz.f141) (c:=(bodyOf Tryz.f141)) Tryz.func141 rfl rfl ?_;rintro B - -;have H:=iS I;refine yO<|tA (cAff a0 p c) ?_;intro b hb;refine yF [] []<|zD<|yK ?_;obtain ⟨o0,ho0,hMc⟩:=zC N;refine yU (fun I' hs' m'=>∃ (t2:Bool),o0=t2∧I.le I'∧hs'=[]∧m'=[(2,.bool t2)]) ?_ ?_
 · have H:=iS I;refine zQ<|yH 5 [0] [(7,.bool ((a0.Coefs.length:Int) == 0))] ?_;cases hc:((a0.Coefs.length:Int) == 0) with
   | true =>
    have hM0:=zU hc ho0
    try rw [hc]
    exact yF [0] [(2,.bool (a0.Const == 0))]<|wC (zE [] rfl (by decide))<|yR [(2,.bool (a0.Const == 0))]<|zY ⟨_,(zB hM0).symm,H,rfl,rfl⟩
   | false =>
    have hM01:=zS hc ho0
    try rw [hc]
    exact yF [] [(2,vF)]<|wC (zE [] rfl (by decide))<|yR [(2,vF)]<|zY ⟨_,(zB hM01).symm,H,rfl,rfl⟩
 rintro I0 hs2 m2 ⟨t2,heq,le,rfl,rfl⟩;subst o0;refine zD<|yC ?_;obtain rfl:=zB hMc;exact wY
def rZ (a0:zK):Option (Bool):=do
 let t2←(do
   if (a0.Array.l == ([]:List UInt8)) then
    pure ((a0.Subs.length:Int) == 0)
   else
    pure false
     : Option Bool)
 pure (id t2)
theorem kU:∀ a0 r,rZ a0=some r→∀ {I:Imm}{p c},(S4 I p a0.Subs c)→Ret Tryz.prog 142 [vA (cAccess a0 p c)] I [] (zZ  r):=by
 intro a0 r N I p c h;unfold rZ at N;refine yA (fn:=Tryz.f142) (c:=(bodyOf Tryz.f142)) Tryz.func142 rfl rfl ?_;rintro B - -;have H:=iS I;refine yO<|tA (cAccess a0 p c) ?_;intro b hb;refine yF [] []<|zD<|yK ?_;obtain ⟨o0,ho0,hMc⟩:=zC N;refine yU (fun I' hs' m'=>∃ (t2:Bool),o0=t2∧I.le I'∧hs'=[]∧m'=[(2,.bool t2)]) ?_ ?_
 · have H:=iS I;refine zQ<|yH 4 [0] [(6,.bool (a0.Array.l == ([]:List UInt8)))] ?_;cases hc:(a0.Array.l == ([]:List UInt8)) with
   | true =>
    have hM0:=zU hc ho0
    try rw [hc]
    exact yF [0] [(2,.bool ((a0.Subs.length:Int) == 0))]<|wC (zE [] rfl (by decide))<|yR [(2,.bool ((a0.Subs.length:Int) == 0))]<|zY ⟨_,(zB hM0).symm,H,rfl,rfl⟩
   | false =>
    have hM01:=zS hc ho0
    try rw [hc]
    exact yF [] [(2,vF)]<|wC (zE [] rfl (by decide))<|yR [(2,vF)]<|zY ⟨_,(zB hM01).symm,H,rfl,rfl⟩
 rintro I0 hs2 m2 ⟨t2,heq,le,rfl,rfl⟩;subst o0;refine zD<|yC ?_;obtain rfl:=zB hMc;exact wY
def gR (kind:Int):Option (Bool):=do
 let y←wB kind 4 6
 pure (id y)
theorem zFx:∀ kind r,gR kind=some r→∀ {I:Imm} ,Ret Tryz.prog 143 [vI kind] I [] (zZ  r):=by
 intro kind r N I;unfold gR at N;refine yA (fn:=Tryz.f143) (c:=(bodyOf Tryz.f143)) Tryz.func143 rfl rfl ?_;rintro B - -;refine yE []<|xI<|yH 1 [] [(3,vI kind)]<|bE N fun y hy N=>uR (wL kind 4 6 _ hy ) fun I0 le=>yF [] [(2,.bool y)]<|zD<|yC ?_;obtain rfl:=zB N;exact wY
def zBk (b0:Nat) (r:Bool×Int):KT:=fun kk I' hs' v=>
  ∃ v0 k0,hs'=[.blk b0 ⟨k0⟩]∧v=tupV [v0]∧v0=.bool r.1∧Rp.rep I' k0 r.2
def vZ (e0:zF) (depth:Int) (deep:Int) (count:Int):Option (Bool×Int):=do
 let t21←(do
   if (decide ((W (count + 1)) > 12)) then
    pure true
   else
    pure (decide (deep > 5))
     : Option Bool)
 if t21 then
  pure (false,(W (count + 1)))
 else
  let t51←(do
    if (e0.Kind != 1) then
     if (e0.Num != 0) then
      pure true
     else
      if (e0.Kind != 2) then
       let y←oV e0.Index
       if (!y) then
        pure true
       else
        if (e0.Kind != 3) then
         let y1←rZ e0.Read
         pure (!y1)
        else
         pure false
      else
       if (e0.Kind != 3) then
        let y2←rZ e0.Read
        pure (!y2)
       else
        pure false
    else
     if (e0.Kind != 2) then
      let y3←oV e0.Index
      if (!y3) then
       pure true
      else
       if (e0.Kind != 3) then
        let y4←rZ e0.Read
        pure (!y4)
       else
        pure false
     else
      if (e0.Kind != 3) then
       let y5←rZ e0.Read
       pure (!y5)
      else
       pure false
      : Option Bool)
  if t51 then
   pure (false,(W (count + 1)))
  else
   if (e0.Kind == 1) then
    let t8←(do
      let y6←wB e0.Num 0 99
      if y6 then
       pure ((e0.Kids.length:Int) == 0)
      else
       pure false
        : Option Bool)
    pure (t8,(W (count + 1)))
   else
    if (e0.Kind == 2) then
     let t81←(do
       let y7←sX e0.Index
       if y7 then
        let y8←sH e0.Index
        if (decide (y8 ≤ depth)) then
         pure ((e0.Kids.length:Int) == 0)
        else
         pure false
       else
        pure false
         : Option Bool)
     pure (t81,(W (count + 1)))
    else
     if (e0.Kind == 3) then
      let t82←(do
        let y9←oU e0.Read depth
        if y9 then
         pure ((e0.Kids.length:Int) == 0)
        else
         pure false
          : Option Bool)
      pure (t82,(W (count + 1)))
     else
      let t99←(do
        let y10←gR e0.Kind
        if (!y10) then
         pure true
        else
         pure ((e0.Kids.length:Int) != 2)
          : Option Bool)
      if t99 then
       pure (false,(W (count + 1)))
      else
       let (t83,x)←(do
         let x1←idx e0.Kids 0
         let (y12,y13)←vZ (same x1) (same depth) (W (deep + 1)) (W (count + 1))
         if y12 then
          let x2←idx e0.Kids 1
          let (y15,y16)←vZ (same x2) (same depth) (W (deep + 1)) (same y13)
          pure (y15,y16)
         else
          pure (false,y13)
           : Option (Bool×Int))
       pure (t83,x)
 partial_fixpoint
theorem zDQ:∀ e0 depth deep count r,vZ e0 depth deep count=some r→∀ {I:Imm}{p c p1 c1 p2 c2}{r0:Nat},(S4 I p e0.Index.Coefs c)→(S4 I p1 e0.Read.Subs c1)→(S4 I p2 e0.Kids c2)→Ret Tryz.prog 107 [vA (cExpr e0 p c p1 c1 p2 c2),vI depth,vI deep,vP r0 0] I [hB r0 [vI count]] (zBk r0 r):=by
 refine vZ.partial_correctness _ fun F_impl_exprScan ih_impl_exprScan e0 depth deep count r N I p c p1 c1 p2 c2 r0 h h1 h2=>yA (fn:=Tryz.f107) (c:=(bodyOf Tryz.f107)) Tryz.func107 rfl rfl ?_;rintro B - -;have H:=iS I;refine yO<|tA (cExpr e0 p c p1 c1 p2 c2) ?_;intro b hb;refine yF [] []<|xI<|yH 5 [1] [(12,vI (W (count + 1))),(13,vP r0 0)]<|xQ 1 [vI (W (count + 1))] [hB b (cExpr e0 p c p1 c1 p2 c2),hB r0 [vI (W (count + 1))]] rfl rfl rfl rfl<|yN rfl<|yI<|yK ?_;obtain ⟨o0,ho0,hMc⟩:=zC N;refine yU (fun I' hs' m'=>∃ (t21:Bool),o0=t21∧I.le I'∧hs'=[hB b (cExpr e0 p c p1 c1 p2 c2),hB r0 [vI (W (count + 1))]]∧m'=[(1,vI depth),(2,vI deep),(3,vP r0 0),(4,vP b 0),(21,.bool t21)]) ?_ ?_
 · have H:=iS I;refine zQ<|yH 5 [1] [(18,.bool (decide ((W (count + 1)) > 12)))] ?_;cases hc:(decide ((W (count + 1)) > 12)) with
   | true =>
    have hM0:=zU hc ho0
    try rw [hc]
    exact yF [] [(21,vY)]<|yR [(1,vI depth),(2,vI deep),(3,vP r0 0),(4,vP b 0),(21,vY)]<|zY ⟨_,(zB hM0).symm,H,rfl,rfl⟩
   | false =>
    have hM01:=zS hc ho0
    try rw [hc]
    exact yF [] [(21,.bool (decide (deep > 5)))]<|yR [(1,vI depth),(2,vI deep),(3,vP r0 0),(4,vP b 0),(21,.bool (decide (deep > 5)))]<|zY ⟨_,(zB hM01).symm,H,rfl,rfl⟩
 rintro I0 hs2 m2 ⟨t21,heq,le,rfl,rfl⟩;subst o0;have h:=h.mono le;have h1:=h1.mono le;have h2:=h2.mono le;have H:=H.trans le;refine zD<|yM hMc ?_ ?_
 · intro hc1 N;refine yE [(8,vF)]<|zD<|yC<|zM ?_;obtain rfl:=zB N;exact xH ⟨_,_,(.tmp rfl ResV.nil),(zE [1] rfl (by decide)),⟨_,_,rfl,rfl,rfl,rfl⟩⟩
 intro hc1 N;refine zX<|yI<|yK ?_;obtain ⟨o01,ho01,hMc1⟩:=zC N;refine yU (fun I' hs' m'=>∃ (t51:Bool),o01=t51∧I0.le I'∧hs'=[hB b (cExpr e0 p c p1 c1 p2 c2),hB r0 [vI (W (count + 1))]]∧m'=[(1,vI depth),(2,vI deep),(3,vP r0 0),(4,vP b 0),(51,.bool t51)]) ?_ ?_
 · have H:=iS I0;refine zQ<|yH 4 [0] [(25,.bool (e0.Kind != 1))] ?_;cases hc2:(e0.Kind != 1) with
   | true =>
    have hM02:=zU hc2 ho01
    try rw [hc2]
    refine yH 9 [0] [(30,.bool (e0.Num != 0))] ?_;cases hc3:(e0.Num != 0) with
    | true =>
     have hM03:=zU hc3 hM02
     try rw [hc3]
     exact yF [] [(51,vY)]<|yR [(1,vI depth),(2,vI deep),(3,vP r0 0),(4,vP b 0),(51,vY)]<|zY ⟨_,(zB hM03).symm,H,rfl,rfl⟩
    | false =>
     have hM04:=zS hc3 hM02
     try rw [hc3]
     refine yH 13 [0] [(34,.bool (e0.Kind != 2))] ?_;cases hc4:(e0.Kind != 2) with
     | true =>
      have hM05:=zU hc4 hM04
      try rw [hc4]
      refine yH 15 [0] [(36,vA (cAff e0.Index p c))] ?_;obtain ⟨y,hy,N⟩:=zC hM05;refine uR (dT e0.Index _ hy h) ?_;intro I02 le1;have h1:=h1.mono le1;have H:=H.trans le1;refine yH 20 [] [(41,.bool (!y))] ?_;cases hc5:(!y) with
      | true =>
       have hM06:=zU hc5 N
       try rw [hc5]
       exact yF [] [(51,vY)]<|yR [(1,vI depth),(2,vI deep),(3,vP r0 0),(4,vP b 0),(51,vY)]<|zY ⟨_,(zB hM06).symm,H,rfl,rfl⟩
      | false =>
       have hM07:=zS hc5 N
       try rw [hc5]
       refine yH 24 [0] [(45,.bool (e0.Kind != 3))] ?_;cases hc6:(e0.Kind != 3) with
       | true =>
        have hM08:=zU hc6 hM07
        try rw [hc6]
        refine yH 26 [0] [(47,vA (cAccess e0.Read p1 c1))] ?_;obtain ⟨y1,hy1,N⟩:=zC hM08;refine uR (kU e0.Read _ hy1 h1) ?_;intro I03 le2;have H:=H.trans le2;exact yF [] [(51,.bool (!y1))]<|yR [(1,vI depth),(2,vI deep),(3,vP r0 0),(4,vP b 0),(51,.bool (!y1))]<|zY ⟨_,(zB N).symm,H,rfl,rfl⟩
       | false =>
        have hM09:=zS hc6 hM07
        try rw [hc6]
        exact yF [] [(51,vF)]<|yR [(1,vI depth),(2,vI deep),(3,vP r0 0),(4,vP b 0),(51,vF)]<|zY ⟨_,(zB hM09).symm,H,rfl,rfl⟩
     | false =>
      have hM010:=zS hc4 hM04
      try rw [hc4]
      refine yH 24 [0] [(41,vF),(45,.bool (e0.Kind != 3))] ?_;cases hc7:(e0.Kind != 3) with
      | true =>
       have hM011:=zU hc7 hM010
       try rw [hc7]
       refine yH 26 [0] [(47,vA (cAccess e0.Read p1 c1))] ?_;obtain ⟨y2,hy2,N⟩:=zC hM011;refine uR (kU e0.Read _ hy2 h1) ?_;intro I04 le3;have H:=H.trans le3;exact yF [] [(51,.bool (!y2))]<|yR [(1,vI depth),(2,vI deep),(3,vP r0 0),(4,vP b 0),(51,.bool (!y2))]<|zY ⟨_,(zB N).symm,H,rfl,rfl⟩
      | false =>
       have hM012:=zS hc7 hM010
       try rw [hc7]
       exact yF [] [(51,vF)]<|yR [(1,vI depth),(2,vI deep),(3,vP r0 0),(4,vP b 0),(51,vF)]<|zY ⟨_,(zB hM012).symm,H,rfl,rfl⟩
   | false =>
    have hM013:=zS hc2 ho01
    try rw [hc2]
    refine yH 13 [0] [(30,vF),(34,.bool (e0.Kind != 2))] ?_;cases hc8:(e0.Kind != 2) with
    | true =>
     have hM014:=zU hc8 hM013
     try rw [hc8]
     refine yH 15 [0] [(36,vA (cAff e0.Index p c))] ?_;obtain ⟨y3,hy3,N⟩:=zC hM014;refine uR (dT e0.Index _ hy3 h) ?_;intro I05 le4;have h1:=h1.mono le4;have H:=H.trans le4;refine yH 20 [] [(41,.bool (!y3))] ?_;cases hc9:(!y3) with
     | true =>
      have hM015:=zU hc9 N
      try rw [hc9]
      exact yF [] [(51,vY)]<|yR [(1,vI depth),(2,vI deep),(3,vP r0 0),(4,vP b 0),(51,vY)]<|zY ⟨_,(zB hM015).symm,H,rfl,rfl⟩
     | false =>
      have hM016:=zS hc9 N
      try rw [hc9]
      refine yH 24 [0] [(45,.bool (e0.Kind != 3))] ?_;cases hc10:(e0.Kind != 3) with
      | true =>
       have hM017:=zU hc10 hM016
       try rw [hc10]
       refine yH 26 [0] [(47,vA (cAccess e0.Read p1 c1))] ?_;obtain ⟨y4,hy4,N⟩:=zC hM017;refine uR (kU e0.Read _ hy4 h1) ?_;intro I06 le5;have H:=H.trans le5;exact yF [] [(51,.bool (!y4))]<|yR [(1,vI depth),(2,vI deep),(3,vP r0 0),(4,vP b 0),(51,.bool (!y4))]<|zY ⟨_,(zB N).symm,H,rfl,rfl⟩
      | false =>
       have hM018:=zS hc10 hM016
       try rw [hc10]
       exact yF [] [(51,vF)]<|yR [(1,vI depth),(2,vI deep),(3,vP r0 0),(4,vP b 0),(51,vF)]<|zY ⟨_,(zB hM018).symm,H,rfl,rfl⟩
    | false =>
     have hM019:=zS hc8 hM013
     try rw [hc8]
     refine yH 24 [0] [(41,vF),(45,.bool (e0.Kind != 3))] ?_;cases hc11:(e0.Kind != 3) with
     | true =>
      have hM020:=zU hc11 hM019
      try rw [hc11]
      refine yH 26 [0] [(47,vA (cAccess e0.Read p1 c1))] ?_;obtain ⟨y5,hy5,N⟩:=zC hM020;refine uR (kU e0.Read _ hy5 h1) ?_;intro I07 le6;have H:=H.trans le6;exact yF [] [(51,.bool (!y5))]<|yR [(1,vI depth),(2,vI deep),(3,vP r0 0),(4,vP b 0),(51,.bool (!y5))]<|zY ⟨_,(zB N).symm,H,rfl,rfl⟩
     | false =>
      have hM021:=zS hc11 hM019
      try rw [hc11]
      exact yF [] [(51,vF)]<|yR [(1,vI depth),(2,vI deep),(3,vP r0 0),(4,vP b 0),(51,vF)]<|zY ⟨_,(zB hM021).symm,H,rfl,rfl⟩
 rintro I01 hs2 m2 ⟨t51,heq1,le7,rfl,rfl⟩;subst o01;have h:=h.mono le7;have h1:=h1.mono le7;have h2:=h2.mono le7;have H:=H.trans le7;refine zD<|yM hMc1 ?_ ?_
 · intro hc12 N;refine yE [(8,vF)]<|zD<|yC<|zM ?_;obtain rfl:=zB N;exact xH ⟨_,_,(.tmp rfl ResV.nil),(zE [1] rfl (by decide)),⟨_,_,rfl,rfl,rfl,rfl⟩⟩
 intro hc12 N;refine zX<|yI<|zV<|yO<|yF [0] [(52,.bool (e0.Kind == 1))]<|zD<|yM N ?_ ?_
 · intro hc13 N;refine yK ?_;obtain ⟨o02,ho02,hMc2⟩:=zC N;refine yU (fun I' hs' m'=>∃ (t8:Bool),o02=t8∧I01.le I'∧hs'=[hB r0 [vI (W (count + 1))]]∧m'=[(8,.bool t8)]) ?_ ?_
   · have H:=iS I01;refine zQ<|yH 2 [0] [(57,vI e0.Num)] ?_;obtain ⟨y6,hy6,N⟩:=zC ho02;refine uR (wL e0.Num 0 99 _ hy6 ) ?_;intro I09 le8;have H:=H.trans le8;refine yH 4 [] [(59,.bool y6)] ?_;cases hc14:y6 with
     | true =>
      have hM022:=zU hc14 N
      try rw [hc14]
      exact yF [0] [(8,.bool ((e0.Kids.length:Int) == 0))]<|wC (zE [1] rfl (by decide))<|yR [(8,.bool ((e0.Kids.length:Int) == 0))]<|zY ⟨_,(zB hM022).symm,H,rfl,rfl⟩
     | false =>
      have hM023:=zS hc14 N
      try rw [hc14]
      exact yF [] [(8,vF)]<|wC (zE [1] rfl (by decide))<|yR [(8,vF)]<|zY ⟨_,(zB hM023).symm,H,rfl,rfl⟩
   rintro I08 hs2 m2 ⟨t8,heq2,le9,rfl,rfl⟩;subst o02;refine zD<|yC<|yB<|zM ?_;obtain rfl:=zB hMc2;exact xH ⟨_,_,(.tmp rfl ResV.nil),(zE [0] rfl (by decide)),⟨_,_,rfl,rfl,rfl,rfl⟩⟩
 intro hc13 N;refine yO<|yF [0] [(65,.bool (e0.Kind == 2))]<|zD<|yM N ?_ ?_
 · intro hc15 N;refine yK ?_;obtain ⟨o03,ho03,hMc3⟩:=zC N;refine yU (fun I' hs' m'=>∃ (t81:Bool),o03=t81∧I01.le I'∧hs'=[hB r0 [vI (W (count + 1))]]∧m'=[(8,.bool t81)]) ?_ ?_
   · have H:=iS I01;refine zQ<|yH 2 [0] [(70,vA (cAff e0.Index p c))] ?_;obtain ⟨y7,hy7,N⟩:=zC ho03;refine uR (pU e0.Index _ hy7 h) ?_;intro I011 le10;have h:=h.mono le10;have H:=H.trans le10;refine yH 4 [] [(72,.bool y7)] ?_;cases hc16:y7 with
     | true =>
      have hM024:=zU hc16 N
      try rw [hc16]
      refine yH 6 [0] [(74,vA (cAff e0.Index p c))] ?_;obtain ⟨y8,hy8,N⟩:=zC hM024;refine kE (kM e0.Index _ hy8 h) ?_;intro I012 le11;have H:=H.trans le11;refine yH 11 [] [(79,.bool (decide (y8 ≤ depth)))] ?_;cases hc17:(decide (y8 ≤ depth)) with
      | true =>
       have hM025:=zU hc17 N
       try rw [hc17]
       exact yF [0] [(8,.bool ((e0.Kids.length:Int) == 0))]<|wC (zE [1] rfl (by decide))<|yR [(8,.bool ((e0.Kids.length:Int) == 0))]<|zY ⟨_,(zB hM025).symm,H,rfl,rfl⟩
      | false =>
       have hM026:=zS hc17 N
       try rw [hc17]
       exact yF [] [(8,vF)]<|wC (zE [1] rfl (by decide))<|yR [(8,vF)]<|zY ⟨_,(zB hM026).symm,H,rfl,rfl⟩
     | false =>
      have hM027:=zS hc16 N
      try rw [hc16]
      exact yF [] [(8,vF)]<|wC (zE [1] rfl (by decide))<|yR [(8,vF)]<|zY ⟨_,(zB hM027).symm,H,rfl,rfl⟩
   rintro I010 hs2 m2 ⟨t81,heq3,le12,rfl,rfl⟩;subst o03;refine zD<|yC<|yB<|zM ?_;obtain rfl:=zB hMc3;exact xH ⟨_,_,(.tmp rfl ResV.nil),(zE [0] rfl (by decide)),⟨_,_,rfl,rfl,rfl,rfl⟩⟩
 intro hc15 N;refine yO<|yF [0] [(85,.bool (e0.Kind == 3))]<|zD<|yM N ?_ ?_
 · intro hc18 N;refine yK ?_;obtain ⟨o04,ho04,hMc4⟩:=zC N;refine yU (fun I' hs' m'=>∃ (t82:Bool),o04=t82∧I01.le I'∧hs'=[hB r0 [vI (W (count + 1))]]∧m'=[(8,.bool t82)]) ?_ ?_
   · have H:=iS I01;refine zQ<|yH 3 [0] [(90,vA (cAccess e0.Read p1 c1)),(91,vI depth)] ?_;obtain ⟨y9,hy9,N⟩:=zC ho04;refine uR (dS e0.Read depth _ hy9 h1) ?_;intro I014 le13;have H:=H.trans le13;refine yH 5 [] [(93,.bool y9)] ?_;cases hc19:y9 with
     | true =>
      have hM028:=zU hc19 N
      try rw [hc19]
      exact yF [0] [(8,.bool ((e0.Kids.length:Int) == 0))]<|wC (zE [1] rfl (by decide))<|yR [(8,.bool ((e0.Kids.length:Int) == 0))]<|zY ⟨_,(zB hM028).symm,H,rfl,rfl⟩
     | false =>
      have hM029:=zS hc19 N
      try rw [hc19]
      exact yF [] [(8,vF)]<|wC (zE [1] rfl (by decide))<|yR [(8,vF)]<|zY ⟨_,(zB hM029).symm,H,rfl,rfl⟩
   rintro I013 hs2 m2 ⟨t82,heq4,le14,rfl,rfl⟩;subst o04;refine zD<|yC<|yB<|zM ?_;obtain rfl:=zB hMc4;exact xH ⟨_,_,(.tmp rfl ResV.nil),(zE [0] rfl (by decide)),⟨_,_,rfl,rfl,rfl,rfl⟩⟩
 intro hc18 N;refine yK ?_;obtain ⟨o05,ho05,hMc5⟩:=zC N;refine yU (fun I' hs' m'=>∃ (t99:Bool),o05=t99∧I01.le I'∧hs'=[hB b (cExpr e0 p c p1 c1 p2 c2),hB r0 [vI (W (count + 1))]]∧m'=[(1,vI depth),(2,vI deep),(3,vP r0 0),(4,vP b 0),(99,.bool t99)]) ?_ ?_
 · have H:=iS I01;refine zQ<|yH 2 [0] [(101,vI e0.Kind)] ?_;obtain ⟨y10,hy10,N⟩:=zC ho05;refine uR (zFx e0.Kind _ hy10 ) ?_;intro I016 le15;have H:=H.trans le15;refine yH 5 [] [(104,.bool (!y10))] ?_;cases hc20:(!y10) with
   | true =>
    have hM030:=zU hc20 N
    try rw [hc20]
    exact yF [] [(99,vY)]<|yR [(1,vI depth),(2,vI deep),(3,vP r0 0),(4,vP b 0),(99,vY)]<|zY ⟨_,(zB hM030).symm,H,rfl,rfl⟩
   | false =>
    have hM031:=zS hc20 N
    try rw [hc20]
    exact yF [0] [(99,.bool ((e0.Kids.length:Int) != 2))]<|yR [(1,vI depth),(2,vI deep),(3,vP r0 0),(4,vP b 0),(99,.bool ((e0.Kids.length:Int) != 2))]<|zY ⟨_,(zB hM031).symm,H,rfl,rfl⟩
 rintro I015 hs2 m2 ⟨t99,heq5,le16,rfl,rfl⟩;subst o05;have h2:=h2.mono le16;have H:=H.trans le16;refine zD<|yM hMc5 ?_ ?_
 · intro hc21 N;refine yE [(8,vF)]<|zD<|yC<|yB<|zM ?_;obtain rfl:=zB N;exact xH ⟨_,_,(.tmp rfl ResV.nil),(zE [1] rfl (by decide)),⟨_,_,rfl,rfl,rfl,rfl⟩⟩
 intro hc21 N;refine zX<|zT<|zD<|yK ?_;obtain ⟨o06,ho06,hMc6⟩:=zC N;refine yU (fun I' hs' m'=>∃ (t83:Bool) (x:Int),o06=(t83,x)∧I015.le I'∧hs'=[hB r0 [vI x]]∧m'=[(8,.bool t83)]) ?_ ?_
 · have H:=iS I015;refine zQ<|yH 2 [0] [(111,vS p2 e0.Kids c2)] ?_;obtain ⟨x1,hy11,N⟩:=zC ho06;refine xV rfl rfl h2 hy11 ?_;intro ad ccs hat hrep;obtain ⟨p3,c3,p4,c4,p5,c5,rfl,h14,h15,h16⟩:=uT hrep;refine xR 0 hat (cExpr x1 p3 c3 p4 c4 p5 c5) (vA (cExpr x1 p3 c3 p4 c4 p5 c5)) rfl<|yH 8 [] [(114,vI depth),(116,vI (W (deep + 1))),(117,vP r0 0)]<|rW (zE [1,0] (hs':=[hB r0 [vI (W (count + 1))],hB b (cExpr e0 p c p1 c1 p2 c2)]) rfl (by decide)) ?_;obtain ⟨⟨y12,y13⟩,hy12,N⟩:=zC N;refine sY [hB r0 [vI (W (count + 1))]] [hB b (cExpr e0 p c p1 c1 p2 c2)] (ih_impl_exprScan x1 depth (W (deep + 1)) (W (count + 1)) _ hy12 h14 h15 h16) ?_;rintro I018 hs2 v2 k2 le17 - ⟨v014,kk,rfl,rfl,rfl,h18⟩ -;have h2:=h2.mono le17;have H:=H.trans le17;obtain rfl:=h18;refine yH 10 [] [(119,.bool y12)] ?_;cases hc22:y12 with
   | true =>
    have hM032:=zU hc22 N
    try rw [hc22]
    refine yH 12 [1] [(121,vS p2 e0.Kids c2)] ?_;obtain ⟨x2,hy13,N⟩:=zC hM032;refine xV rfl rfl h2 hy13 ?_;intro ad1 ccs1 hat1 hrep1;obtain ⟨p6,c6,p7,c7,p8,c8,rfl,h19,h20,h21⟩:=uT hrep1;refine xR 0 hat1 (cExpr x2 p6 c6 p7 c7 p8 c8) (vA (cExpr x2 p6 c6 p7 c7 p8 c8)) rfl<|yH 18 [] [(124,vI depth),(126,vI (W (deep + 1))),(127,vP r0 0)] ?_;obtain ⟨⟨y15,y16⟩,hy14,N⟩:=zC N;refine sY [hB r0 [vI y13]] [hB b (cExpr e0 p c p1 c1 p2 c2)] (ih_impl_exprScan x2 depth (W (deep + 1)) y13 _ hy14 h19 h20 h21) ?_;rintro I019 hs2 v2 k2 le18 - ⟨v018,kk1,rfl,rfl,rfl,h23⟩ -;have H:=H.trans le18;obtain rfl:=h23;exact yF [] [(8,.bool y15)]<|wC (zE [0] rfl (by decide))<|yR [(8,.bool y15)]<|zY ⟨_,_,(zB N).symm,H,rfl,rfl⟩
   | false =>
    have hM033:=zS hc22 N
    try rw [hc22]
    exact yF [] [(8,vF)]<|wC (zE [0] rfl (by decide))<|yR [(8,vF)]<|zY ⟨_,_,(zB hM033).symm,H,rfl,rfl⟩
 rintro I017 hs2 m2 ⟨t83,x,heq6,le19,rfl,rfl⟩;subst o06;refine zD<|yC ?_;obtain rfl:=zB hMc6;exact xH ⟨_,_,(.tmp rfl ResV.nil),(zE [0] rfl (by decide)),⟨_,_,rfl,rfl,rfl,rfl⟩⟩
def mC (s:zR) (depth:Int):Option (Bool):=do
 let t4←(do
   let y←wB depth 0 4
   if y then
    let y1←oU s.Write depth
    if y1 then
     let (y3,y4)←vZ s.Value depth 1 0
     pure (id y3)
    else
     pure false
   else
    pure false
     : Option Bool)
 pure (id t4)
theorem zCa:∀ s depth r,mC s depth=some r→∀ {I:Imm}{p c p1 c1 p2 c2 p3 c3},(S4 I p s.Write.Subs c)→(S4 I p1 s.Value.Index.Coefs c1)→(S4 I p2 s.Value.Read.Subs c2)→(S4 I p3 s.Value.Kids c3)→Ret Tryz.prog 70 [vA (cStmt s p c p1 c1 p2 c2 p3 c3),vI depth] I [] (zZ  r):=by
 intro s depth r N I p c p1 c1 p2 c2 p3 c3 h h1 h2 h3;unfold mC at N;refine yA (fn:=Tryz.f70) (c:=(bodyOf Tryz.f70)) Tryz.func70 rfl rfl ?_;rintro B - -;have H:=iS I;refine yO<|tA (cStmt s p c p1 c1 p2 c2 p3 c3) ?_;intro b hb;refine yF [] []<|xI<|uQ [vI 0] ?_;intro b1 hb1;refine xQ 0 [vI 0] [hB b1 [vI 0],hB b (cStmt s p c p1 c1 p2 c2 p3 c3)] rfl rfl rfl rfl<|yN rfl<|zD<|yK ?_;obtain ⟨o0,ho0,hMc⟩:=zC N;refine yU (fun I' hs' m'=>∃ (t4:Bool),o0=t4∧I.le I'∧hs'=[]∧m'=[(4,.bool t4)]) ?_ ?_
 · have H:=iS I;refine zQ<|yH 1 [] [(6,vI depth)] ?_;obtain ⟨y,hy,N⟩:=zC ho0;refine uR (wL depth 0 4 _ hy ) ?_;intro I01 le;have h:=h.mono le;have h1:=h1.mono le;have h2:=h2.mono le;have h3:=h3.mono le;have H:=H.trans le;refine yH 3 [] [(8,.bool y)] ?_;cases hc:y with
   | true =>
    have hM0:=zU hc N
    try rw [hc]
    refine yH 6 [1] [(10,vA (cAccess s.Write p c)),(11,vI depth)] ?_;obtain ⟨y1,hy1,N⟩:=zC hM0;refine uR (dS s.Write depth _ hy1 h) ?_;intro I02 le1;have h1:=h1.mono le1;have h2:=h2.mono le1;have h3:=h3.mono le1;have H:=H.trans le1;refine yH 9 [] [(14,.bool y1)] ?_;cases hc1:y1 with
    | true =>
     have hM01:=zU hc1 N
     try rw [hc1]
     refine yH 12 [1] [(16,vA (cExpr s.Value p1 c1 p2 c2 p3 c3)),(17,vI depth)] ?_;obtain ⟨⟨y3,y4⟩,hy2,N⟩:=zC hM01;refine sY [hB b1 [vI 0]] [hB b (cStmt s p c p1 c1 p2 c2 p3 c3)] (zDQ s.Value depth 1 0 _ hy2 h1 h2 h3) ?_;rintro I03 hs2 v2 k2 le2 - ⟨v02,kk,rfl,rfl,rfl,h7⟩ -;have H:=H.trans le2;obtain rfl:=h7;exact yF [] [(4,.bool y3)]<|wC (zE [] rfl (by decide))<|yR [(4,.bool y3)]<|zY ⟨_,(zB N).symm,H,rfl,rfl⟩
    | false =>
     have hM02:=zS hc1 N
     try rw [hc1]
     exact yF [] [(4,vF)]<|wC (zE [] rfl (by decide))<|yR [(4,vF)]<|zY ⟨_,(zB hM02).symm,H,rfl,rfl⟩
   | false =>
    have hM03:=zS hc N
    try rw [hc]
    exact yF [] [(4,vF)]<|wC (zE [] rfl (by decide))<|yR [(4,vF)]<|zY ⟨_,(zB hM03).symm,H,rfl,rfl⟩
 rintro I0 hs2 m2 ⟨t4,heq,le3,rfl,rfl⟩;subst o0;refine zD<|yC ?_;obtain rfl:=zB hMc;exact wY
def wV (s:zR) (x:zN):Option (Bool):=do
 let y←mC s (x.Nest.length:Int)
 pure (!y)
theorem fG:∀ s x r,wV s x=some r→∀ {I:Imm}{p c p1 c1 p2 c2 p3 c3}{ad:Addr}{p4 c4 p5 c5},(S4 I p s.Write.Subs c)→(S4 I p1 s.Value.Index.Coefs c1)→(S4 I p2 s.Value.Read.Subs c2)→(S4 I p3 s.Value.Kids c3)→(S4 I p4 x.Nest c4)→(S4 I p5 x.Body c5)→(At I ad (cPart x p4 c4 p5 c5))→Ret Tryz.prog 69 [vA (cStmt s p c p1 c1 p2 c2 p3 c3),.pointer (some ad)] I [] (zZ  r):=by
 intro s x r N I p c p1 c1 p2 c2 p3 c3 ad p4 c4 p5 c5 h h1 h2 h3 h4 h5 hat;unfold wV at N;refine yA (fn:=Tryz.f69) (c:=(bodyOf Tryz.f69)) Tryz.func69 rfl rfl ?_;rintro B - -;refine yO<|tA (cStmt s p c p1 c1 p2 c2 p3 c3) ?_;intro b hb;refine yF [] []<|xI<|yH 2 [0] [(4,vA (cStmt s p c p1 c1 p2 c2 p3 c3)),(5,.pointer (some ad))]<|xR 0 hat [vS p4 x.Nest c4] (vS p4 x.Nest c4) rfl<|yH 4 [] [(7,vI (x.Nest.length:Int))]<|bE N fun y hy N=>uR (zCa s (x.Nest.length:Int) _ hy h h1 h2 h3) fun I0 le=>yF [] [(3,.bool (!y))]<|zD<|yC ?_;obtain rfl:=zB N;exact wY
def qT (n0:Int):Option (Bool):=do
 let y←wB n0 (-9999) 9999
 pure (!y)
theorem zCb:∀ n0 r,qT n0=some r→∀ {I:Imm} ,Ret Tryz.prog 108 [vI n0] I [] (zZ  r):=by
 intro n0 r N I;unfold qT at N;refine yA (fn:=Tryz.f108) (c:=(bodyOf Tryz.f108)) Tryz.func108 rfl rfl ?_;rintro B - -;refine yE []<|xI<|yH 1 [] [(3,vI n0)]<|bE N fun y hy N=>uR (wL n0 (-9999) 9999 _ hy ) fun I0 le=>yF [] [(2,.bool (!y))]<|zD<|yC ?_;obtain rfl:=zB N;exact wY
def kN (point:(List Int)):Option (Bool):=do
 let t2←(do
   if (decide ((point.length:Int) ≤ 4)) then
    let y←xM point qT
    pure (!y)
   else
    pure false
     : Option Bool)
 pure (id t2)
theorem zDn:∀ point r,kN point=some r→∀ {I:Imm}{p c},(S4 I p point c)→Ret Tryz.prog 71 [vS p point c] I [] (zZ  r):=by
 intro point r N I p c h;unfold kN at N;refine yA (fn:=Tryz.f71) (c:=(bodyOf Tryz.f71)) Tryz.func71 rfl rfl ?_;rintro B - -;have H:=iS I;refine yE []<|zD<|yK ?_;obtain ⟨o0,ho0,hMc⟩:=zC N;refine yU (fun I' hs' m'=>∃ (t2:Bool),o0=t2∧I.le I'∧hs'=[]∧m'=[(2,.bool t2)]) ?_ ?_
 · have H:=iS I;refine zQ<|yH 4 [] [(6,.bool (decide ((point.length:Int) ≤ 4)))] ?_;cases hc:(decide ((point.length:Int) ≤ 4)) with
   | true =>
    have hM0:=zU hc ho0
    try rw [hc]
    refine yH 5 [] [(7,vS p point c)] ?_;have hf0:FV1 Tryz.prog I [] (.func (.func 108) ⟨[]⟩ ⟨[]⟩) qT:=by
      refine FV1.intro ?_;intro I1 le1 x0 r u0 hF k0;obtain rfl:=k0;exact (zCb x0 r hF ).mono (by rintro k i hs u ⟨v0,rfl,rfl,h⟩; exact ⟨rfl,h⟩)
    obtain ⟨y,hy,N⟩:=zC hM0;refine xW (sC point qT _ hy h hf0) ?_;rintro I01 hs2 v2 k2 le - ⟨v0,rfl,rfl,rfl⟩ -;have H:=H.trans le;exact yF [] [(2,.bool (!y))]<|yR [(2,.bool (!y))]<|zY ⟨_,(zB N).symm,H,rfl,rfl⟩
   | false =>
    have hM01:=zS hc ho0
    try rw [hc]
    exact yF [] [(2,vF)]<|yR [(2,vF)]<|zY ⟨_,(zB hM01).symm,H,rfl,rfl⟩
 rintro I0 hs2 m2 ⟨t2,heq,le1,rfl,rfl⟩;subst o0;refine zD<|yC ?_;obtain rfl:=zB hMc;exact wY
def zAX (r:(List zK)):KT:=fun kk I' hs' v=>
  ∃ v0,hs'=[]∧v=tupV [v0]∧SL I' v0 r
mutual
def nB (e0:zF):Option ((List zK)):=do
 if (e0.Kind == 3) then
  pure ([e0.Read]:List zK)
 else
  let out1←pQ (same e0) ([]:List zK) (same 0)
  pure (id out1)
 partial_fixpoint
def pQ (e0:zF) (out:List zK) (t15:Int):Option (List zK):=do
 if (decide (t15 < (e0.Kids.length:Int))) then
  let x←idx e0.Kids t15
  let y←nB (same x)
  let out2←app 40 out y
  pQ (same e0) (same out2) (W (t15 + 1))
 else
  pure (id out)
 partial_fixpoint
end
theorem zEe:(∀ (e0:zF) r,nB e0=some r→∀ {I:Imm}{p c p1 c1 p2 c2},(S4 I p e0.Index.Coefs c)→(S4 I p1 e0.Read.Subs c1)→(S4 I p2 e0.Kids c2)→Ret Tryz.prog 98 [vA (cExpr e0 p c p1 c1 p2 c2)] I [] (zAX  r))∧(∀ (e0:zF) (out:List zK) (t15:Int) o,pQ e0 out t15=some o→∀ {B}{I0 I:Imm}{Q p2 c2 p3 c3 cs},I0.le I→(S4 I p2 e0.Kids c2)→(RL I cs out)→NG Q→NO Q→(∀ (I':Imm) (out1:List zK) (p4:Option Addr) (c4:Nat) (cs1:List Value),o=out1→I0.le I'→(RL I' cs1 out1)→T 25 B Q (.exit 0) I' [hO zK (vS p4 out1 c4) cs1] [(3,vS p4 out1 c4)])→J Tryz.prog 25 B (nav (bodyOf Tryz.f98) [1,1,1,0,1,0]) Q I [hO zK (vS p3 out c3) cs] [(3,vS p3 out c3),(13,vS p2 e0.Kids c2),(14,vI (e0.Kids.length:Int)),(15,vI t15)]):=by
  refine nB.mutual_partial_correctness _ _ ?_ ?_
  · intro F_impl_reads_l1 ih_impl_reads_l1 e0 r N I p c p1 c1 p2 c2 h h1 h2;refine yA (fn:=Tryz.f98) (c:=(bodyOf Tryz.f98)) Tryz.func98 rfl rfl ?_;rintro B - -;refine yO<|tA (cExpr e0 p c p1 c1 p2 c2) ?_;intro b hb;refine yF [] []<|yI<|yO<|yF [0] [(8,.bool (e0.Kind == 3))]<|zD<|yM N ?_ ?_
    · intro hc N;refine yO<|yH 2 [0] [(10,vA (cAccess e0.Read p1 c1))]<|xX (cAccess e0.Read p1 c1) zK ?_;intro b1 hb1;have h3:RL I (cAccess e0.Read p1 c1) ([e0.Read]:List zK):=⟨(cAccess e0.Read p1 c1),_,rfl,rfl,(oC ⟨_,rfl,h1⟩),rfl⟩;refine yF [] [(2,vS (some ⟨b1,0,none⟩) ([e0.Read]:List zK) 1)]<|zD<|yC<|zM<|xG 0 rfl ?_;intro I0 le hl0;have h4:=SL.of_frozen hl0 le h3;obtain rfl:=zB N;exact xH ⟨_,_,(.tmp rfl ResV.nil),yD,⟨_,rfl,rfl,h4⟩⟩
    intro hc N;refine zX<|wR [(3,z0)]<|yI<|yO<|yF [0] [(13,vS p2 e0.Kids c2),(14,vI (e0.Kids.length:Int)),(15,vI 0)]<|zD<|zV<|qE (zE [] (hs':=[]) rfl (by decide))<|wS [(3,z0),(13,vS p2 e0.Kids c2),(14,vI (e0.Kids.length:Int)),(15,vI 0)]<|qE (uP (Rp.sz zK)) ?_;have h5:RL I [] ([]:List zK):=RepL.nil;obtain ⟨o0,ho0,hMl⟩:=zC N;refine ih_impl_reads_l1 e0 ([]:List zK) 0 o0 ho0 iR h2 h5 (fun _ _ _ h=>h) (fun _ _ h=>h) ?_;intro I02 out1 p4 c4 cs1 heq le2 h7;subst o0;refine zW<|wR [(2,vS p4 out1 c4)]<|zD<|yC<|xG 0 rfl ?_;intro I03 le3 hl01;have h13:=SL.of_frozen hl01 le3 h7;obtain rfl:=zB hMl;exact xH ⟨_,_,(.tmp rfl ResV.nil),yD,⟨_,rfl,rfl,h13⟩⟩
  intro F_impl_reads F_impl_reads_l1 ih_impl_reads ih_impl_reads_l1 e0 out t15 o N B I0 I Q p2 c2 p3 c3 cs H h2 h6 hg ho hx;refine yY hg ho<|yE [(16,.bool (decide (t15 < (e0.Kids.length:Int))))]<|yI<|yM N ?_ ?_
  · intro hc1 N;refine zX<|yI<|zV<|yO<|bE N fun x hy N=>xV rfl rfl h2 hy ?_;intro ad ccs hat hrep;obtain ⟨p5,c5,p6,c6,p7,c7,rfl,h8,h9,h10⟩:=uT hrep;refine xR 0 hat (cExpr x p5 c5 p6 c6 p7 c7) (vA (cExpr x p5 c5 p6 c6 p7 c7)) rfl<|uQ zExpr ?_;intro b2 hb2;refine xQ 0 (cExpr x p5 c5 p6 c6 p7 c7) [hB b2 (cExpr x p5 c5 p6 c6 p7 c7),hO zK (vS p3 out c3) cs] rfl rfl rfl rfl<|yN rfl<|zD<|zQ<|yH 2 [0] [(19,vS p3 out c3),(20,vA (cExpr x p5 c5 p6 c6 p7 c7))]<|bE N fun y hy1 N=>xW (ih_impl_reads x _ hy1 h8 h9 h10) ?_;rintro I01 hs2 v2 k2 le1 - ⟨v03,rfl,rfl,h11⟩ -;have h2:=h2.mono le1;have h6:=iM le1 h6;have H:=H.trans le1;obtain ⟨p8,c8,rfl⟩:=h11.form;obtain ⟨ccs1,k0,k01⟩:=h11;have h11:SL I01 (vS p8 y c8) y:=⟨_,k0,k01⟩;obtain ⟨out2,hy2,N⟩:=zC N;exact qF 88 2 1 rfl rfl rfl h6 (.inl k0) k01 hy2 fun p9 c9 cs2 h12=>rW (zE [0,1] (hs':=[hB b2 (cExpr x p5 c5 p6 c6 p7 c7),hO zK (vS p9 out2 c9) cs2]) rfl (by decide))<|yF [] [(3,vS p9 out2 c9)]<|zT<|zD<|zQ<|yF [] [(15,vI (W (t15 + 1)))]<|yZ<|qE (zE [1] rfl (by decide))<|wS [(3,vS p9 out2 c9),(13,vS p2 e0.Kids c2),(14,vI (e0.Kids.length:Int)),(15,vI (W (t15 + 1)))]<|ih_impl_reads_l1 e0 out2 (W (t15 + 1)) _ N H h2 h12 hg ho hx
  intro hc1 N;exact yX<|zL<|zL<|yR [(3,vS p3 out c3)]<|hx _ _ _ _ _ (zB N).symm H h6
theorem zBU:∀ e0 r,nB e0=some r→∀ {I:Imm}{p c p1 c1 p2 c2},(S4 I p e0.Index.Coefs c)→(S4 I p1 e0.Read.Subs c1)→(S4 I p2 e0.Kids c2)→Ret Tryz.prog 98 [vA (cExpr e0 p c p1 c1 p2 c2)] I [] (zAX  r):=zEe.1
def tS (a0:zG) (n0:Int) (t9:Int):Option (Int):=do
 if (decide (t9 < (a0.Dims.length:Int))) then
  let x←idx a0.Dims t9
  tS a0 (W (n0 * x)) (W (t9 + 1))
 else
  pure (id n0)
 partial_fixpoint
theorem zA3 (a0:zG):∀ (n0:Int) (t9:Int) (o:Int),tS a0 n0 t9=some o→∀ {B}{I0 I:Imm}{Q p c},I0.le I→(S4 I p a0.Dims c)→NG Q→NO Q→(∀ (I':Imm) (n01:Int),o=n01→I0.le I'→T 18 B Q (.exit 0) I' [] [(3,vI n01)])→J Tryz.prog 18 B (nav (bodyOf Tryz.f131) [1,1,0,1,0]) Q I [] [(3,vI n0),(7,vS p a0.Dims c),(8,vI (a0.Dims.length:Int)),(9,vI t9)]:=by
 refine tS.partial_correctness a0 _ fun self ih n0 t9 o N B I0 I Q p c H h hg ho hx=>yY hg ho<|yE [(10,.bool (decide (t9 < (a0.Dims.length:Int))))]<|yI<|yM N ?_ ?_
 · intro hc N;refine zX<|yI<|zV<|yO<|bE N fun x hy N=>xV rfl rfl h hy ?_;intro ad ccs hat hrep;obtain rfl:=hrep;exact xR 0 hat [vI x] (vI x) rfl<|yF [] [(5,vI x)]<|zD<|zQ<|yF [] [(3,vI (W (n0 * x)))]<|zT<|zD<|zQ<|yF [] [(9,vI (W (t9 + 1)))]<|yZ<|wS [(3,vI (W (n0 * x))),(7,vS p a0.Dims c),(8,vI (a0.Dims.length:Int)),(9,vI (W (t9 + 1)))]<|ih (W (n0 * x)) (W (t9 + 1)) _ N H h hg ho hx
 intro hc N;exact yX<|zL<|zL<|yR [(3,vI n0)]<|hx _ _ (zB N).symm H
def nC (a0:zG):Option (Int):=do
 let n01←tS a0 1 0
 pure (id n01)
theorem zBl:∀ a0 r,nC a0=some r→∀ {I:Imm}{p c},(S4 I p a0.Dims c)→Ret Tryz.prog 131 [vA (cArr a0 p c)] I [] (yW  r):=by
 intro a0 r N I p c h;unfold nC at N;refine yA (fn:=Tryz.f131) (c:=(bodyOf Tryz.f131)) Tryz.func131 rfl rfl ?_;rintro B - -;refine yO<|tA (cArr a0 p c) ?_;intro b hb;refine yF [] []<|wR [(3,vI 1)]<|yI<|yO<|yF [0] [(7,vS p a0.Dims c),(8,vI (a0.Dims.length:Int)),(9,vI 0)]<|zD<|zV<|qE (zE [] (hs':=[]) rfl (by decide))<|wS [(3,vI 1),(7,vS p a0.Dims c),(8,vI (a0.Dims.length:Int)),(9,vI 0)] ?_;obtain ⟨o0,ho0,hMl⟩:=zC N;refine zA3 a0 1 0 o0 ho0 iR h (fun _ _ _ h=>h) (fun _ _ h=>h) ?_;intro I0 n01 heq le;subst o0;refine zW<|wR [(2,vI n01)]<|zD<|yC ?_;obtain rfl:=zB hMl;exact wY
def uY (a0:zK) (point:(List Int)) (x:zG) (at0:Int) (t40:Int):Option (Out Int (Int)):=do
 if (decide (t40 < (a0.Subs.length:Int))) then
  let x1←idx a0.Subs t40
  let y1←uX x1 point
  let x2←idx x.Dims t40
  let y2←wB y1 0 (W (x2 - 1))
  if (!y2) then
   pure (.ret (-1))
  else
   let x3←idx x.Dims t40
   uY a0 point x (W ((W (at0 * x3)) + y1)) (W (t40 + 1))
 else
  pure (.done at0)
 partial_fixpoint
theorem dU (a0:zK) (point:(List Int)) (x:zG):∀ (at0:Int) (t40:Int) (o:Out Int (Int)),uY a0 point x at0 t40=some o→∀ {B}{I0 I:Imm}{Q}{first:Int}{p3 c2 p4 c3 p5 c4}{b2:Nat},I0.le I→(S4 I p4 point c3)→(S4 I p3 a0.Subs c2)→(S4 I p5 x.Dims c4)→NG Q→NO Q→(∀ (I':Imm) (at01:Int),o=(.done at01)→I0.le I'→T 71 B Q (.exit 2) I' [] [(7,vI first),(10,vI at01)])→(∀ r I' hs' m',o=(.ret r)→I0.le I'→RS Tryz.prog Tryz.f99 B (yW  r) I' hs' m'→T 71 B Q .ret I' hs' m')→J Tryz.prog 71 B (nav (bodyOf Tryz.f99) [1,1,0,1,0,0,1,1,0,0,1,1,1,1,0,1,0]) Q I [hB b2 (cArr x p5 c4)] [(2,vS p4 point c3),(7,vI first),(9,vP b2 0),(10,vI at0),(38,vS p3 a0.Subs c2),(39,vI (a0.Subs.length:Int)),(40,vI t40)]:=by
 refine uY.partial_correctness a0 point x _ fun self ih at0 t40 o N B I0 I Q first p3 c2 p4 c3 p5 c4 b2 H h3 h2 h4 hg ho hx hr=>yY hg ho<|yE [(41,.bool (decide (t40 < (a0.Subs.length:Int))))]<|yI<|yM N ?_ ?_
 · intro hc3 N;refine zX<|yI<|zV<|yO<|yH 1 [] [(42,vI t40)]<|bE N fun x1 hy2 N=>xV rfl rfl h2 hy2 ?_;intro ad1 ccs1 hat1 hrep1;obtain ⟨p6,c5,rfl,h6⟩:=yQ hrep1;refine xR 0 hat1 (cAff x1 p6 c5) (vA (cAff x1 p6 c5)) rfl<|uQ [z0,vI 0] ?_;intro b3 hb3;refine yH 5 [] [(11,vI t40)]<|xQ 0 (cAff x1 p6 c5) [hB b3 (cAff x1 p6 c5),hB b2 (cArr x p5 c4)] rfl rfl rfl rfl<|yN rfl<|xI<|yH 2 [0] [(45,vA (cAff x1 p6 c5)),(46,vS p4 point c3)]<|bE N fun y1 hy3 N=>kE (pV x1 point _ hy3 h6 h3) ?_;intro I01 le1;have h3:=h3.mono le1;have h2:=h2.mono le1;have h4:=h4.mono le1;have H:=H.trans le1;refine yF [] [(13,vI y1)]<|yI<|yO<|yH 4 [1] [(48,vI y1),(50,vS p5 x.Dims c4),(51,vI t40)]<|bE N fun x2 hy4 N=>xV rfl rfl h4 hy4 ?_;intro ad2 ccs2 hat2 hrep2;obtain rfl:=hrep2;refine xR 0 hat2 [vI x2] (vI x2) rfl<|yH 7 [] [(54,vI (W (x2 - 1)))]<|bE N fun y2 hy5 N=>uR (wL y1 0 (W (x2 - 1)) _ hy5 ) ?_;intro I02 le2;have h3:=h3.mono le2;have h2:=h2.mono le2;have h4:=h4.mono le2;have H:=H.trans le2;refine yF [] [(56,.bool (!y2))]<|zD<|yM N ?_ ?_
   · intro hc4 N;exact yE [(6,vI (-1))]<|zD<|yC<|zM<|yB<|zM<|zM<|hr _ _ _ _ (zB N).symm H ⟨_,_,(.tmp rfl ResV.nil),yD,⟨_,rfl,rfl,rfl⟩⟩
   intro hc4 N;refine zX<|zD<|zQ<|yH 4 [1] [(57,vI at0),(59,vS p5 x.Dims c4),(60,vI t40)]<|bE N fun x3 hy6 N=>xV rfl rfl h4 hy6 ?_;intro ad3 ccs3 hat3 hrep3;obtain rfl:=hrep3;exact xR 0 hat3 [vI x3] (vI x3) rfl<|yF [] [(10,vI (W ((W (at0 * x3)) + y1)))]<|zT<|zD<|zQ<|yF [] [(40,vI (W (t40 + 1)))]<|yZ<|qE (zE [1] rfl (by decide))<|wS [(2,vS p4 point c3),(7,vI first),(9,vP b2 0),(10,vI (W ((W (at0 * x3)) + y1))),(38,vS p3 a0.Subs c2),(39,vI (a0.Subs.length:Int)),(40,vI (W (t40 + 1)))]<|ih (W ((W (at0 * x3)) + y1)) (W (t40 + 1)) _ N H h3 h2 h4 hg ho hx hr
 intro hc3 N;exact yX<|zL<|zL<|wC (zE [] rfl (by decide))<|yR [(7,vI first),(10,vI at0)]<|hx _ _ (zB N).symm H
def vJ (p:zJ) (a0:zK) (point:(List Int)) (first:Int) (t17:Int):Option (Out Unit (Int)):=do
 if (decide (t17 < (p.Arrays.length:Int))) then
  let x←idx p.Arrays t17
  if (!(x.Name.l == a0.Array.l)) then
   let y←nC x
   vJ p a0 point (W (first + y)) (W (t17 + 1))
  else
   if ((a0.Subs.length:Int) != (x.Dims.length:Int)) then
    pure (.ret (-1))
   else
    match←uY a0 point x 0 0 with
    | .ret r0=>pure (.ret r0)
    | .done at01 =>
     pure (.ret (W (first + at01)))
 else
  pure (.done ())
 partial_fixpoint
theorem dV (p:zJ) (a0:zK) (point:(List Int)):∀ (first:Int) (t17:Int) (o:Out Unit (Int)),vJ p a0 point first t17=some o→∀ {B}{I0 I:Imm}{Q p1 c p3 c2 p4 c3}{b1:Nat},I0.le I→(S4 I p4 point c3)→(S4 I p1 p.Arrays c)→(S4 I p3 a0.Subs c2)→NG Q→NO Q→(∀ (I':Imm) ,o=(.done ())→I0.le I'→T 71 B Q (.exit 0) I' [] [])→(∀ r I' hs' m',o=(.ret r)→I0.le I'→RS Tryz.prog Tryz.f99 B (yW  r) I' hs' m'→T 71 B Q .ret I' hs' m')→J Tryz.prog 71 B (nav (bodyOf Tryz.f99) [1,1,0,1,0]) Q I [hB b1 (cAccess a0 p3 c2)] [(2,vS p4 point c3),(4,vP b1 0),(7,vI first),(15,vS p1 p.Arrays c),(16,vI (p.Arrays.length:Int)),(17,vI t17)]:=by
 refine vJ.partial_correctness p a0 point _ fun self ih first t17 o N B I0 I Q p1 c p3 c2 p4 c3 b1 H h3 h h2 hg ho hx hr=>yY hg ho<|yE [(18,.bool (decide (t17 < (p.Arrays.length:Int))))]<|yI<|yM N ?_ ?_
 · intro hc N;refine zX<|yI<|zV<|yO<|bE N fun x hy N=>xV rfl rfl h hy ?_;intro ad ccs hat hrep;obtain ⟨p5,c4,rfl,h4⟩:=vK hrep;refine xR 0 hat (cArr x p5 c4) (vA (cArr x p5 c4)) rfl<|uQ [vT ([]),z0] ?_;intro b2 hb2;refine xQ 0 (cArr x p5 c4) [hB b2 (cArr x p5 c4),hB b1 (cAccess a0 p3 c2)] rfl rfl rfl rfl<|yN rfl<|yI<|yO<|yF [0,1] [(25,.bool (!(x.Name.l == a0.Array.l)))]<|zD<|yM N ?_ ?_
   · intro hc1 N;refine yO<|yH 2 [0] [(26,vI first),(27,vA (cArr x p5 c4))]<|bE N fun y hy1 N=>kE (zBl x _ hy1 h4) ?_;intro I0 le;have h3:=h3.mono le;have h:=h.mono le;have h2:=h2.mono le;have H:=H.trans le;exact yF [] [(7,vI (W (first + y)))]<|zD<|yX<|zL<|zW<|zD<|zQ<|yF [] [(17,vI (W (t17 + 1)))]<|yZ<|qE (zE [1] rfl (by decide))<|wS [(2,vS p4 point c3),(4,vP b1 0),(7,vI (W (first + y))),(15,vS p1 p.Arrays c),(16,vI (p.Arrays.length:Int)),(17,vI (W (t17 + 1)))]<|ih (W (first + y)) (W (t17 + 1)) _ N H h3 h h2 hg ho hx hr
   intro hc1 N;refine zX<|yI<|yO<|yF [1,0] [(36,.bool ((a0.Subs.length:Int) != (x.Dims.length:Int)))]<|zD<|yM N ?_ ?_
   · intro hc2 N;exact yE [(6,vI (-1))]<|zD<|yC<|zM<|yB<|zM<|zM<|hr _ _ _ _ (zB N).symm H ⟨_,_,(.tmp rfl ResV.nil),yD,⟨_,rfl,rfl,rfl⟩⟩
   intro hc2 N;refine zX<|wR [(10,vI 0)]<|yI<|yO<|yF [1] [(38,vS p3 a0.Subs c2),(39,vI (a0.Subs.length:Int)),(40,vI 0)]<|zD<|zV<|qE (zE [0] (hs':=[hB b2 (cArr x p5 c4)]) rfl (by decide))<|wS [(2,vS p4 point c3),(7,vI first),(9,vP b2 0),(10,vI 0),(38,vS p3 a0.Subs c2),(39,vI (a0.Subs.length:Int)),(40,vI 0)] ?_;obtain ⟨o0,ho0,hMl⟩:=zC N;refine dU a0 point x 0 0 o0 ho0 iR h3 h2 h4 (fun _ _ _ h=>hg _ _ _ h) (fun _ _ h=>ho _ _ h) ?_ ?_
   · intro I03 at01 heq le3;subst o0;have H:=H.trans le3;exact zW<|wR [(6,vI (W (first + at01)))]<|zD<|yC<|yB<|zM<|zM<|hr _ _ _ _ (zB hMl).symm H ⟨_,_,(.tmp rfl ResV.nil),yD,⟨_,rfl,rfl,rfl⟩⟩
   intro r0 I9 hs9 m9 heq9 le9 hrs9;subst heq9;exact yB<|zM<|yB<|zM<|zM<|hr _ _ _ _ (zB hMl).symm (H.trans le9) hrs9
 intro hc N;exact yX<|zL<|zL<|wC (zE [] rfl (by decide))<|yR []<|hx _  (zB N).symm H
def tH (p:zJ) (a0:zK) (point:(List Int)):Option (Int):=do
 match←vJ p a0 point 0 0 with
 | .ret r0=>pure r0
 | .done _ =>
  pure (-1)
theorem nD:∀ p a0 point r,tH p a0 point=some r→∀ {I:Imm}{p1 c p2 c1 p3 c2 p4 c3},(S4 I p1 p.Arrays c)→(S4 I p2 p.Parts c1)→(S4 I p3 a0.Subs c2)→(S4 I p4 point c3)→Ret Tryz.prog 99 [vA (cProg p p1 c p2 c1),vA (cAccess a0 p3 c2),vS p4 point c3] I [] (yW  r):=by
 intro p a0 point r N I p1 c p2 c1 p3 c2 p4 c3 h h1 h2 h3;unfold tH at N;refine yA (fn:=Tryz.f99) (c:=(bodyOf Tryz.f99)) Tryz.func99 rfl rfl ?_;rintro B - -;refine yO<|tA (cProg p p1 c p2 c1) ?_;intro b hb;refine tA (cAccess a0 p3 c2) ?_;intro b1 hb1;refine yF [] []<|wR [(7,vI 0)]<|yI<|yO<|yF [1] [(15,vS p1 p.Arrays c),(16,vI (p.Arrays.length:Int)),(17,vI 0)]<|zD<|zV<|qE (zE [0] (hs':=[hB b1 (cAccess a0 p3 c2)]) rfl (by decide))<|wS [(2,vS p4 point c3),(4,vP b1 0),(7,vI 0),(15,vS p1 p.Arrays c),(16,vI (p.Arrays.length:Int)),(17,vI 0)] ?_;obtain ⟨o01,ho01,hMl1⟩:=zC N;refine dV p a0 point 0 0 o01 ho01 iR h3 h h2 (fun _ _ _ h=>h) (fun _ _ h=>h) ?_ ?_
 · intro I04  heq1 le4;subst o01;refine zW<|wR [(6,vI (-1))]<|zD<|yC ?_;obtain rfl:=zB hMl1;exact wY
 intro r0 I9 hs9 m9 heq9 le9 hrs9;subst heq9;refine yB<|zM ?_;obtain rfl:=zB hMl1;exact xH hrs9
def sS (hsF:List HA) (r:Int):KT:=fun kk I' hs' v=>
  ∃ v0,hsF=hs'∧v=tupV [v0]∧v0=.int .i64 r
def xE (s:(List zK)) (f0:(zK→Option Bool)) (t8:Int):Option (Out Unit (Int)):=do
 if (decide (t8 < (s.length:Int))) then
  let x←idx s t8
  let y←f0 x
  if y then
   pure (.ret t8)
  else
   xE s f0 (W (t8 + 1))
 else
  pure (.done ())
 partial_fixpoint
theorem nN (s:(List zK)) (f0:(zK→Option Bool)):∀ (t8:Int) (o:Out Unit (Int)),xE s f0 t8=some o→∀ {B}{I0 I:Imm}{Q p c}{fv:Value}{hsF:List HA},I0.le I→(S4 I p s c)→(FV1 Tryz.prog I hsF fv f0)→NG Q→NO Q→(∀ (I':Imm) ,o=(.done ())→I0.le I'→T 19 B Q (.exit 0) I' hsF [])→(∀ r I' hs' m',o=(.ret r)→I0.le I'→RS Tryz.prog Tryz.f144 B (sS hsF r) I' hs' m'→T 19 B Q .ret I' hs' m')→J Tryz.prog 19 B (nav (bodyOf Tryz.f144) [1,0,1,0]) Q I hsF [(0,vS p s c),(1,fv),(7,vI (s.length:Int)),(8,vI t8)]:=by
 refine xE.partial_correctness s f0 _ fun self ih t8 o N B I0 I Q p c fv hsF H h h1 hg ho hx hr=>yY hg ho<|yE [(9,.bool (decide (t8 < (s.length:Int))))]<|yI<|yM N ?_ ?_
 · intro hc N;refine zX<|yI<|zV<|yE [(5,vI t8)]<|xI<|yH 3 [] [(11,fv),(12,vS p s c),(13,vI t8)]<|bE N fun x hy N=>xV rfl rfl h hy ?_;intro ad ccs hat hrep;obtain ⟨p1,c1,rfl,h2⟩:=pE hrep;refine xR 0 hat (cAccess x p1 c1) (vA (cAccess x p1 c1)) rfl<|bE N fun y hy1 N=>zG7 rfl rfl h1 hy1 ⟨_,rfl,(oC ⟨_,rfl,h2⟩)⟩ (List.append_nil _).symm ?_;rintro I0 v01 le rfl;refine uO (hs':=hsF) (List.append_nil _) ?_;have h:=h.mono le;have h1:=h1.mono le;have H:=H.trans le;refine yN rfl<|zD<|yM N ?_ ?_
   · intro hc1 N;exact yE [(4,vI t8)]<|zD<|yC<|yB<|zM<|zM<|hr _ _ _ _ (zB N).symm H ⟨_,_,(.tmp rfl ResV.nil),(fun _ h=>h),⟨_,rfl,rfl,rfl⟩⟩
   intro hc1 N;exact zX<|zT<|zD<|zQ<|yF [] [(8,vI (W (t8 + 1)))]<|yZ<|wS [(0,vS p s c),(1,fv),(7,vI (s.length:Int)),(8,vI (W (t8 + 1)))]<|ih (W (t8 + 1)) _ N H h h1 hg ho hx hr
 intro hc N;exact yX<|zL<|zL<|yR []<|hx _  (zB N).symm H
def wN (s:(List zK)) (f0:(zK→Option Bool)):Option (Int):=do
 match←xE s f0 0 with
 | .ret r0=>pure r0
 | .done _ =>
  pure (-1)
theorem mF:∀ s f0 r,wN s f0=some r→∀ {I:Imm}{p c}{fv:Value}{hsF:List HA},(S4 I p s c)→(FV1 Tryz.prog I hsF fv f0)→Ret Tryz.prog 144 [vS p s c,fv] I hsF (sS hsF r):=by
 intro s f0 r N I p c fv hsF h h1;unfold wN at N;refine yA (fn:=Tryz.f144) (c:=(bodyOf Tryz.f144)) Tryz.func144 rfl rfl ?_;rintro B - -;refine yE []<|yI<|yE [(7,vI (s.length:Int)),(8,vI 0)]<|zD<|zV<|wS [(0,vS p s c),(1,fv),(7,vI (s.length:Int)),(8,vI 0)] ?_;obtain ⟨o0,ho0,hMl⟩:=zC N;refine nN s f0 0 o0 ho0 iR h h1 (fun _ _ _ h=>h) (fun _ _ h=>h) ?_ ?_
 · intro I01  heq le1;subst o0;refine zW<|wR [(4,vI (-1))]<|zD<|yC ?_;obtain rfl:=zB hMl;exact xH ⟨_,_,(.tmp rfl ResV.nil),(fun _ h=>h),⟨_,rfl,rfl,rfl⟩⟩
 intro r0 I9 hs9 m9 heq9 le9 hrs9;subst heq9;refine yB<|zM ?_;obtain rfl:=zB hMl;exact xH hrs9
def oO (hsF:List HA) (r:Bool):KT:=fun kk I' hs' v=>
  ∃ v0,hsF=hs'∧v=tupV [v0]∧v0=.bool r
def xS (s:(List zK)) (f0:(zK→Option Bool)):Option (Bool):=do
 let y←wN s f0
 pure (decide (y ≥ 0))
theorem nO:∀ s f0 r,xS s f0=some r→∀ {I:Imm}{p c}{fv:Value}{hsF:List HA},(S4 I p s c)→(FV1 Tryz.prog I hsF fv f0)→Ret Tryz.prog 109 [vS p s c,fv] I hsF (oO hsF r):=by
 intro s f0 r N I p c fv hsF h h1;unfold xS at N;refine yA (fn:=Tryz.f109) (c:=(bodyOf Tryz.f109)) Tryz.func109 rfl rfl ?_;rintro B - -;refine yE []<|xI<|yH 2 [] [(5,vS p s c),(6,fv)]<|bE N fun y hy N=>zCp (hs1:=hsF) (rest:=[]) rfl rfl rfl rfl (by kernel_rfl) rfl (List.append_nil _).symm (mF s f0 _ hy h h1) ?_;rintro I0 hs2 v2 k2 le - ⟨v0,rfl,rfl,rfl⟩ -;refine uO (hs':=hsF) (List.append_nil _) ?_;refine yF [] [(4,.bool (decide (y ≥ 0)))]<|zD<|yC ?_;obtain rfl:=zB N;exact xH ⟨_,_,(.tmp rfl ResV.nil),(fun _ h=>h),⟨_,rfl,rfl,rfl⟩⟩
def uG (a0:zK) (x:zJ) (x1:(List Int)):Option (Bool):=do
 let y←tH x a0 x1
 pure (decide (y < 0))
theorem dC:∀ a0 x x1 r,uG a0 x x1=some r→∀ {I:Imm}{p c}{ad:Addr}{p1 c1 p2 c2}{ad1:Addr}{p3 c3},(S4 I p a0.Subs c)→(S4 I p1 x.Arrays c1)→(S4 I p2 x.Parts c2)→(At I ad (cProg x p1 c1 p2 c2))→(S4 I p3 x1 c3)→(At I ad1 [vS p3 x1 c3])→Ret Tryz.prog 110 [vA (cAccess a0 p c),.pointer (some ad),.pointer (some ad1)] I [] (zZ  r):=by
 intro a0 x x1 r N I p c ad p1 c1 p2 c2 ad1 p3 c3 h h1 h2 hat h3 hat1;unfold uG at N;refine yA (fn:=Tryz.f110) (c:=(bodyOf Tryz.f110)) Tryz.func110 rfl rfl ?_;rintro B - -;refine yO<|tA (cAccess a0 p c) ?_;intro b hb;refine yF [] []<|xI<|xR 0 hat (cProg x p1 c1 p2 c2) (vA (cProg x p1 c1 p2 c2)) rfl<|yH 2 [0] [(6,vA (cAccess a0 p c))]<|xR 0 hat1 [vS p3 x1 c3] (vS p3 x1 c3) rfl<|bE N fun y hy N=>kE (nD x a0 x1 _ hy h1 h2 h h3) fun I0 le=>yF [] [(4,.bool (decide (y < 0)))]<|zD<|yC ?_;obtain rfl:=zB N;exact wY
def qB (p:zJ) (s:zR) (point:(List Int)):Option (Bool):=do
 let t6←(do
   let y←tH p s.Write point
   if (decide (y ≥ 0)) then
    let y1←nB s.Value
    let y2←xS y1 (fun x0=>uG x0 p point)
    pure (!y2)
   else
    pure false
     : Option Bool)
 pure (id t6)
theorem zAG:∀ p s point r,qB p s point=some r→∀ {I:Imm}{p1 c p2 c1 p3 c2 p4 c3 p5 c4 p6 c5 p7 c6},(S4 I p1 p.Arrays c)→(S4 I p2 p.Parts c1)→(S4 I p3 s.Write.Subs c2)→(S4 I p4 s.Value.Index.Coefs c3)→(S4 I p5 s.Value.Read.Subs c4)→(S4 I p6 s.Value.Kids c5)→(S4 I p7 point c6)→Ret Tryz.prog 72 [vA (cProg p p1 c p2 c1),vA (cStmt s p3 c2 p4 c3 p5 c4 p6 c5),vS p7 point c6] I [] (zZ  r):=by
 intro p s point r N I p1 c p2 c1 p3 c2 p4 c3 p5 c4 p6 c5 p7 c6 h h1 h2 h3 h4 h5 h6;unfold qB at N;refine yA (fn:=Tryz.f72) (c:=(bodyOf Tryz.f72)) Tryz.func72 rfl rfl ?_;rintro B - -;have H:=iS I;refine yO<|tA (cProg p p1 c p2 c1) ?_;intro b hb;refine yJ 0 rfl ?_;intro I0 le hl0;have hat:At I0 ⟨b,0,none⟩ (cProg p p1 c p2 c1):=At.of_blk hl0;have h:=h.mono le;have h1:=h1.mono le;have h2:=h2.mono le;have h3:=h3.mono le;have h4:=h4.mono le;have h5:=h5.mono le;have h6:=h6.mono le;have H:=H.trans le;refine tA (cStmt s p3 c2 p4 c3 p5 c4 p6 c5) ?_;intro b1 hb1;refine tA [vS p7 point c6] ?_;intro b2 hb2;refine yJ 0 rfl ?_;intro I01 le1 hl01;have hat1:At I01 ⟨b2,0,none⟩ [vS p7 point c6]:=At.of_blk hl01;have h:=h.mono le1;have h1:=h1.mono le1;have h2:=h2.mono le1;have h3:=h3.mono le1;have h4:=h4.mono le1;have h5:=h5.mono le1;have h6:=h6.mono le1;have hat:=hat.mono le1;have H:=H.trans le1;refine yF [] []<|zD<|yK ?_;obtain ⟨o0,ho0,hMc⟩:=zC N;refine yU (fun I' hs' m'=>∃ (t6:Bool),o0=t6∧I01.le I'∧hs'=[]∧m'=[(6,.bool t6)]) ?_ ?_
 · have H:=iS I01;refine zQ<|xR 0 hat (cProg p p1 c p2 c1) (vA (cProg p p1 c p2 c1)) rfl<|yH 3 [0] [(9,vA (cAccess s.Write p3 c2))]<|xR 0 hat1 [vS p7 point c6] (vS p7 point c6) rfl ?_;obtain ⟨y,hy,N⟩:=zC ho0;refine kE (nD p s.Write point _ hy h h1 h2 h6) ?_;intro I03 le2;have h:=h.mono le2;have h1:=h1.mono le2;have hat:=hat.mono le2;have h6:=h6.mono le2;have hat1:=hat1.mono le2;have h3:=h3.mono le2;have h4:=h4.mono le2;have h5:=h5.mono le2;have H:=H.trans le2;refine yH 7 [] [(13,.bool (decide (y ≥ 0)))] ?_;cases hc:(decide (y ≥ 0)) with
   | true =>
    have hM0:=zU hc N
    try rw [hc]
    refine yH 9 [0] [(15,vA (cExpr s.Value p4 c3 p5 c4 p6 c5))] ?_;obtain ⟨y1,hy1,N⟩:=zC hM0;refine xW (zBU s.Value _ hy1 h3 h4 h5) ?_;rintro I04 hs2 v2 k2 le3 - ⟨v01,rfl,rfl,h8⟩ -;have h:=h.mono le3;have h1:=h1.mono le3;have hat:=hat.mono le3;have h6:=h6.mono le3;have hat1:=hat1.mono le3;have H:=H.trans le3;obtain ⟨p8,c7,rfl⟩:=h8.form;refine yH 11 [] [(17,.func (.func 110) ⟨[]⟩ ⟨[vP b 0,vP b2 0]⟩)] ?_;have hf0:FV1 Tryz.prog I04 [] (.func (.func 110) ⟨[]⟩ ⟨[vP b 0,vP b2 0]⟩) (fun x0=>uG x0 p point):=by
      refine FV1.intro ?_;intro I1 le1 x0 r u0 hF k0;obtain ⟨_,rfl,k0⟩:=k0;obtain ⟨p9,c8,rfl,h9⟩:=pE k0;exact (dC x0 p point r hF h9 (h.mono le1) (h1.mono le1) (hat.mono le1) (h6.mono le1) (hat1.mono le1)).mono (by rintro k i hs u ⟨v0,rfl,rfl,h⟩; exact ⟨rfl,h⟩)
    obtain ⟨y2,hy2,N⟩:=zC N;refine xW (nO y1 (fun x0=>uG x0 p point) _ hy2 h8 hf0) ?_;rintro I05 hs2 v2 k2 le4 - ⟨v03,rfl,rfl,rfl⟩ -;have H:=H.trans le4;exact yF [] [(6,.bool (!y2))]<|wC (zE [] rfl (by decide))<|yR [(6,.bool (!y2))]<|zY ⟨_,(zB N).symm,H,rfl,rfl⟩
   | false =>
    have hM01:=zS hc N
    try rw [hc]
    exact yF [] [(6,vF)]<|wC (zE [] rfl (by decide))<|yR [(6,vF)]<|zY ⟨_,(zB hM01).symm,H,rfl,rfl⟩
 rintro I02 hs2 m2 ⟨t6,heq,le5,rfl,rfl⟩;subst o0;refine zD<|yC ?_;obtain rfl:=zB hMc;exact wY
end Go.LN
