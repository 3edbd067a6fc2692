/- Helper of the proof (see the last text). -/
import Derived.Test.YtndncjnhabjnbaaGreatHM6
set_option linter.unusedVariables false
set_option linter.unusedSimpArgs false
namespace Go.LN
open Go.Proofs
set_option maxRecDepth 20000
def wT(y:zD)(y1:(List Int))(y7:(List Int))(i:Int):Option (Out Unit (Bool)):=do
 if(decide (i<(y1.length:Int))) then
  let x<-idx y1 (W (i - 1))
  let x1<-idx y1 i
  let t87<-(do
   let x2<-idx y7 x
   let x3<-idx y7 x1
   if(decide (x2>x3)) then
    pure true
   else
    let x4<-idx y7 x
    let x5<-idx y7 x1
    if(x4==x5) then
     if(decide (x>=x1)) then
      pure true
     else
      let y8<-mN y x x1
      pure (y8 != 0)
    else
     pure false
     : Option Bool)
  if t87 then
   pure (.ret false)
  else
   wT y y1 y7 (W (i+1))
 else
  pure (.done ())
 partial_fixpoint
theorem zAu(y:zD)(y1:(List Int))(y7:(List Int)):∀(i:Int) (o:Out Unit (Bool)),wT y y1 y7 i=some o->∀{B}{I0 I:Imm}{Q}{more:(List UInt8)}{p1 c1 p2 c2 p3 c3}{b:Nat}{p4 c4 p7 c7},I0.le I->(S4 I p1 more c1)->(S4 I p4 y1 c4)->(S4 I p7 y7 c7)->(S4 I p2 y.Arrays c2)->(S4 I p3 y.Parts c3)->NG Q->NO Q->(∀(I':Imm) ,o=(.done ())->I0.le I'->T 140 B Q (.exit 0) I' [hB b (cProg y p2 c2 p3 c3)] [(1,vS p1 more c1),(5,vP b 0),(6,vS p4 y1 c4),(7,vS p7 y7 c7)])->(∀r I' ah m',o=(.ret r)->I0.le I'->RS Tryz.prog Tryz.f3 B (zS  r) I' ah m'->T 140 B Q .ret I' ah m')->J Tryz.prog 140 B (nav (bodyOf Tryz.f3) [1,1,1,1,1,1,0,1,0]) Q I [hB b (cProg y p2 c2 p3 c3)] [(1,vS p1 more c1),(5,vP b 0),(6,vS p4 y1 c4),(7,vS p7 y7 c7),(8,vI i)]:=by
 refine wT.partial_correctness y y1 y7 _ λaI ih i o N B I0 I Q more p1 c1 p2 c2 p3 c3 b p4 c4 p7 c7 H h1 h5 h11 h3 h4 hg ho hx hr=>yR hg ho<|yA<|yG [44] rfl<|zJ<|yD N ?_ ?_
 ·intro bN N;refine zU<|zZ<|yH<|yE<|yF 3 [] [47,49] rfl<|bE N λx hy8 N=>xN rfl rfl h5 hy8 ?_;intro ad aL ap al;obtain rfl:=al;refine xE 0 ap [vI x] (vI x) rfl<|yI [] [9] rfl<|xA<|yF 2 [] [52,53] rfl<|bE N λx1 hy9 N=>xN rfl rfl h5 hy9 ?_;intro ad1 bv ar az;obtain rfl:=az;refine xE 0 ar [vI x1] (vI x1) rfl<|yI [] [10] rfl<|zJ<|yA ?_;refine wE N [hB b (cProg y p2 c2 p3 c3)] (λt87=>[(1,vS p1 more c1),(5,vP b 0),(6,vS p4 y1 c4),(7,vS p7 y7 c7),(8,vI i),(87,.bool t87)]) (λo02 ho02=>?_) ?_
  ·have H:=iS I;obtain⟨x2,hy10,N⟩:=zB ho02;obtain⟨x3,hy11,N⟩:=zB N;cases hc5:(decide (x2>x3)) with
   | true=>
    have hM0:=rF hc5 N;refine wX [.p (vS p7 y7 c7) [],.p (vI x) [],.x (λI' v hx=>∃ad2,v=.pointer (some ad2)/\hx=[]/\(At I' ad2 [vI x2])),.q (vI x2),.p (vS p7 y7 c7) [],.p (vI x1) [],.x (λI' v hx=>∃ad3,v=.pointer (some ad3)/\hx=[]/\(At I' ad3 [vI x3])),.q (vI x3),.q vY,.q vY,.p undef [],.p undef [],.p undef [],.p undef [],.p undef [],.p undef [],.p undef [],.p undef [],.p undef [],.p undef [],.p undef [],.p undef [],.p undef [],.p undef [],.p undef [],.p undef [],.p undef [],.p undef [],.p undef [],.p undef [],.p undef [],.p vY []] [[],[],[(0,false),(1,false)],[(2,false)],[],[],[(4,false),(5,false)],[(6,false)],[(3,false),(7,false)],[(8,false)],[(9,false)],[(9,false)],[(9,false),(10,false),(11,false)],[(9,false),(12,false)],[(9,false)],[(9,false)],[(9,false),(14,false),(15,false)],[(9,false),(16,false)],[(9,false),(13,false),(17,false)],[(9,false),(18,false)],[(19,false)],[(19,false)],[(19,false),(20,false),(21,false)],[(19,false),(22,false)],[(23,false)],[(23,false)],[(23,false)],[(23,false),(24,false),(25,false),(26,false)],[(23,false),(27,false)],[(19,false),(23,false),(28,false)],[(9,false),(19,false),(29,false)],[(9,false),(30,false)]] [hB b (cProg y p2 c2 p3 c3)] [] [(31,false)] (zX [0]) ?_ ?_
    ·refine Op<|Op<|Ox ?_<|Oq ?_<|Op<|Op<|Ox ?_<|Oq ?_<|Oq ?_<|Oq ?_<|Op<|Op<|Op<|Op<|Op<|Op<|Op<|Op<|Op<|Op<|Op<|Op<|Op<|Op<|Op<|Op<|Op<|Op<|Op<|Op<|Op<|Op<|On
     ·intro I1 hf af;refine yP [56,57] rfl ?_;have h11:=h11.mono af;refine xN rfl rfl h11 hy10 ?_;intro ad2 bM aP aW;obtain rfl:=aW;exact yK [] iR ⟨_,rfl,rfl,aP⟩
     ·rintro I1 hf af _ _ ⟨ad2,rfl,rfl,aP⟩;exact yP [58] rfl<|xE 0 aP [vI x2] (vI x2) rfl<|yT iR
     ·intro I1 hf af;refine yP [60,61] rfl ?_;have h11:=h11.mono af;refine xN rfl rfl h11 hy11 ?_;intro ad3 ccs3 hat3 bq;obtain rfl:=bq;exact yK [] iR ⟨_,rfl,rfl,hat3⟩
     ·rintro I1 hf af _ _ ⟨ad3,rfl,rfl,hat3⟩;exact yP [62] rfl<|xE 0 hat3 [vI x3] (vI x3) rfl<|yT iR
     ·intro I1 hf af;refine yP [59,63] rfl<|rS 9 [(64,.bool (decide (x2>x3)))] ?_;rw[hc5];exact yT iR
     intro I1 hf af;exact dE [(64,vY)]<|rS 10 [(65,vY)]<|yT iR
    intro bV le10;refine yP [1,5,6,7,8,87] rfl ?_;have H:=H.trans le10;exact yC rfl<|yN<|zT (ct hM0 H)
   | false=>
    have hM01:=sF hc5 N;obtain⟨x4,hy12,N⟩:=zB hM01;obtain⟨x5,hy13,N⟩:=zB N;cases hc6:(x4==x5) with
    | true=>
     have hM02:=rF hc6 N;cases hc7:(decide (x>=x1)) with
     | true=>
      have hM03:=rF hc7 hM02;refine wX [.p (vS p7 y7 c7) [],.p (vI x) [],.x (λI' v hx=>∃ad2,v=.pointer (some ad2)/\hx=[]/\(At I' ad2 [vI x2])),.q (vI x2),.p (vS p7 y7 c7) [],.p (vI x1) [],.x (λI' v hx=>∃ad3,v=.pointer (some ad3)/\hx=[]/\(At I' ad3 [vI x3])),.q (vI x3),.q vF,.q vF,.p (vS p7 y7 c7) [],.p (vI x) [],.x (λI' v hx=>∃ad4,v=.pointer (some ad4)/\hx=[]/\(At I' ad4 [vI x4])),.q (vI x4),.p (vS p7 y7 c7) [],.p (vI x1) [],.x (λI' v hx=>∃ad5,v=.pointer (some ad5)/\hx=[]/\(At I' ad5 [vI x5])),.q (vI x5),.q vY,.q vY,.p (vI x) [],.p (vI x1) [],.q vY,.q vY,.p undef [],.p undef [],.p undef [],.p undef [],.p undef [],.p vY [],.p vY [],.p vY []] [[],[],[(0,false),(1,false)],[(2,false)],[],[],[(4,false),(5,false)],[(6,false)],[(3,false),(7,false)],[(8,false)],[(9,false)],[(9,false)],[(9,false),(10,false),(11,false)],[(9,false),(12,false)],[(9,false)],[(9,false)],[(9,false),(14,false),(15,false)],[(9,false),(16,false)],[(9,false),(13,false),(17,false)],[(9,false),(18,false)],[(19,false)],[(19,false)],[(19,false),(20,false),(21,false)],[(19,false),(22,false)],[(23,false)],[(23,false)],[(23,false)],[(23,false),(24,false),(25,false),(26,false)],[(23,false),(27,false)],[(19,false),(23,false),(28,false)],[(9,false),(19,false),(29,false)],[(9,false),(30,false)]] [hB b (cProg y p2 c2 p3 c3)] [] [(31,false)] (zX [0]) ?_ ?_
      ·refine Op<|Op<|Ox ?_<|Oq ?_<|Op<|Op<|Ox ?_<|Oq ?_<|Oq ?_<|Oq ?_<|Op<|Op<|Ox ?_<|Oq ?_<|Op<|Op<|Ox ?_<|Oq ?_<|Oq ?_<|Oq ?_<|Op<|Op<|Oq ?_<|Oq ?_<|Op<|Op<|Op<|Op<|Op<|Op<|Op<|Op<|On
       ·intro I1 hf af;refine yP [56,57] rfl ?_;have h11:=h11.mono af;refine xN rfl rfl h11 hy10 ?_;intro ad2 bM aP aW;obtain rfl:=aW;exact yK [] iR ⟨_,rfl,rfl,aP⟩
       ·rintro I1 hf af _ _ ⟨ad2,rfl,rfl,aP⟩;exact yP [58] rfl<|xE 0 aP [vI x2] (vI x2) rfl<|yT iR
       ·intro I1 hf af;refine yP [60,61] rfl ?_;have h11:=h11.mono af;refine xN rfl rfl h11 hy11 ?_;intro ad3 ccs3 hat3 bq;obtain rfl:=bq;exact yK [] iR ⟨_,rfl,rfl,hat3⟩
       ·rintro I1 hf af _ _ ⟨ad3,rfl,rfl,hat3⟩;exact yP [62] rfl<|xE 0 hat3 [vI x3] (vI x3) rfl<|yT iR
       ·intro I1 hf af;refine yP [59,63] rfl<|rS 9 [(64,.bool (decide (x2>x3)))] ?_;rw[hc5];exact yT iR
       ·intro I1 hf af;exact dE [(64,vF)]<|rS 10 [(65,vF)]<|yT iR
       ·intro I1 hf af;refine yP [65,66,67] rfl ?_;have h11:=h11.mono af;refine xN rfl rfl h11 hy12 ?_;intro ad4 ccs4 hat4 hrep4;obtain rfl:=hrep4;exact yK [] iR ⟨_,rfl,rfl,hat4⟩
       ·rintro I1 hf af _ _ ⟨rfl,rfl⟩ _ _ ⟨ad4,rfl,rfl,hat4⟩;exact yP [65,68] rfl<|xE 0 hat4 [vI x4] (vI x4) rfl<|yT iR
       ·intro I1 hf af;refine yP [65,70,71] rfl ?_;have h11:=h11.mono af;refine xN rfl rfl h11 hy13 ?_;intro ad5 ccs5 hat5 hrep5;obtain rfl:=hrep5;exact yK [] iR ⟨_,rfl,rfl,hat5⟩
       ·rintro I1 hf af _ _ ⟨rfl,rfl⟩ _ _ ⟨ad5,rfl,rfl,hat5⟩;exact yP [65,72] rfl<|xE 0 hat5 [vI x5] (vI x5) rfl<|yT iR
       ·intro I1 hf af;refine yP [65,69,73] rfl<|rS 19 [(74,.bool (x4==x5))] ?_;rw[hc6];exact yT iR
       ·intro I1 hf af;exact yP [65,74] rfl<|rS 20 [(75,vY)]<|yT iR
       ·intro I1 hf af;refine yP [75,76,77] rfl<|rS 23 [(78,.bool (decide (x>=x1)))] ?_;rw[hc7];exact yT iR
       intro I1 hf af;exact yP [75,78] rfl<|rS 24 [(79,vY)]<|yT iR
      intro bU le11;refine yP [1,5,6,7,8,87] rfl ?_;have H:=H.trans le11;exact yC rfl<|yN<|zT (ct hM03 H)
     | false=>
      have hM04:=sF hc7 hM02;obtain⟨y8,hy14,N⟩:=zB hM04;refine wX [.p (vS p7 y7 c7) [],.p (vI x) [],.x (λI' v hx=>∃ad2,v=.pointer (some ad2)/\hx=[]/\(At I' ad2 [vI x2])),.q (vI x2),.p (vS p7 y7 c7) [],.p (vI x1) [],.x (λI' v hx=>∃ad3,v=.pointer (some ad3)/\hx=[]/\(At I' ad3 [vI x3])),.q (vI x3),.q vF,.q vF,.p (vS p7 y7 c7) [],.p (vI x) [],.x (λI' v hx=>∃ad4,v=.pointer (some ad4)/\hx=[]/\(At I' ad4 [vI x4])),.q (vI x4),.p (vS p7 y7 c7) [],.p (vI x1) [],.x (λI' v hx=>∃ad5,v=.pointer (some ad5)/\hx=[]/\(At I' ad5 [vI x5])),.q (vI x5),.q vY,.q vY,.p (vI x) [],.p (vI x1) [],.q vF,.q vF,.p (vA (cProg y p2 c2 p3 c3)) [0],.p (vI x) [],.p (vI x1) [],.q (vI y8),.p (.bool (y8 != 0)) [],.p (.bool (y8 != 0)) [],.p (.bool (y8 != 0)) [],.p (.bool (y8 != 0)) []] [[],[],[(0,false),(1,false)],[(2,false)],[],[],[(4,false),(5,false)],[(6,false)],[(3,false),(7,false)],[(8,false)],[(9,false)],[(9,false)],[(9,false),(10,false),(11,false)],[(9,false),(12,false)],[(9,false)],[(9,false)],[(9,false),(14,false),(15,false)],[(9,false),(16,false)],[(9,false),(13,false),(17,false)],[(9,false),(18,false)],[(19,false)],[(19,false)],[(19,false),(20,false),(21,false)],[(19,false),(22,false)],[(23,false)],[(23,false)],[(23,false)],[(23,false),(24,false),(25,false),(26,false)],[(23,false),(27,false)],[(19,false),(23,false),(28,false)],[(9,false),(19,false),(29,false)],[(9,false),(30,false)]] [hB b (cProg y p2 c2 p3 c3)] [] [(31,false)] (zX [0]) ?_ ?_
      ·refine Op<|Op<|Ox ?_<|Oq ?_<|Op<|Op<|Ox ?_<|Oq ?_<|Oq ?_<|Oq ?_<|Op<|Op<|Ox ?_<|Oq ?_<|Op<|Op<|Ox ?_<|Oq ?_<|Oq ?_<|Oq ?_<|Op<|Op<|Oq ?_<|Oq ?_<|Op<|Op<|Op<|Oq ?_<|Op<|Op<|Op<|Op<|On
       ·intro I1 hf af;refine yP [56,57] rfl ?_;have h11:=h11.mono af;refine xN rfl rfl h11 hy10 ?_;intro ad2 bM aP aW;obtain rfl:=aW;exact yK [] iR ⟨_,rfl,rfl,aP⟩
       ·rintro I1 hf af _ _ ⟨ad2,rfl,rfl,aP⟩;exact yP [58] rfl<|xE 0 aP [vI x2] (vI x2) rfl<|yT iR
       ·intro I1 hf af;refine yP [60,61] rfl ?_;have h11:=h11.mono af;refine xN rfl rfl h11 hy11 ?_;intro ad3 ccs3 hat3 bq;obtain rfl:=bq;exact yK [] iR ⟨_,rfl,rfl,hat3⟩
       ·rintro I1 hf af _ _ ⟨ad3,rfl,rfl,hat3⟩;exact yP [62] rfl<|xE 0 hat3 [vI x3] (vI x3) rfl<|yT iR
       ·intro I1 hf af;refine yP [59,63] rfl<|rS 9 [(64,.bool (decide (x2>x3)))] ?_;rw[hc5];exact yT iR
       ·intro I1 hf af;exact dE [(64,vF)]<|rS 10 [(65,vF)]<|yT iR
       ·intro I1 hf af;refine yP [65,66,67] rfl ?_;have h11:=h11.mono af;refine xN rfl rfl h11 hy12 ?_;intro ad4 ccs4 hat4 hrep4;obtain rfl:=hrep4;exact yK [] iR ⟨_,rfl,rfl,hat4⟩
       ·rintro I1 hf af _ _ ⟨rfl,rfl⟩ _ _ ⟨ad4,rfl,rfl,hat4⟩;exact yP [65,68] rfl<|xE 0 hat4 [vI x4] (vI x4) rfl<|yT iR
       ·intro I1 hf af;refine yP [65,70,71] rfl ?_;have h11:=h11.mono af;refine xN rfl rfl h11 hy13 ?_;intro ad5 ccs5 hat5 hrep5;obtain rfl:=hrep5;exact yK [] iR ⟨_,rfl,rfl,hat5⟩
       ·rintro I1 hf af _ _ ⟨rfl,rfl⟩ _ _ ⟨ad5,rfl,rfl,hat5⟩;exact yP [65,72] rfl<|xE 0 hat5 [vI x5] (vI x5) rfl<|yT iR
       ·intro I1 hf af;refine yP [65,69,73] rfl<|rS 19 [(74,.bool (x4==x5))] ?_;rw[hc6];exact yT iR
       ·intro I1 hf af;exact yP [65,74] rfl<|rS 20 [(75,vY)]<|yT iR
       ·intro I1 hf af;refine yP [75,76,77] rfl<|rS 23 [(78,.bool (decide (x>=x1)))] ?_;rw[hc7];exact yT iR
       ·intro I1 hf af;exact yP [75,78] rfl<|rS 24 [(79,vF)]<|yT iR
       intro I1 hf af;refine yP [79,80,81,82] rfl ?_;have H:=iS I1;have ⟨h3,h4⟩:=m2 af h3 h4;refine jE (zDB y x x1 _ hy14 h3 h4) ?_;intro I013 le12;have H:=H.trans le12;exact yT H
      intro I014 le13;refine yP [1,5,6,7,8,87] rfl ?_;have H:=H.trans le13;exact yC rfl<|yN<|zT (ct N H)
    | false=>
     have hM05:=sF hc6 N;refine wX [.p (vS p7 y7 c7) [],.p (vI x) [],.x (λI' v hx=>∃ad2,v=.pointer (some ad2)/\hx=[]/\(At I' ad2 [vI x2])),.q (vI x2),.p (vS p7 y7 c7) [],.p (vI x1) [],.x (λI' v hx=>∃ad3,v=.pointer (some ad3)/\hx=[]/\(At I' ad3 [vI x3])),.q (vI x3),.q vF,.q vF,.p (vS p7 y7 c7) [],.p (vI x) [],.x (λI' v hx=>∃ad4,v=.pointer (some ad4)/\hx=[]/\(At I' ad4 [vI x4])),.q (vI x4),.p (vS p7 y7 c7) [],.p (vI x1) [],.x (λI' v hx=>∃ad5,v=.pointer (some ad5)/\hx=[]/\(At I' ad5 [vI x5])),.q (vI x5),.q vF,.q vF,.p undef [],.p undef [],.p undef [],.p undef [],.p undef [],.p undef [],.p undef [],.p undef [],.p undef [],.p undef [],.p vF [],.p vF []] [[],[],[(0,false),(1,false)],[(2,false)],[],[],[(4,false),(5,false)],[(6,false)],[(3,false),(7,false)],[(8,false)],[(9,false)],[(9,false)],[(9,false),(10,false),(11,false)],[(9,false),(12,false)],[(9,false)],[(9,false)],[(9,false),(14,false),(15,false)],[(9,false),(16,false)],[(9,false),(13,false),(17,false)],[(9,false),(18,false)],[(19,false)],[(19,false)],[(19,false),(20,false),(21,false)],[(19,false),(22,false)],[(23,false)],[(23,false)],[(23,false)],[(23,false),(24,false),(25,false),(26,false)],[(23,false),(27,false)],[(19,false),(23,false),(28,false)],[(9,false),(19,false),(29,false)],[(9,false),(30,false)]] [hB b (cProg y p2 c2 p3 c3)] [] [(31,false)] (zX [0]) ?_ ?_
     ·refine Op<|Op<|Ox ?_<|Oq ?_<|Op<|Op<|Ox ?_<|Oq ?_<|Oq ?_<|Oq ?_<|Op<|Op<|Ox ?_<|Oq ?_<|Op<|Op<|Ox ?_<|Oq ?_<|Oq ?_<|Oq ?_<|Op<|Op<|Op<|Op<|Op<|Op<|Op<|Op<|Op<|Op<|Op<|Op<|On
      ·intro I1 hf af;refine yP [56,57] rfl ?_;have h11:=h11.mono af;refine xN rfl rfl h11 hy10 ?_;intro ad2 bM aP aW;obtain rfl:=aW;exact yK [] iR ⟨_,rfl,rfl,aP⟩
      ·rintro I1 hf af _ _ ⟨ad2,rfl,rfl,aP⟩;exact yP [58] rfl<|xE 0 aP [vI x2] (vI x2) rfl<|yT iR
      ·intro I1 hf af;refine yP [60,61] rfl ?_;have h11:=h11.mono af;refine xN rfl rfl h11 hy11 ?_;intro ad3 ccs3 hat3 bq;obtain rfl:=bq;exact yK [] iR ⟨_,rfl,rfl,hat3⟩
      ·rintro I1 hf af _ _ ⟨ad3,rfl,rfl,hat3⟩;exact yP [62] rfl<|xE 0 hat3 [vI x3] (vI x3) rfl<|yT iR
      ·intro I1 hf af;refine yP [59,63] rfl<|rS 9 [(64,.bool (decide (x2>x3)))] ?_;rw[hc5];exact yT iR
      ·intro I1 hf af;exact dE [(64,vF)]<|rS 10 [(65,vF)]<|yT iR
      ·intro I1 hf af;refine yP [65,66,67] rfl ?_;have h11:=h11.mono af;refine xN rfl rfl h11 hy12 ?_;intro ad4 ccs4 hat4 hrep4;obtain rfl:=hrep4;exact yK [] iR ⟨_,rfl,rfl,hat4⟩
      ·rintro I1 hf af _ _ ⟨rfl,rfl⟩ _ _ ⟨ad4,rfl,rfl,hat4⟩;exact yP [65,68] rfl<|xE 0 hat4 [vI x4] (vI x4) rfl<|yT iR
      ·intro I1 hf af;refine yP [65,70,71] rfl ?_;have h11:=h11.mono af;refine xN rfl rfl h11 hy13 ?_;intro ad5 ccs5 hat5 hrep5;obtain rfl:=hrep5;exact yK [] iR ⟨_,rfl,rfl,hat5⟩
      ·rintro I1 hf af _ _ ⟨rfl,rfl⟩ _ _ ⟨ad5,rfl,rfl,hat5⟩;exact yP [65,72] rfl<|xE 0 hat5 [vI x5] (vI x5) rfl<|yT iR
      ·intro I1 hf af;refine yP [65,69,73] rfl<|rS 19 [(74,.bool (x4==x5))] ?_;rw[hc6];exact yT iR
      intro I1 hf af;exact yP [65,74] rfl<|rS 20 [(75,vF)]<|yT iR
     intro I015 le14;refine yP [1,5,6,7,8,87] rfl ?_;have H:=H.trans le14;exact yC rfl<|yN<|zT (ct hM05 H)
  intro t87 bR le15 hMc2;have ⟨h1,h5,h11,h3,h4,H⟩:=m6 le15 h1 h5 h11 h3 h4 H;refine zJ<|yD hMc2 ?_ ?_
  ·intro hc8 N;exact vK [(4,vF)]<|xF<|zV<|zH<|zH<|hr _ _ _ _ (zC N).symm H ⟨_,_,(.tmp rfl ResV.nil),zO,⟨_,rfl,rfl,rfl⟩⟩
  intro hc8 N;exact zU<|zP<|zJ<|zK<|yI [] [8] rfl<|yS<|nU<|ih (W (i+1)) _ N H h1 h5 h11 h3 h4 hg ho hx hr
 intro bN N;exact wZ<|yN<|hx _  (zC N).symm H
def kE(code:(List UInt8))(more:(List UInt8)):Option (Bool):=do
 let t20<-(do
  if(decide ((code.length:Int)>1048576)) then
   pure true
  else
   pure (decide ((more.length:Int)>1048576))
    : Option Bool)
 if t20 then
  pure true
 else
  let y<-pD code
  let y1<-mM y
  let t34<-(do
   let y2<-oM y
   let y3<-jM y1 y2
   if(!y3) then
    pure true
   else
    let y4<-nE y
    pure (!y4)
     : Option Bool)
  if t34 then
   let y5<-oM y
   let y6<-jM y1 y5
   pure (id y6)
  else
   let y7<-mD y
   match<-wT y y1 y7 1 with
   | .ret r0=>pure r0
   | .done _=>
    let other<-app 8 ([]:List Int) y1
    let other1<-(do
     if(decide ((y1.length:Int)>1)) then
      let q<-rem (more.length:Int) (W ((y1.length:Int) - 1))
      let x6<-idx y1 q
      let x7<-idx y7 x6
      let x8<-idx y1 (W (q+1))
      let x9<-idx y7 x8
      let other2<-(do
       if(x7==x9) then
        let x10<-idx y1 (W (q+1))
        let x11<-idx other q
        let l<-pure (other.set q.toNat x10)
        let x12<-idx y1 q
        let x13<-idx l (W (q+1))
        let l1<-pure (l.set (W (q+1)).toNat x12)
        pure (id l1)
       else
        pure (id other)
         : Option (List Int))
      pure (id other2)
     else
      pure (id other)
       : Option (List Int))
    let t4<-(do
     let y9<-qS y y1
     if y9 then
      let y10<-qS y other1
      pure (id y10)
     else
      pure false
       : Option Bool)
    pure (id t4)
theorem zI5:∀code more r,kE code more=some r->∀{I:Imm}{p c p1 c1},(S4 I p code c)->(S4 I p1 more c1)->RT 3 [vS p code c,vS p1 more c1] I [] (zS  r):=by
 intro code more r N I p c p1 c1 h h1;unfold kE at N;refine yJ Tryz.func3 λB=>?_;have H:=iS I;refine vK []<|zZ<|yA ?_;refine wE N [] (λt20=>[(0,vS p code c),(1,vS p1 more c1),(20,.bool t20)]) (λo0 aB=>?_) ?_
 ·have H:=iS I;refine zK<|yF 4 [] [16] rfl<|xW [16] aB ?_ ?_
  ·intro hc N;exact wG [] [(20,vY)]<|yN<|zT (ct N H)
  intro hc N;exact yI [] [20] rfl<|yN<|zT (ct N H)
 intro t20 I0 le aN;have ⟨h,h1,H⟩:=m3 le h h1 H;refine zJ<|yD aN ?_ ?_
 ·intro aF N;refine vK [(4,vY)]<|xF<|zH ?_;obtain rfl:=zC N;exact wV
 intro aF N;refine zU<|xA<|yF 1 [] [21] rfl<|bE N λy hy N=>xO (zBE code _ hy h) ?_;rintro aU ax v2 k2 af - ⟨v0,rfl,rfl,⟨cs,rfl,h2⟩⟩ -;have ⟨h1,H⟩:=m2 af h1 H;obtain⟨p2,c2,p3,c3,rfl,h3,h4⟩:=fG h2;refine uB zTwo ?_;intro b hb;refine xP 0 (cProg y p2 c2 p3 c3) rfl<|yC rfl<|xA<|qA 1 [0] [(23,vA (cProg y p2 c2 p3 c3))]<|bE N λy1 ay N=>xO (zDA y _ ay h3 h4) ?_;rintro aQ ax v2 k2 aE - ⟨v03,rfl,rfl,h5⟩ -;have ⟨h1,h3,h4,H⟩:=m4 aE h1 h3 h4 H;obtain⟨p4,c4,rfl⟩:=h5.form;refine yI [] [6] rfl<|zZ<|yA ?_;refine wE N [hB b (cProg y p2 c2 p3 c3)] (λt34=>[(1,vS p1 more c1),(5,vP b 0),(6,vS p4 y1 c4),(34,.bool t34)]) (λaM aA=>?_) ?_
 ·have H:=iS aQ;refine zK<|qA 2 [0] [(25,vS p4 y1 c4),(26,vA (cProg y p2 c2 p3 c3))] ?_;obtain⟨y2,aJ,N⟩:=zB aA;refine xO (zAH y _ aJ h3 h4) ?_;rintro bK ax v2 k2 aK - ⟨v04,rfl,rfl,h6⟩ -;have ⟨h5,h3,h4,H⟩:=m4 aK h5 h3 h4 H;obtain⟨p5,c5,rfl⟩:=h6.form;obtain⟨y3,bb,N⟩:=zB N;refine vV (zBt y1 y2 _ bb h5 h6) ?_;intro bO bi;have ⟨h3,h4,H⟩:=m3 bi h3 h4 H;refine yF 6 [] [30] rfl<|xW [30] N ?_ ?_
  ·intro bd N;exact wG [] [(34,vY)]<|yN<|zT (ct N H)
  intro bd N;refine qA 7 [0] [(31,vA (cProg y p2 c2 p3 c3))]<|bE N λy4 bt N=>vV (zBu y _ bt h3 h4) ?_;intro I06 bw;have H:=H.trans bw;exact yI [] [34] rfl<|yN<|zT (ct N H)
 intro t34 bz bD hMc1;have ⟨h1,h5,h3,h4,H⟩:=m5 bD h1 h5 h3 h4 H;refine zJ<|yD hMc1 ?_ ?_
 ·intro bI N;refine yE<|qA 2 [0] [(35,vS p4 y1 c4),(36,vA (cProg y p2 c2 p3 c3))]<|bE N λy5 bH N=>xO (zAH y _ bH h3 h4) ?_;rintro I07 ax v2 k2 le7 - ⟨v07,rfl,rfl,h9⟩ -;have h5:=h5.mono le7;obtain⟨p6,c6,rfl⟩:=h9.form;obtain⟨y6,hy6,N⟩:=zB N;refine vV (zBt y1 y5 _ hy6 h5 h9) λI08 le8=>wG [] [(4,.bool y6)]<|xF<|zH ?_;obtain rfl:=zC N;exact wV
 intro bI N;refine zU<|xA<|qA 1 [0] [(39,vA (cProg y p2 c2 p3 c3))]<|bE N λy7 hy7 N=>xO (zAt y _ hy7 h3 h4) ?_;rintro I09 ax v2 k2 le9 - ⟨v09,rfl,rfl,h11⟩ -;have ⟨h1,h5,h3,h4,H⟩:=m5 le9 h1 h5 h3 h4 H;obtain⟨p7,c7,rfl⟩:=h11.form;refine yI [] [7] rfl<|zZ<|yG [8] rfl<|wC<|oA [(1,vS p1 more c1),(5,vP b 0),(6,vS p4 y1 c4),(7,vS p7 y7 c7),(8,vI 1)] ?_;obtain⟨o03,ho03,aH⟩:=zB N;refine zAu y y1 y7 1 o03 ho03 iR h1 h5 h11 h3 h4 (λ_ _ _ h=>h) (λ_ _ h=>h) ?_ ?_
 ·intro I016  heq3 le16;subst o03;have ⟨h5,h11,h3,h4,H⟩:=m5 le16 h5 h11 h3 h4 H;refine zR<|xA<|tU [] Int ?_;intro b1 hb1;have h13:RL I016 [] ([]:List Int):=rfl;refine yF 2 [] [89] rfl ?_;obtain⟨ccs6,k0,k01⟩:=h5;have h5:SL I016 (vS p4 y1 c4) y1:=⟨_,k0,k01⟩;obtain⟨other,hy15,N⟩:=zB aH;refine pC 3 1 0 rfl rfl rfl h13 (.inl k0) k01 hy15 λp8 c8 aC h14=>qE (zX [0,1] (ah:=[hO Int (vS p8 other c8) aC,hB b (cProg y p2 c2 p3 c3)]))<|yI [] [11] rfl<|zZ<|yG [93] rfl<|zJ ?_;obtain⟨o04,ho04,hMc3⟩:=zB N;refine pZ (λI' ah m'=>∃(other1:List Int) (p9:Option Addr) (c9:Nat) (aO:List Value),o04=other1/\I016.le I'/\(RL I' aO other1)/\ah=[hO Int (vS p9 other1 c9) aO,hB b (cProg y p2 c2 p3 c3)]/\m'=[(5,vP b 0),(6,vS p4 y1 c4),(11,vS p9 other1 c9)]) ?_ ?_
  ·have H:=iS I016;refine yD ho04 ?_ ?_
   ·intro hc9 N;refine yE<|yF 5 [] [95,98] rfl<|bE N λq hy16 N=>zNH rfl hy16<|yI [] [12] rfl<|zZ<|nP (by kernel_rfl) (by kernel_rfl)<|gN 3 [] [100,101,102] rfl<|bE N λx6 hy17 N=>gT rfl rfl h5 hy17 ?_;intro ad6 ccs7 hat6 hrep6;obtain rfl:=hrep6;refine kF 0 hat6 [vI x6] (vI x6) rfl<|bE N λx7 hy18 N=>gT rfl rfl h11 hy18 ?_;intro ad7 ccs8 hat7 hrep7;obtain rfl:=hrep7;refine kF 0 hat7 [vI x7] (vI x7) rfl<|gN 11 [] [107,108,110] rfl<|bE N λx8 hy19 N=>gT rfl rfl h5 hy19 ?_;intro ad8 ccs9 hat8 hrep8;obtain rfl:=hrep8;refine kF 0 hat8 [vI x8] (vI x8) rfl<|bE N λx9 hy20 N=>gT rfl rfl h11 hy20 ?_;intro ad9 ccs10 hat9 hrep9;obtain rfl:=hrep9;refine kF 0 hat9 [vI x9] (vI x9) rfl<|zEw [] [115] rfl<|zJ ?_;obtain⟨o05,ho05,hMc4⟩:=zB N;refine pZ (λI' ah m'=>∃(other2:List Int) (aZ:Option Addr) (bh:Nat) (aT:List Value),o05=other2/\I016.le I'/\(RL I' aT other2)/\ah=[hO Int (vS aZ other2 bh) aT,hB b (cProg y p2 c2 p3 c3)]/\m'=[(5,vP b 0),(6,vS p4 y1 c4),(11,vS aZ other2 bh)]) ?_ ?_
    ·have H:=iS I016;refine yD ho05 ?_ ?_
     ·intro hc10 N;refine yE<|yF 5 [] [116,117,118,120] rfl<|bE N λx10 hy21 N=>xN rfl rfl h5 hy21 ?_;intro ad10 ccs11 hat10 hrep10;obtain rfl:=hrep10;refine xE 0 hat10 [vI x10] (vI x10) rfl<|bE N λx11 hy22 N=>nA 0 rfl rfl rfl h14 hy22 ?_;intro ad11 ccs12 hat11 bG hrep11;obtain rfl:=hrep11;obtain⟨l,hy23,N⟩:=zB N;refine tW (c:=[vI x10]) (x':=x10) 0 0 rfl rfl rfl hat11 rfl rfl bG (by kernel_rfl) (by kernel_rfl) (by kernel_rfl) h14 hy22 (by kernel_rfl) rfl ?_;rw[show other.set q.toNat x10=l from zC hy23];intro br h17 hl0;refine oZ (m':=[(5,vP b 0),(6,vS p4 y1 c4),(11,vS p8 other c8),(12,vI q),(116,vS p8 other c8),(117,vI q),(118,vS p4 y1 c4),(120,vI (W (q+1))),(121,.pointer (some ad10)),(122,vI x10)]) ⟨rfl,rfl,rfl,rfl,rfl,rfl,rfl,rfl,rfl,rfl,trivial⟩<|fX (ah:=[hO Int (vS p8 l c8) br,hB b (cProg y p2 c2 p3 c3)]) (m':=[(5,vP b 0),(6,vS p4 y1 c4),(11,vS p8 l c8),(12,vI q),(116,vS p8 l c8),(117,vI q),(118,vS p4 y1 c4),(120,vI (W (q+1))),(121,.pointer (some ad10)),(122,vI x10)]) (by first|rfl|simp only[vS,hl0,cr,cU,cW,cQ,cH,cI]) (by first|rfl|simp only[vS,hl0])<|yC rfl<|zJ<|zK<|yF 5 [] [124,126,127,128] rfl<|bE N λx12 hy24 N=>xN rfl rfl h5 hy24 ?_;intro ad12 ccs13 hat12 hrep12;obtain rfl:=hrep12;refine xE 0 hat12 [vI x12] (vI x12) rfl<|bE N λx13 hy25 N=>nA 0 rfl rfl rfl h17 hy25 ?_;intro ad13 ccs14 hat13 hcc1 hrep13;obtain rfl:=hrep13;obtain⟨l1,hy26,N⟩:=zB N;refine tW (c:=[vI x12]) (x':=x12) 0 0 rfl rfl rfl hat13 rfl rfl hcc1 (by kernel_rfl) (by kernel_rfl) (by kernel_rfl) h17 hy25 (by kernel_rfl) rfl ?_;rw[show l.set (W (q+1)).toNat x12=l1 from zC hy26];intro bC h18 hl01;exact oZ (m':=[(5,vP b 0),(6,vS p4 y1 c4),(11,vS p8 l c8),(124,vS p8 l c8),(126,vI (W (q+1))),(127,vS p4 y1 c4),(128,vI q),(129,.pointer (some ad12)),(130,vI x12)]) ⟨rfl,rfl,rfl,rfl,rfl,rfl,rfl,rfl,rfl,trivial⟩<|fX (ah:=[hO Int (vS p8 l1 c8) bC,hB b (cProg y p2 c2 p3 c3)]) (m':=[(5,vP b 0),(6,vS p4 y1 c4),(11,vS p8 l1 c8),(124,vS p8 l1 c8),(126,vI (W (q+1))),(127,vS p4 y1 c4),(128,vI q),(129,.pointer (some ad12)),(130,vI x12)]) (by first|rfl|simp only[vS,hl01,cr,cU,cW,cQ,cH,cI]) (by first|rfl|simp only[vS,hl01])<|yC rfl<|yN<|zT ⟨_,_,_,_,(zC N).symm,H,h18,rfl,rfl⟩
     intro hc10 N;exact zU<|yN<|zT ⟨_,_,_,_,(zC N).symm,H,h14,rfl,rfl⟩
    rintro I018 ax m2 ⟨other2,aZ,bh,aT,heq4,le17,h16,rfl,rfl⟩;subst o05;have H:=H.trans le17;exact yN<|zT ⟨_,_,_,_,(zC hMc4).symm,H,h16,rfl,rfl⟩
   intro hc9 N;exact zU<|yN<|zT ⟨_,_,_,_,(zC N).symm,H,h14,rfl,rfl⟩
  rintro I017 ax m2 ⟨other1,p9,c9,aO,heq5,le18,h15,rfl,rfl⟩;subst o04;have ⟨h5,h3,h4,H⟩:=m4 le18 h5 h3 h4 H;refine zJ<|yA ?_;refine wE hMc3 [] (λt4=>[(4,.bool t4)]) (λo06 ho06=>?_) ?_
  ·have H:=iS I017;refine zK<|qA 2 [1] [(132,vA (cProg y p2 c2 p3 c3)),(133,vS p4 y1 c4)] ?_;obtain⟨y9,hy27,N⟩:=zB ho06;refine vV (zAI y y1 _ hy27 h3 h4 h5) ?_;intro I020 le19;have ⟨h15,h3,h4,H⟩:=m4 le19 h15 h3 h4 H;refine yF 4 [] [135] rfl<|xW [135] N ?_ ?_
   ·intro hc11 N;refine qA 6 [1] [(136,vA (cProg y p2 c2 p3 c3)),(137,vS p9 other1 c9)]<|xM 0 rfl ?_;intro I021 le20 hl02;have h20:=SL.of_frozen hl02 le20 h15;have ⟨h3,h4,H⟩:=m3 le20 h3 h4 H;obtain⟨y10,hy28,N⟩:=zB N;refine vV (zAI y other1 _ hy28 h3 h4 h20) ?_;intro I022 le21;have H:=H.trans le21;exact yI [] [4] rfl<|xV zO<|yN<|zT (ct N H)
   intro hc11 N;exact wG [] [(4,vF)]<|xV zO<|yN<|zT (ct N H)
  intro t4 I019 le22 hMc5;refine zJ<|yZ ?_;obtain rfl:=zC hMc5;exact wV
 intro r0 I9 hs9 m9 aR le9 aS;subst aR;refine zV<|zH ?_;obtain rfl:=zC aH;exact xC aS
end Go.LN
