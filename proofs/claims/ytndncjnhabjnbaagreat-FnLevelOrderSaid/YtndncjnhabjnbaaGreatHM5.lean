/- Helper of the proof (see the last text). -/
import Derived.Test.YtndncjnhabjnbaaGreatHM4
set_option linter.unusedVariables false
set_option linter.unusedSimpArgs false
namespace Go.LN
open Go.Proofs Go.Proofs.Tryz
set_option maxRecDepth 20000
def rO(list:(List zG))(t7:Int):Option (Out Unit (Bool)):=do
 if(decide (t7<(list.length:Int))) then
  let x<-idx list t7
  let t42<-(do
   let y<-kL x.Name
   if(!y) then
    pure true
   else
    if(decide (t7>0)) then
     let x1<-idx list (W (t7 - 1))
     if(!(Op.bytesLess x1.Name.l x.Name.l)) then
      pure true
     else
      let y1<-xS (x.Dims.length:Int) 1 2
      if(!y1) then
       pure true
      else
       let y2<-xK x.Dims uU
       pure (id y2)
    else
     let y3<-xS (x.Dims.length:Int) 1 2
     if(!y3) then
      pure true
     else
      let y4<-xK x.Dims uU
      pure (id y4)
     : Option Bool)
  if t42 then
   pure (.ret false)
  else
   rO list (W (t7+1))
 else
  pure (.done ())
 partial_fixpoint
theorem zCV(list:(List zG)):∀(t7:Int) (o:Out Unit (Bool)),rO list t7=some o->∀{B}{I0 I:Imm}{Q p c},I0.le I->(S4 I p list c)->NG Q->NO Q->(∀(I':Imm) ,o=(.done ())->I0.le I'->T 47 B Q (.exit 0) I' [] [(0,vS p list c)])->(∀r I' ah m',o=(.ret r)->I0.le I'->RS Tryz.prog f45 B (zS  r) I' ah m'->T 47 B Q .ret I' ah m')->J Tryz.prog 47 B (nav (bodyOf f45) [1,0,1,0]) Q I [] [(0,vS p list c),(5,vS p list c),(6,vI (list.length:Int)),(7,vI t7)]:=by
 refine rO.partial_correctness list _ λaI ih t7 o N B I0 I Q p c H h hg ho hx hr=>yR hg ho<|yG [8] rfl<|zZ<|yD N ?_ ?_
 ·intro hc N;refine zU<|zZ<|yH<|yE<|yF 1 [] [9] rfl<|bE N λx hy N=>xN rfl rfl h hy ?_;intro ad aL ap al;obtain⟨p1,c1,rfl,h1⟩:=vU al;refine xE 0 ap (cArr x p1 c1) (vA (cArr x p1 c1)) rfl<|uB [vT ([]),z0] ?_;intro b hb;refine yF 5 [] [3] rfl<|xP 0 (cArr x p1 c1) rfl<|yC rfl<|zJ<|yA ?_;refine wE N [] (λt42=>[(0,vS p list c),(5,vS p list c),(6,vI (list.length:Int)),(7,vI t7),(42,.bool t42)]) (λo0 aB=>?_) ?_
  ·have H:=iS I;obtain⟨y,ay,N⟩:=zB aB;cases aF:(!y) with
   | true=>
    have hM0:=rF aF N;refine wX [.p (vP b 0) [],.p (vT x.Name.l) [0],.q (.bool y),.q vY,.q vY,.p undef [],.p undef [],.p undef [],.p undef [],.p undef [],.p undef [],.p undef [],.p undef [],.p undef [],.p undef [],.p undef [],.p undef [],.p undef [],.p vY [],.p vY [],.p undef [],.p undef [],.p undef [],.p undef [],.p undef [],.p vY [],.p vY [],.p undef [],.p undef [],.p undef [],.p vY []] [[],[(0,false)],[(1,false)],[(2,false)],[(3,false)],[(4,false)],[(4,false),(5,false)],[(4,false),(6,false)],[(7,false)],[(7,false)],[(7,false),(9,false)],[(7,false),(8,false),(10,false)],[(7,false),(11,false)],[(7,false),(12,false)],[(7,false)],[(7,false),(14,false)],[(7,false),(13,false),(15,false)],[(4,false),(7,false),(16,false)],[(4,false),(17,false)],[(18,false)],[(19,false)],[(19,false),(20,false)],[(19,false),(21,false)],[(19,false),(22,false)],[(19,false),(23,false)],[(19,false),(24,false)],[(25,false)],[(26,false)],[(26,false),(27,false)],[(26,false),(28,false)],[(26,false),(29,false)]] [hB b (cArr x p1 c1)] [] [(30,false)] (zX [0]) ?_ ?_
    ·refine Op<|Op<|Oq ?_<|Oq ?_<|Oq ?_<|Op<|Op<|Op<|Op<|Op<|Op<|Op<|Op<|Op<|Op<|Op<|Op<|Op<|Op<|Op<|Op<|Op<|Op<|Op<|Op<|Op<|Op<|Op<|Op<|Op<|Op<|On
     ·intro I1 hf af;refine yP [13] rfl ?_;have H:=iS I1;refine vV (oV x.Name _ ay ) ?_;intro aU le;have H:=H.trans le;exact yT H
     ·intro I1 hf af;refine yP [14] rfl<|rS 4 [(15,.bool (!y))] ?_;rw[aF];exact yT iR
     intro I1 hf af;exact dE [(15,vY)]<|rS 5 [(16,vY)]<|yT iR
    intro aQ af;refine yP [0,5,6,7,42] rfl ?_;have H:=H.trans af;exact yC rfl<|xV zO<|yN<|zT (ct hM0 H)
   | false=>
    have hM01:=sF aF N;cases bd:(decide (t7>0)) with
    | true=>
     have hM02:=rF bd hM01;obtain⟨x1,aJ,N⟩:=zB hM02;cases bI:(!(Op.bytesLess x1.Name.l x.Name.l)) with
     | true=>
      have hM03:=rF bI N;refine wX [.p (vP b 0) [],.p (vT x.Name.l) [0],.q (.bool y),.q vF,.q vF,.p (vI t7) [],.q vY,.q vY,.p (vS p list c) [],.p (vI t7) [],.p (vI (W (t7 - 1))) [],.x (ePArr x1),.x (ePArr x1),.q (vT x1.Name.l),.p (vP b 0) [],.p (vT x.Name.l) [0],.q vY,.q vY,.q vY,.q vY,.p undef [],.p undef [],.p undef [],.p undef [],.p undef [],.p vY [],.p vY [],.p undef [],.p undef [],.p undef [],.p vY []] [[],[(0,false)],[(1,false)],[(2,false)],[(3,false)],[(4,false)],[(4,false),(5,false)],[(4,false),(6,false)],[(7,false)],[(7,false)],[(7,false),(9,false)],[(7,false),(8,false),(10,false)],[(7,false),(11,false)],[(7,false),(12,false)],[(7,false)],[(7,false),(14,false)],[(7,false),(13,false),(15,false)],[(4,false),(7,false),(16,false)],[(4,false),(17,false)],[(18,false)],[(19,false)],[(19,false),(20,false)],[(19,false),(21,false)],[(19,false),(22,false)],[(19,false),(23,false)],[(19,false),(24,false)],[(25,false)],[(26,false)],[(26,false),(27,false)],[(26,false),(28,false)],[(26,false),(29,false)]] [hB b (cArr x p1 c1)] [] [(30,false)] (zX [0]) ?_ ?_
      ·refine Op<|Op<|Oq ?_<|Oq ?_<|Oq ?_<|Op<|Oq ?_<|Oq ?_<|Op<|Op<|Op<|Ox ?_<|Ox ?_<|Oq ?_<|Op<|Op<|Oq ?_<|Oq ?_<|Oq ?_<|Oq ?_<|Op<|Op<|Op<|Op<|Op<|Op<|Op<|Op<|Op<|Op<|Op<|On
       ·intro I1 hf af;refine yP [13] rfl ?_;have H:=iS I1;refine vV (oV x.Name _ ay ) ?_;intro aU le;have H:=H.trans le;exact yT H
       ·intro I1 hf af;refine yP [14] rfl<|rS 4 [(15,.bool (!y))] ?_;rw[aF];exact yT iR
       ·intro I1 hf af;exact dE [(15,vF)]<|rS 5 [(16,vF)]<|yT iR
       ·intro I1 hf af;refine yP [16,17] rfl<|rS 7 [(18,.bool (decide (t7>0)))] ?_;rw[bd];exact yT iR
       ·intro I1 hf af;exact yP [16,18] rfl<|rS 8 [(19,vY)]<|yT iR
       ·intro I1 hf af;refine yP [19,20,22] rfl ?_;have h:=h.mono af;refine xN rfl rfl h aJ ?_;intro ad1 bv ar az;obtain⟨p2,c2,rfl,h3⟩:=vU az;exact yK [] iR ⟨_,_,_,rfl,rfl,ar,h3⟩
       ·rintro I1 hf af _ _ ⟨rfl,rfl⟩ _ _ ⟨ad1,p2,c2,rfl,rfl,ar,h3⟩;exact yP [19,23] rfl<|rS 13 [(24,.pointer (some ad1))]<|yK [] iR ⟨_,_,_,rfl,rfl,ar,h3⟩
       ·rintro I1 hf af _ _ ⟨rfl,rfl⟩ _ _ ⟨ad11,p21,c21,rfl,rfl,hat11,h31⟩;exact yP [19,24] rfl<|xE 0 hat11 [vT x1.Name.l] (vT x1.Name.l) rfl<|yT iR
       ·intro I1 hf af;refine yP [19,25,27] rfl<|rS 17 [(28,.bool (!(Op.bytesLess x1.Name.l x.Name.l)))] ?_;rw[bI];exact yT iR
       ·intro I1 hf af;exact yP [16,19,28] rfl<|rS 18 [(29,vY)]<|yT iR
       ·intro I1 hf af;exact yP [16,29] rfl<|rS 19 [(30,vY)]<|yT iR
       intro I1 hf af;exact dE [(30,vY)]<|rS 20 [(31,vY)]<|yT iR
      intro bz aE;refine yP [0,5,6,7,42] rfl ?_;have H:=H.trans aE;exact yC rfl<|xV zO<|yN<|zT (ct hM03 H)
     | false=>
      have hM04:=sF bI N;obtain⟨y1,bb,N⟩:=zB hM04;cases bN:(!y1) with
      | true=>
       have hM05:=rF bN N;refine wX [.p (vP b 0) [],.p (vT x.Name.l) [0],.q (.bool y),.q vF,.q vF,.p (vI t7) [],.q vY,.q vY,.p (vS p list c) [],.p (vI t7) [],.p (vI (W (t7 - 1))) [],.x (ePArr x1),.x (ePArr x1),.q (vT x1.Name.l),.p (vP b 0) [],.p (vT x.Name.l) [0],.q vF,.q vF,.q vF,.q vF,.p (vP b 1) [],.p (vS p1 x.Dims c1) [0],.p (vI (x.Dims.length:Int)) [],.q (.bool y1),.q vY,.q vY,.q vY,.p undef [],.p undef [],.p undef [],.p vY []] [[],[(0,false)],[(1,false)],[(2,false)],[(3,false)],[(4,false)],[(4,false),(5,false)],[(4,false),(6,false)],[(7,false)],[(7,false)],[(7,false),(9,false)],[(7,false),(8,false),(10,false)],[(7,false),(11,false)],[(7,false),(12,false)],[(7,false)],[(7,false),(14,false)],[(7,false),(13,false),(15,false)],[(4,false),(7,false),(16,false)],[(4,false),(17,false)],[(18,false)],[(19,false)],[(19,false),(20,false)],[(19,false),(21,false)],[(19,false),(22,false)],[(19,false),(23,false)],[(19,false),(24,false)],[(25,false)],[(26,false)],[(26,false),(27,false)],[(26,false),(28,false)],[(26,false),(29,false)]] [hB b (cArr x p1 c1)] [] [(30,false)] (zX [0]) ?_ ?_
       ·refine Op<|Op<|Oq ?_<|Oq ?_<|Oq ?_<|Op<|Oq ?_<|Oq ?_<|Op<|Op<|Op<|Ox ?_<|Ox ?_<|Oq ?_<|Op<|Op<|Oq ?_<|Oq ?_<|Oq ?_<|Oq ?_<|Op<|Op<|Op<|Oq ?_<|Oq ?_<|Oq ?_<|Oq ?_<|Op<|Op<|Op<|Op<|On
        ·intro I1 hf af;refine yP [13] rfl ?_;have H:=iS I1;refine vV (oV x.Name _ ay ) ?_;intro aU le;have H:=H.trans le;exact yT H
        ·intro I1 hf af;refine yP [14] rfl<|rS 4 [(15,.bool (!y))] ?_;rw[aF];exact yT iR
        ·intro I1 hf af;exact dE [(15,vF)]<|rS 5 [(16,vF)]<|yT iR
        ·intro I1 hf af;refine yP [16,17] rfl<|rS 7 [(18,.bool (decide (t7>0)))] ?_;rw[bd];exact yT iR
        ·intro I1 hf af;exact yP [16,18] rfl<|rS 8 [(19,vY)]<|yT iR
        ·intro I1 hf af;refine yP [19,20,22] rfl ?_;have h:=h.mono af;refine xN rfl rfl h aJ ?_;intro ad1 bv ar az;obtain⟨p2,c2,rfl,h3⟩:=vU az;exact yK [] iR ⟨_,_,_,rfl,rfl,ar,h3⟩
        ·rintro I1 hf af _ _ ⟨rfl,rfl⟩ _ _ ⟨ad1,p2,c2,rfl,rfl,ar,h3⟩;exact yP [19,23] rfl<|rS 13 [(24,.pointer (some ad1))]<|yK [] iR ⟨_,_,_,rfl,rfl,ar,h3⟩
        ·rintro I1 hf af _ _ ⟨rfl,rfl⟩ _ _ ⟨ad11,p21,c21,rfl,rfl,hat11,h31⟩;exact yP [19,24] rfl<|xE 0 hat11 [vT x1.Name.l] (vT x1.Name.l) rfl<|yT iR
        ·intro I1 hf af;refine yP [19,25,27] rfl<|rS 17 [(28,.bool (!(Op.bytesLess x1.Name.l x.Name.l)))] ?_;rw[bI];exact yT iR
        ·intro I1 hf af;exact yP [16,19,28] rfl<|rS 18 [(29,vF)]<|yT iR
        ·intro I1 hf af;exact yP [16,29] rfl<|rS 19 [(30,vF)]<|yT iR
        ·intro I1 hf af;exact dE [(30,vF)]<|rS 20 [(31,vF)]<|yT iR
        ·intro I1 hf af;refine yP [31,34] rfl ?_;have H:=iS I1;refine vV (xY (x.Dims.length:Int) 1 2 _ bb ) ?_;intro bK aK;have H:=H.trans aK;exact yT H
        ·intro I1 hf af;refine yP [31,35] rfl<|rS 25 [(36,.bool (!y1))] ?_;rw[bN];exact yT iR
        ·intro I1 hf af;exact yP [31,36] rfl<|rS 26 [(37,vY)]<|yT iR
        intro I1 hf af;exact dE [(37,vY)]<|rS 27 [(38,vY)]<|yT iR
       intro bO bi;refine yP [0,5,6,7,42] rfl ?_;have H:=H.trans bi;exact yC rfl<|xV zO<|yN<|zT (ct hM05 H)
      | false=>
       have hM06:=sF bN N;obtain⟨y2,bt,N⟩:=zB hM06;refine wX [.p (vP b 0) [],.p (vT x.Name.l) [0],.q (.bool y),.q vF,.q vF,.p (vI t7) [],.q vY,.q vY,.p (vS p list c) [],.p (vI t7) [],.p (vI (W (t7 - 1))) [],.x (ePArr x1),.x (ePArr x1),.q (vT x1.Name.l),.p (vP b 0) [],.p (vT x.Name.l) [0],.q vF,.q vF,.q vF,.q vF,.p (vP b 1) [],.p (vS p1 x.Dims c1) [0],.p (vI (x.Dims.length:Int)) [],.q (.bool y1),.q vF,.q vF,.q vF,.p (vP b 1) [],.p (vS p1 x.Dims c1) [0],.q (.bool y2),.p (.bool y2) []] [[],[(0,false)],[(1,false)],[(2,false)],[(3,false)],[(4,false)],[(4,false),(5,false)],[(4,false),(6,false)],[(7,false)],[(7,false)],[(7,false),(9,false)],[(7,false),(8,false),(10,false)],[(7,false),(11,false)],[(7,false),(12,false)],[(7,false)],[(7,false),(14,false)],[(7,false),(13,false),(15,false)],[(4,false),(7,false),(16,false)],[(4,false),(17,false)],[(18,false)],[(19,false)],[(19,false),(20,false)],[(19,false),(21,false)],[(19,false),(22,false)],[(19,false),(23,false)],[(19,false),(24,false)],[(25,false)],[(26,false)],[(26,false),(27,false)],[(26,false),(28,false)],[(26,false),(29,false)]] [hB b (cArr x p1 c1)] [] [(30,false)] (zX [0]) ?_ ?_
       ·refine Op<|Op<|Oq ?_<|Oq ?_<|Oq ?_<|Op<|Oq ?_<|Oq ?_<|Op<|Op<|Op<|Ox ?_<|Ox ?_<|Oq ?_<|Op<|Op<|Oq ?_<|Oq ?_<|Oq ?_<|Oq ?_<|Op<|Op<|Op<|Oq ?_<|Oq ?_<|Oq ?_<|Oq ?_<|Op<|Op<|Oq ?_<|Op<|On
        ·intro I1 hf af;refine yP [13] rfl ?_;have H:=iS I1;refine vV (oV x.Name _ ay ) ?_;intro aU le;have H:=H.trans le;exact yT H
        ·intro I1 hf af;refine yP [14] rfl<|rS 4 [(15,.bool (!y))] ?_;rw[aF];exact yT iR
        ·intro I1 hf af;exact dE [(15,vF)]<|rS 5 [(16,vF)]<|yT iR
        ·intro I1 hf af;refine yP [16,17] rfl<|rS 7 [(18,.bool (decide (t7>0)))] ?_;rw[bd];exact yT iR
        ·intro I1 hf af;exact yP [16,18] rfl<|rS 8 [(19,vY)]<|yT iR
        ·intro I1 hf af;refine yP [19,20,22] rfl ?_;have h:=h.mono af;refine xN rfl rfl h aJ ?_;intro ad1 bv ar az;obtain⟨p2,c2,rfl,h3⟩:=vU az;exact yK [] iR ⟨_,_,_,rfl,rfl,ar,h3⟩
        ·rintro I1 hf af _ _ ⟨rfl,rfl⟩ _ _ ⟨ad1,p2,c2,rfl,rfl,ar,h3⟩;exact yP [19,23] rfl<|rS 13 [(24,.pointer (some ad1))]<|yK [] iR ⟨_,_,_,rfl,rfl,ar,h3⟩
        ·rintro I1 hf af _ _ ⟨rfl,rfl⟩ _ _ ⟨ad11,p21,c21,rfl,rfl,hat11,h31⟩;exact yP [19,24] rfl<|xE 0 hat11 [vT x1.Name.l] (vT x1.Name.l) rfl<|yT iR
        ·intro I1 hf af;refine yP [19,25,27] rfl<|rS 17 [(28,.bool (!(Op.bytesLess x1.Name.l x.Name.l)))] ?_;rw[bI];exact yT iR
        ·intro I1 hf af;exact yP [16,19,28] rfl<|rS 18 [(29,vF)]<|yT iR
        ·intro I1 hf af;exact yP [16,29] rfl<|rS 19 [(30,vF)]<|yT iR
        ·intro I1 hf af;exact dE [(30,vF)]<|rS 20 [(31,vF)]<|yT iR
        ·intro I1 hf af;refine yP [31,34] rfl ?_;have H:=iS I1;refine vV (xY (x.Dims.length:Int) 1 2 _ bb ) ?_;intro bK aK;have H:=H.trans aK;exact yT H
        ·intro I1 hf af;refine yP [31,35] rfl<|rS 25 [(36,.bool (!y1))] ?_;rw[bN];exact yT iR
        ·intro I1 hf af;exact yP [31,36] rfl<|rS 26 [(37,vF)]<|yT iR
        ·intro I1 hf af;exact dE [(37,vF)]<|rS 27 [(38,vF)]<|yT iR
        intro I1 hf af;refine yP [38,40] rfl ?_;have H:=iS I1;have ⟨h,h1⟩:=m2 af h h1;have hf0:FV1 Tryz.prog I1 [] (.func (.func 84) ⟨[]⟩ ⟨[]⟩) uU:=by
         refine FV1.intro ?_;intro I1 af x0 r u0 hF k0;obtain rfl:=k0;exact(zAE x0 r hF ).mono (by rintro k i hs u ⟨v0,rfl,rfl,h⟩;exact⟨rfl,h⟩)
        refine xO (sQ x.Dims uU _ bt h1 hf0) ?_;rintro I06 ax v2 k2 bw - ⟨v04,rfl,rfl,rfl⟩ -;have H:=H.trans bw;exact yT H
       intro I07 bD;refine yP [0,5,6,7,42] rfl ?_;have H:=H.trans bD;exact yC rfl<|xV zO<|yN<|zT (ct N H)
    | false=>
     have hM07:=sF bd hM01;obtain⟨y3,bH,N⟩:=zB hM07;cases hc5:(!y3) with
     | true=>
      have hM08:=rF hc5 N;refine wX [.p (vP b 0) [],.p (vT x.Name.l) [0],.q (.bool y),.q vF,.q vF,.p (vI t7) [],.q vF,.q vF,.p undef [],.p undef [],.p undef [],.p undef [],.p undef [],.p undef [],.p undef [],.p undef [],.p undef [],.p vF [],.p vF [],.p vF [],.p (vP b 1) [],.p (vS p1 x.Dims c1) [0],.p (vI (x.Dims.length:Int)) [],.q (.bool y3),.q vY,.q vY,.q vY,.p undef [],.p undef [],.p undef [],.p vY []] [[],[(0,false)],[(1,false)],[(2,false)],[(3,false)],[(4,false)],[(4,false),(5,false)],[(4,false),(6,false)],[(7,false)],[(7,false)],[(7,false),(9,false)],[(7,false),(8,false),(10,false)],[(7,false),(11,false)],[(7,false),(12,false)],[(7,false)],[(7,false),(14,false)],[(7,false),(13,false),(15,false)],[(4,false),(7,false),(16,false)],[(4,false),(17,false)],[(18,false)],[(19,false)],[(19,false),(20,false)],[(19,false),(21,false)],[(19,false),(22,false)],[(19,false),(23,false)],[(19,false),(24,false)],[(25,false)],[(26,false)],[(26,false),(27,false)],[(26,false),(28,false)],[(26,false),(29,false)]] [hB b (cArr x p1 c1)] [] [(30,false)] (zX [0]) ?_ ?_
      ·refine Op<|Op<|Oq ?_<|Oq ?_<|Oq ?_<|Op<|Oq ?_<|Oq ?_<|Op<|Op<|Op<|Op<|Op<|Op<|Op<|Op<|Op<|Op<|Op<|Op<|Op<|Op<|Op<|Oq ?_<|Oq ?_<|Oq ?_<|Oq ?_<|Op<|Op<|Op<|Op<|On
       ·intro I1 hf af;refine yP [13] rfl ?_;have H:=iS I1;refine vV (oV x.Name _ ay ) ?_;intro aU le;have H:=H.trans le;exact yT H
       ·intro I1 hf af;refine yP [14] rfl<|rS 4 [(15,.bool (!y))] ?_;rw[aF];exact yT iR
       ·intro I1 hf af;exact dE [(15,vF)]<|rS 5 [(16,vF)]<|yT iR
       ·intro I1 hf af;refine yP [16,17] rfl<|rS 7 [(18,.bool (decide (t7>0)))] ?_;rw[bd];exact yT iR
       ·intro I1 hf af;exact yP [16,18] rfl<|rS 8 [(19,vF)]<|yT iR
       ·intro I1 hf af;refine yP [31,34] rfl ?_;have H:=iS I1;refine vV (xY (x.Dims.length:Int) 1 2 _ bH ) ?_;intro I08 le7;have H:=H.trans le7;exact yT H
       ·intro I1 hf af;refine yP [31,35] rfl<|rS 25 [(36,.bool (!y3))] ?_;rw[hc5];exact yT iR
       ·intro I1 hf af;exact yP [31,36] rfl<|rS 26 [(37,vY)]<|yT iR
       intro I1 hf af;exact dE [(37,vY)]<|rS 27 [(38,vY)]<|yT iR
      intro I09 le8;refine yP [0,5,6,7,42] rfl ?_;have H:=H.trans le8;exact yC rfl<|xV zO<|yN<|zT (ct hM08 H)
     | false=>
      have hM09:=sF hc5 N;obtain⟨y4,hy6,N⟩:=zB hM09;refine wX [.p (vP b 0) [],.p (vT x.Name.l) [0],.q (.bool y),.q vF,.q vF,.p (vI t7) [],.q vF,.q vF,.p undef [],.p undef [],.p undef [],.p undef [],.p undef [],.p undef [],.p undef [],.p undef [],.p undef [],.p vF [],.p vF [],.p vF [],.p (vP b 1) [],.p (vS p1 x.Dims c1) [0],.p (vI (x.Dims.length:Int)) [],.q (.bool y3),.q vF,.q vF,.q vF,.p (vP b 1) [],.p (vS p1 x.Dims c1) [0],.q (.bool y4),.p (.bool y4) []] [[],[(0,false)],[(1,false)],[(2,false)],[(3,false)],[(4,false)],[(4,false),(5,false)],[(4,false),(6,false)],[(7,false)],[(7,false)],[(7,false),(9,false)],[(7,false),(8,false),(10,false)],[(7,false),(11,false)],[(7,false),(12,false)],[(7,false)],[(7,false),(14,false)],[(7,false),(13,false),(15,false)],[(4,false),(7,false),(16,false)],[(4,false),(17,false)],[(18,false)],[(19,false)],[(19,false),(20,false)],[(19,false),(21,false)],[(19,false),(22,false)],[(19,false),(23,false)],[(19,false),(24,false)],[(25,false)],[(26,false)],[(26,false),(27,false)],[(26,false),(28,false)],[(26,false),(29,false)]] [hB b (cArr x p1 c1)] [] [(30,false)] (zX [0]) ?_ ?_
      ·refine Op<|Op<|Oq ?_<|Oq ?_<|Oq ?_<|Op<|Oq ?_<|Oq ?_<|Op<|Op<|Op<|Op<|Op<|Op<|Op<|Op<|Op<|Op<|Op<|Op<|Op<|Op<|Op<|Oq ?_<|Oq ?_<|Oq ?_<|Oq ?_<|Op<|Op<|Oq ?_<|Op<|On
       ·intro I1 hf af;refine yP [13] rfl ?_;have H:=iS I1;refine vV (oV x.Name _ ay ) ?_;intro aU le;have H:=H.trans le;exact yT H
       ·intro I1 hf af;refine yP [14] rfl<|rS 4 [(15,.bool (!y))] ?_;rw[aF];exact yT iR
       ·intro I1 hf af;exact dE [(15,vF)]<|rS 5 [(16,vF)]<|yT iR
       ·intro I1 hf af;refine yP [16,17] rfl<|rS 7 [(18,.bool (decide (t7>0)))] ?_;rw[bd];exact yT iR
       ·intro I1 hf af;exact yP [16,18] rfl<|rS 8 [(19,vF)]<|yT iR
       ·intro I1 hf af;refine yP [31,34] rfl ?_;have H:=iS I1;refine vV (xY (x.Dims.length:Int) 1 2 _ bH ) ?_;intro I08 le7;have H:=H.trans le7;exact yT H
       ·intro I1 hf af;refine yP [31,35] rfl<|rS 25 [(36,.bool (!y3))] ?_;rw[hc5];exact yT iR
       ·intro I1 hf af;exact yP [31,36] rfl<|rS 26 [(37,vF)]<|yT iR
       ·intro I1 hf af;exact dE [(37,vF)]<|rS 27 [(38,vF)]<|yT iR
       intro I1 hf af;refine yP [38,40] rfl ?_;have H:=iS I1;have ⟨h,h1⟩:=m2 af h h1;have hf01:FV1 Tryz.prog I1 [] (.func (.func 84) ⟨[]⟩ ⟨[]⟩) uU:=by
        refine FV1.intro ?_;intro I1 af x0 r u0 hF k0;obtain rfl:=k0;exact(zAE x0 r hF ).mono (by rintro k i hs u ⟨v0,rfl,rfl,h⟩;exact⟨rfl,h⟩)
       refine xO (sQ x.Dims uU _ hy6 h1 hf01) ?_;rintro bR ax v2 k2 le9 - ⟨v06,rfl,rfl,rfl⟩ -;have H:=H.trans le9;exact yT H
      intro bV le10;refine yP [0,5,6,7,42] rfl ?_;have H:=H.trans le10;exact yC rfl<|xV zO<|yN<|zT (ct N H)
  intro t42 I0 le11 aN;have ⟨h,H⟩:=m2 le11 h H;refine zJ<|yD aN ?_ ?_
  ·intro hc6 N;exact vK [(2,vF)]<|xF<|zV<|zH<|zH<|hr _ _ _ _ (zC N).symm H ⟨_,_,(.tmp rfl ResV.nil),zO,⟨_,rfl,rfl,rfl⟩⟩
  intro hc6 N;exact zU<|zP<|zJ<|zK<|yI [] [7] rfl<|yS<|nU<|ih (W (t7+1)) _ N H h hg ho hx hr
 intro hc N;exact wZ<|yN<|hx _  (zC N).symm H
def jF(list:(List zG)):Option (Bool):=do
 match<-rO list 0 with
 | .ret r0=>pure r0
 | .done _=>
  pure (decide ((list.length:Int)<=4))
theorem zE8:∀list r,jF list=some r->∀{I:Imm}{p c},(S4 I p list c)->RT 45 [vS p list c] I [] (zS  r):=by
 intro list r N I p c h;unfold jF at N;refine yJ func45 λB=>vK []<|zZ<|yG [5,6,7] rfl<|wC<|oA [(0,vS p list c),(5,vS p list c),(6,vI (list.length:Int)),(7,vI 0)] ?_;obtain⟨aM,aA,aH⟩:=zB N;refine zCV list 0 aM aA iR h (λ_ _ _ h=>h) (λ_ _ h=>h) ?_ ?_
 ·intro bU  heq1 le12;subst aM;refine zR<|wW [2] rfl<|zJ<|yZ ?_;obtain rfl:=zC aH;exact wV
 intro r0 I9 hs9 m9 aR le9 aS;subst aR;refine zV<|zH ?_;obtain rfl:=zC aH;exact xC aS
def rH(aY:List HA)(r:Int):KT:=λkk I' ah v=>
 ∃v0,aY=ah/\v=tupV [v0]/\v0=.int .i64 r
def yX(s:(List zA))(f0:(zA->Option Bool))(t8:Int):Option (Out Unit (Int)):=do
 if(decide (t8<(s.length:Int))) then
  let x<-idx s t8
  let y<-f0 x
  if y then
   pure (.ret t8)
  else
   yX s f0 (W (t8+1))
 else
  pure (.done ())
 partial_fixpoint
theorem mW(s:(List zA))(f0:(zA->Option Bool)):∀(t8:Int) (o:Out Unit (Int)),yX s f0 t8=some o->∀{B}{I0 I:Imm}{Q p c}{fv:Value}{aY:List HA},I0.le I->(S4 I p s c)->(FV1 Tryz.prog I aY fv f0)->NG Q->NO Q->(∀(I':Imm) ,o=(.done ())->I0.le I'->T 19 B Q (.exit 0) I' aY [])->(∀r I' ah m',o=(.ret r)->I0.le I'->RS Tryz.prog f163 B (rH aY r) I' ah m'->T 19 B Q .ret I' ah m')->J Tryz.prog 19 B (nav (bodyOf f163) [1,0,1,0]) Q I aY [(0,vS p s c),(1,fv),(7,vI (s.length:Int)),(8,vI t8)]:=by
 refine yX.partial_correctness s f0 _ λaI ih t8 o N B I0 I Q p c fv aY H h h1 hg ho hx hr=>yR hg ho<|yG [9] rfl<|zZ<|yD N ?_ ?_
 ·intro hc N;refine zU<|zZ<|yH<|yG [5] rfl<|xA<|yF 3 [] [11,12,13] rfl<|bE N λx hy N=>xN rfl rfl h hy ?_;intro ad aL ap al;obtain⟨p1,c1,rfl,h2⟩:=yO al;refine xE 0 ap (cAff x p1 c1) (vA (cAff x p1 c1)) rfl<|bE N λy ay N=>zIZ rfl rfl h1 ay ⟨_,rfl,(yL ⟨_,rfl,h2⟩)⟩ (cu _).symm ?_;rintro I0 v01 le rfl;refine uW (ah:=aY) (cu _) ?_;have ⟨h,h1,H⟩:=m3 le h h1 H;refine yC rfl<|zJ<|yD N ?_ ?_
  ·intro aF N;exact yG [4] rfl<|xF<|zV<|zH<|zH<|hr _ _ _ _ (zC N).symm H ⟨_,_,(.tmp rfl ResV.nil),(λ_ h=>h),⟨_,rfl,rfl,rfl⟩⟩
  intro aF N;exact zU<|zP<|zJ<|zK<|yI [] [8] rfl<|yS<|nU<|ih (W (t8+1)) _ N H h h1 hg ho hx hr
 intro hc N;exact wZ<|yN<|hx _  (zC N).symm H
def wO(s:(List zA))(f0:(zA->Option Bool)):Option (Int):=do
 match<-yX s f0 0 with
 | .ret r0=>pure r0
 | .done _=>
  pure (-1)
theorem kR:∀s f0 r,wO s f0=some r->∀{I:Imm}{p c}{fv:Value}{aY:List HA},(S4 I p s c)->(FV1 Tryz.prog I aY fv f0)->RT 163 [vS p s c,fv] I aY (rH aY r):=by
 intro s f0 r N I p c fv aY h h1;unfold wO at N;refine yJ func163 λB=>vK []<|zZ<|yG [7,8] rfl<|wC<|oA [(0,vS p s c),(1,fv),(7,vI (s.length:Int)),(8,vI 0)] ?_;obtain⟨o0,aB,aH⟩:=zB N;refine mW s f0 0 o0 aB iR h h1 (λ_ _ _ h=>h) (λ_ _ h=>h) ?_ ?_
 ·intro aU  heq af;subst o0;refine zR<|wW [4] rfl<|zJ<|yZ ?_;obtain rfl:=zC aH;exact xC ⟨_,_,(.tmp rfl ResV.nil),(λ_ h=>h),⟨_,rfl,rfl,rfl⟩⟩
 intro r0 I9 hs9 m9 aR le9 aS;subst aR;refine zV<|zH ?_;obtain rfl:=zC aH;exact xC aS
def nW(aY:List HA)(r:Bool):KT:=λkk I' ah v=>
 ∃v0,aY=ah/\v=tupV [v0]/\v0=.bool r
def xH(s:(List zA))(f0:(zA->Option Bool)):Option (Bool):=do
 let y<-wO s f0
 pure (decide (y>=0))
theorem rE:∀s f0 r,xH s f0=some r->∀{I:Imm}{p c}{fv:Value}{aY:List HA},(S4 I p s c)->(FV1 Tryz.prog I aY fv f0)->RT 125 [vS p s c,fv] I aY (nW aY r):=by
 intro s f0 r N I p c fv aY h h1;unfold xH at N;refine yJ func125 λB=>vK []<|xA<|yF 2 [] [5,6] rfl<|bE N λy hy N=>zEG (hs1:=aY) (rest:=[]) rfl rfl rfl rfl (by kernel_rfl) rfl (cu _).symm (kR s f0 _ hy h h1) ?_;rintro I0 ax v2 k2 le - ⟨v0,rfl,rfl,rfl⟩ -;refine uW (ah:=aY) (cu _) ?_;refine yI [] [4] rfl<|zJ<|yZ ?_;obtain rfl:=zC N;exact xC ⟨_,_,(.tmp rfl ResV.nil),(λ_ h=>h),⟨_,rfl,rfl,rfl⟩⟩
def fS(n0:Int):Option (Bool):=do
 let y<-xS n0 (-99) 99
 pure (id y)
theorem zFJ:∀n0 r,fS n0=some r->∀{I:Imm} ,RT 164 [vI n0] I [] (zS  r):=by
 intro n0 r N I;unfold fS at N;refine yJ func164 λB=>vK []<|xA<|yF 1 [] [3] rfl<|bE N λy hy N=>vV (xY n0 (-99) 99 _ hy ) λI0 le=>wG [] [(2,.bool y)]<|zJ<|yZ ?_;obtain rfl:=zC N;exact wV
def sB(c:Int):Option (Bool):=do
 let y<-xS c (-9) 9
 pure (!y)
theorem zBZ:∀c r,sB c=some r->∀{I:Imm} ,RT 165 [vI c] I [] (zS  r):=by
 intro c r N I;unfold sB at N;refine yJ func165 λB=>vK []<|xA<|yF 1 [] [3] rfl<|bE N λy hy N=>vV (xY c (-9) 9 _ hy ) λI0 le=>wG [] [(2,.bool (!y))]<|zJ<|yZ ?_;obtain rfl:=zC N;exact wV
def rP(a0:zA):Option (Bool):=do
 let t2<-(do
  if((a0.Coefs.length:Int)==4) then
   let y<-fS a0.Const
   if y then
    let y1<-xK a0.Coefs sB
    pure (!y1)
   else
    pure false
  else
   pure false
    : Option Bool)
 pure (id t2)
theorem nC:∀a0 r,rP a0=some r->∀{I:Imm}{p c},(S4 I p a0.Coefs c)->RT 127 [vA (cAff a0 p c)] I [] (zS  r):=by
 intro a0 r N I p c h;unfold rP at N;refine yJ func127 λB=>?_;have H:=iS I;refine yE<|uH (cAff a0 p c) ?_;intro b hb;refine wG [] []<|zJ<|yA ?_;refine wE N [] (λt2=>[(2,.bool t2)]) (λo0 aB=>?_) ?_
 ·have H:=iS I;refine zK<|yF 5 [0] [7] rfl<|xW [7] aB ?_ ?_
  ·intro hc N;refine yF 7 [0] [9] rfl<|bE N λy hy N=>vV (zFJ a0.Const _ hy ) ?_;intro aU le;have ⟨h,H⟩:=m2 le h H;refine yF 10 [] [12] rfl<|xW [12] N ?_ ?_
   ·intro aF N;refine yF 12 [0] [14] rfl ?_;have hf0:FV1 Tryz.prog aU [] (.func (.func 165) ⟨[]⟩ ⟨[]⟩) sB:=by
     refine FV1.intro ?_;intro I1 af x0 r u0 hF k0;obtain rfl:=k0;exact(zBZ x0 r hF ).mono (by rintro k i hs u ⟨v0,rfl,rfl,h⟩;exact⟨rfl,h⟩)
    obtain⟨y1,ay,N⟩:=zB N;refine xO (sQ a0.Coefs sB _ ay h hf0) ?_;rintro aQ ax v2 k2 af - ⟨v01,rfl,rfl,rfl⟩ -;have H:=H.trans af;exact yI [] [2] rfl<|xV zO<|yN<|zT (ct N H)
   intro aF N;exact wG [] [(2,vF)]<|xV zO<|yN<|zT (ct N H)
  intro hc N;exact wG [] [(2,vF)]<|xV zO<|yN<|zT (ct N H)
 intro t2 I0 aE aN;refine zJ<|yZ ?_;obtain rfl:=zC aN;exact wV
def tD(a0:zA)(n0:Int):Option (Int):=do
 let t17<-(do
  if(decide (n0>0)) then
   let x<-idx a0.Coefs (W (n0 - 1))
   pure (x==0)
  else
   pure false
    : Option Bool)
 if t17 then
  tD a0 (W (n0 - 1))
 else
  pure (id n0)
 partial_fixpoint
theorem zAl(a0:zA):∀(n0:Int) (o:Int),tD a0 n0=some o->∀{B}{I0 I:Imm}{Q p c}{b:Nat},I0.le I->(S4 I p a0.Coefs c)->NG Q->NO Q->(∀(I':Imm) (n01:Int),o=n01->I0.le I'->T 21 B Q (.exit 0) I' [] [(3,vI n01)])->J Tryz.prog 21 B (nav (bodyOf f128) [1,1,0,0]) Q I [hB b (cAff a0 p c)] [(1,vP b 0),(3,vI n0)]:=by
 refine tD.partial_correctness a0 _ λaI ih n0 o N B I0 I Q p c b H h hg ho hx=>yR hg ho<|yA<|yA ?_;refine wE N [hB b (cAff a0 p c)] (λt17=>[(1,vP b 0),(3,vI n0),(17,.bool t17)]) (λo0 aB=>?_) ?_
 ·have H:=iS I;refine zK<|yF 3 [] [9] rfl<|xW [9] aB ?_ ?_
  ·intro hc N;refine yF 7 [0] [11,13] rfl<|bE N λx hy N=>xN rfl rfl h hy ?_;intro ad aL ap al;obtain rfl:=al;exact xE 0 ap [vI x] (vI x) rfl<|yI [] [17] rfl<|yN<|zT (ct N H)
  intro hc N;exact wG [] [(17,vF)]<|yN<|zT (ct N H)
 intro t17 I0 le aN;have ⟨h,H⟩:=m2 le h H;refine zJ<|yD aN ?_ ?_
 ·intro aF N;exact zU<|wC<|zK<|yI [] [3] rfl<|zP<|yS<|nU<|ih (W (n0 - 1)) _ N H h hg ho hx
 intro aF N;exact wZ<|xV zO<|yN<|hx _ _ (zC N).symm H
def sU(a0:zA):Option (Int):=do
 let n01<-tD a0 (a0.Coefs.length:Int)
 pure (id n01)
theorem gE:∀a0 r,sU a0=some r->∀{I:Imm}{p c},(S4 I p a0.Coefs c)->RT 128 [vA (cAff a0 p c)] I [] (yQ  r):=by
 intro a0 r N I p c h;unfold sU at N;refine yJ func128 λB=>yE<|uH (cAff a0 p c) ?_;intro b hb;refine wG [] []<|xA<|yI [0] [3] rfl<|zZ<|yH<|oA [(1,vP b 0),(3,vI (a0.Coefs.length:Int))] ?_;obtain⟨aM,aA,aH⟩:=zB N;refine zAl a0 (a0.Coefs.length:Int) aM aA iR h (λ_ _ _ h=>h) (λ_ _ h=>h) ?_;intro aU n01 heq1 af;subst aM;refine zR<|wW [2] rfl<|zJ<|yZ ?_;obtain rfl:=zC aH;exact wV
def sY(a0:zA)(x:Int):Option (Bool):=do
 let t3<-(do
  let y<-rP a0
  if(!y) then
   pure true
  else
   let y1<-sU a0
   pure (decide (y1>x))
    : Option Bool)
 pure (id t3)
theorem zCv:∀a0 x r,sY a0 x=some r->∀{I:Imm}{p c}{ad:Addr},(S4 I p a0.Coefs c)->(At I ad [vI x])->RT 162 [vA (cAff a0 p c),.pointer (some ad)] I [] (zS  r):=by
 intro a0 x r N I p c ad h ap;unfold sY at N;refine yJ func162 λB=>?_;have H:=iS I;refine yE<|uH (cAff a0 p c) ?_;intro b hb;refine wG [] []<|zJ<|yA ?_;refine wE N [] (λt3=>[(3,.bool t3)]) (λo0 aB=>?_) ?_
 ·have H:=iS I;obtain⟨y,hy,N⟩:=zB aB;cases hc:(!y) with
  | true=>
   have hM0:=rF hc N;refine wX [.p (vA (cAff a0 p c)) [0],.q (.bool y),.q vY,.q vY,.p undef [],.p undef [],.p undef [],.p undef [],.p vY []] [[],[(0,false)],[(1,false)],[(2,false)],[(3,false)],[(3,false),(4,false)],[(3,false)],[(3,false),(5,false),(6,false)],[(3,false),(7,false)]] [hB b (cAff a0 p c)] [] [(8,false)] (zX [0]) ?_ ?_
   ·refine Op<|Oq ?_<|Oq ?_<|Oq ?_<|Op<|Op<|Op<|Op<|Op<|On
    ·intro I1 hf af;refine yP [4] rfl ?_;have H:=iS I1;have h:=h.mono af;refine vV (nC a0 _ hy h) ?_;intro aU le;have H:=H.trans le;exact yT H
    ·intro I1 hf af;refine yP [5] rfl<|rS 3 [(6,.bool (!y))] ?_;rw[hc];exact yT iR
    intro I1 hf af;exact dE [(6,vY)]<|rS 4 [(7,vY)]<|yT iR
   intro aQ af;refine dE [(12,vY)] ?_;have H:=H.trans af;exact wG [] [(3,vY)]<|xV zO<|yN<|zT (ct hM0 H)
  | false=>
   have hM01:=sF hc N;obtain⟨y1,ay,N⟩:=zB hM01;refine wX [.p (vA (cAff a0 p c)) [0],.q (.bool y),.q vF,.q vF,.p (vA (cAff a0 p c)) [0],.q (vI y1),.q (vI x),.p (.bool (decide (y1>x))) [],.p (.bool (decide (y1>x))) []] [[],[(0,false)],[(1,false)],[(2,false)],[(3,false)],[(3,false),(4,false)],[(3,false)],[(3,false),(5,false),(6,false)],[(3,false),(7,false)]] [hB b (cAff a0 p c)] [] [(8,false)] (zX [0]) ?_ ?_
   ·refine Op<|Oq ?_<|Oq ?_<|Oq ?_<|Op<|Oq ?_<|Oq ?_<|Op<|Op<|On
    ·intro I1 hf af;refine yP [4] rfl ?_;have H:=iS I1;have h:=h.mono af;refine vV (nC a0 _ hy h) ?_;intro aU le;have H:=H.trans le;exact yT H
    ·intro I1 hf af;refine yP [5] rfl<|rS 3 [(6,.bool (!y))] ?_;rw[hc];exact yT iR
    ·intro I1 hf af;exact dE [(6,vF)]<|rS 4 [(7,vF)]<|yT iR
    ·intro I1 hf af;refine yP [7,8] rfl ?_;have H:=iS I1;have h:=h.mono af;refine jE (gE a0 _ ay h) ?_;intro bz aE;have H:=H.trans aE;exact yT H
    intro I1 hf af;refine yP [1,7] rfl ?_;have ap:=ap.mono af;exact xE 0 ap [vI x] (vI x) rfl<|yT iR
   intro bK aK;refine yP [12] rfl ?_;have H:=H.trans aK;exact yI [] [3] rfl<|xV zO<|yN<|zT (ct N H)
 intro t3 I0 bi aN;refine zJ<|yZ ?_;obtain rfl:=zC aN;exact wV
def mA(list:(List zA))(aa:Int):Option (Bool):=do
 let t4<-(do
  let y<-xS (list.length:Int) 1 2
  if y then
   let y1<-xH list (λx0=>sY x0 aa)
   pure (!y1)
  else
   pure false
    : Option Bool)
 pure (id t4)
theorem zAm:∀list aa r,mA list aa=some r->∀{I:Imm}{p c},(S4 I p list c)->RT 123 [vS p list c,vI aa] I [] (zS  r):=by
 intro list aa r N I p c h;unfold mA at N;refine yJ func123 λB=>?_;have H:=iS I;refine yE<|uH [vI aa] ?_;intro b hb;refine xM 0 rfl ?_;intro I0 le hl0;have ap:At I0 ⟨b,0,none⟩ [vI aa]:=At.of_blk hl0;have ⟨h,H⟩:=m2 le h H;refine wG [] []<|zJ<|yA ?_;refine wE N [] (λt4=>[(4,.bool t4)]) (λo0 aB=>?_) ?_
 ·have H:=iS I0;refine zK<|yF 2 [] [6] rfl ?_;obtain⟨y,hy,N⟩:=zB aB;refine vV (xY (list.length:Int) 1 2 _ hy ) ?_;intro aQ af;have ⟨h,ap,H⟩:=m3 af h ap H;refine yF 4 [] [8] rfl<|xW [8] N ?_ ?_
  ·intro hc N;refine yF 6 [] [9,10] rfl ?_;have hf0:FV1 Tryz.prog aQ [] (.func (.func 162) ⟨[]⟩ ⟨[vP b 0]⟩) (λx0=>sY x0 aa):=by
    refine FV1.intro ?_;intro I1 af x0 r u0 hF k0;obtain⟨_,rfl,k0⟩:=k0;obtain⟨p1,c1,rfl,h2⟩:=yO k0;exact(zCv x0 aa r hF h2 (ap.mono af)).mono (by rintro k i hs u ⟨v0,rfl,rfl,h⟩;exact⟨rfl,h⟩)
   obtain⟨y1,ay,N⟩:=zB N;refine xO (rE list (λx0=>sY x0 aa) _ ay h hf0) ?_;rintro bz ax v2 k2 aE - ⟨v02,rfl,rfl,rfl⟩ -;have H:=H.trans aE;exact yI [] [4] rfl<|yN<|zT (ct N H)
  intro hc N;exact wG [] [(4,vF)]<|yN<|zT (ct N H)
 intro t4 aU aK aN;refine zJ<|yZ ?_;obtain rfl:=zC aN;exact wV
def sV(nest:(List zE))(t7:Int):Option (Out Unit (Bool)):=do
 if(decide (t7<(nest.length:Int))) then
  let x<-idx nest t7
  let t23<-(do
   let y<-mA x.Lo t7
   if(!y) then
    pure true
   else
    let y1<-mA x.Hi t7
    pure (!y1)
     : Option Bool)
  if t23 then
   pure (.ret false)
  else
   sV nest (W (t7+1))
 else
  pure (.done ())
 partial_fixpoint
theorem zBn(nest:(List zE)):∀(t7:Int) (o:Out Unit (Bool)),sV nest t7=some o->∀{B}{I0 I:Imm}{Q p c},I0.le I->(S4 I p nest c)->NG Q->NO Q->(∀(I':Imm) ,o=(.done ())->I0.le I'->T 28 B Q (.exit 0) I' [] [(0,vS p nest c)])->(∀r I' ah m',o=(.ret r)->I0.le I'->RS Tryz.prog f85 B (zS  r) I' ah m'->T 28 B Q .ret I' ah m')->J Tryz.prog 28 B (nav (bodyOf f85) [1,0,1,0]) Q I [] [(0,vS p nest c),(5,vS p nest c),(6,vI (nest.length:Int)),(7,vI t7)]:=by
 refine sV.partial_correctness nest _ λaI ih t7 o N B I0 I Q p c H h hg ho hx hr=>yR hg ho<|yG [8] rfl<|zZ<|yD N ?_ ?_
 ·intro hc N;refine zU<|zZ<|yH<|yE<|yF 1 [] [9] rfl<|bE N λx hy N=>xN rfl rfl h hy ?_;intro ad aL ap al;obtain⟨p1,c1,p2,c2,rfl,h1,h2⟩:=rG al;refine xE 0 ap (cLoop x p1 c1 p2 c2) (vA (cLoop x p1 c1 p2 c2)) rfl<|uB zTwo ?_;intro b hb;refine yF 5 [] [3] rfl<|xP 0 (cLoop x p1 c1 p2 c2) rfl<|yC rfl<|zJ<|yA ?_;refine wE N [] (λt23=>[(0,vS p nest c),(5,vS p nest c),(6,vI (nest.length:Int)),(7,vI t7),(23,.bool t23)]) (λo0 aB=>?_) ?_
  ·have H:=iS I;refine zK<|yF 3 [0] [13,14] rfl ?_;obtain⟨y,ay,N⟩:=zB aB;refine vV (zAm x.Lo t7 _ ay h1) ?_;intro aU le;have ⟨h2,H⟩:=m2 le h2 H;refine yF 6 [] [17] rfl<|xW [17] N ?_ ?_
   ·intro aF N;exact wG [] [(23,vY)]<|xV zO<|yN<|zT (ct N H)
   intro aF N;refine yF 9 [0] [19,20] rfl<|bE N λy1 aJ N=>vV (zAm x.Hi t7 _ aJ h2) ?_;intro aQ af;have H:=H.trans af;exact yI [] [23] rfl<|xV zO<|yN<|zT (ct N H)
  intro t23 I0 aE aN;have ⟨h,H⟩:=m2 aE h H;refine zJ<|yD aN ?_ ?_
  ·intro bd N;exact vK [(2,vF)]<|xF<|zV<|zH<|zH<|hr _ _ _ _ (zC N).symm H ⟨_,_,(.tmp rfl ResV.nil),zO,⟨_,rfl,rfl,rfl⟩⟩
  intro bd N;exact zU<|zP<|zJ<|zK<|yI [] [7] rfl<|yS<|nU<|ih (W (t7+1)) _ N H h hg ho hx hr
 intro hc N;exact wZ<|yN<|hx _  (zC N).symm H
def kM(nest:(List zE)):Option (Bool):=do
 match<-sV nest 0 with
 | .ret r0=>pure r0
 | .done _=>
  pure (decide ((nest.length:Int)<=4))
theorem zDm:∀nest r,kM nest=some r->∀{I:Imm}{p c},(S4 I p nest c)->RT 85 [vS p nest c] I [] (zS  r):=by
 intro nest r N I p c h;unfold kM at N;refine yJ func85 λB=>vK []<|zZ<|yG [5,6,7] rfl<|wC<|oA [(0,vS p nest c),(5,vS p nest c),(6,vI (nest.length:Int)),(7,vI 0)] ?_;obtain⟨aM,aA,aH⟩:=zB N;refine zBn nest 0 aM aA iR h (λ_ _ _ h=>h) (λ_ _ h=>h) ?_ ?_
 ·intro bz  heq1 aK;subst aM;refine zR<|wW [2] rfl<|zJ<|yZ ?_;obtain rfl:=zC aH;exact wV
 intro r0 I9 hs9 m9 aR le9 aS;subst aR;refine zV<|zH ?_;obtain rfl:=zC aH;exact xC aS
def zAK(r:List Int):KT:=λkk I' ah v=>
 ∃a0 c0 s0,ah=[.osl (.slice a0 r.length c0) (Rp.sz Int) s0]/\v=tupV [(.slice a0 r.length c0)]/\RepL (Rp.rep I') (Rp.sz Int) s0 r
def sR(s:List Int):Option (List Int):=app 8 ([]:List Int) s
theorem kN:∀s r,sR s=some r->∀{I:Imm}{p c},SL I (vS p s c) s->RT 52 [vS p s c] I [] (zAK r):=by
 intro s r N I p c h;unfold sR at N;obtain⟨aL,k0,k01⟩:=h;refine yJ func52 λB=>?_;cases p with
 | none=>
  have hs:s=[]:=by
   rcases k0 with⟨hv,rfl⟩|⟨b0,off,len,cap,cc,hv,k2⟩
   ·cases s with
    | nil=>rfl
    | cons _ _=>simp at hv
   simp at hv
  subst hs;obtain⟨_,rfl⟩:=zA9 N;refine yG [0,2] rfl<|zZ<|yE<|yF 1 [] [3] rfl<|zNo true rfl rfl ?_ rfl;exact wG [] [(4,vY)]<|zJ<|zB6 rfl<|vK [(2,z0)]<|xF<|zH<|xV (zB7 (Rp.sz Int))<|xC ⟨_,_,(.tmp rfl ResV.nil),(zW [0] rfl (by decide)),⟨none,0,[],rfl,rfl,rfl⟩⟩
 | some ad=>
  refine yG [0,2] rfl<|zZ<|yE<|yF 1 [] [3] rfl<|zNo false rfl rfl ?_ rfl;refine yI [] [0,4] rfl<|zJ<|dJ rfl<|zU<|xA<|tU [] Int ?_;intro b2 hb2;have h1:RL I [] ([]:List Int):=rfl;exact yF 2 [] [6] rfl<|pC 3 1 0 rfl rfl rfl h1 (.inl k0) k01 N λp1 c1 cs h2=>yI [] [2] rfl<|xF<|xC ⟨_,_,(.tmp rfl ResV.nil),(zW [0] rfl (by decide)),⟨_,_,_,rfl,rfl,h2⟩⟩
def tQ(a0:zA)(ag:(List Int))(sum:Int)(t12:Int):Option (Int):=do
 if(decide (t12<(ag.length:Int))) then
  let x<-idx ag t12
  let x1<-idx a0.Coefs t12
  tQ a0 ag (W (sum+(W (x1*x)))) (W (t12+1))
 else
  pure (id sum)
 partial_fixpoint
theorem zBF(a0:zA)(ag:(List Int)):∀(sum:Int) (t12:Int) (o:Int),tQ a0 ag sum t12=some o->∀{B}{I0 I:Imm}{Q p c p1 c1}{b:Nat},I0.le I->(S4 I p1 ag c1)->(S4 I p a0.Coefs c)->NG Q->NO Q->(∀(I':Imm) (sum1:Int),o=sum1->I0.le I'->T 28 B Q (.exit 0) I' [] [(5,vI sum1)])->J Tryz.prog 28 B (nav (bodyOf f133) [1,1,0,1,0]) Q I [hB b (cAff a0 p c)] [(2,vP b 0),(5,vI sum),(10,vS p1 ag c1),(11,vI (ag.length:Int)),(12,vI t12)]:=by
 refine tQ.partial_correctness a0 ag _ λaI ih sum t12 o N B I0 I Q p c p1 c1 b H h1 h hg ho hx=>yR hg ho<|yG [13] rfl<|zZ<|yD N ?_ ?_
 ·intro hc N;refine zU<|zZ<|yH<|yE<|yF 1 [] [14] rfl<|bE N λx hy N=>xN rfl rfl h1 hy ?_;intro ad aL ap al;obtain rfl:=al;refine xE 0 ap [vI x] (vI x) rfl<|yI [] [6,7] rfl<|zJ<|zK<|yF 4 [0] [17,19,20] rfl<|bE N λx1 ay N=>xN rfl rfl h ay ?_;intro ad1 bv ar az;obtain rfl:=az;exact xE 0 ar [vI x1] (vI x1) rfl<|yI [] [5] rfl<|zP<|zJ<|zK<|yI [] [12] rfl<|yS<|nU<|ih (W (sum+(W (x1*x)))) (W (t12+1)) _ N H h1 h hg ho hx
 intro hc N;exact wZ<|xV zO<|yN<|hx _ _ (zC N).symm H
def tE(a0:zA)(ag:(List Int)):Option (Int):=do
 let sum1<-tQ a0 ag a0.Const 0
 pure (id sum1)
theorem nD:∀a0 ag r,tE a0 ag=some r->∀{I:Imm}{p c p1 c1},(S4 I p a0.Coefs c)->(S4 I p1 ag c1)->RT 133 [vA (cAff a0 p c),vS p1 ag c1] I [] (yQ  r):=by
 intro a0 ag r N I p c p1 c1 h h1;unfold tE at N;refine yJ func133 λB=>yE<|uH (cAff a0 p c) ?_;intro b hb;refine wG [] []<|xA<|yI [0] [5] rfl<|zZ<|yG [10,11,12] rfl<|wC<|oA [(2,vP b 0),(5,vI a0.Const),(10,vS p1 ag c1),(11,vI (ag.length:Int)),(12,vI 0)] ?_;obtain⟨o0,aB,aH⟩:=zB N;refine zBF a0 ag a0.Const 0 o0 aB iR h1 h (λ_ _ _ h=>h) (λ_ _ h=>h) ?_;intro I0 sum1 heq le;subst o0;refine zR<|wW [4] rfl<|zJ<|yZ ?_;obtain rfl:=zC aH;exact wV
def sW(l:zE)(ag:(List Int))(lo:Int)(t27:Int):Option (Int):=do
 if(decide (t27<(l.Lo.length:Int))) then
  let x2<-idx l.Lo t27
  let y2<-tE x2 ag
  sW l ag (if y2>lo then y2 else lo) (W (t27+1))
 else
  pure (id lo)
 partial_fixpoint
theorem zBo(l:zE)(ag:(List Int)):∀(lo:Int) (t27:Int) (o:Int),sW l ag lo t27=some o->∀{B}{I0 I:Imm}{Q}{y1:Int}{p c p1 c1 p2 c2}{b:Nat},I0.le I->(S4 I p2 ag c2)->(S4 I p l.Lo c)->(S4 I p1 l.Hi c1)->NG Q->NO Q->(∀(I':Imm) (lo1:Int),o=lo1->I0.le I'->T 52 B Q (.exit 0) I' [hB b (cLoop l p c p1 c1)] [(1,vS p2 ag c2),(2,vP b 0),(6,vI lo1),(7,vI y1)])->J Tryz.prog 52 B (nav (bodyOf f124) [1,1,0,1,0]) Q I [hB b (cLoop l p c p1 c1)] [(1,vS p2 ag c2),(2,vP b 0),(6,vI lo),(7,vI y1),(25,vS p l.Lo c),(26,vI (l.Lo.length:Int)),(27,vI t27)]:=by
 refine sW.partial_correctness l ag _ λaI ih lo t27 o N B I0 I Q y1 p c p1 c1 p2 c2 b H h2 h h1 hg ho hx=>yR hg ho<|yG [28] rfl<|zZ<|yD N ?_ ?_
 ·intro hc N;refine zU<|zZ<|yH<|yE<|bE N λx2 bt N=>xN rfl rfl h bt ?_;intro ad2 bM aP aW;obtain⟨p5,c5,rfl,h7⟩:=yO aW;refine xE 0 aP (cAff x2 p5 c5) (vA (cAff x2 p5 c5)) rfl<|uB [z0,vI 0] ?_;intro b1 hb1;refine xP 0 (cAff x2 p5 c5) rfl<|yC rfl<|zJ<|zK<|qA 3 [0] [(31,vI lo),(32,vA (cAff x2 p5 c5)),(33,vS p2 ag c2)]<|bE N λy2 bH N=>jE (nD x2 ag _ bH h7 h2) ?_;intro bz aK;have ⟨h2,h,h1,H⟩:=m4 aK h2 h h1 H;exact yI [] [6] rfl<|zP<|zJ<|zK<|yI [] [27] rfl<|yS<|jU (zW [1] rfl (by decide))<|nU<|ih (if y2>lo then y2 else lo) (W (t27+1)) _ N H h2 h h1 hg ho hx
 intro hc N;exact wZ<|yN<|hx _ _ (zC N).symm H
def sX(l:zE)(ag:(List Int))(hi:Int)(t40:Int):Option (Int):=do
 if(decide (t40<(l.Hi.length:Int))) then
  let x3<-idx l.Hi t40
  let y3<-tE x3 ag
  sX l ag (if y3<hi then y3 else hi) (W (t40+1))
 else
  pure (id hi)
 partial_fixpoint
theorem zBp(l:zE)(ag:(List Int)):∀(hi:Int) (t40:Int) (o:Int),sX l ag hi t40=some o->∀{B}{I0 I:Imm}{Q}{lo1:Int}{p1 c1 p2 c2},I0.le I->(S4 I p2 ag c2)->(S4 I p1 l.Hi c1)->NG Q->NO Q->(∀(I':Imm) (hi1:Int),o=hi1->I0.le I'->T 52 B Q (.exit 2) I' [] [(6,vI lo1),(7,vI hi1)])->J Tryz.prog 52 B (nav (bodyOf f124) [1,1,1,0,1,0]) Q I [] [(1,vS p2 ag c2),(6,vI lo1),(7,vI hi),(38,vS p1 l.Hi c1),(39,vI (l.Hi.length:Int)),(40,vI t40)]:=by
 refine sX.partial_correctness l ag _ λaI ih hi t40 o N B I0 I Q lo1 p1 c1 p2 c2 H h2 h1 hg ho hx=>yR hg ho<|yG [41] rfl<|zZ<|yD N ?_ ?_
 ·intro aF N;refine zU<|zZ<|yH<|yE<|bE N λx3 hy6 N=>xN rfl rfl h1 hy6 ?_;intro ad3 ccs3 hat3 bq;obtain⟨p6,c6,rfl,h9⟩:=yO bq;refine xE 0 hat3 (cAff x3 p6 c6) (vA (cAff x3 p6 c6)) rfl<|uB [z0,vI 0] ?_;intro b2 hb2;refine xP 0 (cAff x3 p6 c6) rfl<|yC rfl<|zJ<|zK<|qA 3 [0] [(44,vI hi),(45,vA (cAff x3 p6 c6)),(46,vS p2 ag c2)]<|bE N λy3 hy7 N=>jE (nD x3 ag _ hy7 h9 h2) ?_;intro bO bw;have ⟨h2,h1,H⟩:=m3 bw h2 h1 H;exact yI [] [7] rfl<|zP<|zJ<|zK<|yI [] [40] rfl<|yS<|jU zO<|nU<|ih (if y3<hi then y3 else hi) (W (t40+1)) _ N H h2 h1 hg ho hx
 intro aF N;exact wZ<|yN<|hx _ _ (zC N).symm H
def kO(l:zE)(ag:(List Int)):Option (Int×Int):=do
 let x<-idx l.Lo 0
 let y<-tE x ag
 let x1<-idx l.Hi 0
 let y1<-tE x1 ag
 let lo1<-sW l ag y 0
 let hi1<-sX l ag y1 0
 pure (lo1,hi1)
theorem zDn:∀l ag r,kO l ag=some r->∀{I:Imm}{p c p1 c1 p2 c2},(S4 I p l.Lo c)->(S4 I p1 l.Hi c1)->(S4 I p2 ag c2)->RT 124 [vA (cLoop l p c p1 c1),vS p2 ag c2] I [] (fN  r):=by
 intro l ag r N I p c p1 c1 p2 c2 h h1 h2;unfold kO at N;refine yJ func124 λB=>?_;have H:=iS I;refine yE<|uH (cLoop l p c p1 c1) ?_;intro b hb;refine wG [] []<|zJ<|yA ?_;obtain⟨x,hy,N⟩:=zB N;obtain⟨y,ay,N⟩:=zB N;obtain⟨x1,aJ,N⟩:=zB N;obtain⟨y1,bb,N⟩:=zB N;refine wX [.p (vP b 0) [],.p (vS p l.Lo c) [0],.x (ePAff x),.x (eVAff x),.p (vS p2 ag c2) [],.q (vI y),.p (vP b 1) [],.p (vS p1 l.Hi c1) [0],.x (ePAff x1),.x (eVAff x1),.p (vS p2 ag c2) [],.q (vI y1),.p (vI y) []] [[],[(0,false)],[(1,false)],[(2,false)],[],[(3,false),(4,false)],[],[(6,false)],[(7,false)],[(8,false)],[],[(9,false),(10,false)],[(5,false)]] [hB b (cLoop l p c p1 c1)] [] [(11,false),(12,false)] (zX [0]) ?_ ?_
 ·refine Op<|Op<|Ox ?_<|Ox ?_<|Op<|Oq ?_<|Op<|Op<|Ox ?_<|Ox ?_<|Op<|Oq ?_<|Op<|On
  ·intro I1 hf af;refine yP [13] rfl ?_;have h:=h.mono af;refine xN rfl rfl h hy ?_;intro ad aL ap al;obtain⟨p3,c3,rfl,h3⟩:=yO al;exact yK [] iR ⟨_,_,_,rfl,rfl,ap,h3⟩
  ·rintro I1 hf af _ _ ⟨ad,p3,c3,rfl,rfl,ap,h3⟩;exact yP [14] rfl<|xE 0 ap (cAff x p3 c3) (vA (cAff x p3 c3)) rfl<|yK [] iR ⟨_,_,rfl,rfl,h3⟩
  ·rintro I1 hf af _ _ ⟨p31,c31,rfl,rfl,h31⟩;refine yP [15,16] rfl ?_;have H:=iS I1;have h2:=h2.mono af;refine jE (nD x ag _ ay h31 h2) ?_;intro I0 le;have H:=H.trans le;exact yT H
  ·intro I1 hf af;refine yP [19] rfl ?_;have h1:=h1.mono af;refine xN rfl rfl h1 aJ ?_;intro ad1 bv ar az;obtain⟨p4,c4,rfl,h5⟩:=yO az;exact yK [] iR ⟨_,_,_,rfl,rfl,ar,h5⟩
  ·rintro I1 hf af _ _ ⟨ad1,p4,c4,rfl,rfl,ar,h5⟩;exact yP [20] rfl<|xE 0 ar (cAff x1 p4 c4) (vA (cAff x1 p4 c4)) rfl<|yK [] iR ⟨_,_,rfl,rfl,h5⟩
  rintro I1 hf af _ _ ⟨p41,c41,rfl,rfl,h51⟩;refine yP [21,22] rfl ?_;have H:=iS I1;have h2:=h2.mono af;refine jE (nD x1 ag _ bb h51 h2) ?_;intro aU af;have H:=H.trans af;exact yT H
 intro aQ aE;refine yP [1,2,6,23] rfl ?_;have ⟨h2,h,h1⟩:=m3 aE h2 h h1;refine yI [] [7] rfl<|zZ<|yE<|yI [0] [25,26,27] rfl<|wC<|oA [(1,vS p2 ag c2),(2,vP b 0),(6,vI y),(7,vI y1),(25,vS p l.Lo c),(26,vI (l.Lo.length:Int)),(27,vI 0)] ?_;obtain⟨o0,aB,aH⟩:=zB N;refine zBo l ag y 0 o0 aB iR h2 h h1 (λ_ _ _ h=>h) (λ_ _ h=>h) ?_;intro bK lo1 heq bi;subst o0;have ⟨h2,h,h1⟩:=m3 bi h2 h h1;refine zR<|zZ<|yE<|yI [0] [38,39,40] rfl<|wC<|jU (zX [] (ah:=[]))<|oA [(1,vS p2 ag c2),(6,vI lo1),(7,vI y1),(38,vS p1 l.Hi c1),(39,vI (l.Hi.length:Int)),(40,vI 0)] ?_;obtain⟨aM,aA,hMl1⟩:=zB aH;refine zBp l ag y1 0 aM aA iR h2 h1 (λ_ _ _ h=>h) (λ_ _ h=>h) ?_;intro I06 hi1 heq1 bD;subst aM;refine zR<|wW [4,5] rfl<|zJ<|yZ ?_;obtain rfl:=zC hMl1;exact xC ⟨_,_,(.tmp rfl (.tmp rfl ResV.nil)),zO,⟨_,_,rfl,rfl,rfl,rfl⟩⟩
def kZ(b0:Nat)(r:Bool×tT):KT:=λkk I' ah v=>
 ∃v0 x0_0 y0_0 x0_2 y0_2 z0_2,ah=[.blk b0 ⟨[.slice x0_0 r.2.nest.length y0_0,.int .i64 r.2.steps,.slice x0_2 r.2.out.length y0_2]⟩,.osl (.slice x0_2 r.2.out.length y0_2) (Rp.sz (List Int)) z0_2]/\v=tupV [v0]/\v0=.bool r.1/\SL I' (.slice x0_0 r.2.nest.length y0_0) r.2.nest/\RepL (Rp.rep I') (Rp.sz (List Int)) z0_2 r.2.out
mutual
def tN(w0:tT)(ag:(List Int)):Option (Bool×tT):=do
 if((ag.length:Int)==(w0.nest.length:Int)) then
  let y<-sR ag
  let l<-app 24 w0.out ([y]:List (List Int))
  pure ((decide ((l.length:Int)<=120)),(tT.mk w0.nest w0.steps l))
 else
  let x<-idx w0.nest (ag.length:Int)
  let (y2,y3)<-kO x ag
  match<-sS (same ag) (same y3) (same y2) w0.nest w0.steps w0.out with
  | .ret r0=>pure r0
  | .done (nest1,steps1,aj)=>
   pure (true,(tT.mk nest1 steps1 aj))
 partial_fixpoint
def sS(ag:(List Int))(y3:Int)(n0:Int)(nest:List zE)(steps:Int)(out:List (List Int)):Option (Out (List zE×Int×List (List Int)) (Bool×tT)):=do
 if(decide (n0<y3)) then
  let (t74,nest2,steps2,am)<-(do
   if(decide ((W ((W (steps+1))+1))>1200)) then
    pure (true,nest,(W (steps+1)),out)
   else
    let y4<-sR ag
    let l1<-app 8 y4 ([n0]:List Int)
    let (y6,y7)<-tN (tT.mk nest (W (steps+1)) out) (same l1)
    pure ((!y6),y7.nest,y7.steps,y7.out)
     : Option (Bool×List zE×Int×List (List Int)))
  if t74 then
   pure (.ret (false,(tT.mk nest2 steps2 am)))
  else
   sS (same ag) (same y3) (W (n0+1)) (same nest2) (same steps2) (same am)
 else
  pure (.done (nest,steps,out))
 partial_fixpoint
end
theorem zB0:(∀(w0:tT) (ag:(List Int)) r,tN w0 ag=some r->∀{I:Imm}{r0:Nat}{p c p1 c1 cs p2 c2},(S4 I p w0.nest c)->(RL I cs w0.out)->(S4 I p2 ag c2)->RT 86 [vP r0 0,vS p2 ag c2] I [hB r0 [vS p w0.nest c,vI w0.steps,vS p1 w0.out c1],hO (List Int) (vS p1 w0.out c1) cs] (kZ r0 r))/\(∀(ag:(List Int)) (y3:Int) (n0:Int) (nest:List zE) (steps:Int) (out:List (List Int)) o,sS ag y3 n0 nest steps out=some o->∀{B}{I0 I:Imm}{Q}  {r0:Nat}{p2 c2 p7 c7 p8 c8 aT},I0.le I->(S4 I p2 ag c2)->(S4 I p7 nest c7)->(RL I aT out)->NG Q->NO Q->(∀(I':Imm) (nest1:List zE) (steps1:Int) (aj:List (List Int)) (p9:Option Addr) (c9:Nat) (aZ:Option Addr) (bh:Nat) (br:List Value),o=(.done (nest1,steps1,aj))->I0.le I'->(S4 I' p9 nest1 c9)->(RL I' br aj)->T 75 B Q (.exit 0) I' [hB r0 [vS p9 nest1 c9,vI steps1,vS aZ aj bh],hO (List Int) (vS aZ aj bh) br] [])->(∀r I' ah m',o=(.ret r)->I0.le I'->RS Tryz.prog f86 B (kZ r0 r) I' ah m'->T 75 B Q .ret I' ah m')->J Tryz.prog 75 B (nav (bodyOf f86) [1,1,1,0,1,0]) Q I [hB r0 [vS p7 nest c7,vI steps,vS p8 out c8],hO (List Int) (vS p8 out c8) aT] [(0,vP r0 0),(1,vS p2 ag c2),(6,vI y3),(7,vI n0)]):=by
 refine tN.mutual_partial_correctness _ _ ?_ ?_
 ·intro F_impl_walking_walk_l1 ih_impl_walking_walk_l1 w0 ag r N I r0 p c p1 c1 cs p2 c2 h h1 h2;refine yJ func86 λB=>?_;have H:=iS I;refine vK []<|zZ<|yE<|yI [0] [15] rfl<|zJ<|yD N ?_ ?_
  ·intro hc N;refine yA ?_;obtain⟨y,hy,N⟩:=zB N;obtain⟨l,ay,N⟩:=zB N;refine wX [.p (vP r0 0) [],.p (vP r0 0) [],.p (vP r0 0) [],.p (vP r0 2) [],.p (vS p1 w0.out c1) [0],.p (vS p2 ag c2) [],.x (λI' v hx=>∃p3 c3 aC,v=vS p3 y c3/\hx=[hO Int (vS p3 y c3) aC]/\(RL I' aC y)),.x (λI' v hx=>∃b,v=vS (some ⟨b,0,none⟩) ([y]:List (List Int)) 1/\hx=[]/\(SL I' (vS (some ⟨b,0,none⟩) ([y]:List (List Int)) 1) ([y]:List (List Int)))),.x (λI' v hx=>∃p4 c4 aO,v=vS p4 l c4/\hx=[hO (List Int) (vS p4 l c4) aO]/\(RL I' aO l))] [[],[],[(1,false)],[(2,false)],[(3,false)],[],[(5,false)],[(6,true)],[(4,false),(7,false),(12,true)]] [hB r0 [vS p w0.nest c,vI w0.steps,vS p1 w0.out c1]] [[hO (List Int) (vS p1 w0.out c1) cs]] [(0,false),(8,true)] (zX [0,1]) ?_ ?_
   ·refine Op<|Op<|Op<|Op<|Op<|Op<|Ox ?_<|Ox ?_<|Ox ?_<|On
    ·intro I1 hf af;refine yP [21] rfl ?_;have H:=iS I1;have h2:=h2.mono af;refine xO (kN ag _ hy h2) ?_;rintro I0 ax v2 k2 le - ⟨p3,c3,aC,rfl,rfl,h3⟩ -;have H:=H.trans le;exact yK [hO Int (vS p3 y c3) aC] H ⟨_,_,_,rfl,rfl,h3⟩
    ·rintro I1 hf af _ _ ⟨p3,c3,aC,rfl,rfl,h3⟩;refine yP [22] rfl ?_;have H:=iS I1;refine xM 0 rfl ?_;intro aU af hl0;have h4:=SL.of_frozen hl0 af h3;have H:=H.trans af;refine nV (rc y ⟨_,rfl,h4⟩ rN) ?_;intro b aQ aE h6;have H:=H.trans aE;exact yK [] H ⟨_,rfl,rfl,h6⟩
    rintro I1 hf af _ _ ⟨rfl,rfl⟩ _ _ ⟨b,rfl,rfl,h6⟩ _ _ rfl;refine yP [20,23] rfl ?_;have h1:=iM af h1;obtain⟨aL,k0,k01⟩:=h6;have h6:SL I1 (vS (some ⟨b,0,none⟩) ([y]:List (List Int)) 1) ([y]:List (List Int)):=⟨_,k0,k01⟩;exact pC 28 1 0 rfl rfl rfl h1 (.inl k0) k01 ay λp4 c4 aO h7=>uW (ah:=(hO (List Int) (vS p4 l c4) aO::hB r0 [vS p w0.nest c,vI w0.steps,vS p1 w0.out c1]::hf)) rfl<|yK [hO (List Int) (vS p4 l c4) aO] iR ⟨_,_,_,rfl,rfl,h7⟩
   rintro bz aK _ _ ⟨rfl,rfl⟩ _ _ ⟨p4,c4,aO,rfl,rfl,h7⟩;refine yP [0,16,24] rfl ?_;have h:=h.mono aK;refine yF 11 [] [26] rfl<|xP 1 [vS p w0.nest c,vI w0.steps,vS p4 l c4] rfl<|yC rfl<|xA<|yI [1] [4] rfl<|xF<|zH ?_;obtain rfl:=zC N;exact xC ⟨_,_,(.tmp rfl ResV.nil),(zW [1,0] rfl (by decide)),⟨_,_,_,_,_,_,rfl,rfl,rfl,h,h7⟩⟩
  intro hc N;refine zU<|xA<|yF 6 [0] [37,39] rfl<|bE N λx aJ N=>xN rfl rfl h aJ ?_;intro ad bv ap al;obtain⟨p5,c5,p6,c6,rfl,h8,h9⟩:=rG al;refine xE 0 ap (cLoop x p5 c5 p6 c6) (vA (cLoop x p5 c5 p6 c6)) rfl<|yF 9 [] [42] rfl ?_;obtain⟨⟨y2,y3⟩,bb,N⟩:=zB N;refine xO (zDn x ag _ bb h8 h9 h2) ?_;rintro bK ax v2 k2 bi - ⟨v02,v03,rfl,rfl,rfl,rfl⟩ -;have ⟨h2,h,h1⟩:=m3 bi h2 h h1;refine yI [] [5,6] rfl<|zZ<|yG [7] rfl<|wC<|oA [(0,vP r0 0),(1,vS p2 ag c2),(6,vI y3),(7,vI y2)] ?_;obtain⟨aM,aA,aH⟩:=zB N;refine ih_impl_walking_walk_l1 ag y3 y2 w0.nest w0.steps w0.out aM aA iR h2 h h1 (λ_ _ _ h=>h) (λ_ _ h=>h) ?_ ?_
  ·intro I09 nest1 steps1 aj p9 c9 aZ bh br heq1 le9 h14 h15;subst aM;refine zR<|zHd [(4,vY)]<|zJ<|yZ ?_;obtain rfl:=zC aH;exact xC ⟨_,_,(.tmp rfl ResV.nil),(zW [0,1] rfl (by decide)),⟨_,_,_,_,_,_,rfl,rfl,rfl,h14,h15⟩⟩
  intro r0 I9 hs9 m9 aR le9 aS;subst aR;refine zV<|zH ?_;obtain rfl:=zC aH;exact xC aS
 intro F_impl_walking_walk F_impl_walking_walk_l1 ih_impl_walking_walk ih_impl_walking_walk_l1 ag y3 n0 nest steps out o N B I0 I Q r0 p2 c2 p7 c7 p8 c8 aT H h2 h12 h13 hg ho hx hr;refine yR hg ho<|yA<|yG [49] rfl<|zJ<|yD N ?_ ?_
 ·intro aF N;refine zU<|zZ<|yH<|yE<|yF 7 [0] [56,58] rfl<|xP 0 [vS p7 nest c7,vI (W (steps+1)),vS p8 out c8] rfl<|yC rfl<|zJ<|yA ?_;obtain⟨o0,aB,aN⟩:=zB N;refine pZ (λI' ah m'=>∃(t74:Bool) (nest2:List zE) (steps2:Int) (am:List (List Int)) (aV:Option Addr) (bj:Nat) (bB:Option Addr) (bo:Nat) (bC:List Value),o0=(t74,nest2,steps2,am)/\I.le I'/\(S4 I' aV nest2 bj)/\(RL I' bC am)/\ah=[hB r0 [vS aV nest2 bj,vI steps2,vS bB am bo],hO (List Int) (vS bB am bo) bC]/\m'=[(0,vP r0 0),(1,vS p2 ag c2),(6,vI y3),(7,vI n0),(74,.bool t74)]) ?_ ?_
  ·have H:=iS I;refine zK<|yF 7 [0] [65] rfl<|xW [65] aB ?_ ?_
   ·intro bd N;exact wG [] [(74,vY)]<|yN<|zT ⟨_,_,_,_,_,_,_,_,_,(zC N).symm,H,h12,h13,rfl,rfl⟩
   intro bd N;refine yF 9 [] [66,67] rfl<|bE N λy4 bt N=>xO (kN ag _ bt h2) ?_;rintro I06 ax v2 k2 bw - ⟨bm,bu,cs6,rfl,rfl,h18⟩ -;have ⟨h12,h13,H⟩:=m3 bw h12 h13 H;refine yF 11 [] [69] rfl<|tU [vI n0] Int ?_;intro b1 hb1;have h19:RL I06 [vI n0] ([n0]:List Int):=rI [n0];obtain⟨l1,bH,N⟩:=zB N;refine pC 3 1 1 rfl rfl rfl h18 (.inr ⟨0,rfl⟩) h19 bH λp14 c14 cs7 h20=>qE (zX [1,2,3] (ah:=[hO Int (vS p14 l1 c14) cs7,hB r0 [vS p7 nest c7,vI (W (steps+1)),vS p8 out c8],hO (List Int) (vS p8 out c8) aT]))<|xM 0 rfl ?_;intro I07 bD hl02;have h21:=SL.of_frozen hl02 bD h20;have ⟨h12,h13,H⟩:=m3 bD h12 h13 H;obtain⟨⟨y6,y7⟩,hy6,N⟩:=zB N;refine rC (ih_impl_walking_walk (tT.mk nest (W (steps+1)) out) l1 _ hy6 h12 h13 h21) rfl ?_;rintro I08 ax v2 k2 le7 - ⟨v04,p15,c15,p16,c16,cs8,rfl,rfl,rfl,h23,h24⟩ -;have H:=H.trans le7;exact yI [] [74] rfl<|yN<|zT ⟨_,_,_,_,_,_,_,_,_,(zC N).symm,H,h23,h24,rfl,rfl⟩
  rintro bO ax m2 ⟨t74,nest2,steps2,am,aV,bj,bB,bo,bC,heq,le8,h16,h17,rfl,rfl⟩;subst o0;have ⟨h2,H⟩:=m2 le8 h2 H;refine zJ<|yD aN ?_ ?_
  ·intro bI N;exact vK [(4,vF)]<|xF<|zV<|zH<|zH<|hr _ _ _ _ (zC N).symm H ⟨_,_,(.tmp rfl ResV.nil),(zW [0,1] rfl (by decide)),⟨_,_,_,_,_,_,rfl,rfl,rfl,h16,h17⟩⟩
  intro bI N;exact zU<|zP<|zJ<|zK<|yI [] [7] rfl<|yS<|nU<|ih_impl_walking_walk_l1 ag y3 (W (n0+1)) nest2 steps2 am _ N H h2 h16 h17 hg ho hx hr
 intro aF N;exact wZ<|yN<|hx _ _ _ _ _ _ _ _ _ (zC N).symm H h12 h13
theorem zBq:∀w0 ag r,tN w0 ag=some r->∀{I:Imm}{r0:Nat}{p c p1 c1 cs p2 c2},(S4 I p w0.nest c)->(RL I cs w0.out)->(S4 I p2 ag c2)->RT 86 [vP r0 0,vS p2 ag c2] I [hB r0 [vS p w0.nest c,vI w0.steps,vS p1 w0.out c1],hO (List Int) (vS p1 w0.out c1) cs] (kZ r0 r):=zB0.1
def mI(nest:(List zE)):Option ((List (List Int))×Bool):=do
 let y<-kM nest
 if(!y) then
  pure (([]:List (List Int)),false)
 else
  let (y2,y3)<-tN (tT.mk nest 0 ([]:List (List Int))) ([]:List Int)
  if(!y2) then
   pure (([]:List (List Int)),false)
  else
   pure (y3.out,true)
theorem zCw:∀nest r,mI nest=some r->∀{I:Imm}{p c},(S4 I p nest c)->RT 46 [vS p nest c] I [] (eQ  r):=by
 intro nest r N I p c h;unfold mI at N;refine yJ func46 λB=>vK []<|zZ<|yE<|yF 1 [] [5] rfl<|bE N λy hy N=>vV (zDm nest _ hy h) ?_;intro I0 le;have h:=h.mono le;refine yI [] [7] rfl<|zJ<|yD N ?_ ?_
 ·intro hc N;refine yG [2,3] rfl<|xF<|zH ?_;obtain rfl:=zC N;exact xC ⟨_,_,(.tmp rfl (.tmp rfl ResV.nil)),zO,⟨_,_,rfl,rfl,(SL.nil _),rfl⟩⟩
 intro hc N;refine zU<|xA<|yF 2 [] [9] rfl<|uH [vS p nest c,vI 0,z0] ?_;intro b hb;refine yI [] [4] rfl<|zZ<|yE<|yF 1 [] [11] rfl<|zNx (List Int) λh2=>?_;refine qE (zX [1,0] (ah:=[hB b [vS p nest c,vI 0,vS none ([]:List (List Int)) 0],hO (List Int) (vS none ([]:List (List Int)) 0) []])) ?_;obtain⟨⟨y2,y3⟩,ay,N⟩:=zB N;refine rC (zBq (tT.mk nest 0 ([]:List (List Int))) ([]:List Int) _ ay h h2 (SL.nil _)) rfl ?_;rintro aU ax v2 k2 af - ⟨v01,p1,c1,p2,c2,cs,rfl,rfl,rfl,h4,h5⟩ -;refine yI [] [13] rfl<|zJ<|yD N ?_ ?_
 ·intro aF N;refine yG [2,3] rfl<|xF<|zH ?_;obtain rfl:=zC N;exact xC ⟨_,_,(.tmp rfl (.tmp rfl ResV.nil)),zO,⟨_,_,rfl,rfl,(SL.nil _),rfl⟩⟩
 intro aF N;refine zU<|xA<|yI [0] [2,3] rfl<|xF<|xB 1 rfl ?_;intro aQ aE hl0;have h6:=SL.of_frozen hl0 aE h5;obtain rfl:=zC N;exact xC ⟨_,_,(.tmp rfl (.tmp rfl ResV.nil)),zO,⟨_,_,rfl,rfl,h6,rfl⟩⟩
def qX(aY:List HA)(r:Int):KT:=λkk I' ah v=>
 ∃v0,aY=ah/\v=tupV [v0]/\v0=.int .i64 r
def xD(s:(List zQ))(f0:(zQ->Option Bool))(t8:Int):Option (Out Unit (Int)):=do
 if(decide (t8<(s.length:Int))) then
  let x<-idx s t8
  let y<-f0 x
  if y then
   pure (.ret t8)
  else
   xD s f0 (W (t8+1))
 else
  pure (.done ())
 partial_fixpoint
theorem jA(s:(List zQ))(f0:(zQ->Option Bool)):∀(t8:Int) (o:Out Unit (Int)),xD s f0 t8=some o->∀{B}{I0 I:Imm}{Q p c}{fv:Value}{aY:List HA},I0.le I->(S4 I p s c)->(FV1 Tryz.prog I aY fv f0)->NG Q->NO Q->(∀(I':Imm) ,o=(.done ())->I0.le I'->T 19 B Q (.exit 0) I' aY [])->(∀r I' ah m',o=(.ret r)->I0.le I'->RS Tryz.prog f87 B (qX aY r) I' ah m'->T 19 B Q .ret I' ah m')->J Tryz.prog 19 B (nav (bodyOf f87) [1,0,1,0]) Q I aY [(0,vS p s c),(1,fv),(7,vI (s.length:Int)),(8,vI t8)]:=by
 refine xD.partial_correctness s f0 _ λaI ih t8 o N B I0 I Q p c fv aY H h h1 hg ho hx hr=>yR hg ho<|yG [9] rfl<|zZ<|yD N ?_ ?_
 ·intro hc N;refine zU<|zZ<|yH<|yG [5] rfl<|xA<|yF 3 [] [11,12,13] rfl<|bE N λx hy N=>xN rfl rfl h hy ?_;intro ad aL ap al;obtain⟨p1,c1,p2,c2,p3,c3,p4,c4,rfl,h2,h3,h4,h5⟩:=qF al;refine xE 0 ap (cStmt x p1 c1 p2 c2 p3 c3 p4 c4) (vA (cStmt x p1 c1 p2 c2 p3 c3 p4 c4)) rfl<|bE N λy ay N=>zIZ rfl rfl h1 ay ⟨_,rfl,(wY ⟨_,_,_,_,rfl,h2,h3,h4,h5⟩)⟩ (cu _).symm ?_;rintro I0 v04 le rfl;refine uW (ah:=aY) (cu _) ?_;have ⟨h,h1,H⟩:=m3 le h h1 H;refine yC rfl<|zJ<|yD N ?_ ?_
  ·intro aF N;exact yG [4] rfl<|xF<|zV<|zH<|zH<|hr _ _ _ _ (zC N).symm H ⟨_,_,(.tmp rfl ResV.nil),(λ_ h=>h),⟨_,rfl,rfl,rfl⟩⟩
  intro aF N;exact zU<|zP<|zJ<|zK<|yI [] [8] rfl<|yS<|nU<|ih (W (t8+1)) _ N H h h1 hg ho hx hr
 intro hc N;exact wZ<|yN<|hx _  (zC N).symm H
def vQ(s:(List zQ))(f0:(zQ->Option Bool)):Option (Int):=do
 match<-xD s f0 0 with
 | .ret r0=>pure r0
 | .done _=>
  pure (-1)
theorem jS:∀s f0 r,vQ s f0=some r->∀{I:Imm}{p c}{fv:Value}{aY:List HA},(S4 I p s c)->(FV1 Tryz.prog I aY fv f0)->RT 87 [vS p s c,fv] I aY (qX aY r):=by
 intro s f0 r N I p c fv aY h h1;unfold vQ at N;refine yJ func87 λB=>vK []<|zZ<|yG [7,8] rfl<|wC<|oA [(0,vS p s c),(1,fv),(7,vI (s.length:Int)),(8,vI 0)] ?_;obtain⟨o0,aB,aH⟩:=zB N;refine jA s f0 0 o0 aB iR h h1 (λ_ _ _ h=>h) (λ_ _ h=>h) ?_ ?_
 ·intro aU  heq af;subst o0;refine zR<|wW [4] rfl<|zJ<|yZ ?_;obtain rfl:=zC aH;exact xC ⟨_,_,(.tmp rfl ResV.nil),(λ_ h=>h),⟨_,rfl,rfl,rfl⟩⟩
 intro r0 I9 hs9 m9 aR le9 aS;subst aR;refine zV<|zH ?_;obtain rfl:=zC aH;exact xC aS
def kP(aY:List HA)(r:Bool):KT:=λkk I' ah v=>
 ∃v0,aY=ah/\v=tupV [v0]/\v0=.bool r
def xU(s:(List zQ))(f0:(zQ->Option Bool)):Option (Bool):=do
 let y<-vQ s f0
 pure (decide (y>=0))
theorem jB:∀s f0 r,xU s f0=some r->∀{I:Imm}{p c}{fv:Value}{aY:List HA},(S4 I p s c)->(FV1 Tryz.prog I aY fv f0)->RT 47 [vS p s c,fv] I aY (kP aY r):=by
 intro s f0 r N I p c fv aY h h1;unfold xU at N;refine yJ func47 λB=>vK []<|xA<|yF 2 [] [5,6] rfl<|bE N λy hy N=>zEG (hs1:=aY) (rest:=[]) rfl rfl rfl rfl (by kernel_rfl) rfl (cu _).symm (jS s f0 _ hy h h1) ?_;rintro I0 ax v2 k2 le - ⟨v0,rfl,rfl,rfl⟩ -;refine uW (ah:=aY) (cu _) ?_;refine yI [] [4] rfl<|zJ<|yZ ?_;obtain rfl:=zC N;exact xC ⟨_,_,(.tmp rfl ResV.nil),(λ_ h=>h),⟨_,rfl,rfl,rfl⟩⟩
def qP(s:zA)(x:Int):Option (Bool):=do
 let t3<-(do
  let y<-rP s
  if(!y) then
   pure true
  else
   let y1<-sU s
   pure (decide (y1>x))
    : Option Bool)
 pure (id t3)
theorem zCx:∀s x r,qP s x=some r->∀{I:Imm}{p c}{ad:Addr},(S4 I p s.Coefs c)->(At I ad [vI x])->RT 126 [vA (cAff s p c),.pointer (some ad)] I [] (zS  r):=by
 intro s x r N I p c ad h ap;unfold qP at N;refine yJ func126 λB=>?_;have H:=iS I;refine yE<|uH (cAff s p c) ?_;intro b hb;refine wG [] []<|zJ<|yA ?_;refine wE N [] (λt3=>[(3,.bool t3)]) (λo0 aB=>?_) ?_
 ·have H:=iS I;obtain⟨y,hy,N⟩:=zB aB;cases hc:(!y) with
  | true=>
   have hM0:=rF hc N;refine wX [.p (vA (cAff s p c)) [0],.q (.bool y),.q vY,.q vY,.p undef [],.p undef [],.p undef [],.p undef [],.p vY []] [[],[(0,false)],[(1,false)],[(2,false)],[(3,false)],[(3,false),(4,false)],[(3,false)],[(3,false),(5,false),(6,false)],[(3,false),(7,false)]] [hB b (cAff s p c)] [] [(8,false)] (zX [0]) ?_ ?_
   ·refine Op<|Oq ?_<|Oq ?_<|Oq ?_<|Op<|Op<|Op<|Op<|Op<|On
    ·intro I1 hf af;refine yP [4] rfl ?_;have H:=iS I1;have h:=h.mono af;refine vV (nC s _ hy h) ?_;intro aU le;have H:=H.trans le;exact yT H
    ·intro I1 hf af;refine yP [5] rfl<|rS 3 [(6,.bool (!y))] ?_;rw[hc];exact yT iR
    intro I1 hf af;exact dE [(6,vY)]<|rS 4 [(7,vY)]<|yT iR
   intro aQ af;refine dE [(12,vY)] ?_;have H:=H.trans af;exact wG [] [(3,vY)]<|xV zO<|yN<|zT (ct hM0 H)
  | false=>
   have hM01:=sF hc N;obtain⟨y1,ay,N⟩:=zB hM01;refine wX [.p (vA (cAff s p c)) [0],.q (.bool y),.q vF,.q vF,.p (vA (cAff s p c)) [0],.q (vI y1),.q (vI x),.p (.bool (decide (y1>x))) [],.p (.bool (decide (y1>x))) []] [[],[(0,false)],[(1,false)],[(2,false)],[(3,false)],[(3,false),(4,false)],[(3,false)],[(3,false),(5,false),(6,false)],[(3,false),(7,false)]] [hB b (cAff s p c)] [] [(8,false)] (zX [0]) ?_ ?_
   ·refine Op<|Oq ?_<|Oq ?_<|Oq ?_<|Op<|Oq ?_<|Oq ?_<|Op<|Op<|On
    ·intro I1 hf af;refine yP [4] rfl ?_;have H:=iS I1;have h:=h.mono af;refine vV (nC s _ hy h) ?_;intro aU le;have H:=H.trans le;exact yT H
    ·intro I1 hf af;refine yP [5] rfl<|rS 3 [(6,.bool (!y))] ?_;rw[hc];exact yT iR
    ·intro I1 hf af;exact dE [(6,vF)]<|rS 4 [(7,vF)]<|yT iR
    ·intro I1 hf af;refine yP [7,8] rfl ?_;have H:=iS I1;have h:=h.mono af;refine jE (gE s _ ay h) ?_;intro bz aE;have H:=H.trans aE;exact yT H
    intro I1 hf af;refine yP [1,7] rfl ?_;have ap:=ap.mono af;exact xE 0 ap [vI x] (vI x) rfl<|yT iR
   intro bK aK;refine yP [12] rfl ?_;have H:=H.trans aK;exact yI [] [3] rfl<|xV zO<|yN<|zT (ct N H)
 intro t3 I0 bi aN;refine zJ<|yZ ?_;obtain rfl:=zC aN;exact wV
def mB(a0:zI)(aa:Int):Option (Bool):=do
 let t4<-(do
  let y<-kL a0.Array
  if y then
   let y1<-xS (a0.Subs.length:Int) 1 2
   if y1 then
    let y2<-xH a0.Subs (λx0=>qP x0 aa)
    pure (!y2)
   else
    pure false
  else
   pure false
    : Option Bool)
 pure (id t4)
theorem zAn:∀a0 aa r,mB a0 aa=some r->∀{I:Imm}{p c},(S4 I p a0.Subs c)->RT 88 [vA (cAccess a0 p c),vI aa] I [] (zS  r):=by
 intro a0 aa r N I p c h;unfold mB at N;refine yJ func88 λB=>?_;have H:=iS I;refine yE<|uH (cAccess a0 p c) ?_;intro b hb;refine uH [vI aa] ?_;intro b1 hb1;refine xM 0 rfl ?_;intro I0 le hl0;have ap:At I0 ⟨b1,0,none⟩ [vI aa]:=At.of_blk hl0;have ⟨h,H⟩:=m2 le h H;refine wG [] []<|zJ<|yA ?_;refine wE N [] (λt4=>[(4,.bool t4)]) (λo0 aB=>?_) ?_
 ·have H:=iS I0;refine zK<|yF 2 [0] [6] rfl ?_;obtain⟨y,hy,N⟩:=zB aB;refine vV (oV a0.Array _ hy ) ?_;intro aQ af;have ⟨ap,h,H⟩:=m3 af ap h H;refine yF 4 [] [8] rfl<|xW [8] N ?_ ?_
  ·intro hc N;refine yF 7 [0] [11] rfl<|bE N λy1 ay N=>vV (xY (a0.Subs.length:Int) 1 2 _ ay ) ?_;intro bz aE;have ⟨ap,h,H⟩:=m3 aE ap h H;refine yF 10 [] [14] rfl<|xW [14] N ?_ ?_
   ·intro aF N;refine yF 13 [0] [16,17] rfl ?_;have hf0:FV1 Tryz.prog bz [] (.func (.func 126) ⟨[]⟩ ⟨[vP b1 0]⟩) (λx0=>qP x0 aa):=by
     refine FV1.intro ?_;intro I1 af x0 r u0 hF k0;obtain⟨_,rfl,k0⟩:=k0;obtain⟨p1,c1,rfl,h3⟩:=yO k0;exact(zCx x0 aa r hF h3 (ap.mono af)).mono (by rintro k i hs u ⟨v0,rfl,rfl,h⟩;exact⟨rfl,h⟩)
    obtain⟨y2,aJ,N⟩:=zB N;refine xO (rE a0.Subs (λx0=>qP x0 aa) _ aJ h hf0) ?_;rintro bK ax v2 k2 aK - ⟨v03,rfl,rfl,rfl⟩ -;have H:=H.trans aK;exact yI [] [4] rfl<|xV zO<|yN<|zT (ct N H)
   intro aF N;exact wG [] [(4,vF)]<|xV zO<|yN<|zT (ct N H)
  intro hc N;exact wG [] [(4,vF)]<|xV zO<|yN<|zT (ct N H)
 intro t4 aU bi aN;refine zJ<|yZ ?_;obtain rfl:=zC aN;exact wV
def mC(a0:zA):Option (Bool):=do
 let t2<-(do
  if((a0.Coefs.length:Int)==0) then
   pure (a0.Const==0)
  else
   pure false
    : Option Bool)
 pure (id t2)
theorem zAo:∀a0 r,mC a0=some r->∀{I:Imm}{p c},(S4 I p a0.Coefs c)->RT 129 [vA (cAff a0 p c)] I [] (zS  r):=by
 intro a0 r N I p c h;unfold mC at N;refine yJ func129 λB=>?_;have H:=iS I;refine yE<|uH (cAff a0 p c) ?_;intro b hb;refine wG [] []<|zJ<|yA ?_;refine wE N [] (λt2=>[(2,.bool t2)]) (λo0 aB=>?_) ?_
 ·have H:=iS I;refine zK<|yF 5 [0] [7] rfl<|xW [7] aB ?_ ?_
  ·intro hc N;exact yI [0] [2] rfl<|xV zO<|yN<|zT (ct N H)
  intro hc N;exact wG [] [(2,vF)]<|xV zO<|yN<|zT (ct N H)
 intro t2 I0 le aN;refine zJ<|yZ ?_;obtain rfl:=zC aN;exact wV
def qY(a0:zI):Option (Bool):=do
 let t2<-(do
  if(a0.Array.l==([]:List UInt8)) then
   pure ((a0.Subs.length:Int)==0)
  else
   pure false
    : Option Bool)
 pure (id t2)
theorem gO:∀a0 r,qY a0=some r->∀{I:Imm}{p c},(S4 I p a0.Subs c)->RT 130 [vA (cAccess a0 p c)] I [] (zS  r):=by
 intro a0 r N I p c h;unfold qY at N;refine yJ func130 λB=>?_;have H:=iS I;refine yE<|uH (cAccess a0 p c) ?_;intro b hb;refine wG [] []<|zJ<|yA ?_;refine wE N [] (λt2=>[(2,.bool t2)]) (λo0 aB=>?_) ?_
 ·have H:=iS I;refine zK<|yF 4 [0] [6] rfl<|xW [6] aB ?_ ?_
  ·intro hc N;exact yI [0] [2] rfl<|xV zO<|yN<|zT (ct N H)
  intro hc N;exact wG [] [(2,vF)]<|xV zO<|yN<|zT (ct N H)
 intro t2 I0 le aN;refine zJ<|yZ ?_;obtain rfl:=zC aN;exact wV
def eV(kind:Int):Option (Bool):=do
 let y<-xS kind 4 6
 pure (id y)
theorem zHi:∀kind r,eV kind=some r->∀{I:Imm} ,RT 131 [vI kind] I [] (zS  r):=by
 intro kind r N I;unfold eV at N;refine yJ func131 λB=>vK []<|xA<|yF 1 [] [3] rfl<|bE N λy hy N=>vV (xY kind 4 6 _ hy ) λI0 le=>wG [] [(2,.bool y)]<|zJ<|yZ ?_;obtain rfl:=zC N;exact wV
def zCy(b0:Nat)(r:Bool×Int):KT:=λkk I' ah v=>
 ∃v0 k0,ah=[.blk b0 ⟨k0⟩]/\v=tupV [v0]/\v0=.bool r.1/\Rp.rep I' k0 r.2
def uG(e0:zF)(aa:Int)(deep:Int)(count:Int):Option (Bool×Int):=do
 let t21<-(do
  if(decide ((W (count+1))>12)) then
   pure true
  else
   pure (decide (deep>5))
    : Option Bool)
 if t21 then
  pure (false,(W (count+1)))
 else
  let t51<-(do
   if(e0.Kind != 1) then
    if(e0.Num != 0) then
     pure true
    else
     if(e0.Kind != 2) then
      let y<-mC e0.Index
      if(!y) then
       pure true
      else
       if(e0.Kind != 3) then
        let y1<-qY e0.Read
        pure (!y1)
       else
        pure false
     else
      if(e0.Kind != 3) then
       let y2<-qY e0.Read
       pure (!y2)
      else
       pure false
   else
    if(e0.Kind != 2) then
     let y3<-mC e0.Index
     if(!y3) then
      pure true
     else
      if(e0.Kind != 3) then
       let y4<-qY e0.Read
       pure (!y4)
      else
       pure false
    else
     if(e0.Kind != 3) then
      let y5<-qY e0.Read
      pure (!y5)
     else
      pure false
     : Option Bool)
  if t51 then
   pure (false,(W (count+1)))
  else
   if(e0.Kind==1) then
    let t8<-(do
     let y6<-xS e0.Num 0 99
     if y6 then
      pure ((e0.Kids.length:Int)==0)
     else
      pure false
       : Option Bool)
    pure (t8,(W (count+1)))
   else
    if(e0.Kind==2) then
     let t81<-(do
      let y7<-rP e0.Index
      if y7 then
       let y8<-sU e0.Index
       if(decide (y8<=aa)) then
        pure ((e0.Kids.length:Int)==0)
       else
        pure false
      else
       pure false
        : Option Bool)
     pure (t81,(W (count+1)))
    else
     if(e0.Kind==3) then
      let t82<-(do
       let y9<-mB e0.Read aa
       if y9 then
        pure ((e0.Kids.length:Int)==0)
       else
        pure false
         : Option Bool)
      pure (t82,(W (count+1)))
     else
      let t99<-(do
       let y10<-eV e0.Kind
       if(!y10) then
        pure true
       else
        pure ((e0.Kids.length:Int) != 2)
         : Option Bool)
      if t99 then
       pure (false,(W (count+1)))
      else
       let (t83,x)<-(do
        let x1<-idx e0.Kids 0
        let (y12,y13)<-uG (same x1) (same aa) (W (deep+1)) (W (count+1))
        if y12 then
         let x2<-idx e0.Kids 1
         let (y15,y16)<-uG (same x2) (same aa) (W (deep+1)) (same y13)
         pure (y15,y16)
        else
         pure (false,y13)
          : Option (Bool×Int))
       pure (t83,x)
 partial_fixpoint
theorem zE9:∀e0 aa deep count r,uG e0 aa deep count=some r->∀{I:Imm}{p c p1 c1 p2 c2}{r0:Nat},(S4 I p e0.Index.Coefs c)->(S4 I p1 e0.Read.Subs c1)->(S4 I p2 e0.Kids c2)->RT 89 [vA (cExpr e0 p c p1 c1 p2 c2),vI aa,vI deep,vP r0 0] I [hB r0 [vI count]] (zCy r0 r):=by
 refine uG.partial_correctness _ λF_impl_exprScan ih_impl_exprScan e0 aa deep count r N I p c p1 c1 p2 c2 r0 h h1 h2=>yJ func89 λB=>?_;have H:=iS I;refine yE<|uH (cExpr e0 p c p1 c1 p2 c2) ?_;intro b hb;refine wG [] []<|xA<|yF 5 [1] [12,13] rfl<|xP 1 [vI (W (count+1))] rfl<|yC rfl<|zZ<|yA ?_;refine wE N [hB b (cExpr e0 p c p1 c1 p2 c2),hB r0 [vI (W (count+1))]] (λt21=>[(1,vI aa),(2,vI deep),(3,vP r0 0),(4,vP b 0),(21,.bool t21)]) (λo0 aB=>?_) ?_
 ·have H:=iS I;refine zK<|yF 5 [1] [18] rfl<|xW [18] aB ?_ ?_
  ·intro hc N;exact wG [] [(21,vY)]<|yN<|zT (ct N H)
  intro hc N;exact yI [] [21] rfl<|yN<|zT (ct N H)
 intro t21 I0 le aN;have ⟨h,h1,h2,H⟩:=m4 le h h1 h2 H;refine zJ<|yD aN ?_ ?_
 ·intro aF N;refine vK [(8,vF)]<|xF<|zH ?_;obtain rfl:=zC N;exact xC ⟨_,_,(.tmp rfl ResV.nil),(zW [1] rfl (by decide)),⟨_,_,rfl,rfl,rfl,rfl⟩⟩
 intro aF N;refine zU<|zZ<|yA ?_;refine wE N [hB b (cExpr e0 p c p1 c1 p2 c2),hB r0 [vI (W (count+1))]] (λt51=>[(1,vI aa),(2,vI deep),(3,vP r0 0),(4,vP b 0),(51,.bool t51)]) (λaM aA=>?_) ?_
 ·have H:=iS I0;refine zK<|yF 4 [0] [25] rfl<|xW [25] aA ?_ ?_
  ·intro bd N;refine yF 9 [0] [30] rfl<|xW [30] N ?_ ?_
   ·intro bI N;exact wG [] [(51,vY)]<|yN<|zT (ct N H)
   intro bI N;refine yF 13 [0] [34] rfl<|xW [34] N ?_ ?_
   ·intro bN N;refine qA 15 [0] [(36,vA (cAff e0.Index p c))]<|bE N λy hy N=>vV (zAo e0.Index _ hy h) ?_;intro aQ af;have ⟨h1,H⟩:=m2 af h1 H;refine yF 20 [] [41] rfl<|xW [41] N ?_ ?_
    ·intro hc5 N;exact wG [] [(51,vY)]<|yN<|zT (ct N H)
    intro hc5 N;refine yF 24 [0] [45] rfl<|xW [45] N ?_ ?_
    ·intro hc6 N;refine qA 26 [0] [(47,vA (cAccess e0.Read p1 c1))]<|bE N λy1 ay N=>vV (gO e0.Read _ ay h1) ?_;intro bz aE;have H:=H.trans aE;exact yI [] [51] rfl<|yN<|zT (ct N H)
    intro hc6 N;exact wG [] [(51,vF)]<|yN<|zT (ct N H)
   intro bN N;refine yF 24 [0] [41,45] rfl<|xW [45] N ?_ ?_
   ·intro hc7 N;refine qA 26 [0] [(47,vA (cAccess e0.Read p1 c1))]<|bE N λy2 aJ N=>vV (gO e0.Read _ aJ h1) ?_;intro bK aK;have H:=H.trans aK;exact yI [] [51] rfl<|yN<|zT (ct N H)
   intro hc7 N;exact wG [] [(51,vF)]<|yN<|zT (ct N H)
  intro bd N;refine yF 13 [0] [30,34] rfl<|xW [34] N ?_ ?_
  ·intro hc8 N;refine qA 15 [0] [(36,vA (cAff e0.Index p c))]<|bE N λy3 bb N=>vV (zAo e0.Index _ bb h) ?_;intro bO bi;have ⟨h1,H⟩:=m2 bi h1 H;refine yF 20 [] [41] rfl<|xW [41] N ?_ ?_
   ·intro hc9 N;exact wG [] [(51,vY)]<|yN<|zT (ct N H)
   intro hc9 N;refine yF 24 [0] [45] rfl<|xW [45] N ?_ ?_
   ·intro hc10 N;refine qA 26 [0] [(47,vA (cAccess e0.Read p1 c1))]<|bE N λy4 bt N=>vV (gO e0.Read _ bt h1) ?_;intro I06 bw;have H:=H.trans bw;exact yI [] [51] rfl<|yN<|zT (ct N H)
   intro hc10 N;exact wG [] [(51,vF)]<|yN<|zT (ct N H)
  intro hc8 N;refine yF 24 [0] [41,45] rfl<|xW [45] N ?_ ?_
  ·intro hc11 N;refine qA 26 [0] [(47,vA (cAccess e0.Read p1 c1))]<|bE N λy5 bH N=>vV (gO e0.Read _ bH h1) ?_;intro I07 bD;have H:=H.trans bD;exact yI [] [51] rfl<|yN<|zT (ct N H)
  intro hc11 N;exact wG [] [(51,vF)]<|yN<|zT (ct N H)
 intro t51 aU le7 hMc1;have ⟨h,h1,h2,H⟩:=m4 le7 h h1 h2 H;refine zJ<|yD hMc1 ?_ ?_
 ·intro hc12 N;refine vK [(8,vF)]<|xF<|zH ?_;obtain rfl:=zC N;exact xC ⟨_,_,(.tmp rfl ResV.nil),(zW [1] rfl (by decide)),⟨_,_,rfl,rfl,rfl,rfl⟩⟩
 intro hc12 N;refine zU<|zZ<|yH<|yE<|yI [0] [52] rfl<|zJ<|yD N ?_ ?_
 ·intro hc13 N;refine yA ?_;refine wE N [hB r0 [vI (W (count+1))]] (λt8=>[(8,.bool t8)]) (λo02 ho02=>?_) ?_
  ·have H:=iS aU;refine zK<|yF 2 [0] [57] rfl ?_;obtain⟨y6,hy6,N⟩:=zB ho02;refine vV (xY e0.Num 0 99 _ hy6 ) ?_;intro I09 le8;have H:=H.trans le8;refine yF 4 [] [59] rfl<|xW [59] N ?_ ?_
   ·intro hc14 N;exact yI [0] [8] rfl<|xV (zW [1] rfl (by decide))<|yN<|zT (ct N H)
   intro hc14 N;exact wG [] [(8,vF)]<|xV (zW [1] rfl (by decide))<|yN<|zT (ct N H)
  intro t8 I08 le9 hMc2;refine xF<|zV<|zH ?_;obtain rfl:=zC hMc2;exact xC ⟨_,_,(.tmp rfl ResV.nil),(zW [0] rfl (by decide)),⟨_,_,rfl,rfl,rfl,rfl⟩⟩
 intro hc13 N;refine yE<|yI [0] [65] rfl<|zJ<|yD N ?_ ?_
 ·intro hc15 N;refine yA ?_;refine wE N [hB r0 [vI (W (count+1))]] (λt81=>[(8,.bool t81)]) (λo03 ho03=>?_) ?_
  ·have H:=iS aU;refine zK<|qA 2 [0] [(70,vA (cAff e0.Index p c))] ?_;obtain⟨y7,hy7,N⟩:=zB ho03;refine vV (nC e0.Index _ hy7 h) ?_;intro bV le10;have ⟨h,H⟩:=m2 le10 h H;refine yF 4 [] [72] rfl<|xW [72] N ?_ ?_
   ·intro hc16 N;refine qA 6 [0] [(74,vA (cAff e0.Index p c))]<|bE N λy8 hy8 N=>jE (gE e0.Index _ hy8 h) ?_;intro bU le11;have H:=H.trans le11;refine yF 11 [] [79] rfl<|xW [79] N ?_ ?_
    ·intro hc17 N;exact yI [0] [8] rfl<|xV (zW [1] rfl (by decide))<|yN<|zT (ct N H)
    intro hc17 N;exact wG [] [(8,vF)]<|xV (zW [1] rfl (by decide))<|yN<|zT (ct N H)
   intro hc16 N;exact wG [] [(8,vF)]<|xV (zW [1] rfl (by decide))<|yN<|zT (ct N H)
  intro t81 bR le12 hMc3;refine xF<|zV<|zH ?_;obtain rfl:=zC hMc3;exact xC ⟨_,_,(.tmp rfl ResV.nil),(zW [0] rfl (by decide)),⟨_,_,rfl,rfl,rfl,rfl⟩⟩
 intro hc15 N;refine yE<|yI [0] [85] rfl<|zJ<|yD N ?_ ?_
 ·intro hc18 N;refine yA ?_;refine wE N [hB r0 [vI (W (count+1))]] (λt82=>[(8,.bool t82)]) (λo04 ho04=>?_) ?_
  ·have H:=iS aU;refine zK<|qA 3 [0] [(90,vA (cAccess e0.Read p1 c1)),(91,vI aa)] ?_;obtain⟨y9,hy9,N⟩:=zB ho04;refine vV (zAn e0.Read aa _ hy9 h1) ?_;intro I014 le13;have H:=H.trans le13;refine yF 5 [] [93] rfl<|xW [93] N ?_ ?_
   ·intro hc19 N;exact yI [0] [8] rfl<|xV (zW [1] rfl (by decide))<|yN<|zT (ct N H)
   intro hc19 N;exact wG [] [(8,vF)]<|xV (zW [1] rfl (by decide))<|yN<|zT (ct N H)
  intro t82 I013 le14 hMc4;refine xF<|zV<|zH ?_;obtain rfl:=zC hMc4;exact xC ⟨_,_,(.tmp rfl ResV.nil),(zW [0] rfl (by decide)),⟨_,_,rfl,rfl,rfl,rfl⟩⟩
 intro hc18 N;refine yA ?_;refine wE N [hB b (cExpr e0 p c p1 c1 p2 c2),hB r0 [vI (W (count+1))]] (λt99=>[(1,vI aa),(2,vI deep),(3,vP r0 0),(4,vP b 0),(99,.bool t99)]) (λo05 ho05=>?_) ?_
 ·have H:=iS aU;refine zK<|yF 2 [0] [101] rfl ?_;obtain⟨y10,hy10,N⟩:=zB ho05;refine vV (zHi e0.Kind _ hy10 ) ?_;intro I016 le15;have H:=H.trans le15;refine yF 5 [] [104] rfl<|xW [104] N ?_ ?_
  ·intro hc20 N;exact wG [] [(99,vY)]<|yN<|zT (ct N H)
  intro hc20 N;exact yI [0] [99] rfl<|yN<|zT (ct N H)
 intro t99 I015 le16 hMc5;have ⟨h2,H⟩:=m2 le16 h2 H;refine zJ<|yD hMc5 ?_ ?_
 ·intro hc21 N;refine vK [(8,vF)]<|xF<|zV<|zH ?_;obtain rfl:=zC N;exact xC ⟨_,_,(.tmp rfl ResV.nil),(zW [1] rfl (by decide)),⟨_,_,rfl,rfl,rfl,rfl⟩⟩
 intro hc21 N;refine zU<|zP<|zJ<|yA ?_;obtain⟨o06,ho06,hMc6⟩:=zB N;refine pZ (λI' ah m'=>∃(t83:Bool) (x:Int),o06=(t83,x)/\I015.le I'/\ah=[hB r0 [vI x]]/\m'=[(8,.bool t83)]) ?_ ?_
 ·have H:=iS I015;refine zK<|yF 2 [0] [111] rfl ?_;obtain⟨x1,hy11,N⟩:=zB ho06;refine xN rfl rfl h2 hy11 ?_;intro ad aL ap al;obtain⟨p3,c3,p4,c4,p5,c5,rfl,h14,h15,h16⟩:=tA al;refine xE 0 ap (cExpr x1 p3 c3 p4 c4 p5 c5) (vA (cExpr x1 p3 c3 p4 c4 p5 c5)) rfl<|yF 8 [] [114,116,117] rfl<|qE (zX [1,0] (ah:=[hB r0 [vI (W (count+1))],hB b (cExpr e0 p c p1 c1 p2 c2)])) ?_;obtain⟨⟨y12,y13⟩,hy12,N⟩:=zB N;refine rC (ih_impl_exprScan x1 aa (W (deep+1)) (W (count+1)) _ hy12 h14 h15 h16) rfl ?_;rintro I018 ax v2 k2 le17 - ⟨v014,kk,rfl,rfl,rfl,h18⟩ -;have ⟨h2,H⟩:=m2 le17 h2 H;obtain rfl:=h18;refine yF 10 [] [119] rfl<|xW [119] N ?_ ?_
  ·intro hc22 N;refine yF 12 [1] [121] rfl<|bE N λx2 hy13 N=>xN rfl rfl h2 hy13 ?_;intro ad1 bv ar az;obtain⟨p6,c6,p7,c7,p8,c8,rfl,h19,h20,h21⟩:=tA az;refine xE 0 ar (cExpr x2 p6 c6 p7 c7 p8 c8) (vA (cExpr x2 p6 c6 p7 c7 p8 c8)) rfl<|yF 18 [] [124,126,127] rfl ?_;obtain⟨⟨y15,y16⟩,hy14,N⟩:=zB N;refine rC (ih_impl_exprScan x2 aa (W (deep+1)) y13 _ hy14 h19 h20 h21) rfl ?_;rintro I019 ax v2 k2 le18 - ⟨v018,kk1,rfl,rfl,rfl,h23⟩ -;have H:=H.trans le18;obtain rfl:=h23;exact yI [] [8] rfl<|xV (zW [0] rfl (by decide))<|yN<|zT ⟨_,_,(zC N).symm,H,rfl,rfl⟩
  intro hc22 N;exact wG [] [(8,vF)]<|xV (zW [0] rfl (by decide))<|yN<|zT ⟨_,_,(zC N).symm,H,rfl,rfl⟩
 rintro I017 ax m2 ⟨t83,x,heq6,le19,rfl,rfl⟩;subst o06;refine zJ<|yZ ?_;obtain rfl:=zC hMc6;exact xC ⟨_,_,(.tmp rfl ResV.nil),(zW [0] rfl (by decide)),⟨_,_,rfl,rfl,rfl,rfl⟩⟩
def kQ(s:zQ)(aa:Int):Option (Bool):=do
 let t4<-(do
  let y<-xS aa 0 4
  if y then
   let y1<-mB s.Write aa
   if y1 then
    let (y3,y4)<-uG s.Value aa 1 0
    pure (id y3)
   else
    pure false
  else
   pure false
    : Option Bool)
 pure (id t4)
theorem zDo:∀s aa r,kQ s aa=some r->∀{I:Imm}{p c p1 c1 p2 c2 p3 c3},(S4 I p s.Write.Subs c)->(S4 I p1 s.Value.Index.Coefs c1)->(S4 I p2 s.Value.Read.Subs c2)->(S4 I p3 s.Value.Kids c3)->RT 49 [vA (cStmt s p c p1 c1 p2 c2 p3 c3),vI aa] I [] (zS  r):=by
 intro s aa r N I p c p1 c1 p2 c2 p3 c3 h h1 h2 h3;unfold kQ at N;refine yJ func49 λB=>?_;have H:=iS I;refine yE<|uH (cStmt s p c p1 c1 p2 c2 p3 c3) ?_;intro b hb;refine wG [] []<|xA<|uB [vI 0] ?_;intro b1 hb1;refine xP 0 [vI 0] rfl<|yC rfl<|zJ<|yA ?_;refine wE N [] (λt4=>[(4,.bool t4)]) (λo0 aB=>?_) ?_
 ·have H:=iS I;refine zK<|yF 1 [] [6] rfl ?_;obtain⟨y,hy,N⟩:=zB aB;refine vV (xY aa 0 4 _ hy ) ?_;intro aU le;have ⟨h,h1,h2,h3,H⟩:=m5 le h h1 h2 h3 H;refine yF 3 [] [8] rfl<|xW [8] N ?_ ?_
  ·intro hc N;refine qA 6 [1] [(10,vA (cAccess s.Write p c)),(11,vI aa)]<|bE N λy1 ay N=>vV (zAn s.Write aa _ ay h) ?_;intro aQ af;have ⟨h1,h2,h3,H⟩:=m4 af h1 h2 h3 H;refine yF 9 [] [14] rfl<|xW [14] N ?_ ?_
   ·intro aF N;refine qA 12 [1] [(16,vA (cExpr s.Value p1 c1 p2 c2 p3 c3)),(17,vI aa)] ?_;obtain⟨⟨y3,y4⟩,aJ,N⟩:=zB N;refine rC (zE9 s.Value aa 1 0 _ aJ h1 h2 h3) rfl ?_;rintro bz ax v2 k2 aE - ⟨v02,kk,rfl,rfl,rfl,h7⟩ -;have H:=H.trans aE;obtain rfl:=h7;exact yI [] [4] rfl<|xV zO<|yN<|zT (ct N H)
   intro aF N;exact wG [] [(4,vF)]<|xV zO<|yN<|zT (ct N H)
  intro hc N;exact wG [] [(4,vF)]<|xV zO<|yN<|zT (ct N H)
 intro t4 I0 aK aN;refine zJ<|yZ ?_;obtain rfl:=zC aN;exact wV
def vD(s:zQ)(x:zN):Option (Bool):=do
 let y<-kQ s (x.Nest.length:Int)
 pure (!y)
theorem dL:∀s x r,vD s x=some r->∀{I:Imm}{p c p1 c1 p2 c2 p3 c3}{ad:Addr}{p4 c4 p5 c5},(S4 I p s.Write.Subs c)->(S4 I p1 s.Value.Index.Coefs c1)->(S4 I p2 s.Value.Read.Subs c2)->(S4 I p3 s.Value.Kids c3)->(S4 I p4 x.Nest c4)->(S4 I p5 x.Body c5)->(At I ad (cPart x p4 c4 p5 c5))->RT 48 [vA (cStmt s p c p1 c1 p2 c2 p3 c3),.pointer (some ad)] I [] (zS  r):=by
 intro s x r N I p c p1 c1 p2 c2 p3 c3 ad p4 c4 p5 c5 h h1 h2 h3 h4 h5 ap;unfold vD at N;refine yJ func48 λB=>yE<|uH (cStmt s p c p1 c1 p2 c2 p3 c3) ?_;intro b hb;refine wG [] []<|xA<|qA 2 [0] [(4,vA (cStmt s p c p1 c1 p2 c2 p3 c3)),(5,.pointer (some ad))]<|xE 0 ap [vS p4 x.Nest c4] (vS p4 x.Nest c4) rfl<|yF 4 [] [7] rfl<|bE N λy hy N=>vV (zDo s (x.Nest.length:Int) _ hy h h1 h2 h3) λI0 le=>wG [] [(3,.bool (!y))]<|zJ<|yZ ?_;obtain rfl:=zC N;exact wV
def pU(n0:Int):Option (Bool):=do
 let y<-xS n0 (-9999) 9999
 pure (!y)
theorem zDp:∀n0 r,pU n0=some r->∀{I:Imm} ,RT 90 [vI n0] I [] (zS  r):=by
 intro n0 r N I;unfold pU at N;refine yJ func90 λB=>vK []<|xA<|yF 1 [] [3] rfl<|bE N λy hy N=>vV (xY n0 (-9999) 9999 _ hy ) λI0 le=>wG [] [(2,.bool (!y))]<|zJ<|yZ ?_;obtain rfl:=zC N;exact wV
def gF(ag:(List Int)):Option (Bool):=do
 let t2<-(do
  if(decide ((ag.length:Int)<=4)) then
   let y<-xK ag pU
   pure (!y)
  else
   pure false
    : Option Bool)
 pure (id t2)
theorem zFK:∀ag r,gF ag=some r->∀{I:Imm}{p c},(S4 I p ag c)->RT 50 [vS p ag c] I [] (zS  r):=by
 intro ag r N I p c h;unfold gF at N;refine yJ func50 λB=>?_;have H:=iS I;refine vK []<|zJ<|yA ?_;refine wE N [] (λt2=>[(2,.bool t2)]) (λo0 aB=>?_) ?_
 ·have H:=iS I;refine zK<|yF 4 [] [6] rfl<|xW [6] aB ?_ ?_
  ·intro hc N;refine yF 5 [] [7] rfl ?_;have hf0:FV1 Tryz.prog I [] (.func (.func 90) ⟨[]⟩ ⟨[]⟩) pU:=by
    refine FV1.intro ?_;intro I1 af x0 r u0 hF k0;obtain rfl:=k0;exact(zDp x0 r hF ).mono (by rintro k i hs u ⟨v0,rfl,rfl,h⟩;exact⟨rfl,h⟩)
   obtain⟨y,hy,N⟩:=zB N;refine xO (sQ ag pU _ hy h hf0) ?_;rintro aU ax v2 k2 le - ⟨v0,rfl,rfl,rfl⟩ -;have H:=H.trans le;exact yI [] [2] rfl<|yN<|zT (ct N H)
  intro hc N;exact wG [] [(2,vF)]<|yN<|zT (ct N H)
 intro t2 I0 af aN;refine zJ<|yZ ?_;obtain rfl:=zC aN;exact wV
def sC(a0:zG)(n0:Int)(t9:Int):Option (Int):=do
 if(decide (t9<(a0.Dims.length:Int))) then
  let x<-idx a0.Dims t9
  sC a0 (W (n0*x)) (W (t9+1))
 else
  pure (id n0)
 partial_fixpoint
theorem zB1(a0:zG):∀(n0:Int) (t9:Int) (o:Int),sC a0 n0 t9=some o->∀{B}{I0 I:Imm}{Q p c},I0.le I->(S4 I p a0.Dims c)->NG Q->NO Q->(∀(I':Imm) (n01:Int),o=n01->I0.le I'->T 18 B Q (.exit 0) I' [] [(3,vI n01)])->J Tryz.prog 18 B (nav (bodyOf f132) [1,1,0,1,0]) Q I [] [(3,vI n0),(7,vS p a0.Dims c),(8,vI (a0.Dims.length:Int)),(9,vI t9)]:=by
 refine sC.partial_correctness a0 _ λaI ih n0 t9 o N B I0 I Q p c H h hg ho hx=>yR hg ho<|yG [10] rfl<|zZ<|yD N ?_ ?_
 ·intro hc N;refine zU<|zZ<|yH<|yE<|bE N λx hy N=>xN rfl rfl h hy ?_;intro ad aL ap al;obtain rfl:=al;exact xE 0 ap [vI x] (vI x) rfl<|yI [] [5] rfl<|zJ<|zK<|yI [] [3] rfl<|zP<|zJ<|zK<|yI [] [9] rfl<|yS<|nU<|ih (W (n0*x)) (W (t9+1)) _ N H h hg ho hx
 intro hc N;exact wZ<|yN<|hx _ _ (zC N).symm H
def mJ(a0:zG):Option (Int):=do
 let n01<-sC a0 1 0
 pure (id n01)
theorem zCz:∀a0 r,mJ a0=some r->∀{I:Imm}{p c},(S4 I p a0.Dims c)->RT 132 [vA (cArr a0 p c)] I [] (yQ  r):=by
 intro a0 r N I p c h;unfold mJ at N;refine yJ func132 λB=>yE<|uH (cArr a0 p c) ?_;intro b hb;refine wG [] []<|wW [3] rfl<|zZ<|yE<|yI [0] [7,8,9] rfl<|wC<|jU (zX [] (ah:=[]))<|oA [(3,vI 1),(7,vS p a0.Dims c),(8,vI (a0.Dims.length:Int)),(9,vI 0)] ?_;obtain⟨o0,aB,aH⟩:=zB N;refine zB1 a0 1 0 o0 aB iR h (λ_ _ _ h=>h) (λ_ _ h=>h) ?_;intro I0 n01 heq le;subst o0;refine zR<|wW [2] rfl<|zJ<|yZ ?_;obtain rfl:=zC aH;exact wV
def tF(a0:zI)(ag:(List Int))(x:zG)(at0:Int)(t40:Int):Option (Out Int (Int)):=do
 if(decide (t40<(a0.Subs.length:Int))) then
  let x1<-idx a0.Subs t40
  let y1<-tE x1 ag
  let x2<-idx x.Dims t40
  let y2<-xS y1 0 (W (x2 - 1))
  if(!y2) then
   pure (.ret (-1))
  else
   let x3<-idx x.Dims t40
   tF a0 ag x (W ((W (at0*x3))+y1)) (W (t40+1))
 else
  pure (.done at0)
 partial_fixpoint
theorem zAp(a0:zI)(ag:(List Int))(x:zG):∀(at0:Int) (t40:Int) (o:Out Int (Int)),tF a0 ag x at0 t40=some o->∀{B}{I0 I:Imm}{Q}{first:Int}{p3 c2 p4 c3 p5 c4}{b2:Nat},I0.le I->(S4 I p4 ag c3)->(S4 I p3 a0.Subs c2)->(S4 I p5 x.Dims c4)->NG Q->NO Q->(∀(I':Imm) (at01:Int),o=(.done at01)->I0.le I'->T 71 B Q (.exit 2) I' [] [(7,vI first),(10,vI at01)])->(∀r I' ah m',o=(.ret r)->I0.le I'->RS Tryz.prog f91 B (yQ  r) I' ah m'->T 71 B Q .ret I' ah m')->J Tryz.prog 71 B (nav (bodyOf f91) [1,1,0,1,0,0,1,1,0,0,1,1,1,1,0,1,0]) Q I [hB b2 (cArr x p5 c4)] [(2,vS p4 ag c3),(7,vI first),(9,vP b2 0),(10,vI at0),(38,vS p3 a0.Subs c2),(39,vI (a0.Subs.length:Int)),(40,vI t40)]:=by
 refine tF.partial_correctness a0 ag x _ λaI ih at0 t40 o N B I0 I Q first p3 c2 p4 c3 p5 c4 b2 H h3 h2 h4 hg ho hx hr=>yR hg ho<|yG [41] rfl<|zZ<|yD N ?_ ?_
 ·intro bI N;refine zU<|zZ<|yH<|yE<|yF 1 [] [42] rfl<|bE N λx1 aJ N=>xN rfl rfl h2 aJ ?_;intro ad1 bv ar az;obtain⟨p6,c5,rfl,h6⟩:=yO az;refine xE 0 ar (cAff x1 p6 c5) (vA (cAff x1 p6 c5)) rfl<|uB [z0,vI 0] ?_;intro b3 hb3;refine yF 5 [] [11] rfl<|xP 0 (cAff x1 p6 c5) rfl<|yC rfl<|xA<|qA 2 [0] [(45,vA (cAff x1 p6 c5)),(46,vS p4 ag c3)]<|bE N λy1 bb N=>jE (nD x1 ag _ bb h6 h3) ?_;intro aU af;have ⟨h3,h2,h4,H⟩:=m4 af h3 h2 h4 H;refine yI [] [13] rfl<|zZ<|yE<|yF 4 [1] [48,50,51] rfl<|bE N λx2 bt N=>xN rfl rfl h4 bt ?_;intro ad2 bM aP aW;obtain rfl:=aW;refine xE 0 aP [vI x2] (vI x2) rfl<|yF 7 [] [54] rfl<|bE N λy2 bH N=>vV (xY y1 0 (W (x2 - 1)) _ bH ) ?_;intro aQ aE;have ⟨h3,h2,h4,H⟩:=m4 aE h3 h2 h4 H;refine yI [] [56] rfl<|zJ<|yD N ?_ ?_
  ·intro bN N;exact yG [6] rfl<|xF<|zH<|zV<|zH<|zH<|hr _ _ _ _ (zC N).symm H ⟨_,_,(.tmp rfl ResV.nil),zO,⟨_,rfl,rfl,rfl⟩⟩
  intro bN N;refine zU<|zJ<|zK<|yF 4 [1] [57,59,60] rfl<|bE N λx3 hy6 N=>xN rfl rfl h4 hy6 ?_;intro ad3 ccs3 hat3 bq;obtain rfl:=bq;exact xE 0 hat3 [vI x3] (vI x3) rfl<|yI [] [10] rfl<|zP<|zJ<|zK<|yI [] [40] rfl<|yS<|jU (zW [1] rfl (by decide))<|nU<|ih (W ((W (at0*x3))+y1)) (W (t40+1)) _ N H h3 h2 h4 hg ho hx hr
 intro bI N;exact wZ<|xV zO<|yN<|hx _ _ (zC N).symm H
def vR(p:zD)(a0:zI)(ag:(List Int))(first:Int)(t17:Int):Option (Out Unit (Int)):=do
 if(decide (t17<(p.Arrays.length:Int))) then
  let x<-idx p.Arrays t17
  if(!(x.Name.l==a0.Array.l)) then
   let y<-mJ x
   vR p a0 ag (W (first+y)) (W (t17+1))
  else
   if((a0.Subs.length:Int) != (x.Dims.length:Int)) then
    pure (.ret (-1))
   else
    match<-tF a0 ag x 0 0 with
    | .ret r0=>pure (.ret r0)
    | .done at01=>
     pure (.ret (W (first+at01)))
 else
  pure (.done ())
 partial_fixpoint
theorem zAq(p:zD)(a0:zI)(ag:(List Int)):∀(first:Int) (t17:Int) (o:Out Unit (Int)),vR p a0 ag first t17=some o->∀{B}{I0 I:Imm}{Q p1 c p3 c2 p4 c3}{b1:Nat},I0.le I->(S4 I p4 ag c3)->(S4 I p1 p.Arrays c)->(S4 I p3 a0.Subs c2)->NG Q->NO Q->(∀(I':Imm) ,o=(.done ())->I0.le I'->T 71 B Q (.exit 0) I' [] [])->(∀r I' ah m',o=(.ret r)->I0.le I'->RS Tryz.prog f91 B (yQ  r) I' ah m'->T 71 B Q .ret I' ah m')->J Tryz.prog 71 B (nav (bodyOf f91) [1,1,0,1,0]) Q I [hB b1 (cAccess a0 p3 c2)] [(2,vS p4 ag c3),(4,vP b1 0),(7,vI first),(15,vS p1 p.Arrays c),(16,vI (p.Arrays.length:Int)),(17,vI t17)]:=by
 refine vR.partial_correctness p a0 ag _ λaI ih first t17 o N B I0 I Q p1 c p3 c2 p4 c3 b1 H h3 h h2 hg ho hx hr=>yR hg ho<|yG [18] rfl<|zZ<|yD N ?_ ?_
 ·intro hc N;refine zU<|zZ<|yH<|yE<|bE N λx hy N=>xN rfl rfl h hy ?_;intro ad aL ap al;obtain⟨p5,c4,rfl,h4⟩:=vU al;refine xE 0 ap (cArr x p5 c4) (vA (cArr x p5 c4)) rfl<|uB [vT ([]),z0] ?_;intro b2 hb2;refine xP 0 (cArr x p5 c4) rfl<|yC rfl<|zZ<|yE<|yI [0,1] [25] rfl<|zJ<|yD N ?_ ?_
  ·intro aF N;refine yE<|qA 2 [0] [(26,vI first),(27,vA (cArr x p5 c4))]<|bE N λy ay N=>jE (zCz x _ ay h4) ?_;intro I0 le;have ⟨h3,h,h2,H⟩:=m4 le h3 h h2 H;exact yI [] [7] rfl<|zJ<|zH3<|fL<|zR<|zJ<|zK<|yI [] [17] rfl<|yS<|jU (zW [1] rfl (by decide))<|nU<|ih (W (first+y)) (W (t17+1)) _ N H h3 h h2 hg ho hx hr
  intro aF N;refine zU<|zZ<|yE<|yI [1,0] [36] rfl<|zJ<|yD N ?_ ?_
  ·intro bd N;exact yG [6] rfl<|xF<|zH<|zV<|zH<|zH<|hr _ _ _ _ (zC N).symm H ⟨_,_,(.tmp rfl ResV.nil),zO,⟨_,rfl,rfl,rfl⟩⟩
  intro bd N;refine zU<|wW [10] rfl<|zZ<|yE<|yI [1] [38,39,40] rfl<|wC<|jU (zX [0] (ah:=[hB b2 (cArr x p5 c4)]))<|oA [(2,vS p4 ag c3),(7,vI first),(9,vP b2 0),(10,vI 0),(38,vS p3 a0.Subs c2),(39,vI (a0.Subs.length:Int)),(40,vI 0)] ?_;obtain⟨o0,aB,aH⟩:=zB N;refine zAp a0 ag x 0 0 o0 aB iR h3 h2 h4 (λ_ _ _ h=>hg _ _ _ h) (λ_ _ h=>ho _ _ h) ?_ ?_
  ·intro bz at01 heq aK;subst o0;have H:=H.trans aK;exact zR<|wW [6] rfl<|xF<|zV<|zH<|zH<|hr _ _ _ _ (zC aH).symm H ⟨_,_,(.tmp rfl ResV.nil),zO,⟨_,rfl,rfl,rfl⟩⟩
  intro r0 I9 hs9 m9 aR le9 aS;subst aR;exact zV<|zH<|zV<|zH<|zH<|hr _ _ _ _ (zC aH).symm (H.trans le9) aS
 intro hc N;exact wZ<|xV zO<|yN<|hx _  (zC N).symm H
def tO(p:zD)(a0:zI)(ag:(List Int)):Option (Int):=do
 match<-vR p a0 ag 0 0 with
 | .ret r0=>pure r0
 | .done _=>
  pure (-1)
theorem mK:∀p a0 ag r,tO p a0 ag=some r->∀{I:Imm}{p1 c p2 c1 p3 c2 p4 c3},(S4 I p1 p.Arrays c)->(S4 I p2 p.Parts c1)->(S4 I p3 a0.Subs c2)->(S4 I p4 ag c3)->RT 91 [vA (cProg p p1 c p2 c1),vA (cAccess a0 p3 c2),vS p4 ag c3] I [] (yQ  r):=by
 intro p a0 ag r N I p1 c p2 c1 p3 c2 p4 c3 h h1 h2 h3;unfold tO at N;refine yJ func91 λB=>yE<|uH (cProg p p1 c p2 c1) ?_;intro b hb;refine uH (cAccess a0 p3 c2) ?_;intro b1 hb1;refine wG [] []<|wW [7] rfl<|zZ<|yE<|yI [1] [15,16,17] rfl<|wC<|jU (zX [0] (ah:=[hB b1 (cAccess a0 p3 c2)]))<|oA [(2,vS p4 ag c3),(4,vP b1 0),(7,vI 0),(15,vS p1 p.Arrays c),(16,vI (p.Arrays.length:Int)),(17,vI 0)] ?_;obtain⟨aM,aA,hMl1⟩:=zB N;refine zAq p a0 ag 0 0 aM aA iR h3 h h2 (λ_ _ _ h=>h) (λ_ _ h=>h) ?_ ?_
 ·intro bK  heq1 bi;subst aM;refine zR<|wW [6] rfl<|zJ<|yZ ?_;obtain rfl:=zC hMl1;exact wV
 intro r0 I9 hs9 m9 aR le9 aS;subst aR;refine zV<|zH ?_;obtain rfl:=zC hMl1;exact xC aS
def rJ(aY:List HA)(r:Int):KT:=λkk I' ah v=>
 ∃v0,aY=ah/\v=tupV [v0]/\v0=.int .i64 r
def yY(s:(List zI))(f0:(zI->Option Bool))(t8:Int):Option (Out Unit (Int)):=do
 if(decide (t8<(s.length:Int))) then
  let x<-idx s t8
  let y<-f0 x
  if y then
   pure (.ret t8)
  else
   yY s f0 (W (t8+1))
 else
  pure (.done ())
 partial_fixpoint
theorem mX(s:(List zI))(f0:(zI->Option Bool)):∀(t8:Int) (o:Out Unit (Int)),yY s f0 t8=some o->∀{B}{I0 I:Imm}{Q p c}{fv:Value}{aY:List HA},I0.le I->(S4 I p s c)->(FV1 Tryz.prog I aY fv f0)->NG Q->NO Q->(∀(I':Imm) ,o=(.done ())->I0.le I'->T 19 B Q (.exit 0) I' aY [])->(∀r I' ah m',o=(.ret r)->I0.le I'->RS Tryz.prog f134 B (rJ aY r) I' ah m'->T 19 B Q .ret I' ah m')->J Tryz.prog 19 B (nav (bodyOf f134) [1,0,1,0]) Q I aY [(0,vS p s c),(1,fv),(7,vI (s.length:Int)),(8,vI t8)]:=by
 refine yY.partial_correctness s f0 _ λaI ih t8 o N B I0 I Q p c fv aY H h h1 hg ho hx hr=>yR hg ho<|yG [9] rfl<|zZ<|yD N ?_ ?_
 ·intro hc N;refine zU<|zZ<|yH<|yG [5] rfl<|xA<|yF 3 [] [11,12,13] rfl<|bE N λx hy N=>xN rfl rfl h hy ?_;intro ad aL ap al;obtain⟨p1,c1,rfl,h2⟩:=oH al;refine xE 0 ap (cAccess x p1 c1) (vA (cAccess x p1 c1)) rfl<|bE N λy ay N=>zIZ rfl rfl h1 ay ⟨_,rfl,(nK ⟨_,rfl,h2⟩)⟩ (cu _).symm ?_;rintro I0 v01 le rfl;refine uW (ah:=aY) (cu _) ?_;have ⟨h,h1,H⟩:=m3 le h h1 H;refine yC rfl<|zJ<|yD N ?_ ?_
  ·intro aF N;exact yG [4] rfl<|xF<|zV<|zH<|zH<|hr _ _ _ _ (zC N).symm H ⟨_,_,(.tmp rfl ResV.nil),(λ_ h=>h),⟨_,rfl,rfl,rfl⟩⟩
  intro aF N;exact zU<|zP<|zJ<|zK<|yI [] [8] rfl<|yS<|nU<|ih (W (t8+1)) _ N H h h1 hg ho hx hr
 intro hc N;exact wZ<|yN<|hx _  (zC N).symm H
def wP(s:(List zI))(f0:(zI->Option Bool)):Option (Int):=do
 match<-yY s f0 0 with
 | .ret r0=>pure r0
 | .done _=>
  pure (-1)
theorem kS:∀s f0 r,wP s f0=some r->∀{I:Imm}{p c}{fv:Value}{aY:List HA},(S4 I p s c)->(FV1 Tryz.prog I aY fv f0)->RT 134 [vS p s c,fv] I aY (rJ aY r):=by
 intro s f0 r N I p c fv aY h h1;unfold wP at N;refine yJ func134 λB=>vK []<|zZ<|yG [7,8] rfl<|wC<|oA [(0,vS p s c),(1,fv),(7,vI (s.length:Int)),(8,vI 0)] ?_;obtain⟨o0,aB,aH⟩:=zB N;refine mX s f0 0 o0 aB iR h h1 (λ_ _ _ h=>h) (λ_ _ h=>h) ?_ ?_
 ·intro aU  heq af;subst o0;refine zR<|wW [4] rfl<|zJ<|yZ ?_;obtain rfl:=zC aH;exact xC ⟨_,_,(.tmp rfl ResV.nil),(λ_ h=>h),⟨_,rfl,rfl,rfl⟩⟩
 intro r0 I9 hs9 m9 aR le9 aS;subst aR;refine zV<|zH ?_;obtain rfl:=zC aH;exact xC aS
def nX(aY:List HA)(r:Bool):KT:=λkk I' ah v=>
 ∃v0,aY=ah/\v=tupV [v0]/\v0=.bool r
def xQ(s:(List zI))(f0:(zI->Option Bool)):Option (Bool):=do
 let y<-wP s f0
 pure (decide (y>=0))
theorem mY:∀s f0 r,xQ s f0=some r->∀{I:Imm}{p c}{fv:Value}{aY:List HA},(S4 I p s c)->(FV1 Tryz.prog I aY fv f0)->RT 92 [vS p s c,fv] I aY (nX aY r):=by
 intro s f0 r N I p c fv aY h h1;unfold xQ at N;refine yJ func92 λB=>vK []<|xA<|yF 2 [] [5,6] rfl<|bE N λy hy N=>zEG (hs1:=aY) (rest:=[]) rfl rfl rfl rfl (by kernel_rfl) rfl (cu _).symm (kS s f0 _ hy h h1) ?_;rintro I0 ax v2 k2 le - ⟨v0,rfl,rfl,rfl⟩ -;refine uW (ah:=aY) (cu _) ?_;refine yI [] [4] rfl<|zJ<|yZ ?_;obtain rfl:=zC N;exact xC ⟨_,_,(.tmp rfl ResV.nil),(λ_ h=>h),⟨_,rfl,rfl,rfl⟩⟩
def zBV(r:(List zI)):KT:=λkk I' ah v=>
 ∃v0,ah=[]/\v=tupV [v0]/\SL I' v0 r
mutual
def mL(e0:zF):Option ((List zI)):=do
 if(e0.Kind==3) then
  pure ([e0.Read]:List zI)
 else
  let aj<-oW (same e0) ([]:List zI) (same 0)
  pure (id aj)
 partial_fixpoint
def oW(e0:zF)(out:List zI)(t15:Int):Option (List zI):=do
 if(decide (t15<(e0.Kids.length:Int))) then
  let x<-idx e0.Kids t15
  let y<-mL (same x)
  let am<-app 40 out y
  oW (same e0) (same am) (W (t15+1))
 else
  pure (id out)
 partial_fixpoint
end
theorem zGG:(∀(e0:zF) r,mL e0=some r->∀{I:Imm}{p c p1 c1 p2 c2},(S4 I p e0.Index.Coefs c)->(S4 I p1 e0.Read.Subs c1)->(S4 I p2 e0.Kids c2)->RT 93 [vA (cExpr e0 p c p1 c1 p2 c2)] I [] (zBV  r))/\(∀(e0:zF) (out:List zI) (t15:Int) o,oW e0 out t15=some o->∀{B}{I0 I:Imm}{Q p2 c2 p3 c3 cs},I0.le I->(S4 I p2 e0.Kids c2)->(RL I cs out)->NG Q->NO Q->(∀(I':Imm) (aj:List zI) (p4:Option Addr) (c4:Nat) (aC:List Value),o=aj->I0.le I'->(RL I' aC aj)->T 25 B Q (.exit 0) I' [hO zI (vS p4 aj c4) aC] [(3,vS p4 aj c4)])->J Tryz.prog 25 B (nav (bodyOf f93) [1,1,1,0,1,0]) Q I [hO zI (vS p3 out c3) cs] [(3,vS p3 out c3),(13,vS p2 e0.Kids c2),(14,vI (e0.Kids.length:Int)),(15,vI t15)]):=by
 refine mL.mutual_partial_correctness _ _ ?_ ?_
 ·intro F_impl_reads_l1 ih_impl_reads_l1 e0 r N I p c p1 c1 p2 c2 h h1 h2;refine yJ func93 λB=>yE<|uH (cExpr e0 p c p1 c1 p2 c2) ?_;intro b hb;refine wG [] []<|zZ<|yE<|yI [0] [8] rfl<|zJ<|yD N ?_ ?_
  ·intro hc N;refine yE<|qA 2 [0] [(10,vA (cAccess e0.Read p1 c1))]<|tU (cAccess e0.Read p1 c1) zI ?_;intro b1 hb1;have h3:RL I (cAccess e0.Read p1 c1) ([e0.Read]:List zI):=⟨(cAccess e0.Read p1 c1),_,rfl,rfl,(nK ⟨_,rfl,h1⟩),rfl⟩;refine yI [] [2] rfl<|xF<|zH<|xB 0 rfl ?_;intro I0 le hl0;have h4:=SL.of_frozen hl0 le h3;obtain rfl:=zC N;exact xC ⟨_,_,(.tmp rfl ResV.nil),zO,⟨_,rfl,rfl,h4⟩⟩
  intro hc N;refine zU<|zHd [(3,z0)]<|zZ<|yE<|yI [0] [13,14,15] rfl<|wC<|jU (zX [] (ah:=[]))<|oA [(3,z0),(13,vS p2 e0.Kids c2),(14,vI (e0.Kids.length:Int)),(15,vI 0)]<|dW zI λh5=>?_;obtain⟨o0,aB,aH⟩:=zB N;refine ih_impl_reads_l1 e0 ([]:List zI) 0 o0 aB iR h2 h5 (λ_ _ _ h=>h) (λ_ _ h=>h) ?_;intro aQ aj p4 c4 aC heq aE h7;subst o0;refine zR<|wW [2] rfl<|xF<|xB 0 rfl ?_;intro bz aK hl01;have h13:=SL.of_frozen hl01 aK h7;obtain rfl:=zC aH;exact xC ⟨_,_,(.tmp rfl ResV.nil),zO,⟨_,rfl,rfl,h13⟩⟩
 intro F_impl_reads F_impl_reads_l1 ih_impl_reads ih_impl_reads_l1 e0 out t15 o N B I0 I Q p2 c2 p3 c3 cs H h2 h6 hg ho hx;refine yR hg ho<|yG [16] rfl<|zZ<|yD N ?_ ?_
 ·intro aF N;refine zU<|zZ<|yH<|yE<|bE N λx hy N=>xN rfl rfl h2 hy ?_;intro ad aL ap al;obtain⟨p5,c5,p6,c6,p7,c7,rfl,h8,h9,h10⟩:=tA al;refine xE 0 ap (cExpr x p5 c5 p6 c6 p7 c7) (vA (cExpr x p5 c5 p6 c6 p7 c7)) rfl<|uB zExpr ?_;intro b2 hb2;refine xP 0 (cExpr x p5 c5 p6 c6 p7 c7) rfl<|yC rfl<|zJ<|zK<|qA 2 [0] [(19,vS p3 out c3),(20,vA (cExpr x p5 c5 p6 c6 p7 c7))]<|bE N λy ay N=>xO (ih_impl_reads x _ ay h8 h9 h10) ?_;rintro aU ax v2 k2 af - ⟨v03,rfl,rfl,h11⟩ -;have ⟨h2,h6,H⟩:=m3 af h2 h6 H;obtain⟨p8,c8,rfl⟩:=h11.form;obtain⟨bv,k0,k01⟩:=h11;have h11:SL aU (vS p8 y c8) y:=⟨_,k0,k01⟩;obtain⟨am,aJ,N⟩:=zB N;exact pC 76 2 1 rfl rfl rfl h6 (.inl k0) k01 aJ λp9 c9 aO h12=>qE (zX [0,1] (ah:=[hB b2 (cExpr x p5 c5 p6 c6 p7 c7),hO zI (vS p9 am c9) aO]))<|yI [] [3] rfl<|zP<|zJ<|zK<|yI [] [15] rfl<|yS<|jU (zW [1] rfl (by decide))<|nU<|ih_impl_reads_l1 e0 am (W (t15+1)) _ N H h2 h12 hg ho hx
 intro aF N;exact wZ<|yN<|hx _ _ _ _ _ (zC N).symm H h6
theorem zC6:∀e0 r,mL e0=some r->∀{I:Imm}{p c p1 c1 p2 c2},(S4 I p e0.Index.Coefs c)->(S4 I p1 e0.Read.Subs c1)->(S4 I p2 e0.Kids c2)->RT 93 [vA (cExpr e0 p c p1 c1 p2 c2)] I [] (zBV  r):=zGG.1
def uO(a0:zI)(x:zD)(x1:(List Int)):Option (Bool):=do
 let y<-tO x a0 x1
 pure (decide (y<0))
theorem zA6:∀a0 x x1 r,uO a0 x x1=some r->∀{I:Imm}{p c}{ad:Addr}{p1 c1 p2 c2}{ad1:Addr}{p3 c3},(S4 I p a0.Subs c)->(S4 I p1 x.Arrays c1)->(S4 I p2 x.Parts c2)->(At I ad (cProg x p1 c1 p2 c2))->(S4 I p3 x1 c3)->(At I ad1 [vS p3 x1 c3])->RT 94 [vA (cAccess a0 p c),.pointer (some ad),.pointer (some ad1)] I [] (zS  r):=by
 intro a0 x x1 r N I p c ad p1 c1 p2 c2 ad1 p3 c3 h h1 h2 ap h3 ar;unfold uO at N;refine yJ func94 λB=>yE<|uH (cAccess a0 p c) ?_;intro b hb;refine wG [] []<|xA<|xE 0 ap (cProg x p1 c1 p2 c2) (vA (cProg x p1 c1 p2 c2)) rfl<|qA 2 [0] [(6,vA (cAccess a0 p c))]<|xE 0 ar [vS p3 x1 c3] (vS p3 x1 c3) rfl<|bE N λy hy N=>jE (mK x a0 x1 _ hy h1 h2 h h3) λI0 le=>wG [] [(4,.bool (decide (y<0)))]<|zJ<|yZ ?_;obtain rfl:=zC N;exact wV
def pE(p:zD)(s:zQ)(ag:(List Int)):Option (Bool):=do
 let t6<-(do
  let y<-tO p s.Write ag
  if(decide (y>=0)) then
   let y1<-mL s.Value
   let y2<-xQ y1 (λx0=>uO x0 p ag)
   pure (!y2)
  else
   pure false
    : Option Bool)
 pure (id t6)
theorem zBG:∀p s ag r,pE p s ag=some r->∀{I:Imm}{p1 c p2 c1 p3 c2 p4 c3 p5 c4 p6 c5 p7 c6},(S4 I p1 p.Arrays c)->(S4 I p2 p.Parts c1)->(S4 I p3 s.Write.Subs c2)->(S4 I p4 s.Value.Index.Coefs c3)->(S4 I p5 s.Value.Read.Subs c4)->(S4 I p6 s.Value.Kids c5)->(S4 I p7 ag c6)->RT 51 [vA (cProg p p1 c p2 c1),vA (cStmt s p3 c2 p4 c3 p5 c4 p6 c5),vS p7 ag c6] I [] (zS  r):=by
 intro p s ag r N I p1 c p2 c1 p3 c2 p4 c3 p5 c4 p6 c5 p7 c6 h h1 h2 h3 h4 h5 h6;unfold pE at N;refine yJ func51 λB=>?_;have H:=iS I;refine yE<|uH (cProg p p1 c p2 c1) ?_;intro b hb;refine xM 0 rfl ?_;intro I0 le hl0;have ap:At I0 ⟨b,0,none⟩ (cProg p p1 c p2 c1):=At.of_blk hl0;have ⟨h,h1,h2,h3,h4,h5⟩:=m6 le h h1 h2 h3 h4 h5;have ⟨h6,H⟩:=m2 le h6 H;refine uH (cStmt s p3 c2 p4 c3 p5 c4 p6 c5) ?_;intro b1 hb1;refine uH [vS p7 ag c6] ?_;intro b2 hb2;refine xM 0 rfl ?_;intro aU af hl01;have ar:At aU ⟨b2,0,none⟩ [vS p7 ag c6]:=At.of_blk hl01;have ⟨h,h1,h2,h3,h4,h5⟩:=m6 af h h1 h2 h3 h4 h5;have ⟨h6,ap,H⟩:=m3 af h6 ap H;refine wG [] []<|zJ<|yA ?_;refine wE N [] (λt6=>[(6,.bool t6)]) (λo0 aB=>?_) ?_
 ·have H:=iS aU;refine zK<|xE 0 ap (cProg p p1 c p2 c1) (vA (cProg p p1 c p2 c1)) rfl<|qA 3 [0] [(9,vA (cAccess s.Write p3 c2))]<|xE 0 ar [vS p7 ag c6] (vS p7 ag c6) rfl ?_;obtain⟨y,hy,N⟩:=zB aB;refine jE (mK p s.Write ag _ hy h h1 h2 h6) ?_;intro bz aE;have ⟨h,h1,ap,h6,ar,h3⟩:=m6 aE h h1 ap h6 ar h3;have ⟨h4,h5,H⟩:=m3 aE h4 h5 H;refine yF 7 [] [13] rfl<|xW [13] N ?_ ?_
  ·intro hc N;refine qA 9 [0] [(15,vA (cExpr s.Value p4 c3 p5 c4 p6 c5))]<|bE N λy1 ay N=>xO (zC6 s.Value _ ay h3 h4 h5) ?_;rintro bK ax v2 k2 aK - ⟨v01,rfl,rfl,h8⟩ -;have ⟨h,h1,ap,h6,ar,H⟩:=m6 aK h h1 ap h6 ar H;obtain⟨p8,c7,rfl⟩:=h8.form;refine yF 11 [] [17] rfl ?_;have hf0:FV1 Tryz.prog bK [] (.func (.func 94) ⟨[]⟩ ⟨[vP b 0,vP b2 0]⟩) (λx0=>uO x0 p ag):=by
    refine FV1.intro ?_;intro I1 af x0 r u0 hF k0;obtain⟨_,rfl,k0⟩:=k0;obtain⟨p9,c8,rfl,h9⟩:=oH k0;exact(zA6 x0 p ag r hF h9 (h.mono af) (h1.mono af) (ap.mono af) (h6.mono af) (ar.mono af)).mono (by rintro k i hs u ⟨v0,rfl,rfl,h⟩;exact⟨rfl,h⟩)
   obtain⟨y2,aJ,N⟩:=zB N;refine xO (mY y1 (λx0=>uO x0 p ag) _ aJ h8 hf0) ?_;rintro bO ax v2 k2 bi - ⟨v03,rfl,rfl,rfl⟩ -;have H:=H.trans bi;exact yI [] [6] rfl<|xV zO<|yN<|zT (ct N H)
  intro hc N;exact wG [] [(6,vF)]<|xV zO<|yN<|zT (ct N H)
 intro t6 aQ bw aN;refine zJ<|yZ ?_;obtain rfl:=zC aN;exact wV
end Go.LN
