/- Helper of the proof (see the last text). -/
import Derived.Test.YtcmjkmdecmabaaaGreatHM6
set_option linter.unusedVariables false
set_option linter.unusedSimpArgs false
namespace Go.LN
open Go.Proofs Go.Proofs.Tryz
set_option maxRecDepth 20000
def sI(list:(List zD))(part:zF)(y1:(List (List Int)))(i:Int)(k0:Int):Option (Out Unit (Int×Bool)):=do
 if(decide (k0<(y1.length:Int))) then
  let x1<-idx part.Body i;let x2<-idx y1 k0;let (y5,y6,y7)<-kL list x1 x2;let t80<-(do
   if(!y7) then pure true
   else
    let x3<-idx y1 k0;let y8<-jR x3;pure (!y8)
     : Option Bool)
  if t80 then pure (.ret (0,false))
  else sI list part y1 i (W (k0+1))
 else pure (.done ())
 partial_fixpoint
theorem zGN(list:(List zD))(part:zF)(y1:(List (List Int)))(i:Int):∀(k0:Int) (o:Out Unit (Int×Bool)),sI list part y1 i k0=some o->∀{B}{I0 I:Imm}{Q p c p1 c1 p2 c2}{b}{p3 c3},I0.le I->(S4 I p list c)->(S4 I p3 y1 c3)->(S4 I p1 part.Nest c1)->(S4 I p2 part.Body c2)->NG Q->NO Q->(∀I',o=(.done ())->I0.le I'->T 87 B Q (.exit 2) I' [hB b (cPart part p1 c1 p2 c2)] [(0,vS p list c),(3,vP b 0),(6,vS p3 y1 c3),(8,vI i)])->(∀r I' ag m',o=(.ret r)->I0.le I'->RS Tryz.prog f101 B (fW  r) I' ag m'->T 87 B Q .ret I' ag m')->J Tryz.prog 87 B (nav (bodyOf f101) [1,1,1,0,1,0,0,1,0,0,1,1,0]) Q I [hB b (cPart part p1 c1 p2 c2)] [(0,vS p list c),(3,vP b 0),(6,vS p3 y1 c3),(8,vI i),(9,vI k0)]:=by
 refine sI.partial_correctness list part y1 i _ λaJ ih k0 o N B I0 I Q p c p1 c1 p2 c2 b p3 c3 H h h3 h1 h2 hg ho hx hr=>yX hg ho<|yC<|yK [53] rfl<|zK<|yH N ?_ ?_
 ·intro hc5 N;refine zT<|yA<|yL<|yC ?_;obtain⟨x1,bh,N⟩:=zB N;obtain⟨x2,bu,N⟩:=zB N;obtain⟨⟨y5,y6,y7⟩,bC,N⟩:=zB N;refine wP [.p (vS p list c) [],.p (vP b 1) [],.p (vS p2 part.Body c2) [0],.p (vI i) [],.x (ePStmt x1),.x (eVStmt x1),.p (vS p3 y1 c3) [],.p (vI k0) [],.x (λI' v hx=>∃ad2 bj aZ,v=.pointer (some ad2)/\hx=[]/\(At I' ad2 [vS bj x2 aZ])/\(S4 I' bj x2 aZ)),.x (eS x2),.x (λI' v hx=>∃bc bd,v=.tuple ⟨[vS bc y5 bd,vI y6,.bool y7]⟩/\hx=[]/\(S4 I' bc y5 bd)),.x (λI' v hx=>∃p131 c131,v=.tuple ⟨[vS p131 y5 c131,vI y6,.bool y7]⟩/\hx=[]/\(S4 I' p131 y5 c131)),.x (eS y5),.q (vI y6),.q (.bool y7),.x (eS y5),.p (vI y6) []] [[],[],[(1,false)],[],[(2,false),(3,false)],[(4,false)],[],[],[(6,false),(7,false)],[(8,false)],[(0,false),(5,false),(9,false)],[(10,false)],[(11,false)],[(11,false)],[(11,false)],[(12,false)],[(13,false)]] [hB b (cPart part p1 c1 p2 c2)] [] [(14,false)] (zZ [0]) ?_ ?_
  ·refine O4<|Ox ?_<|Ox ?_<|O2<|Ox ?_<|Ox ?_<|Ox ?_<|Ox ?_<|Ox ?_<|Oq ?_<|Oq ?_<|Ox ?_<|Op<|On
   ·intro I1 hf aa;refine yW [59,60] rfl ?_;have h2:=h2.mono aa;refine xW rfl rfl h2 bh ?_;intro ad1 bq aw ay;obtain⟨p8,c8,p9,c9,aL,aO,aF,aQ,rfl,h10,h11,h12,h13⟩:=vG ay;exact yN [] iR ⟨_,_,_,_,_,_,_,_,_,rfl,rfl,aw,h10,h11,h12,h13⟩
   ·rintro I1 hf aa _ _ ⟨ad1,p8,c8,p9,c9,aL,aO,aF,aQ,rfl,rfl,aw,h10,h11,h12,h13⟩;exact yW [61] rfl<|xM 0 aw (cStmt x1 p8 c8 p9 c9 aL aO aF aQ) (vA (cStmt x1 p8 c8 p9 c9 aL aO aF aQ)) rfl<|yN [] iR ⟨_,_,_,_,_,_,_,_,rfl,rfl,h10,h11,h12,h13⟩
   ·intro I1 hf aa;refine yW [63,64] rfl ?_;have h3:=h3.mono aa;refine xW rfl rfl h3 bu ?_;intro ad2 bL bk br;obtain⟨v011,rfl,h14⟩:=br;obtain⟨bj,aZ,rfl⟩:=h14.form;exact yN [] iR ⟨_,_,_,rfl,rfl,bk,h14⟩
   ·rintro I1 hf aa _ _ ⟨ad2,bj,aZ,rfl,rfl,bk,h14⟩;exact yW [65] rfl<|xM 0 bk [vS bj x2 aZ] (vS bj x2 aZ) rfl<|yN [] iR ⟨_,_,rfl,rfl,h14⟩
   ·rintro I1 hf aa _ _ ⟨rfl,rfl⟩ _ _ ⟨p81,c81,p91,c91,p101,c101,p111,c111,rfl,rfl,h101,h111,h121,h131⟩ _ _ ⟨p121,c121,rfl,rfl,h141⟩;refine yW [57,62,66] rfl ?_;have H:=iS I1;have h:=h.mono aa;refine xK (zD4 list x1 x2 _ bC h h101 h111 h121 h131 h141) ?_;rintro bG ax v2 k2 aY - ⟨v012,v013,v014,rfl,rfl,h15,rfl,rfl⟩ -;have H:=H.trans aY;obtain⟨bc,bd,rfl⟩:=h15.form;exact yN [] H ⟨_,_,rfl,rfl,h15⟩
   ·rintro I1 hf aa _ _ ⟨bc,bd,rfl,rfl,h15⟩;exact yW [67] rfl<|oN 12 [(56,.tuple ⟨[vS bc y5 bd,vI y6,.bool y7]⟩)]<|yN [] iR ⟨_,_,rfl,rfl,h15⟩
   ·rintro I1 hf aa _ _ ⟨p131,c131,rfl,rfl,h151⟩;exact yW [56] rfl<|oN 13 [(68,vS p131 y5 c131)]<|yN [] iR ⟨_,_,rfl,rfl,h151⟩
   ·rintro I1 hf aa _ _ ⟨p131,c131,rfl,rfl,h151⟩;exact yW [56] rfl<|oN 14 [(69,vI y6)]<|xO iR
   ·rintro I1 hf aa _ _ ⟨p131,c131,rfl,rfl,h151⟩;exact yW [56] rfl<|oN 15 [(70,.bool y7)]<|xO iR
   rintro I1 hf aa _ _ ⟨p1311,c1311,rfl,rfl,h1511⟩;exact yW [68] rfl<|oN 16 [(10,vS p1311 y5 c1311)]<|yN [] iR ⟨_,_,rfl,rfl,h1511⟩
  intro bK bo;refine yW [0,3,6,8,9,70] rfl ?_;have ⟨h,h3,h1,h2,H⟩:=m5 bo h h3 h1 h2 H;refine yQ [] [12] rfl<|zK<|yC ?_;refine vQ N [hB b (cPart part p1 c1 p2 c2)] (λt80=>[(0,vS p list c),(3,vP b 0),(6,vS p3 y1 c3),(8,vI i),(9,vI k0),(80,.bool t80)]) (λaU aB=>?_) ?_
  ·have H:=iS bK;refine zL<|yG 3 [] [73] rfl<|wR [73] aB ?_ ?_
   ·intro hc6 N;exact wM [] [(80,vY)]<|yZ<|zU (ct N H)
   intro hc6 N;refine yG 5 [] [74,75] rfl<|bE N λx3 hy6 N=>xW rfl rfl h3 hy6 ?_;intro ad3 ccs3 hat3 bB;obtain⟨v015,rfl,h18⟩:=bB;obtain⟨p14,c14,rfl⟩:=h18.form;refine xM 0 hat3 [vS p14 x3 c14] (vS p14 x3 c14) rfl<|bE N λy8 hy7 N=>tA (zHk x3 _ hy7 h18) ?_;intro I07 bv;have H:=H.trans bv;exact yQ [] [80] rfl<|yZ<|zU (ct N H)
  intro t80 I06 le7 hMc1;have ⟨h,h3,h1,h2,H⟩:=m5 le7 h h3 h1 h2 H;refine zK<|yH hMc1 ?_ ?_
  ·intro hc7 N;exact yK [4,5] rfl<|xH<|zV<|zJ<|zJ<|hr _ _ _ _ (zE N).symm H ⟨_,_,(resU rfl rfl),zO,⟨_,_,rfl,rfl,rfl,rfl⟩⟩
  intro hc7 N;exact zT<|zN<|zK<|zL<|yQ [] [9] rfl<|yV<|nX<|ih (W (k0+1)) _ N H h h3 h1 h2 hg ho hx hr
 intro hc5 N;exact wW<|yZ<|hx _  (zE N).symm H
def sJ(list:(List zD))(part:zF)(y1:(List (List Int)))(i:Int):Option (Out Unit (Int×Bool)):=do
 if(decide (i<(part.Body.length:Int))) then
  let x<-idx part.Body i;let y3<-qU x (part.Nest.length:Int);if(!y3) then pure (.ret (0,false))
  else
   match<-sI list part y1 i 0 with
   | .ret r0=>pure (.ret r0)
   | .done _=>
    sJ list part y1 (W (i+1))
 else pure (.done ())
 partial_fixpoint
theorem zGO(list:(List zD))(part:zF)(y1:(List (List Int))):∀(i:Int) (o:Out Unit (Int×Bool)),sJ list part y1 i=some o->∀{B}{I0 I:Imm}{Q p c p1 c1 p2 c2}{b}{p3 c3},I0.le I->(S4 I p list c)->(S4 I p3 y1 c3)->(S4 I p1 part.Nest c1)->(S4 I p2 part.Body c2)->NG Q->NO Q->(∀I',o=(.done ())->I0.le I'->T 87 B Q (.exit 0) I' [hB b (cPart part p1 c1 p2 c2)] [(3,vP b 0),(6,vS p3 y1 c3)])->(∀r I' ag m',o=(.ret r)->I0.le I'->RS Tryz.prog f101 B (fW  r) I' ag m'->T 87 B Q .ret I' ag m')->J Tryz.prog 87 B (nav (bodyOf f101) [1,1,1,0,1,0]) Q I [hB b (cPart part p1 c1 p2 c2)] [(0,vS p list c),(3,vP b 0),(6,vS p3 y1 c3),(8,vI i)]:=by
 refine sJ.partial_correctness list part y1 _ λaJ ih i o N B I0 I Q p c p1 c1 p2 c2 b p3 c3 H h h3 h1 h2 hg ho hx hr=>yX hg ho<|yC<|yD<|yQ [0] [37] rfl<|zK<|yH N ?_ ?_
 ·intro bD N;refine zT<|yA<|yL<|yC<|yC ?_;obtain⟨x,az,N⟩:=zB N;obtain⟨y3,aG,N⟩:=zB N;refine wP [.p (vP b 1) [],.p (vS p2 part.Body c2) [0],.p (vI i) [],.x (ePStmt x),.x (eVStmt x),.p (vP b 0) [],.p (vS p1 part.Nest c1) [0],.p (vI (part.Nest.length:Int)) [],.q (.bool y3),.p (.bool (!y3)) []] [[],[(0,false)],[],[(1,false),(2,false)],[(3,false)],[],[(5,false)],[(6,false)],[(4,false),(7,false)],[(8,false)]] [hB b (cPart part p1 c1 p2 c2)] [] [(9,false)] (zZ [0]) ?_ ?_
  ·refine O3<|Ox ?_<|Ox ?_<|O3<|Oq ?_<|Op<|On
   ·intro I1 hf aa;refine yW [41,42] rfl ?_;have h2:=h2.mono aa;refine xW rfl rfl h2 az ?_;intro ad aN aq am;obtain⟨p4,c4,p5,c5,p6,c6,p7,c7,rfl,h5,h6,h7,h8⟩:=vG am;exact yN [] iR ⟨_,_,_,_,_,_,_,_,_,rfl,rfl,aq,h5,h6,h7,h8⟩
   ·rintro I1 hf aa _ _ ⟨ad,p4,c4,p5,c5,p6,c6,p7,c7,rfl,rfl,aq,h5,h6,h7,h8⟩;exact yW [43] rfl<|xM 0 aq (cStmt x p4 c4 p5 c5 p6 c6 p7 c7) (vA (cStmt x p4 c4 p5 c5 p6 c6 p7 c7)) rfl<|yN [] iR ⟨_,_,_,_,_,_,_,_,rfl,rfl,h5,h6,h7,h8⟩
   rintro I1 hf aa _ _ ⟨p41,c41,p51,c51,p61,c61,p71,c71,rfl,rfl,h51,h61,h71,h81⟩;refine yW [44,47] rfl ?_;have H:=iS I1;refine tA (zAn x (part.Nest.length:Int) _ aG h51 h61 h71 h81) ?_;intro aW aC;have H:=H.trans aC;exact xO H
  intro bx aI;refine yW [0,3,6,8,49] rfl ?_;have ⟨h,h3,h1,h2,H⟩:=m5 aI h h3 h1 h2 H;refine zY rfl<|zK<|yH N ?_ ?_
  ·intro bJ N;exact yK [4,5] rfl<|xH<|zJ<|zV<|zJ<|zJ<|hr _ _ _ _ (zE N).symm H ⟨_,_,(resU rfl rfl),zO,⟨_,_,rfl,rfl,rfl,rfl⟩⟩
  intro bJ N;refine zT<|vM [9] rfl<|wN<|qX [(0,vS p list c),(3,vP b 0),(6,vS p3 y1 c3),(8,vI i),(9,vI 0)] ?_;obtain⟨o02,ho02,aE⟩:=zB N;refine zGN list part y1 i 0 o02 ho02 iR h h3 h1 h2 (λ_ _ _ h=>hg _ _ _ h) (λ_ _ h=>ho _ _ h) ?_ ?_
  ·intro I08  heq2 le8;subst o02;have ⟨h,h3,h1,h2,H⟩:=m5 le8 h h3 h1 h2 H;exact zS<|zN<|zK<|zL<|yQ [] [8] rfl<|yV<|nX<|ih (W (i+1)) _ aE H h h3 h1 h2 hg ho hx hr
  intro r0 I9 hs9 m9 aT le9 aV;subst aT;exact zV<|zV<|zJ<|zJ<|hr _ _ _ _ (zE aE).symm (H.trans le9) aV
 intro bD N;exact wW<|yZ<|hx _  (zE N).symm H
def kI(list:(List zD))(part:zF):Option (Int×Bool):=do
 let (y1,y2)<-nF part.Nest;let t32<-(do
  if(!y2) then pure true
  else
   if(decide ((part.Body.length:Int)<1)) then pure true
   else
    pure (decide ((part.Body.length:Int)>4))
    : Option Bool)
 if t32 then pure (0,false)
 else
  match<-sJ list part y1 0 with
  | .ret r0=>pure r0
  | .done _=>
   pure ((W ((y1.length:Int)*(part.Body.length:Int))),true)
theorem zBn:∀list part r,kI list part=some r->∀{I:Imm}{p c p1 c1 p2 c2},(S4 I p list c)->(S4 I p1 part.Nest c1)->(S4 I p2 part.Body c2)->RT 101 [vS p list c,vA (cPart part p1 c1 p2 c2)] I [] (fW  r):=by
 intro list part r N I p c p1 c1 p2 c2 h h1 h2;unfold kI at N;refine yM func101 λB=>?_;have H:=iS I;refine yD<|vC (cPart part p1 c1 p2 c2) ?_;intro b hb;refine wM [] []<|yY<|yG 2 [0] [15] rfl ?_;obtain⟨⟨y1,y2⟩,hy,N⟩:=zB N;refine xK (zFZ part.Nest _ hy h1) ?_;rintro I0 ax v2 k2 le - ⟨v0,v01,rfl,rfl,h3,rfl⟩ -;have ⟨h,h1,h2,H⟩:=m4 le h h1 h2 H;obtain⟨p3,c3,rfl⟩:=h3.form;refine yQ [] [6,7] rfl<|yA<|yC ?_;refine vQ N [hB b (cPart part p1 c1 p2 c2)] (λt32=>[(0,vS p list c),(3,vP b 0),(6,vS p3 y1 c3),(32,.bool t32)]) (λo0 aA=>?_) ?_
 ·have H:=iS I0;refine zL<|yG 3 [] [21] rfl<|wR [21] aA ?_ ?_
  ·intro hc N;exact wM [] [(32,vY)]<|yZ<|zU (ct N H)
  intro hc N;refine yG 9 [0] [27] rfl<|wR [27] N ?_ ?_
  ·intro aH N;exact wM [] [(32,vY)]<|yZ<|zU (ct N H)
  intro aH N;exact yQ [0] [32] rfl<|yZ<|zU (ct N H)
 intro t32 aP aa aX;have ⟨h,h3,h1,h2⟩:=m4 aa h h3 h1 h2;refine zK<|yH aX ?_ ?_
 ·intro ba N;refine yK [4,5] rfl<|xH<|zJ ?_;exact xX N (resU rfl rfl) zO ⟨_,_,rfl,rfl,rfl,rfl⟩
 intro ba N;refine zT<|yA<|yK [8] rfl<|wN<|qX [(0,vS p list c),(3,vP b 0),(6,vS p3 y1 c3),(8,vI 0)] ?_;obtain⟨o03,ho03,hMl1⟩:=zB N;refine zGO list part y1 0 o03 ho03 iR h h3 h1 h2 nG nO ?_ ?_
 ·intro I09  heq3 le9;subst o03;refine zS<|yY<|yQ [0] [4,5] rfl<|zK<|xD ?_;exact xX hMl1 (resU rfl rfl) zO ⟨_,_,rfl,rfl,rfl,rfl⟩
 intro r0 I9 hs9 m9 aT le9 aV;subst aT;refine zV<|zJ ?_;obtain rfl:=zE hMl1;exact jW aV
def vL(p:zC)(total:Int)(i:Int):Option (Out Int (Bool)):=do
 if(decide (i<(p.Parts.length:Int))) then
  let x<-idx p.Parts i;let (y2,y3)<-kI p.Arrays x;if(!y3) then pure (.ret false)
  else vL p (W (total+y2)) (W (i+1))
 else pure (.done total)
 partial_fixpoint
theorem zCu(p:zC):∀(total:Int) (i:Int) (o:Out Int (Bool)),vL p total i=some o->∀{B}{I0 I:Imm}{Q p1 c p2 c1}{b},I0.le I->(S4 I p1 p.Arrays c)->(S4 I p2 p.Parts c1)->NG Q->NO Q->(∀I' total1,o=(.done total1)->I0.le I'->T 42 B Q (.exit 0) I' [] [(3,vI total1)])->(∀r I' ag m',o=(.ret r)->I0.le I'->RS Tryz.prog f57 B (zW  r) I' ag m'->T 42 B Q .ret I' ag m')->J Tryz.prog 42 B (nav (bodyOf f57) [1,1,1,0,1,0]) Q I [hB b (cProg p p1 c p2 c1)] [(1,vP b 0),(3,vI total),(4,vI i)]:=by
 refine vL.partial_correctness p _ λaJ ih total i o N B I0 I Q p1 c p2 c1 b H h h1 hg ho hx hr=>yX hg ho<|yC<|yD<|yQ [0] [21] rfl<|zK<|yH N ?_ ?_
 ·intro ba N;refine zT<|yA<|yL<|yC ?_;obtain⟨x,az,N⟩:=zB N;obtain⟨⟨y2,y3⟩,aG,N⟩:=zB N;refine wP [.p (vP b 0) [],.p (vS p1 p.Arrays c) [0],.p (vP b 1) [],.p (vS p2 p.Parts c1) [0],.p (vI i) [],.x (ePPart x),.x (eVPart x),.q (.tuple ⟨[vI y2,.bool y3]⟩),.p (.tuple ⟨[vI y2,.bool y3]⟩) [],.p (vI y2) [],.p (.bool y3) [],.p (vI y2) []] [[],[(0,false)],[],[(2,false)],[],[(3,false),(4,false)],[(5,false)],[(1,false),(6,false)],[(7,false)],[(8,false)],[(8,false)],[(9,false)]] [hB b (cProg p p1 c p2 c1)] [] [(10,false),(11,false)] (zZ [0]) ?_ ?_
  ·refine O4<|Op<|Ox ?_<|Ox ?_<|Oq ?_<|O4<|On
   ·intro I1 hf aa;refine yW [28,29] rfl ?_;have h1:=h1.mono aa;refine xW rfl rfl h1 az ?_;intro ad aN aq am;obtain⟨p3,c2,p4,c3,rfl,h3,h4⟩:=wI am;exact yN [] iR ⟨_,_,_,_,_,rfl,rfl,aq,h3,h4⟩
   ·rintro I1 hf aa _ _ ⟨ad,p3,c2,p4,c3,rfl,rfl,aq,h3,h4⟩;exact yW [30] rfl<|xM 0 aq (cPart x p3 c2 p4 c3) (vA (cPart x p3 c2 p4 c3)) rfl<|yN [] iR ⟨_,_,_,_,rfl,rfl,h3,h4⟩
   rintro I1 hf aa _ _ ⟨rfl,rfl⟩ _ _ ⟨p31,c21,p41,c31,rfl,rfl,h31,h41⟩;refine yW [26,31] rfl ?_;have H:=iS I1;have h:=h.mono aa;refine xK (zBn p.Arrays x _ aG h h31 h41) ?_;rintro aW ax v2 k2 aC - ⟨v03,v04,rfl,rfl,rfl,rfl⟩ -;have H:=H.trans aC;exact xO H
  intro bx aI;refine yW [1,3,4,5,34] rfl ?_;have ⟨h,h1,H⟩:=m3 aI h h1 H;refine yQ [] [6] rfl<|yA<|yK [36] rfl<|zK<|yH N ?_ ?_
  ·intro bD N;exact wZ [(2,vF)]<|xH<|zJ<|zV<|zJ<|zJ<|hr _ _ _ _ (zE N).symm H ⟨_,_,(resT rfl),zO,⟨_,rfl,rfl,rfl⟩⟩
  intro bD N;exact zT<|zK<|zL<|yQ [] [3] rfl<|zN<|zK<|zL<|yQ [] [4] rfl<|yV<|nX<|ih (W (total+y2)) (W (i+1)) _ N H h h1 hg ho hx hr
 intro ba N;exact wW<|wK zO<|yZ<|hx _ _ (zE N).symm H
def sA(p:zC):Option (Bool):=do
 let t16<-(do
  let y<-kY p.Arrays;if(!y) then pure true
  else
   pure (decide ((p.Parts.length:Int)>4))
    : Option Bool)
 if t16 then pure false
 else
  match<-vL p 0 0 with
  | .ret r0=>pure r0
  | .done total1=>
   pure (decide (total1<=120))
theorem zAA:∀p r,sA p=some r->∀{I:Imm}{p1 c p2 c1},(S4 I p1 p.Arrays c)->(S4 I p2 p.Parts c1)->RT 57 [vA (cProg p p1 c p2 c1)] I [] (zW  r):=by
 intro p r N I p1 c p2 c1 h h1;unfold sA at N;refine yM func57 λB=>?_;have H:=iS I;refine yD<|vC (cProg p p1 c p2 c1) ?_;intro b hb;refine wM [] []<|yA<|yC ?_;refine vQ N [hB b (cProg p p1 c p2 c1)] (λt16=>[(1,vP b 0),(16,.bool t16)]) (λo0 aA=>?_) ?_
 ·have H:=iS I;refine zL<|yG 2 [0] [8] rfl ?_;obtain⟨y,hy,N⟩:=zB aA;refine tA (zGz p.Arrays _ hy h) ?_;intro aP le;have H:=H.trans le;refine yG 5 [] [11] rfl<|wR [11] N ?_ ?_
  ·intro hc N;exact wM [] [(16,vY)]<|yZ<|zU (ct N H)
  intro hc N;exact yQ [0] [16] rfl<|yZ<|zU (ct N H)
 intro t16 I0 aa aX;have ⟨h,h1⟩:=m2 aa h h1;refine zK<|yH aX ?_ ?_
 ·intro aH N;refine wZ [(2,vF)]<|xH<|zJ ?_;obtain rfl:=zE N;exact vH
 intro aH N;refine zT<|vM [3] rfl<|yA<|yK [4] rfl<|wN<|qX [(1,vP b 0),(3,vI 0),(4,vI 0)] ?_;obtain⟨aU,aB,aE⟩:=zB N;refine zCu p 0 0 aU aB iR h h1 nG nO ?_ ?_
 ·intro bG total1 heq1 aY;subst aU;refine zS<|vM [2] rfl<|zK<|xD ?_;obtain rfl:=zE aE;exact vH
 intro r0 I9 hs9 m9 aT le9 aV;subst aT;refine zV<|zJ ?_;obtain rfl:=zE aE;exact jW aV
def mR(nest:(List zG))(out:Str)(i:Int):Option (Str):=do
 if(decide (i<(nest.length:Int))) then
  let s<-cat out (⟨[102,111,114,32]⟩:Str);let x<-idx nest i;let y<-nE x.Lo;let s1<-cat s y;let s2<-cat s1 (⟨[32]⟩:Str);let x1<-idx nest i;let y1<-nE x1.Hi;let s3<-cat s2 y1;let s4<-cat s3 (⟨[10]⟩:Str);mR nest s4 (W (i+1))
 else pure (id out)
 partial_fixpoint
theorem zGP(nest:(List zG)):∀(out:Str) (i:Int) (o:Str),mR nest out i=some o->∀{B}{I0 I:Imm}{Q p c},I0.le I->(S4 I p nest c)->NG Q->NO Q->(∀I' aj,o=aj->I0.le I'->T 30 B Q (.exit 0) I' [] [(3,vT aj.l)])->J Tryz.prog 30 B (nav (bodyOf f215) [1,1,0,1,0]) Q I [] [(0,vS p nest c),(3,vT out.l),(4,vI i)]:=by
 refine mR.partial_correctness nest _ λaJ ih out i o N B I0 I Q p c H h hg ho hx=>yX hg ho<|yC<|yK [8] rfl<|zK<|yH N ?_ ?_
 ·intro hc N;refine zT<|yA<|yL ?_;obtain⟨s,hy,N⟩:=zB N;obtain⟨x,az,N⟩:=zB N;obtain⟨y,aG,N⟩:=zB N;obtain⟨s1,bh,N⟩:=zB N;obtain⟨s2,bu,N⟩:=zB N;obtain⟨x1,bC,N⟩:=zB N;obtain⟨y1,hy6,N⟩:=zB N;obtain⟨s3,hy7,N⟩:=zB N;obtain⟨s4,hy8,N⟩:=zB N;refine wP [.p (vT out.l) [],.q (vT s.l),.p (vS p nest c) [],.p (vI i) [],.x (ePLoop x),.x (ePLoop x),.x (eS x.Lo),.q (vT y.l),.q (vT s1.l),.q (vT s2.l),.p (vS p nest c) [],.p (vI i) [],.x (ePLoop x1),.x (eQLoop 1 x1),.x (eS x1.Hi),.q (vT y1.l),.q (vT s3.l),.q (vT s4.l)] [[],[(0,false)],[],[],[(2,false),(3,false)],[(4,false)],[(5,false)],[(6,false)],[(1,false),(7,false)],[(8,false)],[],[],[(10,false),(11,false)],[(12,false)],[(13,false)],[(14,false)],[(9,false),(15,false)],[(16,false)]] [] [] [(17,false)] zO ?_ ?_
  ·refine Op<|Oq ?_<|O2<|Ox ?_<|Ox ?_<|Ox ?_<|Oq ?_<|Oq ?_<|Oq ?_<|O2<|Ox ?_<|Ox ?_<|Ox ?_<|Oq ?_<|Oq ?_<|Oq ?_<|On
   ·intro I1 hf aa;exact yW [11] rfl<|fY rfl hy<|xO iR
   ·intro I1 hf aa;refine yW [13,14] rfl ?_;have h:=h.mono aa;refine xW rfl rfl h az ?_;intro ad aN aq am;obtain⟨p1,c1,p2,c2,rfl,h1,h2⟩:=vD am;exact yN [] iR ⟨_,_,_,_,_,rfl,rfl,aq,h1,h2⟩
   ·rintro I1 hf aa _ _ ⟨ad,p1,c1,p2,c2,rfl,rfl,aq,h1,h2⟩;exact yW [15] rfl<|oN 6 [(16,.pointer (some ad))]<|yN [] iR ⟨_,_,_,_,_,rfl,rfl,aq,h1,h2⟩
   ·rintro I1 hf aa _ _ ⟨ad1,aF,aQ,p21,c21,rfl,rfl,aw,h11,h21⟩;exact yW [16] rfl<|xM 0 aw [vS aF x.Lo aQ] (vS aF x.Lo aQ) rfl<|yN [] iR ⟨_,_,rfl,rfl,h11⟩
   ·rintro I1 hf aa _ _ ⟨p111,c111,rfl,rfl,h111⟩;refine yW [17] rfl ?_;have H:=iS I1;refine xK (zA9 x.Lo _ aG h111) ?_;rintro I0 ax v2 k2 le - ⟨v02,rfl,rfl,rfl⟩ -;have H:=H.trans le;exact xO H
   ·intro I1 hf aa;exact yW [12,18] rfl<|fY rfl bh<|xO iR
   ·intro I1 hf aa;exact yW [19] rfl<|fY rfl bu<|xO iR
   ·intro I1 hf aa;refine yW [21,22] rfl ?_;have h:=h.mono aa;refine xW rfl rfl h bC ?_;intro ad2 bq bk ay;obtain⟨p3,c3,p4,c4,rfl,h4,h5⟩:=vD ay;exact yN [] iR ⟨_,_,_,_,_,rfl,rfl,bk,h4,h5⟩
   ·rintro I1 hf aa _ _ ⟨ad2,p3,c3,p4,c4,rfl,rfl,bk,h4,h5⟩;exact yW [23] rfl<|oN 14 [(24,.pointer (some (ad2.add 1)))]<|yN [] iR ⟨_,_,_,_,_,rfl,rfl,bk,h4,h5⟩
   ·rintro I1 hf aa _ _ ⟨ad21,p31,c31,p41,c41,rfl,rfl,hat21,h41,h51⟩;exact yW [24] rfl<|xM 1 hat21 [vS p41 x1.Hi c41] (vS p41 x1.Hi c41) rfl<|yN [] iR ⟨_,_,rfl,rfl,h51⟩
   ·rintro I1 hf aa _ _ ⟨p411,c411,rfl,rfl,h511⟩;refine yW [25] rfl ?_;have H:=iS I1;refine xK (zA9 x1.Hi _ hy6 h511) ?_;rintro aP ax v2 k2 aa - ⟨v05,rfl,rfl,rfl⟩ -;have H:=H.trans aa;exact xO H
   ·intro I1 hf aa;exact yW [20,26] rfl<|fY rfl hy7<|xO iR
   intro I1 hf aa;exact yW [27] rfl<|fY rfl hy8<|xO iR
  intro aW aC;refine yW [0,4,28] rfl ?_;have ⟨h,H⟩:=m2 aC h H;exact yQ [] [3] rfl<|zN<|zK<|zL<|yQ [] [4] rfl<|yV<|nX<|ih s4 (W (i+1)) _ N H h hg ho hx
 intro hc N;exact wW<|yZ<|hx _ _ (zE N).symm H
def zAV(nest:(List zG)):Option (Str):=do
 let aj<-mR nest (⟨[]⟩:Str) 0;pure (id aj)
theorem zI8:∀nest r,zAV nest=some r->∀{I:Imm}{p c},(S4 I p nest c)->RT 215 [vS p nest c] I [] (rJ  r):=by
 intro nest r N I p c h;unfold zAV at N;refine yM func215 λB=>wZ []<|vM [3] rfl<|yA<|yK [4] rfl<|wN<|qX [(0,vS p nest c),(3,vT ([])),(4,vI 0)] ?_;obtain⟨o0,aA,aE⟩:=zB N;refine zGP nest (⟨[]⟩:Str) 0 o0 aA iR h nG nO ?_;intro bx aj heq aI;subst o0;refine zS<|vM [2] rfl<|zK<|xD ?_;obtain rfl:=zE aE;exact vH
def sK(p:zC)(i:Int)(ar:Str)(k0:Int):Option (Str):=do
 let x1<-idx p.Arrays i;if(decide (k0<(x1.Dims.length:Int))) then
  let s2<-cat ar (⟨[32]⟩:Str);let x2<-idx p.Arrays i;let x3<-idx x2.Dims k0;let y1<-pR x3;let s3<-cat s2 y1;sK p i s3 (W (k0+1))
 else pure (id ar)
 partial_fixpoint
theorem zCW(p:zC)(i:Int):∀(ar:Str) (k0:Int) (o:Str),sK p i ar k0=some o->∀{B}{I0 I:Imm}{Q p1 c p2 c1}{b},I0.le I->(S4 I p1 p.Arrays c)->(S4 I p2 p.Parts c1)->NG Q->NO Q->(∀I' bi,o=bi->I0.le I'->T 103 B Q (.exit 2) I' [hB b (cProg p p1 c p2 c1)] [(1,vP b 0),(3,vT bi.l),(4,vI i)])->J Tryz.prog 103 B (nav (bodyOf f176) [1,1,1,0,1,0,0,1,0,0,1,0,1,0]) Q I [hB b (cProg p p1 c p2 c1)] [(1,vP b 0),(3,vT ar.l),(4,vI i),(5,vI k0)]:=by
 refine sK.partial_correctness p i _ λaJ ih ar k0 o N B I0 I Q p1 c p2 c1 b H h h1 hg ho hx=>yX hg ho<|yC<|yD<|yG 4 [0] [28,30,31] rfl<|bE N λx1 bu N=>xW rfl rfl h bu ?_;intro ad1 bq aw ay;obtain⟨p4,c3,rfl,h4⟩:=wH ay;refine yG 6 [] [33] rfl<|xM 1 aw [vS p4 x1.Dims c3] (vS p4 x1.Dims c3) rfl<|yQ [] [36] rfl<|zK<|yH N ?_ ?_
 ·intro ba N;refine zT<|yA<|yL<|zL<|yG 1 [] [39] rfl<|bE N λs2 bC N=>fY rfl bC<|yG 5 [0] [42,43] rfl<|bE N λx2 hy6 N=>xW rfl rfl h hy6 ?_;intro ad2 bL bk br;obtain⟨p5,c4,rfl,h5⟩:=wH br;refine yG 7 [] [45] rfl<|xM 1 bk [vS p5 x2.Dims c4] (vS p5 x2.Dims c4) rfl<|yG 9 [] [47] rfl<|bE N λx3 hy7 N=>xW rfl rfl h5 hy7 ?_;intro ad3 ccs3 hat3 bB;obtain rfl:=bB;refine xM 0 hat3 [vI x3] (vI x3) rfl<|bE N λy1 hy8 N=>xK (zAl x3 _ hy8 ) ?_;rintro aP ax v2 k2 aa - ⟨v04,rfl,rfl,rfl⟩ -;have ⟨h,h1,H⟩:=m3 aa h h1 H;obtain⟨s3,hy9,N⟩:=zB N;exact fY rfl hy9<|yQ [] [3] rfl<|zN<|zK<|zL<|yQ [] [5] rfl<|yV<|nX<|ih s3 (W (k0+1)) _ N H h h1 hg ho hx
 intro ba N;exact wW<|yZ<|hx _ _ (zE N).symm H
def sL(p:zC)(out:Str)(i:Int):Option (Str):=do
 if(decide (i<(p.Arrays.length:Int))) then
  let s<-cat out (⟨[97,114,114,97,121,32]⟩:Str);let x<-idx p.Arrays i;let s1<-cat s x.Name;let bi<-sK p i s1 0;let s4<-cat bi (⟨[10]⟩:Str);sL p s4 (W (i+1))
 else pure (id out)
 partial_fixpoint
theorem zCX(p:zC):∀(out:Str) (i:Int) (o:Str),sL p out i=some o->∀{B}{I0 I:Imm}{Q p1 c p2 c1}{b},I0.le I->(S4 I p1 p.Arrays c)->(S4 I p2 p.Parts c1)->NG Q->NO Q->(∀I' aj,o=aj->I0.le I'->T 103 B Q (.exit 0) I' [hB b (cProg p p1 c p2 c1)] [(1,vP b 0),(3,vT aj.l)])->J Tryz.prog 103 B (nav (bodyOf f176) [1,1,1,0,1,0]) Q I [hB b (cProg p p1 c p2 c1)] [(1,vP b 0),(3,vT out.l),(4,vI i)]:=by
 refine sL.partial_correctness p _ λaJ ih out i o N B I0 I Q p1 c p2 c1 b H h h1 hg ho hx=>yX hg ho<|yC<|yD<|yQ [0] [16] rfl<|zK<|yH N ?_ ?_
 ·intro aH N;refine zT<|yA<|yL<|yD<|yG 1 [] [19] rfl<|bE N λs az N=>fY rfl az<|yG 5 [0] [22,23] rfl<|bE N λx aG N=>xW rfl rfl h aG ?_;intro ad aN aq am;obtain⟨p3,c2,rfl,h3⟩:=wH am;refine yG 7 [] [25] rfl<|xM 0 aq [vT x.Name.l] (vT x.Name.l) rfl<|bE N λs1 bh N=>fY rfl bh<|yQ [] [3] rfl<|yA<|yK [5] rfl<|wN<|qX [(1,vP b 0),(3,vT s1.l),(4,vI i),(5,vI 0)] ?_;obtain⟨o0,aA,aE⟩:=zB N;refine zCW p i s1 0 o0 aA iR h h1 (λ_ _ _ h=>hg _ _ _ h) (λ_ _ h=>ho _ _ h) ?_;intro aW bi heq aC;subst o0;have ⟨h,h1,H⟩:=m3 aC h h1 H;refine zS<|zK<|zL<|yG 1 [] [52] rfl ?_;obtain⟨s4,hy10,N⟩:=zB aE;exact fY rfl hy10<|yQ [] [3] rfl<|zN<|zK<|zL<|yQ [] [4] rfl<|yV<|nX<|ih s4 (W (i+1)) _ N H h h1 hg ho hx
 intro aH N;exact wW<|yZ<|hx _ _ (zE N).symm H
def sM(p:zC)(i1:Int)(out6:Str)(k01:Int):Option (Str):=do
 let x5<-idx p.Parts i1;if(decide (k01<(x5.Body.length:Int))) then
  let x6<-idx p.Parts i1;let x7<-idx x6.Body k01;let y3<-pH x7.Write;let s7<-cat out6 y3;let s8<-cat s7 (⟨[61]⟩:Str);let y4<-pS x7.Value;let s9<-cat s8 y4;let s10<-cat s9 (⟨[10]⟩:Str);sM p i1 s10 (W (k01+1))
 else pure (id out6)
 partial_fixpoint
theorem zCY(p:zC)(i1:Int):∀(out6:Str) (k01:Int) (o:Str),sM p i1 out6 k01=some o->∀{B}{I0 I:Imm}{Q p1 c p2 c1}{b},I0.le I->(S4 I p1 p.Arrays c)->(S4 I p2 p.Parts c1)->NG Q->NO Q->(∀I' out7,o=out7->I0.le I'->T 103 B Q (.exit 6) I' [hB b (cProg p p1 c p2 c1)] [(1,vP b 0),(3,vT out7.l),(6,vI i1)])->J Tryz.prog 103 B (nav (bodyOf f176) [1,1,1,1,0,1,0,0,1,0,0,1,1,0]) Q I [hB b (cProg p p1 c p2 c1)] [(1,vP b 0),(3,vT out6.l),(6,vI i1),(7,vI k01)]:=by
 refine sM.partial_correctness p i1 _ λaJ ih out6 k01 o N B I0 I Q p1 c p2 c1 b H h h1 hg ho hx=>yX hg ho<|yC<|yD<|yG 4 [0] [71,73,74] rfl<|bE N λx5 hy15 N=>xW rfl rfl h1 hy15 ?_;intro ad5 ccs5 hat5 hrep5;obtain⟨p8,c7,p9,c8,rfl,h10,h11⟩:=wI hrep5;refine yG 6 [] [76] rfl<|xM 1 hat5 [vS p9 x5.Body c8] (vS p9 x5.Body c8) rfl<|yQ [] [79] rfl<|zK<|yH N ?_ ?_
 ·intro bJ N;refine zT<|yA<|yL<|yD<|yG 3 [0] [83,84] rfl<|bE N λx6 hy16 N=>xW rfl rfl h1 hy16 ?_;intro ad6 ccs6 hat6 hrep6;obtain⟨aL,c9,aF,aO,rfl,h12,h13⟩:=wI hrep6;refine yG 5 [] [86] rfl<|xM 1 hat6 [vS aF x6.Body aO] (vS aF x6.Body aO) rfl<|yG 7 [] [88] rfl<|bE N λx7 hy17 N=>xW rfl rfl h13 hy17 ?_;intro ad7 ccs7 hat7 hrep7;obtain⟨bj,aQ,bc,aZ,p14,bd,p15,c14,rfl,h14,h15,h16,h17⟩:=vG hrep7;refine xM 0 hat7 (cStmt x7 bj aQ bc aZ p14 bd p15 c14) (vA (cStmt x7 bj aQ bc aZ p14 bd p15 c14)) rfl<|xY [vT ([]),z0,vI 0,vI 0,z0,vI 0,vT ([]),z0,z0] ?_;intro b1 hb1;refine xC 0 (cStmt x7 bj aQ bc aZ p14 bd p15 c14) rfl<|zY rfl<|zK ?_;obtain⟨y3,hy18,N⟩:=zB N;obtain⟨s7,hy19,N⟩:=zB N;obtain⟨s8,hy20,N⟩:=zB N;obtain⟨y4,hy21,N⟩:=zB N;obtain⟨s9,hy22,N⟩:=zB N;obtain⟨s10,hy23,N⟩:=zB N;refine wP [.p (vT out6.l) [],.p (vP b1 0) [],.p (vA (cAccess x7.Write bj aQ)) [0],.q (vT y3.l),.q (vT s7.l),.q (vT s8.l),.p (vP b1 2) [],.p (vA (cExpr x7.Value bc aZ p14 bd p15 c14)) [0],.q (vT y4.l),.q (vT s9.l),.q (vT s10.l)] [[],[],[(1,false)],[(2,false)],[(0,false),(3,false)],[(4,false)],[],[(6,false)],[(7,false)],[(5,false),(8,false)],[(9,false)]] [hB b1 (cStmt x7 bj aQ bc aZ p14 bd p15 c14),hB b (cProg p p1 c p2 c1)] [] [(10,false)] (zZ [0,1]) ?_ ?_
  ·refine O3<|Oq ?_<|Oq ?_<|Oq ?_<|O2<|Oq ?_<|Oq ?_<|Oq ?_<|On
   ·intro I1 hf aa;refine yW [93] rfl ?_;have H:=iS I1;have h14:=h14.mono aa;refine xK (dY x7.Write _ hy18 h14) ?_;rintro bK ax v2 k2 bo - ⟨v016,rfl,rfl,rfl⟩ -;have H:=H.trans bo;exact xO H
   ·intro I1 hf aa;exact yW [91,94] rfl<|fY rfl hy19<|xO iR
   ·intro I1 hf aa;exact yW [95] rfl<|fY rfl hy20<|xO iR
   ·intro I1 hf aa;refine yW [98] rfl ?_;have H:=iS I1;have ⟨h15,h16,h17⟩:=m3 aa h15 h16 h17;refine xK (zED x7.Value _ hy21 h15 h16 h17) ?_;rintro I06 ax v2 k2 bv - ⟨v017,rfl,rfl,rfl⟩ -;have H:=H.trans bv;exact xO H
   ·intro I1 hf aa;exact yW [96,99] rfl<|fY rfl hy22<|xO iR
   intro I1 hf aa;exact yW [100] rfl<|fY rfl hy23<|xO iR
  intro I07 le7;refine yW [1,6,7,101] rfl ?_;have ⟨h,h1,H⟩:=m3 le7 h h1 H;exact yQ [] [3] rfl<|zN<|zK<|zL<|yQ [] [7] rfl<|yV<|qZ (zX [1] rfl (by decide))<|nX<|ih s10 (W (k01+1)) _ N H h h1 hg ho hx
 intro bJ N;exact wW<|yZ<|hx _ _ (zE N).symm H
def sN(p:zC)(bw:Str)(i1:Int):Option (Str):=do
 if(decide (i1<(p.Parts.length:Int))) then
  let s5<-cat bw (⟨[112,97,114,116,10]⟩:Str);let x4<-idx p.Parts i1;let y2<-zAV x4.Nest;let s6<-cat s5 y2;let out7<-sM p i1 s6 0;sN p out7 (W (i1+1))
 else pure (id bw)
 partial_fixpoint
theorem zCZ(p:zC):∀(bw:Str) (i1:Int) (o:Str),sN p bw i1=some o->∀{B}{I0 I:Imm}{Q p1 c p2 c1}{b},I0.le I->(S4 I p1 p.Arrays c)->(S4 I p2 p.Parts c1)->NG Q->NO Q->(∀I' out5,o=out5->I0.le I'->T 103 B Q (.exit 4) I' [] [(3,vT out5.l)])->J Tryz.prog 103 B (nav (bodyOf f176) [1,1,1,1,0,1,0]) Q I [hB b (cProg p p1 c p2 c1)] [(1,vP b 0),(3,vT bw.l),(6,vI i1)]:=by
 refine sN.partial_correctness p _ λaJ ih bw i1 o N B I0 I Q p1 c p2 c1 b H h h1 hg ho hx=>yX hg ho<|yC<|yD<|yQ [0] [58] rfl<|zK<|yH N ?_ ?_
 ·intro bD N;refine zT<|yA<|yL<|yD<|yG 1 [] [61] rfl<|bE N λs5 hy11 N=>fY rfl hy11<|yG 5 [0] [64,65] rfl<|bE N λx4 hy12 N=>xW rfl rfl h1 hy12 ?_;intro ad4 ccs4 hat4 hrep4;obtain⟨p6,c5,p7,c6,rfl,h7,h8⟩:=wI hrep4;refine yG 7 [] [67] rfl<|xM 0 hat4 [vS p6 x4.Nest c5] (vS p6 x4.Nest c5) rfl<|bE N λy2 hy13 N=>xK (zI8 x4.Nest _ hy13 h7) ?_;rintro bG ax v2 k2 aY - ⟨v07,rfl,rfl,rfl⟩ -;have ⟨h,h1,H⟩:=m3 aY h h1 H;obtain⟨s6,hy14,N⟩:=zB N;refine fY rfl hy14<|yQ [] [3] rfl<|vM [7] rfl<|wN<|qX [(1,vP b 0),(3,vT s6.l),(6,vI i1),(7,vI 0)] ?_;obtain⟨o02,ho02,hMl2⟩:=zB N;refine zCY p i1 s6 0 o02 ho02 iR h h1 (λ_ _ _ h=>hg _ _ _ h) (λ_ _ h=>ho _ _ h) ?_;intro I08 out7 heq2 le8;subst o02;have ⟨h,h1,H⟩:=m3 le8 h h1 H;exact zS<|zN<|zK<|zL<|yQ [] [6] rfl<|yV<|nX<|ih out7 (W (i1+1)) _ hMl2 H h h1 hg ho hx
 intro bD N;exact wW<|wK zO<|yZ<|hx _ _ (zE N).symm H
def kM(p:zC):Option (Str):=do
 let y<-sA p;if(!y) then pure (⟨[]⟩:Str)
 else
  let aj<-sL p (⟨qL0⟩:Str) 0;let out5<-sN p aj 0;pure (id out5)
theorem zDd:∀p r,kM p=some r->∀{I:Imm}{p1 c p2 c1},(S4 I p1 p.Arrays c)->(S4 I p2 p.Parts c1)->RT 176 [vA (cProg p p1 c p2 c1)] I [] (rJ  r):=by
 intro p r N I p1 c p2 c1 h h1;unfold kM at N;refine yM func176 λB=>yD<|vC (cProg p p1 c p2 c1) ?_;intro b hb;refine wM [] []<|yA<|yD<|uW 1 [0] [(9,vA (cProg p p1 c p2 c1))]<|bE N λy hy N=>tA (zAA p _ hy h h1) ?_;intro I0 le;have ⟨h,h1⟩:=m2 le h h1;refine yQ [] [11] rfl<|zK<|yH N ?_ ?_
 ·intro hc N;refine yK [2] rfl<|xH<|zJ ?_;obtain rfl:=zE N;exact vH
 intro hc N;refine zT<|vM [3] rfl<|yA<|yK [4] rfl<|wN<|qX [(1,vP b 0),(3,vT (qL0)),(4,vI 0)] ?_;obtain⟨aU,aB,hMl1⟩:=zB N;refine zCX p (⟨qL0⟩:Str) 0 aU aB iR h h1 nG nO ?_;intro bx aj heq1 aI;subst aU;have ⟨h,h1⟩:=m2 aI h h1;refine zS<|yA<|yK [6] rfl<|wN<|qX [(1,vP b 0),(3,vT aj.l),(6,vI 0)] ?_;obtain⟨o03,ho03,hMl3⟩:=zB hMl1;refine zCZ p aj 0 o03 ho03 iR h h1 nG nO ?_;intro I09 out5 heq3 le9;subst o03;refine zS<|vM [2] rfl<|zK<|xD ?_;obtain rfl:=zE hMl3;exact vH
instance zNN{cs}{arr:List zD}{au}{al:List Raw2}{parts:List zF}{vN:Value}{nl:List zG}{vB:Value}{bl:List zI}{csN csB:List Value}:MonoI (λi=>L4 i cs arr au al parts vN nl vB bl csN csB):=⟨λ_ _ hl h=>h.mono hl⟩
def zDO(r:zC×Bool):KT:=λkk I' ag v=>
 ∃(v0 v1:Value),ag=[]/\v=tupV [v0,v1]/\(∃cs,v0=.agg ⟨cs⟩/\Rp.rep I' cs r.1)/\v1=.bool r.2
def qW(y:List Str)(p:zC)(i:Int):Option zC:=do
 if(decide ((W (i+1))<(y.length:Int))) then
  let x<-idx y i;let p1<-zAU p x;qW y p1 (W (i+1))
 else pure p
 partial_fixpoint
theorem zCv(y:List Str):∀(p:zC) (i:Int) (o:zC),qW y p i=some o->∀{B}{I0 I:Imm}{Q}{bm:Str}{pl cl}{b b1:Nat}{p1 c cs p2 c1 au}{al:List Raw2}{vN vB:Value}{nl:List zG}{bl:List zI}{csN csB:List Value},I0.le I->(S4 I pl y cl)->L4 I cs p.Arrays au al p.Parts vN nl vB bl csN csB->(∀l a w,¬Q (.goto l) a w)->(∀a w,¬Q .outgrown a w) ->
 (∀(I':Imm) (p1:Option Addr) (c:Nat) (cs:List Value) (p2:Option Addr) (c1:Nat) (au:List Value) (al:List Raw2) (vN vB:Value) (nl:List zG) (bl:List zI) (csN csB:List Value),I0.le I'->L4 I' cs o.Arrays au al o.Parts vN nl vB bl csN csB->T 37 B Q (.exit 0) I' [hO zD (vS p1 o.Arrays c) cs,hO Raw2 (vS p2 al c1) au,hO zG vN csN,hO zI vB csB,hB b1 [vS p1 o.Arrays c,vS p2 al c1],hB b zTwo] [(0,vT bm.l),(2,vP b 0),(5,vP b1 0)]) ->
 J Tryz.prog 37 B (nav (bodyOf f137) [1,1,1,1,0,1,0]) Q I [hO zD (vS p1 p.Arrays c) cs,hO Raw2 (vS p2 al c1) au,hO zG vN csN,hO zI vB csB,hB b1 [vS p1 p.Arrays c,vS p2 al c1],hB b zTwo] [(0,vT bm.l),(2,vP b 0),(4,vS pl y cl),(5,vP b1 0),(6,vI i)]:=by
 refine qW.partial_correctness y _ ?_
 intro aJ ih p i o N B I0 I Q bm pl cl b b1 p1 c cs p2 c1 au al vN vB nl bl csN csB H h hQ hg ho hx
 refine yX hg ho<|yC<|yK [18] rfl<|zK<|yH N ?_ ?_
 ·intro aH N
  refine zT<|yA<|yL ?_
  obtain⟨x,hy,N⟩:=zB N
  obtain⟨q,az,N⟩:=zB N
  refine wP [.p (vA [vS p1 p.Arrays c,vS p2 al c1]) [0],.p (vS pl y cl) [],.p (vI i) [],.x (λI' v hx=>∃ad,v=.pointer (some ad)/\hx=[]/\(At I' ad [vT x.l])),.x (λI' v hx=>v=vT x.l/\hx=[]),.x (λI' v hx=>∃(p1:Option Addr) (c:Nat) (cs:List Value) (p2:Option Addr) (c1:Nat) (au:List Value) (al:List Raw2) (vN vB:Value) (nl:List zG) (bl:List zI) (csN csB:List Value),v=vA [vS p1 q.Arrays c,vS p2 al c1]/\hx=[hO zD (vS p1 q.Arrays c) cs,hO Raw2 (vS p2 al c1) au,hO zG vN csN,hO zI vB csB]/\L4 I' cs q.Arrays au al q.Parts vN nl vB bl csN csB)] [[],[],[],[(1,false),(2,false)],[(3,false)],[(0,false),(4,false),(7,true)]] [hB b1 [vS p1 p.Arrays c,vS p2 al c1],hB b zTwo] [[hO zD (vS p1 p.Arrays c) cs,hO Raw2 (vS p2 al c1) au,hO zG vN csN,hO zI vB csB]] [(5,true)] (zZ [4,5,0,1,2,3]) ?_ ?_
  ·refine O3<|Ox ?_<|Ox ?_<|Ox (hm:=λv hx=>by repeat' (first|exact zHY|exact zNN|refine @zK0 _ _ (λ_=>?_)|refine @zJb _ _ ?_ ?_)) ?_<|On
   ·intro I1 hf aa
    refine yW [22,23] rfl<|xW rfl rfl (h.mono aa) hy ?_
    intro ad aN aq am
    obtain rfl:=am
    exact yN [] iR ⟨_,rfl,rfl,aq⟩
   ·intro I1 hf aa
    refine xG ?_
    rintro _ _ ⟨ad,rfl,rfl,aq⟩
    exact uB<|zBI [(24,.pointer (some ad))]<|xM 0 aq [vT x.l] (vT x.l) rfl<|xO iR
   intro I1 hf aa
   refine xG ?_
   rintro _ _ ⟨rfl,rfl⟩
   refine xG ?_
   rintro _ _ ⟨rfl,rfl⟩
   refine xG ?_
   rintro _ _ rfl
   refine yW [21,25] rfl<|qB (zI5 p x _ az (hQ.mono aa)) rfl ?_
   rintro aW ax v2 k2 aC - ⟨p3,c2,aR,p4,c3,aM,raws1,vN1,vB1,nl1,bl1,csN1,csB1,rfl,rfl,hq⟩ -
   exact yN [hO zD (vS p3 q.Arrays c2) aR,hO Raw2 (vS p4 raws1 c3) aM,hO zG vN1 csN1,hO zI vB1 csB1] aC ⟨_,_,_,_,_,_,_,_,_,_,_,_,_,rfl,rfl,hq⟩
  intro bG aY
  refine xG ?_
  rintro _ _ ⟨p3,c2,aR,p4,c3,aM,raws1,vN1,vB1,nl1,bl1,csN1,csB1,rfl,rfl,hq⟩
  exact uB<|zBI [(0,vT bm.l),(2,vP b 0),(4,vS pl y cl),(5,vP b1 0),(6,vI i),(26,vA [vS p3 q.Arrays c2,vS p4 raws1 c3])]<|xC 4 [vS p3 q.Arrays c2,vS p4 raws1 c3] rfl<|zY rfl<|zN<|zK<|zL<|yQ [] [6] rfl<|yV<|nX<|ih _ _ _ N (H.trans aY) (h.mono aY) hq hg ho hx
 intro aH N
 obtain rfl:=zE N
 exact wW<|yZ<|hx _ _ _ _ _ _ _ _ _ _ _ _ _ _ H hQ
def jE(bm:Str):Option (zC×Bool):=do
 let y<-fB bm (10:UInt8);if(decide ((y.length:Int)>42)) then pure ((zC.mk [] []),false)
 else
  let p<-qW y (zC.mk [] []) 1;let t34<-(do
   if(bm.l==([]:List UInt8)) then pure true
   else
    let z<-kM p;pure (!(z.l==bm.l))
     : Option Bool)
  if t34 then pure ((zC.mk [] []),false)
  else pure (p,true)
theorem zEH:∀bm r,jE bm=some r->∀{I:Imm},RT 137 [vT bm.l] I [] (zDO r):=by
 intro bm r N I;unfold jE at N;refine yM func137 λB=>yD<|xY zTwo ?_;intro b hb;refine wM [] []<|yY<|yG 1 [] [7] rfl<|bE N λy hy N=>xK (zBj bm (10:UInt8) _ hy) ?_;rintro I0 ax v2 k2 le - ⟨v0,rfl,rfl,h⟩ -;obtain⟨pl,cl,rfl⟩:=h.form;refine yQ [] [4] rfl<|yY<|yG 1 [] [9] rfl<|xY zTwo ?_;intro b1 hb1;refine jV 0 zTwo [hB b1 zTwo,hB b zTwo] rfl rfl rfl rfl<|zY rfl<|yA<|yK [12] rfl<|zK<|yH N ?_ ?_
 ·intro hc N;refine yD<|uW 1 [0] [(13,vA zTwo)]<|jV 1 zTwo [hB b1 zTwo,hB b zTwo] rfl rfl rfl rfl<|wM [] [(3,vF)]<|xH<|zJ ?_;exact xX N (resE 1 rfl rfl rfl) zO ⟨_,_,rfl,rfl,⟨_,rfl,(xJ ⟨_,_,rfl,(SL.nil _),(SL.nil _)⟩)⟩,rfl⟩
 intro hc N;refine zT<|yA<|yK [6] rfl<|wN<|qX [(0,vT bm.l),(2,vP b 0),(4,vS pl y cl),(5,vP b1 0),(6,vI 1)]<|qZ (fN (Rp.sz zI))<|qZ (fN (Rp.sz zG))<|qZ (fN (Rp.sz Raw2))<|qZ (fN (Rp.sz zD))<|bE N λp az N=>zCv (al:=[]) (vN:=z0) (vB:=z0) (nl:=[]) (bl:=[]) y (zC.mk [] []) 1 p az iR h ⟨RepL.nil,RepL.nil,⟨by decide,rfl,.inl ⟨rfl,rfl⟩⟩,RepL.nil,RepL.nil⟩ nG nO λI1 p1 c cs p2 c1 au al vN vB nl bl csN csB aa hQ=>xB 2 rfl ?_;intro I2 aC hl2;have kN:=SL.of_frozen hl2 aC hQ.n;have hQ:=hQ.mono aC;refine xB 2 rfl ?_;intro I3 aI hl3;have kB:=SL.of_frozen hl3 aI hQ.b;replace kN:=kN.mono aI;have hQ:=hQ.mono aI;refine xB 0 rfl ?_;intro I4 aY hl4;have kA:=SL.of_frozen hl4 aY hQ.arr;replace kN:=kN.mono aY;replace kB:=kB.mono aY;have hQ:=hQ.mono aY;refine xB 0 rfl ?_;intro I5 bo hl5;have kP:SL I5 (vS p2 al c1) p.Parts:=⟨au,hl5,by
  rw[fO hQ.raw];exact(hQ.lp.done kN kB).mono λ_ _=>Rp.mono bo⟩
 have e0:vS p2 al c1=vS p2 p.Parts c1:=by simp only[vS,hQ.lp.2.1]
 rw[e0] at kP ⊢;clear e0 hl5 hl4 hl3 hl2 hQ;replace kA:=kA.mono bo;refine zS<|yA<|yC<|bE N λt34 ht N=>nP (K1 t34 I5 [hB b1 (cProg p p1 c p2 c1),hB b zTwo] λo=>[(2,vP b 0),(5,vP b1 0),(34,.bool o)]) ?_ ?_
 ·refine zL<|uW 3 [] [(29,.bool (bm.l==([]:List UInt8)))] ?_;cases ba:(bm.l==([]:List UInt8)) with
  | true=>
   have hM0:=rZ ba ht;exact wM [] [(34,vY)]<|yZ<|zU ⟨_,(zE hM0).symm,Imm.le.refl _,rfl,rfl⟩
  | false=>
   have hM0:=sP ba ht;obtain⟨z,hz,hM0⟩:=zB hM0;refine uW 4 [0] [(30,vA (cProg p p1 c p2 c1))]<|xK (zDd p _ hz kA kP) ?_;rintro I6 ax v2 k2 bv - ⟨v0,rfl,rfl,rfl⟩ -;exact yQ [] [34] rfl<|yZ<|zU (ct hM0 bv)
 rintro I6 ax m2 ⟨o,rfl,bv,rfl,rfl⟩;replace kA:=kA.mono bv;replace kP:=kP.mono bv;refine zK<|yH N ?_ ?_
 ·intro ba N;refine yD<|yG 1 [] [35] rfl<|jV 1 zTwo [hB b1 (cProg p p1 c p2 c1),hB b zTwo] rfl rfl rfl rfl<|wM [] [(3,vF)]<|xH<|zJ ?_;exact xX N (resE 1 rfl rfl rfl) zO ⟨_,_,rfl,rfl,⟨_,rfl,(xJ ⟨_,_,rfl,(SL.nil _),(SL.nil _)⟩)⟩,rfl⟩
 intro ba N;refine zT<|yY<|uW 1 [0] [(36,vA (cProg p p1 c p2 c1))]<|xC 1 (cProg p p1 c p2 c1) rfl<|wM [] [(3,vY)]<|zK<|xD ?_;exact xX N (resE 1 rfl rfl rfl) zO ⟨_,_,rfl,rfl,⟨_,rfl,(xJ ⟨_,_,rfl,kA,kP⟩)⟩,rfl⟩
def zCw(r:(List zD)):KT:=λkk I' ag v=>
 ∃v0,ag=[]/\v=tupV [v0]/\SL I' v0 r
def fF :Option ((List zD)):=do
 pure ([(zD.mk (⟨[65]⟩:Str) ([6]:List Int)),(zD.mk (⟨[66]⟩:Str) ([4,5]:List Int)),(zD.mk (⟨[67]⟩:Str) ([3]:List Int))]:List zD)
theorem zAo:∀r,fF =some r->∀{I:Imm} ,RT 177 [] I [] (zCw  r):=by
 intro  r N I;unfold fF at N;refine yM func177 λB=>wZ []<|yY<|uX [vI 6] Int ?_;intro b hb;have h:RL I [vI 6] ([6]:List Int):=rI [6];refine yG 2 [] [2] rfl<|uX [vI 4,vI 5] Int ?_;intro b1 hb1;have h1:RL I [vI 4,vI 5] ([4,5]:List Int):=rI [4,5];refine yG 4 [] [4] rfl<|uX [vI 3] Int ?_;intro b2 hb2;have h2:RL I [vI 3] ([3]:List Int):=rI [3];refine yG 6 [] [6] rfl<|xV 2 rfl ?_;intro I0 le hl0;have h3:=SL.of_frozen hl0 le h;have ⟨h1,h2⟩:=m2 le h1 h2;refine xV 1 rfl ?_;intro aP aa hl01;have h4:=SL.of_frozen hl01 aa h1;have ⟨h3,h2⟩:=m2 aa h3 h2;refine xV 0 rfl ?_;intro aW aC hl02;have h5:=SL.of_frozen hl02 aC h2;have ⟨h3,h4⟩:=m2 aC h3 h4;refine uX [vT ([65]),vS (some ⟨b,0,none⟩) ([6]:List Int) 1,vT ([66]),vS (some ⟨b1,0,none⟩) ([4,5]:List Int) 2,vT ([67]),vS (some ⟨b2,0,none⟩) ([3]:List Int) 1] zD ?_;intro b3 hb3;have h6:RL aW [vT ([65]),vS (some ⟨b,0,none⟩) ([6]:List Int) 1,vT ([66]),vS (some ⟨b1,0,none⟩) ([4,5]:List Int) 2,vT ([67]),vS (some ⟨b2,0,none⟩) ([3]:List Int) 1] ([(zD.mk (⟨[65]⟩:Str) ([6]:List Int)),(zD.mk (⟨[66]⟩:Str) ([4,5]:List Int)),(zD.mk (⟨[67]⟩:Str) ([3]:List Int))]:List zD):=⟨[vT ([65]),vS (some ⟨b,0,none⟩) ([6]:List Int) 1],_,rfl,rfl,(uP ⟨_,rfl,h3⟩),⟨[vT ([66]),vS (some ⟨b1,0,none⟩) ([4,5]:List Int) 2],_,rfl,rfl,(uP ⟨_,rfl,h4⟩),⟨[vT ([67]),vS (some ⟨b2,0,none⟩) ([3]:List Int) 1],_,rfl,rfl,(uP ⟨_,rfl,h5⟩),rfl⟩⟩⟩;refine yQ [] [0] rfl<|xH<|xB 0 rfl ?_;intro bx aI hl03;have h7:=SL.of_frozen hl03 aI h6;exact xX N (resT rfl) zO ⟨_,rfl,rfl,h7⟩
def pI(a0:zA)(x:Int)(b:zA)(y:Int)(i:Int)(Coefs:List Int):Option (List Int):=do
 if(decide (i<4)) then
  let x1<-idx a0.Coefs i;let x2<-idx b.Coefs i;let l<-app 8 Coefs ([(W ((W (x*x1))+(W (y*x2))))]:List Int);pI a0 x b y (W (i+1)) l
 else pure (id Coefs)
 partial_fixpoint
theorem zEI(a0:zA)(x:Int)(b:zA)(y:Int):∀(i:Int) (Coefs:List Int) (o:List Int),pI a0 x b y i Coefs=some o->∀{B}{I0 I:Imm}{Q p c p1 c1}{b1 b2 b3 b4}{p2 c2 cs},I0.le I->(S4 I p1 b.Coefs c1)->(S4 I p a0.Coefs c)->(RL I cs Coefs)->NG Q->NO Q->(∀I' Coefs1 p3 c3 au,o=Coefs1->I0.le I'->(RL I' au Coefs1)->T 46 B Q (.exit 0) I' [hO Int (vS p3 Coefs1 c3) au,hB b4 [vS p3 Coefs1 c3,vI (W ((W (x*a0.Const))+(W (y*b.Const))))],hB b3 [z0,vI 0]] [(8,vP b3 0),(9,vP b4 0)])->J Tryz.prog 46 B (nav (bodyOf f264) [1,1,0,1,0]) Q I [hO Int (vS p2 Coefs c2) cs,hB b4 [vS p2 Coefs c2,vI (W ((W (x*a0.Const))+(W (y*b.Const))))],hB b3 [z0,vI 0],hB b2 (cAff b p1 c1),hB b1 (cAff a0 p c)] [(1,vI x),(3,vI y),(4,vP b1 0),(6,vP b2 0),(8,vP b3 0),(9,vP b4 0),(10,vI i)]:=by
 refine pI.partial_correctness a0 x b y _ λaJ ih i Coefs o N B I0 I Q p c p1 c1 b1 b2 b3 b4 p2 c2 cs H h1 h h3 hg ho hx=>yX hg ho<|yC<|yK [22] rfl<|zK<|yH N ?_ ?_
 ·intro hc N;refine zT<|yA<|yL ?_;obtain⟨x1,hy,N⟩:=zB N;obtain⟨x2,az,N⟩:=zB N;obtain⟨l,aG,N⟩:=zB N;refine wP [.p (vP b4 0) [],.p (vS p2 Coefs c2) [0],.p (vI x) [],.p (vP b1 0) [],.p (vS p a0.Coefs c) [3],.p (vI i) [],.x (λI' v hx=>∃ad,v=.pointer (some ad)/\hx=[]/\(At I' ad [vI x1])),.q (vI x1),.p (vI (W (x*x1))) [],.p (vI y) [],.p (vP b2 0) [],.p (vS p1 b.Coefs c1) [2],.p (vI i) [],.x (λI' v hx=>∃ad1,v=.pointer (some ad1)/\hx=[]/\(At I' ad1 [vI x2])),.q (vI x2),.p (vI (W (y*x2))) [],.p (vI (W ((W (x*x1))+(W (y*x2))))) [],.x (λI' v hx=>∃b5,v=vS (some ⟨b5,0,none⟩) ([(W ((W (x*x1))+(W (y*x2))))]:List Int) 1/\hx=[]/\(SL I' (vS (some ⟨b5,0,none⟩) ([(W ((W (x*x1))+(W (y*x2))))]:List Int) 1) ([(W ((W (x*x1))+(W (y*x2))))]:List Int))),.x (λI' v hx=>∃p4 c4 aR,v=vS p4 l c4/\hx=[hO Int (vS p4 l c4) aR]/\(RL I' aR l))] [[],[(0,false)],[],[],[(3,false)],[],[(4,false),(5,false)],[(6,false)],[(2,false),(7,false)],[],[],[(10,false)],[],[(11,false),(12,false)],[(13,false)],[(9,false),(14,false)],[(8,false),(15,false)],[(16,false)],[(1,false),(17,false),(21,true)]] [hB b4 [vS p2 Coefs c2,vI (W ((W (x*a0.Const))+(W (y*b.Const))))],hB b3 [z0,vI 0],hB b2 (cAff b p1 c1),hB b1 (cAff a0 p c)] [[hO Int (vS p2 Coefs c2) cs]] [(18,true)] (zZ [1,2,3,4,0]) ?_ ?_
  ·refine O4<|O2<|Ox ?_<|Oq ?_<|O4<|Op<|Ox ?_<|Oq ?_<|O2<|Ox ?_<|Ox ?_<|On
   ·intro I1 hf aa;refine yW [29,30] rfl ?_;have h:=h.mono aa;refine xW rfl rfl h hy ?_;intro ad aN aq am;obtain rfl:=am;exact yN [] iR ⟨_,rfl,rfl,aq⟩
   ·rintro I1 hf aa _ _ ⟨ad,rfl,rfl,aq⟩;exact yW [31] rfl<|xM 0 aq [vI x1] (vI x1) rfl<|xO iR
   ·intro I1 hf aa;refine yW [36,37] rfl ?_;have h1:=h1.mono aa;refine xW rfl rfl h1 az ?_;intro ad1 bq aw ay;obtain rfl:=ay;exact yN [] iR ⟨_,rfl,rfl,aw⟩
   ·rintro I1 hf aa _ _ ⟨ad1,rfl,rfl,aw⟩;exact yW [38] rfl<|xM 0 aw [vI x2] (vI x2) rfl<|xO iR
   ·intro I1 hf aa;refine yW [41] rfl ?_;have H:=iS I1;refine mH (rI [(W ((W (x*x1))+(W (y*x2))))]) ?_;intro b5 I0 le h6;have H:=H.trans le;exact yN [] H ⟨_,rfl,rfl,h6⟩
   rintro I1 hf aa _ _ ⟨rfl,rfl⟩ _ _ ⟨b5,rfl,rfl,h6⟩ _ _ rfl;refine yW [26,42] rfl ?_;have h3:=iM aa h3;obtain⟨bL,k0,k01⟩:=h6;have h6:SL I1 (vS (some ⟨b5,0,none⟩) ([(W ((W (x*x1))+(W (y*x2))))]:List Int) 1) ([(W ((W (x*x1))+(W (y*x2))))]:List Int):=⟨_,k0,k01⟩;exact sW 3 1 0 rfl rfl rfl h3 (.inl k0) k01 aG λp4 c4 aR h7=>wY (ag:=(hO Int (vS p4 l c4) aR::hB b4 [vS p2 Coefs c2,vI (W ((W (x*a0.Const))+(W (y*b.Const))))]::hB b3 [z0,vI 0]::hB b2 (cAff b p1 c1)::hB b1 (cAff a0 p c)::hf)) rfl<|yN [hO Int (vS p4 l c4) aR] iR ⟨_,_,_,rfl,rfl,h7⟩
  rintro aP aa _ _ ⟨p4,c4,aR,rfl,rfl,h7⟩;refine yW [1,3,4,6,8,9,10,43] rfl ?_;have ⟨h1,h,H⟩:=m3 aa h1 h H;exact yG 20 [] [44] rfl<|xC 1 [vS p4 l c4,vI (W ((W (x*a0.Const))+(W (y*b.Const))))] rfl<|zY rfl<|zN<|zK<|zL<|yQ [] [10] rfl<|yV<|nX<|ih (W (i+1)) l _ N H h1 h h7 hg ho hx
 intro hc N;exact wW<|wK (zX [0,1,2] rfl (by decide))<|yZ<|hx _ _ _ _ _ (zE N).symm H h3
def jP(a0:zA)(x:Int)(b:zA)(y:Int):Option (zA):=do
 let Coefs1<-pI a0 x b y 0 ([]:List Int);pure (zA.mk Coefs1 (W ((W (x*a0.Const))+(W (y*b.Const)))))
theorem zCO:∀a0 x b y r,jP a0 x b y=some r->∀{I:Imm}{p c p1 c1},(S4 I p a0.Coefs c)->(S4 I p1 b.Coefs c1)->RT 264 [vA (cAff a0 p c),vI x,vA (cAff b p1 c1),vI y] I [] (jC  r):=by
 intro a0 x b y r N I p c p1 c1 h h1;unfold jP at N;refine yM func264 λB=>yD<|vC (cAff a0 p c) ?_;intro b1 hb;refine vC (cAff b p1 c1) ?_;intro b2 hb1;refine xY [z0,vI 0] ?_;intro b3 hb2;refine zY rfl<|yY<|uW 10 [2,1] [(20,vA [z0,vI (W ((W (x*a0.Const))+(W (y*b.Const))))])]<|xY [z0,vI 0] ?_;intro b4 hb3;refine xC 0 [z0,vI (W ((W (x*a0.Const))+(W (y*b.Const))))] rfl<|zY rfl<|yA<|yK [10] rfl<|wN<|qX [(1,vI x),(3,vI y),(4,vP b1 0),(6,vP b2 0),(8,vP b3 0),(9,vP b4 0),(10,vI 0)]<|zA6 Int λh2=>?_;obtain⟨o0,aA,aE⟩:=zB N;refine zEI a0 x b y 0 ([]:List Int) o0 aA iR h1 h h2 nG nO ?_;intro aW Coefs1 p3 c3 au heq aC h4;subst o0;refine zS<|yY<|uW 1 [1] [(45,vA [vS p3 Coefs1 c3,vI (W ((W (x*a0.Const))+(W (y*b.Const))))])]<|xC 2 [vS p3 Coefs1 c3,vI (W ((W (x*a0.Const))+(W (y*b.Const))))] rfl<|zY rfl<|xH<|xB 0 rfl ?_;intro bx aI hl01;have h8:=SL.of_frozen hl01 aI h4;exact xX aE (resC 1 rfl rfl) zO ⟨_,rfl,rfl,⟨_,rfl,(yO ⟨_,rfl,h8⟩)⟩⟩
def zHB(b0:Nat)(r:zG×zQ):KT:=λkk I' ag v=>
 ∃v0 k0,ag=[.blk b0 ⟨k0⟩]/\v=tupV [v0]/\(∃cs,v0=.agg ⟨cs⟩/\Rp.rep I' cs r.1)/\Rp.rep I' k0 r.2
def zAW(r0:zQ)(ae:Int):Option (zG×zQ):=do
 let (y1,y2)<-xI r0 ([0,0,1,0,(-1)]:List Int);let y3<-uC y1;let (y5,y6)<-xI y2 ([3,4,2,3,1]:List Int);let y7<-uC y5;let (t23,x)<-(do
  if(decide (ae>0)) then
   let (y9,y10)<-xN y6 4;pure ((y9==0),y10)
  else
   pure (false,y6)
    : Option (Bool×zQ))
 let (x1,x2,x3)<-(do
  if t23 then
   let (y12,y13)<-xN x ae;let (y15,y16)<-xN y13 2;let (x4,x5)<-(do
    if(y15==0) then
     let y17<-jH y12;pure (y17,(zA.mk y7.Coefs y7.Const))
    else
     let y18<-jH y12;let y19<-uC 1;let y20<-jP y18 1 y19 1;pure ((zA.mk y3.Coefs y3.Const),y20)
      : Option (zA×zA))
   pure (x4,x5,y16)
  else
   pure ((zA.mk y3.Coefs y3.Const),(zA.mk y7.Coefs y7.Const),x)
    : Option (zA×zA×zQ))
 let (y22,y23)<-xN x3 12;let (Lo,Hi,x6)<-(do
  if(y22==0) then
   let (y25,y26)<-xI y23 ([3,2,4]:List Int);let y27<-uC y25;let l<-app 32 ([x2]:List zA) ([y27]:List zA);pure (([x1]:List zA),l,y26)
  else
   let (Lo1,x7)<-(do
    if(y22==1) then
     let (y29,y30)<-xI y23 ([0,1]:List Int);let y31<-uC y29;let l1<-app 32 ([x1]:List zA) ([y31]:List zA);pure (l1,y30)
    else
     pure (([x1]:List zA),y23)
      : Option (List zA×zQ))
   pure (Lo1,([x2]:List zA),x7)
    : Option (List zA×List zA×zQ))
 pure ((zG.mk Lo Hi),x6)
theorem zI9:∀r0 ae r,zAW r0 ae=some r->∀{I:Imm}{av}{p c},(S4 I p r0.b c)->RT 244 [vP av 0,vI ae] I [hB av (cRd r0 p c)] (zHB av r):=by
 intro r0 ae r N I av p c h;unfold zAW at N;refine yM func244 λB=>?_;have H:=iS I;refine yD<|xY zTwo ?_;intro b hb;refine zY rfl<|yY<|yG 1 [] [9] rfl<|mH (rI [0,0,1,0,(-1)]) ?_;intro b1 I0 le h2;have ⟨h,H⟩:=m2 le h H;refine tX (zZ [1,0] (ag:=[hB av (cRd r0 p c),hB b zTwo])) ?_;obtain⟨⟨y1,y2⟩,hy,N⟩:=zB N;refine qB (xP r0 ([0,0,1,0,(-1)]:List Int) _ hy h h2) rfl ?_;rintro aP ax v2 k2 aa - ⟨v0,kk,rfl,rfl,rfl,h4⟩ -;have H:=H.trans aa;obtain⟨p1,c1,rfl,h5⟩:=yJ h4;obtain⟨y3,az,N⟩:=zB N;refine xK (sC y1 _ az ) ?_;rintro aW ax v2 k2 aC - ⟨p2,c2,cs,rfl,rfl,h6⟩ -;have ⟨h5,H⟩:=m2 aC h5 H;refine xY [z0,vI 0] ?_;intro b2 hb2;refine xC 0 (cAff y3 p2 c2) rfl<|zY rfl<|yY<|yG 1 [] [13] rfl<|mH (rI [3,4,2,3,1]) ?_;intro b3 bx aI h8;have ⟨h6,h5,H⟩:=m3 aI h6 h5 H;refine tX (zZ [2,0,1,3] (ag:=[hB av (cRd y2 p1 c1),hB b2 (cAff y3 p2 c2),hO Int (vS p2 y3.Coefs c2) cs,hB b zTwo])) ?_;obtain⟨⟨y5,y6⟩,aG,N⟩:=zB N;refine qB (xP y2 ([3,4,2,3,1]:List Int) _ aG h5 h8) rfl ?_;rintro bG ax v2 k2 aY - ⟨v02,kk1,rfl,rfl,rfl,h10⟩ -;have ⟨h6,H⟩:=m2 aY h6 H;obtain⟨p3,c3,rfl,h11⟩:=yJ h10;obtain⟨y7,bh,N⟩:=zB N;refine xK (sC y5 _ bh ) ?_;rintro bK ax v2 k2 bo - ⟨p4,c4,au,rfl,rfl,h12⟩ -;have ⟨h11,h6,H⟩:=m3 bo h11 h6 H;refine xY [z0,vI 0] ?_;intro b4 hb4;refine xC 0 (cAff y7 p4 c4) rfl<|zY rfl<|yA<|yC ?_;obtain⟨o0,aA,aX⟩:=zB N;refine nP (λI' ag m'=>∃(t23:Bool) (x:zQ) (p5:Option Addr) (c5:Nat),o0=(t23,x)/\bK.le I'/\(S4 I' p5 x.b c5)/\ag=[hB b4 (cAff y7 p4 c4),hO Int (vS p4 y7.Coefs c4) au,hB av (cRd x p5 c5),hB b2 (cAff y3 p2 c2),hO Int (vS p2 y3.Coefs c2) cs,hB b zTwo]/\m'=[(0,vP av 0),(1,vI ae),(4,vP b 0),(5,vP b2 0),(6,vP b4 0),(23,.bool t23)]) ?_ ?_
 ·have H:=iS bK;refine zL<|yG 3 [] [19] rfl<|wR [19] aA ?_ ?_
  ·intro hc N;refine yG 4 [] [20] rfl<|tX (zZ [2,0,1,3,4,5] (ag:=[hB av (cRd y6 p3 c3),hB b4 (cAff y7 p4 c4),hO Int (vS p4 y7.Coefs c4) au,hB b2 (cAff y3 p2 c2),hO Int (vS p2 y3.Coefs c2) cs,hB b zTwo])) ?_;obtain⟨⟨y9,y10⟩,bu,N⟩:=zB N;refine qB (wL y6 4 _ bu h11) rfl ?_;rintro I07 ax v2 k2 bv - ⟨v04,kk2,rfl,rfl,rfl,h15⟩ -;have H:=H.trans bv;obtain⟨p6,c6,rfl,h16⟩:=yJ h15;exact yQ [] [23] rfl<|wK (zX [1,2,0,3,4,5] rfl (by decide))<|yZ<|zU ⟨_,_,_,_,(zE N).symm,H,h16,rfl,rfl⟩
  intro hc N;exact wM [] [(23,vF)]<|yZ<|zU ⟨_,_,_,_,(zE N).symm,H,h11,rfl,rfl⟩
 rintro I06 ax m2 ⟨t23,x,p5,c5,heq,le7,h13,rfl,rfl⟩;subst o0;have ⟨h12,h6,H⟩:=m3 le7 h12 h6 H;refine zK<|oO 4 rfl ?_;intro I08 le8 hl02;have h17:=SL.of_frozen hl02 le8 h6;have ⟨h12,h13,H⟩:=m3 le8 h12 h13 H;refine oO 1 rfl ?_;intro I09 le9 hl03;have h18:=SL.of_frozen hl03 le9 h12;have ⟨h13,h17,H⟩:=m3 le9 h13 h17 H;obtain⟨aU,aB,hMc1⟩:=zB aX;refine nP (λI' ag m'=>∃(x1:zA) (x2:zA) (x3:zQ) (p7:Option Addr) (c7:Nat) (p8:Option Addr) (c8:Nat) (p9:Option Addr) (c9:Nat),aU=(x1,x2,x3)/\I09.le I'/\(S4 I' p7 x1.Coefs c7)/\(S4 I' p8 x2.Coefs c8)/\(S4 I' p9 x3.b c9)/\ag=[hB b4 (cAff x2 p8 c8),hB av (cRd x3 p9 c9),hB b2 (cAff x1 p7 c7),hB b zTwo]/\m'=[(0,vP av 0),(4,vP b 0),(5,vP b2 0),(6,vP b4 0)]) ?_ ?_
 ·have H:=iS I09;refine yH aB ?_ ?_
  ·intro aH N;refine yD<|yG 2 [] [24,25] rfl<|tX (zZ [1,0,2,3] (ag:=[hB av (cRd x p5 c5),hB b4 (cAff y7 p4 c4),hB b2 (cAff y3 p2 c2),hB b zTwo])) ?_;obtain⟨⟨y12,y13⟩,bC,N⟩:=zB N;refine qB (wL x ae _ bC h13) rfl ?_;rintro bS ax v2 k2 le10 - ⟨v06,kk3,rfl,rfl,rfl,h23⟩ -;have ⟨h18,h17,H⟩:=m3 le10 h18 h17 H;obtain⟨aL,aO,rfl,h24⟩:=yJ h23;refine yQ [] [7] rfl<|yY<|yG 1 [] [27] rfl ?_;obtain⟨⟨y15,y16⟩,hy6,N⟩:=zB N;refine qB (wL y13 2 _ hy6 h24) rfl ?_;rintro bR ax v2 k2 le11 - ⟨v08,kk4,rfl,rfl,rfl,h26⟩ -;have ⟨h18,h17,H⟩:=m3 le11 h18 h17 H;obtain⟨aF,aQ,rfl,h27⟩:=yJ h26;refine yQ [] [29] rfl<|zK ?_;obtain⟨o02,ho02,hMc2⟩:=zB N;refine nP (λI' ag m'=>∃(x4:zA) (x5:zA) (bj:Option Addr) (aZ:Nat) (bc:Option Addr) (bd:Nat),o02=(x4,x5)/\bR.le I'/\(S4 I' bj x4.Coefs aZ)/\(S4 I' bc x5.Coefs bd)/\ag=[hB av (cRd y16 aF aQ),hB b4 (cAff x5 bc bd),hB b2 (cAff x4 bj aZ),hB b zTwo]/\m'=[(0,vP av 0),(4,vP b 0),(5,vP b2 0),(6,vP b4 0)]) ?_ ?_
   ·have H:=iS bR;refine yH ho02 ?_ ?_
    ·intro ba N;refine zL<|yG 1 [] [30] rfl<|bE N λy17 hy7 N=>xK (zAR y12 _ hy7 ) ?_;rintro I014 ax v2 k2 le12 - ⟨v010,rfl,rfl,⟨aR,rfl,h30⟩⟩ -;have ⟨h18,H⟩:=m2 le12 h18 H;obtain⟨p14,c14,rfl,h31⟩:=yI h30;exact xC 2 (cAff y17 p14 c14) rfl<|zY rfl<|yZ<|zU ⟨_,_,_,_,_,_,(zE N).symm,H,h31,h18,rfl,rfl⟩
    intro ba N;refine zL<|yG 1 [] [32] rfl<|bE N λy18 hy8 N=>xK (zAR y12 _ hy8 ) ?_;rintro I015 ax v2 k2 le13 - ⟨v012,rfl,rfl,⟨aM,rfl,h32⟩⟩ -;have ⟨h17,H⟩:=m2 le13 h17 H;obtain⟨p15,c15,rfl,h33⟩:=yI h32;obtain⟨y19,hy9,N⟩:=zB N;refine xK (sC 1 _ hy9 ) ?_;rintro I016 ax v2 k2 le14 - ⟨p16,c16,bt,rfl,rfl,h34⟩ -;have ⟨h33,h17,H⟩:=m3 le14 h33 h17 H;refine xV 0 rfl ?_;intro I017 le15 hl04;have h35:=SL.of_frozen hl04 le15 h34;have ⟨h33,h17,H⟩:=m3 le15 h33 h17 H;obtain⟨y20,hy10,N⟩:=zB N;refine xK (zCO y18 1 y19 1 _ hy10 h33 h35) ?_;rintro I018 ax v2 k2 le16 - ⟨v014,rfl,rfl,⟨bz,rfl,h36⟩⟩ -;have ⟨h17,H⟩:=m2 le16 h17 H;obtain⟨p17,c17,rfl,h37⟩:=yI h36;exact xC 1 (cAff y20 p17 c17) rfl<|zY rfl<|yZ<|zU ⟨_,_,_,_,_,_,(zE N).symm,H,h17,h37,rfl,rfl⟩
   rintro I013 ax m2 ⟨x4,x5,bj,aZ,bc,bd,heq1,le17,h28,h29,rfl,rfl⟩;subst o02;have ⟨h27,H⟩:=m2 le17 h27 H;exact wK (zX [1,0,2,3] rfl (by decide))<|yZ<|zU ⟨_,_,_,_,_,_,_,_,_,(zE hMc2).symm,H,h28,h29,h27,rfl,rfl⟩
  intro aH N;exact zT<|yZ<|zU ⟨_,_,_,_,_,_,_,_,_,(zE N).symm,H,h17,h18,h13,rfl,rfl⟩
 rintro bN ax m2 ⟨x1,x2,x3,p7,c7,p8,c8,p9,c9,heq2,le18,h19,h20,h21,rfl,rfl⟩;subst aU;have H:=H.trans le18;refine yY<|uW 1 [2] [(36,vA (cAff x1 p7 c7))]<|uX (cAff x1 p7 c7) zA ?_;intro b5 hb5;have h38:RL bN (cAff x1 p7 c7) ([x1]:List zA):=⟨(cAff x1 p7 c7),_,rfl,rfl,(yO ⟨_,rfl,h19⟩),rfl⟩;refine uW 3 [1] [(38,vA (cAff x2 p8 c8))]<|uX (cAff x2 p8 c8) zA ?_;intro b6 hb6;have h39:RL bN (cAff x2 p8 c8) ([x2]:List zA):=⟨(cAff x2 p8 c8),_,rfl,rfl,(yO ⟨_,rfl,h20⟩),rfl⟩;refine yG 5 [] [40] rfl<|xY zTwo ?_;intro b7 hb7;refine xC 0 [vS (some ⟨b5,0,none⟩) ([x1]:List zA) 1,vS (some ⟨b6,0,none⟩) ([x2]:List zA) 1] rfl<|zY rfl<|yA<|yD<|yG 1 [] [41] rfl<|tX (zZ [4,0,1,2,3,5,6] (ag:=[hB av (cRd x3 p9 c9),hB b7 [vS (some ⟨b5,0,none⟩) ([x1]:List zA) 1,vS (some ⟨b6,0,none⟩) ([x2]:List zA) 1],hO zA (vS (some ⟨b6,0,none⟩) ([x2]:List zA) 1) (cAff x2 p8 c8),hO zA (vS (some ⟨b5,0,none⟩) ([x1]:List zA) 1) (cAff x1 p7 c7),hB b4 (cAff x2 p8 c8),hB b2 (cAff x1 p7 c7),hB b zTwo])) ?_;obtain⟨⟨y22,y23⟩,hy11,N⟩:=zB hMc1;refine qB (wL x3 12 _ hy11 h21) rfl ?_;rintro I019 ax v2 k2 le19 - ⟨v016,kk5,rfl,rfl,rfl,h41⟩ -;have ⟨h38,h39,H⟩:=m3 le19 h38 h39 H;obtain⟨p18,c18,rfl,h42⟩:=yJ h41;refine zY rfl<|wN<|yK [43] rfl<|zK<|oO 4 rfl ?_;intro I020 le20 hl05;have aq:At I020 ⟨b4,0,none⟩ (cAff x2 p8 c8):=At.of_blk hl05;have ⟨h42,h38,h39,H⟩:=m4 le20 h42 h38 h39 H;refine oO 4 rfl ?_;intro I021 le21 hl06;have aw:At I021 ⟨b2,0,none⟩ (cAff x1 p7 c7):=At.of_blk hl06;have ⟨h42,h38,h39,H⟩:=m4 le21 h42 h38 h39 H;obtain⟨o03,ho03,hMc3⟩:=zB N;refine nP (λI' ag m'=>∃(Lo:List zA) (Hi:List zA) (x6:zQ) (p19:Option Addr) (c19:Nat) (cs6:List Value) (p20:Option Addr) (c20:Nat) (cs7:List Value) (p21:Option Addr) (c21:Nat),o03=(Lo,Hi,x6)/\I021.le I'/\(RL I' cs6 Lo)/\(RL I' cs7 Hi)/\(S4 I' p21 x6.b c21)/\ag=[hB av (cRd x6 p21 c21),hB b7 [vS p19 Lo c19,vS p20 Hi c20],hO zA (vS p20 Hi c20) cs7,hO zA (vS p19 Lo c19) cs6,hB b zTwo]/\m'=[(4,vP b 0),(8,vP b7 0)]) ?_ ?_
 ·have H:=iS I021;refine yH ho03 ?_ ?_
  ·intro bD N;obtain⟨⟨y25,y26⟩,hy12,N⟩:=zB N;obtain⟨y27,hy13,N⟩:=zB N;obtain⟨l,hy14,N⟩:=zB N;refine wP [.p (vP b7 1) [],.p (vS (some ⟨b6,0,none⟩) ([x2]:List zA) 1) [0],.p (vP av 0) [],.x (λI' v hx=>∃b8,v=vS (some ⟨b8,0,none⟩) ([3,2,4]:List Int) 3/\hx=[]/\(SL I' (vS (some ⟨b8,0,none⟩) ([3,2,4]:List Int) 3) ([3,2,4]:List Int))),.x (λI' v hx=>∃p22 c22,v=vI y25/\hx=[hB av (cRd y26 p22 c22)]/\(S4 I' p22 y26.b c22)),.x (λI' v hx=>∃p23 c23 cs8,v=vA (cAff y27 p23 c23)/\hx=[hO Int (vS p23 y27.Coefs c23) cs8]/\(RL I' cs8 y27.Coefs)),.x (λI' v hx=>∃b9,v=vS (some ⟨b9,0,none⟩) ([y27]:List zA) 1/\hx=[]/\(SL I' (vS (some ⟨b9,0,none⟩) ([y27]:List zA) 1) ([y27]:List zA))),.x (λI' v hx=>∃p24 c24 cs9,v=vS p24 l c24/\hx=[hO zA (vS p24 l c24) cs9]/\(RL I' cs9 l))] [[],[(0,false)],[],[],[(2,false),(3,false),(10,true)],[(4,false)],[(5,true)],[(1,false),(6,false),(11,true)]] [hB b7 [vS (some ⟨b5,0,none⟩) ([x1]:List zA) 1,vS (some ⟨b6,0,none⟩) ([x2]:List zA) 1],hO zA (vS (some ⟨b5,0,none⟩) ([x1]:List zA) 1) (cAff x1 p7 c7),hB b zTwo] [[hB av (cRd y23 p18 c18)],[hO zA (vS (some ⟨b6,0,none⟩) ([x2]:List zA) 1) (cAff x2 p8 c8)]] [(4,true),(7,true)] (zZ [1,3,4,0,2]) ?_ ?_
   ·refine O3<|Ox ?_<|Ox ?_<|Ox ?_<|Ox ?_<|Ox ?_<|On
    ·intro I1 hf aa;refine I_h [] ?_;have H:=iS I1;refine mH (rI [3,2,4]) ?_;intro b8 I023 le22 h47;have H:=H.trans le22;exact yN [] H ⟨_,rfl,rfl,h47⟩
    ·rintro I1 hf aa _ _ ⟨rfl,rfl⟩ _ _ ⟨b8,rfl,rfl,h47⟩ _ _ rfl;refine yW [47,48] rfl ?_;have H:=iS I1;have h42:=h42.mono aa;refine qB (xP y23 ([3,2,4]:List Int) _ hy12 h42 h47) rfl ?_;rintro I024 ax v2 k2 le23 - ⟨v018,kk6,rfl,rfl,rfl,h49⟩ -;have H:=H.trans le23;obtain⟨p22,c22,rfl,h50⟩:=yJ h49;exact yN [hB av (cRd y26 p22 c22)] H ⟨_,_,rfl,rfl,h50⟩
    ·rintro I1 hf aa _ _ ⟨p22,c22,rfl,rfl,h50⟩;refine yW [49] rfl ?_;have H:=iS I1;refine xK (sC y25 _ hy13 ) ?_;rintro I025 ax v2 k2 le24 - ⟨p23,c23,cs8,rfl,rfl,h51⟩ -;have H:=H.trans le24;exact yN [hO Int (vS p23 y27.Coefs c23) cs8] H ⟨_,_,_,rfl,rfl,h51⟩
    ·rintro I1 hf aa _ _ ⟨p23,c23,cs8,rfl,rfl,h51⟩;refine yW [50] rfl ?_;have H:=iS I1;refine xV 0 rfl ?_;intro I026 le25 hl08;have h52:=SL.of_frozen hl08 le25 h51;have H:=H.trans le25;refine mH (rc y27 (yO ⟨_,rfl,h52⟩) rN) ?_;intro b9 I027 le26 h54;have H:=H.trans le26;exact yN [] H ⟨_,rfl,rfl,h54⟩
    rintro I1 hf aa _ _ ⟨rfl,rfl⟩ _ _ ⟨b9,rfl,rfl,h54⟩ _ _ rfl;refine yW [46,51] rfl ?_;have h39:=iM aa h39;obtain⟨aN,k0,k01⟩:=h54;have h54:SL I1 (vS (some ⟨b9,0,none⟩) ([y27]:List zA) 1) ([y27]:List zA):=⟨_,k0,k01⟩;exact sW 95 2 0 rfl rfl rfl h39 (.inl k0) k01 hy14 λp24 c24 cs9 h55=>wY (ag:=(hO zA (vS p24 l c24) cs9::hB b7 [vS (some ⟨b5,0,none⟩) ([x1]:List zA) 1,vS (some ⟨b6,0,none⟩) ([x2]:List zA) 1]::hO zA (vS (some ⟨b5,0,none⟩) ([x1]:List zA) 1) (cAff x1 p7 c7)::hB b zTwo::hf)) rfl<|yN [hO zA (vS p24 l c24) cs9] iR ⟨_,_,_,rfl,rfl,h55⟩
   rintro I028 le27 _ _ ⟨p22,c22,rfl,rfl,h50⟩ _ _ ⟨p24,c24,cs9,rfl,rfl,h55⟩;refine yW [4,8,52] rfl ?_;have ⟨h38,H⟩:=m2 le27 h38 H;exact yG 9 [] [53] rfl<|xC 2 [vS (some ⟨b5,0,none⟩) ([x1]:List zA) 1,vS p24 l c24] rfl<|zY rfl<|wK (zX [1,2,0,3,4] rfl (by decide))<|yZ<|zU ⟨_,_,_,_,_,_,_,_,_,_,_,(zE N).symm,H,h38,h55,h50,rfl,rfl⟩
  intro bD N;refine yK [54] rfl<|zK ?_;obtain⟨o04,ho04,hMc4⟩:=zB N;refine nP (λI' ag m'=>∃(Lo1:List zA) (x7:zQ) (p25:Option Addr) (c25:Nat) (cs10:List Value) (p26:Option Addr) (c26:Nat),o04=(Lo1,x7)/\I021.le I'/\(RL I' cs10 Lo1)/\(S4 I' p26 x7.b c26)/\ag=[hB av (cRd x7 p26 c26),hB b7 [vS p25 Lo1 c25,vS (some ⟨b6,0,none⟩) ([x2]:List zA) 1],hO zA (vS (some ⟨b6,0,none⟩) ([x2]:List zA) 1) (cAff x2 p8 c8),hO zA (vS p25 Lo1 c25) cs10,hB b zTwo]/\m'=[(4,vP b 0),(8,vP b7 0)]) ?_ ?_
  ·have H:=iS I021;refine yH ho04 ?_ ?_
   ·intro bJ N;obtain⟨⟨y29,y30⟩,hy15,N⟩:=zB N;obtain⟨y31,hy16,N⟩:=zB N;obtain⟨l1,hy17,N⟩:=zB N;refine wP [.p (vP b7 0) [],.p (vS (some ⟨b5,0,none⟩) ([x1]:List zA) 1) [0],.p (vP av 0) [],.x (λI' v hx=>∃b10,v=vS (some ⟨b10,0,none⟩) ([0,1]:List Int) 2/\hx=[]/\(SL I' (vS (some ⟨b10,0,none⟩) ([0,1]:List Int) 2) ([0,1]:List Int))),.x (λI' v hx=>∃p27 c27,v=vI y29/\hx=[hB av (cRd y30 p27 c27)]/\(S4 I' p27 y30.b c27)),.x (λI' v hx=>∃p28 c28 cs11,v=vA (cAff y31 p28 c28)/\hx=[hO Int (vS p28 y31.Coefs c28) cs11]/\(RL I' cs11 y31.Coefs)),.x (λI' v hx=>∃b11,v=vS (some ⟨b11,0,none⟩) ([y31]:List zA) 1/\hx=[]/\(SL I' (vS (some ⟨b11,0,none⟩) ([y31]:List zA) 1) ([y31]:List zA))),.x (λI' v hx=>∃p29 c29 cs12,v=vS p29 l1 c29/\hx=[hO zA (vS p29 l1 c29) cs12]/\(RL I' cs12 l1))] [[],[(0,false)],[],[],[(2,false),(3,false),(10,true)],[(4,false)],[(5,true)],[(1,false),(6,false),(11,true)]] [hB b7 [vS (some ⟨b5,0,none⟩) ([x1]:List zA) 1,vS (some ⟨b6,0,none⟩) ([x2]:List zA) 1],hO zA (vS (some ⟨b6,0,none⟩) ([x2]:List zA) 1) (cAff x2 p8 c8),hB b zTwo] [[hB av (cRd y23 p18 c18)],[hO zA (vS (some ⟨b5,0,none⟩) ([x1]:List zA) 1) (cAff x1 p7 c7)]] [(4,true),(7,true)] (zZ [1,2,4,0,3]) ?_ ?_
    ·refine O3<|Ox ?_<|Ox ?_<|Ox ?_<|Ox ?_<|Ox ?_<|On
     ·intro I1 hf aa;refine I_h [] ?_;have H:=iS I1;refine mH (rI [0,1]) ?_;intro b10 I030 le28 h59;have H:=H.trans le28;exact yN [] H ⟨_,rfl,rfl,h59⟩
     ·rintro I1 hf aa _ _ ⟨rfl,rfl⟩ _ _ ⟨b10,rfl,rfl,h59⟩ _ _ rfl;refine yW [58,59] rfl ?_;have H:=iS I1;have h42:=h42.mono aa;refine qB (xP y23 ([0,1]:List Int) _ hy15 h42 h59) rfl ?_;rintro I031 ax v2 k2 le29 - ⟨v020,kk7,rfl,rfl,rfl,h61⟩ -;have H:=H.trans le29;obtain⟨p27,c27,rfl,h62⟩:=yJ h61;exact yN [hB av (cRd y30 p27 c27)] H ⟨_,_,rfl,rfl,h62⟩
     ·rintro I1 hf aa _ _ ⟨p27,c27,rfl,rfl,h62⟩;refine yW [60] rfl ?_;have H:=iS I1;refine xK (sC y29 _ hy16 ) ?_;rintro I032 ax v2 k2 le30 - ⟨p28,c28,cs11,rfl,rfl,h63⟩ -;have H:=H.trans le30;exact yN [hO Int (vS p28 y31.Coefs c28) cs11] H ⟨_,_,_,rfl,rfl,h63⟩
     ·rintro I1 hf aa _ _ ⟨p28,c28,cs11,rfl,rfl,h63⟩;refine yW [61] rfl ?_;have H:=iS I1;refine xV 0 rfl ?_;intro I033 le31 hl011;have h64:=SL.of_frozen hl011 le31 h63;have H:=H.trans le31;refine mH (rc y31 (yO ⟨_,rfl,h64⟩) rN) ?_;intro b11 I034 le32 h66;have H:=H.trans le32;exact yN [] H ⟨_,rfl,rfl,h66⟩
     rintro I1 hf aa _ _ ⟨rfl,rfl⟩ _ _ ⟨b11,rfl,rfl,h66⟩ _ _ rfl;refine yW [57,62] rfl ?_;have h38:=iM aa h38;obtain⟨bq,k02,k03⟩:=h66;have h66:SL I1 (vS (some ⟨b11,0,none⟩) ([y31]:List zA) 1) ([y31]:List zA):=⟨_,k02,k03⟩;exact sW 95 2 0 rfl rfl rfl h38 (.inl k02) k03 hy17 λp29 c29 cs12 h67=>wY (ag:=(hO zA (vS p29 l1 c29) cs12::hB b7 [vS (some ⟨b5,0,none⟩) ([x1]:List zA) 1,vS (some ⟨b6,0,none⟩) ([x2]:List zA) 1]::hO zA (vS (some ⟨b6,0,none⟩) ([x2]:List zA) 1) (cAff x2 p8 c8)::hB b zTwo::hf)) rfl<|yN [hO zA (vS p29 l1 c29) cs12] iR ⟨_,_,_,rfl,rfl,h67⟩
    rintro I035 le33 _ _ ⟨p27,c27,rfl,rfl,h62⟩ _ _ ⟨p29,c29,cs12,rfl,rfl,h67⟩;refine yW [4,8,63] rfl ?_;have H:=H.trans le33;exact yG 9 [] [64] rfl<|xC 2 [vS p29 l1 c29,vS (some ⟨b6,0,none⟩) ([x2]:List zA) 1] rfl<|zY rfl<|wK (zX [1,2,3,0,4] rfl (by decide))<|yZ<|zU ⟨_,_,_,_,_,_,_,(zE N).symm,H,h67,h62,rfl,rfl⟩
   intro bJ N;exact zT<|yZ<|zU ⟨_,_,_,_,_,_,_,(zE N).symm,H,h38,h42,rfl,rfl⟩
  rintro I029 ax m2 ⟨Lo1,x7,p25,c25,cs10,p26,c26,heq3,le34,h56,h57,rfl,rfl⟩;subst o04;have ⟨h39,H⟩:=m2 le34 h39 H;exact yZ<|zU ⟨_,_,_,_,_,_,_,_,_,_,_,(zE hMc4).symm,H,h56,h39,h57,rfl,rfl⟩
 rintro I022 ax m2 ⟨Lo,Hi,x6,p19,c19,cs6,p20,c20,cs7,p21,c21,heq4,le35,h43,h44,h45,rfl,rfl⟩;subst o03;refine zN<|yY<|uW 1 [1] [(65,vA [vS p19 Lo c19,vS p20 Hi c20])]<|xC 4 [vS p19 Lo c19,vS p20 Hi c20] rfl<|zY rfl<|xH<|xB 3 rfl ?_;intro I036 le36 hl013;have h68:=SL.of_frozen hl013 le36 h43;have ⟨h45,h44⟩:=m2 le36 h45 h44;refine xB 2 rfl ?_;intro I037 le37 hl014;have h69:=SL.of_frozen hl014 le37 h44;have ⟨h45,h68⟩:=m2 le37 h45 h68;exact xX hMc3 (resC 2 rfl rfl) (zX [0] rfl (by decide)) ⟨_,_,rfl,rfl,⟨_,rfl,(uR ⟨_,_,rfl,h68,h69⟩)⟩,(xF ⟨_,rfl,h45⟩)⟩
def zHC(b0:Nat)(r:(List zG)×zQ):KT:=λkk I' ag v=>
 ∃v0 k0,ag=[.blk b0 ⟨k0⟩]/\v=tupV [v0]/\SL I' v0 r.1/\Rp.rep I' k0 r.2
def mS(out:List zG)(i:Int)(x:zQ):Option ((List zG×zQ)):=do
 if(decide (i>0)) then
  let (y4,y5)<-zAW x (out.length:Int);let ar<-app 48 out ([y4]:List zG);mS ar (W (i - 1)) y5
 else pure (out,x)
 partial_fixpoint
theorem zGQ :∀(out:List zG) (i:Int) (x:zQ) (o:(List zG×zQ)),mS out i x=some o->∀{B}{I0 I:Imm}{Q}  {av}{p2 c2 cs p3 c3},I0.le I->(RL I cs out)->(S4 I p3 x.b c3)->NG Q->NO Q->(∀I' aj x1 p4 c4 au p5 c5,o=(aj,x1)->I0.le I'->(RL I' au aj)->(S4 I' p5 x1.b c5)->T 21 B Q (.exit 0) I' [hB av (cRd x1 p5 c5),hO zG (vS p4 aj c4) au] [(3,vS p4 aj c4)])->J Tryz.prog 21 B (nav (bodyOf f218) [1,1,0,1,0]) Q I [hB av (cRd x p3 c3),hO zG (vS p2 out c2) cs] [(0,vP av 0),(3,vS p2 out c2),(4,vI i)]:=by
 refine mS.partial_correctness  _ λaJ ih out i x o N B I0 I Q av p2 c2 cs p3 c3 H h7 h8 hg ho hx=>yX hg ho<|yC<|yK [10] rfl<|zK<|yH N ?_ ?_
 ·intro hc N;refine zT<|yA<|yL<|zL<|yG 4 [] [13,14,16] rfl ?_;obtain⟨⟨y4,y5⟩,az,N⟩:=zB N;refine qB (zI9 x (out.length:Int) _ az h8) rfl ?_;rintro aW ax v2 k2 aC - ⟨v02,kk1,rfl,rfl,⟨aR,rfl,h11⟩,h12⟩ -;have ⟨h7,H⟩:=m2 aC h7 H;obtain⟨p6,c6,p7,c7,rfl,h13,h14⟩:=vD h11;obtain⟨p8,c8,rfl,h15⟩:=yJ h12;refine uX (cLoop y4 p6 c6 p7 c7) zG ?_;intro b2 hb2;have h16:RL aW (cLoop y4 p6 c6 p7 c7) ([y4]:List zG):=⟨(cLoop y4 p6 c6 p7 c7),_,rfl,rfl,(uR ⟨_,_,rfl,h13,h14⟩),rfl⟩;obtain⟨ar,aG,N⟩:=zB N;exact sW 141 2 2 rfl rfl rfl h7 (.inr ⟨0,rfl⟩) h16 aG λp9 c9 aM h17=>tX (zZ [1,2] (ag:=[hB av (cRd y5 p8 c8),hO zG (vS p9 ar c9) aM]))<|yQ [] [3] rfl<|zN<|zK<|zL<|yQ [] [4] rfl<|yV<|nX<|ih ar (W (i - 1)) y5 _ N H h17 h15 hg ho hx
 intro hc N;exact wW<|yZ<|hx _ _ _ _ _ _ _ _ (zE N).symm H h7 h8
def zAX(r0:zQ):Option ((List zG)×zQ):=do
 let (y1,y2)<-xI r0 ([2,1,2,3]:List Int);let (aj,x1)<-mS ([]:List zG) y1 y2;pure (aj,x1)
theorem zIa:∀r0 r,zAX r0=some r->∀{I:Imm}{av}{p c},(S4 I p r0.b c)->RT 218 [vP av 0] I [hB av (cRd r0 p c)] (zHC av r):=by
 intro r0 r N I av p c h;unfold zAX at N;refine yM func218 λB=>wZ []<|yY<|uX [] zG ?_;intro b hb;have h1:RL I [] ([]:List zG):=rfl;refine yQ [] [3] rfl<|yA<|yD<|yG 1 [] [6] rfl<|mH (rI [2,1,2,3]) ?_;intro b1 I0 le h3;have ⟨h1,h⟩:=m2 le h1 h;refine tX (zZ [1,0] (ag:=[hB av (cRd r0 p c),hO zG (vS (some ⟨b,0,none⟩) ([]:List zG) 0) []])) ?_;obtain⟨⟨y1,y2⟩,hy,N⟩:=zB N;refine qB (xP r0 ([2,1,2,3]:List Int) _ hy h h3) rfl ?_;rintro aP ax v2 k2 aa - ⟨v0,kk,rfl,rfl,rfl,h5⟩ -;have h1:=iM aa h1;obtain⟨p1,c1,rfl,h6⟩:=yJ h5;refine yQ [] [4] rfl<|wN<|qX [(0,vP av 0),(3,vS (some ⟨b,0,none⟩) ([]:List zG) 0),(4,vI y1)] ?_;obtain⟨o0,aA,aE⟩:=zB N;refine zGQ ([]:List zG) y1 y2 o0 aA iR h1 h6 nG nO ?_;intro bx aj x1 p4 c4 au p5 c5 heq aI h9 h10;subst o0;refine zS<|vM [2] rfl<|xH<|xB 1 rfl ?_;intro bG aY hl01;have h18:=SL.of_frozen hl01 aY h9;have h10:=h10.mono aY;exact xX aE (resT rfl) (zX [0] rfl (by decide)) ⟨_,_,rfl,rfl,h18,(xF ⟨_,rfl,h10⟩)⟩
def zHD(b0:Nat)(r:zM×zQ):KT:=λkk I' ag v=>
 ∃v0 k0,ag=[.blk b0 ⟨k0⟩]/\v=tupV [v0]/\(∃cs,v0=.agg ⟨cs⟩/\Rp.rep I' cs r.1)/\Rp.rep I' k0 r.2
def mT(ae:Int)(n0:Int)(i:Int)(Subs:List zA)(x:zQ):Option ((List zA×zQ)):=do
 if(decide (i<n0)) then
  let (y4,y5)<-xI x ([0,1,0,2]:List Int);let y6<-uC y4;let (t32,x2)<-(do
   if(decide (ae>0)) then
    let (y8,y9)<-xN y5 5;pure ((decide (y8>0)),y9)
   else
    pure (false,y5)
     : Option (Bool×zQ))
  let (x3,x4)<-(do
   if t32 then
    let (y11,y12)<-xN x2 ae;let y13<-jH y11;let (y15,y16)<-xI y12 ([1,1,1,2,(-1)]:List Int);let (y18,y19)<-xI y16 ([0,1,0,0,2]:List Int);let y20<-uC y18;let y21<-jP y13 y15 y20 1;pure (y21,y19)
   else
    pure ((zA.mk y6.Coefs y6.Const),x2)
     : Option (zA×zQ))
  let l<-app 32 Subs ([x3]:List zA);mT ae n0 (W (i+1)) l x4
 else pure (Subs,x)
 partial_fixpoint
theorem zGR(ae:Int)(n0:Int):∀(i:Int) (Subs:List zA) (x:zQ) (o:(List zA×zQ)),mT ae n0 i Subs x=some o->∀{B}{I0 I:Imm}{Q}{y1:Str}{av b b2}{p2 c2 cs p3 c3},I0.le I->(RL I cs Subs)->(S4 I p3 x.b c3)->NG Q->NO Q->(∀I' Subs1 x1 p4 c4 au p5 c5,o=(Subs1,x1)->I0.le I'->(RL I' au Subs1)->(S4 I' p5 x1.b c5)->T 53 B Q (.exit 0) I' [hO zA (vS p4 Subs1 c4) au,hB b2 [vT y1.l,vS p4 Subs1 c4],hB av (cRd x1 p5 c5),hB b [vT ([]),z0]] [(4,vP b 0),(5,vP b2 0)])->J Tryz.prog 53 B (nav (bodyOf f245) [1,1,1,1,0,1,0]) Q I [hO zA (vS p2 Subs c2) cs,hB b2 [vT y1.l,vS p2 Subs c2],hB av (cRd x p3 c3),hB b [vT ([]),z0]] [(0,vP av 0),(1,vI ae),(4,vP b 0),(5,vP b2 0),(6,vI n0),(7,vI i)]:=by
 refine mT.partial_correctness ae n0 _ λaJ ih i Subs x o N B I0 I Q y1 av b b2 p2 c2 cs p3 c3 H h7 h8 hg ho hx=>yX hg ho<|yC<|yK [19] rfl<|zK<|yH N ?_ ?_
 ·intro aH N;refine zT<|yA<|yL<|yD<|yG 1 [] [22] rfl<|mH (rI [0,1,0,2]) ?_;intro b3 bx aI h12;have ⟨h7,h8,H⟩:=m3 aI h7 h8 H;refine tX (zZ [2,0,1,3] (ag:=[hB av (cRd x p3 c3),hO zA (vS p2 Subs c2) cs,hB b2 [vT y1.l,vS p2 Subs c2],hB b [vT ([]),z0]])) ?_;obtain⟨⟨y4,y5⟩,az,N⟩:=zB N;refine qB (xP x ([0,1,0,2]:List Int) _ az h8 h12) rfl ?_;rintro bG ax v2 k2 aY - ⟨v02,kk1,rfl,rfl,rfl,h14⟩ -;have ⟨h7,H⟩:=m2 aY h7 H;obtain⟨p6,c6,rfl,h15⟩:=yJ h14;obtain⟨y6,aG,N⟩:=zB N;refine xK (sC y4 _ aG ) ?_;rintro bK ax v2 k2 bo - ⟨p7,c7,aR,rfl,rfl,h16⟩ -;have ⟨h15,h7,H⟩:=m3 bo h15 h7 H;refine xY [z0,vI 0] ?_;intro b4 hb4;refine xC 0 (cAff y6 p7 c7) rfl<|zY rfl<|yA<|yC ?_;obtain⟨aU,aB,hMc1⟩:=zB N;refine nP (λI' ag m'=>∃(t32:Bool) (x2:zQ) (p8:Option Addr) (c8:Nat),aU=(t32,x2)/\bK.le I'/\(S4 I' p8 x2.b c8)/\ag=[hB b4 (cAff y6 p7 c7),hO Int (vS p7 y6.Coefs c7) aR,hB av (cRd x2 p8 c8),hO zA (vS p2 Subs c2) cs,hB b2 [vT y1.l,vS p2 Subs c2],hB b [vT ([]),z0]]/\m'=[(0,vP av 0),(1,vI ae),(4,vP b 0),(5,vP b2 0),(6,vI n0),(7,vI i),(8,vP b4 0),(32,.bool t32)]) ?_ ?_
  ·have H:=iS bK;refine zL<|yG 3 [] [28] rfl<|wR [28] aB ?_ ?_
   ·intro ba N;refine yG 4 [] [29] rfl<|tX (zZ [2,0,1,3,4,5] (ag:=[hB av (cRd y5 p6 c6),hB b4 (cAff y6 p7 c7),hO Int (vS p7 y6.Coefs c7) aR,hO zA (vS p2 Subs c2) cs,hB b2 [vT y1.l,vS p2 Subs c2],hB b [vT ([]),z0]])) ?_;obtain⟨⟨y8,y9⟩,bh,N⟩:=zB N;refine qB (wL y5 5 _ bh h15) rfl ?_;rintro I07 ax v2 k2 bv - ⟨v04,kk2,rfl,rfl,rfl,h19⟩ -;have H:=H.trans bv;obtain⟨p9,c9,rfl,h20⟩:=yJ h19;exact yQ [] [32] rfl<|wK (zX [1,2,0,3,4,5] rfl (by decide))<|yZ<|zU ⟨_,_,_,_,(zE N).symm,H,h20,rfl,rfl⟩
   intro ba N;exact wM [] [(32,vF)]<|yZ<|zU ⟨_,_,_,_,(zE N).symm,H,h15,rfl,rfl⟩
  rintro I06 ax m2 ⟨t32,x2,p8,c8,heq1,le7,h17,rfl,rfl⟩;subst aU;have ⟨h16,h7,H⟩:=m3 le7 h16 h7 H;refine zK<|oO 1 rfl ?_;intro I08 le8 hl02;have h21:=SL.of_frozen hl02 le8 h16;have ⟨h17,h7,H⟩:=m3 le8 h17 h7 H;obtain⟨o02,ho02,hMc2⟩:=zB hMc1;refine nP (λI' ag m'=>∃(x3:zA) (x4:zQ) (aL:Option Addr) (aO:Nat) (aF:Option Addr) (aQ:Nat),o02=(x3,x4)/\I08.le I'/\(S4 I' aL x3.Coefs aO)/\(S4 I' aF x4.b aQ)/\ag=[hB b4 (cAff x3 aL aO),hB av (cRd x4 aF aQ),hO zA (vS p2 Subs c2) cs,hB b2 [vT y1.l,vS p2 Subs c2],hB b [vT ([]),z0]]/\m'=[(0,vP av 0),(1,vI ae),(4,vP b 0),(5,vP b2 0),(6,vI n0),(7,vI i),(8,vP b4 0)]) ?_ ?_
  ·have H:=iS I08;refine yH ho02 ?_ ?_
   ·intro bD N;refine yD<|yG 2 [] [33,34] rfl<|tX (zZ [1,0,2,3,4] (ag:=[hB av (cRd x2 p8 c8),hB b4 (cAff y6 p7 c7),hO zA (vS p2 Subs c2) cs,hB b2 [vT y1.l,vS p2 Subs c2],hB b [vT ([]),z0]])) ?_;obtain⟨⟨y11,y12⟩,bu,N⟩:=zB N;refine qB (wL x2 ae _ bu h17) rfl ?_;rintro bN ax v2 k2 le9 - ⟨v06,kk3,rfl,rfl,rfl,h25⟩ -;have H:=H.trans le9;obtain⟨bj,aZ,rfl,h26⟩:=yJ h25;refine yQ [] [9] rfl<|zK<|zL<|yG 1 [] [36] rfl<|bE N λy13 bC N=>xK (zAR y11 _ bC ) ?_;rintro bS ax v2 k2 le10 - ⟨v08,rfl,rfl,⟨aM,rfl,h27⟩⟩ -;have ⟨h26,H⟩:=m2 le10 h26 H;obtain⟨bc,bd,rfl,h28⟩:=yI h27;refine yG 3 [] [38] rfl<|mH (rI [1,1,1,2,(-1)]) ?_;intro b5 bR le11 h30;have ⟨h28,h26,H⟩:=m3 le11 h28 h26 H;obtain⟨⟨y15,y16⟩,hy6,N⟩:=zB N;refine qB (xP y12 ([1,1,1,2,(-1)]:List Int) _ hy6 h26 h30) rfl ?_;rintro I013 ax v2 k2 le12 - ⟨v010,kk4,rfl,rfl,rfl,h32⟩ -;have ⟨h28,H⟩:=m2 le12 h28 H;obtain⟨p14,c14,rfl,h33⟩:=yJ h32;refine yG 6 [] [41] rfl<|mH (rI [0,1,0,0,2]) ?_;intro b6 I014 le13 h35;have ⟨h28,h33,H⟩:=m3 le13 h28 h33 H;obtain⟨⟨y18,y19⟩,hy7,N⟩:=zB N;refine qB (xP y16 ([0,1,0,0,2]:List Int) _ hy7 h33 h35) rfl ?_;rintro I015 ax v2 k2 le14 - ⟨v012,kk5,rfl,rfl,rfl,h37⟩ -;have ⟨h28,H⟩:=m2 le14 h28 H;obtain⟨p15,c15,rfl,h38⟩:=yJ h37;obtain⟨y20,hy8,N⟩:=zB N;refine xK (sC y18 _ hy8 ) ?_;rintro I016 ax v2 k2 le15 - ⟨p16,c16,bt,rfl,rfl,h39⟩ -;have ⟨h28,h38,H⟩:=m3 le15 h28 h38 H;refine xV 0 rfl ?_;intro I017 le16 hl05;have h40:=SL.of_frozen hl05 le16 h39;have ⟨h28,h38,H⟩:=m3 le16 h28 h38 H;obtain⟨y21,hy9,N⟩:=zB N;refine xK (zCO y13 y15 y20 1 _ hy9 h28 h40) ?_;rintro I018 ax v2 k2 le17 - ⟨v014,rfl,rfl,⟨bz,rfl,h41⟩⟩ -;have ⟨h38,H⟩:=m2 le17 h38 H;obtain⟨p17,c17,rfl,h42⟩:=yI h41;exact xC 1 (cAff y21 p17 c17) rfl<|zY rfl<|wK (zX [1,0,2,3,4] rfl (by decide))<|yZ<|zU ⟨_,_,_,_,_,_,(zE N).symm,H,h42,h38,rfl,rfl⟩
   intro bD N;exact zT<|yZ<|zU ⟨_,_,_,_,_,_,(zE N).symm,H,h21,h17,rfl,rfl⟩
  rintro I09 ax m2 ⟨x3,x4,aL,aO,aF,aQ,heq2,le18,h22,h23,rfl,rfl⟩;subst o02;have ⟨h7,H⟩:=m2 le18 h7 H;refine zK<|zL<|uW 3 [3,0] [(47,vS p2 Subs c2),(48,vA (cAff x3 aL aO))]<|uX (cAff x3 aL aO) zA ?_;intro b7 hb7;have h43:RL I09 (cAff x3 aL aO) ([x3]:List zA):=⟨(cAff x3 aL aO),_,rfl,rfl,(yO ⟨_,rfl,h22⟩),rfl⟩;obtain⟨l,hy10,N⟩:=zB hMc2;refine sW 95 2 3 rfl rfl rfl h7 (.inr ⟨0,rfl⟩) h43 hy10 ?_;intro p18 c18 cs6 h44;exact tX (zZ [1,2,3,4,5] (ag:=[hB b4 (cAff x3 aL aO),hB av (cRd x4 aF aQ),hO zA (vS p18 l c18) cs6,hB b2 [vT y1.l,vS p2 Subs c2],hB b [vT ([]),z0]]))<|yG 6 [] [51] rfl<|xC 3 [vT y1.l,vS p18 l c18] rfl<|zY rfl<|zN<|zK<|zL<|yQ [] [7] rfl<|yV<|qZ (zX [2,3,1,4] rfl (by decide))<|nX<|ih (W (i+1)) l x4 _ N H h44 h23 hg ho hx
 intro aH N;exact wW<|yZ<|hx _ _ _ _ _ _ _ _ (zE N).symm H h7 h8
def fG(r0:zQ)(ae:Int):Option (zM×zQ):=do
 let (y1,y2)<-nT r0 ([(⟨[65]⟩:Str),(⟨[66]⟩:Str),(⟨[65]⟩:Str),(⟨[67]⟩:Str)]:List Str);let n0<-(do
  if(y1.l==([66]:List UInt8)) then pure (id 2)
  else
   pure (id 1)
    : Option Int)
 let (Subs1,x1)<-mT ae n0 0 ([]:List zA) y2;pure ((zM.mk y1 Subs1),x1)
theorem zEJ:∀r0 ae r,fG r0 ae=some r->∀{I:Imm}{av}{p c},(S4 I p r0.b c)->RT 245 [vP av 0,vI ae] I [hB av (cRd r0 p c)] (zHD av r):=by
 intro r0 ae r N I av p c h;unfold fG at N;refine yM func245 λB=>?_;have H:=iS I;refine yD<|xY [vT ([]),z0] ?_;intro b hb;refine zY rfl<|yY<|yG 1 [] [10] rfl<|mH (rT [(⟨[65]⟩:Str),(⟨[66]⟩:Str),(⟨[65]⟩:Str),(⟨[67]⟩:Str)]) ?_;intro b1 I0 le h2;have ⟨h,H⟩:=m2 le h H;refine tX (zZ [1,0] (ag:=[hB av (cRd r0 p c),hB b [vT ([]),z0]])) ?_;obtain⟨⟨y1,y2⟩,hy,N⟩:=zB N;refine qB (zAJ r0 ([(⟨[65]⟩:Str),(⟨[66]⟩:Str),(⟨[65]⟩:Str),(⟨[67]⟩:Str)]:List Str) _ hy h h2) rfl ?_;rintro aP ax v2 k2 aa - ⟨v0,kk,rfl,rfl,rfl,h4⟩ -;have H:=H.trans aa;obtain⟨p1,c1,rfl,h5⟩:=yJ h4;refine yG 4 [] [13] rfl<|xY [vT ([]),z0] ?_;intro b2 hb2;refine xC 0 [vT y1.l,z0] rfl<|zY rfl<|vM [6] rfl<|yA<|yD<|yQ [0] [16] rfl<|zK ?_;refine vQ N [hB b2 [vT y1.l,z0],hB av (cRd y2 p1 c1),hB b [vT ([]),z0]] (λn0=>[(0,vP av 0),(1,vI ae),(4,vP b 0),(5,vP b2 0),(6,vI n0)]) (λo0 aA=>?_) ?_
 ·have H:=iS aP;refine yH aA ?_ ?_
  ·intro hc N;exact zL<|yQ [] [6] rfl<|yZ<|zU (ct N H)
  intro hc N;exact zT<|yZ<|zU (ct N H)
 intro n0 aW aC aX;have h5:=h5.mono aC;refine yA<|yK [7] rfl<|wN<|qX [(0,vP av 0),(1,vI ae),(4,vP b 0),(5,vP b2 0),(6,vI n0),(7,vI 0)]<|zA6 zA λh6=>?_;obtain⟨o03,ho03,aE⟩:=zB aX;refine zGR ae n0 0 ([]:List zA) y2 o03 ho03 iR h6 h5 nG nO ?_;intro I019 Subs1 x1 p4 c4 au p5 c5 heq3 le19 h9 h10;subst o03;refine zS<|yY<|uW 1 [1] [(52,vA [vT y1.l,vS p4 Subs1 c4])]<|xC 3 [vT y1.l,vS p4 Subs1 c4] rfl<|zY rfl<|xH<|xB 0 rfl ?_;intro I020 le20 hl06;have h45:=SL.of_frozen hl06 le20 h9;have h10:=h10.mono le20;exact xX aE (resC 2 rfl rfl) (zX [1] rfl (by decide)) ⟨_,_,rfl,rfl,⟨_,rfl,(oG ⟨_,rfl,h45⟩)⟩,(xF ⟨_,rfl,h10⟩)⟩
def zHE(b0:Nat)(r:zA×zQ):KT:=λkk I' ag v=>
 ∃v0 k0,ag=[.blk b0 ⟨k0⟩]/\v=tupV [v0]/\(∃cs,v0=.agg ⟨cs⟩/\Rp.rep I' cs r.1)/\Rp.rep I' k0 r.2
def mU(ae:Int)(i:Int)(Coefs:List Int)(x:zQ):Option ((List Int×zQ)):=do
 if(decide (i<ae)) then
  let (y5,y6)<-xI x ([0,1,0,(-1),2,0,9]:List Int);let x2<-idx Coefs i;let l<-pure (Coefs.set i.toNat y5);mU ae (W (i+1)) l y6
 else pure (Coefs,x)
 partial_fixpoint
theorem zGS(ae:Int):∀(i:Int) (Coefs:List Int) (x:zQ) (o:(List Int×zQ)),mU ae i Coefs x=some o->∀{B}{I0 I:Imm}{Q}{y3:zA}{av b b2}{p3 c3 au p4 c4},I0.le I->(RL I au Coefs)->(S4 I p4 x.b c4)->NG Q->NO Q->(∀I' Coefs1 x1 p5 c5 aR p6 c6,o=(Coefs1,x1)->I0.le I'->(RL I' aR Coefs1)->(S4 I' p6 x1.b c6)->T 24 B Q (.exit 0) I' [hB b2 [vS p5 Coefs1 c5,vI y3.Const],hO Int (vS p5 Coefs1 c5) aR,hB av (cRd x1 p6 c6),hB b [z0,vI 0]] [(4,vP b 0),(5,vP b2 0)])->J Tryz.prog 24 B (nav (bodyOf f265) [1,1,0,1,0]) Q I [hB b2 [vS p3 Coefs c3,vI y3.Const],hO Int (vS p3 Coefs c3) au,hB av (cRd x p4 c4),hB b [z0,vI 0]] [(0,vP av 0),(1,vI ae),(4,vP b 0),(5,vP b2 0),(6,vI i)]:=by
 refine mU.partial_correctness ae _ λaJ ih i Coefs x o N B I0 I Q y3 av b b2 p3 c3 au p4 c4 H h7 h8 hg ho hx=>yX hg ho<|yC<|yK [13] rfl<|zK<|yH N ?_ ?_
 ·intro hc N;refine zT<|yA<|yL ?_;obtain⟨⟨y5,y6⟩,aG,N⟩:=zB N;refine wP [.p (vP b2 0) [],.p (vS p3 Coefs c3) [0],.p (vI i) [],.p (vP av 0) [],.x (λI' v hx=>∃b3,v=vS (some ⟨b3,0,none⟩) ([0,1,0,(-1),2,0,9]:List Int) 7/\hx=[]/\(SL I' (vS (some ⟨b3,0,none⟩) ([0,1,0,(-1),2,0,9]:List Int) 7) ([0,1,0,(-1),2,0,9]:List Int))),.x (λI' v hx=>∃p7 c7,v=vI y5/\hx=[hB av (cRd y6 p7 c7)]/\(S4 I' p7 y6.b c7))] [[],[(0,false)],[],[],[],[(3,false),(4,false),(8,true)]] [hB b2 [vS p3 Coefs c3,vI y3.Const],hO Int (vS p3 Coefs c3) au,hB b [z0,vI 0]] [[hB av (cRd x p4 c4)]] [(1,false),(2,false),(5,true)] (zZ [0,1,3,2]) ?_ ?_
  ·refine O4<|Ox ?_<|Ox ?_<|On
   ·intro I1 hf aa;refine I_h [] ?_;have H:=iS I1;refine mH (rI [0,1,0,(-1),2,0,9]) ?_;intro b3 bx aI h12;have H:=H.trans aI;exact yN [] H ⟨_,rfl,rfl,h12⟩
   rintro I1 hf aa _ _ ⟨rfl,rfl⟩ _ _ ⟨b3,rfl,rfl,h12⟩ _ _ rfl;refine yW [19,20] rfl ?_;have H:=iS I1;have h8:=h8.mono aa;refine qB (xP x ([0,1,0,(-1),2,0,9]:List Int) _ aG h8 h12) rfl ?_;rintro bG ax v2 k2 aY - ⟨v02,kk1,rfl,rfl,rfl,h14⟩ -;have H:=H.trans aY;obtain⟨p7,c7,rfl,h15⟩:=yJ h14;exact yN [hB av (cRd y6 p7 c7)] H ⟨_,_,rfl,rfl,h15⟩
  rintro bK bo _ _ ⟨rfl,rfl⟩ _ _ ⟨rfl,rfl⟩ _ _ ⟨p7,c7,rfl,rfl,h15⟩;refine yW [0,1,4,5,6,17,18,21] rfl ?_;have ⟨h7,H⟩:=m2 bo h7 H;obtain⟨x2,bh,N⟩:=zB N;refine gJ 2 rfl rfl rfl h7 bh ?_;intro ad aN aq bI am;obtain rfl:=am;obtain⟨l,bu,N⟩:=zB N;refine zMT 2 0 aq bI h7 bh bu rfl ?_;intro aM h16 hl02;rw[vE hl02];exact zY rfl<|zN<|zK<|zL<|yQ [] [6] rfl<|yV<|qZ (zX [1,2,0,3] rfl (by decide))<|nX<|ih (W (i+1)) l y6 _ N H h16 h15 hg ho hx
 intro hc N;exact wW<|yZ<|hx _ _ _ _ _ _ _ _ (zE N).symm H h7 h8
def eZ(r0:zQ)(ae:Int):Option (zA×zQ):=do
 let (y1,y2)<-xI r0 ([0,1,(-1),2,0,5,(-9),99]:List Int);let y3<-uC y1;let (Coefs1,x1)<-mU ae 0 y3.Coefs y2;pure ((zA.mk Coefs1 y3.Const),x1)
theorem zIb:∀r0 ae r,eZ r0 ae=some r->∀{I:Imm}{av}{p c},(S4 I p r0.b c)->RT 265 [vP av 0,vI ae] I [hB av (cRd r0 p c)] (zHE av r):=by
 intro r0 ae r N I av p c h;unfold eZ at N;refine yM func265 λB=>yD<|xY [z0,vI 0] ?_;intro b hb;refine zY rfl<|yY<|yG 1 [] [7] rfl<|mH (rI [0,1,(-1),2,0,5,(-9),99]) ?_;intro b1 I0 le h2;have h:=h.mono le;refine tX (zZ [1,0] (ag:=[hB av (cRd r0 p c),hB b [z0,vI 0]])) ?_;obtain⟨⟨y1,y2⟩,hy,N⟩:=zB N;refine qB (xP r0 ([0,1,(-1),2,0,5,(-9),99]:List Int) _ hy h h2) rfl ?_;rintro aP ax v2 k2 aa - ⟨v0,kk,rfl,rfl,rfl,h4⟩ -;obtain⟨p1,c1,rfl,h5⟩:=yJ h4;obtain⟨y3,az,N⟩:=zB N;refine xK (sC y1 _ az ) ?_;rintro aW ax v2 k2 aC - ⟨p2,c2,cs,rfl,rfl,h6⟩ -;have h5:=h5.mono aC;refine xY [z0,vI 0] ?_;intro b2 hb2;refine xC 0 (cAff y3 p2 c2) rfl<|zY rfl<|yA<|yK [6] rfl<|wN<|qX [(0,vP av 0),(1,vI ae),(4,vP b 0),(5,vP b2 0),(6,vI 0)] ?_;obtain⟨o0,aA,aE⟩:=zB N;refine zGS ae 0 y3.Coefs y2 o0 aA iR h6 h5 nG nO ?_;intro I06 Coefs1 x1 p5 c5 aR p6 c6 heq bv h9 h10;subst o0;refine zS<|yY<|uW 1 [0] [(23,vA [vS p5 Coefs1 c5,vI y3.Const])]<|xC 3 [vS p5 Coefs1 c5,vI y3.Const] rfl<|zY rfl<|xH<|xB 1 rfl ?_;intro I07 le7 hl03;have h17:=SL.of_frozen hl03 le7 h9;have h10:=h10.mono le7;exact xX aE (resC 2 rfl rfl) (zX [1] rfl (by decide)) ⟨_,_,rfl,rfl,⟨_,rfl,(yO ⟨_,rfl,h17⟩)⟩,(xF ⟨_,rfl,h10⟩)⟩
def zCP(b0:Nat)(r:zH×zQ):KT:=λkk I' ag v=>
 ∃v0 k0,ag=[.blk b0 ⟨k0⟩]/\v=tupV [v0]/\(∃cs,v0=.agg ⟨cs⟩/\Rp.rep I' cs r.1)/\Rp.rep I' k0 r.2
mutual
def nH(r0:zQ)(ae:Int)(ak:Int):Option (zH×zQ):=do
 let (t15,x)<-(do
  if(decide (ak<2)) then pure (true,r0)
  else
   let (y1,y2)<-xN r0 4;pure ((y1==0),y2)
    : Option (Bool×zQ))
 if t15 then
  let (y4,y5)<-xN x 4;if(y4==0) then
   let (y7,y8)<-xI y5 ([1,2,0,99,3]:List Int);pure ((zH.mk 1 y7 (zA.mk ([]:List Int) 0) (zM.mk (⟨[]⟩:Str) ([]:List zA)) ([]:List zH)),y8)
  else
   if(y4==1) then
    let (y10,y11)<-eZ y5 ae;pure ((zH.mk 2 0 y10 (zM.mk (⟨[]⟩:Str) ([]:List zA)) ([]:List zH)),y11)
   else
    let (y13,y14)<-fG y5 ae;pure ((zH.mk 3 0 (zA.mk ([]:List Int) 0) y13 ([]:List zH)),y14)
 else
  let (y16,y17)<-xI x ([4,6,5,4]:List Int);let (Kids1,x2)<-kQ (same ae) (same ak) (same 0) ([]:List zH) (same y17);pure ((zH.mk y16 0 (zA.mk ([]:List Int) 0) (zM.mk (⟨[]⟩:Str) ([]:List zA)) Kids1),x2)
 partial_fixpoint
def kQ(ae:Int)(ak:Int)(i:Int)(Kids:List zH)(x1:zQ):Option ((List zH×zQ)):=do
 if(decide (i<2)) then
  let (y19,y20)<-nH (same x1) (same ae) (W (ak - 1));let l<-app 112 Kids ([y19]:List zH);kQ (same ae) (same ak) (W (i+1)) (same l) (same y20)
 else pure (Kids,x1)
 partial_fixpoint
end
theorem zHF:(∀(r0:zQ) (ae:Int) (ak:Int) r,nH r0 ae ak=some r->∀{I:Imm}{av}{p c},(S4 I p r0.b c)->RT 246 [vP av 0,vI ae,vI ak] I [hB av (cRd r0 p c)] (zCP av r))/\(∀(ae:Int) (ak:Int) (i:Int) (Kids:List zH) (x1:zQ) o,kQ ae ak i Kids x1=some o->∀{B}{I0 I:Imm}{Q}{y16:Int}{av b b3}{aL aO aR aF aQ},I0.le I->(RL I aR Kids)->(S4 I aF x1.b aQ)->NG Q->NO Q->(∀I' Kids1 x2 bj aZ aM bc bd,o=(Kids1,x2)->I0.le I'->(RL I' aM Kids1)->(S4 I' bc x2.b bd)->T 53 B Q (.exit 1) I' [hO zH (vS bj Kids1 aZ) aM,hB b3 [vI y16,vI 0,z0,vI 0,vT ([]),z0,vS bj Kids1 aZ],hB av (cRd x2 bc bd),hB b zExpr] [(6,vP b 0),(7,vP b3 0)])->J Tryz.prog 53 B (nav (bodyOf f246) [1,1,1,0,1,0]) Q I [hO zH (vS aL Kids aO) aR,hB b3 [vI y16,vI 0,z0,vI 0,vT ([]),z0,vS aL Kids aO],hB av (cRd x1 aF aQ),hB b zExpr] [(0,vP av 0),(1,vI ae),(2,vI ak),(6,vP b 0),(7,vP b3 0),(8,vI i)]):=by
 refine nH.mutual_partial_correctness _ _ ?_ ?_
 ·intro F_spec_l3Value_l1 ih_spec_l3Value_l1 r0 ae ak r N I av p c h;refine yM func246 λB=>?_;have H:=iS I;refine yD<|xY zExpr ?_;intro b hb;refine zY rfl<|yA<|yC ?_;obtain⟨o0,aA,aX⟩:=zB N;refine nP (λI' ag m'=>∃(t15:Bool) (x:zQ) (p1:Option Addr) (c1:Nat),o0=(t15,x)/\I.le I'/\(S4 I' p1 x.b c1)/\ag=[hB b zExpr,hB av (cRd x p1 c1)]/\m'=[(0,vP av 0),(1,vI ae),(2,vI ak),(6,vP b 0),(15,.bool t15)]) ?_ ?_
  ·have H:=iS I;refine zL<|yG 3 [] [11] rfl<|wR [11] aA ?_ ?_
   ·intro hc N;exact wM [] [(15,vY)]<|yZ<|zU ⟨_,_,_,_,(zE N).symm,H,h,rfl,rfl⟩
   intro hc N;refine yG 4 [] [12] rfl<|tX (zZ [1,0] (ag:=[hB av (cRd r0 p c),hB b zExpr])) ?_;obtain⟨⟨y1,y2⟩,hy,N⟩:=zB N;refine qB (wL r0 4 _ hy h) rfl ?_;rintro aP ax v2 k2 le - ⟨v0,kk,rfl,rfl,rfl,h3⟩ -;have H:=H.trans le;obtain⟨p2,c2,rfl,h4⟩:=yJ h3;exact yQ [] [15] rfl<|wK (zX [1,0] rfl (by decide))<|yZ<|zU ⟨_,_,_,_,(zE N).symm,H,h4,rfl,rfl⟩
  rintro I0 ax m2 ⟨t15,x,p1,c1,heq,aa,h1,rfl,rfl⟩;subst o0;refine zK<|yH aX ?_ ?_
  ·intro aH N;refine yC<|yD<|yG 1 [] [16] rfl<|tX (zZ [1,0] (ag:=[hB av (cRd x p1 c1),hB b zExpr])) ?_;obtain⟨⟨y4,y5⟩,az,N⟩:=zB N;refine qB (wL x 4 _ az h1) rfl ?_;rintro aW ax v2 k2 aC - ⟨v02,kk1,rfl,rfl,rfl,h6⟩ -;obtain⟨p3,c3,rfl,h7⟩:=yJ h6;refine zY rfl<|wN<|yK [18] rfl<|zK<|yH N ?_ ?_
   ·intro ba N;refine yD<|yG 1 [] [20] rfl<|mH (rI [1,2,0,99,3]) ?_;intro b1 bx aI h9;have h7:=h7.mono aI;obtain⟨⟨y7,y8⟩,aG,N⟩:=zB N;refine qB (xP y5 ([1,2,0,99,3]:List Int) _ aG h7 h9) rfl ?_;rintro bG ax v2 k2 aY - ⟨v04,kk2,rfl,rfl,rfl,h11⟩ -;obtain⟨p4,c4,rfl,h12⟩:=yJ h11;refine yG 4 [] [23] rfl<|xC 1 [vI 1,vI y7,z0,vI 0,vT ([]),z0,z0] rfl<|zY rfl<|xH<|zV<|zJ<|zJ ?_;exact xX N (resC 1 rfl rfl) (zX [0] rfl (by decide)) ⟨_,_,rfl,rfl,⟨_,rfl,(wF ⟨_,_,_,rfl,(SL.nil _),(SL.nil _),(SL.nil _)⟩)⟩,(xF ⟨_,rfl,h12⟩)⟩
   intro ba N;refine yK [24] rfl<|zK<|yH N ?_ ?_
   ·intro bD N;refine yD<|yG 2 [] [26,27] rfl ?_;obtain⟨⟨y10,y11⟩,bh,N⟩:=zB N;refine qB (zIb y5 ae _ bh h7) rfl ?_;rintro bK ax v2 k2 bo - ⟨v06,kk3,rfl,rfl,⟨cs,rfl,h13⟩,h14⟩ -;obtain⟨p5,c5,rfl,h15⟩:=yI h13;obtain⟨p6,c6,rfl,h16⟩:=yJ h14;refine yG 4 [] [29] rfl<|xC 1 [vI 2,vI 0,vS p5 y10.Coefs c5,vI y10.Const,vT ([]),z0,z0] rfl<|zY rfl<|xH<|zV<|zJ<|zJ ?_;exact xX N (resC 1 rfl rfl) (zX [0] rfl (by decide)) ⟨_,_,rfl,rfl,⟨_,rfl,(wF ⟨_,_,_,rfl,h15,(SL.nil _),(SL.nil _)⟩)⟩,(xF ⟨_,rfl,h16⟩)⟩
   intro bD N;refine zT<|zN<|yY<|yG 2 [] [30,31] rfl ?_;obtain⟨⟨y13,y14⟩,bu,N⟩:=zB N;refine qB (zEJ y5 ae _ bu h7) rfl ?_;rintro I06 ax v2 k2 bv - ⟨v09,kk4,rfl,rfl,⟨au,rfl,h17⟩,h18⟩ -;obtain⟨p7,c7,rfl,h19⟩:=rF h17;obtain⟨p8,c8,rfl,h20⟩:=yJ h18;refine yG 4 [] [33] rfl<|xC 1 [vI 3,vI 0,z0,vI 0,vT y13.Array.l,vS p7 y13.Subs c7,z0] rfl<|zY rfl<|xH<|zJ ?_;exact xX N (resC 1 rfl rfl) (zX [0] rfl (by decide)) ⟨_,_,rfl,rfl,⟨_,rfl,(wF ⟨_,_,_,rfl,(SL.nil _),h19,(SL.nil _)⟩)⟩,(xF ⟨_,rfl,h20⟩)⟩
  intro aH N;refine zT<|yY<|yG 1 [] [34] rfl<|mH (rI [4,6,5,4]) ?_;intro b2 I07 le7 h22;have h1:=h1.mono le7;refine tX (zZ [1,0] (ag:=[hB av (cRd x p1 c1),hB b zExpr])) ?_;obtain⟨⟨y16,y17⟩,bC,N⟩:=zB N;refine qB (xP x ([4,6,5,4]:List Int) _ bC h1 h22) rfl ?_;rintro I08 ax v2 k2 le8 - ⟨v012,kk5,rfl,rfl,rfl,h24⟩ -;obtain⟨p9,c9,rfl,h25⟩:=yJ h24;refine yG 4 [] [37] rfl<|xY zExpr ?_;intro b3 hb3;refine xC 0 [vI y16,vI 0,z0,vI 0,vT ([]),z0,z0] rfl<|zY rfl<|yA<|yK [8] rfl<|wN<|qX [(0,vP av 0),(1,vI ae),(2,vI ak),(6,vP b 0),(7,vP b3 0),(8,vI 0)]<|zA6 zH λh26=>?_;obtain⟨aU,aB,aE⟩:=zB N;refine ih_spec_l3Value_l1 ae ak 0 ([]:List zH) y17 aU aB iR h26 h25 nG nO ?_;intro bR Kids1 x2 bj aZ aM bc bd heq1 le12 h29 h30;subst aU;refine zS<|yY<|uW 1 [1] [(52,vA [vI y16,vI 0,z0,vI 0,vT ([]),z0,vS bj Kids1 aZ])]<|xC 3 [vI y16,vI 0,z0,vI 0,vT ([]),z0,vS bj Kids1 aZ] rfl<|zY rfl<|xH<|xB 0 rfl ?_;intro I013 le13 hl03;have h40:=SL.of_frozen hl03 le13 h29;have h30:=h30.mono le13;exact xX aE (resC 2 rfl rfl) (zX [1] rfl (by decide)) ⟨_,_,rfl,rfl,⟨_,rfl,(wF ⟨_,_,_,rfl,(SL.nil _),(SL.nil _),h40⟩)⟩,(xF ⟨_,rfl,h30⟩)⟩
 intro F_spec_l3Value F_spec_l3Value_l1 ih_spec_l3Value ih_spec_l3Value_l1 ae ak i Kids x1 o N B I0 I Q y16 av b b3 aL aO aR aF aQ H h27 h28 hg ho hx;refine yX hg ho<|yC<|yK [39] rfl<|zK<|yH N ?_ ?_
 ·intro bJ N;refine zT<|yA<|yL ?_;obtain⟨⟨y19,y20⟩,hy6,N⟩:=zB N;obtain⟨l,hy7,N⟩:=zB N;refine wP [.p (vP b3 6) [],.p (vS aL Kids aO) [0],.p (vP av 0) [],.p (vI ae) [],.p (vI ak) [],.p (vI (W (ak - 1))) [],.x (λI' v hx=>∃p14 c14 p15 c15 p16 c16 p17 c17,v=vA (cExpr y19 p14 c14 p15 c15 p16 c16)/\hx=[hB av (cRd y20 p17 c17)]/\(S4 I' p14 y19.Index.Coefs c14)/\(S4 I' p15 y19.Read.Subs c15)/\(S4 I' p16 y19.Kids c16)/\(S4 I' p17 y20.b c17)),.x (λI' v hx=>∃b4,v=vS (some ⟨b4,0,none⟩) ([y19]:List zH) 1/\hx=[]/\(SL I' (vS (some ⟨b4,0,none⟩) ([y19]:List zH) 1) ([y19]:List zH))),.x (λI' v hx=>∃p18 c18 bz,v=vS p18 l c18/\hx=[hO zH (vS p18 l c18) bz]/\(RL I' bz l))] [[],[(0,false)],[],[],[],[(4,false)],[(2,false),(3,false),(5,false),(11,true)],[(6,false)],[(1,false),(7,false),(12,true)]] [hB b3 [vI y16,vI 0,z0,vI 0,vT ([]),z0,vS aL Kids aO],hB b zExpr] [[hB av (cRd x1 aF aQ)],[hO zH (vS aL Kids aO) aR]] [(6,true),(8,true)] (zZ [1,3,2,0]) ?_ ?_
  ·refine O4<|O2<|Ox ?_<|Ox ?_<|Ox ?_<|On
   ·rintro I1 hf aa _ _ ⟨rfl,rfl⟩ _ _ ⟨rfl,rfl⟩ _ _ ⟨rfl,rfl⟩ _ _ rfl;refine yW [44,45,47] rfl ?_;have H:=iS I1;have h28:=h28.mono aa;refine qB (ih_spec_l3Value x1 ae (W (ak - 1)) _ hy6 h28) rfl ?_;rintro I09 ax v2 k2 le9 - ⟨v014,kk6,rfl,rfl,⟨bt,rfl,h31⟩,h32⟩ -;have H:=H.trans le9;obtain⟨p14,c14,p15,c15,p16,c16,rfl,h33,h34,h35⟩:=wT h31;obtain⟨p17,c17,rfl,h36⟩:=yJ h32;exact yN [hB av (cRd y20 p17 c17)] H ⟨_,_,_,_,_,_,_,_,rfl,rfl,h33,h34,h35,h36⟩
   ·rintro I1 hf aa _ _ ⟨p14,c14,p15,c15,p16,c16,p17,c17,rfl,rfl,h33,h34,h35,h36⟩;refine yW [48] rfl ?_;have H:=iS I1;refine mH (rc y19 (wF ⟨_,_,_,rfl,h33,h34,h35⟩) rN) ?_;intro b4 bN le10 h38;have H:=H.trans le10;exact yN [] H ⟨_,rfl,rfl,h38⟩
   rintro I1 hf aa _ _ ⟨rfl,rfl⟩ _ _ ⟨b4,rfl,rfl,h38⟩ _ _ rfl;refine yW [43,49] rfl ?_;have h27:=iM aa h27;obtain⟨aN,k0,k01⟩:=h38;have h38:SL I1 (vS (some ⟨b4,0,none⟩) ([y19]:List zH) 1) ([y19]:List zH):=⟨_,k0,k01⟩;exact sW 98 7 0 rfl rfl rfl h27 (.inl k0) k01 hy7 λp18 c18 bz h39=>wY (ag:=(hO zH (vS p18 l c18) bz::hB b3 [vI y16,vI 0,z0,vI 0,vT ([]),z0,vS aL Kids aO]::hB b zExpr::hf)) rfl<|yN [hO zH (vS p18 l c18) bz] iR ⟨_,_,_,rfl,rfl,h39⟩
  rintro bS le11 _ _ ⟨p14,c14,p15,c15,p16,c16,p17,c17,rfl,rfl,h33,h34,h35,h36⟩ _ _ ⟨p18,c18,bz,rfl,rfl,h39⟩;refine yW [0,1,2,6,7,8,50] rfl ?_;have H:=H.trans le11;exact yG 10 [] [51] rfl<|xC 2 [vI y16,vI 0,z0,vI 0,vT ([]),z0,vS p18 l c18] rfl<|zY rfl<|zN<|zK<|zL<|yQ [] [8] rfl<|yV<|qZ (zX [0,2,1,3] rfl (by decide))<|nX<|ih_spec_l3Value_l1 ae ak (W (i+1)) l y20 _ N H h39 h36 hg ho hx
 intro bJ N;exact wW<|yZ<|hx _ _ _ _ _ _ _ _ (zE N).symm H h27 h28
theorem zHl:∀r0 ae ak r,nH r0 ae ak=some r->∀{I:Imm}{av}{p c},(S4 I p r0.b c)->RT 246 [vP av 0,vI ae,vI ak] I [hB av (cRd r0 p c)] (zCP av r):=zHF.1
def zHG(b0:Nat)(r:zI×zQ):KT:=λkk I' ag v=>
 ∃v0 k0,ag=[.blk b0 ⟨k0⟩]/\v=tupV [v0]/\(∃cs,v0=.agg ⟨cs⟩/\Rp.rep I' cs r.1)/\Rp.rep I' k0 r.2
def zAY(r0:zQ)(ae:Int):Option (zI×zQ):=do
 let (y1,y2)<-fG r0 ae;let (y4,y5)<-xI y2 ([2,3,1,2]:List Int);let (y7,y8)<-nH y5 ae y4;let y9<-qU (zI.mk y1 y7) ae;if y9 then pure ((zI.mk y1 y7),y8)
 else
  let y10<-kG;pure ((zI.mk (zM.mk (⟨[65]⟩:Str) ([y10]:List zA)) (zH.mk 1 1 (zA.mk ([]:List Int) 0) (zM.mk (⟨[]⟩:Str) ([]:List zA)) ([]:List zH))),y8)
theorem zIc:∀r0 ae r,zAY r0 ae=some r->∀{I:Imm}{av}{p c},(S4 I p r0.b c)->RT 219 [vP av 0,vI ae] I [hB av (cRd r0 p c)] (zHG av r):=by
 intro r0 ae r N I av p c h;unfold zAY at N;refine yM func219 λB=>yD<|xY [vT ([]),z0,vI 0,vI 0,z0,vI 0,vT ([]),z0,z0] ?_;intro b hb;refine zY rfl<|yY<|yG 2 [] [6,7] rfl<|tX (zZ [1,0] (ag:=[hB av (cRd r0 p c),hB b [vT ([]),z0,vI 0,vI 0,z0,vI 0,vT ([]),z0,z0]])) ?_;obtain⟨⟨y1,y2⟩,hy,N⟩:=zB N;refine qB (zEJ r0 ae _ hy h) rfl ?_;rintro I0 ax v2 k2 le - ⟨v0,kk,rfl,rfl,⟨cs,rfl,h1⟩,h2⟩ -;obtain⟨p1,c1,rfl,h3⟩:=rF h1;obtain⟨p2,c2,rfl,h4⟩:=yJ h2;refine yG 6 [] [9,10,11] rfl<|mH (rI [2,3,1,2]) ?_;intro b1 aP aa h6;have ⟨h3,h4⟩:=m2 aa h3 h4;obtain⟨⟨y4,y5⟩,az,N⟩:=zB N;refine qB (xP y2 ([2,3,1,2]:List Int) _ az h4 h6) rfl ?_;rintro aW ax v2 k2 aC - ⟨v03,kk1,rfl,rfl,rfl,h8⟩ -;have h3:=h3.mono aC;obtain⟨p3,c3,rfl,h9⟩:=yJ h8;obtain⟨⟨y7,y8⟩,aG,N⟩:=zB N;refine qB (zHl y5 ae y4 _ aG h9) rfl ?_;rintro bx ax v2 k2 aI - ⟨v05,kk2,rfl,rfl,⟨au,rfl,h10⟩,h11⟩ -;have h3:=h3.mono aI;obtain⟨p4,c4,p5,c5,p6,c6,rfl,h12,h13,h14⟩:=wT h10;obtain⟨p7,c7,rfl,h15⟩:=yJ h11;refine yG 10 [] [15] rfl<|xY [vT ([]),z0,vI 0,vI 0,z0,vI 0,vT ([]),z0,z0] ?_;intro b2 hb2;refine xC 0 [vT y1.Array.l,vS p1 y1.Subs c1,vI y7.Kind,vI y7.Num,vS p4 y7.Index.Coefs c4,vI y7.Index.Const,vT y7.Read.Array.l,vS p5 y7.Read.Subs c5,vS p6 y7.Kids c6] rfl<|zY rfl<|yA<|yD<|uW 2 [0] [(16,vA [vT y1.Array.l,vS p1 y1.Subs c1,vI y7.Kind,vI y7.Num,vS p4 y7.Index.Coefs c4,vI y7.Index.Const,vT y7.Read.Array.l,vS p5 y7.Read.Subs c5,vS p6 y7.Kids c6]),(17,vI ae)]<|bE N λy9 bh N=>tA (zAn (zI.mk y1 y7) ae _ bh h3 h12 h13 h14) ?_;intro bG aY;have ⟨h3,h12,h13,h14,h15⟩:=m5 aY h3 h12 h13 h14 h15;refine zY rfl<|zK<|yH N ?_ ?_
 ·intro hc N;refine yD<|uW 1 [0] [(19,vA [vT y1.Array.l,vS p1 y1.Subs c1,vI y7.Kind,vI y7.Num,vS p4 y7.Index.Coefs c4,vI y7.Index.Const,vT y7.Read.Array.l,vS p5 y7.Read.Subs c5,vS p6 y7.Kids c6])]<|xC 2 [vT y1.Array.l,vS p1 y1.Subs c1,vI y7.Kind,vI y7.Num,vS p4 y7.Index.Coefs c4,vI y7.Index.Const,vT y7.Read.Array.l,vS p5 y7.Read.Subs c5,vS p6 y7.Kids c6] rfl<|zY rfl<|xH<|zJ ?_;exact xX N (resC 2 rfl rfl) (zX [1] rfl (by decide)) ⟨_,_,rfl,rfl,⟨_,rfl,(wG ⟨_,_,_,_,rfl,h3,h12,h13,h14⟩)⟩,(xF ⟨_,rfl,h15⟩)⟩
 intro hc N;refine zT<|yY<|bE N λy10 bu N=>xK (fV  _ bu ) ?_;rintro bK ax v2 k2 bo - ⟨p8,c8,aR,rfl,rfl,h17⟩ -;have h15:=h15.mono bo;refine xV 0 rfl ?_;intro I06 bv hl01;have h18:=SL.of_frozen hl01 bv h17;have h15:=h15.mono bv;refine uX (cAff y10 p8 c8) zA ?_;intro b3 hb3;have h19:RL I06 (cAff y10 p8 c8) ([y10]:List zA):=⟨(cAff y10 p8 c8),_,rfl,rfl,(yO ⟨_,rfl,h18⟩),rfl⟩;refine yG 5 [] [24] rfl<|xC 3 [vT ([65]),vS (some ⟨b3,0,none⟩) ([y10]:List zA) 1,vI 1,vI 1,z0,vI 0,vT ([]),z0,z0] rfl<|zY rfl<|xH<|xB 0 rfl ?_;intro I07 le7 hl02;have h20:=SL.of_frozen hl02 le7 h19;have h15:=h15.mono le7;exact xX N (resC 2 rfl rfl) (zX [1] rfl (by decide)) ⟨_,_,rfl,rfl,⟨_,rfl,(wG ⟨_,_,_,_,rfl,h20,(SL.nil _),(SL.nil _),(SL.nil _)⟩)⟩,(xF ⟨_,rfl,h15⟩)⟩
def zCQ(r:(List zG)×Bool):KT:=λkk I' ag v=>
 ∃v0 v1,ag=[]/\v=tupV [v0,v1]/\SL I' v0 r.1/\v1=.bool r.2
def nI(sizes:(List Int))(out:List zG)(i:Int):Option (Out (List zG) ((List zG)×Bool)):=do
 if(decide (i<(sizes.length:Int))) then
  let t28<-(do
   let x<-idx sizes i;if(decide (x<0)) then pure true
   else
    let x1<-idx sizes i;pure (decide (x1>99))
     : Option Bool)
  if t28 then pure (.ret (([]:List zG),false))
  else
   let y<-kG;let x2<-idx sizes i;let y1<-uC x2;let ar<-app 48 out ([(zG.mk ([y]:List zA) ([y1]:List zA))]:List zG);nI sizes ar (W (i+1))
 else pure (.done out)
 partial_fixpoint
theorem zF2(sizes:(List Int)):∀(out:List zG) (i:Int) (o:Out (List zG) ((List zG)×Bool)),nI sizes out i=some o->∀{B}{I0 I:Imm}{Q p c p1 c1 cs},I0.le I->(S4 I p sizes c)->(RL I cs out)->NG Q->NO Q->(∀I' aj p2 c2 au,o=(.done aj)->I0.le I'->(RL I' au aj)->T 43 B Q (.exit 0) I' [hO zG (vS p2 aj c2) au] [(4,vS p2 aj c2)])->(∀r I' ag m',o=(.ret r)->I0.le I'->RS Tryz.prog f220 B (zCQ  r) I' ag m'->T 43 B Q .ret I' ag m')->J Tryz.prog 43 B (nav (bodyOf f220) [1,1,1,0,1,0]) Q I [hO zG (vS p1 out c1) cs] [(0,vS p sizes c),(4,vS p1 out c1),(5,vI i)]:=by
 refine nI.partial_correctness sizes _ λaJ ih out i o N B I0 I Q p c p1 c1 cs H h h3 hg ho hx hr=>yX hg ho<|yC<|yK [14] rfl<|zK<|yH N ?_ ?_
 ·intro aH N;refine zT<|yA<|yL<|yC<|yC ?_;refine vQ N [hO zG (vS p1 out c1) cs] (λt28=>[(0,vS p sizes c),(4,vS p1 out c1),(5,vI i),(28,.bool t28)]) (λo0 aA=>?_) ?_
  ·have H:=iS I;refine zL<|yG 2 [] [17,18] rfl ?_;obtain⟨x,hy,N⟩:=zB aA;refine xW rfl rfl h hy ?_;intro ad aN aq am;obtain rfl:=am;refine xM 0 aq [vI x] (vI x) rfl<|yG 6 [] [22] rfl<|wR [22] N ?_ ?_
   ·intro ba N;exact wM [] [(28,vY)]<|yZ<|zU (ct N H)
   intro ba N;refine yG 8 [] [23,24] rfl<|bE N λx1 az N=>xW rfl rfl h az ?_;intro ad1 bq aw ay;obtain rfl:=ay;exact xM 0 aw [vI x1] (vI x1) rfl<|yQ [] [28] rfl<|yZ<|zU (ct N H)
  intro t28 aP aa aX;have ⟨h,h3,H⟩:=m3 aa h h3 H;refine zK<|yH aX ?_ ?_
  ·intro bD N;refine yD<|uX [] zG ?_;intro b1 hb1;have h5:RL aP [] ([]:List zG):=rfl;refine yQ [] [2,3] rfl<|xH<|zJ<|zV<|zJ<|zJ<|xB 0 rfl ?_;intro aW aC hl01;have h6:=SL.of_frozen hl01 aC h5;have H:=H.trans aC;exact hr _ _ _ _ (zE N).symm H ⟨_,_,(resU rfl rfl),zO,⟨_,_,rfl,rfl,h6,rfl⟩⟩
  intro bD N;refine zT<|zK ?_;obtain⟨y,aG,N⟩:=zB N;obtain⟨x2,bh,N⟩:=zB N;obtain⟨y1,bu,N⟩:=zB N;obtain⟨ar,bC,N⟩:=zB N;refine wP [.p (vS p1 out c1) [],.x (λI' v hx=>∃p3 c3 aR,v=vA (cAff y p3 c3)/\hx=[hO Int (vS p3 y.Coefs c3) aR]/\(RL I' aR y.Coefs)),.x (λI' v hx=>∃b2,v=vS (some ⟨b2,0,none⟩) ([y]:List zA) 1/\hx=[]/\(SL I' (vS (some ⟨b2,0,none⟩) ([y]:List zA) 1) ([y]:List zA))),.p (vS p sizes c) [],.p (vI i) [],.x (λI' v hx=>∃ad2,v=.pointer (some ad2)/\hx=[]/\(At I' ad2 [vI x2])),.q (vI x2),.x (λI' v hx=>∃p4 c4 aM,v=vA (cAff y1 p4 c4)/\hx=[hO Int (vS p4 y1.Coefs c4) aM]/\(RL I' aM y1.Coefs)),.x (λI' v hx=>∃b3,v=vS (some ⟨b3,0,none⟩) ([y1]:List zA) 1/\hx=[]/\(SL I' (vS (some ⟨b3,0,none⟩) ([y1]:List zA) 1) ([y1]:List zA))),.x (λI' v hx=>∃b21 b31,v=vA [vS (some ⟨b21,0,none⟩) ([y]:List zA) 1,vS (some ⟨b31,0,none⟩) ([y1]:List zA) 1]/\hx=[]/\(SL I' (vS (some ⟨b21,0,none⟩) ([y]:List zA) 1) ([y]:List zA))/\(SL I' (vS (some ⟨b31,0,none⟩) ([y1]:List zA) 1) ([y1]:List zA))),.x (λI' v hx=>∃b4,v=vS (some ⟨b4,0,none⟩) ([(zG.mk ([y]:List zA) ([y1]:List zA))]:List zG) 1/\hx=[]/\(SL I' (vS (some ⟨b4,0,none⟩) ([(zG.mk ([y]:List zA) ([y1]:List zA))]:List zG) 1) ([(zG.mk ([y]:List zA) ([y1]:List zA))]:List zG))),.x (λI' v hx=>∃p5 c5 bt,v=vS p5 ar c5/\hx=[hO zG (vS p5 ar c5) bt]/\(RL I' bt ar))] [[],[],[(1,true)],[],[],[(3,false),(4,false)],[(5,false)],[(6,false)],[(7,true)],[(2,false),(8,false)],[(9,false)],[(0,false),(10,false),(13,true)]] [] [[hO zG (vS p1 out c1) cs]] [(11,true)] (zZ [0]) ?_ ?_
  ·refine Op<|Ox ?_<|Ox ?_<|O2<|Ox ?_<|Oq ?_<|Ox ?_<|Ox ?_<|Ox ?_<|Ox ?_<|Ox ?_<|On
   ·intro I1 hf aa;refine I_h [] ?_;have H:=iS I1;refine xK (fV  _ aG ) ?_;rintro bx ax v2 k2 aI - ⟨p3,c3,aR,rfl,rfl,h7⟩ -;have H:=H.trans aI;exact yN [hO Int (vS p3 y.Coefs c3) aR] H ⟨_,_,_,rfl,rfl,h7⟩
   ·rintro I1 hf aa _ _ ⟨p3,c3,aR,rfl,rfl,h7⟩;refine yW [31] rfl ?_;have H:=iS I1;refine xV 0 rfl ?_;intro bG aY hl02;have h8:=SL.of_frozen hl02 aY h7;have H:=H.trans aY;refine mH (rc y (yO ⟨_,rfl,h8⟩) rN) ?_;intro b2 bK bo h10;have H:=H.trans bo;exact yN [] H ⟨_,rfl,rfl,h10⟩
   ·intro I1 hf aa;refine yW [33,34] rfl ?_;have h:=h.mono aa;refine xW rfl rfl h bh ?_;intro ad2 bL bk br;obtain rfl:=br;exact yN [] iR ⟨_,rfl,rfl,bk⟩
   ·rintro I1 hf aa _ _ ⟨ad2,rfl,rfl,bk⟩;exact yW [35] rfl<|xM 0 bk [vI x2] (vI x2) rfl<|xO iR
   ·intro I1 hf aa;refine yW [36] rfl ?_;have H:=iS I1;refine xK (sC x2 _ bu ) ?_;rintro I06 ax v2 k2 bv - ⟨p4,c4,aM,rfl,rfl,h11⟩ -;have H:=H.trans bv;exact yN [hO Int (vS p4 y1.Coefs c4) aM] H ⟨_,_,_,rfl,rfl,h11⟩
   ·rintro I1 hf aa _ _ ⟨p4,c4,aM,rfl,rfl,h11⟩;refine yW [37] rfl ?_;have H:=iS I1;refine xV 0 rfl ?_;intro I07 le7 hl04;have h12:=SL.of_frozen hl04 le7 h11;have H:=H.trans le7;refine mH (rc y1 (yO ⟨_,rfl,h12⟩) rN) ?_;intro b3 I08 le8 h14;have H:=H.trans le8;exact yN [] H ⟨_,rfl,rfl,h14⟩
   ·rintro I1 hf aa _ _ ⟨b2,rfl,rfl,h10⟩ _ _ ⟨b3,rfl,rfl,h14⟩;exact yW [32,38] rfl<|oN 10 [(39,vA [vS (some ⟨b2,0,none⟩) ([y]:List zA) 1,vS (some ⟨b3,0,none⟩) ([y1]:List zA) 1])]<|yN [] iR ⟨_,_,rfl,rfl,h10,h14⟩
   ·rintro I1 hf aa _ _ ⟨b21,b31,rfl,rfl,h101,h141⟩;refine yW [39] rfl ?_;have H:=iS I1;refine mH (rc (zG.mk ([y]:List zA) ([y1]:List zA)) (uR ⟨_,_,rfl,h101,h141⟩) rN) ?_;intro b4 I09 le9 h16;have H:=H.trans le9;exact yN [] H ⟨_,rfl,rfl,h16⟩
   rintro I1 hf aa _ _ ⟨rfl,rfl⟩ _ _ ⟨b4,rfl,rfl,h16⟩ _ _ rfl;refine yW [30,40] rfl ?_;have h3:=iM aa h3;obtain⟨ccs3,k0,k01⟩:=h16;have h16:SL I1 (vS (some ⟨b4,0,none⟩) ([(zG.mk ([y]:List zA) ([y1]:List zA))]:List zG) 1) ([(zG.mk ([y]:List zA) ([y1]:List zA))]:List zG):=⟨_,k0,k01⟩;exact sW 141 2 0 rfl rfl rfl h3 (.inl k0) k01 bC λp5 c5 bt h17=>wY (ag:=(hO zG (vS p5 ar c5) bt::hf)) rfl<|yN [hO zG (vS p5 ar c5) bt] iR ⟨_,_,_,rfl,rfl,h17⟩
  rintro bN le10 _ _ ⟨p5,c5,bt,rfl,rfl,h17⟩;refine yW [0,5,41] rfl ?_;have ⟨h,H⟩:=m2 le10 h H;exact yQ [] [4] rfl<|zN<|zK<|zL<|yQ [] [5] rfl<|yV<|nX<|ih ar (W (i+1)) _ N H h h17 hg ho hx hr
 intro aH N;exact wW<|yZ<|hx _ _ _ _ _ (zE N).symm H h3
def zAB(sizes:(List Int)):Option ((List zG)×Bool):=do
 if(decide ((sizes.length:Int)>4)) then pure (([]:List zG),false)
 else
  match<-nI sizes ([]:List zG) 0 with
  | .ret r0=>pure r0
  | .done aj=>
   pure (aj,true)
theorem zHm:∀sizes r,zAB sizes=some r->∀{I:Imm}{p c},(S4 I p sizes c)->RT 220 [vS p sizes c] I [] (zCQ  r):=by
 intro sizes r N I p c h;unfold zAB at N;refine yM func220 λB=>wZ []<|yY<|uX [] zG ?_;intro b hb;have h1:RL I [] ([]:List zG):=rfl;refine yQ [] [4] rfl<|yA<|yK [9] rfl<|zK<|yH N ?_ ?_
 ·intro hc N;refine yK [2,3] rfl<|xH<|zJ<|xB 0 rfl ?_;intro I0 le hl0;have h2:=SL.of_frozen hl0 le h1;exact xX N (resU rfl rfl) zO ⟨_,_,rfl,rfl,h2,rfl⟩
 intro hc N;refine zT<|yA<|yK [5] rfl<|wN<|qX [(0,vS p sizes c),(4,vS (some ⟨b,0,none⟩) ([]:List zG) 0),(5,vI 0)] ?_;obtain⟨aU,aB,aE⟩:=zB N;refine zF2 sizes ([]:List zG) 0 aU aB iR h h1 nG nO ?_ ?_
 ·intro bS aj p2 c2 au heq1 le11 h4;subst aU;refine zS<|vM [2,3] rfl<|xH<|xB 0 rfl ?_;intro bR le12 hl07;have h18:=SL.of_frozen hl07 le12 h4;exact xX aE (resU rfl rfl) zO ⟨_,_,rfl,rfl,h18,rfl⟩
 intro r0 I9 hs9 m9 aT le9 aV;subst aT;refine zV<|zJ ?_;obtain rfl:=zE aE;exact jW aV
end Go.LN
