/- Helper of the proof (see the last text). -/
import Derived.Test.YtcmjkmdecmabaaaGreatHM3
set_option linter.unusedVariables false
set_option linter.unusedSimpArgs false
namespace Go.LN
open Go.Proofs Go.Proofs.Tryz
set_option maxRecDepth 20000
def uR (list:(List zF)) (part:zN) (y1:(List (List Int))) (i:Int) (k0:Int):Option (Out Unit (Int×Bool)):=do
 if (decide (k0<(y1.length:Int))) then
  let x1<-idx part.Body i
  let x2<-idx y1 k0
  let (y5,y6,y7)<-mA list x1 x2
  let t80<-(do
    if (!y7) then
     pure true
    else
     let x3<-idx y1 k0
     let y8<-mB x3
     pure (!y8)
      : Option Bool)
  if t80 then
   pure (.ret (0,false))
  else
   uR list part y1 i (W (k0+1))
 else
  pure (.done ())
 partial_fixpoint
theorem zED (list:(List zF)) (part:zN) (y1:(List (List Int))) (i:Int):∀ (k0:Int) (o:Out Unit (Int×Bool)),uR list part y1 i k0=some o->∀ {B}{I0 I:Imm}{Q p c p1 c1 p2 c2}{b:Nat}{p3 c3},I0.le I->(S4 I p list c)->(S4 I p3 y1 c3)->(S4 I p1 part.Nest c1)->(S4 I p2 part.Body c2)->NG Q->NO Q->(∀ (I':Imm) ,o=(.done ())->I0.le I'->T 87 B Q (.exit 2) I' [hB b (cPart part p1 c1 p2 c2)] [(0,vS p list c),(3,vP b 0),(6,vS p3 y1 c3),(8,vI i)])->(∀ r I' ah m',o=(.ret r)->I0.le I'->RS Tryz.prog f101 B (kK  r) I' ah m'->T 87 B Q .ret I' ah m')->J Tryz.prog 87 B (nav (bodyOf f101) [1,1,1,0,1,0,0,1,0,0,1,1,0]) Q I [hB b (cPart part p1 c1 p2 c2)] [(0,vS p list c),(3,vP b 0),(6,vS p3 y1 c3),(8,vI i),(9,vI k0)]:=by
 refine uR.partial_correctness list part y1 i _ fun aH ih k0 o N B I0 I Q p c p1 c1 p2 c2 b p3 c3 H h h3 h1 h2 hg ho hx hr=>yR hg ho<|yB<|yG [53] rfl<|zI<|yF N ?_ ?_
 · intro hc5 N;refine zT<|yA<|yH<|yB ?_;obtain ⟨x1,bf,N⟩:=zB N;obtain ⟨x2,bw,N⟩:=zB N;obtain ⟨⟨y5,y6,y7⟩,bH,N⟩:=zB N;refine vC [.p (vS p list c) [],.p (vP b 1) [],.p (vS p2 part.Body c2) [0],.p (vI i) [],.x (ePStmt x1),.x (eVStmt x1),.p (vS p3 y1 c3) [],.p (vI k0) [],.x (fun I' v hx=>∃ ad2 bB bk,v=.pointer (some ad2)/\hx=[]/\(At I' ad2 [vS bB x2 bk])/\(S4 I' bB x2 bk)),.x (eS x2),.x (fun I' v hx=>∃ bj bo,v=.tuple ⟨[vS bj y5 bo,vI y6,.bool y7]⟩/\hx=[]/\(S4 I' bj y5 bo)),.x (fun I' v hx=>∃ p131 c131,v=.tuple ⟨[vS p131 y5 c131,vI y6,.bool y7]⟩/\hx=[]/\(S4 I' p131 y5 c131)),.x (eS y5),.q (vI y6),.q (.bool y7),.x (eS y5),.p (vI y6) []] [[],[],[(1,false)],[],[(2,false),(3,false)],[(4,false)],[],[],[(6,false),(7,false)],[(8,false)],[(0,false),(5,false),(9,false)],[(10,false)],[(11,false)],[(11,false)],[(11,false)],[(12,false)],[(13,false)]] [hB b (cPart part p1 c1 p2 c2)] [] [(14,false)] (zY [0]) ?_ ?_
   · refine Op<|Op<|Op<|Op<|Ox ?_<|Ox ?_<|Op<|Op<|Ox ?_<|Ox ?_<|Ox ?_<|Ox ?_<|Ox ?_<|Oq ?_<|Oq ?_<|Ox ?_<|Op<|On
     · intro I1 hf af;refine yW [59,60] rfl ?_;have h2:=h2.mono af;refine xO rfl rfl h2 bf ?_;intro ad1 bx au ax;obtain ⟨p8,c8,p9,c9,aV,bc,aN,aZ,rfl,h10,h11,h12,h13⟩:=qS ax;exact yQ [] iR ⟨_,_,_,_,_,_,_,_,_,rfl,rfl,au,h10,h11,h12,h13⟩
     · rintro I1 hf af _ _ ⟨ad1,p8,c8,p9,c9,aV,bc,aN,aZ,rfl,rfl,au,h10,h11,h12,h13⟩;exact yW [61] rfl<|xJ 0 au (cStmt x1 p8 c8 p9 c9 aV bc aN aZ) (vA (cStmt x1 p8 c8 p9 c9 aV bc aN aZ)) rfl<|yQ [] iR ⟨_,_,_,_,_,_,_,_,rfl,rfl,h10,h11,h12,h13⟩
     · intro I1 hf af;refine yW [63,64] rfl ?_;have h3:=h3.mono af;refine xO rfl rfl h3 bw ?_;intro ad2 bO br bq;obtain ⟨v011,rfl,h14⟩:=bq;obtain ⟨bB,bk,rfl⟩:=h14.form;exact yQ [] iR ⟨_,_,_,rfl,rfl,br,h14⟩
     · rintro I1 hf af _ _ ⟨ad2,bB,bk,rfl,rfl,br,h14⟩;exact yW [65] rfl<|xJ 0 br [vS bB x2 bk] (vS bB x2 bk) rfl<|yQ [] iR ⟨_,_,rfl,rfl,h14⟩
     · rintro I1 hf af _ _ ⟨rfl,rfl⟩ _ _ ⟨p81,c81,p91,c91,p101,c101,p111,c111,rfl,rfl,h101,h111,h121,h131⟩ _ _ ⟨p121,c121,rfl,rfl,h141⟩;refine yW [57,62,66] rfl ?_;have H:=iS I1;have h:=h.mono af;refine xM (zFe list x1 x2 _ bH h h101 h111 h121 h131 h141) ?_;rintro bJ aw v2 k2 aW - ⟨v012,v013,v014,rfl,rfl,h15,rfl,rfl⟩ -;have H:=H.trans aW;obtain ⟨bj,bo,rfl⟩:=h15.form;exact yQ [] H ⟨_,_,rfl,rfl,h15⟩
     · rintro I1 hf af _ _ ⟨bj,bo,rfl,rfl,h15⟩;exact yW [67] rfl<|oY 12 [(56,.tuple ⟨[vS bj y5 bo,vI y6,.bool y7]⟩)]<|yQ [] iR ⟨_,_,rfl,rfl,h15⟩
     · rintro I1 hf af _ _ ⟨p131,c131,rfl,rfl,h151⟩;exact yW [56] rfl<|oY 13 [(68,vS p131 y5 c131)]<|yQ [] iR ⟨_,_,rfl,rfl,h151⟩
     · rintro I1 hf af _ _ ⟨p131,c131,rfl,rfl,h151⟩;exact yW [56] rfl<|oY 14 [(69,vI y6)]<|xE iR
     · rintro I1 hf af _ _ ⟨p131,c131,rfl,rfl,h151⟩;exact yW [56] rfl<|oY 15 [(70,.bool y7)]<|xE iR
     rintro I1 hf af _ _ ⟨p1311,c1311,rfl,rfl,h1511⟩;exact yW [68] rfl<|oY 16 [(10,vS p1311 y5 c1311)]<|yQ [] iR ⟨_,_,rfl,rfl,h1511⟩
   intro bN bt;refine yW [0,3,6,8,9,70] rfl ?_;have ⟨h,h3,h1,h2,H⟩:=m5 bt h h3 h1 h2 H;refine yI [] [12] rfl<|zI<|yB ?_;refine wS N [hB b (cPart part p1 c1 p2 c2)] (fun t80=>[(0,vS p list c),(3,vP b 0),(6,vS p3 y1 c3),(8,vI i),(9,vI k0),(80,.bool t80)]) (fun aM az=>?_) ?_
   · have H:=iS bN;refine zM<|yC 3 [] [73] rfl<|xS [73] az ?_ ?_
     · intro hc6 N;exact wB [] [(80,vY)]<|yL<|zU (ct N H)
     intro hc6 N;refine yC 5 [] [74,75] rfl<|bE N fun x3 hy6 N=>xO rfl rfl h3 hy6 ?_;intro ad3 ccs3 hat3 bI;obtain ⟨v015,rfl,h18⟩:=bI;obtain ⟨p14,c14,rfl⟩:=h18.form;refine xJ 0 hat3 [vS p14 x3 c14] (vS p14 x3 c14) rfl<|bE N fun y8 hy7 N=>uM (zFf x3 _ hy7 h18) ?_;intro I07 bv;have H:=H.trans bv;exact yI [] [80] rfl<|yL<|zU (ct N H)
   intro t80 I06 le7 hMc1;have ⟨h,h3,h1,h2,H⟩:=m5 le7 h h3 h1 h2 H;refine zI<|yF hMc1 ?_ ?_
   · intro hc7 N;exact yG [4,5] rfl<|xC<|zW<|zH<|zH<|hr _ _ _ _ (zC N).symm H ⟨_,_,(.tmp rfl (.tmp rfl ResV.nil)),zQ,⟨_,_,rfl,rfl,rfl,rfl⟩⟩
   intro hc7 N;exact zT<|zP<|zI<|zM<|yI [] [9] rfl<|yP<|nN<|ih (W (k0+1)) _ N H h h3 h1 h2 hg ho hx hr
 intro hc5 N;exact wR<|yL<|hx _  (zC N).symm H
def uS (list:(List zF)) (part:zN) (y1:(List (List Int))) (i:Int):Option (Out Unit (Int×Bool)):=do
 if (decide (i<(part.Body.length:Int))) then
  let x<-idx part.Body i
  let y3<-sQ x (part.Nest.length:Int)
  if (!y3) then
   pure (.ret (0,false))
  else
   match<-uR list part y1 i 0 with
   | .ret r0=>pure (.ret r0)
   | .done _ =>
    uS list part y1 (W (i+1))
 else
  pure (.done ())
 partial_fixpoint
theorem zEE (list:(List zF)) (part:zN) (y1:(List (List Int))):∀ (i:Int) (o:Out Unit (Int×Bool)),uS list part y1 i=some o->∀ {B}{I0 I:Imm}{Q p c p1 c1 p2 c2}{b:Nat}{p3 c3},I0.le I->(S4 I p list c)->(S4 I p3 y1 c3)->(S4 I p1 part.Nest c1)->(S4 I p2 part.Body c2)->NG Q->NO Q->(∀ (I':Imm) ,o=(.done ())->I0.le I'->T 87 B Q (.exit 0) I' [hB b (cPart part p1 c1 p2 c2)] [(3,vP b 0),(6,vS p3 y1 c3)])->(∀ r I' ah m',o=(.ret r)->I0.le I'->RS Tryz.prog f101 B (kK  r) I' ah m'->T 87 B Q .ret I' ah m')->J Tryz.prog 87 B (nav (bodyOf f101) [1,1,1,0,1,0]) Q I [hB b (cPart part p1 c1 p2 c2)] [(0,vS p list c),(3,vP b 0),(6,vS p3 y1 c3),(8,vI i)]:=by
 refine uS.partial_correctness list part y1 _ fun aH ih i o N B I0 I Q p c p1 c1 p2 c2 b p3 c3 H h h3 h1 h2 hg ho hx hr=>yR hg ho<|yB<|yE<|yI [0] [37] rfl<|zI<|yF N ?_ ?_
 · intro bG N;refine zT<|yA<|yH<|yB<|yB ?_;obtain ⟨x,aA,N⟩:=zB N;obtain ⟨y3,aJ,N⟩:=zB N;refine vC [.p (vP b 1) [],.p (vS p2 part.Body c2) [0],.p (vI i) [],.x (ePStmt x),.x (eVStmt x),.p (vP b 0) [],.p (vS p1 part.Nest c1) [0],.p (vI (part.Nest.length:Int)) [],.q (.bool y3),.p (.bool (!y3)) []] [[],[(0,false)],[],[(1,false),(2,false)],[(3,false)],[],[(5,false)],[(6,false)],[(4,false),(7,false)],[(8,false)]] [hB b (cPart part p1 c1 p2 c2)] [] [(9,false)] (zY [0]) ?_ ?_
   · refine Op<|Op<|Op<|Ox ?_<|Ox ?_<|Op<|Op<|Op<|Oq ?_<|Op<|On
     · intro I1 hf af;refine yW [41,42] rfl ?_;have h2:=h2.mono af;refine xO rfl rfl h2 aA ?_;intro ad aK aq al;obtain ⟨p4,c4,p5,c5,p6,c6,p7,c7,rfl,h5,h6,h7,h8⟩:=qS al;exact yQ [] iR ⟨_,_,_,_,_,_,_,_,_,rfl,rfl,aq,h5,h6,h7,h8⟩
     · rintro I1 hf af _ _ ⟨ad,p4,c4,p5,c5,p6,c6,p7,c7,rfl,rfl,aq,h5,h6,h7,h8⟩;exact yW [43] rfl<|xJ 0 aq (cStmt x p4 c4 p5 c5 p6 c6 p7 c7) (vA (cStmt x p4 c4 p5 c5 p6 c6 p7 c7)) rfl<|yQ [] iR ⟨_,_,_,_,_,_,_,_,rfl,rfl,h5,h6,h7,h8⟩
     rintro I1 hf af _ _ ⟨p41,c41,p51,c51,p61,c61,p71,c71,rfl,rfl,h51,h61,h71,h81⟩;refine yW [44,47] rfl ?_;have H:=iS I1;refine uM (fW x (part.Nest.length:Int) _ aJ h51 h61 h71 h81) ?_;intro aU aC;have H:=H.trans aC;exact xE H
   intro bC aD;refine yW [0,3,6,8,49] rfl ?_;have ⟨h,h3,h1,h2,H⟩:=m5 aD h h3 h1 h2 H;refine yD rfl<|zI<|yF N ?_ ?_
   · intro bM N;exact yG [4,5] rfl<|xC<|zH<|zW<|zH<|zH<|hr _ _ _ _ (zC N).symm H ⟨_,_,(.tmp rfl (.tmp rfl ResV.nil)),zQ,⟨_,_,rfl,rfl,rfl,rfl⟩⟩
   intro bM N;refine zT<|vK [9] rfl<|xX<|qP [(0,vS p list c),(3,vP b 0),(6,vS p3 y1 c3),(8,vI i),(9,vI 0)] ?_;obtain ⟨o02,ho02,aI⟩:=zB N;refine zED list part y1 i 0 o02 ho02 iR h h3 h1 h2 (fun _ _ _ h=>hg _ _ _ h) (fun _ _ h=>ho _ _ h) ?_ ?_
   · intro I08  heq2 le8;subst o02;have ⟨h,h3,h1,h2,H⟩:=m5 le8 h h3 h1 h2 H;exact zS<|zP<|zI<|zM<|yI [] [8] rfl<|yP<|nN<|ih (W (i+1)) _ aI H h h3 h1 h2 hg ho hx hr
   intro r0 I9 hs9 m9 aX le9 ba;subst aX;exact zW<|zW<|zH<|zH<|hr _ _ _ _ (zC aI).symm (H.trans le9) ba
 intro bG N;exact wR<|yL<|hx _  (zC N).symm H
def oR (list:(List zF)) (part:zN):Option (Int×Bool):=do
 let (y1,y2)<-qZ part.Nest
 let t32<-(do
   if (!y2) then
    pure true
   else
    if (decide ((part.Body.length:Int)<1)) then
     pure true
    else
     pure (decide ((part.Body.length:Int)>4))
     : Option Bool)
 if t32 then
  pure (0,false)
 else
  match<-uS list part y1 0 with
  | .ret r0=>pure r0
  | .done _ =>
   pure ((W ((y1.length:Int)*(part.Body.length:Int))),true)
theorem zAH:∀ list part r,oR list part=some r->∀ {I:Imm}{p c p1 c1 p2 c2},(S4 I p list c)->(S4 I p1 part.Nest c1)->(S4 I p2 part.Body c2)->RT 101 [vS p list c,vA (cPart part p1 c1 p2 c2)] I [] (kK  r):=by
 intro list part r N I p c p1 c1 p2 c2 h h1 h2;unfold oR at N;refine yJ func101 fun B=>?_;have H:=iS I;refine yE<|tW (cPart part p1 c1 p2 c2) ?_;intro b hb;refine wB [] []<|yV<|yC 2 [0] [15] rfl ?_;obtain ⟨⟨y1,y2⟩,hy,N⟩:=zB N;refine xM (zDQ part.Nest _ hy h1) ?_;rintro I0 aw v2 k2 le - ⟨v0,v01,rfl,rfl,h3,rfl⟩ -;have ⟨h,h1,h2,H⟩:=m4 le h h1 h2 H;obtain ⟨p3,c3,rfl⟩:=h3.form;refine yI [] [6,7] rfl<|yA<|yB ?_;refine wS N [hB b (cPart part p1 c1 p2 c2)] (fun t32=>[(0,vS p list c),(3,vP b 0),(6,vS p3 y1 c3),(32,.bool t32)]) (fun o0 aB=>?_) ?_
 · have H:=iS I0;refine zM<|yC 3 [] [21] rfl<|xS [21] aB ?_ ?_
   · intro hc N;exact wB [] [(32,vY)]<|yL<|zU (ct N H)
   intro hc N;refine yC 9 [0] [27] rfl<|xS [27] N ?_ ?_
   · intro aE N;exact wB [] [(32,vY)]<|yL<|zU (ct N H)
   intro aE N;exact yI [0] [32] rfl<|yL<|zU (ct N H)
 intro t32 aT af aS;have ⟨h,h3,h1,h2⟩:=m4 af h h3 h1 h2;refine zI<|yF aS ?_ ?_
 · intro aY N;refine yG [4,5] rfl<|xC<|zH ?_;obtain rfl:=zC N;exact xA ⟨_,_,(.tmp rfl (.tmp rfl ResV.nil)),zQ,⟨_,_,rfl,rfl,rfl,rfl⟩⟩
 intro aY N;refine zT<|yA<|yG [8] rfl<|xX<|qP [(0,vS p list c),(3,vP b 0),(6,vS p3 y1 c3),(8,vI 0)] ?_;obtain ⟨o03,ho03,hMl1⟩:=zB N;refine zEE list part y1 0 o03 ho03 iR h h3 h1 h2 (fun _ _ _ h=>h) (fun _ _ h=>h) ?_ ?_
 · intro I09  heq3 le9;subst o03;refine zS<|yV<|yI [0] [4,5] rfl<|zI<|xB ?_;obtain rfl:=zC hMl1;exact xA ⟨_,_,(.tmp rfl (.tmp rfl ResV.nil)),zQ,⟨_,_,rfl,rfl,rfl,rfl⟩⟩
 intro r0 I9 hs9 m9 aX le9 ba;subst aX;refine zW<|zH ?_;obtain rfl:=zC hMl1;exact xA ba
def xZ (p:zD) (total:Int) (i:Int):Option (Out Int (Bool)):=do
 if (decide (i<(p.Parts.length:Int))) then
  let x<-idx p.Parts i
  let (y2,y3)<-oR p.Arrays x
  if (!y3) then
   pure (.ret false)
  else
   xZ p (W (total+y2)) (W (i+1))
 else
  pure (.done total)
 partial_fixpoint
theorem zAz (p:zD):∀ (total:Int) (i:Int) (o:Out Int (Bool)),xZ p total i=some o->∀ {B}{I0 I:Imm}{Q p1 c p2 c1}{b:Nat},I0.le I->(S4 I p1 p.Arrays c)->(S4 I p2 p.Parts c1)->NG Q->NO Q->(∀ (I':Imm) (total1:Int),o=(.done total1)->I0.le I'->T 42 B Q (.exit 0) I' [] [(3,vI total1)])->(∀ r I' ah m',o=(.ret r)->I0.le I'->RS Tryz.prog f57 B (zV  r) I' ah m'->T 42 B Q .ret I' ah m')->J Tryz.prog 42 B (nav (bodyOf f57) [1,1,1,0,1,0]) Q I [hB b (cProg p p1 c p2 c1)] [(1,vP b 0),(3,vI total),(4,vI i)]:=by
 refine xZ.partial_correctness p _ fun aH ih total i o N B I0 I Q p1 c p2 c1 b H h h1 hg ho hx hr=>yR hg ho<|yB<|yE<|yI [0] [21] rfl<|zI<|yF N ?_ ?_
 · intro aY N;refine zT<|yA<|yH<|yB ?_;obtain ⟨x,aA,N⟩:=zB N;obtain ⟨⟨y2,y3⟩,aJ,N⟩:=zB N;refine vC [.p (vP b 0) [],.p (vS p1 p.Arrays c) [0],.p (vP b 1) [],.p (vS p2 p.Parts c1) [0],.p (vI i) [],.x (ePPart x),.x (eVPart x),.q (.tuple ⟨[vI y2,.bool y3]⟩),.p (.tuple ⟨[vI y2,.bool y3]⟩) [],.p (vI y2) [],.p (.bool y3) [],.p (vI y2) []] [[],[(0,false)],[],[(2,false)],[],[(3,false),(4,false)],[(5,false)],[(1,false),(6,false)],[(7,false)],[(8,false)],[(8,false)],[(9,false)]] [hB b (cProg p p1 c p2 c1)] [] [(10,false),(11,false)] (zY [0]) ?_ ?_
   · refine Op<|Op<|Op<|Op<|Op<|Ox ?_<|Ox ?_<|Oq ?_<|Op<|Op<|Op<|Op<|On
     · intro I1 hf af;refine yW [28,29] rfl ?_;have h1:=h1.mono af;refine xO rfl rfl h1 aA ?_;intro ad aK aq al;obtain ⟨p3,c2,p4,c3,rfl,h3,h4⟩:=wQ al;exact yQ [] iR ⟨_,_,_,_,_,rfl,rfl,aq,h3,h4⟩
     · rintro I1 hf af _ _ ⟨ad,p3,c2,p4,c3,rfl,rfl,aq,h3,h4⟩;exact yW [30] rfl<|xJ 0 aq (cPart x p3 c2 p4 c3) (vA (cPart x p3 c2 p4 c3)) rfl<|yQ [] iR ⟨_,_,_,_,rfl,rfl,h3,h4⟩
     rintro I1 hf af _ _ ⟨rfl,rfl⟩ _ _ ⟨p31,c21,p41,c31,rfl,rfl,h31,h41⟩;refine yW [26,31] rfl ?_;have H:=iS I1;have h:=h.mono af;refine xM (zAH p.Arrays x _ aJ h h31 h41) ?_;rintro aU aw v2 k2 aC - ⟨v03,v04,rfl,rfl,rfl,rfl⟩ -;have H:=H.trans aC;exact xE H
   intro bC aD;refine yW [1,3,4,5,34] rfl ?_;have ⟨h,h1,H⟩:=m3 aD h h1 H;refine yI [] [6] rfl<|yA<|yG [36] rfl<|zI<|yF N ?_ ?_
   · intro bG N;exact vR [(2,vF)]<|xC<|zH<|zW<|zH<|zH<|hr _ _ _ _ (zC N).symm H ⟨_,_,(.tmp rfl ResV.nil),zQ,⟨_,rfl,rfl,rfl⟩⟩
   intro bG N;exact zT<|zI<|zM<|yI [] [3] rfl<|zP<|zI<|zM<|yI [] [4] rfl<|yP<|nN<|ih (W (total+y2)) (W (i+1)) _ N H h h1 hg ho hx hr
 intro aY N;exact wR<|xQ zQ<|yL<|hx _ _ (zC N).symm H
def uI (p:zD):Option (Bool):=do
 let t16<-(do
   let y<-nE p.Arrays
   if (!y) then
    pure true
   else
    pure (decide ((p.Parts.length:Int)>4))
     : Option Bool)
 if t16 then
  pure false
 else
  match<-xZ p 0 0 with
  | .ret r0=>pure r0
  | .done total1 =>
   pure (decide (total1<=120))
theorem gI:∀ p r,uI p=some r->∀ {I:Imm}{p1 c p2 c1},(S4 I p1 p.Arrays c)->(S4 I p2 p.Parts c1)->RT 57 [vA (cProg p p1 c p2 c1)] I [] (zV  r):=by
 intro p r N I p1 c p2 c1 h h1;unfold uI at N;refine yJ func57 fun B=>?_;have H:=iS I;refine yE<|tW (cProg p p1 c p2 c1) ?_;intro b hb;refine wB [] []<|yA<|yB ?_;refine wS N [hB b (cProg p p1 c p2 c1)] (fun t16=>[(1,vP b 0),(16,.bool t16)]) (fun o0 aB=>?_) ?_
 · have H:=iS I;refine zM<|yC 2 [0] [8] rfl ?_;obtain ⟨y,hy,N⟩:=zB aB;refine uM (zEx p.Arrays _ hy h) ?_;intro aT le;have H:=H.trans le;refine yC 5 [] [11] rfl<|xS [11] N ?_ ?_
   · intro hc N;exact wB [] [(16,vY)]<|yL<|zU (ct N H)
   intro hc N;exact yI [0] [16] rfl<|yL<|zU (ct N H)
 intro t16 I0 af aS;have ⟨h,h1⟩:=m2 af h h1;refine zI<|yF aS ?_ ?_
 · intro aE N;refine vR [(2,vF)]<|xC<|zH ?_;obtain rfl:=zC N;exact vE
 intro aE N;refine zT<|vK [3] rfl<|yA<|yG [4] rfl<|xX<|qP [(1,vP b 0),(3,vI 0),(4,vI 0)] ?_;obtain ⟨aM,az,aI⟩:=zB N;refine zAz p 0 0 aM az iR h h1 (fun _ _ _ h=>h) (fun _ _ h=>h) ?_ ?_
 · intro bJ total1 heq1 aW;subst aM;refine zS<|vK [2] rfl<|zI<|xB ?_;obtain rfl:=zC aI;exact vE
 intro r0 I9 hs9 m9 aX le9 ba;subst aX;refine zW<|zH ?_;obtain rfl:=zC aI;exact xA ba
def oA (nest:(List zE)) (out:Str) (i:Int):Option (Str):=do
 if (decide (i<(nest.length:Int))) then
  let s<-cat out (⟨[102,111,114,32]⟩:Str)
  let x<-idx nest i
  let y<-qY x.Lo
  let s1<-cat s y
  let s2<-cat s1 (⟨[32]⟩:Str)
  let x1<-idx nest i
  let y1<-qY x1.Hi
  let s3<-cat s2 y1
  let s4<-cat s3 (⟨[10]⟩:Str)
  oA nest s4 (W (i+1))
 else
  pure (id out)
 partial_fixpoint
theorem zEF (nest:(List zE)):∀ (out:Str) (i:Int) (o:Str),oA nest out i=some o->∀ {B}{I0 I:Imm}{Q p c},I0.le I->(S4 I p nest c)->NG Q->NO Q->(∀ (I':Imm) (aj:Str),o=aj->I0.le I'->T 30 B Q (.exit 0) I' [] [(3,vT aj.l)])->J Tryz.prog 30 B (nav (bodyOf f215) [1,1,0,1,0]) Q I [] [(0,vS p nest c),(3,vT out.l),(4,vI i)]:=by
 refine oA.partial_correctness nest _ fun aH ih out i o N B I0 I Q p c H h hg ho hx=>yR hg ho<|yB<|yG [8] rfl<|zI<|yF N ?_ ?_
 · intro hc N;refine zT<|yA<|yH ?_;obtain ⟨s,hy,N⟩:=zB N;obtain ⟨x,aA,N⟩:=zB N;obtain ⟨y,aJ,N⟩:=zB N;obtain ⟨s1,bf,N⟩:=zB N;obtain ⟨s2,bw,N⟩:=zB N;obtain ⟨x1,bH,N⟩:=zB N;obtain ⟨y1,hy6,N⟩:=zB N;obtain ⟨s3,hy7,N⟩:=zB N;obtain ⟨s4,hy8,N⟩:=zB N;refine vC [.p (vT out.l) [],.q (vT s.l),.p (vS p nest c) [],.p (vI i) [],.x (ePLoop x),.x (ePLoop x),.x (eS x.Lo),.q (vT y.l),.q (vT s1.l),.q (vT s2.l),.p (vS p nest c) [],.p (vI i) [],.x (ePLoop x1),.x (eQLoop 1 x1),.x (eS x1.Hi),.q (vT y1.l),.q (vT s3.l),.q (vT s4.l)] [[],[(0,false)],[],[],[(2,false),(3,false)],[(4,false)],[(5,false)],[(6,false)],[(1,false),(7,false)],[(8,false)],[],[],[(10,false),(11,false)],[(12,false)],[(13,false)],[(14,false)],[(9,false),(15,false)],[(16,false)]] [] [] [(17,false)] zQ ?_ ?_
   · refine Op<|Oq ?_<|Op<|Op<|Ox ?_<|Ox ?_<|Ox ?_<|Oq ?_<|Oq ?_<|Oq ?_<|Op<|Op<|Ox ?_<|Ox ?_<|Ox ?_<|Oq ?_<|Oq ?_<|Oq ?_<|On
     · intro I1 hf af;exact yW [11] rfl<|kY rfl hy<|xE iR
     · intro I1 hf af;refine yW [13,14] rfl ?_;have h:=h.mono af;refine xO rfl rfl h aA ?_;intro ad aK aq al;obtain ⟨p1,c1,p2,c2,rfl,h1,h2⟩:=sA al;exact yQ [] iR ⟨_,_,_,_,_,rfl,rfl,aq,h1,h2⟩
     · rintro I1 hf af _ _ ⟨ad,p1,c1,p2,c2,rfl,rfl,aq,h1,h2⟩;exact yW [15] rfl<|oY 6 [(16,.pointer (some ad))]<|yQ [] iR ⟨_,_,_,_,_,rfl,rfl,aq,h1,h2⟩
     · rintro I1 hf af _ _ ⟨ad1,aN,aZ,p21,c21,rfl,rfl,au,h11,h21⟩;exact yW [16] rfl<|xJ 0 au [vS aN x.Lo aZ] (vS aN x.Lo aZ) rfl<|yQ [] iR ⟨_,_,rfl,rfl,h11⟩
     · rintro I1 hf af _ _ ⟨p111,c111,rfl,rfl,h111⟩;refine yW [17] rfl ?_;have H:=iS I1;refine xM (fN x.Lo _ aJ h111) ?_;rintro I0 aw v2 k2 le - ⟨v02,rfl,rfl,rfl⟩ -;have H:=H.trans le;exact xE H
     · intro I1 hf af;exact yW [12,18] rfl<|kY rfl bf<|xE iR
     · intro I1 hf af;exact yW [19] rfl<|kY rfl bw<|xE iR
     · intro I1 hf af;refine yW [21,22] rfl ?_;have h:=h.mono af;refine xO rfl rfl h bH ?_;intro ad2 bx br ax;obtain ⟨p3,c3,p4,c4,rfl,h4,h5⟩:=sA ax;exact yQ [] iR ⟨_,_,_,_,_,rfl,rfl,br,h4,h5⟩
     · rintro I1 hf af _ _ ⟨ad2,p3,c3,p4,c4,rfl,rfl,br,h4,h5⟩;exact yW [23] rfl<|oY 14 [(24,.pointer (some (ad2.add 1)))]<|yQ [] iR ⟨_,_,_,_,_,rfl,rfl,br,h4,h5⟩
     · rintro I1 hf af _ _ ⟨ad21,p31,c31,p41,c41,rfl,rfl,hat21,h41,h51⟩;exact yW [24] rfl<|xJ 1 hat21 [vS p41 x1.Hi c41] (vS p41 x1.Hi c41) rfl<|yQ [] iR ⟨_,_,rfl,rfl,h51⟩
     · rintro I1 hf af _ _ ⟨p411,c411,rfl,rfl,h511⟩;refine yW [25] rfl ?_;have H:=iS I1;refine xM (fN x1.Hi _ hy6 h511) ?_;rintro aT aw v2 k2 af - ⟨v05,rfl,rfl,rfl⟩ -;have H:=H.trans af;exact xE H
     · intro I1 hf af;exact yW [20,26] rfl<|kY rfl hy7<|xE iR
     intro I1 hf af;exact yW [27] rfl<|kY rfl hy8<|xE iR
   intro aU aC;refine yW [0,4,28] rfl ?_;have ⟨h,H⟩:=m2 aC h H;exact yI [] [3] rfl<|zP<|zI<|zM<|yI [] [4] rfl<|yP<|nN<|ih s4 (W (i+1)) _ N H h hg ho hx
 intro hc N;exact wR<|yL<|hx _ _ (zC N).symm H
def gY (nest:(List zE)):Option (Str):=do
 let aj<-oA nest (⟨[]⟩:Str) 0
 pure (id aj)
theorem zG0:∀ nest r,gY nest=some r->∀ {I:Imm}{p c},(S4 I p nest c)->RT 215 [vS p nest c] I [] (tP  r):=by
 intro nest r N I p c h;unfold gY at N;refine yJ func215 fun B=>vR []<|vK [3] rfl<|yA<|yG [4] rfl<|xX<|qP [(0,vS p nest c),(3,vT ([])),(4,vI 0)] ?_;obtain ⟨o0,aB,aI⟩:=zB N;refine zEF nest (⟨[]⟩:Str) 0 o0 aB iR h (fun _ _ _ h=>h) (fun _ _ h=>h) ?_;intro bC aj heq aD;subst o0;refine zS<|vK [2] rfl<|zI<|xB ?_;obtain rfl:=zC aI;exact vE
def uT (p:zD) (i:Int) (ap:Str) (k0:Int):Option (Str):=do
 let x1<-idx p.Arrays i
 if (decide (k0<(x1.Dims.length:Int))) then
  let s2<-cat ap (⟨[32]⟩:Str)
  let x2<-idx p.Arrays i
  let x3<-idx x2.Dims k0
  let y1<-rP x3
  let s3<-cat s2 y1
  uT p i s3 (W (k0+1))
 else
  pure (id ap)
 partial_fixpoint
theorem zAe (p:zD) (i:Int):∀ (ap:Str) (k0:Int) (o:Str),uT p i ap k0=some o->∀ {B}{I0 I:Imm}{Q p1 c p2 c1}{b:Nat},I0.le I->(S4 I p1 p.Arrays c)->(S4 I p2 p.Parts c1)->NG Q->NO Q->(∀ (I':Imm) (aP:Str),o=aP->I0.le I'->T 103 B Q (.exit 2) I' [hB b (cProg p p1 c p2 c1)] [(1,vP b 0),(3,vT aP.l),(4,vI i)])->J Tryz.prog 103 B (nav (bodyOf f176) [1,1,1,0,1,0,0,1,0,0,1,0,1,0]) Q I [hB b (cProg p p1 c p2 c1)] [(1,vP b 0),(3,vT ap.l),(4,vI i),(5,vI k0)]:=by
 refine uT.partial_correctness p i _ fun aH ih ap k0 o N B I0 I Q p1 c p2 c1 b H h h1 hg ho hx=>yR hg ho<|yB<|yE<|yC 4 [0] [28,30,31] rfl<|bE N fun x1 bw N=>xO rfl rfl h bw ?_;intro ad1 bx au ax;obtain ⟨p4,c3,rfl,h4⟩:=wG ax;refine yC 6 [] [33] rfl<|xJ 1 au [vS p4 x1.Dims c3] (vS p4 x1.Dims c3) rfl<|yI [] [36] rfl<|zI<|yF N ?_ ?_
 · intro aY N;refine zT<|yA<|yH<|zM<|yC 1 [] [39] rfl<|bE N fun s2 bH N=>kY rfl bH<|yC 5 [0] [42,43] rfl<|bE N fun x2 hy6 N=>xO rfl rfl h hy6 ?_;intro ad2 bO br bq;obtain ⟨p5,c4,rfl,h5⟩:=wG bq;refine yC 7 [] [45] rfl<|xJ 1 br [vS p5 x2.Dims c4] (vS p5 x2.Dims c4) rfl<|yC 9 [] [47] rfl<|bE N fun x3 hy7 N=>xO rfl rfl h5 hy7 ?_;intro ad3 ccs3 hat3 bI;obtain rfl:=bI;refine xJ 0 hat3 [vI x3] (vI x3) rfl<|bE N fun y1 hy8 N=>xM (fU x3 _ hy8 ) ?_;rintro aT aw v2 k2 af - ⟨v04,rfl,rfl,rfl⟩ -;have ⟨h,h1,H⟩:=m3 af h h1 H;obtain ⟨s3,hy9,N⟩:=zB N;exact kY rfl hy9<|yI [] [3] rfl<|zP<|zI<|zM<|yI [] [5] rfl<|yP<|nN<|ih s3 (W (k0+1)) _ N H h h1 hg ho hx
 intro aY N;exact wR<|yL<|hx _ _ (zC N).symm H
def uU (p:zD) (out:Str) (i:Int):Option (Str):=do
 if (decide (i<(p.Arrays.length:Int))) then
  let s<-cat out (⟨[97,114,114,97,121,32]⟩:Str)
  let x<-idx p.Arrays i
  let s1<-cat s x.Name
  let aP<-uT p i s1 0
  let s4<-cat aP (⟨[10]⟩:Str)
  uU p s4 (W (i+1))
 else
  pure (id out)
 partial_fixpoint
theorem zAf (p:zD):∀ (out:Str) (i:Int) (o:Str),uU p out i=some o->∀ {B}{I0 I:Imm}{Q p1 c p2 c1}{b:Nat},I0.le I->(S4 I p1 p.Arrays c)->(S4 I p2 p.Parts c1)->NG Q->NO Q->(∀ (I':Imm) (aj:Str),o=aj->I0.le I'->T 103 B Q (.exit 0) I' [hB b (cProg p p1 c p2 c1)] [(1,vP b 0),(3,vT aj.l)])->J Tryz.prog 103 B (nav (bodyOf f176) [1,1,1,0,1,0]) Q I [hB b (cProg p p1 c p2 c1)] [(1,vP b 0),(3,vT out.l),(4,vI i)]:=by
 refine uU.partial_correctness p _ fun aH ih out i o N B I0 I Q p1 c p2 c1 b H h h1 hg ho hx=>yR hg ho<|yB<|yE<|yI [0] [16] rfl<|zI<|yF N ?_ ?_
 · intro aE N;refine zT<|yA<|yH<|yE<|yC 1 [] [19] rfl<|bE N fun s aA N=>kY rfl aA<|yC 5 [0] [22,23] rfl<|bE N fun x aJ N=>xO rfl rfl h aJ ?_;intro ad aK aq al;obtain ⟨p3,c2,rfl,h3⟩:=wG al;refine yC 7 [] [25] rfl<|xJ 0 aq [vT x.Name.l] (vT x.Name.l) rfl<|bE N fun s1 bf N=>kY rfl bf<|yI [] [3] rfl<|yA<|yG [5] rfl<|xX<|qP [(1,vP b 0),(3,vT s1.l),(4,vI i),(5,vI 0)] ?_;obtain ⟨o0,aB,aI⟩:=zB N;refine zAe p i s1 0 o0 aB iR h h1 (fun _ _ _ h=>hg _ _ _ h) (fun _ _ h=>ho _ _ h) ?_;intro aU aP heq aC;subst o0;have ⟨h,h1,H⟩:=m3 aC h h1 H;refine zS<|zI<|zM<|yC 1 [] [52] rfl ?_;obtain ⟨s4,hy10,N⟩:=zB aI;exact kY rfl hy10<|yI [] [3] rfl<|zP<|zI<|zM<|yI [] [4] rfl<|yP<|nN<|ih s4 (W (i+1)) _ N H h h1 hg ho hx
 intro aE N;exact wR<|yL<|hx _ _ (zC N).symm H
def uV (p:zD) (i1:Int) (out6:Str) (k01:Int):Option (Str):=do
 let x5<-idx p.Parts i1
 if (decide (k01<(x5.Body.length:Int))) then
  let x6<-idx p.Parts i1
  let x7<-idx x6.Body k01
  let y3<-sX x7.Write
  let s7<-cat out6 y3
  let s8<-cat s7 (⟨[61]⟩:Str)
  let y4<-rQ x7.Value
  let s9<-cat s8 y4
  let s10<-cat s9 (⟨[10]⟩:Str)
  uV p i1 s10 (W (k01+1))
 else
  pure (id out6)
 partial_fixpoint
theorem zAg (p:zD) (i1:Int):∀ (out6:Str) (k01:Int) (o:Str),uV p i1 out6 k01=some o->∀ {B}{I0 I:Imm}{Q p1 c p2 c1}{b:Nat},I0.le I->(S4 I p1 p.Arrays c)->(S4 I p2 p.Parts c1)->NG Q->NO Q->(∀ (I':Imm) (out7:Str),o=out7->I0.le I'->T 103 B Q (.exit 6) I' [hB b (cProg p p1 c p2 c1)] [(1,vP b 0),(3,vT out7.l),(6,vI i1)])->J Tryz.prog 103 B (nav (bodyOf f176) [1,1,1,1,0,1,0,0,1,0,0,1,1,0]) Q I [hB b (cProg p p1 c p2 c1)] [(1,vP b 0),(3,vT out6.l),(6,vI i1),(7,vI k01)]:=by
 refine uV.partial_correctness p i1 _ fun aH ih out6 k01 o N B I0 I Q p1 c p2 c1 b H h h1 hg ho hx=>yR hg ho<|yB<|yE<|yC 4 [0] [71,73,74] rfl<|bE N fun x5 hy15 N=>xO rfl rfl h1 hy15 ?_;intro ad5 ccs5 hat5 hrep5;obtain ⟨p8,c7,p9,c8,rfl,h10,h11⟩:=wQ hrep5;refine yC 6 [] [76] rfl<|xJ 1 hat5 [vS p9 x5.Body c8] (vS p9 x5.Body c8) rfl<|yI [] [79] rfl<|zI<|yF N ?_ ?_
 · intro bM N;refine zT<|yA<|yH<|yE<|yC 3 [0] [83,84] rfl<|bE N fun x6 hy16 N=>xO rfl rfl h1 hy16 ?_;intro ad6 ccs6 hat6 hrep6;obtain ⟨aV,c9,aN,bc,rfl,h12,h13⟩:=wQ hrep6;refine yC 5 [] [86] rfl<|xJ 1 hat6 [vS aN x6.Body bc] (vS aN x6.Body bc) rfl<|yC 7 [] [88] rfl<|bE N fun x7 hy17 N=>xO rfl rfl h13 hy17 ?_;intro ad7 ccs7 hat7 hrep7;obtain ⟨bB,aZ,bj,bk,p14,bo,p15,c14,rfl,h14,h15,h16,h17⟩:=qS hrep7;refine xJ 0 hat7 (cStmt x7 bB aZ bj bk p14 bo p15 c14) (vA (cStmt x7 bB aZ bj bk p14 bo p15 c14)) rfl<|wL [vT ([]),z0,vI 0,vI 0,z0,vI 0,vT ([]),z0,z0] ?_;intro b1 hb1;refine xH 0 (cStmt x7 bB aZ bj bk p14 bo p15 c14) rfl<|yD rfl<|zI ?_;obtain ⟨y3,hy18,N⟩:=zB N;obtain ⟨s7,hy19,N⟩:=zB N;obtain ⟨s8,hy20,N⟩:=zB N;obtain ⟨y4,hy21,N⟩:=zB N;obtain ⟨s9,hy22,N⟩:=zB N;obtain ⟨s10,hy23,N⟩:=zB N;refine vC [.p (vT out6.l) [],.p (vP b1 0) [],.p (vA (cAccess x7.Write bB aZ)) [0],.q (vT y3.l),.q (vT s7.l),.q (vT s8.l),.p (vP b1 2) [],.p (vA (cExpr x7.Value bj bk p14 bo p15 c14)) [0],.q (vT y4.l),.q (vT s9.l),.q (vT s10.l)] [[],[],[(1,false)],[(2,false)],[(0,false),(3,false)],[(4,false)],[],[(6,false)],[(7,false)],[(5,false),(8,false)],[(9,false)]] [hB b1 (cStmt x7 bB aZ bj bk p14 bo p15 c14),hB b (cProg p p1 c p2 c1)] [] [(10,false)] (zY [0,1]) ?_ ?_
   · refine Op<|Op<|Op<|Oq ?_<|Oq ?_<|Oq ?_<|Op<|Op<|Oq ?_<|Oq ?_<|Oq ?_<|On
     · intro I1 hf af;refine yW [93] rfl ?_;have H:=iS I1;have h14:=h14.mono af;refine xM (gG x7.Write _ hy18 h14) ?_;rintro bN aw v2 k2 bt - ⟨v016,rfl,rfl,rfl⟩ -;have H:=H.trans bt;exact xE H
     · intro I1 hf af;exact yW [91,94] rfl<|kY rfl hy19<|xE iR
     · intro I1 hf af;exact yW [95] rfl<|kY rfl hy20<|xE iR
     · intro I1 hf af;refine yW [98] rfl ?_;have H:=iS I1;have ⟨h15,h16,h17⟩:=m3 af h15 h16 h17;refine xM (zCC x7.Value _ hy21 h15 h16 h17) ?_;rintro I06 aw v2 k2 bv - ⟨v017,rfl,rfl,rfl⟩ -;have H:=H.trans bv;exact xE H
     · intro I1 hf af;exact yW [96,99] rfl<|kY rfl hy22<|xE iR
     intro I1 hf af;exact yW [100] rfl<|kY rfl hy23<|xE iR
   intro I07 le7;refine yW [1,6,7,101] rfl ?_;have ⟨h,h1,H⟩:=m3 le7 h h1 H;exact yI [] [3] rfl<|zP<|zI<|zM<|yI [] [7] rfl<|yP<|nX (zX [1] rfl (by decide))<|nN<|ih s10 (W (k01+1)) _ N H h h1 hg ho hx
 intro bM N;exact wR<|yL<|hx _ _ (zC N).symm H
def uW (p:zD) (bu:Str) (i1:Int):Option (Str):=do
 if (decide (i1<(p.Parts.length:Int))) then
  let s5<-cat bu (⟨[112,97,114,116,10]⟩:Str)
  let x4<-idx p.Parts i1
  let y2<-gY x4.Nest
  let s6<-cat s5 y2
  let out7<-uV p i1 s6 0
  uW p out7 (W (i1+1))
 else
  pure (id bu)
 partial_fixpoint
theorem zAh (p:zD):∀ (bu:Str) (i1:Int) (o:Str),uW p bu i1=some o->∀ {B}{I0 I:Imm}{Q p1 c p2 c1}{b:Nat},I0.le I->(S4 I p1 p.Arrays c)->(S4 I p2 p.Parts c1)->NG Q->NO Q->(∀ (I':Imm) (out5:Str),o=out5->I0.le I'->T 103 B Q (.exit 4) I' [] [(3,vT out5.l)])->J Tryz.prog 103 B (nav (bodyOf f176) [1,1,1,1,0,1,0]) Q I [hB b (cProg p p1 c p2 c1)] [(1,vP b 0),(3,vT bu.l),(6,vI i1)]:=by
 refine uW.partial_correctness p _ fun aH ih bu i1 o N B I0 I Q p1 c p2 c1 b H h h1 hg ho hx=>yR hg ho<|yB<|yE<|yI [0] [58] rfl<|zI<|yF N ?_ ?_
 · intro bG N;refine zT<|yA<|yH<|yE<|yC 1 [] [61] rfl<|bE N fun s5 hy11 N=>kY rfl hy11<|yC 5 [0] [64,65] rfl<|bE N fun x4 hy12 N=>xO rfl rfl h1 hy12 ?_;intro ad4 ccs4 hat4 hrep4;obtain ⟨p6,c5,p7,c6,rfl,h7,h8⟩:=wQ hrep4;refine yC 7 [] [67] rfl<|xJ 0 hat4 [vS p6 x4.Nest c5] (vS p6 x4.Nest c5) rfl<|bE N fun y2 hy13 N=>xM (zG0 x4.Nest _ hy13 h7) ?_;rintro bJ aw v2 k2 aW - ⟨v07,rfl,rfl,rfl⟩ -;have ⟨h,h1,H⟩:=m3 aW h h1 H;obtain ⟨s6,hy14,N⟩:=zB N;refine kY rfl hy14<|yI [] [3] rfl<|vK [7] rfl<|xX<|qP [(1,vP b 0),(3,vT s6.l),(6,vI i1),(7,vI 0)] ?_;obtain ⟨o02,ho02,hMl2⟩:=zB N;refine zAg p i1 s6 0 o02 ho02 iR h h1 (fun _ _ _ h=>hg _ _ _ h) (fun _ _ h=>ho _ _ h) ?_;intro I08 out7 heq2 le8;subst o02;have ⟨h,h1,H⟩:=m3 le8 h h1 H;exact zS<|zP<|zI<|zM<|yI [] [6] rfl<|yP<|nN<|ih out7 (W (i1+1)) _ hMl2 H h h1 hg ho hx
 intro bG N;exact wR<|xQ zQ<|yL<|hx _ _ (zC N).symm H
def oW (p:zD):Option (Str):=do
 let y<-uI p
 if (!y) then
  pure (⟨[]⟩:Str)
 else
  let aj<-uU p (⟨[112,114,111,103,114,97,109,10]⟩:Str) 0
  let out5<-uW p aj 0
  pure (id out5)
theorem zBj:∀ p r,oW p=some r->∀ {I:Imm}{p1 c p2 c1},(S4 I p1 p.Arrays c)->(S4 I p2 p.Parts c1)->RT 176 [vA (cProg p p1 c p2 c1)] I [] (tP  r):=by
 intro p r N I p1 c p2 c1 h h1;unfold oW at N;refine yJ func176 fun B=>yE<|tW (cProg p p1 c p2 c1) ?_;intro b hb;refine wB [] []<|yA<|yE<|rY 1 [0] [(9,vA (cProg p p1 c p2 c1))]<|bE N fun y hy N=>uM (gI p _ hy h h1) ?_;intro I0 le;have ⟨h,h1⟩:=m2 le h h1;refine yI [] [11] rfl<|zI<|yF N ?_ ?_
 · intro hc N;refine yG [2] rfl<|xC<|zH ?_;obtain rfl:=zC N;exact vE
 intro hc N;refine zT<|vK [3] rfl<|yA<|yG [4] rfl<|xX<|qP [(1,vP b 0),(3,vT ([112,114,111,103,114,97,109,10])),(4,vI 0)] ?_;obtain ⟨aM,az,hMl1⟩:=zB N;refine zAf p (⟨[112,114,111,103,114,97,109,10]⟩:Str) 0 aM az iR h h1 (fun _ _ _ h=>h) (fun _ _ h=>h) ?_;intro bC aj heq1 aD;subst aM;have ⟨h,h1⟩:=m2 aD h h1;refine zS<|yA<|yG [6] rfl<|xX<|qP [(1,vP b 0),(3,vT aj.l),(6,vI 0)] ?_;obtain ⟨o03,ho03,hMl3⟩:=zB hMl1;refine zAh p aj 0 o03 ho03 iR h h1 (fun _ _ _ h=>h) (fun _ _ h=>h) ?_;intro I09 out5 heq3 le9;subst o03;refine zS<|vK [2] rfl<|zI<|xB ?_;obtain rfl:=zC hMl3;exact vE
instance zL0 {cs}{arr:List zF}{ay}{ak:List Raw2}{parts:List zN}{vN:Value}{nl:List zE}{vB:Value}{bl:List zO}{csN csB:List Value}:MonoI (fun i=>L4 i cs arr ay ak parts vN nl vB bl csN csB):=⟨fun _ _ hl h=>h.mono hl⟩
def zBW (r:zD×Bool):KT:=fun kk I' ah v=>
  ∃ (v0 v1:Value),ah=[]/\v=tupV [v0,v1]/\(∃ cs,v0=.agg ⟨cs⟩/\Rp.rep I' cs r.1)/\v1=.bool r.2
def sS (y:List Str) (p:zD) (i:Int):Option zD:=do
 if (decide ((W (i+1))<(y.length:Int))) then
  let x<-idx y i
  let p1<-gX p x
  sS y p1 (W (i+1))
 else
  pure p
 partial_fixpoint
theorem zBA (y:List Str):∀ (p:zD) (i:Int) (o:zD),sS y p i=some o->∀ {B}{I0 I:Imm}{Q}{bi:Str}{pl:Option Addr}{cl:Nat}{b b1:Nat}{p1 c cs p2 c1 ay}{ak:List Raw2}{vN vB:Value}{nl:List zE}{bl:List zO}{csN csB:List Value},I0.le I->(S4 I pl y cl)->L4 I cs p.Arrays ay ak p.Parts vN nl vB bl csN csB->(∀ l a w,¬Q (.goto l) a w)->(∀ a w,¬Q .outgrown a w) ->
   (∀ (I':Imm) (p1:Option Addr) (c:Nat) (cs:List Value) (p2:Option Addr) (c1:Nat) (ay:List Value) (ak:List Raw2) (vN vB:Value) (nl:List zE) (bl:List zO) (csN csB:List Value),I0.le I'->L4 I' cs o.Arrays ay ak o.Parts vN nl vB bl csN csB->T 37 B Q (.exit 0) I' [hO zF (vS p1 o.Arrays c) cs,hO Raw2 (vS p2 ak c1) ay,hO zE vN csN,hO zO vB csB,hB b1 [vS p1 o.Arrays c,vS p2 ak c1],hB b zTwo] [(0,vT bi.l),(2,vP b 0),(5,vP b1 0)]) ->
   J Tryz.prog 37 B (nav (bodyOf f137) [1,1,1,1,0,1,0]) Q I [hO zF (vS p1 p.Arrays c) cs,hO Raw2 (vS p2 ak c1) ay,hO zE vN csN,hO zO vB csB,hB b1 [vS p1 p.Arrays c,vS p2 ak c1],hB b zTwo] [(0,vT bi.l),(2,vP b 0),(4,vS pl y cl),(5,vP b1 0),(6,vI i)]:=by
 refine sS.partial_correctness y _ ?_
 intro aH ih p i o N B I0 I Q bi pl cl b b1 p1 c cs p2 c1 ay ak vN vB nl bl csN csB H h hQ hg ho hx
 refine yR hg ho<|yB<|yG [18] rfl<|zI<|yF N ?_ ?_
 · intro aE N
   refine zT<|yA<|yH ?_
   obtain ⟨x,hy,N⟩:=zB N
   obtain ⟨q,aA,N⟩:=zB N
   refine vC [.p (vA [vS p1 p.Arrays c,vS p2 ak c1]) [0],.p (vS pl y cl) [],.p (vI i) [],.x (fun I' v hx=>∃ ad,v=.pointer (some ad)/\hx=[]/\(At I' ad [vT x.l])),.x (fun I' v hx=>v=vT x.l/\hx=[]),.x (fun I' v hx=>∃ (p1:Option Addr) (c:Nat) (cs:List Value) (p2:Option Addr) (c1:Nat) (ay:List Value) (ak:List Raw2) (vN vB:Value) (nl:List zE) (bl:List zO) (csN csB:List Value),v=vA [vS p1 q.Arrays c,vS p2 ak c1]/\hx=[hO zF (vS p1 q.Arrays c) cs,hO Raw2 (vS p2 ak c1) ay,hO zE vN csN,hO zO vB csB]/\L4 I' cs q.Arrays ay ak q.Parts vN nl vB bl csN csB)] [[],[],[],[(1,false),(2,false)],[(3,false)],[(0,false),(4,false),(7,true)]] [hB b1 [vS p1 p.Arrays c,vS p2 ak c1],hB b zTwo] [[hO zF (vS p1 p.Arrays c) cs,hO Raw2 (vS p2 ak c1) ay,hO zE vN csN,hO zO vB csB]] [(5,true)] (zY [4,5,0,1,2,3]) ?_ ?_
   · refine Op<|Op<|Op<|Ox ?_<|Ox ?_<|Ox (hm:=fun v hx=>by repeat' (first | exact zFZ | exact zL0 | refine @zIg _ _ (fun _=>?_) | refine @zHj _ _ ?_ ?_)) ?_<|On
     · intro I1 hf af
       refine yW [22,23] rfl<|xO rfl rfl (h.mono af) hy ?_
       intro ad aK aq al
       obtain rfl:=al
       exact yQ [] iR ⟨_,rfl,rfl,aq⟩
     · intro I1 hf af
       refine xU ?_
       rintro _ _ ⟨ad,rfl,rfl,aq⟩
       exact pM<|zAP [(24,.pointer (some ad))]<|xJ 0 aq [vT x.l] (vT x.l) rfl<|xE iR
     intro I1 hf af
     refine xU ?_
     rintro _ _ ⟨rfl,rfl⟩
     refine xU ?_
     rintro _ _ ⟨rfl,rfl⟩
     refine xU ?_
     rintro _ _ rfl
     refine yW [21,25] rfl<|tM (zGX p x _ aA (hQ.mono af)) rfl ?_
     rintro aU aw v2 k2 aC - ⟨p3,c2,aQ,p4,c3,aR,raws1,vN1,vB1,nl1,bl1,csN1,csB1,rfl,rfl,hq⟩ -
     exact yQ [hO zF (vS p3 q.Arrays c2) aQ,hO Raw2 (vS p4 raws1 c3) aR,hO zE vN1 csN1,hO zO vB1 csB1] aC ⟨_,_,_,_,_,_,_,_,_,_,_,_,_,rfl,rfl,hq⟩
   intro bJ aW
   refine xU ?_
   rintro _ _ ⟨p3,c2,aQ,p4,c3,aR,raws1,vN1,vB1,nl1,bl1,csN1,csB1,rfl,rfl,hq⟩
   exact pM<|zAP [(0,vT bi.l),(2,vP b 0),(4,vS pl y cl),(5,vP b1 0),(6,vI i),(26,vA [vS p3 q.Arrays c2,vS p4 raws1 c3])]<|xH 4 [vS p3 q.Arrays c2,vS p4 raws1 c3] rfl<|yD rfl<|zP<|zI<|zM<|yI [] [6] rfl<|yP<|nN<|ih _ _ _ N (H.trans aW) (h.mono aW) hq hg ho hx
 intro aE N
 obtain rfl:=zC N
 exact wR<|yL<|hx _ _ _ _ _ _ _ _ _ _ _ _ _ _ H hQ
def nK (bi:Str):Option (zD×Bool):=do
 let y<-mT bi (10:UInt8)
 if (decide ((y.length:Int)>42)) then
  pure ((zD.mk [] []),false)
 else
  let p<-sS y (zD.mk [] []) 1
  let t34<-(do
    if (bi.l==([]:List UInt8)) then
     pure true
    else
     let z<-oW p
     pure (!(z.l==bi.l))
      : Option Bool)
  if t34 then
   pure ((zD.mk [] []),false)
  else
   pure (p,true)
theorem zCG:∀ bi r,nK bi=some r->∀ {I:Imm},RT 137 [vT bi.l] I [] (zBW r):=by
 intro bi r N I;unfold nK at N;refine yJ func137 fun B=>yE<|wL zTwo ?_;intro b hb;refine wB [] []<|yV<|yC 1 [] [7] rfl<|bE N fun y hy N=>xM (zAD bi (10:UInt8) _ hy) ?_;rintro I0 aw v2 k2 le - ⟨v0,rfl,rfl,h⟩ -;obtain ⟨pl,cl,rfl⟩:=h.form;refine yI [] [4] rfl<|yV<|yC 1 [] [9] rfl<|wL zTwo ?_;intro b1 hb1;refine zAo 0 zTwo [hB b1 zTwo,hB b zTwo] rfl rfl rfl rfl<|yD rfl<|yA<|yG [12] rfl<|zI<|yF N ?_ ?_
 · intro hc N;refine yE<|rY 1 [0] [(13,vA zTwo)]<|zAo 1 zTwo [hB b1 zTwo,hB b zTwo] rfl rfl rfl rfl<|wB [] [(3,vF)]<|xC<|zH ?_;obtain rfl:=zC N;exact xA ⟨_,_,(.cell 1 rfl rfl (by kernel_rfl) (.tmp rfl ResV.nil)),zQ,⟨_,_,rfl,rfl,⟨_,rfl,(vD ⟨_,_,rfl,(SL.nil _),(SL.nil _)⟩)⟩,rfl⟩⟩
 intro hc N;refine zT<|yA<|yG [6] rfl<|xX<|qP [(0,vT bi.l),(2,vP b 0),(4,vS pl y cl),(5,vP b1 0),(6,vI 1)]<|nX (pP (Rp.sz zO))<|nX (pP (Rp.sz zE))<|nX (pP (Rp.sz Raw2))<|nX (pP (Rp.sz zF))<|bE N fun p aA N=>zBA (ak:=[]) (vN:=z0) (vB:=z0) (nl:=[]) (bl:=[]) y (zD.mk [] []) 1 p aA iR h ⟨RepL.nil,RepL.nil,⟨by decide,rfl,.inl ⟨rfl,rfl⟩⟩,RepL.nil,RepL.nil⟩ (fun _ _ _ h=>h) (fun _ _ h=>h) fun I1 p1 c cs p2 c1 ay ak vN vB nl bl csN csB af hQ=>yU 2 rfl ?_;intro I2 aC hl2;have kN:=SL.of_frozen hl2 aC hQ.n;have hQ:=hQ.mono aC;refine yU 2 rfl ?_;intro I3 aD hl3;have kB:=SL.of_frozen hl3 aD hQ.b;replace kN:=kN.mono aD;have hQ:=hQ.mono aD;refine yU 0 rfl ?_;intro I4 aW hl4;have kA:=SL.of_frozen hl4 aW hQ.arr;replace kN:=kN.mono aW;replace kB:=kB.mono aW;have hQ:=hQ.mono aW;refine yU 0 rfl ?_;intro I5 bt hl5;have kP:SL I5 (vS p2 ak c1) p.Parts:=⟨ay,hl5,by
   rw [kI hQ.raw];exact (hQ.lp.done kN kB).mono fun _ _=>Rp.mono bt⟩
 have e0:vS p2 ak c1=vS p2 p.Parts c1:=by simp only [vS,hQ.lp.2.1]
 rw [e0] at kP ⊢;clear e0 hl5 hl4 hl3 hl2 hQ;replace kA:=kA.mono bt;refine zS<|yA<|yB<|bE N fun t34 ht N=>qR (K1 t34 I5 [hB b1 (cProg p p1 c p2 c1),hB b zTwo] fun o=>[(2,vP b 0),(5,vP b1 0),(34,.bool o)]) ?_ ?_
 · refine zM<|rY 3 [] [(29,.bool (bi.l==([]:List UInt8)))] ?_;cases aY:(bi.l==([]:List UInt8)) with
   | true =>
    have hM0:=tZ aY ht;exact wB [] [(34,vY)]<|yL<|zU ⟨_,(zC hM0).symm,Imm.le.refl _,rfl,rfl⟩
   | false =>
    have hM0:=uZ aY ht;obtain ⟨z,hz,hM0⟩:=zB hM0;refine rY 4 [0] [(30,vA (cProg p p1 c p2 c1))]<|xM (zBj p _ hz kA kP) ?_;rintro I6 aw v2 k2 bv - ⟨v0,rfl,rfl,rfl⟩ -;exact yI [] [34] rfl<|yL<|zU (ct hM0 bv)
 rintro I6 aw m2 ⟨o,rfl,bv,rfl,rfl⟩;replace kA:=kA.mono bv;replace kP:=kP.mono bv;refine zI<|yF N ?_ ?_
 · intro aY N;refine yE<|yC 1 [] [35] rfl<|zAo 1 zTwo [hB b1 (cProg p p1 c p2 c1),hB b zTwo] rfl rfl rfl rfl<|wB [] [(3,vF)]<|xC<|zH ?_;obtain rfl:=zC N;exact xA ⟨_,_,(.cell 1 rfl rfl (by kernel_rfl) (.tmp rfl ResV.nil)),zQ,⟨_,_,rfl,rfl,⟨_,rfl,(vD ⟨_,_,rfl,(SL.nil _),(SL.nil _)⟩)⟩,rfl⟩⟩
 intro aY N;refine zT<|yV<|rY 1 [0] [(36,vA (cProg p p1 c p2 c1))]<|xH 1 (cProg p p1 c p2 c1) rfl<|wB [] [(3,vY)]<|zI<|xB ?_;obtain rfl:=zC N;exact xA ⟨_,_,(.cell 1 rfl rfl (by kernel_rfl) (.tmp rfl ResV.nil)),zQ,⟨_,_,rfl,rfl,⟨_,rfl,(vD ⟨_,_,rfl,kA,kP⟩)⟩,rfl⟩⟩
def zEz (r:(List zF)):KT:=fun kk I' ah v=>
  ∃ v0,ah=[]/\v=tupV [v0]/\SL I' v0 r
def mX :Option ((List zF)):=do
 pure ([(zF.mk (⟨[65]⟩:Str) ([6]:List Int)),(zF.mk (⟨[66]⟩:Str) ([4,5]:List Int)),(zF.mk (⟨[67]⟩:Str) ([3]:List Int))]:List zF)
theorem fX:∀ r,mX =some r->∀ {I:Imm} ,RT 177 [] I [] (zEz  r):=by
 intro  r N I;unfold mX at N;refine yJ func177 fun B=>vR []<|yV<|uD [vI 6] Int ?_;intro b hb;have h:RL I [vI 6] ([6]:List Int):=rI [6];refine yC 2 [] [2] rfl<|uD [vI 4,vI 5] Int ?_;intro b1 hb1;have h1:RL I [vI 4,vI 5] ([4,5]:List Int):=rI [4,5];refine yC 4 [] [4] rfl<|uD [vI 3] Int ?_;intro b2 hb2;have h2:RL I [vI 3] ([3]:List Int):=rI [3];refine yC 6 [] [6] rfl<|xF 2 rfl ?_;intro I0 le hl0;have h3:=SL.of_frozen hl0 le h;have ⟨h1,h2⟩:=m2 le h1 h2;refine xF 1 rfl ?_;intro aT af hl01;have h4:=SL.of_frozen hl01 af h1;have ⟨h3,h2⟩:=m2 af h3 h2;refine xF 0 rfl ?_;intro aU aC hl02;have h5:=SL.of_frozen hl02 aC h2;have ⟨h3,h4⟩:=m2 aC h3 h4;refine uD [vT ([65]),vS (some ⟨b,0,none⟩) ([6]:List Int) 1,vT ([66]),vS (some ⟨b1,0,none⟩) ([4,5]:List Int) 2,vT ([67]),vS (some ⟨b2,0,none⟩) ([3]:List Int) 1] zF ?_;intro b3 hb3;have h6:RL aU [vT ([65]),vS (some ⟨b,0,none⟩) ([6]:List Int) 1,vT ([66]),vS (some ⟨b1,0,none⟩) ([4,5]:List Int) 2,vT ([67]),vS (some ⟨b2,0,none⟩) ([3]:List Int) 1] ([(zF.mk (⟨[65]⟩:Str) ([6]:List Int)),(zF.mk (⟨[66]⟩:Str) ([4,5]:List Int)),(zF.mk (⟨[67]⟩:Str) ([3]:List Int))]:List zF):=⟨[vT ([65]),vS (some ⟨b,0,none⟩) ([6]:List Int) 1],_,rfl,rfl,(rX ⟨_,rfl,h3⟩),⟨[vT ([66]),vS (some ⟨b1,0,none⟩) ([4,5]:List Int) 2],_,rfl,rfl,(rX ⟨_,rfl,h4⟩),⟨[vT ([67]),vS (some ⟨b2,0,none⟩) ([3]:List Int) 1],_,rfl,rfl,(rX ⟨_,rfl,h5⟩),rfl⟩⟩⟩;refine yI [] [0] rfl<|xC<|yU 0 rfl ?_;intro bC aD hl03;have h7:=SL.of_frozen hl03 aD h6;obtain rfl:=zC N;exact xA ⟨_,_,(.tmp rfl ResV.nil),zQ,⟨_,rfl,rfl,h7⟩⟩
def sY (a0:zA) (x:Int) (b:zA) (y:Int) (i:Int) (Coefs:List Int):Option (List Int):=do
 if (decide (i<4)) then
  let x1<-idx a0.Coefs i
  let x2<-idx b.Coefs i
  let l<-app 8 Coefs ([(W ((W (x*x1))+(W (y*x2))))]:List Int)
  sY a0 x b y (W (i+1)) l
 else
  pure (id Coefs)
 partial_fixpoint
theorem zCH (a0:zA) (x:Int) (b:zA) (y:Int):∀ (i:Int) (Coefs:List Int) (o:List Int),sY a0 x b y i Coefs=some o->∀ {B}{I0 I:Imm}{Q p c p1 c1}{b1:Nat}{b2:Nat}{b3:Nat}{b4:Nat}{p2 c2 cs},I0.le I->(S4 I p1 b.Coefs c1)->(S4 I p a0.Coefs c)->(RL I cs Coefs)->NG Q->NO Q->(∀ (I':Imm) (Coefs1:List Int) (p3:Option Addr) (c3:Nat) (ay:List Value),o=Coefs1->I0.le I'->(RL I' ay Coefs1)->T 46 B Q (.exit 0) I' [hO Int (vS p3 Coefs1 c3) ay,hB b4 [vS p3 Coefs1 c3,vI (W ((W (x*a0.Const))+(W (y*b.Const))))],hB b3 [z0,vI 0]] [(8,vP b3 0),(9,vP b4 0)])->J Tryz.prog 46 B (nav (bodyOf f264) [1,1,0,1,0]) Q I [hO Int (vS p2 Coefs c2) cs,hB b4 [vS p2 Coefs c2,vI (W ((W (x*a0.Const))+(W (y*b.Const))))],hB b3 [z0,vI 0],hB b2 (cAff b p1 c1),hB b1 (cAff a0 p c)] [(1,vI x),(3,vI y),(4,vP b1 0),(6,vP b2 0),(8,vP b3 0),(9,vP b4 0),(10,vI i)]:=by
 refine sY.partial_correctness a0 x b y _ fun aH ih i Coefs o N B I0 I Q p c p1 c1 b1 b2 b3 b4 p2 c2 cs H h1 h h3 hg ho hx=>yR hg ho<|yB<|yG [22] rfl<|zI<|yF N ?_ ?_
 · intro hc N;refine zT<|yA<|yH ?_;obtain ⟨x1,hy,N⟩:=zB N;obtain ⟨x2,aA,N⟩:=zB N;obtain ⟨l,aJ,N⟩:=zB N;refine vC [.p (vP b4 0) [],.p (vS p2 Coefs c2) [0],.p (vI x) [],.p (vP b1 0) [],.p (vS p a0.Coefs c) [3],.p (vI i) [],.x (fun I' v hx=>∃ ad,v=.pointer (some ad)/\hx=[]/\(At I' ad [vI x1])),.q (vI x1),.p (vI (W (x*x1))) [],.p (vI y) [],.p (vP b2 0) [],.p (vS p1 b.Coefs c1) [2],.p (vI i) [],.x (fun I' v hx=>∃ ad1,v=.pointer (some ad1)/\hx=[]/\(At I' ad1 [vI x2])),.q (vI x2),.p (vI (W (y*x2))) [],.p (vI (W ((W (x*x1))+(W (y*x2))))) [],.x (fun I' v hx=>∃ b5,v=vS (some ⟨b5,0,none⟩) ([(W ((W (x*x1))+(W (y*x2))))]:List Int) 1/\hx=[]/\(SL I' (vS (some ⟨b5,0,none⟩) ([(W ((W (x*x1))+(W (y*x2))))]:List Int) 1) ([(W ((W (x*x1))+(W (y*x2))))]:List Int))),.x (fun I' v hx=>∃ p4 c4 aQ,v=vS p4 l c4/\hx=[hO Int (vS p4 l c4) aQ]/\(RL I' aQ l))] [[],[(0,false)],[],[],[(3,false)],[],[(4,false),(5,false)],[(6,false)],[(2,false),(7,false)],[],[],[(10,false)],[],[(11,false),(12,false)],[(13,false)],[(9,false),(14,false)],[(8,false),(15,false)],[(16,false)],[(1,false),(17,false),(21,true)]] [hB b4 [vS p2 Coefs c2,vI (W ((W (x*a0.Const))+(W (y*b.Const))))],hB b3 [z0,vI 0],hB b2 (cAff b p1 c1),hB b1 (cAff a0 p c)] [[hO Int (vS p2 Coefs c2) cs]] [(18,true)] (zY [1,2,3,4,0]) ?_ ?_
   · refine Op<|Op<|Op<|Op<|Op<|Op<|Ox ?_<|Oq ?_<|Op<|Op<|Op<|Op<|Op<|Ox ?_<|Oq ?_<|Op<|Op<|Ox ?_<|Ox ?_<|On
     · intro I1 hf af;refine yW [29,30] rfl ?_;have h:=h.mono af;refine xO rfl rfl h hy ?_;intro ad aK aq al;obtain rfl:=al;exact yQ [] iR ⟨_,rfl,rfl,aq⟩
     · rintro I1 hf af _ _ ⟨ad,rfl,rfl,aq⟩;exact yW [31] rfl<|xJ 0 aq [vI x1] (vI x1) rfl<|xE iR
     · intro I1 hf af;refine yW [36,37] rfl ?_;have h1:=h1.mono af;refine xO rfl rfl h1 aA ?_;intro ad1 bx au ax;obtain rfl:=ax;exact yQ [] iR ⟨_,rfl,rfl,au⟩
     · rintro I1 hf af _ _ ⟨ad1,rfl,rfl,au⟩;exact yW [38] rfl<|xJ 0 au [vI x2] (vI x2) rfl<|xE iR
     · intro I1 hf af;refine yW [41] rfl ?_;have H:=iS I1;refine nC (rI [(W ((W (x*x1))+(W (y*x2))))]) ?_;intro b5 I0 le h6;have H:=H.trans le;exact yQ [] H ⟨_,rfl,rfl,h6⟩
     rintro I1 hf af _ _ ⟨rfl,rfl⟩ _ _ ⟨b5,rfl,rfl,h6⟩ _ _ rfl;refine yW [26,42] rfl ?_;have h3:=iM af h3;obtain ⟨bO,k0,k01⟩:=h6;have h6:SL I1 (vS (some ⟨b5,0,none⟩) ([(W ((W (x*x1))+(W (y*x2))))]:List Int) 1) ([(W ((W (x*x1))+(W (y*x2))))]:List Int):=⟨_,k0,k01⟩;exact sC 3 1 0 rfl rfl rfl h3 (.inl k0) k01 aJ fun p4 c4 aQ h7=>wE (ah:=(hO Int (vS p4 l c4) aQ::hB b4 [vS p2 Coefs c2,vI (W ((W (x*a0.Const))+(W (y*b.Const))))]::hB b3 [z0,vI 0]::hB b2 (cAff b p1 c1)::hB b1 (cAff a0 p c)::hf)) rfl<|yQ [hO Int (vS p4 l c4) aQ] iR ⟨_,_,_,rfl,rfl,h7⟩
   rintro aT af _ _ ⟨p4,c4,aQ,rfl,rfl,h7⟩;refine yW [1,3,4,6,8,9,10,43] rfl ?_;have ⟨h1,h,H⟩:=m3 af h1 h H;exact yC 20 [] [44] rfl<|xH 1 [vS p4 l c4,vI (W ((W (x*a0.Const))+(W (y*b.Const))))] rfl<|yD rfl<|zP<|zI<|zM<|yI [] [10] rfl<|yP<|nN<|ih (W (i+1)) l _ N H h1 h h7 hg ho hx
 intro hc N;exact wR<|xQ (zX [0,1,2] rfl (by decide))<|yL<|hx _ _ _ _ _ (zC N).symm H h3
def nV (a0:zA) (x:Int) (b:zA) (y:Int):Option (zA):=do
 let Coefs1<-sY a0 x b y 0 ([]:List Int)
 pure (zA.mk Coefs1 (W ((W (x*a0.Const))+(W (y*b.Const)))))
theorem zA6:∀ a0 x b y r,nV a0 x b y=some r->∀ {I:Imm}{p c p1 c1},(S4 I p a0.Coefs c)->(S4 I p1 b.Coefs c1)->RT 264 [vA (cAff a0 p c),vI x,vA (cAff b p1 c1),vI y] I [] (jG  r):=by
 intro a0 x b y r N I p c p1 c1 h h1;unfold nV at N;refine yJ func264 fun B=>yE<|tW (cAff a0 p c) ?_;intro b1 hb;refine tW (cAff b p1 c1) ?_;intro b2 hb1;refine wL [z0,vI 0] ?_;intro b3 hb2;refine yD rfl<|yV<|rY 10 [2,1] [(20,vA [z0,vI (W ((W (x*a0.Const))+(W (y*b.Const))))])]<|wL [z0,vI 0] ?_;intro b4 hb3;refine xH 0 [z0,vI (W ((W (x*a0.Const))+(W (y*b.Const))))] rfl<|yD rfl<|yA<|yG [10] rfl<|xX<|qP [(1,vI x),(3,vI y),(4,vP b1 0),(6,vP b2 0),(8,vP b3 0),(9,vP b4 0),(10,vI 0)]<|dR Int fun h2=>?_;obtain ⟨o0,aB,aI⟩:=zB N;refine zCH a0 x b y 0 ([]:List Int) o0 aB iR h1 h h2 (fun _ _ _ h=>h) (fun _ _ h=>h) ?_;intro aU Coefs1 p3 c3 ay heq aC h4;subst o0;refine zS<|yV<|rY 1 [1] [(45,vA [vS p3 Coefs1 c3,vI (W ((W (x*a0.Const))+(W (y*b.Const))))])]<|xH 2 [vS p3 Coefs1 c3,vI (W ((W (x*a0.Const))+(W (y*b.Const))))] rfl<|yD rfl<|xC<|yU 0 rfl ?_;intro bC aD hl01;have h8:=SL.of_frozen hl01 aD h4;obtain rfl:=zC aI;exact xA ⟨_,_,(.cell 1 rfl rfl (by kernel_rfl) ResV.nil),zQ,⟨_,rfl,rfl,⟨_,rfl,(yK ⟨_,rfl,h8⟩)⟩⟩⟩
def zFA (b0:Nat) (r:zE×zK):KT:=fun kk I' ah v=>
  ∃ v0 k0,ah=[.blk b0 ⟨k0⟩]/\v=tupV [v0]/\(∃ cs,v0=.agg ⟨cs⟩/\Rp.rep I' cs r.1)/\Rp.rep I' k0 r.2
def gZ (r0:zK) (aa:Int):Option (zE×zK):=do
 let (y1,y2)<-yN r0 ([0,0,1,0,(-1)]:List Int)
 let y3<-wN y1
 let (y5,y6)<-yN y2 ([3,4,2,3,1]:List Int)
 let y7<-wN y5
 let (t23,x)<-(do
   if (decide (aa>0)) then
    let (y9,y10)<-yX y6 4
    pure ((y9==0),y10)
   else
    pure (false,y6)
     : Option (Bool×zK))
 let (x1,x2,x3)<-(do
   if t23 then
    let (y12,y13)<-yX x aa
    let (y15,y16)<-yX y13 2
    let (x4,x5)<-(do
      if (y15==0) then
       let y17<-nO y12
       pure (y17,(zA.mk y7.Coefs y7.Const))
      else
       let y18<-nO y12
       let y19<-wN 1
       let y20<-nV y18 1 y19 1
       pure ((zA.mk y3.Coefs y3.Const),y20)
        : Option (zA×zA))
    pure (x4,x5,y16)
   else
    pure ((zA.mk y3.Coefs y3.Const),(zA.mk y7.Coefs y7.Const),x)
     : Option (zA×zA×zK))
 let (y22,y23)<-yX x3 12
 let (Lo,Hi,x6)<-(do
   if (y22==0) then
    let (y25,y26)<-yN y23 ([3,2,4]:List Int)
    let y27<-wN y25
    let l<-app 32 ([x2]:List zA) ([y27]:List zA)
    pure (([x1]:List zA),l,y26)
   else
    let (Lo1,x7)<-(do
      if (y22==1) then
       let (y29,y30)<-yN y23 ([0,1]:List Int)
       let y31<-wN y29
       let l1<-app 32 ([x1]:List zA) ([y31]:List zA)
       pure (l1,y30)
      else
       pure (([x1]:List zA),y23)
        : Option (List zA×zK))
    pure (Lo1,([x2]:List zA),x7)
     : Option (List zA×List zA×zK))
 pure ((zE.mk Lo Hi),x6)
theorem zG1:∀ r0 aa r,gZ r0 aa=some r->∀ {I:Imm}{ar:Nat}{p c},(S4 I p r0.b c)->RT 244 [vP ar 0,vI aa] I [hB ar (cRd r0 p c)] (zFA ar r):=by
 intro r0 aa r N I ar p c h;unfold gZ at N;refine yJ func244 fun B=>?_;have H:=iS I;refine yE<|wL zTwo ?_;intro b hb;refine yD rfl<|yV<|yC 1 [] [9] rfl<|nC (rI [0,0,1,0,(-1)]) ?_;intro b1 I0 le h2;have ⟨h,H⟩:=m2 le h H;refine tO (zY [1,0] (ah:=[hB ar (cRd r0 p c),hB b zTwo])) ?_;obtain ⟨⟨y1,y2⟩,hy,N⟩:=zB N;refine tM (yT r0 ([0,0,1,0,(-1)]:List Int) _ hy h h2) rfl ?_;rintro aT aw v2 k2 af - ⟨v0,kk,rfl,rfl,rfl,h4⟩ -;have H:=H.trans af;obtain ⟨p1,c1,rfl,h5⟩:=zZ h4;obtain ⟨y3,aA,N⟩:=zB N;refine xM (uJ y1 _ aA ) ?_;rintro aU aw v2 k2 aC - ⟨p2,c2,cs,rfl,rfl,h6⟩ -;have ⟨h5,H⟩:=m2 aC h5 H;refine wL [z0,vI 0] ?_;intro b2 hb2;refine xH 0 (cAff y3 p2 c2) rfl<|yD rfl<|yV<|yC 1 [] [13] rfl<|nC (rI [3,4,2,3,1]) ?_;intro b3 bC aD h8;have ⟨h6,h5,H⟩:=m3 aD h6 h5 H;refine tO (zY [2,0,1,3] (ah:=[hB ar (cRd y2 p1 c1),hB b2 (cAff y3 p2 c2),hO Int (vS p2 y3.Coefs c2) cs,hB b zTwo])) ?_;obtain ⟨⟨y5,y6⟩,aJ,N⟩:=zB N;refine tM (yT y2 ([3,4,2,3,1]:List Int) _ aJ h5 h8) rfl ?_;rintro bJ aw v2 k2 aW - ⟨v02,kk1,rfl,rfl,rfl,h10⟩ -;have ⟨h6,H⟩:=m2 aW h6 H;obtain ⟨p3,c3,rfl,h11⟩:=zZ h10;obtain ⟨y7,bf,N⟩:=zB N;refine xM (uJ y5 _ bf ) ?_;rintro bN aw v2 k2 bt - ⟨p4,c4,ay,rfl,rfl,h12⟩ -;have ⟨h11,h6,H⟩:=m3 bt h11 h6 H;refine wL [z0,vI 0] ?_;intro b4 hb4;refine xH 0 (cAff y7 p4 c4) rfl<|yD rfl<|yA<|yB ?_;obtain ⟨o0,aB,aS⟩:=zB N;refine qR (fun I' ah m'=>∃ (t23:Bool) (x:zK) (p5:Option Addr) (c5:Nat),o0=(t23,x)/\bN.le I'/\(S4 I' p5 x.b c5)/\ah=[hB b4 (cAff y7 p4 c4),hO Int (vS p4 y7.Coefs c4) ay,hB ar (cRd x p5 c5),hB b2 (cAff y3 p2 c2),hO Int (vS p2 y3.Coefs c2) cs,hB b zTwo]/\m'=[(0,vP ar 0),(1,vI aa),(4,vP b 0),(5,vP b2 0),(6,vP b4 0),(23,.bool t23)]) ?_ ?_
 · have H:=iS bN;refine zM<|yC 3 [] [19] rfl<|xS [19] aB ?_ ?_
   · intro hc N;refine yC 4 [] [20] rfl<|tO (zY [2,0,1,3,4,5] (ah:=[hB ar (cRd y6 p3 c3),hB b4 (cAff y7 p4 c4),hO Int (vS p4 y7.Coefs c4) ay,hB b2 (cAff y3 p2 c2),hO Int (vS p2 y3.Coefs c2) cs,hB b zTwo])) ?_;obtain ⟨⟨y9,y10⟩,bw,N⟩:=zB N;refine tM (xN y6 4 _ bw h11) rfl ?_;rintro I07 aw v2 k2 bv - ⟨v04,kk2,rfl,rfl,rfl,h15⟩ -;have H:=H.trans bv;obtain ⟨p6,c6,rfl,h16⟩:=zZ h15;exact yI [] [23] rfl<|xQ (zX [1,2,0,3,4,5] rfl (by decide))<|yL<|zU ⟨_,_,_,_,(zC N).symm,H,h16,rfl,rfl⟩
   intro hc N;exact wB [] [(23,vF)]<|yL<|zU ⟨_,_,_,_,(zC N).symm,H,h11,rfl,rfl⟩
 rintro I06 aw m2 ⟨t23,x,p5,c5,heq,le7,h13,rfl,rfl⟩;subst o0;have ⟨h12,h6,H⟩:=m3 le7 h12 h6 H;refine zI<|rL 4 rfl ?_;intro I08 le8 hl02;have h17:=SL.of_frozen hl02 le8 h6;have ⟨h12,h13,H⟩:=m3 le8 h12 h13 H;refine rL 1 rfl ?_;intro I09 le9 hl03;have h18:=SL.of_frozen hl03 le9 h12;have ⟨h13,h17,H⟩:=m3 le9 h13 h17 H;obtain ⟨aM,az,hMc1⟩:=zB aS;refine qR (fun I' ah m'=>∃ (x1:zA) (x2:zA) (x3:zK) (p7:Option Addr) (c7:Nat) (p8:Option Addr) (c8:Nat) (p9:Option Addr) (c9:Nat),aM=(x1,x2,x3)/\I09.le I'/\(S4 I' p7 x1.Coefs c7)/\(S4 I' p8 x2.Coefs c8)/\(S4 I' p9 x3.b c9)/\ah=[hB b4 (cAff x2 p8 c8),hB ar (cRd x3 p9 c9),hB b2 (cAff x1 p7 c7),hB b zTwo]/\m'=[(0,vP ar 0),(4,vP b 0),(5,vP b2 0),(6,vP b4 0)]) ?_ ?_
 · have H:=iS I09;refine yF az ?_ ?_
   · intro aE N;refine yE<|yC 2 [] [24,25] rfl<|tO (zY [1,0,2,3] (ah:=[hB ar (cRd x p5 c5),hB b4 (cAff y7 p4 c4),hB b2 (cAff y3 p2 c2),hB b zTwo])) ?_;obtain ⟨⟨y12,y13⟩,bH,N⟩:=zB N;refine tM (xN x aa _ bH h13) rfl ?_;rintro bV aw v2 k2 le10 - ⟨v06,kk3,rfl,rfl,rfl,h23⟩ -;have ⟨h18,h17,H⟩:=m3 le10 h18 h17 H;obtain ⟨aV,bc,rfl,h24⟩:=zZ h23;refine yI [] [7] rfl<|yV<|yC 1 [] [27] rfl ?_;obtain ⟨⟨y15,y16⟩,hy6,N⟩:=zB N;refine tM (xN y13 2 _ hy6 h24) rfl ?_;rintro bW aw v2 k2 le11 - ⟨v08,kk4,rfl,rfl,rfl,h26⟩ -;have ⟨h18,h17,H⟩:=m3 le11 h18 h17 H;obtain ⟨aN,aZ,rfl,h27⟩:=zZ h26;refine yI [] [29] rfl<|zI ?_;obtain ⟨o02,ho02,hMc2⟩:=zB N;refine qR (fun I' ah m'=>∃ (x4:zA) (x5:zA) (bB:Option Addr) (bk:Nat) (bj:Option Addr) (bo:Nat),o02=(x4,x5)/\bW.le I'/\(S4 I' bB x4.Coefs bk)/\(S4 I' bj x5.Coefs bo)/\ah=[hB ar (cRd y16 aN aZ),hB b4 (cAff x5 bj bo),hB b2 (cAff x4 bB bk),hB b zTwo]/\m'=[(0,vP ar 0),(4,vP b 0),(5,vP b2 0),(6,vP b4 0)]) ?_ ?_
     · have H:=iS bW;refine yF ho02 ?_ ?_
       · intro aY N;refine zM<|yC 1 [] [30] rfl<|bE N fun y17 hy7 N=>xM (gU y12 _ hy7 ) ?_;rintro I014 aw v2 k2 le12 - ⟨v010,rfl,rfl,⟨aQ,rfl,h30⟩⟩ -;have ⟨h18,H⟩:=m2 le12 h18 H;obtain ⟨p14,c14,rfl,h31⟩:=yM h30;exact xH 2 (cAff y17 p14 c14) rfl<|yD rfl<|yL<|zU ⟨_,_,_,_,_,_,(zC N).symm,H,h31,h18,rfl,rfl⟩
       intro aY N;refine zM<|yC 1 [] [32] rfl<|bE N fun y18 hy8 N=>xM (gU y12 _ hy8 ) ?_;rintro I015 aw v2 k2 le13 - ⟨v012,rfl,rfl,⟨aR,rfl,h32⟩⟩ -;have ⟨h17,H⟩:=m2 le13 h17 H;obtain ⟨p15,c15,rfl,h33⟩:=yM h32;obtain ⟨y19,hy9,N⟩:=zB N;refine xM (uJ 1 _ hy9 ) ?_;rintro I016 aw v2 k2 le14 - ⟨p16,c16,bz,rfl,rfl,h34⟩ -;have ⟨h33,h17,H⟩:=m3 le14 h33 h17 H;refine xF 0 rfl ?_;intro I017 le15 hl04;have h35:=SL.of_frozen hl04 le15 h34;have ⟨h33,h17,H⟩:=m3 le15 h33 h17 H;obtain ⟨y20,hy10,N⟩:=zB N;refine xM (zA6 y18 1 y19 1 _ hy10 h33 h35) ?_;rintro I018 aw v2 k2 le16 - ⟨v014,rfl,rfl,⟨bD,rfl,h36⟩⟩ -;have ⟨h17,H⟩:=m2 le16 h17 H;obtain ⟨p17,c17,rfl,h37⟩:=yM h36;exact xH 1 (cAff y20 p17 c17) rfl<|yD rfl<|yL<|zU ⟨_,_,_,_,_,_,(zC N).symm,H,h17,h37,rfl,rfl⟩
     rintro I013 aw m2 ⟨x4,x5,bB,bk,bj,bo,heq1,le17,h28,h29,rfl,rfl⟩;subst o02;have ⟨h27,H⟩:=m2 le17 h27 H;exact xQ (zX [1,0,2,3] rfl (by decide))<|yL<|zU ⟨_,_,_,_,_,_,_,_,_,(zC hMc2).symm,H,h28,h29,h27,rfl,rfl⟩
   intro aE N;exact zT<|yL<|zU ⟨_,_,_,_,_,_,_,_,_,(zC N).symm,H,h17,h18,h13,rfl,rfl⟩
 rintro bP aw m2 ⟨x1,x2,x3,p7,c7,p8,c8,p9,c9,heq2,le18,h19,h20,h21,rfl,rfl⟩;subst aM;have H:=H.trans le18;refine yV<|rY 1 [2] [(36,vA (cAff x1 p7 c7))]<|uD (cAff x1 p7 c7) zA ?_;intro b5 hb5;have h38:RL bP (cAff x1 p7 c7) ([x1]:List zA):=⟨(cAff x1 p7 c7),_,rfl,rfl,(yK ⟨_,rfl,h19⟩),rfl⟩;refine rY 3 [1] [(38,vA (cAff x2 p8 c8))]<|uD (cAff x2 p8 c8) zA ?_;intro b6 hb6;have h39:RL bP (cAff x2 p8 c8) ([x2]:List zA):=⟨(cAff x2 p8 c8),_,rfl,rfl,(yK ⟨_,rfl,h20⟩),rfl⟩;refine yC 5 [] [40] rfl<|wL zTwo ?_;intro b7 hb7;refine xH 0 [vS (some ⟨b5,0,none⟩) ([x1]:List zA) 1,vS (some ⟨b6,0,none⟩) ([x2]:List zA) 1] rfl<|yD rfl<|yA<|yE<|yC 1 [] [41] rfl<|tO (zY [4,0,1,2,3,5,6] (ah:=[hB ar (cRd x3 p9 c9),hB b7 [vS (some ⟨b5,0,none⟩) ([x1]:List zA) 1,vS (some ⟨b6,0,none⟩) ([x2]:List zA) 1],hO zA (vS (some ⟨b6,0,none⟩) ([x2]:List zA) 1) (cAff x2 p8 c8),hO zA (vS (some ⟨b5,0,none⟩) ([x1]:List zA) 1) (cAff x1 p7 c7),hB b4 (cAff x2 p8 c8),hB b2 (cAff x1 p7 c7),hB b zTwo])) ?_;obtain ⟨⟨y22,y23⟩,hy11,N⟩:=zB hMc1;refine tM (xN x3 12 _ hy11 h21) rfl ?_;rintro I019 aw v2 k2 le19 - ⟨v016,kk5,rfl,rfl,rfl,h41⟩ -;have ⟨h38,h39,H⟩:=m3 le19 h38 h39 H;obtain ⟨p18,c18,rfl,h42⟩:=zZ h41;refine yD rfl<|xX<|yG [43] rfl<|zI<|rL 4 rfl ?_;intro I020 le20 hl05;have aq:At I020 ⟨b4,0,none⟩ (cAff x2 p8 c8):=At.of_blk hl05;have ⟨h42,h38,h39,H⟩:=m4 le20 h42 h38 h39 H;refine rL 4 rfl ?_;intro I021 le21 hl06;have au:At I021 ⟨b2,0,none⟩ (cAff x1 p7 c7):=At.of_blk hl06;have ⟨h42,h38,h39,H⟩:=m4 le21 h42 h38 h39 H;obtain ⟨o03,ho03,hMc3⟩:=zB N;refine qR (fun I' ah m'=>∃ (Lo:List zA) (Hi:List zA) (x6:zK) (p19:Option Addr) (c19:Nat) (cs6:List Value) (p20:Option Addr) (c20:Nat) (cs7:List Value) (p21:Option Addr) (c21:Nat),o03=(Lo,Hi,x6)/\I021.le I'/\(RL I' cs6 Lo)/\(RL I' cs7 Hi)/\(S4 I' p21 x6.b c21)/\ah=[hB ar (cRd x6 p21 c21),hB b7 [vS p19 Lo c19,vS p20 Hi c20],hO zA (vS p20 Hi c20) cs7,hO zA (vS p19 Lo c19) cs6,hB b zTwo]/\m'=[(4,vP b 0),(8,vP b7 0)]) ?_ ?_
 · have H:=iS I021;refine yF ho03 ?_ ?_
   · intro bG N;obtain ⟨⟨y25,y26⟩,hy12,N⟩:=zB N;obtain ⟨y27,hy13,N⟩:=zB N;obtain ⟨l,hy14,N⟩:=zB N;refine vC [.p (vP b7 1) [],.p (vS (some ⟨b6,0,none⟩) ([x2]:List zA) 1) [0],.p (vP ar 0) [],.x (fun I' v hx=>∃ b8,v=vS (some ⟨b8,0,none⟩) ([3,2,4]:List Int) 3/\hx=[]/\(SL I' (vS (some ⟨b8,0,none⟩) ([3,2,4]:List Int) 3) ([3,2,4]:List Int))),.x (fun I' v hx=>∃ p22 c22,v=vI y25/\hx=[hB ar (cRd y26 p22 c22)]/\(S4 I' p22 y26.b c22)),.x (fun I' v hx=>∃ p23 c23 cs8,v=vA (cAff y27 p23 c23)/\hx=[hO Int (vS p23 y27.Coefs c23) cs8]/\(RL I' cs8 y27.Coefs)),.x (fun I' v hx=>∃ b9,v=vS (some ⟨b9,0,none⟩) ([y27]:List zA) 1/\hx=[]/\(SL I' (vS (some ⟨b9,0,none⟩) ([y27]:List zA) 1) ([y27]:List zA))),.x (fun I' v hx=>∃ p24 c24 cs9,v=vS p24 l c24/\hx=[hO zA (vS p24 l c24) cs9]/\(RL I' cs9 l))] [[],[(0,false)],[],[],[(2,false),(3,false),(10,true)],[(4,false)],[(5,true)],[(1,false),(6,false),(11,true)]] [hB b7 [vS (some ⟨b5,0,none⟩) ([x1]:List zA) 1,vS (some ⟨b6,0,none⟩) ([x2]:List zA) 1],hO zA (vS (some ⟨b5,0,none⟩) ([x1]:List zA) 1) (cAff x1 p7 c7),hB b zTwo] [[hB ar (cRd y23 p18 c18)],[hO zA (vS (some ⟨b6,0,none⟩) ([x2]:List zA) 1) (cAff x2 p8 c8)]] [(4,true),(7,true)] (zY [1,3,4,0,2]) ?_ ?_
     · refine Op<|Op<|Op<|Ox ?_<|Ox ?_<|Ox ?_<|Ox ?_<|Ox ?_<|On
       · intro I1 hf af;refine dC [] ?_;have H:=iS I1;refine nC (rI [3,2,4]) ?_;intro b8 I023 le22 h47;have H:=H.trans le22;exact yQ [] H ⟨_,rfl,rfl,h47⟩
       · rintro I1 hf af _ _ ⟨rfl,rfl⟩ _ _ ⟨b8,rfl,rfl,h47⟩ _ _ rfl;refine yW [47,48] rfl ?_;have H:=iS I1;have h42:=h42.mono af;refine tM (yT y23 ([3,2,4]:List Int) _ hy12 h42 h47) rfl ?_;rintro I024 aw v2 k2 le23 - ⟨v018,kk6,rfl,rfl,rfl,h49⟩ -;have H:=H.trans le23;obtain ⟨p22,c22,rfl,h50⟩:=zZ h49;exact yQ [hB ar (cRd y26 p22 c22)] H ⟨_,_,rfl,rfl,h50⟩
       · rintro I1 hf af _ _ ⟨p22,c22,rfl,rfl,h50⟩;refine yW [49] rfl ?_;have H:=iS I1;refine xM (uJ y25 _ hy13 ) ?_;rintro I025 aw v2 k2 le24 - ⟨p23,c23,cs8,rfl,rfl,h51⟩ -;have H:=H.trans le24;exact yQ [hO Int (vS p23 y27.Coefs c23) cs8] H ⟨_,_,_,rfl,rfl,h51⟩
       · rintro I1 hf af _ _ ⟨p23,c23,cs8,rfl,rfl,h51⟩;refine yW [50] rfl ?_;have H:=iS I1;refine xF 0 rfl ?_;intro I026 le25 hl08;have h52:=SL.of_frozen hl08 le25 h51;have H:=H.trans le25;refine nC (rc y27 (yK ⟨_,rfl,h52⟩) rN) ?_;intro b9 I027 le26 h54;have H:=H.trans le26;exact yQ [] H ⟨_,rfl,rfl,h54⟩
       rintro I1 hf af _ _ ⟨rfl,rfl⟩ _ _ ⟨b9,rfl,rfl,h54⟩ _ _ rfl;refine yW [46,51] rfl ?_;have h39:=iM af h39;obtain ⟨aK,k0,k01⟩:=h54;have h54:SL I1 (vS (some ⟨b9,0,none⟩) ([y27]:List zA) 1) ([y27]:List zA):=⟨_,k0,k01⟩;exact sC 95 2 0 rfl rfl rfl h39 (.inl k0) k01 hy14 fun p24 c24 cs9 h55=>wE (ah:=(hO zA (vS p24 l c24) cs9::hB b7 [vS (some ⟨b5,0,none⟩) ([x1]:List zA) 1,vS (some ⟨b6,0,none⟩) ([x2]:List zA) 1]::hO zA (vS (some ⟨b5,0,none⟩) ([x1]:List zA) 1) (cAff x1 p7 c7)::hB b zTwo::hf)) rfl<|yQ [hO zA (vS p24 l c24) cs9] iR ⟨_,_,_,rfl,rfl,h55⟩
     rintro I028 le27 _ _ ⟨p22,c22,rfl,rfl,h50⟩ _ _ ⟨p24,c24,cs9,rfl,rfl,h55⟩;refine yW [4,8,52] rfl ?_;have ⟨h38,H⟩:=m2 le27 h38 H;exact yC 9 [] [53] rfl<|xH 2 [vS (some ⟨b5,0,none⟩) ([x1]:List zA) 1,vS p24 l c24] rfl<|yD rfl<|xQ (zX [1,2,0,3,4] rfl (by decide))<|yL<|zU ⟨_,_,_,_,_,_,_,_,_,_,_,(zC N).symm,H,h38,h55,h50,rfl,rfl⟩
   intro bG N;refine yG [54] rfl<|zI ?_;obtain ⟨o04,ho04,hMc4⟩:=zB N;refine qR (fun I' ah m'=>∃ (Lo1:List zA) (x7:zK) (p25:Option Addr) (c25:Nat) (cs10:List Value) (p26:Option Addr) (c26:Nat),o04=(Lo1,x7)/\I021.le I'/\(RL I' cs10 Lo1)/\(S4 I' p26 x7.b c26)/\ah=[hB ar (cRd x7 p26 c26),hB b7 [vS p25 Lo1 c25,vS (some ⟨b6,0,none⟩) ([x2]:List zA) 1],hO zA (vS (some ⟨b6,0,none⟩) ([x2]:List zA) 1) (cAff x2 p8 c8),hO zA (vS p25 Lo1 c25) cs10,hB b zTwo]/\m'=[(4,vP b 0),(8,vP b7 0)]) ?_ ?_
   · have H:=iS I021;refine yF ho04 ?_ ?_
     · intro bM N;obtain ⟨⟨y29,y30⟩,hy15,N⟩:=zB N;obtain ⟨y31,hy16,N⟩:=zB N;obtain ⟨l1,hy17,N⟩:=zB N;refine vC [.p (vP b7 0) [],.p (vS (some ⟨b5,0,none⟩) ([x1]:List zA) 1) [0],.p (vP ar 0) [],.x (fun I' v hx=>∃ b10,v=vS (some ⟨b10,0,none⟩) ([0,1]:List Int) 2/\hx=[]/\(SL I' (vS (some ⟨b10,0,none⟩) ([0,1]:List Int) 2) ([0,1]:List Int))),.x (fun I' v hx=>∃ p27 c27,v=vI y29/\hx=[hB ar (cRd y30 p27 c27)]/\(S4 I' p27 y30.b c27)),.x (fun I' v hx=>∃ p28 c28 cs11,v=vA (cAff y31 p28 c28)/\hx=[hO Int (vS p28 y31.Coefs c28) cs11]/\(RL I' cs11 y31.Coefs)),.x (fun I' v hx=>∃ b11,v=vS (some ⟨b11,0,none⟩) ([y31]:List zA) 1/\hx=[]/\(SL I' (vS (some ⟨b11,0,none⟩) ([y31]:List zA) 1) ([y31]:List zA))),.x (fun I' v hx=>∃ p29 c29 cs12,v=vS p29 l1 c29/\hx=[hO zA (vS p29 l1 c29) cs12]/\(RL I' cs12 l1))] [[],[(0,false)],[],[],[(2,false),(3,false),(10,true)],[(4,false)],[(5,true)],[(1,false),(6,false),(11,true)]] [hB b7 [vS (some ⟨b5,0,none⟩) ([x1]:List zA) 1,vS (some ⟨b6,0,none⟩) ([x2]:List zA) 1],hO zA (vS (some ⟨b6,0,none⟩) ([x2]:List zA) 1) (cAff x2 p8 c8),hB b zTwo] [[hB ar (cRd y23 p18 c18)],[hO zA (vS (some ⟨b5,0,none⟩) ([x1]:List zA) 1) (cAff x1 p7 c7)]] [(4,true),(7,true)] (zY [1,2,4,0,3]) ?_ ?_
       · refine Op<|Op<|Op<|Ox ?_<|Ox ?_<|Ox ?_<|Ox ?_<|Ox ?_<|On
         · intro I1 hf af;refine dC [] ?_;have H:=iS I1;refine nC (rI [0,1]) ?_;intro b10 I030 le28 h59;have H:=H.trans le28;exact yQ [] H ⟨_,rfl,rfl,h59⟩
         · rintro I1 hf af _ _ ⟨rfl,rfl⟩ _ _ ⟨b10,rfl,rfl,h59⟩ _ _ rfl;refine yW [58,59] rfl ?_;have H:=iS I1;have h42:=h42.mono af;refine tM (yT y23 ([0,1]:List Int) _ hy15 h42 h59) rfl ?_;rintro I031 aw v2 k2 le29 - ⟨v020,kk7,rfl,rfl,rfl,h61⟩ -;have H:=H.trans le29;obtain ⟨p27,c27,rfl,h62⟩:=zZ h61;exact yQ [hB ar (cRd y30 p27 c27)] H ⟨_,_,rfl,rfl,h62⟩
         · rintro I1 hf af _ _ ⟨p27,c27,rfl,rfl,h62⟩;refine yW [60] rfl ?_;have H:=iS I1;refine xM (uJ y29 _ hy16 ) ?_;rintro I032 aw v2 k2 le30 - ⟨p28,c28,cs11,rfl,rfl,h63⟩ -;have H:=H.trans le30;exact yQ [hO Int (vS p28 y31.Coefs c28) cs11] H ⟨_,_,_,rfl,rfl,h63⟩
         · rintro I1 hf af _ _ ⟨p28,c28,cs11,rfl,rfl,h63⟩;refine yW [61] rfl ?_;have H:=iS I1;refine xF 0 rfl ?_;intro I033 le31 hl011;have h64:=SL.of_frozen hl011 le31 h63;have H:=H.trans le31;refine nC (rc y31 (yK ⟨_,rfl,h64⟩) rN) ?_;intro b11 I034 le32 h66;have H:=H.trans le32;exact yQ [] H ⟨_,rfl,rfl,h66⟩
         rintro I1 hf af _ _ ⟨rfl,rfl⟩ _ _ ⟨b11,rfl,rfl,h66⟩ _ _ rfl;refine yW [57,62] rfl ?_;have h38:=iM af h38;obtain ⟨bx,k02,k03⟩:=h66;have h66:SL I1 (vS (some ⟨b11,0,none⟩) ([y31]:List zA) 1) ([y31]:List zA):=⟨_,k02,k03⟩;exact sC 95 2 0 rfl rfl rfl h38 (.inl k02) k03 hy17 fun p29 c29 cs12 h67=>wE (ah:=(hO zA (vS p29 l1 c29) cs12::hB b7 [vS (some ⟨b5,0,none⟩) ([x1]:List zA) 1,vS (some ⟨b6,0,none⟩) ([x2]:List zA) 1]::hO zA (vS (some ⟨b6,0,none⟩) ([x2]:List zA) 1) (cAff x2 p8 c8)::hB b zTwo::hf)) rfl<|yQ [hO zA (vS p29 l1 c29) cs12] iR ⟨_,_,_,rfl,rfl,h67⟩
       rintro I035 le33 _ _ ⟨p27,c27,rfl,rfl,h62⟩ _ _ ⟨p29,c29,cs12,rfl,rfl,h67⟩;refine yW [4,8,63] rfl ?_;have H:=H.trans le33;exact yC 9 [] [64] rfl<|xH 2 [vS p29 l1 c29,vS (some ⟨b6,0,none⟩) ([x2]:List zA) 1] rfl<|yD rfl<|xQ (zX [1,2,3,0,4] rfl (by decide))<|yL<|zU ⟨_,_,_,_,_,_,_,(zC N).symm,H,h67,h62,rfl,rfl⟩
     intro bM N;exact zT<|yL<|zU ⟨_,_,_,_,_,_,_,(zC N).symm,H,h38,h42,rfl,rfl⟩
   rintro I029 aw m2 ⟨Lo1,x7,p25,c25,cs10,p26,c26,heq3,le34,h56,h57,rfl,rfl⟩;subst o04;have ⟨h39,H⟩:=m2 le34 h39 H;exact yL<|zU ⟨_,_,_,_,_,_,_,_,_,_,_,(zC hMc4).symm,H,h56,h39,h57,rfl,rfl⟩
 rintro I022 aw m2 ⟨Lo,Hi,x6,p19,c19,cs6,p20,c20,cs7,p21,c21,heq4,le35,h43,h44,h45,rfl,rfl⟩;subst o03;refine zP<|yV<|rY 1 [1] [(65,vA [vS p19 Lo c19,vS p20 Hi c20])]<|xH 4 [vS p19 Lo c19,vS p20 Hi c20] rfl<|yD rfl<|xC<|yU 3 rfl ?_;intro I036 le36 hl013;have h68:=SL.of_frozen hl013 le36 h43;have ⟨h45,h44⟩:=m2 le36 h45 h44;refine yU 2 rfl ?_;intro I037 le37 hl014;have h69:=SL.of_frozen hl014 le37 h44;have ⟨h45,h68⟩:=m2 le37 h45 h68;obtain rfl:=zC hMc3;exact xA ⟨_,_,(.cell 2 rfl rfl (by kernel_rfl) ResV.nil),(zX [0] rfl (by decide)),⟨_,_,rfl,rfl,⟨_,rfl,(rM ⟨_,_,rfl,h68,h69⟩)⟩,(yO ⟨_,rfl,h45⟩)⟩⟩
def zFB (b0:Nat) (r:(List zE)×zK):KT:=fun kk I' ah v=>
  ∃ v0 k0,ah=[.blk b0 ⟨k0⟩]/\v=tupV [v0]/\SL I' v0 r.1/\Rp.rep I' k0 r.2
def oC (out:List zE) (i:Int) (x:zK):Option ((List zE×zK)):=do
 if (decide (i>0)) then
  let (y4,y5)<-gZ x (out.length:Int)
  let ap<-app 48 out ([y4]:List zE)
  oC ap (W (i - 1)) y5
 else
  pure (out,x)
 partial_fixpoint
theorem zEG :∀ (out:List zE) (i:Int) (x:zK) (o:(List zE×zK)),oC out i x=some o->∀ {B}{I0 I:Imm}{Q}  {ar:Nat}{p2 c2 cs p3 c3},I0.le I->(RL I cs out)->(S4 I p3 x.b c3)->NG Q->NO Q->(∀ (I':Imm) (aj:List zE) (x1:zK) (p4:Option Addr) (c4:Nat) (ay:List Value) (p5:Option Addr) (c5:Nat),o=(aj,x1)->I0.le I'->(RL I' ay aj)->(S4 I' p5 x1.b c5)->T 21 B Q (.exit 0) I' [hB ar (cRd x1 p5 c5),hO zE (vS p4 aj c4) ay] [(3,vS p4 aj c4)])->J Tryz.prog 21 B (nav (bodyOf f218) [1,1,0,1,0]) Q I [hB ar (cRd x p3 c3),hO zE (vS p2 out c2) cs] [(0,vP ar 0),(3,vS p2 out c2),(4,vI i)]:=by
 refine oC.partial_correctness  _ fun aH ih out i x o N B I0 I Q ar p2 c2 cs p3 c3 H h7 h8 hg ho hx=>yR hg ho<|yB<|yG [10] rfl<|zI<|yF N ?_ ?_
 · intro hc N;refine zT<|yA<|yH<|zM<|yC 4 [] [13,14,16] rfl ?_;obtain ⟨⟨y4,y5⟩,aA,N⟩:=zB N;refine tM (zG1 x (out.length:Int) _ aA h8) rfl ?_;rintro aU aw v2 k2 aC - ⟨v02,kk1,rfl,rfl,⟨aQ,rfl,h11⟩,h12⟩ -;have ⟨h7,H⟩:=m2 aC h7 H;obtain ⟨p6,c6,p7,c7,rfl,h13,h14⟩:=sA h11;obtain ⟨p8,c8,rfl,h15⟩:=zZ h12;refine uD (cLoop y4 p6 c6 p7 c7) zE ?_;intro b2 hb2;have h16:RL aU (cLoop y4 p6 c6 p7 c7) ([y4]:List zE):=⟨(cLoop y4 p6 c6 p7 c7),_,rfl,rfl,(rM ⟨_,_,rfl,h13,h14⟩),rfl⟩;obtain ⟨ap,aJ,N⟩:=zB N;exact sC 141 2 2 rfl rfl rfl h7 (.inr ⟨0,rfl⟩) h16 aJ fun p9 c9 aR h17=>tO (zY [1,2] (ah:=[hB ar (cRd y5 p8 c8),hO zE (vS p9 ap c9) aR]))<|yI [] [3] rfl<|zP<|zI<|zM<|yI [] [4] rfl<|yP<|nN<|ih ap (W (i - 1)) y5 _ N H h17 h15 hg ho hx
 intro hc N;exact wR<|yL<|hx _ _ _ _ _ _ _ _ (zC N).symm H h7 h8
def fA (r0:zK):Option ((List zE)×zK):=do
 let (y1,y2)<-yN r0 ([2,1,2,3]:List Int)
 let (aj,x1)<-oC ([]:List zE) y1 y2
 pure (aj,x1)
theorem zG2:∀ r0 r,fA r0=some r->∀ {I:Imm}{ar:Nat}{p c},(S4 I p r0.b c)->RT 218 [vP ar 0] I [hB ar (cRd r0 p c)] (zFB ar r):=by
 intro r0 r N I ar p c h;unfold fA at N;refine yJ func218 fun B=>vR []<|yV<|uD [] zE ?_;intro b hb;have h1:RL I [] ([]:List zE):=rfl;refine yI [] [3] rfl<|yA<|yE<|yC 1 [] [6] rfl<|nC (rI [2,1,2,3]) ?_;intro b1 I0 le h3;have ⟨h1,h⟩:=m2 le h1 h;refine tO (zY [1,0] (ah:=[hB ar (cRd r0 p c),hO zE (vS (some ⟨b,0,none⟩) ([]:List zE) 0) []])) ?_;obtain ⟨⟨y1,y2⟩,hy,N⟩:=zB N;refine tM (yT r0 ([2,1,2,3]:List Int) _ hy h h3) rfl ?_;rintro aT aw v2 k2 af - ⟨v0,kk,rfl,rfl,rfl,h5⟩ -;have h1:=iM af h1;obtain ⟨p1,c1,rfl,h6⟩:=zZ h5;refine yI [] [4] rfl<|xX<|qP [(0,vP ar 0),(3,vS (some ⟨b,0,none⟩) ([]:List zE) 0),(4,vI y1)] ?_;obtain ⟨o0,aB,aI⟩:=zB N;refine zEG ([]:List zE) y1 y2 o0 aB iR h1 h6 (fun _ _ _ h=>h) (fun _ _ h=>h) ?_;intro bC aj x1 p4 c4 ay p5 c5 heq aD h9 h10;subst o0;refine zS<|vK [2] rfl<|xC<|yU 1 rfl ?_;intro bJ aW hl01;have h18:=SL.of_frozen hl01 aW h9;have h10:=h10.mono aW;obtain rfl:=zC aI;exact xA ⟨_,_,(.tmp rfl ResV.nil),(zX [0] rfl (by decide)),⟨_,_,rfl,rfl,h18,(yO ⟨_,rfl,h10⟩)⟩⟩
def zFC (b0:Nat) (r:zJ×zK):KT:=fun kk I' ah v=>
  ∃ v0 k0,ah=[.blk b0 ⟨k0⟩]/\v=tupV [v0]/\(∃ cs,v0=.agg ⟨cs⟩/\Rp.rep I' cs r.1)/\Rp.rep I' k0 r.2
def oD (aa:Int) (n0:Int) (i:Int) (Subs:List zA) (x:zK):Option ((List zA×zK)):=do
 if (decide (i<n0)) then
  let (y4,y5)<-yN x ([0,1,0,2]:List Int)
  let y6<-wN y4
  let (t32,x2)<-(do
    if (decide (aa>0)) then
     let (y8,y9)<-yX y5 5
     pure ((decide (y8>0)),y9)
    else
     pure (false,y5)
      : Option (Bool×zK))
  let (x3,x4)<-(do
    if t32 then
     let (y11,y12)<-yX x2 aa
     let y13<-nO y11
     let (y15,y16)<-yN y12 ([1,1,1,2,(-1)]:List Int)
     let (y18,y19)<-yN y16 ([0,1,0,0,2]:List Int)
     let y20<-wN y18
     let y21<-nV y13 y15 y20 1
     pure (y21,y19)
    else
     pure ((zA.mk y6.Coefs y6.Const),x2)
      : Option (zA×zK))
  let l<-app 32 Subs ([x3]:List zA)
  oD aa n0 (W (i+1)) l x4
 else
  pure (Subs,x)
 partial_fixpoint
theorem zEH (aa:Int) (n0:Int):∀ (i:Int) (Subs:List zA) (x:zK) (o:(List zA×zK)),oD aa n0 i Subs x=some o->∀ {B}{I0 I:Imm}{Q}{y1:Str}{ar:Nat}{b:Nat}{b2:Nat}{p2 c2 cs p3 c3},I0.le I->(RL I cs Subs)->(S4 I p3 x.b c3)->NG Q->NO Q->(∀ (I':Imm) (Subs1:List zA) (x1:zK) (p4:Option Addr) (c4:Nat) (ay:List Value) (p5:Option Addr) (c5:Nat),o=(Subs1,x1)->I0.le I'->(RL I' ay Subs1)->(S4 I' p5 x1.b c5)->T 53 B Q (.exit 0) I' [hO zA (vS p4 Subs1 c4) ay,hB b2 [vT y1.l,vS p4 Subs1 c4],hB ar (cRd x1 p5 c5),hB b [vT ([]),z0]] [(4,vP b 0),(5,vP b2 0)])->J Tryz.prog 53 B (nav (bodyOf f245) [1,1,1,1,0,1,0]) Q I [hO zA (vS p2 Subs c2) cs,hB b2 [vT y1.l,vS p2 Subs c2],hB ar (cRd x p3 c3),hB b [vT ([]),z0]] [(0,vP ar 0),(1,vI aa),(4,vP b 0),(5,vP b2 0),(6,vI n0),(7,vI i)]:=by
 refine oD.partial_correctness aa n0 _ fun aH ih i Subs x o N B I0 I Q y1 ar b b2 p2 c2 cs p3 c3 H h7 h8 hg ho hx=>yR hg ho<|yB<|yG [19] rfl<|zI<|yF N ?_ ?_
 · intro aE N;refine zT<|yA<|yH<|yE<|yC 1 [] [22] rfl<|nC (rI [0,1,0,2]) ?_;intro b3 bC aD h12;have ⟨h7,h8,H⟩:=m3 aD h7 h8 H;refine tO (zY [2,0,1,3] (ah:=[hB ar (cRd x p3 c3),hO zA (vS p2 Subs c2) cs,hB b2 [vT y1.l,vS p2 Subs c2],hB b [vT ([]),z0]])) ?_;obtain ⟨⟨y4,y5⟩,aA,N⟩:=zB N;refine tM (yT x ([0,1,0,2]:List Int) _ aA h8 h12) rfl ?_;rintro bJ aw v2 k2 aW - ⟨v02,kk1,rfl,rfl,rfl,h14⟩ -;have ⟨h7,H⟩:=m2 aW h7 H;obtain ⟨p6,c6,rfl,h15⟩:=zZ h14;obtain ⟨y6,aJ,N⟩:=zB N;refine xM (uJ y4 _ aJ ) ?_;rintro bN aw v2 k2 bt - ⟨p7,c7,aQ,rfl,rfl,h16⟩ -;have ⟨h15,h7,H⟩:=m3 bt h15 h7 H;refine wL [z0,vI 0] ?_;intro b4 hb4;refine xH 0 (cAff y6 p7 c7) rfl<|yD rfl<|yA<|yB ?_;obtain ⟨aM,az,hMc1⟩:=zB N;refine qR (fun I' ah m'=>∃ (t32:Bool) (x2:zK) (p8:Option Addr) (c8:Nat),aM=(t32,x2)/\bN.le I'/\(S4 I' p8 x2.b c8)/\ah=[hB b4 (cAff y6 p7 c7),hO Int (vS p7 y6.Coefs c7) aQ,hB ar (cRd x2 p8 c8),hO zA (vS p2 Subs c2) cs,hB b2 [vT y1.l,vS p2 Subs c2],hB b [vT ([]),z0]]/\m'=[(0,vP ar 0),(1,vI aa),(4,vP b 0),(5,vP b2 0),(6,vI n0),(7,vI i),(8,vP b4 0),(32,.bool t32)]) ?_ ?_
   · have H:=iS bN;refine zM<|yC 3 [] [28] rfl<|xS [28] az ?_ ?_
     · intro aY N;refine yC 4 [] [29] rfl<|tO (zY [2,0,1,3,4,5] (ah:=[hB ar (cRd y5 p6 c6),hB b4 (cAff y6 p7 c7),hO Int (vS p7 y6.Coefs c7) aQ,hO zA (vS p2 Subs c2) cs,hB b2 [vT y1.l,vS p2 Subs c2],hB b [vT ([]),z0]])) ?_;obtain ⟨⟨y8,y9⟩,bf,N⟩:=zB N;refine tM (xN y5 5 _ bf h15) rfl ?_;rintro I07 aw v2 k2 bv - ⟨v04,kk2,rfl,rfl,rfl,h19⟩ -;have H:=H.trans bv;obtain ⟨p9,c9,rfl,h20⟩:=zZ h19;exact yI [] [32] rfl<|xQ (zX [1,2,0,3,4,5] rfl (by decide))<|yL<|zU ⟨_,_,_,_,(zC N).symm,H,h20,rfl,rfl⟩
     intro aY N;exact wB [] [(32,vF)]<|yL<|zU ⟨_,_,_,_,(zC N).symm,H,h15,rfl,rfl⟩
   rintro I06 aw m2 ⟨t32,x2,p8,c8,heq1,le7,h17,rfl,rfl⟩;subst aM;have ⟨h16,h7,H⟩:=m3 le7 h16 h7 H;refine zI<|rL 1 rfl ?_;intro I08 le8 hl02;have h21:=SL.of_frozen hl02 le8 h16;have ⟨h17,h7,H⟩:=m3 le8 h17 h7 H;obtain ⟨o02,ho02,hMc2⟩:=zB hMc1;refine qR (fun I' ah m'=>∃ (x3:zA) (x4:zK) (aV:Option Addr) (bc:Nat) (aN:Option Addr) (aZ:Nat),o02=(x3,x4)/\I08.le I'/\(S4 I' aV x3.Coefs bc)/\(S4 I' aN x4.b aZ)/\ah=[hB b4 (cAff x3 aV bc),hB ar (cRd x4 aN aZ),hO zA (vS p2 Subs c2) cs,hB b2 [vT y1.l,vS p2 Subs c2],hB b [vT ([]),z0]]/\m'=[(0,vP ar 0),(1,vI aa),(4,vP b 0),(5,vP b2 0),(6,vI n0),(7,vI i),(8,vP b4 0)]) ?_ ?_
   · have H:=iS I08;refine yF ho02 ?_ ?_
     · intro bG N;refine yE<|yC 2 [] [33,34] rfl<|tO (zY [1,0,2,3,4] (ah:=[hB ar (cRd x2 p8 c8),hB b4 (cAff y6 p7 c7),hO zA (vS p2 Subs c2) cs,hB b2 [vT y1.l,vS p2 Subs c2],hB b [vT ([]),z0]])) ?_;obtain ⟨⟨y11,y12⟩,bw,N⟩:=zB N;refine tM (xN x2 aa _ bw h17) rfl ?_;rintro bP aw v2 k2 le9 - ⟨v06,kk3,rfl,rfl,rfl,h25⟩ -;have H:=H.trans le9;obtain ⟨bB,bk,rfl,h26⟩:=zZ h25;refine yI [] [9] rfl<|zI<|zM<|yC 1 [] [36] rfl<|bE N fun y13 bH N=>xM (gU y11 _ bH ) ?_;rintro bV aw v2 k2 le10 - ⟨v08,rfl,rfl,⟨aR,rfl,h27⟩⟩ -;have ⟨h26,H⟩:=m2 le10 h26 H;obtain ⟨bj,bo,rfl,h28⟩:=yM h27;refine yC 3 [] [38] rfl<|nC (rI [1,1,1,2,(-1)]) ?_;intro b5 bW le11 h30;have ⟨h28,h26,H⟩:=m3 le11 h28 h26 H;obtain ⟨⟨y15,y16⟩,hy6,N⟩:=zB N;refine tM (yT y12 ([1,1,1,2,(-1)]:List Int) _ hy6 h26 h30) rfl ?_;rintro I013 aw v2 k2 le12 - ⟨v010,kk4,rfl,rfl,rfl,h32⟩ -;have ⟨h28,H⟩:=m2 le12 h28 H;obtain ⟨p14,c14,rfl,h33⟩:=zZ h32;refine yC 6 [] [41] rfl<|nC (rI [0,1,0,0,2]) ?_;intro b6 I014 le13 h35;have ⟨h28,h33,H⟩:=m3 le13 h28 h33 H;obtain ⟨⟨y18,y19⟩,hy7,N⟩:=zB N;refine tM (yT y16 ([0,1,0,0,2]:List Int) _ hy7 h33 h35) rfl ?_;rintro I015 aw v2 k2 le14 - ⟨v012,kk5,rfl,rfl,rfl,h37⟩ -;have ⟨h28,H⟩:=m2 le14 h28 H;obtain ⟨p15,c15,rfl,h38⟩:=zZ h37;obtain ⟨y20,hy8,N⟩:=zB N;refine xM (uJ y18 _ hy8 ) ?_;rintro I016 aw v2 k2 le15 - ⟨p16,c16,bz,rfl,rfl,h39⟩ -;have ⟨h28,h38,H⟩:=m3 le15 h28 h38 H;refine xF 0 rfl ?_;intro I017 le16 hl05;have h40:=SL.of_frozen hl05 le16 h39;have ⟨h28,h38,H⟩:=m3 le16 h28 h38 H;obtain ⟨y21,hy9,N⟩:=zB N;refine xM (zA6 y13 y15 y20 1 _ hy9 h28 h40) ?_;rintro I018 aw v2 k2 le17 - ⟨v014,rfl,rfl,⟨bD,rfl,h41⟩⟩ -;have ⟨h38,H⟩:=m2 le17 h38 H;obtain ⟨p17,c17,rfl,h42⟩:=yM h41;exact xH 1 (cAff y21 p17 c17) rfl<|yD rfl<|xQ (zX [1,0,2,3,4] rfl (by decide))<|yL<|zU ⟨_,_,_,_,_,_,(zC N).symm,H,h42,h38,rfl,rfl⟩
     intro bG N;exact zT<|yL<|zU ⟨_,_,_,_,_,_,(zC N).symm,H,h21,h17,rfl,rfl⟩
   rintro I09 aw m2 ⟨x3,x4,aV,bc,aN,aZ,heq2,le18,h22,h23,rfl,rfl⟩;subst o02;have ⟨h7,H⟩:=m2 le18 h7 H;refine zI<|zM<|rY 3 [3,0] [(47,vS p2 Subs c2),(48,vA (cAff x3 aV bc))]<|uD (cAff x3 aV bc) zA ?_;intro b7 hb7;have h43:RL I09 (cAff x3 aV bc) ([x3]:List zA):=⟨(cAff x3 aV bc),_,rfl,rfl,(yK ⟨_,rfl,h22⟩),rfl⟩;obtain ⟨l,hy10,N⟩:=zB hMc2;refine sC 95 2 3 rfl rfl rfl h7 (.inr ⟨0,rfl⟩) h43 hy10 ?_;intro p18 c18 cs6 h44;exact tO (zY [1,2,3,4,5] (ah:=[hB b4 (cAff x3 aV bc),hB ar (cRd x4 aN aZ),hO zA (vS p18 l c18) cs6,hB b2 [vT y1.l,vS p2 Subs c2],hB b [vT ([]),z0]]))<|yC 6 [] [51] rfl<|xH 3 [vT y1.l,vS p18 l c18] rfl<|yD rfl<|zP<|zI<|zM<|yI [] [7] rfl<|yP<|nX (zX [2,3,1,4] rfl (by decide))<|nN<|ih (W (i+1)) l x4 _ N H h44 h23 hg ho hx
 intro aE N;exact wR<|yL<|hx _ _ _ _ _ _ _ _ (zC N).symm H h7 h8
def mY (r0:zK) (aa:Int):Option (zJ×zK):=do
 let (y1,y2)<-pH r0 ([(⟨[65]⟩:Str),(⟨[66]⟩:Str),(⟨[65]⟩:Str),(⟨[67]⟩:Str)]:List Str)
 let n0<-(do
   if (y1.l==([66]:List UInt8)) then
    pure (id 2)
   else
    pure (id 1)
     : Option Int)
 let (Subs1,x1)<-oD aa n0 0 ([]:List zA) y2
 pure ((zJ.mk y1 Subs1),x1)
theorem zCI:∀ r0 aa r,mY r0 aa=some r->∀ {I:Imm}{ar:Nat}{p c},(S4 I p r0.b c)->RT 245 [vP ar 0,vI aa] I [hB ar (cRd r0 p c)] (zFC ar r):=by
 intro r0 aa r N I ar p c h;unfold mY at N;refine yJ func245 fun B=>?_;have H:=iS I;refine yE<|wL [vT ([]),z0] ?_;intro b hb;refine yD rfl<|yV<|yC 1 [] [10] rfl<|nC (rT [(⟨[65]⟩:Str),(⟨[66]⟩:Str),(⟨[65]⟩:Str),(⟨[67]⟩:Str)]) ?_;intro b1 I0 le h2;have ⟨h,H⟩:=m2 le h H;refine tO (zY [1,0] (ah:=[hB ar (cRd r0 p c),hB b [vT ([]),z0]])) ?_;obtain ⟨⟨y1,y2⟩,hy,N⟩:=zB N;refine tM (gO r0 ([(⟨[65]⟩:Str),(⟨[66]⟩:Str),(⟨[65]⟩:Str),(⟨[67]⟩:Str)]:List Str) _ hy h h2) rfl ?_;rintro aT aw v2 k2 af - ⟨v0,kk,rfl,rfl,rfl,h4⟩ -;have H:=H.trans af;obtain ⟨p1,c1,rfl,h5⟩:=zZ h4;refine yC 4 [] [13] rfl<|wL [vT ([]),z0] ?_;intro b2 hb2;refine xH 0 [vT y1.l,z0] rfl<|yD rfl<|vK [6] rfl<|yA<|yE<|yI [0] [16] rfl<|zI ?_;refine wS N [hB b2 [vT y1.l,z0],hB ar (cRd y2 p1 c1),hB b [vT ([]),z0]] (fun n0=>[(0,vP ar 0),(1,vI aa),(4,vP b 0),(5,vP b2 0),(6,vI n0)]) (fun o0 aB=>?_) ?_
 · have H:=iS aT;refine yF aB ?_ ?_
   · intro hc N;exact zM<|yI [] [6] rfl<|yL<|zU (ct N H)
   intro hc N;exact zT<|yL<|zU (ct N H)
 intro n0 aU aC aS;have h5:=h5.mono aC;refine yA<|yG [7] rfl<|xX<|qP [(0,vP ar 0),(1,vI aa),(4,vP b 0),(5,vP b2 0),(6,vI n0),(7,vI 0)]<|dR zA fun h6=>?_;obtain ⟨o03,ho03,aI⟩:=zB aS;refine zEH aa n0 0 ([]:List zA) y2 o03 ho03 iR h6 h5 (fun _ _ _ h=>h) (fun _ _ h=>h) ?_;intro I019 Subs1 x1 p4 c4 ay p5 c5 heq3 le19 h9 h10;subst o03;refine zS<|yV<|rY 1 [1] [(52,vA [vT y1.l,vS p4 Subs1 c4])]<|xH 3 [vT y1.l,vS p4 Subs1 c4] rfl<|yD rfl<|xC<|yU 0 rfl ?_;intro I020 le20 hl06;have h45:=SL.of_frozen hl06 le20 h9;have h10:=h10.mono le20;obtain rfl:=zC aI;exact xA ⟨_,_,(.cell 2 rfl rfl (by kernel_rfl) ResV.nil),(zX [1] rfl (by decide)),⟨_,_,rfl,rfl,⟨_,rfl,(nT ⟨_,rfl,h45⟩)⟩,(yO ⟨_,rfl,h10⟩)⟩⟩
def zFD (b0:Nat) (r:zA×zK):KT:=fun kk I' ah v=>
  ∃ v0 k0,ah=[.blk b0 ⟨k0⟩]/\v=tupV [v0]/\(∃ cs,v0=.agg ⟨cs⟩/\Rp.rep I' cs r.1)/\Rp.rep I' k0 r.2
def oE (aa:Int) (i:Int) (Coefs:List Int) (x:zK):Option ((List Int×zK)):=do
 if (decide (i<aa)) then
  let (y5,y6)<-yN x ([0,1,0,(-1),2,0,9]:List Int)
  let x2<-idx Coefs i
  let l<-pure (Coefs.set i.toNat y5)
  oE aa (W (i+1)) l y6
 else
  pure (Coefs,x)
 partial_fixpoint
theorem zEI (aa:Int):∀ (i:Int) (Coefs:List Int) (x:zK) (o:(List Int×zK)),oE aa i Coefs x=some o->∀ {B}{I0 I:Imm}{Q}{y3:zA}{ar:Nat}{b:Nat}{b2:Nat}{p3 c3 ay p4 c4},I0.le I->(RL I ay Coefs)->(S4 I p4 x.b c4)->NG Q->NO Q->(∀ (I':Imm) (Coefs1:List Int) (x1:zK) (p5:Option Addr) (c5:Nat) (aQ:List Value) (p6:Option Addr) (c6:Nat),o=(Coefs1,x1)->I0.le I'->(RL I' aQ Coefs1)->(S4 I' p6 x1.b c6)->T 24 B Q (.exit 0) I' [hB b2 [vS p5 Coefs1 c5,vI y3.Const],hO Int (vS p5 Coefs1 c5) aQ,hB ar (cRd x1 p6 c6),hB b [z0,vI 0]] [(4,vP b 0),(5,vP b2 0)])->J Tryz.prog 24 B (nav (bodyOf f265) [1,1,0,1,0]) Q I [hB b2 [vS p3 Coefs c3,vI y3.Const],hO Int (vS p3 Coefs c3) ay,hB ar (cRd x p4 c4),hB b [z0,vI 0]] [(0,vP ar 0),(1,vI aa),(4,vP b 0),(5,vP b2 0),(6,vI i)]:=by
 refine oE.partial_correctness aa _ fun aH ih i Coefs x o N B I0 I Q y3 ar b b2 p3 c3 ay p4 c4 H h7 h8 hg ho hx=>yR hg ho<|yB<|yG [13] rfl<|zI<|yF N ?_ ?_
 · intro hc N;refine zT<|yA<|yH ?_;obtain ⟨⟨y5,y6⟩,aJ,N⟩:=zB N;refine vC [.p (vP b2 0) [],.p (vS p3 Coefs c3) [0],.p (vI i) [],.p (vP ar 0) [],.x (fun I' v hx=>∃ b3,v=vS (some ⟨b3,0,none⟩) ([0,1,0,(-1),2,0,9]:List Int) 7/\hx=[]/\(SL I' (vS (some ⟨b3,0,none⟩) ([0,1,0,(-1),2,0,9]:List Int) 7) ([0,1,0,(-1),2,0,9]:List Int))),.x (fun I' v hx=>∃ p7 c7,v=vI y5/\hx=[hB ar (cRd y6 p7 c7)]/\(S4 I' p7 y6.b c7))] [[],[(0,false)],[],[],[],[(3,false),(4,false),(8,true)]] [hB b2 [vS p3 Coefs c3,vI y3.Const],hO Int (vS p3 Coefs c3) ay,hB b [z0,vI 0]] [[hB ar (cRd x p4 c4)]] [(1,false),(2,false),(5,true)] (zY [0,1,3,2]) ?_ ?_
   · refine Op<|Op<|Op<|Op<|Ox ?_<|Ox ?_<|On
     · intro I1 hf af;refine dC [] ?_;have H:=iS I1;refine nC (rI [0,1,0,(-1),2,0,9]) ?_;intro b3 bC aD h12;have H:=H.trans aD;exact yQ [] H ⟨_,rfl,rfl,h12⟩
     rintro I1 hf af _ _ ⟨rfl,rfl⟩ _ _ ⟨b3,rfl,rfl,h12⟩ _ _ rfl;refine yW [19,20] rfl ?_;have H:=iS I1;have h8:=h8.mono af;refine tM (yT x ([0,1,0,(-1),2,0,9]:List Int) _ aJ h8 h12) rfl ?_;rintro bJ aw v2 k2 aW - ⟨v02,kk1,rfl,rfl,rfl,h14⟩ -;have H:=H.trans aW;obtain ⟨p7,c7,rfl,h15⟩:=zZ h14;exact yQ [hB ar (cRd y6 p7 c7)] H ⟨_,_,rfl,rfl,h15⟩
   rintro bN bt _ _ ⟨rfl,rfl⟩ _ _ ⟨rfl,rfl⟩ _ _ ⟨p7,c7,rfl,rfl,h15⟩;refine yW [0,1,4,5,6,17,18,21] rfl ?_;have ⟨h7,H⟩:=m2 bt h7 H;obtain ⟨x2,bf,N⟩:=zB N;refine nY 2 rfl rfl rfl h7 bf ?_;intro ad aK aq bL al;obtain rfl:=al;obtain ⟨l,bw,N⟩:=zB N;refine qB (c:=[vI y5]) (x':=y5) 2 0 rfl rfl rfl aq rfl rfl bL (by kernel_rfl) (by kernel_rfl) (by kernel_rfl) h7 bf (by kernel_rfl) rfl ?_;rw [show Coefs.set i.toNat y5=l from zC bw];intro aR h16 hl02;exact fT (m':=[(0,vP ar 0),(1,vI aa),(4,vP b 0),(5,vP b2 0),(6,vI i),(17,vS p3 Coefs c3),(18,vI i),(21,vI y5)]) ⟨rfl,rfl,rfl,rfl,rfl,rfl,rfl,rfl,trivial⟩<|zEf (ah:=[hB ar (cRd y6 p7 c7),hB b2 [vS p3 l c3,vI y3.Const],hO Int (vS p3 l c3) aR,hB b [z0,vI 0]]) (m':=[(0,vP ar 0),(1,vI aa),(4,vP b 0),(5,vP b2 0),(6,vI i),(17,vS p3 l c3),(18,vI i),(21,vI y5)]) (by first | rfl | simp only [vS,hl02,cv,d6,ep,d8,dy,dz]) (by first | rfl | simp only [vS,hl02])<|yD rfl<|zP<|zI<|zM<|yI [] [6] rfl<|yP<|nX (zX [1,2,0,3] rfl (by decide))<|nN<|ih (W (i+1)) l y6 _ N H h16 h15 hg ho hx
 intro hc N;exact wR<|yL<|hx _ _ _ _ _ _ _ _ (zC N).symm H h7 h8
def jR (r0:zK) (aa:Int):Option (zA×zK):=do
 let (y1,y2)<-yN r0 ([0,1,(-1),2,0,5,(-9),99]:List Int)
 let y3<-wN y1
 let (Coefs1,x1)<-oE aa 0 y3.Coefs y2
 pure ((zA.mk Coefs1 y3.Const),x1)
theorem zG3:∀ r0 aa r,jR r0 aa=some r->∀ {I:Imm}{ar:Nat}{p c},(S4 I p r0.b c)->RT 265 [vP ar 0,vI aa] I [hB ar (cRd r0 p c)] (zFD ar r):=by
 intro r0 aa r N I ar p c h;unfold jR at N;refine yJ func265 fun B=>yE<|wL [z0,vI 0] ?_;intro b hb;refine yD rfl<|yV<|yC 1 [] [7] rfl<|nC (rI [0,1,(-1),2,0,5,(-9),99]) ?_;intro b1 I0 le h2;have h:=h.mono le;refine tO (zY [1,0] (ah:=[hB ar (cRd r0 p c),hB b [z0,vI 0]])) ?_;obtain ⟨⟨y1,y2⟩,hy,N⟩:=zB N;refine tM (yT r0 ([0,1,(-1),2,0,5,(-9),99]:List Int) _ hy h h2) rfl ?_;rintro aT aw v2 k2 af - ⟨v0,kk,rfl,rfl,rfl,h4⟩ -;obtain ⟨p1,c1,rfl,h5⟩:=zZ h4;obtain ⟨y3,aA,N⟩:=zB N;refine xM (uJ y1 _ aA ) ?_;rintro aU aw v2 k2 aC - ⟨p2,c2,cs,rfl,rfl,h6⟩ -;have h5:=h5.mono aC;refine wL [z0,vI 0] ?_;intro b2 hb2;refine xH 0 (cAff y3 p2 c2) rfl<|yD rfl<|yA<|yG [6] rfl<|xX<|qP [(0,vP ar 0),(1,vI aa),(4,vP b 0),(5,vP b2 0),(6,vI 0)] ?_;obtain ⟨o0,aB,aI⟩:=zB N;refine zEI aa 0 y3.Coefs y2 o0 aB iR h6 h5 (fun _ _ _ h=>h) (fun _ _ h=>h) ?_;intro I06 Coefs1 x1 p5 c5 aQ p6 c6 heq bv h9 h10;subst o0;refine zS<|yV<|rY 1 [0] [(23,vA [vS p5 Coefs1 c5,vI y3.Const])]<|xH 3 [vS p5 Coefs1 c5,vI y3.Const] rfl<|yD rfl<|xC<|yU 1 rfl ?_;intro I07 le7 hl03;have h17:=SL.of_frozen hl03 le7 h9;have h10:=h10.mono le7;obtain rfl:=zC aI;exact xA ⟨_,_,(.cell 2 rfl rfl (by kernel_rfl) ResV.nil),(zX [1] rfl (by decide)),⟨_,_,rfl,rfl,⟨_,rfl,(yK ⟨_,rfl,h17⟩)⟩,(yO ⟨_,rfl,h10⟩)⟩⟩
def zA7 (b0:Nat) (r:zG×zK):KT:=fun kk I' ah v=>
  ∃ v0 k0,ah=[.blk b0 ⟨k0⟩]/\v=tupV [v0]/\(∃ cs,v0=.agg ⟨cs⟩/\Rp.rep I' cs r.1)/\Rp.rep I' k0 r.2
mutual
def pA (r0:zK) (aa:Int) (ai:Int):Option (zG×zK):=do
 let (t15,x)<-(do
   if (decide (ai<2)) then
    pure (true,r0)
   else
    let (y1,y2)<-yX r0 4
    pure ((y1==0),y2)
     : Option (Bool×zK))
 if t15 then
  let (y4,y5)<-yX x 4
  if (y4==0) then
   let (y7,y8)<-yN y5 ([1,2,0,99,3]:List Int)
   pure ((zG.mk 1 y7 (zA.mk ([]:List Int) 0) (zJ.mk (⟨[]⟩:Str) ([]:List zA)) ([]:List zG)),y8)
  else
   if (y4==1) then
    let (y10,y11)<-jR y5 aa
    pure ((zG.mk 2 0 y10 (zJ.mk (⟨[]⟩:Str) ([]:List zA)) ([]:List zG)),y11)
   else
    let (y13,y14)<-mY y5 aa
    pure ((zG.mk 3 0 (zA.mk ([]:List Int) 0) y13 ([]:List zG)),y14)
 else
  let (y16,y17)<-yN x ([4,6,5,4]:List Int)
  let (Kids1,x2)<-oZ (same aa) (same ai) (same 0) ([]:List zG) (same y17)
  pure ((zG.mk y16 0 (zA.mk ([]:List Int) 0) (zJ.mk (⟨[]⟩:Str) ([]:List zA)) Kids1),x2)
 partial_fixpoint
def oZ (aa:Int) (ai:Int) (i:Int) (Kids:List zG) (x1:zK):Option ((List zG×zK)):=do
 if (decide (i<2)) then
  let (y19,y20)<-pA (same x1) (same aa) (W (ai - 1))
  let l<-app 112 Kids ([y19]:List zG)
  oZ (same aa) (same ai) (W (i+1)) (same l) (same y20)
 else
  pure (Kids,x1)
 partial_fixpoint
end
theorem zFE:(∀ (r0:zK) (aa:Int) (ai:Int) r,pA r0 aa ai=some r->∀ {I:Imm}{ar:Nat}{p c},(S4 I p r0.b c)->RT 246 [vP ar 0,vI aa,vI ai] I [hB ar (cRd r0 p c)] (zA7 ar r))/\(∀ (aa:Int) (ai:Int) (i:Int) (Kids:List zG) (x1:zK) o,oZ aa ai i Kids x1=some o->∀ {B}{I0 I:Imm}{Q}{y16:Int}{ar:Nat}{b:Nat}{b3:Nat}{aV bc aQ aN aZ},I0.le I->(RL I aQ Kids)->(S4 I aN x1.b aZ)->NG Q->NO Q->(∀ (I':Imm) (Kids1:List zG) (x2:zK) (bB:Option Addr) (bk:Nat) (aR:List Value) (bj:Option Addr) (bo:Nat),o=(Kids1,x2)->I0.le I'->(RL I' aR Kids1)->(S4 I' bj x2.b bo)->T 53 B Q (.exit 1) I' [hO zG (vS bB Kids1 bk) aR,hB b3 [vI y16,vI 0,z0,vI 0,vT ([]),z0,vS bB Kids1 bk],hB ar (cRd x2 bj bo),hB b zExpr] [(6,vP b 0),(7,vP b3 0)])->J Tryz.prog 53 B (nav (bodyOf f246) [1,1,1,0,1,0]) Q I [hO zG (vS aV Kids bc) aQ,hB b3 [vI y16,vI 0,z0,vI 0,vT ([]),z0,vS aV Kids bc],hB ar (cRd x1 aN aZ),hB b zExpr] [(0,vP ar 0),(1,vI aa),(2,vI ai),(6,vP b 0),(7,vP b3 0),(8,vI i)]):=by
  refine pA.mutual_partial_correctness _ _ ?_ ?_
  · intro F_spec_l3Value_l1 ih_spec_l3Value_l1 r0 aa ai r N I ar p c h;refine yJ func246 fun B=>?_;have H:=iS I;refine yE<|wL zExpr ?_;intro b hb;refine yD rfl<|yA<|yB ?_;obtain ⟨o0,aB,aS⟩:=zB N;refine qR (fun I' ah m'=>∃ (t15:Bool) (x:zK) (p1:Option Addr) (c1:Nat),o0=(t15,x)/\I.le I'/\(S4 I' p1 x.b c1)/\ah=[hB b zExpr,hB ar (cRd x p1 c1)]/\m'=[(0,vP ar 0),(1,vI aa),(2,vI ai),(6,vP b 0),(15,.bool t15)]) ?_ ?_
    · have H:=iS I;refine zM<|yC 3 [] [11] rfl<|xS [11] aB ?_ ?_
      · intro hc N;exact wB [] [(15,vY)]<|yL<|zU ⟨_,_,_,_,(zC N).symm,H,h,rfl,rfl⟩
      intro hc N;refine yC 4 [] [12] rfl<|tO (zY [1,0] (ah:=[hB ar (cRd r0 p c),hB b zExpr])) ?_;obtain ⟨⟨y1,y2⟩,hy,N⟩:=zB N;refine tM (xN r0 4 _ hy h) rfl ?_;rintro aT aw v2 k2 le - ⟨v0,kk,rfl,rfl,rfl,h3⟩ -;have H:=H.trans le;obtain ⟨p2,c2,rfl,h4⟩:=zZ h3;exact yI [] [15] rfl<|xQ (zX [1,0] rfl (by decide))<|yL<|zU ⟨_,_,_,_,(zC N).symm,H,h4,rfl,rfl⟩
    rintro I0 aw m2 ⟨t15,x,p1,c1,heq,af,h1,rfl,rfl⟩;subst o0;refine zI<|yF aS ?_ ?_
    · intro aE N;refine yB<|yE<|yC 1 [] [16] rfl<|tO (zY [1,0] (ah:=[hB ar (cRd x p1 c1),hB b zExpr])) ?_;obtain ⟨⟨y4,y5⟩,aA,N⟩:=zB N;refine tM (xN x 4 _ aA h1) rfl ?_;rintro aU aw v2 k2 aC - ⟨v02,kk1,rfl,rfl,rfl,h6⟩ -;obtain ⟨p3,c3,rfl,h7⟩:=zZ h6;refine yD rfl<|xX<|yG [18] rfl<|zI<|yF N ?_ ?_
      · intro aY N;refine yE<|yC 1 [] [20] rfl<|nC (rI [1,2,0,99,3]) ?_;intro b1 bC aD h9;have h7:=h7.mono aD;obtain ⟨⟨y7,y8⟩,aJ,N⟩:=zB N;refine tM (yT y5 ([1,2,0,99,3]:List Int) _ aJ h7 h9) rfl ?_;rintro bJ aw v2 k2 aW - ⟨v04,kk2,rfl,rfl,rfl,h11⟩ -;obtain ⟨p4,c4,rfl,h12⟩:=zZ h11;refine yC 4 [] [23] rfl<|xH 1 [vI 1,vI y7,z0,vI 0,vT ([]),z0,z0] rfl<|yD rfl<|xC<|zW<|zH<|zH ?_;obtain rfl:=zC N;exact xA ⟨_,_,(.cell 1 rfl rfl (by kernel_rfl) ResV.nil),(zX [0] rfl (by decide)),⟨_,_,rfl,rfl,⟨_,rfl,(xT ⟨_,_,_,rfl,(SL.nil _),(SL.nil _),(SL.nil _)⟩)⟩,(yO ⟨_,rfl,h12⟩)⟩⟩
      intro aY N;refine yG [24] rfl<|zI<|yF N ?_ ?_
      · intro bG N;refine yE<|yC 2 [] [26,27] rfl ?_;obtain ⟨⟨y10,y11⟩,bf,N⟩:=zB N;refine tM (zG3 y5 aa _ bf h7) rfl ?_;rintro bN aw v2 k2 bt - ⟨v06,kk3,rfl,rfl,⟨cs,rfl,h13⟩,h14⟩ -;obtain ⟨p5,c5,rfl,h15⟩:=yM h13;obtain ⟨p6,c6,rfl,h16⟩:=zZ h14;refine yC 4 [] [29] rfl<|xH 1 [vI 2,vI 0,vS p5 y10.Coefs c5,vI y10.Const,vT ([]),z0,z0] rfl<|yD rfl<|xC<|zW<|zH<|zH ?_;obtain rfl:=zC N;exact xA ⟨_,_,(.cell 1 rfl rfl (by kernel_rfl) ResV.nil),(zX [0] rfl (by decide)),⟨_,_,rfl,rfl,⟨_,rfl,(xT ⟨_,_,_,rfl,h15,(SL.nil _),(SL.nil _)⟩)⟩,(yO ⟨_,rfl,h16⟩)⟩⟩
      intro bG N;refine zT<|zP<|yV<|yC 2 [] [30,31] rfl ?_;obtain ⟨⟨y13,y14⟩,bw,N⟩:=zB N;refine tM (zCI y5 aa _ bw h7) rfl ?_;rintro I06 aw v2 k2 bv - ⟨v09,kk4,rfl,rfl,⟨ay,rfl,h17⟩,h18⟩ -;obtain ⟨p7,c7,rfl,h19⟩:=oT h17;obtain ⟨p8,c8,rfl,h20⟩:=zZ h18;refine yC 4 [] [33] rfl<|xH 1 [vI 3,vI 0,z0,vI 0,vT y13.Array.l,vS p7 y13.Subs c7,z0] rfl<|yD rfl<|xC<|zH ?_;obtain rfl:=zC N;exact xA ⟨_,_,(.cell 1 rfl rfl (by kernel_rfl) ResV.nil),(zX [0] rfl (by decide)),⟨_,_,rfl,rfl,⟨_,rfl,(xT ⟨_,_,_,rfl,(SL.nil _),h19,(SL.nil _)⟩)⟩,(yO ⟨_,rfl,h20⟩)⟩⟩
    intro aE N;refine zT<|yV<|yC 1 [] [34] rfl<|nC (rI [4,6,5,4]) ?_;intro b2 I07 le7 h22;have h1:=h1.mono le7;refine tO (zY [1,0] (ah:=[hB ar (cRd x p1 c1),hB b zExpr])) ?_;obtain ⟨⟨y16,y17⟩,bH,N⟩:=zB N;refine tM (yT x ([4,6,5,4]:List Int) _ bH h1 h22) rfl ?_;rintro I08 aw v2 k2 le8 - ⟨v012,kk5,rfl,rfl,rfl,h24⟩ -;obtain ⟨p9,c9,rfl,h25⟩:=zZ h24;refine yC 4 [] [37] rfl<|wL zExpr ?_;intro b3 hb3;refine xH 0 [vI y16,vI 0,z0,vI 0,vT ([]),z0,z0] rfl<|yD rfl<|yA<|yG [8] rfl<|xX<|qP [(0,vP ar 0),(1,vI aa),(2,vI ai),(6,vP b 0),(7,vP b3 0),(8,vI 0)]<|dR zG fun h26=>?_;obtain ⟨aM,az,aI⟩:=zB N;refine ih_spec_l3Value_l1 aa ai 0 ([]:List zG) y17 aM az iR h26 h25 (fun _ _ _ h=>h) (fun _ _ h=>h) ?_;intro bW Kids1 x2 bB bk aR bj bo heq1 le12 h29 h30;subst aM;refine zS<|yV<|rY 1 [1] [(52,vA [vI y16,vI 0,z0,vI 0,vT ([]),z0,vS bB Kids1 bk])]<|xH 3 [vI y16,vI 0,z0,vI 0,vT ([]),z0,vS bB Kids1 bk] rfl<|yD rfl<|xC<|yU 0 rfl ?_;intro I013 le13 hl03;have h40:=SL.of_frozen hl03 le13 h29;have h30:=h30.mono le13;obtain rfl:=zC aI;exact xA ⟨_,_,(.cell 2 rfl rfl (by kernel_rfl) ResV.nil),(zX [1] rfl (by decide)),⟨_,_,rfl,rfl,⟨_,rfl,(xT ⟨_,_,_,rfl,(SL.nil _),(SL.nil _),h40⟩)⟩,(yO ⟨_,rfl,h30⟩)⟩⟩
  intro F_spec_l3Value F_spec_l3Value_l1 ih_spec_l3Value ih_spec_l3Value_l1 aa ai i Kids x1 o N B I0 I Q y16 ar b b3 aV bc aQ aN aZ H h27 h28 hg ho hx;refine yR hg ho<|yB<|yG [39] rfl<|zI<|yF N ?_ ?_
  · intro bM N;refine zT<|yA<|yH ?_;obtain ⟨⟨y19,y20⟩,hy6,N⟩:=zB N;obtain ⟨l,hy7,N⟩:=zB N;refine vC [.p (vP b3 6) [],.p (vS aV Kids bc) [0],.p (vP ar 0) [],.p (vI aa) [],.p (vI ai) [],.p (vI (W (ai - 1))) [],.x (fun I' v hx=>∃ p14 c14 p15 c15 p16 c16 p17 c17,v=vA (cExpr y19 p14 c14 p15 c15 p16 c16)/\hx=[hB ar (cRd y20 p17 c17)]/\(S4 I' p14 y19.Index.Coefs c14)/\(S4 I' p15 y19.Read.Subs c15)/\(S4 I' p16 y19.Kids c16)/\(S4 I' p17 y20.b c17)),.x (fun I' v hx=>∃ b4,v=vS (some ⟨b4,0,none⟩) ([y19]:List zG) 1/\hx=[]/\(SL I' (vS (some ⟨b4,0,none⟩) ([y19]:List zG) 1) ([y19]:List zG))),.x (fun I' v hx=>∃ p18 c18 bD,v=vS p18 l c18/\hx=[hO zG (vS p18 l c18) bD]/\(RL I' bD l))] [[],[(0,false)],[],[],[],[(4,false)],[(2,false),(3,false),(5,false),(11,true)],[(6,false)],[(1,false),(7,false),(12,true)]] [hB b3 [vI y16,vI 0,z0,vI 0,vT ([]),z0,vS aV Kids bc],hB b zExpr] [[hB ar (cRd x1 aN aZ)],[hO zG (vS aV Kids bc) aQ]] [(6,true),(8,true)] (zY [1,3,2,0]) ?_ ?_
    · refine Op<|Op<|Op<|Op<|Op<|Op<|Ox ?_<|Ox ?_<|Ox ?_<|On
      · rintro I1 hf af _ _ ⟨rfl,rfl⟩ _ _ ⟨rfl,rfl⟩ _ _ ⟨rfl,rfl⟩ _ _ rfl;refine yW [44,45,47] rfl ?_;have H:=iS I1;have h28:=h28.mono af;refine tM (ih_spec_l3Value x1 aa (W (ai - 1)) _ hy6 h28) rfl ?_;rintro I09 aw v2 k2 le9 - ⟨v014,kk6,rfl,rfl,⟨bz,rfl,h31⟩,h32⟩ -;have H:=H.trans le9;obtain ⟨p14,c14,p15,c15,p16,c16,rfl,h33,h34,h35⟩:=tH h31;obtain ⟨p17,c17,rfl,h36⟩:=zZ h32;exact yQ [hB ar (cRd y20 p17 c17)] H ⟨_,_,_,_,_,_,_,_,rfl,rfl,h33,h34,h35,h36⟩
      · rintro I1 hf af _ _ ⟨p14,c14,p15,c15,p16,c16,p17,c17,rfl,rfl,h33,h34,h35,h36⟩;refine yW [48] rfl ?_;have H:=iS I1;refine nC (rc y19 (xT ⟨_,_,_,rfl,h33,h34,h35⟩) rN) ?_;intro b4 bP le10 h38;have H:=H.trans le10;exact yQ [] H ⟨_,rfl,rfl,h38⟩
      rintro I1 hf af _ _ ⟨rfl,rfl⟩ _ _ ⟨b4,rfl,rfl,h38⟩ _ _ rfl;refine yW [43,49] rfl ?_;have h27:=iM af h27;obtain ⟨aK,k0,k01⟩:=h38;have h38:SL I1 (vS (some ⟨b4,0,none⟩) ([y19]:List zG) 1) ([y19]:List zG):=⟨_,k0,k01⟩;exact sC 98 7 0 rfl rfl rfl h27 (.inl k0) k01 hy7 fun p18 c18 bD h39=>wE (ah:=(hO zG (vS p18 l c18) bD::hB b3 [vI y16,vI 0,z0,vI 0,vT ([]),z0,vS aV Kids bc]::hB b zExpr::hf)) rfl<|yQ [hO zG (vS p18 l c18) bD] iR ⟨_,_,_,rfl,rfl,h39⟩
    rintro bV le11 _ _ ⟨p14,c14,p15,c15,p16,c16,p17,c17,rfl,rfl,h33,h34,h35,h36⟩ _ _ ⟨p18,c18,bD,rfl,rfl,h39⟩;refine yW [0,1,2,6,7,8,50] rfl ?_;have H:=H.trans le11;exact yC 10 [] [51] rfl<|xH 2 [vI y16,vI 0,z0,vI 0,vT ([]),z0,vS p18 l c18] rfl<|yD rfl<|zP<|zI<|zM<|yI [] [8] rfl<|yP<|nX (zX [0,2,1,3] rfl (by decide))<|nN<|ih_spec_l3Value_l1 aa ai (W (i+1)) l y20 _ N H h39 h36 hg ho hx
  intro bM N;exact wR<|yL<|hx _ _ _ _ _ _ _ _ (zC N).symm H h27 h28
theorem zFg:∀ r0 aa ai r,pA r0 aa ai=some r->∀ {I:Imm}{ar:Nat}{p c},(S4 I p r0.b c)->RT 246 [vP ar 0,vI aa,vI ai] I [hB ar (cRd r0 p c)] (zA7 ar r):=zFE.1
def zFF (b0:Nat) (r:zO×zK):KT:=fun kk I' ah v=>
  ∃ v0 k0,ah=[.blk b0 ⟨k0⟩]/\v=tupV [v0]/\(∃ cs,v0=.agg ⟨cs⟩/\Rp.rep I' cs r.1)/\Rp.rep I' k0 r.2
def fB (r0:zK) (aa:Int):Option (zO×zK):=do
 let (y1,y2)<-mY r0 aa
 let (y4,y5)<-yN y2 ([2,3,1,2]:List Int)
 let (y7,y8)<-pA y5 aa y4
 let y9<-sQ (zO.mk y1 y7) aa
 if y9 then
  pure ((zO.mk y1 y7),y8)
 else
  let y10<-oO
  pure ((zO.mk (zJ.mk (⟨[65]⟩:Str) ([y10]:List zA)) (zG.mk 1 1 (zA.mk ([]:List Int) 0) (zJ.mk (⟨[]⟩:Str) ([]:List zA)) ([]:List zG))),y8)
theorem zG4:∀ r0 aa r,fB r0 aa=some r->∀ {I:Imm}{ar:Nat}{p c},(S4 I p r0.b c)->RT 219 [vP ar 0,vI aa] I [hB ar (cRd r0 p c)] (zFF ar r):=by
 intro r0 aa r N I ar p c h;unfold fB at N;refine yJ func219 fun B=>yE<|wL [vT ([]),z0,vI 0,vI 0,z0,vI 0,vT ([]),z0,z0] ?_;intro b hb;refine yD rfl<|yV<|yC 2 [] [6,7] rfl<|tO (zY [1,0] (ah:=[hB ar (cRd r0 p c),hB b [vT ([]),z0,vI 0,vI 0,z0,vI 0,vT ([]),z0,z0]])) ?_;obtain ⟨⟨y1,y2⟩,hy,N⟩:=zB N;refine tM (zCI r0 aa _ hy h) rfl ?_;rintro I0 aw v2 k2 le - ⟨v0,kk,rfl,rfl,⟨cs,rfl,h1⟩,h2⟩ -;obtain ⟨p1,c1,rfl,h3⟩:=oT h1;obtain ⟨p2,c2,rfl,h4⟩:=zZ h2;refine yC 6 [] [9,10,11] rfl<|nC (rI [2,3,1,2]) ?_;intro b1 aT af h6;have ⟨h3,h4⟩:=m2 af h3 h4;obtain ⟨⟨y4,y5⟩,aA,N⟩:=zB N;refine tM (yT y2 ([2,3,1,2]:List Int) _ aA h4 h6) rfl ?_;rintro aU aw v2 k2 aC - ⟨v03,kk1,rfl,rfl,rfl,h8⟩ -;have h3:=h3.mono aC;obtain ⟨p3,c3,rfl,h9⟩:=zZ h8;obtain ⟨⟨y7,y8⟩,aJ,N⟩:=zB N;refine tM (zFg y5 aa y4 _ aJ h9) rfl ?_;rintro bC aw v2 k2 aD - ⟨v05,kk2,rfl,rfl,⟨ay,rfl,h10⟩,h11⟩ -;have h3:=h3.mono aD;obtain ⟨p4,c4,p5,c5,p6,c6,rfl,h12,h13,h14⟩:=tH h10;obtain ⟨p7,c7,rfl,h15⟩:=zZ h11;refine yC 10 [] [15] rfl<|wL [vT ([]),z0,vI 0,vI 0,z0,vI 0,vT ([]),z0,z0] ?_;intro b2 hb2;refine xH 0 [vT y1.Array.l,vS p1 y1.Subs c1,vI y7.Kind,vI y7.Num,vS p4 y7.Index.Coefs c4,vI y7.Index.Const,vT y7.Read.Array.l,vS p5 y7.Read.Subs c5,vS p6 y7.Kids c6] rfl<|yD rfl<|yA<|yE<|rY 2 [0] [(16,vA [vT y1.Array.l,vS p1 y1.Subs c1,vI y7.Kind,vI y7.Num,vS p4 y7.Index.Coefs c4,vI y7.Index.Const,vT y7.Read.Array.l,vS p5 y7.Read.Subs c5,vS p6 y7.Kids c6]),(17,vI aa)]<|bE N fun y9 bf N=>uM (fW (zO.mk y1 y7) aa _ bf h3 h12 h13 h14) ?_;intro bJ aW;have ⟨h3,h12,h13,h14,h15⟩:=m5 aW h3 h12 h13 h14 h15;refine yD rfl<|zI<|yF N ?_ ?_
 · intro hc N;refine yE<|rY 1 [0] [(19,vA [vT y1.Array.l,vS p1 y1.Subs c1,vI y7.Kind,vI y7.Num,vS p4 y7.Index.Coefs c4,vI y7.Index.Const,vT y7.Read.Array.l,vS p5 y7.Read.Subs c5,vS p6 y7.Kids c6])]<|xH 2 [vT y1.Array.l,vS p1 y1.Subs c1,vI y7.Kind,vI y7.Num,vS p4 y7.Index.Coefs c4,vI y7.Index.Const,vT y7.Read.Array.l,vS p5 y7.Read.Subs c5,vS p6 y7.Kids c6] rfl<|yD rfl<|xC<|zH ?_;obtain rfl:=zC N;exact xA ⟨_,_,(.cell 2 rfl rfl (by kernel_rfl) ResV.nil),(zX [1] rfl (by decide)),⟨_,_,rfl,rfl,⟨_,rfl,(wM ⟨_,_,_,_,rfl,h3,h12,h13,h14⟩)⟩,(yO ⟨_,rfl,h15⟩)⟩⟩
 intro hc N;refine zT<|yV<|bE N fun y10 bw N=>xM (kJ  _ bw ) ?_;rintro bN aw v2 k2 bt - ⟨p8,c8,aQ,rfl,rfl,h17⟩ -;have h15:=h15.mono bt;refine xF 0 rfl ?_;intro I06 bv hl01;have h18:=SL.of_frozen hl01 bv h17;have h15:=h15.mono bv;refine uD (cAff y10 p8 c8) zA ?_;intro b3 hb3;have h19:RL I06 (cAff y10 p8 c8) ([y10]:List zA):=⟨(cAff y10 p8 c8),_,rfl,rfl,(yK ⟨_,rfl,h18⟩),rfl⟩;refine yC 5 [] [24] rfl<|xH 3 [vT ([65]),vS (some ⟨b3,0,none⟩) ([y10]:List zA) 1,vI 1,vI 1,z0,vI 0,vT ([]),z0,z0] rfl<|yD rfl<|xC<|yU 0 rfl ?_;intro I07 le7 hl02;have h20:=SL.of_frozen hl02 le7 h19;have h15:=h15.mono le7;obtain rfl:=zC N;exact xA ⟨_,_,(.cell 2 rfl rfl (by kernel_rfl) ResV.nil),(zX [1] rfl (by decide)),⟨_,_,rfl,rfl,⟨_,rfl,(wM ⟨_,_,_,_,rfl,h20,(SL.nil _),(SL.nil _),(SL.nil _)⟩)⟩,(yO ⟨_,rfl,h15⟩)⟩⟩
def zA8 (r:(List zE)×Bool):KT:=fun kk I' ah v=>
  ∃ v0 v1,ah=[]/\v=tupV [v0,v1]/\SL I' v0 r.1/\v1=.bool r.2
def pC (sizes:(List Int)) (out:List zE) (i:Int):Option (Out (List zE) ((List zE)×Bool)):=do
 if (decide (i<(sizes.length:Int))) then
  let t28<-(do
    let x<-idx sizes i
    if (decide (x<0)) then
     pure true
    else
     let x1<-idx sizes i
     pure (decide (x1>99))
      : Option Bool)
  if t28 then
   pure (.ret (([]:List zE),false))
  else
   let y<-oO
   let x2<-idx sizes i
   let y1<-wN x2
   let ap<-app 48 out ([(zE.mk ([y]:List zA) ([y1]:List zA))]:List zE)
   pC sizes ap (W (i+1))
 else
  pure (.done out)
 partial_fixpoint
theorem zDT (sizes:(List Int)):∀ (out:List zE) (i:Int) (o:Out (List zE) ((List zE)×Bool)),pC sizes out i=some o->∀ {B}{I0 I:Imm}{Q p c p1 c1 cs},I0.le I->(S4 I p sizes c)->(RL I cs out)->NG Q->NO Q->(∀ (I':Imm) (aj:List zE) (p2:Option Addr) (c2:Nat) (ay:List Value),o=(.done aj)->I0.le I'->(RL I' ay aj)->T 43 B Q (.exit 0) I' [hO zE (vS p2 aj c2) ay] [(4,vS p2 aj c2)])->(∀ r I' ah m',o=(.ret r)->I0.le I'->RS Tryz.prog f220 B (zA8  r) I' ah m'->T 43 B Q .ret I' ah m')->J Tryz.prog 43 B (nav (bodyOf f220) [1,1,1,0,1,0]) Q I [hO zE (vS p1 out c1) cs] [(0,vS p sizes c),(4,vS p1 out c1),(5,vI i)]:=by
 refine pC.partial_correctness sizes _ fun aH ih out i o N B I0 I Q p c p1 c1 cs H h h3 hg ho hx hr=>yR hg ho<|yB<|yG [14] rfl<|zI<|yF N ?_ ?_
 · intro aE N;refine zT<|yA<|yH<|yB<|yB ?_;refine wS N [hO zE (vS p1 out c1) cs] (fun t28=>[(0,vS p sizes c),(4,vS p1 out c1),(5,vI i),(28,.bool t28)]) (fun o0 aB=>?_) ?_
   · have H:=iS I;refine zM<|yC 2 [] [17,18] rfl ?_;obtain ⟨x,hy,N⟩:=zB aB;refine xO rfl rfl h hy ?_;intro ad aK aq al;obtain rfl:=al;refine xJ 0 aq [vI x] (vI x) rfl<|yC 6 [] [22] rfl<|xS [22] N ?_ ?_
     · intro aY N;exact wB [] [(28,vY)]<|yL<|zU (ct N H)
     intro aY N;refine yC 8 [] [23,24] rfl<|bE N fun x1 aA N=>xO rfl rfl h aA ?_;intro ad1 bx au ax;obtain rfl:=ax;exact xJ 0 au [vI x1] (vI x1) rfl<|yI [] [28] rfl<|yL<|zU (ct N H)
   intro t28 aT af aS;have ⟨h,h3,H⟩:=m3 af h h3 H;refine zI<|yF aS ?_ ?_
   · intro bG N;refine yE<|uD [] zE ?_;intro b1 hb1;have h5:RL aT [] ([]:List zE):=rfl;refine yI [] [2,3] rfl<|xC<|zH<|zW<|zH<|zH<|yU 0 rfl ?_;intro aU aC hl01;have h6:=SL.of_frozen hl01 aC h5;have H:=H.trans aC;exact hr _ _ _ _ (zC N).symm H ⟨_,_,(.tmp rfl (.tmp rfl ResV.nil)),zQ,⟨_,_,rfl,rfl,h6,rfl⟩⟩
   intro bG N;refine zT<|zI ?_;obtain ⟨y,aJ,N⟩:=zB N;obtain ⟨x2,bf,N⟩:=zB N;obtain ⟨y1,bw,N⟩:=zB N;obtain ⟨ap,bH,N⟩:=zB N;refine vC [.p (vS p1 out c1) [],.x (fun I' v hx=>∃ p3 c3 aQ,v=vA (cAff y p3 c3)/\hx=[hO Int (vS p3 y.Coefs c3) aQ]/\(RL I' aQ y.Coefs)),.x (fun I' v hx=>∃ b2,v=vS (some ⟨b2,0,none⟩) ([y]:List zA) 1/\hx=[]/\(SL I' (vS (some ⟨b2,0,none⟩) ([y]:List zA) 1) ([y]:List zA))),.p (vS p sizes c) [],.p (vI i) [],.x (fun I' v hx=>∃ ad2,v=.pointer (some ad2)/\hx=[]/\(At I' ad2 [vI x2])),.q (vI x2),.x (fun I' v hx=>∃ p4 c4 aR,v=vA (cAff y1 p4 c4)/\hx=[hO Int (vS p4 y1.Coefs c4) aR]/\(RL I' aR y1.Coefs)),.x (fun I' v hx=>∃ b3,v=vS (some ⟨b3,0,none⟩) ([y1]:List zA) 1/\hx=[]/\(SL I' (vS (some ⟨b3,0,none⟩) ([y1]:List zA) 1) ([y1]:List zA))),.x (fun I' v hx=>∃ b21 b31,v=vA [vS (some ⟨b21,0,none⟩) ([y]:List zA) 1,vS (some ⟨b31,0,none⟩) ([y1]:List zA) 1]/\hx=[]/\(SL I' (vS (some ⟨b21,0,none⟩) ([y]:List zA) 1) ([y]:List zA))/\(SL I' (vS (some ⟨b31,0,none⟩) ([y1]:List zA) 1) ([y1]:List zA))),.x (fun I' v hx=>∃ b4,v=vS (some ⟨b4,0,none⟩) ([(zE.mk ([y]:List zA) ([y1]:List zA))]:List zE) 1/\hx=[]/\(SL I' (vS (some ⟨b4,0,none⟩) ([(zE.mk ([y]:List zA) ([y1]:List zA))]:List zE) 1) ([(zE.mk ([y]:List zA) ([y1]:List zA))]:List zE))),.x (fun I' v hx=>∃ p5 c5 bz,v=vS p5 ap c5/\hx=[hO zE (vS p5 ap c5) bz]/\(RL I' bz ap))] [[],[],[(1,true)],[],[],[(3,false),(4,false)],[(5,false)],[(6,false)],[(7,true)],[(2,false),(8,false)],[(9,false)],[(0,false),(10,false),(13,true)]] [] [[hO zE (vS p1 out c1) cs]] [(11,true)] (zY [0]) ?_ ?_
   · refine Op<|Ox ?_<|Ox ?_<|Op<|Op<|Ox ?_<|Oq ?_<|Ox ?_<|Ox ?_<|Ox ?_<|Ox ?_<|Ox ?_<|On
     · intro I1 hf af;refine dC [] ?_;have H:=iS I1;refine xM (kJ  _ aJ ) ?_;rintro bC aw v2 k2 aD - ⟨p3,c3,aQ,rfl,rfl,h7⟩ -;have H:=H.trans aD;exact yQ [hO Int (vS p3 y.Coefs c3) aQ] H ⟨_,_,_,rfl,rfl,h7⟩
     · rintro I1 hf af _ _ ⟨p3,c3,aQ,rfl,rfl,h7⟩;refine yW [31] rfl ?_;have H:=iS I1;refine xF 0 rfl ?_;intro bJ aW hl02;have h8:=SL.of_frozen hl02 aW h7;have H:=H.trans aW;refine nC (rc y (yK ⟨_,rfl,h8⟩) rN) ?_;intro b2 bN bt h10;have H:=H.trans bt;exact yQ [] H ⟨_,rfl,rfl,h10⟩
     · intro I1 hf af;refine yW [33,34] rfl ?_;have h:=h.mono af;refine xO rfl rfl h bf ?_;intro ad2 bO br bq;obtain rfl:=bq;exact yQ [] iR ⟨_,rfl,rfl,br⟩
     · rintro I1 hf af _ _ ⟨ad2,rfl,rfl,br⟩;exact yW [35] rfl<|xJ 0 br [vI x2] (vI x2) rfl<|xE iR
     · intro I1 hf af;refine yW [36] rfl ?_;have H:=iS I1;refine xM (uJ x2 _ bw ) ?_;rintro I06 aw v2 k2 bv - ⟨p4,c4,aR,rfl,rfl,h11⟩ -;have H:=H.trans bv;exact yQ [hO Int (vS p4 y1.Coefs c4) aR] H ⟨_,_,_,rfl,rfl,h11⟩
     · rintro I1 hf af _ _ ⟨p4,c4,aR,rfl,rfl,h11⟩;refine yW [37] rfl ?_;have H:=iS I1;refine xF 0 rfl ?_;intro I07 le7 hl04;have h12:=SL.of_frozen hl04 le7 h11;have H:=H.trans le7;refine nC (rc y1 (yK ⟨_,rfl,h12⟩) rN) ?_;intro b3 I08 le8 h14;have H:=H.trans le8;exact yQ [] H ⟨_,rfl,rfl,h14⟩
     · rintro I1 hf af _ _ ⟨b2,rfl,rfl,h10⟩ _ _ ⟨b3,rfl,rfl,h14⟩;exact yW [32,38] rfl<|oY 10 [(39,vA [vS (some ⟨b2,0,none⟩) ([y]:List zA) 1,vS (some ⟨b3,0,none⟩) ([y1]:List zA) 1])]<|yQ [] iR ⟨_,_,rfl,rfl,h10,h14⟩
     · rintro I1 hf af _ _ ⟨b21,b31,rfl,rfl,h101,h141⟩;refine yW [39] rfl ?_;have H:=iS I1;refine nC (rc (zE.mk ([y]:List zA) ([y1]:List zA)) (rM ⟨_,_,rfl,h101,h141⟩) rN) ?_;intro b4 I09 le9 h16;have H:=H.trans le9;exact yQ [] H ⟨_,rfl,rfl,h16⟩
     rintro I1 hf af _ _ ⟨rfl,rfl⟩ _ _ ⟨b4,rfl,rfl,h16⟩ _ _ rfl;refine yW [30,40] rfl ?_;have h3:=iM af h3;obtain ⟨ccs3,k0,k01⟩:=h16;have h16:SL I1 (vS (some ⟨b4,0,none⟩) ([(zE.mk ([y]:List zA) ([y1]:List zA))]:List zE) 1) ([(zE.mk ([y]:List zA) ([y1]:List zA))]:List zE):=⟨_,k0,k01⟩;exact sC 141 2 0 rfl rfl rfl h3 (.inl k0) k01 bH fun p5 c5 bz h17=>wE (ah:=(hO zE (vS p5 ap c5) bz::hf)) rfl<|yQ [hO zE (vS p5 ap c5) bz] iR ⟨_,_,_,rfl,rfl,h17⟩
   rintro bP le10 _ _ ⟨p5,c5,bz,rfl,rfl,h17⟩;refine yW [0,5,41] rfl ?_;have ⟨h,H⟩:=m2 le10 h H;exact yI [] [4] rfl<|zP<|zI<|zM<|yI [] [5] rfl<|yP<|nN<|ih ap (W (i+1)) _ N H h h17 hg ho hx hr
 intro aE N;exact wR<|yL<|hx _ _ _ _ _ (zC N).symm H h3
def gJ (sizes:(List Int)):Option ((List zE)×Bool):=do
 if (decide ((sizes.length:Int)>4)) then
  pure (([]:List zE),false)
 else
  match<-pC sizes ([]:List zE) 0 with
  | .ret r0=>pure r0
  | .done aj =>
   pure (aj,true)
theorem zFh:∀ sizes r,gJ sizes=some r->∀ {I:Imm}{p c},(S4 I p sizes c)->RT 220 [vS p sizes c] I [] (zA8  r):=by
 intro sizes r N I p c h;unfold gJ at N;refine yJ func220 fun B=>vR []<|yV<|uD [] zE ?_;intro b hb;have h1:RL I [] ([]:List zE):=rfl;refine yI [] [4] rfl<|yA<|yG [9] rfl<|zI<|yF N ?_ ?_
 · intro hc N;refine yG [2,3] rfl<|xC<|zH<|yU 0 rfl ?_;intro I0 le hl0;have h2:=SL.of_frozen hl0 le h1;obtain rfl:=zC N;exact xA ⟨_,_,(.tmp rfl (.tmp rfl ResV.nil)),zQ,⟨_,_,rfl,rfl,h2,rfl⟩⟩
 intro hc N;refine zT<|yA<|yG [5] rfl<|xX<|qP [(0,vS p sizes c),(4,vS (some ⟨b,0,none⟩) ([]:List zE) 0),(5,vI 0)] ?_;obtain ⟨aM,az,aI⟩:=zB N;refine zDT sizes ([]:List zE) 0 aM az iR h h1 (fun _ _ _ h=>h) (fun _ _ h=>h) ?_ ?_
 · intro bV aj p2 c2 ay heq1 le11 h4;subst aM;refine zS<|vK [2,3] rfl<|xC<|yU 0 rfl ?_;intro bW le12 hl07;have h18:=SL.of_frozen hl07 le12 h4;obtain rfl:=zC aI;exact xA ⟨_,_,(.tmp rfl (.tmp rfl ResV.nil)),zQ,⟨_,_,rfl,rfl,h18,rfl⟩⟩
 intro r0 I9 hs9 m9 aX le9 ba;subst aX;refine zW<|zH ?_;obtain rfl:=zC aI;exact xA ba
end Go.LN
