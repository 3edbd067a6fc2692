/- Helper of the proof (see the last text). -/
import Derived.Test.YtcmjkmdecmabaaaGreatHM3
set_option linter.unusedVariables false
set_option linter.unusedSimpArgs false
namespace Go.LN
open Go.Proofs Go.Proofs.Tryz
set_option maxRecDepth 20000
def uZ (list:(List zF)) (part:zO) (y1:(List (List Int))) (i:Int) (k0:Int):Option (Out Unit (Int×Bool)):=do
 if (decide (k0<(y1.length:Int))) then
  let x1<-idx part.Body i
  let x2<-idx y1 k0
  let (y5,y6,y7)<-kH list x1 x2
  let t80<-(do
    if (!y7) then
     pure true
    else
     let x3<-idx y1 k0
     let y8<-kI x3
     pure (!y8)
      : Option Bool)
  if t80 then
   pure (.ret (0,false))
  else
   uZ list part y1 i (W (k0+1))
 else
  pure (.done ())
 partial_fixpoint
theorem zFR (list:(List zF)) (part:zO) (y1:(List (List Int))) (i:Int):∀ (k0:Int) (o:Out Unit (Int×Bool)),uZ list part y1 i k0=some o->∀ {B}{I0 I:Imm}{Q p c p1 c1 p2 c2}{b:Nat}{p3 c3},I0.le I->(S4 I p list c)->(S4 I p3 y1 c3)->(S4 I p1 part.Nest c1)->(S4 I p2 part.Body c2)->NG Q->NO Q->(∀ (I':Imm) ,o=(.done ())->I0.le I'->T 87 B Q (.exit 2) I' [hB b (cPart part p1 c1 p2 c2)] [(0,vS p list c),(3,vP b 0),(6,vS p3 y1 c3),(8,vI i)])->(∀ r I' ah m',o=(.ret r)->I0.le I'->RS Tryz.prog f101 B (jT  r) I' ah m'->T 87 B Q .ret I' ah m')->J Tryz.prog 87 B (nav (bodyOf f101) [1,1,1,0,1,0,0,1,0,0,1,1,0]) Q I [hB b (cPart part p1 c1 p2 c2)] [(0,vS p list c),(3,vP b 0),(6,vS p3 y1 c3),(8,vI i),(9,vI k0)]:=by
 refine uZ.partial_correctness list part y1 i _ fun aJ ih k0 o N B I0 I Q p c p1 c1 p2 c2 b p3 c3 H h h3 h1 h2 hg ho hx hr=>yM hg ho<|zZ<|yF [53] rfl<|zG<|yC N ?_ ?_
 · intro hc5 N;refine zS<|zX<|yG<|zZ ?_;obtain ⟨x1,bm,N⟩:=zB N;obtain ⟨x2,bw,N⟩:=zB N;obtain ⟨⟨y5,y6,y7⟩,bI,N⟩:=zB N;refine wQ [.p (vS p list c) [],.p (vP b 1) [],.p (vS p2 part.Body c2) [0],.p (vI i) [],.x (ePStmt x1),.x (eVStmt x1),.p (vS p3 y1 c3) [],.p (vI k0) [],.x (fun I' v hx=>∃ ad2 bD bo,v=.pointer (some ad2)/\hx=[]/\(At I' ad2 [vS bD x2 bo])/\(S4 I' bD x2 bo)),.x (eS x2),.x (fun I' v hx=>∃ bq bB,v=.tuple ⟨[vS bq y5 bB,vI y6,.bool y7]⟩/\hx=[]/\(S4 I' bq y5 bB)),.x (fun I' v hx=>∃ p131 c131,v=.tuple ⟨[vS p131 y5 c131,vI y6,.bool y7]⟩/\hx=[]/\(S4 I' p131 y5 c131)),.x (eS y5),.q (vI y6),.q (.bool y7),.x (eS y5),.p (vI y6) []] [[],[],[(1,false)],[],[(2,false),(3,false)],[(4,false)],[],[],[(6,false),(7,false)],[(8,false)],[(0,false),(5,false),(9,false)],[(10,false)],[(11,false)],[(11,false)],[(11,false)],[(12,false)],[(13,false)]] [hB b (cPart part p1 c1 p2 c2)] [] [(14,false)] (zY [0]) ?_ ?_
   · refine Op<|Op<|Op<|Op<|Ox ?_<|Ox ?_<|Op<|Op<|Ox ?_<|Ox ?_<|Ox ?_<|Ox ?_<|Ox ?_<|Oq ?_<|Oq ?_<|Ox ?_<|Op<|On
     · intro I1 hf af;refine yT [59,60] rfl ?_;have h2:=h2.mono af;refine xK rfl rfl h2 bm ?_;intro ad1 bv av ax;obtain ⟨p8,c8,p9,c9,bi,bh,aR,bc,rfl,h10,h11,h12,h13⟩:=pR ax;exact yN [] iR ⟨_,_,_,_,_,_,_,_,_,rfl,rfl,av,h10,h11,h12,h13⟩
     · rintro I1 hf af _ _ ⟨ad1,p8,c8,p9,c9,bi,bh,aR,bc,rfl,rfl,av,h10,h11,h12,h13⟩;exact yT [61] rfl<|xB 0 av (cStmt x1 p8 c8 p9 c9 bi bh aR bc) (vA (cStmt x1 p8 c8 p9 c9 bi bh aR bc)) rfl<|yN [] iR ⟨_,_,_,_,_,_,_,_,rfl,rfl,h10,h11,h12,h13⟩
     · intro I1 hf af;refine yT [63,64] rfl ?_;have h3:=h3.mono af;refine xK rfl rfl h3 bw ?_;intro ad2 bP aY bd;obtain ⟨v011,rfl,h14⟩:=bd;obtain ⟨bD,bo,rfl⟩:=h14.form;exact yN [] iR ⟨_,_,_,rfl,rfl,aY,h14⟩
     · rintro I1 hf af _ _ ⟨ad2,bD,bo,rfl,rfl,aY,h14⟩;exact yT [65] rfl<|xB 0 aY [vS bD x2 bo] (vS bD x2 bo) rfl<|yN [] iR ⟨_,_,rfl,rfl,h14⟩
     · rintro I1 hf af _ _ ⟨rfl,rfl⟩ _ _ ⟨p81,c81,p91,c91,p101,c101,p111,c111,rfl,rfl,h101,h111,h121,h131⟩ _ _ ⟨p121,c121,rfl,rfl,h141⟩;refine yT [57,62,66] rfl ?_;have H:=iS I1;have h:=h.mono af;refine xL (zGz list x1 x2 _ bI h h101 h111 h121 h131 h141) ?_;rintro bL ay v2 k2 bk - ⟨v012,v013,v014,rfl,rfl,h15,rfl,rfl⟩ -;have H:=H.trans bk;obtain ⟨bq,bB,rfl⟩:=h15.form;exact yN [] H ⟨_,_,rfl,rfl,h15⟩
     · rintro I1 hf af _ _ ⟨bq,bB,rfl,rfl,h15⟩;exact yT [67] rfl<|mE 12 [(56,.tuple ⟨[vS bq y5 bB,vI y6,.bool y7]⟩)]<|yN [] iR ⟨_,_,rfl,rfl,h15⟩
     · rintro I1 hf af _ _ ⟨p131,c131,rfl,rfl,h151⟩;exact yT [56] rfl<|mE 13 [(68,vS p131 y5 c131)]<|yN [] iR ⟨_,_,rfl,rfl,h151⟩
     · rintro I1 hf af _ _ ⟨p131,c131,rfl,rfl,h151⟩;exact yT [56] rfl<|mE 14 [(69,vI y6)]<|xC iR
     · rintro I1 hf af _ _ ⟨p131,c131,rfl,rfl,h151⟩;exact yT [56] rfl<|mE 15 [(70,.bool y7)]<|xC iR
     rintro I1 hf af _ _ ⟨p1311,c1311,rfl,rfl,h1511⟩;exact yT [68] rfl<|mE 16 [(10,vS p1311 y5 c1311)]<|yN [] iR ⟨_,_,rfl,rfl,h1511⟩
   intro bR bz;refine yT [0,3,6,8,9,70] rfl ?_;have ⟨h,h3,h1,h2,H⟩:=m5 bz h h3 h1 h2 H;refine yH [] [12] rfl<|zG<|zZ ?_;refine wO N [hB b (cPart part p1 c1 p2 c2)] (fun t80=>[(0,vS p list c),(3,vP b 0),(6,vS p3 y1 c3),(8,vI i),(9,vI k0),(80,.bool t80)]) (fun aP aA=>?_) ?_
   · have H:=iS bR;refine zJ<|yB 3 [] [73] rfl<|xV [73] aA ?_ ?_
     · intro hc6 N;exact wG [] [(80,vY)]<|yL<|zU (ct N H)
     intro hc6 N;refine yB 5 [] [74,75] rfl<|bE N fun x3 hy6 N=>xK rfl rfl h3 hy6 ?_;intro ad3 ccs3 hat3 bG;obtain ⟨v015,rfl,h18⟩:=bG;obtain ⟨p14,c14,rfl⟩:=h18.form;refine xB 0 hat3 [vS p14 x3 c14] (vS p14 x3 c14) rfl<|bE N fun y8 hy7 N=>vQ (zHA x3 _ hy7 h18) ?_;intro I07 bC;have H:=H.trans bC;exact yH [] [80] rfl<|yL<|zU (ct N H)
   intro t80 I06 le7 hMc1;have ⟨h,h3,h1,h2,H⟩:=m5 le7 h h3 h1 h2 H;refine zG<|yC hMc1 ?_ ?_
   · intro hc7 N;exact yF [4,5] rfl<|xD<|zV<|zH<|zH<|hr _ _ _ _ (zC N).symm H ⟨_,_,(.tmp rfl (.tmp rfl ResV.nil)),zQ,⟨_,_,rfl,rfl,rfl,rfl⟩⟩
   intro hc7 N;exact zS<|zM<|zG<|zJ<|yH [] [9] rfl<|yK<|oY<|ih (W (k0+1)) _ N H h h3 h1 h2 hg ho hx hr
 intro hc5 N;exact wJ<|yL<|hx _  (zC N).symm H
def tA (list:(List zF)) (part:zO) (y1:(List (List Int))) (i:Int):Option (Out Unit (Int×Bool)):=do
 if (decide (i<(part.Body.length:Int))) then
  let x<-idx part.Body i
  let y3<-rJ x (part.Nest.length:Int)
  if (!y3) then
   pure (.ret (0,false))
  else
   match<-uZ list part y1 i 0 with
   | .ret r0=>pure (.ret r0)
   | .done _ =>
    tA list part y1 (W (i+1))
 else
  pure (.done ())
 partial_fixpoint
theorem zFS (list:(List zF)) (part:zO) (y1:(List (List Int))):∀ (i:Int) (o:Out Unit (Int×Bool)),tA list part y1 i=some o->∀ {B}{I0 I:Imm}{Q p c p1 c1 p2 c2}{b:Nat}{p3 c3},I0.le I->(S4 I p list c)->(S4 I p3 y1 c3)->(S4 I p1 part.Nest c1)->(S4 I p2 part.Body c2)->NG Q->NO Q->(∀ (I':Imm) ,o=(.done ())->I0.le I'->T 87 B Q (.exit 0) I' [hB b (cPart part p1 c1 p2 c2)] [(3,vP b 0),(6,vS p3 y1 c3)])->(∀ r I' ah m',o=(.ret r)->I0.le I'->RS Tryz.prog f101 B (jT  r) I' ah m'->T 87 B Q .ret I' ah m')->J Tryz.prog 87 B (nav (bodyOf f101) [1,1,1,0,1,0]) Q I [hB b (cPart part p1 c1 p2 c2)] [(0,vS p list c),(3,vP b 0),(6,vS p3 y1 c3),(8,vI i)]:=by
 refine tA.partial_correctness list part y1 _ fun aJ ih i o N B I0 I Q p c p1 c1 p2 c2 b p3 c3 H h h3 h1 h2 hg ho hx hr=>yM hg ho<|zZ<|yE<|yH [0] [37] rfl<|zG<|yC N ?_ ?_
 · intro bK N;refine zS<|zX<|yG<|zZ<|zZ ?_;obtain ⟨x,aB,N⟩:=zB N;obtain ⟨y3,aN,N⟩:=zB N;refine wQ [.p (vP b 1) [],.p (vS p2 part.Body c2) [0],.p (vI i) [],.x (ePStmt x),.x (eVStmt x),.p (vP b 0) [],.p (vS p1 part.Nest c1) [0],.p (vI (part.Nest.length:Int)) [],.q (.bool y3),.p (.bool (!y3)) []] [[],[(0,false)],[],[(1,false),(2,false)],[(3,false)],[],[(5,false)],[(6,false)],[(4,false),(7,false)],[(8,false)]] [hB b (cPart part p1 c1 p2 c2)] [] [(9,false)] (zY [0]) ?_ ?_
   · refine Op<|Op<|Op<|Ox ?_<|Ox ?_<|Op<|Op<|Op<|Oq ?_<|Op<|On
     · intro I1 hf af;refine yT [41,42] rfl ?_;have h2:=h2.mono af;refine xK rfl rfl h2 aB ?_;intro ad aQ ar ap;obtain ⟨p4,c4,p5,c5,p6,c6,p7,c7,rfl,h5,h6,h7,h8⟩:=pR ap;exact yN [] iR ⟨_,_,_,_,_,_,_,_,_,rfl,rfl,ar,h5,h6,h7,h8⟩
     · rintro I1 hf af _ _ ⟨ad,p4,c4,p5,c5,p6,c6,p7,c7,rfl,rfl,ar,h5,h6,h7,h8⟩;exact yT [43] rfl<|xB 0 ar (cStmt x p4 c4 p5 c5 p6 c6 p7 c7) (vA (cStmt x p4 c4 p5 c5 p6 c6 p7 c7)) rfl<|yN [] iR ⟨_,_,_,_,_,_,_,_,rfl,rfl,h5,h6,h7,h8⟩
     rintro I1 hf af _ _ ⟨p41,c41,p51,c51,p61,c61,p71,c71,rfl,rfl,h51,h61,h71,h81⟩;refine yT [44,47] rfl ?_;have H:=iS I1;refine vQ (dX x (part.Nest.length:Int) _ aN h51 h61 h71 h81) ?_;intro ba aF;have H:=H.trans aF;exact xC H
   intro bH aK;refine yT [0,3,6,8,49] rfl ?_;have ⟨h,h3,h1,h2,H⟩:=m5 aK h h3 h1 h2 H;refine yD rfl<|zG<|yC N ?_ ?_
   · intro bO N;exact yF [4,5] rfl<|xD<|zH<|zV<|zH<|zH<|hr _ _ _ _ (zC N).symm H ⟨_,_,(.tmp rfl (.tmp rfl ResV.nil)),zQ,⟨_,_,rfl,rfl,rfl,rfl⟩⟩
   intro bO N;refine zS<|wM [9] rfl<|xX<|rU [(0,vS p list c),(3,vP b 0),(6,vS p3 y1 c3),(8,vI i),(9,vI 0)] ?_;obtain ⟨o02,ho02,aM⟩:=zB N;refine zFR list part y1 i 0 o02 ho02 iR h h3 h1 h2 (fun _ _ _ h=>hg _ _ _ h) (fun _ _ h=>ho _ _ h) ?_ ?_
   · intro I08  heq2 le8;subst o02;have ⟨h,h3,h1,h2,H⟩:=m5 le8 h h3 h1 h2 H;exact zR<|zM<|zG<|zJ<|yH [] [8] rfl<|yK<|oY<|ih (W (i+1)) _ aM H h h3 h1 h2 hg ho hx hr
   intro r0 I9 hs9 m9 aZ le9 bb;subst aZ;exact zV<|zV<|zH<|zH<|hr _ _ _ _ (zC aM).symm (H.trans le9) bb
 intro bK N;exact wJ<|yL<|hx _  (zC N).symm H
def nV (list:(List zF)) (part:zO):Option (Int×Bool):=do
 let (y1,y2)<-pY part.Nest
 let t32<-(do
   if (!y2) then
    pure true
   else
    if (decide ((part.Body.length:Int)<1)) then
     pure true
    else
     pure (decide ((part.Body.length:Int)>4))
     : Option Bool)
 if t32 then
  pure (0,false)
 else
  match<-tA list part y1 0 with
  | .ret r0=>pure r0
  | .done _ =>
   pure ((W ((y1.length:Int)*(part.Body.length:Int))),true)
theorem zAv:∀ list part r,nV list part=some r->∀ {I:Imm}{p c p1 c1 p2 c2},(S4 I p list c)->(S4 I p1 part.Nest c1)->(S4 I p2 part.Body c2)->RT 101 [vS p list c,vA (cPart part p1 c1 p2 c2)] I [] (jT  r):=by
 intro list part r N I p c p1 c1 p2 c2 h h1 h2;unfold nV at N;refine yJ func101 fun B=>?_;have H:=iS I;refine yE<|tO (cPart part p1 c1 p2 c2) ?_;intro b hb;refine wG [] []<|yX<|yB 2 [0] [15] rfl ?_;obtain ⟨⟨y1,y2⟩,hy,N⟩:=zB N;refine xL (zEZ part.Nest _ hy h1) ?_;rintro I0 ay v2 k2 le - ⟨v0,v01,rfl,rfl,h3,rfl⟩ -;have ⟨h,h1,h2,H⟩:=m4 le h h1 h2 H;obtain ⟨p3,c3,rfl⟩:=h3.form;refine yH [] [6,7] rfl<|zX<|zZ ?_;refine wO N [hB b (cPart part p1 c1 p2 c2)] (fun t32=>[(0,vS p list c),(3,vP b 0),(6,vS p3 y1 c3),(32,.bool t32)]) (fun o0 aD=>?_) ?_
 · have H:=iS I0;refine zJ<|yB 3 [] [21] rfl<|xV [21] aD ?_ ?_
   · intro hc N;exact wG [] [(32,vY)]<|yL<|zU (ct N H)
   intro hc N;refine yB 9 [0] [27] rfl<|xV [27] N ?_ ?_
   · intro aI N;exact wG [] [(32,vY)]<|yL<|zU (ct N H)
   intro aI N;exact yH [0] [32] rfl<|yL<|zU (ct N H)
 intro t32 aW af aU;have ⟨h,h3,h1,h2⟩:=m4 af h h3 h1 h2;refine zG<|yC aU ?_ ?_
 · intro aX N;refine yF [4,5] rfl<|xD<|zH ?_;obtain rfl:=zC N;exact yZ ⟨_,_,(.tmp rfl (.tmp rfl ResV.nil)),zQ,⟨_,_,rfl,rfl,rfl,rfl⟩⟩
 intro aX N;refine zS<|zX<|yF [8] rfl<|xX<|rU [(0,vS p list c),(3,vP b 0),(6,vS p3 y1 c3),(8,vI 0)] ?_;obtain ⟨o03,ho03,hMl1⟩:=zB N;refine zFS list part y1 0 o03 ho03 iR h h3 h1 h2 (fun _ _ _ h=>h) (fun _ _ h=>h) ?_ ?_
 · intro I09  heq3 le9;subst o03;refine zR<|yX<|yH [0] [4,5] rfl<|zG<|yW ?_;obtain rfl:=zC hMl1;exact yZ ⟨_,_,(.tmp rfl (.tmp rfl ResV.nil)),zQ,⟨_,_,rfl,rfl,rfl,rfl⟩⟩
 intro r0 I9 hs9 m9 aZ le9 bb;subst aZ;refine zV<|zH ?_;obtain rfl:=zC hMl1;exact yZ bb
def wL (p:zD) (total:Int) (i:Int):Option (Out Int (Bool)):=do
 if (decide (i<(p.Parts.length:Int))) then
  let x<-idx p.Parts i
  let (y2,y3)<-nV p.Arrays x
  if (!y3) then
   pure (.ret false)
  else
   wL p (W (total+y2)) (W (i+1))
 else
  pure (.done total)
 partial_fixpoint
theorem zBt (p:zD):∀ (total:Int) (i:Int) (o:Out Int (Bool)),wL p total i=some o->∀ {B}{I0 I:Imm}{Q p1 c p2 c1}{b:Nat},I0.le I->(S4 I p1 p.Arrays c)->(S4 I p2 p.Parts c1)->NG Q->NO Q->(∀ (I':Imm) (total1:Int),o=(.done total1)->I0.le I'->T 42 B Q (.exit 0) I' [] [(3,vI total1)])->(∀ r I' ah m',o=(.ret r)->I0.le I'->RS Tryz.prog f57 B (zT  r) I' ah m'->T 42 B Q .ret I' ah m')->J Tryz.prog 42 B (nav (bodyOf f57) [1,1,1,0,1,0]) Q I [hB b (cProg p p1 c p2 c1)] [(1,vP b 0),(3,vI total),(4,vI i)]:=by
 refine wL.partial_correctness p _ fun aJ ih total i o N B I0 I Q p1 c p2 c1 b H h h1 hg ho hx hr=>yM hg ho<|zZ<|yE<|yH [0] [21] rfl<|zG<|yC N ?_ ?_
 · intro aX N;refine zS<|zX<|yG<|zZ ?_;obtain ⟨x,aB,N⟩:=zB N;obtain ⟨⟨y2,y3⟩,aN,N⟩:=zB N;refine wQ [.p (vP b 0) [],.p (vS p1 p.Arrays c) [0],.p (vP b 1) [],.p (vS p2 p.Parts c1) [0],.p (vI i) [],.x (ePPart x),.x (eVPart x),.q (.tuple ⟨[vI y2,.bool y3]⟩),.p (.tuple ⟨[vI y2,.bool y3]⟩) [],.p (vI y2) [],.p (.bool y3) [],.p (vI y2) []] [[],[(0,false)],[],[(2,false)],[],[(3,false),(4,false)],[(5,false)],[(1,false),(6,false)],[(7,false)],[(8,false)],[(8,false)],[(9,false)]] [hB b (cProg p p1 c p2 c1)] [] [(10,false),(11,false)] (zY [0]) ?_ ?_
   · refine Op<|Op<|Op<|Op<|Op<|Ox ?_<|Ox ?_<|Oq ?_<|Op<|Op<|Op<|Op<|On
     · intro I1 hf af;refine yT [28,29] rfl ?_;have h1:=h1.mono af;refine xK rfl rfl h1 aB ?_;intro ad aQ ar ap;obtain ⟨p3,c2,p4,c3,rfl,h3,h4⟩:=wR ap;exact yN [] iR ⟨_,_,_,_,_,rfl,rfl,ar,h3,h4⟩
     · rintro I1 hf af _ _ ⟨ad,p3,c2,p4,c3,rfl,rfl,ar,h3,h4⟩;exact yT [30] rfl<|xB 0 ar (cPart x p3 c2 p4 c3) (vA (cPart x p3 c2 p4 c3)) rfl<|yN [] iR ⟨_,_,_,_,rfl,rfl,h3,h4⟩
     rintro I1 hf af _ _ ⟨rfl,rfl⟩ _ _ ⟨p31,c21,p41,c31,rfl,rfl,h31,h41⟩;refine yT [26,31] rfl ?_;have H:=iS I1;have h:=h.mono af;refine xL (zAv p.Arrays x _ aN h h31 h41) ?_;rintro ba ay v2 k2 aF - ⟨v03,v04,rfl,rfl,rfl,rfl⟩ -;have H:=H.trans aF;exact xC H
   intro bH aK;refine yT [1,3,4,5,34] rfl ?_;have ⟨h,h1,H⟩:=m3 aK h h1 H;refine yH [] [6] rfl<|zX<|yF [36] rfl<|zG<|yC N ?_ ?_
   · intro bK N;exact wP [(2,vF)]<|xD<|zH<|zV<|zH<|zH<|hr _ _ _ _ (zC N).symm H ⟨_,_,(.tmp rfl ResV.nil),zQ,⟨_,rfl,rfl,rfl⟩⟩
   intro bK N;exact zS<|zG<|zJ<|yH [] [3] rfl<|zM<|zG<|zJ<|yH [] [4] rfl<|yK<|oY<|ih (W (total+y2)) (W (i+1)) _ N H h h1 hg ho hx hr
 intro aX N;exact wJ<|xQ zQ<|yL<|hx _ _ (zC N).symm H
def uR (p:zD):Option (Bool):=do
 let t16<-(do
   let y<-mJ p.Arrays
   if (!y) then
    pure true
   else
    pure (decide ((p.Parts.length:Int)>4))
     : Option Bool)
 if t16 then
  pure false
 else
  match<-wL p 0 0 with
  | .ret r0=>pure r0
  | .done total1 =>
   pure (decide (total1<=120))
theorem fW:∀ p r,uR p=some r->∀ {I:Imm}{p1 c p2 c1},(S4 I p1 p.Arrays c)->(S4 I p2 p.Parts c1)->RT 57 [vA (cProg p p1 c p2 c1)] I [] (zT  r):=by
 intro p r N I p1 c p2 c1 h h1;unfold uR at N;refine yJ func57 fun B=>?_;have H:=iS I;refine yE<|tO (cProg p p1 c p2 c1) ?_;intro b hb;refine wG [] []<|zX<|zZ ?_;refine wO N [hB b (cProg p p1 c p2 c1)] (fun t16=>[(1,vP b 0),(16,.bool t16)]) (fun o0 aD=>?_) ?_
 · have H:=iS I;refine zJ<|yB 2 [0] [8] rfl ?_;obtain ⟨y,hy,N⟩:=zB aD;refine vQ (zGO p.Arrays _ hy h) ?_;intro aW le;have H:=H.trans le;refine yB 5 [] [11] rfl<|xV [11] N ?_ ?_
   · intro hc N;exact wG [] [(16,vY)]<|yL<|zU (ct N H)
   intro hc N;exact yH [0] [16] rfl<|yL<|zU (ct N H)
 intro t16 I0 af aU;have ⟨h,h1⟩:=m2 af h h1;refine zG<|yC aU ?_ ?_
 · intro aI N;refine wP [(2,vF)]<|xD<|zH ?_;obtain rfl:=zC N;exact wI
 intro aI N;refine zS<|wM [3] rfl<|zX<|yF [4] rfl<|xX<|rU [(1,vP b 0),(3,vI 0),(4,vI 0)] ?_;obtain ⟨aP,aA,aM⟩:=zB N;refine zBt p 0 0 aP aA iR h h1 (fun _ _ _ h=>h) (fun _ _ h=>h) ?_ ?_
 · intro bL total1 heq1 bk;subst aP;refine zR<|wM [2] rfl<|zG<|yW ?_;obtain rfl:=zC aM;exact wI
 intro r0 I9 hs9 m9 aZ le9 bb;subst aZ;refine zV<|zH ?_;obtain rfl:=zC aM;exact yZ bb
def nF (nest:(List zE)) (out:Str) (i:Int):Option (Str):=do
 if (decide (i<(nest.length:Int))) then
  let s<-cat out (⟨[102,111,114,32]⟩:Str)
  let x<-idx nest i
  let y<-pX x.Lo
  let s1<-cat s y
  let s2<-cat s1 (⟨[32]⟩:Str)
  let x1<-idx nest i
  let y1<-pX x1.Hi
  let s3<-cat s2 y1
  let s4<-cat s3 (⟨[10]⟩:Str)
  nF nest s4 (W (i+1))
 else
  pure (id out)
 partial_fixpoint
theorem zFT (nest:(List zE)):∀ (out:Str) (i:Int) (o:Str),nF nest out i=some o->∀ {B}{I0 I:Imm}{Q p c},I0.le I->(S4 I p nest c)->NG Q->NO Q->(∀ (I':Imm) (al:Str),o=al->I0.le I'->T 30 B Q (.exit 0) I' [] [(3,vT al.l)])->J Tryz.prog 30 B (nav (bodyOf f215) [1,1,0,1,0]) Q I [] [(0,vS p nest c),(3,vT out.l),(4,vI i)]:=by
 refine nF.partial_correctness nest _ fun aJ ih out i o N B I0 I Q p c H h hg ho hx=>yM hg ho<|zZ<|yF [8] rfl<|zG<|yC N ?_ ?_
 · intro hc N;refine zS<|zX<|yG ?_;obtain ⟨s,hy,N⟩:=zB N;obtain ⟨x,aB,N⟩:=zB N;obtain ⟨y,aN,N⟩:=zB N;obtain ⟨s1,bm,N⟩:=zB N;obtain ⟨s2,bw,N⟩:=zB N;obtain ⟨x1,bI,N⟩:=zB N;obtain ⟨y1,hy6,N⟩:=zB N;obtain ⟨s3,hy7,N⟩:=zB N;obtain ⟨s4,hy8,N⟩:=zB N;refine wQ [.p (vT out.l) [],.q (vT s.l),.p (vS p nest c) [],.p (vI i) [],.x (ePLoop x),.x (ePLoop x),.x (eS x.Lo),.q (vT y.l),.q (vT s1.l),.q (vT s2.l),.p (vS p nest c) [],.p (vI i) [],.x (ePLoop x1),.x (eQLoop 1 x1),.x (eS x1.Hi),.q (vT y1.l),.q (vT s3.l),.q (vT s4.l)] [[],[(0,false)],[],[],[(2,false),(3,false)],[(4,false)],[(5,false)],[(6,false)],[(1,false),(7,false)],[(8,false)],[],[],[(10,false),(11,false)],[(12,false)],[(13,false)],[(14,false)],[(9,false),(15,false)],[(16,false)]] [] [] [(17,false)] zQ ?_ ?_
   · refine Op<|Oq ?_<|Op<|Op<|Ox ?_<|Ox ?_<|Ox ?_<|Oq ?_<|Oq ?_<|Oq ?_<|Op<|Op<|Ox ?_<|Ox ?_<|Ox ?_<|Oq ?_<|Oq ?_<|Oq ?_<|On
     · intro I1 hf af;exact yT [11] rfl<|gH rfl hy<|xC iR
     · intro I1 hf af;refine yT [13,14] rfl ?_;have h:=h.mono af;refine xK rfl rfl h aB ?_;intro ad aQ ar ap;obtain ⟨p1,c1,p2,c2,rfl,h1,h2⟩:=sR ap;exact yN [] iR ⟨_,_,_,_,_,rfl,rfl,ar,h1,h2⟩
     · rintro I1 hf af _ _ ⟨ad,p1,c1,p2,c2,rfl,rfl,ar,h1,h2⟩;exact yT [15] rfl<|mE 6 [(16,.pointer (some ad))]<|yN [] iR ⟨_,_,_,_,_,rfl,rfl,ar,h1,h2⟩
     · rintro I1 hf af _ _ ⟨ad1,aR,bc,p21,c21,rfl,rfl,av,h11,h21⟩;exact yT [16] rfl<|xB 0 av [vS aR x.Lo bc] (vS aR x.Lo bc) rfl<|yN [] iR ⟨_,_,rfl,rfl,h11⟩
     · rintro I1 hf af _ _ ⟨p111,c111,rfl,rfl,h111⟩;refine yT [17] rfl ?_;have H:=iS I1;refine xL (dM x.Lo _ aN h111) ?_;rintro I0 ay v2 k2 le - ⟨v02,rfl,rfl,rfl⟩ -;have H:=H.trans le;exact xC H
     · intro I1 hf af;exact yT [12,18] rfl<|gH rfl bm<|xC iR
     · intro I1 hf af;exact yT [19] rfl<|gH rfl bw<|xC iR
     · intro I1 hf af;refine yT [21,22] rfl ?_;have h:=h.mono af;refine xK rfl rfl h bI ?_;intro ad2 bv aY ax;obtain ⟨p3,c3,p4,c4,rfl,h4,h5⟩:=sR ax;exact yN [] iR ⟨_,_,_,_,_,rfl,rfl,aY,h4,h5⟩
     · rintro I1 hf af _ _ ⟨ad2,p3,c3,p4,c4,rfl,rfl,aY,h4,h5⟩;exact yT [23] rfl<|mE 14 [(24,.pointer (some (ad2.add 1)))]<|yN [] iR ⟨_,_,_,_,_,rfl,rfl,aY,h4,h5⟩
     · rintro I1 hf af _ _ ⟨ad21,p31,c31,p41,c41,rfl,rfl,hat21,h41,h51⟩;exact yT [24] rfl<|xB 1 hat21 [vS p41 x1.Hi c41] (vS p41 x1.Hi c41) rfl<|yN [] iR ⟨_,_,rfl,rfl,h51⟩
     · rintro I1 hf af _ _ ⟨p411,c411,rfl,rfl,h511⟩;refine yT [25] rfl ?_;have H:=iS I1;refine xL (dM x1.Hi _ hy6 h511) ?_;rintro aW ay v2 k2 af - ⟨v05,rfl,rfl,rfl⟩ -;have H:=H.trans af;exact xC H
     · intro I1 hf af;exact yT [20,26] rfl<|gH rfl hy7<|xC iR
     intro I1 hf af;exact yT [27] rfl<|gH rfl hy8<|xC iR
   intro ba aF;refine yT [0,4,28] rfl ?_;have ⟨h,H⟩:=m2 aF h H;exact yH [] [3] rfl<|zM<|zG<|zJ<|yH [] [4] rfl<|yK<|oY<|ih s4 (W (i+1)) _ N H h hg ho hx
 intro hc N;exact wJ<|yL<|hx _ _ (zC N).symm H
def eU (nest:(List zE)):Option (Str):=do
 let al<-nF nest (⟨[]⟩:Str) 0
 pure (id al)
theorem zHn:∀ nest r,eU nest=some r->∀ {I:Imm}{p c},(S4 I p nest c)->RT 215 [vS p nest c] I [] (sA  r):=by
 intro nest r N I p c h;unfold eU at N;refine yJ func215 fun B=>wP []<|wM [3] rfl<|zX<|yF [4] rfl<|xX<|rU [(0,vS p nest c),(3,vT ([])),(4,vI 0)] ?_;obtain ⟨o0,aD,aM⟩:=zB N;refine zFT nest (⟨[]⟩:Str) 0 o0 aD iR h (fun _ _ _ h=>h) (fun _ _ h=>h) ?_;intro bH al heq aK;subst o0;refine zR<|wM [2] rfl<|zG<|yW ?_;obtain rfl:=zC aM;exact wI
def tB (p:zD) (i:Int) (au:Str) (k0:Int):Option (Str):=do
 let x1<-idx p.Arrays i
 if (decide (k0<(x1.Dims.length:Int))) then
  let s2<-cat au (⟨[32]⟩:Str)
  let x2<-idx p.Arrays i
  let x3<-idx x2.Dims k0
  let y1<-qP x3
  let s3<-cat s2 y1
  tB p i s3 (W (k0+1))
 else
  pure (id au)
 partial_fixpoint
theorem zB7 (p:zD) (i:Int):∀ (au:Str) (k0:Int) (o:Str),tB p i au k0=some o->∀ {B}{I0 I:Imm}{Q p1 c p2 c1}{b:Nat},I0.le I->(S4 I p1 p.Arrays c)->(S4 I p2 p.Parts c1)->NG Q->NO Q->(∀ (I':Imm) (aH:Str),o=aH->I0.le I'->T 103 B Q (.exit 2) I' [hB b (cProg p p1 c p2 c1)] [(1,vP b 0),(3,vT aH.l),(4,vI i)])->J Tryz.prog 103 B (nav (bodyOf f176) [1,1,1,0,1,0,0,1,0,0,1,0,1,0]) Q I [hB b (cProg p p1 c p2 c1)] [(1,vP b 0),(3,vT au.l),(4,vI i),(5,vI k0)]:=by
 refine tB.partial_correctness p i _ fun aJ ih au k0 o N B I0 I Q p1 c p2 c1 b H h h1 hg ho hx=>yM hg ho<|zZ<|yE<|yB 4 [0] [28,30,31] rfl<|bE N fun x1 bw N=>xK rfl rfl h bw ?_;intro ad1 bv av ax;obtain ⟨p4,c3,rfl,h4⟩:=wU ax;refine yB 6 [] [33] rfl<|xB 1 av [vS p4 x1.Dims c3] (vS p4 x1.Dims c3) rfl<|yH [] [36] rfl<|zG<|yC N ?_ ?_
 · intro aX N;refine zS<|zX<|yG<|zJ<|yB 1 [] [39] rfl<|bE N fun s2 bI N=>gH rfl bI<|yB 5 [0] [42,43] rfl<|bE N fun x2 hy6 N=>xK rfl rfl h hy6 ?_;intro ad2 bP aY bd;obtain ⟨p5,c4,rfl,h5⟩:=wU bd;refine yB 7 [] [45] rfl<|xB 1 aY [vS p5 x2.Dims c4] (vS p5 x2.Dims c4) rfl<|yB 9 [] [47] rfl<|bE N fun x3 hy7 N=>xK rfl rfl h5 hy7 ?_;intro ad3 ccs3 hat3 bG;obtain rfl:=bG;refine xB 0 hat3 [vI x3] (vI x3) rfl<|bE N fun y1 hy8 N=>xL (dV x3 _ hy8 ) ?_;rintro aW ay v2 k2 af - ⟨v04,rfl,rfl,rfl⟩ -;have ⟨h,h1,H⟩:=m3 af h h1 H;obtain ⟨s3,hy9,N⟩:=zB N;exact gH rfl hy9<|yH [] [3] rfl<|zM<|zG<|zJ<|yH [] [5] rfl<|yK<|oY<|ih s3 (W (k0+1)) _ N H h h1 hg ho hx
 intro aX N;exact wJ<|yL<|hx _ _ (zC N).symm H
def tC (p:zD) (out:Str) (i:Int):Option (Str):=do
 if (decide (i<(p.Arrays.length:Int))) then
  let s<-cat out (⟨[97,114,114,97,121,32]⟩:Str)
  let x<-idx p.Arrays i
  let s1<-cat s x.Name
  let aH<-tB p i s1 0
  let s4<-cat aH (⟨[10]⟩:Str)
  tC p s4 (W (i+1))
 else
  pure (id out)
 partial_fixpoint
theorem zB8 (p:zD):∀ (out:Str) (i:Int) (o:Str),tC p out i=some o->∀ {B}{I0 I:Imm}{Q p1 c p2 c1}{b:Nat},I0.le I->(S4 I p1 p.Arrays c)->(S4 I p2 p.Parts c1)->NG Q->NO Q->(∀ (I':Imm) (al:Str),o=al->I0.le I'->T 103 B Q (.exit 0) I' [hB b (cProg p p1 c p2 c1)] [(1,vP b 0),(3,vT al.l)])->J Tryz.prog 103 B (nav (bodyOf f176) [1,1,1,0,1,0]) Q I [hB b (cProg p p1 c p2 c1)] [(1,vP b 0),(3,vT out.l),(4,vI i)]:=by
 refine tC.partial_correctness p _ fun aJ ih out i o N B I0 I Q p1 c p2 c1 b H h h1 hg ho hx=>yM hg ho<|zZ<|yE<|yH [0] [16] rfl<|zG<|yC N ?_ ?_
 · intro aI N;refine zS<|zX<|yG<|yE<|yB 1 [] [19] rfl<|bE N fun s aB N=>gH rfl aB<|yB 5 [0] [22,23] rfl<|bE N fun x aN N=>xK rfl rfl h aN ?_;intro ad aQ ar ap;obtain ⟨p3,c2,rfl,h3⟩:=wU ap;refine yB 7 [] [25] rfl<|xB 0 ar [vT x.Name.l] (vT x.Name.l) rfl<|bE N fun s1 bm N=>gH rfl bm<|yH [] [3] rfl<|zX<|yF [5] rfl<|xX<|rU [(1,vP b 0),(3,vT s1.l),(4,vI i),(5,vI 0)] ?_;obtain ⟨o0,aD,aM⟩:=zB N;refine zB7 p i s1 0 o0 aD iR h h1 (fun _ _ _ h=>hg _ _ _ h) (fun _ _ h=>ho _ _ h) ?_;intro ba aH heq aF;subst o0;have ⟨h,h1,H⟩:=m3 aF h h1 H;refine zR<|zG<|zJ<|yB 1 [] [52] rfl ?_;obtain ⟨s4,hy10,N⟩:=zB aM;exact gH rfl hy10<|yH [] [3] rfl<|zM<|zG<|zJ<|yH [] [4] rfl<|yK<|oY<|ih s4 (W (i+1)) _ N H h h1 hg ho hx
 intro aI N;exact wJ<|yL<|hx _ _ (zC N).symm H
def tD (p:zD) (i1:Int) (out6:Str) (k01:Int):Option (Str):=do
 let x5<-idx p.Parts i1
 if (decide (k01<(x5.Body.length:Int))) then
  let x6<-idx p.Parts i1
  let x7<-idx x6.Body k01
  let y3<-rV x7.Write
  let s7<-cat out6 y3
  let s8<-cat s7 (⟨[61]⟩:Str)
  let y4<-qQ x7.Value
  let s9<-cat s8 y4
  let s10<-cat s9 (⟨[10]⟩:Str)
  tD p i1 s10 (W (k01+1))
 else
  pure (id out6)
 partial_fixpoint
theorem zB9 (p:zD) (i1:Int):∀ (out6:Str) (k01:Int) (o:Str),tD p i1 out6 k01=some o->∀ {B}{I0 I:Imm}{Q p1 c p2 c1}{b:Nat},I0.le I->(S4 I p1 p.Arrays c)->(S4 I p2 p.Parts c1)->NG Q->NO Q->(∀ (I':Imm) (out7:Str),o=out7->I0.le I'->T 103 B Q (.exit 6) I' [hB b (cProg p p1 c p2 c1)] [(1,vP b 0),(3,vT out7.l),(6,vI i1)])->J Tryz.prog 103 B (nav (bodyOf f176) [1,1,1,1,0,1,0,0,1,0,0,1,1,0]) Q I [hB b (cProg p p1 c p2 c1)] [(1,vP b 0),(3,vT out6.l),(6,vI i1),(7,vI k01)]:=by
 refine tD.partial_correctness p i1 _ fun aJ ih out6 k01 o N B I0 I Q p1 c p2 c1 b H h h1 hg ho hx=>yM hg ho<|zZ<|yE<|yB 4 [0] [71,73,74] rfl<|bE N fun x5 hy15 N=>xK rfl rfl h1 hy15 ?_;intro ad5 ccs5 hat5 hrep5;obtain ⟨p8,c7,p9,c8,rfl,h10,h11⟩:=wR hrep5;refine yB 6 [] [76] rfl<|xB 1 hat5 [vS p9 x5.Body c8] (vS p9 x5.Body c8) rfl<|yH [] [79] rfl<|zG<|yC N ?_ ?_
 · intro bO N;refine zS<|zX<|yG<|yE<|yB 3 [0] [83,84] rfl<|bE N fun x6 hy16 N=>xK rfl rfl h1 hy16 ?_;intro ad6 ccs6 hat6 hrep6;obtain ⟨bi,c9,aR,bh,rfl,h12,h13⟩:=wR hrep6;refine yB 5 [] [86] rfl<|xB 1 hat6 [vS aR x6.Body bh] (vS aR x6.Body bh) rfl<|yB 7 [] [88] rfl<|bE N fun x7 hy17 N=>xK rfl rfl h13 hy17 ?_;intro ad7 ccs7 hat7 hrep7;obtain ⟨bD,bc,bq,bo,p14,bB,p15,c14,rfl,h14,h15,h16,h17⟩:=pR hrep7;refine xB 0 hat7 (cStmt x7 bD bc bq bo p14 bB p15 c14) (vA (cStmt x7 bD bc bq bo p14 bB p15 c14)) rfl<|wS [vT ([]),z0,vI 0,vI 0,z0,vI 0,vT ([]),z0,z0] ?_;intro b1 hb1;refine xJ 0 (cStmt x7 bD bc bq bo p14 bB p15 c14) rfl<|yD rfl<|zG ?_;obtain ⟨y3,hy18,N⟩:=zB N;obtain ⟨s7,hy19,N⟩:=zB N;obtain ⟨s8,hy20,N⟩:=zB N;obtain ⟨y4,hy21,N⟩:=zB N;obtain ⟨s9,hy22,N⟩:=zB N;obtain ⟨s10,hy23,N⟩:=zB N;refine wQ [.p (vT out6.l) [],.p (vP b1 0) [],.p (vA (cAccess x7.Write bD bc)) [0],.q (vT y3.l),.q (vT s7.l),.q (vT s8.l),.p (vP b1 2) [],.p (vA (cExpr x7.Value bq bo p14 bB p15 c14)) [0],.q (vT y4.l),.q (vT s9.l),.q (vT s10.l)] [[],[],[(1,false)],[(2,false)],[(0,false),(3,false)],[(4,false)],[],[(6,false)],[(7,false)],[(5,false),(8,false)],[(9,false)]] [hB b1 (cStmt x7 bD bc bq bo p14 bB p15 c14),hB b (cProg p p1 c p2 c1)] [] [(10,false)] (zY [0,1]) ?_ ?_
   · refine Op<|Op<|Op<|Oq ?_<|Oq ?_<|Oq ?_<|Op<|Op<|Oq ?_<|Oq ?_<|Oq ?_<|On
     · intro I1 hf af;refine yT [93] rfl ?_;have H:=iS I1;have h14:=h14.mono af;refine xL (fU x7.Write _ hy18 h14) ?_;rintro bR ay v2 k2 bz - ⟨v016,rfl,rfl,rfl⟩ -;have H:=H.trans bz;exact xC H
     · intro I1 hf af;exact yT [91,94] rfl<|gH rfl hy19<|xC iR
     · intro I1 hf af;exact yT [95] rfl<|gH rfl hy20<|xC iR
     · intro I1 hf af;refine yT [98] rfl ?_;have H:=iS I1;have ⟨h15,h16,h17⟩:=m3 af h15 h16 h17;refine xL (zDE x7.Value _ hy21 h15 h16 h17) ?_;rintro I06 ay v2 k2 bC - ⟨v017,rfl,rfl,rfl⟩ -;have H:=H.trans bC;exact xC H
     · intro I1 hf af;exact yT [96,99] rfl<|gH rfl hy22<|xC iR
     intro I1 hf af;exact yT [100] rfl<|gH rfl hy23<|xC iR
   intro I07 le7;refine yT [1,6,7,101] rfl ?_;have ⟨h,h1,H⟩:=m3 le7 h h1 H;exact yH [] [3] rfl<|zM<|zG<|zJ<|yH [] [7] rfl<|yK<|kE (zW [1] rfl (by decide))<|oY<|ih s10 (W (k01+1)) _ N H h h1 hg ho hx
 intro bO N;exact wJ<|yL<|hx _ _ (zC N).symm H
def tE (p:zD) (bf:Str) (i1:Int):Option (Str):=do
 if (decide (i1<(p.Parts.length:Int))) then
  let s5<-cat bf (⟨[112,97,114,116,10]⟩:Str)
  let x4<-idx p.Parts i1
  let y2<-eU x4.Nest
  let s6<-cat s5 y2
  let out7<-tD p i1 s6 0
  tE p out7 (W (i1+1))
 else
  pure (id bf)
 partial_fixpoint
theorem zBa (p:zD):∀ (bf:Str) (i1:Int) (o:Str),tE p bf i1=some o->∀ {B}{I0 I:Imm}{Q p1 c p2 c1}{b:Nat},I0.le I->(S4 I p1 p.Arrays c)->(S4 I p2 p.Parts c1)->NG Q->NO Q->(∀ (I':Imm) (out5:Str),o=out5->I0.le I'->T 103 B Q (.exit 4) I' [] [(3,vT out5.l)])->J Tryz.prog 103 B (nav (bodyOf f176) [1,1,1,1,0,1,0]) Q I [hB b (cProg p p1 c p2 c1)] [(1,vP b 0),(3,vT bf.l),(6,vI i1)]:=by
 refine tE.partial_correctness p _ fun aJ ih bf i1 o N B I0 I Q p1 c p2 c1 b H h h1 hg ho hx=>yM hg ho<|zZ<|yE<|yH [0] [58] rfl<|zG<|yC N ?_ ?_
 · intro bK N;refine zS<|zX<|yG<|yE<|yB 1 [] [61] rfl<|bE N fun s5 hy11 N=>gH rfl hy11<|yB 5 [0] [64,65] rfl<|bE N fun x4 hy12 N=>xK rfl rfl h1 hy12 ?_;intro ad4 ccs4 hat4 hrep4;obtain ⟨p6,c5,p7,c6,rfl,h7,h8⟩:=wR hrep4;refine yB 7 [] [67] rfl<|xB 0 hat4 [vS p6 x4.Nest c5] (vS p6 x4.Nest c5) rfl<|bE N fun y2 hy13 N=>xL (zHn x4.Nest _ hy13 h7) ?_;rintro bL ay v2 k2 bk - ⟨v07,rfl,rfl,rfl⟩ -;have ⟨h,h1,H⟩:=m3 bk h h1 H;obtain ⟨s6,hy14,N⟩:=zB N;refine gH rfl hy14<|yH [] [3] rfl<|wM [7] rfl<|xX<|rU [(1,vP b 0),(3,vT s6.l),(6,vI i1),(7,vI 0)] ?_;obtain ⟨o02,ho02,hMl2⟩:=zB N;refine zB9 p i1 s6 0 o02 ho02 iR h h1 (fun _ _ _ h=>hg _ _ _ h) (fun _ _ h=>ho _ _ h) ?_;intro I08 out7 heq2 le8;subst o02;have ⟨h,h1,H⟩:=m3 le8 h h1 H;exact zR<|zM<|zG<|zJ<|yH [] [6] rfl<|yK<|oY<|ih out7 (W (i1+1)) _ hMl2 H h h1 hg ho hx
 intro bK N;exact wJ<|xQ zQ<|yL<|hx _ _ (zC N).symm H
def mC (p:zD):Option (Str):=do
 let y<-uR p
 if (!y) then
  pure (⟨[]⟩:Str)
 else
  let al<-tC p (⟨[112,114,111,103,114,97,109,10]⟩:Str) 0
  let out5<-tE p al 0
  pure (id out5)
theorem zCm:∀ p r,mC p=some r->∀ {I:Imm}{p1 c p2 c1},(S4 I p1 p.Arrays c)->(S4 I p2 p.Parts c1)->RT 176 [vA (cProg p p1 c p2 c1)] I [] (sA  r):=by
 intro p r N I p1 c p2 c1 h h1;unfold mC at N;refine yJ func176 fun B=>yE<|tO (cProg p p1 c p2 c1) ?_;intro b hb;refine wG [] []<|zX<|yE<|rQ 1 [0] [(9,vA (cProg p p1 c p2 c1))]<|bE N fun y hy N=>vQ (fW p _ hy h h1) ?_;intro I0 le;have ⟨h,h1⟩:=m2 le h h1;refine yH [] [11] rfl<|zG<|yC N ?_ ?_
 · intro hc N;refine yF [2] rfl<|xD<|zH ?_;obtain rfl:=zC N;exact wI
 intro hc N;refine zS<|wM [3] rfl<|zX<|yF [4] rfl<|xX<|rU [(1,vP b 0),(3,vT ([112,114,111,103,114,97,109,10])),(4,vI 0)] ?_;obtain ⟨aP,aA,hMl1⟩:=zB N;refine zB8 p (⟨[112,114,111,103,114,97,109,10]⟩:Str) 0 aP aA iR h h1 (fun _ _ _ h=>h) (fun _ _ h=>h) ?_;intro bH al heq1 aK;subst aP;have ⟨h,h1⟩:=m2 aK h h1;refine zR<|zX<|yF [6] rfl<|xX<|rU [(1,vP b 0),(3,vT al.l),(6,vI 0)] ?_;obtain ⟨o03,ho03,hMl3⟩:=zB hMl1;refine zBa p al 0 o03 ho03 iR h h1 (fun _ _ _ h=>h) (fun _ _ h=>h) ?_;intro I09 out5 heq3 le9;subst o03;refine zR<|wM [2] rfl<|zG<|yW ?_;obtain rfl:=zC hMl3;exact wI
instance zN6 {cs}{arr:List zF}{az}{am:List Raw2}{parts:List zO}{vN:Value}{nl:List zE}{vB:Value}{bl:List zP}{csN csB:List Value}:MonoI (fun i=>L4 i cs arr az am parts vN nl vB bl csN csB):=⟨fun _ _ hl h=>h.mono hl⟩
def zCS (r:zD×Bool):KT:=fun kk I' ah v=>
  ∃ (v0 v1:Value),ah=[]/\v=tupV [v0,v1]/\(∃ cs,v0=.agg ⟨cs⟩/\Rp.rep I' cs r.1)/\v1=.bool r.2
def rL (y:List Str) (p:zD) (i:Int):Option zD:=do
 if (decide ((W (i+1))<(y.length:Int))) then
  let x<-idx y i
  let p1<-eT p x
  rL y p1 (W (i+1))
 else
  pure p
 partial_fixpoint
theorem zBu (y:List Str):∀ (p:zD) (i:Int) (o:zD),rL y p i=some o->∀ {B}{I0 I:Imm}{Q}{bu:Str}{pl:Option Addr}{cl:Nat}{b b1:Nat}{p1 c cs p2 c1 az}{am:List Raw2}{vN vB:Value}{nl:List zE}{bl:List zP}{csN csB:List Value},I0.le I->(S4 I pl y cl)->L4 I cs p.Arrays az am p.Parts vN nl vB bl csN csB->(∀ l a w,¬Q (.goto l) a w)->(∀ a w,¬Q .outgrown a w) ->
   (∀ (I':Imm) (p1:Option Addr) (c:Nat) (cs:List Value) (p2:Option Addr) (c1:Nat) (az:List Value) (am:List Raw2) (vN vB:Value) (nl:List zE) (bl:List zP) (csN csB:List Value),I0.le I'->L4 I' cs o.Arrays az am o.Parts vN nl vB bl csN csB->T 37 B Q (.exit 0) I' [hO zF (vS p1 o.Arrays c) cs,hO Raw2 (vS p2 am c1) az,hO zE vN csN,hO zP vB csB,hB b1 [vS p1 o.Arrays c,vS p2 am c1],hB b zTwo] [(0,vT bu.l),(2,vP b 0),(5,vP b1 0)]) ->
   J Tryz.prog 37 B (nav (bodyOf f137) [1,1,1,1,0,1,0]) Q I [hO zF (vS p1 p.Arrays c) cs,hO Raw2 (vS p2 am c1) az,hO zE vN csN,hO zP vB csB,hB b1 [vS p1 p.Arrays c,vS p2 am c1],hB b zTwo] [(0,vT bu.l),(2,vP b 0),(4,vS pl y cl),(5,vP b1 0),(6,vI i)]:=by
 refine rL.partial_correctness y _ ?_
 intro aJ ih p i o N B I0 I Q bu pl cl b b1 p1 c cs p2 c1 az am vN vB nl bl csN csB H h hQ hg ho hx
 refine yM hg ho<|zZ<|yF [18] rfl<|zG<|yC N ?_ ?_
 · intro aI N
   refine zS<|zX<|yG ?_
   obtain ⟨x,hy,N⟩:=zB N
   obtain ⟨q,aB,N⟩:=zB N
   refine wQ [.p (vA [vS p1 p.Arrays c,vS p2 am c1]) [0],.p (vS pl y cl) [],.p (vI i) [],.x (fun I' v hx=>∃ ad,v=.pointer (some ad)/\hx=[]/\(At I' ad [vT x.l])),.x (fun I' v hx=>v=vT x.l/\hx=[]),.x (fun I' v hx=>∃ (p1:Option Addr) (c:Nat) (cs:List Value) (p2:Option Addr) (c1:Nat) (az:List Value) (am:List Raw2) (vN vB:Value) (nl:List zE) (bl:List zP) (csN csB:List Value),v=vA [vS p1 q.Arrays c,vS p2 am c1]/\hx=[hO zF (vS p1 q.Arrays c) cs,hO Raw2 (vS p2 am c1) az,hO zE vN csN,hO zP vB csB]/\L4 I' cs q.Arrays az am q.Parts vN nl vB bl csN csB)] [[],[],[],[(1,false),(2,false)],[(3,false)],[(0,false),(4,false),(7,true)]] [hB b1 [vS p1 p.Arrays c,vS p2 am c1],hB b zTwo] [[hO zF (vS p1 p.Arrays c) cs,hO Raw2 (vS p2 am c1) az,hO zE vN csN,hO zP vB csB]] [(5,true)] (zY [4,5,0,1,2,3]) ?_ ?_
   · refine Op<|Op<|Op<|Ox ?_<|Ox ?_<|Ox (hm:=fun v hx=>by repeat' (first | exact zGk | exact zN6 | refine @zKS _ _ (fun _=>?_) | refine @zJF _ _ ?_ ?_)) ?_<|On
     · intro I1 hf af
       refine yT [22,23] rfl<|xK rfl rfl (h.mono af) hy ?_
       intro ad aQ ar ap
       obtain rfl:=ap
       exact yN [] iR ⟨_,rfl,rfl,ar⟩
     · intro I1 hf af
       refine wE ?_
       rintro _ _ ⟨ad,rfl,rfl,ar⟩
       exact oQ<|zBF [(24,.pointer (some ad))]<|xB 0 ar [vT x.l] (vT x.l) rfl<|xC iR
     intro I1 hf af
     refine wE ?_
     rintro _ _ ⟨rfl,rfl⟩
     refine wE ?_
     rintro _ _ ⟨rfl,rfl⟩
     refine wE ?_
     rintro _ _ rfl
     refine yT [21,25] rfl<|sJ (zHk p x _ aB (hQ.mono af)) rfl ?_
     rintro ba ay v2 k2 aF - ⟨p3,c2,aS,p4,c3,aT,raws1,vN1,vB1,nl1,bl1,csN1,csB1,rfl,rfl,hq⟩ -
     exact yN [hO zF (vS p3 q.Arrays c2) aS,hO Raw2 (vS p4 raws1 c3) aT,hO zE vN1 csN1,hO zP vB1 csB1] aF ⟨_,_,_,_,_,_,_,_,_,_,_,_,_,rfl,rfl,hq⟩
   intro bL bk
   refine wE ?_
   rintro _ _ ⟨p3,c2,aS,p4,c3,aT,raws1,vN1,vB1,nl1,bl1,csN1,csB1,rfl,rfl,hq⟩
   exact oQ<|zBF [(0,vT bu.l),(2,vP b 0),(4,vS pl y cl),(5,vP b1 0),(6,vI i),(26,vA [vS p3 q.Arrays c2,vS p4 raws1 c3])]<|xJ 4 [vS p3 q.Arrays c2,vS p4 raws1 c3] rfl<|yD rfl<|zM<|zG<|zJ<|yH [] [6] rfl<|yK<|oY<|ih _ _ _ N (H.trans bk) (h.mono bk) hq hg ho hx
 intro aI N
 obtain rfl:=zC N
 exact wJ<|yL<|hx _ _ _ _ _ _ _ _ _ _ _ _ _ _ H hQ
def mP (bu:Str):Option (zD×Bool):=do
 let y<-jG bu (10:UInt8)
 if (decide ((y.length:Int)>42)) then
  pure ((zD.mk [] []),false)
 else
  let p<-rL y (zD.mk [] []) 1
  let t34<-(do
    if (bu.l==([]:List UInt8)) then
     pure true
    else
     let z<-mC p
     pure (!(z.l==bu.l))
      : Option Bool)
  if t34 then
   pure ((zD.mk [] []),false)
  else
   pure (p,true)
theorem zDI:∀ bu r,mP bu=some r->∀ {I:Imm},RT 137 [vT bu.l] I [] (zCS r):=by
 intro bu r N I;unfold mP at N;refine yJ func137 fun B=>yE<|wS zTwo ?_;intro b hb;refine wG [] []<|yX<|yB 1 [] [7] rfl<|bE N fun y hy N=>xL (zAr bu (10:UInt8) _ hy) ?_;rintro I0 ay v2 k2 le - ⟨v0,rfl,rfl,h⟩ -;obtain ⟨pl,cl,rfl⟩:=h.form;refine yH [] [4] rfl<|yX<|yB 1 [] [9] rfl<|wS zTwo ?_;intro b1 hb1;refine zB5 0 zTwo [hB b1 zTwo,hB b zTwo] rfl rfl rfl rfl<|yD rfl<|zX<|yF [12] rfl<|zG<|yC N ?_ ?_
 · intro hc N;refine yE<|rQ 1 [0] [(13,vA zTwo)]<|zB5 1 zTwo [hB b1 zTwo,hB b zTwo] rfl rfl rfl rfl<|wG [] [(3,vF)]<|xD<|zH ?_;obtain rfl:=zC N;exact yZ ⟨_,_,(.cell 1 rfl rfl (by kernel_rfl) (.tmp rfl ResV.nil)),zQ,⟨_,_,rfl,rfl,⟨_,rfl,(vR ⟨_,_,rfl,(SL.nil _),(SL.nil _)⟩)⟩,rfl⟩⟩
 intro hc N;refine zS<|zX<|yF [6] rfl<|xX<|rU [(0,vT bu.l),(2,vP b 0),(4,vS pl y cl),(5,vP b1 0),(6,vI 1)]<|kE (nX (Rp.sz zP))<|kE (nX (Rp.sz zE))<|kE (nX (Rp.sz Raw2))<|kE (nX (Rp.sz zF))<|bE N fun p aB N=>zBu (am:=[]) (vN:=z0) (vB:=z0) (nl:=[]) (bl:=[]) y (zD.mk [] []) 1 p aB iR h ⟨RepL.nil,RepL.nil,⟨by decide,rfl,.inl ⟨rfl,rfl⟩⟩,RepL.nil,RepL.nil⟩ (fun _ _ _ h=>h) (fun _ _ h=>h) fun I1 p1 c cs p2 c1 az am vN vB nl bl csN csB af hQ=>yU 2 rfl ?_;intro I2 aF hl2;have kN:=SL.of_frozen hl2 aF hQ.n;have hQ:=hQ.mono aF;refine yU 2 rfl ?_;intro I3 aK hl3;have kB:=SL.of_frozen hl3 aK hQ.b;replace kN:=kN.mono aK;have hQ:=hQ.mono aK;refine yU 0 rfl ?_;intro I4 bk hl4;have kA:=SL.of_frozen hl4 bk hQ.arr;replace kN:=kN.mono bk;replace kB:=kB.mono bk;have hQ:=hQ.mono bk;refine yU 0 rfl ?_;intro I5 bz hl5;have kP:SL I5 (vS p2 am c1) p.Parts:=⟨az,hl5,by
   rw [jR hQ.raw];exact (hQ.lp.done kN kB).mono fun _ _=>Rp.mono bz⟩
 have e0:vS p2 am c1=vS p2 p.Parts c1:=by simp only [vS,hQ.lp.2.1]
 rw [e0] at kP ⊢;clear e0 hl5 hl4 hl3 hl2 hQ;replace kA:=kA.mono bz;refine zR<|zX<|zZ<|bE N fun t34 ht N=>qF (K1 t34 I5 [hB b1 (cProg p p1 c p2 c1),hB b zTwo] fun o=>[(2,vP b 0),(5,vP b1 0),(34,.bool o)]) ?_ ?_
 · refine zJ<|rQ 3 [] [(29,.bool (bu.l==([]:List UInt8)))] ?_;cases aX:(bu.l==([]:List UInt8)) with
   | true =>
    have hM0:=sQ aX ht;exact wG [] [(34,vY)]<|yL<|zU ⟨_,(zC hM0).symm,Imm.le.refl _,rfl,rfl⟩
   | false =>
    have hM0:=tH aX ht;obtain ⟨z,hz,hM0⟩:=zB hM0;refine rQ 4 [0] [(30,vA (cProg p p1 c p2 c1))]<|xL (zCm p _ hz kA kP) ?_;rintro I6 ay v2 k2 bC - ⟨v0,rfl,rfl,rfl⟩ -;exact yH [] [34] rfl<|yL<|zU (ct hM0 bC)
 rintro I6 ay m2 ⟨o,rfl,bC,rfl,rfl⟩;replace kA:=kA.mono bC;replace kP:=kP.mono bC;refine zG<|yC N ?_ ?_
 · intro aX N;refine yE<|yB 1 [] [35] rfl<|zB5 1 zTwo [hB b1 (cProg p p1 c p2 c1),hB b zTwo] rfl rfl rfl rfl<|wG [] [(3,vF)]<|xD<|zH ?_;obtain rfl:=zC N;exact yZ ⟨_,_,(.cell 1 rfl rfl (by kernel_rfl) (.tmp rfl ResV.nil)),zQ,⟨_,_,rfl,rfl,⟨_,rfl,(vR ⟨_,_,rfl,(SL.nil _),(SL.nil _)⟩)⟩,rfl⟩⟩
 intro aX N;refine zS<|yX<|rQ 1 [0] [(36,vA (cProg p p1 c p2 c1))]<|xJ 1 (cProg p p1 c p2 c1) rfl<|wG [] [(3,vY)]<|zG<|yW ?_;obtain rfl:=zC N;exact yZ ⟨_,_,(.cell 1 rfl rfl (by kernel_rfl) (.tmp rfl ResV.nil)),zQ,⟨_,_,rfl,rfl,⟨_,rfl,(vR ⟨_,_,rfl,kA,kP⟩)⟩,rfl⟩⟩
def zGQ (r:(List zF)):KT:=fun kk I' ah v=>
  ∃ v0,ah=[]/\v=tupV [v0]/\SL I' v0 r
def jK :Option ((List zF)):=do
 pure ([(zF.mk (⟨[65]⟩:Str) ([6]:List Int)),(zF.mk (⟨[66]⟩:Str) ([4,5]:List Int)),(zF.mk (⟨[67]⟩:Str) ([3]:List Int))]:List zF)
theorem dY:∀ r,jK =some r->∀ {I:Imm} ,RT 177 [] I [] (zGQ  r):=by
 intro  r N I;unfold jK at N;refine yJ func177 fun B=>wP []<|yX<|uK [vI 6] Int ?_;intro b hb;have h:RL I [vI 6] ([6]:List Int):=rI [6];refine yB 2 [] [2] rfl<|uK [vI 4,vI 5] Int ?_;intro b1 hb1;have h1:RL I [vI 4,vI 5] ([4,5]:List Int):=rI [4,5];refine yB 4 [] [4] rfl<|uK [vI 3] Int ?_;intro b2 hb2;have h2:RL I [vI 3] ([3]:List Int):=rI [3];refine yB 6 [] [6] rfl<|xH 2 rfl ?_;intro I0 le hl0;have h3:=SL.of_frozen hl0 le h;have ⟨h1,h2⟩:=m2 le h1 h2;refine xH 1 rfl ?_;intro aW af hl01;have h4:=SL.of_frozen hl01 af h1;have ⟨h3,h2⟩:=m2 af h3 h2;refine xH 0 rfl ?_;intro ba aF hl02;have h5:=SL.of_frozen hl02 aF h2;have ⟨h3,h4⟩:=m2 aF h3 h4;refine uK [vT ([65]),vS (some ⟨b,0,none⟩) ([6]:List Int) 1,vT ([66]),vS (some ⟨b1,0,none⟩) ([4,5]:List Int) 2,vT ([67]),vS (some ⟨b2,0,none⟩) ([3]:List Int) 1] zF ?_;intro b3 hb3;have h6:RL ba [vT ([65]),vS (some ⟨b,0,none⟩) ([6]:List Int) 1,vT ([66]),vS (some ⟨b1,0,none⟩) ([4,5]:List Int) 2,vT ([67]),vS (some ⟨b2,0,none⟩) ([3]:List Int) 1] ([(zF.mk (⟨[65]⟩:Str) ([6]:List Int)),(zF.mk (⟨[66]⟩:Str) ([4,5]:List Int)),(zF.mk (⟨[67]⟩:Str) ([3]:List Int))]:List zF):=⟨[vT ([65]),vS (some ⟨b,0,none⟩) ([6]:List Int) 1],_,rfl,rfl,(qU ⟨_,rfl,h3⟩),⟨[vT ([66]),vS (some ⟨b1,0,none⟩) ([4,5]:List Int) 2],_,rfl,rfl,(qU ⟨_,rfl,h4⟩),⟨[vT ([67]),vS (some ⟨b2,0,none⟩) ([3]:List Int) 1],_,rfl,rfl,(qU ⟨_,rfl,h5⟩),rfl⟩⟩⟩;refine yH [] [0] rfl<|xD<|yU 0 rfl ?_;intro bH aK hl03;have h7:=SL.of_frozen hl03 aK h6;obtain rfl:=zC N;exact yZ ⟨_,_,(.tmp rfl ResV.nil),zQ,⟨_,rfl,rfl,h7⟩⟩
def rW (a0:zA) (x:Int) (b:zA) (y:Int) (i:Int) (Coefs:List Int):Option (List Int):=do
 if (decide (i<4)) then
  let x1<-idx a0.Coefs i
  let x2<-idx b.Coefs i
  let l<-app 8 Coefs ([(W ((W (x*x1))+(W (y*x2))))]:List Int)
  rW a0 x b y (W (i+1)) l
 else
  pure (id Coefs)
 partial_fixpoint
theorem zDJ (a0:zA) (x:Int) (b:zA) (y:Int):∀ (i:Int) (Coefs:List Int) (o:List Int),rW a0 x b y i Coefs=some o->∀ {B}{I0 I:Imm}{Q p c p1 c1}{b1:Nat}{b2:Nat}{b3:Nat}{b4:Nat}{p2 c2 cs},I0.le I->(S4 I p1 b.Coefs c1)->(S4 I p a0.Coefs c)->(RL I cs Coefs)->NG Q->NO Q->(∀ (I':Imm) (Coefs1:List Int) (p3:Option Addr) (c3:Nat) (az:List Value),o=Coefs1->I0.le I'->(RL I' az Coefs1)->T 46 B Q (.exit 0) I' [hO Int (vS p3 Coefs1 c3) az,hB b4 [vS p3 Coefs1 c3,vI (W ((W (x*a0.Const))+(W (y*b.Const))))],hB b3 [z0,vI 0]] [(8,vP b3 0),(9,vP b4 0)])->J Tryz.prog 46 B (nav (bodyOf f264) [1,1,0,1,0]) Q I [hO Int (vS p2 Coefs c2) cs,hB b4 [vS p2 Coefs c2,vI (W ((W (x*a0.Const))+(W (y*b.Const))))],hB b3 [z0,vI 0],hB b2 (cAff b p1 c1),hB b1 (cAff a0 p c)] [(1,vI x),(3,vI y),(4,vP b1 0),(6,vP b2 0),(8,vP b3 0),(9,vP b4 0),(10,vI i)]:=by
 refine rW.partial_correctness a0 x b y _ fun aJ ih i Coefs o N B I0 I Q p c p1 c1 b1 b2 b3 b4 p2 c2 cs H h1 h h3 hg ho hx=>yM hg ho<|zZ<|yF [22] rfl<|zG<|yC N ?_ ?_
 · intro hc N;refine zS<|zX<|yG ?_;obtain ⟨x1,hy,N⟩:=zB N;obtain ⟨x2,aB,N⟩:=zB N;obtain ⟨l,aN,N⟩:=zB N;refine wQ [.p (vP b4 0) [],.p (vS p2 Coefs c2) [0],.p (vI x) [],.p (vP b1 0) [],.p (vS p a0.Coefs c) [3],.p (vI i) [],.x (fun I' v hx=>∃ ad,v=.pointer (some ad)/\hx=[]/\(At I' ad [vI x1])),.q (vI x1),.p (vI (W (x*x1))) [],.p (vI y) [],.p (vP b2 0) [],.p (vS p1 b.Coefs c1) [2],.p (vI i) [],.x (fun I' v hx=>∃ ad1,v=.pointer (some ad1)/\hx=[]/\(At I' ad1 [vI x2])),.q (vI x2),.p (vI (W (y*x2))) [],.p (vI (W ((W (x*x1))+(W (y*x2))))) [],.x (fun I' v hx=>∃ b5,v=vS (some ⟨b5,0,none⟩) ([(W ((W (x*x1))+(W (y*x2))))]:List Int) 1/\hx=[]/\(SL I' (vS (some ⟨b5,0,none⟩) ([(W ((W (x*x1))+(W (y*x2))))]:List Int) 1) ([(W ((W (x*x1))+(W (y*x2))))]:List Int))),.x (fun I' v hx=>∃ p4 c4 aS,v=vS p4 l c4/\hx=[hO Int (vS p4 l c4) aS]/\(RL I' aS l))] [[],[(0,false)],[],[],[(3,false)],[],[(4,false),(5,false)],[(6,false)],[(2,false),(7,false)],[],[],[(10,false)],[],[(11,false),(12,false)],[(13,false)],[(9,false),(14,false)],[(8,false),(15,false)],[(16,false)],[(1,false),(17,false),(21,true)]] [hB b4 [vS p2 Coefs c2,vI (W ((W (x*a0.Const))+(W (y*b.Const))))],hB b3 [z0,vI 0],hB b2 (cAff b p1 c1),hB b1 (cAff a0 p c)] [[hO Int (vS p2 Coefs c2) cs]] [(18,true)] (zY [1,2,3,4,0]) ?_ ?_
   · refine Op<|Op<|Op<|Op<|Op<|Op<|Ox ?_<|Oq ?_<|Op<|Op<|Op<|Op<|Op<|Ox ?_<|Oq ?_<|Op<|Op<|Ox ?_<|Ox ?_<|On
     · intro I1 hf af;refine yT [29,30] rfl ?_;have h:=h.mono af;refine xK rfl rfl h hy ?_;intro ad aQ ar ap;obtain rfl:=ap;exact yN [] iR ⟨_,rfl,rfl,ar⟩
     · rintro I1 hf af _ _ ⟨ad,rfl,rfl,ar⟩;exact yT [31] rfl<|xB 0 ar [vI x1] (vI x1) rfl<|xC iR
     · intro I1 hf af;refine yT [36,37] rfl ?_;have h1:=h1.mono af;refine xK rfl rfl h1 aB ?_;intro ad1 bv av ax;obtain rfl:=ax;exact yN [] iR ⟨_,rfl,rfl,av⟩
     · rintro I1 hf af _ _ ⟨ad1,rfl,rfl,av⟩;exact yT [38] rfl<|xB 0 av [vI x2] (vI x2) rfl<|xC iR
     · intro I1 hf af;refine yT [41] rfl ?_;have H:=iS I1;refine mN (rI [(W ((W (x*x1))+(W (y*x2))))]) ?_;intro b5 I0 le h6;have H:=H.trans le;exact yN [] H ⟨_,rfl,rfl,h6⟩
     rintro I1 hf af _ _ ⟨rfl,rfl⟩ _ _ ⟨b5,rfl,rfl,h6⟩ _ _ rfl;refine yT [26,42] rfl ?_;have h3:=iM af h3;obtain ⟨bP,k0,k01⟩:=h6;have h6:SL I1 (vS (some ⟨b5,0,none⟩) ([(W ((W (x*x1))+(W (y*x2))))]:List Int) 1) ([(W ((W (x*x1))+(W (y*x2))))]:List Int):=⟨_,k0,k01⟩;exact sU 3 1 0 rfl rfl rfl h3 (.inl k0) k01 aN fun p4 c4 aS h7=>wN (ah:=(hO Int (vS p4 l c4) aS::hB b4 [vS p2 Coefs c2,vI (W ((W (x*a0.Const))+(W (y*b.Const))))]::hB b3 [z0,vI 0]::hB b2 (cAff b p1 c1)::hB b1 (cAff a0 p c)::hf)) rfl<|yN [hO Int (vS p4 l c4) aS] iR ⟨_,_,_,rfl,rfl,h7⟩
   rintro aW af _ _ ⟨p4,c4,aS,rfl,rfl,h7⟩;refine yT [1,3,4,6,8,9,10,43] rfl ?_;have ⟨h1,h,H⟩:=m3 af h1 h H;exact yB 20 [] [44] rfl<|xJ 1 [vS p4 l c4,vI (W ((W (x*a0.Const))+(W (y*b.Const))))] rfl<|yD rfl<|zM<|zG<|zJ<|yH [] [10] rfl<|yK<|oY<|ih (W (i+1)) l _ N H h1 h h7 hg ho hx
 intro hc N;exact wJ<|xQ (zW [0,1,2] rfl (by decide))<|yL<|hx _ _ _ _ _ (zC N).symm H h3
def kC (a0:zA) (x:Int) (b:zA) (y:Int):Option (zA):=do
 let Coefs1<-rW a0 x b y 0 ([]:List Int)
 pure (zA.mk Coefs1 (W ((W (x*a0.Const))+(W (y*b.Const)))))
theorem zBW:∀ a0 x b y r,kC a0 x b y=some r->∀ {I:Imm}{p c p1 c1},(S4 I p a0.Coefs c)->(S4 I p1 b.Coefs c1)->RT 264 [vA (cAff a0 p c),vI x,vA (cAff b p1 c1),vI y] I [] (gN  r):=by
 intro a0 x b y r N I p c p1 c1 h h1;unfold kC at N;refine yJ func264 fun B=>yE<|tO (cAff a0 p c) ?_;intro b1 hb;refine tO (cAff b p1 c1) ?_;intro b2 hb1;refine wS [z0,vI 0] ?_;intro b3 hb2;refine yD rfl<|yX<|rQ 10 [2,1] [(20,vA [z0,vI (W ((W (x*a0.Const))+(W (y*b.Const))))])]<|wS [z0,vI 0] ?_;intro b4 hb3;refine xJ 0 [z0,vI (W ((W (x*a0.Const))+(W (y*b.Const))))] rfl<|yD rfl<|zX<|yF [10] rfl<|xX<|rU [(1,vI x),(3,vI y),(4,vP b1 0),(6,vP b2 0),(8,vP b3 0),(9,vP b4 0),(10,vI 0)]<|zAI Int fun h2=>?_;obtain ⟨o0,aD,aM⟩:=zB N;refine zDJ a0 x b y 0 ([]:List Int) o0 aD iR h1 h h2 (fun _ _ _ h=>h) (fun _ _ h=>h) ?_;intro ba Coefs1 p3 c3 az heq aF h4;subst o0;refine zR<|yX<|rQ 1 [1] [(45,vA [vS p3 Coefs1 c3,vI (W ((W (x*a0.Const))+(W (y*b.Const))))])]<|xJ 2 [vS p3 Coefs1 c3,vI (W ((W (x*a0.Const))+(W (y*b.Const))))] rfl<|yD rfl<|xD<|yU 0 rfl ?_;intro bH aK hl01;have h8:=SL.of_frozen hl01 aK h4;obtain rfl:=zC aM;exact yZ ⟨_,_,(.cell 1 rfl rfl (by kernel_rfl) ResV.nil),zQ,⟨_,rfl,rfl,⟨_,rfl,(yO ⟨_,rfl,h8⟩)⟩⟩⟩
def zGR (b0:Nat) (r:zE×zN):KT:=fun kk I' ah v=>
  ∃ v0 k0,ah=[.blk b0 ⟨k0⟩]/\v=tupV [v0]/\(∃ cs,v0=.agg ⟨cs⟩/\Rp.rep I' cs r.1)/\Rp.rep I' k0 r.2
def eV (r0:zN) (aa:Int):Option (zE×zN):=do
 let (y1,y2)<-yV r0 ([0,0,1,0,(-1)]:List Int)
 let y3<-vD y1
 let (y5,y6)<-yV y2 ([3,4,2,3,1]:List Int)
 let y7<-vD y5
 let (t23,x)<-(do
   if (decide (aa>0)) then
    let (y9,y10)<-xA y6 4
    pure ((y9==0),y10)
   else
    pure (false,y6)
     : Option (Bool×zN))
 let (x1,x2,x3)<-(do
   if t23 then
    let (y12,y13)<-xA x aa
    let (y15,y16)<-xA y13 2
    let (x4,x5)<-(do
      if (y15==0) then
       let y17<-mT y12
       pure (y17,(zA.mk y7.Coefs y7.Const))
      else
       let y18<-mT y12
       let y19<-vD 1
       let y20<-kC y18 1 y19 1
       pure ((zA.mk y3.Coefs y3.Const),y20)
        : Option (zA×zA))
    pure (x4,x5,y16)
   else
    pure ((zA.mk y3.Coefs y3.Const),(zA.mk y7.Coefs y7.Const),x)
     : Option (zA×zA×zN))
 let (y22,y23)<-xA x3 12
 let (Lo,Hi,x6)<-(do
   if (y22==0) then
    let (y25,y26)<-yV y23 ([3,2,4]:List Int)
    let y27<-vD y25
    let l<-app 32 ([x2]:List zA) ([y27]:List zA)
    pure (([x1]:List zA),l,y26)
   else
    let (Lo1,x7)<-(do
      if (y22==1) then
       let (y29,y30)<-yV y23 ([0,1]:List Int)
       let y31<-vD y29
       let l1<-app 32 ([x1]:List zA) ([y31]:List zA)
       pure (l1,y30)
      else
       pure (([x1]:List zA),y23)
        : Option (List zA×zN))
    pure (Lo1,([x2]:List zA),x7)
     : Option (List zA×List zA×zN))
 pure ((zE.mk Lo Hi),x6)
theorem zHo:∀ r0 aa r,eV r0 aa=some r->∀ {I:Imm}{aw:Nat}{p c},(S4 I p r0.b c)->RT 244 [vP aw 0,vI aa] I [hB aw (cRd r0 p c)] (zGR aw r):=by
 intro r0 aa r N I aw p c h;unfold eV at N;refine yJ func244 fun B=>?_;have H:=iS I;refine yE<|wS zTwo ?_;intro b hb;refine yD rfl<|yX<|yB 1 [] [9] rfl<|mN (rI [0,0,1,0,(-1)]) ?_;intro b1 I0 le h2;have ⟨h,H⟩:=m2 le h H;refine tZ (zY [1,0] (ah:=[hB aw (cRd r0 p c),hB b zTwo])) ?_;obtain ⟨⟨y1,y2⟩,hy,N⟩:=zB N;refine sJ (xE r0 ([0,0,1,0,(-1)]:List Int) _ hy h h2) rfl ?_;rintro aW ay v2 k2 af - ⟨v0,kk,rfl,rfl,rfl,h4⟩ -;have H:=H.trans af;obtain ⟨p1,c1,rfl,h5⟩:=yA h4;obtain ⟨y3,aB,N⟩:=zB N;refine xL (uT y1 _ aB ) ?_;rintro ba ay v2 k2 aF - ⟨p2,c2,cs,rfl,rfl,h6⟩ -;have ⟨h5,H⟩:=m2 aF h5 H;refine wS [z0,vI 0] ?_;intro b2 hb2;refine xJ 0 (cAff y3 p2 c2) rfl<|yD rfl<|yX<|yB 1 [] [13] rfl<|mN (rI [3,4,2,3,1]) ?_;intro b3 bH aK h8;have ⟨h6,h5,H⟩:=m3 aK h6 h5 H;refine tZ (zY [2,0,1,3] (ah:=[hB aw (cRd y2 p1 c1),hB b2 (cAff y3 p2 c2),hO Int (vS p2 y3.Coefs c2) cs,hB b zTwo])) ?_;obtain ⟨⟨y5,y6⟩,aN,N⟩:=zB N;refine sJ (xE y2 ([3,4,2,3,1]:List Int) _ aN h5 h8) rfl ?_;rintro bL ay v2 k2 bk - ⟨v02,kk1,rfl,rfl,rfl,h10⟩ -;have ⟨h6,H⟩:=m2 bk h6 H;obtain ⟨p3,c3,rfl,h11⟩:=yA h10;obtain ⟨y7,bm,N⟩:=zB N;refine xL (uT y5 _ bm ) ?_;rintro bR ay v2 k2 bz - ⟨p4,c4,az,rfl,rfl,h12⟩ -;have ⟨h11,h6,H⟩:=m3 bz h11 h6 H;refine wS [z0,vI 0] ?_;intro b4 hb4;refine xJ 0 (cAff y7 p4 c4) rfl<|yD rfl<|zX<|zZ ?_;obtain ⟨o0,aD,aU⟩:=zB N;refine qF (fun I' ah m'=>∃ (t23:Bool) (x:zN) (p5:Option Addr) (c5:Nat),o0=(t23,x)/\bR.le I'/\(S4 I' p5 x.b c5)/\ah=[hB b4 (cAff y7 p4 c4),hO Int (vS p4 y7.Coefs c4) az,hB aw (cRd x p5 c5),hB b2 (cAff y3 p2 c2),hO Int (vS p2 y3.Coefs c2) cs,hB b zTwo]/\m'=[(0,vP aw 0),(1,vI aa),(4,vP b 0),(5,vP b2 0),(6,vP b4 0),(23,.bool t23)]) ?_ ?_
 · have H:=iS bR;refine zJ<|yB 3 [] [19] rfl<|xV [19] aD ?_ ?_
   · intro hc N;refine yB 4 [] [20] rfl<|tZ (zY [2,0,1,3,4,5] (ah:=[hB aw (cRd y6 p3 c3),hB b4 (cAff y7 p4 c4),hO Int (vS p4 y7.Coefs c4) az,hB b2 (cAff y3 p2 c2),hO Int (vS p2 y3.Coefs c2) cs,hB b zTwo])) ?_;obtain ⟨⟨y9,y10⟩,bw,N⟩:=zB N;refine sJ (xR y6 4 _ bw h11) rfl ?_;rintro I07 ay v2 k2 bC - ⟨v04,kk2,rfl,rfl,rfl,h15⟩ -;have H:=H.trans bC;obtain ⟨p6,c6,rfl,h16⟩:=yA h15;exact yH [] [23] rfl<|xQ (zW [1,2,0,3,4,5] rfl (by decide))<|yL<|zU ⟨_,_,_,_,(zC N).symm,H,h16,rfl,rfl⟩
   intro hc N;exact wG [] [(23,vF)]<|yL<|zU ⟨_,_,_,_,(zC N).symm,H,h11,rfl,rfl⟩
 rintro I06 ay m2 ⟨t23,x,p5,c5,heq,le7,h13,rfl,rfl⟩;subst o0;have ⟨h12,h6,H⟩:=m3 le7 h12 h6 H;refine zG<|pH 4 rfl ?_;intro I08 le8 hl02;have h17:=SL.of_frozen hl02 le8 h6;have ⟨h12,h13,H⟩:=m3 le8 h12 h13 H;refine pH 1 rfl ?_;intro I09 le9 hl03;have h18:=SL.of_frozen hl03 le9 h12;have ⟨h13,h17,H⟩:=m3 le9 h13 h17 H;obtain ⟨aP,aA,hMc1⟩:=zB aU;refine qF (fun I' ah m'=>∃ (x1:zA) (x2:zA) (x3:zN) (p7:Option Addr) (c7:Nat) (p8:Option Addr) (c8:Nat) (p9:Option Addr) (c9:Nat),aP=(x1,x2,x3)/\I09.le I'/\(S4 I' p7 x1.Coefs c7)/\(S4 I' p8 x2.Coefs c8)/\(S4 I' p9 x3.b c9)/\ah=[hB b4 (cAff x2 p8 c8),hB aw (cRd x3 p9 c9),hB b2 (cAff x1 p7 c7),hB b zTwo]/\m'=[(0,vP aw 0),(4,vP b 0),(5,vP b2 0),(6,vP b4 0)]) ?_ ?_
 · have H:=iS I09;refine yC aA ?_ ?_
   · intro aI N;refine yE<|yB 2 [] [24,25] rfl<|tZ (zY [1,0,2,3] (ah:=[hB aw (cRd x p5 c5),hB b4 (cAff y7 p4 c4),hB b2 (cAff y3 p2 c2),hB b zTwo])) ?_;obtain ⟨⟨y12,y13⟩,bI,N⟩:=zB N;refine sJ (xR x aa _ bI h13) rfl ?_;rintro bY ay v2 k2 le10 - ⟨v06,kk3,rfl,rfl,rfl,h23⟩ -;have ⟨h18,h17,H⟩:=m3 le10 h18 h17 H;obtain ⟨bi,bh,rfl,h24⟩:=yA h23;refine yH [] [7] rfl<|yX<|yB 1 [] [27] rfl ?_;obtain ⟨⟨y15,y16⟩,hy6,N⟩:=zB N;refine sJ (xR y13 2 _ hy6 h24) rfl ?_;rintro bX ay v2 k2 le11 - ⟨v08,kk4,rfl,rfl,rfl,h26⟩ -;have ⟨h18,h17,H⟩:=m3 le11 h18 h17 H;obtain ⟨aR,bc,rfl,h27⟩:=yA h26;refine yH [] [29] rfl<|zG ?_;obtain ⟨o02,ho02,hMc2⟩:=zB N;refine qF (fun I' ah m'=>∃ (x4:zA) (x5:zA) (bD:Option Addr) (bo:Nat) (bq:Option Addr) (bB:Nat),o02=(x4,x5)/\bX.le I'/\(S4 I' bD x4.Coefs bo)/\(S4 I' bq x5.Coefs bB)/\ah=[hB aw (cRd y16 aR bc),hB b4 (cAff x5 bq bB),hB b2 (cAff x4 bD bo),hB b zTwo]/\m'=[(0,vP aw 0),(4,vP b 0),(5,vP b2 0),(6,vP b4 0)]) ?_ ?_
     · have H:=iS bX;refine yC ho02 ?_ ?_
       · intro aX N;refine zJ<|yB 1 [] [30] rfl<|bE N fun y17 hy7 N=>xL (eM y12 _ hy7 ) ?_;rintro I014 ay v2 k2 le12 - ⟨v010,rfl,rfl,⟨aS,rfl,h30⟩⟩ -;have ⟨h18,H⟩:=m2 le12 h18 H;obtain ⟨p14,c14,rfl,h31⟩:=yQ h30;exact xJ 2 (cAff y17 p14 c14) rfl<|yD rfl<|yL<|zU ⟨_,_,_,_,_,_,(zC N).symm,H,h31,h18,rfl,rfl⟩
       intro aX N;refine zJ<|yB 1 [] [32] rfl<|bE N fun y18 hy8 N=>xL (eM y12 _ hy8 ) ?_;rintro I015 ay v2 k2 le13 - ⟨v012,rfl,rfl,⟨aT,rfl,h32⟩⟩ -;have ⟨h17,H⟩:=m2 le13 h17 H;obtain ⟨p15,c15,rfl,h33⟩:=yQ h32;obtain ⟨y19,hy9,N⟩:=zB N;refine xL (uT 1 _ hy9 ) ?_;rintro I016 ay v2 k2 le14 - ⟨p16,c16,bt,rfl,rfl,h34⟩ -;have ⟨h33,h17,H⟩:=m3 le14 h33 h17 H;refine xH 0 rfl ?_;intro I017 le15 hl04;have h35:=SL.of_frozen hl04 le15 h34;have ⟨h33,h17,H⟩:=m3 le15 h33 h17 H;obtain ⟨y20,hy10,N⟩:=zB N;refine xL (zBW y18 1 y19 1 _ hy10 h33 h35) ?_;rintro I018 ay v2 k2 le16 - ⟨v014,rfl,rfl,⟨bJ,rfl,h36⟩⟩ -;have ⟨h17,H⟩:=m2 le16 h17 H;obtain ⟨p17,c17,rfl,h37⟩:=yQ h36;exact xJ 1 (cAff y20 p17 c17) rfl<|yD rfl<|yL<|zU ⟨_,_,_,_,_,_,(zC N).symm,H,h17,h37,rfl,rfl⟩
     rintro I013 ay m2 ⟨x4,x5,bD,bo,bq,bB,heq1,le17,h28,h29,rfl,rfl⟩;subst o02;have ⟨h27,H⟩:=m2 le17 h27 H;exact xQ (zW [1,0,2,3] rfl (by decide))<|yL<|zU ⟨_,_,_,_,_,_,_,_,_,(zC hMc2).symm,H,h28,h29,h27,rfl,rfl⟩
   intro aI N;exact zS<|yL<|zU ⟨_,_,_,_,_,_,_,_,_,(zC N).symm,H,h17,h18,h13,rfl,rfl⟩
 rintro bS ay m2 ⟨x1,x2,x3,p7,c7,p8,c8,p9,c9,heq2,le18,h19,h20,h21,rfl,rfl⟩;subst aP;have H:=H.trans le18;refine yX<|rQ 1 [2] [(36,vA (cAff x1 p7 c7))]<|uK (cAff x1 p7 c7) zA ?_;intro b5 hb5;have h38:RL bS (cAff x1 p7 c7) ([x1]:List zA):=⟨(cAff x1 p7 c7),_,rfl,rfl,(yO ⟨_,rfl,h19⟩),rfl⟩;refine rQ 3 [1] [(38,vA (cAff x2 p8 c8))]<|uK (cAff x2 p8 c8) zA ?_;intro b6 hb6;have h39:RL bS (cAff x2 p8 c8) ([x2]:List zA):=⟨(cAff x2 p8 c8),_,rfl,rfl,(yO ⟨_,rfl,h20⟩),rfl⟩;refine yB 5 [] [40] rfl<|wS zTwo ?_;intro b7 hb7;refine xJ 0 [vS (some ⟨b5,0,none⟩) ([x1]:List zA) 1,vS (some ⟨b6,0,none⟩) ([x2]:List zA) 1] rfl<|yD rfl<|zX<|yE<|yB 1 [] [41] rfl<|tZ (zY [4,0,1,2,3,5,6] (ah:=[hB aw (cRd x3 p9 c9),hB b7 [vS (some ⟨b5,0,none⟩) ([x1]:List zA) 1,vS (some ⟨b6,0,none⟩) ([x2]:List zA) 1],hO zA (vS (some ⟨b6,0,none⟩) ([x2]:List zA) 1) (cAff x2 p8 c8),hO zA (vS (some ⟨b5,0,none⟩) ([x1]:List zA) 1) (cAff x1 p7 c7),hB b4 (cAff x2 p8 c8),hB b2 (cAff x1 p7 c7),hB b zTwo])) ?_;obtain ⟨⟨y22,y23⟩,hy11,N⟩:=zB hMc1;refine sJ (xR x3 12 _ hy11 h21) rfl ?_;rintro I019 ay v2 k2 le19 - ⟨v016,kk5,rfl,rfl,rfl,h41⟩ -;have ⟨h38,h39,H⟩:=m3 le19 h38 h39 H;obtain ⟨p18,c18,rfl,h42⟩:=yA h41;refine yD rfl<|xX<|yF [43] rfl<|zG<|pH 4 rfl ?_;intro I020 le20 hl05;have ar:At I020 ⟨b4,0,none⟩ (cAff x2 p8 c8):=At.of_blk hl05;have ⟨h42,h38,h39,H⟩:=m4 le20 h42 h38 h39 H;refine pH 4 rfl ?_;intro I021 le21 hl06;have av:At I021 ⟨b2,0,none⟩ (cAff x1 p7 c7):=At.of_blk hl06;have ⟨h42,h38,h39,H⟩:=m4 le21 h42 h38 h39 H;obtain ⟨o03,ho03,hMc3⟩:=zB N;refine qF (fun I' ah m'=>∃ (Lo:List zA) (Hi:List zA) (x6:zN) (p19:Option Addr) (c19:Nat) (cs6:List Value) (p20:Option Addr) (c20:Nat) (cs7:List Value) (p21:Option Addr) (c21:Nat),o03=(Lo,Hi,x6)/\I021.le I'/\(RL I' cs6 Lo)/\(RL I' cs7 Hi)/\(S4 I' p21 x6.b c21)/\ah=[hB aw (cRd x6 p21 c21),hB b7 [vS p19 Lo c19,vS p20 Hi c20],hO zA (vS p20 Hi c20) cs7,hO zA (vS p19 Lo c19) cs6,hB b zTwo]/\m'=[(4,vP b 0),(8,vP b7 0)]) ?_ ?_
 · have H:=iS I021;refine yC ho03 ?_ ?_
   · intro bK N;obtain ⟨⟨y25,y26⟩,hy12,N⟩:=zB N;obtain ⟨y27,hy13,N⟩:=zB N;obtain ⟨l,hy14,N⟩:=zB N;refine wQ [.p (vP b7 1) [],.p (vS (some ⟨b6,0,none⟩) ([x2]:List zA) 1) [0],.p (vP aw 0) [],.x (fun I' v hx=>∃ b8,v=vS (some ⟨b8,0,none⟩) ([3,2,4]:List Int) 3/\hx=[]/\(SL I' (vS (some ⟨b8,0,none⟩) ([3,2,4]:List Int) 3) ([3,2,4]:List Int))),.x (fun I' v hx=>∃ p22 c22,v=vI y25/\hx=[hB aw (cRd y26 p22 c22)]/\(S4 I' p22 y26.b c22)),.x (fun I' v hx=>∃ p23 c23 cs8,v=vA (cAff y27 p23 c23)/\hx=[hO Int (vS p23 y27.Coefs c23) cs8]/\(RL I' cs8 y27.Coefs)),.x (fun I' v hx=>∃ b9,v=vS (some ⟨b9,0,none⟩) ([y27]:List zA) 1/\hx=[]/\(SL I' (vS (some ⟨b9,0,none⟩) ([y27]:List zA) 1) ([y27]:List zA))),.x (fun I' v hx=>∃ p24 c24 cs9,v=vS p24 l c24/\hx=[hO zA (vS p24 l c24) cs9]/\(RL I' cs9 l))] [[],[(0,false)],[],[],[(2,false),(3,false),(10,true)],[(4,false)],[(5,true)],[(1,false),(6,false),(11,true)]] [hB b7 [vS (some ⟨b5,0,none⟩) ([x1]:List zA) 1,vS (some ⟨b6,0,none⟩) ([x2]:List zA) 1],hO zA (vS (some ⟨b5,0,none⟩) ([x1]:List zA) 1) (cAff x1 p7 c7),hB b zTwo] [[hB aw (cRd y23 p18 c18)],[hO zA (vS (some ⟨b6,0,none⟩) ([x2]:List zA) 1) (cAff x2 p8 c8)]] [(4,true),(7,true)] (zY [1,3,4,0,2]) ?_ ?_
     · refine Op<|Op<|Op<|Ox ?_<|Ox ?_<|Ox ?_<|Ox ?_<|Ox ?_<|On
       · intro I1 hf af;refine I_h [] ?_;have H:=iS I1;refine mN (rI [3,2,4]) ?_;intro b8 I023 le22 h47;have H:=H.trans le22;exact yN [] H ⟨_,rfl,rfl,h47⟩
       · rintro I1 hf af _ _ ⟨rfl,rfl⟩ _ _ ⟨b8,rfl,rfl,h47⟩ _ _ rfl;refine yT [47,48] rfl ?_;have H:=iS I1;have h42:=h42.mono af;refine sJ (xE y23 ([3,2,4]:List Int) _ hy12 h42 h47) rfl ?_;rintro I024 ay v2 k2 le23 - ⟨v018,kk6,rfl,rfl,rfl,h49⟩ -;have H:=H.trans le23;obtain ⟨p22,c22,rfl,h50⟩:=yA h49;exact yN [hB aw (cRd y26 p22 c22)] H ⟨_,_,rfl,rfl,h50⟩
       · rintro I1 hf af _ _ ⟨p22,c22,rfl,rfl,h50⟩;refine yT [49] rfl ?_;have H:=iS I1;refine xL (uT y25 _ hy13 ) ?_;rintro I025 ay v2 k2 le24 - ⟨p23,c23,cs8,rfl,rfl,h51⟩ -;have H:=H.trans le24;exact yN [hO Int (vS p23 y27.Coefs c23) cs8] H ⟨_,_,_,rfl,rfl,h51⟩
       · rintro I1 hf af _ _ ⟨p23,c23,cs8,rfl,rfl,h51⟩;refine yT [50] rfl ?_;have H:=iS I1;refine xH 0 rfl ?_;intro I026 le25 hl08;have h52:=SL.of_frozen hl08 le25 h51;have H:=H.trans le25;refine mN (rc y27 (yO ⟨_,rfl,h52⟩) rN) ?_;intro b9 I027 le26 h54;have H:=H.trans le26;exact yN [] H ⟨_,rfl,rfl,h54⟩
       rintro I1 hf af _ _ ⟨rfl,rfl⟩ _ _ ⟨b9,rfl,rfl,h54⟩ _ _ rfl;refine yT [46,51] rfl ?_;have h39:=iM af h39;obtain ⟨aQ,k0,k01⟩:=h54;have h54:SL I1 (vS (some ⟨b9,0,none⟩) ([y27]:List zA) 1) ([y27]:List zA):=⟨_,k0,k01⟩;exact sU 95 2 0 rfl rfl rfl h39 (.inl k0) k01 hy14 fun p24 c24 cs9 h55=>wN (ah:=(hO zA (vS p24 l c24) cs9::hB b7 [vS (some ⟨b5,0,none⟩) ([x1]:List zA) 1,vS (some ⟨b6,0,none⟩) ([x2]:List zA) 1]::hO zA (vS (some ⟨b5,0,none⟩) ([x1]:List zA) 1) (cAff x1 p7 c7)::hB b zTwo::hf)) rfl<|yN [hO zA (vS p24 l c24) cs9] iR ⟨_,_,_,rfl,rfl,h55⟩
     rintro I028 le27 _ _ ⟨p22,c22,rfl,rfl,h50⟩ _ _ ⟨p24,c24,cs9,rfl,rfl,h55⟩;refine yT [4,8,52] rfl ?_;have ⟨h38,H⟩:=m2 le27 h38 H;exact yB 9 [] [53] rfl<|xJ 2 [vS (some ⟨b5,0,none⟩) ([x1]:List zA) 1,vS p24 l c24] rfl<|yD rfl<|xQ (zW [1,2,0,3,4] rfl (by decide))<|yL<|zU ⟨_,_,_,_,_,_,_,_,_,_,_,(zC N).symm,H,h38,h55,h50,rfl,rfl⟩
   intro bK N;refine yF [54] rfl<|zG ?_;obtain ⟨o04,ho04,hMc4⟩:=zB N;refine qF (fun I' ah m'=>∃ (Lo1:List zA) (x7:zN) (p25:Option Addr) (c25:Nat) (cs10:List Value) (p26:Option Addr) (c26:Nat),o04=(Lo1,x7)/\I021.le I'/\(RL I' cs10 Lo1)/\(S4 I' p26 x7.b c26)/\ah=[hB aw (cRd x7 p26 c26),hB b7 [vS p25 Lo1 c25,vS (some ⟨b6,0,none⟩) ([x2]:List zA) 1],hO zA (vS (some ⟨b6,0,none⟩) ([x2]:List zA) 1) (cAff x2 p8 c8),hO zA (vS p25 Lo1 c25) cs10,hB b zTwo]/\m'=[(4,vP b 0),(8,vP b7 0)]) ?_ ?_
   · have H:=iS I021;refine yC ho04 ?_ ?_
     · intro bO N;obtain ⟨⟨y29,y30⟩,hy15,N⟩:=zB N;obtain ⟨y31,hy16,N⟩:=zB N;obtain ⟨l1,hy17,N⟩:=zB N;refine wQ [.p (vP b7 0) [],.p (vS (some ⟨b5,0,none⟩) ([x1]:List zA) 1) [0],.p (vP aw 0) [],.x (fun I' v hx=>∃ b10,v=vS (some ⟨b10,0,none⟩) ([0,1]:List Int) 2/\hx=[]/\(SL I' (vS (some ⟨b10,0,none⟩) ([0,1]:List Int) 2) ([0,1]:List Int))),.x (fun I' v hx=>∃ p27 c27,v=vI y29/\hx=[hB aw (cRd y30 p27 c27)]/\(S4 I' p27 y30.b c27)),.x (fun I' v hx=>∃ p28 c28 cs11,v=vA (cAff y31 p28 c28)/\hx=[hO Int (vS p28 y31.Coefs c28) cs11]/\(RL I' cs11 y31.Coefs)),.x (fun I' v hx=>∃ b11,v=vS (some ⟨b11,0,none⟩) ([y31]:List zA) 1/\hx=[]/\(SL I' (vS (some ⟨b11,0,none⟩) ([y31]:List zA) 1) ([y31]:List zA))),.x (fun I' v hx=>∃ p29 c29 cs12,v=vS p29 l1 c29/\hx=[hO zA (vS p29 l1 c29) cs12]/\(RL I' cs12 l1))] [[],[(0,false)],[],[],[(2,false),(3,false),(10,true)],[(4,false)],[(5,true)],[(1,false),(6,false),(11,true)]] [hB b7 [vS (some ⟨b5,0,none⟩) ([x1]:List zA) 1,vS (some ⟨b6,0,none⟩) ([x2]:List zA) 1],hO zA (vS (some ⟨b6,0,none⟩) ([x2]:List zA) 1) (cAff x2 p8 c8),hB b zTwo] [[hB aw (cRd y23 p18 c18)],[hO zA (vS (some ⟨b5,0,none⟩) ([x1]:List zA) 1) (cAff x1 p7 c7)]] [(4,true),(7,true)] (zY [1,2,4,0,3]) ?_ ?_
       · refine Op<|Op<|Op<|Ox ?_<|Ox ?_<|Ox ?_<|Ox ?_<|Ox ?_<|On
         · intro I1 hf af;refine I_h [] ?_;have H:=iS I1;refine mN (rI [0,1]) ?_;intro b10 I030 le28 h59;have H:=H.trans le28;exact yN [] H ⟨_,rfl,rfl,h59⟩
         · rintro I1 hf af _ _ ⟨rfl,rfl⟩ _ _ ⟨b10,rfl,rfl,h59⟩ _ _ rfl;refine yT [58,59] rfl ?_;have H:=iS I1;have h42:=h42.mono af;refine sJ (xE y23 ([0,1]:List Int) _ hy15 h42 h59) rfl ?_;rintro I031 ay v2 k2 le29 - ⟨v020,kk7,rfl,rfl,rfl,h61⟩ -;have H:=H.trans le29;obtain ⟨p27,c27,rfl,h62⟩:=yA h61;exact yN [hB aw (cRd y30 p27 c27)] H ⟨_,_,rfl,rfl,h62⟩
         · rintro I1 hf af _ _ ⟨p27,c27,rfl,rfl,h62⟩;refine yT [60] rfl ?_;have H:=iS I1;refine xL (uT y29 _ hy16 ) ?_;rintro I032 ay v2 k2 le30 - ⟨p28,c28,cs11,rfl,rfl,h63⟩ -;have H:=H.trans le30;exact yN [hO Int (vS p28 y31.Coefs c28) cs11] H ⟨_,_,_,rfl,rfl,h63⟩
         · rintro I1 hf af _ _ ⟨p28,c28,cs11,rfl,rfl,h63⟩;refine yT [61] rfl ?_;have H:=iS I1;refine xH 0 rfl ?_;intro I033 le31 hl011;have h64:=SL.of_frozen hl011 le31 h63;have H:=H.trans le31;refine mN (rc y31 (yO ⟨_,rfl,h64⟩) rN) ?_;intro b11 I034 le32 h66;have H:=H.trans le32;exact yN [] H ⟨_,rfl,rfl,h66⟩
         rintro I1 hf af _ _ ⟨rfl,rfl⟩ _ _ ⟨b11,rfl,rfl,h66⟩ _ _ rfl;refine yT [57,62] rfl ?_;have h38:=iM af h38;obtain ⟨bv,k02,k03⟩:=h66;have h66:SL I1 (vS (some ⟨b11,0,none⟩) ([y31]:List zA) 1) ([y31]:List zA):=⟨_,k02,k03⟩;exact sU 95 2 0 rfl rfl rfl h38 (.inl k02) k03 hy17 fun p29 c29 cs12 h67=>wN (ah:=(hO zA (vS p29 l1 c29) cs12::hB b7 [vS (some ⟨b5,0,none⟩) ([x1]:List zA) 1,vS (some ⟨b6,0,none⟩) ([x2]:List zA) 1]::hO zA (vS (some ⟨b6,0,none⟩) ([x2]:List zA) 1) (cAff x2 p8 c8)::hB b zTwo::hf)) rfl<|yN [hO zA (vS p29 l1 c29) cs12] iR ⟨_,_,_,rfl,rfl,h67⟩
       rintro I035 le33 _ _ ⟨p27,c27,rfl,rfl,h62⟩ _ _ ⟨p29,c29,cs12,rfl,rfl,h67⟩;refine yT [4,8,63] rfl ?_;have H:=H.trans le33;exact yB 9 [] [64] rfl<|xJ 2 [vS p29 l1 c29,vS (some ⟨b6,0,none⟩) ([x2]:List zA) 1] rfl<|yD rfl<|xQ (zW [1,2,3,0,4] rfl (by decide))<|yL<|zU ⟨_,_,_,_,_,_,_,(zC N).symm,H,h67,h62,rfl,rfl⟩
     intro bO N;exact zS<|yL<|zU ⟨_,_,_,_,_,_,_,(zC N).symm,H,h38,h42,rfl,rfl⟩
   rintro I029 ay m2 ⟨Lo1,x7,p25,c25,cs10,p26,c26,heq3,le34,h56,h57,rfl,rfl⟩;subst o04;have ⟨h39,H⟩:=m2 le34 h39 H;exact yL<|zU ⟨_,_,_,_,_,_,_,_,_,_,_,(zC hMc4).symm,H,h56,h39,h57,rfl,rfl⟩
 rintro I022 ay m2 ⟨Lo,Hi,x6,p19,c19,cs6,p20,c20,cs7,p21,c21,heq4,le35,h43,h44,h45,rfl,rfl⟩;subst o03;refine zM<|yX<|rQ 1 [1] [(65,vA [vS p19 Lo c19,vS p20 Hi c20])]<|xJ 4 [vS p19 Lo c19,vS p20 Hi c20] rfl<|yD rfl<|xD<|yU 3 rfl ?_;intro I036 le36 hl013;have h68:=SL.of_frozen hl013 le36 h43;have ⟨h45,h44⟩:=m2 le36 h45 h44;refine yU 2 rfl ?_;intro I037 le37 hl014;have h69:=SL.of_frozen hl014 le37 h44;have ⟨h45,h68⟩:=m2 le37 h45 h68;obtain rfl:=zC hMc3;exact yZ ⟨_,_,(.cell 2 rfl rfl (by kernel_rfl) ResV.nil),(zW [0] rfl (by decide)),⟨_,_,rfl,rfl,⟨_,rfl,(qM ⟨_,_,rfl,h68,h69⟩)⟩,(yR ⟨_,rfl,h45⟩)⟩⟩
def zGS (b0:Nat) (r:(List zE)×zN):KT:=fun kk I' ah v=>
  ∃ v0 k0,ah=[.blk b0 ⟨k0⟩]/\v=tupV [v0]/\SL I' v0 r.1/\Rp.rep I' k0 r.2
def nG (out:List zE) (i:Int) (x:zN):Option ((List zE×zN)):=do
 if (decide (i>0)) then
  let (y4,y5)<-eV x (out.length:Int)
  let au<-app 48 out ([y4]:List zE)
  nG au (W (i - 1)) y5
 else
  pure (out,x)
 partial_fixpoint
theorem zFU :∀ (out:List zE) (i:Int) (x:zN) (o:(List zE×zN)),nG out i x=some o->∀ {B}{I0 I:Imm}{Q}  {aw:Nat}{p2 c2 cs p3 c3},I0.le I->(RL I cs out)->(S4 I p3 x.b c3)->NG Q->NO Q->(∀ (I':Imm) (al:List zE) (x1:zN) (p4:Option Addr) (c4:Nat) (az:List Value) (p5:Option Addr) (c5:Nat),o=(al,x1)->I0.le I'->(RL I' az al)->(S4 I' p5 x1.b c5)->T 21 B Q (.exit 0) I' [hB aw (cRd x1 p5 c5),hO zE (vS p4 al c4) az] [(3,vS p4 al c4)])->J Tryz.prog 21 B (nav (bodyOf f218) [1,1,0,1,0]) Q I [hB aw (cRd x p3 c3),hO zE (vS p2 out c2) cs] [(0,vP aw 0),(3,vS p2 out c2),(4,vI i)]:=by
 refine nG.partial_correctness  _ fun aJ ih out i x o N B I0 I Q aw p2 c2 cs p3 c3 H h7 h8 hg ho hx=>yM hg ho<|zZ<|yF [10] rfl<|zG<|yC N ?_ ?_
 · intro hc N;refine zS<|zX<|yG<|zJ<|yB 4 [] [13,14,16] rfl ?_;obtain ⟨⟨y4,y5⟩,aB,N⟩:=zB N;refine sJ (zHo x (out.length:Int) _ aB h8) rfl ?_;rintro ba ay v2 k2 aF - ⟨v02,kk1,rfl,rfl,⟨aS,rfl,h11⟩,h12⟩ -;have ⟨h7,H⟩:=m2 aF h7 H;obtain ⟨p6,c6,p7,c7,rfl,h13,h14⟩:=sR h11;obtain ⟨p8,c8,rfl,h15⟩:=yA h12;refine uK (cLoop y4 p6 c6 p7 c7) zE ?_;intro b2 hb2;have h16:RL ba (cLoop y4 p6 c6 p7 c7) ([y4]:List zE):=⟨(cLoop y4 p6 c6 p7 c7),_,rfl,rfl,(qM ⟨_,_,rfl,h13,h14⟩),rfl⟩;obtain ⟨au,aN,N⟩:=zB N;exact sU 141 2 2 rfl rfl rfl h7 (.inr ⟨0,rfl⟩) h16 aN fun p9 c9 aT h17=>tZ (zY [1,2] (ah:=[hB aw (cRd y5 p8 c8),hO zE (vS p9 au c9) aT]))<|yH [] [3] rfl<|zM<|zG<|zJ<|yH [] [4] rfl<|yK<|oY<|ih au (W (i - 1)) y5 _ N H h17 h15 hg ho hx
 intro hc N;exact wJ<|yL<|hx _ _ _ _ _ _ _ _ (zC N).symm H h7 h8
def eX (r0:zN):Option ((List zE)×zN):=do
 let (y1,y2)<-yV r0 ([2,1,2,3]:List Int)
 let (al,x1)<-nG ([]:List zE) y1 y2
 pure (al,x1)
theorem zHp:∀ r0 r,eX r0=some r->∀ {I:Imm}{aw:Nat}{p c},(S4 I p r0.b c)->RT 218 [vP aw 0] I [hB aw (cRd r0 p c)] (zGS aw r):=by
 intro r0 r N I aw p c h;unfold eX at N;refine yJ func218 fun B=>wP []<|yX<|uK [] zE ?_;intro b hb;have h1:RL I [] ([]:List zE):=rfl;refine yH [] [3] rfl<|zX<|yE<|yB 1 [] [6] rfl<|mN (rI [2,1,2,3]) ?_;intro b1 I0 le h3;have ⟨h1,h⟩:=m2 le h1 h;refine tZ (zY [1,0] (ah:=[hB aw (cRd r0 p c),hO zE (vS (some ⟨b,0,none⟩) ([]:List zE) 0) []])) ?_;obtain ⟨⟨y1,y2⟩,hy,N⟩:=zB N;refine sJ (xE r0 ([2,1,2,3]:List Int) _ hy h h3) rfl ?_;rintro aW ay v2 k2 af - ⟨v0,kk,rfl,rfl,rfl,h5⟩ -;have h1:=iM af h1;obtain ⟨p1,c1,rfl,h6⟩:=yA h5;refine yH [] [4] rfl<|xX<|rU [(0,vP aw 0),(3,vS (some ⟨b,0,none⟩) ([]:List zE) 0),(4,vI y1)] ?_;obtain ⟨o0,aD,aM⟩:=zB N;refine zFU ([]:List zE) y1 y2 o0 aD iR h1 h6 (fun _ _ _ h=>h) (fun _ _ h=>h) ?_;intro bH al x1 p4 c4 az p5 c5 heq aK h9 h10;subst o0;refine zR<|wM [2] rfl<|xD<|yU 1 rfl ?_;intro bL bk hl01;have h18:=SL.of_frozen hl01 bk h9;have h10:=h10.mono bk;obtain rfl:=zC aM;exact yZ ⟨_,_,(.tmp rfl ResV.nil),(zW [0] rfl (by decide)),⟨_,_,rfl,rfl,h18,(yR ⟨_,rfl,h10⟩)⟩⟩
def zGT (b0:Nat) (r:zL×zN):KT:=fun kk I' ah v=>
  ∃ v0 k0,ah=[.blk b0 ⟨k0⟩]/\v=tupV [v0]/\(∃ cs,v0=.agg ⟨cs⟩/\Rp.rep I' cs r.1)/\Rp.rep I' k0 r.2
def nH (aa:Int) (n0:Int) (i:Int) (Subs:List zA) (x:zN):Option ((List zA×zN)):=do
 if (decide (i<n0)) then
  let (y4,y5)<-yV x ([0,1,0,2]:List Int)
  let y6<-vD y4
  let (t32,x2)<-(do
    if (decide (aa>0)) then
     let (y8,y9)<-xA y5 5
     pure ((decide (y8>0)),y9)
    else
     pure (false,y5)
      : Option (Bool×zN))
  let (x3,x4)<-(do
    if t32 then
     let (y11,y12)<-xA x2 aa
     let y13<-mT y11
     let (y15,y16)<-yV y12 ([1,1,1,2,(-1)]:List Int)
     let (y18,y19)<-yV y16 ([0,1,0,0,2]:List Int)
     let y20<-vD y18
     let y21<-kC y13 y15 y20 1
     pure (y21,y19)
    else
     pure ((zA.mk y6.Coefs y6.Const),x2)
      : Option (zA×zN))
  let l<-app 32 Subs ([x3]:List zA)
  nH aa n0 (W (i+1)) l x4
 else
  pure (Subs,x)
 partial_fixpoint
theorem zFV (aa:Int) (n0:Int):∀ (i:Int) (Subs:List zA) (x:zN) (o:(List zA×zN)),nH aa n0 i Subs x=some o->∀ {B}{I0 I:Imm}{Q}{y1:Str}{aw:Nat}{b:Nat}{b2:Nat}{p2 c2 cs p3 c3},I0.le I->(RL I cs Subs)->(S4 I p3 x.b c3)->NG Q->NO Q->(∀ (I':Imm) (Subs1:List zA) (x1:zN) (p4:Option Addr) (c4:Nat) (az:List Value) (p5:Option Addr) (c5:Nat),o=(Subs1,x1)->I0.le I'->(RL I' az Subs1)->(S4 I' p5 x1.b c5)->T 53 B Q (.exit 0) I' [hO zA (vS p4 Subs1 c4) az,hB b2 [vT y1.l,vS p4 Subs1 c4],hB aw (cRd x1 p5 c5),hB b [vT ([]),z0]] [(4,vP b 0),(5,vP b2 0)])->J Tryz.prog 53 B (nav (bodyOf f245) [1,1,1,1,0,1,0]) Q I [hO zA (vS p2 Subs c2) cs,hB b2 [vT y1.l,vS p2 Subs c2],hB aw (cRd x p3 c3),hB b [vT ([]),z0]] [(0,vP aw 0),(1,vI aa),(4,vP b 0),(5,vP b2 0),(6,vI n0),(7,vI i)]:=by
 refine nH.partial_correctness aa n0 _ fun aJ ih i Subs x o N B I0 I Q y1 aw b b2 p2 c2 cs p3 c3 H h7 h8 hg ho hx=>yM hg ho<|zZ<|yF [19] rfl<|zG<|yC N ?_ ?_
 · intro aI N;refine zS<|zX<|yG<|yE<|yB 1 [] [22] rfl<|mN (rI [0,1,0,2]) ?_;intro b3 bH aK h12;have ⟨h7,h8,H⟩:=m3 aK h7 h8 H;refine tZ (zY [2,0,1,3] (ah:=[hB aw (cRd x p3 c3),hO zA (vS p2 Subs c2) cs,hB b2 [vT y1.l,vS p2 Subs c2],hB b [vT ([]),z0]])) ?_;obtain ⟨⟨y4,y5⟩,aB,N⟩:=zB N;refine sJ (xE x ([0,1,0,2]:List Int) _ aB h8 h12) rfl ?_;rintro bL ay v2 k2 bk - ⟨v02,kk1,rfl,rfl,rfl,h14⟩ -;have ⟨h7,H⟩:=m2 bk h7 H;obtain ⟨p6,c6,rfl,h15⟩:=yA h14;obtain ⟨y6,aN,N⟩:=zB N;refine xL (uT y4 _ aN ) ?_;rintro bR ay v2 k2 bz - ⟨p7,c7,aS,rfl,rfl,h16⟩ -;have ⟨h15,h7,H⟩:=m3 bz h15 h7 H;refine wS [z0,vI 0] ?_;intro b4 hb4;refine xJ 0 (cAff y6 p7 c7) rfl<|yD rfl<|zX<|zZ ?_;obtain ⟨aP,aA,hMc1⟩:=zB N;refine qF (fun I' ah m'=>∃ (t32:Bool) (x2:zN) (p8:Option Addr) (c8:Nat),aP=(t32,x2)/\bR.le I'/\(S4 I' p8 x2.b c8)/\ah=[hB b4 (cAff y6 p7 c7),hO Int (vS p7 y6.Coefs c7) aS,hB aw (cRd x2 p8 c8),hO zA (vS p2 Subs c2) cs,hB b2 [vT y1.l,vS p2 Subs c2],hB b [vT ([]),z0]]/\m'=[(0,vP aw 0),(1,vI aa),(4,vP b 0),(5,vP b2 0),(6,vI n0),(7,vI i),(8,vP b4 0),(32,.bool t32)]) ?_ ?_
   · have H:=iS bR;refine zJ<|yB 3 [] [28] rfl<|xV [28] aA ?_ ?_
     · intro aX N;refine yB 4 [] [29] rfl<|tZ (zY [2,0,1,3,4,5] (ah:=[hB aw (cRd y5 p6 c6),hB b4 (cAff y6 p7 c7),hO Int (vS p7 y6.Coefs c7) aS,hO zA (vS p2 Subs c2) cs,hB b2 [vT y1.l,vS p2 Subs c2],hB b [vT ([]),z0]])) ?_;obtain ⟨⟨y8,y9⟩,bm,N⟩:=zB N;refine sJ (xR y5 5 _ bm h15) rfl ?_;rintro I07 ay v2 k2 bC - ⟨v04,kk2,rfl,rfl,rfl,h19⟩ -;have H:=H.trans bC;obtain ⟨p9,c9,rfl,h20⟩:=yA h19;exact yH [] [32] rfl<|xQ (zW [1,2,0,3,4,5] rfl (by decide))<|yL<|zU ⟨_,_,_,_,(zC N).symm,H,h20,rfl,rfl⟩
     intro aX N;exact wG [] [(32,vF)]<|yL<|zU ⟨_,_,_,_,(zC N).symm,H,h15,rfl,rfl⟩
   rintro I06 ay m2 ⟨t32,x2,p8,c8,heq1,le7,h17,rfl,rfl⟩;subst aP;have ⟨h16,h7,H⟩:=m3 le7 h16 h7 H;refine zG<|pH 1 rfl ?_;intro I08 le8 hl02;have h21:=SL.of_frozen hl02 le8 h16;have ⟨h17,h7,H⟩:=m3 le8 h17 h7 H;obtain ⟨o02,ho02,hMc2⟩:=zB hMc1;refine qF (fun I' ah m'=>∃ (x3:zA) (x4:zN) (bi:Option Addr) (bh:Nat) (aR:Option Addr) (bc:Nat),o02=(x3,x4)/\I08.le I'/\(S4 I' bi x3.Coefs bh)/\(S4 I' aR x4.b bc)/\ah=[hB b4 (cAff x3 bi bh),hB aw (cRd x4 aR bc),hO zA (vS p2 Subs c2) cs,hB b2 [vT y1.l,vS p2 Subs c2],hB b [vT ([]),z0]]/\m'=[(0,vP aw 0),(1,vI aa),(4,vP b 0),(5,vP b2 0),(6,vI n0),(7,vI i),(8,vP b4 0)]) ?_ ?_
   · have H:=iS I08;refine yC ho02 ?_ ?_
     · intro bK N;refine yE<|yB 2 [] [33,34] rfl<|tZ (zY [1,0,2,3,4] (ah:=[hB aw (cRd x2 p8 c8),hB b4 (cAff y6 p7 c7),hO zA (vS p2 Subs c2) cs,hB b2 [vT y1.l,vS p2 Subs c2],hB b [vT ([]),z0]])) ?_;obtain ⟨⟨y11,y12⟩,bw,N⟩:=zB N;refine sJ (xR x2 aa _ bw h17) rfl ?_;rintro bS ay v2 k2 le9 - ⟨v06,kk3,rfl,rfl,rfl,h25⟩ -;have H:=H.trans le9;obtain ⟨bD,bo,rfl,h26⟩:=yA h25;refine yH [] [9] rfl<|zG<|zJ<|yB 1 [] [36] rfl<|bE N fun y13 bI N=>xL (eM y11 _ bI ) ?_;rintro bY ay v2 k2 le10 - ⟨v08,rfl,rfl,⟨aT,rfl,h27⟩⟩ -;have ⟨h26,H⟩:=m2 le10 h26 H;obtain ⟨bq,bB,rfl,h28⟩:=yQ h27;refine yB 3 [] [38] rfl<|mN (rI [1,1,1,2,(-1)]) ?_;intro b5 bX le11 h30;have ⟨h28,h26,H⟩:=m3 le11 h28 h26 H;obtain ⟨⟨y15,y16⟩,hy6,N⟩:=zB N;refine sJ (xE y12 ([1,1,1,2,(-1)]:List Int) _ hy6 h26 h30) rfl ?_;rintro I013 ay v2 k2 le12 - ⟨v010,kk4,rfl,rfl,rfl,h32⟩ -;have ⟨h28,H⟩:=m2 le12 h28 H;obtain ⟨p14,c14,rfl,h33⟩:=yA h32;refine yB 6 [] [41] rfl<|mN (rI [0,1,0,0,2]) ?_;intro b6 I014 le13 h35;have ⟨h28,h33,H⟩:=m3 le13 h28 h33 H;obtain ⟨⟨y18,y19⟩,hy7,N⟩:=zB N;refine sJ (xE y16 ([0,1,0,0,2]:List Int) _ hy7 h33 h35) rfl ?_;rintro I015 ay v2 k2 le14 - ⟨v012,kk5,rfl,rfl,rfl,h37⟩ -;have ⟨h28,H⟩:=m2 le14 h28 H;obtain ⟨p15,c15,rfl,h38⟩:=yA h37;obtain ⟨y20,hy8,N⟩:=zB N;refine xL (uT y18 _ hy8 ) ?_;rintro I016 ay v2 k2 le15 - ⟨p16,c16,bt,rfl,rfl,h39⟩ -;have ⟨h28,h38,H⟩:=m3 le15 h28 h38 H;refine xH 0 rfl ?_;intro I017 le16 hl05;have h40:=SL.of_frozen hl05 le16 h39;have ⟨h28,h38,H⟩:=m3 le16 h28 h38 H;obtain ⟨y21,hy9,N⟩:=zB N;refine xL (zBW y13 y15 y20 1 _ hy9 h28 h40) ?_;rintro I018 ay v2 k2 le17 - ⟨v014,rfl,rfl,⟨bJ,rfl,h41⟩⟩ -;have ⟨h38,H⟩:=m2 le17 h38 H;obtain ⟨p17,c17,rfl,h42⟩:=yQ h41;exact xJ 1 (cAff y21 p17 c17) rfl<|yD rfl<|xQ (zW [1,0,2,3,4] rfl (by decide))<|yL<|zU ⟨_,_,_,_,_,_,(zC N).symm,H,h42,h38,rfl,rfl⟩
     intro bK N;exact zS<|yL<|zU ⟨_,_,_,_,_,_,(zC N).symm,H,h21,h17,rfl,rfl⟩
   rintro I09 ay m2 ⟨x3,x4,bi,bh,aR,bc,heq2,le18,h22,h23,rfl,rfl⟩;subst o02;have ⟨h7,H⟩:=m2 le18 h7 H;refine zG<|zJ<|rQ 3 [3,0] [(47,vS p2 Subs c2),(48,vA (cAff x3 bi bh))]<|uK (cAff x3 bi bh) zA ?_;intro b7 hb7;have h43:RL I09 (cAff x3 bi bh) ([x3]:List zA):=⟨(cAff x3 bi bh),_,rfl,rfl,(yO ⟨_,rfl,h22⟩),rfl⟩;obtain ⟨l,hy10,N⟩:=zB hMc2;refine sU 95 2 3 rfl rfl rfl h7 (.inr ⟨0,rfl⟩) h43 hy10 ?_;intro p18 c18 cs6 h44;exact tZ (zY [1,2,3,4,5] (ah:=[hB b4 (cAff x3 bi bh),hB aw (cRd x4 aR bc),hO zA (vS p18 l c18) cs6,hB b2 [vT y1.l,vS p2 Subs c2],hB b [vT ([]),z0]]))<|yB 6 [] [51] rfl<|xJ 3 [vT y1.l,vS p18 l c18] rfl<|yD rfl<|zM<|zG<|zJ<|yH [] [7] rfl<|yK<|kE (zW [2,3,1,4] rfl (by decide))<|oY<|ih (W (i+1)) l x4 _ N H h44 h23 hg ho hx
 intro aI N;exact wJ<|yL<|hx _ _ _ _ _ _ _ _ (zC N).symm H h7 h8
def jL (r0:zN) (aa:Int):Option (zL×zN):=do
 let (y1,y2)<-oI r0 ([(⟨[65]⟩:Str),(⟨[66]⟩:Str),(⟨[65]⟩:Str),(⟨[67]⟩:Str)]:List Str)
 let n0<-(do
   if (y1.l==([66]:List UInt8)) then
    pure (id 2)
   else
    pure (id 1)
     : Option Int)
 let (Subs1,x1)<-nH aa n0 0 ([]:List zA) y2
 pure ((zL.mk y1 Subs1),x1)
theorem zDK:∀ r0 aa r,jL r0 aa=some r->∀ {I:Imm}{aw:Nat}{p c},(S4 I p r0.b c)->RT 245 [vP aw 0,vI aa] I [hB aw (cRd r0 p c)] (zGT aw r):=by
 intro r0 aa r N I aw p c h;unfold jL at N;refine yJ func245 fun B=>?_;have H:=iS I;refine yE<|wS [vT ([]),z0] ?_;intro b hb;refine yD rfl<|yX<|yB 1 [] [10] rfl<|mN (rT [(⟨[65]⟩:Str),(⟨[66]⟩:Str),(⟨[65]⟩:Str),(⟨[67]⟩:Str)]) ?_;intro b1 I0 le h2;have ⟨h,H⟩:=m2 le h H;refine tZ (zY [1,0] (ah:=[hB aw (cRd r0 p c),hB b [vT ([]),z0]])) ?_;obtain ⟨⟨y1,y2⟩,hy,N⟩:=zB N;refine sJ (eF r0 ([(⟨[65]⟩:Str),(⟨[66]⟩:Str),(⟨[65]⟩:Str),(⟨[67]⟩:Str)]:List Str) _ hy h h2) rfl ?_;rintro aW ay v2 k2 af - ⟨v0,kk,rfl,rfl,rfl,h4⟩ -;have H:=H.trans af;obtain ⟨p1,c1,rfl,h5⟩:=yA h4;refine yB 4 [] [13] rfl<|wS [vT ([]),z0] ?_;intro b2 hb2;refine xJ 0 [vT y1.l,z0] rfl<|yD rfl<|wM [6] rfl<|zX<|yE<|yH [0] [16] rfl<|zG ?_;refine wO N [hB b2 [vT y1.l,z0],hB aw (cRd y2 p1 c1),hB b [vT ([]),z0]] (fun n0=>[(0,vP aw 0),(1,vI aa),(4,vP b 0),(5,vP b2 0),(6,vI n0)]) (fun o0 aD=>?_) ?_
 · have H:=iS aW;refine yC aD ?_ ?_
   · intro hc N;exact zJ<|yH [] [6] rfl<|yL<|zU (ct N H)
   intro hc N;exact zS<|yL<|zU (ct N H)
 intro n0 ba aF aU;have h5:=h5.mono aF;refine zX<|yF [7] rfl<|xX<|rU [(0,vP aw 0),(1,vI aa),(4,vP b 0),(5,vP b2 0),(6,vI n0),(7,vI 0)]<|zAI zA fun h6=>?_;obtain ⟨o03,ho03,aM⟩:=zB aU;refine zFV aa n0 0 ([]:List zA) y2 o03 ho03 iR h6 h5 (fun _ _ _ h=>h) (fun _ _ h=>h) ?_;intro I019 Subs1 x1 p4 c4 az p5 c5 heq3 le19 h9 h10;subst o03;refine zR<|yX<|rQ 1 [1] [(52,vA [vT y1.l,vS p4 Subs1 c4])]<|xJ 3 [vT y1.l,vS p4 Subs1 c4] rfl<|yD rfl<|xD<|yU 0 rfl ?_;intro I020 le20 hl06;have h45:=SL.of_frozen hl06 le20 h9;have h10:=h10.mono le20;obtain rfl:=zC aM;exact yZ ⟨_,_,(.cell 2 rfl rfl (by kernel_rfl) ResV.nil),(zW [1] rfl (by decide)),⟨_,_,rfl,rfl,⟨_,rfl,(mY ⟨_,rfl,h45⟩)⟩,(yR ⟨_,rfl,h10⟩)⟩⟩
def zGU (b0:Nat) (r:zA×zN):KT:=fun kk I' ah v=>
  ∃ v0 k0,ah=[.blk b0 ⟨k0⟩]/\v=tupV [v0]/\(∃ cs,v0=.agg ⟨cs⟩/\Rp.rep I' cs r.1)/\Rp.rep I' k0 r.2
def nI (aa:Int) (i:Int) (Coefs:List Int) (x:zN):Option ((List Int×zN)):=do
 if (decide (i<aa)) then
  let (y5,y6)<-yV x ([0,1,0,(-1),2,0,9]:List Int)
  let x2<-idx Coefs i
  let l<-pure (Coefs.set i.toNat y5)
  nI aa (W (i+1)) l y6
 else
  pure (Coefs,x)
 partial_fixpoint
theorem zFW (aa:Int):∀ (i:Int) (Coefs:List Int) (x:zN) (o:(List Int×zN)),nI aa i Coefs x=some o->∀ {B}{I0 I:Imm}{Q}{y3:zA}{aw:Nat}{b:Nat}{b2:Nat}{p3 c3 az p4 c4},I0.le I->(RL I az Coefs)->(S4 I p4 x.b c4)->NG Q->NO Q->(∀ (I':Imm) (Coefs1:List Int) (x1:zN) (p5:Option Addr) (c5:Nat) (aS:List Value) (p6:Option Addr) (c6:Nat),o=(Coefs1,x1)->I0.le I'->(RL I' aS Coefs1)->(S4 I' p6 x1.b c6)->T 24 B Q (.exit 0) I' [hB b2 [vS p5 Coefs1 c5,vI y3.Const],hO Int (vS p5 Coefs1 c5) aS,hB aw (cRd x1 p6 c6),hB b [z0,vI 0]] [(4,vP b 0),(5,vP b2 0)])->J Tryz.prog 24 B (nav (bodyOf f265) [1,1,0,1,0]) Q I [hB b2 [vS p3 Coefs c3,vI y3.Const],hO Int (vS p3 Coefs c3) az,hB aw (cRd x p4 c4),hB b [z0,vI 0]] [(0,vP aw 0),(1,vI aa),(4,vP b 0),(5,vP b2 0),(6,vI i)]:=by
 refine nI.partial_correctness aa _ fun aJ ih i Coefs x o N B I0 I Q y3 aw b b2 p3 c3 az p4 c4 H h7 h8 hg ho hx=>yM hg ho<|zZ<|yF [13] rfl<|zG<|yC N ?_ ?_
 · intro hc N;refine zS<|zX<|yG ?_;obtain ⟨⟨y5,y6⟩,aN,N⟩:=zB N;refine wQ [.p (vP b2 0) [],.p (vS p3 Coefs c3) [0],.p (vI i) [],.p (vP aw 0) [],.x (fun I' v hx=>∃ b3,v=vS (some ⟨b3,0,none⟩) ([0,1,0,(-1),2,0,9]:List Int) 7/\hx=[]/\(SL I' (vS (some ⟨b3,0,none⟩) ([0,1,0,(-1),2,0,9]:List Int) 7) ([0,1,0,(-1),2,0,9]:List Int))),.x (fun I' v hx=>∃ p7 c7,v=vI y5/\hx=[hB aw (cRd y6 p7 c7)]/\(S4 I' p7 y6.b c7))] [[],[(0,false)],[],[],[],[(3,false),(4,false),(8,true)]] [hB b2 [vS p3 Coefs c3,vI y3.Const],hO Int (vS p3 Coefs c3) az,hB b [z0,vI 0]] [[hB aw (cRd x p4 c4)]] [(1,false),(2,false),(5,true)] (zY [0,1,3,2]) ?_ ?_
   · refine Op<|Op<|Op<|Op<|Ox ?_<|Ox ?_<|On
     · intro I1 hf af;refine I_h [] ?_;have H:=iS I1;refine mN (rI [0,1,0,(-1),2,0,9]) ?_;intro b3 bH aK h12;have H:=H.trans aK;exact yN [] H ⟨_,rfl,rfl,h12⟩
     rintro I1 hf af _ _ ⟨rfl,rfl⟩ _ _ ⟨b3,rfl,rfl,h12⟩ _ _ rfl;refine yT [19,20] rfl ?_;have H:=iS I1;have h8:=h8.mono af;refine sJ (xE x ([0,1,0,(-1),2,0,9]:List Int) _ aN h8 h12) rfl ?_;rintro bL ay v2 k2 bk - ⟨v02,kk1,rfl,rfl,rfl,h14⟩ -;have H:=H.trans bk;obtain ⟨p7,c7,rfl,h15⟩:=yA h14;exact yN [hB aw (cRd y6 p7 c7)] H ⟨_,_,rfl,rfl,h15⟩
   rintro bR bz _ _ ⟨rfl,rfl⟩ _ _ ⟨rfl,rfl⟩ _ _ ⟨p7,c7,rfl,rfl,h15⟩;refine yT [0,1,4,5,6,17,18,21] rfl ?_;have ⟨h7,H⟩:=m2 bz h7 H;obtain ⟨x2,bm,N⟩:=zB N;refine pQ 2 rfl rfl rfl h7 bm ?_;intro ad aQ ar bM ap;obtain rfl:=ap;obtain ⟨l,bw,N⟩:=zB N;refine tR (c:=[vI y5]) (x':=y5) 2 0 rfl rfl rfl ar rfl rfl bM (by kernel_rfl) (by kernel_rfl) (by kernel_rfl) h7 bm (by kernel_rfl) rfl ?_;rw [show Coefs.set i.toNat y5=l from zC bw];intro aT h16 hl02;exact kD (m':=[(0,vP aw 0),(1,vI aa),(4,vP b 0),(5,vP b2 0),(6,vI i),(17,vS p3 Coefs c3),(18,vI i),(21,vI y5)]) ⟨rfl,rfl,rfl,rfl,rfl,rfl,rfl,rfl,trivial⟩<|zA1 (ah:=[hB aw (cRd y6 p7 c7),hB b2 [vS p3 l c3,vI y3.Const],hO Int (vS p3 l c3) aT,hB b [z0,vI 0]]) (m':=[(0,vP aw 0),(1,vI aa),(4,vP b 0),(5,vP b2 0),(6,vI i),(17,vS p3 l c3),(18,vI i),(21,vI y5)]) (by first | rfl | simp only [vS,hl02,cv,dj,dq,dh,cX,cY]) (by first | rfl | simp only [vS,hl02])<|yD rfl<|zM<|zG<|zJ<|yH [] [6] rfl<|yK<|kE (zW [1,2,0,3] rfl (by decide))<|oY<|ih (W (i+1)) l y6 _ N H h16 h15 hg ho hx
 intro hc N;exact wJ<|yL<|hx _ _ _ _ _ _ _ _ (zC N).symm H h7 h8
def fC (r0:zN) (aa:Int):Option (zA×zN):=do
 let (y1,y2)<-yV r0 ([0,1,(-1),2,0,5,(-9),99]:List Int)
 let y3<-vD y1
 let (Coefs1,x1)<-nI aa 0 y3.Coefs y2
 pure ((zA.mk Coefs1 y3.Const),x1)
theorem zHq:∀ r0 aa r,fC r0 aa=some r->∀ {I:Imm}{aw:Nat}{p c},(S4 I p r0.b c)->RT 265 [vP aw 0,vI aa] I [hB aw (cRd r0 p c)] (zGU aw r):=by
 intro r0 aa r N I aw p c h;unfold fC at N;refine yJ func265 fun B=>yE<|wS [z0,vI 0] ?_;intro b hb;refine yD rfl<|yX<|yB 1 [] [7] rfl<|mN (rI [0,1,(-1),2,0,5,(-9),99]) ?_;intro b1 I0 le h2;have h:=h.mono le;refine tZ (zY [1,0] (ah:=[hB aw (cRd r0 p c),hB b [z0,vI 0]])) ?_;obtain ⟨⟨y1,y2⟩,hy,N⟩:=zB N;refine sJ (xE r0 ([0,1,(-1),2,0,5,(-9),99]:List Int) _ hy h h2) rfl ?_;rintro aW ay v2 k2 af - ⟨v0,kk,rfl,rfl,rfl,h4⟩ -;obtain ⟨p1,c1,rfl,h5⟩:=yA h4;obtain ⟨y3,aB,N⟩:=zB N;refine xL (uT y1 _ aB ) ?_;rintro ba ay v2 k2 aF - ⟨p2,c2,cs,rfl,rfl,h6⟩ -;have h5:=h5.mono aF;refine wS [z0,vI 0] ?_;intro b2 hb2;refine xJ 0 (cAff y3 p2 c2) rfl<|yD rfl<|zX<|yF [6] rfl<|xX<|rU [(0,vP aw 0),(1,vI aa),(4,vP b 0),(5,vP b2 0),(6,vI 0)] ?_;obtain ⟨o0,aD,aM⟩:=zB N;refine zFW aa 0 y3.Coefs y2 o0 aD iR h6 h5 (fun _ _ _ h=>h) (fun _ _ h=>h) ?_;intro I06 Coefs1 x1 p5 c5 aS p6 c6 heq bC h9 h10;subst o0;refine zR<|yX<|rQ 1 [0] [(23,vA [vS p5 Coefs1 c5,vI y3.Const])]<|xJ 3 [vS p5 Coefs1 c5,vI y3.Const] rfl<|yD rfl<|xD<|yU 1 rfl ?_;intro I07 le7 hl03;have h17:=SL.of_frozen hl03 le7 h9;have h10:=h10.mono le7;obtain rfl:=zC aM;exact yZ ⟨_,_,(.cell 2 rfl rfl (by kernel_rfl) ResV.nil),(zW [1] rfl (by decide)),⟨_,_,rfl,rfl,⟨_,rfl,(yO ⟨_,rfl,h17⟩)⟩,(yR ⟨_,rfl,h10⟩)⟩⟩
def zBX (b0:Nat) (r:zI×zN):KT:=fun kk I' ah v=>
  ∃ v0 k0,ah=[.blk b0 ⟨k0⟩]/\v=tupV [v0]/\(∃ cs,v0=.agg ⟨cs⟩/\Rp.rep I' cs r.1)/\Rp.rep I' k0 r.2
mutual
def pZ (r0:zN) (aa:Int) (aj:Int):Option (zI×zN):=do
 let (t15,x)<-(do
   if (decide (aj<2)) then
    pure (true,r0)
   else
    let (y1,y2)<-xA r0 4
    pure ((y1==0),y2)
     : Option (Bool×zN))
 if t15 then
  let (y4,y5)<-xA x 4
  if (y4==0) then
   let (y7,y8)<-yV y5 ([1,2,0,99,3]:List Int)
   pure ((zI.mk 1 y7 (zA.mk ([]:List Int) 0) (zL.mk (⟨[]⟩:Str) ([]:List zA)) ([]:List zI)),y8)
  else
   if (y4==1) then
    let (y10,y11)<-fC y5 aa
    pure ((zI.mk 2 0 y10 (zL.mk (⟨[]⟩:Str) ([]:List zA)) ([]:List zI)),y11)
   else
    let (y13,y14)<-jL y5 aa
    pure ((zI.mk 3 0 (zA.mk ([]:List Int) 0) y13 ([]:List zI)),y14)
 else
  let (y16,y17)<-yV x ([4,6,5,4]:List Int)
  let (Kids1,x2)<-mF (same aa) (same aj) (same 0) ([]:List zI) (same y17)
  pure ((zI.mk y16 0 (zA.mk ([]:List Int) 0) (zL.mk (⟨[]⟩:Str) ([]:List zA)) Kids1),x2)
 partial_fixpoint
def mF (aa:Int) (aj:Int) (i:Int) (Kids:List zI) (x1:zN):Option ((List zI×zN)):=do
 if (decide (i<2)) then
  let (y19,y20)<-pZ (same x1) (same aa) (W (aj - 1))
  let l<-app 112 Kids ([y19]:List zI)
  mF (same aa) (same aj) (W (i+1)) (same l) (same y20)
 else
  pure (Kids,x1)
 partial_fixpoint
end
theorem zGV:(∀ (r0:zN) (aa:Int) (aj:Int) r,pZ r0 aa aj=some r->∀ {I:Imm}{aw:Nat}{p c},(S4 I p r0.b c)->RT 246 [vP aw 0,vI aa,vI aj] I [hB aw (cRd r0 p c)] (zBX aw r))/\(∀ (aa:Int) (aj:Int) (i:Int) (Kids:List zI) (x1:zN) o,mF aa aj i Kids x1=some o->∀ {B}{I0 I:Imm}{Q}{y16:Int}{aw:Nat}{b:Nat}{b3:Nat}{bi bh aS aR bc},I0.le I->(RL I aS Kids)->(S4 I aR x1.b bc)->NG Q->NO Q->(∀ (I':Imm) (Kids1:List zI) (x2:zN) (bD:Option Addr) (bo:Nat) (aT:List Value) (bq:Option Addr) (bB:Nat),o=(Kids1,x2)->I0.le I'->(RL I' aT Kids1)->(S4 I' bq x2.b bB)->T 53 B Q (.exit 1) I' [hO zI (vS bD Kids1 bo) aT,hB b3 [vI y16,vI 0,z0,vI 0,vT ([]),z0,vS bD Kids1 bo],hB aw (cRd x2 bq bB),hB b zExpr] [(6,vP b 0),(7,vP b3 0)])->J Tryz.prog 53 B (nav (bodyOf f246) [1,1,1,0,1,0]) Q I [hO zI (vS bi Kids bh) aS,hB b3 [vI y16,vI 0,z0,vI 0,vT ([]),z0,vS bi Kids bh],hB aw (cRd x1 aR bc),hB b zExpr] [(0,vP aw 0),(1,vI aa),(2,vI aj),(6,vP b 0),(7,vP b3 0),(8,vI i)]):=by
  refine pZ.mutual_partial_correctness _ _ ?_ ?_
  · intro F_spec_l3Value_l1 ih_spec_l3Value_l1 r0 aa aj r N I aw p c h;refine yJ func246 fun B=>?_;have H:=iS I;refine yE<|wS zExpr ?_;intro b hb;refine yD rfl<|zX<|zZ ?_;obtain ⟨o0,aD,aU⟩:=zB N;refine qF (fun I' ah m'=>∃ (t15:Bool) (x:zN) (p1:Option Addr) (c1:Nat),o0=(t15,x)/\I.le I'/\(S4 I' p1 x.b c1)/\ah=[hB b zExpr,hB aw (cRd x p1 c1)]/\m'=[(0,vP aw 0),(1,vI aa),(2,vI aj),(6,vP b 0),(15,.bool t15)]) ?_ ?_
    · have H:=iS I;refine zJ<|yB 3 [] [11] rfl<|xV [11] aD ?_ ?_
      · intro hc N;exact wG [] [(15,vY)]<|yL<|zU ⟨_,_,_,_,(zC N).symm,H,h,rfl,rfl⟩
      intro hc N;refine yB 4 [] [12] rfl<|tZ (zY [1,0] (ah:=[hB aw (cRd r0 p c),hB b zExpr])) ?_;obtain ⟨⟨y1,y2⟩,hy,N⟩:=zB N;refine sJ (xR r0 4 _ hy h) rfl ?_;rintro aW ay v2 k2 le - ⟨v0,kk,rfl,rfl,rfl,h3⟩ -;have H:=H.trans le;obtain ⟨p2,c2,rfl,h4⟩:=yA h3;exact yH [] [15] rfl<|xQ (zW [1,0] rfl (by decide))<|yL<|zU ⟨_,_,_,_,(zC N).symm,H,h4,rfl,rfl⟩
    rintro I0 ay m2 ⟨t15,x,p1,c1,heq,af,h1,rfl,rfl⟩;subst o0;refine zG<|yC aU ?_ ?_
    · intro aI N;refine zZ<|yE<|yB 1 [] [16] rfl<|tZ (zY [1,0] (ah:=[hB aw (cRd x p1 c1),hB b zExpr])) ?_;obtain ⟨⟨y4,y5⟩,aB,N⟩:=zB N;refine sJ (xR x 4 _ aB h1) rfl ?_;rintro ba ay v2 k2 aF - ⟨v02,kk1,rfl,rfl,rfl,h6⟩ -;obtain ⟨p3,c3,rfl,h7⟩:=yA h6;refine yD rfl<|xX<|yF [18] rfl<|zG<|yC N ?_ ?_
      · intro aX N;refine yE<|yB 1 [] [20] rfl<|mN (rI [1,2,0,99,3]) ?_;intro b1 bH aK h9;have h7:=h7.mono aK;obtain ⟨⟨y7,y8⟩,aN,N⟩:=zB N;refine sJ (xE y5 ([1,2,0,99,3]:List Int) _ aN h7 h9) rfl ?_;rintro bL ay v2 k2 bk - ⟨v04,kk2,rfl,rfl,rfl,h11⟩ -;obtain ⟨p4,c4,rfl,h12⟩:=yA h11;refine yB 4 [] [23] rfl<|xJ 1 [vI 1,vI y7,z0,vI 0,vT ([]),z0,z0] rfl<|yD rfl<|xD<|zV<|zH<|zH ?_;obtain rfl:=zC N;exact yZ ⟨_,_,(.cell 1 rfl rfl (by kernel_rfl) ResV.nil),(zW [0] rfl (by decide)),⟨_,_,rfl,rfl,⟨_,rfl,(wC ⟨_,_,_,rfl,(SL.nil _),(SL.nil _),(SL.nil _)⟩)⟩,(yR ⟨_,rfl,h12⟩)⟩⟩
      intro aX N;refine yF [24] rfl<|zG<|yC N ?_ ?_
      · intro bK N;refine yE<|yB 2 [] [26,27] rfl ?_;obtain ⟨⟨y10,y11⟩,bm,N⟩:=zB N;refine sJ (zHq y5 aa _ bm h7) rfl ?_;rintro bR ay v2 k2 bz - ⟨v06,kk3,rfl,rfl,⟨cs,rfl,h13⟩,h14⟩ -;obtain ⟨p5,c5,rfl,h15⟩:=yQ h13;obtain ⟨p6,c6,rfl,h16⟩:=yA h14;refine yB 4 [] [29] rfl<|xJ 1 [vI 2,vI 0,vS p5 y10.Coefs c5,vI y10.Const,vT ([]),z0,z0] rfl<|yD rfl<|xD<|zV<|zH<|zH ?_;obtain rfl:=zC N;exact yZ ⟨_,_,(.cell 1 rfl rfl (by kernel_rfl) ResV.nil),(zW [0] rfl (by decide)),⟨_,_,rfl,rfl,⟨_,rfl,(wC ⟨_,_,_,rfl,h15,(SL.nil _),(SL.nil _)⟩)⟩,(yR ⟨_,rfl,h16⟩)⟩⟩
      intro bK N;refine zS<|zM<|yX<|yB 2 [] [30,31] rfl ?_;obtain ⟨⟨y13,y14⟩,bw,N⟩:=zB N;refine sJ (zDK y5 aa _ bw h7) rfl ?_;rintro I06 ay v2 k2 bC - ⟨v09,kk4,rfl,rfl,⟨az,rfl,h17⟩,h18⟩ -;obtain ⟨p7,c7,rfl,h19⟩:=nY h17;obtain ⟨p8,c8,rfl,h20⟩:=yA h18;refine yB 4 [] [33] rfl<|xJ 1 [vI 3,vI 0,z0,vI 0,vT y13.Array.l,vS p7 y13.Subs c7,z0] rfl<|yD rfl<|xD<|zH ?_;obtain rfl:=zC N;exact yZ ⟨_,_,(.cell 1 rfl rfl (by kernel_rfl) ResV.nil),(zW [0] rfl (by decide)),⟨_,_,rfl,rfl,⟨_,rfl,(wC ⟨_,_,_,rfl,(SL.nil _),h19,(SL.nil _)⟩)⟩,(yR ⟨_,rfl,h20⟩)⟩⟩
    intro aI N;refine zS<|yX<|yB 1 [] [34] rfl<|mN (rI [4,6,5,4]) ?_;intro b2 I07 le7 h22;have h1:=h1.mono le7;refine tZ (zY [1,0] (ah:=[hB aw (cRd x p1 c1),hB b zExpr])) ?_;obtain ⟨⟨y16,y17⟩,bI,N⟩:=zB N;refine sJ (xE x ([4,6,5,4]:List Int) _ bI h1 h22) rfl ?_;rintro I08 ay v2 k2 le8 - ⟨v012,kk5,rfl,rfl,rfl,h24⟩ -;obtain ⟨p9,c9,rfl,h25⟩:=yA h24;refine yB 4 [] [37] rfl<|wS zExpr ?_;intro b3 hb3;refine xJ 0 [vI y16,vI 0,z0,vI 0,vT ([]),z0,z0] rfl<|yD rfl<|zX<|yF [8] rfl<|xX<|rU [(0,vP aw 0),(1,vI aa),(2,vI aj),(6,vP b 0),(7,vP b3 0),(8,vI 0)]<|zAI zI fun h26=>?_;obtain ⟨aP,aA,aM⟩:=zB N;refine ih_spec_l3Value_l1 aa aj 0 ([]:List zI) y17 aP aA iR h26 h25 (fun _ _ _ h=>h) (fun _ _ h=>h) ?_;intro bX Kids1 x2 bD bo aT bq bB heq1 le12 h29 h30;subst aP;refine zR<|yX<|rQ 1 [1] [(52,vA [vI y16,vI 0,z0,vI 0,vT ([]),z0,vS bD Kids1 bo])]<|xJ 3 [vI y16,vI 0,z0,vI 0,vT ([]),z0,vS bD Kids1 bo] rfl<|yD rfl<|xD<|yU 0 rfl ?_;intro I013 le13 hl03;have h40:=SL.of_frozen hl03 le13 h29;have h30:=h30.mono le13;obtain rfl:=zC aM;exact yZ ⟨_,_,(.cell 2 rfl rfl (by kernel_rfl) ResV.nil),(zW [1] rfl (by decide)),⟨_,_,rfl,rfl,⟨_,rfl,(wC ⟨_,_,_,rfl,(SL.nil _),(SL.nil _),h40⟩)⟩,(yR ⟨_,rfl,h30⟩)⟩⟩
  intro F_spec_l3Value F_spec_l3Value_l1 ih_spec_l3Value ih_spec_l3Value_l1 aa aj i Kids x1 o N B I0 I Q y16 aw b b3 bi bh aS aR bc H h27 h28 hg ho hx;refine yM hg ho<|zZ<|yF [39] rfl<|zG<|yC N ?_ ?_
  · intro bO N;refine zS<|zX<|yG ?_;obtain ⟨⟨y19,y20⟩,hy6,N⟩:=zB N;obtain ⟨l,hy7,N⟩:=zB N;refine wQ [.p (vP b3 6) [],.p (vS bi Kids bh) [0],.p (vP aw 0) [],.p (vI aa) [],.p (vI aj) [],.p (vI (W (aj - 1))) [],.x (fun I' v hx=>∃ p14 c14 p15 c15 p16 c16 p17 c17,v=vA (cExpr y19 p14 c14 p15 c15 p16 c16)/\hx=[hB aw (cRd y20 p17 c17)]/\(S4 I' p14 y19.Index.Coefs c14)/\(S4 I' p15 y19.Read.Subs c15)/\(S4 I' p16 y19.Kids c16)/\(S4 I' p17 y20.b c17)),.x (fun I' v hx=>∃ b4,v=vS (some ⟨b4,0,none⟩) ([y19]:List zI) 1/\hx=[]/\(SL I' (vS (some ⟨b4,0,none⟩) ([y19]:List zI) 1) ([y19]:List zI))),.x (fun I' v hx=>∃ p18 c18 bJ,v=vS p18 l c18/\hx=[hO zI (vS p18 l c18) bJ]/\(RL I' bJ l))] [[],[(0,false)],[],[],[],[(4,false)],[(2,false),(3,false),(5,false),(11,true)],[(6,false)],[(1,false),(7,false),(12,true)]] [hB b3 [vI y16,vI 0,z0,vI 0,vT ([]),z0,vS bi Kids bh],hB b zExpr] [[hB aw (cRd x1 aR bc)],[hO zI (vS bi Kids bh) aS]] [(6,true),(8,true)] (zY [1,3,2,0]) ?_ ?_
    · refine Op<|Op<|Op<|Op<|Op<|Op<|Ox ?_<|Ox ?_<|Ox ?_<|On
      · rintro I1 hf af _ _ ⟨rfl,rfl⟩ _ _ ⟨rfl,rfl⟩ _ _ ⟨rfl,rfl⟩ _ _ rfl;refine yT [44,45,47] rfl ?_;have H:=iS I1;have h28:=h28.mono af;refine sJ (ih_spec_l3Value x1 aa (W (aj - 1)) _ hy6 h28) rfl ?_;rintro I09 ay v2 k2 le9 - ⟨v014,kk6,rfl,rfl,⟨bt,rfl,h31⟩,h32⟩ -;have H:=H.trans le9;obtain ⟨p14,c14,p15,c15,p16,c16,rfl,h33,h34,h35⟩:=tS h31;obtain ⟨p17,c17,rfl,h36⟩:=yA h32;exact yN [hB aw (cRd y20 p17 c17)] H ⟨_,_,_,_,_,_,_,_,rfl,rfl,h33,h34,h35,h36⟩
      · rintro I1 hf af _ _ ⟨p14,c14,p15,c15,p16,c16,p17,c17,rfl,rfl,h33,h34,h35,h36⟩;refine yT [48] rfl ?_;have H:=iS I1;refine mN (rc y19 (wC ⟨_,_,_,rfl,h33,h34,h35⟩) rN) ?_;intro b4 bS le10 h38;have H:=H.trans le10;exact yN [] H ⟨_,rfl,rfl,h38⟩
      rintro I1 hf af _ _ ⟨rfl,rfl⟩ _ _ ⟨b4,rfl,rfl,h38⟩ _ _ rfl;refine yT [43,49] rfl ?_;have h27:=iM af h27;obtain ⟨aQ,k0,k01⟩:=h38;have h38:SL I1 (vS (some ⟨b4,0,none⟩) ([y19]:List zI) 1) ([y19]:List zI):=⟨_,k0,k01⟩;exact sU 98 7 0 rfl rfl rfl h27 (.inl k0) k01 hy7 fun p18 c18 bJ h39=>wN (ah:=(hO zI (vS p18 l c18) bJ::hB b3 [vI y16,vI 0,z0,vI 0,vT ([]),z0,vS bi Kids bh]::hB b zExpr::hf)) rfl<|yN [hO zI (vS p18 l c18) bJ] iR ⟨_,_,_,rfl,rfl,h39⟩
    rintro bY le11 _ _ ⟨p14,c14,p15,c15,p16,c16,p17,c17,rfl,rfl,h33,h34,h35,h36⟩ _ _ ⟨p18,c18,bJ,rfl,rfl,h39⟩;refine yT [0,1,2,6,7,8,50] rfl ?_;have H:=H.trans le11;exact yB 10 [] [51] rfl<|xJ 2 [vI y16,vI 0,z0,vI 0,vT ([]),z0,vS p18 l c18] rfl<|yD rfl<|zM<|zG<|zJ<|yH [] [8] rfl<|yK<|kE (zW [0,2,1,3] rfl (by decide))<|oY<|ih_spec_l3Value_l1 aa aj (W (i+1)) l y20 _ N H h39 h36 hg ho hx
  intro bO N;exact wJ<|yL<|hx _ _ _ _ _ _ _ _ (zC N).symm H h27 h28
theorem zHB:∀ r0 aa aj r,pZ r0 aa aj=some r->∀ {I:Imm}{aw:Nat}{p c},(S4 I p r0.b c)->RT 246 [vP aw 0,vI aa,vI aj] I [hB aw (cRd r0 p c)] (zBX aw r):=zGV.1
def zGW (b0:Nat) (r:zP×zN):KT:=fun kk I' ah v=>
  ∃ v0 k0,ah=[.blk b0 ⟨k0⟩]/\v=tupV [v0]/\(∃ cs,v0=.agg ⟨cs⟩/\Rp.rep I' cs r.1)/\Rp.rep I' k0 r.2
def eY (r0:zN) (aa:Int):Option (zP×zN):=do
 let (y1,y2)<-jL r0 aa
 let (y4,y5)<-yV y2 ([2,3,1,2]:List Int)
 let (y7,y8)<-pZ y5 aa y4
 let y9<-rJ (zP.mk y1 y7) aa
 if y9 then
  pure ((zP.mk y1 y7),y8)
 else
  let y10<-nT
  pure ((zP.mk (zL.mk (⟨[65]⟩:Str) ([y10]:List zA)) (zI.mk 1 1 (zA.mk ([]:List Int) 0) (zL.mk (⟨[]⟩:Str) ([]:List zA)) ([]:List zI))),y8)
theorem zHr:∀ r0 aa r,eY r0 aa=some r->∀ {I:Imm}{aw:Nat}{p c},(S4 I p r0.b c)->RT 219 [vP aw 0,vI aa] I [hB aw (cRd r0 p c)] (zGW aw r):=by
 intro r0 aa r N I aw p c h;unfold eY at N;refine yJ func219 fun B=>yE<|wS [vT ([]),z0,vI 0,vI 0,z0,vI 0,vT ([]),z0,z0] ?_;intro b hb;refine yD rfl<|yX<|yB 2 [] [6,7] rfl<|tZ (zY [1,0] (ah:=[hB aw (cRd r0 p c),hB b [vT ([]),z0,vI 0,vI 0,z0,vI 0,vT ([]),z0,z0]])) ?_;obtain ⟨⟨y1,y2⟩,hy,N⟩:=zB N;refine sJ (zDK r0 aa _ hy h) rfl ?_;rintro I0 ay v2 k2 le - ⟨v0,kk,rfl,rfl,⟨cs,rfl,h1⟩,h2⟩ -;obtain ⟨p1,c1,rfl,h3⟩:=nY h1;obtain ⟨p2,c2,rfl,h4⟩:=yA h2;refine yB 6 [] [9,10,11] rfl<|mN (rI [2,3,1,2]) ?_;intro b1 aW af h6;have ⟨h3,h4⟩:=m2 af h3 h4;obtain ⟨⟨y4,y5⟩,aB,N⟩:=zB N;refine sJ (xE y2 ([2,3,1,2]:List Int) _ aB h4 h6) rfl ?_;rintro ba ay v2 k2 aF - ⟨v03,kk1,rfl,rfl,rfl,h8⟩ -;have h3:=h3.mono aF;obtain ⟨p3,c3,rfl,h9⟩:=yA h8;obtain ⟨⟨y7,y8⟩,aN,N⟩:=zB N;refine sJ (zHB y5 aa y4 _ aN h9) rfl ?_;rintro bH ay v2 k2 aK - ⟨v05,kk2,rfl,rfl,⟨az,rfl,h10⟩,h11⟩ -;have h3:=h3.mono aK;obtain ⟨p4,c4,p5,c5,p6,c6,rfl,h12,h13,h14⟩:=tS h10;obtain ⟨p7,c7,rfl,h15⟩:=yA h11;refine yB 10 [] [15] rfl<|wS [vT ([]),z0,vI 0,vI 0,z0,vI 0,vT ([]),z0,z0] ?_;intro b2 hb2;refine xJ 0 [vT y1.Array.l,vS p1 y1.Subs c1,vI y7.Kind,vI y7.Num,vS p4 y7.Index.Coefs c4,vI y7.Index.Const,vT y7.Read.Array.l,vS p5 y7.Read.Subs c5,vS p6 y7.Kids c6] rfl<|yD rfl<|zX<|yE<|rQ 2 [0] [(16,vA [vT y1.Array.l,vS p1 y1.Subs c1,vI y7.Kind,vI y7.Num,vS p4 y7.Index.Coefs c4,vI y7.Index.Const,vT y7.Read.Array.l,vS p5 y7.Read.Subs c5,vS p6 y7.Kids c6]),(17,vI aa)]<|bE N fun y9 bm N=>vQ (dX (zP.mk y1 y7) aa _ bm h3 h12 h13 h14) ?_;intro bL bk;have ⟨h3,h12,h13,h14,h15⟩:=m5 bk h3 h12 h13 h14 h15;refine yD rfl<|zG<|yC N ?_ ?_
 · intro hc N;refine yE<|rQ 1 [0] [(19,vA [vT y1.Array.l,vS p1 y1.Subs c1,vI y7.Kind,vI y7.Num,vS p4 y7.Index.Coefs c4,vI y7.Index.Const,vT y7.Read.Array.l,vS p5 y7.Read.Subs c5,vS p6 y7.Kids c6])]<|xJ 2 [vT y1.Array.l,vS p1 y1.Subs c1,vI y7.Kind,vI y7.Num,vS p4 y7.Index.Coefs c4,vI y7.Index.Const,vT y7.Read.Array.l,vS p5 y7.Read.Subs c5,vS p6 y7.Kids c6] rfl<|yD rfl<|xD<|zH ?_;obtain rfl:=zC N;exact yZ ⟨_,_,(.cell 2 rfl rfl (by kernel_rfl) ResV.nil),(zW [1] rfl (by decide)),⟨_,_,rfl,rfl,⟨_,rfl,(vC ⟨_,_,_,_,rfl,h3,h12,h13,h14⟩)⟩,(yR ⟨_,rfl,h15⟩)⟩⟩
 intro hc N;refine zS<|yX<|bE N fun y10 bw N=>xL (jS  _ bw ) ?_;rintro bR ay v2 k2 bz - ⟨p8,c8,aS,rfl,rfl,h17⟩ -;have h15:=h15.mono bz;refine xH 0 rfl ?_;intro I06 bC hl01;have h18:=SL.of_frozen hl01 bC h17;have h15:=h15.mono bC;refine uK (cAff y10 p8 c8) zA ?_;intro b3 hb3;have h19:RL I06 (cAff y10 p8 c8) ([y10]:List zA):=⟨(cAff y10 p8 c8),_,rfl,rfl,(yO ⟨_,rfl,h18⟩),rfl⟩;refine yB 5 [] [24] rfl<|xJ 3 [vT ([65]),vS (some ⟨b3,0,none⟩) ([y10]:List zA) 1,vI 1,vI 1,z0,vI 0,vT ([]),z0,z0] rfl<|yD rfl<|xD<|yU 0 rfl ?_;intro I07 le7 hl02;have h20:=SL.of_frozen hl02 le7 h19;have h15:=h15.mono le7;obtain rfl:=zC N;exact yZ ⟨_,_,(.cell 2 rfl rfl (by kernel_rfl) ResV.nil),(zW [1] rfl (by decide)),⟨_,_,rfl,rfl,⟨_,rfl,(vC ⟨_,_,_,_,rfl,h20,(SL.nil _),(SL.nil _),(SL.nil _)⟩)⟩,(yR ⟨_,rfl,h15⟩)⟩⟩
def zBY (r:(List zE)×Bool):KT:=fun kk I' ah v=>
  ∃ v0 v1,ah=[]/\v=tupV [v0,v1]/\SL I' v0 r.1/\v1=.bool r.2
def oA (sizes:(List Int)) (out:List zE) (i:Int):Option (Out (List zE) ((List zE)×Bool)):=do
 if (decide (i<(sizes.length:Int))) then
  let t28<-(do
    let x<-idx sizes i
    if (decide (x<0)) then
     pure true
    else
     let x1<-idx sizes i
     pure (decide (x1>99))
      : Option Bool)
  if t28 then
   pure (.ret (([]:List zE),false))
  else
   let y<-nT
   let x2<-idx sizes i
   let y1<-vD x2
   let au<-app 48 out ([(zE.mk ([y]:List zA) ([y1]:List zA))]:List zE)
   oA sizes au (W (i+1))
 else
  pure (.done out)
 partial_fixpoint
theorem zE2 (sizes:(List Int)):∀ (out:List zE) (i:Int) (o:Out (List zE) ((List zE)×Bool)),oA sizes out i=some o->∀ {B}{I0 I:Imm}{Q p c p1 c1 cs},I0.le I->(S4 I p sizes c)->(RL I cs out)->NG Q->NO Q->(∀ (I':Imm) (al:List zE) (p2:Option Addr) (c2:Nat) (az:List Value),o=(.done al)->I0.le I'->(RL I' az al)->T 43 B Q (.exit 0) I' [hO zE (vS p2 al c2) az] [(4,vS p2 al c2)])->(∀ r I' ah m',o=(.ret r)->I0.le I'->RS Tryz.prog f220 B (zBY  r) I' ah m'->T 43 B Q .ret I' ah m')->J Tryz.prog 43 B (nav (bodyOf f220) [1,1,1,0,1,0]) Q I [hO zE (vS p1 out c1) cs] [(0,vS p sizes c),(4,vS p1 out c1),(5,vI i)]:=by
 refine oA.partial_correctness sizes _ fun aJ ih out i o N B I0 I Q p c p1 c1 cs H h h3 hg ho hx hr=>yM hg ho<|zZ<|yF [14] rfl<|zG<|yC N ?_ ?_
 · intro aI N;refine zS<|zX<|yG<|zZ<|zZ ?_;refine wO N [hO zE (vS p1 out c1) cs] (fun t28=>[(0,vS p sizes c),(4,vS p1 out c1),(5,vI i),(28,.bool t28)]) (fun o0 aD=>?_) ?_
   · have H:=iS I;refine zJ<|yB 2 [] [17,18] rfl ?_;obtain ⟨x,hy,N⟩:=zB aD;refine xK rfl rfl h hy ?_;intro ad aQ ar ap;obtain rfl:=ap;refine xB 0 ar [vI x] (vI x) rfl<|yB 6 [] [22] rfl<|xV [22] N ?_ ?_
     · intro aX N;exact wG [] [(28,vY)]<|yL<|zU (ct N H)
     intro aX N;refine yB 8 [] [23,24] rfl<|bE N fun x1 aB N=>xK rfl rfl h aB ?_;intro ad1 bv av ax;obtain rfl:=ax;exact xB 0 av [vI x1] (vI x1) rfl<|yH [] [28] rfl<|yL<|zU (ct N H)
   intro t28 aW af aU;have ⟨h,h3,H⟩:=m3 af h h3 H;refine zG<|yC aU ?_ ?_
   · intro bK N;refine yE<|uK [] zE ?_;intro b1 hb1;have h5:RL aW [] ([]:List zE):=rfl;refine yH [] [2,3] rfl<|xD<|zH<|zV<|zH<|zH<|yU 0 rfl ?_;intro ba aF hl01;have h6:=SL.of_frozen hl01 aF h5;have H:=H.trans aF;exact hr _ _ _ _ (zC N).symm H ⟨_,_,(.tmp rfl (.tmp rfl ResV.nil)),zQ,⟨_,_,rfl,rfl,h6,rfl⟩⟩
   intro bK N;refine zS<|zG ?_;obtain ⟨y,aN,N⟩:=zB N;obtain ⟨x2,bm,N⟩:=zB N;obtain ⟨y1,bw,N⟩:=zB N;obtain ⟨au,bI,N⟩:=zB N;refine wQ [.p (vS p1 out c1) [],.x (fun I' v hx=>∃ p3 c3 aS,v=vA (cAff y p3 c3)/\hx=[hO Int (vS p3 y.Coefs c3) aS]/\(RL I' aS y.Coefs)),.x (fun I' v hx=>∃ b2,v=vS (some ⟨b2,0,none⟩) ([y]:List zA) 1/\hx=[]/\(SL I' (vS (some ⟨b2,0,none⟩) ([y]:List zA) 1) ([y]:List zA))),.p (vS p sizes c) [],.p (vI i) [],.x (fun I' v hx=>∃ ad2,v=.pointer (some ad2)/\hx=[]/\(At I' ad2 [vI x2])),.q (vI x2),.x (fun I' v hx=>∃ p4 c4 aT,v=vA (cAff y1 p4 c4)/\hx=[hO Int (vS p4 y1.Coefs c4) aT]/\(RL I' aT y1.Coefs)),.x (fun I' v hx=>∃ b3,v=vS (some ⟨b3,0,none⟩) ([y1]:List zA) 1/\hx=[]/\(SL I' (vS (some ⟨b3,0,none⟩) ([y1]:List zA) 1) ([y1]:List zA))),.x (fun I' v hx=>∃ b21 b31,v=vA [vS (some ⟨b21,0,none⟩) ([y]:List zA) 1,vS (some ⟨b31,0,none⟩) ([y1]:List zA) 1]/\hx=[]/\(SL I' (vS (some ⟨b21,0,none⟩) ([y]:List zA) 1) ([y]:List zA))/\(SL I' (vS (some ⟨b31,0,none⟩) ([y1]:List zA) 1) ([y1]:List zA))),.x (fun I' v hx=>∃ b4,v=vS (some ⟨b4,0,none⟩) ([(zE.mk ([y]:List zA) ([y1]:List zA))]:List zE) 1/\hx=[]/\(SL I' (vS (some ⟨b4,0,none⟩) ([(zE.mk ([y]:List zA) ([y1]:List zA))]:List zE) 1) ([(zE.mk ([y]:List zA) ([y1]:List zA))]:List zE))),.x (fun I' v hx=>∃ p5 c5 bt,v=vS p5 au c5/\hx=[hO zE (vS p5 au c5) bt]/\(RL I' bt au))] [[],[],[(1,true)],[],[],[(3,false),(4,false)],[(5,false)],[(6,false)],[(7,true)],[(2,false),(8,false)],[(9,false)],[(0,false),(10,false),(13,true)]] [] [[hO zE (vS p1 out c1) cs]] [(11,true)] (zY [0]) ?_ ?_
   · refine Op<|Ox ?_<|Ox ?_<|Op<|Op<|Ox ?_<|Oq ?_<|Ox ?_<|Ox ?_<|Ox ?_<|Ox ?_<|Ox ?_<|On
     · intro I1 hf af;refine I_h [] ?_;have H:=iS I1;refine xL (jS  _ aN ) ?_;rintro bH ay v2 k2 aK - ⟨p3,c3,aS,rfl,rfl,h7⟩ -;have H:=H.trans aK;exact yN [hO Int (vS p3 y.Coefs c3) aS] H ⟨_,_,_,rfl,rfl,h7⟩
     · rintro I1 hf af _ _ ⟨p3,c3,aS,rfl,rfl,h7⟩;refine yT [31] rfl ?_;have H:=iS I1;refine xH 0 rfl ?_;intro bL bk hl02;have h8:=SL.of_frozen hl02 bk h7;have H:=H.trans bk;refine mN (rc y (yO ⟨_,rfl,h8⟩) rN) ?_;intro b2 bR bz h10;have H:=H.trans bz;exact yN [] H ⟨_,rfl,rfl,h10⟩
     · intro I1 hf af;refine yT [33,34] rfl ?_;have h:=h.mono af;refine xK rfl rfl h bm ?_;intro ad2 bP aY bd;obtain rfl:=bd;exact yN [] iR ⟨_,rfl,rfl,aY⟩
     · rintro I1 hf af _ _ ⟨ad2,rfl,rfl,aY⟩;exact yT [35] rfl<|xB 0 aY [vI x2] (vI x2) rfl<|xC iR
     · intro I1 hf af;refine yT [36] rfl ?_;have H:=iS I1;refine xL (uT x2 _ bw ) ?_;rintro I06 ay v2 k2 bC - ⟨p4,c4,aT,rfl,rfl,h11⟩ -;have H:=H.trans bC;exact yN [hO Int (vS p4 y1.Coefs c4) aT] H ⟨_,_,_,rfl,rfl,h11⟩
     · rintro I1 hf af _ _ ⟨p4,c4,aT,rfl,rfl,h11⟩;refine yT [37] rfl ?_;have H:=iS I1;refine xH 0 rfl ?_;intro I07 le7 hl04;have h12:=SL.of_frozen hl04 le7 h11;have H:=H.trans le7;refine mN (rc y1 (yO ⟨_,rfl,h12⟩) rN) ?_;intro b3 I08 le8 h14;have H:=H.trans le8;exact yN [] H ⟨_,rfl,rfl,h14⟩
     · rintro I1 hf af _ _ ⟨b2,rfl,rfl,h10⟩ _ _ ⟨b3,rfl,rfl,h14⟩;exact yT [32,38] rfl<|mE 10 [(39,vA [vS (some ⟨b2,0,none⟩) ([y]:List zA) 1,vS (some ⟨b3,0,none⟩) ([y1]:List zA) 1])]<|yN [] iR ⟨_,_,rfl,rfl,h10,h14⟩
     · rintro I1 hf af _ _ ⟨b21,b31,rfl,rfl,h101,h141⟩;refine yT [39] rfl ?_;have H:=iS I1;refine mN (rc (zE.mk ([y]:List zA) ([y1]:List zA)) (qM ⟨_,_,rfl,h101,h141⟩) rN) ?_;intro b4 I09 le9 h16;have H:=H.trans le9;exact yN [] H ⟨_,rfl,rfl,h16⟩
     rintro I1 hf af _ _ ⟨rfl,rfl⟩ _ _ ⟨b4,rfl,rfl,h16⟩ _ _ rfl;refine yT [30,40] rfl ?_;have h3:=iM af h3;obtain ⟨ccs3,k0,k01⟩:=h16;have h16:SL I1 (vS (some ⟨b4,0,none⟩) ([(zE.mk ([y]:List zA) ([y1]:List zA))]:List zE) 1) ([(zE.mk ([y]:List zA) ([y1]:List zA))]:List zE):=⟨_,k0,k01⟩;exact sU 141 2 0 rfl rfl rfl h3 (.inl k0) k01 bI fun p5 c5 bt h17=>wN (ah:=(hO zE (vS p5 au c5) bt::hf)) rfl<|yN [hO zE (vS p5 au c5) bt] iR ⟨_,_,_,rfl,rfl,h17⟩
   rintro bS le10 _ _ ⟨p5,c5,bt,rfl,rfl,h17⟩;refine yT [0,5,41] rfl ?_;have ⟨h,H⟩:=m2 le10 h H;exact yH [] [4] rfl<|zM<|zG<|zJ<|yH [] [5] rfl<|yK<|oY<|ih au (W (i+1)) _ N H h h17 hg ho hx hr
 intro aI N;exact wJ<|yL<|hx _ _ _ _ _ (zC N).symm H h3
def fX (sizes:(List Int)):Option ((List zE)×Bool):=do
 if (decide ((sizes.length:Int)>4)) then
  pure (([]:List zE),false)
 else
  match<-oA sizes ([]:List zE) 0 with
  | .ret r0=>pure r0
  | .done al =>
   pure (al,true)
theorem zHC:∀ sizes r,fX sizes=some r->∀ {I:Imm}{p c},(S4 I p sizes c)->RT 220 [vS p sizes c] I [] (zBY  r):=by
 intro sizes r N I p c h;unfold fX at N;refine yJ func220 fun B=>wP []<|yX<|uK [] zE ?_;intro b hb;have h1:RL I [] ([]:List zE):=rfl;refine yH [] [4] rfl<|zX<|yF [9] rfl<|zG<|yC N ?_ ?_
 · intro hc N;refine yF [2,3] rfl<|xD<|zH<|yU 0 rfl ?_;intro I0 le hl0;have h2:=SL.of_frozen hl0 le h1;obtain rfl:=zC N;exact yZ ⟨_,_,(.tmp rfl (.tmp rfl ResV.nil)),zQ,⟨_,_,rfl,rfl,h2,rfl⟩⟩
 intro hc N;refine zS<|zX<|yF [5] rfl<|xX<|rU [(0,vS p sizes c),(4,vS (some ⟨b,0,none⟩) ([]:List zE) 0),(5,vI 0)] ?_;obtain ⟨aP,aA,aM⟩:=zB N;refine zE2 sizes ([]:List zE) 0 aP aA iR h h1 (fun _ _ _ h=>h) (fun _ _ h=>h) ?_ ?_
 · intro bY al p2 c2 az heq1 le11 h4;subst aP;refine zR<|wM [2,3] rfl<|xD<|yU 0 rfl ?_;intro bX le12 hl07;have h18:=SL.of_frozen hl07 le12 h4;obtain rfl:=zC aM;exact yZ ⟨_,_,(.tmp rfl (.tmp rfl ResV.nil)),zQ,⟨_,_,rfl,rfl,h18,rfl⟩⟩
 intro r0 I9 hs9 m9 aZ le9 bb;subst aZ;refine zV<|zH ?_;obtain rfl:=zC aM;exact yZ bb
end Go.LN
