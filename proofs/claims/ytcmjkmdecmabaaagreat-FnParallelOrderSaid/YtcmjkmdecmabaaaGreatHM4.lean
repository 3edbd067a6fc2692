/- Helper of the proof (see the last text). -/
import Derived.Test.YtcmjkmdecmabaaaGreatHM3
set_option linter.unusedVariables false
set_option linter.unusedSimpArgs false
namespace Go.LN
open Go.Proofs Go.Proofs.Tryz
set_option maxRecDepth 20000
def tD (list:(List zF)) (part:zO) (y1:(List (List Int))) (i:Int) (k0:Int):Option (Out Unit (Int×Bool)):=do
 if (decide (k0<(y1.length:Int))) then
  let x1<-idx part.Body i
  let x2<-idx y1 k0
  let (y5,y6,y7)<-kJ list x1 x2
  let t80<-(do
    if (!y7) then
     pure true
    else
     let x3<-idx y1 k0
     let y8<-kK x3
     pure (!y8)
      : Option Bool)
  if t80 then
   pure (.ret (0,false))
  else
   tD list part y1 i (W (k0+1))
 else
  pure (.done ())
 partial_fixpoint
theorem zFX (list:(List zF)) (part:zO) (y1:(List (List Int))) (i:Int):∀ (k0:Int) (o:Out Unit (Int×Bool)),tD list part y1 i k0=some o->∀ {B}{I0 I:Imm}{Q p c p1 c1 p2 c2}{b:Nat}{p3 c3},I0.le I->(S4 I p list c)->(S4 I p3 y1 c3)->(S4 I p1 part.Nest c1)->(S4 I p2 part.Body c2)->NG Q->NO Q->(∀ (I':Imm) ,o=(.done ())->I0.le I'->T 87 B Q (.exit 2) I' [hB b (cPart part p1 c1 p2 c2)] [(0,vS p list c),(3,vP b 0),(6,vS p3 y1 c3),(8,vI i)])->(∀ r I' ah m',o=(.ret r)->I0.le I'->RS Tryz.prog f101 B (jY  r) I' ah m'->T 87 B Q .ret I' ah m')->J Tryz.prog 87 B (nav (bodyOf f101) [1,1,1,0,1,0,0,1,0,0,1,1,0]) Q I [hB b (cPart part p1 c1 p2 c2)] [(0,vS p list c),(3,vP b 0),(6,vS p3 y1 c3),(8,vI i),(9,vI k0)]:=by
 refine tD.partial_correctness list part y1 i _ fun aI ih k0 o N B I0 I Q p c p1 c1 p2 c2 b p3 c3 H h h3 h1 h2 hg ho hx hr=>yO hg ho<|yB<|yG [53] rfl<|zH<|yE N ?_ ?_
 · intro hc5 N;refine zT<|zZ<|yH<|yB ?_;obtain ⟨x1,bi,N⟩:=zB N;obtain ⟨x2,bu,N⟩:=zB N;obtain ⟨⟨y5,y6,y7⟩,bJ,N⟩:=zB N;refine wT [.p (vS p list c) [],.p (vP b 1) [],.p (vS p2 part.Body c2) [0],.p (vI i) [],.x (ePStmt x1),.x (eVStmt x1),.p (vS p3 y1 c3) [],.p (vI k0) [],.x (fun I' v hx=>∃ ad2 bD br,v=.pointer (some ad2)/\hx=[]/\(At I' ad2 [vS bD x2 br])/\(S4 I' bD x2 br)),.x (eS x2),.x (fun I' v hx=>∃ bt bz,v=.tuple ⟨[vS bt y5 bz,vI y6,.bool y7]⟩/\hx=[]/\(S4 I' bt y5 bz)),.x (fun I' v hx=>∃ p131 c131,v=.tuple ⟨[vS p131 y5 c131,vI y6,.bool y7]⟩/\hx=[]/\(S4 I' p131 y5 c131)),.x (eS y5),.q (vI y6),.q (.bool y7),.x (eS y5),.p (vI y6) []] [[],[],[(1,false)],[],[(2,false),(3,false)],[(4,false)],[],[],[(6,false),(7,false)],[(8,false)],[(0,false),(5,false),(9,false)],[(10,false)],[(11,false)],[(11,false)],[(11,false)],[(12,false)],[(13,false)]] [hB b (cPart part p1 c1 p2 c2)] [] [(14,false)] (zY [0]) ?_ ?_
   · refine Op<|Op<|Op<|Op<|Ox ?_<|Ox ?_<|Op<|Op<|Ox ?_<|Ox ?_<|Ox ?_<|Ox ?_<|Ox ?_<|Oq ?_<|Oq ?_<|Ox ?_<|Op<|On
     · intro I1 hf ae;refine yW [59,60] rfl ?_;have h2:=h2.mono ae;refine xL rfl rfl h2 bi ?_;intro ad1 bv av ax;obtain ⟨p8,c8,p9,c9,bc,bj,aT,bf,rfl,h10,h11,h12,h13⟩:=pQ ax;exact yL [] iR ⟨_,_,_,_,_,_,_,_,_,rfl,rfl,av,h10,h11,h12,h13⟩
     · rintro I1 hf ae _ _ ⟨ad1,p8,c8,p9,c9,bc,bj,aT,bf,rfl,rfl,av,h10,h11,h12,h13⟩;exact yW [61] rfl<|xE 0 av (cStmt x1 p8 c8 p9 c9 bc bj aT bf) (vA (cStmt x1 p8 c8 p9 c9 bc bj aT bf)) rfl<|yL [] iR ⟨_,_,_,_,_,_,_,_,rfl,rfl,h10,h11,h12,h13⟩
     · intro I1 hf ae;refine yW [63,64] rfl ?_;have h3:=h3.mono ae;refine xL rfl rfl h3 bu ?_;intro ad2 bP bb bk;obtain ⟨v011,rfl,h14⟩:=bk;obtain ⟨bD,br,rfl⟩:=h14.form;exact yL [] iR ⟨_,_,_,rfl,rfl,bb,h14⟩
     · rintro I1 hf ae _ _ ⟨ad2,bD,br,rfl,rfl,bb,h14⟩;exact yW [65] rfl<|xE 0 bb [vS bD x2 br] (vS bD x2 br) rfl<|yL [] iR ⟨_,_,rfl,rfl,h14⟩
     · rintro I1 hf ae _ _ ⟨rfl,rfl⟩ _ _ ⟨p81,c81,p91,c91,p101,c101,p111,c111,rfl,rfl,h101,h111,h121,h131⟩ _ _ ⟨p121,c121,rfl,rfl,h141⟩;refine yW [57,62,66] rfl ?_;have H:=iS I1;have h:=h.mono ae;refine xM (zHC list x1 x2 _ bJ h h101 h111 h121 h131 h141) ?_;rintro bL ay v2 k2 bd - ⟨v012,v013,v014,rfl,rfl,h15,rfl,rfl⟩ -;have H:=H.trans bd;obtain ⟨bt,bz,rfl⟩:=h15.form;exact yL [] H ⟨_,_,rfl,rfl,h15⟩
     · rintro I1 hf ae _ _ ⟨bt,bz,rfl,rfl,h15⟩;exact yW [67] rfl<|mF 12 [(56,.tuple ⟨[vS bt y5 bz,vI y6,.bool y7]⟩)]<|yL [] iR ⟨_,_,rfl,rfl,h15⟩
     · rintro I1 hf ae _ _ ⟨p131,c131,rfl,rfl,h151⟩;exact yW [56] rfl<|mF 13 [(68,vS p131 y5 c131)]<|yL [] iR ⟨_,_,rfl,rfl,h151⟩
     · rintro I1 hf ae _ _ ⟨p131,c131,rfl,rfl,h151⟩;exact yW [56] rfl<|mF 14 [(69,vI y6)]<|xF iR
     · rintro I1 hf ae _ _ ⟨p131,c131,rfl,rfl,h151⟩;exact yW [56] rfl<|mF 15 [(70,.bool y7)]<|xF iR
     rintro I1 hf ae _ _ ⟨p1311,c1311,rfl,rfl,h1511⟩;exact yW [68] rfl<|mF 16 [(10,vS p1311 y5 c1311)]<|yL [] iR ⟨_,_,rfl,rfl,h1511⟩
   intro bR bw;refine yW [0,3,6,8,9,70] rfl ?_;have ⟨h,h3,h1,h2,H⟩:=m5 bw h h3 h1 h2 H;refine yI [] [12] rfl<|zH<|yB ?_;refine wR N [hB b (cPart part p1 c1 p2 c2)] (fun t80=>[(0,vS p list c),(3,vP b 0),(6,vS p3 y1 c3),(8,vI i),(9,vI k0),(80,.bool t80)]) (fun aQ aB=>?_) ?_
   · have H:=iS bR;refine zJ<|yC 3 [] [73] rfl<|xW [73] aB ?_ ?_
     · intro hc6 N;exact wI [] [(80,vY)]<|yN<|zV (ct N H)
     intro hc6 N;refine yC 5 [] [74,75] rfl<|bE N fun x3 hy6 N=>xL rfl rfl h3 hy6 ?_;intro ad3 ccs3 hat3 bH;obtain ⟨v015,rfl,h18⟩:=bH;obtain ⟨p14,c14,rfl⟩:=h18.form;refine xE 0 hat3 [vS p14 x3 c14] (vS p14 x3 c14) rfl<|bE N fun y8 hy7 N=>vU (zHD x3 _ hy7 h18) ?_;intro I07 bC;have H:=H.trans bC;exact yI [] [80] rfl<|yN<|zV (ct N H)
   intro t80 I06 le7 hMc1;have ⟨h,h3,h1,h2,H⟩:=m5 le7 h h3 h1 h2 H;refine zH<|yE hMc1 ?_ ?_
   · intro hc7 N;exact yG [4,5] rfl<|xD<|zW<|zG<|zG<|hr _ _ _ _ (zC N).symm H ⟨_,_,(.tmp rfl (.tmp rfl ResV.nil)),zQ,⟨_,_,rfl,rfl,rfl,rfl⟩⟩
   intro hc7 N;exact zT<|zN<|zH<|zJ<|yI [] [9] rfl<|yM<|nT<|ih (W (k0+1)) _ N H h h3 h1 h2 hg ho hx hr
 intro hc5 N;exact wL<|yN<|hx _  (zC N).symm H
def tE (list:(List zF)) (part:zO) (y1:(List (List Int))) (i:Int):Option (Out Unit (Int×Bool)):=do
 if (decide (i<(part.Body.length:Int))) then
  let x<-idx part.Body i
  let y3<-rO x (part.Nest.length:Int)
  if (!y3) then
   pure (.ret (0,false))
  else
   match<-tD list part y1 i 0 with
   | .ret r0=>pure (.ret r0)
   | .done _ =>
    tE list part y1 (W (i+1))
 else
  pure (.done ())
 partial_fixpoint
theorem zFY (list:(List zF)) (part:zO) (y1:(List (List Int))):∀ (i:Int) (o:Out Unit (Int×Bool)),tE list part y1 i=some o->∀ {B}{I0 I:Imm}{Q p c p1 c1 p2 c2}{b:Nat}{p3 c3},I0.le I->(S4 I p list c)->(S4 I p3 y1 c3)->(S4 I p1 part.Nest c1)->(S4 I p2 part.Body c2)->NG Q->NO Q->(∀ (I':Imm) ,o=(.done ())->I0.le I'->T 87 B Q (.exit 0) I' [hB b (cPart part p1 c1 p2 c2)] [(3,vP b 0),(6,vS p3 y1 c3)])->(∀ r I' ah m',o=(.ret r)->I0.le I'->RS Tryz.prog f101 B (jY  r) I' ah m'->T 87 B Q .ret I' ah m')->J Tryz.prog 87 B (nav (bodyOf f101) [1,1,1,0,1,0]) Q I [hB b (cPart part p1 c1 p2 c2)] [(0,vS p list c),(3,vP b 0),(6,vS p3 y1 c3),(8,vI i)]:=by
 refine tE.partial_correctness list part y1 _ fun aI ih i o N B I0 I Q p c p1 c1 p2 c2 b p3 c3 H h h3 h1 h2 hg ho hx hr=>yO hg ho<|yB<|yF<|yI [0] [37] rfl<|zH<|yE N ?_ ?_
 · intro bK N;refine zT<|zZ<|yH<|yB<|yB ?_;obtain ⟨x,aA,N⟩:=zB N;obtain ⟨y3,aK,N⟩:=zB N;refine wT [.p (vP b 1) [],.p (vS p2 part.Body c2) [0],.p (vI i) [],.x (ePStmt x),.x (eVStmt x),.p (vP b 0) [],.p (vS p1 part.Nest c1) [0],.p (vI (part.Nest.length:Int)) [],.q (.bool y3),.p (.bool (!y3)) []] [[],[(0,false)],[],[(1,false),(2,false)],[(3,false)],[],[(5,false)],[(6,false)],[(4,false),(7,false)],[(8,false)]] [hB b (cPart part p1 c1 p2 c2)] [] [(9,false)] (zY [0]) ?_ ?_
   · refine Op<|Op<|Op<|Ox ?_<|Ox ?_<|Op<|Op<|Op<|Oq ?_<|Op<|On
     · intro I1 hf ae;refine yW [41,42] rfl ?_;have h2:=h2.mono ae;refine xL rfl rfl h2 aA ?_;intro ad aP aq am;obtain ⟨p4,c4,p5,c5,p6,c6,p7,c7,rfl,h5,h6,h7,h8⟩:=pQ am;exact yL [] iR ⟨_,_,_,_,_,_,_,_,_,rfl,rfl,aq,h5,h6,h7,h8⟩
     · rintro I1 hf ae _ _ ⟨ad,p4,c4,p5,c5,p6,c6,p7,c7,rfl,rfl,aq,h5,h6,h7,h8⟩;exact yW [43] rfl<|xE 0 aq (cStmt x p4 c4 p5 c5 p6 c6 p7 c7) (vA (cStmt x p4 c4 p5 c5 p6 c6 p7 c7)) rfl<|yL [] iR ⟨_,_,_,_,_,_,_,_,rfl,rfl,h5,h6,h7,h8⟩
     rintro I1 hf ae _ _ ⟨p41,c41,p51,c51,p61,c61,p71,c71,rfl,rfl,h51,h61,h71,h81⟩;refine yW [44,47] rfl ?_;have H:=iS I1;refine vU (zAB x (part.Nest.length:Int) _ aK h51 h61 h71 h81) ?_;intro aX aF;have H:=H.trans aF;exact xF H
   intro bG aJ;refine yW [0,3,6,8,49] rfl ?_;have ⟨h,h3,h1,h2,H⟩:=m5 aJ h h3 h1 h2 H;refine yD rfl<|zH<|yE N ?_ ?_
   · intro bO N;exact yG [4,5] rfl<|xD<|zG<|zW<|zG<|zG<|hr _ _ _ _ (zC N).symm H ⟨_,_,(.tmp rfl (.tmp rfl ResV.nil)),zQ,⟨_,_,rfl,rfl,rfl,rfl⟩⟩
   intro bO N;refine zT<|wP [9] rfl<|xY<|qI [(0,vS p list c),(3,vP b 0),(6,vS p3 y1 c3),(8,vI i),(9,vI 0)] ?_;obtain ⟨o02,ho02,aM⟩:=zB N;refine zFX list part y1 i 0 o02 ho02 iR h h3 h1 h2 (fun _ _ _ h=>hg _ _ _ h) (fun _ _ h=>ho _ _ h) ?_ ?_
   · intro I08  heq2 le8;subst o02;have ⟨h,h3,h1,h2,H⟩:=m5 le8 h h3 h1 h2 H;exact zS<|zN<|zH<|zJ<|yI [] [8] rfl<|yM<|nT<|ih (W (i+1)) _ aM H h h3 h1 h2 hg ho hx hr
   intro r0 I9 hs9 m9 aY le9 ba;subst aY;exact zW<|zW<|zG<|zG<|hr _ _ _ _ (zC aM).symm (H.trans le9) ba
 intro bK N;exact wL<|yN<|hx _  (zC N).symm H
def nW (list:(List zF)) (part:zO):Option (Int×Bool):=do
 let (y1,y2)<-pX part.Nest
 let t32<-(do
   if (!y2) then
    pure true
   else
    if (decide ((part.Body.length:Int)<1)) then
     pure true
    else
     pure (decide ((part.Body.length:Int)>4))
     : Option Bool)
 if t32 then
  pure (0,false)
 else
  match<-tE list part y1 0 with
  | .ret r0=>pure r0
  | .done _ =>
   pure ((W ((y1.length:Int)*(part.Body.length:Int))),true)
theorem zBB:∀ list part r,nW list part=some r->∀ {I:Imm}{p c p1 c1 p2 c2},(S4 I p list c)->(S4 I p1 part.Nest c1)->(S4 I p2 part.Body c2)->RT 101 [vS p list c,vA (cPart part p1 c1 p2 c2)] I [] (jY  r):=by
 intro list part r N I p c p1 c1 p2 c2 h h1 h2;unfold nW at N;refine yK func101 fun B=>?_;have H:=iS I;refine yF<|tT (cPart part p1 c1 p2 c2) ?_;intro b hb;refine wI [] []<|yV<|yC 2 [0] [15] rfl ?_;obtain ⟨⟨y1,y2⟩,hy,N⟩:=zB N;refine xM (zE5 part.Nest _ hy h1) ?_;rintro I0 ay v2 k2 le - ⟨v0,v01,rfl,rfl,h3,rfl⟩ -;have ⟨h,h1,h2,H⟩:=m4 le h h1 h2 H;obtain ⟨p3,c3,rfl⟩:=h3.form;refine yI [] [6,7] rfl<|zZ<|yB ?_;refine wR N [hB b (cPart part p1 c1 p2 c2)] (fun t32=>[(0,vS p list c),(3,vP b 0),(6,vS p3 y1 c3),(32,.bool t32)]) (fun o0 aD=>?_) ?_
 · have H:=iS I0;refine zJ<|yC 3 [] [21] rfl<|xW [21] aD ?_ ?_
   · intro hc N;exact wI [] [(32,vY)]<|yN<|zV (ct N H)
   intro hc N;refine yC 9 [0] [27] rfl<|xW [27] N ?_ ?_
   · intro aH N;exact wI [] [(32,vY)]<|yN<|zV (ct N H)
   intro aH N;exact yI [0] [32] rfl<|yN<|zV (ct N H)
 intro t32 aW ae aV;have ⟨h,h3,h1,h2⟩:=m4 ae h h3 h1 h2;refine zH<|yE aV ?_ ?_
 · intro aZ N;refine yG [4,5] rfl<|xD<|zG ?_;obtain rfl:=zC N;exact xA ⟨_,_,(.tmp rfl (.tmp rfl ResV.nil)),zQ,⟨_,_,rfl,rfl,rfl,rfl⟩⟩
 intro aZ N;refine zT<|zZ<|yG [8] rfl<|xY<|qI [(0,vS p list c),(3,vP b 0),(6,vS p3 y1 c3),(8,vI 0)] ?_;obtain ⟨o03,ho03,hMl1⟩:=zB N;refine zFY list part y1 0 o03 ho03 iR h h3 h1 h2 (fun _ _ _ h=>h) (fun _ _ h=>h) ?_ ?_
 · intro I09  heq3 le9;subst o03;refine zS<|yV<|yI [0] [4,5] rfl<|zH<|yY ?_;obtain rfl:=zC hMl1;exact xA ⟨_,_,(.tmp rfl (.tmp rfl ResV.nil)),zQ,⟨_,_,rfl,rfl,rfl,rfl⟩⟩
 intro r0 I9 hs9 m9 aY le9 ba;subst aY;refine zW<|zG ?_;obtain rfl:=zC hMl1;exact xA ba
def wN (p:zD) (total:Int) (i:Int):Option (Out Int (Bool)):=do
 if (decide (i<(p.Parts.length:Int))) then
  let x<-idx p.Parts i
  let (y2,y3)<-nW p.Arrays x
  if (!y3) then
   pure (.ret false)
  else
   wN p (W (total+y2)) (W (i+1))
 else
  pure (.done total)
 partial_fixpoint
theorem zCD (p:zD):∀ (total:Int) (i:Int) (o:Out Int (Bool)),wN p total i=some o->∀ {B}{I0 I:Imm}{Q p1 c p2 c1}{b:Nat},I0.le I->(S4 I p1 p.Arrays c)->(S4 I p2 p.Parts c1)->NG Q->NO Q->(∀ (I':Imm) (total1:Int),o=(.done total1)->I0.le I'->T 42 B Q (.exit 0) I' [] [(3,vI total1)])->(∀ r I' ah m',o=(.ret r)->I0.le I'->RS Tryz.prog f57 B (zU  r) I' ah m'->T 42 B Q .ret I' ah m')->J Tryz.prog 42 B (nav (bodyOf f57) [1,1,1,0,1,0]) Q I [hB b (cProg p p1 c p2 c1)] [(1,vP b 0),(3,vI total),(4,vI i)]:=by
 refine wN.partial_correctness p _ fun aI ih total i o N B I0 I Q p1 c p2 c1 b H h h1 hg ho hx hr=>yO hg ho<|yB<|yF<|yI [0] [21] rfl<|zH<|yE N ?_ ?_
 · intro aZ N;refine zT<|zZ<|yH<|yB ?_;obtain ⟨x,aA,N⟩:=zB N;obtain ⟨⟨y2,y3⟩,aK,N⟩:=zB N;refine wT [.p (vP b 0) [],.p (vS p1 p.Arrays c) [0],.p (vP b 1) [],.p (vS p2 p.Parts c1) [0],.p (vI i) [],.x (ePPart x),.x (eVPart x),.q (.tuple ⟨[vI y2,.bool y3]⟩),.p (.tuple ⟨[vI y2,.bool y3]⟩) [],.p (vI y2) [],.p (.bool y3) [],.p (vI y2) []] [[],[(0,false)],[],[(2,false)],[],[(3,false),(4,false)],[(5,false)],[(1,false),(6,false)],[(7,false)],[(8,false)],[(8,false)],[(9,false)]] [hB b (cProg p p1 c p2 c1)] [] [(10,false),(11,false)] (zY [0]) ?_ ?_
   · refine Op<|Op<|Op<|Op<|Op<|Ox ?_<|Ox ?_<|Oq ?_<|Op<|Op<|Op<|Op<|On
     · intro I1 hf ae;refine yW [28,29] rfl ?_;have h1:=h1.mono ae;refine xL rfl rfl h1 aA ?_;intro ad aP aq am;obtain ⟨p3,c2,p4,c3,rfl,h3,h4⟩:=wU am;exact yL [] iR ⟨_,_,_,_,_,rfl,rfl,aq,h3,h4⟩
     · rintro I1 hf ae _ _ ⟨ad,p3,c2,p4,c3,rfl,rfl,aq,h3,h4⟩;exact yW [30] rfl<|xE 0 aq (cPart x p3 c2 p4 c3) (vA (cPart x p3 c2 p4 c3)) rfl<|yL [] iR ⟨_,_,_,_,rfl,rfl,h3,h4⟩
     rintro I1 hf ae _ _ ⟨rfl,rfl⟩ _ _ ⟨p31,c21,p41,c31,rfl,rfl,h31,h41⟩;refine yW [26,31] rfl ?_;have H:=iS I1;have h:=h.mono ae;refine xM (zBB p.Arrays x _ aK h h31 h41) ?_;rintro aX ay v2 k2 aF - ⟨v03,v04,rfl,rfl,rfl,rfl⟩ -;have H:=H.trans aF;exact xF H
   intro bG aJ;refine yW [1,3,4,5,34] rfl ?_;have ⟨h,h1,H⟩:=m3 aJ h h1 H;refine yI [] [6] rfl<|zZ<|yG [36] rfl<|zH<|yE N ?_ ?_
   · intro bK N;exact wQ [(2,vF)]<|xD<|zG<|zW<|zG<|zG<|hr _ _ _ _ (zC N).symm H ⟨_,_,(.tmp rfl ResV.nil),zQ,⟨_,rfl,rfl,rfl⟩⟩
   intro bK N;exact zT<|zH<|zJ<|yI [] [3] rfl<|zN<|zH<|zJ<|yI [] [4] rfl<|yM<|nT<|ih (W (total+y2)) (W (i+1)) _ N H h h1 hg ho hx hr
 intro aZ N;exact wL<|xR zQ<|yN<|hx _ _ (zC N).symm H
def uV (p:zD):Option (Bool):=do
 let t16<-(do
   let y<-mL p.Arrays
   if (!y) then
    pure true
   else
    pure (decide ((p.Parts.length:Int)>4))
     : Option Bool)
 if t16 then
  pure false
 else
  match<-wN p 0 0 with
  | .ret r0=>pure r0
  | .done total1 =>
   pure (decide (total1<=120))
theorem eC:∀ p r,uV p=some r->∀ {I:Imm}{p1 c p2 c1},(S4 I p1 p.Arrays c)->(S4 I p2 p.Parts c1)->RT 57 [vA (cProg p p1 c p2 c1)] I [] (zU  r):=by
 intro p r N I p1 c p2 c1 h h1;unfold uV at N;refine yK func57 fun B=>?_;have H:=iS I;refine yF<|tT (cProg p p1 c p2 c1) ?_;intro b hb;refine wI [] []<|zZ<|yB ?_;refine wR N [hB b (cProg p p1 c p2 c1)] (fun t16=>[(1,vP b 0),(16,.bool t16)]) (fun o0 aD=>?_) ?_
 · have H:=iS I;refine zJ<|yC 2 [0] [8] rfl ?_;obtain ⟨y,hy,N⟩:=zB aD;refine vU (zGQ p.Arrays _ hy h) ?_;intro aW le;have H:=H.trans le;refine yC 5 [] [11] rfl<|xW [11] N ?_ ?_
   · intro hc N;exact wI [] [(16,vY)]<|yN<|zV (ct N H)
   intro hc N;exact yI [0] [16] rfl<|yN<|zV (ct N H)
 intro t16 I0 ae aV;have ⟨h,h1⟩:=m2 ae h h1;refine zH<|yE aV ?_ ?_
 · intro aH N;refine wQ [(2,vF)]<|xD<|zG ?_;obtain rfl:=zC N;exact wF
 intro aH N;refine zT<|wP [3] rfl<|zZ<|yG [4] rfl<|xY<|qI [(1,vP b 0),(3,vI 0),(4,vI 0)] ?_;obtain ⟨aQ,aB,aM⟩:=zB N;refine zCD p 0 0 aQ aB iR h h1 (fun _ _ _ h=>h) (fun _ _ h=>h) ?_ ?_
 · intro bL total1 heq1 bd;subst aQ;refine zS<|wP [2] rfl<|zH<|yY ?_;obtain rfl:=zC aM;exact wF
 intro r0 I9 hs9 m9 aY le9 ba;subst aY;refine zW<|zG ?_;obtain rfl:=zC aM;exact xA ba
def nF (nest:(List zE)) (out:Str) (i:Int):Option (Str):=do
 if (decide (i<(nest.length:Int))) then
  let s<-cat out (⟨[102,111,114,32]⟩:Str)
  let x<-idx nest i
  let y<-pW x.Lo
  let s1<-cat s y
  let s2<-cat s1 (⟨[32]⟩:Str)
  let x1<-idx nest i
  let y1<-pW x1.Hi
  let s3<-cat s2 y1
  let s4<-cat s3 (⟨[10]⟩:Str)
  nF nest s4 (W (i+1))
 else
  pure (id out)
 partial_fixpoint
theorem zFZ (nest:(List zE)):∀ (out:Str) (i:Int) (o:Str),nF nest out i=some o->∀ {B}{I0 I:Imm}{Q p c},I0.le I->(S4 I p nest c)->NG Q->NO Q->(∀ (I':Imm) (aj:Str),o=aj->I0.le I'->T 30 B Q (.exit 0) I' [] [(3,vT aj.l)])->J Tryz.prog 30 B (nav (bodyOf f215) [1,1,0,1,0]) Q I [] [(0,vS p nest c),(3,vT out.l),(4,vI i)]:=by
 refine nF.partial_correctness nest _ fun aI ih out i o N B I0 I Q p c H h hg ho hx=>yO hg ho<|yB<|yG [8] rfl<|zH<|yE N ?_ ?_
 · intro hc N;refine zT<|zZ<|yH ?_;obtain ⟨s,hy,N⟩:=zB N;obtain ⟨x,aA,N⟩:=zB N;obtain ⟨y,aK,N⟩:=zB N;obtain ⟨s1,bi,N⟩:=zB N;obtain ⟨s2,bu,N⟩:=zB N;obtain ⟨x1,bJ,N⟩:=zB N;obtain ⟨y1,hy6,N⟩:=zB N;obtain ⟨s3,hy7,N⟩:=zB N;obtain ⟨s4,hy8,N⟩:=zB N;refine wT [.p (vT out.l) [],.q (vT s.l),.p (vS p nest c) [],.p (vI i) [],.x (ePLoop x),.x (ePLoop x),.x (eS x.Lo),.q (vT y.l),.q (vT s1.l),.q (vT s2.l),.p (vS p nest c) [],.p (vI i) [],.x (ePLoop x1),.x (eQLoop 1 x1),.x (eS x1.Hi),.q (vT y1.l),.q (vT s3.l),.q (vT s4.l)] [[],[(0,false)],[],[],[(2,false),(3,false)],[(4,false)],[(5,false)],[(6,false)],[(1,false),(7,false)],[(8,false)],[],[],[(10,false),(11,false)],[(12,false)],[(13,false)],[(14,false)],[(9,false),(15,false)],[(16,false)]] [] [] [(17,false)] zQ ?_ ?_
   · refine Op<|Oq ?_<|Op<|Op<|Ox ?_<|Ox ?_<|Ox ?_<|Oq ?_<|Oq ?_<|Oq ?_<|Op<|Op<|Ox ?_<|Ox ?_<|Ox ?_<|Oq ?_<|Oq ?_<|Oq ?_<|On
     · intro I1 hf ae;exact yW [11] rfl<|gK rfl hy<|xF iR
     · intro I1 hf ae;refine yW [13,14] rfl ?_;have h:=h.mono ae;refine xL rfl rfl h aA ?_;intro ad aP aq am;obtain ⟨p1,c1,p2,c2,rfl,h1,h2⟩:=sW am;exact yL [] iR ⟨_,_,_,_,_,rfl,rfl,aq,h1,h2⟩
     · rintro I1 hf ae _ _ ⟨ad,p1,c1,p2,c2,rfl,rfl,aq,h1,h2⟩;exact yW [15] rfl<|mF 6 [(16,.pointer (some ad))]<|yL [] iR ⟨_,_,_,_,_,rfl,rfl,aq,h1,h2⟩
     · rintro I1 hf ae _ _ ⟨ad1,aT,bf,p21,c21,rfl,rfl,av,h11,h21⟩;exact yW [16] rfl<|xE 0 av [vS aT x.Lo bf] (vS aT x.Lo bf) rfl<|yL [] iR ⟨_,_,rfl,rfl,h11⟩
     · rintro I1 hf ae _ _ ⟨p111,c111,rfl,rfl,h111⟩;refine yW [17] rfl ?_;have H:=iS I1;refine xM (dS x.Lo _ aK h111) ?_;rintro I0 ay v2 k2 le - ⟨v02,rfl,rfl,rfl⟩ -;have H:=H.trans le;exact xF H
     · intro I1 hf ae;exact yW [12,18] rfl<|gK rfl bi<|xF iR
     · intro I1 hf ae;exact yW [19] rfl<|gK rfl bu<|xF iR
     · intro I1 hf ae;refine yW [21,22] rfl ?_;have h:=h.mono ae;refine xL rfl rfl h bJ ?_;intro ad2 bv bb ax;obtain ⟨p3,c3,p4,c4,rfl,h4,h5⟩:=sW ax;exact yL [] iR ⟨_,_,_,_,_,rfl,rfl,bb,h4,h5⟩
     · rintro I1 hf ae _ _ ⟨ad2,p3,c3,p4,c4,rfl,rfl,bb,h4,h5⟩;exact yW [23] rfl<|mF 14 [(24,.pointer (some (ad2.add 1)))]<|yL [] iR ⟨_,_,_,_,_,rfl,rfl,bb,h4,h5⟩
     · rintro I1 hf ae _ _ ⟨ad21,p31,c31,p41,c41,rfl,rfl,hat21,h41,h51⟩;exact yW [24] rfl<|xE 1 hat21 [vS p41 x1.Hi c41] (vS p41 x1.Hi c41) rfl<|yL [] iR ⟨_,_,rfl,rfl,h51⟩
     · rintro I1 hf ae _ _ ⟨p411,c411,rfl,rfl,h511⟩;refine yW [25] rfl ?_;have H:=iS I1;refine xM (dS x1.Hi _ hy6 h511) ?_;rintro aW ay v2 k2 ae - ⟨v05,rfl,rfl,rfl⟩ -;have H:=H.trans ae;exact xF H
     · intro I1 hf ae;exact yW [20,26] rfl<|gK rfl hy7<|xF iR
     intro I1 hf ae;exact yW [27] rfl<|gK rfl hy8<|xF iR
   intro aX aF;refine yW [0,4,28] rfl ?_;have ⟨h,H⟩:=m2 aF h H;exact yI [] [3] rfl<|zN<|zH<|zJ<|yI [] [4] rfl<|yM<|nT<|ih s4 (W (i+1)) _ N H h hg ho hx
 intro hc N;exact wL<|yN<|hx _ _ (zC N).symm H
def dA (nest:(List zE)):Option (Str):=do
 let aj<-nF nest (⟨[]⟩:Str) 0
 pure (id aj)
theorem zHq:∀ nest r,dA nest=some r->∀ {I:Imm}{p c},(S4 I p nest c)->RT 215 [vS p nest c] I [] (sG  r):=by
 intro nest r N I p c h;unfold dA at N;refine yK func215 fun B=>wQ []<|wP [3] rfl<|zZ<|yG [4] rfl<|xY<|qI [(0,vS p nest c),(3,vT ([])),(4,vI 0)] ?_;obtain ⟨o0,aD,aM⟩:=zB N;refine zFZ nest (⟨[]⟩:Str) 0 o0 aD iR h (fun _ _ _ h=>h) (fun _ _ h=>h) ?_;intro bG aj heq aJ;subst o0;refine zS<|wP [2] rfl<|zH<|yY ?_;obtain rfl:=zC aM;exact wF
def tF (p:zD) (i:Int) (au:Str) (k0:Int):Option (Str):=do
 let x1<-idx p.Arrays i
 if (decide (k0<(x1.Dims.length:Int))) then
  let s2<-cat au (⟨[32]⟩:Str)
  let x2<-idx p.Arrays i
  let x3<-idx x2.Dims k0
  let y1<-qN x3
  let s3<-cat s2 y1
  tF p i s3 (W (k0+1))
 else
  pure (id au)
 partial_fixpoint
theorem zBf (p:zD) (i:Int):∀ (au:Str) (k0:Int) (o:Str),tF p i au k0=some o->∀ {B}{I0 I:Imm}{Q p1 c p2 c1}{b:Nat},I0.le I->(S4 I p1 p.Arrays c)->(S4 I p2 p.Parts c1)->NG Q->NO Q->(∀ (I':Imm) (aN:Str),o=aN->I0.le I'->T 103 B Q (.exit 2) I' [hB b (cProg p p1 c p2 c1)] [(1,vP b 0),(3,vT aN.l),(4,vI i)])->J Tryz.prog 103 B (nav (bodyOf f176) [1,1,1,0,1,0,0,1,0,0,1,0,1,0]) Q I [hB b (cProg p p1 c p2 c1)] [(1,vP b 0),(3,vT au.l),(4,vI i),(5,vI k0)]:=by
 refine tF.partial_correctness p i _ fun aI ih au k0 o N B I0 I Q p1 c p2 c1 b H h h1 hg ho hx=>yO hg ho<|yB<|yF<|yC 4 [0] [28,30,31] rfl<|bE N fun x1 bu N=>xL rfl rfl h bu ?_;intro ad1 bv av ax;obtain ⟨p4,c3,rfl,h4⟩:=wW ax;refine yC 6 [] [33] rfl<|xE 1 av [vS p4 x1.Dims c3] (vS p4 x1.Dims c3) rfl<|yI [] [36] rfl<|zH<|yE N ?_ ?_
 · intro aZ N;refine zT<|zZ<|yH<|zJ<|yC 1 [] [39] rfl<|bE N fun s2 bJ N=>gK rfl bJ<|yC 5 [0] [42,43] rfl<|bE N fun x2 hy6 N=>xL rfl rfl h hy6 ?_;intro ad2 bP bb bk;obtain ⟨p5,c4,rfl,h5⟩:=wW bk;refine yC 7 [] [45] rfl<|xE 1 bb [vS p5 x2.Dims c4] (vS p5 x2.Dims c4) rfl<|yC 9 [] [47] rfl<|bE N fun x3 hy7 N=>xL rfl rfl h5 hy7 ?_;intro ad3 ccs3 hat3 bH;obtain rfl:=bH;refine xE 0 hat3 [vI x3] (vI x3) rfl<|bE N fun y1 hy8 N=>xM (dZ x3 _ hy8 ) ?_;rintro aW ay v2 k2 ae - ⟨v04,rfl,rfl,rfl⟩ -;have ⟨h,h1,H⟩:=m3 ae h h1 H;obtain ⟨s3,hy9,N⟩:=zB N;exact gK rfl hy9<|yI [] [3] rfl<|zN<|zH<|zJ<|yI [] [5] rfl<|yM<|nT<|ih s3 (W (k0+1)) _ N H h h1 hg ho hx
 intro aZ N;exact wL<|yN<|hx _ _ (zC N).symm H
def tG (p:zD) (out:Str) (i:Int):Option (Str):=do
 if (decide (i<(p.Arrays.length:Int))) then
  let s<-cat out (⟨[97,114,114,97,121,32]⟩:Str)
  let x<-idx p.Arrays i
  let s1<-cat s x.Name
  let aN<-tF p i s1 0
  let s4<-cat aN (⟨[10]⟩:Str)
  tG p s4 (W (i+1))
 else
  pure (id out)
 partial_fixpoint
theorem zBg (p:zD):∀ (out:Str) (i:Int) (o:Str),tG p out i=some o->∀ {B}{I0 I:Imm}{Q p1 c p2 c1}{b:Nat},I0.le I->(S4 I p1 p.Arrays c)->(S4 I p2 p.Parts c1)->NG Q->NO Q->(∀ (I':Imm) (aj:Str),o=aj->I0.le I'->T 103 B Q (.exit 0) I' [hB b (cProg p p1 c p2 c1)] [(1,vP b 0),(3,vT aj.l)])->J Tryz.prog 103 B (nav (bodyOf f176) [1,1,1,0,1,0]) Q I [hB b (cProg p p1 c p2 c1)] [(1,vP b 0),(3,vT out.l),(4,vI i)]:=by
 refine tG.partial_correctness p _ fun aI ih out i o N B I0 I Q p1 c p2 c1 b H h h1 hg ho hx=>yO hg ho<|yB<|yF<|yI [0] [16] rfl<|zH<|yE N ?_ ?_
 · intro aH N;refine zT<|zZ<|yH<|yF<|yC 1 [] [19] rfl<|bE N fun s aA N=>gK rfl aA<|yC 5 [0] [22,23] rfl<|bE N fun x aK N=>xL rfl rfl h aK ?_;intro ad aP aq am;obtain ⟨p3,c2,rfl,h3⟩:=wW am;refine yC 7 [] [25] rfl<|xE 0 aq [vT x.Name.l] (vT x.Name.l) rfl<|bE N fun s1 bi N=>gK rfl bi<|yI [] [3] rfl<|zZ<|yG [5] rfl<|xY<|qI [(1,vP b 0),(3,vT s1.l),(4,vI i),(5,vI 0)] ?_;obtain ⟨o0,aD,aM⟩:=zB N;refine zBf p i s1 0 o0 aD iR h h1 (fun _ _ _ h=>hg _ _ _ h) (fun _ _ h=>ho _ _ h) ?_;intro aX aN heq aF;subst o0;have ⟨h,h1,H⟩:=m3 aF h h1 H;refine zS<|zH<|zJ<|yC 1 [] [52] rfl ?_;obtain ⟨s4,hy10,N⟩:=zB aM;exact gK rfl hy10<|yI [] [3] rfl<|zN<|zH<|zJ<|yI [] [4] rfl<|yM<|nT<|ih s4 (W (i+1)) _ N H h h1 hg ho hx
 intro aH N;exact wL<|yN<|hx _ _ (zC N).symm H
def tH (p:zD) (i1:Int) (out6:Str) (k01:Int):Option (Str):=do
 let x5<-idx p.Parts i1
 if (decide (k01<(x5.Body.length:Int))) then
  let x6<-idx p.Parts i1
  let x7<-idx x6.Body k01
  let y3<-rW x7.Write
  let s7<-cat out6 y3
  let s8<-cat s7 (⟨[61]⟩:Str)
  let y4<-qP x7.Value
  let s9<-cat s8 y4
  let s10<-cat s9 (⟨[10]⟩:Str)
  tH p i1 s10 (W (k01+1))
 else
  pure (id out6)
 partial_fixpoint
theorem zBh (p:zD) (i1:Int):∀ (out6:Str) (k01:Int) (o:Str),tH p i1 out6 k01=some o->∀ {B}{I0 I:Imm}{Q p1 c p2 c1}{b:Nat},I0.le I->(S4 I p1 p.Arrays c)->(S4 I p2 p.Parts c1)->NG Q->NO Q->(∀ (I':Imm) (out7:Str),o=out7->I0.le I'->T 103 B Q (.exit 6) I' [hB b (cProg p p1 c p2 c1)] [(1,vP b 0),(3,vT out7.l),(6,vI i1)])->J Tryz.prog 103 B (nav (bodyOf f176) [1,1,1,1,0,1,0,0,1,0,0,1,1,0]) Q I [hB b (cProg p p1 c p2 c1)] [(1,vP b 0),(3,vT out6.l),(6,vI i1),(7,vI k01)]:=by
 refine tH.partial_correctness p i1 _ fun aI ih out6 k01 o N B I0 I Q p1 c p2 c1 b H h h1 hg ho hx=>yO hg ho<|yB<|yF<|yC 4 [0] [71,73,74] rfl<|bE N fun x5 hy15 N=>xL rfl rfl h1 hy15 ?_;intro ad5 ccs5 hat5 hrep5;obtain ⟨p8,c7,p9,c8,rfl,h10,h11⟩:=wU hrep5;refine yC 6 [] [76] rfl<|xE 1 hat5 [vS p9 x5.Body c8] (vS p9 x5.Body c8) rfl<|yI [] [79] rfl<|zH<|yE N ?_ ?_
 · intro bO N;refine zT<|zZ<|yH<|yF<|yC 3 [0] [83,84] rfl<|bE N fun x6 hy16 N=>xL rfl rfl h1 hy16 ?_;intro ad6 ccs6 hat6 hrep6;obtain ⟨bc,c9,aT,bj,rfl,h12,h13⟩:=wU hrep6;refine yC 5 [] [86] rfl<|xE 1 hat6 [vS aT x6.Body bj] (vS aT x6.Body bj) rfl<|yC 7 [] [88] rfl<|bE N fun x7 hy17 N=>xL rfl rfl h13 hy17 ?_;intro ad7 ccs7 hat7 hrep7;obtain ⟨bD,bf,bt,br,p14,bz,p15,c14,rfl,h14,h15,h16,h17⟩:=pQ hrep7;refine xE 0 hat7 (cStmt x7 bD bf bt br p14 bz p15 c14) (vA (cStmt x7 bD bf bt br p14 bz p15 c14)) rfl<|wS [vT ([]),z0,vI 0,vI 0,z0,vI 0,vT ([]),z0,z0] ?_;intro b1 hb1;refine xJ 0 (cStmt x7 bD bf bt br p14 bz p15 c14) rfl<|yD rfl<|zH ?_;obtain ⟨y3,hy18,N⟩:=zB N;obtain ⟨s7,hy19,N⟩:=zB N;obtain ⟨s8,hy20,N⟩:=zB N;obtain ⟨y4,hy21,N⟩:=zB N;obtain ⟨s9,hy22,N⟩:=zB N;obtain ⟨s10,hy23,N⟩:=zB N;refine wT [.p (vT out6.l) [],.p (vP b1 0) [],.p (vA (cAccess x7.Write bD bf)) [0],.q (vT y3.l),.q (vT s7.l),.q (vT s8.l),.p (vP b1 2) [],.p (vA (cExpr x7.Value bt br p14 bz p15 c14)) [0],.q (vT y4.l),.q (vT s9.l),.q (vT s10.l)] [[],[],[(1,false)],[(2,false)],[(0,false),(3,false)],[(4,false)],[],[(6,false)],[(7,false)],[(5,false),(8,false)],[(9,false)]] [hB b1 (cStmt x7 bD bf bt br p14 bz p15 c14),hB b (cProg p p1 c p2 c1)] [] [(10,false)] (zY [0,1]) ?_ ?_
   · refine Op<|Op<|Op<|Oq ?_<|Oq ?_<|Oq ?_<|Op<|Op<|Oq ?_<|Oq ?_<|Oq ?_<|On
     · intro I1 hf ae;refine yW [93] rfl ?_;have H:=iS I1;have h14:=h14.mono ae;refine xM (fZ x7.Write _ hy18 h14) ?_;rintro bR ay v2 k2 bw - ⟨v016,rfl,rfl,rfl⟩ -;have H:=H.trans bw;exact xF H
     · intro I1 hf ae;exact yW [91,94] rfl<|gK rfl hy19<|xF iR
     · intro I1 hf ae;exact yW [95] rfl<|gK rfl hy20<|xF iR
     · intro I1 hf ae;refine yW [98] rfl ?_;have H:=iS I1;have ⟨h15,h16,h17⟩:=m3 ae h15 h16 h17;refine xM (zDN x7.Value _ hy21 h15 h16 h17) ?_;rintro I06 ay v2 k2 bC - ⟨v017,rfl,rfl,rfl⟩ -;have H:=H.trans bC;exact xF H
     · intro I1 hf ae;exact yW [96,99] rfl<|gK rfl hy22<|xF iR
     intro I1 hf ae;exact yW [100] rfl<|gK rfl hy23<|xF iR
   intro I07 le7;refine yW [1,6,7,101] rfl ?_;have ⟨h,h1,H⟩:=m3 le7 h h1 H;exact yI [] [3] rfl<|zN<|zH<|zJ<|yI [] [7] rfl<|yM<|kC (zX [1] rfl (by decide))<|nT<|ih s10 (W (k01+1)) _ N H h h1 hg ho hx
 intro bO N;exact wL<|yN<|hx _ _ (zC N).symm H
def tI (p:zD) (bo:Str) (i1:Int):Option (Str):=do
 if (decide (i1<(p.Parts.length:Int))) then
  let s5<-cat bo (⟨[112,97,114,116,10]⟩:Str)
  let x4<-idx p.Parts i1
  let y2<-dA x4.Nest
  let s6<-cat s5 y2
  let out7<-tH p i1 s6 0
  tI p out7 (W (i1+1))
 else
  pure (id bo)
 partial_fixpoint
theorem zBi (p:zD):∀ (bo:Str) (i1:Int) (o:Str),tI p bo i1=some o->∀ {B}{I0 I:Imm}{Q p1 c p2 c1}{b:Nat},I0.le I->(S4 I p1 p.Arrays c)->(S4 I p2 p.Parts c1)->NG Q->NO Q->(∀ (I':Imm) (out5:Str),o=out5->I0.le I'->T 103 B Q (.exit 4) I' [] [(3,vT out5.l)])->J Tryz.prog 103 B (nav (bodyOf f176) [1,1,1,1,0,1,0]) Q I [hB b (cProg p p1 c p2 c1)] [(1,vP b 0),(3,vT bo.l),(6,vI i1)]:=by
 refine tI.partial_correctness p _ fun aI ih bo i1 o N B I0 I Q p1 c p2 c1 b H h h1 hg ho hx=>yO hg ho<|yB<|yF<|yI [0] [58] rfl<|zH<|yE N ?_ ?_
 · intro bK N;refine zT<|zZ<|yH<|yF<|yC 1 [] [61] rfl<|bE N fun s5 hy11 N=>gK rfl hy11<|yC 5 [0] [64,65] rfl<|bE N fun x4 hy12 N=>xL rfl rfl h1 hy12 ?_;intro ad4 ccs4 hat4 hrep4;obtain ⟨p6,c5,p7,c6,rfl,h7,h8⟩:=wU hrep4;refine yC 7 [] [67] rfl<|xE 0 hat4 [vS p6 x4.Nest c5] (vS p6 x4.Nest c5) rfl<|bE N fun y2 hy13 N=>xM (zHq x4.Nest _ hy13 h7) ?_;rintro bL ay v2 k2 bd - ⟨v07,rfl,rfl,rfl⟩ -;have ⟨h,h1,H⟩:=m3 bd h h1 H;obtain ⟨s6,hy14,N⟩:=zB N;refine gK rfl hy14<|yI [] [3] rfl<|wP [7] rfl<|xY<|qI [(1,vP b 0),(3,vT s6.l),(6,vI i1),(7,vI 0)] ?_;obtain ⟨o02,ho02,hMl2⟩:=zB N;refine zBh p i1 s6 0 o02 ho02 iR h h1 (fun _ _ _ h=>hg _ _ _ h) (fun _ _ h=>ho _ _ h) ?_;intro I08 out7 heq2 le8;subst o02;have ⟨h,h1,H⟩:=m3 le8 h h1 H;exact zS<|zN<|zH<|zJ<|yI [] [6] rfl<|yM<|nT<|ih out7 (W (i1+1)) _ hMl2 H h h1 hg ho hx
 intro bK N;exact wL<|xR zQ<|yN<|hx _ _ (zC N).symm H
def mC (p:zD):Option (Str):=do
 let y<-uV p
 if (!y) then
  pure (⟨[]⟩:Str)
 else
  let aj<-tG p (⟨[112,114,111,103,114,97,109,10]⟩:Str) 0
  let out5<-tI p aj 0
  pure (id out5)
theorem zCt:∀ p r,mC p=some r->∀ {I:Imm}{p1 c p2 c1},(S4 I p1 p.Arrays c)->(S4 I p2 p.Parts c1)->RT 176 [vA (cProg p p1 c p2 c1)] I [] (sG  r):=by
 intro p r N I p1 c p2 c1 h h1;unfold mC at N;refine yK func176 fun B=>yF<|tT (cProg p p1 c p2 c1) ?_;intro b hb;refine wI [] []<|zZ<|yF<|rH 1 [0] [(9,vA (cProg p p1 c p2 c1))]<|bE N fun y hy N=>vU (eC p _ hy h h1) ?_;intro I0 le;have ⟨h,h1⟩:=m2 le h h1;refine yI [] [11] rfl<|zH<|yE N ?_ ?_
 · intro hc N;refine yG [2] rfl<|xD<|zG ?_;obtain rfl:=zC N;exact wF
 intro hc N;refine zT<|wP [3] rfl<|zZ<|yG [4] rfl<|xY<|qI [(1,vP b 0),(3,vT ([112,114,111,103,114,97,109,10])),(4,vI 0)] ?_;obtain ⟨aQ,aB,hMl1⟩:=zB N;refine zBg p (⟨[112,114,111,103,114,97,109,10]⟩:Str) 0 aQ aB iR h h1 (fun _ _ _ h=>h) (fun _ _ h=>h) ?_;intro bG aj heq1 aJ;subst aQ;have ⟨h,h1⟩:=m2 aJ h h1;refine zS<|zZ<|yG [6] rfl<|xY<|qI [(1,vP b 0),(3,vT aj.l),(6,vI 0)] ?_;obtain ⟨o03,ho03,hMl3⟩:=zB hMl1;refine zBi p aj 0 o03 ho03 iR h h1 (fun _ _ _ h=>h) (fun _ _ h=>h) ?_;intro I09 out5 heq3 le9;subst o03;refine zS<|wP [2] rfl<|zH<|yY ?_;obtain rfl:=zC hMl3;exact wF
instance zNd {cs}{arr:List zF}{az}{ap:List Raw2}{parts:List zO}{vN:Value}{nl:List zE}{vB:Value}{bl:List zP}{csN csB:List Value}:MonoI (fun i=>L4 i cs arr az ap parts vN nl vB bl csN csB):=⟨fun _ _ hl h=>h.mono hl⟩
def zC1 (r:zD×Bool):KT:=fun kk I' ah v=>
  ∃ (v0 v1:Value),ah=[]/\v=tupV [v0,v1]/\(∃ cs,v0=.agg ⟨cs⟩/\Rp.rep I' cs r.1)/\v1=.bool r.2
def rQ (y:List Str) (p:zD) (i:Int):Option zD:=do
 if (decide ((W (i+1))<(y.length:Int))) then
  let x<-idx y i
  let p1<-eZ p x
  rQ y p1 (W (i+1))
 else
  pure p
 partial_fixpoint
theorem zCE (y:List Str):∀ (p:zD) (i:Int) (o:zD),rQ y p i=some o->∀ {B}{I0 I:Imm}{Q}{bq:Str}{pl:Option Addr}{cl:Nat}{b b1:Nat}{p1 c cs p2 c1 az}{ap:List Raw2}{vN vB:Value}{nl:List zE}{bl:List zP}{csN csB:List Value},I0.le I->(S4 I pl y cl)->L4 I cs p.Arrays az ap p.Parts vN nl vB bl csN csB->(∀ l a w,¬Q (.goto l) a w)->(∀ a w,¬Q .outgrown a w) ->
   (∀ (I':Imm) (p1:Option Addr) (c:Nat) (cs:List Value) (p2:Option Addr) (c1:Nat) (az:List Value) (ap:List Raw2) (vN vB:Value) (nl:List zE) (bl:List zP) (csN csB:List Value),I0.le I'->L4 I' cs o.Arrays az ap o.Parts vN nl vB bl csN csB->T 37 B Q (.exit 0) I' [hO zF (vS p1 o.Arrays c) cs,hO Raw2 (vS p2 ap c1) az,hO zE vN csN,hO zP vB csB,hB b1 [vS p1 o.Arrays c,vS p2 ap c1],hB b zTwo] [(0,vT bq.l),(2,vP b 0),(5,vP b1 0)]) ->
   J Tryz.prog 37 B (nav (bodyOf f137) [1,1,1,1,0,1,0]) Q I [hO zF (vS p1 p.Arrays c) cs,hO Raw2 (vS p2 ap c1) az,hO zE vN csN,hO zP vB csB,hB b1 [vS p1 p.Arrays c,vS p2 ap c1],hB b zTwo] [(0,vT bq.l),(2,vP b 0),(4,vS pl y cl),(5,vP b1 0),(6,vI i)]:=by
 refine rQ.partial_correctness y _ ?_
 intro aI ih p i o N B I0 I Q bq pl cl b b1 p1 c cs p2 c1 az ap vN vB nl bl csN csB H h hQ hg ho hx
 refine yO hg ho<|yB<|yG [18] rfl<|zH<|yE N ?_ ?_
 · intro aH N
   refine zT<|zZ<|yH ?_
   obtain ⟨x,hy,N⟩:=zB N
   obtain ⟨q,aA,N⟩:=zB N
   refine wT [.p (vA [vS p1 p.Arrays c,vS p2 ap c1]) [0],.p (vS pl y cl) [],.p (vI i) [],.x (fun I' v hx=>∃ ad,v=.pointer (some ad)/\hx=[]/\(At I' ad [vT x.l])),.x (fun I' v hx=>v=vT x.l/\hx=[]),.x (fun I' v hx=>∃ (p1:Option Addr) (c:Nat) (cs:List Value) (p2:Option Addr) (c1:Nat) (az:List Value) (ap:List Raw2) (vN vB:Value) (nl:List zE) (bl:List zP) (csN csB:List Value),v=vA [vS p1 q.Arrays c,vS p2 ap c1]/\hx=[hO zF (vS p1 q.Arrays c) cs,hO Raw2 (vS p2 ap c1) az,hO zE vN csN,hO zP vB csB]/\L4 I' cs q.Arrays az ap q.Parts vN nl vB bl csN csB)] [[],[],[],[(1,false),(2,false)],[(3,false)],[(0,false),(4,false),(7,true)]] [hB b1 [vS p1 p.Arrays c,vS p2 ap c1],hB b zTwo] [[hO zF (vS p1 p.Arrays c) cs,hO Raw2 (vS p2 ap c1) az,hO zE vN csN,hO zP vB csB]] [(5,true)] (zY [4,5,0,1,2,3]) ?_ ?_
   · refine Op<|Op<|Op<|Ox ?_<|Ox ?_<|Ox (hm:=fun v hx=>by repeat' (first | exact zGn | exact zNd | refine @zKW _ _ (fun _=>?_) | refine @zJL _ _ ?_ ?_)) ?_<|On
     · intro I1 hf ae
       refine yW [22,23] rfl<|xL rfl rfl (h.mono ae) hy ?_
       intro ad aP aq am
       obtain rfl:=am
       exact yL [] iR ⟨_,rfl,rfl,aq⟩
     · intro I1 hf ae
       refine wG ?_
       rintro _ _ ⟨ad,rfl,rfl,aq⟩
       exact oQ<|zBM [(24,.pointer (some ad))]<|xE 0 aq [vT x.l] (vT x.l) rfl<|xF iR
     intro I1 hf ae
     refine wG ?_
     rintro _ _ ⟨rfl,rfl⟩
     refine wG ?_
     rintro _ _ ⟨rfl,rfl⟩
     refine wG ?_
     rintro _ _ rfl
     refine yW [21,25] rfl<|tY (zHn p x _ aA (hQ.mono ae)) rfl ?_
     rintro aX ay v2 k2 aF - ⟨p3,c2,aR,p4,c3,aS,raws1,vN1,vB1,nl1,bl1,csN1,csB1,rfl,rfl,hq⟩ -
     exact yL [hO zF (vS p3 q.Arrays c2) aR,hO Raw2 (vS p4 raws1 c3) aS,hO zE vN1 csN1,hO zP vB1 csB1] aF ⟨_,_,_,_,_,_,_,_,_,_,_,_,_,rfl,rfl,hq⟩
   intro bL bd
   refine wG ?_
   rintro _ _ ⟨p3,c2,aR,p4,c3,aS,raws1,vN1,vB1,nl1,bl1,csN1,csB1,rfl,rfl,hq⟩
   exact oQ<|zBM [(0,vT bq.l),(2,vP b 0),(4,vS pl y cl),(5,vP b1 0),(6,vI i),(26,vA [vS p3 q.Arrays c2,vS p4 raws1 c3])]<|xJ 4 [vS p3 q.Arrays c2,vS p4 raws1 c3] rfl<|yD rfl<|zN<|zH<|zJ<|yI [] [6] rfl<|yM<|nT<|ih _ _ _ N (H.trans bd) (h.mono bd) hq hg ho hx
 intro aH N
 obtain rfl:=zC N
 exact wL<|yN<|hx _ _ _ _ _ _ _ _ _ _ _ _ _ _ H hQ
def mQ (bq:Str):Option (zD×Bool):=do
 let y<-jK bq (10:UInt8)
 if (decide ((y.length:Int)>42)) then
  pure ((zD.mk [] []),false)
 else
  let p<-rQ y (zD.mk [] []) 1
  let t34<-(do
    if (bq.l==([]:List UInt8)) then
     pure true
    else
     let z<-mC p
     pure (!(z.l==bq.l))
      : Option Bool)
  if t34 then
   pure ((zD.mk [] []),false)
  else
   pure (p,true)
theorem zDR:∀ bq r,mQ bq=some r->∀ {I:Imm},RT 137 [vT bq.l] I [] (zC1 r):=by
 intro bq r N I;unfold mQ at N;refine yK func137 fun B=>yF<|wS zTwo ?_;intro b hb;refine wI [] []<|yV<|yC 1 [] [7] rfl<|bE N fun y hy N=>xM (zAx bq (10:UInt8) _ hy) ?_;rintro I0 ay v2 k2 le - ⟨v0,rfl,rfl,h⟩ -;obtain ⟨pl,cl,rfl⟩:=h.form;refine yI [] [4] rfl<|yV<|yC 1 [] [9] rfl<|wS zTwo ?_;intro b1 hb1;refine zBd 0 zTwo [hB b1 zTwo,hB b zTwo] rfl rfl rfl rfl<|yD rfl<|zZ<|yG [12] rfl<|zH<|yE N ?_ ?_
 · intro hc N;refine yF<|rH 1 [0] [(13,vA zTwo)]<|zBd 1 zTwo [hB b1 zTwo,hB b zTwo] rfl rfl rfl rfl<|wI [] [(3,vF)]<|xD<|zG ?_;obtain rfl:=zC N;exact xA ⟨_,_,(.cell 1 rfl rfl (by kernel_rfl) (.tmp rfl ResV.nil)),zQ,⟨_,_,rfl,rfl,⟨_,rfl,(vV ⟨_,_,rfl,(SL.nil _),(SL.nil _)⟩)⟩,rfl⟩⟩
 intro hc N;refine zT<|zZ<|yG [6] rfl<|xY<|qI [(0,vT bq.l),(2,vP b 0),(4,vS pl y cl),(5,vP b1 0),(6,vI 1)]<|kC (oT (Rp.sz zP))<|kC (oT (Rp.sz zE))<|kC (oT (Rp.sz Raw2))<|kC (oT (Rp.sz zF))<|bE N fun p aA N=>zCE (ap:=[]) (vN:=z0) (vB:=z0) (nl:=[]) (bl:=[]) y (zD.mk [] []) 1 p aA iR h ⟨RepL.nil,RepL.nil,⟨by decide,rfl,.inl ⟨rfl,rfl⟩⟩,RepL.nil,RepL.nil⟩ (fun _ _ _ h=>h) (fun _ _ h=>h) fun I1 p1 c cs p2 c1 az ap vN vB nl bl csN csB ae hQ=>yX 2 rfl ?_;intro I2 aF hl2;have kN:=SL.of_frozen hl2 aF hQ.n;have hQ:=hQ.mono aF;refine yX 2 rfl ?_;intro I3 aJ hl3;have kB:=SL.of_frozen hl3 aJ hQ.b;replace kN:=kN.mono aJ;have hQ:=hQ.mono aJ;refine yX 0 rfl ?_;intro I4 bd hl4;have kA:=SL.of_frozen hl4 bd hQ.arr;replace kN:=kN.mono bd;replace kB:=kB.mono bd;have hQ:=hQ.mono bd;refine yX 0 rfl ?_;intro I5 bw hl5;have kP:SL I5 (vS p2 ap c1) p.Parts:=⟨az,hl5,by
   rw [jW hQ.raw];exact (hQ.lp.done kN kB).mono fun _ _=>Rp.mono bw⟩
 have e0:vS p2 ap c1=vS p2 p.Parts c1:=by simp only [vS,hQ.lp.2.1]
 rw [e0] at kP ⊢;clear e0 hl5 hl4 hl3 hl2 hQ;replace kA:=kA.mono bw;refine zS<|zZ<|yB<|bE N fun t34 ht N=>qV (K1 t34 I5 [hB b1 (cProg p p1 c p2 c1),hB b zTwo] fun o=>[(2,vP b 0),(5,vP b1 0),(34,.bool o)]) ?_ ?_
 · refine zJ<|rH 3 [] [(29,.bool (bq.l==([]:List UInt8)))] ?_;cases aZ:(bq.l==([]:List UInt8)) with
   | true =>
    have hM0:=sV aZ ht;exact wI [] [(34,vY)]<|yN<|zV ⟨_,(zC hM0).symm,Imm.le.refl _,rfl,rfl⟩
   | false =>
    have hM0:=tM aZ ht;obtain ⟨z,hz,hM0⟩:=zB hM0;refine rH 4 [0] [(30,vA (cProg p p1 c p2 c1))]<|xM (zCt p _ hz kA kP) ?_;rintro I6 ay v2 k2 bC - ⟨v0,rfl,rfl,rfl⟩ -;exact yI [] [34] rfl<|yN<|zV (ct hM0 bC)
 rintro I6 ay m2 ⟨o,rfl,bC,rfl,rfl⟩;replace kA:=kA.mono bC;replace kP:=kP.mono bC;refine zH<|yE N ?_ ?_
 · intro aZ N;refine yF<|yC 1 [] [35] rfl<|zBd 1 zTwo [hB b1 (cProg p p1 c p2 c1),hB b zTwo] rfl rfl rfl rfl<|wI [] [(3,vF)]<|xD<|zG ?_;obtain rfl:=zC N;exact xA ⟨_,_,(.cell 1 rfl rfl (by kernel_rfl) (.tmp rfl ResV.nil)),zQ,⟨_,_,rfl,rfl,⟨_,rfl,(vV ⟨_,_,rfl,(SL.nil _),(SL.nil _)⟩)⟩,rfl⟩⟩
 intro aZ N;refine zT<|yV<|rH 1 [0] [(36,vA (cProg p p1 c p2 c1))]<|xJ 1 (cProg p p1 c p2 c1) rfl<|wI [] [(3,vY)]<|zH<|yY ?_;obtain rfl:=zC N;exact xA ⟨_,_,(.cell 1 rfl rfl (by kernel_rfl) (.tmp rfl ResV.nil)),zQ,⟨_,_,rfl,rfl,⟨_,rfl,(vV ⟨_,_,rfl,kA,kP⟩)⟩,rfl⟩⟩
def zGS (r:(List zF)):KT:=fun kk I' ah v=>
  ∃ v0,ah=[]/\v=tupV [v0]/\SL I' v0 r
def jO :Option ((List zF)):=do
 pure ([(zF.mk (⟨[65]⟩:Str) ([6]:List Int)),(zF.mk (⟨[66]⟩:Str) ([4,5]:List Int)),(zF.mk (⟨[67]⟩:Str) ([3]:List Int))]:List zF)
theorem zAC:∀ r,jO =some r->∀ {I:Imm} ,RT 177 [] I [] (zGS  r):=by
 intro  r N I;unfold jO at N;refine yK func177 fun B=>wQ []<|yV<|uO [vI 6] Int ?_;intro b hb;have h:RL I [vI 6] ([6]:List Int):=rI [6];refine yC 2 [] [2] rfl<|uO [vI 4,vI 5] Int ?_;intro b1 hb1;have h1:RL I [vI 4,vI 5] ([4,5]:List Int):=rI [4,5];refine yC 4 [] [4] rfl<|uO [vI 3] Int ?_;intro b2 hb2;have h2:RL I [vI 3] ([3]:List Int):=rI [3];refine yC 6 [] [6] rfl<|xI 2 rfl ?_;intro I0 le hl0;have h3:=SL.of_frozen hl0 le h;have ⟨h1,h2⟩:=m2 le h1 h2;refine xI 1 rfl ?_;intro aW ae hl01;have h4:=SL.of_frozen hl01 ae h1;have ⟨h3,h2⟩:=m2 ae h3 h2;refine xI 0 rfl ?_;intro aX aF hl02;have h5:=SL.of_frozen hl02 aF h2;have ⟨h3,h4⟩:=m2 aF h3 h4;refine uO [vT ([65]),vS (some ⟨b,0,none⟩) ([6]:List Int) 1,vT ([66]),vS (some ⟨b1,0,none⟩) ([4,5]:List Int) 2,vT ([67]),vS (some ⟨b2,0,none⟩) ([3]:List Int) 1] zF ?_;intro b3 hb3;have h6:RL aX [vT ([65]),vS (some ⟨b,0,none⟩) ([6]:List Int) 1,vT ([66]),vS (some ⟨b1,0,none⟩) ([4,5]:List Int) 2,vT ([67]),vS (some ⟨b2,0,none⟩) ([3]:List Int) 1] ([(zF.mk (⟨[65]⟩:Str) ([6]:List Int)),(zF.mk (⟨[66]⟩:Str) ([4,5]:List Int)),(zF.mk (⟨[67]⟩:Str) ([3]:List Int))]:List zF):=⟨[vT ([65]),vS (some ⟨b,0,none⟩) ([6]:List Int) 1],_,rfl,rfl,(qU ⟨_,rfl,h3⟩),⟨[vT ([66]),vS (some ⟨b1,0,none⟩) ([4,5]:List Int) 2],_,rfl,rfl,(qU ⟨_,rfl,h4⟩),⟨[vT ([67]),vS (some ⟨b2,0,none⟩) ([3]:List Int) 1],_,rfl,rfl,(qU ⟨_,rfl,h5⟩),rfl⟩⟩⟩;refine yI [] [0] rfl<|xD<|yX 0 rfl ?_;intro bG aJ hl03;have h7:=SL.of_frozen hl03 aJ h6;obtain rfl:=zC N;exact xA ⟨_,_,(.tmp rfl ResV.nil),zQ,⟨_,rfl,rfl,h7⟩⟩
def rX (a0:zA) (x:Int) (b:zA) (y:Int) (i:Int) (Coefs:List Int):Option (List Int):=do
 if (decide (i<4)) then
  let x1<-idx a0.Coefs i
  let x2<-idx b.Coefs i
  let l<-app 8 Coefs ([(W ((W (x*x1))+(W (y*x2))))]:List Int)
  rX a0 x b y (W (i+1)) l
 else
  pure (id Coefs)
 partial_fixpoint
theorem zDS (a0:zA) (x:Int) (b:zA) (y:Int):∀ (i:Int) (Coefs:List Int) (o:List Int),rX a0 x b y i Coefs=some o->∀ {B}{I0 I:Imm}{Q p c p1 c1}{b1:Nat}{b2:Nat}{b3:Nat}{b4:Nat}{p2 c2 cs},I0.le I->(S4 I p1 b.Coefs c1)->(S4 I p a0.Coefs c)->(RL I cs Coefs)->NG Q->NO Q->(∀ (I':Imm) (Coefs1:List Int) (p3:Option Addr) (c3:Nat) (az:List Value),o=Coefs1->I0.le I'->(RL I' az Coefs1)->T 46 B Q (.exit 0) I' [hO Int (vS p3 Coefs1 c3) az,hB b4 [vS p3 Coefs1 c3,vI (W ((W (x*a0.Const))+(W (y*b.Const))))],hB b3 [z0,vI 0]] [(8,vP b3 0),(9,vP b4 0)])->J Tryz.prog 46 B (nav (bodyOf f264) [1,1,0,1,0]) Q I [hO Int (vS p2 Coefs c2) cs,hB b4 [vS p2 Coefs c2,vI (W ((W (x*a0.Const))+(W (y*b.Const))))],hB b3 [z0,vI 0],hB b2 (cAff b p1 c1),hB b1 (cAff a0 p c)] [(1,vI x),(3,vI y),(4,vP b1 0),(6,vP b2 0),(8,vP b3 0),(9,vP b4 0),(10,vI i)]:=by
 refine rX.partial_correctness a0 x b y _ fun aI ih i Coefs o N B I0 I Q p c p1 c1 b1 b2 b3 b4 p2 c2 cs H h1 h h3 hg ho hx=>yO hg ho<|yB<|yG [22] rfl<|zH<|yE N ?_ ?_
 · intro hc N;refine zT<|zZ<|yH ?_;obtain ⟨x1,hy,N⟩:=zB N;obtain ⟨x2,aA,N⟩:=zB N;obtain ⟨l,aK,N⟩:=zB N;refine wT [.p (vP b4 0) [],.p (vS p2 Coefs c2) [0],.p (vI x) [],.p (vP b1 0) [],.p (vS p a0.Coefs c) [3],.p (vI i) [],.x (fun I' v hx=>∃ ad,v=.pointer (some ad)/\hx=[]/\(At I' ad [vI x1])),.q (vI x1),.p (vI (W (x*x1))) [],.p (vI y) [],.p (vP b2 0) [],.p (vS p1 b.Coefs c1) [2],.p (vI i) [],.x (fun I' v hx=>∃ ad1,v=.pointer (some ad1)/\hx=[]/\(At I' ad1 [vI x2])),.q (vI x2),.p (vI (W (y*x2))) [],.p (vI (W ((W (x*x1))+(W (y*x2))))) [],.x (fun I' v hx=>∃ b5,v=vS (some ⟨b5,0,none⟩) ([(W ((W (x*x1))+(W (y*x2))))]:List Int) 1/\hx=[]/\(SL I' (vS (some ⟨b5,0,none⟩) ([(W ((W (x*x1))+(W (y*x2))))]:List Int) 1) ([(W ((W (x*x1))+(W (y*x2))))]:List Int))),.x (fun I' v hx=>∃ p4 c4 aR,v=vS p4 l c4/\hx=[hO Int (vS p4 l c4) aR]/\(RL I' aR l))] [[],[(0,false)],[],[],[(3,false)],[],[(4,false),(5,false)],[(6,false)],[(2,false),(7,false)],[],[],[(10,false)],[],[(11,false),(12,false)],[(13,false)],[(9,false),(14,false)],[(8,false),(15,false)],[(16,false)],[(1,false),(17,false),(21,true)]] [hB b4 [vS p2 Coefs c2,vI (W ((W (x*a0.Const))+(W (y*b.Const))))],hB b3 [z0,vI 0],hB b2 (cAff b p1 c1),hB b1 (cAff a0 p c)] [[hO Int (vS p2 Coefs c2) cs]] [(18,true)] (zY [1,2,3,4,0]) ?_ ?_
   · refine Op<|Op<|Op<|Op<|Op<|Op<|Ox ?_<|Oq ?_<|Op<|Op<|Op<|Op<|Op<|Ox ?_<|Oq ?_<|Op<|Op<|Ox ?_<|Ox ?_<|On
     · intro I1 hf ae;refine yW [29,30] rfl ?_;have h:=h.mono ae;refine xL rfl rfl h hy ?_;intro ad aP aq am;obtain rfl:=am;exact yL [] iR ⟨_,rfl,rfl,aq⟩
     · rintro I1 hf ae _ _ ⟨ad,rfl,rfl,aq⟩;exact yW [31] rfl<|xE 0 aq [vI x1] (vI x1) rfl<|xF iR
     · intro I1 hf ae;refine yW [36,37] rfl ?_;have h1:=h1.mono ae;refine xL rfl rfl h1 aA ?_;intro ad1 bv av ax;obtain rfl:=ax;exact yL [] iR ⟨_,rfl,rfl,av⟩
     · rintro I1 hf ae _ _ ⟨ad1,rfl,rfl,av⟩;exact yW [38] rfl<|xE 0 av [vI x2] (vI x2) rfl<|xF iR
     · intro I1 hf ae;refine yW [41] rfl ?_;have H:=iS I1;refine mG (rI [(W ((W (x*x1))+(W (y*x2))))]) ?_;intro b5 I0 le h6;have H:=H.trans le;exact yL [] H ⟨_,rfl,rfl,h6⟩
     rintro I1 hf ae _ _ ⟨rfl,rfl⟩ _ _ ⟨b5,rfl,rfl,h6⟩ _ _ rfl;refine yW [26,42] rfl ?_;have h3:=iM ae h3;obtain ⟨bP,k0,k01⟩:=h6;have h6:SL I1 (vS (some ⟨b5,0,none⟩) ([(W ((W (x*x1))+(W (y*x2))))]:List Int) 1) ([(W ((W (x*x1))+(W (y*x2))))]:List Int):=⟨_,k0,k01⟩;exact sO 3 1 0 rfl rfl rfl h3 (.inl k0) k01 aK fun p4 c4 aR h7=>wK (ah:=(hO Int (vS p4 l c4) aR::hB b4 [vS p2 Coefs c2,vI (W ((W (x*a0.Const))+(W (y*b.Const))))]::hB b3 [z0,vI 0]::hB b2 (cAff b p1 c1)::hB b1 (cAff a0 p c)::hf)) rfl<|yL [hO Int (vS p4 l c4) aR] iR ⟨_,_,_,rfl,rfl,h7⟩
   rintro aW ae _ _ ⟨p4,c4,aR,rfl,rfl,h7⟩;refine yW [1,3,4,6,8,9,10,43] rfl ?_;have ⟨h1,h,H⟩:=m3 ae h1 h H;exact yC 20 [] [44] rfl<|xJ 1 [vS p4 l c4,vI (W ((W (x*a0.Const))+(W (y*b.Const))))] rfl<|yD rfl<|zN<|zH<|zJ<|yI [] [10] rfl<|yM<|nT<|ih (W (i+1)) l _ N H h1 h h7 hg ho hx
 intro hc N;exact wL<|xR (zX [0,1,2] rfl (by decide))<|yN<|hx _ _ _ _ _ (zC N).symm H h3
def kF (a0:zA) (x:Int) (b:zA) (y:Int):Option (zA):=do
 let Coefs1<-rX a0 x b y 0 ([]:List Int)
 pure (zA.mk Coefs1 (W ((W (x*a0.Const))+(W (y*b.Const)))))
theorem zB5:∀ a0 x b y r,kF a0 x b y=some r->∀ {I:Imm}{p c p1 c1},(S4 I p a0.Coefs c)->(S4 I p1 b.Coefs c1)->RT 264 [vA (cAff a0 p c),vI x,vA (cAff b p1 c1),vI y] I [] (gS  r):=by
 intro a0 x b y r N I p c p1 c1 h h1;unfold kF at N;refine yK func264 fun B=>yF<|tT (cAff a0 p c) ?_;intro b1 hb;refine tT (cAff b p1 c1) ?_;intro b2 hb1;refine wS [z0,vI 0] ?_;intro b3 hb2;refine yD rfl<|yV<|rH 10 [2,1] [(20,vA [z0,vI (W ((W (x*a0.Const))+(W (y*b.Const))))])]<|wS [z0,vI 0] ?_;intro b4 hb3;refine xJ 0 [z0,vI (W ((W (x*a0.Const))+(W (y*b.Const))))] rfl<|yD rfl<|zZ<|yG [10] rfl<|xY<|qI [(1,vI x),(3,vI y),(4,vP b1 0),(6,vP b2 0),(8,vP b3 0),(9,vP b4 0),(10,vI 0)]<|zAM Int fun h2=>?_;obtain ⟨o0,aD,aM⟩:=zB N;refine zDS a0 x b y 0 ([]:List Int) o0 aD iR h1 h h2 (fun _ _ _ h=>h) (fun _ _ h=>h) ?_;intro aX Coefs1 p3 c3 az heq aF h4;subst o0;refine zS<|yV<|rH 1 [1] [(45,vA [vS p3 Coefs1 c3,vI (W ((W (x*a0.Const))+(W (y*b.Const))))])]<|xJ 2 [vS p3 Coefs1 c3,vI (W ((W (x*a0.Const))+(W (y*b.Const))))] rfl<|yD rfl<|xD<|yX 0 rfl ?_;intro bG aJ hl01;have h8:=SL.of_frozen hl01 aJ h4;obtain rfl:=zC aM;exact xA ⟨_,_,(.cell 1 rfl rfl (by kernel_rfl) ResV.nil),zQ,⟨_,rfl,rfl,⟨_,rfl,(yP ⟨_,rfl,h8⟩)⟩⟩⟩
def zGT (b0:Nat) (r:zE×zM):KT:=fun kk I' ah v=>
  ∃ v0 k0,ah=[.blk b0 ⟨k0⟩]/\v=tupV [v0]/\(∃ cs,v0=.agg ⟨cs⟩/\Rp.rep I' cs r.1)/\Rp.rep I' k0 r.2
def dB (r0:zM) (aa:Int):Option (zE×zM):=do
 let (y1,y2)<-yT r0 ([0,0,1,0,(-1)]:List Int)
 let y3<-vE y1
 let (y5,y6)<-yT y2 ([3,4,2,3,1]:List Int)
 let y7<-vE y5
 let (t23,x)<-(do
   if (decide (aa>0)) then
    let (y9,y10)<-xC y6 4
    pure ((y9==0),y10)
   else
    pure (false,y6)
     : Option (Bool×zM))
 let (x1,x2,x3)<-(do
   if t23 then
    let (y12,y13)<-xC x aa
    let (y15,y16)<-xC y13 2
    let (x4,x5)<-(do
      if (y15==0) then
       let y17<-mU y12
       pure (y17,(zA.mk y7.Coefs y7.Const))
      else
       let y18<-mU y12
       let y19<-vE 1
       let y20<-kF y18 1 y19 1
       pure ((zA.mk y3.Coefs y3.Const),y20)
        : Option (zA×zA))
    pure (x4,x5,y16)
   else
    pure ((zA.mk y3.Coefs y3.Const),(zA.mk y7.Coefs y7.Const),x)
     : Option (zA×zA×zM))
 let (y22,y23)<-xC x3 12
 let (Lo,Hi,x6)<-(do
   if (y22==0) then
    let (y25,y26)<-yT y23 ([3,2,4]:List Int)
    let y27<-vE y25
    let l<-app 32 ([x2]:List zA) ([y27]:List zA)
    pure (([x1]:List zA),l,y26)
   else
    let (Lo1,x7)<-(do
      if (y22==1) then
       let (y29,y30)<-yT y23 ([0,1]:List Int)
       let y31<-vE y29
       let l1<-app 32 ([x1]:List zA) ([y31]:List zA)
       pure (l1,y30)
      else
       pure (([x1]:List zA),y23)
        : Option (List zA×zM))
    pure (Lo1,([x2]:List zA),x7)
     : Option (List zA×List zA×zM))
 pure ((zE.mk Lo Hi),x6)
theorem zHr:∀ r0 aa r,dB r0 aa=some r->∀ {I:Imm}{aw:Nat}{p c},(S4 I p r0.b c)->RT 244 [vP aw 0,vI aa] I [hB aw (cRd r0 p c)] (zGT aw r):=by
 intro r0 aa r N I aw p c h;unfold dB at N;refine yK func244 fun B=>?_;have H:=iS I;refine yF<|wS zTwo ?_;intro b hb;refine yD rfl<|yV<|yC 1 [] [9] rfl<|mG (rI [0,0,1,0,(-1)]) ?_;intro b1 I0 le h2;have ⟨h,H⟩:=m2 le h H;refine sE (zY [1,0] (ah:=[hB aw (cRd r0 p c),hB b zTwo])) ?_;obtain ⟨⟨y1,y2⟩,hy,N⟩:=zB N;refine tY (yZ r0 ([0,0,1,0,(-1)]:List Int) _ hy h h2) rfl ?_;rintro aW ay v2 k2 ae - ⟨v0,kk,rfl,rfl,rfl,h4⟩ -;have H:=H.trans ae;obtain ⟨p1,c1,rfl,h5⟩:=yA h4;obtain ⟨y3,aA,N⟩:=zB N;refine xM (uX y1 _ aA ) ?_;rintro aX ay v2 k2 aF - ⟨p2,c2,cs,rfl,rfl,h6⟩ -;have ⟨h5,H⟩:=m2 aF h5 H;refine wS [z0,vI 0] ?_;intro b2 hb2;refine xJ 0 (cAff y3 p2 c2) rfl<|yD rfl<|yV<|yC 1 [] [13] rfl<|mG (rI [3,4,2,3,1]) ?_;intro b3 bG aJ h8;have ⟨h6,h5,H⟩:=m3 aJ h6 h5 H;refine sE (zY [2,0,1,3] (ah:=[hB aw (cRd y2 p1 c1),hB b2 (cAff y3 p2 c2),hO Int (vS p2 y3.Coefs c2) cs,hB b zTwo])) ?_;obtain ⟨⟨y5,y6⟩,aK,N⟩:=zB N;refine tY (yZ y2 ([3,4,2,3,1]:List Int) _ aK h5 h8) rfl ?_;rintro bL ay v2 k2 bd - ⟨v02,kk1,rfl,rfl,rfl,h10⟩ -;have ⟨h6,H⟩:=m2 bd h6 H;obtain ⟨p3,c3,rfl,h11⟩:=yA h10;obtain ⟨y7,bi,N⟩:=zB N;refine xM (uX y5 _ bi ) ?_;rintro bR ay v2 k2 bw - ⟨p4,c4,az,rfl,rfl,h12⟩ -;have ⟨h11,h6,H⟩:=m3 bw h11 h6 H;refine wS [z0,vI 0] ?_;intro b4 hb4;refine xJ 0 (cAff y7 p4 c4) rfl<|yD rfl<|zZ<|yB ?_;obtain ⟨o0,aD,aV⟩:=zB N;refine qV (fun I' ah m'=>∃ (t23:Bool) (x:zM) (p5:Option Addr) (c5:Nat),o0=(t23,x)/\bR.le I'/\(S4 I' p5 x.b c5)/\ah=[hB b4 (cAff y7 p4 c4),hO Int (vS p4 y7.Coefs c4) az,hB aw (cRd x p5 c5),hB b2 (cAff y3 p2 c2),hO Int (vS p2 y3.Coefs c2) cs,hB b zTwo]/\m'=[(0,vP aw 0),(1,vI aa),(4,vP b 0),(5,vP b2 0),(6,vP b4 0),(23,.bool t23)]) ?_ ?_
 · have H:=iS bR;refine zJ<|yC 3 [] [19] rfl<|xW [19] aD ?_ ?_
   · intro hc N;refine yC 4 [] [20] rfl<|sE (zY [2,0,1,3,4,5] (ah:=[hB aw (cRd y6 p3 c3),hB b4 (cAff y7 p4 c4),hO Int (vS p4 y7.Coefs c4) az,hB b2 (cAff y3 p2 c2),hO Int (vS p2 y3.Coefs c2) cs,hB b zTwo])) ?_;obtain ⟨⟨y9,y10⟩,bu,N⟩:=zB N;refine tY (xS y6 4 _ bu h11) rfl ?_;rintro I07 ay v2 k2 bC - ⟨v04,kk2,rfl,rfl,rfl,h15⟩ -;have H:=H.trans bC;obtain ⟨p6,c6,rfl,h16⟩:=yA h15;exact yI [] [23] rfl<|xR (zX [1,2,0,3,4,5] rfl (by decide))<|yN<|zV ⟨_,_,_,_,(zC N).symm,H,h16,rfl,rfl⟩
   intro hc N;exact wI [] [(23,vF)]<|yN<|zV ⟨_,_,_,_,(zC N).symm,H,h11,rfl,rfl⟩
 rintro I06 ay m2 ⟨t23,x,p5,c5,heq,le7,h13,rfl,rfl⟩;subst o0;have ⟨h12,h6,H⟩:=m3 le7 h12 h6 H;refine zH<|qK 4 rfl ?_;intro I08 le8 hl02;have h17:=SL.of_frozen hl02 le8 h6;have ⟨h12,h13,H⟩:=m3 le8 h12 h13 H;refine qK 1 rfl ?_;intro I09 le9 hl03;have h18:=SL.of_frozen hl03 le9 h12;have ⟨h13,h17,H⟩:=m3 le9 h13 h17 H;obtain ⟨aQ,aB,hMc1⟩:=zB aV;refine qV (fun I' ah m'=>∃ (x1:zA) (x2:zA) (x3:zM) (p7:Option Addr) (c7:Nat) (p8:Option Addr) (c8:Nat) (p9:Option Addr) (c9:Nat),aQ=(x1,x2,x3)/\I09.le I'/\(S4 I' p7 x1.Coefs c7)/\(S4 I' p8 x2.Coefs c8)/\(S4 I' p9 x3.b c9)/\ah=[hB b4 (cAff x2 p8 c8),hB aw (cRd x3 p9 c9),hB b2 (cAff x1 p7 c7),hB b zTwo]/\m'=[(0,vP aw 0),(4,vP b 0),(5,vP b2 0),(6,vP b4 0)]) ?_ ?_
 · have H:=iS I09;refine yE aB ?_ ?_
   · intro aH N;refine yF<|yC 2 [] [24,25] rfl<|sE (zY [1,0,2,3] (ah:=[hB aw (cRd x p5 c5),hB b4 (cAff y7 p4 c4),hB b2 (cAff y3 p2 c2),hB b zTwo])) ?_;obtain ⟨⟨y12,y13⟩,bJ,N⟩:=zB N;refine tY (xS x aa _ bJ h13) rfl ?_;rintro bY ay v2 k2 le10 - ⟨v06,kk3,rfl,rfl,rfl,h23⟩ -;have ⟨h18,h17,H⟩:=m3 le10 h18 h17 H;obtain ⟨bc,bj,rfl,h24⟩:=yA h23;refine yI [] [7] rfl<|yV<|yC 1 [] [27] rfl ?_;obtain ⟨⟨y15,y16⟩,hy6,N⟩:=zB N;refine tY (xS y13 2 _ hy6 h24) rfl ?_;rintro bX ay v2 k2 le11 - ⟨v08,kk4,rfl,rfl,rfl,h26⟩ -;have ⟨h18,h17,H⟩:=m3 le11 h18 h17 H;obtain ⟨aT,bf,rfl,h27⟩:=yA h26;refine yI [] [29] rfl<|zH ?_;obtain ⟨o02,ho02,hMc2⟩:=zB N;refine qV (fun I' ah m'=>∃ (x4:zA) (x5:zA) (bD:Option Addr) (br:Nat) (bt:Option Addr) (bz:Nat),o02=(x4,x5)/\bX.le I'/\(S4 I' bD x4.Coefs br)/\(S4 I' bt x5.Coefs bz)/\ah=[hB aw (cRd y16 aT bf),hB b4 (cAff x5 bt bz),hB b2 (cAff x4 bD br),hB b zTwo]/\m'=[(0,vP aw 0),(4,vP b 0),(5,vP b2 0),(6,vP b4 0)]) ?_ ?_
     · have H:=iS bX;refine yE ho02 ?_ ?_
       · intro aZ N;refine zJ<|yC 1 [] [30] rfl<|bE N fun y17 hy7 N=>xM (eV y12 _ hy7 ) ?_;rintro I014 ay v2 k2 le12 - ⟨v010,rfl,rfl,⟨aR,rfl,h30⟩⟩ -;have ⟨h18,H⟩:=m2 le12 h18 H;obtain ⟨p14,c14,rfl,h31⟩:=yS h30;exact xJ 2 (cAff y17 p14 c14) rfl<|yD rfl<|yN<|zV ⟨_,_,_,_,_,_,(zC N).symm,H,h31,h18,rfl,rfl⟩
       intro aZ N;refine zJ<|yC 1 [] [32] rfl<|bE N fun y18 hy8 N=>xM (eV y12 _ hy8 ) ?_;rintro I015 ay v2 k2 le13 - ⟨v012,rfl,rfl,⟨aS,rfl,h32⟩⟩ -;have ⟨h17,H⟩:=m2 le13 h17 H;obtain ⟨p15,c15,rfl,h33⟩:=yS h32;obtain ⟨y19,hy9,N⟩:=zB N;refine xM (uX 1 _ hy9 ) ?_;rintro I016 ay v2 k2 le14 - ⟨p16,c16,bB,rfl,rfl,h34⟩ -;have ⟨h33,h17,H⟩:=m3 le14 h33 h17 H;refine xI 0 rfl ?_;intro I017 le15 hl04;have h35:=SL.of_frozen hl04 le15 h34;have ⟨h33,h17,H⟩:=m3 le15 h33 h17 H;obtain ⟨y20,hy10,N⟩:=zB N;refine xM (zB5 y18 1 y19 1 _ hy10 h33 h35) ?_;rintro I018 ay v2 k2 le16 - ⟨v014,rfl,rfl,⟨bI,rfl,h36⟩⟩ -;have ⟨h17,H⟩:=m2 le16 h17 H;obtain ⟨p17,c17,rfl,h37⟩:=yS h36;exact xJ 1 (cAff y20 p17 c17) rfl<|yD rfl<|yN<|zV ⟨_,_,_,_,_,_,(zC N).symm,H,h17,h37,rfl,rfl⟩
     rintro I013 ay m2 ⟨x4,x5,bD,br,bt,bz,heq1,le17,h28,h29,rfl,rfl⟩;subst o02;have ⟨h27,H⟩:=m2 le17 h27 H;exact xR (zX [1,0,2,3] rfl (by decide))<|yN<|zV ⟨_,_,_,_,_,_,_,_,_,(zC hMc2).symm,H,h28,h29,h27,rfl,rfl⟩
   intro aH N;exact zT<|yN<|zV ⟨_,_,_,_,_,_,_,_,_,(zC N).symm,H,h17,h18,h13,rfl,rfl⟩
 rintro bS ay m2 ⟨x1,x2,x3,p7,c7,p8,c8,p9,c9,heq2,le18,h19,h20,h21,rfl,rfl⟩;subst aQ;have H:=H.trans le18;refine yV<|rH 1 [2] [(36,vA (cAff x1 p7 c7))]<|uO (cAff x1 p7 c7) zA ?_;intro b5 hb5;have h38:RL bS (cAff x1 p7 c7) ([x1]:List zA):=⟨(cAff x1 p7 c7),_,rfl,rfl,(yP ⟨_,rfl,h19⟩),rfl⟩;refine rH 3 [1] [(38,vA (cAff x2 p8 c8))]<|uO (cAff x2 p8 c8) zA ?_;intro b6 hb6;have h39:RL bS (cAff x2 p8 c8) ([x2]:List zA):=⟨(cAff x2 p8 c8),_,rfl,rfl,(yP ⟨_,rfl,h20⟩),rfl⟩;refine yC 5 [] [40] rfl<|wS zTwo ?_;intro b7 hb7;refine xJ 0 [vS (some ⟨b5,0,none⟩) ([x1]:List zA) 1,vS (some ⟨b6,0,none⟩) ([x2]:List zA) 1] rfl<|yD rfl<|zZ<|yF<|yC 1 [] [41] rfl<|sE (zY [4,0,1,2,3,5,6] (ah:=[hB aw (cRd x3 p9 c9),hB b7 [vS (some ⟨b5,0,none⟩) ([x1]:List zA) 1,vS (some ⟨b6,0,none⟩) ([x2]:List zA) 1],hO zA (vS (some ⟨b6,0,none⟩) ([x2]:List zA) 1) (cAff x2 p8 c8),hO zA (vS (some ⟨b5,0,none⟩) ([x1]:List zA) 1) (cAff x1 p7 c7),hB b4 (cAff x2 p8 c8),hB b2 (cAff x1 p7 c7),hB b zTwo])) ?_;obtain ⟨⟨y22,y23⟩,hy11,N⟩:=zB hMc1;refine tY (xS x3 12 _ hy11 h21) rfl ?_;rintro I019 ay v2 k2 le19 - ⟨v016,kk5,rfl,rfl,rfl,h41⟩ -;have ⟨h38,h39,H⟩:=m3 le19 h38 h39 H;obtain ⟨p18,c18,rfl,h42⟩:=yA h41;refine yD rfl<|xY<|yG [43] rfl<|zH<|qK 4 rfl ?_;intro I020 le20 hl05;have aq:At I020 ⟨b4,0,none⟩ (cAff x2 p8 c8):=At.of_blk hl05;have ⟨h42,h38,h39,H⟩:=m4 le20 h42 h38 h39 H;refine qK 4 rfl ?_;intro I021 le21 hl06;have av:At I021 ⟨b2,0,none⟩ (cAff x1 p7 c7):=At.of_blk hl06;have ⟨h42,h38,h39,H⟩:=m4 le21 h42 h38 h39 H;obtain ⟨o03,ho03,hMc3⟩:=zB N;refine qV (fun I' ah m'=>∃ (Lo:List zA) (Hi:List zA) (x6:zM) (p19:Option Addr) (c19:Nat) (cs6:List Value) (p20:Option Addr) (c20:Nat) (cs7:List Value) (p21:Option Addr) (c21:Nat),o03=(Lo,Hi,x6)/\I021.le I'/\(RL I' cs6 Lo)/\(RL I' cs7 Hi)/\(S4 I' p21 x6.b c21)/\ah=[hB aw (cRd x6 p21 c21),hB b7 [vS p19 Lo c19,vS p20 Hi c20],hO zA (vS p20 Hi c20) cs7,hO zA (vS p19 Lo c19) cs6,hB b zTwo]/\m'=[(4,vP b 0),(8,vP b7 0)]) ?_ ?_
 · have H:=iS I021;refine yE ho03 ?_ ?_
   · intro bK N;obtain ⟨⟨y25,y26⟩,hy12,N⟩:=zB N;obtain ⟨y27,hy13,N⟩:=zB N;obtain ⟨l,hy14,N⟩:=zB N;refine wT [.p (vP b7 1) [],.p (vS (some ⟨b6,0,none⟩) ([x2]:List zA) 1) [0],.p (vP aw 0) [],.x (fun I' v hx=>∃ b8,v=vS (some ⟨b8,0,none⟩) ([3,2,4]:List Int) 3/\hx=[]/\(SL I' (vS (some ⟨b8,0,none⟩) ([3,2,4]:List Int) 3) ([3,2,4]:List Int))),.x (fun I' v hx=>∃ p22 c22,v=vI y25/\hx=[hB aw (cRd y26 p22 c22)]/\(S4 I' p22 y26.b c22)),.x (fun I' v hx=>∃ p23 c23 cs8,v=vA (cAff y27 p23 c23)/\hx=[hO Int (vS p23 y27.Coefs c23) cs8]/\(RL I' cs8 y27.Coefs)),.x (fun I' v hx=>∃ b9,v=vS (some ⟨b9,0,none⟩) ([y27]:List zA) 1/\hx=[]/\(SL I' (vS (some ⟨b9,0,none⟩) ([y27]:List zA) 1) ([y27]:List zA))),.x (fun I' v hx=>∃ p24 c24 cs9,v=vS p24 l c24/\hx=[hO zA (vS p24 l c24) cs9]/\(RL I' cs9 l))] [[],[(0,false)],[],[],[(2,false),(3,false),(10,true)],[(4,false)],[(5,true)],[(1,false),(6,false),(11,true)]] [hB b7 [vS (some ⟨b5,0,none⟩) ([x1]:List zA) 1,vS (some ⟨b6,0,none⟩) ([x2]:List zA) 1],hO zA (vS (some ⟨b5,0,none⟩) ([x1]:List zA) 1) (cAff x1 p7 c7),hB b zTwo] [[hB aw (cRd y23 p18 c18)],[hO zA (vS (some ⟨b6,0,none⟩) ([x2]:List zA) 1) (cAff x2 p8 c8)]] [(4,true),(7,true)] (zY [1,3,4,0,2]) ?_ ?_
     · refine Op<|Op<|Op<|Ox ?_<|Ox ?_<|Ox ?_<|Ox ?_<|Ox ?_<|On
       · intro I1 hf ae;refine I_h [] ?_;have H:=iS I1;refine mG (rI [3,2,4]) ?_;intro b8 I023 le22 h47;have H:=H.trans le22;exact yL [] H ⟨_,rfl,rfl,h47⟩
       · rintro I1 hf ae _ _ ⟨rfl,rfl⟩ _ _ ⟨b8,rfl,rfl,h47⟩ _ _ rfl;refine yW [47,48] rfl ?_;have H:=iS I1;have h42:=h42.mono ae;refine tY (yZ y23 ([3,2,4]:List Int) _ hy12 h42 h47) rfl ?_;rintro I024 ay v2 k2 le23 - ⟨v018,kk6,rfl,rfl,rfl,h49⟩ -;have H:=H.trans le23;obtain ⟨p22,c22,rfl,h50⟩:=yA h49;exact yL [hB aw (cRd y26 p22 c22)] H ⟨_,_,rfl,rfl,h50⟩
       · rintro I1 hf ae _ _ ⟨p22,c22,rfl,rfl,h50⟩;refine yW [49] rfl ?_;have H:=iS I1;refine xM (uX y25 _ hy13 ) ?_;rintro I025 ay v2 k2 le24 - ⟨p23,c23,cs8,rfl,rfl,h51⟩ -;have H:=H.trans le24;exact yL [hO Int (vS p23 y27.Coefs c23) cs8] H ⟨_,_,_,rfl,rfl,h51⟩
       · rintro I1 hf ae _ _ ⟨p23,c23,cs8,rfl,rfl,h51⟩;refine yW [50] rfl ?_;have H:=iS I1;refine xI 0 rfl ?_;intro I026 le25 hl08;have h52:=SL.of_frozen hl08 le25 h51;have H:=H.trans le25;refine mG (rc y27 (yP ⟨_,rfl,h52⟩) rN) ?_;intro b9 I027 le26 h54;have H:=H.trans le26;exact yL [] H ⟨_,rfl,rfl,h54⟩
       rintro I1 hf ae _ _ ⟨rfl,rfl⟩ _ _ ⟨b9,rfl,rfl,h54⟩ _ _ rfl;refine yW [46,51] rfl ?_;have h39:=iM ae h39;obtain ⟨aP,k0,k01⟩:=h54;have h54:SL I1 (vS (some ⟨b9,0,none⟩) ([y27]:List zA) 1) ([y27]:List zA):=⟨_,k0,k01⟩;exact sO 95 2 0 rfl rfl rfl h39 (.inl k0) k01 hy14 fun p24 c24 cs9 h55=>wK (ah:=(hO zA (vS p24 l c24) cs9::hB b7 [vS (some ⟨b5,0,none⟩) ([x1]:List zA) 1,vS (some ⟨b6,0,none⟩) ([x2]:List zA) 1]::hO zA (vS (some ⟨b5,0,none⟩) ([x1]:List zA) 1) (cAff x1 p7 c7)::hB b zTwo::hf)) rfl<|yL [hO zA (vS p24 l c24) cs9] iR ⟨_,_,_,rfl,rfl,h55⟩
     rintro I028 le27 _ _ ⟨p22,c22,rfl,rfl,h50⟩ _ _ ⟨p24,c24,cs9,rfl,rfl,h55⟩;refine yW [4,8,52] rfl ?_;have ⟨h38,H⟩:=m2 le27 h38 H;exact yC 9 [] [53] rfl<|xJ 2 [vS (some ⟨b5,0,none⟩) ([x1]:List zA) 1,vS p24 l c24] rfl<|yD rfl<|xR (zX [1,2,0,3,4] rfl (by decide))<|yN<|zV ⟨_,_,_,_,_,_,_,_,_,_,_,(zC N).symm,H,h38,h55,h50,rfl,rfl⟩
   intro bK N;refine yG [54] rfl<|zH ?_;obtain ⟨o04,ho04,hMc4⟩:=zB N;refine qV (fun I' ah m'=>∃ (Lo1:List zA) (x7:zM) (p25:Option Addr) (c25:Nat) (cs10:List Value) (p26:Option Addr) (c26:Nat),o04=(Lo1,x7)/\I021.le I'/\(RL I' cs10 Lo1)/\(S4 I' p26 x7.b c26)/\ah=[hB aw (cRd x7 p26 c26),hB b7 [vS p25 Lo1 c25,vS (some ⟨b6,0,none⟩) ([x2]:List zA) 1],hO zA (vS (some ⟨b6,0,none⟩) ([x2]:List zA) 1) (cAff x2 p8 c8),hO zA (vS p25 Lo1 c25) cs10,hB b zTwo]/\m'=[(4,vP b 0),(8,vP b7 0)]) ?_ ?_
   · have H:=iS I021;refine yE ho04 ?_ ?_
     · intro bO N;obtain ⟨⟨y29,y30⟩,hy15,N⟩:=zB N;obtain ⟨y31,hy16,N⟩:=zB N;obtain ⟨l1,hy17,N⟩:=zB N;refine wT [.p (vP b7 0) [],.p (vS (some ⟨b5,0,none⟩) ([x1]:List zA) 1) [0],.p (vP aw 0) [],.x (fun I' v hx=>∃ b10,v=vS (some ⟨b10,0,none⟩) ([0,1]:List Int) 2/\hx=[]/\(SL I' (vS (some ⟨b10,0,none⟩) ([0,1]:List Int) 2) ([0,1]:List Int))),.x (fun I' v hx=>∃ p27 c27,v=vI y29/\hx=[hB aw (cRd y30 p27 c27)]/\(S4 I' p27 y30.b c27)),.x (fun I' v hx=>∃ p28 c28 cs11,v=vA (cAff y31 p28 c28)/\hx=[hO Int (vS p28 y31.Coefs c28) cs11]/\(RL I' cs11 y31.Coefs)),.x (fun I' v hx=>∃ b11,v=vS (some ⟨b11,0,none⟩) ([y31]:List zA) 1/\hx=[]/\(SL I' (vS (some ⟨b11,0,none⟩) ([y31]:List zA) 1) ([y31]:List zA))),.x (fun I' v hx=>∃ p29 c29 cs12,v=vS p29 l1 c29/\hx=[hO zA (vS p29 l1 c29) cs12]/\(RL I' cs12 l1))] [[],[(0,false)],[],[],[(2,false),(3,false),(10,true)],[(4,false)],[(5,true)],[(1,false),(6,false),(11,true)]] [hB b7 [vS (some ⟨b5,0,none⟩) ([x1]:List zA) 1,vS (some ⟨b6,0,none⟩) ([x2]:List zA) 1],hO zA (vS (some ⟨b6,0,none⟩) ([x2]:List zA) 1) (cAff x2 p8 c8),hB b zTwo] [[hB aw (cRd y23 p18 c18)],[hO zA (vS (some ⟨b5,0,none⟩) ([x1]:List zA) 1) (cAff x1 p7 c7)]] [(4,true),(7,true)] (zY [1,2,4,0,3]) ?_ ?_
       · refine Op<|Op<|Op<|Ox ?_<|Ox ?_<|Ox ?_<|Ox ?_<|Ox ?_<|On
         · intro I1 hf ae;refine I_h [] ?_;have H:=iS I1;refine mG (rI [0,1]) ?_;intro b10 I030 le28 h59;have H:=H.trans le28;exact yL [] H ⟨_,rfl,rfl,h59⟩
         · rintro I1 hf ae _ _ ⟨rfl,rfl⟩ _ _ ⟨b10,rfl,rfl,h59⟩ _ _ rfl;refine yW [58,59] rfl ?_;have H:=iS I1;have h42:=h42.mono ae;refine tY (yZ y23 ([0,1]:List Int) _ hy15 h42 h59) rfl ?_;rintro I031 ay v2 k2 le29 - ⟨v020,kk7,rfl,rfl,rfl,h61⟩ -;have H:=H.trans le29;obtain ⟨p27,c27,rfl,h62⟩:=yA h61;exact yL [hB aw (cRd y30 p27 c27)] H ⟨_,_,rfl,rfl,h62⟩
         · rintro I1 hf ae _ _ ⟨p27,c27,rfl,rfl,h62⟩;refine yW [60] rfl ?_;have H:=iS I1;refine xM (uX y29 _ hy16 ) ?_;rintro I032 ay v2 k2 le30 - ⟨p28,c28,cs11,rfl,rfl,h63⟩ -;have H:=H.trans le30;exact yL [hO Int (vS p28 y31.Coefs c28) cs11] H ⟨_,_,_,rfl,rfl,h63⟩
         · rintro I1 hf ae _ _ ⟨p28,c28,cs11,rfl,rfl,h63⟩;refine yW [61] rfl ?_;have H:=iS I1;refine xI 0 rfl ?_;intro I033 le31 hl011;have h64:=SL.of_frozen hl011 le31 h63;have H:=H.trans le31;refine mG (rc y31 (yP ⟨_,rfl,h64⟩) rN) ?_;intro b11 I034 le32 h66;have H:=H.trans le32;exact yL [] H ⟨_,rfl,rfl,h66⟩
         rintro I1 hf ae _ _ ⟨rfl,rfl⟩ _ _ ⟨b11,rfl,rfl,h66⟩ _ _ rfl;refine yW [57,62] rfl ?_;have h38:=iM ae h38;obtain ⟨bv,k02,k03⟩:=h66;have h66:SL I1 (vS (some ⟨b11,0,none⟩) ([y31]:List zA) 1) ([y31]:List zA):=⟨_,k02,k03⟩;exact sO 95 2 0 rfl rfl rfl h38 (.inl k02) k03 hy17 fun p29 c29 cs12 h67=>wK (ah:=(hO zA (vS p29 l1 c29) cs12::hB b7 [vS (some ⟨b5,0,none⟩) ([x1]:List zA) 1,vS (some ⟨b6,0,none⟩) ([x2]:List zA) 1]::hO zA (vS (some ⟨b6,0,none⟩) ([x2]:List zA) 1) (cAff x2 p8 c8)::hB b zTwo::hf)) rfl<|yL [hO zA (vS p29 l1 c29) cs12] iR ⟨_,_,_,rfl,rfl,h67⟩
       rintro I035 le33 _ _ ⟨p27,c27,rfl,rfl,h62⟩ _ _ ⟨p29,c29,cs12,rfl,rfl,h67⟩;refine yW [4,8,63] rfl ?_;have H:=H.trans le33;exact yC 9 [] [64] rfl<|xJ 2 [vS p29 l1 c29,vS (some ⟨b6,0,none⟩) ([x2]:List zA) 1] rfl<|yD rfl<|xR (zX [1,2,3,0,4] rfl (by decide))<|yN<|zV ⟨_,_,_,_,_,_,_,(zC N).symm,H,h67,h62,rfl,rfl⟩
     intro bO N;exact zT<|yN<|zV ⟨_,_,_,_,_,_,_,(zC N).symm,H,h38,h42,rfl,rfl⟩
   rintro I029 ay m2 ⟨Lo1,x7,p25,c25,cs10,p26,c26,heq3,le34,h56,h57,rfl,rfl⟩;subst o04;have ⟨h39,H⟩:=m2 le34 h39 H;exact yN<|zV ⟨_,_,_,_,_,_,_,_,_,_,_,(zC hMc4).symm,H,h56,h39,h57,rfl,rfl⟩
 rintro I022 ay m2 ⟨Lo,Hi,x6,p19,c19,cs6,p20,c20,cs7,p21,c21,heq4,le35,h43,h44,h45,rfl,rfl⟩;subst o03;refine zN<|yV<|rH 1 [1] [(65,vA [vS p19 Lo c19,vS p20 Hi c20])]<|xJ 4 [vS p19 Lo c19,vS p20 Hi c20] rfl<|yD rfl<|xD<|yX 3 rfl ?_;intro I036 le36 hl013;have h68:=SL.of_frozen hl013 le36 h43;have ⟨h45,h44⟩:=m2 le36 h45 h44;refine yX 2 rfl ?_;intro I037 le37 hl014;have h69:=SL.of_frozen hl014 le37 h44;have ⟨h45,h68⟩:=m2 le37 h45 h68;obtain rfl:=zC hMc3;exact xA ⟨_,_,(.cell 2 rfl rfl (by kernel_rfl) ResV.nil),(zX [0] rfl (by decide)),⟨_,_,rfl,rfl,⟨_,rfl,(qL ⟨_,_,rfl,h68,h69⟩)⟩,(yU ⟨_,rfl,h45⟩)⟩⟩
def zGU (b0:Nat) (r:(List zE)×zM):KT:=fun kk I' ah v=>
  ∃ v0 k0,ah=[.blk b0 ⟨k0⟩]/\v=tupV [v0]/\SL I' v0 r.1/\Rp.rep I' k0 r.2
def nG (out:List zE) (i:Int) (x:zM):Option ((List zE×zM)):=do
 if (decide (i>0)) then
  let (y4,y5)<-dB x (out.length:Int)
  let au<-app 48 out ([y4]:List zE)
  nG au (W (i - 1)) y5
 else
  pure (out,x)
 partial_fixpoint
theorem zF0 :∀ (out:List zE) (i:Int) (x:zM) (o:(List zE×zM)),nG out i x=some o->∀ {B}{I0 I:Imm}{Q}  {aw:Nat}{p2 c2 cs p3 c3},I0.le I->(RL I cs out)->(S4 I p3 x.b c3)->NG Q->NO Q->(∀ (I':Imm) (aj:List zE) (x1:zM) (p4:Option Addr) (c4:Nat) (az:List Value) (p5:Option Addr) (c5:Nat),o=(aj,x1)->I0.le I'->(RL I' az aj)->(S4 I' p5 x1.b c5)->T 21 B Q (.exit 0) I' [hB aw (cRd x1 p5 c5),hO zE (vS p4 aj c4) az] [(3,vS p4 aj c4)])->J Tryz.prog 21 B (nav (bodyOf f218) [1,1,0,1,0]) Q I [hB aw (cRd x p3 c3),hO zE (vS p2 out c2) cs] [(0,vP aw 0),(3,vS p2 out c2),(4,vI i)]:=by
 refine nG.partial_correctness  _ fun aI ih out i x o N B I0 I Q aw p2 c2 cs p3 c3 H h7 h8 hg ho hx=>yO hg ho<|yB<|yG [10] rfl<|zH<|yE N ?_ ?_
 · intro hc N;refine zT<|zZ<|yH<|zJ<|yC 4 [] [13,14,16] rfl ?_;obtain ⟨⟨y4,y5⟩,aA,N⟩:=zB N;refine tY (zHr x (out.length:Int) _ aA h8) rfl ?_;rintro aX ay v2 k2 aF - ⟨v02,kk1,rfl,rfl,⟨aR,rfl,h11⟩,h12⟩ -;have ⟨h7,H⟩:=m2 aF h7 H;obtain ⟨p6,c6,p7,c7,rfl,h13,h14⟩:=sW h11;obtain ⟨p8,c8,rfl,h15⟩:=yA h12;refine uO (cLoop y4 p6 c6 p7 c7) zE ?_;intro b2 hb2;have h16:RL aX (cLoop y4 p6 c6 p7 c7) ([y4]:List zE):=⟨(cLoop y4 p6 c6 p7 c7),_,rfl,rfl,(qL ⟨_,_,rfl,h13,h14⟩),rfl⟩;obtain ⟨au,aK,N⟩:=zB N;exact sO 141 2 2 rfl rfl rfl h7 (.inr ⟨0,rfl⟩) h16 aK fun p9 c9 aS h17=>sE (zY [1,2] (ah:=[hB aw (cRd y5 p8 c8),hO zE (vS p9 au c9) aS]))<|yI [] [3] rfl<|zN<|zH<|zJ<|yI [] [4] rfl<|yM<|nT<|ih au (W (i - 1)) y5 _ N H h17 h15 hg ho hx
 intro hc N;exact wL<|yN<|hx _ _ _ _ _ _ _ _ (zC N).symm H h7 h8
def dC (r0:zM):Option ((List zE)×zM):=do
 let (y1,y2)<-yT r0 ([2,1,2,3]:List Int)
 let (aj,x1)<-nG ([]:List zE) y1 y2
 pure (aj,x1)
theorem zHs:∀ r0 r,dC r0=some r->∀ {I:Imm}{aw:Nat}{p c},(S4 I p r0.b c)->RT 218 [vP aw 0] I [hB aw (cRd r0 p c)] (zGU aw r):=by
 intro r0 r N I aw p c h;unfold dC at N;refine yK func218 fun B=>wQ []<|yV<|uO [] zE ?_;intro b hb;have h1:RL I [] ([]:List zE):=rfl;refine yI [] [3] rfl<|zZ<|yF<|yC 1 [] [6] rfl<|mG (rI [2,1,2,3]) ?_;intro b1 I0 le h3;have ⟨h1,h⟩:=m2 le h1 h;refine sE (zY [1,0] (ah:=[hB aw (cRd r0 p c),hO zE (vS (some ⟨b,0,none⟩) ([]:List zE) 0) []])) ?_;obtain ⟨⟨y1,y2⟩,hy,N⟩:=zB N;refine tY (yZ r0 ([2,1,2,3]:List Int) _ hy h h3) rfl ?_;rintro aW ay v2 k2 ae - ⟨v0,kk,rfl,rfl,rfl,h5⟩ -;have h1:=iM ae h1;obtain ⟨p1,c1,rfl,h6⟩:=yA h5;refine yI [] [4] rfl<|xY<|qI [(0,vP aw 0),(3,vS (some ⟨b,0,none⟩) ([]:List zE) 0),(4,vI y1)] ?_;obtain ⟨o0,aD,aM⟩:=zB N;refine zF0 ([]:List zE) y1 y2 o0 aD iR h1 h6 (fun _ _ _ h=>h) (fun _ _ h=>h) ?_;intro bG aj x1 p4 c4 az p5 c5 heq aJ h9 h10;subst o0;refine zS<|wP [2] rfl<|xD<|yX 1 rfl ?_;intro bL bd hl01;have h18:=SL.of_frozen hl01 bd h9;have h10:=h10.mono bd;obtain rfl:=zC aM;exact xA ⟨_,_,(.tmp rfl ResV.nil),(zX [0] rfl (by decide)),⟨_,_,rfl,rfl,h18,(yU ⟨_,rfl,h10⟩)⟩⟩
def zGV (b0:Nat) (r:zL×zM):KT:=fun kk I' ah v=>
  ∃ v0 k0,ah=[.blk b0 ⟨k0⟩]/\v=tupV [v0]/\(∃ cs,v0=.agg ⟨cs⟩/\Rp.rep I' cs r.1)/\Rp.rep I' k0 r.2
def nH (aa:Int) (n0:Int) (i:Int) (Subs:List zA) (x:zM):Option ((List zA×zM)):=do
 if (decide (i<n0)) then
  let (y4,y5)<-yT x ([0,1,0,2]:List Int)
  let y6<-vE y4
  let (t32,x2)<-(do
    if (decide (aa>0)) then
     let (y8,y9)<-xC y5 5
     pure ((decide (y8>0)),y9)
    else
     pure (false,y5)
      : Option (Bool×zM))
  let (x3,x4)<-(do
    if t32 then
     let (y11,y12)<-xC x2 aa
     let y13<-mU y11
     let (y15,y16)<-yT y12 ([1,1,1,2,(-1)]:List Int)
     let (y18,y19)<-yT y16 ([0,1,0,0,2]:List Int)
     let y20<-vE y18
     let y21<-kF y13 y15 y20 1
     pure (y21,y19)
    else
     pure ((zA.mk y6.Coefs y6.Const),x2)
      : Option (zA×zM))
  let l<-app 32 Subs ([x3]:List zA)
  nH aa n0 (W (i+1)) l x4
 else
  pure (Subs,x)
 partial_fixpoint
theorem zF1 (aa:Int) (n0:Int):∀ (i:Int) (Subs:List zA) (x:zM) (o:(List zA×zM)),nH aa n0 i Subs x=some o->∀ {B}{I0 I:Imm}{Q}{y1:Str}{aw:Nat}{b:Nat}{b2:Nat}{p2 c2 cs p3 c3},I0.le I->(RL I cs Subs)->(S4 I p3 x.b c3)->NG Q->NO Q->(∀ (I':Imm) (Subs1:List zA) (x1:zM) (p4:Option Addr) (c4:Nat) (az:List Value) (p5:Option Addr) (c5:Nat),o=(Subs1,x1)->I0.le I'->(RL I' az Subs1)->(S4 I' p5 x1.b c5)->T 53 B Q (.exit 0) I' [hO zA (vS p4 Subs1 c4) az,hB b2 [vT y1.l,vS p4 Subs1 c4],hB aw (cRd x1 p5 c5),hB b [vT ([]),z0]] [(4,vP b 0),(5,vP b2 0)])->J Tryz.prog 53 B (nav (bodyOf f245) [1,1,1,1,0,1,0]) Q I [hO zA (vS p2 Subs c2) cs,hB b2 [vT y1.l,vS p2 Subs c2],hB aw (cRd x p3 c3),hB b [vT ([]),z0]] [(0,vP aw 0),(1,vI aa),(4,vP b 0),(5,vP b2 0),(6,vI n0),(7,vI i)]:=by
 refine nH.partial_correctness aa n0 _ fun aI ih i Subs x o N B I0 I Q y1 aw b b2 p2 c2 cs p3 c3 H h7 h8 hg ho hx=>yO hg ho<|yB<|yG [19] rfl<|zH<|yE N ?_ ?_
 · intro aH N;refine zT<|zZ<|yH<|yF<|yC 1 [] [22] rfl<|mG (rI [0,1,0,2]) ?_;intro b3 bG aJ h12;have ⟨h7,h8,H⟩:=m3 aJ h7 h8 H;refine sE (zY [2,0,1,3] (ah:=[hB aw (cRd x p3 c3),hO zA (vS p2 Subs c2) cs,hB b2 [vT y1.l,vS p2 Subs c2],hB b [vT ([]),z0]])) ?_;obtain ⟨⟨y4,y5⟩,aA,N⟩:=zB N;refine tY (yZ x ([0,1,0,2]:List Int) _ aA h8 h12) rfl ?_;rintro bL ay v2 k2 bd - ⟨v02,kk1,rfl,rfl,rfl,h14⟩ -;have ⟨h7,H⟩:=m2 bd h7 H;obtain ⟨p6,c6,rfl,h15⟩:=yA h14;obtain ⟨y6,aK,N⟩:=zB N;refine xM (uX y4 _ aK ) ?_;rintro bR ay v2 k2 bw - ⟨p7,c7,aR,rfl,rfl,h16⟩ -;have ⟨h15,h7,H⟩:=m3 bw h15 h7 H;refine wS [z0,vI 0] ?_;intro b4 hb4;refine xJ 0 (cAff y6 p7 c7) rfl<|yD rfl<|zZ<|yB ?_;obtain ⟨aQ,aB,hMc1⟩:=zB N;refine qV (fun I' ah m'=>∃ (t32:Bool) (x2:zM) (p8:Option Addr) (c8:Nat),aQ=(t32,x2)/\bR.le I'/\(S4 I' p8 x2.b c8)/\ah=[hB b4 (cAff y6 p7 c7),hO Int (vS p7 y6.Coefs c7) aR,hB aw (cRd x2 p8 c8),hO zA (vS p2 Subs c2) cs,hB b2 [vT y1.l,vS p2 Subs c2],hB b [vT ([]),z0]]/\m'=[(0,vP aw 0),(1,vI aa),(4,vP b 0),(5,vP b2 0),(6,vI n0),(7,vI i),(8,vP b4 0),(32,.bool t32)]) ?_ ?_
   · have H:=iS bR;refine zJ<|yC 3 [] [28] rfl<|xW [28] aB ?_ ?_
     · intro aZ N;refine yC 4 [] [29] rfl<|sE (zY [2,0,1,3,4,5] (ah:=[hB aw (cRd y5 p6 c6),hB b4 (cAff y6 p7 c7),hO Int (vS p7 y6.Coefs c7) aR,hO zA (vS p2 Subs c2) cs,hB b2 [vT y1.l,vS p2 Subs c2],hB b [vT ([]),z0]])) ?_;obtain ⟨⟨y8,y9⟩,bi,N⟩:=zB N;refine tY (xS y5 5 _ bi h15) rfl ?_;rintro I07 ay v2 k2 bC - ⟨v04,kk2,rfl,rfl,rfl,h19⟩ -;have H:=H.trans bC;obtain ⟨p9,c9,rfl,h20⟩:=yA h19;exact yI [] [32] rfl<|xR (zX [1,2,0,3,4,5] rfl (by decide))<|yN<|zV ⟨_,_,_,_,(zC N).symm,H,h20,rfl,rfl⟩
     intro aZ N;exact wI [] [(32,vF)]<|yN<|zV ⟨_,_,_,_,(zC N).symm,H,h15,rfl,rfl⟩
   rintro I06 ay m2 ⟨t32,x2,p8,c8,heq1,le7,h17,rfl,rfl⟩;subst aQ;have ⟨h16,h7,H⟩:=m3 le7 h16 h7 H;refine zH<|qK 1 rfl ?_;intro I08 le8 hl02;have h21:=SL.of_frozen hl02 le8 h16;have ⟨h17,h7,H⟩:=m3 le8 h17 h7 H;obtain ⟨o02,ho02,hMc2⟩:=zB hMc1;refine qV (fun I' ah m'=>∃ (x3:zA) (x4:zM) (bc:Option Addr) (bj:Nat) (aT:Option Addr) (bf:Nat),o02=(x3,x4)/\I08.le I'/\(S4 I' bc x3.Coefs bj)/\(S4 I' aT x4.b bf)/\ah=[hB b4 (cAff x3 bc bj),hB aw (cRd x4 aT bf),hO zA (vS p2 Subs c2) cs,hB b2 [vT y1.l,vS p2 Subs c2],hB b [vT ([]),z0]]/\m'=[(0,vP aw 0),(1,vI aa),(4,vP b 0),(5,vP b2 0),(6,vI n0),(7,vI i),(8,vP b4 0)]) ?_ ?_
   · have H:=iS I08;refine yE ho02 ?_ ?_
     · intro bK N;refine yF<|yC 2 [] [33,34] rfl<|sE (zY [1,0,2,3,4] (ah:=[hB aw (cRd x2 p8 c8),hB b4 (cAff y6 p7 c7),hO zA (vS p2 Subs c2) cs,hB b2 [vT y1.l,vS p2 Subs c2],hB b [vT ([]),z0]])) ?_;obtain ⟨⟨y11,y12⟩,bu,N⟩:=zB N;refine tY (xS x2 aa _ bu h17) rfl ?_;rintro bS ay v2 k2 le9 - ⟨v06,kk3,rfl,rfl,rfl,h25⟩ -;have H:=H.trans le9;obtain ⟨bD,br,rfl,h26⟩:=yA h25;refine yI [] [9] rfl<|zH<|zJ<|yC 1 [] [36] rfl<|bE N fun y13 bJ N=>xM (eV y11 _ bJ ) ?_;rintro bY ay v2 k2 le10 - ⟨v08,rfl,rfl,⟨aS,rfl,h27⟩⟩ -;have ⟨h26,H⟩:=m2 le10 h26 H;obtain ⟨bt,bz,rfl,h28⟩:=yS h27;refine yC 3 [] [38] rfl<|mG (rI [1,1,1,2,(-1)]) ?_;intro b5 bX le11 h30;have ⟨h28,h26,H⟩:=m3 le11 h28 h26 H;obtain ⟨⟨y15,y16⟩,hy6,N⟩:=zB N;refine tY (yZ y12 ([1,1,1,2,(-1)]:List Int) _ hy6 h26 h30) rfl ?_;rintro I013 ay v2 k2 le12 - ⟨v010,kk4,rfl,rfl,rfl,h32⟩ -;have ⟨h28,H⟩:=m2 le12 h28 H;obtain ⟨p14,c14,rfl,h33⟩:=yA h32;refine yC 6 [] [41] rfl<|mG (rI [0,1,0,0,2]) ?_;intro b6 I014 le13 h35;have ⟨h28,h33,H⟩:=m3 le13 h28 h33 H;obtain ⟨⟨y18,y19⟩,hy7,N⟩:=zB N;refine tY (yZ y16 ([0,1,0,0,2]:List Int) _ hy7 h33 h35) rfl ?_;rintro I015 ay v2 k2 le14 - ⟨v012,kk5,rfl,rfl,rfl,h37⟩ -;have ⟨h28,H⟩:=m2 le14 h28 H;obtain ⟨p15,c15,rfl,h38⟩:=yA h37;obtain ⟨y20,hy8,N⟩:=zB N;refine xM (uX y18 _ hy8 ) ?_;rintro I016 ay v2 k2 le15 - ⟨p16,c16,bB,rfl,rfl,h39⟩ -;have ⟨h28,h38,H⟩:=m3 le15 h28 h38 H;refine xI 0 rfl ?_;intro I017 le16 hl05;have h40:=SL.of_frozen hl05 le16 h39;have ⟨h28,h38,H⟩:=m3 le16 h28 h38 H;obtain ⟨y21,hy9,N⟩:=zB N;refine xM (zB5 y13 y15 y20 1 _ hy9 h28 h40) ?_;rintro I018 ay v2 k2 le17 - ⟨v014,rfl,rfl,⟨bI,rfl,h41⟩⟩ -;have ⟨h38,H⟩:=m2 le17 h38 H;obtain ⟨p17,c17,rfl,h42⟩:=yS h41;exact xJ 1 (cAff y21 p17 c17) rfl<|yD rfl<|xR (zX [1,0,2,3,4] rfl (by decide))<|yN<|zV ⟨_,_,_,_,_,_,(zC N).symm,H,h42,h38,rfl,rfl⟩
     intro bK N;exact zT<|yN<|zV ⟨_,_,_,_,_,_,(zC N).symm,H,h21,h17,rfl,rfl⟩
   rintro I09 ay m2 ⟨x3,x4,bc,bj,aT,bf,heq2,le18,h22,h23,rfl,rfl⟩;subst o02;have ⟨h7,H⟩:=m2 le18 h7 H;refine zH<|zJ<|rH 3 [3,0] [(47,vS p2 Subs c2),(48,vA (cAff x3 bc bj))]<|uO (cAff x3 bc bj) zA ?_;intro b7 hb7;have h43:RL I09 (cAff x3 bc bj) ([x3]:List zA):=⟨(cAff x3 bc bj),_,rfl,rfl,(yP ⟨_,rfl,h22⟩),rfl⟩;obtain ⟨l,hy10,N⟩:=zB hMc2;refine sO 95 2 3 rfl rfl rfl h7 (.inr ⟨0,rfl⟩) h43 hy10 ?_;intro p18 c18 cs6 h44;exact sE (zY [1,2,3,4,5] (ah:=[hB b4 (cAff x3 bc bj),hB aw (cRd x4 aT bf),hO zA (vS p18 l c18) cs6,hB b2 [vT y1.l,vS p2 Subs c2],hB b [vT ([]),z0]]))<|yC 6 [] [51] rfl<|xJ 3 [vT y1.l,vS p18 l c18] rfl<|yD rfl<|zN<|zH<|zJ<|yI [] [7] rfl<|yM<|kC (zX [2,3,1,4] rfl (by decide))<|nT<|ih (W (i+1)) l x4 _ N H h44 h23 hg ho hx
 intro aH N;exact wL<|yN<|hx _ _ _ _ _ _ _ _ (zC N).symm H h7 h8
def jP (r0:zM) (aa:Int):Option (zL×zM):=do
 let (y1,y2)<-oI r0 ([(⟨[65]⟩:Str),(⟨[66]⟩:Str),(⟨[65]⟩:Str),(⟨[67]⟩:Str)]:List Str)
 let n0<-(do
   if (y1.l==([66]:List UInt8)) then
    pure (id 2)
   else
    pure (id 1)
     : Option Int)
 let (Subs1,x1)<-nH aa n0 0 ([]:List zA) y2
 pure ((zL.mk y1 Subs1),x1)
theorem zDT:∀ r0 aa r,jP r0 aa=some r->∀ {I:Imm}{aw:Nat}{p c},(S4 I p r0.b c)->RT 245 [vP aw 0,vI aa] I [hB aw (cRd r0 p c)] (zGV aw r):=by
 intro r0 aa r N I aw p c h;unfold jP at N;refine yK func245 fun B=>?_;have H:=iS I;refine yF<|wS [vT ([]),z0] ?_;intro b hb;refine yD rfl<|yV<|yC 1 [] [10] rfl<|mG (rT [(⟨[65]⟩:Str),(⟨[66]⟩:Str),(⟨[65]⟩:Str),(⟨[67]⟩:Str)]) ?_;intro b1 I0 le h2;have ⟨h,H⟩:=m2 le h H;refine sE (zY [1,0] (ah:=[hB aw (cRd r0 p c),hB b [vT ([]),z0]])) ?_;obtain ⟨⟨y1,y2⟩,hy,N⟩:=zB N;refine tY (eK r0 ([(⟨[65]⟩:Str),(⟨[66]⟩:Str),(⟨[65]⟩:Str),(⟨[67]⟩:Str)]:List Str) _ hy h h2) rfl ?_;rintro aW ay v2 k2 ae - ⟨v0,kk,rfl,rfl,rfl,h4⟩ -;have H:=H.trans ae;obtain ⟨p1,c1,rfl,h5⟩:=yA h4;refine yC 4 [] [13] rfl<|wS [vT ([]),z0] ?_;intro b2 hb2;refine xJ 0 [vT y1.l,z0] rfl<|yD rfl<|wP [6] rfl<|zZ<|yF<|yI [0] [16] rfl<|zH ?_;refine wR N [hB b2 [vT y1.l,z0],hB aw (cRd y2 p1 c1),hB b [vT ([]),z0]] (fun n0=>[(0,vP aw 0),(1,vI aa),(4,vP b 0),(5,vP b2 0),(6,vI n0)]) (fun o0 aD=>?_) ?_
 · have H:=iS aW;refine yE aD ?_ ?_
   · intro hc N;exact zJ<|yI [] [6] rfl<|yN<|zV (ct N H)
   intro hc N;exact zT<|yN<|zV (ct N H)
 intro n0 aX aF aV;have h5:=h5.mono aF;refine zZ<|yG [7] rfl<|xY<|qI [(0,vP aw 0),(1,vI aa),(4,vP b 0),(5,vP b2 0),(6,vI n0),(7,vI 0)]<|zAM zA fun h6=>?_;obtain ⟨o03,ho03,aM⟩:=zB aV;refine zF1 aa n0 0 ([]:List zA) y2 o03 ho03 iR h6 h5 (fun _ _ _ h=>h) (fun _ _ h=>h) ?_;intro I019 Subs1 x1 p4 c4 az p5 c5 heq3 le19 h9 h10;subst o03;refine zS<|yV<|rH 1 [1] [(52,vA [vT y1.l,vS p4 Subs1 c4])]<|xJ 3 [vT y1.l,vS p4 Subs1 c4] rfl<|yD rfl<|xD<|yX 0 rfl ?_;intro I020 le20 hl06;have h45:=SL.of_frozen hl06 le20 h9;have h10:=h10.mono le20;obtain rfl:=zC aM;exact xA ⟨_,_,(.cell 2 rfl rfl (by kernel_rfl) ResV.nil),(zX [1] rfl (by decide)),⟨_,_,rfl,rfl,⟨_,rfl,(kD ⟨_,rfl,h45⟩)⟩,(yU ⟨_,rfl,h10⟩)⟩⟩
def zGW (b0:Nat) (r:zA×zM):KT:=fun kk I' ah v=>
  ∃ v0 k0,ah=[.blk b0 ⟨k0⟩]/\v=tupV [v0]/\(∃ cs,v0=.agg ⟨cs⟩/\Rp.rep I' cs r.1)/\Rp.rep I' k0 r.2
def nI (aa:Int) (i:Int) (Coefs:List Int) (x:zM):Option ((List Int×zM)):=do
 if (decide (i<aa)) then
  let (y5,y6)<-yT x ([0,1,0,(-1),2,0,9]:List Int)
  let x2<-idx Coefs i
  let l<-pure (Coefs.set i.toNat y5)
  nI aa (W (i+1)) l y6
 else
  pure (Coefs,x)
 partial_fixpoint
theorem zF2 (aa:Int):∀ (i:Int) (Coefs:List Int) (x:zM) (o:(List Int×zM)),nI aa i Coefs x=some o->∀ {B}{I0 I:Imm}{Q}{y3:zA}{aw:Nat}{b:Nat}{b2:Nat}{p3 c3 az p4 c4},I0.le I->(RL I az Coefs)->(S4 I p4 x.b c4)->NG Q->NO Q->(∀ (I':Imm) (Coefs1:List Int) (x1:zM) (p5:Option Addr) (c5:Nat) (aR:List Value) (p6:Option Addr) (c6:Nat),o=(Coefs1,x1)->I0.le I'->(RL I' aR Coefs1)->(S4 I' p6 x1.b c6)->T 24 B Q (.exit 0) I' [hB b2 [vS p5 Coefs1 c5,vI y3.Const],hO Int (vS p5 Coefs1 c5) aR,hB aw (cRd x1 p6 c6),hB b [z0,vI 0]] [(4,vP b 0),(5,vP b2 0)])->J Tryz.prog 24 B (nav (bodyOf f265) [1,1,0,1,0]) Q I [hB b2 [vS p3 Coefs c3,vI y3.Const],hO Int (vS p3 Coefs c3) az,hB aw (cRd x p4 c4),hB b [z0,vI 0]] [(0,vP aw 0),(1,vI aa),(4,vP b 0),(5,vP b2 0),(6,vI i)]:=by
 refine nI.partial_correctness aa _ fun aI ih i Coefs x o N B I0 I Q y3 aw b b2 p3 c3 az p4 c4 H h7 h8 hg ho hx=>yO hg ho<|yB<|yG [13] rfl<|zH<|yE N ?_ ?_
 · intro hc N;refine zT<|zZ<|yH ?_;obtain ⟨⟨y5,y6⟩,aK,N⟩:=zB N;refine wT [.p (vP b2 0) [],.p (vS p3 Coefs c3) [0],.p (vI i) [],.p (vP aw 0) [],.x (fun I' v hx=>∃ b3,v=vS (some ⟨b3,0,none⟩) ([0,1,0,(-1),2,0,9]:List Int) 7/\hx=[]/\(SL I' (vS (some ⟨b3,0,none⟩) ([0,1,0,(-1),2,0,9]:List Int) 7) ([0,1,0,(-1),2,0,9]:List Int))),.x (fun I' v hx=>∃ p7 c7,v=vI y5/\hx=[hB aw (cRd y6 p7 c7)]/\(S4 I' p7 y6.b c7))] [[],[(0,false)],[],[],[],[(3,false),(4,false),(8,true)]] [hB b2 [vS p3 Coefs c3,vI y3.Const],hO Int (vS p3 Coefs c3) az,hB b [z0,vI 0]] [[hB aw (cRd x p4 c4)]] [(1,false),(2,false),(5,true)] (zY [0,1,3,2]) ?_ ?_
   · refine Op<|Op<|Op<|Op<|Ox ?_<|Ox ?_<|On
     · intro I1 hf ae;refine I_h [] ?_;have H:=iS I1;refine mG (rI [0,1,0,(-1),2,0,9]) ?_;intro b3 bG aJ h12;have H:=H.trans aJ;exact yL [] H ⟨_,rfl,rfl,h12⟩
     rintro I1 hf ae _ _ ⟨rfl,rfl⟩ _ _ ⟨b3,rfl,rfl,h12⟩ _ _ rfl;refine yW [19,20] rfl ?_;have H:=iS I1;have h8:=h8.mono ae;refine tY (yZ x ([0,1,0,(-1),2,0,9]:List Int) _ aK h8 h12) rfl ?_;rintro bL ay v2 k2 bd - ⟨v02,kk1,rfl,rfl,rfl,h14⟩ -;have H:=H.trans bd;obtain ⟨p7,c7,rfl,h15⟩:=yA h14;exact yL [hB aw (cRd y6 p7 c7)] H ⟨_,_,rfl,rfl,h15⟩
   rintro bR bw _ _ ⟨rfl,rfl⟩ _ _ ⟨rfl,rfl⟩ _ _ ⟨p7,c7,rfl,rfl,h15⟩;refine yW [0,1,4,5,6,17,18,21] rfl ?_;have ⟨h7,H⟩:=m2 bw h7 H;obtain ⟨x2,bi,N⟩:=zB N;refine oH 2 rfl rfl rfl h7 bi ?_;intro ad aP aq bM am;obtain rfl:=am;obtain ⟨l,bu,N⟩:=zB N;refine tW (c:=[vI y5]) (x':=y5) 2 0 rfl rfl rfl aq rfl rfl bM (by kernel_rfl) (by kernel_rfl) (by kernel_rfl) h7 bi (by kernel_rfl) rfl ?_;rw [show Coefs.set i.toNat y5=l from zC bu];intro aS h16 hl02;exact kH (m':=[(0,vP aw 0),(1,vI aa),(4,vP b 0),(5,vP b2 0),(6,vI i),(17,vS p3 Coefs c3),(18,vI i),(21,vI y5)]) ⟨rfl,rfl,rfl,rfl,rfl,rfl,rfl,rfl,trivial⟩<|zA5 (ah:=[hB aw (cRd y6 p7 c7),hB b2 [vS p3 l c3,vI y3.Const],hO Int (vS p3 l c3) aS,hB b [z0,vI 0]]) (m':=[(0,vP aw 0),(1,vI aa),(4,vP b 0),(5,vP b2 0),(6,vI i),(17,vS p3 l c3),(18,vI i),(21,vI y5)]) (by first | rfl | simp only [vS,hl02,cu,dj,dq,dg,cY,cZ]) (by first | rfl | simp only [vS,hl02])<|yD rfl<|zN<|zH<|zJ<|yI [] [6] rfl<|yM<|kC (zX [1,2,0,3] rfl (by decide))<|nT<|ih (W (i+1)) l y6 _ N H h16 h15 hg ho hx
 intro hc N;exact wL<|yN<|hx _ _ _ _ _ _ _ _ (zC N).symm H h7 h8
def fG (r0:zM) (aa:Int):Option (zA×zM):=do
 let (y1,y2)<-yT r0 ([0,1,(-1),2,0,5,(-9),99]:List Int)
 let y3<-vE y1
 let (Coefs1,x1)<-nI aa 0 y3.Coefs y2
 pure ((zA.mk Coefs1 y3.Const),x1)
theorem zHt:∀ r0 aa r,fG r0 aa=some r->∀ {I:Imm}{aw:Nat}{p c},(S4 I p r0.b c)->RT 265 [vP aw 0,vI aa] I [hB aw (cRd r0 p c)] (zGW aw r):=by
 intro r0 aa r N I aw p c h;unfold fG at N;refine yK func265 fun B=>yF<|wS [z0,vI 0] ?_;intro b hb;refine yD rfl<|yV<|yC 1 [] [7] rfl<|mG (rI [0,1,(-1),2,0,5,(-9),99]) ?_;intro b1 I0 le h2;have h:=h.mono le;refine sE (zY [1,0] (ah:=[hB aw (cRd r0 p c),hB b [z0,vI 0]])) ?_;obtain ⟨⟨y1,y2⟩,hy,N⟩:=zB N;refine tY (yZ r0 ([0,1,(-1),2,0,5,(-9),99]:List Int) _ hy h h2) rfl ?_;rintro aW ay v2 k2 ae - ⟨v0,kk,rfl,rfl,rfl,h4⟩ -;obtain ⟨p1,c1,rfl,h5⟩:=yA h4;obtain ⟨y3,aA,N⟩:=zB N;refine xM (uX y1 _ aA ) ?_;rintro aX ay v2 k2 aF - ⟨p2,c2,cs,rfl,rfl,h6⟩ -;have h5:=h5.mono aF;refine wS [z0,vI 0] ?_;intro b2 hb2;refine xJ 0 (cAff y3 p2 c2) rfl<|yD rfl<|zZ<|yG [6] rfl<|xY<|qI [(0,vP aw 0),(1,vI aa),(4,vP b 0),(5,vP b2 0),(6,vI 0)] ?_;obtain ⟨o0,aD,aM⟩:=zB N;refine zF2 aa 0 y3.Coefs y2 o0 aD iR h6 h5 (fun _ _ _ h=>h) (fun _ _ h=>h) ?_;intro I06 Coefs1 x1 p5 c5 aR p6 c6 heq bC h9 h10;subst o0;refine zS<|yV<|rH 1 [0] [(23,vA [vS p5 Coefs1 c5,vI y3.Const])]<|xJ 3 [vS p5 Coefs1 c5,vI y3.Const] rfl<|yD rfl<|xD<|yX 1 rfl ?_;intro I07 le7 hl03;have h17:=SL.of_frozen hl03 le7 h9;have h10:=h10.mono le7;obtain rfl:=zC aM;exact xA ⟨_,_,(.cell 2 rfl rfl (by kernel_rfl) ResV.nil),(zX [1] rfl (by decide)),⟨_,_,rfl,rfl,⟨_,rfl,(yP ⟨_,rfl,h17⟩)⟩,(yU ⟨_,rfl,h10⟩)⟩⟩
def zB6 (b0:Nat) (r:zI×zM):KT:=fun kk I' ah v=>
  ∃ v0 k0,ah=[.blk b0 ⟨k0⟩]/\v=tupV [v0]/\(∃ cs,v0=.agg ⟨cs⟩/\Rp.rep I' cs r.1)/\Rp.rep I' k0 r.2
mutual
def pY (r0:zM) (aa:Int) (al:Int):Option (zI×zM):=do
 let (t15,x)<-(do
   if (decide (al<2)) then
    pure (true,r0)
   else
    let (y1,y2)<-xC r0 4
    pure ((y1==0),y2)
     : Option (Bool×zM))
 if t15 then
  let (y4,y5)<-xC x 4
  if (y4==0) then
   let (y7,y8)<-yT y5 ([1,2,0,99,3]:List Int)
   pure ((zI.mk 1 y7 (zA.mk ([]:List Int) 0) (zL.mk (⟨[]⟩:Str) ([]:List zA)) ([]:List zI)),y8)
  else
   if (y4==1) then
    let (y10,y11)<-fG y5 aa
    pure ((zI.mk 2 0 y10 (zL.mk (⟨[]⟩:Str) ([]:List zA)) ([]:List zI)),y11)
   else
    let (y13,y14)<-jP y5 aa
    pure ((zI.mk 3 0 (zA.mk ([]:List Int) 0) y13 ([]:List zI)),y14)
 else
  let (y16,y17)<-yT x ([4,6,5,4]:List Int)
  let (Kids1,x2)<-mH (same aa) (same al) (same 0) ([]:List zI) (same y17)
  pure ((zI.mk y16 0 (zA.mk ([]:List Int) 0) (zL.mk (⟨[]⟩:Str) ([]:List zA)) Kids1),x2)
 partial_fixpoint
def mH (aa:Int) (al:Int) (i:Int) (Kids:List zI) (x1:zM):Option ((List zI×zM)):=do
 if (decide (i<2)) then
  let (y19,y20)<-pY (same x1) (same aa) (W (al - 1))
  let l<-app 112 Kids ([y19]:List zI)
  mH (same aa) (same al) (W (i+1)) (same l) (same y20)
 else
  pure (Kids,x1)
 partial_fixpoint
end
theorem zGX:(∀ (r0:zM) (aa:Int) (al:Int) r,pY r0 aa al=some r->∀ {I:Imm}{aw:Nat}{p c},(S4 I p r0.b c)->RT 246 [vP aw 0,vI aa,vI al] I [hB aw (cRd r0 p c)] (zB6 aw r))/\(∀ (aa:Int) (al:Int) (i:Int) (Kids:List zI) (x1:zM) o,mH aa al i Kids x1=some o->∀ {B}{I0 I:Imm}{Q}{y16:Int}{aw:Nat}{b:Nat}{b3:Nat}{bc bj aR aT bf},I0.le I->(RL I aR Kids)->(S4 I aT x1.b bf)->NG Q->NO Q->(∀ (I':Imm) (Kids1:List zI) (x2:zM) (bD:Option Addr) (br:Nat) (aS:List Value) (bt:Option Addr) (bz:Nat),o=(Kids1,x2)->I0.le I'->(RL I' aS Kids1)->(S4 I' bt x2.b bz)->T 53 B Q (.exit 1) I' [hO zI (vS bD Kids1 br) aS,hB b3 [vI y16,vI 0,z0,vI 0,vT ([]),z0,vS bD Kids1 br],hB aw (cRd x2 bt bz),hB b zExpr] [(6,vP b 0),(7,vP b3 0)])->J Tryz.prog 53 B (nav (bodyOf f246) [1,1,1,0,1,0]) Q I [hO zI (vS bc Kids bj) aR,hB b3 [vI y16,vI 0,z0,vI 0,vT ([]),z0,vS bc Kids bj],hB aw (cRd x1 aT bf),hB b zExpr] [(0,vP aw 0),(1,vI aa),(2,vI al),(6,vP b 0),(7,vP b3 0),(8,vI i)]):=by
  refine pY.mutual_partial_correctness _ _ ?_ ?_
  · intro F_spec_l3Value_l1 ih_spec_l3Value_l1 r0 aa al r N I aw p c h;refine yK func246 fun B=>?_;have H:=iS I;refine yF<|wS zExpr ?_;intro b hb;refine yD rfl<|zZ<|yB ?_;obtain ⟨o0,aD,aV⟩:=zB N;refine qV (fun I' ah m'=>∃ (t15:Bool) (x:zM) (p1:Option Addr) (c1:Nat),o0=(t15,x)/\I.le I'/\(S4 I' p1 x.b c1)/\ah=[hB b zExpr,hB aw (cRd x p1 c1)]/\m'=[(0,vP aw 0),(1,vI aa),(2,vI al),(6,vP b 0),(15,.bool t15)]) ?_ ?_
    · have H:=iS I;refine zJ<|yC 3 [] [11] rfl<|xW [11] aD ?_ ?_
      · intro hc N;exact wI [] [(15,vY)]<|yN<|zV ⟨_,_,_,_,(zC N).symm,H,h,rfl,rfl⟩
      intro hc N;refine yC 4 [] [12] rfl<|sE (zY [1,0] (ah:=[hB aw (cRd r0 p c),hB b zExpr])) ?_;obtain ⟨⟨y1,y2⟩,hy,N⟩:=zB N;refine tY (xS r0 4 _ hy h) rfl ?_;rintro aW ay v2 k2 le - ⟨v0,kk,rfl,rfl,rfl,h3⟩ -;have H:=H.trans le;obtain ⟨p2,c2,rfl,h4⟩:=yA h3;exact yI [] [15] rfl<|xR (zX [1,0] rfl (by decide))<|yN<|zV ⟨_,_,_,_,(zC N).symm,H,h4,rfl,rfl⟩
    rintro I0 ay m2 ⟨t15,x,p1,c1,heq,ae,h1,rfl,rfl⟩;subst o0;refine zH<|yE aV ?_ ?_
    · intro aH N;refine yB<|yF<|yC 1 [] [16] rfl<|sE (zY [1,0] (ah:=[hB aw (cRd x p1 c1),hB b zExpr])) ?_;obtain ⟨⟨y4,y5⟩,aA,N⟩:=zB N;refine tY (xS x 4 _ aA h1) rfl ?_;rintro aX ay v2 k2 aF - ⟨v02,kk1,rfl,rfl,rfl,h6⟩ -;obtain ⟨p3,c3,rfl,h7⟩:=yA h6;refine yD rfl<|xY<|yG [18] rfl<|zH<|yE N ?_ ?_
      · intro aZ N;refine yF<|yC 1 [] [20] rfl<|mG (rI [1,2,0,99,3]) ?_;intro b1 bG aJ h9;have h7:=h7.mono aJ;obtain ⟨⟨y7,y8⟩,aK,N⟩:=zB N;refine tY (yZ y5 ([1,2,0,99,3]:List Int) _ aK h7 h9) rfl ?_;rintro bL ay v2 k2 bd - ⟨v04,kk2,rfl,rfl,rfl,h11⟩ -;obtain ⟨p4,c4,rfl,h12⟩:=yA h11;refine yC 4 [] [23] rfl<|xJ 1 [vI 1,vI y7,z0,vI 0,vT ([]),z0,z0] rfl<|yD rfl<|xD<|zW<|zG<|zG ?_;obtain rfl:=zC N;exact xA ⟨_,_,(.cell 1 rfl rfl (by kernel_rfl) ResV.nil),(zX [0] rfl (by decide)),⟨_,_,rfl,rfl,⟨_,rfl,(wD ⟨_,_,_,rfl,(SL.nil _),(SL.nil _),(SL.nil _)⟩)⟩,(yU ⟨_,rfl,h12⟩)⟩⟩
      intro aZ N;refine yG [24] rfl<|zH<|yE N ?_ ?_
      · intro bK N;refine yF<|yC 2 [] [26,27] rfl ?_;obtain ⟨⟨y10,y11⟩,bi,N⟩:=zB N;refine tY (zHt y5 aa _ bi h7) rfl ?_;rintro bR ay v2 k2 bw - ⟨v06,kk3,rfl,rfl,⟨cs,rfl,h13⟩,h14⟩ -;obtain ⟨p5,c5,rfl,h15⟩:=yS h13;obtain ⟨p6,c6,rfl,h16⟩:=yA h14;refine yC 4 [] [29] rfl<|xJ 1 [vI 2,vI 0,vS p5 y10.Coefs c5,vI y10.Const,vT ([]),z0,z0] rfl<|yD rfl<|xD<|zW<|zG<|zG ?_;obtain rfl:=zC N;exact xA ⟨_,_,(.cell 1 rfl rfl (by kernel_rfl) ResV.nil),(zX [0] rfl (by decide)),⟨_,_,rfl,rfl,⟨_,rfl,(wD ⟨_,_,_,rfl,h15,(SL.nil _),(SL.nil _)⟩)⟩,(yU ⟨_,rfl,h16⟩)⟩⟩
      intro bK N;refine zT<|zN<|yV<|yC 2 [] [30,31] rfl ?_;obtain ⟨⟨y13,y14⟩,bu,N⟩:=zB N;refine tY (zDT y5 aa _ bu h7) rfl ?_;rintro I06 ay v2 k2 bC - ⟨v09,kk4,rfl,rfl,⟨az,rfl,h17⟩,h18⟩ -;obtain ⟨p7,c7,rfl,h19⟩:=nY h17;obtain ⟨p8,c8,rfl,h20⟩:=yA h18;refine yC 4 [] [33] rfl<|xJ 1 [vI 3,vI 0,z0,vI 0,vT y13.Array.l,vS p7 y13.Subs c7,z0] rfl<|yD rfl<|xD<|zG ?_;obtain rfl:=zC N;exact xA ⟨_,_,(.cell 1 rfl rfl (by kernel_rfl) ResV.nil),(zX [0] rfl (by decide)),⟨_,_,rfl,rfl,⟨_,rfl,(wD ⟨_,_,_,rfl,(SL.nil _),h19,(SL.nil _)⟩)⟩,(yU ⟨_,rfl,h20⟩)⟩⟩
    intro aH N;refine zT<|yV<|yC 1 [] [34] rfl<|mG (rI [4,6,5,4]) ?_;intro b2 I07 le7 h22;have h1:=h1.mono le7;refine sE (zY [1,0] (ah:=[hB aw (cRd x p1 c1),hB b zExpr])) ?_;obtain ⟨⟨y16,y17⟩,bJ,N⟩:=zB N;refine tY (yZ x ([4,6,5,4]:List Int) _ bJ h1 h22) rfl ?_;rintro I08 ay v2 k2 le8 - ⟨v012,kk5,rfl,rfl,rfl,h24⟩ -;obtain ⟨p9,c9,rfl,h25⟩:=yA h24;refine yC 4 [] [37] rfl<|wS zExpr ?_;intro b3 hb3;refine xJ 0 [vI y16,vI 0,z0,vI 0,vT ([]),z0,z0] rfl<|yD rfl<|zZ<|yG [8] rfl<|xY<|qI [(0,vP aw 0),(1,vI aa),(2,vI al),(6,vP b 0),(7,vP b3 0),(8,vI 0)]<|zAM zI fun h26=>?_;obtain ⟨aQ,aB,aM⟩:=zB N;refine ih_spec_l3Value_l1 aa al 0 ([]:List zI) y17 aQ aB iR h26 h25 (fun _ _ _ h=>h) (fun _ _ h=>h) ?_;intro bX Kids1 x2 bD br aS bt bz heq1 le12 h29 h30;subst aQ;refine zS<|yV<|rH 1 [1] [(52,vA [vI y16,vI 0,z0,vI 0,vT ([]),z0,vS bD Kids1 br])]<|xJ 3 [vI y16,vI 0,z0,vI 0,vT ([]),z0,vS bD Kids1 br] rfl<|yD rfl<|xD<|yX 0 rfl ?_;intro I013 le13 hl03;have h40:=SL.of_frozen hl03 le13 h29;have h30:=h30.mono le13;obtain rfl:=zC aM;exact xA ⟨_,_,(.cell 2 rfl rfl (by kernel_rfl) ResV.nil),(zX [1] rfl (by decide)),⟨_,_,rfl,rfl,⟨_,rfl,(wD ⟨_,_,_,rfl,(SL.nil _),(SL.nil _),h40⟩)⟩,(yU ⟨_,rfl,h30⟩)⟩⟩
  intro F_spec_l3Value F_spec_l3Value_l1 ih_spec_l3Value ih_spec_l3Value_l1 aa al i Kids x1 o N B I0 I Q y16 aw b b3 bc bj aR aT bf H h27 h28 hg ho hx;refine yO hg ho<|yB<|yG [39] rfl<|zH<|yE N ?_ ?_
  · intro bO N;refine zT<|zZ<|yH ?_;obtain ⟨⟨y19,y20⟩,hy6,N⟩:=zB N;obtain ⟨l,hy7,N⟩:=zB N;refine wT [.p (vP b3 6) [],.p (vS bc Kids bj) [0],.p (vP aw 0) [],.p (vI aa) [],.p (vI al) [],.p (vI (W (al - 1))) [],.x (fun I' v hx=>∃ p14 c14 p15 c15 p16 c16 p17 c17,v=vA (cExpr y19 p14 c14 p15 c15 p16 c16)/\hx=[hB aw (cRd y20 p17 c17)]/\(S4 I' p14 y19.Index.Coefs c14)/\(S4 I' p15 y19.Read.Subs c15)/\(S4 I' p16 y19.Kids c16)/\(S4 I' p17 y20.b c17)),.x (fun I' v hx=>∃ b4,v=vS (some ⟨b4,0,none⟩) ([y19]:List zI) 1/\hx=[]/\(SL I' (vS (some ⟨b4,0,none⟩) ([y19]:List zI) 1) ([y19]:List zI))),.x (fun I' v hx=>∃ p18 c18 bI,v=vS p18 l c18/\hx=[hO zI (vS p18 l c18) bI]/\(RL I' bI l))] [[],[(0,false)],[],[],[],[(4,false)],[(2,false),(3,false),(5,false),(11,true)],[(6,false)],[(1,false),(7,false),(12,true)]] [hB b3 [vI y16,vI 0,z0,vI 0,vT ([]),z0,vS bc Kids bj],hB b zExpr] [[hB aw (cRd x1 aT bf)],[hO zI (vS bc Kids bj) aR]] [(6,true),(8,true)] (zY [1,3,2,0]) ?_ ?_
    · refine Op<|Op<|Op<|Op<|Op<|Op<|Ox ?_<|Ox ?_<|Ox ?_<|On
      · rintro I1 hf ae _ _ ⟨rfl,rfl⟩ _ _ ⟨rfl,rfl⟩ _ _ ⟨rfl,rfl⟩ _ _ rfl;refine yW [44,45,47] rfl ?_;have H:=iS I1;have h28:=h28.mono ae;refine tY (ih_spec_l3Value x1 aa (W (al - 1)) _ hy6 h28) rfl ?_;rintro I09 ay v2 k2 le9 - ⟨v014,kk6,rfl,rfl,⟨bB,rfl,h31⟩,h32⟩ -;have H:=H.trans le9;obtain ⟨p14,c14,p15,c15,p16,c16,rfl,h33,h34,h35⟩:=tX h31;obtain ⟨p17,c17,rfl,h36⟩:=yA h32;exact yL [hB aw (cRd y20 p17 c17)] H ⟨_,_,_,_,_,_,_,_,rfl,rfl,h33,h34,h35,h36⟩
      · rintro I1 hf ae _ _ ⟨p14,c14,p15,c15,p16,c16,p17,c17,rfl,rfl,h33,h34,h35,h36⟩;refine yW [48] rfl ?_;have H:=iS I1;refine mG (rc y19 (wD ⟨_,_,_,rfl,h33,h34,h35⟩) rN) ?_;intro b4 bS le10 h38;have H:=H.trans le10;exact yL [] H ⟨_,rfl,rfl,h38⟩
      rintro I1 hf ae _ _ ⟨rfl,rfl⟩ _ _ ⟨b4,rfl,rfl,h38⟩ _ _ rfl;refine yW [43,49] rfl ?_;have h27:=iM ae h27;obtain ⟨aP,k0,k01⟩:=h38;have h38:SL I1 (vS (some ⟨b4,0,none⟩) ([y19]:List zI) 1) ([y19]:List zI):=⟨_,k0,k01⟩;exact sO 98 7 0 rfl rfl rfl h27 (.inl k0) k01 hy7 fun p18 c18 bI h39=>wK (ah:=(hO zI (vS p18 l c18) bI::hB b3 [vI y16,vI 0,z0,vI 0,vT ([]),z0,vS bc Kids bj]::hB b zExpr::hf)) rfl<|yL [hO zI (vS p18 l c18) bI] iR ⟨_,_,_,rfl,rfl,h39⟩
    rintro bY le11 _ _ ⟨p14,c14,p15,c15,p16,c16,p17,c17,rfl,rfl,h33,h34,h35,h36⟩ _ _ ⟨p18,c18,bI,rfl,rfl,h39⟩;refine yW [0,1,2,6,7,8,50] rfl ?_;have H:=H.trans le11;exact yC 10 [] [51] rfl<|xJ 2 [vI y16,vI 0,z0,vI 0,vT ([]),z0,vS p18 l c18] rfl<|yD rfl<|zN<|zH<|zJ<|yI [] [8] rfl<|yM<|kC (zX [0,2,1,3] rfl (by decide))<|nT<|ih_spec_l3Value_l1 aa al (W (i+1)) l y20 _ N H h39 h36 hg ho hx
  intro bO N;exact wL<|yN<|hx _ _ _ _ _ _ _ _ (zC N).symm H h27 h28
theorem zHE:∀ r0 aa al r,pY r0 aa al=some r->∀ {I:Imm}{aw:Nat}{p c},(S4 I p r0.b c)->RT 246 [vP aw 0,vI aa,vI al] I [hB aw (cRd r0 p c)] (zB6 aw r):=zGX.1
def zGY (b0:Nat) (r:zP×zM):KT:=fun kk I' ah v=>
  ∃ v0 k0,ah=[.blk b0 ⟨k0⟩]/\v=tupV [v0]/\(∃ cs,v0=.agg ⟨cs⟩/\Rp.rep I' cs r.1)/\Rp.rep I' k0 r.2
def dD (r0:zM) (aa:Int):Option (zP×zM):=do
 let (y1,y2)<-jP r0 aa
 let (y4,y5)<-yT y2 ([2,3,1,2]:List Int)
 let (y7,y8)<-pY y5 aa y4
 let y9<-rO (zP.mk y1 y7) aa
 if y9 then
  pure ((zP.mk y1 y7),y8)
 else
  let y10<-nU
  pure ((zP.mk (zL.mk (⟨[65]⟩:Str) ([y10]:List zA)) (zI.mk 1 1 (zA.mk ([]:List Int) 0) (zL.mk (⟨[]⟩:Str) ([]:List zA)) ([]:List zI))),y8)
theorem zHu:∀ r0 aa r,dD r0 aa=some r->∀ {I:Imm}{aw:Nat}{p c},(S4 I p r0.b c)->RT 219 [vP aw 0,vI aa] I [hB aw (cRd r0 p c)] (zGY aw r):=by
 intro r0 aa r N I aw p c h;unfold dD at N;refine yK func219 fun B=>yF<|wS [vT ([]),z0,vI 0,vI 0,z0,vI 0,vT ([]),z0,z0] ?_;intro b hb;refine yD rfl<|yV<|yC 2 [] [6,7] rfl<|sE (zY [1,0] (ah:=[hB aw (cRd r0 p c),hB b [vT ([]),z0,vI 0,vI 0,z0,vI 0,vT ([]),z0,z0]])) ?_;obtain ⟨⟨y1,y2⟩,hy,N⟩:=zB N;refine tY (zDT r0 aa _ hy h) rfl ?_;rintro I0 ay v2 k2 le - ⟨v0,kk,rfl,rfl,⟨cs,rfl,h1⟩,h2⟩ -;obtain ⟨p1,c1,rfl,h3⟩:=nY h1;obtain ⟨p2,c2,rfl,h4⟩:=yA h2;refine yC 6 [] [9,10,11] rfl<|mG (rI [2,3,1,2]) ?_;intro b1 aW ae h6;have ⟨h3,h4⟩:=m2 ae h3 h4;obtain ⟨⟨y4,y5⟩,aA,N⟩:=zB N;refine tY (yZ y2 ([2,3,1,2]:List Int) _ aA h4 h6) rfl ?_;rintro aX ay v2 k2 aF - ⟨v03,kk1,rfl,rfl,rfl,h8⟩ -;have h3:=h3.mono aF;obtain ⟨p3,c3,rfl,h9⟩:=yA h8;obtain ⟨⟨y7,y8⟩,aK,N⟩:=zB N;refine tY (zHE y5 aa y4 _ aK h9) rfl ?_;rintro bG ay v2 k2 aJ - ⟨v05,kk2,rfl,rfl,⟨az,rfl,h10⟩,h11⟩ -;have h3:=h3.mono aJ;obtain ⟨p4,c4,p5,c5,p6,c6,rfl,h12,h13,h14⟩:=tX h10;obtain ⟨p7,c7,rfl,h15⟩:=yA h11;refine yC 10 [] [15] rfl<|wS [vT ([]),z0,vI 0,vI 0,z0,vI 0,vT ([]),z0,z0] ?_;intro b2 hb2;refine xJ 0 [vT y1.Array.l,vS p1 y1.Subs c1,vI y7.Kind,vI y7.Num,vS p4 y7.Index.Coefs c4,vI y7.Index.Const,vT y7.Read.Array.l,vS p5 y7.Read.Subs c5,vS p6 y7.Kids c6] rfl<|yD rfl<|zZ<|yF<|rH 2 [0] [(16,vA [vT y1.Array.l,vS p1 y1.Subs c1,vI y7.Kind,vI y7.Num,vS p4 y7.Index.Coefs c4,vI y7.Index.Const,vT y7.Read.Array.l,vS p5 y7.Read.Subs c5,vS p6 y7.Kids c6]),(17,vI aa)]<|bE N fun y9 bi N=>vU (zAB (zP.mk y1 y7) aa _ bi h3 h12 h13 h14) ?_;intro bL bd;have ⟨h3,h12,h13,h14,h15⟩:=m5 bd h3 h12 h13 h14 h15;refine yD rfl<|zH<|yE N ?_ ?_
 · intro hc N;refine yF<|rH 1 [0] [(19,vA [vT y1.Array.l,vS p1 y1.Subs c1,vI y7.Kind,vI y7.Num,vS p4 y7.Index.Coefs c4,vI y7.Index.Const,vT y7.Read.Array.l,vS p5 y7.Read.Subs c5,vS p6 y7.Kids c6])]<|xJ 2 [vT y1.Array.l,vS p1 y1.Subs c1,vI y7.Kind,vI y7.Num,vS p4 y7.Index.Coefs c4,vI y7.Index.Const,vT y7.Read.Array.l,vS p5 y7.Read.Subs c5,vS p6 y7.Kids c6] rfl<|yD rfl<|xD<|zG ?_;obtain rfl:=zC N;exact xA ⟨_,_,(.cell 2 rfl rfl (by kernel_rfl) ResV.nil),(zX [1] rfl (by decide)),⟨_,_,rfl,rfl,⟨_,rfl,(vD ⟨_,_,_,_,rfl,h3,h12,h13,h14⟩)⟩,(yU ⟨_,rfl,h15⟩)⟩⟩
 intro hc N;refine zT<|yV<|bE N fun y10 bu N=>xM (jX  _ bu ) ?_;rintro bR ay v2 k2 bw - ⟨p8,c8,aR,rfl,rfl,h17⟩ -;have h15:=h15.mono bw;refine xI 0 rfl ?_;intro I06 bC hl01;have h18:=SL.of_frozen hl01 bC h17;have h15:=h15.mono bC;refine uO (cAff y10 p8 c8) zA ?_;intro b3 hb3;have h19:RL I06 (cAff y10 p8 c8) ([y10]:List zA):=⟨(cAff y10 p8 c8),_,rfl,rfl,(yP ⟨_,rfl,h18⟩),rfl⟩;refine yC 5 [] [24] rfl<|xJ 3 [vT ([65]),vS (some ⟨b3,0,none⟩) ([y10]:List zA) 1,vI 1,vI 1,z0,vI 0,vT ([]),z0,z0] rfl<|yD rfl<|xD<|yX 0 rfl ?_;intro I07 le7 hl02;have h20:=SL.of_frozen hl02 le7 h19;have h15:=h15.mono le7;obtain rfl:=zC N;exact xA ⟨_,_,(.cell 2 rfl rfl (by kernel_rfl) ResV.nil),(zX [1] rfl (by decide)),⟨_,_,rfl,rfl,⟨_,rfl,(vD ⟨_,_,_,_,rfl,h20,(SL.nil _),(SL.nil _),(SL.nil _)⟩)⟩,(yU ⟨_,rfl,h15⟩)⟩⟩
def zB7 (r:(List zE)×Bool):KT:=fun kk I' ah v=>
  ∃ v0 v1,ah=[]/\v=tupV [v0,v1]/\SL I' v0 r.1/\v1=.bool r.2
def pZ (sizes:(List Int)) (out:List zE) (i:Int):Option (Out (List zE) ((List zE)×Bool)):=do
 if (decide (i<(sizes.length:Int))) then
  let t28<-(do
    let x<-idx sizes i
    if (decide (x<0)) then
     pure true
    else
     let x1<-idx sizes i
     pure (decide (x1>99))
      : Option Bool)
  if t28 then
   pure (.ret (([]:List zE),false))
  else
   let y<-nU
   let x2<-idx sizes i
   let y1<-vE x2
   let au<-app 48 out ([(zE.mk ([y]:List zA) ([y1]:List zA))]:List zE)
   pZ sizes au (W (i+1))
 else
  pure (.done out)
 partial_fixpoint
theorem zE8 (sizes:(List Int)):∀ (out:List zE) (i:Int) (o:Out (List zE) ((List zE)×Bool)),pZ sizes out i=some o->∀ {B}{I0 I:Imm}{Q p c p1 c1 cs},I0.le I->(S4 I p sizes c)->(RL I cs out)->NG Q->NO Q->(∀ (I':Imm) (aj:List zE) (p2:Option Addr) (c2:Nat) (az:List Value),o=(.done aj)->I0.le I'->(RL I' az aj)->T 43 B Q (.exit 0) I' [hO zE (vS p2 aj c2) az] [(4,vS p2 aj c2)])->(∀ r I' ah m',o=(.ret r)->I0.le I'->RS Tryz.prog f220 B (zB7  r) I' ah m'->T 43 B Q .ret I' ah m')->J Tryz.prog 43 B (nav (bodyOf f220) [1,1,1,0,1,0]) Q I [hO zE (vS p1 out c1) cs] [(0,vS p sizes c),(4,vS p1 out c1),(5,vI i)]:=by
 refine pZ.partial_correctness sizes _ fun aI ih out i o N B I0 I Q p c p1 c1 cs H h h3 hg ho hx hr=>yO hg ho<|yB<|yG [14] rfl<|zH<|yE N ?_ ?_
 · intro aH N;refine zT<|zZ<|yH<|yB<|yB ?_;refine wR N [hO zE (vS p1 out c1) cs] (fun t28=>[(0,vS p sizes c),(4,vS p1 out c1),(5,vI i),(28,.bool t28)]) (fun o0 aD=>?_) ?_
   · have H:=iS I;refine zJ<|yC 2 [] [17,18] rfl ?_;obtain ⟨x,hy,N⟩:=zB aD;refine xL rfl rfl h hy ?_;intro ad aP aq am;obtain rfl:=am;refine xE 0 aq [vI x] (vI x) rfl<|yC 6 [] [22] rfl<|xW [22] N ?_ ?_
     · intro aZ N;exact wI [] [(28,vY)]<|yN<|zV (ct N H)
     intro aZ N;refine yC 8 [] [23,24] rfl<|bE N fun x1 aA N=>xL rfl rfl h aA ?_;intro ad1 bv av ax;obtain rfl:=ax;exact xE 0 av [vI x1] (vI x1) rfl<|yI [] [28] rfl<|yN<|zV (ct N H)
   intro t28 aW ae aV;have ⟨h,h3,H⟩:=m3 ae h h3 H;refine zH<|yE aV ?_ ?_
   · intro bK N;refine yF<|uO [] zE ?_;intro b1 hb1;have h5:RL aW [] ([]:List zE):=rfl;refine yI [] [2,3] rfl<|xD<|zG<|zW<|zG<|zG<|yX 0 rfl ?_;intro aX aF hl01;have h6:=SL.of_frozen hl01 aF h5;have H:=H.trans aF;exact hr _ _ _ _ (zC N).symm H ⟨_,_,(.tmp rfl (.tmp rfl ResV.nil)),zQ,⟨_,_,rfl,rfl,h6,rfl⟩⟩
   intro bK N;refine zT<|zH ?_;obtain ⟨y,aK,N⟩:=zB N;obtain ⟨x2,bi,N⟩:=zB N;obtain ⟨y1,bu,N⟩:=zB N;obtain ⟨au,bJ,N⟩:=zB N;refine wT [.p (vS p1 out c1) [],.x (fun I' v hx=>∃ p3 c3 aR,v=vA (cAff y p3 c3)/\hx=[hO Int (vS p3 y.Coefs c3) aR]/\(RL I' aR y.Coefs)),.x (fun I' v hx=>∃ b2,v=vS (some ⟨b2,0,none⟩) ([y]:List zA) 1/\hx=[]/\(SL I' (vS (some ⟨b2,0,none⟩) ([y]:List zA) 1) ([y]:List zA))),.p (vS p sizes c) [],.p (vI i) [],.x (fun I' v hx=>∃ ad2,v=.pointer (some ad2)/\hx=[]/\(At I' ad2 [vI x2])),.q (vI x2),.x (fun I' v hx=>∃ p4 c4 aS,v=vA (cAff y1 p4 c4)/\hx=[hO Int (vS p4 y1.Coefs c4) aS]/\(RL I' aS y1.Coefs)),.x (fun I' v hx=>∃ b3,v=vS (some ⟨b3,0,none⟩) ([y1]:List zA) 1/\hx=[]/\(SL I' (vS (some ⟨b3,0,none⟩) ([y1]:List zA) 1) ([y1]:List zA))),.x (fun I' v hx=>∃ b21 b31,v=vA [vS (some ⟨b21,0,none⟩) ([y]:List zA) 1,vS (some ⟨b31,0,none⟩) ([y1]:List zA) 1]/\hx=[]/\(SL I' (vS (some ⟨b21,0,none⟩) ([y]:List zA) 1) ([y]:List zA))/\(SL I' (vS (some ⟨b31,0,none⟩) ([y1]:List zA) 1) ([y1]:List zA))),.x (fun I' v hx=>∃ b4,v=vS (some ⟨b4,0,none⟩) ([(zE.mk ([y]:List zA) ([y1]:List zA))]:List zE) 1/\hx=[]/\(SL I' (vS (some ⟨b4,0,none⟩) ([(zE.mk ([y]:List zA) ([y1]:List zA))]:List zE) 1) ([(zE.mk ([y]:List zA) ([y1]:List zA))]:List zE))),.x (fun I' v hx=>∃ p5 c5 bB,v=vS p5 au c5/\hx=[hO zE (vS p5 au c5) bB]/\(RL I' bB au))] [[],[],[(1,true)],[],[],[(3,false),(4,false)],[(5,false)],[(6,false)],[(7,true)],[(2,false),(8,false)],[(9,false)],[(0,false),(10,false),(13,true)]] [] [[hO zE (vS p1 out c1) cs]] [(11,true)] (zY [0]) ?_ ?_
   · refine Op<|Ox ?_<|Ox ?_<|Op<|Op<|Ox ?_<|Oq ?_<|Ox ?_<|Ox ?_<|Ox ?_<|Ox ?_<|Ox ?_<|On
     · intro I1 hf ae;refine I_h [] ?_;have H:=iS I1;refine xM (jX  _ aK ) ?_;rintro bG ay v2 k2 aJ - ⟨p3,c3,aR,rfl,rfl,h7⟩ -;have H:=H.trans aJ;exact yL [hO Int (vS p3 y.Coefs c3) aR] H ⟨_,_,_,rfl,rfl,h7⟩
     · rintro I1 hf ae _ _ ⟨p3,c3,aR,rfl,rfl,h7⟩;refine yW [31] rfl ?_;have H:=iS I1;refine xI 0 rfl ?_;intro bL bd hl02;have h8:=SL.of_frozen hl02 bd h7;have H:=H.trans bd;refine mG (rc y (yP ⟨_,rfl,h8⟩) rN) ?_;intro b2 bR bw h10;have H:=H.trans bw;exact yL [] H ⟨_,rfl,rfl,h10⟩
     · intro I1 hf ae;refine yW [33,34] rfl ?_;have h:=h.mono ae;refine xL rfl rfl h bi ?_;intro ad2 bP bb bk;obtain rfl:=bk;exact yL [] iR ⟨_,rfl,rfl,bb⟩
     · rintro I1 hf ae _ _ ⟨ad2,rfl,rfl,bb⟩;exact yW [35] rfl<|xE 0 bb [vI x2] (vI x2) rfl<|xF iR
     · intro I1 hf ae;refine yW [36] rfl ?_;have H:=iS I1;refine xM (uX x2 _ bu ) ?_;rintro I06 ay v2 k2 bC - ⟨p4,c4,aS,rfl,rfl,h11⟩ -;have H:=H.trans bC;exact yL [hO Int (vS p4 y1.Coefs c4) aS] H ⟨_,_,_,rfl,rfl,h11⟩
     · rintro I1 hf ae _ _ ⟨p4,c4,aS,rfl,rfl,h11⟩;refine yW [37] rfl ?_;have H:=iS I1;refine xI 0 rfl ?_;intro I07 le7 hl04;have h12:=SL.of_frozen hl04 le7 h11;have H:=H.trans le7;refine mG (rc y1 (yP ⟨_,rfl,h12⟩) rN) ?_;intro b3 I08 le8 h14;have H:=H.trans le8;exact yL [] H ⟨_,rfl,rfl,h14⟩
     · rintro I1 hf ae _ _ ⟨b2,rfl,rfl,h10⟩ _ _ ⟨b3,rfl,rfl,h14⟩;exact yW [32,38] rfl<|mF 10 [(39,vA [vS (some ⟨b2,0,none⟩) ([y]:List zA) 1,vS (some ⟨b3,0,none⟩) ([y1]:List zA) 1])]<|yL [] iR ⟨_,_,rfl,rfl,h10,h14⟩
     · rintro I1 hf ae _ _ ⟨b21,b31,rfl,rfl,h101,h141⟩;refine yW [39] rfl ?_;have H:=iS I1;refine mG (rc (zE.mk ([y]:List zA) ([y1]:List zA)) (qL ⟨_,_,rfl,h101,h141⟩) rN) ?_;intro b4 I09 le9 h16;have H:=H.trans le9;exact yL [] H ⟨_,rfl,rfl,h16⟩
     rintro I1 hf ae _ _ ⟨rfl,rfl⟩ _ _ ⟨b4,rfl,rfl,h16⟩ _ _ rfl;refine yW [30,40] rfl ?_;have h3:=iM ae h3;obtain ⟨ccs3,k0,k01⟩:=h16;have h16:SL I1 (vS (some ⟨b4,0,none⟩) ([(zE.mk ([y]:List zA) ([y1]:List zA))]:List zE) 1) ([(zE.mk ([y]:List zA) ([y1]:List zA))]:List zE):=⟨_,k0,k01⟩;exact sO 141 2 0 rfl rfl rfl h3 (.inl k0) k01 bJ fun p5 c5 bB h17=>wK (ah:=(hO zE (vS p5 au c5) bB::hf)) rfl<|yL [hO zE (vS p5 au c5) bB] iR ⟨_,_,_,rfl,rfl,h17⟩
   rintro bS le10 _ _ ⟨p5,c5,bB,rfl,rfl,h17⟩;refine yW [0,5,41] rfl ?_;have ⟨h,H⟩:=m2 le10 h H;exact yI [] [4] rfl<|zN<|zH<|zJ<|yI [] [5] rfl<|yM<|nT<|ih au (W (i+1)) _ N H h h17 hg ho hx hr
 intro aH N;exact wL<|yN<|hx _ _ _ _ _ (zC N).symm H h3
def eE (sizes:(List Int)):Option ((List zE)×Bool):=do
 if (decide ((sizes.length:Int)>4)) then
  pure (([]:List zE),false)
 else
  match<-pZ sizes ([]:List zE) 0 with
  | .ret r0=>pure r0
  | .done aj =>
   pure (aj,true)
theorem zHF:∀ sizes r,eE sizes=some r->∀ {I:Imm}{p c},(S4 I p sizes c)->RT 220 [vS p sizes c] I [] (zB7  r):=by
 intro sizes r N I p c h;unfold eE at N;refine yK func220 fun B=>wQ []<|yV<|uO [] zE ?_;intro b hb;have h1:RL I [] ([]:List zE):=rfl;refine yI [] [4] rfl<|zZ<|yG [9] rfl<|zH<|yE N ?_ ?_
 · intro hc N;refine yG [2,3] rfl<|xD<|zG<|yX 0 rfl ?_;intro I0 le hl0;have h2:=SL.of_frozen hl0 le h1;obtain rfl:=zC N;exact xA ⟨_,_,(.tmp rfl (.tmp rfl ResV.nil)),zQ,⟨_,_,rfl,rfl,h2,rfl⟩⟩
 intro hc N;refine zT<|zZ<|yG [5] rfl<|xY<|qI [(0,vS p sizes c),(4,vS (some ⟨b,0,none⟩) ([]:List zE) 0),(5,vI 0)] ?_;obtain ⟨aQ,aB,aM⟩:=zB N;refine zE8 sizes ([]:List zE) 0 aQ aB iR h h1 (fun _ _ _ h=>h) (fun _ _ h=>h) ?_ ?_
 · intro bY aj p2 c2 az heq1 le11 h4;subst aQ;refine zS<|wP [2,3] rfl<|xD<|yX 0 rfl ?_;intro bX le12 hl07;have h18:=SL.of_frozen hl07 le12 h4;obtain rfl:=zC aM;exact xA ⟨_,_,(.tmp rfl (.tmp rfl ResV.nil)),zQ,⟨_,_,rfl,rfl,h18,rfl⟩⟩
 intro r0 I9 hs9 m9 aY le9 ba;subst aY;refine zW<|zG ?_;obtain rfl:=zC aM;exact xA ba
end Go.LN
