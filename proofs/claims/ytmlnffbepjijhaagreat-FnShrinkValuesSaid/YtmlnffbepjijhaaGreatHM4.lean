/- Helper of the proof (see the last text). -/
import Derived.Test.YtmlnffbepjijhaaGreatHM3
set_option linter.unusedVariables false
set_option linter.unusedSimpArgs false
namespace Go.LN
open Go.Proofs Go.Proofs.Tryz
set_option maxRecDepth 20000
def sI (list:(List zE)) (part:zI) (y1:(List (List Int))) (i:Int) (k0:Int):Option (Out Unit (Int×Bool)):=do
 if (decide (k0<(y1.length:Int))) then
  let x1<-idx part.Body i;let x2<-idx y1 k0;let (y5,y6,y7)<-jU list x1 x2;let t80<-(do
    if (!y7) then pure true
    else
     let x3<-idx y1 k0;let y8<-jV x3;pure (!y8)
      : Option Bool)
  if t80 then pure (.ret (0,false))
  else sI list part y1 i (W (k0+1))
 else pure (.done ())
 partial_fixpoint
theorem zGL (list:(List zE)) (part:zI) (y1:(List (List Int))) (i:Int):∀ (k0:Int) (o:Out Unit (Int×Bool)),sI list part y1 i k0=some o->∀ {B}{I0 I:Imm}{Q p c p1 c1 p2 c2}{b}{p3 c3},I0.le I->(S4 I p list c)->(S4 I p3 y1 c3)->(S4 I p1 part.Nest c1)->(S4 I p2 part.Body c2)->NG Q->NO Q->(∀ I',o=(.done ())->I0.le I'->T 87 B Q (.exit 2) I' [hB b (cPart part p1 c1 p2 c2)] [(0,vS p list c),(3,vP b 0),(6,vS p3 y1 c3),(8,vI i)])->(∀ r I' af m',o=(.ret r)->I0.le I'->RS Tryz.prog f69 B (fT  r) I' af m'->T 87 B Q .ret I' af m')->J Tryz.prog 87 B (nav (bodyOf f69) [1,1,1,0,1,0,0,1,0,0,1,1,0]) Q I [hB b (cPart part p1 c1 p2 c2)] [(0,vS p list c),(3,vP b 0),(6,vS p3 y1 c3),(8,vI i),(9,vI k0)]:=by
 refine sI.partial_correctness list part y1 i _ fun aE ih k0 o N B I0 I Q p c p1 c1 p2 c2 b p3 c3 H h h3 h1 h2 hg ho hx hr=>yQ hg ho<|yA<|yH [53] rfl<|zK<|yG N ?_ ?_
 · intro hc5 N;refine zS<|zZ<|yF<|yA ?_;obtain ⟨x1,bc,N⟩:=zB N;obtain ⟨x2,bu,N⟩:=zB N;obtain ⟨⟨y5,y6,y7⟩,bz,N⟩:=zB N;refine wO [.p (vS p list c) [],.p (vP b 1) [],.p (vS p2 part.Body c2) [0],.p (vI i) [],.x (ePStmt x1),.x (eVStmt x1),.p (vS p3 y1 c3) [],.p (vI k0) [],.x (fun I' v hx=>∃ ad2 br bd,v=.pointer (some ad2)/\hx=[]/\(At I' ad2 [vS br x2 bd])/\(S4 I' br x2 bd)),.x (eS x2),.x (fun I' v hx=>∃ bh bj,v=.tuple ⟨[vS bh y5 bj,vI y6,.bool y7]⟩/\hx=[]/\(S4 I' bh y5 bj)),.x (fun I' v hx=>∃ p131 c131,v=.tuple ⟨[vS p131 y5 c131,vI y6,.bool y7]⟩/\hx=[]/\(S4 I' p131 y5 c131)),.x (eS y5),.q (vI y6),.q (.bool y7),.x (eS y5),.p (vI y6) []] [[],[],[(1,false)],[],[(2,false),(3,false)],[(4,false)],[],[],[(6,false),(7,false)],[(8,false)],[(0,false),(5,false),(9,false)],[(10,false)],[(11,false)],[(11,false)],[(11,false)],[(12,false)],[(13,false)]] [hB b (cPart part p1 c1 p2 c2)] [] [(14,false)] (zY [0]) ?_ ?_
   · refine O4<|Ox ?_<|Ox ?_<|O2<|Ox ?_<|Ox ?_<|Ox ?_<|Ox ?_<|Ox ?_<|Oq ?_<|Oq ?_<|Ox ?_<|Op<|On
     · intro I1 hf aa;refine yX [59,60] rfl ?_;have h2:=h2.mono aa;refine xR rfl rfl h2 bc ?_;intro ad1 bm au ax;obtain ⟨p8,c8,p9,c9,aQ,aM,aJ,aW,rfl,h10,h11,h12,h13⟩:=wV ax;exact yL [] iR ⟨_,_,_,_,_,_,_,_,_,rfl,rfl,au,h10,h11,h12,h13⟩
     · rintro I1 hf aa _ _ ⟨ad1,p8,c8,p9,c9,aQ,aM,aJ,aW,rfl,rfl,au,h10,h11,h12,h13⟩;exact yX [61] rfl<|xH 0 au (cStmt x1 p8 c8 p9 c9 aQ aM aJ aW) (vA (cStmt x1 p8 c8 p9 c9 aQ aM aJ aW)) rfl<|yL [] iR ⟨_,_,_,_,_,_,_,_,rfl,rfl,h10,h11,h12,h13⟩
     · intro I1 hf aa;refine yX [63,64] rfl ?_;have h3:=h3.mono aa;refine xR rfl rfl h3 bu ?_;intro ad2 bK bk bq;obtain ⟨v011,rfl,h14⟩:=bq;obtain ⟨br,bd,rfl⟩:=h14.form;exact yL [] iR ⟨_,_,_,rfl,rfl,bk,h14⟩
     · rintro I1 hf aa _ _ ⟨ad2,br,bd,rfl,rfl,bk,h14⟩;exact yX [65] rfl<|xH 0 bk [vS br x2 bd] (vS br x2 bd) rfl<|yL [] iR ⟨_,_,rfl,rfl,h14⟩
     · rintro I1 hf aa _ _ ⟨rfl,rfl⟩ _ _ ⟨p81,c81,p91,c91,p101,c101,p111,c111,rfl,rfl,h101,h111,h121,h131⟩ _ _ ⟨p121,c121,rfl,rfl,h141⟩;refine yX [57,62,66] rfl ?_;have H:=iS I1;have h:=h.mono aa;refine xE (zHd list x1 x2 _ bz h h101 h111 h121 h131 h141) ?_;rintro bD aw v2 k2 aX - ⟨v012,v013,v014,rfl,rfl,h15,rfl,rfl⟩ -;have H:=H.trans aX;obtain ⟨bh,bj,rfl⟩:=h15.form;exact yL [] H ⟨_,_,rfl,rfl,h15⟩
     · rintro I1 hf aa _ _ ⟨bh,bj,rfl,rfl,h15⟩;exact yX [67] rfl<|pE 12 [(56,.tuple ⟨[vS bh y5 bj,vI y6,.bool y7]⟩)]<|yL [] iR ⟨_,_,rfl,rfl,h15⟩
     · rintro I1 hf aa _ _ ⟨p131,c131,rfl,rfl,h151⟩;exact yX [56] rfl<|pE 13 [(68,vS p131 y5 c131)]<|yL [] iR ⟨_,_,rfl,rfl,h151⟩
     · rintro I1 hf aa _ _ ⟨p131,c131,rfl,rfl,h151⟩;exact yX [56] rfl<|pE 14 [(69,vI y6)]<|xD iR
     · rintro I1 hf aa _ _ ⟨p131,c131,rfl,rfl,h151⟩;exact yX [56] rfl<|pE 15 [(70,.bool y7)]<|xD iR
     rintro I1 hf aa _ _ ⟨p1311,c1311,rfl,rfl,h1511⟩;exact yX [68] rfl<|pE 16 [(10,vS p1311 y5 c1311)]<|yL [] iR ⟨_,_,rfl,rfl,h1511⟩
   intro bI bf;refine yX [0,3,6,8,9,70] rfl ?_;have ⟨h,h3,h1,h2,H⟩:=m5 bf h h3 h1 h2 H;refine yK [] [12] rfl<|zK<|yA ?_;refine wZ N [hB b (cPart part p1 c1 p2 c2)] (fun t80=>[(0,vS p list c),(3,vP b 0),(6,vS p3 y1 c3),(8,vI i),(9,vI k0),(80,.bool t80)]) (fun aN aC=>?_) ?_
   · have H:=iS bI;refine zM<|yE 3 [] [73] rfl<|wL [73] aC ?_ ?_
     · intro hc6 N;exact wR [] [(80,vY)]<|yU<|zU (ct N H)
     intro hc6 N;refine yE 5 [] [74,75] rfl<|bE N fun x3 hy6 N=>xR rfl rfl h3 hy6 ?_;intro ad3 ccs3 hat3 bB;obtain ⟨v015,rfl,h18⟩:=bB;obtain ⟨p14,c14,rfl⟩:=h18.form;refine xH 0 hat3 [vS p14 x3 c14] (vS p14 x3 c14) rfl<|bE N fun y8 hy7 N=>tH (zHe x3 _ hy7 h18) ?_;intro I07 bt;have H:=H.trans bt;exact yK [] [80] rfl<|yU<|zU (ct N H)
   intro t80 I06 le7 hMc1;have ⟨h,h3,h1,h2,H⟩:=m5 le7 h h3 h1 h2 H;refine zK<|yG hMc1 ?_ ?_
   · intro hc7 N;exact yH [4,5] rfl<|xF<|zV<|zJ<|zJ<|hr _ _ _ _ (zD N).symm H ⟨_,_,(resU rfl rfl),zP,⟨_,_,rfl,rfl,rfl,rfl⟩⟩
   intro hc7 N;exact zS<|zO<|zK<|zM<|yK [] [9] rfl<|yP<|oT<|ih (W (k0+1)) _ N H h h3 h1 h2 hg ho hx hr
 intro hc5 N;exact wP<|yU<|hx _  (zD N).symm H
def sJ (list:(List zE)) (part:zI) (y1:(List (List Int))) (i:Int):Option (Out Unit (Int×Bool)):=do
 if (decide (i<(part.Body.length:Int))) then
  let x<-idx part.Body i;let y3<-qW x (part.Nest.length:Int);if (!y3) then pure (.ret (0,false))
  else
   match<-sI list part y1 i 0 with
   | .ret r0=>pure (.ret r0)
   | .done _ =>
    sJ list part y1 (W (i+1))
 else pure (.done ())
 partial_fixpoint
theorem zGM (list:(List zE)) (part:zI) (y1:(List (List Int))):∀ (i:Int) (o:Out Unit (Int×Bool)),sJ list part y1 i=some o->∀ {B}{I0 I:Imm}{Q p c p1 c1 p2 c2}{b}{p3 c3},I0.le I->(S4 I p list c)->(S4 I p3 y1 c3)->(S4 I p1 part.Nest c1)->(S4 I p2 part.Body c2)->NG Q->NO Q->(∀ I',o=(.done ())->I0.le I'->T 87 B Q (.exit 0) I' [hB b (cPart part p1 c1 p2 c2)] [(3,vP b 0),(6,vS p3 y1 c3)])->(∀ r I' af m',o=(.ret r)->I0.le I'->RS Tryz.prog f69 B (fT  r) I' af m'->T 87 B Q .ret I' af m')->J Tryz.prog 87 B (nav (bodyOf f69) [1,1,1,0,1,0]) Q I [hB b (cPart part p1 c1 p2 c2)] [(0,vS p list c),(3,vP b 0),(6,vS p3 y1 c3),(8,vI i)]:=by
 refine sJ.partial_correctness list part y1 _ fun aE ih i o N B I0 I Q p c p1 c1 p2 c2 b p3 c3 H h h3 h1 h2 hg ho hx hr=>yQ hg ho<|yA<|yB<|yK [0] [37] rfl<|zK<|yG N ?_ ?_
 · intro bC N;refine zS<|zZ<|yF<|yA<|yA ?_;obtain ⟨x,ay,N⟩:=zB N;obtain ⟨y3,aG,N⟩:=zB N;refine wO [.p (vP b 1) [],.p (vS p2 part.Body c2) [0],.p (vI i) [],.x (ePStmt x),.x (eVStmt x),.p (vP b 0) [],.p (vS p1 part.Nest c1) [0],.p (vI (part.Nest.length:Int)) [],.q (.bool y3),.p (.bool (!y3)) []] [[],[(0,false)],[],[(1,false),(2,false)],[(3,false)],[],[(5,false)],[(6,false)],[(4,false),(7,false)],[(8,false)]] [hB b (cPart part p1 c1 p2 c2)] [] [(9,false)] (zY [0]) ?_ ?_
   · refine O3<|Ox ?_<|Ox ?_<|O3<|Oq ?_<|Op<|On
     · intro I1 hf aa;refine yX [41,42] rfl ?_;have h2:=h2.mono aa;refine xR rfl rfl h2 ay ?_;intro ad aL al aj;obtain ⟨p4,c4,p5,c5,p6,c6,p7,c7,rfl,h5,h6,h7,h8⟩:=wV aj;exact yL [] iR ⟨_,_,_,_,_,_,_,_,_,rfl,rfl,al,h5,h6,h7,h8⟩
     · rintro I1 hf aa _ _ ⟨ad,p4,c4,p5,c5,p6,c6,p7,c7,rfl,rfl,al,h5,h6,h7,h8⟩;exact yX [43] rfl<|xH 0 al (cStmt x p4 c4 p5 c5 p6 c6 p7 c7) (vA (cStmt x p4 c4 p5 c5 p6 c6 p7 c7)) rfl<|yL [] iR ⟨_,_,_,_,_,_,_,_,rfl,rfl,h5,h6,h7,h8⟩
     rintro I1 hf aa _ _ ⟨p41,c41,p51,c51,p61,c61,p71,c71,rfl,rfl,h51,h61,h71,h81⟩;refine yX [44,47] rfl ?_;have H:=iS I1;refine tH (zAg x (part.Nest.length:Int) _ aG h51 h61 h71 h81) ?_;intro aV aA;have H:=H.trans aA;exact xD H
   intro bx aK;refine yX [0,3,6,8,49] rfl ?_;have ⟨h,h3,h1,h2,H⟩:=m5 aK h h3 h1 h2 H;refine zX rfl<|zK<|yG N ?_ ?_
   · intro bJ N;exact yH [4,5] rfl<|xF<|zJ<|zV<|zJ<|zJ<|hr _ _ _ _ (zD N).symm H ⟨_,_,(resU rfl rfl),zP,⟨_,_,rfl,rfl,rfl,rfl⟩⟩
   intro bJ N;refine zS<|vW [9] rfl<|wI<|qR [(0,vS p list c),(3,vP b 0),(6,vS p3 y1 c3),(8,vI i),(9,vI 0)] ?_;obtain ⟨o02,ho02,aF⟩:=zB N;refine zGL list part y1 i 0 o02 ho02 iR h h3 h1 h2 (fun _ _ _ h=>hg _ _ _ h) (fun _ _ h=>ho _ _ h) ?_ ?_
   · intro I08  heq2 le8;subst o02;have ⟨h,h3,h1,h2,H⟩:=m5 le8 h h3 h1 h2 H;exact zR<|zO<|zK<|zM<|yK [] [8] rfl<|yP<|oT<|ih (W (i+1)) _ aF H h h3 h1 h2 hg ho hx hr
   intro r0 I9 hs9 m9 aS le9 aU;subst aS;exact zV<|zV<|zJ<|zJ<|hr _ _ _ _ (zD aF).symm (H.trans le9) aU
 intro bC N;exact wP<|yU<|hx _  (zD N).symm H
def kQ (list:(List zE)) (part:zI):Option (Int×Bool):=do
 let (y1,y2)<-nE part.Nest;let t32<-(do
   if (!y2) then pure true
   else
    if (decide ((part.Body.length:Int)<1)) then pure true
    else
     pure (decide ((part.Body.length:Int)>4))
     : Option Bool)
 if t32 then pure (0,false)
 else
  match<-sJ list part y1 0 with
  | .ret r0=>pure r0
  | .done _ =>
   pure ((W ((y1.length:Int)*(part.Body.length:Int))),true)
theorem zBc:∀ list part r,kQ list part=some r->∀ {I:Imm}{p c p1 c1 p2 c2},(S4 I p list c)->(S4 I p1 part.Nest c1)->(S4 I p2 part.Body c2)->RT 69 [vS p list c,vA (cPart part p1 c1 p2 c2)] I [] (fT  r):=by
 intro list part r N I p c p1 c1 p2 c2 h h1 h2;unfold kQ at N;refine yI func69 fun B=>?_;have H:=iS I;refine yB<|vJ (cPart part p1 c1 p2 c2) ?_;intro b hb;refine wR [] []<|yW<|yE 2 [0] [15] rfl ?_;obtain ⟨⟨y1,y2⟩,hy,N⟩:=zB N;refine xE (zFN part.Nest _ hy h1) ?_;rintro I0 aw v2 k2 le - ⟨v0,v01,rfl,rfl,h3,rfl⟩ -;have ⟨h,h1,h2,H⟩:=m4 le h h1 h2 H;obtain ⟨p3,c3,rfl⟩:=h3.form;refine yK [] [6,7] rfl<|zZ<|yA ?_;refine wZ N [hB b (cPart part p1 c1 p2 c2)] (fun t32=>[(0,vS p list c),(3,vP b 0),(6,vS p3 y1 c3),(32,.bool t32)]) (fun o0 az=>?_) ?_
 · have H:=iS I0;refine zM<|yE 3 [] [21] rfl<|wL [21] az ?_ ?_
   · intro hc N;exact wR [] [(32,vY)]<|yU<|zU (ct N H)
   intro hc N;refine yE 9 [0] [27] rfl<|wL [27] N ?_ ?_
   · intro aH N;exact wR [] [(32,vY)]<|yU<|zU (ct N H)
   intro aH N;exact yK [0] [32] rfl<|yU<|zU (ct N H)
 intro t32 aO aa aT;have ⟨h,h3,h1,h2⟩:=m4 aa h h3 h1 h2;refine zK<|yG aT ?_ ?_
 · intro aY N;refine yH [4,5] rfl<|xF<|zJ ?_;exact xO N (resU rfl rfl) zP ⟨_,_,rfl,rfl,rfl,rfl⟩
 intro aY N;refine zS<|zZ<|yH [8] rfl<|wI<|qR [(0,vS p list c),(3,vP b 0),(6,vS p3 y1 c3),(8,vI 0)] ?_;obtain ⟨o03,ho03,hMl1⟩:=zB N;refine zGM list part y1 0 o03 ho03 iR h h3 h1 h2 nG nO ?_ ?_
 · intro I09  heq3 le9;subst o03;refine zR<|yW<|yK [0] [4,5] rfl<|zK<|xA ?_;exact xO hMl1 (resU rfl rfl) zP ⟨_,_,rfl,rfl,rfl,rfl⟩
 intro r0 I9 hs9 m9 aS le9 aU;subst aS;refine zV<|zJ ?_;obtain rfl:=zD hMl1;exact fO aU
def vD (p:zC) (total:Int) (i:Int):Option (Out Int (Bool)):=do
 if (decide (i<(p.Parts.length:Int))) then
  let x<-idx p.Parts i;let (y2,y3)<-kQ p.Arrays x;if (!y3) then pure (.ret false)
  else vD p (W (total+y2)) (W (i+1))
 else pure (.done total)
 partial_fixpoint
theorem zCe (p:zC):∀ (total:Int) (i:Int) (o:Out Int (Bool)),vD p total i=some o->∀ {B}{I0 I:Imm}{Q p1 c p2 c1}{b},I0.le I->(S4 I p1 p.Arrays c)->(S4 I p2 p.Parts c1)->NG Q->NO Q->(∀ I' total1,o=(.done total1)->I0.le I'->T 42 B Q (.exit 0) I' [] [(3,vI total1)])->(∀ r I' af m',o=(.ret r)->I0.le I'->RS Tryz.prog f33 B (zT  r) I' af m'->T 42 B Q .ret I' af m')->J Tryz.prog 42 B (nav (bodyOf f33) [1,1,1,0,1,0]) Q I [hB b (cProg p p1 c p2 c1)] [(1,vP b 0),(3,vI total),(4,vI i)]:=by
 refine vD.partial_correctness p _ fun aE ih total i o N B I0 I Q p1 c p2 c1 b H h h1 hg ho hx hr=>yQ hg ho<|yA<|yB<|yK [0] [21] rfl<|zK<|yG N ?_ ?_
 · intro aY N;refine zS<|zZ<|yF<|yA ?_;obtain ⟨x,ay,N⟩:=zB N;obtain ⟨⟨y2,y3⟩,aG,N⟩:=zB N;refine wO [.p (vP b 0) [],.p (vS p1 p.Arrays c) [0],.p (vP b 1) [],.p (vS p2 p.Parts c1) [0],.p (vI i) [],.x (ePPart x),.x (eVPart x),.q (.tuple ⟨[vI y2,.bool y3]⟩),.p (.tuple ⟨[vI y2,.bool y3]⟩) [],.p (vI y2) [],.p (.bool y3) [],.p (vI y2) []] [[],[(0,false)],[],[(2,false)],[],[(3,false),(4,false)],[(5,false)],[(1,false),(6,false)],[(7,false)],[(8,false)],[(8,false)],[(9,false)]] [hB b (cProg p p1 c p2 c1)] [] [(10,false),(11,false)] (zY [0]) ?_ ?_
   · refine O4<|Op<|Ox ?_<|Ox ?_<|Oq ?_<|O4<|On
     · intro I1 hf aa;refine yX [28,29] rfl ?_;have h1:=h1.mono aa;refine xR rfl rfl h1 ay ?_;intro ad aL al aj;obtain ⟨p3,c2,p4,c3,rfl,h3,h4⟩:=wJ aj;exact yL [] iR ⟨_,_,_,_,_,rfl,rfl,al,h3,h4⟩
     · rintro I1 hf aa _ _ ⟨ad,p3,c2,p4,c3,rfl,rfl,al,h3,h4⟩;exact yX [30] rfl<|xH 0 al (cPart x p3 c2 p4 c3) (vA (cPart x p3 c2 p4 c3)) rfl<|yL [] iR ⟨_,_,_,_,rfl,rfl,h3,h4⟩
     rintro I1 hf aa _ _ ⟨rfl,rfl⟩ _ _ ⟨p31,c21,p41,c31,rfl,rfl,h31,h41⟩;refine yX [26,31] rfl ?_;have H:=iS I1;have h:=h.mono aa;refine xE (zBc p.Arrays x _ aG h h31 h41) ?_;rintro aV aw v2 k2 aA - ⟨v03,v04,rfl,rfl,rfl,rfl⟩ -;have H:=H.trans aA;exact xD H
   intro bx aK;refine yX [1,3,4,5,34] rfl ?_;have ⟨h,h1,H⟩:=m3 aK h h1 H;refine yK [] [6] rfl<|zZ<|yH [36] rfl<|zK<|yG N ?_ ?_
   · intro bC N;exact wT [(2,vF)]<|xF<|zJ<|zV<|zJ<|zJ<|hr _ _ _ _ (zD N).symm H ⟨_,_,(resT rfl),zP,⟨_,rfl,rfl,rfl⟩⟩
   intro bC N;exact zS<|zK<|zM<|yK [] [3] rfl<|zO<|zK<|zM<|yK [] [4] rfl<|yP<|oT<|ih (W (total+y2)) (W (i+1)) _ N H h h1 hg ho hx hr
 intro aY N;exact wP<|wF zP<|yU<|hx _ _ (zD N).symm H
def sA (p:zC):Option (Bool):=do
 let t16<-(do
   let y<-jA p.Arrays;if (!y) then pure true
   else
    pure (decide ((p.Parts.length:Int)>4))
     : Option Bool)
 if t16 then pure false
 else
  match<-vD p 0 0 with
  | .ret r0=>pure r0
  | .done total1 =>
   pure (decide (total1<=120))
theorem dX:∀ p r,sA p=some r->∀ {I:Imm}{p1 c p2 c1},(S4 I p1 p.Arrays c)->(S4 I p2 p.Parts c1)->RT 33 [vA (cProg p p1 c p2 c1)] I [] (zT  r):=by
 intro p r N I p1 c p2 c1 h h1;unfold sA at N;refine yI func33 fun B=>?_;have H:=iS I;refine yB<|vJ (cProg p p1 c p2 c1) ?_;intro b hb;refine wR [] []<|zZ<|yA ?_;refine wZ N [hB b (cProg p p1 c p2 c1)] (fun t16=>[(1,vP b 0),(16,.bool t16)]) (fun o0 az=>?_) ?_
 · have H:=iS I;refine zM<|yE 2 [0] [8] rfl ?_;obtain ⟨y,hy,N⟩:=zB az;refine tH (zGw p.Arrays _ hy h) ?_;intro aO le;have H:=H.trans le;refine yE 5 [] [11] rfl<|wL [11] N ?_ ?_
   · intro hc N;exact wR [] [(16,vY)]<|yU<|zU (ct N H)
   intro hc N;exact yK [0] [16] rfl<|yU<|zU (ct N H)
 intro t16 I0 aa aT;have ⟨h,h1⟩:=m2 aa h h1;refine zK<|yG aT ?_ ?_
 · intro aH N;refine wT [(2,vF)]<|xF<|zJ ?_;obtain rfl:=zD N;exact vV
 intro aH N;refine zS<|vW [3] rfl<|zZ<|yH [4] rfl<|wI<|qR [(1,vP b 0),(3,vI 0),(4,vI 0)] ?_;obtain ⟨aN,aC,aF⟩:=zB N;refine zCe p 0 0 aN aC iR h h1 nG nO ?_ ?_
 · intro bD total1 heq1 aX;subst aN;refine zR<|vW [2] rfl<|zK<|xA ?_;obtain rfl:=zD aF;exact vV
 intro r0 I9 hs9 m9 aS le9 aU;subst aS;refine zV<|zJ ?_;obtain rfl:=zD aF;exact fO aU
def mW (nest:(List zF)) (out:Str) (i:Int):Option (Str):=do
 if (decide (i<(nest.length:Int))) then
  let s<-cat out (⟨[102,111,114,32]⟩:Str);let x<-idx nest i;let y<-nD x.Lo;let s1<-cat s y;let s2<-cat s1 (⟨[32]⟩:Str);let x1<-idx nest i;let y1<-nD x1.Hi;let s3<-cat s2 y1;let s4<-cat s3 (⟨[10]⟩:Str);mW nest s4 (W (i+1))
 else pure (id out)
 partial_fixpoint
theorem zGN (nest:(List zF)):∀ (out:Str) (i:Int) (o:Str),mW nest out i=some o->∀ {B}{I0 I:Imm}{Q p c},I0.le I->(S4 I p nest c)->NG Q->NO Q->(∀ I' ah,o=ah->I0.le I'->T 30 B Q (.exit 0) I' [] [(3,vT ah.l)])->J Tryz.prog 30 B (nav (bodyOf f170) [1,1,0,1,0]) Q I [] [(0,vS p nest c),(3,vT out.l),(4,vI i)]:=by
 refine mW.partial_correctness nest _ fun aE ih out i o N B I0 I Q p c H h hg ho hx=>yQ hg ho<|yA<|yH [8] rfl<|zK<|yG N ?_ ?_
 · intro hc N;refine zS<|zZ<|yF ?_;obtain ⟨s,hy,N⟩:=zB N;obtain ⟨x,ay,N⟩:=zB N;obtain ⟨y,aG,N⟩:=zB N;obtain ⟨s1,bc,N⟩:=zB N;obtain ⟨s2,bu,N⟩:=zB N;obtain ⟨x1,bz,N⟩:=zB N;obtain ⟨y1,hy6,N⟩:=zB N;obtain ⟨s3,hy7,N⟩:=zB N;obtain ⟨s4,hy8,N⟩:=zB N;refine wO [.p (vT out.l) [],.q (vT s.l),.p (vS p nest c) [],.p (vI i) [],.x (ePLoop x),.x (ePLoop x),.x (eS x.Lo),.q (vT y.l),.q (vT s1.l),.q (vT s2.l),.p (vS p nest c) [],.p (vI i) [],.x (ePLoop x1),.x (eQLoop 1 x1),.x (eS x1.Hi),.q (vT y1.l),.q (vT s3.l),.q (vT s4.l)] [[],[(0,false)],[],[],[(2,false),(3,false)],[(4,false)],[(5,false)],[(6,false)],[(1,false),(7,false)],[(8,false)],[],[],[(10,false),(11,false)],[(12,false)],[(13,false)],[(14,false)],[(9,false),(15,false)],[(16,false)]] [] [] [(17,false)] zP ?_ ?_
   · refine Op<|Oq ?_<|O2<|Ox ?_<|Ox ?_<|Ox ?_<|Oq ?_<|Oq ?_<|Oq ?_<|O2<|Ox ?_<|Ox ?_<|Ox ?_<|Oq ?_<|Oq ?_<|Oq ?_<|On
     · intro I1 hf aa;exact yX [11] rfl<|fP rfl hy<|xD iR
     · intro I1 hf aa;refine yX [13,14] rfl ?_;have h:=h.mono aa;refine xR rfl rfl h ay ?_;intro ad aL al aj;obtain ⟨p1,c1,p2,c2,rfl,h1,h2⟩:=wY aj;exact yL [] iR ⟨_,_,_,_,_,rfl,rfl,al,h1,h2⟩
     · rintro I1 hf aa _ _ ⟨ad,p1,c1,p2,c2,rfl,rfl,al,h1,h2⟩;exact yX [15] rfl<|pE 6 [(16,.pointer (some ad))]<|yL [] iR ⟨_,_,_,_,_,rfl,rfl,al,h1,h2⟩
     · rintro I1 hf aa _ _ ⟨ad1,aJ,aW,p21,c21,rfl,rfl,au,h11,h21⟩;exact yX [16] rfl<|xH 0 au [vS aJ x.Lo aW] (vS aJ x.Lo aW) rfl<|yL [] iR ⟨_,_,rfl,rfl,h11⟩
     · rintro I1 hf aa _ _ ⟨p111,c111,rfl,rfl,h111⟩;refine yX [17] rfl ?_;have H:=iS I1;refine xE (zA9 x.Lo _ aG h111) ?_;rintro I0 aw v2 k2 le - ⟨v02,rfl,rfl,rfl⟩ -;have H:=H.trans le;exact xD H
     · intro I1 hf aa;exact yX [12,18] rfl<|fP rfl bc<|xD iR
     · intro I1 hf aa;exact yX [19] rfl<|fP rfl bu<|xD iR
     · intro I1 hf aa;refine yX [21,22] rfl ?_;have h:=h.mono aa;refine xR rfl rfl h bz ?_;intro ad2 bm bk ax;obtain ⟨p3,c3,p4,c4,rfl,h4,h5⟩:=wY ax;exact yL [] iR ⟨_,_,_,_,_,rfl,rfl,bk,h4,h5⟩
     · rintro I1 hf aa _ _ ⟨ad2,p3,c3,p4,c4,rfl,rfl,bk,h4,h5⟩;exact yX [23] rfl<|pE 14 [(24,.pointer (some (ad2.add 1)))]<|yL [] iR ⟨_,_,_,_,_,rfl,rfl,bk,h4,h5⟩
     · rintro I1 hf aa _ _ ⟨ad21,p31,c31,p41,c41,rfl,rfl,hat21,h41,h51⟩;exact yX [24] rfl<|xH 1 hat21 [vS p41 x1.Hi c41] (vS p41 x1.Hi c41) rfl<|yL [] iR ⟨_,_,rfl,rfl,h51⟩
     · rintro I1 hf aa _ _ ⟨p411,c411,rfl,rfl,h511⟩;refine yX [25] rfl ?_;have H:=iS I1;refine xE (zA9 x1.Hi _ hy6 h511) ?_;rintro aO aw v2 k2 aa - ⟨v05,rfl,rfl,rfl⟩ -;have H:=H.trans aa;exact xD H
     · intro I1 hf aa;exact yX [20,26] rfl<|fP rfl hy7<|xD iR
     intro I1 hf aa;exact yX [27] rfl<|fP rfl hy8<|xD iR
   intro aV aA;refine yX [0,4,28] rfl ?_;have ⟨h,H⟩:=m2 aA h H;exact yK [] [3] rfl<|zO<|zK<|zM<|yK [] [4] rfl<|yP<|oT<|ih s4 (W (i+1)) _ N H h hg ho hx
 intro hc N;exact wP<|yU<|hx _ _ (zD N).symm H
def zAW (nest:(List zF)):Option (Str):=do
 let ah<-mW nest (⟨[]⟩:Str) 0;pure (id ah)
theorem zI4:∀ nest r,zAW nest=some r->∀ {I:Imm}{p c},(S4 I p nest c)->RT 170 [vS p nest c] I [] (rM  r):=by
 intro nest r N I p c h;unfold zAW at N;refine yI func170 fun B=>wT []<|vW [3] rfl<|zZ<|yH [4] rfl<|wI<|qR [(0,vS p nest c),(3,vT ([])),(4,vI 0)] ?_;obtain ⟨o0,az,aF⟩:=zB N;refine zGN nest (⟨[]⟩:Str) 0 o0 az iR h nG nO ?_;intro bx ah heq aK;subst o0;refine zR<|vW [2] rfl<|zK<|xA ?_;obtain rfl:=zD aF;exact vV
def sK (p:zC) (i:Int) (ap:Str) (k0:Int):Option (Str):=do
 let x1<-idx p.Arrays i;if (decide (k0<(x1.Dims.length:Int))) then
  let s2<-cat ap (⟨[32]⟩:Str);let x2<-idx p.Arrays i;let x3<-idx x2.Dims k0;let y1<-pW x3;let s3<-cat s2 y1;sK p i s3 (W (k0+1))
 else pure (id ap)
 partial_fixpoint
theorem zCS (p:zC) (i:Int):∀ (ap:Str) (k0:Int) (o:Str),sK p i ap k0=some o->∀ {B}{I0 I:Imm}{Q p1 c p2 c1}{b},I0.le I->(S4 I p1 p.Arrays c)->(S4 I p2 p.Parts c1)->NG Q->NO Q->(∀ I' bb,o=bb->I0.le I'->T 103 B Q (.exit 2) I' [hB b (cProg p p1 c p2 c1)] [(1,vP b 0),(3,vT bb.l),(4,vI i)])->J Tryz.prog 103 B (nav (bodyOf f135) [1,1,1,0,1,0,0,1,0,0,1,0,1,0]) Q I [hB b (cProg p p1 c p2 c1)] [(1,vP b 0),(3,vT ap.l),(4,vI i),(5,vI k0)]:=by
 refine sK.partial_correctness p i _ fun aE ih ap k0 o N B I0 I Q p1 c p2 c1 b H h h1 hg ho hx=>yQ hg ho<|yA<|yB<|yE 4 [0] [28,30,31] rfl<|bE N fun x1 bu N=>xR rfl rfl h bu ?_;intro ad1 bm au ax;obtain ⟨p4,c3,rfl,h4⟩:=xP ax;refine yE 6 [] [33] rfl<|xH 1 au [vS p4 x1.Dims c3] (vS p4 x1.Dims c3) rfl<|yK [] [36] rfl<|zK<|yG N ?_ ?_
 · intro aY N;refine zS<|zZ<|yF<|zM<|yE 1 [] [39] rfl<|bE N fun s2 bz N=>fP rfl bz<|yE 5 [0] [42,43] rfl<|bE N fun x2 hy6 N=>xR rfl rfl h hy6 ?_;intro ad2 bK bk bq;obtain ⟨p5,c4,rfl,h5⟩:=xP bq;refine yE 7 [] [45] rfl<|xH 1 bk [vS p5 x2.Dims c4] (vS p5 x2.Dims c4) rfl<|yE 9 [] [47] rfl<|bE N fun x3 hy7 N=>xR rfl rfl h5 hy7 ?_;intro ad3 ccs3 hat3 bB;obtain rfl:=bB;refine xH 0 hat3 [vI x3] (vI x3) rfl<|bE N fun y1 hy8 N=>xE (zAe x3 _ hy8 ) ?_;rintro aO aw v2 k2 aa - ⟨v04,rfl,rfl,rfl⟩ -;have ⟨h,h1,H⟩:=m3 aa h h1 H;obtain ⟨s3,hy9,N⟩:=zB N;exact fP rfl hy9<|yK [] [3] rfl<|zO<|zK<|zM<|yK [] [5] rfl<|yP<|oT<|ih s3 (W (k0+1)) _ N H h h1 hg ho hx
 intro aY N;exact wP<|yU<|hx _ _ (zD N).symm H
def sL (p:zC) (out:Str) (i:Int):Option (Str):=do
 if (decide (i<(p.Arrays.length:Int))) then
  let s<-cat out (⟨[97,114,114,97,121,32]⟩:Str);let x<-idx p.Arrays i;let s1<-cat s x.Name;let bb<-sK p i s1 0;let s4<-cat bb (⟨[10]⟩:Str);sL p s4 (W (i+1))
 else pure (id out)
 partial_fixpoint
theorem zCT (p:zC):∀ (out:Str) (i:Int) (o:Str),sL p out i=some o->∀ {B}{I0 I:Imm}{Q p1 c p2 c1}{b},I0.le I->(S4 I p1 p.Arrays c)->(S4 I p2 p.Parts c1)->NG Q->NO Q->(∀ I' ah,o=ah->I0.le I'->T 103 B Q (.exit 0) I' [hB b (cProg p p1 c p2 c1)] [(1,vP b 0),(3,vT ah.l)])->J Tryz.prog 103 B (nav (bodyOf f135) [1,1,1,0,1,0]) Q I [hB b (cProg p p1 c p2 c1)] [(1,vP b 0),(3,vT out.l),(4,vI i)]:=by
 refine sL.partial_correctness p _ fun aE ih out i o N B I0 I Q p1 c p2 c1 b H h h1 hg ho hx=>yQ hg ho<|yA<|yB<|yK [0] [16] rfl<|zK<|yG N ?_ ?_
 · intro aH N;refine zS<|zZ<|yF<|yB<|yE 1 [] [19] rfl<|bE N fun s ay N=>fP rfl ay<|yE 5 [0] [22,23] rfl<|bE N fun x aG N=>xR rfl rfl h aG ?_;intro ad aL al aj;obtain ⟨p3,c2,rfl,h3⟩:=xP aj;refine yE 7 [] [25] rfl<|xH 0 al [vT x.Name.l] (vT x.Name.l) rfl<|bE N fun s1 bc N=>fP rfl bc<|yK [] [3] rfl<|zZ<|yH [5] rfl<|wI<|qR [(1,vP b 0),(3,vT s1.l),(4,vI i),(5,vI 0)] ?_;obtain ⟨o0,az,aF⟩:=zB N;refine zCS p i s1 0 o0 az iR h h1 (fun _ _ _ h=>hg _ _ _ h) (fun _ _ h=>ho _ _ h) ?_;intro aV bb heq aA;subst o0;have ⟨h,h1,H⟩:=m3 aA h h1 H;refine zR<|zK<|zM<|yE 1 [] [52] rfl ?_;obtain ⟨s4,hy10,N⟩:=zB aF;exact fP rfl hy10<|yK [] [3] rfl<|zO<|zK<|zM<|yK [] [4] rfl<|yP<|oT<|ih s4 (W (i+1)) _ N H h h1 hg ho hx
 intro aH N;exact wP<|yU<|hx _ _ (zD N).symm H
def sM (p:zC) (i1:Int) (out6:Str) (k01:Int):Option (Str):=do
 let x5<-idx p.Parts i1;if (decide (k01<(x5.Body.length:Int))) then
  let x6<-idx p.Parts i1;let x7<-idx x6.Body k01;let y3<-pF x7.Write;let s7<-cat out6 y3;let s8<-cat s7 (⟨[61]⟩:Str);let y4<-pX x7.Value;let s9<-cat s8 y4;let s10<-cat s9 (⟨[10]⟩:Str);sM p i1 s10 (W (k01+1))
 else pure (id out6)
 partial_fixpoint
theorem zCU (p:zC) (i1:Int):∀ (out6:Str) (k01:Int) (o:Str),sM p i1 out6 k01=some o->∀ {B}{I0 I:Imm}{Q p1 c p2 c1}{b},I0.le I->(S4 I p1 p.Arrays c)->(S4 I p2 p.Parts c1)->NG Q->NO Q->(∀ I' out7,o=out7->I0.le I'->T 103 B Q (.exit 6) I' [hB b (cProg p p1 c p2 c1)] [(1,vP b 0),(3,vT out7.l),(6,vI i1)])->J Tryz.prog 103 B (nav (bodyOf f135) [1,1,1,1,0,1,0,0,1,0,0,1,1,0]) Q I [hB b (cProg p p1 c p2 c1)] [(1,vP b 0),(3,vT out6.l),(6,vI i1),(7,vI k01)]:=by
 refine sM.partial_correctness p i1 _ fun aE ih out6 k01 o N B I0 I Q p1 c p2 c1 b H h h1 hg ho hx=>yQ hg ho<|yA<|yB<|yE 4 [0] [71,73,74] rfl<|bE N fun x5 hy15 N=>xR rfl rfl h1 hy15 ?_;intro ad5 ccs5 hat5 hrep5;obtain ⟨p8,c7,p9,c8,rfl,h10,h11⟩:=wJ hrep5;refine yE 6 [] [76] rfl<|xH 1 hat5 [vS p9 x5.Body c8] (vS p9 x5.Body c8) rfl<|yK [] [79] rfl<|zK<|yG N ?_ ?_
 · intro bJ N;refine zS<|zZ<|yF<|yB<|yE 3 [0] [83,84] rfl<|bE N fun x6 hy16 N=>xR rfl rfl h1 hy16 ?_;intro ad6 ccs6 hat6 hrep6;obtain ⟨aQ,c9,aJ,aM,rfl,h12,h13⟩:=wJ hrep6;refine yE 5 [] [86] rfl<|xH 1 hat6 [vS aJ x6.Body aM] (vS aJ x6.Body aM) rfl<|yE 7 [] [88] rfl<|bE N fun x7 hy17 N=>xR rfl rfl h13 hy17 ?_;intro ad7 ccs7 hat7 hrep7;obtain ⟨br,aW,bh,bd,p14,bj,p15,c14,rfl,h14,h15,h16,h17⟩:=wV hrep7;refine xH 0 hat7 (cStmt x7 br aW bh bd p14 bj p15 c14) (vA (cStmt x7 br aW bh bd p14 bj p15 c14)) rfl<|xU [vT ([]),z0,vI 0,vI 0,z0,vI 0,vT ([]),z0,z0] ?_;intro b1 hb1;refine yY 0 (cStmt x7 br aW bh bd p14 bj p15 c14) rfl<|zX rfl<|zK ?_;obtain ⟨y3,hy18,N⟩:=zB N;obtain ⟨s7,hy19,N⟩:=zB N;obtain ⟨s8,hy20,N⟩:=zB N;obtain ⟨y4,hy21,N⟩:=zB N;obtain ⟨s9,hy22,N⟩:=zB N;obtain ⟨s10,hy23,N⟩:=zB N;refine wO [.p (vT out6.l) [],.p (vP b1 0) [],.p (vA (cAccess x7.Write br aW)) [0],.q (vT y3.l),.q (vT s7.l),.q (vT s8.l),.p (vP b1 2) [],.p (vA (cExpr x7.Value bh bd p14 bj p15 c14)) [0],.q (vT y4.l),.q (vT s9.l),.q (vT s10.l)] [[],[],[(1,false)],[(2,false)],[(0,false),(3,false)],[(4,false)],[],[(6,false)],[(7,false)],[(5,false),(8,false)],[(9,false)]] [hB b1 (cStmt x7 br aW bh bd p14 bj p15 c14),hB b (cProg p p1 c p2 c1)] [] [(10,false)] (zY [0,1]) ?_ ?_
   · refine O3<|Oq ?_<|Oq ?_<|Oq ?_<|O2<|Oq ?_<|Oq ?_<|Oq ?_<|On
     · intro I1 hf aa;refine yX [93] rfl ?_;have H:=iS I1;have h14:=h14.mono aa;refine xE (dW x7.Write _ hy18 h14) ?_;rintro bI aw v2 k2 bf - ⟨v016,rfl,rfl,rfl⟩ -;have H:=H.trans bf;exact xD H
     · intro I1 hf aa;exact yX [91,94] rfl<|fP rfl hy19<|xD iR
     · intro I1 hf aa;exact yX [95] rfl<|fP rfl hy20<|xD iR
     · intro I1 hf aa;refine yX [98] rfl ?_;have H:=iS I1;have ⟨h15,h16,h17⟩:=m3 aa h15 h16 h17;refine xE (zDz x7.Value _ hy21 h15 h16 h17) ?_;rintro I06 aw v2 k2 bt - ⟨v017,rfl,rfl,rfl⟩ -;have H:=H.trans bt;exact xD H
     · intro I1 hf aa;exact yX [96,99] rfl<|fP rfl hy22<|xD iR
     intro I1 hf aa;exact yX [100] rfl<|fP rfl hy23<|xD iR
   intro I07 le7;refine yX [1,6,7,101] rfl ?_;have ⟨h,h1,H⟩:=m3 le7 h h1 H;exact yK [] [3] rfl<|zO<|zK<|zM<|yK [] [7] rfl<|yP<|pU (zW [1] rfl (by decide))<|oT<|ih s10 (W (k01+1)) _ N H h h1 hg ho hx
 intro bJ N;exact wP<|yU<|hx _ _ (zD N).symm H
def sN (p:zC) (bw:Str) (i1:Int):Option (Str):=do
 if (decide (i1<(p.Parts.length:Int))) then
  let s5<-cat bw (⟨[112,97,114,116,10]⟩:Str);let x4<-idx p.Parts i1;let y2<-zAW x4.Nest;let s6<-cat s5 y2;let out7<-sM p i1 s6 0;sN p out7 (W (i1+1))
 else pure (id bw)
 partial_fixpoint
theorem zCV (p:zC):∀ (bw:Str) (i1:Int) (o:Str),sN p bw i1=some o->∀ {B}{I0 I:Imm}{Q p1 c p2 c1}{b},I0.le I->(S4 I p1 p.Arrays c)->(S4 I p2 p.Parts c1)->NG Q->NO Q->(∀ I' out5,o=out5->I0.le I'->T 103 B Q (.exit 4) I' [] [(3,vT out5.l)])->J Tryz.prog 103 B (nav (bodyOf f135) [1,1,1,1,0,1,0]) Q I [hB b (cProg p p1 c p2 c1)] [(1,vP b 0),(3,vT bw.l),(6,vI i1)]:=by
 refine sN.partial_correctness p _ fun aE ih bw i1 o N B I0 I Q p1 c p2 c1 b H h h1 hg ho hx=>yQ hg ho<|yA<|yB<|yK [0] [58] rfl<|zK<|yG N ?_ ?_
 · intro bC N;refine zS<|zZ<|yF<|yB<|yE 1 [] [61] rfl<|bE N fun s5 hy11 N=>fP rfl hy11<|yE 5 [0] [64,65] rfl<|bE N fun x4 hy12 N=>xR rfl rfl h1 hy12 ?_;intro ad4 ccs4 hat4 hrep4;obtain ⟨p6,c5,p7,c6,rfl,h7,h8⟩:=wJ hrep4;refine yE 7 [] [67] rfl<|xH 0 hat4 [vS p6 x4.Nest c5] (vS p6 x4.Nest c5) rfl<|bE N fun y2 hy13 N=>xE (zI4 x4.Nest _ hy13 h7) ?_;rintro bD aw v2 k2 aX - ⟨v07,rfl,rfl,rfl⟩ -;have ⟨h,h1,H⟩:=m3 aX h h1 H;obtain ⟨s6,hy14,N⟩:=zB N;refine fP rfl hy14<|yK [] [3] rfl<|vW [7] rfl<|wI<|qR [(1,vP b 0),(3,vT s6.l),(6,vI i1),(7,vI 0)] ?_;obtain ⟨o02,ho02,hMl2⟩:=zB N;refine zCU p i1 s6 0 o02 ho02 iR h h1 (fun _ _ _ h=>hg _ _ _ h) (fun _ _ h=>ho _ _ h) ?_;intro I08 out7 heq2 le8;subst o02;have ⟨h,h1,H⟩:=m3 le8 h h1 H;exact zR<|zO<|zK<|zM<|yK [] [6] rfl<|yP<|oT<|ih out7 (W (i1+1)) _ hMl2 H h h1 hg ho hx
 intro bC N;exact wP<|wF zP<|yU<|hx _ _ (zD N).symm H
def kT (p:zC):Option (Str):=do
 let y<-sA p;if (!y) then pure (⟨[]⟩:Str)
 else
  let ah<-sL p (⟨qL0⟩:Str) 0;let out5<-sN p ah 0;pure (id out5)
theorem zDa:∀ p r,kT p=some r->∀ {I:Imm}{p1 c p2 c1},(S4 I p1 p.Arrays c)->(S4 I p2 p.Parts c1)->RT 135 [vA (cProg p p1 c p2 c1)] I [] (rM  r):=by
 intro p r N I p1 c p2 c1 h h1;unfold kT at N;refine yI func135 fun B=>yB<|vJ (cProg p p1 c p2 c1) ?_;intro b hb;refine wR [] []<|zZ<|yB<|tL 1 [0] [(9,vA (cProg p p1 c p2 c1))]<|bE N fun y hy N=>tH (dX p _ hy h h1) ?_;intro I0 le;have ⟨h,h1⟩:=m2 le h h1;refine yK [] [11] rfl<|zK<|yG N ?_ ?_
 · intro hc N;refine yH [2] rfl<|xF<|zJ ?_;obtain rfl:=zD N;exact vV
 intro hc N;refine zS<|vW [3] rfl<|zZ<|yH [4] rfl<|wI<|qR [(1,vP b 0),(3,vT (qL0)),(4,vI 0)] ?_;obtain ⟨aN,aC,hMl1⟩:=zB N;refine zCT p (⟨qL0⟩:Str) 0 aN aC iR h h1 nG nO ?_;intro bx ah heq1 aK;subst aN;have ⟨h,h1⟩:=m2 aK h h1;refine zR<|zZ<|yH [6] rfl<|wI<|qR [(1,vP b 0),(3,vT ah.l),(6,vI 0)] ?_;obtain ⟨o03,ho03,hMl3⟩:=zB hMl1;refine zCV p ah 0 o03 ho03 iR h h1 nG nO ?_;intro I09 out5 heq3 le9;subst o03;refine zR<|vW [2] rfl<|zK<|xA ?_;obtain rfl:=zD hMl3;exact vV
instance zNv {cs}{arr:List zE}{av}{ak:List Raw2}{parts:List zI}{vN:Value}{nl:List zF}{vB:Value}{bl:List zL}{csN csB:List Value}:MonoI (fun i=>L4 i cs arr av ak parts vN nl vB bl csN csB):=⟨fun _ _ hl h=>h.mono hl⟩
def zDE (r:zC×Bool):KT:=fun kk I' af v=>
  ∃ (v0 v1:Value),af=[]/\v=tupV [v0,v1]/\(∃ cs,v0=.agg ⟨cs⟩/\Rp.rep I' cs r.1)/\v1=.bool r.2
def qY (y:List Str) (p:zC) (i:Int):Option zC:=do
 if (decide ((W (i+1))<(y.length:Int))) then
  let x<-idx y i;let p1<-zAV p x;qY y p1 (W (i+1))
 else pure p
 partial_fixpoint
theorem zCf (y:List Str):∀ (p:zC) (i:Int) (o:zC),qY y p i=some o->∀ {B}{I0 I:Imm}{Q}{bi:Str}{pl cl}{b b1:Nat}{p1 c cs p2 c1 av}{ak:List Raw2}{vN vB:Value}{nl:List zF}{bl:List zL}{csN csB:List Value},I0.le I->(S4 I pl y cl)->L4 I cs p.Arrays av ak p.Parts vN nl vB bl csN csB->(∀ l a w,¬Q (.goto l) a w)->(∀ a w,¬Q .outgrown a w) ->
   (∀ (I':Imm) (p1:Option Addr) (c:Nat) (cs:List Value) (p2:Option Addr) (c1:Nat) (av:List Value) (ak:List Raw2) (vN vB:Value) (nl:List zF) (bl:List zL) (csN csB:List Value),I0.le I'->L4 I' cs o.Arrays av ak o.Parts vN nl vB bl csN csB->T 37 B Q (.exit 0) I' [hO zE (vS p1 o.Arrays c) cs,hO Raw2 (vS p2 ak c1) av,hO zF vN csN,hO zL vB csB,hB b1 [vS p1 o.Arrays c,vS p2 ak c1],hB b zTwo] [(0,vT bi.l),(2,vP b 0),(5,vP b1 0)]) ->
   J Tryz.prog 37 B (nav (bodyOf f93) [1,1,1,1,0,1,0]) Q I [hO zE (vS p1 p.Arrays c) cs,hO Raw2 (vS p2 ak c1) av,hO zF vN csN,hO zL vB csB,hB b1 [vS p1 p.Arrays c,vS p2 ak c1],hB b zTwo] [(0,vT bi.l),(2,vP b 0),(4,vS pl y cl),(5,vP b1 0),(6,vI i)]:=by
 refine qY.partial_correctness y _ ?_
 intro aE ih p i o N B I0 I Q bi pl cl b b1 p1 c cs p2 c1 av ak vN vB nl bl csN csB H h hQ hg ho hx
 refine yQ hg ho<|yA<|yH [18] rfl<|zK<|yG N ?_ ?_
 · intro aH N
   refine zS<|zZ<|yF ?_
   obtain ⟨x,hy,N⟩:=zB N
   obtain ⟨q,ay,N⟩:=zB N
   refine wO [.p (vA [vS p1 p.Arrays c,vS p2 ak c1]) [0],.p (vS pl y cl) [],.p (vI i) [],.x (fun I' v hx=>∃ ad,v=.pointer (some ad)/\hx=[]/\(At I' ad [vT x.l])),.x (fun I' v hx=>v=vT x.l/\hx=[]),.x (fun I' v hx=>∃ (p1:Option Addr) (c:Nat) (cs:List Value) (p2:Option Addr) (c1:Nat) (av:List Value) (ak:List Raw2) (vN vB:Value) (nl:List zF) (bl:List zL) (csN csB:List Value),v=vA [vS p1 q.Arrays c,vS p2 ak c1]/\hx=[hO zE (vS p1 q.Arrays c) cs,hO Raw2 (vS p2 ak c1) av,hO zF vN csN,hO zL vB csB]/\L4 I' cs q.Arrays av ak q.Parts vN nl vB bl csN csB)] [[],[],[],[(1,false),(2,false)],[(3,false)],[(0,false),(4,false),(7,true)]] [hB b1 [vS p1 p.Arrays c,vS p2 ak c1],hB b zTwo] [[hO zE (vS p1 p.Arrays c) cs,hO Raw2 (vS p2 ak c1) av,hO zF vN csN,hO zL vB csB]] [(5,true)] (zY [4,5,0,1,2,3]) ?_ ?_
   · refine O3<|Ox ?_<|Ox ?_<|Ox (hm:=fun v hx=>by repeat' (first | exact zHW | exact zNv | refine @zKp _ _ (fun _=>?_) | refine @zJo _ _ ?_ ?_)) ?_<|On
     · intro I1 hf aa
       refine yX [22,23] rfl<|xR rfl rfl (h.mono aa) hy ?_
       intro ad aL al aj
       obtain rfl:=aj
       exact yL [] iR ⟨_,rfl,rfl,al⟩
     · intro I1 hf aa
       refine wS ?_
       rintro _ _ ⟨ad,rfl,rfl,al⟩
       exact qS<|zAp [(24,.pointer (some ad))]<|xH 0 al [vT x.l] (vT x.l) rfl<|xD iR
     intro I1 hf aa
     refine wS ?_
     rintro _ _ ⟨rfl,rfl⟩
     refine wS ?_
     rintro _ _ ⟨rfl,rfl⟩
     refine wS ?_
     rintro _ _ rfl
     refine yX [21,25] rfl<|rW (zI1 p x _ ay (hQ.mono aa)) rfl ?_
     rintro aV aw v2 k2 aA - ⟨p3,c2,aP,p4,c3,aI,raws1,vN1,vB1,nl1,bl1,csN1,csB1,rfl,rfl,hq⟩ -
     exact yL [hO zE (vS p3 q.Arrays c2) aP,hO Raw2 (vS p4 raws1 c3) aI,hO zF vN1 csN1,hO zL vB1 csB1] aA ⟨_,_,_,_,_,_,_,_,_,_,_,_,_,rfl,rfl,hq⟩
   intro bD aX
   refine wS ?_
   rintro _ _ ⟨p3,c2,aP,p4,c3,aI,raws1,vN1,vB1,nl1,bl1,csN1,csB1,rfl,rfl,hq⟩
   exact qS<|zAp [(0,vT bi.l),(2,vP b 0),(4,vS pl y cl),(5,vP b1 0),(6,vI i),(26,vA [vS p3 q.Arrays c2,vS p4 raws1 c3])]<|yY 4 [vS p3 q.Arrays c2,vS p4 raws1 c3] rfl<|zX rfl<|zO<|zK<|zM<|yK [] [6] rfl<|yP<|oT<|ih _ _ _ N (H.trans aX) (h.mono aX) hq hg ho hx
 intro aH N
 obtain rfl:=zD N
 exact wP<|yU<|hx _ _ _ _ _ _ _ _ _ _ _ _ _ _ H hQ
def nV (bi:Str):Option (zC×Bool):=do
 let y<-fB bi (10:UInt8);if (decide ((y.length:Int)>42)) then pure ((zC.mk [] []),false)
 else
  let p<-qY y (zC.mk [] []) 1;let t34<-(do
    if (bi.l==([]:List UInt8)) then pure true
    else
     let z<-kT p;pure (!(z.l==bi.l))
      : Option Bool)
  if t34 then pure ((zC.mk [] []),false)
  else pure (p,true)
theorem zBD:∀ bi r,nV bi=some r->∀ {I:Imm},RT 93 [vT bi.l] I [] (zDE r):=by
 intro bi r N I;unfold nV at N;refine yI func93 fun B=>yB<|xU zTwo ?_;intro b hb;refine wR [] []<|yW<|yE 1 [] [7] rfl<|bE N fun y hy N=>xE (zB8 bi (10:UInt8) _ hy) ?_;rintro I0 aw v2 k2 le - ⟨v0,rfl,rfl,h⟩ -;obtain ⟨pl,cl,rfl⟩:=h.form;refine yK [] [4] rfl<|yW<|yE 1 [] [9] rfl<|xU zTwo ?_;intro b1 hb1;refine dE 0 zTwo [hB b1 zTwo,hB b zTwo] rfl rfl rfl rfl<|zX rfl<|zZ<|yH [12] rfl<|zK<|yG N ?_ ?_
 · intro hc N;refine yB<|tL 1 [0] [(13,vA zTwo)]<|dE 1 zTwo [hB b1 zTwo,hB b zTwo] rfl rfl rfl rfl<|wR [] [(3,vF)]<|xF<|zJ ?_;exact xO N (resE 1 rfl rfl rfl) zP ⟨_,_,rfl,rfl,⟨_,rfl,(xY ⟨_,_,rfl,(SL.nil _),(SL.nil _)⟩)⟩,rfl⟩
 intro hc N;refine zS<|zZ<|yH [6] rfl<|wI<|qR [(0,vT bi.l),(2,vP b 0),(4,vS pl y cl),(5,vP b1 0),(6,vI 1)]<|pU (fN (Rp.sz zL))<|pU (fN (Rp.sz zF))<|pU (fN (Rp.sz Raw2))<|pU (fN (Rp.sz zE))<|bE N fun p ay N=>zCf (ak:=[]) (vN:=z0) (vB:=z0) (nl:=[]) (bl:=[]) y (zC.mk [] []) 1 p ay iR h ⟨RepL.nil,RepL.nil,⟨by decide,rfl,.inl ⟨rfl,rfl⟩⟩,RepL.nil,RepL.nil⟩ nG nO fun I1 p1 c cs p2 c1 av ak vN vB nl bl csN csB aa hQ=>xB 2 rfl ?_;intro I2 aA hl2;have kN:=SL.of_frozen hl2 aA hQ.n;have hQ:=hQ.mono aA;refine xB 2 rfl ?_;intro I3 aK hl3;have kB:=SL.of_frozen hl3 aK hQ.b;replace kN:=kN.mono aK;have hQ:=hQ.mono aK;refine xB 0 rfl ?_;intro I4 aX hl4;have kA:=SL.of_frozen hl4 aX hQ.arr;replace kN:=kN.mono aX;replace kB:=kB.mono aX;have hQ:=hQ.mono aX;refine xB 0 rfl ?_;intro I5 bf hl5;have kP:SL I5 (vS p2 ak c1) p.Parts:=⟨av,hl5,by
   rw [fR hQ.raw];exact (hQ.lp.done kN kB).mono fun _ _=>Rp.mono bf⟩
 have e0:vS p2 ak c1=vS p2 p.Parts c1:=by simp only [vS,hQ.lp.2.1]
 rw [e0] at kP ⊢;clear e0 hl5 hl4 hl3 hl2 hQ;replace kA:=kA.mono bf;refine zR<|zZ<|yA<|bE N fun t34 ht N=>oW (K1 t34 I5 [hB b1 (cProg p p1 c p2 c1),hB b zTwo] fun o=>[(2,vP b 0),(5,vP b1 0),(34,.bool o)]) ?_ ?_
 · refine zM<|tL 3 [] [(29,.bool (bi.l==([]:List UInt8)))] ?_;cases aY:(bi.l==([]:List UInt8)) with
   | true =>
    have hM0:=tY aY ht;exact wR [] [(34,vY)]<|yU<|zU ⟨_,(zD hM0).symm,Imm.le.refl _,rfl,rfl⟩
   | false =>
    have hM0:=uU aY ht;obtain ⟨z,hz,hM0⟩:=zB hM0;refine tL 4 [0] [(30,vA (cProg p p1 c p2 c1))]<|xE (zDa p _ hz kA kP) ?_;rintro I6 aw v2 k2 bt - ⟨v0,rfl,rfl,rfl⟩ -;exact yK [] [34] rfl<|yU<|zU (ct hM0 bt)
 rintro I6 aw m2 ⟨o,rfl,bt,rfl,rfl⟩;replace kA:=kA.mono bt;replace kP:=kP.mono bt;refine zK<|yG N ?_ ?_
 · intro aY N;refine yB<|yE 1 [] [35] rfl<|dE 1 zTwo [hB b1 (cProg p p1 c p2 c1),hB b zTwo] rfl rfl rfl rfl<|wR [] [(3,vF)]<|xF<|zJ ?_;exact xO N (resE 1 rfl rfl rfl) zP ⟨_,_,rfl,rfl,⟨_,rfl,(xY ⟨_,_,rfl,(SL.nil _),(SL.nil _)⟩)⟩,rfl⟩
 intro aY N;refine zS<|yW<|tL 1 [0] [(36,vA (cProg p p1 c p2 c1))]<|yY 1 (cProg p p1 c p2 c1) rfl<|wR [] [(3,vY)]<|zK<|xA ?_;exact xO N (resE 1 rfl rfl rfl) zP ⟨_,_,rfl,rfl,⟨_,rfl,(xY ⟨_,_,rfl,kA,kP⟩)⟩,rfl⟩
def zCg (r:(List zE)):KT:=fun kk I' af v=>
  ∃ v0,af=[]/\v=tupV [v0]/\SL I' v0 r
def fF :Option ((List zE)):=do
 pure ([(zE.mk (⟨[65]⟩:Str) ([6]:List Int)),(zE.mk (⟨[66]⟩:Str) ([4,5]:List Int)),(zE.mk (⟨[67]⟩:Str) ([3]:List Int))]:List zE)
theorem zAh:∀ r,fF =some r->∀ {I:Imm} ,RT 154 [] I [] (zCg  r):=by
 intro  r N I;unfold fF at N;refine yI func154 fun B=>wT []<|yW<|uV [vI 6] Int ?_;intro b hb;have h:RL I [vI 6] ([6]:List Int):=rI [6];refine yE 2 [] [2] rfl<|uV [vI 4,vI 5] Int ?_;intro b1 hb1;have h1:RL I [vI 4,vI 5] ([4,5]:List Int):=rI [4,5];refine yE 4 [] [4] rfl<|uV [vI 3] Int ?_;intro b2 hb2;have h2:RL I [vI 3] ([3]:List Int):=rI [3];refine yE 6 [] [6] rfl<|xX 2 rfl ?_;intro I0 le hl0;have h3:=SL.of_frozen hl0 le h;have ⟨h1,h2⟩:=m2 le h1 h2;refine xX 1 rfl ?_;intro aO aa hl01;have h4:=SL.of_frozen hl01 aa h1;have ⟨h3,h2⟩:=m2 aa h3 h2;refine xX 0 rfl ?_;intro aV aA hl02;have h5:=SL.of_frozen hl02 aA h2;have ⟨h3,h4⟩:=m2 aA h3 h4;refine uV [vT ([65]),vS (some ⟨b,0,none⟩) ([6]:List Int) 1,vT ([66]),vS (some ⟨b1,0,none⟩) ([4,5]:List Int) 2,vT ([67]),vS (some ⟨b2,0,none⟩) ([3]:List Int) 1] zE ?_;intro b3 hb3;have h6:RL aV [vT ([65]),vS (some ⟨b,0,none⟩) ([6]:List Int) 1,vT ([66]),vS (some ⟨b1,0,none⟩) ([4,5]:List Int) 2,vT ([67]),vS (some ⟨b2,0,none⟩) ([3]:List Int) 1] ([(zE.mk (⟨[65]⟩:Str) ([6]:List Int)),(zE.mk (⟨[66]⟩:Str) ([4,5]:List Int)),(zE.mk (⟨[67]⟩:Str) ([3]:List Int))]:List zE):=⟨[vT ([65]),vS (some ⟨b,0,none⟩) ([6]:List Int) 1],_,rfl,rfl,(uI ⟨_,rfl,h3⟩),⟨[vT ([66]),vS (some ⟨b1,0,none⟩) ([4,5]:List Int) 2],_,rfl,rfl,(uI ⟨_,rfl,h4⟩),⟨[vT ([67]),vS (some ⟨b2,0,none⟩) ([3]:List Int) 1],_,rfl,rfl,(uI ⟨_,rfl,h5⟩),rfl⟩⟩⟩;refine yK [] [0] rfl<|xF<|xB 0 rfl ?_;intro bx aK hl03;have h7:=SL.of_frozen hl03 aK h6;exact xO N (resT rfl) zP ⟨_,rfl,rfl,h7⟩
def pG (a0:zA) (x:Int) (b:zA) (y:Int) (i:Int) (Coefs:List Int):Option (List Int):=do
 if (decide (i<4)) then
  let x1<-idx a0.Coefs i;let x2<-idx b.Coefs i;let l<-app 8 Coefs ([(W ((W (x*x1))+(W (y*x2))))]:List Int);pG a0 x b y (W (i+1)) l
 else pure (id Coefs)
 partial_fixpoint
theorem zED (a0:zA) (x:Int) (b:zA) (y:Int):∀ (i:Int) (Coefs:List Int) (o:List Int),pG a0 x b y i Coefs=some o->∀ {B}{I0 I:Imm}{Q p c p1 c1}{b1 b2 b3 b4}{p2 c2 cs},I0.le I->(S4 I p1 b.Coefs c1)->(S4 I p a0.Coefs c)->(RL I cs Coefs)->NG Q->NO Q->(∀ I' Coefs1 p3 c3 av,o=Coefs1->I0.le I'->(RL I' av Coefs1)->T 46 B Q (.exit 0) I' [hO Int (vS p3 Coefs1 c3) av,hB b4 [vS p3 Coefs1 c3,vI (W ((W (x*a0.Const))+(W (y*b.Const))))],hB b3 [z0,vI 0]] [(8,vP b3 0),(9,vP b4 0)])->J Tryz.prog 46 B (nav (bodyOf f156) [1,1,0,1,0]) Q I [hO Int (vS p2 Coefs c2) cs,hB b4 [vS p2 Coefs c2,vI (W ((W (x*a0.Const))+(W (y*b.Const))))],hB b3 [z0,vI 0],hB b2 (cAff b p1 c1),hB b1 (cAff a0 p c)] [(1,vI x),(3,vI y),(4,vP b1 0),(6,vP b2 0),(8,vP b3 0),(9,vP b4 0),(10,vI i)]:=by
 refine pG.partial_correctness a0 x b y _ fun aE ih i Coefs o N B I0 I Q p c p1 c1 b1 b2 b3 b4 p2 c2 cs H h1 h h3 hg ho hx=>yQ hg ho<|yA<|yH [22] rfl<|zK<|yG N ?_ ?_
 · intro hc N;refine zS<|zZ<|yF ?_;obtain ⟨x1,hy,N⟩:=zB N;obtain ⟨x2,ay,N⟩:=zB N;obtain ⟨l,aG,N⟩:=zB N;refine wO [.p (vP b4 0) [],.p (vS p2 Coefs c2) [0],.p (vI x) [],.p (vP b1 0) [],.p (vS p a0.Coefs c) [3],.p (vI i) [],.x (fun I' v hx=>∃ ad,v=.pointer (some ad)/\hx=[]/\(At I' ad [vI x1])),.q (vI x1),.p (vI (W (x*x1))) [],.p (vI y) [],.p (vP b2 0) [],.p (vS p1 b.Coefs c1) [2],.p (vI i) [],.x (fun I' v hx=>∃ ad1,v=.pointer (some ad1)/\hx=[]/\(At I' ad1 [vI x2])),.q (vI x2),.p (vI (W (y*x2))) [],.p (vI (W ((W (x*x1))+(W (y*x2))))) [],.x (fun I' v hx=>∃ b5,v=vS (some ⟨b5,0,none⟩) ([(W ((W (x*x1))+(W (y*x2))))]:List Int) 1/\hx=[]/\(SL I' (vS (some ⟨b5,0,none⟩) ([(W ((W (x*x1))+(W (y*x2))))]:List Int) 1) ([(W ((W (x*x1))+(W (y*x2))))]:List Int))),.x (fun I' v hx=>∃ p4 c4 aP,v=vS p4 l c4/\hx=[hO Int (vS p4 l c4) aP]/\(RL I' aP l))] [[],[(0,false)],[],[],[(3,false)],[],[(4,false),(5,false)],[(6,false)],[(2,false),(7,false)],[],[],[(10,false)],[],[(11,false),(12,false)],[(13,false)],[(9,false),(14,false)],[(8,false),(15,false)],[(16,false)],[(1,false),(17,false),(21,true)]] [hB b4 [vS p2 Coefs c2,vI (W ((W (x*a0.Const))+(W (y*b.Const))))],hB b3 [z0,vI 0],hB b2 (cAff b p1 c1),hB b1 (cAff a0 p c)] [[hO Int (vS p2 Coefs c2) cs]] [(18,true)] (zY [1,2,3,4,0]) ?_ ?_
   · refine O4<|O2<|Ox ?_<|Oq ?_<|O4<|Op<|Ox ?_<|Oq ?_<|O2<|Ox ?_<|Ox ?_<|On
     · intro I1 hf aa;refine yX [29,30] rfl ?_;have h:=h.mono aa;refine xR rfl rfl h hy ?_;intro ad aL al aj;obtain rfl:=aj;exact yL [] iR ⟨_,rfl,rfl,al⟩
     · rintro I1 hf aa _ _ ⟨ad,rfl,rfl,al⟩;exact yX [31] rfl<|xH 0 al [vI x1] (vI x1) rfl<|xD iR
     · intro I1 hf aa;refine yX [36,37] rfl ?_;have h1:=h1.mono aa;refine xR rfl rfl h1 ay ?_;intro ad1 bm au ax;obtain rfl:=ax;exact yL [] iR ⟨_,rfl,rfl,au⟩
     · rintro I1 hf aa _ _ ⟨ad1,rfl,rfl,au⟩;exact yX [38] rfl<|xH 0 au [vI x2] (vI x2) rfl<|xD iR
     · intro I1 hf aa;refine yX [41] rfl ?_;have H:=iS I1;refine mG (rI [(W ((W (x*x1))+(W (y*x2))))]) ?_;intro b5 I0 le h6;have H:=H.trans le;exact yL [] H ⟨_,rfl,rfl,h6⟩
     rintro I1 hf aa _ _ ⟨rfl,rfl⟩ _ _ ⟨b5,rfl,rfl,h6⟩ _ _ rfl;refine yX [26,42] rfl ?_;have h3:=iM aa h3;obtain ⟨bK,k0,k01⟩:=h6;have h6:SL I1 (vS (some ⟨b5,0,none⟩) ([(W ((W (x*x1))+(W (y*x2))))]:List Int) 1) ([(W ((W (x*x1))+(W (y*x2))))]:List Int):=⟨_,k0,k01⟩;exact rF 3 1 0 rfl rfl rfl h3 (.inl k0) k01 aG fun p4 c4 aP h7=>wX (af:=(hO Int (vS p4 l c4) aP::hB b4 [vS p2 Coefs c2,vI (W ((W (x*a0.Const))+(W (y*b.Const))))]::hB b3 [z0,vI 0]::hB b2 (cAff b p1 c1)::hB b1 (cAff a0 p c)::hf)) rfl<|yL [hO Int (vS p4 l c4) aP] iR ⟨_,_,_,rfl,rfl,h7⟩
   rintro aO aa _ _ ⟨p4,c4,aP,rfl,rfl,h7⟩;refine yX [1,3,4,6,8,9,10,43] rfl ?_;have ⟨h1,h,H⟩:=m3 aa h1 h H;exact yE 20 [] [44] rfl<|yY 1 [vS p4 l c4,vI (W ((W (x*a0.Const))+(W (y*b.Const))))] rfl<|zX rfl<|zO<|zK<|zM<|yK [] [10] rfl<|yP<|oT<|ih (W (i+1)) l _ N H h1 h h7 hg ho hx
 intro hc N;exact wP<|wF (zW [0,1,2] rfl (by decide))<|yU<|hx _ _ _ _ _ (zD N).symm H h3
def jR (a0:zA) (x:Int) (b:zA) (y:Int):Option (zA):=do
 let Coefs1<-pG a0 x b y 0 ([]:List Int);pure (zA.mk Coefs1 (W ((W (x*a0.Const))+(W (y*b.Const)))))
theorem zCH:∀ a0 x b y r,jR a0 x b y=some r->∀ {I:Imm}{p c p1 c1},(S4 I p a0.Coefs c)->(S4 I p1 b.Coefs c1)->RT 156 [vA (cAff a0 p c),vI x,vA (cAff b p1 c1),vI y] I [] (oX  r):=by
 intro a0 x b y r N I p c p1 c1 h h1;unfold jR at N;refine yI func156 fun B=>yB<|vJ (cAff a0 p c) ?_;intro b1 hb;refine vJ (cAff b p1 c1) ?_;intro b2 hb1;refine xU [z0,vI 0] ?_;intro b3 hb2;refine zX rfl<|yW<|tL 10 [2,1] [(20,vA [z0,vI (W ((W (x*a0.Const))+(W (y*b.Const))))])]<|xU [z0,vI 0] ?_;intro b4 hb3;refine yY 0 [z0,vI (W ((W (x*a0.Const))+(W (y*b.Const))))] rfl<|zX rfl<|zZ<|yH [10] rfl<|wI<|qR [(1,vI x),(3,vI y),(4,vP b1 0),(6,vP b2 0),(8,vP b3 0),(9,vP b4 0),(10,vI 0)]<|zA6 Int fun h2=>?_;obtain ⟨o0,az,aF⟩:=zB N;refine zED a0 x b y 0 ([]:List Int) o0 az iR h1 h h2 nG nO ?_;intro aV Coefs1 p3 c3 av heq aA h4;subst o0;refine zR<|yW<|tL 1 [1] [(45,vA [vS p3 Coefs1 c3,vI (W ((W (x*a0.Const))+(W (y*b.Const))))])]<|yY 2 [vS p3 Coefs1 c3,vI (W ((W (x*a0.Const))+(W (y*b.Const))))] rfl<|zX rfl<|xF<|xB 0 rfl ?_;intro bx aK hl01;have h8:=SL.of_frozen hl01 aK h4;exact xO aF (resC 1 rfl rfl) zP ⟨_,rfl,rfl,⟨_,rfl,(yJ ⟨_,rfl,h8⟩)⟩⟩
def zGy (b0:Nat) (r:zF×zQ):KT:=fun kk I' af v=>
  ∃ v0 k0,af=[.blk b0 ⟨k0⟩]/\v=tupV [v0]/\(∃ cs,v0=.agg ⟨cs⟩/\Rp.rep I' cs r.1)/\Rp.rep I' k0 r.2
def zAX (r0:zQ) (depth:Int):Option (zF×zQ):=do
 let (y1,y2)<-xI r0 ([0,0,1,0,(-1)]:List Int);let y3<-vX y1;let (y5,y6)<-xI y2 ([3,4,2,3,1]:List Int);let y7<-vX y5;let (t23,x)<-(do
   if (decide (depth>0)) then
    let (y9,y10)<-xG y6 4;pure ((y9==0),y10)
   else
    pure (false,y6)
     : Option (Bool×zQ))
 let (x1,x2,x3)<-(do
   if t23 then
    let (y12,y13)<-xG x depth;let (y15,y16)<-xG y13 2;let (x4,x5)<-(do
      if (y15==0) then
       let y17<-jH y12;pure (y17,(zA.mk y7.Coefs y7.Const))
      else
       let y18<-jH y12;let y19<-vX 1;let y20<-jR y18 1 y19 1;pure ((zA.mk y3.Coefs y3.Const),y20)
        : Option (zA×zA))
    pure (x4,x5,y16)
   else
    pure ((zA.mk y3.Coefs y3.Const),(zA.mk y7.Coefs y7.Const),x)
     : Option (zA×zA×zQ))
 let (y22,y23)<-xG x3 12;let (Lo,Hi,x6)<-(do
   if (y22==0) then
    let (y25,y26)<-xI y23 ([3,2,4]:List Int);let y27<-vX y25;let l<-app 32 ([x2]:List zA) ([y27]:List zA);pure (([x1]:List zA),l,y26)
   else
    let (Lo1,x7)<-(do
      if (y22==1) then
       let (y29,y30)<-xI y23 ([0,1]:List Int);let y31<-vX y29;let l1<-app 32 ([x1]:List zA) ([y31]:List zA);pure (l1,y30)
      else
       pure (([x1]:List zA),y23)
        : Option (List zA×zQ))
    pure (Lo1,([x2]:List zA),x7)
     : Option (List zA×List zA×zQ))
 pure ((zF.mk Lo Hi),x6)
theorem zI5:∀ r0 depth r,zAX r0 depth=some r->∀ {I:Imm}{ar}{p c},(S4 I p r0.b c)->RT 198 [vP ar 0,vI depth] I [hB ar (cRd r0 p c)] (zGy ar r):=by
 intro r0 depth r N I ar p c h;unfold zAX at N;refine yI func198 fun B=>?_;have H:=iS I;refine yB<|xU zTwo ?_;intro b hb;refine zX rfl<|yW<|yE 1 [] [9] rfl<|mG (rI [0,0,1,0,(-1)]) ?_;intro b1 I0 le h2;have ⟨h,H⟩:=m2 le h H;refine tX (zY [1,0] (af:=[hB ar (cRd r0 p c),hB b zTwo])) ?_;obtain ⟨⟨y1,y2⟩,hy,N⟩:=zB N;refine rW (xS r0 ([0,0,1,0,(-1)]:List Int) _ hy h h2) rfl ?_;rintro aO aw v2 k2 aa - ⟨v0,kk,rfl,rfl,rfl,h4⟩ -;have H:=H.trans aa;obtain ⟨p1,c1,rfl,h5⟩:=yC h4;obtain ⟨y3,ay,N⟩:=zB N;refine xE (sB y1 _ ay ) ?_;rintro aV aw v2 k2 aA - ⟨p2,c2,cs,rfl,rfl,h6⟩ -;have ⟨h5,H⟩:=m2 aA h5 H;refine xU [z0,vI 0] ?_;intro b2 hb2;refine yY 0 (cAff y3 p2 c2) rfl<|zX rfl<|yW<|yE 1 [] [13] rfl<|mG (rI [3,4,2,3,1]) ?_;intro b3 bx aK h8;have ⟨h6,h5,H⟩:=m3 aK h6 h5 H;refine tX (zY [2,0,1,3] (af:=[hB ar (cRd y2 p1 c1),hB b2 (cAff y3 p2 c2),hO Int (vS p2 y3.Coefs c2) cs,hB b zTwo])) ?_;obtain ⟨⟨y5,y6⟩,aG,N⟩:=zB N;refine rW (xS y2 ([3,4,2,3,1]:List Int) _ aG h5 h8) rfl ?_;rintro bD aw v2 k2 aX - ⟨v02,kk1,rfl,rfl,rfl,h10⟩ -;have ⟨h6,H⟩:=m2 aX h6 H;obtain ⟨p3,c3,rfl,h11⟩:=yC h10;obtain ⟨y7,bc,N⟩:=zB N;refine xE (sB y5 _ bc ) ?_;rintro bI aw v2 k2 bf - ⟨p4,c4,av,rfl,rfl,h12⟩ -;have ⟨h11,h6,H⟩:=m3 bf h11 h6 H;refine xU [z0,vI 0] ?_;intro b4 hb4;refine yY 0 (cAff y7 p4 c4) rfl<|zX rfl<|zZ<|yA ?_;obtain ⟨o0,az,aT⟩:=zB N;refine oW (fun I' af m'=>∃ (t23:Bool) (x:zQ) (p5:Option Addr) (c5:Nat),o0=(t23,x)/\bI.le I'/\(S4 I' p5 x.b c5)/\af=[hB b4 (cAff y7 p4 c4),hO Int (vS p4 y7.Coefs c4) av,hB ar (cRd x p5 c5),hB b2 (cAff y3 p2 c2),hO Int (vS p2 y3.Coefs c2) cs,hB b zTwo]/\m'=[(0,vP ar 0),(1,vI depth),(4,vP b 0),(5,vP b2 0),(6,vP b4 0),(23,.bool t23)]) ?_ ?_
 · have H:=iS bI;refine zM<|yE 3 [] [19] rfl<|wL [19] az ?_ ?_
   · intro hc N;refine yE 4 [] [20] rfl<|tX (zY [2,0,1,3,4,5] (af:=[hB ar (cRd y6 p3 c3),hB b4 (cAff y7 p4 c4),hO Int (vS p4 y7.Coefs c4) av,hB b2 (cAff y3 p2 c2),hO Int (vS p2 y3.Coefs c2) cs,hB b zTwo])) ?_;obtain ⟨⟨y9,y10⟩,bu,N⟩:=zB N;refine rW (wD y6 4 _ bu h11) rfl ?_;rintro I07 aw v2 k2 bt - ⟨v04,kk2,rfl,rfl,rfl,h15⟩ -;have H:=H.trans bt;obtain ⟨p6,c6,rfl,h16⟩:=yC h15;exact yK [] [23] rfl<|wF (zW [1,2,0,3,4,5] rfl (by decide))<|yU<|zU ⟨_,_,_,_,(zD N).symm,H,h16,rfl,rfl⟩
   intro hc N;exact wR [] [(23,vF)]<|yU<|zU ⟨_,_,_,_,(zD N).symm,H,h11,rfl,rfl⟩
 rintro I06 aw m2 ⟨t23,x,p5,c5,heq,le7,h13,rfl,rfl⟩;subst o0;have ⟨h12,h6,H⟩:=m3 le7 h12 h6 H;refine zK<|pD 4 rfl ?_;intro I08 le8 hl02;have h17:=SL.of_frozen hl02 le8 h6;have ⟨h12,h13,H⟩:=m3 le8 h12 h13 H;refine pD 1 rfl ?_;intro I09 le9 hl03;have h18:=SL.of_frozen hl03 le9 h12;have ⟨h13,h17,H⟩:=m3 le9 h13 h17 H;obtain ⟨aN,aC,hMc1⟩:=zB aT;refine oW (fun I' af m'=>∃ (x1:zA) (x2:zA) (x3:zQ) (p7:Option Addr) (c7:Nat) (p8:Option Addr) (c8:Nat) (p9:Option Addr) (c9:Nat),aN=(x1,x2,x3)/\I09.le I'/\(S4 I' p7 x1.Coefs c7)/\(S4 I' p8 x2.Coefs c8)/\(S4 I' p9 x3.b c9)/\af=[hB b4 (cAff x2 p8 c8),hB ar (cRd x3 p9 c9),hB b2 (cAff x1 p7 c7),hB b zTwo]/\m'=[(0,vP ar 0),(4,vP b 0),(5,vP b2 0),(6,vP b4 0)]) ?_ ?_
 · have H:=iS I09;refine yG aC ?_ ?_
   · intro aH N;refine yB<|yE 2 [] [24,25] rfl<|tX (zY [1,0,2,3] (af:=[hB ar (cRd x p5 c5),hB b4 (cAff y7 p4 c4),hB b2 (cAff y3 p2 c2),hB b zTwo])) ?_;obtain ⟨⟨y12,y13⟩,bz,N⟩:=zB N;refine rW (wD x depth _ bz h13) rfl ?_;rintro bR aw v2 k2 le10 - ⟨v06,kk3,rfl,rfl,rfl,h23⟩ -;have ⟨h18,h17,H⟩:=m3 le10 h18 h17 H;obtain ⟨aQ,aM,rfl,h24⟩:=yC h23;refine yK [] [7] rfl<|yW<|yE 1 [] [27] rfl ?_;obtain ⟨⟨y15,y16⟩,hy6,N⟩:=zB N;refine rW (wD y13 2 _ hy6 h24) rfl ?_;rintro bO aw v2 k2 le11 - ⟨v08,kk4,rfl,rfl,rfl,h26⟩ -;have ⟨h18,h17,H⟩:=m3 le11 h18 h17 H;obtain ⟨aJ,aW,rfl,h27⟩:=yC h26;refine yK [] [29] rfl<|zK ?_;obtain ⟨o02,ho02,hMc2⟩:=zB N;refine oW (fun I' af m'=>∃ (x4:zA) (x5:zA) (br:Option Addr) (bd:Nat) (bh:Option Addr) (bj:Nat),o02=(x4,x5)/\bO.le I'/\(S4 I' br x4.Coefs bd)/\(S4 I' bh x5.Coefs bj)/\af=[hB ar (cRd y16 aJ aW),hB b4 (cAff x5 bh bj),hB b2 (cAff x4 br bd),hB b zTwo]/\m'=[(0,vP ar 0),(4,vP b 0),(5,vP b2 0),(6,vP b4 0)]) ?_ ?_
     · have H:=iS bO;refine yG ho02 ?_ ?_
       · intro aY N;refine zM<|yE 1 [] [30] rfl<|bE N fun y17 hy7 N=>xE (zAS y12 _ hy7 ) ?_;rintro I014 aw v2 k2 le12 - ⟨v010,rfl,rfl,⟨aP,rfl,h30⟩⟩ -;have ⟨h18,H⟩:=m2 le12 h18 H;obtain ⟨p14,c14,rfl,h31⟩:=yD h30;exact yY 2 (cAff y17 p14 c14) rfl<|zX rfl<|yU<|zU ⟨_,_,_,_,_,_,(zD N).symm,H,h31,h18,rfl,rfl⟩
       intro aY N;refine zM<|yE 1 [] [32] rfl<|bE N fun y18 hy8 N=>xE (zAS y12 _ hy8 ) ?_;rintro I015 aw v2 k2 le13 - ⟨v012,rfl,rfl,⟨aI,rfl,h32⟩⟩ -;have ⟨h17,H⟩:=m2 le13 h17 H;obtain ⟨p15,c15,rfl,h33⟩:=yD h32;obtain ⟨y19,hy9,N⟩:=zB N;refine xE (sB 1 _ hy9 ) ?_;rintro I016 aw v2 k2 le14 - ⟨p16,c16,bo,rfl,rfl,h34⟩ -;have ⟨h33,h17,H⟩:=m3 le14 h33 h17 H;refine xX 0 rfl ?_;intro I017 le15 hl04;have h35:=SL.of_frozen hl04 le15 h34;have ⟨h33,h17,H⟩:=m3 le15 h33 h17 H;obtain ⟨y20,hy10,N⟩:=zB N;refine xE (zCH y18 1 y19 1 _ hy10 h33 h35) ?_;rintro I018 aw v2 k2 le16 - ⟨v014,rfl,rfl,⟨bv,rfl,h36⟩⟩ -;have ⟨h17,H⟩:=m2 le16 h17 H;obtain ⟨p17,c17,rfl,h37⟩:=yD h36;exact yY 1 (cAff y20 p17 c17) rfl<|zX rfl<|yU<|zU ⟨_,_,_,_,_,_,(zD N).symm,H,h17,h37,rfl,rfl⟩
     rintro I013 aw m2 ⟨x4,x5,br,bd,bh,bj,heq1,le17,h28,h29,rfl,rfl⟩;subst o02;have ⟨h27,H⟩:=m2 le17 h27 H;exact wF (zW [1,0,2,3] rfl (by decide))<|yU<|zU ⟨_,_,_,_,_,_,_,_,_,(zD hMc2).symm,H,h28,h29,h27,rfl,rfl⟩
   intro aH N;exact zS<|yU<|zU ⟨_,_,_,_,_,_,_,_,_,(zD N).symm,H,h17,h18,h13,rfl,rfl⟩
 rintro bL aw m2 ⟨x1,x2,x3,p7,c7,p8,c8,p9,c9,heq2,le18,h19,h20,h21,rfl,rfl⟩;subst aN;have H:=H.trans le18;refine yW<|tL 1 [2] [(36,vA (cAff x1 p7 c7))]<|uV (cAff x1 p7 c7) zA ?_;intro b5 hb5;have h38:RL bL (cAff x1 p7 c7) ([x1]:List zA):=⟨(cAff x1 p7 c7),_,rfl,rfl,(yJ ⟨_,rfl,h19⟩),rfl⟩;refine tL 3 [1] [(38,vA (cAff x2 p8 c8))]<|uV (cAff x2 p8 c8) zA ?_;intro b6 hb6;have h39:RL bL (cAff x2 p8 c8) ([x2]:List zA):=⟨(cAff x2 p8 c8),_,rfl,rfl,(yJ ⟨_,rfl,h20⟩),rfl⟩;refine yE 5 [] [40] rfl<|xU zTwo ?_;intro b7 hb7;refine yY 0 [vS (some ⟨b5,0,none⟩) ([x1]:List zA) 1,vS (some ⟨b6,0,none⟩) ([x2]:List zA) 1] rfl<|zX rfl<|zZ<|yB<|yE 1 [] [41] rfl<|tX (zY [4,0,1,2,3,5,6] (af:=[hB ar (cRd x3 p9 c9),hB b7 [vS (some ⟨b5,0,none⟩) ([x1]:List zA) 1,vS (some ⟨b6,0,none⟩) ([x2]:List zA) 1],hO zA (vS (some ⟨b6,0,none⟩) ([x2]:List zA) 1) (cAff x2 p8 c8),hO zA (vS (some ⟨b5,0,none⟩) ([x1]:List zA) 1) (cAff x1 p7 c7),hB b4 (cAff x2 p8 c8),hB b2 (cAff x1 p7 c7),hB b zTwo])) ?_;obtain ⟨⟨y22,y23⟩,hy11,N⟩:=zB hMc1;refine rW (wD x3 12 _ hy11 h21) rfl ?_;rintro I019 aw v2 k2 le19 - ⟨v016,kk5,rfl,rfl,rfl,h41⟩ -;have ⟨h38,h39,H⟩:=m3 le19 h38 h39 H;obtain ⟨p18,c18,rfl,h42⟩:=yC h41;refine zX rfl<|wI<|yH [43] rfl<|zK<|pD 4 rfl ?_;intro I020 le20 hl05;have al:At I020 ⟨b4,0,none⟩ (cAff x2 p8 c8):=At.of_blk hl05;have ⟨h42,h38,h39,H⟩:=m4 le20 h42 h38 h39 H;refine pD 4 rfl ?_;intro I021 le21 hl06;have au:At I021 ⟨b2,0,none⟩ (cAff x1 p7 c7):=At.of_blk hl06;have ⟨h42,h38,h39,H⟩:=m4 le21 h42 h38 h39 H;obtain ⟨o03,ho03,hMc3⟩:=zB N;refine oW (fun I' af m'=>∃ (Lo:List zA) (Hi:List zA) (x6:zQ) (p19:Option Addr) (c19:Nat) (cs6:List Value) (p20:Option Addr) (c20:Nat) (cs7:List Value) (p21:Option Addr) (c21:Nat),o03=(Lo,Hi,x6)/\I021.le I'/\(RL I' cs6 Lo)/\(RL I' cs7 Hi)/\(S4 I' p21 x6.b c21)/\af=[hB ar (cRd x6 p21 c21),hB b7 [vS p19 Lo c19,vS p20 Hi c20],hO zA (vS p20 Hi c20) cs7,hO zA (vS p19 Lo c19) cs6,hB b zTwo]/\m'=[(4,vP b 0),(8,vP b7 0)]) ?_ ?_
 · have H:=iS I021;refine yG ho03 ?_ ?_
   · intro bC N;obtain ⟨⟨y25,y26⟩,hy12,N⟩:=zB N;obtain ⟨y27,hy13,N⟩:=zB N;obtain ⟨l,hy14,N⟩:=zB N;refine wO [.p (vP b7 1) [],.p (vS (some ⟨b6,0,none⟩) ([x2]:List zA) 1) [0],.p (vP ar 0) [],.x (fun I' v hx=>∃ b8,v=vS (some ⟨b8,0,none⟩) ([3,2,4]:List Int) 3/\hx=[]/\(SL I' (vS (some ⟨b8,0,none⟩) ([3,2,4]:List Int) 3) ([3,2,4]:List Int))),.x (fun I' v hx=>∃ p22 c22,v=vI y25/\hx=[hB ar (cRd y26 p22 c22)]/\(S4 I' p22 y26.b c22)),.x (fun I' v hx=>∃ p23 c23 cs8,v=vA (cAff y27 p23 c23)/\hx=[hO Int (vS p23 y27.Coefs c23) cs8]/\(RL I' cs8 y27.Coefs)),.x (fun I' v hx=>∃ b9,v=vS (some ⟨b9,0,none⟩) ([y27]:List zA) 1/\hx=[]/\(SL I' (vS (some ⟨b9,0,none⟩) ([y27]:List zA) 1) ([y27]:List zA))),.x (fun I' v hx=>∃ p24 c24 cs9,v=vS p24 l c24/\hx=[hO zA (vS p24 l c24) cs9]/\(RL I' cs9 l))] [[],[(0,false)],[],[],[(2,false),(3,false),(10,true)],[(4,false)],[(5,true)],[(1,false),(6,false),(11,true)]] [hB b7 [vS (some ⟨b5,0,none⟩) ([x1]:List zA) 1,vS (some ⟨b6,0,none⟩) ([x2]:List zA) 1],hO zA (vS (some ⟨b5,0,none⟩) ([x1]:List zA) 1) (cAff x1 p7 c7),hB b zTwo] [[hB ar (cRd y23 p18 c18)],[hO zA (vS (some ⟨b6,0,none⟩) ([x2]:List zA) 1) (cAff x2 p8 c8)]] [(4,true),(7,true)] (zY [1,3,4,0,2]) ?_ ?_
     · refine O3<|Ox ?_<|Ox ?_<|Ox ?_<|Ox ?_<|Ox ?_<|On
       · intro I1 hf aa;refine I_h [] ?_;have H:=iS I1;refine mG (rI [3,2,4]) ?_;intro b8 I023 le22 h47;have H:=H.trans le22;exact yL [] H ⟨_,rfl,rfl,h47⟩
       · rintro I1 hf aa _ _ ⟨rfl,rfl⟩ _ _ ⟨b8,rfl,rfl,h47⟩ _ _ rfl;refine yX [47,48] rfl ?_;have H:=iS I1;have h42:=h42.mono aa;refine rW (xS y23 ([3,2,4]:List Int) _ hy12 h42 h47) rfl ?_;rintro I024 aw v2 k2 le23 - ⟨v018,kk6,rfl,rfl,rfl,h49⟩ -;have H:=H.trans le23;obtain ⟨p22,c22,rfl,h50⟩:=yC h49;exact yL [hB ar (cRd y26 p22 c22)] H ⟨_,_,rfl,rfl,h50⟩
       · rintro I1 hf aa _ _ ⟨p22,c22,rfl,rfl,h50⟩;refine yX [49] rfl ?_;have H:=iS I1;refine xE (sB y25 _ hy13 ) ?_;rintro I025 aw v2 k2 le24 - ⟨p23,c23,cs8,rfl,rfl,h51⟩ -;have H:=H.trans le24;exact yL [hO Int (vS p23 y27.Coefs c23) cs8] H ⟨_,_,_,rfl,rfl,h51⟩
       · rintro I1 hf aa _ _ ⟨p23,c23,cs8,rfl,rfl,h51⟩;refine yX [50] rfl ?_;have H:=iS I1;refine xX 0 rfl ?_;intro I026 le25 hl08;have h52:=SL.of_frozen hl08 le25 h51;have H:=H.trans le25;refine mG (rc y27 (yJ ⟨_,rfl,h52⟩) rN) ?_;intro b9 I027 le26 h54;have H:=H.trans le26;exact yL [] H ⟨_,rfl,rfl,h54⟩
       rintro I1 hf aa _ _ ⟨rfl,rfl⟩ _ _ ⟨b9,rfl,rfl,h54⟩ _ _ rfl;refine yX [46,51] rfl ?_;have h39:=iM aa h39;obtain ⟨aL,k0,k01⟩:=h54;have h54:SL I1 (vS (some ⟨b9,0,none⟩) ([y27]:List zA) 1) ([y27]:List zA):=⟨_,k0,k01⟩;exact rF 69 2 0 rfl rfl rfl h39 (.inl k0) k01 hy14 fun p24 c24 cs9 h55=>wX (af:=(hO zA (vS p24 l c24) cs9::hB b7 [vS (some ⟨b5,0,none⟩) ([x1]:List zA) 1,vS (some ⟨b6,0,none⟩) ([x2]:List zA) 1]::hO zA (vS (some ⟨b5,0,none⟩) ([x1]:List zA) 1) (cAff x1 p7 c7)::hB b zTwo::hf)) rfl<|yL [hO zA (vS p24 l c24) cs9] iR ⟨_,_,_,rfl,rfl,h55⟩
     rintro I028 le27 _ _ ⟨p22,c22,rfl,rfl,h50⟩ _ _ ⟨p24,c24,cs9,rfl,rfl,h55⟩;refine yX [4,8,52] rfl ?_;have ⟨h38,H⟩:=m2 le27 h38 H;exact yE 9 [] [53] rfl<|yY 2 [vS (some ⟨b5,0,none⟩) ([x1]:List zA) 1,vS p24 l c24] rfl<|zX rfl<|wF (zW [1,2,0,3,4] rfl (by decide))<|yU<|zU ⟨_,_,_,_,_,_,_,_,_,_,_,(zD N).symm,H,h38,h55,h50,rfl,rfl⟩
   intro bC N;refine yH [54] rfl<|zK ?_;obtain ⟨o04,ho04,hMc4⟩:=zB N;refine oW (fun I' af m'=>∃ (Lo1:List zA) (x7:zQ) (p25:Option Addr) (c25:Nat) (cs10:List Value) (p26:Option Addr) (c26:Nat),o04=(Lo1,x7)/\I021.le I'/\(RL I' cs10 Lo1)/\(S4 I' p26 x7.b c26)/\af=[hB ar (cRd x7 p26 c26),hB b7 [vS p25 Lo1 c25,vS (some ⟨b6,0,none⟩) ([x2]:List zA) 1],hO zA (vS (some ⟨b6,0,none⟩) ([x2]:List zA) 1) (cAff x2 p8 c8),hO zA (vS p25 Lo1 c25) cs10,hB b zTwo]/\m'=[(4,vP b 0),(8,vP b7 0)]) ?_ ?_
   · have H:=iS I021;refine yG ho04 ?_ ?_
     · intro bJ N;obtain ⟨⟨y29,y30⟩,hy15,N⟩:=zB N;obtain ⟨y31,hy16,N⟩:=zB N;obtain ⟨l1,hy17,N⟩:=zB N;refine wO [.p (vP b7 0) [],.p (vS (some ⟨b5,0,none⟩) ([x1]:List zA) 1) [0],.p (vP ar 0) [],.x (fun I' v hx=>∃ b10,v=vS (some ⟨b10,0,none⟩) ([0,1]:List Int) 2/\hx=[]/\(SL I' (vS (some ⟨b10,0,none⟩) ([0,1]:List Int) 2) ([0,1]:List Int))),.x (fun I' v hx=>∃ p27 c27,v=vI y29/\hx=[hB ar (cRd y30 p27 c27)]/\(S4 I' p27 y30.b c27)),.x (fun I' v hx=>∃ p28 c28 cs11,v=vA (cAff y31 p28 c28)/\hx=[hO Int (vS p28 y31.Coefs c28) cs11]/\(RL I' cs11 y31.Coefs)),.x (fun I' v hx=>∃ b11,v=vS (some ⟨b11,0,none⟩) ([y31]:List zA) 1/\hx=[]/\(SL I' (vS (some ⟨b11,0,none⟩) ([y31]:List zA) 1) ([y31]:List zA))),.x (fun I' v hx=>∃ p29 c29 cs12,v=vS p29 l1 c29/\hx=[hO zA (vS p29 l1 c29) cs12]/\(RL I' cs12 l1))] [[],[(0,false)],[],[],[(2,false),(3,false),(10,true)],[(4,false)],[(5,true)],[(1,false),(6,false),(11,true)]] [hB b7 [vS (some ⟨b5,0,none⟩) ([x1]:List zA) 1,vS (some ⟨b6,0,none⟩) ([x2]:List zA) 1],hO zA (vS (some ⟨b6,0,none⟩) ([x2]:List zA) 1) (cAff x2 p8 c8),hB b zTwo] [[hB ar (cRd y23 p18 c18)],[hO zA (vS (some ⟨b5,0,none⟩) ([x1]:List zA) 1) (cAff x1 p7 c7)]] [(4,true),(7,true)] (zY [1,2,4,0,3]) ?_ ?_
       · refine O3<|Ox ?_<|Ox ?_<|Ox ?_<|Ox ?_<|Ox ?_<|On
         · intro I1 hf aa;refine I_h [] ?_;have H:=iS I1;refine mG (rI [0,1]) ?_;intro b10 I030 le28 h59;have H:=H.trans le28;exact yL [] H ⟨_,rfl,rfl,h59⟩
         · rintro I1 hf aa _ _ ⟨rfl,rfl⟩ _ _ ⟨b10,rfl,rfl,h59⟩ _ _ rfl;refine yX [58,59] rfl ?_;have H:=iS I1;have h42:=h42.mono aa;refine rW (xS y23 ([0,1]:List Int) _ hy15 h42 h59) rfl ?_;rintro I031 aw v2 k2 le29 - ⟨v020,kk7,rfl,rfl,rfl,h61⟩ -;have H:=H.trans le29;obtain ⟨p27,c27,rfl,h62⟩:=yC h61;exact yL [hB ar (cRd y30 p27 c27)] H ⟨_,_,rfl,rfl,h62⟩
         · rintro I1 hf aa _ _ ⟨p27,c27,rfl,rfl,h62⟩;refine yX [60] rfl ?_;have H:=iS I1;refine xE (sB y29 _ hy16 ) ?_;rintro I032 aw v2 k2 le30 - ⟨p28,c28,cs11,rfl,rfl,h63⟩ -;have H:=H.trans le30;exact yL [hO Int (vS p28 y31.Coefs c28) cs11] H ⟨_,_,_,rfl,rfl,h63⟩
         · rintro I1 hf aa _ _ ⟨p28,c28,cs11,rfl,rfl,h63⟩;refine yX [61] rfl ?_;have H:=iS I1;refine xX 0 rfl ?_;intro I033 le31 hl011;have h64:=SL.of_frozen hl011 le31 h63;have H:=H.trans le31;refine mG (rc y31 (yJ ⟨_,rfl,h64⟩) rN) ?_;intro b11 I034 le32 h66;have H:=H.trans le32;exact yL [] H ⟨_,rfl,rfl,h66⟩
         rintro I1 hf aa _ _ ⟨rfl,rfl⟩ _ _ ⟨b11,rfl,rfl,h66⟩ _ _ rfl;refine yX [57,62] rfl ?_;have h38:=iM aa h38;obtain ⟨bm,k02,k03⟩:=h66;have h66:SL I1 (vS (some ⟨b11,0,none⟩) ([y31]:List zA) 1) ([y31]:List zA):=⟨_,k02,k03⟩;exact rF 69 2 0 rfl rfl rfl h38 (.inl k02) k03 hy17 fun p29 c29 cs12 h67=>wX (af:=(hO zA (vS p29 l1 c29) cs12::hB b7 [vS (some ⟨b5,0,none⟩) ([x1]:List zA) 1,vS (some ⟨b6,0,none⟩) ([x2]:List zA) 1]::hO zA (vS (some ⟨b6,0,none⟩) ([x2]:List zA) 1) (cAff x2 p8 c8)::hB b zTwo::hf)) rfl<|yL [hO zA (vS p29 l1 c29) cs12] iR ⟨_,_,_,rfl,rfl,h67⟩
       rintro I035 le33 _ _ ⟨p27,c27,rfl,rfl,h62⟩ _ _ ⟨p29,c29,cs12,rfl,rfl,h67⟩;refine yX [4,8,63] rfl ?_;have H:=H.trans le33;exact yE 9 [] [64] rfl<|yY 2 [vS p29 l1 c29,vS (some ⟨b6,0,none⟩) ([x2]:List zA) 1] rfl<|zX rfl<|wF (zW [1,2,3,0,4] rfl (by decide))<|yU<|zU ⟨_,_,_,_,_,_,_,(zD N).symm,H,h67,h62,rfl,rfl⟩
     intro bJ N;exact zS<|yU<|zU ⟨_,_,_,_,_,_,_,(zD N).symm,H,h38,h42,rfl,rfl⟩
   rintro I029 aw m2 ⟨Lo1,x7,p25,c25,cs10,p26,c26,heq3,le34,h56,h57,rfl,rfl⟩;subst o04;have ⟨h39,H⟩:=m2 le34 h39 H;exact yU<|zU ⟨_,_,_,_,_,_,_,_,_,_,_,(zD hMc4).symm,H,h56,h39,h57,rfl,rfl⟩
 rintro I022 aw m2 ⟨Lo,Hi,x6,p19,c19,cs6,p20,c20,cs7,p21,c21,heq4,le35,h43,h44,h45,rfl,rfl⟩;subst o03;refine zO<|yW<|tL 1 [1] [(65,vA [vS p19 Lo c19,vS p20 Hi c20])]<|yY 4 [vS p19 Lo c19,vS p20 Hi c20] rfl<|zX rfl<|xF<|xB 3 rfl ?_;intro I036 le36 hl013;have h68:=SL.of_frozen hl013 le36 h43;have ⟨h45,h44⟩:=m2 le36 h45 h44;refine xB 2 rfl ?_;intro I037 le37 hl014;have h69:=SL.of_frozen hl014 le37 h44;have ⟨h45,h68⟩:=m2 le37 h45 h68;exact xO hMc3 (resC 2 rfl rfl) (zW [0] rfl (by decide)) ⟨_,_,rfl,rfl,⟨_,rfl,(uJ ⟨_,_,rfl,h68,h69⟩)⟩,(yZ ⟨_,rfl,h45⟩)⟩
def zGz (b0:Nat) (r:(List zF)×zQ):KT:=fun kk I' af v=>
  ∃ v0 k0,af=[.blk b0 ⟨k0⟩]/\v=tupV [v0]/\SL I' v0 r.1/\Rp.rep I' k0 r.2
def mX (out:List zF) (i:Int) (x:zQ):Option ((List zF×zQ)):=do
 if (decide (i>0)) then
  let (y4,y5)<-zAX x (out.length:Int);let ap<-app 48 out ([y4]:List zF);mX ap (W (i - 1)) y5
 else pure (out,x)
 partial_fixpoint
theorem zGO :∀ (out:List zF) (i:Int) (x:zQ) (o:(List zF×zQ)),mX out i x=some o->∀ {B}{I0 I:Imm}{Q}  {ar}{p2 c2 cs p3 c3},I0.le I->(RL I cs out)->(S4 I p3 x.b c3)->NG Q->NO Q->(∀ I' ah x1 p4 c4 av p5 c5,o=(ah,x1)->I0.le I'->(RL I' av ah)->(S4 I' p5 x1.b c5)->T 21 B Q (.exit 0) I' [hB ar (cRd x1 p5 c5),hO zF (vS p4 ah c4) av] [(3,vS p4 ah c4)])->J Tryz.prog 21 B (nav (bodyOf f182) [1,1,0,1,0]) Q I [hB ar (cRd x p3 c3),hO zF (vS p2 out c2) cs] [(0,vP ar 0),(3,vS p2 out c2),(4,vI i)]:=by
 refine mX.partial_correctness  _ fun aE ih out i x o N B I0 I Q ar p2 c2 cs p3 c3 H h7 h8 hg ho hx=>yQ hg ho<|yA<|yH [10] rfl<|zK<|yG N ?_ ?_
 · intro hc N;refine zS<|zZ<|yF<|zM<|yE 4 [] [13,14,16] rfl ?_;obtain ⟨⟨y4,y5⟩,ay,N⟩:=zB N;refine rW (zI5 x (out.length:Int) _ ay h8) rfl ?_;rintro aV aw v2 k2 aA - ⟨v02,kk1,rfl,rfl,⟨aP,rfl,h11⟩,h12⟩ -;have ⟨h7,H⟩:=m2 aA h7 H;obtain ⟨p6,c6,p7,c7,rfl,h13,h14⟩:=wY h11;obtain ⟨p8,c8,rfl,h15⟩:=yC h12;refine uV (cLoop y4 p6 c6 p7 c7) zF ?_;intro b2 hb2;have h16:RL aV (cLoop y4 p6 c6 p7 c7) ([y4]:List zF):=⟨(cLoop y4 p6 c6 p7 c7),_,rfl,rfl,(uJ ⟨_,_,rfl,h13,h14⟩),rfl⟩;obtain ⟨ap,aG,N⟩:=zB N;exact rF 130 2 2 rfl rfl rfl h7 (.inr ⟨0,rfl⟩) h16 aG fun p9 c9 aI h17=>tX (zY [1,2] (af:=[hB ar (cRd y5 p8 c8),hO zF (vS p9 ap c9) aI]))<|yK [] [3] rfl<|zO<|zK<|zM<|yK [] [4] rfl<|yP<|oT<|ih ap (W (i - 1)) y5 _ N H h17 h15 hg ho hx
 intro hc N;exact wP<|yU<|hx _ _ _ _ _ _ _ _ (zD N).symm H h7 h8
def zAY (r0:zQ):Option ((List zF)×zQ):=do
 let (y1,y2)<-xI r0 ([2,1,2,3]:List Int);let (ah,x1)<-mX ([]:List zF) y1 y2;pure (ah,x1)
theorem zI6:∀ r0 r,zAY r0=some r->∀ {I:Imm}{ar}{p c},(S4 I p r0.b c)->RT 182 [vP ar 0] I [hB ar (cRd r0 p c)] (zGz ar r):=by
 intro r0 r N I ar p c h;unfold zAY at N;refine yI func182 fun B=>wT []<|yW<|uV [] zF ?_;intro b hb;have h1:RL I [] ([]:List zF):=rfl;refine yK [] [3] rfl<|zZ<|yB<|yE 1 [] [6] rfl<|mG (rI [2,1,2,3]) ?_;intro b1 I0 le h3;have ⟨h1,h⟩:=m2 le h1 h;refine tX (zY [1,0] (af:=[hB ar (cRd r0 p c),hO zF (vS (some ⟨b,0,none⟩) ([]:List zF) 0) []])) ?_;obtain ⟨⟨y1,y2⟩,hy,N⟩:=zB N;refine rW (xS r0 ([2,1,2,3]:List Int) _ hy h h3) rfl ?_;rintro aO aw v2 k2 aa - ⟨v0,kk,rfl,rfl,rfl,h5⟩ -;have h1:=iM aa h1;obtain ⟨p1,c1,rfl,h6⟩:=yC h5;refine yK [] [4] rfl<|wI<|qR [(0,vP ar 0),(3,vS (some ⟨b,0,none⟩) ([]:List zF) 0),(4,vI y1)] ?_;obtain ⟨o0,az,aF⟩:=zB N;refine zGO ([]:List zF) y1 y2 o0 az iR h1 h6 nG nO ?_;intro bx ah x1 p4 c4 av p5 c5 heq aK h9 h10;subst o0;refine zR<|vW [2] rfl<|xF<|xB 1 rfl ?_;intro bD aX hl01;have h18:=SL.of_frozen hl01 aX h9;have h10:=h10.mono aX;exact xO aF (resT rfl) (zW [0] rfl (by decide)) ⟨_,_,rfl,rfl,h18,(yZ ⟨_,rfl,h10⟩)⟩
def zHA (b0:Nat) (r:zG×zQ):KT:=fun kk I' af v=>
  ∃ v0 k0,af=[.blk b0 ⟨k0⟩]/\v=tupV [v0]/\(∃ cs,v0=.agg ⟨cs⟩/\Rp.rep I' cs r.1)/\Rp.rep I' k0 r.2
def mY (depth:Int) (n0:Int) (i:Int) (Subs:List zA) (x:zQ):Option ((List zA×zQ)):=do
 if (decide (i<n0)) then
  let (y4,y5)<-xI x ([0,1,0,2]:List Int);let y6<-vX y4;let (t32,x2)<-(do
    if (decide (depth>0)) then
     let (y8,y9)<-xG y5 5;pure ((decide (y8>0)),y9)
    else
     pure (false,y5)
      : Option (Bool×zQ))
  let (x3,x4)<-(do
    if t32 then
     let (y11,y12)<-xG x2 depth;let y13<-jH y11;let (y15,y16)<-xI y12 ([1,1,1,2,(-1)]:List Int);let (y18,y19)<-xI y16 ([0,1,0,0,2]:List Int);let y20<-vX y18;let y21<-jR y13 y15 y20 1;pure (y21,y19)
    else
     pure ((zA.mk y6.Coefs y6.Const),x2)
      : Option (zA×zQ))
  let l<-app 32 Subs ([x3]:List zA);mY depth n0 (W (i+1)) l x4
 else pure (Subs,x)
 partial_fixpoint
theorem zGP (depth:Int) (n0:Int):∀ (i:Int) (Subs:List zA) (x:zQ) (o:(List zA×zQ)),mY depth n0 i Subs x=some o->∀ {B}{I0 I:Imm}{Q}{y1:Str}{ar b b2}{p2 c2 cs p3 c3},I0.le I->(RL I cs Subs)->(S4 I p3 x.b c3)->NG Q->NO Q->(∀ I' Subs1 x1 p4 c4 av p5 c5,o=(Subs1,x1)->I0.le I'->(RL I' av Subs1)->(S4 I' p5 x1.b c5)->T 53 B Q (.exit 0) I' [hO zA (vS p4 Subs1 c4) av,hB b2 [vT y1.l,vS p4 Subs1 c4],hB ar (cRd x1 p5 c5),hB b [vT ([]),z0]] [(4,vP b 0),(5,vP b2 0)])->J Tryz.prog 53 B (nav (bodyOf f119) [1,1,1,1,0,1,0]) Q I [hO zA (vS p2 Subs c2) cs,hB b2 [vT y1.l,vS p2 Subs c2],hB ar (cRd x p3 c3),hB b [vT ([]),z0]] [(0,vP ar 0),(1,vI depth),(4,vP b 0),(5,vP b2 0),(6,vI n0),(7,vI i)]:=by
 refine mY.partial_correctness depth n0 _ fun aE ih i Subs x o N B I0 I Q y1 ar b b2 p2 c2 cs p3 c3 H h7 h8 hg ho hx=>yQ hg ho<|yA<|yH [19] rfl<|zK<|yG N ?_ ?_
 · intro aH N;refine zS<|zZ<|yF<|yB<|yE 1 [] [22] rfl<|mG (rI [0,1,0,2]) ?_;intro b3 bx aK h12;have ⟨h7,h8,H⟩:=m3 aK h7 h8 H;refine tX (zY [2,0,1,3] (af:=[hB ar (cRd x p3 c3),hO zA (vS p2 Subs c2) cs,hB b2 [vT y1.l,vS p2 Subs c2],hB b [vT ([]),z0]])) ?_;obtain ⟨⟨y4,y5⟩,ay,N⟩:=zB N;refine rW (xS x ([0,1,0,2]:List Int) _ ay h8 h12) rfl ?_;rintro bD aw v2 k2 aX - ⟨v02,kk1,rfl,rfl,rfl,h14⟩ -;have ⟨h7,H⟩:=m2 aX h7 H;obtain ⟨p6,c6,rfl,h15⟩:=yC h14;obtain ⟨y6,aG,N⟩:=zB N;refine xE (sB y4 _ aG ) ?_;rintro bI aw v2 k2 bf - ⟨p7,c7,aP,rfl,rfl,h16⟩ -;have ⟨h15,h7,H⟩:=m3 bf h15 h7 H;refine xU [z0,vI 0] ?_;intro b4 hb4;refine yY 0 (cAff y6 p7 c7) rfl<|zX rfl<|zZ<|yA ?_;obtain ⟨aN,aC,hMc1⟩:=zB N;refine oW (fun I' af m'=>∃ (t32:Bool) (x2:zQ) (p8:Option Addr) (c8:Nat),aN=(t32,x2)/\bI.le I'/\(S4 I' p8 x2.b c8)/\af=[hB b4 (cAff y6 p7 c7),hO Int (vS p7 y6.Coefs c7) aP,hB ar (cRd x2 p8 c8),hO zA (vS p2 Subs c2) cs,hB b2 [vT y1.l,vS p2 Subs c2],hB b [vT ([]),z0]]/\m'=[(0,vP ar 0),(1,vI depth),(4,vP b 0),(5,vP b2 0),(6,vI n0),(7,vI i),(8,vP b4 0),(32,.bool t32)]) ?_ ?_
   · have H:=iS bI;refine zM<|yE 3 [] [28] rfl<|wL [28] aC ?_ ?_
     · intro aY N;refine yE 4 [] [29] rfl<|tX (zY [2,0,1,3,4,5] (af:=[hB ar (cRd y5 p6 c6),hB b4 (cAff y6 p7 c7),hO Int (vS p7 y6.Coefs c7) aP,hO zA (vS p2 Subs c2) cs,hB b2 [vT y1.l,vS p2 Subs c2],hB b [vT ([]),z0]])) ?_;obtain ⟨⟨y8,y9⟩,bc,N⟩:=zB N;refine rW (wD y5 5 _ bc h15) rfl ?_;rintro I07 aw v2 k2 bt - ⟨v04,kk2,rfl,rfl,rfl,h19⟩ -;have H:=H.trans bt;obtain ⟨p9,c9,rfl,h20⟩:=yC h19;exact yK [] [32] rfl<|wF (zW [1,2,0,3,4,5] rfl (by decide))<|yU<|zU ⟨_,_,_,_,(zD N).symm,H,h20,rfl,rfl⟩
     intro aY N;exact wR [] [(32,vF)]<|yU<|zU ⟨_,_,_,_,(zD N).symm,H,h15,rfl,rfl⟩
   rintro I06 aw m2 ⟨t32,x2,p8,c8,heq1,le7,h17,rfl,rfl⟩;subst aN;have ⟨h16,h7,H⟩:=m3 le7 h16 h7 H;refine zK<|pD 1 rfl ?_;intro I08 le8 hl02;have h21:=SL.of_frozen hl02 le8 h16;have ⟨h17,h7,H⟩:=m3 le8 h17 h7 H;obtain ⟨o02,ho02,hMc2⟩:=zB hMc1;refine oW (fun I' af m'=>∃ (x3:zA) (x4:zQ) (aQ:Option Addr) (aM:Nat) (aJ:Option Addr) (aW:Nat),o02=(x3,x4)/\I08.le I'/\(S4 I' aQ x3.Coefs aM)/\(S4 I' aJ x4.b aW)/\af=[hB b4 (cAff x3 aQ aM),hB ar (cRd x4 aJ aW),hO zA (vS p2 Subs c2) cs,hB b2 [vT y1.l,vS p2 Subs c2],hB b [vT ([]),z0]]/\m'=[(0,vP ar 0),(1,vI depth),(4,vP b 0),(5,vP b2 0),(6,vI n0),(7,vI i),(8,vP b4 0)]) ?_ ?_
   · have H:=iS I08;refine yG ho02 ?_ ?_
     · intro bC N;refine yB<|yE 2 [] [33,34] rfl<|tX (zY [1,0,2,3,4] (af:=[hB ar (cRd x2 p8 c8),hB b4 (cAff y6 p7 c7),hO zA (vS p2 Subs c2) cs,hB b2 [vT y1.l,vS p2 Subs c2],hB b [vT ([]),z0]])) ?_;obtain ⟨⟨y11,y12⟩,bu,N⟩:=zB N;refine rW (wD x2 depth _ bu h17) rfl ?_;rintro bL aw v2 k2 le9 - ⟨v06,kk3,rfl,rfl,rfl,h25⟩ -;have H:=H.trans le9;obtain ⟨br,bd,rfl,h26⟩:=yC h25;refine yK [] [9] rfl<|zK<|zM<|yE 1 [] [36] rfl<|bE N fun y13 bz N=>xE (zAS y11 _ bz ) ?_;rintro bR aw v2 k2 le10 - ⟨v08,rfl,rfl,⟨aI,rfl,h27⟩⟩ -;have ⟨h26,H⟩:=m2 le10 h26 H;obtain ⟨bh,bj,rfl,h28⟩:=yD h27;refine yE 3 [] [38] rfl<|mG (rI [1,1,1,2,(-1)]) ?_;intro b5 bO le11 h30;have ⟨h28,h26,H⟩:=m3 le11 h28 h26 H;obtain ⟨⟨y15,y16⟩,hy6,N⟩:=zB N;refine rW (xS y12 ([1,1,1,2,(-1)]:List Int) _ hy6 h26 h30) rfl ?_;rintro I013 aw v2 k2 le12 - ⟨v010,kk4,rfl,rfl,rfl,h32⟩ -;have ⟨h28,H⟩:=m2 le12 h28 H;obtain ⟨p14,c14,rfl,h33⟩:=yC h32;refine yE 6 [] [41] rfl<|mG (rI [0,1,0,0,2]) ?_;intro b6 I014 le13 h35;have ⟨h28,h33,H⟩:=m3 le13 h28 h33 H;obtain ⟨⟨y18,y19⟩,hy7,N⟩:=zB N;refine rW (xS y16 ([0,1,0,0,2]:List Int) _ hy7 h33 h35) rfl ?_;rintro I015 aw v2 k2 le14 - ⟨v012,kk5,rfl,rfl,rfl,h37⟩ -;have ⟨h28,H⟩:=m2 le14 h28 H;obtain ⟨p15,c15,rfl,h38⟩:=yC h37;obtain ⟨y20,hy8,N⟩:=zB N;refine xE (sB y18 _ hy8 ) ?_;rintro I016 aw v2 k2 le15 - ⟨p16,c16,bo,rfl,rfl,h39⟩ -;have ⟨h28,h38,H⟩:=m3 le15 h28 h38 H;refine xX 0 rfl ?_;intro I017 le16 hl05;have h40:=SL.of_frozen hl05 le16 h39;have ⟨h28,h38,H⟩:=m3 le16 h28 h38 H;obtain ⟨y21,hy9,N⟩:=zB N;refine xE (zCH y13 y15 y20 1 _ hy9 h28 h40) ?_;rintro I018 aw v2 k2 le17 - ⟨v014,rfl,rfl,⟨bv,rfl,h41⟩⟩ -;have ⟨h38,H⟩:=m2 le17 h38 H;obtain ⟨p17,c17,rfl,h42⟩:=yD h41;exact yY 1 (cAff y21 p17 c17) rfl<|zX rfl<|wF (zW [1,0,2,3,4] rfl (by decide))<|yU<|zU ⟨_,_,_,_,_,_,(zD N).symm,H,h42,h38,rfl,rfl⟩
     intro bC N;exact zS<|yU<|zU ⟨_,_,_,_,_,_,(zD N).symm,H,h21,h17,rfl,rfl⟩
   rintro I09 aw m2 ⟨x3,x4,aQ,aM,aJ,aW,heq2,le18,h22,h23,rfl,rfl⟩;subst o02;have ⟨h7,H⟩:=m2 le18 h7 H;refine zK<|zM<|tL 3 [3,0] [(47,vS p2 Subs c2),(48,vA (cAff x3 aQ aM))]<|uV (cAff x3 aQ aM) zA ?_;intro b7 hb7;have h43:RL I09 (cAff x3 aQ aM) ([x3]:List zA):=⟨(cAff x3 aQ aM),_,rfl,rfl,(yJ ⟨_,rfl,h22⟩),rfl⟩;obtain ⟨l,hy10,N⟩:=zB hMc2;refine rF 69 2 3 rfl rfl rfl h7 (.inr ⟨0,rfl⟩) h43 hy10 ?_;intro p18 c18 cs6 h44;exact tX (zY [1,2,3,4,5] (af:=[hB b4 (cAff x3 aQ aM),hB ar (cRd x4 aJ aW),hO zA (vS p18 l c18) cs6,hB b2 [vT y1.l,vS p2 Subs c2],hB b [vT ([]),z0]]))<|yE 6 [] [51] rfl<|yY 3 [vT y1.l,vS p18 l c18] rfl<|zX rfl<|zO<|zK<|zM<|yK [] [7] rfl<|yP<|pU (zW [2,3,1,4] rfl (by decide))<|oT<|ih (W (i+1)) l x4 _ N H h44 h23 hg ho hx
 intro aH N;exact wP<|yU<|hx _ _ _ _ _ _ _ _ (zD N).symm H h7 h8
def fG (r0:zQ) (depth:Int):Option (zG×zQ):=do
 let (y1,y2)<-qN r0 ([(⟨[65]⟩:Str),(⟨[66]⟩:Str),(⟨[65]⟩:Str),(⟨[67]⟩:Str)]:List Str);let n0<-(do
   if (y1.l==([66]:List UInt8)) then pure (id 2)
   else
    pure (id 1)
     : Option Int)
 let (Subs1,x1)<-mY depth n0 0 ([]:List zA) y2;pure ((zG.mk y1 Subs1),x1)
theorem zEE:∀ r0 depth r,fG r0 depth=some r->∀ {I:Imm}{ar}{p c},(S4 I p r0.b c)->RT 119 [vP ar 0,vI depth] I [hB ar (cRd r0 p c)] (zHA ar r):=by
 intro r0 depth r N I ar p c h;unfold fG at N;refine yI func119 fun B=>?_;have H:=iS I;refine yB<|xU [vT ([]),z0] ?_;intro b hb;refine zX rfl<|yW<|yE 1 [] [10] rfl<|mG (rT [(⟨[65]⟩:Str),(⟨[66]⟩:Str),(⟨[65]⟩:Str),(⟨[67]⟩:Str)]) ?_;intro b1 I0 le h2;have ⟨h,H⟩:=m2 le h H;refine tX (zY [1,0] (af:=[hB ar (cRd r0 p c),hB b [vT ([]),z0]])) ?_;obtain ⟨⟨y1,y2⟩,hy,N⟩:=zB N;refine rW (jP r0 ([(⟨[65]⟩:Str),(⟨[66]⟩:Str),(⟨[65]⟩:Str),(⟨[67]⟩:Str)]:List Str) _ hy h h2) rfl ?_;rintro aO aw v2 k2 aa - ⟨v0,kk,rfl,rfl,rfl,h4⟩ -;have H:=H.trans aa;obtain ⟨p1,c1,rfl,h5⟩:=yC h4;refine yE 4 [] [13] rfl<|xU [vT ([]),z0] ?_;intro b2 hb2;refine yY 0 [vT y1.l,z0] rfl<|zX rfl<|vW [6] rfl<|zZ<|yB<|yK [0] [16] rfl<|zK ?_;refine wZ N [hB b2 [vT y1.l,z0],hB ar (cRd y2 p1 c1),hB b [vT ([]),z0]] (fun n0=>[(0,vP ar 0),(1,vI depth),(4,vP b 0),(5,vP b2 0),(6,vI n0)]) (fun o0 az=>?_) ?_
 · have H:=iS aO;refine yG az ?_ ?_
   · intro hc N;exact zM<|yK [] [6] rfl<|yU<|zU (ct N H)
   intro hc N;exact zS<|yU<|zU (ct N H)
 intro n0 aV aA aT;have h5:=h5.mono aA;refine zZ<|yH [7] rfl<|wI<|qR [(0,vP ar 0),(1,vI depth),(4,vP b 0),(5,vP b2 0),(6,vI n0),(7,vI 0)]<|zA6 zA fun h6=>?_;obtain ⟨o03,ho03,aF⟩:=zB aT;refine zGP depth n0 0 ([]:List zA) y2 o03 ho03 iR h6 h5 nG nO ?_;intro I019 Subs1 x1 p4 c4 av p5 c5 heq3 le19 h9 h10;subst o03;refine zR<|yW<|tL 1 [1] [(52,vA [vT y1.l,vS p4 Subs1 c4])]<|yY 3 [vT y1.l,vS p4 Subs1 c4] rfl<|zX rfl<|xF<|xB 0 rfl ?_;intro I020 le20 hl06;have h45:=SL.of_frozen hl06 le20 h9;have h10:=h10.mono le20;exact xO aF (resC 2 rfl rfl) (zW [1] rfl (by decide)) ⟨_,_,rfl,rfl,⟨_,rfl,(rK ⟨_,rfl,h45⟩)⟩,(yZ ⟨_,rfl,h10⟩)⟩
def zHB (b0:Nat) (r:zA×zQ):KT:=fun kk I' af v=>
  ∃ v0 k0,af=[.blk b0 ⟨k0⟩]/\v=tupV [v0]/\(∃ cs,v0=.agg ⟨cs⟩/\Rp.rep I' cs r.1)/\Rp.rep I' k0 r.2
def mZ (depth:Int) (i:Int) (Coefs:List Int) (x:zQ):Option ((List Int×zQ)):=do
 if (decide (i<depth)) then
  let (y5,y6)<-xI x ([0,1,0,(-1),2,0,9]:List Int);let x2<-idx Coefs i;let l<-pure (Coefs.set i.toNat y5);mZ depth (W (i+1)) l y6
 else pure (Coefs,x)
 partial_fixpoint
theorem zGQ (depth:Int):∀ (i:Int) (Coefs:List Int) (x:zQ) (o:(List Int×zQ)),mZ depth i Coefs x=some o->∀ {B}{I0 I:Imm}{Q}{y3:zA}{ar b b2}{p3 c3 av p4 c4},I0.le I->(RL I av Coefs)->(S4 I p4 x.b c4)->NG Q->NO Q->(∀ I' Coefs1 x1 p5 c5 aP p6 c6,o=(Coefs1,x1)->I0.le I'->(RL I' aP Coefs1)->(S4 I' p6 x1.b c6)->T 24 B Q (.exit 0) I' [hB b2 [vS p5 Coefs1 c5,vI y3.Const],hO Int (vS p5 Coefs1 c5) aP,hB ar (cRd x1 p6 c6),hB b [z0,vI 0]] [(4,vP b 0),(5,vP b2 0)])->J Tryz.prog 24 B (nav (bodyOf f211) [1,1,0,1,0]) Q I [hB b2 [vS p3 Coefs c3,vI y3.Const],hO Int (vS p3 Coefs c3) av,hB ar (cRd x p4 c4),hB b [z0,vI 0]] [(0,vP ar 0),(1,vI depth),(4,vP b 0),(5,vP b2 0),(6,vI i)]:=by
 refine mZ.partial_correctness depth _ fun aE ih i Coefs x o N B I0 I Q y3 ar b b2 p3 c3 av p4 c4 H h7 h8 hg ho hx=>yQ hg ho<|yA<|yH [13] rfl<|zK<|yG N ?_ ?_
 · intro hc N;refine zS<|zZ<|yF ?_;obtain ⟨⟨y5,y6⟩,aG,N⟩:=zB N;refine wO [.p (vP b2 0) [],.p (vS p3 Coefs c3) [0],.p (vI i) [],.p (vP ar 0) [],.x (fun I' v hx=>∃ b3,v=vS (some ⟨b3,0,none⟩) ([0,1,0,(-1),2,0,9]:List Int) 7/\hx=[]/\(SL I' (vS (some ⟨b3,0,none⟩) ([0,1,0,(-1),2,0,9]:List Int) 7) ([0,1,0,(-1),2,0,9]:List Int))),.x (fun I' v hx=>∃ p7 c7,v=vI y5/\hx=[hB ar (cRd y6 p7 c7)]/\(S4 I' p7 y6.b c7))] [[],[(0,false)],[],[],[],[(3,false),(4,false),(8,true)]] [hB b2 [vS p3 Coefs c3,vI y3.Const],hO Int (vS p3 Coefs c3) av,hB b [z0,vI 0]] [[hB ar (cRd x p4 c4)]] [(1,false),(2,false),(5,true)] (zY [0,1,3,2]) ?_ ?_
   · refine O4<|Ox ?_<|Ox ?_<|On
     · intro I1 hf aa;refine I_h [] ?_;have H:=iS I1;refine mG (rI [0,1,0,(-1),2,0,9]) ?_;intro b3 bx aK h12;have H:=H.trans aK;exact yL [] H ⟨_,rfl,rfl,h12⟩
     rintro I1 hf aa _ _ ⟨rfl,rfl⟩ _ _ ⟨b3,rfl,rfl,h12⟩ _ _ rfl;refine yX [19,20] rfl ?_;have H:=iS I1;have h8:=h8.mono aa;refine rW (xS x ([0,1,0,(-1),2,0,9]:List Int) _ aG h8 h12) rfl ?_;rintro bD aw v2 k2 aX - ⟨v02,kk1,rfl,rfl,rfl,h14⟩ -;have H:=H.trans aX;obtain ⟨p7,c7,rfl,h15⟩:=yC h14;exact yL [hB ar (cRd y6 p7 c7)] H ⟨_,_,rfl,rfl,h15⟩
   rintro bI bf _ _ ⟨rfl,rfl⟩ _ _ ⟨rfl,rfl⟩ _ _ ⟨p7,c7,rfl,rfl,h15⟩;refine yX [0,1,4,5,6,17,18,21] rfl ?_;have ⟨h7,H⟩:=m2 bf h7 H;obtain ⟨x2,bc,N⟩:=zB N;refine mA 2 rfl rfl rfl h7 bc ?_;intro ad aL al bG aj;obtain rfl:=aj;obtain ⟨l,bu,N⟩:=zB N;refine zKu 2 0 al bG h7 bc bu rfl ?_;intro aI h16 hl02;rw [vE hl02];exact zX rfl<|zO<|zK<|zM<|yK [] [6] rfl<|yP<|pU (zW [1,2,0,3] rfl (by decide))<|oT<|ih (W (i+1)) l y6 _ N H h16 h15 hg ho hx
 intro hc N;exact wP<|yU<|hx _ _ _ _ _ _ _ _ (zD N).symm H h7 h8
def dD (r0:zQ) (depth:Int):Option (zA×zQ):=do
 let (y1,y2)<-xI r0 ([0,1,(-1),2,0,5,(-9),99]:List Int);let y3<-vX y1;let (Coefs1,x1)<-mZ depth 0 y3.Coefs y2;pure ((zA.mk Coefs1 y3.Const),x1)
theorem zI7:∀ r0 depth r,dD r0 depth=some r->∀ {I:Imm}{ar}{p c},(S4 I p r0.b c)->RT 211 [vP ar 0,vI depth] I [hB ar (cRd r0 p c)] (zHB ar r):=by
 intro r0 depth r N I ar p c h;unfold dD at N;refine yI func211 fun B=>yB<|xU [z0,vI 0] ?_;intro b hb;refine zX rfl<|yW<|yE 1 [] [7] rfl<|mG (rI [0,1,(-1),2,0,5,(-9),99]) ?_;intro b1 I0 le h2;have h:=h.mono le;refine tX (zY [1,0] (af:=[hB ar (cRd r0 p c),hB b [z0,vI 0]])) ?_;obtain ⟨⟨y1,y2⟩,hy,N⟩:=zB N;refine rW (xS r0 ([0,1,(-1),2,0,5,(-9),99]:List Int) _ hy h h2) rfl ?_;rintro aO aw v2 k2 aa - ⟨v0,kk,rfl,rfl,rfl,h4⟩ -;obtain ⟨p1,c1,rfl,h5⟩:=yC h4;obtain ⟨y3,ay,N⟩:=zB N;refine xE (sB y1 _ ay ) ?_;rintro aV aw v2 k2 aA - ⟨p2,c2,cs,rfl,rfl,h6⟩ -;have h5:=h5.mono aA;refine xU [z0,vI 0] ?_;intro b2 hb2;refine yY 0 (cAff y3 p2 c2) rfl<|zX rfl<|zZ<|yH [6] rfl<|wI<|qR [(0,vP ar 0),(1,vI depth),(4,vP b 0),(5,vP b2 0),(6,vI 0)] ?_;obtain ⟨o0,az,aF⟩:=zB N;refine zGQ depth 0 y3.Coefs y2 o0 az iR h6 h5 nG nO ?_;intro I06 Coefs1 x1 p5 c5 aP p6 c6 heq bt h9 h10;subst o0;refine zR<|yW<|tL 1 [0] [(23,vA [vS p5 Coefs1 c5,vI y3.Const])]<|yY 3 [vS p5 Coefs1 c5,vI y3.Const] rfl<|zX rfl<|xF<|xB 1 rfl ?_;intro I07 le7 hl03;have h17:=SL.of_frozen hl03 le7 h9;have h10:=h10.mono le7;exact xO aF (resC 2 rfl rfl) (zW [1] rfl (by decide)) ⟨_,_,rfl,rfl,⟨_,rfl,(yJ ⟨_,rfl,h17⟩)⟩,(yZ ⟨_,rfl,h10⟩)⟩
def zCI (b0:Nat) (r:zH×zQ):KT:=fun kk I' af v=>
  ∃ v0 k0,af=[.blk b0 ⟨k0⟩]/\v=tupV [v0]/\(∃ cs,v0=.agg ⟨cs⟩/\Rp.rep I' cs r.1)/\Rp.rep I' k0 r.2
mutual
def nF (r0:zQ) (depth:Int) (ai:Int):Option (zH×zQ):=do
 let (t15,x)<-(do
   if (decide (ai<2)) then pure (true,r0)
   else
    let (y1,y2)<-xG r0 4;pure ((y1==0),y2)
     : Option (Bool×zQ))
 if t15 then
  let (y4,y5)<-xG x 4;if (y4==0) then
   let (y7,y8)<-xI y5 ([1,2,0,99,3]:List Int);pure ((zH.mk 1 y7 (zA.mk ([]:List Int) 0) (zG.mk (⟨[]⟩:Str) ([]:List zA)) ([]:List zH)),y8)
  else
   if (y4==1) then
    let (y10,y11)<-dD y5 depth;pure ((zH.mk 2 0 y10 (zG.mk (⟨[]⟩:Str) ([]:List zA)) ([]:List zH)),y11)
   else
    let (y13,y14)<-fG y5 depth;pure ((zH.mk 3 0 (zA.mk ([]:List Int) 0) y13 ([]:List zH)),y14)
 else
  let (y16,y17)<-xI x ([4,6,5,4]:List Int);let (Kids1,x2)<-kV (same depth) (same ai) (same 0) ([]:List zH) (same y17);pure ((zH.mk y16 0 (zA.mk ([]:List Int) 0) (zG.mk (⟨[]⟩:Str) ([]:List zA)) Kids1),x2)
 partial_fixpoint
def kV (depth:Int) (ai:Int) (i:Int) (Kids:List zH) (x1:zQ):Option ((List zH×zQ)):=do
 if (decide (i<2)) then
  let (y19,y20)<-nF (same x1) (same depth) (W (ai - 1));let l<-app 112 Kids ([y19]:List zH);kV (same depth) (same ai) (W (i+1)) (same l) (same y20)
 else pure (Kids,x1)
 partial_fixpoint
end
theorem zHC:(∀ (r0:zQ) (depth:Int) (ai:Int) r,nF r0 depth ai=some r->∀ {I:Imm}{ar}{p c},(S4 I p r0.b c)->RT 199 [vP ar 0,vI depth,vI ai] I [hB ar (cRd r0 p c)] (zCI ar r))/\(∀ (depth:Int) (ai:Int) (i:Int) (Kids:List zH) (x1:zQ) o,kV depth ai i Kids x1=some o->∀ {B}{I0 I:Imm}{Q}{y16:Int}{ar b b3}{aQ aM aP aJ aW},I0.le I->(RL I aP Kids)->(S4 I aJ x1.b aW)->NG Q->NO Q->(∀ I' Kids1 x2 br bd aI bh bj,o=(Kids1,x2)->I0.le I'->(RL I' aI Kids1)->(S4 I' bh x2.b bj)->T 53 B Q (.exit 1) I' [hO zH (vS br Kids1 bd) aI,hB b3 [vI y16,vI 0,z0,vI 0,vT ([]),z0,vS br Kids1 bd],hB ar (cRd x2 bh bj),hB b zExpr] [(6,vP b 0),(7,vP b3 0)])->J Tryz.prog 53 B (nav (bodyOf f199) [1,1,1,0,1,0]) Q I [hO zH (vS aQ Kids aM) aP,hB b3 [vI y16,vI 0,z0,vI 0,vT ([]),z0,vS aQ Kids aM],hB ar (cRd x1 aJ aW),hB b zExpr] [(0,vP ar 0),(1,vI depth),(2,vI ai),(6,vP b 0),(7,vP b3 0),(8,vI i)]):=by
  refine nF.mutual_partial_correctness _ _ ?_ ?_
  · intro F_spec_l3Value_l1 ih_spec_l3Value_l1 r0 depth ai r N I ar p c h;refine yI func199 fun B=>?_;have H:=iS I;refine yB<|xU zExpr ?_;intro b hb;refine zX rfl<|zZ<|yA ?_;obtain ⟨o0,az,aT⟩:=zB N;refine oW (fun I' af m'=>∃ (t15:Bool) (x:zQ) (p1:Option Addr) (c1:Nat),o0=(t15,x)/\I.le I'/\(S4 I' p1 x.b c1)/\af=[hB b zExpr,hB ar (cRd x p1 c1)]/\m'=[(0,vP ar 0),(1,vI depth),(2,vI ai),(6,vP b 0),(15,.bool t15)]) ?_ ?_
    · have H:=iS I;refine zM<|yE 3 [] [11] rfl<|wL [11] az ?_ ?_
      · intro hc N;exact wR [] [(15,vY)]<|yU<|zU ⟨_,_,_,_,(zD N).symm,H,h,rfl,rfl⟩
      intro hc N;refine yE 4 [] [12] rfl<|tX (zY [1,0] (af:=[hB ar (cRd r0 p c),hB b zExpr])) ?_;obtain ⟨⟨y1,y2⟩,hy,N⟩:=zB N;refine rW (wD r0 4 _ hy h) rfl ?_;rintro aO aw v2 k2 le - ⟨v0,kk,rfl,rfl,rfl,h3⟩ -;have H:=H.trans le;obtain ⟨p2,c2,rfl,h4⟩:=yC h3;exact yK [] [15] rfl<|wF (zW [1,0] rfl (by decide))<|yU<|zU ⟨_,_,_,_,(zD N).symm,H,h4,rfl,rfl⟩
    rintro I0 aw m2 ⟨t15,x,p1,c1,heq,aa,h1,rfl,rfl⟩;subst o0;refine zK<|yG aT ?_ ?_
    · intro aH N;refine yA<|yB<|yE 1 [] [16] rfl<|tX (zY [1,0] (af:=[hB ar (cRd x p1 c1),hB b zExpr])) ?_;obtain ⟨⟨y4,y5⟩,ay,N⟩:=zB N;refine rW (wD x 4 _ ay h1) rfl ?_;rintro aV aw v2 k2 aA - ⟨v02,kk1,rfl,rfl,rfl,h6⟩ -;obtain ⟨p3,c3,rfl,h7⟩:=yC h6;refine zX rfl<|wI<|yH [18] rfl<|zK<|yG N ?_ ?_
      · intro aY N;refine yB<|yE 1 [] [20] rfl<|mG (rI [1,2,0,99,3]) ?_;intro b1 bx aK h9;have h7:=h7.mono aK;obtain ⟨⟨y7,y8⟩,aG,N⟩:=zB N;refine rW (xS y5 ([1,2,0,99,3]:List Int) _ aG h7 h9) rfl ?_;rintro bD aw v2 k2 aX - ⟨v04,kk2,rfl,rfl,rfl,h11⟩ -;obtain ⟨p4,c4,rfl,h12⟩:=yC h11;refine yE 4 [] [23] rfl<|yY 1 [vI 1,vI y7,z0,vI 0,vT ([]),z0,z0] rfl<|zX rfl<|xF<|zV<|zJ<|zJ ?_;exact xO N (resC 1 rfl rfl) (zW [0] rfl (by decide)) ⟨_,_,rfl,rfl,⟨_,rfl,(wB ⟨_,_,_,rfl,(SL.nil _),(SL.nil _),(SL.nil _)⟩)⟩,(yZ ⟨_,rfl,h12⟩)⟩
      intro aY N;refine yH [24] rfl<|zK<|yG N ?_ ?_
      · intro bC N;refine yB<|yE 2 [] [26,27] rfl ?_;obtain ⟨⟨y10,y11⟩,bc,N⟩:=zB N;refine rW (zI7 y5 depth _ bc h7) rfl ?_;rintro bI aw v2 k2 bf - ⟨v06,kk3,rfl,rfl,⟨cs,rfl,h13⟩,h14⟩ -;obtain ⟨p5,c5,rfl,h15⟩:=yD h13;obtain ⟨p6,c6,rfl,h16⟩:=yC h14;refine yE 4 [] [29] rfl<|yY 1 [vI 2,vI 0,vS p5 y10.Coefs c5,vI y10.Const,vT ([]),z0,z0] rfl<|zX rfl<|xF<|zV<|zJ<|zJ ?_;exact xO N (resC 1 rfl rfl) (zW [0] rfl (by decide)) ⟨_,_,rfl,rfl,⟨_,rfl,(wB ⟨_,_,_,rfl,h15,(SL.nil _),(SL.nil _)⟩)⟩,(yZ ⟨_,rfl,h16⟩)⟩
      intro bC N;refine zS<|zO<|yW<|yE 2 [] [30,31] rfl ?_;obtain ⟨⟨y13,y14⟩,bu,N⟩:=zB N;refine rW (zEE y5 depth _ bu h7) rfl ?_;rintro I06 aw v2 k2 bt - ⟨v09,kk4,rfl,rfl,⟨av,rfl,h17⟩,h18⟩ -;obtain ⟨p7,c7,rfl,h19⟩:=uK h17;obtain ⟨p8,c8,rfl,h20⟩:=yC h18;refine yE 4 [] [33] rfl<|yY 1 [vI 3,vI 0,z0,vI 0,vT y13.Array.l,vS p7 y13.Subs c7,z0] rfl<|zX rfl<|xF<|zJ ?_;exact xO N (resC 1 rfl rfl) (zW [0] rfl (by decide)) ⟨_,_,rfl,rfl,⟨_,rfl,(wB ⟨_,_,_,rfl,(SL.nil _),h19,(SL.nil _)⟩)⟩,(yZ ⟨_,rfl,h20⟩)⟩
    intro aH N;refine zS<|yW<|yE 1 [] [34] rfl<|mG (rI [4,6,5,4]) ?_;intro b2 I07 le7 h22;have h1:=h1.mono le7;refine tX (zY [1,0] (af:=[hB ar (cRd x p1 c1),hB b zExpr])) ?_;obtain ⟨⟨y16,y17⟩,bz,N⟩:=zB N;refine rW (xS x ([4,6,5,4]:List Int) _ bz h1 h22) rfl ?_;rintro I08 aw v2 k2 le8 - ⟨v012,kk5,rfl,rfl,rfl,h24⟩ -;obtain ⟨p9,c9,rfl,h25⟩:=yC h24;refine yE 4 [] [37] rfl<|xU zExpr ?_;intro b3 hb3;refine yY 0 [vI y16,vI 0,z0,vI 0,vT ([]),z0,z0] rfl<|zX rfl<|zZ<|yH [8] rfl<|wI<|qR [(0,vP ar 0),(1,vI depth),(2,vI ai),(6,vP b 0),(7,vP b3 0),(8,vI 0)]<|zA6 zH fun h26=>?_;obtain ⟨aN,aC,aF⟩:=zB N;refine ih_spec_l3Value_l1 depth ai 0 ([]:List zH) y17 aN aC iR h26 h25 nG nO ?_;intro bO Kids1 x2 br bd aI bh bj heq1 le12 h29 h30;subst aN;refine zR<|yW<|tL 1 [1] [(52,vA [vI y16,vI 0,z0,vI 0,vT ([]),z0,vS br Kids1 bd])]<|yY 3 [vI y16,vI 0,z0,vI 0,vT ([]),z0,vS br Kids1 bd] rfl<|zX rfl<|xF<|xB 0 rfl ?_;intro I013 le13 hl03;have h40:=SL.of_frozen hl03 le13 h29;have h30:=h30.mono le13;exact xO aF (resC 2 rfl rfl) (zW [1] rfl (by decide)) ⟨_,_,rfl,rfl,⟨_,rfl,(wB ⟨_,_,_,rfl,(SL.nil _),(SL.nil _),h40⟩)⟩,(yZ ⟨_,rfl,h30⟩)⟩
  intro F_spec_l3Value F_spec_l3Value_l1 ih_spec_l3Value ih_spec_l3Value_l1 depth ai i Kids x1 o N B I0 I Q y16 ar b b3 aQ aM aP aJ aW H h27 h28 hg ho hx;refine yQ hg ho<|yA<|yH [39] rfl<|zK<|yG N ?_ ?_
  · intro bJ N;refine zS<|zZ<|yF ?_;obtain ⟨⟨y19,y20⟩,hy6,N⟩:=zB N;obtain ⟨l,hy7,N⟩:=zB N;refine wO [.p (vP b3 6) [],.p (vS aQ Kids aM) [0],.p (vP ar 0) [],.p (vI depth) [],.p (vI ai) [],.p (vI (W (ai - 1))) [],.x (fun I' v hx=>∃ p14 c14 p15 c15 p16 c16 p17 c17,v=vA (cExpr y19 p14 c14 p15 c15 p16 c16)/\hx=[hB ar (cRd y20 p17 c17)]/\(S4 I' p14 y19.Index.Coefs c14)/\(S4 I' p15 y19.Read.Subs c15)/\(S4 I' p16 y19.Kids c16)/\(S4 I' p17 y20.b c17)),.x (fun I' v hx=>∃ b4,v=vS (some ⟨b4,0,none⟩) ([y19]:List zH) 1/\hx=[]/\(SL I' (vS (some ⟨b4,0,none⟩) ([y19]:List zH) 1) ([y19]:List zH))),.x (fun I' v hx=>∃ p18 c18 bv,v=vS p18 l c18/\hx=[hO zH (vS p18 l c18) bv]/\(RL I' bv l))] [[],[(0,false)],[],[],[],[(4,false)],[(2,false),(3,false),(5,false),(11,true)],[(6,false)],[(1,false),(7,false),(12,true)]] [hB b3 [vI y16,vI 0,z0,vI 0,vT ([]),z0,vS aQ Kids aM],hB b zExpr] [[hB ar (cRd x1 aJ aW)],[hO zH (vS aQ Kids aM) aP]] [(6,true),(8,true)] (zY [1,3,2,0]) ?_ ?_
    · refine O4<|O2<|Ox ?_<|Ox ?_<|Ox ?_<|On
      · rintro I1 hf aa _ _ ⟨rfl,rfl⟩ _ _ ⟨rfl,rfl⟩ _ _ ⟨rfl,rfl⟩ _ _ rfl;refine yX [44,45,47] rfl ?_;have H:=iS I1;have h28:=h28.mono aa;refine rW (ih_spec_l3Value x1 depth (W (ai - 1)) _ hy6 h28) rfl ?_;rintro I09 aw v2 k2 le9 - ⟨v014,kk6,rfl,rfl,⟨bo,rfl,h31⟩,h32⟩ -;have H:=H.trans le9;obtain ⟨p14,c14,p15,c15,p16,c16,rfl,h33,h34,h35⟩:=wQ h31;obtain ⟨p17,c17,rfl,h36⟩:=yC h32;exact yL [hB ar (cRd y20 p17 c17)] H ⟨_,_,_,_,_,_,_,_,rfl,rfl,h33,h34,h35,h36⟩
      · rintro I1 hf aa _ _ ⟨p14,c14,p15,c15,p16,c16,p17,c17,rfl,rfl,h33,h34,h35,h36⟩;refine yX [48] rfl ?_;have H:=iS I1;refine mG (rc y19 (wB ⟨_,_,_,rfl,h33,h34,h35⟩) rN) ?_;intro b4 bL le10 h38;have H:=H.trans le10;exact yL [] H ⟨_,rfl,rfl,h38⟩
      rintro I1 hf aa _ _ ⟨rfl,rfl⟩ _ _ ⟨b4,rfl,rfl,h38⟩ _ _ rfl;refine yX [43,49] rfl ?_;have h27:=iM aa h27;obtain ⟨aL,k0,k01⟩:=h38;have h38:SL I1 (vS (some ⟨b4,0,none⟩) ([y19]:List zH) 1) ([y19]:List zH):=⟨_,k0,k01⟩;exact rF 72 7 0 rfl rfl rfl h27 (.inl k0) k01 hy7 fun p18 c18 bv h39=>wX (af:=(hO zH (vS p18 l c18) bv::hB b3 [vI y16,vI 0,z0,vI 0,vT ([]),z0,vS aQ Kids aM]::hB b zExpr::hf)) rfl<|yL [hO zH (vS p18 l c18) bv] iR ⟨_,_,_,rfl,rfl,h39⟩
    rintro bR le11 _ _ ⟨p14,c14,p15,c15,p16,c16,p17,c17,rfl,rfl,h33,h34,h35,h36⟩ _ _ ⟨p18,c18,bv,rfl,rfl,h39⟩;refine yX [0,1,2,6,7,8,50] rfl ?_;have H:=H.trans le11;exact yE 10 [] [51] rfl<|yY 2 [vI y16,vI 0,z0,vI 0,vT ([]),z0,vS p18 l c18] rfl<|zX rfl<|zO<|zK<|zM<|yK [] [8] rfl<|yP<|pU (zW [0,2,1,3] rfl (by decide))<|oT<|ih_spec_l3Value_l1 depth ai (W (i+1)) l y20 _ N H h39 h36 hg ho hx
  intro bJ N;exact wP<|yU<|hx _ _ _ _ _ _ _ _ (zD N).symm H h27 h28
theorem zHf:∀ r0 depth ai r,nF r0 depth ai=some r->∀ {I:Imm}{ar}{p c},(S4 I p r0.b c)->RT 199 [vP ar 0,vI depth,vI ai] I [hB ar (cRd r0 p c)] (zCI ar r):=zHC.1
def zHD (b0:Nat) (r:zL×zQ):KT:=fun kk I' af v=>
  ∃ v0 k0,af=[.blk b0 ⟨k0⟩]/\v=tupV [v0]/\(∃ cs,v0=.agg ⟨cs⟩/\Rp.rep I' cs r.1)/\Rp.rep I' k0 r.2
def zAZ (r0:zQ) (depth:Int):Option (zL×zQ):=do
 let (y1,y2)<-fG r0 depth;let (y4,y5)<-xI y2 ([2,3,1,2]:List Int);let (y7,y8)<-nF y5 depth y4;let y9<-qW (zL.mk y1 y7) depth;if y9 then pure ((zL.mk y1 y7),y8)
 else
  let y10<-kM;pure ((zL.mk (zG.mk (⟨[65]⟩:Str) ([y10]:List zA)) (zH.mk 1 1 (zA.mk ([]:List Int) 0) (zG.mk (⟨[]⟩:Str) ([]:List zA)) ([]:List zH))),y8)
theorem zI8:∀ r0 depth r,zAZ r0 depth=some r->∀ {I:Imm}{ar}{p c},(S4 I p r0.b c)->RT 183 [vP ar 0,vI depth] I [hB ar (cRd r0 p c)] (zHD ar r):=by
 intro r0 depth r N I ar p c h;unfold zAZ at N;refine yI func183 fun B=>yB<|xU [vT ([]),z0,vI 0,vI 0,z0,vI 0,vT ([]),z0,z0] ?_;intro b hb;refine zX rfl<|yW<|yE 2 [] [6,7] rfl<|tX (zY [1,0] (af:=[hB ar (cRd r0 p c),hB b [vT ([]),z0,vI 0,vI 0,z0,vI 0,vT ([]),z0,z0]])) ?_;obtain ⟨⟨y1,y2⟩,hy,N⟩:=zB N;refine rW (zEE r0 depth _ hy h) rfl ?_;rintro I0 aw v2 k2 le - ⟨v0,kk,rfl,rfl,⟨cs,rfl,h1⟩,h2⟩ -;obtain ⟨p1,c1,rfl,h3⟩:=uK h1;obtain ⟨p2,c2,rfl,h4⟩:=yC h2;refine yE 6 [] [9,10,11] rfl<|mG (rI [2,3,1,2]) ?_;intro b1 aO aa h6;have ⟨h3,h4⟩:=m2 aa h3 h4;obtain ⟨⟨y4,y5⟩,ay,N⟩:=zB N;refine rW (xS y2 ([2,3,1,2]:List Int) _ ay h4 h6) rfl ?_;rintro aV aw v2 k2 aA - ⟨v03,kk1,rfl,rfl,rfl,h8⟩ -;have h3:=h3.mono aA;obtain ⟨p3,c3,rfl,h9⟩:=yC h8;obtain ⟨⟨y7,y8⟩,aG,N⟩:=zB N;refine rW (zHf y5 depth y4 _ aG h9) rfl ?_;rintro bx aw v2 k2 aK - ⟨v05,kk2,rfl,rfl,⟨av,rfl,h10⟩,h11⟩ -;have h3:=h3.mono aK;obtain ⟨p4,c4,p5,c5,p6,c6,rfl,h12,h13,h14⟩:=wQ h10;obtain ⟨p7,c7,rfl,h15⟩:=yC h11;refine yE 10 [] [15] rfl<|xU [vT ([]),z0,vI 0,vI 0,z0,vI 0,vT ([]),z0,z0] ?_;intro b2 hb2;refine yY 0 [vT y1.Array.l,vS p1 y1.Subs c1,vI y7.Kind,vI y7.Num,vS p4 y7.Index.Coefs c4,vI y7.Index.Const,vT y7.Read.Array.l,vS p5 y7.Read.Subs c5,vS p6 y7.Kids c6] rfl<|zX rfl<|zZ<|yB<|tL 2 [0] [(16,vA [vT y1.Array.l,vS p1 y1.Subs c1,vI y7.Kind,vI y7.Num,vS p4 y7.Index.Coefs c4,vI y7.Index.Const,vT y7.Read.Array.l,vS p5 y7.Read.Subs c5,vS p6 y7.Kids c6]),(17,vI depth)]<|bE N fun y9 bc N=>tH (zAg (zL.mk y1 y7) depth _ bc h3 h12 h13 h14) ?_;intro bD aX;have ⟨h3,h12,h13,h14,h15⟩:=m5 aX h3 h12 h13 h14 h15;refine zX rfl<|zK<|yG N ?_ ?_
 · intro hc N;refine yB<|tL 1 [0] [(19,vA [vT y1.Array.l,vS p1 y1.Subs c1,vI y7.Kind,vI y7.Num,vS p4 y7.Index.Coefs c4,vI y7.Index.Const,vT y7.Read.Array.l,vS p5 y7.Read.Subs c5,vS p6 y7.Kids c6])]<|yY 2 [vT y1.Array.l,vS p1 y1.Subs c1,vI y7.Kind,vI y7.Num,vS p4 y7.Index.Coefs c4,vI y7.Index.Const,vT y7.Read.Array.l,vS p5 y7.Read.Subs c5,vS p6 y7.Kids c6] rfl<|zX rfl<|xF<|zJ ?_;exact xO N (resC 2 rfl rfl) (zW [1] rfl (by decide)) ⟨_,_,rfl,rfl,⟨_,rfl,(wC ⟨_,_,_,_,rfl,h3,h12,h13,h14⟩)⟩,(yZ ⟨_,rfl,h15⟩)⟩
 intro hc N;refine zS<|yW<|bE N fun y10 bu N=>xE (fS  _ bu ) ?_;rintro bI aw v2 k2 bf - ⟨p8,c8,aP,rfl,rfl,h17⟩ -;have h15:=h15.mono bf;refine xX 0 rfl ?_;intro I06 bt hl01;have h18:=SL.of_frozen hl01 bt h17;have h15:=h15.mono bt;refine uV (cAff y10 p8 c8) zA ?_;intro b3 hb3;have h19:RL I06 (cAff y10 p8 c8) ([y10]:List zA):=⟨(cAff y10 p8 c8),_,rfl,rfl,(yJ ⟨_,rfl,h18⟩),rfl⟩;refine yE 5 [] [24] rfl<|yY 3 [vT ([65]),vS (some ⟨b3,0,none⟩) ([y10]:List zA) 1,vI 1,vI 1,z0,vI 0,vT ([]),z0,z0] rfl<|zX rfl<|xF<|xB 0 rfl ?_;intro I07 le7 hl02;have h20:=SL.of_frozen hl02 le7 h19;have h15:=h15.mono le7;exact xO N (resC 2 rfl rfl) (zW [1] rfl (by decide)) ⟨_,_,rfl,rfl,⟨_,rfl,(wC ⟨_,_,_,_,rfl,h20,(SL.nil _),(SL.nil _),(SL.nil _)⟩)⟩,(yZ ⟨_,rfl,h15⟩)⟩
def zCJ (r:(List zF)×Bool):KT:=fun kk I' af v=>
  ∃ v0 v1,af=[]/\v=tupV [v0,v1]/\SL I' v0 r.1/\v1=.bool r.2
def nH (sizes:(List Int)) (out:List zF) (i:Int):Option (Out (List zF) ((List zF)×Bool)):=do
 if (decide (i<(sizes.length:Int))) then
  let t28<-(do
    let x<-idx sizes i;if (decide (x<0)) then pure true
    else
     let x1<-idx sizes i;pure (decide (x1>99))
      : Option Bool)
  if t28 then pure (.ret (([]:List zF),false))
  else
   let y<-kM;let x2<-idx sizes i;let y1<-vX x2;let ap<-app 48 out ([(zF.mk ([y]:List zA) ([y1]:List zA))]:List zF);nH sizes ap (W (i+1))
 else pure (.done out)
 partial_fixpoint
theorem zFQ (sizes:(List Int)):∀ (out:List zF) (i:Int) (o:Out (List zF) ((List zF)×Bool)),nH sizes out i=some o->∀ {B}{I0 I:Imm}{Q p c p1 c1 cs},I0.le I->(S4 I p sizes c)->(RL I cs out)->NG Q->NO Q->(∀ I' ah p2 c2 av,o=(.done ah)->I0.le I'->(RL I' av ah)->T 43 B Q (.exit 0) I' [hO zF (vS p2 ah c2) av] [(4,vS p2 ah c2)])->(∀ r I' af m',o=(.ret r)->I0.le I'->RS Tryz.prog f184 B (zCJ  r) I' af m'->T 43 B Q .ret I' af m')->J Tryz.prog 43 B (nav (bodyOf f184) [1,1,1,0,1,0]) Q I [hO zF (vS p1 out c1) cs] [(0,vS p sizes c),(4,vS p1 out c1),(5,vI i)]:=by
 refine nH.partial_correctness sizes _ fun aE ih out i o N B I0 I Q p c p1 c1 cs H h h3 hg ho hx hr=>yQ hg ho<|yA<|yH [14] rfl<|zK<|yG N ?_ ?_
 · intro aH N;refine zS<|zZ<|yF<|yA<|yA ?_;refine wZ N [hO zF (vS p1 out c1) cs] (fun t28=>[(0,vS p sizes c),(4,vS p1 out c1),(5,vI i),(28,.bool t28)]) (fun o0 az=>?_) ?_
   · have H:=iS I;refine zM<|yE 2 [] [17,18] rfl ?_;obtain ⟨x,hy,N⟩:=zB az;refine xR rfl rfl h hy ?_;intro ad aL al aj;obtain rfl:=aj;refine xH 0 al [vI x] (vI x) rfl<|yE 6 [] [22] rfl<|wL [22] N ?_ ?_
     · intro aY N;exact wR [] [(28,vY)]<|yU<|zU (ct N H)
     intro aY N;refine yE 8 [] [23,24] rfl<|bE N fun x1 ay N=>xR rfl rfl h ay ?_;intro ad1 bm au ax;obtain rfl:=ax;exact xH 0 au [vI x1] (vI x1) rfl<|yK [] [28] rfl<|yU<|zU (ct N H)
   intro t28 aO aa aT;have ⟨h,h3,H⟩:=m3 aa h h3 H;refine zK<|yG aT ?_ ?_
   · intro bC N;refine yB<|uV [] zF ?_;intro b1 hb1;have h5:RL aO [] ([]:List zF):=rfl;refine yK [] [2,3] rfl<|xF<|zJ<|zV<|zJ<|zJ<|xB 0 rfl ?_;intro aV aA hl01;have h6:=SL.of_frozen hl01 aA h5;have H:=H.trans aA;exact hr _ _ _ _ (zD N).symm H ⟨_,_,(resU rfl rfl),zP,⟨_,_,rfl,rfl,h6,rfl⟩⟩
   intro bC N;refine zS<|zK ?_;obtain ⟨y,aG,N⟩:=zB N;obtain ⟨x2,bc,N⟩:=zB N;obtain ⟨y1,bu,N⟩:=zB N;obtain ⟨ap,bz,N⟩:=zB N;refine wO [.p (vS p1 out c1) [],.x (fun I' v hx=>∃ p3 c3 aP,v=vA (cAff y p3 c3)/\hx=[hO Int (vS p3 y.Coefs c3) aP]/\(RL I' aP y.Coefs)),.x (fun I' v hx=>∃ b2,v=vS (some ⟨b2,0,none⟩) ([y]:List zA) 1/\hx=[]/\(SL I' (vS (some ⟨b2,0,none⟩) ([y]:List zA) 1) ([y]:List zA))),.p (vS p sizes c) [],.p (vI i) [],.x (fun I' v hx=>∃ ad2,v=.pointer (some ad2)/\hx=[]/\(At I' ad2 [vI x2])),.q (vI x2),.x (fun I' v hx=>∃ p4 c4 aI,v=vA (cAff y1 p4 c4)/\hx=[hO Int (vS p4 y1.Coefs c4) aI]/\(RL I' aI y1.Coefs)),.x (fun I' v hx=>∃ b3,v=vS (some ⟨b3,0,none⟩) ([y1]:List zA) 1/\hx=[]/\(SL I' (vS (some ⟨b3,0,none⟩) ([y1]:List zA) 1) ([y1]:List zA))),.x (fun I' v hx=>∃ b21 b31,v=vA [vS (some ⟨b21,0,none⟩) ([y]:List zA) 1,vS (some ⟨b31,0,none⟩) ([y1]:List zA) 1]/\hx=[]/\(SL I' (vS (some ⟨b21,0,none⟩) ([y]:List zA) 1) ([y]:List zA))/\(SL I' (vS (some ⟨b31,0,none⟩) ([y1]:List zA) 1) ([y1]:List zA))),.x (fun I' v hx=>∃ b4,v=vS (some ⟨b4,0,none⟩) ([(zF.mk ([y]:List zA) ([y1]:List zA))]:List zF) 1/\hx=[]/\(SL I' (vS (some ⟨b4,0,none⟩) ([(zF.mk ([y]:List zA) ([y1]:List zA))]:List zF) 1) ([(zF.mk ([y]:List zA) ([y1]:List zA))]:List zF))),.x (fun I' v hx=>∃ p5 c5 bo,v=vS p5 ap c5/\hx=[hO zF (vS p5 ap c5) bo]/\(RL I' bo ap))] [[],[],[(1,true)],[],[],[(3,false),(4,false)],[(5,false)],[(6,false)],[(7,true)],[(2,false),(8,false)],[(9,false)],[(0,false),(10,false),(13,true)]] [] [[hO zF (vS p1 out c1) cs]] [(11,true)] (zY [0]) ?_ ?_
   · refine Op<|Ox ?_<|Ox ?_<|O2<|Ox ?_<|Oq ?_<|Ox ?_<|Ox ?_<|Ox ?_<|Ox ?_<|Ox ?_<|On
     · intro I1 hf aa;refine I_h [] ?_;have H:=iS I1;refine xE (fS  _ aG ) ?_;rintro bx aw v2 k2 aK - ⟨p3,c3,aP,rfl,rfl,h7⟩ -;have H:=H.trans aK;exact yL [hO Int (vS p3 y.Coefs c3) aP] H ⟨_,_,_,rfl,rfl,h7⟩
     · rintro I1 hf aa _ _ ⟨p3,c3,aP,rfl,rfl,h7⟩;refine yX [31] rfl ?_;have H:=iS I1;refine xX 0 rfl ?_;intro bD aX hl02;have h8:=SL.of_frozen hl02 aX h7;have H:=H.trans aX;refine mG (rc y (yJ ⟨_,rfl,h8⟩) rN) ?_;intro b2 bI bf h10;have H:=H.trans bf;exact yL [] H ⟨_,rfl,rfl,h10⟩
     · intro I1 hf aa;refine yX [33,34] rfl ?_;have h:=h.mono aa;refine xR rfl rfl h bc ?_;intro ad2 bK bk bq;obtain rfl:=bq;exact yL [] iR ⟨_,rfl,rfl,bk⟩
     · rintro I1 hf aa _ _ ⟨ad2,rfl,rfl,bk⟩;exact yX [35] rfl<|xH 0 bk [vI x2] (vI x2) rfl<|xD iR
     · intro I1 hf aa;refine yX [36] rfl ?_;have H:=iS I1;refine xE (sB x2 _ bu ) ?_;rintro I06 aw v2 k2 bt - ⟨p4,c4,aI,rfl,rfl,h11⟩ -;have H:=H.trans bt;exact yL [hO Int (vS p4 y1.Coefs c4) aI] H ⟨_,_,_,rfl,rfl,h11⟩
     · rintro I1 hf aa _ _ ⟨p4,c4,aI,rfl,rfl,h11⟩;refine yX [37] rfl ?_;have H:=iS I1;refine xX 0 rfl ?_;intro I07 le7 hl04;have h12:=SL.of_frozen hl04 le7 h11;have H:=H.trans le7;refine mG (rc y1 (yJ ⟨_,rfl,h12⟩) rN) ?_;intro b3 I08 le8 h14;have H:=H.trans le8;exact yL [] H ⟨_,rfl,rfl,h14⟩
     · rintro I1 hf aa _ _ ⟨b2,rfl,rfl,h10⟩ _ _ ⟨b3,rfl,rfl,h14⟩;exact yX [32,38] rfl<|pE 10 [(39,vA [vS (some ⟨b2,0,none⟩) ([y]:List zA) 1,vS (some ⟨b3,0,none⟩) ([y1]:List zA) 1])]<|yL [] iR ⟨_,_,rfl,rfl,h10,h14⟩
     · rintro I1 hf aa _ _ ⟨b21,b31,rfl,rfl,h101,h141⟩;refine yX [39] rfl ?_;have H:=iS I1;refine mG (rc (zF.mk ([y]:List zA) ([y1]:List zA)) (uJ ⟨_,_,rfl,h101,h141⟩) rN) ?_;intro b4 I09 le9 h16;have H:=H.trans le9;exact yL [] H ⟨_,rfl,rfl,h16⟩
     rintro I1 hf aa _ _ ⟨rfl,rfl⟩ _ _ ⟨b4,rfl,rfl,h16⟩ _ _ rfl;refine yX [30,40] rfl ?_;have h3:=iM aa h3;obtain ⟨ccs3,k0,k01⟩:=h16;have h16:SL I1 (vS (some ⟨b4,0,none⟩) ([(zF.mk ([y]:List zA) ([y1]:List zA))]:List zF) 1) ([(zF.mk ([y]:List zA) ([y1]:List zA))]:List zF):=⟨_,k0,k01⟩;exact rF 130 2 0 rfl rfl rfl h3 (.inl k0) k01 bz fun p5 c5 bo h17=>wX (af:=(hO zF (vS p5 ap c5) bo::hf)) rfl<|yL [hO zF (vS p5 ap c5) bo] iR ⟨_,_,_,rfl,rfl,h17⟩
   rintro bL le10 _ _ ⟨p5,c5,bo,rfl,rfl,h17⟩;refine yX [0,5,41] rfl ?_;have ⟨h,H⟩:=m2 le10 h H;exact yK [] [4] rfl<|zO<|zK<|zM<|yK [] [5] rfl<|yP<|oT<|ih ap (W (i+1)) _ N H h h17 hg ho hx hr
 intro aH N;exact wP<|yU<|hx _ _ _ _ _ (zD N).symm H h3
def dY (sizes:(List Int)):Option ((List zF)×Bool):=do
 if (decide ((sizes.length:Int)>4)) then pure (([]:List zF),false)
 else
  match<-nH sizes ([]:List zF) 0 with
  | .ret r0=>pure r0
  | .done ah =>
   pure (ah,true)
theorem zHg:∀ sizes r,dY sizes=some r->∀ {I:Imm}{p c},(S4 I p sizes c)->RT 184 [vS p sizes c] I [] (zCJ  r):=by
 intro sizes r N I p c h;unfold dY at N;refine yI func184 fun B=>wT []<|yW<|uV [] zF ?_;intro b hb;have h1:RL I [] ([]:List zF):=rfl;refine yK [] [4] rfl<|zZ<|yH [9] rfl<|zK<|yG N ?_ ?_
 · intro hc N;refine yH [2,3] rfl<|xF<|zJ<|xB 0 rfl ?_;intro I0 le hl0;have h2:=SL.of_frozen hl0 le h1;exact xO N (resU rfl rfl) zP ⟨_,_,rfl,rfl,h2,rfl⟩
 intro hc N;refine zS<|zZ<|yH [5] rfl<|wI<|qR [(0,vS p sizes c),(4,vS (some ⟨b,0,none⟩) ([]:List zF) 0),(5,vI 0)] ?_;obtain ⟨aN,aC,aF⟩:=zB N;refine zFQ sizes ([]:List zF) 0 aN aC iR h h1 nG nO ?_ ?_
 · intro bR ah p2 c2 av heq1 le11 h4;subst aN;refine zR<|vW [2,3] rfl<|xF<|xB 0 rfl ?_;intro bO le12 hl07;have h18:=SL.of_frozen hl07 le12 h4;exact xO aF (resU rfl rfl) zP ⟨_,_,rfl,rfl,h18,rfl⟩
 intro r0 I9 hs9 m9 aS le9 aU;subst aS;refine zV<|zJ ?_;obtain rfl:=zD aF;exact fO aU
end Go.LN
