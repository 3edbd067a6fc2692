/- Helper of the proof (see the last text). -/
import Derived.Test.YtmlnffbepjijhaaGreatHM3
set_option linter.unusedVariables false
set_option linter.unusedSimpArgs false
namespace Go.LN
open Go.Proofs
set_option maxRecDepth 20000
def sF (list:(List zD)) (part:zI) (y1:(List (List Int))) (i:Int) (k0:Int):Option (Out Unit (Int×Bool)):=do
 if (decide (k0<(y1.length:Int))) then
  let x1<-idx part.Body i
  let x2<-idx y1 k0
  let (y5,y6,y7)<-jF list x1 x2
  let t80<-(do
    if (!y7) then
     pure true
    else
     let x3<-idx y1 k0
     let y8<-jG x3
     pure (!y8)
      : Option Bool)
  if t80 then
   pure (.ret (0,false))
  else
   sF list part y1 i (W (k0+1))
 else
  pure (.done ())
 partial_fixpoint
theorem zF0 (list:(List zD)) (part:zI) (y1:(List (List Int))) (i:Int):∀ (k0:Int) (o:Out Unit (Int×Bool)),sF list part y1 i k0=some o->∀ {B}{I0 I:Imm}{Q p c p1 c1 p2 c2}{b:Nat}{p3 c3},I0.le I->(S4 I p list c)->(S4 I p3 y1 c3)->(S4 I p1 part.Nest c1)->(S4 I p2 part.Body c2)->NG Q->NO Q->(∀ (I':Imm) ,o=(.done ())->I0.le I'->T 87 B Q (.exit 2) I' [hB b (cPart part p1 c1 p2 c2)] [(0,vS p list c),(3,vP b 0),(6,vS p3 y1 c3),(8,vI i)])->(∀ r I' hs' m',o=(.ret r)->I0.le I'->RS Tryz.prog Tryz.f69 B (fE  r) I' hs' m'->T 87 B Q .ret I' hs' m')->J Tryz.prog 87 B (nav (bodyOf Tryz.f69) [1,1,1,0,1,0,0,1,0,0,1,1,0]) Q I [hB b (cPart part p1 c1 p2 c2)] [(0,vS p list c),(3,vP b 0),(6,vS p3 y1 c3),(8,vI i),(9,vI k0)]:=by
 refine sF.partial_correctness list part y1 i _ fun self ih k0 o N B I0 I Q p c p1 c1 p2 c2 b p3 c3 H h h3 h1 h2 hg ho hx hr=>yU hg ho<|yD<|yH [53] rfl<|zK<|yG N ?_ ?_
 · intro hc5 N;refine zS<|zZ<|yF<|yD ?_;obtain ⟨x1,hy3,N⟩:=zB N;obtain ⟨x2,hy4,N⟩:=zB N;obtain ⟨⟨y5,y6,y7⟩,hy5,N⟩:=zB N;refine wP [.p (vS p list c) [],.p (vP b 1) [],.p (vS p2 part.Body c2) [0],.p (vI i) [],.x (ePStmt x1),.x (eVStmt x1),.p (vS p3 y1 c3) [],.p (vI k0) [],.x (fun I' v hx=>∃ ad2 p12 c12,v=.pointer (some ad2)/\hx=[]/\(At I' ad2 [vS p12 x2 c12])/\(S4 I' p12 x2 c12)),.x (eS x2),.x (fun I' v hx=>∃ p13 c13,v=.tuple ⟨[vS p13 y5 c13,vI y6,.bool y7]⟩/\hx=[]/\(S4 I' p13 y5 c13)),.x (fun I' v hx=>∃ p131 c131,v=.tuple ⟨[vS p131 y5 c131,vI y6,.bool y7]⟩/\hx=[]/\(S4 I' p131 y5 c131)),.x (eS y5),.q (vI y6),.q (.bool y7),.x (eS y5),.p (vI y6) []] [[],[],[(1,false)],[],[(2,false),(3,false)],[(4,false)],[],[],[(6,false),(7,false)],[(8,false)],[(0,false),(5,false),(9,false)],[(10,false)],[(11,false)],[(11,false)],[(11,false)],[(12,false)],[(13,false)]] [hB b (cPart part p1 c1 p2 c2)] [] [(14,false)] (zY [0]) ?_ ?_
   · refine Op<|Op<|Op<|Op<|Ox ?_<|Ox ?_<|Op<|Op<|Ox ?_<|Ox ?_<|Ox ?_<|Ox ?_<|Ox ?_<|Oq ?_<|Oq ?_<|Ox ?_<|Op<|On
     · intro I1 hf le1;refine yV [59,60] rfl ?_;have h2:=h2.mono le1;refine xT rfl rfl h2 hy3 ?_;intro ad1 ccs1 hat1 hrep1;obtain ⟨p8,c8,p9,c9,p10,c10,p11,c11,rfl,h10,h11,h12,h13⟩:=vC hrep1;exact yL [] iR ⟨_,_,_,_,_,_,_,_,_,rfl,rfl,hat1,h10,h11,h12,h13⟩
     · rintro I1 hf le1 _ _ ⟨ad1,p8,c8,p9,c9,p10,c10,p11,c11,rfl,rfl,hat1,h10,h11,h12,h13⟩;exact yV [61] rfl<|xO 0 hat1 (cStmt x1 p8 c8 p9 c9 p10 c10 p11 c11) (vA (cStmt x1 p8 c8 p9 c9 p10 c10 p11 c11)) rfl<|yL [] iR ⟨_,_,_,_,_,_,_,_,rfl,rfl,h10,h11,h12,h13⟩
     · intro I1 hf le1;refine yV [63,64] rfl ?_;have h3:=h3.mono le1;refine xT rfl rfl h3 hy4 ?_;intro ad2 ccs2 hat2 hrep2;obtain ⟨v011,rfl,h14⟩:=hrep2;obtain ⟨p12,c12,rfl⟩:=h14.form;exact yL [] iR ⟨_,_,_,rfl,rfl,hat2,h14⟩
     · rintro I1 hf le1 _ _ ⟨ad2,p12,c12,rfl,rfl,hat2,h14⟩;exact yV [65] rfl<|xO 0 hat2 [vS p12 x2 c12] (vS p12 x2 c12) rfl<|yL [] iR ⟨_,_,rfl,rfl,h14⟩
     · rintro I1 hf le1 _ _ ⟨rfl,rfl⟩ _ _ ⟨p81,c81,p91,c91,p101,c101,p111,c111,rfl,rfl,h101,h111,h121,h131⟩ _ _ ⟨p121,c121,rfl,rfl,h141⟩;refine yV [57,62,66] rfl ?_;have H:=iS I1;have h:=h.mono le1;refine xH (zGj list x1 x2 _ hy5 h h101 h111 h121 h131 h141) ?_;rintro I04 hs2 v2 k2 le4 - ⟨v012,v013,v014,rfl,rfl,h15,rfl,rfl⟩ -;have H:=H.trans le4;obtain ⟨p13,c13,rfl⟩:=h15.form;exact yL [] H ⟨_,_,rfl,rfl,h15⟩
     · rintro I1 hf le1 _ _ ⟨p13,c13,rfl,rfl,h15⟩;exact yV [67] rfl<|qA 12 [(56,.tuple ⟨[vS p13 y5 c13,vI y6,.bool y7]⟩)]<|yL [] iR ⟨_,_,rfl,rfl,h15⟩
     · rintro I1 hf le1 _ _ ⟨p131,c131,rfl,rfl,h151⟩;exact yV [56] rfl<|qA 13 [(68,vS p131 y5 c131)]<|yL [] iR ⟨_,_,rfl,rfl,h151⟩
     · rintro I1 hf le1 _ _ ⟨p131,c131,rfl,rfl,h151⟩;exact yV [56] rfl<|qA 14 [(69,vI y6)]<|xB iR
     · rintro I1 hf le1 _ _ ⟨p131,c131,rfl,rfl,h151⟩;exact yV [56] rfl<|qA 15 [(70,.bool y7)]<|xB iR
     rintro I1 hf le1 _ _ ⟨p1311,c1311,rfl,rfl,h1511⟩;exact yV [68] rfl<|qA 16 [(10,vS p1311 y5 c1311)]<|yL [] iR ⟨_,_,rfl,rfl,h1511⟩
   intro I05 le5;refine yV [0,3,6,8,9,70] rfl ?_;have ⟨h,h3,h1,h2,H⟩:=m5 le5 h h3 h1 h2 H;refine yM [] [12] rfl<|zK<|yD ?_;refine uB N [hB b (cPart part p1 c1 p2 c2)] (fun t80=>[(0,vS p list c),(3,vP b 0),(6,vS p3 y1 c3),(8,vI i),(9,vI k0),(80,.bool t80)]) (fun o01 ho01=>?_) ?_
   · have H:=iS I05;refine zM<|yE 3 [] [73] rfl<|wO [73] ho01 ?_ ?_
     · intro hc6 N;exact wU [] [(80,vY)]<|yW<|zU (ct N H)
     intro hc6 N;refine yE 5 [] [74,75] rfl<|bE N fun x3 hy6 N=>xT rfl rfl h3 hy6 ?_;intro ad3 ccs3 hat3 hrep3;obtain ⟨v015,rfl,h18⟩:=hrep3;obtain ⟨p14,c14,rfl⟩:=h18.form;refine xO 0 hat3 [vS p14 x3 c14] (vS p14 x3 c14) rfl<|bE N fun y8 hy7 N=>uZ (zGk x3 _ hy7 h18) ?_;intro I07 le6;have H:=H.trans le6;exact yM [] [80] rfl<|yW<|zU (ct N H)
   intro t80 I06 le7 hMc1;have ⟨h,h3,h1,h2,H⟩:=m5 le7 h h3 h1 h2 H;refine zK<|yG hMc1 ?_ ?_
   · intro hc7 N;exact yH [4,5] rfl<|xI<|zV<|zL<|zL<|hr _ _ _ _ (zC N).symm H ⟨_,_,(.tmp rfl (.tmp rfl ResV.nil)),zQ,⟨_,_,rfl,rfl,rfl,rfl⟩⟩
   intro hc7 N;exact zS<|zO<|zK<|zM<|yM [] [9] rfl<|yT<|nT<|ih (W (k0+1)) _ N H h h3 h1 h2 hg ho hx hr
 intro hc5 N;exact wW<|yW<|hx _  (zC N).symm H
def sG (list:(List zD)) (part:zI) (y1:(List (List Int))) (i:Int):Option (Out Unit (Int×Bool)):=do
 if (decide (i<(part.Body.length:Int))) then
  let x<-idx part.Body i
  let y3<-qR x (part.Nest.length:Int)
  if (!y3) then
   pure (.ret (0,false))
  else
   match<-sF list part y1 i 0 with
   | .ret r0=>pure (.ret r0)
   | .done _ =>
    sG list part y1 (W (i+1))
 else
  pure (.done ())
 partial_fixpoint
theorem zF1 (list:(List zD)) (part:zI) (y1:(List (List Int))):∀ (i:Int) (o:Out Unit (Int×Bool)),sG list part y1 i=some o->∀ {B}{I0 I:Imm}{Q p c p1 c1 p2 c2}{b:Nat}{p3 c3},I0.le I->(S4 I p list c)->(S4 I p3 y1 c3)->(S4 I p1 part.Nest c1)->(S4 I p2 part.Body c2)->NG Q->NO Q->(∀ (I':Imm) ,o=(.done ())->I0.le I'->T 87 B Q (.exit 0) I' [hB b (cPart part p1 c1 p2 c2)] [(3,vP b 0),(6,vS p3 y1 c3)])->(∀ r I' hs' m',o=(.ret r)->I0.le I'->RS Tryz.prog Tryz.f69 B (fE  r) I' hs' m'->T 87 B Q .ret I' hs' m')->J Tryz.prog 87 B (nav (bodyOf Tryz.f69) [1,1,1,0,1,0]) Q I [hB b (cPart part p1 c1 p2 c2)] [(0,vS p list c),(3,vP b 0),(6,vS p3 y1 c3),(8,vI i)]:=by
 refine sG.partial_correctness list part y1 _ fun self ih i o N B I0 I Q p c p1 c1 p2 c2 b p3 c3 H h h3 h1 h2 hg ho hx hr=>yU hg ho<|yD<|yC<|yM [0] [37] rfl<|zK<|yG N ?_ ?_
 · intro hc3 N;refine zS<|zZ<|yF<|yD<|yD ?_;obtain ⟨x,hy1,N⟩:=zB N;obtain ⟨y3,hy2,N⟩:=zB N;refine wP [.p (vP b 1) [],.p (vS p2 part.Body c2) [0],.p (vI i) [],.x (ePStmt x),.x (eVStmt x),.p (vP b 0) [],.p (vS p1 part.Nest c1) [0],.p (vI (part.Nest.length:Int)) [],.q (.bool y3),.p (.bool (!y3)) []] [[],[(0,false)],[],[(1,false),(2,false)],[(3,false)],[],[(5,false)],[(6,false)],[(4,false),(7,false)],[(8,false)]] [hB b (cPart part p1 c1 p2 c2)] [] [(9,false)] (zY [0]) ?_ ?_
   · refine Op<|Op<|Op<|Ox ?_<|Ox ?_<|Op<|Op<|Op<|Oq ?_<|Op<|On
     · intro I1 hf le1;refine yV [41,42] rfl ?_;have h2:=h2.mono le1;refine xT rfl rfl h2 hy1 ?_;intro ad ccs hat hrep;obtain ⟨p4,c4,p5,c5,p6,c6,p7,c7,rfl,h5,h6,h7,h8⟩:=vC hrep;exact yL [] iR ⟨_,_,_,_,_,_,_,_,_,rfl,rfl,hat,h5,h6,h7,h8⟩
     · rintro I1 hf le1 _ _ ⟨ad,p4,c4,p5,c5,p6,c6,p7,c7,rfl,rfl,hat,h5,h6,h7,h8⟩;exact yV [43] rfl<|xO 0 hat (cStmt x p4 c4 p5 c5 p6 c6 p7 c7) (vA (cStmt x p4 c4 p5 c5 p6 c6 p7 c7)) rfl<|yL [] iR ⟨_,_,_,_,_,_,_,_,rfl,rfl,h5,h6,h7,h8⟩
     rintro I1 hf le1 _ _ ⟨p41,c41,p51,c51,p61,c61,p71,c71,rfl,rfl,h51,h61,h71,h81⟩;refine yV [44,47] rfl ?_;have H:=iS I1;refine uZ (zAT x (part.Nest.length:Int) _ hy2 h51 h61 h71 h81) ?_;intro I02 le2;have H:=H.trans le2;exact xB H
   intro I03 le3;refine yV [0,3,6,8,49] rfl ?_;have ⟨h,h3,h1,h2,H⟩:=m5 le3 h h3 h1 h2 H;refine zX rfl<|zK<|yG N ?_ ?_
   · intro hc4 N;exact yH [4,5] rfl<|xI<|zL<|zV<|zL<|zL<|hr _ _ _ _ (zC N).symm H ⟨_,_,(.tmp rfl (.tmp rfl ResV.nil)),zQ,⟨_,_,rfl,rfl,rfl,rfl⟩⟩
   intro hc4 N;refine zS<|uN [9] rfl<|wK<|pM [(0,vS p list c),(3,vP b 0),(6,vS p3 y1 c3),(8,vI i),(9,vI 0)] ?_;obtain ⟨o02,ho02,hMl⟩:=zB N;refine zF0 list part y1 i 0 o02 ho02 iR h h3 h1 h2 (fun _ _ _ h=>hg _ _ _ h) (fun _ _ h=>ho _ _ h) ?_ ?_
   · intro I08  heq2 le8;subst o02;have ⟨h,h3,h1,h2,H⟩:=m5 le8 h h3 h1 h2 H;exact zR<|zO<|zK<|zM<|yM [] [8] rfl<|yT<|nT<|ih (W (i+1)) _ hMl H h h3 h1 h2 hg ho hx hr
   intro r0 I9 hs9 m9 heq9 le9 hrs9;subst heq9;exact zV<|zV<|zL<|zL<|hr _ _ _ _ (zC hMl).symm (H.trans le9) hrs9
 intro hc3 N;exact wW<|yW<|hx _  (zC N).symm H
def mX (list:(List zD)) (part:zI):Option (Int×Bool):=do
 let (y1,y2)<-oW part.Nest
 let t32<-(do
   if (!y2) then
    pure true
   else
    if (decide ((part.Body.length:Int)<1)) then
     pure true
    else
     pure (decide ((part.Body.length:Int)>4))
     : Option Bool)
 if t32 then
  pure (0,false)
 else
  match<-sG list part y1 0 with
  | .ret r0=>pure r0
  | .done _ =>
   pure ((W ((y1.length:Int)*(part.Body.length:Int))),true)
theorem zBK:∀ list part r,mX list part=some r->∀ {I:Imm}{p c p1 c1 p2 c2},(S4 I p list c)->(S4 I p1 part.Nest c1)->(S4 I p2 part.Body c2)->RT 69 [vS p list c,vA (cPart part p1 c1 p2 c2)] I [] (fE  r):=by
 intro list part r N I p c p1 c1 p2 c2 h h1 h2;unfold mX at N;refine yJ Tryz.func69 fun B=>?_;have H:=iS I;refine yC<|vK (cPart part p1 c1 p2 c2) ?_;intro b hb;refine wU [] []<|yX<|yE 2 [0] [15] rfl ?_;obtain ⟨⟨y1,y2⟩,hy,N⟩:=zB N;refine xH (zE6 part.Nest _ hy h1) ?_;rintro I0 hs2 v2 k2 le - ⟨v0,v01,rfl,rfl,h3,rfl⟩ -;have ⟨h,h1,h2,H⟩:=m4 le h h1 h2 H;obtain ⟨p3,c3,rfl⟩:=h3.form;refine yM [] [6,7] rfl<|zZ<|yD ?_;refine uB N [hB b (cPart part p1 c1 p2 c2)] (fun t32=>[(0,vS p list c),(3,vP b 0),(6,vS p3 y1 c3),(32,.bool t32)]) (fun o0 ho0=>?_) ?_
 · have H:=iS I0;refine zM<|yE 3 [] [21] rfl<|wO [21] ho0 ?_ ?_
   · intro hc N;exact wU [] [(32,vY)]<|yW<|zU (ct N H)
   intro hc N;refine yE 9 [0] [27] rfl<|wO [27] N ?_ ?_
   · intro hc1 N;exact wU [] [(32,vY)]<|yW<|zU (ct N H)
   intro hc1 N;exact yM [0] [32] rfl<|yW<|zU (ct N H)
 intro t32 I01 le1 hMc;have ⟨h,h3,h1,h2⟩:=m4 le1 h h3 h1 h2;refine zK<|yG hMc ?_ ?_
 · intro hc2 N;refine yH [4,5] rfl<|xI<|zL ?_;obtain rfl:=zC N;exact xC ⟨_,_,(.tmp rfl (.tmp rfl ResV.nil)),zQ,⟨_,_,rfl,rfl,rfl,rfl⟩⟩
 intro hc2 N;refine zS<|zZ<|yH [8] rfl<|wK<|pM [(0,vS p list c),(3,vP b 0),(6,vS p3 y1 c3),(8,vI 0)] ?_;obtain ⟨o03,ho03,hMl1⟩:=zB N;refine zF1 list part y1 0 o03 ho03 iR h h3 h1 h2 (fun _ _ _ h=>h) (fun _ _ h=>h) ?_ ?_
 · intro I09  heq3 le9;subst o03;refine zR<|yX<|yM [0] [4,5] rfl<|zK<|xD ?_;obtain rfl:=zC hMl1;exact xC ⟨_,_,(.tmp rfl (.tmp rfl ResV.nil)),zQ,⟨_,_,rfl,rfl,rfl,rfl⟩⟩
 intro r0 I9 hs9 m9 heq9 le9 hrs9;subst heq9;refine zV<|zL ?_;obtain rfl:=zC hMl1;exact xC hrs9
def vE (p:zF) (total:Int) (i:Int):Option (Out Int (Bool)):=do
 if (decide (i<(p.Parts.length:Int))) then
  let x<-idx p.Parts i
  let (y2,y3)<-mX p.Arrays x
  if (!y3) then
   pure (.ret false)
  else
   vE p (W (total+y2)) (W (i+1))
 else
  pure (.done total)
 partial_fixpoint
theorem zCH (p:zF):∀ (total:Int) (i:Int) (o:Out Int (Bool)),vE p total i=some o->∀ {B}{I0 I:Imm}{Q p1 c p2 c1}{b:Nat},I0.le I->(S4 I p1 p.Arrays c)->(S4 I p2 p.Parts c1)->NG Q->NO Q->(∀ (I':Imm) (total1:Int),o=(.done total1)->I0.le I'->T 42 B Q (.exit 0) I' [] [(3,vI total1)])->(∀ r I' hs' m',o=(.ret r)->I0.le I'->RS Tryz.prog Tryz.f33 B (zT  r) I' hs' m'->T 42 B Q .ret I' hs' m')->J Tryz.prog 42 B (nav (bodyOf Tryz.f33) [1,1,1,0,1,0]) Q I [hB b (cProg p p1 c p2 c1)] [(1,vP b 0),(3,vI total),(4,vI i)]:=by
 refine vE.partial_correctness p _ fun self ih total i o N B I0 I Q p1 c p2 c1 b H h h1 hg ho hx hr=>yU hg ho<|yD<|yC<|yM [0] [21] rfl<|zK<|yG N ?_ ?_
 · intro hc2 N;refine zS<|zZ<|yF<|yD ?_;obtain ⟨x,hy1,N⟩:=zB N;obtain ⟨⟨y2,y3⟩,hy2,N⟩:=zB N;refine wP [.p (vP b 0) [],.p (vS p1 p.Arrays c) [0],.p (vP b 1) [],.p (vS p2 p.Parts c1) [0],.p (vI i) [],.x (ePPart x),.x (eVPart x),.q (.tuple ⟨[vI y2,.bool y3]⟩),.p (.tuple ⟨[vI y2,.bool y3]⟩) [],.p (vI y2) [],.p (.bool y3) [],.p (vI y2) []] [[],[(0,false)],[],[(2,false)],[],[(3,false),(4,false)],[(5,false)],[(1,false),(6,false)],[(7,false)],[(8,false)],[(8,false)],[(9,false)]] [hB b (cProg p p1 c p2 c1)] [] [(10,false),(11,false)] (zY [0]) ?_ ?_
   · refine Op<|Op<|Op<|Op<|Op<|Ox ?_<|Ox ?_<|Oq ?_<|Op<|Op<|Op<|Op<|On
     · intro I1 hf le1;refine yV [28,29] rfl ?_;have h1:=h1.mono le1;refine xT rfl rfl h1 hy1 ?_;intro ad ccs hat hrep;obtain ⟨p3,c2,p4,c3,rfl,h3,h4⟩:=wH hrep;exact yL [] iR ⟨_,_,_,_,_,rfl,rfl,hat,h3,h4⟩
     · rintro I1 hf le1 _ _ ⟨ad,p3,c2,p4,c3,rfl,rfl,hat,h3,h4⟩;exact yV [30] rfl<|xO 0 hat (cPart x p3 c2 p4 c3) (vA (cPart x p3 c2 p4 c3)) rfl<|yL [] iR ⟨_,_,_,_,rfl,rfl,h3,h4⟩
     rintro I1 hf le1 _ _ ⟨rfl,rfl⟩ _ _ ⟨p31,c21,p41,c31,rfl,rfl,h31,h41⟩;refine yV [26,31] rfl ?_;have H:=iS I1;have h:=h.mono le1;refine xH (zBK p.Arrays x _ hy2 h h31 h41) ?_;rintro I02 hs2 v2 k2 le2 - ⟨v03,v04,rfl,rfl,rfl,rfl⟩ -;have H:=H.trans le2;exact xB H
   intro I03 le3;refine yV [1,3,4,5,34] rfl ?_;have ⟨h,h1,H⟩:=m3 le3 h h1 H;refine yM [] [6] rfl<|zZ<|yH [36] rfl<|zK<|yG N ?_ ?_
   · intro hc3 N;exact vM [(2,vF)]<|xI<|zL<|zV<|zL<|zL<|hr _ _ _ _ (zC N).symm H ⟨_,_,(.tmp rfl ResV.nil),zQ,⟨_,rfl,rfl,rfl⟩⟩
   intro hc3 N;exact zS<|zK<|zM<|yM [] [3] rfl<|zO<|zK<|zM<|yM [] [4] rfl<|yT<|nT<|ih (W (total+y2)) (W (i+1)) _ N H h h1 hg ho hx hr
 intro hc2 N;exact wW<|wG zQ<|yW<|hx _ _ (zC N).symm H
def tV (p:zF):Option (Bool):=do
 let t16<-(do
   let y<-kQ p.Arrays
   if (!y) then
    pure true
   else
    pure (decide ((p.Parts.length:Int)>4))
     : Option Bool)
 if t16 then
  pure false
 else
  match<-vE p 0 0 with
  | .ret r0=>pure r0
  | .done total1 =>
   pure (decide (total1<=120))
theorem dB:∀ p r,tV p=some r->∀ {I:Imm}{p1 c p2 c1},(S4 I p1 p.Arrays c)->(S4 I p2 p.Parts c1)->RT 33 [vA (cProg p p1 c p2 c1)] I [] (zT  r):=by
 intro p r N I p1 c p2 c1 h h1;unfold tV at N;refine yJ Tryz.func33 fun B=>?_;have H:=iS I;refine yC<|vK (cProg p p1 c p2 c1) ?_;intro b hb;refine wU [] []<|zZ<|yD ?_;refine uB N [hB b (cProg p p1 c p2 c1)] (fun t16=>[(1,vP b 0),(16,.bool t16)]) (fun o0 ho0=>?_) ?_
 · have H:=iS I;refine zM<|yE 2 [0] [8] rfl ?_;obtain ⟨y,hy,N⟩:=zB ho0;refine uZ (zGH p.Arrays _ hy h) ?_;intro I01 le;have H:=H.trans le;refine yE 5 [] [11] rfl<|wO [11] N ?_ ?_
   · intro hc N;exact wU [] [(16,vY)]<|yW<|zU (ct N H)
   intro hc N;exact yM [0] [16] rfl<|yW<|zU (ct N H)
 intro t16 I0 le1 hMc;have ⟨h,h1⟩:=m2 le1 h h1;refine zK<|yG hMc ?_ ?_
 · intro hc1 N;refine vM [(2,vF)]<|xI<|zL ?_;obtain rfl:=zC N;exact uE
 intro hc1 N;refine zS<|uN [3] rfl<|zZ<|yH [4] rfl<|wK<|pM [(1,vP b 0),(3,vI 0),(4,vI 0)] ?_;obtain ⟨o01,ho01,hMl⟩:=zB N;refine zCH p 0 0 o01 ho01 iR h h1 (fun _ _ _ h=>h) (fun _ _ h=>h) ?_ ?_
 · intro I04 total1 heq1 le4;subst o01;refine zR<|uN [2] rfl<|zK<|xD ?_;obtain rfl:=zC hMl;exact uE
 intro r0 I9 hs9 m9 heq9 le9 hrs9;subst heq9;refine zV<|zL ?_;obtain rfl:=zC hMl;exact xC hrs9
def mJ (nest:(List zE)) (out:Str) (i:Int):Option (Str):=do
 if (decide (i<(nest.length:Int))) then
  let s<-cat out (⟨[102,111,114,32]⟩:Str)
  let x<-idx nest i
  let y<-oV x.Lo
  let s1<-cat s y
  let s2<-cat s1 (⟨[32]⟩:Str)
  let x1<-idx nest i
  let y1<-oV x1.Hi
  let s3<-cat s2 y1
  let s4<-cat s3 (⟨[10]⟩:Str)
  mJ nest s4 (W (i+1))
 else
  pure (id out)
 partial_fixpoint
theorem zF2 (nest:(List zE)):∀ (out:Str) (i:Int) (o:Str),mJ nest out i=some o->∀ {B}{I0 I:Imm}{Q p c},I0.le I->(S4 I p nest c)->NG Q->NO Q->(∀ (I':Imm) (out1:Str),o=out1->I0.le I'->T 30 B Q (.exit 0) I' [] [(3,vT out1.l)])->J Tryz.prog 30 B (nav (bodyOf Tryz.f170) [1,1,0,1,0]) Q I [] [(0,vS p nest c),(3,vT out.l),(4,vI i)]:=by
 refine mJ.partial_correctness nest _ fun self ih out i o N B I0 I Q p c H h hg ho hx=>yU hg ho<|yD<|yH [8] rfl<|zK<|yG N ?_ ?_
 · intro hc N;refine zS<|zZ<|yF ?_;obtain ⟨s,hy,N⟩:=zB N;obtain ⟨x,hy1,N⟩:=zB N;obtain ⟨y,hy2,N⟩:=zB N;obtain ⟨s1,hy3,N⟩:=zB N;obtain ⟨s2,hy4,N⟩:=zB N;obtain ⟨x1,hy5,N⟩:=zB N;obtain ⟨y1,hy6,N⟩:=zB N;obtain ⟨s3,hy7,N⟩:=zB N;obtain ⟨s4,hy8,N⟩:=zB N;refine wP [.p (vT out.l) [],.q (vT s.l),.p (vS p nest c) [],.p (vI i) [],.x (ePLoop x),.x (ePLoop x),.x (eS x.Lo),.q (vT y.l),.q (vT s1.l),.q (vT s2.l),.p (vS p nest c) [],.p (vI i) [],.x (ePLoop x1),.x (eQLoop 1 x1),.x (eS x1.Hi),.q (vT y1.l),.q (vT s3.l),.q (vT s4.l)] [[],[(0,false)],[],[],[(2,false),(3,false)],[(4,false)],[(5,false)],[(6,false)],[(1,false),(7,false)],[(8,false)],[],[],[(10,false),(11,false)],[(12,false)],[(13,false)],[(14,false)],[(9,false),(15,false)],[(16,false)]] [] [] [(17,false)] zQ ?_ ?_
   · refine Op<|Oq ?_<|Op<|Op<|Ox ?_<|Ox ?_<|Ox ?_<|Oq ?_<|Oq ?_<|Oq ?_<|Op<|Op<|Ox ?_<|Ox ?_<|Ox ?_<|Oq ?_<|Oq ?_<|Oq ?_<|On
     · intro I1 hf le1;exact yV [11] rfl<|fA rfl hy<|xB iR
     · intro I1 hf le1;refine yV [13,14] rfl ?_;have h:=h.mono le1;refine xT rfl rfl h hy1 ?_;intro ad ccs hat hrep;obtain ⟨p1,c1,p2,c2,rfl,h1,h2⟩:=wZ hrep;exact yL [] iR ⟨_,_,_,_,_,rfl,rfl,hat,h1,h2⟩
     · rintro I1 hf le1 _ _ ⟨ad,p1,c1,p2,c2,rfl,rfl,hat,h1,h2⟩;exact yV [15] rfl<|qA 6 [(16,.pointer (some ad))]<|yL [] iR ⟨_,_,_,_,_,rfl,rfl,hat,h1,h2⟩
     · rintro I1 hf le1 _ _ ⟨ad1,p11,c11,p21,c21,rfl,rfl,hat1,h11,h21⟩;exact yV [16] rfl<|xO 0 hat1 [vS p11 x.Lo c11] (vS p11 x.Lo c11) rfl<|yL [] iR ⟨_,_,rfl,rfl,h11⟩
     · rintro I1 hf le1 _ _ ⟨p111,c111,rfl,rfl,h111⟩;refine yV [17] rfl ?_;have H:=iS I1;refine xH (zAM x.Lo _ hy2 h111) ?_;rintro I0 hs2 v2 k2 le - ⟨v02,rfl,rfl,rfl⟩ -;have H:=H.trans le;exact xB H
     · intro I1 hf le1;exact yV [12,18] rfl<|fA rfl hy3<|xB iR
     · intro I1 hf le1;exact yV [19] rfl<|fA rfl hy4<|xB iR
     · intro I1 hf le1;refine yV [21,22] rfl ?_;have h:=h.mono le1;refine xT rfl rfl h hy5 ?_;intro ad2 ccs1 hat2 hrep1;obtain ⟨p3,c3,p4,c4,rfl,h4,h5⟩:=wZ hrep1;exact yL [] iR ⟨_,_,_,_,_,rfl,rfl,hat2,h4,h5⟩
     · rintro I1 hf le1 _ _ ⟨ad2,p3,c3,p4,c4,rfl,rfl,hat2,h4,h5⟩;exact yV [23] rfl<|qA 14 [(24,.pointer (some (ad2.add 1)))]<|yL [] iR ⟨_,_,_,_,_,rfl,rfl,hat2,h4,h5⟩
     · rintro I1 hf le1 _ _ ⟨ad21,p31,c31,p41,c41,rfl,rfl,hat21,h41,h51⟩;exact yV [24] rfl<|xO 1 hat21 [vS p41 x1.Hi c41] (vS p41 x1.Hi c41) rfl<|yL [] iR ⟨_,_,rfl,rfl,h51⟩
     · rintro I1 hf le1 _ _ ⟨p411,c411,rfl,rfl,h511⟩;refine yV [25] rfl ?_;have H:=iS I1;refine xH (zAM x1.Hi _ hy6 h511) ?_;rintro I01 hs2 v2 k2 le1 - ⟨v05,rfl,rfl,rfl⟩ -;have H:=H.trans le1;exact xB H
     · intro I1 hf le1;exact yV [20,26] rfl<|fA rfl hy7<|xB iR
     intro I1 hf le1;exact yV [27] rfl<|fA rfl hy8<|xB iR
   intro I02 le2;refine yV [0,4,28] rfl ?_;have ⟨h,H⟩:=m2 le2 h H;exact yM [] [3] rfl<|zO<|zK<|zM<|yM [] [4] rfl<|yT<|nT<|ih s4 (W (i+1)) _ N H h hg ho hx
 intro hc N;exact wW<|yW<|hx _ _ (zC N).symm H
def zAB (nest:(List zE)):Option (Str):=do
 let out1<-mJ nest (⟨[]⟩:Str) 0
 pure (id out1)
theorem zHa:∀ nest r,zAB nest=some r->∀ {I:Imm}{p c},(S4 I p nest c)->RT 170 [vS p nest c] I [] (rL  r):=by
 intro nest r N I p c h;unfold zAB at N;refine yJ Tryz.func170 fun B=>vM []<|uN [3] rfl<|zZ<|yH [4] rfl<|wK<|pM [(0,vS p nest c),(3,vT ([])),(4,vI 0)] ?_;obtain ⟨o0,ho0,hMl⟩:=zB N;refine zF2 nest (⟨[]⟩:Str) 0 o0 ho0 iR h (fun _ _ _ h=>h) (fun _ _ h=>h) ?_;intro I03 out1 heq le3;subst o0;refine zR<|uN [2] rfl<|zK<|xD ?_;obtain rfl:=zC hMl;exact uE
def sH (p:zF) (i:Int) (out2:Str) (k0:Int):Option (Str):=do
 let x1<-idx p.Arrays i
 if (decide (k0<(x1.Dims.length:Int))) then
  let s2<-cat out2 (⟨[32]⟩:Str)
  let x2<-idx p.Arrays i
  let x3<-idx x2.Dims k0
  let y1<-pQ x3
  let s3<-cat s2 y1
  sH p i s3 (W (k0+1))
 else
  pure (id out2)
 partial_fixpoint
theorem zBj (p:zF) (i:Int):∀ (out2:Str) (k0:Int) (o:Str),sH p i out2 k0=some o->∀ {B}{I0 I:Imm}{Q p1 c p2 c1}{b:Nat},I0.le I->(S4 I p1 p.Arrays c)->(S4 I p2 p.Parts c1)->NG Q->NO Q->(∀ (I':Imm) (out3:Str),o=out3->I0.le I'->T 103 B Q (.exit 2) I' [hB b (cProg p p1 c p2 c1)] [(1,vP b 0),(3,vT out3.l),(4,vI i)])->J Tryz.prog 103 B (nav (bodyOf Tryz.f135) [1,1,1,0,1,0,0,1,0,0,1,0,1,0]) Q I [hB b (cProg p p1 c p2 c1)] [(1,vP b 0),(3,vT out2.l),(4,vI i),(5,vI k0)]:=by
 refine sH.partial_correctness p i _ fun self ih out2 k0 o N B I0 I Q p1 c p2 c1 b H h h1 hg ho hx=>yU hg ho<|yD<|yC<|yE 4 [0] [28,30,31] rfl<|bE N fun x1 hy4 N=>xT rfl rfl h hy4 ?_;intro ad1 ccs1 hat1 hrep1;obtain ⟨p4,c3,rfl,h4⟩:=xL hrep1;refine yE 6 [] [33] rfl<|xO 1 hat1 [vS p4 x1.Dims c3] (vS p4 x1.Dims c3) rfl<|yM [] [36] rfl<|zK<|yG N ?_ ?_
 · intro hc2 N;refine zS<|zZ<|yF<|zM<|yE 1 [] [39] rfl<|bE N fun s2 hy5 N=>fA rfl hy5<|yE 5 [0] [42,43] rfl<|bE N fun x2 hy6 N=>xT rfl rfl h hy6 ?_;intro ad2 ccs2 hat2 hrep2;obtain ⟨p5,c4,rfl,h5⟩:=xL hrep2;refine yE 7 [] [45] rfl<|xO 1 hat2 [vS p5 x2.Dims c4] (vS p5 x2.Dims c4) rfl<|yE 9 [] [47] rfl<|bE N fun x3 hy7 N=>xT rfl rfl h5 hy7 ?_;intro ad3 ccs3 hat3 hrep3;obtain rfl:=hrep3;refine xO 0 hat3 [vI x3] (vI x3) rfl<|bE N fun y1 hy8 N=>xH (zAR x3 _ hy8 ) ?_;rintro I01 hs2 v2 k2 le1 - ⟨v04,rfl,rfl,rfl⟩ -;have ⟨h,h1,H⟩:=m3 le1 h h1 H;obtain ⟨s3,hy9,N⟩:=zB N;exact fA rfl hy9<|yM [] [3] rfl<|zO<|zK<|zM<|yM [] [5] rfl<|yT<|nT<|ih s3 (W (k0+1)) _ N H h h1 hg ho hx
 intro hc2 N;exact wW<|yW<|hx _ _ (zC N).symm H
def sI (p:zF) (out:Str) (i:Int):Option (Str):=do
 if (decide (i<(p.Arrays.length:Int))) then
  let s<-cat out (⟨[97,114,114,97,121,32]⟩:Str)
  let x<-idx p.Arrays i
  let s1<-cat s x.Name
  let out3<-sH p i s1 0
  let s4<-cat out3 (⟨[10]⟩:Str)
  sI p s4 (W (i+1))
 else
  pure (id out)
 partial_fixpoint
theorem zBk (p:zF):∀ (out:Str) (i:Int) (o:Str),sI p out i=some o->∀ {B}{I0 I:Imm}{Q p1 c p2 c1}{b:Nat},I0.le I->(S4 I p1 p.Arrays c)->(S4 I p2 p.Parts c1)->NG Q->NO Q->(∀ (I':Imm) (out1:Str),o=out1->I0.le I'->T 103 B Q (.exit 0) I' [hB b (cProg p p1 c p2 c1)] [(1,vP b 0),(3,vT out1.l)])->J Tryz.prog 103 B (nav (bodyOf Tryz.f135) [1,1,1,0,1,0]) Q I [hB b (cProg p p1 c p2 c1)] [(1,vP b 0),(3,vT out.l),(4,vI i)]:=by
 refine sI.partial_correctness p _ fun self ih out i o N B I0 I Q p1 c p2 c1 b H h h1 hg ho hx=>yU hg ho<|yD<|yC<|yM [0] [16] rfl<|zK<|yG N ?_ ?_
 · intro hc1 N;refine zS<|zZ<|yF<|yC<|yE 1 [] [19] rfl<|bE N fun s hy1 N=>fA rfl hy1<|yE 5 [0] [22,23] rfl<|bE N fun x hy2 N=>xT rfl rfl h hy2 ?_;intro ad ccs hat hrep;obtain ⟨p3,c2,rfl,h3⟩:=xL hrep;refine yE 7 [] [25] rfl<|xO 0 hat [vT x.Name.l] (vT x.Name.l) rfl<|bE N fun s1 hy3 N=>fA rfl hy3<|yM [] [3] rfl<|zZ<|yH [5] rfl<|wK<|pM [(1,vP b 0),(3,vT s1.l),(4,vI i),(5,vI 0)] ?_;obtain ⟨o0,ho0,hMl⟩:=zB N;refine zBj p i s1 0 o0 ho0 iR h h1 (fun _ _ _ h=>hg _ _ _ h) (fun _ _ h=>ho _ _ h) ?_;intro I02 out3 heq le2;subst o0;have ⟨h,h1,H⟩:=m3 le2 h h1 H;refine zR<|zK<|zM<|yE 1 [] [52] rfl ?_;obtain ⟨s4,hy10,N⟩:=zB hMl;exact fA rfl hy10<|yM [] [3] rfl<|zO<|zK<|zM<|yM [] [4] rfl<|yT<|nT<|ih s4 (W (i+1)) _ N H h h1 hg ho hx
 intro hc1 N;exact wW<|yW<|hx _ _ (zC N).symm H
def sJ (p:zF) (i1:Int) (out6:Str) (k01:Int):Option (Str):=do
 let x5<-idx p.Parts i1
 if (decide (k01<(x5.Body.length:Int))) then
  let x6<-idx p.Parts i1
  let x7<-idx x6.Body k01
  let y3<-qY x7.Write
  let s7<-cat out6 y3
  let s8<-cat s7 (⟨[61]⟩:Str)
  let y4<-pR x7.Value
  let s9<-cat s8 y4
  let s10<-cat s9 (⟨[10]⟩:Str)
  sJ p i1 s10 (W (k01+1))
 else
  pure (id out6)
 partial_fixpoint
theorem zBl (p:zF) (i1:Int):∀ (out6:Str) (k01:Int) (o:Str),sJ p i1 out6 k01=some o->∀ {B}{I0 I:Imm}{Q p1 c p2 c1}{b:Nat},I0.le I->(S4 I p1 p.Arrays c)->(S4 I p2 p.Parts c1)->NG Q->NO Q->(∀ (I':Imm) (out7:Str),o=out7->I0.le I'->T 103 B Q (.exit 6) I' [hB b (cProg p p1 c p2 c1)] [(1,vP b 0),(3,vT out7.l),(6,vI i1)])->J Tryz.prog 103 B (nav (bodyOf Tryz.f135) [1,1,1,1,0,1,0,0,1,0,0,1,1,0]) Q I [hB b (cProg p p1 c p2 c1)] [(1,vP b 0),(3,vT out6.l),(6,vI i1),(7,vI k01)]:=by
 refine sJ.partial_correctness p i1 _ fun self ih out6 k01 o N B I0 I Q p1 c p2 c1 b H h h1 hg ho hx=>yU hg ho<|yD<|yC<|yE 4 [0] [71,73,74] rfl<|bE N fun x5 hy15 N=>xT rfl rfl h1 hy15 ?_;intro ad5 ccs5 hat5 hrep5;obtain ⟨p8,c7,p9,c8,rfl,h10,h11⟩:=wH hrep5;refine yE 6 [] [76] rfl<|xO 1 hat5 [vS p9 x5.Body c8] (vS p9 x5.Body c8) rfl<|yM [] [79] rfl<|zK<|yG N ?_ ?_
 · intro hc4 N;refine zS<|zZ<|yF<|yC<|yE 3 [0] [83,84] rfl<|bE N fun x6 hy16 N=>xT rfl rfl h1 hy16 ?_;intro ad6 ccs6 hat6 hrep6;obtain ⟨p10,c9,p11,c10,rfl,h12,h13⟩:=wH hrep6;refine yE 5 [] [86] rfl<|xO 1 hat6 [vS p11 x6.Body c10] (vS p11 x6.Body c10) rfl<|yE 7 [] [88] rfl<|bE N fun x7 hy17 N=>xT rfl rfl h13 hy17 ?_;intro ad7 ccs7 hat7 hrep7;obtain ⟨p12,c11,p13,c12,p14,c13,p15,c14,rfl,h14,h15,h16,h17⟩:=vC hrep7;refine xO 0 hat7 (cStmt x7 p12 c11 p13 c12 p14 c13 p15 c14) (vA (cStmt x7 p12 c11 p13 c12 p14 c13 p15 c14)) rfl<|xU [vT ([]),z0,vI 0,vI 0,z0,vI 0,vT ([]),z0,z0] ?_;intro b1 hb1;refine yZ 0 (cStmt x7 p12 c11 p13 c12 p14 c13 p15 c14) rfl<|zX rfl<|zK ?_;obtain ⟨y3,hy18,N⟩:=zB N;obtain ⟨s7,hy19,N⟩:=zB N;obtain ⟨s8,hy20,N⟩:=zB N;obtain ⟨y4,hy21,N⟩:=zB N;obtain ⟨s9,hy22,N⟩:=zB N;obtain ⟨s10,hy23,N⟩:=zB N;refine wP [.p (vT out6.l) [],.p (vP b1 0) [],.p (vA (cAccess x7.Write p12 c11)) [0],.q (vT y3.l),.q (vT s7.l),.q (vT s8.l),.p (vP b1 2) [],.p (vA (cExpr x7.Value p13 c12 p14 c13 p15 c14)) [0],.q (vT y4.l),.q (vT s9.l),.q (vT s10.l)] [[],[],[(1,false)],[(2,false)],[(0,false),(3,false)],[(4,false)],[],[(6,false)],[(7,false)],[(5,false),(8,false)],[(9,false)]] [hB b1 (cStmt x7 p12 c11 p13 c12 p14 c13 p15 c14),hB b (cProg p p1 c p2 c1)] [] [(10,false)] (zY [0,1]) ?_ ?_
   · refine Op<|Op<|Op<|Oq ?_<|Oq ?_<|Oq ?_<|Op<|Op<|Oq ?_<|Oq ?_<|Oq ?_<|On
     · intro I1 hf le1;refine yV [93] rfl ?_;have H:=iS I1;have h14:=h14.mono le1;refine xH (dA x7.Write _ hy18 h14) ?_;rintro I05 hs2 v2 k2 le5 - ⟨v016,rfl,rfl,rfl⟩ -;have H:=H.trans le5;exact xB H
     · intro I1 hf le1;exact yV [91,94] rfl<|fA rfl hy19<|xB iR
     · intro I1 hf le1;exact yV [95] rfl<|fA rfl hy20<|xB iR
     · intro I1 hf le1;refine yV [98] rfl ?_;have H:=iS I1;have ⟨h15,h16,h17⟩:=m3 le1 h15 h16 h17;refine xH (zDU x7.Value _ hy21 h15 h16 h17) ?_;rintro I06 hs2 v2 k2 le6 - ⟨v017,rfl,rfl,rfl⟩ -;have H:=H.trans le6;exact xB H
     · intro I1 hf le1;exact yV [96,99] rfl<|fA rfl hy22<|xB iR
     intro I1 hf le1;exact yV [100] rfl<|fA rfl hy23<|xB iR
   intro I07 le7;refine yV [1,6,7,101] rfl ?_;have ⟨h,h1,H⟩:=m3 le7 h h1 H;exact yM [] [3] rfl<|zO<|zK<|zM<|yM [] [7] rfl<|yT<|pL (zW [1] rfl (by decide))<|nT<|ih s10 (W (k01+1)) _ N H h h1 hg ho hx
 intro hc4 N;exact wW<|yW<|hx _ _ (zC N).symm H
def sK (p:zF) (out4:Str) (i1:Int):Option (Str):=do
 if (decide (i1<(p.Parts.length:Int))) then
  let s5<-cat out4 (⟨[112,97,114,116,10]⟩:Str)
  let x4<-idx p.Parts i1
  let y2<-zAB x4.Nest
  let s6<-cat s5 y2
  let out7<-sJ p i1 s6 0
  sK p out7 (W (i1+1))
 else
  pure (id out4)
 partial_fixpoint
theorem zBm (p:zF):∀ (out4:Str) (i1:Int) (o:Str),sK p out4 i1=some o->∀ {B}{I0 I:Imm}{Q p1 c p2 c1}{b:Nat},I0.le I->(S4 I p1 p.Arrays c)->(S4 I p2 p.Parts c1)->NG Q->NO Q->(∀ (I':Imm) (out5:Str),o=out5->I0.le I'->T 103 B Q (.exit 4) I' [] [(3,vT out5.l)])->J Tryz.prog 103 B (nav (bodyOf Tryz.f135) [1,1,1,1,0,1,0]) Q I [hB b (cProg p p1 c p2 c1)] [(1,vP b 0),(3,vT out4.l),(6,vI i1)]:=by
 refine sK.partial_correctness p _ fun self ih out4 i1 o N B I0 I Q p1 c p2 c1 b H h h1 hg ho hx=>yU hg ho<|yD<|yC<|yM [0] [58] rfl<|zK<|yG N ?_ ?_
 · intro hc3 N;refine zS<|zZ<|yF<|yC<|yE 1 [] [61] rfl<|bE N fun s5 hy11 N=>fA rfl hy11<|yE 5 [0] [64,65] rfl<|bE N fun x4 hy12 N=>xT rfl rfl h1 hy12 ?_;intro ad4 ccs4 hat4 hrep4;obtain ⟨p6,c5,p7,c6,rfl,h7,h8⟩:=wH hrep4;refine yE 7 [] [67] rfl<|xO 0 hat4 [vS p6 x4.Nest c5] (vS p6 x4.Nest c5) rfl<|bE N fun y2 hy13 N=>xH (zHa x4.Nest _ hy13 h7) ?_;rintro I04 hs2 v2 k2 le4 - ⟨v07,rfl,rfl,rfl⟩ -;have ⟨h,h1,H⟩:=m3 le4 h h1 H;obtain ⟨s6,hy14,N⟩:=zB N;refine fA rfl hy14<|yM [] [3] rfl<|uN [7] rfl<|wK<|pM [(1,vP b 0),(3,vT s6.l),(6,vI i1),(7,vI 0)] ?_;obtain ⟨o02,ho02,hMl2⟩:=zB N;refine zBl p i1 s6 0 o02 ho02 iR h h1 (fun _ _ _ h=>hg _ _ _ h) (fun _ _ h=>ho _ _ h) ?_;intro I08 out7 heq2 le8;subst o02;have ⟨h,h1,H⟩:=m3 le8 h h1 H;exact zR<|zO<|zK<|zM<|yM [] [6] rfl<|yT<|nT<|ih out7 (W (i1+1)) _ hMl2 H h h1 hg ho hx
 intro hc3 N;exact wW<|wG zQ<|yW<|hx _ _ (zC N).symm H
def kC (p:zF):Option (Str):=do
 let y<-tV p
 if (!y) then
  pure (⟨[]⟩:Str)
 else
  let out1<-sI p (⟨[112,114,111,103,114,97,109,10]⟩:Str) 0
  let out5<-sK p out1 0
  pure (id out5)
theorem zCv:∀ p r,kC p=some r->∀ {I:Imm}{p1 c p2 c1},(S4 I p1 p.Arrays c)->(S4 I p2 p.Parts c1)->RT 135 [vA (cProg p p1 c p2 c1)] I [] (rL  r):=by
 intro p r N I p1 c p2 c1 h h1;unfold kC at N;refine yJ Tryz.func135 fun B=>yC<|vK (cProg p p1 c p2 c1) ?_;intro b hb;refine wU [] []<|zZ<|yC<|tZ 1 [0] [(9,vA (cProg p p1 c p2 c1))]<|bE N fun y hy N=>uZ (dB p _ hy h h1) ?_;intro I0 le;have ⟨h,h1⟩:=m2 le h h1;refine yM [] [11] rfl<|zK<|yG N ?_ ?_
 · intro hc N;refine yH [2] rfl<|xI<|zL ?_;obtain rfl:=zC N;exact uE
 intro hc N;refine zS<|uN [3] rfl<|zZ<|yH [4] rfl<|wK<|pM [(1,vP b 0),(3,vT ([112,114,111,103,114,97,109,10])),(4,vI 0)] ?_;obtain ⟨o01,ho01,hMl1⟩:=zB N;refine zBk p (⟨[112,114,111,103,114,97,109,10]⟩:Str) 0 o01 ho01 iR h h1 (fun _ _ _ h=>h) (fun _ _ h=>h) ?_;intro I03 out1 heq1 le3;subst o01;have ⟨h,h1⟩:=m2 le3 h h1;refine zR<|zZ<|yH [6] rfl<|wK<|pM [(1,vP b 0),(3,vT out1.l),(6,vI 0)] ?_;obtain ⟨o03,ho03,hMl3⟩:=zB hMl1;refine zBm p out1 0 o03 ho03 iR h h1 (fun _ _ _ h=>h) (fun _ _ h=>h) ?_;intro I09 out5 heq3 le9;subst o03;refine zR<|uN [2] rfl<|zK<|xD ?_;obtain rfl:=zC hMl3;exact uE
instance zM9 {cs}{arr:List zD}{cs1}{raws:List Raw2}{parts:List zI}{vN:Value}{nl:List zE}{vB:Value}{bl:List zJ}{csN csB:List Value}:MonoI (fun i=>L4 i cs arr cs1 raws parts vN nl vB bl csN csB):=⟨fun _ _ hl h=>h.mono hl⟩
def zC4 (r:zF×Bool):KT:=fun kk I' hs' v=>
  ∃ (v0 v1:Value),hs'=[]/\v=tupV [v0,v1]/\(∃ cs,v0=.agg ⟨cs⟩/\Rp.rep I' cs r.1)/\v1=.bool r.2
def qT (y:List Str) (p:zF) (i:Int):Option zF:=do
 if (decide ((W (i+1))<(y.length:Int))) then
  let x<-idx y i
  let p1<-zAA p x
  qT y p1 (W (i+1))
 else
  pure p
 partial_fixpoint
theorem zCI (y:List Str):∀ (p:zF) (i:Int) (o:zF),qT y p i=some o->∀ {B}{I0 I:Imm}{Q}{text:Str}{pl:Option Addr}{cl:Nat}{b b1:Nat}{p1 c cs p2 c1 cs1}{raws:List Raw2}{vN vB:Value}{nl:List zE}{bl:List zJ}{csN csB:List Value},I0.le I->(S4 I pl y cl)->L4 I cs p.Arrays cs1 raws p.Parts vN nl vB bl csN csB->(∀ l a w,¬Q (.goto l) a w)->(∀ a w,¬Q .outgrown a w) ->
   (∀ (I':Imm) (p1:Option Addr) (c:Nat) (cs:List Value) (p2:Option Addr) (c1:Nat) (cs1:List Value) (raws:List Raw2) (vN vB:Value) (nl:List zE) (bl:List zJ) (csN csB:List Value),I0.le I'->L4 I' cs o.Arrays cs1 raws o.Parts vN nl vB bl csN csB->T 37 B Q (.exit 0) I' [hO zD (vS p1 o.Arrays c) cs,hO Raw2 (vS p2 raws c1) cs1,hO zE vN csN,hO zJ vB csB,hB b1 [vS p1 o.Arrays c,vS p2 raws c1],hB b zTwo] [(0,vT text.l),(2,vP b 0),(5,vP b1 0)]) ->
   J Tryz.prog 37 B (nav (bodyOf Tryz.f93) [1,1,1,1,0,1,0]) Q I [hO zD (vS p1 p.Arrays c) cs,hO Raw2 (vS p2 raws c1) cs1,hO zE vN csN,hO zJ vB csB,hB b1 [vS p1 p.Arrays c,vS p2 raws c1],hB b zTwo] [(0,vT text.l),(2,vP b 0),(4,vS pl y cl),(5,vP b1 0),(6,vI i)]:=by
 refine qT.partial_correctness y _ ?_
 intro self ih p i o N B I0 I Q text pl cl b b1 p1 c cs p2 c1 cs1 raws vN vB nl bl csN csB H h hQ hg ho hx
 refine yU hg ho<|yD<|yH [18] rfl<|zK<|yG N ?_ ?_
 · intro hc1 N
   refine zS<|zZ<|yF ?_
   obtain ⟨x,hy,N⟩:=zB N
   obtain ⟨q,hy1,N⟩:=zB N
   refine wP [.p (vA [vS p1 p.Arrays c,vS p2 raws c1]) [0],.p (vS pl y cl) [],.p (vI i) [],.x (fun I' v hx=>∃ ad,v=.pointer (some ad)/\hx=[]/\(At I' ad [vT x.l])),.x (fun I' v hx=>v=vT x.l/\hx=[]),.x (fun I' v hx=>∃ (p1:Option Addr) (c:Nat) (cs:List Value) (p2:Option Addr) (c1:Nat) (cs1:List Value) (raws:List Raw2) (vN vB:Value) (nl:List zE) (bl:List zJ) (csN csB:List Value),v=vA [vS p1 q.Arrays c,vS p2 raws c1]/\hx=[hO zD (vS p1 q.Arrays c) cs,hO Raw2 (vS p2 raws c1) cs1,hO zE vN csN,hO zJ vB csB]/\L4 I' cs q.Arrays cs1 raws q.Parts vN nl vB bl csN csB)] [[],[],[],[(1,false),(2,false)],[(3,false)],[(0,false),(4,false),(7,true)]] [hB b1 [vS p1 p.Arrays c,vS p2 raws c1],hB b zTwo] [[hO zD (vS p1 p.Arrays c) cs,hO Raw2 (vS p2 raws c1) cs1,hO zE vN csN,hO zJ vB csB]] [(5,true)] (zY [4,5,0,1,2,3]) ?_ ?_
   · refine Op<|Op<|Op<|Ox ?_<|Ox ?_<|Ox (hm:=fun v hx=>by repeat' (first | exact zG5 | exact zM9 | refine @zJd _ _ (fun _=>?_) | refine @zIm _ _ ?_ ?_)) ?_<|On
     · intro I1 hf le1
       refine yV [22,23] rfl<|xT rfl rfl (h.mono le1) hy ?_
       intro ad ccs hat hrep
       obtain rfl:=hrep
       exact yL [] iR ⟨_,rfl,rfl,hat⟩
     · intro I1 hf le1
       refine vL ?_
       rintro _ _ ⟨ad,rfl,rfl,hat⟩
       exact pT<|zAl [(24,.pointer (some ad))]<|xO 0 hat [vT x.l] (vT x.l) rfl<|xB iR
     intro I1 hf le1
     refine vL ?_
     rintro _ _ ⟨rfl,rfl⟩
     refine vL ?_
     rintro _ _ ⟨rfl,rfl⟩
     refine vL ?_
     rintro _ _ rfl
     refine yV [21,25] rfl<|rS (zH7 p x _ hy1 (hQ.mono le1)) rfl ?_
     rintro I02 hs2 v2 k2 le2 - ⟨p3,c2,cs2,p4,c3,cs3,raws1,vN1,vB1,nl1,bl1,csN1,csB1,rfl,rfl,hq⟩ -
     exact yL [hO zD (vS p3 q.Arrays c2) cs2,hO Raw2 (vS p4 raws1 c3) cs3,hO zE vN1 csN1,hO zJ vB1 csB1] le2 ⟨_,_,_,_,_,_,_,_,_,_,_,_,_,rfl,rfl,hq⟩
   intro I04 le4
   refine vL ?_
   rintro _ _ ⟨p3,c2,cs2,p4,c3,cs3,raws1,vN1,vB1,nl1,bl1,csN1,csB1,rfl,rfl,hq⟩
   exact pT<|zAl [(0,vT text.l),(2,vP b 0),(4,vS pl y cl),(5,vP b1 0),(6,vI i),(26,vA [vS p3 q.Arrays c2,vS p4 raws1 c3])]<|yZ 4 [vS p3 q.Arrays c2,vS p4 raws1 c3] rfl<|zX rfl<|zO<|zK<|zM<|yM [] [6] rfl<|yT<|nT<|ih _ _ _ N (H.trans le4) (h.mono le4) hq hg ho hx
 intro hc1 N
 obtain rfl:=zC N
 exact wW<|yW<|hx _ _ _ _ _ _ _ _ _ _ _ _ _ _ H hQ
def nH (text:Str):Option (zF×Bool):=do
 let y<-gK text (10:UInt8)
 if (decide ((y.length:Int)>42)) then
  pure ((zF.mk [] []),false)
 else
  let p<-qT y (zF.mk [] []) 1
  let t34<-(do
    if (text.l==([]:List UInt8)) then
     pure true
    else
     let z<-kC p
     pure (!(z.l==text.l))
      : Option Bool)
  if t34 then
   pure ((zF.mk [] []),false)
  else
   pure (p,true)
theorem zAf:∀ text r,nH text=some r->∀ {I:Imm},RT 93 [vT text.l] I [] (zC4 r):=by
 intro text r N I;unfold nH at N;refine yJ Tryz.func93 fun B=>yC<|xU zTwo ?_;intro b hb;refine wU [] []<|yX<|yE 1 [] [7] rfl<|bE N fun y hy N=>xH (zBG text (10:UInt8) _ hy) ?_;rintro I0 hs2 v2 k2 le - ⟨v0,rfl,rfl,h⟩ -;obtain ⟨pl,cl,rfl⟩:=h.form;refine yM [] [4] rfl<|yX<|yE 1 [] [9] rfl<|xU zTwo ?_;intro b1 hb1;refine eQ 0 zTwo [hB b1 zTwo,hB b zTwo] rfl rfl rfl rfl<|zX rfl<|zZ<|yH [12] rfl<|zK<|yG N ?_ ?_
 · intro hc N;refine yC<|tZ 1 [0] [(13,vA zTwo)]<|eQ 1 zTwo [hB b1 zTwo,hB b zTwo] rfl rfl rfl rfl<|wU [] [(3,vF)]<|xI<|zL ?_;obtain rfl:=zC N;exact xC ⟨_,_,(.cell 1 rfl rfl (by kernel_rfl) (.tmp rfl ResV.nil)),zQ,⟨_,_,rfl,rfl,⟨_,rfl,(xY ⟨_,_,rfl,(SL.nil _),(SL.nil _)⟩)⟩,rfl⟩⟩
 intro hc N;refine zS<|zZ<|yH [6] rfl<|wK<|pM [(0,vT text.l),(2,vP b 0),(4,vS pl y cl),(5,vP b1 0),(6,vI 1)]<|pL (gZ (Rp.sz zJ))<|pL (gZ (Rp.sz zE))<|pL (gZ (Rp.sz Raw2))<|pL (gZ (Rp.sz zD))<|bE N fun p hy1 N=>zCI (raws:=[]) (vN:=z0) (vB:=z0) (nl:=[]) (bl:=[]) y (zF.mk [] []) 1 p hy1 iR h ⟨RepL.nil,RepL.nil,⟨by decide,rfl,.inl ⟨rfl,rfl⟩⟩,RepL.nil,RepL.nil⟩ (fun _ _ _ h=>h) (fun _ _ h=>h) fun I1 p1 c cs p2 c1 cs1 raws vN vB nl bl csN csB le1 hQ=>xE 2 rfl ?_;intro I2 le2 hl2;have kN:=SL.of_frozen hl2 le2 hQ.n;have hQ:=hQ.mono le2;refine xE 2 rfl ?_;intro I3 le3 hl3;have kB:=SL.of_frozen hl3 le3 hQ.b;replace kN:=kN.mono le3;have hQ:=hQ.mono le3;refine xE 0 rfl ?_;intro I4 le4 hl4;have kA:=SL.of_frozen hl4 le4 hQ.arr;replace kN:=kN.mono le4;replace kB:=kB.mono le4;have hQ:=hQ.mono le4;refine xE 0 rfl ?_;intro I5 le5 hl5;have kP:SL I5 (vS p2 raws c1) p.Parts:=⟨cs1,hl5,by
   rw [fC hQ.raw];exact (hQ.lp.done kN kB).mono fun _ _=>Rp.mono le5⟩
 have e0:vS p2 raws c1=vS p2 p.Parts c1:=by simp only [vS,hQ.lp.2.1]
 rw [e0] at kP ⊢;clear e0 hl5 hl4 hl3 hl2 hQ;replace kA:=kA.mono le5;refine zR<|zZ<|yD<|bE N fun t34 ht N=>nN (K1 t34 I5 [hB b1 (cProg p p1 c p2 c1),hB b zTwo] fun o=>[(2,vP b 0),(5,vP b1 0),(34,.bool o)]) ?_ ?_
 · refine zM<|tZ 3 [] [(29,.bool (text.l==([]:List UInt8)))] ?_;cases hc2:(text.l==([]:List UInt8)) with
   | true =>
    have hM0:=tC hc2 ht;exact wU [] [(34,vY)]<|yW<|zU ⟨_,(zC hM0).symm,Imm.le.refl _,rfl,rfl⟩
   | false =>
    have hM0:=uL hc2 ht;obtain ⟨z,hz,hM0⟩:=zB hM0;refine tZ 4 [0] [(30,vA (cProg p p1 c p2 c1))]<|xH (zCv p _ hz kA kP) ?_;rintro I6 hs2 v2 k2 le6 - ⟨v0,rfl,rfl,rfl⟩ -;exact yM [] [34] rfl<|yW<|zU (ct hM0 le6)
 rintro I6 hs2 m2 ⟨o,rfl,le6,rfl,rfl⟩;replace kA:=kA.mono le6;replace kP:=kP.mono le6;refine zK<|yG N ?_ ?_
 · intro hc2 N;refine yC<|yE 1 [] [35] rfl<|eQ 1 zTwo [hB b1 (cProg p p1 c p2 c1),hB b zTwo] rfl rfl rfl rfl<|wU [] [(3,vF)]<|xI<|zL ?_;obtain rfl:=zC N;exact xC ⟨_,_,(.cell 1 rfl rfl (by kernel_rfl) (.tmp rfl ResV.nil)),zQ,⟨_,_,rfl,rfl,⟨_,rfl,(xY ⟨_,_,rfl,(SL.nil _),(SL.nil _)⟩)⟩,rfl⟩⟩
 intro hc2 N;refine zS<|yX<|tZ 1 [0] [(36,vA (cProg p p1 c p2 c1))]<|yZ 1 (cProg p p1 c p2 c1) rfl<|wU [] [(3,vY)]<|zK<|xD ?_;obtain rfl:=zC N;exact xC ⟨_,_,(.cell 1 rfl rfl (by kernel_rfl) (.tmp rfl ResV.nil)),zQ,⟨_,_,rfl,rfl,⟨_,rfl,(xY ⟨_,_,rfl,kA,kP⟩)⟩,rfl⟩⟩
def zCJ (r:(List zD)):KT:=fun kk I' hs' v=>
  ∃ v0,hs'=[]/\v=tupV [v0]/\SL I' v0 r
def gQ :Option ((List zD)):=do
 pure ([(zD.mk (⟨[65]⟩:Str) ([6]:List Int)),(zD.mk (⟨[66]⟩:Str) ([4,5]:List Int)),(zD.mk (⟨[67]⟩:Str) ([3]:List Int))]:List zD)
theorem zAU:∀ r,gQ =some r->∀ {I:Imm} ,RT 154 [] I [] (zCJ  r):=by
 intro  r N I;unfold gQ at N;refine yJ Tryz.func154 fun B=>vM []<|yX<|tK [vI 6] Int ?_;intro b hb;have h:RL I [vI 6] ([6]:List Int):=rI [6];refine yE 2 [] [2] rfl<|tK [vI 4,vI 5] Int ?_;intro b1 hb1;have h1:RL I [vI 4,vI 5] ([4,5]:List Int):=rI [4,5];refine yE 4 [] [4] rfl<|tK [vI 3] Int ?_;intro b2 hb2;have h2:RL I [vI 3] ([3]:List Int):=rI [3];refine yE 6 [] [6] rfl<|xX 2 rfl ?_;intro I0 le hl0;have h3:=SL.of_frozen hl0 le h;have ⟨h1,h2⟩:=m2 le h1 h2;refine xX 1 rfl ?_;intro I01 le1 hl01;have h4:=SL.of_frozen hl01 le1 h1;have ⟨h3,h2⟩:=m2 le1 h3 h2;refine xX 0 rfl ?_;intro I02 le2 hl02;have h5:=SL.of_frozen hl02 le2 h2;have ⟨h3,h4⟩:=m2 le2 h3 h4;refine tK [vT ([65]),vS (some ⟨b,0,none⟩) ([6]:List Int) 1,vT ([66]),vS (some ⟨b1,0,none⟩) ([4,5]:List Int) 2,vT ([67]),vS (some ⟨b2,0,none⟩) ([3]:List Int) 1] zD ?_;intro b3 hb3;have h6:RL I02 [vT ([65]),vS (some ⟨b,0,none⟩) ([6]:List Int) 1,vT ([66]),vS (some ⟨b1,0,none⟩) ([4,5]:List Int) 2,vT ([67]),vS (some ⟨b2,0,none⟩) ([3]:List Int) 1] ([(zD.mk (⟨[65]⟩:Str) ([6]:List Int)),(zD.mk (⟨[66]⟩:Str) ([4,5]:List Int)),(zD.mk (⟨[67]⟩:Str) ([3]:List Int))]:List zD):=⟨[vT ([65]),vS (some ⟨b,0,none⟩) ([6]:List Int) 1],_,rfl,rfl,(uO ⟨_,rfl,h3⟩),⟨[vT ([66]),vS (some ⟨b1,0,none⟩) ([4,5]:List Int) 2],_,rfl,rfl,(uO ⟨_,rfl,h4⟩),⟨[vT ([67]),vS (some ⟨b2,0,none⟩) ([3]:List Int) 1],_,rfl,rfl,(uO ⟨_,rfl,h5⟩),rfl⟩⟩⟩;refine yM [] [0] rfl<|xI<|xE 0 rfl ?_;intro I03 le3 hl03;have h7:=SL.of_frozen hl03 le3 h6;obtain rfl:=zC N;exact xC ⟨_,_,(.tmp rfl ResV.nil),zQ,⟨_,rfl,rfl,h7⟩⟩
def qZ (a0:zA) (x:Int) (b:zA) (y:Int) (i:Int) (Coefs:List Int):Option (List Int):=do
 if (decide (i<4)) then
  let x1<-idx a0.Coefs i
  let x2<-idx b.Coefs i
  let l<-app 8 Coefs ([(W ((W (x*x1))+(W (y*x2))))]:List Int)
  qZ a0 x b y (W (i+1)) l
 else
  pure (id Coefs)
 partial_fixpoint
theorem zDY (a0:zA) (x:Int) (b:zA) (y:Int):∀ (i:Int) (Coefs:List Int) (o:List Int),qZ a0 x b y i Coefs=some o->∀ {B}{I0 I:Imm}{Q p c p1 c1}{b1:Nat}{b2:Nat}{b3:Nat}{b4:Nat}{p2 c2 cs},I0.le I->(S4 I p1 b.Coefs c1)->(S4 I p a0.Coefs c)->(RL I cs Coefs)->NG Q->NO Q->(∀ (I':Imm) (Coefs1:List Int) (p3:Option Addr) (c3:Nat) (cs1:List Value),o=Coefs1->I0.le I'->(RL I' cs1 Coefs1)->T 46 B Q (.exit 0) I' [hO Int (vS p3 Coefs1 c3) cs1,hB b4 [vS p3 Coefs1 c3,vI (W ((W (x*a0.Const))+(W (y*b.Const))))],hB b3 [z0,vI 0]] [(8,vP b3 0),(9,vP b4 0)])->J Tryz.prog 46 B (nav (bodyOf Tryz.f156) [1,1,0,1,0]) Q I [hO Int (vS p2 Coefs c2) cs,hB b4 [vS p2 Coefs c2,vI (W ((W (x*a0.Const))+(W (y*b.Const))))],hB b3 [z0,vI 0],hB b2 (cAff b p1 c1),hB b1 (cAff a0 p c)] [(1,vI x),(3,vI y),(4,vP b1 0),(6,vP b2 0),(8,vP b3 0),(9,vP b4 0),(10,vI i)]:=by
 refine qZ.partial_correctness a0 x b y _ fun self ih i Coefs o N B I0 I Q p c p1 c1 b1 b2 b3 b4 p2 c2 cs H h1 h h3 hg ho hx=>yU hg ho<|yD<|yH [22] rfl<|zK<|yG N ?_ ?_
 · intro hc N;refine zS<|zZ<|yF ?_;obtain ⟨x1,hy,N⟩:=zB N;obtain ⟨x2,hy1,N⟩:=zB N;obtain ⟨l,hy2,N⟩:=zB N;refine wP [.p (vP b4 0) [],.p (vS p2 Coefs c2) [0],.p (vI x) [],.p (vP b1 0) [],.p (vS p a0.Coefs c) [3],.p (vI i) [],.x (fun I' v hx=>∃ ad,v=.pointer (some ad)/\hx=[]/\(At I' ad [vI x1])),.q (vI x1),.p (vI (W (x*x1))) [],.p (vI y) [],.p (vP b2 0) [],.p (vS p1 b.Coefs c1) [2],.p (vI i) [],.x (fun I' v hx=>∃ ad1,v=.pointer (some ad1)/\hx=[]/\(At I' ad1 [vI x2])),.q (vI x2),.p (vI (W (y*x2))) [],.p (vI (W ((W (x*x1))+(W (y*x2))))) [],.x (fun I' v hx=>∃ b5,v=vS (some ⟨b5,0,none⟩) ([(W ((W (x*x1))+(W (y*x2))))]:List Int) 1/\hx=[]/\(SL I' (vS (some ⟨b5,0,none⟩) ([(W ((W (x*x1))+(W (y*x2))))]:List Int) 1) ([(W ((W (x*x1))+(W (y*x2))))]:List Int))),.x (fun I' v hx=>∃ p4 c4 cs2,v=vS p4 l c4/\hx=[hO Int (vS p4 l c4) cs2]/\(RL I' cs2 l))] [[],[(0,false)],[],[],[(3,false)],[],[(4,false),(5,false)],[(6,false)],[(2,false),(7,false)],[],[],[(10,false)],[],[(11,false),(12,false)],[(13,false)],[(9,false),(14,false)],[(8,false),(15,false)],[(16,false)],[(1,false),(17,false),(21,true)]] [hB b4 [vS p2 Coefs c2,vI (W ((W (x*a0.Const))+(W (y*b.Const))))],hB b3 [z0,vI 0],hB b2 (cAff b p1 c1),hB b1 (cAff a0 p c)] [[hO Int (vS p2 Coefs c2) cs]] [(18,true)] (zY [1,2,3,4,0]) ?_ ?_
   · refine Op<|Op<|Op<|Op<|Op<|Op<|Ox ?_<|Oq ?_<|Op<|Op<|Op<|Op<|Op<|Ox ?_<|Oq ?_<|Op<|Op<|Ox ?_<|Ox ?_<|On
     · intro I1 hf le1;refine yV [29,30] rfl ?_;have h:=h.mono le1;refine xT rfl rfl h hy ?_;intro ad ccs hat hrep;obtain rfl:=hrep;exact yL [] iR ⟨_,rfl,rfl,hat⟩
     · rintro I1 hf le1 _ _ ⟨ad,rfl,rfl,hat⟩;exact yV [31] rfl<|xO 0 hat [vI x1] (vI x1) rfl<|xB iR
     · intro I1 hf le1;refine yV [36,37] rfl ?_;have h1:=h1.mono le1;refine xT rfl rfl h1 hy1 ?_;intro ad1 ccs1 hat1 hrep1;obtain rfl:=hrep1;exact yL [] iR ⟨_,rfl,rfl,hat1⟩
     · rintro I1 hf le1 _ _ ⟨ad1,rfl,rfl,hat1⟩;exact yV [38] rfl<|xO 0 hat1 [vI x2] (vI x2) rfl<|xB iR
     · intro I1 hf le1;refine yV [41] rfl ?_;have H:=iS I1;refine mU (rI [(W ((W (x*x1))+(W (y*x2))))]) ?_;intro b5 I0 le h6;have H:=H.trans le;exact yL [] H ⟨_,rfl,rfl,h6⟩
     rintro I1 hf le1 _ _ ⟨rfl,rfl⟩ _ _ ⟨b5,rfl,rfl,h6⟩ _ _ rfl;refine yV [26,42] rfl ?_;have h3:=iM le1 h3;obtain ⟨ccs2,k0,k01⟩:=h6;have h6:SL I1 (vS (some ⟨b5,0,none⟩) ([(W ((W (x*x1))+(W (y*x2))))]:List Int) 1) ([(W ((W (x*x1))+(W (y*x2))))]:List Int):=⟨_,k0,k01⟩;exact qD 3 1 0 rfl rfl rfl h3 (.inl k0) k01 hy2 fun p4 c4 cs2 h7=>vH (hs':=(hO Int (vS p4 l c4) cs2::hB b4 [vS p2 Coefs c2,vI (W ((W (x*a0.Const))+(W (y*b.Const))))]::hB b3 [z0,vI 0]::hB b2 (cAff b p1 c1)::hB b1 (cAff a0 p c)::hf)) rfl<|yL [hO Int (vS p4 l c4) cs2] iR ⟨_,_,_,rfl,rfl,h7⟩
   rintro I01 le1 _ _ ⟨p4,c4,cs2,rfl,rfl,h7⟩;refine yV [1,3,4,6,8,9,10,43] rfl ?_;have ⟨h1,h,H⟩:=m3 le1 h1 h H;exact yE 20 [] [44] rfl<|yZ 1 [vS p4 l c4,vI (W ((W (x*a0.Const))+(W (y*b.Const))))] rfl<|zX rfl<|zO<|zK<|zM<|yM [] [10] rfl<|yT<|nT<|ih (W (i+1)) l _ N H h1 h h7 hg ho hx
 intro hc N;exact wW<|wG (zW [0,1,2] rfl (by decide))<|yW<|hx _ _ _ _ _ (zC N).symm H h3
def jD (a0:zA) (x:Int) (b:zA) (y:Int):Option (zA):=do
 let Coefs1<-qZ a0 x b y 0 ([]:List Int)
 pure (zA.mk Coefs1 (W ((W (x*a0.Const))+(W (y*b.Const)))))
theorem zBa:∀ a0 x b y r,jD a0 x b y=some r->∀ {I:Imm}{p c p1 c1},(S4 I p a0.Coefs c)->(S4 I p1 b.Coefs c1)->RT 156 [vA (cAff a0 p c),vI x,vA (cAff b p1 c1),vI y] I [] (oN  r):=by
 intro a0 x b y r N I p c p1 c1 h h1;unfold jD at N;refine yJ Tryz.func156 fun B=>yC<|vK (cAff a0 p c) ?_;intro b1 hb;refine vK (cAff b p1 c1) ?_;intro b2 hb1;refine xU [z0,vI 0] ?_;intro b3 hb2;refine zX rfl<|yX<|tZ 10 [2,1] [(20,vA [z0,vI (W ((W (x*a0.Const))+(W (y*b.Const))))])]<|xU [z0,vI 0] ?_;intro b4 hb3;refine yZ 0 [z0,vI (W ((W (x*a0.Const))+(W (y*b.Const))))] rfl<|zX rfl<|zZ<|yH [10] rfl<|wK<|pM [(1,vI x),(3,vI y),(4,vP b1 0),(6,vP b2 0),(8,vP b3 0),(9,vP b4 0),(10,vI 0)]<|zAb Int fun h2=>?_;obtain ⟨o0,ho0,hMl⟩:=zB N;refine zDY a0 x b y 0 ([]:List Int) o0 ho0 iR h1 h h2 (fun _ _ _ h=>h) (fun _ _ h=>h) ?_;intro I02 Coefs1 p3 c3 cs1 heq le2 h4;subst o0;refine zR<|yX<|tZ 1 [1] [(45,vA [vS p3 Coefs1 c3,vI (W ((W (x*a0.Const))+(W (y*b.Const))))])]<|yZ 2 [vS p3 Coefs1 c3,vI (W ((W (x*a0.Const))+(W (y*b.Const))))] rfl<|zX rfl<|xI<|xE 0 rfl ?_;intro I03 le3 hl01;have h8:=SL.of_frozen hl01 le3 h4;obtain rfl:=zC hMl;exact xC ⟨_,_,(.cell 1 rfl rfl (by kernel_rfl) ResV.nil),zQ,⟨_,rfl,rfl,⟨_,rfl,(yI ⟨_,rfl,h8⟩)⟩⟩⟩
def zGJ (b0:Nat) (r:zE×zP):KT:=fun kk I' hs' v=>
  ∃ v0 k0,hs'=[.blk b0 ⟨k0⟩]/\v=tupV [v0]/\(∃ cs,v0=.agg ⟨cs⟩/\Rp.rep I' cs r.1)/\Rp.rep I' k0 r.2
def zAC (r0:zP) (depth:Int):Option (zE×zP):=do
 let (y1,y2)<-xG r0 ([0,0,1,0,(-1)]:List Int)
 let y3<-uC y1
 let (y5,y6)<-xG y2 ([3,4,2,3,1]:List Int)
 let y7<-uC y5
 let (t23,x)<-(do
   if (decide (depth>0)) then
    let (y9,y10)<-xF y6 4
    pure ((y9==0),y10)
   else
    pure (false,y6)
     : Option (Bool×zP))
 let (x1,x2,x3)<-(do
   if t23 then
    let (y12,y13)<-xF x depth
    let (y15,y16)<-xF y13 2
    let (x4,x5)<-(do
      if (y15==0) then
       let y17<-kW y12
       pure (y17,(zA.mk y7.Coefs y7.Const))
      else
       let y18<-kW y12
       let y19<-uC 1
       let y20<-jD y18 1 y19 1
       pure ((zA.mk y3.Coefs y3.Const),y20)
        : Option (zA×zA))
    pure (x4,x5,y16)
   else
    pure ((zA.mk y3.Coefs y3.Const),(zA.mk y7.Coefs y7.Const),x)
     : Option (zA×zA×zP))
 let (y22,y23)<-xF x3 12
 let (Lo,Hi,x6)<-(do
   if (y22==0) then
    let (y25,y26)<-xG y23 ([3,2,4]:List Int)
    let y27<-uC y25
    let l<-app 32 ([x2]:List zA) ([y27]:List zA)
    pure (([x1]:List zA),l,y26)
   else
    let (Lo1,x7)<-(do
      if (y22==1) then
       let (y29,y30)<-xG y23 ([0,1]:List Int)
       let y31<-uC y29
       let l1<-app 32 ([x1]:List zA) ([y31]:List zA)
       pure (l1,y30)
      else
       pure (([x1]:List zA),y23)
        : Option (List zA×zP))
    pure (Lo1,([x2]:List zA),x7)
     : Option (List zA×List zA×zP))
 pure ((zE.mk Lo Hi),x6)
theorem zHb:∀ r0 depth r,zAC r0 depth=some r->∀ {I:Imm}{r01:Nat}{p c},(S4 I p r0.b c)->RT 198 [vP r01 0,vI depth] I [hB r01 (cRd r0 p c)] (zGJ r01 r):=by
 intro r0 depth r N I r01 p c h;unfold zAC at N;refine yJ Tryz.func198 fun B=>?_;have H:=iS I;refine yC<|xU zTwo ?_;intro b hb;refine zX rfl<|yX<|yE 1 [] [9] rfl<|mU (rI [0,0,1,0,(-1)]) ?_;intro b1 I0 le h2;have ⟨h,H⟩:=m2 le h H;refine sW (zY [1,0] (hs':=[hB r01 (cRd r0 p c),hB b zTwo])) ?_;obtain ⟨⟨y1,y2⟩,hy,N⟩:=zB N;refine rS (xR r0 ([0,0,1,0,(-1)]:List Int) _ hy h h2) rfl ?_;rintro I01 hs2 v2 k2 le1 - ⟨v0,kk,rfl,rfl,rfl,h4⟩ -;have H:=H.trans le1;obtain ⟨p1,c1,rfl,h5⟩:=yA h4;obtain ⟨y3,hy1,N⟩:=zB N;refine xH (tX y1 _ hy1 ) ?_;rintro I02 hs2 v2 k2 le2 - ⟨p2,c2,cs,rfl,rfl,h6⟩ -;have ⟨h5,H⟩:=m2 le2 h5 H;refine xU [z0,vI 0] ?_;intro b2 hb2;refine yZ 0 (cAff y3 p2 c2) rfl<|zX rfl<|yX<|yE 1 [] [13] rfl<|mU (rI [3,4,2,3,1]) ?_;intro b3 I03 le3 h8;have ⟨h6,h5,H⟩:=m3 le3 h6 h5 H;refine sW (zY [2,0,1,3] (hs':=[hB r01 (cRd y2 p1 c1),hB b2 (cAff y3 p2 c2),hO Int (vS p2 y3.Coefs c2) cs,hB b zTwo])) ?_;obtain ⟨⟨y5,y6⟩,hy2,N⟩:=zB N;refine rS (xR y2 ([3,4,2,3,1]:List Int) _ hy2 h5 h8) rfl ?_;rintro I04 hs2 v2 k2 le4 - ⟨v02,kk1,rfl,rfl,rfl,h10⟩ -;have ⟨h6,H⟩:=m2 le4 h6 H;obtain ⟨p3,c3,rfl,h11⟩:=yA h10;obtain ⟨y7,hy3,N⟩:=zB N;refine xH (tX y5 _ hy3 ) ?_;rintro I05 hs2 v2 k2 le5 - ⟨p4,c4,cs1,rfl,rfl,h12⟩ -;have ⟨h11,h6,H⟩:=m3 le5 h11 h6 H;refine xU [z0,vI 0] ?_;intro b4 hb4;refine yZ 0 (cAff y7 p4 c4) rfl<|zX rfl<|zZ<|yD ?_;obtain ⟨o0,ho0,hMc⟩:=zB N;refine nN (fun I' hs' m'=>∃ (t23:Bool) (x:zP) (p5:Option Addr) (c5:Nat),o0=(t23,x)/\I05.le I'/\(S4 I' p5 x.b c5)/\hs'=[hB b4 (cAff y7 p4 c4),hO Int (vS p4 y7.Coefs c4) cs1,hB r01 (cRd x p5 c5),hB b2 (cAff y3 p2 c2),hO Int (vS p2 y3.Coefs c2) cs,hB b zTwo]/\m'=[(0,vP r01 0),(1,vI depth),(4,vP b 0),(5,vP b2 0),(6,vP b4 0),(23,.bool t23)]) ?_ ?_
 · have H:=iS I05;refine zM<|yE 3 [] [19] rfl<|wO [19] ho0 ?_ ?_
   · intro hc N;refine yE 4 [] [20] rfl<|sW (zY [2,0,1,3,4,5] (hs':=[hB r01 (cRd y6 p3 c3),hB b4 (cAff y7 p4 c4),hO Int (vS p4 y7.Coefs c4) cs1,hB b2 (cAff y3 p2 c2),hO Int (vS p2 y3.Coefs c2) cs,hB b zTwo])) ?_;obtain ⟨⟨y9,y10⟩,hy4,N⟩:=zB N;refine rS (wD y6 4 _ hy4 h11) rfl ?_;rintro I07 hs2 v2 k2 le6 - ⟨v04,kk2,rfl,rfl,rfl,h15⟩ -;have H:=H.trans le6;obtain ⟨p6,c6,rfl,h16⟩:=yA h15;exact yM [] [23] rfl<|wG (zW [1,2,0,3,4,5] rfl (by decide))<|yW<|zU ⟨_,_,_,_,(zC N).symm,H,h16,rfl,rfl⟩
   intro hc N;exact wU [] [(23,vF)]<|yW<|zU ⟨_,_,_,_,(zC N).symm,H,h11,rfl,rfl⟩
 rintro I06 hs2 m2 ⟨t23,x,p5,c5,heq,le7,h13,rfl,rfl⟩;subst o0;have ⟨h12,h6,H⟩:=m3 le7 h12 h6 H;refine zK<|qX 4 rfl ?_;intro I08 le8 hl02;have h17:=SL.of_frozen hl02 le8 h6;have ⟨h12,h13,H⟩:=m3 le8 h12 h13 H;refine qX 1 rfl ?_;intro I09 le9 hl03;have h18:=SL.of_frozen hl03 le9 h12;have ⟨h13,h17,H⟩:=m3 le9 h13 h17 H;obtain ⟨o01,ho01,hMc1⟩:=zB hMc;refine nN (fun I' hs' m'=>∃ (x1:zA) (x2:zA) (x3:zP) (p7:Option Addr) (c7:Nat) (p8:Option Addr) (c8:Nat) (p9:Option Addr) (c9:Nat),o01=(x1,x2,x3)/\I09.le I'/\(S4 I' p7 x1.Coefs c7)/\(S4 I' p8 x2.Coefs c8)/\(S4 I' p9 x3.b c9)/\hs'=[hB b4 (cAff x2 p8 c8),hB r01 (cRd x3 p9 c9),hB b2 (cAff x1 p7 c7),hB b zTwo]/\m'=[(0,vP r01 0),(4,vP b 0),(5,vP b2 0),(6,vP b4 0)]) ?_ ?_
 · have H:=iS I09;refine yG ho01 ?_ ?_
   · intro hc1 N;refine yC<|yE 2 [] [24,25] rfl<|sW (zY [1,0,2,3] (hs':=[hB r01 (cRd x p5 c5),hB b4 (cAff y7 p4 c4),hB b2 (cAff y3 p2 c2),hB b zTwo])) ?_;obtain ⟨⟨y12,y13⟩,hy5,N⟩:=zB N;refine rS (wD x depth _ hy5 h13) rfl ?_;rintro I011 hs2 v2 k2 le10 - ⟨v06,kk3,rfl,rfl,rfl,h23⟩ -;have ⟨h18,h17,H⟩:=m3 le10 h18 h17 H;obtain ⟨p10,c10,rfl,h24⟩:=yA h23;refine yM [] [7] rfl<|yX<|yE 1 [] [27] rfl ?_;obtain ⟨⟨y15,y16⟩,hy6,N⟩:=zB N;refine rS (wD y13 2 _ hy6 h24) rfl ?_;rintro I012 hs2 v2 k2 le11 - ⟨v08,kk4,rfl,rfl,rfl,h26⟩ -;have ⟨h18,h17,H⟩:=m3 le11 h18 h17 H;obtain ⟨p11,c11,rfl,h27⟩:=yA h26;refine yM [] [29] rfl<|zK ?_;obtain ⟨o02,ho02,hMc2⟩:=zB N;refine nN (fun I' hs' m'=>∃ (x4:zA) (x5:zA) (p12:Option Addr) (c12:Nat) (p13:Option Addr) (c13:Nat),o02=(x4,x5)/\I012.le I'/\(S4 I' p12 x4.Coefs c12)/\(S4 I' p13 x5.Coefs c13)/\hs'=[hB r01 (cRd y16 p11 c11),hB b4 (cAff x5 p13 c13),hB b2 (cAff x4 p12 c12),hB b zTwo]/\m'=[(0,vP r01 0),(4,vP b 0),(5,vP b2 0),(6,vP b4 0)]) ?_ ?_
     · have H:=iS I012;refine yG ho02 ?_ ?_
       · intro hc2 N;refine zM<|yE 1 [] [30] rfl<|bE N fun y17 hy7 N=>xH (dX y12 _ hy7 ) ?_;rintro I014 hs2 v2 k2 le12 - ⟨v010,rfl,rfl,⟨cs2,rfl,h30⟩⟩ -;have ⟨h18,H⟩:=m2 le12 h18 H;obtain ⟨p14,c14,rfl,h31⟩:=yB h30;exact yZ 2 (cAff y17 p14 c14) rfl<|zX rfl<|yW<|zU ⟨_,_,_,_,_,_,(zC N).symm,H,h31,h18,rfl,rfl⟩
       intro hc2 N;refine zM<|yE 1 [] [32] rfl<|bE N fun y18 hy8 N=>xH (dX y12 _ hy8 ) ?_;rintro I015 hs2 v2 k2 le13 - ⟨v012,rfl,rfl,⟨cs3,rfl,h32⟩⟩ -;have ⟨h17,H⟩:=m2 le13 h17 H;obtain ⟨p15,c15,rfl,h33⟩:=yB h32;obtain ⟨y19,hy9,N⟩:=zB N;refine xH (tX 1 _ hy9 ) ?_;rintro I016 hs2 v2 k2 le14 - ⟨p16,c16,cs4,rfl,rfl,h34⟩ -;have ⟨h33,h17,H⟩:=m3 le14 h33 h17 H;refine xX 0 rfl ?_;intro I017 le15 hl04;have h35:=SL.of_frozen hl04 le15 h34;have ⟨h33,h17,H⟩:=m3 le15 h33 h17 H;obtain ⟨y20,hy10,N⟩:=zB N;refine xH (zBa y18 1 y19 1 _ hy10 h33 h35) ?_;rintro I018 hs2 v2 k2 le16 - ⟨v014,rfl,rfl,⟨cs5,rfl,h36⟩⟩ -;have ⟨h17,H⟩:=m2 le16 h17 H;obtain ⟨p17,c17,rfl,h37⟩:=yB h36;exact yZ 1 (cAff y20 p17 c17) rfl<|zX rfl<|yW<|zU ⟨_,_,_,_,_,_,(zC N).symm,H,h17,h37,rfl,rfl⟩
     rintro I013 hs2 m2 ⟨x4,x5,p12,c12,p13,c13,heq1,le17,h28,h29,rfl,rfl⟩;subst o02;have ⟨h27,H⟩:=m2 le17 h27 H;exact wG (zW [1,0,2,3] rfl (by decide))<|yW<|zU ⟨_,_,_,_,_,_,_,_,_,(zC hMc2).symm,H,h28,h29,h27,rfl,rfl⟩
   intro hc1 N;exact zS<|yW<|zU ⟨_,_,_,_,_,_,_,_,_,(zC N).symm,H,h17,h18,h13,rfl,rfl⟩
 rintro I010 hs2 m2 ⟨x1,x2,x3,p7,c7,p8,c8,p9,c9,heq2,le18,h19,h20,h21,rfl,rfl⟩;subst o01;have H:=H.trans le18;refine yX<|tZ 1 [2] [(36,vA (cAff x1 p7 c7))]<|tK (cAff x1 p7 c7) zA ?_;intro b5 hb5;have h38:RL I010 (cAff x1 p7 c7) ([x1]:List zA):=⟨(cAff x1 p7 c7),_,rfl,rfl,(yI ⟨_,rfl,h19⟩),rfl⟩;refine tZ 3 [1] [(38,vA (cAff x2 p8 c8))]<|tK (cAff x2 p8 c8) zA ?_;intro b6 hb6;have h39:RL I010 (cAff x2 p8 c8) ([x2]:List zA):=⟨(cAff x2 p8 c8),_,rfl,rfl,(yI ⟨_,rfl,h20⟩),rfl⟩;refine yE 5 [] [40] rfl<|xU zTwo ?_;intro b7 hb7;refine yZ 0 [vS (some ⟨b5,0,none⟩) ([x1]:List zA) 1,vS (some ⟨b6,0,none⟩) ([x2]:List zA) 1] rfl<|zX rfl<|zZ<|yC<|yE 1 [] [41] rfl<|sW (zY [4,0,1,2,3,5,6] (hs':=[hB r01 (cRd x3 p9 c9),hB b7 [vS (some ⟨b5,0,none⟩) ([x1]:List zA) 1,vS (some ⟨b6,0,none⟩) ([x2]:List zA) 1],hO zA (vS (some ⟨b6,0,none⟩) ([x2]:List zA) 1) (cAff x2 p8 c8),hO zA (vS (some ⟨b5,0,none⟩) ([x1]:List zA) 1) (cAff x1 p7 c7),hB b4 (cAff x2 p8 c8),hB b2 (cAff x1 p7 c7),hB b zTwo])) ?_;obtain ⟨⟨y22,y23⟩,hy11,N⟩:=zB hMc1;refine rS (wD x3 12 _ hy11 h21) rfl ?_;rintro I019 hs2 v2 k2 le19 - ⟨v016,kk5,rfl,rfl,rfl,h41⟩ -;have ⟨h38,h39,H⟩:=m3 le19 h38 h39 H;obtain ⟨p18,c18,rfl,h42⟩:=yA h41;refine zX rfl<|wK<|yH [43] rfl<|zK<|qX 4 rfl ?_;intro I020 le20 hl05;have hat:At I020 ⟨b4,0,none⟩ (cAff x2 p8 c8):=At.of_blk hl05;have ⟨h42,h38,h39,H⟩:=m4 le20 h42 h38 h39 H;refine qX 4 rfl ?_;intro I021 le21 hl06;have hat1:At I021 ⟨b2,0,none⟩ (cAff x1 p7 c7):=At.of_blk hl06;have ⟨h42,h38,h39,H⟩:=m4 le21 h42 h38 h39 H;obtain ⟨o03,ho03,hMc3⟩:=zB N;refine nN (fun I' hs' m'=>∃ (Lo:List zA) (Hi:List zA) (x6:zP) (p19:Option Addr) (c19:Nat) (cs6:List Value) (p20:Option Addr) (c20:Nat) (cs7:List Value) (p21:Option Addr) (c21:Nat),o03=(Lo,Hi,x6)/\I021.le I'/\(RL I' cs6 Lo)/\(RL I' cs7 Hi)/\(S4 I' p21 x6.b c21)/\hs'=[hB r01 (cRd x6 p21 c21),hB b7 [vS p19 Lo c19,vS p20 Hi c20],hO zA (vS p20 Hi c20) cs7,hO zA (vS p19 Lo c19) cs6,hB b zTwo]/\m'=[(4,vP b 0),(8,vP b7 0)]) ?_ ?_
 · have H:=iS I021;refine yG ho03 ?_ ?_
   · intro hc3 N;obtain ⟨⟨y25,y26⟩,hy12,N⟩:=zB N;obtain ⟨y27,hy13,N⟩:=zB N;obtain ⟨l,hy14,N⟩:=zB N;refine wP [.p (vP b7 1) [],.p (vS (some ⟨b6,0,none⟩) ([x2]:List zA) 1) [0],.p (vP r01 0) [],.x (fun I' v hx=>∃ b8,v=vS (some ⟨b8,0,none⟩) ([3,2,4]:List Int) 3/\hx=[]/\(SL I' (vS (some ⟨b8,0,none⟩) ([3,2,4]:List Int) 3) ([3,2,4]:List Int))),.x (fun I' v hx=>∃ p22 c22,v=vI y25/\hx=[hB r01 (cRd y26 p22 c22)]/\(S4 I' p22 y26.b c22)),.x (fun I' v hx=>∃ p23 c23 cs8,v=vA (cAff y27 p23 c23)/\hx=[hO Int (vS p23 y27.Coefs c23) cs8]/\(RL I' cs8 y27.Coefs)),.x (fun I' v hx=>∃ b9,v=vS (some ⟨b9,0,none⟩) ([y27]:List zA) 1/\hx=[]/\(SL I' (vS (some ⟨b9,0,none⟩) ([y27]:List zA) 1) ([y27]:List zA))),.x (fun I' v hx=>∃ p24 c24 cs9,v=vS p24 l c24/\hx=[hO zA (vS p24 l c24) cs9]/\(RL I' cs9 l))] [[],[(0,false)],[],[],[(2,false),(3,false),(10,true)],[(4,false)],[(5,true)],[(1,false),(6,false),(11,true)]] [hB b7 [vS (some ⟨b5,0,none⟩) ([x1]:List zA) 1,vS (some ⟨b6,0,none⟩) ([x2]:List zA) 1],hO zA (vS (some ⟨b5,0,none⟩) ([x1]:List zA) 1) (cAff x1 p7 c7),hB b zTwo] [[hB r01 (cRd y23 p18 c18)],[hO zA (vS (some ⟨b6,0,none⟩) ([x2]:List zA) 1) (cAff x2 p8 c8)]] [(4,true),(7,true)] (zY [1,3,4,0,2]) ?_ ?_
     · refine Op<|Op<|Op<|Ox ?_<|Ox ?_<|Ox ?_<|Ox ?_<|Ox ?_<|On
       · intro I1 hf le1;refine dS [] ?_;have H:=iS I1;refine mU (rI [3,2,4]) ?_;intro b8 I023 le22 h47;have H:=H.trans le22;exact yL [] H ⟨_,rfl,rfl,h47⟩
       · rintro I1 hf le1 _ _ ⟨rfl,rfl⟩ _ _ ⟨b8,rfl,rfl,h47⟩ _ _ rfl;refine yV [47,48] rfl ?_;have H:=iS I1;have h42:=h42.mono le1;refine rS (xR y23 ([3,2,4]:List Int) _ hy12 h42 h47) rfl ?_;rintro I024 hs2 v2 k2 le23 - ⟨v018,kk6,rfl,rfl,rfl,h49⟩ -;have H:=H.trans le23;obtain ⟨p22,c22,rfl,h50⟩:=yA h49;exact yL [hB r01 (cRd y26 p22 c22)] H ⟨_,_,rfl,rfl,h50⟩
       · rintro I1 hf le1 _ _ ⟨p22,c22,rfl,rfl,h50⟩;refine yV [49] rfl ?_;have H:=iS I1;refine xH (tX y25 _ hy13 ) ?_;rintro I025 hs2 v2 k2 le24 - ⟨p23,c23,cs8,rfl,rfl,h51⟩ -;have H:=H.trans le24;exact yL [hO Int (vS p23 y27.Coefs c23) cs8] H ⟨_,_,_,rfl,rfl,h51⟩
       · rintro I1 hf le1 _ _ ⟨p23,c23,cs8,rfl,rfl,h51⟩;refine yV [50] rfl ?_;have H:=iS I1;refine xX 0 rfl ?_;intro I026 le25 hl08;have h52:=SL.of_frozen hl08 le25 h51;have H:=H.trans le25;refine mU (rc y27 (yI ⟨_,rfl,h52⟩) rN) ?_;intro b9 I027 le26 h54;have H:=H.trans le26;exact yL [] H ⟨_,rfl,rfl,h54⟩
       rintro I1 hf le1 _ _ ⟨rfl,rfl⟩ _ _ ⟨b9,rfl,rfl,h54⟩ _ _ rfl;refine yV [46,51] rfl ?_;have h39:=iM le1 h39;obtain ⟨ccs,k0,k01⟩:=h54;have h54:SL I1 (vS (some ⟨b9,0,none⟩) ([y27]:List zA) 1) ([y27]:List zA):=⟨_,k0,k01⟩;exact qD 69 2 0 rfl rfl rfl h39 (.inl k0) k01 hy14 fun p24 c24 cs9 h55=>vH (hs':=(hO zA (vS p24 l c24) cs9::hB b7 [vS (some ⟨b5,0,none⟩) ([x1]:List zA) 1,vS (some ⟨b6,0,none⟩) ([x2]:List zA) 1]::hO zA (vS (some ⟨b5,0,none⟩) ([x1]:List zA) 1) (cAff x1 p7 c7)::hB b zTwo::hf)) rfl<|yL [hO zA (vS p24 l c24) cs9] iR ⟨_,_,_,rfl,rfl,h55⟩
     rintro I028 le27 _ _ ⟨p22,c22,rfl,rfl,h50⟩ _ _ ⟨p24,c24,cs9,rfl,rfl,h55⟩;refine yV [4,8,52] rfl ?_;have ⟨h38,H⟩:=m2 le27 h38 H;exact yE 9 [] [53] rfl<|yZ 2 [vS (some ⟨b5,0,none⟩) ([x1]:List zA) 1,vS p24 l c24] rfl<|zX rfl<|wG (zW [1,2,0,3,4] rfl (by decide))<|yW<|zU ⟨_,_,_,_,_,_,_,_,_,_,_,(zC N).symm,H,h38,h55,h50,rfl,rfl⟩
   intro hc3 N;refine yH [54] rfl<|zK ?_;obtain ⟨o04,ho04,hMc4⟩:=zB N;refine nN (fun I' hs' m'=>∃ (Lo1:List zA) (x7:zP) (p25:Option Addr) (c25:Nat) (cs10:List Value) (p26:Option Addr) (c26:Nat),o04=(Lo1,x7)/\I021.le I'/\(RL I' cs10 Lo1)/\(S4 I' p26 x7.b c26)/\hs'=[hB r01 (cRd x7 p26 c26),hB b7 [vS p25 Lo1 c25,vS (some ⟨b6,0,none⟩) ([x2]:List zA) 1],hO zA (vS (some ⟨b6,0,none⟩) ([x2]:List zA) 1) (cAff x2 p8 c8),hO zA (vS p25 Lo1 c25) cs10,hB b zTwo]/\m'=[(4,vP b 0),(8,vP b7 0)]) ?_ ?_
   · have H:=iS I021;refine yG ho04 ?_ ?_
     · intro hc4 N;obtain ⟨⟨y29,y30⟩,hy15,N⟩:=zB N;obtain ⟨y31,hy16,N⟩:=zB N;obtain ⟨l1,hy17,N⟩:=zB N;refine wP [.p (vP b7 0) [],.p (vS (some ⟨b5,0,none⟩) ([x1]:List zA) 1) [0],.p (vP r01 0) [],.x (fun I' v hx=>∃ b10,v=vS (some ⟨b10,0,none⟩) ([0,1]:List Int) 2/\hx=[]/\(SL I' (vS (some ⟨b10,0,none⟩) ([0,1]:List Int) 2) ([0,1]:List Int))),.x (fun I' v hx=>∃ p27 c27,v=vI y29/\hx=[hB r01 (cRd y30 p27 c27)]/\(S4 I' p27 y30.b c27)),.x (fun I' v hx=>∃ p28 c28 cs11,v=vA (cAff y31 p28 c28)/\hx=[hO Int (vS p28 y31.Coefs c28) cs11]/\(RL I' cs11 y31.Coefs)),.x (fun I' v hx=>∃ b11,v=vS (some ⟨b11,0,none⟩) ([y31]:List zA) 1/\hx=[]/\(SL I' (vS (some ⟨b11,0,none⟩) ([y31]:List zA) 1) ([y31]:List zA))),.x (fun I' v hx=>∃ p29 c29 cs12,v=vS p29 l1 c29/\hx=[hO zA (vS p29 l1 c29) cs12]/\(RL I' cs12 l1))] [[],[(0,false)],[],[],[(2,false),(3,false),(10,true)],[(4,false)],[(5,true)],[(1,false),(6,false),(11,true)]] [hB b7 [vS (some ⟨b5,0,none⟩) ([x1]:List zA) 1,vS (some ⟨b6,0,none⟩) ([x2]:List zA) 1],hO zA (vS (some ⟨b6,0,none⟩) ([x2]:List zA) 1) (cAff x2 p8 c8),hB b zTwo] [[hB r01 (cRd y23 p18 c18)],[hO zA (vS (some ⟨b5,0,none⟩) ([x1]:List zA) 1) (cAff x1 p7 c7)]] [(4,true),(7,true)] (zY [1,2,4,0,3]) ?_ ?_
       · refine Op<|Op<|Op<|Ox ?_<|Ox ?_<|Ox ?_<|Ox ?_<|Ox ?_<|On
         · intro I1 hf le1;refine dS [] ?_;have H:=iS I1;refine mU (rI [0,1]) ?_;intro b10 I030 le28 h59;have H:=H.trans le28;exact yL [] H ⟨_,rfl,rfl,h59⟩
         · rintro I1 hf le1 _ _ ⟨rfl,rfl⟩ _ _ ⟨b10,rfl,rfl,h59⟩ _ _ rfl;refine yV [58,59] rfl ?_;have H:=iS I1;have h42:=h42.mono le1;refine rS (xR y23 ([0,1]:List Int) _ hy15 h42 h59) rfl ?_;rintro I031 hs2 v2 k2 le29 - ⟨v020,kk7,rfl,rfl,rfl,h61⟩ -;have H:=H.trans le29;obtain ⟨p27,c27,rfl,h62⟩:=yA h61;exact yL [hB r01 (cRd y30 p27 c27)] H ⟨_,_,rfl,rfl,h62⟩
         · rintro I1 hf le1 _ _ ⟨p27,c27,rfl,rfl,h62⟩;refine yV [60] rfl ?_;have H:=iS I1;refine xH (tX y29 _ hy16 ) ?_;rintro I032 hs2 v2 k2 le30 - ⟨p28,c28,cs11,rfl,rfl,h63⟩ -;have H:=H.trans le30;exact yL [hO Int (vS p28 y31.Coefs c28) cs11] H ⟨_,_,_,rfl,rfl,h63⟩
         · rintro I1 hf le1 _ _ ⟨p28,c28,cs11,rfl,rfl,h63⟩;refine yV [61] rfl ?_;have H:=iS I1;refine xX 0 rfl ?_;intro I033 le31 hl011;have h64:=SL.of_frozen hl011 le31 h63;have H:=H.trans le31;refine mU (rc y31 (yI ⟨_,rfl,h64⟩) rN) ?_;intro b11 I034 le32 h66;have H:=H.trans le32;exact yL [] H ⟨_,rfl,rfl,h66⟩
         rintro I1 hf le1 _ _ ⟨rfl,rfl⟩ _ _ ⟨b11,rfl,rfl,h66⟩ _ _ rfl;refine yV [57,62] rfl ?_;have h38:=iM le1 h38;obtain ⟨ccs1,k02,k03⟩:=h66;have h66:SL I1 (vS (some ⟨b11,0,none⟩) ([y31]:List zA) 1) ([y31]:List zA):=⟨_,k02,k03⟩;exact qD 69 2 0 rfl rfl rfl h38 (.inl k02) k03 hy17 fun p29 c29 cs12 h67=>vH (hs':=(hO zA (vS p29 l1 c29) cs12::hB b7 [vS (some ⟨b5,0,none⟩) ([x1]:List zA) 1,vS (some ⟨b6,0,none⟩) ([x2]:List zA) 1]::hO zA (vS (some ⟨b6,0,none⟩) ([x2]:List zA) 1) (cAff x2 p8 c8)::hB b zTwo::hf)) rfl<|yL [hO zA (vS p29 l1 c29) cs12] iR ⟨_,_,_,rfl,rfl,h67⟩
       rintro I035 le33 _ _ ⟨p27,c27,rfl,rfl,h62⟩ _ _ ⟨p29,c29,cs12,rfl,rfl,h67⟩;refine yV [4,8,63] rfl ?_;have H:=H.trans le33;exact yE 9 [] [64] rfl<|yZ 2 [vS p29 l1 c29,vS (some ⟨b6,0,none⟩) ([x2]:List zA) 1] rfl<|zX rfl<|wG (zW [1,2,3,0,4] rfl (by decide))<|yW<|zU ⟨_,_,_,_,_,_,_,(zC N).symm,H,h67,h62,rfl,rfl⟩
     intro hc4 N;exact zS<|yW<|zU ⟨_,_,_,_,_,_,_,(zC N).symm,H,h38,h42,rfl,rfl⟩
   rintro I029 hs2 m2 ⟨Lo1,x7,p25,c25,cs10,p26,c26,heq3,le34,h56,h57,rfl,rfl⟩;subst o04;have ⟨h39,H⟩:=m2 le34 h39 H;exact yW<|zU ⟨_,_,_,_,_,_,_,_,_,_,_,(zC hMc4).symm,H,h56,h39,h57,rfl,rfl⟩
 rintro I022 hs2 m2 ⟨Lo,Hi,x6,p19,c19,cs6,p20,c20,cs7,p21,c21,heq4,le35,h43,h44,h45,rfl,rfl⟩;subst o03;refine zO<|yX<|tZ 1 [1] [(65,vA [vS p19 Lo c19,vS p20 Hi c20])]<|yZ 4 [vS p19 Lo c19,vS p20 Hi c20] rfl<|zX rfl<|xI<|xE 3 rfl ?_;intro I036 le36 hl013;have h68:=SL.of_frozen hl013 le36 h43;have ⟨h45,h44⟩:=m2 le36 h45 h44;refine xE 2 rfl ?_;intro I037 le37 hl014;have h69:=SL.of_frozen hl014 le37 h44;have ⟨h45,h68⟩:=m2 le37 h45 h68;obtain rfl:=zC hMc3;exact xC ⟨_,_,(.cell 2 rfl rfl (by kernel_rfl) ResV.nil),(zW [0] rfl (by decide)),⟨_,_,rfl,rfl,⟨_,rfl,(uP ⟨_,_,rfl,h68,h69⟩)⟩,(yY ⟨_,rfl,h45⟩)⟩⟩
def zGK (b0:Nat) (r:(List zE)×zP):KT:=fun kk I' hs' v=>
  ∃ v0 k0,hs'=[.blk b0 ⟨k0⟩]/\v=tupV [v0]/\SL I' v0 r.1/\Rp.rep I' k0 r.2
def mK (out:List zE) (i:Int) (x:zP):Option ((List zE×zP)):=do
 if (decide (i>0)) then
  let (y4,y5)<-zAC x (out.length:Int)
  let out2<-app 48 out ([y4]:List zE)
  mK out2 (W (i - 1)) y5
 else
  pure (out,x)
 partial_fixpoint
theorem zF3 :∀ (out:List zE) (i:Int) (x:zP) (o:(List zE×zP)),mK out i x=some o->∀ {B}{I0 I:Imm}{Q}  {r01:Nat}{p2 c2 cs p3 c3},I0.le I->(RL I cs out)->(S4 I p3 x.b c3)->NG Q->NO Q->(∀ (I':Imm) (out1:List zE) (x1:zP) (p4:Option Addr) (c4:Nat) (cs1:List Value) (p5:Option Addr) (c5:Nat),o=(out1,x1)->I0.le I'->(RL I' cs1 out1)->(S4 I' p5 x1.b c5)->T 21 B Q (.exit 0) I' [hB r01 (cRd x1 p5 c5),hO zE (vS p4 out1 c4) cs1] [(3,vS p4 out1 c4)])->J Tryz.prog 21 B (nav (bodyOf Tryz.f182) [1,1,0,1,0]) Q I [hB r01 (cRd x p3 c3),hO zE (vS p2 out c2) cs] [(0,vP r01 0),(3,vS p2 out c2),(4,vI i)]:=by
 refine mK.partial_correctness  _ fun self ih out i x o N B I0 I Q r01 p2 c2 cs p3 c3 H h7 h8 hg ho hx=>yU hg ho<|yD<|yH [10] rfl<|zK<|yG N ?_ ?_
 · intro hc N;refine zS<|zZ<|yF<|zM<|yE 4 [] [13,14,16] rfl ?_;obtain ⟨⟨y4,y5⟩,hy1,N⟩:=zB N;refine rS (zHb x (out.length:Int) _ hy1 h8) rfl ?_;rintro I02 hs2 v2 k2 le2 - ⟨v02,kk1,rfl,rfl,⟨cs2,rfl,h11⟩,h12⟩ -;have ⟨h7,H⟩:=m2 le2 h7 H;obtain ⟨p6,c6,p7,c7,rfl,h13,h14⟩:=wZ h11;obtain ⟨p8,c8,rfl,h15⟩:=yA h12;refine tK (cLoop y4 p6 c6 p7 c7) zE ?_;intro b2 hb2;have h16:RL I02 (cLoop y4 p6 c6 p7 c7) ([y4]:List zE):=⟨(cLoop y4 p6 c6 p7 c7),_,rfl,rfl,(uP ⟨_,_,rfl,h13,h14⟩),rfl⟩;obtain ⟨out2,hy2,N⟩:=zB N;exact qD 130 2 2 rfl rfl rfl h7 (.inr ⟨0,rfl⟩) h16 hy2 fun p9 c9 cs3 h17=>sW (zY [1,2] (hs':=[hB r01 (cRd y5 p8 c8),hO zE (vS p9 out2 c9) cs3]))<|yM [] [3] rfl<|zO<|zK<|zM<|yM [] [4] rfl<|yT<|nT<|ih out2 (W (i - 1)) y5 _ N H h17 h15 hg ho hx
 intro hc N;exact wW<|yW<|hx _ _ _ _ _ _ _ _ (zC N).symm H h7 h8
def zAD (r0:zP):Option ((List zE)×zP):=do
 let (y1,y2)<-xG r0 ([2,1,2,3]:List Int)
 let (out1,x1)<-mK ([]:List zE) y1 y2
 pure (out1,x1)
theorem zHc:∀ r0 r,zAD r0=some r->∀ {I:Imm}{r01:Nat}{p c},(S4 I p r0.b c)->RT 182 [vP r01 0] I [hB r01 (cRd r0 p c)] (zGK r01 r):=by
 intro r0 r N I r01 p c h;unfold zAD at N;refine yJ Tryz.func182 fun B=>vM []<|yX<|tK [] zE ?_;intro b hb;have h1:RL I [] ([]:List zE):=rfl;refine yM [] [3] rfl<|zZ<|yC<|yE 1 [] [6] rfl<|mU (rI [2,1,2,3]) ?_;intro b1 I0 le h3;have ⟨h1,h⟩:=m2 le h1 h;refine sW (zY [1,0] (hs':=[hB r01 (cRd r0 p c),hO zE (vS (some ⟨b,0,none⟩) ([]:List zE) 0) []])) ?_;obtain ⟨⟨y1,y2⟩,hy,N⟩:=zB N;refine rS (xR r0 ([2,1,2,3]:List Int) _ hy h h3) rfl ?_;rintro I01 hs2 v2 k2 le1 - ⟨v0,kk,rfl,rfl,rfl,h5⟩ -;have h1:=iM le1 h1;obtain ⟨p1,c1,rfl,h6⟩:=yA h5;refine yM [] [4] rfl<|wK<|pM [(0,vP r01 0),(3,vS (some ⟨b,0,none⟩) ([]:List zE) 0),(4,vI y1)] ?_;obtain ⟨o0,ho0,hMl⟩:=zB N;refine zF3 ([]:List zE) y1 y2 o0 ho0 iR h1 h6 (fun _ _ _ h=>h) (fun _ _ h=>h) ?_;intro I03 out1 x1 p4 c4 cs1 p5 c5 heq le3 h9 h10;subst o0;refine zR<|uN [2] rfl<|xI<|xE 1 rfl ?_;intro I04 le4 hl01;have h18:=SL.of_frozen hl01 le4 h9;have h10:=h10.mono le4;obtain rfl:=zC hMl;exact xC ⟨_,_,(.tmp rfl ResV.nil),(zW [0] rfl (by decide)),⟨_,_,rfl,rfl,h18,(yY ⟨_,rfl,h10⟩)⟩⟩
def zGL (b0:Nat) (r:zG×zP):KT:=fun kk I' hs' v=>
  ∃ v0 k0,hs'=[.blk b0 ⟨k0⟩]/\v=tupV [v0]/\(∃ cs,v0=.agg ⟨cs⟩/\Rp.rep I' cs r.1)/\Rp.rep I' k0 r.2
def mL (depth:Int) (n0:Int) (i:Int) (Subs:List zA) (x:zP):Option ((List zA×zP)):=do
 if (decide (i<n0)) then
  let (y4,y5)<-xG x ([0,1,0,2]:List Int)
  let y6<-uC y4
  let (t32,x2)<-(do
    if (decide (depth>0)) then
     let (y8,y9)<-xF y5 5
     pure ((decide (y8>0)),y9)
    else
     pure (false,y5)
      : Option (Bool×zP))
  let (x3,x4)<-(do
    if t32 then
     let (y11,y12)<-xF x2 depth
     let y13<-kW y11
     let (y15,y16)<-xG y12 ([1,1,1,2,(-1)]:List Int)
     let (y18,y19)<-xG y16 ([0,1,0,0,2]:List Int)
     let y20<-uC y18
     let y21<-jD y13 y15 y20 1
     pure (y21,y19)
    else
     pure ((zA.mk y6.Coefs y6.Const),x2)
      : Option (zA×zP))
  let l<-app 32 Subs ([x3]:List zA)
  mL depth n0 (W (i+1)) l x4
 else
  pure (Subs,x)
 partial_fixpoint
theorem zF4 (depth:Int) (n0:Int):∀ (i:Int) (Subs:List zA) (x:zP) (o:(List zA×zP)),mL depth n0 i Subs x=some o->∀ {B}{I0 I:Imm}{Q}{y1:Str}{r01:Nat}{b:Nat}{b2:Nat}{p2 c2 cs p3 c3},I0.le I->(RL I cs Subs)->(S4 I p3 x.b c3)->NG Q->NO Q->(∀ (I':Imm) (Subs1:List zA) (x1:zP) (p4:Option Addr) (c4:Nat) (cs1:List Value) (p5:Option Addr) (c5:Nat),o=(Subs1,x1)->I0.le I'->(RL I' cs1 Subs1)->(S4 I' p5 x1.b c5)->T 53 B Q (.exit 0) I' [hO zA (vS p4 Subs1 c4) cs1,hB b2 [vT y1.l,vS p4 Subs1 c4],hB r01 (cRd x1 p5 c5),hB b [vT ([]),z0]] [(4,vP b 0),(5,vP b2 0)])->J Tryz.prog 53 B (nav (bodyOf Tryz.f119) [1,1,1,1,0,1,0]) Q I [hO zA (vS p2 Subs c2) cs,hB b2 [vT y1.l,vS p2 Subs c2],hB r01 (cRd x p3 c3),hB b [vT ([]),z0]] [(0,vP r01 0),(1,vI depth),(4,vP b 0),(5,vP b2 0),(6,vI n0),(7,vI i)]:=by
 refine mL.partial_correctness depth n0 _ fun self ih i Subs x o N B I0 I Q y1 r01 b b2 p2 c2 cs p3 c3 H h7 h8 hg ho hx=>yU hg ho<|yD<|yH [19] rfl<|zK<|yG N ?_ ?_
 · intro hc1 N;refine zS<|zZ<|yF<|yC<|yE 1 [] [22] rfl<|mU (rI [0,1,0,2]) ?_;intro b3 I03 le3 h12;have ⟨h7,h8,H⟩:=m3 le3 h7 h8 H;refine sW (zY [2,0,1,3] (hs':=[hB r01 (cRd x p3 c3),hO zA (vS p2 Subs c2) cs,hB b2 [vT y1.l,vS p2 Subs c2],hB b [vT ([]),z0]])) ?_;obtain ⟨⟨y4,y5⟩,hy1,N⟩:=zB N;refine rS (xR x ([0,1,0,2]:List Int) _ hy1 h8 h12) rfl ?_;rintro I04 hs2 v2 k2 le4 - ⟨v02,kk1,rfl,rfl,rfl,h14⟩ -;have ⟨h7,H⟩:=m2 le4 h7 H;obtain ⟨p6,c6,rfl,h15⟩:=yA h14;obtain ⟨y6,hy2,N⟩:=zB N;refine xH (tX y4 _ hy2 ) ?_;rintro I05 hs2 v2 k2 le5 - ⟨p7,c7,cs2,rfl,rfl,h16⟩ -;have ⟨h15,h7,H⟩:=m3 le5 h15 h7 H;refine xU [z0,vI 0] ?_;intro b4 hb4;refine yZ 0 (cAff y6 p7 c7) rfl<|zX rfl<|zZ<|yD ?_;obtain ⟨o01,ho01,hMc1⟩:=zB N;refine nN (fun I' hs' m'=>∃ (t32:Bool) (x2:zP) (p8:Option Addr) (c8:Nat),o01=(t32,x2)/\I05.le I'/\(S4 I' p8 x2.b c8)/\hs'=[hB b4 (cAff y6 p7 c7),hO Int (vS p7 y6.Coefs c7) cs2,hB r01 (cRd x2 p8 c8),hO zA (vS p2 Subs c2) cs,hB b2 [vT y1.l,vS p2 Subs c2],hB b [vT ([]),z0]]/\m'=[(0,vP r01 0),(1,vI depth),(4,vP b 0),(5,vP b2 0),(6,vI n0),(7,vI i),(8,vP b4 0),(32,.bool t32)]) ?_ ?_
   · have H:=iS I05;refine zM<|yE 3 [] [28] rfl<|wO [28] ho01 ?_ ?_
     · intro hc2 N;refine yE 4 [] [29] rfl<|sW (zY [2,0,1,3,4,5] (hs':=[hB r01 (cRd y5 p6 c6),hB b4 (cAff y6 p7 c7),hO Int (vS p7 y6.Coefs c7) cs2,hO zA (vS p2 Subs c2) cs,hB b2 [vT y1.l,vS p2 Subs c2],hB b [vT ([]),z0]])) ?_;obtain ⟨⟨y8,y9⟩,hy3,N⟩:=zB N;refine rS (wD y5 5 _ hy3 h15) rfl ?_;rintro I07 hs2 v2 k2 le6 - ⟨v04,kk2,rfl,rfl,rfl,h19⟩ -;have H:=H.trans le6;obtain ⟨p9,c9,rfl,h20⟩:=yA h19;exact yM [] [32] rfl<|wG (zW [1,2,0,3,4,5] rfl (by decide))<|yW<|zU ⟨_,_,_,_,(zC N).symm,H,h20,rfl,rfl⟩
     intro hc2 N;exact wU [] [(32,vF)]<|yW<|zU ⟨_,_,_,_,(zC N).symm,H,h15,rfl,rfl⟩
   rintro I06 hs2 m2 ⟨t32,x2,p8,c8,heq1,le7,h17,rfl,rfl⟩;subst o01;have ⟨h16,h7,H⟩:=m3 le7 h16 h7 H;refine zK<|qX 1 rfl ?_;intro I08 le8 hl02;have h21:=SL.of_frozen hl02 le8 h16;have ⟨h17,h7,H⟩:=m3 le8 h17 h7 H;obtain ⟨o02,ho02,hMc2⟩:=zB hMc1;refine nN (fun I' hs' m'=>∃ (x3:zA) (x4:zP) (p10:Option Addr) (c10:Nat) (p11:Option Addr) (c11:Nat),o02=(x3,x4)/\I08.le I'/\(S4 I' p10 x3.Coefs c10)/\(S4 I' p11 x4.b c11)/\hs'=[hB b4 (cAff x3 p10 c10),hB r01 (cRd x4 p11 c11),hO zA (vS p2 Subs c2) cs,hB b2 [vT y1.l,vS p2 Subs c2],hB b [vT ([]),z0]]/\m'=[(0,vP r01 0),(1,vI depth),(4,vP b 0),(5,vP b2 0),(6,vI n0),(7,vI i),(8,vP b4 0)]) ?_ ?_
   · have H:=iS I08;refine yG ho02 ?_ ?_
     · intro hc3 N;refine yC<|yE 2 [] [33,34] rfl<|sW (zY [1,0,2,3,4] (hs':=[hB r01 (cRd x2 p8 c8),hB b4 (cAff y6 p7 c7),hO zA (vS p2 Subs c2) cs,hB b2 [vT y1.l,vS p2 Subs c2],hB b [vT ([]),z0]])) ?_;obtain ⟨⟨y11,y12⟩,hy4,N⟩:=zB N;refine rS (wD x2 depth _ hy4 h17) rfl ?_;rintro I010 hs2 v2 k2 le9 - ⟨v06,kk3,rfl,rfl,rfl,h25⟩ -;have H:=H.trans le9;obtain ⟨p12,c12,rfl,h26⟩:=yA h25;refine yM [] [9] rfl<|zK<|zM<|yE 1 [] [36] rfl<|bE N fun y13 hy5 N=>xH (dX y11 _ hy5 ) ?_;rintro I011 hs2 v2 k2 le10 - ⟨v08,rfl,rfl,⟨cs3,rfl,h27⟩⟩ -;have ⟨h26,H⟩:=m2 le10 h26 H;obtain ⟨p13,c13,rfl,h28⟩:=yB h27;refine yE 3 [] [38] rfl<|mU (rI [1,1,1,2,(-1)]) ?_;intro b5 I012 le11 h30;have ⟨h28,h26,H⟩:=m3 le11 h28 h26 H;obtain ⟨⟨y15,y16⟩,hy6,N⟩:=zB N;refine rS (xR y12 ([1,1,1,2,(-1)]:List Int) _ hy6 h26 h30) rfl ?_;rintro I013 hs2 v2 k2 le12 - ⟨v010,kk4,rfl,rfl,rfl,h32⟩ -;have ⟨h28,H⟩:=m2 le12 h28 H;obtain ⟨p14,c14,rfl,h33⟩:=yA h32;refine yE 6 [] [41] rfl<|mU (rI [0,1,0,0,2]) ?_;intro b6 I014 le13 h35;have ⟨h28,h33,H⟩:=m3 le13 h28 h33 H;obtain ⟨⟨y18,y19⟩,hy7,N⟩:=zB N;refine rS (xR y16 ([0,1,0,0,2]:List Int) _ hy7 h33 h35) rfl ?_;rintro I015 hs2 v2 k2 le14 - ⟨v012,kk5,rfl,rfl,rfl,h37⟩ -;have ⟨h28,H⟩:=m2 le14 h28 H;obtain ⟨p15,c15,rfl,h38⟩:=yA h37;obtain ⟨y20,hy8,N⟩:=zB N;refine xH (tX y18 _ hy8 ) ?_;rintro I016 hs2 v2 k2 le15 - ⟨p16,c16,cs4,rfl,rfl,h39⟩ -;have ⟨h28,h38,H⟩:=m3 le15 h28 h38 H;refine xX 0 rfl ?_;intro I017 le16 hl05;have h40:=SL.of_frozen hl05 le16 h39;have ⟨h28,h38,H⟩:=m3 le16 h28 h38 H;obtain ⟨y21,hy9,N⟩:=zB N;refine xH (zBa y13 y15 y20 1 _ hy9 h28 h40) ?_;rintro I018 hs2 v2 k2 le17 - ⟨v014,rfl,rfl,⟨cs5,rfl,h41⟩⟩ -;have ⟨h38,H⟩:=m2 le17 h38 H;obtain ⟨p17,c17,rfl,h42⟩:=yB h41;exact yZ 1 (cAff y21 p17 c17) rfl<|zX rfl<|wG (zW [1,0,2,3,4] rfl (by decide))<|yW<|zU ⟨_,_,_,_,_,_,(zC N).symm,H,h42,h38,rfl,rfl⟩
     intro hc3 N;exact zS<|yW<|zU ⟨_,_,_,_,_,_,(zC N).symm,H,h21,h17,rfl,rfl⟩
   rintro I09 hs2 m2 ⟨x3,x4,p10,c10,p11,c11,heq2,le18,h22,h23,rfl,rfl⟩;subst o02;have ⟨h7,H⟩:=m2 le18 h7 H;refine zK<|zM<|tZ 3 [3,0] [(47,vS p2 Subs c2),(48,vA (cAff x3 p10 c10))]<|tK (cAff x3 p10 c10) zA ?_;intro b7 hb7;have h43:RL I09 (cAff x3 p10 c10) ([x3]:List zA):=⟨(cAff x3 p10 c10),_,rfl,rfl,(yI ⟨_,rfl,h22⟩),rfl⟩;obtain ⟨l,hy10,N⟩:=zB hMc2;refine qD 69 2 3 rfl rfl rfl h7 (.inr ⟨0,rfl⟩) h43 hy10 ?_;intro p18 c18 cs6 h44;exact sW (zY [1,2,3,4,5] (hs':=[hB b4 (cAff x3 p10 c10),hB r01 (cRd x4 p11 c11),hO zA (vS p18 l c18) cs6,hB b2 [vT y1.l,vS p2 Subs c2],hB b [vT ([]),z0]]))<|yE 6 [] [51] rfl<|yZ 3 [vT y1.l,vS p18 l c18] rfl<|zX rfl<|zO<|zK<|zM<|yM [] [7] rfl<|yT<|pL (zW [2,3,1,4] rfl (by decide))<|nT<|ih (W (i+1)) l x4 _ N H h44 h23 hg ho hx
 intro hc1 N;exact wW<|yW<|hx _ _ _ _ _ _ _ _ (zC N).symm H h7 h8
def gR (r0:zP) (depth:Int):Option (zG×zP):=do
 let (y1,y2)<-qK r0 ([(⟨[65]⟩:Str),(⟨[66]⟩:Str),(⟨[65]⟩:Str),(⟨[67]⟩:Str)]:List Str)
 let n0<-(do
   if (y1.l==([66]:List UInt8)) then
    pure (id 2)
   else
    pure (id 1)
     : Option Int)
 let (Subs1,x1)<-mL depth n0 0 ([]:List zA) y2
 pure ((zG.mk y1 Subs1),x1)
theorem zDZ:∀ r0 depth r,gR r0 depth=some r->∀ {I:Imm}{r01:Nat}{p c},(S4 I p r0.b c)->RT 119 [vP r01 0,vI depth] I [hB r01 (cRd r0 p c)] (zGL r01 r):=by
 intro r0 depth r N I r01 p c h;unfold gR at N;refine yJ Tryz.func119 fun B=>?_;have H:=iS I;refine yC<|xU [vT ([]),z0] ?_;intro b hb;refine zX rfl<|yX<|yE 1 [] [10] rfl<|mU (rT [(⟨[65]⟩:Str),(⟨[66]⟩:Str),(⟨[65]⟩:Str),(⟨[67]⟩:Str)]) ?_;intro b1 I0 le h2;have ⟨h,H⟩:=m2 le h H;refine sW (zY [1,0] (hs':=[hB r01 (cRd r0 p c),hB b [vT ([]),z0]])) ?_;obtain ⟨⟨y1,y2⟩,hy,N⟩:=zB N;refine rS (jB r0 ([(⟨[65]⟩:Str),(⟨[66]⟩:Str),(⟨[65]⟩:Str),(⟨[67]⟩:Str)]:List Str) _ hy h h2) rfl ?_;rintro I01 hs2 v2 k2 le1 - ⟨v0,kk,rfl,rfl,rfl,h4⟩ -;have H:=H.trans le1;obtain ⟨p1,c1,rfl,h5⟩:=yA h4;refine yE 4 [] [13] rfl<|xU [vT ([]),z0] ?_;intro b2 hb2;refine yZ 0 [vT y1.l,z0] rfl<|zX rfl<|uN [6] rfl<|zZ<|yC<|yM [0] [16] rfl<|zK ?_;refine uB N [hB b2 [vT y1.l,z0],hB r01 (cRd y2 p1 c1),hB b [vT ([]),z0]] (fun n0=>[(0,vP r01 0),(1,vI depth),(4,vP b 0),(5,vP b2 0),(6,vI n0)]) (fun o0 ho0=>?_) ?_
 · have H:=iS I01;refine yG ho0 ?_ ?_
   · intro hc N;exact zM<|yM [] [6] rfl<|yW<|zU (ct N H)
   intro hc N;exact zS<|yW<|zU (ct N H)
 intro n0 I02 le2 hMc;have h5:=h5.mono le2;refine zZ<|yH [7] rfl<|wK<|pM [(0,vP r01 0),(1,vI depth),(4,vP b 0),(5,vP b2 0),(6,vI n0),(7,vI 0)]<|zAb zA fun h6=>?_;obtain ⟨o03,ho03,hMl⟩:=zB hMc;refine zF4 depth n0 0 ([]:List zA) y2 o03 ho03 iR h6 h5 (fun _ _ _ h=>h) (fun _ _ h=>h) ?_;intro I019 Subs1 x1 p4 c4 cs1 p5 c5 heq3 le19 h9 h10;subst o03;refine zR<|yX<|tZ 1 [1] [(52,vA [vT y1.l,vS p4 Subs1 c4])]<|yZ 3 [vT y1.l,vS p4 Subs1 c4] rfl<|zX rfl<|xI<|xE 0 rfl ?_;intro I020 le20 hl06;have h45:=SL.of_frozen hl06 le20 h9;have h10:=h10.mono le20;obtain rfl:=zC hMl;exact xC ⟨_,_,(.cell 2 rfl rfl (by kernel_rfl) ResV.nil),(zW [1] rfl (by decide)),⟨_,_,rfl,rfl,⟨_,rfl,(rJ ⟨_,rfl,h45⟩)⟩,(yY ⟨_,rfl,h10⟩)⟩⟩
def zGM (b0:Nat) (r:zA×zP):KT:=fun kk I' hs' v=>
  ∃ v0 k0,hs'=[.blk b0 ⟨k0⟩]/\v=tupV [v0]/\(∃ cs,v0=.agg ⟨cs⟩/\Rp.rep I' cs r.1)/\Rp.rep I' k0 r.2
def mM (depth:Int) (i:Int) (Coefs:List Int) (x:zP):Option ((List Int×zP)):=do
 if (decide (i<depth)) then
  let (y5,y6)<-xG x ([0,1,0,(-1),2,0,9]:List Int)
  let x2<-idx Coefs i
  let l<-pure (Coefs.set i.toNat y5)
  mM depth (W (i+1)) l y6
 else
  pure (Coefs,x)
 partial_fixpoint
theorem zF5 (depth:Int):∀ (i:Int) (Coefs:List Int) (x:zP) (o:(List Int×zP)),mM depth i Coefs x=some o->∀ {B}{I0 I:Imm}{Q}{y3:zA}{r01:Nat}{b:Nat}{b2:Nat}{p3 c3 cs1 p4 c4},I0.le I->(RL I cs1 Coefs)->(S4 I p4 x.b c4)->NG Q->NO Q->(∀ (I':Imm) (Coefs1:List Int) (x1:zP) (p5:Option Addr) (c5:Nat) (cs2:List Value) (p6:Option Addr) (c6:Nat),o=(Coefs1,x1)->I0.le I'->(RL I' cs2 Coefs1)->(S4 I' p6 x1.b c6)->T 24 B Q (.exit 0) I' [hB b2 [vS p5 Coefs1 c5,vI y3.Const],hO Int (vS p5 Coefs1 c5) cs2,hB r01 (cRd x1 p6 c6),hB b [z0,vI 0]] [(4,vP b 0),(5,vP b2 0)])->J Tryz.prog 24 B (nav (bodyOf Tryz.f211) [1,1,0,1,0]) Q I [hB b2 [vS p3 Coefs c3,vI y3.Const],hO Int (vS p3 Coefs c3) cs1,hB r01 (cRd x p4 c4),hB b [z0,vI 0]] [(0,vP r01 0),(1,vI depth),(4,vP b 0),(5,vP b2 0),(6,vI i)]:=by
 refine mM.partial_correctness depth _ fun self ih i Coefs x o N B I0 I Q y3 r01 b b2 p3 c3 cs1 p4 c4 H h7 h8 hg ho hx=>yU hg ho<|yD<|yH [13] rfl<|zK<|yG N ?_ ?_
 · intro hc N;refine zS<|zZ<|yF ?_;obtain ⟨⟨y5,y6⟩,hy2,N⟩:=zB N;refine wP [.p (vP b2 0) [],.p (vS p3 Coefs c3) [0],.p (vI i) [],.p (vP r01 0) [],.x (fun I' v hx=>∃ b3,v=vS (some ⟨b3,0,none⟩) ([0,1,0,(-1),2,0,9]:List Int) 7/\hx=[]/\(SL I' (vS (some ⟨b3,0,none⟩) ([0,1,0,(-1),2,0,9]:List Int) 7) ([0,1,0,(-1),2,0,9]:List Int))),.x (fun I' v hx=>∃ p7 c7,v=vI y5/\hx=[hB r01 (cRd y6 p7 c7)]/\(S4 I' p7 y6.b c7))] [[],[(0,false)],[],[],[],[(3,false),(4,false),(8,true)]] [hB b2 [vS p3 Coefs c3,vI y3.Const],hO Int (vS p3 Coefs c3) cs1,hB b [z0,vI 0]] [[hB r01 (cRd x p4 c4)]] [(1,false),(2,false),(5,true)] (zY [0,1,3,2]) ?_ ?_
   · refine Op<|Op<|Op<|Op<|Ox ?_<|Ox ?_<|On
     · intro I1 hf le1;refine dS [] ?_;have H:=iS I1;refine mU (rI [0,1,0,(-1),2,0,9]) ?_;intro b3 I03 le3 h12;have H:=H.trans le3;exact yL [] H ⟨_,rfl,rfl,h12⟩
     rintro I1 hf le1 _ _ ⟨rfl,rfl⟩ _ _ ⟨b3,rfl,rfl,h12⟩ _ _ rfl;refine yV [19,20] rfl ?_;have H:=iS I1;have h8:=h8.mono le1;refine rS (xR x ([0,1,0,(-1),2,0,9]:List Int) _ hy2 h8 h12) rfl ?_;rintro I04 hs2 v2 k2 le4 - ⟨v02,kk1,rfl,rfl,rfl,h14⟩ -;have H:=H.trans le4;obtain ⟨p7,c7,rfl,h15⟩:=yA h14;exact yL [hB r01 (cRd y6 p7 c7)] H ⟨_,_,rfl,rfl,h15⟩
   rintro I05 le5 _ _ ⟨rfl,rfl⟩ _ _ ⟨rfl,rfl⟩ _ _ ⟨p7,c7,rfl,rfl,h15⟩;refine yV [0,1,4,5,6,17,18,21] rfl ?_;have ⟨h7,H⟩:=m2 le5 h7 H;obtain ⟨x2,hy3,N⟩:=zB N;refine nU 2 rfl rfl rfl h7 hy3 ?_;intro ad ccs hat hcc hrep;obtain rfl:=hrep;obtain ⟨l,hy4,N⟩:=zB N;refine qE (c:=[vI y5]) (x':=y5) 2 0 rfl rfl rfl hat rfl rfl hcc (by kernel_rfl) (by kernel_rfl) (by kernel_rfl) h7 hy3 (by kernel_rfl) rfl ?_;rw [show Coefs.set i.toNat y5=l from zC hy4];intro cs3 h16 hl02;exact fY (m':=[(0,vP r01 0),(1,vI depth),(4,vP b 0),(5,vP b2 0),(6,vI i),(17,vS p3 Coefs c3),(18,vI i),(21,vI y5)]) ⟨rfl,rfl,rfl,rfl,rfl,rfl,rfl,rfl,trivial⟩<|zCX (hs':=[hB r01 (cRd y6 p7 c7),hB b2 [vS p3 l c3,vI y3.Const],hO Int (vS p3 l c3) cs3,hB b [z0,vI 0]]) (m':=[(0,vP r01 0),(1,vI depth),(4,vP b 0),(5,vP b2 0),(6,vI i),(17,vS p3 l c3),(18,vI i),(21,vI y5)]) (by first | rfl | simp only [vS,hl02,List.nil_append,List.cons_append,List.set_cons_zero,List.set_cons_succ,List.eraseIdx_cons_zero,List.eraseIdx_cons_succ]) (by first | rfl | simp only [vS,hl02])<|zX rfl<|zO<|zK<|zM<|yM [] [6] rfl<|yT<|pL (zW [1,2,0,3] rfl (by decide))<|nT<|ih (W (i+1)) l y6 _ N H h16 h15 hg ho hx
 intro hc N;exact wW<|yW<|hx _ _ _ _ _ _ _ _ (zC N).symm H h7 h8
def eI (r0:zP) (depth:Int):Option (zA×zP):=do
 let (y1,y2)<-xG r0 ([0,1,(-1),2,0,5,(-9),99]:List Int)
 let y3<-uC y1
 let (Coefs1,x1)<-mM depth 0 y3.Coefs y2
 pure ((zA.mk Coefs1 y3.Const),x1)
theorem zHd:∀ r0 depth r,eI r0 depth=some r->∀ {I:Imm}{r01:Nat}{p c},(S4 I p r0.b c)->RT 211 [vP r01 0,vI depth] I [hB r01 (cRd r0 p c)] (zGM r01 r):=by
 intro r0 depth r N I r01 p c h;unfold eI at N;refine yJ Tryz.func211 fun B=>yC<|xU [z0,vI 0] ?_;intro b hb;refine zX rfl<|yX<|yE 1 [] [7] rfl<|mU (rI [0,1,(-1),2,0,5,(-9),99]) ?_;intro b1 I0 le h2;have h:=h.mono le;refine sW (zY [1,0] (hs':=[hB r01 (cRd r0 p c),hB b [z0,vI 0]])) ?_;obtain ⟨⟨y1,y2⟩,hy,N⟩:=zB N;refine rS (xR r0 ([0,1,(-1),2,0,5,(-9),99]:List Int) _ hy h h2) rfl ?_;rintro I01 hs2 v2 k2 le1 - ⟨v0,kk,rfl,rfl,rfl,h4⟩ -;obtain ⟨p1,c1,rfl,h5⟩:=yA h4;obtain ⟨y3,hy1,N⟩:=zB N;refine xH (tX y1 _ hy1 ) ?_;rintro I02 hs2 v2 k2 le2 - ⟨p2,c2,cs,rfl,rfl,h6⟩ -;have h5:=h5.mono le2;refine xU [z0,vI 0] ?_;intro b2 hb2;refine yZ 0 (cAff y3 p2 c2) rfl<|zX rfl<|zZ<|yH [6] rfl<|wK<|pM [(0,vP r01 0),(1,vI depth),(4,vP b 0),(5,vP b2 0),(6,vI 0)] ?_;obtain ⟨o0,ho0,hMl⟩:=zB N;refine zF5 depth 0 y3.Coefs y2 o0 ho0 iR h6 h5 (fun _ _ _ h=>h) (fun _ _ h=>h) ?_;intro I06 Coefs1 x1 p5 c5 cs2 p6 c6 heq le6 h9 h10;subst o0;refine zR<|yX<|tZ 1 [0] [(23,vA [vS p5 Coefs1 c5,vI y3.Const])]<|yZ 3 [vS p5 Coefs1 c5,vI y3.Const] rfl<|zX rfl<|xI<|xE 1 rfl ?_;intro I07 le7 hl03;have h17:=SL.of_frozen hl03 le7 h9;have h10:=h10.mono le7;obtain rfl:=zC hMl;exact xC ⟨_,_,(.cell 2 rfl rfl (by kernel_rfl) ResV.nil),(zW [1] rfl (by decide)),⟨_,_,rfl,rfl,⟨_,rfl,(yI ⟨_,rfl,h17⟩)⟩,(yY ⟨_,rfl,h10⟩)⟩⟩
def zBb (b0:Nat) (r:zH×zP):KT:=fun kk I' hs' v=>
  ∃ v0 k0,hs'=[.blk b0 ⟨k0⟩]/\v=tupV [v0]/\(∃ cs,v0=.agg ⟨cs⟩/\Rp.rep I' cs r.1)/\Rp.rep I' k0 r.2
mutual
def oX (r0:zP) (depth:Int) (levels:Int):Option (zH×zP):=do
 let (t15,x)<-(do
   if (decide (levels<2)) then
    pure (true,r0)
   else
    let (y1,y2)<-xF r0 4
    pure ((y1==0),y2)
     : Option (Bool×zP))
 if t15 then
  let (y4,y5)<-xF x 4
  if (y4==0) then
   let (y7,y8)<-xG y5 ([1,2,0,99,3]:List Int)
   pure ((zH.mk 1 y7 (zA.mk ([]:List Int) 0) (zG.mk (⟨[]⟩:Str) ([]:List zA)) ([]:List zH)),y8)
  else
   if (y4==1) then
    let (y10,y11)<-eI y5 depth
    pure ((zH.mk 2 0 y10 (zG.mk (⟨[]⟩:Str) ([]:List zA)) ([]:List zH)),y11)
   else
    let (y13,y14)<-gR y5 depth
    pure ((zH.mk 3 0 (zA.mk ([]:List Int) 0) y13 ([]:List zH)),y14)
 else
  let (y16,y17)<-xG x ([4,6,5,4]:List Int)
  let (Kids1,x2)<-kF (same depth) (same levels) (same 0) ([]:List zH) (same y17)
  pure ((zH.mk y16 0 (zA.mk ([]:List Int) 0) (zG.mk (⟨[]⟩:Str) ([]:List zA)) Kids1),x2)
 partial_fixpoint
def kF (depth:Int) (levels:Int) (i:Int) (Kids:List zH) (x1:zP):Option ((List zH×zP)):=do
 if (decide (i<2)) then
  let (y19,y20)<-oX (same x1) (same depth) (W (levels - 1))
  let l<-app 112 Kids ([y19]:List zH)
  kF (same depth) (same levels) (W (i+1)) (same l) (same y20)
 else
  pure (Kids,x1)
 partial_fixpoint
end
theorem zGN:(∀ (r0:zP) (depth:Int) (levels:Int) r,oX r0 depth levels=some r->∀ {I:Imm}{r01:Nat}{p c},(S4 I p r0.b c)->RT 199 [vP r01 0,vI depth,vI levels] I [hB r01 (cRd r0 p c)] (zBb r01 r))/\(∀ (depth:Int) (levels:Int) (i:Int) (Kids:List zH) (x1:zP) o,kF depth levels i Kids x1=some o->∀ {B}{I0 I:Imm}{Q}{y16:Int}{r01:Nat}{b:Nat}{b3:Nat}{p10 c10 cs2 p11 c11},I0.le I->(RL I cs2 Kids)->(S4 I p11 x1.b c11)->NG Q->NO Q->(∀ (I':Imm) (Kids1:List zH) (x2:zP) (p12:Option Addr) (c12:Nat) (cs3:List Value) (p13:Option Addr) (c13:Nat),o=(Kids1,x2)->I0.le I'->(RL I' cs3 Kids1)->(S4 I' p13 x2.b c13)->T 53 B Q (.exit 1) I' [hO zH (vS p12 Kids1 c12) cs3,hB b3 [vI y16,vI 0,z0,vI 0,vT ([]),z0,vS p12 Kids1 c12],hB r01 (cRd x2 p13 c13),hB b zExpr] [(6,vP b 0),(7,vP b3 0)])->J Tryz.prog 53 B (nav (bodyOf Tryz.f199) [1,1,1,0,1,0]) Q I [hO zH (vS p10 Kids c10) cs2,hB b3 [vI y16,vI 0,z0,vI 0,vT ([]),z0,vS p10 Kids c10],hB r01 (cRd x1 p11 c11),hB b zExpr] [(0,vP r01 0),(1,vI depth),(2,vI levels),(6,vP b 0),(7,vP b3 0),(8,vI i)]):=by
  refine oX.mutual_partial_correctness _ _ ?_ ?_
  · intro F_spec_l3Value_l1 ih_spec_l3Value_l1 r0 depth levels r N I r01 p c h;refine yJ Tryz.func199 fun B=>?_;have H:=iS I;refine yC<|xU zExpr ?_;intro b hb;refine zX rfl<|zZ<|yD ?_;obtain ⟨o0,ho0,hMc⟩:=zB N;refine nN (fun I' hs' m'=>∃ (t15:Bool) (x:zP) (p1:Option Addr) (c1:Nat),o0=(t15,x)/\I.le I'/\(S4 I' p1 x.b c1)/\hs'=[hB b zExpr,hB r01 (cRd x p1 c1)]/\m'=[(0,vP r01 0),(1,vI depth),(2,vI levels),(6,vP b 0),(15,.bool t15)]) ?_ ?_
    · have H:=iS I;refine zM<|yE 3 [] [11] rfl<|wO [11] ho0 ?_ ?_
      · intro hc N;exact wU [] [(15,vY)]<|yW<|zU ⟨_,_,_,_,(zC N).symm,H,h,rfl,rfl⟩
      intro hc N;refine yE 4 [] [12] rfl<|sW (zY [1,0] (hs':=[hB r01 (cRd r0 p c),hB b zExpr])) ?_;obtain ⟨⟨y1,y2⟩,hy,N⟩:=zB N;refine rS (wD r0 4 _ hy h) rfl ?_;rintro I01 hs2 v2 k2 le - ⟨v0,kk,rfl,rfl,rfl,h3⟩ -;have H:=H.trans le;obtain ⟨p2,c2,rfl,h4⟩:=yA h3;exact yM [] [15] rfl<|wG (zW [1,0] rfl (by decide))<|yW<|zU ⟨_,_,_,_,(zC N).symm,H,h4,rfl,rfl⟩
    rintro I0 hs2 m2 ⟨t15,x,p1,c1,heq,le1,h1,rfl,rfl⟩;subst o0;refine zK<|yG hMc ?_ ?_
    · intro hc1 N;refine yD<|yC<|yE 1 [] [16] rfl<|sW (zY [1,0] (hs':=[hB r01 (cRd x p1 c1),hB b zExpr])) ?_;obtain ⟨⟨y4,y5⟩,hy1,N⟩:=zB N;refine rS (wD x 4 _ hy1 h1) rfl ?_;rintro I02 hs2 v2 k2 le2 - ⟨v02,kk1,rfl,rfl,rfl,h6⟩ -;obtain ⟨p3,c3,rfl,h7⟩:=yA h6;refine zX rfl<|wK<|yH [18] rfl<|zK<|yG N ?_ ?_
      · intro hc2 N;refine yC<|yE 1 [] [20] rfl<|mU (rI [1,2,0,99,3]) ?_;intro b1 I03 le3 h9;have h7:=h7.mono le3;obtain ⟨⟨y7,y8⟩,hy2,N⟩:=zB N;refine rS (xR y5 ([1,2,0,99,3]:List Int) _ hy2 h7 h9) rfl ?_;rintro I04 hs2 v2 k2 le4 - ⟨v04,kk2,rfl,rfl,rfl,h11⟩ -;obtain ⟨p4,c4,rfl,h12⟩:=yA h11;refine yE 4 [] [23] rfl<|yZ 1 [vI 1,vI y7,z0,vI 0,vT ([]),z0,z0] rfl<|zX rfl<|xI<|zV<|zL<|zL ?_;obtain rfl:=zC N;exact xC ⟨_,_,(.cell 1 rfl rfl (by kernel_rfl) ResV.nil),(zW [0] rfl (by decide)),⟨_,_,rfl,rfl,⟨_,rfl,(wB ⟨_,_,_,rfl,(SL.nil _),(SL.nil _),(SL.nil _)⟩)⟩,(yY ⟨_,rfl,h12⟩)⟩⟩
      intro hc2 N;refine yH [24] rfl<|zK<|yG N ?_ ?_
      · intro hc3 N;refine yC<|yE 2 [] [26,27] rfl ?_;obtain ⟨⟨y10,y11⟩,hy3,N⟩:=zB N;refine rS (zHd y5 depth _ hy3 h7) rfl ?_;rintro I05 hs2 v2 k2 le5 - ⟨v06,kk3,rfl,rfl,⟨cs,rfl,h13⟩,h14⟩ -;obtain ⟨p5,c5,rfl,h15⟩:=yB h13;obtain ⟨p6,c6,rfl,h16⟩:=yA h14;refine yE 4 [] [29] rfl<|yZ 1 [vI 2,vI 0,vS p5 y10.Coefs c5,vI y10.Const,vT ([]),z0,z0] rfl<|zX rfl<|xI<|zV<|zL<|zL ?_;obtain rfl:=zC N;exact xC ⟨_,_,(.cell 1 rfl rfl (by kernel_rfl) ResV.nil),(zW [0] rfl (by decide)),⟨_,_,rfl,rfl,⟨_,rfl,(wB ⟨_,_,_,rfl,h15,(SL.nil _),(SL.nil _)⟩)⟩,(yY ⟨_,rfl,h16⟩)⟩⟩
      intro hc3 N;refine zS<|zO<|yX<|yE 2 [] [30,31] rfl ?_;obtain ⟨⟨y13,y14⟩,hy4,N⟩:=zB N;refine rS (zDZ y5 depth _ hy4 h7) rfl ?_;rintro I06 hs2 v2 k2 le6 - ⟨v09,kk4,rfl,rfl,⟨cs1,rfl,h17⟩,h18⟩ -;obtain ⟨p7,c7,rfl,h19⟩:=tD h17;obtain ⟨p8,c8,rfl,h20⟩:=yA h18;refine yE 4 [] [33] rfl<|yZ 1 [vI 3,vI 0,z0,vI 0,vT y13.Array.l,vS p7 y13.Subs c7,z0] rfl<|zX rfl<|xI<|zL ?_;obtain rfl:=zC N;exact xC ⟨_,_,(.cell 1 rfl rfl (by kernel_rfl) ResV.nil),(zW [0] rfl (by decide)),⟨_,_,rfl,rfl,⟨_,rfl,(wB ⟨_,_,_,rfl,(SL.nil _),h19,(SL.nil _)⟩)⟩,(yY ⟨_,rfl,h20⟩)⟩⟩
    intro hc1 N;refine zS<|yX<|yE 1 [] [34] rfl<|mU (rI [4,6,5,4]) ?_;intro b2 I07 le7 h22;have h1:=h1.mono le7;refine sW (zY [1,0] (hs':=[hB r01 (cRd x p1 c1),hB b zExpr])) ?_;obtain ⟨⟨y16,y17⟩,hy5,N⟩:=zB N;refine rS (xR x ([4,6,5,4]:List Int) _ hy5 h1 h22) rfl ?_;rintro I08 hs2 v2 k2 le8 - ⟨v012,kk5,rfl,rfl,rfl,h24⟩ -;obtain ⟨p9,c9,rfl,h25⟩:=yA h24;refine yE 4 [] [37] rfl<|xU zExpr ?_;intro b3 hb3;refine yZ 0 [vI y16,vI 0,z0,vI 0,vT ([]),z0,z0] rfl<|zX rfl<|zZ<|yH [8] rfl<|wK<|pM [(0,vP r01 0),(1,vI depth),(2,vI levels),(6,vP b 0),(7,vP b3 0),(8,vI 0)]<|zAb zH fun h26=>?_;obtain ⟨o01,ho01,hMl⟩:=zB N;refine ih_spec_l3Value_l1 depth levels 0 ([]:List zH) y17 o01 ho01 iR h26 h25 (fun _ _ _ h=>h) (fun _ _ h=>h) ?_;intro I012 Kids1 x2 p12 c12 cs3 p13 c13 heq1 le12 h29 h30;subst o01;refine zR<|yX<|tZ 1 [1] [(52,vA [vI y16,vI 0,z0,vI 0,vT ([]),z0,vS p12 Kids1 c12])]<|yZ 3 [vI y16,vI 0,z0,vI 0,vT ([]),z0,vS p12 Kids1 c12] rfl<|zX rfl<|xI<|xE 0 rfl ?_;intro I013 le13 hl03;have h40:=SL.of_frozen hl03 le13 h29;have h30:=h30.mono le13;obtain rfl:=zC hMl;exact xC ⟨_,_,(.cell 2 rfl rfl (by kernel_rfl) ResV.nil),(zW [1] rfl (by decide)),⟨_,_,rfl,rfl,⟨_,rfl,(wB ⟨_,_,_,rfl,(SL.nil _),(SL.nil _),h40⟩)⟩,(yY ⟨_,rfl,h30⟩)⟩⟩
  intro F_spec_l3Value F_spec_l3Value_l1 ih_spec_l3Value ih_spec_l3Value_l1 depth levels i Kids x1 o N B I0 I Q y16 r01 b b3 p10 c10 cs2 p11 c11 H h27 h28 hg ho hx;refine yU hg ho<|yD<|yH [39] rfl<|zK<|yG N ?_ ?_
  · intro hc4 N;refine zS<|zZ<|yF ?_;obtain ⟨⟨y19,y20⟩,hy6,N⟩:=zB N;obtain ⟨l,hy7,N⟩:=zB N;refine wP [.p (vP b3 6) [],.p (vS p10 Kids c10) [0],.p (vP r01 0) [],.p (vI depth) [],.p (vI levels) [],.p (vI (W (levels - 1))) [],.x (fun I' v hx=>∃ p14 c14 p15 c15 p16 c16 p17 c17,v=vA (cExpr y19 p14 c14 p15 c15 p16 c16)/\hx=[hB r01 (cRd y20 p17 c17)]/\(S4 I' p14 y19.Index.Coefs c14)/\(S4 I' p15 y19.Read.Subs c15)/\(S4 I' p16 y19.Kids c16)/\(S4 I' p17 y20.b c17)),.x (fun I' v hx=>∃ b4,v=vS (some ⟨b4,0,none⟩) ([y19]:List zH) 1/\hx=[]/\(SL I' (vS (some ⟨b4,0,none⟩) ([y19]:List zH) 1) ([y19]:List zH))),.x (fun I' v hx=>∃ p18 c18 cs5,v=vS p18 l c18/\hx=[hO zH (vS p18 l c18) cs5]/\(RL I' cs5 l))] [[],[(0,false)],[],[],[],[(4,false)],[(2,false),(3,false),(5,false),(11,true)],[(6,false)],[(1,false),(7,false),(12,true)]] [hB b3 [vI y16,vI 0,z0,vI 0,vT ([]),z0,vS p10 Kids c10],hB b zExpr] [[hB r01 (cRd x1 p11 c11)],[hO zH (vS p10 Kids c10) cs2]] [(6,true),(8,true)] (zY [1,3,2,0]) ?_ ?_
    · refine Op<|Op<|Op<|Op<|Op<|Op<|Ox ?_<|Ox ?_<|Ox ?_<|On
      · rintro I1 hf le1 _ _ ⟨rfl,rfl⟩ _ _ ⟨rfl,rfl⟩ _ _ ⟨rfl,rfl⟩ _ _ rfl;refine yV [44,45,47] rfl ?_;have H:=iS I1;have h28:=h28.mono le1;refine rS (ih_spec_l3Value x1 depth (W (levels - 1)) _ hy6 h28) rfl ?_;rintro I09 hs2 v2 k2 le9 - ⟨v014,kk6,rfl,rfl,⟨cs4,rfl,h31⟩,h32⟩ -;have H:=H.trans le9;obtain ⟨p14,c14,p15,c15,p16,c16,rfl,h33,h34,h35⟩:=wT h31;obtain ⟨p17,c17,rfl,h36⟩:=yA h32;exact yL [hB r01 (cRd y20 p17 c17)] H ⟨_,_,_,_,_,_,_,_,rfl,rfl,h33,h34,h35,h36⟩
      · rintro I1 hf le1 _ _ ⟨p14,c14,p15,c15,p16,c16,p17,c17,rfl,rfl,h33,h34,h35,h36⟩;refine yV [48] rfl ?_;have H:=iS I1;refine mU (rc y19 (wB ⟨_,_,_,rfl,h33,h34,h35⟩) rN) ?_;intro b4 I010 le10 h38;have H:=H.trans le10;exact yL [] H ⟨_,rfl,rfl,h38⟩
      rintro I1 hf le1 _ _ ⟨rfl,rfl⟩ _ _ ⟨b4,rfl,rfl,h38⟩ _ _ rfl;refine yV [43,49] rfl ?_;have h27:=iM le1 h27;obtain ⟨ccs,k0,k01⟩:=h38;have h38:SL I1 (vS (some ⟨b4,0,none⟩) ([y19]:List zH) 1) ([y19]:List zH):=⟨_,k0,k01⟩;exact qD 72 7 0 rfl rfl rfl h27 (.inl k0) k01 hy7 fun p18 c18 cs5 h39=>vH (hs':=(hO zH (vS p18 l c18) cs5::hB b3 [vI y16,vI 0,z0,vI 0,vT ([]),z0,vS p10 Kids c10]::hB b zExpr::hf)) rfl<|yL [hO zH (vS p18 l c18) cs5] iR ⟨_,_,_,rfl,rfl,h39⟩
    rintro I011 le11 _ _ ⟨p14,c14,p15,c15,p16,c16,p17,c17,rfl,rfl,h33,h34,h35,h36⟩ _ _ ⟨p18,c18,cs5,rfl,rfl,h39⟩;refine yV [0,1,2,6,7,8,50] rfl ?_;have H:=H.trans le11;exact yE 10 [] [51] rfl<|yZ 2 [vI y16,vI 0,z0,vI 0,vT ([]),z0,vS p18 l c18] rfl<|zX rfl<|zO<|zK<|zM<|yM [] [8] rfl<|yT<|pL (zW [0,2,1,3] rfl (by decide))<|nT<|ih_spec_l3Value_l1 depth levels (W (i+1)) l y20 _ N H h39 h36 hg ho hx
  intro hc4 N;exact wW<|yW<|hx _ _ _ _ _ _ _ _ (zC N).symm H h27 h28
theorem zGl:∀ r0 depth levels r,oX r0 depth levels=some r->∀ {I:Imm}{r01:Nat}{p c},(S4 I p r0.b c)->RT 199 [vP r01 0,vI depth,vI levels] I [hB r01 (cRd r0 p c)] (zBb r01 r):=zGN.1
def zGO (b0:Nat) (r:zJ×zP):KT:=fun kk I' hs' v=>
  ∃ v0 k0,hs'=[.blk b0 ⟨k0⟩]/\v=tupV [v0]/\(∃ cs,v0=.agg ⟨cs⟩/\Rp.rep I' cs r.1)/\Rp.rep I' k0 r.2
def zAE (r0:zP) (depth:Int):Option (zJ×zP):=do
 let (y1,y2)<-gR r0 depth
 let (y4,y5)<-xG y2 ([2,3,1,2]:List Int)
 let (y7,y8)<-oX y5 depth y4
 let y9<-qR (zJ.mk y1 y7) depth
 if y9 then
  pure ((zJ.mk y1 y7),y8)
 else
  let y10<-mV
  pure ((zJ.mk (zG.mk (⟨[65]⟩:Str) ([y10]:List zA)) (zH.mk 1 1 (zA.mk ([]:List Int) 0) (zG.mk (⟨[]⟩:Str) ([]:List zA)) ([]:List zH))),y8)
theorem zHe:∀ r0 depth r,zAE r0 depth=some r->∀ {I:Imm}{r01:Nat}{p c},(S4 I p r0.b c)->RT 183 [vP r01 0,vI depth] I [hB r01 (cRd r0 p c)] (zGO r01 r):=by
 intro r0 depth r N I r01 p c h;unfold zAE at N;refine yJ Tryz.func183 fun B=>yC<|xU [vT ([]),z0,vI 0,vI 0,z0,vI 0,vT ([]),z0,z0] ?_;intro b hb;refine zX rfl<|yX<|yE 2 [] [6,7] rfl<|sW (zY [1,0] (hs':=[hB r01 (cRd r0 p c),hB b [vT ([]),z0,vI 0,vI 0,z0,vI 0,vT ([]),z0,z0]])) ?_;obtain ⟨⟨y1,y2⟩,hy,N⟩:=zB N;refine rS (zDZ r0 depth _ hy h) rfl ?_;rintro I0 hs2 v2 k2 le - ⟨v0,kk,rfl,rfl,⟨cs,rfl,h1⟩,h2⟩ -;obtain ⟨p1,c1,rfl,h3⟩:=tD h1;obtain ⟨p2,c2,rfl,h4⟩:=yA h2;refine yE 6 [] [9,10,11] rfl<|mU (rI [2,3,1,2]) ?_;intro b1 I01 le1 h6;have ⟨h3,h4⟩:=m2 le1 h3 h4;obtain ⟨⟨y4,y5⟩,hy1,N⟩:=zB N;refine rS (xR y2 ([2,3,1,2]:List Int) _ hy1 h4 h6) rfl ?_;rintro I02 hs2 v2 k2 le2 - ⟨v03,kk1,rfl,rfl,rfl,h8⟩ -;have h3:=h3.mono le2;obtain ⟨p3,c3,rfl,h9⟩:=yA h8;obtain ⟨⟨y7,y8⟩,hy2,N⟩:=zB N;refine rS (zGl y5 depth y4 _ hy2 h9) rfl ?_;rintro I03 hs2 v2 k2 le3 - ⟨v05,kk2,rfl,rfl,⟨cs1,rfl,h10⟩,h11⟩ -;have h3:=h3.mono le3;obtain ⟨p4,c4,p5,c5,p6,c6,rfl,h12,h13,h14⟩:=wT h10;obtain ⟨p7,c7,rfl,h15⟩:=yA h11;refine yE 10 [] [15] rfl<|xU [vT ([]),z0,vI 0,vI 0,z0,vI 0,vT ([]),z0,z0] ?_;intro b2 hb2;refine yZ 0 [vT y1.Array.l,vS p1 y1.Subs c1,vI y7.Kind,vI y7.Num,vS p4 y7.Index.Coefs c4,vI y7.Index.Const,vT y7.Read.Array.l,vS p5 y7.Read.Subs c5,vS p6 y7.Kids c6] rfl<|zX rfl<|zZ<|yC<|tZ 2 [0] [(16,vA [vT y1.Array.l,vS p1 y1.Subs c1,vI y7.Kind,vI y7.Num,vS p4 y7.Index.Coefs c4,vI y7.Index.Const,vT y7.Read.Array.l,vS p5 y7.Read.Subs c5,vS p6 y7.Kids c6]),(17,vI depth)]<|bE N fun y9 hy3 N=>uZ (zAT (zJ.mk y1 y7) depth _ hy3 h3 h12 h13 h14) ?_;intro I04 le4;have ⟨h3,h12,h13,h14,h15⟩:=m5 le4 h3 h12 h13 h14 h15;refine zX rfl<|zK<|yG N ?_ ?_
 · intro hc N;refine yC<|tZ 1 [0] [(19,vA [vT y1.Array.l,vS p1 y1.Subs c1,vI y7.Kind,vI y7.Num,vS p4 y7.Index.Coefs c4,vI y7.Index.Const,vT y7.Read.Array.l,vS p5 y7.Read.Subs c5,vS p6 y7.Kids c6])]<|yZ 2 [vT y1.Array.l,vS p1 y1.Subs c1,vI y7.Kind,vI y7.Num,vS p4 y7.Index.Coefs c4,vI y7.Index.Const,vT y7.Read.Array.l,vS p5 y7.Read.Subs c5,vS p6 y7.Kids c6] rfl<|zX rfl<|xI<|zL ?_;obtain rfl:=zC N;exact xC ⟨_,_,(.cell 2 rfl rfl (by kernel_rfl) ResV.nil),(zW [1] rfl (by decide)),⟨_,_,rfl,rfl,⟨_,rfl,(wC ⟨_,_,_,_,rfl,h3,h12,h13,h14⟩)⟩,(yY ⟨_,rfl,h15⟩)⟩⟩
 intro hc N;refine zS<|yX<|bE N fun y10 hy4 N=>xH (fD  _ hy4 ) ?_;rintro I05 hs2 v2 k2 le5 - ⟨p8,c8,cs2,rfl,rfl,h17⟩ -;have h15:=h15.mono le5;refine xX 0 rfl ?_;intro I06 le6 hl01;have h18:=SL.of_frozen hl01 le6 h17;have h15:=h15.mono le6;refine tK (cAff y10 p8 c8) zA ?_;intro b3 hb3;have h19:RL I06 (cAff y10 p8 c8) ([y10]:List zA):=⟨(cAff y10 p8 c8),_,rfl,rfl,(yI ⟨_,rfl,h18⟩),rfl⟩;refine yE 5 [] [24] rfl<|yZ 3 [vT ([65]),vS (some ⟨b3,0,none⟩) ([y10]:List zA) 1,vI 1,vI 1,z0,vI 0,vT ([]),z0,z0] rfl<|zX rfl<|xI<|xE 0 rfl ?_;intro I07 le7 hl02;have h20:=SL.of_frozen hl02 le7 h19;have h15:=h15.mono le7;obtain rfl:=zC N;exact xC ⟨_,_,(.cell 2 rfl rfl (by kernel_rfl) ResV.nil),(zW [1] rfl (by decide)),⟨_,_,rfl,rfl,⟨_,rfl,(wC ⟨_,_,_,_,rfl,h20,(SL.nil _),(SL.nil _),(SL.nil _)⟩)⟩,(yY ⟨_,rfl,h15⟩)⟩⟩
def zBc (r:(List zE)×Bool):KT:=fun kk I' hs' v=>
  ∃ v0 v1,hs'=[]/\v=tupV [v0,v1]/\SL I' v0 r.1/\v1=.bool r.2
def oY (sizes:(List Int)) (out:List zE) (i:Int):Option (Out (List zE) ((List zE)×Bool)):=do
 if (decide (i<(sizes.length:Int))) then
  let t28<-(do
    let x<-idx sizes i
    if (decide (x<0)) then
     pure true
    else
     let x1<-idx sizes i
     pure (decide (x1>99))
      : Option Bool)
  if t28 then
   pure (.ret (([]:List zE),false))
  else
   let y<-mV
   let x2<-idx sizes i
   let y1<-uC x2
   let out2<-app 48 out ([(zE.mk ([y]:List zA) ([y1]:List zA))]:List zE)
   oY sizes out2 (W (i+1))
 else
  pure (.done out)
 partial_fixpoint
theorem zE9 (sizes:(List Int)):∀ (out:List zE) (i:Int) (o:Out (List zE) ((List zE)×Bool)),oY sizes out i=some o->∀ {B}{I0 I:Imm}{Q p c p1 c1 cs},I0.le I->(S4 I p sizes c)->(RL I cs out)->NG Q->NO Q->(∀ (I':Imm) (out1:List zE) (p2:Option Addr) (c2:Nat) (cs1:List Value),o=(.done out1)->I0.le I'->(RL I' cs1 out1)->T 43 B Q (.exit 0) I' [hO zE (vS p2 out1 c2) cs1] [(4,vS p2 out1 c2)])->(∀ r I' hs' m',o=(.ret r)->I0.le I'->RS Tryz.prog Tryz.f184 B (zBc  r) I' hs' m'->T 43 B Q .ret I' hs' m')->J Tryz.prog 43 B (nav (bodyOf Tryz.f184) [1,1,1,0,1,0]) Q I [hO zE (vS p1 out c1) cs] [(0,vS p sizes c),(4,vS p1 out c1),(5,vI i)]:=by
 refine oY.partial_correctness sizes _ fun self ih out i o N B I0 I Q p c p1 c1 cs H h h3 hg ho hx hr=>yU hg ho<|yD<|yH [14] rfl<|zK<|yG N ?_ ?_
 · intro hc1 N;refine zS<|zZ<|yF<|yD<|yD ?_;refine uB N [hO zE (vS p1 out c1) cs] (fun t28=>[(0,vS p sizes c),(4,vS p1 out c1),(5,vI i),(28,.bool t28)]) (fun o0 ho0=>?_) ?_
   · have H:=iS I;refine zM<|yE 2 [] [17,18] rfl ?_;obtain ⟨x,hy,N⟩:=zB ho0;refine xT rfl rfl h hy ?_;intro ad ccs hat hrep;obtain rfl:=hrep;refine xO 0 hat [vI x] (vI x) rfl<|yE 6 [] [22] rfl<|wO [22] N ?_ ?_
     · intro hc2 N;exact wU [] [(28,vY)]<|yW<|zU (ct N H)
     intro hc2 N;refine yE 8 [] [23,24] rfl<|bE N fun x1 hy1 N=>xT rfl rfl h hy1 ?_;intro ad1 ccs1 hat1 hrep1;obtain rfl:=hrep1;exact xO 0 hat1 [vI x1] (vI x1) rfl<|yM [] [28] rfl<|yW<|zU (ct N H)
   intro t28 I01 le1 hMc;have ⟨h,h3,H⟩:=m3 le1 h h3 H;refine zK<|yG hMc ?_ ?_
   · intro hc3 N;refine yC<|tK [] zE ?_;intro b1 hb1;have h5:RL I01 [] ([]:List zE):=rfl;refine yM [] [2,3] rfl<|xI<|zL<|zV<|zL<|zL<|xE 0 rfl ?_;intro I02 le2 hl01;have h6:=SL.of_frozen hl01 le2 h5;have H:=H.trans le2;exact hr _ _ _ _ (zC N).symm H ⟨_,_,(.tmp rfl (.tmp rfl ResV.nil)),zQ,⟨_,_,rfl,rfl,h6,rfl⟩⟩
   intro hc3 N;refine zS<|zK ?_;obtain ⟨y,hy2,N⟩:=zB N;obtain ⟨x2,hy3,N⟩:=zB N;obtain ⟨y1,hy4,N⟩:=zB N;obtain ⟨out2,hy5,N⟩:=zB N;refine wP [.p (vS p1 out c1) [],.x (fun I' v hx=>∃ p3 c3 cs2,v=vA (cAff y p3 c3)/\hx=[hO Int (vS p3 y.Coefs c3) cs2]/\(RL I' cs2 y.Coefs)),.x (fun I' v hx=>∃ b2,v=vS (some ⟨b2,0,none⟩) ([y]:List zA) 1/\hx=[]/\(SL I' (vS (some ⟨b2,0,none⟩) ([y]:List zA) 1) ([y]:List zA))),.p (vS p sizes c) [],.p (vI i) [],.x (fun I' v hx=>∃ ad2,v=.pointer (some ad2)/\hx=[]/\(At I' ad2 [vI x2])),.q (vI x2),.x (fun I' v hx=>∃ p4 c4 cs3,v=vA (cAff y1 p4 c4)/\hx=[hO Int (vS p4 y1.Coefs c4) cs3]/\(RL I' cs3 y1.Coefs)),.x (fun I' v hx=>∃ b3,v=vS (some ⟨b3,0,none⟩) ([y1]:List zA) 1/\hx=[]/\(SL I' (vS (some ⟨b3,0,none⟩) ([y1]:List zA) 1) ([y1]:List zA))),.x (fun I' v hx=>∃ b21 b31,v=vA [vS (some ⟨b21,0,none⟩) ([y]:List zA) 1,vS (some ⟨b31,0,none⟩) ([y1]:List zA) 1]/\hx=[]/\(SL I' (vS (some ⟨b21,0,none⟩) ([y]:List zA) 1) ([y]:List zA))/\(SL I' (vS (some ⟨b31,0,none⟩) ([y1]:List zA) 1) ([y1]:List zA))),.x (fun I' v hx=>∃ b4,v=vS (some ⟨b4,0,none⟩) ([(zE.mk ([y]:List zA) ([y1]:List zA))]:List zE) 1/\hx=[]/\(SL I' (vS (some ⟨b4,0,none⟩) ([(zE.mk ([y]:List zA) ([y1]:List zA))]:List zE) 1) ([(zE.mk ([y]:List zA) ([y1]:List zA))]:List zE))),.x (fun I' v hx=>∃ p5 c5 cs4,v=vS p5 out2 c5/\hx=[hO zE (vS p5 out2 c5) cs4]/\(RL I' cs4 out2))] [[],[],[(1,true)],[],[],[(3,false),(4,false)],[(5,false)],[(6,false)],[(7,true)],[(2,false),(8,false)],[(9,false)],[(0,false),(10,false),(13,true)]] [] [[hO zE (vS p1 out c1) cs]] [(11,true)] (zY [0]) ?_ ?_
   · refine Op<|Ox ?_<|Ox ?_<|Op<|Op<|Ox ?_<|Oq ?_<|Ox ?_<|Ox ?_<|Ox ?_<|Ox ?_<|Ox ?_<|On
     · intro I1 hf le1;refine dS [] ?_;have H:=iS I1;refine xH (fD  _ hy2 ) ?_;rintro I03 hs2 v2 k2 le3 - ⟨p3,c3,cs2,rfl,rfl,h7⟩ -;have H:=H.trans le3;exact yL [hO Int (vS p3 y.Coefs c3) cs2] H ⟨_,_,_,rfl,rfl,h7⟩
     · rintro I1 hf le1 _ _ ⟨p3,c3,cs2,rfl,rfl,h7⟩;refine yV [31] rfl ?_;have H:=iS I1;refine xX 0 rfl ?_;intro I04 le4 hl02;have h8:=SL.of_frozen hl02 le4 h7;have H:=H.trans le4;refine mU (rc y (yI ⟨_,rfl,h8⟩) rN) ?_;intro b2 I05 le5 h10;have H:=H.trans le5;exact yL [] H ⟨_,rfl,rfl,h10⟩
     · intro I1 hf le1;refine yV [33,34] rfl ?_;have h:=h.mono le1;refine xT rfl rfl h hy3 ?_;intro ad2 ccs2 hat2 hrep2;obtain rfl:=hrep2;exact yL [] iR ⟨_,rfl,rfl,hat2⟩
     · rintro I1 hf le1 _ _ ⟨ad2,rfl,rfl,hat2⟩;exact yV [35] rfl<|xO 0 hat2 [vI x2] (vI x2) rfl<|xB iR
     · intro I1 hf le1;refine yV [36] rfl ?_;have H:=iS I1;refine xH (tX x2 _ hy4 ) ?_;rintro I06 hs2 v2 k2 le6 - ⟨p4,c4,cs3,rfl,rfl,h11⟩ -;have H:=H.trans le6;exact yL [hO Int (vS p4 y1.Coefs c4) cs3] H ⟨_,_,_,rfl,rfl,h11⟩
     · rintro I1 hf le1 _ _ ⟨p4,c4,cs3,rfl,rfl,h11⟩;refine yV [37] rfl ?_;have H:=iS I1;refine xX 0 rfl ?_;intro I07 le7 hl04;have h12:=SL.of_frozen hl04 le7 h11;have H:=H.trans le7;refine mU (rc y1 (yI ⟨_,rfl,h12⟩) rN) ?_;intro b3 I08 le8 h14;have H:=H.trans le8;exact yL [] H ⟨_,rfl,rfl,h14⟩
     · rintro I1 hf le1 _ _ ⟨b2,rfl,rfl,h10⟩ _ _ ⟨b3,rfl,rfl,h14⟩;exact yV [32,38] rfl<|qA 10 [(39,vA [vS (some ⟨b2,0,none⟩) ([y]:List zA) 1,vS (some ⟨b3,0,none⟩) ([y1]:List zA) 1])]<|yL [] iR ⟨_,_,rfl,rfl,h10,h14⟩
     · rintro I1 hf le1 _ _ ⟨b21,b31,rfl,rfl,h101,h141⟩;refine yV [39] rfl ?_;have H:=iS I1;refine mU (rc (zE.mk ([y]:List zA) ([y1]:List zA)) (uP ⟨_,_,rfl,h101,h141⟩) rN) ?_;intro b4 I09 le9 h16;have H:=H.trans le9;exact yL [] H ⟨_,rfl,rfl,h16⟩
     rintro I1 hf le1 _ _ ⟨rfl,rfl⟩ _ _ ⟨b4,rfl,rfl,h16⟩ _ _ rfl;refine yV [30,40] rfl ?_;have h3:=iM le1 h3;obtain ⟨ccs3,k0,k01⟩:=h16;have h16:SL I1 (vS (some ⟨b4,0,none⟩) ([(zE.mk ([y]:List zA) ([y1]:List zA))]:List zE) 1) ([(zE.mk ([y]:List zA) ([y1]:List zA))]:List zE):=⟨_,k0,k01⟩;exact qD 130 2 0 rfl rfl rfl h3 (.inl k0) k01 hy5 fun p5 c5 cs4 h17=>vH (hs':=(hO zE (vS p5 out2 c5) cs4::hf)) rfl<|yL [hO zE (vS p5 out2 c5) cs4] iR ⟨_,_,_,rfl,rfl,h17⟩
   rintro I010 le10 _ _ ⟨p5,c5,cs4,rfl,rfl,h17⟩;refine yV [0,5,41] rfl ?_;have ⟨h,H⟩:=m2 le10 h H;exact yM [] [4] rfl<|zO<|zK<|zM<|yM [] [5] rfl<|yT<|nT<|ih out2 (W (i+1)) _ N H h h17 hg ho hx hr
 intro hc1 N;exact wW<|yW<|hx _ _ _ _ _ (zC N).symm H h3
def dC (sizes:(List Int)):Option ((List zE)×Bool):=do
 if (decide ((sizes.length:Int)>4)) then
  pure (([]:List zE),false)
 else
  match<-oY sizes ([]:List zE) 0 with
  | .ret r0=>pure r0
  | .done out1 =>
   pure (out1,true)
theorem zGm:∀ sizes r,dC sizes=some r->∀ {I:Imm}{p c},(S4 I p sizes c)->RT 184 [vS p sizes c] I [] (zBc  r):=by
 intro sizes r N I p c h;unfold dC at N;refine yJ Tryz.func184 fun B=>vM []<|yX<|tK [] zE ?_;intro b hb;have h1:RL I [] ([]:List zE):=rfl;refine yM [] [4] rfl<|zZ<|yH [9] rfl<|zK<|yG N ?_ ?_
 · intro hc N;refine yH [2,3] rfl<|xI<|zL<|xE 0 rfl ?_;intro I0 le hl0;have h2:=SL.of_frozen hl0 le h1;obtain rfl:=zC N;exact xC ⟨_,_,(.tmp rfl (.tmp rfl ResV.nil)),zQ,⟨_,_,rfl,rfl,h2,rfl⟩⟩
 intro hc N;refine zS<|zZ<|yH [5] rfl<|wK<|pM [(0,vS p sizes c),(4,vS (some ⟨b,0,none⟩) ([]:List zE) 0),(5,vI 0)] ?_;obtain ⟨o01,ho01,hMl⟩:=zB N;refine zE9 sizes ([]:List zE) 0 o01 ho01 iR h h1 (fun _ _ _ h=>h) (fun _ _ h=>h) ?_ ?_
 · intro I011 out1 p2 c2 cs1 heq1 le11 h4;subst o01;refine zR<|uN [2,3] rfl<|xI<|xE 0 rfl ?_;intro I012 le12 hl07;have h18:=SL.of_frozen hl07 le12 h4;obtain rfl:=zC hMl;exact xC ⟨_,_,(.tmp rfl (.tmp rfl ResV.nil)),zQ,⟨_,_,rfl,rfl,h18,rfl⟩⟩
 intro r0 I9 hs9 m9 heq9 le9 hrs9;subst heq9;refine zV<|zL ?_;obtain rfl:=zC hMl;exact xC hrs9
end Go.LN
