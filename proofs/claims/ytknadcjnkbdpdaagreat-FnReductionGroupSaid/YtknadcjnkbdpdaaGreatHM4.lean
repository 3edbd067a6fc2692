/- Helper of the proof (see the last text). -/
import Derived.Test.YtknadcjnkbdpdaaGreatHM3
set_option linter.unusedVariables false
set_option linter.unusedSimpArgs false
namespace Go.LN
open Go.Proofs
set_option maxRecDepth 20000
def fC (r:(List (List Int))×Bool):KT:=fun kk I' hs' v=>
  ∃ v0 v1,hs'=[]∧v=tupV [v0,v1]∧SL I' v0 r.1∧v1=.bool r.2
def rZ (nest:(List zD)):Option ((List (List Int))×Bool):=do
 let t12←(do
   let y←qU nest
   if (!y) then
    pure true
   else
    let y1←tY nest ([]:List Int) 1200
    pure (decide (y1 > 1200))
     : Option Bool)
 if t12 then
  pure (([]:List (List Int)),false)
 else
  let y2←vL ([]:List (List Int)) nest ([]:List Int)
  if (decide ((y2.length:Int) > 120)) then
   pure (([]:List (List Int)),false)
  else
   pure (y2,true)
theorem zCP:∀ nest r,rZ nest=some r→∀ {I:Imm}{p c},(S4 I p nest c)→RT 147 [vS p nest c] I [] (fC  r):=by
 intro nest r N I p c h;unfold rZ at N;refine zY (fn:=Tryz.f147) (c:=(bodyOf Tryz.f147)) Tryz.func147 rfl rfl ?_;rintro B - -;have H:=iS I;refine yF []<|yI<|yG ?_;obtain ⟨o0,ho0,hMc⟩:=zB N;refine yU (fun I' hs' m'=>∃ (t12:Bool),o0=t12∧I.le I'∧hs'=[]∧m'=[(0,vS p nest c),(12,.bool t12)]) ?_ ?_
 · have H:=iS I;refine zQ<|yD 1 [] [(5,vS p nest c)] ?_;obtain ⟨y,hy,N⟩:=zB ho0;refine vJ (zCy nest _ hy h) ?_;intro I01 le;have h:=h.mono le;have H:=H.trans le;refine yD 4 [] [(8,.bool (!y))] ?_;cases hc:(!y) with
   | true =>
    have hM0:=zP hc N
    try rw [hc]
    exact yC [] [(12,vY)]<|yT [(0,vS p nest c),(12,vY)]<|zV (ct hM0 H)
   | false =>
    have hM01:=zL hc N
    try rw [hc]
    refine yD 5 [] [(9,vS p nest c)] ?_;obtain ⟨y1,hy1,N⟩:=zB hM01;refine gB (zFE nest ([]:List Int) 1200 _ hy1 h (SL.nil _)) ?_;intro I02 le1;have H:=H.trans le1;exact yC [] [(12,.bool (decide (y1 > 1200)))]<|yT [(0,vS p nest c),(12,.bool (decide (y1 > 1200)))]<|zV (ct N H)
 rintro I0 hs2 m2 ⟨t12,heq,le2,rfl,rfl⟩;subst o0;have h:=h.mono le2;refine zM<|yL hMc ?_ ?_
 · intro hc1 N;refine yK<|xY [] (List Int) ?_;intro b hb;have h3:RL I0 [] ([]:List (List Int)):=rfl;refine yC [] [(2,vS (some ⟨b,0,none⟩) ([]:List (List Int)) 0),(3,vF)]<|xG<|zH<|xP 0 rfl ?_;intro I03 le3 hl0;have h4:=SL.of_frozen hl0 le3 h3;obtain rfl:=zC N;exact xC ⟨_,_,(.tmp rfl (.tmp rfl ResV.nil)),zR,⟨_,_,rfl,rfl,h4,rfl⟩⟩
 intro hc1 N;refine zW<|xD<|xY [] (List Int) ?_;intro b1 hb1;have h5:RL I0 [] ([]:List (List Int)):=rfl;refine yD 2 [] [(15,vS p nest c)]<|bE N fun y2 hy2 N=>tM [hO (List Int) (vS (some ⟨b1,0,none⟩) ([]:List (List Int)) 0) []] [] (zAL ([]:List (List Int)) nest ([]:List Int) _ hy2 h5 h (SL.nil _)) ?_;rintro I04 hs2 v2 k2 le4 - ⟨p1,c1,cs,rfl,rfl,h6⟩ -;refine yC [] [(4,vS p1 y2 c1)]<|yI<|yF [(19,.bool (decide ((y2.length:Int) > 120)))]<|zM<|yL N ?_ ?_
 · intro hc2 N;refine yK<|xY [] (List Int) ?_;intro b2 hb2;have h7:RL I04 [] ([]:List (List Int)):=rfl;refine yC [] [(2,vS (some ⟨b2,0,none⟩) ([]:List (List Int)) 0),(3,vF)]<|xG<|zH<|xP 0 rfl ?_;intro I05 le5 hl01;have h8:=SL.of_frozen hl01 le5 h7;obtain rfl:=zC N;exact xC ⟨_,_,(.tmp rfl (.tmp rfl ResV.nil)),zR,⟨_,_,rfl,rfl,h8,rfl⟩⟩
 intro hc2 N;refine zW<|vH [(2,vS p1 y2 c1),(3,vY)]<|xG<|xP 0 rfl ?_;intro I06 le6 hl02;have h9:=SL.of_frozen hl02 le6 h6;obtain rfl:=zC N;exact xC ⟨_,_,(.tmp rfl (.tmp rfl ResV.nil)),zR,⟨_,_,rfl,rfl,h9,rfl⟩⟩
def uL (list:(List zE)) (part:zN) (y1:(List (List Int))) (i:Int) (k0:Int):Option (Out Unit (Int×Bool)):=do
 if (decide (k0 < (y1.length:Int))) then
  let x1←idx part.Body i
  let x2←idx y1 k0
  let (y5,y6,y7)←oL list x1 x2
  let t80←(do
    if (!y7) then
     pure true
    else
     let x3←idx y1 k0
     let y8←oM x3
     pure (!y8)
      : Option Bool)
  if t80 then
   pure (.ret (0,false))
  else
   uL list part y1 i (W (k0 + 1))
 else
  pure (.done ())
 partial_fixpoint
theorem zDA (list:(List zE)) (part:zN) (y1:(List (List Int))) (i:Int):∀ (k0:Int) (o:Out Unit (Int×Bool)),uL list part y1 i k0=some o→∀ {B}{I0 I:Imm}{Q p c p1 c1 p2 c2}{b:Nat}{p3 c3},I0.le I→(S4 I p list c)→(S4 I p3 y1 c3)→(S4 I p1 part.Nest c1)→(S4 I p2 part.Body c2)→NG Q→NO Q→(∀ (I':Imm) ,o=(.done ())→I0.le I'→T 87 B Q (.exit 2) I' [hB b (cPart part p1 c1 p2 c2)] [(0,vS p list c),(3,vP b 0),(6,vS p3 y1 c3),(8,vI i)])→(∀ r I' hs' m',o=(.ret r)→I0.le I'→RS Tryz.prog Tryz.f100 B (nY  r) I' hs' m'→T 87 B Q .ret I' hs' m')→J Tryz.prog 87 B (nav (bodyOf Tryz.f100) [1,1,1,0,1,0,0,1,0,0,1,1,0]) Q I [hB b (cPart part p1 c1 p2 c2)] [(0,vS p list c),(3,vP b 0),(6,vS p3 y1 c3),(8,vI i),(9,vI k0)]:=by
 refine uL.partial_correctness list part y1 i _ fun self ih k0 o N B I0 I Q p c p1 c1 p2 c2 b p3 c3 H h h3 h1 h2 hg ho hx hr=>yZ hg ho<|yG<|yF [(53,.bool (decide (k0 < (y1.length:Int))))]<|zM<|yL N ?_ ?_
 · intro hc5 N;refine zW<|yI<|yP<|yG ?_;obtain ⟨x1,hy3,N⟩:=zB N;obtain ⟨x2,hy4,N⟩:=zB N;obtain ⟨⟨y5,y6,y7⟩,hy5,N⟩:=zB N;refine wA [.p (vS p list c) [],.p (vP b 1) [],.p (vS p2 part.Body c2) [0],.p (vI i) [],.x (fun I' v hx=>∃ ad1 p8 c8 p9 c9 p10 c10 p11 c11,v=.pointer (some ad1)∧hx=[]∧(At I' ad1 (cStmt x1 p8 c8 p9 c9 p10 c10 p11 c11))∧(S4 I' p8 x1.Write.Subs c8)∧(S4 I' p9 x1.Value.Index.Coefs c9)∧(S4 I' p10 x1.Value.Read.Subs c10)∧(S4 I' p11 x1.Value.Kids c11)),.x (fun I' v hx=>∃ p81 c81 p91 c91 p101 c101 p111 c111,v=vA (cStmt x1 p81 c81 p91 c91 p101 c101 p111 c111)∧hx=[]∧(S4 I' p81 x1.Write.Subs c81)∧(S4 I' p91 x1.Value.Index.Coefs c91)∧(S4 I' p101 x1.Value.Read.Subs c101)∧(S4 I' p111 x1.Value.Kids c111)),.p (vS p3 y1 c3) [],.p (vI k0) [],.x (fun I' v hx=>∃ ad2 p12 c12,v=.pointer (some ad2)∧hx=[]∧(At I' ad2 [vS p12 x2 c12])∧(S4 I' p12 x2 c12)),.x (fun I' v hx=>∃ p121 c121,v=vS p121 x2 c121∧hx=[]∧(S4 I' p121 x2 c121)),.x (fun I' v hx=>∃ p13 c13,v=.tuple ⟨[vS p13 y5 c13,vI y6,.bool y7]⟩∧hx=[]∧(S4 I' p13 y5 c13)),.x (fun I' v hx=>∃ p131 c131,v=.tuple ⟨[vS p131 y5 c131,vI y6,.bool y7]⟩∧hx=[]∧(S4 I' p131 y5 c131)),.x (fun I' v hx=>∃ p1311 c1311,v=vS p1311 y5 c1311∧hx=[]∧(S4 I' p1311 y5 c1311)),.q (vI y6),.q (.bool y7),.x (fun I' v hx=>∃ p13111 c13111,v=vS p13111 y5 c13111∧hx=[]∧(S4 I' p13111 y5 c13111)),.p (vI y6) []] [[],[],[(1,false)],[],[(2,false),(3,false)],[(4,false)],[],[],[(6,false),(7,false)],[(8,false)],[(0,false),(5,false),(9,false)],[(10,false)],[(11,false)],[(11,false)],[(11,false)],[(12,false)],[(13,false)]] [hB b (cPart part p1 c1 p2 c2)] [] [(14,false)] (yB [0]) ?_ ?_
   · refine Op<|Op<|Op<|Op<|Ox ?_<|Ox ?_<|Op<|Op<|Ox ?_<|Ox ?_<|Ox ?_<|Ox ?_<|Ox ?_<|Oq ?_<|Oq ?_<|Ox ?_<|Op<|On
     · intro I1 hf le1;refine yM [(59,vS p2 part.Body c2),(60,vI i)] ?_;have h2:=h2.mono le1;refine xS rfl rfl h2 hy3 ?_;intro ad1 ccs1 hat1 hrep1;obtain ⟨p8,c8,p9,c9,p10,c10,p11,c11,rfl,h10,h11,h12,h13⟩:=tQ hrep1;exact yO [] iR ⟨_,_,_,_,_,_,_,_,_,rfl,rfl,hat1,h10,h11,h12,h13⟩
     · intro I1 hf le1;refine zF ?_;rintro _ _ ⟨ad1,p8,c8,p9,c9,p10,c10,p11,c11,rfl,rfl,hat1,h10,h11,h12,h13⟩;exact yM [(61,.pointer (some ad1))]<|xM 0 hat1 (cStmt x1 p8 c8 p9 c9 p10 c10 p11 c11) (vA (cStmt x1 p8 c8 p9 c9 p10 c10 p11 c11)) rfl<|yO [] iR ⟨_,_,_,_,_,_,_,_,rfl,rfl,h10,h11,h12,h13⟩
     · intro I1 hf le1;refine yM [(63,vS p3 y1 c3),(64,vI k0)] ?_;have h3:=h3.mono le1;refine xS rfl rfl h3 hy4 ?_;intro ad2 ccs2 hat2 hrep2;obtain ⟨v011,rfl,h14⟩:=hrep2;obtain ⟨p12,c12,rfl⟩:=h14.form;exact yO [] iR ⟨_,_,_,rfl,rfl,hat2,h14⟩
     · intro I1 hf le1;refine zF ?_;rintro _ _ ⟨ad2,p12,c12,rfl,rfl,hat2,h14⟩;exact yM [(65,.pointer (some ad2))]<|xM 0 hat2 [vS p12 x2 c12] (vS p12 x2 c12) rfl<|yO [] iR ⟨_,_,rfl,rfl,h14⟩
     · intro I1 hf le1;refine zF ?_;rintro _ _ ⟨rfl,rfl⟩;refine zF ?_;rintro _ _ ⟨p81,c81,p91,c91,p101,c101,p111,c111,rfl,rfl,h101,h111,h121,h131⟩;refine zF ?_;rintro _ _ ⟨p121,c121,rfl,rfl,h141⟩;refine yM [(57,vS p list c),(62,vA (cStmt x1 p81 c81 p91 c91 p101 c101 p111 c111)),(66,vS p121 x2 c121)] ?_;have H:=iS I1;have h:=h.mono le1;refine xT (zET list x1 x2 _ hy5 h h101 h111 h121 h131 h141) ?_;rintro I04 hs2 v2 k2 le4 - ⟨v012,v013,v014,rfl,rfl,h15,rfl,rfl⟩ -;have H:=H.trans le4;obtain ⟨p13,c13,rfl⟩:=h15.form;exact yO [] H ⟨_,_,rfl,rfl,h15⟩
     · intro I1 hf le1;refine zF ?_;rintro _ _ ⟨p13,c13,rfl,rfl,h15⟩;exact yM [(67,.tuple ⟨[vS p13 y5 c13,vI y6,.bool y7]⟩)]<|uS 12 [(56,.tuple ⟨[vS p13 y5 c13,vI y6,.bool y7]⟩)]<|yO [] iR ⟨_,_,rfl,rfl,h15⟩
     · intro I1 hf le1;refine zF ?_;rintro _ _ ⟨p131,c131,rfl,rfl,h151⟩;exact yM [(56,.tuple ⟨[vS p131 y5 c131,vI y6,.bool y7]⟩)]<|uS 13 [(68,vS p131 y5 c131)]<|yO [] iR ⟨_,_,rfl,rfl,h151⟩
     · intro I1 hf le1;refine zF ?_;rintro _ _ ⟨p131,c131,rfl,rfl,h151⟩;exact yM [(56,.tuple ⟨[vS p131 y5 c131,vI y6,.bool y7]⟩)]<|uS 14 [(69,vI y6)]<|yS iR
     · intro I1 hf le1;refine zF ?_;rintro _ _ ⟨p131,c131,rfl,rfl,h151⟩;exact yM [(56,.tuple ⟨[vS p131 y5 c131,vI y6,.bool y7]⟩)]<|uS 15 [(70,.bool y7)]<|yS iR
     intro I1 hf le1;refine zF ?_;rintro _ _ ⟨p1311,c1311,rfl,rfl,h1511⟩;exact yM [(68,vS p1311 y5 c1311)]<|uS 16 [(10,vS p1311 y5 c1311)]<|yO [] iR ⟨_,_,rfl,rfl,h1511⟩
   intro I05 le5;refine yM [(0,vS p list c),(3,vP b 0),(6,vS p3 y1 c3),(8,vI i),(9,vI k0),(70,.bool y7)] ?_;have h:=h.mono le5;have h3:=h3.mono le5;have h1:=h1.mono le5;have h2:=h2.mono le5;have H:=H.trans le5;refine yC [] [(12,.bool y7)]<|zM<|yG ?_;obtain ⟨o01,ho01,hMc1⟩:=zB N;refine yU (fun I' hs' m'=>∃ (t80:Bool),o01=t80∧I05.le I'∧hs'=[hB b (cPart part p1 c1 p2 c2)]∧m'=[(0,vS p list c),(3,vP b 0),(6,vS p3 y1 c3),(8,vI i),(9,vI k0),(80,.bool t80)]) ?_ ?_
   · have H:=iS I05;refine zQ<|yD 3 [] [(73,.bool (!y7))] ?_;cases hc6:(!y7) with
     | true =>
      have hM04:=zP hc6 ho01
      try rw [hc6]
      exact yC [] [(80,vY)]<|yT [(0,vS p list c),(3,vP b 0),(6,vS p3 y1 c3),(8,vI i),(9,vI k0),(80,vY)]<|zV (ct hM04 H)
     | false =>
      have hM05:=zL hc6 ho01
      try rw [hc6]
      refine yD 5 [] [(74,vS p3 y1 c3),(75,vI k0)] ?_;obtain ⟨x3,hy6,N⟩:=zB hM05;refine xS rfl rfl h3 hy6 ?_;intro ad3 ccs3 hat3 hrep3;obtain ⟨v015,rfl,h18⟩:=hrep3;obtain ⟨p14,c14,rfl⟩:=h18.form;refine xM 0 hat3 [vS p14 x3 c14] (vS p14 x3 c14) rfl<|bE N fun y8 hy7 N=>vJ (zEU x3 _ hy7 h18) ?_;intro I07 le6;have H:=H.trans le6;exact yC [] [(80,.bool (!y8))]<|yT [(0,vS p list c),(3,vP b 0),(6,vS p3 y1 c3),(8,vI i),(9,vI k0),(80,.bool (!y8))]<|zV (ct N H)
   rintro I06 hs2 m2 ⟨t80,heq1,le7,rfl,rfl⟩;subst o01;have h:=h.mono le7;have h3:=h3.mono le7;have h1:=h1.mono le7;have h2:=h2.mono le7;have H:=H.trans le7;refine zM<|yL hMc1 ?_ ?_
   · intro hc7 N;exact yF [(4,vI 0),(5,vF)]<|xG<|zZ<|zH<|zH<|hr _ _ _ _ (zC N).symm H ⟨_,_,(.tmp rfl (.tmp rfl ResV.nil)),zR,⟨_,_,rfl,rfl,rfl,rfl⟩⟩
   intro hc7 N;exact zW<|zT<|zM<|zQ<|yC [] [(9,vI (W (k0 + 1)))]<|yY<|vE [(0,vS p list c),(3,vP b 0),(6,vS p3 y1 c3),(8,vI i),(9,vI (W (k0 + 1)))]<|ih (W (k0 + 1)) _ N H h h3 h1 h2 hg ho hx hr
 intro hc5 N;exact vW<|yT [(0,vS p list c),(3,vP b 0),(6,vS p3 y1 c3),(8,vI i)]<|hx _  (zC N).symm H
def uM (list:(List zE)) (part:zN) (y1:(List (List Int))) (i:Int):Option (Out Unit (Int×Bool)):=do
 if (decide (i < (part.Body.length:Int))) then
  let x←idx part.Body i
  let y3←sD x (part.Nest.length:Int)
  if (!y3) then
   pure (.ret (0,false))
  else
   match←uL list part y1 i 0 with
   | .ret r0=>pure (.ret r0)
   | .done _ =>
    uM list part y1 (W (i + 1))
 else
  pure (.done ())
 partial_fixpoint
theorem zDB (list:(List zE)) (part:zN) (y1:(List (List Int))):∀ (i:Int) (o:Out Unit (Int×Bool)),uM list part y1 i=some o→∀ {B}{I0 I:Imm}{Q p c p1 c1 p2 c2}{b:Nat}{p3 c3},I0.le I→(S4 I p list c)→(S4 I p3 y1 c3)→(S4 I p1 part.Nest c1)→(S4 I p2 part.Body c2)→NG Q→NO Q→(∀ (I':Imm) ,o=(.done ())→I0.le I'→T 87 B Q (.exit 0) I' [hB b (cPart part p1 c1 p2 c2)] [(3,vP b 0),(6,vS p3 y1 c3)])→(∀ r I' hs' m',o=(.ret r)→I0.le I'→RS Tryz.prog Tryz.f100 B (nY  r) I' hs' m'→T 87 B Q .ret I' hs' m')→J Tryz.prog 87 B (nav (bodyOf Tryz.f100) [1,1,1,0,1,0]) Q I [hB b (cPart part p1 c1 p2 c2)] [(0,vS p list c),(3,vP b 0),(6,vS p3 y1 c3),(8,vI i)]:=by
 refine uM.partial_correctness list part y1 _ fun self ih i o N B I0 I Q p c p1 c1 p2 c2 b p3 c3 H h h3 h1 h2 hg ho hx hr=>yZ hg ho<|yG<|yK<|yC [0] [(37,.bool (decide (i < (part.Body.length:Int))))]<|zM<|yL N ?_ ?_
 · intro hc3 N;refine zW<|yI<|yP<|yG<|yG ?_;obtain ⟨x,hy1,N⟩:=zB N;obtain ⟨y3,hy2,N⟩:=zB N;refine wA [.p (vP b 1) [],.p (vS p2 part.Body c2) [0],.p (vI i) [],.x (fun I' v hx=>∃ ad p4 c4 p5 c5 p6 c6 p7 c7,v=.pointer (some ad)∧hx=[]∧(At I' ad (cStmt x p4 c4 p5 c5 p6 c6 p7 c7))∧(S4 I' p4 x.Write.Subs c4)∧(S4 I' p5 x.Value.Index.Coefs c5)∧(S4 I' p6 x.Value.Read.Subs c6)∧(S4 I' p7 x.Value.Kids c7)),.x (fun I' v hx=>∃ p41 c41 p51 c51 p61 c61 p71 c71,v=vA (cStmt x p41 c41 p51 c51 p61 c61 p71 c71)∧hx=[]∧(S4 I' p41 x.Write.Subs c41)∧(S4 I' p51 x.Value.Index.Coefs c51)∧(S4 I' p61 x.Value.Read.Subs c61)∧(S4 I' p71 x.Value.Kids c71)),.p (vP b 0) [],.p (vS p1 part.Nest c1) [0],.p (vI (part.Nest.length:Int)) [],.q (.bool y3),.p (.bool (!y3)) []] [[],[(0,false)],[],[(1,false),(2,false)],[(3,false)],[],[(5,false)],[(6,false)],[(4,false),(7,false)],[(8,false)]] [hB b (cPart part p1 c1 p2 c2)] [] [(9,false)] (yB [0]) ?_ ?_
   · refine Op<|Op<|Op<|Ox ?_<|Ox ?_<|Op<|Op<|Op<|Oq ?_<|Op<|On
     · intro I1 hf le1;refine yM [(41,vS p2 part.Body c2),(42,vI i)] ?_;have h2:=h2.mono le1;refine xS rfl rfl h2 hy1 ?_;intro ad ccs hat hrep;obtain ⟨p4,c4,p5,c5,p6,c6,p7,c7,rfl,h5,h6,h7,h8⟩:=tQ hrep;exact yO [] iR ⟨_,_,_,_,_,_,_,_,_,rfl,rfl,hat,h5,h6,h7,h8⟩
     · intro I1 hf le1;refine zF ?_;rintro _ _ ⟨ad,p4,c4,p5,c5,p6,c6,p7,c7,rfl,rfl,hat,h5,h6,h7,h8⟩;exact yM [(43,.pointer (some ad))]<|xM 0 hat (cStmt x p4 c4 p5 c5 p6 c6 p7 c7) (vA (cStmt x p4 c4 p5 c5 p6 c6 p7 c7)) rfl<|yO [] iR ⟨_,_,_,_,_,_,_,_,rfl,rfl,h5,h6,h7,h8⟩
     intro I1 hf le1;refine zF ?_;rintro _ _ ⟨p41,c41,p51,c51,p61,c61,p71,c71,rfl,rfl,h51,h61,h71,h81⟩;refine yM [(44,vA (cStmt x p41 c41 p51 c51 p61 c61 p71 c71)),(47,vI (part.Nest.length:Int))] ?_;have H:=iS I1;refine vJ (gF x (part.Nest.length:Int) _ hy2 h51 h61 h71 h81) ?_;intro I02 le2;have H:=H.trans le2;exact yS H
   intro I03 le3;refine yM [(0,vS p list c),(3,vP b 0),(6,vS p3 y1 c3),(8,vI i),(49,.bool (!y3))] ?_;have h:=h.mono le3;have h3:=h3.mono le3;have h1:=h1.mono le3;have h2:=h2.mono le3;have H:=H.trans le3;refine yH rfl<|zM<|yL N ?_ ?_
   · intro hc4 N;exact yF [(4,vI 0),(5,vF)]<|xG<|zH<|zZ<|zH<|zH<|hr _ _ _ _ (zC N).symm H ⟨_,_,(.tmp rfl (.tmp rfl ResV.nil)),zR,⟨_,_,rfl,rfl,rfl,rfl⟩⟩
   intro hc4 N;refine zW<|vH [(9,vI 0)]<|wO<|vE [(0,vS p list c),(3,vP b 0),(6,vS p3 y1 c3),(8,vI i),(9,vI 0)] ?_;obtain ⟨o02,ho02,hMl⟩:=zB N;refine zDA list part y1 i 0 o02 ho02 iR h h3 h1 h2 (fun _ _ _ h=>hg _ _ _ h) (fun _ _ h=>ho _ _ h) ?_ ?_
   · intro I08  heq2 le8;subst o02;have h:=h.mono le8;have h3:=h3.mono le8;have h1:=h1.mono le8;have h2:=h2.mono le8;have H:=H.trans le8;exact zX<|zT<|zM<|zQ<|yC [] [(8,vI (W (i + 1)))]<|yY<|vE [(0,vS p list c),(3,vP b 0),(6,vS p3 y1 c3),(8,vI (W (i + 1)))]<|ih (W (i + 1)) _ hMl H h h3 h1 h2 hg ho hx hr
   intro r0 I9 hs9 m9 heq9 le9 hrs9;subst heq9;exact zZ<|zZ<|zH<|zH<|hr _ _ _ _ (zC hMl).symm (H.trans le9) hrs9
 intro hc3 N;exact vW<|yT [(3,vP b 0),(6,vS p3 y1 c3)]<|hx _  (zC N).symm H
def pJ (list:(List zE)) (part:zN):Option (Int×Bool):=do
 let (y1,y2)←rZ part.Nest
 let t32←(do
   if (!y2) then
    pure true
   else
    if (decide ((part.Body.length:Int) < 1)) then
     pure true
    else
     pure (decide ((part.Body.length:Int) > 4))
     : Option Bool)
 if t32 then
  pure (0,false)
 else
  match←uM list part y1 0 with
  | .ret r0=>pure r0
  | .done _ =>
   pure ((W ((y1.length:Int) * (part.Body.length:Int))),true)
theorem eI:∀ list part r,pJ list part=some r→∀ {I:Imm}{p c p1 c1 p2 c2},(S4 I p list c)→(S4 I p1 part.Nest c1)→(S4 I p2 part.Body c2)→RT 100 [vS p list c,vA (cPart part p1 c1 p2 c2)] I [] (nY  r):=by
 intro list part r N I p c p1 c1 p2 c2 h h1 h2;unfold pJ at N;refine zY (fn:=Tryz.f100) (c:=(bodyOf Tryz.f100)) Tryz.func100 rfl rfl ?_;rintro B - -;have H:=iS I;refine yK<|uD (cPart part p1 c1 p2 c2) ?_;intro b hb;refine yC [] []<|xD<|yD 2 [0] [(15,vS p1 part.Nest c1)] ?_;obtain ⟨⟨y1,y2⟩,hy,N⟩:=zB N;refine xT (zCP part.Nest _ hy h1) ?_;rintro I0 hs2 v2 k2 le - ⟨v0,v01,rfl,rfl,h3,rfl⟩ -;have h:=h.mono le;have h1:=h1.mono le;have h2:=h2.mono le;have H:=H.trans le;obtain ⟨p3,c3,rfl⟩:=h3.form;refine yC [] [(6,vS p3 y1 c3),(7,.bool y2)]<|yI<|yG ?_;obtain ⟨o0,ho0,hMc⟩:=zB N;refine yU (fun I' hs' m'=>∃ (t32:Bool),o0=t32∧I0.le I'∧hs'=[hB b (cPart part p1 c1 p2 c2)]∧m'=[(0,vS p list c),(3,vP b 0),(6,vS p3 y1 c3),(32,.bool t32)]) ?_ ?_
 · have H:=iS I0;refine zQ<|yD 3 [] [(21,.bool (!y2))] ?_;cases hc:(!y2) with
   | true =>
    have hM0:=zP hc ho0
    try rw [hc]
    exact yC [] [(32,vY)]<|yT [(0,vS p list c),(3,vP b 0),(6,vS p3 y1 c3),(32,vY)]<|zV (ct hM0 H)
   | false =>
    have hM01:=zL hc ho0
    try rw [hc]
    refine yD 9 [0] [(27,.bool (decide ((part.Body.length:Int) < 1)))] ?_;cases hc1:(decide ((part.Body.length:Int) < 1)) with
    | true =>
     have hM02:=zP hc1 hM01
     try rw [hc1]
     exact yC [] [(32,vY)]<|yT [(0,vS p list c),(3,vP b 0),(6,vS p3 y1 c3),(32,vY)]<|zV (ct hM02 H)
    | false =>
     have hM03:=zL hc1 hM01
     try rw [hc1]
     exact yC [0] [(32,.bool (decide ((part.Body.length:Int) > 4)))]<|yT [(0,vS p list c),(3,vP b 0),(6,vS p3 y1 c3),(32,.bool (decide ((part.Body.length:Int) > 4)))]<|zV (ct hM03 H)
 rintro I01 hs2 m2 ⟨t32,heq,le1,rfl,rfl⟩;subst o0;have h:=h.mono le1;have h3:=h3.mono le1;have h1:=h1.mono le1;have h2:=h2.mono le1;refine zM<|yL hMc ?_ ?_
 · intro hc2 N;refine yF [(4,vI 0),(5,vF)]<|xG<|zH ?_;obtain rfl:=zC N;exact xC ⟨_,_,(.tmp rfl (.tmp rfl ResV.nil)),zR,⟨_,_,rfl,rfl,rfl,rfl⟩⟩
 intro hc2 N;refine zW<|yI<|yF [(8,vI 0)]<|wO<|vE [(0,vS p list c),(3,vP b 0),(6,vS p3 y1 c3),(8,vI 0)] ?_;obtain ⟨o03,ho03,hMl1⟩:=zB N;refine zDB list part y1 0 o03 ho03 iR h h3 h1 h2 (fun _ _ _ h=>h) (fun _ _ h=>h) ?_ ?_
 · intro I09  heq3 le9;subst o03;refine zX<|xD<|yC [0] [(4,vI (W ((y1.length:Int) * (part.Body.length:Int)))),(5,vY)]<|zM<|yX ?_;obtain rfl:=zC hMl1;exact xC ⟨_,_,(.tmp rfl (.tmp rfl ResV.nil)),zR,⟨_,_,rfl,rfl,rfl,rfl⟩⟩
 intro r0 I9 hs9 m9 heq9 le9 hrs9;subst heq9;refine zZ<|zH ?_;obtain rfl:=zC hMl1;exact xC hrs9
def wC (p:zK) (total:Int) (i:Int):Option (Out Int (Bool)):=do
 if (decide (i < (p.Parts.length:Int))) then
  let x←idx p.Parts i
  let (y2,y3)←pJ p.Arrays x
  if (!y3) then
   pure (.ret false)
  else
   wC p (W (total + y2)) (W (i + 1))
 else
  pure (.done total)
 partial_fixpoint
theorem zAM (p:zK):∀ (total:Int) (i:Int) (o:Out Int (Bool)),wC p total i=some o→∀ {B}{I0 I:Imm}{Q p1 c p2 c1}{b:Nat},I0.le I→(S4 I p1 p.Arrays c)→(S4 I p2 p.Parts c1)→NG Q→NO Q→(∀ (I':Imm) (total1:Int),o=(.done total1)→I0.le I'→T 42 B Q (.exit 0) I' [] [(3,vI total1)])→(∀ r I' hs' m',o=(.ret r)→I0.le I'→RS Tryz.prog Tryz.f49 B (zU  r) I' hs' m'→T 42 B Q .ret I' hs' m')→J Tryz.prog 42 B (nav (bodyOf Tryz.f49) [1,1,1,0,1,0]) Q I [hB b (cProg p p1 c p2 c1)] [(1,vP b 0),(3,vI total),(4,vI i)]:=by
 refine wC.partial_correctness p _ fun self ih total i o N B I0 I Q p1 c p2 c1 b H h h1 hg ho hx hr=>yZ hg ho<|yG<|yK<|yC [0] [(21,.bool (decide (i < (p.Parts.length:Int))))]<|zM<|yL N ?_ ?_
 · intro hc2 N;refine zW<|yI<|yP<|yG ?_;obtain ⟨x,hy1,N⟩:=zB N;obtain ⟨⟨y2,y3⟩,hy2,N⟩:=zB N;refine wA [.p (vP b 0) [],.p (vS p1 p.Arrays c) [0],.p (vP b 1) [],.p (vS p2 p.Parts c1) [0],.p (vI i) [],.x (fun I' v hx=>∃ ad p3 c2 p4 c3,v=.pointer (some ad)∧hx=[]∧(At I' ad (cPart x p3 c2 p4 c3))∧(S4 I' p3 x.Nest c2)∧(S4 I' p4 x.Body c3)),.x (fun I' v hx=>∃ p31 c21 p41 c31,v=vA (cPart x p31 c21 p41 c31)∧hx=[]∧(S4 I' p31 x.Nest c21)∧(S4 I' p41 x.Body c31)),.q (.tuple ⟨[vI y2,.bool y3]⟩),.p (.tuple ⟨[vI y2,.bool y3]⟩) [],.p (vI y2) [],.p (.bool y3) [],.p (vI y2) []] [[],[(0,false)],[],[(2,false)],[],[(3,false),(4,false)],[(5,false)],[(1,false),(6,false)],[(7,false)],[(8,false)],[(8,false)],[(9,false)]] [hB b (cProg p p1 c p2 c1)] [] [(10,false),(11,false)] (yB [0]) ?_ ?_
   · refine Op<|Op<|Op<|Op<|Op<|Ox ?_<|Ox ?_<|Oq ?_<|Op<|Op<|Op<|Op<|On
     · intro I1 hf le1;refine yM [(28,vS p2 p.Parts c1),(29,vI i)] ?_;have h1:=h1.mono le1;refine xS rfl rfl h1 hy1 ?_;intro ad ccs hat hrep;obtain ⟨p3,c2,p4,c3,rfl,h3,h4⟩:=wT hrep;exact yO [] iR ⟨_,_,_,_,_,rfl,rfl,hat,h3,h4⟩
     · intro I1 hf le1;refine zF ?_;rintro _ _ ⟨ad,p3,c2,p4,c3,rfl,rfl,hat,h3,h4⟩;exact yM [(30,.pointer (some ad))]<|xM 0 hat (cPart x p3 c2 p4 c3) (vA (cPart x p3 c2 p4 c3)) rfl<|yO [] iR ⟨_,_,_,_,rfl,rfl,h3,h4⟩
     intro I1 hf le1;refine zF ?_;rintro _ _ ⟨rfl,rfl⟩;refine zF ?_;rintro _ _ ⟨p31,c21,p41,c31,rfl,rfl,h31,h41⟩;refine yM [(26,vS p1 p.Arrays c),(31,vA (cPart x p31 c21 p41 c31))] ?_;have H:=iS I1;have h:=h.mono le1;refine xT (eI p.Arrays x _ hy2 h h31 h41) ?_;rintro I02 hs2 v2 k2 le2 - ⟨v03,v04,rfl,rfl,rfl,rfl⟩ -;have H:=H.trans le2;exact yS H
   intro I03 le3;refine yM [(1,vP b 0),(3,vI total),(4,vI i),(5,vI y2),(34,.bool y3)] ?_;have h:=h.mono le3;have h1:=h1.mono le3;have H:=H.trans le3;refine yC [] [(6,.bool y3)]<|yI<|yF [(36,.bool (!y3))]<|zM<|yL N ?_ ?_
   · intro hc3 N;exact yF [(2,vF)]<|xG<|zH<|zZ<|zH<|zH<|hr _ _ _ _ (zC N).symm H ⟨_,_,(.tmp rfl ResV.nil),zR,⟨_,rfl,rfl,rfl⟩⟩
   intro hc3 N;exact zW<|zM<|zQ<|yC [] [(3,vI (W (total + y2)))]<|zT<|zM<|zQ<|yC [] [(4,vI (W (i + 1)))]<|yY<|vE [(1,vP b 0),(3,vI (W (total + y2))),(4,vI (W (i + 1)))]<|ih (W (total + y2)) (W (i + 1)) _ N H h h1 hg ho hx hr
 intro hc2 N;exact vW<|xU zR<|yT [(3,vI total)]<|hx _ _ (zC N).symm H
def vG (p:zK):Option (Bool):=do
 let t16←(do
   let y←pU p.Arrays
   if (!y) then
    pure true
   else
    pure (decide ((p.Parts.length:Int) > 4))
     : Option Bool)
 if t16 then
  pure false
 else
  match←wC p 0 0 with
  | .ret r0=>pure r0
  | .done total1 =>
   pure (decide (total1 ≤ 120))
theorem nA:∀ p r,vG p=some r→∀ {I:Imm}{p1 c p2 c1},(S4 I p1 p.Arrays c)→(S4 I p2 p.Parts c1)→RT 49 [vA (cProg p p1 c p2 c1)] I [] (zU  r):=by
 intro p r N I p1 c p2 c1 h h1;unfold vG at N;refine zY (fn:=Tryz.f49) (c:=(bodyOf Tryz.f49)) Tryz.func49 rfl rfl ?_;rintro B - -;have H:=iS I;refine yK<|uD (cProg p p1 c p2 c1) ?_;intro b hb;refine yC [] []<|yI<|yG ?_;obtain ⟨o0,ho0,hMc⟩:=zB N;refine yU (fun I' hs' m'=>∃ (t16:Bool),o0=t16∧I.le I'∧hs'=[hB b (cProg p p1 c p2 c1)]∧m'=[(1,vP b 0),(16,.bool t16)]) ?_ ?_
 · have H:=iS I;refine zQ<|yD 2 [0] [(8,vS p1 p.Arrays c)] ?_;obtain ⟨y,hy,N⟩:=zB ho0;refine vJ (zDi p.Arrays _ hy h) ?_;intro I01 le;have H:=H.trans le;refine yD 5 [] [(11,.bool (!y))] ?_;cases hc:(!y) with
   | true =>
    have hM0:=zP hc N
    try rw [hc]
    exact yC [] [(16,vY)]<|yT [(1,vP b 0),(16,vY)]<|zV (ct hM0 H)
   | false =>
    have hM01:=zL hc N
    try rw [hc]
    exact yC [0] [(16,.bool (decide ((p.Parts.length:Int) > 4)))]<|yT [(1,vP b 0),(16,.bool (decide ((p.Parts.length:Int) > 4)))]<|zV (ct hM01 H)
 rintro I0 hs2 m2 ⟨t16,heq,le1,rfl,rfl⟩;subst o0;have h:=h.mono le1;have h1:=h1.mono le1;refine zM<|yL hMc ?_ ?_
 · intro hc1 N;refine yF [(2,vF)]<|xG<|zH ?_;obtain rfl:=zC N;exact wN
 intro hc1 N;refine zW<|vH [(3,vI 0)]<|yI<|yF [(4,vI 0)]<|wO<|vE [(1,vP b 0),(3,vI 0),(4,vI 0)] ?_;obtain ⟨o01,ho01,hMl⟩:=zB N;refine zAM p 0 0 o01 ho01 iR h h1 (fun _ _ _ h=>h) (fun _ _ h=>h) ?_ ?_
 · intro I04 total1 heq1 le4;subst o01;refine zX<|vH [(2,.bool (decide (total1 ≤ 120)))]<|zM<|yX ?_;obtain rfl:=zC hMl;exact wN
 intro r0 I9 hs9 m9 heq9 le9 hrs9;subst heq9;refine zZ<|zH ?_;obtain rfl:=zC hMl;exact xC hrs9
def qV (nest:(List zD)) (out:Str) (i:Int):Option (Str):=do
 if (decide (i < (nest.length:Int))) then
  let s←cat out (⟨[102,111,114,32]⟩:Str)
  let x←idx nest i
  let y←rY x.Lo
  let s1←cat s y
  let s2←cat s1 (⟨[32]⟩:Str)
  let x1←idx nest i
  let y1←rY x1.Hi
  let s3←cat s2 y1
  let s4←cat s3 (⟨[10]⟩:Str)
  qV nest s4 (W (i + 1))
 else
  pure (id out)
 partial_fixpoint
theorem zDC (nest:(List zD)):∀ (out:Str) (i:Int) (o:Str),qV nest out i=some o→∀ {B}{I0 I:Imm}{Q p c},I0.le I→(S4 I p nest c)→NG Q→NO Q→(∀ (I':Imm) (out1:Str),o=out1→I0.le I'→T 30 B Q (.exit 0) I' [] [(3,vT out1.l)])→J Tryz.prog 30 B (nav (bodyOf Tryz.f190) [1,1,0,1,0]) Q I [] [(0,vS p nest c),(3,vT out.l),(4,vI i)]:=by
 refine qV.partial_correctness nest _ fun self ih out i o N B I0 I Q p c H h hg ho hx=>yZ hg ho<|yG<|yF [(8,.bool (decide (i < (nest.length:Int))))]<|zM<|yL N ?_ ?_
 · intro hc N;refine zW<|yI<|yP ?_;obtain ⟨s,hy,N⟩:=zB N;obtain ⟨x,hy1,N⟩:=zB N;obtain ⟨y,hy2,N⟩:=zB N;obtain ⟨s1,hy3,N⟩:=zB N;obtain ⟨s2,hy4,N⟩:=zB N;obtain ⟨x1,hy5,N⟩:=zB N;obtain ⟨y1,hy6,N⟩:=zB N;obtain ⟨s3,hy7,N⟩:=zB N;obtain ⟨s4,hy8,N⟩:=zB N;refine wA [.p (vT out.l) [],.q (vT s.l),.p (vS p nest c) [],.p (vI i) [],.x (fun I' v hx=>∃ ad p1 c1 p2 c2,v=.pointer (some ad)∧hx=[]∧(At I' ad (cLoop x p1 c1 p2 c2))∧(S4 I' p1 x.Lo c1)∧(S4 I' p2 x.Hi c2)),.x (fun I' v hx=>∃ ad1 p11 c11 p21 c21,v=.pointer (some ad1)∧hx=[]∧(At I' ad1 (cLoop x p11 c11 p21 c21))∧(S4 I' p11 x.Lo c11)∧(S4 I' p21 x.Hi c21)),.x (fun I' v hx=>∃ p111 c111,v=vS p111 x.Lo c111∧hx=[]∧(S4 I' p111 x.Lo c111)),.q (vT y.l),.q (vT s1.l),.q (vT s2.l),.p (vS p nest c) [],.p (vI i) [],.x (fun I' v hx=>∃ ad2 p3 c3 p4 c4,v=.pointer (some ad2)∧hx=[]∧(At I' ad2 (cLoop x1 p3 c3 p4 c4))∧(S4 I' p3 x1.Lo c3)∧(S4 I' p4 x1.Hi c4)),.x (fun I' v hx=>∃ ad21 p31 c31 p41 c41,v=.pointer (some (ad21.add 1))∧hx=[]∧(At I' ad21 (cLoop x1 p31 c31 p41 c41))∧(S4 I' p31 x1.Lo c31)∧(S4 I' p41 x1.Hi c41)),.x (fun I' v hx=>∃ p411 c411,v=vS p411 x1.Hi c411∧hx=[]∧(S4 I' p411 x1.Hi c411)),.q (vT y1.l),.q (vT s3.l),.q (vT s4.l)] [[],[(0,false)],[],[],[(2,false),(3,false)],[(4,false)],[(5,false)],[(6,false)],[(1,false),(7,false)],[(8,false)],[],[],[(10,false),(11,false)],[(12,false)],[(13,false)],[(14,false)],[(9,false),(15,false)],[(16,false)]] [] [] [(17,false)] zR ?_ ?_
   · refine Op<|Oq ?_<|Op<|Op<|Ox ?_<|Ox ?_<|Ox ?_<|Oq ?_<|Oq ?_<|Oq ?_<|Op<|Op<|Ox ?_<|Ox ?_<|Ox ?_<|Oq ?_<|Oq ?_<|Oq ?_<|On
     · intro I1 hf le1;exact yM [(11,vT out.l)]<|nU rfl hy<|yS iR
     · intro I1 hf le1;refine yM [(13,vS p nest c),(14,vI i)] ?_;have h:=h.mono le1;refine xS rfl rfl h hy1 ?_;intro ad ccs hat hrep;obtain ⟨p1,c1,p2,c2,rfl,h1,h2⟩:=tP hrep;exact yO [] iR ⟨_,_,_,_,_,rfl,rfl,hat,h1,h2⟩
     · intro I1 hf le1;refine zF ?_;rintro _ _ ⟨ad,p1,c1,p2,c2,rfl,rfl,hat,h1,h2⟩;exact yM [(15,.pointer (some ad))]<|uS 6 [(16,.pointer (some ad))]<|yO [] iR ⟨_,_,_,_,_,rfl,rfl,hat,h1,h2⟩
     · intro I1 hf le1;refine zF ?_;rintro _ _ ⟨ad1,p11,c11,p21,c21,rfl,rfl,hat1,h11,h21⟩;exact yM [(16,.pointer (some ad1))]<|xM 0 hat1 [vS p11 x.Lo c11] (vS p11 x.Lo c11) rfl<|yO [] iR ⟨_,_,rfl,rfl,h11⟩
     · intro I1 hf le1;refine zF ?_;rintro _ _ ⟨p111,c111,rfl,rfl,h111⟩;refine yM [(17,vS p111 x.Lo c111)] ?_;have H:=iS I1;refine xT (jU x.Lo _ hy2 h111) ?_;rintro I0 hs2 v2 k2 le - ⟨v02,rfl,rfl,rfl⟩ -;have H:=H.trans le;exact yS H
     · intro I1 hf le1;exact yM [(12,vT s.l),(18,vT y.l)]<|nU rfl hy3<|yS iR
     · intro I1 hf le1;exact yM [(19,vT s1.l)]<|nU rfl hy4<|yS iR
     · intro I1 hf le1;refine yM [(21,vS p nest c),(22,vI i)] ?_;have h:=h.mono le1;refine xS rfl rfl h hy5 ?_;intro ad2 ccs1 hat2 hrep1;obtain ⟨p3,c3,p4,c4,rfl,h4,h5⟩:=tP hrep1;exact yO [] iR ⟨_,_,_,_,_,rfl,rfl,hat2,h4,h5⟩
     · intro I1 hf le1;refine zF ?_;rintro _ _ ⟨ad2,p3,c3,p4,c4,rfl,rfl,hat2,h4,h5⟩;exact yM [(23,.pointer (some ad2))]<|uS 14 [(24,.pointer (some (ad2.add 1)))]<|yO [] iR ⟨_,_,_,_,_,rfl,rfl,hat2,h4,h5⟩
     · intro I1 hf le1;refine zF ?_;rintro _ _ ⟨ad21,p31,c31,p41,c41,rfl,rfl,hat21,h41,h51⟩;exact yM [(24,.pointer (some (ad21.add 1)))]<|xM 1 hat21 [vS p41 x1.Hi c41] (vS p41 x1.Hi c41) rfl<|yO [] iR ⟨_,_,rfl,rfl,h51⟩
     · intro I1 hf le1;refine zF ?_;rintro _ _ ⟨p411,c411,rfl,rfl,h511⟩;refine yM [(25,vS p411 x1.Hi c411)] ?_;have H:=iS I1;refine xT (jU x1.Hi _ hy6 h511) ?_;rintro I01 hs2 v2 k2 le1 - ⟨v05,rfl,rfl,rfl⟩ -;have H:=H.trans le1;exact yS H
     · intro I1 hf le1;exact yM [(20,vT s2.l),(26,vT y1.l)]<|nU rfl hy7<|yS iR
     intro I1 hf le1;exact yM [(27,vT s3.l)]<|nU rfl hy8<|yS iR
   intro I02 le2;refine yM [(0,vS p nest c),(4,vI i),(28,vT s4.l)] ?_;have h:=h.mono le2;have H:=H.trans le2;exact yC [] [(3,vT s4.l)]<|zT<|zM<|zQ<|yC [] [(4,vI (W (i + 1)))]<|yY<|vE [(0,vS p nest c),(3,vT s4.l),(4,vI (W (i + 1)))]<|ih s4 (W (i + 1)) _ N H h hg ho hx
 intro hc N;exact vW<|yT [(3,vT out.l)]<|hx _ _ (zC N).symm H
def jI (nest:(List zD)):Option (Str):=do
 let out1←qV nest (⟨[]⟩:Str) 0
 pure (id out1)
theorem zFF:∀ nest r,jI nest=some r→∀ {I:Imm}{p c},(S4 I p nest c)→RT 190 [vS p nest c] I [] (tF  r):=by
 intro nest r N I p c h;unfold jI at N;refine zY (fn:=Tryz.f190) (c:=(bodyOf Tryz.f190)) Tryz.func190 rfl rfl ?_;rintro B - -;refine yF []<|vH [(3,vT ([]))]<|yI<|yF [(4,vI 0)]<|wO<|vE [(0,vS p nest c),(3,vT ([])),(4,vI 0)] ?_;obtain ⟨o0,ho0,hMl⟩:=zB N;refine zDC nest (⟨[]⟩:Str) 0 o0 ho0 iR h (fun _ _ _ h=>h) (fun _ _ h=>h) ?_;intro I03 out1 heq le3;subst o0;refine zX<|vH [(2,vT out1.l)]<|zM<|yX ?_;obtain rfl:=zC hMl;exact wN
def uN (p:zK) (i:Int) (out2:Str) (k0:Int):Option (Str):=do
 let x1←idx p.Arrays i
 if (decide (k0 < (x1.Dims.length:Int))) then
  let s2←cat out2 (⟨[32]⟩:Str)
  let x2←idx p.Arrays i
  let x3←idx x2.Dims k0
  let y1←sW x3
  let s3←cat s2 y1
  uN p i s3 (W (k0 + 1))
 else
  pure (id out2)
 partial_fixpoint
theorem dQ (p:zK) (i:Int):∀ (out2:Str) (k0:Int) (o:Str),uN p i out2 k0=some o→∀ {B}{I0 I:Imm}{Q p1 c p2 c1}{b:Nat},I0.le I→(S4 I p1 p.Arrays c)→(S4 I p2 p.Parts c1)→NG Q→NO Q→(∀ (I':Imm) (out3:Str),o=out3→I0.le I'→T 103 B Q (.exit 2) I' [hB b (cProg p p1 c p2 c1)] [(1,vP b 0),(3,vT out3.l),(4,vI i)])→J Tryz.prog 103 B (nav (bodyOf Tryz.f158) [1,1,1,0,1,0,0,1,0,0,1,0,1,0]) Q I [hB b (cProg p p1 c p2 c1)] [(1,vP b 0),(3,vT out2.l),(4,vI i),(5,vI k0)]:=by
 refine uN.partial_correctness p i _ fun self ih out2 k0 o N B I0 I Q p1 c p2 c1 b H h h1 hg ho hx=>yZ hg ho<|yG<|yK<|yD 4 [0] [(28,vI k0),(30,vS p1 p.Arrays c),(31,vI i)]<|bE N fun x1 hy4 N=>xS rfl rfl h hy4 ?_;intro ad1 ccs1 hat1 hrep1;obtain ⟨p4,c3,rfl,h4⟩:=wH hrep1;refine yD 6 [] [(33,.pointer (some (ad1.add 1)))]<|xM 1 hat1 [vS p4 x1.Dims c3] (vS p4 x1.Dims c3) rfl<|yC [] [(36,.bool (decide (k0 < (x1.Dims.length:Int))))]<|zM<|yL N ?_ ?_
 · intro hc2 N;refine zW<|yI<|yP<|zQ<|yD 1 [] [(39,vT out2.l)]<|bE N fun s2 hy5 N=>nU rfl hy5<|yD 5 [0] [(42,vS p1 p.Arrays c),(43,vI i)]<|bE N fun x2 hy6 N=>xS rfl rfl h hy6 ?_;intro ad2 ccs2 hat2 hrep2;obtain ⟨p5,c4,rfl,h5⟩:=wH hrep2;refine yD 7 [] [(45,.pointer (some (ad2.add 1)))]<|xM 1 hat2 [vS p5 x2.Dims c4] (vS p5 x2.Dims c4) rfl<|yD 9 [] [(47,vI k0)]<|bE N fun x3 hy7 N=>xS rfl rfl h5 hy7 ?_;intro ad3 ccs3 hat3 hrep3;obtain rfl:=hrep3;refine xM 0 hat3 [vI x3] (vI x3) rfl<|bE N fun y1 hy8 N=>xT (gD x3 _ hy8 ) ?_;rintro I01 hs2 v2 k2 le1 - ⟨v04,rfl,rfl,rfl⟩ -;have h:=h.mono le1;have h1:=h1.mono le1;have H:=H.trans le1;obtain ⟨s3,hy9,N⟩:=zB N;exact nU rfl hy9<|yC [] [(3,vT s3.l)]<|zT<|zM<|zQ<|yC [] [(5,vI (W (k0 + 1)))]<|yY<|vE [(1,vP b 0),(3,vT s3.l),(4,vI i),(5,vI (W (k0 + 1)))]<|ih s3 (W (k0 + 1)) _ N H h h1 hg ho hx
 intro hc2 N;exact vW<|yT [(1,vP b 0),(3,vT out2.l),(4,vI i)]<|hx _ _ (zC N).symm H
def uO (p:zK) (out:Str) (i:Int):Option (Str):=do
 if (decide (i < (p.Arrays.length:Int))) then
  let s←cat out (⟨[97,114,114,97,121,32]⟩:Str)
  let x←idx p.Arrays i
  let s1←cat s x.Name
  let out3←uN p i s1 0
  let s4←cat out3 (⟨[10]⟩:Str)
  uO p s4 (W (i + 1))
 else
  pure (id out)
 partial_fixpoint
theorem dR (p:zK):∀ (out:Str) (i:Int) (o:Str),uO p out i=some o→∀ {B}{I0 I:Imm}{Q p1 c p2 c1}{b:Nat},I0.le I→(S4 I p1 p.Arrays c)→(S4 I p2 p.Parts c1)→NG Q→NO Q→(∀ (I':Imm) (out1:Str),o=out1→I0.le I'→T 103 B Q (.exit 0) I' [hB b (cProg p p1 c p2 c1)] [(1,vP b 0),(3,vT out1.l)])→J Tryz.prog 103 B (nav (bodyOf Tryz.f158) [1,1,1,0,1,0]) Q I [hB b (cProg p p1 c p2 c1)] [(1,vP b 0),(3,vT out.l),(4,vI i)]:=by
 refine uO.partial_correctness p _ fun self ih out i o N B I0 I Q p1 c p2 c1 b H h h1 hg ho hx=>yZ hg ho<|yG<|yK<|yC [0] [(16,.bool (decide (i < (p.Arrays.length:Int))))]<|zM<|yL N ?_ ?_
 · intro hc1 N;refine zW<|yI<|yP<|yK<|yD 1 [] [(19,vT out.l)]<|bE N fun s hy1 N=>nU rfl hy1<|yD 5 [0] [(22,vS p1 p.Arrays c),(23,vI i)]<|bE N fun x hy2 N=>xS rfl rfl h hy2 ?_;intro ad ccs hat hrep;obtain ⟨p3,c2,rfl,h3⟩:=wH hrep;refine yD 7 [] [(25,.pointer (some ad))]<|xM 0 hat [vT x.Name.l] (vT x.Name.l) rfl<|bE N fun s1 hy3 N=>nU rfl hy3<|yC [] [(3,vT s1.l)]<|yI<|yF [(5,vI 0)]<|wO<|vE [(1,vP b 0),(3,vT s1.l),(4,vI i),(5,vI 0)] ?_;obtain ⟨o0,ho0,hMl⟩:=zB N;refine dQ p i s1 0 o0 ho0 iR h h1 (fun _ _ _ h=>hg _ _ _ h) (fun _ _ h=>ho _ _ h) ?_;intro I02 out3 heq le2;subst o0;have h:=h.mono le2;have h1:=h1.mono le2;have H:=H.trans le2;refine zX<|zM<|zQ<|yD 1 [] [(52,vT out3.l)] ?_;obtain ⟨s4,hy10,N⟩:=zB hMl;exact nU rfl hy10<|yC [] [(3,vT s4.l)]<|zT<|zM<|zQ<|yC [] [(4,vI (W (i + 1)))]<|yY<|vE [(1,vP b 0),(3,vT s4.l),(4,vI (W (i + 1)))]<|ih s4 (W (i + 1)) _ N H h h1 hg ho hx
 intro hc1 N;exact vW<|yT [(1,vP b 0),(3,vT out.l)]<|hx _ _ (zC N).symm H
def uP (p:zK) (i1:Int) (out6:Str) (k01:Int):Option (Str):=do
 let x5←idx p.Parts i1
 if (decide (k01 < (x5.Body.length:Int))) then
  let x6←idx p.Parts i1
  let x7←idx x6.Body k01
  let y3←sJ x7.Write
  let s7←cat out6 y3
  let s8←cat s7 (⟨[61]⟩:Str)
  let y4←sX x7.Value
  let s9←cat s8 y4
  let s10←cat s9 (⟨[10]⟩:Str)
  uP p i1 s10 (W (k01 + 1))
 else
  pure (id out6)
 partial_fixpoint
theorem dS (p:zK) (i1:Int):∀ (out6:Str) (k01:Int) (o:Str),uP p i1 out6 k01=some o→∀ {B}{I0 I:Imm}{Q p1 c p2 c1}{b:Nat},I0.le I→(S4 I p1 p.Arrays c)→(S4 I p2 p.Parts c1)→NG Q→NO Q→(∀ (I':Imm) (out7:Str),o=out7→I0.le I'→T 103 B Q (.exit 6) I' [hB b (cProg p p1 c p2 c1)] [(1,vP b 0),(3,vT out7.l),(6,vI i1)])→J Tryz.prog 103 B (nav (bodyOf Tryz.f158) [1,1,1,1,0,1,0,0,1,0,0,1,1,0]) Q I [hB b (cProg p p1 c p2 c1)] [(1,vP b 0),(3,vT out6.l),(6,vI i1),(7,vI k01)]:=by
 refine uP.partial_correctness p i1 _ fun self ih out6 k01 o N B I0 I Q p1 c p2 c1 b H h h1 hg ho hx=>yZ hg ho<|yG<|yK<|yD 4 [0] [(71,vI k01),(73,vS p2 p.Parts c1),(74,vI i1)]<|bE N fun x5 hy15 N=>xS rfl rfl h1 hy15 ?_;intro ad5 ccs5 hat5 hrep5;obtain ⟨p8,c7,p9,c8,rfl,h10,h11⟩:=wT hrep5;refine yD 6 [] [(76,.pointer (some (ad5.add 1)))]<|xM 1 hat5 [vS p9 x5.Body c8] (vS p9 x5.Body c8) rfl<|yC [] [(79,.bool (decide (k01 < (x5.Body.length:Int))))]<|zM<|yL N ?_ ?_
 · intro hc4 N;refine zW<|yI<|yP<|yK<|yD 3 [0] [(83,vS p2 p.Parts c1),(84,vI i1)]<|bE N fun x6 hy16 N=>xS rfl rfl h1 hy16 ?_;intro ad6 ccs6 hat6 hrep6;obtain ⟨p10,c9,p11,c10,rfl,h12,h13⟩:=wT hrep6;refine yD 5 [] [(86,.pointer (some (ad6.add 1)))]<|xM 1 hat6 [vS p11 x6.Body c10] (vS p11 x6.Body c10) rfl<|yD 7 [] [(88,vI k01)]<|bE N fun x7 hy17 N=>xS rfl rfl h13 hy17 ?_;intro ad7 ccs7 hat7 hrep7;obtain ⟨p12,c11,p13,c12,p14,c13,p15,c14,rfl,h14,h15,h16,h17⟩:=tQ hrep7;refine xM 0 hat7 (cStmt x7 p12 c11 p13 c12 p14 c13 p15 c14) (vA (cStmt x7 p12 c11 p13 c12 p14 c13 p15 c14)) rfl<|wR [vT ([]),z0,vI 0,vI 0,z0,vI 0,vT ([]),z0,z0] ?_;intro b1 hb1;refine xE 0 (cStmt x7 p12 c11 p13 c12 p14 c13 p15 c14) [hB b1 (cStmt x7 p12 c11 p13 c12 p14 c13 p15 c14),hB b (cProg p p1 c p2 c1)] rfl rfl rfl rfl<|yH rfl<|zM ?_;obtain ⟨y3,hy18,N⟩:=zB N;obtain ⟨s7,hy19,N⟩:=zB N;obtain ⟨s8,hy20,N⟩:=zB N;obtain ⟨y4,hy21,N⟩:=zB N;obtain ⟨s9,hy22,N⟩:=zB N;obtain ⟨s10,hy23,N⟩:=zB N;refine wA [.p (vT out6.l) [],.p (vP b1 0) [],.p (vA (cAccess x7.Write p12 c11)) [0],.q (vT y3.l),.q (vT s7.l),.q (vT s8.l),.p (vP b1 2) [],.p (vA (cExpr x7.Value p13 c12 p14 c13 p15 c14)) [0],.q (vT y4.l),.q (vT s9.l),.q (vT s10.l)] [[],[],[(1,false)],[(2,false)],[(0,false),(3,false)],[(4,false)],[],[(6,false)],[(7,false)],[(5,false),(8,false)],[(9,false)]] [hB b1 (cStmt x7 p12 c11 p13 c12 p14 c13 p15 c14),hB b (cProg p p1 c p2 c1)] [] [(10,false)] (yB [0,1]) ?_ ?_
   · refine Op<|Op<|Op<|Oq ?_<|Oq ?_<|Oq ?_<|Op<|Op<|Oq ?_<|Oq ?_<|Oq ?_<|On
     · intro I1 hf le1;refine yM [(93,vA (cAccess x7.Write p12 c11))] ?_;have H:=iS I1;have h14:=h14.mono le1;refine xT (kR x7.Write _ hy18 h14) ?_;rintro I05 hs2 v2 k2 le5 - ⟨v016,rfl,rfl,rfl⟩ -;have H:=H.trans le5;exact yS H
     · intro I1 hf le1;exact yM [(91,vT out6.l),(94,vT y3.l)]<|nU rfl hy19<|yS iR
     · intro I1 hf le1;exact yM [(95,vT s7.l)]<|nU rfl hy20<|yS iR
     · intro I1 hf le1;refine yM [(98,vA (cExpr x7.Value p13 c12 p14 c13 p15 c14))] ?_;have H:=iS I1;have h15:=h15.mono le1;have h16:=h16.mono le1;have h17:=h17.mono le1;refine xT (zBJ x7.Value _ hy21 h15 h16 h17) ?_;rintro I06 hs2 v2 k2 le6 - ⟨v017,rfl,rfl,rfl⟩ -;have H:=H.trans le6;exact yS H
     · intro I1 hf le1;exact yM [(96,vT s8.l),(99,vT y4.l)]<|nU rfl hy22<|yS iR
     intro I1 hf le1;exact yM [(100,vT s9.l)]<|nU rfl hy23<|yS iR
   intro I07 le7;refine yM [(1,vP b 0),(6,vI i1),(7,vI k01),(101,vT s10.l)] ?_;have h:=h.mono le7;have h1:=h1.mono le7;have H:=H.trans le7;exact yC [] [(3,vT s10.l)]<|zT<|zM<|zQ<|yC [] [(7,vI (W (k01 + 1)))]<|yY<|pK (yA [1] rfl (by decide))<|vE [(1,vP b 0),(3,vT s10.l),(6,vI i1),(7,vI (W (k01 + 1)))]<|ih s10 (W (k01 + 1)) _ N H h h1 hg ho hx
 intro hc4 N;exact vW<|yT [(1,vP b 0),(3,vT out6.l),(6,vI i1)]<|hx _ _ (zC N).symm H
def uQ (p:zK) (out4:Str) (i1:Int):Option (Str):=do
 if (decide (i1 < (p.Parts.length:Int))) then
  let s5←cat out4 (⟨[112,97,114,116,10]⟩:Str)
  let x4←idx p.Parts i1
  let y2←jI x4.Nest
  let s6←cat s5 y2
  let out7←uP p i1 s6 0
  uQ p out7 (W (i1 + 1))
 else
  pure (id out4)
 partial_fixpoint
theorem dU (p:zK):∀ (out4:Str) (i1:Int) (o:Str),uQ p out4 i1=some o→∀ {B}{I0 I:Imm}{Q p1 c p2 c1}{b:Nat},I0.le I→(S4 I p1 p.Arrays c)→(S4 I p2 p.Parts c1)→NG Q→NO Q→(∀ (I':Imm) (out5:Str),o=out5→I0.le I'→T 103 B Q (.exit 4) I' [] [(3,vT out5.l)])→J Tryz.prog 103 B (nav (bodyOf Tryz.f158) [1,1,1,1,0,1,0]) Q I [hB b (cProg p p1 c p2 c1)] [(1,vP b 0),(3,vT out4.l),(6,vI i1)]:=by
 refine uQ.partial_correctness p _ fun self ih out4 i1 o N B I0 I Q p1 c p2 c1 b H h h1 hg ho hx=>yZ hg ho<|yG<|yK<|yC [0] [(58,.bool (decide (i1 < (p.Parts.length:Int))))]<|zM<|yL N ?_ ?_
 · intro hc3 N;refine zW<|yI<|yP<|yK<|yD 1 [] [(61,vT out4.l)]<|bE N fun s5 hy11 N=>nU rfl hy11<|yD 5 [0] [(64,vS p2 p.Parts c1),(65,vI i1)]<|bE N fun x4 hy12 N=>xS rfl rfl h1 hy12 ?_;intro ad4 ccs4 hat4 hrep4;obtain ⟨p6,c5,p7,c6,rfl,h7,h8⟩:=wT hrep4;refine yD 7 [] [(67,.pointer (some ad4))]<|xM 0 hat4 [vS p6 x4.Nest c5] (vS p6 x4.Nest c5) rfl<|bE N fun y2 hy13 N=>xT (zFF x4.Nest _ hy13 h7) ?_;rintro I04 hs2 v2 k2 le4 - ⟨v07,rfl,rfl,rfl⟩ -;have h:=h.mono le4;have h1:=h1.mono le4;have H:=H.trans le4;obtain ⟨s6,hy14,N⟩:=zB N;refine nU rfl hy14<|yC [] [(3,vT s6.l)]<|vH [(7,vI 0)]<|wO<|vE [(1,vP b 0),(3,vT s6.l),(6,vI i1),(7,vI 0)] ?_;obtain ⟨o02,ho02,hMl2⟩:=zB N;refine dS p i1 s6 0 o02 ho02 iR h h1 (fun _ _ _ h=>hg _ _ _ h) (fun _ _ h=>ho _ _ h) ?_;intro I08 out7 heq2 le8;subst o02;have h:=h.mono le8;have h1:=h1.mono le8;have H:=H.trans le8;exact zX<|zT<|zM<|zQ<|yC [] [(6,vI (W (i1 + 1)))]<|yY<|vE [(1,vP b 0),(3,vT out7.l),(6,vI (W (i1 + 1)))]<|ih out7 (W (i1 + 1)) _ hMl2 H h h1 hg ho hx
 intro hc3 N;exact vW<|xU zR<|yT [(3,vT out4.l)]<|hx _ _ (zC N).symm H
def pQ (p:zK):Option (Str):=do
 let y←vG p
 if (!y) then
  pure (⟨[]⟩:Str)
 else
  let out1←uO p (⟨[112,114,111,103,114,97,109,10]⟩:Str) 0
  let out5←uQ p out1 0
  pure (id out5)
theorem zAp:∀ p r,pQ p=some r→∀ {I:Imm}{p1 c p2 c1},(S4 I p1 p.Arrays c)→(S4 I p2 p.Parts c1)→RT 158 [vA (cProg p p1 c p2 c1)] I [] (tF  r):=by
 intro p r N I p1 c p2 c1 h h1;unfold pQ at N;refine zY (fn:=Tryz.f158) (c:=(bodyOf Tryz.f158)) Tryz.func158 rfl rfl ?_;rintro B - -;refine yK<|uD (cProg p p1 c p2 c1) ?_;intro b hb;refine yC [] []<|yI<|yK<|yD 1 [0] [(9,vA (cProg p p1 c p2 c1))]<|bE N fun y hy N=>vJ (nA p _ hy h h1) ?_;intro I0 le;have h:=h.mono le;have h1:=h1.mono le;refine yC [] [(11,.bool (!y))]<|zM<|yL N ?_ ?_
 · intro hc N;refine yF [(2,vT ([]))]<|xG<|zH ?_;obtain rfl:=zC N;exact wN
 intro hc N;refine zW<|vH [(3,vT ([112,114,111,103,114,97,109,10]))]<|yI<|yF [(4,vI 0)]<|wO<|vE [(1,vP b 0),(3,vT ([112,114,111,103,114,97,109,10])),(4,vI 0)] ?_;obtain ⟨o01,ho01,hMl1⟩:=zB N;refine dR p (⟨[112,114,111,103,114,97,109,10]⟩:Str) 0 o01 ho01 iR h h1 (fun _ _ _ h=>h) (fun _ _ h=>h) ?_;intro I03 out1 heq1 le3;subst o01;have h:=h.mono le3;have h1:=h1.mono le3;refine zX<|yI<|yF [(6,vI 0)]<|wO<|vE [(1,vP b 0),(3,vT out1.l),(6,vI 0)] ?_;obtain ⟨o03,ho03,hMl3⟩:=zB hMl1;refine dU p out1 0 o03 ho03 iR h h1 (fun _ _ _ h=>h) (fun _ _ h=>h) ?_;intro I09 out5 heq3 le9;subst o03;refine zX<|vH [(2,vT out5.l)]<|zM<|yX ?_;obtain rfl:=zC hMl3;exact wN
instance zJC {cs}{arr:List zE}{cs1}{raws:List Raw2}{parts:List zN}{vN:Value}{nl:List zD}{vB:Value}{bl:List zI}{csN csB:List Value}:MonoI (fun i=>L4 i cs arr cs1 raws parts vN nl vB bl csN csB):=⟨fun _ _ hl h=>h.mono hl⟩
def zA3 (r:zK×Bool):KT:=fun kk I' hs' v=>
  ∃ (v0 v1:Value),hs'=[]∧v=tupV [v0,v1]∧(∃ cs,v0=.agg ⟨cs⟩∧Rp.rep I' cs r.1)∧v1=.bool r.2
def sF (y:List Str) (p:zK) (i:Int):Option zK:=do
 if (decide ((W (i + 1)) < (y.length:Int))) then
  let x←idx y i
  let p1←jH p x
  sF y p1 (W (i + 1))
 else
  pure p
 partial_fixpoint
theorem zAN (y:List Str):∀ (p:zK) (i:Int) (o:zK),sF y p i=some o→∀ {B}{I0 I:Imm}{Q}{text:Str}{pl:Option Addr}{cl:Nat}{b b1:Nat}{p1 c cs p2 c1 cs1}{raws:List Raw2}{vN vB:Value}{nl:List zD}{bl:List zI}{csN csB:List Value},I0.le I→(S4 I pl y cl)→L4 I cs p.Arrays cs1 raws p.Parts vN nl vB bl csN csB→(∀ l a w,¬Q (.goto l) a w)→(∀ a w,¬Q .outgrown a w) →
   (∀ (I':Imm) (p1:Option Addr) (c:Nat) (cs:List Value) (p2:Option Addr) (c1:Nat) (cs1:List Value) (raws:List Raw2) (vN vB:Value) (nl:List zD) (bl:List zI) (csN csB:List Value),I0.le I'→L4 I' cs o.Arrays cs1 raws o.Parts vN nl vB bl csN csB→T 37 B Q (.exit 0) I' [hO zE (vS p1 o.Arrays c) cs,hO Raw2 (vS p2 raws c1) cs1,hO zD vN csN,hO zI vB csB,hB b1 [vS p1 o.Arrays c,vS p2 raws c1],hB b zTwo] [(0,vT text.l),(2,vP b 0),(5,vP b1 0)]) →
   J Tryz.prog 37 B (nav (bodyOf Tryz.f114) [1,1,1,1,0,1,0]) Q I [hO zE (vS p1 p.Arrays c) cs,hO Raw2 (vS p2 raws c1) cs1,hO zD vN csN,hO zI vB csB,hB b1 [vS p1 p.Arrays c,vS p2 raws c1],hB b zTwo] [(0,vT text.l),(2,vP b 0),(4,vS pl y cl),(5,vP b1 0),(6,vI i)]:=by
 refine sF.partial_correctness y _ ?_
 intro self ih p i o N B I0 I Q text pl cl b b1 p1 c cs p2 c1 cs1 raws vN vB nl bl csN csB H h hQ hg ho hx
 refine yZ hg ho<|yG<|yF [(18,.bool (decide ((W (i + 1)) < (y.length:Int))))]<|zM<|yL N ?_ ?_
 · intro hc1 N
   refine zW<|yI<|yP ?_
   obtain ⟨x,hy,N⟩:=zB N
   obtain ⟨q,hy1,N⟩:=zB N
   refine wA [.p (vA [vS p1 p.Arrays c,vS p2 raws c1]) [0],.p (vS pl y cl) [],.p (vI i) [],.x (fun I' v hx=>∃ ad,v=.pointer (some ad)∧hx=[]∧(At I' ad [vT x.l])),.x (fun I' v hx=>v=vT x.l∧hx=[]),.x (fun I' v hx=>∃ (p1:Option Addr) (c:Nat) (cs:List Value) (p2:Option Addr) (c1:Nat) (cs1:List Value) (raws:List Raw2) (vN vB:Value) (nl:List zD) (bl:List zI) (csN csB:List Value),v=vA [vS p1 q.Arrays c,vS p2 raws c1]∧hx=[hO zE (vS p1 q.Arrays c) cs,hO Raw2 (vS p2 raws c1) cs1,hO zD vN csN,hO zI vB csB]∧L4 I' cs q.Arrays cs1 raws q.Parts vN nl vB bl csN csB)] [[],[],[],[(1,false),(2,false)],[(3,false)],[(0,false),(4,false),(7,true)]] [hB b1 [vS p1 p.Arrays c,vS p2 raws c1],hB b zTwo] [[hO zE (vS p1 p.Arrays c) cs,hO Raw2 (vS p2 raws c1) cs1,hO zD vN csN,hO zI vB csB]] [(5,true)] (yB [4,5,0,1,2,3]) ?_ ?_
   · refine Op<|Op<|Op<|Ox ?_<|Ox ?_<|Ox (hm:=fun v hx=>by repeat' (first | exact zEE | exact zJC | refine @zGy _ _ (fun _=>?_) | refine @zGP _ _ ?_ ?_)) ?_<|On
     · intro I1 hf le1
       refine yM [(22,vS pl y cl),(23,vI i)]<|xS rfl rfl (h.mono le1) hy ?_
       intro ad ccs hat hrep
       obtain rfl:=hrep
       exact yO [] iR ⟨_,rfl,rfl,hat⟩
     · intro I1 hf le1
       refine zF ?_
       rintro _ _ ⟨ad,rfl,rfl,hat⟩
       exact nQ<|zB9 [(24,.pointer (some ad))]<|xM 0 hat [vT x.l] (vT x.l) rfl<|yS iR
     intro I1 hf le1
     refine zF ?_
     rintro _ _ ⟨rfl,rfl⟩
     refine zF ?_
     rintro _ _ ⟨rfl,rfl⟩
     refine zF ?_
     rintro _ _ rfl
     refine yM [(21,vA [vS p1 p.Arrays c,vS p2 raws c1]),(25,vT x.l)]<|tM [hO zE (vS p1 p.Arrays c) cs,hO Raw2 (vS p2 raws c1) cs1,hO zD vN csN,hO zI vB csB] (hB b1 [vS p1 p.Arrays c,vS p2 raws c1]::hB b zTwo::hf) (zFC p x _ hy1 (hQ.mono le1)) ?_
     rintro I02 hs2 v2 k2 le2 - ⟨p3,c2,cs2,p4,c3,cs3,raws1,vN1,vB1,nl1,bl1,csN1,csB1,rfl,rfl,hq⟩ -
     exact yO [hO zE (vS p3 q.Arrays c2) cs2,hO Raw2 (vS p4 raws1 c3) cs3,hO zD vN1 csN1,hO zI vB1 csB1] le2 ⟨_,_,_,_,_,_,_,_,_,_,_,_,_,rfl,rfl,hq⟩
   intro I04 le4
   refine zF ?_
   rintro _ _ ⟨p3,c2,cs2,p4,c3,cs3,raws1,vN1,vB1,nl1,bl1,csN1,csB1,rfl,rfl,hq⟩
   exact nQ<|zB9 [(0,vT text.l),(2,vP b 0),(4,vS pl y cl),(5,vP b1 0),(6,vI i),(26,vA [vS p3 q.Arrays c2,vS p4 raws1 c3])]<|xE 4 [vS p3 q.Arrays c2,vS p4 raws1 c3] [hO zE (vS p3 q.Arrays c2) cs2,hO Raw2 (vS p4 raws1 c3) cs3,hO zD vN1 csN1,hO zI vB1 csB1,hB b1 [vS p3 q.Arrays c2,vS p4 raws1 c3],hB b zTwo] rfl rfl rfl rfl<|yH rfl<|zT<|zM<|zQ<|yC [] [(6,vI (W (i + 1)))]<|yY<|vE [(0,vT text.l),(2,vP b 0),(4,vS pl y cl),(5,vP b1 0),(6,vI (W (i + 1)))]<|ih _ _ _ N (H.trans le4) (h.mono le4) hq hg ho hx
 intro hc1 N
 obtain rfl:=zC N
 exact vW<|yT [(0,vT text.l),(2,vP b 0),(5,vP b1 0)]<|hx _ _ _ _ _ _ _ _ _ _ _ _ _ _ H hQ
def qE (text:Str):Option (zK×Bool):=do
 let y←nI text (10:UInt8)
 if (decide ((y.length:Int) > 42)) then
  pure ((zK.mk [] []),false)
 else
  let p←sF y (zK.mk [] []) 1
  let t34←(do
    if (text.l == ([]:List UInt8)) then
     pure true
    else
     let z←pQ p
     pure (!(z.l == text.l))
      : Option Bool)
  if t34 then
   pure ((zK.mk [] []),false)
  else
   pure (p,true)
theorem fD:∀ text r,qE text=some r→∀ {I:Imm},RT 114 [vT text.l] I [] (zA3 r):=by
 intro text r N I;unfold qE at N;refine zY (fn:=Tryz.f114) (c:=(bodyOf Tryz.f114)) Tryz.func114 rfl rfl ?_;rintro B - -;refine yK<|wR zTwo ?_;intro b hb;refine yC [] []<|xD<|yD 1 [] [(7,vT text.l)]<|bE N fun y hy N=>xT (eE text (10:UInt8) _ hy) ?_;rintro I0 hs2 v2 k2 le - ⟨v0,rfl,rfl,h⟩ -;obtain ⟨pl,cl,rfl⟩:=h.form;refine yC [] [(4,vS pl y cl)]<|xD<|yD 1 [] [(9,vA zTwo)]<|wR zTwo ?_;intro b1 hb1;refine xE 0 zTwo [hB b1 zTwo,hB b zTwo] rfl rfl rfl rfl<|yH rfl<|yI<|yF [(12,.bool (decide ((y.length:Int) > 42)))]<|zM<|yL N ?_ ?_
 · intro hc N;refine yK<|yD 1 [0] [(13,vA zTwo)]<|xE 1 zTwo [hB b1 zTwo,hB b zTwo] rfl rfl rfl rfl<|yC [] [(3,vF)]<|xG<|zH ?_;obtain rfl:=zC N;exact xC ⟨_,_,(.cell 1 rfl rfl (by kernel_rfl) (.tmp rfl ResV.nil)),zR,⟨_,_,rfl,rfl,⟨_,rfl,(wZ ⟨_,_,rfl,(SL.nil _),(SL.nil _)⟩)⟩,rfl⟩⟩
 intro hc N;refine zW<|yI<|yF [(6,vI 1)]<|wO<|vE [(0,vT text.l),(2,vP b 0),(4,vS pl y cl),(5,vP b1 0),(6,vI 1)]<|pK (vM (Rp.sz zI))<|pK (vM (Rp.sz zD))<|pK (vM (Rp.sz Raw2))<|pK (vM (Rp.sz zE))<|bE N fun p hy1 N=>zAN (raws:=[]) (vN:=z0) (vB:=z0) (nl:=[]) (bl:=[]) y (zK.mk [] []) 1 p hy1 iR h ⟨RepL.nil,RepL.nil,⟨by decide,rfl,.inl ⟨rfl,rfl⟩⟩,RepL.nil,RepL.nil⟩ (fun _ _ _ h=>h) (fun _ _ h=>h) fun I1 p1 c cs p2 c1 cs1 raws vN vB nl bl csN csB le1 hQ=>xP 2 rfl ?_;intro I2 le2 hl2;have kN:=SL.of_frozen hl2 le2 hQ.n;have hQ:=hQ.mono le2;refine xP 2 rfl ?_;intro I3 le3 hl3;have kB:=SL.of_frozen hl3 le3 hQ.b;replace kN:=kN.mono le3;have hQ:=hQ.mono le3;refine xP 0 rfl ?_;intro I4 le4 hl4;have kA:=SL.of_frozen hl4 le4 hQ.arr;replace kN:=kN.mono le4;replace kB:=kB.mono le4;have hQ:=hQ.mono le4;refine xP 0 rfl ?_;intro I5 le5 hl5;have kP:SL I5 (vS p2 raws c1) p.Parts:=⟨cs1,hl5,by
   rw [mW hQ.raw];exact (hQ.lp.done kN kB).mono fun _ _=>Rp.mono le5⟩
 have e0:vS p2 raws c1=vS p2 p.Parts c1:=by simp only [vS,hQ.lp.2.1]
 rw [e0] at kP ⊢;clear e0 hl5 hl4 hl3 hl2 hQ;replace kA:=kA.mono le5;refine zX<|yI<|yG<|bE N fun t34 ht N=>yU (fun I' hs' m'=>∃ (o:Bool),t34=o∧I5.le I'∧hs'=[hB b1 (cProg p p1 c p2 c1),hB b zTwo]∧m'=[(2,vP b 0),(5,vP b1 0),(34,.bool o)]) ?_ ?_
 · refine zQ<|yD 3 [] [(29,.bool (text.l == ([]:List UInt8)))] ?_;cases hc2:(text.l == ([]:List UInt8)) with
   | true =>
    have hM0:=zP hc2 ht;exact yC [] [(34,vY)]<|yT [(2,vP b 0),(5,vP b1 0),(34,vY)]<|zV ⟨_,(zC hM0).symm,Imm.le.refl _,rfl,rfl⟩
   | false =>
    have hM0:=zL hc2 ht;obtain ⟨z,hz,hM0⟩:=zB hM0;refine yD 4 [0] [(30,vA (cProg p p1 c p2 c1))]<|xT (zAp p _ hz kA kP) ?_;rintro I6 hs2 v2 k2 le6 - ⟨v0,rfl,rfl,rfl⟩ -;exact yC [] [(34,.bool (!(z.l == text.l)))]<|yT [(2,vP b 0),(5,vP b1 0),(34,.bool (!(z.l == text.l)))]<|zV (ct hM0 le6)
 rintro I6 hs2 m2 ⟨o,rfl,le6,rfl,rfl⟩;replace kA:=kA.mono le6;replace kP:=kP.mono le6;refine zM<|yL N ?_ ?_
 · intro hc2 N;refine yK<|yD 1 [] [(35,vA zTwo)]<|xE 1 zTwo [hB b1 (cProg p p1 c p2 c1),hB b zTwo] rfl rfl rfl rfl<|yC [] [(3,vF)]<|xG<|zH ?_;obtain rfl:=zC N;exact xC ⟨_,_,(.cell 1 rfl rfl (by kernel_rfl) (.tmp rfl ResV.nil)),zR,⟨_,_,rfl,rfl,⟨_,rfl,(wZ ⟨_,_,rfl,(SL.nil _),(SL.nil _)⟩)⟩,rfl⟩⟩
 intro hc2 N;refine zW<|xD<|yD 1 [0] [(36,vA (cProg p p1 c p2 c1))]<|xE 1 (cProg p p1 c p2 c1) [hB b1 (cProg p p1 c p2 c1),hB b (cProg p p1 c p2 c1)] rfl rfl rfl rfl<|yC [] [(3,vY)]<|zM<|yX ?_;obtain rfl:=zC N;exact xC ⟨_,_,(.cell 1 rfl rfl (by kernel_rfl) (.tmp rfl ResV.nil)),zR,⟨_,_,rfl,rfl,⟨_,rfl,(wZ ⟨_,_,rfl,kA,kP⟩)⟩,rfl⟩⟩
def zDk (r:(List zE)):KT:=fun kk I' hs' v=>
  ∃ v0,hs'=[]∧v=tupV [v0]∧SL I' v0 r
def nM :Option ((List zE)):=do
 pure ([(zE.mk (⟨[65]⟩:Str) ([6]:List Int)),(zE.mk (⟨[66]⟩:Str) ([4,5]:List Int)),(zE.mk (⟨[67]⟩:Str) ([3]:List Int))]:List zE)
theorem gG:∀ r,nM =some r→∀ {I:Imm} ,RT 85 [] I [] (zDk  r):=by
 intro  r N I;unfold nM at N;refine zY (fn:=Tryz.f85) (c:=(bodyOf Tryz.f85)) Tryz.func85 rfl rfl ?_;rintro B - -;refine yF []<|xD<|xY [vI 6] Int ?_;intro b hb;have h:RL I [vI 6] ([6]:List Int):=⟨[vI 6],_,rfl,rfl,rfl,rfl⟩;refine yD 2 [] [(2,vA [vT ([65]),vS (some ⟨b,0,none⟩) ([6]:List Int) 1])]<|xY [vI 4,vI 5] Int ?_;intro b1 hb1;have h1:RL I [vI 4,vI 5] ([4,5]:List Int):=⟨[vI 4],_,rfl,rfl,rfl,⟨[vI 5],_,rfl,rfl,rfl,rfl⟩⟩;refine yD 4 [] [(4,vA [vT ([66]),vS (some ⟨b1,0,none⟩) ([4,5]:List Int) 2])]<|xY [vI 3] Int ?_;intro b2 hb2;have h2:RL I [vI 3] ([3]:List Int):=⟨[vI 3],_,rfl,rfl,rfl,rfl⟩;refine yD 6 [] [(6,vA [vT ([67]),vS (some ⟨b2,0,none⟩) ([3]:List Int) 1])]<|yJ 2 rfl ?_;intro I0 le hl0;have h3:=SL.of_frozen hl0 le h;have h1:=iM le h1;have h2:=iM le h2;refine yJ 1 rfl ?_;intro I01 le1 hl01;have h4:=SL.of_frozen hl01 le1 h1;have h3:=h3.mono le1;have h2:=iM le1 h2;refine yJ 0 rfl ?_;intro I02 le2 hl02;have h5:=SL.of_frozen hl02 le2 h2;have h3:=h3.mono le2;have h4:=h4.mono le2;refine xY [vT ([65]),vS (some ⟨b,0,none⟩) ([6]:List Int) 1,vT ([66]),vS (some ⟨b1,0,none⟩) ([4,5]:List Int) 2,vT ([67]),vS (some ⟨b2,0,none⟩) ([3]:List Int) 1] zE ?_;intro b3 hb3;have h6:RL I02 [vT ([65]),vS (some ⟨b,0,none⟩) ([6]:List Int) 1,vT ([66]),vS (some ⟨b1,0,none⟩) ([4,5]:List Int) 2,vT ([67]),vS (some ⟨b2,0,none⟩) ([3]:List Int) 1] ([(zE.mk (⟨[65]⟩:Str) ([6]:List Int)),(zE.mk (⟨[66]⟩:Str) ([4,5]:List Int)),(zE.mk (⟨[67]⟩:Str) ([3]:List Int))]:List zE):=⟨[vT ([65]),vS (some ⟨b,0,none⟩) ([6]:List Int) 1],_,rfl,rfl,(qG ⟨_,rfl,h3⟩),⟨[vT ([66]),vS (some ⟨b1,0,none⟩) ([4,5]:List Int) 2],_,rfl,rfl,(qG ⟨_,rfl,h4⟩),⟨[vT ([67]),vS (some ⟨b2,0,none⟩) ([3]:List Int) 1],_,rfl,rfl,(qG ⟨_,rfl,h5⟩),rfl⟩⟩⟩;refine yC [] [(0,vS (some ⟨b3,0,none⟩) ([(zE.mk (⟨[65]⟩:Str) ([6]:List Int)),(zE.mk (⟨[66]⟩:Str) ([4,5]:List Int)),(zE.mk (⟨[67]⟩:Str) ([3]:List Int))]:List zE) 3)]<|xG<|xP 0 rfl ?_;intro I03 le3 hl03;have h7:=SL.of_frozen hl03 le3 h6;obtain rfl:=zC N;exact xC ⟨_,_,(.tmp rfl ResV.nil),zR,⟨_,rfl,rfl,h7⟩⟩
def sK (a0:zA) (x:Int) (b:zA) (y:Int) (i:Int) (Coefs:List Int):Option (List Int):=do
 if (decide (i < 4)) then
  let x1←idx a0.Coefs i
  let x2←idx b.Coefs i
  let l←app 8 Coefs ([(W ((W (x * x1)) + (W (y * x2))))]:List Int)
  sK a0 x b y (W (i + 1)) l
 else
  pure (id Coefs)
 partial_fixpoint
theorem zBN (a0:zA) (x:Int) (b:zA) (y:Int):∀ (i:Int) (Coefs:List Int) (o:List Int),sK a0 x b y i Coefs=some o→∀ {B}{I0 I:Imm}{Q p c p1 c1}{b1:Nat}{b2:Nat}{b3:Nat}{b4:Nat}{p2 c2 cs},I0.le I→(S4 I p1 b.Coefs c1)→(S4 I p a0.Coefs c)→(RL I cs Coefs)→NG Q→NO Q→(∀ (I':Imm) (Coefs1:List Int) (p3:Option Addr) (c3:Nat) (cs1:List Value),o=Coefs1→I0.le I'→(RL I' cs1 Coefs1)→T 46 B Q (.exit 0) I' [hO Int (vS p3 Coefs1 c3) cs1,hB b4 [vS p3 Coefs1 c3,vI (W ((W (x * a0.Const)) + (W (y * b.Const))))],hB b3 [z0,vI 0]] [(8,vP b3 0),(9,vP b4 0)])→J Tryz.prog 46 B (nav (bodyOf Tryz.f196) [1,1,0,1,0]) Q I [hO Int (vS p2 Coefs c2) cs,hB b4 [vS p2 Coefs c2,vI (W ((W (x * a0.Const)) + (W (y * b.Const))))],hB b3 [z0,vI 0],hB b2 (cAff b p1 c1),hB b1 (cAff a0 p c)] [(1,vI x),(3,vI y),(4,vP b1 0),(6,vP b2 0),(8,vP b3 0),(9,vP b4 0),(10,vI i)]:=by
 refine sK.partial_correctness a0 x b y _ fun self ih i Coefs o N B I0 I Q p c p1 c1 b1 b2 b3 b4 p2 c2 cs H h1 h h3 hg ho hx=>yZ hg ho<|yG<|yF [(22,.bool (decide (i < 4)))]<|zM<|yL N ?_ ?_
 · intro hc N;refine zW<|yI<|yP ?_;obtain ⟨x1,hy,N⟩:=zB N;obtain ⟨x2,hy1,N⟩:=zB N;obtain ⟨l,hy2,N⟩:=zB N;refine wA [.p (vP b4 0) [],.p (vS p2 Coefs c2) [0],.p (vI x) [],.p (vP b1 0) [],.p (vS p a0.Coefs c) [3],.p (vI i) [],.x (fun I' v hx=>∃ ad,v=.pointer (some ad)∧hx=[]∧(At I' ad [vI x1])),.q (vI x1),.p (vI (W (x * x1))) [],.p (vI y) [],.p (vP b2 0) [],.p (vS p1 b.Coefs c1) [2],.p (vI i) [],.x (fun I' v hx=>∃ ad1,v=.pointer (some ad1)∧hx=[]∧(At I' ad1 [vI x2])),.q (vI x2),.p (vI (W (y * x2))) [],.p (vI (W ((W (x * x1)) + (W (y * x2))))) [],.x (fun I' v hx=>∃ b5,v=vS (some ⟨b5,0,none⟩) ([(W ((W (x * x1)) + (W (y * x2))))]:List Int) 1∧hx=[]∧(SL I' (vS (some ⟨b5,0,none⟩) ([(W ((W (x * x1)) + (W (y * x2))))]:List Int) 1) ([(W ((W (x * x1)) + (W (y * x2))))]:List Int))),.x (fun I' v hx=>∃ p4 c4 cs2,v=vS p4 l c4∧hx=[hO Int (vS p4 l c4) cs2]∧(RL I' cs2 l))] [[],[(0,false)],[],[],[(3,false)],[],[(4,false),(5,false)],[(6,false)],[(2,false),(7,false)],[],[],[(10,false)],[],[(11,false),(12,false)],[(13,false)],[(9,false),(14,false)],[(8,false),(15,false)],[(16,false)],[(1,false),(17,false),(21,true)]] [hB b4 [vS p2 Coefs c2,vI (W ((W (x * a0.Const)) + (W (y * b.Const))))],hB b3 [z0,vI 0],hB b2 (cAff b p1 c1),hB b1 (cAff a0 p c)] [[hO Int (vS p2 Coefs c2) cs]] [(18,true)] (yB [1,2,3,4,0]) ?_ ?_
   · refine Op<|Op<|Op<|Op<|Op<|Op<|Ox ?_<|Oq ?_<|Op<|Op<|Op<|Op<|Op<|Ox ?_<|Oq ?_<|Op<|Op<|Ox ?_<|Ox ?_<|On
     · intro I1 hf le1;refine yM [(29,vS p a0.Coefs c),(30,vI i)] ?_;have h:=h.mono le1;refine xS rfl rfl h hy ?_;intro ad ccs hat hrep;obtain rfl:=hrep;exact yO [] iR ⟨_,rfl,rfl,hat⟩
     · intro I1 hf le1;refine zF ?_;rintro _ _ ⟨ad,rfl,rfl,hat⟩;exact yM [(31,.pointer (some ad))]<|xM 0 hat [vI x1] (vI x1) rfl<|yS iR
     · intro I1 hf le1;refine yM [(36,vS p1 b.Coefs c1),(37,vI i)] ?_;have h1:=h1.mono le1;refine xS rfl rfl h1 hy1 ?_;intro ad1 ccs1 hat1 hrep1;obtain rfl:=hrep1;exact yO [] iR ⟨_,rfl,rfl,hat1⟩
     · intro I1 hf le1;refine zF ?_;rintro _ _ ⟨ad1,rfl,rfl,hat1⟩;exact yM [(38,.pointer (some ad1))]<|xM 0 hat1 [vI x2] (vI x2) rfl<|yS iR
     · intro I1 hf le1;refine yM [(41,vI (W ((W (x * x1)) + (W (y * x2)))))] ?_;have H:=iS I1;refine xY [vI (W ((W (x * x1)) + (W (y * x2))))] Int ?_;intro b5 hb4;have h5:RL I1 [vI (W ((W (x * x1)) + (W (y * x2))))] ([(W ((W (x * x1)) + (W (y * x2))))]:List Int):=⟨[vI (W ((W (x * x1)) + (W (y * x2))))],_,rfl,rfl,rfl,rfl⟩;refine yJ 0 rfl ?_;intro I0 le hl0;have h6:=SL.of_frozen hl0 le h5;have H:=H.trans le;exact yO [] H ⟨_,rfl,rfl,h6⟩
     intro I1 hf le1;refine zF ?_;rintro _ _ ⟨rfl,rfl⟩;refine zF ?_;rintro _ _ ⟨b5,rfl,rfl,h6⟩;refine zF ?_;rintro _ _ rfl;refine yM [(26,vS p2 Coefs c2),(42,vS (some ⟨b5,0,none⟩) ([(W ((W (x * x1)) + (W (y * x2))))]:List Int) 1)] ?_;have h3:=iM le1 h3;obtain ⟨ccs2,k0,k01⟩:=h6;have h6:SL I1 (vS (some ⟨b5,0,none⟩) ([(W ((W (x * x1)) + (W (y * x2))))]:List Int) 1) ([(W ((W (x * x1)) + (W (y * x2))))]:List Int):=⟨_,k0,k01⟩;exact pG 3 1 0 rfl rfl rfl h3 (.inl k0) k01 hy2 fun p4 c4 cs2 h7=>uC (hs':=(hO Int (vS p4 l c4) cs2::hB b4 [vS p2 Coefs c2,vI (W ((W (x * a0.Const)) + (W (y * b.Const))))]::hB b3 [z0,vI 0]::hB b2 (cAff b p1 c1)::hB b1 (cAff a0 p c)::hf)) rfl<|yO [hO Int (vS p4 l c4) cs2] iR ⟨_,_,_,rfl,rfl,h7⟩
   intro I01 le1;refine zF ?_;rintro _ _ ⟨p4,c4,cs2,rfl,rfl,h7⟩;refine yM [(1,vI x),(3,vI y),(4,vP b1 0),(6,vP b2 0),(8,vP b3 0),(9,vP b4 0),(10,vI i),(43,vS p4 l c4)] ?_;have h1:=h1.mono le1;have h:=h.mono le1;have H:=H.trans le1;exact yD 20 [] [(44,vP b4 0)]<|xE 1 [vS p4 l c4,vI (W ((W (x * a0.Const)) + (W (y * b.Const))))] [hO Int (vS p4 l c4) cs2,hB b4 [vS p4 l c4,vI (W ((W (x * a0.Const)) + (W (y * b.Const))))],hB b3 [z0,vI 0],hB b2 (cAff b p1 c1),hB b1 (cAff a0 p c)] rfl rfl rfl rfl<|yH rfl<|zT<|zM<|zQ<|yC [] [(10,vI (W (i + 1)))]<|yY<|vE [(1,vI x),(3,vI y),(4,vP b1 0),(6,vP b2 0),(8,vP b3 0),(9,vP b4 0),(10,vI (W (i + 1)))]<|ih (W (i + 1)) l _ N H h1 h h7 hg ho hx
 intro hc N;exact vW<|xU (yA [0,1,2] rfl (by decide))<|yT [(8,vP b3 0),(9,vP b4 0)]<|hx _ _ _ _ _ (zC N).symm H h3
def oI (a0:zA) (x:Int) (b:zA) (y:Int):Option (zA):=do
 let Coefs1←sK a0 x b y 0 ([]:List Int)
 pure (zA.mk Coefs1 (W ((W (x * a0.Const)) + (W (y * b.Const)))))
theorem dH:∀ a0 x b y r,oI a0 x b y=some r→∀ {I:Imm}{p c p1 c1},(S4 I p a0.Coefs c)→(S4 I p1 b.Coefs c1)→RT 196 [vA (cAff a0 p c),vI x,vA (cAff b p1 c1),vI y] I [] (mL  r):=by
 intro a0 x b y r N I p c p1 c1 h h1;unfold oI at N;refine zY (fn:=Tryz.f196) (c:=(bodyOf Tryz.f196)) Tryz.func196 rfl rfl ?_;rintro B - -;refine yK<|uD (cAff a0 p c) ?_;intro b1 hb;refine uD (cAff b p1 c1) ?_;intro b2 hb1;refine wR [z0,vI 0] ?_;intro b3 hb2;refine yH rfl<|xD<|yD 10 [2,1] [(20,vA [z0,vI (W ((W (x * a0.Const)) + (W (y * b.Const))))])]<|wR [z0,vI 0] ?_;intro b4 hb3;refine xE 0 [z0,vI (W ((W (x * a0.Const)) + (W (y * b.Const))))] [hB b4 [z0,vI (W ((W (x * a0.Const)) + (W (y * b.Const))))],hB b3 [z0,vI 0],hB b2 (cAff b p1 c1),hB b1 (cAff a0 p c)] rfl rfl rfl rfl<|yH rfl<|yI<|yF [(10,vI 0)]<|wO<|vE [(1,vI x),(3,vI y),(4,vP b1 0),(6,vP b2 0),(8,vP b3 0),(9,vP b4 0),(10,vI 0)]<|pK (vM (Rp.sz Int)) ?_;have h2:RL I [] ([]:List Int):=RepL.nil;obtain ⟨o0,ho0,hMl⟩:=zB N;refine zBN a0 x b y 0 ([]:List Int) o0 ho0 iR h1 h h2 (fun _ _ _ h=>h) (fun _ _ h=>h) ?_;intro I02 Coefs1 p3 c3 cs1 heq le2 h4;subst o0;refine zX<|xD<|yD 1 [1] [(45,vA [vS p3 Coefs1 c3,vI (W ((W (x * a0.Const)) + (W (y * b.Const))))])]<|xE 2 [vS p3 Coefs1 c3,vI (W ((W (x * a0.Const)) + (W (y * b.Const))))] [hO Int (vS p3 Coefs1 c3) cs1,hB b4 [vS p3 Coefs1 c3,vI (W ((W (x * a0.Const)) + (W (y * b.Const))))],hB b3 [vS p3 Coefs1 c3,vI (W ((W (x * a0.Const)) + (W (y * b.Const))))]] rfl rfl rfl rfl<|yH rfl<|xG<|xP 0 rfl ?_;intro I03 le3 hl01;have h8:=SL.of_frozen hl01 le3 h4;obtain rfl:=zC hMl;exact xC ⟨_,_,(.cell 1 rfl rfl (by kernel_rfl) ResV.nil),zR,⟨_,rfl,rfl,⟨_,rfl,(yQ ⟨_,rfl,h8⟩)⟩⟩⟩
def zDl (b0:Nat) (r:zD×zO):KT:=fun kk I' hs' v=>
  ∃ v0 k0,hs'=[.blk b0 ⟨k0⟩]∧v=tupV [v0]∧(∃ cs,v0=.agg ⟨cs⟩∧Rp.rep I' cs r.1)∧Rp.rep I' k0 r.2
def jJ (r0:zO) (depth:Int):Option (zD×zO):=do
 let (y1,y2)←yW r0 ([0,0,1,0,(-1)]:List Int)
 let y3←wP y1
 let (y5,y6)←yW y2 ([3,4,2,3,1]:List Int)
 let y7←wP y5
 let (t23,x)←(do
   if (decide (depth > 0)) then
    let (y9,y10)←yV y6 4
    pure ((y9 == 0),y10)
   else
    pure (false,y6)
     : Option (Bool×zO))
 let (x1,x2,x3)←(do
   if t23 then
    let (y12,y13)←yV x depth
    let (y15,y16)←yV y13 2
    let (x4,x5)←(do
      if (y15 == 0) then
       let y17←oA y12
       pure (y17,(zA.mk y7.Coefs y7.Const))
      else
       let y18←oA y12
       let y19←wP 1
       let y20←oI y18 1 y19 1
       pure ((zA.mk y3.Coefs y3.Const),y20)
        : Option (zA×zA))
    pure (x4,x5,y16)
   else
    pure ((zA.mk y3.Coefs y3.Const),(zA.mk y7.Coefs y7.Const),x)
     : Option (zA×zA×zO))
 let (y22,y23)←yV x3 12
 let (Lo,Hi,x6)←(do
   if (y22 == 0) then
    let (y25,y26)←yW y23 ([3,2,4]:List Int)
    let y27←wP y25
    let l←app 32 ([x2]:List zA) ([y27]:List zA)
    pure (([x1]:List zA),l,y26)
   else
    let (Lo1,x7)←(do
      if (y22 == 1) then
       let (y29,y30)←yW y23 ([0,1]:List Int)
       let y31←wP y29
       let l1←app 32 ([x1]:List zA) ([y31]:List zA)
       pure (l1,y30)
      else
       pure (([x1]:List zA),y23)
        : Option (List zA×zO))
    pure (Lo1,([x2]:List zA),x7)
     : Option (List zA×List zA×zO))
 pure ((zD.mk Lo Hi),x6)
theorem zFG:∀ r0 depth r,jJ r0 depth=some r→∀ {I:Imm}{r01:Nat}{p c},(S4 I p r0.b c)→RT 171 [vP r01 0,vI depth] I [hB r01 (cRd r0 p c)] (zDl r01 r):=by
 intro r0 depth r N I r01 p c h;unfold jJ at N;refine zY (fn:=Tryz.f171) (c:=(bodyOf Tryz.f171)) Tryz.func171 rfl rfl ?_;rintro B - -;have H:=iS I;refine yK<|wR zTwo ?_;intro b hb;refine yH rfl<|xD<|yD 1 [] [(9,vP r01 0)]<|xY [vI 0,vI 0,vI 1,vI 0,vI (-1)] Int ?_;intro b1 hb1;have h1:RL I [vI 0,vI 0,vI 1,vI 0,vI (-1)] ([0,0,1,0,(-1)]:List Int):=⟨[vI 0],_,rfl,rfl,rfl,⟨[vI 0],_,rfl,rfl,rfl,⟨[vI 1],_,rfl,rfl,rfl,⟨[vI 0],_,rfl,rfl,rfl,⟨[vI (-1)],_,rfl,rfl,rfl,rfl⟩⟩⟩⟩⟩;refine yJ 0 rfl ?_;intro I0 le hl0;have h2:=SL.of_frozen hl0 le h1;have h:=h.mono le;have H:=H.trans le;refine sU (yB [1,0] (hs':=[hB r01 (cRd r0 p c),hB b zTwo])) ?_;obtain ⟨⟨y1,y2⟩,hy,N⟩:=zB N;refine tM [hB r01 (cRd r0 p c)] [hB b zTwo] (xI r0 ([0,0,1,0,(-1)]:List Int) _ hy h h2) ?_;rintro I01 hs2 v2 k2 le1 - ⟨v0,kk,rfl,rfl,rfl,h4⟩ -;have H:=H.trans le1;obtain ⟨p1,c1,rfl,h5⟩:=yE h4;obtain ⟨y3,hy1,N⟩:=zB N;refine xT (uF y1 _ hy1 ) ?_;rintro I02 hs2 v2 k2 le2 - ⟨p2,c2,cs,rfl,rfl,h6⟩ -;have h5:=h5.mono le2;have H:=H.trans le2;refine wR [z0,vI 0] ?_;intro b2 hb2;refine xE 0 (cAff y3 p2 c2) [hB b2 (cAff y3 p2 c2),hO Int (vS p2 y3.Coefs c2) cs,hB r01 (cRd y2 p1 c1),hB b zTwo] rfl rfl rfl rfl<|yH rfl<|xD<|yD 1 [] [(13,vP r01 0)]<|xY [vI 3,vI 4,vI 2,vI 3,vI 1] Int ?_;intro b3 hb3;have h7:RL I02 [vI 3,vI 4,vI 2,vI 3,vI 1] ([3,4,2,3,1]:List Int):=⟨[vI 3],_,rfl,rfl,rfl,⟨[vI 4],_,rfl,rfl,rfl,⟨[vI 2],_,rfl,rfl,rfl,⟨[vI 3],_,rfl,rfl,rfl,⟨[vI 1],_,rfl,rfl,rfl,rfl⟩⟩⟩⟩⟩;refine yJ 0 rfl ?_;intro I03 le3 hl01;have h8:=SL.of_frozen hl01 le3 h7;have h6:=iM le3 h6;have h5:=h5.mono le3;have H:=H.trans le3;refine sU (yB [2,0,1,3] (hs':=[hB r01 (cRd y2 p1 c1),hB b2 (cAff y3 p2 c2),hO Int (vS p2 y3.Coefs c2) cs,hB b zTwo])) ?_;obtain ⟨⟨y5,y6⟩,hy2,N⟩:=zB N;refine tM [hB r01 (cRd y2 p1 c1)] [hB b2 (cAff y3 p2 c2),hO Int (vS p2 y3.Coefs c2) cs,hB b zTwo] (xI y2 ([3,4,2,3,1]:List Int) _ hy2 h5 h8) ?_;rintro I04 hs2 v2 k2 le4 - ⟨v02,kk1,rfl,rfl,rfl,h10⟩ -;have h6:=iM le4 h6;have H:=H.trans le4;obtain ⟨p3,c3,rfl,h11⟩:=yE h10;obtain ⟨y7,hy3,N⟩:=zB N;refine xT (uF y5 _ hy3 ) ?_;rintro I05 hs2 v2 k2 le5 - ⟨p4,c4,cs1,rfl,rfl,h12⟩ -;have h11:=h11.mono le5;have h6:=iM le5 h6;have H:=H.trans le5;refine wR [z0,vI 0] ?_;intro b4 hb4;refine xE 0 (cAff y7 p4 c4) [hB b4 (cAff y7 p4 c4),hO Int (vS p4 y7.Coefs c4) cs1,hB r01 (cRd y6 p3 c3),hB b2 (cAff y3 p2 c2),hO Int (vS p2 y3.Coefs c2) cs,hB b zTwo] rfl rfl rfl rfl<|yH rfl<|yI<|yG ?_;obtain ⟨o0,ho0,hMc⟩:=zB N;refine yU (fun I' hs' m'=>∃ (t23:Bool) (x:zO) (p5:Option Addr) (c5:Nat),o0=(t23,x)∧I05.le I'∧(S4 I' p5 x.b c5)∧hs'=[hB b4 (cAff y7 p4 c4),hO Int (vS p4 y7.Coefs c4) cs1,hB r01 (cRd x p5 c5),hB b2 (cAff y3 p2 c2),hO Int (vS p2 y3.Coefs c2) cs,hB b zTwo]∧m'=[(0,vP r01 0),(1,vI depth),(4,vP b 0),(5,vP b2 0),(6,vP b4 0),(23,.bool t23)]) ?_ ?_
 · have H:=iS I05;refine zQ<|yD 3 [] [(19,.bool (decide (depth > 0)))] ?_;cases hc:(decide (depth > 0)) with
   | true =>
    have hM0:=zP hc ho0
    try rw [hc]
    refine yD 4 [] [(20,vP r01 0)]<|sU (yB [2,0,1,3,4,5] (hs':=[hB r01 (cRd y6 p3 c3),hB b4 (cAff y7 p4 c4),hO Int (vS p4 y7.Coefs c4) cs1,hB b2 (cAff y3 p2 c2),hO Int (vS p2 y3.Coefs c2) cs,hB b zTwo])) ?_;obtain ⟨⟨y9,y10⟩,hy4,N⟩:=zB hM0;refine tM [hB r01 (cRd y6 p3 c3)] [hB b4 (cAff y7 p4 c4),hO Int (vS p4 y7.Coefs c4) cs1,hB b2 (cAff y3 p2 c2),hO Int (vS p2 y3.Coefs c2) cs,hB b zTwo] (xH y6 4 _ hy4 h11) ?_;rintro I07 hs2 v2 k2 le6 - ⟨v04,kk2,rfl,rfl,rfl,h15⟩ -;have H:=H.trans le6;obtain ⟨p6,c6,rfl,h16⟩:=yE h15;exact yC [] [(23,.bool (y9 == 0))]<|xU (yA [1,2,0,3,4,5] rfl (by decide))<|yT [(0,vP r01 0),(1,vI depth),(4,vP b 0),(5,vP b2 0),(6,vP b4 0),(23,.bool (y9 == 0))]<|zV ⟨_,_,_,_,(zC N).symm,H,h16,rfl,rfl⟩
   | false =>
    have hM01:=zL hc ho0
    try rw [hc]
    exact yC [] [(23,vF)]<|yT [(0,vP r01 0),(1,vI depth),(4,vP b 0),(5,vP b2 0),(6,vP b4 0),(23,vF)]<|zV ⟨_,_,_,_,(zC hM01).symm,H,h11,rfl,rfl⟩
 rintro I06 hs2 m2 ⟨t23,x,p5,c5,heq,le7,h13,rfl,rfl⟩;subst o0;have h12:=iM le7 h12;have h6:=iM le7 h6;have H:=H.trans le7;refine zM<|pL 4 rfl ?_;intro I08 le8 hl02;have h17:=SL.of_frozen hl02 le8 h6;have h12:=iM le8 h12;have h13:=h13.mono le8;have H:=H.trans le8;refine pL 1 rfl ?_;intro I09 le9 hl03;have h18:=SL.of_frozen hl03 le9 h12;have h13:=h13.mono le9;have h17:=h17.mono le9;have H:=H.trans le9;obtain ⟨o01,ho01,hMc1⟩:=zB hMc;refine yU (fun I' hs' m'=>∃ (x1:zA) (x2:zA) (x3:zO) (p7:Option Addr) (c7:Nat) (p8:Option Addr) (c8:Nat) (p9:Option Addr) (c9:Nat),o01=(x1,x2,x3)∧I09.le I'∧(S4 I' p7 x1.Coefs c7)∧(S4 I' p8 x2.Coefs c8)∧(S4 I' p9 x3.b c9)∧hs'=[hB b4 (cAff x2 p8 c8),hB r01 (cRd x3 p9 c9),hB b2 (cAff x1 p7 c7),hB b zTwo]∧m'=[(0,vP r01 0),(4,vP b 0),(5,vP b2 0),(6,vP b4 0)]) ?_ ?_
 · have H:=iS I09;refine yL ho01 ?_ ?_
   · intro hc1 N;refine yK<|yD 2 [] [(24,vP r01 0),(25,vI depth)]<|sU (yB [1,0,2,3] (hs':=[hB r01 (cRd x p5 c5),hB b4 (cAff y7 p4 c4),hB b2 (cAff y3 p2 c2),hB b zTwo])) ?_;obtain ⟨⟨y12,y13⟩,hy5,N⟩:=zB N;refine tM [hB r01 (cRd x p5 c5)] [hB b4 (cAff y7 p4 c4),hB b2 (cAff y3 p2 c2),hB b zTwo] (xH x depth _ hy5 h13) ?_;rintro I011 hs2 v2 k2 le10 - ⟨v06,kk3,rfl,rfl,rfl,h23⟩ -;have h18:=h18.mono le10;have h17:=h17.mono le10;have H:=H.trans le10;obtain ⟨p10,c10,rfl,h24⟩:=yE h23;refine yC [] [(7,vI y12)]<|xD<|yD 1 [] [(27,vP r01 0)] ?_;obtain ⟨⟨y15,y16⟩,hy6,N⟩:=zB N;refine tM [hB r01 (cRd y13 p10 c10)] [hB b4 (cAff y7 p4 c4),hB b2 (cAff y3 p2 c2),hB b zTwo] (xH y13 2 _ hy6 h24) ?_;rintro I012 hs2 v2 k2 le11 - ⟨v08,kk4,rfl,rfl,rfl,h26⟩ -;have h18:=h18.mono le11;have h17:=h17.mono le11;have H:=H.trans le11;obtain ⟨p11,c11,rfl,h27⟩:=yE h26;refine yC [] [(29,.bool (y15 == 0))]<|zM ?_;obtain ⟨o02,ho02,hMc2⟩:=zB N;refine yU (fun I' hs' m'=>∃ (x4:zA) (x5:zA) (p12:Option Addr) (c12:Nat) (p13:Option Addr) (c13:Nat),o02=(x4,x5)∧I012.le I'∧(S4 I' p12 x4.Coefs c12)∧(S4 I' p13 x5.Coefs c13)∧hs'=[hB r01 (cRd y16 p11 c11),hB b4 (cAff x5 p13 c13),hB b2 (cAff x4 p12 c12),hB b zTwo]∧m'=[(0,vP r01 0),(4,vP b 0),(5,vP b2 0),(6,vP b4 0)]) ?_ ?_
     · have H:=iS I012;refine yL ho02 ?_ ?_
       · intro hc2 N;refine zQ<|yD 1 [] [(30,vI y12)]<|bE N fun y17 hy7 N=>xT (jE y12 _ hy7 ) ?_;rintro I014 hs2 v2 k2 le12 - ⟨v010,rfl,rfl,⟨cs2,rfl,h30⟩⟩ -;have h18:=h18.mono le12;have H:=H.trans le12;obtain ⟨p14,c14,rfl,h31⟩:=yN h30;exact xE 2 (cAff y17 p14 c14) [hB r01 (cRd y16 p11 c11),hB b4 (cAff y7 p4 c4),hB b2 (cAff y17 p14 c14),hB b zTwo] rfl rfl rfl rfl<|yH rfl<|yT [(0,vP r01 0),(4,vP b 0),(5,vP b2 0),(6,vP b4 0)]<|zV ⟨_,_,_,_,_,_,(zC N).symm,H,h31,h18,rfl,rfl⟩
       intro hc2 N;refine zQ<|yD 1 [] [(32,vI y12)]<|bE N fun y18 hy8 N=>xT (jE y12 _ hy8 ) ?_;rintro I015 hs2 v2 k2 le13 - ⟨v012,rfl,rfl,⟨cs3,rfl,h32⟩⟩ -;have h17:=h17.mono le13;have H:=H.trans le13;obtain ⟨p15,c15,rfl,h33⟩:=yN h32;obtain ⟨y19,hy9,N⟩:=zB N;refine xT (uF 1 _ hy9 ) ?_;rintro I016 hs2 v2 k2 le14 - ⟨p16,c16,cs4,rfl,rfl,h34⟩ -;have h33:=h33.mono le14;have h17:=h17.mono le14;have H:=H.trans le14;refine yJ 0 rfl ?_;intro I017 le15 hl04;have h35:=SL.of_frozen hl04 le15 h34;have h33:=h33.mono le15;have h17:=h17.mono le15;have H:=H.trans le15;obtain ⟨y20,hy10,N⟩:=zB N;refine xT (dH y18 1 y19 1 _ hy10 h33 h35) ?_;rintro I018 hs2 v2 k2 le16 - ⟨v014,rfl,rfl,⟨cs5,rfl,h36⟩⟩ -;have h17:=h17.mono le16;have H:=H.trans le16;obtain ⟨p17,c17,rfl,h37⟩:=yN h36;exact xE 1 (cAff y20 p17 c17) [hB r01 (cRd y16 p11 c11),hB b4 (cAff y20 p17 c17),hB b2 (cAff y3 p2 c2),hB b zTwo] rfl rfl rfl rfl<|yH rfl<|yT [(0,vP r01 0),(4,vP b 0),(5,vP b2 0),(6,vP b4 0)]<|zV ⟨_,_,_,_,_,_,(zC N).symm,H,h17,h37,rfl,rfl⟩
     rintro I013 hs2 m2 ⟨x4,x5,p12,c12,p13,c13,heq1,le17,h28,h29,rfl,rfl⟩;subst o02;have h27:=h27.mono le17;have H:=H.trans le17;exact xU (yA [1,0,2,3] rfl (by decide))<|yT [(0,vP r01 0),(4,vP b 0),(5,vP b2 0),(6,vP b4 0)]<|zV ⟨_,_,_,_,_,_,_,_,_,(zC hMc2).symm,H,h28,h29,h27,rfl,rfl⟩
   intro hc1 N;exact zW<|yT [(0,vP r01 0),(4,vP b 0),(5,vP b2 0),(6,vP b4 0)]<|zV ⟨_,_,_,_,_,_,_,_,_,(zC N).symm,H,h17,h18,h13,rfl,rfl⟩
 rintro I010 hs2 m2 ⟨x1,x2,x3,p7,c7,p8,c8,p9,c9,heq2,le18,h19,h20,h21,rfl,rfl⟩;subst o01;have H:=H.trans le18;refine xD<|yD 1 [2] [(36,vA (cAff x1 p7 c7))]<|xY (cAff x1 p7 c7) zA ?_;intro b5 hb5;have h38:RL I010 (cAff x1 p7 c7) ([x1]:List zA):=⟨(cAff x1 p7 c7),_,rfl,rfl,(yQ ⟨_,rfl,h19⟩),rfl⟩;refine yD 3 [1] [(38,vA (cAff x2 p8 c8))]<|xY (cAff x2 p8 c8) zA ?_;intro b6 hb6;have h39:RL I010 (cAff x2 p8 c8) ([x2]:List zA):=⟨(cAff x2 p8 c8),_,rfl,rfl,(yQ ⟨_,rfl,h20⟩),rfl⟩;refine yD 5 [] [(40,vA [vS (some ⟨b5,0,none⟩) ([x1]:List zA) 1,vS (some ⟨b6,0,none⟩) ([x2]:List zA) 1])]<|wR zTwo ?_;intro b7 hb7;refine xE 0 [vS (some ⟨b5,0,none⟩) ([x1]:List zA) 1,vS (some ⟨b6,0,none⟩) ([x2]:List zA) 1] [hB b7 [vS (some ⟨b5,0,none⟩) ([x1]:List zA) 1,vS (some ⟨b6,0,none⟩) ([x2]:List zA) 1],hO zA (vS (some ⟨b6,0,none⟩) ([x2]:List zA) 1) (cAff x2 p8 c8),hO zA (vS (some ⟨b5,0,none⟩) ([x1]:List zA) 1) (cAff x1 p7 c7),hB b4 (cAff x2 p8 c8),hB r01 (cRd x3 p9 c9),hB b2 (cAff x1 p7 c7),hB b zTwo] rfl rfl rfl rfl<|yH rfl<|yI<|yK<|yD 1 [] [(41,vP r01 0)]<|sU (yB [4,0,1,2,3,5,6] (hs':=[hB r01 (cRd x3 p9 c9),hB b7 [vS (some ⟨b5,0,none⟩) ([x1]:List zA) 1,vS (some ⟨b6,0,none⟩) ([x2]:List zA) 1],hO zA (vS (some ⟨b6,0,none⟩) ([x2]:List zA) 1) (cAff x2 p8 c8),hO zA (vS (some ⟨b5,0,none⟩) ([x1]:List zA) 1) (cAff x1 p7 c7),hB b4 (cAff x2 p8 c8),hB b2 (cAff x1 p7 c7),hB b zTwo])) ?_;obtain ⟨⟨y22,y23⟩,hy11,N⟩:=zB hMc1;refine tM [hB r01 (cRd x3 p9 c9)] [hB b7 [vS (some ⟨b5,0,none⟩) ([x1]:List zA) 1,vS (some ⟨b6,0,none⟩) ([x2]:List zA) 1],hO zA (vS (some ⟨b6,0,none⟩) ([x2]:List zA) 1) (cAff x2 p8 c8),hO zA (vS (some ⟨b5,0,none⟩) ([x1]:List zA) 1) (cAff x1 p7 c7),hB b4 (cAff x2 p8 c8),hB b2 (cAff x1 p7 c7),hB b zTwo] (xH x3 12 _ hy11 h21) ?_;rintro I019 hs2 v2 k2 le19 - ⟨v016,kk5,rfl,rfl,rfl,h41⟩ -;have h38:=iM le19 h38;have h39:=iM le19 h39;have H:=H.trans le19;obtain ⟨p18,c18,rfl,h42⟩:=yE h41;refine yH rfl<|wO<|yF [(43,.bool (y22 == 0))]<|zM<|pL 4 rfl ?_;intro I020 le20 hl05;have hat:At I020 ⟨b4,0,none⟩ (cAff x2 p8 c8):=At.of_blk hl05;have h42:=h42.mono le20;have h38:=iM le20 h38;have h39:=iM le20 h39;have H:=H.trans le20;refine pL 4 rfl ?_;intro I021 le21 hl06;have hat1:At I021 ⟨b2,0,none⟩ (cAff x1 p7 c7):=At.of_blk hl06;have h42:=h42.mono le21;have h38:=iM le21 h38;have h39:=iM le21 h39;have H:=H.trans le21;obtain ⟨o03,ho03,hMc3⟩:=zB N;refine yU (fun I' hs' m'=>∃ (Lo:List zA) (Hi:List zA) (x6:zO) (p19:Option Addr) (c19:Nat) (cs6:List Value) (p20:Option Addr) (c20:Nat) (cs7:List Value) (p21:Option Addr) (c21:Nat),o03=(Lo,Hi,x6)∧I021.le I'∧(RL I' cs6 Lo)∧(RL I' cs7 Hi)∧(S4 I' p21 x6.b c21)∧hs'=[hB r01 (cRd x6 p21 c21),hB b7 [vS p19 Lo c19,vS p20 Hi c20],hO zA (vS p20 Hi c20) cs7,hO zA (vS p19 Lo c19) cs6,hB b zTwo]∧m'=[(4,vP b 0),(8,vP b7 0)]) ?_ ?_
 · have H:=iS I021;refine yL ho03 ?_ ?_
   · intro hc3 N;obtain ⟨⟨y25,y26⟩,hy12,N⟩:=zB N;obtain ⟨y27,hy13,N⟩:=zB N;obtain ⟨l,hy14,N⟩:=zB N;refine wA [.p (vP b7 1) [],.p (vS (some ⟨b6,0,none⟩) ([x2]:List zA) 1) [0],.p (vP r01 0) [],.x (fun I' v hx=>∃ b8,v=vS (some ⟨b8,0,none⟩) ([3,2,4]:List Int) 3∧hx=[]∧(SL I' (vS (some ⟨b8,0,none⟩) ([3,2,4]:List Int) 3) ([3,2,4]:List Int))),.x (fun I' v hx=>∃ p22 c22,v=vI y25∧hx=[hB r01 (cRd y26 p22 c22)]∧(S4 I' p22 y26.b c22)),.x (fun I' v hx=>∃ p23 c23 cs8,v=vA (cAff y27 p23 c23)∧hx=[hO Int (vS p23 y27.Coefs c23) cs8]∧(RL I' cs8 y27.Coefs)),.x (fun I' v hx=>∃ b9,v=vS (some ⟨b9,0,none⟩) ([y27]:List zA) 1∧hx=[]∧(SL I' (vS (some ⟨b9,0,none⟩) ([y27]:List zA) 1) ([y27]:List zA))),.x (fun I' v hx=>∃ p24 c24 cs9,v=vS p24 l c24∧hx=[hO zA (vS p24 l c24) cs9]∧(RL I' cs9 l))] [[],[(0,false)],[],[],[(2,false),(3,false),(10,true)],[(4,false)],[(5,true)],[(1,false),(6,false),(11,true)]] [hB b7 [vS (some ⟨b5,0,none⟩) ([x1]:List zA) 1,vS (some ⟨b6,0,none⟩) ([x2]:List zA) 1],hO zA (vS (some ⟨b5,0,none⟩) ([x1]:List zA) 1) (cAff x1 p7 c7),hB b zTwo] [[hB r01 (cRd y23 p18 c18)],[hO zA (vS (some ⟨b6,0,none⟩) ([x2]:List zA) 1) (cAff x2 p8 c8)]] [(4,true),(7,true)] (yB [1,3,4,0,2]) ?_ ?_
     · refine Op<|Op<|Op<|Ox ?_<|Ox ?_<|Ox ?_<|Ox ?_<|Ox ?_<|On
       · intro I1 hf le1;refine yM [] ?_;have H:=iS I1;refine xY [vI 3,vI 2,vI 4] Int ?_;intro b8 hb8;have h46:RL I1 [vI 3,vI 2,vI 4] ([3,2,4]:List Int):=⟨[vI 3],_,rfl,rfl,rfl,⟨[vI 2],_,rfl,rfl,rfl,⟨[vI 4],_,rfl,rfl,rfl,rfl⟩⟩⟩;refine yJ 0 rfl ?_;intro I023 le22 hl07;have h47:=SL.of_frozen hl07 le22 h46;have H:=H.trans le22;exact yO [] H ⟨_,rfl,rfl,h47⟩
       · intro I1 hf le1;refine zF ?_;rintro _ _ ⟨rfl,rfl⟩;refine zF ?_;rintro _ _ ⟨b8,rfl,rfl,h47⟩;refine zF ?_;rintro _ _ rfl;refine yM [(47,vP r01 0),(48,vS (some ⟨b8,0,none⟩) ([3,2,4]:List Int) 3)] ?_;have H:=iS I1;have h42:=h42.mono le1;refine tM [hB r01 (cRd y23 p18 c18)] (hB b7 [vS (some ⟨b5,0,none⟩) ([x1]:List zA) 1,vS (some ⟨b6,0,none⟩) ([x2]:List zA) 1]::hO zA (vS (some ⟨b5,0,none⟩) ([x1]:List zA) 1) (cAff x1 p7 c7)::hB b zTwo::hf) (xI y23 ([3,2,4]:List Int) _ hy12 h42 h47) ?_;rintro I024 hs2 v2 k2 le23 - ⟨v018,kk6,rfl,rfl,rfl,h49⟩ -;have H:=H.trans le23;obtain ⟨p22,c22,rfl,h50⟩:=yE h49;exact yO [hB r01 (cRd y26 p22 c22)] H ⟨_,_,rfl,rfl,h50⟩
       · intro I1 hf le1;refine zF ?_;rintro _ _ ⟨p22,c22,rfl,rfl,h50⟩;refine yM [(49,vI y25)] ?_;have H:=iS I1;refine xT (uF y25 _ hy13 ) ?_;rintro I025 hs2 v2 k2 le24 - ⟨p23,c23,cs8,rfl,rfl,h51⟩ -;have H:=H.trans le24;exact yO [hO Int (vS p23 y27.Coefs c23) cs8] H ⟨_,_,_,rfl,rfl,h51⟩
       · intro I1 hf le1;refine zF ?_;rintro _ _ ⟨p23,c23,cs8,rfl,rfl,h51⟩;refine yM [(50,vA (cAff y27 p23 c23))] ?_;have H:=iS I1;refine yJ 0 rfl ?_;intro I026 le25 hl08;have h52:=SL.of_frozen hl08 le25 h51;have H:=H.trans le25;refine xY (cAff y27 p23 c23) zA ?_;intro b9 hb9;have h53:RL I026 (cAff y27 p23 c23) ([y27]:List zA):=⟨(cAff y27 p23 c23),_,rfl,rfl,(yQ ⟨_,rfl,h52⟩),rfl⟩;refine yJ 0 rfl ?_;intro I027 le26 hl09;have h54:=SL.of_frozen hl09 le26 h53;have H:=H.trans le26;exact yO [] H ⟨_,rfl,rfl,h54⟩
       intro I1 hf le1;refine zF ?_;rintro _ _ ⟨rfl,rfl⟩;refine zF ?_;rintro _ _ ⟨b9,rfl,rfl,h54⟩;refine zF ?_;rintro _ _ rfl;refine yM [(46,vS (some ⟨b6,0,none⟩) ([x2]:List zA) 1),(51,vS (some ⟨b9,0,none⟩) ([y27]:List zA) 1)] ?_;have h39:=iM le1 h39;obtain ⟨ccs,k0,k01⟩:=h54;have h54:SL I1 (vS (some ⟨b9,0,none⟩) ([y27]:List zA) 1) ([y27]:List zA):=⟨_,k0,k01⟩;exact pG 44 2 0 rfl rfl rfl h39 (.inl k0) k01 hy14 fun p24 c24 cs9 h55=>uC (hs':=(hO zA (vS p24 l c24) cs9::hB b7 [vS (some ⟨b5,0,none⟩) ([x1]:List zA) 1,vS (some ⟨b6,0,none⟩) ([x2]:List zA) 1]::hO zA (vS (some ⟨b5,0,none⟩) ([x1]:List zA) 1) (cAff x1 p7 c7)::hB b zTwo::hf)) rfl<|yO [hO zA (vS p24 l c24) cs9] iR ⟨_,_,_,rfl,rfl,h55⟩
     intro I028 le27;refine zF ?_;rintro _ _ ⟨p22,c22,rfl,rfl,h50⟩;refine zF ?_;rintro _ _ ⟨p24,c24,cs9,rfl,rfl,h55⟩;refine yM [(4,vP b 0),(8,vP b7 0),(52,vS p24 l c24)] ?_;have h38:=iM le27 h38;have H:=H.trans le27;exact yD 9 [] [(53,vP b7 1)]<|xE 2 [vS (some ⟨b5,0,none⟩) ([x1]:List zA) 1,vS p24 l c24] [hO zA (vS p24 l c24) cs9,hB r01 (cRd y26 p22 c22),hB b7 [vS (some ⟨b5,0,none⟩) ([x1]:List zA) 1,vS p24 l c24],hO zA (vS (some ⟨b5,0,none⟩) ([x1]:List zA) 1) (cAff x1 p7 c7),hB b zTwo] rfl rfl rfl rfl<|yH rfl<|xU (yA [1,2,0,3,4] rfl (by decide))<|yT [(4,vP b 0),(8,vP b7 0)]<|zV ⟨_,_,_,_,_,_,_,_,_,_,_,(zC N).symm,H,h38,h55,h50,rfl,rfl⟩
   intro hc3 N;refine yF [(54,.bool (y22 == 1))]<|zM ?_;obtain ⟨o04,ho04,hMc4⟩:=zB N;refine yU (fun I' hs' m'=>∃ (Lo1:List zA) (x7:zO) (p25:Option Addr) (c25:Nat) (cs10:List Value) (p26:Option Addr) (c26:Nat),o04=(Lo1,x7)∧I021.le I'∧(RL I' cs10 Lo1)∧(S4 I' p26 x7.b c26)∧hs'=[hB r01 (cRd x7 p26 c26),hB b7 [vS p25 Lo1 c25,vS (some ⟨b6,0,none⟩) ([x2]:List zA) 1],hO zA (vS (some ⟨b6,0,none⟩) ([x2]:List zA) 1) (cAff x2 p8 c8),hO zA (vS p25 Lo1 c25) cs10,hB b zTwo]∧m'=[(4,vP b 0),(8,vP b7 0)]) ?_ ?_
   · have H:=iS I021;refine yL ho04 ?_ ?_
     · intro hc4 N;obtain ⟨⟨y29,y30⟩,hy15,N⟩:=zB N;obtain ⟨y31,hy16,N⟩:=zB N;obtain ⟨l1,hy17,N⟩:=zB N;refine wA [.p (vP b7 0) [],.p (vS (some ⟨b5,0,none⟩) ([x1]:List zA) 1) [0],.p (vP r01 0) [],.x (fun I' v hx=>∃ b10,v=vS (some ⟨b10,0,none⟩) ([0,1]:List Int) 2∧hx=[]∧(SL I' (vS (some ⟨b10,0,none⟩) ([0,1]:List Int) 2) ([0,1]:List Int))),.x (fun I' v hx=>∃ p27 c27,v=vI y29∧hx=[hB r01 (cRd y30 p27 c27)]∧(S4 I' p27 y30.b c27)),.x (fun I' v hx=>∃ p28 c28 cs11,v=vA (cAff y31 p28 c28)∧hx=[hO Int (vS p28 y31.Coefs c28) cs11]∧(RL I' cs11 y31.Coefs)),.x (fun I' v hx=>∃ b11,v=vS (some ⟨b11,0,none⟩) ([y31]:List zA) 1∧hx=[]∧(SL I' (vS (some ⟨b11,0,none⟩) ([y31]:List zA) 1) ([y31]:List zA))),.x (fun I' v hx=>∃ p29 c29 cs12,v=vS p29 l1 c29∧hx=[hO zA (vS p29 l1 c29) cs12]∧(RL I' cs12 l1))] [[],[(0,false)],[],[],[(2,false),(3,false),(10,true)],[(4,false)],[(5,true)],[(1,false),(6,false),(11,true)]] [hB b7 [vS (some ⟨b5,0,none⟩) ([x1]:List zA) 1,vS (some ⟨b6,0,none⟩) ([x2]:List zA) 1],hO zA (vS (some ⟨b6,0,none⟩) ([x2]:List zA) 1) (cAff x2 p8 c8),hB b zTwo] [[hB r01 (cRd y23 p18 c18)],[hO zA (vS (some ⟨b5,0,none⟩) ([x1]:List zA) 1) (cAff x1 p7 c7)]] [(4,true),(7,true)] (yB [1,2,4,0,3]) ?_ ?_
       · refine Op<|Op<|Op<|Ox ?_<|Ox ?_<|Ox ?_<|Ox ?_<|Ox ?_<|On
         · intro I1 hf le1;refine yM [] ?_;have H:=iS I1;refine xY [vI 0,vI 1] Int ?_;intro b10 hb10;have h58:RL I1 [vI 0,vI 1] ([0,1]:List Int):=⟨[vI 0],_,rfl,rfl,rfl,⟨[vI 1],_,rfl,rfl,rfl,rfl⟩⟩;refine yJ 0 rfl ?_;intro I030 le28 hl010;have h59:=SL.of_frozen hl010 le28 h58;have H:=H.trans le28;exact yO [] H ⟨_,rfl,rfl,h59⟩
         · intro I1 hf le1;refine zF ?_;rintro _ _ ⟨rfl,rfl⟩;refine zF ?_;rintro _ _ ⟨b10,rfl,rfl,h59⟩;refine zF ?_;rintro _ _ rfl;refine yM [(58,vP r01 0),(59,vS (some ⟨b10,0,none⟩) ([0,1]:List Int) 2)] ?_;have H:=iS I1;have h42:=h42.mono le1;refine tM [hB r01 (cRd y23 p18 c18)] (hB b7 [vS (some ⟨b5,0,none⟩) ([x1]:List zA) 1,vS (some ⟨b6,0,none⟩) ([x2]:List zA) 1]::hO zA (vS (some ⟨b6,0,none⟩) ([x2]:List zA) 1) (cAff x2 p8 c8)::hB b zTwo::hf) (xI y23 ([0,1]:List Int) _ hy15 h42 h59) ?_;rintro I031 hs2 v2 k2 le29 - ⟨v020,kk7,rfl,rfl,rfl,h61⟩ -;have H:=H.trans le29;obtain ⟨p27,c27,rfl,h62⟩:=yE h61;exact yO [hB r01 (cRd y30 p27 c27)] H ⟨_,_,rfl,rfl,h62⟩
         · intro I1 hf le1;refine zF ?_;rintro _ _ ⟨p27,c27,rfl,rfl,h62⟩;refine yM [(60,vI y29)] ?_;have H:=iS I1;refine xT (uF y29 _ hy16 ) ?_;rintro I032 hs2 v2 k2 le30 - ⟨p28,c28,cs11,rfl,rfl,h63⟩ -;have H:=H.trans le30;exact yO [hO Int (vS p28 y31.Coefs c28) cs11] H ⟨_,_,_,rfl,rfl,h63⟩
         · intro I1 hf le1;refine zF ?_;rintro _ _ ⟨p28,c28,cs11,rfl,rfl,h63⟩;refine yM [(61,vA (cAff y31 p28 c28))] ?_;have H:=iS I1;refine yJ 0 rfl ?_;intro I033 le31 hl011;have h64:=SL.of_frozen hl011 le31 h63;have H:=H.trans le31;refine xY (cAff y31 p28 c28) zA ?_;intro b11 hb11;have h65:RL I033 (cAff y31 p28 c28) ([y31]:List zA):=⟨(cAff y31 p28 c28),_,rfl,rfl,(yQ ⟨_,rfl,h64⟩),rfl⟩;refine yJ 0 rfl ?_;intro I034 le32 hl012;have h66:=SL.of_frozen hl012 le32 h65;have H:=H.trans le32;exact yO [] H ⟨_,rfl,rfl,h66⟩
         intro I1 hf le1;refine zF ?_;rintro _ _ ⟨rfl,rfl⟩;refine zF ?_;rintro _ _ ⟨b11,rfl,rfl,h66⟩;refine zF ?_;rintro _ _ rfl;refine yM [(57,vS (some ⟨b5,0,none⟩) ([x1]:List zA) 1),(62,vS (some ⟨b11,0,none⟩) ([y31]:List zA) 1)] ?_;have h38:=iM le1 h38;obtain ⟨ccs1,k02,k03⟩:=h66;have h66:SL I1 (vS (some ⟨b11,0,none⟩) ([y31]:List zA) 1) ([y31]:List zA):=⟨_,k02,k03⟩;exact pG 44 2 0 rfl rfl rfl h38 (.inl k02) k03 hy17 fun p29 c29 cs12 h67=>uC (hs':=(hO zA (vS p29 l1 c29) cs12::hB b7 [vS (some ⟨b5,0,none⟩) ([x1]:List zA) 1,vS (some ⟨b6,0,none⟩) ([x2]:List zA) 1]::hO zA (vS (some ⟨b6,0,none⟩) ([x2]:List zA) 1) (cAff x2 p8 c8)::hB b zTwo::hf)) rfl<|yO [hO zA (vS p29 l1 c29) cs12] iR ⟨_,_,_,rfl,rfl,h67⟩
       intro I035 le33;refine zF ?_;rintro _ _ ⟨p27,c27,rfl,rfl,h62⟩;refine zF ?_;rintro _ _ ⟨p29,c29,cs12,rfl,rfl,h67⟩;refine yM [(4,vP b 0),(8,vP b7 0),(63,vS p29 l1 c29)] ?_;have H:=H.trans le33;exact yD 9 [] [(64,vP b7 0)]<|xE 2 [vS p29 l1 c29,vS (some ⟨b6,0,none⟩) ([x2]:List zA) 1] [hO zA (vS p29 l1 c29) cs12,hB r01 (cRd y30 p27 c27),hB b7 [vS p29 l1 c29,vS (some ⟨b6,0,none⟩) ([x2]:List zA) 1],hO zA (vS (some ⟨b6,0,none⟩) ([x2]:List zA) 1) (cAff x2 p8 c8),hB b zTwo] rfl rfl rfl rfl<|yH rfl<|xU (yA [1,2,3,0,4] rfl (by decide))<|yT [(4,vP b 0),(8,vP b7 0)]<|zV ⟨_,_,_,_,_,_,_,(zC N).symm,H,h67,h62,rfl,rfl⟩
     intro hc4 N;exact zW<|yT [(4,vP b 0),(8,vP b7 0)]<|zV ⟨_,_,_,_,_,_,_,(zC N).symm,H,h38,h42,rfl,rfl⟩
   rintro I029 hs2 m2 ⟨Lo1,x7,p25,c25,cs10,p26,c26,heq3,le34,h56,h57,rfl,rfl⟩;subst o04;have h39:=iM le34 h39;have H:=H.trans le34;exact yT [(4,vP b 0),(8,vP b7 0)]<|zV ⟨_,_,_,_,_,_,_,_,_,_,_,(zC hMc4).symm,H,h56,h39,h57,rfl,rfl⟩
 rintro I022 hs2 m2 ⟨Lo,Hi,x6,p19,c19,cs6,p20,c20,cs7,p21,c21,heq4,le35,h43,h44,h45,rfl,rfl⟩;subst o03;refine zT<|xD<|yD 1 [1] [(65,vA [vS p19 Lo c19,vS p20 Hi c20])]<|xE 4 [vS p19 Lo c19,vS p20 Hi c20] [hB r01 (cRd x6 p21 c21),hB b7 [vS p19 Lo c19,vS p20 Hi c20],hO zA (vS p20 Hi c20) cs7,hO zA (vS p19 Lo c19) cs6,hB b [vS p19 Lo c19,vS p20 Hi c20]] rfl rfl rfl rfl<|yH rfl<|xG<|xP 3 rfl ?_;intro I036 le36 hl013;have h68:=SL.of_frozen hl013 le36 h43;have h45:=h45.mono le36;have h44:=iM le36 h44;refine xP 2 rfl ?_;intro I037 le37 hl014;have h69:=SL.of_frozen hl014 le37 h44;have h45:=h45.mono le37;have h68:=h68.mono le37;obtain rfl:=zC hMc3;exact xC ⟨_,_,(.cell 2 rfl rfl (by kernel_rfl) ResV.nil),(yA [0] rfl (by decide)),⟨_,_,rfl,rfl,⟨_,rfl,(sV ⟨_,_,rfl,h68,h69⟩)⟩,(yR ⟨_,rfl,h45⟩)⟩⟩
def zDm (b0:Nat) (r:(List zD)×zO):KT:=fun kk I' hs' v=>
  ∃ v0 k0,hs'=[.blk b0 ⟨k0⟩]∧v=tupV [v0]∧SL I' v0 r.1∧Rp.rep I' k0 r.2
def qW (out:List zD) (i:Int) (x:zO):Option ((List zD×zO)):=do
 if (decide (i > 0)) then
  let (y4,y5)←jJ x (out.length:Int)
  let out2←app 48 out ([y4]:List zD)
  qW out2 (W (i - 1)) y5
 else
  pure (out,x)
 partial_fixpoint
theorem zDD :∀ (out:List zD) (i:Int) (x:zO) (o:(List zD×zO)),qW out i x=some o→∀ {B}{I0 I:Imm}{Q}  {r01:Nat}{p2 c2 cs p3 c3},I0.le I→(RL I cs out)→(S4 I p3 x.b c3)→NG Q→NO Q→(∀ (I':Imm) (out1:List zD) (x1:zO) (p4:Option Addr) (c4:Nat) (cs1:List Value) (p5:Option Addr) (c5:Nat),o=(out1,x1)→I0.le I'→(RL I' cs1 out1)→(S4 I' p5 x1.b c5)→T 21 B Q (.exit 0) I' [hB r01 (cRd x1 p5 c5),hO zD (vS p4 out1 c4) cs1] [(3,vS p4 out1 c4)])→J Tryz.prog 21 B (nav (bodyOf Tryz.f137) [1,1,0,1,0]) Q I [hB r01 (cRd x p3 c3),hO zD (vS p2 out c2) cs] [(0,vP r01 0),(3,vS p2 out c2),(4,vI i)]:=by
 refine qW.partial_correctness  _ fun self ih out i x o N B I0 I Q r01 p2 c2 cs p3 c3 H h7 h8 hg ho hx=>yZ hg ho<|yG<|yF [(10,.bool (decide (i > 0)))]<|zM<|yL N ?_ ?_
 · intro hc N;refine zW<|yI<|yP<|zQ<|yD 4 [] [(13,vS p2 out c2),(14,vP r01 0),(16,vI (out.length:Int))] ?_;obtain ⟨⟨y4,y5⟩,hy1,N⟩:=zB N;refine tM [hB r01 (cRd x p3 c3)] [hO zD (vS p2 out c2) cs] (zFG x (out.length:Int) _ hy1 h8) ?_;rintro I02 hs2 v2 k2 le2 - ⟨v02,kk1,rfl,rfl,⟨cs2,rfl,h11⟩,h12⟩ -;have h7:=iM le2 h7;have H:=H.trans le2;obtain ⟨p6,c6,p7,c7,rfl,h13,h14⟩:=tP h11;obtain ⟨p8,c8,rfl,h15⟩:=yE h12;refine xY (cLoop y4 p6 c6 p7 c7) zD ?_;intro b2 hb2;have h16:RL I02 (cLoop y4 p6 c6 p7 c7) ([y4]:List zD):=⟨(cLoop y4 p6 c6 p7 c7),_,rfl,rfl,(sV ⟨_,_,rfl,h13,h14⟩),rfl⟩;obtain ⟨out2,hy2,N⟩:=zB N;exact pG 169 2 2 rfl rfl rfl h7 (.inr ⟨0,rfl⟩) h16 hy2 fun p9 c9 cs3 h17=>sU (yB [1,2] (hs':=[hB r01 (cRd y5 p8 c8),hO zD (vS p9 out2 c9) cs3]))<|yC [] [(3,vS p9 out2 c9)]<|zT<|zM<|zQ<|yC [] [(4,vI (W (i - 1)))]<|yY<|vE [(0,vP r01 0),(3,vS p9 out2 c9),(4,vI (W (i - 1)))]<|ih out2 (W (i - 1)) y5 _ N H h17 h15 hg ho hx
 intro hc N;exact vW<|yT [(3,vS p2 out c2)]<|hx _ _ _ _ _ _ _ _ (zC N).symm H h7 h8
def jK (r0:zO):Option ((List zD)×zO):=do
 let (y1,y2)←yW r0 ([2,1,2,3]:List Int)
 let (out1,x1)←qW ([]:List zD) y1 y2
 pure (out1,x1)
theorem zFH:∀ r0 r,jK r0=some r→∀ {I:Imm}{r01:Nat}{p c},(S4 I p r0.b c)→RT 137 [vP r01 0] I [hB r01 (cRd r0 p c)] (zDm r01 r):=by
 intro r0 r N I r01 p c h;unfold jK at N;refine zY (fn:=Tryz.f137) (c:=(bodyOf Tryz.f137)) Tryz.func137 rfl rfl ?_;rintro B - -;refine yF []<|xD<|xY [] zD ?_;intro b hb;have h1:RL I [] ([]:List zD):=rfl;refine yC [] [(3,vS (some ⟨b,0,none⟩) ([]:List zD) 0)]<|yI<|yK<|yD 1 [] [(6,vP r01 0)]<|xY [vI 2,vI 1,vI 2,vI 3] Int ?_;intro b1 hb1;have h2:RL I [vI 2,vI 1,vI 2,vI 3] ([2,1,2,3]:List Int):=⟨[vI 2],_,rfl,rfl,rfl,⟨[vI 1],_,rfl,rfl,rfl,⟨[vI 2],_,rfl,rfl,rfl,⟨[vI 3],_,rfl,rfl,rfl,rfl⟩⟩⟩⟩;refine yJ 0 rfl ?_;intro I0 le hl0;have h3:=SL.of_frozen hl0 le h2;have h1:=iM le h1;have h:=h.mono le;refine sU (yB [1,0] (hs':=[hB r01 (cRd r0 p c),hO zD (vS (some ⟨b,0,none⟩) ([]:List zD) 0) []])) ?_;obtain ⟨⟨y1,y2⟩,hy,N⟩:=zB N;refine tM [hB r01 (cRd r0 p c)] [hO zD (vS (some ⟨b,0,none⟩) ([]:List zD) 0) []] (xI r0 ([2,1,2,3]:List Int) _ hy h h3) ?_;rintro I01 hs2 v2 k2 le1 - ⟨v0,kk,rfl,rfl,rfl,h5⟩ -;have h1:=iM le1 h1;obtain ⟨p1,c1,rfl,h6⟩:=yE h5;refine yC [] [(4,vI y1)]<|wO<|vE [(0,vP r01 0),(3,vS (some ⟨b,0,none⟩) ([]:List zD) 0),(4,vI y1)] ?_;obtain ⟨o0,ho0,hMl⟩:=zB N;refine zDD ([]:List zD) y1 y2 o0 ho0 iR h1 h6 (fun _ _ _ h=>h) (fun _ _ h=>h) ?_;intro I03 out1 x1 p4 c4 cs1 p5 c5 heq le3 h9 h10;subst o0;refine zX<|vH [(2,vS p4 out1 c4)]<|xG<|xP 1 rfl ?_;intro I04 le4 hl01;have h18:=SL.of_frozen hl01 le4 h9;have h10:=h10.mono le4;obtain rfl:=zC hMl;exact xC ⟨_,_,(.tmp rfl ResV.nil),(yA [0] rfl (by decide)),⟨_,_,rfl,rfl,h18,(yR ⟨_,rfl,h10⟩)⟩⟩
def zDn (b0:Nat) (r:zJ×zO):KT:=fun kk I' hs' v=>
  ∃ v0 k0,hs'=[.blk b0 ⟨k0⟩]∧v=tupV [v0]∧(∃ cs,v0=.agg ⟨cs⟩∧Rp.rep I' cs r.1)∧Rp.rep I' k0 r.2
def qX (depth:Int) (n0:Int) (i:Int) (Subs:List zA) (x:zO):Option ((List zA×zO)):=do
 if (decide (i < n0)) then
  let (y4,y5)←yW x ([0,1,0,2]:List Int)
  let y6←wP y4
  let (t32,x2)←(do
    if (decide (depth > 0)) then
     let (y8,y9)←yV y5 5
     pure ((decide (y8 > 0)),y9)
    else
     pure (false,y5)
      : Option (Bool×zO))
  let (x3,x4)←(do
    if t32 then
     let (y11,y12)←yV x2 depth
     let y13←oA y11
     let (y15,y16)←yW y12 ([1,1,1,2,(-1)]:List Int)
     let (y18,y19)←yW y16 ([0,1,0,0,2]:List Int)
     let y20←wP y18
     let y21←oI y13 y15 y20 1
     pure (y21,y19)
    else
     pure ((zA.mk y6.Coefs y6.Const),x2)
      : Option (zA×zO))
  let l←app 32 Subs ([x3]:List zA)
  qX depth n0 (W (i + 1)) l x4
 else
  pure (Subs,x)
 partial_fixpoint
theorem zDE (depth:Int) (n0:Int):∀ (i:Int) (Subs:List zA) (x:zO) (o:(List zA×zO)),qX depth n0 i Subs x=some o→∀ {B}{I0 I:Imm}{Q}{y1:Str}{r01:Nat}{b:Nat}{b2:Nat}{p2 c2 cs p3 c3},I0.le I→(RL I cs Subs)→(S4 I p3 x.b c3)→NG Q→NO Q→(∀ (I':Imm) (Subs1:List zA) (x1:zO) (p4:Option Addr) (c4:Nat) (cs1:List Value) (p5:Option Addr) (c5:Nat),o=(Subs1,x1)→I0.le I'→(RL I' cs1 Subs1)→(S4 I' p5 x1.b c5)→T 53 B Q (.exit 0) I' [hO zA (vS p4 Subs1 c4) cs1,hB b2 [vT y1.l,vS p4 Subs1 c4],hB r01 (cRd x1 p5 c5),hB b [vT ([]),z0]] [(4,vP b 0),(5,vP b2 0)])→J Tryz.prog 53 B (nav (bodyOf Tryz.f172) [1,1,1,1,0,1,0]) Q I [hO zA (vS p2 Subs c2) cs,hB b2 [vT y1.l,vS p2 Subs c2],hB r01 (cRd x p3 c3),hB b [vT ([]),z0]] [(0,vP r01 0),(1,vI depth),(4,vP b 0),(5,vP b2 0),(6,vI n0),(7,vI i)]:=by
 refine qX.partial_correctness depth n0 _ fun self ih i Subs x o N B I0 I Q y1 r01 b b2 p2 c2 cs p3 c3 H h7 h8 hg ho hx=>yZ hg ho<|yG<|yF [(19,.bool (decide (i < n0)))]<|zM<|yL N ?_ ?_
 · intro hc1 N;refine zW<|yI<|yP<|yK<|yD 1 [] [(22,vP r01 0)]<|xY [vI 0,vI 1,vI 0,vI 2] Int ?_;intro b3 hb3;have h11:RL I [vI 0,vI 1,vI 0,vI 2] ([0,1,0,2]:List Int):=⟨[vI 0],_,rfl,rfl,rfl,⟨[vI 1],_,rfl,rfl,rfl,⟨[vI 0],_,rfl,rfl,rfl,⟨[vI 2],_,rfl,rfl,rfl,rfl⟩⟩⟩⟩;refine yJ 0 rfl ?_;intro I03 le3 hl01;have h12:=SL.of_frozen hl01 le3 h11;have h7:=iM le3 h7;have h8:=h8.mono le3;have H:=H.trans le3;refine sU (yB [2,0,1,3] (hs':=[hB r01 (cRd x p3 c3),hO zA (vS p2 Subs c2) cs,hB b2 [vT y1.l,vS p2 Subs c2],hB b [vT ([]),z0]])) ?_;obtain ⟨⟨y4,y5⟩,hy1,N⟩:=zB N;refine tM [hB r01 (cRd x p3 c3)] [hO zA (vS p2 Subs c2) cs,hB b2 [vT y1.l,vS p2 Subs c2],hB b [vT ([]),z0]] (xI x ([0,1,0,2]:List Int) _ hy1 h8 h12) ?_;rintro I04 hs2 v2 k2 le4 - ⟨v02,kk1,rfl,rfl,rfl,h14⟩ -;have h7:=iM le4 h7;have H:=H.trans le4;obtain ⟨p6,c6,rfl,h15⟩:=yE h14;obtain ⟨y6,hy2,N⟩:=zB N;refine xT (uF y4 _ hy2 ) ?_;rintro I05 hs2 v2 k2 le5 - ⟨p7,c7,cs2,rfl,rfl,h16⟩ -;have h15:=h15.mono le5;have h7:=iM le5 h7;have H:=H.trans le5;refine wR [z0,vI 0] ?_;intro b4 hb4;refine xE 0 (cAff y6 p7 c7) [hB b4 (cAff y6 p7 c7),hO Int (vS p7 y6.Coefs c7) cs2,hB r01 (cRd y5 p6 c6),hO zA (vS p2 Subs c2) cs,hB b2 [vT y1.l,vS p2 Subs c2],hB b [vT ([]),z0]] rfl rfl rfl rfl<|yH rfl<|yI<|yG ?_;obtain ⟨o01,ho01,hMc1⟩:=zB N;refine yU (fun I' hs' m'=>∃ (t32:Bool) (x2:zO) (p8:Option Addr) (c8:Nat),o01=(t32,x2)∧I05.le I'∧(S4 I' p8 x2.b c8)∧hs'=[hB b4 (cAff y6 p7 c7),hO Int (vS p7 y6.Coefs c7) cs2,hB r01 (cRd x2 p8 c8),hO zA (vS p2 Subs c2) cs,hB b2 [vT y1.l,vS p2 Subs c2],hB b [vT ([]),z0]]∧m'=[(0,vP r01 0),(1,vI depth),(4,vP b 0),(5,vP b2 0),(6,vI n0),(7,vI i),(8,vP b4 0),(32,.bool t32)]) ?_ ?_
   · have H:=iS I05;refine zQ<|yD 3 [] [(28,.bool (decide (depth > 0)))] ?_;cases hc2:(decide (depth > 0)) with
     | true =>
      have hM0:=zP hc2 ho01
      try rw [hc2]
      refine yD 4 [] [(29,vP r01 0)]<|sU (yB [2,0,1,3,4,5] (hs':=[hB r01 (cRd y5 p6 c6),hB b4 (cAff y6 p7 c7),hO Int (vS p7 y6.Coefs c7) cs2,hO zA (vS p2 Subs c2) cs,hB b2 [vT y1.l,vS p2 Subs c2],hB b [vT ([]),z0]])) ?_;obtain ⟨⟨y8,y9⟩,hy3,N⟩:=zB hM0;refine tM [hB r01 (cRd y5 p6 c6)] [hB b4 (cAff y6 p7 c7),hO Int (vS p7 y6.Coefs c7) cs2,hO zA (vS p2 Subs c2) cs,hB b2 [vT y1.l,vS p2 Subs c2],hB b [vT ([]),z0]] (xH y5 5 _ hy3 h15) ?_;rintro I07 hs2 v2 k2 le6 - ⟨v04,kk2,rfl,rfl,rfl,h19⟩ -;have H:=H.trans le6;obtain ⟨p9,c9,rfl,h20⟩:=yE h19;exact yC [] [(32,.bool (decide (y8 > 0)))]<|xU (yA [1,2,0,3,4,5] rfl (by decide))<|yT [(0,vP r01 0),(1,vI depth),(4,vP b 0),(5,vP b2 0),(6,vI n0),(7,vI i),(8,vP b4 0),(32,.bool (decide (y8 > 0)))]<|zV ⟨_,_,_,_,(zC N).symm,H,h20,rfl,rfl⟩
     | false =>
      have hM01:=zL hc2 ho01
      try rw [hc2]
      exact yC [] [(32,vF)]<|yT [(0,vP r01 0),(1,vI depth),(4,vP b 0),(5,vP b2 0),(6,vI n0),(7,vI i),(8,vP b4 0),(32,vF)]<|zV ⟨_,_,_,_,(zC hM01).symm,H,h15,rfl,rfl⟩
   rintro I06 hs2 m2 ⟨t32,x2,p8,c8,heq1,le7,h17,rfl,rfl⟩;subst o01;have h16:=iM le7 h16;have h7:=iM le7 h7;have H:=H.trans le7;refine zM<|pL 1 rfl ?_;intro I08 le8 hl02;have h21:=SL.of_frozen hl02 le8 h16;have h17:=h17.mono le8;have h7:=iM le8 h7;have H:=H.trans le8;obtain ⟨o02,ho02,hMc2⟩:=zB hMc1;refine yU (fun I' hs' m'=>∃ (x3:zA) (x4:zO) (p10:Option Addr) (c10:Nat) (p11:Option Addr) (c11:Nat),o02=(x3,x4)∧I08.le I'∧(S4 I' p10 x3.Coefs c10)∧(S4 I' p11 x4.b c11)∧hs'=[hB b4 (cAff x3 p10 c10),hB r01 (cRd x4 p11 c11),hO zA (vS p2 Subs c2) cs,hB b2 [vT y1.l,vS p2 Subs c2],hB b [vT ([]),z0]]∧m'=[(0,vP r01 0),(1,vI depth),(4,vP b 0),(5,vP b2 0),(6,vI n0),(7,vI i),(8,vP b4 0)]) ?_ ?_
   · have H:=iS I08;refine yL ho02 ?_ ?_
     · intro hc3 N;refine yK<|yD 2 [] [(33,vP r01 0),(34,vI depth)]<|sU (yB [1,0,2,3,4] (hs':=[hB r01 (cRd x2 p8 c8),hB b4 (cAff y6 p7 c7),hO zA (vS p2 Subs c2) cs,hB b2 [vT y1.l,vS p2 Subs c2],hB b [vT ([]),z0]])) ?_;obtain ⟨⟨y11,y12⟩,hy4,N⟩:=zB N;refine tM [hB r01 (cRd x2 p8 c8)] [hB b4 (cAff y6 p7 c7),hO zA (vS p2 Subs c2) cs,hB b2 [vT y1.l,vS p2 Subs c2],hB b [vT ([]),z0]] (xH x2 depth _ hy4 h17) ?_;rintro I010 hs2 v2 k2 le9 - ⟨v06,kk3,rfl,rfl,rfl,h25⟩ -;have H:=H.trans le9;obtain ⟨p12,c12,rfl,h26⟩:=yE h25;refine yC [] [(9,vI y11)]<|zM<|zQ<|yD 1 [] [(36,vI y11)]<|bE N fun y13 hy5 N=>xT (jE y11 _ hy5 ) ?_;rintro I011 hs2 v2 k2 le10 - ⟨v08,rfl,rfl,⟨cs3,rfl,h27⟩⟩ -;have h26:=h26.mono le10;have H:=H.trans le10;obtain ⟨p13,c13,rfl,h28⟩:=yN h27;refine yD 3 [] [(38,vP r01 0)]<|xY [vI 1,vI 1,vI 1,vI 2,vI (-1)] Int ?_;intro b5 hb5;have h29:RL I011 [vI 1,vI 1,vI 1,vI 2,vI (-1)] ([1,1,1,2,(-1)]:List Int):=⟨[vI 1],_,rfl,rfl,rfl,⟨[vI 1],_,rfl,rfl,rfl,⟨[vI 1],_,rfl,rfl,rfl,⟨[vI 2],_,rfl,rfl,rfl,⟨[vI (-1)],_,rfl,rfl,rfl,rfl⟩⟩⟩⟩⟩;refine yJ 0 rfl ?_;intro I012 le11 hl03;have h30:=SL.of_frozen hl03 le11 h29;have h28:=h28.mono le11;have h26:=h26.mono le11;have H:=H.trans le11;obtain ⟨⟨y15,y16⟩,hy6,N⟩:=zB N;refine tM [hB r01 (cRd y12 p12 c12)] [hB b4 (cAff y6 p7 c7),hO zA (vS p2 Subs c2) cs,hB b2 [vT y1.l,vS p2 Subs c2],hB b [vT ([]),z0]] (xI y12 ([1,1,1,2,(-1)]:List Int) _ hy6 h26 h30) ?_;rintro I013 hs2 v2 k2 le12 - ⟨v010,kk4,rfl,rfl,rfl,h32⟩ -;have h28:=h28.mono le12;have H:=H.trans le12;obtain ⟨p14,c14,rfl,h33⟩:=yE h32;refine yD 6 [] [(41,vP r01 0)]<|xY [vI 0,vI 1,vI 0,vI 0,vI 2] Int ?_;intro b6 hb6;have h34:RL I013 [vI 0,vI 1,vI 0,vI 0,vI 2] ([0,1,0,0,2]:List Int):=⟨[vI 0],_,rfl,rfl,rfl,⟨[vI 1],_,rfl,rfl,rfl,⟨[vI 0],_,rfl,rfl,rfl,⟨[vI 0],_,rfl,rfl,rfl,⟨[vI 2],_,rfl,rfl,rfl,rfl⟩⟩⟩⟩⟩;refine yJ 0 rfl ?_;intro I014 le13 hl04;have h35:=SL.of_frozen hl04 le13 h34;have h28:=h28.mono le13;have h33:=h33.mono le13;have H:=H.trans le13;obtain ⟨⟨y18,y19⟩,hy7,N⟩:=zB N;refine tM [hB r01 (cRd y16 p14 c14)] [hB b4 (cAff y6 p7 c7),hO zA (vS p2 Subs c2) cs,hB b2 [vT y1.l,vS p2 Subs c2],hB b [vT ([]),z0]] (xI y16 ([0,1,0,0,2]:List Int) _ hy7 h33 h35) ?_;rintro I015 hs2 v2 k2 le14 - ⟨v012,kk5,rfl,rfl,rfl,h37⟩ -;have h28:=h28.mono le14;have H:=H.trans le14;obtain ⟨p15,c15,rfl,h38⟩:=yE h37;obtain ⟨y20,hy8,N⟩:=zB N;refine xT (uF y18 _ hy8 ) ?_;rintro I016 hs2 v2 k2 le15 - ⟨p16,c16,cs4,rfl,rfl,h39⟩ -;have h28:=h28.mono le15;have h38:=h38.mono le15;have H:=H.trans le15;refine yJ 0 rfl ?_;intro I017 le16 hl05;have h40:=SL.of_frozen hl05 le16 h39;have h28:=h28.mono le16;have h38:=h38.mono le16;have H:=H.trans le16;obtain ⟨y21,hy9,N⟩:=zB N;refine xT (dH y13 y15 y20 1 _ hy9 h28 h40) ?_;rintro I018 hs2 v2 k2 le17 - ⟨v014,rfl,rfl,⟨cs5,rfl,h41⟩⟩ -;have h38:=h38.mono le17;have H:=H.trans le17;obtain ⟨p17,c17,rfl,h42⟩:=yN h41;exact xE 1 (cAff y21 p17 c17) [hB r01 (cRd y19 p15 c15),hB b4 (cAff y21 p17 c17),hO zA (vS p2 Subs c2) cs,hB b2 [vT y1.l,vS p2 Subs c2],hB b [vT ([]),z0]] rfl rfl rfl rfl<|yH rfl<|xU (yA [1,0,2,3,4] rfl (by decide))<|yT [(0,vP r01 0),(1,vI depth),(4,vP b 0),(5,vP b2 0),(6,vI n0),(7,vI i),(8,vP b4 0)]<|zV ⟨_,_,_,_,_,_,(zC N).symm,H,h42,h38,rfl,rfl⟩
     intro hc3 N;exact zW<|yT [(0,vP r01 0),(1,vI depth),(4,vP b 0),(5,vP b2 0),(6,vI n0),(7,vI i),(8,vP b4 0)]<|zV ⟨_,_,_,_,_,_,(zC N).symm,H,h21,h17,rfl,rfl⟩
   rintro I09 hs2 m2 ⟨x3,x4,p10,c10,p11,c11,heq2,le18,h22,h23,rfl,rfl⟩;subst o02;have h7:=iM le18 h7;have H:=H.trans le18;refine zM<|zQ<|yD 3 [3,0] [(47,vS p2 Subs c2),(48,vA (cAff x3 p10 c10))]<|xY (cAff x3 p10 c10) zA ?_;intro b7 hb7;have h43:RL I09 (cAff x3 p10 c10) ([x3]:List zA):=⟨(cAff x3 p10 c10),_,rfl,rfl,(yQ ⟨_,rfl,h22⟩),rfl⟩;obtain ⟨l,hy10,N⟩:=zB hMc2;refine pG 44 2 3 rfl rfl rfl h7 (.inr ⟨0,rfl⟩) h43 hy10 ?_;intro p18 c18 cs6 h44;exact sU (yB [1,2,3,4,5] (hs':=[hB b4 (cAff x3 p10 c10),hB r01 (cRd x4 p11 c11),hO zA (vS p18 l c18) cs6,hB b2 [vT y1.l,vS p2 Subs c2],hB b [vT ([]),z0]]))<|yD 6 [] [(51,vP b2 1)]<|xE 3 [vT y1.l,vS p18 l c18] [hB b4 (cAff x3 p10 c10),hB r01 (cRd x4 p11 c11),hO zA (vS p18 l c18) cs6,hB b2 [vT y1.l,vS p18 l c18],hB b [vT ([]),z0]] rfl rfl rfl rfl<|yH rfl<|zT<|zM<|zQ<|yC [] [(7,vI (W (i + 1)))]<|yY<|pK (yA [2,3,1,4] rfl (by decide))<|vE [(0,vP r01 0),(1,vI depth),(4,vP b 0),(5,vP b2 0),(6,vI n0),(7,vI (W (i + 1)))]<|ih (W (i + 1)) l x4 _ N H h44 h23 hg ho hx
 intro hc1 N;exact vW<|yT [(4,vP b 0),(5,vP b2 0)]<|hx _ _ _ _ _ _ _ _ (zC N).symm H h7 h8
def nN (r0:zO) (depth:Int):Option (zJ×zO):=do
 let (y1,y2)←rC r0 ([(⟨[65]⟩:Str),(⟨[66]⟩:Str),(⟨[65]⟩:Str),(⟨[67]⟩:Str)]:List Str)
 let n0←(do
   if (y1.l == ([66]:List UInt8)) then
    pure (id 2)
   else
    pure (id 1)
     : Option Int)
 let (Subs1,x1)←qX depth n0 0 ([]:List zA) y2
 pure ((zJ.mk y1 Subs1),x1)
theorem zBO:∀ r0 depth r,nN r0 depth=some r→∀ {I:Imm}{r01:Nat}{p c},(S4 I p r0.b c)→RT 172 [vP r01 0,vI depth] I [hB r01 (cRd r0 p c)] (zDn r01 r):=by
 intro r0 depth r N I r01 p c h;unfold nN at N;refine zY (fn:=Tryz.f172) (c:=(bodyOf Tryz.f172)) Tryz.func172 rfl rfl ?_;rintro B - -;have H:=iS I;refine yK<|wR [vT ([]),z0] ?_;intro b hb;refine yH rfl<|xD<|yD 1 [] [(10,vP r01 0)]<|xY [vT ([65]),vT ([66]),vT ([65]),vT ([67])] Str ?_;intro b1 hb1;have h1:RL I [vT ([65]),vT ([66]),vT ([65]),vT ([67])] ([(⟨[65]⟩:Str),(⟨[66]⟩:Str),(⟨[65]⟩:Str),(⟨[67]⟩:Str)]:List Str):=⟨[vT ([65])],_,rfl,rfl,rfl,⟨[vT ([66])],_,rfl,rfl,rfl,⟨[vT ([65])],_,rfl,rfl,rfl,⟨[vT ([67])],_,rfl,rfl,rfl,rfl⟩⟩⟩⟩;refine yJ 0 rfl ?_;intro I0 le hl0;have h2:=SL.of_frozen hl0 le h1;have h:=h.mono le;have H:=H.trans le;refine sU (yB [1,0] (hs':=[hB r01 (cRd r0 p c),hB b [vT ([]),z0]])) ?_;obtain ⟨⟨y1,y2⟩,hy,N⟩:=zB N;refine tM [hB r01 (cRd r0 p c)] [hB b [vT ([]),z0]] (nV r0 ([(⟨[65]⟩:Str),(⟨[66]⟩:Str),(⟨[65]⟩:Str),(⟨[67]⟩:Str)]:List Str) _ hy h h2) ?_;rintro I01 hs2 v2 k2 le1 - ⟨v0,kk,rfl,rfl,rfl,h4⟩ -;have H:=H.trans le1;obtain ⟨p1,c1,rfl,h5⟩:=yE h4;refine yD 4 [] [(13,vA [vT y1.l,z0])]<|wR [vT ([]),z0] ?_;intro b2 hb2;refine xE 0 [vT y1.l,z0] [hB b2 [vT y1.l,z0],hB r01 (cRd y2 p1 c1),hB b [vT ([]),z0]] rfl rfl rfl rfl<|yH rfl<|vH [(6,vI 1)]<|yI<|yK<|yC [0] [(16,.bool (y1.l == ([66]:List UInt8)))]<|zM ?_;obtain ⟨o0,ho0,hMc⟩:=zB N;refine yU (fun I' hs' m'=>∃ (n0:Int),o0=n0∧I01.le I'∧hs'=[hB b2 [vT y1.l,z0],hB r01 (cRd y2 p1 c1),hB b [vT ([]),z0]]∧m'=[(0,vP r01 0),(1,vI depth),(4,vP b 0),(5,vP b2 0),(6,vI n0)]) ?_ ?_
 · have H:=iS I01;refine yL ho0 ?_ ?_
   · intro hc N;exact zQ<|yC [] [(6,vI 2)]<|yT [(0,vP r01 0),(1,vI depth),(4,vP b 0),(5,vP b2 0),(6,vI 2)]<|zV (ct N H)
   intro hc N;exact zW<|yT [(0,vP r01 0),(1,vI depth),(4,vP b 0),(5,vP b2 0),(6,vI 1)]<|zV (ct N H)
 rintro I02 hs2 m2 ⟨n0,heq,le2,rfl,rfl⟩;subst o0;have h5:=h5.mono le2;refine yI<|yF [(7,vI 0)]<|wO<|vE [(0,vP r01 0),(1,vI depth),(4,vP b 0),(5,vP b2 0),(6,vI n0),(7,vI 0)]<|pK (vM (Rp.sz zA)) ?_;have h6:RL I02 [] ([]:List zA):=RepL.nil;obtain ⟨o03,ho03,hMl⟩:=zB hMc;refine zDE depth n0 0 ([]:List zA) y2 o03 ho03 iR h6 h5 (fun _ _ _ h=>h) (fun _ _ h=>h) ?_;intro I019 Subs1 x1 p4 c4 cs1 p5 c5 heq3 le19 h9 h10;subst o03;refine zX<|xD<|yD 1 [1] [(52,vA [vT y1.l,vS p4 Subs1 c4])]<|xE 3 [vT y1.l,vS p4 Subs1 c4] [hO zA (vS p4 Subs1 c4) cs1,hB b2 [vT y1.l,vS p4 Subs1 c4],hB r01 (cRd x1 p5 c5),hB b [vT y1.l,vS p4 Subs1 c4]] rfl rfl rfl rfl<|yH rfl<|xG<|xP 0 rfl ?_;intro I020 le20 hl06;have h45:=SL.of_frozen hl06 le20 h9;have h10:=h10.mono le20;obtain rfl:=zC hMl;exact xC ⟨_,_,(.cell 2 rfl rfl (by kernel_rfl) ResV.nil),(yA [1] rfl (by decide)),⟨_,_,rfl,rfl,⟨_,rfl,(oF ⟨_,rfl,h45⟩)⟩,(yR ⟨_,rfl,h10⟩)⟩⟩
def zDo (b0:Nat) (r:zA×zO):KT:=fun kk I' hs' v=>
  ∃ v0 k0,hs'=[.blk b0 ⟨k0⟩]∧v=tupV [v0]∧(∃ cs,v0=.agg ⟨cs⟩∧Rp.rep I' cs r.1)∧Rp.rep I' k0 r.2
def qY (depth:Int) (i:Int) (Coefs:List Int) (x:zO):Option ((List Int×zO)):=do
 if (decide (i < depth)) then
  let (y5,y6)←yW x ([0,1,0,(-1),2,0,9]:List Int)
  let x2←idx Coefs i
  let l←pure (Coefs.set i.toNat y5)
  qY depth (W (i + 1)) l y6
 else
  pure (Coefs,x)
 partial_fixpoint
theorem zDF (depth:Int):∀ (i:Int) (Coefs:List Int) (x:zO) (o:(List Int×zO)),qY depth i Coefs x=some o→∀ {B}{I0 I:Imm}{Q}{y3:zA}{r01:Nat}{b:Nat}{b2:Nat}{p3 c3 cs1 p4 c4},I0.le I→(RL I cs1 Coefs)→(S4 I p4 x.b c4)→NG Q→NO Q→(∀ (I':Imm) (Coefs1:List Int) (x1:zO) (p5:Option Addr) (c5:Nat) (cs2:List Value) (p6:Option Addr) (c6:Nat),o=(Coefs1,x1)→I0.le I'→(RL I' cs2 Coefs1)→(S4 I' p6 x1.b c6)→T 24 B Q (.exit 0) I' [hB b2 [vS p5 Coefs1 c5,vI y3.Const],hO Int (vS p5 Coefs1 c5) cs2,hB r01 (cRd x1 p6 c6),hB b [z0,vI 0]] [(4,vP b 0),(5,vP b2 0)])→J Tryz.prog 24 B (nav (bodyOf Tryz.f197) [1,1,0,1,0]) Q I [hB b2 [vS p3 Coefs c3,vI y3.Const],hO Int (vS p3 Coefs c3) cs1,hB r01 (cRd x p4 c4),hB b [z0,vI 0]] [(0,vP r01 0),(1,vI depth),(4,vP b 0),(5,vP b2 0),(6,vI i)]:=by
 refine qY.partial_correctness depth _ fun self ih i Coefs x o N B I0 I Q y3 r01 b b2 p3 c3 cs1 p4 c4 H h7 h8 hg ho hx=>yZ hg ho<|yG<|yF [(13,.bool (decide (i < depth)))]<|zM<|yL N ?_ ?_
 · intro hc N;refine zW<|yI<|yP ?_;obtain ⟨⟨y5,y6⟩,hy2,N⟩:=zB N;refine wA [.p (vP b2 0) [],.p (vS p3 Coefs c3) [0],.p (vI i) [],.p (vP r01 0) [],.x (fun I' v hx=>∃ b3,v=vS (some ⟨b3,0,none⟩) ([0,1,0,(-1),2,0,9]:List Int) 7∧hx=[]∧(SL I' (vS (some ⟨b3,0,none⟩) ([0,1,0,(-1),2,0,9]:List Int) 7) ([0,1,0,(-1),2,0,9]:List Int))),.x (fun I' v hx=>∃ p7 c7,v=vI y5∧hx=[hB r01 (cRd y6 p7 c7)]∧(S4 I' p7 y6.b c7))] [[],[(0,false)],[],[],[],[(3,false),(4,false),(8,true)]] [hB b2 [vS p3 Coefs c3,vI y3.Const],hO Int (vS p3 Coefs c3) cs1,hB b [z0,vI 0]] [[hB r01 (cRd x p4 c4)]] [(1,false),(2,false),(5,true)] (yB [0,1,3,2]) ?_ ?_
   · refine Op<|Op<|Op<|Op<|Ox ?_<|Ox ?_<|On
     · intro I1 hf le1;refine yM [] ?_;have H:=iS I1;refine xY [vI 0,vI 1,vI 0,vI (-1),vI 2,vI 0,vI 9] Int ?_;intro b3 hb3;have h11:RL I1 [vI 0,vI 1,vI 0,vI (-1),vI 2,vI 0,vI 9] ([0,1,0,(-1),2,0,9]:List Int):=⟨[vI 0],_,rfl,rfl,rfl,⟨[vI 1],_,rfl,rfl,rfl,⟨[vI 0],_,rfl,rfl,rfl,⟨[vI (-1)],_,rfl,rfl,rfl,⟨[vI 2],_,rfl,rfl,rfl,⟨[vI 0],_,rfl,rfl,rfl,⟨[vI 9],_,rfl,rfl,rfl,rfl⟩⟩⟩⟩⟩⟩⟩;refine yJ 0 rfl ?_;intro I03 le3 hl01;have h12:=SL.of_frozen hl01 le3 h11;have H:=H.trans le3;exact yO [] H ⟨_,rfl,rfl,h12⟩
     intro I1 hf le1;refine zF ?_;rintro _ _ ⟨rfl,rfl⟩;refine zF ?_;rintro _ _ ⟨b3,rfl,rfl,h12⟩;refine zF ?_;rintro _ _ rfl;refine yM [(19,vP r01 0),(20,vS (some ⟨b3,0,none⟩) ([0,1,0,(-1),2,0,9]:List Int) 7)] ?_;have H:=iS I1;have h8:=h8.mono le1;refine tM [hB r01 (cRd x p4 c4)] (hB b2 [vS p3 Coefs c3,vI y3.Const]::hO Int (vS p3 Coefs c3) cs1::hB b [z0,vI 0]::hf) (xI x ([0,1,0,(-1),2,0,9]:List Int) _ hy2 h8 h12) ?_;rintro I04 hs2 v2 k2 le4 - ⟨v02,kk1,rfl,rfl,rfl,h14⟩ -;have H:=H.trans le4;obtain ⟨p7,c7,rfl,h15⟩:=yE h14;exact yO [hB r01 (cRd y6 p7 c7)] H ⟨_,_,rfl,rfl,h15⟩
   intro I05 le5;refine zF ?_;rintro _ _ ⟨rfl,rfl⟩;refine zF ?_;rintro _ _ ⟨rfl,rfl⟩;refine zF ?_;rintro _ _ ⟨p7,c7,rfl,rfl,h15⟩;refine yM [(0,vP r01 0),(1,vI depth),(4,vP b 0),(5,vP b2 0),(6,vI i),(17,vS p3 Coefs c3),(18,vI i),(21,vI y5)] ?_;have h7:=iM le5 h7;have H:=H.trans le5;obtain ⟨x2,hy3,N⟩:=zB N;refine nT 2 rfl rfl rfl h7 hy3 ?_;intro ad ccs hat hcc hrep;obtain rfl:=hrep;obtain ⟨l,hy4,N⟩:=zB N;refine qO (c:=[vI y5]) (x':=y5) 2 0 rfl rfl rfl hat rfl rfl hcc (by kernel_rfl) (by kernel_rfl) (by kernel_rfl) h7 hy3 (by kernel_rfl) rfl ?_;rw [show Coefs.set i.toNat y5=l from zC hy4];intro cs3 h16 hl02;exact gA (m':=[(0,vP r01 0),(1,vI depth),(4,vP b 0),(5,vP b2 0),(6,vI i),(17,vS p3 Coefs c3),(18,vI i),(21,vI y5)]) ⟨rfl,rfl,rfl,rfl,rfl,rfl,rfl,rfl,trivial⟩<|zD3 (hs':=[hB r01 (cRd y6 p7 c7),hB b2 [vS p3 l c3,vI y3.Const],hO Int (vS p3 l c3) cs3,hB b [z0,vI 0]]) (m':=[(0,vP r01 0),(1,vI depth),(4,vP b 0),(5,vP b2 0),(6,vI i),(17,vS p3 l c3),(18,vI i),(21,vI y5)]) (by first | rfl | simp only [vS,hl02,List.nil_append,List.cons_append,List.set_cons_zero,List.set_cons_succ,List.eraseIdx_cons_zero,List.eraseIdx_cons_succ]) (by first | rfl | simp only [vS,hl02])<|yH rfl<|zT<|zM<|zQ<|yC [] [(6,vI (W (i + 1)))]<|yY<|pK (yA [1,2,0,3] rfl (by decide))<|vE [(0,vP r01 0),(1,vI depth),(4,vP b 0),(5,vP b2 0),(6,vI (W (i + 1)))]<|ih (W (i + 1)) l y6 _ N H h16 h15 hg ho hx
 intro hc N;exact vW<|yT [(4,vP b 0),(5,vP b2 0)]<|hx _ _ _ _ _ _ _ _ (zC N).symm H h7 h8
def kC (r0:zO) (depth:Int):Option (zA×zO):=do
 let (y1,y2)←yW r0 ([0,1,(-1),2,0,5,(-9),99]:List Int)
 let y3←wP y1
 let (Coefs1,x1)←qY depth 0 y3.Coefs y2
 pure ((zA.mk Coefs1 y3.Const),x1)
theorem zFI:∀ r0 depth r,kC r0 depth=some r→∀ {I:Imm}{r01:Nat}{p c},(S4 I p r0.b c)→RT 197 [vP r01 0,vI depth] I [hB r01 (cRd r0 p c)] (zDo r01 r):=by
 intro r0 depth r N I r01 p c h;unfold kC at N;refine zY (fn:=Tryz.f197) (c:=(bodyOf Tryz.f197)) Tryz.func197 rfl rfl ?_;rintro B - -;refine yK<|wR [z0,vI 0] ?_;intro b hb;refine yH rfl<|xD<|yD 1 [] [(7,vP r01 0)]<|xY [vI 0,vI 1,vI (-1),vI 2,vI 0,vI 5,vI (-9),vI 99] Int ?_;intro b1 hb1;have h1:RL I [vI 0,vI 1,vI (-1),vI 2,vI 0,vI 5,vI (-9),vI 99] ([0,1,(-1),2,0,5,(-9),99]:List Int):=⟨[vI 0],_,rfl,rfl,rfl,⟨[vI 1],_,rfl,rfl,rfl,⟨[vI (-1)],_,rfl,rfl,rfl,⟨[vI 2],_,rfl,rfl,rfl,⟨[vI 0],_,rfl,rfl,rfl,⟨[vI 5],_,rfl,rfl,rfl,⟨[vI (-9)],_,rfl,rfl,rfl,⟨[vI 99],_,rfl,rfl,rfl,rfl⟩⟩⟩⟩⟩⟩⟩⟩;refine yJ 0 rfl ?_;intro I0 le hl0;have h2:=SL.of_frozen hl0 le h1;have h:=h.mono le;refine sU (yB [1,0] (hs':=[hB r01 (cRd r0 p c),hB b [z0,vI 0]])) ?_;obtain ⟨⟨y1,y2⟩,hy,N⟩:=zB N;refine tM [hB r01 (cRd r0 p c)] [hB b [z0,vI 0]] (xI r0 ([0,1,(-1),2,0,5,(-9),99]:List Int) _ hy h h2) ?_;rintro I01 hs2 v2 k2 le1 - ⟨v0,kk,rfl,rfl,rfl,h4⟩ -;obtain ⟨p1,c1,rfl,h5⟩:=yE h4;obtain ⟨y3,hy1,N⟩:=zB N;refine xT (uF y1 _ hy1 ) ?_;rintro I02 hs2 v2 k2 le2 - ⟨p2,c2,cs,rfl,rfl,h6⟩ -;have h5:=h5.mono le2;refine wR [z0,vI 0] ?_;intro b2 hb2;refine xE 0 (cAff y3 p2 c2) [hB b2 (cAff y3 p2 c2),hO Int (vS p2 y3.Coefs c2) cs,hB r01 (cRd y2 p1 c1),hB b [z0,vI 0]] rfl rfl rfl rfl<|yH rfl<|yI<|yF [(6,vI 0)]<|wO<|vE [(0,vP r01 0),(1,vI depth),(4,vP b 0),(5,vP b2 0),(6,vI 0)] ?_;obtain ⟨o0,ho0,hMl⟩:=zB N;refine zDF depth 0 y3.Coefs y2 o0 ho0 iR h6 h5 (fun _ _ _ h=>h) (fun _ _ h=>h) ?_;intro I06 Coefs1 x1 p5 c5 cs2 p6 c6 heq le6 h9 h10;subst o0;refine zX<|xD<|yD 1 [0] [(23,vA [vS p5 Coefs1 c5,vI y3.Const])]<|xE 3 [vS p5 Coefs1 c5,vI y3.Const] [hB b2 [vS p5 Coefs1 c5,vI y3.Const],hO Int (vS p5 Coefs1 c5) cs2,hB r01 (cRd x1 p6 c6),hB b [vS p5 Coefs1 c5,vI y3.Const]] rfl rfl rfl rfl<|yH rfl<|xG<|xP 1 rfl ?_;intro I07 le7 hl03;have h17:=SL.of_frozen hl03 le7 h9;have h10:=h10.mono le7;obtain rfl:=zC hMl;exact xC ⟨_,_,(.cell 2 rfl rfl (by kernel_rfl) ResV.nil),(yA [1] rfl (by decide)),⟨_,_,rfl,rfl,⟨_,rfl,(yQ ⟨_,rfl,h17⟩)⟩,(yR ⟨_,rfl,h10⟩)⟩⟩
def dI (b0:Nat) (r:zG×zO):KT:=fun kk I' hs' v=>
  ∃ v0 k0,hs'=[.blk b0 ⟨k0⟩]∧v=tupV [v0]∧(∃ cs,v0=.agg ⟨cs⟩∧Rp.rep I' cs r.1)∧Rp.rep I' k0 r.2
mutual
def qA (r0:zO) (depth:Int) (levels:Int):Option (zG×zO):=do
 let (t15,x)←(do
   if (decide (levels < 2)) then
    pure (true,r0)
   else
    let (y1,y2)←yV r0 4
    pure ((y1 == 0),y2)
     : Option (Bool×zO))
 if t15 then
  let (y4,y5)←yV x 4
  if (y4 == 0) then
   let (y7,y8)←yW y5 ([1,2,0,99,3]:List Int)
   pure ((zG.mk 1 y7 (zA.mk ([]:List Int) 0) (zJ.mk (⟨[]⟩:Str) ([]:List zA)) ([]:List zG)),y8)
  else
   if (y4 == 1) then
    let (y10,y11)←kC y5 depth
    pure ((zG.mk 2 0 y10 (zJ.mk (⟨[]⟩:Str) ([]:List zA)) ([]:List zG)),y11)
   else
    let (y13,y14)←nN y5 depth
    pure ((zG.mk 3 0 (zA.mk ([]:List Int) 0) y13 ([]:List zG)),y14)
 else
  let (y16,y17)←yW x ([4,6,5,4]:List Int)
  let (Kids1,x2)←pR (same depth) (same levels) (same 0) ([]:List zG) (same y17)
  pure ((zG.mk y16 0 (zA.mk ([]:List Int) 0) (zJ.mk (⟨[]⟩:Str) ([]:List zA)) Kids1),x2)
 partial_fixpoint
def pR (depth:Int) (levels:Int) (i:Int) (Kids:List zG) (x1:zO):Option ((List zG×zO)):=do
 if (decide (i < 2)) then
  let (y19,y20)←qA (same x1) (same depth) (W (levels - 1))
  let l←app 112 Kids ([y19]:List zG)
  pR (same depth) (same levels) (W (i + 1)) (same l) (same y20)
 else
  pure (Kids,x1)
 partial_fixpoint
end
theorem zDp:(∀ (r0:zO) (depth:Int) (levels:Int) r,qA r0 depth levels=some r→∀ {I:Imm}{r01:Nat}{p c},(S4 I p r0.b c)→RT 173 [vP r01 0,vI depth,vI levels] I [hB r01 (cRd r0 p c)] (dI r01 r))∧(∀ (depth:Int) (levels:Int) (i:Int) (Kids:List zG) (x1:zO) o,pR depth levels i Kids x1=some o→∀ {B}{I0 I:Imm}{Q}{y16:Int}{r01:Nat}{b:Nat}{b3:Nat}{p10 c10 cs2 p11 c11},I0.le I→(RL I cs2 Kids)→(S4 I p11 x1.b c11)→NG Q→NO Q→(∀ (I':Imm) (Kids1:List zG) (x2:zO) (p12:Option Addr) (c12:Nat) (cs3:List Value) (p13:Option Addr) (c13:Nat),o=(Kids1,x2)→I0.le I'→(RL I' cs3 Kids1)→(S4 I' p13 x2.b c13)→T 53 B Q (.exit 1) I' [hO zG (vS p12 Kids1 c12) cs3,hB b3 [vI y16,vI 0,z0,vI 0,vT ([]),z0,vS p12 Kids1 c12],hB r01 (cRd x2 p13 c13),hB b zExpr] [(6,vP b 0),(7,vP b3 0)])→J Tryz.prog 53 B (nav (bodyOf Tryz.f173) [1,1,1,0,1,0]) Q I [hO zG (vS p10 Kids c10) cs2,hB b3 [vI y16,vI 0,z0,vI 0,vT ([]),z0,vS p10 Kids c10],hB r01 (cRd x1 p11 c11),hB b zExpr] [(0,vP r01 0),(1,vI depth),(2,vI levels),(6,vP b 0),(7,vP b3 0),(8,vI i)]):=by
  refine qA.mutual_partial_correctness _ _ ?_ ?_
  · intro F_spec_l3Value_l1 ih_spec_l3Value_l1 r0 depth levels r N I r01 p c h;refine zY (fn:=Tryz.f173) (c:=(bodyOf Tryz.f173)) Tryz.func173 rfl rfl ?_;rintro B - -;have H:=iS I;refine yK<|wR zExpr ?_;intro b hb;refine yH rfl<|yI<|yG ?_;obtain ⟨o0,ho0,hMc⟩:=zB N;refine yU (fun I' hs' m'=>∃ (t15:Bool) (x:zO) (p1:Option Addr) (c1:Nat),o0=(t15,x)∧I.le I'∧(S4 I' p1 x.b c1)∧hs'=[hB b zExpr,hB r01 (cRd x p1 c1)]∧m'=[(0,vP r01 0),(1,vI depth),(2,vI levels),(6,vP b 0),(15,.bool t15)]) ?_ ?_
    · have H:=iS I;refine zQ<|yD 3 [] [(11,.bool (decide (levels < 2)))] ?_;cases hc:(decide (levels < 2)) with
      | true =>
       have hM0:=zP hc ho0
       try rw [hc]
       exact yC [] [(15,vY)]<|yT [(0,vP r01 0),(1,vI depth),(2,vI levels),(6,vP b 0),(15,vY)]<|zV ⟨_,_,_,_,(zC hM0).symm,H,h,rfl,rfl⟩
      | false =>
       have hM01:=zL hc ho0
       try rw [hc]
       refine yD 4 [] [(12,vP r01 0)]<|sU (yB [1,0] (hs':=[hB r01 (cRd r0 p c),hB b zExpr])) ?_;obtain ⟨⟨y1,y2⟩,hy,N⟩:=zB hM01;refine tM [hB r01 (cRd r0 p c)] [hB b zExpr] (xH r0 4 _ hy h) ?_;rintro I01 hs2 v2 k2 le - ⟨v0,kk,rfl,rfl,rfl,h3⟩ -;have H:=H.trans le;obtain ⟨p2,c2,rfl,h4⟩:=yE h3;exact yC [] [(15,.bool (y1 == 0))]<|xU (yA [1,0] rfl (by decide))<|yT [(0,vP r01 0),(1,vI depth),(2,vI levels),(6,vP b 0),(15,.bool (y1 == 0))]<|zV ⟨_,_,_,_,(zC N).symm,H,h4,rfl,rfl⟩
    rintro I0 hs2 m2 ⟨t15,x,p1,c1,heq,le1,h1,rfl,rfl⟩;subst o0;refine zM<|yL hMc ?_ ?_
    · intro hc1 N;refine yG<|yK<|yD 1 [] [(16,vP r01 0)]<|sU (yB [1,0] (hs':=[hB r01 (cRd x p1 c1),hB b zExpr])) ?_;obtain ⟨⟨y4,y5⟩,hy1,N⟩:=zB N;refine tM [hB r01 (cRd x p1 c1)] [hB b zExpr] (xH x 4 _ hy1 h1) ?_;rintro I02 hs2 v2 k2 le2 - ⟨v02,kk1,rfl,rfl,rfl,h6⟩ -;obtain ⟨p3,c3,rfl,h7⟩:=yE h6;refine yH rfl<|wO<|yF [(18,.bool (y4 == 0))]<|zM<|yL N ?_ ?_
      · intro hc2 N;refine yK<|yD 1 [] [(20,vP r01 0)]<|xY [vI 1,vI 2,vI 0,vI 99,vI 3] Int ?_;intro b1 hb1;have h8:RL I02 [vI 1,vI 2,vI 0,vI 99,vI 3] ([1,2,0,99,3]:List Int):=⟨[vI 1],_,rfl,rfl,rfl,⟨[vI 2],_,rfl,rfl,rfl,⟨[vI 0],_,rfl,rfl,rfl,⟨[vI 99],_,rfl,rfl,rfl,⟨[vI 3],_,rfl,rfl,rfl,rfl⟩⟩⟩⟩⟩;refine yJ 0 rfl ?_;intro I03 le3 hl0;have h9:=SL.of_frozen hl0 le3 h8;have h7:=h7.mono le3;obtain ⟨⟨y7,y8⟩,hy2,N⟩:=zB N;refine tM [hB r01 (cRd y5 p3 c3)] [hB b zExpr] (xI y5 ([1,2,0,99,3]:List Int) _ hy2 h7 h9) ?_;rintro I04 hs2 v2 k2 le4 - ⟨v04,kk2,rfl,rfl,rfl,h11⟩ -;obtain ⟨p4,c4,rfl,h12⟩:=yE h11;refine yD 4 [] [(23,vA [vI 1,vI y7,z0,vI 0,vT ([]),z0,z0])]<|xE 1 [vI 1,vI y7,z0,vI 0,vT ([]),z0,z0] [hB r01 (cRd y8 p4 c4),hB b [vI 1,vI y7,z0,vI 0,vT ([]),z0,z0]] rfl rfl rfl rfl<|yH rfl<|xG<|zZ<|zH<|zH ?_;obtain rfl:=zC N;exact xC ⟨_,_,(.cell 1 rfl rfl (by kernel_rfl) ResV.nil),(yA [0] rfl (by decide)),⟨_,_,rfl,rfl,⟨_,rfl,(xX ⟨_,_,_,rfl,(SL.nil _),(SL.nil _),(SL.nil _)⟩)⟩,(yR ⟨_,rfl,h12⟩)⟩⟩
      intro hc2 N;refine yF [(24,.bool (y4 == 1))]<|zM<|yL N ?_ ?_
      · intro hc3 N;refine yK<|yD 2 [] [(26,vP r01 0),(27,vI depth)] ?_;obtain ⟨⟨y10,y11⟩,hy3,N⟩:=zB N;refine tM [hB r01 (cRd y5 p3 c3)] [hB b zExpr] (zFI y5 depth _ hy3 h7) ?_;rintro I05 hs2 v2 k2 le5 - ⟨v06,kk3,rfl,rfl,⟨cs,rfl,h13⟩,h14⟩ -;obtain ⟨p5,c5,rfl,h15⟩:=yN h13;obtain ⟨p6,c6,rfl,h16⟩:=yE h14;refine yD 4 [] [(29,vA [vI 2,vI 0,vS p5 y10.Coefs c5,vI y10.Const,vT ([]),z0,z0])]<|xE 1 [vI 2,vI 0,vS p5 y10.Coefs c5,vI y10.Const,vT ([]),z0,z0] [hB r01 (cRd y11 p6 c6),hB b [vI 2,vI 0,vS p5 y10.Coefs c5,vI y10.Const,vT ([]),z0,z0]] rfl rfl rfl rfl<|yH rfl<|xG<|zZ<|zH<|zH ?_;obtain rfl:=zC N;exact xC ⟨_,_,(.cell 1 rfl rfl (by kernel_rfl) ResV.nil),(yA [0] rfl (by decide)),⟨_,_,rfl,rfl,⟨_,rfl,(xX ⟨_,_,_,rfl,h15,(SL.nil _),(SL.nil _)⟩)⟩,(yR ⟨_,rfl,h16⟩)⟩⟩
      intro hc3 N;refine zW<|zT<|xD<|yD 2 [] [(30,vP r01 0),(31,vI depth)] ?_;obtain ⟨⟨y13,y14⟩,hy4,N⟩:=zB N;refine tM [hB r01 (cRd y5 p3 c3)] [hB b zExpr] (zBO y5 depth _ hy4 h7) ?_;rintro I06 hs2 v2 k2 le6 - ⟨v09,kk4,rfl,rfl,⟨cs1,rfl,h17⟩,h18⟩ -;obtain ⟨p7,c7,rfl,h19⟩:=pM h17;obtain ⟨p8,c8,rfl,h20⟩:=yE h18;refine yD 4 [] [(33,vA [vI 3,vI 0,z0,vI 0,vT y13.Array.l,vS p7 y13.Subs c7,z0])]<|xE 1 [vI 3,vI 0,z0,vI 0,vT y13.Array.l,vS p7 y13.Subs c7,z0] [hB r01 (cRd y14 p8 c8),hB b [vI 3,vI 0,z0,vI 0,vT y13.Array.l,vS p7 y13.Subs c7,z0]] rfl rfl rfl rfl<|yH rfl<|xG<|zH ?_;obtain rfl:=zC N;exact xC ⟨_,_,(.cell 1 rfl rfl (by kernel_rfl) ResV.nil),(yA [0] rfl (by decide)),⟨_,_,rfl,rfl,⟨_,rfl,(xX ⟨_,_,_,rfl,(SL.nil _),h19,(SL.nil _)⟩)⟩,(yR ⟨_,rfl,h20⟩)⟩⟩
    intro hc1 N;refine zW<|xD<|yD 1 [] [(34,vP r01 0)]<|xY [vI 4,vI 6,vI 5,vI 4] Int ?_;intro b2 hb2;have h21:RL I0 [vI 4,vI 6,vI 5,vI 4] ([4,6,5,4]:List Int):=⟨[vI 4],_,rfl,rfl,rfl,⟨[vI 6],_,rfl,rfl,rfl,⟨[vI 5],_,rfl,rfl,rfl,⟨[vI 4],_,rfl,rfl,rfl,rfl⟩⟩⟩⟩;refine yJ 0 rfl ?_;intro I07 le7 hl01;have h22:=SL.of_frozen hl01 le7 h21;have h1:=h1.mono le7;refine sU (yB [1,0] (hs':=[hB r01 (cRd x p1 c1),hB b zExpr])) ?_;obtain ⟨⟨y16,y17⟩,hy5,N⟩:=zB N;refine tM [hB r01 (cRd x p1 c1)] [hB b zExpr] (xI x ([4,6,5,4]:List Int) _ hy5 h1 h22) ?_;rintro I08 hs2 v2 k2 le8 - ⟨v012,kk5,rfl,rfl,rfl,h24⟩ -;obtain ⟨p9,c9,rfl,h25⟩:=yE h24;refine yD 4 [] [(37,vA [vI y16,vI 0,z0,vI 0,vT ([]),z0,z0])]<|wR zExpr ?_;intro b3 hb3;refine xE 0 [vI y16,vI 0,z0,vI 0,vT ([]),z0,z0] [hB b3 [vI y16,vI 0,z0,vI 0,vT ([]),z0,z0],hB r01 (cRd y17 p9 c9),hB b zExpr] rfl rfl rfl rfl<|yH rfl<|yI<|yF [(8,vI 0)]<|wO<|vE [(0,vP r01 0),(1,vI depth),(2,vI levels),(6,vP b 0),(7,vP b3 0),(8,vI 0)]<|pK (vM (Rp.sz zG)) ?_;have h26:RL I08 [] ([]:List zG):=RepL.nil;obtain ⟨o01,ho01,hMl⟩:=zB N;refine ih_spec_l3Value_l1 depth levels 0 ([]:List zG) y17 o01 ho01 iR h26 h25 (fun _ _ _ h=>h) (fun _ _ h=>h) ?_;intro I012 Kids1 x2 p12 c12 cs3 p13 c13 heq1 le12 h29 h30;subst o01;refine zX<|xD<|yD 1 [1] [(52,vA [vI y16,vI 0,z0,vI 0,vT ([]),z0,vS p12 Kids1 c12])]<|xE 3 [vI y16,vI 0,z0,vI 0,vT ([]),z0,vS p12 Kids1 c12] [hO zG (vS p12 Kids1 c12) cs3,hB b3 [vI y16,vI 0,z0,vI 0,vT ([]),z0,vS p12 Kids1 c12],hB r01 (cRd x2 p13 c13),hB b [vI y16,vI 0,z0,vI 0,vT ([]),z0,vS p12 Kids1 c12]] rfl rfl rfl rfl<|yH rfl<|xG<|xP 0 rfl ?_;intro I013 le13 hl03;have h40:=SL.of_frozen hl03 le13 h29;have h30:=h30.mono le13;obtain rfl:=zC hMl;exact xC ⟨_,_,(.cell 2 rfl rfl (by kernel_rfl) ResV.nil),(yA [1] rfl (by decide)),⟨_,_,rfl,rfl,⟨_,rfl,(xX ⟨_,_,_,rfl,(SL.nil _),(SL.nil _),h40⟩)⟩,(yR ⟨_,rfl,h30⟩)⟩⟩
  intro F_spec_l3Value F_spec_l3Value_l1 ih_spec_l3Value ih_spec_l3Value_l1 depth levels i Kids x1 o N B I0 I Q y16 r01 b b3 p10 c10 cs2 p11 c11 H h27 h28 hg ho hx;refine yZ hg ho<|yG<|yF [(39,.bool (decide (i < 2)))]<|zM<|yL N ?_ ?_
  · intro hc4 N;refine zW<|yI<|yP ?_;obtain ⟨⟨y19,y20⟩,hy6,N⟩:=zB N;obtain ⟨l,hy7,N⟩:=zB N;refine wA [.p (vP b3 6) [],.p (vS p10 Kids c10) [0],.p (vP r01 0) [],.p (vI depth) [],.p (vI levels) [],.p (vI (W (levels - 1))) [],.x (fun I' v hx=>∃ p14 c14 p15 c15 p16 c16 p17 c17,v=vA (cExpr y19 p14 c14 p15 c15 p16 c16)∧hx=[hB r01 (cRd y20 p17 c17)]∧(S4 I' p14 y19.Index.Coefs c14)∧(S4 I' p15 y19.Read.Subs c15)∧(S4 I' p16 y19.Kids c16)∧(S4 I' p17 y20.b c17)),.x (fun I' v hx=>∃ b4,v=vS (some ⟨b4,0,none⟩) ([y19]:List zG) 1∧hx=[]∧(SL I' (vS (some ⟨b4,0,none⟩) ([y19]:List zG) 1) ([y19]:List zG))),.x (fun I' v hx=>∃ p18 c18 cs5,v=vS p18 l c18∧hx=[hO zG (vS p18 l c18) cs5]∧(RL I' cs5 l))] [[],[(0,false)],[],[],[],[(4,false)],[(2,false),(3,false),(5,false),(11,true)],[(6,false)],[(1,false),(7,false),(12,true)]] [hB b3 [vI y16,vI 0,z0,vI 0,vT ([]),z0,vS p10 Kids c10],hB b zExpr] [[hB r01 (cRd x1 p11 c11)],[hO zG (vS p10 Kids c10) cs2]] [(6,true),(8,true)] (yB [1,3,2,0]) ?_ ?_
    · refine Op<|Op<|Op<|Op<|Op<|Op<|Ox ?_<|Ox ?_<|Ox ?_<|On
      · intro I1 hf le1;refine zF ?_;rintro _ _ ⟨rfl,rfl⟩;refine zF ?_;rintro _ _ ⟨rfl,rfl⟩;refine zF ?_;rintro _ _ ⟨rfl,rfl⟩;refine zF ?_;rintro _ _ rfl;refine yM [(44,vP r01 0),(45,vI depth),(47,vI (W (levels - 1)))] ?_;have H:=iS I1;have h28:=h28.mono le1;refine tM [hB r01 (cRd x1 p11 c11)] (hB b3 [vI y16,vI 0,z0,vI 0,vT ([]),z0,vS p10 Kids c10]::hB b zExpr::hf) (ih_spec_l3Value x1 depth (W (levels - 1)) _ hy6 h28) ?_;rintro I09 hs2 v2 k2 le9 - ⟨v014,kk6,rfl,rfl,⟨cs4,rfl,h31⟩,h32⟩ -;have H:=H.trans le9;obtain ⟨p14,c14,p15,c15,p16,c16,rfl,h33,h34,h35⟩:=xV h31;obtain ⟨p17,c17,rfl,h36⟩:=yE h32;exact yO [hB r01 (cRd y20 p17 c17)] H ⟨_,_,_,_,_,_,_,_,rfl,rfl,h33,h34,h35,h36⟩
      · intro I1 hf le1;refine zF ?_;rintro _ _ ⟨p14,c14,p15,c15,p16,c16,p17,c17,rfl,rfl,h33,h34,h35,h36⟩;refine yM [(48,vA (cExpr y19 p14 c14 p15 c15 p16 c16))] ?_;have H:=iS I1;refine xY (cExpr y19 p14 c14 p15 c15 p16 c16) zG ?_;intro b4 hb4;have h37:RL I1 (cExpr y19 p14 c14 p15 c15 p16 c16) ([y19]:List zG):=⟨(cExpr y19 p14 c14 p15 c15 p16 c16),_,rfl,rfl,(xX ⟨_,_,_,rfl,h33,h34,h35⟩),rfl⟩;refine yJ 0 rfl ?_;intro I010 le10 hl02;have h38:=SL.of_frozen hl02 le10 h37;have H:=H.trans le10;exact yO [] H ⟨_,rfl,rfl,h38⟩
      intro I1 hf le1;refine zF ?_;rintro _ _ ⟨rfl,rfl⟩;refine zF ?_;rintro _ _ ⟨b4,rfl,rfl,h38⟩;refine zF ?_;rintro _ _ rfl;refine yM [(43,vS p10 Kids c10),(49,vS (some ⟨b4,0,none⟩) ([y19]:List zG) 1)] ?_;have h27:=iM le1 h27;obtain ⟨ccs,k0,k01⟩:=h38;have h38:SL I1 (vS (some ⟨b4,0,none⟩) ([y19]:List zG) 1) ([y19]:List zG):=⟨_,k0,k01⟩;exact pG 47 7 0 rfl rfl rfl h27 (.inl k0) k01 hy7 fun p18 c18 cs5 h39=>uC (hs':=(hO zG (vS p18 l c18) cs5::hB b3 [vI y16,vI 0,z0,vI 0,vT ([]),z0,vS p10 Kids c10]::hB b zExpr::hf)) rfl<|yO [hO zG (vS p18 l c18) cs5] iR ⟨_,_,_,rfl,rfl,h39⟩
    intro I011 le11;refine zF ?_;rintro _ _ ⟨p14,c14,p15,c15,p16,c16,p17,c17,rfl,rfl,h33,h34,h35,h36⟩;refine zF ?_;rintro _ _ ⟨p18,c18,cs5,rfl,rfl,h39⟩;refine yM [(0,vP r01 0),(1,vI depth),(2,vI levels),(6,vP b 0),(7,vP b3 0),(8,vI i),(50,vS p18 l c18)] ?_;have H:=H.trans le11;exact yD 10 [] [(51,vP b3 6)]<|xE 2 [vI y16,vI 0,z0,vI 0,vT ([]),z0,vS p18 l c18] [hO zG (vS p18 l c18) cs5,hB r01 (cRd y20 p17 c17),hB b3 [vI y16,vI 0,z0,vI 0,vT ([]),z0,vS p18 l c18],hB b zExpr] rfl rfl rfl rfl<|yH rfl<|zT<|zM<|zQ<|yC [] [(8,vI (W (i + 1)))]<|yY<|pK (yA [0,2,1,3] rfl (by decide))<|vE [(0,vP r01 0),(1,vI depth),(2,vI levels),(6,vP b 0),(7,vP b3 0),(8,vI (W (i + 1)))]<|ih_spec_l3Value_l1 depth levels (W (i + 1)) l y20 _ N H h39 h36 hg ho hx
  intro hc4 N;exact vW<|yT [(6,vP b 0),(7,vP b3 0)]<|hx _ _ _ _ _ _ _ _ (zC N).symm H h27 h28
theorem zEW:∀ r0 depth levels r,qA r0 depth levels=some r→∀ {I:Imm}{r01:Nat}{p c},(S4 I p r0.b c)→RT 173 [vP r01 0,vI depth,vI levels] I [hB r01 (cRd r0 p c)] (dI r01 r):=zDp.1
def zDq (b0:Nat) (r:zI×zO):KT:=fun kk I' hs' v=>
  ∃ v0 k0,hs'=[.blk b0 ⟨k0⟩]∧v=tupV [v0]∧(∃ cs,v0=.agg ⟨cs⟩∧Rp.rep I' cs r.1)∧Rp.rep I' k0 r.2
def jL (r0:zO) (depth:Int):Option (zI×zO):=do
 let (y1,y2)←nN r0 depth
 let (y4,y5)←yW y2 ([2,3,1,2]:List Int)
 let (y7,y8)←qA y5 depth y4
 let y9←sD (zI.mk y1 y7) depth
 if y9 then
  pure ((zI.mk y1 y7),y8)
 else
  let y10←pH
  pure ((zI.mk (zJ.mk (⟨[65]⟩:Str) ([y10]:List zA)) (zG.mk 1 1 (zA.mk ([]:List Int) 0) (zJ.mk (⟨[]⟩:Str) ([]:List zA)) ([]:List zG))),y8)
theorem zFJ:∀ r0 depth r,jL r0 depth=some r→∀ {I:Imm}{r01:Nat}{p c},(S4 I p r0.b c)→RT 138 [vP r01 0,vI depth] I [hB r01 (cRd r0 p c)] (zDq r01 r):=by
 intro r0 depth r N I r01 p c h;unfold jL at N;refine zY (fn:=Tryz.f138) (c:=(bodyOf Tryz.f138)) Tryz.func138 rfl rfl ?_;rintro B - -;refine yK<|wR [vT ([]),z0,vI 0,vI 0,z0,vI 0,vT ([]),z0,z0] ?_;intro b hb;refine yH rfl<|xD<|yD 2 [] [(6,vP r01 0),(7,vI depth)]<|sU (yB [1,0] (hs':=[hB r01 (cRd r0 p c),hB b [vT ([]),z0,vI 0,vI 0,z0,vI 0,vT ([]),z0,z0]])) ?_;obtain ⟨⟨y1,y2⟩,hy,N⟩:=zB N;refine tM [hB r01 (cRd r0 p c)] [hB b [vT ([]),z0,vI 0,vI 0,z0,vI 0,vT ([]),z0,z0]] (zBO r0 depth _ hy h) ?_;rintro I0 hs2 v2 k2 le - ⟨v0,kk,rfl,rfl,⟨cs,rfl,h1⟩,h2⟩ -;obtain ⟨p1,c1,rfl,h3⟩:=pM h1;obtain ⟨p2,c2,rfl,h4⟩:=yE h2;refine yD 6 [] [(9,vP r01 0),(10,vI depth),(11,vP r01 0)]<|xY [vI 2,vI 3,vI 1,vI 2] Int ?_;intro b1 hb1;have h5:RL I0 [vI 2,vI 3,vI 1,vI 2] ([2,3,1,2]:List Int):=⟨[vI 2],_,rfl,rfl,rfl,⟨[vI 3],_,rfl,rfl,rfl,⟨[vI 1],_,rfl,rfl,rfl,⟨[vI 2],_,rfl,rfl,rfl,rfl⟩⟩⟩⟩;refine yJ 0 rfl ?_;intro I01 le1 hl0;have h6:=SL.of_frozen hl0 le1 h5;have h3:=h3.mono le1;have h4:=h4.mono le1;obtain ⟨⟨y4,y5⟩,hy1,N⟩:=zB N;refine tM [hB r01 (cRd y2 p2 c2)] [hB b [vT ([]),z0,vI 0,vI 0,z0,vI 0,vT ([]),z0,z0]] (xI y2 ([2,3,1,2]:List Int) _ hy1 h4 h6) ?_;rintro I02 hs2 v2 k2 le2 - ⟨v03,kk1,rfl,rfl,rfl,h8⟩ -;have h3:=h3.mono le2;obtain ⟨p3,c3,rfl,h9⟩:=yE h8;obtain ⟨⟨y7,y8⟩,hy2,N⟩:=zB N;refine tM [hB r01 (cRd y5 p3 c3)] [hB b [vT ([]),z0,vI 0,vI 0,z0,vI 0,vT ([]),z0,z0]] (zEW y5 depth y4 _ hy2 h9) ?_;rintro I03 hs2 v2 k2 le3 - ⟨v05,kk2,rfl,rfl,⟨cs1,rfl,h10⟩,h11⟩ -;have h3:=h3.mono le3;obtain ⟨p4,c4,p5,c5,p6,c6,rfl,h12,h13,h14⟩:=xV h10;obtain ⟨p7,c7,rfl,h15⟩:=yE h11;refine yD 10 [] [(15,vA [vT y1.Array.l,vS p1 y1.Subs c1,vI y7.Kind,vI y7.Num,vS p4 y7.Index.Coefs c4,vI y7.Index.Const,vT y7.Read.Array.l,vS p5 y7.Read.Subs c5,vS p6 y7.Kids c6])]<|wR [vT ([]),z0,vI 0,vI 0,z0,vI 0,vT ([]),z0,z0] ?_;intro b2 hb2;refine xE 0 [vT y1.Array.l,vS p1 y1.Subs c1,vI y7.Kind,vI y7.Num,vS p4 y7.Index.Coefs c4,vI y7.Index.Const,vT y7.Read.Array.l,vS p5 y7.Read.Subs c5,vS p6 y7.Kids c6] [hB b2 [vT y1.Array.l,vS p1 y1.Subs c1,vI y7.Kind,vI y7.Num,vS p4 y7.Index.Coefs c4,vI y7.Index.Const,vT y7.Read.Array.l,vS p5 y7.Read.Subs c5,vS p6 y7.Kids c6],hB r01 (cRd y8 p7 c7),hB b [vT ([]),z0,vI 0,vI 0,z0,vI 0,vT ([]),z0,z0]] rfl rfl rfl rfl<|yH rfl<|yI<|yK<|yD 2 [0] [(16,vA [vT y1.Array.l,vS p1 y1.Subs c1,vI y7.Kind,vI y7.Num,vS p4 y7.Index.Coefs c4,vI y7.Index.Const,vT y7.Read.Array.l,vS p5 y7.Read.Subs c5,vS p6 y7.Kids c6]),(17,vI depth)]<|bE N fun y9 hy3 N=>vJ (gF (zI.mk y1 y7) depth _ hy3 h3 h12 h13 h14) ?_;intro I04 le4;have h3:=h3.mono le4;have h12:=h12.mono le4;have h13:=h13.mono le4;have h14:=h14.mono le4;have h15:=h15.mono le4;refine yH rfl<|zM<|yL N ?_ ?_
 · intro hc N;refine yK<|yD 1 [0] [(19,vA [vT y1.Array.l,vS p1 y1.Subs c1,vI y7.Kind,vI y7.Num,vS p4 y7.Index.Coefs c4,vI y7.Index.Const,vT y7.Read.Array.l,vS p5 y7.Read.Subs c5,vS p6 y7.Kids c6])]<|xE 2 [vT y1.Array.l,vS p1 y1.Subs c1,vI y7.Kind,vI y7.Num,vS p4 y7.Index.Coefs c4,vI y7.Index.Const,vT y7.Read.Array.l,vS p5 y7.Read.Subs c5,vS p6 y7.Kids c6] [hB b2 [vT y1.Array.l,vS p1 y1.Subs c1,vI y7.Kind,vI y7.Num,vS p4 y7.Index.Coefs c4,vI y7.Index.Const,vT y7.Read.Array.l,vS p5 y7.Read.Subs c5,vS p6 y7.Kids c6],hB r01 (cRd y8 p7 c7),hB b [vT y1.Array.l,vS p1 y1.Subs c1,vI y7.Kind,vI y7.Num,vS p4 y7.Index.Coefs c4,vI y7.Index.Const,vT y7.Read.Array.l,vS p5 y7.Read.Subs c5,vS p6 y7.Kids c6]] rfl rfl rfl rfl<|yH rfl<|xG<|zH ?_;obtain rfl:=zC N;exact xC ⟨_,_,(.cell 2 rfl rfl (by kernel_rfl) ResV.nil),(yA [1] rfl (by decide)),⟨_,_,rfl,rfl,⟨_,rfl,(wM ⟨_,_,_,_,rfl,h3,h12,h13,h14⟩)⟩,(yR ⟨_,rfl,h15⟩)⟩⟩
 intro hc N;refine zW<|xD<|bE N fun y10 hy4 N=>xT (nW  _ hy4 ) ?_;rintro I05 hs2 v2 k2 le5 - ⟨p8,c8,cs2,rfl,rfl,h17⟩ -;have h15:=h15.mono le5;refine yJ 0 rfl ?_;intro I06 le6 hl01;have h18:=SL.of_frozen hl01 le6 h17;have h15:=h15.mono le6;refine xY (cAff y10 p8 c8) zA ?_;intro b3 hb3;have h19:RL I06 (cAff y10 p8 c8) ([y10]:List zA):=⟨(cAff y10 p8 c8),_,rfl,rfl,(yQ ⟨_,rfl,h18⟩),rfl⟩;refine yD 5 [] [(24,vA [vT ([65]),vS (some ⟨b3,0,none⟩) ([y10]:List zA) 1,vI 1,vI 1,z0,vI 0,vT ([]),z0,z0])]<|xE 3 [vT ([65]),vS (some ⟨b3,0,none⟩) ([y10]:List zA) 1,vI 1,vI 1,z0,vI 0,vT ([]),z0,z0] [hO zA (vS (some ⟨b3,0,none⟩) ([y10]:List zA) 1) (cAff y10 p8 c8),hB b2 [vT y1.Array.l,vS p1 y1.Subs c1,vI y7.Kind,vI y7.Num,vS p4 y7.Index.Coefs c4,vI y7.Index.Const,vT y7.Read.Array.l,vS p5 y7.Read.Subs c5,vS p6 y7.Kids c6],hB r01 (cRd y8 p7 c7),hB b [vT ([65]),vS (some ⟨b3,0,none⟩) ([y10]:List zA) 1,vI 1,vI 1,z0,vI 0,vT ([]),z0,z0]] rfl rfl rfl rfl<|yH rfl<|xG<|xP 0 rfl ?_;intro I07 le7 hl02;have h20:=SL.of_frozen hl02 le7 h19;have h15:=h15.mono le7;obtain rfl:=zC N;exact xC ⟨_,_,(.cell 2 rfl rfl (by kernel_rfl) ResV.nil),(yA [1] rfl (by decide)),⟨_,_,rfl,rfl,⟨_,rfl,(wM ⟨_,_,_,_,rfl,h20,(SL.nil _),(SL.nil _),(SL.nil _)⟩)⟩,(yR ⟨_,rfl,h15⟩)⟩⟩
def dJ (r:(List zD)×Bool):KT:=fun kk I' hs' v=>
  ∃ v0 v1,hs'=[]∧v=tupV [v0,v1]∧SL I' v0 r.1∧v1=.bool r.2
def qB (sizes:(List Int)) (out:List zD) (i:Int):Option (Out (List zD) ((List zD)×Bool)):=do
 if (decide (i < (sizes.length:Int))) then
  let t28←(do
    let x←idx sizes i
    if (decide (x < 0)) then
     pure true
    else
     let x1←idx sizes i
     pure (decide (x1 > 99))
      : Option Bool)
  if t28 then
   pure (.ret (([]:List zD),false))
  else
   let y←pH
   let x2←idx sizes i
   let y1←wP x2
   let out2←app 48 out ([(zD.mk ([y]:List zA) ([y1]:List zA))]:List zD)
   qB sizes out2 (W (i + 1))
 else
  pure (.done out)
 partial_fixpoint
theorem zCQ (sizes:(List Int)):∀ (out:List zD) (i:Int) (o:Out (List zD) ((List zD)×Bool)),qB sizes out i=some o→∀ {B}{I0 I:Imm}{Q p c p1 c1 cs},I0.le I→(S4 I p sizes c)→(RL I cs out)→NG Q→NO Q→(∀ (I':Imm) (out1:List zD) (p2:Option Addr) (c2:Nat) (cs1:List Value),o=(.done out1)→I0.le I'→(RL I' cs1 out1)→T 43 B Q (.exit 0) I' [hO zD (vS p2 out1 c2) cs1] [(4,vS p2 out1 c2)])→(∀ r I' hs' m',o=(.ret r)→I0.le I'→RS Tryz.prog Tryz.f140 B (dJ  r) I' hs' m'→T 43 B Q .ret I' hs' m')→J Tryz.prog 43 B (nav (bodyOf Tryz.f140) [1,1,1,0,1,0]) Q I [hO zD (vS p1 out c1) cs] [(0,vS p sizes c),(4,vS p1 out c1),(5,vI i)]:=by
 refine qB.partial_correctness sizes _ fun self ih out i o N B I0 I Q p c p1 c1 cs H h h3 hg ho hx hr=>yZ hg ho<|yG<|yF [(14,.bool (decide (i < (sizes.length:Int))))]<|zM<|yL N ?_ ?_
 · intro hc1 N;refine zW<|yI<|yP<|yG<|yG ?_;obtain ⟨o0,ho0,hMc⟩:=zB N;refine yU (fun I' hs' m'=>∃ (t28:Bool),o0=t28∧I.le I'∧hs'=[hO zD (vS p1 out c1) cs]∧m'=[(0,vS p sizes c),(4,vS p1 out c1),(5,vI i),(28,.bool t28)]) ?_ ?_
   · have H:=iS I;refine zQ<|yD 2 [] [(17,vS p sizes c),(18,vI i)] ?_;obtain ⟨x,hy,N⟩:=zB ho0;refine xS rfl rfl h hy ?_;intro ad ccs hat hrep;obtain rfl:=hrep;refine xM 0 hat [vI x] (vI x) rfl<|yD 6 [] [(22,.bool (decide (x < 0)))] ?_;cases hc2:(decide (x < 0)) with
     | true =>
      have hM0:=zP hc2 N
      try rw [hc2]
      exact yC [] [(28,vY)]<|yT [(0,vS p sizes c),(4,vS p1 out c1),(5,vI i),(28,vY)]<|zV (ct hM0 H)
     | false =>
      have hM01:=zL hc2 N
      try rw [hc2]
      refine yD 8 [] [(23,vS p sizes c),(24,vI i)] ?_;obtain ⟨x1,hy1,N⟩:=zB hM01;refine xS rfl rfl h hy1 ?_;intro ad1 ccs1 hat1 hrep1;obtain rfl:=hrep1;exact xM 0 hat1 [vI x1] (vI x1) rfl<|yC [] [(28,.bool (decide (x1 > 99)))]<|yT [(0,vS p sizes c),(4,vS p1 out c1),(5,vI i),(28,.bool (decide (x1 > 99)))]<|zV (ct N H)
   rintro I01 hs2 m2 ⟨t28,heq,le1,rfl,rfl⟩;subst o0;have h:=h.mono le1;have h3:=iM le1 h3;have H:=H.trans le1;refine zM<|yL hMc ?_ ?_
   · intro hc3 N;refine yK<|xY [] zD ?_;intro b1 hb1;have h5:RL I01 [] ([]:List zD):=rfl;refine yC [] [(2,vS (some ⟨b1,0,none⟩) ([]:List zD) 0),(3,vF)]<|xG<|zH<|zZ<|zH<|zH<|xP 0 rfl ?_;intro I02 le2 hl01;have h6:=SL.of_frozen hl01 le2 h5;have H:=H.trans le2;exact hr _ _ _ _ (zC N).symm H ⟨_,_,(.tmp rfl (.tmp rfl ResV.nil)),zR,⟨_,_,rfl,rfl,h6,rfl⟩⟩
   intro hc3 N;refine zW<|zM ?_;obtain ⟨y,hy2,N⟩:=zB N;obtain ⟨x2,hy3,N⟩:=zB N;obtain ⟨y1,hy4,N⟩:=zB N;obtain ⟨out2,hy5,N⟩:=zB N;refine wA [.p (vS p1 out c1) [],.x (fun I' v hx=>∃ p3 c3 cs2,v=vA (cAff y p3 c3)∧hx=[hO Int (vS p3 y.Coefs c3) cs2]∧(RL I' cs2 y.Coefs)),.x (fun I' v hx=>∃ b2,v=vS (some ⟨b2,0,none⟩) ([y]:List zA) 1∧hx=[]∧(SL I' (vS (some ⟨b2,0,none⟩) ([y]:List zA) 1) ([y]:List zA))),.p (vS p sizes c) [],.p (vI i) [],.x (fun I' v hx=>∃ ad2,v=.pointer (some ad2)∧hx=[]∧(At I' ad2 [vI x2])),.q (vI x2),.x (fun I' v hx=>∃ p4 c4 cs3,v=vA (cAff y1 p4 c4)∧hx=[hO Int (vS p4 y1.Coefs c4) cs3]∧(RL I' cs3 y1.Coefs)),.x (fun I' v hx=>∃ b3,v=vS (some ⟨b3,0,none⟩) ([y1]:List zA) 1∧hx=[]∧(SL I' (vS (some ⟨b3,0,none⟩) ([y1]:List zA) 1) ([y1]:List zA))),.x (fun I' v hx=>∃ b21 b31,v=vA [vS (some ⟨b21,0,none⟩) ([y]:List zA) 1,vS (some ⟨b31,0,none⟩) ([y1]:List zA) 1]∧hx=[]∧(SL I' (vS (some ⟨b21,0,none⟩) ([y]:List zA) 1) ([y]:List zA))∧(SL I' (vS (some ⟨b31,0,none⟩) ([y1]:List zA) 1) ([y1]:List zA))),.x (fun I' v hx=>∃ b4,v=vS (some ⟨b4,0,none⟩) ([(zD.mk ([y]:List zA) ([y1]:List zA))]:List zD) 1∧hx=[]∧(SL I' (vS (some ⟨b4,0,none⟩) ([(zD.mk ([y]:List zA) ([y1]:List zA))]:List zD) 1) ([(zD.mk ([y]:List zA) ([y1]:List zA))]:List zD))),.x (fun I' v hx=>∃ p5 c5 cs4,v=vS p5 out2 c5∧hx=[hO zD (vS p5 out2 c5) cs4]∧(RL I' cs4 out2))] [[],[],[(1,true)],[],[],[(3,false),(4,false)],[(5,false)],[(6,false)],[(7,true)],[(2,false),(8,false)],[(9,false)],[(0,false),(10,false),(13,true)]] [] [[hO zD (vS p1 out c1) cs]] [(11,true)] (yB [0]) ?_ ?_
   · refine Op<|Ox ?_<|Ox ?_<|Op<|Op<|Ox ?_<|Oq ?_<|Ox ?_<|Ox ?_<|Ox ?_<|Ox ?_<|Ox ?_<|On
     · intro I1 hf le1;refine yM [] ?_;have H:=iS I1;refine xT (nW  _ hy2 ) ?_;rintro I03 hs2 v2 k2 le3 - ⟨p3,c3,cs2,rfl,rfl,h7⟩ -;have H:=H.trans le3;exact yO [hO Int (vS p3 y.Coefs c3) cs2] H ⟨_,_,_,rfl,rfl,h7⟩
     · intro I1 hf le1;refine zF ?_;rintro _ _ ⟨p3,c3,cs2,rfl,rfl,h7⟩;refine yM [(31,vA (cAff y p3 c3))] ?_;have H:=iS I1;refine yJ 0 rfl ?_;intro I04 le4 hl02;have h8:=SL.of_frozen hl02 le4 h7;have H:=H.trans le4;refine xY (cAff y p3 c3) zA ?_;intro b2 hb2;have h9:RL I04 (cAff y p3 c3) ([y]:List zA):=⟨(cAff y p3 c3),_,rfl,rfl,(yQ ⟨_,rfl,h8⟩),rfl⟩;refine yJ 0 rfl ?_;intro I05 le5 hl03;have h10:=SL.of_frozen hl03 le5 h9;have H:=H.trans le5;exact yO [] H ⟨_,rfl,rfl,h10⟩
     · intro I1 hf le1;refine yM [(33,vS p sizes c),(34,vI i)] ?_;have h:=h.mono le1;refine xS rfl rfl h hy3 ?_;intro ad2 ccs2 hat2 hrep2;obtain rfl:=hrep2;exact yO [] iR ⟨_,rfl,rfl,hat2⟩
     · intro I1 hf le1;refine zF ?_;rintro _ _ ⟨ad2,rfl,rfl,hat2⟩;exact yM [(35,.pointer (some ad2))]<|xM 0 hat2 [vI x2] (vI x2) rfl<|yS iR
     · intro I1 hf le1;refine yM [(36,vI x2)] ?_;have H:=iS I1;refine xT (uF x2 _ hy4 ) ?_;rintro I06 hs2 v2 k2 le6 - ⟨p4,c4,cs3,rfl,rfl,h11⟩ -;have H:=H.trans le6;exact yO [hO Int (vS p4 y1.Coefs c4) cs3] H ⟨_,_,_,rfl,rfl,h11⟩
     · intro I1 hf le1;refine zF ?_;rintro _ _ ⟨p4,c4,cs3,rfl,rfl,h11⟩;refine yM [(37,vA (cAff y1 p4 c4))] ?_;have H:=iS I1;refine yJ 0 rfl ?_;intro I07 le7 hl04;have h12:=SL.of_frozen hl04 le7 h11;have H:=H.trans le7;refine xY (cAff y1 p4 c4) zA ?_;intro b3 hb3;have h13:RL I07 (cAff y1 p4 c4) ([y1]:List zA):=⟨(cAff y1 p4 c4),_,rfl,rfl,(yQ ⟨_,rfl,h12⟩),rfl⟩;refine yJ 0 rfl ?_;intro I08 le8 hl05;have h14:=SL.of_frozen hl05 le8 h13;have H:=H.trans le8;exact yO [] H ⟨_,rfl,rfl,h14⟩
     · intro I1 hf le1;refine zF ?_;rintro _ _ ⟨b2,rfl,rfl,h10⟩;refine zF ?_;rintro _ _ ⟨b3,rfl,rfl,h14⟩;exact yM [(32,vS (some ⟨b2,0,none⟩) ([y]:List zA) 1),(38,vS (some ⟨b3,0,none⟩) ([y1]:List zA) 1)]<|uS 10 [(39,vA [vS (some ⟨b2,0,none⟩) ([y]:List zA) 1,vS (some ⟨b3,0,none⟩) ([y1]:List zA) 1])]<|yO [] iR ⟨_,_,rfl,rfl,h10,h14⟩
     · intro I1 hf le1;refine zF ?_;rintro _ _ ⟨b21,b31,rfl,rfl,h101,h141⟩;refine yM [(39,vA [vS (some ⟨b21,0,none⟩) ([y]:List zA) 1,vS (some ⟨b31,0,none⟩) ([y1]:List zA) 1])] ?_;have H:=iS I1;refine xY [vS (some ⟨b21,0,none⟩) ([y]:List zA) 1,vS (some ⟨b31,0,none⟩) ([y1]:List zA) 1] zD ?_;intro b4 hb4;have h15:RL I1 [vS (some ⟨b21,0,none⟩) ([y]:List zA) 1,vS (some ⟨b31,0,none⟩) ([y1]:List zA) 1] ([(zD.mk ([y]:List zA) ([y1]:List zA))]:List zD):=⟨[vS (some ⟨b21,0,none⟩) ([y]:List zA) 1,vS (some ⟨b31,0,none⟩) ([y1]:List zA) 1],_,rfl,rfl,(sV ⟨_,_,rfl,h101,h141⟩),rfl⟩;refine yJ 0 rfl ?_;intro I09 le9 hl06;have h16:=SL.of_frozen hl06 le9 h15;have H:=H.trans le9;exact yO [] H ⟨_,rfl,rfl,h16⟩
     intro I1 hf le1;refine zF ?_;rintro _ _ ⟨rfl,rfl⟩;refine zF ?_;rintro _ _ ⟨b4,rfl,rfl,h16⟩;refine zF ?_;rintro _ _ rfl;refine yM [(30,vS p1 out c1),(40,vS (some ⟨b4,0,none⟩) ([(zD.mk ([y]:List zA) ([y1]:List zA))]:List zD) 1)] ?_;have h3:=iM le1 h3;obtain ⟨ccs3,k0,k01⟩:=h16;have h16:SL I1 (vS (some ⟨b4,0,none⟩) ([(zD.mk ([y]:List zA) ([y1]:List zA))]:List zD) 1) ([(zD.mk ([y]:List zA) ([y1]:List zA))]:List zD):=⟨_,k0,k01⟩;exact pG 169 2 0 rfl rfl rfl h3 (.inl k0) k01 hy5 fun p5 c5 cs4 h17=>uC (hs':=(hO zD (vS p5 out2 c5) cs4::hf)) rfl<|yO [hO zD (vS p5 out2 c5) cs4] iR ⟨_,_,_,rfl,rfl,h17⟩
   intro I010 le10;refine zF ?_;rintro _ _ ⟨p5,c5,cs4,rfl,rfl,h17⟩;refine yM [(0,vS p sizes c),(5,vI i),(41,vS p5 out2 c5)] ?_;have h:=h.mono le10;have H:=H.trans le10;exact yC [] [(4,vS p5 out2 c5)]<|zT<|zM<|zQ<|yC [] [(5,vI (W (i + 1)))]<|yY<|vE [(0,vS p sizes c),(4,vS p5 out2 c5),(5,vI (W (i + 1)))]<|ih out2 (W (i + 1)) _ N H h h17 hg ho hx hr
 intro hc1 N;exact vW<|yT [(4,vS p1 out c1)]<|hx _ _ _ _ _ (zC N).symm H h3
def kU (sizes:(List Int)):Option ((List zD)×Bool):=do
 if (decide ((sizes.length:Int) > 4)) then
  pure (([]:List zD),false)
 else
  match←qB sizes ([]:List zD) 0 with
  | .ret r0=>pure r0
  | .done out1 =>
   pure (out1,true)
theorem zEX:∀ sizes r,kU sizes=some r→∀ {I:Imm}{p c},(S4 I p sizes c)→RT 140 [vS p sizes c] I [] (dJ  r):=by
 intro sizes r N I p c h;unfold kU at N;refine zY (fn:=Tryz.f140) (c:=(bodyOf Tryz.f140)) Tryz.func140 rfl rfl ?_;rintro B - -;refine yF []<|xD<|xY [] zD ?_;intro b hb;have h1:RL I [] ([]:List zD):=rfl;refine yC [] [(4,vS (some ⟨b,0,none⟩) ([]:List zD) 0)]<|yI<|yF [(9,.bool (decide ((sizes.length:Int) > 4)))]<|zM<|yL N ?_ ?_
 · intro hc N;refine yF [(2,vS (some ⟨b,0,none⟩) ([]:List zD) 0),(3,vF)]<|xG<|zH<|xP 0 rfl ?_;intro I0 le hl0;have h2:=SL.of_frozen hl0 le h1;obtain rfl:=zC N;exact xC ⟨_,_,(.tmp rfl (.tmp rfl ResV.nil)),zR,⟨_,_,rfl,rfl,h2,rfl⟩⟩
 intro hc N;refine zW<|yI<|yF [(5,vI 0)]<|wO<|vE [(0,vS p sizes c),(4,vS (some ⟨b,0,none⟩) ([]:List zD) 0),(5,vI 0)] ?_;obtain ⟨o01,ho01,hMl⟩:=zB N;refine zCQ sizes ([]:List zD) 0 o01 ho01 iR h h1 (fun _ _ _ h=>h) (fun _ _ h=>h) ?_ ?_
 · intro I011 out1 p2 c2 cs1 heq1 le11 h4;subst o01;refine zX<|vH [(2,vS p2 out1 c2),(3,vY)]<|xG<|xP 0 rfl ?_;intro I012 le12 hl07;have h18:=SL.of_frozen hl07 le12 h4;obtain rfl:=zC hMl;exact xC ⟨_,_,(.tmp rfl (.tmp rfl ResV.nil)),zR,⟨_,_,rfl,rfl,h18,rfl⟩⟩
 intro r0 I9 hs9 m9 heq9 le9 hrs9;subst heq9;refine zZ<|zH ?_;obtain rfl:=zC hMl;exact xC hrs9
end Go.LN
