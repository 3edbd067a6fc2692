/- Helper of the proof (see the last text). -/
import Derived.Test.YtcmjkmdecmabaaaGreatHM7
set_option linter.unusedVariables false
set_option linter.unusedSimpArgs false
namespace Go.LN
open Go.Proofs Go.Proofs.Tryz
set_option maxRecDepth 20000
def zCx(b0:Nat)(r:zF×zQ):KT:=λkk I' ag v=>
 ∃v0 k0,ag=[.blk b0 ⟨k0⟩]/\v=tupV [v0]/\(∃cs,v0=.agg ⟨cs⟩/\Rp.rep I' cs r.1)/\Rp.rep I' k0 r.2
def mV(y1:(List zG))(Body2:List zI)(n0:Int)(x6:zQ):Option ((List zI×zQ)):=do
 if(decide (n0<5)) then
  let (y7,y8)<-zAY x6 (y1.length:Int);let y9<-fF;let (y11,y12)<-kI y9 (zF.mk y1 ([y7]:List zI));if y12 then
   let l<-app 152 Body2 ([y7]:List zI);pure (l,y8)
  else mV y1 Body2 (W (n0+1)) y8
 else pure (Body2,x6)
 partial_fixpoint
theorem zGT(y1:(List zG))(Body2:List zI):∀(n0:Int) (x6:zQ) (o:(List zI×zQ)),mV y1 Body2 n0 x6=some o->∀{B}{I0 I:Imm}{Q}{i:Int}{x:zF}{k0:Int}{av b}{p1 c1 p2 c2 p7 c7}{b1}{p14 c14 aR p15 c15},I0.le I->(S4 I p7 y1 c7)->(S4 I p1 x.Nest c1)->(S4 I p2 x.Body c2)->(RL I aR Body2)->(S4 I p15 x6.b c15)->NG Q->NO Q->(∀I' Body3 x7 p16 c16 aM p17 c17,o=(Body3,x7)->I0.le I'->(RL I' aM Body3)->(S4 I' p17 x7.b c17)->T 81 B Q (.exit 4) I' [hO zI (vS p16 Body3 c16) aM,hB av (cRd x7 p17 c17),hB b1 [vS p7 y1 c7,vS p16 Body3 c16],hB b (cPart x p1 c1 p2 c2)] [(0,vP av 0),(2,vP b 0),(3,vI i),(4,vP b1 0),(5,vI k0)])->J Tryz.prog 81 B (nav (bodyOf f178) [1,0,1,0,0,1,0,0,1,0,1,0,0,1,0,0,1,0]) Q I [hO zI (vS p14 Body2 c14) aR,hB av (cRd x6 p15 c15),hB b1 [vS p7 y1 c7,vS p14 Body2 c14],hB b (cPart x p1 c1 p2 c2)] [(0,vP av 0),(2,vP b 0),(3,vI i),(4,vP b1 0),(5,vI k0),(6,vI n0)]:=by
 refine mV.partial_correctness y1 Body2 _ λaJ ih n0 x6 o N B I0 I Q i x k0 av b p1 c1 p2 c2 p7 c7 b1 p14 c14 aR p15 c15 H h7 h1 h2 h20 h21 hg ho hx=>yX hg ho<|yC<|yK [31] rfl<|zK<|yH N ?_ ?_
 ·intro ba N;refine zT<|yA<|yL<|yD<|yG 4 [2] [34,37] rfl<|tX (zZ [1,0,2,3] (ag:=[hB av (cRd x6 p15 c15),hO zI (vS p14 Body2 c14) aR,hB b1 [vS p7 y1 c7,vS p14 Body2 c14],hB b (cPart x p1 c1 p2 c2)])) ?_;obtain⟨⟨y7,y8⟩,aG,N⟩:=zB N;refine qB (zIc x6 (y1.length:Int) _ aG h21) rfl ?_;rintro bx ax v2 k2 aI - ⟨v04,kk2,rfl,rfl,⟨bt,rfl,h24⟩,h25⟩ -;have ⟨h20,h7,h1,h2,H⟩:=m5 aI h20 h7 h1 h2 H;obtain⟨p18,c18,p19,c19,p20,c20,p21,c21,rfl,h26,h27,h28,h29⟩:=vG h24;obtain⟨p22,c22,rfl,h30⟩:=yJ h25;refine xY [vT ([]),z0,vI 0,vI 0,z0,vI 0,vT ([]),z0,z0] ?_;intro b3 hb3;refine xC 0 (cStmt y7 p18 c18 p19 c19 p20 c20 p21 c21) rfl<|zY rfl<|zK<|yC ?_;obtain⟨y9,bh,N⟩:=zB N;obtain⟨⟨y11,y12⟩,bu,N⟩:=zB N;refine wP [.x (eS y9),.p (vP b1 0) [],.p (vS p7 y1 c7) [3],.p (vA (cStmt y7 p18 c18 p19 c19 p20 c20 p21 c21)) [0],.x (λI' v hx=>∃b4,v=vS (some ⟨b4,0,none⟩) ([y7]:List zI) 1/\hx=[]/\(SL I' (vS (some ⟨b4,0,none⟩) ([y7]:List zI) 1) ([y7]:List zI))),.x (λI' v hx=>∃b41,v=vA [vS p7 y1 c7,vS (some ⟨b41,0,none⟩) ([y7]:List zI) 1]/\hx=[]/\(SL I' (vS (some ⟨b41,0,none⟩) ([y7]:List zI) 1) ([y7]:List zI))),.q (.tuple ⟨[vI y11,.bool y12]⟩),.p (.tuple ⟨[vI y11,.bool y12]⟩) [],.p (vI y11) [],.p (.bool y12) [],.p (vI y11) []] [[],[],[(1,false)],[],[(3,false)],[(2,false),(4,false)],[(0,false),(5,false)],[(6,false)],[(7,false)],[(7,false)],[(8,false)]] [hB b3 (cStmt y7 p18 c18 p19 c19 p20 c20 p21 c21),hB av (cRd y8 p22 c22),hO zI (vS p14 Body2 c14) aR,hB b1 [vS p7 y1 c7,vS p14 Body2 c14],hB b (cPart x p1 c1 p2 c2)] [] [(9,false)] (zZ [0,1,2,3,4]) ?_ ?_
  ·refine Ox ?_<|O3<|Ox ?_<|Ox ?_<|Oq ?_<|O4<|On
   ·intro I1 hf aa;refine I_h [] ?_;have H:=iS I1;refine xK (zAo  _ bh ) ?_;rintro bG ax v2 k2 aY - ⟨v010,rfl,rfl,h31⟩ -;have H:=H.trans aY;obtain⟨p23,c23,rfl⟩:=h31.form;exact yN [] H ⟨_,_,rfl,rfl,h31⟩
   ·intro I1 hf aa;refine yW [43] rfl ?_;have H:=iS I1;have ⟨h26,h27,h28,h29⟩:=m4 aa h26 h27 h28 h29;refine mH (rc y7 (wG ⟨_,_,_,_,rfl,h26,h27,h28,h29⟩) rN) ?_;intro b4 bK bo h33;have H:=H.trans bo;exact yN [] H ⟨_,rfl,rfl,h33⟩
   ·rintro I1 hf aa _ _ ⟨rfl,rfl⟩ _ _ ⟨b4,rfl,rfl,h33⟩;refine yW [42,44] rfl ?_;exact oN 6 [(45,vA [vS p7 y1 c7,vS (some ⟨b4,0,none⟩) ([y7]:List zI) 1])]<|yN [] iR ⟨_,rfl,rfl,h33⟩
   rintro I1 hf aa _ _ ⟨p23,c23,rfl,rfl,h31⟩ _ _ ⟨b41,rfl,rfl,h331⟩;refine yW [40,45] rfl ?_;have H:=iS I1;have h7:=h7.mono aa;refine xK (zBn y9 (zF.mk y1 ([y7]:List zI)) _ bu h31 h7 h331) ?_;rintro I06 ax v2 k2 bv - ⟨v011,v012,rfl,rfl,rfl,rfl⟩ -;have H:=H.trans bv;exact xO H
  intro I07 le7;refine yW [0,2,3,4,5,6,7,48] rfl ?_;have ⟨h26,h27,h28,h29,h30,h20⟩:=m6 le7 h26 h27 h28 h29 h30 h20;have ⟨h7,h1,h2,H⟩:=m4 le7 h7 h1 h2 H;refine yQ [] [9] rfl<|vM [49] rfl<|zK<|yH N ?_ ?_
  ·intro bD N;refine yD<|uW 3 [3,0] [(51,vS p14 Body2 c14),(52,vA (cStmt y7 p18 c18 p19 c19 p20 c20 p21 c21))]<|uX (cStmt y7 p18 c18 p19 c19 p20 c20 p21 c21) zI ?_;intro b5 hb5;have h36:RL I07 (cStmt y7 p18 c18 p19 c19 p20 c20 p21 c21) ([y7]:List zI):=⟨(cStmt y7 p18 c18 p19 c19 p20 c20 p21 c21),_,rfl,rfl,(wG ⟨_,_,_,_,rfl,h26,h27,h28,h29⟩),rfl⟩;obtain⟨l,bC,N⟩:=zB N;refine sW 100 9 3 rfl rfl rfl h20 (.inr ⟨0,rfl⟩) h36 bC ?_;intro p24 c24 bz h37;exact tX (zZ [1,2,3,4,5] (ag:=[hB b3 (cStmt y7 p18 c18 p19 c19 p20 c20 p21 c21),hB av (cRd y8 p22 c22),hO zI (vS p24 l c24) bz,hB b1 [vS p7 y1 c7,vS p14 Body2 c14],hB b (cPart x p1 c1 p2 c2)]))<|yG 6 [] [55] rfl<|xC 3 [vS p7 y1 c7,vS p24 l c24] rfl<|zY rfl<|zK<|zIH<|zJD rfl<|dG<|dG<|wK (zX [2,1,3,4] rfl (by decide))<|yZ<|hx _ _ _ _ _ _ _ _ (zE N).symm H h37 h30
  intro bD N;exact zT<|zN<|zK<|zL<|yQ [] [6] rfl<|yV<|qZ (zX [2,1,3,4] rfl (by decide))<|nX<|ih (W (n0+1)) y8 _ N H h7 h1 h2 h20 h30 hg ho hx
 intro ba N;exact wW<|yZ<|hx _ _ _ _ _ _ _ _ (zE N).symm H h20 h21
def mW(y1:(List zG))(k0:Int)(Body:List zI)(x4:zQ):Option ((List zI×zQ)):=do
 if(decide (k0>0)) then
  let (Body3,x7)<-mV y1 Body 0 x4;mW y1 (W (k0 - 1)) Body3 x7
 else pure (Body,x4)
 partial_fixpoint
theorem zGU(y1:(List zG)):∀(k0:Int) (Body:List zI) (x4:zQ) (o:(List zI×zQ)),mW y1 k0 Body x4=some o->∀{B}{I0 I:Imm}{Q}{i:Int}{x:zF}{av b}{p1 c1 p2 c2 p7 c7}{b1}{aL aO cs aF aQ},I0.le I->(S4 I p7 y1 c7)->(S4 I p1 x.Nest c1)->(S4 I p2 x.Body c2)->(RL I cs Body)->(S4 I aF x4.b aQ)->NG Q->NO Q->(∀I' bb x5 bj aZ au bc bd,o=(bb,x5)->I0.le I'->(RL I' au bb)->(S4 I' bc x5.b bd)->T 81 B Q (.exit 2) I' [hO zI (vS bj bb aZ) au,hB av (cRd x5 bc bd),hB b1 [vS p7 y1 c7,vS bj bb aZ],hB b (cPart x p1 c1 p2 c2)] [(0,vP av 0),(2,vP b 0),(3,vI i),(4,vP b1 0)])->J Tryz.prog 81 B (nav (bodyOf f178) [1,0,1,0,0,1,0,0,1,0,1,0]) Q I [hO zI (vS aL Body aO) cs,hB av (cRd x4 aF aQ),hB b1 [vS p7 y1 c7,vS aL Body aO],hB b (cPart x p1 c1 p2 c2)] [(0,vP av 0),(2,vP b 0),(3,vI i),(4,vP b1 0),(5,vI k0)]:=by
 refine mW.partial_correctness y1 _ λaJ ih k0 Body x4 o N B I0 I Q i x av b p1 c1 p2 c2 p7 c7 b1 aL aO cs aF aQ H h7 h1 h2 h16 h17 hg ho hx=>yX hg ho<|yC<|yK [27] rfl<|zK<|yH N ?_ ?_
 ·intro aH N;refine zT<|yA<|yL<|yK [6] rfl<|wN<|qX [(0,vP av 0),(2,vP b 0),(3,vI i),(4,vP b1 0),(5,vI k0),(6,vI 0)] ?_;obtain⟨o0,aA,aE⟩:=zB N;refine zGT y1 Body 0 x4 o0 aA iR h7 h1 h2 h16 h17 (λ_ _ _ h=>hg _ _ _ h) (λ_ _ h=>ho _ _ h) ?_;intro I08 Body3 x7 p16 c16 aM p17 c17 heq le8 h22 h23;subst o0;have ⟨h7,h1,h2,H⟩:=m4 le8 h7 h1 h2 H;exact zS<|zN<|zK<|zL<|yQ [] [5] rfl<|yV<|nX<|ih (W (k0 - 1)) Body3 x7 _ aE H h7 h1 h2 h22 h23 hg ho hx
 intro aH N;exact wW<|yZ<|hx _ _ _ _ _ _ _ _ (zE N).symm H h16 h17
def mX(x:zF)(i:Int)(x1:zQ):Option (Out (zF×zQ) (zF×zQ)):=do
 if(decide (i<4)) then
  let (y1,y2)<-zAX x1;let (y4,y5)<-xI y2 ([1,2,1,3]:List Int);let (bb,x5)<-mW y1 y4 ([]:List zI) y5;let y13<-fF;let (y15,y16)<-kI y13 (zF.mk y1 bb);let t66<-(do
   if y16 then pure (decide (y15<=40))
   else
    pure false
     : Option Bool)
  if t66 then pure (.ret ((zF.mk y1 bb),x5))
  else mX x (W (i+1)) x5
 else pure (.done (x,x1))
 partial_fixpoint
theorem zGV(x:zF):∀(i:Int) (x1:zQ) (o:Out (zF×zQ) (zF×zQ)),mX x i x1=some o->∀{B}{I0 I:Imm}{Q}  {av b}{p1 c1 p2 c2 p3 c3},I0.le I->(S4 I p1 x.Nest c1)->(S4 I p2 x.Body c2)->(S4 I p3 x1.b c3)->NG Q->NO Q->(∀I' x2 x3 p4 c4 p5 c5 p6 c6,o=(.done (x2,x3))->I0.le I'->(S4 I' p4 x2.Nest c4)->(S4 I' p5 x2.Body c5)->(S4 I' p6 x3.b c6)->T 81 B Q (.exit 0) I' [hB b (cPart x2 p4 c4 p5 c5),hB av (cRd x3 p6 c6)] [(2,vP b 0)])->(∀r I' ag m',o=(.ret r)->I0.le I'->RS Tryz.prog f178 B (zCx av r) I' ag m'->T 81 B Q .ret I' ag m')->J Tryz.prog 81 B (nav (bodyOf f178) [1,0,1,0]) Q I [hB b (cPart x p1 c1 p2 c2),hB av (cRd x1 p3 c3)] [(0,vP av 0),(2,vP b 0),(3,vI i)]:=by
 refine mX.partial_correctness x _ λaJ ih i x1 o N B I0 I Q av b p1 c1 p2 c2 p3 c3 H h1 h2 h3 hg ho hx hr=>yX hg ho<|yC<|yK [17] rfl<|zK<|yH N ?_ ?_
 ·intro hc N;refine zT<|yA<|yL<|yD<|yG 1 [] [20] rfl<|tX (zZ [1,0] (ag:=[hB av (cRd x1 p3 c3),hB b (cPart x p1 c1 p2 c2)])) ?_;obtain⟨⟨y1,y2⟩,hy,N⟩:=zB N;refine qB (zIa x1 _ hy h3) rfl ?_;rintro I0 ax v2 k2 le - ⟨v0,kk,rfl,rfl,h7,h8⟩ -;have ⟨h1,h2,H⟩:=m3 le h1 h2 H;obtain⟨p7,c7,rfl⟩:=h7.form;obtain⟨p8,c8,rfl,h9⟩:=yJ h8;refine yG 3 [] [22] rfl<|xY zTwo ?_;intro b1 hb1;refine xC 0 [vS p7 y1 c7,z0] rfl<|zY rfl<|yA<|yD<|yG 1 [] [23] rfl<|mH (rI [1,2,1,3]) ?_;intro b2 aP aa h11;have ⟨h7,h9,h1,h2,H⟩:=m5 aa h7 h9 h1 h2 H;refine tX (zZ [1,0,2] (ag:=[hB av (cRd y2 p8 c8),hB b1 [vS p7 y1 c7,z0],hB b (cPart x p1 c1 p2 c2)])) ?_;obtain⟨⟨y4,y5⟩,az,N⟩:=zB N;refine qB (xP y2 ([1,2,1,3]:List Int) _ az h9 h11) rfl ?_;rintro aW ax v2 k2 aC - ⟨v02,kk1,rfl,rfl,rfl,h13⟩ -;have ⟨h7,h1,h2,H⟩:=m4 aC h7 h1 h2 H;obtain⟨p9,c9,rfl,h14⟩:=yJ h13;refine yQ [] [5] rfl<|wN<|qX [(0,vP av 0),(2,vP b 0),(3,vI i),(4,vP b1 0),(5,vI y4)]<|zA6 zI λh15=>?_;obtain⟨aU,aB,hMl1⟩:=zB N;refine zGU y1 y4 ([]:List zI) y5 aU aB iR h7 h1 h2 h15 h14 (λ_ _ _ h=>hg _ _ _ h) (λ_ _ h=>ho _ _ h) ?_;intro I09 bb x5 bj aZ au bc bd heq1 le9 h18 h19;subst aU;have ⟨h7,h1,h2,H⟩:=m4 le9 h7 h1 h2 H;refine zS<|yA<|oO 0 rfl ?_;intro bN le10 hl02;have h38:=SL.of_frozen hl02 le10 h18;have ⟨h19,h7,h1,h2,H⟩:=m5 le10 h19 h7 h1 h2 H;obtain⟨y13,hy6,N⟩:=zB hMl1;obtain⟨⟨y15,y16⟩,hy7,N⟩:=zB N;refine wP [.x (eS y13),.p (vA [vS p7 y1 c7,vS bj bb aZ]) [1],.q (.tuple ⟨[vI y15,.bool y16]⟩),.p (.tuple ⟨[vI y15,.bool y16]⟩) [],.p (vI y15) [],.p (.bool y16) [],.p (vI y15) []] [[],[],[(0,false),(1,false)],[(2,false)],[(3,false)],[(3,false)],[(4,false)]] [hB av (cRd x5 bc bd),hB b1 [vS p7 y1 c7,vS bj bb aZ],hB b (cPart x p1 c1 p2 c2)] [] [(5,false),(6,false)] (zZ [0,1,2]) ?_ ?_
  ·refine Ox ?_<|Op<|Oq ?_<|O4<|On
   ·intro I1 hf aa;refine I_h [] ?_;have H:=iS I1;refine xK (zAo  _ hy6 ) ?_;rintro bS ax v2 k2 le11 - ⟨v013,rfl,rfl,h39⟩ -;have H:=H.trans le11;obtain⟨p25,c25,rfl⟩:=h39.form;exact yN [] H ⟨_,_,rfl,rfl,h39⟩
   rintro I1 hf aa _ _ ⟨p25,c25,rfl,rfl,h39⟩;refine yW [57,58] rfl ?_;have H:=iS I1;have ⟨h7,h38⟩:=m2 aa h7 h38;refine xK (zBn y13 (zF.mk y1 bb) _ hy7 h39 h7 h38) ?_;rintro bR ax v2 k2 le12 - ⟨v014,v015,rfl,rfl,rfl,rfl⟩ -;have H:=H.trans le12;exact xO H
  intro I013 le13;refine yW [0,2,3,4,10,61] rfl ?_;have ⟨h19,h7,h38,h1,h2,H⟩:=m6 le13 h19 h7 h38 h1 h2 H;refine yQ [] [11] rfl<|zK<|yC ?_;refine vQ N [hB av (cRd x5 bc bd),hB b1 [vS p7 y1 c7,vS bj bb aZ],hB b (cPart x p1 c1 p2 c2)] (λt66=>[(0,vP av 0),(2,vP b 0),(3,vI i),(4,vP b1 0),(66,.bool t66)]) (λo02 ho02=>?_) ?_
  ·have H:=iS I013;refine zL<|yG 2 [] [63] rfl<|wR [63] ho02 ?_ ?_
   ·intro bJ N;exact yQ [] [66] rfl<|yZ<|zU (ct N H)
   intro bJ N;exact wM [] [(66,vF)]<|yZ<|zU (ct N H)
  intro t66 I014 le14 aX;have ⟨h19,h7,h38,h1,h2,H⟩:=m6 le14 h19 h7 h38 h1 h2 H;refine zK<|yH aX ?_ ?_
  ·intro hc5 N;exact yD<|uW 1 [1] [(67,vA [vS p7 y1 c7,vS bj bb aZ])]<|xC 2 [vS p7 y1 c7,vS bj bb aZ] rfl<|zY rfl<|xH<|zV<|zJ<|zJ<|hr _ _ _ _ (zE N).symm H ⟨_,_,(resC 2 rfl rfl),(zX [0] rfl (by decide)),⟨_,_,rfl,rfl,⟨_,rfl,(wU ⟨_,_,rfl,h7,h38⟩)⟩,(xF ⟨_,rfl,h19⟩)⟩⟩
  intro hc5 N;exact zT<|zN<|zK<|zL<|yQ [] [3] rfl<|yV<|qZ (zX [2,0] rfl (by decide))<|nX<|ih (W (i+1)) x5 _ N H h1 h2 h19 hg ho hx hr
 intro hc N;exact wW<|yZ<|hx _ _ _ _ _ _ _ _ _ (zE N).symm H h1 h2 h3
def zAZ(r0:zQ):Option (zF×zQ):=do
 match<-mX (zF.mk ([]:List zG) ([]:List zI)) 0 r0 with
 | .ret r0=>pure r0
 | .done (x2,x3)=>
  let (y18,y19)<-jO (⟨qL1⟩:Str);let (y21,y22)<-zAB ([4]:List Int);pure ((zF.mk y21 ([y18]:List zI)),x3)
theorem zId:∀r0 r,zAZ r0=some r->∀{I:Imm}{av}{p c},(S4 I p r0.b c)->RT 178 [vP av 0] I [hB av (cRd r0 p c)] (zCx av r):=by
 intro r0 r N I av p c h;unfold zAZ at N;refine yM func178 λB=>yD<|xY zTwo ?_;intro b hb;refine zY rfl<|yA<|yK [3] rfl<|wN<|qX [(0,vP av 0),(2,vP b 0),(3,vI 0)] ?_;obtain⟨o03,ho03,hMl2⟩:=zB N;refine zGV (zF.mk ([]:List zG) ([]:List zI)) 0 r0 o03 ho03 iR (SL.nil _) (SL.nil _) h nG nO ?_ ?_
 ·intro I015 x2 x3 p4 c4 p5 c5 p6 c6 heq3 le15 h4 h5 h6;subst o03;refine zS<|yA<|zL ?_;obtain⟨⟨y18,y19⟩,hy8,N⟩:=zB hMl2;refine xK (zCL (⟨qL1⟩:Str) _ hy8 ) ?_;rintro I016 ax v2 k2 le16 - ⟨v016,v017,rfl,rfl,⟨cs6,rfl,h42⟩,rfl⟩ -;have h6:=h6.mono le16;obtain⟨p26,c26,p27,c27,p28,c28,p29,c29,rfl,h44,h45,h46,h47⟩:=vG h42;refine yG 4 [] [70,71] rfl<|xY [vT ([]),z0,vI 0,vI 0,z0,vI 0,vT ([]),z0,z0] ?_;intro b6 hb6;refine xC 0 (cStmt y18 p26 c26 p27 c27 p28 c28 p29 c29) rfl<|wM [] []<|yY<|mH (rI [4]) ?_;intro b7 I017 le17 h49;have ⟨h44,h45,h46,h47,h6⟩:=m5 le17 h44 h45 h46 h47 h6;obtain⟨⟨y21,y22⟩,hy9,N⟩:=zB N;refine xK (zHm ([4]:List Int) _ hy9 h49) ?_;rintro I018 ax v2 k2 le18 - ⟨v022,v023,rfl,rfl,h50,rfl⟩ -;have ⟨h44,h45,h46,h47,h6⟩:=m5 le18 h44 h45 h46 h47 h6;obtain⟨p30,c30,rfl⟩:=h50.form;refine yQ [] [14] rfl<|yY<|uW 2 [0] [(77,vS p30 y21 c30),(78,vA (cStmt y18 p26 c26 p27 c27 p28 c28 p29 c29))]<|uX (cStmt y18 p26 c26 p27 c27 p28 c28 p29 c29) zI ?_;intro b8 hb8;have h52:RL I018 (cStmt y18 p26 c26 p27 c27 p28 c28 p29 c29) ([y18]:List zI):=⟨(cStmt y18 p26 c26 p27 c27 p28 c28 p29 c29),_,rfl,rfl,(wG ⟨_,_,_,_,rfl,h44,h45,h46,h47⟩),rfl⟩;refine yG 4 [] [80] rfl<|xC 2 [vS p30 y21 c30,vS (some ⟨b8,0,none⟩) ([y18]:List zI) 1] rfl<|zY rfl<|xH<|xB 0 rfl ?_;intro I019 le19 hl04;have h53:=SL.of_frozen hl04 le19 h52;have ⟨h50,h6⟩:=m2 le19 h50 h6;exact xX N (resC 1 rfl rfl) (zX [2] rfl (by decide)) ⟨_,_,rfl,rfl,⟨_,rfl,(wU ⟨_,_,rfl,h50,h53⟩)⟩,(xF ⟨_,rfl,h6⟩)⟩
 intro r0 I9 hs9 m9 aT le9 aV;subst aT;refine zV<|zJ ?_;obtain rfl:=zE hMl2;exact jW aV
def zHH(b0:Nat)(r:zC×zQ):KT:=λkk I' ag v=>
 ∃v0 k0,ag=[.blk b0 ⟨k0⟩]/\v=tupV [v0]/\(∃cs,v0=.agg ⟨cs⟩/\Rp.rep I' cs r.1)/\Rp.rep I' k0 r.2
def mY(i:Int)(Parts:List zF)(x:zQ):Option ((List zF×zQ)):=do
 if(decide (i>0)) then
  let (y5,y6)<-zAZ x;let l<-app 48 Parts ([y5]:List zF);mY (W (i - 1)) l y6
 else pure (Parts,x)
 partial_fixpoint
theorem zGW :∀(i:Int) (Parts:List zF) (x:zQ) (o:(List zF×zQ)),mY i Parts x=some o->∀{B}{I0 I:Imm}{Q}{y:(List zD)}{av b}{p1 c1}{b1}{p3 c3 cs p4 c4},I0.le I->(S4 I p1 y c1)->(RL I cs Parts)->(S4 I p4 x.b c4)->NG Q->NO Q->(∀I' aS x1 p5 c5 au p6 c6,o=(aS,x1)->I0.le I'->(RL I' au aS)->(S4 I' p6 x1.b c6)->T 29 B Q (.exit 0) I' [hO zF (vS p5 aS c5) au,hB av (cRd x1 p6 c6),hB b1 [vS p1 y c1,vS p5 aS c5],hB b zTwo] [(2,vP b 0),(3,vP b1 0)])->J Tryz.prog 29 B (nav (bodyOf f138) [1,1,0,1,0]) Q I [hO zF (vS p3 Parts c3) cs,hB av (cRd x p4 c4),hB b1 [vS p1 y c1,vS p3 Parts c3],hB b zTwo] [(0,vP av 0),(2,vP b 0),(3,vP b1 0),(4,vI i)]:=by
 refine mY.partial_correctness  _ λaJ ih i Parts x o N B I0 I Q y av b p1 c1 b1 p3 c3 cs p4 c4 H h1 h8 h9 hg ho hx=>yX hg ho<|yC<|yK [11] rfl<|zK<|yH N ?_ ?_
 ·intro hc N;refine zT<|yA<|yL ?_;obtain⟨⟨y5,y6⟩,aG,N⟩:=zB N;obtain⟨l,bh,N⟩:=zB N;refine wP [.p (vP b1 1) [],.p (vS p3 Parts c3) [0],.p (vP av 0) [],.x (λI' v hx=>∃p7 c7 p8 c8 p9 c9,v=vA (cPart y5 p7 c7 p8 c8)/\hx=[hB av (cRd y6 p9 c9)]/\(S4 I' p7 y5.Nest c7)/\(S4 I' p8 y5.Body c8)/\(S4 I' p9 y6.b c9)),.x (λI' v hx=>∃b3,v=vS (some ⟨b3,0,none⟩) ([y5]:List zF) 1/\hx=[]/\(SL I' (vS (some ⟨b3,0,none⟩) ([y5]:List zF) 1) ([y5]:List zF))),.x (λI' v hx=>∃aL aO aM,v=vS aL l aO/\hx=[hO zF (vS aL l aO) aM]/\(RL I' aM l))] [[],[(0,false)],[],[(2,false),(8,true)],[(3,false)],[(1,false),(4,false),(9,true)]] [hB b1 [vS p1 y c1,vS p3 Parts c3],hB b zTwo] [[hB av (cRd x p4 c4)],[hO zF (vS p3 Parts c3) cs]] [(3,true),(5,true)] (zZ [2,3,1,0]) ?_ ?_
  ·refine O3<|Ox ?_<|Ox ?_<|Ox ?_<|On
   ·rintro I1 hf aa _ _ ⟨rfl,rfl⟩ _ _ rfl;refine yW [16] rfl ?_;have H:=iS I1;have h9:=h9.mono aa;refine qB (zId x _ aG h9) rfl ?_;rintro bx ax v2 k2 aI - ⟨v03,kk1,rfl,rfl,⟨aR,rfl,h12⟩,h13⟩ -;have H:=H.trans aI;obtain⟨p7,c7,p8,c8,rfl,h14,h15⟩:=wI h12;obtain⟨p9,c9,rfl,h16⟩:=yJ h13;exact yN [hB av (cRd y6 p9 c9)] H ⟨_,_,_,_,_,_,rfl,rfl,h14,h15,h16⟩
   ·rintro I1 hf aa _ _ ⟨p7,c7,p8,c8,p9,c9,rfl,rfl,h14,h15,h16⟩;refine yW [17] rfl ?_;have H:=iS I1;refine mH (rc y5 (wU ⟨_,_,rfl,h14,h15⟩) rN) ?_;intro b3 bG aY h18;have H:=H.trans aY;exact yN [] H ⟨_,rfl,rfl,h18⟩
   rintro I1 hf aa _ _ ⟨rfl,rfl⟩ _ _ ⟨b3,rfl,rfl,h18⟩ _ _ rfl;refine yW [15,18] rfl ?_;have h8:=iM aa h8;obtain⟨aN,k0,k01⟩:=h18;have h18:SL I1 (vS (some ⟨b3,0,none⟩) ([y5]:List zF) 1) ([y5]:List zF):=⟨_,k0,k01⟩;exact sW 47 2 0 rfl rfl rfl h8 (.inl k0) k01 bh λaL aO aM h19=>wY (ag:=(hO zF (vS aL l aO) aM::hB b1 [vS p1 y c1,vS p3 Parts c3]::hB b zTwo::hf)) rfl<|yN [hO zF (vS aL l aO) aM] iR ⟨_,_,_,rfl,rfl,h19⟩
  rintro bK bo _ _ ⟨p7,c7,p8,c8,p9,c9,rfl,rfl,h14,h15,h16⟩ _ _ ⟨aL,aO,aM,rfl,rfl,h19⟩;refine yW [0,2,3,4,19] rfl ?_;have ⟨h1,H⟩:=m2 bo h1 H;exact yG 7 [] [20] rfl<|xC 2 [vS p1 y c1,vS aL l aO] rfl<|zY rfl<|zN<|zK<|zL<|yQ [] [4] rfl<|yV<|nX<|ih (W (i - 1)) l y6 _ N H h1 h19 h16 hg ho hx
 intro hc N;exact wW<|yZ<|hx _ _ _ _ _ _ _ _ (zE N).symm H h8 h9
def zA0(r0:zQ):Option (zC×zQ):=do
 let y<-fF;let (y2,y3)<-xI r0 ([1,2,1,3]:List Int);let (aS,x1)<-mY y2 ([]:List zF) y3;let y7<-sA (zC.mk y aS);if y7 then pure ((zC.mk y aS),x1)
 else
  let y8<-fF;let l1<-slc aS 0 1;pure ((zC.mk y8 l1),x1)
theorem zIe:∀r0 r,zA0 r0=some r->∀{I:Imm}{av}{p c},(S4 I p r0.b c)->RT 138 [vP av 0] I [hB av (cRd r0 p c)] (zHH av r):=by
 intro r0 r N I av p c h;unfold zA0 at N;refine yM func138 λB=>?_;have H:=iS I;refine yD<|xY zTwo ?_;intro b hb;refine zY rfl<|yY<|bE N λy hy N=>xK (zAo  _ hy ) ?_;rintro I0 ax v2 k2 le - ⟨v0,rfl,rfl,h1⟩ -;have ⟨h,H⟩:=m2 le h H;obtain⟨p1,c1,rfl⟩:=h1.form;refine yG 2 [] [6] rfl<|xY zTwo ?_;intro b1 hb1;refine xC 0 [vS p1 y c1,z0] rfl<|zY rfl<|yA<|yD<|yG 1 [] [7] rfl<|mH (rI [1,2,1,3]) ?_;intro b2 aP aa h3;have ⟨h1,h,H⟩:=m3 aa h1 h H;refine tX (zZ [2,0,1] (ag:=[hB av (cRd r0 p c),hB b1 [vS p1 y c1,z0],hB b zTwo])) ?_;obtain⟨⟨y2,y3⟩,az,N⟩:=zB N;refine qB (xP r0 ([1,2,1,3]:List Int) _ az h h3) rfl ?_;rintro aW ax v2 k2 aC - ⟨v01,kk,rfl,rfl,rfl,h5⟩ -;have ⟨h1,H⟩:=m2 aC h1 H;obtain⟨p2,c2,rfl,h6⟩:=yJ h5;refine yQ [] [4] rfl<|wN<|qX [(0,vP av 0),(2,vP b 0),(3,vP b1 0),(4,vI y2)]<|zA6 zF λh7=>?_;obtain⟨o0,aA,aE⟩:=zB N;refine zGW y2 ([]:List zF) y3 o0 aA iR h1 h7 h6 nG nO ?_;intro I06 aS x1 p5 c5 au p6 c6 heq bv h10 h11;subst o0;have ⟨h1,H⟩:=m2 bv h1 H;refine zS<|yA<|yD<|uW 1 [2] [(21,vA [vS p1 y c1,vS p5 aS c5])]<|xV 0 rfl ?_;intro I07 le7 hl02;have h20:=SL.of_frozen hl02 le7 h10;have ⟨h1,h11,H⟩:=m3 le7 h1 h11 H;obtain⟨y7,bu,N⟩:=zB aE;refine tA (zAA (zC.mk y aS) _ bu h1 h20) ?_;intro I08 le8;have ⟨h11,h1,h20,H⟩:=m4 le8 h11 h1 h20 H;refine zY rfl<|zK<|yH N ?_ ?_
 ·intro aH N;refine yD<|uW 1 [1] [(23,vA [vS p1 y c1,vS p5 aS c5])]<|xC 2 [vS p1 y c1,vS p5 aS c5] rfl<|zY rfl<|xH<|zJ ?_;exact xX N (resC 2 rfl rfl) (zX [0] rfl (by decide)) ⟨_,_,rfl,rfl,⟨_,rfl,(xJ ⟨_,_,rfl,h1,h20⟩)⟩,(xF ⟨_,rfl,h11⟩)⟩
 intro aH N;refine zT<|zK<|yC ?_;obtain⟨y8,bC,N⟩:=zB N;obtain⟨l1,hy6,N⟩:=zB N;refine wP [.x (eS y8),.p (vP b1 1) [],.p (vS p5 aS c5) [1],.x (eS l1),.x (λI' v hx=>∃p111 c111 p121 c121,v=vA [vS p111 y8 c111,vS p121 l1 c121]/\hx=[]/\(S4 I' p111 y8 c111)/\(S4 I' p121 l1 c121))] [[],[],[(1,false)],[(2,false)],[(0,false),(3,false)]] [hB av (cRd x1 p6 c6),hB b1 [vS p1 y c1,vS p5 aS c5],hB b zTwo] [] [(4,false)] (zZ [0,1,2]) ?_ ?_
 ·refine Ox ?_<|O2<|Ox ?_<|Ox ?_<|On
  ·intro I1 hf aa;refine I_h [] ?_;have H:=iS I1;refine xK (zAo  _ bC ) ?_;rintro I09 ax v2 k2 le9 - ⟨v08,rfl,rfl,h22⟩ -;have H:=H.trans le9;obtain⟨aF,aQ,rfl⟩:=h22.form;exact yN [] H ⟨_,_,rfl,rfl,h22⟩
  ·intro I1 hf aa;refine yW [26] rfl ?_;have h20:=h20.mono aa;refine zMS rfl h20 hy6 ?_;intro v09 h23;obtain⟨bj,aZ,rfl⟩:=h23.form;exact yN [] iR ⟨_,_,rfl,rfl,h23⟩
  rintro I1 hf aa _ _ ⟨aF,aQ,rfl,rfl,h22⟩ _ _ ⟨bj,aZ,rfl,rfl,h23⟩;exact yW [24,27] rfl<|oN 5 [(28,vA [vS aF y8 aQ,vS bj l1 aZ])]<|yN [] iR ⟨_,_,_,_,rfl,rfl,h22,h23⟩
 rintro bN le10 _ _ ⟨p111,c111,p121,c121,rfl,rfl,h221,h231⟩;refine yW [2,28] rfl ?_;have h11:=h11.mono le10;refine xC 2 [vS p111 y8 c111,vS p121 l1 c121] rfl<|zY rfl<|zK<|xD ?_;exact xX N (resC 2 rfl rfl) (zX [0] rfl (by decide)) ⟨_,_,rfl,rfl,⟨_,rfl,(xJ ⟨_,_,rfl,h221,h231⟩)⟩,(xF ⟨_,rfl,h11⟩)⟩
def zHI(b0:Nat)(r:zC×zQ):KT:=λkk I' ag v=>
 ∃v0 k0,ag=[.blk b0 ⟨k0⟩]/\v=tupV [v0]/\(∃cs,v0=.agg ⟨cs⟩/\Rp.rep I' cs r.1)/\Rp.rep I' k0 r.2
def zA1(r0:zQ):Option (zC×zQ):=do
 let (y1,y2)<-nT r0 ([(⟨qL2⟩:Str),(⟨qL3⟩:Str),(⟨qL4⟩:Str),(⟨qL5⟩:Str),(⟨qL6⟩:Str),(⟨qL7⟩:Str),(⟨qL8⟩:Str),(⟨qL9⟩:Str)]:List Str);let s<-cat (⟨[112,114,111,103,114,97,109,10,97,114,114,97,121,32,65,32,54,10,97,114,114,97,121,32,66,32,52,32,53,10,97,114,114,97,121,32,67,32,51,10]⟩:Str) y1;let (y4,y5)<-jE s;let (t20,x)<-(do
  if y5 then
   let (y7,y8)<-xN y2 3;pure ((decide (y7>0)),y8)
  else
   pure (false,y2)
    : Option (Bool×zQ))
 if t20 then pure (y4,x)
 else
  let (y10,y11)<-zA0 x;pure (y10,y11)
theorem zIf:∀r0 r,zA1 r0=some r->∀{I:Imm}{av}{p c},(S4 I p r0.b c)->RT 91 [vP av 0] I [hB av (cRd r0 p c)] (zHI av r):=by
 intro r0 r N I av p c h;unfold zA1 at N;refine yM func91 λB=>?_;have H:=iS I;refine yD<|xY zTwo ?_;intro b hb;refine zY rfl<|yY<|yG 1 [] [6] rfl<|mH (rT [(⟨qL2⟩:Str),(⟨qL3⟩:Str),(⟨qL4⟩:Str),(⟨qL5⟩:Str),(⟨qL6⟩:Str),(⟨qL7⟩:Str),(⟨qL8⟩:Str),(⟨qL9⟩:Str)]) ?_;intro b1 I0 le h2;have ⟨h,H⟩:=m2 le h H;refine tX (zZ [1,0] (ag:=[hB av (cRd r0 p c),hB b zTwo])) ?_;obtain⟨⟨y1,y2⟩,hy,N⟩:=zB N;refine qB (zAJ r0 ([(⟨qL2⟩:Str),(⟨qL3⟩:Str),(⟨qL4⟩:Str),(⟨qL5⟩:Str),(⟨qL6⟩:Str),(⟨qL7⟩:Str),(⟨qL8⟩:Str),(⟨qL9⟩:Str)]:List Str) _ hy h h2) rfl ?_;rintro aP ax v2 k2 aa - ⟨v0,kk,rfl,rfl,rfl,h4⟩ -;have H:=H.trans aa;obtain⟨p1,c1,rfl,h5⟩:=yJ h4;refine yQ [] [3] rfl<|yY<|yG 1 [] [10] rfl<|bE N λs az N=>fY rfl az ?_;obtain⟨⟨y4,y5⟩,aG,N⟩:=zB N;refine xK (zEH s _ aG ) ?_;rintro aW ax v2 k2 aC - ⟨v02,v03,rfl,rfl,⟨cs,rfl,h6⟩,rfl⟩ -;have ⟨h5,H⟩:=m2 aC h5 H;obtain⟨p2,c2,p3,c3,rfl,h8,h9⟩:=kT h6;refine yG 6 [] [13,14] rfl<|xY zTwo ?_;intro b2 hb2;refine xC 0 (cProg y4 p2 c2 p3 c3) rfl<|yQ [] [5] rfl<|yA<|yC ?_;obtain⟨o0,aA,aX⟩:=zB N;refine nP (λI' ag m'=>∃(t20:Bool) (x:zQ) (p4:Option Addr) (c4:Nat),o0=(t20,x)/\aW.le I'/\(S4 I' p4 x.b c4)/\ag=[hB b2 (cProg y4 p2 c2 p3 c3),hB av (cRd x p4 c4),hB b zTwo]/\m'=[(0,vP av 0),(2,vP b 0),(4,vP b2 0),(20,.bool t20)]) ?_ ?_
 ·have H:=iS aW;refine zL<|yG 2 [] [16] rfl<|wR [16] aA ?_ ?_
  ·intro hc N;refine yG 3 [] [17] rfl<|tX (zZ [1,0,2] (ag:=[hB av (cRd y2 p1 c1),hB b2 (cProg y4 p2 c2 p3 c3),hB b zTwo])) ?_;obtain⟨⟨y7,y8⟩,bh,N⟩:=zB N;refine qB (wL y2 3 _ bh h5) rfl ?_;rintro bG ax v2 k2 aI - ⟨v06,kk1,rfl,rfl,rfl,h12⟩ -;have H:=H.trans aI;obtain⟨p5,c5,rfl,h13⟩:=yJ h12;exact yQ [] [20] rfl<|wK (zX [1,0,2] rfl (by decide))<|yZ<|zU ⟨_,_,_,_,(zE N).symm,H,h13,rfl,rfl⟩
  intro hc N;exact wM [] [(20,vF)]<|yZ<|zU ⟨_,_,_,_,(zE N).symm,H,h5,rfl,rfl⟩
 rintro bx ax m2 ⟨t20,x,p4,c4,heq,aY,h10,rfl,rfl⟩;subst o0;have ⟨h8,h9⟩:=m2 aY h8 h9;refine zK<|yH aX ?_ ?_
 ·intro aH N;refine yD<|uW 1 [0] [(21,vA (cProg y4 p2 c2 p3 c3))]<|xC 2 (cProg y4 p2 c2 p3 c3) rfl<|zY rfl<|xH<|zJ ?_;exact xX N (resC 2 rfl rfl) (zX [1] rfl (by decide)) ⟨_,_,rfl,rfl,⟨_,rfl,(xJ ⟨_,_,rfl,h8,h9⟩)⟩,(xF ⟨_,rfl,h10⟩)⟩
 intro aH N;refine zT<|yY<|yG 1 [] [22] rfl<|tX (zZ [1,0,2] (ag:=[hB av (cRd x p4 c4),hB b2 (cProg y4 p2 c2 p3 c3),hB b zTwo])) ?_;obtain⟨⟨y10,y11⟩,bu,N⟩:=zB N;refine qB (zIe x _ bu h10) rfl ?_;rintro bK ax v2 k2 bo - ⟨v08,kk2,rfl,rfl,⟨au,rfl,h14⟩,h15⟩ -;obtain⟨p6,c6,p7,c7,rfl,h16,h17⟩:=kT h14;obtain⟨p8,c8,rfl,h18⟩:=yJ h15;refine xC 2 (cProg y10 p6 c6 p7 c7) rfl<|zY rfl<|zK<|xD ?_;exact xX N (resC 2 rfl rfl) (zX [0] rfl (by decide)) ⟨_,_,rfl,rfl,⟨_,rfl,(xJ ⟨_,_,rfl,h16,h17⟩)⟩,(xF ⟨_,rfl,h18⟩)⟩
def zHJ(b0:Nat)(r:zC×Int×Int×Int×zQ):KT:=λkk I' ag v=>
 ∃v0 v1 v2 v3 k0,ag=[.blk b0 ⟨k0⟩]/\v=tupV [v0,v1,v2,v3]/\(∃cs,v0=.agg ⟨cs⟩/\Rp.rep I' cs r.1)/\v1=.int .i64 r.2.1/\v2=.int .i64 r.2.2.1/\v3=.int .i64 r.2.2.2.1/\Rp.rep I' k0 r.2.2.2.2
def zBF(r0:zQ):Option (zC×Int×Int×Int×zQ):=do
 let (y1,y2)<-zA1 r0;let (y4,y5)<-nU y2 y1;let (y7,y8)<-xI y5 ([0,0,0,1,(-1),9]:List Int);let (y10,y11)<-xI y8 ([0,0,1,0,2,(-1),9]:List Int);let (y13,y14)<-xI y11 ([1,2,3,(-1),(-2),0,6,7,(-9223372036854775808)]:List Int);pure (y4,y7,y10,y13,y14)
theorem zNO:∀r0 r,zBF r0=some r->∀{I:Imm}{av}{p c},(S4 I p r0.b c)->RT 48 [vP av 0] I [hB av (cRd r0 p c)] (zHJ av r):=by
 intro r0 r N I av p c h;unfold zBF at N;refine yM func48 λB=>?_;have H:=iS I;refine yD<|xY zTwo ?_;intro b hb;refine wM [] []<|yY<|yG 2 [] [8,9] rfl<|tX (zZ [1,0] (ag:=[hB av (cRd r0 p c),hB b zTwo])) ?_;obtain⟨⟨y1,y2⟩,hy,N⟩:=zB N;refine qB (zIf r0 _ hy h) rfl ?_;rintro I0 ax v2 k2 le - ⟨v0,kk,rfl,rfl,⟨cs,rfl,h1⟩,h2⟩ -;have H:=H.trans le;obtain⟨p1,c1,p2,c2,rfl,h3,h4⟩:=kT h1;obtain⟨p3,c3,rfl,h5⟩:=yJ h2;obtain⟨⟨y4,y5⟩,az,N⟩:=zB N;refine qB (zGu y2 y1 _ az h5 h3 h4) rfl ?_;rintro aP ax v2 k2 aa - ⟨v04,kk1,rfl,rfl,⟨au,rfl,h6⟩,h7⟩ -;have H:=H.trans aa;obtain⟨p4,c4,p5,c5,rfl,h8,h9⟩:=kT h6;obtain⟨p6,c6,rfl,h10⟩:=yJ h7;refine xY zTwo ?_;intro b1 hb1;refine xC 0 (cProg y4 p4 c4 p5 c5) rfl<|zY rfl<|yY<|yG 1 [] [12] rfl<|mH (rI [0,0,0,1,(-1),9]) ?_;intro b2 aW aC h12;have ⟨h8,h9,h10,H⟩:=m4 aC h8 h9 h10 H;refine tX (zZ [1,0,2] (ag:=[hB av (cRd y5 p6 c6),hB b1 (cProg y4 p4 c4 p5 c5),hB b zTwo])) ?_;obtain⟨⟨y7,y8⟩,aG,N⟩:=zB N;refine qB (xP y5 ([0,0,0,1,(-1),9]:List Int) _ aG h10 h12) rfl ?_;rintro bx ax v2 k2 aI - ⟨v08,kk2,rfl,rfl,rfl,h14⟩ -;have ⟨h8,h9,H⟩:=m3 aI h8 h9 H;obtain⟨p7,c7,rfl,h15⟩:=yJ h14;refine yQ [] [7] rfl<|zK<|yC ?_;obtain⟨⟨y10,y11⟩,bh,N⟩:=zB N;obtain⟨⟨y13,y14⟩,bu,N⟩:=zB N;refine wP [.p (vA (cProg y4 p4 c4 p5 c5)) [0],.p (vI y7) [],.p (vP av 0) [],.x (λI' v hx=>∃b3,v=vS (some ⟨b3,0,none⟩) ([0,0,1,0,2,(-1),9]:List Int) 7/\hx=[]/\(SL I' (vS (some ⟨b3,0,none⟩) ([0,0,1,0,2,(-1),9]:List Int) 7) ([0,0,1,0,2,(-1),9]:List Int))),.x (λI' v hx=>∃p8 c8,v=vI y10/\hx=[hB av (cRd y11 p8 c8)]/\(S4 I' p8 y11.b c8)),.p (vP av 0) [],.x (λI' v hx=>∃b4,v=vS (some ⟨b4,0,none⟩) ([1,2,3,(-1),(-2),0,6,7,(-9223372036854775808)]:List Int) 9/\hx=[]/\(SL I' (vS (some ⟨b4,0,none⟩) ([1,2,3,(-1),(-2),0,6,7,(-9223372036854775808)]:List Int) 9) ([1,2,3,(-1),(-2),0,6,7,(-9223372036854775808)]:List Int))),.x (λI' v hx=>∃p9 c9,v=vI y13/\hx=[hB av (cRd y14 p9 c9)]/\(S4 I' p9 y14.b c9)),.x (λI' v hx=>hx=[hB b (cProg y4 p4 c4 p5 c5)]),.p (vI y7) [],.q (vI y10)] [[],[],[],[],[(2,false),(3,false),(12,true)],[],[],[(5,false),(6,false),(4,true)],[(0,false),(13,true)],[(1,false)],[(4,false)]] [hB b1 (cProg y4 p4 c4 p5 c5)] [[hB av (cRd y8 p7 c7)],[hB b zTwo]] [(7,true),(8,true),(9,false),(10,false)] (zZ [1,0,2]) ?_ ?_
 ·refine O3<|Ox ?_<|Ox ?_<|Op<|Ox ?_<|Ox ?_<|Ox ?_<|Op<|Oq ?_<|On
  ·intro I1 hf aa;refine I_h [] ?_;have H:=iS I1;refine mH (rI [0,0,1,0,2,(-1),9]) ?_;intro b3 bG aY h17;have H:=H.trans aY;exact yN [] H ⟨_,rfl,rfl,h17⟩
  ·rintro I1 hf aa _ _ ⟨rfl,rfl⟩ _ _ ⟨b3,rfl,rfl,h17⟩ _ _ rfl;refine yW [17,18] rfl ?_;have H:=iS I1;have h15:=h15.mono aa;refine qB (xP y8 ([0,0,1,0,2,(-1),9]:List Int) _ bh h15 h17) rfl ?_;rintro bK ax v2 k2 bo - ⟨v010,kk3,rfl,rfl,rfl,h19⟩ -;have H:=H.trans bo;obtain⟨p8,c8,rfl,h20⟩:=yJ h19;exact yN [hB av (cRd y11 p8 c8)] H ⟨_,_,rfl,rfl,h20⟩
  ·intro I1 hf aa;refine I_h [] ?_;have H:=iS I1;refine mH (rI [1,2,3,(-1),(-2),0,6,7,(-9223372036854775808)]) ?_;intro b4 I06 bv h22;have H:=H.trans bv;exact yN [] H ⟨_,rfl,rfl,h22⟩
  ·rintro I1 hf aa _ _ ⟨rfl,rfl⟩ _ _ ⟨b4,rfl,rfl,h22⟩ _ _ ⟨p8,c8,rfl,rfl,h20⟩;refine yW [20,21] rfl ?_;have H:=iS I1;refine qB (xP y11 ([1,2,3,(-1),(-2),0,6,7,(-9223372036854775808)]:List Int) _ bu h20 h22) rfl ?_;rintro I07 ax v2 k2 le7 - ⟨v012,kk4,rfl,rfl,rfl,h24⟩ -;have H:=H.trans le7;obtain⟨p9,c9,rfl,h25⟩:=yJ h24;exact yN [hB av (cRd y14 p9 c9)] H ⟨_,_,rfl,rfl,h25⟩
  ·rintro I1 hf aa _ _ ⟨rfl,rfl⟩ _ _ rfl;refine yW [2,15] rfl ?_;have H:=iS I1;exact jV 0 (cProg y4 p4 c4 p5 c5) (hB b (cProg y4 p4 c4 p5 c5)::hB b1 (cProg y4 p4 c4 p5 c5)::hf) rfl rfl rfl rfl<|zAb (hx:=[hB b (cProg y4 p4 c4 p5 c5)]) rfl H rfl (zFk (v:=undef)) rfl
  rintro I1 hf aa _ _ ⟨p8,c8,rfl,rfl,h20⟩;exact yW [19] rfl<|oN 11 [(4,vI y10)]<|xO iR
 rintro I08 le8 _ _ ⟨p9,c9,rfl,rfl,h25⟩ _ _ rfl;refine yW [2,3,4,22] rfl ?_;have ⟨h8,h9⟩:=m2 le8 h8 h9;refine yQ [] [5] rfl<|zK<|xD ?_;exact xX N (.cell 0 rfl rfl (by kernel_rfl) (.tmp rfl (resU rfl rfl))) (zX [1] rfl (by decide)) ⟨_,_,_,_,_,rfl,rfl,⟨_,rfl,(xJ ⟨_,_,rfl,h8,h9⟩)⟩,rfl,rfl,rfl,(xF ⟨_,rfl,h25⟩)⟩
def zDe(r:(List zR)):KT:=λkk I' ag v=>
 ∃v0,ag=[]/\v=tupV [v0]/\SL I' v0 r
def vX(p:zC)(i:Int)(y:(List (List Int)))(k0:Int)(bw:List zR)(s:Int):Option (List zR):=do
 let x1<-idx p.Parts i;if(decide (s<(x1.Body.length:Int))) then
  let x2<-idx y k0;let l<-app 8 ([]:List Int) x2;let out6<-app 40 bw ([(zR.mk i s l)]:List zR);vX p i y k0 out6 (W (s+1))
 else pure (id bw)
 partial_fixpoint
theorem zDP(p:zC)(i:Int)(y:(List (List Int)))(k0:Int):∀(bw:List zR) (s:Int) (o:List zR),vX p i y k0 bw s=some o->∀{B}{I0 I:Imm}{Q p1 c p2 c1}{b}{p7 c6 aR aL c9 bz},I0.le I->(RL I aR y)->(S4 I p1 p.Arrays c)->(S4 I p2 p.Parts c1)->(RL I bz bw)->NG Q->NO Q->(∀I' out5 aF aO cs6,o=out5->I0.le I'->(RL I' cs6 out5)->T 54 B Q (.exit 4) I' [hO (List Int) (vS p7 y c6) aR,hO zR (vS aF out5 aO) cs6,hB b (cProg p p1 c p2 c1)] [(1,vP b 0),(3,vS aF out5 aO),(4,vI i),(5,vS p7 y c6),(6,vI k0)])->J Tryz.prog 54 B (nav (bodyOf f36) [1,1,0,1,0,0,1,0,0,1,1,0,0,1,0,0,1,0]) Q I [hO (List Int) (vS p7 y c6) aR,hO zR (vS aL bw c9) bz,hB b (cProg p p1 c p2 c1)] [(1,vP b 0),(3,vS aL bw c9),(4,vI i),(5,vS p7 y c6),(6,vI k0),(7,vI s)]:=by
 refine vX.partial_correctness p i y k0 _ λaJ ih bw s o N B I0 I Q p1 c p2 c1 b p7 c6 aR aL c9 bz H h8 h h1 h11 hg ho hx=>yX hg ho<|yC<|yD<|yG 4 [2] [30,32,33] rfl<|bE N λx1 aG N=>xW rfl rfl h1 aG ?_;intro ad1 bq aw ay;obtain⟨bj,aQ,bc,aZ,rfl,h13,h14⟩:=wI ay;refine yG 6 [] [35] rfl<|xM 1 aw [vS bc x1.Body aZ] (vS bc x1.Body aZ) rfl<|yQ [] [38] rfl<|zK<|yH N ?_ ?_
 ·intro ba N;refine zT<|yA<|yL<|zL<|yG 3 [] [41,42,43] rfl<|uX [] Int ?_;intro b3 hb3;have h15:RL I [] ([]:List Int):=rfl;refine yG 6 [] [45,46] rfl<|bE N λx2 bh N=>gJ 1 rfl rfl rfl h8 bh ?_;intro ad2 bL bk bI br;obtain⟨v04,rfl,h16⟩:=br;obtain⟨p14,bd,rfl⟩:=h16.form;refine zCU 1 0 bk bI [vS p14 x2 bd] (vS p14 x2 bd) rfl rfl ?_;obtain⟨ccs3,k01,k02⟩:=h16;have h16:SL I (vS p14 x2 bd) x2:=⟨_,k01,k02⟩;obtain⟨l,bu,N⟩:=zB N;refine sW 3 1 0 rfl rfl rfl h15 (.inl k01) k02 bu λp15 c14 cs7 h17=>tX (zZ [0,1,2,3] (ag:=[hO Int (vS p15 l c14) cs7,hO (List Int) (vS p7 y c6) aR,hO zR (vS aL bw c9) bz,hB b (cProg p p1 c p2 c1)]))<|yG 10 [] [50] rfl<|xV 0 rfl ?_;intro aP aa hl0;have h18:=SL.of_frozen hl0 aa h17;have ⟨h8,h11,h,h1,H⟩:=m5 aa h8 h11 h h1 H;refine uX [vI i,vI s,vS p15 l c14] zR ?_;intro b4 hb4;have h19:RL aP [vI i,vI s,vS p15 l c14] ([(zR.mk i s l)]:List zR):=⟨[vI i,vI s,vS p15 l c14],_,rfl,rfl,(zBa ⟨_,rfl,h18⟩),rfl⟩;obtain⟨out6,bC,N⟩:=zB N;exact sW 86 3 2 rfl rfl rfl h11 (.inr ⟨0,rfl⟩) h19 bC λp16 c15 cs8 h20=>tX (zZ [1,2,3] (ag:=[hO (List Int) (vS p7 y c6) aR,hO zR (vS p16 out6 c15) cs8,hB b (cProg p p1 c p2 c1)]))<|yQ [] [3] rfl<|zN<|zK<|zL<|yQ [] [7] rfl<|yV<|nX<|ih out6 (W (s+1)) _ N H h8 h h1 h20 hg ho hx
 intro ba N;exact wW<|yZ<|hx _ _ _ _ _ (zE N).symm H h11
def vZ(p:zC)(i:Int)(y:(List (List Int)))(ar:List zR)(k0:Int):Option (List zR):=do
 if(decide (k0<(y.length:Int))) then
  let out5<-vX p i y k0 ar 0;vZ p i y out5 (W (k0+1))
 else pure (id ar)
 partial_fixpoint
theorem zDQ(p:zC)(i:Int)(y:(List (List Int))):∀(ar:List zR) (k0:Int) (o:List zR),vZ p i y ar k0=some o->∀{B}{I0 I:Imm}{Q p1 c p2 c1}{b}{p7 c6 aR p8 c7 aM},I0.le I->(RL I aR y)->(S4 I p1 p.Arrays c)->(S4 I p2 p.Parts c1)->(RL I aM ar)->NG Q->NO Q->(∀I' bi p9 c8 bt,o=bi->I0.le I'->(RL I' bt bi)->T 54 B Q (.exit 2) I' [hO zR (vS p9 bi c8) bt,hB b (cProg p p1 c p2 c1)] [(1,vP b 0),(3,vS p9 bi c8),(4,vI i)])->J Tryz.prog 54 B (nav (bodyOf f36) [1,1,0,1,0,0,1,0,0,1,1,0]) Q I [hO (List Int) (vS p7 y c6) aR,hO zR (vS p8 ar c7) aM,hB b (cProg p p1 c p2 c1)] [(1,vP b 0),(3,vS p8 ar c7),(4,vI i),(5,vS p7 y c6),(6,vI k0)]:=by
 refine vZ.partial_correctness p i y _ λaJ ih ar k0 o N B I0 I Q p1 c p2 c1 b p7 c6 aR p8 c7 aM H h8 h h1 h9 hg ho hx=>yX hg ho<|yC<|yK [27] rfl<|zK<|yH N ?_ ?_
 ·intro aH N;refine zT<|yA<|yL<|yK [7] rfl<|wN<|qX [(1,vP b 0),(3,vS p8 ar c7),(4,vI i),(5,vS p7 y c6),(6,vI k0),(7,vI 0)] ?_;obtain⟨o0,aA,aE⟩:=zB N;refine zDP p i y k0 ar 0 o0 aA iR h8 h h1 h9 (λ_ _ _ h=>hg _ _ _ h) (λ_ _ h=>ho _ _ h) ?_;intro aW out5 aF aO cs6 heq aC h12;subst o0;have ⟨h8,h,h1,H⟩:=m4 aC h8 h h1 H;exact zS<|zN<|zK<|zL<|yQ [] [6] rfl<|yV<|nX<|ih out5 (W (k0+1)) _ aE H h8 h h1 h12 hg ho hx
 intro aH N;exact wW<|wK (zX [1,2] rfl (by decide))<|yZ<|hx _ _ _ _ _ (zE N).symm H h9
def uA(p:zC)(out:List zR)(i:Int):Option (List zR):=do
 if(decide (i<(p.Parts.length:Int))) then
  let x<-idx p.Parts i;let y<-tG ([]:List (List Int)) x.Nest ([]:List Int);let bi<-vZ p i y out 0;uA p bi (W (i+1))
 else pure (id out)
 partial_fixpoint
theorem zDR(p:zC):∀(out:List zR) (i:Int) (o:List zR),uA p out i=some o->∀{B}{I0 I:Imm}{Q p1 c p2 c1}{b}{p3 c2 cs},I0.le I->(S4 I p1 p.Arrays c)->(S4 I p2 p.Parts c1)->(RL I cs out)->NG Q->NO Q->(∀I' aj p4 c3 au,o=aj->I0.le I'->(RL I' au aj)->T 54 B Q (.exit 0) I' [hO zR (vS p4 aj c3) au] [(3,vS p4 aj c3)])->J Tryz.prog 54 B (nav (bodyOf f36) [1,1,0,1,0]) Q I [hO zR (vS p3 out c2) cs,hB b (cProg p p1 c p2 c1)] [(1,vP b 0),(3,vS p3 out c2),(4,vI i)]:=by
 refine uA.partial_correctness p _ λaJ ih out i o N B I0 I Q p1 c p2 c1 b p3 c2 cs H h h1 h3 hg ho hx=>yX hg ho<|yC<|yD<|yQ [1] [13] rfl<|zK<|yH N ?_ ?_
 ·intro hc N;refine zT<|yA<|yL<|yD<|uX [] (List Int) ?_;intro b2 hb2;have h5:RL I [] ([]:List (List Int)):=rfl;refine yG 4 [2] [18,19] rfl<|bE N λx hy N=>xW rfl rfl h1 hy ?_;intro ad aN aq am;obtain⟨p5,c4,p6,c5,rfl,h6,h7⟩:=wI am;refine yG 6 [] [21] rfl<|xM 0 aq [vS p5 x.Nest c4] (vS p5 x.Nest c4) rfl<|bE N λy az N=>qB (zCt ([]:List (List Int)) x.Nest ([]:List Int) _ az h5 h6 (SL.nil _)) rfl ?_;rintro I0 ax v2 k2 le - ⟨p7,c6,aR,rfl,rfl,h8⟩ -;have ⟨h3,h,h1,H⟩:=m4 le h3 h h1 H;refine yQ [] [5] rfl<|vM [6] rfl<|wN<|qX [(1,vP b 0),(3,vS p3 out c2),(4,vI i),(5,vS p7 y c6),(6,vI 0)] ?_;obtain⟨aU,aB,hMl1⟩:=zB N;refine zDQ p i y out 0 aU aB iR h8 h h1 h3 (λ_ _ _ h=>hg _ _ _ h) (λ_ _ h=>ho _ _ h) ?_;intro bx bi p9 c8 bt heq1 aI h10;subst aU;have ⟨h,h1,H⟩:=m3 aI h h1 H;exact zS<|zN<|zK<|zL<|yQ [] [4] rfl<|yV<|nX<|ih bi (W (i+1)) _ hMl1 H h h1 h10 hg ho hx
 intro hc N;exact wW<|wK (zX [0] rfl (by decide))<|yZ<|hx _ _ _ _ _ (zE N).symm H h3
def oF(p:zC):Option ((List zR)):=do
 let aj<-uA p ([]:List zR) 0;pure (id aj)
theorem zEg:∀p r,oF p=some r->∀{I:Imm}{p1 c p2 c1},(S4 I p1 p.Arrays c)->(S4 I p2 p.Parts c1)->RT 36 [vA (cProg p p1 c p2 c1)] I [] (zDe  r):=by
 intro p r N I p1 c p2 c1 h h1;unfold oF at N;refine yM func36 λB=>yD<|vC (cProg p p1 c p2 c1) ?_;intro b hb;refine wM [] []<|yY<|uX [] zR ?_;intro b1 hb1;have h2:RL I [] ([]:List zR):=rfl;refine yQ [] [3] rfl<|yA<|yK [4] rfl<|wN<|qX [(1,vP b 0),(3,vS (some ⟨b1,0,none⟩) ([]:List zR) 0),(4,vI 0)] ?_;obtain⟨o02,ho02,hMl2⟩:=zB N;refine zDR p ([]:List zR) 0 o02 ho02 iR h h1 h2 nG nO ?_;intro bG aj p4 c3 au heq2 aY h4;subst o02;refine zS<|vM [2] rfl<|xH<|xB 0 rfl ?_;intro bK bo hl01;have h21:=SL.of_frozen hl01 bo h4;exact xX hMl2 (resT rfl) zO ⟨_,rfl,rfl,h21⟩
def eO(x:zD):Option (zD):=do
 let l<-app 8 ([]:List Int) x.Dims;pure (zD.mk x.Name l)
theorem zEh:∀x r,eO x=some r->∀{I:Imm}{p c},(S4 I p x.Dims c)->RT 143 [vA (cArr x p c)] I [] (zCK  r):=by
 intro x r N I p c h;unfold eO at N;refine yM func143 λB=>yD<|vC (cArr x p c) ?_;intro b hb;refine xY [vT ([]),z0] ?_;intro b1 hb1;refine zY rfl<|yY<|uX [] Int ?_;intro b2 hb2;have h1:RL I [] ([]:List Int):=rfl;refine yG 3 [2] [5] rfl ?_;obtain⟨aN,k0,k01⟩:=h;have h:SL I (vS p x.Dims c) x.Dims:=⟨_,k0,k01⟩;obtain⟨l,hy,N⟩:=zB N;refine sW 3 1 0 rfl rfl rfl h1 (.inl k0) k01 hy ?_;intro p1 c1 cs h2;refine tX (zZ [0,1,2] (ag:=[hO Int (vS p1 l c1) cs,hB b1 [vT ([]),z0],hB b (cArr x p c)]))<|yG 5 [] [7] rfl<|xC 2 [vT x.Name.l,vS p1 l c1] rfl<|zY rfl<|yY<|uW 1 [2] [(8,vA [vT x.Name.l,vS p1 l c1])]<|xC 1 [vT x.Name.l,vS p1 l c1] rfl<|zY rfl<|xH<|xB 0 rfl ?_;intro I0 le hl0;have h3:=SL.of_frozen hl0 le h2;exact xX N (resC 0 rfl rfl) zO ⟨_,rfl,rfl,⟨_,rfl,(uP ⟨_,rfl,h3⟩)⟩⟩
def tE(list:(List zD))(out:List zD)(t9:Int):Option (List zD):=do
 if(decide (t9<(list.length:Int))) then
  let x<-idx list t9;let y<-eO x;let ar<-app 40 out ([y]:List zD);tE list ar (W (t9+1))
 else pure (id out)
 partial_fixpoint
theorem zBo(list:(List zD)):∀(out:List zD) (t9:Int) (o:List zD),tE list out t9=some o->∀{B}{I0 I:Imm}{Q p c p1 c1 cs},I0.le I->(S4 I p list c)->(RL I cs out)->NG Q->NO Q->(∀I' aj p2 c2 au,o=aj->I0.le I'->(RL I' au aj)->T 20 B Q (.exit 0) I' [hO zD (vS p2 aj c2) au] [(3,vS p2 aj c2)])->J Tryz.prog 20 B (nav (bodyOf f98) [1,1,0,1,0]) Q I [hO zD (vS p1 out c1) cs] [(3,vS p1 out c1),(7,vS p list c),(8,vI (list.length:Int)),(9,vI t9)]:=by
 refine tE.partial_correctness list _ λaJ ih out t9 o N B I0 I Q p c p1 c1 cs H h h2 hg ho hx=>yX hg ho<|yK [10] rfl<|yA<|yH N ?_ ?_
 ·intro hc N;refine zT<|yA<|yL<|yD<|bE N λx hy N=>xW rfl rfl h hy ?_;intro ad aN aq am;obtain⟨p3,c3,rfl,h4⟩:=wH am;refine xM 0 aq (cArr x p3 c3) (vA (cArr x p3 c3)) rfl<|xY [vT ([]),z0] ?_;intro b1 hb1;refine xC 0 (cArr x p3 c3) rfl<|zY rfl<|zK<|zL<|uW 2 [0] [(13,vS p1 out c1),(14,vA (cArr x p3 c3))]<|bE N λy az N=>xK (zEh x _ az h4) ?_;rintro I0 ax v2 k2 le - ⟨v01,rfl,rfl,⟨aR,rfl,h5⟩⟩ -;have ⟨h,h2,H⟩:=m3 le h h2 H;obtain⟨p4,c4,rfl,h6⟩:=wH h5;refine uX (cArr y p4 c4) zD ?_;intro b2 hb2;have h7:RL I0 (cArr y p4 c4) ([y]:List zD):=⟨(cArr y p4 c4),_,rfl,rfl,(uP ⟨_,rfl,h6⟩),rfl⟩;obtain⟨ar,aG,N⟩:=zB N;exact sW 107 2 2 rfl rfl rfl h2 (.inr ⟨0,rfl⟩) h7 aG λp5 c5 aM h8=>tX (zZ [1,2] (ag:=[hB b1 (cArr x p3 c3),hO zD (vS p5 ar c5) aM]))<|yQ [] [3] rfl<|zN<|zK<|zL<|yQ [] [9] rfl<|yV<|qZ (zX [1] rfl (by decide))<|nX<|ih ar (W (t9+1)) _ N H h h8 hg ho hx
 intro hc N;exact wW<|yZ<|hx _ _ _ _ _ (zE N).symm H h2
def jI(list:(List zD)):Option ((List zD)):=do
 let aj<-tE list ([]:List zD) 0;pure (id aj)
theorem zCy:∀list r,jI list=some r->∀{I:Imm}{p c},(S4 I p list c)->RT 98 [vS p list c] I [] (zCw  r):=by
 intro list r N I p c h;unfold jI at N;refine yM func98 λB=>wZ []<|yY<|uX [] zD ?_;intro b hb;have h1:RL I [] ([]:List zD):=rfl;refine yQ [] [3] rfl<|yA<|yK [7,8,9] rfl<|wN<|qX [(3,vS (some ⟨b,0,none⟩) ([]:List zD) 0),(7,vS p list c),(8,vI (list.length:Int)),(9,vI 0)] ?_;obtain⟨o0,aA,aE⟩:=zB N;refine zBo list ([]:List zD) 0 o0 aA iR h h1 nG nO ?_;intro aP aj p2 c2 au heq aa h3;subst o0;refine zS<|vM [2] rfl<|xH<|xB 0 rfl ?_;intro aW aC hl0;have h9:=SL.of_frozen hl0 aC h3;exact xX aE (resT rfl) zO ⟨_,rfl,rfl,h9⟩
def nL(x:zA):Option (zA):=do
 let l<-app 8 ([]:List Int) x.Coefs;pure (zA.mk l x.Const)
theorem zBO:∀x r,nL x=some r->∀{I:Imm}{p c},(S4 I p x.Coefs c)->RT 266 [vA (cAff x p c)] I [] (jC  r):=by
 intro x r N I p c h;unfold nL at N;refine yM func266 λB=>yD<|vC (cAff x p c) ?_;intro b hb;refine xY [z0,vI 0] ?_;intro b1 hb1;refine zY rfl<|yY<|uX [] Int ?_;intro b2 hb2;have h1:RL I [] ([]:List Int):=rfl;refine yG 3 [2] [5] rfl ?_;obtain⟨aN,k0,k01⟩:=h;have h:SL I (vS p x.Coefs c) x.Coefs:=⟨_,k0,k01⟩;obtain⟨l,hy,N⟩:=zB N;refine sW 3 1 0 rfl rfl rfl h1 (.inl k0) k01 hy ?_;intro p1 c1 cs h2;refine tX (zZ [0,1,2] (ag:=[hO Int (vS p1 l c1) cs,hB b1 [z0,vI 0],hB b (cAff x p c)]))<|yG 5 [] [7] rfl<|xC 2 [vS p1 l c1,vI x.Const] rfl<|zY rfl<|yY<|uW 1 [2] [(8,vA [vS p1 l c1,vI x.Const])]<|xC 1 [vS p1 l c1,vI x.Const] rfl<|zY rfl<|xH<|xB 0 rfl ?_;intro I0 le hl0;have h3:=SL.of_frozen hl0 le h2;exact xX N (resC 0 rfl rfl) zO ⟨_,rfl,rfl,⟨_,rfl,(yO ⟨_,rfl,h3⟩)⟩⟩
def uV(list:(List zA))(out:List zA)(t9:Int):Option (List zA):=do
 if(decide (t9<(list.length:Int))) then
  let x<-idx list t9;let y<-nL x;let ar<-app 32 out ([y]:List zA);uV list ar (W (t9+1))
 else pure (id out)
 partial_fixpoint
theorem zB5(list:(List zA)):∀(out:List zA) (t9:Int) (o:List zA),uV list out t9=some o->∀{B}{I0 I:Imm}{Q p c p1 c1 cs},I0.le I->(S4 I p list c)->(RL I cs out)->NG Q->NO Q->(∀I' aj p2 c2 au,o=aj->I0.le I'->(RL I' au aj)->T 20 B Q (.exit 0) I' [hO zA (vS p2 aj c2) au] [(3,vS p2 aj c2)])->J Tryz.prog 20 B (nav (bodyOf f249) [1,1,0,1,0]) Q I [hO zA (vS p1 out c1) cs] [(3,vS p1 out c1),(7,vS p list c),(8,vI (list.length:Int)),(9,vI t9)]:=by
 refine uV.partial_correctness list _ λaJ ih out t9 o N B I0 I Q p c p1 c1 cs H h h2 hg ho hx=>yX hg ho<|yK [10] rfl<|yA<|yH N ?_ ?_
 ·intro hc N;refine zT<|yA<|yL<|yD<|bE N λx hy N=>xW rfl rfl h hy ?_;intro ad aN aq am;obtain⟨p3,c3,rfl,h4⟩:=yI am;refine xM 0 aq (cAff x p3 c3) (vA (cAff x p3 c3)) rfl<|xY [z0,vI 0] ?_;intro b1 hb1;refine xC 0 (cAff x p3 c3) rfl<|zY rfl<|zK<|zL<|uW 2 [0] [(13,vS p1 out c1),(14,vA (cAff x p3 c3))]<|bE N λy az N=>xK (zBO x _ az h4) ?_;rintro I0 ax v2 k2 le - ⟨v01,rfl,rfl,⟨aR,rfl,h5⟩⟩ -;have ⟨h,h2,H⟩:=m3 le h h2 H;obtain⟨p4,c4,rfl,h6⟩:=yI h5;refine uX (cAff y p4 c4) zA ?_;intro b2 hb2;have h7:RL I0 (cAff y p4 c4) ([y]:List zA):=⟨(cAff y p4 c4),_,rfl,rfl,(yO ⟨_,rfl,h6⟩),rfl⟩;obtain⟨ar,aG,N⟩:=zB N;exact sW 95 2 2 rfl rfl rfl h2 (.inr ⟨0,rfl⟩) h7 aG λp5 c5 aM h8=>tX (zZ [1,2] (ag:=[hB b1 (cAff x p3 c3),hO zA (vS p5 ar c5) aM]))<|yQ [] [3] rfl<|zN<|zK<|zL<|yQ [] [9] rfl<|yV<|qZ (zX [1] rfl (by decide))<|nX<|ih ar (W (t9+1)) _ N H h h8 hg ho hx
 intro hc N;exact wW<|yZ<|hx _ _ _ _ _ (zE N).symm H h2
def sO(list:(List zA)):Option ((List zA)):=do
 let aj<-uV list ([]:List zA) 0;pure (id aj)
theorem fH:∀list r,sO list=some r->∀{I:Imm}{p c},(S4 I p list c)->RT 249 [vS p list c] I [] (dM  r):=by
 intro list r N I p c h;unfold sO at N;refine yM func249 λB=>wZ []<|yY<|uX [] zA ?_;intro b hb;have h1:RL I [] ([]:List zA):=rfl;refine yQ [] [3] rfl<|yA<|yK [7,8,9] rfl<|wN<|qX [(3,vS (some ⟨b,0,none⟩) ([]:List zA) 0),(7,vS p list c),(8,vI (list.length:Int)),(9,vI 0)] ?_;obtain⟨o0,aA,aE⟩:=zB N;refine zB5 list ([]:List zA) 0 o0 aA iR h h1 nG nO ?_;intro aP aj p2 c2 au heq aa h3;subst o0;refine zS<|vM [2] rfl<|xH<|xB 0 rfl ?_;intro aW aC hl0;have h9:=SL.of_frozen hl0 aC h3;exact xX aE (resT rfl) zO ⟨_,rfl,rfl,h9⟩
def dB(x:zG):Option (zG):=do
 let y<-sO x.Lo;let y1<-sO x.Hi;pure (zG.mk y y1)
theorem zF3:∀x r,dB x=some r->∀{I:Imm}{p c p1 c1},(S4 I p x.Lo c)->(S4 I p1 x.Hi c1)->RT 222 [vA (cLoop x p c p1 c1)] I [] (zCq  r):=by
 intro x r N I p c p1 c1 h h1;unfold dB at N;refine yM func222 λB=>yD<|vC (cLoop x p c p1 c1) ?_;intro b hb;refine xY zTwo ?_;intro b1 hb1;refine zY rfl<|yY<|yG 2 [1] [4] rfl<|bE N λy hy N=>xK (fH x.Lo _ hy h) ?_;rintro I0 ax v2 k2 le - ⟨v0,rfl,rfl,h2⟩ -;have h1:=h1.mono le;obtain⟨p2,c2,rfl⟩:=h2.form;refine yG 4 [] [6] rfl<|xC 1 [vS p2 y c2,vS p1 x.Hi c1] rfl<|zY rfl<|yY<|yG 2 [1] [8] rfl<|bE N λy1 az N=>xK (fH x.Hi _ az h1) ?_;rintro aP ax v2 k2 aa - ⟨v01,rfl,rfl,h3⟩ -;have h2:=h2.mono aa;obtain⟨p3,c3,rfl⟩:=h3.form;refine yG 4 [] [10] rfl<|xC 1 [vS p2 y c2,vS p3 y1 c3] rfl<|zY rfl<|yY<|uW 1 [1] [(11,vA [vS p2 y c2,vS p3 y1 c3])]<|xC 0 [vS p2 y c2,vS p3 y1 c3] rfl<|zY rfl<|zK<|xD ?_;exact xX N (resC 0 rfl rfl) zO ⟨_,rfl,rfl,⟨_,rfl,(uR ⟨_,_,rfl,h2,h3⟩)⟩⟩
def tU(list:(List zG))(out:List zG)(t9:Int):Option (List zG):=do
 if(decide (t9<(list.length:Int))) then
  let x<-idx list t9;let y<-dB x;let ar<-app 48 out ([y]:List zG);tU list ar (W (t9+1))
 else pure (id out)
 partial_fixpoint
theorem zBv(list:(List zG)):∀(out:List zG) (t9:Int) (o:List zG),tU list out t9=some o->∀{B}{I0 I:Imm}{Q p c p1 c1 cs},I0.le I->(S4 I p list c)->(RL I cs out)->NG Q->NO Q->(∀I' aj p2 c2 au,o=aj->I0.le I'->(RL I' au aj)->T 20 B Q (.exit 0) I' [hO zG (vS p2 aj c2) au] [(3,vS p2 aj c2)])->J Tryz.prog 20 B (nav (bodyOf f182) [1,1,0,1,0]) Q I [hO zG (vS p1 out c1) cs] [(3,vS p1 out c1),(7,vS p list c),(8,vI (list.length:Int)),(9,vI t9)]:=by
 refine tU.partial_correctness list _ λaJ ih out t9 o N B I0 I Q p c p1 c1 cs H h h2 hg ho hx=>yX hg ho<|yK [10] rfl<|yA<|yH N ?_ ?_
 ·intro hc N;refine zT<|yA<|yL<|yD<|bE N λx hy N=>xW rfl rfl h hy ?_;intro ad aN aq am;obtain⟨p3,c3,p4,c4,rfl,h4,h5⟩:=vD am;refine xM 0 aq (cLoop x p3 c3 p4 c4) (vA (cLoop x p3 c3 p4 c4)) rfl<|xY zTwo ?_;intro b1 hb1;refine xC 0 (cLoop x p3 c3 p4 c4) rfl<|zY rfl<|zK<|zL<|uW 2 [0] [(13,vS p1 out c1),(14,vA (cLoop x p3 c3 p4 c4))]<|bE N λy az N=>xK (zF3 x _ az h4 h5) ?_;rintro I0 ax v2 k2 le - ⟨v02,rfl,rfl,⟨aR,rfl,h6⟩⟩ -;have ⟨h,h2,H⟩:=m3 le h h2 H;obtain⟨p5,c5,p6,c6,rfl,h7,h8⟩:=vD h6;refine uX (cLoop y p5 c5 p6 c6) zG ?_;intro b2 hb2;have h9:RL I0 (cLoop y p5 c5 p6 c6) ([y]:List zG):=⟨(cLoop y p5 c5 p6 c6),_,rfl,rfl,(uR ⟨_,_,rfl,h7,h8⟩),rfl⟩;obtain⟨ar,aG,N⟩:=zB N;exact sW 141 2 2 rfl rfl rfl h2 (.inr ⟨0,rfl⟩) h9 aG λp7 c7 aM h10=>tX (zZ [1,2] (ag:=[hB b1 (cLoop x p3 c3 p4 c4),hO zG (vS p7 ar c7) aM]))<|yQ [] [3] rfl<|zN<|zK<|zL<|yQ [] [9] rfl<|yV<|qZ (zX [1] rfl (by decide))<|nX<|ih ar (W (t9+1)) _ N H h h10 hg ho hx
 intro hc N;exact wW<|yZ<|hx _ _ _ _ _ (zE N).symm H h2
def mF(list:(List zG)):Option ((List zG)):=do
 let aj<-tU list ([]:List zG) 0;pure (id aj)
theorem zDS:∀list r,mF list=some r->∀{I:Imm}{p c},(S4 I p list c)->RT 182 [vS p list c] I [] (zAi  r):=by
 intro list r N I p c h;unfold mF at N;refine yM func182 λB=>wZ []<|yY<|uX [] zG ?_;intro b hb;have h1:RL I [] ([]:List zG):=rfl;refine yQ [] [3] rfl<|yA<|yK [7,8,9] rfl<|wN<|qX [(3,vS (some ⟨b,0,none⟩) ([]:List zG) 0),(7,vS p list c),(8,vI (list.length:Int)),(9,vI 0)] ?_;obtain⟨o0,aA,aE⟩:=zB N;refine zBv list ([]:List zG) 0 o0 aA iR h h1 nG nO ?_;intro aP aj p2 c2 au heq aa h3;subst o0;refine zS<|vM [2] rfl<|xH<|xB 0 rfl ?_;intro aW aC hl0;have h11:=SL.of_frozen hl0 aC h3;exact xX aE (resT rfl) zO ⟨_,rfl,rfl,h11⟩
def nM(x:zM):Option (zM):=do
 let y<-sO x.Subs;pure (zM.mk x.Array y)
theorem zBP:∀x r,nM x=some r->∀{I:Imm}{p c},(S4 I p x.Subs c)->RT 250 [vA (cAccess x p c)] I [] (zBZ  r):=by
 intro x r N I p c h;unfold nM at N;refine yM func250 λB=>yD<|vC (cAccess x p c) ?_;intro b hb;refine xY [vT ([]),z0] ?_;intro b1 hb1;refine zY rfl<|yY<|yG 2 [1] [4] rfl<|bE N λy hy N=>xK (fH x.Subs _ hy h) ?_;rintro I0 ax v2 k2 le - ⟨v0,rfl,rfl,h1⟩ -;obtain⟨p1,c1,rfl⟩:=h1.form;refine yG 4 [] [6] rfl<|xC 1 [vT x.Array.l,vS p1 y c1] rfl<|zY rfl<|yY<|uW 1 [1] [(7,vA [vT x.Array.l,vS p1 y c1])]<|xC 0 [vT x.Array.l,vS p1 y c1] rfl<|zY rfl<|zK<|xD ?_;exact xX N (resC 0 rfl rfl) zO ⟨_,rfl,rfl,⟨_,rfl,(oG ⟨_,rfl,h1⟩)⟩⟩
def zC0(r:(List zH)):KT:=λkk I' ag v=>
 ∃v0,ag=[]/\v=tupV [v0]/\SL I' v0 r
mutual
def mG(list:(List zH)):Option ((List zH)):=do
 let aj<-rO (same list) ([]:List zH) (same 0);pure (id aj)
 partial_fixpoint
def rO(list:(List zH))(out:List zH)(t9:Int):Option (List zH):=do
 if(decide (t9<(list.length:Int))) then
  let x<-idx list t9;let y<-nJ (same x);let ar<-app 112 out ([y]:List zH);rO (same list) (same ar) (W (t9+1))
 else pure (id out)
 partial_fixpoint
def nJ(x:zH):Option (zH):=do
 let y<-nL x.Index;let y1<-nM x.Read;let y2<-mG x.Kids;pure (zH.mk x.Kind x.Num y y1 y2)
 partial_fixpoint
end
theorem zCz:(∀(list:(List zH)) r,mG list=some r->∀{I:Imm}{p c},(S4 I p list c)->RT 267 [vS p list c] I [] (zC0  r))/\(∀(list:(List zH)) (out:List zH) (t9:Int) o,rO list out t9=some o->∀{B}{I0 I:Imm}{Q p c p1 c1 cs},I0.le I->(S4 I p list c)->(RL I cs out)->NG Q->NO Q->(∀I' aj p2 c2 au,o=aj->I0.le I'->(RL I' au aj)->T 20 B Q (.exit 0) I' [hO zH (vS p2 aj c2) au] [(3,vS p2 aj c2)])->J Tryz.prog 20 B (nav (bodyOf f267) [1,1,0,1,0]) Q I [hO zH (vS p1 out c1) cs] [(3,vS p1 out c1),(7,vS p list c),(8,vI (list.length:Int)),(9,vI t9)])/\(∀(x:zH) r,nJ x=some r->∀{I:Imm}{p c p1 c1 p2 c2},(S4 I p x.Index.Coefs c)->(S4 I p1 x.Read.Subs c1)->(S4 I p2 x.Kids c2)->RT 251 [vA (cExpr x p c p1 c1 p2 c2)] I [] (dA  r)):=by
 refine mG.mutual_partial_correctness _ _ _ ?_ ?_ ?_
 ·intro F_spec_l16OwnListExpr_l1 ih_spec_l16OwnListExpr_l1 list r N I p c h;refine yM func267 λB=>wZ []<|yY<|uX [] zH ?_;intro b hb;have h1:RL I [] ([]:List zH):=rfl;refine yQ [] [3] rfl<|yA<|yK [7,8,9] rfl<|wN<|qX [(3,vS (some ⟨b,0,none⟩) ([]:List zH) 0),(7,vS p list c),(8,vI (list.length:Int)),(9,vI 0)] ?_;obtain⟨o0,aA,aE⟩:=zB N;refine ih_spec_l16OwnListExpr_l1 list ([]:List zH) 0 o0 aA iR h h1 nG nO ?_;intro aP aj p2 c2 au heq aa h3;subst o0;refine zS<|vM [2] rfl<|xH<|xB 0 rfl ?_;intro aW aC hl0;have h13:=SL.of_frozen hl0 aC h3;exact xX aE (resT rfl) zO ⟨_,rfl,rfl,h13⟩
 ·intro F_spec_l16OwnListExpr_l1 F_spec_l16OwnExpr ih_spec_l16OwnListExpr_l1 ih_spec_l16OwnExpr list out t9 o N B I0 I Q p c p1 c1 cs H h h2 hg ho hx;refine yX hg ho<|yK [10] rfl<|yA<|yH N ?_ ?_
  ·intro hc N;refine zT<|yA<|yL<|yD<|bE N λx hy N=>xW rfl rfl h hy ?_;intro ad aN aq am;obtain⟨p3,c3,p4,c4,p5,c5,rfl,h4,h5,h6⟩:=wT am;refine xM 0 aq (cExpr x p3 c3 p4 c4 p5 c5) (vA (cExpr x p3 c3 p4 c4 p5 c5)) rfl<|xY zExpr ?_;intro b1 hb1;refine xC 0 (cExpr x p3 c3 p4 c4 p5 c5) rfl<|zY rfl<|zK<|zL<|uW 2 [0] [(13,vS p1 out c1),(14,vA (cExpr x p3 c3 p4 c4 p5 c5))]<|bE N λy az N=>xK (ih_spec_l16OwnExpr x _ az h4 h5 h6) ?_;rintro I0 ax v2 k2 le - ⟨v03,rfl,rfl,⟨aR,rfl,h7⟩⟩ -;have ⟨h,h2,H⟩:=m3 le h h2 H;obtain⟨p6,c6,p7,c7,p8,c8,rfl,h8,h9,h10⟩:=wT h7;refine uX (cExpr y p6 c6 p7 c7 p8 c8) zH ?_;intro b2 hb2;have h11:RL I0 (cExpr y p6 c6 p7 c7 p8 c8) ([y]:List zH):=⟨(cExpr y p6 c6 p7 c7 p8 c8),_,rfl,rfl,(wF ⟨_,_,_,rfl,h8,h9,h10⟩),rfl⟩;obtain⟨ar,aG,N⟩:=zB N;exact sW 98 7 2 rfl rfl rfl h2 (.inr ⟨0,rfl⟩) h11 aG λp9 c9 aM h12=>tX (zZ [1,2] (ag:=[hB b1 (cExpr x p3 c3 p4 c4 p5 c5),hO zH (vS p9 ar c9) aM]))<|yQ [] [3] rfl<|zN<|zK<|zL<|yQ [] [9] rfl<|yV<|qZ (zX [1] rfl (by decide))<|nX<|ih_spec_l16OwnListExpr_l1 list ar (W (t9+1)) _ N H h h12 hg ho hx
  intro hc N;exact wW<|yZ<|hx _ _ _ _ _ (zE N).symm H h2
 intro F_spec_l16OwnListExpr ih_spec_l16OwnListExpr x r N I p c p1 c1 p2 c2 h h1 h2;refine yM func251 λB=>yD<|vC (cExpr x p c p1 c1 p2 c2) ?_;intro b hb;refine xY zExpr ?_;intro b1 hb1;refine zY rfl<|yY<|uW 2 [1] [(4,vA (cAff x.Index p c))]<|bE N λy hy N=>xK (zBO x.Index _ hy h) ?_;rintro I0 ax v2 k2 le - ⟨v0,rfl,rfl,⟨cs,rfl,h3⟩⟩ -;have ⟨h1,h2⟩:=m2 le h1 h2;obtain⟨p3,c3,rfl,h4⟩:=yI h3;refine yG 4 [] [6] rfl<|xC 1 [vI x.Kind,vI x.Num,vS p3 y.Coefs c3,vI y.Const,vT x.Read.Array.l,vS p1 x.Read.Subs c1,vS p2 x.Kids c2] rfl<|zY rfl<|yY<|uW 2 [1] [(8,vA (cAccess x.Read p1 c1))]<|bE N λy1 az N=>xK (zBP x.Read _ az h1) ?_;rintro aP ax v2 k2 aa - ⟨v02,rfl,rfl,⟨au,rfl,h5⟩⟩ -;have ⟨h4,h2⟩:=m2 aa h4 h2;obtain⟨p4,c4,rfl,h6⟩:=rF h5;refine yG 4 [] [10] rfl<|xC 1 [vI x.Kind,vI x.Num,vS p3 y.Coefs c3,vI y.Const,vT y1.Array.l,vS p4 y1.Subs c4,vS p2 x.Kids c2] rfl<|zY rfl<|yY<|yG 2 [1] [12] rfl<|bE N λy2 aG N=>xK (ih_spec_l16OwnListExpr x.Kids _ aG h2) ?_;rintro aW ax v2 k2 aC - ⟨v04,rfl,rfl,h7⟩ -;have ⟨h4,h6⟩:=m2 aC h4 h6;obtain⟨p5,c5,rfl⟩:=h7.form;refine yG 4 [] [14] rfl<|xC 1 [vI x.Kind,vI x.Num,vS p3 y.Coefs c3,vI y.Const,vT y1.Array.l,vS p4 y1.Subs c4,vS p5 y2 c5] rfl<|zY rfl<|yY<|uW 1 [1] [(15,vA [vI x.Kind,vI x.Num,vS p3 y.Coefs c3,vI y.Const,vT y1.Array.l,vS p4 y1.Subs c4,vS p5 y2 c5])]<|xC 0 [vI x.Kind,vI x.Num,vS p3 y.Coefs c3,vI y.Const,vT y1.Array.l,vS p4 y1.Subs c4,vS p5 y2 c5] rfl<|zY rfl<|zK<|xD ?_;exact xX N (resC 0 rfl rfl) zO ⟨_,rfl,rfl,⟨_,rfl,(wF ⟨_,_,_,rfl,h4,h6,h7⟩)⟩⟩
theorem zF4:∀x r,nJ x=some r->∀{I:Imm}{p c p1 c1 p2 c2},(S4 I p x.Index.Coefs c)->(S4 I p1 x.Read.Subs c1)->(S4 I p2 x.Kids c2)->RT 251 [vA (cExpr x p c p1 c1 p2 c2)] I [] (dA  r):=zCz.2.2
def gR(x:zI):Option (zI):=do
 let y<-nM x.Write;let y1<-nJ x.Value;pure (zI.mk y y1)
theorem zF5:∀x r,gR x=some r->∀{I:Imm}{p c p1 c1 p2 c2 p3 c3},(S4 I p x.Write.Subs c)->(S4 I p1 x.Value.Index.Coefs c1)->(S4 I p2 x.Value.Read.Subs c2)->(S4 I p3 x.Value.Kids c3)->RT 223 [vA (cStmt x p c p1 c1 p2 c2 p3 c3)] I [] (jF  r):=by
 intro x r N I p c p1 c1 p2 c2 p3 c3 h h1 h2 h3;unfold gR at N;refine yM func223 λB=>yD<|vC (cStmt x p c p1 c1 p2 c2 p3 c3) ?_;intro b hb;refine xY [vT ([]),z0,vI 0,vI 0,z0,vI 0,vT ([]),z0,z0] ?_;intro b1 hb1;refine zY rfl<|yY<|uW 2 [1] [(4,vA (cAccess x.Write p c))]<|bE N λy hy N=>xK (zBP x.Write _ hy h) ?_;rintro I0 ax v2 k2 le - ⟨v0,rfl,rfl,⟨cs,rfl,h4⟩⟩ -;have ⟨h1,h2,h3⟩:=m3 le h1 h2 h3;obtain⟨p4,c4,rfl,h5⟩:=rF h4;refine yG 4 [] [6] rfl<|xC 1 [vT y.Array.l,vS p4 y.Subs c4,vI x.Value.Kind,vI x.Value.Num,vS p1 x.Value.Index.Coefs c1,vI x.Value.Index.Const,vT x.Value.Read.Array.l,vS p2 x.Value.Read.Subs c2,vS p3 x.Value.Kids c3] rfl<|zY rfl<|yY<|uW 2 [1] [(8,vA (cExpr x.Value p1 c1 p2 c2 p3 c3))]<|bE N λy1 az N=>xK (zF4 x.Value _ az h1 h2 h3) ?_;rintro aP ax v2 k2 aa - ⟨v02,rfl,rfl,⟨au,rfl,h6⟩⟩ -;have h5:=h5.mono aa;obtain⟨p5,c5,p6,c6,p7,c7,rfl,h7,h8,h9⟩:=wT h6;refine yG 4 [] [10] rfl<|xC 1 [vT y.Array.l,vS p4 y.Subs c4,vI y1.Kind,vI y1.Num,vS p5 y1.Index.Coefs c5,vI y1.Index.Const,vT y1.Read.Array.l,vS p6 y1.Read.Subs c6,vS p7 y1.Kids c7] rfl<|zY rfl<|yY<|uW 1 [1] [(11,vA [vT y.Array.l,vS p4 y.Subs c4,vI y1.Kind,vI y1.Num,vS p5 y1.Index.Coefs c5,vI y1.Index.Const,vT y1.Read.Array.l,vS p6 y1.Read.Subs c6,vS p7 y1.Kids c7])]<|xC 0 [vT y.Array.l,vS p4 y.Subs c4,vI y1.Kind,vI y1.Num,vS p5 y1.Index.Coefs c5,vI y1.Index.Const,vT y1.Read.Array.l,vS p6 y1.Read.Subs c6,vS p7 y1.Kids c7] rfl<|zY rfl<|zK<|xD ?_;exact xX N (resC 0 rfl rfl) zO ⟨_,rfl,rfl,⟨_,rfl,(wG ⟨_,_,_,_,rfl,h5,h7,h8,h9⟩)⟩⟩
def zC1(r:(List zI)):KT:=λkk I' ag v=>
 ∃v0,ag=[]/\v=tupV [v0]/\SL I' v0 r
def tV(list:(List zI))(out:List zI)(t9:Int):Option (List zI):=do
 if(decide (t9<(list.length:Int))) then
  let x<-idx list t9;let y<-gR x;let ar<-app 152 out ([y]:List zI);tV list ar (W (t9+1))
 else pure (id out)
 partial_fixpoint
theorem zBw(list:(List zI)):∀(out:List zI) (t9:Int) (o:List zI),tV list out t9=some o->∀{B}{I0 I:Imm}{Q p c p1 c1 cs},I0.le I->(S4 I p list c)->(RL I cs out)->NG Q->NO Q->(∀I' aj p2 c2 au,o=aj->I0.le I'->(RL I' au aj)->T 20 B Q (.exit 0) I' [hO zI (vS p2 aj c2) au] [(3,vS p2 aj c2)])->J Tryz.prog 20 B (nav (bodyOf f183) [1,1,0,1,0]) Q I [hO zI (vS p1 out c1) cs] [(3,vS p1 out c1),(7,vS p list c),(8,vI (list.length:Int)),(9,vI t9)]:=by
 refine tV.partial_correctness list _ λaJ ih out t9 o N B I0 I Q p c p1 c1 cs H h h2 hg ho hx=>yX hg ho<|yK [10] rfl<|yA<|yH N ?_ ?_
 ·intro hc N;refine zT<|yA<|yL<|yD<|bE N λx hy N=>xW rfl rfl h hy ?_;intro ad aN aq am;obtain⟨p3,c3,p4,c4,p5,c5,p6,c6,rfl,h4,h5,h6,h7⟩:=vG am;refine xM 0 aq (cStmt x p3 c3 p4 c4 p5 c5 p6 c6) (vA (cStmt x p3 c3 p4 c4 p5 c5 p6 c6)) rfl<|xY [vT ([]),z0,vI 0,vI 0,z0,vI 0,vT ([]),z0,z0] ?_;intro b1 hb1;refine xC 0 (cStmt x p3 c3 p4 c4 p5 c5 p6 c6) rfl<|zY rfl<|zK<|zL<|uW 2 [0] [(13,vS p1 out c1),(14,vA (cStmt x p3 c3 p4 c4 p5 c5 p6 c6))]<|bE N λy az N=>xK (zF5 x _ az h4 h5 h6 h7) ?_;rintro I0 ax v2 k2 le - ⟨v04,rfl,rfl,⟨aR,rfl,h8⟩⟩ -;have ⟨h,h2,H⟩:=m3 le h h2 H;obtain⟨p7,c7,p8,c8,p9,c9,aL,aO,rfl,h9,h10,h11,h12⟩:=vG h8;refine uX (cStmt y p7 c7 p8 c8 p9 c9 aL aO) zI ?_;intro b2 hb2;have h13:RL I0 (cStmt y p7 c7 p8 c8 p9 c9 aL aO) ([y]:List zI):=⟨(cStmt y p7 c7 p8 c8 p9 c9 aL aO),_,rfl,rfl,(wG ⟨_,_,_,_,rfl,h9,h10,h11,h12⟩),rfl⟩;obtain⟨ar,aG,N⟩:=zB N;exact sW 100 9 2 rfl rfl rfl h2 (.inr ⟨0,rfl⟩) h13 aG λaF aQ aM h14=>tX (zZ [1,2] (ag:=[hB b1 (cStmt x p3 c3 p4 c4 p5 c5 p6 c6),hO zI (vS aF ar aQ) aM]))<|yQ [] [3] rfl<|zN<|zK<|zL<|yQ [] [9] rfl<|yV<|qZ (zX [1] rfl (by decide))<|nX<|ih ar (W (t9+1)) _ N H h h14 hg ho hx
 intro hc N;exact wW<|yZ<|hx _ _ _ _ _ (zE N).symm H h2
def jT(list:(List zI)):Option ((List zI)):=do
 let aj<-tV list ([]:List zI) 0;pure (id aj)
theorem zDT:∀list r,jT list=some r->∀{I:Imm}{p c},(S4 I p list c)->RT 183 [vS p list c] I [] (zC1  r):=by
 intro list r N I p c h;unfold jT at N;refine yM func183 λB=>wZ []<|yY<|uX [] zI ?_;intro b hb;have h1:RL I [] ([]:List zI):=rfl;refine yQ [] [3] rfl<|yA<|yK [7,8,9] rfl<|wN<|qX [(3,vS (some ⟨b,0,none⟩) ([]:List zI) 0),(7,vS p list c),(8,vI (list.length:Int)),(9,vI 0)] ?_;obtain⟨o0,aA,aE⟩:=zB N;refine zBw list ([]:List zI) 0 o0 aA iR h h1 nG nO ?_;intro aP aj p2 c2 au heq aa h3;subst o0;refine zS<|vM [2] rfl<|xH<|xB 0 rfl ?_;intro aW aC hl0;have h15:=SL.of_frozen hl0 aC h3;exact xX aE (resT rfl) zO ⟨_,rfl,rfl,h15⟩
def zEK(r:zF):KT:=λkk I' ag v=>
 ∃v0,ag=[]/\v=tupV [v0]/\(∃cs,v0=.agg ⟨cs⟩/\Rp.rep I' cs r)
def gS(x:zF):Option (zF):=do
 let y<-mF x.Nest;let y1<-jT x.Body;pure (zF.mk y y1)
theorem zF6:∀x r,gS x=some r->∀{I:Imm}{p c p1 c1},(S4 I p x.Nest c)->(S4 I p1 x.Body c1)->RT 144 [vA (cPart x p c p1 c1)] I [] (zEK  r):=by
 intro x r N I p c p1 c1 h h1;unfold gS at N;refine yM func144 λB=>yD<|vC (cPart x p c p1 c1) ?_;intro b hb;refine xY zTwo ?_;intro b1 hb1;refine zY rfl<|yY<|yG 2 [1] [4] rfl<|bE N λy hy N=>xK (zDS x.Nest _ hy h) ?_;rintro I0 ax v2 k2 le - ⟨v0,rfl,rfl,h2⟩ -;have h1:=h1.mono le;obtain⟨p2,c2,rfl⟩:=h2.form;refine yG 4 [] [6] rfl<|xC 1 [vS p2 y c2,vS p1 x.Body c1] rfl<|zY rfl<|yY<|yG 2 [1] [8] rfl<|bE N λy1 az N=>xK (zDT x.Body _ az h1) ?_;rintro aP ax v2 k2 aa - ⟨v01,rfl,rfl,h3⟩ -;have h2:=h2.mono aa;obtain⟨p3,c3,rfl⟩:=h3.form;refine yG 4 [] [10] rfl<|xC 1 [vS p2 y c2,vS p3 y1 c3] rfl<|zY rfl<|yY<|uW 1 [1] [(11,vA [vS p2 y c2,vS p3 y1 c3])]<|xC 0 [vS p2 y c2,vS p3 y1 c3] rfl<|zY rfl<|zK<|xD ?_;exact xX N (resC 0 rfl rfl) zO ⟨_,rfl,rfl,⟨_,rfl,(wU ⟨_,_,rfl,h2,h3⟩)⟩⟩
def zC2(r:(List zF)):KT:=λkk I' ag v=>
 ∃v0,ag=[]/\v=tupV [v0]/\SL I' v0 r
def tW(list:(List zF))(out:List zF)(t9:Int):Option (List zF):=do
 if(decide (t9<(list.length:Int))) then
  let x<-idx list t9;let y<-gS x;let ar<-app 48 out ([y]:List zF);tW list ar (W (t9+1))
 else pure (id out)
 partial_fixpoint
theorem zBx(list:(List zF)):∀(out:List zF) (t9:Int) (o:List zF),tW list out t9=some o->∀{B}{I0 I:Imm}{Q p c p1 c1 cs},I0.le I->(S4 I p list c)->(RL I cs out)->NG Q->NO Q->(∀I' aj p2 c2 au,o=aj->I0.le I'->(RL I' au aj)->T 20 B Q (.exit 0) I' [hO zF (vS p2 aj c2) au] [(3,vS p2 aj c2)])->J Tryz.prog 20 B (nav (bodyOf f99) [1,1,0,1,0]) Q I [hO zF (vS p1 out c1) cs] [(3,vS p1 out c1),(7,vS p list c),(8,vI (list.length:Int)),(9,vI t9)]:=by
 refine tW.partial_correctness list _ λaJ ih out t9 o N B I0 I Q p c p1 c1 cs H h h2 hg ho hx=>yX hg ho<|yK [10] rfl<|yA<|yH N ?_ ?_
 ·intro hc N;refine zT<|yA<|yL<|yD<|bE N λx hy N=>xW rfl rfl h hy ?_;intro ad aN aq am;obtain⟨p3,c3,p4,c4,rfl,h4,h5⟩:=wI am;refine xM 0 aq (cPart x p3 c3 p4 c4) (vA (cPart x p3 c3 p4 c4)) rfl<|xY zTwo ?_;intro b1 hb1;refine xC 0 (cPart x p3 c3 p4 c4) rfl<|zY rfl<|zK<|zL<|uW 2 [0] [(13,vS p1 out c1),(14,vA (cPart x p3 c3 p4 c4))]<|bE N λy az N=>xK (zF6 x _ az h4 h5) ?_;rintro I0 ax v2 k2 le - ⟨v02,rfl,rfl,⟨aR,rfl,h6⟩⟩ -;have ⟨h,h2,H⟩:=m3 le h h2 H;obtain⟨p5,c5,p6,c6,rfl,h7,h8⟩:=wI h6;refine uX (cPart y p5 c5 p6 c6) zF ?_;intro b2 hb2;have h9:RL I0 (cPart y p5 c5 p6 c6) ([y]:List zF):=⟨(cPart y p5 c5 p6 c6),_,rfl,rfl,(wU ⟨_,_,rfl,h7,h8⟩),rfl⟩;obtain⟨ar,aG,N⟩:=zB N;exact sW 47 2 2 rfl rfl rfl h2 (.inr ⟨0,rfl⟩) h9 aG λp7 c7 aM h10=>tX (zZ [1,2] (ag:=[hB b1 (cPart x p3 c3 p4 c4),hO zF (vS p7 ar c7) aM]))<|yQ [] [3] rfl<|zN<|zK<|zL<|yQ [] [9] rfl<|yV<|qZ (zX [1] rfl (by decide))<|nX<|ih ar (W (t9+1)) _ N H h h10 hg ho hx
 intro hc N;exact wW<|yZ<|hx _ _ _ _ _ (zE N).symm H h2
def jU(list:(List zF)):Option ((List zF)):=do
 let aj<-tW list ([]:List zF) 0;pure (id aj)
theorem zDU:∀list r,jU list=some r->∀{I:Imm}{p c},(S4 I p list c)->RT 99 [vS p list c] I [] (zC2  r):=by
 intro list r N I p c h;unfold jU at N;refine yM func99 λB=>wZ []<|yY<|uX [] zF ?_;intro b hb;have h1:RL I [] ([]:List zF):=rfl;refine yQ [] [3] rfl<|yA<|yK [7,8,9] rfl<|wN<|qX [(3,vS (some ⟨b,0,none⟩) ([]:List zF) 0),(7,vS p list c),(8,vI (list.length:Int)),(9,vI 0)] ?_;obtain⟨o0,aA,aE⟩:=zB N;refine zBx list ([]:List zF) 0 o0 aA iR h h1 nG nO ?_;intro aP aj p2 c2 au heq aa h3;subst o0;refine zS<|vM [2] rfl<|xH<|xB 0 rfl ?_;intro aW aC hl0;have h11:=SL.of_frozen hl0 aC h3;exact xX aE (resT rfl) zO ⟨_,rfl,rfl,h11⟩
def gT(x:zC):Option (zC):=do
 let y<-jI x.Arrays;let y1<-jU x.Parts;pure (zC.mk y y1)
theorem zKN:∀x r,gT x=some r->∀{I:Imm}{p c p1 c1},(S4 I p x.Arrays c)->(S4 I p1 x.Parts c1)->RT 56 [vA (cProg x p c p1 c1)] I [] (zAs  r):=by
 intro x r N I p c p1 c1 h h1;unfold gT at N;refine yM func56 λB=>yD<|vC (cProg x p c p1 c1) ?_;intro b hb;refine xY zTwo ?_;intro b1 hb1;refine zY rfl<|yY<|yG 2 [1] [4] rfl<|bE N λy hy N=>xK (zCy x.Arrays _ hy h) ?_;rintro I0 ax v2 k2 le - ⟨v0,rfl,rfl,h2⟩ -;have h1:=h1.mono le;obtain⟨p2,c2,rfl⟩:=h2.form;refine yG 4 [] [6] rfl<|xC 1 [vS p2 y c2,vS p1 x.Parts c1] rfl<|zY rfl<|yY<|yG 2 [1] [8] rfl<|bE N λy1 az N=>xK (zDU x.Parts _ az h1) ?_;rintro aP ax v2 k2 aa - ⟨v01,rfl,rfl,h3⟩ -;have h2:=h2.mono aa;obtain⟨p3,c3,rfl⟩:=h3.form;refine yG 4 [] [10] rfl<|xC 1 [vS p2 y c2,vS p3 y1 c3] rfl<|zY rfl<|yY<|uW 1 [1] [(11,vA [vS p2 y c2,vS p3 y1 c3])]<|xC 0 [vS p2 y c2,vS p3 y1 c3] rfl<|zY rfl<|zK<|xD ?_;exact xX N (resC 0 rfl rfl) zO ⟨_,rfl,rfl,⟨_,rfl,(xJ ⟨_,_,rfl,h2,h3⟩)⟩⟩
def zHK(r:(List wE)):KT:=λkk I' ag v=>
 ∃v0,ag=[]/\v=tupV [v0]/\SL I' v0 r
def rP(p:zC)(y:(List zR))(out:List wE)(i:Int):Option (List wE):=do
 if(decide (i<(y.length:Int))) then
  let x<-idx y i;let x1<-idx p.Parts x.Part;let x2<-idx y i;let x3<-idx x1.Body x2.Stmt;let x4<-idx y i;let (y2,y3,y4)<-kL p.Arrays x3 x4.Point;let ar<-app 32 out ([(wE.mk y2 y3)]:List wE);rP p y ar (W (i+1))
 else pure (id out)
 partial_fixpoint
theorem zGX(p:zC)(y:(List zR)):∀(out:List wE) (i:Int) (o:List wE),rP p y out i=some o->∀{B}{I0 I:Imm}{Q p1 c p2 c1}{b}{p3 c2 p4 c3 cs},I0.le I->(S4 I p3 y c2)->(S4 I p1 p.Arrays c)->(S4 I p2 p.Parts c1)->(RL I cs out)->NG Q->NO Q->(∀I' aj p5 c4 au,o=aj->I0.le I'->(RL I' au aj)->T 54 B Q (.exit 0) I' [hO wE (vS p5 aj c4) au] [(3,vS p5 aj c4)])->J Tryz.prog 54 B (nav (bodyOf f102) [1,1,1,0,1,0]) Q I [hO wE (vS p4 out c3) cs,hB b (cProg p p1 c p2 c1)] [(1,vP b 0),(3,vS p4 out c3),(4,vS p3 y c2),(5,vI i)]:=by
 refine rP.partial_correctness p y _ λaJ ih out i o N B I0 I Q p1 c p2 c1 b p3 c2 p4 c3 cs H h3 h h1 h4 hg ho hx=>yX hg ho<|yC<|yK [15] rfl<|zK<|yH N ?_ ?_
 ·intro hc N;refine zT<|yA<|yL<|yC ?_;obtain⟨x,az,N⟩:=zB N;obtain⟨x1,aG,N⟩:=zB N;obtain⟨x2,bh,N⟩:=zB N;obtain⟨x3,bu,N⟩:=zB N;obtain⟨x4,bC,N⟩:=zB N;obtain⟨⟨y2,y3,y4⟩,hy6,N⟩:=zB N;refine wP [.p (vP b 0) [],.p (vS p1 p.Arrays c) [1],.p (vP b 1) [],.p (vS p2 p.Parts c1) [1],.p (vS p3 y c2) [],.p (vI i) [],.x (ePInst x),.x (ePInst x),.q (vI x.Part),.x (ePPart x1),.x (eQPart 1 x1),.x (eS x1.Body),.p (vS p3 y c2) [],.p (vI i) [],.x (ePInst x2),.x (eQInst 1 x2),.q (vI x2.Stmt),.x (ePStmt x3),.x (eVStmt x3),.p (vS p3 y c2) [],.p (vI i) [],.x (ePInst x4),.x (eQInst 2 x4),.x (eS x4.Point),.x (λI' v hx=>∃p15 c14,v=.tuple ⟨[vS p15 y2 c14,vI y3,.bool y4]⟩/\hx=[]/\(S4 I' p15 y2 c14)),.x (λI' v hx=>∃p151 c141,v=.tuple ⟨[vS p151 y2 c141,vI y3,.bool y4]⟩/\hx=[]/\(S4 I' p151 y2 c141)),.x (eS y2),.q (vI y3),.q (.bool y4),.x (eS y2),.p (vI y3) []] [[],[(0,false)],[],[(2,false)],[],[],[(4,false),(5,false)],[(6,false)],[(7,false)],[(3,false),(8,false)],[(9,false)],[(10,false)],[],[],[(12,false),(13,false)],[(14,false)],[(15,false)],[(11,false),(16,false)],[(17,false)],[],[],[(19,false),(20,false)],[(21,false)],[(22,false)],[(1,false),(18,false),(23,false)],[(24,false)],[(25,false)],[(25,false)],[(25,false)],[(26,false)],[(27,false)]] [hO wE (vS p4 out c3) cs,hB b (cProg p p1 c p2 c1)] [] [(28,false),(29,false),(30,false)] (zZ [0,1]) ?_ ?_
  ·refine O4<|O2<|Ox ?_<|Ox ?_<|Oq ?_<|Ox ?_<|Ox ?_<|Ox ?_<|O2<|Ox ?_<|Ox ?_<|Oq ?_<|Ox ?_<|Ox ?_<|O2<|Ox ?_<|Ox ?_<|Ox ?_<|Ox ?_<|Ox ?_<|Ox ?_<|Oq ?_<|Oq ?_<|Ox ?_<|Op<|On
   ·intro I1 hf aa;refine yW [23,24] rfl ?_;have h3:=h3.mono aa;refine xW rfl rfl h3 az ?_;intro ad aN aq am;obtain⟨p6,c5,rfl,h6⟩:=oH am;exact yN [] iR ⟨_,_,_,rfl,rfl,aq,h6⟩
   ·rintro I1 hf aa _ _ ⟨ad,p6,c5,rfl,rfl,aq,h6⟩;exact yW [25] rfl<|oN 8 [(26,.pointer (some ad))]<|yN [] iR ⟨_,_,_,rfl,rfl,aq,h6⟩
   ·rintro I1 hf aa _ _ ⟨ad1,p61,c51,rfl,rfl,aw,h61⟩;exact yW [26] rfl<|xM 0 aw [vI x.Part] (vI x.Part) rfl<|xO iR
   ·intro I1 hf aa;refine yW [22,27] rfl ?_;have h1:=h1.mono aa;refine xW rfl rfl h1 aG ?_;intro ad2 bq bk ay;obtain⟨p7,c6,p8,c7,rfl,h7,h8⟩:=wI ay;exact yN [] iR ⟨_,_,_,_,_,rfl,rfl,bk,h7,h8⟩
   ·rintro I1 hf aa _ _ ⟨ad2,p7,c6,p8,c7,rfl,rfl,bk,h7,h8⟩;exact yW [28] rfl<|oN 11 [(29,.pointer (some (ad2.add 1)))]<|yN [] iR ⟨_,_,_,_,_,rfl,rfl,bk,h7,h8⟩
   ·rintro I1 hf aa _ _ ⟨ad21,p71,c61,p81,c71,rfl,rfl,hat21,h71,h81⟩;exact yW [29] rfl<|xM 1 hat21 [vS p81 x1.Body c71] (vS p81 x1.Body c71) rfl<|yN [] iR ⟨_,_,rfl,rfl,h81⟩
   ·intro I1 hf aa;refine yW [31,32] rfl ?_;have h3:=h3.mono aa;refine xW rfl rfl h3 bh ?_;intro ad3 bL hat3 br;obtain⟨p9,c8,rfl,h9⟩:=oH br;exact yN [] iR ⟨_,_,_,rfl,rfl,hat3,h9⟩
   ·rintro I1 hf aa _ _ ⟨ad3,p9,c8,rfl,rfl,hat3,h9⟩;exact yW [33] rfl<|oN 16 [(34,.pointer (some (ad3.add 1)))]<|yN [] iR ⟨_,_,_,rfl,rfl,hat3,h9⟩
   ·rintro I1 hf aa _ _ ⟨ad31,p91,c81,rfl,rfl,hat31,h91⟩;exact yW [34] rfl<|xM 1 hat31 [vI x2.Stmt] (vI x2.Stmt) rfl<|xO iR
   ·rintro I1 hf aa _ _ ⟨p811,c711,rfl,rfl,h811⟩;refine yW [30,35] rfl<|xW rfl rfl h811 bu ?_;intro ad4 ccs3 hat4 bB;obtain⟨aL,c9,aF,aO,bj,aQ,bc,aZ,rfl,h10,h11,h12,h13⟩:=vG bB;exact yN [] iR ⟨_,_,_,_,_,_,_,_,_,rfl,rfl,hat4,h10,h11,h12,h13⟩
   ·rintro I1 hf aa _ _ ⟨ad4,aL,c9,aF,aO,bj,aQ,bc,aZ,rfl,rfl,hat4,h10,h11,h12,h13⟩;exact yW [36] rfl<|xM 0 hat4 (cStmt x3 aL c9 aF aO bj aQ bc aZ) (vA (cStmt x3 aL c9 aF aO bj aQ bc aZ)) rfl<|yN [] iR ⟨_,_,_,_,_,_,_,_,rfl,rfl,h10,h11,h12,h13⟩
   ·intro I1 hf aa;refine yW [38,39] rfl ?_;have h3:=h3.mono aa;refine xW rfl rfl h3 bC ?_;intro ad5 ccs4 hat5 hrep4;obtain⟨p14,bd,rfl,h14⟩:=oH hrep4;exact yN [] iR ⟨_,_,_,rfl,rfl,hat5,h14⟩
   ·rintro I1 hf aa _ _ ⟨ad5,p14,bd,rfl,rfl,hat5,h14⟩;exact yW [40] rfl<|oN 23 [(41,.pointer (some (ad5.add 2)))]<|yN [] iR ⟨_,_,_,rfl,rfl,hat5,h14⟩
   ·rintro I1 hf aa _ _ ⟨ad51,p141,c131,rfl,rfl,hat51,h141⟩;exact yW [41] rfl<|xM 2 hat51 [vS p141 x4.Point c131] (vS p141 x4.Point c131) rfl<|yN [] iR ⟨_,_,rfl,rfl,h141⟩
   ·rintro I1 hf aa _ _ ⟨rfl,rfl⟩ _ _ ⟨p101,c91,p111,c101,p121,c111,p131,c121,rfl,rfl,h101,h111,h121,h131⟩ _ _ ⟨p1411,c1311,rfl,rfl,h1411⟩;refine yW [20,37,42] rfl ?_;have H:=iS I1;have h:=h.mono aa;refine xK (zD4 p.Arrays x3 x4.Point _ hy6 h h101 h111 h121 h131 h1411) ?_;rintro aP ax v2 k2 aa - ⟨v010,v011,v012,rfl,rfl,h15,rfl,rfl⟩ -;have H:=H.trans aa;obtain⟨p15,c14,rfl⟩:=h15.form;exact yN [] H ⟨_,_,rfl,rfl,h15⟩
   ·rintro I1 hf aa _ _ ⟨p15,c14,rfl,rfl,h15⟩;exact yW [43] rfl<|oN 26 [(18,.tuple ⟨[vS p15 y2 c14,vI y3,.bool y4]⟩)]<|yN [] iR ⟨_,_,rfl,rfl,h15⟩
   ·rintro I1 hf aa _ _ ⟨p151,c141,rfl,rfl,h151⟩;exact yW [18] rfl<|oN 27 [(44,vS p151 y2 c141)]<|yN [] iR ⟨_,_,rfl,rfl,h151⟩
   ·rintro I1 hf aa _ _ ⟨p151,c141,rfl,rfl,h151⟩;exact yW [18] rfl<|oN 28 [(45,vI y3)]<|xO iR
   ·rintro I1 hf aa _ _ ⟨p151,c141,rfl,rfl,h151⟩;exact yW [18] rfl<|oN 29 [(46,.bool y4)]<|xO iR
   rintro I1 hf aa _ _ ⟨p1511,c1411,rfl,rfl,h1511⟩;exact yW [44] rfl<|oN 30 [(6,vS p1511 y2 c1411)]<|yN [] iR ⟨_,_,rfl,rfl,h1511⟩
  rintro aW aC _ _ ⟨rfl,rfl⟩ _ _ ⟨p15111,c14111,rfl,rfl,h15111⟩;refine yW [1,3,4,5,6,7,46] rfl ?_;have ⟨h4,h3,h,h1,H⟩:=m5 aC h4 h3 h h1 H;refine wM [] []<|zK<|zL<|yG 4 [] [47,50] rfl<|uX [vS p15111 y2 c14111,vI y3] wE ?_;intro b2 hb2;have h18:RL aW [vS p15111 y2 c14111,vI y3] ([(wE.mk y2 y3)]:List wE):=⟨[vS p15111 y2 c14111,vI y3],_,rfl,rfl,(zH3 ⟨_,rfl,h15111⟩),rfl⟩;obtain⟨ar,hy7,N⟩:=zB N;exact sW 153 2 1 rfl rfl rfl h4 (.inr ⟨0,rfl⟩) h18 hy7 λp16 c15 aR h19=>tX (zZ [1,2] (ag:=[hO wE (vS p16 ar c15) aR,hB b (cProg p p1 c p2 c1)]))<|yQ [] [3] rfl<|zN<|zK<|zL<|yQ [] [5] rfl<|yV<|nX<|ih ar (W (i+1)) _ N H h3 h h1 h19 hg ho hx
 intro hc N;exact wW<|wK (zX [0] rfl (by decide))<|yZ<|hx _ _ _ _ _ (zE N).symm H h4
def fI(p:zC):Option ((List wE)):=do
 let y<-oF p;let aj<-rP p y ([]:List wE) 0;pure (id aj)
theorem zIg:∀p r,fI p=some r->∀{I:Imm}{p1 c p2 c1},(S4 I p1 p.Arrays c)->(S4 I p2 p.Parts c1)->RT 102 [vA (cProg p p1 c p2 c1)] I [] (zHK  r):=by
 intro p r N I p1 c p2 c1 h h1;unfold fI at N;refine yM func102 λB=>yD<|vC (cProg p p1 c p2 c1) ?_;intro b hb;refine wM [] []<|yY<|uX [] wE ?_;intro b1 hb1;have h2:RL I [] ([]:List wE):=rfl;refine yQ [] [3] rfl<|yY<|uW 1 [1] [(10,vA (cProg p p1 c p2 c1))]<|bE N λy hy N=>xK (zEg p _ hy h h1) ?_;rintro I0 ax v2 k2 le - ⟨v0,rfl,rfl,h3⟩ -;have ⟨h2,h,h1⟩:=m3 le h2 h h1;obtain⟨p3,c2,rfl⟩:=h3.form;refine yQ [] [4] rfl<|yA<|yK [5] rfl<|wN<|qX [(1,vP b 0),(3,vS (some ⟨b1,0,none⟩) ([]:List wE) 0),(4,vS p3 y c2),(5,vI 0)] ?_;obtain⟨o0,aA,aE⟩:=zB N;refine zGX p y ([]:List wE) 0 o0 aA iR h3 h h1 h2 nG nO ?_;intro bx aj p5 c4 au heq aI h5;subst o0;refine zS<|vM [2] rfl<|xH<|xB 0 rfl ?_;intro bG aY hl0;have h20:=SL.of_frozen hl0 aY h5;exact xX aE (resT rfl) zO ⟨_,rfl,rfl,h20⟩
def kZ(list:(List Int))(n0:Int)(i:Int):Option (Out Unit (Bool)):=do
 if(decide (i<(list.length:Int))) then
  let x<-idx list i;if(x==n0) then pure (.ret true)
  else kZ list n0 (W (i+1))
 else pure (.done ())
 partial_fixpoint
theorem zHL(list:(List Int))(n0:Int):∀(i:Int) (o:Out Unit (Bool)),kZ list n0 i=some o->∀{B}{I0 I:Imm}{Q p c},I0.le I->(S4 I p list c)->NG Q->NO Q->(∀I',o=(.done ())->I0.le I'->T 18 B Q (.exit 0) I' [] [])->(∀r I' ag m',o=(.ret r)->I0.le I'->RS Tryz.prog f149 B (zW  r) I' ag m'->T 18 B Q .ret I' ag m')->J Tryz.prog 18 B (nav (bodyOf f149) [1,0,1,0]) Q I [] [(0,vS p list c),(1,vI n0),(5,vI i)]:=by
 refine kZ.partial_correctness list n0 _ λaJ ih i o N B I0 I Q p c H h hg ho hx hr=>yX hg ho<|yC<|yK [9] rfl<|zK<|yH N ?_ ?_
 ·intro hc N;refine zT<|yA<|yL<|yD<|yG 2 [] [12,13] rfl<|bE N λx hy N=>xW rfl rfl h hy ?_;intro ad aN aq am;obtain rfl:=am;refine xM 0 aq [vI x] (vI x) rfl<|yQ [] [17] rfl<|zK<|yH N ?_ ?_
  ·intro aH N;exact wZ [(4,vY)]<|xH<|zV<|zJ<|zJ<|hr _ _ _ _ (zE N).symm H ⟨_,_,(resT rfl),zO,⟨_,rfl,rfl,rfl⟩⟩
  intro aH N;exact zT<|zN<|zK<|zL<|yQ [] [5] rfl<|yV<|nX<|ih (W (i+1)) _ N H h hg ho hx hr
 intro hc N;exact wW<|yZ<|hx _  (zE N).symm H
def zAK(list:(List Int))(n0:Int):Option (Bool):=do
 match<-kZ list n0 0 with
 | .ret r0=>pure r0
 | .done _=>
  pure false
theorem zEv:∀list n0 r,zAK list n0=some r->∀{I:Imm}{p c},(S4 I p list c)->RT 149 [vS p list c,vI n0] I [] (zW  r):=by
 intro list n0 r N I p c h;unfold zAK at N;refine yM func149 λB=>wZ []<|yA<|yK [5] rfl<|wN<|qX [(0,vS p list c),(1,vI n0),(5,vI 0)] ?_;obtain⟨o0,aA,aE⟩:=zB N;refine zHL list n0 0 o0 aA iR h nG nO ?_ ?_
 ·intro I0  heq le;subst o0;refine zS<|zE3 [(4,vF)]<|zK<|xD ?_;obtain rfl:=zE aE;exact vH
 intro r0 I9 hs9 m9 aT le9 aV;subst aT;refine zV<|zJ ?_;obtain rfl:=zE aE;exact jW aV
def zAC(a0:wE)(b:wE):Option (Int):=do
 let y<-zAK b.reads a0.write;let n0<-(do
  if y then pure (W (0+1))
  else
   pure (id 0)
    : Option Int)
 let y1<-zAK a0.reads b.write;let n01<-(do
  if y1 then pure (W (n0+2))
  else
   pure (id n0)
    : Option Int)
 let n02<-(do
  if(a0.write==b.write) then pure (W (n01+4))
  else
   pure (id n01)
    : Option Int)
 pure (id n02)
theorem zHn:∀a0 b r,zAC a0 b=some r->∀{I:Imm}{p c p1 c1},(S4 I p a0.reads c)->(S4 I p1 b.reads c1)->RT 103 [vA [vS p a0.reads c,vI a0.write],vA [vS p1 b.reads c1,vI b.write]] I [] (yP  r):=by
 intro a0 b r N I p c p1 c1 h h1;unfold zAC at N;refine yM func103 λB=>?_;have H:=iS I;refine yD<|vC [vS p a0.reads c,vI a0.write] ?_;intro b1 hb;refine vC [vS p1 b.reads c1,vI b.write] ?_;intro b2 hb1;refine wM [] []<|vM [5] rfl<|yA<|yD<|yG 4 [0,1] [7,9] rfl<|bE N λy hy N=>tA (zEv b.reads a0.write _ hy h1) ?_;intro I0 le;have ⟨h,H⟩:=m2 le h H;refine zY rfl<|zK ?_;refine vQ N [hB b2 [vS p1 b.reads c1,vI b.write],hB b1 [vS p a0.reads c,vI a0.write]] (λn0=>[(2,vP b1 0),(3,vP b2 0),(5,vI n0)]) (λo0 aA=>?_) ?_
 ·have H:=iS I0;refine yH aA ?_ ?_
  ·intro hc N;exact zL<|yQ [] [5] rfl<|yZ<|zU (ct N H)
  intro hc N;exact zT<|yZ<|zU (ct N H)
 intro n0 aP aa aX;have ⟨h,H⟩:=m2 aa h H;refine yA<|yD<|yG 4 [1,0] [14,16] rfl ?_;obtain⟨y1,az,N⟩:=zB aX;refine tA (zEv a0.reads b.write _ az h) ?_;intro aW aC;have H:=H.trans aC;refine zY rfl<|zK ?_;refine vQ N [hB b2 [vS p1 b.reads c1,vI b.write],hB b1 [vS p a0.reads c,vI a0.write]] (λn01=>[(2,vP b1 0),(3,vP b2 0),(5,vI n01)]) (λaU aB=>?_) ?_
 ·have H:=iS aW;refine yH aB ?_ ?_
  ·intro aH N;exact zL<|yQ [] [5] rfl<|yZ<|zU (ct N H)
  intro aH N;exact zT<|yZ<|zU (ct N H)
 intro n01 bx aI hMc1;have H:=H.trans aI;refine yA<|yD<|yQ [1,0] [24] rfl<|zK ?_;refine vQ hMc1 [] (λn02=>[(5,vI n02)]) (λo02 ho02=>?_) ?_
 ·have H:=iS bx;refine yH ho02 ?_ ?_
  ·intro ba N;exact zL<|yQ [] [5] rfl<|wK zO<|yZ<|zU (ct N H)
  intro ba N;exact zT<|wK zO<|yZ<|zU (ct N H)
 intro n02 bG aY hMc2;refine vM [4] rfl<|zK<|xD ?_;obtain rfl:=zE hMc2;exact vH
def mZ(y:(List wE))(i:Int)(ar:List yR)(k0:Int):Option (List yR):=do
 if(decide (k0<(y.length:Int))) then
  let x<-idx y i;let x1<-idx y k0;let y1<-zAC x x1;let bw<-(do
   if(y1 != 0) then
    let out5<-app 24 ar ([(yR.mk i k0 y1)]:List yR);pure (id out5)
   else
    pure (id ar)
     : Option (List yR))
  mZ y i bw (W (k0+1))
 else pure (id ar)
 partial_fixpoint
theorem zGY(y:(List wE))(i:Int):∀(ar:List yR) (k0:Int) (o:List yR),mZ y i ar k0=some o->∀{B}{I0 I:Imm}{Q p3 c2 p6 c5 aR},I0.le I->(S4 I p3 y c2)->(RL I aR ar)->NG Q->NO Q->(∀I' bi p7 c6 aM,o=bi->I0.le I'->(RL I' aM bi)->T 44 B Q (.exit 2) I' [hO yR (vS p7 bi c6) aM] [(3,vS p7 bi c6),(4,vS p3 y c2),(5,vI i)])->J Tryz.prog 44 B (nav (bodyOf f58) [1,1,1,0,1,0,0,1,0,0,1,0]) Q I [hO yR (vS p6 ar c5) aR] [(3,vS p6 ar c5),(4,vS p3 y c2),(5,vI i),(6,vI k0)]:=by
 refine mZ.partial_correctness y i _ λaJ ih ar k0 o N B I0 I Q p3 c2 p6 c5 aR H h3 h6 hg ho hx=>yX hg ho<|yC<|yK [22] rfl<|zK<|yH N ?_ ?_
 ·intro aH N;refine zT<|yA<|yL<|yC ?_;obtain⟨x,az,N⟩:=zB N;obtain⟨x1,aG,N⟩:=zB N;obtain⟨y1,bh,N⟩:=zB N;refine wP [.p (vS p3 y c2) [],.p (vI i) [],.x (λI' v hx=>∃ad p8 c7,v=.pointer (some ad)/\hx=[]/\(At I' ad [vS p8 x.reads c7,vI x.write])/\(S4 I' p8 x.reads c7)),.x (λI' v hx=>∃p81 c71,v=vA [vS p81 x.reads c71,vI x.write]/\hx=[]/\(S4 I' p81 x.reads c71)),.p (vS p3 y c2) [],.p (vI k0) [],.x (λI' v hx=>∃ad1 p9 c8,v=.pointer (some ad1)/\hx=[]/\(At I' ad1 [vS p9 x1.reads c8,vI x1.write])/\(S4 I' p9 x1.reads c8)),.x (λI' v hx=>∃p91 c81,v=vA [vS p91 x1.reads c81,vI x1.write]/\hx=[]/\(S4 I' p91 x1.reads c81)),.q (vI y1)] [[],[],[(0,false),(1,false)],[(2,false)],[],[],[(4,false),(5,false)],[(6,false)],[(3,false),(7,false)]] [hO yR (vS p6 ar c5) aR] [] [(8,false)] (zZ [0]) ?_ ?_
  ·refine O2<|Ox ?_<|Ox ?_<|O2<|Ox ?_<|Ox ?_<|Oq ?_<|On
   ·intro I1 hf aa;refine yW [25,26] rfl ?_;have h3:=h3.mono aa;refine xW rfl rfl h3 az ?_;intro ad aN aq am;obtain⟨p8,c7,rfl,h8⟩:=zEr am;exact yN [] iR ⟨_,_,_,rfl,rfl,aq,h8⟩
   ·rintro I1 hf aa _ _ ⟨ad,p8,c7,rfl,rfl,aq,h8⟩;exact yW [27] rfl<|xM 0 aq [vS p8 x.reads c7,vI x.write] (vA [vS p8 x.reads c7,vI x.write]) rfl<|yN [] iR ⟨_,_,rfl,rfl,h8⟩
   ·intro I1 hf aa;refine yW [29,30] rfl ?_;have h3:=h3.mono aa;refine xW rfl rfl h3 aG ?_;intro ad1 bq aw ay;obtain⟨p9,c8,rfl,h9⟩:=zEr ay;exact yN [] iR ⟨_,_,_,rfl,rfl,aw,h9⟩
   ·rintro I1 hf aa _ _ ⟨ad1,p9,c8,rfl,rfl,aw,h9⟩;exact yW [31] rfl<|xM 0 aw [vS p9 x1.reads c8,vI x1.write] (vA [vS p9 x1.reads c8,vI x1.write]) rfl<|yN [] iR ⟨_,_,rfl,rfl,h9⟩
   rintro I1 hf aa _ _ ⟨p81,c71,rfl,rfl,h81⟩ _ _ ⟨p91,c81,rfl,rfl,h91⟩;refine yW [28,32] rfl ?_;have H:=iS I1;refine dC (zHn x x1 _ bh h81 h91) ?_;intro aP aa;have H:=H.trans aa;exact xO H
  intro aW aC;refine yW [3,4,5,6,33] rfl ?_;have ⟨h6,h3,H⟩:=m3 aC h6 h3 H;refine yQ [] [7] rfl<|vM [35] rfl<|zK ?_;obtain⟨o0,aA,aX⟩:=zB N;refine nP (λI' ag m'=>∃(bw:List yR) (aL:Option Addr) (c9:Nat) (bt:List Value),o0=bw/\aW.le I'/\(RL I' bt bw)/\ag=[hO yR (vS aL bw c9) bt]/\m'=[(3,vS aL bw c9),(4,vS p3 y c2),(5,vI i),(6,vI k0)]) ?_ ?_
  ·have H:=iS aW;refine yH aA ?_ ?_
   ·intro ba N;refine zL<|yG 5 [] [36,40] rfl<|uX [vI i,vI k0,vI y1] yR ?_;intro b2 hb2;have h12:RL aW [vI i,vI k0,vI y1] ([(yR.mk i k0 y1)]:List yR):=⟨[vI i,vI k0,vI y1],_,rfl,rfl,(zEq rfl),rfl⟩;obtain⟨out5,bu,N⟩:=zB N;exact sW 84 3 1 rfl rfl rfl h6 (.inr ⟨0,rfl⟩) h12 bu λaF aO bz h13=>tX (zZ [1] (ag:=[hO yR (vS aF out5 aO) bz]))<|yQ [] [3] rfl<|yZ<|zU ⟨_,_,_,_,(zE N).symm,H,h13,rfl,rfl⟩
   intro ba N;exact zT<|yZ<|zU ⟨_,_,_,_,(zE N).symm,H,h6,rfl,rfl⟩
  rintro bx ax m2 ⟨bw,aL,c9,bt,heq,aI,h11,rfl,rfl⟩;subst o0;have ⟨h3,H⟩:=m2 aI h3 H;exact zN<|zK<|zL<|yQ [] [6] rfl<|yV<|nX<|ih bw (W (k0+1)) _ aX H h3 h11 hg ho hx
 intro aH N;exact wW<|yZ<|hx _ _ _ _ _ (zE N).symm H h6
def kC(y:(List wE))(out:List yR)(i:Int):Option (List yR):=do
 if(decide (i<(y.length:Int))) then
  let bi<-mZ y i out (W (i+1));kC y bi (W (i+1))
 else pure (id out)
 partial_fixpoint
theorem zGZ(y:(List wE)):∀(out:List yR) (i:Int) (o:List yR),kC y out i=some o->∀{B}{I0 I:Imm}{Q p3 c2 p4 c3 cs},I0.le I->(S4 I p3 y c2)->(RL I cs out)->NG Q->NO Q->(∀I' aj p5 c4 au,o=aj->I0.le I'->(RL I' au aj)->T 44 B Q (.exit 0) I' [hO yR (vS p5 aj c4) au] [(3,vS p5 aj c4)])->J Tryz.prog 44 B (nav (bodyOf f58) [1,1,1,0,1,0]) Q I [hO yR (vS p4 out c3) cs] [(3,vS p4 out c3),(4,vS p3 y c2),(5,vI i)]:=by
 refine kC.partial_correctness y _ λaJ ih out i o N B I0 I Q p3 c2 p4 c3 cs H h3 h4 hg ho hx=>yX hg ho<|yC<|yK [14] rfl<|zK<|yH N ?_ ?_
 ·intro hc N;refine zT<|yA<|yL<|yK [6] rfl<|wN<|qX [(3,vS p4 out c3),(4,vS p3 y c2),(5,vI i),(6,vI (W (i+1)))] ?_;obtain⟨aU,aB,aE⟩:=zB N;refine zGY y i out (W (i+1)) aU aB iR h3 h4 (λ_ _ _ h=>hg _ _ _ h) (λ_ _ h=>ho _ _ h) ?_;intro bG bi p7 c6 aM heq1 aY h7;subst aU;have ⟨h3,H⟩:=m2 aY h3 H;exact zS<|zN<|zK<|zL<|yQ [] [5] rfl<|yV<|nX<|ih bi (W (i+1)) _ aE H h3 h7 hg ho hx
 intro hc N;exact wW<|yZ<|hx _ _ _ _ _ (zE N).symm H h4
def zA2(p:zC):Option ((List yR)):=do
 let y<-fI p;let aj<-kC y ([]:List yR) 0;pure (id aj)
theorem zNP:∀p r,zA2 p=some r->∀{I:Imm}{p1 c p2 c1},(S4 I p1 p.Arrays c)->(S4 I p2 p.Parts c1)->RT 58 [vA (cProg p p1 c p2 c1)] I [] (zAt  r):=by
 intro p r N I p1 c p2 c1 h h1;unfold zA2 at N;refine yM func58 λB=>yD<|vC (cProg p p1 c p2 c1) ?_;intro b hb;refine wM [] []<|yY<|uX [] yR ?_;intro b1 hb1;have h2:RL I [] ([]:List yR):=rfl;refine yQ [] [3] rfl<|yY<|uW 1 [1] [(9,vA (cProg p p1 c p2 c1))]<|bE N λy hy N=>xK (zIg p _ hy h h1) ?_;rintro I0 ax v2 k2 le - ⟨v0,rfl,rfl,h3⟩ -;have ⟨h2,h⟩:=m2 le h2 h;obtain⟨p3,c2,rfl⟩:=h3.form;refine yQ [] [4] rfl<|yA<|yK [5] rfl<|wN<|qZ (zZ [0] (ag:=[hO yR (vS (some ⟨b1,0,none⟩) ([]:List yR) 0) []]))<|qX [(3,vS (some ⟨b1,0,none⟩) ([]:List yR) 0),(4,vS p3 y c2),(5,vI 0)] ?_;obtain⟨o02,ho02,hMl1⟩:=zB N;refine zGZ y ([]:List yR) 0 o02 ho02 iR h3 h2 nG nO ?_;intro bK aj p5 c4 au heq2 bo h5;subst o02;refine zS<|vM [2] rfl<|xH<|xB 0 rfl ?_;intro I06 bv hl0;have h14:=SL.of_frozen hl0 bv h5;exact xX hMl1 (resT rfl) zO ⟨_,rfl,rfl,h14⟩
def zBG(p:zC)(part:Int)(many:Int)(parts:(List zF)):Option (zC×Bool):=do
 let y<-qK p;let l<-slc y.Parts 0 part;let l1<-app 48 ([]:List zF) l;let l2<-app 48 l1 parts;let l3<-slc y.Parts (W (part+many)) (y.Parts.length:Int);let l4<-app 48 l2 l3;let y1<-sA (zC.mk y.Arrays l4);if(!y1) then pure ((zC.mk ([]:List zD) ([]:List zF)),false)
 else
  let y2<-qK (zC.mk y.Arrays l4);pure ((zC.mk y2.Arrays y2.Parts),true)
theorem zNQ:∀p part many parts r,zBG p part many parts=some r->∀{I:Imm}{p1 c p2 c1 p3 c2},(S4 I p1 p.Arrays c)->(S4 I p2 p.Parts c1)->(S4 I p3 parts c2)->RT 59 [vA (cProg p p1 c p2 c1),vI part,vI many,vS p3 parts c2] I [] (mK  r):=by
 intro p part many parts r N I p1 c p2 c1 p3 c2 h h1 h2;unfold zBG at N;refine yM func59 λB=>yD<|vC (cProg p p1 c p2 c1) ?_;intro b hb;refine xY zTwo ?_;intro b1 hb1;refine wM [] []<|yY<|uW 1 [1] [(12,vA (cProg p p1 c p2 c1))]<|bE N λy hy N=>xK (zBh p _ hy h h1) ?_;rintro I0 ax v2 k2 le - ⟨p4,c3,cs,p5,c4,au,rfl,rfl,h3,h4⟩ -;have h2:=h2.mono le;refine xY zTwo ?_;intro b2 hb2;refine xC 0 (cProg y p4 c3 p5 c4) rfl<|zY rfl<|yY<|uW 3 [0] [(16,vA [vS p4 y.Arrays c3,z0])]<|xY zTwo ?_;intro b3 hb3;refine xC 0 [vS p4 y.Arrays c3,z0] rfl<|zY rfl<|yA<|oO 3 rfl ?_;intro aP aa hl0;have h5:=SL.of_frozen hl0 aa h4;have ⟨h2,h3⟩:=m2 aa h2 h3;obtain⟨l,az,N⟩:=zB N;obtain⟨l1,aG,N⟩:=zB N;obtain⟨l2,bh,N⟩:=zB N;obtain⟨l3,bu,N⟩:=zB N;obtain⟨l4,bC,N⟩:=zB N;refine wP [.x (λI' v hx=>∃b4,v=vS (some ⟨b4,0,none⟩) ([]:List zF) 0/\hx=[hO zF (vS (some ⟨b4,0,none⟩) ([]:List zF) 0) []]/\(RL I' [] ([]:List zF))),.p (vP b2 1) [],.p (vS p5 y.Parts c4) [1],.p (vI part) [],.x (eS l),.x (λI' v hx=>∃p7 c6 aR,v=vS p7 l1 c6/\hx=[hO zF (vS p7 l1 c6) aR]/\(RL I' aR l1)),.p (vS p3 parts c2) [],.x (λI' v hx=>∃p8 c7 aM,v=vS p8 l2 c7/\hx=[hO zF (vS p8 l2 c7) aM]/\(RL I' aM l2)),.p (vP b2 1) [],.p (vS p5 y.Parts c4) [1],.p (vI part) [],.p (vI many) [],.p (vI (W (part+many))) [],.x (eS l3),.x (λI' v hx=>∃aL c9 bt,v=vS aL l4 c9/\hx=[hO zF (vS aL l4 c9) bt]/\(RL I' bt l4))] [[],[],[(1,false)],[],[(2,false),(3,false)],[(0,true),(4,false)],[],[(5,true),(6,false)],[],[(8,false)],[],[],[(10,false),(11,false)],[(9,false),(12,false)],[(7,true),(13,false)]] [hB b3 [vS p4 y.Arrays c3,z0],hB b2 (cProg y p4 c3 p5 c4),hO zD (vS p4 y.Arrays c3) cs,hB b1 zTwo,hB b (cProg p p1 c p2 c1)] [] [(14,true)] (zZ [0,1,2,3,4]) ?_ ?_
 ·refine Ox ?_<|O3<|Ox ?_<|Ox ?_<|Op<|Ox ?_<|O4<|Op<|Ox ?_<|Ox ?_<|On
  ·intro I1 hf aa;refine I_h []<|uX [] zF ?_;intro b4 hb4;have h6:RL I1 [] ([]:List zF):=rfl;exact yN [hO zF (vS (some ⟨b4,0,none⟩) ([]:List zF) 0) []] iR ⟨_,rfl,rfl,h6⟩
  ·intro I1 hf aa;refine yW [19,20] rfl ?_;have h5:=h5.mono aa;refine zMS rfl h5 az ?_;intro v0 h7;obtain⟨p6,c5,rfl⟩:=h7.form;exact yN [] iR ⟨_,_,rfl,rfl,h7⟩
  ·rintro I1 hf aa _ _ ⟨b4,rfl,rfl,h6⟩ _ _ ⟨p6,c5,rfl,rfl,h7⟩;refine yW [17,21] rfl ?_;obtain⟨aN,k0,k01⟩:=h7;have h7:SL I1 (vS p6 l c5) l:=⟨_,k0,k01⟩;exact sW 47 2 0 rfl rfl rfl h6 (.inl k0) k01 aG λp7 c6 aR h8=>wY (ag:=(hO zF (vS p7 l1 c6) aR::hB b3 [vS p4 y.Arrays c3,z0]::hB b2 (cProg y p4 c3 p5 c4)::hO zD (vS p4 y.Arrays c3) cs::hB b1 zTwo::hB b (cProg p p1 c p2 c1)::hf)) rfl<|yN [hO zF (vS p7 l1 c6) aR] iR ⟨_,_,_,rfl,rfl,h8⟩
  ·rintro I1 hf aa _ _ ⟨p7,c6,aR,rfl,rfl,h8⟩;refine yW [22,23] rfl ?_;have h2:=h2.mono aa;obtain⟨bq,k02,k03⟩:=h2;have h2:SL I1 (vS p3 parts c2) parts:=⟨_,k02,k03⟩;exact sW 47 2 0 rfl rfl rfl h8 (.inl k02) k03 bh λp8 c7 aM h9=>wY (ag:=(hO zF (vS p8 l2 c7) aM::hB b3 [vS p4 y.Arrays c3,z0]::hB b2 (cProg y p4 c3 p5 c4)::hO zD (vS p4 y.Arrays c3) cs::hB b1 zTwo::hB b (cProg p p1 c p2 c1)::hf)) rfl<|yN [hO zF (vS p8 l2 c7) aM] iR ⟨_,_,_,rfl,rfl,h9⟩
  ·intro I1 hf aa;refine yW [26,29] rfl ?_;have h5:=h5.mono aa;refine zMS rfl h5 bu ?_;intro v01 h10;obtain⟨p9,c8,rfl⟩:=h10.form;exact yN [] iR ⟨_,_,rfl,rfl,h10⟩
  rintro I1 hf aa _ _ ⟨p8,c7,aM,rfl,rfl,h9⟩ _ _ ⟨p9,c8,rfl,rfl,h10⟩;refine yW [24,30] rfl ?_;obtain⟨bL,k04,k05⟩:=h10;have h10:SL I1 (vS p9 l3 c8) l3:=⟨_,k04,k05⟩;exact sW 47 2 0 rfl rfl rfl h9 (.inl k04) k05 bC λaL c9 bt h11=>wY (ag:=(hO zF (vS aL l4 c9) bt::hB b3 [vS p4 y.Arrays c3,z0]::hB b2 (cProg y p4 c3 p5 c4)::hO zD (vS p4 y.Arrays c3) cs::hB b1 zTwo::hB b (cProg p p1 c p2 c1)::hf)) rfl<|yN [hO zF (vS aL l4 c9) bt] iR ⟨_,_,_,rfl,rfl,h11⟩
 rintro aW aC _ _ ⟨aL,c9,bt,rfl,rfl,h11⟩;refine yW [8,11,31] rfl ?_;have h3:=iM aC h3;refine yG 16 [] [32] rfl<|xC 1 [vS p4 y.Arrays c3,vS aL l4 c9] rfl<|zY rfl<|yA<|yD<|uW 1 [1] [(33,vA [vS p4 y.Arrays c3,vS aL l4 c9])]<|xV 3 rfl ?_;intro bx aI hl01;have h12:=SL.of_frozen hl01 aI h3;have h11:=iM aI h11;refine xV 0 rfl ?_;intro bG aY hl02;have h13:=SL.of_frozen hl02 aY h11;have h12:=h12.mono aY;obtain⟨y1,hy6,N⟩:=zB N;refine tA (zAA (zC.mk y.Arrays l4) _ hy6 h12 h13) ?_;intro bK bo;have ⟨h12,h13⟩:=m2 bo h12 h13;refine yQ [] [35] rfl<|zK<|yH N ?_ ?_
 ·intro hc N;refine yD<|yG 1 [] [36] rfl<|jV 2 zTwo [hB b3 [vS p4 y.Arrays c3,vS aL l4 c9],hB b2 (cProg y p4 c3 p5 c4),hB b1 zTwo,hB b (cProg p p1 c p2 c1)] rfl rfl rfl rfl<|wM [] [(9,vF)]<|xH<|zJ ?_;exact xX N (resE 2 rfl rfl rfl) zO ⟨_,_,rfl,rfl,⟨_,rfl,(xJ ⟨_,_,rfl,(SL.nil _),(SL.nil _)⟩)⟩,rfl⟩
 intro hc N;refine zT<|yY<|uW 1 [0] [(37,vA [vS p4 y.Arrays c3,vS aL l4 c9])]<|bE N λy2 hy7 N=>xK (zBh (zC.mk y.Arrays l4) _ hy7 h12 h13) ?_;rintro I06 ax v2 k2 bv - ⟨aF,aO,bz,bj,aQ,cs6,rfl,rfl,h15,h16⟩ -;refine xC 4 (cProg y2 aF aO bj aQ) rfl<|wM [] [(9,vY)]<|xH<|xB 0 rfl ?_;intro I07 le7 hl03;have h17:=SL.of_frozen hl03 le7 h15;have h16:=iM le7 h16;refine xB 0 rfl ?_;intro I08 le8 hl04;have h18:=SL.of_frozen hl04 le8 h16;have h17:=h17.mono le8;exact xX N (resE 2 rfl rfl rfl) zO ⟨_,_,rfl,rfl,⟨_,rfl,(xJ ⟨_,_,rfl,h17,h18⟩)⟩,rfl⟩
end Go.LN
