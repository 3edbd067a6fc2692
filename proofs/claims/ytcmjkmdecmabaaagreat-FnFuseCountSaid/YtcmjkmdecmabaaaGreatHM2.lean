/- Helper of the proof (see the last text). -/
import Derived.Test.YtcmjkmdecmabaaaGreatHM1
set_option linter.unusedVariables false
set_option linter.unusedSimpArgs false
namespace Go.LN
open Go.Proofs Go.Proofs.Tryz
set_option maxRecDepth 20000
def oL(r:(List zR)×Bool):KT:=λkk I' ag v=>
 ∃v0 v1,ag=[]/\v=tupV [v0,v1]/\SL I' v0 r.1/\v1=.bool r.2
def uJ(p:zC)(t26:Int)(x:zF)(x1:(List Int))(bw:List zR)(t64:Int):Option (Out (List zR) ((List zR)×Bool)):=do
 if(decide (t64<(x.Body.length:Int))) then
  let x2<-idx x.Body t64;let y7<-nY p x2 x1;if(!y7) then pure (.ret (([]:List zR),false))
  else
   let y8<-uH x1;let out6<-app 40 bw ([(zR.mk t26 t64 y8)]:List zR);uJ p t26 x x1 out6 (W (t64+1))
 else pure (.done bw)
 partial_fixpoint
theorem zBQ(p:zC)(t26:Int)(x:zF)(x1:(List Int)):∀(bw:List zR) (t64:Int) (o:Out (List zR) ((List zR)×Bool)),uJ p t26 x x1 bw t64=some o->∀{B}{I0 I:Imm}{Q}{y2:(List (List Int))}{t54:Int}{p1 c p2 c1}{b}{p5 c4 p6 c5}{b1}{p7 c6 p14 bd p15 c14 bt},I0.le I->(S4 I p5 x.Nest c4)->(S4 I p6 x.Body c5)->(At I ⟨b1,0,none⟩ (cPart x p5 c4 p6 c5))->(S4 I p14 x1 bd)->(S4 I p2 p.Parts c1)->(S4 I p7 y2 c6)->(S4 I p1 p.Arrays c)->(RL I bt bw)->NG Q->NO Q->(∀I' out5 p16 c15 bz,o=(.done out5)->I0.le I'->(RL I' bz out5)->T 89 B Q (.exit 4) I' [hO zR (vS p16 out5 c15) bz,hB b (cProg p p1 c p2 c1)] [(1,vP b 0),(4,vS p16 out5 c15),(5,vI t26),(6,vP b1 0),(24,vS p2 p.Parts c1),(25,vI (p.Parts.length:Int)),(26,vI t26),(52,vS p7 y2 c6),(53,vI (y2.length:Int)),(54,vI t54)])->(∀r I' ag m',o=(.ret r)->I0.le I'->RS Tryz.prog f41 B (oL  r) I' ag m'->T 89 B Q .ret I' ag m')->J Tryz.prog 89 B (nav (bodyOf f41) [1,1,1,0,1,0,0,1,1,0,0,1,1,1,1,0,0,1,1,0,0,1,1,1,0]) Q I [hO zR (vS p15 bw c14) bt,hB b (cProg p p1 c p2 c1)] [(1,vP b 0),(4,vS p15 bw c14),(5,vI t26),(6,vP b1 0),(10,vS p14 x1 bd),(24,vS p2 p.Parts c1),(25,vI (p.Parts.length:Int)),(26,vI t26),(52,vS p7 y2 c6),(53,vI (y2.length:Int)),(54,vI t54),(62,vS p6 x.Body c5),(63,vI (x.Body.length:Int)),(64,vI t64)]:=by
 refine uJ.partial_correctness p t26 x x1 _ λaJ ih bw t64 o N B I0 I Q y2 t54 p1 c p2 c1 b p5 c4 p6 c5 b1 p7 c6 p14 bd p15 c14 bt H h6 h7 aw h18 h1 h8 h h20 hg ho hx hr=>yX hg ho<|yK [65] rfl<|yA<|yH N ?_ ?_
 ·intro hc8 N;refine zT<|yA<|yL<|yD<|yG 1 [] [66] rfl<|bE N λx2 hy7 N=>xW rfl rfl h7 hy7 ?_;intro ad2 bL hat3 br;obtain⟨p17,c16,p18,c17,p19,c18,p20,c19,rfl,h22,h23,h24,h25⟩:=vG br;refine xM 0 hat3 (cStmt x2 p17 c16 p18 c17 p19 c18 p20 c19) (vA (cStmt x2 p17 c16 p18 c17 p19 c18 p20 c19)) rfl<|xY [vT ([]),z0,vI 0,vI 0,z0,vI 0,vT ([]),z0,z0] ?_;intro b2 hb2;refine yG 5 [] [11] rfl<|xC 0 (cStmt x2 p17 c16 p18 c17 p19 c18 p20 c19) rfl<|zY rfl<|yA<|yD<|uW 3 [2,0] [(69,vA (cProg p p1 c p2 c1)),(70,vA (cStmt x2 p17 c16 p18 c17 p19 c18 p20 c19)),(71,vS p14 x1 bd)]<|bE N λy7 hy8 N=>tA (zDD p x2 x1 _ hy8 h h1 h22 h23 h24 h25 h18) ?_;intro I08 le8;have ⟨h20,h6,h7,aw,h18,h1⟩:=m6 le8 h20 h6 h7 aw h18 h1;have ⟨h8,h,H⟩:=m3 le8 h8 h H;refine yQ [] [73] rfl<|zK<|yH N ?_ ?_
  ·intro hc9 N;exact yK [2,3] rfl<|xH<|zJ<|zV<|zJ<|zJ<|hr _ _ _ _ (zE N).symm H ⟨_,_,(resU rfl rfl),zO,⟨_,_,rfl,rfl,(SL.nil _),rfl⟩⟩
  intro hc9 N;refine zT<|zK<|zL<|yG 4 [] [74,75,76,77] rfl<|bE N λy8 hy9 N=>xK (oI x1 _ hy9 h18) ?_;rintro I09 ax v2 k2 le9 - ⟨p21,c20,cs6,rfl,rfl,h27⟩ -;have ⟨h6,h7,aw,h18,h1,h8⟩:=m6 le9 h6 h7 aw h18 h1 h8;have ⟨h20,h,H⟩:=m3 le9 h20 h H;refine yG 6 [] [79] rfl<|xV 0 rfl ?_;intro bN le10 hl01;have h28:=SL.of_frozen hl01 le10 h27;have ⟨h6,h7,aw,h18,h1,h8⟩:=m6 le10 h6 h7 aw h18 h1 h8;have ⟨h20,h,H⟩:=m3 le10 h20 h H;refine uX [vI t26,vI t64,vS p21 y8 c20] zR ?_;intro b3 hb3;have h29:RL bN [vI t26,vI t64,vS p21 y8 c20] ([(zR.mk t26 t64 y8)]:List zR):=⟨[vI t26,vI t64,vS p21 y8 c20],_,rfl,rfl,(zBa ⟨_,rfl,h28⟩),rfl⟩;obtain⟨out6,hy10,N⟩:=zB N;exact sW 86 3 2 rfl rfl rfl h20 (.inr ⟨0,rfl⟩) h29 hy10 λp22 c21 cs7 h30=>tX (zZ [1,2,3] (ag:=[hB b2 (cStmt x2 p17 c16 p18 c17 p19 c18 p20 c19),hO zR (vS p22 out6 c21) cs7,hB b (cProg p p1 c p2 c1)]))<|yQ [] [4] rfl<|zN<|zK<|zL<|yQ [] [64] rfl<|yV<|qZ (zX [1,2] rfl (by decide))<|nX<|ih out6 (W (t64+1)) _ N H h6 h7 aw h18 h1 h8 h h30 hg ho hx hr
 intro hc8 N;exact wW<|yZ<|hx _ _ _ _ _ (zE N).symm H h20
def uK(p:zC)(t26:Int)(x:zF)(y2:(List (List Int)))(ar:List zR)(t54:Int):Option (Out (List zR) ((List zR)×Bool)):=do
 if(decide (t54<(y2.length:Int))) then
  let x1<-idx y2 t54;let y6<-dL x1;if(!y6) then pure (.ret (([]:List zR),false))
  else
   match<-uJ p t26 x x1 ar 0 with
   | .ret r0=>pure (.ret r0)
   | .done out5=>
    uK p t26 x y2 out5 (W (t54+1))
 else pure (.done ar)
 partial_fixpoint
theorem zBR(p:zC)(t26:Int)(x:zF)(y2:(List (List Int))):∀(ar:List zR) (t54:Int) (o:Out (List zR) ((List zR)×Bool)),uK p t26 x y2 ar t54=some o->∀{B}{I0 I:Imm}{Q p1 c p2 c1}{b}{p5 c4 p6 c5}{b1}{p7 c6 bj aQ aR},I0.le I->(S4 I p5 x.Nest c4)->(S4 I p6 x.Body c5)->(At I ⟨b1,0,none⟩ (cPart x p5 c4 p6 c5))->(S4 I p2 p.Parts c1)->(S4 I p7 y2 c6)->(S4 I p1 p.Arrays c)->(RL I aR ar)->NG Q->NO Q->(∀I' bi bc aZ aM,o=(.done bi)->I0.le I'->(RL I' aM bi)->T 89 B Q (.exit 2) I' [hO zR (vS bc bi aZ) aM,hB b (cProg p p1 c p2 c1)] [(1,vP b 0),(4,vS bc bi aZ),(24,vS p2 p.Parts c1),(25,vI (p.Parts.length:Int)),(26,vI t26)])->(∀r I' ag m',o=(.ret r)->I0.le I'->RS Tryz.prog f41 B (oL  r) I' ag m'->T 89 B Q .ret I' ag m')->J Tryz.prog 89 B (nav (bodyOf f41) [1,1,1,0,1,0,0,1,1,0,0,1,1,1,1,0]) Q I [hO zR (vS bj ar aQ) aR,hB b (cProg p p1 c p2 c1)] [(1,vP b 0),(4,vS bj ar aQ),(5,vI t26),(6,vP b1 0),(24,vS p2 p.Parts c1),(25,vI (p.Parts.length:Int)),(26,vI t26),(52,vS p7 y2 c6),(53,vI (y2.length:Int)),(54,vI t54)]:=by
 refine uK.partial_correctness p t26 x y2 _ λaJ ih ar t54 o N B I0 I Q p1 c p2 c1 b p5 c4 p6 c5 b1 p7 c6 bj aQ aR H h6 h7 aw h1 h8 h h16 hg ho hx hr=>yX hg ho<|yK [55] rfl<|yA<|yH N ?_ ?_
 ·intro hc6 N;refine zT<|yA<|yL<|yD<|bE N λx1 bC N=>xW rfl rfl h8 bC ?_;intro ad1 bq bk ay;obtain⟨v011,rfl,h18⟩:=ay;obtain⟨p14,bd,rfl⟩:=h18.form;refine xM 0 bk [vS p14 x1 bd] (vS p14 x1 bd) rfl<|yQ [] [10] rfl<|yA<|yD<|yG 1 [] [58] rfl<|bE N λy6 hy6 N=>tA (zH5 x1 _ hy6 h18) ?_;intro I07 le7;have ⟨h16,h6,h7,aw,h18,h1⟩:=m6 le7 h16 h6 h7 aw h18 h1;have ⟨h8,h,H⟩:=m3 le7 h8 h H;refine yQ [] [60] rfl<|zK<|yH N ?_ ?_
  ·intro hc7 N;exact yK [2,3] rfl<|xH<|zJ<|zV<|zJ<|zJ<|hr _ _ _ _ (zE N).symm H ⟨_,_,(resU rfl rfl),zO,⟨_,_,rfl,rfl,(SL.nil _),rfl⟩⟩
  intro hc7 N;refine zT<|yY<|yG 1 [] [61] rfl<|xM 1 aw [vS p6 x.Body c5] (vS p6 x.Body c5) rfl<|yQ [] [63,64] rfl<|wN<|qX [(1,vP b 0),(4,vS bj ar aQ),(5,vI t26),(6,vP b1 0),(10,vS p14 x1 bd),(24,vS p2 p.Parts c1),(25,vI (p.Parts.length:Int)),(26,vI t26),(52,vS p7 y2 c6),(53,vI (y2.length:Int)),(54,vI t54),(62,vS p6 x.Body c5),(63,vI (x.Body.length:Int)),(64,vI 0)] ?_;obtain⟨o02,ho02,aE⟩:=zB N;refine zBQ p t26 x x1 ar 0 o02 ho02 iR h6 h7 aw h18 h1 h8 h h16 (λ_ _ _ h=>hg _ _ _ h) (λ_ _ h=>ho _ _ h) ?_ ?_
  ·intro bS out5 p16 c15 bz heq2 le11 h21;subst o02;have ⟨h6,h7,aw,h1,h8,h⟩:=m6 le11 h6 h7 aw h1 h8 h;have H:=H.trans le11;exact zS<|zN<|zK<|zL<|yQ [] [54] rfl<|yV<|nX<|ih out5 (W (t54+1)) _ aE H h6 h7 aw h1 h8 h h21 hg ho hx hr
  intro r0 I9 hs9 m9 aT le9 aV;subst aT;exact zV<|zV<|zJ<|zJ<|hr _ _ _ _ (zE aE).symm (H.trans le9) aV
 intro hc6 N;exact wW<|yZ<|hx _ _ _ _ _ (zE N).symm H h16
def uL(p:zC)(out:List zR)(t26:Int):Option (Out (List zR) ((List zR)×Bool)):=do
 if(decide (t26<(p.Parts.length:Int))) then
  let x<-idx p.Parts t26;let (y2,y3)<-gK x.Nest;let t51<-(do
   if(!y3) then pure true
   else
    let y4<-wX (x.Body.length:Int) 1 4;if(!y4) then pure true
    else
     let y5<-wV x.Body (λx0=>uS x0 x);pure (id y5)
     : Option Bool)
  if t51 then pure (.ret (([]:List zR),false))
  else
   match<-uK p t26 x y2 out 0 with
   | .ret r0=>pure (.ret r0)
   | .done bi=>
    uL p bi (W (t26+1))
 else pure (.done out)
 partial_fixpoint
theorem zBS(p:zC):∀(out:List zR) (t26:Int) (o:Out (List zR) ((List zR)×Bool)),uL p out t26=some o->∀{B}{I0 I:Imm}{Q p1 c p2 c1}{b}{p3 c2 cs},I0.le I->(S4 I p2 p.Parts c1)->(S4 I p1 p.Arrays c)->(RL I cs out)->NG Q->NO Q->(∀I' aj p4 c3 au,o=(.done aj)->I0.le I'->(RL I' au aj)->T 89 B Q (.exit 0) I' [hO zR (vS p4 aj c3) au] [(4,vS p4 aj c3)])->(∀r I' ag m',o=(.ret r)->I0.le I'->RS Tryz.prog f41 B (oL  r) I' ag m'->T 89 B Q .ret I' ag m')->J Tryz.prog 89 B (nav (bodyOf f41) [1,1,1,0,1,0]) Q I [hO zR (vS p3 out c2) cs,hB b (cProg p p1 c p2 c1)] [(1,vP b 0),(4,vS p3 out c2),(24,vS p2 p.Parts c1),(25,vI (p.Parts.length:Int)),(26,vI t26)]:=by
 refine uL.partial_correctness p _ λaJ ih out t26 o N B I0 I Q p1 c p2 c1 b p3 c2 cs H h1 h h4 hg ho hx hr=>yX hg ho<|yK [27] rfl<|yA<|yH N ?_ ?_
 ·intro ba N;refine zT<|yA<|yL<|yD<|yG 1 [] [28] rfl<|bE N λx az N=>xW rfl rfl h1 az ?_;intro ad aN aq am;obtain⟨p5,c4,p6,c5,rfl,h6,h7⟩:=wI am;refine xM 0 aq (cPart x p5 c4 p6 c5) (vA (cPart x p5 c4 p6 c5)) rfl<|xY zTwo ?_;intro b1 hb1;refine yG 5 [] [5] rfl<|xC 0 (cPart x p5 c4 p6 c5) rfl<|zY rfl<|yY<|yG 2 [0] [33] rfl ?_;obtain⟨⟨y2,y3⟩,aG,N⟩:=zB N;refine xK (zFG x.Nest _ aG h6) ?_;rintro aW ax v2 k2 aC - ⟨v03,v04,rfl,rfl,h8,rfl⟩ -;have ⟨h4,h1,h6,h7,h,H⟩:=m6 aC h4 h1 h6 h7 h H;obtain⟨p7,c6,rfl⟩:=h8.form;refine yQ [] [7,8] rfl<|yA<|yC<|oO 0 rfl ?_;intro bx aI hl0;have aw:At bx ⟨b1,0,none⟩ (cPart x p5 c4 p6 c5):=At.of_blk hl0;have ⟨h4,h6,h7,h8,h1,h⟩:=m6 aI h4 h6 h7 h8 h1 h;have H:=H.trans aI;refine vQ N [hO zR (vS p3 out c2) cs,hB b (cProg p p1 c p2 c1)] (λt51=>[(1,vP b 0),(4,vS p3 out c2),(5,vI t26),(6,vP b1 0),(7,vS p7 y2 c6),(24,vS p2 p.Parts c1),(25,vI (p.Parts.length:Int)),(26,vI t26),(51,.bool t51)]) (λaU aB=>?_) ?_
  ·have H:=iS bx;refine zL<|yG 3 [] [39] rfl<|wR [39] aB ?_ ?_
   ·intro bD N;exact wM [] [(51,vY)]<|yZ<|zU (ct N H)
   intro bD N;refine yG 4 [] [40] rfl<|xM 1 aw [vS p6 x.Body c5] (vS p6 x.Body c5) rfl<|yG 6 [] [42] rfl<|bE N λy4 bh N=>tA (vR (x.Body.length:Int) 1 4 _ bh ) ?_;intro bK aY;have ⟨h6,h7,aw,h,H⟩:=m5 aY h6 h7 aw h H;refine yG 10 [] [46] rfl<|wR [46] N ?_ ?_
   ·intro bJ N;exact wM [] [(51,vY)]<|yZ<|zU (ct N H)
   intro bJ N;refine yG 11 [] [47] rfl<|xM 1 aw [vS p6 x.Body c5] (vS p6 x.Body c5) rfl<|yG 13 [] [49] rfl ?_;have hf0:FV1 Tryz.prog bK [] (.func (.func 80) ⟨[]⟩ ⟨[vP b1 0]⟩) (λx0=>uS x0 x):=by
    refine FV1.intro ?_;intro I1 aa x0 r u0 hF k0;obtain⟨_,rfl,k0⟩:=k0;obtain⟨p8,c7,p9,c8,aL,c9,aF,aO,rfl,h11,h12,h13,h14⟩:=vG k0;exact(zB4 x0 x r hF h11 h12 h13 h14 (h6.mono aa) (h7.mono aa) (aw.mono aa)).mono (by rintro k i hs u ⟨v0,rfl,rfl,h⟩;exact⟨rfl,h⟩)
   obtain⟨y5,bu,N⟩:=zB N;refine xK (eI x.Body (λx0=>uS x0 x) _ bu h7 hf0) ?_;rintro I06 ax v2 k2 bo - ⟨v010,rfl,rfl,rfl⟩ -;have H:=H.trans bo;exact yQ [] [51] rfl<|yZ<|zU (ct N H)
  intro t51 bG bv hMc1;have ⟨h4,h6,h7,aw,h8,h1⟩:=m6 bv h4 h6 h7 aw h8 h1;have ⟨h,H⟩:=m2 bv h H;refine zK<|yH hMc1 ?_ ?_
  ·intro hc5 N;exact yK [2,3] rfl<|xH<|zJ<|zV<|zJ<|zJ<|hr _ _ _ _ (zE N).symm H ⟨_,_,(resU rfl rfl),zO,⟨_,_,rfl,rfl,(SL.nil _),rfl⟩⟩
  intro hc5 N;refine zT<|vM [52,53,54] rfl<|wN<|qX [(1,vP b 0),(4,vS p3 out c2),(5,vI t26),(6,vP b1 0),(24,vS p2 p.Parts c1),(25,vI (p.Parts.length:Int)),(26,vI t26),(52,vS p7 y2 c6),(53,vI (y2.length:Int)),(54,vI 0)] ?_;obtain⟨o03,ho03,hMl1⟩:=zB N;refine zBR p t26 x y2 out 0 o03 ho03 iR h6 h7 aw h1 h8 h h4 (λ_ _ _ h=>hg _ _ _ h) (λ_ _ h=>ho _ _ h) ?_ ?_
  ·intro bR bi bc aZ aM heq3 le12 h17;subst o03;have ⟨h1,h,H⟩:=m3 le12 h1 h H;exact zS<|zN<|zK<|zL<|yQ [] [26] rfl<|yV<|nX<|ih bi (W (t26+1)) _ hMl1 H h1 h h17 hg ho hx hr
  intro r0 I9 hs9 m9 aT le9 aV;subst aT;exact zV<|zV<|zJ<|zJ<|hr _ _ _ _ (zE hMl1).symm (H.trans le9) aV
 intro ba N;exact wW<|wK (zX [0] rfl (by decide))<|yZ<|hx _ _ _ _ _ (zE N).symm H h4
def rH(p:zC):Option ((List zR)×Bool):=do
 let t22<-(do
  let y<-eT p.Arrays;if(!y) then pure true
  else
   pure (decide ((p.Parts.length:Int)>4))
    : Option Bool)
 if t22 then pure (([]:List zR),false)
 else
  match<-uL p ([]:List zR) 0 with
  | .ret r0=>pure r0
  | .done aj=>
   pure (aj,(decide ((aj.length:Int)<=120)))
theorem zAL:∀p r,rH p=some r->∀{I:Imm}{p1 c p2 c1},(S4 I p1 p.Arrays c)->(S4 I p2 p.Parts c1)->RT 41 [vA (cProg p p1 c p2 c1)] I [] (oL  r):=by
 intro p r N I p1 c p2 c1 h h1;unfold rH at N;refine yM func41 λB=>?_;have H:=iS I;refine yD<|vC (cProg p p1 c p2 c1) ?_;intro b hb;refine wM [] []<|yA<|yC ?_;refine vQ N [hB b (cProg p p1 c p2 c1)] (λt22=>[(1,vP b 0),(22,.bool t22)]) (λo0 aA=>?_) ?_
 ·have H:=iS I;refine zL<|yG 2 [0] [14] rfl ?_;obtain⟨y,hy,N⟩:=zB aA;refine tA (zGm p.Arrays _ hy h) ?_;intro aP le;have H:=H.trans le;refine yG 5 [] [17] rfl<|wR [17] N ?_ ?_
  ·intro hc N;exact wM [] [(22,vY)]<|yZ<|zU (ct N H)
  intro hc N;exact yQ [0] [22] rfl<|yZ<|zU (ct N H)
 intro t22 I0 aa aX;have ⟨h,h1⟩:=m2 aa h h1;refine zK<|yH aX ?_ ?_
 ·intro aH N;refine yK [2,3] rfl<|xH<|zJ ?_;exact xX N (resU rfl rfl) zO ⟨_,_,rfl,rfl,(SL.nil _),rfl⟩
 intro aH N;refine zT<|zE3 [(4,z0)]<|yA<|yD<|yQ [0] [24,25,26] rfl<|wN<|qX [(1,vP b 0),(4,z0),(24,vS p2 p.Parts c1),(25,vI (p.Parts.length:Int)),(26,vI 0)]<|zA6 zR λh3=>?_;obtain⟨o04,ho04,hMl2⟩:=zB N;refine zBS p ([]:List zR) 0 o04 ho04 iR h1 h h3 nG nO ?_ ?_
 ·intro I013 aj p4 c3 au heq4 le13 h5;subst o04;refine zS<|vM [2,3] rfl<|xH<|xB 0 rfl ?_;intro I014 le14 hl02;have h31:=SL.of_frozen hl02 le14 h5;exact xX hMl2 (resU rfl rfl) zO ⟨_,_,rfl,rfl,h31,rfl⟩
 intro r0 I9 hs9 m9 aT le9 aV;subst aT;refine zV<|zJ ?_;obtain rfl:=zE hMl2;exact jW aV
def jF(r:zI):KT:=λkk I' ag v=>
 ∃v0,ag=[]/\v=tupV [v0]/\(∃cs,v0=.agg ⟨cs⟩/\Rp.rep I' cs r)
def fJ(p:zC)(x:zR):Option (zI):=do
 let x1<-idx p.Parts x.Part;let x2<-idx x1.Body x.Stmt;pure (id x2)
theorem zDs:∀p x r,fJ p x=some r->∀{I:Imm}{p1 c p2 c1 p3 c2},(S4 I p1 p.Arrays c)->(S4 I p2 p.Parts c1)->(S4 I p3 x.Point c2)->RT 127 [vA (cProg p p1 c p2 c1),vA (cInst x p3 c2)] I [] (jF  r):=by
 intro p x r N I p1 c p2 c1 p3 c2 h h1 h2;unfold fJ at N;refine yM func127 λB=>yD<|vC (cProg p p1 c p2 c1) ?_;intro b hb;refine vC (cInst x p3 c2) ?_;intro b1 hb1;refine xY [vT ([]),z0,vI 0,vI 0,z0,vI 0,vT ([]),z0,z0] ?_;intro b2 hb2;refine zY rfl<|zK<|yC ?_;obtain⟨x1,hy,N⟩:=zB N;obtain⟨x2,az,N⟩:=zB N;refine wP [.p (vP b 1) [],.p (vS p2 p.Parts c1) [2],.p (vP b1 0) [],.p (vI x.Part) [1],.x (ePPart x1),.x (eQPart 1 x1),.x (eS x1.Body),.p (vP b1 1) [],.p (vI x.Stmt) [1],.x (ePStmt x2),.x (eVStmt x2)] [[],[(0,false)],[],[(2,false)],[(1,false),(3,false)],[(4,false)],[(5,false)],[],[(7,false)],[(6,false),(8,false)],[(9,false)]] [hB b2 [vT ([]),z0,vI 0,vI 0,z0,vI 0,vT ([]),z0,z0],hB b1 (cInst x p3 c2),hB b (cProg p p1 c p2 c1)] [] [(10,false)] (zZ [0,1,2]) ?_ ?_
 ·refine O4<|Ox ?_<|Ox ?_<|Ox ?_<|O2<|Ox ?_<|Ox ?_<|On
  ·intro I1 hf aa;refine yW [6,8] rfl ?_;have h1:=h1.mono aa;refine xW rfl rfl h1 hy ?_;intro ad aN aq am;obtain⟨p4,c3,p5,c4,rfl,h3,h4⟩:=wI am;exact yN [] iR ⟨_,_,_,_,_,rfl,rfl,aq,h3,h4⟩
  ·rintro I1 hf aa _ _ ⟨ad,p4,c3,p5,c4,rfl,rfl,aq,h3,h4⟩;exact yW [9] rfl<|oN 6 [(10,.pointer (some (ad.add 1)))]<|yN [] iR ⟨_,_,_,_,_,rfl,rfl,aq,h3,h4⟩
  ·rintro I1 hf aa _ _ ⟨ad1,p41,c31,p51,c41,rfl,rfl,aw,h31,h41⟩;exact yW [10] rfl<|xM 1 aw [vS p51 x1.Body c41] (vS p51 x1.Body c41) rfl<|yN [] iR ⟨_,_,rfl,rfl,h41⟩
  ·rintro I1 hf aa _ _ ⟨p511,c411,rfl,rfl,h411⟩;refine yW [11,13] rfl<|xW rfl rfl h411 az ?_;intro ad2 bq bk ay;obtain⟨p6,c5,p7,c6,p8,c7,p9,c8,rfl,h5,h6,h7,h8⟩:=vG ay;exact yN [] iR ⟨_,_,_,_,_,_,_,_,_,rfl,rfl,bk,h5,h6,h7,h8⟩
  rintro I1 hf aa _ _ ⟨ad2,p6,c5,p7,c6,p8,c7,p9,c8,rfl,rfl,bk,h5,h6,h7,h8⟩;exact yW [14] rfl<|xM 0 bk (cStmt x2 p6 c5 p7 c6 p8 c7 p9 c8) (vA (cStmt x2 p6 c5 p7 c6 p8 c7 p9 c8)) rfl<|yN [] iR ⟨_,_,_,_,_,_,_,_,rfl,rfl,h5,h6,h7,h8⟩
 rintro I0 le _ _ ⟨p61,c51,p71,c61,p81,c71,p91,c81,rfl,rfl,h51,h61,h71,h81⟩;refine yW [4,15] rfl ?_;refine xC 0 (cStmt x2 p61 c51 p71 c61 p81 c71 p91 c81) rfl<|zY rfl<|zK<|xD ?_;exact xX N (resC 0 rfl rfl) zO ⟨_,rfl,rfl,⟨_,rfl,(wG ⟨_,_,_,_,rfl,h51,h61,h71,h81⟩)⟩⟩
def zBs(r:(List Int)×Int):KT:=λkk I' ag v=>
 ∃v0 v1,ag=[]/\v=tupV [v0,v1]/\SL I' v0 r.1/\v1=.int .i64 r.2
def tB(p:zC)(x:zR)(y1:(List zM))(out:List Int)(t17:Int):Option (List Int):=do
 if(decide (t17<(y1.length:Int))) then
  let x1<-idx y1 t17;let y2<-rR p x1 x.Point;let ar<-app 8 out ([y2]:List Int);tB p x y1 ar (W (t17+1))
 else pure (id out)
 partial_fixpoint
theorem zBc(p:zC)(x:zR)(y1:(List zM)):∀(out:List Int) (t17:Int) (o:List Int),tB p x y1 out t17=some o->∀{B}{I0 I:Imm}{Q}{y:zI}{p1 c p2 c1 p3 c2}{b b1}{p4 c3 p5 c4 p6 c5 p7 c6}{b2}{p8 c7 p9 c8 au},I0.le I->(S4 I p8 y1 c7)->(S4 I p4 y.Write.Subs c3)->(S4 I p5 y.Value.Index.Coefs c4)->(S4 I p6 y.Value.Read.Subs c5)->(S4 I p7 y.Value.Kids c6)->(S4 I p3 x.Point c2)->(S4 I p1 p.Arrays c)->(S4 I p2 p.Parts c1)->(RL I au out)->NG Q->NO Q->(∀I' aj aL c9 aR,o=aj->I0.le I'->(RL I' aR aj)->T 37 B Q (.exit 0) I' [hO Int (vS aL aj c9) aR,hB b2 (cStmt y p4 c3 p5 c4 p6 c5 p7 c6),hB b1 (cInst x p3 c2),hB b (cProg p p1 c p2 c1)] [(2,vP b 0),(3,vP b1 0),(6,vP b2 0),(7,vS aL aj c9)])->J Tryz.prog 37 B (nav (bodyOf f85) [1,1,1,0,1,0]) Q I [hO Int (vS p9 out c8) au,hB b2 (cStmt y p4 c3 p5 c4 p6 c5 p7 c6),hB b1 (cInst x p3 c2),hB b (cProg p p1 c p2 c1)] [(2,vP b 0),(3,vP b1 0),(6,vP b2 0),(7,vS p9 out c8),(15,vS p8 y1 c7),(16,vI (y1.length:Int)),(17,vI t17)]:=by
 refine tB.partial_correctness p x y1 _ λaJ ih out t17 o N B I0 I Q y p1 c p2 c1 p3 c2 b b1 p4 c3 p5 c4 p6 c5 p7 c6 b2 p8 c7 p9 c8 au H h8 h4 h5 h6 h7 h2 h h1 h10 hg ho hx=>yX hg ho<|yK [18] rfl<|yA<|yH N ?_ ?_
 ·intro hc N;refine zT<|yA<|yL<|yD<|bE N λx1 aG N=>xW rfl rfl h8 aG ?_;intro ad aN aq am;obtain⟨aF,aO,rfl,h12⟩:=rF am;refine xM 0 aq (cAccess x1 aF aO) (vA (cAccess x1 aF aO)) rfl<|xY [vT ([]),z0] ?_;intro b3 hb3;refine xC 0 (cAccess x1 aF aO) rfl<|zY rfl<|zK<|zL<|uW 5 [4,0,3] [(21,vS p9 out c8),(22,vA (cProg p p1 c p2 c1)),(23,vA (cAccess x1 aF aO)),(25,vS p3 x.Point c2)]<|bE N λy2 bh N=>dC (gN p x1 x.Point _ bh h h1 h12 h2) ?_;intro aW aC;have ⟨h8,h10,h4,h5,h6,h7⟩:=m6 aC h8 h10 h4 h5 h6 h7;have ⟨h2,h,h1,H⟩:=m4 aC h2 h h1 H;refine uX [vI y2] Int ?_;intro b4 hb4;have h14:RL aW [vI y2] ([y2]:List Int):=rI [y2];obtain⟨ar,bu,N⟩:=zB N;exact sW 3 1 2 rfl rfl rfl h10 (.inr ⟨0,rfl⟩) h14 bu λbj aQ aM h15=>tX (zZ [1,2,3,4,5] (ag:=[hB b3 (cAccess x1 aF aO),hO Int (vS bj ar aQ) aM,hB b2 (cStmt y p4 c3 p5 c4 p6 c5 p7 c6),hB b1 (cInst x p3 c2),hB b (cProg p p1 c p2 c1)]))<|yQ [] [7] rfl<|zN<|zK<|zL<|yQ [] [17] rfl<|yV<|qZ (zX [1,2,3,4] rfl (by decide))<|nX<|ih ar (W (t17+1)) _ N H h8 h4 h5 h6 h7 h2 h h1 h15 hg ho hx
 intro hc N;exact wW<|yZ<|hx _ _ _ _ _ (zE N).symm H h10
def oT(p:zC)(x:zR):Option ((List Int)×Int):=do
 let y<-fJ p x;let y1<-gO y.Value;let aj<-tB p x y1 ([]:List Int) 0;let y3<-rR p y.Write x.Point;pure (aj,y3)
theorem zCe:∀p x r,oT p x=some r->∀{I:Imm}{p1 c p2 c1 p3 c2},(S4 I p1 p.Arrays c)->(S4 I p2 p.Parts c1)->(S4 I p3 x.Point c2)->RT 85 [vA (cProg p p1 c p2 c1),vA (cInst x p3 c2)] I [] (zBs  r):=by
 intro p x r N I p1 c p2 c1 p3 c2 h h1 h2;unfold oT at N;refine yM func85 λB=>yD<|vC (cProg p p1 c p2 c1) ?_;intro b hb;refine vC (cInst x p3 c2) ?_;intro b1 hb1;refine wM [] []<|yY<|uW 2 [1,0] [(10,vA (cProg p p1 c p2 c1)),(11,vA (cInst x p3 c2))]<|bE N λy hy N=>xK (zDs p x _ hy h h1 h2) ?_;rintro I0 ax v2 k2 le - ⟨v0,rfl,rfl,⟨cs,rfl,h3⟩⟩ -;have ⟨h2,h,h1⟩:=m3 le h2 h h1;obtain⟨p4,c3,p5,c4,p6,c5,p7,c6,rfl,h4,h5,h6,h7⟩:=vG h3;refine xY [vT ([]),z0,vI 0,vI 0,z0,vI 0,vT ([]),z0,z0] ?_;intro b2 hb2;refine xC 0 (cStmt y p4 c3 p5 c4 p6 c5 p7 c6) rfl<|zY rfl<|zE3 [(7,z0)]<|yA<|yD<|uW 2 [0] [(14,vA (cExpr y.Value p5 c4 p6 c5 p7 c6))]<|bE N λy1 az N=>xK (zEs y.Value _ az h5 h6 h7) ?_;rintro aP ax v2 k2 aa - ⟨v05,rfl,rfl,h8⟩ -;have ⟨h4,h5,h6,h7,h2,h⟩:=m6 aa h4 h5 h6 h7 h2 h;have h1:=h1.mono aa;obtain⟨p8,c7,rfl⟩:=h8.form;refine yQ [] [16,17] rfl<|wN<|qX [(2,vP b 0),(3,vP b1 0),(6,vP b2 0),(7,z0),(15,vS p8 y1 c7),(16,vI (y1.length:Int)),(17,vI 0)]<|zA6 Int λh9=>?_;obtain⟨o0,aA,aE⟩:=zB N;refine zBc p x y1 ([]:List Int) 0 o0 aA iR h8 h4 h5 h6 h7 h2 h h1 h9 nG nO ?_;intro bx aj aL c9 aR heq aI h11;subst o0;have ⟨h4,h2,h,h1⟩:=m4 aI h4 h2 h h1;refine zS<|yY<|uW 6 [3,1,2] [(30,vS aL aj c9),(31,vA (cProg p p1 c p2 c1)),(33,vA (cAccess y.Write p4 c3)),(35,vS p3 x.Point c2)] ?_;obtain⟨y3,bC,N⟩:=zB aE;refine dC (gN p y.Write x.Point _ bC h h1 h4 h2) ?_;intro bG aY;have h11:=iM aY h11;refine yQ [] [4,5] rfl<|xH<|xB 0 rfl ?_;intro bK bo hl0;have h17:=SL.of_frozen hl0 bo h11;exact xX N (resU rfl rfl) zO ⟨_,_,rfl,rfl,h17,rfl⟩
def zH6(r:(Option tH)×Bool):KT:=λkk I' ag v=>
 ∃v0 v1,ag=[]/\v=tupV [v0,v1]/\FP I' v0 r.1/\v1=.bool r.2
def kW(p:zC)(y1:(List zR))(t24:Int)(reads:List (List Int))(writes:List Int):Option ((List (List Int)×List Int)):=do
 if(decide (t24<(y1.length:Int))) then
  let x<-idx y1 t24;let (y4,y5)<-oT p x;let l<-app 24 reads ([y4]:List (List Int));let l1<-app 8 writes ([y5]:List Int);kW p y1 (W (t24+1)) l l1
 else pure (reads,writes)
 partial_fixpoint
theorem zGo(p:zC)(y1:(List zR)):∀(t24:Int) (reads:List (List Int)) (writes:List Int) (o:(List (List Int)×List Int)),kW p y1 t24 reads writes=some o->∀{B}{I0 I:Imm}{Q p1 c p2 c1}{b}{p3 c2}{b1}{p4 c3 cs p5 c4 au},I0.le I->(S4 I p3 y1 c2)->(S4 I p1 p.Arrays c)->(S4 I p2 p.Parts c1)->(RL I cs reads)->(RL I au writes)->NG Q->NO Q->(∀I' reads1 writes1 p6 c5 aR p7 c6 aM,o=(reads1,writes1)->I0.le I'->(RL I' aR reads1)->(RL I' aM writes1)->T 56 B Q (.exit 0) I' [hO Int (vS p7 writes1 c6) aM,hO (List Int) (vS p6 reads1 c5) aR,hB b1 [vS p1 p.Arrays c,vS p2 p.Parts c1,vS p3 y1 c2,vS p6 reads1 c5,vS p7 writes1 c6]] [(6,vP b1 0)])->J Tryz.prog 56 B (nav (bodyOf f43) [1,1,1,1,0,1,0]) Q I [hO Int (vS p5 writes c4) au,hO (List Int) (vS p4 reads c3) cs,hB b1 [vS p1 p.Arrays c,vS p2 p.Parts c1,vS p3 y1 c2,vS p4 reads c3,vS p5 writes c4],hB b (cProg p p1 c p2 c1)] [(1,vP b 0),(6,vP b1 0),(22,vS p3 y1 c2),(23,vI (y1.length:Int)),(24,vI t24)]:=by
 refine kW.partial_correctness p y1 _ λaJ ih t24 reads writes o N B I0 I Q p1 c p2 c1 b p3 c2 b1 p4 c3 cs p5 c4 au H h2 h h1 h6 h7 hg ho hx=>yX hg ho<|yK [25] rfl<|yA<|yH N ?_ ?_
 ·intro aH N;refine zT<|yA<|yL<|yD<|bE N λx az N=>xW rfl rfl h2 az ?_;intro ad aN aq am;obtain⟨p8,c7,rfl,h10⟩:=oH am;refine xM 0 aq (cInst x p8 c7) (vA (cInst x p8 c7)) rfl<|xY [vI 0,vI 0,z0] ?_;intro b2 hb2;refine xC 0 (cInst x p8 c7) rfl<|zY rfl<|yY<|uW 2 [4,0] [(29,vA (cProg p p1 c p2 c1)),(30,vA (cInst x p8 c7))] ?_;obtain⟨⟨y4,y5⟩,aG,N⟩:=zB N;refine xK (zCe p x _ aG h h1 h10) ?_;rintro aP ax v2 k2 aa - ⟨v03,v04,rfl,rfl,h11,rfl⟩ -;have ⟨h2,h7,h6,h,h1,H⟩:=m6 aa h2 h7 h6 h h1 H;obtain⟨p9,c8,rfl⟩:=h11.form;refine yQ [] [9,10] rfl<|zK ?_;obtain⟨l,bh,N⟩:=zB N;obtain⟨l1,bu,N⟩:=zB N;refine wP [.p (vP b1 0) [],.p (vP b1 0) [],.p (vP b1 0) [],.p (vP b1 0) [],.p (vP b1 3) [],.q (vS p4 reads c3),.p (vS p9 y4 c8) [],.x (λI' v hx=>∃b3,v=vS (some ⟨b3,0,none⟩) ([y4]:List (List Int)) 1/\hx=[]/\(SL I' (vS (some ⟨b3,0,none⟩) ([y4]:List (List Int)) 1) ([y4]:List (List Int)))),.x (λI' v hx=>∃aL c9 bt,v=vS aL l c9/\hx=[hO (List Int) (vS aL l c9) bt]/\(RL I' bt l)),.p (vP b1 0) [],.p (vP b1 0) [],.p (vP b1 4) [],.q (vS p5 writes c4),.p (vI y5) [],.x (λI' v hx=>∃b4,v=vS (some ⟨b4,0,none⟩) ([y5]:List Int) 1/\hx=[]/\(SL I' (vS (some ⟨b4,0,none⟩) ([y5]:List Int) 1) ([y5]:List Int))),.x (λI' v hx=>∃aF aO bz,v=vS aF l1 aO/\hx=[hO Int (vS aF l1 aO) bz]/\(RL I' bz l1)),.p (vP b1 0) [],.p (vP b1 3) [],.x (λI' v hx=>∃p101 c91 cs41,hx=[hB b1 [vS p1 p.Arrays c,vS p2 p.Parts c1,vS p3 y1 c2,vS p101 l c91,vS p5 writes c4],hO (List Int) (vS p101 l c91) cs41]/\(RL I' cs41 l))] [[],[],[],[(2,false)],[(3,false)],[(4,false),(24,false)],[],[(6,false)],[(5,false),(7,false),(22,true)],[],[(9,false)],[(10,false)],[(11,false),(24,false)],[],[(13,false)],[(12,false),(14,false),(23,true)],[(0,false)],[(16,false)],[(8,true),(17,false),(24,true)]] [hB b2 (cInst x p8 c7),hB b (cProg p p1 c p2 c1)] [[hO (List Int) (vS p4 reads c3) cs],[hO Int (vS p5 writes c4) au],[hB b1 [vS p1 p.Arrays c,vS p2 p.Parts c1,vS p3 y1 c2,vS p4 reads c3,vS p5 writes c4]]] [(1,false),(15,true),(18,true)] (zZ [0,4,2,1,3]) ?_ ?_
  ·refine O4<|Op<|Ob ?_<|Op<|Ox ?_<|Ox ?_<|O3<|Ob ?_<|Op<|Ox ?_<|Ox ?_<|O2<|Ox ?_<|On
   ·intro I1 hf aa hbo;obtain⟨hf2,hbp⟩:=hbo.at (j:=24) (g:=[hB b1 [vS p1 p.Arrays c,vS p2 p.Parts c1,vS p3 y1 c2,vS p4 reads c3,vS p5 writes c4]]) (by decide) (by kernel_rfl) rfl;refine xG ?_;rintro _ _ ⟨rfl,rfl⟩;refine xG ?_;rintro _ _ rfl;refine uB<|zOd hbp<|zBI [(38,vP b1 3)] ?_;exact zEy (cs:=[vS p4 reads c3]) (v:=vS p4 reads c3) 2 rfl rfl rfl rfl rfl (by kernel_rfl) (by kernel_rfl) (by kernel_rfl)<|xO iR
   ·intro I1 hf aa;refine yW [40] rfl ?_;have H:=iS I1;have h11:=h11.mono aa;refine mH (rc y4 ⟨_,rfl,h11⟩ rN) ?_;intro b3 aW aC h14;have H:=H.trans aC;exact yN [] H ⟨_,rfl,rfl,h14⟩
   ·rintro I1 hf aa _ _ ⟨rfl,rfl⟩ _ _ ⟨b3,rfl,rfl,h14⟩ _ _ rfl;refine yW [39,41] rfl ?_;have h6:=iM aa h6;obtain⟨bq,k0,k01⟩:=h14;have h14:SL I1 (vS (some ⟨b3,0,none⟩) ([y4]:List (List Int)) 1) ([y4]:List (List Int)):=⟨_,k0,k01⟩;exact sW 27 1 0 rfl rfl rfl h6 (.inl k0) k01 bh λaL c9 bt h15=>wY (ag:=(hO (List Int) (vS aL l c9) bt::hB b2 (cInst x p8 c7)::hB b (cProg p p1 c p2 c1)::hf)) rfl<|yN [hO (List Int) (vS aL l c9) bt] iR ⟨_,_,_,rfl,rfl,h15⟩
   ·intro I1 hf aa hbo;obtain⟨hf2,hbp⟩:=hbo.at (j:=24) (g:=[hB b1 [vS p1 p.Arrays c,vS p2 p.Parts c1,vS p3 y1 c2,vS p4 reads c3,vS p5 writes c4]]) (by decide) (by kernel_rfl) rfl;refine xG ?_;rintro _ _ ⟨rfl,rfl⟩;refine xG ?_;rintro _ _ rfl;refine uB<|zOd hbp<|zBI [(45,vP b1 4)] ?_;exact zEy (cs:=[vS p5 writes c4]) (v:=vS p5 writes c4) 2 rfl rfl rfl rfl rfl (by kernel_rfl) (by kernel_rfl) (by kernel_rfl)<|xO iR
   ·intro I1 hf aa;refine yW [47] rfl ?_;have H:=iS I1;refine mH (rI [y5]) ?_;intro b4 bx aI h17;have H:=H.trans aI;exact yN [] H ⟨_,rfl,rfl,h17⟩
   ·rintro I1 hf aa _ _ ⟨rfl,rfl⟩ _ _ ⟨b4,rfl,rfl,h17⟩ _ _ rfl;refine yW [46,48] rfl ?_;have h7:=iM aa h7;obtain⟨bL,k02,k03⟩:=h17;have h17:SL I1 (vS (some ⟨b4,0,none⟩) ([y5]:List Int) 1) ([y5]:List Int):=⟨_,k02,k03⟩;exact sW 3 1 0 rfl rfl rfl h7 (.inl k02) k03 bu λaF aO bz h18=>wY (ag:=(hO Int (vS aF l1 aO) bz::hB b2 (cInst x p8 c7)::hB b (cProg p p1 c p2 c1)::hf)) rfl<|yN [hO Int (vS aF l1 aO) bz] iR ⟨_,_,_,rfl,rfl,h18⟩
   rintro I1 hf aa _ _ ⟨aL,c9,bt,rfl,rfl,h15⟩ _ _ ⟨rfl,rfl⟩ _ _ rfl;refine yW [42,51] rfl ?_;have H:=iS I1;exact jV 0 [vS p1 p.Arrays c,vS p2 p.Parts c1,vS p3 y1 c2,vS aL l c9,vS p5 writes c4] (hB b1 [vS p1 p.Arrays c,vS p2 p.Parts c1,vS p3 y1 c2,vS aL l c9,vS p5 writes c4]::hO (List Int) (vS aL l c9) bt::hB b2 (cInst x p8 c7)::hB b (cProg p p1 c p2 c1)::hf) rfl rfl rfl rfl<|zAb (hx:=[hB b1 [vS p1 p.Arrays c,vS p2 p.Parts c1,vS p3 y1 c2,vS aL l c9,vS p5 writes c4],hO (List Int) (vS aL l c9) bt]) rfl H rfl (zFk (v:=undef)) ⟨_,_,_,rfl,h15⟩
  rintro bG aY _ _ ⟨rfl,rfl⟩ _ _ ⟨aF,aO,bz,rfl,rfl,h18⟩ _ _ ⟨p101,c91,cs41,rfl,h151⟩;refine yW [1,6,22,23,24,35,49] rfl ?_;have ⟨h2,h,h1,H⟩:=m4 aY h2 h h1 H;exact yG 21 [] [53] rfl<|xC 0 [vS p1 p.Arrays c,vS p2 p.Parts c1,vS p3 y1 c2,vS p101 l c91,vS aF l1 aO] rfl<|zY rfl<|zN<|zK<|zL<|yQ [] [24] rfl<|yV<|qZ (zX [2,1,0,4] rfl (by decide))<|nX<|ih (W (t24+1)) l l1 _ N H h2 h h1 h151 h18 hg ho hx
 intro aH N;exact wW<|wK (zX [0,1,2] rfl (by decide))<|yZ<|hx _ _ _ _ _ _ _ _ _ (zE N).symm H h6 h7
def zAF(p:zC):Option ((Option tH)×Bool):=do
 let (y1,y2)<-rH p;if(!y2) then pure (none,false)
 else
  let (reads1,writes1)<-kW p y1 0 ([]:List (List Int)) ([]:List Int);pure ((some (tH.mk p y1 reads1 writes1)),true)
theorem zEt:∀p r,zAF p=some r->∀{I:Imm}{p1 c p2 c1},(S4 I p1 p.Arrays c)->(S4 I p2 p.Parts c1)->RT 43 [vA (cProg p p1 c p2 c1)] I [] (zH6  r):=by
 intro p r N I p1 c p2 c1 h h1;unfold zAF at N;refine yM func43 λB=>yD<|vC (cProg p p1 c p2 c1) ?_;intro b hb;refine wM [] []<|yY<|uW 1 [0] [(12,vA (cProg p p1 c p2 c1))] ?_;obtain⟨⟨y1,y2⟩,hy,N⟩:=zB N;refine xK (zAL p _ hy h h1) ?_;rintro I0 ax v2 k2 le - ⟨v0,v01,rfl,rfl,h2,rfl⟩ -;have ⟨h,h1⟩:=m2 le h h1;obtain⟨p3,c2,rfl⟩:=h2.form;refine yQ [] [4,5] rfl<|yA<|yK [17] rfl<|zK<|yH N ?_ ?_
 ·intro hc N;refine yK [2,3] rfl<|xH<|zJ ?_;exact xX N (resU rfl rfl) zO ⟨_,_,rfl,rfl,zPB,rfl⟩
 intro hc N;refine zT<|yY<|uW 3 [0] [(20,vA [vS p1 p.Arrays c,vS p2 p.Parts c1,vS p3 y1 c2,z0,z0])]<|vC [vS p1 p.Arrays c,vS p2 p.Parts c1,vS p3 y1 c2,z0,z0] ?_;intro b1 hb1;refine yQ [] [6] rfl<|yA<|yK [22,23,24] rfl<|wN<|qX [(1,vP b 0),(6,vP b1 0),(22,vS p3 y1 c2),(23,vI (y1.length:Int)),(24,vI 0)]<|zA6 (List Int) λh4=>?_;refine zA6 Int λh5=>?_;obtain⟨o0,aA,aE⟩:=zB N;refine zGo p y1 0 ([]:List (List Int)) ([]:List Int) o0 aA iR h2 h h1 h4 h5 nG nO ?_;intro bK reads1 writes1 p6 c5 aR p7 c6 aM heq bo h8 h9;subst o0;have ⟨h,h1,h2⟩:=m3 bo h h1 h2;refine zS<|vM [2,3] rfl<|xH<|xB 1 rfl ?_;intro I06 bv hl02;have h19:=SL.of_frozen hl02 bv h8;have ⟨h9,h,h1,h2⟩:=m4 bv h9 h h1 h2;refine xB 0 rfl ?_;intro I07 le7 hl03;have h20:=SL.of_frozen hl03 le7 h9;have ⟨h,h1,h2,h19⟩:=m4 le7 h h1 h2 h19;refine xB 0 rfl ?_;intro I08 le8 hl04;have aw:At I08 ⟨b1,0,none⟩ [vS p1 p.Arrays c,vS p2 p.Parts c1,vS p3 y1 c2,vS p6 reads1 c5,vS p7 writes1 c6]:=At.of_blk hl04;have ⟨h,h1,h2,h19,h20⟩:=m5 le8 h h1 h2 h19 h20;exact xX aE (resU rfl rfl) zO ⟨_,_,rfl,rfl,(zPf aw (zGj ⟨_,_,_,_,_,rfl,h,h1,h2,h19,h20⟩)),rfl⟩
def mA(p:zC)(part:Int):Option (Bool):=do
 let y<-wX part 0 (W ((p.Parts.length:Int) - 1));pure (id y)
theorem zDE:∀p part r,mA p part=some r->∀{I:Imm}{p1 c p2 c1},(S4 I p1 p.Arrays c)->(S4 I p2 p.Parts c1)->RT 86 [vA (cProg p p1 c p2 c1),vI part] I [] (zW  r):=by
 intro p part r N I p1 c p2 c1 h h1;unfold mA at N;refine yM func86 λB=>yD<|vC (cProg p p1 c p2 c1) ?_;intro b hb;refine wM [] []<|yY<|yG 5 [0] [5,9] rfl<|bE N λy hy N=>tA (vR part 0 (W ((p.Parts.length:Int) - 1)) _ hy ) λI0 le=>wM [] [(4,.bool y)]<|zK<|xD ?_;obtain rfl:=zE N;exact vH
def nK(p:zC):Option (Bool):=do
 let (y1,y2)<-rH p;pure (id y2)
theorem zBL:∀p r,nK p=some r->∀{I:Imm}{p1 c p2 c1},(S4 I p1 p.Arrays c)->(S4 I p2 p.Parts c1)->RT 92 [vA (cProg p p1 c p2 c1)] I [] (zW  r):=by
 intro p r N I p1 c p2 c1 h h1;unfold nK at N;refine yM func92 λB=>yD<|vC (cProg p p1 c p2 c1) ?_;intro b hb;refine wM [] []<|yY<|uW 1 [0] [(6,vA (cProg p p1 c p2 c1))] ?_;obtain⟨⟨y1,y2⟩,hy,N⟩:=zB N;refine xK (zAL p _ hy h h1) ?_;rintro I0 ax v2 k2 le - ⟨v0,v01,rfl,rfl,h2,rfl⟩ -;obtain⟨p3,c2,rfl⟩:=h2.form;refine yQ [] [4] rfl<|vM [2] rfl<|zK<|xD ?_;obtain rfl:=zE N;exact vH
def jC(r:zA):KT:=λkk I' ag v=>
 ∃v0,ag=[]/\v=tupV [v0]/\(∃cs,v0=.agg ⟨cs⟩/\Rp.rep I' cs r)
def oJ(a0:zA):Option (zA):=do
 let y<-uH a0.Coefs;pure (zA.mk y a0.Const)
theorem zCE:∀a0 r,oJ a0=some r->∀{I:Imm}{p c},(S4 I p a0.Coefs c)->RT 141 [vA (cAff a0 p c)] I [] (jC  r):=by
 intro a0 r N I p c h;unfold oJ at N;refine yM func141 λB=>?_;have H:=iS I;refine yD<|vC (cAff a0 p c) ?_;intro b hb;refine xY [z0,vI 0] ?_;intro b1 hb1;refine zY rfl<|yA<|bE N λy hy N=>wP [.p (vP b 0) [],.p (vS p a0.Coefs c) [1],.x (λI' v hx=>∃p1 c1 cs,v=vS p1 y c1/\hx=[hO Int (vS p1 y c1) cs]/\(RL I' cs y)),.p (vP b 1) [],.p (vI a0.Const) [1],.x (λI' v hx=>∃aF aQ au,v=vA [vS aF y aQ,vI a0.Const]/\hx=[hO Int (vS aF y aQ) au]/\(RL I' au y))] [[],[(0,false)],[(1,false)],[],[(3,false)],[(2,true),(4,false)]] [hB b1 [z0,vI 0],hB b (cAff a0 p c)] [] [(5,true)] (zZ [0,1]) ?_ ?_
 ·refine O2<|Ox ?_<|O2<|Ox ?_<|On
  ·intro I1 hf aa;refine yW [4] rfl ?_;have H:=iS I1;have h:=h.mono aa;refine xK (oI a0.Coefs _ hy h) ?_;rintro I0 ax v2 k2 le - ⟨p1,c1,cs,rfl,rfl,h1⟩ -;have H:=H.trans le;exact yN [hO Int (vS p1 y c1) cs] H ⟨_,_,_,rfl,rfl,h1⟩
  rintro I1 hf aa _ _ ⟨p1,c1,cs,rfl,rfl,h1⟩;exact yW [5,7] rfl<|oN 6 [(8,vA [vS p1 y c1,vI a0.Const])]<|yN [hO Int (vS p1 y c1) cs] iR ⟨_,_,_,rfl,rfl,h1⟩
 rintro aP aa _ _ ⟨aF,aQ,au,rfl,rfl,h11⟩;refine yW [2,8] rfl ?_;refine xC 1 [vS aF y aQ,vI a0.Const] rfl<|zY rfl<|xH<|xB 0 rfl ?_;intro aW aC hl0;have h2:=SL.of_frozen hl0 aC h11;exact xX N (resC 0 rfl rfl) zO ⟨_,rfl,rfl,⟨_,rfl,(yO ⟨_,rfl,h2⟩)⟩⟩
def dM(r:(List zA)):KT:=λkk I' ag v=>
 ∃v0,ag=[]/\v=tupV [v0]/\SL I' v0 r
def qE(list:(List zA))(out:List zA)(t8:Int):Option (List zA):=do
 if(decide (t8<(list.length:Int))) then
  let x<-idx list t8;let y<-oJ x;let ar<-app 32 out ([y]:List zA);qE list ar (W (t8+1))
 else pure (id out)
 partial_fixpoint
theorem zD8(list:(List zA)):∀(out:List zA) (t8:Int) (o:List zA),qE list out t8=some o->∀{B}{I0 I:Imm}{Q p c p1 c1 cs},I0.le I->(S4 I p list c)->(RL I cs out)->NG Q->NO Q->(∀I' aj p2 c2 au,o=aj->I0.le I'->(RL I' au aj)->T 19 B Q (.exit 0) I' [hO zA (vS p2 aj c2) au] [(3,vS p2 aj c2)])->J Tryz.prog 19 B (nav (bodyOf f95) [1,1,0,1,0]) Q I [hO zA (vS p1 out c1) cs] [(3,vS p1 out c1),(6,vS p list c),(7,vI (list.length:Int)),(8,vI t8)]:=by
 refine qE.partial_correctness list _ λaJ ih out t8 o N B I0 I Q p c p1 c1 cs H h h2 hg ho hx=>yX hg ho<|yK [9] rfl<|yA<|yH N ?_ ?_
 ·intro hc N;refine zT<|yA<|yL<|yD<|bE N λx hy N=>xW rfl rfl h hy ?_;intro ad aN aq am;obtain⟨p3,c3,rfl,h4⟩:=yI am;refine xM 0 aq (cAff x p3 c3) (vA (cAff x p3 c3)) rfl<|xY [z0,vI 0] ?_;intro b hb;refine xC 0 (cAff x p3 c3) rfl<|zY rfl<|zK<|zL<|uW 2 [0] [(12,vS p1 out c1),(13,vA (cAff x p3 c3))]<|bE N λy az N=>xK (zCE x _ az h4) ?_;rintro I0 ax v2 k2 le - ⟨v01,rfl,rfl,⟨aR,rfl,h5⟩⟩ -;have ⟨h,h2,H⟩:=m3 le h h2 H;obtain⟨p4,c4,rfl,h6⟩:=yI h5;refine uX (cAff y p4 c4) zA ?_;intro b1 hb1;have h7:RL I0 (cAff y p4 c4) ([y]:List zA):=⟨(cAff y p4 c4),_,rfl,rfl,(yO ⟨_,rfl,h6⟩),rfl⟩;obtain⟨ar,aG,N⟩:=zB N;exact sW 95 2 2 rfl rfl rfl h2 (.inr ⟨0,rfl⟩) h7 aG λp5 c5 aM h8=>tX (zZ [1,2] (ag:=[hB b (cAff x p3 c3),hO zA (vS p5 ar c5) aM]))<|yQ [] [3] rfl<|zN<|zK<|zL<|yQ [] [8] rfl<|yV<|qZ (zX [1] rfl (by decide))<|nX<|ih ar (W (t8+1)) _ N H h h8 hg ho hx
 intro hc N;exact wW<|yZ<|hx _ _ _ _ _ (zE N).symm H h2
def pK(list:(List zA)):Option ((List zA)):=do
 let aj<-qE list ([]:List zA) 0;pure (id aj)
theorem zBd:∀list r,pK list=some r->∀{I:Imm}{p c},(S4 I p list c)->RT 95 [vS p list c] I [] (dM  r):=by
 intro list r N I p c h;unfold pK at N;refine yM func95 λB=>wZ []<|zE3 [(3,z0)]<|yA<|yK [6,7,8] rfl<|wN<|qX [(3,z0),(6,vS p list c),(7,vI (list.length:Int)),(8,vI 0)]<|zA6 zA λh1=>?_;obtain⟨o0,aA,aE⟩:=zB N;refine zD8 list ([]:List zA) 0 o0 aA iR h h1 nG nO ?_;intro aP aj p2 c2 au heq aa h3;subst o0;refine zS<|vM [2] rfl<|xH<|xB 0 rfl ?_;intro aW aC hl0;have h9:=SL.of_frozen hl0 aC h3;exact xX aE (resT rfl) zO ⟨_,rfl,rfl,h9⟩
def zAi(r:(List zG)):KT:=λkk I' ag v=>
 ∃v0,ag=[]/\v=tupV [v0]/\SL I' v0 r
def oU(nest:(List zG))(out:List zG)(t8:Int):Option (List zG):=do
 if(decide (t8<(nest.length:Int))) then
  let x<-idx nest t8;let y<-pK x.Lo;let y1<-pK x.Hi;let ar<-app 48 out ([(zG.mk y y1)]:List zG);oU nest ar (W (t8+1))
 else pure (id out)
 partial_fixpoint
theorem zFK(nest:(List zG)):∀(out:List zG) (t8:Int) (o:List zG),oU nest out t8=some o->∀{B}{I0 I:Imm}{Q p c p1 c1 cs},I0.le I->(S4 I p nest c)->(RL I cs out)->NG Q->NO Q->(∀I' aj p2 c2 au,o=aj->I0.le I'->(RL I' au aj)->T 24 B Q (.exit 0) I' [hO zG (vS p2 aj c2) au] [(3,vS p2 aj c2)])->J Tryz.prog 24 B (nav (bodyOf f52) [1,1,0,1,0]) Q I [hO zG (vS p1 out c1) cs] [(3,vS p1 out c1),(6,vS p nest c),(7,vI (nest.length:Int)),(8,vI t8)]:=by
 refine oU.partial_correctness nest _ λaJ ih out t8 o N B I0 I Q p c p1 c1 cs H h h2 hg ho hx=>yX hg ho<|yK [9] rfl<|yA<|yH N ?_ ?_
 ·intro hc N;refine zT<|yA<|yL<|yD<|bE N λx hy N=>xW rfl rfl h hy ?_;intro ad aN aq am;obtain⟨p3,c3,p4,c4,rfl,h4,h5⟩:=vD am;refine xM 0 aq (cLoop x p3 c3 p4 c4) (vA (cLoop x p3 c3 p4 c4)) rfl<|xY zTwo ?_;intro b hb;refine xC 0 (cLoop x p3 c3 p4 c4) rfl<|zY rfl<|zK ?_;obtain⟨y,az,N⟩:=zB N;obtain⟨y1,aG,N⟩:=zB N;obtain⟨ar,bh,N⟩:=zB N;refine wP [.p (vS p1 out c1) [],.p (vP b 0) [],.p (vS p3 x.Lo c3) [0],.x (eS y),.p (vP b 1) [],.p (vS p4 x.Hi c4) [0],.x (eS y1),.x (λI' v hx=>∃p51 c51 p61 c61,v=vA [vS p51 y c51,vS p61 y1 c61]/\hx=[]/\(S4 I' p51 y c51)/\(S4 I' p61 y1 c61)),.x (λI' v hx=>∃b1,v=vS (some ⟨b1,0,none⟩) ([(zG.mk y y1)]:List zG) 1/\hx=[]/\(SL I' (vS (some ⟨b1,0,none⟩) ([(zG.mk y y1)]:List zG) 1) ([(zG.mk y y1)]:List zG))),.x (λI' v hx=>∃p7 c7 aR,v=vS p7 ar c7/\hx=[hO zG (vS p7 ar c7) aR]/\(RL I' aR ar))] [[],[],[(1,false)],[(2,false)],[],[(4,false)],[(5,false)],[(3,false),(6,false)],[(7,false)],[(0,false),(8,false),(11,true)]] [hB b (cLoop x p3 c3 p4 c4)] [[hO zG (vS p1 out c1) cs]] [(9,true)] (zZ [0,1]) ?_ ?_
  ·refine O3<|Ox ?_<|O2<|Ox ?_<|Ox ?_<|Ox ?_<|Ox ?_<|On
   ·intro I1 hf aa;refine yW [14] rfl ?_;have H:=iS I1;have h4:=h4.mono aa;refine xK (zBd x.Lo _ az h4) ?_;rintro I0 ax v2 k2 le - ⟨v02,rfl,rfl,h6⟩ -;have H:=H.trans le;obtain⟨p5,c5,rfl⟩:=h6.form;exact yN [] H ⟨_,_,rfl,rfl,h6⟩
   ·intro I1 hf aa;refine yW [17] rfl ?_;have H:=iS I1;have h5:=h5.mono aa;refine xK (zBd x.Hi _ aG h5) ?_;rintro aP ax v2 k2 aa - ⟨v03,rfl,rfl,h7⟩ -;have H:=H.trans aa;obtain⟨p6,c6,rfl⟩:=h7.form;exact yN [] H ⟨_,_,rfl,rfl,h7⟩
   ·rintro I1 hf aa _ _ ⟨p5,c5,rfl,rfl,h6⟩ _ _ ⟨p6,c6,rfl,rfl,h7⟩;exact yW [15,18] rfl<|oN 8 [(19,vA [vS p5 y c5,vS p6 y1 c6])]<|yN [] iR ⟨_,_,_,_,rfl,rfl,h6,h7⟩
   ·rintro I1 hf aa _ _ ⟨p51,c51,p61,c61,rfl,rfl,h61,h71⟩;refine yW [19] rfl ?_;have H:=iS I1;refine mH (rc (zG.mk y y1) (uR ⟨_,_,rfl,h61,h71⟩) rN) ?_;intro b1 aW aC h9;have H:=H.trans aC;exact yN [] H ⟨_,rfl,rfl,h9⟩
   rintro I1 hf aa _ _ ⟨rfl,rfl⟩ _ _ ⟨b1,rfl,rfl,h9⟩ _ _ rfl;refine yW [12,20] rfl ?_;have h2:=iM aa h2;obtain⟨bq,k0,k01⟩:=h9;have h9:SL I1 (vS (some ⟨b1,0,none⟩) ([(zG.mk y y1)]:List zG) 1) ([(zG.mk y y1)]:List zG):=⟨_,k0,k01⟩;exact sW 141 2 0 rfl rfl rfl h2 (.inl k0) k01 bh λp7 c7 aR h10=>wY (ag:=(hO zG (vS p7 ar c7) aR::hB b (cLoop x p3 c3 p4 c4)::hf)) rfl<|yN [hO zG (vS p7 ar c7) aR] iR ⟨_,_,_,rfl,rfl,h10⟩
  rintro bx aI _ _ ⟨p7,c7,aR,rfl,rfl,h10⟩;refine yW [6,7,8,21] rfl ?_;have ⟨h,H⟩:=m2 aI h H;exact yQ [] [3] rfl<|zN<|zK<|zL<|yQ [] [8] rfl<|yV<|qZ (zX [0] rfl (by decide))<|nX<|ih ar (W (t8+1)) _ N H h h10 hg ho hx
 intro hc N;exact wW<|yZ<|hx _ _ _ _ _ (zE N).symm H h2
def fU(nest:(List zG)):Option ((List zG)):=do
 let aj<-oU nest ([]:List zG) 0;pure (id aj)
theorem zD0:∀nest r,fU nest=some r->∀{I:Imm}{p c},(S4 I p nest c)->RT 52 [vS p nest c] I [] (zAi  r):=by
 intro nest r N I p c h;unfold fU at N;refine yM func52 λB=>wZ []<|zE3 [(3,z0)]<|yA<|yK [6,7,8] rfl<|wN<|qX [(3,z0),(6,vS p nest c),(7,vI (nest.length:Int)),(8,vI 0)]<|zA6 zG λh1=>?_;obtain⟨o0,aA,aE⟩:=zB N;refine zFK nest ([]:List zG) 0 o0 aA iR h h1 nG nO ?_;intro bG aj p2 c2 au heq aY h3;subst o0;refine zS<|vM [2] rfl<|xH<|xB 0 rfl ?_;intro bK bo hl01;have h11:=SL.of_frozen hl01 bo h3;exact xX aE (resT rfl) zO ⟨_,rfl,rfl,h11⟩
def zBZ(r:zM):KT:=λkk I' ag v=>
 ∃v0,ag=[]/\v=tupV [v0]/\(∃cs,v0=.agg ⟨cs⟩/\Rp.rep I' cs r)
def pF(a0:zM)(change:(zA->Option zA))(t14:Int)(Subs:List zA):Option (List zA):=do
 if(decide (t14<(a0.Subs.length:Int))) then
  let x<-idx a0.Subs t14;let y<-change x;let l<-app 32 Subs ([y]:List zA);pF a0 change (W (t14+1)) l
 else pure (id Subs)
 partial_fixpoint
theorem zDt(a0:zM)(change:(zA->Option zA)):∀(t14:Int) (Subs:List zA) (o:List zA),pF a0 change t14 Subs=some o->∀{B}{I0 I:Imm}{Q p c}{fv:Value}{b1 b2}{p1 c1 cs},I0.le I->(FV1 Tryz.prog I [] fv change)->(S4 I p a0.Subs c)->(RL I cs Subs)->NG Q->NO Q->(∀I' Subs1 p2 c2 au,o=Subs1->I0.le I'->(RL I' au Subs1)->T 28 B Q (.exit 0) I' [hO zA (vS p2 Subs1 c2) au,hB b2 [vT a0.Array.l,vS p2 Subs1 c2],hB b1 [vT ([]),z0]] [(4,vP b1 0),(5,vP b2 0)])->J Tryz.prog 28 B (nav (bodyOf f247) [1,1,0,1,0]) Q I [hO zA (vS p1 Subs c1) cs,hB b2 [vT a0.Array.l,vS p1 Subs c1],hB b1 [vT ([]),z0]] [(1,fv),(4,vP b1 0),(5,vP b2 0),(12,vS p a0.Subs c),(13,vI (a0.Subs.length:Int)),(14,vI t14)]:=by
 refine pF.partial_correctness a0 change _ λaJ ih t14 Subs o N B I0 I Q p c fv b1 b2 p1 c1 cs H h1 h h3 hg ho hx=>yX hg ho<|yK [15] rfl<|yA<|yH N ?_ ?_
 ·intro hc N;refine zT<|yA<|yL<|yD<|bE N λx hy N=>xW rfl rfl h hy ?_;intro ad aN aq am;obtain⟨p3,c3,rfl,h5⟩:=yI am;refine xM 0 aq (cAff x p3 c3) (vA (cAff x p3 c3)) rfl<|xY [z0,vI 0] ?_;intro b3 hb3;refine xC 0 (cAff x p3 c3) rfl<|zY rfl<|zK ?_;obtain⟨y,az,N⟩:=zB N;obtain⟨l,aG,N⟩:=zB N;refine wP [.p (vP b2 1) [],.p (vS p1 Subs c1) [1],.p fv [],.p (vA (cAff x p3 c3)) [0],.x (eVAff y),.x (λI' v hx=>∃b4,v=vS (some ⟨b4,0,none⟩) ([y]:List zA) 1/\hx=[]/\(SL I' (vS (some ⟨b4,0,none⟩) ([y]:List zA) 1) ([y]:List zA))),.x (λI' v hx=>∃p5 c5 aM,v=vS p5 l c5/\hx=[hO zA (vS p5 l c5) aM]/\(RL I' aM l))] [[],[(0,false)],[],[],[(2,false),(3,false)],[(4,false)],[(1,false),(5,false),(9,true)]] [hB b3 (cAff x p3 c3),hB b2 [vT a0.Array.l,vS p1 Subs c1],hB b1 [vT ([]),z0]] [[hO zA (vS p1 Subs c1) cs]] [(6,true)] (zZ [0,2,3,1]) ?_ ?_
  ·refine O4<|Ox ?_<|Ox ?_<|Ox ?_<|On
   ·intro I1 hf aa;refine yW [20,21] rfl ?_;have H:=iS I1;have ⟨h1,h5⟩:=m2 aa h1 h5;refine zOf rfl rfl h1 az ⟨_,rfl,(yO ⟨_,rfl,h5⟩)⟩  ?_;rintro I0 v01 le ⟨aR,rfl,h6⟩;have H:=H.trans le;obtain⟨p4,c4,rfl,h7⟩:=yI h6;exact yN [] H ⟨_,_,rfl,rfl,h7⟩
   ·rintro I1 hf aa _ _ ⟨p4,c4,rfl,rfl,h7⟩;refine yW [22] rfl ?_;have H:=iS I1;refine mH (rc y (yO ⟨_,rfl,h7⟩) rN) ?_;intro b4 aP aa h9;have H:=H.trans aa;exact yN [] H ⟨_,rfl,rfl,h9⟩
   rintro I1 hf aa _ _ ⟨rfl,rfl⟩ _ _ ⟨b4,rfl,rfl,h9⟩ _ _ rfl;refine yW [19,23] rfl ?_;have h3:=iM aa h3;obtain⟨bq,k0,k01⟩:=h9;have h9:SL I1 (vS (some ⟨b4,0,none⟩) ([y]:List zA) 1) ([y]:List zA):=⟨_,k0,k01⟩;exact sW 95 2 0 rfl rfl rfl h3 (.inl k0) k01 aG λp5 c5 aM h10=>wY (ag:=(hO zA (vS p5 l c5) aM::hB b3 (cAff x p3 c3)::hB b2 [vT a0.Array.l,vS p1 Subs c1]::hB b1 [vT ([]),z0]::hf)) rfl<|yN [hO zA (vS p5 l c5) aM] iR ⟨_,_,_,rfl,rfl,h10⟩
  rintro aW aC _ _ ⟨p5,c5,aM,rfl,rfl,h10⟩;refine yW [1,4,5,12,13,14,24] rfl ?_;have ⟨h1,h,H⟩:=m3 aC h1 h H;exact yG 8 [] [25] rfl<|xC 2 [vT a0.Array.l,vS p5 l c5] rfl<|zY rfl<|zN<|zK<|zL<|yQ [] [14] rfl<|yV<|qZ (zX [0,2,3] rfl (by decide))<|nX<|ih (W (t14+1)) l _ N H h1 h h10 hg ho hx
 intro hc N;exact wW<|yZ<|hx _ _ _ _ _ (zE N).symm H h3
def jN(a0:zM)(change:(zA->Option zA)):Option (zM):=do
 let Subs1<-pF a0 change 0 ([]:List zA);pure (zM.mk a0.Array Subs1)
theorem zCF:∀a0 change r,jN a0 change=some r->∀{I:Imm}{p c}{fv:Value},(S4 I p a0.Subs c)->(FV1 Tryz.prog I [] fv change)->RT 247 [vA (cAccess a0 p c),fv] I [] (zBZ  r):=by
 intro a0 change r N I p c fv h h1;unfold jN at N;refine yM func247 λB=>yD<|vC (cAccess a0 p c) ?_;intro b hb;refine xY [vT ([]),z0] ?_;intro b1 hb1;refine zY rfl<|yY<|uW 3 [1] [(10,vA [vT a0.Array.l,z0])]<|xY [vT ([]),z0] ?_;intro b2 hb2;refine xC 0 [vT a0.Array.l,z0] rfl<|zY rfl<|yA<|yD<|yQ [2] [12,13,14] rfl<|wN<|qZ (zZ [0,1] (ag:=[hB b2 [vT a0.Array.l,z0],hB b1 [vT ([]),z0]]))<|qX [(1,fv),(4,vP b1 0),(5,vP b2 0),(12,vS p a0.Subs c),(13,vI (a0.Subs.length:Int)),(14,vI 0)]<|zA6 zA λh2=>?_;obtain⟨o0,aA,aE⟩:=zB N;refine zDt a0 change 0 ([]:List zA) o0 aA iR h1 h h2 nG nO ?_;intro bx Subs1 p2 c2 au heq aI h4;subst o0;refine zS<|yY<|uW 1 [1] [(27,vA [vT a0.Array.l,vS p2 Subs1 c2])]<|xC 2 [vT a0.Array.l,vS p2 Subs1 c2] rfl<|zY rfl<|xH<|xB 0 rfl ?_;intro bG aY hl01;have h11:=SL.of_frozen hl01 aY h4;exact xX aE (resC 1 rfl rfl) zO ⟨_,rfl,rfl,⟨_,rfl,(oG ⟨_,rfl,h11⟩)⟩⟩
def dA(r:zH):KT:=λkk I' ag v=>
 ∃v0,ag=[]/\v=tupV [v0]/\(∃cs,v0=.agg ⟨cs⟩/\Rp.rep I' cs r)
mutual
def jQ(e0:zH)(change:(zA->Option zA)):Option (zH):=do
 let (IndexCoefs,IndexConst,ReadArray,ReadSubs)<-(do
  if(e0.Kind==2) then
   let y<-change e0.Index;pure (y.Coefs,y.Const,(⟨[]⟩:Str),([]:List zA))
  else
   let (ReadArray1,ReadSubs1)<-(do
    if(e0.Kind==3) then
     let y1<-jN e0.Read change;pure (y1.Array,y1.Subs)
    else
     pure ((⟨[]⟩:Str),([]:List zA))
      : Option (Str×List zA))
   pure (([]:List Int),0,ReadArray1,ReadSubs1)
    : Option (List Int×Int×Str×List zA))
 let Kids1<-pL (same e0) (same change) (same 0) ([]:List zH);pure (zH.mk e0.Kind e0.Num (zA.mk IndexCoefs IndexConst) (zM.mk ReadArray ReadSubs) Kids1)
 partial_fixpoint
def pL(e0:zH)(change:(zA->Option zA))(t32:Int)(Kids:List zH):Option (List zH):=do
 if(decide (t32<(e0.Kids.length:Int))) then
  let x<-idx e0.Kids t32;let y2<-jQ (same x) (same change);let l<-app 112 Kids ([y2]:List zH);pL (same e0) (same change) (W (t32+1)) (same l)
 else pure (id Kids)
 partial_fixpoint
end
theorem zGp:(∀(e0:zH) (change:(zA->Option zA)) r,jQ e0 change=some r->∀{I:Imm}{p c p1 c1 p2 c2}{fv:Value},(S4 I p e0.Index.Coefs c)->(S4 I p1 e0.Read.Subs c1)->(S4 I p2 e0.Kids c2)->(FV1 Tryz.prog I [] fv change)->RT 248 [vA (cExpr e0 p c p1 c1 p2 c2),fv] I [] (dA  r))/\(∀(e0:zH) (change:(zA->Option zA)) (t32:Int) (Kids:List zH) o,pL e0 change t32 Kids=some o->∀{B}{I0 I:Imm}{Q}{IndexCoefs:List Int}{IndexConst:Int}{ReadArray:Str}{ReadSubs:List zA}{p2 c2}{fv:Value}{b1 b2}{p3 c3 p4 c4 p8 c8 aR},I0.le I->(FV1 Tryz.prog I [] fv change)->(S4 I p2 e0.Kids c2)->(S4 I p3 IndexCoefs c3)->(S4 I p4 ReadSubs c4)->(RL I aR Kids)->NG Q->NO Q->(∀I' Kids1 p9 c9 aM,o=Kids1->I0.le I'->(RL I' aM Kids1)->T 46 B Q (.exit 1) I' [hO zH (vS p9 Kids1 c9) aM,hB b2 [vI e0.Kind,vI e0.Num,vS p3 IndexCoefs c3,vI IndexConst,vT ReadArray.l,vS p4 ReadSubs c4,vS p9 Kids1 c9],hB b1 zExpr] [(4,vP b1 0),(5,vP b2 0)])->J Tryz.prog 46 B (nav (bodyOf f248) [1,1,1,0,1,0]) Q I [hO zH (vS p8 Kids c8) aR,hB b2 [vI e0.Kind,vI e0.Num,vS p3 IndexCoefs c3,vI IndexConst,vT ReadArray.l,vS p4 ReadSubs c4,vS p8 Kids c8],hB b1 zExpr] [(1,fv),(4,vP b1 0),(5,vP b2 0),(30,vS p2 e0.Kids c2),(31,vI (e0.Kids.length:Int)),(32,vI t32)]):=by
 refine jQ.mutual_partial_correctness _ _ ?_ ?_
 ·intro F_impl_exprMap_l1 ih_impl_exprMap_l1 e0 change r N I p c p1 c1 p2 c2 fv h h1 h2 h3;refine yM func248 λB=>?_;have H:=iS I;refine yD<|vC (cExpr e0 p c p1 c1 p2 c2) ?_;intro b hb;refine xY zExpr ?_;intro b1 hb1;refine zY rfl<|yY<|uW 5 [1,1] [(12,vA [vI e0.Kind,vI e0.Num,z0,vI 0,vT ([]),z0,z0])]<|xY zExpr ?_;intro b2 hb2;refine xC 0 [vI e0.Kind,vI e0.Num,z0,vI 0,vT ([]),z0,z0] rfl<|zY rfl<|yA<|yD<|yQ [2] [14] rfl<|wN<|yK [15] rfl<|zK ?_;obtain⟨o0,aA,aX⟩:=zB N;refine nP (λI' ag m'=>∃(IndexCoefs:List Int) (IndexConst:Int) (ReadArray:Str) (ReadSubs:List zA) (p3:Option Addr) (c3:Nat) (p4:Option Addr) (c4:Nat),o0=(IndexCoefs,IndexConst,ReadArray,ReadSubs)/\I.le I'/\(S4 I' p3 IndexCoefs c3)/\(S4 I' p4 ReadSubs c4)/\ag=[hB b2 [vI e0.Kind,vI e0.Num,vS p3 IndexCoefs c3,vI IndexConst,vT ReadArray.l,vS p4 ReadSubs c4,z0],hB b1 zExpr,hB b (cExpr e0 p c p1 c1 p2 c2)]/\m'=[(1,fv),(2,vP b 0),(4,vP b1 0),(5,vP b2 0)]) ?_ ?_
  ·have H:=iS I;refine yH aA ?_ ?_
   ·intro hc N;refine zL<|uW 3 [2] [(17,fv),(19,vA (cAff e0.Index p c))]<|bE N λy hy N=>zOf rfl rfl h3 hy ⟨_,rfl,(yO ⟨_,rfl,h⟩)⟩  ?_;rintro aP v0 le ⟨cs,rfl,h6⟩;have H:=H.trans le;obtain⟨p5,c5,rfl,h7⟩:=yI h6;exact yG 5 [] [21] rfl<|xC 0 [vI e0.Kind,vI e0.Num,vS p5 y.Coefs c5,vI y.Const,vT ([]),z0,z0] rfl<|zY rfl<|yZ<|zU ⟨_,_,_,_,_,_,_,_,(zE N).symm,H,h7,(SL.nil _),rfl,rfl⟩
   intro hc N;refine yK [22] rfl<|zK ?_;obtain⟨aU,aB,hMc1⟩:=zB N;refine nP (λI' ag m'=>∃(ReadArray1:Str) (ReadSubs1:List zA) (p6:Option Addr) (c6:Nat),aU=(ReadArray1,ReadSubs1)/\I.le I'/\(S4 I' p6 ReadSubs1 c6)/\ag=[hB b2 [vI e0.Kind,vI e0.Num,z0,vI 0,vT ReadArray1.l,vS p6 ReadSubs1 c6,z0],hB b1 zExpr,hB b (cExpr e0 p c p1 c1 p2 c2)]/\m'=[(1,fv),(2,vP b 0),(4,vP b1 0),(5,vP b2 0)]) ?_ ?_
   ·have H:=iS I;refine yH aB ?_ ?_
    ·intro aH N;refine zL<|uW 3 [2] [(25,vA (cAccess e0.Read p1 c1)),(26,fv)]<|bE N λy1 az N=>xK (zCF e0.Read change _ az h1 h3) ?_;rintro bx ax v2 k2 aa - ⟨v02,rfl,rfl,⟨au,rfl,h9⟩⟩ -;have H:=H.trans aa;obtain⟨p7,c7,rfl,h10⟩:=rF h9;exact yG 5 [] [28] rfl<|xC 0 [vI e0.Kind,vI e0.Num,z0,vI 0,vT y1.Array.l,vS p7 y1.Subs c7,z0] rfl<|zY rfl<|yZ<|zU ⟨_,_,_,_,(zE N).symm,H,h10,rfl,rfl⟩
    intro aH N;exact zT<|yZ<|zU ⟨_,_,_,_,(zE N).symm,H,(SL.nil _),rfl,rfl⟩
   rintro aW ax m2 ⟨ReadArray1,ReadSubs1,p6,c6,heq,aC,h8,rfl,rfl⟩;subst aU;have H:=H.trans aC;exact yZ<|zU ⟨_,_,_,_,_,_,_,_,(zE hMc1).symm,H,(SL.nil _),h8,rfl,rfl⟩
  rintro I0 ax m2 ⟨IndexCoefs,IndexConst,ReadArray,ReadSubs,p3,c3,p4,c4,heq1,aI,h4,h5,rfl,rfl⟩;subst o0;have ⟨h3,h,h2⟩:=m3 aI h3 h h2;refine zN<|yA<|yD<|yQ [2] [30,31,32] rfl<|wN<|qZ (zZ [0,1] (ag:=[hB b2 [vI e0.Kind,vI e0.Num,vS p3 IndexCoefs c3,vI IndexConst,vT ReadArray.l,vS p4 ReadSubs c4,z0],hB b1 zExpr]))<|qX [(1,fv),(4,vP b1 0),(5,vP b2 0),(30,vS p2 e0.Kids c2),(31,vI (e0.Kids.length:Int)),(32,vI 0)]<|zA6 zH λh11=>?_;obtain⟨o02,ho02,aE⟩:=zB aX;refine ih_impl_exprMap_l1 e0 change 0 ([]:List zH) o02 ho02 iR h3 h2 h4 h5 h11 nG nO ?_;intro I07 Kids1 p9 c9 aM heq2 le7 h13;subst o02;have ⟨h4,h5⟩:=m2 le7 h4 h5;refine zS<|yY<|uW 1 [1] [(45,vA [vI e0.Kind,vI e0.Num,vS p3 IndexCoefs c3,vI IndexConst,vT ReadArray.l,vS p4 ReadSubs c4,vS p9 Kids1 c9])]<|xC 2 [vI e0.Kind,vI e0.Num,vS p3 IndexCoefs c3,vI IndexConst,vT ReadArray.l,vS p4 ReadSubs c4,vS p9 Kids1 c9] rfl<|zY rfl<|xH<|xB 0 rfl ?_;intro I08 le8 hl01;have h24:=SL.of_frozen hl01 le8 h13;have ⟨h4,h5⟩:=m2 le8 h4 h5;exact xX aE (resC 1 rfl rfl) zO ⟨_,rfl,rfl,⟨_,rfl,(wF ⟨_,_,_,rfl,h4,h5,h24⟩)⟩⟩
 intro F_impl_exprMap F_impl_exprMap_l1 ih_impl_exprMap ih_impl_exprMap_l1 e0 change t32 Kids o N B I0 I Q IndexCoefs IndexConst ReadArray ReadSubs p2 c2 fv b1 b2 p3 c3 p4 c4 p8 c8 aR H h3 h2 h4 h5 h12 hg ho hx;refine yX hg ho<|yK [33] rfl<|yA<|yH N ?_ ?_
 ·intro ba N;refine zT<|yA<|yL<|yD<|bE N λx aG N=>xW rfl rfl h2 aG ?_;intro ad aN aq am;obtain⟨aL,aO,aF,aQ,bj,aZ,rfl,h14,h15,h16⟩:=wT am;refine xM 0 aq (cExpr x aL aO aF aQ bj aZ) (vA (cExpr x aL aO aF aQ bj aZ)) rfl<|xY zExpr ?_;intro b3 hb3;refine xC 0 (cExpr x aL aO aF aQ bj aZ) rfl<|zY rfl<|zK ?_;obtain⟨y2,bh,N⟩:=zB N;obtain⟨l,bu,N⟩:=zB N;refine wP [.p (vP b2 6) [],.p (vS p8 Kids c8) [1],.p (vA (cExpr x aL aO aF aQ bj aZ)) [0],.p fv [],.x (eVExpr y2),.x (λI' v hx=>∃b4,v=vS (some ⟨b4,0,none⟩) ([y2]:List zH) 1/\hx=[]/\(SL I' (vS (some ⟨b4,0,none⟩) ([y2]:List zH) 1) ([y2]:List zH))),.x (λI' v hx=>∃p16 c16 bz,v=vS p16 l c16/\hx=[hO zH (vS p16 l c16) bz]/\(RL I' bz l))] [[],[(0,false)],[],[],[(2,false),(3,false)],[(4,false)],[(1,false),(5,false),(9,true)]] [hB b3 (cExpr x aL aO aF aQ bj aZ),hB b2 [vI e0.Kind,vI e0.Num,vS p3 IndexCoefs c3,vI IndexConst,vT ReadArray.l,vS p4 ReadSubs c4,vS p8 Kids c8],hB b1 zExpr] [[hO zH (vS p8 Kids c8) aR]] [(6,true)] (zZ [0,2,3,1]) ?_ ?_
  ·refine O4<|Ox ?_<|Ox ?_<|Ox ?_<|On
   ·intro I1 hf aa;refine yW [38,39] rfl ?_;have H:=iS I1;have ⟨h3,h14,h15,h16⟩:=m4 aa h3 h14 h15 h16;refine xK (ih_impl_exprMap x change _ bh h14 h15 h16 h3) ?_;rintro bG ax v2 k2 aY - ⟨v07,rfl,rfl,⟨bt,rfl,h17⟩⟩ -;have H:=H.trans aY;obtain⟨bc,bd,p14,c14,p15,c15,rfl,h18,h19,h20⟩:=wT h17;exact yN [] H ⟨_,_,_,_,_,_,rfl,rfl,h18,h19,h20⟩
   ·rintro I1 hf aa _ _ ⟨bc,bd,p14,c14,p15,c15,rfl,rfl,h18,h19,h20⟩;refine yW [40] rfl ?_;have H:=iS I1;refine mH (rc y2 (wF ⟨_,_,_,rfl,h18,h19,h20⟩) rN) ?_;intro b4 bK bo h22;have H:=H.trans bo;exact yN [] H ⟨_,rfl,rfl,h22⟩
   rintro I1 hf aa _ _ ⟨rfl,rfl⟩ _ _ ⟨b4,rfl,rfl,h22⟩ _ _ rfl;refine yW [37,41] rfl ?_;have h12:=iM aa h12;obtain⟨bq,k0,k01⟩:=h22;have h22:SL I1 (vS (some ⟨b4,0,none⟩) ([y2]:List zH) 1) ([y2]:List zH):=⟨_,k0,k01⟩;exact sW 98 7 0 rfl rfl rfl h12 (.inl k0) k01 bu λp16 c16 bz h23=>wY (ag:=(hO zH (vS p16 l c16) bz::hB b3 (cExpr x aL aO aF aQ bj aZ)::hB b2 [vI e0.Kind,vI e0.Num,vS p3 IndexCoefs c3,vI IndexConst,vT ReadArray.l,vS p4 ReadSubs c4,vS p8 Kids c8]::hB b1 zExpr::hf)) rfl<|yN [hO zH (vS p16 l c16) bz] iR ⟨_,_,_,rfl,rfl,h23⟩
  rintro I06 bv _ _ ⟨p16,c16,bz,rfl,rfl,h23⟩;refine yW [1,4,5,30,31,32,42] rfl ?_;have ⟨h3,h2,h4,h5,H⟩:=m5 bv h3 h2 h4 h5 H;exact yG 8 [] [43] rfl<|xC 2 [vI e0.Kind,vI e0.Num,vS p3 IndexCoefs c3,vI IndexConst,vT ReadArray.l,vS p4 ReadSubs c4,vS p16 l c16] rfl<|zY rfl<|zN<|zK<|zL<|yQ [] [32] rfl<|yV<|qZ (zX [0,2,3] rfl (by decide))<|nX<|ih_impl_exprMap_l1 e0 change (W (t32+1)) l _ N H h3 h2 h4 h5 h23 hg ho hx
 intro ba N;exact wW<|yZ<|hx _ _ _ _ _ (zE N).symm H h12
theorem zH7:∀e0 change r,jQ e0 change=some r->∀{I:Imm}{p c p1 c1 p2 c2}{fv:Value},(S4 I p e0.Index.Coefs c)->(S4 I p1 e0.Read.Subs c1)->(S4 I p2 e0.Kids c2)->(FV1 Tryz.prog I [] fv change)->RT 248 [vA (cExpr e0 p c p1 c1 p2 c2),fv] I [] (dA  r):=zGp.1
def dO(s:zI)(change:(zA->Option zA)):Option (zI):=do
 let y<-jN s.Write change;let y1<-jQ s.Value change;pure (zI.mk y y1)
theorem zH8:∀s change r,dO s change=some r->∀{I:Imm}{p c p1 c1 p2 c2 p3 c3}{fv:Value},(S4 I p s.Write.Subs c)->(S4 I p1 s.Value.Index.Coefs c1)->(S4 I p2 s.Value.Read.Subs c2)->(S4 I p3 s.Value.Kids c3)->(FV1 Tryz.prog I [] fv change)->RT 221 [vA (cStmt s p c p1 c1 p2 c2 p3 c3),fv] I [] (jF  r):=by
 intro s change r N I p c p1 c1 p2 c2 p3 c3 fv h h1 h2 h3 h4;unfold dO at N;refine yM func221 λB=>?_;have H:=iS I;refine yD<|vC (cStmt s p c p1 c1 p2 c2 p3 c3) ?_;intro b hb;refine xY [vT ([]),z0,vI 0,vI 0,z0,vI 0,vT ([]),z0,z0] ?_;intro b1 hb1;refine zY rfl<|zK<|yC ?_;obtain⟨y,hy,N⟩:=zB N;obtain⟨y1,az,N⟩:=zB N;refine wP [.p (vP b 0) [],.p (vA (cAccess s.Write p c)) [1],.p fv [],.x (eVAccess y),.p (vP b 2) [],.p (vA (cExpr s.Value p1 c1 p2 c2 p3 c3)) [1],.p fv [],.x (eVExpr y1),.x (λI' v hx=>∃p41 c41 p51 c51 p61 c61 p71 c71,v=vA [vT y.Array.l,vS p41 y.Subs c41,vI y1.Kind,vI y1.Num,vS p51 y1.Index.Coefs c51,vI y1.Index.Const,vT y1.Read.Array.l,vS p61 y1.Read.Subs c61,vS p71 y1.Kids c71]/\hx=[]/\(S4 I' p41 y.Subs c41)/\(S4 I' p51 y1.Index.Coefs c51)/\(S4 I' p61 y1.Read.Subs c61)/\(S4 I' p71 y1.Kids c71))] [[],[(0,false)],[],[(1,false),(2,false)],[],[(4,false)],[],[(5,false),(6,false)],[(3,false),(7,false)]] [hB b1 [vT ([]),z0,vI 0,vI 0,z0,vI 0,vT ([]),z0,z0],hB b (cStmt s p c p1 c1 p2 c2 p3 c3)] [] [(8,false)] (zZ [0,1]) ?_ ?_
 ·refine O3<|Ox ?_<|O3<|Ox ?_<|Ox ?_<|On
  ·intro I1 hf aa;refine yW [6,7] rfl ?_;have H:=iS I1;have ⟨h4,h⟩:=m2 aa h4 h;refine xK (zCF s.Write change _ hy h h4) ?_;rintro I0 ax v2 k2 le - ⟨v0,rfl,rfl,⟨cs,rfl,h5⟩⟩ -;have H:=H.trans le;obtain⟨p4,c4,rfl,h6⟩:=rF h5;exact yN [] H ⟨_,_,rfl,rfl,h6⟩
  ·intro I1 hf aa;refine yW [10,11] rfl ?_;have H:=iS I1;have ⟨h4,h1,h2,h3⟩:=m4 aa h4 h1 h2 h3;refine xK (zH7 s.Value change _ az h1 h2 h3 h4) ?_;rintro aP ax v2 k2 aa - ⟨v02,rfl,rfl,⟨au,rfl,h7⟩⟩ -;have H:=H.trans aa;obtain⟨p5,c5,p6,c6,p7,c7,rfl,h8,h9,h10⟩:=wT h7;exact yN [] H ⟨_,_,_,_,_,_,rfl,rfl,h8,h9,h10⟩
  rintro I1 hf aa _ _ ⟨p4,c4,rfl,rfl,h6⟩ _ _ ⟨p5,c5,p6,c6,p7,c7,rfl,rfl,h8,h9,h10⟩;exact yW [8,12] rfl<|oN 9 [(13,vA [vT y.Array.l,vS p4 y.Subs c4,vI y1.Kind,vI y1.Num,vS p5 y1.Index.Coefs c5,vI y1.Index.Const,vT y1.Read.Array.l,vS p6 y1.Read.Subs c6,vS p7 y1.Kids c7])]<|yN [] iR ⟨_,_,_,_,_,_,_,_,rfl,rfl,h6,h8,h9,h10⟩
 rintro aW aC _ _ ⟨p41,c41,p51,c51,p61,c61,p71,c71,rfl,rfl,h61,h81,h91,h101⟩;refine yW [4,13] rfl ?_;refine xC 0 [vT y.Array.l,vS p41 y.Subs c41,vI y1.Kind,vI y1.Num,vS p51 y1.Index.Coefs c51,vI y1.Index.Const,vT y1.Read.Array.l,vS p61 y1.Read.Subs c61,vS p71 y1.Kids c71] rfl<|zY rfl<|zK<|xD ?_;exact xX N (resC 0 rfl rfl) zO ⟨_,rfl,rfl,⟨_,rfl,(wG ⟨_,_,_,_,rfl,h61,h81,h91,h101⟩)⟩⟩
def dP(s:zI):Option (zI):=do
 let y<-dO s oJ;pure (id y)
theorem zH9:∀s r,dP s=some r->∀{I:Imm}{p c p1 c1 p2 c2 p3 c3},(S4 I p s.Write.Subs c)->(S4 I p1 s.Value.Index.Coefs c1)->(S4 I p2 s.Value.Read.Subs c2)->(S4 I p3 s.Value.Kids c3)->RT 179 [vA (cStmt s p c p1 c1 p2 c2 p3 c3)] I [] (jF  r):=by
 intro s r N I p c p1 c1 p2 c2 p3 c3 h h1 h2 h3;unfold dP at N;refine yM func179 λB=>yD<|vC (cStmt s p c p1 c1 p2 c2 p3 c3) ?_;intro b hb;refine xY [vT ([]),z0,vI 0,vI 0,z0,vI 0,vT ([]),z0,z0] ?_;intro b1 hb1;refine zY rfl<|yY<|uW 1 [1] [(3,vA (cStmt s p c p1 c1 p2 c2 p3 c3))] ?_;have hf0:FV1 Tryz.prog I [] (.func (.func 141) ⟨[]⟩ ⟨[]⟩) oJ:=by
  refine FV1.intro ?_;intro I1 aa x0 r u0 hF k0;obtain⟨_,rfl,k0⟩:=k0;obtain⟨p4,c4,rfl,h4⟩:=yI k0;exact(zCE x0 r hF h4).mono (by rintro k i hs u ⟨v0,rfl,rfl,h⟩;exact⟨rfl,h⟩)
 obtain⟨y,hy,N⟩:=zB N;refine xK (zH8 s oJ _ hy h h1 h2 h3 hf0) ?_;rintro I0 ax v2 k2 le - ⟨v01,rfl,rfl,⟨cs,rfl,h5⟩⟩ -;obtain⟨p5,c5,p6,c6,p7,c7,p8,c8,rfl,h6,h7,h8,h9⟩:=vG h5;refine xC 0 (cStmt y p5 c5 p6 c6 p7 c7 p8 c8) rfl<|zY rfl<|zK<|xD ?_;exact xX N (resC 0 rfl rfl) zO ⟨_,rfl,rfl,⟨_,rfl,(wG ⟨_,_,_,_,rfl,h6,h7,h8,h9⟩)⟩⟩
def zFt(r:zF):KT:=λkk I' ag v=>
 ∃a0_0 c0_0 a0_1 c0_1 s0_1,ag=[.osl (.slice a0_1 r.Body.length c0_1) (Rp.sz zI) s0_1]/\v=tupV [(.agg ⟨[.slice a0_0 r.Nest.length c0_0,.slice a0_1 r.Body.length c0_1]⟩)]/\SL I' (.slice a0_0 r.Nest.length c0_0) r.Nest/\RepL (Rp.rep I') (Rp.sz zI) s0_1 r.Body
def oV(p:zF)(t13:Int)(Body:List zI):Option (List zI):=do
 if(decide (t13<(p.Body.length:Int))) then
  let x<-idx p.Body t13;let y1<-dP x;let l<-app 152 Body ([y1]:List zI);oV p (W (t13+1)) l
 else pure (id Body)
 partial_fixpoint
theorem zFL(p:zF):∀(t13:Int) (Body:List zI) (o:List zI),oV p t13 Body=some o->∀{B}{I0 I:Imm}{Q}{y:(List zG)}{p2 c1}{b1}{p3 c2}{b2}{p4 c3 cs},I0.le I->(S4 I p2 p.Body c1)->(S4 I p3 y c2)->(RL I cs Body)->NG Q->NO Q->(∀I' bb p5 c4 au,o=bb->I0.le I'->(RL I' au bb)->T 26 B Q (.exit 0) I' [hO zI (vS p5 bb c4) au,hB b2 [vS p3 y c2,vS p5 bb c4],hB b1 zTwo] [(2,vP b1 0),(3,vP b2 0)])->J Tryz.prog 26 B (nav (bodyOf f139) [1,1,0,1,0]) Q I [hO zI (vS p4 Body c3) cs,hB b2 [vS p3 y c2,vS p4 Body c3],hB b1 zTwo] [(2,vP b1 0),(3,vP b2 0),(11,vS p2 p.Body c1),(12,vI (p.Body.length:Int)),(13,vI t13)]:=by
 refine oV.partial_correctness p _ λaJ ih t13 Body o N B I0 I Q y p2 c1 b1 p3 c2 b2 p4 c3 cs H h1 h2 h4 hg ho hx=>yX hg ho<|yK [14] rfl<|yA<|yH N ?_ ?_
 ·intro hc N;refine zT<|yA<|yL<|yD<|bE N λx az N=>xW rfl rfl h1 az ?_;intro ad aN aq am;obtain⟨p6,c5,p7,c6,p8,c7,p9,c8,rfl,h6,h7,h8,h9⟩:=vG am;refine xM 0 aq (cStmt x p6 c5 p7 c6 p8 c7 p9 c8) (vA (cStmt x p6 c5 p7 c6 p8 c7 p9 c8)) rfl<|xY [vT ([]),z0,vI 0,vI 0,z0,vI 0,vT ([]),z0,z0] ?_;intro b3 hb3;refine xC 0 (cStmt x p6 c5 p7 c6 p8 c7 p9 c8) rfl<|zY rfl<|zK ?_;obtain⟨y1,aG,N⟩:=zB N;obtain⟨l,bh,N⟩:=zB N;refine wP [.p (vP b2 1) [],.p (vS p4 Body c3) [1],.p (vA (cStmt x p6 c5 p7 c6 p8 c7 p9 c8)) [0],.x (eVStmt y1),.x (λI' v hx=>∃b4,v=vS (some ⟨b4,0,none⟩) ([y1]:List zI) 1/\hx=[]/\(SL I' (vS (some ⟨b4,0,none⟩) ([y1]:List zI) 1) ([y1]:List zI))),.x (λI' v hx=>∃p14 bd aM,v=vS p14 l bd/\hx=[hO zI (vS p14 l bd) aM]/\(RL I' aM l))] [[],[(0,false)],[],[(2,false)],[(3,false)],[(1,false),(4,false),(8,true)]] [hB b3 (cStmt x p6 c5 p7 c6 p8 c7 p9 c8),hB b2 [vS p3 y c2,vS p4 Body c3],hB b1 zTwo] [[hO zI (vS p4 Body c3) cs]] [(5,true)] (zZ [0,2,3,1]) ?_ ?_
  ·refine O3<|Ox ?_<|Ox ?_<|Ox ?_<|On
   ·intro I1 hf aa;refine yW [19] rfl ?_;have H:=iS I1;have ⟨h6,h7,h8,h9⟩:=m4 aa h6 h7 h8 h9;refine xK (zH9 x _ aG h6 h7 h8 h9) ?_;rintro aP ax v2 k2 aa - ⟨v05,rfl,rfl,⟨aR,rfl,h10⟩⟩ -;have H:=H.trans aa;obtain⟨aL,c9,aF,aO,bj,aQ,bc,aZ,rfl,h11,h12,h13,h14⟩:=vG h10;exact yN [] H ⟨_,_,_,_,_,_,_,_,rfl,rfl,h11,h12,h13,h14⟩
   ·rintro I1 hf aa _ _ ⟨aL,c9,aF,aO,bj,aQ,bc,aZ,rfl,rfl,h11,h12,h13,h14⟩;refine yW [20] rfl ?_;have H:=iS I1;refine mH (rc y1 (wG ⟨_,_,_,_,rfl,h11,h12,h13,h14⟩) rN) ?_;intro b4 aW aC h16;have H:=H.trans aC;exact yN [] H ⟨_,rfl,rfl,h16⟩
   rintro I1 hf aa _ _ ⟨rfl,rfl⟩ _ _ ⟨b4,rfl,rfl,h16⟩ _ _ rfl;refine yW [18,21] rfl ?_;have h4:=iM aa h4;obtain⟨bq,k0,k01⟩:=h16;have h16:SL I1 (vS (some ⟨b4,0,none⟩) ([y1]:List zI) 1) ([y1]:List zI):=⟨_,k0,k01⟩;exact sW 100 9 0 rfl rfl rfl h4 (.inl k0) k01 bh λp14 bd aM h17=>wY (ag:=(hO zI (vS p14 l bd) aM::hB b3 (cStmt x p6 c5 p7 c6 p8 c7 p9 c8)::hB b2 [vS p3 y c2,vS p4 Body c3]::hB b1 zTwo::hf)) rfl<|yN [hO zI (vS p14 l bd) aM] iR ⟨_,_,_,rfl,rfl,h17⟩
  rintro bx aI _ _ ⟨p14,bd,aM,rfl,rfl,h17⟩;refine yW [2,3,11,12,13,22] rfl ?_;have ⟨h1,h2,H⟩:=m3 aI h1 h2 H;exact yG 7 [] [23] rfl<|xC 2 [vS p3 y c2,vS p14 l bd] rfl<|zY rfl<|zN<|zK<|zL<|yQ [] [13] rfl<|yV<|qZ (zX [0,2,3] rfl (by decide))<|nX<|ih (W (t13+1)) l _ N H h1 h2 h17 hg ho hx
 intro hc N;exact wW<|yZ<|hx _ _ _ _ _ (zE N).symm H h4
def dQ(p:zF):Option (zF):=do
 let y<-fU p.Nest;let bb<-oV p 0 ([]:List zI);pure (zF.mk y bb)
theorem zD1:∀p r,dQ p=some r->∀{I:Imm}{p1 c p2 c1},(S4 I p1 p.Nest c)->(S4 I p2 p.Body c1)->RT 139 [vA (cPart p p1 c p2 c1)] I [] (zFt  r):=by
 intro p r N I p1 c p2 c1 h h1;unfold dQ at N;refine yM func139 λB=>yD<|vC (cPart p p1 c p2 c1) ?_;intro b hb;refine xY zTwo ?_;intro b1 hb1;refine zY rfl<|yY<|yG 2 [1] [7] rfl<|bE N λy hy N=>xK (zD0 p.Nest _ hy h) ?_;rintro I0 ax v2 k2 le - ⟨v0,rfl,rfl,h2⟩ -;have ⟨h,h1⟩:=m2 le h h1;obtain⟨p3,c2,rfl⟩:=h2.form;refine yG 4 [] [9] rfl<|xY zTwo ?_;intro b2 hb2;refine xC 0 [vS p3 y c2,z0] rfl<|zY rfl<|yA<|yD<|yQ [2] [11,12,13] rfl<|wN<|qZ (zZ [0,1] (ag:=[hB b2 [vS p3 y c2,z0],hB b1 zTwo]))<|qX [(2,vP b1 0),(3,vP b2 0),(11,vS p2 p.Body c1),(12,vI (p.Body.length:Int)),(13,vI 0)]<|zA6 zI λh3=>?_;obtain⟨o0,aA,aE⟩:=zB N;refine zFL p 0 ([]:List zI) o0 aA iR h1 h2 h3 nG nO ?_;intro bG bb p5 c4 au heq aY h5;subst o0;have h2:=h2.mono aY;refine zS<|yY<|uW 1 [1] [(25,vA [vS p3 y c2,vS p5 bb c4])]<|xC 2 [vS p3 y c2,vS p5 bb c4] rfl<|zY rfl<|zK<|xD ?_;exact xX aE (resC 2 rfl rfl) (zX [0] rfl (by decide)) ⟨_,_,_,_,_,rfl,rfl,h2,h5⟩
def zAs(r:zC):KT:=λkk I' ag v=>
 ∃v0,ag=[]/\v=tupV [v0]/\(∃cs,v0=.agg ⟨cs⟩/\Rp.rep I' cs r)
def rV(p:zC)(t11:Int)(Arrays:List zD):Option (List zD):=do
 if(decide (t11<(p.Arrays.length:Int))) then
  let x<-idx p.Arrays t11;let y<-uH x.Dims;let l<-app 40 Arrays ([(zD.mk x.Name y)]:List zD);rV p (W (t11+1)) l
 else pure (id Arrays)
 partial_fixpoint
theorem zAj(p:zC):∀(t11:Int) (Arrays:List zD) (o:List zD),rV p t11 Arrays=some o->∀{B}{I0 I:Imm}{Q p1 c p2 c1}{b b1 b2}{p3 c2 cs},I0.le I->(S4 I p1 p.Arrays c)->(S4 I p2 p.Parts c1)->(RL I cs Arrays)->NG Q->NO Q->(∀I' ai p4 c3 au,o=ai->I0.le I'->(RL I' au ai)->T 43 B Q (.exit 0) I' [hO zD (vS p4 ai c3) au,hB b2 [vS p4 ai c3,z0],hB b1 zTwo,hB b (cProg p p1 c p2 c1)] [(1,vP b 0),(2,vP b1 0),(3,vP b2 0)])->J Tryz.prog 43 B (nav (bodyOf f93) [1,1,0,1,0]) Q I [hO zD (vS p3 Arrays c2) cs,hB b2 [vS p3 Arrays c2,z0],hB b1 zTwo,hB b (cProg p p1 c p2 c1)] [(1,vP b 0),(2,vP b1 0),(3,vP b2 0),(9,vS p1 p.Arrays c),(10,vI (p.Arrays.length:Int)),(11,vI t11)]:=by
 refine rV.partial_correctness p _ λaJ ih t11 Arrays o N B I0 I Q p1 c p2 c1 b b1 b2 p3 c2 cs H h h1 h3 hg ho hx=>yX hg ho<|yK [12] rfl<|yA<|yH N ?_ ?_
 ·intro hc N;refine zT<|yA<|yL<|yD<|bE N λx hy N=>xW rfl rfl h hy ?_;intro ad aN aq am;obtain⟨p5,c4,rfl,h5⟩:=wH am;refine xM 0 aq (cArr x p5 c4) (vA (cArr x p5 c4)) rfl<|xY [vT ([]),z0] ?_;intro b3 hb3;refine xC 0 (cArr x p5 c4) rfl<|zY rfl<|zK ?_;obtain⟨y,az,N⟩:=zB N;obtain⟨l,aG,N⟩:=zB N;refine wP [.p (vP b2 0) [],.p (vS p3 Arrays c2) [1],.p (vP b3 0) [],.p (vT x.Name.l) [0],.p (vP b3 1) [],.p (vS p5 x.Dims c4) [0],.x (λI' v hx=>∃p6 c5 aR,v=vS p6 y c5/\hx=[hO Int (vS p6 y c5) aR]/\(RL I' aR y)),.x (λI' v hx=>∃p61 c51 cs21,v=vA [vT x.Name.l,vS p61 y c51]/\hx=[hO Int (vS p61 y c51) cs21]/\(RL I' cs21 y)),.x (λI' v hx=>∃b4,v=vS (some ⟨b4,0,none⟩) ([(zD.mk x.Name y)]:List zD) 1/\hx=[]/\(SL I' (vS (some ⟨b4,0,none⟩) ([(zD.mk x.Name y)]:List zD) 1) ([(zD.mk x.Name y)]:List zD))),.x (λI' v hx=>∃p7 c6 aM,v=vS p7 l c6/\hx=[hO zD (vS p7 l c6) aM]/\(RL I' aM l))] [[],[(0,false)],[],[(2,false)],[],[(4,false)],[(5,false)],[(3,false),(6,true)],[(7,true)],[(1,false),(8,false),(12,true)]] [hB b3 (cArr x p5 c4),hB b2 [vS p3 Arrays c2,z0],hB b1 zTwo,hB b (cProg p p1 c p2 c1)] [[hO zD (vS p3 Arrays c2) cs]] [(9,true)] (zZ [0,2,3,4,1]) ?_ ?_
  ·refine O4<|O2<|Ox ?_<|Ox ?_<|Ox ?_<|Ox ?_<|On
   ·intro I1 hf aa;refine yW [20] rfl ?_;have H:=iS I1;have h5:=h5.mono aa;refine xK (oI x.Dims _ az h5) ?_;rintro I0 ax v2 k2 le - ⟨p6,c5,aR,rfl,rfl,h6⟩ -;have H:=H.trans le;exact yN [hO Int (vS p6 y c5) aR] H ⟨_,_,_,rfl,rfl,h6⟩
   ·rintro I1 hf aa _ _ ⟨rfl,rfl⟩ _ _ ⟨p6,c5,aR,rfl,rfl,h6⟩;exact yW [18,21] rfl<|oN 8 [(22,vA [vT x.Name.l,vS p6 y c5])]<|yN [hO Int (vS p6 y c5) aR] iR ⟨_,_,_,rfl,rfl,h6⟩
   ·rintro I1 hf aa _ _ ⟨p61,c51,cs21,rfl,rfl,h61⟩;refine yW [22] rfl ?_;have H:=iS I1;refine xV 0 rfl ?_;intro aP aa hl0;have h7:=SL.of_frozen hl0 aa h61;have H:=H.trans aa;refine mH (rc (zD.mk x.Name y) (uP ⟨_,rfl,h7⟩) rN) ?_;intro b4 aW aC h9;have H:=H.trans aC;exact yN [] H ⟨_,rfl,rfl,h9⟩
   rintro I1 hf aa _ _ ⟨rfl,rfl⟩ _ _ ⟨b4,rfl,rfl,h9⟩ _ _ rfl;refine yW [16,23] rfl ?_;have h3:=iM aa h3;obtain⟨bq,k0,k01⟩:=h9;have h9:SL I1 (vS (some ⟨b4,0,none⟩) ([(zD.mk x.Name y)]:List zD) 1) ([(zD.mk x.Name y)]:List zD):=⟨_,k0,k01⟩;exact sW 107 2 0 rfl rfl rfl h3 (.inl k0) k01 aG λp7 c6 aM h10=>wY (ag:=(hO zD (vS p7 l c6) aM::hB b3 (cArr x p5 c4)::hB b2 [vS p3 Arrays c2,z0]::hB b1 zTwo::hB b (cProg p p1 c p2 c1)::hf)) rfl<|yN [hO zD (vS p7 l c6) aM] iR ⟨_,_,_,rfl,rfl,h10⟩
  rintro bx aI _ _ ⟨p7,c6,aM,rfl,rfl,h10⟩;refine yW [1,2,3,9,10,11,24] rfl ?_;have ⟨h,h1,H⟩:=m3 aI h h1 H;exact yG 11 [] [25] rfl<|xC 2 [vS p7 l c6,z0] rfl<|zY rfl<|zN<|zK<|zL<|yQ [] [11] rfl<|yV<|qZ (zX [0,2,3,4] rfl (by decide))<|nX<|ih (W (t11+1)) l _ N H h h1 h10 hg ho hx
 intro hc N;exact wW<|yZ<|hx _ _ _ _ _ (zE N).symm H h3
def uY(p:zC)(t30:Int)(Parts:List zF):Option (List zF):=do
 if(decide (t30<(p.Parts.length:Int))) then
  let x1<-idx p.Parts t30;let y1<-dQ x1;let l1<-app 48 Parts ([y1]:List zF);uY p (W (t30+1)) l1
 else pure (id Parts)
 partial_fixpoint
theorem zDF(p:zC):∀(t30:Int) (Parts:List zF) (o:List zF),uY p t30 Parts=some o->∀{B}{I0 I:Imm}{Q}{ai:List zD}{p2 c1}{b1 b2}{p4 c3 au p8 c7 bt},I0.le I->(S4 I p2 p.Parts c1)->(RL I au ai)->(RL I bt Parts)->NG Q->NO Q->(∀I' aS p9 c8 bz,o=aS->I0.le I'->(RL I' bz aS)->T 43 B Q (.exit 2) I' [hO zF (vS p9 aS c8) bz,hO zD (vS p4 ai c3) au,hB b2 [vS p4 ai c3,vS p9 aS c8],hB b1 zTwo] [(2,vP b1 0),(3,vP b2 0)])->J Tryz.prog 43 B (nav (bodyOf f93) [1,1,1,0,1,0]) Q I [hO zF (vS p8 Parts c7) bt,hO zD (vS p4 ai c3) au,hB b2 [vS p4 ai c3,vS p8 Parts c7],hB b1 zTwo] [(2,vP b1 0),(3,vP b2 0),(28,vS p2 p.Parts c1),(29,vI (p.Parts.length:Int)),(30,vI t30)]:=by
 refine uY.partial_correctness p _ λaJ ih t30 Parts o N B I0 I Q ai p2 c1 b1 b2 p4 c3 au p8 c7 bt H h1 h4 h12 hg ho hx=>yX hg ho<|yK [31] rfl<|yA<|yH N ?_ ?_
 ·intro aH N;refine zT<|yA<|yL<|yD<|bE N λx1 bh N=>xW rfl rfl h1 bh ?_;intro ad1 bL aw ay;obtain⟨aL,c9,aF,aO,rfl,h14,h15⟩:=wI ay;refine xM 0 aw (cPart x1 aL c9 aF aO) (vA (cPart x1 aL c9 aF aO)) rfl<|xY zTwo ?_;intro b5 hb5;refine xC 0 (cPart x1 aL c9 aF aO) rfl<|zY rfl<|zK ?_;obtain⟨y1,bu,N⟩:=zB N;obtain⟨l1,bC,N⟩:=zB N;refine wP [.p (vP b2 1) [],.p (vS p8 Parts c7) [2],.p (vA (cPart x1 aL c9 aF aO)) [0],.x (λI' v hx=>∃bj aQ bc aZ cs6,v=vA (cPart y1 bj aQ bc aZ)/\hx=[hO zI (vS bc y1.Body aZ) cs6]/\(S4 I' bj y1.Nest aQ)/\(RL I' cs6 y1.Body)),.x (λI' v hx=>∃b6,v=vS (some ⟨b6,0,none⟩) ([y1]:List zF) 1/\hx=[]/\(SL I' (vS (some ⟨b6,0,none⟩) ([y1]:List zF) 1) ([y1]:List zF))),.x (λI' v hx=>∃p14 bd cs7,v=vS p14 l1 bd/\hx=[hO zF (vS p14 l1 bd) cs7]/\(RL I' cs7 l1))] [[],[(0,false)],[],[(2,false)],[(3,true)],[(1,false),(4,false),(8,true)]] [hB b5 (cPart x1 aL c9 aF aO),hO zD (vS p4 ai c3) au,hB b2 [vS p4 ai c3,vS p8 Parts c7],hB b1 zTwo] [[hO zF (vS p8 Parts c7) bt]] [(5,true)] (zZ [0,2,3,4,1]) ?_ ?_
  ·refine O3<|Ox ?_<|Ox ?_<|Ox ?_<|On
   ·intro I1 hf aa;refine yW [36] rfl ?_;have H:=iS I1;have ⟨h14,h15⟩:=m2 aa h14 h15;refine xK (zD1 x1 _ bu h14 h15) ?_;rintro bK ax v2 k2 bo - ⟨bj,aQ,bc,aZ,cs6,rfl,rfl,h16,h17⟩ -;have H:=H.trans bo;exact yN [hO zI (vS bc y1.Body aZ) cs6] H ⟨_,_,_,_,_,rfl,rfl,h16,h17⟩
   ·rintro I1 hf aa _ _ ⟨bj,aQ,bc,aZ,cs6,rfl,rfl,h16,h17⟩;refine yW [37] rfl ?_;have H:=iS I1;refine xV 0 rfl ?_;intro I06 bv hl02;have h18:=SL.of_frozen hl02 bv h17;have ⟨h16,H⟩:=m2 bv h16 H;refine mH (rc y1 (wU ⟨_,_,rfl,h16,h18⟩) rN) ?_;intro b6 I07 le7 h20;have H:=H.trans le7;exact yN [] H ⟨_,rfl,rfl,h20⟩
   rintro I1 hf aa _ _ ⟨rfl,rfl⟩ _ _ ⟨b6,rfl,rfl,h20⟩ _ _ rfl;refine yW [35,38] rfl ?_;have h12:=iM aa h12;obtain⟨ccs3,k02,k03⟩:=h20;have h20:SL I1 (vS (some ⟨b6,0,none⟩) ([y1]:List zF) 1) ([y1]:List zF):=⟨_,k02,k03⟩;exact sW 47 2 0 rfl rfl rfl h12 (.inl k02) k03 bC λp14 bd cs7 h21=>wY (ag:=(hO zF (vS p14 l1 bd) cs7::hB b5 (cPart x1 aL c9 aF aO)::hO zD (vS p4 ai c3) au::hB b2 [vS p4 ai c3,vS p8 Parts c7]::hB b1 zTwo::hf)) rfl<|yN [hO zF (vS p14 l1 bd) cs7] iR ⟨_,_,_,rfl,rfl,h21⟩
  rintro I08 le8 _ _ ⟨p14,bd,cs7,rfl,rfl,h21⟩;refine yW [2,3,28,29,30,39] rfl ?_;have ⟨h1,h4,H⟩:=m3 le8 h1 h4 H;exact yG 7 [] [40] rfl<|xC 3 [vS p4 ai c3,vS p14 l1 bd] rfl<|zY rfl<|zN<|zK<|zL<|yQ [] [30] rfl<|yV<|qZ (zX [0,2,3,4] rfl (by decide))<|nX<|ih (W (t30+1)) l1 _ N H h1 h4 h21 hg ho hx
 intro aH N;exact wW<|yZ<|hx _ _ _ _ _ (zE N).symm H h12
def qF(p:zC):Option (zC):=do
 let ai<-rV p 0 ([]:List zD);let aS<-uY p 0 ([]:List zF);pure (zC.mk ai aS)
theorem zE6:∀p r,qF p=some r->∀{I:Imm}{p1 c p2 c1},(S4 I p1 p.Arrays c)->(S4 I p2 p.Parts c1)->RT 93 [vA (cProg p p1 c p2 c1)] I [] (zAs  r):=by
 intro p r N I p1 c p2 c1 h h1;unfold qF at N;refine yM func93 λB=>yD<|vC (cProg p p1 c p2 c1) ?_;intro b hb;refine xY zTwo ?_;intro b1 hb1;refine zY rfl<|yY<|xY zTwo ?_;intro b2 hb2;refine zY rfl<|yA<|yD<|yQ [2] [9,10,11] rfl<|wN<|qX [(1,vP b 0),(2,vP b1 0),(3,vP b2 0),(9,vS p1 p.Arrays c),(10,vI (p.Arrays.length:Int)),(11,vI 0)]<|zA6 zD λh2=>?_;obtain⟨o0,aA,aE⟩:=zB N;refine zAj p 0 ([]:List zD) o0 aA iR h h1 h2 nG nO ?_;intro bG ai p4 c3 au heq aY h4;subst o0;have ⟨h,h1⟩:=m2 aY h h1;refine zS<|yA<|yD<|yQ [3] [28,29,30] rfl<|wN<|qZ (zZ [0,1,2] (ag:=[hO zD (vS p4 ai c3) au,hB b2 [vS p4 ai c3,z0],hB b1 zTwo]))<|qX [(2,vP b1 0),(3,vP b2 0),(28,vS p2 p.Parts c1),(29,vI (p.Parts.length:Int)),(30,vI 0)]<|zA6 zF λh11=>?_;obtain⟨aU,aB,hMl1⟩:=zB aE;refine zDF p 0 ([]:List zF) aU aB iR h1 h4 h11 nG nO ?_;intro I09 aS p9 c8 bz heq1 le9 h13;subst aU;have h4:=iM le9 h4;refine zS<|yY<|uW 1 [2] [(42,vA [vS p4 ai c3,vS p9 aS c8])]<|xC 3 [vS p4 ai c3,vS p9 aS c8] rfl<|zY rfl<|xH<|xB 1 rfl ?_;intro bN le10 hl04;have h22:=SL.of_frozen hl04 le10 h4;have h13:=iM le10 h13;refine xB 0 rfl ?_;intro bS le11 hl05;have h23:=SL.of_frozen hl05 le11 h13;have h22:=h22.mono le11;exact xX hMl1 (resC 1 rfl rfl) zO ⟨_,rfl,rfl,⟨_,rfl,(xJ ⟨_,_,rfl,h22,h23⟩)⟩⟩
theorem zCf(p:zC):∀(t30:Int) (Parts:List zF) (o:List zF),uY p t30 Parts=some o->∀{B}{I0 I:Imm}{Q}{ai:List zD}{p2 c1}{b1 b2}{p4 c3 au p8 c7 bt}{xs:List NB},I0.le I->(S4 I p2 p.Parts c1)->(RL I au ai)->Parts=xs.map NB.a->(∀x∈xs,x.ok I)->(RL I bt (xs.map NB.raw))->NG Q->NO Q->(∀I' xs1 p9 c8 bz,o=xs1.map NB.a->I0.le I'->(RL I' au ai)->(∀x∈xs1,x.ok I')->(RL I' bz (xs1.map NB.raw))->T 43 B Q (.exit 2) I' (hO Raw2 (vS p9 (xs1.map NB.raw) c8) bz::hO zD (vS p4 ai c3) au::hB b2 [vS p4 ai c3,vS p9 (xs1.map NB.raw) c8]::hB b1 zTwo::NBs xs1) [(2,vP b1 0),(3,vP b2 0)])->J Tryz.prog 43 B (nav (bodyOf f93) [1,1,1,0,1,0]) Q I (hO Raw2 (vS p8 (xs.map NB.raw) c7) bt::hO zD (vS p4 ai c3) au::hB b2 [vS p4 ai c3,vS p8 (xs.map NB.raw) c7]::hB b1 zTwo::NBs xs) [(2,vP b1 0),(3,vP b2 0),(28,vS p2 p.Parts c1),(29,vI (p.Parts.length:Int)),(30,vI t30)]:=by
 refine uY.partial_correctness p _ λaJ ih t30 Parts o N B I0 I Q ai p2 c1 b1 b2 p4 c3 au p8 c7 bt xs H h1 h4 hA bW h12 hg ho hx=>yX hg ho<|yK [31] rfl<|yA<|yH N ?_ ?_
 ·intro aH N;refine zT<|yA<|yL<|yD<|bE N λx1 bh N=>xW rfl rfl h1 bh ?_;intro ad1 bL aw ay;obtain⟨aL,c9,aF,aO,rfl,h14,h15⟩:=wI ay;refine xM 0 aw (cPart x1 aL c9 aF aO) (vA (cPart x1 aL c9 aF aO)) rfl<|xY zTwo ?_;intro b5 hb5;refine jV 0 (cPart x1 aL c9 aF aO) (hB b5 (cPart x1 aL c9 aF aO)::hO Raw2 (vS p8 (xs.map NB.raw) c7) bt::hO zD (vS p4 ai c3) au::hB b2 [vS p4 ai c3,vS p8 (xs.map NB.raw) c7]::hB b1 zTwo::NBs xs) rfl rfl rfl rfl<|zY rfl<|zK ?_;obtain⟨y1,bu,N⟩:=zB N;obtain⟨l1,bC,N⟩:=zB N;refine zPD (hs:=[hB b5 (cPart x1 aL c9 aF aO),hO Raw2 (vS p8 (xs.map NB.raw) c7) bt,hO zD (vS p4 ai c3) au,hB b2 [vS p4 ai c3,vS p8 (xs.map NB.raw) c7],hB b1 zTwo]) (L:=NBs xs) .normal (λI' ag m'=>∃p14 bd cs7 pn cn pq cq csq,ag=[hO zI (vS pq y1.Body cq) csq,hO Raw2 (vS p14 (xs.map NB.raw++[(⟨vS pn y1.Nest cn,vS pq y1.Body cq⟩:Raw2)]) bd) cs7,hO zD (vS p4 ai c3) au,hB b2 [vS p4 ai c3,vS p14 (xs.map NB.raw++[(⟨vS pn y1.Nest cn,vS pq y1.Body cq⟩:Raw2)]) bd],hB b1 zTwo]/\m'=[(2,vP b1 0),(3,vP b2 0),(28,vS p2 p.Parts c1),(29,vI (p.Parts.length:Int)),(30,vI t30)]/\RL I' cs7 (xs.map NB.raw++[(⟨vS pn y1.Nest cn,vS pq y1.Body cq⟩:Raw2)])/\SL I' (vS pn y1.Nest cn) y1.Nest/\RL I' csq y1.Body) (λB0=>?_) ?_
  ·refine wP [.p (vP b2 1) [],.p (vS p8 (xs.map NB.raw) c7) [2],.p (vA (cPart x1 aL c9 aF aO)) [0],.x (λI' v hx=>∃bj aQ bc aZ cs6,v=vA (cPart y1 bj aQ bc aZ)/\hx=[hO zI (vS bc y1.Body aZ) cs6]/\(S4 I' bj y1.Nest aQ)/\(RL I' cs6 y1.Body)),.x (λI' v hx=>∃b6 pn cn pq cq csq,v=vS (some ⟨b6,0,none⟩) ([⟨vS pn y1.Nest cn,vS pq y1.Body cq⟩]:List Raw2) 1/\hx=[hO zI (vS pq y1.Body cq) csq]/\SL I' (vS pn y1.Nest cn) y1.Nest/\RL I' csq y1.Body/\(SL I' (vS (some ⟨b6,0,none⟩) ([⟨vS pn y1.Nest cn,vS pq y1.Body cq⟩]:List Raw2) 1) ([⟨vS pn y1.Nest cn,vS pq y1.Body cq⟩]:List Raw2))),.x (λI' v hx=>∃p14 bd cs7 pn cn pq cq csq,v=vS p14 (xs.map NB.raw++[(⟨vS pn y1.Nest cn,vS pq y1.Body cq⟩:Raw2)]) bd/\hx=[hO Raw2 (vS p14 (xs.map NB.raw++[(⟨vS pn y1.Nest cn,vS pq y1.Body cq⟩:Raw2)]) bd) cs7,hO zI (vS pq y1.Body cq) csq]/\(RL I' cs7 (xs.map NB.raw++[(⟨vS pn y1.Nest cn,vS pq y1.Body cq⟩:Raw2)]))/\SL I' (vS pn y1.Nest cn) y1.Nest/\RL I' csq y1.Body)] [[],[(0,false)],[],[(2,false)],[(3,true)],[(1,false),(4,true),(8,true)]] [hB b5 (cPart x1 aL c9 aF aO),hO zD (vS p4 ai c3) au,hB b2 [vS p4 ai c3,vS p8 (xs.map NB.raw) c7],hB b1 zTwo] [[hO Raw2 (vS p8 (xs.map NB.raw) c7) bt]] [(5,true)] (zZ [0,2,3,4,1]) ?_ ?_
   ·refine O3<|Ox ?_<|Ox ?_<|Ox ?_<|On
    ·intro I1 hf aa;refine yW [36] rfl<|xK (zD1 x1 _ bu (h14.mono aa) (h15.mono aa)) ?_;rintro bK ax v2 k2 bo - ⟨bj,aQ,bc,aZ,cs6,rfl,rfl,h16,h17⟩ -;exact yN [hO zI (vS bc y1.Body aZ) cs6] bo ⟨_,_,_,_,_,rfl,rfl,h16,h17⟩
    ·rintro I1 hf aa _ _ ⟨bj,aQ,bc,aZ,cs6,rfl,rfl,h16,h17⟩;refine yW [37] rfl<|uX (cPart y1 bj aQ bc aZ) Raw2 ?_;intro b6 hb6;have h19:RL I1 (cPart y1 bj aQ bc aZ) [(⟨vS bj y1.Nest aQ,vS bc y1.Body aZ⟩:Raw2)]:=⟨(cPart y1 bj aQ bc aZ),[],rfl,rfl,⟨rfl,rfl,rfl⟩,rfl⟩;refine xV 0 rfl ?_;intro I07 le7 hl03;have h20:SL I07 (vS (some ⟨b6,0,none⟩) [(⟨vS bj y1.Nest aQ,vS bc y1.Body aZ⟩:Raw2)] 1) [(⟨vS bj y1.Nest aQ,vS bc y1.Body aZ⟩:Raw2)]:=SL.of_frozen hl03 le7 h19;exact yN [hO zI (vS bc y1.Body aZ) cs6] le7 ⟨_,_,_,_,_,_,rfl,rfl,h16.mono le7,iM le7 h17,h20⟩
    rintro I1 hf aa _ _ ⟨rfl,rfl⟩ _ _ ⟨b6,pn,cn,pq,cq,csq,rfl,rfl,hn,hq,h20⟩ _ _ rfl;refine yW [35,38] rfl ?_;have h12:=iM aa h12;obtain⟨ccs3,k02,k03⟩:=h20;refine sW (α:=Raw2) 47 2 0 rfl rfl rfl h12 (.inl k02) k03 (zHz (l':=xs.map NB.raw) (m':=[(⟨vS pn y1.Nest cn,vS pq y1.Body cq⟩:Raw2)]) bC (by rw[hA];simp) rfl) ?_;intro p14 bd cs7 h21;exact wY (ag:=(hO Raw2 (vS p14 (xs.map NB.raw++[(⟨vS pn y1.Nest cn,vS pq y1.Body cq⟩:Raw2)]) bd) cs7::hO zI (vS pq y1.Body cq) csq::hB b5 (cPart x1 aL c9 aF aO)::hO zD (vS p4 ai c3) au::hB b2 [vS p4 ai c3,vS p8 (xs.map NB.raw) c7]::hB b1 zTwo::hf)) rfl<|yN [hO Raw2 (vS p14 (xs.map NB.raw++[(⟨vS pn y1.Nest cn,vS pq y1.Body cq⟩:Raw2)]) bd) cs7,hO zI (vS pq y1.Body cq) csq] iR ⟨_,_,_,_,_,_,_,_,rfl,rfl,h21,hn,hq⟩
   rintro I08 le8 _ _ ⟨p14,bd,cs7,pn,cn,pq,cq,csq,rfl,rfl,h21,hn,hq⟩;exact uB<|zBI [(2,vP b1 0),(3,vP b2 0),(28,vS p2 p.Parts c1),(29,vI (p.Parts.length:Int)),(30,vI t30),(39,vS p14 (xs.map NB.raw++[(⟨vS pn y1.Nest cn,vS pq y1.Body cq⟩:Raw2)]) bd)]<|yG 7 [] [40] rfl<|xC 4 [vS p4 ai c3,vS p14 (xs.map NB.raw++[(⟨vS pn y1.Nest cn,vS pq y1.Body cq⟩:Raw2)]) bd] rfl<|zY rfl<|wK (zZ [1,0,3,4,5] (ag:=[hO zI (vS pq y1.Body cq) csq,hO Raw2 (vS p14 (xs.map NB.raw++[(⟨vS pn y1.Nest cn,vS pq y1.Body cq⟩:Raw2)]) bd) cs7,hO zD (vS p4 ai c3) au,hB b2 [vS p4 ai c3,vS p14 (xs.map NB.raw++[(⟨vS pn y1.Nest cn,vS pq y1.Body cq⟩:Raw2)]) bd],hB b1 zTwo]))<|T_w [(2,vP b1 0),(3,vP b2 0),(28,vS p2 p.Parts c1),(29,vI (p.Parts.length:Int)),(30,vI t30)]<|zPE ⟨_,_,_,_,_,_,_,_,rfl,rfl,h21,hn,hq⟩
  rintro I5 hs5 m5 ⟨p14,bd,cs7,pn,cn,pq,cq,csq,rfl,rfl,h21,hn,hq⟩ bo;have e1:(xs++[(⟨vS pn y1.Nest cn,y1.Nest,pq,y1.Body,cq,csq⟩:NB)]).map NB.raw=xs.map NB.raw++[(⟨vS pn y1.Nest cn,vS pq y1.Body cq⟩:Raw2)]:=by rw[List.map_append];rfl
  have e2:l1=(xs++[(⟨vS pn y1.Nest cn,y1.Nest,pq,y1.Body,cq,csq⟩:NB)]).map NB.a:=by rw[List.map_append,<- hA];exact(zBH bC).2.symm
  have e3:NBs (xs++[(⟨vS pn y1.Nest cn,y1.Nest,pq,y1.Body,cq,csq⟩:NB)])=NBs xs++[hO zI (vS pq y1.Body cq) csq]:=List.map_append ..;rw[<- e1] at h21 ⊢;refine zPC ([hO Raw2 (vS p14 ((xs++[(⟨vS pn y1.Nest cn,y1.Nest,pq,y1.Body,cq,csq⟩:NB)]).map NB.raw) bd) cs7,hO zD (vS p4 ai c3) au,hB b2 [vS p4 ai c3,vS p14 ((xs++[(⟨vS pn y1.Nest cn,y1.Nest,pq,y1.Body,cq,csq⟩:NB)]).map NB.raw) bd],hB b1 zTwo]++(NBs xs++[hO zI (vS pq y1.Body cq) csq])) (zMV _ _ _) ?_;rw[<- e3];exact zN<|zK<|zL<|yQ [] [30] rfl<|yV<|nX<|ih (W (t30+1)) l1 _ N (H.trans bo) (h1.mono bo) (iM bo h4) e2 (zOD (λx hx=>(bW x hx).mono bo) hn hq) h21 hg ho hx
 intro aH N;exact wW<|yZ<|hx _ xs _ _ _ ((zE N).symm.trans hA) H h4 bW h12
def zDG(r:zC):KT:=λkk I' ag v=>
 ∃(xs:List NB) (pa:Option Addr) (ca:Nat) (pp:Option Addr) (cp:Nat) (csp:List Value),ag=hO Raw2 (vS pp (xs.map NB.raw) cp) csp::NBs xs/\v=tupV [vA [vS pa r.Arrays ca,vS pp (xs.map NB.raw) cp]]/\SL I' (vS pa r.Arrays ca) r.Arrays/\r.Parts=xs.map NB.a/\(∀x∈xs,x.ok I')/\RL I' csp (xs.map NB.raw)
theorem zDu:∀(p:zC) r,qF p=some r->∀{I:Imm}{p1 c p2 c1},(S4 I p1 p.Arrays c)->(S4 I p2 p.Parts c1)->RT 93 [vA (cProg p p1 c p2 c1)] I [] (zDG r):=by
 intro p r N I p1 c p2 c1 h h1;unfold qF at N;refine yM func93 λB=>yD<|vC (cProg p p1 c p2 c1) ?_;intro b hb;refine xY zTwo ?_;intro b1 hb1;refine zY rfl<|yY<|xY zTwo ?_;intro b2 hb2;refine zY rfl<|yA<|yD<|yQ [2] [9,10,11] rfl<|wN<|qX [(1,vP b 0),(2,vP b1 0),(3,vP b2 0),(9,vS p1 p.Arrays c),(10,vI (p.Arrays.length:Int)),(11,vI 0)]<|zA6 zD λh2=>?_;obtain⟨o0,aA,aE⟩:=zB N;refine zAj p 0 ([]:List zD) o0 aA iR h h1 h2 nG nO ?_;intro bG ai p4 c3 au heq aY h4;subst o0;have ⟨h,h1⟩:=m2 aY h h1;refine zS<|yA<|yD<|yQ [3] [28,29,30] rfl<|wN<|qZ (zZ [0,1,2] (ag:=[hO zD (vS p4 ai c3) au,hB b2 [vS p4 ai c3,z0],hB b1 zTwo]))<|qX [(2,vP b1 0),(3,vP b2 0),(28,vS p2 p.Parts c1),(29,vI (p.Parts.length:Int)),(30,vI 0)]<|qZ (fN (Rp.sz Raw2)) ?_;obtain⟨aU,aB,hMl1⟩:=zB aE;refine zCf p 0 ([]:List zF) aU aB (xs:=[]) iR h1 h4 rfl (λ_ h=>by cases h) RepL.nil nG nO ?_;intro I08 xs p9 c8 bz heq1 le8 h5 bW h13;refine zS<|yY<|uW 1 [2] [(42,vA [vS p4 ai c3,vS p9 (xs.map NB.raw) c8])]<|jV 3 [vS p4 ai c3,vS p9 (xs.map NB.raw) c8] (hO Raw2 (vS p9 (xs.map NB.raw) c8) bz::hO zD (vS p4 ai c3) au::hB b2 [vS p4 ai c3,vS p9 (xs.map NB.raw) c8]::hB b1 [vS p4 ai c3,vS p9 (xs.map NB.raw) c8]::NBs xs) rfl rfl rfl rfl<|zY rfl<|xH<|xB 1 rfl ?_;intro I09 le9 hl03;have h22:SL I09 (vS p4 ai c3) ai:=SL.of_frozen hl03 le9 h5;have h13:=iM le9 h13;have hr:=zE hMl1;subst hr;exact zFE (resC 2 rfl rfl) (kS [hO Raw2 (vS p9 (xs.map NB.raw) c8) bz,hB b2 [vS p4 ai c3,vS p9 (xs.map NB.raw) c8],hB b1 [vS p4 ai c3,vS p9 (xs.map NB.raw) c8]] (NBs xs) [0] rfl (by decide)) ⟨xs,_,_,_,_,_,rfl,rfl,h22,heq1,(λx hx=>(bW x hx).mono le9),h13⟩
def zAG(p:zC)(part:Int):Option (Option zC):=do
 let y<-nK p;if y then
  let y1<-mA p part;if y1 then
   let o<-qF p;let _<-idx o.Parts part;pure (some o)
  else pure none
 else pure none
def zBT(part:Int)(r:Option zC):KT:=λkk I' ag v=>match r with
 | none=>ag=[]/\v=tupV [vA zTwo,.pointer none,vF]
 | some q=>∃(pks:List PK) (x:zF) (pn:Option Addr) (cn:Nat) (pq:Option Addr) (cq:Nat) (csq:List Value) (pa:Option Addr) (ca:Nat) (pp:Option Addr) (cp:Nat) (csp:List Value) (ad:Addr),
  ag=[hO PK (vS pp pks cp) csp,hO zI (vS pq x.Body cq) csq]/\v=tupV [vA [vS pa q.Arrays ca,vS pp pks cp],.pointer (some ad),vY]/\SL I' (vS pa q.Arrays ca) q.Arrays/\RL I' csp pks/\pks.map PK.d=q.Parts /\
  idx pks part=some ⟨⟨vS pn x.Nest cn,vS pq x.Body cq⟩,x,true⟩/\(∀j z,pks[j]?=some z->j ≠ part.toNat->z.o=false)/\AtO (vS pp pks cp) 2 part.toNat ad/\(csp.drop (part.toNat*2)).take 2=(cPart x pn cn pq cq)/\RL I' csq x.Body/\SL I' (vS pn x.Nest cn) x.Nest
theorem zEu:∀p part r,zAG p part=some r->∀{I:Imm}{p1 c p2 c1},(S4 I p1 p.Arrays c)->(S4 I p2 p.Parts c1)->RT 49 [vA (cProg p p1 c p2 c1),vI part,vI (-1)] I [] (zBT part r):=by
 intro p part r N I p1 c p2 c1 h h1;unfold zAG at N;refine yM func49 λB=>?_;have fin:∀{I':Imm} (b b1:Nat),r=none->J Tryz.prog f49.ntmps B (nav (bodyOf f49) [1,0,1,0]) (Exit.then (λa' w'=>(nav (bodyOf f49) [1,1]).wp Tryz.prog (QB Tryz.prog f49 B (zBT part r)) a' w') (QB Tryz.prog f49 B (zBT part r))) I' [hB b1 zTwo,hB b (cProg p p1 c p2 c1)] [(6,vP b1 0)]:=by
  intro I' b b1 hr;subst hr;exact yD<|yG 1 [] [30] rfl<|jV 0 zTwo [hB b1 zTwo,hB b (cProg p p1 c p2 c1)] rfl rfl rfl rfl<|yQ [] [7,8] rfl<|xH<|zJ<|zFE (.cell 0 rfl rfl (by kernel_rfl) (resU rfl rfl)) zO ⟨rfl,rfl⟩
 refine yD<|vC (cProg p p1 c p2 c1) ?_;intro b hb;refine xY zTwo ?_;intro b1 hb1;refine yQ [] [7,8] rfl<|yA<|yD<|uW 1 [1] [(10,vA (cProg p p1 c p2 c1))]<|bE N λy hy N=>tA (zBL p _ hy h h1) ?_;intro I0 le;have ⟨h,h1⟩:=m2 le h h1;cases y with
 | false=>
  exact wM [] [(29,vY)]<|zK<|nN rfl<|qX [(6,vP b1 0)]<|fin b b1 (zE N).symm
 | true=>
  obtain⟨y1,az,N⟩:=zB N;refine uW 6 [1] [(13,vF),(14,vA (cProg p p1 c p2 c1)),(15,vI part)]<|xK (zDE p part _ az h h1) ?_;rintro aP ax v2 k2 aa - ⟨v01,rfl,rfl,rfl⟩ -;have ⟨h,h1⟩:=m2 aa h h1;cases y1 with
  | false=>
   exact wM [] [(29,vY)]<|zK<|nN rfl<|qX [(6,vP b1 0)]<|fin b b1 (zE N).symm
  | true=>
   obtain⟨o,aG,N⟩:=zB N;obtain⟨x0,bh,N⟩:=zB N;refine wM [] [(29,vF)]<|zK<|kE rfl<|zT<|yY<|uW 1 [1] [(31,vA (cProg p p1 c p2 c1))]<|xK (zDu p _ aG h h1) ?_;rintro aW ax v2 k2 aC - ⟨xs,pa,ca,pp,cp,csp,rfl,rfl,hA,hPt,hok,hRw⟩ -;obtain⟨z,hz,hxz⟩:=zFo (f:=NB.a) (by rw[<- hPt];exact bh);obtain⟨i0,i1,hzk⟩:=uQ hz;have hzo:=hok z (cJ hzk);have hraw:idx (xs.map NB.raw) part=some z.raw:=zA7 hz;obtain⟨vN,nl,pq,dz,cq,csq⟩:=z;obtain⟨hzN,hzB⟩:=hzo;obtain⟨pn,cn,eN⟩:=hzN.form;replace eN:vN=vS pn nl cn:=eN;subst eN;subst hxz;refine zPF ([hO Raw2 (vS pp (xs.map NB.raw) cp) csp,hB b1 zTwo,hB b (cProg p p1 c p2 c1)]++NBs xs) (List.Perm.cons _ cU)<|xY zTwo ?_;intro b2 hb2;refine jV 0 [vS pa o.Arrays ca,vS pp (xs.map NB.raw) cp] (hB b2 [vS pa o.Arrays ca,vS pp (xs.map NB.raw) cp]::hO Raw2 (vS pp (xs.map NB.raw) cp) csp::hB b1 zTwo::hB b (cProg p p1 c p2 c1)::NBs xs) rfl rfl rfl rfl<|zY rfl<|yA<|qZ (kS [hB b2 [vS pa o.Arrays ca,vS pp (xs.map NB.raw) cp],hO Raw2 (vS pp (xs.map NB.raw) cp) csp,hB b1 zTwo,hB b (cProg p p1 c p2 c1)] (NBs xs) [0,1,2] rfl (by decide))<|zIW _ (zNI hzk _ _ _)<|zIY (xs.eraseIdx part.toNat) (λy hy=>hok y (List.mem_of_mem_eraseIdx hy)) ?_;intro bx aI hfz;have hA:=hA.mono aI;have hRw:RL bx csp (xs.map NB.raw):=iM aI hRw;have ⟨hzN,hzB⟩:=m2 aI hzN hzB;have bI:(csp.drop (part.toNat*Rp.sz Raw2)).take (Rp.sz Raw2)=[vS pn nl cn,vS pq dz cq]:=(hRw.at (uQ hraw).2.2).1.1;refine wP [.p (vA [vS pa o.Arrays ca,vS pp (xs.map NB.raw) cp]) [2],.p (vP b2 1) [],.p (vS pp (xs.map NB.raw) cp) [2],.p (vI part) [],.x (λI' v hx=>∃ad,v=.pointer (some ad)/\hx=[]/\AtO (vS pp (xs.map NB.raw) cp) 2 part.toNat ad),.x (λI' v hx=>hx=[hB b1 [vS pa o.Arrays ca,vS pp (xs.map NB.raw) cp]])]
    [[],[],[(1,false)],[],[(2,false),(3,false)],[(0,false),(8,true)]] [hO Raw2 (vS pp (xs.map NB.raw) cp) csp,hO zI (vS pq dz cq) csq,hB b2 [vS pa o.Arrays ca,vS pp (xs.map NB.raw) cp]] [[hB b1 zTwo]] [(4,false),(5,true)] (λ_ gd=>gd) ?_ ?_
   ·refine O4<|Ox ?_<|Ox ?_<|On
    ·intro I1 hf aY;exact yW [35,36] rfl<|gJ (α:=Raw2) 0 rfl rfl rfl (iM aY hRw) hraw λad aN aq _ _=>yN [] iR ⟨_,rfl,rfl,aq⟩
    rintro I1 hf aY _ _ ⟨rfl,rfl⟩ _ _ rfl;exact uB<|zBI [(6,vP b1 0),(33,vA [vS pa o.Arrays ca,vS pp (xs.map NB.raw) cp])]<|jV 0 [vS pa o.Arrays ca,vS pp (xs.map NB.raw) cp] (hB b1 [vS pa o.Arrays ca,vS pp (xs.map NB.raw) cp]::hO Raw2 (vS pp (xs.map NB.raw) cp) csp::hO zI (vS pq dz cq) csq::hB b2 [vS pa o.Arrays ca,vS pp (xs.map NB.raw) cp]::hf) rfl rfl rfl rfl<|zAb (hx:=[hB b1 [vS pa o.Arrays ca,vS pp (xs.map NB.raw) cp]]) rfl iR rfl (zFk (v:=undef)) rfl
   rintro I2 aY _ _ ⟨ad,rfl,rfl,aq⟩ _ _ rfl;refine yW [6,37] rfl<|yQ [] [7,8] rfl<|zK<|xD ?_;obtain⟨pks,q1,q2,q3,q4⟩:=zOG hzk ⟨hzN,hzB⟩ (λj y hne hj=>hfz y (zMY hj hne)) hRw;have hl:(xs.map NB.raw).length=pks.length:=by have:=congrArg List.length q2;rw[cS,cS] at this;rw[cS];omega
   have ev:vS pp (xs.map NB.raw) cp=vS pp pks cp:=by simp only[vS,hl]
   rw[zI1 (α:=Raw2) (β:=PK) rfl hl];rw[ev] at aq ⊢;have hr:=zE N;subst hr;exact zFE (.cell 0 rfl rfl (by kernel_rfl) (resU rfl rfl)) (zX [1,2] rfl (by decide)) ⟨pks,⟨nl,dz⟩,pn,cn,pq,cq,csq,pa,ca,pp,cp,csp,ad,rfl,rfl,hA.mono aY,iM aY q1,q2.trans hPt.symm,by unfold idx;rw[if_pos i0];exact q3,q4,aq,bI,iM aY hzB,hzN.mono aY⟩
def tC(s:(List Int))(v0:Int)(t8:Int):Option (Out Unit (Int)):=do
 if(decide (t8<(s.length:Int))) then
  let x<-idx s t8;if(v0==x) then pure (.ret t8)
  else tC s v0 (W (t8+1))
 else pure (.done ())
 partial_fixpoint
theorem zBe(s:(List Int))(v0:Int):∀(t8:Int) (o:Out Unit (Int)),tC s v0 t8=some o->∀{B}{I0 I:Imm}{Q p c},I0.le I->(S4 I p s c)->NG Q->NO Q->(∀I',o=(.done ())->I0.le I'->T 19 B Q (.exit 0) I' [] [])->(∀r I' ag m',o=(.ret r)->I0.le I'->RS Tryz.prog f180 B (yP  r) I' ag m'->T 19 B Q .ret I' ag m')->J Tryz.prog 19 B (nav (bodyOf f180) [1,0,1,0]) Q I [] [(0,vS p s c),(1,vI v0),(7,vI (s.length:Int)),(8,vI t8)]:=by
 refine tC.partial_correctness s v0 _ λaJ ih t8 o N B I0 I Q p c H h hg ho hx hr=>yX hg ho<|yK [9] rfl<|yA<|yH N ?_ ?_
 ·intro hc N;refine zT<|yA<|yL<|yK [5] rfl<|yY<|yG 3 [] [11,12,13] rfl<|bE N λx hy N=>xW rfl rfl h hy ?_;intro ad aN aq am;obtain rfl:=am;refine xM 0 aq [vI x] (vI x) rfl<|yQ [] [16] rfl<|zK<|yH N ?_ ?_
  ·intro aH N;exact yK [4] rfl<|xH<|zV<|zJ<|zJ<|hr _ _ _ _ (zE N).symm H ⟨_,_,(resT rfl),zO,⟨_,rfl,rfl,rfl⟩⟩
  intro aH N;exact zT<|zN<|zK<|zL<|yQ [] [8] rfl<|yV<|nX<|ih (W (t8+1)) _ N H h hg ho hx hr
 intro hc N;exact wW<|yZ<|hx _  (zE N).symm H
def jG(s:(List Int))(v0:Int):Option (Int):=do
 match<-tC s v0 0 with
 | .ret r0=>pure r0
 | .done _=>
  pure (-1)
theorem zCg:∀s v0 r,jG s v0=some r->∀{I:Imm}{p c},(S4 I p s c)->RT 180 [vS p s c,vI v0] I [] (yP  r):=by
 intro s v0 r N I p c h;unfold jG at N;refine yM func180 λB=>wZ []<|yA<|yK [7,8] rfl<|wN<|qX [(0,vS p s c),(1,vI v0),(7,vI (s.length:Int)),(8,vI 0)] ?_;obtain⟨o0,aA,aE⟩:=zB N;refine zBe s v0 0 o0 aA iR h nG nO ?_ ?_
 ·intro I0  heq le;subst o0;refine zS<|vM [4] rfl<|zK<|xD ?_;obtain rfl:=zE aE;exact vH
 intro r0 I9 hs9 m9 aT le9 aV;subst aT;refine zV<|zJ ?_;obtain rfl:=zE aE;exact jW aV
def sZ(s:(List Int))(v0:Int):Option (Bool):=do
 let y<-jG s v0;pure (decide (y>=0))
theorem dR:∀s v0 r,sZ s v0=some r->∀{I:Imm}{p c},(S4 I p s c)->RT 140 [vS p s c,vI v0] I [] (zW  r):=by
 intro s v0 r N I p c h;unfold sZ at N;refine yM func140 λB=>wZ []<|yY<|yG 2 [] [5,6] rfl<|bE N λy hy N=>dC (zCg s v0 _ hy h) λI0 le=>wM [] [(4,.bool (decide (y>=0)))]<|zK<|xD ?_;obtain rfl:=zE N;exact vH
def mB(t:tH)(from0:Int)(to0:Int):Option (Int):=do
 let x<-idx t.reads to0;let x1<-idx t.writes from0;let y<-sZ x x1;let kinds<-(do
  if y then pure (W (0+1))
  else
   pure (id 0)
    : Option Int)
 let x2<-idx t.reads from0;let x3<-idx t.writes to0;let y1<-sZ x2 x3;let kinds1<-(do
  if y1 then pure (W (kinds+2))
  else
   pure (id kinds)
    : Option Int)
 let x4<-idx t.writes from0;let x5<-idx t.writes to0;let kinds2<-(do
  if(x4==x5) then pure (W (kinds1+4))
  else
   pure (id kinds1)
    : Option Int)
 pure (id kinds2)
theorem zDH:∀t from0 to0 r,mB t from0 to0=some r->∀{I:Imm}{ad:Addr}{p c p1 c1 p2 c2 p3 c3 p4 c4},(S4 I p t.Program.Arrays c)->(S4 I p1 t.Program.Parts c1)->(S4 I p2 t.list c2)->(S4 I p3 t.reads c3)->(S4 I p4 t.writes c4)->(At I ad [vS p t.Program.Arrays c,vS p1 t.Program.Parts c1,vS p2 t.list c2,vS p3 t.reads c3,vS p4 t.writes c4])->RT 94 [.pointer (some ad),vI from0,vI to0] I [] (yP  r):=by
 intro t from0 to0 r N I ad p c p1 c1 p2 c2 p3 c3 p4 c4 h h1 h2 h3 h4 aq;unfold mB at N;refine yM func94 λB=>?_;have H:=iS I;refine wZ []<|vM [7] rfl<|yA<|yC ?_;obtain⟨x,hy,N⟩:=zB N;obtain⟨x1,az,N⟩:=zB N;obtain⟨y,aG,N⟩:=zB N;refine wP [.p (.pointer (some ad)) [],.p (.pointer (some ad)) [],.p (.pointer (some (ad.add 3))) [],.q (vS p3 t.reads c3),.p (vI to0) [],.x (λI' v hx=>∃ad1 p5 c5,v=.pointer (some ad1)/\hx=[]/\(At I' ad1 [vS p5 x c5])/\(S4 I' p5 x c5)),.x (eS x),.p (.pointer (some ad)) [],.p (.pointer (some ad)) [],.p (.pointer (some (ad.add 4))) [],.q (vS p4 t.writes c4),.p (vI from0) [],.x (λI' v hx=>∃ad2,v=.pointer (some ad2)/\hx=[]/\(At I' ad2 [vI x1])),.q (vI x1),.q (.bool y)] [[],[(0,false)],[(1,false)],[(2,false)],[],[(3,false),(4,false)],[(5,false)],[],[(7,false)],[(8,false)],[(9,false)],[],[(10,false),(11,false)],[(12,false)],[(6,false),(13,false)]] [] [] [(14,false)] zO ?_ ?_
 ·refine O3<|Oq ?_<|Op<|Ox ?_<|Ox ?_<|O3<|Oq ?_<|Op<|Ox ?_<|Oq ?_<|Oq ?_<|On
  ·intro I1 hf aa;refine yW [10] rfl ?_;have aq:=aq.mono aa;exact xM 3 aq [vS p3 t.reads c3] (vS p3 t.reads c3) rfl<|xO iR
  ·intro I1 hf aa;refine yW [11,12] rfl ?_;have h3:=h3.mono aa;refine xW rfl rfl h3 hy ?_;intro ad1 aN aw am;obtain⟨v0,rfl,h5⟩:=am;obtain⟨p5,c5,rfl⟩:=h5.form;exact yN [] iR ⟨_,_,_,rfl,rfl,aw,h5⟩
  ·rintro I1 hf aa _ _ ⟨ad1,p5,c5,rfl,rfl,aw,h5⟩;exact yW [13] rfl<|xM 0 aw [vS p5 x c5] (vS p5 x c5) rfl<|yN [] iR ⟨_,_,rfl,rfl,h5⟩
  ·intro I1 hf aa;refine yW [17] rfl ?_;have aq:=aq.mono aa;exact xM 4 aq [vS p4 t.writes c4] (vS p4 t.writes c4) rfl<|xO iR
  ·intro I1 hf aa;refine yW [18,19] rfl ?_;have h4:=h4.mono aa;refine xW rfl rfl h4 az ?_;intro ad2 bq bk ay;obtain rfl:=ay;exact yN [] iR ⟨_,rfl,rfl,bk⟩
  ·rintro I1 hf aa _ _ ⟨ad2,rfl,rfl,bk⟩;exact yW [20] rfl<|xM 0 bk [vI x1] (vI x1) rfl<|xO iR
  rintro I1 hf aa _ _ ⟨p51,c51,rfl,rfl,h51⟩;refine yW [14,21] rfl ?_;have H:=iS I1;refine tA (dR x x1 _ aG h51) ?_;intro I0 le;have H:=H.trans le;exact xO H
 intro aP aa;refine yW [0,1,2,7,22] rfl ?_;have ⟨h3,h4,aq,H⟩:=m4 aa h3 h4 aq H;refine zY rfl<|zK ?_;refine vQ N [] (λkinds=>[(0,.pointer (some ad)),(1,vI from0),(2,vI to0),(7,vI kinds)]) (λo0 aA=>?_) ?_
 ·have H:=iS aP;refine yH aA ?_ ?_
  ·intro hc N;exact zL<|yQ [] [7] rfl<|yZ<|zU (ct N H)
  intro hc N;exact zT<|yZ<|zU (ct N H)
 intro kinds aW aC aX;have ⟨h3,h4,aq,H⟩:=m4 aC h3 h4 aq H;refine yA<|yC ?_;obtain⟨x2,bh,N⟩:=zB aX;obtain⟨x3,bu,N⟩:=zB N;obtain⟨y1,bC,N⟩:=zB N;refine wP [.p (.pointer (some ad)) [],.p (.pointer (some ad)) [],.p (.pointer (some (ad.add 3))) [],.q (vS p3 t.reads c3),.p (vI from0) [],.x (λI' v hx=>∃ad3 p6 c6,v=.pointer (some ad3)/\hx=[]/\(At I' ad3 [vS p6 x2 c6])/\(S4 I' p6 x2 c6)),.x (eS x2),.p (.pointer (some ad)) [],.p (.pointer (some ad)) [],.p (.pointer (some (ad.add 4))) [],.q (vS p4 t.writes c4),.p (vI to0) [],.x (λI' v hx=>∃ad4,v=.pointer (some ad4)/\hx=[]/\(At I' ad4 [vI x3])),.q (vI x3),.q (.bool y1)] [[],[(0,false)],[(1,false)],[(2,false)],[],[(3,false),(4,false)],[(5,false)],[],[(7,false)],[(8,false)],[(9,false)],[],[(10,false),(11,false)],[(12,false)],[(6,false),(13,false)]] [] [] [(14,false)] zO ?_ ?_
 ·refine O3<|Oq ?_<|Op<|Ox ?_<|Ox ?_<|O3<|Oq ?_<|Op<|Ox ?_<|Oq ?_<|Oq ?_<|On
  ·intro I1 hf aa;refine yW [27] rfl ?_;have aq:=aq.mono aa;exact xM 3 aq [vS p3 t.reads c3] (vS p3 t.reads c3) rfl<|xO iR
  ·intro I1 hf aa;refine yW [28,29] rfl ?_;have h3:=h3.mono aa;refine xW rfl rfl h3 bh ?_;intro ad3 bL hat3 br;obtain⟨v02,rfl,h7⟩:=br;obtain⟨p6,c6,rfl⟩:=h7.form;exact yN [] iR ⟨_,_,_,rfl,rfl,hat3,h7⟩
  ·rintro I1 hf aa _ _ ⟨ad3,p6,c6,rfl,rfl,hat3,h7⟩;exact yW [30] rfl<|xM 0 hat3 [vS p6 x2 c6] (vS p6 x2 c6) rfl<|yN [] iR ⟨_,_,rfl,rfl,h7⟩
  ·intro I1 hf aa;refine yW [34] rfl ?_;have aq:=aq.mono aa;exact xM 4 aq [vS p4 t.writes c4] (vS p4 t.writes c4) rfl<|xO iR
  ·intro I1 hf aa;refine yW [35,36] rfl ?_;have h4:=h4.mono aa;refine xW rfl rfl h4 bu ?_;intro ad4 ccs3 hat4 bB;obtain rfl:=bB;exact yN [] iR ⟨_,rfl,rfl,hat4⟩
  ·rintro I1 hf aa _ _ ⟨ad4,rfl,rfl,hat4⟩;exact yW [37] rfl<|xM 0 hat4 [vI x3] (vI x3) rfl<|xO iR
  rintro I1 hf aa _ _ ⟨p61,c61,rfl,rfl,h71⟩;refine yW [31,38] rfl ?_;have H:=iS I1;refine tA (dR x2 x3 _ bC h71) ?_;intro bx aI;have H:=H.trans aI;exact xO H
 intro bG aY;refine yW [0,1,2,7,39] rfl ?_;have ⟨h4,aq,H⟩:=m3 aY h4 aq H;refine zY rfl<|zK ?_;refine vQ N [] (λkinds1=>[(0,.pointer (some ad)),(1,vI from0),(2,vI to0),(7,vI kinds1)]) (λaU aB=>?_) ?_
 ·have H:=iS bG;refine yH aB ?_ ?_
  ·intro aH N;exact zL<|yQ [] [7] rfl<|yZ<|zU (ct N H)
  intro aH N;exact zT<|yZ<|zU (ct N H)
 intro kinds1 bK bo hMc1;have ⟨h4,aq,H⟩:=m3 bo h4 aq H;refine yA<|yC<|zA5 (by kernel_rfl) (by kernel_rfl)<|zB2 3 [] [44] rfl<|zC5 4 aq [vS p4 t.writes c4] (vS p4 t.writes c4) rfl<|zB2 5 [] [46] rfl ?_;obtain⟨x4,hy6,N⟩:=zB hMc1;refine zDk rfl rfl h4 hy6 ?_;intro ad5 ccs4 hat5 hrep4;obtain rfl:=hrep4;refine zC5 0 hat5 [vI x4] (vI x4) rfl<|zB2 10 [] [51] rfl<|zC5 4 aq [vS p4 t.writes c4] (vS p4 t.writes c4) rfl<|zB2 12 [] [53] rfl<|bE N λx5 hy7 N=>zDk rfl rfl h4 hy7 ?_;intro ad6 ccs5 hat6 hrep5;obtain rfl:=hrep5;refine zC5 0 hat6 [vI x5] (vI x5) rfl<|zK5 [] [56] rfl<|zK ?_;refine vQ N [] (λkinds2=>[(7,vI kinds2)]) (λo02 ho02=>?_) ?_
 ·have H:=iS bK;refine yH ho02 ?_ ?_
  ·intro ba N;exact zL<|yQ [] [7] rfl<|yZ<|zU (ct N H)
  intro ba N;exact zT<|yZ<|zU (ct N H)
 intro kinds2 I06 bv hMc2;refine vM [6] rfl<|zK<|xD ?_;obtain rfl:=zE hMc2;exact vH
def zAt(r:(List yR)):KT:=λkk I' ag v=>
 ∃v0,ag=[]/\v=tupV [v0]/\SL I' v0 r
def rW(t:tH)(t12:Int)(ar:List yR)(to0:Int):Option (List yR):=do
 if(decide (to0<(t.list.length:Int))) then
  let y<-mB t t12 to0;let bw<-(do
   if(decide (y>0)) then
    let out5<-app 24 ar ([(yR.mk t12 to0 y)]:List yR);pure (id out5)
   else
    pure (id ar)
     : Option (List yR))
  rW t t12 bw (W (to0+1))
 else pure (id ar)
 partial_fixpoint
theorem zDI(t:tH)(t12:Int):∀(ar:List yR) (to0:Int) (o:List yR),rW t t12 ar to0=some o->∀{B}{I0 I:Imm}{Q}  {ad:Addr}{p c p1 c1 p2 c2 p3 c3 p4 c4 p7 c7 aR},I0.le I->(S4 I p t.Program.Arrays c)->(S4 I p1 t.Program.Parts c1)->(S4 I p2 t.list c2)->(S4 I p3 t.reads c3)->(S4 I p4 t.writes c4)->(At I ad [vS p t.Program.Arrays c,vS p1 t.Program.Parts c1,vS p2 t.list c2,vS p3 t.reads c3,vS p4 t.writes c4])->(RL I aR ar)->NG Q->NO Q->(∀I' bi p8 c8 aM,o=bi->I0.le I'->(RL I' aM bi)->T 41 B Q (.exit 2) I' [hO yR (vS p8 bi c8) aM] [(0,.pointer (some ad)),(3,vS p8 bi c8),(11,vI (t.list.length:Int)),(12,vI t12)])->J Tryz.prog 41 B (nav (bodyOf f51) [1,1,0,1,0,0,1,1,0,0,1,1,0]) Q I [hO yR (vS p7 ar c7) aR] [(0,.pointer (some ad)),(3,vS p7 ar c7),(4,vI t12),(5,vI to0),(11,vI (t.list.length:Int)),(12,vI t12)]:=by
 refine rW.partial_correctness t t12 _ λaJ ih ar to0 o N B I0 I Q ad p c p1 c1 p2 c2 p3 c3 p4 c4 p7 c7 aR H h h1 h2 h3 h4 aq h8 hg ho hx=>yX hg ho<|yC<|yD<|yG 4 [] [17,20] rfl<|xM 2 aq [vS p2 t.list c2] (vS p2 t.list c2) rfl<|yQ [] [23] rfl<|zK<|yH N ?_ ?_
 ·intro aH N;refine zT<|yA<|yL<|yD<|yG 3 [] [26,27,28] rfl<|bE N λy hy N=>dC (zDH t t12 to0 _ hy h h1 h2 h3 h4 aq) ?_;intro I0 le;have ⟨h,h1,h2,h3,h4,aq⟩:=m6 le h h1 h2 h3 h4 aq;have ⟨h8,H⟩:=m2 le h8 H;refine yQ [] [6] rfl<|vM [31] rfl<|zK ?_;obtain⟨o0,aA,aX⟩:=zB N;refine nP (λI' ag m'=>∃(bw:List yR) (p9:Option Addr) (c9:Nat) (bt:List Value),o0=bw/\I0.le I'/\(RL I' bt bw)/\ag=[hO yR (vS p9 bw c9) bt]/\m'=[(0,.pointer (some ad)),(3,vS p9 bw c9),(4,vI t12),(5,vI to0),(11,vI (t.list.length:Int)),(12,vI t12)]) ?_ ?_
  ·have H:=iS I0;refine yH aA ?_ ?_
   ·intro ba N;refine zL<|yG 5 [] [32,36] rfl<|uX [vI t12,vI to0,vI y] yR ?_;intro b hb;have h12:RL I0 [vI t12,vI to0,vI y] ([(yR.mk t12 to0 y)]:List yR):=⟨[vI t12,vI to0,vI y],_,rfl,rfl,(zEq rfl),rfl⟩;obtain⟨out5,az,N⟩:=zB N;exact sW 84 3 1 rfl rfl rfl h8 (.inr ⟨0,rfl⟩) h12 az λaL aO bz h13=>tX (zZ [1] (ag:=[hO yR (vS aL out5 aO) bz]))<|yQ [] [3] rfl<|yZ<|zU ⟨_,_,_,_,(zE N).symm,H,h13,rfl,rfl⟩
   intro ba N;exact zT<|yZ<|zU ⟨_,_,_,_,(zE N).symm,H,h8,rfl,rfl⟩
  rintro aP ax m2 ⟨bw,p9,c9,bt,heq,aa,h11,rfl,rfl⟩;subst o0;have ⟨h,h1,h2,h3,h4,aq⟩:=m6 aa h h1 h2 h3 h4 aq;have H:=H.trans aa;exact zN<|zK<|zL<|yQ [] [5] rfl<|yV<|nX<|ih bw (W (to0+1)) _ aX H h h1 h2 h3 h4 aq h11 hg ho hx
 intro aH N;exact wW<|yZ<|hx _ _ _ _ _ (zE N).symm H h8
def rX(t:tH)(out:List yR)(t12:Int):Option (List yR):=do
 if(decide (t12<(t.list.length:Int))) then
  let bi<-rW t t12 out (W (t12+1));rX t bi (W (t12+1))
 else pure (id out)
 partial_fixpoint
theorem zDJ(t:tH):∀(out:List yR) (t12:Int) (o:List yR),rX t out t12=some o->∀{B}{I0 I:Imm}{Q}  {ad:Addr}{p c p1 c1 p2 c2 p3 c3 p4 c4 p5 c5 cs},I0.le I->(S4 I p t.Program.Arrays c)->(S4 I p1 t.Program.Parts c1)->(S4 I p2 t.list c2)->(S4 I p3 t.reads c3)->(S4 I p4 t.writes c4)->(At I ad [vS p t.Program.Arrays c,vS p1 t.Program.Parts c1,vS p2 t.list c2,vS p3 t.reads c3,vS p4 t.writes c4])->(RL I cs out)->NG Q->NO Q->(∀I' aj p6 c6 au,o=aj->I0.le I'->(RL I' au aj)->T 41 B Q (.exit 0) I' [hO yR (vS p6 aj c6) au] [(3,vS p6 aj c6)])->J Tryz.prog 41 B (nav (bodyOf f51) [1,1,0,1,0]) Q I [hO yR (vS p5 out c5) cs] [(0,.pointer (some ad)),(3,vS p5 out c5),(11,vI (t.list.length:Int)),(12,vI t12)]:=by
 refine rX.partial_correctness t _ λaJ ih out t12 o N B I0 I Q ad p c p1 c1 p2 c2 p3 c3 p4 c4 p5 c5 cs H h h1 h2 h3 h4 aq h6 hg ho hx=>yX hg ho<|yK [13] rfl<|yA<|yH N ?_ ?_
 ·intro hc N;refine zT<|yA<|yL<|yK [4] rfl<|vM [5] rfl<|wN<|qX [(0,.pointer (some ad)),(3,vS p5 out c5),(4,vI t12),(5,vI (W (t12+1))),(11,vI (t.list.length:Int)),(12,vI t12)] ?_;obtain⟨aU,aB,aE⟩:=zB N;refine zDI t t12 out (W (t12+1)) aU aB iR h h1 h2 h3 h4 aq h6 (λ_ _ _ h=>hg _ _ _ h) (λ_ _ h=>ho _ _ h) ?_;intro aW bi p8 c8 aM heq1 aC h9;subst aU;have ⟨h,h1,h2,h3,h4,aq⟩:=m6 aC h h1 h2 h3 h4 aq;have H:=H.trans aC;exact zS<|zN<|zK<|zL<|yQ [] [12] rfl<|yV<|nX<|ih bi (W (t12+1)) _ aE H h h1 h2 h3 h4 aq h9 hg ho hx
 intro hc N;exact wW<|yZ<|hx _ _ _ _ _ (zE N).symm H h6
def mJ(t:tH):Option ((List yR)):=do
 let aj<-rX t ([]:List yR) 0;pure (id aj)
theorem zB0:∀t r,mJ t=some r->∀{I:Imm}{ad:Addr}{p c p1 c1 p2 c2 p3 c3 p4 c4},(S4 I p t.Program.Arrays c)->(S4 I p1 t.Program.Parts c1)->(S4 I p2 t.list c2)->(S4 I p3 t.reads c3)->(S4 I p4 t.writes c4)->(At I ad [vS p t.Program.Arrays c,vS p1 t.Program.Parts c1,vS p2 t.list c2,vS p3 t.reads c3,vS p4 t.writes c4])->RT 51 [.pointer (some ad)] I [] (zAt  r):=by
 intro t r N I ad p c p1 c1 p2 c2 p3 c3 p4 c4 h h1 h2 h3 h4 aq;unfold mJ at N;refine yM func51 λB=>wZ []<|zE3 [(3,z0)]<|yA<|yD<|yG 3 [] [9] rfl<|xM 2 aq [vS p2 t.list c2] (vS p2 t.list c2) rfl<|yQ [] [11,12] rfl<|wN<|qX [(0,.pointer (some ad)),(3,z0),(11,vI (t.list.length:Int)),(12,vI 0)]<|zA6 yR λh5=>?_;obtain⟨o02,ho02,hMl1⟩:=zB N;refine zDJ t ([]:List yR) 0 o02 ho02 iR h h1 h2 h3 h4 aq h5 nG nO ?_;intro bx aj p6 c6 au heq2 aI h7;subst o02;refine zS<|vM [2] rfl<|xH<|xB 0 rfl ?_;intro bG aY hl0;have h14:=SL.of_frozen hl0 aY h7;exact xX hMl1 (resT rfl) zO ⟨_,rfl,rfl,h14⟩
def zAH(r:List zI):KT:=λkk I' ag v=>
 ∃a0 c0 s0,ag=[.osl (.slice a0 r.length c0) (Rp.sz zI) s0]/\v=tupV [(.slice a0 r.length c0)]/\RepL (Rp.rep I') (Rp.sz zI) s0 r
def uT(s:List zI):Option (List zI):=app 152 ([]:List zI) s
theorem zAQ:∀s r,uT s=some r->∀{I:Imm}{p c},SL I (vS p s c) s->RT 53 [vS p s c] I [] (zAH r):=by
 intro s r N I p c h;unfold uT at N;obtain⟨aN,k0,k01⟩:=h;refine yM func53 λB=>?_;cases p with
 | none=>
  have hs:s=[]:=by
   rcases k0 with⟨hv,rfl⟩|⟨b0,off,len,cap,cc,hv,k2⟩
   ·cases s with
    | nil=>rfl
    | cons _ _=>simp at hv
   simp at hv
  subst hs;obtain⟨_,rfl⟩:=zBH N;refine yK [0,2] rfl<|yA<|yD<|yG 1 [] [3] rfl<|zOC true rfl rfl ?_ rfl;exact wM [] [(4,vY)]<|zK<|nN rfl<|wZ [(2,z0)]<|xH<|zJ<|wK (fN (Rp.sz zI))<|zFE (resT rfl) (zX [0] rfl (by decide)) ⟨none,0,[],rfl,rfl,rfl⟩
 | some ad=>
  refine yK [0,2] rfl<|yA<|yD<|yG 1 [] [3] rfl<|zOC false rfl rfl ?_ rfl;refine yQ [] [0,4] rfl<|zK<|kE rfl<|zT<|yY<|uX [] zI ?_;intro b2 hb2;have h1:RL I [] ([]:List zI):=rfl;exact yG 2 [] [6] rfl<|sW 100 9 0 rfl rfl rfl h1 (.inl k0) k01 N λp1 c1 cs h2=>yQ [] [2] rfl<|xH<|zFE (resT rfl) (zX [0] rfl (by decide)) ⟨_,_,_,rfl,rfl,h2⟩
def mK(r:zC×Bool):KT:=λkk I' ag v=>
 ∃v0 v1,ag=[]/\v=tupV [v0,v1]/\(∃cs,v0=.agg ⟨cs⟩/\Rp.rep I' cs r.1)/\v1=.bool r.2
def gD(p:zC):Option (zC×Bool):=do
 let y<-nK p;if(!y) then pure ((zC.mk ([]:List zD) ([]:List zF)),false)
 else
  let y1<-qF p;pure (y1,true)
theorem zCh:∀p r,gD p=some r->∀{I:Imm}{p1 c p2 c1},(S4 I p1 p.Arrays c)->(S4 I p2 p.Parts c1)->RT 55 [vA (cProg p p1 c p2 c1)] I [] (mK  r):=by
 intro p r N I p1 c p2 c1 h h1;unfold gD at N;refine yM func55 λB=>yD<|vC (cProg p p1 c p2 c1) ?_;intro b hb;refine xY zTwo ?_;intro b1 hb1;refine wM [] []<|yA<|yD<|uW 1 [1] [(4,vA (cProg p p1 c p2 c1))]<|bE N λy hy N=>tA (zBL p _ hy h h1) ?_;intro I0 le;have ⟨h,h1⟩:=m2 le h h1;refine yQ [] [6] rfl<|zK<|yH N ?_ ?_
 ·intro hc N;refine yD<|yG 1 [] [7] rfl<|jV 0 zTwo [hB b1 zTwo,hB b (cProg p p1 c p2 c1)] rfl rfl rfl rfl<|wM [] [(3,vF)]<|xH<|zJ ?_;exact xX N (resE 0 rfl rfl rfl) zO ⟨_,_,rfl,rfl,⟨_,rfl,(xJ ⟨_,_,rfl,(SL.nil _),(SL.nil _)⟩)⟩,rfl⟩
 intro hc N;refine zT<|yY<|uW 1 [1] [(8,vA (cProg p p1 c p2 c1))]<|bE N λy1 az N=>xK (zE6 p _ az h h1) ?_;rintro aP ax v2 k2 aa - ⟨v01,rfl,rfl,⟨cs,rfl,h3⟩⟩ -;obtain⟨p3,c2,p4,c3,rfl,h4,h5⟩:=kT h3;refine xC 0 (cProg y1 p3 c2 p4 c3) rfl<|wM [] [(3,vY)]<|zK<|xD ?_;exact xX N (resE 0 rfl rfl rfl) zO ⟨_,_,rfl,rfl,⟨_,rfl,(xJ ⟨_,_,rfl,h4,h5⟩)⟩,rfl⟩
end Go.LN
