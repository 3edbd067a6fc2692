/- Helper of the proof (see the last text). -/
import Derived.Test.YtkipogionmkncaaGreatDoorHM1
set_option linter.unusedVariables false
set_option linter.unusedSimpArgs false
namespace Go.LN
open Go.Proofs Go.Proofs.Tryz
set_option maxRecDepth 20000
def rR(r:(List zX)×Bool):KT:=λkk I' ai v=>
 ∃v0 v1,ai=[]/\v=tupV [v0,v1]/\SL I' v0 r.1/\v1=.bool r.2
def vC(p:zP)(t26:Int)(x:zJ)(x1:(List Int))(bM:List zX)(t64:Int):Option (Out (List zX) ((List zX)×Bool)):=do
 if(decide (t64<(x.Body.length:Int))) then
  let x2<-idx x.Body t64
  let y7<-pH p x2 x1
  if(!y7) then
   pure (.ret (([]:List zX),false))
  else
   let y8<-tU x1
   let out6<-app 40 bM ([(zX.mk t26 t64 y8)]:List zX)
   vC p t26 x x1 out6 (W (t64+1))
 else
  pure (.done bM)
 partial_fixpoint
theorem eW(p:zP)(t26:Int)(x:zJ)(x1:(List Int)):∀(bM:List zX) (t64:Int) (o:Out (List zX) ((List zX)×Bool)),vC p t26 x x1 bM t64=some o->∀{B}{I0 I:Imm}{Q}{y2:(List (List Int))}{t54:Int}{p1 c p2 c1}{b:Nat}{p5 c4 p6 c5}{b1:Nat}{p7 c6 p14 bm p15 c14 bD},I0.le I->(S4 I p5 x.Nest c4)->(S4 I p6 x.Body c5)->(At I ⟨b1,0,none⟩ (cPart x p5 c4 p6 c5))->(S4 I p14 x1 bm)->(S4 I p2 p.Parts c1)->(S4 I p7 y2 c6)->(S4 I p1 p.Arrays c)->(RL I bD bM)->NG Q->NO Q->(∀(I':Imm) (out5:List zX) (p16:Option Addr) (c15:Nat) (bG:List Value),o=(.done out5)->I0.le I'->(RL I' bG out5)->T 89 B Q (.exit 4) I' [hO zX (vS p16 out5 c15) bG,hB b (cProg p p1 c p2 c1)] [(1,vP b 0),(4,vS p16 out5 c15),(5,vI t26),(6,vP b1 0),(24,vS p2 p.Parts c1),(25,vI (p.Parts.length:Int)),(26,vI t26),(52,vS p7 y2 c6),(53,vI (y2.length:Int)),(54,vI t54)])->(∀r I' ai m',o=(.ret r)->I0.le I'->RS Tryz.prog f43 B (rR  r) I' ai m'->T 89 B Q .ret I' ai m')->J Tryz.prog 89 B (nav (bodyOf f43) [1,1,1,0,1,0,0,1,1,0,0,1,1,1,1,0,0,1,1,0,0,1,1,1,0]) Q I [hO zX (vS p15 bM c14) bD,hB b (cProg p p1 c p2 c1)] [(1,vP b 0),(4,vS p15 bM c14),(5,vI t26),(6,vP b1 0),(10,vS p14 x1 bm),(24,vS p2 p.Parts c1),(25,vI (p.Parts.length:Int)),(26,vI t26),(52,vS p7 y2 c6),(53,vI (y2.length:Int)),(54,vI t54),(62,vS p6 x.Body c5),(63,vI (x.Body.length:Int)),(64,vI t64)]:=by
 refine vC.partial_correctness p t26 x x1 _ λaN ih bM t64 o N B I0 I Q y2 t54 p1 c p2 c1 b p5 c4 p6 c5 b1 p7 c6 p14 bm p15 c14 bD H h6 h7 ap h18 h1 h8 h h20 hg ho hx hr=>yY hg ho<|yJ [65] rfl<|zW<|yC N ?_ ?_
 ·intro hc8 N;refine zS<|zW<|yK<|yE<|yG 1 [] [66] rfl<|bE N λx2 hy7 N=>wB rfl rfl h7 hy7 ?_;intro ad2 bP hat3 bj;obtain⟨p17,c16,p18,c17,p19,c18,p20,c19,rfl,h22,h23,h24,h25⟩:=uP bj;refine xU 0 hat3 (cStmt x2 p17 c16 p18 c17 p19 c18 p20 c19) (vA (cStmt x2 p17 c16 p18 c17 p19 c18 p20 c19)) rfl<|vG [vT ([]),z0,vI 0,vI 0,z0,vI 0,vT ([]),z0,z0] ?_;intro b2 hb2;refine yG 5 [] [11] rfl<|xW 0 (cStmt x2 p17 c16 p18 c17 p19 c18 p20 c19) rfl<|yB rfl<|zW<|yE<|qX 3 [2,0] [(69,vA (cProg p p1 c p2 c1)),(70,vA (cStmt x2 p17 c16 p18 c17 p19 c18 p20 c19)),(71,vS p14 x1 bm)]<|bE N λy7 hy8 N=>vH (zAp p x2 x1 _ hy8 h h1 h22 h23 h24 h25 h18) ?_;intro I08 le8;have ⟨h20,h6,h7,ap,h18,h1⟩:=m6 le8 h20 h6 h7 ap h18 h1;have ⟨h8,h,H⟩:=m3 le8 h8 h H;refine yQ [] [73] rfl<|zI<|yC N ?_ ?_
  ·intro hc9 N;exact yJ [2,3] rfl<|xJ<|zF<|zR<|zF<|zF<|hr _ _ _ _ (zB N).symm H ⟨_,_,(.tmp rfl (.tmp rfl ResV.nil)),zN,⟨_,_,rfl,rfl,(SL.nil _),rfl⟩⟩
  intro hc9 N;refine zS<|zI<|zL<|yG 4 [] [74,75,76,77] rfl<|bE N λy8 hy9 N=>xX (kM x1 _ hy9 h18) ?_;rintro I09 ax v2 k2 le9 - ⟨p21,c20,cs6,rfl,rfl,h27⟩ -;have ⟨h6,h7,ap,h18,h1,h8⟩:=m6 le9 h6 h7 ap h18 h1 h8;have ⟨h20,h,H⟩:=m3 le9 h20 h H;refine yG 6 [] [79] rfl<|wA 0 rfl ?_;intro bN le10 hl01;have h28:=SL.of_frozen hl01 le10 h27;have ⟨h6,h7,ap,h18,h1,h8⟩:=m6 le10 h6 h7 ap h18 h1 h8;have ⟨h20,h,H⟩:=m3 le10 h20 h H;refine qB [vI t26,vI t64,vS p21 y8 c20] zX ?_;intro b3 hb3;have h29:RL bN [vI t26,vI t64,vS p21 y8 c20] ([(zX.mk t26 t64 y8)]:List zX):=⟨[vI t26,vI t64,vS p21 y8 c20],_,rfl,rfl,(zC3 ⟨_,rfl,h28⟩),rfl⟩;obtain⟨out6,hy10,N⟩:=zC N;exact mD 142 3 2 rfl rfl rfl h20 (.inr ⟨0,rfl⟩) h29 hy10 λp22 c21 cs7 h30=>rS (zY [1,2,3] (ai:=[hB b2 (cStmt x2 p17 c16 p18 c17 p19 c18 p20 c19),hO zX (vS p22 out6 c21) cs7,hB b (cProg p p1 c p2 c1)]))<|yQ [] [4] rfl<|zO<|zI<|zL<|yQ [] [64] rfl<|yW<|kJ (zV [1,2] rfl (by decide))<|mE<|ih out6 (W (t64+1)) _ N H h6 h7 ap h18 h1 h8 h h30 hg ho hx hr
 intro hc8 N;exact vQ<|yS<|hx _ _ _ _ _ (zB N).symm H h20
def vD(p:zP)(t26:Int)(x:zJ)(y2:(List (List Int)))(aC:List zX)(t54:Int):Option (Out (List zX) ((List zX)×Bool)):=do
 if(decide (t54<(y2.length:Int))) then
  let x1<-idx y2 t54
  let y6<-gG x1
  if(!y6) then
   pure (.ret (([]:List zX),false))
  else
   match<-vC p t26 x x1 aC 0 with
   | .ret r0=>pure (.ret r0)
   | .done out5=>
    vD p t26 x y2 out5 (W (t54+1))
 else
  pure (.done aC)
 partial_fixpoint
theorem eX(p:zP)(t26:Int)(x:zJ)(y2:(List (List Int))):∀(aC:List zX) (t54:Int) (o:Out (List zX) ((List zX)×Bool)),vD p t26 x y2 aC t54=some o->∀{B}{I0 I:Imm}{Q p1 c p2 c1}{b:Nat}{p5 c4 p6 c5}{b1:Nat}{p7 c6 bv aU bf},I0.le I->(S4 I p5 x.Nest c4)->(S4 I p6 x.Body c5)->(At I ⟨b1,0,none⟩ (cPart x p5 c4 p6 c5))->(S4 I p2 p.Parts c1)->(S4 I p7 y2 c6)->(S4 I p1 p.Arrays c)->(RL I bf aC)->NG Q->NO Q->(∀(I':Imm) (bz:List zX) (bb:Option Addr) (bc:Nat) (bd:List Value),o=(.done bz)->I0.le I'->(RL I' bd bz)->T 89 B Q (.exit 2) I' [hO zX (vS bb bz bc) bd,hB b (cProg p p1 c p2 c1)] [(1,vP b 0),(4,vS bb bz bc),(24,vS p2 p.Parts c1),(25,vI (p.Parts.length:Int)),(26,vI t26)])->(∀r I' ai m',o=(.ret r)->I0.le I'->RS Tryz.prog f43 B (rR  r) I' ai m'->T 89 B Q .ret I' ai m')->J Tryz.prog 89 B (nav (bodyOf f43) [1,1,1,0,1,0,0,1,1,0,0,1,1,1,1,0]) Q I [hO zX (vS bv aC aU) bf,hB b (cProg p p1 c p2 c1)] [(1,vP b 0),(4,vS bv aC aU),(5,vI t26),(6,vP b1 0),(24,vS p2 p.Parts c1),(25,vI (p.Parts.length:Int)),(26,vI t26),(52,vS p7 y2 c6),(53,vI (y2.length:Int)),(54,vI t54)]:=by
 refine vD.partial_correctness p t26 x y2 _ λaN ih aC t54 o N B I0 I Q p1 c p2 c1 b p5 c4 p6 c5 b1 p7 c6 bv aU bf H h6 h7 ap h1 h8 h h16 hg ho hx hr=>yY hg ho<|yJ [55] rfl<|zW<|yC N ?_ ?_
 ·intro hc6 N;refine zS<|zW<|yK<|yE<|bE N λx1 bB N=>wB rfl rfl h8 bB ?_;intro ad1 bi bh aw;obtain⟨v011,rfl,h18⟩:=aw;obtain⟨p14,bm,rfl⟩:=h18.form;refine xU 0 bh [vS p14 x1 bm] (vS p14 x1 bm) rfl<|yQ [] [10] rfl<|zW<|yE<|yG 1 [] [58] rfl<|bE N λy6 hy6 N=>vH (zEg x1 _ hy6 h18) ?_;intro I07 le7;have ⟨h16,h6,h7,ap,h18,h1⟩:=m6 le7 h16 h6 h7 ap h18 h1;have ⟨h8,h,H⟩:=m3 le7 h8 h H;refine yQ [] [60] rfl<|zI<|yC N ?_ ?_
  ·intro hc7 N;exact yJ [2,3] rfl<|xJ<|zF<|zR<|zF<|zF<|hr _ _ _ _ (zB N).symm H ⟨_,_,(.tmp rfl (.tmp rfl ResV.nil)),zN,⟨_,_,rfl,rfl,(SL.nil _),rfl⟩⟩
  intro hc7 N;refine zS<|xN<|yG 1 [] [61] rfl<|xU 1 ap [vS p6 x.Body c5] (vS p6 x.Body c5) rfl<|yQ [] [63,64] rfl<|wS<|oR [(1,vP b 0),(4,vS bv aC aU),(5,vI t26),(6,vP b1 0),(10,vS p14 x1 bm),(24,vS p2 p.Parts c1),(25,vI (p.Parts.length:Int)),(26,vI t26),(52,vS p7 y2 c6),(53,vI (y2.length:Int)),(54,vI t54),(62,vS p6 x.Body c5),(63,vI (x.Body.length:Int)),(64,vI 0)] ?_;obtain⟨o02,ho02,aF⟩:=zC N;refine eW p t26 x x1 aC 0 o02 ho02 iR h6 h7 ap h18 h1 h8 h h16 (λ_ _ _ h=>hg _ _ _ h) (λ_ _ h=>ho _ _ h) ?_ ?_
  ·intro bW out5 p16 c15 bG heq2 le11 h21;subst o02;have ⟨h6,h7,ap,h1,h8,h⟩:=m6 le11 h6 h7 ap h1 h8 h;have H:=H.trans le11;exact zT<|zO<|zI<|zL<|yQ [] [54] rfl<|yW<|mE<|ih out5 (W (t54+1)) _ aF H h6 h7 ap h1 h8 h h21 hg ho hx hr
  intro r0 I9 hs9 m9 aG le9 aH;subst aG;exact zR<|zR<|zF<|zF<|hr _ _ _ _ (zB aF).symm (H.trans le9) aH
 intro hc6 N;exact vQ<|yS<|hx _ _ _ _ _ (zB N).symm H h16
def vE(p:zP)(out:List zX)(t26:Int):Option (Out (List zX) ((List zX)×Bool)):=do
 if(decide (t26<(p.Parts.length:Int))) then
  let x<-idx p.Parts t26
  let (y2,y3)<-mO x.Nest
  let t51<-(do
   if(!y3) then
    pure true
   else
    let y4<-wT (x.Body.length:Int) 1 4
    if(!y4) then
     pure true
    else
     let y5<-wL x.Body (λx0=>vK x0 x)
     pure (id y5)
     : Option Bool)
  if t51 then
   pure (.ret (([]:List zX),false))
  else
   match<-vD p t26 x y2 out 0 with
   | .ret r0=>pure (.ret r0)
   | .done bz=>
    vE p bz (W (t26+1))
 else
  pure (.done out)
 partial_fixpoint
theorem eY(p:zP):∀(out:List zX) (t26:Int) (o:Out (List zX) ((List zX)×Bool)),vE p out t26=some o->∀{B}{I0 I:Imm}{Q p1 c p2 c1}{b:Nat}{p3 c2 cs},I0.le I->(S4 I p2 p.Parts c1)->(S4 I p1 p.Arrays c)->(RL I cs out)->NG Q->NO Q->(∀(I':Imm) (aq:List zX) (p4:Option Addr) (c3:Nat) (aL:List Value),o=(.done aq)->I0.le I'->(RL I' aL aq)->T 89 B Q (.exit 0) I' [hO zX (vS p4 aq c3) aL] [(4,vS p4 aq c3)])->(∀r I' ai m',o=(.ret r)->I0.le I'->RS Tryz.prog f43 B (rR  r) I' ai m'->T 89 B Q .ret I' ai m')->J Tryz.prog 89 B (nav (bodyOf f43) [1,1,1,0,1,0]) Q I [hO zX (vS p3 out c2) cs,hB b (cProg p p1 c p2 c1)] [(1,vP b 0),(4,vS p3 out c2),(24,vS p2 p.Parts c1),(25,vI (p.Parts.length:Int)),(26,vI t26)]:=by
 refine vE.partial_correctness p _ λaN ih out t26 o N B I0 I Q p1 c p2 c1 b p3 c2 cs H h1 h h4 hg ho hx hr=>yY hg ho<|yJ [27] rfl<|zW<|yC N ?_ ?_
 ·intro aQ N;refine zS<|zW<|yK<|yE<|yG 1 [] [28] rfl<|bE N λx ay N=>wB rfl rfl h1 ay ?_;intro ad aK ar al;obtain⟨p5,c4,p6,c5,rfl,h6,h7⟩:=vL al;refine xU 0 ar (cPart x p5 c4 p6 c5) (vA (cPart x p5 c4 p6 c5)) rfl<|vG zTwo ?_;intro b1 hb1;refine yG 5 [] [5] rfl<|xW 0 (cPart x p5 c4 p6 c5) rfl<|yB rfl<|xN<|yG 2 [0] [33] rfl ?_;obtain⟨⟨y2,y3⟩,aI,N⟩:=zC N;refine xX (zC5 x.Nest _ aI h6) ?_;rintro aS ax v2 k2 aE - ⟨v03,v04,rfl,rfl,h8,rfl⟩ -;have ⟨h4,h1,h6,h7,h,H⟩:=m6 aE h4 h1 h6 h7 h H;obtain⟨p7,c6,rfl⟩:=h8.form;refine yQ [] [7,8] rfl<|zW<|yA<|nU 0 rfl ?_;intro bw aJ hl0;have ap:At bw ⟨b1,0,none⟩ (cPart x p5 c4 p6 c5):=At.of_blk hl0;have ⟨h4,h6,h7,h8,h1,h⟩:=m6 aJ h4 h6 h7 h8 h1 h;have H:=H.trans aJ;refine wQ N [hO zX (vS p3 out c2) cs,hB b (cProg p p1 c p2 c1)] (λt51=>[(1,vP b 0),(4,vS p3 out c2),(5,vI t26),(6,vP b1 0),(7,vS p7 y2 c6),(24,vS p2 p.Parts c1),(25,vI (p.Parts.length:Int)),(26,vI t26),(51,.bool t51)]) (λaO aB=>?_) ?_
  ·have H:=iS bw;refine zL<|yG 3 [] [39] rfl<|wC [39] aB ?_ ?_
   ·intro bu N;exact wN [] [(51,vY)]<|yS<|zU (ct N H)
   intro bu N;refine yG 4 [] [40] rfl<|xU 1 ap [vS p6 x.Body c5] (vS p6 x.Body c5) rfl<|yG 6 [] [42] rfl<|bE N λy4 aW N=>vH (vJ (x.Body.length:Int) 1 4 _ aW ) ?_;intro bL aX;have ⟨h6,h7,ap,h,H⟩:=m5 aX h6 h7 ap h H;refine yG 10 [] [46] rfl<|wC [46] N ?_ ?_
   ·intro bK N;exact wN [] [(51,vY)]<|yS<|zU (ct N H)
   intro bK N;refine yG 11 [] [47] rfl<|xU 1 ap [vS p6 x.Body c5] (vS p6 x.Body c5) rfl<|yG 13 [] [49] rfl ?_;have hf0:FV1 Tryz.prog bL [] (.func (.func 96) ⟨[]⟩ ⟨[vP b1 0]⟩) (λx0=>vK x0 x):=by
    refine FV1.intro ?_;intro I1 af x0 r u0 hF k0;obtain⟨_,rfl,k0⟩:=k0;obtain⟨p8,c7,p9,c8,aZ,c9,aT,ba,rfl,h11,h12,h13,h14⟩:=uP k0;exact(dI x0 x r hF h11 h12 h13 h14 (h6.mono af) (h7.mono af) (ap.mono af)).mono (by rintro k i hs u ⟨v0,rfl,rfl,h⟩;exact⟨rfl,h⟩)
   obtain⟨y5,br,N⟩:=zC N;refine xX (jD x.Body (λx0=>vK x0 x) _ br h7 hf0) ?_;rintro I06 ax v2 k2 bt - ⟨v010,rfl,rfl,rfl⟩ -;have H:=H.trans bt;exact yQ [] [51] rfl<|yS<|zU (ct N H)
  intro t51 bI bx hMc1;have ⟨h4,h6,h7,ap,h8,h1⟩:=m6 bx h4 h6 h7 ap h8 h1;have ⟨h,H⟩:=m2 bx h H;refine zI<|yC hMc1 ?_ ?_
  ·intro hc5 N;exact yJ [2,3] rfl<|xJ<|zF<|zR<|zF<|zF<|hr _ _ _ _ (zB N).symm H ⟨_,_,(.tmp rfl (.tmp rfl ResV.nil)),zN,⟨_,_,rfl,rfl,(SL.nil _),rfl⟩⟩
  intro hc5 N;refine zS<|uN [52,53,54] rfl<|wS<|oR [(1,vP b 0),(4,vS p3 out c2),(5,vI t26),(6,vP b1 0),(24,vS p2 p.Parts c1),(25,vI (p.Parts.length:Int)),(26,vI t26),(52,vS p7 y2 c6),(53,vI (y2.length:Int)),(54,vI 0)] ?_;obtain⟨o03,ho03,hMl1⟩:=zC N;refine eX p t26 x y2 out 0 o03 ho03 iR h6 h7 ap h1 h8 h h4 (λ_ _ _ h=>hg _ _ _ h) (λ_ _ h=>ho _ _ h) ?_ ?_
  ·intro bV bz bb bc bd heq3 le12 h17;subst o03;have ⟨h1,h,H⟩:=m3 le12 h1 h H;exact zT<|zO<|zI<|zL<|yQ [] [26] rfl<|yW<|mE<|ih bz (W (t26+1)) _ hMl1 H h1 h h17 hg ho hx hr
  intro r0 I9 hs9 m9 aG le9 aH;subst aG;exact zR<|zR<|zF<|zF<|hr _ _ _ _ (zB hMl1).symm (H.trans le9) aH
 intro aQ N;exact vQ<|wD (zV [0] rfl (by decide))<|yS<|hx _ _ _ _ _ (zB N).symm H h4
def sR(p:zP):Option ((List zX)×Bool):=do
 let t22<-(do
  let y<-jI p.Arrays
  if(!y) then
   pure true
  else
   pure (decide ((p.Parts.length:Int)>4))
    : Option Bool)
 if t22 then
  pure (([]:List zX),false)
 else
  match<-vE p ([]:List zX) 0 with
  | .ret r0=>pure r0
  | .done aq=>
   pure (aq,(decide ((aq.length:Int)<=120)))
theorem zAG:∀p r,sR p=some r->∀{I:Imm}{p1 c p2 c1},(S4 I p1 p.Arrays c)->(S4 I p2 p.Parts c1)->RT 43 [vA (cProg p p1 c p2 c1)] I [] (rR  r):=by
 intro p r N I p1 c p2 c1 h h1;unfold sR at N;refine yP func43 λB=>?_;have H:=iS I;refine yE<|vM (cProg p p1 c p2 c1) ?_;intro b hb;refine wN [] []<|zW<|yA ?_;refine wQ N [hB b (cProg p p1 c p2 c1)] (λt22=>[(1,vP b 0),(22,.bool t22)]) (λo0 az=>?_) ?_
 ·have H:=iS I;refine zL<|yG 2 [0] [14] rfl ?_;obtain⟨y,hy,N⟩:=zC az;refine vH (zDz p.Arrays _ hy h) ?_;intro aP le;have H:=H.trans le;refine yG 5 [] [17] rfl<|wC [17] N ?_ ?_
  ·intro hc N;exact wN [] [(22,vY)]<|yS<|zU (ct N H)
  intro hc N;exact yQ [0] [22] rfl<|yS<|zU (ct N H)
 intro t22 I0 af aM;have ⟨h,h1⟩:=m2 af h h1;refine zI<|yC aM ?_ ?_
 ·intro aD N;refine yJ [2,3] rfl<|xJ<|zF ?_;obtain rfl:=zB N;exact xL ⟨_,_,(.tmp rfl (.tmp rfl ResV.nil)),zN,⟨_,_,rfl,rfl,(SL.nil _),rfl⟩⟩
 intro aD N;refine zS<|zBL [(4,z0)]<|zW<|yE<|yQ [0] [24,25,26] rfl<|wS<|oR [(1,vP b 0),(4,z0),(24,vS p2 p.Parts c1),(25,vI (p.Parts.length:Int)),(26,vI 0)]<|zAm zX λh3=>?_;obtain⟨o04,ho04,hMl2⟩:=zC N;refine eY p ([]:List zX) 0 o04 ho04 iR h1 h h3 (λ_ _ _ h=>h) (λ_ _ h=>h) ?_ ?_
 ·intro I013 aq p4 c3 aL heq4 le13 h5;subst o04;refine zT<|uN [2,3] rfl<|xJ<|wH 0 rfl ?_;intro I014 le14 hl02;have h31:=SL.of_frozen hl02 le14 h5;obtain rfl:=zB hMl2;exact xL ⟨_,_,(.tmp rfl (.tmp rfl ResV.nil)),zN,⟨_,_,rfl,rfl,h31,rfl⟩⟩
 intro r0 I9 hs9 m9 aG le9 aH;subst aG;refine zR<|zF ?_;obtain rfl:=zB hMl2;exact xL aH
def nK(p:zP):Option (Bool):=do
 let (y1,y2)<-sR p
 pure (id y2)
theorem zBa:∀p r,nK p=some r->∀{I:Imm}{p1 c p2 c1},(S4 I p1 p.Arrays c)->(S4 I p2 p.Parts c1)->RT 11 [vA (cProg p p1 c p2 c1)] I [] (zQ  r):=by
 intro p r N I p1 c p2 c1 h h1;unfold nK at N;refine yP func11 λB=>yE<|vM (cProg p p1 c p2 c1) ?_;intro b hb;refine wN [] []<|xN<|qX 1 [0] [(6,vA (cProg p p1 c p2 c1))] ?_;obtain⟨⟨y1,y2⟩,hy,N⟩:=zC N;refine xX (zAG p _ hy h h1) ?_;rintro I0 ax v2 k2 le - ⟨v0,v01,rfl,rfl,h2,rfl⟩ -;obtain⟨p3,c2,rfl⟩:=h2.form;refine yQ [] [4] rfl<|uN [2] rfl<|zI<|yX ?_;obtain rfl:=zB N;exact wI
def xT(r:Str):KT:=λkk I' ai v=>
 ∃v0,ai=[]/\v=tupV [v0]/\v0=.string ⟨⟨r.l⟩⟩
def oT(i:Int):Option Str:=if -9223372036854775808<=i/\i<=9223372036854775807 then some ⟨Lib.itoa i⟩ else none
theorem fG:∀i r,oT i=some r->∀{I:Imm},GH Tryz.prog I->RT 87 [vI i] I [] (xT r):=by
 intro i r N I hG;unfold oT at N;split at N
 ·rename_i hi;cases N
  exact zKw (λw g=>Tryz.strconv_Itoa i hi.1 hi.2 w (hG.tab g)) (λk=>⟨_,rfl,rfl,rfl⟩)
 cases N
def zAq(b0:Nat)(r:Str):KT:=λkk I' ai v=>
 ∃k0,ai=[.blk b0 ⟨k0⟩]/\v=tupV []/\Rp.rep I' k0 r
def qZ(n0:Int)(x:Str):Option (Str):=do
 let x1<-(do
  if(decide (n0<0)) then
   let s<-cat x (⟨[45]⟩:Str)
   pure (id s)
  else
   let x2<-(do
    if(!(x.l==([]:List UInt8))) then
     let s1<-cat x (⟨[43]⟩:Str)
     pure (id s1)
    else
     pure (id x)
      : Option Str)
   pure (id x2)
    : Option Str)
 pure (id x1)
theorem eM:∀n0 x r,qZ n0 x=some r->∀{I:Imm}{r0:Nat},RT 214 [vI n0,vP r0 0] I [hB r0 [vT x.l]] (zAq r0 r):=by
 intro n0 x r N I r0;unfold qZ at N;refine yP func214 λB=>?_;have H:=iS I;refine yJ [4] rfl<|zI ?_;obtain⟨o0,az,aM⟩:=zC N;refine nH (λI' ai m'=>∃(x1:Str),o0=x1/\I.le I'/\ai=[hB r0 [vT x1.l]]/\m'=[]) ?_ ?_
 ·have H:=iS I;refine yC az ?_ ?_
  ·intro hc N;refine zL<|yG 1 [0] [5] rfl ?_;obtain⟨s,hy,N⟩:=zC N;exact oL rfl hy<|xW 0 [vT s.l] rfl<|yB rfl<|yS<|zU (ct N H)
  intro hc N;refine yE<|yQ [0] [8] rfl<|zI ?_;obtain⟨aO,aB,hMc1⟩:=zC N;refine nH (λI' ai m'=>∃(x2:Str),aO=x2/\I.le I'/\ai=[hB r0 [vT x2.l]]/\m'=[]) ?_ ?_
  ·have H:=iS I;refine yC aB ?_ ?_
   ·intro aD N;refine zL<|yG 1 [0] [9] rfl ?_;obtain⟨s1,ay,N⟩:=zC N;exact oL rfl ay<|xW 0 [vT s1.l] rfl<|yB rfl<|yS<|zU (ct N H)
   intro aD N;exact zS<|yS<|zU (ct N H)
  rintro aP ax m2 ⟨x2,heq,le,rfl,rfl⟩;subst aO;have H:=H.trans le;exact yS<|zU (ct hMc1 H)
 rintro I0 ax m2 ⟨x1,heq1,af,rfl,rfl⟩;subst o0;obtain rfl:=zB aM;exact zMR ⟨_,_,ResV.nil,(zV [0] rfl (by decide)),⟨_,rfl,rfl,rfl⟩⟩
def uO(a0:zA)(t12:Int)(x:Str):Option (Str):=do
 if(decide (t12<(a0.Coefs.length:Int))) then
  let x2<-idx a0.Coefs t12
  if(x2==0) then
   uO a0 (W (t12+1)) x
  else
   let y<-qZ x2 x
   let x3<-(do
    if(decide ((if(W (0 - x2))>x2 then(W (0 - x2)) else x2)>1)) then
     let y1<-oT (if(W (0 - x2))>x2 then(W (0 - x2)) else x2)
     let s<-cat y1 (⟨[42]⟩:Str)
     let s1<-cat y s
     pure (id s1)
    else
     pure (id y)
      : Option Str)
   let s2<-sslc (⟨[105,106,107,108]⟩:Str) t12 (W (t12+1))
   let s3<-cat x3 s2
   uO a0 (W (t12+1)) s3
 else
  pure (id x)
 partial_fixpoint
theorem zBP(a0:zA):∀(t12:Int) (x:Str) (o:Str),uO a0 t12 x=some o->∀{B}{I0 I:Imm}{Q p c}{b:Nat}{b1:Nat},I0.le I->(S4 I p a0.Coefs c)->(GH Tryz.prog I)->NG Q->NO Q->(∀(I':Imm) (x1:Str),o=x1->I0.le I'->T 59 B Q (.exit 0) I' [hB b1 [vT x1.l],hB b (cAff a0 p c)] [(1,vP b 0),(3,vP b1 0),(4,.func (.func 214) ⟨[]⟩ ⟨[vP b1 0]⟩)])->J Tryz.prog 59 B (nav (bodyOf f174) [1,1,1,0,1,0]) Q I [hB b1 [vT x.l],hB b (cAff a0 p c)] [(1,vP b 0),(3,vP b1 0),(4,.func (.func 214) ⟨[]⟩ ⟨[vP b1 0]⟩),(10,vS p a0.Coefs c),(11,vI (a0.Coefs.length:Int)),(12,vI t12)]:=by
 refine uO.partial_correctness a0 _ λaN ih t12 x o N B I0 I Q p c b b1 H h hG hg ho hx=>yY hg ho<|yJ [13] rfl<|zW<|yC N ?_ ?_
 ·intro hc N;refine zS<|zW<|yK<|yE<|yG 1 [] [14] rfl<|bE N λx2 hy N=>wB rfl rfl h hy ?_;intro ad aK ar al;obtain rfl:=al;refine xU 0 ar [vI x2] (vI x2) rfl<|yQ [] [5,6] rfl<|zW<|yJ [18] rfl<|zI<|yC N ?_ ?_
  ·intro aD N;exact zFJ<|gD<|zT<|zI<|zL<|yQ [] [12] rfl<|yW<|mE<|ih (W (t12+1)) x _ N H h hG hg ho hx
  intro aD N;refine zS<|xN<|yG 2 [] [19,20] rfl<|bE N λy ay N=>zFD (hs1:=[hB b1 [vT x.l]]) (rest:=[hB b (cAff a0 p c)]) rfl rfl (by kernel_rfl) rfl rfl (eM x2 x _ ay ) ?_;rintro I0 ax v2 k2 le - ⟨kk,rfl,rfl,h1⟩ -;have ⟨h,hG,H⟩:=m3 le h hG H;obtain rfl:=h1;refine yB rfl<|zW<|yJ [7] rfl<|uN [27] rfl<|zI ?_;obtain⟨o0,az,aM⟩:=zC N;refine nH (λI' ai m'=>∃(x3:Str),o0=x3/\I0.le I'/\ai=[hB b1 [vT x3.l],hB b (cAff a0 p c)]/\m'=[(1,vP b 0),(3,vP b1 0),(4,.func (.func 214) ⟨[]⟩ ⟨[vP b1 0]⟩),(5,vI t12),(10,vS p a0.Coefs c),(11,vI (a0.Coefs.length:Int)),(12,vI t12)]) ?_ ?_
  ·have H:=iS I0;refine yC az ?_ ?_
   ·intro aQ N;obtain⟨y1,aI,N⟩:=zC N;obtain⟨s,aW,N⟩:=zC N;obtain⟨s1,br,N⟩:=zC N;refine wU [.p (vT y.l) [0],.p (vI (if(W (0 - x2))>x2 then(W (0 - x2)) else x2)) [],.q (vT y1.l),.q (vT s.l),.q (vT s1.l)] [[],[],[(1,false)],[(2,false)],[(0,false),(3,false)]] [hB b1 [vT y.l],hB b (cAff a0 p c)] [] [(4,false)] (zY [0,1]) ?_ ?_
    ·refine Op<|Op<|Oq ?_<|Oq ?_<|Oq ?_<|On
     ·intro I1 hf af;refine yV [29] rfl ?_;have H:=iS I1;have hG:=hG.mono af;refine xX (fG (if(W (0 - x2))>x2 then(W (0 - x2)) else x2) _ aI hG) ?_;rintro aS ax v2 k2 af - ⟨v0,rfl,rfl,rfl⟩ -;have H:=H.trans af;exact xA H
     ·intro I1 hf af;exact yV [30] rfl<|oL rfl aW<|xA iR
     intro I1 hf af;exact yV [28,31] rfl<|oL rfl br<|xA iR
    intro bw aE;refine yV [1,3,4,5,10,11,12,32] rfl ?_;have H:=H.trans aE;exact xW 0 [vT s1.l] rfl<|yB rfl<|yS<|zU (ct N H)
   intro aQ N;exact zS<|yS<|zU (ct N H)
  rintro aP ax m2 ⟨x3,heq,aJ,rfl,rfl⟩;subst o0;have ⟨h,hG,H⟩:=m3 aJ h hG H;refine zI ?_;obtain⟨s2,bB,N⟩:=zC aM;obtain⟨s3,hy6,N⟩:=zC N;refine wU [.p (vT x3.l) [0],.p (vI t12) [],.p (vI t12) [],.p (vI (W (t12+1))) [],.q (vT s2.l),.q (vT s3.l)] [[],[],[],[(2,false)],[(1,false),(3,false)],[(0,false),(4,false)]] [hB b1 [vT x3.l],hB b (cAff a0 p c)] [] [(5,false)] (zY [0,1]) ?_ ?_
  ·refine Op<|Op<|Op<|Op<|Oq ?_<|Oq ?_<|On
   ·intro I1 hf af;exact yV [34,36] rfl<|zEd rfl bB<|xA iR
   intro I1 hf af;exact yV [33,37] rfl<|oL rfl hy6<|xA iR
  intro bI aX;refine yV [1,3,4,10,11,12,38] rfl ?_;have ⟨h,hG,H⟩:=m3 aX h hG H;exact xW 0 [vT s3.l] rfl<|yB rfl<|zO<|zI<|zL<|yQ [] [12] rfl<|yW<|mE<|ih (W (t12+1)) s3 _ N H h hG hg ho hx
 intro hc N;exact vQ<|yS<|hx _ _ (zB N).symm H
def oU(a0:zA):Option (Str):=do
 let x1<-uO a0 0 (⟨[]⟩:Str)
 let x4<-(do
  if(a0.Const != 0) then
   let y2<-qZ a0.Const x1
   let y3<-oT (if(W (0 - a0.Const))>a0.Const then(W (0 - a0.Const)) else a0.Const)
   let s4<-cat y2 y3
   pure (id s4)
  else
   pure (id x1)
    : Option Str)
 if(x4.l==([]:List UInt8)) then
  pure (⟨[48]⟩:Str)
 else
  pure (id x4)
theorem dO:∀a0 r,oU a0=some r->∀{I:Imm}{p c},(S4 I p a0.Coefs c)->(GH Tryz.prog I)->RT 174 [vA (cAff a0 p c)] I [] (xT  r):=by
 intro a0 r N I p c h hG;unfold oU at N;refine yP func174 λB=>?_;have H:=iS I;refine yE<|vM (cAff a0 p c) ?_;intro b hb;refine wN [] []<|xN<|vG [vT ([])] ?_;intro b1 hb1;refine xW 0 [vT ([])] rfl<|yB rfl<|uN [4] rfl<|zW<|yE<|yQ [1] [10,11,12] rfl<|wS<|oR [(1,vP b 0),(3,vP b1 0),(4,.func (.func 214) ⟨[]⟩ ⟨[vP b1 0]⟩),(10,vS p a0.Coefs c),(11,vI (a0.Coefs.length:Int)),(12,vI 0)] ?_;obtain⟨aO,aB,aF⟩:=zC N;refine zBP a0 0 (⟨[]⟩:Str) aO aB iR h hG (λ_ _ _ h=>h) (λ_ _ h=>h) ?_;intro bL x1 heq1 bt;subst aO;have ⟨hG,H⟩:=m2 bt hG H;refine zT<|zW<|yE<|yQ [1] [42] rfl<|zI ?_;obtain⟨o02,ho02,hMc1⟩:=zC aF;refine nH (λI' ai m'=>∃(x4:Str),o02=x4/\bL.le I'/\ai=[hB b1 [vT x4.l]]/\m'=[(3,vP b1 0)]) ?_ ?_
 ·have H:=iS bL;refine yC ho02 ?_ ?_
  ·intro bu N;refine yE<|yG 3 [1] [43,45] rfl<|bE N λy2 hy7 N=>zFD (hs1:=[hB b1 [vT x1.l]]) (rest:=[hB b (cAff a0 p c)]) rfl rfl (by kernel_rfl) rfl rfl (eM a0.Const x1 _ hy7 ) ?_;rintro I07 ax v2 k2 bx - ⟨kk1,rfl,rfl,h3⟩ -;have ⟨hG,H⟩:=m2 bx hG H;obtain rfl:=h3;refine yB rfl<|zI ?_;obtain⟨y3,hy8,N⟩:=zC N;obtain⟨s4,hy9,N⟩:=zC N;refine wU [.p (vT y2.l) [0],.p (vP b 1) [],.p (vI a0.Const) [1],.p (vP b 1) [],.p (vI a0.Const) [1],.p (vI (W (0 - a0.Const))) [],.p (vI (if(W (0 - a0.Const))>a0.Const then(W (0 - a0.Const)) else a0.Const)) [],.q (vT y3.l),.q (vT s4.l)] [[],[],[(1,false)],[],[(3,false)],[(4,false)],[(2,false),(5,false)],[(6,false)],[(0,false),(7,false)]] [hB b1 [vT y2.l],hB b (cAff a0 p c)] [] [(8,false)] (zY [0,1]) ?_ ?_
   ·refine Op<|Op<|Op<|Op<|Op<|Op<|Op<|Oq ?_<|Oq ?_<|On
    ·intro I1 hf af;refine yV [53] rfl ?_;have H:=iS I1;have hG:=hG.mono af;refine xX (fG (if(W (0 - a0.Const))>a0.Const then(W (0 - a0.Const)) else a0.Const) _ hy8 hG) ?_;rintro I08 ax v2 k2 le7 - ⟨v01,rfl,rfl,rfl⟩ -;have H:=H.trans le7;exact xA H
    intro I1 hf af;exact yV [47,54] rfl<|oL rfl hy9<|xA iR
   intro I09 le8;refine yV [3,55] rfl ?_;have H:=H.trans le8;exact xW 0 [vT s4.l] rfl<|yB rfl<|wD (zV [0] rfl (by decide))<|yS<|zU (ct N H)
  intro bu N;exact zS<|wD (zV [0] rfl (by decide))<|yS<|zU (ct N H)
 rintro I06 ax m2 ⟨x4,heq2,le9,rfl,rfl⟩;subst o02;refine zW<|yE<|yQ [0] [57] rfl<|zI<|yC hMc1 ?_ ?_
 ·intro bK N;refine yJ [2] rfl<|xJ<|zF ?_;obtain rfl:=zB N;exact wI
 intro bK N;refine zS<|xN<|yQ [0] [2] rfl<|zI<|yX ?_;obtain rfl:=zB N;exact wI
def fR(elems:List Str)(sep:Str):Option Str:=if elems.length<=140737488355328/\(Lib.join (elems.map (·.l)) sep.l).length<=140737488355328 then some ⟨Lib.join (elems.map (·.l)) sep.l⟩ else none
theorem zEh:∀elems sep r,fR elems sep=some r->∀{I:Imm}{p c},SL I (vS p elems c) elems->RT 175 [vS p elems c,vT sep.l] I [] (xT r):=by
 intro elems sep r N I p c h;unfold fR at N;split at N
 ·rename_i hi;cases N
  exact zKI hi.1 hi.2 h (λa c w=>Tryz.strings_Join_none a c ⟨⟨sep.l⟩⟩ w) (λbk o c xs w h1 h2 h3 h4 h5=>Tryz.strings_Join bk o c xs ⟨⟨sep.l⟩⟩ w h1 h2 h3 h4 h5) λk=>⟨_,rfl,rfl,rfl⟩
 cases N
def tA(ah:(List zA))(out:List Str)(t8:Int):Option (List Str):=do
 if(decide (t8<(ah.length:Int))) then
  let x<-idx ah t8
  let y<-oU x
  let aC<-app 16 out ([y]:List Str)
  tA ah aC (W (t8+1))
 else
  pure (id out)
 partial_fixpoint
theorem zAr(ah:(List zA)):∀(out:List Str) (t8:Int) (o:List Str),tA ah out t8=some o->∀{B}{I0 I:Imm}{Q p c p1 c1 cs},I0.le I->(S4 I p ah c)->(GH Tryz.prog I)->(RL I cs out)->NG Q->NO Q->(∀(I':Imm) (aq:List Str) (p2:Option Addr) (c2:Nat) (aL:List Value),o=aq->I0.le I'->(RL I' aL aq)->T 20 B Q (.exit 0) I' [hO Str (vS p2 aq c2) aL] [(3,vS p2 aq c2)])->J Tryz.prog 20 B (nav (bodyOf f110) [1,1,0,1,0]) Q I [hO Str (vS p1 out c1) cs] [(3,vS p1 out c1),(6,vS p ah c),(7,vI (ah.length:Int)),(8,vI t8)]:=by
 refine tA.partial_correctness ah _ λaN ih out t8 o N B I0 I Q p c p1 c1 cs H h hG h2 hg ho hx=>yY hg ho<|yJ [9] rfl<|zW<|yC N ?_ ?_
 ·intro hc N;refine zS<|zW<|yK<|yE<|bE N λx hy N=>wB rfl rfl h hy ?_;intro ad aK ar al;obtain⟨p3,c3,rfl,h4⟩:=yD al;refine xU 0 ar (cAff x p3 c3) (vA (cAff x p3 c3)) rfl<|vG [z0,vI 0] ?_;intro b hb;refine xW 0 (cAff x p3 c3) rfl<|yB rfl<|zI<|zL<|qX 2 [0] [(12,vS p1 out c1),(13,vA (cAff x p3 c3))]<|bE N λy ay N=>xX (dO x _ ay h4 hG) ?_;rintro I0 ax v2 k2 le - ⟨v01,rfl,rfl,rfl⟩ -;have ⟨h,h2,hG,H⟩:=m4 le h h2 hG H;refine qB [vT y.l] Str ?_;intro b1 hb1;have h6:RL I0 [vT y.l] ([y]:List Str):=rT [y];obtain⟨aC,aI,N⟩:=zC N;exact mD 9 1 2 rfl rfl rfl h2 (.inr ⟨0,rfl⟩) h6 aI λp4 c4 bf h7=>rS (zY [1,2] (ai:=[hB b (cAff x p3 c3),hO Str (vS p4 aC c4) bf]))<|yQ [] [3] rfl<|zO<|zI<|zL<|yQ [] [8] rfl<|yW<|kJ (zV [1] rfl (by decide))<|mE<|ih aC (W (t8+1)) _ N H h hG h7 hg ho hx
 intro hc N;exact vQ<|yS<|hx _ _ _ _ _ (zB N).symm H h2
def rC(ah:(List zA)):Option (Str):=do
 let aq<-tA ah ([]:List Str) 0
 let y1<-fR aq (⟨[44]⟩:Str)
 pure (id y1)
theorem gT:∀ah r,rC ah=some r->∀{I:Imm}{p c},(S4 I p ah c)->(GH Tryz.prog I)->RT 110 [vS p ah c] I [] (xT  r):=by
 intro ah r N I p c h hG;unfold rC at N;refine yP func110 λB=>wM []<|zBL [(3,z0)]<|zW<|yJ [6,7,8] rfl<|wS<|oR [(3,z0),(6,vS p ah c),(7,vI (ah.length:Int)),(8,vI 0)]<|zAm Str λh1=>?_;obtain⟨o0,az,aF⟩:=zC N;refine zAr ah ([]:List Str) 0 o0 az iR h hG h1 (λ_ _ _ h=>h) (λ_ _ h=>h) ?_;intro aP aq p2 c2 aL heq af h3;subst o0;refine zT<|xN<|yG 1 [] [18] rfl<|wA 0 rfl ?_;intro aS aE hl0;have h8:=SL.of_frozen hl0 aE h3;obtain⟨y1,aW,N⟩:=zC aF;refine xX (zEh aq (⟨[44]⟩:Str) _ aW h8) ?_;rintro bw ax v2 k2 aJ - ⟨v02,rfl,rfl,rfl⟩ -;refine yQ [] [2] rfl<|zI<|yX ?_;obtain rfl:=zB N;exact wI
def rD(nest:(List zE))(out:Str)(t8:Int):Option (Str):=do
 if(decide (t8<(nest.length:Int))) then
  let x<-idx nest t8
  let y<-rC x.Lo
  let s<-cat (⟨[102,111,114,32]⟩:Str) y
  let s1<-cat s (⟨[32]⟩:Str)
  let y1<-rC x.Hi
  let s2<-cat s1 y1
  let s3<-cat s2 (⟨[10]⟩:Str)
  let s4<-cat out s3
  rD nest s4 (W (t8+1))
 else
  pure (id out)
 partial_fixpoint
theorem zCE(nest:(List zE)):∀(out:Str) (t8:Int) (o:Str),rD nest out t8=some o->∀{B}{I0 I:Imm}{Q p c},I0.le I->(S4 I p nest c)->(GH Tryz.prog I)->NG Q->NO Q->(∀(I':Imm) (aq:Str),o=aq->I0.le I'->T 26 B Q (.exit 0) I' [] [(3,vT aq.l)])->J Tryz.prog 26 B (nav (bodyOf f58) [1,1,0,1,0]) Q I [] [(3,vT out.l),(6,vS p nest c),(7,vI (nest.length:Int)),(8,vI t8)]:=by
 refine rD.partial_correctness nest _ λaN ih out t8 o N B I0 I Q p c H h hG hg ho hx=>yY hg ho<|yJ [9] rfl<|zW<|yC N ?_ ?_
 ·intro hc N;refine zS<|zW<|yK<|yE<|bE N λx hy N=>wB rfl rfl h hy ?_;intro ad aK ar al;obtain⟨p1,c1,p2,c2,rfl,h1,h2⟩:=wJ al;refine xU 0 ar (cLoop x p1 c1 p2 c2) (vA (cLoop x p1 c1 p2 c2)) rfl<|vG zTwo ?_;intro b hb;refine xW 0 (cLoop x p1 c1 p2 c2) rfl<|yB rfl<|zI ?_;obtain⟨y,ay,N⟩:=zC N;obtain⟨s,aI,N⟩:=zC N;obtain⟨s1,aW,N⟩:=zC N;obtain⟨y1,br,N⟩:=zC N;obtain⟨s2,bB,N⟩:=zC N;obtain⟨s3,hy6,N⟩:=zC N;obtain⟨s4,hy7,N⟩:=zC N;refine wU [.p (vT out.l) [],.p (vP b 0) [],.p (vS p1 x.Lo c1) [0],.q (vT y.l),.q (vT s.l),.q (vT s1.l),.p (vP b 1) [],.p (vS p2 x.Hi c2) [0],.q (vT y1.l),.q (vT s2.l),.q (vT s3.l),.q (vT s4.l)] [[],[],[(1,false)],[(2,false)],[(3,false)],[(4,false)],[],[(6,false)],[(7,false)],[(5,false),(8,false)],[(9,false)],[(0,false),(10,false)]] [hB b (cLoop x p1 c1 p2 c2)] [] [(11,false)] (zY [0]) ?_ ?_
  ·refine Op<|Op<|Op<|Oq ?_<|Oq ?_<|Oq ?_<|Op<|Op<|Oq ?_<|Oq ?_<|Oq ?_<|Oq ?_<|On
   ·intro I1 hf af;refine yV [14] rfl ?_;have H:=iS I1;have ⟨h1,hG⟩:=m2 af h1 hG;refine xX (gT x.Lo _ ay h1 hG) ?_;rintro I0 ax v2 k2 le - ⟨v02,rfl,rfl,rfl⟩ -;have H:=H.trans le;exact xA H
   ·intro I1 hf af;exact yV [15] rfl<|oL rfl aI<|xA iR
   ·intro I1 hf af;exact yV [16] rfl<|oL rfl aW<|xA iR
   ·intro I1 hf af;refine yV [19] rfl ?_;have H:=iS I1;have ⟨h2,hG⟩:=m2 af h2 hG;refine xX (gT x.Hi _ br h2 hG) ?_;rintro aP ax v2 k2 af - ⟨v03,rfl,rfl,rfl⟩ -;have H:=H.trans af;exact xA H
   ·intro I1 hf af;exact yV [17,20] rfl<|oL rfl bB<|xA iR
   ·intro I1 hf af;exact yV [21] rfl<|oL rfl hy6<|xA iR
   intro I1 hf af;exact yV [12,22] rfl<|oL rfl hy7<|xA iR
  intro aS aE;refine yV [6,7,8,23] rfl ?_;have ⟨h,hG,H⟩:=m3 aE h hG H;exact yQ [] [3] rfl<|zO<|zI<|zL<|yQ [] [8] rfl<|yW<|kJ zN<|mE<|ih s4 (W (t8+1)) _ N H h hG hg ho hx
 intro hc N;exact vQ<|yS<|hx _ _ (zB N).symm H
def jJ(nest:(List zE)):Option (Str):=do
 let aq<-rD nest (⟨[]⟩:Str) 0
 pure (id aq)
theorem zEB:∀nest r,jJ nest=some r->∀{I:Imm}{p c},(S4 I p nest c)->(GH Tryz.prog I)->RT 58 [vS p nest c] I [] (xT  r):=by
 intro nest r N I p c h hG;unfold jJ at N;refine yP func58 λB=>wM []<|uN [3] rfl<|zW<|yJ [6,7,8] rfl<|wS<|oR [(3,vT ([])),(6,vS p nest c),(7,vI (nest.length:Int)),(8,vI 0)] ?_;obtain⟨o0,az,aF⟩:=zC N;refine zCE nest (⟨[]⟩:Str) 0 o0 az iR h hG (λ_ _ _ h=>h) (λ_ _ h=>h) ?_;intro bw aq heq aJ;subst o0;refine zT<|uN [2] rfl<|zI<|yX ?_;obtain rfl:=zB aF;exact wI
def oV(a0:zH):Option (Str):=do
 let s<-cat a0.Array (⟨[91]⟩:Str)
 let y<-rC a0.Subs
 let s1<-cat s y
 let s2<-cat s1 (⟨[93]⟩:Str)
 pure (id s2)
theorem dP:∀a0 r,oV a0=some r->∀{I:Imm}{p c},(S4 I p a0.Subs c)->(GH Tryz.prog I)->RT 124 [vA (cAccess a0 p c)] I [] (xT  r):=by
 intro a0 r N I p c h hG;unfold oV at N;refine yP func124 λB=>?_;have H:=iS I;refine yE<|vM (cAccess a0 p c) ?_;intro b hb;refine wN [] []<|zI<|yA ?_;obtain⟨s,hy,N⟩:=zC N;obtain⟨y,ay,N⟩:=zC N;obtain⟨s1,aI,N⟩:=zC N;obtain⟨s2,aW,N⟩:=zC N;refine wU [.p (vP b 0) [],.p (vT a0.Array.l) [0],.q (vT s.l),.p (vP b 1) [],.p (vS p a0.Subs c) [0],.q (vT y.l),.q (vT s1.l),.q (vT s2.l)] [[],[(0,false)],[(1,false)],[],[(3,false)],[(4,false)],[(2,false),(5,false)],[(6,false)]] [hB b (cAccess a0 p c)] [] [(7,false)] (zY [0]) ?_ ?_
 ·refine Op<|Op<|Oq ?_<|Op<|Op<|Oq ?_<|Oq ?_<|Oq ?_<|On
  ·intro I1 hf af;exact yV [4] rfl<|oL rfl hy<|xA iR
  ·intro I1 hf af;refine yV [7] rfl ?_;have H:=iS I1;have ⟨h,hG⟩:=m2 af h hG;refine xX (gT a0.Subs _ ay h hG) ?_;rintro I0 ax v2 k2 le - ⟨v0,rfl,rfl,rfl⟩ -;have H:=H.trans le;exact xA H
  ·intro I1 hf af;exact yV [5,8] rfl<|oL rfl aI<|xA iR
  intro I1 hf af;exact yV [9] rfl<|oL rfl aW<|xA iR
 intro aP af;refine yV [10] rfl ?_;refine yQ [] [2] rfl<|zI<|yX ?_;obtain rfl:=zB N;exact wI
def tQ(e0:zD):Option (Str):=do
 if(e0.Kind==1) then
  let y<-oT e0.Num
  pure (id y)
 else
  if(e0.Kind==2) then
   let y1<-oU e0.Index
   let s<-cat (⟨[123]⟩:Str) y1
   let s1<-cat s (⟨[125]⟩:Str)
   pure (id s1)
  else
   if(e0.Kind==3) then
    let y2<-oV e0.Read
    pure (id y2)
   else
    let x<-idx e0.Kids 0
    let y3<-tQ (same x)
    let s2<-cat (⟨[40]⟩:Str) y3
    let s3<-sslc (⟨[43,45,42]⟩:Str) (W (e0.Kind - 4)) (W ((W (e0.Kind - 4))+1))
    let s4<-cat s2 s3
    let x1<-idx e0.Kids 1
    let y4<-tQ (same x1)
    let s5<-cat s4 y4
    let s6<-cat s5 (⟨[41]⟩:Str)
    pure (id s6)
 partial_fixpoint
theorem zEC:∀e0 r,tQ e0=some r->∀{I:Imm}{p c p1 c1 p2 c2},(S4 I p e0.Index.Coefs c)->(S4 I p1 e0.Read.Subs c1)->(S4 I p2 e0.Kids c2)->(GH Tryz.prog I)->RT 125 [vA (cExpr e0 p c p1 c1 p2 c2)] I [] (xT  r):=by
 refine tQ.partial_correctness _ λF_impl_exprText ih_impl_exprText e0 r N I p c p1 c1 p2 c2 h h1 h2 hG=>yP func125 λB=>?_;have H:=iS I;refine yE<|vM (cExpr e0 p c p1 c1 p2 c2) ?_;intro b hb;refine wN [] []<|zW<|yE<|yQ [0] [5] rfl<|wS<|yJ [6] rfl<|zI<|yC N ?_ ?_
 ·intro hc N;refine yE<|yG 2 [0] [9] rfl<|bE N λy hy N=>xX (fG e0.Num _ hy hG) ?_;rintro I0 ax v2 k2 le - ⟨v0,rfl,rfl,rfl⟩ -;refine yQ [] [2] rfl<|xJ<|zR<|zF ?_;obtain rfl:=zB N;exact wI
 intro hc N;refine yJ [11] rfl<|zI<|yC N ?_ ?_
 ·intro aD N;refine yE<|qX 2 [0] [(14,vA (cAff e0.Index p c))]<|bE N λy1 ay N=>xX (dO e0.Index _ ay h hG) ?_;rintro aP ax v2 k2 af - ⟨v01,rfl,rfl,rfl⟩ -;obtain⟨s,aI,N⟩:=zC N;refine oL rfl aI<|bE N λs1 aW N=>oL rfl aW<|yQ [] [2] rfl<|xJ<|zR<|zF ?_;obtain rfl:=zB N;exact wI
 intro aD N;refine yJ [18] rfl<|zI<|yC N ?_ ?_
 ·intro aQ N;refine yE<|qX 2 [0] [(21,vA (cAccess e0.Read p1 c1))]<|bE N λy2 br N=>xX (dP e0.Read _ br h1 hG) ?_;rintro aS ax v2 k2 aE - ⟨v02,rfl,rfl,rfl⟩ -;refine yQ [] [2] rfl<|xJ<|zR<|zF ?_;obtain rfl:=zB N;exact wI
 intro aQ N;refine zS<|zO<|xN<|yQ [0] [3] rfl<|zI<|yA ?_;obtain⟨x,bB,N⟩:=zC N;obtain⟨y3,hy6,N⟩:=zC N;obtain⟨s2,hy7,N⟩:=zC N;obtain⟨s3,hy8,N⟩:=zC N;obtain⟨s4,hy9,N⟩:=zC N;obtain⟨x1,hy10,N⟩:=zC N;obtain⟨y4,hy11,N⟩:=zC N;obtain⟨s5,hy12,N⟩:=zC N;obtain⟨s6,hy13,N⟩:=zC N;refine wU [.p (vP b 6) [],.p (vS p2 e0.Kids c2) [0],.x (ePExpr x),.x (eVExpr x),.q (vT y3.l),.q (vT s2.l),.p (vI (W (e0.Kind - 4))) [],.p (vI (W (e0.Kind - 4))) [],.p (vI (W ((W (e0.Kind - 4))+1))) [],.q (vT s3.l),.q (vT s4.l),.p (vP b 6) [],.p (vS p2 e0.Kids c2) [0],.x (ePExpr x1),.x (eVExpr x1),.q (vT y4.l),.q (vT s5.l),.q (vT s6.l)] [[],[(0,false)],[(1,false)],[(2,false)],[(3,false)],[(4,false)],[],[],[(7,false)],[(6,false),(8,false)],[(5,false),(9,false)],[],[(11,false)],[(12,false)],[(13,false)],[(14,false)],[(10,false),(15,false)],[(16,false)]] [hB b (cExpr e0 p c p1 c1 p2 c2)] [] [(17,false)] (zY [0]) ?_ ?_
 ·refine Op<|Op<|Ox ?_<|Ox ?_<|Oq ?_<|Oq ?_<|Op<|Op<|Op<|Oq ?_<|Oq ?_<|Op<|Op<|Ox ?_<|Ox ?_<|Oq ?_<|Oq ?_<|Oq ?_<|On
  ·intro I1 hf af;refine yV [27] rfl ?_;have h2:=h2.mono af;refine wB rfl rfl h2 bB ?_;intro ad aK ar al;obtain⟨p3,c3,p4,c4,p5,c5,rfl,h6,h7,h8⟩:=wO al;exact yR [] iR ⟨_,_,_,_,_,_,_,rfl,rfl,ar,h6,h7,h8⟩
  ·rintro I1 hf af _ _ ⟨ad,p3,c3,p4,c4,p5,c5,rfl,rfl,ar,h6,h7,h8⟩;exact yV [28] rfl<|xU 0 ar (cExpr x p3 c3 p4 c4 p5 c5) (vA (cExpr x p3 c3 p4 c4 p5 c5)) rfl<|yR [] iR ⟨_,_,_,_,_,_,rfl,rfl,h6,h7,h8⟩
  ·rintro I1 hf af _ _ ⟨p31,c31,p41,c41,p51,c51,rfl,rfl,h61,h71,h81⟩;refine yV [29] rfl ?_;have H:=iS I1;have hG:=hG.mono af;refine xX (ih_impl_exprText x _ hy6 h61 h71 h81 hG) ?_;rintro bw ax v2 k2 aJ - ⟨v06,rfl,rfl,rfl⟩ -;have H:=H.trans aJ;exact xA H
  ·intro I1 hf af;exact yV [30] rfl<|oL rfl hy7<|xA iR
  ·intro I1 hf af;exact yV [32,34] rfl<|zEd rfl hy8<|xA iR
  ·intro I1 hf af;exact yV [31,35] rfl<|oL rfl hy9<|xA iR
  ·intro I1 hf af;refine yV [38] rfl ?_;have h2:=h2.mono af;refine wB rfl rfl h2 hy10 ?_;intro ad1 bi ap aw;obtain⟨p6,c6,p7,c7,p8,c8,rfl,h10,h11,h12⟩:=wO aw;exact yR [] iR ⟨_,_,_,_,_,_,_,rfl,rfl,ap,h10,h11,h12⟩
  ·rintro I1 hf af _ _ ⟨ad1,p6,c6,p7,c7,p8,c8,rfl,rfl,ap,h10,h11,h12⟩;exact yV [39] rfl<|xU 0 ap (cExpr x1 p6 c6 p7 c7 p8 c8) (vA (cExpr x1 p6 c6 p7 c7 p8 c8)) rfl<|yR [] iR ⟨_,_,_,_,_,_,rfl,rfl,h10,h11,h12⟩
  ·rintro I1 hf af _ _ ⟨p61,c61,p71,c71,p81,c81,rfl,rfl,h101,h111,h121⟩;refine yV [40] rfl ?_;have H:=iS I1;have hG:=hG.mono af;refine xX (ih_impl_exprText x1 _ hy11 h101 h111 h121 hG) ?_;rintro bI ax v2 k2 aX - ⟨v010,rfl,rfl,rfl⟩ -;have H:=H.trans aX;exact xA H
  ·intro I1 hf af;exact yV [36,41] rfl<|oL rfl hy12<|xA iR
  intro I1 hf af;exact yV [42] rfl<|oL rfl hy13<|xA iR
 intro bL bt;refine yV [43] rfl ?_;refine yQ [] [2] rfl<|zI<|yX ?_;obtain rfl:=zB N;exact wI
def jK(s:zM):Option (Str):=do
 let y<-oV s.Write
 let s1<-cat y (⟨[61]⟩:Str)
 let y1<-tQ s.Value
 let s2<-cat s1 y1
 pure (id s2)
theorem zED:∀s r,jK s=some r->∀{I:Imm}{p c p1 c1 p2 c2 p3 c3},(S4 I p s.Write.Subs c)->(S4 I p1 s.Value.Index.Coefs c1)->(S4 I p2 s.Value.Read.Subs c2)->(S4 I p3 s.Value.Kids c3)->(GH Tryz.prog I)->RT 74 [vA (cStmt s p c p1 c1 p2 c2 p3 c3)] I [] (xT  r):=by
 intro s r N I p c p1 c1 p2 c2 p3 c3 h h1 h2 h3 hG;unfold jK at N;refine yP func74 λB=>?_;have H:=iS I;refine yE<|vM (cStmt s p c p1 c1 p2 c2 p3 c3) ?_;intro b hb;refine wN [] []<|zI<|yA ?_;obtain⟨y,hy,N⟩:=zC N;obtain⟨s1,ay,N⟩:=zC N;obtain⟨y1,aI,N⟩:=zC N;obtain⟨s2,aW,N⟩:=zC N;refine wU [.p (vP b 0) [],.p (vA (cAccess s.Write p c)) [0],.q (vT y.l),.q (vT s1.l),.p (vP b 2) [],.p (vA (cExpr s.Value p1 c1 p2 c2 p3 c3)) [0],.q (vT y1.l),.q (vT s2.l)] [[],[(0,false)],[(1,false)],[(2,false)],[],[(4,false)],[(5,false)],[(3,false),(6,false)]] [hB b (cStmt s p c p1 c1 p2 c2 p3 c3)] [] [(7,false)] (zY [0]) ?_ ?_
 ·refine Op<|Op<|Oq ?_<|Oq ?_<|Op<|Op<|Oq ?_<|Oq ?_<|On
  ·intro I1 hf af;refine yV [4] rfl ?_;have H:=iS I1;have ⟨h,hG⟩:=m2 af h hG;refine xX (dP s.Write _ hy h hG) ?_;rintro I0 ax v2 k2 le - ⟨v0,rfl,rfl,rfl⟩ -;have H:=H.trans le;exact xA H
  ·intro I1 hf af;exact yV [5] rfl<|oL rfl ay<|xA iR
  ·intro I1 hf af;refine yV [8] rfl ?_;have H:=iS I1;have ⟨h1,h2,h3,hG⟩:=m4 af h1 h2 h3 hG;refine xX (zEC s.Value _ aI h1 h2 h3 hG) ?_;rintro aP ax v2 k2 af - ⟨v01,rfl,rfl,rfl⟩ -;have H:=H.trans af;exact xA H
  intro I1 hf af;exact yV [6,9] rfl<|oL rfl aW<|xA iR
 intro aS aE;refine yV [10] rfl ?_;refine yQ [] [2] rfl<|zI<|yX ?_;obtain rfl:=zB N;exact wI
def uE(x:zG)(aC:Str)(t27:Int):Option (Str):=do
 if(decide (t27<(x.Dims.length:Int))) then
  let x1<-idx x.Dims t27
  let y<-oT x1
  let s2<-cat (⟨[32]⟩:Str) y
  let s3<-cat aC s2
  uE x s3 (W (t27+1))
 else
  pure (id aC)
 partial_fixpoint
theorem zAs(x:zG):∀(aC:Str) (t27:Int) (o:Str),uE x aC t27=some o->∀{B}{I0 I:Imm}{Q}{p:zP}{t15:Int}{p1 c p2 c1}{b:Nat}{p3 c2},I0.le I->(S4 I p1 p.Arrays c)->(S4 I p3 x.Dims c2)->(S4 I p2 p.Parts c1)->(GH Tryz.prog I)->NG Q->NO Q->(∀(I':Imm) (bz:Str),o=bz->I0.le I'->T 68 B Q (.exit 2) I' [hB b (cProg p p1 c p2 c1)] [(1,vP b 0),(3,vT bz.l),(13,vS p1 p.Arrays c),(14,vI (p.Arrays.length:Int)),(15,vI t15)])->J Tryz.prog 68 B (nav (bodyOf f36) [1,1,0,1,0,0,1,1,0,0,1,1,0,1,0]) Q I [hB b (cProg p p1 c p2 c1)] [(1,vP b 0),(3,vT aC.l),(13,vS p1 p.Arrays c),(14,vI (p.Arrays.length:Int)),(15,vI t15),(25,vS p3 x.Dims c2),(26,vI (x.Dims.length:Int)),(27,vI t27)]:=by
 refine uE.partial_correctness x _ λaN ih aC t27 o N B I0 I Q p t15 p1 c p2 c1 b p3 c2 H h h2 h1 hG hg ho hx=>yY hg ho<|yJ [28] rfl<|zW<|yC N ?_ ?_
 ·intro aD N;refine zS<|zW<|yK<|yE<|bE N λx1 aW N=>wB rfl rfl h2 aW ?_;intro ad1 bi ap aw;obtain rfl:=aw;refine xU 0 ap [vI x1] (vI x1) rfl<|yQ [] [7] rfl<|zI<|zL<|yG 2 [] [31,32] rfl<|bE N λy br N=>xX (fG x1 _ br hG) ?_;rintro I0 ax v2 k2 le - ⟨v01,rfl,rfl,rfl⟩ -;have ⟨h,h2,h1,hG,H⟩:=m5 le h h2 h1 hG H;obtain⟨s2,bB,N⟩:=zC N;exact oL rfl bB<|bE N λs3 hy6 N=>oL rfl hy6<|yQ [] [3] rfl<|zO<|zI<|zL<|yQ [] [27] rfl<|yW<|mE<|ih s3 (W (t27+1)) _ N H h h2 h1 hG hg ho hx
 intro aD N;exact vQ<|yS<|hx _ _ (zB N).symm H
def tB(p:zP)(out:Str)(t15:Int):Option (Str):=do
 if(decide (t15<(p.Arrays.length:Int))) then
  let x<-idx p.Arrays t15
  let s<-cat (⟨[97,114,114,97,121,32]⟩:Str) x.Name
  let s1<-cat out s
  let bz<-uE x s1 0
  let s4<-cat bz (⟨[10]⟩:Str)
  tB p s4 (W (t15+1))
 else
  pure (id out)
 partial_fixpoint
theorem zAt(p:zP):∀(out:Str) (t15:Int) (o:Str),tB p out t15=some o->∀{B}{I0 I:Imm}{Q p1 c p2 c1}{b:Nat},I0.le I->(S4 I p1 p.Arrays c)->(S4 I p2 p.Parts c1)->(GH Tryz.prog I)->NG Q->NO Q->(∀(I':Imm) (aq:Str),o=aq->I0.le I'->T 68 B Q (.exit 0) I' [hB b (cProg p p1 c p2 c1)] [(1,vP b 0),(3,vT aq.l)])->J Tryz.prog 68 B (nav (bodyOf f36) [1,1,0,1,0]) Q I [hB b (cProg p p1 c p2 c1)] [(1,vP b 0),(3,vT out.l),(13,vS p1 p.Arrays c),(14,vI (p.Arrays.length:Int)),(15,vI t15)]:=by
 refine tB.partial_correctness p _ λaN ih out t15 o N B I0 I Q p1 c p2 c1 b H h h1 hG hg ho hx=>yY hg ho<|yJ [16] rfl<|zW<|yC N ?_ ?_
 ·intro hc N;refine zS<|zW<|yK<|yE<|bE N λx hy N=>wB rfl rfl h hy ?_;intro ad aK ar al;obtain⟨p3,c2,rfl,h2⟩:=xQ al;refine xU 0 ar (cArr x p3 c2) (vA (cArr x p3 c2)) rfl<|vG [vT ([]),z0] ?_;intro b1 hb1;refine xW 0 (cArr x p3 c2) rfl<|yB rfl<|xN<|yG 3 [0] [19,21] rfl<|bE N λs ay N=>oL rfl ay<|bE N λs1 aI N=>oL rfl aI<|yQ [] [3] rfl<|zW<|yE<|yQ [0] [25,26,27] rfl<|wS<|kJ (zY [1] (ai:=[hB b (cProg p p1 c p2 c1)]))<|oR [(1,vP b 0),(3,vT s1.l),(13,vS p1 p.Arrays c),(14,vI (p.Arrays.length:Int)),(15,vI t15),(25,vS p3 x.Dims c2),(26,vI (x.Dims.length:Int)),(27,vI 0)] ?_;obtain⟨o0,az,aF⟩:=zC N;refine zAs x s1 0 o0 az iR h h2 h1 hG (λ_ _ _ h=>hg _ _ _ h) (λ_ _ h=>ho _ _ h) ?_;intro aP bz heq af;subst o0;have ⟨h,h1,hG,H⟩:=m4 af h h1 hG H;refine zT<|zI<|zL<|yG 1 [] [37] rfl ?_;obtain⟨s4,hy7,N⟩:=zC aF;exact oL rfl hy7<|yQ [] [3] rfl<|zO<|zI<|zL<|yQ [] [15] rfl<|yW<|mE<|ih s4 (W (t15+1)) _ N H h h1 hG hg ho hx
 intro hc N;exact vQ<|yS<|hx _ _ (zB N).symm H
def tC(x2:zJ)(out6:Str)(t56:Int):Option (Str):=do
 if(decide (t56<(x2.Body.length:Int))) then
  let x3<-idx x2.Body t56
  let y2<-jK x3
  let s7<-cat y2 (⟨[10]⟩:Str)
  let s8<-cat out6 s7
  tC x2 s8 (W (t56+1))
 else
  pure (id out6)
 partial_fixpoint
theorem zAu(x2:zJ):∀(out6:Str) (t56:Int) (o:Str),tC x2 out6 t56=some o->∀{B}{I0 I:Imm}{Q}{p:zP}{t43:Int}{p2 c1 p5 c4},I0.le I->(S4 I p2 p.Parts c1)->(S4 I p5 x2.Body c4)->(GH Tryz.prog I)->NG Q->NO Q->(∀(I':Imm) (out7:Str),o=out7->I0.le I'->T 68 B Q (.exit 6) I' [] [(3,vT out7.l),(41,vS p2 p.Parts c1),(42,vI (p.Parts.length:Int)),(43,vI t43)])->J Tryz.prog 68 B (nav (bodyOf f36) [1,1,1,0,1,0,0,1,1,0,0,1,1,1,0]) Q I [] [(3,vT out6.l),(41,vS p2 p.Parts c1),(42,vI (p.Parts.length:Int)),(43,vI t43),(54,vS p5 x2.Body c4),(55,vI (x2.Body.length:Int)),(56,vI t56)]:=by
 refine tC.partial_correctness x2 _ λaN ih out6 t56 o N B I0 I Q p t43 p2 c1 p5 c4 H h1 h5 hG hg ho hx=>yY hg ho<|yJ [57] rfl<|zW<|yC N ?_ ?_
 ·intro bu N;refine zS<|zW<|yK<|yE<|bE N λx3 hy12 N=>wB rfl rfl h5 hy12 ?_;intro ad3 ccs3 hat3 bC;obtain⟨p6,c5,p7,c6,p8,c7,p9,c8,rfl,h7,h8,h9,h10⟩:=uP bC;refine xU 0 hat3 (cStmt x3 p6 c5 p7 c6 p8 c7 p9 c8) (vA (cStmt x3 p6 c5 p7 c6 p8 c7 p9 c8)) rfl<|vG [vT ([]),z0,vI 0,vI 0,z0,vI 0,vT ([]),z0,z0] ?_;intro b3 hb3;refine xW 0 (cStmt x3 p6 c5 p7 c6 p8 c7 p9 c8) rfl<|yB rfl<|zI<|zL<|qX 2 [0] [(60,vT out6.l),(61,vA (cStmt x3 p6 c5 p7 c6 p8 c7 p9 c8))]<|bE N λy2 hy13 N=>xX (zED x3 _ hy13 h7 h8 h9 h10 hG) ?_;rintro bI ax v2 k2 aX - ⟨v09,rfl,rfl,rfl⟩ -;have ⟨h1,h5,hG,H⟩:=m4 aX h1 h5 hG H;obtain⟨s7,hy14,N⟩:=zC N;exact oL rfl hy14<|bE N λs8 hy15 N=>oL rfl hy15<|yQ [] [3] rfl<|zO<|zI<|zL<|yQ [] [56] rfl<|yW<|kJ zN<|mE<|ih s8 (W (t56+1)) _ N H h1 h5 hG hg ho hx
 intro bu N;exact vQ<|yS<|hx _ _ (zB N).symm H
def tD(p:zP)(bM:Str)(t43:Int):Option (Str):=do
 if(decide (t43<(p.Parts.length:Int))) then
  let x2<-idx p.Parts t43
  let y1<-jJ x2.Nest
  let s5<-cat (⟨[112,97,114,116,10]⟩:Str) y1
  let s6<-cat bM s5
  let out7<-tC x2 s6 0
  tD p out7 (W (t43+1))
 else
  pure (id bM)
 partial_fixpoint
theorem zAv(p:zP):∀(bM:Str) (t43:Int) (o:Str),tD p bM t43=some o->∀{B}{I0 I:Imm}{Q p2 c1},I0.le I->(S4 I p2 p.Parts c1)->(GH Tryz.prog I)->NG Q->NO Q->(∀(I':Imm) (out5:Str),o=out5->I0.le I'->T 68 B Q (.exit 4) I' [] [(3,vT out5.l)])->J Tryz.prog 68 B (nav (bodyOf f36) [1,1,1,0,1,0]) Q I [] [(3,vT bM.l),(41,vS p2 p.Parts c1),(42,vI (p.Parts.length:Int)),(43,vI t43)]:=by
 refine tD.partial_correctness p _ λaN ih bM t43 o N B I0 I Q p2 c1 H h1 hG hg ho hx=>yY hg ho<|yJ [44] rfl<|zW<|yC N ?_ ?_
 ·intro aQ N;refine zS<|zW<|yK<|yE<|bE N λx2 hy8 N=>wB rfl rfl h1 hy8 ?_;intro ad2 bP bh bj;obtain⟨p4,c3,p5,c4,rfl,h4,h5⟩:=vL bj;refine xU 0 bh (cPart x2 p4 c3 p5 c4) (vA (cPart x2 p4 c3 p5 c4)) rfl<|vG zTwo ?_;intro b2 hb2;refine xW 0 (cPart x2 p4 c3 p5 c4) rfl<|yB rfl<|xN<|yG 3 [0] [47,49] rfl<|bE N λy1 hy9 N=>xX (zEB x2.Nest _ hy9 h4 hG) ?_;rintro bw ax v2 k2 aJ - ⟨v04,rfl,rfl,rfl⟩ -;have ⟨h1,h5,hG,H⟩:=m4 aJ h1 h5 hG H;obtain⟨s5,hy10,N⟩:=zC N;refine oL rfl hy10<|bE N λs6 hy11 N=>oL rfl hy11<|yQ [] [3] rfl<|xN<|yQ [0] [54,55,56] rfl<|wS<|kJ (zY [] (ai:=[]))<|oR [(3,vT s6.l),(41,vS p2 p.Parts c1),(42,vI (p.Parts.length:Int)),(43,vI t43),(54,vS p5 x2.Body c4),(55,vI (x2.Body.length:Int)),(56,vI 0)] ?_;obtain⟨o02,ho02,hMl2⟩:=zC N;refine zAu x2 s6 0 o02 ho02 iR h1 h5 hG (λ_ _ _ h=>hg _ _ _ h) (λ_ _ h=>ho _ _ h) ?_;intro bL out7 heq2 bt;subst o02;have ⟨h1,hG,H⟩:=m3 bt h1 hG H;exact zT<|zO<|zI<|zL<|yQ [] [43] rfl<|yW<|mE<|ih out7 (W (t43+1)) _ hMl2 H h1 hG hg ho hx
 intro aQ N;exact vQ<|yS<|hx _ _ (zB N).symm H
def nY(p:zP):Option (Str):=do
 let aq<-tB p (⟨[112,114,111,103,114,97,109,10]⟩:Str) 0
 let out5<-tD p aq 0
 pure (id out5)
theorem zCF:∀p r,nY p=some r->∀{I:Imm}{p1 c p2 c1},(S4 I p1 p.Arrays c)->(S4 I p2 p.Parts c1)->(GH Tryz.prog I)->RT 36 [vA (cProg p p1 c p2 c1)] I [] (xT  r):=by
 intro p r N I p1 c p2 c1 h h1 hG;unfold nY at N;refine yP func36 λB=>yE<|vM (cProg p p1 c p2 c1) ?_;intro b hb;refine wN [] []<|uN [3] rfl<|zW<|yE<|yQ [0] [13,14,15] rfl<|wS<|oR [(1,vP b 0),(3,vT ([112,114,111,103,114,97,109,10])),(13,vS p1 p.Arrays c),(14,vI (p.Arrays.length:Int)),(15,vI 0)] ?_;obtain⟨aO,aB,hMl1⟩:=zC N;refine zAt p (⟨[112,114,111,103,114,97,109,10]⟩:Str) 0 aO aB iR h h1 hG (λ_ _ _ h=>h) (λ_ _ h=>h) ?_;intro aS aq heq1 aE;subst aO;have ⟨h,h1,hG⟩:=m3 aE h h1 hG;refine zT<|zW<|yE<|yQ [0] [41,42,43] rfl<|wS<|kJ (zY [] (ai:=[]))<|oR [(3,vT aq.l),(41,vS p2 p.Parts c1),(42,vI (p.Parts.length:Int)),(43,vI 0)] ?_;obtain⟨o03,ho03,hMl3⟩:=zC hMl1;refine zAv p aq 0 o03 ho03 iR h1 hG (λ_ _ _ h=>h) (λ_ _ h=>h) ?_;intro I06 out5 heq3 bx;subst o03;refine zT<|uN [2] rfl<|zI<|yX ?_;obtain rfl:=zB hMl3;exact wI
def rO(p:zP):Option (Str):=do
 let y<-nK p
 if(!y) then
  pure (⟨[]⟩:Str)
 else
  let y1<-nY p
  pure (id y1)
theorem fW:∀p r,rO p=some r->∀{I:Imm}{p1 c p2 c1},(S4 I p1 p.Arrays c)->(S4 I p2 p.Parts c1)->(GH Tryz.prog I)->RT 8 [vA (cProg p p1 c p2 c1)] I [] (xT  r):=by
 intro p r N I p1 c p2 c1 h h1 hG;unfold rO at N;refine yP func8 λB=>yE<|vM (cProg p p1 c p2 c1) ?_;intro b hb;refine wN [] []<|zW<|yE<|qX 1 [0] [(3,vA (cProg p p1 c p2 c1))]<|bE N λy hy N=>vH (zBa p _ hy h h1) ?_;intro I0 le;have ⟨h,h1,hG⟩:=m3 le h h1 hG;refine yQ [] [5] rfl<|zI<|yC N ?_ ?_
 ·intro hc N;refine yJ [2] rfl<|xJ<|zF ?_;obtain rfl:=zB N;exact wI
 intro hc N;refine zS<|xN<|qX 1 [0] [(6,vA (cProg p p1 c p2 c1))]<|bE N λy1 ay N=>xX (zCF p _ ay h h1 hG) ?_;rintro aP ax v2 k2 af - ⟨v01,rfl,rfl,rfl⟩ -;refine yQ [] [2] rfl<|zI<|yX ?_;obtain rfl:=zB N;exact wI
def vR(s1:(List Int))(s2:(List Int))(t13:Int):Option (Out Unit (Bool)):=do
 if(decide (t13<(s1.length:Int))) then
  let x<-idx s1 t13
  let x1<-idx s2 t13
  if(x != x1) then
   pure (.ret false)
  else
   vR s1 s2 (W (t13+1))
 else
  pure (.done ())
 partial_fixpoint
theorem dQ(s1:(List Int))(s2:(List Int)):∀(t13:Int) (o:Out Unit (Bool)),vR s1 s2 t13=some o->∀{B}{I0 I:Imm}{Q p c p1 c1},I0.le I->(S4 I p s1 c)->(S4 I p1 s2 c1)->NG Q->NO Q->(∀(I':Imm) ,o=(.done ())->I0.le I'->T 26 B Q (.exit 0) I' [] [])->(∀r I' ai m',o=(.ret r)->I0.le I'->RS Tryz.prog f47 B (zQ  r) I' ai m'->T 26 B Q .ret I' ai m')->J Tryz.prog 26 B (nav (bodyOf f47) [1,1,0,1,0]) Q I [] [(0,vS p s1 c),(1,vS p1 s2 c1),(12,vI (s1.length:Int)),(13,vI t13)]:=by
 refine vR.partial_correctness s1 s2 _ λaN ih t13 o N B I0 I Q p c p1 c1 H h h1 hg ho hx hr=>yY hg ho<|yJ [14] rfl<|zW<|yC N ?_ ?_
 ·intro aD N;refine zS<|zW<|yK<|yJ [5] rfl<|zW<|fH (by kernel_rfl) (by kernel_rfl)<|zAE 2 [] [16,17] rfl<|bE N λx hy N=>zB4 rfl rfl h hy ?_;intro ad aK ar al;obtain rfl:=al;refine zB3 0 ar [vI x] (vI x) rfl<|zAE 6 [] [20,21] rfl<|bE N λx1 ay N=>zB4 rfl rfl h1 ay ?_;intro ad1 bi ap aw;obtain rfl:=aw;refine zB3 0 ap [vI x1] (vI x1) rfl<|zH6 [] [24] rfl<|zI<|yC N ?_ ?_
  ·intro aQ N;exact wM [(4,vF)]<|xJ<|zR<|zF<|zF<|hr _ _ _ _ (zB N).symm H ⟨_,_,(.tmp rfl ResV.nil),zN,⟨_,rfl,rfl,rfl⟩⟩
  intro aQ N;exact zS<|zO<|zI<|zL<|yQ [] [13] rfl<|yW<|mE<|ih (W (t13+1)) _ N H h h1 hg ho hx hr
 intro aD N;exact vQ<|yS<|hx _  (zB N).symm H
def tW(s1:(List Int))(s2:(List Int)):Option (Bool):=do
 if((s1.length:Int) != (s2.length:Int)) then
  pure false
 else
  match<-vR s1 s2 0 with
  | .ret r0=>pure r0
  | .done _=>
   pure true
theorem fL:∀s1 s2 r,tW s1 s2=some r->∀{I:Imm}{p c p1 c1},(S4 I p s1 c)->(S4 I p1 s2 c1)->RT 47 [vS p s1 c,vS p1 s2 c1] I [] (zQ  r):=by
 intro s1 s2 r N I p c p1 c1 h h1;unfold tW at N;refine yP func47 λB=>wM []<|zW<|yJ [10] rfl<|zI<|yC N ?_ ?_
 ·intro hc N;refine wM [(4,vF)]<|xJ<|zF ?_;obtain rfl:=zB N;exact wI
 intro hc N;refine zS<|zW<|yJ [12,13] rfl<|wS<|oR [(0,vS p s1 c),(1,vS p1 s2 c1),(12,vI (s1.length:Int)),(13,vI 0)] ?_;obtain⟨o0,az,aF⟩:=zC N;refine dQ s1 s2 0 o0 az iR h h1 (λ_ _ _ h=>h) (λ_ _ h=>h) ?_ ?_
 ·intro I0  heq le;subst o0;refine zT<|zBL [(4,vY)]<|zI<|yX ?_;obtain rfl:=zB aF;exact wI
 intro r0 I9 hs9 m9 aG le9 aH;subst aG;refine zR<|zF ?_;obtain rfl:=zB aF;exact xL aH
def vW(x:zG)(y:zG):Option (Bool):=do
 let t4<-(do
  if(x.Name.l==y.Name.l) then
   let y1<-tW x.Dims y.Dims
   pure (id y1)
  else
   pure false
    : Option Bool)
 pure (id t4)
theorem zBQ:∀x y r,vW x y=some r->∀{I:Imm}{p c p1 c1},(S4 I p x.Dims c)->(S4 I p1 y.Dims c1)->RT 46 [vA (cArr x p c),vA (cArr y p1 c1)] I [] (zQ  r):=by
 intro x y r N I p c p1 c1 h h1;unfold vW at N;refine yP func46 λB=>?_;have H:=iS I;refine yE<|vM (cArr x p c) ?_;intro b hb;refine vM (cArr y p1 c1) ?_;intro b1 hb1;refine wN [] []<|zI<|yA ?_;refine wQ N [] (λt4=>[(4,.bool t4)]) (λo0 az=>?_) ?_
 ·have H:=iS I;refine zL<|yG 6 [1,0] [10] rfl<|wC [10] az ?_ ?_
  ·intro hc N;refine yG 10 [1,0] [12,14] rfl<|bE N λy1 hy N=>vH (fL x.Dims y.Dims _ hy h h1) ?_;intro aP le;have H:=H.trans le;exact yQ [] [4] rfl<|wD zN<|yS<|zU (ct N H)
  intro hc N;exact wN [] [(4,vF)]<|wD zN<|yS<|zU (ct N H)
 intro t4 I0 af aM;refine zI<|yX ?_;obtain rfl:=zB aM;exact wI
def uA(aA:List HA)(r:Bool):KT:=λkk I' ai v=>
 ∃v0,aA=ai/\v=tupV [v0]/\v0=.bool r
def yL(s1:(List zE))(s2:(List zE))(eq:(zE->zE->Option Bool))(t17:Int):Option (Out Unit (Bool)):=do
 if(decide (t17<(s1.length:Int))) then
  let x<-idx s1 t17
  let x1<-idx s2 t17
  let y<-eq x x1
  if(!y) then
   pure (.ret false)
  else
   yL s1 s2 eq (W (t17+1))
 else
  pure (.done ())
 partial_fixpoint
theorem qE(s1:(List zE))(s2:(List zE))(eq:(zE->zE->Option Bool)):∀(t17:Int) (o:Out Unit (Bool)),yL s1 s2 eq t17=some o->∀{B}{I0 I:Imm}{Q p c p1 c1}{fv:Value}{aA:List HA},I0.le I->(S4 I p1 s2 c1)->(FV2 Tryz.prog I aA fv eq)->(S4 I p s1 c)->NG Q->NO Q->(∀(I':Imm) ,o=(.done ())->I0.le I'->T 32 B Q (.exit 0) I' aA [])->(∀r I' ai m',o=(.ret r)->I0.le I'->RS Tryz.prog f62 B (uA aA r) I' ai m'->T 32 B Q .ret I' ai m')->J Tryz.prog 32 B (nav (bodyOf f62) [1,1,0,1,0]) Q I aA [(1,vS p1 s2 c1),(2,fv),(15,vS p s1 c),(16,vI (s1.length:Int)),(17,vI t17)]:=by
 refine yL.partial_correctness s1 s2 eq _ λaN ih t17 o N B I0 I Q p c p1 c1 fv aA H h1 h2 h hg ho hx hr=>yY hg ho<|yJ [18] rfl<|zW<|yC N ?_ ?_
 ·intro aD N;refine zS<|zW<|yK<|yE<|yG 1 [] [19] rfl<|bE N λx hy N=>wB rfl rfl h hy ?_;intro ad aK ar al;obtain⟨p2,c2,p3,c3,rfl,h3,h4⟩:=wJ al;refine xU 0 ar (cLoop x p2 c2 p3 c3) (vA (cLoop x p2 c2 p3 c3)) rfl<|vG zTwo ?_;intro b hb;refine yG 5 [] [7] rfl<|dL 0 (cLoop x p2 c2 p3 c3) (hB b (cLoop x p2 c2 p3 c3)::aA) rfl rfl rfl rfl<|yB rfl<|xN<|yG 2 [] [22,23] rfl<|bE N λx1 ay N=>wB rfl rfl h1 ay ?_;intro ad1 bi ap aw;obtain⟨p4,c4,p5,c5,rfl,h5,h6⟩:=wJ aw;refine xU 0 ap (cLoop x1 p4 c4 p5 c5) (vA (cLoop x1 p4 c4 p5 c5)) rfl<|vG zTwo ?_;intro b1 hb1;refine dL 0 (cLoop x1 p4 c4 p5 c5) (hB b1 (cLoop x1 p4 c4 p5 c5)::hB b (cLoop x p2 c2 p3 c3)::aA) rfl rfl rfl rfl<|yB rfl<|xN<|qX 3 [1,0] [(26,fv),(27,vA (cLoop x p2 c2 p3 c3)),(28,vA (cLoop x1 p4 c4 p5 c5))]<|bE N λy aI N=>rS (ai:=aA++[hB b1 (cLoop x1 p4 c4 p5 c5),hB b (cLoop x p2 c2 p3 c3)]) (jR [hB b1 (cLoop x1 p4 c4 p5 c5),hB b (cLoop x p2 c2 p3 c3)] aA)<|zH5 rfl rfl rfl h2 aI ⟨_,rfl,(qA ⟨_,_,rfl,h3,h4⟩)⟩ ⟨_,rfl,(qA ⟨_,_,rfl,h5,h6⟩)⟩ rfl ?_;rintro I0 v04 le rfl;refine rS (ai:=(hB b1 (cLoop x1 p4 c4 p5 c5)::hB b (cLoop x p2 c2 p3 c3)::aA)) (jR aA [hB b1 (cLoop x1 p4 c4 p5 c5),hB b (cLoop x p2 c2 p3 c3)]) ?_;have ⟨h1,h2,h,H⟩:=m4 le h1 h2 h H;refine yQ [] [30] rfl<|zI<|yC N ?_ ?_
  ·intro aQ N;exact wM [(6,vF)]<|xJ<|zR<|zF<|zF<|hr _ _ _ _ (zB N).symm H ⟨_,_,(.tmp rfl ResV.nil),(mW [hB b1 (cLoop x1 p4 c4 p5 c5),hB b (cLoop x p2 c2 p3 c3)] aA [] rfl (by decide)),⟨_,rfl,rfl,rfl⟩⟩
  intro aQ N;exact zS<|zO<|zI<|zL<|yQ [] [17] rfl<|yW<|kJ (mW [hB b1 (cLoop x1 p4 c4 p5 c5),hB b (cLoop x p2 c2 p3 c3)] aA [] rfl (by decide))<|mE<|ih (W (t17+1)) _ N H h1 h2 h hg ho hx hr
 intro aD N;exact vQ<|yS<|hx _  (zB N).symm H
def xV(s1:(List zE))(s2:(List zE))(eq:(zE->zE->Option Bool)):Option (Bool):=do
 if((s1.length:Int) != (s2.length:Int)) then
  pure false
 else
  match<-yL s1 s2 eq 0 with
  | .ret r0=>pure r0
  | .done _=>
   pure true
theorem pI:∀s1 s2 eq r,xV s1 s2 eq=some r->∀{I:Imm}{p c p1 c1}{fv:Value}{aA:List HA},(S4 I p s1 c)->(S4 I p1 s2 c1)->(FV2 Tryz.prog I aA fv eq)->RT 62 [vS p s1 c,vS p1 s2 c1,fv] I aA (uA aA r):=by
 intro s1 s2 eq r N I p c p1 c1 fv aA h h1 h2;unfold xV at N;refine yP func62 λB=>wM []<|zW<|yJ [14] rfl<|zI<|yC N ?_ ?_
 ·intro hc N;refine wM [(6,vF)]<|xJ<|zF ?_;obtain rfl:=zB N;exact xL ⟨_,_,(.tmp rfl ResV.nil),(λ_ h=>h),⟨_,rfl,rfl,rfl⟩⟩
 intro hc N;refine zS<|zW<|yJ [15,16,17] rfl<|wS<|oR [(1,vS p1 s2 c1),(2,fv),(15,vS p s1 c),(16,vI (s1.length:Int)),(17,vI 0)] ?_;obtain⟨o0,az,aF⟩:=zC N;refine qE s1 s2 eq 0 o0 az iR h1 h2 h (λ_ _ _ h=>h) (λ_ _ h=>h) ?_ ?_
 ·intro aP  heq af;subst o0;refine zT<|zBL [(6,vY)]<|zI<|yX ?_;obtain rfl:=zB aF;exact xL ⟨_,_,(.tmp rfl ResV.nil),(λ_ h=>h),⟨_,rfl,rfl,rfl⟩⟩
 intro r0 I9 hs9 m9 aG le9 aH;subst aG;refine zR<|zF ?_;obtain rfl:=zB aF;exact xL aH
def wX(aA:List HA)(r:Bool):KT:=λkk I' ai v=>
 ∃v0,aA=ai/\v=tupV [v0]/\v0=.bool r
def yF(s1:(List zA))(s2:(List zA))(eq:(zA->zA->Option Bool))(t17:Int):Option (Out Unit (Bool)):=do
 if(decide (t17<(s1.length:Int))) then
  let x<-idx s1 t17
  let x1<-idx s2 t17
  let y<-eq x x1
  if(!y) then
   pure (.ret false)
  else
   yF s1 s2 eq (W (t17+1))
 else
  pure (.done ())
 partial_fixpoint
theorem sG(s1:(List zA))(s2:(List zA))(eq:(zA->zA->Option Bool)):∀(t17:Int) (o:Out Unit (Bool)),yF s1 s2 eq t17=some o->∀{B}{I0 I:Imm}{Q p c p1 c1}{fv:Value}{aA:List HA},I0.le I->(S4 I p1 s2 c1)->(FV2 Tryz.prog I aA fv eq)->(S4 I p s1 c)->NG Q->NO Q->(∀(I':Imm) ,o=(.done ())->I0.le I'->T 32 B Q (.exit 0) I' aA [])->(∀r I' ai m',o=(.ret r)->I0.le I'->RS Tryz.prog f64 B (wX aA r) I' ai m'->T 32 B Q .ret I' ai m')->J Tryz.prog 32 B (nav (bodyOf f64) [1,1,0,1,0]) Q I aA [(1,vS p1 s2 c1),(2,fv),(15,vS p s1 c),(16,vI (s1.length:Int)),(17,vI t17)]:=by
 refine yF.partial_correctness s1 s2 eq _ λaN ih t17 o N B I0 I Q p c p1 c1 fv aA H h1 h2 h hg ho hx hr=>yY hg ho<|yJ [18] rfl<|zW<|yC N ?_ ?_
 ·intro aD N;refine zS<|zW<|yK<|yE<|yG 1 [] [19] rfl<|bE N λx hy N=>wB rfl rfl h hy ?_;intro ad aK ar al;obtain⟨p2,c2,rfl,h3⟩:=yD al;refine xU 0 ar (cAff x p2 c2) (vA (cAff x p2 c2)) rfl<|vG [z0,vI 0] ?_;intro b hb;refine yG 5 [] [7] rfl<|dL 0 (cAff x p2 c2) (hB b (cAff x p2 c2)::aA) rfl rfl rfl rfl<|yB rfl<|xN<|yG 2 [] [22,23] rfl<|bE N λx1 ay N=>wB rfl rfl h1 ay ?_;intro ad1 bi ap aw;obtain⟨p3,c3,rfl,h4⟩:=yD aw;refine xU 0 ap (cAff x1 p3 c3) (vA (cAff x1 p3 c3)) rfl<|vG [z0,vI 0] ?_;intro b1 hb1;refine dL 0 (cAff x1 p3 c3) (hB b1 (cAff x1 p3 c3)::hB b (cAff x p2 c2)::aA) rfl rfl rfl rfl<|yB rfl<|xN<|qX 3 [1,0] [(26,fv),(27,vA (cAff x p2 c2)),(28,vA (cAff x1 p3 c3))]<|bE N λy aI N=>rS (ai:=aA++[hB b1 (cAff x1 p3 c3),hB b (cAff x p2 c2)]) (jR [hB b1 (cAff x1 p3 c3),hB b (cAff x p2 c2)] aA)<|zH5 rfl rfl rfl h2 aI ⟨_,rfl,(yO ⟨_,rfl,h3⟩)⟩ ⟨_,rfl,(yO ⟨_,rfl,h4⟩)⟩ rfl ?_;rintro I0 v02 le rfl;refine rS (ai:=(hB b1 (cAff x1 p3 c3)::hB b (cAff x p2 c2)::aA)) (jR aA [hB b1 (cAff x1 p3 c3),hB b (cAff x p2 c2)]) ?_;have ⟨h1,h2,h,H⟩:=m4 le h1 h2 h H;refine yQ [] [30] rfl<|zI<|yC N ?_ ?_
  ·intro aQ N;exact wM [(6,vF)]<|xJ<|zR<|zF<|zF<|hr _ _ _ _ (zB N).symm H ⟨_,_,(.tmp rfl ResV.nil),(mW [hB b1 (cAff x1 p3 c3),hB b (cAff x p2 c2)] aA [] rfl (by decide)),⟨_,rfl,rfl,rfl⟩⟩
  intro aQ N;exact zS<|zO<|zI<|zL<|yQ [] [17] rfl<|yW<|kJ (mW [hB b1 (cAff x1 p3 c3),hB b (cAff x p2 c2)] aA [] rfl (by decide))<|mE<|ih (W (t17+1)) _ N H h1 h2 h hg ho hx hr
 intro aD N;exact vQ<|yS<|hx _  (zB N).symm H
def yH(s1:(List zA))(s2:(List zA))(eq:(zA->zA->Option Bool)):Option (Bool):=do
 if((s1.length:Int) != (s2.length:Int)) then
  pure false
 else
  match<-yF s1 s2 eq 0 with
  | .ret r0=>pure r0
  | .done _=>
   pure true
theorem wE:∀s1 s2 eq r,yH s1 s2 eq=some r->∀{I:Imm}{p c p1 c1}{fv:Value}{aA:List HA},(S4 I p s1 c)->(S4 I p1 s2 c1)->(FV2 Tryz.prog I aA fv eq)->RT 64 [vS p s1 c,vS p1 s2 c1,fv] I aA (wX aA r):=by
 intro s1 s2 eq r N I p c p1 c1 fv aA h h1 h2;unfold yH at N;refine yP func64 λB=>wM []<|zW<|yJ [14] rfl<|zI<|yC N ?_ ?_
 ·intro hc N;refine wM [(6,vF)]<|xJ<|zF ?_;obtain rfl:=zB N;exact xL ⟨_,_,(.tmp rfl ResV.nil),(λ_ h=>h),⟨_,rfl,rfl,rfl⟩⟩
 intro hc N;refine zS<|zW<|yJ [15,16,17] rfl<|wS<|oR [(1,vS p1 s2 c1),(2,fv),(15,vS p s1 c),(16,vI (s1.length:Int)),(17,vI 0)] ?_;obtain⟨o0,az,aF⟩:=zC N;refine sG s1 s2 eq 0 o0 az iR h1 h2 h (λ_ _ _ h=>h) (λ_ _ h=>h) ?_ ?_
 ·intro aP  heq af;subst o0;refine zT<|zBL [(6,vY)]<|zI<|yX ?_;obtain rfl:=zB aF;exact xL ⟨_,_,(.tmp rfl ResV.nil),(λ_ h=>h),⟨_,rfl,rfl,rfl⟩⟩
 intro r0 I9 hs9 m9 aG le9 aH;subst aG;refine zR<|zF ?_;obtain rfl:=zB aF;exact xL aH
def wG(a0:zA)(b:zA):Option (Bool):=do
 let t4<-(do
  let y<-tW a0.Coefs b.Coefs
  if y then
   pure (a0.Const==b.Const)
  else
   pure false
    : Option Bool)
 pure (id t4)
theorem jF:∀a0 b r,wG a0 b=some r->∀{I:Imm}{p c p1 c1},(S4 I p a0.Coefs c)->(S4 I p1 b.Coefs c1)->RT 65 [vA (cAff a0 p c),vA (cAff b p1 c1)] I [] (zQ  r):=by
 intro a0 b r N I p c p1 c1 h h1;unfold wG at N;refine yP func65 λB=>?_;have H:=iS I;refine yE<|vM (cAff a0 p c) ?_;intro b1 hb;refine vM (cAff b p1 c1) ?_;intro b2 hb1;refine wN [] []<|zI<|yA ?_;refine wQ N [] (λt4=>[(4,.bool t4)]) (λo0 az=>?_) ?_
 ·have H:=iS I;refine zL<|yG 4 [1,0] [6,8] rfl ?_;obtain⟨y,hy,N⟩:=zC az;refine vH (fL a0.Coefs b.Coefs _ hy h h1) ?_;intro aP le;have H:=H.trans le;refine yG 6 [] [10] rfl<|wC [10] N ?_ ?_
  ·intro hc N;exact yQ [1,0] [4] rfl<|wD zN<|yS<|zU (ct N H)
  intro hc N;exact wN [] [(4,vF)]<|wD zN<|yS<|zU (ct N H)
 intro t4 I0 af aM;refine zI<|yX ?_;obtain rfl:=zB aM;exact wI
def sL(x:zE)(y:zE):Option (Bool):=do
 let t4<-(do
  let y1<-yH x.Lo y.Lo wG
  if y1 then
   let y2<-yH x.Hi y.Hi wG
   pure (id y2)
  else
   pure false
    : Option Bool)
 pure (id t4)
theorem zC9:∀x y r,sL x y=some r->∀{I:Imm}{p c p1 c1 p2 c2 p3 c3},(S4 I p x.Lo c)->(S4 I p1 x.Hi c1)->(S4 I p2 y.Lo c2)->(S4 I p3 y.Hi c3)->RT 63 [vA (cLoop x p c p1 c1),vA (cLoop y p2 c2 p3 c3)] I [] (zQ  r):=by
 intro x y r N I p c p1 c1 p2 c2 p3 c3 h h1 h2 h3;unfold sL at N;refine yP func63 λB=>?_;have H:=iS I;refine yE<|vM (cLoop x p c p1 c1) ?_;intro b hb;refine vM (cLoop y p2 c2 p3 c3) ?_;intro b1 hb1;refine wN [] []<|zI<|yA ?_;refine wQ N [] (λt4=>[(4,.bool t4)]) (λo0 az=>?_) ?_
 ·have H:=iS I;refine zL<|yG 4 [1,0] [6,8] rfl ?_;have hf0:FV2 Tryz.prog I [] (.func (.func 65) ⟨[]⟩ ⟨[]⟩) wG:=by
   refine FV2.intro ?_;intro I1 af x0 x1 r u0 u1 hF k0 k1;obtain⟨_,rfl,k0⟩:=k0;obtain⟨p4,c4,rfl,h4⟩:=yD k0;obtain⟨_,rfl,k1⟩:=k1;obtain⟨p5,c5,rfl,h5⟩:=yD k1;exact(jF x0 x1 r hF h4 h5).mono (by rintro k i hs u ⟨v0,rfl,rfl,h⟩;exact⟨rfl,h⟩)
  obtain⟨y1,hy,N⟩:=zC az;refine xX (wE x.Lo y.Lo wG _ hy h h2 hf0) ?_;rintro aP ax v2 k2 le - ⟨v02,rfl,rfl,rfl⟩ -;have ⟨h3,h,h1,H⟩:=m4 le h3 h h1 H;refine yG 6 [] [10] rfl<|wC [10] N ?_ ?_
  ·intro hc N;refine yG 10 [1,0] [12,14] rfl ?_;have hf01:FV2 Tryz.prog aP [] (.func (.func 65) ⟨[]⟩ ⟨[]⟩) wG:=by
    refine FV2.intro ?_;intro I1 af x0 x1 r u0 u1 hF k0 k1;obtain⟨_,rfl,k0⟩:=k0;obtain⟨p6,c6,rfl,h7⟩:=yD k0;obtain⟨_,rfl,k1⟩:=k1;obtain⟨p7,c7,rfl,h8⟩:=yD k1;exact(jF x0 x1 r hF h7 h8).mono (by rintro k i hs u ⟨v0,rfl,rfl,h⟩;exact⟨rfl,h⟩)
   obtain⟨y2,ay,N⟩:=zC N;refine xX (wE x.Hi y.Hi wG _ ay h1 h3 hf01) ?_;rintro aS ax v2 k2 af - ⟨v05,rfl,rfl,rfl⟩ -;have H:=H.trans af;exact yQ [] [4] rfl<|wD zN<|yS<|zU (ct N H)
  intro hc N;exact wN [] [(4,vF)]<|wD zN<|yS<|zU (ct N H)
 intro t4 I0 aE aM;refine zI<|yX ?_;obtain rfl:=zB aM;exact wI
def jL(a0:(List zE))(b:(List zE)):Option (Bool):=do
 let y<-xV a0 b sL
 pure (id y)
theorem zEE:∀a0 b r,jL a0 b=some r->∀{I:Imm}{p c p1 c1},(S4 I p a0 c)->(S4 I p1 b c1)->RT 22 [vS p a0 c,vS p1 b c1] I [] (zQ  r):=by
 intro a0 b r N I p c p1 c1 h h1;unfold jL at N;refine yP func22 λB=>wM []<|xN<|yG 2 [] [5,6] rfl ?_;have hf0:FV2 Tryz.prog I [] (.func (.func 63) ⟨[]⟩ ⟨[]⟩) sL:=by
  refine FV2.intro ?_;intro I1 af x0 x1 r u0 u1 hF k0 k1;obtain⟨_,rfl,k0⟩:=k0;obtain⟨p2,c2,p3,c3,rfl,h2,h3⟩:=wJ k0;obtain⟨_,rfl,k1⟩:=k1;obtain⟨p4,c4,p5,c5,rfl,h4,h5⟩:=wJ k1;exact(zC9 x0 x1 r hF h2 h3 h4 h5).mono (by rintro k i hs u ⟨v0,rfl,rfl,h⟩;exact⟨rfl,h⟩)
 obtain⟨y,hy,N⟩:=zC N;refine xX (pI a0 b sL _ hy h h1 hf0) ?_;rintro I0 ax v2 k2 le - ⟨v04,rfl,rfl,rfl⟩ -;refine yQ [] [4] rfl<|zI<|yX ?_;obtain rfl:=zB N;exact wI
def oW(a0:zH)(b:zH):Option (Bool):=do
 let t4<-(do
  if(a0.Array.l==b.Array.l) then
   let y<-yH a0.Subs b.Subs wG
   pure (id y)
  else
   pure false
    : Option Bool)
 pure (id t4)
theorem dR:∀a0 b r,oW a0 b=some r->∀{I:Imm}{p c p1 c1},(S4 I p a0.Subs c)->(S4 I p1 b.Subs c1)->RT 79 [vA (cAccess a0 p c),vA (cAccess b p1 c1)] I [] (zQ  r):=by
 intro a0 b r N I p c p1 c1 h h1;unfold oW at N;refine yP func79 λB=>?_;have H:=iS I;refine yE<|vM (cAccess a0 p c) ?_;intro b1 hb;refine vM (cAccess b p1 c1) ?_;intro b2 hb1;refine wN [] []<|zI<|yA ?_;refine wQ N [] (λt4=>[(4,.bool t4)]) (λo0 az=>?_) ?_
 ·have H:=iS I;refine zL<|yG 6 [1,0] [10] rfl<|wC [10] az ?_ ?_
  ·intro hc N;refine yG 10 [1,0] [12,14] rfl ?_;have hf0:FV2 Tryz.prog I [] (.func (.func 65) ⟨[]⟩ ⟨[]⟩) wG:=by
    refine FV2.intro ?_;intro I1 af x0 x1 r u0 u1 hF k0 k1;obtain⟨_,rfl,k0⟩:=k0;obtain⟨p2,c2,rfl,h2⟩:=yD k0;obtain⟨_,rfl,k1⟩:=k1;obtain⟨p3,c3,rfl,h3⟩:=yD k1;exact(jF x0 x1 r hF h2 h3).mono (by rintro k i hs u ⟨v0,rfl,rfl,h⟩;exact⟨rfl,h⟩)
   obtain⟨y,hy,N⟩:=zC N;refine xX (wE a0.Subs b.Subs wG _ hy h h1 hf0) ?_;rintro aP ax v2 k2 le - ⟨v02,rfl,rfl,rfl⟩ -;have H:=H.trans le;exact yQ [] [4] rfl<|wD zN<|yS<|zU (ct N H)
  intro hc N;exact wN [] [(4,vF)]<|wD zN<|yS<|zU (ct N H)
 intro t4 I0 af aM;refine zI<|yX ?_;obtain rfl:=zB aM;exact wI
mutual
def xG(s1:(List zD))(s2:(List zD)):Option (Bool):=do
 if((s1.length:Int) != (s2.length:Int)) then
  pure false
 else
  match<-yU (same s1) (same s2) (same 0) with
  | .ret r0=>pure r0
  | .done _=>
   pure true
 partial_fixpoint
def yU(s1:(List zD))(s2:(List zD))(t17:Int):Option (Out Unit (Bool)):=do
 if(decide (t17<(s1.length:Int))) then
  let x<-idx s1 t17
  let x1<-idx s2 t17
  let y<-mK (same x) (same x1)
  if(!y) then
   pure (.ret false)
  else
   yU (same s1) (same s2) (W (t17+1))
 else
  pure (.done ())
 partial_fixpoint
def mK(a0:zD)(b:zD):Option (Bool):=do
 let t4<-(do
  if(a0.Kind==b.Kind) then
   if(a0.Num==b.Num) then
    let y<-wG a0.Index b.Index
    if y then
     let y1<-oW a0.Read b.Read
     if y1 then
      let y2<-xG a0.Kids b.Kids
      pure (id y2)
     else
      pure false
    else
     pure false
   else
    pure false
  else
   pure false
    : Option Bool)
 pure (id t4)
 partial_fixpoint
end
theorem pF:(∀(s1:(List zD)) (s2:(List zD)) r,xG s1 s2=some r->∀{I:Imm}{p c p1 c1},(S4 I p s1 c)->(S4 I p1 s2 c1)->RT 134 [vS p s1 c,vS p1 s2 c1,.func (.func 80) ⟨[]⟩ ⟨[]⟩] I [] (zQ  r))/\(∀(s1:(List zD)) (s2:(List zD)) (t17:Int) o,yU s1 s2 t17=some o->∀{B}{I0 I:Imm}{Q p c p1 c1},I0.le I->(S4 I p1 s2 c1)->(S4 I p s1 c)->NG Q->NO Q->(∀(I':Imm) ,o=(.done ())->I0.le I'->T 32 B Q (.exit 0) I' [] [])->(∀r I' ai m',o=(.ret r)->I0.le I'->RS Tryz.prog f134 B (zQ  r) I' ai m'->T 32 B Q .ret I' ai m')->J Tryz.prog 32 B (nav (bodyOf f134) [1,1,0,1,0]) Q I [] [(1,vS p1 s2 c1),(2,.func (.func 80) ⟨[]⟩ ⟨[]⟩),(15,vS p s1 c),(16,vI (s1.length:Int)),(17,vI t17)])/\(∀(a0:zD) (b:zD) r,mK a0 b=some r->∀{I:Imm}{p c p1 c1 p2 c2 p3 c3 p4 c4 p5 c5},(S4 I p a0.Index.Coefs c)->(S4 I p1 a0.Read.Subs c1)->(S4 I p2 a0.Kids c2)->(S4 I p3 b.Index.Coefs c3)->(S4 I p4 b.Read.Subs c4)->(S4 I p5 b.Kids c5)->RT 80 [vA (cExpr a0 p c p1 c1 p2 c2),vA (cExpr b p3 c3 p4 c4 p5 c5)] I [] (zQ  r)):=by
 refine xG.mutual_partial_correctness _ _ _ ?_ ?_ ?_
 ·intro F_slices_EqualFunc_impl_Expr_impl_Expr_impl_Expr_impl_Expr_l1 ih_slices_EqualFunc_impl_Expr_impl_Expr_impl_Expr_impl_Expr_l1 s1 s2 r N I p c p1 c1 h h1;refine yP func134 λB=>wM []<|zW<|yJ [14] rfl<|zI<|yC N ?_ ?_
  ·intro hc N;refine wM [(6,vF)]<|xJ<|zF ?_;obtain rfl:=zB N;exact wI
  intro hc N;refine zS<|zW<|yJ [15,16,17] rfl<|wS<|oR [(1,vS p1 s2 c1),(2,.func (.func 80) ⟨[]⟩ ⟨[]⟩),(15,vS p s1 c),(16,vI (s1.length:Int)),(17,vI 0)] ?_;obtain⟨o0,az,aF⟩:=zC N;refine ih_slices_EqualFunc_impl_Expr_impl_Expr_impl_Expr_impl_Expr_l1 s1 s2 0 o0 az iR h1 h (λ_ _ _ h=>h) (λ_ _ h=>h) ?_ ?_
  ·intro aP  heq af;subst o0;refine zT<|zBL [(6,vY)]<|zI<|yX ?_;obtain rfl:=zB aF;exact wI
  intro r0 I9 hs9 m9 aG le9 aH;subst aG;refine zR<|zF ?_;obtain rfl:=zB aF;exact xL aH
 ·intro F_slices_EqualFunc_impl_Expr_impl_Expr_impl_Expr_impl_Expr_l1 F_impl_exprSame ih_slices_EqualFunc_impl_Expr_impl_Expr_impl_Expr_impl_Expr_l1 ih_impl_exprSame s1 s2 t17 o N B I0 I Q p c p1 c1 H h1 h hg ho hx hr;refine yY hg ho<|yJ [18] rfl<|zW<|yC N ?_ ?_
  ·intro aD N;refine zS<|zW<|yK<|yE<|yG 1 [] [19] rfl<|bE N λx hy N=>wB rfl rfl h hy ?_;intro ad aK ar al;obtain⟨p2,c2,p3,c3,p4,c4,rfl,h2,h3,h4⟩:=wO al;refine xU 0 ar (cExpr x p2 c2 p3 c3 p4 c4) (vA (cExpr x p2 c2 p3 c3 p4 c4)) rfl<|vG zExpr ?_;intro b hb;refine yG 5 [] [7] rfl<|xW 0 (cExpr x p2 c2 p3 c3 p4 c4) rfl<|yB rfl<|xN<|yG 2 [] [22,23] rfl<|bE N λx1 ay N=>wB rfl rfl h1 ay ?_;intro ad1 bi ap aw;obtain⟨p5,c5,p6,c6,p7,c7,rfl,h5,h6,h7⟩:=wO aw;refine xU 0 ap (cExpr x1 p5 c5 p6 c6 p7 c7) (vA (cExpr x1 p5 c5 p6 c6 p7 c7)) rfl<|vG zExpr ?_;intro b1 hb1;refine xW 0 (cExpr x1 p5 c5 p6 c6 p7 c7) rfl<|yB rfl<|xN<|qX 3 [1,0] [(26,.func (.func 80) ⟨[]⟩ ⟨[]⟩),(27,vA (cExpr x p2 c2 p3 c3 p4 c4)),(28,vA (cExpr x1 p5 c5 p6 c6 p7 c7))]<|bE N λy aI N=>xX (ih_impl_exprSame x x1 _ aI h2 h3 h4 h5 h6 h7) ?_;rintro I0 ax v2 k2 le - ⟨v06,rfl,rfl,rfl⟩ -;have ⟨h1,h,H⟩:=m3 le h1 h H;refine yQ [] [30] rfl<|zI<|yC N ?_ ?_
   ·intro aQ N;exact wM [(6,vF)]<|xJ<|zR<|zF<|zF<|hr _ _ _ _ (zB N).symm H ⟨_,_,(.tmp rfl ResV.nil),zN,⟨_,rfl,rfl,rfl⟩⟩
   intro aQ N;exact zS<|zO<|zI<|zL<|yQ [] [17] rfl<|yW<|kJ zN<|oR [(1,vS p1 s2 c1),(2,.func (.func 80) ⟨[]⟩ ⟨[]⟩),(15,vS p s1 c),(16,vI (s1.length:Int)),(17,vI (W (t17+1)))]<|ih_slices_EqualFunc_impl_Expr_impl_Expr_impl_Expr_impl_Expr_l1 s1 s2 (W (t17+1)) _ N H h1 h hg ho hx hr
  intro aD N;exact vQ<|yS<|hx _  (zB N).symm H
 intro F_slices_EqualFunc_impl_Expr_impl_Expr_impl_Expr_impl_Expr ih_slices_EqualFunc_impl_Expr_impl_Expr_impl_Expr_impl_Expr a0 b r N I p c p1 c1 p2 c2 p3 c3 p4 c4 p5 c5 h h1 h2 h3 h4 h5;refine yP func80 λB=>?_;have H:=iS I;refine yE<|vM (cExpr a0 p c p1 c1 p2 c2) ?_;intro b1 hb;refine vM (cExpr b p3 c3 p4 c4 p5 c5) ?_;intro b2 hb1;refine wN [] []<|zI<|yA ?_;refine wQ N [] (λt4=>[(4,.bool t4)]) (λo0 az=>?_) ?_
 ·have H:=iS I;refine zL<|yG 6 [1,0] [10] rfl<|wC [10] az ?_ ?_
  ·intro hc N;refine yG 13 [1,0] [17] rfl<|wC [17] N ?_ ?_
   ·intro aD N;refine qX 17 [1,0] [(19,vA (cAff a0.Index p c)),(21,vA (cAff b.Index p3 c3))]<|bE N λy hy N=>vH (jF a0.Index b.Index _ hy h h3) ?_;intro aP le;have ⟨h4,h5,h1,h2,H⟩:=m5 le h4 h5 h1 h2 H;refine yG 20 [] [24] rfl<|wC [24] N ?_ ?_
    ·intro aQ N;refine qX 24 [1,0] [(26,vA (cAccess a0.Read p1 c1)),(28,vA (cAccess b.Read p4 c4))]<|bE N λy1 ay N=>vH (dR a0.Read b.Read _ ay h1 h4) ?_;intro aS af;have ⟨h5,h2,H⟩:=m3 af h5 h2 H;refine yG 27 [] [31] rfl<|wC [31] N ?_ ?_
     ·intro bu N;refine yG 31 [1,0] [33,35] rfl<|bE N λy2 aI N=>xX (ih_slices_EqualFunc_impl_Expr_impl_Expr_impl_Expr_impl_Expr a0.Kids b.Kids _ aI h2 h5) ?_;rintro bw ax v2 k2 aE - ⟨v02,rfl,rfl,rfl⟩ -;have H:=H.trans aE;exact yQ [] [4] rfl<|wD zN<|yS<|zU (ct N H)
     intro bu N;exact wN [] [(4,vF)]<|wD zN<|yS<|zU (ct N H)
    intro aQ N;exact wN [] [(4,vF)]<|wD zN<|yS<|zU (ct N H)
   intro aD N;exact wN [] [(4,vF)]<|wD zN<|yS<|zU (ct N H)
  intro hc N;exact wN [] [(4,vF)]<|wD zN<|yS<|zU (ct N H)
 intro t4 I0 aJ aM;refine zI<|yX ?_;obtain rfl:=zB aM;exact wI
theorem zEF:∀a0 b r,mK a0 b=some r->∀{I:Imm}{p c p1 c1 p2 c2 p3 c3 p4 c4 p5 c5},(S4 I p a0.Index.Coefs c)->(S4 I p1 a0.Read.Subs c1)->(S4 I p2 a0.Kids c2)->(S4 I p3 b.Index.Coefs c3)->(S4 I p4 b.Read.Subs c4)->(S4 I p5 b.Kids c5)->RT 80 [vA (cExpr a0 p c p1 c1 p2 c2),vA (cExpr b p3 c3 p4 c4 p5 c5)] I [] (zQ  r):=pF.2.2
def sV(a0:zM)(b:zM):Option (Bool):=do
 let t4<-(do
  let y<-oW a0.Write b.Write
  if y then
   let y1<-mK a0.Value b.Value
   pure (id y1)
  else
   pure false
    : Option Bool)
 pure (id t4)
theorem zEG:∀a0 b r,sV a0 b=some r->∀{I:Imm}{p c p1 c1 p2 c2 p3 c3 p4 c4 p5 c5 p6 c6 p7 c7},(S4 I p a0.Write.Subs c)->(S4 I p1 a0.Value.Index.Coefs c1)->(S4 I p2 a0.Value.Read.Subs c2)->(S4 I p3 a0.Value.Kids c3)->(S4 I p4 b.Write.Subs c4)->(S4 I p5 b.Value.Index.Coefs c5)->(S4 I p6 b.Value.Read.Subs c6)->(S4 I p7 b.Value.Kids c7)->RT 31 [vA (cStmt a0 p c p1 c1 p2 c2 p3 c3),vA (cStmt b p4 c4 p5 c5 p6 c6 p7 c7)] I [] (zQ  r):=by
 intro a0 b r N I p c p1 c1 p2 c2 p3 c3 p4 c4 p5 c5 p6 c6 p7 c7 h h1 h2 h3 h4 h5 h6 h7;unfold sV at N;refine yP func31 λB=>?_;have H:=iS I;refine yE<|vM (cStmt a0 p c p1 c1 p2 c2 p3 c3) ?_;intro b1 hb;refine vM (cStmt b p4 c4 p5 c5 p6 c6 p7 c7) ?_;intro b2 hb1;refine wN [] []<|zI<|yA ?_;refine wQ N [] (λt4=>[(4,.bool t4)]) (λo0 az=>?_) ?_
 ·have H:=iS I;refine zL<|qX 4 [1,0] [(6,vA (cAccess a0.Write p c)),(8,vA (cAccess b.Write p4 c4))] ?_;obtain⟨y,hy,N⟩:=zC az;refine vH (dR a0.Write b.Write _ hy h h4) ?_;intro aP le;have ⟨h5,h6,h7,h1,h2,h3⟩:=m6 le h5 h6 h7 h1 h2 h3;have H:=H.trans le;refine yG 6 [] [10] rfl<|wC [10] N ?_ ?_
  ·intro hc N;refine qX 10 [1,0] [(12,vA (cExpr a0.Value p1 c1 p2 c2 p3 c3)),(14,vA (cExpr b.Value p5 c5 p6 c6 p7 c7))]<|bE N λy1 ay N=>vH (zEF a0.Value b.Value _ ay h1 h2 h3 h5 h6 h7) ?_;intro aS af;have H:=H.trans af;exact yQ [] [4] rfl<|wD zN<|yS<|zU (ct N H)
  intro hc N;exact wN [] [(4,vF)]<|wD zN<|yS<|zU (ct N H)
 intro t4 I0 aE aM;refine zI<|yX ?_;obtain rfl:=zB aM;exact wI
def uB(aA:List HA)(r:Bool):KT:=λkk I' ai v=>
 ∃v0,aA=ai/\v=tupV [v0]/\v0=.bool r
def yM(s1:(List zM))(s2:(List zM))(eq:(zM->zM->Option Bool))(t17:Int):Option (Out Unit (Bool)):=do
 if(decide (t17<(s1.length:Int))) then
  let x<-idx s1 t17
  let x1<-idx s2 t17
  let y<-eq x x1
  if(!y) then
   pure (.ret false)
  else
   yM s1 s2 eq (W (t17+1))
 else
  pure (.done ())
 partial_fixpoint
theorem qF(s1:(List zM))(s2:(List zM))(eq:(zM->zM->Option Bool)):∀(t17:Int) (o:Out Unit (Bool)),yM s1 s2 eq t17=some o->∀{B}{I0 I:Imm}{Q p c p1 c1}{fv:Value}{aA:List HA},I0.le I->(S4 I p1 s2 c1)->(FV2 Tryz.prog I aA fv eq)->(S4 I p s1 c)->NG Q->NO Q->(∀(I':Imm) ,o=(.done ())->I0.le I'->T 32 B Q (.exit 0) I' aA [])->(∀r I' ai m',o=(.ret r)->I0.le I'->RS Tryz.prog f49 B (uB aA r) I' ai m'->T 32 B Q .ret I' ai m')->J Tryz.prog 32 B (nav (bodyOf f49) [1,1,0,1,0]) Q I aA [(1,vS p1 s2 c1),(2,fv),(15,vS p s1 c),(16,vI (s1.length:Int)),(17,vI t17)]:=by
 refine yM.partial_correctness s1 s2 eq _ λaN ih t17 o N B I0 I Q p c p1 c1 fv aA H h1 h2 h hg ho hx hr=>yY hg ho<|yJ [18] rfl<|zW<|yC N ?_ ?_
 ·intro aD N;refine zS<|zW<|yK<|yE<|yG 1 [] [19] rfl<|bE N λx hy N=>wB rfl rfl h hy ?_;intro ad aK ar al;obtain⟨p2,c2,p3,c3,p4,c4,p5,c5,rfl,h3,h4,h5,h6⟩:=uP al;refine xU 0 ar (cStmt x p2 c2 p3 c3 p4 c4 p5 c5) (vA (cStmt x p2 c2 p3 c3 p4 c4 p5 c5)) rfl<|vG [vT ([]),z0,vI 0,vI 0,z0,vI 0,vT ([]),z0,z0] ?_;intro b hb;refine yG 5 [] [7] rfl<|dL 0 (cStmt x p2 c2 p3 c3 p4 c4 p5 c5) (hB b (cStmt x p2 c2 p3 c3 p4 c4 p5 c5)::aA) rfl rfl rfl rfl<|yB rfl<|xN<|yG 2 [] [22,23] rfl<|bE N λx1 ay N=>wB rfl rfl h1 ay ?_;intro ad1 bi ap aw;obtain⟨p6,c6,p7,c7,p8,c8,p9,c9,rfl,h7,h8,h9,h10⟩:=uP aw;refine xU 0 ap (cStmt x1 p6 c6 p7 c7 p8 c8 p9 c9) (vA (cStmt x1 p6 c6 p7 c7 p8 c8 p9 c9)) rfl<|vG [vT ([]),z0,vI 0,vI 0,z0,vI 0,vT ([]),z0,z0] ?_;intro b1 hb1;refine dL 0 (cStmt x1 p6 c6 p7 c7 p8 c8 p9 c9) (hB b1 (cStmt x1 p6 c6 p7 c7 p8 c8 p9 c9)::hB b (cStmt x p2 c2 p3 c3 p4 c4 p5 c5)::aA) rfl rfl rfl rfl<|yB rfl<|xN<|qX 3 [1,0] [(26,fv),(27,vA (cStmt x p2 c2 p3 c3 p4 c4 p5 c5)),(28,vA (cStmt x1 p6 c6 p7 c7 p8 c8 p9 c9))]<|bE N λy aI N=>rS (ai:=aA++[hB b1 (cStmt x1 p6 c6 p7 c7 p8 c8 p9 c9),hB b (cStmt x p2 c2 p3 c3 p4 c4 p5 c5)]) (jR [hB b1 (cStmt x1 p6 c6 p7 c7 p8 c8 p9 c9),hB b (cStmt x p2 c2 p3 c3 p4 c4 p5 c5)] aA)<|zH5 rfl rfl rfl h2 aI ⟨_,rfl,(wV ⟨_,_,_,_,rfl,h3,h4,h5,h6⟩)⟩ ⟨_,rfl,(wV ⟨_,_,_,_,rfl,h7,h8,h9,h10⟩)⟩ rfl ?_;rintro I0 v08 le rfl;refine rS (ai:=(hB b1 (cStmt x1 p6 c6 p7 c7 p8 c8 p9 c9)::hB b (cStmt x p2 c2 p3 c3 p4 c4 p5 c5)::aA)) (jR aA [hB b1 (cStmt x1 p6 c6 p7 c7 p8 c8 p9 c9),hB b (cStmt x p2 c2 p3 c3 p4 c4 p5 c5)]) ?_;have ⟨h1,h2,h,H⟩:=m4 le h1 h2 h H;refine yQ [] [30] rfl<|zI<|yC N ?_ ?_
  ·intro aQ N;exact wM [(6,vF)]<|xJ<|zR<|zF<|zF<|hr _ _ _ _ (zB N).symm H ⟨_,_,(.tmp rfl ResV.nil),(mW [hB b1 (cStmt x1 p6 c6 p7 c7 p8 c8 p9 c9),hB b (cStmt x p2 c2 p3 c3 p4 c4 p5 c5)] aA [] rfl (by decide)),⟨_,rfl,rfl,rfl⟩⟩
  intro aQ N;exact zS<|zO<|zI<|zL<|yQ [] [17] rfl<|yW<|kJ (mW [hB b1 (cStmt x1 p6 c6 p7 c7 p8 c8 p9 c9),hB b (cStmt x p2 c2 p3 c3 p4 c4 p5 c5)] aA [] rfl (by decide))<|mE<|ih (W (t17+1)) _ N H h1 h2 h hg ho hx hr
 intro aD N;exact vQ<|yS<|hx _  (zB N).symm H
def xH(s1:(List zM))(s2:(List zM))(eq:(zM->zM->Option Bool)):Option (Bool):=do
 if((s1.length:Int) != (s2.length:Int)) then
  pure false
 else
  match<-yM s1 s2 eq 0 with
  | .ret r0=>pure r0
  | .done _=>
   pure true
theorem pJ:∀s1 s2 eq r,xH s1 s2 eq=some r->∀{I:Imm}{p c p1 c1}{fv:Value}{aA:List HA},(S4 I p s1 c)->(S4 I p1 s2 c1)->(FV2 Tryz.prog I aA fv eq)->RT 49 [vS p s1 c,vS p1 s2 c1,fv] I aA (uB aA r):=by
 intro s1 s2 eq r N I p c p1 c1 fv aA h h1 h2;unfold xH at N;refine yP func49 λB=>wM []<|zW<|yJ [14] rfl<|zI<|yC N ?_ ?_
 ·intro hc N;refine wM [(6,vF)]<|xJ<|zF ?_;obtain rfl:=zB N;exact xL ⟨_,_,(.tmp rfl ResV.nil),(λ_ h=>h),⟨_,rfl,rfl,rfl⟩⟩
 intro hc N;refine zS<|zW<|yJ [15,16,17] rfl<|wS<|oR [(1,vS p1 s2 c1),(2,fv),(15,vS p s1 c),(16,vI (s1.length:Int)),(17,vI 0)] ?_;obtain⟨o0,az,aF⟩:=zC N;refine qF s1 s2 eq 0 o0 az iR h1 h2 h (λ_ _ _ h=>h) (λ_ _ h=>h) ?_ ?_
 ·intro aP  heq af;subst o0;refine zT<|zBL [(6,vY)]<|zI<|yX ?_;obtain rfl:=zB aF;exact xL ⟨_,_,(.tmp rfl ResV.nil),(λ_ h=>h),⟨_,rfl,rfl,rfl⟩⟩
 intro r0 I9 hs9 m9 aG le9 aH;subst aG;refine zR<|zF ?_;obtain rfl:=zB aF;exact xL aH
def vX(x:zJ)(y:zJ):Option (Bool):=do
 let t4<-(do
  let y1<-jL x.Nest y.Nest
  if y1 then
   let y2<-xH x.Body y.Body sV
   pure (id y2)
  else
   pure false
    : Option Bool)
 pure (id t4)
theorem zBR:∀x y r,vX x y=some r->∀{I:Imm}{p c p1 c1 p2 c2 p3 c3},(S4 I p x.Nest c)->(S4 I p1 x.Body c1)->(S4 I p2 y.Nest c2)->(S4 I p3 y.Body c3)->RT 48 [vA (cPart x p c p1 c1),vA (cPart y p2 c2 p3 c3)] I [] (zQ  r):=by
 intro x y r N I p c p1 c1 p2 c2 p3 c3 h h1 h2 h3;unfold vX at N;refine yP func48 λB=>?_;have H:=iS I;refine yE<|vM (cPart x p c p1 c1) ?_;intro b hb;refine vM (cPart y p2 c2 p3 c3) ?_;intro b1 hb1;refine wN [] []<|zI<|yA ?_;refine wQ N [] (λt4=>[(4,.bool t4)]) (λo0 az=>?_) ?_
 ·have H:=iS I;refine zL<|yG 4 [1,0] [6,8] rfl ?_;obtain⟨y1,hy,N⟩:=zC az;refine vH (zEE x.Nest y.Nest _ hy h h2) ?_;intro aP le;have ⟨h3,h,h1,H⟩:=m4 le h3 h h1 H;refine yG 6 [] [10] rfl<|wC [10] N ?_ ?_
  ·intro hc N;refine yG 10 [1,0] [12,14] rfl ?_;have hf0:FV2 Tryz.prog aP [] (.func (.func 31) ⟨[]⟩ ⟨[]⟩) sV:=by
    refine FV2.intro ?_;intro I1 af x0 x1 r u0 u1 hF k0 k1;obtain⟨_,rfl,k0⟩:=k0;obtain⟨p4,c4,p5,c5,p6,c6,p7,c7,rfl,h5,h6,h7,h8⟩:=uP k0;obtain⟨_,rfl,k1⟩:=k1;obtain⟨p8,c8,p9,c9,aZ,ba,aT,aU,rfl,h9,h10,h11,h12⟩:=uP k1;exact(zEG x0 x1 r hF h5 h6 h7 h8 h9 h10 h11 h12).mono (by rintro k i hs u ⟨v0,rfl,rfl,h⟩;exact⟨rfl,h⟩)
   obtain⟨y2,ay,N⟩:=zC N;refine xX (pJ x.Body y.Body sV _ ay h1 h3 hf0) ?_;rintro aS ax v2 k2 af - ⟨v09,rfl,rfl,rfl⟩ -;have H:=H.trans af;exact yQ [] [4] rfl<|wD zN<|yS<|zU (ct N H)
  intro hc N;exact wN [] [(4,vF)]<|wD zN<|yS<|zU (ct N H)
 intro t4 I0 aE aM;refine zI<|yX ?_;obtain rfl:=zB aM;exact wI
def vO(aA:List HA)(r:Bool):KT:=λkk I' ai v=>
 ∃v0,aA=ai/\v=tupV [v0]/\v0=.bool r
def yI(s1:(List zG))(s2:(List zG))(eq:(zG->zG->Option Bool))(t17:Int):Option (Out Unit (Bool)):=do
 if(decide (t17<(s1.length:Int))) then
  let x<-idx s1 t17
  let x1<-idx s2 t17
  let y<-eq x x1
  if(!y) then
   pure (.ret false)
  else
   yI s1 s2 eq (W (t17+1))
 else
  pure (.done ())
 partial_fixpoint
theorem rE(s1:(List zG))(s2:(List zG))(eq:(zG->zG->Option Bool)):∀(t17:Int) (o:Out Unit (Bool)),yI s1 s2 eq t17=some o->∀{B}{I0 I:Imm}{Q p c p1 c1}{fv:Value}{aA:List HA},I0.le I->(S4 I p1 s2 c1)->(FV2 Tryz.prog I aA fv eq)->(S4 I p s1 c)->NG Q->NO Q->(∀(I':Imm) ,o=(.done ())->I0.le I'->T 32 B Q (.exit 0) I' aA [])->(∀r I' ai m',o=(.ret r)->I0.le I'->RS Tryz.prog f50 B (vO aA r) I' ai m'->T 32 B Q .ret I' ai m')->J Tryz.prog 32 B (nav (bodyOf f50) [1,1,0,1,0]) Q I aA [(1,vS p1 s2 c1),(2,fv),(15,vS p s1 c),(16,vI (s1.length:Int)),(17,vI t17)]:=by
 refine yI.partial_correctness s1 s2 eq _ λaN ih t17 o N B I0 I Q p c p1 c1 fv aA H h1 h2 h hg ho hx hr=>yY hg ho<|yJ [18] rfl<|zW<|yC N ?_ ?_
 ·intro aD N;refine zS<|zW<|yK<|yE<|yG 1 [] [19] rfl<|bE N λx hy N=>wB rfl rfl h hy ?_;intro ad aK ar al;obtain⟨p2,c2,rfl,h3⟩:=xQ al;refine xU 0 ar (cArr x p2 c2) (vA (cArr x p2 c2)) rfl<|vG [vT ([]),z0] ?_;intro b hb;refine yG 5 [] [7] rfl<|dL 0 (cArr x p2 c2) (hB b (cArr x p2 c2)::aA) rfl rfl rfl rfl<|yB rfl<|xN<|yG 2 [] [22,23] rfl<|bE N λx1 ay N=>wB rfl rfl h1 ay ?_;intro ad1 bi ap aw;obtain⟨p3,c3,rfl,h4⟩:=xQ aw;refine xU 0 ap (cArr x1 p3 c3) (vA (cArr x1 p3 c3)) rfl<|vG [vT ([]),z0] ?_;intro b1 hb1;refine dL 0 (cArr x1 p3 c3) (hB b1 (cArr x1 p3 c3)::hB b (cArr x p2 c2)::aA) rfl rfl rfl rfl<|yB rfl<|xN<|qX 3 [1,0] [(26,fv),(27,vA (cArr x p2 c2)),(28,vA (cArr x1 p3 c3))]<|bE N λy aI N=>rS (ai:=aA++[hB b1 (cArr x1 p3 c3),hB b (cArr x p2 c2)]) (jR [hB b1 (cArr x1 p3 c3),hB b (cArr x p2 c2)] aA)<|zH5 rfl rfl rfl h2 aI ⟨_,rfl,(sU ⟨_,rfl,h3⟩)⟩ ⟨_,rfl,(sU ⟨_,rfl,h4⟩)⟩ rfl ?_;rintro I0 v02 le rfl;refine rS (ai:=(hB b1 (cArr x1 p3 c3)::hB b (cArr x p2 c2)::aA)) (jR aA [hB b1 (cArr x1 p3 c3),hB b (cArr x p2 c2)]) ?_;have ⟨h1,h2,h,H⟩:=m4 le h1 h2 h H;refine yQ [] [30] rfl<|zI<|yC N ?_ ?_
  ·intro aQ N;exact wM [(6,vF)]<|xJ<|zR<|zF<|zF<|hr _ _ _ _ (zB N).symm H ⟨_,_,(.tmp rfl ResV.nil),(mW [hB b1 (cArr x1 p3 c3),hB b (cArr x p2 c2)] aA [] rfl (by decide)),⟨_,rfl,rfl,rfl⟩⟩
  intro aQ N;exact zS<|zO<|zI<|zL<|yQ [] [17] rfl<|yW<|kJ (mW [hB b1 (cArr x1 p3 c3),hB b (cArr x p2 c2)] aA [] rfl (by decide))<|mE<|ih (W (t17+1)) _ N H h1 h2 h hg ho hx hr
 intro aD N;exact vQ<|yS<|hx _  (zB N).symm H
def xB(s1:(List zG))(s2:(List zG))(eq:(zG->zG->Option Bool)):Option (Bool):=do
 if((s1.length:Int) != (s2.length:Int)) then
  pure false
 else
  match<-yI s1 s2 eq 0 with
  | .ret r0=>pure r0
  | .done _=>
   pure true
theorem rU:∀s1 s2 eq r,xB s1 s2 eq=some r->∀{I:Imm}{p c p1 c1}{fv:Value}{aA:List HA},(S4 I p s1 c)->(S4 I p1 s2 c1)->(FV2 Tryz.prog I aA fv eq)->RT 50 [vS p s1 c,vS p1 s2 c1,fv] I aA (vO aA r):=by
 intro s1 s2 eq r N I p c p1 c1 fv aA h h1 h2;unfold xB at N;refine yP func50 λB=>wM []<|zW<|yJ [14] rfl<|zI<|yC N ?_ ?_
 ·intro hc N;refine wM [(6,vF)]<|xJ<|zF ?_;obtain rfl:=zB N;exact xL ⟨_,_,(.tmp rfl ResV.nil),(λ_ h=>h),⟨_,rfl,rfl,rfl⟩⟩
 intro hc N;refine zS<|zW<|yJ [15,16,17] rfl<|wS<|oR [(1,vS p1 s2 c1),(2,fv),(15,vS p s1 c),(16,vI (s1.length:Int)),(17,vI 0)] ?_;obtain⟨o0,az,aF⟩:=zC N;refine rE s1 s2 eq 0 o0 az iR h1 h2 h (λ_ _ _ h=>h) (λ_ _ h=>h) ?_ ?_
 ·intro aP  heq af;subst o0;refine zT<|zBL [(6,vY)]<|zI<|yX ?_;obtain rfl:=zB aF;exact xL ⟨_,_,(.tmp rfl ResV.nil),(λ_ h=>h),⟨_,rfl,rfl,rfl⟩⟩
 intro r0 I9 hs9 m9 aG le9 aH;subst aG;refine zR<|zF ?_;obtain rfl:=zB aF;exact xL aH
def uC(aA:List HA)(r:Bool):KT:=λkk I' ai v=>
 ∃v0,aA=ai/\v=tupV [v0]/\v0=.bool r
def yN(s1:(List zJ))(s2:(List zJ))(eq:(zJ->zJ->Option Bool))(t17:Int):Option (Out Unit (Bool)):=do
 if(decide (t17<(s1.length:Int))) then
  let x<-idx s1 t17
  let x1<-idx s2 t17
  let y<-eq x x1
  if(!y) then
   pure (.ret false)
  else
   yN s1 s2 eq (W (t17+1))
 else
  pure (.done ())
 partial_fixpoint
theorem qG(s1:(List zJ))(s2:(List zJ))(eq:(zJ->zJ->Option Bool)):∀(t17:Int) (o:Out Unit (Bool)),yN s1 s2 eq t17=some o->∀{B}{I0 I:Imm}{Q p c p1 c1}{fv:Value}{aA:List HA},I0.le I->(S4 I p1 s2 c1)->(FV2 Tryz.prog I aA fv eq)->(S4 I p s1 c)->NG Q->NO Q->(∀(I':Imm) ,o=(.done ())->I0.le I'->T 32 B Q (.exit 0) I' aA [])->(∀r I' ai m',o=(.ret r)->I0.le I'->RS Tryz.prog f51 B (uC aA r) I' ai m'->T 32 B Q .ret I' ai m')->J Tryz.prog 32 B (nav (bodyOf f51) [1,1,0,1,0]) Q I aA [(1,vS p1 s2 c1),(2,fv),(15,vS p s1 c),(16,vI (s1.length:Int)),(17,vI t17)]:=by
 refine yN.partial_correctness s1 s2 eq _ λaN ih t17 o N B I0 I Q p c p1 c1 fv aA H h1 h2 h hg ho hx hr=>yY hg ho<|yJ [18] rfl<|zW<|yC N ?_ ?_
 ·intro aD N;refine zS<|zW<|yK<|yE<|yG 1 [] [19] rfl<|bE N λx hy N=>wB rfl rfl h hy ?_;intro ad aK ar al;obtain⟨p2,c2,p3,c3,rfl,h3,h4⟩:=vL al;refine xU 0 ar (cPart x p2 c2 p3 c3) (vA (cPart x p2 c2 p3 c3)) rfl<|vG zTwo ?_;intro b hb;refine yG 5 [] [7] rfl<|dL 0 (cPart x p2 c2 p3 c3) (hB b (cPart x p2 c2 p3 c3)::aA) rfl rfl rfl rfl<|yB rfl<|xN<|yG 2 [] [22,23] rfl<|bE N λx1 ay N=>wB rfl rfl h1 ay ?_;intro ad1 bi ap aw;obtain⟨p4,c4,p5,c5,rfl,h5,h6⟩:=vL aw;refine xU 0 ap (cPart x1 p4 c4 p5 c5) (vA (cPart x1 p4 c4 p5 c5)) rfl<|vG zTwo ?_;intro b1 hb1;refine dL 0 (cPart x1 p4 c4 p5 c5) (hB b1 (cPart x1 p4 c4 p5 c5)::hB b (cPart x p2 c2 p3 c3)::aA) rfl rfl rfl rfl<|yB rfl<|xN<|qX 3 [1,0] [(26,fv),(27,vA (cPart x p2 c2 p3 c3)),(28,vA (cPart x1 p4 c4 p5 c5))]<|bE N λy aI N=>rS (ai:=aA++[hB b1 (cPart x1 p4 c4 p5 c5),hB b (cPart x p2 c2 p3 c3)]) (jR [hB b1 (cPart x1 p4 c4 p5 c5),hB b (cPart x p2 c2 p3 c3)] aA)<|zH5 rfl rfl rfl h2 aI ⟨_,rfl,(uU ⟨_,_,rfl,h3,h4⟩)⟩ ⟨_,rfl,(uU ⟨_,_,rfl,h5,h6⟩)⟩ rfl ?_;rintro I0 v04 le rfl;refine rS (ai:=(hB b1 (cPart x1 p4 c4 p5 c5)::hB b (cPart x p2 c2 p3 c3)::aA)) (jR aA [hB b1 (cPart x1 p4 c4 p5 c5),hB b (cPart x p2 c2 p3 c3)]) ?_;have ⟨h1,h2,h,H⟩:=m4 le h1 h2 h H;refine yQ [] [30] rfl<|zI<|yC N ?_ ?_
  ·intro aQ N;exact wM [(6,vF)]<|xJ<|zR<|zF<|zF<|hr _ _ _ _ (zB N).symm H ⟨_,_,(.tmp rfl ResV.nil),(mW [hB b1 (cPart x1 p4 c4 p5 c5),hB b (cPart x p2 c2 p3 c3)] aA [] rfl (by decide)),⟨_,rfl,rfl,rfl⟩⟩
  intro aQ N;exact zS<|zO<|zI<|zL<|yQ [] [17] rfl<|yW<|kJ (mW [hB b1 (cPart x1 p4 c4 p5 c5),hB b (cPart x p2 c2 p3 c3)] aA [] rfl (by decide))<|mE<|ih (W (t17+1)) _ N H h1 h2 h hg ho hx hr
 intro aD N;exact vQ<|yS<|hx _  (zB N).symm H
def xI(s1:(List zJ))(s2:(List zJ))(eq:(zJ->zJ->Option Bool)):Option (Bool):=do
 if((s1.length:Int) != (s2.length:Int)) then
  pure false
 else
  match<-yN s1 s2 eq 0 with
  | .ret r0=>pure r0
  | .done _=>
   pure true
theorem pK:∀s1 s2 eq r,xI s1 s2 eq=some r->∀{I:Imm}{p c p1 c1}{fv:Value}{aA:List HA},(S4 I p s1 c)->(S4 I p1 s2 c1)->(FV2 Tryz.prog I aA fv eq)->RT 51 [vS p s1 c,vS p1 s2 c1,fv] I aA (uC aA r):=by
 intro s1 s2 eq r N I p c p1 c1 fv aA h h1 h2;unfold xI at N;refine yP func51 λB=>wM []<|zW<|yJ [14] rfl<|zI<|yC N ?_ ?_
 ·intro hc N;refine wM [(6,vF)]<|xJ<|zF ?_;obtain rfl:=zB N;exact xL ⟨_,_,(.tmp rfl ResV.nil),(λ_ h=>h),⟨_,rfl,rfl,rfl⟩⟩
 intro hc N;refine zS<|zW<|yJ [15,16,17] rfl<|wS<|oR [(1,vS p1 s2 c1),(2,fv),(15,vS p s1 c),(16,vI (s1.length:Int)),(17,vI 0)] ?_;obtain⟨o0,az,aF⟩:=zC N;refine qG s1 s2 eq 0 o0 az iR h1 h2 h (λ_ _ _ h=>h) (λ_ _ h=>h) ?_ ?_
 ·intro aP  heq af;subst o0;refine zT<|zBL [(6,vY)]<|zI<|yX ?_;obtain rfl:=zB aF;exact xL ⟨_,_,(.tmp rfl ResV.nil),(λ_ h=>h),⟨_,rfl,rfl,rfl⟩⟩
 intro r0 I9 hs9 m9 aG le9 aH;subst aG;refine zR<|zF ?_;obtain rfl:=zB aF;exact xL aH
def rF(a0:zP)(b:zP):Option (Bool):=do
 let t4<-(do
  let y<-xB a0.Arrays b.Arrays vW
  if y then
   let y1<-xI a0.Parts b.Parts vX
   pure (id y1)
  else
   pure false
    : Option Bool)
 pure (id t4)
theorem gU:∀a0 b r,rF a0 b=some r->∀{I:Imm}{p c p1 c1 p2 c2 p3 c3},(S4 I p a0.Arrays c)->(S4 I p1 a0.Parts c1)->(S4 I p2 b.Arrays c2)->(S4 I p3 b.Parts c3)->RT 13 [vA (cProg a0 p c p1 c1),vA (cProg b p2 c2 p3 c3)] I [] (zQ  r):=by
 intro a0 b r N I p c p1 c1 p2 c2 p3 c3 h h1 h2 h3;unfold rF at N;refine yP func13 λB=>?_;have H:=iS I;refine yE<|vM (cProg a0 p c p1 c1) ?_;intro b1 hb;refine vM (cProg b p2 c2 p3 c3) ?_;intro b2 hb1;refine wN [] []<|uN [5] rfl<|uN [6] rfl<|zI<|yA ?_;refine wQ N [] (λt4=>[(4,.bool t4)]) (λo0 az=>?_) ?_
 ·have H:=iS I;refine zL<|yG 5 [1,0] [8,10,11] rfl ?_;have hf0:FV2 Tryz.prog I [] (.func (.func 46) ⟨[]⟩ ⟨[]⟩) vW:=by
   refine FV2.intro ?_;intro I1 af x0 x1 r u0 u1 hF k0 k1;obtain⟨_,rfl,k0⟩:=k0;obtain⟨p4,c4,rfl,h4⟩:=xQ k0;obtain⟨_,rfl,k1⟩:=k1;obtain⟨p5,c5,rfl,h5⟩:=xQ k1;exact(zBQ x0 x1 r hF h4 h5).mono (by rintro k i hs u ⟨v0,rfl,rfl,h⟩;exact⟨rfl,h⟩)
  obtain⟨y,hy,N⟩:=zC az;refine xX (rU a0.Arrays b.Arrays vW _ hy h h2 hf0) ?_;rintro aP ax v2 k2 le - ⟨v02,rfl,rfl,rfl⟩ -;have ⟨h3,h,h1,H⟩:=m4 le h3 h h1 H;refine yG 7 [] [13] rfl<|wC [13] N ?_ ?_
  ·intro hc N;refine yG 12 [1,0] [15,17,18] rfl ?_;have hf01:FV2 Tryz.prog aP [] (.func (.func 48) ⟨[]⟩ ⟨[]⟩) vX:=by
    refine FV2.intro ?_;intro I1 af x0 x1 r u0 u1 hF k0 k1;obtain⟨_,rfl,k0⟩:=k0;obtain⟨p6,c6,p7,c7,rfl,h7,h8⟩:=vL k0;obtain⟨_,rfl,k1⟩:=k1;obtain⟨p8,c8,p9,c9,rfl,h9,h10⟩:=vL k1;exact(zBR x0 x1 r hF h7 h8 h9 h10).mono (by rintro k i hs u ⟨v0,rfl,rfl,h⟩;exact⟨rfl,h⟩)
   obtain⟨y1,ay,N⟩:=zC N;refine xX (pK a0.Parts b.Parts vX _ ay h1 h3 hf01) ?_;rintro aS ax v2 k2 af - ⟨v07,rfl,rfl,rfl⟩ -;have H:=H.trans af;exact yQ [] [4] rfl<|wD zN<|yS<|zU (ct N H)
  intro hc N;exact wN [] [(4,vF)]<|wD zN<|yS<|zU (ct N H)
 intro t4 I0 aE aM;refine zI<|yX ?_;obtain rfl:=zB aM;exact wI
def zDJ(r:zK):KT:=λkk I' ai v=>
 ∃b_0 a0_0 c0_0,ai=[.blk b_0 ⟨[.slice a0_0 r.b.length c0_0,.int .i64 r.p]⟩]/\v=tupV [(.pointer (some ⟨b_0,0,none⟩))]/\SL I' (.slice a0_0 r.b.length c0_0) r.b
def gH(code:(List UInt8)):Option (zK):=do
 let code1<-(do
  if(decide ((code.length:Int)>2000)) then
   let l<-slc code 0 2000
   pure (id l)
  else
   pure (id code)
    : Option (List UInt8))
 pure (zK.mk code1 0)
theorem zEi:∀code r,gH code=some r->∀{I:Imm}{p c},(S4 I p code c)->RT 52 [vS p code c] I [] (zDJ  r):=by
 intro code r N I p c h;unfold gH at N;refine yP func52 λB=>?_;have H:=iS I;refine wM []<|zW<|yJ [5] rfl<|zI ?_;obtain⟨o0,az,aM⟩:=zC N;refine nH (λI' ai m'=>∃(code1:List UInt8) (p1:Option Addr) (c1:Nat),o0=code1/\I.le I'/\(S4 I' p1 code1 c1)/\ai=[]/\m'=[(0,vS p1 code1 c1)]) ?_ ?_
 ·have H:=iS I;refine yC az ?_ ?_
  ·intro hc N;refine zL<|yG 1 [] [6] rfl<|bE N λl hy N=>zMO rfl h hy ?_;intro v0 h2;obtain⟨p2,c2,rfl⟩:=h2.form;exact yQ [] [0] rfl<|yS<|zU ⟨_,_,_,(zB N).symm,H,h2,rfl,rfl⟩
  intro hc N;exact zS<|yS<|zU ⟨_,_,_,(zB N).symm,H,h,rfl,rfl⟩
 rintro I0 ax m2 ⟨code1,p1,c1,heq,le,h1,rfl,rfl⟩;subst o0;refine xN<|yG 2 [] [9] rfl<|vM [vS p1 code1 c1,vI 0] ?_;intro b hb;refine yQ [] [2] rfl<|zI<|yX ?_;obtain rfl:=zB aM;exact xL ⟨_,_,(.tmp rfl ResV.nil),(zV [0] rfl (by decide)),⟨_,_,_,rfl,rfl,h1⟩⟩
def rG(x:zG)(k0:Int):Option (Out Unit (Bool)):=do
 if(decide (k0<(x.Dims.length:Int))) then
  let t77<-(do
   let x2<-idx x.Dims k0
   if(decide (x2<1)) then
    pure true
   else
    let x3<-idx x.Dims k0
    pure (decide (x3>6))
     : Option Bool)
  if t77 then
   pure (.ret false)
  else
   rG x (W (k0+1))
 else
  pure (.done ())
 partial_fixpoint
theorem zCG(x:zG):∀(k0:Int) (o:Out Unit (Bool)),rG x k0=some o->∀{B}{I0 I:Imm}{Q}{ah:(List zG)}{i:Int}{p c p1 c1}{b:Nat},I0.le I->(S4 I p ah c)->(S4 I p1 x.Dims c1)->NG Q->NO Q->(∀(I':Imm) ,o=(.done ())->I0.le I'->T 81 B Q (.exit 2) I' [] [(0,vS p ah c),(3,vI i)])->(∀r I' ai m',o=(.ret r)->I0.le I'->RS Tryz.prog f44 B (zQ  r) I' ai m'->T 81 B Q .ret I' ai m')->J Tryz.prog 81 B (nav (bodyOf f44) [1,0,1,0,0,1,0,0,1,1,1,0]) Q I [hB b (cArr x p1 c1)] [(0,vS p ah c),(3,vI i),(4,vP b 0),(5,vI k0)]:=by
 refine rG.partial_correctness x _ λaN ih k0 o N B I0 I Q ah i p c p1 c1 b H h h1 hg ho hx hr=>yY hg ho<|yA<|yE<|yQ [0] [61] rfl<|zI<|yC N ?_ ?_
 ·intro hc9 N;refine zS<|zW<|yK<|yA ?_;refine wQ N [hB b (cArr x p1 c1)] (λt77=>[(0,vS p ah c),(3,vI i),(4,vP b 0),(5,vI k0),(77,.bool t77)]) (λaO aB=>?_) ?_
  ·have H:=iS I;refine zL<|yG 3 [0] [65,66] rfl ?_;obtain⟨x2,aI,N⟩:=zC aB;refine wB rfl rfl h1 aI ?_;intro ad2 bP bh bj;obtain rfl:=bj;refine xU 0 bh [vI x2] (vI x2) rfl<|yG 7 [] [70] rfl<|wC [70] N ?_ ?_
   ·intro hc10 N;exact wN [] [(77,vY)]<|yS<|zU (ct N H)
   intro hc10 N;refine yG 10 [0] [72,73] rfl<|bE N λx3 aW N=>wB rfl rfl h1 aW ?_;intro ad3 ccs3 hat3 bC;obtain rfl:=bC;exact xU 0 hat3 [vI x3] (vI x3) rfl<|yQ [] [77] rfl<|yS<|zU (ct N H)
  intro t77 aP af hMc1;have ⟨h,h1,H⟩:=m3 af h h1 H;refine zI<|yC hMc1 ?_ ?_
  ·intro hc11 N;exact wM [(2,vF)]<|xJ<|zR<|zF<|zF<|hr _ _ _ _ (zB N).symm H ⟨_,_,(.tmp rfl ResV.nil),zN,⟨_,rfl,rfl,rfl⟩⟩
  intro hc11 N;exact zS<|zO<|zI<|zL<|yQ [] [5] rfl<|yW<|mE<|ih (W (k0+1)) _ N H h h1 hg ho hx hr
 intro hc9 N;exact vQ<|wD zN<|yS<|hx _  (zB N).symm H
def rH(ah:(List zG))(i:Int):Option (Out Unit (Bool)):=do
 if(decide (i<(ah.length:Int))) then
  let x<-idx ah i
  let t56<-(do
   if((x.Name.l.length:Int) != 1) then
    pure true
   else
    if(Op.bytesLess x.Name.l ([65]:List UInt8)) then
     pure true
    else
     if(!(Op.bytesLess x.Name.l ([68]:List UInt8)||x.Name.l==([68]:List UInt8))) then
      pure true
     else
      if(decide (i>0)) then
       let x1<-idx ah (W (i - 1))
       if(!(Op.bytesLess x1.Name.l x.Name.l)) then
        pure true
       else
        if(decide ((x.Dims.length:Int)<1)) then
         pure true
        else
         pure (decide ((x.Dims.length:Int)>2))
      else
       if(decide ((x.Dims.length:Int)<1)) then
        pure true
       else
        pure (decide ((x.Dims.length:Int)>2))
     : Option Bool)
  if t56 then
   pure (.ret false)
  else
   match<-rG x 0 with
   | .ret r0=>pure (.ret r0)
   | .done _=>
    rH ah (W (i+1))
 else
  pure (.done ())
 partial_fixpoint
theorem zCH(ah:(List zG)):∀(i:Int) (o:Out Unit (Bool)),rH ah i=some o->∀{B}{I0 I:Imm}{Q p c},I0.le I->(S4 I p ah c)->NG Q->NO Q->(∀(I':Imm) ,o=(.done ())->I0.le I'->T 81 B Q (.exit 0) I' [] [(0,vS p ah c)])->(∀r I' ai m',o=(.ret r)->I0.le I'->RS Tryz.prog f44 B (zQ  r) I' ai m'->T 81 B Q .ret I' ai m')->J Tryz.prog 81 B (nav (bodyOf f44) [1,0,1,0]) Q I [] [(0,vS p ah c),(3,vI i)]:=by
 refine rH.partial_correctness ah _ λaN ih i o N B I0 I Q p c H h hg ho hx hr=>yY hg ho<|yA<|yJ [9] rfl<|zI<|yC N ?_ ?_
 ·intro hc N;refine zS<|zW<|yK<|yE<|yG 2 [] [12,13] rfl<|bE N λx hy N=>wB rfl rfl h hy ?_;intro ad aK ar al;obtain⟨p1,c1,rfl,h1⟩:=xQ al;refine xU 0 ar (cArr x p1 c1) (vA (cArr x p1 c1)) rfl<|vG [vT ([]),z0] ?_;intro b hb;refine xW 0 (cArr x p1 c1) rfl<|yB rfl<|zW<|yA ?_;refine wQ N [hB b (cArr x p1 c1)] (λt56=>[(0,vS p ah c),(3,vI i),(4,vP b 0),(56,.bool t56)]) (λo0 az=>?_) ?_
  ·have H:=iS I;refine fH (by kernel_rfl) (by kernel_rfl)<|zAE 5 [0] [20] rfl<|zFZ [20] az ?_ ?_
   ·intro aD N;exact zIT [] [(56,vY)]<|yS<|zU (ct N H)
   intro aD N;refine zAE 10 [0] [25] rfl<|zFZ [25] N ?_ ?_
   ·intro aQ N;exact zIT [] [(56,vY)]<|yS<|zU (ct N H)
   intro aQ N;refine zAE 15 [0] [30] rfl<|zFZ [30] N ?_ ?_
   ·intro bu N;exact zIT [] [(56,vY)]<|yS<|zU (ct N H)
   intro bu N;refine zAE 18 [] [33] rfl<|zFZ [33] N ?_ ?_
   ·intro bK N;refine zAE 21 [] [34,36] rfl<|bE N λx1 ay N=>zB4 rfl rfl h ay ?_;intro ad1 bi ap aw;obtain⟨p2,c2,rfl,h2⟩:=xQ aw;refine zAE 23 [] [38] rfl<|zB3 0 ap [vT x1.Name.l] (vT x1.Name.l) rfl<|zAE 30 [0] [45] rfl<|zFZ [45] N ?_ ?_
    ·intro hc5 N;exact zIT [] [(56,vY)]<|yS<|zU (ct N H)
    intro hc5 N;refine zAE 36 [0] [51] rfl<|zFZ [51] N ?_ ?_
    ·intro hc6 N;exact zIT [] [(56,vY)]<|yS<|zU (ct N H)
    intro hc6 N;exact zH6 [0] [56] rfl<|yS<|zU (ct N H)
   intro bK N;refine zAE 36 [0] [51] rfl<|zFZ [51] N ?_ ?_
   ·intro hc7 N;exact zIT [] [(56,vY)]<|yS<|zU (ct N H)
   intro hc7 N;exact zH6 [0] [56] rfl<|yS<|zU (ct N H)
  intro t56 I0 le aM;have ⟨h,h1,H⟩:=m3 le h h1 H;refine zI<|yC aM ?_ ?_
  ·intro hc8 N;exact wM [(2,vF)]<|xJ<|zF<|zR<|zF<|zF<|hr _ _ _ _ (zB N).symm H ⟨_,_,(.tmp rfl ResV.nil),zN,⟨_,rfl,rfl,rfl⟩⟩
  intro hc8 N;refine zS<|uN [5] rfl<|wS<|oR [(0,vS p ah c),(3,vI i),(4,vP b 0),(5,vI 0)] ?_;obtain⟨o02,ho02,aF⟩:=zC N;refine zCG x 0 o02 ho02 iR h h1 (λ_ _ _ h=>hg _ _ _ h) (λ_ _ h=>ho _ _ h) ?_ ?_
  ·intro aS  heq2 aE;subst o02;have ⟨h,H⟩:=m2 aE h H;exact zT<|zO<|zI<|zL<|yQ [] [3] rfl<|yW<|mE<|ih (W (i+1)) _ aF H h hg ho hx hr
  intro r0 I9 hs9 m9 aG le9 aH;subst aG;exact zR<|zR<|zF<|zF<|hr _ _ _ _ (zB aF).symm (H.trans le9) aH
 intro hc N;exact vQ<|yS<|hx _  (zB N).symm H
def jM(ah:(List zG)):Option (Bool):=do
 match<-rH ah 0 with
 | .ret r0=>pure r0
 | .done _=>
  pure (decide ((ah.length:Int)<=4))
theorem zEH:∀ah r,jM ah=some r->∀{I:Imm}{p c},(S4 I p ah c)->RT 44 [vS p ah c] I [] (zQ  r):=by
 intro ah r N I p c h;unfold jM at N;refine yP func44 λB=>wM []<|zW<|yJ [3] rfl<|wS<|oR [(0,vS p ah c),(3,vI 0)] ?_;obtain⟨o03,ho03,hMl1⟩:=zC N;refine zCH ah 0 o03 ho03 iR h (λ_ _ _ h=>h) (λ_ _ h=>h) ?_ ?_
 ·intro bw  heq3 aJ;subst o03;refine zT<|uN [2] rfl<|zI<|yX ?_;obtain rfl:=zB hMl1;exact wI
 intro r0 I9 hs9 m9 aG le9 aH;subst aG;refine zR<|zF ?_;obtain rfl:=zB hMl1;exact xL aH
def nD(n0:Int)(most:Int):Option (Bool):=do
 let t4<-(do
  if(decide (n0>=(W (0 - most)))) then
   pure (decide (n0<=most))
  else
   pure false
    : Option Bool)
 pure (id t4)
theorem fZ:∀n0 most r,nD n0 most=some r->∀{I:Imm} ,RT 168 [vI n0,vI most] I [] (zQ  r):=by
 intro n0 most r N I;unfold nD at N;refine yP func168 λB=>?_;have H:=iS I;refine wM []<|zI<|yA ?_;refine wQ N [] (λt4=>[(4,.bool t4)]) (λo0 az=>?_) ?_
 ·have H:=iS I;refine zL<|yG 5 [] [9] rfl<|wC [9] az ?_ ?_
  ·intro hc N;exact yQ [] [4] rfl<|yS<|zU (ct N H)
  intro hc N;exact wN [] [(4,vF)]<|yS<|zU (ct N H)
 intro t4 I0 le aM;refine zI<|yX ?_;obtain rfl:=zB aM;exact wI
def tE(a0:zA)(i:Int):Option (Out Unit (Bool)):=do
 if(decide (i<(a0.Coefs.length:Int))) then
  let x<-idx a0.Coefs i
  let y<-nD x 9
  if(!y) then
   pure (.ret false)
  else
   tE a0 (W (i+1))
 else
  pure (.done ())
 partial_fixpoint
theorem zAw(a0:zA):∀(i:Int) (o:Out Unit (Bool)),tE a0 i=some o->∀{B}{I0 I:Imm}{Q p c}{b:Nat},I0.le I->(S4 I p a0.Coefs c)->NG Q->NO Q->(∀(I':Imm) ,o=(.done ())->I0.le I'->T 27 B Q (.exit 0) I' [hB b (cAff a0 p c)] [(1,vP b 0)])->(∀r I' ai m',o=(.ret r)->I0.le I'->RS Tryz.prog f116 B (zQ  r) I' ai m'->T 27 B Q .ret I' ai m')->J Tryz.prog 27 B (nav (bodyOf f116) [1,0,1,0]) Q I [hB b (cAff a0 p c)] [(1,vP b 0),(3,vI i)]:=by
 refine tE.partial_correctness a0 _ λaN ih i o N B I0 I Q p c b H h hg ho hx hr=>yY hg ho<|yA<|yE<|yQ [0] [8] rfl<|zI<|yC N ?_ ?_
 ·intro hc N;refine zS<|zW<|yK<|yE<|yG 3 [0] [12,13] rfl<|bE N λx hy N=>wB rfl rfl h hy ?_;intro ad aK ar al;obtain rfl:=al;refine xU 0 ar [vI x] (vI x) rfl<|bE N λy ay N=>vH (fZ x 9 _ ay ) ?_;intro I0 le;have ⟨h,H⟩:=m2 le h H;refine yQ [] [17] rfl<|zI<|yC N ?_ ?_
  ·intro aD N;exact wM [(2,vF)]<|xJ<|zR<|zF<|zF<|hr _ _ _ _ (zB N).symm H ⟨_,_,(.tmp rfl ResV.nil),zN,⟨_,rfl,rfl,rfl⟩⟩
  intro aD N;exact zS<|zO<|zI<|zL<|yQ [] [3] rfl<|yW<|mE<|ih (W (i+1)) _ N H h hg ho hx hr
 intro hc N;exact vQ<|yS<|hx _  (zB N).symm H
def tM(a0:zA):Option (Bool):=do
 match<-tE a0 0 with
 | .ret r0=>pure r0
 | .done _=>
  let t2<-(do
   if((a0.Coefs.length:Int)==4) then
    let y1<-nD a0.Const 99
    pure (id y1)
   else
    pure false
     : Option Bool)
  pure (id t2)
theorem kI:∀a0 r,tM a0=some r->∀{I:Imm}{p c},(S4 I p a0.Coefs c)->RT 116 [vA (cAff a0 p c)] I [] (zQ  r):=by
 intro a0 r N I p c h;unfold tM at N;refine yP func116 λB=>?_;have H:=iS I;refine yE<|vM (cAff a0 p c) ?_;intro b hb;refine wN [] []<|zW<|yJ [3] rfl<|wS<|oR [(1,vP b 0),(3,vI 0)] ?_;obtain⟨o0,az,aF⟩:=zC N;refine zAw a0 0 o0 az iR h (λ_ _ _ h=>h) (λ_ _ h=>h) ?_ ?_
 ·intro aP  heq af;subst o0;have H:=H.trans af;refine zT<|zI<|yA ?_;refine wQ aF [] (λt2=>[(2,.bool t2)]) (λaO aB=>?_) ?_
  ·have H:=iS aP;refine zL<|yG 5 [0] [22] rfl<|wC [22] aB ?_ ?_
   ·intro aQ N;refine yG 7 [0] [24] rfl<|bE N λy1 aI N=>vH (fZ a0.Const 99 _ aI ) ?_;intro bw aE;have H:=H.trans aE;exact yQ [] [2] rfl<|wD zN<|yS<|zU (ct N H)
   intro aQ N;exact wN [] [(2,vF)]<|wD zN<|yS<|zU (ct N H)
  intro t2 aS aJ aM;refine zI<|yX ?_;obtain rfl:=zB aM;exact wI
 intro r0 I9 hs9 m9 aG le9 aH;subst aG;refine zR<|zF ?_;obtain rfl:=zB aF;exact xL aH
def qH(a0:zA)(n0:Int)(i:Int):Option (Int):=do
 if(decide (i<(a0.Coefs.length:Int))) then
  let x<-idx a0.Coefs i
  let n02<-(do
   if(x != 0) then
    pure (W (i+1))
   else
    pure (id n0)
     : Option Int)
  qH a0 n02 (W (i+1))
 else
  pure (id n0)
 partial_fixpoint
theorem zCa(a0:zA):∀(n0:Int) (i:Int) (o:Int),qH a0 n0 i=some o->∀{B}{I0 I:Imm}{Q p c}{b:Nat},I0.le I->(S4 I p a0.Coefs c)->NG Q->NO Q->(∀(I':Imm) (n01:Int),o=n01->I0.le I'->T 21 B Q (.exit 0) I' [] [(3,vI n01)])->J Tryz.prog 21 B (nav (bodyOf f117) [1,1,0,1,0]) Q I [hB b (cAff a0 p c)] [(1,vP b 0),(3,vI n0),(4,vI i)]:=by
 refine qH.partial_correctness a0 _ λaN ih n0 i o N B I0 I Q p c b H h hg ho hx=>yY hg ho<|yA<|yE<|yQ [0] [9] rfl<|zI<|yC N ?_ ?_
 ·intro hc N;refine zS<|zW<|yK<|yE<|yG 3 [0] [13,14] rfl<|bE N λx hy N=>wB rfl rfl h hy ?_;intro ad aK ar al;obtain rfl:=al;refine xU 0 ar [vI x] (vI x) rfl<|yQ [] [17] rfl<|zI ?_;refine wQ N [hB b (cAff a0 p c)] (λn02=>[(1,vP b 0),(3,vI n02),(4,vI i)]) (λo0 az=>?_) ?_
  ·have H:=iS I;refine yC az ?_ ?_
   ·intro aD N;exact zL<|yQ [] [3] rfl<|yS<|zU (ct N H)
   intro aD N;exact zS<|yS<|zU (ct N H)
  intro n02 I0 le aM;have ⟨h,H⟩:=m2 le h H;exact zO<|zI<|zL<|yQ [] [4] rfl<|yW<|mE<|ih n02 (W (i+1)) _ aM H h hg ho hx
 intro hc N;exact vQ<|wD zN<|yS<|hx _ _ (zB N).symm H
def mA(a0:zA):Option (Int):=do
 let n01<-qH a0 0 0
 pure (id n01)
theorem eZ:∀a0 r,mA a0=some r->∀{I:Imm}{p c},(S4 I p a0.Coefs c)->RT 117 [vA (cAff a0 p c)] I [] (yT  r):=by
 intro a0 r N I p c h;unfold mA at N;refine yP func117 λB=>yE<|vM (cAff a0 p c) ?_;intro b hb;refine wN [] []<|uN [3] rfl<|zW<|yJ [4] rfl<|wS<|oR [(1,vP b 0),(3,vI 0),(4,vI 0)] ?_;obtain⟨aO,aB,aF⟩:=zC N;refine zCa a0 0 0 aO aB iR h (λ_ _ _ h=>h) (λ_ _ h=>h) ?_;intro aP n01 heq1 af;subst aO;refine zT<|uN [2] rfl<|zI<|yX ?_;obtain rfl:=zB aF;exact wI
def rJ(a0:zH)(aa:Int)(i:Int):Option (Out Unit (Bool)):=do
 if(decide (i<(a0.Subs.length:Int))) then
  let t29<-(do
   let x<-idx a0.Subs i
   let y<-tM x
   if(!y) then
    pure true
   else
    let x1<-idx a0.Subs i
    let y1<-mA x1
    pure (decide (y1>aa))
     : Option Bool)
  if t29 then
   pure (.ret false)
  else
   rJ a0 aa (W (i+1))
 else
  pure (.done ())
 partial_fixpoint
theorem zCI(a0:zH)(aa:Int):∀(i:Int) (o:Out Unit (Bool)),rJ a0 aa i=some o->∀{B}{I0 I:Imm}{Q p c}{b:Nat},I0.le I->(S4 I p a0.Subs c)->NG Q->NO Q->(∀(I':Imm) ,o=(.done ())->I0.le I'->T 56 B Q (.exit 0) I' [hB b (cAccess a0 p c)] [(2,vP b 0)])->(∀r I' ai m',o=(.ret r)->I0.le I'->RS Tryz.prog f131 B (zQ  r) I' ai m'->T 56 B Q .ret I' ai m')->J Tryz.prog 56 B (nav (bodyOf f131) [1,0,1,0]) Q I [hB b (cAccess a0 p c)] [(1,vI aa),(2,vP b 0),(5,vI i)]:=by
 refine rJ.partial_correctness a0 aa _ λaN ih i o N B I0 I Q p c b H h hg ho hx hr=>yY hg ho<|yA<|yE<|yQ [0] [10] rfl<|zI<|yC N ?_ ?_
 ·intro hc N;refine zS<|zW<|yK<|yA ?_;refine wQ N [hB b (cAccess a0 p c)] (λt29=>[(1,vI aa),(2,vP b 0),(5,vI i),(29,.bool t29)]) (λo0 az=>?_) ?_
  ·have H:=iS I;refine zL<|yG 3 [0] [14,15] rfl ?_;obtain⟨x,hy,N⟩:=zC az;refine wB rfl rfl h hy ?_;intro ad aK ar al;obtain⟨p1,c1,rfl,h1⟩:=yD al;refine xU 0 ar (cAff x p1 c1) (vA (cAff x p1 c1)) rfl<|bE N λy ay N=>vH (kI x _ ay h1) ?_;intro aP le;have ⟨h,H⟩:=m2 le h H;refine yG 8 [] [20] rfl<|wC [20] N ?_ ?_
   ·intro aD N;exact wN [] [(29,vY)]<|yS<|zU (ct N H)
   intro aD N;refine yG 11 [0] [22,23] rfl<|bE N λx1 aI N=>wB rfl rfl h aI ?_;intro ad1 bi ap aw;obtain⟨p2,c2,rfl,h3⟩:=yD aw;refine xU 0 ap (cAff x1 p2 c2) (vA (cAff x1 p2 c2)) rfl<|bE N λy1 aW N=>fN (eZ x1 _ aW h3) ?_;intro aS af;have H:=H.trans af;exact yQ [] [29] rfl<|yS<|zU (ct N H)
  intro t29 I0 aE aM;have ⟨h,H⟩:=m2 aE h H;refine zI<|yC aM ?_ ?_
  ·intro aQ N;exact wM [(4,vF)]<|xJ<|zR<|zF<|zF<|hr _ _ _ _ (zB N).symm H ⟨_,_,(.tmp rfl ResV.nil),zN,⟨_,rfl,rfl,rfl⟩⟩
  intro aQ N;exact zS<|zO<|zI<|zL<|yQ [] [5] rfl<|yW<|mE<|ih (W (i+1)) _ N H h hg ho hx hr
 intro hc N;exact vQ<|yS<|hx _  (zB N).symm H
def mL(a0:zH)(aa:Int):Option (Bool):=do
 match<-rJ a0 aa 0 with
 | .ret r0=>pure r0
 | .done _=>
  let t4<-(do
   if((a0.Array.l.length:Int)==1) then
    if(!(Op.bytesLess a0.Array.l ([65]:List UInt8))) then
     if(Op.bytesLess a0.Array.l ([68]:List UInt8)||a0.Array.l==([68]:List UInt8)) then
      if(decide ((a0.Subs.length:Int)>=1)) then
       pure (decide ((a0.Subs.length:Int)<=2))
      else
       pure false
     else
      pure false
    else
     pure false
   else
    pure false
     : Option Bool)
  pure (id t4)
theorem zAa:∀a0 aa r,mL a0 aa=some r->∀{I:Imm}{p c},(S4 I p a0.Subs c)->RT 131 [vA (cAccess a0 p c),vI aa] I [] (zQ  r):=by
 intro a0 aa r N I p c h;unfold mL at N;refine yP func131 λB=>?_;have H:=iS I;refine yE<|vM (cAccess a0 p c) ?_;intro b hb;refine wN [] []<|zW<|yJ [5] rfl<|wS<|oR [(1,vI aa),(2,vP b 0),(5,vI 0)] ?_;obtain⟨aO,aB,aF⟩:=zC N;refine zCI a0 aa 0 aO aB iR h (λ_ _ _ h=>h) (λ_ _ h=>h) ?_ ?_
 ·intro bw  heq1 aJ;subst aO;have H:=H.trans aJ;refine zT<|zI<|yA ?_;refine wQ aF [] (λt4=>[(4,.bool t4)]) (λo02 ho02=>?_) ?_
  ·have H:=iS bw;refine zL<|yG 5 [0] [34] rfl<|wC [34] ho02 ?_ ?_
   ·intro bu N;refine yG 10 [0] [39] rfl<|wC [39] N ?_ ?_
    ·intro bK N;refine yG 15 [0] [44] rfl<|wC [44] N ?_ ?_
     ·intro hc5 N;refine yG 21 [0] [50] rfl<|wC [50] N ?_ ?_
      ·intro hc6 N;exact yQ [0] [4] rfl<|wD zN<|yS<|zU (ct N H)
      intro hc6 N;exact wN [] [(4,vF)]<|wD zN<|yS<|zU (ct N H)
     intro hc5 N;exact wN [] [(4,vF)]<|wD zN<|yS<|zU (ct N H)
    intro bK N;exact wN [] [(4,vF)]<|wD zN<|yS<|zU (ct N H)
   intro bu N;exact wN [] [(4,vF)]<|wD zN<|yS<|zU (ct N H)
  intro t4 bI aX hMc1;refine zI<|yX ?_;obtain rfl:=zB hMc1;exact wI
 intro r0 I9 hs9 m9 aG le9 aH;subst aG;refine zR<|zF ?_;obtain rfl:=zB aF;exact xL aH
def gW(kind:Int):Option (Int):=do
 let t4<-(do
  if(kind==1) then
   pure (kind==1)
  else
   let t41<-(do
    if(kind==2) then
     pure (kind==2)
    else
     pure (kind==3)
      : Option Bool)
   pure (id t41)
    : Option Bool)
 if t4 then
  pure (id 0)
 else
  let t8<-(do
   if(kind==4) then
    pure (kind==4)
   else
    let t81<-(do
     if(kind==5) then
      pure (kind==5)
     else
      pure (kind==6)
       : Option Bool)
    pure (id t81)
     : Option Bool)
  if t8 then
   pure (id 2)
  else
   pure (-1)
theorem zBb:∀kind r,gW kind=some r->∀{I:Imm} ,RT 189 [vI kind] I [] (yT  r):=by
 intro kind r N I;unfold gW at N;refine yP func189 λB=>?_;have H:=iS I;refine wM []<|zW<|yJ [3] rfl<|wS<|yA<|yJ [4] rfl<|zI ?_;refine wQ N [] (λt4=>[(3,vI kind),(4,.bool t4)]) (λo0 az=>?_) ?_
 ·have H:=iS I;refine yC az ?_ ?_
  ·intro hc N;exact zS<|yS<|zU (ct N H)
  intro hc N;refine yJ [4] rfl<|zI ?_;refine wQ N [] (λt41=>[(3,vI kind),(4,.bool t41)]) (λaO aB=>?_) ?_
  ·have H:=iS I;refine yC aB ?_ ?_
   ·intro aD N;exact zS<|yS<|zU (ct N H)
   intro aD N;exact zL<|yQ [] [4] rfl<|yS<|zU (ct N H)
  intro t41 aP le hMc1;have H:=H.trans le;exact yS<|zU (ct hMc1 H)
 intro t4 I0 af aM;have H:=H.trans af;refine zI<|yC aM ?_ ?_
 ·intro aQ N;refine yJ [2] rfl<|xJ<|zR<|zF ?_;obtain rfl:=zB N;exact wI
 intro aQ N;refine yA<|yJ [8] rfl<|zI ?_;refine wQ N [] (λt8=>[(8,.bool t8)]) (λo02 ho02=>?_) ?_
 ·have H:=iS I0;refine yC ho02 ?_ ?_
  ·intro bu N;exact zS<|yS<|zU (ct N H)
  intro bu N;refine yJ [8] rfl<|zI ?_;refine wQ N [] (λt81=>[(8,.bool t81)]) (λo03 ho03=>?_) ?_
  ·have H:=iS I0;refine yC ho03 ?_ ?_
   ·intro bK N;exact zS<|yS<|zU (ct N H)
   intro bK N;exact zL<|yQ [] [8] rfl<|yS<|zU (ct N H)
  intro t81 bw aE hMc3;have H:=H.trans aE;exact yS<|zU (ct hMc3 H)
 intro t8 aS aJ hMc2;refine zI<|yC hMc2 ?_ ?_
 ·intro hc5 N;refine yJ [2] rfl<|xJ<|zR<|zF ?_;obtain rfl:=zB N;exact wI
 intro hc5 N;refine zS<|zO<|uN [2] rfl<|zI<|yX ?_;obtain rfl:=zB N;exact wI
def mB(a0:zH):Option (Bool):=do
 let t2<-(do
  if(a0.Array.l==([]:List UInt8)) then
   pure ((a0.Subs.length:Int)==0)
  else
   pure false
    : Option Bool)
 pure (id t2)
theorem dA:∀a0 r,mB a0=some r->∀{I:Imm}{p c},(S4 I p a0.Subs c)->RT 229 [vA (cAccess a0 p c)] I [] (zQ  r):=by
 intro a0 r N I p c h;unfold mB at N;refine yP func229 λB=>?_;have H:=iS I;refine yE<|vM (cAccess a0 p c) ?_;intro b hb;refine wN [] []<|zI<|yA ?_;refine wQ N [] (λt2=>[(2,.bool t2)]) (λo0 az=>?_) ?_
 ·have H:=iS I;refine zL<|yG 4 [0] [6] rfl<|wC [6] az ?_ ?_
  ·intro hc N;exact yQ [0] [2] rfl<|wD zN<|yS<|zU (ct N H)
  intro hc N;exact wN [] [(2,vF)]<|wD zN<|yS<|zU (ct N H)
 intro t2 I0 le aM;refine zI<|yX ?_;obtain rfl:=zB aM;exact wI
def kC(a0:zA):Option (Bool):=do
 let t2<-(do
  if((a0.Coefs.length:Int)==0) then
   pure (a0.Const==0)
  else
   pure false
    : Option Bool)
 pure (id t2)
theorem dS:∀a0 r,kC a0=some r->∀{I:Imm}{p c},(S4 I p a0.Coefs c)->RT 230 [vA (cAff a0 p c)] I [] (zQ  r):=by
 intro a0 r N I p c h;unfold kC at N;refine yP func230 λB=>?_;have H:=iS I;refine yE<|vM (cAff a0 p c) ?_;intro b hb;refine wN [] []<|zI<|yA ?_;refine wQ N [] (λt2=>[(2,.bool t2)]) (λo0 az=>?_) ?_
 ·have H:=iS I;refine zL<|yG 5 [0] [7] rfl<|wC [7] az ?_ ?_
  ·intro hc N;exact yQ [0] [2] rfl<|wD zN<|yS<|zU (ct N H)
  intro hc N;exact wN [] [(2,vF)]<|wD zN<|yS<|zU (ct N H)
 intro t2 I0 le aM;refine zI<|yX ?_;obtain rfl:=zB aM;exact wI
end Go.LN
