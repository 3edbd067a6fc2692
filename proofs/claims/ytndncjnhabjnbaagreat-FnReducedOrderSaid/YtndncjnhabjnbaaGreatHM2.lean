/- Helper of the proof (see the last text). -/
import Derived.Test.YtndncjnhabjnbaaGreatHM1
set_option linter.unusedVariables false
set_option linter.unusedSimpArgs false
namespace Go.LN
open Go.Proofs Go.Proofs.Tryz
set_option maxRecDepth 20000
def pX(r:(List zN)×Bool):KT:=λkk I' ag v=>
 ∃v0 v1,ag=[]/\v=tupV [v0,v1]/\SL I' v0 r.1/\v1=.bool r.2
def vX(p:zC)(t26:Int)(x:zQ)(x1:(List Int))(br:List zN)(t64:Int):Option (Out (List zN) ((List zN)×Bool)):=do
 if(decide (t64<(x.Body.length:Int))) then
  let x2<-idx x.Body t64;let y7<-nE p x2 x1;if(!y7) then pure (.ret (([]:List zN),false))
  else
   let y8<-rP x1;let out6<-app 40 br ([(zN.mk t26 t64 y8)]:List zN);vX p t26 x x1 out6 (W (t64+1))
 else pure (.done br)
 partial_fixpoint
theorem zAv(p:zC)(t26:Int)(x:zQ)(x1:(List Int)):∀(br:List zN) (t64:Int) (o:Out (List zN) ((List zN)×Bool)),vX p t26 x x1 br t64=some o->∀{B}{I0 I:Imm}{Q}{y2:(List (List Int))}{t54:Int}{p1 c p2 c1}{b}{p5 c4 p6 c5}{b1}{p7 c6 p14 bw p15 c14 bv},I0.le I->(S4 I p5 x.Nest c4)->(S4 I p6 x.Body c5)->(At I ⟨b1,0,none⟩ (cPart x p5 c4 p6 c5))->(S4 I p14 x1 bw)->(S4 I p2 p.Parts c1)->(S4 I p7 y2 c6)->(S4 I p1 p.Arrays c)->(RL I bv br)->NG Q->NO Q->(∀I' out5 p16 c15 bH,o=(.done out5)->I0.le I'->(RL I' bH out5)->T 89 B Q (.exit 4) I' [hO zN (vS p16 out5 c15) bH,hB b (cProg p p1 c p2 c1)] [(1,vP b 0),(4,vS p16 out5 c15),(5,vI t26),(6,vP b1 0),(24,vS p2 p.Parts c1),(25,vI (p.Parts.length:Int)),(26,vI t26),(52,vS p7 y2 c6),(53,vI (y2.length:Int)),(54,vI t54)])->(∀r I' ag m',o=(.ret r)->I0.le I'->RS Tryz.prog f23 B (pX  r) I' ag m'->T 89 B Q .ret I' ag m')->J Tryz.prog 89 B (nav (bodyOf f23) [1,1,1,0,1,0,0,1,1,0,0,1,1,1,1,0,0,1,1,0,0,1,1,1,0]) Q I [hO zN (vS p15 br c14) bv,hB b (cProg p p1 c p2 c1)] [(1,vP b 0),(4,vS p15 br c14),(5,vI t26),(6,vP b1 0),(10,vS p14 x1 bw),(24,vS p2 p.Parts c1),(25,vI (p.Parts.length:Int)),(26,vI t26),(52,vS p7 y2 c6),(53,vI (y2.length:Int)),(54,vI t54),(62,vS p6 x.Body c5),(63,vI (x.Body.length:Int)),(64,vI t64)]:=by
 refine vX.partial_correctness p t26 x x1 _ λaI ih br t64 o N B I0 I Q y2 t54 p1 c p2 c1 b p5 c4 p6 c5 b1 p7 c6 p14 bw p15 c14 bv H h6 h7 ar h18 h1 h8 h h20 hg ho hx hr=>yV hg ho<|yH [65] rfl<|zZ<|yE N ?_ ?_
 ·intro hc8 N;refine zT<|zZ<|yI<|yF<|yG 1 [] [66] rfl<|bE N λx2 hy7 N=>xK rfl rfl h7 hy7 ?_;intro ad2 bO hat3 aZ;obtain⟨p17,c16,p18,c17,p19,c18,p20,c19,rfl,h22,h23,h24,h25⟩:=sA aZ;refine xA 0 hat3 (cStmt x2 p17 c16 p18 c17 p19 c18 p20 c19) (vA (cStmt x2 p17 c16 p18 c17 p19 c18 p20 c19)) rfl<|wI [vT ([]),z0,vI 0,vI 0,z0,vI 0,vT ([]),z0,z0] ?_;intro b2 hb2;refine yG 5 [] [11] rfl<|xI 0 (cStmt x2 p17 c16 p18 c17 p19 c18 p20 c19) rfl<|yA rfl<|zZ<|yF<|sW 3 [2,0] [(69,vA (cProg p p1 c p2 c1)),(70,vA (cStmt x2 p17 c16 p18 c17 p19 c18 p20 c19)),(71,vS p14 x1 bw)]<|bE N λy7 hy8 N=>vJ (zCd p x2 x1 _ hy8 h h1 h22 h23 h24 h25 h18) ?_;intro I08 le8;have ⟨h20,h6,h7,ar,h18,h1⟩:=m6 le8 h20 h6 h7 ar h18 h1;have ⟨h8,h,H⟩:=m3 le8 h8 h H;refine yK [] [73] rfl<|zG<|yE N ?_ ?_
  ·intro hc9 N;exact yH [2,3] rfl<|xD<|zH<|zW<|zH<|zH<|hr _ _ _ _ (zD N).symm H ⟨_,_,(resU rfl rfl),zM,⟨_,_,rfl,rfl,(SL.nil _),rfl⟩⟩
  intro hc9 N;refine zT<|zG<|zJ<|yG 4 [] [74,75,76,77] rfl<|bE N λy8 hy9 N=>xF (fA x1 _ hy9 h18) ?_;rintro I09 av v2 k2 le9 - ⟨p21,c20,cs6,rfl,rfl,h27⟩ -;have ⟨h6,h7,ar,h18,h1,h8⟩:=m6 le9 h6 h7 ar h18 h1 h8;have ⟨h20,h,H⟩:=m3 le9 h20 h H;refine yG 6 [] [79] rfl<|xM 0 rfl ?_;intro bP le10 hl01;have h28:=SL.of_frozen hl01 le10 h27;have ⟨h6,h7,ar,h18,h1,h8⟩:=m6 le10 h6 h7 ar h18 h1 h8;have ⟨h20,h,H⟩:=m3 le10 h20 h H;refine uP [vI t26,vI t64,vS p21 y8 c20] zN ?_;intro b3 hb3;have h29:RL bP [vI t26,vI t64,vS p21 y8 c20] ([(zN.mk t26 t64 y8)]:List zN):=⟨[vI t26,vI t64,vS p21 y8 c20],_,rfl,rfl,(zBQ ⟨_,rfl,h28⟩),rfl⟩;obtain⟨out6,hy10,N⟩:=zB N;exact qA 90 3 2 rfl rfl rfl h20 (.inr ⟨0,rfl⟩) h29 hy10 λp22 c21 cs7 h30=>tX (zY [1,2,3] (ag:=[hB b2 (cStmt x2 p17 c16 p18 c17 p19 c18 p20 c19),hO zN (vS p22 out6 c21) cs7,hB b (cProg p p1 c p2 c1)]))<|yK [] [4] rfl<|zL<|zG<|zJ<|yK [] [64] rfl<|yU<|jS (zX [1,2] rfl (by decide))<|nD<|ih out6 (W (t64+1)) _ N H h6 h7 ar h18 h1 h8 h h30 hg ho hx hr
 intro hc8 N;exact wM<|yS<|hx _ _ _ _ _ (zD N).symm H h20
def vZ(p:zC)(t26:Int)(x:zQ)(y2:(List (List Int)))(aq:List zN)(t54:Int):Option (Out (List zN) ((List zN)×Bool)):=do
 if(decide (t54<(y2.length:Int))) then
  let x1<-idx y2 t54;let y6<-dD x1;if(!y6) then pure (.ret (([]:List zN),false))
  else
   match<-vX p t26 x x1 aq 0 with
   | .ret r0=>pure (.ret r0)
   | .done out5=>
    vZ p t26 x y2 out5 (W (t54+1))
 else pure (.done aq)
 partial_fixpoint
theorem zAw(p:zC)(t26:Int)(x:zQ)(y2:(List (List Int))):∀(aq:List zN) (t54:Int) (o:Out (List zN) ((List zN)×Bool)),vZ p t26 x y2 aq t54=some o->∀{B}{I0 I:Imm}{Q p1 c p2 c1}{b}{p5 c4 p6 c5}{b1}{p7 c6 bz bh aM},I0.le I->(S4 I p5 x.Nest c4)->(S4 I p6 x.Body c5)->(At I ⟨b1,0,none⟩ (cPart x p5 c4 p6 c5))->(S4 I p2 p.Parts c1)->(S4 I p7 y2 c6)->(S4 I p1 p.Arrays c)->(RL I aM aq)->NG Q->NO Q->(∀I' aL bj bo aU,o=(.done aL)->I0.le I'->(RL I' aU aL)->T 89 B Q (.exit 2) I' [hO zN (vS bj aL bo) aU,hB b (cProg p p1 c p2 c1)] [(1,vP b 0),(4,vS bj aL bo),(24,vS p2 p.Parts c1),(25,vI (p.Parts.length:Int)),(26,vI t26)])->(∀r I' ag m',o=(.ret r)->I0.le I'->RS Tryz.prog f23 B (pX  r) I' ag m'->T 89 B Q .ret I' ag m')->J Tryz.prog 89 B (nav (bodyOf f23) [1,1,1,0,1,0,0,1,1,0,0,1,1,1,1,0]) Q I [hO zN (vS bz aq bh) aM,hB b (cProg p p1 c p2 c1)] [(1,vP b 0),(4,vS bz aq bh),(5,vI t26),(6,vP b1 0),(24,vS p2 p.Parts c1),(25,vI (p.Parts.length:Int)),(26,vI t26),(52,vS p7 y2 c6),(53,vI (y2.length:Int)),(54,vI t54)]:=by
 refine vZ.partial_correctness p t26 x y2 _ λaI ih aq t54 o N B I0 I Q p1 c p2 c1 b p5 c4 p6 c5 b1 p7 c6 bz bh aM H h6 h7 ar h1 h8 h h16 hg ho hx hr=>yV hg ho<|yH [55] rfl<|zZ<|yE N ?_ ?_
 ·intro hc6 N;refine zT<|zZ<|yI<|yF<|bE N λx1 bC N=>xK rfl rfl h8 bC ?_;intro ad1 bm aS au;obtain⟨v011,rfl,h18⟩:=au;obtain⟨p14,bw,rfl⟩:=h18.form;refine xA 0 aS [vS p14 x1 bw] (vS p14 x1 bw) rfl<|yK [] [10] rfl<|zZ<|yF<|yG 1 [] [58] rfl<|bE N λy6 hy6 N=>vJ (zHa x1 _ hy6 h18) ?_;intro I07 le7;have ⟨h16,h6,h7,ar,h18,h1⟩:=m6 le7 h16 h6 h7 ar h18 h1;have ⟨h8,h,H⟩:=m3 le7 h8 h H;refine yK [] [60] rfl<|zG<|yE N ?_ ?_
  ·intro hc7 N;exact yH [2,3] rfl<|xD<|zH<|zW<|zH<|zH<|hr _ _ _ _ (zD N).symm H ⟨_,_,(resU rfl rfl),zM,⟨_,_,rfl,rfl,(SL.nil _),rfl⟩⟩
  intro hc7 N;refine zT<|yW<|yG 1 [] [61] rfl<|xA 1 ar [vS p6 x.Body c5] (vS p6 x.Body c5) rfl<|yK [] [63,64] rfl<|xY<|pE [(1,vP b 0),(4,vS bz aq bh),(5,vI t26),(6,vP b1 0),(10,vS p14 x1 bw),(24,vS p2 p.Parts c1),(25,vI (p.Parts.length:Int)),(26,vI t26),(52,vS p7 y2 c6),(53,vI (y2.length:Int)),(54,vI t54),(62,vS p6 x.Body c5),(63,vI (x.Body.length:Int)),(64,vI 0)] ?_;obtain⟨o02,ho02,aG⟩:=zB N;refine zAv p t26 x x1 aq 0 o02 ho02 iR h6 h7 ar h18 h1 h8 h h16 (λ_ _ _ h=>hg _ _ _ h) (λ_ _ h=>ho _ _ h) ?_ ?_
  ·intro bV out5 p16 c15 bH heq2 le11 h21;subst o02;have ⟨h6,h7,ar,h1,h8,h⟩:=m6 le11 h6 h7 ar h1 h8 h;have H:=H.trans le11;exact zS<|zL<|zG<|zJ<|yK [] [54] rfl<|yU<|nD<|ih out5 (W (t54+1)) _ aG H h6 h7 ar h1 h8 h h21 hg ho hx hr
  intro r0 I9 hs9 m9 aW le9 aY;subst aW;exact zW<|zW<|zH<|zH<|hr _ _ _ _ (zD aG).symm (H.trans le9) aY
 intro hc6 N;exact wM<|yS<|hx _ _ _ _ _ (zD N).symm H h16
def uA(p:zC)(out:List zN)(t26:Int):Option (Out (List zN) ((List zN)×Bool)):=do
 if(decide (t26<(p.Parts.length:Int))) then
  let x<-idx p.Parts t26;let (y2,y3)<-jT x.Nest;let t51<-(do
   if(!y3) then pure true
   else
    let y4<-wR (x.Body.length:Int) 1 4;if(!y4) then pure true
    else
     let y5<-wH x.Body (λx0=>uE x0 x);pure (id y5)
     : Option Bool)
  if t51 then pure (.ret (([]:List zN),false))
  else
   match<-vZ p t26 x y2 out 0 with
   | .ret r0=>pure (.ret r0)
   | .done aL=>
    uA p aL (W (t26+1))
 else pure (.done out)
 partial_fixpoint
theorem zAx(p:zC):∀(out:List zN) (t26:Int) (o:Out (List zN) ((List zN)×Bool)),uA p out t26=some o->∀{B}{I0 I:Imm}{Q p1 c p2 c1}{b}{p3 c2 cs},I0.le I->(S4 I p2 p.Parts c1)->(S4 I p1 p.Arrays c)->(RL I cs out)->NG Q->NO Q->(∀I' aj p4 c3 az,o=(.done aj)->I0.le I'->(RL I' az aj)->T 89 B Q (.exit 0) I' [hO zN (vS p4 aj c3) az] [(4,vS p4 aj c3)])->(∀r I' ag m',o=(.ret r)->I0.le I'->RS Tryz.prog f23 B (pX  r) I' ag m'->T 89 B Q .ret I' ag m')->J Tryz.prog 89 B (nav (bodyOf f23) [1,1,1,0,1,0]) Q I [hO zN (vS p3 out c2) cs,hB b (cProg p p1 c p2 c1)] [(1,vP b 0),(4,vS p3 out c2),(24,vS p2 p.Parts c1),(25,vI (p.Parts.length:Int)),(26,vI t26)]:=by
 refine uA.partial_correctness p _ λaI ih out t26 o N B I0 I Q p1 c p2 c1 b p3 c2 cs H h1 h h4 hg ho hx hr=>yV hg ho<|yH [27] rfl<|zZ<|yE N ?_ ?_
 ·intro aV N;refine zT<|zZ<|yI<|yF<|yG 1 [] [28] rfl<|bE N λx ay N=>xK rfl rfl h1 ay ?_;intro ad aN ap ak;obtain⟨p5,c4,p6,c5,rfl,h6,h7⟩:=vU ak;refine xA 0 ap (cPart x p5 c4 p6 c5) (vA (cPart x p5 c4 p6 c5)) rfl<|wI zTwo ?_;intro b1 hb1;refine yG 5 [] [5] rfl<|xI 0 (cPart x p5 c4 p6 c5) rfl<|yA rfl<|yW<|yG 2 [0] [33] rfl ?_;obtain⟨⟨y2,y3⟩,aF,N⟩:=zB N;refine xF (zEn x.Nest _ aF h6) ?_;rintro aP av v2 k2 aD - ⟨v03,v04,rfl,rfl,h8,rfl⟩ -;have ⟨h4,h1,h6,h7,h,H⟩:=m6 aD h4 h1 h6 h7 h H;obtain⟨p7,c6,rfl⟩:=h8.form;refine yK [] [7,8] rfl<|zZ<|yB<|mM 0 rfl ?_;intro bx aH hl0;have ar:At bx ⟨b1,0,none⟩ (cPart x p5 c4 p6 c5):=At.of_blk hl0;have ⟨h4,h6,h7,h8,h1,h⟩:=m6 aH h4 h6 h7 h8 h1 h;have H:=H.trans aH;refine wK N [hO zN (vS p3 out c2) cs,hB b (cProg p p1 c p2 c1)] (λt51=>[(1,vP b 0),(4,vS p3 out c2),(5,vI t26),(6,vP b1 0),(7,vS p7 y2 c6),(24,vS p2 p.Parts c1),(25,vI (p.Parts.length:Int)),(26,vI t26),(51,.bool t51)]) (λaO aB=>?_) ?_
  ·have H:=iS bx;refine zJ<|yG 3 [] [39] rfl<|xZ [39] aB ?_ ?_
   ·intro bD N;exact wB [] [(51,vY)]<|yS<|zV (ct N H)
   intro bD N;refine yG 4 [] [40] rfl<|xA 1 ar [vS p6 x.Body c5] (vS p6 x.Body c5) rfl<|yG 6 [] [42] rfl<|bE N λy4 aX N=>vJ (vM (x.Body.length:Int) 1 4 _ aX ) ?_;intro bL bf;have ⟨h6,h7,ar,h,H⟩:=m5 bf h6 h7 ar h H;refine yG 10 [] [46] rfl<|xZ [46] N ?_ ?_
   ·intro bM N;exact wB [] [(51,vY)]<|yS<|zV (ct N H)
   intro bM N;refine yG 11 [] [47] rfl<|xA 1 ar [vS p6 x.Body c5] (vS p6 x.Body c5) rfl<|yG 13 [] [49] rfl ?_;have hf0:FV1 Tryz.prog bL [] (.func (.func 48) ⟨[]⟩ ⟨[vP b1 0]⟩) (λx0=>uE x0 x):=by
    refine FV1.intro ?_;intro I1 aa x0 r u0 hF k0;obtain⟨_,rfl,k0⟩:=k0;obtain⟨p8,c7,p9,c8,bb,c9,aR,bd,rfl,h11,h12,h13,h14⟩:=sA k0;exact(zBK x0 x r hF h11 h12 h13 h14 (h6.mono aa) (h7.mono aa) (ar.mono aa)).mono (by rintro k i hs u ⟨v0,rfl,rfl,h⟩;exact⟨rfl,h⟩)
   obtain⟨y5,bk,N⟩:=zB N;refine xF (fU x.Body (λx0=>uE x0 x) _ bk h7 hf0) ?_;rintro I06 av v2 k2 bu - ⟨v010,rfl,rfl,rfl⟩ -;have H:=H.trans bu;exact yK [] [51] rfl<|yS<|zV (ct N H)
  intro t51 bI bG hMc1;have ⟨h4,h6,h7,ar,h8,h1⟩:=m6 bG h4 h6 h7 ar h8 h1;have ⟨h,H⟩:=m2 bG h H;refine zG<|yE hMc1 ?_ ?_
  ·intro hc5 N;exact yH [2,3] rfl<|xD<|zH<|zW<|zH<|zH<|hr _ _ _ _ (zD N).symm H ⟨_,_,(resU rfl rfl),zM,⟨_,_,rfl,rfl,(SL.nil _),rfl⟩⟩
  intro hc5 N;refine zT<|wV [52,53,54] rfl<|xY<|pE [(1,vP b 0),(4,vS p3 out c2),(5,vI t26),(6,vP b1 0),(24,vS p2 p.Parts c1),(25,vI (p.Parts.length:Int)),(26,vI t26),(52,vS p7 y2 c6),(53,vI (y2.length:Int)),(54,vI 0)] ?_;obtain⟨o03,ho03,hMl1⟩:=zB N;refine zAw p t26 x y2 out 0 o03 ho03 iR h6 h7 ar h1 h8 h h4 (λ_ _ _ h=>hg _ _ _ h) (λ_ _ h=>ho _ _ h) ?_ ?_
  ·intro bW aL bj bo aU heq3 le12 h17;subst o03;have ⟨h1,h,H⟩:=m3 le12 h1 h H;exact zS<|zL<|zG<|zJ<|yK [] [26] rfl<|yU<|nD<|ih aL (W (t26+1)) _ hMl1 H h1 h h17 hg ho hx hr
  intro r0 I9 hs9 m9 aW le9 aY;subst aW;exact zW<|zW<|zH<|zH<|hr _ _ _ _ (zD hMl1).symm (H.trans le9) aY
 intro aV N;exact wM<|xW (zX [0] rfl (by decide))<|yS<|hx _ _ _ _ _ (zD N).symm H h4
def uC(p:zC):Option ((List zN)×Bool):=do
 let t22<-(do
  let y<-fX p.Arrays;if(!y) then pure true
  else
   pure (decide ((p.Parts.length:Int)>4))
    : Option Bool)
 if t22 then pure (([]:List zN),false)
 else
  match<-uA p ([]:List zN) 0 with
  | .ret r0=>pure r0
  | .done aj=>
   pure (aj,(decide ((aj.length:Int)<=120)))
theorem nC:∀p r,uC p=some r->∀{I:Imm}{p1 c p2 c1},(S4 I p1 p.Arrays c)->(S4 I p2 p.Parts c1)->RT 23 [vA (cProg p p1 c p2 c1)] I [] (pX  r):=by
 intro p r N I p1 c p2 c1 h h1;unfold uC at N;refine yL func23 λB=>?_;have H:=iS I;refine yF<|vK (cProg p p1 c p2 c1) ?_;intro b hb;refine wB [] []<|zZ<|yB ?_;refine wK N [hB b (cProg p p1 c p2 c1)] (λt22=>[(1,vP b 0),(22,.bool t22)]) (λo0 aA=>?_) ?_
 ·have H:=iS I;refine zJ<|yG 2 [0] [14] rfl ?_;obtain⟨y,hy,N⟩:=zB aA;refine vJ (zGn p.Arrays _ hy h) ?_;intro aT le;have H:=H.trans le;refine yG 5 [] [17] rfl<|xZ [17] N ?_ ?_
  ·intro hc N;exact wB [] [(22,vY)]<|yS<|zV (ct N H)
  intro hc N;exact yK [0] [22] rfl<|yS<|zV (ct N H)
 intro t22 I0 aa aQ;have ⟨h,h1⟩:=m2 aa h h1;refine zG<|yE aQ ?_ ?_
 ·intro aE N;refine yH [2,3] rfl<|xD<|zH ?_;exact xU N (resU rfl rfl) zM ⟨_,_,rfl,rfl,(SL.nil _),rfl⟩
 intro aE N;refine zT<|zEP [(4,z0)]<|zZ<|yF<|yK [0] [24,25,26] rfl<|xY<|pE [(1,vP b 0),(4,z0),(24,vS p2 p.Parts c1),(25,vI (p.Parts.length:Int)),(26,vI 0)]<|zAm zN λh3=>?_;obtain⟨o04,ho04,hMl2⟩:=zB N;refine zAx p ([]:List zN) 0 o04 ho04 iR h1 h h3 nG nO ?_ ?_
 ·intro I013 aj p4 c3 az heq4 le13 h5;subst o04;refine zS<|wV [2,3] rfl<|xD<|yZ 0 rfl ?_;intro I014 le14 hl02;have h31:=SL.of_frozen hl02 le14 h5;exact xU hMl2 (resU rfl rfl) zM ⟨_,_,rfl,rfl,h31,rfl⟩
 intro r0 I9 hs9 m9 aW le9 aY;subst aW;refine zW<|zH ?_;obtain rfl:=zD hMl2;exact fO aY
def zCe(r:zP):KT:=λkk I' ag v=>
 ∃v0,ag=[]/\v=tupV [v0]/\(∃cs,v0=.agg ⟨cs⟩/\Rp.rep I' cs r)
def qF(p:zC)(x:zN):Option (zP):=do
 let x1<-idx p.Parts x.Part;let x2<-idx x1.Body x.Stmt;pure (id x2)
theorem dE:∀p x r,qF p x=some r->∀{I:Imm}{p1 c p2 c1 p3 c2},(S4 I p1 p.Arrays c)->(S4 I p2 p.Parts c1)->(S4 I p3 x.Point c2)->RT 65 [vA (cProg p p1 c p2 c1),vA (cInst x p3 c2)] I [] (zCe  r):=by
 intro p x r N I p1 c p2 c1 p3 c2 h h1 h2;unfold qF at N;refine yL func65 λB=>yF<|vK (cProg p p1 c p2 c1) ?_;intro b hb;refine vK (cInst x p3 c2) ?_;intro b1 hb1;refine wI [vT ([]),z0,vI 0,vI 0,z0,vI 0,vT ([]),z0,z0] ?_;intro b2 hb2;refine yA rfl<|zG<|yB ?_;obtain⟨x1,hy,N⟩:=zB N;obtain⟨x2,ay,N⟩:=zB N;refine wA [.p (vP b 1) [],.p (vS p2 p.Parts c1) [2],.p (vP b1 0) [],.p (vI x.Part) [1],.x (ePPart x1),.x (eQPart 1 x1),.x (eS x1.Body),.p (vP b1 1) [],.p (vI x.Stmt) [1],.x (ePStmt x2),.x (eVStmt x2)] [[],[(0,false)],[],[(2,false)],[(1,false),(3,false)],[(4,false)],[(5,false)],[],[(7,false)],[(6,false),(8,false)],[(9,false)]] [hB b2 [vT ([]),z0,vI 0,vI 0,z0,vI 0,vT ([]),z0,z0],hB b1 (cInst x p3 c2),hB b (cProg p p1 c p2 c1)] [] [(10,false)] (zY [0,1,2]) ?_ ?_
 ·refine O4<|Ox ?_<|Ox ?_<|Ox ?_<|O2<|Ox ?_<|Ox ?_<|On
  ·intro I1 hf aa;refine yP [6,8] rfl ?_;have h1:=h1.mono aa;refine xK rfl rfl h1 hy ?_;intro ad aN ap ak;obtain⟨p4,c3,p5,c4,rfl,h3,h4⟩:=vU ak;exact yM [] iR ⟨_,_,_,_,_,rfl,rfl,ap,h3,h4⟩
  ·rintro I1 hf aa _ _ ⟨ad,p4,c3,p5,c4,rfl,rfl,ap,h3,h4⟩;exact yP [9] rfl<|tD 6 [(10,.pointer (some (ad.add 1)))]<|yM [] iR ⟨_,_,_,_,_,rfl,rfl,ap,h3,h4⟩
  ·rintro I1 hf aa _ _ ⟨ad1,p41,c31,p51,c41,rfl,rfl,ar,h31,h41⟩;exact yP [10] rfl<|xA 1 ar [vS p51 x1.Body c41] (vS p51 x1.Body c41) rfl<|yM [] iR ⟨_,_,rfl,rfl,h41⟩
  ·rintro I1 hf aa _ _ ⟨p511,c411,rfl,rfl,h411⟩;refine yP [11,13] rfl<|xK rfl rfl h411 ay ?_;intro ad2 bm aS au;obtain⟨p6,c5,p7,c6,p8,c7,p9,c8,rfl,h5,h6,h7,h8⟩:=sA au;exact yM [] iR ⟨_,_,_,_,_,_,_,_,_,rfl,rfl,aS,h5,h6,h7,h8⟩
  rintro I1 hf aa _ _ ⟨ad2,p6,c5,p7,c6,p8,c7,p9,c8,rfl,rfl,aS,h5,h6,h7,h8⟩;exact yP [14] rfl<|xA 0 aS (cStmt x2 p6 c5 p7 c6 p8 c7 p9 c8) (vA (cStmt x2 p6 c5 p7 c6 p8 c7 p9 c8)) rfl<|yM [] iR ⟨_,_,_,_,_,_,_,_,rfl,rfl,h5,h6,h7,h8⟩
 rintro I0 le _ _ ⟨p61,c51,p71,c61,p81,c71,p91,c81,rfl,rfl,h51,h61,h71,h81⟩;refine yP [4,15] rfl ?_;refine xI 0 (cStmt x2 p61 c51 p71 c61 p81 c71 p91 c81) rfl<|yA rfl<|zG<|yX ?_;exact xU N (resC 0 rfl rfl) zM ⟨_,rfl,rfl,⟨_,rfl,(vL ⟨_,_,_,_,rfl,h51,h61,h71,h81⟩)⟩⟩
def zBb(r:(List Int)×Int):KT:=λkk I' ag v=>
 ∃v0 v1,ag=[]/\v=tupV [v0,v1]/\SL I' v0 r.1/\v1=.int .i64 r.2
def uJ(p:zC)(x:zN)(y1:(List zK))(out:List Int)(t17:Int):Option (List Int):=do
 if(decide (t17<(y1.length:Int))) then
  let x1<-idx y1 t17;let y2<-sP p x1 x.Point;let aq<-app 8 out ([y2]:List Int);uJ p x y1 aq (W (t17+1))
 else pure (id out)
 partial_fixpoint
theorem zBT(p:zC)(x:zN)(y1:(List zK)):∀(out:List Int) (t17:Int) (o:List Int),uJ p x y1 out t17=some o->∀{B}{I0 I:Imm}{Q}{y:zP}{p1 c p2 c1 p3 c2}{b b1}{p4 c3 p5 c4 p6 c5 p7 c6}{b2}{p8 c7 p9 c8 az},I0.le I->(S4 I p8 y1 c7)->(S4 I p4 y.Write.Subs c3)->(S4 I p5 y.Value.Index.Coefs c4)->(S4 I p6 y.Value.Read.Subs c5)->(S4 I p7 y.Value.Kids c6)->(S4 I p3 x.Point c2)->(S4 I p1 p.Arrays c)->(S4 I p2 p.Parts c1)->(RL I az out)->NG Q->NO Q->(∀I' aj bb c9 aM,o=aj->I0.le I'->(RL I' aM aj)->T 37 B Q (.exit 0) I' [hO Int (vS bb aj c9) aM,hB b2 (cStmt y p4 c3 p5 c4 p6 c5 p7 c6),hB b1 (cInst x p3 c2),hB b (cProg p p1 c p2 c1)] [(2,vP b 0),(3,vP b1 0),(6,vP b2 0),(7,vS bb aj c9)])->J Tryz.prog 37 B (nav (bodyOf f54) [1,1,1,0,1,0]) Q I [hO Int (vS p9 out c8) az,hB b2 (cStmt y p4 c3 p5 c4 p6 c5 p7 c6),hB b1 (cInst x p3 c2),hB b (cProg p p1 c p2 c1)] [(2,vP b 0),(3,vP b1 0),(6,vP b2 0),(7,vS p9 out c8),(15,vS p8 y1 c7),(16,vI (y1.length:Int)),(17,vI t17)]:=by
 refine uJ.partial_correctness p x y1 _ λaI ih out t17 o N B I0 I Q y p1 c p2 c1 p3 c2 b b1 p4 c3 p5 c4 p6 c5 p7 c6 b2 p8 c7 p9 c8 az H h8 h4 h5 h6 h7 h2 h h1 h10 hg ho hx=>yV hg ho<|yH [18] rfl<|zZ<|yE N ?_ ?_
 ·intro hc N;refine zT<|zZ<|yI<|yF<|bE N λx1 aF N=>xK rfl rfl h8 aF ?_;intro ad aN ap ak;obtain⟨aR,bd,rfl,h12⟩:=oA ak;refine xA 0 ap (cAccess x1 aR bd) (vA (cAccess x1 aR bd)) rfl<|wI [vT ([]),z0] ?_;intro b3 hb3;refine xI 0 (cAccess x1 aR bd) rfl<|yA rfl<|zG<|zJ<|sW 5 [4,0,3] [(21,vS p9 out c8),(22,vA (cProg p p1 c p2 c1)),(23,vA (cAccess x1 aR bd)),(25,vS p3 x.Point c2)]<|bE N λy2 aX N=>eO (jV p x1 x.Point _ aX h h1 h12 h2) ?_;intro aP aD;have ⟨h8,h10,h4,h5,h6,h7⟩:=m6 aD h8 h10 h4 h5 h6 h7;have ⟨h2,h,h1,H⟩:=m4 aD h2 h h1 H;refine uP [vI y2] Int ?_;intro b4 hb4;have h14:RL aP [vI y2] ([y2]:List Int):=rI [y2];obtain⟨aq,bk,N⟩:=zB N;exact qA 3 1 2 rfl rfl rfl h10 (.inr ⟨0,rfl⟩) h14 bk λbz bh aU h15=>tX (zY [1,2,3,4,5] (ag:=[hB b3 (cAccess x1 aR bd),hO Int (vS bz aq bh) aU,hB b2 (cStmt y p4 c3 p5 c4 p6 c5 p7 c6),hB b1 (cInst x p3 c2),hB b (cProg p p1 c p2 c1)]))<|yK [] [7] rfl<|zL<|zG<|zJ<|yK [] [17] rfl<|yU<|jS (zX [1,2,3,4] rfl (by decide))<|nD<|ih aq (W (t17+1)) _ N H h8 h4 h5 h6 h7 h2 h h1 h15 hg ho hx
 intro hc N;exact wM<|yS<|hx _ _ _ _ _ (zD N).symm H h10
def oE(p:zC)(x:zN):Option ((List Int)×Int):=do
 let y<-qF p x;let y1<-kO y.Value;let aj<-uJ p x y1 ([]:List Int) 0;let y3<-sP p y.Write x.Point;pure (aj,y3)
theorem zCP:∀p x r,oE p x=some r->∀{I:Imm}{p1 c p2 c1 p3 c2},(S4 I p1 p.Arrays c)->(S4 I p2 p.Parts c1)->(S4 I p3 x.Point c2)->RT 54 [vA (cProg p p1 c p2 c1),vA (cInst x p3 c2)] I [] (zBb  r):=by
 intro p x r N I p1 c p2 c1 p3 c2 h h1 h2;unfold oE at N;refine yL func54 λB=>yF<|vK (cProg p p1 c p2 c1) ?_;intro b hb;refine vK (cInst x p3 c2) ?_;intro b1 hb1;refine wB [] []<|yW<|sW 2 [1,0] [(10,vA (cProg p p1 c p2 c1)),(11,vA (cInst x p3 c2))]<|bE N λy hy N=>xF (dE p x _ hy h h1 h2) ?_;rintro I0 av v2 k2 le - ⟨v0,rfl,rfl,⟨cs,rfl,h3⟩⟩ -;have ⟨h2,h,h1⟩:=m3 le h2 h h1;obtain⟨p4,c3,p5,c4,p6,c5,p7,c6,rfl,h4,h5,h6,h7⟩:=sA h3;refine wI [vT ([]),z0,vI 0,vI 0,z0,vI 0,vT ([]),z0,z0] ?_;intro b2 hb2;refine xI 0 (cStmt y p4 c3 p5 c4 p6 c5 p7 c6) rfl<|yA rfl<|zEP [(7,z0)]<|zZ<|yF<|sW 2 [0] [(14,vA (cExpr y.Value p5 c4 p6 c5 p7 c6))]<|bE N λy1 ay N=>xF (zBv y.Value _ ay h5 h6 h7) ?_;rintro aT av v2 k2 aa - ⟨v05,rfl,rfl,h8⟩ -;have ⟨h4,h5,h6,h7,h2,h⟩:=m6 aa h4 h5 h6 h7 h2 h;have h1:=h1.mono aa;obtain⟨p8,c7,rfl⟩:=h8.form;refine yK [] [16,17] rfl<|xY<|pE [(2,vP b 0),(3,vP b1 0),(6,vP b2 0),(7,z0),(15,vS p8 y1 c7),(16,vI (y1.length:Int)),(17,vI 0)]<|zAm Int λh9=>?_;obtain⟨o0,aA,aG⟩:=zB N;refine zBT p x y1 ([]:List Int) 0 o0 aA iR h8 h4 h5 h6 h7 h2 h h1 h9 nG nO ?_;intro bx aj bb c9 aM heq aH h11;subst o0;have ⟨h4,h2,h,h1⟩:=m4 aH h4 h2 h h1;refine zS<|yW<|sW 6 [3,1,2] [(30,vS bb aj c9),(31,vA (cProg p p1 c p2 c1)),(33,vA (cAccess y.Write p4 c3)),(35,vS p3 x.Point c2)] ?_;obtain⟨y3,bC,N⟩:=zB aG;refine eO (jV p y.Write x.Point _ bC h h1 h4 h2) ?_;intro bI bf;have h11:=iM bf h11;refine yK [] [4,5] rfl<|xD<|yZ 0 rfl ?_;intro bL bu hl0;have h17:=SL.of_frozen hl0 bu h11;exact xU N (resU rfl rfl) zM ⟨_,_,rfl,rfl,h17,rfl⟩
def zHb(r:(Option sN)×Bool):KT:=λkk I' ag v=>
 ∃v0 v1,ag=[]/\v=tupV [v0,v1]/\FP I' v0 r.1/\v1=.bool r.2
def mY(p:zC)(y1:(List zN))(t24:Int)(reads:List (List Int))(writes:List Int):Option ((List (List Int)×List Int)):=do
 if(decide (t24<(y1.length:Int))) then
  let x<-idx y1 t24;let (y4,y5)<-oE p x;let l<-app 24 reads ([y4]:List (List Int));let l1<-app 8 writes ([y5]:List Int);mY p y1 (W (t24+1)) l l1
 else pure (reads,writes)
 partial_fixpoint
theorem zGp(p:zC)(y1:(List zN)):∀(t24:Int) (reads:List (List Int)) (writes:List Int) (o:(List (List Int)×List Int)),mY p y1 t24 reads writes=some o->∀{B}{I0 I:Imm}{Q p1 c p2 c1}{b}{p3 c2}{b1}{p4 c3 cs p5 c4 az},I0.le I->(S4 I p3 y1 c2)->(S4 I p1 p.Arrays c)->(S4 I p2 p.Parts c1)->(RL I cs reads)->(RL I az writes)->NG Q->NO Q->(∀I' reads1 writes1 p6 c5 aM p7 c6 aU,o=(reads1,writes1)->I0.le I'->(RL I' aM reads1)->(RL I' aU writes1)->T 56 B Q (.exit 0) I' [hO Int (vS p7 writes1 c6) aU,hO (List Int) (vS p6 reads1 c5) aM,hB b1 [vS p1 p.Arrays c,vS p2 p.Parts c1,vS p3 y1 c2,vS p6 reads1 c5,vS p7 writes1 c6]] [(6,vP b1 0)])->J Tryz.prog 56 B (nav (bodyOf f27) [1,1,1,1,0,1,0]) Q I [hO Int (vS p5 writes c4) az,hO (List Int) (vS p4 reads c3) cs,hB b1 [vS p1 p.Arrays c,vS p2 p.Parts c1,vS p3 y1 c2,vS p4 reads c3,vS p5 writes c4],hB b (cProg p p1 c p2 c1)] [(1,vP b 0),(6,vP b1 0),(22,vS p3 y1 c2),(23,vI (y1.length:Int)),(24,vI t24)]:=by
 refine mY.partial_correctness p y1 _ λaI ih t24 reads writes o N B I0 I Q p1 c p2 c1 b p3 c2 b1 p4 c3 cs p5 c4 az H h2 h h1 h6 h7 hg ho hx=>yV hg ho<|yH [25] rfl<|zZ<|yE N ?_ ?_
 ·intro aE N;refine zT<|zZ<|yI<|yF<|bE N λx ay N=>xK rfl rfl h2 ay ?_;intro ad aN ap ak;obtain⟨p8,c7,rfl,h10⟩:=pR ak;refine xA 0 ap (cInst x p8 c7) (vA (cInst x p8 c7)) rfl<|wI [vI 0,vI 0,z0] ?_;intro b2 hb2;refine xI 0 (cInst x p8 c7) rfl<|yA rfl<|yW<|sW 2 [4,0] [(29,vA (cProg p p1 c p2 c1)),(30,vA (cInst x p8 c7))] ?_;obtain⟨⟨y4,y5⟩,aF,N⟩:=zB N;refine xF (zCP p x _ aF h h1 h10) ?_;rintro aT av v2 k2 aa - ⟨v03,v04,rfl,rfl,h11,rfl⟩ -;have ⟨h2,h7,h6,h,h1,H⟩:=m6 aa h2 h7 h6 h h1 H;obtain⟨p9,c8,rfl⟩:=h11.form;refine yK [] [9,10] rfl<|zG ?_;obtain⟨l,aX,N⟩:=zB N;obtain⟨l1,bk,N⟩:=zB N;refine wA [.p (vP b1 0) [],.p (vP b1 0) [],.p (vP b1 0) [],.p (vP b1 0) [],.p (vP b1 3) [],.q (vS p4 reads c3),.p (vS p9 y4 c8) [],.x (λI' v hx=>∃b3,v=vS (some ⟨b3,0,none⟩) ([y4]:List (List Int)) 1/\hx=[]/\(SL I' (vS (some ⟨b3,0,none⟩) ([y4]:List (List Int)) 1) ([y4]:List (List Int)))),.x (λI' v hx=>∃bb c9 bv,v=vS bb l c9/\hx=[hO (List Int) (vS bb l c9) bv]/\(RL I' bv l)),.p (vP b1 0) [],.p (vP b1 0) [],.p (vP b1 4) [],.q (vS p5 writes c4),.p (vI y5) [],.x (λI' v hx=>∃b4,v=vS (some ⟨b4,0,none⟩) ([y5]:List Int) 1/\hx=[]/\(SL I' (vS (some ⟨b4,0,none⟩) ([y5]:List Int) 1) ([y5]:List Int))),.x (λI' v hx=>∃aR bd bH,v=vS aR l1 bd/\hx=[hO Int (vS aR l1 bd) bH]/\(RL I' bH l1)),.p (vP b1 0) [],.p (vP b1 3) [],.x (λI' v hx=>∃p101 c91 cs41,hx=[hB b1 [vS p1 p.Arrays c,vS p2 p.Parts c1,vS p3 y1 c2,vS p101 l c91,vS p5 writes c4],hO (List Int) (vS p101 l c91) cs41]/\(RL I' cs41 l))] [[],[],[],[(2,false)],[(3,false)],[(4,false),(24,false)],[],[(6,false)],[(5,false),(7,false),(22,true)],[],[(9,false)],[(10,false)],[(11,false),(24,false)],[],[(13,false)],[(12,false),(14,false),(23,true)],[(0,false)],[(16,false)],[(8,true),(17,false),(24,true)]] [hB b2 (cInst x p8 c7),hB b (cProg p p1 c p2 c1)] [[hO (List Int) (vS p4 reads c3) cs],[hO Int (vS p5 writes c4) az],[hB b1 [vS p1 p.Arrays c,vS p2 p.Parts c1,vS p3 y1 c2,vS p4 reads c3,vS p5 writes c4]]] [(1,false),(15,true),(18,true)] (zY [0,4,2,1,3]) ?_ ?_
  ·refine O4<|Op<|Ob ?_<|Op<|Ox ?_<|Ox ?_<|O3<|Ob ?_<|Op<|Ox ?_<|Ox ?_<|O2<|Ox ?_<|On
   ·intro I1 hf aa hbo;obtain⟨hf2,hbp⟩:=hbo.at (j:=24) (g:=[hB b1 [vS p1 p.Arrays c,vS p2 p.Parts c1,vS p3 y1 c2,vS p4 reads c3,vS p5 writes c4]]) (by decide) (by kernel_rfl) rfl;refine wG ?_;rintro _ _ ⟨rfl,rfl⟩;refine wG ?_;rintro _ _ rfl;refine jF<|zPq hbp<|zDF [(38,vP b1 3)] ?_;exact zEe (cs:=[vS p4 reads c3]) (v:=vS p4 reads c3) 2 rfl rfl rfl rfl rfl (by kernel_rfl) (by kernel_rfl) (by kernel_rfl)<|yR iR
   ·intro I1 hf aa;refine yP [40] rfl ?_;have H:=iS I1;have h11:=h11.mono aa;refine kM (rc y4 ⟨_,rfl,h11⟩ rN) ?_;intro b3 aP aD h14;have H:=H.trans aD;exact yM [] H ⟨_,rfl,rfl,h14⟩
   ·rintro I1 hf aa _ _ ⟨rfl,rfl⟩ _ _ ⟨b3,rfl,rfl,h14⟩ _ _ rfl;refine yP [39,41] rfl ?_;have h6:=iM aa h6;obtain⟨bm,k0,k01⟩:=h14;have h14:SL I1 (vS (some ⟨b3,0,none⟩) ([y4]:List (List Int)) 1) ([y4]:List (List Int)):=⟨_,k0,k01⟩;exact qA 28 1 0 rfl rfl rfl h6 (.inl k0) k01 aX λbb c9 bv h15=>uD (ag:=(hO (List Int) (vS bb l c9) bv::hB b2 (cInst x p8 c7)::hB b (cProg p p1 c p2 c1)::hf)) rfl<|yM [hO (List Int) (vS bb l c9) bv] iR ⟨_,_,_,rfl,rfl,h15⟩
   ·intro I1 hf aa hbo;obtain⟨hf2,hbp⟩:=hbo.at (j:=24) (g:=[hB b1 [vS p1 p.Arrays c,vS p2 p.Parts c1,vS p3 y1 c2,vS p4 reads c3,vS p5 writes c4]]) (by decide) (by kernel_rfl) rfl;refine wG ?_;rintro _ _ ⟨rfl,rfl⟩;refine wG ?_;rintro _ _ rfl;refine jF<|zPq hbp<|zDF [(45,vP b1 4)] ?_;exact zEe (cs:=[vS p5 writes c4]) (v:=vS p5 writes c4) 2 rfl rfl rfl rfl rfl (by kernel_rfl) (by kernel_rfl) (by kernel_rfl)<|yR iR
   ·intro I1 hf aa;refine yP [47] rfl ?_;have H:=iS I1;refine kM (rI [y5]) ?_;intro b4 bx aH h17;have H:=H.trans aH;exact yM [] H ⟨_,rfl,rfl,h17⟩
   ·rintro I1 hf aa _ _ ⟨rfl,rfl⟩ _ _ ⟨b4,rfl,rfl,h17⟩ _ _ rfl;refine yP [46,48] rfl ?_;have h7:=iM aa h7;obtain⟨bO,k02,k03⟩:=h17;have h17:SL I1 (vS (some ⟨b4,0,none⟩) ([y5]:List Int) 1) ([y5]:List Int):=⟨_,k02,k03⟩;exact qA 3 1 0 rfl rfl rfl h7 (.inl k02) k03 bk λaR bd bH h18=>uD (ag:=(hO Int (vS aR l1 bd) bH::hB b2 (cInst x p8 c7)::hB b (cProg p p1 c p2 c1)::hf)) rfl<|yM [hO Int (vS aR l1 bd) bH] iR ⟨_,_,_,rfl,rfl,h18⟩
   rintro I1 hf aa _ _ ⟨bb,c9,bv,rfl,rfl,h15⟩ _ _ ⟨rfl,rfl⟩ _ _ rfl;refine yP [42,51] rfl ?_;have H:=iS I1;exact zBu 0 [vS p1 p.Arrays c,vS p2 p.Parts c1,vS p3 y1 c2,vS bb l c9,vS p5 writes c4] (hB b1 [vS p1 p.Arrays c,vS p2 p.Parts c1,vS p3 y1 c2,vS bb l c9,vS p5 writes c4]::hO (List Int) (vS bb l c9) bv::hB b2 (cInst x p8 c7)::hB b (cProg p p1 c p2 c1)::hf) rfl rfl rfl rfl<|zIR (hx:=[hB b1 [vS p1 p.Arrays c,vS p2 p.Parts c1,vS p3 y1 c2,vS bb l c9,vS p5 writes c4],hO (List Int) (vS bb l c9) bv]) rfl H rfl (zLB (v:=undef)) ⟨_,_,_,rfl,h15⟩
  rintro bI bf _ _ ⟨rfl,rfl⟩ _ _ ⟨aR,bd,bH,rfl,rfl,h18⟩ _ _ ⟨p101,c91,cs41,rfl,h151⟩;refine yP [1,6,22,23,24,35,49] rfl ?_;have ⟨h2,h,h1,H⟩:=m4 bf h2 h h1 H;exact yG 21 [] [53] rfl<|xI 0 [vS p1 p.Arrays c,vS p2 p.Parts c1,vS p3 y1 c2,vS p101 l c91,vS aR l1 bd] rfl<|yA rfl<|zL<|zG<|zJ<|yK [] [24] rfl<|yU<|jS (zX [2,1,0,4] rfl (by decide))<|nD<|ih (W (t24+1)) l l1 _ N H h2 h h1 h151 h18 hg ho hx
 intro aE N;exact wM<|xW (zX [0,1,2] rfl (by decide))<|yS<|hx _ _ _ _ _ _ _ _ _ (zD N).symm H h6 h7
def dX(p:zC):Option ((Option sN)×Bool):=do
 let (y1,y2)<-uC p;if(!y2) then pure (none,false)
 else
  let (reads1,writes1)<-mY p y1 0 ([]:List (List Int)) ([]:List Int);pure ((some (sN.mk p y1 reads1 writes1)),true)
theorem zEa:∀p r,dX p=some r->∀{I:Imm}{p1 c p2 c1},(S4 I p1 p.Arrays c)->(S4 I p2 p.Parts c1)->RT 27 [vA (cProg p p1 c p2 c1)] I [] (zHb  r):=by
 intro p r N I p1 c p2 c1 h h1;unfold dX at N;refine yL func27 λB=>yF<|vK (cProg p p1 c p2 c1) ?_;intro b hb;refine wB [] []<|yW<|sW 1 [0] [(12,vA (cProg p p1 c p2 c1))] ?_;obtain⟨⟨y1,y2⟩,hy,N⟩:=zB N;refine xF (nC p _ hy h h1) ?_;rintro I0 av v2 k2 le - ⟨v0,v01,rfl,rfl,h2,rfl⟩ -;have ⟨h,h1⟩:=m2 le h h1;obtain⟨p3,c2,rfl⟩:=h2.form;refine yK [] [4,5] rfl<|zZ<|yH [17] rfl<|zG<|yE N ?_ ?_
 ·intro hc N;refine yH [2,3] rfl<|xD<|zH ?_;exact xU N (resU rfl rfl) zM ⟨_,_,rfl,rfl,zQK,rfl⟩
 intro hc N;refine zT<|yW<|sW 3 [0] [(20,vA [vS p1 p.Arrays c,vS p2 p.Parts c1,vS p3 y1 c2,z0,z0])]<|vK [vS p1 p.Arrays c,vS p2 p.Parts c1,vS p3 y1 c2,z0,z0] ?_;intro b1 hb1;refine yK [] [6] rfl<|zZ<|yH [22,23,24] rfl<|xY<|pE [(1,vP b 0),(6,vP b1 0),(22,vS p3 y1 c2),(23,vI (y1.length:Int)),(24,vI 0)]<|zAm (List Int) λh4=>?_;refine zAm Int λh5=>?_;obtain⟨o0,aA,aG⟩:=zB N;refine zGp p y1 0 ([]:List (List Int)) ([]:List Int) o0 aA iR h2 h h1 h4 h5 nG nO ?_;intro bL reads1 writes1 p6 c5 aM p7 c6 aU heq bu h8 h9;subst o0;have ⟨h,h1,h2⟩:=m3 bu h h1 h2;refine zS<|wV [2,3] rfl<|xD<|yZ 1 rfl ?_;intro I06 bG hl02;have h19:=SL.of_frozen hl02 bG h8;have ⟨h9,h,h1,h2⟩:=m4 bG h9 h h1 h2;refine yZ 0 rfl ?_;intro I07 le7 hl03;have h20:=SL.of_frozen hl03 le7 h9;have ⟨h,h1,h2,h19⟩:=m4 le7 h h1 h2 h19;refine yZ 0 rfl ?_;intro I08 le8 hl04;have ar:At I08 ⟨b1,0,none⟩ [vS p1 p.Arrays c,vS p2 p.Parts c1,vS p3 y1 c2,vS p6 reads1 c5,vS p7 writes1 c6]:=At.of_blk hl04;have ⟨h,h1,h2,h19,h20⟩:=m5 le8 h h1 h2 h19 h20;exact xU aG (resU rfl rfl) zM ⟨_,_,rfl,rfl,(zQn ar (zGj ⟨_,_,_,_,_,rfl,h,h1,h2,h19,h20⟩)),rfl⟩
def uK(s:(List Int))(v0:Int)(t8:Int):Option (Out Unit (Int)):=do
 if(decide (t8<(s.length:Int))) then
  let x<-idx s t8;if(v0==x) then pure (.ret t8)
  else uK s v0 (W (t8+1))
 else pure (.done ())
 partial_fixpoint
theorem zBU(s:(List Int))(v0:Int):∀(t8:Int) (o:Out Unit (Int)),uK s v0 t8=some o->∀{B}{I0 I:Imm}{Q p c},I0.le I->(S4 I p s c)->NG Q->NO Q->(∀I',o=(.done ())->I0.le I'->T 19 B Q (.exit 0) I' [] [])->(∀r I' ag m',o=(.ret r)->I0.le I'->RS Tryz.prog f95 B (yJ  r) I' ag m'->T 19 B Q .ret I' ag m')->J Tryz.prog 19 B (nav (bodyOf f95) [1,0,1,0]) Q I [] [(0,vS p s c),(1,vI v0),(7,vI (s.length:Int)),(8,vI t8)]:=by
 refine uK.partial_correctness s v0 _ λaI ih t8 o N B I0 I Q p c H h hg ho hx hr=>yV hg ho<|yH [9] rfl<|zZ<|yE N ?_ ?_
 ·intro hc N;refine zT<|zZ<|yI<|yH [5] rfl<|yW<|yG 3 [] [11,12,13] rfl<|bE N λx hy N=>xK rfl rfl h hy ?_;intro ad aN ap ak;obtain rfl:=ak;refine xA 0 ap [vI x] (vI x) rfl<|yK [] [16] rfl<|zG<|yE N ?_ ?_
  ·intro aE N;exact yH [4] rfl<|xD<|zW<|zH<|zH<|hr _ _ _ _ (zD N).symm H ⟨_,_,(resT rfl),zM,⟨_,rfl,rfl,rfl⟩⟩
  intro aE N;exact zT<|zL<|zG<|zJ<|yK [] [8] rfl<|yU<|nD<|ih (W (t8+1)) _ N H h hg ho hx hr
 intro hc N;exact wM<|yS<|hx _  (zD N).symm H
def kQ(s:(List Int))(v0:Int):Option (Int):=do
 match<-uK s v0 0 with
 | .ret r0=>pure r0
 | .done _=>
  pure (-1)
theorem zCQ:∀s v0 r,kQ s v0=some r->∀{I:Imm}{p c},(S4 I p s c)->RT 95 [vS p s c,vI v0] I [] (yJ  r):=by
 intro s v0 r N I p c h;unfold kQ at N;refine yL func95 λB=>wL []<|zZ<|yH [7,8] rfl<|xY<|pE [(0,vS p s c),(1,vI v0),(7,vI (s.length:Int)),(8,vI 0)] ?_;obtain⟨o0,aA,aG⟩:=zB N;refine zBU s v0 0 o0 aA iR h nG nO ?_ ?_
 ·intro I0  heq le;subst o0;refine zS<|wV [4] rfl<|zG<|yX ?_;obtain rfl:=zD aG;exact wC
 intro r0 I9 hs9 m9 aW le9 aY;subst aW;refine zW<|zH ?_;obtain rfl:=zD aG;exact fO aY
def tZ(s:(List Int))(v0:Int):Option (Bool):=do
 let y<-kQ s v0;pure (decide (y>=0))
theorem dG:∀s v0 r,tZ s v0=some r->∀{I:Imm}{p c},(S4 I p s c)->RT 55 [vS p s c,vI v0] I [] (zU  r):=by
 intro s v0 r N I p c h;unfold tZ at N;refine yL func55 λB=>wL []<|yW<|yG 2 [] [5,6] rfl<|bE N λy hy N=>eO (zCQ s v0 _ hy h) λI0 le=>wB [] [(4,.bool (decide (y>=0)))]<|zG<|yX ?_;obtain rfl:=zD N;exact wC
def nF(t:sN)(from0:Int)(to0:Int):Option (Int):=do
 let x<-idx t.reads to0;let x1<-idx t.writes from0;let y<-tZ x x1;let kinds<-(do
  if y then pure (W (0+1))
  else
   pure (id 0)
    : Option Int)
 let x2<-idx t.reads from0;let x3<-idx t.writes to0;let y1<-tZ x2 x3;let kinds1<-(do
  if y1 then pure (W (kinds+2))
  else
   pure (id kinds)
    : Option Int)
 let x4<-idx t.writes from0;let x5<-idx t.writes to0;let kinds2<-(do
  if(x4==x5) then pure (W (kinds1+4))
  else
   pure (id kinds1)
    : Option Int)
 pure (id kinds2)
theorem zCf:∀t from0 to0 r,nF t from0 to0=some r->∀{I:Imm}{ad:Addr}{p c p1 c1 p2 c2 p3 c3 p4 c4},(S4 I p t.Program.Arrays c)->(S4 I p1 t.Program.Parts c1)->(S4 I p2 t.list c2)->(S4 I p3 t.reads c3)->(S4 I p4 t.writes c4)->(At I ad [vS p t.Program.Arrays c,vS p1 t.Program.Parts c1,vS p2 t.list c2,vS p3 t.reads c3,vS p4 t.writes c4])->RT 29 [.pointer (some ad),vI from0,vI to0] I [] (yJ  r):=by
 intro t from0 to0 r N I ad p c p1 c1 p2 c2 p3 c3 p4 c4 h h1 h2 h3 h4 ap;unfold nF at N;refine yL func29 λB=>?_;have H:=iS I;refine wL []<|wV [7] rfl<|zZ<|yB ?_;obtain⟨x,hy,N⟩:=zB N;obtain⟨x1,ay,N⟩:=zB N;obtain⟨y,aF,N⟩:=zB N;refine wA [.p (.pointer (some ad)) [],.p (.pointer (some ad)) [],.p (.pointer (some (ad.add 3))) [],.q (vS p3 t.reads c3),.p (vI to0) [],.x (λI' v hx=>∃ad1 p5 c5,v=.pointer (some ad1)/\hx=[]/\(At I' ad1 [vS p5 x c5])/\(S4 I' p5 x c5)),.x (eS x),.p (.pointer (some ad)) [],.p (.pointer (some ad)) [],.p (.pointer (some (ad.add 4))) [],.q (vS p4 t.writes c4),.p (vI from0) [],.x (λI' v hx=>∃ad2,v=.pointer (some ad2)/\hx=[]/\(At I' ad2 [vI x1])),.q (vI x1),.q (.bool y)] [[],[(0,false)],[(1,false)],[(2,false)],[],[(3,false),(4,false)],[(5,false)],[],[(7,false)],[(8,false)],[(9,false)],[],[(10,false),(11,false)],[(12,false)],[(6,false),(13,false)]] [] [] [(14,false)] zM ?_ ?_
 ·refine O3<|Oq ?_<|Op<|Ox ?_<|Ox ?_<|O3<|Oq ?_<|Op<|Ox ?_<|Oq ?_<|Oq ?_<|On
  ·intro I1 hf aa;refine yP [10] rfl ?_;have ap:=ap.mono aa;exact xA 3 ap [vS p3 t.reads c3] (vS p3 t.reads c3) rfl<|yR iR
  ·intro I1 hf aa;refine yP [11,12] rfl ?_;have h3:=h3.mono aa;refine xK rfl rfl h3 hy ?_;intro ad1 aN ar ak;obtain⟨v0,rfl,h5⟩:=ak;obtain⟨p5,c5,rfl⟩:=h5.form;exact yM [] iR ⟨_,_,_,rfl,rfl,ar,h5⟩
  ·rintro I1 hf aa _ _ ⟨ad1,p5,c5,rfl,rfl,ar,h5⟩;exact yP [13] rfl<|xA 0 ar [vS p5 x c5] (vS p5 x c5) rfl<|yM [] iR ⟨_,_,rfl,rfl,h5⟩
  ·intro I1 hf aa;refine yP [17] rfl ?_;have ap:=ap.mono aa;exact xA 4 ap [vS p4 t.writes c4] (vS p4 t.writes c4) rfl<|yR iR
  ·intro I1 hf aa;refine yP [18,19] rfl ?_;have h4:=h4.mono aa;refine xK rfl rfl h4 ay ?_;intro ad2 bm aS au;obtain rfl:=au;exact yM [] iR ⟨_,rfl,rfl,aS⟩
  ·rintro I1 hf aa _ _ ⟨ad2,rfl,rfl,aS⟩;exact yP [20] rfl<|xA 0 aS [vI x1] (vI x1) rfl<|yR iR
  rintro I1 hf aa _ _ ⟨p51,c51,rfl,rfl,h51⟩;refine yP [14,21] rfl ?_;have H:=iS I1;refine vJ (dG x x1 _ aF h51) ?_;intro I0 le;have H:=H.trans le;exact yR H
 intro aT aa;refine yP [0,1,2,7,22] rfl ?_;have ⟨h3,h4,ap,H⟩:=m4 aa h3 h4 ap H;refine yA rfl<|zG ?_;refine wK N [] (λkinds=>[(0,.pointer (some ad)),(1,vI from0),(2,vI to0),(7,vI kinds)]) (λo0 aA=>?_) ?_
 ·have H:=iS aT;refine yE aA ?_ ?_
  ·intro hc N;exact zJ<|yK [] [7] rfl<|yS<|zV (ct N H)
  intro hc N;exact zT<|yS<|zV (ct N H)
 intro kinds aP aD aQ;have ⟨h3,h4,ap,H⟩:=m4 aD h3 h4 ap H;refine zZ<|yB ?_;obtain⟨x2,aX,N⟩:=zB aQ;obtain⟨x3,bk,N⟩:=zB N;obtain⟨y1,bC,N⟩:=zB N;refine wA [.p (.pointer (some ad)) [],.p (.pointer (some ad)) [],.p (.pointer (some (ad.add 3))) [],.q (vS p3 t.reads c3),.p (vI from0) [],.x (λI' v hx=>∃ad3 p6 c6,v=.pointer (some ad3)/\hx=[]/\(At I' ad3 [vS p6 x2 c6])/\(S4 I' p6 x2 c6)),.x (eS x2),.p (.pointer (some ad)) [],.p (.pointer (some ad)) [],.p (.pointer (some (ad.add 4))) [],.q (vS p4 t.writes c4),.p (vI to0) [],.x (λI' v hx=>∃ad4,v=.pointer (some ad4)/\hx=[]/\(At I' ad4 [vI x3])),.q (vI x3),.q (.bool y1)] [[],[(0,false)],[(1,false)],[(2,false)],[],[(3,false),(4,false)],[(5,false)],[],[(7,false)],[(8,false)],[(9,false)],[],[(10,false),(11,false)],[(12,false)],[(6,false),(13,false)]] [] [] [(14,false)] zM ?_ ?_
 ·refine O3<|Oq ?_<|Op<|Ox ?_<|Ox ?_<|O3<|Oq ?_<|Op<|Ox ?_<|Oq ?_<|Oq ?_<|On
  ·intro I1 hf aa;refine yP [27] rfl ?_;have ap:=ap.mono aa;exact xA 3 ap [vS p3 t.reads c3] (vS p3 t.reads c3) rfl<|yR iR
  ·intro I1 hf aa;refine yP [28,29] rfl ?_;have h3:=h3.mono aa;refine xK rfl rfl h3 aX ?_;intro ad3 bO hat3 aZ;obtain⟨v02,rfl,h7⟩:=aZ;obtain⟨p6,c6,rfl⟩:=h7.form;exact yM [] iR ⟨_,_,_,rfl,rfl,hat3,h7⟩
  ·rintro I1 hf aa _ _ ⟨ad3,p6,c6,rfl,rfl,hat3,h7⟩;exact yP [30] rfl<|xA 0 hat3 [vS p6 x2 c6] (vS p6 x2 c6) rfl<|yM [] iR ⟨_,_,rfl,rfl,h7⟩
  ·intro I1 hf aa;refine yP [34] rfl ?_;have ap:=ap.mono aa;exact xA 4 ap [vS p4 t.writes c4] (vS p4 t.writes c4) rfl<|yR iR
  ·intro I1 hf aa;refine yP [35,36] rfl ?_;have h4:=h4.mono aa;refine xK rfl rfl h4 bk ?_;intro ad4 ccs3 hat4 bB;obtain rfl:=bB;exact yM [] iR ⟨_,rfl,rfl,hat4⟩
  ·rintro I1 hf aa _ _ ⟨ad4,rfl,rfl,hat4⟩;exact yP [37] rfl<|xA 0 hat4 [vI x3] (vI x3) rfl<|yR iR
  rintro I1 hf aa _ _ ⟨p61,c61,rfl,rfl,h71⟩;refine yP [31,38] rfl ?_;have H:=iS I1;refine vJ (dG x2 x3 _ bC h71) ?_;intro bx aH;have H:=H.trans aH;exact yR H
 intro bI bf;refine yP [0,1,2,7,39] rfl ?_;have ⟨h4,ap,H⟩:=m3 bf h4 ap H;refine yA rfl<|zG ?_;refine wK N [] (λkinds1=>[(0,.pointer (some ad)),(1,vI from0),(2,vI to0),(7,vI kinds1)]) (λaO aB=>?_) ?_
 ·have H:=iS bI;refine yE aB ?_ ?_
  ·intro aE N;exact zJ<|yK [] [7] rfl<|yS<|zV (ct N H)
  intro aE N;exact zT<|yS<|zV (ct N H)
 intro kinds1 bL bu hMc1;have ⟨h4,ap,H⟩:=m3 bu h4 ap H;refine zZ<|yB<|mV (by kernel_rfl) (by kernel_rfl)<|eX 3 [] [44] rfl<|gT 4 ap [vS p4 t.writes c4] (vS p4 t.writes c4) rfl<|eX 5 [] [46] rfl ?_;obtain⟨x4,hy6,N⟩:=zB hMc1;refine dZ rfl rfl h4 hy6 ?_;intro ad5 ccs4 hat5 hrep4;obtain rfl:=hrep4;refine gT 0 hat5 [vI x4] (vI x4) rfl<|eX 10 [] [51] rfl<|gT 4 ap [vS p4 t.writes c4] (vS p4 t.writes c4) rfl<|eX 12 [] [53] rfl<|bE N λx5 hy7 N=>dZ rfl rfl h4 hy7 ?_;intro ad6 ccs5 hat6 hrep5;obtain rfl:=hrep5;refine gT 0 hat6 [vI x5] (vI x5) rfl<|zGl [] [56] rfl<|zG ?_;refine wK N [] (λkinds2=>[(7,vI kinds2)]) (λo02 ho02=>?_) ?_
 ·have H:=iS bL;refine yE ho02 ?_ ?_
  ·intro aV N;exact zJ<|yK [] [7] rfl<|yS<|zV (ct N H)
  intro aV N;exact zT<|yS<|zV (ct N H)
 intro kinds2 I06 bG hMc2;refine wV [6] rfl<|zG<|yX ?_;obtain rfl:=zD hMc2;exact wC
def zDJ(r:(List zR)):KT:=λkk I' ag v=>
 ∃a0 c0 s0,ag=[.osl (.slice a0 r.length c0) (Rp.sz zR) s0]/\v=tupV [(.slice a0 r.length c0)]/\RepL (Rp.rep I') (Rp.sz zR) s0 r
def sS(t:sN)(t12:Int)(aq:List zR)(to0:Int):Option (List zR):=do
 if(decide (to0<(t.list.length:Int))) then
  let y<-nF t t12 to0;let br<-(do
   if(decide (y>0)) then
    let out5<-app 24 aq ([(zR.mk t12 to0 y)]:List zR);pure (id out5)
   else
    pure (id aq)
     : Option (List zR))
  sS t t12 br (W (to0+1))
 else pure (id aq)
 partial_fixpoint
theorem zCg(t:sN)(t12:Int):∀(aq:List zR) (to0:Int) (o:List zR),sS t t12 aq to0=some o->∀{B}{I0 I:Imm}{Q}  {ad:Addr}{p c p1 c1 p2 c2 p3 c3 p4 c4 p7 c7 aM},I0.le I->(S4 I p t.Program.Arrays c)->(S4 I p1 t.Program.Parts c1)->(S4 I p2 t.list c2)->(S4 I p3 t.reads c3)->(S4 I p4 t.writes c4)->(At I ad [vS p t.Program.Arrays c,vS p1 t.Program.Parts c1,vS p2 t.list c2,vS p3 t.reads c3,vS p4 t.writes c4])->(RL I aM aq)->NG Q->NO Q->(∀I' aL p8 c8 aU,o=aL->I0.le I'->(RL I' aU aL)->T 41 B Q (.exit 2) I' [hO zR (vS p8 aL c8) aU] [(0,.pointer (some ad)),(3,vS p8 aL c8),(11,vI (t.list.length:Int)),(12,vI t12)])->J Tryz.prog 41 B (nav (bodyOf f53) [1,1,0,1,0,0,1,1,0,0,1,1,0]) Q I [hO zR (vS p7 aq c7) aM] [(0,.pointer (some ad)),(3,vS p7 aq c7),(4,vI t12),(5,vI to0),(11,vI (t.list.length:Int)),(12,vI t12)]:=by
 refine sS.partial_correctness t t12 _ λaI ih aq to0 o N B I0 I Q ad p c p1 c1 p2 c2 p3 c3 p4 c4 p7 c7 aM H h h1 h2 h3 h4 ap h8 hg ho hx=>yV hg ho<|yB<|yF<|yG 4 [] [17,20] rfl<|xA 2 ap [vS p2 t.list c2] (vS p2 t.list c2) rfl<|yK [] [23] rfl<|zG<|yE N ?_ ?_
 ·intro aE N;refine zT<|zZ<|yI<|yF<|yG 3 [] [26,27,28] rfl<|bE N λy hy N=>eO (zCf t t12 to0 _ hy h h1 h2 h3 h4 ap) ?_;intro I0 le;have ⟨h,h1,h2,h3,h4,ap⟩:=m6 le h h1 h2 h3 h4 ap;have ⟨h8,H⟩:=m2 le h8 H;refine yK [] [6] rfl<|wV [31] rfl<|zG ?_;obtain⟨o0,aA,aQ⟩:=zB N;refine qQ (λI' ag m'=>∃(br:List zR) (p9:Option Addr) (c9:Nat) (bv:List Value),o0=br/\I0.le I'/\(RL I' bv br)/\ag=[hO zR (vS p9 br c9) bv]/\m'=[(0,.pointer (some ad)),(3,vS p9 br c9),(4,vI t12),(5,vI to0),(11,vI (t.list.length:Int)),(12,vI t12)]) ?_ ?_
  ·have H:=iS I0;refine yE aA ?_ ?_
   ·intro aV N;refine zJ<|yG 5 [] [32,36] rfl<|uP [vI t12,vI to0,vI y] zR ?_;intro b hb;have h12:RL I0 [vI t12,vI to0,vI y] ([(zR.mk t12 to0 y)]:List zR):=⟨[vI t12,vI to0,vI y],_,rfl,rfl,(gF rfl),rfl⟩;obtain⟨out5,ay,N⟩:=zB N;exact qA 92 3 1 rfl rfl rfl h8 (.inr ⟨0,rfl⟩) h12 ay λbb bd bH h13=>tX (zY [1] (ag:=[hO zR (vS bb out5 bd) bH]))<|yK [] [3] rfl<|yS<|zV ⟨_,_,_,_,(zD N).symm,H,h13,rfl,rfl⟩
   intro aV N;exact zT<|yS<|zV ⟨_,_,_,_,(zD N).symm,H,h8,rfl,rfl⟩
  rintro aT av m2 ⟨br,p9,c9,bv,heq,aa,h11,rfl,rfl⟩;subst o0;have ⟨h,h1,h2,h3,h4,ap⟩:=m6 aa h h1 h2 h3 h4 ap;have H:=H.trans aa;exact zL<|zG<|zJ<|yK [] [5] rfl<|yU<|nD<|ih br (W (to0+1)) _ aQ H h h1 h2 h3 h4 ap h11 hg ho hx
 intro aE N;exact wM<|yS<|hx _ _ _ _ _ (zD N).symm H h8
def sT(t:sN)(out:List zR)(t12:Int):Option (List zR):=do
 if(decide (t12<(t.list.length:Int))) then
  let aL<-sS t t12 out (W (t12+1));sT t aL (W (t12+1))
 else pure (id out)
 partial_fixpoint
theorem zCh(t:sN):∀(out:List zR) (t12:Int) (o:List zR),sT t out t12=some o->∀{B}{I0 I:Imm}{Q}  {ad:Addr}{p c p1 c1 p2 c2 p3 c3 p4 c4 p5 c5 cs},I0.le I->(S4 I p t.Program.Arrays c)->(S4 I p1 t.Program.Parts c1)->(S4 I p2 t.list c2)->(S4 I p3 t.reads c3)->(S4 I p4 t.writes c4)->(At I ad [vS p t.Program.Arrays c,vS p1 t.Program.Parts c1,vS p2 t.list c2,vS p3 t.reads c3,vS p4 t.writes c4])->(RL I cs out)->NG Q->NO Q->(∀I' aj p6 c6 az,o=aj->I0.le I'->(RL I' az aj)->T 41 B Q (.exit 0) I' [hO zR (vS p6 aj c6) az] [(3,vS p6 aj c6)])->J Tryz.prog 41 B (nav (bodyOf f53) [1,1,0,1,0]) Q I [hO zR (vS p5 out c5) cs] [(0,.pointer (some ad)),(3,vS p5 out c5),(11,vI (t.list.length:Int)),(12,vI t12)]:=by
 refine sT.partial_correctness t _ λaI ih out t12 o N B I0 I Q ad p c p1 c1 p2 c2 p3 c3 p4 c4 p5 c5 cs H h h1 h2 h3 h4 ap h6 hg ho hx=>yV hg ho<|yH [13] rfl<|zZ<|yE N ?_ ?_
 ·intro hc N;refine zT<|zZ<|yI<|yH [4] rfl<|wV [5] rfl<|xY<|pE [(0,.pointer (some ad)),(3,vS p5 out c5),(4,vI t12),(5,vI (W (t12+1))),(11,vI (t.list.length:Int)),(12,vI t12)] ?_;obtain⟨aO,aB,aG⟩:=zB N;refine zCg t t12 out (W (t12+1)) aO aB iR h h1 h2 h3 h4 ap h6 (λ_ _ _ h=>hg _ _ _ h) (λ_ _ h=>ho _ _ h) ?_;intro aP aL p8 c8 aU heq1 aD h9;subst aO;have ⟨h,h1,h2,h3,h4,ap⟩:=m6 aD h h1 h2 h3 h4 ap;have H:=H.trans aD;exact zS<|zL<|zG<|zJ<|yK [] [12] rfl<|yU<|nD<|ih aL (W (t12+1)) _ aG H h h1 h2 h3 h4 ap h9 hg ho hx
 intro hc N;exact wM<|yS<|hx _ _ _ _ _ (zD N).symm H h6
def nL(t:sN):Option ((List zR)):=do
 let aj<-sT t ([]:List zR) 0;pure (id aj)
theorem zBC:∀t r,nL t=some r->∀{I:Imm}{ad:Addr}{p c p1 c1 p2 c2 p3 c3 p4 c4},(S4 I p t.Program.Arrays c)->(S4 I p1 t.Program.Parts c1)->(S4 I p2 t.list c2)->(S4 I p3 t.reads c3)->(S4 I p4 t.writes c4)->(At I ad [vS p t.Program.Arrays c,vS p1 t.Program.Parts c1,vS p2 t.list c2,vS p3 t.reads c3,vS p4 t.writes c4])->RT 53 [.pointer (some ad)] I [] (zDJ  r):=by
 intro t r N I ad p c p1 c1 p2 c2 p3 c3 p4 c4 h h1 h2 h3 h4 ap;unfold nL at N;refine yL func53 λB=>wL []<|zEP [(3,z0)]<|zZ<|yF<|yG 3 [] [9] rfl<|xA 2 ap [vS p2 t.list c2] (vS p2 t.list c2) rfl<|yK [] [11,12] rfl<|xY<|pE [(0,.pointer (some ad)),(3,z0),(11,vI (t.list.length:Int)),(12,vI 0)]<|zAm zR λh5=>?_;obtain⟨o02,ho02,hMl1⟩:=zB N;refine zCh t ([]:List zR) 0 o02 ho02 iR h h1 h2 h3 h4 ap h5 nG nO ?_;intro bx aj p6 c6 az heq2 aH h7;subst o02;refine zS<|wV [2] rfl<|zG<|yX ?_;exact xU hMl1 (resT rfl) (zX [0] rfl (by decide)) ⟨_,_,_,rfl,rfl,h7⟩
def jG(r:(List zR)):KT:=λkk I' ag v=>
 ∃v0,ag=[]/\v=tupV [v0]/\SL I' v0 r
def pK(p:zC):Option ((List zR)):=do
 let (y1,y2)<-dX p;if(!y2) then pure ([]:List zR)
 else
  let t<-y1;let y3<-nL t;pure (id y3)
theorem zBD:∀p r,pK p=some r->∀{I:Imm}{p1 c p2 c1},(S4 I p1 p.Arrays c)->(S4 I p2 p.Parts c1)->RT 25 [vA (cProg p p1 c p2 c1)] I [] (jG  r):=by
 intro p r N I p1 c p2 c1 h h1;unfold pK at N;refine yL func25 λB=>yF<|vK (cProg p p1 c p2 c1) ?_;intro b hb;refine wB [] []<|yW<|sW 1 [0] [(6,vA (cProg p p1 c p2 c1))] ?_;obtain⟨⟨y1,y2⟩,hy,N⟩:=zB N;refine xF (zEa p _ hy h h1) ?_;rintro I0 av v2 k2 le - ⟨v0,v01,rfl,rfl,h2,rfl⟩ -;refine yK [] [3,4] rfl<|zZ<|yH [11] rfl<|zG<|yE N ?_ ?_
 ·intro hc N;refine wL [(2,z0)]<|xD<|zH ?_;exact xU N (resT rfl) zM ⟨_,rfl,rfl,(SL.nil _)⟩
 intro hc N;refine zT<|yW<|sW 1 [] [(12,v0)] ?_;obtain⟨t,ay,N⟩:=zB N;obtain⟨ad,aN,rfl,ap,ak⟩:=zMa h2 ay;obtain⟨p3,c2,p4,c3,p5,c4,p6,c5,p7,c6,rfl,h4,h5,h6,h7,h8⟩:=zDZ ak;obtain⟨y3,aF,N⟩:=zB N;refine xF (zBC t _ aF h4 h5 h6 h7 h8 ap) ?_;rintro aT av v2 k2 aa - ⟨p8,c7,cs,rfl,rfl,h9⟩ -;refine yK [] [2] rfl<|xD<|yZ 0 rfl ?_;intro aP aD hl0;have h10:=SL.of_frozen hl0 aD h9;exact xU N (resT rfl) zM ⟨_,rfl,rfl,h10⟩
def jA(r:(List zN)):KT:=λkk I' ag v=>
 ∃v0,ag=[]/\v=tupV [v0]/\SL I' v0 r
def tF(p:zC):Option ((List zN)):=do
 let (y1,y2)<-uC p;if(!y2) then pure ([]:List zN)
 else pure (id y1)
theorem gI:∀p r,tF p=some r->∀{I:Imm}{p1 c p2 c1},(S4 I p1 p.Arrays c)->(S4 I p2 p.Parts c1)->RT 26 [vA (cProg p p1 c p2 c1)] I [] (jA  r):=by
 intro p r N I p1 c p2 c1 h h1;unfold tF at N;refine yL func26 λB=>yF<|vK (cProg p p1 c p2 c1) ?_;intro b hb;refine wB [] []<|yW<|sW 1 [0] [(6,vA (cProg p p1 c p2 c1))] ?_;obtain⟨⟨y1,y2⟩,hy,N⟩:=zB N;refine xF (nC p _ hy h h1) ?_;rintro I0 av v2 k2 le - ⟨v0,v01,rfl,rfl,h2,rfl⟩ -;obtain⟨p3,c2,rfl⟩:=h2.form;refine yK [] [3,4] rfl<|zZ<|yH [11] rfl<|zG<|yE N ?_ ?_
 ·intro hc N;refine wL [(2,z0)]<|xD<|zH ?_;exact xU N (resT rfl) zM ⟨_,rfl,rfl,(SL.nil _)⟩
 intro hc N;refine zT<|wV [2] rfl<|zG<|yX ?_;exact xU N (resT rfl) zM ⟨_,rfl,rfl,h2⟩
def fY(p:zC):Option ((List Int)):=do
 let y<-pK p;let y1<-tF p;let y2<-zAE y (y1.length:Int);pure (id y2)
theorem zGq:∀p r,fY p=some r->∀{I:Imm}{p1 c p2 c1},(S4 I p1 p.Arrays c)->(S4 I p2 p.Parts c1)->RT 10 [vA (cProg p p1 c p2 c1)] I [] (nI  r):=by
 intro p r N I p1 c p2 c1 h h1;unfold fY at N;refine yL func10 λB=>?_;have H:=iS I;refine yF<|vK (cProg p p1 c p2 c1) ?_;intro b hb;refine wB [] []<|zG<|yB ?_;obtain⟨y,hy,N⟩:=zB N;obtain⟨y1,ay,N⟩:=zB N;obtain⟨y2,aF,N⟩:=zB N;refine wA [.p (vA (cProg p p1 c p2 c1)) [0],.x (eS y),.p (vA (cProg p p1 c p2 c1)) [0],.x (eS y1),.q (vI (y1.length:Int)),.x (eS y2)] [[],[(0,false)],[],[(2,false)],[(3,false)],[(1,false),(4,false)]] [hB b (cProg p p1 c p2 c1)] [] [(5,false)] (zY [0]) ?_ ?_
 ·refine Op<|Ox ?_<|Op<|Ox ?_<|Oq ?_<|Ox ?_<|On
  ·intro I1 hf aa;refine yP [3] rfl ?_;have H:=iS I1;have ⟨h,h1⟩:=m2 aa h h1;refine xF (zBD p _ hy h h1) ?_;rintro I0 av v2 k2 le - ⟨v0,rfl,rfl,h2⟩ -;have H:=H.trans le;obtain⟨p3,c2,rfl⟩:=h2.form;exact yM [] H ⟨_,_,rfl,rfl,h2⟩
  ·intro I1 hf aa;refine yP [5] rfl ?_;have H:=iS I1;have ⟨h,h1⟩:=m2 aa h h1;refine xF (gI p _ ay h h1) ?_;rintro aT av v2 k2 aa - ⟨v01,rfl,rfl,h3⟩ -;have H:=H.trans aa;obtain⟨p4,c3,rfl⟩:=h3.form;exact yM [] H ⟨_,_,rfl,rfl,h3⟩
  ·rintro I1 hf aa _ _ ⟨p4,c3,rfl,rfl,h3⟩;exact yP [6] rfl<|tD 5 [(7,vI (y1.length:Int))]<|yR iR
  rintro I1 hf aa _ _ ⟨p3,c2,rfl,rfl,h2⟩;refine yP [4,7] rfl ?_;have H:=iS I1;refine xF (zI6 y (y1.length:Int) _ aF h2) ?_;rintro aP av v2 k2 aD - ⟨v02,rfl,rfl,h4⟩ -;have H:=H.trans aD;obtain⟨p5,c4,rfl⟩:=h4.form;exact yM [] H ⟨_,_,rfl,rfl,h4⟩
 rintro bx aH _ _ ⟨p5,c4,rfl,rfl,h4⟩;refine yP [8] rfl ?_;refine yK [] [2] rfl<|zG<|yX ?_;exact xU N (resT rfl) zM ⟨_,rfl,rfl,h4⟩
def zAU(p:Option Addr)(c:Nat)(s r:List Int):KT:=λkk I' ag v=>
 ∃cs',ag=[hO Int (vS p r c) cs']/\v=tupV []/\r.length=s.length/\RL I' cs' r
def wJ(x:List Int)(f0:Int->Int->Option Int):Option (List Int):=if x.length<2305843009213693952/\∀a∈x,∀b∈x,(f0 a b).isSome=true then some (srS x f0) else none
theorem zA2:∀x f0 r,wJ x f0=some r->∀{I:Imm}{p c cs}{h}{cap:List Value},RL I cs x->FV2 Tryz.prog I [] (.func (.func h) ⟨[]⟩ ⟨cap⟩) f0->RT 19 [vS p x c,.func (.func h) ⟨[]⟩ ⟨cap⟩] I [hO Int (vS p x c) cs] (zAU p c x r):=by
 intro x f0 r N I p c cs h cap hR hF;unfold wJ at N;split at N
 ·rename_i hb;cases N
  have eg:∀args w,(callFunc h args).run Tryz.prog w=.ok (.enter h args) w:=by
   obtain⟨f1,first,cap1,e1,hca,_⟩:=hF;injection e1 with e1 _ _;injection e1 with e1;subst e1;exact λargs w=>zBI hca
  exact zMK (λblk off c d w h1 h2 h3=>zPT _ h ⟨cap⟩ (cfN f0) blk off c d.size d w eg h1 h2 rfl h3 d w rfl (SW.start h2.hH)) (λp c w=>zOR p c _ w) hb.1 hF hb.2 hR λk cs' h'=>⟨cs',rfl,rfl,zEl _ _,h'⟩
 cases N
def wP(a0:Int)(b:Int)(x:(List Int)):Option (Int):=do
 let x1<-idx x a0;let x2<-idx x b;pure (W (x1 - x2))
theorem zD6:∀a0 b x r,wP a0 b x=some r->∀{I:Imm}{ad:Addr}{p c},(S4 I p x c)->(At I ad [vS p x c])->RT 20 [vI a0,vI b,.pointer (some ad)] I [] (yJ  r):=by
 intro a0 b x r N I ad p c h ap;unfold wP at N;refine yL func20 λB=>wL []<|zZ<|mV (by kernel_rfl) (by kernel_rfl)<|gT 0 ap [vS p x c] (vS p x c) rfl<|eX 2 [] [7] rfl<|bE N λx1 hy N=>dZ rfl rfl h hy ?_;intro ad1 aN ar ak;obtain rfl:=ak;refine gT 0 ar [vI x1] (vI x1) rfl<|gT 0 ap [vS p x c] (vS p x c) rfl<|eX 6 [] [11] rfl<|bE N λx2 ay N=>dZ rfl rfl h ay ?_;intro ad2 bm aS au;obtain rfl:=au;refine gT 0 aS [vI x2] (vI x2) rfl<|zGl [] [5] rfl<|zG<|yX ?_;obtain rfl:=zD N;exact wC
def tY(y:(List Int))(out:List Int)(t10:Int):Option (List Int):=do
 if(decide (t10<(y.length:Int))) then
  let aq<-app 8 out ([t10]:List Int);tY y aq (W (t10+1))
 else pure (id out)
 partial_fixpoint
theorem zDK(y:(List Int)):∀(out:List Int) (t10:Int) (o:List Int),tY y out t10=some o->∀{B}{I0 I:Imm}{Q p3 c2}{b1}{p4 c3 cs},I0.le I->(S4 I p3 y c2)->(RL I cs out)->NG Q->NO Q->(∀I' aj p5 c4 az,o=aj->I0.le I'->(RL I' az aj)->T 22 B Q (.exit 0) I' [hO Int (vS p5 aj c4) az,hB b1 [vS p3 y c2]] [(3,vP b1 0),(4,vS p5 aj c4)])->J Tryz.prog 22 B (nav (bodyOf f6) [1,1,1,0,1,0]) Q I [hO Int (vS p4 out c3) cs,hB b1 [vS p3 y c2]] [(3,vP b1 0),(4,vS p4 out c3),(9,vI (y.length:Int)),(10,vI t10)]:=by
 refine tY.partial_correctness y _ λaI ih out t10 o N B I0 I Q p3 c2 b1 p4 c3 cs H h2 h4 hg ho hx=>yV hg ho<|yH [11] rfl<|zZ<|yE N ?_ ?_
 ·intro hc N;refine zT<|zZ<|yI<|yH [5] rfl<|zG<|zJ<|yG 2 [] [13,14] rfl<|uP [vI t10] Int ?_;intro b2 hb2;have h6:RL I [vI t10] ([t10]:List Int):=rI [t10];obtain⟨aq,ay,N⟩:=zB N;exact qA 3 1 1 rfl rfl rfl h4 (.inr ⟨0,rfl⟩) h6 ay λp6 c5 aM h7=>tX (zY [1,2] (ag:=[hO Int (vS p6 aq c5) aM,hB b1 [vS p3 y c2]]))<|yK [] [4] rfl<|zL<|zG<|zJ<|yK [] [10] rfl<|yU<|nD<|ih aq (W (t10+1)) _ N H h2 h7 hg ho hx
 intro hc N;exact wM<|yS<|hx _ _ _ _ _ (zD N).symm H h4
def jW(p:zC):Option ((List Int)):=do
 let y<-fY p;let aj<-tY y ([]:List Int) 0;let y1<-wJ aj (λx0 x1=>wP x0 x1 y);pure (id y1)
theorem zEr:∀p r,jW p=some r->∀{I:Imm}{p1 c p2 c1},(S4 I p1 p.Arrays c)->(S4 I p2 p.Parts c1)->RT 6 [vA (cProg p p1 c p2 c1)] I [] (nI  r):=by
 intro p r N I p1 c p2 c1 h h1;unfold jW at N;refine yL func6 λB=>yF<|vK (cProg p p1 c p2 c1) ?_;intro b hb;refine wB [] []<|yW<|sW 1 [0] [(6,vA (cProg p p1 c p2 c1))]<|bE N λy hy N=>xF (zGq p _ hy h h1) ?_;rintro I0 av v2 k2 le - ⟨v0,rfl,rfl,h2⟩ -;have h:=h.mono le;obtain⟨p3,c2,rfl⟩:=h2.form;refine wI [z0] ?_;intro b1 hb1;refine xI 0 [vS p3 y c2] rfl<|yA rfl<|zEP [(4,z0)]<|zZ<|yF<|yK [0] [9,10] rfl<|xY<|jS (zY [0] (ag:=[hB b1 [vS p3 y c2]]))<|pE [(3,vP b1 0),(4,z0),(9,vI (y.length:Int)),(10,vI 0)]<|zAm Int λh3=>?_;obtain⟨o0,aA,aG⟩:=zB N;refine zDK y ([]:List Int) 0 o0 aA iR h2 h3 nG nO ?_;intro aT aj p5 c4 az heq aa h5;subst o0;have h2:=h2.mono aa;refine zS<|yW<|yG 2 [] [18,19] rfl<|xM 1 rfl ?_;intro aP aD hl0;have ap:At aP ⟨b1,0,none⟩ [vS p3 y c2]:=At.of_blk hl0;have ⟨h5,h2⟩:=m2 aD h5 h2;have hf0:FV2 Tryz.prog aP [] (.func (.func 20) ⟨[]⟩ ⟨[vP b1 0]⟩) (λx0 x1=>wP x0 x1 y):=by
  refine FV2.intro ?_;intro I1 aa x0 x1 r u0 u1 hF k0 k1;obtain rfl:=k0;obtain rfl:=k1;exact(zD6 x0 x1 y r hF (h2.mono aa) (ap.mono aa)).mono (by rintro k i hs u ⟨v0,rfl,rfl,h⟩;exact⟨rfl,h⟩)
 obtain⟨y1,aF,N⟩:=zB aG;refine sG (zA2 aj (λx0 x1=>wP x0 x1 y) _ aF h5 hf0) rfl ?_;rintro bx av v2 k2 aH - ⟨aU,rfl,rfl,hl01,h8⟩ -;rw[vE hl01];refine yA rfl<|wV [2] rfl<|xD<|yZ 0 rfl ?_;intro bI bf hl02;have h9:=SL.of_frozen hl02 bf h8;exact xU N (resT rfl) zM ⟨_,rfl,rfl,h9⟩
def nM(a0:(List Int))(b:(List Int))(i:Int):Option (Out Unit (Bool)):=do
 if(decide (i<(a0.length:Int))) then
  let x<-idx a0 i;let x1<-idx b i;if(x != x1) then pure (.ret false)
  else nM a0 b (W (i+1))
 else pure (.done ())
 partial_fixpoint
theorem zFc(a0:(List Int))(b:(List Int)):∀(i:Int) (o:Out Unit (Bool)),nM a0 b i=some o->∀{B}{I0 I:Imm}{Q p c p1 c1},I0.le I->(S4 I p a0 c)->(S4 I p1 b c1)->NG Q->NO Q->(∀I',o=(.done ())->I0.le I'->T 26 B Q (.exit 0) I' [] [])->(∀r I' ag m',o=(.ret r)->I0.le I'->RS Tryz.prog f7 B (zU  r) I' ag m'->T 26 B Q .ret I' ag m')->J Tryz.prog 26 B (nav (bodyOf f7) [1,1,0,1,0]) Q I [] [(0,vS p a0 c),(1,vS p1 b c1),(5,vI i)]:=by
 refine nM.partial_correctness a0 b _ λaI ih i o N B I0 I Q p c p1 c1 H h h1 hg ho hx hr=>yV hg ho<|yB<|yH [14] rfl<|zG<|yE N ?_ ?_
 ·intro aE N;refine zT<|zZ<|yI<|yB<|mV (by kernel_rfl) (by kernel_rfl)<|eX 2 [] [17,18] rfl<|bE N λx hy N=>dZ rfl rfl h hy ?_;intro ad aN ap ak;obtain rfl:=ak;refine gT 0 ap [vI x] (vI x) rfl<|eX 6 [] [21,22] rfl<|bE N λx1 ay N=>dZ rfl rfl h1 ay ?_;intro ad1 bm ar au;obtain rfl:=au;refine gT 0 ar [vI x1] (vI x1) rfl<|zGl [] [25] rfl<|zG<|yE N ?_ ?_
  ·intro aV N;exact wL [(4,vF)]<|xD<|zW<|zH<|zH<|hr _ _ _ _ (zD N).symm H ⟨_,_,(resT rfl),zM,⟨_,rfl,rfl,rfl⟩⟩
  intro aV N;exact zT<|zL<|zG<|zJ<|yK [] [5] rfl<|yU<|nD<|ih (W (i+1)) _ N H h h1 hg ho hx hr
 intro aE N;exact wM<|yS<|hx _  (zD N).symm H
def eE(a0:(List Int))(b:(List Int)):Option (Bool):=do
 if((a0.length:Int) != (b.length:Int)) then pure false
 else
  match<-nM a0 b 0 with
  | .ret r0=>pure r0
  | .done _=>
   pure true
theorem zD7:∀a0 b r,eE a0 b=some r->∀{I:Imm}{p c p1 c1},(S4 I p a0 c)->(S4 I p1 b c1)->RT 7 [vS p a0 c,vS p1 b c1] I [] (zU  r):=by
 intro a0 b r N I p c p1 c1 h h1;unfold eE at N;refine yL func7 λB=>wL []<|zZ<|yH [10] rfl<|zG<|yE N ?_ ?_
 ·intro hc N;refine wL [(4,vF)]<|xD<|zH ?_;obtain rfl:=zD N;exact wC
 intro hc N;refine zT<|zZ<|yH [5] rfl<|xY<|pE [(0,vS p a0 c),(1,vS p1 b c1),(5,vI 0)] ?_;obtain⟨o0,aA,aG⟩:=zB N;refine zFc a0 b 0 o0 aA iR h h1 nG nO ?_ ?_
 ·intro I0  heq le;subst o0;refine zS<|zEP [(4,vY)]<|zG<|yX ?_;obtain rfl:=zD aG;exact wC
 intro r0 I9 hs9 m9 aW le9 aY;subst aW;refine zW<|zH ?_;obtain rfl:=zD aG;exact fO aY
def kH(p:zC):Option (Bool):=do
 let (y1,y2)<-uC p;pure (id y2)
theorem zD8:∀p r,kH p=some r->∀{I:Imm}{p1 c p2 c1},(S4 I p1 p.Arrays c)->(S4 I p2 p.Parts c1)->RT 9 [vA (cProg p p1 c p2 c1)] I [] (zU  r):=by
 intro p r N I p1 c p2 c1 h h1;unfold kH at N;refine yL func9 λB=>yF<|vK (cProg p p1 c p2 c1) ?_;intro b hb;refine wB [] []<|yW<|sW 1 [0] [(6,vA (cProg p p1 c p2 c1))] ?_;obtain⟨⟨y1,y2⟩,hy,N⟩:=zB N;refine xF (nC p _ hy h h1) ?_;rintro I0 av v2 k2 le - ⟨v0,v01,rfl,rfl,h2,rfl⟩ -;obtain⟨p3,c2,rfl⟩:=h2.form;refine yK [] [4] rfl<|wV [2] rfl<|zG<|yX ?_;obtain rfl:=zD N;exact wC
def zFd(r:zO):KT:=λkk I' ag v=>
 ∃b_0 a0_0 c0_0,ag=[.blk b_0 ⟨[.slice a0_0 r.b.length c0_0,.int .i64 r.p]⟩]/\v=tupV [(.pointer (some ⟨b_0,0,none⟩))]/\SL I' (.slice a0_0 r.b.length c0_0) r.b
def fE(code:(List UInt8)):Option (zO):=do
 let code1<-(do
  if(decide ((code.length:Int)>2000)) then
   let l<-slc code 0 2000;pure (id l)
  else
   pure (id code)
    : Option (List UInt8))
 pure (zO.mk code1 0)
theorem zDA:∀code r,fE code=some r->∀{I:Imm}{p c},(S4 I p code c)->RT 39 [vS p code c] I [] (zFd  r):=by
 intro code r N I p c h;unfold fE at N;refine yL func39 λB=>?_;have H:=iS I;refine wL []<|zZ<|yH [5] rfl<|zG ?_;obtain⟨o0,aA,aQ⟩:=zB N;refine qQ (λI' ag m'=>∃(code1:List UInt8) (p1:Option Addr) (c1:Nat),o0=code1/\I.le I'/\(S4 I' p1 code1 c1)/\ag=[]/\m'=[(0,vS p1 code1 c1)]) ?_ ?_
 ·have H:=iS I;refine yE aA ?_ ?_
  ·intro hc N;refine zJ<|yG 1 [] [6] rfl<|bE N λl hy N=>zQo rfl h hy ?_;intro v0 h2;obtain⟨p2,c2,rfl⟩:=h2.form;exact yK [] [0] rfl<|yS<|zV ⟨_,_,_,(zD N).symm,H,h2,rfl,rfl⟩
  intro hc N;exact zT<|yS<|zV ⟨_,_,_,(zD N).symm,H,h,rfl,rfl⟩
 rintro I0 av m2 ⟨code1,p1,c1,heq,le,h1,rfl,rfl⟩;subst o0;refine yW<|yG 2 [] [9] rfl<|vK [vS p1 code1 c1,vI 0] ?_;intro b hb;refine yK [] [2] rfl<|zG<|yX ?_;exact xU aQ (resT rfl) (zX [0] rfl (by decide)) ⟨_,_,_,rfl,rfl,h1⟩
def zD9(b0:Nat)(r:Int×zO):KT:=λkk I' ag v=>
 ∃v0 k0,ag=[.blk b0 ⟨k0⟩]/\v=tupV [v0]/\v0=.int .i64 r.1/\Rp.rep I' k0 r.2
def xC(r0:zO)(n0:Int):Option (Int×zO):=do
 let t24<-(do
  if(decide (n0<1)) then pure true
  else
   pure ((r0.b.length:Int)==0)
    : Option Bool)
 if t24 then pure (0,(zO.mk r0.b (W (r0.p+1))))
 else
  if(decide ((W ((W (r0.p+1)) - 1))<(r0.b.length:Int))) then
   let x<-idx r0.b (W ((W (r0.p+1)) - 1));let q<-rem (W (x.toNat:Int)) n0;pure (q,(zO.mk r0.b (W (r0.p+1))))
  else
   let q1<-rem (W ((W (r0.p+1)) - 1)) (r0.b.length:Int);let x1<-idx r0.b q1;let q2<-rem (W ((W ((W ((W (r0.p+1)) - 1))*7))+3)) (r0.b.length:Int);let x2<-idx r0.b q2;let q3<-quo (W ((W (r0.p+1)) - 1)) (r0.b.length:Int);let q4<-rem (W (BitVec.ofInt IntKind.i64.bits (W ((W ((W ((W ((W (x1.toNat:Int))*131))+(W ((W (x2.toNat:Int))*1117))))+(W ((W ((W (r0.p+1)) - 1))*29))))+(W (q3*53)))) ^^^ BitVec.ofInt IntKind.i64.bits (W ((W ((W ((W ((W ((W (x1.toNat:Int))*131))+(W ((W (x2.toNat:Int))*1117))))+(W ((W ((W (r0.p+1)) - 1))*29))))+(W (q3*53)))).tdiv 64))).toNat) n0;pure (q4,(zO.mk r0.b (W (r0.p+1))))
theorem xV:∀r0 n0 r,xC r0 n0=some r->∀{I:Imm}{aw}{p c},(S4 I p r0.b c)->RT 72 [vP aw 0,vI n0] I [hB aw (cRd r0 p c)] (zD9 aw r):=by
 intro r0 n0 r N I aw p c h;unfold xC at N;refine yL func72 λB=>?_;have H:=iS I;refine wL []<|yW<|yG 8 [0] [12,14] rfl<|xI 0 [vS p r0.b c,vI (W (r0.p+1))] rfl<|yA rfl<|zZ<|yB ?_;refine wK N [hB aw [vS p r0.b c,vI (W (r0.p+1))]] (λt24=>[(0,vP aw 0),(1,vI n0),(24,.bool t24)]) (λo0 aA=>?_) ?_
 ·have H:=iS I;refine zJ<|yG 3 [] [17] rfl<|xZ [17] aA ?_ ?_
  ·intro hc N;exact wB [] [(24,vY)]<|yS<|zV (ct N H)
  intro hc N;exact yK [0] [24] rfl<|yS<|zV (ct N H)
 intro t24 I0 le aQ;have h:=h.mono le;refine zG<|yE aQ ?_ ?_
 ·intro aE N;refine yH [4] rfl<|xD<|zH ?_;exact xU N (resT rfl) (zX [0] rfl (by decide)) ⟨_,_,rfl,rfl,rfl,(yY ⟨_,rfl,h⟩)⟩
 intro aE N;refine zT<|yW<|yK [0] [5] rfl<|zZ<|yF<|yK [0] [36] rfl<|zG<|yE N ?_ ?_
 ·intro aV N;refine yF<|yG 5 [0] [40,41] rfl<|bE N λx hy N=>xK rfl rfl h hy ?_;intro ad aN ap ak;obtain rfl:=ak;refine xA 0 ap [.int .u8 (x.toNat:Int)] (.int .u8 (x.toNat:Int)) rfl<|yG 9 [] [44,45] rfl<|bE N λq ay N=>zNL rfl ay<|yK [] [4] rfl<|xD<|zH ?_;exact xU N (resT rfl) (zX [0] rfl (by decide)) ⟨_,_,rfl,rfl,rfl,(yY ⟨_,rfl,h⟩)⟩
 intro aV N;refine zT<|zZ<|mV (by kernel_rfl) (by kernel_rfl)<|eX 10 [0,0] [50,51,56] rfl<|bE N λq1 aF N=>zPr rfl aF<|bE N λx1 aX N=>dZ rfl rfl h aX ?_;intro ad1 bm ar au;obtain rfl:=au;refine gT 0 ar [.int .u8 (x1.toNat:Int)] (.int .u8 (x1.toNat:Int)) rfl<|eX 27 [0,0] [61,65,68,73] rfl<|bE N λq2 bk N=>zPr rfl bk<|bE N λx2 bC N=>dZ rfl rfl h bC ?_;intro ad2 bO aS aZ;obtain rfl:=aZ;refine gT 0 aS [.int .u8 (x2.toNat:Int)] (.int .u8 (x2.toNat:Int)) rfl<|eX 42 [0] [82,83,88] rfl<|bE N λq3 hy6 N=>zQp rfl hy6<|zGl [] [6] rfl<|wV [6] rfl<|yW<|yG 2 [] [96,97] rfl<|bE N λq4 hy7 N=>zNL rfl hy7<|yK [] [4] rfl<|zG<|yX ?_;exact xU N (resT rfl) (zX [0] rfl (by decide)) ⟨_,_,rfl,rfl,rfl,(yY ⟨_,rfl,h⟩)⟩
def zES(b0:Nat)(r:Int×zO):KT:=λkk I' ag v=>
 ∃v0 k0,ag=[.blk b0 ⟨k0⟩]/\v=tupV [v0]/\v0=.int .i64 r.1/\Rp.rep I' k0 r.2
def xB(r0:zO)(list:(List Int)):Option (Int×zO):=do
 let (y1,y2)<-xC r0 (list.length:Int);let x<-idx list y1;pure (x,y2)
theorem xJ:∀r0 list r,xB r0 list=some r->∀{I:Imm}{aw}{p c p1 c1},(S4 I p r0.b c)->(S4 I p1 list c1)->RT 59 [vP aw 0,vS p1 list c1] I [hB aw (cRd r0 p c)] (zES aw r):=by
 intro r0 list r N I aw p c p1 c1 h h1;unfold xB at N;refine yL func59 λB=>wL []<|yW<|yG 4 [] [5,6,8] rfl ?_;obtain⟨⟨y1,y2⟩,hy,N⟩:=zB N;refine sG (xV r0 (list.length:Int) _ hy h) rfl ?_;rintro I0 av v2 k2 le - ⟨v0,kk,rfl,rfl,rfl,h3⟩ -;have h1:=h1.mono le;obtain⟨p2,c2,rfl,h4⟩:=yD h3;obtain⟨x,ay,N⟩:=zB N;refine xK rfl rfl h1 ay ?_;intro ad aN ap ak;obtain rfl:=ak;refine xA 0 ap [vI x] (vI x) rfl<|yK [] [4] rfl<|zG<|yX ?_;exact xU N (resT rfl) (zX [0] rfl (by decide)) ⟨_,_,rfl,rfl,rfl,(yY ⟨_,rfl,h4⟩)⟩
def zGr(r:(List zE)):KT:=λkk I' ag v=>
 ∃v0,ag=[]/\v=tupV [v0]/\SL I' v0 r
def rR(nest:(List zE))(i:Int)(k0:Int)(Lo:List zA):Option (List zA):=do
 let x<-idx nest i;if(decide (k0<(x.Lo.length:Int))) then
  let x1<-idx nest i;let x2<-idx x1.Lo k0;let l<-app 8 ([]:List Int) x2.Coefs;let l1<-app 32 Lo ([(zA.mk l x2.Const)]:List zA);rR nest i (W (k0+1)) l1
 else pure (id Lo)
 partial_fixpoint
theorem zBg(nest:(List zE))(i:Int):∀(k0:Int) (Lo:List zA) (o:List zA),rR nest i k0 Lo=some o->∀{B}{I0 I:Imm}{Q}{τ:Type} [Rp τ] {out:List τ}{p c p1 c1 cs}{b1}{p3 c3 aM},I0.le I->(S4 I p nest c)->(RL I cs out)->(RL I aM Lo)->NG Q->NO Q->(∀I' Lo1 p4 c4 aU,o=Lo1->I0.le I'->(RL I' aU Lo1)->T 83 B Q (.exit 2) I' [hO zA (vS p4 Lo1 c4) aU,hB b1 [vS p4 Lo1 c4,z0],hO τ (vS p1 out c1) cs] [(0,vS p nest c),(3,vS p1 out c1),(4,vI i),(5,vP b1 0)])->J Tryz.prog 83 B (nav (bodyOf f107) [1,1,0,1,0,0,1,0,0,1,0,1,0]) Q I [hO zA (vS p3 Lo c3) aM,hB b1 [vS p3 Lo c3,z0],hO τ (vS p1 out c1) cs] [(0,vS p nest c),(3,vS p1 out c1),(4,vI i),(5,vP b1 0),(6,vI k0)]:=by
 refine rR.partial_correctness nest i _ λaI ih k0 Lo o N B I0 I Q τ _ out p c p1 c1 cs b1 p3 c3 aM H h h2 h5 hg ho hx=>yV hg ho<|yB<|yF<|yG 3 [] [18,19,20] rfl<|bE N λx hy N=>xK rfl rfl h hy ?_;intro ad aN ap ak;obtain⟨p5,c5,p6,c6,rfl,h7,h8⟩:=sX ak;refine yG 5 [] [22] rfl<|xA 0 ap [vS p5 x.Lo c5] (vS p5 x.Lo c5) rfl<|yK [] [25] rfl<|zG<|yE N ?_ ?_
 ·intro aE N;refine zT<|zZ<|yI<|yF<|yG 2 [] [28,29] rfl<|bE N λx1 ay N=>xK rfl rfl h ay ?_;intro ad1 bm ar au;obtain⟨p7,c7,p8,c8,rfl,h9,h10⟩:=sX au;refine yG 4 [] [31] rfl<|xA 0 ar [vS p7 x1.Lo c7] (vS p7 x1.Lo c7) rfl<|yG 6 [] [33] rfl<|bE N λx2 aF N=>xK rfl rfl h9 aF ?_;intro ad2 bO aS aZ;obtain⟨p9,c9,rfl,h11⟩:=yQ aZ;refine xA 0 aS (cAff x2 p9 c9) (vA (cAff x2 p9 c9)) rfl<|wI [z0,vI 0] ?_;intro b2 hb2;refine xI 0 (cAff x2 p9 c9) rfl<|yA rfl<|zG ?_;obtain⟨l,aX,N⟩:=zB N;obtain⟨l1,bk,N⟩:=zB N;refine wA [.p (vP b1 0) [],.p (vS p3 Lo c3) [1],.x (λI' v hx=>∃b3,v=vS (some ⟨b3,0,none⟩) ([]:List Int) 0/\hx=[hO Int (vS (some ⟨b3,0,none⟩) ([]:List Int) 0) []]/\(RL I' [] ([]:List Int))),.p (vP b2 0) [],.p (vS p9 x2.Coefs c9) [0],.x (λI' v hx=>∃bb bd bv,v=vS bb l bd/\hx=[hO Int (vS bb l bd) bv]/\(RL I' bv l)),.p (vP b2 1) [],.p (vI x2.Const) [0],.x (λI' v hx=>∃p101 c101 cs41,v=vA [vS p101 l c101,vI x2.Const]/\hx=[hO Int (vS p101 l c101) cs41]/\(RL I' cs41 l)),.x (λI' v hx=>∃b4,v=vS (some ⟨b4,0,none⟩) ([(zA.mk l x2.Const)]:List zA) 1/\hx=[]/\(SL I' (vS (some ⟨b4,0,none⟩) ([(zA.mk l x2.Const)]:List zA) 1) ([(zA.mk l x2.Const)]:List zA))),.x (λI' v hx=>∃aR bh bH,v=vS aR l1 bh/\hx=[hO zA (vS aR l1 bh) bH]/\(RL I' bH l1))] [[],[(0,false)],[],[],[(3,false)],[(2,true),(4,false)],[],[(6,false)],[(5,true),(7,false)],[(8,true)],[(1,false),(9,false),(13,true)]] [hB b2 (cAff x2 p9 c9),hB b1 [vS p3 Lo c3,z0],hO τ (vS p1 out c1) cs] [[hO zA (vS p3 Lo c3) aM]] [(10,true)] (zY [0,2,3,1]) ?_ ?_
  ·refine O2<|Ox ?_<|O2<|Ox ?_<|O2<|Ox ?_<|Ox ?_<|Ox ?_<|On
   ·intro I1 hf aa;refine eN []<|uP [] Int ?_;intro b3 hb3;have h12:RL I1 [] ([]:List Int):=rfl;exact yM [hO Int (vS (some ⟨b3,0,none⟩) ([]:List Int) 0) []] iR ⟨_,rfl,rfl,h12⟩
   ·rintro I1 hf aa _ _ ⟨b3,rfl,rfl,h12⟩;refine yP [38,40] rfl ?_;have h11:=h11.mono aa;obtain⟨ccs3,k01,k02⟩:=h11;have h11:SL I1 (vS p9 x2.Coefs c9) x2.Coefs:=⟨_,k01,k02⟩;exact qA 3 1 0 rfl rfl rfl h12 (.inl k01) k02 aX λbb bd bv h13=>uD (ag:=(hO Int (vS bb l bd) bv::hB b2 (cAff x2 p9 c9)::hB b1 [vS p3 Lo c3,z0]::hO τ (vS p1 out c1) cs::hf)) rfl<|yM [hO Int (vS bb l bd) bv] iR ⟨_,_,_,rfl,rfl,h13⟩
   ·rintro I1 hf aa _ _ ⟨bb,bd,bv,rfl,rfl,h13⟩;exact yP [41,43] rfl<|tD 9 [(44,vA [vS bb l bd,vI x2.Const])]<|yM [hO Int (vS bb l bd) bv] iR ⟨_,_,_,rfl,rfl,h13⟩
   ·rintro I1 hf aa _ _ ⟨p101,c101,cs41,rfl,rfl,h131⟩;refine yP [44] rfl ?_;have H:=iS I1;refine xM 0 rfl ?_;intro I0 le hl0;have h14:=SL.of_frozen hl0 le h131;have H:=H.trans le;refine kM (rc (zA.mk l x2.Const) (yT ⟨_,rfl,h14⟩) rN) ?_;intro b4 aT aa h16;have H:=H.trans aa;exact yM [] H ⟨_,rfl,rfl,h16⟩
   rintro I1 hf aa _ _ ⟨rfl,rfl⟩ _ _ ⟨b4,rfl,rfl,h16⟩ _ _ rfl;refine yP [37,45] rfl ?_;have h5:=iM aa h5;obtain⟨ccs4,k03,k04⟩:=h16;have h16:SL I1 (vS (some ⟨b4,0,none⟩) ([(zA.mk l x2.Const)]:List zA) 1) ([(zA.mk l x2.Const)]:List zA):=⟨_,k03,k04⟩;exact qA 78 2 0 rfl rfl rfl h5 (.inl k03) k04 bk λaR bh bH h17=>uD (ag:=(hO zA (vS aR l1 bh) bH::hB b2 (cAff x2 p9 c9)::hB b1 [vS p3 Lo c3,z0]::hO τ (vS p1 out c1) cs::hf)) rfl<|yM [hO zA (vS aR l1 bh) bH] iR ⟨_,_,_,rfl,rfl,h17⟩
  rintro aP aD _ _ ⟨aR,bh,bH,rfl,rfl,h17⟩;refine yP [0,3,4,5,6,46] rfl ?_;have ⟨h,h2,H⟩:=m3 aD h h2 H;exact yG 12 [] [47] rfl<|xI 2 [vS aR l1 bh,z0] rfl<|yA rfl<|zL<|zG<|zJ<|yK [] [6] rfl<|yU<|jS (zX [0,2,3] rfl (by decide))<|nD<|ih (W (k0+1)) l1 _ N H h h2 h17 hg ho hx
 intro aE N;exact wM<|yS<|hx _ _ _ _ _ (zD N).symm H h5
def rS(nest:(List zE))(i:Int)(k05:Int)(Hi:List zA):Option (List zA):=do
 let x3<-idx nest i;if(decide (k05<(x3.Hi.length:Int))) then
  let x4<-idx nest i;let x5<-idx x4.Hi k05;let l2<-app 8 ([]:List Int) x5.Coefs;let l3<-app 32 Hi ([(zA.mk l2 x5.Const)]:List zA);rS nest i (W (k05+1)) l3
 else pure (id Hi)
 partial_fixpoint
theorem zBh(nest:(List zE))(i:Int):∀(k05:Int) (Hi:List zA) (o:List zA),rS nest i k05 Hi=some o->∀{B}{I0 I:Imm}{Q}{τ:Type} [Rp τ] {out:List τ}{Lo1:List zA}{p c p1 c1 cs}{b1}{p4 c4 aU bz bo cs6},I0.le I->(S4 I p nest c)->(RL I cs out)->(RL I aU Lo1)->(RL I cs6 Hi)->NG Q->NO Q->(∀I' Hi1 bj bw cs7,o=Hi1->I0.le I'->(RL I' cs7 Hi1)->T 83 B Q (.exit 4) I' [hO zA (vS bj Hi1 bw) cs7,hO zA (vS p4 Lo1 c4) aU,hB b1 [vS p4 Lo1 c4,vS bj Hi1 bw],hO τ (vS p1 out c1) cs] [(0,vS p nest c),(3,vS p1 out c1),(4,vI i),(5,vP b1 0)])->J Tryz.prog 83 B (nav (bodyOf f107) [1,1,0,1,0,0,1,0,0,1,1,0,1,0]) Q I [hO zA (vS bz Hi bo) cs6,hO zA (vS p4 Lo1 c4) aU,hB b1 [vS p4 Lo1 c4,vS bz Hi bo],hO τ (vS p1 out c1) cs] [(0,vS p nest c),(3,vS p1 out c1),(4,vI i),(5,vP b1 0),(8,vI k05)]:=by
 refine rS.partial_correctness nest i _ λaI ih k05 Hi o N B I0 I Q τ _ out Lo1 p c p1 c1 cs b1 p4 c4 aU bz bo cs6 H h h2 h6 h19 hg ho hx=>yV hg ho<|yB<|yF<|yG 3 [] [48,49,50] rfl<|bE N λx3 bC N=>xK rfl rfl h bC ?_;intro ad3 ccs5 hat3 bB;obtain⟨p14,c14,p15,c15,rfl,h21,h22⟩:=sX bB;refine yG 5 [] [52] rfl<|xA 1 hat3 [vS p15 x3.Hi c15] (vS p15 x3.Hi c15) rfl<|yK [] [55] rfl<|zG<|yE N ?_ ?_
 ·intro aV N;refine zT<|zZ<|yI<|yF<|yG 2 [] [58,59] rfl<|bE N λx4 hy6 N=>xK rfl rfl h hy6 ?_;intro ad4 ccs6 hat4 hrep4;obtain⟨p16,c16,p17,c17,rfl,h23,h24⟩:=sX hrep4;refine yG 4 [] [61] rfl<|xA 1 hat4 [vS p17 x4.Hi c17] (vS p17 x4.Hi c17) rfl<|yG 6 [] [63] rfl<|bE N λx5 hy7 N=>xK rfl rfl h24 hy7 ?_;intro ad5 ccs7 hat5 hrep5;obtain⟨p18,c18,rfl,h25⟩:=yQ hrep5;refine xA 0 hat5 (cAff x5 p18 c18) (vA (cAff x5 p18 c18)) rfl<|wI [z0,vI 0] ?_;intro b5 hb5;refine xI 0 (cAff x5 p18 c18) rfl<|yA rfl<|zG ?_;obtain⟨l2,hy8,N⟩:=zB N;obtain⟨l3,hy9,N⟩:=zB N;refine wA [.p (vP b1 1) [],.p (vS bz Hi bo) [2],.x (λI' v hx=>∃b6,v=vS (some ⟨b6,0,none⟩) ([]:List Int) 0/\hx=[hO Int (vS (some ⟨b6,0,none⟩) ([]:List Int) 0) []]/\(RL I' [] ([]:List Int))),.p (vP b5 0) [],.p (vS p18 x5.Coefs c18) [0],.x (λI' v hx=>∃p19 c19 cs8,v=vS p19 l2 c19/\hx=[hO Int (vS p19 l2 c19) cs8]/\(RL I' cs8 l2)),.p (vP b5 1) [],.p (vI x5.Const) [0],.x (λI' v hx=>∃p191 c191 cs81,v=vA [vS p191 l2 c191,vI x5.Const]/\hx=[hO Int (vS p191 l2 c191) cs81]/\(RL I' cs81 l2)),.x (λI' v hx=>∃b7,v=vS (some ⟨b7,0,none⟩) ([(zA.mk l2 x5.Const)]:List zA) 1/\hx=[]/\(SL I' (vS (some ⟨b7,0,none⟩) ([(zA.mk l2 x5.Const)]:List zA) 1) ([(zA.mk l2 x5.Const)]:List zA))),.x (λI' v hx=>∃p20 c20 cs9,v=vS p20 l3 c20/\hx=[hO zA (vS p20 l3 c20) cs9]/\(RL I' cs9 l3))] [[],[(0,false)],[],[],[(3,false)],[(2,true),(4,false)],[],[(6,false)],[(5,true),(7,false)],[(8,true)],[(1,false),(9,false),(13,true)]] [hB b5 (cAff x5 p18 c18),hO zA (vS p4 Lo1 c4) aU,hB b1 [vS p4 Lo1 c4,vS bz Hi bo],hO τ (vS p1 out c1) cs] [[hO zA (vS bz Hi bo) cs6]] [(10,true)] (zY [0,2,3,4,1]) ?_ ?_
  ·refine O2<|Ox ?_<|O2<|Ox ?_<|O2<|Ox ?_<|Ox ?_<|Ox ?_<|On
   ·intro I1 hf aa;refine eN []<|uP [] Int ?_;intro b6 hb6;have h26:RL I1 [] ([]:List Int):=rfl;exact yM [hO Int (vS (some ⟨b6,0,none⟩) ([]:List Int) 0) []] iR ⟨_,rfl,rfl,h26⟩
   ·rintro I1 hf aa _ _ ⟨b6,rfl,rfl,h26⟩;refine yP [68,70] rfl ?_;have h25:=h25.mono aa;obtain⟨ccs8,k06,k07⟩:=h25;have h25:SL I1 (vS p18 x5.Coefs c18) x5.Coefs:=⟨_,k06,k07⟩;exact qA 3 1 0 rfl rfl rfl h26 (.inl k06) k07 hy8 λp19 c19 cs8 h27=>uD (ag:=(hO Int (vS p19 l2 c19) cs8::hB b5 (cAff x5 p18 c18)::hO zA (vS p4 Lo1 c4) aU::hB b1 [vS p4 Lo1 c4,vS bz Hi bo]::hO τ (vS p1 out c1) cs::hf)) rfl<|yM [hO Int (vS p19 l2 c19) cs8] iR ⟨_,_,_,rfl,rfl,h27⟩
   ·rintro I1 hf aa _ _ ⟨p19,c19,cs8,rfl,rfl,h27⟩;exact yP [71,73] rfl<|tD 9 [(74,vA [vS p19 l2 c19,vI x5.Const])]<|yM [hO Int (vS p19 l2 c19) cs8] iR ⟨_,_,_,rfl,rfl,h27⟩
   ·rintro I1 hf aa _ _ ⟨p191,c191,cs81,rfl,rfl,h271⟩;refine yP [74] rfl ?_;have H:=iS I1;refine xM 0 rfl ?_;intro bI bf hl02;have h28:=SL.of_frozen hl02 bf h271;have H:=H.trans bf;refine kM (rc (zA.mk l2 x5.Const) (yT ⟨_,rfl,h28⟩) rN) ?_;intro b7 bL bu h30;have H:=H.trans bu;exact yM [] H ⟨_,rfl,rfl,h30⟩
   rintro I1 hf aa _ _ ⟨rfl,rfl⟩ _ _ ⟨b7,rfl,rfl,h30⟩ _ _ rfl;refine yP [67,75] rfl ?_;have h19:=iM aa h19;obtain⟨ccs9,k08,k09⟩:=h30;have h30:SL I1 (vS (some ⟨b7,0,none⟩) ([(zA.mk l2 x5.Const)]:List zA) 1) ([(zA.mk l2 x5.Const)]:List zA):=⟨_,k08,k09⟩;exact qA 78 2 0 rfl rfl rfl h19 (.inl k08) k09 hy9 λp20 c20 cs9 h31=>uD (ag:=(hO zA (vS p20 l3 c20) cs9::hB b5 (cAff x5 p18 c18)::hO zA (vS p4 Lo1 c4) aU::hB b1 [vS p4 Lo1 c4,vS bz Hi bo]::hO τ (vS p1 out c1) cs::hf)) rfl<|yM [hO zA (vS p20 l3 c20) cs9] iR ⟨_,_,_,rfl,rfl,h31⟩
  rintro I06 bG _ _ ⟨p20,c20,cs9,rfl,rfl,h31⟩;refine yP [0,3,4,5,8,76] rfl ?_;have ⟨h,h2,h6,H⟩:=m4 bG h h2 h6 H;exact yG 12 [] [77] rfl<|xI 3 [vS p4 Lo1 c4,vS p20 l3 c20] rfl<|yA rfl<|zL<|zG<|zJ<|yK [] [8] rfl<|yU<|jS (zX [0,2,3,4] rfl (by decide))<|nD<|ih (W (k05+1)) l3 _ N H h h2 h6 h31 hg ho hx
 intro aV N;exact wM<|yS<|hx _ _ _ _ _ (zD N).symm H h19
def tG(nest:(List zE))(out:List zE)(i:Int):Option (List zE):=do
 if(decide (i<(nest.length:Int))) then
  let Lo1<-rR nest i 0 ([]:List zA);let Hi1<-rS nest i 0 ([]:List zA);let aq<-app 48 out ([(zE.mk Lo1 Hi1)]:List zE);tG nest aq (W (i+1))
 else pure (id out)
 partial_fixpoint
theorem zFe(nest:(List zE)):∀(out:List zE) (i:Int) (o:List zE),tG nest out i=some o->∀{B}{I0 I:Imm}{Q p c p1 c1 cs},I0.le I->(S4 I p nest c)->(RL I cs out)->NG Q->NO Q->(∀I' aj p2 c2 az,o=aj->I0.le I'->(RL I' az aj)->T 83 B Q (.exit 0) I' [hO zE (vS p2 aj c2) az] [(3,vS p2 aj c2)])->J Tryz.prog 83 B (nav (bodyOf f107) [1,1,0,1,0]) Q I [hO zE (vS p1 out c1) cs] [(0,vS p nest c),(3,vS p1 out c1),(4,vI i)]:=by
 refine tG.partial_correctness nest _ λaI ih out i o N B I0 I Q p c p1 c1 cs H h h2 hg ho hx=>yV hg ho<|yB<|yH [14] rfl<|zG<|yE N ?_ ?_
 ·intro hc N;refine zT<|zZ<|yI<|yF<|yG 1 [] [17] rfl<|wI zTwo ?_;intro b1 hb1;refine zBu 0 zTwo [hB b1 zTwo,hO zE (vS p1 out c1) cs] rfl rfl rfl rfl<|yA rfl<|zZ<|yH [6] rfl<|xY<|pE [(0,vS p nest c),(3,vS p1 out c1),(4,vI i),(5,vP b1 0),(6,vI 0)]<|zAm zA λh4=>?_;obtain⟨o0,aA,aG⟩:=zB N;refine zBg nest i 0 ([]:List zA) o0 aA iR h h2 h4 (λ_ _ _ h=>hg _ _ _ h) (λ_ _ h=>ho _ _ h) ?_;intro bx Lo1 p4 c4 aU heq aH h6;subst o0;have ⟨h,h2,H⟩:=m3 aH h h2 H;refine zS<|zZ<|yH [8] rfl<|xY<|pE [(0,vS p nest c),(3,vS p1 out c1),(4,vI i),(5,vP b1 0),(8,vI 0)]<|zAm zA λh18=>?_;obtain⟨aO,aB,hMl1⟩:=zB aG;refine zBh nest i 0 ([]:List zA) aO aB iR h h2 h6 h18 (λ_ _ _ h=>hg _ _ _ h) (λ_ _ h=>ho _ _ h) ?_;intro I07 Hi1 bj bw cs7 heq1 le7 h20;subst aO;have ⟨h,h2,h6,H⟩:=m4 le7 h h2 h6 H;refine zS<|zG<|zJ<|sW 2 [2] [(78,vS p1 out c1),(79,vA [vS p4 Lo1 c4,vS bj Hi1 bw])]<|xM 1 rfl ?_;intro I08 le8 hl04;have h32:=SL.of_frozen hl04 le8 h6;have ⟨h,h2,h20,H⟩:=m4 le8 h h2 h20 H;refine xM 0 rfl ?_;intro I09 le9 hl05;have h33:=SL.of_frozen hl05 le9 h20;have ⟨h,h2,h32,H⟩:=m4 le9 h h2 h32 H;refine uP [vS p4 Lo1 c4,vS bj Hi1 bw] zE ?_;intro b8 hb8;have h34:RL I09 [vS p4 Lo1 c4,vS bj Hi1 bw] ([(zE.mk Lo1 Hi1)]:List zE):=⟨[vS p4 Lo1 c4,vS bj Hi1 bw],_,rfl,rfl,(qR ⟨_,_,rfl,h32,h33⟩),rfl⟩;obtain⟨aq,hy10,N⟩:=zB hMl1;exact qA 150 2 2 rfl rfl rfl h2 (.inr ⟨0,rfl⟩) h34 hy10 λp21 c21 cs10 h35=>tX (zY [1,2] (ag:=[hB b1 [vS p4 Lo1 c4,vS bj Hi1 bw],hO zE (vS p21 aq c21) cs10]))<|yK [] [3] rfl<|zL<|zG<|zJ<|yK [] [4] rfl<|yU<|jS (zX [1] rfl (by decide))<|nD<|ih aq (W (i+1)) _ N H h h35 hg ho hx
 intro hc N;exact wM<|yS<|hx _ _ _ _ _ (zD N).symm H h2
def kS(nest:(List zE)):Option ((List zE)):=do
 let aj<-tG nest ([]:List zE) 0;pure (id aj)
theorem zDa:∀nest r,kS nest=some r->∀{I:Imm}{p c},(S4 I p nest c)->RT 107 [vS p nest c] I [] (zGr  r):=by
 intro nest r N I p c h;unfold kS at N;refine yL func107 λB=>wL []<|yW<|uP [] zE ?_;intro b hb;have h1:RL I [] ([]:List zE):=rfl;refine yK [] [3] rfl<|zZ<|yH [4] rfl<|xY<|pE [(0,vS p nest c),(3,vS (some ⟨b,0,none⟩) ([]:List zE) 0),(4,vI 0)] ?_;obtain⟨o02,ho02,hMl2⟩:=zB N;refine zFe nest ([]:List zE) 0 o02 ho02 iR h h1 nG nO ?_;intro bP aj p2 c2 az heq2 le10 h3;subst o02;refine zS<|wV [2] rfl<|xD<|yZ 0 rfl ?_;intro bV le11 hl06;have h36:=SL.of_frozen hl06 le11 h3;exact xU hMl2 (resT rfl) zM ⟨_,rfl,rfl,h36⟩
def fV(r:zA):KT:=λkk I' ag v=>
 ∃v0,ag=[]/\v=tupV [v0]/\(∃cs,v0=.agg ⟨cs⟩/\Rp.rep I' cs r)
def sQ(a0:zA):Option (zA):=do
 if((a0.Coefs.length:Int)==0) then pure (zA.mk ([]:List Int) a0.Const)
 else
  let l<-app 8 ([]:List Int) a0.Coefs;pure (zA.mk l a0.Const)
theorem zAp:∀a0 r,sQ a0=some r->∀{I:Imm}{p c},(S4 I p a0.Coefs c)->RT 176 [vA (cAff a0 p c)] I [] (fV  r):=by
 intro a0 r N I p c h;unfold sQ at N;refine yL func176 λB=>yF<|vK (cAff a0 p c) ?_;intro b hb;refine wI [z0,vI 0] ?_;intro b1 hb1;refine yA rfl<|zZ<|yF<|yK [1] [6] rfl<|zG<|yE N ?_ ?_
 ·intro hc N;refine yF<|sW 3 [1] [(9,vA [z0,vI a0.Const])]<|xI 0 [z0,vI a0.Const] rfl<|yA rfl<|xD<|zH ?_;exact xU N (resC 0 rfl rfl) zM ⟨_,rfl,rfl,⟨_,rfl,(yT ⟨_,rfl,(SL.nil _)⟩)⟩⟩
 intro hc N;refine zT<|zZ<|bE N λl hy N=>wA [.x (λI' v hx=>∃b2,v=vS (some ⟨b2,0,none⟩) ([]:List Int) 0/\hx=[hO Int (vS (some ⟨b2,0,none⟩) ([]:List Int) 0) []]/\(RL I' [] ([]:List Int))),.p (vP b 0) [],.p (vS p a0.Coefs c) [1],.x (λI' v hx=>∃p1 c1 cs,v=vS p1 l c1/\hx=[hO Int (vS p1 l c1) cs]/\(RL I' cs l)),.p (vP b 1) [],.p (vI a0.Const) [1],.x (λI' v hx=>∃aR bh az,v=vA [vS aR l bh,vI a0.Const]/\hx=[hO Int (vS aR l bh) az]/\(RL I' az l))] [[],[],[(1,false)],[(0,true),(2,false)],[],[(4,false)],[(3,true),(5,false)]] [hB b1 [z0,vI 0],hB b (cAff a0 p c)] [] [(6,true)] (zY [0,1]) ?_ ?_
 ·refine Ox ?_<|O2<|Ox ?_<|O2<|Ox ?_<|On
  ·intro I1 hf aa;refine eN []<|uP [] Int ?_;intro b2 hb2;have h1:RL I1 [] ([]:List Int):=rfl;exact yM [hO Int (vS (some ⟨b2,0,none⟩) ([]:List Int) 0) []] iR ⟨_,rfl,rfl,h1⟩
  ·rintro I1 hf aa _ _ ⟨b2,rfl,rfl,h1⟩;refine yP [10,12] rfl ?_;have h:=h.mono aa;obtain⟨aN,k0,k01⟩:=h;have h:SL I1 (vS p a0.Coefs c) a0.Coefs:=⟨_,k0,k01⟩;exact qA 3 1 0 rfl rfl rfl h1 (.inl k0) k01 hy λp1 c1 cs h2=>uD (ag:=(hO Int (vS p1 l c1) cs::hB b1 [z0,vI 0]::hB b (cAff a0 p c)::hf)) rfl<|yM [hO Int (vS p1 l c1) cs] iR ⟨_,_,_,rfl,rfl,h2⟩
  rintro I1 hf aa _ _ ⟨p1,c1,cs,rfl,rfl,h2⟩;exact yP [13,15] rfl<|tD 7 [(16,vA [vS p1 l c1,vI a0.Const])]<|yM [hO Int (vS p1 l c1) cs] iR ⟨_,_,_,rfl,rfl,h2⟩
 rintro I0 le _ _ ⟨aR,bh,az,rfl,rfl,h21⟩;refine yP [2,16] rfl ?_;refine xI 1 [vS aR l bh,vI a0.Const] rfl<|yA rfl<|xD<|yZ 0 rfl ?_;intro aT aa hl0;have h3:=SL.of_frozen hl0 aa h21;exact xU N (resC 0 rfl rfl) zM ⟨_,rfl,rfl,⟨_,rfl,(yT ⟨_,rfl,h3⟩)⟩⟩
def zCi(r:zK):KT:=λkk I' ag v=>
 ∃a0_1 c0_1 s0_1,ag=[.osl (.slice a0_1 r.Subs.length c0_1) (Rp.sz zA) s0_1]/\v=tupV [(.agg ⟨[.string ⟨⟨r.Array.l⟩⟩,.slice a0_1 r.Subs.length c0_1]⟩)]/\RepL (Rp.rep I') (Rp.sz zA) s0_1 r.Subs
def wS(a0:zK)(i:Int)(Subs:List zA):Option (List zA):=do
 if(decide (i<(a0.Subs.length:Int))) then
  let x<-idx a0.Subs i;let y<-sQ x;let l<-app 32 Subs ([y]:List zA);wS a0 (W (i+1)) l
 else pure (id Subs)
 partial_fixpoint
theorem zCR(a0:zK):∀(i:Int) (Subs:List zA) (o:List zA),wS a0 i Subs=some o->∀{B}{I0 I:Imm}{Q p c}{b b1 b2}{p1 c1 cs},I0.le I->(S4 I p a0.Subs c)->(RL I cs Subs)->NG Q->NO Q->(∀I' Subs1 p2 c2 az,o=Subs1->I0.le I'->(RL I' az Subs1)->T 27 B Q (.exit 0) I' [hO zA (vS p2 Subs1 c2) az,hB b2 [vT a0.Array.l,vS p2 Subs1 c2],hB b1 [vT ([]),z0]] [(2,vP b1 0),(3,vP b2 0)])->J Tryz.prog 27 B (nav (bodyOf f144) [1,1,0,1,0]) Q I [hO zA (vS p1 Subs c1) cs,hB b2 [vT a0.Array.l,vS p1 Subs c1],hB b1 [vT ([]),z0],hB b (cAccess a0 p c)] [(1,vP b 0),(2,vP b1 0),(3,vP b2 0),(4,vI i)]:=by
 refine wS.partial_correctness a0 _ λaI ih i Subs o N B I0 I Q p c b b1 b2 p1 c1 cs H h h2 hg ho hx=>yV hg ho<|yB<|yF<|yK [3] [12] rfl<|zG<|yE N ?_ ?_
 ·intro hc N;refine zT<|zZ<|yI ?_;obtain⟨x,hy,N⟩:=zB N;obtain⟨y,ay,N⟩:=zB N;obtain⟨l,aF,N⟩:=zB N;refine wA [.p (vP b2 1) [],.p (vS p1 Subs c1) [0],.p (vP b 1) [],.p (vS p a0.Subs c) [2],.p (vI i) [],.x (ePAff x),.x (eVAff x),.x (eVAff y),.x (λI' v hx=>∃b3,v=vS (some ⟨b3,0,none⟩) ([y]:List zA) 1/\hx=[]/\(SL I' (vS (some ⟨b3,0,none⟩) ([y]:List zA) 1) ([y]:List zA))),.x (λI' v hx=>∃p5 c5 aU,v=vS p5 l c5/\hx=[hO zA (vS p5 l c5) aU]/\(RL I' aU l))] [[],[(0,false)],[],[(2,false)],[],[(3,false),(4,false)],[(5,false)],[(6,false)],[(7,false)],[(1,false),(8,false),(12,true)]] [hB b2 [vT a0.Array.l,vS p1 Subs c1],hB b1 [vT ([]),z0],hB b (cAccess a0 p c)] [[hO zA (vS p1 Subs c1) cs]] [(9,true)] (zY [1,2,3,0]) ?_ ?_
  ·refine O4<|Op<|Ox ?_<|Ox ?_<|Ox ?_<|Ox ?_<|Ox ?_<|On
   ·intro I1 hf aa;refine yP [18,19] rfl ?_;have h:=h.mono aa;refine xK rfl rfl h hy ?_;intro ad aN ap ak;obtain⟨p3,c3,rfl,h4⟩:=yQ ak;exact yM [] iR ⟨_,_,_,rfl,rfl,ap,h4⟩
   ·rintro I1 hf aa _ _ ⟨ad,p3,c3,rfl,rfl,ap,h4⟩;exact yP [20] rfl<|xA 0 ap (cAff x p3 c3) (vA (cAff x p3 c3)) rfl<|yM [] iR ⟨_,_,rfl,rfl,h4⟩
   ·rintro I1 hf aa _ _ ⟨p31,c31,rfl,rfl,h41⟩;refine yP [21] rfl ?_;have H:=iS I1;refine xF (zAp x _ ay h41) ?_;rintro I0 av v2 k2 le - ⟨v01,rfl,rfl,⟨aM,rfl,h5⟩⟩ -;have H:=H.trans le;obtain⟨p4,c4,rfl,h6⟩:=yQ h5;exact yM [] H ⟨_,_,rfl,rfl,h6⟩
   ·rintro I1 hf aa _ _ ⟨p4,c4,rfl,rfl,h6⟩;refine yP [22] rfl ?_;have H:=iS I1;refine kM (rc y (yT ⟨_,rfl,h6⟩) rN) ?_;intro b3 aT aa h8;have H:=H.trans aa;exact yM [] H ⟨_,rfl,rfl,h8⟩
   rintro I1 hf aa _ _ ⟨rfl,rfl⟩ _ _ ⟨b3,rfl,rfl,h8⟩ _ _ rfl;refine yP [16,23] rfl ?_;have h2:=iM aa h2;obtain⟨bm,k0,k01⟩:=h8;have h8:SL I1 (vS (some ⟨b3,0,none⟩) ([y]:List zA) 1) ([y]:List zA):=⟨_,k0,k01⟩;exact qA 78 2 0 rfl rfl rfl h2 (.inl k0) k01 aF λp5 c5 aU h9=>uD (ag:=(hO zA (vS p5 l c5) aU::hB b2 [vT a0.Array.l,vS p1 Subs c1]::hB b1 [vT ([]),z0]::hB b (cAccess a0 p c)::hf)) rfl<|yM [hO zA (vS p5 l c5) aU] iR ⟨_,_,_,rfl,rfl,h9⟩
  rintro aP aD _ _ ⟨p5,c5,aU,rfl,rfl,h9⟩;refine yP [1,2,3,4,24] rfl ?_;have ⟨h,H⟩:=m2 aD h H;exact yG 11 [] [25] rfl<|xI 1 [vT a0.Array.l,vS p5 l c5] rfl<|yA rfl<|zL<|zG<|zJ<|yK [] [4] rfl<|yU<|nD<|ih (W (i+1)) l _ N H h h9 hg ho hx
 intro hc N;exact wM<|xW (zX [0,1,2] rfl (by decide))<|yS<|hx _ _ _ _ _ (zD N).symm H h2
def tA(a0:zK):Option (zK):=do
 let Subs1<-wS a0 0 ([]:List zA);pure (zK.mk a0.Array Subs1)
theorem dH:∀a0 r,tA a0=some r->∀{I:Imm}{p c},(S4 I p a0.Subs c)->RT 144 [vA (cAccess a0 p c)] I [] (zCi  r):=by
 intro a0 r N I p c h;unfold tA at N;refine yL func144 λB=>yF<|vK (cAccess a0 p c) ?_;intro b hb;refine wI [vT ([]),z0] ?_;intro b1 hb1;refine yA rfl<|yW<|sW 3 [1] [(7,vA [vT a0.Array.l,z0])]<|wI [vT ([]),z0] ?_;intro b2 hb2;refine xI 0 [vT a0.Array.l,z0] rfl<|yA rfl<|zZ<|yH [4] rfl<|xY<|pE [(1,vP b 0),(2,vP b1 0),(3,vP b2 0),(4,vI 0)]<|zAm zA λh1=>?_;obtain⟨o0,aA,aG⟩:=zB N;refine zCR a0 0 ([]:List zA) o0 aA iR h h1 nG nO ?_;intro bx Subs1 p2 c2 az heq aH h3;subst o0;refine zS<|yW<|sW 1 [1] [(26,vA [vT a0.Array.l,vS p2 Subs1 c2])]<|xI 2 [vT a0.Array.l,vS p2 Subs1 c2] rfl<|yA rfl<|zG<|yX ?_;exact xU aG (resC 2 rfl rfl) (zX [0] rfl (by decide)) ⟨_,_,_,rfl,rfl,h3⟩
def zAq(r:zI):KT:=λkk I' ag v=>
 ∃a0_2 c0_2 a0_5 c0_5 a0_6 c0_6 s0_6,ag=[.osl (.slice a0_6 r.Kids.length c0_6) (Rp.sz zI) s0_6]/\v=tupV [(.agg ⟨[.int .i64 r.Kind,.int .i64 r.Num,.slice a0_2 r.Index.Coefs.length c0_2,.int .i64 r.Index.Const,.string ⟨⟨r.Read.Array.l⟩⟩,.slice a0_5 r.Read.Subs.length c0_5,.slice a0_6 r.Kids.length c0_6]⟩)]/\SL I' (.slice a0_2 r.Index.Coefs.length c0_2) r.Index.Coefs/\SL I' (.slice a0_5 r.Read.Subs.length c0_5) r.Read.Subs/\RepL (Rp.rep I') (Rp.sz zI) s0_6 r.Kids
mutual
def oF(e0:zI):Option (zI):=do
 let y<-sQ e0.Index;let y1<-tA e0.Read;let Kids1<-uS (same e0) (same 0) ([]:List zI);pure (zI.mk e0.Kind e0.Num y (zK.mk y1.Array y1.Subs) Kids1)
 partial_fixpoint
def uS(e0:zI)(i:Int)(Kids:List zI):Option (List zI):=do
 if(decide (i<(e0.Kids.length:Int))) then
  let x<-idx e0.Kids i;let y2<-oF (same x);let l<-app 112 Kids ([y2]:List zI);uS (same e0) (W (i+1)) (same l)
 else pure (id Kids)
 partial_fixpoint
end
theorem zET:(∀(e0:zI) r,oF e0=some r->∀{I:Imm}{p c p1 c1 p2 c2},(S4 I p e0.Index.Coefs c)->(S4 I p1 e0.Read.Subs c1)->(S4 I p2 e0.Kids c2)->RT 145 [vA (cExpr e0 p c p1 c1 p2 c2)] I [] (zAq  r))/\(∀(e0:zI) (i:Int) (Kids:List zI) o,uS e0 i Kids=some o->∀{B}{I0 I:Imm}{Q}{y:zA}{y1:zK}{p c p1 c1 p2 c2}{b b1}{p31 c31 p41 c41 cs11}{b2}{p5 c5 aM},I0.le I->(S4 I p31 y.Coefs c31)->(RL I cs11 y1.Subs)->(S4 I p e0.Index.Coefs c)->(S4 I p1 e0.Read.Subs c1)->(S4 I p2 e0.Kids c2)->(RL I aM Kids)->NG Q->NO Q->(∀I' Kids1 p6 c6 aU,o=Kids1->I0.le I'->(RL I' aU Kids1)->T 35 B Q (.exit 0) I' [hO zI (vS p6 Kids1 c6) aU,hB b2 [vI e0.Kind,vI e0.Num,vS p31 y.Coefs c31,vI y.Const,vT y1.Array.l,vS p41 y1.Subs c41,vS p6 Kids1 c6],hO zA (vS p41 y1.Subs c41) cs11,hB b1 zExpr] [(2,vP b1 0),(3,vP b2 0)])->J Tryz.prog 35 B (nav (bodyOf f145) [1,1,0,1,0]) Q I [hO zI (vS p5 Kids c5) aM,hB b2 [vI e0.Kind,vI e0.Num,vS p31 y.Coefs c31,vI y.Const,vT y1.Array.l,vS p41 y1.Subs c41,vS p5 Kids c5],hO zA (vS p41 y1.Subs c41) cs11,hB b1 zExpr,hB b (cExpr e0 p c p1 c1 p2 c2)] [(1,vP b 0),(2,vP b1 0),(3,vP b2 0),(4,vI i)]):=by
 refine oF.mutual_partial_correctness _ _ ?_ ?_
 ·intro F_spec_l3CopyExpr_l1 ih_spec_l3CopyExpr_l1 e0 r N I p c p1 c1 p2 c2 h h1 h2;refine yL func145 λB=>?_;have H:=iS I;refine yF<|vK (cExpr e0 p c p1 c1 p2 c2) ?_;intro b hb;refine wI zExpr ?_;intro b1 hb1;refine yA rfl<|zG<|yB ?_;obtain⟨y,hy,N⟩:=zB N;obtain⟨y1,ay,N⟩:=zB N;refine wA [.p (vP b 0) [],.p (vI e0.Kind) [1],.p (vP b 1) [],.p (vI e0.Num) [1],.p (vP b 2) [],.p (vA (cAff e0.Index p c)) [1],.x (eVAff y),.p (vP b 4) [],.p (vA (cAccess e0.Read p1 c1)) [1],.x (λI' v hx=>∃p4 c4 az,v=vA (cAccess y1 p4 c4)/\hx=[hO zA (vS p4 y1.Subs c4) az]/\(RL I' az y1.Subs)),.x (λI' v hx=>∃p31 c31 p41 c41 cs11,v=vA [vI e0.Kind,vI e0.Num,vS p31 y.Coefs c31,vI y.Const,vT y1.Array.l,vS p41 y1.Subs c41,z0]/\hx=[hO zA (vS p41 y1.Subs c41) cs11]/\(S4 I' p31 y.Coefs c31)/\(RL I' cs11 y1.Subs)),.x (λI' v hx=>∃b2,v=vP b2 0/\hx=[hB b2 zExpr])] [[],[(0,false)],[],[(2,false)],[],[(4,false)],[(5,false)],[],[(7,false)],[(8,false)],[(1,false),(3,false),(6,false),(9,true)],[]] [hB b1 zExpr,hB b (cExpr e0 p c p1 c1 p2 c2)] [] [(10,true),(11,true)] (zY [0,1]) ?_ ?_
  ·refine O4<|O2<|Ox ?_<|O2<|Ox ?_<|Ox ?_<|Ox ?_<|On
   ·intro I1 hf aa;refine yP [10] rfl ?_;have H:=iS I1;have h:=h.mono aa;refine xF (zAp e0.Index _ hy h) ?_;rintro I0 av v2 k2 le - ⟨v0,rfl,rfl,⟨cs,rfl,h3⟩⟩ -;have H:=H.trans le;obtain⟨p3,c3,rfl,h4⟩:=yQ h3;exact yM [] H ⟨_,_,rfl,rfl,h4⟩
   ·intro I1 hf aa;refine yP [13] rfl ?_;have H:=iS I1;have h1:=h1.mono aa;refine xF (dH e0.Read _ ay h1) ?_;rintro aT av v2 k2 aa - ⟨p4,c4,az,rfl,rfl,h5⟩ -;have H:=H.trans aa;exact yM [hO zA (vS p4 y1.Subs c4) az] H ⟨_,_,_,rfl,rfl,h5⟩
   ·rintro I1 hf aa _ _ ⟨rfl,rfl⟩ _ _ ⟨rfl,rfl⟩ _ _ ⟨p3,c3,rfl,rfl,h4⟩ _ _ ⟨p4,c4,az,rfl,rfl,h5⟩;exact yP [6,8,11,14] rfl<|tD 11 [(15,vA [vI e0.Kind,vI e0.Num,vS p3 y.Coefs c3,vI y.Const,vT y1.Array.l,vS p4 y1.Subs c4,z0])]<|yM [hO zA (vS p4 y1.Subs c4) az] iR ⟨_,_,_,_,_,rfl,rfl,h4,h5⟩
   intro I1 hf aa;refine eN []<|wI zExpr ?_;intro b2 hb2;exact yM [hB b2 zExpr] iR ⟨_,rfl,rfl⟩
  rintro aP aD _ _ ⟨p31,c31,p41,c41,cs11,rfl,rfl,h41,h51⟩ _ _ ⟨b2,rfl,rfl⟩;refine yP [1,2,3,15] rfl ?_;have ⟨h,h1,h2⟩:=m3 aD h h1 h2;refine xI 0 [vI e0.Kind,vI e0.Num,vS p31 y.Coefs c31,vI y.Const,vT y1.Array.l,vS p41 y1.Subs c41,z0] rfl<|yA rfl<|zZ<|yH [4] rfl<|xY<|pE [(1,vP b 0),(2,vP b1 0),(3,vP b2 0),(4,vI 0)]<|zAm zI λh6=>?_;obtain⟨o0,aA,aG⟩:=zB N;refine ih_spec_l3CopyExpr_l1 e0 0 ([]:List zI) o0 aA iR h41 h51 h h1 h2 h6 nG nO ?_;intro I07 Kids1 p6 c6 aU heq le7 h8;subst o0;have ⟨h41,h51⟩:=m2 le7 h41 h51;refine zS<|yW<|sW 1 [1] [(34,vA [vI e0.Kind,vI e0.Num,vS p31 y.Coefs c31,vI y.Const,vT y1.Array.l,vS p41 y1.Subs c41,vS p6 Kids1 c6])]<|xI 3 [vI e0.Kind,vI e0.Num,vS p31 y.Coefs c31,vI y.Const,vT y1.Array.l,vS p41 y1.Subs c41,vS p6 Kids1 c6] rfl<|yA rfl<|xD<|yZ 2 rfl ?_;intro I08 le8 hl02;have h19:=SL.of_frozen hl02 le8 h51;have ⟨h8,h41⟩:=m2 le8 h8 h41;exact xU aG (resC 2 rfl rfl) (zX [0] rfl (by decide)) ⟨_,_,_,_,_,_,_,rfl,rfl,h41,h19,h8⟩
 intro F_spec_l3CopyExpr F_spec_l3CopyExpr_l1 ih_spec_l3CopyExpr ih_spec_l3CopyExpr_l1 e0 i Kids o N B I0 I Q y y1 p c p1 c1 p2 c2 b b1 p31 c31 p41 c41 cs11 b2 p5 c5 aM H h41 h51 h h1 h2 h7 hg ho hx;refine yV hg ho<|yB<|yF<|yK [4] [20] rfl<|zG<|yE N ?_ ?_
 ·intro hc N;refine zT<|zZ<|yI ?_;obtain⟨x,aF,N⟩:=zB N;obtain⟨y2,aX,N⟩:=zB N;obtain⟨l,bk,N⟩:=zB N;refine wA [.p (vP b2 6) [],.p (vS p5 Kids c5) [0],.p (vP b 6) [],.p (vS p2 e0.Kids c2) [3],.p (vI i) [],.x (ePExpr x),.x (eVExpr x),.x (λI' v hx=>∃bb bd aR bh bz bo bv,v=vA (cExpr y2 bb bd aR bh bz bo)/\hx=[hO zI (vS bz y2.Kids bo) bv]/\(S4 I' bb y2.Index.Coefs bd)/\(S4 I' aR y2.Read.Subs bh)/\(RL I' bv y2.Kids)),.x (λI' v hx=>∃b3,v=vS (some ⟨b3,0,none⟩) ([y2]:List zI) 1/\hx=[]/\(SL I' (vS (some ⟨b3,0,none⟩) ([y2]:List zI) 1) ([y2]:List zI))),.x (λI' v hx=>∃bj bw bH,v=vS bj l bw/\hx=[hO zI (vS bj l bw) bH]/\(RL I' bH l))] [[],[(0,false)],[],[(2,false)],[],[(3,false),(4,false)],[(5,false)],[(6,false)],[(7,true)],[(1,false),(8,false),(12,true)]] [hB b2 [vI e0.Kind,vI e0.Num,vS p31 y.Coefs c31,vI y.Const,vT y1.Array.l,vS p41 y1.Subs c41,vS p5 Kids c5],hO zA (vS p41 y1.Subs c41) cs11,hB b1 zExpr,hB b (cExpr e0 p c p1 c1 p2 c2)] [[hO zI (vS p5 Kids c5) aM]] [(9,true)] (zY [1,2,3,4,0]) ?_ ?_
  ·refine O4<|Op<|Ox ?_<|Ox ?_<|Ox ?_<|Ox ?_<|Ox ?_<|On
   ·intro I1 hf aa;refine yP [26,27] rfl ?_;have h2:=h2.mono aa;refine xK rfl rfl h2 aF ?_;intro ad aN ap ak;obtain⟨p7,c7,p8,c8,p9,c9,rfl,h9,h10,h11⟩:=xX ak;exact yM [] iR ⟨_,_,_,_,_,_,_,rfl,rfl,ap,h9,h10,h11⟩
   ·rintro I1 hf aa _ _ ⟨ad,p7,c7,p8,c8,p9,c9,rfl,rfl,ap,h9,h10,h11⟩;exact yP [28] rfl<|xA 0 ap (cExpr x p7 c7 p8 c8 p9 c9) (vA (cExpr x p7 c7 p8 c8 p9 c9)) rfl<|yM [] iR ⟨_,_,_,_,_,_,rfl,rfl,h9,h10,h11⟩
   ·rintro I1 hf aa _ _ ⟨p71,c71,p81,c81,p91,c91,rfl,rfl,h91,h101,h111⟩;refine yP [29] rfl ?_;have H:=iS I1;refine xF (ih_spec_l3CopyExpr x _ aX h91 h101 h111) ?_;rintro bx av v2 k2 aH - ⟨bb,bd,aR,bh,bz,bo,bv,rfl,rfl,h12,h13,h14⟩ -;have H:=H.trans aH;exact yM [hO zI (vS bz y2.Kids bo) bv] H ⟨_,_,_,_,_,_,_,rfl,rfl,h12,h13,h14⟩
   ·rintro I1 hf aa _ _ ⟨bb,bd,aR,bh,bz,bo,bv,rfl,rfl,h12,h13,h14⟩;refine yP [30] rfl ?_;have H:=iS I1;refine xM 0 rfl ?_;intro bI bf hl0;have h15:=SL.of_frozen hl0 bf h14;have ⟨h12,h13,H⟩:=m3 bf h12 h13 H;refine kM (rc y2 (wF ⟨_,_,_,rfl,h12,h13,h15⟩) rN) ?_;intro b3 bL bu h17;have H:=H.trans bu;exact yM [] H ⟨_,rfl,rfl,h17⟩
   rintro I1 hf aa _ _ ⟨rfl,rfl⟩ _ _ ⟨b3,rfl,rfl,h17⟩ _ _ rfl;refine yP [24,31] rfl ?_;have h7:=iM aa h7;obtain⟨bm,k0,k01⟩:=h17;have h17:SL I1 (vS (some ⟨b3,0,none⟩) ([y2]:List zI) 1) ([y2]:List zI):=⟨_,k0,k01⟩;exact qA 81 7 0 rfl rfl rfl h7 (.inl k0) k01 bk λbj bw bH h18=>uD (ag:=(hO zI (vS bj l bw) bH::hB b2 [vI e0.Kind,vI e0.Num,vS p31 y.Coefs c31,vI y.Const,vT y1.Array.l,vS p41 y1.Subs c41,vS p5 Kids c5]::hO zA (vS p41 y1.Subs c41) cs11::hB b1 zExpr::hB b (cExpr e0 p c p1 c1 p2 c2)::hf)) rfl<|yM [hO zI (vS bj l bw) bH] iR ⟨_,_,_,rfl,rfl,h18⟩
  rintro I06 bG _ _ ⟨bj,bw,bH,rfl,rfl,h18⟩;refine yP [1,2,3,4,32] rfl ?_;have ⟨h41,h51,h,h1,h2,H⟩:=m6 bG h41 h51 h h1 h2 H;exact yG 11 [] [33] rfl<|xI 1 [vI e0.Kind,vI e0.Num,vS p31 y.Coefs c31,vI y.Const,vT y1.Array.l,vS p41 y1.Subs c41,vS bj l bw] rfl<|yA rfl<|zL<|zG<|zJ<|yK [] [4] rfl<|yU<|nD<|ih_spec_l3CopyExpr_l1 e0 (W (i+1)) l _ N H h41 h51 h h1 h2 h18 hg ho hx
 intro hc N;exact wM<|xW (zX [0,1,2,3] rfl (by decide))<|yS<|hx _ _ _ _ _ (zD N).symm H h7
theorem zEs:∀e0 r,oF e0=some r->∀{I:Imm}{p c p1 c1 p2 c2},(S4 I p e0.Index.Coefs c)->(S4 I p1 e0.Read.Subs c1)->(S4 I p2 e0.Kids c2)->RT 145 [vA (cExpr e0 p c p1 c1 p2 c2)] I [] (zAq  r):=zET.1
def zGs(r:zP):KT:=λkk I' ag v=>
 ∃a0_1 c0_1 s0_1 a0_4 c0_4 a0_7 c0_7 a0_8 c0_8 s0_8,ag=[.osl (.slice a0_1 r.Write.Subs.length c0_1) (Rp.sz zA) s0_1,.osl (.slice a0_8 r.Value.Kids.length c0_8) (Rp.sz zI) s0_8]/\v=tupV [(.agg ⟨[.string ⟨⟨r.Write.Array.l⟩⟩,.slice a0_1 r.Write.Subs.length c0_1,.int .i64 r.Value.Kind,.int .i64 r.Value.Num,.slice a0_4 r.Value.Index.Coefs.length c0_4,.int .i64 r.Value.Index.Const,.string ⟨⟨r.Value.Read.Array.l⟩⟩,.slice a0_7 r.Value.Read.Subs.length c0_7,.slice a0_8 r.Value.Kids.length c0_8]⟩)]/\RepL (Rp.rep I') (Rp.sz zA) s0_1 r.Write.Subs/\SL I' (.slice a0_4 r.Value.Index.Coefs.length c0_4) r.Value.Index.Coefs/\SL I' (.slice a0_7 r.Value.Read.Subs.length c0_7) r.Value.Read.Subs/\RepL (Rp.rep I') (Rp.sz zI) s0_8 r.Value.Kids
def eF(s:zP):Option (zP):=do
 let y<-tA s.Write;let y1<-oF s.Value;pure (zP.mk y y1)
theorem zDb:∀s r,eF s=some r->∀{I:Imm}{p c p1 c1 p2 c2 p3 c3},(S4 I p s.Write.Subs c)->(S4 I p1 s.Value.Index.Coefs c1)->(S4 I p2 s.Value.Read.Subs c2)->(S4 I p3 s.Value.Kids c3)->RT 108 [vA (cStmt s p c p1 c1 p2 c2 p3 c3)] I [] (zGs  r):=by
 intro s r N I p c p1 c1 p2 c2 p3 c3 h h1 h2 h3;unfold eF at N;refine yL func108 λB=>?_;have H:=iS I;refine yF<|vK (cStmt s p c p1 c1 p2 c2 p3 c3) ?_;intro b hb;refine wI [vT ([]),z0,vI 0,vI 0,z0,vI 0,vT ([]),z0,z0] ?_;intro b1 hb1;refine yA rfl<|zG<|yB ?_;obtain⟨y,hy,N⟩:=zB N;obtain⟨y1,ay,N⟩:=zB N;refine wA [.p (vP b 0) [],.p (vA (cAccess s.Write p c)) [1],.x (λI' v hx=>∃p4 c4 cs,v=vA (cAccess y p4 c4)/\hx=[hO zA (vS p4 y.Subs c4) cs]/\(RL I' cs y.Subs)),.p (vP b 2) [],.p (vA (cExpr s.Value p1 c1 p2 c2 p3 c3)) [1],.x (λI' v hx=>∃p5 c5 p6 c6 p7 c7 az,v=vA (cExpr y1 p5 c5 p6 c6 p7 c7)/\hx=[hO zI (vS p7 y1.Kids c7) az]/\(S4 I' p5 y1.Index.Coefs c5)/\(S4 I' p6 y1.Read.Subs c6)/\(RL I' az y1.Kids)),.x (λI' v hx=>∃p41 c41 p51 c51 p61 c61 p71 c71 cs11 aM,v=vA [vT y.Array.l,vS p41 y.Subs c41,vI y1.Kind,vI y1.Num,vS p51 y1.Index.Coefs c51,vI y1.Index.Const,vT y1.Read.Array.l,vS p61 y1.Read.Subs c61,vS p71 y1.Kids c71]/\hx=[hO zI (vS p71 y1.Kids c71) cs11,hO zA (vS p41 y.Subs c41) aM]/\(RL I' aM y.Subs)/\(S4 I' p51 y1.Index.Coefs c51)/\(S4 I' p61 y1.Read.Subs c61)/\(RL I' cs11 y1.Kids))] [[],[(0,false)],[(1,false)],[],[(3,false)],[(4,false)],[(2,true),(5,true)]] [hB b1 [vT ([]),z0,vI 0,vI 0,z0,vI 0,vT ([]),z0,z0],hB b (cStmt s p c p1 c1 p2 c2 p3 c3)] [] [(6,true)] (zY [0,1]) ?_ ?_
 ·refine O2<|Ox ?_<|O2<|Ox ?_<|Ox ?_<|On
  ·intro I1 hf aa;refine yP [4] rfl ?_;have H:=iS I1;have h:=h.mono aa;refine xF (dH s.Write _ hy h) ?_;rintro I0 av v2 k2 le - ⟨p4,c4,cs,rfl,rfl,h4⟩ -;have H:=H.trans le;exact yM [hO zA (vS p4 y.Subs c4) cs] H ⟨_,_,_,rfl,rfl,h4⟩
  ·intro I1 hf aa;refine yP [7] rfl ?_;have H:=iS I1;have ⟨h1,h2,h3⟩:=m3 aa h1 h2 h3;refine xF (zEs s.Value _ ay h1 h2 h3) ?_;rintro aT av v2 k2 aa - ⟨p5,c5,p6,c6,p7,c7,az,rfl,rfl,h5,h6,h7⟩ -;have H:=H.trans aa;exact yM [hO zI (vS p7 y1.Kids c7) az] H ⟨_,_,_,_,_,_,_,rfl,rfl,h5,h6,h7⟩
  rintro I1 hf aa _ _ ⟨p4,c4,cs,rfl,rfl,h4⟩ _ _ ⟨p5,c5,p6,c6,p7,c7,az,rfl,rfl,h5,h6,h7⟩;exact yP [5,8] rfl<|tD 7 [(9,vA [vT y.Array.l,vS p4 y.Subs c4,vI y1.Kind,vI y1.Num,vS p5 y1.Index.Coefs c5,vI y1.Index.Const,vT y1.Read.Array.l,vS p6 y1.Read.Subs c6,vS p7 y1.Kids c7])]<|yM [hO zI (vS p7 y1.Kids c7) az,hO zA (vS p4 y.Subs c4) cs] iR ⟨_,_,_,_,_,_,_,_,_,_,rfl,rfl,h4,h5,h6,h7⟩
 rintro aP aD _ _ ⟨p41,c41,p51,c51,p61,c61,p71,c71,cs11,aM,rfl,rfl,h41,h51,h61,h71⟩;refine yP [2,9] rfl ?_;refine xI 2 [vT y.Array.l,vS p41 y.Subs c41,vI y1.Kind,vI y1.Num,vS p51 y1.Index.Coefs c51,vI y1.Index.Const,vT y1.Read.Array.l,vS p61 y1.Read.Subs c61,vS p71 y1.Kids c71] rfl<|yA rfl<|zG<|yX ?_;exact xU N (resC 2 rfl rfl) (zX [1,0] rfl (by decide)) ⟨_,_,_,_,_,_,_,_,_,_,rfl,rfl,h41,h51,h61,h71⟩
end Go.LN
