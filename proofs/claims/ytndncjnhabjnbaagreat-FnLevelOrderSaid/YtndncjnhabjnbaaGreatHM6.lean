/- Helper of the proof (see the last text). -/
import Derived.Test.YtndncjnhabjnbaaGreatHM5
set_option linter.unusedVariables false
set_option linter.unusedSimpArgs false
namespace Go.LN
open Go.Proofs Go.Proofs.Tryz
set_option maxRecDepth 20000
def rZ(r:(List zM)×Bool):KT:=λkk I' ah v=>
 ∃v0 v1,ah=[]/\v=tupV [v0,v1]/\SL I' v0 r.1/\v1=.bool r.2
def wQ(p:zD)(t26:Int)(x:zN)(x1:(List Int))(bf:List zM)(t64:Int):Option (Out (List zM) ((List zM)×Bool)):=do
 if(decide (t64<(x.Body.length:Int))) then
  let x2<-idx x.Body t64
  let y7<-pE p x2 x1
  if(!y7) then
   pure (.ret (([]:List zM),false))
  else
   let y8<-sR x1
   let out6<-app 40 bf ([(zM.mk t26 t64 y8)]:List zM)
   wQ p t26 x x1 out6 (W (t64+1))
 else
  pure (.done bf)
 partial_fixpoint
theorem eZ(p:zD)(t26:Int)(x:zN)(x1:(List Int)):∀(bf:List zM) (t64:Int) (o:Out (List zM) ((List zM)×Bool)),wQ p t26 x x1 bf t64=some o->∀{B}{I0 I:Imm}{Q}{y2:(List (List Int))}{t54:Int}{p1 c p2 c1}{b:Nat}{p5 c4 p6 c5}{b1:Nat}{p7 c6 p14 bu p15 c14 br},I0.le I->(S4 I p5 x.Nest c4)->(S4 I p6 x.Body c5)->(At I ⟨b1,0,none⟩ (cPart x p5 c4 p6 c5))->(S4 I p14 x1 bu)->(S4 I p2 p.Parts c1)->(S4 I p7 y2 c6)->(S4 I p1 p.Arrays c)->(RL I br bf)->NG Q->NO Q->(∀(I':Imm) (out5:List zM) (p16:Option Addr) (c15:Nat) (bC:List Value),o=(.done out5)->I0.le I'->(RL I' bC out5)->T 89 B Q (.exit 4) I' [hO zM (vS p16 out5 c15) bC,hB b (cProg p p1 c p2 c1)] [(1,vP b 0),(4,vS p16 out5 c15),(5,vI t26),(6,vP b1 0),(24,vS p2 p.Parts c1),(25,vI (p.Parts.length:Int)),(26,vI t26),(52,vS p7 y2 c6),(53,vI (y2.length:Int)),(54,vI t54)])->(∀r I' ah m',o=(.ret r)->I0.le I'->RS Tryz.prog f23 B (rZ  r) I' ah m'->T 89 B Q .ret I' ah m')->J Tryz.prog 89 B (nav (bodyOf f23) [1,1,1,0,1,0,0,1,1,0,0,1,1,1,1,0,0,1,1,0,0,1,1,1,0]) Q I [hO zM (vS p15 bf c14) br,hB b (cProg p p1 c p2 c1)] [(1,vP b 0),(4,vS p15 bf c14),(5,vI t26),(6,vP b1 0),(10,vS p14 x1 bu),(24,vS p2 p.Parts c1),(25,vI (p.Parts.length:Int)),(26,vI t26),(52,vS p7 y2 c6),(53,vI (y2.length:Int)),(54,vI t54),(62,vS p6 x.Body c5),(63,vI (x.Body.length:Int)),(64,vI t64)]:=by
 refine wQ.partial_correctness p t26 x x1 _ λaI ih bf t64 o N B I0 I Q y2 t54 p1 c p2 c1 b p5 c4 p6 c5 b1 p7 c6 p14 bu p15 c14 br H h6 h7 ar h18 h1 h8 h h20 hg ho hx hr=>yR hg ho<|yG [65] rfl<|zZ<|yD N ?_ ?_
 ·intro hc8 N;refine zU<|zZ<|yH<|yE<|yF 1 [] [66] rfl<|bE N λx2 hy7 N=>xN rfl rfl h7 hy7 ?_;intro ad2 bM hat3 aW;obtain⟨p17,c16,p18,c17,p19,c18,p20,c19,rfl,h22,h23,h24,h25⟩:=qF aW;refine xE 0 hat3 (cStmt x2 p17 c16 p18 c17 p19 c18 p20 c19) (vA (cStmt x2 p17 c16 p18 c17 p19 c18 p20 c19)) rfl<|uB [vT ([]),z0,vI 0,vI 0,z0,vI 0,vT ([]),z0,z0] ?_;intro b2 hb2;refine yF 5 [] [11] rfl<|xP 0 (cStmt x2 p17 c16 p18 c17 p19 c18 p20 c19) rfl<|yC rfl<|zZ<|yE<|qA 3 [2,0] [(69,vA (cProg p p1 c p2 c1)),(70,vA (cStmt x2 p17 c16 p18 c17 p19 c18 p20 c19)),(71,vS p14 x1 bu)]<|bE N λy7 hy8 N=>vV (zBG p x2 x1 _ hy8 h h1 h22 h23 h24 h25 h18) ?_;intro I08 le8;have ⟨h20,h6,h7,ar,h18,h1⟩:=m6 le8 h20 h6 h7 ar h18 h1;have ⟨h8,h,H⟩:=m3 le8 h8 h H;refine yI [] [73] rfl<|zJ<|yD N ?_ ?_
  ·intro hc9 N;exact yG [2,3] rfl<|xF<|zH<|zV<|zH<|zH<|hr _ _ _ _ (zC N).symm H ⟨_,_,(.tmp rfl (.tmp rfl ResV.nil)),zO,⟨_,_,rfl,rfl,(SL.nil _),rfl⟩⟩
  intro hc9 N;refine zU<|zJ<|zK<|yF 4 [] [74,75,76,77] rfl<|bE N λy8 hy9 N=>xO (kN x1 _ hy9 h18) ?_;rintro I09 ax v2 k2 le9 - ⟨p21,c20,cs6,rfl,rfl,h27⟩ -;have ⟨h6,h7,ar,h18,h1,h8⟩:=m6 le9 h6 h7 ar h18 h1 h8;have ⟨h20,h,H⟩:=m3 le9 h20 h H;refine yF 6 [] [79] rfl<|xM 0 rfl ?_;intro bR le10 hl01;have h28:=SL.of_frozen hl01 le10 h27;have ⟨h6,h7,ar,h18,h1,h8⟩:=m6 le10 h6 h7 ar h18 h1 h8;have ⟨h20,h,H⟩:=m3 le10 h20 h H;refine tU [vI t26,vI t64,vS p21 y8 c20] zM ?_;intro b3 hb3;have h29:RL bR [vI t26,vI t64,vS p21 y8 c20] ([(zM.mk t26 t64 y8)]:List zM):=⟨[vI t26,vI t64,vS p21 y8 c20],_,rfl,rfl,(dU ⟨_,rfl,h28⟩),rfl⟩;obtain⟨out6,hy10,N⟩:=zB N;exact pC 90 3 2 rfl rfl rfl h20 (.inr ⟨0,rfl⟩) h29 hy10 λp22 c21 cs7 h30=>qE (zX [1,2,3] (ah:=[hB b2 (cStmt x2 p17 c16 p18 c17 p19 c18 p20 c19),hO zM (vS p22 out6 c21) cs7,hB b (cProg p p1 c p2 c1)]))<|yI [] [4] rfl<|zP<|zJ<|zK<|yI [] [64] rfl<|yS<|jU (zW [1,2] rfl (by decide))<|nU<|ih out6 (W (t64+1)) _ N H h6 h7 ar h18 h1 h8 h h30 hg ho hx hr
 intro hc8 N;exact wZ<|yN<|hx _ _ _ _ _ (zC N).symm H h20
def wR(p:zD)(t26:Int)(x:zN)(y2:(List (List Int)))(am:List zM)(t54:Int):Option (Out (List zM) ((List zM)×Bool)):=do
 if(decide (t54<(y2.length:Int))) then
  let x1<-idx y2 t54
  let y6<-gF x1
  if(!y6) then
   pure (.ret (([]:List zM),false))
  else
   match<-wQ p t26 x x1 am 0 with
   | .ret r0=>pure (.ret r0)
   | .done out5=>
    wR p t26 x y2 out5 (W (t54+1))
 else
  pure (.done am)
 partial_fixpoint
theorem dA(p:zD)(t26:Int)(x:zN)(y2:(List (List Int))):∀(am:List zM) (t54:Int) (o:Out (List zM) ((List zM)×Bool)),wR p t26 x y2 am t54=some o->∀{B}{I0 I:Imm}{Q p1 c p2 c1}{b:Nat}{p5 c4 p6 c5}{b1:Nat}{p7 c6 bB bj aO},I0.le I->(S4 I p5 x.Nest c4)->(S4 I p6 x.Body c5)->(At I ⟨b1,0,none⟩ (cPart x p5 c4 p6 c5))->(S4 I p2 p.Parts c1)->(S4 I p7 y2 c6)->(S4 I p1 p.Arrays c)->(RL I aO am)->NG Q->NO Q->(∀(I':Imm) (aD:List zM) (bm:Option Addr) (bo:Nat) (aT:List Value),o=(.done aD)->I0.le I'->(RL I' aT aD)->T 89 B Q (.exit 2) I' [hO zM (vS bm aD bo) aT,hB b (cProg p p1 c p2 c1)] [(1,vP b 0),(4,vS bm aD bo),(24,vS p2 p.Parts c1),(25,vI (p.Parts.length:Int)),(26,vI t26)])->(∀r I' ah m',o=(.ret r)->I0.le I'->RS Tryz.prog f23 B (rZ  r) I' ah m'->T 89 B Q .ret I' ah m')->J Tryz.prog 89 B (nav (bodyOf f23) [1,1,1,0,1,0,0,1,1,0,0,1,1,1,1,0]) Q I [hO zM (vS bB am bj) aO,hB b (cProg p p1 c p2 c1)] [(1,vP b 0),(4,vS bB am bj),(5,vI t26),(6,vP b1 0),(24,vS p2 p.Parts c1),(25,vI (p.Parts.length:Int)),(26,vI t26),(52,vS p7 y2 c6),(53,vI (y2.length:Int)),(54,vI t54)]:=by
 refine wR.partial_correctness p t26 x y2 _ λaI ih am t54 o N B I0 I Q p1 c p2 c1 b p5 c4 p6 c5 b1 p7 c6 bB bj aO H h6 h7 ar h1 h8 h h16 hg ho hx hr=>yR hg ho<|yG [55] rfl<|zZ<|yD N ?_ ?_
 ·intro hc6 N;refine zU<|zZ<|yH<|yE<|bE N λx1 bH N=>xN rfl rfl h8 bH ?_;intro ad1 bv aP az;obtain⟨v011,rfl,h18⟩:=az;obtain⟨p14,bu,rfl⟩:=h18.form;refine xE 0 aP [vS p14 x1 bu] (vS p14 x1 bu) rfl<|yI [] [10] rfl<|zZ<|yE<|yF 1 [] [58] rfl<|bE N λy6 hy6 N=>vV (zFK x1 _ hy6 h18) ?_;intro I07 le7;have ⟨h16,h6,h7,ar,h18,h1⟩:=m6 le7 h16 h6 h7 ar h18 h1;have ⟨h8,h,H⟩:=m3 le7 h8 h H;refine yI [] [60] rfl<|zJ<|yD N ?_ ?_
  ·intro hc7 N;exact yG [2,3] rfl<|xF<|zH<|zV<|zH<|zH<|hr _ _ _ _ (zC N).symm H ⟨_,_,(.tmp rfl (.tmp rfl ResV.nil)),zO,⟨_,_,rfl,rfl,(SL.nil _),rfl⟩⟩
  intro hc7 N;refine zU<|xA<|yF 1 [] [61] rfl<|xE 1 ar [vS p6 x.Body c5] (vS p6 x.Body c5) rfl<|yI [] [63,64] rfl<|wC<|oA [(1,vP b 0),(4,vS bB am bj),(5,vI t26),(6,vP b1 0),(10,vS p14 x1 bu),(24,vS p2 p.Parts c1),(25,vI (p.Parts.length:Int)),(26,vI t26),(52,vS p7 y2 c6),(53,vI (y2.length:Int)),(54,vI t54),(62,vS p6 x.Body c5),(63,vI (x.Body.length:Int)),(64,vI 0)] ?_;obtain⟨o02,ho02,aH⟩:=zB N;refine eZ p t26 x x1 am 0 o02 ho02 iR h6 h7 ar h18 h1 h8 h h16 (λ_ _ _ h=>hg _ _ _ h) (λ_ _ h=>ho _ _ h) ?_ ?_
  ·intro bV out5 p16 c15 bC heq2 le11 h21;subst o02;have ⟨h6,h7,ar,h1,h8,h⟩:=m6 le11 h6 h7 ar h1 h8 h;have H:=H.trans le11;exact zR<|zP<|zJ<|zK<|yI [] [54] rfl<|yS<|nU<|ih out5 (W (t54+1)) _ aH H h6 h7 ar h1 h8 h h21 hg ho hx hr
  intro r0 I9 hs9 m9 aR le9 aS;subst aR;exact zV<|zV<|zH<|zH<|hr _ _ _ _ (zC aH).symm (H.trans le9) aS
 intro hc6 N;exact wZ<|yN<|hx _ _ _ _ _ (zC N).symm H h16
def wS(p:zD)(out:List zM)(t26:Int):Option (Out (List zM) ((List zM)×Bool)):=do
 if(decide (t26<(p.Parts.length:Int))) then
  let x<-idx p.Parts t26
  let (y2,y3)<-mI x.Nest
  let t51<-(do
   if(!y3) then
    pure true
   else
    let y4<-xS (x.Body.length:Int) 1 4
    if(!y4) then
     pure true
    else
     let y5<-xU x.Body (λx0=>vD x0 x)
     pure (id y5)
     : Option Bool)
  if t51 then
   pure (.ret (([]:List zM),false))
  else
   match<-wR p t26 x y2 out 0 with
   | .ret r0=>pure (.ret r0)
   | .done aD=>
    wS p aD (W (t26+1))
 else
  pure (.done out)
 partial_fixpoint
theorem dB(p:zD):∀(out:List zM) (t26:Int) (o:Out (List zM) ((List zM)×Bool)),wS p out t26=some o->∀{B}{I0 I:Imm}{Q p1 c p2 c1}{b:Nat}{p3 c2 cs},I0.le I->(S4 I p2 p.Parts c1)->(S4 I p1 p.Arrays c)->(RL I cs out)->NG Q->NO Q->(∀(I':Imm) (aj:List zM) (p4:Option Addr) (c3:Nat) (aC:List Value),o=(.done aj)->I0.le I'->(RL I' aC aj)->T 89 B Q (.exit 0) I' [hO zM (vS p4 aj c3) aC] [(4,vS p4 aj c3)])->(∀r I' ah m',o=(.ret r)->I0.le I'->RS Tryz.prog f23 B (rZ  r) I' ah m'->T 89 B Q .ret I' ah m')->J Tryz.prog 89 B (nav (bodyOf f23) [1,1,1,0,1,0]) Q I [hO zM (vS p3 out c2) cs,hB b (cProg p p1 c p2 c1)] [(1,vP b 0),(4,vS p3 out c2),(24,vS p2 p.Parts c1),(25,vI (p.Parts.length:Int)),(26,vI t26)]:=by
 refine wS.partial_correctness p _ λaI ih out t26 o N B I0 I Q p1 c p2 c1 b p3 c2 cs H h1 h h4 hg ho hx hr=>yR hg ho<|yG [27] rfl<|zZ<|yD N ?_ ?_
 ·intro bd N;refine zU<|zZ<|yH<|yE<|yF 1 [] [28] rfl<|bE N λx ay N=>xN rfl rfl h1 ay ?_;intro ad aL ap al;obtain⟨p5,c4,p6,c5,rfl,h6,h7⟩:=tB al;refine xE 0 ap (cPart x p5 c4 p6 c5) (vA (cPart x p5 c4 p6 c5)) rfl<|uB zTwo ?_;intro b1 hb1;refine yF 5 [] [5] rfl<|xP 0 (cPart x p5 c4 p6 c5) rfl<|yC rfl<|xA<|yF 2 [0] [33] rfl ?_;obtain⟨⟨y2,y3⟩,aJ,N⟩:=zB N;refine xO (zCw x.Nest _ aJ h6) ?_;rintro aQ ax v2 k2 aE - ⟨v03,v04,rfl,rfl,h8,rfl⟩ -;have ⟨h4,h1,h6,h7,h,H⟩:=m6 aE h4 h1 h6 h7 h H;obtain⟨p7,c6,rfl⟩:=h8.form;refine yI [] [7,8] rfl<|zZ<|yA<|nO 0 rfl ?_;intro bz aK hl0;have ar:At bz ⟨b1,0,none⟩ (cPart x p5 c4 p6 c5):=At.of_blk hl0;have ⟨h4,h6,h7,h8,h1,h⟩:=m6 aK h4 h6 h7 h8 h1 h;have H:=H.trans aK;refine wE N [hO zM (vS p3 out c2) cs,hB b (cProg p p1 c p2 c1)] (λt51=>[(1,vP b 0),(4,vS p3 out c2),(5,vI t26),(6,vP b1 0),(7,vS p7 y2 c6),(24,vS p2 p.Parts c1),(25,vI (p.Parts.length:Int)),(26,vI t26),(51,.bool t51)]) (λaM aA=>?_) ?_
  ·have H:=iS bz;refine zK<|yF 3 [] [39] rfl<|xW [39] aA ?_ ?_
   ·intro bI N;exact wG [] [(51,vY)]<|yN<|zT (ct N H)
   intro bI N;refine yF 4 [] [40] rfl<|xE 1 ar [vS p6 x.Body c5] (vS p6 x.Body c5) rfl<|yF 6 [] [42] rfl<|bE N λy4 bb N=>vV (xY (x.Body.length:Int) 1 4 _ bb ) ?_;intro bO bi;have ⟨h6,h7,ar,h,H⟩:=m5 bi h6 h7 ar h H;refine yF 10 [] [46] rfl<|xW [46] N ?_ ?_
   ·intro bN N;exact wG [] [(51,vY)]<|yN<|zT (ct N H)
   intro bN N;refine yF 11 [] [47] rfl<|xE 1 ar [vS p6 x.Body c5] (vS p6 x.Body c5) rfl<|yF 13 [] [49] rfl ?_;have hf0:FV1 Tryz.prog bO [] (.func (.func 48) ⟨[]⟩ ⟨[vP b1 0]⟩) (λx0=>vD x0 x):=by
    refine FV1.intro ?_;intro I1 af x0 r u0 hF k0;obtain⟨_,rfl,k0⟩:=k0;obtain⟨p8,c7,p9,c8,aZ,c9,aV,bh,rfl,h11,h12,h13,h14⟩:=qF k0;exact(dL x0 x r hF h11 h12 h13 h14 (h6.mono af) (h7.mono af) (ar.mono af)).mono (by rintro k i hs u ⟨v0,rfl,rfl,h⟩;exact⟨rfl,h⟩)
   obtain⟨y5,bt,N⟩:=zB N;refine xO (jB x.Body (λx0=>vD x0 x) _ bt h7 hf0) ?_;rintro I06 ax v2 k2 bw - ⟨v010,rfl,rfl,rfl⟩ -;have H:=H.trans bw;exact yI [] [51] rfl<|yN<|zT (ct N H)
  intro t51 bK bD hMc1;have ⟨h4,h6,h7,ar,h8,h1⟩:=m6 bD h4 h6 h7 ar h8 h1;have ⟨h,H⟩:=m2 bD h H;refine zJ<|yD hMc1 ?_ ?_
  ·intro hc5 N;exact yG [2,3] rfl<|xF<|zH<|zV<|zH<|zH<|hr _ _ _ _ (zC N).symm H ⟨_,_,(.tmp rfl (.tmp rfl ResV.nil)),zO,⟨_,_,rfl,rfl,(SL.nil _),rfl⟩⟩
  intro hc5 N;refine zU<|wW [52,53,54] rfl<|wC<|oA [(1,vP b 0),(4,vS p3 out c2),(5,vI t26),(6,vP b1 0),(24,vS p2 p.Parts c1),(25,vI (p.Parts.length:Int)),(26,vI t26),(52,vS p7 y2 c6),(53,vI (y2.length:Int)),(54,vI 0)] ?_;obtain⟨o03,ho03,hMl1⟩:=zB N;refine dA p t26 x y2 out 0 o03 ho03 iR h6 h7 ar h1 h8 h h4 (λ_ _ _ h=>hg _ _ _ h) (λ_ _ h=>ho _ _ h) ?_ ?_
  ·intro bU aD bm bo aT heq3 le12 h17;subst o03;have ⟨h1,h,H⟩:=m3 le12 h1 h H;exact zR<|zP<|zJ<|zK<|yI [] [26] rfl<|yS<|nU<|ih aD (W (t26+1)) _ hMl1 H h1 h h17 hg ho hx hr
  intro r0 I9 hs9 m9 aR le9 aS;subst aR;exact zV<|zV<|zH<|zH<|hr _ _ _ _ (zC hMl1).symm (H.trans le9) aS
 intro bd N;exact wZ<|xV (zW [0] rfl (by decide))<|yN<|hx _ _ _ _ _ (zC N).symm H h4
def wU(p:zD):Option ((List zM)×Bool):=do
 let t22<-(do
  let y<-jF p.Arrays
  if(!y) then
   pure true
  else
   pure (decide ((p.Parts.length:Int)>4))
    : Option Bool)
 if t22 then
  pure (([]:List zM),false)
 else
  match<-wS p ([]:List zM) 0 with
  | .ret r0=>pure r0
  | .done aj=>
   pure (aj,(decide ((aj.length:Int)<=120)))
theorem pA:∀p r,wU p=some r->∀{I:Imm}{p1 c p2 c1},(S4 I p1 p.Arrays c)->(S4 I p2 p.Parts c1)->RT 23 [vA (cProg p p1 c p2 c1)] I [] (rZ  r):=by
 intro p r N I p1 c p2 c1 h h1;unfold wU at N;refine yJ func23 λB=>?_;have H:=iS I;refine yE<|uH (cProg p p1 c p2 c1) ?_;intro b hb;refine wG [] []<|zZ<|yA ?_;refine wE N [hB b (cProg p p1 c p2 c1)] (λt22=>[(1,vP b 0),(22,.bool t22)]) (λo0 aB=>?_) ?_
 ·have H:=iS I;refine zK<|yF 2 [0] [14] rfl ?_;obtain⟨y,hy,N⟩:=zB aB;refine vV (zE8 p.Arrays _ hy h) ?_;intro aU le;have H:=H.trans le;refine yF 5 [] [17] rfl<|xW [17] N ?_ ?_
  ·intro hc N;exact wG [] [(22,vY)]<|yN<|zT (ct N H)
  intro hc N;exact yI [0] [22] rfl<|yN<|zT (ct N H)
 intro t22 I0 af aN;have ⟨h,h1⟩:=m2 af h h1;refine zJ<|yD aN ?_ ?_
 ·intro aF N;refine yG [2,3] rfl<|xF<|zH ?_;obtain rfl:=zC N;exact xC ⟨_,_,(.tmp rfl (.tmp rfl ResV.nil)),zO,⟨_,_,rfl,rfl,(SL.nil _),rfl⟩⟩
 intro aF N;refine zU<|zHd [(4,z0)]<|zZ<|yE<|yI [0] [24,25,26] rfl<|wC<|oA [(1,vP b 0),(4,z0),(24,vS p2 p.Parts c1),(25,vI (p.Parts.length:Int)),(26,vI 0)]<|dW zM λh3=>?_;obtain⟨o04,ho04,hMl2⟩:=zB N;refine dB p ([]:List zM) 0 o04 ho04 iR h1 h h3 (λ_ _ _ h=>h) (λ_ _ h=>h) ?_ ?_
 ·intro I013 aj p4 c3 aC heq4 le13 h5;subst o04;refine zR<|wW [2,3] rfl<|xF<|xB 0 rfl ?_;intro I014 le14 hl02;have h31:=SL.of_frozen hl02 le14 h5;obtain rfl:=zC hMl2;exact xC ⟨_,_,(.tmp rfl (.tmp rfl ResV.nil)),zO,⟨_,_,rfl,rfl,h31,rfl⟩⟩
 intro r0 I9 hs9 m9 aR le9 aS;subst aR;refine zV<|zH ?_;obtain rfl:=zC hMl2;exact xC aS
def zBH(r:zQ):KT:=λkk I' ah v=>
 ∃v0,ah=[]/\v=tupV [v0]/\(∃cs,v0=.agg ⟨cs⟩/\Rp.rep I' cs r)
def kD(p:zD)(x:zM):Option (zQ):=do
 let x1<-idx p.Parts x.Part
 let x2<-idx x1.Body x.Stmt
 pure (id x2)
theorem zBr:∀p x r,kD p x=some r->∀{I:Imm}{p1 c p2 c1 p3 c2},(S4 I p1 p.Arrays c)->(S4 I p2 p.Parts c1)->(S4 I p3 x.Point c2)->RT 65 [vA (cProg p p1 c p2 c1),vA (cInst x p3 c2)] I [] (zBH  r):=by
 intro p x r N I p1 c p2 c1 p3 c2 h h1 h2;unfold kD at N;refine yJ func65 λB=>yE<|uH (cProg p p1 c p2 c1) ?_;intro b hb;refine uH (cInst x p3 c2) ?_;intro b1 hb1;refine uB [vT ([]),z0,vI 0,vI 0,z0,vI 0,vT ([]),z0,z0] ?_;intro b2 hb2;refine yC rfl<|zJ<|yA ?_;obtain⟨x1,hy,N⟩:=zB N;obtain⟨x2,ay,N⟩:=zB N;refine wX [.p (vP b 1) [],.p (vS p2 p.Parts c1) [2],.p (vP b1 0) [],.p (vI x.Part) [1],.x (ePPart x1),.x (eQPart 1 x1),.x (eS x1.Body),.p (vP b1 1) [],.p (vI x.Stmt) [1],.x (ePStmt x2),.x (eVStmt x2)] [[],[(0,false)],[],[(2,false)],[(1,false),(3,false)],[(4,false)],[(5,false)],[],[(7,false)],[(6,false),(8,false)],[(9,false)]] [hB b2 [vT ([]),z0,vI 0,vI 0,z0,vI 0,vT ([]),z0,z0],hB b1 (cInst x p3 c2),hB b (cProg p p1 c p2 c1)] [] [(10,false)] (zX [0,1,2]) ?_ ?_
 ·refine Op<|Op<|Op<|Op<|Ox ?_<|Ox ?_<|Ox ?_<|Op<|Op<|Ox ?_<|Ox ?_<|On
  ·intro I1 hf af;refine yP [6,8] rfl ?_;have h1:=h1.mono af;refine xN rfl rfl h1 hy ?_;intro ad aL ap al;obtain⟨p4,c3,p5,c4,rfl,h3,h4⟩:=tB al;exact yK [] iR ⟨_,_,_,_,_,rfl,rfl,ap,h3,h4⟩
  ·rintro I1 hf af _ _ ⟨ad,p4,c3,p5,c4,rfl,rfl,ap,h3,h4⟩;exact yP [9] rfl<|rS 6 [(10,.pointer (some (ad.add 1)))]<|yK [] iR ⟨_,_,_,_,_,rfl,rfl,ap,h3,h4⟩
  ·rintro I1 hf af _ _ ⟨ad1,p41,c31,p51,c41,rfl,rfl,ar,h31,h41⟩;exact yP [10] rfl<|xE 1 ar [vS p51 x1.Body c41] (vS p51 x1.Body c41) rfl<|yK [] iR ⟨_,_,rfl,rfl,h41⟩
  ·rintro I1 hf af _ _ ⟨p511,c411,rfl,rfl,h411⟩;refine yP [11,13] rfl<|xN rfl rfl h411 ay ?_;intro ad2 bv aP az;obtain⟨p6,c5,p7,c6,p8,c7,p9,c8,rfl,h5,h6,h7,h8⟩:=qF az;exact yK [] iR ⟨_,_,_,_,_,_,_,_,_,rfl,rfl,aP,h5,h6,h7,h8⟩
  rintro I1 hf af _ _ ⟨ad2,p6,c5,p7,c6,p8,c7,p9,c8,rfl,rfl,aP,h5,h6,h7,h8⟩;exact yP [14] rfl<|xE 0 aP (cStmt x2 p6 c5 p7 c6 p8 c7 p9 c8) (vA (cStmt x2 p6 c5 p7 c6 p8 c7 p9 c8)) rfl<|yK [] iR ⟨_,_,_,_,_,_,_,_,rfl,rfl,h5,h6,h7,h8⟩
 rintro I0 le _ _ ⟨p61,c51,p71,c61,p81,c71,p91,c81,rfl,rfl,h51,h61,h71,h81⟩;refine yP [4,15] rfl ?_;refine xP 0 (cStmt x2 p61 c51 p71 c61 p81 c71 p91 c81) rfl<|yC rfl<|zJ<|yZ ?_;obtain rfl:=zC N;exact xC ⟨_,_,(.cell 0 rfl rfl (by kernel_rfl) ResV.nil),zO,⟨_,rfl,rfl,⟨_,rfl,(wY ⟨_,_,_,_,rfl,h51,h61,h71,h81⟩)⟩⟩⟩
def zAL(r:(List Int)×Int):KT:=λkk I' ah v=>
 ∃v0 v1,ah=[]/\v=tupV [v0,v1]/\SL I' v0 r.1/\v1=.int .i64 r.2
def vE(p:zD)(x:zM)(y1:(List zI))(out:List Int)(t17:Int):Option (List Int):=do
 if(decide (t17<(y1.length:Int))) then
  let x1<-idx y1 t17
  let y2<-tO p x1 x.Point
  let am<-app 8 out ([y2]:List Int)
  vE p x y1 am (W (t17+1))
 else
  pure (id out)
 partial_fixpoint
theorem zAF(p:zD)(x:zM)(y1:(List zI)):∀(out:List Int) (t17:Int) (o:List Int),vE p x y1 out t17=some o->∀{B}{I0 I:Imm}{Q}{y:zQ}{p1 c p2 c1 p3 c2}{b:Nat}{b1:Nat}{p4 c3 p5 c4 p6 c5 p7 c6}{b2:Nat}{p8 c7 p9 c8 aC},I0.le I->(S4 I p8 y1 c7)->(S4 I p4 y.Write.Subs c3)->(S4 I p5 y.Value.Index.Coefs c4)->(S4 I p6 y.Value.Read.Subs c5)->(S4 I p7 y.Value.Kids c6)->(S4 I p3 x.Point c2)->(S4 I p1 p.Arrays c)->(S4 I p2 p.Parts c1)->(RL I aC out)->NG Q->NO Q->(∀(I':Imm) (aj:List Int) (aZ:Option Addr) (c9:Nat) (aO:List Value),o=aj->I0.le I'->(RL I' aO aj)->T 37 B Q (.exit 0) I' [hO Int (vS aZ aj c9) aO,hB b2 (cStmt y p4 c3 p5 c4 p6 c5 p7 c6),hB b1 (cInst x p3 c2),hB b (cProg p p1 c p2 c1)] [(2,vP b 0),(3,vP b1 0),(6,vP b2 0),(7,vS aZ aj c9)])->J Tryz.prog 37 B (nav (bodyOf f54) [1,1,1,0,1,0]) Q I [hO Int (vS p9 out c8) aC,hB b2 (cStmt y p4 c3 p5 c4 p6 c5 p7 c6),hB b1 (cInst x p3 c2),hB b (cProg p p1 c p2 c1)] [(2,vP b 0),(3,vP b1 0),(6,vP b2 0),(7,vS p9 out c8),(15,vS p8 y1 c7),(16,vI (y1.length:Int)),(17,vI t17)]:=by
 refine vE.partial_correctness p x y1 _ λaI ih out t17 o N B I0 I Q y p1 c p2 c1 p3 c2 b b1 p4 c3 p5 c4 p6 c5 p7 c6 b2 p8 c7 p9 c8 aC H h8 h4 h5 h6 h7 h2 h h1 h10 hg ho hx=>yR hg ho<|yG [18] rfl<|zZ<|yD N ?_ ?_
 ·intro hc N;refine zU<|zZ<|yH<|yE<|bE N λx1 aJ N=>xN rfl rfl h8 aJ ?_;intro ad aL ap al;obtain⟨aV,bh,rfl,h12⟩:=oH al;refine xE 0 ap (cAccess x1 aV bh) (vA (cAccess x1 aV bh)) rfl<|uB [vT ([]),z0] ?_;intro b3 hb3;refine xP 0 (cAccess x1 aV bh) rfl<|yC rfl<|zJ<|zK<|qA 5 [4,0,3] [(21,vS p9 out c8),(22,vA (cProg p p1 c p2 c1)),(23,vA (cAccess x1 aV bh)),(25,vS p3 x.Point c2)]<|bE N λy2 bb N=>jE (mK p x1 x.Point _ bb h h1 h12 h2) ?_;intro aQ aE;have ⟨h8,h10,h4,h5,h6,h7⟩:=m6 aE h8 h10 h4 h5 h6 h7;have ⟨h2,h,h1,H⟩:=m4 aE h2 h h1 H;refine tU [vI y2] Int ?_;intro b4 hb4;have h14:RL aQ [vI y2] ([y2]:List Int):=rI [y2];obtain⟨am,bt,N⟩:=zB N;exact pC 3 1 2 rfl rfl rfl h10 (.inr ⟨0,rfl⟩) h14 bt λbB bj aT h15=>qE (zX [1,2,3,4,5] (ah:=[hB b3 (cAccess x1 aV bh),hO Int (vS bB am bj) aT,hB b2 (cStmt y p4 c3 p5 c4 p6 c5 p7 c6),hB b1 (cInst x p3 c2),hB b (cProg p p1 c p2 c1)]))<|yI [] [7] rfl<|zP<|zJ<|zK<|yI [] [17] rfl<|yS<|jU (zW [1,2,3,4] rfl (by decide))<|nU<|ih am (W (t17+1)) _ N H h8 h4 h5 h6 h7 h2 h h1 h15 hg ho hx
 intro hc N;exact wZ<|yN<|hx _ _ _ _ _ (zC N).symm H h10
def qQ(p:zD)(x:zM):Option ((List Int)×Int):=do
 let y<-kD p x
 let y1<-mL y.Value
 let aj<-vE p x y1 ([]:List Int) 0
 let y3<-tO p y.Write x.Point
 pure (aj,y3)
theorem zAr:∀p x r,qQ p x=some r->∀{I:Imm}{p1 c p2 c1 p3 c2},(S4 I p1 p.Arrays c)->(S4 I p2 p.Parts c1)->(S4 I p3 x.Point c2)->RT 54 [vA (cProg p p1 c p2 c1),vA (cInst x p3 c2)] I [] (zAL  r):=by
 intro p x r N I p1 c p2 c1 p3 c2 h h1 h2;unfold qQ at N;refine yJ func54 λB=>yE<|uH (cProg p p1 c p2 c1) ?_;intro b hb;refine uH (cInst x p3 c2) ?_;intro b1 hb1;refine wG [] []<|xA<|qA 2 [1,0] [(10,vA (cProg p p1 c p2 c1)),(11,vA (cInst x p3 c2))]<|bE N λy hy N=>xO (zBr p x _ hy h h1 h2) ?_;rintro I0 ax v2 k2 le - ⟨v0,rfl,rfl,⟨cs,rfl,h3⟩⟩ -;have ⟨h2,h,h1⟩:=m3 le h2 h h1;obtain⟨p4,c3,p5,c4,p6,c5,p7,c6,rfl,h4,h5,h6,h7⟩:=qF h3;refine uB [vT ([]),z0,vI 0,vI 0,z0,vI 0,vT ([]),z0,z0] ?_;intro b2 hb2;refine xP 0 (cStmt y p4 c3 p5 c4 p6 c5 p7 c6) rfl<|yC rfl<|zHd [(7,z0)]<|zZ<|yE<|qA 2 [0] [(14,vA (cExpr y.Value p5 c4 p6 c5 p7 c6))]<|bE N λy1 ay N=>xO (zC6 y.Value _ ay h5 h6 h7) ?_;rintro aU ax v2 k2 af - ⟨v05,rfl,rfl,h8⟩ -;have ⟨h4,h5,h6,h7,h2,h⟩:=m6 af h4 h5 h6 h7 h2 h;have h1:=h1.mono af;obtain⟨p8,c7,rfl⟩:=h8.form;refine yI [] [16,17] rfl<|wC<|oA [(2,vP b 0),(3,vP b1 0),(6,vP b2 0),(7,z0),(15,vS p8 y1 c7),(16,vI (y1.length:Int)),(17,vI 0)]<|dW Int λh9=>?_;obtain⟨o0,aB,aH⟩:=zB N;refine zAF p x y1 ([]:List Int) 0 o0 aB iR h8 h4 h5 h6 h7 h2 h h1 h9 (λ_ _ _ h=>h) (λ_ _ h=>h) ?_;intro bz aj aZ c9 aO heq aK h11;subst o0;have ⟨h4,h2,h,h1⟩:=m4 aK h4 h2 h h1;refine zR<|xA<|qA 6 [3,1,2] [(30,vS aZ aj c9),(31,vA (cProg p p1 c p2 c1)),(33,vA (cAccess y.Write p4 c3)),(35,vS p3 x.Point c2)] ?_;obtain⟨y3,bH,N⟩:=zB aH;refine jE (mK p y.Write x.Point _ bH h h1 h4 h2) ?_;intro bK bi;have h11:=iM bi h11;refine yI [] [4,5] rfl<|xF<|xB 0 rfl ?_;intro bO bw hl0;have h17:=SL.of_frozen hl0 bw h11;obtain rfl:=zC N;exact xC ⟨_,_,(.tmp rfl (.tmp rfl ResV.nil)),zO,⟨_,_,rfl,rfl,h17,rfl⟩⟩
def zFL(r:(Option tX)×Bool):KT:=λkk I' ah v=>
 ∃v0 v1,ah=[]/\v=tupV [v0,v1]/\FP I' v0 r.1/\v1=.bool r.2
def oX(p:zD)(y1:(List zM))(t24:Int)(reads:List (List Int))(writes:List Int):Option ((List (List Int)×List Int)):=do
 if(decide (t24<(y1.length:Int))) then
  let x<-idx y1 t24
  let (y4,y5)<-qQ p x
  let l<-app 24 reads ([y4]:List (List Int))
  let l1<-app 8 writes ([y5]:List Int)
  oX p y1 (W (t24+1)) l l1
 else
  pure (reads,writes)
 partial_fixpoint
theorem zEa(p:zD)(y1:(List zM)):∀(t24:Int) (reads:List (List Int)) (writes:List Int) (o:(List (List Int)×List Int)),oX p y1 t24 reads writes=some o->∀{B}{I0 I:Imm}{Q p1 c p2 c1}{b:Nat}{p3 c2}{b1:Nat}{p4 c3 cs p5 c4 aC},I0.le I->(S4 I p3 y1 c2)->(S4 I p1 p.Arrays c)->(S4 I p2 p.Parts c1)->(RL I cs reads)->(RL I aC writes)->NG Q->NO Q->(∀(I':Imm) (reads1:List (List Int)) (writes1:List Int) (p6:Option Addr) (c5:Nat) (aO:List Value) (p7:Option Addr) (c6:Nat) (aT:List Value),o=(reads1,writes1)->I0.le I'->(RL I' aO reads1)->(RL I' aT writes1)->T 56 B Q (.exit 0) I' [hO Int (vS p7 writes1 c6) aT,hO (List Int) (vS p6 reads1 c5) aO,hB b1 [vS p1 p.Arrays c,vS p2 p.Parts c1,vS p3 y1 c2,vS p6 reads1 c5,vS p7 writes1 c6]] [(6,vP b1 0)])->J Tryz.prog 56 B (nav (bodyOf f27) [1,1,1,1,0,1,0]) Q I [hO Int (vS p5 writes c4) aC,hO (List Int) (vS p4 reads c3) cs,hB b1 [vS p1 p.Arrays c,vS p2 p.Parts c1,vS p3 y1 c2,vS p4 reads c3,vS p5 writes c4],hB b (cProg p p1 c p2 c1)] [(1,vP b 0),(6,vP b1 0),(22,vS p3 y1 c2),(23,vI (y1.length:Int)),(24,vI t24)]:=by
 refine oX.partial_correctness p y1 _ λaI ih t24 reads writes o N B I0 I Q p1 c p2 c1 b p3 c2 b1 p4 c3 cs p5 c4 aC H h2 h h1 h6 h7 hg ho hx=>yR hg ho<|yG [25] rfl<|zZ<|yD N ?_ ?_
 ·intro aF N;refine zU<|zZ<|yH<|yE<|bE N λx ay N=>xN rfl rfl h2 ay ?_;intro ad aL ap al;obtain⟨p8,c7,rfl,h10⟩:=gL al;refine xE 0 ap (cInst x p8 c7) (vA (cInst x p8 c7)) rfl<|uB [vI 0,vI 0,z0] ?_;intro b2 hb2;refine xP 0 (cInst x p8 c7) rfl<|yC rfl<|xA<|qA 2 [4,0] [(29,vA (cProg p p1 c p2 c1)),(30,vA (cInst x p8 c7))] ?_;obtain⟨⟨y4,y5⟩,aJ,N⟩:=zB N;refine xO (zAr p x _ aJ h h1 h10) ?_;rintro aU ax v2 k2 af - ⟨v03,v04,rfl,rfl,h11,rfl⟩ -;have ⟨h2,h7,h6,h,h1,H⟩:=m6 af h2 h7 h6 h h1 H;obtain⟨p9,c8,rfl⟩:=h11.form;refine yI [] [9,10] rfl<|zJ ?_;obtain⟨l,bb,N⟩:=zB N;obtain⟨l1,bt,N⟩:=zB N;refine wX [.p (vP b1 0) [],.p (vP b1 0) [],.p (vP b1 0) [],.p (vP b1 0) [],.p (vP b1 3) [],.q (vS p4 reads c3),.p (vS p9 y4 c8) [],.x (λI' v hx=>∃b3,v=vS (some ⟨b3,0,none⟩) ([y4]:List (List Int)) 1/\hx=[]/\(SL I' (vS (some ⟨b3,0,none⟩) ([y4]:List (List Int)) 1) ([y4]:List (List Int)))),.x (λI' v hx=>∃aZ c9 br,v=vS aZ l c9/\hx=[hO (List Int) (vS aZ l c9) br]/\(RL I' br l)),.p (vP b1 0) [],.p (vP b1 0) [],.p (vP b1 4) [],.q (vS p5 writes c4),.p (vI y5) [],.x (λI' v hx=>∃b4,v=vS (some ⟨b4,0,none⟩) ([y5]:List Int) 1/\hx=[]/\(SL I' (vS (some ⟨b4,0,none⟩) ([y5]:List Int) 1) ([y5]:List Int))),.x (λI' v hx=>∃aV bh bC,v=vS aV l1 bh/\hx=[hO Int (vS aV l1 bh) bC]/\(RL I' bC l1)),.p (vP b1 0) [],.p (vP b1 3) [],.x (λI' v hx=>∃p101 c91 cs41,hx=[hB b1 [vS p1 p.Arrays c,vS p2 p.Parts c1,vS p3 y1 c2,vS p101 l c91,vS p5 writes c4],hO (List Int) (vS p101 l c91) cs41]/\(RL I' cs41 l))] [[],[],[],[(2,false)],[(3,false)],[(4,false),(24,false)],[],[(6,false)],[(5,false),(7,false),(22,true)],[],[(9,false)],[(10,false)],[(11,false),(24,false)],[],[(13,false)],[(12,false),(14,false),(23,true)],[(0,false)],[(16,false)],[(8,true),(17,false),(24,true)]] [hB b2 (cInst x p8 c7),hB b (cProg p p1 c p2 c1)] [[hO (List Int) (vS p4 reads c3) cs],[hO Int (vS p5 writes c4) aC],[hB b1 [vS p1 p.Arrays c,vS p2 p.Parts c1,vS p3 y1 c2,vS p4 reads c3,vS p5 writes c4]]] [(1,false),(15,true),(18,true)] (zX [0,4,2,1,3]) ?_ ?_
  ·refine Op<|Op<|Op<|Op<|Op<|Ob ?_<|Op<|Ox ?_<|Ox ?_<|Op<|Op<|Op<|Ob ?_<|Op<|Ox ?_<|Ox ?_<|Op<|Op<|Ox ?_<|On
   ·intro I1 hf af hbo;obtain⟨hf2,hbp⟩:=hbo.at (j:=24) (g:=[hB b1 [vS p1 p.Arrays c,vS p2 p.Parts c1,vS p3 y1 c2,vS p4 reads c3,vS p5 writes c4]]) (by decide) (by kernel_rfl) rfl;refine tV ?_;rintro _ _ ⟨rfl,rfl⟩;refine tV ?_;rintro _ _ rfl;refine kA<|zMm hbp<|zCK [(38,vP b1 3)] ?_;exact zCa (cs:=[vS p4 reads c3]) (v:=vS p4 reads c3) 2 rfl rfl rfl rfl rfl (by kernel_rfl) (by kernel_rfl) (by kernel_rfl)<|yT iR
   ·intro I1 hf af;refine yP [40] rfl ?_;have H:=iS I1;have h11:=h11.mono af;refine nV (rc y4 ⟨_,rfl,h11⟩ rN) ?_;intro b3 aQ aE h14;have H:=H.trans aE;exact yK [] H ⟨_,rfl,rfl,h14⟩
   ·rintro I1 hf af _ _ ⟨rfl,rfl⟩ _ _ ⟨b3,rfl,rfl,h14⟩ _ _ rfl;refine yP [39,41] rfl ?_;have h6:=iM af h6;obtain⟨bv,k0,k01⟩:=h14;have h14:SL I1 (vS (some ⟨b3,0,none⟩) ([y4]:List (List Int)) 1) ([y4]:List (List Int)):=⟨_,k0,k01⟩;exact pC 28 1 0 rfl rfl rfl h6 (.inl k0) k01 bb λaZ c9 br h15=>uW (ah:=(hO (List Int) (vS aZ l c9) br::hB b2 (cInst x p8 c7)::hB b (cProg p p1 c p2 c1)::hf)) rfl<|yK [hO (List Int) (vS aZ l c9) br] iR ⟨_,_,_,rfl,rfl,h15⟩
   ·intro I1 hf af hbo;obtain⟨hf2,hbp⟩:=hbo.at (j:=24) (g:=[hB b1 [vS p1 p.Arrays c,vS p2 p.Parts c1,vS p3 y1 c2,vS p4 reads c3,vS p5 writes c4]]) (by decide) (by kernel_rfl) rfl;refine tV ?_;rintro _ _ ⟨rfl,rfl⟩;refine tV ?_;rintro _ _ rfl;refine kA<|zMm hbp<|zCK [(45,vP b1 4)] ?_;exact zCa (cs:=[vS p5 writes c4]) (v:=vS p5 writes c4) 2 rfl rfl rfl rfl rfl (by kernel_rfl) (by kernel_rfl) (by kernel_rfl)<|yT iR
   ·intro I1 hf af;refine yP [47] rfl ?_;have H:=iS I1;refine nV (rI [y5]) ?_;intro b4 bz aK h17;have H:=H.trans aK;exact yK [] H ⟨_,rfl,rfl,h17⟩
   ·rintro I1 hf af _ _ ⟨rfl,rfl⟩ _ _ ⟨b4,rfl,rfl,h17⟩ _ _ rfl;refine yP [46,48] rfl ?_;have h7:=iM af h7;obtain⟨bM,k02,k03⟩:=h17;have h17:SL I1 (vS (some ⟨b4,0,none⟩) ([y5]:List Int) 1) ([y5]:List Int):=⟨_,k02,k03⟩;exact pC 3 1 0 rfl rfl rfl h7 (.inl k02) k03 bt λaV bh bC h18=>uW (ah:=(hO Int (vS aV l1 bh) bC::hB b2 (cInst x p8 c7)::hB b (cProg p p1 c p2 c1)::hf)) rfl<|yK [hO Int (vS aV l1 bh) bC] iR ⟨_,_,_,rfl,rfl,h18⟩
   rintro I1 hf af _ _ ⟨aZ,c9,br,rfl,rfl,h15⟩ _ _ ⟨rfl,rfl⟩ _ _ rfl;refine yP [42,51] rfl ?_;have H:=iS I1;exact zEs 0 [vS p1 p.Arrays c,vS p2 p.Parts c1,vS p3 y1 c2,vS aZ l c9,vS p5 writes c4] (hB b1 [vS p1 p.Arrays c,vS p2 p.Parts c1,vS p3 y1 c2,vS aZ l c9,vS p5 writes c4]::hO (List Int) (vS aZ l c9) br::hB b2 (cInst x p8 c7)::hB b (cProg p p1 c p2 c1)::hf) rfl rfl rfl rfl<|zFc (hx:=[hB b1 [vS p1 p.Arrays c,vS p2 p.Parts c1,vS p3 y1 c2,vS aZ l c9,vS p5 writes c4],hO (List Int) (vS aZ l c9) br]) rfl H rfl (zIU (v:=undef)) ⟨_,_,_,rfl,h15⟩
  rintro bK bi _ _ ⟨rfl,rfl⟩ _ _ ⟨aV,bh,bC,rfl,rfl,h18⟩ _ _ ⟨p101,c91,cs41,rfl,h151⟩;refine yP [1,6,22,23,24,35,49] rfl ?_;have ⟨h2,h,h1,H⟩:=m4 bi h2 h h1 H;exact yF 21 [] [53] rfl<|xP 0 [vS p1 p.Arrays c,vS p2 p.Parts c1,vS p3 y1 c2,vS p101 l c91,vS aV l1 bh] rfl<|yC rfl<|zP<|zJ<|zK<|yI [] [24] rfl<|yS<|jU (zW [2,1,0,4] rfl (by decide))<|nU<|ih (W (t24+1)) l l1 _ N H h2 h h1 h151 h18 hg ho hx
 intro aF N;exact wZ<|xV (zW [0,1,2] rfl (by decide))<|yN<|hx _ _ _ _ _ _ _ _ _ (zC N).symm H h6 h7
def gQ(p:zD):Option ((Option tX)×Bool):=do
 let (y1,y2)<-wU p
 if(!y2) then
  pure (none,false)
 else
  let (reads1,writes1)<-oX p y1 0 ([]:List (List Int)) ([]:List Int)
  pure ((some (tX.mk p y1 reads1 writes1)),true)
theorem zC7:∀p r,gQ p=some r->∀{I:Imm}{p1 c p2 c1},(S4 I p1 p.Arrays c)->(S4 I p2 p.Parts c1)->RT 27 [vA (cProg p p1 c p2 c1)] I [] (zFL  r):=by
 intro p r N I p1 c p2 c1 h h1;unfold gQ at N;refine yJ func27 λB=>yE<|uH (cProg p p1 c p2 c1) ?_;intro b hb;refine wG [] []<|xA<|qA 1 [0] [(12,vA (cProg p p1 c p2 c1))] ?_;obtain⟨⟨y1,y2⟩,hy,N⟩:=zB N;refine xO (pA p _ hy h h1) ?_;rintro I0 ax v2 k2 le - ⟨v0,v01,rfl,rfl,h2,rfl⟩ -;have ⟨h,h1⟩:=m2 le h h1;obtain⟨p3,c2,rfl⟩:=h2.form;refine yI [] [4,5] rfl<|zZ<|yG [17] rfl<|zJ<|yD N ?_ ?_
 ·intro hc N;refine yG [2,3] rfl<|xF<|zH ?_;obtain rfl:=zC N;exact xC ⟨_,_,(.tmp rfl (.tmp rfl ResV.nil)),zO,⟨_,_,rfl,rfl,zNG,rfl⟩⟩
 intro hc N;refine zU<|xA<|qA 3 [0] [(20,vA [vS p1 p.Arrays c,vS p2 p.Parts c1,vS p3 y1 c2,z0,z0])]<|uH [vS p1 p.Arrays c,vS p2 p.Parts c1,vS p3 y1 c2,z0,z0] ?_;intro b1 hb1;refine yI [] [6] rfl<|zZ<|yG [22,23,24] rfl<|wC<|oA [(1,vP b 0),(6,vP b1 0),(22,vS p3 y1 c2),(23,vI (y1.length:Int)),(24,vI 0)]<|dW (List Int) λh4=>?_;refine dW Int λh5=>?_;obtain⟨o0,aB,aH⟩:=zB N;refine zEa p y1 0 ([]:List (List Int)) ([]:List Int) o0 aB iR h2 h h1 h4 h5 (λ_ _ _ h=>h) (λ_ _ h=>h) ?_;intro bO reads1 writes1 p6 c5 aO p7 c6 aT heq bw h8 h9;subst o0;have ⟨h,h1,h2⟩:=m3 bw h h1 h2;refine zR<|wW [2,3] rfl<|xF<|xB 1 rfl ?_;intro I06 bD hl02;have h19:=SL.of_frozen hl02 bD h8;have ⟨h9,h,h1,h2⟩:=m4 bD h9 h h1 h2;refine xB 0 rfl ?_;intro I07 le7 hl03;have h20:=SL.of_frozen hl03 le7 h9;have ⟨h,h1,h2,h19⟩:=m4 le7 h h1 h2 h19;refine xB 0 rfl ?_;intro I08 le8 hl04;have ar:At I08 ⟨b1,0,none⟩ [vS p1 p.Arrays c,vS p2 p.Parts c1,vS p3 y1 c2,vS p6 reads1 c5,vS p7 writes1 c6]:=At.of_blk hl04;have ⟨h,h1,h2,h19,h20⟩:=m5 le8 h h1 h2 h19 h20;obtain rfl:=zC aH;exact xC ⟨_,_,(.tmp rfl (.tmp rfl ResV.nil)),zO,⟨_,_,rfl,rfl,(zNl ar (zEO ⟨_,_,_,_,_,rfl,h,h1,h2,h19,h20⟩)),rfl⟩⟩
def vG(s:(List Int))(v0:Int)(t8:Int):Option (Out Unit (Int)):=do
 if(decide (t8<(s.length:Int))) then
  let x<-idx s t8
  if(v0==x) then
   pure (.ret t8)
  else
   vG s v0 (W (t8+1))
 else
  pure (.done ())
 partial_fixpoint
theorem zAG(s:(List Int))(v0:Int):∀(t8:Int) (o:Out Unit (Int)),vG s v0 t8=some o->∀{B}{I0 I:Imm}{Q p c},I0.le I->(S4 I p s c)->NG Q->NO Q->(∀(I':Imm) ,o=(.done ())->I0.le I'->T 19 B Q (.exit 0) I' [] [])->(∀r I' ah m',o=(.ret r)->I0.le I'->RS Tryz.prog f95 B (yQ  r) I' ah m'->T 19 B Q .ret I' ah m')->J Tryz.prog 19 B (nav (bodyOf f95) [1,0,1,0]) Q I [] [(0,vS p s c),(1,vI v0),(7,vI (s.length:Int)),(8,vI t8)]:=by
 refine vG.partial_correctness s v0 _ λaI ih t8 o N B I0 I Q p c H h hg ho hx hr=>yR hg ho<|yG [9] rfl<|zZ<|yD N ?_ ?_
 ·intro hc N;refine zU<|zZ<|yH<|yG [5] rfl<|xA<|yF 3 [] [11,12,13] rfl<|bE N λx hy N=>xN rfl rfl h hy ?_;intro ad aL ap al;obtain rfl:=al;refine xE 0 ap [vI x] (vI x) rfl<|yI [] [16] rfl<|zJ<|yD N ?_ ?_
  ·intro aF N;exact yG [4] rfl<|xF<|zV<|zH<|zH<|hr _ _ _ _ (zC N).symm H ⟨_,_,(.tmp rfl ResV.nil),zO,⟨_,rfl,rfl,rfl⟩⟩
  intro aF N;exact zU<|zP<|zJ<|zK<|yI [] [8] rfl<|yS<|nU<|ih (W (t8+1)) _ N H h hg ho hx hr
 intro hc N;exact wZ<|yN<|hx _  (zC N).symm H
def nG(s:(List Int))(v0:Int):Option (Int):=do
 match<-vG s v0 0 with
 | .ret r0=>pure r0
 | .done _=>
  pure (-1)
theorem zAs:∀s v0 r,nG s v0=some r->∀{I:Imm}{p c},(S4 I p s c)->RT 95 [vS p s c,vI v0] I [] (yQ  r):=by
 intro s v0 r N I p c h;unfold nG at N;refine yJ func95 λB=>vK []<|zZ<|yG [7,8] rfl<|wC<|oA [(0,vS p s c),(1,vI v0),(7,vI (s.length:Int)),(8,vI 0)] ?_;obtain⟨o0,aB,aH⟩:=zB N;refine zAG s v0 0 o0 aB iR h (λ_ _ _ h=>h) (λ_ _ h=>h) ?_ ?_
 ·intro I0  heq le;subst o0;refine zR<|wW [4] rfl<|zJ<|yZ ?_;obtain rfl:=zC aH;exact wV
 intro r0 I9 hs9 m9 aR le9 aS;subst aR;refine zV<|zH ?_;obtain rfl:=zC aH;exact xC aS
def uZ(s:(List Int))(v0:Int):Option (Bool):=do
 let y<-nG s v0
 pure (decide (y>=0))
theorem gG:∀s v0 r,uZ s v0=some r->∀{I:Imm}{p c},(S4 I p s c)->RT 55 [vS p s c,vI v0] I [] (zS  r):=by
 intro s v0 r N I p c h;unfold uZ at N;refine yJ func55 λB=>vK []<|xA<|yF 2 [] [5,6] rfl<|bE N λy hy N=>jE (zAs s v0 _ hy h) λI0 le=>wG [] [(4,.bool (decide (y>=0)))]<|zJ<|yZ ?_;obtain rfl:=zC N;exact wV
def rA(t:tX)(from0:Int)(to0:Int):Option (Int):=do
 let x<-idx t.reads to0
 let x1<-idx t.writes from0
 let y<-uZ x x1
 let kinds<-(do
  if y then
   pure (W (0+1))
  else
   pure (id 0)
    : Option Int)
 let x2<-idx t.reads from0
 let x3<-idx t.writes to0
 let y1<-uZ x2 x3
 let kinds1<-(do
  if y1 then
   pure (W (kinds+2))
  else
   pure (id kinds)
    : Option Int)
 let x4<-idx t.writes from0
 let x5<-idx t.writes to0
 let kinds2<-(do
  if(x4==x5) then
   pure (W (kinds1+4))
  else
   pure (id kinds1)
    : Option Int)
 pure (id kinds2)
theorem fT:∀t from0 to0 r,rA t from0 to0=some r->∀{I:Imm}{ad:Addr}{p c p1 c1 p2 c2 p3 c3 p4 c4},(S4 I p t.Program.Arrays c)->(S4 I p1 t.Program.Parts c1)->(S4 I p2 t.list c2)->(S4 I p3 t.reads c3)->(S4 I p4 t.writes c4)->(At I ad [vS p t.Program.Arrays c,vS p1 t.Program.Parts c1,vS p2 t.list c2,vS p3 t.reads c3,vS p4 t.writes c4])->RT 29 [.pointer (some ad),vI from0,vI to0] I [] (yQ  r):=by
 intro t from0 to0 r N I ad p c p1 c1 p2 c2 p3 c3 p4 c4 h h1 h2 h3 h4 ap;unfold rA at N;refine yJ func29 λB=>?_;have H:=iS I;refine vK []<|wW [7] rfl<|zZ<|yA ?_;obtain⟨x,hy,N⟩:=zB N;obtain⟨x1,ay,N⟩:=zB N;obtain⟨y,aJ,N⟩:=zB N;refine wX [.p (.pointer (some ad)) [],.p (.pointer (some ad)) [],.p (.pointer (some (ad.add 3))) [],.q (vS p3 t.reads c3),.p (vI to0) [],.x (λI' v hx=>∃ad1 p5 c5,v=.pointer (some ad1)/\hx=[]/\(At I' ad1 [vS p5 x c5])/\(S4 I' p5 x c5)),.x (eS x),.p (.pointer (some ad)) [],.p (.pointer (some ad)) [],.p (.pointer (some (ad.add 4))) [],.q (vS p4 t.writes c4),.p (vI from0) [],.x (λI' v hx=>∃ad2,v=.pointer (some ad2)/\hx=[]/\(At I' ad2 [vI x1])),.q (vI x1),.q (.bool y)] [[],[(0,false)],[(1,false)],[(2,false)],[],[(3,false),(4,false)],[(5,false)],[],[(7,false)],[(8,false)],[(9,false)],[],[(10,false),(11,false)],[(12,false)],[(6,false),(13,false)]] [] [] [(14,false)] zO ?_ ?_
 ·refine Op<|Op<|Op<|Oq ?_<|Op<|Ox ?_<|Ox ?_<|Op<|Op<|Op<|Oq ?_<|Op<|Ox ?_<|Oq ?_<|Oq ?_<|On
  ·intro I1 hf af;refine yP [10] rfl ?_;have ap:=ap.mono af;exact xE 3 ap [vS p3 t.reads c3] (vS p3 t.reads c3) rfl<|yT iR
  ·intro I1 hf af;refine yP [11,12] rfl ?_;have h3:=h3.mono af;refine xN rfl rfl h3 hy ?_;intro ad1 aL ar al;obtain⟨v0,rfl,h5⟩:=al;obtain⟨p5,c5,rfl⟩:=h5.form;exact yK [] iR ⟨_,_,_,rfl,rfl,ar,h5⟩
  ·rintro I1 hf af _ _ ⟨ad1,p5,c5,rfl,rfl,ar,h5⟩;exact yP [13] rfl<|xE 0 ar [vS p5 x c5] (vS p5 x c5) rfl<|yK [] iR ⟨_,_,rfl,rfl,h5⟩
  ·intro I1 hf af;refine yP [17] rfl ?_;have ap:=ap.mono af;exact xE 4 ap [vS p4 t.writes c4] (vS p4 t.writes c4) rfl<|yT iR
  ·intro I1 hf af;refine yP [18,19] rfl ?_;have h4:=h4.mono af;refine xN rfl rfl h4 ay ?_;intro ad2 bv aP az;obtain rfl:=az;exact yK [] iR ⟨_,rfl,rfl,aP⟩
  ·rintro I1 hf af _ _ ⟨ad2,rfl,rfl,aP⟩;exact yP [20] rfl<|xE 0 aP [vI x1] (vI x1) rfl<|yT iR
  rintro I1 hf af _ _ ⟨p51,c51,rfl,rfl,h51⟩;refine yP [14,21] rfl ?_;have H:=iS I1;refine vV (gG x x1 _ aJ h51) ?_;intro I0 le;have H:=H.trans le;exact yT H
 intro aU af;refine yP [0,1,2,7,22] rfl ?_;have ⟨h3,h4,ap,H⟩:=m4 af h3 h4 ap H;refine yC rfl<|zJ ?_;refine wE N [] (λkinds=>[(0,.pointer (some ad)),(1,vI from0),(2,vI to0),(7,vI kinds)]) (λo0 aB=>?_) ?_
 ·have H:=iS aU;refine yD aB ?_ ?_
  ·intro hc N;exact zK<|yI [] [7] rfl<|yN<|zT (ct N H)
  intro hc N;exact zU<|yN<|zT (ct N H)
 intro kinds aQ aE aN;have ⟨h3,h4,ap,H⟩:=m4 aE h3 h4 ap H;refine zZ<|yA ?_;obtain⟨x2,bb,N⟩:=zB aN;obtain⟨x3,bt,N⟩:=zB N;obtain⟨y1,bH,N⟩:=zB N;refine wX [.p (.pointer (some ad)) [],.p (.pointer (some ad)) [],.p (.pointer (some (ad.add 3))) [],.q (vS p3 t.reads c3),.p (vI from0) [],.x (λI' v hx=>∃ad3 p6 c6,v=.pointer (some ad3)/\hx=[]/\(At I' ad3 [vS p6 x2 c6])/\(S4 I' p6 x2 c6)),.x (eS x2),.p (.pointer (some ad)) [],.p (.pointer (some ad)) [],.p (.pointer (some (ad.add 4))) [],.q (vS p4 t.writes c4),.p (vI to0) [],.x (λI' v hx=>∃ad4,v=.pointer (some ad4)/\hx=[]/\(At I' ad4 [vI x3])),.q (vI x3),.q (.bool y1)] [[],[(0,false)],[(1,false)],[(2,false)],[],[(3,false),(4,false)],[(5,false)],[],[(7,false)],[(8,false)],[(9,false)],[],[(10,false),(11,false)],[(12,false)],[(6,false),(13,false)]] [] [] [(14,false)] zO ?_ ?_
 ·refine Op<|Op<|Op<|Oq ?_<|Op<|Ox ?_<|Ox ?_<|Op<|Op<|Op<|Oq ?_<|Op<|Ox ?_<|Oq ?_<|Oq ?_<|On
  ·intro I1 hf af;refine yP [27] rfl ?_;have ap:=ap.mono af;exact xE 3 ap [vS p3 t.reads c3] (vS p3 t.reads c3) rfl<|yT iR
  ·intro I1 hf af;refine yP [28,29] rfl ?_;have h3:=h3.mono af;refine xN rfl rfl h3 bb ?_;intro ad3 bM hat3 aW;obtain⟨v02,rfl,h7⟩:=aW;obtain⟨p6,c6,rfl⟩:=h7.form;exact yK [] iR ⟨_,_,_,rfl,rfl,hat3,h7⟩
  ·rintro I1 hf af _ _ ⟨ad3,p6,c6,rfl,rfl,hat3,h7⟩;exact yP [30] rfl<|xE 0 hat3 [vS p6 x2 c6] (vS p6 x2 c6) rfl<|yK [] iR ⟨_,_,rfl,rfl,h7⟩
  ·intro I1 hf af;refine yP [34] rfl ?_;have ap:=ap.mono af;exact xE 4 ap [vS p4 t.writes c4] (vS p4 t.writes c4) rfl<|yT iR
  ·intro I1 hf af;refine yP [35,36] rfl ?_;have h4:=h4.mono af;refine xN rfl rfl h4 bt ?_;intro ad4 ccs3 hat4 bq;obtain rfl:=bq;exact yK [] iR ⟨_,rfl,rfl,hat4⟩
  ·rintro I1 hf af _ _ ⟨ad4,rfl,rfl,hat4⟩;exact yP [37] rfl<|xE 0 hat4 [vI x3] (vI x3) rfl<|yT iR
  rintro I1 hf af _ _ ⟨p61,c61,rfl,rfl,h71⟩;refine yP [31,38] rfl ?_;have H:=iS I1;refine vV (gG x2 x3 _ bH h71) ?_;intro bz aK;have H:=H.trans aK;exact yT H
 intro bK bi;refine yP [0,1,2,7,39] rfl ?_;have ⟨h4,ap,H⟩:=m3 bi h4 ap H;refine yC rfl<|zJ ?_;refine wE N [] (λkinds1=>[(0,.pointer (some ad)),(1,vI from0),(2,vI to0),(7,vI kinds1)]) (λaM aA=>?_) ?_
 ·have H:=iS bK;refine yD aA ?_ ?_
  ·intro aF N;exact zK<|yI [] [7] rfl<|yN<|zT (ct N H)
  intro aF N;exact zU<|yN<|zT (ct N H)
 intro kinds1 bO bw hMc1;have ⟨h4,ap,H⟩:=m3 bw h4 ap H;refine zZ<|yA<|nP (by kernel_rfl) (by kernel_rfl)<|gN 3 [] [44] rfl<|kF 4 ap [vS p4 t.writes c4] (vS p4 t.writes c4) rfl<|gN 5 [] [46] rfl ?_;obtain⟨x4,hy6,N⟩:=zB hMc1;refine gT rfl rfl h4 hy6 ?_;intro ad5 ccs4 hat5 hrep4;obtain rfl:=hrep4;refine kF 0 hat5 [vI x4] (vI x4) rfl<|gN 10 [] [51] rfl<|kF 4 ap [vS p4 t.writes c4] (vS p4 t.writes c4) rfl<|gN 12 [] [53] rfl<|bE N λx5 hy7 N=>gT rfl rfl h4 hy7 ?_;intro ad6 ccs5 hat6 hrep5;obtain rfl:=hrep5;refine kF 0 hat6 [vI x5] (vI x5) rfl<|zEw [] [56] rfl<|zJ ?_;refine wE N [] (λkinds2=>[(7,vI kinds2)]) (λo02 ho02=>?_) ?_
 ·have H:=iS bO;refine yD ho02 ?_ ?_
  ·intro bd N;exact zK<|yI [] [7] rfl<|yN<|zT (ct N H)
  intro bd N;exact zU<|yN<|zT (ct N H)
 intro kinds2 I06 bD hMc2;refine wW [6] rfl<|zJ<|yZ ?_;obtain rfl:=zC hMc2;exact wV
def jP(r:(List zY)):KT:=λkk I' ah v=>
 ∃v0,ah=[]/\v=tupV [v0]/\SL I' v0 r
def tR(t:tX)(t12:Int)(am:List zY)(to0:Int):Option (List zY):=do
 if(decide (to0<(t.list.length:Int))) then
  let y<-rA t t12 to0
  let bf<-(do
   if(decide (y>0)) then
    let out5<-app 24 am ([(zY.mk t12 to0 y)]:List zY)
    pure (id out5)
   else
    pure (id am)
     : Option (List zY))
  tR t t12 bf (W (to0+1))
 else
  pure (id am)
 partial_fixpoint
theorem zBI(t:tX)(t12:Int):∀(am:List zY) (to0:Int) (o:List zY),tR t t12 am to0=some o->∀{B}{I0 I:Imm}{Q}  {ad:Addr}{p c p1 c1 p2 c2 p3 c3 p4 c4 p7 c7 aO},I0.le I->(S4 I p t.Program.Arrays c)->(S4 I p1 t.Program.Parts c1)->(S4 I p2 t.list c2)->(S4 I p3 t.reads c3)->(S4 I p4 t.writes c4)->(At I ad [vS p t.Program.Arrays c,vS p1 t.Program.Parts c1,vS p2 t.list c2,vS p3 t.reads c3,vS p4 t.writes c4])->(RL I aO am)->NG Q->NO Q->(∀(I':Imm) (aD:List zY) (p8:Option Addr) (c8:Nat) (aT:List Value),o=aD->I0.le I'->(RL I' aT aD)->T 41 B Q (.exit 2) I' [hO zY (vS p8 aD c8) aT] [(0,.pointer (some ad)),(3,vS p8 aD c8),(11,vI (t.list.length:Int)),(12,vI t12)])->J Tryz.prog 41 B (nav (bodyOf f53) [1,1,0,1,0,0,1,1,0,0,1,1,0]) Q I [hO zY (vS p7 am c7) aO] [(0,.pointer (some ad)),(3,vS p7 am c7),(4,vI t12),(5,vI to0),(11,vI (t.list.length:Int)),(12,vI t12)]:=by
 refine tR.partial_correctness t t12 _ λaI ih am to0 o N B I0 I Q ad p c p1 c1 p2 c2 p3 c3 p4 c4 p7 c7 aO H h h1 h2 h3 h4 ap h8 hg ho hx=>yR hg ho<|yA<|yE<|yF 4 [] [17,20] rfl<|xE 2 ap [vS p2 t.list c2] (vS p2 t.list c2) rfl<|yI [] [23] rfl<|zJ<|yD N ?_ ?_
 ·intro aF N;refine zU<|zZ<|yH<|yE<|yF 3 [] [26,27,28] rfl<|bE N λy hy N=>jE (fT t t12 to0 _ hy h h1 h2 h3 h4 ap) ?_;intro I0 le;have ⟨h,h1,h2,h3,h4,ap⟩:=m6 le h h1 h2 h3 h4 ap;have ⟨h8,H⟩:=m2 le h8 H;refine yI [] [6] rfl<|wW [31] rfl<|zJ ?_;obtain⟨o0,aB,aN⟩:=zB N;refine pZ (λI' ah m'=>∃(bf:List zY) (p9:Option Addr) (c9:Nat) (br:List Value),o0=bf/\I0.le I'/\(RL I' br bf)/\ah=[hO zY (vS p9 bf c9) br]/\m'=[(0,.pointer (some ad)),(3,vS p9 bf c9),(4,vI t12),(5,vI to0),(11,vI (t.list.length:Int)),(12,vI t12)]) ?_ ?_
  ·have H:=iS I0;refine yD aB ?_ ?_
   ·intro bd N;refine zK<|yF 5 [] [32,36] rfl<|tU [vI t12,vI to0,vI y] zY ?_;intro b hb;have h12:RL I0 [vI t12,vI to0,vI y] ([(zY.mk t12 to0 y)]:List zY):=⟨[vI t12,vI to0,vI y],_,rfl,rfl,(zA4 rfl),rfl⟩;obtain⟨out5,ay,N⟩:=zB N;exact pC 92 3 1 rfl rfl rfl h8 (.inr ⟨0,rfl⟩) h12 ay λaZ bh bC h13=>qE (zX [1] (ah:=[hO zY (vS aZ out5 bh) bC]))<|yI [] [3] rfl<|yN<|zT ⟨_,_,_,_,(zC N).symm,H,h13,rfl,rfl⟩
   intro bd N;exact zU<|yN<|zT ⟨_,_,_,_,(zC N).symm,H,h8,rfl,rfl⟩
  rintro aU ax m2 ⟨bf,p9,c9,br,heq,af,h11,rfl,rfl⟩;subst o0;have ⟨h,h1,h2,h3,h4,ap⟩:=m6 af h h1 h2 h3 h4 ap;have H:=H.trans af;exact zP<|zJ<|zK<|yI [] [5] rfl<|yS<|nU<|ih bf (W (to0+1)) _ aN H h h1 h2 h3 h4 ap h11 hg ho hx
 intro aF N;exact wZ<|yN<|hx _ _ _ _ _ (zC N).symm H h8
def tS(t:tX)(out:List zY)(t12:Int):Option (List zY):=do
 if(decide (t12<(t.list.length:Int))) then
  let aD<-tR t t12 out (W (t12+1))
  tS t aD (W (t12+1))
 else
  pure (id out)
 partial_fixpoint
theorem zBJ(t:tX):∀(out:List zY) (t12:Int) (o:List zY),tS t out t12=some o->∀{B}{I0 I:Imm}{Q}  {ad:Addr}{p c p1 c1 p2 c2 p3 c3 p4 c4 p5 c5 cs},I0.le I->(S4 I p t.Program.Arrays c)->(S4 I p1 t.Program.Parts c1)->(S4 I p2 t.list c2)->(S4 I p3 t.reads c3)->(S4 I p4 t.writes c4)->(At I ad [vS p t.Program.Arrays c,vS p1 t.Program.Parts c1,vS p2 t.list c2,vS p3 t.reads c3,vS p4 t.writes c4])->(RL I cs out)->NG Q->NO Q->(∀(I':Imm) (aj:List zY) (p6:Option Addr) (c6:Nat) (aC:List Value),o=aj->I0.le I'->(RL I' aC aj)->T 41 B Q (.exit 0) I' [hO zY (vS p6 aj c6) aC] [(3,vS p6 aj c6)])->J Tryz.prog 41 B (nav (bodyOf f53) [1,1,0,1,0]) Q I [hO zY (vS p5 out c5) cs] [(0,.pointer (some ad)),(3,vS p5 out c5),(11,vI (t.list.length:Int)),(12,vI t12)]:=by
 refine tS.partial_correctness t _ λaI ih out t12 o N B I0 I Q ad p c p1 c1 p2 c2 p3 c3 p4 c4 p5 c5 cs H h h1 h2 h3 h4 ap h6 hg ho hx=>yR hg ho<|yG [13] rfl<|zZ<|yD N ?_ ?_
 ·intro hc N;refine zU<|zZ<|yH<|yG [4] rfl<|wW [5] rfl<|wC<|oA [(0,.pointer (some ad)),(3,vS p5 out c5),(4,vI t12),(5,vI (W (t12+1))),(11,vI (t.list.length:Int)),(12,vI t12)] ?_;obtain⟨aM,aA,aH⟩:=zB N;refine zBI t t12 out (W (t12+1)) aM aA iR h h1 h2 h3 h4 ap h6 (λ_ _ _ h=>hg _ _ _ h) (λ_ _ h=>ho _ _ h) ?_;intro aQ aD p8 c8 aT heq1 aE h9;subst aM;have ⟨h,h1,h2,h3,h4,ap⟩:=m6 aE h h1 h2 h3 h4 ap;have H:=H.trans aE;exact zR<|zP<|zJ<|zK<|yI [] [12] rfl<|yS<|nU<|ih aD (W (t12+1)) _ aH H h h1 h2 h3 h4 ap h9 hg ho hx
 intro hc N;exact wZ<|yN<|hx _ _ _ _ _ (zC N).symm H h6
def jC(t:tX):Option ((List zY)):=do
 let aj<-tS t ([]:List zY) 0
 pure (id aj)
theorem zCW:∀t r,jC t=some r->∀{I:Imm}{ad:Addr}{p c p1 c1 p2 c2 p3 c3 p4 c4},(S4 I p t.Program.Arrays c)->(S4 I p1 t.Program.Parts c1)->(S4 I p2 t.list c2)->(S4 I p3 t.reads c3)->(S4 I p4 t.writes c4)->(At I ad [vS p t.Program.Arrays c,vS p1 t.Program.Parts c1,vS p2 t.list c2,vS p3 t.reads c3,vS p4 t.writes c4])->RT 53 [.pointer (some ad)] I [] (jP  r):=by
 intro t r N I ad p c p1 c1 p2 c2 p3 c3 p4 c4 h h1 h2 h3 h4 ap;unfold jC at N;refine yJ func53 λB=>vK []<|zHd [(3,z0)]<|zZ<|yE<|yF 3 [] [9] rfl<|xE 2 ap [vS p2 t.list c2] (vS p2 t.list c2) rfl<|yI [] [11,12] rfl<|wC<|oA [(0,.pointer (some ad)),(3,z0),(11,vI (t.list.length:Int)),(12,vI 0)]<|dW zY λh5=>?_;obtain⟨o02,ho02,hMl1⟩:=zB N;refine zBJ t ([]:List zY) 0 o02 ho02 iR h h1 h2 h3 h4 ap h5 (λ_ _ _ h=>h) (λ_ _ h=>h) ?_;intro bz aj p6 c6 aC heq2 aK h7;subst o02;refine zR<|wW [2] rfl<|xF<|xB 0 rfl ?_;intro bK bi hl0;have h14:=SL.of_frozen hl0 bi h7;obtain rfl:=zC hMl1;exact xC ⟨_,_,(.tmp rfl ResV.nil),zO,⟨_,rfl,rfl,h14⟩⟩
def pV(p:zD):Option ((List zY)):=do
 let (y1,y2)<-gQ p
 if(!y2) then
  pure ([]:List zY)
 else
  let t<-y1
  let y3<-jC t
  pure (id y3)
theorem dH:∀p r,pV p=some r->∀{I:Imm}{p1 c p2 c1},(S4 I p1 p.Arrays c)->(S4 I p2 p.Parts c1)->RT 25 [vA (cProg p p1 c p2 c1)] I [] (jP  r):=by
 intro p r N I p1 c p2 c1 h h1;unfold pV at N;refine yJ func25 λB=>yE<|uH (cProg p p1 c p2 c1) ?_;intro b hb;refine wG [] []<|xA<|qA 1 [0] [(6,vA (cProg p p1 c p2 c1))] ?_;obtain⟨⟨y1,y2⟩,hy,N⟩:=zB N;refine xO (zC7 p _ hy h h1) ?_;rintro I0 ax v2 k2 le - ⟨v0,v01,rfl,rfl,h2,rfl⟩ -;refine yI [] [3,4] rfl<|zZ<|yG [11] rfl<|zJ<|yD N ?_ ?_
 ·intro hc N;refine vK [(2,z0)]<|xF<|zH ?_;obtain rfl:=zC N;exact xC ⟨_,_,(.tmp rfl ResV.nil),zO,⟨_,rfl,rfl,(SL.nil _)⟩⟩
 intro hc N;refine zU<|xA<|qA 1 [] [(12,v0)] ?_;obtain⟨t,ay,N⟩:=zB N;obtain⟨ad,aL,rfl,ap,al⟩:=zHc h2 ay;obtain⟨p3,c2,p4,c3,p5,c4,p6,c5,p7,c6,rfl,h4,h5,h6,h7,h8⟩:=dV al;obtain⟨y3,aJ,N⟩:=zB N;refine xO (zCW t _ aJ h4 h5 h6 h7 h8 ap) ?_;rintro aU ax v2 k2 af - ⟨v07,rfl,rfl,h9⟩ -;obtain⟨p8,c7,rfl⟩:=h9.form;refine yI [] [2] rfl<|zJ<|yZ ?_;obtain rfl:=zC N;exact xC ⟨_,_,(.tmp rfl ResV.nil),zO,⟨_,rfl,rfl,h9⟩⟩
def gH(r:(List zM)):KT:=λkk I' ah v=>
 ∃v0,ah=[]/\v=tupV [v0]/\SL I' v0 r
def rX(p:zD):Option ((List zM)):=do
 let (y1,y2)<-wU p
 if(!y2) then
  pure ([]:List zM)
 else
  pure (id y1)
theorem zA7:∀p r,rX p=some r->∀{I:Imm}{p1 c p2 c1},(S4 I p1 p.Arrays c)->(S4 I p2 p.Parts c1)->RT 26 [vA (cProg p p1 c p2 c1)] I [] (gH  r):=by
 intro p r N I p1 c p2 c1 h h1;unfold rX at N;refine yJ func26 λB=>yE<|uH (cProg p p1 c p2 c1) ?_;intro b hb;refine wG [] []<|xA<|qA 1 [0] [(6,vA (cProg p p1 c p2 c1))] ?_;obtain⟨⟨y1,y2⟩,hy,N⟩:=zB N;refine xO (pA p _ hy h h1) ?_;rintro I0 ax v2 k2 le - ⟨v0,v01,rfl,rfl,h2,rfl⟩ -;obtain⟨p3,c2,rfl⟩:=h2.form;refine yI [] [3,4] rfl<|zZ<|yG [11] rfl<|zJ<|yD N ?_ ?_
 ·intro hc N;refine vK [(2,z0)]<|xF<|zH ?_;obtain rfl:=zC N;exact xC ⟨_,_,(.tmp rfl ResV.nil),zO,⟨_,rfl,rfl,(SL.nil _)⟩⟩
 intro hc N;refine zU<|wW [2] rfl<|zJ<|yZ ?_;obtain rfl:=zC N;exact xC ⟨_,_,(.tmp rfl ResV.nil),zO,⟨_,rfl,rfl,h2⟩⟩
def mD(p:zD):Option ((List Int)):=do
 let y<-pV p
 let y1<-rX p
 let y2<-fD y (y1.length:Int)
 pure (id y2)
theorem zAt:∀p r,mD p=some r->∀{I:Imm}{p1 c p2 c1},(S4 I p1 p.Arrays c)->(S4 I p2 p.Parts c1)->RT 10 [vA (cProg p p1 c p2 c1)] I [] (nM  r):=by
 intro p r N I p1 c p2 c1 h h1;unfold mD at N;refine yJ func10 λB=>?_;have H:=iS I;refine yE<|uH (cProg p p1 c p2 c1) ?_;intro b hb;refine wG [] []<|zJ<|yA ?_;obtain⟨y,hy,N⟩:=zB N;obtain⟨y1,ay,N⟩:=zB N;obtain⟨y2,aJ,N⟩:=zB N;refine wX [.p (vA (cProg p p1 c p2 c1)) [0],.x (eS y),.p (vA (cProg p p1 c p2 c1)) [0],.x (eS y1),.q (vI (y1.length:Int)),.x (eS y2)] [[],[(0,false)],[],[(2,false)],[(3,false)],[(1,false),(4,false)]] [hB b (cProg p p1 c p2 c1)] [] [(5,false)] (zX [0]) ?_ ?_
 ·refine Op<|Ox ?_<|Op<|Ox ?_<|Oq ?_<|Ox ?_<|On
  ·intro I1 hf af;refine yP [3] rfl ?_;have H:=iS I1;have ⟨h,h1⟩:=m2 af h h1;refine xO (dH p _ hy h h1) ?_;rintro I0 ax v2 k2 le - ⟨v0,rfl,rfl,h2⟩ -;have H:=H.trans le;obtain⟨p3,c2,rfl⟩:=h2.form;exact yK [] H ⟨_,_,rfl,rfl,h2⟩
  ·intro I1 hf af;refine yP [5] rfl ?_;have H:=iS I1;have ⟨h,h1⟩:=m2 af h h1;refine xO (zA7 p _ ay h h1) ?_;rintro aU ax v2 k2 af - ⟨v01,rfl,rfl,h3⟩ -;have H:=H.trans af;obtain⟨p4,c3,rfl⟩:=h3.form;exact yK [] H ⟨_,_,rfl,rfl,h3⟩
  ·rintro I1 hf af _ _ ⟨p4,c3,rfl,rfl,h3⟩;exact yP [6] rfl<|rS 5 [(7,vI (y1.length:Int))]<|yT iR
  rintro I1 hf af _ _ ⟨p3,c2,rfl,rfl,h2⟩;refine yP [4,7] rfl ?_;have H:=iS I1;refine xO (zGF y (y1.length:Int) _ aJ h2) ?_;rintro aQ ax v2 k2 aE - ⟨v02,rfl,rfl,h4⟩ -;have H:=H.trans aE;obtain⟨p5,c4,rfl⟩:=h4.form;exact yK [] H ⟨_,_,rfl,rfl,h4⟩
 rintro bz aK _ _ ⟨p5,c4,rfl,rfl,h4⟩;refine yP [8] rfl ?_;refine yI [] [2] rfl<|zJ<|yZ ?_;obtain rfl:=zC N;exact xC ⟨_,_,(.tmp rfl ResV.nil),zO,⟨_,rfl,rfl,h4⟩⟩
def fK(p:Option Addr)(c:Nat)(s r:List Int):KT:=λkk I' ah v=>
 ∃cs',ah=[hO Int (vS p r c) cs']/\v=tupV []/\r.length=s.length/\RL I' cs' r
def xX(x:List Int)(f0:Int->Int->Option Int):Option (List Int):=if x.length<2305843009213693952/\∀a∈x,∀b∈x,(f0 a b).isSome=true then some (srS x f0) else none
theorem fU:∀x f0 r,xX x f0=some r->∀{I:Imm}{p c cs}{h:Nat}{cap:List Value},RL I cs x->FV2 Tryz.prog I [] (.func (.func h) ⟨[]⟩ ⟨cap⟩) f0->RT 19 [vS p x c,.func (.func h) ⟨[]⟩ ⟨cap⟩] I [hO Int (vS p x c) cs] (fK p c x r):=by
 intro x f0 r N I p c cs h cap hR hF;unfold xX at N;split at N
 ·rename_i hb;cases N
  have eg:∀args w,(callFunc h args).run Tryz.prog w=.ok (.enter h args) w:=by
   obtain⟨f1,first,cap1,e1,hca,_⟩:=hF;injection e1 with e1 _ _;injection e1 with e1;subst e1;exact λargs w=>zAw hca
  exact zJW (λblk off c d w h1 h2 h3=>zMS _ h ⟨cap⟩ (cfN f0) blk off c d.size d w eg h1 h2 rfl h3 d w rfl (SW.start h2.hH)) (λp c w=>zLW p c _ w) hb.1 hF hb.2 hR λk cs' h'=>⟨cs',rfl,rfl,zCf _ _,h'⟩
 cases N
def xZ(a0:Int)(b:Int)(x:(List Int)):Option (Int):=do
 let x1<-idx x a0
 let x2<-idx x b
 pure (W (x1 - x2))
theorem zBs:∀a0 b x r,xZ a0 b x=some r->∀{I:Imm}{ad:Addr}{p c},(S4 I p x c)->(At I ad [vS p x c])->RT 20 [vI a0,vI b,.pointer (some ad)] I [] (yQ  r):=by
 intro a0 b x r N I ad p c h ap;unfold xZ at N;refine yJ func20 λB=>vK []<|zZ<|nP (by kernel_rfl) (by kernel_rfl)<|kF 0 ap [vS p x c] (vS p x c) rfl<|gN 2 [] [7] rfl<|bE N λx1 hy N=>gT rfl rfl h hy ?_;intro ad1 aL ar al;obtain rfl:=al;refine kF 0 ar [vI x1] (vI x1) rfl<|kF 0 ap [vS p x c] (vS p x c) rfl<|gN 6 [] [11] rfl<|bE N λx2 ay N=>gT rfl rfl h ay ?_;intro ad2 bv aP az;obtain rfl:=az;refine kF 0 aP [vI x2] (vI x2) rfl<|zEw [] [5] rfl<|zJ<|yZ ?_;obtain rfl:=zC N;exact wV
def uY(y:(List Int))(out:List Int)(t10:Int):Option (List Int):=do
 if(decide (t10<(y.length:Int))) then
  let am<-app 8 out ([t10]:List Int)
  uY y am (W (t10+1))
 else
  pure (id out)
 partial_fixpoint
theorem zB2(y:(List Int)):∀(out:List Int) (t10:Int) (o:List Int),uY y out t10=some o->∀{B}{I0 I:Imm}{Q p3 c2}{b1:Nat}{p4 c3 cs},I0.le I->(S4 I p3 y c2)->(RL I cs out)->NG Q->NO Q->(∀(I':Imm) (aj:List Int) (p5:Option Addr) (c4:Nat) (aC:List Value),o=aj->I0.le I'->(RL I' aC aj)->T 22 B Q (.exit 0) I' [hO Int (vS p5 aj c4) aC,hB b1 [vS p3 y c2]] [(3,vP b1 0),(4,vS p5 aj c4)])->J Tryz.prog 22 B (nav (bodyOf f6) [1,1,1,0,1,0]) Q I [hO Int (vS p4 out c3) cs,hB b1 [vS p3 y c2]] [(3,vP b1 0),(4,vS p4 out c3),(9,vI (y.length:Int)),(10,vI t10)]:=by
 refine uY.partial_correctness y _ λaI ih out t10 o N B I0 I Q p3 c2 b1 p4 c3 cs H h2 h4 hg ho hx=>yR hg ho<|yG [11] rfl<|zZ<|yD N ?_ ?_
 ·intro hc N;refine zU<|zZ<|yH<|yG [5] rfl<|zJ<|zK<|yF 2 [] [13,14] rfl<|tU [vI t10] Int ?_;intro b2 hb2;have h6:RL I [vI t10] ([t10]:List Int):=rI [t10];obtain⟨am,ay,N⟩:=zB N;exact pC 3 1 1 rfl rfl rfl h4 (.inr ⟨0,rfl⟩) h6 ay λp6 c5 aO h7=>qE (zX [1,2] (ah:=[hO Int (vS p6 am c5) aO,hB b1 [vS p3 y c2]]))<|yI [] [4] rfl<|zP<|zJ<|zK<|yI [] [10] rfl<|yS<|nU<|ih am (W (t10+1)) _ N H h2 h7 hg ho hx
 intro hc N;exact wZ<|yN<|hx _ _ _ _ _ (zC N).symm H h4
def mM(p:zD):Option ((List Int)):=do
 let y<-mD p
 let aj<-uY y ([]:List Int) 0
 let y1<-xX aj (λx0 x1=>xZ x0 x1 y)
 pure (id y1)
theorem zDA:∀p r,mM p=some r->∀{I:Imm}{p1 c p2 c1},(S4 I p1 p.Arrays c)->(S4 I p2 p.Parts c1)->RT 6 [vA (cProg p p1 c p2 c1)] I [] (nM  r):=by
 intro p r N I p1 c p2 c1 h h1;unfold mM at N;refine yJ func6 λB=>yE<|uH (cProg p p1 c p2 c1) ?_;intro b hb;refine wG [] []<|xA<|qA 1 [0] [(6,vA (cProg p p1 c p2 c1))]<|bE N λy hy N=>xO (zAt p _ hy h h1) ?_;rintro I0 ax v2 k2 le - ⟨v0,rfl,rfl,h2⟩ -;have h:=h.mono le;obtain⟨p3,c2,rfl⟩:=h2.form;refine uB [z0] ?_;intro b1 hb1;refine xP 0 [vS p3 y c2] rfl<|yC rfl<|zHd [(4,z0)]<|zZ<|yE<|yI [0] [9,10] rfl<|wC<|jU (zX [0] (ah:=[hB b1 [vS p3 y c2]]))<|oA [(3,vP b1 0),(4,z0),(9,vI (y.length:Int)),(10,vI 0)]<|dW Int λh3=>?_;obtain⟨o0,aB,aH⟩:=zB N;refine zB2 y ([]:List Int) 0 o0 aB iR h2 h3 (λ_ _ _ h=>h) (λ_ _ h=>h) ?_;intro aU aj p5 c4 aC heq af h5;subst o0;have h2:=h2.mono af;refine zR<|xA<|yF 2 [] [18,19] rfl<|xM 1 rfl ?_;intro aQ aE hl0;have ap:At aQ ⟨b1,0,none⟩ [vS p3 y c2]:=At.of_blk hl0;have ⟨h5,h2⟩:=m2 aE h5 h2;have hf0:FV2 Tryz.prog aQ [] (.func (.func 20) ⟨[]⟩ ⟨[vP b1 0]⟩) (λx0 x1=>xZ x0 x1 y):=by
  refine FV2.intro ?_;intro I1 af x0 x1 r u0 u1 hF k0 k1;obtain rfl:=k0;obtain rfl:=k1;exact(zBs x0 x1 y r hF (h2.mono af) (ap.mono af)).mono (by rintro k i hs u ⟨v0,rfl,rfl,h⟩;exact⟨rfl,h⟩)
 obtain⟨y1,aJ,N⟩:=zB aH;refine rC (fU aj (λx0 x1=>xZ x0 x1 y) _ aJ h5 hf0) rfl ?_;rintro bz ax v2 k2 aK - ⟨aT,rfl,rfl,hl01,h8⟩ -;refine oZ (m':=[(4,vS p5 aj c4),(20,.tuple ⟨[]⟩)]) ⟨rfl,rfl,trivial⟩<|fX (ah:=[hO Int (vS p5 y1 c4) aT]) (m':=[(4,vS p5 y1 c4),(20,.tuple ⟨[]⟩)]) rfl (by first|rfl|simp only[vS,hl01])<|yC rfl<|wW [2] rfl<|xF<|xB 0 rfl ?_;intro bK bi hl02;have h9:=SL.of_frozen hl02 bi h8;obtain rfl:=zC N;exact xC ⟨_,_,(.tmp rfl ResV.nil),zO,⟨_,rfl,rfl,h9⟩⟩
def pW(a0:(List Int))(b:(List Int))(i:Int):Option (Out Unit (Bool)):=do
 if(decide (i<(a0.length:Int))) then
  let x<-idx a0 i
  let x1<-idx b i
  if(x != x1) then
   pure (.ret false)
  else
   pW a0 b (W (i+1))
 else
  pure (.done ())
 partial_fixpoint
theorem zDq(a0:(List Int))(b:(List Int)):∀(i:Int) (o:Out Unit (Bool)),pW a0 b i=some o->∀{B}{I0 I:Imm}{Q p c p1 c1},I0.le I->(S4 I p a0 c)->(S4 I p1 b c1)->NG Q->NO Q->(∀(I':Imm) ,o=(.done ())->I0.le I'->T 26 B Q (.exit 0) I' [] [])->(∀r I' ah m',o=(.ret r)->I0.le I'->RS Tryz.prog f7 B (zS  r) I' ah m'->T 26 B Q .ret I' ah m')->J Tryz.prog 26 B (nav (bodyOf f7) [1,1,0,1,0]) Q I [] [(0,vS p a0 c),(1,vS p1 b c1),(5,vI i)]:=by
 refine pW.partial_correctness a0 b _ λaI ih i o N B I0 I Q p c p1 c1 H h h1 hg ho hx hr=>yR hg ho<|yA<|yG [14] rfl<|zJ<|yD N ?_ ?_
 ·intro aF N;refine zU<|zZ<|yH<|yA<|nP (by kernel_rfl) (by kernel_rfl)<|gN 2 [] [17,18] rfl<|bE N λx hy N=>gT rfl rfl h hy ?_;intro ad aL ap al;obtain rfl:=al;refine kF 0 ap [vI x] (vI x) rfl<|gN 6 [] [21,22] rfl<|bE N λx1 ay N=>gT rfl rfl h1 ay ?_;intro ad1 bv ar az;obtain rfl:=az;refine kF 0 ar [vI x1] (vI x1) rfl<|zEw [] [25] rfl<|zJ<|yD N ?_ ?_
  ·intro bd N;exact vK [(4,vF)]<|xF<|zV<|zH<|zH<|hr _ _ _ _ (zC N).symm H ⟨_,_,(.tmp rfl ResV.nil),zO,⟨_,rfl,rfl,rfl⟩⟩
  intro bd N;exact zU<|zP<|zJ<|zK<|yI [] [5] rfl<|yS<|nU<|ih (W (i+1)) _ N H h h1 hg ho hx hr
 intro aF N;exact wZ<|yN<|hx _  (zC N).symm H
def jM(a0:(List Int))(b:(List Int)):Option (Bool):=do
 if((a0.length:Int) != (b.length:Int)) then
  pure false
 else
  match<-pW a0 b 0 with
  | .ret r0=>pure r0
  | .done _=>
   pure true
theorem zBt:∀a0 b r,jM a0 b=some r->∀{I:Imm}{p c p1 c1},(S4 I p a0 c)->(S4 I p1 b c1)->RT 7 [vS p a0 c,vS p1 b c1] I [] (zS  r):=by
 intro a0 b r N I p c p1 c1 h h1;unfold jM at N;refine yJ func7 λB=>vK []<|zZ<|yG [10] rfl<|zJ<|yD N ?_ ?_
 ·intro hc N;refine vK [(4,vF)]<|xF<|zH ?_;obtain rfl:=zC N;exact wV
 intro hc N;refine zU<|zZ<|yG [5] rfl<|wC<|oA [(0,vS p a0 c),(1,vS p1 b c1),(5,vI 0)] ?_;obtain⟨o0,aB,aH⟩:=zB N;refine zDq a0 b 0 o0 aB iR h h1 (λ_ _ _ h=>h) (λ_ _ h=>h) ?_ ?_
 ·intro I0  heq le;subst o0;refine zR<|zHd [(4,vY)]<|zJ<|yZ ?_;obtain rfl:=zC aH;exact wV
 intro r0 I9 hs9 m9 aR le9 aS;subst aR;refine zV<|zH ?_;obtain rfl:=zC aH;exact xC aS
def wI(p:zD)(i:Int)(y:(List (List Int)))(k0:Int)(bf:List zM)(s:Int):Option (List zM):=do
 let x1<-idx p.Parts i
 if(decide (s<(x1.Body.length:Int))) then
  let x2<-idx y k0
  let l<-app 8 ([]:List Int) x2
  let out6<-app 40 bf ([(zM.mk i s l)]:List zM)
  wI p i y k0 out6 (W (s+1))
 else
  pure (id bf)
 partial_fixpoint
theorem zBK(p:zD)(i:Int)(y:(List (List Int)))(k0:Int):∀(bf:List zM) (s:Int) (o:List zM),wI p i y k0 bf s=some o->∀{B}{I0 I:Imm}{Q p1 c p2 c1}{b:Nat}{p7 c6 aO aZ c9 bC},I0.le I->(RL I aO y)->(S4 I p1 p.Arrays c)->(S4 I p2 p.Parts c1)->(RL I bC bf)->NG Q->NO Q->(∀(I':Imm) (out5:List zM) (aV:Option Addr) (bh:Nat) (cs6:List Value),o=out5->I0.le I'->(RL I' cs6 out5)->T 54 B Q (.exit 4) I' [hO (List Int) (vS p7 y c6) aO,hO zM (vS aV out5 bh) cs6,hB b (cProg p p1 c p2 c1)] [(1,vP b 0),(3,vS aV out5 bh),(4,vI i),(5,vS p7 y c6),(6,vI k0)])->J Tryz.prog 54 B (nav (bodyOf f69) [1,1,0,1,0,0,1,0,0,1,1,0,0,1,0,0,1,0]) Q I [hO (List Int) (vS p7 y c6) aO,hO zM (vS aZ bf c9) bC,hB b (cProg p p1 c p2 c1)] [(1,vP b 0),(3,vS aZ bf c9),(4,vI i),(5,vS p7 y c6),(6,vI k0),(7,vI s)]:=by
 refine wI.partial_correctness p i y k0 _ λaI ih bf s o N B I0 I Q p1 c p2 c1 b p7 c6 aO aZ c9 bC H h8 h h1 h11 hg ho hx=>yR hg ho<|yA<|yE<|yF 4 [2] [30,32,33] rfl<|bE N λx1 aJ N=>xN rfl rfl h1 aJ ?_;intro ad1 bv ar az;obtain⟨bB,bj,bm,bo,rfl,h13,h14⟩:=tB az;refine yF 6 [] [35] rfl<|xE 1 ar [vS bm x1.Body bo] (vS bm x1.Body bo) rfl<|yI [] [38] rfl<|zJ<|yD N ?_ ?_
 ·intro bd N;refine zU<|zZ<|yH<|zK<|yF 3 [] [41,42,43] rfl<|tU [] Int ?_;intro b3 hb3;have h15:RL I [] ([]:List Int):=rfl;refine yF 6 [] [45,46] rfl<|bE N λx2 bb N=>nA 1 rfl rfl rfl h8 bb ?_;intro ad2 bM aP bG aW;obtain⟨v04,rfl,h16⟩:=aW;obtain⟨p14,bu,rfl⟩:=h16.form;refine zCJ 1 0 aP bG [vS p14 x2 bu] (vS p14 x2 bu) rfl rfl ?_;obtain⟨ccs3,k01,k02⟩:=h16;have h16:SL I (vS p14 x2 bu) x2:=⟨_,k01,k02⟩;obtain⟨l,bt,N⟩:=zB N;refine pC 3 1 0 rfl rfl rfl h15 (.inl k01) k02 bt λp15 c14 cs7 h17=>qE (zX [0,1,2,3] (ah:=[hO Int (vS p15 l c14) cs7,hO (List Int) (vS p7 y c6) aO,hO zM (vS aZ bf c9) bC,hB b (cProg p p1 c p2 c1)]))<|yF 10 [] [50] rfl<|xM 0 rfl ?_;intro aU af hl0;have h18:=SL.of_frozen hl0 af h17;have ⟨h8,h11,h,h1,H⟩:=m5 af h8 h11 h h1 H;refine tU [vI i,vI s,vS p15 l c14] zM ?_;intro b4 hb4;have h19:RL aU [vI i,vI s,vS p15 l c14] ([(zM.mk i s l)]:List zM):=⟨[vI i,vI s,vS p15 l c14],_,rfl,rfl,(dU ⟨_,rfl,h18⟩),rfl⟩;obtain⟨out6,bH,N⟩:=zB N;exact pC 90 3 2 rfl rfl rfl h11 (.inr ⟨0,rfl⟩) h19 bH λp16 c15 cs8 h20=>qE (zX [1,2,3] (ah:=[hO (List Int) (vS p7 y c6) aO,hO zM (vS p16 out6 c15) cs8,hB b (cProg p p1 c p2 c1)]))<|yI [] [3] rfl<|zP<|zJ<|zK<|yI [] [7] rfl<|yS<|nU<|ih out6 (W (s+1)) _ N H h8 h h1 h20 hg ho hx
 intro bd N;exact wZ<|yN<|hx _ _ _ _ _ (zC N).symm H h11
def wJ(p:zD)(i:Int)(y:(List (List Int)))(am:List zM)(k0:Int):Option (List zM):=do
 if(decide (k0<(y.length:Int))) then
  let out5<-wI p i y k0 am 0
  wJ p i y out5 (W (k0+1))
 else
  pure (id am)
 partial_fixpoint
theorem zBL(p:zD)(i:Int)(y:(List (List Int))):∀(am:List zM) (k0:Int) (o:List zM),wJ p i y am k0=some o->∀{B}{I0 I:Imm}{Q p1 c p2 c1}{b:Nat}{p7 c6 aO p8 c7 aT},I0.le I->(RL I aO y)->(S4 I p1 p.Arrays c)->(S4 I p2 p.Parts c1)->(RL I aT am)->NG Q->NO Q->(∀(I':Imm) (aD:List zM) (p9:Option Addr) (c8:Nat) (br:List Value),o=aD->I0.le I'->(RL I' br aD)->T 54 B Q (.exit 2) I' [hO zM (vS p9 aD c8) br,hB b (cProg p p1 c p2 c1)] [(1,vP b 0),(3,vS p9 aD c8),(4,vI i)])->J Tryz.prog 54 B (nav (bodyOf f69) [1,1,0,1,0,0,1,0,0,1,1,0]) Q I [hO (List Int) (vS p7 y c6) aO,hO zM (vS p8 am c7) aT,hB b (cProg p p1 c p2 c1)] [(1,vP b 0),(3,vS p8 am c7),(4,vI i),(5,vS p7 y c6),(6,vI k0)]:=by
 refine wJ.partial_correctness p i y _ λaI ih am k0 o N B I0 I Q p1 c p2 c1 b p7 c6 aO p8 c7 aT H h8 h h1 h9 hg ho hx=>yR hg ho<|yA<|yG [27] rfl<|zJ<|yD N ?_ ?_
 ·intro aF N;refine zU<|zZ<|yH<|yG [7] rfl<|wC<|oA [(1,vP b 0),(3,vS p8 am c7),(4,vI i),(5,vS p7 y c6),(6,vI k0),(7,vI 0)] ?_;obtain⟨o0,aB,aH⟩:=zB N;refine zBK p i y k0 am 0 o0 aB iR h8 h h1 h9 (λ_ _ _ h=>hg _ _ _ h) (λ_ _ h=>ho _ _ h) ?_;intro aQ out5 aV bh cs6 heq aE h12;subst o0;have ⟨h8,h,h1,H⟩:=m4 aE h8 h h1 H;exact zR<|zP<|zJ<|zK<|yI [] [6] rfl<|yS<|nU<|ih out5 (W (k0+1)) _ aH H h8 h h1 h12 hg ho hx
 intro aF N;exact wZ<|xV (zW [1,2] rfl (by decide))<|yN<|hx _ _ _ _ _ (zC N).symm H h9
def wK(p:zD)(out:List zM)(i:Int):Option (List zM):=do
 if(decide (i<(p.Parts.length:Int))) then
  let x<-idx p.Parts i
  let y<-vH ([]:List (List Int)) x.Nest ([]:List Int)
  let aD<-wJ p i y out 0
  wK p aD (W (i+1))
 else
  pure (id out)
 partial_fixpoint
theorem zBM(p:zD):∀(out:List zM) (i:Int) (o:List zM),wK p out i=some o->∀{B}{I0 I:Imm}{Q p1 c p2 c1}{b:Nat}{p3 c2 cs},I0.le I->(S4 I p1 p.Arrays c)->(S4 I p2 p.Parts c1)->(RL I cs out)->NG Q->NO Q->(∀(I':Imm) (aj:List zM) (p4:Option Addr) (c3:Nat) (aC:List Value),o=aj->I0.le I'->(RL I' aC aj)->T 54 B Q (.exit 0) I' [hO zM (vS p4 aj c3) aC] [(3,vS p4 aj c3)])->J Tryz.prog 54 B (nav (bodyOf f69) [1,1,0,1,0]) Q I [hO zM (vS p3 out c2) cs,hB b (cProg p p1 c p2 c1)] [(1,vP b 0),(3,vS p3 out c2),(4,vI i)]:=by
 refine wK.partial_correctness p _ λaI ih out i o N B I0 I Q p1 c p2 c1 b p3 c2 cs H h h1 h3 hg ho hx=>yR hg ho<|yA<|yE<|yI [1] [13] rfl<|zJ<|yD N ?_ ?_
 ·intro hc N;refine zU<|zZ<|yH<|yE<|tU [] (List Int) ?_;intro b2 hb2;have h5:RL I [] ([]:List (List Int)):=rfl;refine yF 4 [2] [18,19] rfl<|bE N λx hy N=>xN rfl rfl h1 hy ?_;intro ad aL ap al;obtain⟨p5,c4,p6,c5,rfl,h6,h7⟩:=tB al;refine yF 6 [] [21] rfl<|xE 0 ap [vS p5 x.Nest c4] (vS p5 x.Nest c4) rfl<|bE N λy ay N=>rC (zAf ([]:List (List Int)) x.Nest ([]:List Int) _ ay h5 h6 (SL.nil _)) rfl ?_;rintro I0 ax v2 k2 le - ⟨p7,c6,aO,rfl,rfl,h8⟩ -;have ⟨h3,h,h1,H⟩:=m4 le h3 h h1 H;refine yI [] [5] rfl<|wW [6] rfl<|wC<|oA [(1,vP b 0),(3,vS p3 out c2),(4,vI i),(5,vS p7 y c6),(6,vI 0)] ?_;obtain⟨aM,aA,hMl1⟩:=zB N;refine zBL p i y out 0 aM aA iR h8 h h1 h3 (λ_ _ _ h=>hg _ _ _ h) (λ_ _ h=>ho _ _ h) ?_;intro bz aD p9 c8 br heq1 aK h10;subst aM;have ⟨h,h1,H⟩:=m3 aK h h1 H;exact zR<|zP<|zJ<|zK<|yI [] [4] rfl<|yS<|nU<|ih aD (W (i+1)) _ hMl1 H h h1 h10 hg ho hx
 intro hc N;exact wZ<|xV (zW [0] rfl (by decide))<|yN<|hx _ _ _ _ _ (zC N).symm H h3
def uA(p:zD):Option ((List zM)):=do
 let aj<-wK p ([]:List zM) 0
 pure (id aj)
theorem dI:∀p r,uA p=some r->∀{I:Imm}{p1 c p2 c1},(S4 I p1 p.Arrays c)->(S4 I p2 p.Parts c1)->RT 69 [vA (cProg p p1 c p2 c1)] I [] (gH  r):=by
 intro p r N I p1 c p2 c1 h h1;unfold uA at N;refine yJ func69 λB=>yE<|uH (cProg p p1 c p2 c1) ?_;intro b hb;refine wG [] []<|xA<|tU [] zM ?_;intro b1 hb1;have h2:RL I [] ([]:List zM):=rfl;refine yI [] [3] rfl<|zZ<|yG [4] rfl<|wC<|oA [(1,vP b 0),(3,vS (some ⟨b1,0,none⟩) ([]:List zM) 0),(4,vI 0)] ?_;obtain⟨o02,ho02,hMl2⟩:=zB N;refine zBM p ([]:List zM) 0 o02 ho02 iR h h1 h2 (λ_ _ _ h=>h) (λ_ _ h=>h) ?_;intro bK aj p4 c3 aC heq2 bi h4;subst o02;refine zR<|wW [2] rfl<|xF<|xB 0 rfl ?_;intro bO bw hl01;have h21:=SL.of_frozen hl01 bw h4;obtain rfl:=zC hMl2;exact xC ⟨_,_,(.tmp rfl ResV.nil),zO,⟨_,rfl,rfl,h21⟩⟩
def zEb(r:(List xG)):KT:=λkk I' ah v=>
 ∃v0,ah=[]/\v=tupV [v0]/\SL I' v0 r
def tK(p:zD)(y:(List zM))(out:List xG)(i:Int):Option (List xG):=do
 if(decide (i<(y.length:Int))) then
  let x<-idx y i
  let x1<-idx p.Parts x.Part
  let x2<-idx y i
  let x3<-idx x1.Body x2.Stmt
  let x4<-idx y i
  let (y2,y3,y4)<-oJ p.Arrays x3 x4.Point
  let am<-app 32 out ([(xG.mk y2 y3)]:List xG)
  tK p y am (W (i+1))
 else
  pure (id out)
 partial_fixpoint
theorem zDr(p:zD)(y:(List zM)):∀(out:List xG) (i:Int) (o:List xG),tK p y out i=some o->∀{B}{I0 I:Imm}{Q p1 c p2 c1}{b:Nat}{p3 c2 p4 c3 cs},I0.le I->(S4 I p3 y c2)->(S4 I p1 p.Arrays c)->(S4 I p2 p.Parts c1)->(RL I cs out)->NG Q->NO Q->(∀(I':Imm) (aj:List xG) (p5:Option Addr) (c4:Nat) (aC:List Value),o=aj->I0.le I'->(RL I' aC aj)->T 54 B Q (.exit 0) I' [hO xG (vS p5 aj c4) aC] [(3,vS p5 aj c4)])->J Tryz.prog 54 B (nav (bodyOf f104) [1,1,1,0,1,0]) Q I [hO xG (vS p4 out c3) cs,hB b (cProg p p1 c p2 c1)] [(1,vP b 0),(3,vS p4 out c3),(4,vS p3 y c2),(5,vI i)]:=by
 refine tK.partial_correctness p y _ λaI ih out i o N B I0 I Q p1 c p2 c1 b p3 c2 p4 c3 cs H h3 h h1 h4 hg ho hx=>yR hg ho<|yA<|yG [15] rfl<|zJ<|yD N ?_ ?_
 ·intro hc N;refine zU<|zZ<|yH<|yA ?_;obtain⟨x,ay,N⟩:=zB N;obtain⟨x1,aJ,N⟩:=zB N;obtain⟨x2,bb,N⟩:=zB N;obtain⟨x3,bt,N⟩:=zB N;obtain⟨x4,bH,N⟩:=zB N;obtain⟨⟨y2,y3,y4⟩,hy6,N⟩:=zB N;refine wX [.p (vP b 0) [],.p (vS p1 p.Arrays c) [1],.p (vP b 1) [],.p (vS p2 p.Parts c1) [1],.p (vS p3 y c2) [],.p (vI i) [],.x (ePInst x),.x (ePInst x),.q (vI x.Part),.x (ePPart x1),.x (eQPart 1 x1),.x (eS x1.Body),.p (vS p3 y c2) [],.p (vI i) [],.x (ePInst x2),.x (eQInst 1 x2),.q (vI x2.Stmt),.x (ePStmt x3),.x (eVStmt x3),.p (vS p3 y c2) [],.p (vI i) [],.x (ePInst x4),.x (eQInst 2 x4),.x (eS x4.Point),.x (λI' v hx=>∃p15 c14,v=.tuple ⟨[vS p15 y2 c14,vI y3,.bool y4]⟩/\hx=[]/\(S4 I' p15 y2 c14)),.x (λI' v hx=>∃p151 c141,v=.tuple ⟨[vS p151 y2 c141,vI y3,.bool y4]⟩/\hx=[]/\(S4 I' p151 y2 c141)),.x (eS y2),.q (vI y3),.q (.bool y4),.x (eS y2),.p (vI y3) []] [[],[(0,false)],[],[(2,false)],[],[],[(4,false),(5,false)],[(6,false)],[(7,false)],[(3,false),(8,false)],[(9,false)],[(10,false)],[],[],[(12,false),(13,false)],[(14,false)],[(15,false)],[(11,false),(16,false)],[(17,false)],[],[],[(19,false),(20,false)],[(21,false)],[(22,false)],[(1,false),(18,false),(23,false)],[(24,false)],[(25,false)],[(25,false)],[(25,false)],[(26,false)],[(27,false)]] [hO xG (vS p4 out c3) cs,hB b (cProg p p1 c p2 c1)] [] [(28,false),(29,false),(30,false)] (zX [0,1]) ?_ ?_
  ·refine Op<|Op<|Op<|Op<|Op<|Op<|Ox ?_<|Ox ?_<|Oq ?_<|Ox ?_<|Ox ?_<|Ox ?_<|Op<|Op<|Ox ?_<|Ox ?_<|Oq ?_<|Ox ?_<|Ox ?_<|Op<|Op<|Ox ?_<|Ox ?_<|Ox ?_<|Ox ?_<|Ox ?_<|Ox ?_<|Oq ?_<|Oq ?_<|Ox ?_<|Op<|On
   ·intro I1 hf af;refine yP [23,24] rfl ?_;have h3:=h3.mono af;refine xN rfl rfl h3 ay ?_;intro ad aL ap al;obtain⟨p6,c5,rfl,h6⟩:=gL al;exact yK [] iR ⟨_,_,_,rfl,rfl,ap,h6⟩
   ·rintro I1 hf af _ _ ⟨ad,p6,c5,rfl,rfl,ap,h6⟩;exact yP [25] rfl<|rS 8 [(26,.pointer (some ad))]<|yK [] iR ⟨_,_,_,rfl,rfl,ap,h6⟩
   ·rintro I1 hf af _ _ ⟨ad1,p61,c51,rfl,rfl,ar,h61⟩;exact yP [26] rfl<|xE 0 ar [vI x.Part] (vI x.Part) rfl<|yT iR
   ·intro I1 hf af;refine yP [22,27] rfl ?_;have h1:=h1.mono af;refine xN rfl rfl h1 aJ ?_;intro ad2 bv aP az;obtain⟨p7,c6,p8,c7,rfl,h7,h8⟩:=tB az;exact yK [] iR ⟨_,_,_,_,_,rfl,rfl,aP,h7,h8⟩
   ·rintro I1 hf af _ _ ⟨ad2,p7,c6,p8,c7,rfl,rfl,aP,h7,h8⟩;exact yP [28] rfl<|rS 11 [(29,.pointer (some (ad2.add 1)))]<|yK [] iR ⟨_,_,_,_,_,rfl,rfl,aP,h7,h8⟩
   ·rintro I1 hf af _ _ ⟨ad21,p71,c61,p81,c71,rfl,rfl,hat21,h71,h81⟩;exact yP [29] rfl<|xE 1 hat21 [vS p81 x1.Body c71] (vS p81 x1.Body c71) rfl<|yK [] iR ⟨_,_,rfl,rfl,h81⟩
   ·intro I1 hf af;refine yP [31,32] rfl ?_;have h3:=h3.mono af;refine xN rfl rfl h3 bb ?_;intro ad3 bM hat3 aW;obtain⟨p9,c8,rfl,h9⟩:=gL aW;exact yK [] iR ⟨_,_,_,rfl,rfl,hat3,h9⟩
   ·rintro I1 hf af _ _ ⟨ad3,p9,c8,rfl,rfl,hat3,h9⟩;exact yP [33] rfl<|rS 16 [(34,.pointer (some (ad3.add 1)))]<|yK [] iR ⟨_,_,_,rfl,rfl,hat3,h9⟩
   ·rintro I1 hf af _ _ ⟨ad31,p91,c81,rfl,rfl,hat31,h91⟩;exact yP [34] rfl<|xE 1 hat31 [vI x2.Stmt] (vI x2.Stmt) rfl<|yT iR
   ·rintro I1 hf af _ _ ⟨p811,c711,rfl,rfl,h811⟩;refine yP [30,35] rfl<|xN rfl rfl h811 bt ?_;intro ad4 ccs3 hat4 bq;obtain⟨aZ,c9,aV,bh,bB,bj,bm,bo,rfl,h10,h11,h12,h13⟩:=qF bq;exact yK [] iR ⟨_,_,_,_,_,_,_,_,_,rfl,rfl,hat4,h10,h11,h12,h13⟩
   ·rintro I1 hf af _ _ ⟨ad4,aZ,c9,aV,bh,bB,bj,bm,bo,rfl,rfl,hat4,h10,h11,h12,h13⟩;exact yP [36] rfl<|xE 0 hat4 (cStmt x3 aZ c9 aV bh bB bj bm bo) (vA (cStmt x3 aZ c9 aV bh bB bj bm bo)) rfl<|yK [] iR ⟨_,_,_,_,_,_,_,_,rfl,rfl,h10,h11,h12,h13⟩
   ·intro I1 hf af;refine yP [38,39] rfl ?_;have h3:=h3.mono af;refine xN rfl rfl h3 bH ?_;intro ad5 ccs4 hat5 hrep4;obtain⟨p14,bu,rfl,h14⟩:=gL hrep4;exact yK [] iR ⟨_,_,_,rfl,rfl,hat5,h14⟩
   ·rintro I1 hf af _ _ ⟨ad5,p14,bu,rfl,rfl,hat5,h14⟩;exact yP [40] rfl<|rS 23 [(41,.pointer (some (ad5.add 2)))]<|yK [] iR ⟨_,_,_,rfl,rfl,hat5,h14⟩
   ·rintro I1 hf af _ _ ⟨ad51,p141,c131,rfl,rfl,hat51,h141⟩;exact yP [41] rfl<|xE 2 hat51 [vS p141 x4.Point c131] (vS p141 x4.Point c131) rfl<|yK [] iR ⟨_,_,rfl,rfl,h141⟩
   ·rintro I1 hf af _ _ ⟨rfl,rfl⟩ _ _ ⟨p101,c91,p111,c101,p121,c111,p131,c121,rfl,rfl,h101,h111,h121,h131⟩ _ _ ⟨p1411,c1311,rfl,rfl,h1411⟩;refine yP [20,37,42] rfl ?_;have H:=iS I1;have h:=h.mono af;refine xO (zBT p.Arrays x3 x4.Point _ hy6 h h101 h111 h121 h131 h1411) ?_;rintro aU ax v2 k2 af - ⟨v010,v011,v012,rfl,rfl,h15,rfl,rfl⟩ -;have H:=H.trans af;obtain⟨p15,c14,rfl⟩:=h15.form;exact yK [] H ⟨_,_,rfl,rfl,h15⟩
   ·rintro I1 hf af _ _ ⟨p15,c14,rfl,rfl,h15⟩;exact yP [43] rfl<|rS 26 [(18,.tuple ⟨[vS p15 y2 c14,vI y3,.bool y4]⟩)]<|yK [] iR ⟨_,_,rfl,rfl,h15⟩
   ·rintro I1 hf af _ _ ⟨p151,c141,rfl,rfl,h151⟩;exact yP [18] rfl<|rS 27 [(44,vS p151 y2 c141)]<|yK [] iR ⟨_,_,rfl,rfl,h151⟩
   ·rintro I1 hf af _ _ ⟨p151,c141,rfl,rfl,h151⟩;exact yP [18] rfl<|rS 28 [(45,vI y3)]<|yT iR
   ·rintro I1 hf af _ _ ⟨p151,c141,rfl,rfl,h151⟩;exact yP [18] rfl<|rS 29 [(46,.bool y4)]<|yT iR
   rintro I1 hf af _ _ ⟨p1511,c1411,rfl,rfl,h1511⟩;exact yP [44] rfl<|rS 30 [(6,vS p1511 y2 c1411)]<|yK [] iR ⟨_,_,rfl,rfl,h1511⟩
  rintro aQ aE _ _ ⟨rfl,rfl⟩ _ _ ⟨p15111,c14111,rfl,rfl,h15111⟩;refine yP [1,3,4,5,6,7,46] rfl ?_;have ⟨h4,h3,h,h1,H⟩:=m5 aE h4 h3 h h1 H;refine wG [] []<|zJ<|zK<|yF 4 [] [47,50] rfl<|tU [vS p15111 y2 c14111,vI y3] xG ?_;intro b2 hb2;have h18:RL aQ [vS p15111 y2 c14111,vI y3] ([(xG.mk y2 y3)]:List xG):=⟨[vS p15111 y2 c14111,vI y3],_,rfl,rfl,(zEv ⟨_,rfl,h15111⟩),rfl⟩;obtain⟨am,hy7,N⟩:=zB N;exact pC 145 2 1 rfl rfl rfl h4 (.inr ⟨0,rfl⟩) h18 hy7 λp16 c15 aO h19=>qE (zX [1,2] (ah:=[hO xG (vS p16 am c15) aO,hB b (cProg p p1 c p2 c1)]))<|yI [] [3] rfl<|zP<|zJ<|zK<|yI [] [5] rfl<|yS<|nU<|ih am (W (i+1)) _ N H h3 h h1 h19 hg ho hx
 intro hc N;exact wZ<|xV (zW [0] rfl (by decide))<|yN<|hx _ _ _ _ _ (zC N).symm H h4
def mZ(p:zD):Option ((List xG)):=do
 let y<-uA p
 let aj<-tK p y ([]:List xG) 0
 pure (id aj)
theorem zGH:∀p r,mZ p=some r->∀{I:Imm}{p1 c p2 c1},(S4 I p1 p.Arrays c)->(S4 I p2 p.Parts c1)->RT 104 [vA (cProg p p1 c p2 c1)] I [] (zEb  r):=by
 intro p r N I p1 c p2 c1 h h1;unfold mZ at N;refine yJ func104 λB=>yE<|uH (cProg p p1 c p2 c1) ?_;intro b hb;refine wG [] []<|xA<|tU [] xG ?_;intro b1 hb1;have h2:RL I [] ([]:List xG):=rfl;refine yI [] [3] rfl<|xA<|qA 1 [1] [(10,vA (cProg p p1 c p2 c1))]<|bE N λy hy N=>xO (dI p _ hy h h1) ?_;rintro I0 ax v2 k2 le - ⟨v0,rfl,rfl,h3⟩ -;have ⟨h2,h,h1⟩:=m3 le h2 h h1;obtain⟨p3,c2,rfl⟩:=h3.form;refine yI [] [4] rfl<|zZ<|yG [5] rfl<|wC<|oA [(1,vP b 0),(3,vS (some ⟨b1,0,none⟩) ([]:List xG) 0),(4,vS p3 y c2),(5,vI 0)] ?_;obtain⟨o0,aB,aH⟩:=zB N;refine zDr p y ([]:List xG) 0 o0 aB iR h3 h h1 h2 (λ_ _ _ h=>h) (λ_ _ h=>h) ?_;intro bz aj p5 c4 aC heq aK h5;subst o0;refine zR<|wW [2] rfl<|xF<|xB 0 rfl ?_;intro bK bi hl0;have h20:=SL.of_frozen hl0 bi h5;obtain rfl:=zC aH;exact xC ⟨_,_,(.tmp rfl ResV.nil),zO,⟨_,rfl,rfl,h20⟩⟩
def oY(list:(List Int))(n0:Int)(i:Int):Option (Out Unit (Bool)):=do
 if(decide (i<(list.length:Int))) then
  let x<-idx list i
  if(x==n0) then
   pure (.ret true)
  else
   oY list n0 (W (i+1))
 else
  pure (.done ())
 partial_fixpoint
theorem zEc(list:(List Int))(n0:Int):∀(i:Int) (o:Out Unit (Bool)),oY list n0 i=some o->∀{B}{I0 I:Imm}{Q p c},I0.le I->(S4 I p list c)->NG Q->NO Q->(∀(I':Imm) ,o=(.done ())->I0.le I'->T 18 B Q (.exit 0) I' [] [])->(∀r I' ah m',o=(.ret r)->I0.le I'->RS Tryz.prog f142 B (zS  r) I' ah m'->T 18 B Q .ret I' ah m')->J Tryz.prog 18 B (nav (bodyOf f142) [1,0,1,0]) Q I [] [(0,vS p list c),(1,vI n0),(5,vI i)]:=by
 refine oY.partial_correctness list n0 _ λaI ih i o N B I0 I Q p c H h hg ho hx hr=>yR hg ho<|yA<|yG [9] rfl<|zJ<|yD N ?_ ?_
 ·intro hc N;refine zU<|zZ<|yH<|yE<|yF 2 [] [12,13] rfl<|bE N λx hy N=>xN rfl rfl h hy ?_;intro ad aL ap al;obtain rfl:=al;refine xE 0 ap [vI x] (vI x) rfl<|yI [] [17] rfl<|zJ<|yD N ?_ ?_
  ·intro aF N;exact vK [(4,vY)]<|xF<|zV<|zH<|zH<|hr _ _ _ _ (zC N).symm H ⟨_,_,(.tmp rfl ResV.nil),zO,⟨_,rfl,rfl,rfl⟩⟩
  intro aF N;exact zU<|zP<|zJ<|zK<|yI [] [5] rfl<|yS<|nU<|ih (W (i+1)) _ N H h hg ho hx hr
 intro hc N;exact wZ<|yN<|hx _  (zC N).symm H
def gR(list:(List Int))(n0:Int):Option (Bool):=do
 match<-oY list n0 0 with
 | .ret r0=>pure r0
 | .done _=>
  pure false
theorem zC8:∀list n0 r,gR list n0=some r->∀{I:Imm}{p c},(S4 I p list c)->RT 142 [vS p list c,vI n0] I [] (zS  r):=by
 intro list n0 r N I p c h;unfold gR at N;refine yJ func142 λB=>vK []<|zZ<|yG [5] rfl<|wC<|oA [(0,vS p list c),(1,vI n0),(5,vI 0)] ?_;obtain⟨o0,aB,aH⟩:=zB N;refine zEc list n0 0 o0 aB iR h (λ_ _ _ h=>h) (λ_ _ h=>h) ?_ ?_
 ·intro I0  heq le;subst o0;refine zR<|zHd [(4,vF)]<|zJ<|yZ ?_;obtain rfl:=zC aH;exact wV
 intro r0 I9 hs9 m9 aR le9 aS;subst aR;refine zV<|zH ?_;obtain rfl:=zC aH;exact xC aS
def gI(a0:xG)(b:xG):Option (Int):=do
 let y<-gR b.reads a0.write
 let n0<-(do
  if y then
   pure (W (0+1))
  else
   pure (id 0)
    : Option Int)
 let y1<-gR a0.reads b.write
 let n01<-(do
  if y1 then
   pure (W (n0+2))
  else
   pure (id n0)
    : Option Int)
 let n02<-(do
  if(a0.write==b.write) then
   pure (W (n01+4))
  else
   pure (id n01)
    : Option Int)
 pure (id n02)
theorem zFM:∀a0 b r,gI a0 b=some r->∀{I:Imm}{p c p1 c1},(S4 I p a0.reads c)->(S4 I p1 b.reads c1)->RT 105 [vA [vS p a0.reads c,vI a0.write],vA [vS p1 b.reads c1,vI b.write]] I [] (yQ  r):=by
 intro a0 b r N I p c p1 c1 h h1;unfold gI at N;refine yJ func105 λB=>?_;have H:=iS I;refine yE<|uH [vS p a0.reads c,vI a0.write] ?_;intro b1 hb;refine uH [vS p1 b.reads c1,vI b.write] ?_;intro b2 hb1;refine wG [] []<|wW [5] rfl<|zZ<|yE<|yF 4 [0,1] [7,9] rfl<|bE N λy hy N=>vV (zC8 b.reads a0.write _ hy h1) ?_;intro I0 le;have ⟨h,H⟩:=m2 le h H;refine yC rfl<|zJ ?_;refine wE N [hB b2 [vS p1 b.reads c1,vI b.write],hB b1 [vS p a0.reads c,vI a0.write]] (λn0=>[(2,vP b1 0),(3,vP b2 0),(5,vI n0)]) (λo0 aB=>?_) ?_
 ·have H:=iS I0;refine yD aB ?_ ?_
  ·intro hc N;exact zK<|yI [] [5] rfl<|yN<|zT (ct N H)
  intro hc N;exact zU<|yN<|zT (ct N H)
 intro n0 aU af aN;have ⟨h,H⟩:=m2 af h H;refine zZ<|yE<|yF 4 [1,0] [14,16] rfl ?_;obtain⟨y1,ay,N⟩:=zB aN;refine vV (zC8 a0.reads b.write _ ay h) ?_;intro aQ aE;have H:=H.trans aE;refine yC rfl<|zJ ?_;refine wE N [hB b2 [vS p1 b.reads c1,vI b.write],hB b1 [vS p a0.reads c,vI a0.write]] (λn01=>[(2,vP b1 0),(3,vP b2 0),(5,vI n01)]) (λaM aA=>?_) ?_
 ·have H:=iS aQ;refine yD aA ?_ ?_
  ·intro aF N;exact zK<|yI [] [5] rfl<|yN<|zT (ct N H)
  intro aF N;exact zU<|yN<|zT (ct N H)
 intro n01 bz aK hMc1;have H:=H.trans aK;refine zZ<|yE<|yI [1,0] [24] rfl<|zJ ?_;refine wE hMc1 [] (λn02=>[(5,vI n02)]) (λo02 ho02=>?_) ?_
 ·have H:=iS bz;refine yD ho02 ?_ ?_
  ·intro bd N;exact zK<|yI [] [5] rfl<|xV zO<|yN<|zT (ct N H)
  intro bd N;exact zU<|xV zO<|yN<|zT (ct N H)
 intro n02 bK bi hMc2;refine wW [4] rfl<|zJ<|yZ ?_;obtain rfl:=zC hMc2;exact wV
def pX(y:(List xG))(i:Int)(am:List zY)(k0:Int):Option (List zY):=do
 if(decide (k0<(y.length:Int))) then
  let x<-idx y i
  let x1<-idx y k0
  let y1<-gI x x1
  let bf<-(do
   if(y1 != 0) then
    let out5<-app 24 am ([(zY.mk i k0 y1)]:List zY)
    pure (id out5)
   else
    pure (id am)
     : Option (List zY))
  pX y i bf (W (k0+1))
 else
  pure (id am)
 partial_fixpoint
theorem zDs(y:(List xG))(i:Int):∀(am:List zY) (k0:Int) (o:List zY),pX y i am k0=some o->∀{B}{I0 I:Imm}{Q p3 c2 p6 c5 aO},I0.le I->(S4 I p3 y c2)->(RL I aO am)->NG Q->NO Q->(∀(I':Imm) (aD:List zY) (p7:Option Addr) (c6:Nat) (aT:List Value),o=aD->I0.le I'->(RL I' aT aD)->T 44 B Q (.exit 2) I' [hO zY (vS p7 aD c6) aT] [(3,vS p7 aD c6),(4,vS p3 y c2),(5,vI i)])->J Tryz.prog 44 B (nav (bodyOf f68) [1,1,1,0,1,0,0,1,0,0,1,0]) Q I [hO zY (vS p6 am c5) aO] [(3,vS p6 am c5),(4,vS p3 y c2),(5,vI i),(6,vI k0)]:=by
 refine pX.partial_correctness y i _ λaI ih am k0 o N B I0 I Q p3 c2 p6 c5 aO H h3 h6 hg ho hx=>yR hg ho<|yA<|yG [22] rfl<|zJ<|yD N ?_ ?_
 ·intro aF N;refine zU<|zZ<|yH<|yA ?_;obtain⟨x,ay,N⟩:=zB N;obtain⟨x1,aJ,N⟩:=zB N;obtain⟨y1,bb,N⟩:=zB N;refine wX [.p (vS p3 y c2) [],.p (vI i) [],.x (λI' v hx=>∃ad p8 c7,v=.pointer (some ad)/\hx=[]/\(At I' ad [vS p8 x.reads c7,vI x.write])/\(S4 I' p8 x.reads c7)),.x (λI' v hx=>∃p81 c71,v=vA [vS p81 x.reads c71,vI x.write]/\hx=[]/\(S4 I' p81 x.reads c71)),.p (vS p3 y c2) [],.p (vI k0) [],.x (λI' v hx=>∃ad1 p9 c8,v=.pointer (some ad1)/\hx=[]/\(At I' ad1 [vS p9 x1.reads c8,vI x1.write])/\(S4 I' p9 x1.reads c8)),.x (λI' v hx=>∃p91 c81,v=vA [vS p91 x1.reads c81,vI x1.write]/\hx=[]/\(S4 I' p91 x1.reads c81)),.q (vI y1)] [[],[],[(0,false),(1,false)],[(2,false)],[],[],[(4,false),(5,false)],[(6,false)],[(3,false),(7,false)]] [hO zY (vS p6 am c5) aO] [] [(8,false)] (zX [0]) ?_ ?_
  ·refine Op<|Op<|Ox ?_<|Ox ?_<|Op<|Op<|Ox ?_<|Ox ?_<|Oq ?_<|On
   ·intro I1 hf af;refine yP [25,26] rfl ?_;have h3:=h3.mono af;refine xN rfl rfl h3 ay ?_;intro ad aL ap al;obtain⟨p8,c7,rfl,h8⟩:=zC5 al;exact yK [] iR ⟨_,_,_,rfl,rfl,ap,h8⟩
   ·rintro I1 hf af _ _ ⟨ad,p8,c7,rfl,rfl,ap,h8⟩;exact yP [27] rfl<|xE 0 ap [vS p8 x.reads c7,vI x.write] (vA [vS p8 x.reads c7,vI x.write]) rfl<|yK [] iR ⟨_,_,rfl,rfl,h8⟩
   ·intro I1 hf af;refine yP [29,30] rfl ?_;have h3:=h3.mono af;refine xN rfl rfl h3 aJ ?_;intro ad1 bv ar az;obtain⟨p9,c8,rfl,h9⟩:=zC5 az;exact yK [] iR ⟨_,_,_,rfl,rfl,ar,h9⟩
   ·rintro I1 hf af _ _ ⟨ad1,p9,c8,rfl,rfl,ar,h9⟩;exact yP [31] rfl<|xE 0 ar [vS p9 x1.reads c8,vI x1.write] (vA [vS p9 x1.reads c8,vI x1.write]) rfl<|yK [] iR ⟨_,_,rfl,rfl,h9⟩
   rintro I1 hf af _ _ ⟨p81,c71,rfl,rfl,h81⟩ _ _ ⟨p91,c81,rfl,rfl,h91⟩;refine yP [28,32] rfl ?_;have H:=iS I1;refine jE (zFM x x1 _ bb h81 h91) ?_;intro aU af;have H:=H.trans af;exact yT H
  intro aQ aE;refine yP [3,4,5,6,33] rfl ?_;have ⟨h6,h3,H⟩:=m3 aE h6 h3 H;refine yI [] [7] rfl<|wW [35] rfl<|zJ ?_;obtain⟨o0,aB,aN⟩:=zB N;refine pZ (λI' ah m'=>∃(bf:List zY) (aZ:Option Addr) (c9:Nat) (br:List Value),o0=bf/\aQ.le I'/\(RL I' br bf)/\ah=[hO zY (vS aZ bf c9) br]/\m'=[(3,vS aZ bf c9),(4,vS p3 y c2),(5,vI i),(6,vI k0)]) ?_ ?_
  ·have H:=iS aQ;refine yD aB ?_ ?_
   ·intro bd N;refine zK<|yF 5 [] [36,40] rfl<|tU [vI i,vI k0,vI y1] zY ?_;intro b2 hb2;have h12:RL aQ [vI i,vI k0,vI y1] ([(zY.mk i k0 y1)]:List zY):=⟨[vI i,vI k0,vI y1],_,rfl,rfl,(zA4 rfl),rfl⟩;obtain⟨out5,bt,N⟩:=zB N;exact pC 92 3 1 rfl rfl rfl h6 (.inr ⟨0,rfl⟩) h12 bt λaV bh bC h13=>qE (zX [1] (ah:=[hO zY (vS aV out5 bh) bC]))<|yI [] [3] rfl<|yN<|zT ⟨_,_,_,_,(zC N).symm,H,h13,rfl,rfl⟩
   intro bd N;exact zU<|yN<|zT ⟨_,_,_,_,(zC N).symm,H,h6,rfl,rfl⟩
  rintro bz ax m2 ⟨bf,aZ,c9,br,heq,aK,h11,rfl,rfl⟩;subst o0;have ⟨h3,H⟩:=m2 aK h3 H;exact zP<|zJ<|zK<|yI [] [6] rfl<|yS<|nU<|ih bf (W (k0+1)) _ aN H h3 h11 hg ho hx
 intro aF N;exact wZ<|yN<|hx _ _ _ _ _ (zC N).symm H h6
def pY(y:(List xG))(out:List zY)(i:Int):Option (List zY):=do
 if(decide (i<(y.length:Int))) then
  let aD<-pX y i out (W (i+1))
  pY y aD (W (i+1))
 else
  pure (id out)
 partial_fixpoint
theorem zDt(y:(List xG)):∀(out:List zY) (i:Int) (o:List zY),pY y out i=some o->∀{B}{I0 I:Imm}{Q p3 c2 p4 c3 cs},I0.le I->(S4 I p3 y c2)->(RL I cs out)->NG Q->NO Q->(∀(I':Imm) (aj:List zY) (p5:Option Addr) (c4:Nat) (aC:List Value),o=aj->I0.le I'->(RL I' aC aj)->T 44 B Q (.exit 0) I' [hO zY (vS p5 aj c4) aC] [(3,vS p5 aj c4)])->J Tryz.prog 44 B (nav (bodyOf f68) [1,1,1,0,1,0]) Q I [hO zY (vS p4 out c3) cs] [(3,vS p4 out c3),(4,vS p3 y c2),(5,vI i)]:=by
 refine pY.partial_correctness y _ λaI ih out i o N B I0 I Q p3 c2 p4 c3 cs H h3 h4 hg ho hx=>yR hg ho<|yA<|yG [14] rfl<|zJ<|yD N ?_ ?_
 ·intro hc N;refine zU<|zZ<|yH<|yG [6] rfl<|wC<|oA [(3,vS p4 out c3),(4,vS p3 y c2),(5,vI i),(6,vI (W (i+1)))] ?_;obtain⟨aM,aA,aH⟩:=zB N;refine zDs y i out (W (i+1)) aM aA iR h3 h4 (λ_ _ _ h=>hg _ _ _ h) (λ_ _ h=>ho _ _ h) ?_;intro bK aD p7 c6 aT heq1 bi h7;subst aM;have ⟨h3,H⟩:=m2 bi h3 H;exact zR<|zP<|zJ<|zK<|yI [] [5] rfl<|yS<|nU<|ih aD (W (i+1)) _ aH H h3 h7 hg ho hx
 intro hc N;exact wZ<|yN<|hx _ _ _ _ _ (zC N).symm H h4
def fE(p:zD):Option ((List zY)):=do
 let y<-mZ p
 let aj<-pY y ([]:List zY) 0
 pure (id aj)
theorem zGI:∀p r,fE p=some r->∀{I:Imm}{p1 c p2 c1},(S4 I p1 p.Arrays c)->(S4 I p2 p.Parts c1)->RT 68 [vA (cProg p p1 c p2 c1)] I [] (jP  r):=by
 intro p r N I p1 c p2 c1 h h1;unfold fE at N;refine yJ func68 λB=>yE<|uH (cProg p p1 c p2 c1) ?_;intro b hb;refine wG [] []<|xA<|tU [] zY ?_;intro b1 hb1;have h2:RL I [] ([]:List zY):=rfl;refine yI [] [3] rfl<|xA<|qA 1 [1] [(9,vA (cProg p p1 c p2 c1))]<|bE N λy hy N=>xO (zGH p _ hy h h1) ?_;rintro I0 ax v2 k2 le - ⟨v0,rfl,rfl,h3⟩ -;have ⟨h2,h⟩:=m2 le h2 h;obtain⟨p3,c2,rfl⟩:=h3.form;refine yI [] [4] rfl<|zZ<|yG [5] rfl<|wC<|jU (zX [0] (ah:=[hO zY (vS (some ⟨b1,0,none⟩) ([]:List zY) 0) []]))<|oA [(3,vS (some ⟨b1,0,none⟩) ([]:List zY) 0),(4,vS p3 y c2),(5,vI 0)] ?_;obtain⟨o02,ho02,hMl1⟩:=zB N;refine zDt y ([]:List zY) 0 o02 ho02 iR h3 h2 (λ_ _ _ h=>h) (λ_ _ h=>h) ?_;intro bO aj p5 c4 aC heq2 bw h5;subst o02;refine zR<|wW [2] rfl<|xF<|xB 0 rfl ?_;intro I06 bD hl0;have h14:=SL.of_frozen hl0 bD h5;obtain rfl:=zC hMl1;exact xC ⟨_,_,(.tmp rfl ResV.nil),zO,⟨_,rfl,rfl,h14⟩⟩
def rQ(y1:(List zY))(aj:List Int)(i:Int):Option (List Int):=do
 if(decide (i<(y1.length:Int))) then
  let x<-idx y1 i
  let x1<-idx aj x.From
  let x2<-idx y1 i
  let x3<-idx aj x2.To
  let aD<-(do
   if(decide ((W (x1+1))>x3)) then
    let x4<-idx y1 i
    let x5<-idx y1 i
    let x6<-idx aj x5.From
    let x7<-idx aj x4.To
    let l<-pure (aj.set x4.To.toNat (W (x6+1)))
    pure (id l)
   else
    pure (id aj)
     : Option (List Int))
  rQ y1 aD (W (i+1))
 else
  pure (id aj)
 partial_fixpoint
theorem zCX(y1:(List zY)):∀(aj:List Int) (i:Int) (o:List Int),rQ y1 aj i=some o->∀{B}{I0 I:Imm}{Q p4 c3 p5 c4 aC},I0.le I->(S4 I p4 y1 c3)->(RL I aC aj)->NG Q->NO Q->(∀(I':Imm) (am:List Int) (p6:Option Addr) (c5:Nat) (aO:List Value),o=am->I0.le I'->(RL I' aO am)->T 53 B Q (.exit 0) I' [hO Int (vS p6 am c5) aO] [(3,vS p6 am c5)])->J Tryz.prog 53 B (nav (bodyOf f44) [1,1,1,0,1,0]) Q I [hO Int (vS p5 aj c4) aC] [(3,vS p5 aj c4),(4,vS p4 y1 c3),(5,vI i)]:=by
 refine rQ.partial_correctness y1 _ λaI ih aj i o N B I0 I Q p4 c3 p5 c4 aC H h4 h5 hg ho hx=>yR hg ho<|yA<|yG [15] rfl<|zJ<|yD N ?_ ?_
 ·intro hc N;refine zU<|zZ<|yH<|yA<|nP (by kernel_rfl) (by kernel_rfl)<|gN 3 [] [18,19,20] rfl<|bE N λx bb N=>gT rfl rfl h4 bb ?_;intro ad aL ap al;obtain rfl:=mQ al;refine gN 5 [] [22] rfl<|kF 0 ap [vI x.From] (vI x.From) rfl<|bE N λx1 bt N=>zLM 0 rfl rfl rfl h5 bt ?_;intro ad1 bv ar bG az;obtain rfl:=az;refine zMn 0 0 ar bG [vI x1] (vI x1) rfl rfl<|gN 12 [] [26,27,28,29] rfl<|bE N λx2 bH N=>gT rfl rfl h4 bH ?_;intro ad2 bM aP aW;obtain rfl:=mQ aW;refine gN 14 [] [31] rfl<|kF 1 aP [vI x2.To] (vI x2.To) rfl<|bE N λx3 hy6 N=>zLM 0 rfl rfl rfl h5 hy6 ?_;intro ad3 ccs3 hat3 hcc1 bq;obtain rfl:=bq;refine zMn 0 0 hat3 hcc1 [vI x3] (vI x3) rfl rfl<|zEw [] [35] rfl<|zJ ?_;obtain⟨o0,aB,aN⟩:=zB N;refine pZ (λI' ah m'=>∃(aD:List Int) (p7:Option Addr) (c6:Nat) (aT:List Value),o0=aD/\I.le I'/\(RL I' aT aD)/\ah=[hO Int (vS p7 aD c6) aT]/\m'=[(3,vS p7 aD c6),(4,vS p4 y1 c3),(5,vI i)]) ?_ ?_
  ·have H:=iS I;refine yD aB ?_ ?_
   ·intro aF N;obtain⟨x4,hy7,N⟩:=zB N;obtain⟨x5,hy8,N⟩:=zB N;obtain⟨x6,hy9,N⟩:=zB N;refine wX [.p (vS p5 aj c4) [],.p (vS p4 y1 c3) [],.p (vI i) [],.x (λI' v hx=>∃ad4,v=.pointer (some ad4)/\hx=[]/\(At I' ad4 [vI x4.From,vI x4.To,vI x4.Kinds])),.x (λI' v hx=>∃ad41,v=.pointer (some (ad41.add 1))/\hx=[]/\(At I' ad41 [vI x4.From,vI x4.To,vI x4.Kinds])),.q (vI x4.To),.p (vS p5 aj c4) [],.p (vS p4 y1 c3) [],.p (vI i) [],.x (λI' v hx=>∃ad5,v=.pointer (some ad5)/\hx=[]/\(At I' ad5 [vI x5.From,vI x5.To,vI x5.Kinds])),.x (λI' v hx=>∃ad51,v=.pointer (some ad51)/\hx=[]/\(At I' ad51 [vI x5.From,vI x5.To,vI x5.Kinds])),.q (vI x5.From),.x (λI' v hx=>∃ad6,v=.pointer (some ad6)/\hx=[]/\(AtO (vS p5 aj c4) (Rp.sz Int) x5.From.toNat ad6)/\((aC.drop (x5.From.toNat*Rp.sz Int)).take (Rp.sz Int)=[vI x6])),.q (vI x6),.p (vI (W (x6+1))) []] [[],[],[],[(1,false),(2,false)],[(3,false)],[(4,false)],[],[],[],[(7,false),(8,false)],[(9,false)],[(10,false)],[(6,false),(11,false)],[(12,false)],[(13,false)]] [hO Int (vS p5 aj c4) aC] [] [(0,false),(5,false),(14,false)] (zX [0]) ?_ ?_
    ·refine Op<|Op<|Op<|Ox ?_<|Ox ?_<|Oq ?_<|Op<|Op<|Op<|Ox ?_<|Ox ?_<|Oq ?_<|Ox ?_<|Oq ?_<|Op<|On
     ·intro I1 hf af;refine yP [37,38] rfl ?_;have h4:=h4.mono af;refine xN rfl rfl h4 hy7 ?_;intro ad4 ccs4 hat4 hrep4;obtain rfl:=mQ hrep4;exact yK [] iR ⟨_,rfl,rfl,hat4⟩
     ·rintro I1 hf af _ _ ⟨ad4,rfl,rfl,hat4⟩;exact yP [39] rfl<|rS 5 [(40,.pointer (some (ad4.add 1)))]<|yK [] iR ⟨_,rfl,rfl,hat4⟩
     ·rintro I1 hf af _ _ ⟨ad41,rfl,rfl,hat41⟩;exact yP [40] rfl<|xE 1 hat41 [vI x4.To] (vI x4.To) rfl<|yT iR
     ·intro I1 hf af;refine yP [43,44] rfl ?_;have h4:=h4.mono af;refine xN rfl rfl h4 hy8 ?_;intro ad5 ccs5 hat5 hrep5;obtain rfl:=mQ hrep5;exact yK [] iR ⟨_,rfl,rfl,hat5⟩
     ·rintro I1 hf af _ _ ⟨ad5,rfl,rfl,hat5⟩;exact yP [45] rfl<|rS 11 [(46,.pointer (some ad5))]<|yK [] iR ⟨_,rfl,rfl,hat5⟩
     ·rintro I1 hf af _ _ ⟨ad51,rfl,rfl,hat51⟩;exact yP [46] rfl<|xE 0 hat51 [vI x5.From] (vI x5.From) rfl<|yT iR
     ·intro I1 hf af;refine yP [42,47] rfl ?_;have h5:=iM af h5;refine nA 0 rfl rfl rfl h5 hy9 ?_;intro ad6 ccs6 hat6 hcc2 hrep6;obtain rfl:=hrep6;exact yK [] iR ⟨_,rfl,rfl,hat6,hcc2⟩
     rintro I1 hf af _ _ ⟨ad6,rfl,rfl,hat6,hcc2⟩;exact yP [48] rfl<|zCJ 0 0 hat6 hcc2 [vI x6] (vI x6) rfl rfl<|yT iR
    intro bz aE;refine yP [3,4,5,36,41,50] rfl ?_;have ⟨h5,H⟩:=m2 aE h5 H;obtain⟨x7,hy10,N⟩:=zB N;refine nA 0 rfl rfl rfl h5 hy10 ?_;intro ad7 ccs7 hat7 hcc3 hrep7;obtain rfl:=hrep7;obtain⟨l,hy11,N⟩:=zB N;refine tW (c:=[vI (W (x6+1))]) (x':=(W (x6+1))) 0 0 rfl rfl rfl hat7 rfl rfl hcc3 (by kernel_rfl) (by kernel_rfl) (by kernel_rfl) h5 hy10 (by kernel_rfl) rfl ?_;rw[show aj.set x4.To.toNat (W (x6+1))=l from zC hy11];intro br h8 hl0;exact oZ (m':=[(3,vS p5 aj c4),(4,vS p4 y1 c3),(5,vI i),(36,vS p5 aj c4),(41,vI x4.To),(50,vI (W (x6+1)))]) ⟨rfl,rfl,rfl,rfl,rfl,rfl,trivial⟩<|fX (ah:=[hO Int (vS p5 l c4) br]) (m':=[(3,vS p5 l c4),(4,vS p4 y1 c3),(5,vI i),(36,vS p5 l c4),(41,vI x4.To),(50,vI (W (x6+1)))]) (by first|rfl|simp only[vS,hl0,cr,cU,cW,cQ,cH,cI]) (by first|rfl|simp only[vS,hl0])<|yC rfl<|yN<|zT ⟨_,_,_,_,(zC N).symm,H,h8,rfl,rfl⟩
   intro aF N;exact zU<|yN<|zT ⟨_,_,_,_,(zC N).symm,H,h5,rfl,rfl⟩
  rintro aQ ax m2 ⟨aD,p7,c6,aT,heq,aK,h7,rfl,rfl⟩;subst o0;have ⟨h4,H⟩:=m2 aK h4 H;exact zP<|zJ<|zK<|yI [] [5] rfl<|yS<|nU<|ih aD (W (i+1)) _ aN H h4 h7 hg ho hx
 intro hc N;exact wZ<|yN<|hx _ _ _ _ _ (zC N).symm H h5
def fI(p:zD):Option ((List Int)):=do
 let y<-uA p
 let out<-mkrow 8 (y.length:Int) (0:Int)
 let y1<-fE p
 let am<-rQ y1 out 0
 pure (id am)
theorem zEd:∀p r,fI p=some r->∀{I:Imm}{p1 c p2 c1},(S4 I p1 p.Arrays c)->(S4 I p2 p.Parts c1)->RT 44 [vA (cProg p p1 c p2 c1)] I [] (nM  r):=by
 intro p r N I p1 c p2 c1 h h1;unfold fI at N;refine yJ func44 λB=>yE<|uH (cProg p p1 c p2 c1) ?_;intro b hb;refine wG [] []<|xA<|qA 1 [0] [(6,vA (cProg p p1 c p2 c1))]<|bE N λy hy N=>xO (dI p _ hy h h1) ?_;rintro I0 ax v2 k2 le - ⟨v0,rfl,rfl,h2⟩ -;have ⟨h,h1⟩:=m2 le h h1;obtain⟨p3,c2,rfl⟩:=h2.form;refine yF 3 [] [8] rfl<|bE N λout ay N=>zMQ 8 [vI 0] rfl ay rfl λb1 cs h3=>yI [] [3] rfl<|xA<|qA 1 [1] [(10,vA (cProg p p1 c p2 c1))]<|bE N λy1 aJ N=>xO (zGI p _ aJ h h1) ?_;rintro aU ax v2 k2 af - ⟨v01,rfl,rfl,h4⟩ -;have ⟨h3,h⟩:=m2 af h3 h;obtain⟨p4,c3,rfl⟩:=h4.form;refine yI [] [4] rfl<|zZ<|yG [5] rfl<|wC<|jU (zX [0] (ah:=[hO Int (vS (some ⟨b1,0,none⟩) out out.length) cs]))<|oA [(3,vS (some ⟨b1,0,none⟩) out out.length),(4,vS p4 y1 c3),(5,vI 0)] ?_;obtain⟨aM,aA,aH⟩:=zB N;refine zCX y1 out 0 aM aA iR h4 h3 (λ_ _ _ h=>h) (λ_ _ h=>h) ?_;intro bK am p6 c5 aO heq1 bi h6;subst aM;refine zR<|wW [2] rfl<|xF<|xB 0 rfl ?_;intro bO bw hl01;have h9:=SL.of_frozen hl01 bw h6;obtain rfl:=zC aH;exact xC ⟨_,_,(.tmp rfl ResV.nil),zO,⟨_,rfl,rfl,h9⟩⟩
def jG(p:zD):Option ((List Int)):=do
 let y<-tM p
 if(!y) then
  pure ([]:List Int)
 else
  let y1<-fI p
  pure (id y1)
theorem zEe:∀p r,jG p=some r->∀{I:Imm}{p1 c p2 c1},(S4 I p1 p.Arrays c)->(S4 I p2 p.Parts c1)->RT 21 [vA (cProg p p1 c p2 c1)] I [] (nM  r):=by
 intro p r N I p1 c p2 c1 h h1;unfold jG at N;refine yJ func21 λB=>yE<|uH (cProg p p1 c p2 c1) ?_;intro b hb;refine wG [] []<|zZ<|yE<|qA 1 [0] [(3,vA (cProg p p1 c p2 c1))]<|bE N λy hy N=>vV (eT p _ hy h h1) ?_;intro I0 le;have ⟨h,h1⟩:=m2 le h h1;refine yI [] [5] rfl<|zJ<|yD N ?_ ?_
 ·intro hc N;refine yE<|tU [] Int ?_;intro b1 hb1;have h3:RL I0 [] ([]:List Int):=rfl;refine yI [] [2] rfl<|xF<|zH<|xB 0 rfl ?_;intro aU af hl0;have h4:=SL.of_frozen hl0 af h3;obtain rfl:=zC N;exact xC ⟨_,_,(.tmp rfl ResV.nil),zO,⟨_,rfl,rfl,h4⟩⟩
 intro hc N;refine zU<|xA<|qA 1 [0] [(7,vA (cProg p p1 c p2 c1))]<|bE N λy1 ay N=>xO (zEd p _ ay h h1) ?_;rintro aQ ax v2 k2 aE - ⟨v01,rfl,rfl,h5⟩ -;obtain⟨p3,c2,rfl⟩:=h5.form;refine yI [] [2] rfl<|zJ<|yZ ?_;obtain rfl:=zC N;exact xC ⟨_,_,(.tmp rfl ResV.nil),zO,⟨_,rfl,rfl,h5⟩⟩
def rR(ai:(List Int))(n0:Int)(i:Int):Option (Int):=do
 if(decide (i<(ai.length:Int))) then
  let x<-idx ai i
  let n02<-(do
   if(decide ((W (x+1))>n0)) then
    let x1<-idx ai i
    pure (W (x1+1))
   else
    pure (id n0)
     : Option Int)
  rR ai n02 (W (i+1))
 else
  pure (id n0)
 partial_fixpoint
theorem zCY(ai:(List Int)):∀(n0:Int) (i:Int) (o:Int),rR ai n0 i=some o->∀{B}{I0 I:Imm}{Q p c},I0.le I->(S4 I p ai c)->NG Q->NO Q->(∀(I':Imm) (n01:Int),o=n01->I0.le I'->T 24 B Q (.exit 0) I' [] [(3,vI n01)])->J Tryz.prog 24 B (nav (bodyOf f22) [1,1,0,1,0]) Q I [] [(0,vS p ai c),(3,vI n0),(4,vI i)]:=by
 refine rR.partial_correctness ai _ λaI ih n0 i o N B I0 I Q p c H h hg ho hx=>yR hg ho<|yA<|yG [8] rfl<|zJ<|yD N ?_ ?_
 ·intro hc N;refine zU<|zZ<|yH<|yE<|yF 2 [] [11,12] rfl<|bE N λx hy N=>xN rfl rfl h hy ?_;intro ad aL ap al;obtain rfl:=al;refine xE 0 ap [vI x] (vI x) rfl<|yI [] [17] rfl<|zJ ?_;refine wE N [] (λn02=>[(0,vS p ai c),(3,vI n02),(4,vI i)]) (λo0 aB=>?_) ?_
  ·have H:=iS I;refine yD aB ?_ ?_
   ·intro aF N;refine zK<|yF 2 [] [18,19] rfl<|bE N λx1 ay N=>xN rfl rfl h ay ?_;intro ad1 bv ar az;obtain rfl:=az;exact xE 0 ar [vI x1] (vI x1) rfl<|yI [] [3] rfl<|yN<|zT (ct N H)
   intro aF N;exact zU<|yN<|zT (ct N H)
  intro n02 I0 le aN;have ⟨h,H⟩:=m2 le h H;exact zP<|zJ<|zK<|yI [] [4] rfl<|yS<|nU<|ih n02 (W (i+1)) _ aN H h hg ho hx
 intro hc N;exact wZ<|yN<|hx _ _ (zC N).symm H
def mE(ai:(List Int)):Option (Int):=do
 let n01<-rR ai 0 0
 pure (id n01)
theorem zEf:∀ai r,mE ai=some r->∀{I:Imm}{p c},(S4 I p ai c)->RT 22 [vS p ai c] I [] (yQ  r):=by
 intro ai r N I p c h;unfold mE at N;refine yJ func22 λB=>vK []<|wW [3] rfl<|zZ<|yG [4] rfl<|wC<|oA [(0,vS p ai c),(3,vI 0),(4,vI 0)] ?_;obtain⟨aM,aA,aH⟩:=zB N;refine zCY ai 0 0 aM aA iR h (λ_ _ _ h=>h) (λ_ _ h=>h) ?_;intro aU n01 heq1 af;subst aM;refine zR<|wW [2] rfl<|zJ<|yZ ?_;obtain rfl:=zC aH;exact wV
def sD(y:(List Int))(n0:Int)(am:List Int)(i:Int):Option (List Int):=do
 if(decide (i<(y.length:Int))) then
  let x<-idx y i
  let bf<-(do
   if(x==n0) then
    let out5<-app 8 am ([i]:List Int)
    pure (id out5)
   else
    pure (id am)
     : Option (List Int))
  sD y n0 bf (W (i+1))
 else
  pure (id am)
 partial_fixpoint
theorem zB3(y:(List Int))(n0:Int):∀(am:List Int) (i:Int) (o:List Int),sD y n0 am i=some o->∀{B}{I0 I:Imm}{Q p3 c2 p6 c5 aO},I0.le I->(S4 I p3 y c2)->(RL I aO am)->NG Q->NO Q->(∀(I':Imm) (aD:List Int) (p7:Option Addr) (c6:Nat) (aT:List Value),o=aD->I0.le I'->(RL I' aT aD)->T 33 B Q (.exit 2) I' [hO Int (vS p7 aD c6) aT] [(3,vS p7 aD c6),(4,vS p3 y c2),(5,vI n0)])->J Tryz.prog 33 B (nav (bodyOf f8) [1,1,1,0,1,0,0,1,0,0,1,0]) Q I [hO Int (vS p6 am c5) aO] [(3,vS p6 am c5),(4,vS p3 y c2),(5,vI n0),(6,vI i)]:=by
 refine sD.partial_correctness y n0 _ λaI ih am i o N B I0 I Q p3 c2 p6 c5 aO H h3 h7 hg ho hx=>yR hg ho<|yA<|yG [19] rfl<|zJ<|yD N ?_ ?_
 ·intro aF N;refine zU<|zZ<|yH<|yE<|yF 2 [] [22,23] rfl<|bE N λx aJ N=>xN rfl rfl h3 aJ ?_;intro ad aL ap al;obtain rfl:=al;refine xE 0 ap [vI x] (vI x) rfl<|yI [] [27] rfl<|zJ ?_;obtain⟨o0,aB,aN⟩:=zB N;refine pZ (λI' ah m'=>∃(bf:List Int) (p8:Option Addr) (c7:Nat) (br:List Value),o0=bf/\I.le I'/\(RL I' br bf)/\ah=[hO Int (vS p8 bf c7) br]/\m'=[(3,vS p8 bf c7),(4,vS p3 y c2),(5,vI n0),(6,vI i)]) ?_ ?_
  ·have H:=iS I;refine yD aB ?_ ?_
   ·intro bd N;refine zK<|yF 2 [] [28,29] rfl<|tU [vI i] Int ?_;intro b2 hb2;have h10:RL I [vI i] ([i]:List Int):=rI [i];obtain⟨out5,bb,N⟩:=zB N;exact pC 3 1 1 rfl rfl rfl h7 (.inr ⟨0,rfl⟩) h10 bb λp9 c8 bC h11=>qE (zX [1] (ah:=[hO Int (vS p9 out5 c8) bC]))<|yI [] [3] rfl<|yN<|zT ⟨_,_,_,_,(zC N).symm,H,h11,rfl,rfl⟩
   intro bd N;exact zU<|yN<|zT ⟨_,_,_,_,(zC N).symm,H,h7,rfl,rfl⟩
  rintro aQ ax m2 ⟨bf,p8,c7,br,heq,aE,h9,rfl,rfl⟩;subst o0;have ⟨h3,H⟩:=m2 aE h3 H;exact zP<|zJ<|zK<|yI [] [6] rfl<|yS<|nU<|ih bf (W (i+1)) _ aN H h3 h9 hg ho hx
 intro aF N;exact wZ<|yN<|hx _ _ _ _ _ (zC N).symm H h7
def sE(y:(List Int))(out:List Int)(n0:Int):Option (List Int):=do
 let y1<-mE y
 if(decide (n0<y1)) then
  let aD<-sD y n0 out 0
  sE y aD (W (n0+1))
 else
  pure (id out)
 partial_fixpoint
theorem zB4(y:(List Int)):∀(out:List Int) (n0:Int) (o:List Int),sE y out n0=some o->∀{B}{I0 I:Imm}{Q p3 c2 p4 c3 cs},I0.le I->(S4 I p3 y c2)->(RL I cs out)->NG Q->NO Q->(∀(I':Imm) (aj:List Int) (p5:Option Addr) (c4:Nat) (aC:List Value),o=aj->I0.le I'->(RL I' aC aj)->T 33 B Q (.exit 0) I' [hO Int (vS p5 aj c4) aC] [(3,vS p5 aj c4)])->J Tryz.prog 33 B (nav (bodyOf f8) [1,1,1,0,1,0]) Q I [hO Int (vS p4 out c3) cs] [(3,vS p4 out c3),(4,vS p3 y c2),(5,vI n0)]:=by
 refine sE.partial_correctness y _ λaI ih out n0 o N B I0 I Q p3 c2 p4 c3 cs H h3 h4 hg ho hx=>yR hg ho<|yA<|yE<|yF 2 [] [10,11] rfl<|bE N λy1 ay N=>jE (zEf y _ ay h3) ?_;intro aU af;have ⟨h4,h3,H⟩:=m3 af h4 h3 H;refine yI [] [13] rfl<|zJ<|yD N ?_ ?_
 ·intro hc N;refine zU<|zZ<|yH<|yG [6] rfl<|wC<|oA [(3,vS p4 out c3),(4,vS p3 y c2),(5,vI n0),(6,vI 0)] ?_;obtain⟨aM,aA,aH⟩:=zB N;refine zB3 y n0 out 0 aM aA iR h3 h4 (λ_ _ _ h=>hg _ _ _ h) (λ_ _ h=>ho _ _ h) ?_;intro bz aD p7 c6 aT heq1 aK h8;subst aM;have ⟨h3,H⟩:=m2 aK h3 H;exact zR<|zP<|zJ<|zK<|yI [] [5] rfl<|yS<|nU<|ih aD (W (n0+1)) _ aH H h3 h8 hg ho hx
 intro hc N;exact wZ<|yN<|hx _ _ _ _ _ (zC N).symm H h4
def oM(p:zD):Option ((List Int)):=do
 let y<-jG p
 let aj<-sE y ([]:List Int) 0
 pure (id aj)
theorem zAH:∀p r,oM p=some r->∀{I:Imm}{p1 c p2 c1},(S4 I p1 p.Arrays c)->(S4 I p2 p.Parts c1)->RT 8 [vA (cProg p p1 c p2 c1)] I [] (nM  r):=by
 intro p r N I p1 c p2 c1 h h1;unfold oM at N;refine yJ func8 λB=>yE<|uH (cProg p p1 c p2 c1) ?_;intro b hb;refine wG [] []<|xA<|tU [] Int ?_;intro b1 hb1;have h2:RL I [] ([]:List Int):=rfl;refine yI [] [3] rfl<|xA<|qA 1 [1] [(8,vA (cProg p p1 c p2 c1))]<|bE N λy hy N=>xO (zEe p _ hy h h1) ?_;rintro I0 ax v2 k2 le - ⟨v0,rfl,rfl,h3⟩ -;have ⟨h2,h⟩:=m2 le h2 h;obtain⟨p3,c2,rfl⟩:=h3.form;refine yI [] [4] rfl<|zZ<|yG [5] rfl<|wC<|jU (zX [0] (ah:=[hO Int (vS (some ⟨b1,0,none⟩) ([]:List Int) 0) []]))<|oA [(3,vS (some ⟨b1,0,none⟩) ([]:List Int) 0),(4,vS p3 y c2),(5,vI 0)] ?_;obtain⟨o02,ho02,hMl1⟩:=zB N;refine zB4 y ([]:List Int) 0 o02 ho02 iR h3 h2 (λ_ _ _ h=>h) (λ_ _ h=>h) ?_;intro bK aj p5 c4 aC heq2 bi h5;subst o02;refine zR<|wW [2] rfl<|xF<|xB 0 rfl ?_;intro bO bw hl0;have h12:=SL.of_frozen hl0 bw h5;obtain rfl:=zC hMl1;exact xC ⟨_,_,(.tmp rfl ResV.nil),zO,⟨_,rfl,rfl,h12⟩⟩
def nE(p:zD):Option (Bool):=do
 let (y1,y2)<-wU p
 pure (id y2)
theorem zBu:∀p r,nE p=some r->∀{I:Imm}{p1 c p2 c1},(S4 I p1 p.Arrays c)->(S4 I p2 p.Parts c1)->RT 9 [vA (cProg p p1 c p2 c1)] I [] (zS  r):=by
 intro p r N I p1 c p2 c1 h h1;unfold nE at N;refine yJ func9 λB=>yE<|uH (cProg p p1 c p2 c1) ?_;intro b hb;refine wG [] []<|xA<|qA 1 [0] [(6,vA (cProg p p1 c p2 c1))] ?_;obtain⟨⟨y1,y2⟩,hy,N⟩:=zB N;refine xO (pA p _ hy h h1) ?_;rintro I0 ax v2 k2 le - ⟨v0,v01,rfl,rfl,h2,rfl⟩ -;obtain⟨p3,c2,rfl⟩:=h2.form;refine yI [] [4] rfl<|wW [2] rfl<|zJ<|yZ ?_;obtain rfl:=zC N;exact wV
def mN(p:zD)(from0:Int)(to0:Int):Option (Int):=do
 let (y1,y2)<-gQ p
 let t42<-(do
  if(!y2) then
   pure true
  else
   let t<-y1
   let y3<-xS from0 0 (W ((t.list.length:Int) - 1))
   if(!y3) then
    pure true
   else
    let y4<-xS to0 0 (W ((t.list.length:Int) - 1))
    if(!y4) then
     pure true
    else
     pure (decide (from0>=to0))
    : Option Bool)
 if t42 then
  pure (id 0)
 else
  let t1<-y1
  let y5<-rA t1 from0 to0
  pure (id y5)
theorem zDB:∀p from0 to0 r,mN p from0 to0=some r->∀{I:Imm}{p1 c p2 c1},(S4 I p1 p.Arrays c)->(S4 I p2 p.Parts c1)->RT 11 [vA (cProg p p1 c p2 c1),vI from0,vI to0] I [] (yQ  r):=by
 intro p from0 to0 r N I p1 c p2 c1 h h1;unfold mN at N;refine yJ func11 λB=>?_;have H:=iS I;refine yE<|uH (cProg p p1 c p2 c1) ?_;intro b hb;refine wG [] []<|xA<|qA 1 [0] [(10,vA (cProg p p1 c p2 c1))] ?_;obtain⟨⟨y1,y2⟩,hy,N⟩:=zB N;refine xO (zC7 p _ hy h h1) ?_;rintro I0 ax v2 k2 le - ⟨v0,v01,rfl,rfl,h2,rfl⟩ -;have H:=H.trans le;refine yI [] [7,8] rfl<|zZ<|yA ?_;refine wE N [] (λt42=>[(1,vI from0),(2,vI to0),(7,v0),(42,.bool t42)]) (λo0 aB=>?_) ?_
 ·have H:=iS I0;refine zK<|yF 3 [] [16] rfl<|xW [16] aB ?_ ?_
  ·intro hc N;exact wG [] [(42,vY)]<|xV zO<|yN<|zT (ct N H)
  intro hc N;refine yF 5 [] [17,18] rfl ?_;obtain⟨t,ay,N⟩:=zB N;obtain⟨ad,aL,rfl,ap,al⟩:=zHc h2 ay;obtain⟨p3,c2,p4,c3,p5,c4,p6,c5,p7,c6,rfl,h4,h5,h6,h7,h8⟩:=dV al;refine yF 7 [] [20] rfl<|xE 2 ap [vS p5 t.list c4] (vS p5 t.list c4) rfl<|yF 10 [] [23] rfl<|bE N λy3 aJ N=>vV (xY from0 0 (W ((t.list.length:Int) - 1)) _ aJ ) ?_;intro aQ af;have ⟨ap,H⟩:=m2 af ap H;refine yF 14 [] [27] rfl<|xW [27] N ?_ ?_
  ·intro aF N;exact wG [] [(42,vY)]<|xV zO<|yN<|zT (ct N H)
  intro aF N;refine yF 18 [] [28,31] rfl<|xE 2 ap [vS p5 t.list c4] (vS p5 t.list c4) rfl<|yF 21 [] [34] rfl<|bE N λy4 bb N=>vV (xY to0 0 (W ((t.list.length:Int) - 1)) _ bb ) ?_;intro bz aE;have H:=H.trans aE;refine yF 25 [] [38] rfl<|xW [38] N ?_ ?_
  ·intro bd N;exact wG [] [(42,vY)]<|xV zO<|yN<|zT (ct N H)
  intro bd N;exact yI [] [42] rfl<|xV zO<|yN<|zT (ct N H)
 intro t42 aU aK aN;have h2:=h2.mono aK;refine zJ<|yD aN ?_ ?_
 ·intro bI N;refine yG [6] rfl<|xF<|zH ?_;obtain rfl:=zC N;exact wV
 intro bI N;refine zU<|xA<|yF 3 [] [43,44,45] rfl ?_;obtain⟨t1,bt,N⟩:=zB N;obtain⟨ad1,bv,rfl,ar,az⟩:=zHc h2 bt;obtain⟨p8,c7,p9,c8,aZ,c9,aV,bh,bB,bj,rfl,h11,h12,h13,h14,h15⟩:=dV az;obtain⟨y5,bH,N⟩:=zB N;refine jE (fT t1 from0 to0 _ bH h11 h12 h13 h14 h15 ar) λbK bi=>wG [] [(6,vI y5)]<|zJ<|yZ ?_;obtain rfl:=zC N;exact wV
def qR(order:(List Int))(many:Int)(met1:List Bool)(t12:Int):Option (Out Unit (Bool)):=do
 if(decide (t12<(order.length:Int))) then
  let x<-idx order t12
  let t26<-(do
   let y<-xS x 0 (W (many - 1))
   if(!y) then
    pure true
   else
    let x1<-idx met1 x
    pure (id x1)
     : Option Bool)
  if t26 then
   pure (.ret false)
  else
   let x2<-idx met1 x
   let l<-pure (met1.set x.toNat true)
   qR order many l (W (t12+1))
 else
  pure (.done ())
 partial_fixpoint
theorem zDC(order:(List Int))(many:Int):∀(met1:List Bool) (t12:Int) (o:Out Unit (Bool)),qR order many met1 t12=some o->∀{B}{I0 I:Imm}{Q p c p1 c1 aC},I0.le I->(S4 I p order c)->(RL I aC met1)->NG Q->NO Q->(∀(I':Imm) ,o=(.done ())->I0.le I'->T 35 B Q (.exit 0) I' [] [(0,vS p order c),(1,vI many)])->(∀r I' ah m',o=(.ret r)->I0.le I'->RS Tryz.prog f96 B (zS  r) I' ah m'->T 35 B Q .ret I' ah m')->J Tryz.prog 35 B (nav (bodyOf f96) [1,1,0,1,0]) Q I [hO Bool (vS p1 met1 c1) aC] [(0,vS p order c),(1,vI many),(5,vS p1 met1 c1),(10,vS p order c),(11,vI (order.length:Int)),(12,vI t12)]:=by
 refine qR.partial_correctness order many _ λaI ih met1 t12 o N B I0 I Q p c p1 c1 aC H h h2 hg ho hx hr=>yR hg ho<|yG [13] rfl<|zZ<|yD N ?_ ?_
 ·intro hc N;refine zU<|zZ<|yH<|yE<|bE N λx ay N=>xN rfl rfl h ay ?_;intro ad aL ap al;obtain rfl:=al;refine xE 0 ap [vI x] (vI x) rfl<|yI [] [7] rfl<|zZ<|yA ?_;refine wE N [hO Bool (vS p1 met1 c1) aC] (λt26=>[(0,vS p order c),(1,vI many),(5,vS p1 met1 c1),(7,vI x),(10,vS p order c),(11,vI (order.length:Int)),(12,vI t12),(26,.bool t26)]) (λo0 aB=>?_) ?_
  ·have H:=iS I;refine zK<|yF 3 [] [16,18] rfl ?_;obtain⟨y,aJ,N⟩:=zB aB;refine vV (xY x 0 (W (many - 1)) _ aJ ) ?_;intro aU le;have ⟨h2,H⟩:=m2 le h2 H;refine yF 6 [] [21] rfl<|xW [21] N ?_ ?_
   ·intro aF N;exact wG [] [(26,vY)]<|yN<|zT (ct N H)
   intro aF N;refine yF 8 [] [22,23] rfl<|bE N λx1 bb N=>nA 0 rfl rfl rfl h2 bb ?_;intro ad1 bv ar bG az;obtain rfl:=az;exact zCJ 0 0 ar bG [.bool x1] (.bool x1) rfl rfl<|yI [] [26] rfl<|yN<|zT (ct N H)
  intro t26 I0 af aN;have ⟨h,h2,H⟩:=m3 af h h2 H;refine zJ<|yD aN ?_ ?_
  ·intro bd N;exact vK [(4,vF)]<|xF<|zH<|zV<|zH<|zH<|hr _ _ _ _ (zC N).symm H ⟨_,_,(.tmp rfl ResV.nil),zO,⟨_,rfl,rfl,rfl⟩⟩
  intro bd N;refine zU<|zJ<|zK<|yF 2 [] [27,28] rfl<|bE N λx2 bt N=>nA 0 rfl rfl rfl h2 bt ?_;intro ad2 bM aP hcc1 aW;obtain rfl:=aW;obtain⟨l,bH,N⟩:=zB N;refine tW (c:=[vY]) (x':=true) 0 0 rfl rfl rfl aP rfl rfl hcc1 (by kernel_rfl) (by kernel_rfl) (by kernel_rfl) h2 bt (by kernel_rfl) rfl ?_;rw[show met1.set x.toNat true=l from zC bH];intro aO h4 hl0;exact oZ (m':=[(0,vS p order c),(1,vI many),(5,vS p1 met1 c1),(10,vS p order c),(11,vI (order.length:Int)),(12,vI t12),(27,vS p1 met1 c1),(28,vI x)]) ⟨rfl,rfl,rfl,rfl,rfl,rfl,rfl,rfl,trivial⟩<|fX (ah:=[hO Bool (vS p1 l c1) aO]) (m':=[(0,vS p order c),(1,vI many),(5,vS p1 l c1),(10,vS p order c),(11,vI (order.length:Int)),(12,vI t12),(27,vS p1 l c1),(28,vI x)]) (by first|rfl|simp only[vS,hl0,cr,cU,cW,cQ,cH,cI]) (by first|rfl|simp only[vS,hl0])<|yC rfl<|zP<|zJ<|zK<|yI [] [12] rfl<|yS<|nU<|ih l (W (t12+1)) _ N H h h4 hg ho hx hr
 intro hc N;exact wZ<|xV zO<|yN<|hx _  (zC N).symm H
def gJ(order:(List Int))(many:Int):Option (Bool):=do
 let met<-mkrow 1 many (false:Bool)
 match<-qR order many met 0 with
 | .ret r0=>pure r0
 | .done _=>
  pure ((order.length:Int)==many)
theorem zFN:∀order many r,gJ order many=some r->∀{I:Imm}{p c},(S4 I p order c)->RT 96 [vS p order c,vI many] I [] (zS  r):=by
 intro order many r N I p c h;unfold gJ at N;refine yJ func96 λB=>vK []<|xA<|yF 1 [] [8] rfl<|bE N λmet hy N=>zMQ 1 [vF] rfl hy rfl λb cs h1=>yI [] [5] rfl<|zZ<|yG [10,11,12] rfl<|wC<|oA [(0,vS p order c),(1,vI many),(5,vS (some ⟨b,0,none⟩) met met.length),(10,vS p order c),(11,vI (order.length:Int)),(12,vI 0)] ?_;obtain⟨aM,aA,aH⟩:=zB N;refine zDC order many met 0 aM aA iR h h1 (λ_ _ _ h=>h) (λ_ _ h=>h) ?_ ?_
 ·intro aQ  heq1 aE;subst aM;refine zR<|wW [4] rfl<|zJ<|yZ ?_;obtain rfl:=zC aH;exact wV
 intro r0 I9 hs9 m9 aR le9 aS;subst aR;refine zV<|zH ?_;obtain rfl:=zC aH;exact xC aS
def mO(p:zD)(order:(List Int)):Option (Bool):=do
 let (y1,y2)<-wU p
 let t4<-(do
  if y2 then
   let y3<-gJ order (y1.length:Int)
   pure (id y3)
  else
   pure false
    : Option Bool)
 pure (id t4)
theorem zDD:∀p order r,mO p order=some r->∀{I:Imm}{p1 c p2 c1 p3 c2},(S4 I p1 p.Arrays c)->(S4 I p2 p.Parts c1)->(S4 I p3 order c2)->RT 56 [vA (cProg p p1 c p2 c1),vS p3 order c2] I [] (zS  r):=by
 intro p order r N I p1 c p2 c1 p3 c2 h h1 h2;unfold mO at N;refine yJ func56 λB=>?_;have H:=iS I;refine yE<|uH (cProg p p1 c p2 c1) ?_;intro b hb;refine wG [] []<|xA<|qA 1 [0] [(8,vA (cProg p p1 c p2 c1))] ?_;obtain⟨⟨y1,y2⟩,hy,N⟩:=zB N;refine xO (pA p _ hy h h1) ?_;rintro I0 ax v2 k2 le - ⟨v0,v01,rfl,rfl,h3,rfl⟩ -;have ⟨h2,H⟩:=m2 le h2 H;obtain⟨p4,c3,rfl⟩:=h3.form;refine yI [] [5,6] rfl<|zJ<|yA ?_;refine wE N [] (λt4=>[(4,.bool t4)]) (λo0 aB=>?_) ?_
 ·have H:=iS I0;refine zK<|yF 2 [] [13] rfl<|xW [13] aB ?_ ?_
  ·intro hc N;refine yF 5 [] [14,16] rfl<|bE N λy3 ay N=>vV (zFN order (y1.length:Int) _ ay h2) ?_;intro aQ af;have H:=H.trans af;exact yI [] [4] rfl<|xV zO<|yN<|zT (ct N H)
  intro hc N;exact wG [] [(4,vF)]<|xV zO<|yN<|zT (ct N H)
 intro t4 aU aE aN;refine zJ<|yZ ?_;obtain rfl:=zC aN;exact wV
def oC(aY:List HA)(r:Int):KT:=λkk I' ah v=>
 ∃v0,aY=ah/\v=tupV [v0]/\v0=.int .i64 r
def xL(s:(List zY))(f0:(zY->Option Bool))(t8:Int):Option (Out Unit (Int)):=do
 if(decide (t8<(s.length:Int))) then
  let x<-idx s t8
  let y<-f0 x
  if y then
   pure (.ret t8)
  else
   xL s f0 (W (t8+1))
 else
  pure (.done ())
 partial_fixpoint
theorem jQ(s:(List zY))(f0:(zY->Option Bool)):∀(t8:Int) (o:Out Unit (Int)),xL s f0 t8=some o->∀{B}{I0 I:Imm}{Q p c}{fv:Value}{aY:List HA},I0.le I->(S4 I p s c)->(FV1 Tryz.prog I aY fv f0)->NG Q->NO Q->(∀(I':Imm) ,o=(.done ())->I0.le I'->T 19 B Q (.exit 0) I' aY [])->(∀r I' ah m',o=(.ret r)->I0.le I'->RS Tryz.prog f97 B (oC aY r) I' ah m'->T 19 B Q .ret I' ah m')->J Tryz.prog 19 B (nav (bodyOf f97) [1,0,1,0]) Q I aY [(0,vS p s c),(1,fv),(7,vI (s.length:Int)),(8,vI t8)]:=by
 refine xL.partial_correctness s f0 _ λaI ih t8 o N B I0 I Q p c fv aY H h h1 hg ho hx hr=>yR hg ho<|yG [9] rfl<|zZ<|yD N ?_ ?_
 ·intro hc N;refine zU<|zZ<|yH<|yG [5] rfl<|xA<|yF 3 [] [11,12,13] rfl<|bE N λx hy N=>xN rfl rfl h hy ?_;intro ad aL ap al;obtain rfl:=mQ al;refine xE 0 ap [vI x.From,vI x.To,vI x.Kinds] (vA [vI x.From,vI x.To,vI x.Kinds]) rfl<|bE N λy ay N=>zIZ rfl rfl h1 ay ⟨_,rfl,(zA4 rfl)⟩ (cu _).symm ?_;rintro I0 v0 le rfl;refine uW (ah:=aY) (cu _) ?_;have ⟨h,h1,H⟩:=m3 le h h1 H;refine yC rfl<|zJ<|yD N ?_ ?_
  ·intro aF N;exact yG [4] rfl<|xF<|zV<|zH<|zH<|hr _ _ _ _ (zC N).symm H ⟨_,_,(.tmp rfl ResV.nil),(λ_ h=>h),⟨_,rfl,rfl,rfl⟩⟩
  intro aF N;exact zU<|zP<|zJ<|zK<|yI [] [8] rfl<|yS<|nU<|ih (W (t8+1)) _ N H h h1 hg ho hx hr
 intro hc N;exact wZ<|yN<|hx _  (zC N).symm H
def uE(s:(List zY))(f0:(zY->Option Bool)):Option (Int):=do
 match<-xL s f0 0 with
 | .ret r0=>pure r0
 | .done _=>
  pure (-1)
theorem gS:∀s f0 r,uE s f0=some r->∀{I:Imm}{p c}{fv:Value}{aY:List HA},(S4 I p s c)->(FV1 Tryz.prog I aY fv f0)->RT 97 [vS p s c,fv] I aY (oC aY r):=by
 intro s f0 r N I p c fv aY h h1;unfold uE at N;refine yJ func97 λB=>vK []<|zZ<|yG [7,8] rfl<|wC<|oA [(0,vS p s c),(1,fv),(7,vI (s.length:Int)),(8,vI 0)] ?_;obtain⟨o0,aB,aH⟩:=zB N;refine jQ s f0 0 o0 aB iR h h1 (λ_ _ _ h=>h) (λ_ _ h=>h) ?_ ?_
 ·intro aU  heq af;subst o0;refine zR<|wW [4] rfl<|zJ<|yZ ?_;obtain rfl:=zC aH;exact xC ⟨_,_,(.tmp rfl ResV.nil),(λ_ h=>h),⟨_,rfl,rfl,rfl⟩⟩
 intro r0 I9 hs9 m9 aR le9 aS;subst aR;refine zV<|zH ?_;obtain rfl:=zC aH;exact xC aS
def qZ(d0:zY)(x:(List Int)):Option (Bool):=do
 let x1<-idx x d0.To
 let x2<-idx x d0.From
 pure (decide (x1<x2))
theorem zEg:∀d0 x r,qZ d0 x=some r->∀{I:Imm}{ad:Addr}{p c},(S4 I p x c)->(At I ad [vS p x c])->RT 98 [vA [vI d0.From,vI d0.To,vI d0.Kinds],.pointer (some ad)] I [] (zS  r):=by
 intro d0 x r N I ad p c h ap;unfold qZ at N;refine yJ func98 λB=>yE<|uH [vI d0.From,vI d0.To,vI d0.Kinds] ?_;intro b hb;refine wG [] []<|zZ<|nP (by kernel_rfl) (by kernel_rfl)<|kF 0 ap [vS p x c] (vS p x c) rfl<|gN 3 [0] [6] rfl<|bE N λx1 hy N=>gT rfl rfl h hy ?_;intro ad1 aL ar al;obtain rfl:=al;refine kF 0 ar [vI x1] (vI x1) rfl<|kF 0 ap [vS p x c] (vS p x c) rfl<|gN 8 [0] [11] rfl<|bE N λx2 ay N=>gT rfl rfl h ay ?_;intro ad2 bv aP az;obtain rfl:=az;refine kF 0 aP [vI x2] (vI x2) rfl<|zEw [] [3] rfl<|zJ<|yZ ?_;obtain rfl:=zC N;exact wV
def rY(order:(List Int))(t13:Int)(x:List Int):Option (List Int):=do
 if(decide (t13<(order.length:Int))) then
  let x2<-idx order t13
  let x3<-idx x x2
  let l1<-pure (x.set x2.toNat t13)
  rY order (W (t13+1)) l1
 else
  pure (id x)
 partial_fixpoint
theorem zDu(order:(List Int)):∀(t13:Int) (x:List Int) (o:List Int),rY order t13 x=some o->∀{B}{I0 I:Imm}{Q}{deps:(List zY)}{p c p1 c1}{b1:Nat}{p2 c2 aC},I0.le I->(S4 I p deps c)->(S4 I p1 order c1)->(RL I aC x)->NG Q->NO Q->(∀(I':Imm) (x1:List Int) (p3:Option Addr) (c3:Nat) (aO:List Value),o=x1->I0.le I'->(RL I' aO x1)->T 26 B Q (.exit 0) I' [hB b1 [vS p3 x1 c3],hO Int (vS p3 x1 c3) aO] [(0,vS p deps c),(5,vP b1 0)])->J Tryz.prog 26 B (nav (bodyOf f57) [1,1,0,1,0]) Q I [hB b1 [vS p2 x c2],hO Int (vS p2 x c2) aC] [(0,vS p deps c),(5,vP b1 0),(11,vS p1 order c1),(12,vI (order.length:Int)),(13,vI t13)]:=by
 refine rY.partial_correctness order _ λaI ih t13 x o N B I0 I Q deps p c p1 c1 b1 p2 c2 aC H h h1 h3 hg ho hx=>yR hg ho<|yG [14] rfl<|zZ<|yD N ?_ ?_
 ·intro hc N;refine zU<|zZ<|yH<|yE<|yF 1 [] [15] rfl<|bE N λx2 ay N=>xN rfl rfl h1 ay ?_;intro ad aL ap al;obtain rfl:=al;refine xE 0 ap [vI x2] (vI x2) rfl<|yI [] [6,7] rfl<|zJ<|zK<|yF 3 [0] [18,19,20] rfl<|bE N λx3 aJ N=>nA 1 rfl rfl rfl h3 aJ ?_;intro ad1 bv ar bG az;obtain rfl:=az;obtain⟨l1,bb,N⟩:=zB N;refine tW (c:=[vI t13]) (x':=t13) 1 0 rfl rfl rfl ar rfl rfl bG (by kernel_rfl) (by kernel_rfl) (by kernel_rfl) h3 aJ (by kernel_rfl) rfl ?_;rw[show x.set x2.toNat t13=l1 from zC bb];intro aT h5 hl0;exact oZ (m':=[(0,vS p deps c),(5,vP b1 0),(11,vS p1 order c1),(12,vI (order.length:Int)),(13,vI t13),(18,vS p2 x c2),(19,vI x2),(20,vI t13)]) ⟨rfl,rfl,rfl,rfl,rfl,rfl,rfl,rfl,trivial⟩<|fX (ah:=[hB b1 [vS p2 l1 c2],hO Int (vS p2 l1 c2) aT]) (m':=[(0,vS p deps c),(5,vP b1 0),(11,vS p1 order c1),(12,vI (order.length:Int)),(13,vI t13),(18,vS p2 l1 c2),(19,vI x2),(20,vI t13)]) (by first|rfl|simp only[vS,hl0,cr,cU,cW,cQ,cH,cI]) (by first|rfl|simp only[vS,hl0])<|yC rfl<|zP<|zJ<|zK<|yI [] [13] rfl<|yS<|nU<|ih (W (t13+1)) l1 _ N H h h1 h5 hg ho hx
 intro hc N;exact wZ<|yN<|hx _ _ _ _ _ (zC N).symm H h3
def jO(deps:(List zY))(order:(List Int)):Option (Int):=do
 let l<-mkrow 8 (order.length:Int) (0:Int)
 let x1<-rY order 0 l
 let y<-uE deps (λx0=>qZ x0 x1)
 pure (id y)
theorem zGJ:∀deps order r,jO deps order=some r->∀{I:Imm}{p c p1 c1},(S4 I p deps c)->(S4 I p1 order c1)->RT 57 [vS p deps c,vS p1 order c1] I [] (yQ  r):=by
 intro deps order r N I p c p1 c1 h h1;unfold jO at N;refine yJ func57 λB=>vK []<|xA<|yF 2 [] [9] rfl<|bE N λl hy N=>zMQ 8 [vI 0] rfl hy rfl λb cs h2=>uB [z0] ?_;intro b1 hb;refine xP 0 [vS (some ⟨b,0,none⟩) l l.length] rfl<|yC rfl<|zZ<|yG [11,12,13] rfl<|wC<|oA [(0,vS p deps c),(5,vP b1 0),(11,vS p1 order c1),(12,vI (order.length:Int)),(13,vI 0)] ?_;obtain⟨o0,aB,aH⟩:=zB N;refine zDu order 0 l o0 aB iR h h1 h2 (λ_ _ _ h=>h) (λ_ _ h=>h) ?_;intro I0 x1 p3 c3 aO heq le h4;subst o0;have h:=h.mono le;refine zR<|xA<|yF 2 [] [23,24] rfl<|xM 1 rfl ?_;intro aU af hl01;have h6:=SL.of_frozen hl01 af h4;have h:=h.mono af;refine xM 0 rfl ?_;intro aQ aE hl02;have aP:At aQ ⟨b1,0,none⟩ [vS p3 x1 c3]:=At.of_blk hl02;have ⟨h,h6⟩:=m2 aE h h6;have hf0:FV1 Tryz.prog aQ [] (.func (.func 98) ⟨[]⟩ ⟨[vP b1 0]⟩) (λx0=>qZ x0 x1):=by
  refine FV1.intro ?_;intro I1 af x0 r u0 hF k0;obtain⟨_,rfl,k0⟩:=k0;obtain rfl:=mQ k0;exact(zEg x0 x1 r hF (h6.mono af) (aP.mono af)).mono (by rintro k i hs u ⟨v0,rfl,rfl,h⟩;exact⟨rfl,h⟩)
 obtain⟨y,bt,N⟩:=zB aH;refine xO (gS deps (λx0=>qZ x0 x1) _ bt h hf0) ?_;rintro bz ax v2 k2 aK - ⟨v0,rfl,rfl,rfl⟩ -;refine yI [] [4] rfl<|zJ<|yZ ?_;obtain rfl:=zC N;exact wV
def dM(p:zD)(order:(List Int)):Option (Bool):=do
 let t6<-(do
  let y<-mO p order
  if y then
   let y1<-pV p
   let y2<-jO y1 order
   pure (decide (y2<0))
  else
   pure false
    : Option Bool)
 pure (id t6)
theorem zGi:∀p order r,dM p order=some r->∀{I:Imm}{p1 c p2 c1 p3 c2},(S4 I p1 p.Arrays c)->(S4 I p2 p.Parts c1)->(S4 I p3 order c2)->RT 30 [vA (cProg p p1 c p2 c1),vS p3 order c2,.func (.func 25) ⟨[]⟩ ⟨[]⟩] I [] (zS  r):=by
 intro p order r N I p1 c p2 c1 p3 c2 h h1 h2;unfold dM at N;refine yJ func30 λB=>?_;have H:=iS I;refine yE<|uH (cProg p p1 c p2 c1) ?_;intro b hb;refine wG [] []<|zJ<|yA ?_;refine wE N [] (λt6=>[(6,.bool t6)]) (λo0 aB=>?_) ?_
 ·have H:=iS I;refine zK<|qA 2 [0] [(7,vA (cProg p p1 c p2 c1)),(8,vS p3 order c2)] ?_;obtain⟨y,hy,N⟩:=zB aB;refine vV (zDD p order _ hy h h1 h2) ?_;intro aU le;have ⟨h2,h,h1,H⟩:=m4 le h2 h h1 H;refine yF 4 [] [10] rfl<|xW [10] N ?_ ?_
  ·intro hc N;refine qA 6 [0] [(11,.func (.func 25) ⟨[]⟩ ⟨[]⟩),(12,vA (cProg p p1 c p2 c1))]<|bE N λy1 ay N=>xO (dH p _ ay h h1) ?_;rintro aQ ax v2 k2 af - ⟨v01,rfl,rfl,h4⟩ -;have ⟨h2,H⟩:=m2 af h2 H;obtain⟨p4,c3,rfl⟩:=h4.form;refine yF 8 [] [14] rfl<|bE N λy2 aJ N=>jE (zGJ y1 order _ aJ h4 h2) ?_;intro bz aE;have H:=H.trans aE;exact yI [] [6] rfl<|xV zO<|yN<|zT (ct N H)
  intro hc N;exact wG [] [(6,vF)]<|xV zO<|yN<|zT (ct N H)
 intro t6 I0 aK aN;refine zJ<|yZ ?_;obtain rfl:=zC aN;exact wV
def qS(p:zD)(order:(List Int)):Option (Bool):=do
 let y<-dM p order
 pure (id y)
theorem zAI:∀p order r,qS p order=some r->∀{I:Imm}{p1 c p2 c1 p3 c2},(S4 I p1 p.Arrays c)->(S4 I p2 p.Parts c1)->(S4 I p3 order c2)->RT 12 [vA (cProg p p1 c p2 c1),vS p3 order c2] I [] (zS  r):=by
 intro p order r N I p1 c p2 c1 p3 c2 h h1 h2;unfold qS at N;refine yJ func12 λB=>yE<|uH (cProg p p1 c p2 c1) ?_;intro b hb;refine wG [] []<|xA<|qA 2 [0] [(5,vA (cProg p p1 c p2 c1)),(6,vS p3 order c2)]<|bE N λy hy N=>vV (zGi p order _ hy h h1 h2) λI0 le=>wG [] [(4,.bool y)]<|zJ<|yZ ?_;obtain rfl:=zC N;exact wV
end Go.LN
