/- Helper of the proof (see the last text). -/
import Derived.Test.YtcmjkmdecmabaaaGreatHM7
set_option linter.unusedVariables false
set_option linter.unusedSimpArgs false
namespace Go.LN
open Go.Proofs Go.Proofs.Tryz
set_option maxRecDepth 20000
def sI (part:Int) (y1:(List zK)) (y6:(List (List Int))) (lanes:List (List Int)) (k0:Int):Option (List (List Int)):=do
 if (decide (k0<(y6.length:Int))) then
  let x1<-idx y6 k0
  let y7<-rA y1 part x1
  let lanes2<-app 24 lanes ([y7]:List (List Int))
  sI part y1 y6 lanes2 (W (k0+1))
 else
  pure (id lanes)
 partial_fixpoint
set_option maxHeartbeats 4000000 in
theorem zDU (part:Int) (y1:(List zK)) (y6:(List (List Int))):∀ (lanes:List (List Int)) (k0:Int) (o:List (List Int)),sI part y1 y6 lanes k0=some o->∀ {B}{I0 I:Imm}{Q}{p:zD}{loop:Int}{y4:(List (List Int))}{out:List Int}{i:Int}{p1 c p2 c1}{b:Nat}{p3 c2 p6 c5 p7 c6 az aR bh bD bc aT},I0.le I->(S4 I p3 y1 c2)->(RL I az out)->(S4 I p6 y4 c5)->(S4 I aR y6 bh)->(S4 I p1 p.Arrays c)->(S4 I p2 p.Parts c1)->(RL I aT lanes)->NG Q->NO Q->(∀ (I':Imm) (lanes1:List (List Int)) (bq:Option Addr) (bo:Nat) (bt:List Value),o=lanes1->I0.le I'->(RL I' bt lanes1)->T 104 B Q (.exit 2) I' [hO (List Int) (vS bq lanes1 bo) bt,hO Int (vS p7 out c6) az,hB b (cProg p p1 c p2 c1)] [(1,vI part),(2,vI loop),(3,vP b 0),(8,vS p3 y1 c2),(9,vS p7 out c6),(10,vS p6 y4 c5),(11,vI i),(12,vS bq lanes1 bo)])->J Tryz.prog 104 B (nav (bodyOf f26) [1,1,1,1,1,0,1,0,0,1,0,0,1,1,0,1,0]) Q I [hO (List Int) (vS bD lanes bc) aT,hO Int (vS p7 out c6) az,hB b (cProg p p1 c p2 c1)] [(1,vI part),(2,vI loop),(3,vP b 0),(8,vS p3 y1 c2),(9,vS p7 out c6),(10,vS p6 y4 c5),(11,vI i),(12,vS bD lanes bc),(13,vS aR y6 bh),(14,vI k0)]:=by
 refine sI.partial_correctness part y1 y6 _ fun aJ ih lanes k0 o N B I0 I Q p loop y4 out i p1 c p2 c1 b p3 c2 p6 c5 p7 c6 az aR bh bD bc aT H h5 h9 h8 h14 h h1 h15 hg ho hx=>yM hg ho<|zZ<|yF [55] rfl<|zG<|yC N ?_ ?_
 · intro aX N;refine zS<|zX<|yG<|zJ<|yB 5 [] [58,59,60,61,62] rfl<|bE N fun x1 hy8 N=>xK rfl rfl h14 hy8 ?_;intro ad1 bv av ax;obtain ⟨v07,rfl,h17⟩:=ax;obtain ⟨p14,bB,rfl⟩:=h17.form;refine xB 0 av [vS p14 x1 bB] (vS p14 x1 bB) rfl<|bE N fun y7 hy9 N=>xL (zA8 y1 part x1 _ hy9 h5 h17) ?_;rintro I08 ay v2 k2 le8 - ⟨v08,rfl,rfl,h18⟩ -;have ⟨h5,h9,h8,h14,h15,h⟩:=m6 le8 h5 h9 h8 h14 h15 h;have ⟨h1,H⟩:=m2 le8 h1 H;obtain ⟨p15,c14,rfl⟩:=h18.form;refine uK [vS p15 y7 c14] (List Int) ?_;intro b3 hb3;have h19:RL I08 [vS p15 y7 c14] ([y7]:List (List Int)):=⟨[vS p15 y7 c14],_,rfl,rfl,⟨_,rfl,h18⟩,rfl⟩;obtain ⟨lanes2,hy10,N⟩:=zB N;exact sU 27 1 1 rfl rfl rfl h15 (.inr ⟨0,rfl⟩) h19 hy10 fun p16 c15 bJ h20=>tZ (zY [1,2,3] (ah:=[hO (List Int) (vS p16 lanes2 c15) bJ,hO Int (vS p7 out c6) az,hB b (cProg p p1 c p2 c1)]))<|yH [] [12] rfl<|zM<|zG<|zJ<|yH [] [14] rfl<|yK<|oY<|ih lanes2 (W (k0+1)) _ N H h5 h9 h8 h14 h h1 h20 hg ho hx
 intro aX N;exact wJ<|yL<|hx _ _ _ _ _ (zC N).symm H h15
def qC (lanes1:List (List Int)) (step:Int) (bf:List Int) (k01:Int):Option (List Int):=do
 if (decide (k01<(lanes1.length:Int))) then
  let x2<-idx lanes1 k01
  let out6<-(do
    if (decide (step<(x2.length:Int))) then
     let x3<-idx lanes1 k01
     let x4<-idx x3 step
     let out7<-app 8 bf ([x4]:List Int)
     pure (id out7)
    else
     pure (id bf)
      : Option (List Int))
  qC lanes1 step out6 (W (k01+1))
 else
  pure (id bf)
 partial_fixpoint
theorem zDV (lanes1:List (List Int)) (step:Int):∀ (bf:List Int) (k01:Int) (o:List Int),qC lanes1 step bf k01=some o->∀ {B}{I0 I:Imm}{Q}{p:zD}{part:Int}{loop:Int}{y1:(List zK)}{y4:(List (List Int))}{i:Int}{p1 c p2 c1}{b:Nat}{p3 c2 p6 c5 bq bo bt p19 c18 cs8},I0.le I->(S4 I p3 y1 c2)->(S4 I p6 y4 c5)->(RL I bt lanes1)->(S4 I p1 p.Arrays c)->(S4 I p2 p.Parts c1)->(RL I cs8 bf)->NG Q->NO Q->(∀ (I':Imm) (out5:List Int) (p20:Option Addr) (c19:Nat) (cs9:List Value),o=out5->I0.le I'->(RL I' cs9 out5)->T 104 B Q (.exit 6) I' [hO (List Int) (vS bq lanes1 bo) bt,hO Int (vS p20 out5 c19) cs9,hB b (cProg p p1 c p2 c1)] [(1,vI part),(2,vI loop),(3,vP b 0),(8,vS p3 y1 c2),(9,vS p20 out5 c19),(10,vS p6 y4 c5),(11,vI i),(12,vS bq lanes1 bo),(15,vI step)])->J Tryz.prog 104 B (nav (bodyOf f26) [1,1,1,1,1,0,1,0,0,1,0,0,1,1,1,1,0,0,1,0,0,1,0]) Q I [hO (List Int) (vS bq lanes1 bo) bt,hO Int (vS p19 bf c18) cs8,hB b (cProg p p1 c p2 c1)] [(1,vI part),(2,vI loop),(3,vP b 0),(8,vS p3 y1 c2),(9,vS p19 bf c18),(10,vS p6 y4 c5),(11,vI i),(12,vS bq lanes1 bo),(15,vI step),(16,vI k01)]:=by
 refine qC.partial_correctness lanes1 step _ fun aJ ih bf k01 o N B I0 I Q p part loop y1 y4 i p1 c p2 c1 b p3 c2 p6 c5 bq bo bt p19 c18 cs8 H h5 h8 h16 h h1 h23 hg ho hx=>yM hg ho<|zZ<|yF [75] rfl<|zG<|yC N ?_ ?_
 · intro bO N;refine zS<|zX<|yG<|yE<|yB 3 [] [78,79,80] rfl<|bE N fun x2 hy11 N=>pQ 0 rfl rfl rfl h16 hy11 ?_;intro ad2 bP aY bM bd;obtain ⟨v09,rfl,h25⟩:=bd;obtain ⟨p21,c20,rfl⟩:=h25.form;refine zAH 0 0 aY bM [vS p21 x2 c20] (vS p21 x2 c20) rfl rfl<|yH [] [84] rfl<|zG ?_;obtain ⟨aP,aA,aU⟩:=zB N;refine qF (fun I' ah m'=>∃ (out6:List Int) (p22:Option Addr) (c21:Nat) (cs10:List Value),aP=out6/\I.le I'/\(RL I' cs10 out6)/\ah=[hO (List Int) (vS bq lanes1 bo) bt,hO Int (vS p22 out6 c21) cs10,hB b (cProg p p1 c p2 c1)]/\m'=[(1,vI part),(2,vI loop),(3,vP b 0),(8,vS p3 y1 c2),(9,vS p22 out6 c21),(10,vS p6 y4 c5),(11,vI i),(12,vS bq lanes1 bo),(15,vI step),(16,vI k01)]) ?_ ?_
   · have H:=iS I;refine yC aA ?_ ?_
     · intro hc5 N;refine zJ<|yB 3 [] [85,86,87] rfl<|bE N fun x3 hy12 N=>pQ 0 rfl rfl rfl h16 hy12 ?_;intro ad3 ccs3 hat3 hcc1 bG;obtain ⟨v010,rfl,h27⟩:=bG;obtain ⟨p23,c22,rfl⟩:=h27.form;refine zAH 0 0 hat3 hcc1 [vS p23 x3 c22] (vS p23 x3 c22) rfl rfl<|yB 6 [] [90] rfl<|bE N fun x4 hy13 N=>xK rfl rfl h27 hy13 ?_;intro ad4 ccs4 hat4 hrep4;obtain rfl:=hrep4;refine xB 0 hat4 [vI x4] (vI x4) rfl<|uK [vI x4] Int ?_;intro b4 hb4;have h28:RL I [vI x4] ([x4]:List Int):=rI [x4];obtain ⟨out7,hy14,N⟩:=zB N;exact sU 3 1 2 rfl rfl rfl h23 (.inr ⟨0,rfl⟩) h28 hy14 fun p24 c23 cs11 h29=>tZ (zY [1,2,3] (ah:=[hO (List Int) (vS bq lanes1 bo) bt,hO Int (vS p24 out7 c23) cs11,hB b (cProg p p1 c p2 c1)]))<|yH [] [9] rfl<|yL<|zU ⟨_,_,_,_,(zC N).symm,H,h29,rfl,rfl⟩
     intro hc5 N;exact zS<|yL<|zU ⟨_,_,_,_,(zC N).symm,H,h23,rfl,rfl⟩
   rintro bS ay m2 ⟨out6,p22,c21,cs10,heq1,le10,h26,rfl,rfl⟩;subst aP;have ⟨h5,h8,h16,h,h1,H⟩:=m6 le10 h5 h8 h16 h h1 H;exact zM<|zG<|zJ<|yH [] [16] rfl<|yK<|oY<|ih out6 (W (k01+1)) _ aU H h5 h8 h16 h h1 h26 hg ho hx
 intro bO N;exact wJ<|yL<|hx _ _ _ _ _ (zC N).symm H h23
def qD (lanes1:List (List Int)) (au:List Int) (step:Int):Option (List Int):=do
 if (decide (step<120)) then
  let out5<-qC lanes1 step au 0
  qD lanes1 out5 (W (step+1))
 else
  pure (id au)
 partial_fixpoint
theorem zDW (lanes1:List (List Int)):∀ (au:List Int) (step:Int) (o:List Int),qD lanes1 au step=some o->∀ {B}{I0 I:Imm}{Q}{p:zD}{part:Int}{loop:Int}{y1:(List zK)}{y4:(List (List Int))}{i:Int}{p1 c p2 c1}{b:Nat}{p3 c2 p6 c5 bq bo bt p17 c16 cs6},I0.le I->(S4 I p3 y1 c2)->(S4 I p6 y4 c5)->(RL I bt lanes1)->(S4 I p1 p.Arrays c)->(S4 I p2 p.Parts c1)->(RL I cs6 au)->NG Q->NO Q->(∀ (I':Imm) (aH:List Int) (p18:Option Addr) (c17:Nat) (cs7:List Value),o=aH->I0.le I'->(RL I' cs7 aH)->T 104 B Q (.exit 4) I' [hO Int (vS p18 aH c17) cs7,hB b (cProg p p1 c p2 c1)] [(1,vI part),(2,vI loop),(3,vP b 0),(8,vS p3 y1 c2),(9,vS p18 aH c17),(10,vS p6 y4 c5),(11,vI i)])->J Tryz.prog 104 B (nav (bodyOf f26) [1,1,1,1,1,0,1,0,0,1,0,0,1,1,1,1,0]) Q I [hO (List Int) (vS bq lanes1 bo) bt,hO Int (vS p17 au c16) cs6,hB b (cProg p p1 c p2 c1)] [(1,vI part),(2,vI loop),(3,vP b 0),(8,vS p3 y1 c2),(9,vS p17 au c16),(10,vS p6 y4 c5),(11,vI i),(12,vS bq lanes1 bo),(15,vI step)]:=by
 refine qD.partial_correctness lanes1 _ fun aJ ih au step o N B I0 I Q p part loop y1 y4 i p1 c p2 c1 b p3 c2 p6 c5 bq bo bt p17 c16 cs6 H h5 h8 h16 h h1 h21 hg ho hx=>yM hg ho<|zZ<|yF [69] rfl<|zG<|yC N ?_ ?_
 · intro bK N;refine zS<|zX<|yG<|yF [16] rfl<|xX<|rU [(1,vI part),(2,vI loop),(3,vP b 0),(8,vS p3 y1 c2),(9,vS p17 au c16),(10,vS p6 y4 c5),(11,vI i),(12,vS bq lanes1 bo),(15,vI step),(16,vI 0)] ?_;obtain ⟨o02,ho02,hMl1⟩:=zB N;refine zDV lanes1 step au 0 o02 ho02 iR h5 h8 h16 h h1 h21 (fun _ _ _ h=>hg _ _ _ h) (fun _ _ h=>ho _ _ h) ?_;intro bY out5 p20 c19 cs9 heq2 le11 h24;subst o02;have ⟨h5,h8,h16,h,h1,H⟩:=m6 le11 h5 h8 h16 h h1 H;exact zR<|zM<|zG<|zJ<|yH [] [15] rfl<|yK<|oY<|ih out5 (W (step+1)) _ hMl1 H h5 h8 h16 h h1 h24 hg ho hx
 intro bK N;exact wJ<|xQ (zW [1,2] rfl (by decide))<|yL<|hx _ _ _ _ _ (zC N).symm H h21
def qE (part:Int) (loop:Int) (y1:(List zK)) (y4:(List (List Int))) (out:List Int) (i:Int):Option (List Int):=do
 if (decide (i<(y4.length:Int))) then
  let x<-idx y4 i
  let y5<-rA y1 part x
  let y6<-gE y1 y5 (W (loop+1))
  let lanes1<-sI part y1 y6 ([]:List (List Int)) 0
  let aH<-qD lanes1 out 0
  qE part loop y1 y4 aH (W (i+1))
 else
  pure (id out)
 partial_fixpoint
set_option maxHeartbeats 4000000 in
theorem zDX (part:Int) (loop:Int) (y1:(List zK)) (y4:(List (List Int))):∀ (out:List Int) (i:Int) (o:List Int),qE part loop y1 y4 out i=some o->∀ {B}{I0 I:Imm}{Q}{p:zD}{p1 c p2 c1}{b:Nat}{p3 c2 p6 c5 p7 c6 az},I0.le I->(S4 I p3 y1 c2)->(S4 I p6 y4 c5)->(S4 I p1 p.Arrays c)->(S4 I p2 p.Parts c1)->(RL I az out)->NG Q->NO Q->(∀ (I':Imm) (al:List Int) (p8:Option Addr) (c7:Nat) (aS:List Value),o=al->I0.le I'->(RL I' aS al)->T 104 B Q (.exit 0) I' [hO Int (vS p8 al c7) aS,hB b (cProg p p1 c p2 c1)] [(1,vI part),(3,vP b 0),(8,vS p3 y1 c2),(9,vS p8 al c7)])->J Tryz.prog 104 B (nav (bodyOf f26) [1,1,1,1,1,0,1,0]) Q I [hO Int (vS p7 out c6) az,hB b (cProg p p1 c p2 c1)] [(1,vI part),(2,vI loop),(3,vP b 0),(8,vS p3 y1 c2),(9,vS p7 out c6),(10,vS p6 y4 c5),(11,vI i)]:=by
 refine qE.partial_correctness part loop y1 y4 _ fun aJ ih out i o N B I0 I Q p p1 c p2 c1 b p3 c2 p6 c5 p7 c6 az H h5 h8 h h1 h9 hg ho hx=>yM hg ho<|zZ<|yF [37] rfl<|zG<|yC N ?_ ?_
 · intro aI N;refine zS<|zX<|yG<|yE<|uK [] (List Int) ?_;intro b2 hb2;have h11:RL I [] ([]:List (List Int)):=rfl;refine yH [] [12] rfl<|yX<|yB 5 [] [41,42,43,44,45] rfl<|bE N fun x bI N=>xK rfl rfl h8 bI ?_;intro ad aQ ar ap;obtain ⟨v04,rfl,h12⟩:=ap;obtain ⟨p9,c8,rfl⟩:=h12.form;refine xB 0 ar [vS p9 x c8] (vS p9 x c8) rfl<|bE N fun y5 hy6 N=>xL (zA8 y1 part x _ hy6 h5 h12) ?_;rintro I06 ay v2 k2 bC - ⟨v05,rfl,rfl,h13⟩ -;have ⟨h5,h9,h8,h11,h,h1⟩:=m6 bC h5 h9 h8 h11 h h1;have H:=H.trans bC;obtain ⟨bi,c9,rfl⟩:=h13.form;refine yB 10 [] [50] rfl<|bE N fun y6 hy7 N=>xL (zCh y1 y5 (W (loop+1)) _ hy7 h5 h13) ?_;rintro I07 ay v2 k2 le7 - ⟨v06,rfl,rfl,h14⟩ -;have ⟨h5,h9,h8,h11,h,h1⟩:=m6 le7 h5 h9 h8 h11 h h1;have H:=H.trans le7;obtain ⟨aR,bh,rfl⟩:=h14.form;refine yH [] [13] rfl<|zX<|yF [14] rfl<|xX<|rU [(1,vI part),(2,vI loop),(3,vP b 0),(8,vS p3 y1 c2),(9,vS p7 out c6),(10,vS p6 y4 c5),(11,vI i),(12,vS (some ⟨b2,0,none⟩) ([]:List (List Int)) 0),(13,vS aR y6 bh),(14,vI 0)] ?_;obtain ⟨o0,aD,aM⟩:=zB N;refine zDU part y1 y6 ([]:List (List Int)) 0 o0 aD iR h5 h9 h8 h14 h h1 h11 (fun _ _ _ h=>hg _ _ _ h) (fun _ _ h=>ho _ _ h) ?_;intro I09 lanes1 bq bo bt heq le9 h16;subst o0;have ⟨h5,h9,h8,h,h1,H⟩:=m6 le9 h5 h9 h8 h h1 H;refine zR<|wM [15] rfl<|xX<|rU [(1,vI part),(2,vI loop),(3,vP b 0),(8,vS p3 y1 c2),(9,vS p7 out c6),(10,vS p6 y4 c5),(11,vI i),(12,vS bq lanes1 bo),(15,vI 0)] ?_;obtain ⟨o03,ho03,hMl2⟩:=zB aM;refine zDW lanes1 out 0 o03 ho03 iR h5 h8 h16 h h1 h9 (fun _ _ _ h=>hg _ _ _ h) (fun _ _ h=>ho _ _ h) ?_;intro bX aH p18 c17 cs7 heq3 le12 h22;subst o03;have ⟨h5,h8,h,h1,H⟩:=m5 le12 h5 h8 h h1 H;exact zR<|zM<|zG<|zJ<|yH [] [11] rfl<|yK<|oY<|ih aH (W (i+1)) _ hMl2 H h5 h8 h h1 h22 hg ho hx
 intro aI N;exact wJ<|yL<|hx _ _ _ _ _ (zC N).symm H h9
def gG (p:zD) (part:Int) (loop:Int):Option ((List Int)×Bool):=do
 let y<-zAC p part loop
 if (!y) then
  pure (([]:List Int),false)
 else
  let y1<-pF p
  let y2<-gD y1 0 part
  let y3<-rA y1 part ([]:List Int)
  let y4<-gE y1 y3 loop
  let al<-qE part loop y1 y4 y2 0
  let y8<-gD y1 (W (part+1)) (p.Parts.length:Int)
  let t6<-app 8 al y8
  pure (t6,true)
theorem zFd:∀ p part loop r,gG p part loop=some r->∀ {I:Imm}{p1 c p2 c1},(S4 I p1 p.Arrays c)->(S4 I p2 p.Parts c1)->RT 26 [vA (cProg p p1 c p2 c1),vI part,vI loop] I [] (dR  r):=by
 intro p part loop r N I p1 c p2 c1 h h1;unfold gG at N;refine yJ func26 fun B=>yE<|tO (cProg p p1 c p2 c1) ?_;intro b hb;refine wG [] []<|zX<|yE<|rQ 3 [0] [(17,vA (cProg p p1 c p2 c1)),(18,vI part),(19,vI loop)]<|bE N fun y hy N=>vQ (zIa p part loop _ hy h h1) ?_;intro I0 le;have ⟨h,h1⟩:=m2 le h h1;refine yH [] [21] rfl<|zG<|yC N ?_ ?_
 · intro hc N;refine yE<|uK [] Int ?_;intro b1 hb1;have h3:RL I0 [] ([]:List Int):=rfl;refine yH [] [6,7] rfl<|xD<|zH<|yU 0 rfl ?_;intro aW af hl0;have h4:=SL.of_frozen hl0 af h3;obtain rfl:=zC N;exact yZ ⟨_,_,(.tmp rfl (.tmp rfl ResV.nil)),zQ,⟨_,_,rfl,rfl,h4,rfl⟩⟩
 intro hc N;refine zS<|yX<|rQ 1 [0] [(23,vA (cProg p p1 c p2 c1))]<|bE N fun y1 aB N=>xL (zDs p _ aB h h1) ?_;rintro ba ay v2 k2 aF - ⟨v01,rfl,rfl,h5⟩ -;have ⟨h,h1⟩:=m2 aF h h1;obtain ⟨p3,c2,rfl⟩:=h5.form;refine yH [] [8] rfl<|yX<|yB 2 [] [25,26] rfl<|bE N fun y2 aN N=>xL (zCg y1 0 part _ aN h5) ?_;rintro bH ay v2 k2 aK - ⟨p4,c3,cs,rfl,rfl,h6⟩ -;have ⟨h5,h,h1⟩:=m3 aK h5 h h1;refine yH [] [9] rfl<|yX<|yB 3 [] [28,29,30] rfl<|bE N fun y3 bm N=>xL (zA8 y1 part ([]:List Int) _ bm h5 (SL.nil _)) ?_;rintro bL ay v2 k2 bk - ⟨v02,rfl,rfl,h7⟩ -;have ⟨h5,h6,h,h1⟩:=m4 bk h5 h6 h h1;obtain ⟨p5,c4,rfl⟩:=h7.form;refine yB 5 [] [32] rfl<|bE N fun y4 bw N=>xL (zCh y1 y3 loop _ bw h5 h7) ?_;rintro bR ay v2 k2 bz - ⟨v03,rfl,rfl,h8⟩ -;have ⟨h5,h6,h,h1⟩:=m4 bz h5 h6 h h1;obtain ⟨p6,c5,rfl⟩:=h8.form;refine yH [] [10] rfl<|zX<|yF [11] rfl<|xX<|rU [(1,vI part),(2,vI loop),(3,vP b 0),(8,vS p3 y1 c2),(9,vS p4 y2 c3),(10,vS p6 y4 c5),(11,vI 0)] ?_;obtain ⟨o04,ho04,hMl3⟩:=zB N;refine zDX part loop y1 y4 y2 0 o04 ho04 iR h5 h8 h h1 h6 (fun _ _ _ h=>h) (fun _ _ h=>h) ?_;intro I013 al p8 c7 aS heq4 le13 h10;subst o04;have h5:=h5.mono le13;refine zR<|yX<|yB 7 [1] [95,96,98,101] rfl ?_;obtain ⟨y8,hy15,N⟩:=zB hMl3;refine xL (zCg y1 (W (part+1)) (p.Parts.length:Int) _ hy15 h5) ?_;rintro I014 ay v2 k2 le14 - ⟨p25,c24,cs12,rfl,rfl,h30⟩ -;have h10:=iM le14 h10;obtain ⟨t6,hy16,N⟩:=zB N;refine sU 3 1 1 rfl rfl rfl h10 (.inr ⟨0,rfl⟩) h30 hy16 fun p26 c25 cs13 h31=>tZ (zY [1,2] (ah:=[hO Int (vS p26 t6 c25) cs13,hB b (cProg p p1 c p2 c1)]))<|yH [] [6,7] rfl<|xD<|yU 0 rfl ?_;intro I015 le15 hl01;have h32:=SL.of_frozen hl01 le15 h31;obtain rfl:=zC N;exact yZ ⟨_,_,(.tmp rfl (.tmp rfl ResV.nil)),zQ,⟨_,_,rfl,rfl,h32,rfl⟩⟩
def gV (code:(List UInt8)):Option (Bool):=do
 if (decide ((code.length:Int)>1048576)) then
  pure true
 else
  let (y1,y2,y3)<-mD code
  let (y5,y6)<-gF y1 y2 y3
  let (y8,y9)<-gG y1 y2 y3
  let t45<-(do
    if (!(y6==y9)) then
     pure true
    else
     let y10<-fE y5 y8
     if (!y10) then
      pure true
     else
      pure (!y6)
      : Option Bool)
  if t45 then
   let t2<-(do
     if (y6==y9) then
      let y11<-fE y5 y8
      pure (id y11)
     else
      pure false
       : Option Bool)
   pure (id t2)
  else
   let t21<-(do
     let y12<-oF y1 y5
     if y12 then
      let y13<-oG y1 y2 y3
      if (!y13) then
       pure true
      else
       let y14<-mG y1 y5
       pure (id y14)
     else
      pure false
       : Option Bool)
   pure (id t21)
theorem zLP:∀ code r,gV code=some r->∀ {I:Imm}{p c},(S4 I p code c)->RT 8 [vS p code c] I [] (zT  r):=by
 intro code r N I p c h;unfold gV at N;refine yJ func8 fun B=>?_;have H:=iS I;refine wP []<|zX<|yF [12] rfl<|zG<|yC N ?_ ?_
 · intro hc N;refine wP [(2,vY)]<|xD<|zH ?_;obtain rfl:=zC N;exact wI
 intro hc N;refine zS<|yX<|yB 1 [] [14] rfl ?_;obtain ⟨⟨y1,y2,y3⟩,hy,N⟩:=zB N;refine xL (zCr code _ hy h) ?_;rintro I0 ay v2 k2 le - ⟨v0,v01,v02,rfl,rfl,⟨cs,rfl,h1⟩,rfl,rfl⟩ -;have H:=H.trans le;obtain ⟨p1,c1,p2,c2,rfl,h4,h5⟩:=mH h1;refine yB 6 [] [16,17,18] rfl<|wS zTwo ?_;intro b hb;refine xJ 0 (cProg y1 p1 c1 p2 c2) rfl<|yH [] [4,5] rfl<|yX<|rQ 3 [0] [(20,vA (cProg y1 p1 c1 p2 c2)),(21,vI y2),(22,vI y3)] ?_;obtain ⟨⟨y5,y6⟩,aB,N⟩:=zB N;refine xL (zFc y1 y2 y3 _ aB h4 h5) ?_;rintro aW ay v2 k2 af - ⟨v05,v06,rfl,rfl,h6,rfl⟩ -;have ⟨h4,h5,H⟩:=m3 af h4 h5 H;obtain ⟨p3,c3,rfl⟩:=h6.form;refine yH [] [6,7] rfl<|yX<|rQ 3 [0] [(27,vA (cProg y1 p1 c1 p2 c2)),(28,vI y2),(29,vI y3)] ?_;obtain ⟨⟨y8,y9⟩,aN,N⟩:=zB N;refine xL (zFd y1 y2 y3 _ aN h4 h5) ?_;rintro ba ay v2 k2 aF - ⟨v07,v08,rfl,rfl,h8,rfl⟩ -;have ⟨h6,h4,h5,H⟩:=m4 aF h6 h4 h5 H;obtain ⟨p4,c4,rfl⟩:=h8.form;refine yH [] [8,9] rfl<|zX<|zZ ?_;refine wO N [hB b (cProg y1 p1 c1 p2 c2)] (fun t45=>[(3,vP b 0),(4,vI y2),(5,vI y3),(6,vS p3 y5 c3),(7,.bool y6),(8,vS p4 y8 c4),(9,.bool y9),(45,.bool t45)]) (fun o0 aD=>?_) ?_
 · have H:=iS ba;refine zJ<|yB 4 [] [36] rfl<|xV [36] aD ?_ ?_
   · intro aI N;exact wG [] [(45,vY)]<|yL<|zU (ct N H)
   intro aI N;refine yB 6 [] [37,38] rfl<|bE N fun y10 bm N=>vQ (zDR y5 y8 _ bm h6 h8) ?_;intro bL aK;have H:=H.trans aK;refine yB 10 [] [42] rfl<|xV [42] N ?_ ?_
   · intro aX N;exact wG [] [(45,vY)]<|yL<|zU (ct N H)
   intro aX N;exact yH [] [45] rfl<|yL<|zU (ct N H)
 intro t45 bH bk aU;have ⟨h6,h8,h4,h5,H⟩:=m5 bk h6 h8 h4 h5 H;refine zG<|yC aU ?_ ?_
 · intro bK N;refine zZ ?_;refine wO N [] (fun t2=>[(2,.bool t2)]) (fun aP aA=>?_) ?_
   · have H:=iS bH;refine zJ<|yB 4 [] [49] rfl<|xV [49] aA ?_ ?_
     · intro bO N;refine yB 6 [] [50,51] rfl<|bE N fun y11 bw N=>vQ (zDR y5 y8 _ bw h6 h8) ?_;intro I06 bz;have H:=H.trans bz;exact yH [] [2] rfl<|xQ zQ<|yL<|zU (ct N H)
     intro bO N;exact wG [] [(2,vF)]<|xQ zQ<|yL<|zU (ct N H)
   intro t2 bR bC hMc1;refine xD<|zH ?_;obtain rfl:=zC hMc1;exact wI
 intro bK N;refine zS<|zG<|zZ ?_;refine wO N [] (fun t21=>[(2,.bool t21)]) (fun o02 ho02=>?_) ?_
 · have H:=iS bH;refine zJ<|rQ 2 [0] [(54,vA (cProg y1 p1 c1 p2 c2)),(55,vS p3 y5 c3)] ?_;obtain ⟨y12,bI,N⟩:=zB ho02;refine vQ (zAz y1 y5 _ bI h4 h5 h6) ?_;intro I08 le7;have ⟨h6,h4,h5,H⟩:=m4 le7 h6 h4 h5 H;refine yB 4 [] [57] rfl<|xV [57] N ?_ ?_
   · intro hc5 N;refine rQ 7 [0] [(58,vA (cProg y1 p1 c1 p2 c2)),(59,vI y2),(60,vI y3)]<|bE N fun y13 hy6 N=>vQ (zDT y1 y2 y3 _ hy6 h4 h5) ?_;intro I09 le8;have ⟨h6,h4,h5,H⟩:=m4 le8 h6 h4 h5 H;refine yB 10 [] [63] rfl<|xV [63] N ?_ ?_
     · intro hc6 N;exact wG [] [(2,vY)]<|xQ zQ<|yL<|zU (ct N H)
     intro hc6 N;refine rQ 12 [0] [(64,vA (cProg y1 p1 c1 p2 c2)),(65,vS p3 y5 c3)]<|bE N fun y14 hy7 N=>vQ (zEe y1 y5 _ hy7 h4 h5 h6) ?_;intro bS le9;have H:=H.trans le9;exact yH [] [2] rfl<|xQ zQ<|yL<|zU (ct N H)
   intro hc5 N;exact wG [] [(2,vF)]<|xQ zQ<|yL<|zU (ct N H)
 intro t21 I07 le10 hMc2;refine zG<|yW ?_;obtain rfl:=zC hMc2;exact wI
end Go.LN
