/- Helper of the proof (see the last text). -/
import Derived.Test.YtoifmcbchallnaaGreatLnA
import Derived.Test.YtoifmcbchallnaaGreatLnH
import Derived.Test.YtoifmcbchallnaaGreatLnN
import Derived.Test.YtoifmcbchallnaaGreatTryzShelf
import Derived.Test.YtoifmcbchallnaaGreatHM1
import Derived.Test.YtoifmcbchallnaaGreatHM2
import Derived.Test.YtoifmcbchallnaaGreatHM3
import Derived.Test.YtoifmcbchallnaaGreatHM4
import Derived.Test.YtoifmcbchallnaaGreatHM5
import Derived.Test.YtoifmcbchallnaaGreatHM6
import Derived.Test.YtoifmcbchallnaaGreatHM7
import Derived.Test.YtoifmcbchallnaaGreatHM8
import Derived.Test.YtoifmcbchallnaaGreatQT
import Derived.Test.YtoifmcbchallnaaGreatQZ
import Derived.Test.YtoifmcbchallnaaGreatVB1
import Derived.Test.YtoifmcbchallnaaGreatVB8
import Derived.Test.YtoifmcbchallnaaGreatLnR
set_option linter.unusedVariables false
set_option linter.unusedSimpArgs false
namespace Go.LN
theorem GH.er {P:Program}{imm:Imm} (h:GH P imm):GE P imm "strconv.ErrRange":=h.2.2.2
end Go.LN
namespace Go.LN
open Go.Proofs
set_option maxRecDepth 20000
def M.impl_ProgramInstances (p:zJ):Option ((List zP)):=do
 let (y1,y2)←tE p
 if (!y2) then
  pure ([]:List zP)
 else
  pure (id y1)
theorem impl_ProgramInstances_ok:∀ p r,M.impl_ProgramInstances p=some r→∀ {I:Imm}{p1 c p2 c1},(S4 I p1 p.Arrays c)→(S4 I p2 p.Parts c1)→Ret Tryz.prog 19 [vA (cProg p p1 c p2 c1)] I [] (fY  r):=by
 intro p r N I p1 c p2 c1 h h1;unfold M.impl_ProgramInstances at N;refine yA (fn:=Tryz.f19) (c:=(bodyOf Tryz.f19)) Tryz.func19 rfl rfl ?_;rintro B - -;refine yO<|tA (cProg p p1 c p2 c1) ?_;intro b hb;refine yF [] []<|xI<|yH 1 [0] [(6,vA (cProg p p1 c p2 c1))] ?_;obtain ⟨⟨y1,y2⟩,hy,N⟩:=zC N;refine xW (kX p _ hy h h1) ?_;rintro I0 hs2 v2 k2 le - ⟨v0,v01,rfl,rfl,h2,rfl⟩ -;obtain ⟨p3,c2,rfl⟩:=h2.form;refine yF [] [(3,vS p3 y1 c2),(4,.bool y2)]<|yI<|yE [(11,.bool (!y2))]<|zD<|yM N ?_ ?_
 · intro hc N;refine yE [(2,z0)]<|zD<|yC<|zM ?_;obtain rfl:=zB N;exact xH ⟨_,_,(.tmp rfl ResV.nil),yD,⟨_,rfl,rfl,(SL.nil _)⟩⟩
 intro hc N;refine zX<|wR [(2,vS p3 y1 c2)]<|zD<|yC ?_;obtain rfl:=zB N;exact xH ⟨_,_,(.tmp rfl ResV.nil),yD,⟨_,rfl,rfl,h2⟩⟩
def M.laws_lnInts_l1 (a0:(List Int)) (b:(List Int)) (i:Int):Option (Out Unit (Bool)):=do
 if (decide (i < (a0.length:Int))) then
  let x←idx a0 i
  let x1←idx b i
  if (x != x1) then
   pure (.ret false)
  else
   M.laws_lnInts_l1 a0 b (W (i + 1))
 else
  pure (.done ())
 partial_fixpoint
theorem laws_lnInts_l1_ok (a0:(List Int)) (b:(List Int)):∀ (i:Int) (o:Out Unit (Bool)),M.laws_lnInts_l1 a0 b i=some o→∀ {B}{I0 I:Imm}{Q p c p1 c1},I0.le I→(S4 I p a0 c)→(S4 I p1 b c1)→NG Q→NO Q→(∀ (I':Imm) ,o=(.done ())→I0.le I'→T 26 B Q (.exit 0) I' [] [])→(∀ r I' hs' m',o=(.ret r)→I0.le I'→RS Tryz.prog Tryz.f13 B (zZ  r) I' hs' m'→T 26 B Q .ret I' hs' m')→J Tryz.prog 26 B (nav (bodyOf Tryz.f13) [1,1,0,1,0]) Q I [] [(0,vS p a0 c),(1,vS p1 b c1),(5,vI i)]:=by
 refine M.laws_lnInts_l1.partial_correctness a0 b _ fun self ih i o N B I0 I Q p c p1 c1 H h h1 hg ho hx hr=>yY hg ho<|yK<|yE [(14,.bool (decide (i < (a0.length:Int))))]<|zD<|yM N ?_ ?_
 · intro hc1 N;refine zX<|yI<|zV<|yK<|jI (by kernel_rfl) (by kernel_rfl)<|fE 2 [] [(17,vS p a0 c),(18,vI i)]<|bE N fun x hy N=>zA9 rfl rfl h hy ?_;intro ad ccs hat hrep;obtain rfl:=hrep;refine fM 0 hat [vI x] (vI x) rfl<|fE 6 [] [(21,vS p1 b c1),(22,vI i)]<|bE N fun x1 hy1 N=>zA9 rfl rfl h1 hy1 ?_;intro ad1 ccs1 hat1 hrep1;obtain rfl:=hrep1;refine fM 0 hat1 [vI x1] (vI x1) rfl<|zCB [] [(25,.bool (x != x1))]<|zD<|yM N ?_ ?_
   · intro hc2 N;exact yE [(4,vF)]<|zD<|yC<|yB<|zM<|zM<|hr _ _ _ _ (zB N).symm H ⟨_,_,(.tmp rfl ResV.nil),yD,⟨_,rfl,rfl,rfl⟩⟩
   intro hc2 N;exact zX<|zT<|zD<|zQ<|yF [] [(5,vI (W (i + 1)))]<|yZ<|wS [(0,vS p a0 c),(1,vS p1 b c1),(5,vI (W (i + 1)))]<|ih (W (i + 1)) _ N H h h1 hg ho hx hr
 intro hc1 N;exact yX<|zL<|zL<|yR []<|hx _  (zB N).symm H
def M.laws_lnInts (a0:(List Int)) (b:(List Int)):Option (Bool):=do
 if ((a0.length:Int) != (b.length:Int)) then
  pure false
 else
  match←M.laws_lnInts_l1 a0 b 0 with
  | .ret r0=>pure r0
  | .done _ =>
   pure true
theorem laws_lnInts_ok:∀ a0 b r,M.laws_lnInts a0 b=some r→∀ {I:Imm}{p c p1 c1},(S4 I p a0 c)→(S4 I p1 b c1)→Ret Tryz.prog 13 [vS p a0 c,vS p1 b c1] I [] (zZ  r):=by
 intro a0 b r N I p c p1 c1 h h1;unfold M.laws_lnInts at N;refine yA (fn:=Tryz.f13) (c:=(bodyOf Tryz.f13)) Tryz.func13 rfl rfl ?_;rintro B - -;refine yE []<|yI<|yE [(10,.bool ((a0.length:Int) != (b.length:Int)))]<|zD<|yM N ?_ ?_
 · intro hc N;refine yE [(4,vF)]<|zD<|yC<|zM ?_;obtain rfl:=zB N;exact wY
 intro hc N;refine zX<|yI<|yE [(5,vI 0)]<|zD<|zV<|wS [(0,vS p a0 c),(1,vS p1 b c1),(5,vI 0)] ?_;obtain ⟨o0,ho0,hMl⟩:=zC N;refine laws_lnInts_l1_ok a0 b 0 o0 ho0 iR h h1 (fun _ _ _ h=>h) (fun _ _ h=>h) ?_ ?_
 · intro I0  heq le;subst o0;refine zW<|wR [(4,vY)]<|zD<|yC ?_;obtain rfl:=zB hMl;exact wY
 intro r0 I9 hs9 m9 heq9 le9 hrs9;subst heq9;refine yB<|zM ?_;obtain rfl:=zB hMl;exact xH hrs9
end Go.LN
namespace Go.LN
open Go.Proofs
set_option maxRecDepth 20000
def M.spec_DrawGreedyOrder_l1 (out:List Int) (i:Int) (x:zO):Option (List Int):=do
 if (decide (i > 0)) then
  let (y11,y12)←xB x ([0,1,2,5,(-1),9223372036854775807]:List Int)
  let out2←app 8 out ([y11]:List Int)
  M.spec_DrawGreedyOrder_l1 out2 (W (i - 1)) y12
 else
  pure (id out)
 partial_fixpoint
theorem spec_DrawGreedyOrder_l1_ok :∀ (out:List Int) (i:Int) (x:zO) (o:List Int),M.spec_DrawGreedyOrder_l1 out i x=some o→∀ {B}{I0 I:Imm}{Q}{y5:zJ}{b:Nat}{b1:Nat}{p5 c5 p6 c6}{b2:Nat}{p9 c9 cs2 p10 c10},I0.le I→(S4 I p5 y5.Arrays c5)→(S4 I p6 y5.Parts c6)→(RL I cs2 out)→(S4 I p10 x.b c10)→NG Q→NO Q→(∀ (I':Imm) (out1:List Int) (p11:Option Addr) (c11:Nat) (cs3:List Value),o=out1→I0.le I'→(RL I' cs3 out1)→T 30 B Q (.exit 0) I' [hO Int (vS p11 out1 c11) cs3,hB b2 (cProg y5 p5 c5 p6 c6),hB b zTwo] [(2,vP b 0),(5,vP b2 0),(6,vS p11 out1 c11)])→J Tryz.prog 30 B (nav (bodyOf Tryz.f32) [1,1,1,1,0,1,0]) Q I [hB b1 (cRd x p10 c10),hO Int (vS p9 out c9) cs2,hB b2 (cProg y5 p5 c5 p6 c6),hB b zTwo] [(2,vP b 0),(4,vP b1 0),(5,vP b2 0),(6,vS p9 out c9),(7,vI i)]:=by
 refine M.spec_DrawGreedyOrder_l1.partial_correctness  _ fun self ih out i x o N B I0 I Q y5 b b1 p5 c5 p6 c6 b2 p9 c9 cs2 p10 c10 H h9 h10 h18 h19 hg ho hx=>yY hg ho<|yK<|yE [(19,.bool (decide (i > 0)))]<|zD<|yM N ?_ ?_
 · intro hc N;refine zX<|yI<|zV<|zQ<|yH 2 [] [(22,vS p9 out c9),(23,vP b1 0)]<|xX [vI 0,vI 1,vI 2,vI 5,vI (-1),vI 9223372036854775807] Int ?_;intro b5 hb4;have h21:RL I [vI 0,vI 1,vI 2,vI 5,vI (-1),vI 9223372036854775807] ([0,1,2,5,(-1),9223372036854775807]:List Int):=⟨[vI 0],_,rfl,rfl,rfl,⟨[vI 1],_,rfl,rfl,rfl,⟨[vI 2],_,rfl,rfl,rfl,⟨[vI 5],_,rfl,rfl,rfl,⟨[vI (-1)],_,rfl,rfl,rfl,⟨[vI 9223372036854775807],_,rfl,rfl,rfl,rfl⟩⟩⟩⟩⟩⟩;refine yJ 0 rfl ?_;intro I05 le5 hl01;have h22:=SL.of_frozen hl01 le5 h21;have h18:=iM le5 h18;have h19:=h19.mono le5;have h9:=h9.mono le5;have h10:=h10.mono le5;have H:=H.trans le5;obtain ⟨⟨y11,y12⟩,hy4,N⟩:=zC N;refine sY [hB b1 (cRd x p10 c10)] [hO Int (vS p9 out c9) cs2,hB b2 (cProg y5 p5 c5 p6 c6),hB b zTwo] (xL x ([0,1,2,5,(-1),9223372036854775807]:List Int) _ hy4 h19 h22) ?_;rintro I06 hs2 v2 k2 le6 - ⟨v010,kk3,rfl,rfl,rfl,h24⟩ -;have h18:=iM le6 h18;have h9:=h9.mono le6;have h10:=h10.mono le6;have H:=H.trans le6;obtain ⟨p12,c12,rfl,h25⟩:=yL h24;refine xX [vI y11] Int ?_;intro b6 hb5;have h26:RL I06 [vI y11] ([y11]:List Int):=⟨[vI y11],_,rfl,rfl,rfl,rfl⟩;obtain ⟨out2,hy5,N⟩:=zC N;exact qF 3 1 2 rfl rfl rfl h18 (.inr ⟨0,rfl⟩) h26 hy5 fun p13 c13 cs4 h27=>rW (zE [1,2,3,4] (hs':=[hB b1 (cRd y12 p12 c12),hO Int (vS p13 out2 c13) cs4,hB b2 (cProg y5 p5 c5 p6 c6),hB b zTwo]) rfl (by decide))<|yF [] [(6,vS p13 out2 c13)]<|zT<|zD<|zQ<|yF [] [(7,vI (W (i - 1)))]<|yZ<|wS [(2,vP b 0),(4,vP b1 0),(5,vP b2 0),(6,vS p13 out2 c13),(7,vI (W (i - 1)))]<|ih out2 (W (i - 1)) y12 _ N H h9 h10 h27 h25 hg ho hx
 intro hc N;exact yX<|zL<|zL<|wC (zE [1,2,3] rfl (by decide))<|yR [(2,vP b 0),(5,vP b2 0),(6,vS p9 out c9)]<|hx _ _ _ _ _ (zB N).symm H h18
def M.spec_DrawGreedyOrder (code:(List UInt8)):Option (zJ×(List Int)):=do
 let y←jN code
 let (y2,y3)←gK y
 let (y5,y6)←pM y3 y2
 let (y8,y9)←xB y6 ([3,1,0,5]:List Int)
 let out1←M.spec_DrawGreedyOrder_l1 ([]:List Int) y8 y9
 pure (y5,out1)
theorem spec_DrawGreedyOrder_ok:∀ code r,M.spec_DrawGreedyOrder code=some r→∀ {I:Imm}{p c},(S4 I p code c)→Ret Tryz.prog 32 [vS p code c] I [] (zFK  r):=by
 intro code r N I p c h;unfold M.spec_DrawGreedyOrder at N;refine yA (fn:=Tryz.f32) (c:=(bodyOf Tryz.f32)) Tryz.func32 rfl rfl ?_;rintro B - -;refine yO<|uQ zTwo ?_;intro b hb;refine yF [] []<|xI<|yH 1 [] [(8,vS p code c)]<|bE N fun y hy N=>xW (zIT code _ hy h) ?_;rintro I0 hs2 v2 k2 le - ⟨b1,p1,c1,rfl,rfl,h1⟩ -;refine yF [] [(4,vP b1 0)]<|xI<|yH 2 [] [(10,vP b1 0),(11,vP b1 0)] ?_;obtain ⟨⟨y2,y3⟩,hy1,N⟩:=zC N;refine sY [hB b1 (cRd y p1 c1)] [hB b zTwo] (zIp y _ hy1 h1) ?_;rintro I01 hs2 v2 k2 le1 - ⟨v0,kk,rfl,rfl,⟨cs,rfl,h2⟩,h3⟩ -;obtain ⟨p2,c2,p3,c3,rfl,h4,h5⟩:=zIS h2;obtain ⟨p4,c4,rfl,h6⟩:=yL h3;obtain ⟨⟨y5,y6⟩,hy2,N⟩:=zC N;refine sY [hB b1 (cRd y3 p4 c4)] [hB b zTwo] (zHz y3 y2 _ hy2 h6 h4 h5) ?_;rintro I02 hs2 v2 k2 le2 - ⟨v04,kk1,rfl,rfl,⟨cs1,rfl,h7⟩,h8⟩ -;obtain ⟨p5,c5,p6,c6,rfl,h9,h10⟩:=zIS h7;obtain ⟨p7,c7,rfl,h11⟩:=yL h8;refine uQ zTwo ?_;intro b2 hb1;refine xQ 0 (cProg y5 p5 c5 p6 c6) [hB b2 (cProg y5 p5 c5 p6 c6),hB b1 (cRd y6 p7 c7),hB b zTwo] rfl rfl rfl rfl<|yN rfl<|xI<|xX [] Int ?_;intro b3 hb2;have h12:RL I02 [] ([]:List Int):=rfl;refine yF [] [(6,vS (some ⟨b3,0,none⟩) ([]:List Int) 0)]<|yI<|yO<|yH 1 [] [(15,vP b1 0)]<|xX [vI 3,vI 1,vI 0,vI 5] Int ?_;intro b4 hb3;have h13:RL I02 [vI 3,vI 1,vI 0,vI 5] ([3,1,0,5]:List Int):=⟨[vI 3],_,rfl,rfl,rfl,⟨[vI 1],_,rfl,rfl,rfl,⟨[vI 0],_,rfl,rfl,rfl,⟨[vI 5],_,rfl,rfl,rfl,rfl⟩⟩⟩⟩;refine yJ 0 rfl ?_;intro I03 le3 hl0;have h14:=SL.of_frozen hl0 le3 h13;have h12:=iM le3 h12;have h9:=h9.mono le3;have h10:=h10.mono le3;have h11:=h11.mono le3;refine rW (zE [2,0,1,3] (hs':=[hB b1 (cRd y6 p7 c7),hO Int (vS (some ⟨b3,0,none⟩) ([]:List Int) 0) [],hB b2 (cProg y5 p5 c5 p6 c6),hB b zTwo]) rfl (by decide)) ?_;obtain ⟨⟨y8,y9⟩,hy3,N⟩:=zC N;refine sY [hB b1 (cRd y6 p7 c7)] [hO Int (vS (some ⟨b3,0,none⟩) ([]:List Int) 0) [],hB b2 (cProg y5 p5 c5 p6 c6),hB b zTwo] (xL y6 ([3,1,0,5]:List Int) _ hy3 h11 h14) ?_;rintro I04 hs2 v2 k2 le4 - ⟨v08,kk2,rfl,rfl,rfl,h16⟩ -;have h12:=iM le4 h12;have h9:=h9.mono le4;have h10:=h10.mono le4;obtain ⟨p8,c8,rfl,h17⟩:=yL h16;refine yF [] [(7,vI y8)]<|zD<|zV<|wS [(2,vP b 0),(4,vP b1 0),(5,vP b2 0),(6,vS (some ⟨b3,0,none⟩) ([]:List Int) 0),(7,vI y8)] ?_;obtain ⟨o0,ho0,hMl⟩:=zC N;refine spec_DrawGreedyOrder_l1_ok ([]:List Int) y8 y9 o0 ho0 iR h9 h10 h12 h17 (fun _ _ _ h=>h) (fun _ _ h=>h) ?_;intro I07 out1 p11 c11 cs3 heq le7 h20;subst o0;have h9:=h9.mono le7;have h10:=h10.mono le7;refine zW<|xI<|yH 2 [1] [(28,vA (cProg y5 p5 c5 p6 c6)),(29,vS p11 out1 c11)]<|xQ 2 (cProg y5 p5 c5 p6 c6) [hO Int (vS p11 out1 c11) cs3,hB b2 (cProg y5 p5 c5 p6 c6),hB b (cProg y5 p5 c5 p6 c6)] rfl rfl rfl rfl<|yF [] [(3,vS p11 out1 c11)]<|zD<|yC<|xG 0 rfl ?_;intro I08 le8 hl02;have h28:=SL.of_frozen hl02 le8 h20;have h9:=h9.mono le8;have h10:=h10.mono le8;obtain rfl:=zB hMl;exact xH ⟨_,_,(.cell 1 rfl rfl (by kernel_rfl) (.tmp rfl ResV.nil)),yD,⟨_,_,rfl,rfl,⟨_,rfl,(mZ ⟨_,_,rfl,h9,h10⟩)⟩,h28⟩⟩
def slices_ContainsFunc_impl_Dep_impl_Dep_post (hsF:List HA) (r:Bool):KT:=fun kk I' hs' v=>
  ∃ v0,hsF=hs'∧v=tupV [v0]∧v0=.bool r
def M.slices_ContainsFunc_impl_Dep_impl_Dep (s:(List yG)) (f0:(yG→Option Bool)):Option (Bool):=do
 let y←vW s f0
 pure (decide (y ≥ 0))
theorem slices_ContainsFunc_impl_Dep_impl_Dep_ok:∀ s f0 r,M.slices_ContainsFunc_impl_Dep_impl_Dep s f0=some r→∀ {I:Imm}{p c}{fv:Value}{hsF:List HA},(S4 I p s c)→(FV1 Tryz.prog I hsF fv f0)→Ret Tryz.prog 88 [vS p s c,fv] I hsF (slices_ContainsFunc_impl_Dep_impl_Dep_post hsF r):=by
 intro s f0 r N I p c fv hsF h h1;unfold M.slices_ContainsFunc_impl_Dep_impl_Dep at N;refine yA (fn:=Tryz.f88) (c:=(bodyOf Tryz.f88)) Tryz.func88 rfl rfl ?_;rintro B - -;refine yE []<|xI<|yH 2 [] [(5,vS p s c),(6,fv)]<|bE N fun y hy N=>zCp (hs1:=hsF) (rest:=[]) rfl rfl rfl rfl (by kernel_rfl) rfl (List.append_nil _).symm (kW s f0 _ hy h h1) ?_;rintro I0 hs2 v2 k2 le - ⟨v0,rfl,rfl,rfl⟩ -;refine uO (hs':=hsF) (List.append_nil _) ?_;refine yF [] [(4,.bool (decide (y ≥ 0)))]<|zD<|yC ?_;obtain rfl:=zB N;exact xH ⟨_,_,(.tmp rfl ResV.nil),(fun _ h=>h),⟨_,rfl,rfl,rfl⟩⟩
def M.impl_greedy_1 (d0:yG) (x:Int) (x1:(List Bool)):Option (Bool):=do
 let t4←(do
   if (d0.To == x) then
    let x2←idx x1 d0.From
    pure (!x2)
   else
    pure false
     : Option Bool)
 pure (id t4)
theorem impl_greedy_1_ok:∀ d0 x x1 r,M.impl_greedy_1 d0 x x1=some r→∀ {I:Imm}{ad:Addr}{ad1:Addr}{p c},(At I ad [vI x])→(S4 I p x1 c)→(At I ad1 [vS p x1 c])→Ret Tryz.prog 89 [vA [vI d0.From,vI d0.To,vI d0.Kinds],.pointer (some ad),.pointer (some ad1)] I [] (zZ  r):=by
 intro d0 x x1 r N I ad ad1 p c hat h hat1;unfold M.impl_greedy_1 at N;refine yA (fn:=Tryz.f89) (c:=(bodyOf Tryz.f89)) Tryz.func89 rfl rfl ?_;rintro B - -;have H:=iS I;refine yO<|tA [vI d0.From,vI d0.To,vI d0.Kinds] ?_;intro b hb;refine yF [] []<|zD<|yK ?_;obtain ⟨o0,ho0,hMc⟩:=zC N;refine yU (fun I' hs' m'=>∃ (t4:Bool),o0=t4∧I.le I'∧hs'=[]∧m'=[(4,.bool t4)]) ?_ ?_
 · have H:=iS I;refine zQ<|yH 2 [0] [(6,vI d0.To)]<|xR 0 hat [vI x] (vI x) rfl<|yH 5 [] [(9,.bool (d0.To == x))] ?_;cases hc:(d0.To == x) with
   | true =>
    have hM0:=zU hc ho0
    try rw [hc]
    refine xR 0 hat1 [vS p x1 c] (vS p x1 c) rfl<|yH 8 [0] [(12,vI d0.From)] ?_;obtain ⟨x2,hy,N⟩:=zC hM0;refine xV rfl rfl h hy ?_;intro ad2 ccs hat2 hrep;obtain rfl:=hrep;exact xR 0 hat2 [.bool x2] (.bool x2) rfl<|yF [] [(4,.bool (!x2))]<|wC (zE [] rfl (by decide))<|yR [(4,.bool (!x2))]<|zY ⟨_,(zB N).symm,H,rfl,rfl⟩
   | false =>
    have hM01:=zS hc ho0
    try rw [hc]
    exact yF [] [(4,vF)]<|wC (zE [] rfl (by decide))<|yR [(4,vF)]<|zY ⟨_,(zB hM01).symm,H,rfl,rfl⟩
 rintro I0 hs2 m2 ⟨t4,heq,le,rfl,rfl⟩;subst o0;refine zD<|yC ?_;obtain rfl:=zB hMc;exact wY
def M.impl_choice (choices:(List Int)) (n0:Int) (many:Int):Option (Int):=do
 if ((choices.length:Int) == 0) then
  pure (id 0)
 else
  let q←rem n0 (choices.length:Int)
  let x←idx choices q
  let q1←rem x many
  pure (if q1 > 0 then q1 else 0)
theorem impl_choice_ok:∀ choices n0 many r,M.impl_choice choices n0 many=some r→∀ {I:Imm}{p c},(S4 I p choices c)→Ret Tryz.prog 90 [vS p choices c,vI n0,vI many] I [] (yW  r):=by
 intro choices n0 many r N I p c h;unfold M.impl_choice at N;refine yA (fn:=Tryz.f90) (c:=(bodyOf Tryz.f90)) Tryz.func90 rfl rfl ?_;rintro B - -;refine yE []<|yI<|yE [(9,.bool ((choices.length:Int) == 0))]<|zD<|yM N ?_ ?_
 · intro hc N;refine yE [(6,vI 0)]<|zD<|yC<|zM ?_;obtain rfl:=zB N;exact wY
 intro hc N;refine zX<|xI<|yH 4 [] [(10,vS p choices c),(11,vI n0),(13,vI (choices.length:Int))]<|bE N fun q hy N=>zJ7 rfl hy<|bE N fun x hy1 N=>xV rfl rfl h hy1 ?_;intro ad ccs hat hrep;obtain rfl:=hrep;refine xR 0 hat [vI x] (vI x) rfl<|yH 8 [] [(17,vI many)]<|bE N fun q1 hy2 N=>zJ7 rfl hy2<|yF [] [(6,vI (if q1 > 0 then q1 else 0))]<|zD<|yC ?_;obtain rfl:=zB N;exact wY
def M.impl_greedy_l2 (deps:(List yG)) (many:Int) (x:List Bool) (ready:List Int) (t21:Int):Option (List Int):=do
 if (decide (t21 < many)) then
  let y←M.slices_ContainsFunc_impl_Dep_impl_Dep deps (fun x0=>M.impl_greedy_1 x0 t21 x)
  let t35←(do
    let x1←idx x t21
    if (!x1) then
     pure (!y)
    else
     pure false
      : Option Bool)
  let ready2←(do
    if t35 then
     let ready3←app 8 ready ([t21]:List Int)
     pure (id ready3)
    else
     pure (id ready)
      : Option (List Int))
  M.impl_greedy_l2 deps many x ready2 (W (t21 + 1))
 else
  pure (id ready)
 partial_fixpoint
theorem impl_greedy_l2_ok (deps:(List yG)) (many:Int) (x:List Bool):∀ (ready:List Int) (t21:Int) (o:List Int),M.impl_greedy_l2 deps many x ready t21=some o→∀ {B}{I0 I:Imm}{Q}{choices:(List Int)}{out:List Int}{t17:Int}{p c p1 c1}{b1:Nat}{p2 c2 cs1 p3 c3 cs2 p5 c5 cs4},I0.le I→(S4 I p deps c)→(S4 I p1 choices c1)→(RL I cs1 out)→(RL I cs2 x)→(RL I cs4 ready)→NG Q→NO Q→(∀ (I':Imm) (ready1:List Int) (p6:Option Addr) (c6:Nat) (cs5:List Value),o=ready1→I0.le I'→(RL I' cs5 ready1)→T 58 B Q (.exit 2) I' [hO Int (vS p6 ready1 c6) cs5,hO Int (vS p2 out c2) cs1,hB b1 [vS p3 x c3],hO Bool (vS p3 x c3) cs2] [(0,vS p deps c),(1,vI many),(2,vS p1 choices c1),(7,vS p2 out c2),(8,vP b1 0),(9,vI t17),(10,vS p6 ready1 c6),(16,vI many),(17,vI t17)])→J Tryz.prog 58 B (nav (bodyOf Tryz.f59) [1,1,1,0,1,0,0,1,1,0,0,1,1,0,1,0]) Q I [hO Int (vS p5 ready c5) cs4,hO Int (vS p2 out c2) cs1,hB b1 [vS p3 x c3],hO Bool (vS p3 x c3) cs2] [(0,vS p deps c),(1,vI many),(2,vS p1 choices c1),(7,vS p2 out c2),(8,vP b1 0),(9,vI t17),(10,vS p5 ready c5),(16,vI many),(17,vI t17),(20,vI many),(21,vI t21)]:=by
 refine M.impl_greedy_l2.partial_correctness deps many x _ fun self ih ready t21 o N B I0 I Q choices out t17 p c p1 c1 b1 p2 c2 cs1 p3 c3 cs2 p5 c5 cs4 H h h1 h4 h5 h8 hg ho hx=>yY hg ho<|yE [(22,.bool (decide (t21 < many)))]<|yI<|yM N ?_ ?_
 · intro hc1 N;refine zX<|yI<|zV<|yO<|yH 1 [] [(23,vI t21)]<|uQ [vI 0] ?_;intro b2 hb1;refine xQ 0 [vI t21] [hB b2 [vI t21],hO Int (vS p5 ready c5) cs4,hO Int (vS p2 out c2) cs1,hB b1 [vS p3 x c3],hO Bool (vS p3 x c3) cs2] rfl rfl rfl rfl<|yN rfl<|xI<|yH 2 [] [(24,vS p deps c),(25,.func (.func 89) ⟨[]⟩ ⟨[vP b2 0,vP b1 0]⟩)]<|yJ 0 rfl ?_;intro I0 le hl0;have hat:At I0 ⟨b2,0,none⟩ [vI t21]:=At.of_blk hl0;have h:=h.mono le;have h1:=h1.mono le;have h4:=iM le h4;have h8:=iM le h8;have h5:=iM le h5;have H:=H.trans le;refine rW (zE [2,3,0,1] (hs':=[hB b1 [vS p3 x c3],hO Bool (vS p3 x c3) cs2,hO Int (vS p5 ready c5) cs4,hO Int (vS p2 out c2) cs1]) rfl (by decide))<|bE N fun y hy1 N=>zGW (post:=slices_ContainsFunc_impl_Dep_impl_Dep_post [] y) (L:=[hB b1 [vS p3 x c3],hO Bool (vS p3 x c3) cs2]) (hs1:=[]) (rest:=[hO Int (vS p5 ready c5) cs4,hO Int (vS p2 out c2) cs1]) rfl rfl rfl rfl (by kernel_rfl) rfl rfl ?_ ?_
   · intro i1 le1 hl1;have hat1:At i1 ⟨b1,0,none⟩ [vS p3 x c3]:=At.of_blk (hl1 (hB b1 [vS p3 x c3]) (by simp));have hs0:SL i1 (vS p3 x c3) x:=⟨_,hl1 (hO Bool (vS p3 x c3) cs2) (by simp),iM le1 h5⟩;have h:=h.mono le1;have hat:=hat.mono le1;have hf0:FV1 Tryz.prog i1 [] (.func (.func 89) ⟨[]⟩ ⟨[vP b2 0,vP b1 0]⟩) (fun x0=>M.impl_greedy_1 x0 t21 x):=by
       refine FV1.intro ?_;intro I1 le1 x0 r u0 hF k0;obtain ⟨_,rfl,k0⟩:=k0;obtain rfl:=gJ k0;exact (impl_greedy_1_ok x0 t21 x r hF (hat.mono le1) (hs0.mono le1) (hat1.mono le1)).mono (by rintro k i hs u ⟨v0,rfl,rfl,h⟩; exact ⟨rfl,h⟩)
     exact slices_ContainsFunc_impl_Dep_impl_Dep_ok deps (fun x0=>M.impl_greedy_1 x0 t21 x) _ hy1 h hf0
   rintro - I01 hs2 v2 k2 le1 - - - ⟨v0,rfl,rfl,rfl⟩ -;have h:=h.mono le1;have h1:=h1.mono le1;have h4:=iM le1 h4;have h8:=iM le1 h8;have hat:=hat.mono le1;have h5:=iM le1 h5;have H:=H.trans le1;refine yF [] [(12,.bool y)]<|zD<|yK ?_;obtain ⟨o0,ho0,hMc⟩:=zC N;refine yU (fun I' hs' m'=>∃ (t35:Bool),o0=t35∧I01.le I'∧hs'=[hB b1 [vS p3 x c3],hO Bool (vS p3 x c3) cs2,hO Int (vS p5 ready c5) cs4,hO Int (vS p2 out c2) cs1]∧m'=[(0,vS p deps c),(1,vI many),(2,vS p1 choices c1),(7,vS p2 out c2),(8,vP b1 0),(9,vI t17),(10,vS p5 ready c5),(11,vP b2 0),(16,vI many),(17,vI t17),(20,vI many),(21,vI t21),(35,.bool t35)]) ?_ ?_
   · have H:=iS I01;refine zQ<|yH 1 [0] [(27,vS p3 x c3)]<|xR 0 hat [vI t21] (vI t21) rfl ?_;obtain ⟨x1,hy2,N⟩:=zC ho0;refine oM 1 rfl rfl rfl h5 hy2 ?_;intro ad ccs hat2 hcc hrep;obtain rfl:=hrep;refine zCD 1 0 hat2 hcc [.bool x1] (.bool x1) rfl rfl<|yH 6 [] [(32,.bool (!x1))] ?_;cases hc2:(!x1) with
     | true =>
      have hM0:=zU hc2 N
      try rw [hc2]
      exact yF [] [(35,.bool (!y))]<|yR [(0,vS p deps c),(1,vI many),(2,vS p1 choices c1),(7,vS p2 out c2),(8,vP b1 0),(9,vI t17),(10,vS p5 ready c5),(11,vP b2 0),(16,vI many),(17,vI t17),(20,vI many),(21,vI t21),(35,.bool (!y))]<|zY ⟨_,(zB hM0).symm,H,rfl,rfl⟩
     | false =>
      have hM01:=zS hc2 N
      try rw [hc2]
      exact yF [] [(35,vF)]<|yR [(0,vS p deps c),(1,vI many),(2,vS p1 choices c1),(7,vS p2 out c2),(8,vP b1 0),(9,vI t17),(10,vS p5 ready c5),(11,vP b2 0),(16,vI many),(17,vI t17),(20,vI many),(21,vI t21),(35,vF)]<|zY ⟨_,(zB hM01).symm,H,rfl,rfl⟩
   rintro I02 hs2 m2 ⟨t35,heq,le2,rfl,rfl⟩;subst o0;have h:=h.mono le2;have h1:=h1.mono le2;have h4:=iM le2 h4;have h8:=iM le2 h8;have hat:=hat.mono le2;have h5:=iM le2 h5;have H:=H.trans le2;refine zD ?_;obtain ⟨o01,ho01,hMc1⟩:=zC hMc;refine yU (fun I' hs' m'=>∃ (ready2:List Int) (p7:Option Addr) (c7:Nat) (cs6:List Value),o01=ready2∧I02.le I'∧(RL I' cs6 ready2)∧hs'=[hB b1 [vS p3 x c3],hO Bool (vS p3 x c3) cs2,hO Int (vS p7 ready2 c7) cs6,hO Int (vS p2 out c2) cs1]∧m'=[(0,vS p deps c),(1,vI many),(2,vS p1 choices c1),(7,vS p2 out c2),(8,vP b1 0),(9,vI t17),(10,vS p7 ready2 c7),(16,vI many),(17,vI t17),(20,vI many),(21,vI t21)]) ?_ ?_
   · have H:=iS I02;refine yM ho01 ?_ ?_
     · intro hc3 N;refine zQ<|yH 1 [] [(36,vS p5 ready c5)]<|xR 0 hat [vI t21] (vI t21) rfl<|xX [vI t21] Int ?_;intro b3 hb2;have h12:RL I02 [vI t21] ([t21]:List Int):=⟨[vI t21],_,rfl,rfl,rfl,rfl⟩;obtain ⟨ready3,hy3,N⟩:=zC N;exact qF 3 1 3 rfl rfl rfl h8 (.inr ⟨0,rfl⟩) h12 hy3 fun p8 c8 cs7 h13=>rW (zE [1,2,3,4] (hs':=[hB b1 [vS p3 x c3],hO Bool (vS p3 x c3) cs2,hO Int (vS p8 ready3 c8) cs7,hO Int (vS p2 out c2) cs1]) rfl (by decide))<|yF [] [(10,vS p8 ready3 c8)]<|yR [(0,vS p deps c),(1,vI many),(2,vS p1 choices c1),(7,vS p2 out c2),(8,vP b1 0),(9,vI t17),(10,vS p8 ready3 c8),(16,vI many),(17,vI t17),(20,vI many),(21,vI t21)]<|zY ⟨_,_,_,_,(zB N).symm,H,h13,rfl,rfl⟩
     intro hc3 N;exact zX<|yR [(0,vS p deps c),(1,vI many),(2,vS p1 choices c1),(7,vS p2 out c2),(8,vP b1 0),(9,vI t17),(10,vS p5 ready c5),(16,vI many),(17,vI t17),(20,vI many),(21,vI t21)]<|zY ⟨_,_,_,_,(zB N).symm,H,h8,rfl,rfl⟩
   rintro I03 hs2 m2 ⟨ready2,p7,c7,cs6,heq1,le3,h11,rfl,rfl⟩;subst o01;have h:=h.mono le3;have h1:=h1.mono le3;have h4:=iM le3 h4;have h5:=iM le3 h5;have H:=H.trans le3;exact zT<|zD<|zQ<|yF [] [(21,vI (W (t21 + 1)))]<|yZ<|qE (zE [2,3,0,1] rfl (by decide))<|wS [(0,vS p deps c),(1,vI many),(2,vS p1 choices c1),(7,vS p2 out c2),(8,vP b1 0),(9,vI t17),(10,vS p7 ready2 c7),(16,vI many),(17,vI t17),(20,vI many),(21,vI (W (t21 + 1)))]<|ih ready2 (W (t21 + 1)) _ hMc1 H h h1 h4 h5 h11 hg ho hx
 intro hc1 N;exact yX<|zL<|zL<|yR [(0,vS p deps c),(1,vI many),(2,vS p1 choices c1),(7,vS p2 out c2),(8,vP b1 0),(9,vI t17),(10,vS p5 ready c5),(16,vI many),(17,vI t17)]<|hx _ _ _ _ _ (zB N).symm H h8
def M.impl_greedy_l1 (deps:(List yG)) (many:Int) (choices:(List Int)) (out:List Int) (t17:Int) (x:List Bool):Option (List Int):=do
 if (decide (t17 < many)) then
  let ready1←M.impl_greedy_l2 deps many x ([]:List Int) 0
  let y1←M.impl_choice choices t17 (ready1.length:Int)
  let x2←idx ready1 y1
  let x3←idx x x2
  let l1←pure (x.set x2.toNat true)
  let out2←app 8 out ([x2]:List Int)
  M.impl_greedy_l1 deps many choices out2 (W (t17 + 1)) l1
 else
  pure (id out)
 partial_fixpoint
theorem impl_greedy_l1_ok (deps:(List yG)) (many:Int) (choices:(List Int)):∀ (out:List Int) (t17:Int) (x:List Bool) (o:List Int),M.impl_greedy_l1 deps many choices out t17 x=some o→∀ {B}{I0 I:Imm}{Q p c p1 c1}{b1:Nat}{p2 c2 cs1 p3 c3 cs2},I0.le I→(S4 I p deps c)→(S4 I p1 choices c1)→(RL I cs1 out)→(RL I cs2 x)→NG Q→NO Q→(∀ (I':Imm) (out1:List Int) (p4:Option Addr) (c4:Nat) (cs3:List Value),o=out1→I0.le I'→(RL I' cs3 out1)→T 58 B Q (.exit 0) I' [hO Int (vS p4 out1 c4) cs3] [(7,vS p4 out1 c4)])→J Tryz.prog 58 B (nav (bodyOf Tryz.f59) [1,1,1,0,1,0]) Q I [hO Int (vS p2 out c2) cs1,hB b1 [vS p3 x c3],hO Bool (vS p3 x c3) cs2] [(0,vS p deps c),(1,vI many),(2,vS p1 choices c1),(7,vS p2 out c2),(8,vP b1 0),(16,vI many),(17,vI t17)]:=by
 refine M.impl_greedy_l1.partial_correctness deps many choices _ fun self ih out t17 x o N B I0 I Q p c p1 c1 b1 p2 c2 cs1 p3 c3 cs2 H h h1 h4 h5 hg ho hx=>yY hg ho<|yE [(18,.bool (decide (t17 < many)))]<|yI<|yM N ?_ ?_
 · intro hc N;refine zX<|yI<|zV<|yE [(9,vI t17)]<|wR [(10,z0)]<|yI<|yE [(20,vI many),(21,vI 0)]<|zD<|zV<|wS [(0,vS p deps c),(1,vI many),(2,vS p1 choices c1),(7,vS p2 out c2),(8,vP b1 0),(9,vI t17),(10,z0),(16,vI many),(17,vI t17),(20,vI many),(21,vI 0)]<|qE (uP (Rp.sz Int)) ?_;have h7:RL I [] ([]:List Int):=RepL.nil;obtain ⟨o02,ho02,hMl⟩:=zC N;refine impl_greedy_l2_ok deps many x ([]:List Int) 0 o02 ho02 iR h h1 h4 h5 h7 (fun _ _ _ h=>hg _ _ _ h) (fun _ _ h=>ho _ _ h) ?_;intro I04 ready1 p6 c6 cs5 heq2 le4 h9;subst o02;have h:=h.mono le4;have h1:=h1.mono le4;have h4:=iM le4 h4;have h5:=iM le4 h5;have H:=H.trans le4;refine zW<|xI<|yH 5 [] [(41,vS p6 ready1 c6),(42,vS p1 choices c1),(43,vI t17),(45,vI (ready1.length:Int))] ?_;obtain ⟨y1,hy4,N⟩:=zC hMl;refine kE (impl_choice_ok choices t17 (ready1.length:Int) _ hy4 h1) ?_;intro I05 le5;have h:=h.mono le5;have h1:=h1.mono le5;have h4:=iM le5 h4;have h9:=iM le5 h9;have h5:=iM le5 h5;have H:=H.trans le5;obtain ⟨x2,hy5,N⟩:=zC N;refine oM 0 rfl rfl rfl h9 hy5 ?_;intro ad1 ccs1 hat3 hcc1 hrep1;obtain rfl:=hrep1;refine zCD 0 0 hat3 hcc1 [vI x2] (vI x2) rfl rfl<|yF [] [(13,vI x2)]<|xI<|yH 2 [2] [(49,vS p3 x c3),(50,vI x2)]<|bE N fun x3 hy6 N=>oM 3 rfl rfl rfl h5 hy6 ?_;intro ad2 ccs2 hat4 hcc2 hrep2;obtain rfl:=hrep2;obtain ⟨l1,hy7,N⟩:=zC N;refine sF (c:=[vY]) (x':=true) 3 0 rfl rfl rfl hat4 rfl rfl hcc2 (by kernel_rfl) (by kernel_rfl) (by kernel_rfl) h5 hy6 (by kernel_rfl) rfl ?_;rw [show x.set x2.toNat true=l1 from zB hy7];intro cs8 h15 hl01;refine oX (m':=[(0,vS p deps c),(1,vI many),(2,vS p1 choices c1),(7,vS p2 out c2),(8,vP b1 0),(13,vI x2),(16,vI many),(17,vI t17),(49,vS p3 x c3),(50,vI x2)]) ⟨rfl,rfl,rfl,rfl,rfl,rfl,rfl,rfl,rfl,rfl,trivial⟩<|fL (hs':=[hO Int (vS p6 ready1 c6) cs5,hO Int (vS p2 out c2) cs1,hB b1 [vS p3 l1 c3],hO Bool (vS p3 l1 c3) cs8]) (m':=[(0,vS p deps c),(1,vI many),(2,vS p1 choices c1),(7,vS p2 out c2),(8,vP b1 0),(13,vI x2),(16,vI many),(17,vI t17),(49,vS p3 l1 c3),(50,vI x2)]) (by first | rfl | simp only [vS,hl01,List.nil_append,List.cons_append,List.set_cons_zero,List.set_cons_succ,List.eraseIdx_cons_zero,List.eraseIdx_cons_succ]) (by first | rfl | simp only [vS,hl01])<|yN rfl<|zD<|zQ<|yH 2 [] [(52,vS p2 out c2),(53,vI x2)]<|xX [vI x2] Int ?_;intro b4 hb3;have h16:RL I05 [vI x2] ([x2]:List Int):=⟨[vI x2],_,rfl,rfl,rfl,rfl⟩;obtain ⟨out2,hy8,N⟩:=zC N;exact qF 3 1 2 rfl rfl rfl h4 (.inr ⟨0,rfl⟩) h16 hy8 fun p9 c9 cs9 h17=>rW (zE [1,2,3,4] (hs':=[hO Int (vS p6 ready1 c6) cs5,hO Int (vS p9 out2 c9) cs9,hB b1 [vS p3 l1 c3],hO Bool (vS p3 l1 c3) cs8]) rfl (by decide))<|yF [] [(7,vS p9 out2 c9)]<|zT<|zD<|zQ<|yF [] [(17,vI (W (t17 + 1)))]<|yZ<|qE (zE [1,2,3] rfl (by decide))<|wS [(0,vS p deps c),(1,vI many),(2,vS p1 choices c1),(7,vS p9 out2 c9),(8,vP b1 0),(16,vI many),(17,vI (W (t17 + 1)))]<|ih out2 (W (t17 + 1)) l1 _ N H h h1 h17 h15 hg ho hx
 intro hc N;exact yX<|zL<|zL<|wC (zE [0] rfl (by decide))<|yR [(7,vS p2 out c2)]<|hx _ _ _ _ _ (zB N).symm H h4
def M.impl_greedy (deps:(List yG)) (many:Int) (choices:(List Int)):Option ((List Int)):=do
 let l←mkrow 1 many (false:Bool)
 let out1←M.impl_greedy_l1 deps many choices ([]:List Int) 0 l
 pure (id out1)
theorem impl_greedy_ok:∀ deps many choices r,M.impl_greedy deps many choices=some r→∀ {I:Imm}{p c p1 c1},(S4 I p deps c)→(S4 I p1 choices c1)→Ret Tryz.prog 59 [vS p deps c,vI many,vS p1 choices c1] I [] (zDS  r):=by
 intro deps many choices r N I p c p1 c1 h h1;unfold M.impl_greedy at N;refine yA (fn:=Tryz.f59) (c:=(bodyOf Tryz.f59)) Tryz.func59 rfl rfl ?_;rintro B - -;refine yE []<|wR [(7,z0)]<|xI<|yH 1 [] [(14,vI many)]<|bE N fun l hy N=>zJ8 1 [vF] rfl hy rfl fun b cs h2=>uQ [z0] ?_;intro b1 hb;refine xQ 0 [vS (some ⟨b,0,none⟩) l l.length] [hB b1 [vS (some ⟨b,0,none⟩) l l.length],hO Bool (vS (some ⟨b,0,none⟩) l l.length) cs] rfl rfl rfl rfl<|yN rfl<|yI<|yE [(16,vI many),(17,vI 0)]<|zD<|zV<|wS [(0,vS p deps c),(1,vI many),(2,vS p1 choices c1),(7,z0),(8,vP b1 0),(16,vI many),(17,vI 0)]<|qE (uP (Rp.sz Int)) ?_;have h3:RL I [] ([]:List Int):=RepL.nil;obtain ⟨o03,ho03,hMl1⟩:=zC N;refine impl_greedy_l1_ok deps many choices ([]:List Int) 0 l o03 ho03 iR h h1 h3 h2 (fun _ _ _ h=>h) (fun _ _ h=>h) ?_;intro I06 out1 p4 c4 cs3 heq3 le6 h6;subst o03;refine zW<|wR [(6,vS p4 out1 c4)]<|zD<|yC<|xG 0 rfl ?_;intro I07 le7 hl02;have h18:=SL.of_frozen hl02 le7 h6;obtain rfl:=zB hMl1;exact xH ⟨_,_,(.tmp rfl ResV.nil),yD,⟨_,rfl,rfl,h18⟩⟩
def M.impl_GreedyOrder (p:zJ) (choices:(List Int)):Option ((List Int)):=do
 let y←oK p
 let y1←M.impl_ProgramInstances p
 let y2←M.impl_greedy y (y1.length:Int) choices
 pure (id y2)
theorem impl_GreedyOrder_ok:∀ p choices r,M.impl_GreedyOrder p choices=some r→∀ {I:Imm}{p1 c p2 c1 p3 c2},(S4 I p1 p.Arrays c)→(S4 I p2 p.Parts c1)→(S4 I p3 choices c2)→Ret Tryz.prog 33 [vA (cProg p p1 c p2 c1),vS p3 choices c2] I [] (zDS  r):=by
 intro p choices r N I p1 c p2 c1 p3 c2 h h1 h2;unfold M.impl_GreedyOrder at N;refine yA (fn:=Tryz.f33) (c:=(bodyOf Tryz.f33)) Tryz.func33 rfl rfl ?_;rintro B - -;have H:=iS I;refine yO<|tA (cProg p p1 c p2 c1) ?_;intro b hb;refine yF [] []<|zD<|yK ?_;obtain ⟨y,hy,N⟩:=zC N;obtain ⟨y1,hy1,N⟩:=zC N;obtain ⟨y2,hy2,N⟩:=zC N;refine vQ [.p (vA (cProg p p1 c p2 c1)) [0],.x (fun I' v hx=>∃ p4 c3,v=vS p4 y c3∧hx=[]∧(S4 I' p4 y c3)),.p (vA (cProg p p1 c p2 c1)) [0],.x (fun I' v hx=>∃ p5 c4,v=vS p5 y1 c4∧hx=[]∧(S4 I' p5 y1 c4)),.q (vI (y1.length:Int)),.p (vS p3 choices c2) [],.x (fun I' v hx=>∃ p6 c5,v=vS p6 y2 c5∧hx=[]∧(S4 I' p6 y2 c5))] [[],[(0,false)],[],[(2,false)],[(3,false)],[],[(1,false),(4,false),(5,false)]] [hB b (cProg p p1 c p2 c1)] [] [(6,false)] (zE [0] rfl (by decide)) ?_ ?_
 · refine Op<|Ox ?_<|Op<|Ox ?_<|Oq ?_<|Op<|Ox ?_<|On
   · intro I1 hf le1;refine yV [(5,vA (cProg p p1 c p2 c1))] ?_;have H:=iS I1;have h:=h.mono le1;have h1:=h1.mono le1;refine xW (zBM p _ hy h h1) ?_;rintro I0 hs2 v2 k2 le - ⟨v0,rfl,rfl,h3⟩ -;have H:=H.trans le;obtain ⟨p4,c3,rfl⟩:=h3.form;exact yS [] H ⟨_,_,rfl,rfl,h3⟩
   · intro I1 hf le1;refine yV [(7,vA (cProg p p1 c p2 c1))] ?_;have H:=iS I1;have h:=h.mono le1;have h1:=h1.mono le1;refine xW (impl_ProgramInstances_ok p _ hy1 h h1) ?_;rintro I01 hs2 v2 k2 le1 - ⟨v01,rfl,rfl,h4⟩ -;have H:=H.trans le1;obtain ⟨p5,c4,rfl⟩:=h4.form;exact yS [] H ⟨_,_,rfl,rfl,h4⟩
   · intro I1 hf le1;refine zI ?_;rintro _ _ ⟨p5,c4,rfl,rfl,h4⟩;exact yV [(8,vS p5 y1 c4)]<|pH 5 [(9,vI (y1.length:Int))]<|xP iR
   intro I1 hf le1;refine zI ?_;rintro _ _ ⟨p4,c3,rfl,rfl,h3⟩;refine yV [(6,vS p4 y c3),(9,vI (y1.length:Int)),(10,vS p3 choices c2)] ?_;have H:=iS I1;have h2:=h2.mono le1;refine xW (impl_greedy_ok y (y1.length:Int) choices _ hy2 h3 h2) ?_;rintro I02 hs2 v2 k2 le2 - ⟨v02,rfl,rfl,h5⟩ -;have H:=H.trans le2;obtain ⟨p6,c5,rfl⟩:=h5.form;exact yS [] H ⟨_,_,rfl,rfl,h5⟩
 intro I03 le3;refine zI ?_;rintro _ _ ⟨p6,c5,rfl,rfl,h5⟩;refine yV [(11,vS p6 y2 c5)] ?_;refine yF [] [(4,vS p6 y2 c5)]<|zD<|yC ?_;obtain rfl:=zB N;exact xH ⟨_,_,(.tmp rfl ResV.nil),yD,⟨_,rfl,rfl,h5⟩⟩
def M.impl_ProgramValid (p:zJ):Option (Bool):=do
 let (y1,y2)←tE p
 pure (id y2)
theorem impl_ProgramValid_ok:∀ p r,M.impl_ProgramValid p=some r→∀ {I:Imm}{p1 c p2 c1},(S4 I p1 p.Arrays c)→(S4 I p2 p.Parts c1)→Ret Tryz.prog 35 [vA (cProg p p1 c p2 c1)] I [] (zZ  r):=by
 intro p r N I p1 c p2 c1 h h1;unfold M.impl_ProgramValid at N;refine yA (fn:=Tryz.f35) (c:=(bodyOf Tryz.f35)) Tryz.func35 rfl rfl ?_;rintro B - -;refine yO<|tA (cProg p p1 c p2 c1) ?_;intro b hb;refine yF [] []<|xI<|yH 1 [0] [(6,vA (cProg p p1 c p2 c1))] ?_;obtain ⟨⟨y1,y2⟩,hy,N⟩:=zC N;refine xW (kX p _ hy h h1) ?_;rintro I0 hs2 v2 k2 le - ⟨v0,v01,rfl,rfl,h2,rfl⟩ -;obtain ⟨p3,c2,rfl⟩:=h2.form;refine yF [] [(4,.bool y2)]<|wR [(2,.bool y2)]<|zD<|yC ?_;obtain rfl:=zB N;exact wY
def M.laws_FnGreedyOrder_l1 (y9:(List Int)) (i:Int):Option (Out Unit (Bool)):=do
 if (decide (i < (y9.length:Int))) then
  let x←idx y9 i
  if (x != i) then
   pure (.ret false)
  else
   M.laws_FnGreedyOrder_l1 y9 (W (i + 1))
 else
  pure (.done ())
 partial_fixpoint
theorem laws_FnGreedyOrder_l1_ok (y9:(List Int)):∀ (i:Int) (o:Out Unit (Bool)),M.laws_FnGreedyOrder_l1 y9 i=some o→∀ {B}{I0 I:Imm}{Q}{y1:zJ}{y3:(List Int)}{p1 c1 p2 c2}{b:Nat}{p4 c4 p7 c7},I0.le I→(S4 I p4 y3 c4)→(S4 I p7 y9 c7)→(S4 I p1 y1.Arrays c1)→(S4 I p2 y1.Parts c2)→NG Q→NO Q→(∀ (I':Imm) ,o=(.done ())→I0.le I'→T 60 B Q (.exit 0) I' [hB b (cProg y1 p1 c1 p2 c2)] [(3,vP b 0),(5,vS p4 y3 c4),(6,vS p7 y9 c7)])→(∀ r I' hs' m',o=(.ret r)→I0.le I'→RS Tryz.prog Tryz.f9 B (zZ  r) I' hs' m'→T 60 B Q .ret I' hs' m')→J Tryz.prog 60 B (nav (bodyOf Tryz.f9) [1,1,1,1,1,1,0,1,0]) Q I [hB b (cProg y1 p1 c1 p2 c2)] [(3,vP b 0),(5,vS p4 y3 c4),(6,vS p7 y9 c7),(7,vI i)]:=by
 refine M.laws_FnGreedyOrder_l1.partial_correctness y9 _ fun self ih i o N B I0 I Q y1 y3 p1 c1 p2 c2 b p4 c4 p7 c7 H h5 h13 h3 h4 hg ho hx hr=>yY hg ho<|yK<|yE [(41,.bool (decide (i < (y9.length:Int))))]<|zD<|yM N ?_ ?_
 · intro hc3 N;refine zX<|yI<|zV<|yO<|yH 2 [] [(44,vS p7 y9 c7),(45,vI i)]<|bE N fun x hy8 N=>xV rfl rfl h13 hy8 ?_;intro ad ccs hat hrep;obtain rfl:=hrep;refine xR 0 hat [vI x] (vI x) rfl<|yF [] [(49,.bool (x != i))]<|zD<|yM N ?_ ?_
   · intro hc4 N;exact yE [(2,vF)]<|zD<|yC<|yB<|zM<|zM<|hr _ _ _ _ (zB N).symm H ⟨_,_,(.tmp rfl ResV.nil),yD,⟨_,rfl,rfl,rfl⟩⟩
   intro hc4 N;exact zX<|zT<|zD<|zQ<|yF [] [(7,vI (W (i + 1)))]<|yZ<|wS [(3,vP b 0),(5,vS p4 y3 c4),(6,vS p7 y9 c7),(7,vI (W (i + 1)))]<|ih (W (i + 1)) _ N H h5 h13 h3 h4 hg ho hx hr
 intro hc3 N;exact yX<|zL<|zL<|yR [(3,vP b 0),(5,vS p4 y3 c4),(6,vS p7 y9 c7)]<|hx _  (zB N).symm H
def M.laws_FnGreedyOrder (code:(List UInt8)):Option (Bool):=do
 if (decide ((code.length:Int) > 1048576)) then
  pure true
 else
  let (y1,y2)←M.spec_DrawGreedyOrder code
  let y3←M.impl_GreedyOrder y1 y2
  let t29←(do
    let y4←eA y1 y2
    let y5←M.laws_lnInts y3 y4
    if (!y5) then
     pure true
    else
     let y6←M.impl_ProgramValid y1
     pure (!y6)
      : Option Bool)
  if t29 then
   let y7←eA y1 y2
   let y8←M.laws_lnInts y3 y7
   pure (id y8)
  else
   let y9←M.impl_GreedyOrder y1 ([]:List Int)
   match←M.laws_FnGreedyOrder_l1 y9 0 with
   | .ret r0=>pure r0
   | .done _ =>
    let t2←(do
      let y10←kD y1 y3
      if y10 then
       pure ((y9.length:Int) == (y3.length:Int))
      else
       pure false
        : Option Bool)
    pure (id t2)
theorem laws_FnGreedyOrder_ok:∀ code r,M.laws_FnGreedyOrder code=some r→∀ {I:Imm}{p c},(S4 I p code c)→Ret Tryz.prog 9 [vS p code c] I [] (zZ  r):=by
 intro code r N I p c h;unfold M.laws_FnGreedyOrder at N;refine yA (fn:=Tryz.f9) (c:=(bodyOf Tryz.f9)) Tryz.func9 rfl rfl ?_;rintro B - -;have H:=iS I;refine yE []<|yI<|yE [(10,.bool (decide ((code.length:Int) > 1048576)))]<|zD<|yM N ?_ ?_
 · intro hc N;refine yE [(2,vY)]<|zD<|yC<|zM ?_;obtain rfl:=zB N;exact wY
 intro hc N;refine zX<|xI<|yH 1 [] [(12,vS p code c)] ?_;obtain ⟨⟨y1,y2⟩,hy,N⟩:=zC N;refine xW (spec_DrawGreedyOrder_ok code _ hy h) ?_;rintro I0 hs2 v2 k2 le - ⟨v0,v01,rfl,rfl,⟨cs,rfl,h1⟩,h2⟩ -;have H:=H.trans le;obtain ⟨p1,c1,p2,c2,rfl,h3,h4⟩:=zIS h1;obtain ⟨p3,c3,rfl⟩:=h2.form;refine yH 5 [] [(14,vA (cProg y1 p1 c1 p2 c2)),(15,vS p3 y2 c3)]<|uQ zTwo ?_;intro b hb;refine xQ 0 (cProg y1 p1 c1 p2 c2) [hB b (cProg y1 p1 c1 p2 c2)] rfl rfl rfl rfl<|yF [] [(4,vS p3 y2 c3)]<|xI<|yH 2 [0] [(16,vA (cProg y1 p1 c1 p2 c2)),(17,vS p3 y2 c3)]<|bE N fun y3 hy1 N=>xW (impl_GreedyOrder_ok y1 y2 _ hy1 h3 h4 h2) ?_;rintro I01 hs2 v2 k2 le1 - ⟨v04,rfl,rfl,h5⟩ -;have h2:=h2.mono le1;have h3:=h3.mono le1;have h4:=h4.mono le1;have H:=H.trans le1;obtain ⟨p4,c4,rfl⟩:=h5.form;refine yF [] [(5,vS p4 y3 c4)]<|yI<|yK ?_;obtain ⟨o0,ho0,hMc⟩:=zC N;refine yU (fun I' hs' m'=>∃ (t29:Bool),o0=t29∧I01.le I'∧hs'=[hB b (cProg y1 p1 c1 p2 c2)]∧m'=[(3,vP b 0),(4,vS p3 y2 c3),(5,vS p4 y3 c4),(29,.bool t29)]) ?_ ?_
 · have H:=iS I01;refine zQ<|yH 3 [0] [(19,vS p4 y3 c4),(20,vA (cProg y1 p1 c1 p2 c2)),(21,vS p3 y2 c3)] ?_;obtain ⟨y4,hy2,N⟩:=zC ho0;refine xW (zHF y1 y2 _ hy2 h3 h4 h2) ?_;rintro I03 hs2 v2 k2 le2 - ⟨v05,rfl,rfl,h6⟩ -;have h5:=h5.mono le2;have h3:=h3.mono le2;have h4:=h4.mono le2;have H:=H.trans le2;obtain ⟨p5,c5,rfl⟩:=h6.form;obtain ⟨y5,hy3,N⟩:=zC N;refine uR (laws_lnInts_ok y3 y4 _ hy3 h5 h6) ?_;intro I04 le3;have h3:=h3.mono le3;have h4:=h4.mono le3;have H:=H.trans le3;refine yH 7 [] [(25,.bool (!y5))] ?_;cases hc1:(!y5) with
   | true =>
    have hM0:=zU hc1 N
    try rw [hc1]
    exact yF [] [(29,vY)]<|yR [(3,vP b 0),(4,vS p3 y2 c3),(5,vS p4 y3 c4),(29,vY)]<|zY ⟨_,(zB hM0).symm,H,rfl,rfl⟩
   | false =>
    have hM01:=zS hc1 N
    try rw [hc1]
    refine yH 8 [0] [(26,vA (cProg y1 p1 c1 p2 c2))] ?_;obtain ⟨y6,hy4,N⟩:=zC hM01;refine uR (impl_ProgramValid_ok y1 _ hy4 h3 h4) ?_;intro I05 le4;have H:=H.trans le4;exact yF [] [(29,.bool (!y6))]<|yR [(3,vP b 0),(4,vS p3 y2 c3),(5,vS p4 y3 c4),(29,.bool (!y6))]<|zY ⟨_,(zB N).symm,H,rfl,rfl⟩
 rintro I02 hs2 m2 ⟨t29,heq,le5,rfl,rfl⟩;subst o0;have h2:=h2.mono le5;have h5:=h5.mono le5;have h3:=h3.mono le5;have h4:=h4.mono le5;have H:=H.trans le5;refine zD<|yM hMc ?_ ?_
 · intro hc2 N;refine yO<|yH 3 [0] [(30,vS p4 y3 c4),(31,vA (cProg y1 p1 c1 p2 c2)),(32,vS p3 y2 c3)]<|bE N fun y7 hy5 N=>xW (zHF y1 y2 _ hy5 h3 h4 h2) ?_;rintro I06 hs2 v2 k2 le6 - ⟨v08,rfl,rfl,h9⟩ -;have h5:=h5.mono le6;obtain ⟨p6,c6,rfl⟩:=h9.form;obtain ⟨y8,hy6,N⟩:=zC N;refine uR (laws_lnInts_ok y3 y7 _ hy6 h5 h9) fun I07 le7=>yF [] [(2,.bool y8)]<|zD<|yC<|zM ?_;obtain rfl:=zB N;exact wY
 intro hc2 N;refine zX<|xI<|yH 1 [0] [(35,vA (cProg y1 p1 c1 p2 c2))]<|xX [] Int ?_;intro b1 hb1;have h11:RL I02 [] ([]:List Int):=rfl;refine yJ 0 rfl ?_;intro I08 le8 hl0;have h12:=SL.of_frozen hl0 le8 h11;have h5:=h5.mono le8;have h3:=h3.mono le8;have h4:=h4.mono le8;have H:=H.trans le8;obtain ⟨y9,hy7,N⟩:=zC N;refine xW (impl_GreedyOrder_ok y1 ([]:List Int) _ hy7 h3 h4 h12) ?_;rintro I09 hs2 v2 k2 le9 - ⟨v010,rfl,rfl,h13⟩ -;have h5:=h5.mono le9;have h3:=h3.mono le9;have h4:=h4.mono le9;have H:=H.trans le9;obtain ⟨p7,c7,rfl⟩:=h13.form;refine yF [] [(6,vS p7 y9 c7)]<|yI<|yE [(7,vI 0)]<|zD<|zV<|wS [(3,vP b 0),(5,vS p4 y3 c4),(6,vS p7 y9 c7),(7,vI 0)] ?_;obtain ⟨o01,ho01,hMl⟩:=zC N;refine laws_FnGreedyOrder_l1_ok y9 0 o01 ho01 iR h5 h13 h3 h4 (fun _ _ _ h=>h) (fun _ _ h=>h) ?_ ?_
 · intro I010  heq1 le10;subst o01;have h5:=h5.mono le10;have h3:=h3.mono le10;have h4:=h4.mono le10;have H:=H.trans le10;refine zW<|zD<|yK ?_;obtain ⟨o02,ho02,hMc1⟩:=zC hMl;refine yU (fun I' hs' m'=>∃ (t2:Bool),o02=t2∧I010.le I'∧hs'=[]∧m'=[(2,.bool t2)]) ?_ ?_
   · have H:=iS I010;refine zQ<|yH 2 [0] [(50,vA (cProg y1 p1 c1 p2 c2)),(51,vS p4 y3 c4)] ?_;obtain ⟨y10,hy9,N⟩:=zC ho02;refine uR (zHR y1 y3 _ hy9 h3 h4 h5) ?_;intro I012 le11;have H:=H.trans le11;refine yH 4 [] [(53,.bool y10)] ?_;cases hc5:y10 with
     | true =>
      have hM02:=zU hc5 N
      try rw [hc5]
      exact yF [] [(2,.bool ((y9.length:Int) == (y3.length:Int)))]<|wC (zE [] rfl (by decide))<|yR [(2,.bool ((y9.length:Int) == (y3.length:Int)))]<|zY ⟨_,(zB hM02).symm,H,rfl,rfl⟩
     | false =>
      have hM03:=zS hc5 N
      try rw [hc5]
      exact yF [] [(2,vF)]<|wC (zE [] rfl (by decide))<|yR [(2,vF)]<|zY ⟨_,(zB hM03).symm,H,rfl,rfl⟩
   rintro I011 hs2 m2 ⟨t2,heq2,le12,rfl,rfl⟩;subst o02;refine zD<|yC ?_;obtain rfl:=zB hMc1;exact wY
 intro r0 I9 hs9 m9 heq9 le9 hrs9;subst heq9;refine yB<|zM ?_;obtain rfl:=zB hMl;exact xH hrs9
end Go.LN
namespace Go.LN
theorem implValidP (P:zJ) (h:BG P):M.impl_ProgramValid P=some (validP P):=by
  unfold M.impl_ProgramValid validP;rw [implInstances P h];cases progB P <;> rfl
theorem implInstP (P:zJ) (h:BG P):M.impl_ProgramInstances P=some (if validP P then progI P else []):=by
  unfold M.impl_ProgramInstances validP;rw [implInstances P h];cases progB P with
  | false=>rfl
  | true=>cases hd:decide ((progI P).length ≤ 120) <;> simp [hd]
end Go.LN
namespace Go.LN
theorem ints_refl (l:List Int) (h:l.length ≤ 1048576):M.laws_lnInts l l=some true:=by
  unfold M.laws_lnInts;have hl:=jW (n:=l.length) (f:=M.laws_lnInts_l1 l l) (P:=fun _=>true) (fun i hi=>by
      rw [M.laws_lnInts_l1];have h1:((i:Int) < (l.length:Int)):=by omega
      simp only [h1,decide_true,if_true,yT hi,oB,oS,bne_self_eq_false,bF,if_false];rw [vR (by omega)]) (by rw [M.laws_lnInts_l1]; simp)
  rw [hl];have:((List.range l.length).all fun _=>true)=true:=by simp
  simp [this]
end Go.LN
namespace Go.LN
theorem stB_congr {n:Nat}{f g:Nat→Bool} (h:∀ m,m < n→f m=g m):stB n f=stB n g:=by
  unfold stB;exact List.map_congr_left fun m hm=>h m (List.mem_range.1 hm)
theorem stB_val {n m:Nat}{g:Nat→Bool}{v:Bool} (h:m < n):(stB n g).set m v=stB n fun x=>if x=m then v else g x:=by
  refine List.ext_getElem (by rw [List.length_set,zEG,zEG]) fun i h1 h2=>?_;rw [List.getElem_set,zH7,zH7];by_cases e:m=i
  · rw [if_pos e,if_pos e.symm]
  · rw [if_neg e,if_neg fun h=>e h.symm]
theorem stB_getD {n k:Nat}{g:Nat→Bool}:(stB n g).getD k false=if k < n then g k else false:=by
  rw [List.getD_eq_getElem?_getD];by_cases h:k < n
  · rw [List.getElem?_eq_getElem (by rw [zEG]; exact h),zH7,if_pos h]; rfl
  · rw [List.getElem?_eq_none (by rw [zEG]; omega),if_neg h]; rfl
def stpY (dn:Nat→Bool) (r:Nat→Bool) (d:yG):Nat→Bool:=if dn d.From.toNat then r else fun x=>if x=d.To.toNat then false else r x
def rdF (D:List yG) (dn:Nat→Bool):Nat→Bool:=fun x=>!dn x && D.all fun d=>dn d.From.toNat || !(x == d.To.toNat)
theorem stpY_fold (dn:Nat→Bool) (x:Nat):∀ (D:List yG) (r:Nat→Bool),D.foldl (stpY dn) r x=(r x && D.all fun d=>dn d.From.toNat || !(x == d.To.toNat))
  | [],r=>by simp
  | d::D,r=>by
    rw [List.foldl_cons,stpY_fold dn x D,List.all_cons,← Bool.and_assoc]
    congr 1
    unfold stpY
    cases dn d.From.toNat with
    | true=>simp
    | false =>
      by_cases e:x=d.To.toNat
      · simp [e]
      · simp [e]
theorem ready_l1 {n:Nat} (hn:n ≤ 1000000) (dn:Nat→Bool):∀ (j i:Nat),i + j=n→kA (stB n dn) (stB n fun x=>if x < i then !dn x else false) (i:Int)=some (stB n fun x=>!dn x):=by
  intro j
  induction j with
  | zero =>
    intro i hi;rw [kA];have:¬((i:Int) < ((stB n dn).length:Int)):=by rw [zEG]; omega
    simp only [this,decide_false,bF,if_false,oP,id];exact congrArg some (stB_congr fun x hx=>by rw [if_pos (by omega)])
  | succ j ih =>
    intro i hi;rw [kA];have hc:((i:Int) < ((stB n dn).length:Int)):=by rw [zEG]; omega
    have hlt:i < n:=by omega
    simp only [hc,decide_true,if_true,zKx hlt,oB,oS,oP,iN,stB_val hlt];rw [vR (by omega),← ih (i + 1) (by omega)]
    congr 1
    refine stB_congr fun x hx=>?_;by_cases e:x=i
    · rw [if_pos e,if_pos (by omega),e]
    · rw [if_neg e];by_cases e2:x < i
      · rw [if_pos e2,if_pos (by omega)]
      · rw [if_neg e2,if_neg (by omega)]
theorem ready_l2 {D:List yG}{n:Nat} (hD:∀ d ∈ D,DB n d) (hl:D.length ≤ 1000000) (dn:Nat→Bool):∀ (j q:Nat) (r:Nat→Bool),q + j=D.length→kC D (stB n dn) (stB n r) (q:Int)=some (stB n ((D.drop q).foldl (stpY dn) r)):=by
  intro j
  induction j with
  | zero =>
    intro q r hq;rw [kC];have:¬((q:Int) < (D.length:Int)):=by omega
    simp only [this,decide_false,bF,if_false,oP,id];rw [List.drop_eq_nil_iff.2 (by omega)]; rfl
  | succ j ih =>
    intro q r hq;rw [kC];have hlt:q < D.length:=by omega
    have hc:((q:Int) < (D.length:Int)):=by omega
    obtain ⟨i,k,e1,e2,h1,h2⟩:=hD D[q] (List.getElem_mem hlt);rw [gC hlt,List.foldl_cons];have es:stpY dn r D[q]=if dn i then r else fun x=>if x=k then false else r x:=by
      unfold stpY;rw [e1,e2,iN,iN]
    rw [es];simp only [hc,decide_true,if_true,yT hlt,oB,oS,oP,id,e1,e2,zKx h1,zKx h2,iN,stB_val h2];rw [vR (show q < 9223372036854775807 by omega)];cases dn i with
    | true =>
      simp only [Bool.not_true,bF,if_false,if_true,oS];exact ih (q + 1) _ (by omega)
    | false =>
      simp only [Bool.not_false,bF,if_false,if_true,oS];exact ih (q + 1) _ (by omega)
theorem readyV {D:List yG}{n:Nat} (hD:∀ d ∈ D,DB n d) (hl:D.length ≤ 1000000) (hn:n ≤ 1000000) (dn:Nat→Bool):fZ D (stB n dn)=some (choF (stB n (rdF D dn)) 0):=by
  have h1:=ready_l1 hn dn n 0 (Nat.zero_add _);have h2:=ready_l2 hD hl dn _ 0 (fun x=>!dn x) (Nat.zero_add D.length);have e1:(stB n fun x=>if x < 0 then !dn x else false)=List.replicate n false:=by
    rw [zKz]; exact stB_congr fun x hx=>by rw [if_neg (by omega)]
  have e2:D.foldl (stpY dn) (fun x=>!dn x)=rdF D dn:=by
    funext x
    rw [stpY_fold]; rfl
  rw [e1,Int.natCast_zero] at h1;rw [List.drop_zero,e2,Int.natCast_zero] at h2;unfold fZ;rw [zEG,zKc n hn];simp only [h1,h2,specCho (stB n (rdF D dn)) (by rw [zEG]; omega),oB,oS,oP,id]
def cntU (dn:Nat→Bool):Nat→Nat
  | 0=>0
  | n + 1=>cntU dn n + (if dn n then 0 else 1)
theorem cntU_zero {dn:Nat→Bool}:∀ {n:Nat},cntU dn n=0→∀ y,y < n→dn y=true
  | n + 1,h,y,hy=>by
    rw [cntU] at h
    by_cases e:dn n=true
    · rcases Nat.lt_or_ge y n with h1 | h1
      · exact cntU_zero (by omega) y h1
      · rw [show y=n by omega]; exact e
    · rw [if_neg e] at h; omega
theorem cntU_least {dn:Nat→Bool}:∀ {n:Nat},0 < cntU dn n→∃ x,x < n∧dn x=false∧∀ y,y < x→dn y=true
  | n + 1,h=>by
    by_cases h0:0 < cntU dn n
    · obtain ⟨x,h1,h2,h3⟩:=cntU_least h0
      exact ⟨x,by omega,h2,h3⟩
    · refine ⟨n,by omega,?_,cntU_zero (by omega)⟩
      rw [cntU] at h
      cases hd:dn n with
      | false=>rfl
      | true=>rw [hd,if_pos rfl] at h; omega
theorem cntU_congr {f g:Nat→Bool}:∀ {n:Nat},(∀ m,m < n→f m=g m)→cntU f n=cntU g n
  | 0,_=>rfl
  | n + 1,h=>by rw [cntU,cntU,cntU_congr fun m hm=>h m (by omega),h n (by omega)]
theorem cntU_set {dn:Nat→Bool}{x:Nat} (hx:dn x=false):∀ {n:Nat},x < n→cntU (fun y=>dn y || y == x) n + 1=cntU dn n
  | n + 1,h=>by
    rw [cntU,cntU]
    by_cases e:x=n
    · subst e
      rw [cntU_congr (f:=fun y=>dn y || y == x) (g:=dn) fun m hm=>by
        have:(m == x)=false:=by simp; omega
        rw [this,Bool.or_false],hx]
      simp
    · have:=cntU_set hx (n:=n) (by omega)
      have e2:(dn n || n == x)=dn n:=by
        have:(n == x)=false:=by simp; omega
        rw [this,Bool.or_false]
      rw [e2]; omega
theorem cntU_rep:∀ n,cntU (fun _=>false) n=n
  | 0=>rfl
  | n + 1=>by rw [cntU,cntU_rep n]; rfl
theorem nodup_le:∀ (n:Nat) (l:List Int),l.Nodup→(∀ x ∈ l,0 ≤ x∧x < (n:Int))→l.length ≤ n
  | 0,[],_,_=>Nat.le_refl _
  | 0,x::l,_,h=>by have:=h x (List.mem_cons_self ..); omega
  | n + 1,l,hn,h=>by
    by_cases hm:(n:Int) ∈ l
    · have h1:=nodup_le n (l.erase (n:Int)) (hn.erase _) fun x hx=>by
        have h2:=(hn.mem_erase_iff).1 hx
        have h3:=h x h2.2
        have h4:=h2.1
        omega
      rw [List.length_erase_of_mem hm] at h1
      omega
    · have h1:=nodup_le n l hn fun x hx=>by
        have h3:=h x hx
        have h4:x ≠ (n:Int):=fun e=>hm (e ▸ hx)
        omega
      omega
theorem perm_has {n:Nat}{o:List Int} (hp:permB n o=true) {m:Nat} (hm:m < n):∃ (j:Nat) (hj:j < o.length),o[j]=(m:Int):=by
  obtain ⟨⟨p1,p2⟩,p3⟩:=(zIJ _ _).1 hp;by_cases h:(m:Int) ∈ o
  · exact List.mem_iff_getElem.1 h
  · have:=nodup_le n ((m:Int)::o) (List.nodup_cons.2 ⟨h,p2⟩) fun x hx=>by
      rcases List.mem_cons.1 hx with rfl | hx
      · omega
      · exact p1 x hx
    rw [List.length_cons] at this;omega
end Go.LN
namespace Go.LN
def chF (cs:List Int) (n0 many:Nat):Int:=if cs.length=0 then 0 else if (cs.getD (n0 % cs.length) 0).tmod (many:Int) > 0 then (cs.getD (n0 % cs.length) 0).tmod (many:Int) else 0
theorem chF_rng (cs:List Int) (n0:Nat) {many:Nat} (hm:0 < many):0 ≤ chF cs n0 many∧chF cs n0 many < (many:Int):=by
  unfold chF;have hlt:=Int.tmod_lt_of_pos (cs.getD (n0 % cs.length) 0) (show (0:Int) < (many:Int) by omega);split
  · omega
  · split <;> omega
theorem ch_parts {cs:List Int} (h:¬cs.length=0) (n0:Nat) {many:Nat} (hm:0 < many):rem (n0:Int) (cs.length:Int)=some ((n0 % cs.length:Nat):Int)∧idx cs ((n0 % cs.length:Nat):Int)=some (cs.getD (n0 % cs.length) 0)∧rem (cs.getD (n0 % cs.length) 0) (many:Int)=some ((cs.getD (n0 % cs.length) 0).tmod (many:Int)):=by
  have hq:n0 % cs.length < cs.length:=Nat.mod_lt _ (by omega);refine ⟨?_,?_,?_⟩
  · unfold rem;rw [if_neg (by omega)]; rfl
  · rw [yT hq]; simp [hq]
  · unfold rem;rw [if_neg (by omega)]
theorem implCh (cs:List Int) (n0:Nat) {many:Nat} (hm:0 < many):M.impl_choice cs (n0:Int) (many:Int)=some (chF cs n0 many):=by
  unfold M.impl_choice chF;by_cases h:cs.length=0
  · have e:((cs.length:Int) == 0)=true:=by simp [h]
    rw [if_pos e,if_pos h]; rfl
  · have e:¬(((cs.length:Int) == 0)=true):=by simp; intro e; exact h (by rw [e]; rfl)
    obtain ⟨h1,h2,h3⟩:=ch_parts h n0 hm;rw [if_neg e,if_neg h];simp only [h1,h2,h3,oB,oS,oP,id]
theorem specCh (cs:List Int) (n0:Nat) {many:Nat} (hm:0 < many):gX cs (n0:Int) (many:Int)=some (chF cs n0 many):=by
  unfold gX chF;by_cases h:cs.length=0
  · have e:((cs.length:Int) == 0)=true:=by simp [h]
    rw [if_pos e,if_pos h]; rfl
  · have e:¬(((cs.length:Int) == 0)=true):=by simp; intro e; exact h (by rw [e]; rfl)
    obtain ⟨h1,h2,h3⟩:=ch_parts h n0 hm;rw [if_neg e,if_neg h];simp only [h1,h2,h3,oB,oS,oP,id];generalize (cs.getD (n0 % cs.length) 0).tmod (many:Int)=q;by_cases h4:q < 0
    · rw [if_pos (by simpa using h4),if_neg (by omega)]
    · rw [if_neg (by simpa using h4)];by_cases h5:q > 0
      · rw [if_pos h5]
      · rw [if_neg h5]; exact congrArg some (by omega)
def pkF (D:List yG) (n:Nat) (cs:List Int) (n0:Nat) (dn:Nat→Bool):Nat:=((choF (stB n (rdF D dn)) 0).getD (chF cs n0 (choF (stB n (rdF D dn)) 0).length).toNat 0).toNat
def grd (D:List yG) (n:Nat) (cs:List Int):Nat→Nat→(Nat→Bool)→List Int
  | 0,_,_=>[]
  | j + 1,n0,dn=>((pkF D n cs n0 dn:Nat):Int)::grd D n cs j (n0 + 1) fun y=>dn y || y == pkF D n cs n0 dn
theorem rd_some {D:List yG}{n:Nat} (hlt:∀ d ∈ D,d.From.toNat < d.To.toNat) {dn:Nat→Bool} (h:0 < cntU dn n):0 < (choF (stB n (rdF D dn)) 0).length:=by
  obtain ⟨x,x1,x2,x3⟩:=cntU_least h;have hmem:((x:Nat):Int) ∈ choF (stB n (rdF D dn)) 0:=by
    refine zJy.2 ⟨x,by omega,?_⟩;rw [stB_getD,if_pos x1];unfold rdF;rw [x2,Bool.not_false,Bool.true_and,List.all_eq_true];intro d hd;by_cases e:x=d.To.toNat
    · rw [x3 _ (by have:=hlt d hd; omega),Bool.true_or]
    · have:(x == d.To.toNat)=false:=by simpa using e
      rw [this]; simp
  exact List.length_pos_of_mem hmem
theorem pk_ok {D:List yG}{n:Nat} (hlt:∀ d ∈ D,d.From.toNat < d.To.toNat) {dn:Nat→Bool} (h:0 < cntU dn n) (cs:List Int) (n0:Nat):idx (choF (stB n (rdF D dn)) 0) (chF cs n0 (choF (stB n (rdF D dn)) 0).length)=some ((pkF D n cs n0 dn:Nat):Int)∧pkF D n cs n0 dn < n∧rdF D dn (pkF D n cs n0 dn)=true:=by
  obtain ⟨c0,c1⟩:=chF_rng cs n0 (rd_some hlt h);unfold pkF;generalize hr:choF (stB n (rdF D dn)) 0=r at c0 c1;obtain ⟨k,hk⟩:∃ k:Nat,chF cs n0 r.length=(k:Int):=⟨(chF cs n0 r.length).toNat,by omega⟩;have hkl:k < r.length:=by omega
  rw [hk,iN];have hg:r.getD k 0=r[k]:=by simp [hkl]
  rw [hg];have hm:r[k] ∈ choF (stB n (rdF D dn)) 0:=by rw [hr]; exact List.getElem_mem hkl
  obtain ⟨m,m1,m2⟩:=zJy.1 hm;rw [stB_getD] at m2;rw [Nat.zero_add] at m1;rw [yT hkl,m1,iN];by_cases hmn:m < n
  · rw [if_pos hmn] at m2;exact ⟨rfl,hmn,m2⟩
  · rw [if_neg hmn] at m2; cases m2
theorem rdF_dn {D:List yG}{dn:Nat→Bool}{m:Nat} (h:rdF D dn m=true):dn m=false∧∀ d ∈ D,d.To.toNat=m→dn d.From.toNat=true:=by
  unfold rdF at h;rw [Bool.and_eq_true,List.all_eq_true] at h;refine ⟨by simpa using h.1,fun d hd e=>?_⟩;have:=h.2 d hd;rw [← e,beq_self_eq_true] at this;simpa using this
theorem grdS_l1 {D:List yG}{n:Nat} (hD:∀ d ∈ D,DB n d) (hlt:∀ d ∈ D,d.From.toNat < d.To.toNat) (hl:D.length ≤ 1000000) (hn:n ≤ 120) (cs:List Int):∀ (j n0:Nat) (dn:Nat→Bool) (o:List Int),n0 + j=n→cntU dn n=j→o.length=n0→oL cs D o (stB n dn) (n0:Int)=some (o ++ grd D n cs j n0 dn):=by
  intro j
  induction j with
  | zero =>
    intro n0 dn o h1 h2 h3;rw [oL];have:¬((n0:Int) < ((stB n dn).length:Int)):=by rw [zEG]; omega
    simp only [this,decide_false,bF,if_false,oP,id,grd,List.append_nil]
  | succ j ih =>
    intro n0 dn o h1 h2 h3;rw [oL];have hc:((n0:Int) < ((stB n dn).length:Int)):=by rw [zEG]; omega
    obtain ⟨p1,p2,p3⟩:=pk_ok hlt (show 0 < cntU dn n by omega) cs n0;have hdm:=(rdF_dn p3).1;simp only [hc,decide_true,if_true,readyV hD hl (show n ≤ 1000000 by omega) dn,specCh cs n0 (rd_some hlt (show 0 < cntU dn n by omega)),p1,zKx p2,oB,oS,oP,iN,zKy p2,qX (show (o.length + [((pkF D n cs n0 dn:Nat):Int)].length) * 8 ≤ 140737488355328 by simp; omega)];have:=cntU_set hdm p2;rw [vR (by omega),ih (n0 + 1) _ _ (by omega) (by omega) (by rw [List.length_append]; simp; omega),List.append_assoc]; rfl
theorem wait_l1 {n:Nat}{dn:Nat→Bool} (t:Nat) {D:List yG} (hD:∀ d ∈ D,DB n d) (hl:D.length ≤ 1000000):∀ (j q:Nat),q + j=D.length→∃ r,xO D (fun x0=>M.impl_greedy_1 x0 (t:Int) (stB n dn)) (q:Int)=some r∧((r=.done ()∧((D.drop q).all fun d=>dn d.From.toNat || !(t == d.To.toNat))=true)∨∃ k:Nat,r=.ret (k:Int)∧((D.drop q).all fun d=>dn d.From.toNat || !(t == d.To.toNat))=false):=by
  intro j
  induction j with
  | zero =>
    intro q hq;rw [xO];have:¬((q:Int) < (D.length:Int)):=by omega
    refine ⟨_,by simp only [this,decide_false,bF,if_false,oP],.inl ⟨rfl,?_⟩⟩;rw [List.drop_eq_nil_iff.2 (by omega)]; rfl
  | succ j ih =>
    intro q hq;rw [xO];have hlt:q < D.length:=by omega
    have hc:((q:Int) < (D.length:Int)):=by omega
    obtain ⟨i,k,e1,e2,h1,h2⟩:=hD D[q] (List.getElem_mem hlt);have hb:M.impl_greedy_1 D[q] (t:Int) (stB n dn)=some (!(dn i || !(t == k))):=by
      unfold M.impl_greedy_1;simp only [e1,e2,zKx h1,oB,oS,oP,id];by_cases e:k=t
      · subst e; simp
      · have a1:((k:Int) == (t:Int))=false:=by simp; omega
        have a2:(t == k)=false:=by simp; omega
        rw [a1,a2]; simp
    rw [gC hlt,List.all_cons,e1,e2,iN,iN];cases hk:(dn i || !(t == k)) with
    | false=>exact ⟨_,by simp only [hc,decide_true,if_true,yT hlt,hb,hk,Bool.not_false,oB,oS,oP],.inr ⟨q,rfl,rfl⟩⟩
    | true =>
      obtain ⟨r,hr,hc2⟩:=ih (q + 1) (by omega);refine ⟨r,?_,by simpa using hc2⟩;simp only [hc,decide_true,if_true,yT hlt,hb,hk,Bool.not_true,oB,oS,oP,bF,if_false];rw [vR (by omega),hr]
theorem waitV {n:Nat}{dn:Nat→Bool} (t:Nat) {D:List yG} (hD:∀ d ∈ D,DB n d) (hl:D.length ≤ 1000000):M.slices_ContainsFunc_impl_Dep_impl_Dep D (fun x0=>M.impl_greedy_1 x0 (t:Int) (stB n dn))=some (!(D.all fun d=>dn d.From.toNat || !(t == d.To.toNat))):=by
  obtain ⟨r,hr,hc⟩:=wait_l1 (dn:=dn) t hD hl _ 0 (Nat.zero_add D.length);rw [Int.natCast_zero] at hr;rw [List.drop_zero] at hc;unfold M.slices_ContainsFunc_impl_Dep_impl_Dep vW;rw [hr];rcases hc with ⟨rfl,h⟩ | ⟨k,rfl,h⟩
  · rw [h]; rfl
  · rw [h];have:((k:Int) ≥ 0):=by omega
    simp [this]
theorem grd_l2 {D:List yG}{n:Nat} (hD:∀ d ∈ D,DB n d) (hl:D.length ≤ 1000000) (hn:n ≤ 120) (dn:Nat→Bool):∀ (j i:Nat) (o:List Int),i + j=n→o.length ≤ i→M.impl_greedy_l2 D (n:Int) (stB n dn) o (i:Int)=some (o ++ choF ((stB n (rdF D dn)).drop i) i):=by
  intro j
  induction j with
  | zero =>
    intro i o hi ho;rw [M.impl_greedy_l2];have:¬((i:Int) < (n:Int)):=by omega
    simp only [this,decide_false,bF,if_false,oP,id];rw [List.drop_eq_nil_iff.2 (by rw [zEG]; omega),choF,List.append_nil]
  | succ j ih =>
    intro i o hi ho;rw [M.impl_greedy_l2];have hc:((i:Int) < (n:Int)):=by omega
    have hlt:i < n:=by omega
    rw [gC (show i < (stB n (rdF D dn)).length by rw [zEG]; exact hlt),choF,zH7];simp only [hc,decide_true,if_true,waitV (dn:=dn) i hD hl,zKx hlt,oB,oS,oP,id,qX (show (o.length + [(i:Int)].length) * 8 ≤ 140737488355328 by simp; omega),Bool.not_not];rw [vR (by omega)];have er:rdF D dn i=(!dn i && D.all fun d=>dn d.From.toNat || !(i == d.To.toNat)):=rfl;rw [er];cases dn i with
    | true =>
      simp only [Bool.not_true,Bool.false_and,bF,if_false,oS,List.nil_append];exact ih (i + 1) o (by omega) (by omega)
    | false =>
      simp only [Bool.not_false,Bool.true_and,if_true,oS];cases D.all fun d=>dn d.From.toNat || !(i == d.To.toNat) with
      | false =>
        simp only [bF,if_false,oS,List.nil_append];exact ih (i + 1) o (by omega) (by omega)
      | true =>
        simp only [if_true,oS];rw [ih (i + 1) _ (by omega) (by rw [List.length_append]; simp; omega),List.append_assoc]
theorem grdI_l1 {D:List yG}{n:Nat} (hD:∀ d ∈ D,DB n d) (hlt:∀ d ∈ D,d.From.toNat < d.To.toNat) (hl:D.length ≤ 1000000) (hn:n ≤ 120) (cs:List Int):∀ (j n0:Nat) (dn:Nat→Bool) (o:List Int),n0 + j=n→cntU dn n=j→o.length=n0→M.impl_greedy_l1 D (n:Int) cs o (n0:Int) (stB n dn)=some (o ++ grd D n cs j n0 dn):=by
  intro j
  induction j with
  | zero =>
    intro n0 dn o h1 h2 h3;rw [M.impl_greedy_l1];have:¬((n0:Int) < (n:Int)):=by omega
    simp only [this,decide_false,bF,if_false,oP,id,grd,List.append_nil]
  | succ j ih =>
    intro n0 dn o h1 h2 h3;rw [M.impl_greedy_l1];have hc:((n0:Int) < (n:Int)):=by omega
    obtain ⟨p1,p2,p3⟩:=pk_ok hlt (show 0 < cntU dn n by omega) cs n0;have hdm:=(rdF_dn p3).1;have hr:=grd_l2 hD hl hn dn n 0 [] (Nat.zero_add _) (Nat.le_refl _);rw [Int.natCast_zero,List.drop_zero,List.nil_append] at hr;simp only [hc,decide_true,if_true,hr,implCh cs n0 (rd_some hlt (show 0 < cntU dn n by omega)),p1,zKx p2,oB,oS,oP,iN,zKy p2,qX (show (o.length + [((pkF D n cs n0 dn:Nat):Int)].length) * 8 ≤ 140737488355328 by simp; omega)];have:=cntU_set hdm p2;rw [vR (by omega),ih (n0 + 1) _ _ (by omega) (by omega) (by rw [List.length_append]; simp; omega),List.append_assoc]; rfl
theorem grd_ok {D:List yG}{n:Nat} (hD:∀ d ∈ D,DB n d) (hlt:∀ d ∈ D,d.From.toNat < d.To.toNat) (cs:List Int):∀ (j n0:Nat) (dn:Nat→Bool),cntU dn n=j →
    (∀ x ∈ grd D n cs j n0 dn,0 ≤ x∧x < (n:Int)∧dn x.toNat=false)∧(grd D n cs j n0 dn).Nodup∧(grd D n cs j n0 dn).length=j ∧
    ∀ d ∈ D,∀ b:Nat,(grd D n cs j n0 dn)[b]?=some d.To→dn d.From.toNat=true∨∃ a,a < b∧(grd D n cs j n0 dn)[a]?=some d.From
  | 0,n0,dn,_=>⟨fun x h=>(by cases h),List.nodup_nil,rfl,fun d _ b h=>by simp [grd] at h⟩
  | j + 1,n0,dn,h=>by
    obtain ⟨p1,p2,p3⟩:=pk_ok hlt (show 0 < cntU dn n by omega) cs n0
    obtain ⟨q1,q2⟩:=rdF_dn p3
    have hs:=cntU_set q1 p2
    obtain ⟨i1,i2,i3,i4⟩:=grd_ok hD hlt cs j (n0 + 1) (fun y=>dn y || y == pkF D n cs n0 dn) (by omega)
    rw [grd]
    generalize pkF D n cs n0 dn=m at p1 p2 p3 q1 q2 hs i1 i2 i3 i4
    refine ⟨fun x hx=>?_,List.nodup_cons.2 ⟨fun hm=>?_,i2⟩,by rw [List.length_cons,i3],fun d hd b hb=>?_⟩
    · rcases List.mem_cons.1 hx with rfl | hx
      · exact ⟨by omega,by omega,by rw [iN]; exact q1⟩
      · obtain ⟨k1,k2,k3⟩:=i1 x hx
        exact ⟨k1,k2,(Bool.or_eq_false_iff.1 k3).1⟩
    · have:=(i1 _ hm).2.2
      rw [iN] at this
      simp at this
    · cases b with
      | zero =>
        have hb:(m:Int)=d.To:=by simpa using hb
        exact .inl (q2 d hd (by rw [← hb,iN]))
      | succ b =>
        have hb:(grd D n cs j (n0 + 1) fun y=>dn y || y == m)[b]?=some d.To:=by simpa using hb
        rcases i4 d hd b hb with h1 | ⟨a,h1,h2⟩
        · rcases Bool.or_eq_true _ _ ▸ h1 with h1 | h1
          · exact .inl h1
          · refine .inr ⟨0,by omega,?_⟩
            obtain ⟨i,k,e1,_,_,_⟩:=hD d hd
            have:d.From.toNat=m:=by simpa using h1
            rw [e1,iN] at this
            rw [e1,this]; rfl
        · exact .inr ⟨a + 1,by omega,by simpa using h2⟩
theorem choF_head:∀ (l:List Bool) (s k:Nat),l.getD k false=true→(∀ i,i < k→l.getD i false=false)→(choF l s)[0]?=some ((s + k:Nat):Int)
  | [],s,k,h,_=>by simp at h
  | b::l,s,0,h,_=>by
    have hb:b=true:=by simpa using h
    rw [choF,hb]; rfl
  | b::l,s,k + 1,h,h0=>by
    have hb:b=false:=by simpa using h0 0 (by omega)
    rw [choF,hb]
    have:=choF_head l (s + 1) k (by simpa using h) fun i hi=>by simpa using h0 (i + 1) (by omega)
    simp only [bF,if_false,List.nil_append]
    rw [this]
    exact congrArg some (by omega)
theorem grd_id {D:List yG}{n:Nat} (hlt:∀ d ∈ D,d.From.toNat < d.To.toNat):∀ (j n0:Nat),n0 + j=n→grd D n [] j n0 (fun y=>decide (y < n0))=(List.range' n0 j).map fun (x:Nat)=>(x:Int)
  | 0,n0,_=>rfl
  | j + 1,n0,h=>by
    have hh:(choF (stB n (rdF D fun y=>decide (y < n0))) 0)[0]?=some ((0 + n0:Nat):Int):=by
      refine choF_head _ 0 n0 ?_ fun i hi=>?_
      · rw [stB_getD,if_pos (by omega)]
        unfold rdF
        rw [Bool.and_eq_true,List.all_eq_true]
        refine ⟨by simp,fun d hd=>?_⟩
        by_cases e:n0=d.To.toNat
        · have:=hlt d hd
          have:d.From.toNat < n0:=by omega
          simp [this]
        · have:(n0 == d.To.toNat)=false:=by simpa using e
          rw [this]; simp
      · rw [stB_getD,if_pos (by omega)]
        unfold rdF
        simp [hi]
    have hp:pkF D n [] n0 (fun y=>decide (y < n0))=n0:=by
      unfold pkF
      have:chF [] n0 (choF (stB n (rdF D fun y=>decide (y < n0))) 0).length=0:=rfl
      rw [this,List.getD_eq_getElem?_getD]
      show ((choF (stB n (rdF D fun y=>decide (y < n0))) 0)[0]?.getD 0).toNat=n0
      rw [hh]
      show (((0 + n0:Nat):Int)).toNat=n0
      rw [iN]; omega
    rw [grd,hp,List.range'_succ,List.map_cons,← grd_id (D:=D) (n:=n) hlt j (n0 + 1) (by omega)]
    congr 2
    funext y
    by_cases e:y=n0
    · simp [e]
    · have:(y == n0)=false:=by simpa using e
      rw [this,Bool.or_false]
      by_cases e2:y < n0
      · simp [e2]; omega
      · simp [e2]; omega
def grF (P:zJ) (cs:List Int):List Int:=if validP P then grd (depA P 0 (progI P).length) (progI P).length cs (progI P).length 0 (fun _=>false) else []
theorem depA_lt {P:zJ}:∀ d ∈ depA P 0 (progI P).length,d.From.toNat < d.To.toNat:=by
  intro d hd;obtain ⟨i,k,rfl,k1,_⟩:=zJw hd;show ((i:Nat):Int).toNat < ((k:Nat):Int).toNat;rw [iN,iN]; exact k1
theorem implGr (P:zJ) (hb:BG P) (cs:List Int):M.impl_GreedyOrder P cs=some (grF P cs):=by
  unfold M.impl_GreedyOrder M.impl_greedy grF;rw [implDeps P hb,implInstP P hb];unfold dpF;cases hv:validP P with
  | false =>
    have h1:M.impl_greedy_l1 [] 0 cs [] 0 []=some []:=by rw [M.impl_greedy_l1]; simp
    simp only [bF,if_false,oB,oS];rw [show ((([]:List zP).length:Int))=((0:Nat):Int) from rfl,zKc 0 (by omega)];simp [h1]
  | true =>
    have hlen:=(kR hv).2.2.2;have hl0:=zKw hlen;have h1:=grdI_l1 (zJx (P:=P)) depA_lt (by omega) hlen cs (progI P).length 0 (fun _=>false) [] (Nat.zero_add _) (cntU_rep _) rfl;rw [← zKz,Int.natCast_zero,List.nil_append] at h1;simp only [if_true,zKc (progI P).length (by omega),h1,oB,oS,oP,id]
theorem specGr (P:zJ) (hb:BG P) (cs:List Int):eA P cs=some (grF P cs):=by
  unfold eA grF;rw [specValidP P hb];cases hv:validP P with
  | false=>rfl
  | true =>
    have hlen:=(kR hv).2.2.2;have hl0:=zKw hlen;have h1:=grdS_l1 (zJx (P:=P)) depA_lt (by omega) hlen cs (progI P).length 0 (fun _=>false) [] (Nat.zero_add _) (cntU_rep _) rfl;rw [← zKz,Int.natCast_zero,List.nil_append] at h1;simp only [Bool.not_true,bF,if_false,if_true,specDeps6 P hb hv,specInsts P hv,zKc (progI P).length (by omega),h1,oB,oS,oP,id]
theorem gdraw_l1:∀ (m:Nat) (o:List Int) (x:zO),0 ≤ x.p→x.p + 20 * (m:Int) ≤ 900000000→o.length + m ≤ 1000→Ok (M.spec_DrawGreedyOrder_l1 o (m:Int) x) (fun _=>True)
  | 0,o,x,h0,h1,ho=>by
    rw [M.spec_DrawGreedyOrder_l1]
    exact ⟨o,rfl,trivial⟩
  | m + 1,o,x,h0,h1,ho=>by
    rw [M.spec_DrawGreedyOrder_l1]
    have hc:((m + 1:Nat):Int) > 0:=by omega
    rw [if_pos (by simp)]
    refine Ok.call (uN x _) ⟨by decide,h0,by omega,by decide⟩ fun y s g1 g2 g3=>Ok.app (by show (_ + 1) * 8 ≤ _; omega) ?_
    rw [show W (((m + 1:Nat):Int) - 1)=(m:Int) by rw [sT (by omega) (by omega)]; omega]
    exact gdraw_l1 m _ s (by omega) (by omega) (by rw [List.length_append]; simp; omega)
theorem drawGr (code:List UInt8):Ok (M.spec_DrawGreedyOrder code) (fun y=>BG y.1):=by
  unfold M.spec_DrawGreedyOrder;refine Ok.call (zKK code) trivial fun s hs=>Ok.call (zK9 s) ⟨by omega,by omega⟩ fun a t g1 g2 g3=>?_;refine Ok.bind (mut4 t a g1.dp (by omega) (by omega)) fun p hp=>?_;obtain ⟨P,r⟩:=p;have h0:0 ≤ r.p:=hp.2.1;have h1:r.p ≤ 700001000:=hp.2.2;refine Ok.call (uN r _) ⟨by decide,h0,by omega,by decide⟩ fun y s2 g1 g2 g3=>?_;obtain ⟨m,hm⟩:∃ m:Nat,y=(m:Int)∧m ≤ 5:=by
    simp only [List.mem_cons,List.mem_nil_iff,or_false] at g1;exact ⟨y.toNat,by omega,by omega⟩
  rw [hm.1];exact Ok.bind (gdraw_l1 m [] s2 (by omega) (by omega) (by simp; omega)) fun o _=>Ok.pure hp.1.1
theorem law_GreedyOrder (code:List UInt8):∃ r,M.laws_FnGreedyOrder code=some r∧r=true:=by
  obtain ⟨⟨P,cs⟩,hy,hb⟩:=drawGr code;dsimp only at hb;unfold M.laws_FnGreedyOrder;refine ⟨true,?_,rfl⟩;by_cases h1:(code.length:Int) > 1048576
  · simp [h1]
  · have hgl:(grF P cs).length ≤ 120:=by
      unfold grF;split
      · rename_i hv;have hlen:=(kR hv).2.2.2;rw [(grd_ok zJx depA_lt cs _ 0 _ (cntU_rep _)).2.2.1]; exact hlen
      · simp
    have hr:=ints_refl (grF P cs) (by omega);simp only [h1,decide_false,bF,if_false,hy,implGr P hb,specGr P hb,implValidP P hb,hr,Bool.not_true,oP,oB,oS,id];cases hv:validP P with
    | false=>simp only [Bool.not_false,if_true]
    | true =>
      have hlen:=(kR hv).2.2.2;have e1:∀ c,grF P c=grd (depA P 0 (progI P).length) (progI P).length c (progI P).length 0 (fun _=>false):=fun c=>by unfold grF; rw [hv]; rfl
      obtain ⟨k1,k2,k3,k4⟩:=grd_ok (zJx (P:=P)) depA_lt cs _ 0 _ (cntU_rep (progI P).length);have hp:permB (progI P).length (grF P cs)=true:=by
        rw [e1];exact (zIJ _ _).2 ⟨⟨fun x hx=>⟨(k1 x hx).1,(k1 x hx).2.1⟩,k2⟩,k3⟩
      have hbr:brF P (grF P cs)=none:=by
        unfold brF;rw [List.find?_eq_none];intro d hd;have e3:dpF P=depA P 0 (progI P).length:=by unfold dpF; rw [hv]; rfl
        rw [e3] at hd;obtain ⟨i,k,f1,f2,f3,f4⟩:=zJx d hd;obtain ⟨b,hb2,q2⟩:=perm_has hp f4;have q2':(grd (depA P 0 (progI P).length) (progI P).length cs (progI P).length 0 fun _=>false)[b]?=some d.To:=by rw [← e1,List.getElem?_eq_getElem hb2,q2,f2]
        rcases k4 d hd b q2' with h | ⟨a,h,q1⟩
        · cases h
        · rw [← e1] at q1;obtain ⟨ha,q1⟩:=List.getElem?_eq_some_iff.1 q1;have nd:(grF P cs).Nodup:=by rw [e1]; exact k2
          have g0:∀ x ∈ grF P cs,0 ≤ x:=by rw [e1]; exact fun x hx=>(k1 x hx).1
          have g3:=zKe (grF P cs) 0 (fun _=>0) nd g0 a ha;have g4:=zKe (grF P cs) 0 (fun _=>0) nd g0 b hb2;rw [q1] at g3;rw [q2,← f2] at g4;unfold brk plo;rw [g3,g4,decide_eq_true_eq];omega
      have e2:grF P []=(List.range' 0 (progI P).length).map fun (x:Nat)=>(x:Int):=by
        rw [e1,← grd_id depA_lt _ 0 (Nat.zero_add _)]
        congr 1
      have hl:M.laws_FnGreedyOrder_l1 ((List.range' 0 (progI P).length).map fun (x:Nat)=>(x:Int)) 0=some (.done ()):=by
        have h:=jW (n:=(progI P).length) (f:=M.laws_FnGreedyOrder_l1 ((List.range' 0 (progI P).length).map fun (x:Nat)=>(x:Int))) (P:=fun _=>true) (fun i hi=>by
          rw [M.laws_FnGreedyOrder_l1];have a1:((i:Int) < ((((List.range' 0 (progI P).length).map fun (x:Nat)=>(x:Int)).length:Nat):Int)):=by rw [List.length_map,List.length_range']; omega
          have a2:idx ((List.range' 0 (progI P).length).map fun (x:Nat)=>(x:Int)) (i:Int)=some (i:Int):=by
            rw [yT (by rw [List.length_map,List.length_range']; exact hi)];simp
          simp only [a1,decide_true,if_true,a2,bne_self_eq_false,bF,if_false,oB,oS];rw [vR (by omega)]) (by
          rw [M.laws_FnGreedyOrder_l1];have a1:¬(((progI P).length:Int) < ((((List.range' 0 (progI P).length).map fun (x:Nat)=>(x:Int)).length:Nat):Int)):=by rw [List.length_map,List.length_range']; omega
          simp only [a1,decide_false,bF,if_false,oP])
        rw [h];have:((List.range (progI P).length).all fun _=>true)=true:=by simp
        simp [this]
      have hlg:(grF P cs).length=(progI P).length:=by rw [e1]; exact k3
      rw [e2];simp only [Bool.not_true,bF,if_false,hl,implLegal P hb _ (show (grF P cs).length ≤ 1048576 by omega),hv,hp,hbr,Option.isNone_none,Bool.and_self,if_true,hlg,List.length_map,List.length_range',beq_self_eq_true,oS]
end Go.LN
