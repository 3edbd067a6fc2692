/- Helper of the proof (see the last text). -/
import Derived.Test.YtknadcjnkbdpdaaGreatHM4
set_option linter.unusedVariables false
set_option linter.unusedSimpArgs false
namespace Go.LN
open Go.Proofs
set_option maxRecDepth 20000
def zBt (b0:Nat) (r:(List Int)×zJ):KT:=fun kk I' hs' v=>
  ∃ v0 k0,hs'=[.blk b0 ⟨k0⟩]∧v=tupV [v0]∧SL I' v0 r.1∧Rp.rep I' k0 r.2
def rI (out:List Int) (i:Int) (x:zJ):Option ((List Int×zJ)):=do
 if (decide (i > 0)) then
  let (y4,y5)←yR x ([0,1,2,(-1),3,50,9999]:List Int)
  let out2←app 8 out ([y4]:List Int)
  rI out2 (W (i - 1)) y5
 else
  pure (out,x)
 partial_fixpoint
theorem zBE :∀ (out:List Int) (i:Int) (x:zJ) (o:(List Int×zJ)),rI out i x=some o→∀ {B}{I0 I:Imm}{Q}  {r01:Nat}{p2 c2 cs p3 c3},I0.le I→(RL I cs out)→(S4 I p3 x.b c3)→NG Q→NO Q→(∀ (I':Imm) (out1:List Int) (x1:zJ) (p4:Option Addr) (c4:Nat) (cs1:List Value) (p5:Option Addr) (c5:Nat),o=(out1,x1)→I0.le I'→(RL I' cs1 out1)→(S4 I' p5 x1.b c5)→T 29 B Q (.exit 0) I' [hB r01 (cRd x1 p5 c5),hO Int (vS p4 out1 c4) cs1] [(0,vP r01 0),(3,vS p4 out1 c4)])→J Tryz.prog 29 B (nav (bodyOf Tryz.f89) [1,1,0,1,0]) Q I [hB r01 (cRd x p3 c3),hO Int (vS p2 out c2) cs] [(0,vP r01 0),(3,vS p2 out c2),(4,vI i)]:=by
 refine rI.partial_correctness  _ fun self ih out i x o N B I0 I Q r01 p2 c2 cs p3 c3 H h7 h8 hg ho hx=>xD hg ho<|yK<|yI [(10,.bool (decide (i > 0)))]<|zE<|yO N ?_ ?_
 · intro hc N;refine zZ<|yL<|zX<|zR<|yG 2 [] [(13,vS p2 out c2),(14,vP r01 0)]<|xW [vI 0,vI 1,vI 2,vI (-1),vI 3,vI 50,vI 9999] Int ?_;intro b2 hb2;have h11:RL I [vI 0,vI 1,vI 2,vI (-1),vI 3,vI 50,vI 9999] ([0,1,2,(-1),3,50,9999]:List Int):=⟨[vI 0],_,rfl,rfl,rfl,⟨[vI 1],_,rfl,rfl,rfl,⟨[vI 2],_,rfl,rfl,rfl,⟨[vI (-1)],_,rfl,rfl,rfl,⟨[vI 3],_,rfl,rfl,rfl,⟨[vI 50],_,rfl,rfl,rfl,⟨[vI 9999],_,rfl,rfl,rfl,rfl⟩⟩⟩⟩⟩⟩⟩;refine yJ 0 rfl ?_;intro I02 le2 hl01;have h12:=SL.of_frozen hl01 le2 h11;have h7:=iM le2 h7;have h8:=h8.mono le2;have H:=H.trans le2;obtain ⟨⟨y4,y5⟩,hy1,N⟩:=zC N;refine tF [hB r01 (cRd x p3 c3)] [hO Int (vS p2 out c2) cs] (yW x ([0,1,2,(-1),3,50,9999]:List Int) _ hy1 h8 h12) ?_;rintro I03 hs2 v2 k2 le3 - ⟨v02,kk1,rfl,rfl,rfl,h14⟩ -;have h7:=iM le3 h7;have H:=H.trans le3;obtain ⟨p6,c6,rfl,h15⟩:=yE h14;refine xW [vI y4] Int ?_;intro b3 hb3;have h16:RL I03 [vI y4] ([y4]:List Int):=⟨[vI y4],_,rfl,rfl,rfl,rfl⟩;obtain ⟨out2,hy2,N⟩:=zC N;exact qZ 3 1 2 rfl rfl rfl h7 (.inr ⟨0,rfl⟩) h16 hy2 fun p7 c7 cs2 h17=>rP (yH [1,2] (hs':=[hB r01 (cRd y5 p6 c6),hO Int (vS p7 out2 c7) cs2]))<|yF [] [(3,vS p7 out2 c7)]<|zU<|zE<|zR<|yF [] [(4,vI (W (i - 1)))]<|xE<|vM [(0,vP r01 0),(3,vS p7 out2 c7),(4,vI (W (i - 1)))]<|ih out2 (W (i - 1)) y5 _ N H h17 h15 hg ho hx
 intro hc N;exact xC<|zO<|zO<|yV [(0,vP r01 0),(3,vS p2 out c2)]<|hx _ _ _ _ _ _ _ _ (zB N).symm H h7 h8
def mN (r0:zJ):Option ((List Int)×zJ):=do
 let (y1,y2)←yR r0 ([2,4,3,1,0]:List Int)
 let (out1,x1)←rI ([]:List Int) y1 y2
 let (y7,y8)←yT x1 30
 let (out3,x2)←(do
   if (y7 == 0) then
    let (y10,y11)←yR y8 ([10000,(-10000),9223372036854775807]:List Int)
    let out4←app 8 out1 ([y10,0]:List Int)
    pure (out4,y11)
   else
    pure (out1,y8)
     : Option (List Int×zJ))
 pure (out3,x2)
theorem zCr:∀ r0 r,mN r0=some r→∀ {I:Imm}{r01:Nat}{p c},(S4 I p r0.b c)→Ret Tryz.prog 89 [vP r01 0] I [hB r01 (cRd r0 p c)] (zBt r01 r):=by
 intro r0 r N I r01 p c h;unfold mN at N;refine yB (fn:=Tryz.f89) (c:=(bodyOf Tryz.f89)) Tryz.func89 rfl rfl ?_;rintro B - -;have H:=iS I;refine yI []<|xP<|xW [] Int ?_;intro b hb;have h1:RL I [] ([]:List Int):=rfl;refine yF [] [(3,vS (some ⟨b,0,none⟩) ([]:List Int) 0)]<|yL<|yM<|yG 1 [] [(6,vP r01 0)]<|xW [vI 2,vI 4,vI 3,vI 1,vI 0] Int ?_;intro b1 hb1;have h2:RL I [vI 2,vI 4,vI 3,vI 1,vI 0] ([2,4,3,1,0]:List Int):=⟨[vI 2],_,rfl,rfl,rfl,⟨[vI 4],_,rfl,rfl,rfl,⟨[vI 3],_,rfl,rfl,rfl,⟨[vI 1],_,rfl,rfl,rfl,⟨[vI 0],_,rfl,rfl,rfl,rfl⟩⟩⟩⟩⟩;refine yJ 0 rfl ?_;intro I0 le hl0;have h3:=SL.of_frozen hl0 le h2;have h1:=iM le h1;have h:=h.mono le;have H:=H.trans le;refine rP (yH [1,0] (hs':=[hB r01 (cRd r0 p c),hO Int (vS (some ⟨b,0,none⟩) ([]:List Int) 0) []])) ?_;obtain ⟨⟨y1,y2⟩,hy,N⟩:=zC N;refine tF [hB r01 (cRd r0 p c)] [hO Int (vS (some ⟨b,0,none⟩) ([]:List Int) 0) []] (yW r0 ([2,4,3,1,0]:List Int) _ hy h h3) ?_;rintro I01 hs2 v2 k2 le1 - ⟨v0,kk,rfl,rfl,rfl,h5⟩ -;have h1:=iM le1 h1;have H:=H.trans le1;obtain ⟨p1,c1,rfl,h6⟩:=yE h5;refine yF [] [(4,vI y1)]<|zE<|zX<|vM [(0,vP r01 0),(3,vS (some ⟨b,0,none⟩) ([]:List Int) 0),(4,vI y1)] ?_;obtain ⟨o0,ho0,hMl⟩:=zC N;refine zBE ([]:List Int) y1 y2 o0 ho0 iR h1 h6 (fun _ _ _ h=>h) (fun _ _ h=>h) ?_;intro I04 out1 x1 p4 c4 cs1 p5 c5 heq le4 h9 h10;subst o0;have H:=H.trans le4;refine zY<|yL<|yM<|yG 1 [] [(19,vP r01 0)] ?_;obtain ⟨⟨y7,y8⟩,hy3,N⟩:=zC hMl;refine tF [hB r01 (cRd x1 p5 c5)] [hO Int (vS p4 out1 c4) cs1] (xG x1 30 _ hy3 h10) ?_;rintro I05 hs2 v2 k2 le5 - ⟨v04,kk2,rfl,rfl,rfl,h19⟩ -;have h9:=iM le5 h9;have H:=H.trans le5;obtain ⟨p8,c8,rfl,h20⟩:=yE h19;refine yF [] [(21,.bool (y7 == 0))]<|zE ?_;obtain ⟨o01,ho01,hMc⟩:=zC N;refine yU (fun I' hs' m'=>∃ (out3:List Int) (x2:zJ) (p9:Option Addr) (c9:Nat) (cs3:List Value) (p10:Option Addr) (c10:Nat),o01=(out3,x2)∧I05.le I'∧(RL I' cs3 out3)∧(S4 I' p10 x2.b c10)∧hs'=[hB r01 (cRd x2 p10 c10),hO Int (vS p9 out3 c9) cs3]∧m'=[(3,vS p9 out3 c9)]) ?_ ?_
 · have H:=iS I05;refine yO ho01 ?_ ?_
   · intro hc1 N;refine zR<|yG 2 [] [(22,vS p4 out1 c4),(23,vP r01 0)]<|xW [vI 10000,vI (-10000),vI 9223372036854775807] Int ?_;intro b4 hb4;have h23:RL I05 [vI 10000,vI (-10000),vI 9223372036854775807] ([10000,(-10000),9223372036854775807]:List Int):=⟨[vI 10000],_,rfl,rfl,rfl,⟨[vI (-10000)],_,rfl,rfl,rfl,⟨[vI 9223372036854775807],_,rfl,rfl,rfl,rfl⟩⟩⟩;refine yJ 0 rfl ?_;intro I07 le6 hl02;have h24:=SL.of_frozen hl02 le6 h23;have h9:=iM le6 h9;have h20:=h20.mono le6;have H:=H.trans le6;obtain ⟨⟨y10,y11⟩,hy4,N⟩:=zC N;refine tF [hB r01 (cRd y8 p8 c8)] [hO Int (vS p4 out1 c4) cs1] (yW y8 ([10000,(-10000),9223372036854775807]:List Int) _ hy4 h20 h24) ?_;rintro I08 hs2 v2 k2 le7 - ⟨v06,kk3,rfl,rfl,rfl,h26⟩ -;have h9:=iM le7 h9;have H:=H.trans le7;obtain ⟨p11,c11,rfl,h27⟩:=yE h26;refine xW [vI y10,vI 0] Int ?_;intro b5 hb5;have h28:RL I08 [vI y10,vI 0] ([y10,0]:List Int):=⟨[vI y10],_,rfl,rfl,rfl,⟨[vI 0],_,rfl,rfl,rfl,rfl⟩⟩;obtain ⟨out4,hy5,N⟩:=zC N;exact qZ 3 1 2 rfl rfl rfl h9 (.inr ⟨0,rfl⟩) h28 hy5 fun p12 c12 cs4 h29=>rP (yH [1,2] (hs':=[hB r01 (cRd y11 p11 c11),hO Int (vS p12 out4 c12) cs4]))<|yF [] [(3,vS p12 out4 c12)]<|yV [(3,vS p12 out4 c12)]<|zV ⟨_,_,_,_,_,_,_,(zB N).symm,H,h29,h27,rfl,rfl⟩
   intro hc1 N;exact zZ<|yV [(3,vS p4 out1 c4)]<|zV ⟨_,_,_,_,_,_,_,(zB N).symm,H,h9,h20,rfl,rfl⟩
 rintro I06 hs2 m2 ⟨out3,x2,p9,c9,cs3,p10,c10,heq1,le8,h21,h22,rfl,rfl⟩;subst o01;refine vO [(2,vS p9 out3 c9)]<|zE<|yC<|xO 1 rfl ?_;intro I09 le9 hl03;have h30:=SL.of_frozen hl03 le9 h21;have h22:=h22.mono le9;obtain rfl:=zB hMc;exact xM ⟨_,_,(.tmp rfl ResV.nil),(yD [0] rfl (by decide)),⟨_,_,rfl,rfl,h30,(yS ⟨_,rfl,h22⟩)⟩⟩
def zCs (b0:Nat) (r:zM×zJ):KT:=fun kk I' hs' v=>
  ∃ v0 k0,hs'=[.blk b0 ⟨k0⟩]∧v=tupV [v0]∧(∃ cs,v0=.agg ⟨cs⟩∧Rp.rep I' cs r.1)∧Rp.rep I' k0 r.2
def jU (r0:zJ) (p1:zS):Option (zM×zJ):=do
 let y←sS p1
 let (t15,x)←(do
   if (decide ((y.length:Int) > 0)) then
    let (y2,y3)←yT r0 6
    pure ((decide (y2 > 0)),y3)
   else
    pure (false,r0)
     : Option (Bool×zJ))
 if t15 then
  let (y5,y6)←yT x (y.length:Int)
  let x1←idx y y5
  pure (x1,y6)
 else
  let (y8,y9)←yR x ([0,1,(-1),5]:List Int)
  let (y11,y12)←yR y9 ([0,1,(-1),9]:List Int)
  let (y14,y15)←mN y12
  pure ((zM.mk y8 y11 y14),y15)
theorem zHn:∀ r0 p1 r,jU r0 p1=some r→∀ {I:Imm}{r01:Nat}{p c p2 c1 p3 c2},(S4 I p r0.b c)→(S4 I p2 p1.Arrays c1)→(S4 I p3 p1.Parts c2)→Ret Tryz.prog 39 [vP r01 0,vA (cProg p1 p2 c1 p3 c2)] I [hB r01 (cRd r0 p c)] (zCs r01 r):=by
 intro r0 p1 r N I r01 p c p2 c1 p3 c2 h h1 h2;unfold jU at N;refine yB (fn:=Tryz.f39) (c:=(bodyOf Tryz.f39)) Tryz.func39 rfl rfl ?_;rintro B - -;have H:=iS I;refine yM<|tD (cProg p1 p2 c1 p3 c2) ?_;intro b hb;refine uK [vI 0,vI 0,z0] ?_;intro b1 hb1;refine yN rfl<|xP<|yG 1 [1] [(6,vA (cProg p1 p2 c1 p3 c2))]<|bE N fun y hy N=>xX (fM p1 _ hy h1 h2) ?_;rintro I0 hs2 v2 k2 le - ⟨v0,rfl,rfl,h3⟩ -;have h:=h.mono le;have H:=H.trans le;obtain ⟨p4,c3,rfl⟩:=h3.form;refine yF [] [(5,vS p4 y c3)]<|yL<|yK ?_;obtain ⟨o0,ho0,hMc⟩:=zC N;refine yU (fun I' hs' m'=>∃ (t15:Bool) (x:zJ) (p5:Option Addr) (c4:Nat),o0=(t15,x)∧I0.le I'∧(S4 I' p5 x.b c4)∧hs'=[hB b1 [vI 0,vI 0,z0],hB r01 (cRd x p5 c4)]∧m'=[(0,vP r01 0),(4,vP b1 0),(5,vS p4 y c3),(15,.bool t15)]) ?_ ?_
 · have H:=iS I0;refine zR<|yG 4 [] [(11,.bool (decide ((y.length:Int) > 0)))] ?_;cases hc:(decide ((y.length:Int) > 0)) with
   | true =>
    have hM0:=zQ hc ho0
    try rw [hc]
    refine yG 5 [] [(12,vP r01 0)]<|rP (yH [2,0,1] (hs':=[hB r01 (cRd r0 p c),hB b1 [vI 0,vI 0,z0],hB b (cProg p1 p2 c1 p3 c2)])) ?_;obtain ⟨⟨y2,y3⟩,hy1,N⟩:=zC hM0;refine tF [hB r01 (cRd r0 p c)] [hB b1 [vI 0,vI 0,z0],hB b (cProg p1 p2 c1 p3 c2)] (xG r0 6 _ hy1 h) ?_;rintro I02 hs2 v2 k2 le1 - ⟨v01,kk,rfl,rfl,rfl,h6⟩ -;have H:=H.trans le1;obtain ⟨p6,c5,rfl,h7⟩:=yE h6;exact yF [] [(15,.bool (decide (y2 > 0)))]<|wB (yD [1,0] rfl (by decide))<|yV [(0,vP r01 0),(4,vP b1 0),(5,vS p4 y c3),(15,.bool (decide (y2 > 0)))]<|zV ⟨_,_,_,_,(zB N).symm,H,h7,rfl,rfl⟩
   | false =>
    have hM01:=zN hc ho0
    try rw [hc]
    exact yF [] [(15,vF)]<|wB (yD [0,2] rfl (by decide))<|yV [(0,vP r01 0),(4,vP b1 0),(5,vS p4 y c3),(15,vF)]<|zV ⟨_,_,_,_,(zB hM01).symm,H,h,rfl,rfl⟩
 rintro I01 hs2 m2 ⟨t15,x,p5,c4,heq,le2,h4,rfl,rfl⟩;subst o0;have h3:=h3.mono le2;refine zE<|yO hMc ?_ ?_
 · intro hc1 N;refine yM<|yG 4 [] [(16,vS p4 y c3),(17,vP r01 0),(19,vI (y.length:Int))]<|rP (yH [1,0] (hs':=[hB r01 (cRd x p5 c4),hB b1 [vI 0,vI 0,z0]])) ?_;obtain ⟨⟨y5,y6⟩,hy2,N⟩:=zC N;refine tF [hB r01 (cRd x p5 c4)] [hB b1 [vI 0,vI 0,z0]] (xG x (y.length:Int) _ hy2 h4) ?_;rintro I03 hs2 v2 k2 le3 - ⟨v03,kk1,rfl,rfl,rfl,h9⟩ -;have h3:=h3.mono le3;obtain ⟨p7,c6,rfl,h10⟩:=yE h9;obtain ⟨x1,hy3,N⟩:=zC N;refine wD rfl rfl h3 hy3 ?_;intro ad ccs hat hrep;obtain ⟨p8,c7,rfl,h11⟩:=zCL hrep;refine xT 0 hat (cInst x1 p8 c7) (vA (cInst x1 p8 c7)) rfl<|xN 1 (cInst x1 p8 c7) [hB r01 (cRd y6 p7 c6),hB b1 (cInst x1 p8 c7)] rfl rfl rfl rfl<|yN rfl<|zE<|yC<|zK ?_;obtain rfl:=zB N;exact xM ⟨_,_,(.cell 1 rfl rfl (by kernel_rfl) ResV.nil),(yD [0] rfl (by decide)),⟨_,_,rfl,rfl,⟨_,rfl,(nN ⟨_,rfl,h11⟩)⟩,(yS ⟨_,rfl,h10⟩)⟩⟩
 intro hc1 N;refine zZ<|xP<|yG 1 [] [(23,vP r01 0)]<|xW [vI 0,vI 1,vI (-1),vI 5] Int ?_;intro b2 hb2;have h12:RL I01 [vI 0,vI 1,vI (-1),vI 5] ([0,1,(-1),5]:List Int):=⟨[vI 0],_,rfl,rfl,rfl,⟨[vI 1],_,rfl,rfl,rfl,⟨[vI (-1)],_,rfl,rfl,rfl,⟨[vI 5],_,rfl,rfl,rfl,rfl⟩⟩⟩⟩;refine yJ 0 rfl ?_;intro I04 le4 hl0;have h13:=SL.of_frozen hl0 le4 h12;have h4:=h4.mono le4;refine rP (yH [1,0] (hs':=[hB r01 (cRd x p5 c4),hB b1 [vI 0,vI 0,z0]])) ?_;obtain ⟨⟨y8,y9⟩,hy4,N⟩:=zC N;refine tF [hB r01 (cRd x p5 c4)] [hB b1 [vI 0,vI 0,z0]] (yW x ([0,1,(-1),5]:List Int) _ hy4 h4 h13) ?_;rintro I05 hs2 v2 k2 le5 - ⟨v06,kk2,rfl,rfl,rfl,h15⟩ -;obtain ⟨p9,c8,rfl,h16⟩:=yE h15;refine yG 4 [] [(26,vP r01 0)]<|xW [vI 0,vI 1,vI (-1),vI 9] Int ?_;intro b3 hb3;have h17:RL I05 [vI 0,vI 1,vI (-1),vI 9] ([0,1,(-1),9]:List Int):=⟨[vI 0],_,rfl,rfl,rfl,⟨[vI 1],_,rfl,rfl,rfl,⟨[vI (-1)],_,rfl,rfl,rfl,⟨[vI 9],_,rfl,rfl,rfl,rfl⟩⟩⟩⟩;refine yJ 0 rfl ?_;intro I06 le6 hl01;have h18:=SL.of_frozen hl01 le6 h17;have h16:=h16.mono le6;obtain ⟨⟨y11,y12⟩,hy5,N⟩:=zC N;refine tF [hB r01 (cRd y9 p9 c8)] [hB b1 [vI 0,vI 0,z0]] (yW y9 ([0,1,(-1),9]:List Int) _ hy5 h16 h18) ?_;rintro I07 hs2 v2 k2 le7 - ⟨v08,kk3,rfl,rfl,rfl,h20⟩ -;obtain ⟨p10,c9,rfl,h21⟩:=yE h20;refine yG 7 [] [(29,vP r01 0)] ?_;obtain ⟨⟨y14,y15⟩,hy6,N⟩:=zC N;refine tF [hB r01 (cRd y12 p10 c9)] [hB b1 [vI 0,vI 0,z0]] (zCr y12 _ hy6 h21) ?_;rintro I08 hs2 v2 k2 le8 - ⟨v010,kk4,rfl,rfl,h22,h23⟩ -;obtain ⟨p11,c10,rfl⟩:=h22.form;obtain ⟨p12,c11,rfl,h24⟩:=yE h23;refine yG 9 [] [(31,vA [vI y8,vI y11,vS p11 y14 c10])]<|xN 1 [vI y8,vI y11,vS p11 y14 c10] [hB r01 (cRd y15 p12 c11),hB b1 [vI y8,vI y11,vS p11 y14 c10]] rfl rfl rfl rfl<|yN rfl<|zE<|yC ?_;obtain rfl:=zB N;exact xM ⟨_,_,(.cell 1 rfl rfl (by kernel_rfl) ResV.nil),(yD [0] rfl (by decide)),⟨_,_,rfl,rfl,⟨_,rfl,(nN ⟨_,rfl,h22⟩)⟩,(yS ⟨_,rfl,h24⟩)⟩⟩
def nL (hsF:List HA) (r:Int):KT:=fun kk I' hs' v=>
  ∃ v0,hsF=hs'∧v=tupV [v0]∧v0=.int .i64 r
def wC (s:(List Int)) (f0:(Int→Option Bool)) (t8:Int):Option (Out Unit (Int)):=do
 if (decide (t8 < (s.length:Int))) then
  let x←idx s t8
  let y←f0 x
  if y then
   pure (.ret t8)
  else
   wC s f0 (W (t8 + 1))
 else
  pure (.done ())
 partial_fixpoint
theorem kX (s:(List Int)) (f0:(Int→Option Bool)):∀ (t8:Int) (o:Out Unit (Int)),wC s f0 t8=some o→∀ {B}{I0 I:Imm}{Q p c}{fv:Value}{hsF:List HA},I0.le I→(S4 I p s c)→(FV1 Tryz.prog I hsF fv f0)→NG Q→NO Q→(∀ (I':Imm) ,o=(.done ())→I0.le I'→T 19 B Q (.exit 0) I' hsF [])→(∀ r I' hs' m',o=(.ret r)→I0.le I'→RS Tryz.prog Tryz.f111 B (nL hsF r) I' hs' m'→T 19 B Q .ret I' hs' m')→J Tryz.prog 19 B (nav (bodyOf Tryz.f111) [1,0,1,0]) Q I hsF [(0,vS p s c),(1,fv),(7,vI (s.length:Int)),(8,vI t8)]:=by
 refine wC.partial_correctness s f0 _ fun self ih t8 o N B I0 I Q p c fv hsF H h h1 hg ho hx hr=>xD hg ho<|yI [(9,.bool (decide (t8 < (s.length:Int))))]<|yL<|yO N ?_ ?_
 · intro hc N;refine zZ<|yL<|zX<|yI [(5,vI t8)]<|xP<|yG 3 [] [(11,fv),(12,vS p s c),(13,vI t8)]<|bE N fun x hy N=>wD rfl rfl h hy ?_;intro ad ccs hat hrep;obtain rfl:=hrep;refine xT 0 hat [vI x] (vI x) rfl<|bE N fun y hy1 N=>zGR rfl rfl h1 hy1 rfl (List.append_nil _).symm ?_;rintro I0 v0 le rfl;refine uY (hs':=hsF) (List.append_nil _) ?_;have h:=h.mono le;have h1:=h1.mono le;have H:=H.trans le;refine yN rfl<|zE<|yO N ?_ ?_
   · intro hc1 N;exact yI [(4,vI t8)]<|zE<|yC<|yA<|zK<|zK<|hr _ _ _ _ (zB N).symm H ⟨_,_,(.tmp rfl ResV.nil),(fun _ h=>h),⟨_,rfl,rfl,rfl⟩⟩
   intro hc1 N;exact zZ<|zU<|zE<|zR<|yF [] [(8,vI (W (t8 + 1)))]<|xE<|vM [(0,vS p s c),(1,fv),(7,vI (s.length:Int)),(8,vI (W (t8 + 1)))]<|ih (W (t8 + 1)) _ N H h h1 hg ho hx hr
 intro hc N;exact xC<|zO<|zO<|yV []<|hx _  (zB N).symm H
def rJ (s:(List Int)) (f0:(Int→Option Bool)):Option (Int):=do
 match←wC s f0 0 with
 | .ret r0=>pure r0
 | .done _ =>
  pure (-1)
theorem jV:∀ s f0 r,rJ s f0=some r→∀ {I:Imm}{p c}{fv:Value}{hsF:List HA},(S4 I p s c)→(FV1 Tryz.prog I hsF fv f0)→Ret Tryz.prog 111 [vS p s c,fv] I hsF (nL hsF r):=by
 intro s f0 r N I p c fv hsF h h1;unfold rJ at N;refine yB (fn:=Tryz.f111) (c:=(bodyOf Tryz.f111)) Tryz.func111 rfl rfl ?_;rintro B - -;refine yI []<|yL<|yI [(7,vI (s.length:Int)),(8,vI 0)]<|zE<|zX<|vM [(0,vS p s c),(1,fv),(7,vI (s.length:Int)),(8,vI 0)] ?_;obtain ⟨o0,ho0,hMl⟩:=zC N;refine kX s f0 0 o0 ho0 iR h h1 (fun _ _ _ h=>h) (fun _ _ h=>h) ?_ ?_
 · intro I01  heq le1;subst o0;refine zY<|vO [(4,vI (-1))]<|zE<|yC ?_;obtain rfl:=zB hMl;exact xM ⟨_,_,(.tmp rfl ResV.nil),(fun _ h=>h),⟨_,rfl,rfl,rfl⟩⟩
 intro r0 I9 hs9 m9 heq9 le9 hrs9;subst heq9;refine yA<|zK ?_;obtain rfl:=zB hMl;exact xM hrs9
def kO (hsF:List HA) (r:Bool):KT:=fun kk I' hs' v=>
  ∃ v0,hsF=hs'∧v=tupV [v0]∧v0=.bool r
def xI (s:(List Int)) (f0:(Int→Option Bool)):Option (Bool):=do
 let y←rJ s f0
 pure (decide (y ≥ 0))
theorem tU:∀ s f0 r,xI s f0=some r→∀ {I:Imm}{p c}{fv:Value}{hsF:List HA},(S4 I p s c)→(FV1 Tryz.prog I hsF fv f0)→Ret Tryz.prog 58 [vS p s c,fv] I hsF (kO hsF r):=by
 intro s f0 r N I p c fv hsF h h1;unfold xI at N;refine yB (fn:=Tryz.f58) (c:=(bodyOf Tryz.f58)) Tryz.func58 rfl rfl ?_;rintro B - -;refine yI []<|xP<|yG 2 [] [(5,vS p s c),(6,fv)]<|bE N fun y hy N=>zCD (hs1:=hsF) (rest:=[]) rfl rfl rfl rfl (by kernel_rfl) rfl (List.append_nil _).symm (jV s f0 _ hy h h1) ?_;rintro I0 hs2 v2 k2 le - ⟨v0,rfl,rfl,rfl⟩ -;refine uY (hs':=hsF) (List.append_nil _) ?_;refine yF [] [(4,.bool (decide (y ≥ 0)))]<|zE<|yC ?_;obtain rfl:=zB N;exact xM ⟨_,_,(.tmp rfl ResV.nil),(fun _ h=>h),⟨_,rfl,rfl,rfl⟩⟩
def xV (n0:Int) (low:Int) (high:Int):Option (Bool):=do
 let t6←(do
   if (decide (low ≤ n0)) then
    pure (decide (n0 ≤ high))
   else
    pure false
     : Option Bool)
 pure (id t6)
theorem xR:∀ n0 low high r,xV n0 low high=some r→∀ {I:Imm} ,Ret Tryz.prog 68 [vI n0,vI low,vI high] I [] (zW  r):=by
 intro n0 low high r N I;unfold xV at N;refine yB (fn:=Tryz.f68) (c:=(bodyOf Tryz.f68)) Tryz.func68 rfl rfl ?_;rintro B - -;have H:=iS I;refine yI []<|zE<|yK ?_;obtain ⟨o0,ho0,hMc⟩:=zC N;refine yU (fun I' hs' m'=>∃ (t6:Bool),o0=t6∧I.le I'∧hs'=[]∧m'=[(6,.bool t6)]) ?_ ?_
 · have H:=iS I;refine zR<|yG 4 [] [(10,.bool (decide (low ≤ n0)))] ?_;cases hc:(decide (low ≤ n0)) with
   | true =>
    have hM0:=zQ hc ho0
    try rw [hc]
    exact yF [] [(6,.bool (decide (n0 ≤ high)))]<|yV [(6,.bool (decide (n0 ≤ high)))]<|zV ⟨_,(zB hM0).symm,H,rfl,rfl⟩
   | false =>
    have hM01:=zN hc ho0
    try rw [hc]
    exact yF [] [(6,vF)]<|yV [(6,vF)]<|zV ⟨_,(zB hM01).symm,H,rfl,rfl⟩
 rintro I0 hs2 m2 ⟨t6,heq,le,rfl,rfl⟩;subst o0;refine zE<|yC ?_;obtain rfl:=zB hMc;exact vQ
def qI (n0:Int):Option (Bool):=do
 let y←xV n0 (-9999) 9999
 pure (!y)
theorem zBu:∀ n0 r,qI n0=some r→∀ {I:Imm} ,Ret Tryz.prog 108 [vI n0] I [] (zW  r):=by
 intro n0 r N I;unfold qI at N;refine yB (fn:=Tryz.f108) (c:=(bodyOf Tryz.f108)) Tryz.func108 rfl rfl ?_;rintro B - -;refine yI []<|xP<|yG 1 [] [(3,vI n0)]<|bE N fun y hy N=>vL (xR n0 (-9999) 9999 _ hy ) fun I0 le=>yF [] [(2,.bool (!y))]<|zE<|yC ?_;obtain rfl:=zB N;exact vQ
def nE (point:(List Int)):Option (Bool):=do
 let t2←(do
   if (decide ((point.length:Int) ≤ 4)) then
    let y←xI point qI
    pure (!y)
   else
    pure false
     : Option Bool)
 pure (id t2)
theorem dJ:∀ point r,nE point=some r→∀ {I:Imm}{p c},(S4 I p point c)→Ret Tryz.prog 55 [vS p point c] I [] (zW  r):=by
 intro point r N I p c h;unfold nE at N;refine yB (fn:=Tryz.f55) (c:=(bodyOf Tryz.f55)) Tryz.func55 rfl rfl ?_;rintro B - -;have H:=iS I;refine yI []<|zE<|yK ?_;obtain ⟨o0,ho0,hMc⟩:=zC N;refine yU (fun I' hs' m'=>∃ (t2:Bool),o0=t2∧I.le I'∧hs'=[]∧m'=[(2,.bool t2)]) ?_ ?_
 · have H:=iS I;refine zR<|yG 4 [] [(6,.bool (decide ((point.length:Int) ≤ 4)))] ?_;cases hc:(decide ((point.length:Int) ≤ 4)) with
   | true =>
    have hM0:=zQ hc ho0
    try rw [hc]
    refine yG 5 [] [(7,vS p point c)] ?_;have hf0:FV1 Tryz.prog I [] (.func (.func 108) ⟨[]⟩ ⟨[]⟩) qI:=by
      refine FV1.intro ?_;intro I1 le1 x0 r u0 hF k0;obtain rfl:=k0;exact (zBu x0 r hF ).mono (by rintro k i hs u ⟨v0,rfl,rfl,h⟩; exact ⟨rfl,h⟩)
    obtain ⟨y,hy,N⟩:=zC hM0;refine xX (tU point qI _ hy h hf0) ?_;rintro I01 hs2 v2 k2 le - ⟨v0,rfl,rfl,rfl⟩ -;have H:=H.trans le;exact yF [] [(2,.bool (!y))]<|yV [(2,.bool (!y))]<|zV ⟨_,(zB N).symm,H,rfl,rfl⟩
   | false =>
    have hM01:=zN hc ho0
    try rw [hc]
    exact yF [] [(2,vF)]<|yV [(2,vF)]<|zV ⟨_,(zB hM01).symm,H,rfl,rfl⟩
 rintro I0 hs2 m2 ⟨t2,heq,le1,rfl,rfl⟩;subst o0;refine zE<|yC ?_;obtain rfl:=zB hMc;exact vQ
def nQ (s:Str) (substr:Str):Option Bool:=match substr.l with | [c]=>some (decide (0 ≤ Lib.indexByte s.l c)) | _=>none
theorem zAb:∀ (s substr:Str) r,nQ s substr=some r→∀ {I:Imm},Ret Tryz.prog 150 [vT s.l,vT substr.l] I [] (zW r):=by
 intro s substr r N I;unfold nQ at N;split at N
 · rename_i c hc;cases N
   rw [hc];exact zGf (fun w g=>(Tryz.strings_Contains_one ⟨⟨s.l⟩⟩ c w).mono fun e w' ⟨h1,h2⟩=>⟨h1,h2 ▸ RowKit.Below.refl _ _⟩) fun k=>⟨_,rfl,rfl,rfl⟩
 cases N
def nF (s:Str):Option (Bool):=do
 let t2←(do
   if ((s.l.length:Int) == 1) then
    let y←nQ (⟨[65,66,67,68]⟩:Str) s
    pure (id y)
   else
    pure false
     : Option Bool)
 pure (id t2)
theorem qX:∀ s r,nF s=some r→∀ {I:Imm} ,Ret Tryz.prog 103 [vT s.l] I [] (zW  r):=by
 intro s r N I;unfold nF at N;refine yB (fn:=Tryz.f103) (c:=(bodyOf Tryz.f103)) Tryz.func103 rfl rfl ?_;rintro B - -;have H:=iS I;refine yI []<|zE<|yK ?_;obtain ⟨o0,ho0,hMc⟩:=zC N;refine yU (fun I' hs' m'=>∃ (t2:Bool),o0=t2∧I.le I'∧hs'=[]∧m'=[(2,.bool t2)]) ?_ ?_
 · have H:=iS I;refine zR<|yG 4 [] [(6,.bool ((s.l.length:Int) == 1))] ?_;cases hc:((s.l.length:Int) == 1) with
   | true =>
    have hM0:=zQ hc ho0
    try rw [hc]
    refine yG 5 [] [(7,vT s.l)] ?_;obtain ⟨y,hy,N⟩:=zC hM0;refine vL (zAb (⟨[65,66,67,68]⟩:Str) s _ hy ) ?_;intro I01 le;have H:=H.trans le;exact yF [] [(2,.bool y)]<|yV [(2,.bool y)]<|zV ⟨_,(zB N).symm,H,rfl,rfl⟩
   | false =>
    have hM01:=zN hc ho0
    try rw [hc]
    exact yF [] [(2,vF)]<|yV [(2,vF)]<|zV ⟨_,(zB hM01).symm,H,rfl,rfl⟩
 rintro I0 hs2 m2 ⟨t2,heq,le1,rfl,rfl⟩;subst o0;refine zE<|yC ?_;obtain rfl:=zB hMc;exact vQ
def uJ (n0:Int):Option (Bool):=do
 let y←xV n0 1 6
 pure (!y)
theorem gJ:∀ n0 r,uJ n0=some r→∀ {I:Imm} ,Ret Tryz.prog 159 [vI n0] I [] (zW  r):=by
 intro n0 r N I;unfold uJ at N;refine yB (fn:=Tryz.f159) (c:=(bodyOf Tryz.f159)) Tryz.func159 rfl rfl ?_;rintro B - -;refine yI []<|xP<|yG 1 [] [(3,vI n0)]<|bE N fun y hy N=>vL (xR n0 1 6 _ hy ) fun I0 le=>yF [] [(2,.bool (!y))]<|zE<|yC ?_;obtain rfl:=zB N;exact vQ
def sN (list:(List zG)) (t7:Int):Option (Out Unit (Bool)):=do
 if (decide (t7 < (list.length:Int))) then
  let x←idx list t7
  let t42←(do
    let y←nF x.Name
    if (!y) then
     pure true
    else
     if (decide (t7 > 0)) then
      let x1←idx list (W (t7 - 1))
      if (!(Op.bytesLess x1.Name.l x.Name.l)) then
       pure true
      else
       let y1←xV (x.Dims.length:Int) 1 2
       if (!y1) then
        pure true
       else
        let y2←xI x.Dims uJ
        pure (id y2)
     else
      let y3←xV (x.Dims.length:Int) 1 2
      if (!y3) then
       pure true
      else
       let y4←xI x.Dims uJ
       pure (id y4)
      : Option Bool)
  if t42 then
   pure (.ret false)
  else
   sN list (W (t7 + 1))
 else
  pure (.done ())
 partial_fixpoint
theorem zAc (list:(List zG)):∀ (t7:Int) (o:Out Unit (Bool)),sN list t7=some o→∀ {B}{I0 I:Imm}{Q p c},I0.le I→(S4 I p list c)→NG Q→NO Q→(∀ (I':Imm) ,o=(.done ())→I0.le I'→T 47 B Q (.exit 0) I' [] [(0,vS p list c)])→(∀ r I' hs' m',o=(.ret r)→I0.le I'→RS Tryz.prog Tryz.f116 B (zW  r) I' hs' m'→T 47 B Q .ret I' hs' m')→J Tryz.prog 47 B (nav (bodyOf Tryz.f116) [1,0,1,0]) Q I [] [(0,vS p list c),(5,vS p list c),(6,vI (list.length:Int)),(7,vI t7)]:=by
 refine sN.partial_correctness list _ fun self ih t7 o N B I0 I Q p c H h hg ho hx hr=>xD hg ho<|yI [(8,.bool (decide (t7 < (list.length:Int))))]<|yL<|yO N ?_ ?_
 · intro hc N;refine zZ<|yL<|zX<|yM<|yG 1 [] [(9,vI t7)]<|bE N fun x hy N=>wD rfl rfl h hy ?_;intro ad ccs hat hrep;obtain ⟨p1,c1,rfl,h1⟩:=vE hrep;refine xT 0 hat (cArr x p1 c1) (vA (cArr x p1 c1)) rfl<|uK [vT ([]),z0] ?_;intro b hb;refine yG 5 [] [(3,vI t7)]<|xN 0 (cArr x p1 c1) [hB b (cArr x p1 c1)] rfl rfl rfl rfl<|yN rfl<|zE<|yK ?_;obtain ⟨o0,ho0,hMc⟩:=zC N;refine yU (fun I' hs' m'=>∃ (t42:Bool),o0=t42∧I.le I'∧hs'=[]∧m'=[(0,vS p list c),(5,vS p list c),(6,vI (list.length:Int)),(7,vI t7),(42,.bool t42)]) ?_ ?_
   · have H:=iS I;obtain ⟨y,hy1,N⟩:=zC ho0;cases hc1:(!y) with
     | true =>
      have hM0:=zQ hc1 N;refine vK [.p (vP b 0) [],.p (vT x.Name.l) [0],.q (.bool y),.q vY,.q vY,.p undef [],.p undef [],.p undef [],.p undef [],.p undef [],.p undef [],.p undef [],.p undef [],.p undef [],.p undef [],.p undef [],.p undef [],.p undef [],.p vY [],.p vY [],.p undef [],.p undef [],.p undef [],.p undef [],.p undef [],.p vY [],.p vY [],.p undef [],.p undef [],.p undef [],.p vY []] [[],[(0,false)],[(1,false)],[(2,false)],[(3,false)],[(4,false)],[(4,false),(5,false)],[(4,false),(6,false)],[(7,false)],[(7,false)],[(7,false),(9,false)],[(7,false),(8,false),(10,false)],[(7,false),(11,false)],[(7,false),(12,false)],[(7,false)],[(7,false),(14,false)],[(7,false),(13,false),(15,false)],[(4,false),(7,false),(16,false)],[(4,false),(17,false)],[(18,false)],[(19,false)],[(19,false),(20,false)],[(19,false),(21,false)],[(19,false),(22,false)],[(19,false),(23,false)],[(19,false),(24,false)],[(25,false)],[(26,false)],[(26,false),(27,false)],[(26,false),(28,false)],[(26,false),(29,false)]] [hB b (cArr x p1 c1)] [] [(30,false)] (yH [0]) ?_ ?_
      · refine Op<|Op<|Oq ?_<|Oq ?_<|Oq ?_<|Op<|Op<|Op<|Op<|Op<|Op<|Op<|Op<|Op<|Op<|Op<|Op<|Op<|Op<|Op<|Op<|Op<|Op<|Op<|Op<|Op<|Op<|Op<|Op<|Op<|Op<|On
        · intro I1 hf le1;refine yX [(13,vT x.Name.l)] ?_;have H:=iS I1;refine vL (qX x.Name _ hy1 ) ?_;intro I01 le;have H:=H.trans le;exact xJ H
        · intro I1 hf le1;refine yX [(14,.bool y)]<|qO 4 [(15,.bool (!y))] ?_;rw [hc1];exact xJ iR
        intro I1 hf le1;exact yX [(15,vY)]<|qO 5 [(16,vY)]<|xJ iR
      intro I02 le1;refine yX [(0,vS p list c),(5,vS p list c),(6,vI (list.length:Int)),(7,vI t7),(42,vY)] ?_;have H:=H.trans le1;exact yN rfl<|wB zT<|yV [(0,vS p list c),(5,vS p list c),(6,vI (list.length:Int)),(7,vI t7),(42,vY)]<|zV ⟨_,(zB hM0).symm,H,rfl,rfl⟩
     | false =>
      have hM01:=zN hc1 N;cases hc2:(decide (t7 > 0)) with
      | true =>
       have hM02:=zQ hc2 hM01;obtain ⟨x1,hy2,N⟩:=zC hM02;cases hc3:(!(Op.bytesLess x1.Name.l x.Name.l)) with
       | true =>
        have hM03:=zQ hc3 N;refine vK [.p (vP b 0) [],.p (vT x.Name.l) [0],.q (.bool y),.q vF,.q vF,.p (vI t7) [],.q vY,.q vY,.p (vS p list c) [],.p (vI t7) [],.p (vI (W (t7 - 1))) [],.x (fun I' v hx=>∃ ad1 p2 c2,v=.pointer (some ad1)∧hx=[]∧(At I' ad1 (cArr x1 p2 c2))∧(S4 I' p2 x1.Dims c2)),.x (fun I' v hx=>∃ ad11 p21 c21,v=.pointer (some ad11)∧hx=[]∧(At I' ad11 (cArr x1 p21 c21))∧(S4 I' p21 x1.Dims c21)),.q (vT x1.Name.l),.p (vP b 0) [],.p (vT x.Name.l) [0],.q vY,.q vY,.q vY,.q vY,.p undef [],.p undef [],.p undef [],.p undef [],.p undef [],.p vY [],.p vY [],.p undef [],.p undef [],.p undef [],.p vY []] [[],[(0,false)],[(1,false)],[(2,false)],[(3,false)],[(4,false)],[(4,false),(5,false)],[(4,false),(6,false)],[(7,false)],[(7,false)],[(7,false),(9,false)],[(7,false),(8,false),(10,false)],[(7,false),(11,false)],[(7,false),(12,false)],[(7,false)],[(7,false),(14,false)],[(7,false),(13,false),(15,false)],[(4,false),(7,false),(16,false)],[(4,false),(17,false)],[(18,false)],[(19,false)],[(19,false),(20,false)],[(19,false),(21,false)],[(19,false),(22,false)],[(19,false),(23,false)],[(19,false),(24,false)],[(25,false)],[(26,false)],[(26,false),(27,false)],[(26,false),(28,false)],[(26,false),(29,false)]] [hB b (cArr x p1 c1)] [] [(30,false)] (yH [0]) ?_ ?_
        · refine Op<|Op<|Oq ?_<|Oq ?_<|Oq ?_<|Op<|Oq ?_<|Oq ?_<|Op<|Op<|Op<|Ox ?_<|Ox ?_<|Oq ?_<|Op<|Op<|Oq ?_<|Oq ?_<|Oq ?_<|Oq ?_<|Op<|Op<|Op<|Op<|Op<|Op<|Op<|Op<|Op<|Op<|Op<|On
          · intro I1 hf le1;refine yX [(13,vT x.Name.l)] ?_;have H:=iS I1;refine vL (qX x.Name _ hy1 ) ?_;intro I01 le;have H:=H.trans le;exact xJ H
          · intro I1 hf le1;refine yX [(14,.bool y)]<|qO 4 [(15,.bool (!y))] ?_;rw [hc1];exact xJ iR
          · intro I1 hf le1;exact yX [(15,vF)]<|qO 5 [(16,vF)]<|xJ iR
          · intro I1 hf le1;refine yX [(16,vF),(17,vI t7)]<|qO 7 [(18,.bool (decide (t7 > 0)))] ?_;rw [hc2];exact xJ iR
          · intro I1 hf le1;exact yX [(16,vF),(18,vY)]<|qO 8 [(19,vY)]<|xJ iR
          · intro I1 hf le1;refine yX [(19,vY),(20,vS p list c),(22,vI (W (t7 - 1)))] ?_;have h:=h.mono le1;refine wD rfl rfl h hy2 ?_;intro ad1 ccs1 hat1 hrep1;obtain ⟨p2,c2,rfl,h3⟩:=vE hrep1;exact yY [] iR ⟨_,_,_,rfl,rfl,hat1,h3⟩
          · intro I1 hf le1;refine zH ?_;rintro _ _ ⟨rfl,rfl⟩;refine zH ?_;rintro _ _ ⟨ad1,p2,c2,rfl,rfl,hat1,h3⟩;exact yX [(19,vY),(23,.pointer (some ad1))]<|qO 13 [(24,.pointer (some ad1))]<|yY [] iR ⟨_,_,_,rfl,rfl,hat1,h3⟩
          · intro I1 hf le1;refine zH ?_;rintro _ _ ⟨rfl,rfl⟩;refine zH ?_;rintro _ _ ⟨ad11,p21,c21,rfl,rfl,hat11,h31⟩;exact yX [(19,vY),(24,.pointer (some ad11))]<|xT 0 hat11 [vT x1.Name.l] (vT x1.Name.l) rfl<|xJ iR
          · intro I1 hf le1;refine yX [(19,vY),(25,vT x1.Name.l),(27,vT x.Name.l)]<|qO 17 [(28,.bool (!(Op.bytesLess x1.Name.l x.Name.l)))] ?_;rw [hc3];exact xJ iR
          · intro I1 hf le1;exact yX [(16,vF),(19,vY),(28,vY)]<|qO 18 [(29,vY)]<|xJ iR
          · intro I1 hf le1;exact yX [(16,vF),(29,vY)]<|qO 19 [(30,vY)]<|xJ iR
          intro I1 hf le1;exact yX [(30,vY)]<|qO 20 [(31,vY)]<|xJ iR
        intro I03 le2;refine yX [(0,vS p list c),(5,vS p list c),(6,vI (list.length:Int)),(7,vI t7),(42,vY)] ?_;have H:=H.trans le2;exact yN rfl<|wB zT<|yV [(0,vS p list c),(5,vS p list c),(6,vI (list.length:Int)),(7,vI t7),(42,vY)]<|zV ⟨_,(zB hM03).symm,H,rfl,rfl⟩
       | false =>
        have hM04:=zN hc3 N;obtain ⟨y1,hy3,N⟩:=zC hM04;cases hc4:(!y1) with
        | true =>
         have hM05:=zQ hc4 N;refine vK [.p (vP b 0) [],.p (vT x.Name.l) [0],.q (.bool y),.q vF,.q vF,.p (vI t7) [],.q vY,.q vY,.p (vS p list c) [],.p (vI t7) [],.p (vI (W (t7 - 1))) [],.x (fun I' v hx=>∃ ad1 p2 c2,v=.pointer (some ad1)∧hx=[]∧(At I' ad1 (cArr x1 p2 c2))∧(S4 I' p2 x1.Dims c2)),.x (fun I' v hx=>∃ ad11 p21 c21,v=.pointer (some ad11)∧hx=[]∧(At I' ad11 (cArr x1 p21 c21))∧(S4 I' p21 x1.Dims c21)),.q (vT x1.Name.l),.p (vP b 0) [],.p (vT x.Name.l) [0],.q vF,.q vF,.q vF,.q vF,.p (vP b 1) [],.p (vS p1 x.Dims c1) [0],.p (vI (x.Dims.length:Int)) [],.q (.bool y1),.q vY,.q vY,.q vY,.p undef [],.p undef [],.p undef [],.p vY []] [[],[(0,false)],[(1,false)],[(2,false)],[(3,false)],[(4,false)],[(4,false),(5,false)],[(4,false),(6,false)],[(7,false)],[(7,false)],[(7,false),(9,false)],[(7,false),(8,false),(10,false)],[(7,false),(11,false)],[(7,false),(12,false)],[(7,false)],[(7,false),(14,false)],[(7,false),(13,false),(15,false)],[(4,false),(7,false),(16,false)],[(4,false),(17,false)],[(18,false)],[(19,false)],[(19,false),(20,false)],[(19,false),(21,false)],[(19,false),(22,false)],[(19,false),(23,false)],[(19,false),(24,false)],[(25,false)],[(26,false)],[(26,false),(27,false)],[(26,false),(28,false)],[(26,false),(29,false)]] [hB b (cArr x p1 c1)] [] [(30,false)] (yH [0]) ?_ ?_
         · refine Op<|Op<|Oq ?_<|Oq ?_<|Oq ?_<|Op<|Oq ?_<|Oq ?_<|Op<|Op<|Op<|Ox ?_<|Ox ?_<|Oq ?_<|Op<|Op<|Oq ?_<|Oq ?_<|Oq ?_<|Oq ?_<|Op<|Op<|Op<|Oq ?_<|Oq ?_<|Oq ?_<|Oq ?_<|Op<|Op<|Op<|Op<|On
           · intro I1 hf le1;refine yX [(13,vT x.Name.l)] ?_;have H:=iS I1;refine vL (qX x.Name _ hy1 ) ?_;intro I01 le;have H:=H.trans le;exact xJ H
           · intro I1 hf le1;refine yX [(14,.bool y)]<|qO 4 [(15,.bool (!y))] ?_;rw [hc1];exact xJ iR
           · intro I1 hf le1;exact yX [(15,vF)]<|qO 5 [(16,vF)]<|xJ iR
           · intro I1 hf le1;refine yX [(16,vF),(17,vI t7)]<|qO 7 [(18,.bool (decide (t7 > 0)))] ?_;rw [hc2];exact xJ iR
           · intro I1 hf le1;exact yX [(16,vF),(18,vY)]<|qO 8 [(19,vY)]<|xJ iR
           · intro I1 hf le1;refine yX [(19,vY),(20,vS p list c),(22,vI (W (t7 - 1)))] ?_;have h:=h.mono le1;refine wD rfl rfl h hy2 ?_;intro ad1 ccs1 hat1 hrep1;obtain ⟨p2,c2,rfl,h3⟩:=vE hrep1;exact yY [] iR ⟨_,_,_,rfl,rfl,hat1,h3⟩
           · intro I1 hf le1;refine zH ?_;rintro _ _ ⟨rfl,rfl⟩;refine zH ?_;rintro _ _ ⟨ad1,p2,c2,rfl,rfl,hat1,h3⟩;exact yX [(19,vY),(23,.pointer (some ad1))]<|qO 13 [(24,.pointer (some ad1))]<|yY [] iR ⟨_,_,_,rfl,rfl,hat1,h3⟩
           · intro I1 hf le1;refine zH ?_;rintro _ _ ⟨rfl,rfl⟩;refine zH ?_;rintro _ _ ⟨ad11,p21,c21,rfl,rfl,hat11,h31⟩;exact yX [(19,vY),(24,.pointer (some ad11))]<|xT 0 hat11 [vT x1.Name.l] (vT x1.Name.l) rfl<|xJ iR
           · intro I1 hf le1;refine yX [(19,vY),(25,vT x1.Name.l),(27,vT x.Name.l)]<|qO 17 [(28,.bool (!(Op.bytesLess x1.Name.l x.Name.l)))] ?_;rw [hc3];exact xJ iR
           · intro I1 hf le1;exact yX [(16,vF),(19,vY),(28,vF)]<|qO 18 [(29,vF)]<|xJ iR
           · intro I1 hf le1;exact yX [(16,vF),(29,vF)]<|qO 19 [(30,vF)]<|xJ iR
           · intro I1 hf le1;exact yX [(30,vF)]<|qO 20 [(31,vF)]<|xJ iR
           · intro I1 hf le1;refine yX [(31,vF),(34,vI (x.Dims.length:Int))] ?_;have H:=iS I1;refine vL (xR (x.Dims.length:Int) 1 2 _ hy3 ) ?_;intro I04 le3;have H:=H.trans le3;exact xJ H
           · intro I1 hf le1;refine yX [(31,vF),(35,.bool y1)]<|qO 25 [(36,.bool (!y1))] ?_;rw [hc4];exact xJ iR
           · intro I1 hf le1;exact yX [(31,vF),(36,vY)]<|qO 26 [(37,vY)]<|xJ iR
           intro I1 hf le1;exact yX [(37,vY)]<|qO 27 [(38,vY)]<|xJ iR
         intro I05 le4;refine yX [(0,vS p list c),(5,vS p list c),(6,vI (list.length:Int)),(7,vI t7),(42,vY)] ?_;have H:=H.trans le4;exact yN rfl<|wB zT<|yV [(0,vS p list c),(5,vS p list c),(6,vI (list.length:Int)),(7,vI t7),(42,vY)]<|zV ⟨_,(zB hM05).symm,H,rfl,rfl⟩
        | false =>
         have hM06:=zN hc4 N;obtain ⟨y2,hy4,N⟩:=zC hM06;refine vK [.p (vP b 0) [],.p (vT x.Name.l) [0],.q (.bool y),.q vF,.q vF,.p (vI t7) [],.q vY,.q vY,.p (vS p list c) [],.p (vI t7) [],.p (vI (W (t7 - 1))) [],.x (fun I' v hx=>∃ ad1 p2 c2,v=.pointer (some ad1)∧hx=[]∧(At I' ad1 (cArr x1 p2 c2))∧(S4 I' p2 x1.Dims c2)),.x (fun I' v hx=>∃ ad11 p21 c21,v=.pointer (some ad11)∧hx=[]∧(At I' ad11 (cArr x1 p21 c21))∧(S4 I' p21 x1.Dims c21)),.q (vT x1.Name.l),.p (vP b 0) [],.p (vT x.Name.l) [0],.q vF,.q vF,.q vF,.q vF,.p (vP b 1) [],.p (vS p1 x.Dims c1) [0],.p (vI (x.Dims.length:Int)) [],.q (.bool y1),.q vF,.q vF,.q vF,.p (vP b 1) [],.p (vS p1 x.Dims c1) [0],.q (.bool y2),.p (.bool y2) []] [[],[(0,false)],[(1,false)],[(2,false)],[(3,false)],[(4,false)],[(4,false),(5,false)],[(4,false),(6,false)],[(7,false)],[(7,false)],[(7,false),(9,false)],[(7,false),(8,false),(10,false)],[(7,false),(11,false)],[(7,false),(12,false)],[(7,false)],[(7,false),(14,false)],[(7,false),(13,false),(15,false)],[(4,false),(7,false),(16,false)],[(4,false),(17,false)],[(18,false)],[(19,false)],[(19,false),(20,false)],[(19,false),(21,false)],[(19,false),(22,false)],[(19,false),(23,false)],[(19,false),(24,false)],[(25,false)],[(26,false)],[(26,false),(27,false)],[(26,false),(28,false)],[(26,false),(29,false)]] [hB b (cArr x p1 c1)] [] [(30,false)] (yH [0]) ?_ ?_
         · refine Op<|Op<|Oq ?_<|Oq ?_<|Oq ?_<|Op<|Oq ?_<|Oq ?_<|Op<|Op<|Op<|Ox ?_<|Ox ?_<|Oq ?_<|Op<|Op<|Oq ?_<|Oq ?_<|Oq ?_<|Oq ?_<|Op<|Op<|Op<|Oq ?_<|Oq ?_<|Oq ?_<|Oq ?_<|Op<|Op<|Oq ?_<|Op<|On
           · intro I1 hf le1;refine yX [(13,vT x.Name.l)] ?_;have H:=iS I1;refine vL (qX x.Name _ hy1 ) ?_;intro I01 le;have H:=H.trans le;exact xJ H
           · intro I1 hf le1;refine yX [(14,.bool y)]<|qO 4 [(15,.bool (!y))] ?_;rw [hc1];exact xJ iR
           · intro I1 hf le1;exact yX [(15,vF)]<|qO 5 [(16,vF)]<|xJ iR
           · intro I1 hf le1;refine yX [(16,vF),(17,vI t7)]<|qO 7 [(18,.bool (decide (t7 > 0)))] ?_;rw [hc2];exact xJ iR
           · intro I1 hf le1;exact yX [(16,vF),(18,vY)]<|qO 8 [(19,vY)]<|xJ iR
           · intro I1 hf le1;refine yX [(19,vY),(20,vS p list c),(22,vI (W (t7 - 1)))] ?_;have h:=h.mono le1;refine wD rfl rfl h hy2 ?_;intro ad1 ccs1 hat1 hrep1;obtain ⟨p2,c2,rfl,h3⟩:=vE hrep1;exact yY [] iR ⟨_,_,_,rfl,rfl,hat1,h3⟩
           · intro I1 hf le1;refine zH ?_;rintro _ _ ⟨rfl,rfl⟩;refine zH ?_;rintro _ _ ⟨ad1,p2,c2,rfl,rfl,hat1,h3⟩;exact yX [(19,vY),(23,.pointer (some ad1))]<|qO 13 [(24,.pointer (some ad1))]<|yY [] iR ⟨_,_,_,rfl,rfl,hat1,h3⟩
           · intro I1 hf le1;refine zH ?_;rintro _ _ ⟨rfl,rfl⟩;refine zH ?_;rintro _ _ ⟨ad11,p21,c21,rfl,rfl,hat11,h31⟩;exact yX [(19,vY),(24,.pointer (some ad11))]<|xT 0 hat11 [vT x1.Name.l] (vT x1.Name.l) rfl<|xJ iR
           · intro I1 hf le1;refine yX [(19,vY),(25,vT x1.Name.l),(27,vT x.Name.l)]<|qO 17 [(28,.bool (!(Op.bytesLess x1.Name.l x.Name.l)))] ?_;rw [hc3];exact xJ iR
           · intro I1 hf le1;exact yX [(16,vF),(19,vY),(28,vF)]<|qO 18 [(29,vF)]<|xJ iR
           · intro I1 hf le1;exact yX [(16,vF),(29,vF)]<|qO 19 [(30,vF)]<|xJ iR
           · intro I1 hf le1;exact yX [(30,vF)]<|qO 20 [(31,vF)]<|xJ iR
           · intro I1 hf le1;refine yX [(31,vF),(34,vI (x.Dims.length:Int))] ?_;have H:=iS I1;refine vL (xR (x.Dims.length:Int) 1 2 _ hy3 ) ?_;intro I04 le3;have H:=H.trans le3;exact xJ H
           · intro I1 hf le1;refine yX [(31,vF),(35,.bool y1)]<|qO 25 [(36,.bool (!y1))] ?_;rw [hc4];exact xJ iR
           · intro I1 hf le1;exact yX [(31,vF),(36,vF)]<|qO 26 [(37,vF)]<|xJ iR
           · intro I1 hf le1;exact yX [(37,vF)]<|qO 27 [(38,vF)]<|xJ iR
           intro I1 hf le1;refine yX [(38,vF),(40,vS p1 x.Dims c1)] ?_;have H:=iS I1;have h:=h.mono le1;have h1:=h1.mono le1;have hf0:FV1 Tryz.prog I1 [] (.func (.func 159) ⟨[]⟩ ⟨[]⟩) uJ:=by
             refine FV1.intro ?_;intro I1 le1 x0 r u0 hF k0;obtain rfl:=k0;exact (gJ x0 r hF ).mono (by rintro k i hs u ⟨v0,rfl,rfl,h⟩; exact ⟨rfl,h⟩)
           refine xX (tU x.Dims uJ _ hy4 h1 hf0) ?_;rintro I06 hs2 v2 k2 le5 - ⟨v04,rfl,rfl,rfl⟩ -;have H:=H.trans le5;exact xJ H
         intro I07 le6;refine yX [(0,vS p list c),(5,vS p list c),(6,vI (list.length:Int)),(7,vI t7),(42,.bool y2)] ?_;have H:=H.trans le6;exact yN rfl<|wB zT<|yV [(0,vS p list c),(5,vS p list c),(6,vI (list.length:Int)),(7,vI t7),(42,.bool y2)]<|zV ⟨_,(zB N).symm,H,rfl,rfl⟩
      | false =>
       have hM07:=zN hc2 hM01;obtain ⟨y3,hy5,N⟩:=zC hM07;cases hc5:(!y3) with
       | true =>
        have hM08:=zQ hc5 N;refine vK [.p (vP b 0) [],.p (vT x.Name.l) [0],.q (.bool y),.q vF,.q vF,.p (vI t7) [],.q vF,.q vF,.p undef [],.p undef [],.p undef [],.p undef [],.p undef [],.p undef [],.p undef [],.p undef [],.p undef [],.p vF [],.p vF [],.p vF [],.p (vP b 1) [],.p (vS p1 x.Dims c1) [0],.p (vI (x.Dims.length:Int)) [],.q (.bool y3),.q vY,.q vY,.q vY,.p undef [],.p undef [],.p undef [],.p vY []] [[],[(0,false)],[(1,false)],[(2,false)],[(3,false)],[(4,false)],[(4,false),(5,false)],[(4,false),(6,false)],[(7,false)],[(7,false)],[(7,false),(9,false)],[(7,false),(8,false),(10,false)],[(7,false),(11,false)],[(7,false),(12,false)],[(7,false)],[(7,false),(14,false)],[(7,false),(13,false),(15,false)],[(4,false),(7,false),(16,false)],[(4,false),(17,false)],[(18,false)],[(19,false)],[(19,false),(20,false)],[(19,false),(21,false)],[(19,false),(22,false)],[(19,false),(23,false)],[(19,false),(24,false)],[(25,false)],[(26,false)],[(26,false),(27,false)],[(26,false),(28,false)],[(26,false),(29,false)]] [hB b (cArr x p1 c1)] [] [(30,false)] (yH [0]) ?_ ?_
        · refine Op<|Op<|Oq ?_<|Oq ?_<|Oq ?_<|Op<|Oq ?_<|Oq ?_<|Op<|Op<|Op<|Op<|Op<|Op<|Op<|Op<|Op<|Op<|Op<|Op<|Op<|Op<|Op<|Oq ?_<|Oq ?_<|Oq ?_<|Oq ?_<|Op<|Op<|Op<|Op<|On
          · intro I1 hf le1;refine yX [(13,vT x.Name.l)] ?_;have H:=iS I1;refine vL (qX x.Name _ hy1 ) ?_;intro I01 le;have H:=H.trans le;exact xJ H
          · intro I1 hf le1;refine yX [(14,.bool y)]<|qO 4 [(15,.bool (!y))] ?_;rw [hc1];exact xJ iR
          · intro I1 hf le1;exact yX [(15,vF)]<|qO 5 [(16,vF)]<|xJ iR
          · intro I1 hf le1;refine yX [(16,vF),(17,vI t7)]<|qO 7 [(18,.bool (decide (t7 > 0)))] ?_;rw [hc2];exact xJ iR
          · intro I1 hf le1;exact yX [(16,vF),(18,vF)]<|qO 8 [(19,vF)]<|xJ iR
          · intro I1 hf le1;refine yX [(31,vF),(34,vI (x.Dims.length:Int))] ?_;have H:=iS I1;refine vL (xR (x.Dims.length:Int) 1 2 _ hy5 ) ?_;intro I08 le7;have H:=H.trans le7;exact xJ H
          · intro I1 hf le1;refine yX [(31,vF),(35,.bool y3)]<|qO 25 [(36,.bool (!y3))] ?_;rw [hc5];exact xJ iR
          · intro I1 hf le1;exact yX [(31,vF),(36,vY)]<|qO 26 [(37,vY)]<|xJ iR
          intro I1 hf le1;exact yX [(37,vY)]<|qO 27 [(38,vY)]<|xJ iR
        intro I09 le8;refine yX [(0,vS p list c),(5,vS p list c),(6,vI (list.length:Int)),(7,vI t7),(42,vY)] ?_;have H:=H.trans le8;exact yN rfl<|wB zT<|yV [(0,vS p list c),(5,vS p list c),(6,vI (list.length:Int)),(7,vI t7),(42,vY)]<|zV ⟨_,(zB hM08).symm,H,rfl,rfl⟩
       | false =>
        have hM09:=zN hc5 N;obtain ⟨y4,hy6,N⟩:=zC hM09;refine vK [.p (vP b 0) [],.p (vT x.Name.l) [0],.q (.bool y),.q vF,.q vF,.p (vI t7) [],.q vF,.q vF,.p undef [],.p undef [],.p undef [],.p undef [],.p undef [],.p undef [],.p undef [],.p undef [],.p undef [],.p vF [],.p vF [],.p vF [],.p (vP b 1) [],.p (vS p1 x.Dims c1) [0],.p (vI (x.Dims.length:Int)) [],.q (.bool y3),.q vF,.q vF,.q vF,.p (vP b 1) [],.p (vS p1 x.Dims c1) [0],.q (.bool y4),.p (.bool y4) []] [[],[(0,false)],[(1,false)],[(2,false)],[(3,false)],[(4,false)],[(4,false),(5,false)],[(4,false),(6,false)],[(7,false)],[(7,false)],[(7,false),(9,false)],[(7,false),(8,false),(10,false)],[(7,false),(11,false)],[(7,false),(12,false)],[(7,false)],[(7,false),(14,false)],[(7,false),(13,false),(15,false)],[(4,false),(7,false),(16,false)],[(4,false),(17,false)],[(18,false)],[(19,false)],[(19,false),(20,false)],[(19,false),(21,false)],[(19,false),(22,false)],[(19,false),(23,false)],[(19,false),(24,false)],[(25,false)],[(26,false)],[(26,false),(27,false)],[(26,false),(28,false)],[(26,false),(29,false)]] [hB b (cArr x p1 c1)] [] [(30,false)] (yH [0]) ?_ ?_
        · refine Op<|Op<|Oq ?_<|Oq ?_<|Oq ?_<|Op<|Oq ?_<|Oq ?_<|Op<|Op<|Op<|Op<|Op<|Op<|Op<|Op<|Op<|Op<|Op<|Op<|Op<|Op<|Op<|Oq ?_<|Oq ?_<|Oq ?_<|Oq ?_<|Op<|Op<|Oq ?_<|Op<|On
          · intro I1 hf le1;refine yX [(13,vT x.Name.l)] ?_;have H:=iS I1;refine vL (qX x.Name _ hy1 ) ?_;intro I01 le;have H:=H.trans le;exact xJ H
          · intro I1 hf le1;refine yX [(14,.bool y)]<|qO 4 [(15,.bool (!y))] ?_;rw [hc1];exact xJ iR
          · intro I1 hf le1;exact yX [(15,vF)]<|qO 5 [(16,vF)]<|xJ iR
          · intro I1 hf le1;refine yX [(16,vF),(17,vI t7)]<|qO 7 [(18,.bool (decide (t7 > 0)))] ?_;rw [hc2];exact xJ iR
          · intro I1 hf le1;exact yX [(16,vF),(18,vF)]<|qO 8 [(19,vF)]<|xJ iR
          · intro I1 hf le1;refine yX [(31,vF),(34,vI (x.Dims.length:Int))] ?_;have H:=iS I1;refine vL (xR (x.Dims.length:Int) 1 2 _ hy5 ) ?_;intro I08 le7;have H:=H.trans le7;exact xJ H
          · intro I1 hf le1;refine yX [(31,vF),(35,.bool y3)]<|qO 25 [(36,.bool (!y3))] ?_;rw [hc5];exact xJ iR
          · intro I1 hf le1;exact yX [(31,vF),(36,vF)]<|qO 26 [(37,vF)]<|xJ iR
          · intro I1 hf le1;exact yX [(37,vF)]<|qO 27 [(38,vF)]<|xJ iR
          intro I1 hf le1;refine yX [(38,vF),(40,vS p1 x.Dims c1)] ?_;have H:=iS I1;have h:=h.mono le1;have h1:=h1.mono le1;have hf01:FV1 Tryz.prog I1 [] (.func (.func 159) ⟨[]⟩ ⟨[]⟩) uJ:=by
            refine FV1.intro ?_;intro I1 le1 x0 r u0 hF k0;obtain rfl:=k0;exact (gJ x0 r hF ).mono (by rintro k i hs u ⟨v0,rfl,rfl,h⟩; exact ⟨rfl,h⟩)
          refine xX (tU x.Dims uJ _ hy6 h1 hf01) ?_;rintro I010 hs2 v2 k2 le9 - ⟨v06,rfl,rfl,rfl⟩ -;have H:=H.trans le9;exact xJ H
        intro I011 le10;refine yX [(0,vS p list c),(5,vS p list c),(6,vI (list.length:Int)),(7,vI t7),(42,.bool y4)] ?_;have H:=H.trans le10;exact yN rfl<|wB zT<|yV [(0,vS p list c),(5,vS p list c),(6,vI (list.length:Int)),(7,vI t7),(42,.bool y4)]<|zV ⟨_,(zB N).symm,H,rfl,rfl⟩
   rintro I0 hs2 m2 ⟨t42,heq,le11,rfl,rfl⟩;subst o0;have h:=h.mono le11;have H:=H.trans le11;refine zE<|yO hMc ?_ ?_
   · intro hc6 N;exact yI [(2,vF)]<|zE<|yC<|yA<|zK<|zK<|hr _ _ _ _ (zB N).symm H ⟨_,_,(.tmp rfl ResV.nil),zT,⟨_,rfl,rfl,rfl⟩⟩
   intro hc6 N;exact zZ<|zU<|zE<|zR<|yF [] [(7,vI (W (t7 + 1)))]<|xE<|vM [(0,vS p list c),(5,vS p list c),(6,vI (list.length:Int)),(7,vI (W (t7 + 1)))]<|ih (W (t7 + 1)) _ N H h hg ho hx hr
 intro hc N;exact xC<|zO<|zO<|yV [(0,vS p list c)]<|hx _  (zB N).symm H
def nV (list:(List zG)):Option (Bool):=do
 match←sN list 0 with
 | .ret r0=>pure r0
 | .done _ =>
  pure (decide ((list.length:Int) ≤ 4))
theorem zC3:∀ list r,nV list=some r→∀ {I:Imm}{p c},(S4 I p list c)→Ret Tryz.prog 116 [vS p list c] I [] (zW  r):=by
 intro list r N I p c h;unfold nV at N;refine yB (fn:=Tryz.f116) (c:=(bodyOf Tryz.f116)) Tryz.func116 rfl rfl ?_;rintro B - -;refine yI []<|yL<|yI [(5,vS p list c),(6,vI (list.length:Int)),(7,vI 0)]<|zE<|zX<|vM [(0,vS p list c),(5,vS p list c),(6,vI (list.length:Int)),(7,vI 0)] ?_;obtain ⟨o01,ho01,hMl⟩:=zC N;refine zAc list 0 o01 ho01 iR h (fun _ _ _ h=>h) (fun _ _ h=>h) ?_ ?_
 · intro I012  heq1 le12;subst o01;refine zY<|vO [(2,.bool (decide ((list.length:Int) ≤ 4)))]<|zE<|yC ?_;obtain rfl:=zB hMl;exact vQ
 intro r0 I9 hs9 m9 heq9 le9 hrs9;subst heq9;refine yA<|zK ?_;obtain rfl:=zB hMl;exact xM hrs9
def sJ (hsF:List HA) (r:Int):KT:=fun kk I' hs' v=>
  ∃ v0,hsF=hs'∧v=tupV [v0]∧v0=.int .i64 r
def yZ (s:(List zA)) (f0:(zA→Option Bool)) (t8:Int):Option (Out Unit (Int)):=do
 if (decide (t8 < (s.length:Int))) then
  let x←idx s t8
  let y←f0 x
  if y then
   pure (.ret t8)
  else
   yZ s f0 (W (t8 + 1))
 else
  pure (.done ())
 partial_fixpoint
theorem oU (s:(List zA)) (f0:(zA→Option Bool)):∀ (t8:Int) (o:Out Unit (Int)),yZ s f0 t8=some o→∀ {B}{I0 I:Imm}{Q p c}{fv:Value}{hsF:List HA},I0.le I→(S4 I p s c)→(FV1 Tryz.prog I hsF fv f0)→NG Q→NO Q→(∀ (I':Imm) ,o=(.done ())→I0.le I'→T 19 B Q (.exit 0) I' hsF [])→(∀ r I' hs' m',o=(.ret r)→I0.le I'→RS Tryz.prog Tryz.f151 B (sJ hsF r) I' hs' m'→T 19 B Q .ret I' hs' m')→J Tryz.prog 19 B (nav (bodyOf Tryz.f151) [1,0,1,0]) Q I hsF [(0,vS p s c),(1,fv),(7,vI (s.length:Int)),(8,vI t8)]:=by
 refine yZ.partial_correctness s f0 _ fun self ih t8 o N B I0 I Q p c fv hsF H h h1 hg ho hx hr=>xD hg ho<|yI [(9,.bool (decide (t8 < (s.length:Int))))]<|yL<|yO N ?_ ?_
 · intro hc N;refine zZ<|yL<|zX<|yI [(5,vI t8)]<|xP<|yG 3 [] [(11,fv),(12,vS p s c),(13,vI t8)]<|bE N fun x hy N=>wD rfl rfl h hy ?_;intro ad ccs hat hrep;obtain ⟨p1,c1,rfl,h2⟩:=yQ hrep;refine xT 0 hat (cAff x p1 c1) (vA (cAff x p1 c1)) rfl<|bE N fun y hy1 N=>zGR rfl rfl h1 hy1 ⟨_,rfl,(yP ⟨_,rfl,h2⟩)⟩ (List.append_nil _).symm ?_;rintro I0 v01 le rfl;refine uY (hs':=hsF) (List.append_nil _) ?_;have h:=h.mono le;have h1:=h1.mono le;have H:=H.trans le;refine yN rfl<|zE<|yO N ?_ ?_
   · intro hc1 N;exact yI [(4,vI t8)]<|zE<|yC<|yA<|zK<|zK<|hr _ _ _ _ (zB N).symm H ⟨_,_,(.tmp rfl ResV.nil),(fun _ h=>h),⟨_,rfl,rfl,rfl⟩⟩
   intro hc1 N;exact zZ<|zU<|zE<|zR<|yF [] [(8,vI (W (t8 + 1)))]<|xE<|vM [(0,vS p s c),(1,fv),(7,vI (s.length:Int)),(8,vI (W (t8 + 1)))]<|ih (W (t8 + 1)) _ N H h h1 hg ho hx hr
 intro hc N;exact xC<|zO<|zO<|yV []<|hx _  (zB N).symm H
def wL (s:(List zA)) (f0:(zA→Option Bool)):Option (Int):=do
 match←yZ s f0 0 with
 | .ret r0=>pure r0
 | .done _ =>
  pure (-1)
theorem nJ:∀ s f0 r,wL s f0=some r→∀ {I:Imm}{p c}{fv:Value}{hsF:List HA},(S4 I p s c)→(FV1 Tryz.prog I hsF fv f0)→Ret Tryz.prog 151 [vS p s c,fv] I hsF (sJ hsF r):=by
 intro s f0 r N I p c fv hsF h h1;unfold wL at N;refine yB (fn:=Tryz.f151) (c:=(bodyOf Tryz.f151)) Tryz.func151 rfl rfl ?_;rintro B - -;refine yI []<|yL<|yI [(7,vI (s.length:Int)),(8,vI 0)]<|zE<|zX<|vM [(0,vS p s c),(1,fv),(7,vI (s.length:Int)),(8,vI 0)] ?_;obtain ⟨o0,ho0,hMl⟩:=zC N;refine oU s f0 0 o0 ho0 iR h h1 (fun _ _ _ h=>h) (fun _ _ h=>h) ?_ ?_
 · intro I01  heq le1;subst o0;refine zY<|vO [(4,vI (-1))]<|zE<|yC ?_;obtain rfl:=zB hMl;exact xM ⟨_,_,(.tmp rfl ResV.nil),(fun _ h=>h),⟨_,rfl,rfl,rfl⟩⟩
 intro r0 I9 hs9 m9 heq9 le9 hrs9;subst heq9;refine yA<|zK ?_;obtain rfl:=zB hMl;exact xM hrs9
def pW (hsF:List HA) (r:Bool):KT:=fun kk I' hs' v=>
  ∃ v0,hsF=hs'∧v=tupV [v0]∧v0=.bool r
def xH (s:(List zA)) (f0:(zA→Option Bool)):Option (Bool):=do
 let y←wL s f0
 pure (decide (y ≥ 0))
theorem sH:∀ s f0 r,xH s f0=some r→∀ {I:Imm}{p c}{fv:Value}{hsF:List HA},(S4 I p s c)→(FV1 Tryz.prog I hsF fv f0)→Ret Tryz.prog 104 [vS p s c,fv] I hsF (pW hsF r):=by
 intro s f0 r N I p c fv hsF h h1;unfold xH at N;refine yB (fn:=Tryz.f104) (c:=(bodyOf Tryz.f104)) Tryz.func104 rfl rfl ?_;rintro B - -;refine yI []<|xP<|yG 2 [] [(5,vS p s c),(6,fv)]<|bE N fun y hy N=>zCD (hs1:=hsF) (rest:=[]) rfl rfl rfl rfl (by kernel_rfl) rfl (List.append_nil _).symm (nJ s f0 _ hy h h1) ?_;rintro I0 hs2 v2 k2 le - ⟨v0,rfl,rfl,rfl⟩ -;refine uY (hs':=hsF) (List.append_nil _) ?_;refine yF [] [(4,.bool (decide (y ≥ 0)))]<|zE<|yC ?_;obtain rfl:=zB N;exact xM ⟨_,_,(.tmp rfl ResV.nil),(fun _ h=>h),⟨_,rfl,rfl,rfl⟩⟩
def kP (n0:Int):Option (Bool):=do
 let y←xV n0 (-99) 99
 pure (id y)
theorem zCt:∀ n0 r,kP n0=some r→∀ {I:Imm} ,Ret Tryz.prog 60 [vI n0] I [] (zW  r):=by
 intro n0 r N I;unfold kP at N;refine yB (fn:=Tryz.f60) (c:=(bodyOf Tryz.f60)) Tryz.func60 rfl rfl ?_;rintro B - -;refine yI []<|xP<|yG 1 [] [(3,vI n0)]<|bE N fun y hy N=>vL (xR n0 (-99) 99 _ hy ) fun I0 le=>yF [] [(2,.bool y)]<|zE<|yC ?_;obtain rfl:=zB N;exact vQ
def tJ (c:Int):Option (Bool):=do
 let y←xV c (-9) 9
 pure (!y)
theorem dQ:∀ c r,tJ c=some r→∀ {I:Imm} ,Ret Tryz.prog 152 [vI c] I [] (zW  r):=by
 intro c r N I;unfold tJ at N;refine yB (fn:=Tryz.f152) (c:=(bodyOf Tryz.f152)) Tryz.func152 rfl rfl ?_;rintro B - -;refine yI []<|xP<|yG 1 [] [(3,vI c)]<|bE N fun y hy N=>vL (xR c (-9) 9 _ hy ) fun I0 le=>yF [] [(2,.bool (!y))]<|zE<|yC ?_;obtain rfl:=zB N;exact vQ
def sO (a0:zA):Option (Bool):=do
 let t2←(do
   if ((a0.Coefs.length:Int) == 4) then
    let y←kP a0.Const
    if y then
     let y1←xI a0.Coefs tJ
     pure (!y1)
    else
     pure false
   else
    pure false
     : Option Bool)
 pure (id t2)
theorem pC:∀ a0 r,sO a0=some r→∀ {I:Imm}{p c},(S4 I p a0.Coefs c)→Ret Tryz.prog 106 [vA (cAff a0 p c)] I [] (zW  r):=by
 intro a0 r N I p c h;unfold sO at N;refine yB (fn:=Tryz.f106) (c:=(bodyOf Tryz.f106)) Tryz.func106 rfl rfl ?_;rintro B - -;have H:=iS I;refine yM<|tD (cAff a0 p c) ?_;intro b hb;refine yF [] []<|zE<|yK ?_;obtain ⟨o0,ho0,hMc⟩:=zC N;refine yU (fun I' hs' m'=>∃ (t2:Bool),o0=t2∧I.le I'∧hs'=[]∧m'=[(2,.bool t2)]) ?_ ?_
 · have H:=iS I;refine zR<|yG 5 [0] [(7,.bool ((a0.Coefs.length:Int) == 4))] ?_;cases hc:((a0.Coefs.length:Int) == 4) with
   | true =>
    have hM0:=zQ hc ho0
    try rw [hc]
    refine yG 7 [0] [(9,vI a0.Const)] ?_;obtain ⟨y,hy,N⟩:=zC hM0;refine vL (zCt a0.Const _ hy ) ?_;intro I01 le;have h:=h.mono le;have H:=H.trans le;refine yG 10 [] [(12,.bool y)] ?_;cases hc1:y with
    | true =>
     have hM01:=zQ hc1 N
     try rw [hc1]
     refine yG 12 [0] [(14,vS p a0.Coefs c)] ?_;have hf0:FV1 Tryz.prog I01 [] (.func (.func 152) ⟨[]⟩ ⟨[]⟩) tJ:=by
       refine FV1.intro ?_;intro I1 le1 x0 r u0 hF k0;obtain rfl:=k0;exact (dQ x0 r hF ).mono (by rintro k i hs u ⟨v0,rfl,rfl,h⟩; exact ⟨rfl,h⟩)
     obtain ⟨y1,hy1,N⟩:=zC hM01;refine xX (tU a0.Coefs tJ _ hy1 h hf0) ?_;rintro I02 hs2 v2 k2 le1 - ⟨v01,rfl,rfl,rfl⟩ -;have H:=H.trans le1;exact yF [] [(2,.bool (!y1))]<|wB zT<|yV [(2,.bool (!y1))]<|zV ⟨_,(zB N).symm,H,rfl,rfl⟩
    | false =>
     have hM02:=zN hc1 N
     try rw [hc1]
     exact yF [] [(2,vF)]<|wB zT<|yV [(2,vF)]<|zV ⟨_,(zB hM02).symm,H,rfl,rfl⟩
   | false =>
    have hM03:=zN hc ho0
    try rw [hc]
    exact yF [] [(2,vF)]<|wB zT<|yV [(2,vF)]<|zV ⟨_,(zB hM03).symm,H,rfl,rfl⟩
 rintro I0 hs2 m2 ⟨t2,heq,le2,rfl,rfl⟩;subst o0;refine zE<|yC ?_;obtain rfl:=zB hMc;exact vQ
def uN (a0:zA) (n0:Int):Option (Int):=do
 let t17←(do
   if (decide (n0 > 0)) then
    let x←idx a0.Coefs (W (n0 - 1))
    pure (x == 0)
   else
    pure false
     : Option Bool)
 if t17 then
  uN a0 (W (n0 - 1))
 else
  pure (id n0)
 partial_fixpoint
theorem eC (a0:zA):∀ (n0:Int) (o:Int),uN a0 n0=some o→∀ {B}{I0 I:Imm}{Q p c}{b:Nat},I0.le I→(S4 I p a0.Coefs c)→NG Q→NO Q→(∀ (I':Imm) (n01:Int),o=n01→I0.le I'→T 21 B Q (.exit 0) I' [] [(3,vI n01)])→J Tryz.prog 21 B (nav (bodyOf Tryz.f107) [1,1,0,0]) Q I [hB b (cAff a0 p c)] [(1,vP b 0),(3,vI n0)]:=by
 refine uN.partial_correctness a0 _ fun self ih n0 o N B I0 I Q p c b H h hg ho hx=>xD hg ho<|yK<|yK ?_;obtain ⟨o0,ho0,hMc⟩:=zC N;refine yU (fun I' hs' m'=>∃ (t17:Bool),o0=t17∧I.le I'∧hs'=[hB b (cAff a0 p c)]∧m'=[(1,vP b 0),(3,vI n0),(17,.bool t17)]) ?_ ?_
 · have H:=iS I;refine zR<|yG 3 [] [(9,.bool (decide (n0 > 0)))] ?_;cases hc:(decide (n0 > 0)) with
   | true =>
    have hM0:=zQ hc ho0
    try rw [hc]
    refine yG 7 [0] [(11,vS p a0.Coefs c),(13,vI (W (n0 - 1)))] ?_;obtain ⟨x,hy,N⟩:=zC hM0;refine wD rfl rfl h hy ?_;intro ad ccs hat hrep;obtain rfl:=hrep;exact xT 0 hat [vI x] (vI x) rfl<|yF [] [(17,.bool (x == 0))]<|yV [(1,vP b 0),(3,vI n0),(17,.bool (x == 0))]<|zV ⟨_,(zB N).symm,H,rfl,rfl⟩
   | false =>
    have hM01:=zN hc ho0
    try rw [hc]
    exact yF [] [(17,vF)]<|yV [(1,vP b 0),(3,vI n0),(17,vF)]<|zV ⟨_,(zB hM01).symm,H,rfl,rfl⟩
 rintro I0 hs2 m2 ⟨t17,heq,le,rfl,rfl⟩;subst o0;have h:=h.mono le;have H:=H.trans le;refine zE<|yO hMc ?_ ?_
 · intro hc1 N;exact zZ<|zE<|zX<|zR<|yF [] [(3,vI (W (n0 - 1)))]<|zU<|xE<|vM [(1,vP b 0),(3,vI (W (n0 - 1)))]<|ih (W (n0 - 1)) _ N H h hg ho hx
 intro hc1 N;exact xC<|zO<|zO<|wB zT<|yV [(3,vI n0)]<|hx _ _ (zB N).symm H
def tZ (a0:zA):Option (Int):=do
 let n01←uN a0 (a0.Coefs.length:Int)
 pure (id n01)
theorem mO:∀ a0 r,tZ a0=some r→∀ {I:Imm}{p c},(S4 I p a0.Coefs c)→Ret Tryz.prog 107 [vA (cAff a0 p c)] I [] (xK  r):=by
 intro a0 r N I p c h;unfold tZ at N;refine yB (fn:=Tryz.f107) (c:=(bodyOf Tryz.f107)) Tryz.func107 rfl rfl ?_;rintro B - -;refine yM<|tD (cAff a0 p c) ?_;intro b hb;refine yF [] []<|xP<|yF [0] [(3,vI (a0.Coefs.length:Int))]<|yL<|zX<|vM [(1,vP b 0),(3,vI (a0.Coefs.length:Int))] ?_;obtain ⟨o01,ho01,hMl⟩:=zC N;refine eC a0 (a0.Coefs.length:Int) o01 ho01 iR h (fun _ _ _ h=>h) (fun _ _ h=>h) ?_;intro I01 n01 heq1 le1;subst o01;refine zY<|vO [(2,vI n01)]<|zE<|yC ?_;obtain rfl:=zB hMl;exact vQ
def sD (a0:zA) (x:Int):Option (Bool):=do
 let t3←(do
   let y←sO a0
   if (!y) then
    pure true
   else
    let y1←tZ a0
    pure (decide (y1 > x))
     : Option Bool)
 pure (id t3)
theorem zBF:∀ a0 x r,sD a0 x=some r→∀ {I:Imm}{p c}{ad:Addr},(S4 I p a0.Coefs c)→(At I ad [vI x])→Ret Tryz.prog 203 [vA (cAff a0 p c),.pointer (some ad)] I [] (zW  r):=by
 intro a0 x r N I p c ad h hat;unfold sD at N;refine yB (fn:=Tryz.f203) (c:=(bodyOf Tryz.f203)) Tryz.func203 rfl rfl ?_;rintro B - -;have H:=iS I;refine yM<|tD (cAff a0 p c) ?_;intro b hb;refine yF [] []<|zE<|yK ?_;obtain ⟨o0,ho0,hMc⟩:=zC N;refine yU (fun I' hs' m'=>∃ (t3:Bool),o0=t3∧I.le I'∧hs'=[]∧m'=[(3,.bool t3)]) ?_ ?_
 · have H:=iS I;obtain ⟨y,hy,N⟩:=zC ho0;cases hc:(!y) with
   | true =>
    have hM0:=zQ hc N;refine vK [.p (vA (cAff a0 p c)) [0],.q (.bool y),.q vY,.q vY,.p undef [],.p undef [],.p undef [],.p undef [],.p vY []] [[],[(0,false)],[(1,false)],[(2,false)],[(3,false)],[(3,false),(4,false)],[(3,false)],[(3,false),(5,false),(6,false)],[(3,false),(7,false)]] [hB b (cAff a0 p c)] [] [(8,false)] (yH [0]) ?_ ?_
    · refine Op<|Oq ?_<|Oq ?_<|Oq ?_<|Op<|Op<|Op<|Op<|Op<|On
      · intro I1 hf le1;refine yX [(4,vA (cAff a0 p c))] ?_;have H:=iS I1;have h:=h.mono le1;refine vL (pC a0 _ hy h) ?_;intro I01 le;have H:=H.trans le;exact xJ H
      · intro I1 hf le1;refine yX [(5,.bool y)]<|qO 3 [(6,.bool (!y))] ?_;rw [hc];exact xJ iR
      intro I1 hf le1;exact yX [(6,vY)]<|qO 4 [(7,vY)]<|xJ iR
    intro I02 le1;refine yX [(12,vY)] ?_;have H:=H.trans le1;exact yF [] [(3,vY)]<|wB zT<|yV [(3,vY)]<|zV ⟨_,(zB hM0).symm,H,rfl,rfl⟩
   | false =>
    have hM01:=zN hc N;obtain ⟨y1,hy1,N⟩:=zC hM01;refine vK [.p (vA (cAff a0 p c)) [0],.q (.bool y),.q vF,.q vF,.p (vA (cAff a0 p c)) [0],.q (vI y1),.q (vI x),.p (.bool (decide (y1 > x))) [],.p (.bool (decide (y1 > x))) []] [[],[(0,false)],[(1,false)],[(2,false)],[(3,false)],[(3,false),(4,false)],[(3,false)],[(3,false),(5,false),(6,false)],[(3,false),(7,false)]] [hB b (cAff a0 p c)] [] [(8,false)] (yH [0]) ?_ ?_
    · refine Op<|Oq ?_<|Oq ?_<|Oq ?_<|Op<|Oq ?_<|Oq ?_<|Op<|Op<|On
      · intro I1 hf le1;refine yX [(4,vA (cAff a0 p c))] ?_;have H:=iS I1;have h:=h.mono le1;refine vL (pC a0 _ hy h) ?_;intro I01 le;have H:=H.trans le;exact xJ H
      · intro I1 hf le1;refine yX [(5,.bool y)]<|qO 3 [(6,.bool (!y))] ?_;rw [hc];exact xJ iR
      · intro I1 hf le1;exact yX [(6,vF)]<|qO 4 [(7,vF)]<|xJ iR
      · intro I1 hf le1;refine yX [(7,vF),(8,vA (cAff a0 p c))] ?_;have H:=iS I1;have h:=h.mono le1;refine kD (mO a0 _ hy1 h) ?_;intro I03 le2;have H:=H.trans le2;exact xJ H
      intro I1 hf le1;refine yX [(1,.pointer (some ad)),(7,vF)] ?_;have hat:=hat.mono le1;exact xT 0 hat [vI x] (vI x) rfl<|xJ iR
    intro I04 le3;refine yX [(12,.bool (decide (y1 > x)))] ?_;have H:=H.trans le3;exact yF [] [(3,.bool (decide (y1 > x)))]<|wB zT<|yV [(3,.bool (decide (y1 > x)))]<|zV ⟨_,(zB N).symm,H,rfl,rfl⟩
 rintro I0 hs2 m2 ⟨t3,heq,le4,rfl,rfl⟩;subst o0;refine zE<|yC ?_;obtain rfl:=zB hMc;exact vQ
def oA (list:(List zA)) (depth:Int):Option (Bool):=do
 let t4←(do
   let y←xV (list.length:Int) 1 2
   if y then
    let y1←xH list (fun x0=>sD x0 depth)
    pure (!y1)
   else
    pure false
     : Option Bool)
 pure (id t4)
theorem eE:∀ list depth r,oA list depth=some r→∀ {I:Imm}{p c},(S4 I p list c)→Ret Tryz.prog 177 [vS p list c,vI depth] I [] (zW  r):=by
 intro list depth r N I p c h;unfold oA at N;refine yB (fn:=Tryz.f177) (c:=(bodyOf Tryz.f177)) Tryz.func177 rfl rfl ?_;rintro B - -;have H:=iS I;refine yM<|tD [vI depth] ?_;intro b hb;refine yJ 0 rfl ?_;intro I0 le hl0;have hat:At I0 ⟨b,0,none⟩ [vI depth]:=At.of_blk hl0;have h:=h.mono le;have H:=H.trans le;refine yF [] []<|zE<|yK ?_;obtain ⟨o0,ho0,hMc⟩:=zC N;refine yU (fun I' hs' m'=>∃ (t4:Bool),o0=t4∧I0.le I'∧hs'=[]∧m'=[(4,.bool t4)]) ?_ ?_
 · have H:=iS I0;refine zR<|yG 2 [] [(6,vI (list.length:Int))] ?_;obtain ⟨y,hy,N⟩:=zC ho0;refine vL (xR (list.length:Int) 1 2 _ hy ) ?_;intro I02 le1;have h:=h.mono le1;have hat:=hat.mono le1;have H:=H.trans le1;refine yG 4 [] [(8,.bool y)] ?_;cases hc:y with
   | true =>
    have hM0:=zQ hc N
    try rw [hc]
    refine yG 6 [] [(9,vS p list c),(10,.func (.func 203) ⟨[]⟩ ⟨[vP b 0]⟩)] ?_;have hf0:FV1 Tryz.prog I02 [] (.func (.func 203) ⟨[]⟩ ⟨[vP b 0]⟩) (fun x0=>sD x0 depth):=by
      refine FV1.intro ?_;intro I1 le1 x0 r u0 hF k0;obtain ⟨_,rfl,k0⟩:=k0;obtain ⟨p1,c1,rfl,h2⟩:=yQ k0;exact (zBF x0 depth r hF h2 (hat.mono le1)).mono (by rintro k i hs u ⟨v0,rfl,rfl,h⟩; exact ⟨rfl,h⟩)
    obtain ⟨y1,hy1,N⟩:=zC hM0;refine xX (sH list (fun x0=>sD x0 depth) _ hy1 h hf0) ?_;rintro I03 hs2 v2 k2 le2 - ⟨v02,rfl,rfl,rfl⟩ -;have H:=H.trans le2;exact yF [] [(4,.bool (!y1))]<|yV [(4,.bool (!y1))]<|zV ⟨_,(zB N).symm,H,rfl,rfl⟩
   | false =>
    have hM01:=zN hc N
    try rw [hc]
    exact yF [] [(4,vF)]<|yV [(4,vF)]<|zV ⟨_,(zB hM01).symm,H,rfl,rfl⟩
 rintro I01 hs2 m2 ⟨t4,heq,le3,rfl,rfl⟩;subst o0;refine zE<|yC ?_;obtain rfl:=zB hMc;exact vQ
def sA (nest:(List zD)) (t7:Int):Option (Out Unit (Bool)):=do
 if (decide (t7 < (nest.length:Int))) then
  let x←idx nest t7
  let t23←(do
    let y←oA x.Lo t7
    if (!y) then
     pure true
    else
     let y1←oA x.Hi t7
     pure (!y1)
      : Option Bool)
  if t23 then
   pure (.ret false)
  else
   sA nest (W (t7 + 1))
 else
  pure (.done ())
 partial_fixpoint
theorem zAK (nest:(List zD)):∀ (t7:Int) (o:Out Unit (Bool)),sA nest t7=some o→∀ {B}{I0 I:Imm}{Q p c},I0.le I→(S4 I p nest c)→NG Q→NO Q→(∀ (I':Imm) ,o=(.done ())→I0.le I'→T 28 B Q (.exit 0) I' [] [(0,vS p nest c)])→(∀ r I' hs' m',o=(.ret r)→I0.le I'→RS Tryz.prog Tryz.f141 B (zW  r) I' hs' m'→T 28 B Q .ret I' hs' m')→J Tryz.prog 28 B (nav (bodyOf Tryz.f141) [1,0,1,0]) Q I [] [(0,vS p nest c),(5,vS p nest c),(6,vI (nest.length:Int)),(7,vI t7)]:=by
 refine sA.partial_correctness nest _ fun self ih t7 o N B I0 I Q p c H h hg ho hx hr=>xD hg ho<|yI [(8,.bool (decide (t7 < (nest.length:Int))))]<|yL<|yO N ?_ ?_
 · intro hc N;refine zZ<|yL<|zX<|yM<|yG 1 [] [(9,vI t7)]<|bE N fun x hy N=>wD rfl rfl h hy ?_;intro ad ccs hat hrep;obtain ⟨p1,c1,p2,c2,rfl,h1,h2⟩:=tB hrep;refine xT 0 hat (cLoop x p1 c1 p2 c2) (vA (cLoop x p1 c1 p2 c2)) rfl<|uK zTwo ?_;intro b hb;refine yG 5 [] [(3,vI t7)]<|xN 0 (cLoop x p1 c1 p2 c2) [hB b (cLoop x p1 c1 p2 c2)] rfl rfl rfl rfl<|yN rfl<|zE<|yK ?_;obtain ⟨o0,ho0,hMc⟩:=zC N;refine yU (fun I' hs' m'=>∃ (t23:Bool),o0=t23∧I.le I'∧hs'=[]∧m'=[(0,vS p nest c),(5,vS p nest c),(6,vI (nest.length:Int)),(7,vI t7),(23,.bool t23)]) ?_ ?_
   · have H:=iS I;refine zR<|yG 3 [0] [(13,vS p1 x.Lo c1),(14,vI t7)] ?_;obtain ⟨y,hy1,N⟩:=zC ho0;refine vL (eE x.Lo t7 _ hy1 h1) ?_;intro I01 le;have h2:=h2.mono le;have H:=H.trans le;refine yG 6 [] [(17,.bool (!y))] ?_;cases hc1:(!y) with
     | true =>
      have hM0:=zQ hc1 N
      try rw [hc1]
      exact yF [] [(23,vY)]<|wB zT<|yV [(0,vS p nest c),(5,vS p nest c),(6,vI (nest.length:Int)),(7,vI t7),(23,vY)]<|zV ⟨_,(zB hM0).symm,H,rfl,rfl⟩
     | false =>
      have hM01:=zN hc1 N
      try rw [hc1]
      refine yG 9 [0] [(19,vS p2 x.Hi c2),(20,vI t7)] ?_;obtain ⟨y1,hy2,N⟩:=zC hM01;refine vL (eE x.Hi t7 _ hy2 h2) ?_;intro I02 le1;have H:=H.trans le1;exact yF [] [(23,.bool (!y1))]<|wB zT<|yV [(0,vS p nest c),(5,vS p nest c),(6,vI (nest.length:Int)),(7,vI t7),(23,.bool (!y1))]<|zV ⟨_,(zB N).symm,H,rfl,rfl⟩
   rintro I0 hs2 m2 ⟨t23,heq,le2,rfl,rfl⟩;subst o0;have h:=h.mono le2;have H:=H.trans le2;refine zE<|yO hMc ?_ ?_
   · intro hc2 N;exact yI [(2,vF)]<|zE<|yC<|yA<|zK<|zK<|hr _ _ _ _ (zB N).symm H ⟨_,_,(.tmp rfl ResV.nil),zT,⟨_,rfl,rfl,rfl⟩⟩
   intro hc2 N;exact zZ<|zU<|zE<|zR<|yF [] [(7,vI (W (t7 + 1)))]<|xE<|vM [(0,vS p nest c),(5,vS p nest c),(6,vI (nest.length:Int)),(7,vI (W (t7 + 1)))]<|ih (W (t7 + 1)) _ N H h hg ho hx hr
 intro hc N;exact xC<|zO<|zO<|yV [(0,vS p nest c)]<|hx _  (zB N).symm H
def pM (nest:(List zD)):Option (Bool):=do
 match←sA nest 0 with
 | .ret r0=>pure r0
 | .done _ =>
  pure (decide ((nest.length:Int) ≤ 4))
theorem fF:∀ nest r,pM nest=some r→∀ {I:Imm}{p c},(S4 I p nest c)→Ret Tryz.prog 141 [vS p nest c] I [] (zW  r):=by
 intro nest r N I p c h;unfold pM at N;refine yB (fn:=Tryz.f141) (c:=(bodyOf Tryz.f141)) Tryz.func141 rfl rfl ?_;rintro B - -;refine yI []<|yL<|yI [(5,vS p nest c),(6,vI (nest.length:Int)),(7,vI 0)]<|zE<|zX<|vM [(0,vS p nest c),(5,vS p nest c),(6,vI (nest.length:Int)),(7,vI 0)] ?_;obtain ⟨o01,ho01,hMl⟩:=zC N;refine zAK nest 0 o01 ho01 iR h (fun _ _ _ h=>h) (fun _ _ h=>h) ?_ ?_
 · intro I03  heq1 le3;subst o01;refine zY<|vO [(2,.bool (decide ((nest.length:Int) ≤ 4)))]<|zE<|yC ?_;obtain rfl:=zB hMl;exact vQ
 intro r0 I9 hs9 m9 heq9 le9 hrs9;subst heq9;refine yA<|zK ?_;obtain rfl:=zB hMl;exact xM hrs9
def gO (r:List Int):KT:=fun kk I' hs' v=>
  ∃ a0 c0 s0,hs'=[.osl (.slice a0 r.length c0) (Rp.sz Int) s0]∧v=tupV [(.slice a0 r.length c0)]∧RepL (Rp.rep I') (Rp.sz Int) s0 r
def tV (s:List Int):Option (List Int):=app 8 ([]:List Int) s
theorem nG:∀ s r,tV s=some r→∀ {I:Imm}{p c},SL I (vS p s c) s→Ret Tryz.prog 121 [vS p s c] I [] (gO r):=by
 intro s r N I p c h;unfold tV at N;obtain ⟨ccs,k0,k01⟩:=h;refine yB (fn:=Tryz.f121) (c:=(bodyOf Tryz.f121)) Tryz.func121 rfl rfl ?_;rintro B - -;cases p with
 | none =>
  have hs:s=[]:=by
    rcases k0 with ⟨hv,rfl⟩ | ⟨b0,off,len,cap,cc,hv,k2⟩
    · cases s with
      | nil=>rfl
      | cons _ _=>simp at hv
    simp at hv
  subst hs;obtain ⟨_,rfl⟩:=fQ N;refine yI [(0,vS none ([]:List Int) c),(2,z0)]<|yL<|yM<|yG 1 [] [(3,vS none ([]:List Int) c)]<|zJJ true rfl rfl ?_ rfl;exact yF [] [(4,vY)]<|zE<|dV rfl<|yI [(2,z0)]<|zE<|yC<|zK<|wB (tE (Rp.sz Int))<|xM ⟨_,_,(.tmp rfl ResV.nil),(yD [0] rfl (by decide)),⟨none,0,[],rfl,rfl,rfl⟩⟩
 | some ad =>
  refine yI [(0,vS (some ad) s c),(2,z0)]<|yL<|yM<|yG 1 [] [(3,vS (some ad) s c)]<|zJJ false rfl rfl ?_ rfl;refine yF [] [(0,vS (some ad) s c),(4,vF)]<|zE<|jT rfl<|zZ<|xP<|xW [] Int ?_;intro b2 hb2;have h1:RL I [] ([]:List Int):=rfl;exact yG 2 [] [(6,vS (some ad) s c)]<|qZ 3 1 0 rfl rfl rfl h1 (.inl k0) k01 N fun p1 c1 cs h2=>yF [] [(2,vS p1 r c1)]<|zE<|yC<|xM ⟨_,_,(.tmp rfl ResV.nil),(yD [0] rfl (by decide)),⟨_,_,_,rfl,rfl,h2⟩⟩
def tA (a0:zA) (point:(List Int)) (sum:Int) (t12:Int):Option (Int):=do
 if (decide (t12 < (point.length:Int))) then
  let x←idx point t12
  let x1←idx a0.Coefs t12
  tA a0 point (W (sum + (W (x1 * x)))) (W (t12 + 1))
 else
  pure (id sum)
 partial_fixpoint
theorem eY (a0:zA) (point:(List Int)):∀ (sum:Int) (t12:Int) (o:Int),tA a0 point sum t12=some o→∀ {B}{I0 I:Imm}{Q p c p1 c1}{b:Nat},I0.le I→(S4 I p1 point c1)→(S4 I p a0.Coefs c)→NG Q→NO Q→(∀ (I':Imm) (sum1:Int),o=sum1→I0.le I'→T 28 B Q (.exit 0) I' [] [(5,vI sum1)])→J Tryz.prog 28 B (nav (bodyOf Tryz.f64) [1,1,0,1,0]) Q I [hB b (cAff a0 p c)] [(2,vP b 0),(5,vI sum),(10,vS p1 point c1),(11,vI (point.length:Int)),(12,vI t12)]:=by
 refine tA.partial_correctness a0 point _ fun self ih sum t12 o N B I0 I Q p c p1 c1 b H h1 h hg ho hx=>xD hg ho<|yI [(13,.bool (decide (t12 < (point.length:Int))))]<|yL<|yO N ?_ ?_
 · intro hc N;refine zZ<|yL<|zX<|yM<|yG 1 [] [(14,vI t12)]<|bE N fun x hy N=>wD rfl rfl h1 hy ?_;intro ad ccs hat hrep;obtain rfl:=hrep;refine xT 0 hat [vI x] (vI x) rfl<|yF [] [(6,vI t12),(7,vI x)]<|zE<|zR<|yG 4 [0] [(17,vI sum),(19,vS p a0.Coefs c),(20,vI t12)]<|bE N fun x1 hy1 N=>wD rfl rfl h hy1 ?_;intro ad1 ccs1 hat1 hrep1;obtain rfl:=hrep1;exact xT 0 hat1 [vI x1] (vI x1) rfl<|yF [] [(5,vI (W (sum + (W (x1 * x)))))]<|zU<|zE<|zR<|yF [] [(12,vI (W (t12 + 1)))]<|xE<|vM [(2,vP b 0),(5,vI (W (sum + (W (x1 * x))))),(10,vS p1 point c1),(11,vI (point.length:Int)),(12,vI (W (t12 + 1)))]<|ih (W (sum + (W (x1 * x)))) (W (t12 + 1)) _ N H h1 h hg ho hx
 intro hc N;exact xC<|zO<|zO<|wB zT<|yV [(5,vI sum)]<|hx _ _ (zB N).symm H
def uO (a0:zA) (point:(List Int)):Option (Int):=do
 let sum1←tA a0 point a0.Const 0
 pure (id sum1)
theorem pD:∀ a0 point r,uO a0 point=some r→∀ {I:Imm}{p c p1 c1},(S4 I p a0.Coefs c)→(S4 I p1 point c1)→Ret Tryz.prog 64 [vA (cAff a0 p c),vS p1 point c1] I [] (xK  r):=by
 intro a0 point r N I p c p1 c1 h h1;unfold uO at N;refine yB (fn:=Tryz.f64) (c:=(bodyOf Tryz.f64)) Tryz.func64 rfl rfl ?_;rintro B - -;refine yM<|tD (cAff a0 p c) ?_;intro b hb;refine yF [] []<|xP<|yF [0] [(5,vI a0.Const)]<|yL<|yI [(10,vS p1 point c1),(11,vI (point.length:Int)),(12,vI 0)]<|zE<|zX<|vM [(2,vP b 0),(5,vI a0.Const),(10,vS p1 point c1),(11,vI (point.length:Int)),(12,vI 0)] ?_;obtain ⟨o0,ho0,hMl⟩:=zC N;refine eY a0 point a0.Const 0 o0 ho0 iR h1 h (fun _ _ _ h=>h) (fun _ _ h=>h) ?_;intro I0 sum1 heq le;subst o0;refine zY<|vO [(4,vI sum1)]<|zE<|yC ?_;obtain rfl:=zB hMl;exact vQ
def sB (l:zD) (point:(List Int)) (lo:Int) (t27:Int):Option (Int):=do
 if (decide (t27 < (l.Lo.length:Int))) then
  let x2←idx l.Lo t27
  let y2←uO x2 point
  sB l point (if y2 > lo then y2 else lo) (W (t27 + 1))
 else
  pure (id lo)
 partial_fixpoint
theorem zAL (l:zD) (point:(List Int)):∀ (lo:Int) (t27:Int) (o:Int),sB l point lo t27=some o→∀ {B}{I0 I:Imm}{Q}{y1:Int}{p c p1 c1 p2 c2}{b:Nat},I0.le I→(S4 I p2 point c2)→(S4 I p l.Lo c)→(S4 I p1 l.Hi c1)→NG Q→NO Q→(∀ (I':Imm) (lo1:Int),o=lo1→I0.le I'→T 52 B Q (.exit 0) I' [hB b (cLoop l p c p1 c1)] [(1,vS p2 point c2),(2,vP b 0),(6,vI lo1),(7,vI y1)])→J Tryz.prog 52 B (nav (bodyOf Tryz.f142) [1,1,0,1,0]) Q I [hB b (cLoop l p c p1 c1)] [(1,vS p2 point c2),(2,vP b 0),(6,vI lo),(7,vI y1),(25,vS p l.Lo c),(26,vI (l.Lo.length:Int)),(27,vI t27)]:=by
 refine sB.partial_correctness l point _ fun self ih lo t27 o N B I0 I Q y1 p c p1 c1 p2 c2 b H h2 h h1 hg ho hx=>xD hg ho<|yI [(28,.bool (decide (t27 < (l.Lo.length:Int))))]<|yL<|yO N ?_ ?_
 · intro hc N;refine zZ<|yL<|zX<|yM<|bE N fun x2 hy4 N=>wD rfl rfl h hy4 ?_;intro ad2 ccs2 hat2 hrep2;obtain ⟨p5,c5,rfl,h7⟩:=yQ hrep2;refine xT 0 hat2 (cAff x2 p5 c5) (vA (cAff x2 p5 c5)) rfl<|uK [z0,vI 0] ?_;intro b1 hb1;refine xN 0 (cAff x2 p5 c5) [hB b1 (cAff x2 p5 c5),hB b (cLoop l p c p1 c1)] rfl rfl rfl rfl<|yN rfl<|zE<|zR<|yG 3 [0] [(31,vI lo),(32,vA (cAff x2 p5 c5)),(33,vS p2 point c2)]<|bE N fun y2 hy5 N=>kD (pD x2 point _ hy5 h7 h2) ?_;intro I03 le3;have h2:=h2.mono le3;have h:=h.mono le3;have h1:=h1.mono le3;have H:=H.trans le3;exact yF [] [(6,vI (if y2 > lo then y2 else lo))]<|zU<|zE<|zR<|yF [] [(27,vI (W (t27 + 1)))]<|xE<|pJ (yD [1] rfl (by decide))<|vM [(1,vS p2 point c2),(2,vP b 0),(6,vI (if y2 > lo then y2 else lo)),(7,vI y1),(25,vS p l.Lo c),(26,vI (l.Lo.length:Int)),(27,vI (W (t27 + 1)))]<|ih (if y2 > lo then y2 else lo) (W (t27 + 1)) _ N H h2 h h1 hg ho hx
 intro hc N;exact xC<|zO<|zO<|yV [(1,vS p2 point c2),(2,vP b 0),(6,vI lo),(7,vI y1)]<|hx _ _ (zB N).symm H
def sC (l:zD) (point:(List Int)) (hi:Int) (t40:Int):Option (Int):=do
 if (decide (t40 < (l.Hi.length:Int))) then
  let x3←idx l.Hi t40
  let y3←uO x3 point
  sC l point (if y3 < hi then y3 else hi) (W (t40 + 1))
 else
  pure (id hi)
 partial_fixpoint
theorem zAM (l:zD) (point:(List Int)):∀ (hi:Int) (t40:Int) (o:Int),sC l point hi t40=some o→∀ {B}{I0 I:Imm}{Q}{lo1:Int}{p1 c1 p2 c2},I0.le I→(S4 I p2 point c2)→(S4 I p1 l.Hi c1)→NG Q→NO Q→(∀ (I':Imm) (hi1:Int),o=hi1→I0.le I'→T 52 B Q (.exit 2) I' [] [(6,vI lo1),(7,vI hi1)])→J Tryz.prog 52 B (nav (bodyOf Tryz.f142) [1,1,1,0,1,0]) Q I [] [(1,vS p2 point c2),(6,vI lo1),(7,vI hi),(38,vS p1 l.Hi c1),(39,vI (l.Hi.length:Int)),(40,vI t40)]:=by
 refine sC.partial_correctness l point _ fun self ih hi t40 o N B I0 I Q lo1 p1 c1 p2 c2 H h2 h1 hg ho hx=>xD hg ho<|yI [(41,.bool (decide (t40 < (l.Hi.length:Int))))]<|yL<|yO N ?_ ?_
 · intro hc1 N;refine zZ<|yL<|zX<|yM<|bE N fun x3 hy6 N=>wD rfl rfl h1 hy6 ?_;intro ad3 ccs3 hat3 hrep3;obtain ⟨p6,c6,rfl,h9⟩:=yQ hrep3;refine xT 0 hat3 (cAff x3 p6 c6) (vA (cAff x3 p6 c6)) rfl<|uK [z0,vI 0] ?_;intro b2 hb2;refine xN 0 (cAff x3 p6 c6) [hB b2 (cAff x3 p6 c6)] rfl rfl rfl rfl<|yN rfl<|zE<|zR<|yG 3 [0] [(44,vI hi),(45,vA (cAff x3 p6 c6)),(46,vS p2 point c2)]<|bE N fun y3 hy7 N=>kD (pD x3 point _ hy7 h9 h2) ?_;intro I05 le5;have h2:=h2.mono le5;have h1:=h1.mono le5;have H:=H.trans le5;exact yF [] [(7,vI (if y3 < hi then y3 else hi))]<|zU<|zE<|zR<|yF [] [(40,vI (W (t40 + 1)))]<|xE<|pJ zT<|vM [(1,vS p2 point c2),(6,vI lo1),(7,vI (if y3 < hi then y3 else hi)),(38,vS p1 l.Hi c1),(39,vI (l.Hi.length:Int)),(40,vI (W (t40 + 1)))]<|ih (if y3 < hi then y3 else hi) (W (t40 + 1)) _ N H h2 h1 hg ho hx
 intro hc1 N;exact xC<|zO<|zO<|yV [(6,vI lo1),(7,vI hi)]<|hx _ _ (zB N).symm H
def pO (l:zD) (point:(List Int)):Option (Int×Int):=do
 let x←idx l.Lo 0
 let y←uO x point
 let x1←idx l.Hi 0
 let y1←uO x1 point
 let lo1←sB l point y 0
 let hi1←sC l point y1 0
 pure (lo1,hi1)
theorem fG:∀ l point r,pO l point=some r→∀ {I:Imm}{p c p1 c1 p2 c2},(S4 I p l.Lo c)→(S4 I p1 l.Hi c1)→(S4 I p2 point c2)→Ret Tryz.prog 142 [vA (cLoop l p c p1 c1),vS p2 point c2] I [] (kK  r):=by
 intro l point r N I p c p1 c1 p2 c2 h h1 h2;unfold pO at N;refine yB (fn:=Tryz.f142) (c:=(bodyOf Tryz.f142)) Tryz.func142 rfl rfl ?_;rintro B - -;have H:=iS I;refine yM<|tD (cLoop l p c p1 c1) ?_;intro b hb;refine yF [] []<|zE<|yK ?_;obtain ⟨x,hy,N⟩:=zC N;obtain ⟨y,hy1,N⟩:=zC N;obtain ⟨x1,hy2,N⟩:=zC N;obtain ⟨y1,hy3,N⟩:=zC N;refine vK [.p (vP b 0) [],.p (vS p l.Lo c) [0],.x (fun I' v hx=>∃ ad p3 c3,v=.pointer (some ad)∧hx=[]∧(At I' ad (cAff x p3 c3))∧(S4 I' p3 x.Coefs c3)),.x (fun I' v hx=>∃ p31 c31,v=vA (cAff x p31 c31)∧hx=[]∧(S4 I' p31 x.Coefs c31)),.p (vS p2 point c2) [],.q (vI y),.p (vP b 1) [],.p (vS p1 l.Hi c1) [0],.x (fun I' v hx=>∃ ad1 p4 c4,v=.pointer (some ad1)∧hx=[]∧(At I' ad1 (cAff x1 p4 c4))∧(S4 I' p4 x1.Coefs c4)),.x (fun I' v hx=>∃ p41 c41,v=vA (cAff x1 p41 c41)∧hx=[]∧(S4 I' p41 x1.Coefs c41)),.p (vS p2 point c2) [],.q (vI y1),.p (vI y) []] [[],[(0,false)],[(1,false)],[(2,false)],[],[(3,false),(4,false)],[],[(6,false)],[(7,false)],[(8,false)],[],[(9,false),(10,false)],[(5,false)]] [hB b (cLoop l p c p1 c1)] [] [(11,false),(12,false)] (yH [0]) ?_ ?_
 · refine Op<|Op<|Ox ?_<|Ox ?_<|Op<|Oq ?_<|Op<|Op<|Ox ?_<|Ox ?_<|Op<|Oq ?_<|Op<|On
   · intro I1 hf le1;refine yX [(13,vS p l.Lo c)] ?_;have h:=h.mono le1;refine wD rfl rfl h hy ?_;intro ad ccs hat hrep;obtain ⟨p3,c3,rfl,h3⟩:=yQ hrep;exact yY [] iR ⟨_,_,_,rfl,rfl,hat,h3⟩
   · intro I1 hf le1;refine zH ?_;rintro _ _ ⟨ad,p3,c3,rfl,rfl,hat,h3⟩;exact yX [(14,.pointer (some ad))]<|xT 0 hat (cAff x p3 c3) (vA (cAff x p3 c3)) rfl<|yY [] iR ⟨_,_,rfl,rfl,h3⟩
   · intro I1 hf le1;refine zH ?_;rintro _ _ ⟨p31,c31,rfl,rfl,h31⟩;refine yX [(15,vA (cAff x p31 c31)),(16,vS p2 point c2)] ?_;have H:=iS I1;have h2:=h2.mono le1;refine kD (pD x point _ hy1 h31 h2) ?_;intro I0 le;have H:=H.trans le;exact xJ H
   · intro I1 hf le1;refine yX [(19,vS p1 l.Hi c1)] ?_;have h1:=h1.mono le1;refine wD rfl rfl h1 hy2 ?_;intro ad1 ccs1 hat1 hrep1;obtain ⟨p4,c4,rfl,h5⟩:=yQ hrep1;exact yY [] iR ⟨_,_,_,rfl,rfl,hat1,h5⟩
   · intro I1 hf le1;refine zH ?_;rintro _ _ ⟨ad1,p4,c4,rfl,rfl,hat1,h5⟩;exact yX [(20,.pointer (some ad1))]<|xT 0 hat1 (cAff x1 p4 c4) (vA (cAff x1 p4 c4)) rfl<|yY [] iR ⟨_,_,rfl,rfl,h5⟩
   intro I1 hf le1;refine zH ?_;rintro _ _ ⟨p41,c41,rfl,rfl,h51⟩;refine yX [(21,vA (cAff x1 p41 c41)),(22,vS p2 point c2)] ?_;have H:=iS I1;have h2:=h2.mono le1;refine kD (pD x1 point _ hy3 h51 h2) ?_;intro I01 le1;have H:=H.trans le1;exact xJ H
 intro I02 le2;refine yX [(1,vS p2 point c2),(2,vP b 0),(6,vI y),(23,vI y1)] ?_;have h2:=h2.mono le2;have h:=h.mono le2;have h1:=h1.mono le2;refine yF [] [(7,vI y1)]<|yL<|yM<|yF [0] [(25,vS p l.Lo c),(26,vI (l.Lo.length:Int)),(27,vI 0)]<|zE<|zX<|vM [(1,vS p2 point c2),(2,vP b 0),(6,vI y),(7,vI y1),(25,vS p l.Lo c),(26,vI (l.Lo.length:Int)),(27,vI 0)] ?_;obtain ⟨o0,ho0,hMl⟩:=zC N;refine zAL l point y 0 o0 ho0 iR h2 h h1 (fun _ _ _ h=>h) (fun _ _ h=>h) ?_;intro I04 lo1 heq le4;subst o0;have h2:=h2.mono le4;have h:=h.mono le4;have h1:=h1.mono le4;refine zY<|yL<|yM<|yF [0] [(38,vS p1 l.Hi c1),(39,vI (l.Hi.length:Int)),(40,vI 0)]<|zE<|zX<|pJ (yH [] (hs':=[]))<|vM [(1,vS p2 point c2),(6,vI lo1),(7,vI y1),(38,vS p1 l.Hi c1),(39,vI (l.Hi.length:Int)),(40,vI 0)] ?_;obtain ⟨o01,ho01,hMl1⟩:=zC hMl;refine zAM l point y1 0 o01 ho01 iR h2 h1 (fun _ _ _ h=>h) (fun _ _ h=>h) ?_;intro I06 hi1 heq1 le6;subst o01;refine zY<|vO [(4,vI lo1),(5,vI hi1)]<|zE<|yC ?_;obtain rfl:=zB hMl1;exact xM ⟨_,_,(.tmp rfl (.tmp rfl ResV.nil)),zT,⟨_,_,rfl,rfl,rfl,rfl⟩⟩
def nR (b0:Nat) (r:Bool×tC):KT:=fun kk I' hs' v=>
  ∃ v0 x0_0 y0_0 x0_2 y0_2 z0_2,hs'=[.blk b0 ⟨[.slice x0_0 r.2.nest.length y0_0,.int .i64 r.2.steps,.slice x0_2 r.2.out.length y0_2]⟩,.osl (.slice x0_2 r.2.out.length y0_2) (Rp.sz (List Int)) z0_2]∧v=tupV [v0]∧v0=.bool r.1∧SL I' (.slice x0_0 r.2.nest.length y0_0) r.2.nest∧RepL (Rp.rep I') (Rp.sz (List Int)) z0_2 r.2.out
mutual
def uW (w0:tC) (point:(List Int)):Option (Bool×tC):=do
 if ((point.length:Int) == (w0.nest.length:Int)) then
  let y←tV point
  let l←app 24 w0.out ([y]:List (List Int))
  pure ((decide ((l.length:Int) ≤ 120)),(tC.mk w0.nest w0.steps l))
 else
  let x←idx w0.nest (point.length:Int)
  let (y2,y3)←pO x point
  match←tW (same point) (same y3) (same y2) w0.nest w0.steps w0.out with
  | .ret r0=>pure r0
  | .done (nest1,steps1,out1) =>
   pure (true,(tC.mk nest1 steps1 out1))
 partial_fixpoint
def tW (point:(List Int)) (y3:Int) (n0:Int) (nest:List zD) (steps:Int) (out:List (List Int)):Option (Out (List zD×Int×List (List Int)) (Bool×tC)):=do
 if (decide (n0 < y3)) then
  let (t74,nest2,steps2,out2)←(do
    if (decide ((W ((W (steps + 1)) + 1)) > 1200)) then
     pure (true,nest,(W (steps + 1)),out)
    else
     let y4←tV point
     let l1←app 8 y4 ([n0]:List Int)
     let (y6,y7)←uW (tC.mk nest (W (steps + 1)) out) (same l1)
     pure ((!y6),y7.nest,y7.steps,y7.out)
      : Option (Bool×List zD×Int×List (List Int)))
  if t74 then
   pure (.ret (false,(tC.mk nest2 steps2 out2)))
  else
   tW (same point) (same y3) (W (n0 + 1)) (same nest2) (same steps2) (same out2)
 else
  pure (.done (nest,steps,out))
 partial_fixpoint
end
theorem dR:(∀ (w0:tC) (point:(List Int)) r,uW w0 point=some r→∀ {I:Imm}{r0:Nat}{p c p1 c1 cs p2 c2},(S4 I p w0.nest c)→(RL I cs w0.out)→(S4 I p2 point c2)→Ret Tryz.prog 160 [vP r0 0,vS p2 point c2] I [hB r0 [vS p w0.nest c,vI w0.steps,vS p1 w0.out c1],hO (List Int) (vS p1 w0.out c1) cs] (nR r0 r))∧(∀ (point:(List Int)) (y3:Int) (n0:Int) (nest:List zD) (steps:Int) (out:List (List Int)) o,tW point y3 n0 nest steps out=some o→∀ {B}{I0 I:Imm}{Q}  {r0:Nat}{p2 c2 p7 c7 p8 c8 cs3},I0.le I→(S4 I p2 point c2)→(S4 I p7 nest c7)→(RL I cs3 out)→NG Q→NO Q→(∀ (I':Imm) (nest1:List zD) (steps1:Int) (out1:List (List Int)) (p9:Option Addr) (c9:Nat) (p10:Option Addr) (c10:Nat) (cs4:List Value),o=(.done (nest1,steps1,out1))→I0.le I'→(S4 I' p9 nest1 c9)→(RL I' cs4 out1)→T 75 B Q (.exit 0) I' [hB r0 [vS p9 nest1 c9,vI steps1,vS p10 out1 c10],hO (List Int) (vS p10 out1 c10) cs4] [])→(∀ r I' hs' m',o=(.ret r)→I0.le I'→RS Tryz.prog Tryz.f160 B (nR r0 r) I' hs' m'→T 75 B Q .ret I' hs' m')→J Tryz.prog 75 B (nav (bodyOf Tryz.f160) [1,1,1,0,1,0]) Q I [hB r0 [vS p7 nest c7,vI steps,vS p8 out c8],hO (List Int) (vS p8 out c8) cs3] [(0,vP r0 0),(1,vS p2 point c2),(6,vI y3),(7,vI n0)]):=by
  refine uW.mutual_partial_correctness _ _ ?_ ?_
  · intro F_impl_walking_walk_l1 ih_impl_walking_walk_l1 w0 point r N I r0 p c p1 c1 cs p2 c2 h h1 h2;refine yB (fn:=Tryz.f160) (c:=(bodyOf Tryz.f160)) Tryz.func160 rfl rfl ?_;rintro B - -;have H:=iS I;refine yI []<|yL<|yM<|yF [0] [(15,.bool ((point.length:Int) == (w0.nest.length:Int)))]<|zE<|yO N ?_ ?_
    · intro hc N;refine yK ?_;obtain ⟨y,hy,N⟩:=zC N;obtain ⟨l,hy1,N⟩:=zC N;refine vK [.p (vP r0 0) [],.p (vP r0 0) [],.p (vP r0 0) [],.p (vP r0 2) [],.p (vS p1 w0.out c1) [0],.p (vS p2 point c2) [],.x (fun I' v hx=>∃ p3 c3 cs1,v=vS p3 y c3∧hx=[hO Int (vS p3 y c3) cs1]∧(RL I' cs1 y)),.x (fun I' v hx=>∃ b,v=vS (some ⟨b,0,none⟩) ([y]:List (List Int)) 1∧hx=[]∧(SL I' (vS (some ⟨b,0,none⟩) ([y]:List (List Int)) 1) ([y]:List (List Int)))),.x (fun I' v hx=>∃ p4 c4 cs2,v=vS p4 l c4∧hx=[hO (List Int) (vS p4 l c4) cs2]∧(RL I' cs2 l))] [[],[],[(1,false)],[(2,false)],[(3,false)],[],[(5,false)],[(6,true)],[(4,false),(7,false),(12,true)]] [hB r0 [vS p w0.nest c,vI w0.steps,vS p1 w0.out c1]] [[hO (List Int) (vS p1 w0.out c1) cs]] [(0,false),(8,true)] (yH [0,1]) ?_ ?_
      · refine Op<|Op<|Op<|Op<|Op<|Op<|Ox ?_<|Ox ?_<|Ox ?_<|On
        · intro I1 hf le1;refine yX [(21,vS p2 point c2)] ?_;have H:=iS I1;have h2:=h2.mono le1;refine xX (nG point _ hy h2) ?_;rintro I0 hs2 v2 k2 le - ⟨p3,c3,cs1,rfl,rfl,h3⟩ -;have H:=H.trans le;exact yY [hO Int (vS p3 y c3) cs1] H ⟨_,_,_,rfl,rfl,h3⟩
        · intro I1 hf le1;refine zH ?_;rintro _ _ ⟨p3,c3,cs1,rfl,rfl,h3⟩;refine yX [(22,vS p3 y c3)] ?_;have H:=iS I1;refine yJ 0 rfl ?_;intro I01 le1 hl0;have h4:=SL.of_frozen hl0 le1 h3;have H:=H.trans le1;refine xW [vS p3 y c3] (List Int) ?_;intro b hb;have h5:RL I01 [vS p3 y c3] ([y]:List (List Int)):=⟨[vS p3 y c3],_,rfl,rfl,⟨_,rfl,h4⟩,rfl⟩;refine yJ 0 rfl ?_;intro I02 le2 hl01;have h6:=SL.of_frozen hl01 le2 h5;have H:=H.trans le2;exact yY [] H ⟨_,rfl,rfl,h6⟩
        intro I1 hf le1;refine zH ?_;rintro _ _ ⟨rfl,rfl⟩;refine zH ?_;rintro _ _ ⟨b,rfl,rfl,h6⟩;refine zH ?_;rintro _ _ rfl;refine yX [(20,vS p1 w0.out c1),(23,vS (some ⟨b,0,none⟩) ([y]:List (List Int)) 1)] ?_;have h1:=iM le1 h1;obtain ⟨ccs,k0,k01⟩:=h6;have h6:SL I1 (vS (some ⟨b,0,none⟩) ([y]:List (List Int)) 1) ([y]:List (List Int)):=⟨_,k0,k01⟩;exact qZ 27 1 0 rfl rfl rfl h1 (.inl k0) k01 hy1 fun p4 c4 cs2 h7=>uY (hs':=(hO (List Int) (vS p4 l c4) cs2::hB r0 [vS p w0.nest c,vI w0.steps,vS p1 w0.out c1]::hf)) rfl<|yY [hO (List Int) (vS p4 l c4) cs2] iR ⟨_,_,_,rfl,rfl,h7⟩
      intro I03 le3;refine zH ?_;rintro _ _ ⟨rfl,rfl⟩;refine zH ?_;rintro _ _ ⟨p4,c4,cs2,rfl,rfl,h7⟩;refine yX [(0,vP r0 0),(16,vP r0 0),(24,vS p4 l c4)] ?_;have h:=h.mono le3;refine yG 11 [] [(26,vP r0 2)]<|xN 1 [vS p w0.nest c,vI w0.steps,vS p4 l c4] [hO (List Int) (vS p4 l c4) cs2,hB r0 [vS p w0.nest c,vI w0.steps,vS p4 l c4]] rfl rfl rfl rfl<|yN rfl<|xP<|yF [1] [(4,.bool (decide ((l.length:Int) ≤ 120)))]<|zE<|yC<|zK ?_;obtain rfl:=zB N;exact xM ⟨_,_,(.tmp rfl ResV.nil),(yD [1,0] rfl (by decide)),⟨_,_,_,_,_,_,rfl,rfl,rfl,h,h7⟩⟩
    intro hc N;refine zZ<|xP<|yG 6 [0] [(37,vS p w0.nest c),(39,vI (point.length:Int))]<|bE N fun x hy2 N=>wD rfl rfl h hy2 ?_;intro ad ccs1 hat hrep;obtain ⟨p5,c5,p6,c6,rfl,h8,h9⟩:=tB hrep;refine xT 0 hat (cLoop x p5 c5 p6 c6) (vA (cLoop x p5 c5 p6 c6)) rfl<|yG 9 [] [(42,vS p2 point c2)] ?_;obtain ⟨⟨y2,y3⟩,hy3,N⟩:=zC N;refine xX (fG x point _ hy3 h8 h9 h2) ?_;rintro I04 hs2 v2 k2 le4 - ⟨v02,v03,rfl,rfl,rfl,rfl⟩ -;have h2:=h2.mono le4;have h:=h.mono le4;have h1:=iM le4 h1;refine yF [] [(5,vI y2),(6,vI y3)]<|yL<|yI [(7,vI y2)]<|zE<|zX<|vM [(0,vP r0 0),(1,vS p2 point c2),(6,vI y3),(7,vI y2)] ?_;obtain ⟨o01,ho01,hMl⟩:=zC N;refine ih_impl_walking_walk_l1 point y3 y2 w0.nest w0.steps w0.out o01 ho01 iR h2 h h1 (fun _ _ _ h=>h) (fun _ _ h=>h) ?_ ?_
    · intro I09 nest1 steps1 out1 p9 c9 p10 c10 cs4 heq1 le9 h14 h15;subst o01;refine zY<|vO [(4,vY)]<|zE<|yC ?_;obtain rfl:=zB hMl;exact xM ⟨_,_,(.tmp rfl ResV.nil),(yD [0,1] rfl (by decide)),⟨_,_,_,_,_,_,rfl,rfl,rfl,h14,h15⟩⟩
    intro r0 I9 hs9 m9 heq9 le9 hrs9;subst heq9;refine yA<|zK ?_;obtain rfl:=zB hMl;exact xM hrs9
  intro F_impl_walking_walk F_impl_walking_walk_l1 ih_impl_walking_walk ih_impl_walking_walk_l1 point y3 n0 nest steps out o N B I0 I Q r0 p2 c2 p7 c7 p8 c8 cs3 H h2 h12 h13 hg ho hx hr;refine xD hg ho<|yK<|yI [(49,.bool (decide (n0 < y3)))]<|zE<|yO N ?_ ?_
  · intro hc1 N;refine zZ<|yL<|zX<|yM<|yG 7 [0] [(56,vI (W (steps + 1))),(58,vP r0 1)]<|xN 0 [vS p7 nest c7,vI (W (steps + 1)),vS p8 out c8] [hB r0 [vS p7 nest c7,vI (W (steps + 1)),vS p8 out c8],hO (List Int) (vS p8 out c8) cs3] rfl rfl rfl rfl<|yN rfl<|zE<|yK ?_;obtain ⟨o0,ho0,hMc⟩:=zC N;refine yU (fun I' hs' m'=>∃ (t74:Bool) (nest2:List zD) (steps2:Int) (out2:List (List Int)) (p11:Option Addr) (c11:Nat) (p12:Option Addr) (c12:Nat) (cs5:List Value),o0=(t74,nest2,steps2,out2)∧I.le I'∧(S4 I' p11 nest2 c11)∧(RL I' cs5 out2)∧hs'=[hB r0 [vS p11 nest2 c11,vI steps2,vS p12 out2 c12],hO (List Int) (vS p12 out2 c12) cs5]∧m'=[(0,vP r0 0),(1,vS p2 point c2),(6,vI y3),(7,vI n0),(74,.bool t74)]) ?_ ?_
    · have H:=iS I;refine zR<|yG 7 [0] [(65,.bool (decide ((W ((W (steps + 1)) + 1)) > 1200)))] ?_;cases hc2:(decide ((W ((W (steps + 1)) + 1)) > 1200)) with
      | true =>
       have hM0:=zQ hc2 ho0
       try rw [hc2]
       exact yF [] [(74,vY)]<|yV [(0,vP r0 0),(1,vS p2 point c2),(6,vI y3),(7,vI n0),(74,vY)]<|zV ⟨_,_,_,_,_,_,_,_,_,(zB hM0).symm,H,h12,h13,rfl,rfl⟩
      | false =>
       have hM01:=zN hc2 ho0
       try rw [hc2]
       refine yG 9 [] [(66,vP r0 0),(67,vS p2 point c2)] ?_;obtain ⟨y4,hy4,N⟩:=zC hM01;refine xX (nG point _ hy4 h2) ?_;rintro I06 hs2 v2 k2 le5 - ⟨p13,c13,cs6,rfl,rfl,h18⟩ -;have h12:=h12.mono le5;have h13:=iM le5 h13;have H:=H.trans le5;refine yG 11 [] [(69,vI n0)]<|xW [vI n0] Int ?_;intro b1 hb1;have h19:RL I06 [vI n0] ([n0]:List Int):=⟨[vI n0],_,rfl,rfl,rfl,rfl⟩;obtain ⟨l1,hy5,N⟩:=zC N;refine qZ 3 1 1 rfl rfl rfl h18 (.inr ⟨0,rfl⟩) h19 hy5 fun p14 c14 cs7 h20=>rP (yH [1,2,3] (hs':=[hO Int (vS p14 l1 c14) cs7,hB r0 [vS p7 nest c7,vI (W (steps + 1)),vS p8 out c8],hO (List Int) (vS p8 out c8) cs3]))<|yJ 0 rfl ?_;intro I07 le6 hl02;have h21:=SL.of_frozen hl02 le6 h20;have h12:=h12.mono le6;have h13:=iM le6 h13;have H:=H.trans le6;obtain ⟨⟨y6,y7⟩,hy6,N⟩:=zC N;refine tF [hB r0 [vS p7 nest c7,vI (W (steps + 1)),vS p8 out c8],hO (List Int) (vS p8 out c8) cs3] [] (ih_impl_walking_walk (tC.mk nest (W (steps + 1)) out) l1 _ hy6 h12 h13 h21) ?_;rintro I08 hs2 v2 k2 le7 - ⟨v04,p15,c15,p16,c16,cs8,rfl,rfl,rfl,h23,h24⟩ -;have H:=H.trans le7;exact yF [] [(74,.bool (!y6))]<|yV [(0,vP r0 0),(1,vS p2 point c2),(6,vI y3),(7,vI n0),(74,.bool (!y6))]<|zV ⟨_,_,_,_,_,_,_,_,_,(zB N).symm,H,h23,h24,rfl,rfl⟩
    rintro I05 hs2 m2 ⟨t74,nest2,steps2,out2,p11,c11,p12,c12,cs5,heq,le8,h16,h17,rfl,rfl⟩;subst o0;have h2:=h2.mono le8;have H:=H.trans le8;refine zE<|yO hMc ?_ ?_
    · intro hc3 N;exact yI [(4,vF)]<|zE<|yC<|yA<|zK<|zK<|hr _ _ _ _ (zB N).symm H ⟨_,_,(.tmp rfl ResV.nil),(yD [0,1] rfl (by decide)),⟨_,_,_,_,_,_,rfl,rfl,rfl,h16,h17⟩⟩
    intro hc3 N;exact zZ<|zU<|zE<|zR<|yF [] [(7,vI (W (n0 + 1)))]<|xE<|vM [(0,vP r0 0),(1,vS p2 point c2),(6,vI y3),(7,vI (W (n0 + 1)))]<|ih_impl_walking_walk_l1 point y3 (W (n0 + 1)) nest2 steps2 out2 _ N H h2 h16 h17 hg ho hx hr
  intro hc1 N;exact xC<|zO<|zO<|yV []<|hx _ _ _ _ _ _ _ _ _ (zB N).symm H h12 h13
theorem zAN:∀ w0 point r,uW w0 point=some r→∀ {I:Imm}{r0:Nat}{p c p1 c1 cs p2 c2},(S4 I p w0.nest c)→(RL I cs w0.out)→(S4 I p2 point c2)→Ret Tryz.prog 160 [vP r0 0,vS p2 point c2] I [hB r0 [vS p w0.nest c,vI w0.steps,vS p1 w0.out c1],hO (List Int) (vS p1 w0.out c1) cs] (nR r0 r):=dR.1
def oH (nest:(List zD)):Option ((List (List Int))×Bool):=do
 let y←pM nest
 if (!y) then
  pure (([]:List (List Int)),false)
 else
  let (y2,y3)←uW (tC.mk nest 0 ([]:List (List Int))) ([]:List Int)
  if (!y2) then
   pure (([]:List (List Int)),false)
  else
   pure (y3.out,true)
theorem zBG:∀ nest r,oH nest=some r→∀ {I:Imm}{p c},(S4 I p nest c)→Ret Tryz.prog 117 [vS p nest c] I [] (jF  r):=by
 intro nest r N I p c h;unfold oH at N;refine yB (fn:=Tryz.f117) (c:=(bodyOf Tryz.f117)) Tryz.func117 rfl rfl ?_;rintro B - -;refine yI []<|yL<|yM<|yG 1 [] [(5,vS p nest c)]<|bE N fun y hy N=>vL (fF nest _ hy h) ?_;intro I0 le;have h:=h.mono le;refine yF [] [(7,.bool (!y))]<|zE<|yO N ?_ ?_
 · intro hc N;refine yI [(2,z0),(3,vF)]<|zE<|yC<|zK ?_;obtain rfl:=zB N;exact xM ⟨_,_,(.tmp rfl (.tmp rfl ResV.nil)),zT,⟨_,_,rfl,rfl,(SL.nil _),rfl⟩⟩
 intro hc N;refine zZ<|xP<|yG 2 [] [(9,vA [vS p nest c,vI 0,z0])]<|tD [vS p nest c,vI 0,z0] ?_;intro b hb;refine yF [] [(4,vP b 0)]<|yL<|yM<|yG 1 [] [(11,vP b 0)]<|rP (tE (Rp.sz (List Int))) ?_;have h2:RL I0 [] ([]:List (List Int)):=RepL.nil;refine rP (yH [1,0] (hs':=[hB b [vS p nest c,vI 0,vS none ([]:List (List Int)) 0],hO (List Int) (vS none ([]:List (List Int)) 0) []])) ?_;obtain ⟨⟨y2,y3⟩,hy1,N⟩:=zC N;refine tF [hB b [vS p nest c,vI 0,vS none ([]:List (List Int)) 0],hO (List Int) (vS none ([]:List (List Int)) 0) []] [] (zAN (tC.mk nest 0 ([]:List (List Int))) ([]:List Int) _ hy1 h h2 (SL.nil _)) ?_;rintro I01 hs2 v2 k2 le1 - ⟨v01,p1,c1,p2,c2,cs,rfl,rfl,rfl,h4,h5⟩ -;refine yF [] [(13,.bool (!y2))]<|zE<|yO N ?_ ?_
 · intro hc1 N;refine yI [(2,z0),(3,vF)]<|zE<|yC<|zK ?_;obtain rfl:=zB N;exact xM ⟨_,_,(.tmp rfl (.tmp rfl ResV.nil)),zT,⟨_,_,rfl,rfl,(SL.nil _),rfl⟩⟩
 intro hc1 N;refine zZ<|xP<|yF [0] [(2,vS p2 y3.out c2),(3,vY)]<|zE<|yC<|xO 1 rfl ?_;intro I02 le2 hl0;have h6:=SL.of_frozen hl0 le2 h5;obtain rfl:=zB N;exact xM ⟨_,_,(.tmp rfl (.tmp rfl ResV.nil)),zT,⟨_,_,rfl,rfl,h6,rfl⟩⟩
def rR (hsF:List HA) (r:Int):KT:=fun kk I' hs' v=>
  ∃ v0,hsF=hs'∧v=tupV [v0]∧v0=.int .i64 r
def xF (s:(List zP)) (f0:(zP→Option Bool)) (t8:Int):Option (Out Unit (Int)):=do
 if (decide (t8 < (s.length:Int))) then
  let x←idx s t8
  let y←f0 x
  if y then
   pure (.ret t8)
  else
   xF s f0 (W (t8 + 1))
 else
  pure (.done ())
 partial_fixpoint
theorem nS (s:(List zP)) (f0:(zP→Option Bool)):∀ (t8:Int) (o:Out Unit (Int)),xF s f0 t8=some o→∀ {B}{I0 I:Imm}{Q p c}{fv:Value}{hsF:List HA},I0.le I→(S4 I p s c)→(FV1 Tryz.prog I hsF fv f0)→NG Q→NO Q→(∀ (I':Imm) ,o=(.done ())→I0.le I'→T 19 B Q (.exit 0) I' hsF [])→(∀ r I' hs' m',o=(.ret r)→I0.le I'→RS Tryz.prog Tryz.f161 B (rR hsF r) I' hs' m'→T 19 B Q .ret I' hs' m')→J Tryz.prog 19 B (nav (bodyOf Tryz.f161) [1,0,1,0]) Q I hsF [(0,vS p s c),(1,fv),(7,vI (s.length:Int)),(8,vI t8)]:=by
 refine xF.partial_correctness s f0 _ fun self ih t8 o N B I0 I Q p c fv hsF H h h1 hg ho hx hr=>xD hg ho<|yI [(9,.bool (decide (t8 < (s.length:Int))))]<|yL<|yO N ?_ ?_
 · intro hc N;refine zZ<|yL<|zX<|yI [(5,vI t8)]<|xP<|yG 3 [] [(11,fv),(12,vS p s c),(13,vI t8)]<|bE N fun x hy N=>wD rfl rfl h hy ?_;intro ad ccs hat hrep;obtain ⟨p1,c1,p2,c2,p3,c3,p4,c4,rfl,h2,h3,h4,h5⟩:=qK hrep;refine xT 0 hat (cStmt x p1 c1 p2 c2 p3 c3 p4 c4) (vA (cStmt x p1 c1 p2 c2 p3 c3 p4 c4)) rfl<|bE N fun y hy1 N=>zGR rfl rfl h1 hy1 ⟨_,rfl,(wQ ⟨_,_,_,_,rfl,h2,h3,h4,h5⟩)⟩ (List.append_nil _).symm ?_;rintro I0 v04 le rfl;refine uY (hs':=hsF) (List.append_nil _) ?_;have h:=h.mono le;have h1:=h1.mono le;have H:=H.trans le;refine yN rfl<|zE<|yO N ?_ ?_
   · intro hc1 N;exact yI [(4,vI t8)]<|zE<|yC<|yA<|zK<|zK<|hr _ _ _ _ (zB N).symm H ⟨_,_,(.tmp rfl ResV.nil),(fun _ h=>h),⟨_,rfl,rfl,rfl⟩⟩
   intro hc1 N;exact zZ<|zU<|zE<|zR<|yF [] [(8,vI (W (t8 + 1)))]<|xE<|vM [(0,vS p s c),(1,fv),(7,vI (s.length:Int)),(8,vI (W (t8 + 1)))]<|ih (W (t8 + 1)) _ N H h h1 hg ho hx hr
 intro hc N;exact xC<|zO<|zO<|yV []<|hx _  (zB N).symm H
def vC (s:(List zP)) (f0:(zP→Option Bool)):Option (Int):=do
 match←xF s f0 0 with
 | .ret r0=>pure r0
 | .done _ =>
  pure (-1)
theorem mF:∀ s f0 r,vC s f0=some r→∀ {I:Imm}{p c}{fv:Value}{hsF:List HA},(S4 I p s c)→(FV1 Tryz.prog I hsF fv f0)→Ret Tryz.prog 161 [vS p s c,fv] I hsF (rR hsF r):=by
 intro s f0 r N I p c fv hsF h h1;unfold vC at N;refine yB (fn:=Tryz.f161) (c:=(bodyOf Tryz.f161)) Tryz.func161 rfl rfl ?_;rintro B - -;refine yI []<|yL<|yI [(7,vI (s.length:Int)),(8,vI 0)]<|zE<|zX<|vM [(0,vS p s c),(1,fv),(7,vI (s.length:Int)),(8,vI 0)] ?_;obtain ⟨o0,ho0,hMl⟩:=zC N;refine nS s f0 0 o0 ho0 iR h h1 (fun _ _ _ h=>h) (fun _ _ h=>h) ?_ ?_
 · intro I01  heq le1;subst o0;refine zY<|vO [(4,vI (-1))]<|zE<|yC ?_;obtain rfl:=zB hMl;exact xM ⟨_,_,(.tmp rfl ResV.nil),(fun _ h=>h),⟨_,rfl,rfl,rfl⟩⟩
 intro r0 I9 hs9 m9 heq9 le9 hrs9;subst heq9;refine yA<|zK ?_;obtain rfl:=zB hMl;exact xM hrs9
def nH (hsF:List HA) (r:Bool):KT:=fun kk I' hs' v=>
  ∃ v0,hsF=hs'∧v=tupV [v0]∧v0=.bool r
def xU (s:(List zP)) (f0:(zP→Option Bool)):Option (Bool):=do
 let y←vC s f0
 pure (decide (y ≥ 0))
theorem nT:∀ s f0 r,xU s f0=some r→∀ {I:Imm}{p c}{fv:Value}{hsF:List HA},(S4 I p s c)→(FV1 Tryz.prog I hsF fv f0)→Ret Tryz.prog 118 [vS p s c,fv] I hsF (nH hsF r):=by
 intro s f0 r N I p c fv hsF h h1;unfold xU at N;refine yB (fn:=Tryz.f118) (c:=(bodyOf Tryz.f118)) Tryz.func118 rfl rfl ?_;rintro B - -;refine yI []<|xP<|yG 2 [] [(5,vS p s c),(6,fv)]<|bE N fun y hy N=>zCD (hs1:=hsF) (rest:=[]) rfl rfl rfl rfl (by kernel_rfl) rfl (List.append_nil _).symm (mF s f0 _ hy h h1) ?_;rintro I0 hs2 v2 k2 le - ⟨v0,rfl,rfl,rfl⟩ -;refine uY (hs':=hsF) (List.append_nil _) ?_;refine yF [] [(4,.bool (decide (y ≥ 0)))]<|zE<|yC ?_;obtain rfl:=zB N;exact xM ⟨_,_,(.tmp rfl ResV.nil),(fun _ h=>h),⟨_,rfl,rfl,rfl⟩⟩
def rK (s:zA) (x:Int):Option (Bool):=do
 let t3←(do
   let y←sO s
   if (!y) then
    pure true
   else
    let y1←tZ s
    pure (decide (y1 > x))
     : Option Bool)
 pure (id t3)
theorem zBH:∀ s x r,rK s x=some r→∀ {I:Imm}{p c}{ad:Addr},(S4 I p s.Coefs c)→(At I ad [vI x])→Ret Tryz.prog 105 [vA (cAff s p c),.pointer (some ad)] I [] (zW  r):=by
 intro s x r N I p c ad h hat;unfold rK at N;refine yB (fn:=Tryz.f105) (c:=(bodyOf Tryz.f105)) Tryz.func105 rfl rfl ?_;rintro B - -;have H:=iS I;refine yM<|tD (cAff s p c) ?_;intro b hb;refine yF [] []<|zE<|yK ?_;obtain ⟨o0,ho0,hMc⟩:=zC N;refine yU (fun I' hs' m'=>∃ (t3:Bool),o0=t3∧I.le I'∧hs'=[]∧m'=[(3,.bool t3)]) ?_ ?_
 · have H:=iS I;obtain ⟨y,hy,N⟩:=zC ho0;cases hc:(!y) with
   | true =>
    have hM0:=zQ hc N;refine vK [.p (vA (cAff s p c)) [0],.q (.bool y),.q vY,.q vY,.p undef [],.p undef [],.p undef [],.p undef [],.p vY []] [[],[(0,false)],[(1,false)],[(2,false)],[(3,false)],[(3,false),(4,false)],[(3,false)],[(3,false),(5,false),(6,false)],[(3,false),(7,false)]] [hB b (cAff s p c)] [] [(8,false)] (yH [0]) ?_ ?_
    · refine Op<|Oq ?_<|Oq ?_<|Oq ?_<|Op<|Op<|Op<|Op<|Op<|On
      · intro I1 hf le1;refine yX [(4,vA (cAff s p c))] ?_;have H:=iS I1;have h:=h.mono le1;refine vL (pC s _ hy h) ?_;intro I01 le;have H:=H.trans le;exact xJ H
      · intro I1 hf le1;refine yX [(5,.bool y)]<|qO 3 [(6,.bool (!y))] ?_;rw [hc];exact xJ iR
      intro I1 hf le1;exact yX [(6,vY)]<|qO 4 [(7,vY)]<|xJ iR
    intro I02 le1;refine yX [(12,vY)] ?_;have H:=H.trans le1;exact yF [] [(3,vY)]<|wB zT<|yV [(3,vY)]<|zV ⟨_,(zB hM0).symm,H,rfl,rfl⟩
   | false =>
    have hM01:=zN hc N;obtain ⟨y1,hy1,N⟩:=zC hM01;refine vK [.p (vA (cAff s p c)) [0],.q (.bool y),.q vF,.q vF,.p (vA (cAff s p c)) [0],.q (vI y1),.q (vI x),.p (.bool (decide (y1 > x))) [],.p (.bool (decide (y1 > x))) []] [[],[(0,false)],[(1,false)],[(2,false)],[(3,false)],[(3,false),(4,false)],[(3,false)],[(3,false),(5,false),(6,false)],[(3,false),(7,false)]] [hB b (cAff s p c)] [] [(8,false)] (yH [0]) ?_ ?_
    · refine Op<|Oq ?_<|Oq ?_<|Oq ?_<|Op<|Oq ?_<|Oq ?_<|Op<|Op<|On
      · intro I1 hf le1;refine yX [(4,vA (cAff s p c))] ?_;have H:=iS I1;have h:=h.mono le1;refine vL (pC s _ hy h) ?_;intro I01 le;have H:=H.trans le;exact xJ H
      · intro I1 hf le1;refine yX [(5,.bool y)]<|qO 3 [(6,.bool (!y))] ?_;rw [hc];exact xJ iR
      · intro I1 hf le1;exact yX [(6,vF)]<|qO 4 [(7,vF)]<|xJ iR
      · intro I1 hf le1;refine yX [(7,vF),(8,vA (cAff s p c))] ?_;have H:=iS I1;have h:=h.mono le1;refine kD (mO s _ hy1 h) ?_;intro I03 le2;have H:=H.trans le2;exact xJ H
      intro I1 hf le1;refine yX [(1,.pointer (some ad)),(7,vF)] ?_;have hat:=hat.mono le1;exact xT 0 hat [vI x] (vI x) rfl<|xJ iR
    intro I04 le3;refine yX [(12,.bool (decide (y1 > x)))] ?_;have H:=H.trans le3;exact yF [] [(3,.bool (decide (y1 > x)))]<|wB zT<|yV [(3,.bool (decide (y1 > x)))]<|zV ⟨_,(zB N).symm,H,rfl,rfl⟩
 rintro I0 hs2 m2 ⟨t3,heq,le4,rfl,rfl⟩;subst o0;refine zE<|yC ?_;obtain rfl:=zB hMc;exact vQ
def oC (a0:zI) (depth:Int):Option (Bool):=do
 let t4←(do
   let y←nF a0.Array
   if y then
    let y1←xV (a0.Subs.length:Int) 1 2
    if y1 then
     let y2←xH a0.Subs (fun x0=>rK x0 depth)
     pure (!y2)
    else
     pure false
   else
    pure false
     : Option Bool)
 pure (id t4)
theorem eF:∀ a0 depth r,oC a0 depth=some r→∀ {I:Imm}{p c},(S4 I p a0.Subs c)→Ret Tryz.prog 54 [vA (cAccess a0 p c),vI depth] I [] (zW  r):=by
 intro a0 depth r N I p c h;unfold oC at N;refine yB (fn:=Tryz.f54) (c:=(bodyOf Tryz.f54)) Tryz.func54 rfl rfl ?_;rintro B - -;have H:=iS I;refine yM<|tD (cAccess a0 p c) ?_;intro b hb;refine tD [vI depth] ?_;intro b1 hb1;refine yJ 0 rfl ?_;intro I0 le hl0;have hat:At I0 ⟨b1,0,none⟩ [vI depth]:=At.of_blk hl0;have h:=h.mono le;have H:=H.trans le;refine yF [] []<|zE<|yK ?_;obtain ⟨o0,ho0,hMc⟩:=zC N;refine yU (fun I' hs' m'=>∃ (t4:Bool),o0=t4∧I0.le I'∧hs'=[]∧m'=[(4,.bool t4)]) ?_ ?_
 · have H:=iS I0;refine zR<|yG 2 [0] [(6,vT a0.Array.l)] ?_;obtain ⟨y,hy,N⟩:=zC ho0;refine vL (qX a0.Array _ hy ) ?_;intro I02 le1;have hat:=hat.mono le1;have h:=h.mono le1;have H:=H.trans le1;refine yG 4 [] [(8,.bool y)] ?_;cases hc:y with
   | true =>
    have hM0:=zQ hc N
    try rw [hc]
    refine yG 7 [0] [(11,vI (a0.Subs.length:Int))] ?_;obtain ⟨y1,hy1,N⟩:=zC hM0;refine vL (xR (a0.Subs.length:Int) 1 2 _ hy1 ) ?_;intro I03 le2;have hat:=hat.mono le2;have h:=h.mono le2;have H:=H.trans le2;refine yG 10 [] [(14,.bool y1)] ?_;cases hc1:y1 with
    | true =>
     have hM01:=zQ hc1 N
     try rw [hc1]
     refine yG 13 [0] [(16,vS p a0.Subs c),(17,.func (.func 105) ⟨[]⟩ ⟨[vP b1 0]⟩)] ?_;have hf0:FV1 Tryz.prog I03 [] (.func (.func 105) ⟨[]⟩ ⟨[vP b1 0]⟩) (fun x0=>rK x0 depth):=by
       refine FV1.intro ?_;intro I1 le1 x0 r u0 hF k0;obtain ⟨_,rfl,k0⟩:=k0;obtain ⟨p1,c1,rfl,h3⟩:=yQ k0;exact (zBH x0 depth r hF h3 (hat.mono le1)).mono (by rintro k i hs u ⟨v0,rfl,rfl,h⟩; exact ⟨rfl,h⟩)
     obtain ⟨y2,hy2,N⟩:=zC hM01;refine xX (sH a0.Subs (fun x0=>rK x0 depth) _ hy2 h hf0) ?_;rintro I04 hs2 v2 k2 le3 - ⟨v03,rfl,rfl,rfl⟩ -;have H:=H.trans le3;exact yF [] [(4,.bool (!y2))]<|wB zT<|yV [(4,.bool (!y2))]<|zV ⟨_,(zB N).symm,H,rfl,rfl⟩
    | false =>
     have hM02:=zN hc1 N
     try rw [hc1]
     exact yF [] [(4,vF)]<|wB zT<|yV [(4,vF)]<|zV ⟨_,(zB hM02).symm,H,rfl,rfl⟩
   | false =>
    have hM03:=zN hc N
    try rw [hc]
    exact yF [] [(4,vF)]<|wB zT<|yV [(4,vF)]<|zV ⟨_,(zB hM03).symm,H,rfl,rfl⟩
 rintro I01 hs2 m2 ⟨t4,heq,le4,rfl,rfl⟩;subst o0;refine zE<|yC ?_;obtain rfl:=zB hMc;exact vQ
def oD (a0:zA):Option (Bool):=do
 let t2←(do
   if ((a0.Coefs.length:Int) == 0) then
    pure (a0.Const == 0)
   else
    pure false
     : Option Bool)
 pure (id t2)
theorem eG:∀ a0 r,oD a0=some r→∀ {I:Imm}{p c},(S4 I p a0.Coefs c)→Ret Tryz.prog 153 [vA (cAff a0 p c)] I [] (zW  r):=by
 intro a0 r N I p c h;unfold oD at N;refine yB (fn:=Tryz.f153) (c:=(bodyOf Tryz.f153)) Tryz.func153 rfl rfl ?_;rintro B - -;have H:=iS I;refine yM<|tD (cAff a0 p c) ?_;intro b hb;refine yF [] []<|zE<|yK ?_;obtain ⟨o0,ho0,hMc⟩:=zC N;refine yU (fun I' hs' m'=>∃ (t2:Bool),o0=t2∧I.le I'∧hs'=[]∧m'=[(2,.bool t2)]) ?_ ?_
 · have H:=iS I;refine zR<|yG 5 [0] [(7,.bool ((a0.Coefs.length:Int) == 0))] ?_;cases hc:((a0.Coefs.length:Int) == 0) with
   | true =>
    have hM0:=zQ hc ho0
    try rw [hc]
    exact yF [0] [(2,.bool (a0.Const == 0))]<|wB zT<|yV [(2,.bool (a0.Const == 0))]<|zV ⟨_,(zB hM0).symm,H,rfl,rfl⟩
   | false =>
    have hM01:=zN hc ho0
    try rw [hc]
    exact yF [] [(2,vF)]<|wB zT<|yV [(2,vF)]<|zV ⟨_,(zB hM01).symm,H,rfl,rfl⟩
 rintro I0 hs2 m2 ⟨t2,heq,le,rfl,rfl⟩;subst o0;refine zE<|yC ?_;obtain rfl:=zB hMc;exact vQ
def rS (a0:zI):Option (Bool):=do
 let t2←(do
   if (a0.Array.l == ([]:List UInt8)) then
    pure ((a0.Subs.length:Int) == 0)
   else
    pure false
     : Option Bool)
 pure (id t2)
theorem mS:∀ a0 r,rS a0=some r→∀ {I:Imm}{p c},(S4 I p a0.Subs c)→Ret Tryz.prog 154 [vA (cAccess a0 p c)] I [] (zW  r):=by
 intro a0 r N I p c h;unfold rS at N;refine yB (fn:=Tryz.f154) (c:=(bodyOf Tryz.f154)) Tryz.func154 rfl rfl ?_;rintro B - -;have H:=iS I;refine yM<|tD (cAccess a0 p c) ?_;intro b hb;refine yF [] []<|zE<|yK ?_;obtain ⟨o0,ho0,hMc⟩:=zC N;refine yU (fun I' hs' m'=>∃ (t2:Bool),o0=t2∧I.le I'∧hs'=[]∧m'=[(2,.bool t2)]) ?_ ?_
 · have H:=iS I;refine zR<|yG 4 [0] [(6,.bool (a0.Array.l == ([]:List UInt8)))] ?_;cases hc:(a0.Array.l == ([]:List UInt8)) with
   | true =>
    have hM0:=zQ hc ho0
    try rw [hc]
    exact yF [0] [(2,.bool ((a0.Subs.length:Int) == 0))]<|wB zT<|yV [(2,.bool ((a0.Subs.length:Int) == 0))]<|zV ⟨_,(zB hM0).symm,H,rfl,rfl⟩
   | false =>
    have hM01:=zN hc ho0
    try rw [hc]
    exact yF [] [(2,vF)]<|wB zT<|yV [(2,vF)]<|zV ⟨_,(zB hM01).symm,H,rfl,rfl⟩
 rintro I0 hs2 m2 ⟨t2,heq,le,rfl,rfl⟩;subst o0;refine zE<|yC ?_;obtain rfl:=zB hMc;exact vQ
def jI (kind:Int):Option (Bool):=do
 let y←xV kind 4 6
 pure (id y)
theorem zEn:∀ kind r,jI kind=some r→∀ {I:Imm} ,Ret Tryz.prog 155 [vI kind] I [] (zW  r):=by
 intro kind r N I;unfold jI at N;refine yB (fn:=Tryz.f155) (c:=(bodyOf Tryz.f155)) Tryz.func155 rfl rfl ?_;rintro B - -;refine yI []<|xP<|yG 1 [] [(3,vI kind)]<|bE N fun y hy N=>vL (xR kind 4 6 _ hy ) fun I0 le=>yF [] [(2,.bool y)]<|zE<|yC ?_;obtain rfl:=zB N;exact vQ
def zBI (b0:Nat) (r:Bool×Int):KT:=fun kk I' hs' v=>
  ∃ v0 k0,hs'=[.blk b0 ⟨k0⟩]∧v=tupV [v0]∧v0=.bool r.1∧Rp.rep I' k0 r.2
def vV (e0:zF) (depth:Int) (deep:Int) (count:Int):Option (Bool×Int):=do
 let t21←(do
   if (decide ((W (count + 1)) > 12)) then
    pure true
   else
    pure (decide (deep > 5))
     : Option Bool)
 if t21 then
  pure (false,(W (count + 1)))
 else
  let t51←(do
    if (e0.Kind != 1) then
     if (e0.Num != 0) then
      pure true
     else
      if (e0.Kind != 2) then
       let y←oD e0.Index
       if (!y) then
        pure true
       else
        if (e0.Kind != 3) then
         let y1←rS e0.Read
         pure (!y1)
        else
         pure false
      else
       if (e0.Kind != 3) then
        let y2←rS e0.Read
        pure (!y2)
       else
        pure false
    else
     if (e0.Kind != 2) then
      let y3←oD e0.Index
      if (!y3) then
       pure true
      else
       if (e0.Kind != 3) then
        let y4←rS e0.Read
        pure (!y4)
       else
        pure false
     else
      if (e0.Kind != 3) then
       let y5←rS e0.Read
       pure (!y5)
      else
       pure false
      : Option Bool)
  if t51 then
   pure (false,(W (count + 1)))
  else
   if (e0.Kind == 1) then
    let t8←(do
      let y6←xV e0.Num 0 99
      if y6 then
       pure ((e0.Kids.length:Int) == 0)
      else
       pure false
        : Option Bool)
    pure (t8,(W (count + 1)))
   else
    if (e0.Kind == 2) then
     let t81←(do
       let y7←sO e0.Index
       if y7 then
        let y8←tZ e0.Index
        if (decide (y8 ≤ depth)) then
         pure ((e0.Kids.length:Int) == 0)
        else
         pure false
       else
        pure false
         : Option Bool)
     pure (t81,(W (count + 1)))
    else
     if (e0.Kind == 3) then
      let t82←(do
        let y9←oC e0.Read depth
        if y9 then
         pure ((e0.Kids.length:Int) == 0)
        else
         pure false
          : Option Bool)
      pure (t82,(W (count + 1)))
     else
      let t99←(do
        let y10←jI e0.Kind
        if (!y10) then
         pure true
        else
         pure ((e0.Kids.length:Int) != 2)
          : Option Bool)
      if t99 then
       pure (false,(W (count + 1)))
      else
       let (t83,x)←(do
         let x1←idx e0.Kids 0
         let (y12,y13)←vV (same x1) (same depth) (W (deep + 1)) (W (count + 1))
         if y12 then
          let x2←idx e0.Kids 1
          let (y15,y16)←vV (same x2) (same depth) (W (deep + 1)) (same y13)
          pure (y15,y16)
         else
          pure (false,y13)
           : Option (Bool×Int))
       pure (t83,x)
 partial_fixpoint
theorem zC4:∀ e0 depth deep count r,vV e0 depth deep count=some r→∀ {I:Imm}{p c p1 c1 p2 c2}{r0:Nat},(S4 I p e0.Index.Coefs c)→(S4 I p1 e0.Read.Subs c1)→(S4 I p2 e0.Kids c2)→Ret Tryz.prog 110 [vA (cExpr e0 p c p1 c1 p2 c2),vI depth,vI deep,vP r0 0] I [hB r0 [vI count]] (zBI r0 r):=by
 refine vV.partial_correctness _ fun F_impl_exprScan ih_impl_exprScan e0 depth deep count r N I p c p1 c1 p2 c2 r0 h h1 h2=>yB (fn:=Tryz.f110) (c:=(bodyOf Tryz.f110)) Tryz.func110 rfl rfl ?_;rintro B - -;have H:=iS I;refine yM<|tD (cExpr e0 p c p1 c1 p2 c2) ?_;intro b hb;refine yF [] []<|xP<|yG 5 [1] [(12,vI (W (count + 1))),(13,vP r0 0)]<|xN 1 [vI (W (count + 1))] [hB b (cExpr e0 p c p1 c1 p2 c2),hB r0 [vI (W (count + 1))]] rfl rfl rfl rfl<|yN rfl<|yL<|yK ?_;obtain ⟨o0,ho0,hMc⟩:=zC N;refine yU (fun I' hs' m'=>∃ (t21:Bool),o0=t21∧I.le I'∧hs'=[hB b (cExpr e0 p c p1 c1 p2 c2),hB r0 [vI (W (count + 1))]]∧m'=[(1,vI depth),(2,vI deep),(3,vP r0 0),(4,vP b 0),(21,.bool t21)]) ?_ ?_
 · have H:=iS I;refine zR<|yG 5 [1] [(18,.bool (decide ((W (count + 1)) > 12)))] ?_;cases hc:(decide ((W (count + 1)) > 12)) with
   | true =>
    have hM0:=zQ hc ho0
    try rw [hc]
    exact yF [] [(21,vY)]<|yV [(1,vI depth),(2,vI deep),(3,vP r0 0),(4,vP b 0),(21,vY)]<|zV ⟨_,(zB hM0).symm,H,rfl,rfl⟩
   | false =>
    have hM01:=zN hc ho0
    try rw [hc]
    exact yF [] [(21,.bool (decide (deep > 5)))]<|yV [(1,vI depth),(2,vI deep),(3,vP r0 0),(4,vP b 0),(21,.bool (decide (deep > 5)))]<|zV ⟨_,(zB hM01).symm,H,rfl,rfl⟩
 rintro I0 hs2 m2 ⟨t21,heq,le,rfl,rfl⟩;subst o0;have h:=h.mono le;have h1:=h1.mono le;have h2:=h2.mono le;have H:=H.trans le;refine zE<|yO hMc ?_ ?_
 · intro hc1 N;refine yI [(8,vF)]<|zE<|yC<|zK ?_;obtain rfl:=zB N;exact xM ⟨_,_,(.tmp rfl ResV.nil),(yD [1] rfl (by decide)),⟨_,_,rfl,rfl,rfl,rfl⟩⟩
 intro hc1 N;refine zZ<|yL<|yK ?_;obtain ⟨o01,ho01,hMc1⟩:=zC N;refine yU (fun I' hs' m'=>∃ (t51:Bool),o01=t51∧I0.le I'∧hs'=[hB b (cExpr e0 p c p1 c1 p2 c2),hB r0 [vI (W (count + 1))]]∧m'=[(1,vI depth),(2,vI deep),(3,vP r0 0),(4,vP b 0),(51,.bool t51)]) ?_ ?_
 · have H:=iS I0;refine zR<|yG 4 [0] [(25,.bool (e0.Kind != 1))] ?_;cases hc2:(e0.Kind != 1) with
   | true =>
    have hM02:=zQ hc2 ho01
    try rw [hc2]
    refine yG 9 [0] [(30,.bool (e0.Num != 0))] ?_;cases hc3:(e0.Num != 0) with
    | true =>
     have hM03:=zQ hc3 hM02
     try rw [hc3]
     exact yF [] [(51,vY)]<|yV [(1,vI depth),(2,vI deep),(3,vP r0 0),(4,vP b 0),(51,vY)]<|zV ⟨_,(zB hM03).symm,H,rfl,rfl⟩
    | false =>
     have hM04:=zN hc3 hM02
     try rw [hc3]
     refine yG 13 [0] [(34,.bool (e0.Kind != 2))] ?_;cases hc4:(e0.Kind != 2) with
     | true =>
      have hM05:=zQ hc4 hM04
      try rw [hc4]
      refine yG 15 [0] [(36,vA (cAff e0.Index p c))] ?_;obtain ⟨y,hy,N⟩:=zC hM05;refine vL (eG e0.Index _ hy h) ?_;intro I02 le1;have h1:=h1.mono le1;have H:=H.trans le1;refine yG 20 [] [(41,.bool (!y))] ?_;cases hc5:(!y) with
      | true =>
       have hM06:=zQ hc5 N
       try rw [hc5]
       exact yF [] [(51,vY)]<|yV [(1,vI depth),(2,vI deep),(3,vP r0 0),(4,vP b 0),(51,vY)]<|zV ⟨_,(zB hM06).symm,H,rfl,rfl⟩
      | false =>
       have hM07:=zN hc5 N
       try rw [hc5]
       refine yG 24 [0] [(45,.bool (e0.Kind != 3))] ?_;cases hc6:(e0.Kind != 3) with
       | true =>
        have hM08:=zQ hc6 hM07
        try rw [hc6]
        refine yG 26 [0] [(47,vA (cAccess e0.Read p1 c1))] ?_;obtain ⟨y1,hy1,N⟩:=zC hM08;refine vL (mS e0.Read _ hy1 h1) ?_;intro I03 le2;have H:=H.trans le2;exact yF [] [(51,.bool (!y1))]<|yV [(1,vI depth),(2,vI deep),(3,vP r0 0),(4,vP b 0),(51,.bool (!y1))]<|zV ⟨_,(zB N).symm,H,rfl,rfl⟩
       | false =>
        have hM09:=zN hc6 hM07
        try rw [hc6]
        exact yF [] [(51,vF)]<|yV [(1,vI depth),(2,vI deep),(3,vP r0 0),(4,vP b 0),(51,vF)]<|zV ⟨_,(zB hM09).symm,H,rfl,rfl⟩
     | false =>
      have hM010:=zN hc4 hM04
      try rw [hc4]
      refine yG 24 [0] [(41,vF),(45,.bool (e0.Kind != 3))] ?_;cases hc7:(e0.Kind != 3) with
      | true =>
       have hM011:=zQ hc7 hM010
       try rw [hc7]
       refine yG 26 [0] [(47,vA (cAccess e0.Read p1 c1))] ?_;obtain ⟨y2,hy2,N⟩:=zC hM011;refine vL (mS e0.Read _ hy2 h1) ?_;intro I04 le3;have H:=H.trans le3;exact yF [] [(51,.bool (!y2))]<|yV [(1,vI depth),(2,vI deep),(3,vP r0 0),(4,vP b 0),(51,.bool (!y2))]<|zV ⟨_,(zB N).symm,H,rfl,rfl⟩
      | false =>
       have hM012:=zN hc7 hM010
       try rw [hc7]
       exact yF [] [(51,vF)]<|yV [(1,vI depth),(2,vI deep),(3,vP r0 0),(4,vP b 0),(51,vF)]<|zV ⟨_,(zB hM012).symm,H,rfl,rfl⟩
   | false =>
    have hM013:=zN hc2 ho01
    try rw [hc2]
    refine yG 13 [0] [(30,vF),(34,.bool (e0.Kind != 2))] ?_;cases hc8:(e0.Kind != 2) with
    | true =>
     have hM014:=zQ hc8 hM013
     try rw [hc8]
     refine yG 15 [0] [(36,vA (cAff e0.Index p c))] ?_;obtain ⟨y3,hy3,N⟩:=zC hM014;refine vL (eG e0.Index _ hy3 h) ?_;intro I05 le4;have h1:=h1.mono le4;have H:=H.trans le4;refine yG 20 [] [(41,.bool (!y3))] ?_;cases hc9:(!y3) with
     | true =>
      have hM015:=zQ hc9 N
      try rw [hc9]
      exact yF [] [(51,vY)]<|yV [(1,vI depth),(2,vI deep),(3,vP r0 0),(4,vP b 0),(51,vY)]<|zV ⟨_,(zB hM015).symm,H,rfl,rfl⟩
     | false =>
      have hM016:=zN hc9 N
      try rw [hc9]
      refine yG 24 [0] [(45,.bool (e0.Kind != 3))] ?_;cases hc10:(e0.Kind != 3) with
      | true =>
       have hM017:=zQ hc10 hM016
       try rw [hc10]
       refine yG 26 [0] [(47,vA (cAccess e0.Read p1 c1))] ?_;obtain ⟨y4,hy4,N⟩:=zC hM017;refine vL (mS e0.Read _ hy4 h1) ?_;intro I06 le5;have H:=H.trans le5;exact yF [] [(51,.bool (!y4))]<|yV [(1,vI depth),(2,vI deep),(3,vP r0 0),(4,vP b 0),(51,.bool (!y4))]<|zV ⟨_,(zB N).symm,H,rfl,rfl⟩
      | false =>
       have hM018:=zN hc10 hM016
       try rw [hc10]
       exact yF [] [(51,vF)]<|yV [(1,vI depth),(2,vI deep),(3,vP r0 0),(4,vP b 0),(51,vF)]<|zV ⟨_,(zB hM018).symm,H,rfl,rfl⟩
    | false =>
     have hM019:=zN hc8 hM013
     try rw [hc8]
     refine yG 24 [0] [(41,vF),(45,.bool (e0.Kind != 3))] ?_;cases hc11:(e0.Kind != 3) with
     | true =>
      have hM020:=zQ hc11 hM019
      try rw [hc11]
      refine yG 26 [0] [(47,vA (cAccess e0.Read p1 c1))] ?_;obtain ⟨y5,hy5,N⟩:=zC hM020;refine vL (mS e0.Read _ hy5 h1) ?_;intro I07 le6;have H:=H.trans le6;exact yF [] [(51,.bool (!y5))]<|yV [(1,vI depth),(2,vI deep),(3,vP r0 0),(4,vP b 0),(51,.bool (!y5))]<|zV ⟨_,(zB N).symm,H,rfl,rfl⟩
     | false =>
      have hM021:=zN hc11 hM019
      try rw [hc11]
      exact yF [] [(51,vF)]<|yV [(1,vI depth),(2,vI deep),(3,vP r0 0),(4,vP b 0),(51,vF)]<|zV ⟨_,(zB hM021).symm,H,rfl,rfl⟩
 rintro I01 hs2 m2 ⟨t51,heq1,le7,rfl,rfl⟩;subst o01;have h:=h.mono le7;have h1:=h1.mono le7;have h2:=h2.mono le7;have H:=H.trans le7;refine zE<|yO hMc1 ?_ ?_
 · intro hc12 N;refine yI [(8,vF)]<|zE<|yC<|zK ?_;obtain rfl:=zB N;exact xM ⟨_,_,(.tmp rfl ResV.nil),(yD [1] rfl (by decide)),⟨_,_,rfl,rfl,rfl,rfl⟩⟩
 intro hc12 N;refine zZ<|yL<|zX<|yM<|yF [0] [(52,.bool (e0.Kind == 1))]<|zE<|yO N ?_ ?_
 · intro hc13 N;refine yK ?_;obtain ⟨o02,ho02,hMc2⟩:=zC N;refine yU (fun I' hs' m'=>∃ (t8:Bool),o02=t8∧I01.le I'∧hs'=[hB r0 [vI (W (count + 1))]]∧m'=[(8,.bool t8)]) ?_ ?_
   · have H:=iS I01;refine zR<|yG 2 [0] [(57,vI e0.Num)] ?_;obtain ⟨y6,hy6,N⟩:=zC ho02;refine vL (xR e0.Num 0 99 _ hy6 ) ?_;intro I09 le8;have H:=H.trans le8;refine yG 4 [] [(59,.bool y6)] ?_;cases hc14:y6 with
     | true =>
      have hM022:=zQ hc14 N
      try rw [hc14]
      exact yF [0] [(8,.bool ((e0.Kids.length:Int) == 0))]<|wB (yD [1] rfl (by decide))<|yV [(8,.bool ((e0.Kids.length:Int) == 0))]<|zV ⟨_,(zB hM022).symm,H,rfl,rfl⟩
     | false =>
      have hM023:=zN hc14 N
      try rw [hc14]
      exact yF [] [(8,vF)]<|wB (yD [1] rfl (by decide))<|yV [(8,vF)]<|zV ⟨_,(zB hM023).symm,H,rfl,rfl⟩
   rintro I08 hs2 m2 ⟨t8,heq2,le9,rfl,rfl⟩;subst o02;refine zE<|yC<|yA<|zK ?_;obtain rfl:=zB hMc2;exact xM ⟨_,_,(.tmp rfl ResV.nil),(yD [0] rfl (by decide)),⟨_,_,rfl,rfl,rfl,rfl⟩⟩
 intro hc13 N;refine yM<|yF [0] [(65,.bool (e0.Kind == 2))]<|zE<|yO N ?_ ?_
 · intro hc15 N;refine yK ?_;obtain ⟨o03,ho03,hMc3⟩:=zC N;refine yU (fun I' hs' m'=>∃ (t81:Bool),o03=t81∧I01.le I'∧hs'=[hB r0 [vI (W (count + 1))]]∧m'=[(8,.bool t81)]) ?_ ?_
   · have H:=iS I01;refine zR<|yG 2 [0] [(70,vA (cAff e0.Index p c))] ?_;obtain ⟨y7,hy7,N⟩:=zC ho03;refine vL (pC e0.Index _ hy7 h) ?_;intro I011 le10;have h:=h.mono le10;have H:=H.trans le10;refine yG 4 [] [(72,.bool y7)] ?_;cases hc16:y7 with
     | true =>
      have hM024:=zQ hc16 N
      try rw [hc16]
      refine yG 6 [0] [(74,vA (cAff e0.Index p c))] ?_;obtain ⟨y8,hy8,N⟩:=zC hM024;refine kD (mO e0.Index _ hy8 h) ?_;intro I012 le11;have H:=H.trans le11;refine yG 11 [] [(79,.bool (decide (y8 ≤ depth)))] ?_;cases hc17:(decide (y8 ≤ depth)) with
      | true =>
       have hM025:=zQ hc17 N
       try rw [hc17]
       exact yF [0] [(8,.bool ((e0.Kids.length:Int) == 0))]<|wB (yD [1] rfl (by decide))<|yV [(8,.bool ((e0.Kids.length:Int) == 0))]<|zV ⟨_,(zB hM025).symm,H,rfl,rfl⟩
      | false =>
       have hM026:=zN hc17 N
       try rw [hc17]
       exact yF [] [(8,vF)]<|wB (yD [1] rfl (by decide))<|yV [(8,vF)]<|zV ⟨_,(zB hM026).symm,H,rfl,rfl⟩
     | false =>
      have hM027:=zN hc16 N
      try rw [hc16]
      exact yF [] [(8,vF)]<|wB (yD [1] rfl (by decide))<|yV [(8,vF)]<|zV ⟨_,(zB hM027).symm,H,rfl,rfl⟩
   rintro I010 hs2 m2 ⟨t81,heq3,le12,rfl,rfl⟩;subst o03;refine zE<|yC<|yA<|zK ?_;obtain rfl:=zB hMc3;exact xM ⟨_,_,(.tmp rfl ResV.nil),(yD [0] rfl (by decide)),⟨_,_,rfl,rfl,rfl,rfl⟩⟩
 intro hc15 N;refine yM<|yF [0] [(85,.bool (e0.Kind == 3))]<|zE<|yO N ?_ ?_
 · intro hc18 N;refine yK ?_;obtain ⟨o04,ho04,hMc4⟩:=zC N;refine yU (fun I' hs' m'=>∃ (t82:Bool),o04=t82∧I01.le I'∧hs'=[hB r0 [vI (W (count + 1))]]∧m'=[(8,.bool t82)]) ?_ ?_
   · have H:=iS I01;refine zR<|yG 3 [0] [(90,vA (cAccess e0.Read p1 c1)),(91,vI depth)] ?_;obtain ⟨y9,hy9,N⟩:=zC ho04;refine vL (eF e0.Read depth _ hy9 h1) ?_;intro I014 le13;have H:=H.trans le13;refine yG 5 [] [(93,.bool y9)] ?_;cases hc19:y9 with
     | true =>
      have hM028:=zQ hc19 N
      try rw [hc19]
      exact yF [0] [(8,.bool ((e0.Kids.length:Int) == 0))]<|wB (yD [1] rfl (by decide))<|yV [(8,.bool ((e0.Kids.length:Int) == 0))]<|zV ⟨_,(zB hM028).symm,H,rfl,rfl⟩
     | false =>
      have hM029:=zN hc19 N
      try rw [hc19]
      exact yF [] [(8,vF)]<|wB (yD [1] rfl (by decide))<|yV [(8,vF)]<|zV ⟨_,(zB hM029).symm,H,rfl,rfl⟩
   rintro I013 hs2 m2 ⟨t82,heq4,le14,rfl,rfl⟩;subst o04;refine zE<|yC<|yA<|zK ?_;obtain rfl:=zB hMc4;exact xM ⟨_,_,(.tmp rfl ResV.nil),(yD [0] rfl (by decide)),⟨_,_,rfl,rfl,rfl,rfl⟩⟩
 intro hc18 N;refine yK ?_;obtain ⟨o05,ho05,hMc5⟩:=zC N;refine yU (fun I' hs' m'=>∃ (t99:Bool),o05=t99∧I01.le I'∧hs'=[hB b (cExpr e0 p c p1 c1 p2 c2),hB r0 [vI (W (count + 1))]]∧m'=[(1,vI depth),(2,vI deep),(3,vP r0 0),(4,vP b 0),(99,.bool t99)]) ?_ ?_
 · have H:=iS I01;refine zR<|yG 2 [0] [(101,vI e0.Kind)] ?_;obtain ⟨y10,hy10,N⟩:=zC ho05;refine vL (zEn e0.Kind _ hy10 ) ?_;intro I016 le15;have H:=H.trans le15;refine yG 5 [] [(104,.bool (!y10))] ?_;cases hc20:(!y10) with
   | true =>
    have hM030:=zQ hc20 N
    try rw [hc20]
    exact yF [] [(99,vY)]<|yV [(1,vI depth),(2,vI deep),(3,vP r0 0),(4,vP b 0),(99,vY)]<|zV ⟨_,(zB hM030).symm,H,rfl,rfl⟩
   | false =>
    have hM031:=zN hc20 N
    try rw [hc20]
    exact yF [0] [(99,.bool ((e0.Kids.length:Int) != 2))]<|yV [(1,vI depth),(2,vI deep),(3,vP r0 0),(4,vP b 0),(99,.bool ((e0.Kids.length:Int) != 2))]<|zV ⟨_,(zB hM031).symm,H,rfl,rfl⟩
 rintro I015 hs2 m2 ⟨t99,heq5,le16,rfl,rfl⟩;subst o05;have h2:=h2.mono le16;have H:=H.trans le16;refine zE<|yO hMc5 ?_ ?_
 · intro hc21 N;refine yI [(8,vF)]<|zE<|yC<|yA<|zK ?_;obtain rfl:=zB N;exact xM ⟨_,_,(.tmp rfl ResV.nil),(yD [1] rfl (by decide)),⟨_,_,rfl,rfl,rfl,rfl⟩⟩
 intro hc21 N;refine zZ<|zU<|zE<|yK ?_;obtain ⟨o06,ho06,hMc6⟩:=zC N;refine yU (fun I' hs' m'=>∃ (t83:Bool) (x:Int),o06=(t83,x)∧I015.le I'∧hs'=[hB r0 [vI x]]∧m'=[(8,.bool t83)]) ?_ ?_
 · have H:=iS I015;refine zR<|yG 2 [0] [(111,vS p2 e0.Kids c2)] ?_;obtain ⟨x1,hy11,N⟩:=zC ho06;refine wD rfl rfl h2 hy11 ?_;intro ad ccs hat hrep;obtain ⟨p3,c3,p4,c4,p5,c5,rfl,h14,h15,h16⟩:=uL hrep;refine xT 0 hat (cExpr x1 p3 c3 p4 c4 p5 c5) (vA (cExpr x1 p3 c3 p4 c4 p5 c5)) rfl<|yG 8 [] [(114,vI depth),(116,vI (W (deep + 1))),(117,vP r0 0)]<|rP (yH [1,0] (hs':=[hB r0 [vI (W (count + 1))],hB b (cExpr e0 p c p1 c1 p2 c2)])) ?_;obtain ⟨⟨y12,y13⟩,hy12,N⟩:=zC N;refine tF [hB r0 [vI (W (count + 1))]] [hB b (cExpr e0 p c p1 c1 p2 c2)] (ih_impl_exprScan x1 depth (W (deep + 1)) (W (count + 1)) _ hy12 h14 h15 h16) ?_;rintro I018 hs2 v2 k2 le17 - ⟨v014,kk,rfl,rfl,rfl,h18⟩ -;have h2:=h2.mono le17;have H:=H.trans le17;obtain rfl:=h18;refine yG 10 [] [(119,.bool y12)] ?_;cases hc22:y12 with
   | true =>
    have hM032:=zQ hc22 N
    try rw [hc22]
    refine yG 12 [1] [(121,vS p2 e0.Kids c2)] ?_;obtain ⟨x2,hy13,N⟩:=zC hM032;refine wD rfl rfl h2 hy13 ?_;intro ad1 ccs1 hat1 hrep1;obtain ⟨p6,c6,p7,c7,p8,c8,rfl,h19,h20,h21⟩:=uL hrep1;refine xT 0 hat1 (cExpr x2 p6 c6 p7 c7 p8 c8) (vA (cExpr x2 p6 c6 p7 c7 p8 c8)) rfl<|yG 18 [] [(124,vI depth),(126,vI (W (deep + 1))),(127,vP r0 0)] ?_;obtain ⟨⟨y15,y16⟩,hy14,N⟩:=zC N;refine tF [hB r0 [vI y13]] [hB b (cExpr e0 p c p1 c1 p2 c2)] (ih_impl_exprScan x2 depth (W (deep + 1)) y13 _ hy14 h19 h20 h21) ?_;rintro I019 hs2 v2 k2 le18 - ⟨v018,kk1,rfl,rfl,rfl,h23⟩ -;have H:=H.trans le18;obtain rfl:=h23;exact yF [] [(8,.bool y15)]<|wB (yD [0] rfl (by decide))<|yV [(8,.bool y15)]<|zV ⟨_,_,(zB N).symm,H,rfl,rfl⟩
   | false =>
    have hM033:=zN hc22 N
    try rw [hc22]
    exact yF [] [(8,vF)]<|wB (yD [0] rfl (by decide))<|yV [(8,vF)]<|zV ⟨_,_,(zB hM033).symm,H,rfl,rfl⟩
 rintro I017 hs2 m2 ⟨t83,x,heq6,le19,rfl,rfl⟩;subst o06;refine zE<|yC ?_;obtain rfl:=zB hMc6;exact xM ⟨_,_,(.tmp rfl ResV.nil),(yD [0] rfl (by decide)),⟨_,_,rfl,rfl,rfl,rfl⟩⟩
def nI (s:zP) (depth:Int):Option (Bool):=do
 let t4←(do
   let y←xV depth 0 4
   if y then
    let y1←oC s.Write depth
    if y1 then
     let (y3,y4)←vV s.Value depth 1 0
     pure (id y3)
    else
     pure false
   else
    pure false
     : Option Bool)
 pure (id t4)
theorem zBv:∀ s depth r,nI s depth=some r→∀ {I:Imm}{p c p1 c1 p2 c2 p3 c3},(S4 I p s.Write.Subs c)→(S4 I p1 s.Value.Index.Coefs c1)→(S4 I p2 s.Value.Read.Subs c2)→(S4 I p3 s.Value.Kids c3)→Ret Tryz.prog 57 [vA (cStmt s p c p1 c1 p2 c2 p3 c3),vI depth] I [] (zW  r):=by
 intro s depth r N I p c p1 c1 p2 c2 p3 c3 h h1 h2 h3;unfold nI at N;refine yB (fn:=Tryz.f57) (c:=(bodyOf Tryz.f57)) Tryz.func57 rfl rfl ?_;rintro B - -;have H:=iS I;refine yM<|tD (cStmt s p c p1 c1 p2 c2 p3 c3) ?_;intro b hb;refine yF [] []<|xP<|uK [vI 0] ?_;intro b1 hb1;refine xN 0 [vI 0] [hB b1 [vI 0],hB b (cStmt s p c p1 c1 p2 c2 p3 c3)] rfl rfl rfl rfl<|yN rfl<|zE<|yK ?_;obtain ⟨o0,ho0,hMc⟩:=zC N;refine yU (fun I' hs' m'=>∃ (t4:Bool),o0=t4∧I.le I'∧hs'=[]∧m'=[(4,.bool t4)]) ?_ ?_
 · have H:=iS I;refine zR<|yG 1 [] [(6,vI depth)] ?_;obtain ⟨y,hy,N⟩:=zC ho0;refine vL (xR depth 0 4 _ hy ) ?_;intro I01 le;have h:=h.mono le;have h1:=h1.mono le;have h2:=h2.mono le;have h3:=h3.mono le;have H:=H.trans le;refine yG 3 [] [(8,.bool y)] ?_;cases hc:y with
   | true =>
    have hM0:=zQ hc N
    try rw [hc]
    refine yG 6 [1] [(10,vA (cAccess s.Write p c)),(11,vI depth)] ?_;obtain ⟨y1,hy1,N⟩:=zC hM0;refine vL (eF s.Write depth _ hy1 h) ?_;intro I02 le1;have h1:=h1.mono le1;have h2:=h2.mono le1;have h3:=h3.mono le1;have H:=H.trans le1;refine yG 9 [] [(14,.bool y1)] ?_;cases hc1:y1 with
    | true =>
     have hM01:=zQ hc1 N
     try rw [hc1]
     refine yG 12 [1] [(16,vA (cExpr s.Value p1 c1 p2 c2 p3 c3)),(17,vI depth)] ?_;obtain ⟨⟨y3,y4⟩,hy2,N⟩:=zC hM01;refine tF [hB b1 [vI 0]] [hB b (cStmt s p c p1 c1 p2 c2 p3 c3)] (zC4 s.Value depth 1 0 _ hy2 h1 h2 h3) ?_;rintro I03 hs2 v2 k2 le2 - ⟨v02,kk,rfl,rfl,rfl,h7⟩ -;have H:=H.trans le2;obtain rfl:=h7;exact yF [] [(4,.bool y3)]<|wB zT<|yV [(4,.bool y3)]<|zV ⟨_,(zB N).symm,H,rfl,rfl⟩
    | false =>
     have hM02:=zN hc1 N
     try rw [hc1]
     exact yF [] [(4,vF)]<|wB zT<|yV [(4,vF)]<|zV ⟨_,(zB hM02).symm,H,rfl,rfl⟩
   | false =>
    have hM03:=zN hc N
    try rw [hc]
    exact yF [] [(4,vF)]<|wB zT<|yV [(4,vF)]<|zV ⟨_,(zB hM03).symm,H,rfl,rfl⟩
 rintro I0 hs2 m2 ⟨t4,heq,le3,rfl,rfl⟩;subst o0;refine zE<|yC ?_;obtain rfl:=zB hMc;exact vQ
def wS (s:zP) (x:zL):Option (Bool):=do
 let y←nI s (x.Nest.length:Int)
 pure (!y)
theorem jW:∀ s x r,wS s x=some r→∀ {I:Imm}{p c p1 c1 p2 c2 p3 c3}{ad:Addr}{p4 c4 p5 c5},(S4 I p s.Write.Subs c)→(S4 I p1 s.Value.Index.Coefs c1)→(S4 I p2 s.Value.Read.Subs c2)→(S4 I p3 s.Value.Kids c3)→(S4 I p4 x.Nest c4)→(S4 I p5 x.Body c5)→(At I ad (cPart x p4 c4 p5 c5))→Ret Tryz.prog 119 [vA (cStmt s p c p1 c1 p2 c2 p3 c3),.pointer (some ad)] I [] (zW  r):=by
 intro s x r N I p c p1 c1 p2 c2 p3 c3 ad p4 c4 p5 c5 h h1 h2 h3 h4 h5 hat;unfold wS at N;refine yB (fn:=Tryz.f119) (c:=(bodyOf Tryz.f119)) Tryz.func119 rfl rfl ?_;rintro B - -;refine yM<|tD (cStmt s p c p1 c1 p2 c2 p3 c3) ?_;intro b hb;refine yF [] []<|xP<|yG 2 [0] [(4,vA (cStmt s p c p1 c1 p2 c2 p3 c3)),(5,.pointer (some ad))]<|xT 0 hat [vS p4 x.Nest c4] (vS p4 x.Nest c4) rfl<|yG 4 [] [(7,vI (x.Nest.length:Int))]<|bE N fun y hy N=>vL (zBv s (x.Nest.length:Int) _ hy h h1 h2 h3) fun I0 le=>yF [] [(3,.bool (!y))]<|zE<|yC ?_;obtain rfl:=zB N;exact vQ
def dK (r:(List zI)):KT:=fun kk I' hs' v=>
  ∃ v0,hs'=[]∧v=tupV [v0]∧SL I' v0 r
mutual
def oI (e0:zF):Option ((List zI)):=do
 if (e0.Kind == 3) then
  pure ([e0.Read]:List zI)
 else
  let out1←qY (same e0) ([]:List zI) (same 0)
  pure (id out1)
 partial_fixpoint
def qY (e0:zF) (out:List zI) (t15:Int):Option (List zI):=do
 if (decide (t15 < (e0.Kids.length:Int))) then
  let x←idx e0.Kids t15
  let y←oI (same x)
  let out2←app 40 out y
  qY (same e0) (same out2) (W (t15 + 1))
 else
  pure (id out)
 partial_fixpoint
end
theorem zDd:(∀ (e0:zF) r,oI e0=some r→∀ {I:Imm}{p c p1 c1 p2 c2},(S4 I p e0.Index.Coefs c)→(S4 I p1 e0.Read.Subs c1)→(S4 I p2 e0.Kids c2)→Ret Tryz.prog 52 [vA (cExpr e0 p c p1 c1 p2 c2)] I [] (dK  r))∧(∀ (e0:zF) (out:List zI) (t15:Int) o,qY e0 out t15=some o→∀ {B}{I0 I:Imm}{Q p2 c2 p3 c3 cs},I0.le I→(S4 I p2 e0.Kids c2)→(RL I cs out)→NG Q→NO Q→(∀ (I':Imm) (out1:List zI) (p4:Option Addr) (c4:Nat) (cs1:List Value),o=out1→I0.le I'→(RL I' cs1 out1)→T 25 B Q (.exit 0) I' [hO zI (vS p4 out1 c4) cs1] [(3,vS p4 out1 c4)])→J Tryz.prog 25 B (nav (bodyOf Tryz.f52) [1,1,1,0,1,0]) Q I [hO zI (vS p3 out c3) cs] [(3,vS p3 out c3),(13,vS p2 e0.Kids c2),(14,vI (e0.Kids.length:Int)),(15,vI t15)]):=by
  refine oI.mutual_partial_correctness _ _ ?_ ?_
  · intro F_impl_reads_l1 ih_impl_reads_l1 e0 r N I p c p1 c1 p2 c2 h h1 h2;refine yB (fn:=Tryz.f52) (c:=(bodyOf Tryz.f52)) Tryz.func52 rfl rfl ?_;rintro B - -;refine yM<|tD (cExpr e0 p c p1 c1 p2 c2) ?_;intro b hb;refine yF [] []<|yL<|yM<|yF [0] [(8,.bool (e0.Kind == 3))]<|zE<|yO N ?_ ?_
    · intro hc N;refine yM<|yG 2 [0] [(10,vA (cAccess e0.Read p1 c1))]<|xW (cAccess e0.Read p1 c1) zI ?_;intro b1 hb1;have h3:RL I (cAccess e0.Read p1 c1) ([e0.Read]:List zI):=⟨(cAccess e0.Read p1 c1),_,rfl,rfl,(pK ⟨_,rfl,h1⟩),rfl⟩;refine yF [] [(2,vS (some ⟨b1,0,none⟩) ([e0.Read]:List zI) 1)]<|zE<|yC<|zK<|xO 0 rfl ?_;intro I0 le hl0;have h4:=SL.of_frozen hl0 le h3;obtain rfl:=zB N;exact xM ⟨_,_,(.tmp rfl ResV.nil),zT,⟨_,rfl,rfl,h4⟩⟩
    intro hc N;refine zZ<|vO [(3,z0)]<|yL<|yM<|yF [0] [(13,vS p2 e0.Kids c2),(14,vI (e0.Kids.length:Int)),(15,vI 0)]<|zE<|zX<|pJ (yH [] (hs':=[]))<|vM [(3,z0),(13,vS p2 e0.Kids c2),(14,vI (e0.Kids.length:Int)),(15,vI 0)]<|pJ (tE (Rp.sz zI)) ?_;have h5:RL I [] ([]:List zI):=RepL.nil;obtain ⟨o0,ho0,hMl⟩:=zC N;refine ih_impl_reads_l1 e0 ([]:List zI) 0 o0 ho0 iR h2 h5 (fun _ _ _ h=>h) (fun _ _ h=>h) ?_;intro I02 out1 p4 c4 cs1 heq le2 h7;subst o0;refine zY<|vO [(2,vS p4 out1 c4)]<|zE<|yC<|xO 0 rfl ?_;intro I03 le3 hl01;have h13:=SL.of_frozen hl01 le3 h7;obtain rfl:=zB hMl;exact xM ⟨_,_,(.tmp rfl ResV.nil),zT,⟨_,rfl,rfl,h13⟩⟩
  intro F_impl_reads F_impl_reads_l1 ih_impl_reads ih_impl_reads_l1 e0 out t15 o N B I0 I Q p2 c2 p3 c3 cs H h2 h6 hg ho hx;refine xD hg ho<|yI [(16,.bool (decide (t15 < (e0.Kids.length:Int))))]<|yL<|yO N ?_ ?_
  · intro hc1 N;refine zZ<|yL<|zX<|yM<|bE N fun x hy N=>wD rfl rfl h2 hy ?_;intro ad ccs hat hrep;obtain ⟨p5,c5,p6,c6,p7,c7,rfl,h8,h9,h10⟩:=uL hrep;refine xT 0 hat (cExpr x p5 c5 p6 c6 p7 c7) (vA (cExpr x p5 c5 p6 c6 p7 c7)) rfl<|uK zExpr ?_;intro b2 hb2;refine xN 0 (cExpr x p5 c5 p6 c6 p7 c7) [hB b2 (cExpr x p5 c5 p6 c6 p7 c7),hO zI (vS p3 out c3) cs] rfl rfl rfl rfl<|yN rfl<|zE<|zR<|yG 2 [0] [(19,vS p3 out c3),(20,vA (cExpr x p5 c5 p6 c6 p7 c7))]<|bE N fun y hy1 N=>xX (ih_impl_reads x _ hy1 h8 h9 h10) ?_;rintro I01 hs2 v2 k2 le1 - ⟨v03,rfl,rfl,h11⟩ -;have h2:=h2.mono le1;have h6:=iM le1 h6;have H:=H.trans le1;obtain ⟨p8,c8,rfl⟩:=h11.form;obtain ⟨ccs1,k0,k01⟩:=h11;have h11:SL I01 (vS p8 y c8) y:=⟨_,k0,k01⟩;obtain ⟨out2,hy2,N⟩:=zC N;exact qZ 42 2 1 rfl rfl rfl h6 (.inl k0) k01 hy2 fun p9 c9 cs2 h12=>rP (yH [0,1] (hs':=[hB b2 (cExpr x p5 c5 p6 c6 p7 c7),hO zI (vS p9 out2 c9) cs2]))<|yF [] [(3,vS p9 out2 c9)]<|zU<|zE<|zR<|yF [] [(15,vI (W (t15 + 1)))]<|xE<|pJ (yD [1] rfl (by decide))<|vM [(3,vS p9 out2 c9),(13,vS p2 e0.Kids c2),(14,vI (e0.Kids.length:Int)),(15,vI (W (t15 + 1)))]<|ih_impl_reads_l1 e0 out2 (W (t15 + 1)) _ N H h2 h12 hg ho hx
  intro hc1 N;exact xC<|zO<|zO<|yV [(3,vS p3 out c3)]<|hx _ _ _ _ _ (zB N).symm H h6
theorem zAj:∀ e0 r,oI e0=some r→∀ {I:Imm}{p c p1 c1 p2 c2},(S4 I p e0.Index.Coefs c)→(S4 I p1 e0.Read.Subs c1)→(S4 I p2 e0.Kids c2)→Ret Tryz.prog 52 [vA (cExpr e0 p c p1 c1 p2 c2)] I [] (dK  r):=zDd.1
def tK (a0:zG) (n0:Int) (t9:Int):Option (Int):=do
 if (decide (t9 < (a0.Dims.length:Int))) then
  let x←idx a0.Dims t9
  tK a0 (W (n0 * x)) (W (t9 + 1))
 else
  pure (id n0)
 partial_fixpoint
theorem dS (a0:zG):∀ (n0:Int) (t9:Int) (o:Int),tK a0 n0 t9=some o→∀ {B}{I0 I:Imm}{Q p c},I0.le I→(S4 I p a0.Dims c)→NG Q→NO Q→(∀ (I':Imm) (n01:Int),o=n01→I0.le I'→T 18 B Q (.exit 0) I' [] [(3,vI n01)])→J Tryz.prog 18 B (nav (bodyOf Tryz.f109) [1,1,0,1,0]) Q I [] [(3,vI n0),(7,vS p a0.Dims c),(8,vI (a0.Dims.length:Int)),(9,vI t9)]:=by
 refine tK.partial_correctness a0 _ fun self ih n0 t9 o N B I0 I Q p c H h hg ho hx=>xD hg ho<|yI [(10,.bool (decide (t9 < (a0.Dims.length:Int))))]<|yL<|yO N ?_ ?_
 · intro hc N;refine zZ<|yL<|zX<|yM<|bE N fun x hy N=>wD rfl rfl h hy ?_;intro ad ccs hat hrep;obtain rfl:=hrep;exact xT 0 hat [vI x] (vI x) rfl<|yF [] [(5,vI x)]<|zE<|zR<|yF [] [(3,vI (W (n0 * x)))]<|zU<|zE<|zR<|yF [] [(9,vI (W (t9 + 1)))]<|xE<|vM [(3,vI (W (n0 * x))),(7,vS p a0.Dims c),(8,vI (a0.Dims.length:Int)),(9,vI (W (t9 + 1)))]<|ih (W (n0 * x)) (W (t9 + 1)) _ N H h hg ho hx
 intro hc N;exact xC<|zO<|zO<|yV [(3,vI n0)]<|hx _ _ (zB N).symm H
def oJ (a0:zG):Option (Int):=do
 let n01←tK a0 1 0
 pure (id n01)
theorem zBJ:∀ a0 r,oJ a0=some r→∀ {I:Imm}{p c},(S4 I p a0.Dims c)→Ret Tryz.prog 109 [vA (cArr a0 p c)] I [] (xK  r):=by
 intro a0 r N I p c h;unfold oJ at N;refine yB (fn:=Tryz.f109) (c:=(bodyOf Tryz.f109)) Tryz.func109 rfl rfl ?_;rintro B - -;refine yM<|tD (cArr a0 p c) ?_;intro b hb;refine yF [] []<|vO [(3,vI 1)]<|yL<|yM<|yF [0] [(7,vS p a0.Dims c),(8,vI (a0.Dims.length:Int)),(9,vI 0)]<|zE<|zX<|pJ (yH [] (hs':=[]))<|vM [(3,vI 1),(7,vS p a0.Dims c),(8,vI (a0.Dims.length:Int)),(9,vI 0)] ?_;obtain ⟨o0,ho0,hMl⟩:=zC N;refine dS a0 1 0 o0 ho0 iR h (fun _ _ _ h=>h) (fun _ _ h=>h) ?_;intro I0 n01 heq le;subst o0;refine zY<|vO [(2,vI n01)]<|zE<|yC ?_;obtain rfl:=zB hMl;exact vQ
def uP (a0:zI) (point:(List Int)) (x:zG) (at0:Int) (t40:Int):Option (Out Int (Int)):=do
 if (decide (t40 < (a0.Subs.length:Int))) then
  let x1←idx a0.Subs t40
  let y1←uO x1 point
  let x2←idx x.Dims t40
  let y2←xV y1 0 (W (x2 - 1))
  if (!y2) then
   pure (.ret (-1))
  else
   let x3←idx x.Dims t40
   uP a0 point x (W ((W (at0 * x3)) + y1)) (W (t40 + 1))
 else
  pure (.done at0)
 partial_fixpoint
theorem eH (a0:zI) (point:(List Int)) (x:zG):∀ (at0:Int) (t40:Int) (o:Out Int (Int)),uP a0 point x at0 t40=some o→∀ {B}{I0 I:Imm}{Q}{first:Int}{p3 c2 p4 c3 p5 c4}{b2:Nat},I0.le I→(S4 I p4 point c3)→(S4 I p3 a0.Subs c2)→(S4 I p5 x.Dims c4)→NG Q→NO Q→(∀ (I':Imm) (at01:Int),o=(.done at01)→I0.le I'→T 71 B Q (.exit 2) I' [] [(7,vI first),(10,vI at01)])→(∀ r I' hs' m',o=(.ret r)→I0.le I'→RS Tryz.prog Tryz.f56 B (xK  r) I' hs' m'→T 71 B Q .ret I' hs' m')→J Tryz.prog 71 B (nav (bodyOf Tryz.f56) [1,1,0,1,0,0,1,1,0,0,1,1,1,1,0,1,0]) Q I [hB b2 (cArr x p5 c4)] [(2,vS p4 point c3),(7,vI first),(9,vP b2 0),(10,vI at0),(38,vS p3 a0.Subs c2),(39,vI (a0.Subs.length:Int)),(40,vI t40)]:=by
 refine uP.partial_correctness a0 point x _ fun self ih at0 t40 o N B I0 I Q first p3 c2 p4 c3 p5 c4 b2 H h3 h2 h4 hg ho hx hr=>xD hg ho<|yI [(41,.bool (decide (t40 < (a0.Subs.length:Int))))]<|yL<|yO N ?_ ?_
 · intro hc3 N;refine zZ<|yL<|zX<|yM<|yG 1 [] [(42,vI t40)]<|bE N fun x1 hy2 N=>wD rfl rfl h2 hy2 ?_;intro ad1 ccs1 hat1 hrep1;obtain ⟨p6,c5,rfl,h6⟩:=yQ hrep1;refine xT 0 hat1 (cAff x1 p6 c5) (vA (cAff x1 p6 c5)) rfl<|uK [z0,vI 0] ?_;intro b3 hb3;refine yG 5 [] [(11,vI t40)]<|xN 0 (cAff x1 p6 c5) [hB b3 (cAff x1 p6 c5),hB b2 (cArr x p5 c4)] rfl rfl rfl rfl<|yN rfl<|xP<|yG 2 [0] [(45,vA (cAff x1 p6 c5)),(46,vS p4 point c3)]<|bE N fun y1 hy3 N=>kD (pD x1 point _ hy3 h6 h3) ?_;intro I01 le1;have h3:=h3.mono le1;have h2:=h2.mono le1;have h4:=h4.mono le1;have H:=H.trans le1;refine yF [] [(13,vI y1)]<|yL<|yM<|yG 4 [1] [(48,vI y1),(50,vS p5 x.Dims c4),(51,vI t40)]<|bE N fun x2 hy4 N=>wD rfl rfl h4 hy4 ?_;intro ad2 ccs2 hat2 hrep2;obtain rfl:=hrep2;refine xT 0 hat2 [vI x2] (vI x2) rfl<|yG 7 [] [(54,vI (W (x2 - 1)))]<|bE N fun y2 hy5 N=>vL (xR y1 0 (W (x2 - 1)) _ hy5 ) ?_;intro I02 le2;have h3:=h3.mono le2;have h2:=h2.mono le2;have h4:=h4.mono le2;have H:=H.trans le2;refine yF [] [(56,.bool (!y2))]<|zE<|yO N ?_ ?_
   · intro hc4 N;exact yI [(6,vI (-1))]<|zE<|yC<|zK<|yA<|zK<|zK<|hr _ _ _ _ (zB N).symm H ⟨_,_,(.tmp rfl ResV.nil),zT,⟨_,rfl,rfl,rfl⟩⟩
   intro hc4 N;refine zZ<|zE<|zR<|yG 4 [1] [(57,vI at0),(59,vS p5 x.Dims c4),(60,vI t40)]<|bE N fun x3 hy6 N=>wD rfl rfl h4 hy6 ?_;intro ad3 ccs3 hat3 hrep3;obtain rfl:=hrep3;exact xT 0 hat3 [vI x3] (vI x3) rfl<|yF [] [(10,vI (W ((W (at0 * x3)) + y1)))]<|zU<|zE<|zR<|yF [] [(40,vI (W (t40 + 1)))]<|xE<|pJ (yD [1] rfl (by decide))<|vM [(2,vS p4 point c3),(7,vI first),(9,vP b2 0),(10,vI (W ((W (at0 * x3)) + y1))),(38,vS p3 a0.Subs c2),(39,vI (a0.Subs.length:Int)),(40,vI (W (t40 + 1)))]<|ih (W ((W (at0 * x3)) + y1)) (W (t40 + 1)) _ N H h3 h2 h4 hg ho hx hr
 intro hc3 N;exact xC<|zO<|zO<|wB zT<|yV [(7,vI first),(10,vI at0)]<|hx _ _ (zB N).symm H
def vD (p:zS) (a0:zI) (point:(List Int)) (first:Int) (t17:Int):Option (Out Unit (Int)):=do
 if (decide (t17 < (p.Arrays.length:Int))) then
  let x←idx p.Arrays t17
  if (!(x.Name.l == a0.Array.l)) then
   let y←oJ x
   vD p a0 point (W (first + y)) (W (t17 + 1))
  else
   if ((a0.Subs.length:Int) != (x.Dims.length:Int)) then
    pure (.ret (-1))
   else
    match←uP a0 point x 0 0 with
    | .ret r0=>pure (.ret r0)
    | .done at01 =>
     pure (.ret (W (first + at01)))
 else
  pure (.done ())
 partial_fixpoint
theorem eI (p:zS) (a0:zI) (point:(List Int)):∀ (first:Int) (t17:Int) (o:Out Unit (Int)),vD p a0 point first t17=some o→∀ {B}{I0 I:Imm}{Q p1 c p3 c2 p4 c3}{b1:Nat},I0.le I→(S4 I p4 point c3)→(S4 I p1 p.Arrays c)→(S4 I p3 a0.Subs c2)→NG Q→NO Q→(∀ (I':Imm) ,o=(.done ())→I0.le I'→T 71 B Q (.exit 0) I' [] [])→(∀ r I' hs' m',o=(.ret r)→I0.le I'→RS Tryz.prog Tryz.f56 B (xK  r) I' hs' m'→T 71 B Q .ret I' hs' m')→J Tryz.prog 71 B (nav (bodyOf Tryz.f56) [1,1,0,1,0]) Q I [hB b1 (cAccess a0 p3 c2)] [(2,vS p4 point c3),(4,vP b1 0),(7,vI first),(15,vS p1 p.Arrays c),(16,vI (p.Arrays.length:Int)),(17,vI t17)]:=by
 refine vD.partial_correctness p a0 point _ fun self ih first t17 o N B I0 I Q p1 c p3 c2 p4 c3 b1 H h3 h h2 hg ho hx hr=>xD hg ho<|yI [(18,.bool (decide (t17 < (p.Arrays.length:Int))))]<|yL<|yO N ?_ ?_
 · intro hc N;refine zZ<|yL<|zX<|yM<|bE N fun x hy N=>wD rfl rfl h hy ?_;intro ad ccs hat hrep;obtain ⟨p5,c4,rfl,h4⟩:=vE hrep;refine xT 0 hat (cArr x p5 c4) (vA (cArr x p5 c4)) rfl<|uK [vT ([]),z0] ?_;intro b2 hb2;refine xN 0 (cArr x p5 c4) [hB b2 (cArr x p5 c4),hB b1 (cAccess a0 p3 c2)] rfl rfl rfl rfl<|yN rfl<|yL<|yM<|yF [0,1] [(25,.bool (!(x.Name.l == a0.Array.l)))]<|zE<|yO N ?_ ?_
   · intro hc1 N;refine yM<|yG 2 [0] [(26,vI first),(27,vA (cArr x p5 c4))]<|bE N fun y hy1 N=>kD (zBJ x _ hy1 h4) ?_;intro I0 le;have h3:=h3.mono le;have h:=h.mono le;have h2:=h2.mono le;have H:=H.trans le;exact yF [] [(7,vI (W (first + y)))]<|zE<|xC<|zO<|zY<|zE<|zR<|yF [] [(17,vI (W (t17 + 1)))]<|xE<|pJ (yD [1] rfl (by decide))<|vM [(2,vS p4 point c3),(4,vP b1 0),(7,vI (W (first + y))),(15,vS p1 p.Arrays c),(16,vI (p.Arrays.length:Int)),(17,vI (W (t17 + 1)))]<|ih (W (first + y)) (W (t17 + 1)) _ N H h3 h h2 hg ho hx hr
   intro hc1 N;refine zZ<|yL<|yM<|yF [1,0] [(36,.bool ((a0.Subs.length:Int) != (x.Dims.length:Int)))]<|zE<|yO N ?_ ?_
   · intro hc2 N;exact yI [(6,vI (-1))]<|zE<|yC<|zK<|yA<|zK<|zK<|hr _ _ _ _ (zB N).symm H ⟨_,_,(.tmp rfl ResV.nil),zT,⟨_,rfl,rfl,rfl⟩⟩
   intro hc2 N;refine zZ<|vO [(10,vI 0)]<|yL<|yM<|yF [1] [(38,vS p3 a0.Subs c2),(39,vI (a0.Subs.length:Int)),(40,vI 0)]<|zE<|zX<|pJ (yH [0] (hs':=[hB b2 (cArr x p5 c4)]))<|vM [(2,vS p4 point c3),(7,vI first),(9,vP b2 0),(10,vI 0),(38,vS p3 a0.Subs c2),(39,vI (a0.Subs.length:Int)),(40,vI 0)] ?_;obtain ⟨o0,ho0,hMl⟩:=zC N;refine eH a0 point x 0 0 o0 ho0 iR h3 h2 h4 (fun _ _ _ h=>hg _ _ _ h) (fun _ _ h=>ho _ _ h) ?_ ?_
   · intro I03 at01 heq le3;subst o0;have H:=H.trans le3;exact zY<|vO [(6,vI (W (first + at01)))]<|zE<|yC<|yA<|zK<|zK<|hr _ _ _ _ (zB hMl).symm H ⟨_,_,(.tmp rfl ResV.nil),zT,⟨_,rfl,rfl,rfl⟩⟩
   intro r0 I9 hs9 m9 heq9 le9 hrs9;subst heq9;exact yA<|zK<|yA<|zK<|zK<|hr _ _ _ _ (zB hMl).symm (H.trans le9) hrs9
 intro hc N;exact xC<|zO<|zO<|wB zT<|yV []<|hx _  (zB N).symm H
def uX (p:zS) (a0:zI) (point:(List Int)):Option (Int):=do
 match←vD p a0 point 0 0 with
 | .ret r0=>pure r0
 | .done _ =>
  pure (-1)
theorem oK:∀ p a0 point r,uX p a0 point=some r→∀ {I:Imm}{p1 c p2 c1 p3 c2 p4 c3},(S4 I p1 p.Arrays c)→(S4 I p2 p.Parts c1)→(S4 I p3 a0.Subs c2)→(S4 I p4 point c3)→Ret Tryz.prog 56 [vA (cProg p p1 c p2 c1),vA (cAccess a0 p3 c2),vS p4 point c3] I [] (xK  r):=by
 intro p a0 point r N I p1 c p2 c1 p3 c2 p4 c3 h h1 h2 h3;unfold uX at N;refine yB (fn:=Tryz.f56) (c:=(bodyOf Tryz.f56)) Tryz.func56 rfl rfl ?_;rintro B - -;refine yM<|tD (cProg p p1 c p2 c1) ?_;intro b hb;refine tD (cAccess a0 p3 c2) ?_;intro b1 hb1;refine yF [] []<|vO [(7,vI 0)]<|yL<|yM<|yF [1] [(15,vS p1 p.Arrays c),(16,vI (p.Arrays.length:Int)),(17,vI 0)]<|zE<|zX<|pJ (yH [0] (hs':=[hB b1 (cAccess a0 p3 c2)]))<|vM [(2,vS p4 point c3),(4,vP b1 0),(7,vI 0),(15,vS p1 p.Arrays c),(16,vI (p.Arrays.length:Int)),(17,vI 0)] ?_;obtain ⟨o01,ho01,hMl1⟩:=zC N;refine eI p a0 point 0 0 o01 ho01 iR h3 h h2 (fun _ _ _ h=>h) (fun _ _ h=>h) ?_ ?_
 · intro I04  heq1 le4;subst o01;refine zY<|vO [(6,vI (-1))]<|zE<|yC ?_;obtain rfl:=zB hMl1;exact vQ
 intro r0 I9 hs9 m9 heq9 le9 hrs9;subst heq9;refine yA<|zK ?_;obtain rfl:=zB hMl1;exact xM hrs9
end Go.LN
