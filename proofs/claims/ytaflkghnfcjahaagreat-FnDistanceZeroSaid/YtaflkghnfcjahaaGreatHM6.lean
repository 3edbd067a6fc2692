/- Helper of the proof (see the last text). -/
import Derived.Test.YtaflkghnfcjahaaGreatHM5
set_option linter.unusedVariables false
set_option linter.unusedSimpArgs false
namespace Go.LN
open Go.Proofs
set_option maxRecDepth 20000
def rV (r:(List zK)×Bool):KT:=fun kk I' hs' v=>
  ∃ v0 v1,hs'=[]∧v=tupV [v0,v1]∧SL I' v0 r.1∧v1=.bool r.2
def wS (p:zE) (t26:Int) (x:zN) (x1:(List Int)) (out4:List zK) (t64:Int):Option (Out (List zK) ((List zK)×Bool)):=do
 if (decide (t64 < (x.Body.length:Int))) then
  let x2←idx x.Body t64
  let y7←qX p x2 x1
  if (!y7) then
   pure (.ret (([]:List zK),false))
  else
   let y8←sN x1
   let out6←app 40 out4 ([(zK.mk t26 t64 y8)]:List zK)
   wS p t26 x x1 out6 (W (t64 + 1))
 else
  pure (.done out4)
 partial_fixpoint
theorem eG (p:zE) (t26:Int) (x:zN) (x1:(List Int)):∀ (out4:List zK) (t64:Int) (o:Out (List zK) ((List zK)×Bool)),wS p t26 x x1 out4 t64=some o→∀ {B}{I0 I:Imm}{Q}{y2:(List (List Int))}{t54:Int}{p1 c p2 c1}{b:Nat}{p5 c4 p6 c5}{b1:Nat}{p7 c6 p14 c13 p15 c14 cs4},I0.le I→(S4 I p5 x.Nest c4)→(S4 I p6 x.Body c5)→(At I ⟨b1,0,none⟩ (cPart x p5 c4 p6 c5))→(S4 I p14 x1 c13)→(S4 I p2 p.Parts c1)→(S4 I p7 y2 c6)→(S4 I p1 p.Arrays c)→(RL I cs4 out4)→NG Q→NO Q→(∀ (I':Imm) (out5:List zK) (p16:Option Addr) (c15:Nat) (cs5:List Value),o=(.done out5)→I0.le I'→(RL I' cs5 out5)→T 89 B Q (.exit 4) I' [hO zK (vS p16 out5 c15) cs5,hB b (cProg p p1 c p2 c1)] [(1,vP b 0),(4,vS p16 out5 c15),(5,vI t26),(6,vP b1 0),(24,vS p2 p.Parts c1),(25,vI (p.Parts.length:Int)),(26,vI t26),(52,vS p7 y2 c6),(53,vI (y2.length:Int)),(54,vI t54)])→(∀ r I' hs' m',o=(.ret r)→I0.le I'→RS Tryz.prog Tryz.f50 B (rV  r) I' hs' m'→T 89 B Q .ret I' hs' m')→J Tryz.prog 89 B (nav (bodyOf Tryz.f50) [1,1,1,0,1,0,0,1,1,0,0,1,1,1,1,0,0,1,1,0,0,1,1,1,0]) Q I [hO zK (vS p15 out4 c14) cs4,hB b (cProg p p1 c p2 c1)] [(1,vP b 0),(4,vS p15 out4 c14),(5,vI t26),(6,vP b1 0),(10,vS p14 x1 c13),(24,vS p2 p.Parts c1),(25,vI (p.Parts.length:Int)),(26,vI t26),(52,vS p7 y2 c6),(53,vI (y2.length:Int)),(54,vI t54),(62,vS p6 x.Body c5),(63,vI (x.Body.length:Int)),(64,vI t64)]:=by
 refine wS.partial_correctness p t26 x x1 _ fun self ih out4 t64 o N B I0 I Q y2 t54 p1 c p2 c1 b p5 c4 p6 c5 b1 p7 c6 p14 c13 p15 c14 cs4 H h6 h7 hat1 h18 h1 h8 h h20 hg ho hx hr=>yR hg ho<|yD [65] rfl<|zX<|yB N ?_ ?_
 · intro hc8 N;refine zS<|zX<|yG<|yF<|yH 1 [] [66] rfl<|bE N fun x2 hy7 N=>xS rfl rfl h7 hy7 ?_;intro ad2 ccs2 hat3 hrep2;obtain ⟨p17,c16,p18,c17,p19,c18,p20,c19,rfl,h22,h23,h24,h25⟩:=qC hrep2;refine xL 0 hat3 (cStmt x2 p17 c16 p18 c17 p19 c18 p20 c19) (vA (cStmt x2 p17 c16 p18 c17 p19 c18 p20 c19)) rfl<|uF [vT ([]),z0,vI 0,vI 0,z0,vI 0,vT ([]),z0,z0] ?_;intro b2 hb2;refine yH 5 [] [11] rfl<|xQ 0 (cStmt x2 p17 c16 p18 c17 p19 c18 p20 c19) rfl<|yE rfl<|zX<|yF<|oD 3 [2,0] [(69,vA (cProg p p1 c p2 c1)),(70,vA (cStmt x2 p17 c16 p18 c17 p19 c18 p20 c19)),(71,vS p14 x1 c13)]<|bE N fun y7 hy8 N=>uH (zAr p x2 x1 _ hy8 h h1 h22 h23 h24 h25 h18) ?_;intro I08 le8;have ⟨h20,h6,h7,hat1,h18,h1⟩:=m6 le8 h20 h6 h7 hat1 h18 h1;have ⟨h8,h,H⟩:=m3 le8 h8 h H;refine yJ [] [73] rfl<|zI<|yB N ?_ ?_
   · intro hc9 N;exact yD [2,3] rfl<|xB<|zF<|zU<|zF<|zF<|hr _ _ _ _ (zB N).symm H ⟨_,_,(.tmp rfl (.tmp rfl ResV.nil)),zP,⟨_,_,rfl,rfl,(SL.nil _),rfl⟩⟩
   intro hc9 N;refine zS<|zI<|zL<|yH 4 [] [74,75,76,77] rfl<|bE N fun y8 hy9 N=>xV (kC x1 _ hy9 h18) ?_;rintro I09 hs2 v2 k2 le9 - ⟨p21,c20,cs6,rfl,rfl,h27⟩ -;have ⟨h6,h7,hat1,h18,h1,h8⟩:=m6 le9 h6 h7 hat1 h18 h1 h8;have ⟨h20,h,H⟩:=m3 le9 h20 h H;refine yH 6 [] [79] rfl<|xM 0 rfl ?_;intro I010 le10 hl01;have h28:=SL.of_frozen hl01 le10 h27;have ⟨h6,h7,hat1,h18,h1,h8⟩:=m6 le10 h6 h7 hat1 h18 h1 h8;have ⟨h20,h,H⟩:=m3 le10 h20 h H;refine tJ [vI t26,vI t64,vS p21 y8 c20] zK ?_;intro b3 hb3;have h29:RL I010 [vI t26,vI t64,vS p21 y8 c20] ([(zK.mk t26 t64 y8)]:List zK):=⟨[vI t26,vI t64,vS p21 y8 c20],_,rfl,rfl,(dD ⟨_,rfl,h28⟩),rfl⟩;obtain ⟨out6,hy10,N⟩:=zC N;exact qB 49 3 2 rfl rfl rfl h20 (.inr ⟨0,rfl⟩) h29 hy10 fun p22 c21 cs7 h30=>rW (zY [1,2,3] (hs':=[hB b2 (cStmt x2 p17 c16 p18 c17 p19 c18 p20 c19),hO zK (vS p22 out6 c21) cs7,hB b (cProg p p1 c p2 c1)]))<|yJ [] [4] rfl<|zO<|zI<|zL<|yJ [] [64] rfl<|yQ<|jR (zW [1,2] rfl (by decide))<|nO<|ih out6 (W (t64 + 1)) _ N H h6 h7 hat1 h18 h1 h8 h h30 hg ho hx hr
 intro hc8 N;exact wY<|yO<|hx _ _ _ _ _ (zB N).symm H h20
def wT (p:zE) (t26:Int) (x:zN) (y2:(List (List Int))) (out2:List zK) (t54:Int):Option (Out (List zK) ((List zK)×Bool)):=do
 if (decide (t54 < (y2.length:Int))) then
  let x1←idx y2 t54
  let y6←jL x1
  if (!y6) then
   pure (.ret (([]:List zK),false))
  else
   match←wS p t26 x x1 out2 0 with
   | .ret r0=>pure (.ret r0)
   | .done out5 =>
    wT p t26 x y2 out5 (W (t54 + 1))
 else
  pure (.done out2)
 partial_fixpoint
theorem eH (p:zE) (t26:Int) (x:zN) (y2:(List (List Int))):∀ (out2:List zK) (t54:Int) (o:Out (List zK) ((List zK)×Bool)),wT p t26 x y2 out2 t54=some o→∀ {B}{I0 I:Imm}{Q p1 c p2 c1}{b:Nat}{p5 c4 p6 c5}{b1:Nat}{p7 c6 p12 c11 cs2},I0.le I→(S4 I p5 x.Nest c4)→(S4 I p6 x.Body c5)→(At I ⟨b1,0,none⟩ (cPart x p5 c4 p6 c5))→(S4 I p2 p.Parts c1)→(S4 I p7 y2 c6)→(S4 I p1 p.Arrays c)→(RL I cs2 out2)→NG Q→NO Q→(∀ (I':Imm) (out3:List zK) (p13:Option Addr) (c12:Nat) (cs3:List Value),o=(.done out3)→I0.le I'→(RL I' cs3 out3)→T 89 B Q (.exit 2) I' [hO zK (vS p13 out3 c12) cs3,hB b (cProg p p1 c p2 c1)] [(1,vP b 0),(4,vS p13 out3 c12),(24,vS p2 p.Parts c1),(25,vI (p.Parts.length:Int)),(26,vI t26)])→(∀ r I' hs' m',o=(.ret r)→I0.le I'→RS Tryz.prog Tryz.f50 B (rV  r) I' hs' m'→T 89 B Q .ret I' hs' m')→J Tryz.prog 89 B (nav (bodyOf Tryz.f50) [1,1,1,0,1,0,0,1,1,0,0,1,1,1,1,0]) Q I [hO zK (vS p12 out2 c11) cs2,hB b (cProg p p1 c p2 c1)] [(1,vP b 0),(4,vS p12 out2 c11),(5,vI t26),(6,vP b1 0),(24,vS p2 p.Parts c1),(25,vI (p.Parts.length:Int)),(26,vI t26),(52,vS p7 y2 c6),(53,vI (y2.length:Int)),(54,vI t54)]:=by
 refine wT.partial_correctness p t26 x y2 _ fun self ih out2 t54 o N B I0 I Q p1 c p2 c1 b p5 c4 p6 c5 b1 p7 c6 p12 c11 cs2 H h6 h7 hat1 h1 h8 h h16 hg ho hx hr=>yR hg ho<|yD [55] rfl<|zX<|yB N ?_ ?_
 · intro hc6 N;refine zS<|zX<|yG<|yF<|bE N fun x1 hy5 N=>xS rfl rfl h8 hy5 ?_;intro ad1 ccs1 hat2 hrep1;obtain ⟨v011,rfl,h18⟩:=hrep1;obtain ⟨p14,c13,rfl⟩:=h18.form;refine xL 0 hat2 [vS p14 x1 c13] (vS p14 x1 c13) rfl<|yJ [] [10] rfl<|zX<|yF<|yH 1 [] [58] rfl<|bE N fun y6 hy6 N=>uH (zEw x1 _ hy6 h18) ?_;intro I07 le7;have ⟨h16,h6,h7,hat1,h18,h1⟩:=m6 le7 h16 h6 h7 hat1 h18 h1;have ⟨h8,h,H⟩:=m3 le7 h8 h H;refine yJ [] [60] rfl<|zI<|yB N ?_ ?_
   · intro hc7 N;exact yD [2,3] rfl<|xB<|zF<|zU<|zF<|zF<|hr _ _ _ _ (zB N).symm H ⟨_,_,(.tmp rfl (.tmp rfl ResV.nil)),zP,⟨_,_,rfl,rfl,(SL.nil _),rfl⟩⟩
   intro hc7 N;refine zS<|xG<|yH 1 [] [61] rfl<|xL 1 hat1 [vS p6 x.Body c5] (vS p6 x.Body c5) rfl<|yJ [] [63,64] rfl<|wB<|qW [(1,vP b 0),(4,vS p12 out2 c11),(5,vI t26),(6,vP b1 0),(10,vS p14 x1 c13),(24,vS p2 p.Parts c1),(25,vI (p.Parts.length:Int)),(26,vI t26),(52,vS p7 y2 c6),(53,vI (y2.length:Int)),(54,vI t54),(62,vS p6 x.Body c5),(63,vI (x.Body.length:Int)),(64,vI 0)] ?_;obtain ⟨o02,ho02,hMl⟩:=zC N;refine eG p t26 x x1 out2 0 o02 ho02 iR h6 h7 hat1 h18 h1 h8 h h16 (fun _ _ _ h=>hg _ _ _ h) (fun _ _ h=>ho _ _ h) ?_ ?_
   · intro I011 out5 p16 c15 cs5 heq2 le11 h21;subst o02;have ⟨h6,h7,hat1,h1,h8,h⟩:=m6 le11 h6 h7 hat1 h1 h8 h;have H:=H.trans le11;exact zR<|zO<|zI<|zL<|yJ [] [54] rfl<|yQ<|nO<|ih out5 (W (t54 + 1)) _ hMl H h6 h7 hat1 h1 h8 h h21 hg ho hx hr
   intro r0 I9 hs9 m9 heq9 le9 hrs9;subst heq9;exact zU<|zU<|zF<|zF<|hr _ _ _ _ (zB hMl).symm (H.trans le9) hrs9
 intro hc6 N;exact wY<|yO<|hx _ _ _ _ _ (zB N).symm H h16
def wU (p:zE) (out:List zK) (t26:Int):Option (Out (List zK) ((List zK)×Bool)):=do
 if (decide (t26 < (p.Parts.length:Int))) then
  let x←idx p.Parts t26
  let (y2,y3)←mD x.Nest
  let t51←(do
    if (!y3) then
     pure true
    else
     let y4←wE (x.Body.length:Int) 1 4
     if (!y4) then
      pure true
     else
      let y5←xY x.Body (fun x0=>vD x0 x)
      pure (id y5)
      : Option Bool)
  if t51 then
   pure (.ret (([]:List zK),false))
  else
   match←wT p t26 x y2 out 0 with
   | .ret r0=>pure (.ret r0)
   | .done out3 =>
    wU p out3 (W (t26 + 1))
 else
  pure (.done out)
 partial_fixpoint
theorem eI (p:zE):∀ (out:List zK) (t26:Int) (o:Out (List zK) ((List zK)×Bool)),wU p out t26=some o→∀ {B}{I0 I:Imm}{Q p1 c p2 c1}{b:Nat}{p3 c2 cs},I0.le I→(S4 I p2 p.Parts c1)→(S4 I p1 p.Arrays c)→(RL I cs out)→NG Q→NO Q→(∀ (I':Imm) (out1:List zK) (p4:Option Addr) (c3:Nat) (cs1:List Value),o=(.done out1)→I0.le I'→(RL I' cs1 out1)→T 89 B Q (.exit 0) I' [hO zK (vS p4 out1 c3) cs1] [(4,vS p4 out1 c3)])→(∀ r I' hs' m',o=(.ret r)→I0.le I'→RS Tryz.prog Tryz.f50 B (rV  r) I' hs' m'→T 89 B Q .ret I' hs' m')→J Tryz.prog 89 B (nav (bodyOf Tryz.f50) [1,1,1,0,1,0]) Q I [hO zK (vS p3 out c2) cs,hB b (cProg p p1 c p2 c1)] [(1,vP b 0),(4,vS p3 out c2),(24,vS p2 p.Parts c1),(25,vI (p.Parts.length:Int)),(26,vI t26)]:=by
 refine wU.partial_correctness p _ fun self ih out t26 o N B I0 I Q p1 c p2 c1 b p3 c2 cs H h1 h h4 hg ho hx hr=>yR hg ho<|yD [27] rfl<|zX<|yB N ?_ ?_
 · intro hc2 N;refine zS<|zX<|yG<|yF<|yH 1 [] [28] rfl<|bE N fun x hy1 N=>xS rfl rfl h1 hy1 ?_;intro ad ccs hat hrep;obtain ⟨p5,c4,p6,c5,rfl,h6,h7⟩:=tD hrep;refine xL 0 hat (cPart x p5 c4 p6 c5) (vA (cPart x p5 c4 p6 c5)) rfl<|uF zTwo ?_;intro b1 hb1;refine yH 5 [] [5] rfl<|xQ 0 (cPart x p5 c4 p6 c5) rfl<|yE rfl<|xG<|yH 2 [0] [33] rfl ?_;obtain ⟨⟨y2,y3⟩,hy2,N⟩:=zC N;refine xV (zCd x.Nest _ hy2 h6) ?_;rintro I02 hs2 v2 k2 le2 - ⟨v03,v04,rfl,rfl,h8,rfl⟩ -;have ⟨h4,h1,h6,h7,h,H⟩:=m6 le2 h4 h1 h6 h7 h H;obtain ⟨p7,c6,rfl⟩:=h8.form;refine yJ [] [7,8] rfl<|zX<|zZ<|oT 0 rfl ?_;intro I03 le3 hl0;have hat1:At I03 ⟨b1,0,none⟩ (cPart x p5 c4 p6 c5):=At.of_blk hl0;have ⟨h4,h6,h7,h8,h1,h⟩:=m6 le3 h4 h6 h7 h8 h1 h;have H:=H.trans le3;refine wP N [hO zK (vS p3 out c2) cs,hB b (cProg p p1 c p2 c1)] (fun t51=>[(1,vP b 0),(4,vS p3 out c2),(5,vI t26),(6,vP b1 0),(7,vS p7 y2 c6),(24,vS p2 p.Parts c1),(25,vI (p.Parts.length:Int)),(26,vI t26),(51,.bool t51)]) (fun o01 ho01=>?_) ?_
   · have H:=iS I03;refine zL<|yH 3 [] [39] rfl<|xZ [39] ho01 ?_ ?_
     · intro hc3 N;exact vG [] [(51,vY)]<|yO<|zV (ct N H)
     intro hc3 N;refine yH 4 [] [40] rfl<|xL 1 hat1 [vS p6 x.Body c5] (vS p6 x.Body c5) rfl<|yH 6 [] [42] rfl<|bE N fun y4 hy3 N=>uH (wO (x.Body.length:Int) 1 4 _ hy3 ) ?_;intro I05 le4;have ⟨h6,h7,hat1,h,H⟩:=m5 le4 h6 h7 hat1 h H;refine yH 10 [] [46] rfl<|xZ [46] N ?_ ?_
     · intro hc4 N;exact vG [] [(51,vY)]<|yO<|zV (ct N H)
     intro hc4 N;refine yH 11 [] [47] rfl<|xL 1 hat1 [vS p6 x.Body c5] (vS p6 x.Body c5) rfl<|yH 13 [] [49] rfl ?_;have hf0:FV1 Tryz.prog I05 [] (.func (.func 104) ⟨[]⟩ ⟨[vP b1 0]⟩) (fun x0=>vD x0 x):=by
       refine FV1.intro ?_;intro I1 le1 x0 r u0 hF k0;obtain ⟨_,rfl,k0⟩:=k0;obtain ⟨p8,c7,p9,c8,p10,c9,p11,c10,rfl,h11,h12,h13,h14⟩:=qC k0;exact (eX x0 x r hF h11 h12 h13 h14 (h6.mono le1) (h7.mono le1) (hat1.mono le1)).mono (by rintro k i hs u ⟨v0,rfl,rfl,h⟩; exact ⟨rfl,h⟩)
     obtain ⟨y5,hy4,N⟩:=zC N;refine xV (kQ x.Body (fun x0=>vD x0 x) _ hy4 h7 hf0) ?_;rintro I06 hs2 v2 k2 le5 - ⟨v010,rfl,rfl,rfl⟩ -;have H:=H.trans le5;exact yJ [] [51] rfl<|yO<|zV (ct N H)
   intro t51 I04 le6 hMc1;have ⟨h4,h6,h7,hat1,h8,h1⟩:=m6 le6 h4 h6 h7 hat1 h8 h1;have ⟨h,H⟩:=m2 le6 h H;refine zI<|yB hMc1 ?_ ?_
   · intro hc5 N;exact yD [2,3] rfl<|xB<|zF<|zU<|zF<|zF<|hr _ _ _ _ (zB N).symm H ⟨_,_,(.tmp rfl (.tmp rfl ResV.nil)),zP,⟨_,_,rfl,rfl,(SL.nil _),rfl⟩⟩
   intro hc5 N;refine zS<|wW [52,53,54] rfl<|wB<|qW [(1,vP b 0),(4,vS p3 out c2),(5,vI t26),(6,vP b1 0),(24,vS p2 p.Parts c1),(25,vI (p.Parts.length:Int)),(26,vI t26),(52,vS p7 y2 c6),(53,vI (y2.length:Int)),(54,vI 0)] ?_;obtain ⟨o03,ho03,hMl1⟩:=zC N;refine eH p t26 x y2 out 0 o03 ho03 iR h6 h7 hat1 h1 h8 h h4 (fun _ _ _ h=>hg _ _ _ h) (fun _ _ h=>ho _ _ h) ?_ ?_
   · intro I012 out3 p13 c12 cs3 heq3 le12 h17;subst o03;have ⟨h1,h,H⟩:=m3 le12 h1 h H;exact zR<|zO<|zI<|zL<|yJ [] [26] rfl<|yQ<|nO<|ih out3 (W (t26 + 1)) _ hMl1 H h1 h h17 hg ho hx hr
   intro r0 I9 hs9 m9 heq9 le9 hrs9;subst heq9;exact zU<|zU<|zF<|zF<|hr _ _ _ _ (zB hMl1).symm (H.trans le9) hrs9
 intro hc2 N;exact wY<|wA (zW [0] rfl (by decide))<|yO<|hx _ _ _ _ _ (zB N).symm H h4
def rF (p:zE):Option ((List zK)×Bool):=do
 let t22←(do
   let y←kU p.Arrays
   if (!y) then
    pure true
   else
    pure (decide ((p.Parts.length:Int) > 4))
     : Option Bool)
 if t22 then
  pure (([]:List zK),false)
 else
  match←wU p ([]:List zK) 0 with
  | .ret r0=>pure r0
  | .done out1 =>
   pure (out1,(decide ((out1.length:Int) ≤ 120)))
theorem dU:∀ p r,rF p=some r→∀ {I:Imm}{p1 c p2 c1},(S4 I p1 p.Arrays c)→(S4 I p2 p.Parts c1)→RT 50 [vA (cProg p p1 c p2 c1)] I [] (rV  r):=by
 intro p r N I p1 c p2 c1 h h1;unfold rF at N;refine yL Tryz.func50 fun B=>?_;have H:=iS I;refine yF<|tX (cProg p p1 c p2 c1) ?_;intro b hb;refine vG [] []<|zX<|zZ ?_;refine wP N [hB b (cProg p p1 c p2 c1)] (fun t22=>[(1,vP b 0),(22,.bool t22)]) (fun o0 ho0=>?_) ?_
 · have H:=iS I;refine zL<|yH 2 [0] [14] rfl ?_;obtain ⟨y,hy,N⟩:=zC ho0;refine uH (zES p.Arrays _ hy h) ?_;intro I01 le;have H:=H.trans le;refine yH 5 [] [17] rfl<|xZ [17] N ?_ ?_
   · intro hc N;exact vG [] [(22,vY)]<|yO<|zV (ct N H)
   intro hc N;exact yJ [0] [22] rfl<|yO<|zV (ct N H)
 intro t22 I0 le1 hMc;have ⟨h,h1⟩:=m2 le1 h h1;refine zI<|yB hMc ?_ ?_
 · intro hc1 N;refine yD [2,3] rfl<|xB<|zF ?_;obtain rfl:=zB N;exact xC ⟨_,_,(.tmp rfl (.tmp rfl ResV.nil)),zP,⟨_,_,rfl,rfl,(SL.nil _),rfl⟩⟩
 intro hc1 N;refine zS<|zDB [(4,z0)]<|zX<|yF<|yJ [0] [24,25,26] rfl<|wB<|qW [(1,vP b 0),(4,z0),(24,vS p2 p.Parts c1),(25,vI (p.Parts.length:Int)),(26,vI 0)]<|eV zK fun h3=>?_;obtain ⟨o04,ho04,hMl2⟩:=zC N;refine eI p ([]:List zK) 0 o04 ho04 iR h1 h h3 (fun _ _ _ h=>h) (fun _ _ h=>h) ?_ ?_
 · intro I013 out1 p4 c3 cs1 heq4 le13 h5;subst o04;refine zR<|wW [2,3] rfl<|xB<|xA 0 rfl ?_;intro I014 le14 hl02;have h31:=SL.of_frozen hl02 le14 h5;obtain rfl:=zB hMl2;exact xC ⟨_,_,(.tmp rfl (.tmp rfl ResV.nil)),zP,⟨_,_,rfl,rfl,h31,rfl⟩⟩
 intro r0 I9 hs9 m9 heq9 le9 hrs9;subst heq9;refine zU<|zF ?_;obtain rfl:=zB hMl2;exact xC hrs9
def zAs (r:zQ):KT:=fun kk I' hs' v=>
  ∃ v0,hs'=[]∧v=tupV [v0]∧(∃ cs,v0=.agg ⟨cs⟩∧Rp.rep I' cs r)
def mU (p:zE) (x:zK):Option (zQ):=do
 let x1←idx p.Parts x.Part
 let x2←idx x1.Body x.Stmt
 pure (id x2)
theorem zBf:∀ p x r,mU p x=some r→∀ {I:Imm}{p1 c p2 c1 p3 c2},(S4 I p1 p.Arrays c)→(S4 I p2 p.Parts c1)→(S4 I p3 x.Point c2)→RT 53 [vA (cProg p p1 c p2 c1),vA (cInst x p3 c2)] I [] (zAs  r):=by
 intro p x r N I p1 c p2 c1 p3 c2 h h1 h2;unfold mU at N;refine yL Tryz.func53 fun B=>yF<|tX (cProg p p1 c p2 c1) ?_;intro b hb;refine tX (cInst x p3 c2) ?_;intro b1 hb1;refine uF [vT ([]),z0,vI 0,vI 0,z0,vI 0,vT ([]),z0,z0] ?_;intro b2 hb2;refine yE rfl<|zI<|zZ ?_;obtain ⟨x1,hy,N⟩:=zC N;obtain ⟨x2,hy1,N⟩:=zC N;refine wX [.p (vP b 1) [],.p (vS p2 p.Parts c1) [2],.p (vP b1 0) [],.p (vI x.Part) [1],.x (ePPart x1),.x (eQPart 1 x1),.x (eS x1.Body),.p (vP b1 1) [],.p (vI x.Stmt) [1],.x (ePStmt x2),.x (eVStmt x2)] [[],[(0,false)],[],[(2,false)],[(1,false),(3,false)],[(4,false)],[(5,false)],[],[(7,false)],[(6,false),(8,false)],[(9,false)]] [hB b2 [vT ([]),z0,vI 0,vI 0,z0,vI 0,vT ([]),z0,z0],hB b1 (cInst x p3 c2),hB b (cProg p p1 c p2 c1)] [] [(10,false)] (zY [0,1,2]) ?_ ?_
 · refine Op<|Op<|Op<|Op<|Ox ?_<|Ox ?_<|Ox ?_<|Op<|Op<|Ox ?_<|Ox ?_<|On
   · intro I1 hf le1;refine yS [6,8] rfl ?_;have h1:=h1.mono le1;refine xS rfl rfl h1 hy ?_;intro ad ccs hat hrep;obtain ⟨p4,c3,p5,c4,rfl,h3,h4⟩:=tD hrep;exact yK [] iR ⟨_,_,_,_,_,rfl,rfl,hat,h3,h4⟩
   · rintro I1 hf le1 _ _ ⟨ad,p4,c3,p5,c4,rfl,rfl,hat,h3,h4⟩;exact yS [9] rfl<|oH 6 [(10,.pointer (some (ad.add 1)))]<|yK [] iR ⟨_,_,_,_,_,rfl,rfl,hat,h3,h4⟩
   · rintro I1 hf le1 _ _ ⟨ad1,p41,c31,p51,c41,rfl,rfl,hat1,h31,h41⟩;exact yS [10] rfl<|xL 1 hat1 [vS p51 x1.Body c41] (vS p51 x1.Body c41) rfl<|yK [] iR ⟨_,_,rfl,rfl,h41⟩
   · rintro I1 hf le1 _ _ ⟨p511,c411,rfl,rfl,h411⟩;refine yS [11,13] rfl<|xS rfl rfl h411 hy1 ?_;intro ad2 ccs1 hat2 hrep1;obtain ⟨p6,c5,p7,c6,p8,c7,p9,c8,rfl,h5,h6,h7,h8⟩:=qC hrep1;exact yK [] iR ⟨_,_,_,_,_,_,_,_,_,rfl,rfl,hat2,h5,h6,h7,h8⟩
   rintro I1 hf le1 _ _ ⟨ad2,p6,c5,p7,c6,p8,c7,p9,c8,rfl,rfl,hat2,h5,h6,h7,h8⟩;exact yS [14] rfl<|xL 0 hat2 (cStmt x2 p6 c5 p7 c6 p8 c7 p9 c8) (vA (cStmt x2 p6 c5 p7 c6 p8 c7 p9 c8)) rfl<|yK [] iR ⟨_,_,_,_,_,_,_,_,rfl,rfl,h5,h6,h7,h8⟩
 rintro I0 le _ _ ⟨p61,c51,p71,c61,p81,c71,p91,c81,rfl,rfl,h51,h61,h71,h81⟩;refine yS [4,15] rfl ?_;refine xQ 0 (cStmt x2 p61 c51 p71 c61 p81 c71 p91 c81) rfl<|yE rfl<|zI<|yZ ?_;obtain rfl:=zB N;exact xC ⟨_,_,(.cell 0 rfl rfl (by kernel_rfl) ResV.nil),zP,⟨_,rfl,rfl,⟨_,rfl,(wZ ⟨_,_,_,_,rfl,h51,h61,h71,h81⟩)⟩⟩⟩
def dV (r:(List Int)×Int):KT:=fun kk I' hs' v=>
  ∃ v0 v1,hs'=[]∧v=tupV [v0,v1]∧SL I' v0 r.1∧v1=.int .i64 r.2
def vH (p:zE) (x:zK) (y1:(List zJ)) (out:List Int) (t17:Int):Option (List Int):=do
 if (decide (t17 < (y1.length:Int))) then
  let x1←idx y1 t17
  let y2←tR p x1 x.Point
  let out2←app 8 out ([y2]:List Int)
  vH p x y1 out2 (W (t17 + 1))
 else
  pure (id out)
 partial_fixpoint
theorem dM (p:zE) (x:zK) (y1:(List zJ)):∀ (out:List Int) (t17:Int) (o:List Int),vH p x y1 out t17=some o→∀ {B}{I0 I:Imm}{Q}{y:zQ}{p1 c p2 c1 p3 c2}{b:Nat}{b1:Nat}{p4 c3 p5 c4 p6 c5 p7 c6}{b2:Nat}{p8 c7 p9 c8 cs1},I0.le I→(S4 I p8 y1 c7)→(S4 I p4 y.Write.Subs c3)→(S4 I p5 y.Value.Index.Coefs c4)→(S4 I p6 y.Value.Read.Subs c5)→(S4 I p7 y.Value.Kids c6)→(S4 I p3 x.Point c2)→(S4 I p1 p.Arrays c)→(S4 I p2 p.Parts c1)→(RL I cs1 out)→NG Q→NO Q→(∀ (I':Imm) (out1:List Int) (p10:Option Addr) (c9:Nat) (cs2:List Value),o=out1→I0.le I'→(RL I' cs2 out1)→T 37 B Q (.exit 0) I' [hO Int (vS p10 out1 c9) cs2,hB b2 (cStmt y p4 c3 p5 c4 p6 c5 p7 c6),hB b1 (cInst x p3 c2),hB b (cProg p p1 c p2 c1)] [(2,vP b 0),(3,vP b1 0),(6,vP b2 0),(7,vS p10 out1 c9)])→J Tryz.prog 37 B (nav (bodyOf Tryz.f123) [1,1,1,0,1,0]) Q I [hO Int (vS p9 out c8) cs1,hB b2 (cStmt y p4 c3 p5 c4 p6 c5 p7 c6),hB b1 (cInst x p3 c2),hB b (cProg p p1 c p2 c1)] [(2,vP b 0),(3,vP b1 0),(6,vP b2 0),(7,vS p9 out c8),(15,vS p8 y1 c7),(16,vI (y1.length:Int)),(17,vI t17)]:=by
 refine vH.partial_correctness p x y1 _ fun self ih out t17 o N B I0 I Q y p1 c p2 c1 p3 c2 b b1 p4 c3 p5 c4 p6 c5 p7 c6 b2 p8 c7 p9 c8 cs1 H h8 h4 h5 h6 h7 h2 h h1 h10 hg ho hx=>yR hg ho<|yD [18] rfl<|zX<|yB N ?_ ?_
 · intro hc N;refine zS<|zX<|yG<|yF<|bE N fun x1 hy2 N=>xS rfl rfl h8 hy2 ?_;intro ad ccs hat hrep;obtain ⟨p11,c10,rfl,h12⟩:=oE hrep;refine xL 0 hat (cAccess x1 p11 c10) (vA (cAccess x1 p11 c10)) rfl<|uF [vT ([]),z0] ?_;intro b3 hb3;refine xQ 0 (cAccess x1 p11 c10) rfl<|yE rfl<|zI<|zL<|oD 5 [4,0,3] [(21,vS p9 out c8),(22,vA (cProg p p1 c p2 c1)),(23,vA (cAccess x1 p11 c10)),(25,vS p3 x.Point c2)]<|bE N fun y2 hy3 N=>jD (mG p x1 x.Point _ hy3 h h1 h12 h2) ?_;intro I02 le2;have ⟨h8,h10,h4,h5,h6,h7⟩:=m6 le2 h8 h10 h4 h5 h6 h7;have ⟨h2,h,h1,H⟩:=m4 le2 h2 h h1 H;refine tJ [vI y2] Int ?_;intro b4 hb4;have h14:RL I02 [vI y2] ([y2]:List Int):=rI [y2];obtain ⟨out2,hy4,N⟩:=zC N;exact qB 3 1 2 rfl rfl rfl h10 (.inr ⟨0,rfl⟩) h14 hy4 fun p12 c11 cs3 h15=>rW (zY [1,2,3,4,5] (hs':=[hB b3 (cAccess x1 p11 c10),hO Int (vS p12 out2 c11) cs3,hB b2 (cStmt y p4 c3 p5 c4 p6 c5 p7 c6),hB b1 (cInst x p3 c2),hB b (cProg p p1 c p2 c1)]))<|yJ [] [7] rfl<|zO<|zI<|zL<|yJ [] [17] rfl<|yQ<|jR (zW [1,2,3,4] rfl (by decide))<|nO<|ih out2 (W (t17 + 1)) _ N H h8 h4 h5 h6 h7 h2 h h1 h15 hg ho hx
 intro hc N;exact wY<|yO<|hx _ _ _ _ _ (zB N).symm H h10
def qN (p:zE) (x:zK):Option ((List Int)×Int):=do
 let y←mU p x
 let y1←mE y.Value
 let out1←vH p x y1 ([]:List Int) 0
 let y3←tR p y.Write x.Point
 pure (out1,y3)
theorem zAf:∀ p x r,qN p x=some r→∀ {I:Imm}{p1 c p2 c1 p3 c2},(S4 I p1 p.Arrays c)→(S4 I p2 p.Parts c1)→(S4 I p3 x.Point c2)→RT 123 [vA (cProg p p1 c p2 c1),vA (cInst x p3 c2)] I [] (dV  r):=by
 intro p x r N I p1 c p2 c1 p3 c2 h h1 h2;unfold qN at N;refine yL Tryz.func123 fun B=>yF<|tX (cProg p p1 c p2 c1) ?_;intro b hb;refine tX (cInst x p3 c2) ?_;intro b1 hb1;refine vG [] []<|xG<|oD 2 [1,0] [(10,vA (cProg p p1 c p2 c1)),(11,vA (cInst x p3 c2))]<|bE N fun y hy N=>xV (zBf p x _ hy h h1 h2) ?_;rintro I0 hs2 v2 k2 le - ⟨v0,rfl,rfl,⟨cs,rfl,h3⟩⟩ -;have ⟨h2,h,h1⟩:=m3 le h2 h h1;obtain ⟨p4,c3,p5,c4,p6,c5,p7,c6,rfl,h4,h5,h6,h7⟩:=qC h3;refine uF [vT ([]),z0,vI 0,vI 0,z0,vI 0,vT ([]),z0,z0] ?_;intro b2 hb2;refine xQ 0 (cStmt y p4 c3 p5 c4 p6 c5 p7 c6) rfl<|yE rfl<|zDB [(7,z0)]<|zX<|yF<|oD 2 [0] [(14,vA (cExpr y.Value p5 c4 p6 c5 p7 c6))]<|bE N fun y1 hy1 N=>xV (zCO y.Value _ hy1 h5 h6 h7) ?_;rintro I01 hs2 v2 k2 le1 - ⟨v05,rfl,rfl,h8⟩ -;have ⟨h4,h5,h6,h7,h2,h⟩:=m6 le1 h4 h5 h6 h7 h2 h;have h1:=h1.mono le1;obtain ⟨p8,c7,rfl⟩:=h8.form;refine yJ [] [16,17] rfl<|wB<|qW [(2,vP b 0),(3,vP b1 0),(6,vP b2 0),(7,z0),(15,vS p8 y1 c7),(16,vI (y1.length:Int)),(17,vI 0)]<|eV Int fun h9=>?_;obtain ⟨o0,ho0,hMl⟩:=zC N;refine dM p x y1 ([]:List Int) 0 o0 ho0 iR h8 h4 h5 h6 h7 h2 h h1 h9 (fun _ _ _ h=>h) (fun _ _ h=>h) ?_;intro I03 out1 p10 c9 cs2 heq le3 h11;subst o0;have ⟨h4,h2,h,h1⟩:=m4 le3 h4 h2 h h1;refine zR<|xG<|oD 6 [3,1,2] [(30,vS p10 out1 c9),(31,vA (cProg p p1 c p2 c1)),(33,vA (cAccess y.Write p4 c3)),(35,vS p3 x.Point c2)] ?_;obtain ⟨y3,hy5,N⟩:=zC hMl;refine jD (mG p y.Write x.Point _ hy5 h h1 h4 h2) ?_;intro I04 le4;have h11:=iM le4 h11;refine yJ [] [4,5] rfl<|xB<|xA 0 rfl ?_;intro I05 le5 hl0;have h17:=SL.of_frozen hl0 le5 h11;obtain rfl:=zB N;exact xC ⟨_,_,(.tmp rfl (.tmp rfl ResV.nil)),zP,⟨_,_,rfl,rfl,h17,rfl⟩⟩
def zEx (r:(Option vQ)×Bool):KT:=fun kk I' hs' v=>
  ∃ v0 v1,hs'=[]∧v=tupV [v0,v1]∧FP I' v0 r.1∧v1=.bool r.2
def oQ (p:zE) (y1:(List zK)) (t24:Int) (reads:List (List Int)) (writes:List Int):Option ((List (List Int)×List Int)):=do
 if (decide (t24 < (y1.length:Int))) then
  let x←idx y1 t24
  let (y4,y5)←qN p x
  let l←app 24 reads ([y4]:List (List Int))
  let l1←app 8 writes ([y5]:List Int)
  oQ p y1 (W (t24 + 1)) l l1
 else
  pure (reads,writes)
 partial_fixpoint
theorem zEU (p:zE) (y1:(List zK)):∀ (t24:Int) (reads:List (List Int)) (writes:List Int) (o:(List (List Int)×List Int)),oQ p y1 t24 reads writes=some o→∀ {B}{I0 I:Imm}{Q p1 c p2 c1}{b:Nat}{p3 c2}{b1:Nat}{p4 c3 cs p5 c4 cs1},I0.le I→(S4 I p3 y1 c2)→(S4 I p1 p.Arrays c)→(S4 I p2 p.Parts c1)→(RL I cs reads)→(RL I cs1 writes)→NG Q→NO Q→(∀ (I':Imm) (reads1:List (List Int)) (writes1:List Int) (p6:Option Addr) (c5:Nat) (cs2:List Value) (p7:Option Addr) (c6:Nat) (cs3:List Value),o=(reads1,writes1)→I0.le I'→(RL I' cs2 reads1)→(RL I' cs3 writes1)→T 56 B Q (.exit 0) I' [hO Int (vS p7 writes1 c6) cs3,hO (List Int) (vS p6 reads1 c5) cs2,hB b1 [vS p1 p.Arrays c,vS p2 p.Parts c1,vS p3 y1 c2,vS p6 reads1 c5,vS p7 writes1 c6]] [(6,vP b1 0)])→J Tryz.prog 56 B (nav (bodyOf Tryz.f76) [1,1,1,1,0,1,0]) Q I [hO Int (vS p5 writes c4) cs1,hO (List Int) (vS p4 reads c3) cs,hB b1 [vS p1 p.Arrays c,vS p2 p.Parts c1,vS p3 y1 c2,vS p4 reads c3,vS p5 writes c4],hB b (cProg p p1 c p2 c1)] [(1,vP b 0),(6,vP b1 0),(22,vS p3 y1 c2),(23,vI (y1.length:Int)),(24,vI t24)]:=by
 refine oQ.partial_correctness p y1 _ fun self ih t24 reads writes o N B I0 I Q p1 c p2 c1 b p3 c2 b1 p4 c3 cs p5 c4 cs1 H h2 h h1 h6 h7 hg ho hx=>yR hg ho<|yD [25] rfl<|zX<|yB N ?_ ?_
 · intro hc1 N;refine zS<|zX<|yG<|yF<|bE N fun x hy1 N=>xS rfl rfl h2 hy1 ?_;intro ad ccs hat hrep;obtain ⟨p8,c7,rfl,h10⟩:=rQ hrep;refine xL 0 hat (cInst x p8 c7) (vA (cInst x p8 c7)) rfl<|uF [vI 0,vI 0,z0] ?_;intro b2 hb2;refine xQ 0 (cInst x p8 c7) rfl<|yE rfl<|xG<|oD 2 [4,0] [(29,vA (cProg p p1 c p2 c1)),(30,vA (cInst x p8 c7))] ?_;obtain ⟨⟨y4,y5⟩,hy2,N⟩:=zC N;refine xV (zAf p x _ hy2 h h1 h10) ?_;rintro I01 hs2 v2 k2 le1 - ⟨v03,v04,rfl,rfl,h11,rfl⟩ -;have ⟨h2,h7,h6,h,h1,H⟩:=m6 le1 h2 h7 h6 h h1 H;obtain ⟨p9,c8,rfl⟩:=h11.form;refine yJ [] [9,10] rfl<|zI ?_;obtain ⟨l,hy3,N⟩:=zC N;obtain ⟨l1,hy4,N⟩:=zC N;refine wX [.p (vP b1 0) [],.p (vP b1 0) [],.p (vP b1 0) [],.p (vP b1 0) [],.p (vP b1 3) [],.q (vS p4 reads c3),.p (vS p9 y4 c8) [],.x (fun I' v hx=>∃ b3,v=vS (some ⟨b3,0,none⟩) ([y4]:List (List Int)) 1∧hx=[]∧(SL I' (vS (some ⟨b3,0,none⟩) ([y4]:List (List Int)) 1) ([y4]:List (List Int)))),.x (fun I' v hx=>∃ p10 c9 cs4,v=vS p10 l c9∧hx=[hO (List Int) (vS p10 l c9) cs4]∧(RL I' cs4 l)),.p (vP b1 0) [],.p (vP b1 0) [],.p (vP b1 4) [],.q (vS p5 writes c4),.p (vI y5) [],.x (fun I' v hx=>∃ b4,v=vS (some ⟨b4,0,none⟩) ([y5]:List Int) 1∧hx=[]∧(SL I' (vS (some ⟨b4,0,none⟩) ([y5]:List Int) 1) ([y5]:List Int))),.x (fun I' v hx=>∃ p11 c10 cs5,v=vS p11 l1 c10∧hx=[hO Int (vS p11 l1 c10) cs5]∧(RL I' cs5 l1)),.p (vP b1 0) [],.p (vP b1 3) [],.x (fun I' v hx=>∃ p101 c91 cs41,hx=[hB b1 [vS p1 p.Arrays c,vS p2 p.Parts c1,vS p3 y1 c2,vS p101 l c91,vS p5 writes c4],hO (List Int) (vS p101 l c91) cs41]∧(RL I' cs41 l))] [[],[],[],[(2,false)],[(3,false)],[(4,false),(24,false)],[],[(6,false)],[(5,false),(7,false),(22,true)],[],[(9,false)],[(10,false)],[(11,false),(24,false)],[],[(13,false)],[(12,false),(14,false),(23,true)],[(0,false)],[(16,false)],[(8,true),(17,false),(24,true)]] [hB b2 (cInst x p8 c7),hB b (cProg p p1 c p2 c1)] [[hO (List Int) (vS p4 reads c3) cs],[hO Int (vS p5 writes c4) cs1],[hB b1 [vS p1 p.Arrays c,vS p2 p.Parts c1,vS p3 y1 c2,vS p4 reads c3,vS p5 writes c4]]] [(1,false),(15,true),(18,true)] (zY [0,4,2,1,3]) ?_ ?_
   · refine Op<|Op<|Op<|Op<|Op<|Ob ?_<|Op<|Ox ?_<|Ox ?_<|Op<|Op<|Op<|Ob ?_<|Op<|Ox ?_<|Ox ?_<|Op<|Op<|Ox ?_<|On
     · intro I1 hf le1 hbo;obtain ⟨hf2,hbp⟩:=hbo.at (j:=24) (g:=[hB b1 [vS p1 p.Arrays c,vS p2 p.Parts c1,vS p3 y1 c2,vS p4 reads c3,vS p5 writes c4]]) (by decide) (by kernel_rfl) rfl;refine tY ?_;rintro _ _ ⟨rfl,rfl⟩;refine tY ?_;rintro _ _ rfl;refine mS<|zLt hbp<|zBs [(38,vP b1 3)] ?_;exact zCR (cs:=[vS p4 reads c3]) (v:=vS p4 reads c3) 2 rfl rfl rfl rfl rfl (by kernel_rfl) (by kernel_rfl) (by kernel_rfl)<|xF iR
     · intro I1 hf le1;refine yS [40] rfl ?_;have H:=iS I1;have h11:=h11.mono le1;refine nE (rc y4 ⟨_,rfl,h11⟩ rN) ?_;intro b3 I02 le2 h14;have H:=H.trans le2;exact yK [] H ⟨_,rfl,rfl,h14⟩
     · rintro I1 hf le1 _ _ ⟨rfl,rfl⟩ _ _ ⟨b3,rfl,rfl,h14⟩ _ _ rfl;refine yS [39,41] rfl ?_;have h6:=iM le1 h6;obtain ⟨ccs1,k0,k01⟩:=h14;have h14:SL I1 (vS (some ⟨b3,0,none⟩) ([y4]:List (List Int)) 1) ([y4]:List (List Int)):=⟨_,k0,k01⟩;exact qB 36 1 0 rfl rfl rfl h6 (.inl k0) k01 hy3 fun p10 c9 cs4 h15=>uG (hs':=(hO (List Int) (vS p10 l c9) cs4::hB b2 (cInst x p8 c7)::hB b (cProg p p1 c p2 c1)::hf)) rfl<|yK [hO (List Int) (vS p10 l c9) cs4] iR ⟨_,_,_,rfl,rfl,h15⟩
     · intro I1 hf le1 hbo;obtain ⟨hf2,hbp⟩:=hbo.at (j:=24) (g:=[hB b1 [vS p1 p.Arrays c,vS p2 p.Parts c1,vS p3 y1 c2,vS p4 reads c3,vS p5 writes c4]]) (by decide) (by kernel_rfl) rfl;refine tY ?_;rintro _ _ ⟨rfl,rfl⟩;refine tY ?_;rintro _ _ rfl;refine mS<|zLt hbp<|zBs [(45,vP b1 4)] ?_;exact zCR (cs:=[vS p5 writes c4]) (v:=vS p5 writes c4) 2 rfl rfl rfl rfl rfl (by kernel_rfl) (by kernel_rfl) (by kernel_rfl)<|xF iR
     · intro I1 hf le1;refine yS [47] rfl ?_;have H:=iS I1;refine nE (rI [y5]) ?_;intro b4 I03 le3 h17;have H:=H.trans le3;exact yK [] H ⟨_,rfl,rfl,h17⟩
     · rintro I1 hf le1 _ _ ⟨rfl,rfl⟩ _ _ ⟨b4,rfl,rfl,h17⟩ _ _ rfl;refine yS [46,48] rfl ?_;have h7:=iM le1 h7;obtain ⟨ccs2,k02,k03⟩:=h17;have h17:SL I1 (vS (some ⟨b4,0,none⟩) ([y5]:List Int) 1) ([y5]:List Int):=⟨_,k02,k03⟩;exact qB 3 1 0 rfl rfl rfl h7 (.inl k02) k03 hy4 fun p11 c10 cs5 h18=>uG (hs':=(hO Int (vS p11 l1 c10) cs5::hB b2 (cInst x p8 c7)::hB b (cProg p p1 c p2 c1)::hf)) rfl<|yK [hO Int (vS p11 l1 c10) cs5] iR ⟨_,_,_,rfl,rfl,h18⟩
     rintro I1 hf le1 _ _ ⟨p10,c9,cs4,rfl,rfl,h15⟩ _ _ ⟨rfl,rfl⟩ _ _ rfl;refine yS [42,51] rfl ?_;have H:=iS I1;exact zCz 0 [vS p1 p.Arrays c,vS p2 p.Parts c1,vS p3 y1 c2,vS p10 l c9,vS p5 writes c4] (hB b1 [vS p1 p.Arrays c,vS p2 p.Parts c1,vS p3 y1 c2,vS p10 l c9,vS p5 writes c4]::hO (List Int) (vS p10 l c9) cs4::hB b2 (cInst x p8 c7)::hB b (cProg p p1 c p2 c1)::hf) rfl rfl rfl rfl<|zE8 (hx:=[hB b1 [vS p1 p.Arrays c,vS p2 p.Parts c1,vS p3 y1 c2,vS p10 l c9,vS p5 writes c4],hO (List Int) (vS p10 l c9) cs4]) rfl H rfl (zF0 (v:=undef)) ⟨_,_,_,rfl,h15⟩
   rintro I04 le4 _ _ ⟨rfl,rfl⟩ _ _ ⟨p11,c10,cs5,rfl,rfl,h18⟩ _ _ ⟨p101,c91,cs41,rfl,h151⟩;refine yS [1,6,22,23,24,35,49] rfl ?_;have ⟨h2,h,h1,H⟩:=m4 le4 h2 h h1 H;exact yH 21 [] [53] rfl<|xQ 0 [vS p1 p.Arrays c,vS p2 p.Parts c1,vS p3 y1 c2,vS p101 l c91,vS p11 l1 c10] rfl<|yE rfl<|zO<|zI<|zL<|yJ [] [24] rfl<|yQ<|jR (zW [2,1,0,4] rfl (by decide))<|nO<|ih (W (t24 + 1)) l l1 _ N H h2 h h1 h151 h18 hg ho hx
 intro hc1 N;exact wY<|wA (zW [0,1,2] rfl (by decide))<|yO<|hx _ _ _ _ _ _ _ _ _ (zB N).symm H h6 h7
def fD (p:zE):Option ((Option vQ)×Bool):=do
 let (y1,y2)←rF p
 if (!y2) then
  pure (none,false)
 else
  let (reads1,writes1)←oQ p y1 0 ([]:List (List Int)) ([]:List Int)
  pure ((some (vQ.mk p y1 reads1 writes1)),true)
theorem zGZ:∀ p r,fD p=some r→∀ {I:Imm}{p1 c p2 c1},(S4 I p1 p.Arrays c)→(S4 I p2 p.Parts c1)→RT 76 [vA (cProg p p1 c p2 c1)] I [] (zEx  r):=by
 intro p r N I p1 c p2 c1 h h1;unfold fD at N;refine yL Tryz.func76 fun B=>yF<|tX (cProg p p1 c p2 c1) ?_;intro b hb;refine vG [] []<|xG<|oD 1 [0] [(12,vA (cProg p p1 c p2 c1))] ?_;obtain ⟨⟨y1,y2⟩,hy,N⟩:=zC N;refine xV (dU p _ hy h h1) ?_;rintro I0 hs2 v2 k2 le - ⟨v0,v01,rfl,rfl,h2,rfl⟩ -;have ⟨h,h1⟩:=m2 le h h1;obtain ⟨p3,c2,rfl⟩:=h2.form;refine yJ [] [4,5] rfl<|zX<|yD [17] rfl<|zI<|yB N ?_ ?_
 · intro hc N;refine yD [2,3] rfl<|xB<|zF ?_;obtain rfl:=zB N;exact xC ⟨_,_,(.tmp rfl (.tmp rfl ResV.nil)),zP,⟨_,_,rfl,rfl,zML,rfl⟩⟩
 intro hc N;refine zS<|xG<|oD 3 [0] [(20,vA [vS p1 p.Arrays c,vS p2 p.Parts c1,vS p3 y1 c2,z0,z0])]<|tX [vS p1 p.Arrays c,vS p2 p.Parts c1,vS p3 y1 c2,z0,z0] ?_;intro b1 hb1;refine yJ [] [6] rfl<|zX<|yD [22,23,24] rfl<|wB<|qW [(1,vP b 0),(6,vP b1 0),(22,vS p3 y1 c2),(23,vI (y1.length:Int)),(24,vI 0)]<|eV (List Int) fun h4=>?_;refine eV Int fun h5=>?_;obtain ⟨o0,ho0,hMl⟩:=zC N;refine zEU p y1 0 ([]:List (List Int)) ([]:List Int) o0 ho0 iR h2 h h1 h4 h5 (fun _ _ _ h=>h) (fun _ _ h=>h) ?_;intro I05 reads1 writes1 p6 c5 cs2 p7 c6 cs3 heq le5 h8 h9;subst o0;have ⟨h,h1,h2⟩:=m3 le5 h h1 h2;refine zR<|wW [2,3] rfl<|xB<|xA 1 rfl ?_;intro I06 le6 hl02;have h19:=SL.of_frozen hl02 le6 h8;have ⟨h9,h,h1,h2⟩:=m4 le6 h9 h h1 h2;refine xA 0 rfl ?_;intro I07 le7 hl03;have h20:=SL.of_frozen hl03 le7 h9;have ⟨h,h1,h2,h19⟩:=m4 le7 h h1 h2 h19;refine xA 0 rfl ?_;intro I08 le8 hl04;have hat1:At I08 ⟨b1,0,none⟩ [vS p1 p.Arrays c,vS p2 p.Parts c1,vS p3 y1 c2,vS p6 reads1 c5,vS p7 writes1 c6]:=At.of_blk hl04;have ⟨h,h1,h2,h19,h20⟩:=m5 le8 h h1 h2 h19 h20;obtain rfl:=zB hMl;exact xC ⟨_,_,(.tmp rfl (.tmp rfl ResV.nil)),zP,⟨_,_,rfl,rfl,(zMh hat1 (zDy ⟨_,_,_,_,_,rfl,h,h1,h2,h19,h20⟩)),rfl⟩⟩
def qY (p:zE) (part:Int):Option (Bool):=do
 let y←wE part 0 (W ((p.Parts.length:Int) - 1))
 pure (id y)
theorem zAt:∀ p part r,qY p part=some r→∀ {I:Imm}{p1 c p2 c1},(S4 I p1 p.Arrays c)→(S4 I p2 p.Parts c1)→RT 85 [vA (cProg p p1 c p2 c1),vI part] I [] (zT  r):=by
 intro p part r N I p1 c p2 c1 h h1;unfold qY at N;refine yL Tryz.func85 fun B=>yF<|tX (cProg p p1 c p2 c1) ?_;intro b hb;refine vG [] []<|xG<|yH 5 [0] [5,9] rfl<|bE N fun y hy N=>uH (wO part 0 (W ((p.Parts.length:Int) - 1)) _ hy ) fun I0 le=>vG [] [(4,.bool y)]<|zI<|yZ ?_;obtain rfl:=zB N;exact wL
def vJ (s:(List Int)) (v0:Int) (t8:Int):Option (Out Unit (Int)):=do
 if (decide (t8 < (s.length:Int))) then
  let x←idx s t8
  if (v0 == x) then
   pure (.ret t8)
  else
   vJ s v0 (W (t8 + 1))
 else
  pure (.done ())
 partial_fixpoint
theorem dO (s:(List Int)) (v0:Int):∀ (t8:Int) (o:Out Unit (Int)),vJ s v0 t8=some o→∀ {B}{I0 I:Imm}{Q p c},I0.le I→(S4 I p s c)→NG Q→NO Q→(∀ (I':Imm) ,o=(.done ())→I0.le I'→T 19 B Q (.exit 0) I' [] [])→(∀ r I' hs' m',o=(.ret r)→I0.le I'→RS Tryz.prog Tryz.f172 B (yP  r) I' hs' m'→T 19 B Q .ret I' hs' m')→J Tryz.prog 19 B (nav (bodyOf Tryz.f172) [1,0,1,0]) Q I [] [(0,vS p s c),(1,vI v0),(7,vI (s.length:Int)),(8,vI t8)]:=by
 refine vJ.partial_correctness s v0 _ fun self ih t8 o N B I0 I Q p c H h hg ho hx hr=>yR hg ho<|yD [9] rfl<|zX<|yB N ?_ ?_
 · intro hc N;refine zS<|zX<|yG<|yD [5] rfl<|xG<|yH 3 [] [11,12,13] rfl<|bE N fun x hy N=>xS rfl rfl h hy ?_;intro ad ccs hat hrep;obtain rfl:=hrep;refine xL 0 hat [vI x] (vI x) rfl<|yJ [] [16] rfl<|zI<|yB N ?_ ?_
   · intro hc1 N;exact yD [4] rfl<|xB<|zU<|zF<|zF<|hr _ _ _ _ (zB N).symm H ⟨_,_,(.tmp rfl ResV.nil),zP,⟨_,rfl,rfl,rfl⟩⟩
   intro hc1 N;exact zS<|zO<|zI<|zL<|yJ [] [8] rfl<|yQ<|nO<|ih (W (t8 + 1)) _ N H h hg ho hx hr
 intro hc N;exact wY<|yO<|hx _  (zB N).symm H
def oZ (s:(List Int)) (v0:Int):Option (Int):=do
 match←vJ s v0 0 with
 | .ret r0=>pure r0
 | .done _ =>
  pure (-1)
theorem zAg:∀ s v0 r,oZ s v0=some r→∀ {I:Imm}{p c},(S4 I p s c)→RT 172 [vS p s c,vI v0] I [] (yP  r):=by
 intro s v0 r N I p c h;unfold oZ at N;refine yL Tryz.func172 fun B=>wV []<|zX<|yD [7,8] rfl<|wB<|qW [(0,vS p s c),(1,vI v0),(7,vI (s.length:Int)),(8,vI 0)] ?_;obtain ⟨o0,ho0,hMl⟩:=zC N;refine dO s v0 0 o0 ho0 iR h (fun _ _ _ h=>h) (fun _ _ h=>h) ?_ ?_
 · intro I0  heq le;subst o0;refine zR<|wW [4] rfl<|zI<|yZ ?_;obtain rfl:=zB hMl;exact wL
 intro r0 I9 hs9 m9 heq9 le9 hrs9;subst heq9;refine zU<|zF ?_;obtain rfl:=zB hMl;exact xC hrs9
def tA (s:(List Int)) (v0:Int):Option (Bool):=do
 let y←oZ s v0
 pure (decide (y ≥ 0))
theorem jM:∀ s v0 r,tA s v0=some r→∀ {I:Imm}{p c},(S4 I p s c)→RT 124 [vS p s c,vI v0] I [] (zT  r):=by
 intro s v0 r N I p c h;unfold tA at N;refine yL Tryz.func124 fun B=>wV []<|xG<|yH 2 [] [5,6] rfl<|bE N fun y hy N=>jD (zAg s v0 _ hy h) fun I0 le=>vG [] [(4,.bool (decide (y ≥ 0)))]<|zI<|yZ ?_;obtain rfl:=zB N;exact wL
def qZ (t:vQ) (from0:Int) (to0:Int):Option (Int):=do
 let x←idx t.reads to0
 let x1←idx t.writes from0
 let y←tA x x1
 let kinds←(do
   if y then
    pure (W (0 + 1))
   else
    pure (id 0)
     : Option Int)
 let x2←idx t.reads from0
 let x3←idx t.writes to0
 let y1←tA x2 x3
 let kinds1←(do
   if y1 then
    pure (W (kinds + 2))
   else
    pure (id kinds)
     : Option Int)
 let x4←idx t.writes from0
 let x5←idx t.writes to0
 let kinds2←(do
   if (x4 == x5) then
    pure (W (kinds1 + 4))
   else
    pure (id kinds1)
     : Option Int)
 pure (id kinds2)
theorem zAu:∀ t from0 to0 r,qZ t from0 to0=some r→∀ {I:Imm}{ad:Addr}{p c p1 c1 p2 c2 p3 c3 p4 c4},(S4 I p t.Program.Arrays c)→(S4 I p1 t.Program.Parts c1)→(S4 I p2 t.list c2)→(S4 I p3 t.reads c3)→(S4 I p4 t.writes c4)→(At I ad [vS p t.Program.Arrays c,vS p1 t.Program.Parts c1,vS p2 t.list c2,vS p3 t.reads c3,vS p4 t.writes c4])→RT 77 [.pointer (some ad),vI from0,vI to0] I [] (yP  r):=by
 intro t from0 to0 r N I ad p c p1 c1 p2 c2 p3 c3 p4 c4 h h1 h2 h3 h4 hat;unfold qZ at N;refine yL Tryz.func77 fun B=>?_;have H:=iS I;refine wV []<|wW [7] rfl<|zX<|zZ ?_;obtain ⟨x,hy,N⟩:=zC N;obtain ⟨x1,hy1,N⟩:=zC N;obtain ⟨y,hy2,N⟩:=zC N;refine wX [.p (.pointer (some ad)) [],.p (.pointer (some ad)) [],.p (.pointer (some (ad.add 3))) [],.q (vS p3 t.reads c3),.p (vI to0) [],.x (fun I' v hx=>∃ ad1 p5 c5,v=.pointer (some ad1)∧hx=[]∧(At I' ad1 [vS p5 x c5])∧(S4 I' p5 x c5)),.x (eS x),.p (.pointer (some ad)) [],.p (.pointer (some ad)) [],.p (.pointer (some (ad.add 4))) [],.q (vS p4 t.writes c4),.p (vI from0) [],.x (fun I' v hx=>∃ ad2,v=.pointer (some ad2)∧hx=[]∧(At I' ad2 [vI x1])),.q (vI x1),.q (.bool y)] [[],[(0,false)],[(1,false)],[(2,false)],[],[(3,false),(4,false)],[(5,false)],[],[(7,false)],[(8,false)],[(9,false)],[],[(10,false),(11,false)],[(12,false)],[(6,false),(13,false)]] [] [] [(14,false)] zP ?_ ?_
 · refine Op<|Op<|Op<|Oq ?_<|Op<|Ox ?_<|Ox ?_<|Op<|Op<|Op<|Oq ?_<|Op<|Ox ?_<|Oq ?_<|Oq ?_<|On
   · intro I1 hf le1;refine yS [10] rfl ?_;have hat:=hat.mono le1;exact xL 3 hat [vS p3 t.reads c3] (vS p3 t.reads c3) rfl<|xF iR
   · intro I1 hf le1;refine yS [11,12] rfl ?_;have h3:=h3.mono le1;refine xS rfl rfl h3 hy ?_;intro ad1 ccs hat1 hrep;obtain ⟨v0,rfl,h5⟩:=hrep;obtain ⟨p5,c5,rfl⟩:=h5.form;exact yK [] iR ⟨_,_,_,rfl,rfl,hat1,h5⟩
   · rintro I1 hf le1 _ _ ⟨ad1,p5,c5,rfl,rfl,hat1,h5⟩;exact yS [13] rfl<|xL 0 hat1 [vS p5 x c5] (vS p5 x c5) rfl<|yK [] iR ⟨_,_,rfl,rfl,h5⟩
   · intro I1 hf le1;refine yS [17] rfl ?_;have hat:=hat.mono le1;exact xL 4 hat [vS p4 t.writes c4] (vS p4 t.writes c4) rfl<|xF iR
   · intro I1 hf le1;refine yS [18,19] rfl ?_;have h4:=h4.mono le1;refine xS rfl rfl h4 hy1 ?_;intro ad2 ccs1 hat2 hrep1;obtain rfl:=hrep1;exact yK [] iR ⟨_,rfl,rfl,hat2⟩
   · rintro I1 hf le1 _ _ ⟨ad2,rfl,rfl,hat2⟩;exact yS [20] rfl<|xL 0 hat2 [vI x1] (vI x1) rfl<|xF iR
   rintro I1 hf le1 _ _ ⟨p51,c51,rfl,rfl,h51⟩;refine yS [14,21] rfl ?_;have H:=iS I1;refine uH (jM x x1 _ hy2 h51) ?_;intro I0 le;have H:=H.trans le;exact xF H
 intro I01 le1;refine yS [0,1,2,7,22] rfl ?_;have ⟨h3,h4,hat,H⟩:=m4 le1 h3 h4 hat H;refine yE rfl<|zI ?_;refine wP N [] (fun kinds=>[(0,.pointer (some ad)),(1,vI from0),(2,vI to0),(7,vI kinds)]) (fun o0 ho0=>?_) ?_
 · have H:=iS I01;refine yB ho0 ?_ ?_
   · intro hc N;exact zL<|yJ [] [7] rfl<|yO<|zV (ct N H)
   intro hc N;exact zS<|yO<|zV (ct N H)
 intro kinds I02 le2 hMc;have ⟨h3,h4,hat,H⟩:=m4 le2 h3 h4 hat H;refine zX<|zZ ?_;obtain ⟨x2,hy3,N⟩:=zC hMc;obtain ⟨x3,hy4,N⟩:=zC N;obtain ⟨y1,hy5,N⟩:=zC N;refine wX [.p (.pointer (some ad)) [],.p (.pointer (some ad)) [],.p (.pointer (some (ad.add 3))) [],.q (vS p3 t.reads c3),.p (vI from0) [],.x (fun I' v hx=>∃ ad3 p6 c6,v=.pointer (some ad3)∧hx=[]∧(At I' ad3 [vS p6 x2 c6])∧(S4 I' p6 x2 c6)),.x (eS x2),.p (.pointer (some ad)) [],.p (.pointer (some ad)) [],.p (.pointer (some (ad.add 4))) [],.q (vS p4 t.writes c4),.p (vI to0) [],.x (fun I' v hx=>∃ ad4,v=.pointer (some ad4)∧hx=[]∧(At I' ad4 [vI x3])),.q (vI x3),.q (.bool y1)] [[],[(0,false)],[(1,false)],[(2,false)],[],[(3,false),(4,false)],[(5,false)],[],[(7,false)],[(8,false)],[(9,false)],[],[(10,false),(11,false)],[(12,false)],[(6,false),(13,false)]] [] [] [(14,false)] zP ?_ ?_
 · refine Op<|Op<|Op<|Oq ?_<|Op<|Ox ?_<|Ox ?_<|Op<|Op<|Op<|Oq ?_<|Op<|Ox ?_<|Oq ?_<|Oq ?_<|On
   · intro I1 hf le1;refine yS [27] rfl ?_;have hat:=hat.mono le1;exact xL 3 hat [vS p3 t.reads c3] (vS p3 t.reads c3) rfl<|xF iR
   · intro I1 hf le1;refine yS [28,29] rfl ?_;have h3:=h3.mono le1;refine xS rfl rfl h3 hy3 ?_;intro ad3 ccs2 hat3 hrep2;obtain ⟨v02,rfl,h7⟩:=hrep2;obtain ⟨p6,c6,rfl⟩:=h7.form;exact yK [] iR ⟨_,_,_,rfl,rfl,hat3,h7⟩
   · rintro I1 hf le1 _ _ ⟨ad3,p6,c6,rfl,rfl,hat3,h7⟩;exact yS [30] rfl<|xL 0 hat3 [vS p6 x2 c6] (vS p6 x2 c6) rfl<|yK [] iR ⟨_,_,rfl,rfl,h7⟩
   · intro I1 hf le1;refine yS [34] rfl ?_;have hat:=hat.mono le1;exact xL 4 hat [vS p4 t.writes c4] (vS p4 t.writes c4) rfl<|xF iR
   · intro I1 hf le1;refine yS [35,36] rfl ?_;have h4:=h4.mono le1;refine xS rfl rfl h4 hy4 ?_;intro ad4 ccs3 hat4 hrep3;obtain rfl:=hrep3;exact yK [] iR ⟨_,rfl,rfl,hat4⟩
   · rintro I1 hf le1 _ _ ⟨ad4,rfl,rfl,hat4⟩;exact yS [37] rfl<|xL 0 hat4 [vI x3] (vI x3) rfl<|xF iR
   rintro I1 hf le1 _ _ ⟨p61,c61,rfl,rfl,h71⟩;refine yS [31,38] rfl ?_;have H:=iS I1;refine uH (jM x2 x3 _ hy5 h71) ?_;intro I03 le3;have H:=H.trans le3;exact xF H
 intro I04 le4;refine yS [0,1,2,7,39] rfl ?_;have ⟨h4,hat,H⟩:=m3 le4 h4 hat H;refine yE rfl<|zI ?_;refine wP N [] (fun kinds1=>[(0,.pointer (some ad)),(1,vI from0),(2,vI to0),(7,vI kinds1)]) (fun o01 ho01=>?_) ?_
 · have H:=iS I04;refine yB ho01 ?_ ?_
   · intro hc1 N;exact zL<|yJ [] [7] rfl<|yO<|zV (ct N H)
   intro hc1 N;exact zS<|yO<|zV (ct N H)
 intro kinds1 I05 le5 hMc1;have ⟨h4,hat,H⟩:=m3 le5 h4 hat H;refine zX<|zZ<|nH (by kernel_rfl) (by kernel_rfl)<|jY 3 [] [44] rfl<|jX 4 hat [vS p4 t.writes c4] (vS p4 t.writes c4) rfl<|jY 5 [] [46] rfl ?_;obtain ⟨x4,hy6,N⟩:=zC hMc1;refine gW rfl rfl h4 hy6 ?_;intro ad5 ccs4 hat5 hrep4;obtain rfl:=hrep4;refine jX 0 hat5 [vI x4] (vI x4) rfl<|jY 10 [] [51] rfl<|jX 4 hat [vS p4 t.writes c4] (vS p4 t.writes c4) rfl<|jY 12 [] [53] rfl<|bE N fun x5 hy7 N=>gW rfl rfl h4 hy7 ?_;intro ad6 ccs5 hat6 hrep5;obtain rfl:=hrep5;refine jX 0 hat6 [vI x5] (vI x5) rfl<|zEi [] [56] rfl<|zI ?_;refine wP N [] (fun kinds2=>[(7,vI kinds2)]) (fun o02 ho02=>?_) ?_
 · have H:=iS I05;refine yB ho02 ?_ ?_
   · intro hc2 N;exact zL<|yJ [] [7] rfl<|yO<|zV (ct N H)
   intro hc2 N;exact zS<|yO<|zV (ct N H)
 intro kinds2 I06 le6 hMc2;refine wW [6] rfl<|zI<|yZ ?_;obtain rfl:=zB hMc2;exact wL
def fL (r:(List yC)):KT:=fun kk I' hs' v=>
  ∃ v0,hs'=[]∧v=tupV [v0]∧SL I' v0 r
def tU (t:vQ) (t12:Int) (out2:List yC) (to0:Int):Option (List yC):=do
 if (decide (to0 < (t.list.length:Int))) then
  let y←qZ t t12 to0
  let out4←(do
    if (decide (y > 0)) then
     let out5←app 24 out2 ([(yC.mk t12 to0 y)]:List yC)
     pure (id out5)
    else
     pure (id out2)
      : Option (List yC))
  tU t t12 out4 (W (to0 + 1))
 else
  pure (id out2)
 partial_fixpoint
theorem zAv (t:vQ) (t12:Int):∀ (out2:List yC) (to0:Int) (o:List yC),tU t t12 out2 to0=some o→∀ {B}{I0 I:Imm}{Q}  {ad:Addr}{p c p1 c1 p2 c2 p3 c3 p4 c4 p7 c7 cs2},I0.le I→(S4 I p t.Program.Arrays c)→(S4 I p1 t.Program.Parts c1)→(S4 I p2 t.list c2)→(S4 I p3 t.reads c3)→(S4 I p4 t.writes c4)→(At I ad [vS p t.Program.Arrays c,vS p1 t.Program.Parts c1,vS p2 t.list c2,vS p3 t.reads c3,vS p4 t.writes c4])→(RL I cs2 out2)→NG Q→NO Q→(∀ (I':Imm) (out3:List yC) (p8:Option Addr) (c8:Nat) (cs3:List Value),o=out3→I0.le I'→(RL I' cs3 out3)→T 41 B Q (.exit 2) I' [hO yC (vS p8 out3 c8) cs3] [(0,.pointer (some ad)),(3,vS p8 out3 c8),(11,vI (t.list.length:Int)),(12,vI t12)])→J Tryz.prog 41 B (nav (bodyOf Tryz.f80) [1,1,0,1,0,0,1,1,0,0,1,1,0]) Q I [hO yC (vS p7 out2 c7) cs2] [(0,.pointer (some ad)),(3,vS p7 out2 c7),(4,vI t12),(5,vI to0),(11,vI (t.list.length:Int)),(12,vI t12)]:=by
 refine tU.partial_correctness t t12 _ fun self ih out2 to0 o N B I0 I Q ad p c p1 c1 p2 c2 p3 c3 p4 c4 p7 c7 cs2 H h h1 h2 h3 h4 hat h8 hg ho hx=>yR hg ho<|zZ<|yF<|yH 4 [] [17,20] rfl<|xL 2 hat [vS p2 t.list c2] (vS p2 t.list c2) rfl<|yJ [] [23] rfl<|zI<|yB N ?_ ?_
 · intro hc1 N;refine zS<|zX<|yG<|yF<|yH 3 [] [26,27,28] rfl<|bE N fun y hy N=>jD (zAu t t12 to0 _ hy h h1 h2 h3 h4 hat) ?_;intro I0 le;have ⟨h,h1,h2,h3,h4,hat⟩:=m6 le h h1 h2 h3 h4 hat;have ⟨h8,H⟩:=m2 le h8 H;refine yJ [] [6] rfl<|wW [31] rfl<|zI ?_;obtain ⟨o0,ho0,hMc⟩:=zC N;refine oC (fun I' hs' m'=>∃ (out4:List yC) (p9:Option Addr) (c9:Nat) (cs4:List Value),o0=out4∧I0.le I'∧(RL I' cs4 out4)∧hs'=[hO yC (vS p9 out4 c9) cs4]∧m'=[(0,.pointer (some ad)),(3,vS p9 out4 c9),(4,vI t12),(5,vI to0),(11,vI (t.list.length:Int)),(12,vI t12)]) ?_ ?_
   · have H:=iS I0;refine yB ho0 ?_ ?_
     · intro hc2 N;refine zL<|yH 5 [] [32,36] rfl<|tJ [vI t12,vI to0,vI y] yC ?_;intro b hb;have h12:RL I0 [vI t12,vI to0,vI y] ([(yC.mk t12 to0 y)]:List yC):=⟨[vI t12,vI to0,vI y],_,rfl,rfl,(zCM rfl),rfl⟩;obtain ⟨out5,hy1,N⟩:=zC N;exact qB 67 3 1 rfl rfl rfl h8 (.inr ⟨0,rfl⟩) h12 hy1 fun p10 c10 cs5 h13=>rW (zY [1] (hs':=[hO yC (vS p10 out5 c10) cs5]))<|yJ [] [3] rfl<|yO<|zV ⟨_,_,_,_,(zB N).symm,H,h13,rfl,rfl⟩
     intro hc2 N;exact zS<|yO<|zV ⟨_,_,_,_,(zB N).symm,H,h8,rfl,rfl⟩
   rintro I01 hs2 m2 ⟨out4,p9,c9,cs4,heq,le1,h11,rfl,rfl⟩;subst o0;have ⟨h,h1,h2,h3,h4,hat⟩:=m6 le1 h h1 h2 h3 h4 hat;have H:=H.trans le1;exact zO<|zI<|zL<|yJ [] [5] rfl<|yQ<|nO<|ih out4 (W (to0 + 1)) _ hMc H h h1 h2 h3 h4 hat h11 hg ho hx
 intro hc1 N;exact wY<|yO<|hx _ _ _ _ _ (zB N).symm H h8
def tV (t:vQ) (out:List yC) (t12:Int):Option (List yC):=do
 if (decide (t12 < (t.list.length:Int))) then
  let out3←tU t t12 out (W (t12 + 1))
  tV t out3 (W (t12 + 1))
 else
  pure (id out)
 partial_fixpoint
theorem zAw (t:vQ):∀ (out:List yC) (t12:Int) (o:List yC),tV t out t12=some o→∀ {B}{I0 I:Imm}{Q}  {ad:Addr}{p c p1 c1 p2 c2 p3 c3 p4 c4 p5 c5 cs},I0.le I→(S4 I p t.Program.Arrays c)→(S4 I p1 t.Program.Parts c1)→(S4 I p2 t.list c2)→(S4 I p3 t.reads c3)→(S4 I p4 t.writes c4)→(At I ad [vS p t.Program.Arrays c,vS p1 t.Program.Parts c1,vS p2 t.list c2,vS p3 t.reads c3,vS p4 t.writes c4])→(RL I cs out)→NG Q→NO Q→(∀ (I':Imm) (out1:List yC) (p6:Option Addr) (c6:Nat) (cs1:List Value),o=out1→I0.le I'→(RL I' cs1 out1)→T 41 B Q (.exit 0) I' [hO yC (vS p6 out1 c6) cs1] [(3,vS p6 out1 c6)])→J Tryz.prog 41 B (nav (bodyOf Tryz.f80) [1,1,0,1,0]) Q I [hO yC (vS p5 out c5) cs] [(0,.pointer (some ad)),(3,vS p5 out c5),(11,vI (t.list.length:Int)),(12,vI t12)]:=by
 refine tV.partial_correctness t _ fun self ih out t12 o N B I0 I Q ad p c p1 c1 p2 c2 p3 c3 p4 c4 p5 c5 cs H h h1 h2 h3 h4 hat h6 hg ho hx=>yR hg ho<|yD [13] rfl<|zX<|yB N ?_ ?_
 · intro hc N;refine zS<|zX<|yG<|yD [4] rfl<|wW [5] rfl<|wB<|qW [(0,.pointer (some ad)),(3,vS p5 out c5),(4,vI t12),(5,vI (W (t12 + 1))),(11,vI (t.list.length:Int)),(12,vI t12)] ?_;obtain ⟨o01,ho01,hMl⟩:=zC N;refine zAv t t12 out (W (t12 + 1)) o01 ho01 iR h h1 h2 h3 h4 hat h6 (fun _ _ _ h=>hg _ _ _ h) (fun _ _ h=>ho _ _ h) ?_;intro I02 out3 p8 c8 cs3 heq1 le2 h9;subst o01;have ⟨h,h1,h2,h3,h4,hat⟩:=m6 le2 h h1 h2 h3 h4 hat;have H:=H.trans le2;exact zR<|zO<|zI<|zL<|yJ [] [12] rfl<|yQ<|nO<|ih out3 (W (t12 + 1)) _ hMl H h h1 h2 h3 h4 hat h9 hg ho hx
 intro hc N;exact wY<|yO<|hx _ _ _ _ _ (zB N).symm H h6
def nM (t:vQ):Option ((List yC)):=do
 let out1←tV t ([]:List yC) 0
 pure (id out1)
theorem zCE:∀ t r,nM t=some r→∀ {I:Imm}{ad:Addr}{p c p1 c1 p2 c2 p3 c3 p4 c4},(S4 I p t.Program.Arrays c)→(S4 I p1 t.Program.Parts c1)→(S4 I p2 t.list c2)→(S4 I p3 t.reads c3)→(S4 I p4 t.writes c4)→(At I ad [vS p t.Program.Arrays c,vS p1 t.Program.Parts c1,vS p2 t.list c2,vS p3 t.reads c3,vS p4 t.writes c4])→RT 80 [.pointer (some ad)] I [] (fL  r):=by
 intro t r N I ad p c p1 c1 p2 c2 p3 c3 p4 c4 h h1 h2 h3 h4 hat;unfold nM at N;refine yL Tryz.func80 fun B=>wV []<|zDB [(3,z0)]<|zX<|yF<|yH 3 [] [9] rfl<|xL 2 hat [vS p2 t.list c2] (vS p2 t.list c2) rfl<|yJ [] [11,12] rfl<|wB<|qW [(0,.pointer (some ad)),(3,z0),(11,vI (t.list.length:Int)),(12,vI 0)]<|eV yC fun h5=>?_;obtain ⟨o02,ho02,hMl1⟩:=zC N;refine zAw t ([]:List yC) 0 o02 ho02 iR h h1 h2 h3 h4 hat h5 (fun _ _ _ h=>h) (fun _ _ h=>h) ?_;intro I03 out1 p6 c6 cs1 heq2 le3 h7;subst o02;refine zR<|wW [2] rfl<|xB<|xA 0 rfl ?_;intro I04 le4 hl0;have h14:=SL.of_frozen hl0 le4 h7;obtain rfl:=zB hMl1;exact xC ⟨_,_,(.tmp rfl ResV.nil),zP,⟨_,rfl,rfl,h14⟩⟩
def M.cmp_isNaN_int (x:Int):Option (Bool):=do
 pure (x != x)
theorem zAh:∀ x r,M.cmp_isNaN_int x=some r→∀ {I:Imm} ,RT 183 [vI x] I [] (zT  r):=by
 intro x r N I;unfold M.cmp_isNaN_int at N;refine yL Tryz.func183 fun B=>wV []<|wW [2] rfl<|zI<|yZ ?_;obtain rfl:=zB N;exact wL
def M.cmp_Compare_int (x:Int) (y:Int):Option (Int):=do
 let y1←M.cmp_isNaN_int x
 let y2←M.cmp_isNaN_int y
 if y1 then
  if y2 then
   pure (id 0)
  else
   pure (-1)
 else
  if y2 then
   pure (id 1)
  else
   if (decide (x < y)) then
    pure (-1)
   else
    if (decide (x > y)) then
     pure (id 1)
    else
     pure (id 0)
theorem zCh:∀ x y r,M.cmp_Compare_int x y=some r→∀ {I:Imm} ,RT 137 [vI x,vI y] I [] (yP  r):=by
 intro x y r N I;unfold M.cmp_Compare_int at N;refine yL Tryz.func137 fun B=>wV []<|xG<|yH 1 [] [7] rfl<|bE N fun y1 hy N=>uH (zAh x _ hy ) fun I0 le=>vG [] [(5,.bool y1)]<|xG<|oD 1 [] [(9,vI y)]<|bE N fun y2 hy1 N=>uH (zAh y _ hy1 ) fun I01 le1=>vG [] [(6,.bool y2)]<|zX<|wV [(11,.bool y1)]<|zI<|yB N ?_ ?_
 · intro hc N;refine zZ<|yD [12] rfl<|zI<|yB N ?_ ?_
   · intro hc1 N;refine yD [4] rfl<|xB<|zF<|zF ?_;obtain rfl:=zB N;exact wL
   intro hc1 N;refine zS<|wW [4] rfl<|xB<|zF ?_;obtain rfl:=zB N;exact wL
 intro hc N;refine zS<|zX<|yD [13] rfl<|zI<|yB N ?_ ?_
 · intro hc2 N;refine yD [4] rfl<|xB<|zF ?_;obtain rfl:=zB N;exact wL
 intro hc2 N;refine zS<|zX<|yD [16] rfl<|zI<|yB N ?_ ?_
 · intro hc3 N;refine yD [4] rfl<|xB<|zF ?_;obtain rfl:=zB N;exact wL
 intro hc3 N;refine zS<|zX<|yD [19] rfl<|zI<|yB N ?_ ?_
 · intro hc4 N;refine yD [4] rfl<|xB<|zF ?_;obtain rfl:=zB N;exact wL
 intro hc4 N;refine zS<|wW [4] rfl<|zI<|yZ ?_;obtain rfl:=zB N;exact wL
def xU (s1:(List Int)) (s2:(List Int)) (t11:Int):Option (Out Unit (Int)):=do
 if (decide (t11 < (s1.length:Int))) then
  let x←idx s1 t11
  if (decide (t11 ≥ (s2.length:Int))) then
   pure (.ret 1)
  else
   let x1←idx s2 t11
   let y←M.cmp_Compare_int x x1
   if (y != 0) then
    pure (.ret y)
   else
    xU s1 s2 (W (t11 + 1))
 else
  pure (.done ())
 partial_fixpoint
theorem eJ (s1:(List Int)) (s2:(List Int)):∀ (t11:Int) (o:Out Unit (Int)),xU s1 s2 t11=some o→∀ {B}{I0 I:Imm}{Q p c p1 c1},I0.le I→(S4 I p s1 c)→(S4 I p1 s2 c1)→NG Q→NO Q→(∀ (I':Imm) ,o=(.done ())→I0.le I'→T 36 B Q (.exit 0) I' [] [(0,vS p s1 c),(1,vS p1 s2 c1)])→(∀ r I' hs' m',o=(.ret r)→I0.le I'→RS Tryz.prog Tryz.f90 B (yP  r) I' hs' m'→T 36 B Q .ret I' hs' m')→J Tryz.prog 36 B (nav (bodyOf Tryz.f90) [1,0,1,0]) Q I [] [(0,vS p s1 c),(1,vS p1 s2 c1),(9,vS p s1 c),(10,vI (s1.length:Int)),(11,vI t11)]:=by
 refine xU.partial_correctness s1 s2 _ fun self ih t11 o N B I0 I Q p c p1 c1 H h h1 hg ho hx hr=>yR hg ho<|yD [12] rfl<|zX<|yB N ?_ ?_
 · intro hc N;refine zS<|zX<|yG<|yF<|yH 1 [] [13] rfl<|bE N fun x hy N=>xS rfl rfl h hy ?_;intro ad ccs hat hrep;obtain rfl:=hrep;refine xL 0 hat [vI x] (vI x) rfl<|yJ [] [5,6] rfl<|zX<|yD [19] rfl<|zI<|yB N ?_ ?_
   · intro hc1 N;exact yD [4] rfl<|xB<|zF<|zU<|zF<|zF<|hr _ _ _ _ (zB N).symm H ⟨_,_,(.tmp rfl ResV.nil),zP,⟨_,rfl,rfl,rfl⟩⟩
   intro hc1 N;refine zS<|xG<|yH 2 [] [20,21] rfl<|bE N fun x1 hy1 N=>xS rfl rfl h1 hy1 ?_;intro ad1 ccs1 hat1 hrep1;obtain rfl:=hrep1;refine xL 0 hat1 [vI x1] (vI x1) rfl<|yJ [] [7] rfl<|xG<|yH 2 [] [24,25] rfl<|bE N fun y hy2 N=>jD (zCh x x1 _ hy2 ) ?_;intro I0 le;have ⟨h,h1,H⟩:=m3 le h h1 H;refine yJ [] [8] rfl<|wW [28] rfl<|zI<|yB N ?_ ?_
   · intro hc2 N;exact yD [4] rfl<|xB<|zU<|zF<|zF<|hr _ _ _ _ (zB N).symm H ⟨_,_,(.tmp rfl ResV.nil),zP,⟨_,rfl,rfl,rfl⟩⟩
   intro hc2 N;exact zS<|zO<|zI<|zL<|yJ [] [11] rfl<|yQ<|nO<|ih (W (t11 + 1)) _ N H h h1 hg ho hx hr
 intro hc N;exact wY<|yO<|hx _  (zB N).symm H
def oA (s1:(List Int)) (s2:(List Int)):Option (Int):=do
 match←xU s1 s2 0 with
 | .ret r0=>pure r0
 | .done _ =>
  if (decide ((s1.length:Int) < (s2.length:Int))) then
   pure (-1)
  else
   pure (id 0)
theorem dW:∀ s1 s2 r,oA s1 s2=some r→∀ {I:Imm}{p c p1 c1},(S4 I p s1 c)→(S4 I p1 s2 c1)→RT 90 [vS p s1 c,vS p1 s2 c1] I [] (yP  r):=by
 intro s1 s2 r N I p c p1 c1 h h1;unfold oA at N;refine yL Tryz.func90 fun B=>wV []<|zX<|yD [9,10,11] rfl<|wB<|qW [(0,vS p s1 c),(1,vS p1 s2 c1),(9,vS p s1 c),(10,vI (s1.length:Int)),(11,vI 0)] ?_;obtain ⟨o0,ho0,hMl⟩:=zC N;refine eJ s1 s2 0 o0 ho0 iR h h1 (fun _ _ _ h=>h) (fun _ _ h=>h) ?_ ?_
 · intro I01  heq le1;subst o0;refine zR<|zX<|yD [35] rfl<|zI<|yB hMl ?_ ?_
   · intro hc3 N;refine yD [4] rfl<|xB<|zF ?_;obtain rfl:=zB N;exact wL
   intro hc3 N;refine zS<|wW [4] rfl<|zI<|yZ ?_;obtain rfl:=zB N;exact wL
 intro r0 I9 hs9 m9 heq9 le9 hrs9;subst heq9;refine zU<|zF ?_;obtain rfl:=zB hMl;exact xC hrs9
theorem zMs (x y:Int):M.cmp_Compare_int x y=some (if x < y then -1 else if y < x then 1 else 0):=by
 have h1:(x != x)=false:=by simp
 have h2:(y != y)=false:=by simp
 simp only [M.cmp_Compare_int,M.cmp_isNaN_int,h1,h2,Option.pure_def,Option.bind_eq_bind,Option.bind_some,Bool.false_eq_true,if_false,id,decide_eq_true_eq];by_cases h:x < y
 · simp [h]
 by_cases h':y < x
 · simp [h,h']
 simp [h,h']
theorem zMN {a b:List Int} (ha:a.length < 4611686018427387904):∀ (j q:Nat),q + j=a.length→q ≤ b.length→∃ o,xU a b (q:Int)=some o∧(match o with | .ret r=>r=cmpL (a.drop q) (b.drop q) | .done _=>a.length ≤ b.length∧cmpL (a.drop q) (b.drop q)=if a.length < b.length then -1 else 0):=by
 intro j
 induction j with
 | zero =>
  intro q hq hb;refine ⟨.done (),?_,by omega,?_⟩
  · rw [xU];have:¬((q:Int) < (a.length:Int)):=by omega
    simp only [this,decide_false,Bool.false_eq_true,if_false,Option.pure_def]
  rw [List.drop_eq_nil_iff.2 (show a.length ≤ q by omega)];by_cases h:a.length < b.length
  · rw [if_pos h,List.drop_eq_getElem_cons (show q < b.length by omega),cmpL]
  rw [if_neg h,List.drop_eq_nil_iff.2 (show b.length ≤ q by omega),cmpL]
 | succ j ih =>
  intro q hq hb;have hlt:q < a.length:=by omega
  have hc:((q:Int) < (a.length:Int)):=by omega
  have ei:idx a (q:Int)=some a[q]:=by rw [show idx a (q:Int)=a[q]? by unfold idx; simp,List.getElem?_eq_getElem hlt]
  by_cases hq2:q < b.length
  · have ej:idx b (q:Int)=some b[q]:=by rw [show idx b (q:Int)=b[q]? by unfold idx; simp,List.getElem?_eq_getElem hq2]
    have hg:¬((q:Int) ≥ (b.length:Int)):=by omega
    have eW:W ((q:Int) + 1)=((q + 1:Nat):Int):=by show IntKind.i64.wrap _=_; rw [IntKind.wrap_i64]; omega
    rw [xU,List.drop_eq_getElem_cons hlt,List.drop_eq_getElem_cons hq2,cmpL];simp only [hc,decide_true,if_true,ei,ej,hg,decide_false,Bool.false_eq_true,if_false,zMs,Option.bind_eq_bind,Option.bind_some,Option.pure_def,eW];by_cases h1:a[q] < b[q]
    · refine ⟨.ret (-1),?_,?_⟩
      · simp [h1]
      simp [h1]
    by_cases h2:b[q] < a[q]
    · refine ⟨.ret 1,?_,?_⟩
      · simp [h1,h2]
      simp [h1,h2]
    obtain ⟨o,e1,e2⟩:=ih (q + 1) (by omega) (by omega);refine ⟨o,?_,?_⟩
    · simp only [h1,h2,if_false,bne_self_eq_false,Bool.false_eq_true]; exact e1
    rw [if_neg h1,if_neg h2]; exact e2
  refine ⟨.ret 1,?_,?_⟩
  · rw [xU];have hg:((q:Int) ≥ (b.length:Int)):=by omega
    simp only [hc,decide_true,if_true,ei,hg,Option.bind_eq_bind,Option.bind_some,Option.pure_def]
  show 1=cmpL _ _;rw [List.drop_eq_getElem_cons hlt,List.drop_eq_nil_iff.2 (show b.length ≤ q by omega),cmpL]
theorem zL5 {a b:List Int} (ha:a.length < 4611686018427387904):oA a b=some (cmpL a b):=by
 obtain ⟨o,h1,h2⟩:=zMN (b:=b) ha a.length 0 (Nat.zero_add _) (Nat.zero_le _);rw [List.drop_zero,List.drop_zero] at h2;have h1:xU a b 0=some o:=h1;unfold oA;rw [h1];cases o with
 | ret r=>show some r=_; rw [h2]
 | done u =>
  rw [h2.2];by_cases h:a.length < b.length
  · simp [h]
  simp [h]
def eK (p:Option Addr) (c:Nat) (s r:List (List Int)):KT:=fun kk I' hs' v=>
  ∃ cs',hs'=[hO (List Int) (vS p r c) cs']∧v=tupV []∧r.length=s.length∧RL I' cs' r
def sQ (x:List (List Int)):Option (List (List Int)):=if x.length < 4611686018427387904∧∀ l ∈ x,l.length < 4611686018427387904 then some (srtL x) else none
theorem dP:∀ x r,sQ x=some r→∀ {I:Imm}{p c cs},RL I cs x→RT 132 [vS p x c,.func (.func 90) ⟨[]⟩ ⟨[]⟩] I [hO (List Int) (vS p x c) cs] (eK p c x r):=by
 intro x r N I p c cs h;unfold sQ at N;split at N
 · rename_i hb;cases N
   refine zK5 (fun blk off cap d w h1 h2 h3 h4=>Any.slices_SortFunc Tryz.laysSort _ oneR cfR swoR 90 #[] blk off cap d w (Go.Proofs.enters_of Tryz.func90 (by kernel_rfl) rfl) h1 h2 h3 h4) (fun w=>?_) (fun x y=>?_) hb.1 hb.2 h fun k cs' h'=>⟨cs',rfl,rfl,List.length_mergeSort _,h'⟩
   · exact (AnyF.slices_SortFunc_none ({ Tryz.laysSort with }:Go.Proofs.SlLaysF0.n6 Tryz.prog _) none 0 _ w).mono fun e w' ⟨h1,h2⟩=>⟨h1,0,#[],by rw [h2]; simp [Sort.grow,World.drewN]⟩
   obtain ⟨xv,xl,xh,xb⟩:=x;obtain ⟨yv,yl,yh,yb⟩:=y;obtain ⟨p1,c1,rfl⟩:=xh.form;obtain ⟨p2,c2,rfl⟩:=yh.form;exact (dW xl yl _ (zL5 xb) xh yh).mono (by rintro k i hs u ⟨v0,rfl,rfl,rfl⟩; exact ⟨rfl,rfl⟩)
 cases N
def vK (s1:(List Int)) (s2:(List Int)) (t13:Int):Option (Out Unit (Bool)):=do
 if (decide (t13 < (s1.length:Int))) then
  let x←idx s1 t13
  let x1←idx s2 t13
  if (x != x1) then
   pure (.ret false)
  else
   vK s1 s2 (W (t13 + 1))
 else
  pure (.done ())
 partial_fixpoint
theorem dQ (s1:(List Int)) (s2:(List Int)):∀ (t13:Int) (o:Out Unit (Bool)),vK s1 s2 t13=some o→∀ {B}{I0 I:Imm}{Q p c p1 c1},I0.le I→(S4 I p s1 c)→(S4 I p1 s2 c1)→NG Q→NO Q→(∀ (I':Imm) ,o=(.done ())→I0.le I'→T 26 B Q (.exit 0) I' [] [])→(∀ r I' hs' m',o=(.ret r)→I0.le I'→RS Tryz.prog Tryz.f134 B (zT  r) I' hs' m'→T 26 B Q .ret I' hs' m')→J Tryz.prog 26 B (nav (bodyOf Tryz.f134) [1,1,0,1,0]) Q I [] [(0,vS p s1 c),(1,vS p1 s2 c1),(12,vI (s1.length:Int)),(13,vI t13)]:=by
 refine vK.partial_correctness s1 s2 _ fun self ih t13 o N B I0 I Q p c p1 c1 H h h1 hg ho hx hr=>yR hg ho<|yD [14] rfl<|zX<|yB N ?_ ?_
 · intro hc1 N;refine zS<|zX<|yG<|yD [5] rfl<|zX<|nH (by kernel_rfl) (by kernel_rfl)<|jY 2 [] [16,17] rfl<|bE N fun x hy N=>gW rfl rfl h hy ?_;intro ad ccs hat hrep;obtain rfl:=hrep;refine jX 0 hat [vI x] (vI x) rfl<|jY 6 [] [20,21] rfl<|bE N fun x1 hy1 N=>gW rfl rfl h1 hy1 ?_;intro ad1 ccs1 hat1 hrep1;obtain rfl:=hrep1;refine jX 0 hat1 [vI x1] (vI x1) rfl<|zEi [] [24] rfl<|zI<|yB N ?_ ?_
   · intro hc2 N;exact wV [(4,vF)]<|xB<|zU<|zF<|zF<|hr _ _ _ _ (zB N).symm H ⟨_,_,(.tmp rfl ResV.nil),zP,⟨_,rfl,rfl,rfl⟩⟩
   intro hc2 N;exact zS<|zO<|zI<|zL<|yJ [] [13] rfl<|yQ<|nO<|ih (W (t13 + 1)) _ N H h h1 hg ho hx hr
 intro hc1 N;exact wY<|yO<|hx _  (zB N).symm H
def sP (s1:(List Int)) (s2:(List Int)):Option (Bool):=do
 if ((s1.length:Int) != (s2.length:Int)) then
  pure false
 else
  match←vK s1 s2 0 with
  | .ret r0=>pure r0
  | .done _ =>
   pure true
theorem gU:∀ s1 s2 r,sP s1 s2=some r→∀ {I:Imm}{p c p1 c1},(S4 I p s1 c)→(S4 I p1 s2 c1)→RT 134 [vS p s1 c,vS p1 s2 c1] I [] (zT  r):=by
 intro s1 s2 r N I p c p1 c1 h h1;unfold sP at N;refine yL Tryz.func134 fun B=>wV []<|zX<|yD [10] rfl<|zI<|yB N ?_ ?_
 · intro hc N;refine wV [(4,vF)]<|xB<|zF ?_;obtain rfl:=zB N;exact wL
 intro hc N;refine zS<|zX<|yD [12,13] rfl<|wB<|qW [(0,vS p s1 c),(1,vS p1 s2 c1),(12,vI (s1.length:Int)),(13,vI 0)] ?_;obtain ⟨o0,ho0,hMl⟩:=zC N;refine dQ s1 s2 0 o0 ho0 iR h h1 (fun _ _ _ h=>h) (fun _ _ h=>h) ?_ ?_
 · intro I0  heq le;subst o0;refine zR<|zDB [(4,vY)]<|zI<|yZ ?_;obtain rfl:=zB hMl;exact wL
 intro r0 I9 hs9 m9 heq9 le9 hrs9;subst heq9;refine zU<|zF ?_;obtain rfl:=zB hMl;exact xC hrs9
def xN (r:(List (List Int))):KT:=fun kk I' hs' v=>
  ∃ v0,hs'=[]∧v=tupV [v0]∧SL I' v0 r
def xO (k0:Int) (l:List (List Int)) (s3:List (List Int)) (k01:Int) (k2:Int):Option ((List (List Int)×Int)):=do
 if (decide (k2 < (l.length:Int))) then
  let x2←idx l k2
  let x3←idx s3 (k0 + k2)
  let x4←idx l (W (k2 - 1))
  let x5←idx s3 (k0 + (W (k2 - 1)))
  let y1←sP x3 x5
  let (s5,k03)←(do
    if (!y1) then
     let x6←idx l k2
     let x7←idx s3 (k0 + k2)
     let x8←idx s3 k01
     let l1←pure (s3.set k01.toNat x7)
     pure (l1,(W (k01 + 1)))
    else
     pure (s3,k01)
      : Option (List (List Int)×Int))
  xO k0 l s5 k03 (W (k2 + 1))
 else
  pure (s3,k01)
 partial_fixpoint
theorem fE (k0:Int) (l:List (List Int)):∀ (s3:List (List Int)) (k01:Int) (k2:Int) (o:(List (List Int)×Int)),xO k0 l s3 k01 k2=some o→∀ {B}{I0 I:Imm}{Q p c p3 c3 cs3},I0.le I→(Win p (Rp.sz (List Int)) k0 p3 l.length)→(RL I cs3 s3)→NG Q→NO Q→(∀ (I':Imm) (s4:List (List Int)) (k02:Int) (cs4:List Value),o=(s4,k02)→I0.le I'→(RL I' cs4 s4)→T 66 B Q (.exit 2) I' [hO (List Int) (vS p s4 c) cs4] [(0,vS p s4 c),(5,vI k02)])→J Tryz.prog 66 B (nav (bodyOf Tryz.f133) [1,1,0,1,0,0,1,0,0,1,0,1,0,1,0]) Q I [hO (List Int) (vS p s3 c) cs3] [(0,vS p s3 c),(1,.func (.func 134) ⟨[]⟩ ⟨[]⟩),(5,vI k01),(6,vS p3 l c3),(7,vI k2)]:=by
 refine xO.partial_correctness k0 l _ fun self ih s3 k01 k2 o N B I0 I Q p c p3 c3 cs3 H h7 h8 hg ho hx=>yR hg ho<|zZ<|yD [35] rfl<|zI<|yB N ?_ ?_
 · intro hc3 N;refine zS<|zX<|yG<|zZ ?_;obtain ⟨x2,hy4,N⟩:=zC N;obtain ⟨x3,hy5,N⟩:=zC N;obtain ⟨x4,hy6,N⟩:=zC N;obtain ⟨x5,hy7,N⟩:=zC N;obtain ⟨y1,hy8,N⟩:=zC N;refine wX [.p (.func (.func 134) ⟨[]⟩ ⟨[]⟩) [],.p (vS p3 l c3) [],.p (vI k2) [],.x (fun I' v hx=>∃ ad2 p4 c4,v=.pointer (some ad2)∧hx=[]∧(AtO (vS p s3 c) (Rp.sz (List Int)) (k0 + k2).toNat ad2)∧((cs3.drop ((k0 + k2).toNat * Rp.sz (List Int))).take (Rp.sz (List Int))=[vS p4 x3 c4])∧(S4 I' p4 x3 c4)),.x (eS x3),.p (vS p3 l c3) [],.p (vI k2) [],.p (vI (W (k2 - 1))) [],.x (fun I' v hx=>∃ ad3 p5 c5,v=.pointer (some ad3)∧hx=[]∧(AtO (vS p s3 c) (Rp.sz (List Int)) (k0 + (W (k2 - 1))).toNat ad3)∧((cs3.drop ((k0 + (W (k2 - 1))).toNat * Rp.sz (List Int))).take (Rp.sz (List Int))=[vS p5 x5 c5])∧(S4 I' p5 x5 c5)),.x (eS x5),.q (.bool y1),.p (.bool (!y1)) []] [[],[],[],[(1,false),(2,false)],[(3,false)],[],[],[(6,false)],[(5,false),(7,false)],[(8,false)],[(0,false),(4,false),(9,false)],[(10,false)]] [hO (List Int) (vS p s3 c) cs3] [] [(11,false)] (zY [0]) ?_ ?_
   · refine Op<|Op<|Op<|Ox ?_<|Ox ?_<|Op<|Op<|Op<|Ox ?_<|Ox ?_<|Oq ?_<|Op<|On
     · intro I1 hf le1;refine yS [39,40] rfl ?_;have ⟨h8,h7⟩:=m2 le1 h8 h7;refine zK6 (wc:=c3) 0 rfl rfl h7 rfl h8 hy4 hy5 ?_;intro ad2 ccs2 hat2 hcc2 hrep2;obtain ⟨v03,rfl,h10⟩:=hrep2;obtain ⟨p4,c4,rfl⟩:=h10.form;exact yK [] iR ⟨_,_,_,rfl,rfl,hat2,hcc2,h10⟩
     · rintro I1 hf le1 _ _ ⟨ad2,p4,c4,rfl,rfl,hat2,hcc2,h10⟩;exact yS [41] rfl<|zBZ 0 0 hat2 hcc2 [vS p4 x3 c4] (vS p4 x3 c4) rfl rfl<|yK [] iR ⟨_,_,rfl,rfl,h10⟩
     · intro I1 hf le1;refine yS [43,45] rfl ?_;have ⟨h8,h7⟩:=m2 le1 h8 h7;refine zK6 (wc:=c3) 0 rfl rfl h7 rfl h8 hy6 hy7 ?_;intro ad3 ccs3 hat3 hcc3 hrep3;obtain ⟨v04,rfl,h11⟩:=hrep3;obtain ⟨p5,c5,rfl⟩:=h11.form;exact yK [] iR ⟨_,_,_,rfl,rfl,hat3,hcc3,h11⟩
     · rintro I1 hf le1 _ _ ⟨ad3,p5,c5,rfl,rfl,hat3,hcc3,h11⟩;exact yS [46] rfl<|zBZ 0 0 hat3 hcc3 [vS p5 x5 c5] (vS p5 x5 c5) rfl rfl<|yK [] iR ⟨_,_,rfl,rfl,h11⟩
     rintro I1 hf le1 _ _ ⟨rfl,rfl⟩ _ _ ⟨p41,c41,rfl,rfl,h101⟩ _ _ ⟨p51,c51,rfl,rfl,h111⟩;refine yS [38,42,47] rfl ?_;have H:=iS I1;refine uH (gU x3 x5 _ hy8 h101 h111) ?_;intro I03 le3;have H:=H.trans le3;exact xF H
   intro I04 le4;refine yS [0,1,5,6,7,49] rfl ?_;have ⟨h8,h7,H⟩:=m3 le4 h8 h7 H;refine yE rfl<|zI ?_;obtain ⟨o0,ho0,hMc⟩:=zC N;refine oC (fun I' hs' m'=>∃ (s5:List (List Int)) (k03:Int) (cs5:List Value),o0=(s5,k03)∧I04.le I'∧(RL I' cs5 s5)∧hs'=[hO (List Int) (vS p s5 c) cs5]∧m'=[(0,vS p s5 c),(1,.func (.func 134) ⟨[]⟩ ⟨[]⟩),(5,vI k03),(6,vS p3 l c3),(7,vI k2)]) ?_ ?_
   · have H:=iS I04;refine yB ho0 ?_ ?_
     · intro hc4 N;refine yF<|yH 4 [] [50,51,52,53] rfl ?_;obtain ⟨x6,hy9,N⟩:=zC N;obtain ⟨x7,hy10,N⟩:=zC N;refine zK6 (wc:=c3) 0 rfl rfl h7 rfl h8 hy9 hy10 ?_;intro ad4 ccs4 hat4 hcc4 hrep4;obtain ⟨v06,rfl,h14⟩:=hrep4;obtain ⟨p6,c6,rfl⟩:=h14.form;refine zBZ 0 0 hat4 hcc4 [vS p6 x7 c6] (vS p6 x7 c6) rfl rfl<|bE N fun x8 hy11 N=>kI 0 rfl rfl rfl h8 hy11 ?_;intro ad5 ccs5 hat5 hcc5 hrep5;obtain ⟨v07,rfl,h15⟩:=hrep5;obtain ⟨p7,c7,rfl⟩:=h15.form;obtain ⟨l1,hy12,N⟩:=zC N;refine oJ (c:=[vS p6 x7 c6]) (x':=x7) 0 0 rfl rfl rfl hat5 rfl rfl hcc5 (by kernel_rfl) (by kernel_rfl) (by kernel_rfl) h8 hy11 (by kernel_rfl) ⟨_,rfl,h14⟩ ?_;rw [show s3.set k01.toNat x7=l1 from zB hy12];intro cs6 h16 hl01;exact kT (m':=[(0,vS p s3 c),(1,.func (.func 134) ⟨[]⟩ ⟨[]⟩),(5,vI k01),(6,vS p3 l c3),(7,vI k2),(50,vS p s3 c),(51,vI k01),(52,vS p3 l c3),(53,vI k2),(55,vS p6 x7 c6)]) ⟨rfl,rfl,rfl,rfl,rfl,rfl,rfl,rfl,rfl,rfl,trivial⟩<|zAj (hs':=[hO (List Int) (vS p l1 c) cs6]) (m':=[(0,vS p l1 c),(1,.func (.func 134) ⟨[]⟩ ⟨[]⟩),(5,vI k01),(6,vS p3 l c3),(7,vI k2),(50,vS p l1 c),(51,vI k01),(52,vS p3 l c3),(53,vI k2),(55,vS p6 x7 c6)]) (by first | rfl | simp only [vS,hl01,List.nil_append,List.cons_append,List.set_cons_zero,List.set_cons_succ,List.eraseIdx_cons_zero,List.eraseIdx_cons_succ]) (by first | rfl | simp only [vS,hl01])<|yE rfl<|zI<|zL<|yJ [] [5] rfl<|T_w [(0,vS p l1 c),(1,.func (.func 134) ⟨[]⟩ ⟨[]⟩),(5,vI (W (k01 + 1))),(6,vS p3 l c3),(7,vI k2)]<|zV ⟨_,_,_,(zB N).symm,H,h16,rfl,rfl⟩
     intro hc4 N;exact zS<|T_w [(0,vS p s3 c),(1,.func (.func 134) ⟨[]⟩ ⟨[]⟩),(5,vI k01),(6,vS p3 l c3),(7,vI k2)]<|zV ⟨_,_,_,(zB N).symm,H,h8,rfl,rfl⟩
   rintro I05 hs2 m2 ⟨s5,k03,cs5,heq,le5,h13,rfl,rfl⟩;subst o0;have ⟨h7,H⟩:=m2 le5 h7 H;exact zO<|zI<|zL<|yJ [] [7] rfl<|yQ<|qW [(0,vS p s5 c),(1,.func (.func 134) ⟨[]⟩ ⟨[]⟩),(5,vI k03),(6,vS p3 l c3),(7,vI (W (k2 + 1)))]<|ih s5 k03 (W (k2 + 1)) _ hMc H h7 h13 hg ho hx
 intro hc3 N;exact wY<|T_w [(0,vS p s3 c),(5,vI k01)]<|hx _ _ _ _ (zB N).symm H h8
def xP (s1:List (List Int)) (k0:Int):Option (Out (List (List Int)) ((List (List Int)))):=do
 if (decide (k0 < (s1.length:Int))) then
  let x←idx s1 k0
  let x1←idx s1 (W (k0 - 1))
  let y←sP x x1
  if y then
   let l←slc s1 k0 (s1.length:Int)
   let (s4,k02)←xO k0 l s1 k0 1
   let l2←clrL s4 k02 ([]:List Int)
   let l3←slc l2 0 k02
   pure (.ret l3)
  else
   xP s1 (W (k0 + 1))
 else
  pure (.done s1)
 partial_fixpoint
theorem fF (s1:List (List Int)):∀ (k0:Int) (o:Out (List (List Int)) ((List (List Int)))),xP s1 k0=some o→∀ {B}{I0 I:Imm}{Q p c cs1},I0.le I→(RL I cs1 s1)→NG Q→NO Q→(∀ (I':Imm) (s2:List (List Int)) (cs2:List Value),o=(.done s2)→I0.le I'→(RL I' cs2 s2)→T 66 B Q (.exit 0) I' [hO (List Int) (vS p s2 c) cs2] [(0,vS p s2 c)])→(∀ r I' hs' m',o=(.ret r)→I0.le I'→RS Tryz.prog Tryz.f133 B (xN  r) I' hs' m'→T 66 B Q .ret I' hs' m')→J Tryz.prog 66 B (nav (bodyOf Tryz.f133) [1,1,0,1,0]) Q I [hO (List Int) (vS p s1 c) cs1] [(0,vS p s1 c),(1,.func (.func 134) ⟨[]⟩ ⟨[]⟩),(5,vI k0)]:=by
 refine xP.partial_correctness s1 _ fun self ih k0 o N B I0 I Q p c cs1 H h2 hg ho hx hr=>yR hg ho<|zZ<|yD [15] rfl<|zI<|yB N ?_ ?_
 · intro hc1 N;refine zS<|zX<|yG<|zZ ?_;obtain ⟨x,hy,N⟩:=zC N;obtain ⟨x1,hy1,N⟩:=zC N;obtain ⟨y,hy2,N⟩:=zC N;refine wX [.p (.func (.func 134) ⟨[]⟩ ⟨[]⟩) [],.p (vS p s1 c) [],.p (vI k0) [],.x (fun I' v hx=>∃ ad p1 c1,v=.pointer (some ad)∧hx=[]∧(AtO (vS p s1 c) (Rp.sz (List Int)) k0.toNat ad)∧((cs1.drop (k0.toNat * Rp.sz (List Int))).take (Rp.sz (List Int))=[vS p1 x c1])∧(S4 I' p1 x c1)),.x (eS x),.p (vS p s1 c) [],.p (vI k0) [],.p (vI (W (k0 - 1))) [],.x (fun I' v hx=>∃ ad1 p2 c2,v=.pointer (some ad1)∧hx=[]∧(AtO (vS p s1 c) (Rp.sz (List Int)) (W (k0 - 1)).toNat ad1)∧((cs1.drop ((W (k0 - 1)).toNat * Rp.sz (List Int))).take (Rp.sz (List Int))=[vS p2 x1 c2])∧(S4 I' p2 x1 c2)),.x (eS x1),.q (.bool y)] [[],[],[],[(1,false),(2,false)],[(3,false)],[],[],[(6,false)],[(5,false),(7,false)],[(8,false)],[(0,false),(4,false),(9,false)]] [hO (List Int) (vS p s1 c) cs1] [] [(10,false)] (zY [0]) ?_ ?_
   · refine Op<|Op<|Op<|Ox ?_<|Ox ?_<|Op<|Op<|Op<|Ox ?_<|Ox ?_<|Oq ?_<|On
     · intro I1 hf le1;refine yS [19,20] rfl ?_;have h2:=iM le1 h2;refine kI 0 rfl rfl rfl h2 hy ?_;intro ad ccs hat hcc hrep;obtain ⟨v0,rfl,h4⟩:=hrep;obtain ⟨p1,c1,rfl⟩:=h4.form;exact yK [] iR ⟨_,_,_,rfl,rfl,hat,hcc,h4⟩
     · rintro I1 hf le1 _ _ ⟨ad,p1,c1,rfl,rfl,hat,hcc,h4⟩;exact yS [21] rfl<|zBZ 0 0 hat hcc [vS p1 x c1] (vS p1 x c1) rfl rfl<|yK [] iR ⟨_,_,rfl,rfl,h4⟩
     · intro I1 hf le1;refine yS [23,25] rfl ?_;have h2:=iM le1 h2;refine kI 0 rfl rfl rfl h2 hy1 ?_;intro ad1 ccs1 hat1 hcc1 hrep1;obtain ⟨v01,rfl,h5⟩:=hrep1;obtain ⟨p2,c2,rfl⟩:=h5.form;exact yK [] iR ⟨_,_,_,rfl,rfl,hat1,hcc1,h5⟩
     · rintro I1 hf le1 _ _ ⟨ad1,p2,c2,rfl,rfl,hat1,hcc1,h5⟩;exact yS [26] rfl<|zBZ 0 0 hat1 hcc1 [vS p2 x1 c2] (vS p2 x1 c2) rfl rfl<|yK [] iR ⟨_,_,rfl,rfl,h5⟩
     rintro I1 hf le1 _ _ ⟨rfl,rfl⟩ _ _ ⟨p11,c11,rfl,rfl,h41⟩ _ _ ⟨p21,c21,rfl,rfl,h51⟩;refine yS [18,22,27] rfl ?_;have H:=iS I1;refine uH (gU x x1 _ hy2 h41 h51) ?_;intro I01 le1;have H:=H.trans le1;exact xF H
   intro I02 le2;refine yS [0,1,5,28] rfl ?_;have ⟨h2,H⟩:=m2 le2 h2 H;refine yE rfl<|zI<|yB N ?_ ?_
   · intro hc2 N;refine yF<|yH 2 [] [29,30] rfl<|bE N fun l hy3 N=>zMr 0 rfl rfl h2 hy3 fun p3 c3 h7=>yJ [] [6] rfl<|zX<|yD [7] rfl<|wB<|qW [(0,vS p s1 c),(1,.func (.func 134) ⟨[]⟩ ⟨[]⟩),(5,vI k0),(6,vS p3 l c3),(7,vI 1)] ?_;obtain ⟨o01,ho01,hMl⟩:=zC N;refine fE k0 l s1 k0 1 o01 ho01 iR h7 h2 (fun _ _ _ h=>hg _ _ _ h) (fun _ _ h=>ho _ _ h) ?_;intro I06 s4 k02 cs4 heq1 le6 h9;subst o01;have H:=H.trans le6;refine zR<|xG<|yH 2 [] [59,60] rfl ?_;obtain ⟨l2,hy13,N⟩:=zC hMl;refine zMq ([]:List Int) [z0] 0 rfl rfl rfl rfl h9 hy13 ⟨_,rfl,(SL.nil _)⟩ fun cs7 v08 h17 hl02=>kT (m':=[(0,vS p s4 c),(5,vI k02),(59,vS p s4 c),(60,vI k02)]) ⟨rfl,rfl,rfl,rfl,trivial⟩<|zAj (hs':=[hO (List Int) (vS p l2 c) cs7]) (m':=[(0,vS p l2 c),(5,vI k02),(59,vS p l2 c),(60,vI k02)]) (by first | rfl | simp only [vS,hl02,List.nil_append,List.cons_append,List.set_cons_zero,List.set_cons_succ,List.eraseIdx_cons_zero,List.eraseIdx_cons_succ]) (by first | rfl | simp only [vS,hl02])<|yE rfl<|xG<|yH 2 [] [62,63] rfl<|bE N fun l3 hy14 N=>zJa 0 rfl rfl rfl rfl rfl (by kernel_rfl) rfl rfl h17 hy14 ?_;rintro p8 c8 cs8 - h18;refine uG (hs':=[hO (List Int) (vS p8 l3 c8) cs8]) rfl<|yJ [] [4] rfl<|xB<|zU<|zF<|zF<|xA 0 rfl ?_;intro I07 le7 hl03;have h19:=SL.of_frozen hl03 le7 h18;have H:=H.trans le7;exact hr _ _ _ _ (zB N).symm H ⟨_,_,(.tmp rfl ResV.nil),zP,⟨_,rfl,rfl,h19⟩⟩
   intro hc2 N;exact zS<|zO<|zI<|zL<|yJ [] [5] rfl<|yQ<|qW [(0,vS p s1 c),(1,.func (.func 134) ⟨[]⟩ ⟨[]⟩),(5,vI (W (k0 + 1)))]<|ih (W (k0 + 1)) _ N H h2 hg ho hx hr
 intro hc1 N;exact wY<|T_w [(0,vS p s1 c)]<|hx _ _ _ (zB N).symm H h2
def vO (s:(List (List Int))):Option ((List (List Int))):=do
 if (decide ((s.length:Int) < 2)) then
  pure (id s)
 else
  match←xP s 1 with
  | .ret r0=>pure r0
  | .done s2 =>
   pure (id s2)
theorem eC:∀ s r,vO s=some r→∀ {I:Imm}{p c cs},(RL I cs s)→RT 133 [vS p s c,.func (.func 134) ⟨[]⟩ ⟨[]⟩] I [hO (List Int) (vS p s c) cs] (xN  r):=by
 intro s r N I p c cs h;unfold vO at N;refine yL Tryz.func133 fun B=>wV []<|zX<|yD [10] rfl<|zI<|yB N ?_ ?_
 · intro hc N;refine yD [4] rfl<|xB<|zF<|xA 0 rfl ?_;intro I0 le hl0;have h1:=SL.of_frozen hl0 le h;obtain rfl:=zB N;exact xC ⟨_,_,(.tmp rfl ResV.nil),zP,⟨_,rfl,rfl,h1⟩⟩
 intro hc N;refine zS<|zX<|yD [5] rfl<|wB<|qW [(0,vS p s c),(1,.func (.func 134) ⟨[]⟩ ⟨[]⟩),(5,vI 1)] ?_;obtain ⟨o02,ho02,hMl1⟩:=zC N;refine fF s 1 o02 ho02 iR h (fun _ _ _ h=>h) (fun _ _ h=>h) ?_ ?_
 · intro I08 s2 cs2 heq2 le8 h3;subst o02;refine zR<|wW [4] rfl<|xB<|xA 0 rfl ?_;intro I09 le9 hl04;have h20:=SL.of_frozen hl04 le9 h3;obtain rfl:=zB hMl1;exact xC ⟨_,_,(.tmp rfl ResV.nil),zP,⟨_,rfl,rfl,h20⟩⟩
 intro r0 I9 hs9 m9 heq9 le9 hrs9;subst heq9;refine zU<|zF ?_;obtain rfl:=zB hMl1;exact xC hrs9
def vE (x1:zK) (x2:zK) (by0:List Int) (t48:Int):Option (List Int):=do
 if (decide (t48 < (x2.Point.length:Int))) then
  let x3←idx x2.Point t48
  let x4←idx x1.Point t48
  let by02←app 8 by0 ([(W (x3 - x4))]:List Int)
  vE x1 x2 by02 (W (t48 + 1))
 else
  pure (id by0)
 partial_fixpoint
theorem eY (x1:zK) (x2:zK):∀ (by0:List Int) (t48:Int) (o:List Int),vE x1 x2 by0 t48=some o→∀ {B}{I0 I:Imm}{Q}{t:vQ}{part:Int}{y:(List yC)}{out:List (List Int)}{t15:Int}{ad:Addr}{p c p1 c1 p2 c2 p3 c3 p4 c4 p5 c5 p6 c6 cs p91 c91}{b2:Nat}{b11:Nat}{p811 c811 p10 c10 cs2},I0.le I→(S4 I p t.Program.Arrays c)→(S4 I p1 t.Program.Parts c1)→(S4 I p2 t.list c2)→(S4 I p3 t.reads c3)→(S4 I p4 t.writes c4)→(At I ad [vS p t.Program.Arrays c,vS p1 t.Program.Parts c1,vS p2 t.list c2,vS p3 t.reads c3,vS p4 t.writes c4])→(RL I cs out)→(S4 I p5 y c5)→(S4 I p811 x1.Point c811)→(S4 I p91 x2.Point c91)→(RL I cs2 by0)→NG Q→NO Q→(∀ (I':Imm) (by01:List Int) (p11:Option Addr) (c11:Nat) (cs3:List Value),o=by01→I0.le I'→(RL I' cs3 by01)→T 75 B Q (.exit 2) I' [hO Int (vS p11 by01 c11) cs3,hO (List Int) (vS p6 out c6) cs] [(0,.pointer (some ad)),(1,vI part),(5,vS p6 out c6),(10,vS p11 by01 c11),(13,vS p5 y c5),(14,vI (y.length:Int)),(15,vI t15)])→J Tryz.prog 75 B (nav (bodyOf Tryz.f86) [1,1,0,1,0,0,1,1,0,0,1,1,1,1,0,1,0]) Q I [hO Int (vS p10 by0 c10) cs2,hB b11 (cInst x1 p811 c811),hB b2 (cInst x2 p91 c91),hO (List Int) (vS p6 out c6) cs] [(0,.pointer (some ad)),(1,vI part),(5,vS p6 out c6),(8,vP b11 0),(9,vP b2 0),(10,vS p10 by0 c10),(13,vS p5 y c5),(14,vI (y.length:Int)),(15,vI t15),(47,vI (x2.Point.length:Int)),(48,vI t48)]:=by
 refine vE.partial_correctness x1 x2 _ fun self ih by0 t48 o N B I0 I Q t part y out t15 ad p c p1 c1 p2 c2 p3 c3 p4 c4 p5 c5 p6 c6 cs p91 c91 b2 b11 p811 c811 p10 c10 cs2 H h h1 h2 h3 h4 hat h7 h5 h911 h101 h12 hg ho hx=>yR hg ho<|yD [49] rfl<|zX<|yB N ?_ ?_
 · intro hc3 N;refine zS<|zX<|yG<|yD [11] rfl<|zI ?_;obtain ⟨x3,hy4,N⟩:=zC N;obtain ⟨x4,hy5,N⟩:=zC N;obtain ⟨by02,hy6,N⟩:=zC N;refine wX [.p (vS p10 by0 c10) [],.p (vP b2 2) [],.p (vS p91 x2.Point c91) [1],.p (vI t48) [],.x (fun I' v hx=>∃ ad4,v=.pointer (some ad4)∧hx=[]∧(At I' ad4 [vI x3])),.q (vI x3),.p (vP b11 2) [],.p (vS p811 x1.Point c811) [0],.p (vI t48) [],.x (fun I' v hx=>∃ ad5,v=.pointer (some ad5)∧hx=[]∧(At I' ad5 [vI x4])),.q (vI x4),.p (vI (W (x3 - x4))) [],.x (fun I' v hx=>∃ b3,v=vS (some ⟨b3,0,none⟩) ([(W (x3 - x4))]:List Int) 1∧hx=[]∧(SL I' (vS (some ⟨b3,0,none⟩) ([(W (x3 - x4))]:List Int) 1) ([(W (x3 - x4))]:List Int))),.x (fun I' v hx=>∃ p12 c12 cs4,v=vS p12 by02 c12∧hx=[hO Int (vS p12 by02 c12) cs4]∧(RL I' cs4 by02))] [[],[],[(1,false)],[],[(2,false),(3,false)],[(4,false)],[],[(6,false)],[],[(7,false),(8,false)],[(9,false)],[(5,false),(10,false)],[(11,false)],[(0,false),(12,false),(15,true)]] [hB b11 (cInst x1 p811 c811),hB b2 (cInst x2 p91 c91),hO (List Int) (vS p6 out c6) cs] [[hO Int (vS p10 by0 c10) cs2]] [(13,true)] (zY [1,2,3,0]) ?_ ?_
   · refine Op<|Op<|Op<|Op<|Ox ?_<|Oq ?_<|Op<|Op<|Op<|Ox ?_<|Oq ?_<|Op<|Ox ?_<|Ox ?_<|On
     · intro I1 hf le1;refine yS [53,54] rfl ?_;have h101:=h101.mono le1;refine xS rfl rfl h101 hy4 ?_;intro ad4 ccs3 hat4 hrep3;obtain rfl:=hrep3;exact yK [] iR ⟨_,rfl,rfl,hat4⟩
     · rintro I1 hf le1 _ _ ⟨ad4,rfl,rfl,hat4⟩;exact yS [55] rfl<|xL 0 hat4 [vI x3] (vI x3) rfl<|xF iR
     · intro I1 hf le1;refine yS [58,59] rfl ?_;have h911:=h911.mono le1;refine xS rfl rfl h911 hy5 ?_;intro ad5 ccs4 hat5 hrep4;obtain rfl:=hrep4;exact yK [] iR ⟨_,rfl,rfl,hat5⟩
     · rintro I1 hf le1 _ _ ⟨ad5,rfl,rfl,hat5⟩;exact yS [60] rfl<|xL 0 hat5 [vI x4] (vI x4) rfl<|xF iR
     · intro I1 hf le1;refine yS [62] rfl ?_;have H:=iS I1;refine nE (rI [(W (x3 - x4))]) ?_;intro b3 I03 le3 h15;have H:=H.trans le3;exact yK [] H ⟨_,rfl,rfl,h15⟩
     rintro I1 hf le1 _ _ ⟨rfl,rfl⟩ _ _ ⟨b3,rfl,rfl,h15⟩ _ _ rfl;refine yS [51,63] rfl ?_;have h12:=iM le1 h12;obtain ⟨ccs5,k0,k01⟩:=h15;have h15:SL I1 (vS (some ⟨b3,0,none⟩) ([(W (x3 - x4))]:List Int) 1) ([(W (x3 - x4))]:List Int):=⟨_,k0,k01⟩;exact qB 3 1 0 rfl rfl rfl h12 (.inl k0) k01 hy6 fun p12 c12 cs4 h16=>uG (hs':=(hO Int (vS p12 by02 c12) cs4::hB b11 (cInst x1 p811 c811)::hB b2 (cInst x2 p91 c91)::hO (List Int) (vS p6 out c6) cs::hf)) rfl<|yK [hO Int (vS p12 by02 c12) cs4] iR ⟨_,_,_,rfl,rfl,h16⟩
   rintro I04 le4 _ _ ⟨p12,c12,cs4,rfl,rfl,h16⟩;refine yS [0,1,5,8,9,13,14,15,47,48,64] rfl ?_;have ⟨h,h1,h2,h3,h4,hat⟩:=m6 le4 h h1 h2 h3 h4 hat;have ⟨h7,h5,h911,h101,H⟩:=m5 le4 h7 h5 h911 h101 H;exact yJ [] [10] rfl<|zO<|zI<|zL<|yJ [] [48] rfl<|yQ<|nO<|ih by02 (W (t48 + 1)) _ N H h h1 h2 h3 h4 hat h7 h5 h911 h101 h16 hg ho hx
 intro hc3 N;exact wY<|wA (zW [0,3] rfl (by decide))<|yO<|hx _ _ _ _ _ (zB N).symm H h12
def xX (t:vQ) (part:Int) (y:(List yC)) (out:List (List Int)) (t15:Int):Option (List (List Int)):=do
 if (decide (t15 < (y.length:Int))) then
  let x←idx y t15
  let x1←idx t.list x.From
  let x2←idx t.list x.To
  let t44←(do
    if (x1.Part != part) then
     pure true
    else
     pure (x2.Part != part)
      : Option Bool)
  if t44 then
   xX t part y out (W (t15 + 1))
  else
   let by01←vE x1 x2 ([]:List Int) 0
   let out2←app 24 out ([by01]:List (List Int))
   xX t part y out2 (W (t15 + 1))
 else
  pure (id out)
 partial_fixpoint
theorem eZ (t:vQ) (part:Int) (y:(List yC)):∀ (out:List (List Int)) (t15:Int) (o:List (List Int)),xX t part y out t15=some o→∀ {B}{I0 I:Imm}{Q}  {ad:Addr}{p c p1 c1 p2 c2 p3 c3 p4 c4 p5 c5 p6 c6 cs},I0.le I→(S4 I p t.Program.Arrays c)→(S4 I p1 t.Program.Parts c1)→(S4 I p2 t.list c2)→(S4 I p3 t.reads c3)→(S4 I p4 t.writes c4)→(At I ad [vS p t.Program.Arrays c,vS p1 t.Program.Parts c1,vS p2 t.list c2,vS p3 t.reads c3,vS p4 t.writes c4])→(S4 I p5 y c5)→(RL I cs out)→NG Q→NO Q→(∀ (I':Imm) (out1:List (List Int)) (p7:Option Addr) (c7:Nat) (cs1:List Value),o=out1→I0.le I'→(RL I' cs1 out1)→T 75 B Q (.exit 0) I' [hO (List Int) (vS p7 out1 c7) cs1] [(5,vS p7 out1 c7)])→J Tryz.prog 75 B (nav (bodyOf Tryz.f86) [1,1,0,1,0]) Q I [hO (List Int) (vS p6 out c6) cs] [(0,.pointer (some ad)),(1,vI part),(5,vS p6 out c6),(13,vS p5 y c5),(14,vI (y.length:Int)),(15,vI t15)]:=by
 refine xX.partial_correctness t part y _ fun self ih out t15 o N B I0 I Q ad p c p1 c1 p2 c2 p3 c3 p4 c4 p5 c5 p6 c6 cs H h h1 h2 h3 h4 hat h5 h7 hg ho hx=>yR hg ho<|yD [16] rfl<|zX<|yB N ?_ ?_
 · intro hc N;refine zS<|zX<|yG<|yF<|bE N fun x hy1 N=>xS rfl rfl h5 hy1 ?_;intro ad1 ccs hat1 hrep;obtain rfl:=zAQ hrep;refine xL 0 hat1 [vI x.From,vI x.To,vI x.Kinds] (vA [vI x.From,vI x.To,vI x.Kinds]) rfl<|uF [vI 0,vI 0,vI 0] ?_;intro b hb;refine xQ 0 [vI x.From,vI x.To,vI x.Kinds] rfl<|yE rfl<|zI<|zZ ?_;obtain ⟨x1,hy2,N⟩:=zC N;obtain ⟨x2,hy3,N⟩:=zC N;refine wX [.p (.pointer (some ad)) [],.p (.pointer (some ad)) [],.p (.pointer (some (ad.add 2))) [],.q (vS p2 t.list c2),.p (vP b 0) [],.p (vI x.From) [0],.x (ePInst x1),.x (eVInst x1),.p (.pointer (some ad)) [],.p (.pointer (some ad)) [],.p (.pointer (some (ad.add 2))) [],.q (vS p2 t.list c2),.p (vP b 1) [],.p (vI x.To) [0],.x (ePInst x2),.x (eVInst x2),.x (fun I' v hx=>∃ b1,v=vP b1 0∧hx=[hB b1 [vI 0,vI 0,z0]]),.x (fun I' v hx=>∃ b2,v=vP b2 0∧hx=[hB b2 [vI 0,vI 0,z0]]),.x (fun I' v hx=>∃ b11 p811 c811,v=vP b11 0∧hx=[hB b11 (cInst x1 p811 c811)]∧(S4 I' p811 x1.Point c811))] [[],[(0,false)],[(1,false)],[(2,false)],[],[(4,false)],[(3,false),(5,false)],[(6,false)],[],[(8,false)],[(9,false)],[(10,false)],[],[(12,false)],[(11,false),(13,false)],[(14,false)],[],[],[(7,false),(16,true)]] [hB b [vI x.From,vI x.To,vI x.Kinds],hO (List Int) (vS p6 out c6) cs] [] [(15,false),(17,true),(18,true)] (zY [0,1]) ?_ ?_
   · refine Op<|Op<|Op<|Oq ?_<|Op<|Op<|Ox ?_<|Ox ?_<|Op<|Op<|Op<|Oq ?_<|Op<|Op<|Ox ?_<|Ox ?_<|Ox ?_<|Ox ?_<|Ox ?_<|On
     · intro I1 hf le1;refine yS [21] rfl ?_;have hat:=hat.mono le1;exact xL 2 hat [vS p2 t.list c2] (vS p2 t.list c2) rfl<|xF iR
     · intro I1 hf le1;refine yS [22,24] rfl ?_;have h2:=h2.mono le1;refine xS rfl rfl h2 hy2 ?_;intro ad2 ccs1 hat2 hrep1;obtain ⟨p8,c8,rfl,h9⟩:=rQ hrep1;exact yK [] iR ⟨_,_,_,rfl,rfl,hat2,h9⟩
     · rintro I1 hf le1 _ _ ⟨ad2,p8,c8,rfl,rfl,hat2,h9⟩;exact yS [25] rfl<|xL 0 hat2 (cInst x1 p8 c8) (vA (cInst x1 p8 c8)) rfl<|yK [] iR ⟨_,_,rfl,rfl,h9⟩
     · intro I1 hf le1;refine yS [29] rfl ?_;have hat:=hat.mono le1;exact xL 2 hat [vS p2 t.list c2] (vS p2 t.list c2) rfl<|xF iR
     · intro I1 hf le1;refine yS [30,32] rfl ?_;have h2:=h2.mono le1;refine xS rfl rfl h2 hy3 ?_;intro ad3 ccs2 hat3 hrep2;obtain ⟨p9,c9,rfl,h10⟩:=rQ hrep2;exact yK [] iR ⟨_,_,_,rfl,rfl,hat3,h10⟩
     · rintro I1 hf le1 _ _ ⟨ad3,p9,c9,rfl,rfl,hat3,h10⟩;exact yS [33] rfl<|xL 0 hat3 (cInst x2 p9 c9) (vA (cInst x2 p9 c9)) rfl<|yK [] iR ⟨_,_,rfl,rfl,h10⟩
     · intro I1 hf le1;refine eU []<|uF [vI 0,vI 0,z0] ?_;intro b1 hb1;exact yK [hB b1 [vI 0,vI 0,z0]] iR ⟨_,rfl,rfl⟩
     · intro I1 hf le1;refine eU []<|uF [vI 0,vI 0,z0] ?_;intro b2 hb2;exact yK [hB b2 [vI 0,vI 0,z0]] iR ⟨_,rfl,rfl⟩
     rintro I1 hf le1 _ _ ⟨p81,c81,rfl,rfl,h91⟩ _ _ ⟨b1,rfl,rfl⟩;exact yS [8,26] rfl<|zCz 0 (cInst x1 p81 c81) (hB b1 (cInst x1 p81 c81)::hB b [vI x.From,vI x.To,vI x.Kinds]::hO (List Int) (vS p6 out c6) cs::hf) rfl rfl rfl rfl<|yK [hB b1 (cInst x1 p81 c81)] iR ⟨_,_,_,rfl,rfl,h91⟩
   rintro I01 le1 _ _ ⟨p91,c91,rfl,rfl,h101⟩ _ _ ⟨b2,rfl,rfl⟩ _ _ ⟨b11,p811,c811,rfl,rfl,h911⟩;refine yS [0,1,5,8,9,13,14,15,34] rfl ?_;have ⟨h,h1,h2,h3,h4,hat⟩:=m6 le1 h h1 h2 h3 h4 hat;have ⟨h7,h5,H⟩:=m3 le1 h7 h5 H;refine xQ 1 (cInst x2 p91 c91) rfl<|yE rfl<|zX<|zZ ?_;refine wP N [hB b11 (cInst x1 p811 c811),hB b2 (cInst x2 p91 c91),hO (List Int) (vS p6 out c6) cs] (fun t44=>[(0,.pointer (some ad)),(1,vI part),(5,vS p6 out c6),(8,vP b11 0),(9,vP b2 0),(13,vS p5 y c5),(14,vI (y.length:Int)),(15,vI t15),(44,.bool t44)]) (fun o0 ho0=>?_) ?_
   · have H:=iS I01;refine zL<|yH 5 [0] [39] rfl<|xZ [39] ho0 ?_ ?_
     · intro hc1 N;exact vG [] [(44,vY)]<|wA (zW [0,1,3] rfl (by decide))<|yO<|zV (ct N H)
     intro hc1 N;exact yJ [1] [44] rfl<|wA (zW [0,1,3] rfl (by decide))<|yO<|zV (ct N H)
   intro t44 I02 le2 hMc;have ⟨h,h1,h2,h3,h4,hat⟩:=m6 le2 h h1 h2 h3 h4 hat;have ⟨h7,h5,h911,h101,H⟩:=m5 le2 h7 h5 h911 h101 H;refine zI<|yB hMc ?_ ?_
   · intro hc2 N;exact zFS<|jB<|zR<|zI<|zL<|yJ [] [15] rfl<|yQ<|jR (zW [2] rfl (by decide))<|nO<|ih out (W (t15 + 1)) _ N H h h1 h2 h3 h4 hat h5 h7 hg ho hx
   intro hc2 N;refine zS<|zDB [(10,z0)]<|zX<|yF<|yJ [1] [47,48] rfl<|wB<|qW [(0,.pointer (some ad)),(1,vI part),(5,vS p6 out c6),(8,vP b11 0),(9,vP b2 0),(10,z0),(13,vS p5 y c5),(14,vI (y.length:Int)),(15,vI t15),(47,vI (x2.Point.length:Int)),(48,vI 0)]<|eV Int fun h11=>?_;obtain ⟨o01,ho01,hMl⟩:=zC N;refine eY x1 x2 ([]:List Int) 0 o01 ho01 iR h h1 h2 h3 h4 hat h7 h5 h911 h101 h11 (fun _ _ _ h=>hg _ _ _ h) (fun _ _ h=>ho _ _ h) ?_;intro I05 by01 p11 c11 cs3 heq1 le5 h13;subst o01;have ⟨h,h1,h2,h3,h4,hat⟩:=m6 le5 h h1 h2 h3 h4 hat;have ⟨h7,h5,H⟩:=m3 le5 h7 h5 H;refine zR<|zI<|zL<|yH 2 [] [66,67] rfl<|xM 0 rfl ?_;intro I06 le6 hl01;have h17:=SL.of_frozen hl01 le6 h13;have ⟨h,h1,h2,h3,h4,hat⟩:=m6 le6 h h1 h2 h3 h4 hat;have ⟨h5,h7,H⟩:=m3 le6 h5 h7 H;refine tJ [vS p11 by01 c11] (List Int) ?_;intro b4 hb4;have h18:RL I06 [vS p11 by01 c11] ([by01]:List (List Int)):=⟨[vS p11 by01 c11],_,rfl,rfl,⟨_,rfl,h17⟩,rfl⟩;obtain ⟨out2,hy7,N⟩:=zC hMl;exact qB 36 1 1 rfl rfl rfl h7 (.inr ⟨0,rfl⟩) h18 hy7 fun p13 c13 cs5 h19=>rW (zY [1] (hs':=[hO (List Int) (vS p13 out2 c13) cs5]))<|yJ [] [5] rfl<|zO<|zI<|zL<|yJ [] [15] rfl<|yQ<|nO<|ih out2 (W (t15 + 1)) _ N H h h1 h2 h3 h4 hat h5 h19 hg ho hx
 intro hc N;exact wY<|yO<|hx _ _ _ _ _ (zB N).symm H h7
def rU (t:vQ) (part:Int):Option ((List (List Int))):=do
 let y←nM t
 let out1←xX t part y ([]:List (List Int)) 0
 let y1←sQ out1
 let y2←vO y1
 pure (id y2)
theorem zAS:∀ t part r,rU t part=some r→∀ {I:Imm}{ad:Addr}{p c p1 c1 p2 c2 p3 c3 p4 c4},(S4 I p t.Program.Arrays c)→(S4 I p1 t.Program.Parts c1)→(S4 I p2 t.list c2)→(S4 I p3 t.reads c3)→(S4 I p4 t.writes c4)→(At I ad [vS p t.Program.Arrays c,vS p1 t.Program.Parts c1,vS p2 t.list c2,vS p3 t.reads c3,vS p4 t.writes c4])→RT 86 [.pointer (some ad),vI part] I [] (xN  r):=by
 intro t part r N I ad p c p1 c1 p2 c2 p3 c3 p4 c4 h h1 h2 h3 h4 hat;unfold rU at N;refine yL Tryz.func86 fun B=>wV []<|zDB [(5,z0)]<|zX<|yF<|yH 1 [] [12] rfl<|bE N fun y hy N=>xV (zCE t _ hy h h1 h2 h3 h4 hat) ?_;rintro I0 hs2 v2 k2 le - ⟨v0,rfl,rfl,h5⟩ -;have ⟨h,h1,h2,h3,h4,hat⟩:=m6 le h h1 h2 h3 h4 hat;obtain ⟨p5,c5,rfl⟩:=h5.form;refine yJ [] [14,15] rfl<|wB<|qW [(0,.pointer (some ad)),(1,vI part),(5,z0),(13,vS p5 y c5),(14,vI (y.length:Int)),(15,vI 0)]<|eV (List Int) fun h6=>?_;obtain ⟨o02,ho02,hMl1⟩:=zC N;refine eZ t part y ([]:List (List Int)) 0 o02 ho02 iR h h1 h2 h3 h4 hat h5 h6 (fun _ _ _ h=>h) (fun _ _ h=>h) ?_;intro I07 out1 p7 c7 cs1 heq2 le7 h8;subst o02;refine zR<|xG<|yH 1 [] [71] rfl ?_;obtain ⟨y1,hy8,N⟩:=zC hMl1;refine sR (dP out1 _ hy8 h8) rfl ?_;rintro I08 hs2 v2 k2 le8 - ⟨cs6,rfl,rfl,hl02,h20⟩ -;refine kT (m':=[(5,vS p7 out1 c7),(72,.tuple ⟨[]⟩)]) ⟨rfl,rfl,trivial⟩<|zAj (hs':=[hO (List Int) (vS p7 y1 c7) cs6]) (m':=[(5,vS p7 y1 c7),(72,.tuple ⟨[]⟩)]) rfl (by first | rfl | simp only [vS,hl02])<|yE rfl<|xG<|yH 1 [] [73] rfl<|bE N fun y2 hy9 N=>sR (eC y1 _ hy9 h20) rfl ?_;rintro I09 hs2 v2 k2 le9 - ⟨v03,rfl,rfl,h21⟩ -;obtain ⟨p14,c14,rfl⟩:=h21.form;refine yJ [] [4] rfl<|zI<|yZ ?_;obtain rfl:=zB N;exact xC ⟨_,_,(.tmp rfl ResV.nil),zP,⟨_,rfl,rfl,h21⟩⟩
def jU (p:zE) (part:Int):Option ((List (List Int))):=do
 let (y1,y2)←fD p
 let t19←(do
   if (!y2) then
    pure true
   else
    let y3←qY p part
    pure (!y3)
     : Option Bool)
 if t19 then
  pure ([]:List (List Int))
 else
  let t←y1
  let y4←rU t part
  pure (id y4)
theorem zJN:∀ p part r,jU p part=some r→∀ {I:Imm}{p1 c p2 c1},(S4 I p1 p.Arrays c)→(S4 I p2 p.Parts c1)→RT 36 [vA (cProg p p1 c p2 c1),vI part] I [] (xN  r):=by
 intro p part r N I p1 c p2 c1 h h1;unfold jU at N;refine yL Tryz.func36 fun B=>?_;have H:=iS I;refine yF<|tX (cProg p p1 c p2 c1) ?_;intro b hb;refine vG [] []<|xG<|oD 1 [0] [(8,vA (cProg p p1 c p2 c1))] ?_;obtain ⟨⟨y1,y2⟩,hy,N⟩:=zC N;refine xV (zGZ p _ hy h h1) ?_;rintro I0 hs2 v2 k2 le - ⟨v0,v01,rfl,rfl,h2,rfl⟩ -;have ⟨h,h1,H⟩:=m3 le h h1 H;refine yJ [] [5,6] rfl<|zX<|zZ ?_;refine wP N [] (fun t19=>[(1,vI part),(5,v0),(19,.bool t19)]) (fun o0 ho0=>?_) ?_
 · have H:=iS I0;refine zL<|yH 3 [] [14] rfl<|xZ [14] ho0 ?_ ?_
   · intro hc N;exact vG [] [(19,vY)]<|wA zP<|yO<|zV (ct N H)
   intro hc N;refine oD 5 [0] [(15,vA (cProg p p1 c p2 c1)),(16,vI part)]<|bE N fun y3 hy1 N=>uH (zAt p part _ hy1 h h1) ?_;intro I02 le1;have H:=H.trans le1;exact yJ [] [19] rfl<|wA zP<|yO<|zV (ct N H)
 intro t19 I01 le2 hMc;have h2:=h2.mono le2;refine zI<|yB hMc ?_ ?_
 · intro hc1 N;refine wV [(4,z0)]<|xB<|zF ?_;obtain rfl:=zB N;exact xC ⟨_,_,(.tmp rfl ResV.nil),zP,⟨_,rfl,rfl,(SL.nil _)⟩⟩
 intro hc1 N;refine zS<|xG<|yH 2 [] [20,21] rfl ?_;obtain ⟨t,hy2,N⟩:=zC N;obtain ⟨ad,ccs,rfl,hat,hrep⟩:=zL2 h2 hy2;obtain ⟨p3,c2,p4,c3,p5,c4,p6,c5,p7,c6,rfl,h5,h6,h7,h8,h9⟩:=zF8 hrep;obtain ⟨y4,hy3,N⟩:=zC N;refine xV (zAS t part _ hy3 h5 h6 h7 h8 h9 hat) ?_;rintro I03 hs2 v2 k2 le3 - ⟨v08,rfl,rfl,h10⟩ -;obtain ⟨p8,c7,rfl⟩:=h10.form;refine yJ [] [4] rfl<|zI<|yZ ?_;obtain rfl:=zB N;exact xC ⟨_,_,(.tmp rfl ResV.nil),zP,⟨_,rfl,rfl,h10⟩⟩
def pR (a0:(List Int)) (b:(List Int)) (i:Int):Option (Out Unit (Bool)):=do
 if (decide (i < (a0.length:Int))) then
  let x←idx a0 i
  let x1←idx b i
  if (x != x1) then
   pure (.ret false)
  else
   pR a0 b (W (i + 1))
 else
  pure (.done ())
 partial_fixpoint
theorem zDa (a0:(List Int)) (b:(List Int)):∀ (i:Int) (o:Out Unit (Bool)),pR a0 b i=some o→∀ {B}{I0 I:Imm}{Q p c p1 c1},I0.le I→(S4 I p a0 c)→(S4 I p1 b c1)→NG Q→NO Q→(∀ (I':Imm) ,o=(.done ())→I0.le I'→T 26 B Q (.exit 0) I' [] [])→(∀ r I' hs' m',o=(.ret r)→I0.le I'→RS Tryz.prog Tryz.f19 B (zT  r) I' hs' m'→T 26 B Q .ret I' hs' m')→J Tryz.prog 26 B (nav (bodyOf Tryz.f19) [1,1,0,1,0]) Q I [] [(0,vS p a0 c),(1,vS p1 b c1),(5,vI i)]:=by
 refine pR.partial_correctness a0 b _ fun self ih i o N B I0 I Q p c p1 c1 H h h1 hg ho hx hr=>yR hg ho<|zZ<|yD [14] rfl<|zI<|yB N ?_ ?_
 · intro hc1 N;refine zS<|zX<|yG<|zZ<|nH (by kernel_rfl) (by kernel_rfl)<|jY 2 [] [17,18] rfl<|bE N fun x hy N=>gW rfl rfl h hy ?_;intro ad ccs hat hrep;obtain rfl:=hrep;refine jX 0 hat [vI x] (vI x) rfl<|jY 6 [] [21,22] rfl<|bE N fun x1 hy1 N=>gW rfl rfl h1 hy1 ?_;intro ad1 ccs1 hat1 hrep1;obtain rfl:=hrep1;refine jX 0 hat1 [vI x1] (vI x1) rfl<|zEi [] [25] rfl<|zI<|yB N ?_ ?_
   · intro hc2 N;exact wV [(4,vF)]<|xB<|zU<|zF<|zF<|hr _ _ _ _ (zB N).symm H ⟨_,_,(.tmp rfl ResV.nil),zP,⟨_,rfl,rfl,rfl⟩⟩
   intro hc2 N;exact zS<|zO<|zI<|zL<|yJ [] [5] rfl<|yQ<|nO<|ih (W (i + 1)) _ N H h h1 hg ho hx hr
 intro hc1 N;exact wY<|yO<|hx _  (zB N).symm H
def gJ (a0:(List Int)) (b:(List Int)):Option (Bool):=do
 if ((a0.length:Int) != (b.length:Int)) then
  pure false
 else
  match←pR a0 b 0 with
  | .ret r0=>pure r0
  | .done _ =>
   pure true
theorem zFq:∀ a0 b r,gJ a0 b=some r→∀ {I:Imm}{p c p1 c1},(S4 I p a0 c)→(S4 I p1 b c1)→RT 19 [vS p a0 c,vS p1 b c1] I [] (zT  r):=by
 intro a0 b r N I p c p1 c1 h h1;unfold gJ at N;refine yL Tryz.func19 fun B=>wV []<|zX<|yD [10] rfl<|zI<|yB N ?_ ?_
 · intro hc N;refine wV [(4,vF)]<|xB<|zF ?_;obtain rfl:=zB N;exact wL
 intro hc N;refine zS<|zX<|yD [5] rfl<|wB<|qW [(0,vS p a0 c),(1,vS p1 b c1),(5,vI 0)] ?_;obtain ⟨o0,ho0,hMl⟩:=zC N;refine zDa a0 b 0 o0 ho0 iR h h1 (fun _ _ _ h=>h) (fun _ _ h=>h) ?_ ?_
 · intro I0  heq le;subst o0;refine zR<|zDB [(4,vY)]<|zI<|yZ ?_;obtain rfl:=zB hMl;exact wL
 intro r0 I9 hs9 m9 heq9 le9 hrs9;subst heq9;refine zU<|zF ?_;obtain rfl:=zB hMl;exact xC hrs9
def qO (a0:(List (List Int))) (b:(List (List Int))) (i:Int):Option (Out Unit (Bool)):=do
 if (decide (i < (a0.length:Int))) then
  let x←idx a0 i
  let x1←idx b i
  let y←gJ x x1
  if (!y) then
   pure (.ret false)
  else
   qO a0 b (W (i + 1))
 else
  pure (.done ())
 partial_fixpoint
theorem zCi (a0:(List (List Int))) (b:(List (List Int))):∀ (i:Int) (o:Out Unit (Bool)),qO a0 b i=some o→∀ {B}{I0 I:Imm}{Q p c p1 c1},I0.le I→(S4 I p a0 c)→(S4 I p1 b c1)→NG Q→NO Q→(∀ (I':Imm) ,o=(.done ())→I0.le I'→T 27 B Q (.exit 0) I' [] [])→(∀ r I' hs' m',o=(.ret r)→I0.le I'→RS Tryz.prog Tryz.f37 B (zT  r) I' hs' m'→T 27 B Q .ret I' hs' m')→J Tryz.prog 27 B (nav (bodyOf Tryz.f37) [1,1,0,1,0]) Q I [] [(0,vS p a0 c),(1,vS p1 b c1),(5,vI i)]:=by
 refine qO.partial_correctness a0 b _ fun self ih i o N B I0 I Q p c p1 c1 H h h1 hg ho hx hr=>yR hg ho<|zZ<|yD [14] rfl<|zI<|yB N ?_ ?_
 · intro hc1 N;refine zS<|zX<|yG<|zZ ?_;obtain ⟨x,hy,N⟩:=zC N;obtain ⟨x1,hy1,N⟩:=zC N;obtain ⟨y,hy2,N⟩:=zC N;refine wX [.p (vS p a0 c) [],.p (vI i) [],.x (fun I' v hx=>∃ ad p2 c2,v=.pointer (some ad)∧hx=[]∧(At I' ad [vS p2 x c2])∧(S4 I' p2 x c2)),.x (eS x),.p (vS p1 b c1) [],.p (vI i) [],.x (fun I' v hx=>∃ ad1 p3 c3,v=.pointer (some ad1)∧hx=[]∧(At I' ad1 [vS p3 x1 c3])∧(S4 I' p3 x1 c3)),.x (eS x1),.q (.bool y),.p (.bool (!y)) []] [[],[],[(0,false),(1,false)],[(2,false)],[],[],[(4,false),(5,false)],[(6,false)],[(3,false),(7,false)],[(8,false)]] [] [] [(9,false)] zP ?_ ?_
   · refine Op<|Op<|Ox ?_<|Ox ?_<|Op<|Op<|Ox ?_<|Ox ?_<|Oq ?_<|Op<|On
     · intro I1 hf le1;refine yS [17,18] rfl ?_;have h:=h.mono le1;refine xS rfl rfl h hy ?_;intro ad ccs hat hrep;obtain ⟨v0,rfl,h2⟩:=hrep;obtain ⟨p2,c2,rfl⟩:=h2.form;exact yK [] iR ⟨_,_,_,rfl,rfl,hat,h2⟩
     · rintro I1 hf le1 _ _ ⟨ad,p2,c2,rfl,rfl,hat,h2⟩;exact yS [19] rfl<|xL 0 hat [vS p2 x c2] (vS p2 x c2) rfl<|yK [] iR ⟨_,_,rfl,rfl,h2⟩
     · intro I1 hf le1;refine yS [21,22] rfl ?_;have h1:=h1.mono le1;refine xS rfl rfl h1 hy1 ?_;intro ad1 ccs1 hat1 hrep1;obtain ⟨v01,rfl,h3⟩:=hrep1;obtain ⟨p3,c3,rfl⟩:=h3.form;exact yK [] iR ⟨_,_,_,rfl,rfl,hat1,h3⟩
     · rintro I1 hf le1 _ _ ⟨ad1,p3,c3,rfl,rfl,hat1,h3⟩;exact yS [23] rfl<|xL 0 hat1 [vS p3 x1 c3] (vS p3 x1 c3) rfl<|yK [] iR ⟨_,_,rfl,rfl,h3⟩
     rintro I1 hf le1 _ _ ⟨p21,c21,rfl,rfl,h21⟩ _ _ ⟨p31,c31,rfl,rfl,h31⟩;refine yS [20,24] rfl ?_;have H:=iS I1;refine uH (zFq x x1 _ hy2 h21 h31) ?_;intro I0 le;have H:=H.trans le;exact xF H
   intro I01 le1;refine yS [0,1,5,26] rfl ?_;have ⟨h,h1,H⟩:=m3 le1 h h1 H;refine yE rfl<|zI<|yB N ?_ ?_
   · intro hc2 N;exact wV [(4,vF)]<|xB<|zU<|zF<|zF<|hr _ _ _ _ (zB N).symm H ⟨_,_,(.tmp rfl ResV.nil),zP,⟨_,rfl,rfl,rfl⟩⟩
   intro hc2 N;exact zS<|zO<|zI<|zL<|yJ [] [5] rfl<|yQ<|nO<|ih (W (i + 1)) _ N H h h1 hg ho hx hr
 intro hc1 N;exact wY<|yO<|hx _  (zB N).symm H
def fG (a0:(List (List Int))) (b:(List (List Int))):Option (Bool):=do
 if ((a0.length:Int) != (b.length:Int)) then
  pure false
 else
  match←qO a0 b 0 with
  | .ret r0=>pure r0
  | .done _ =>
   pure true
theorem zJz:∀ a0 b r,fG a0 b=some r→∀ {I:Imm}{p c p1 c1},(S4 I p a0 c)→(S4 I p1 b c1)→RT 37 [vS p a0 c,vS p1 b c1] I [] (zT  r):=by
 intro a0 b r N I p c p1 c1 h h1;unfold fG at N;refine yL Tryz.func37 fun B=>wV []<|zX<|yD [10] rfl<|zI<|yB N ?_ ?_
 · intro hc N;refine wV [(4,vF)]<|xB<|zF ?_;obtain rfl:=zB N;exact wL
 intro hc N;refine zS<|zX<|yD [5] rfl<|wB<|qW [(0,vS p a0 c),(1,vS p1 b c1),(5,vI 0)] ?_;obtain ⟨o0,ho0,hMl⟩:=zC N;refine zCi a0 b 0 o0 ho0 iR h h1 (fun _ _ _ h=>h) (fun _ _ h=>h) ?_ ?_
 · intro I02  heq le2;subst o0;refine zR<|zDB [(4,vY)]<|zI<|yZ ?_;obtain rfl:=zB hMl;exact wL
 intro r0 I9 hs9 m9 heq9 le9 hrs9;subst heq9;refine zU<|zF ?_;obtain rfl:=zB hMl;exact xC hrs9
def zBS (r:(List zK)):KT:=fun kk I' hs' v=>
  ∃ v0,hs'=[]∧v=tupV [v0]∧SL I' v0 r
def wI (p:zE) (i:Int) (y:(List (List Int))) (k0:Int) (out4:List zK) (s:Int):Option (List zK):=do
 let x1←idx p.Parts i
 if (decide (s < (x1.Body.length:Int))) then
  let x2←idx y k0
  let l←app 8 ([]:List Int) x2
  let out6←app 40 out4 ([(zK.mk i s l)]:List zK)
  wI p i y k0 out6 (W (s + 1))
 else
  pure (id out4)
 partial_fixpoint
theorem zAx (p:zE) (i:Int) (y:(List (List Int))) (k0:Int):∀ (out4:List zK) (s:Int) (o:List zK),wI p i y k0 out4 s=some o→∀ {B}{I0 I:Imm}{Q p1 c p2 c1}{b:Nat}{p7 c6 cs2 p10 c9 cs5},I0.le I→(RL I cs2 y)→(S4 I p1 p.Arrays c)→(S4 I p2 p.Parts c1)→(RL I cs5 out4)→NG Q→NO Q→(∀ (I':Imm) (out5:List zK) (p11:Option Addr) (c10:Nat) (cs6:List Value),o=out5→I0.le I'→(RL I' cs6 out5)→T 54 B Q (.exit 4) I' [hO (List Int) (vS p7 y c6) cs2,hO zK (vS p11 out5 c10) cs6,hB b (cProg p p1 c p2 c1)] [(1,vP b 0),(3,vS p11 out5 c10),(4,vI i),(5,vS p7 y c6),(6,vI k0)])→J Tryz.prog 54 B (nav (bodyOf Tryz.f65) [1,1,0,1,0,0,1,0,0,1,1,0,0,1,0,0,1,0]) Q I [hO (List Int) (vS p7 y c6) cs2,hO zK (vS p10 out4 c9) cs5,hB b (cProg p p1 c p2 c1)] [(1,vP b 0),(3,vS p10 out4 c9),(4,vI i),(5,vS p7 y c6),(6,vI k0),(7,vI s)]:=by
 refine wI.partial_correctness p i y k0 _ fun self ih out4 s o N B I0 I Q p1 c p2 c1 b p7 c6 cs2 p10 c9 cs5 H h8 h h1 h11 hg ho hx=>yR hg ho<|zZ<|yF<|yH 4 [2] [30,32,33] rfl<|bE N fun x1 hy2 N=>xS rfl rfl h1 hy2 ?_;intro ad1 ccs1 hat1 hrep1;obtain ⟨p12,c11,p13,c12,rfl,h13,h14⟩:=tD hrep1;refine yH 6 [] [35] rfl<|xL 1 hat1 [vS p13 x1.Body c12] (vS p13 x1.Body c12) rfl<|yJ [] [38] rfl<|zI<|yB N ?_ ?_
 · intro hc2 N;refine zS<|zX<|yG<|zL<|yH 3 [] [41,42,43] rfl<|tJ [] Int ?_;intro b3 hb3;have h15:RL I [] ([]:List Int):=rfl;refine yH 6 [] [45,46] rfl<|bE N fun x2 hy3 N=>kI 1 rfl rfl rfl h8 hy3 ?_;intro ad2 ccs2 hat2 hcc hrep2;obtain ⟨v04,rfl,h16⟩:=hrep2;obtain ⟨p14,c13,rfl⟩:=h16.form;refine zBZ 1 0 hat2 hcc [vS p14 x2 c13] (vS p14 x2 c13) rfl rfl ?_;obtain ⟨ccs3,k01,k02⟩:=h16;have h16:SL I (vS p14 x2 c13) x2:=⟨_,k01,k02⟩;obtain ⟨l,hy4,N⟩:=zC N;refine qB 3 1 0 rfl rfl rfl h15 (.inl k01) k02 hy4 fun p15 c14 cs7 h17=>rW (zY [0,1,2,3] (hs':=[hO Int (vS p15 l c14) cs7,hO (List Int) (vS p7 y c6) cs2,hO zK (vS p10 out4 c9) cs5,hB b (cProg p p1 c p2 c1)]))<|yH 10 [] [50] rfl<|xM 0 rfl ?_;intro I01 le1 hl0;have h18:=SL.of_frozen hl0 le1 h17;have ⟨h8,h11,h,h1,H⟩:=m5 le1 h8 h11 h h1 H;refine tJ [vI i,vI s,vS p15 l c14] zK ?_;intro b4 hb4;have h19:RL I01 [vI i,vI s,vS p15 l c14] ([(zK.mk i s l)]:List zK):=⟨[vI i,vI s,vS p15 l c14],_,rfl,rfl,(dD ⟨_,rfl,h18⟩),rfl⟩;obtain ⟨out6,hy5,N⟩:=zC N;exact qB 49 3 2 rfl rfl rfl h11 (.inr ⟨0,rfl⟩) h19 hy5 fun p16 c15 cs8 h20=>rW (zY [1,2,3] (hs':=[hO (List Int) (vS p7 y c6) cs2,hO zK (vS p16 out6 c15) cs8,hB b (cProg p p1 c p2 c1)]))<|yJ [] [3] rfl<|zO<|zI<|zL<|yJ [] [7] rfl<|yQ<|nO<|ih out6 (W (s + 1)) _ N H h8 h h1 h20 hg ho hx
 intro hc2 N;exact wY<|yO<|hx _ _ _ _ _ (zB N).symm H h11
def wJ (p:zE) (i:Int) (y:(List (List Int))) (out2:List zK) (k0:Int):Option (List zK):=do
 if (decide (k0 < (y.length:Int))) then
  let out5←wI p i y k0 out2 0
  wJ p i y out5 (W (k0 + 1))
 else
  pure (id out2)
 partial_fixpoint
theorem zAy (p:zE) (i:Int) (y:(List (List Int))):∀ (out2:List zK) (k0:Int) (o:List zK),wJ p i y out2 k0=some o→∀ {B}{I0 I:Imm}{Q p1 c p2 c1}{b:Nat}{p7 c6 cs2 p8 c7 cs3},I0.le I→(RL I cs2 y)→(S4 I p1 p.Arrays c)→(S4 I p2 p.Parts c1)→(RL I cs3 out2)→NG Q→NO Q→(∀ (I':Imm) (out3:List zK) (p9:Option Addr) (c8:Nat) (cs4:List Value),o=out3→I0.le I'→(RL I' cs4 out3)→T 54 B Q (.exit 2) I' [hO zK (vS p9 out3 c8) cs4,hB b (cProg p p1 c p2 c1)] [(1,vP b 0),(3,vS p9 out3 c8),(4,vI i)])→J Tryz.prog 54 B (nav (bodyOf Tryz.f65) [1,1,0,1,0,0,1,0,0,1,1,0]) Q I [hO (List Int) (vS p7 y c6) cs2,hO zK (vS p8 out2 c7) cs3,hB b (cProg p p1 c p2 c1)] [(1,vP b 0),(3,vS p8 out2 c7),(4,vI i),(5,vS p7 y c6),(6,vI k0)]:=by
 refine wJ.partial_correctness p i y _ fun self ih out2 k0 o N B I0 I Q p1 c p2 c1 b p7 c6 cs2 p8 c7 cs3 H h8 h h1 h9 hg ho hx=>yR hg ho<|zZ<|yD [27] rfl<|zI<|yB N ?_ ?_
 · intro hc1 N;refine zS<|zX<|yG<|yD [7] rfl<|wB<|qW [(1,vP b 0),(3,vS p8 out2 c7),(4,vI i),(5,vS p7 y c6),(6,vI k0),(7,vI 0)] ?_;obtain ⟨o0,ho0,hMl⟩:=zC N;refine zAx p i y k0 out2 0 o0 ho0 iR h8 h h1 h9 (fun _ _ _ h=>hg _ _ _ h) (fun _ _ h=>ho _ _ h) ?_;intro I02 out5 p11 c10 cs6 heq le2 h12;subst o0;have ⟨h8,h,h1,H⟩:=m4 le2 h8 h h1 H;exact zR<|zO<|zI<|zL<|yJ [] [6] rfl<|yQ<|nO<|ih out5 (W (k0 + 1)) _ hMl H h8 h h1 h12 hg ho hx
 intro hc1 N;exact wY<|wA (zW [1,2] rfl (by decide))<|yO<|hx _ _ _ _ _ (zB N).symm H h9
def wK (p:zE) (out:List zK) (i:Int):Option (List zK):=do
 if (decide (i < (p.Parts.length:Int))) then
  let x←idx p.Parts i
  let y←vL ([]:List (List Int)) x.Nest ([]:List Int)
  let out3←wJ p i y out 0
  wK p out3 (W (i + 1))
 else
  pure (id out)
 partial_fixpoint
theorem zAz (p:zE):∀ (out:List zK) (i:Int) (o:List zK),wK p out i=some o→∀ {B}{I0 I:Imm}{Q p1 c p2 c1}{b:Nat}{p3 c2 cs},I0.le I→(S4 I p1 p.Arrays c)→(S4 I p2 p.Parts c1)→(RL I cs out)→NG Q→NO Q→(∀ (I':Imm) (out1:List zK) (p4:Option Addr) (c3:Nat) (cs1:List Value),o=out1→I0.le I'→(RL I' cs1 out1)→T 54 B Q (.exit 0) I' [hO zK (vS p4 out1 c3) cs1] [(3,vS p4 out1 c3)])→J Tryz.prog 54 B (nav (bodyOf Tryz.f65) [1,1,0,1,0]) Q I [hO zK (vS p3 out c2) cs,hB b (cProg p p1 c p2 c1)] [(1,vP b 0),(3,vS p3 out c2),(4,vI i)]:=by
 refine wK.partial_correctness p _ fun self ih out i o N B I0 I Q p1 c p2 c1 b p3 c2 cs H h h1 h3 hg ho hx=>yR hg ho<|zZ<|yF<|yJ [1] [13] rfl<|zI<|yB N ?_ ?_
 · intro hc N;refine zS<|zX<|yG<|yF<|tJ [] (List Int) ?_;intro b2 hb2;have h5:RL I [] ([]:List (List Int)):=rfl;refine yH 4 [2] [18,19] rfl<|bE N fun x hy N=>xS rfl rfl h1 hy ?_;intro ad ccs hat hrep;obtain ⟨p5,c4,p6,c5,rfl,h6,h7⟩:=tD hrep;refine yH 6 [] [21] rfl<|xL 0 hat [vS p5 x.Nest c4] (vS p5 x.Nest c4) rfl<|bE N fun y hy1 N=>sR (zA2 ([]:List (List Int)) x.Nest ([]:List Int) _ hy1 h5 h6 (SL.nil _)) rfl ?_;rintro I0 hs2 v2 k2 le - ⟨p7,c6,cs2,rfl,rfl,h8⟩ -;have ⟨h3,h,h1,H⟩:=m4 le h3 h h1 H;refine yJ [] [5] rfl<|wW [6] rfl<|wB<|qW [(1,vP b 0),(3,vS p3 out c2),(4,vI i),(5,vS p7 y c6),(6,vI 0)] ?_;obtain ⟨o01,ho01,hMl1⟩:=zC N;refine zAy p i y out 0 o01 ho01 iR h8 h h1 h3 (fun _ _ _ h=>hg _ _ _ h) (fun _ _ h=>ho _ _ h) ?_;intro I03 out3 p9 c8 cs4 heq1 le3 h10;subst o01;have ⟨h,h1,H⟩:=m3 le3 h h1 H;exact zR<|zO<|zI<|zL<|yJ [] [4] rfl<|yQ<|nO<|ih out3 (W (i + 1)) _ hMl1 H h h1 h10 hg ho hx
 intro hc N;exact wY<|wA (zW [0] rfl (by decide))<|yO<|hx _ _ _ _ _ (zB N).symm H h3
def uD (p:zE):Option ((List zK)):=do
 let out1←wK p ([]:List zK) 0
 pure (id out1)
theorem eQ:∀ p r,uD p=some r→∀ {I:Imm}{p1 c p2 c1},(S4 I p1 p.Arrays c)→(S4 I p2 p.Parts c1)→RT 65 [vA (cProg p p1 c p2 c1)] I [] (zBS  r):=by
 intro p r N I p1 c p2 c1 h h1;unfold uD at N;refine yL Tryz.func65 fun B=>yF<|tX (cProg p p1 c p2 c1) ?_;intro b hb;refine vG [] []<|xG<|tJ [] zK ?_;intro b1 hb1;have h2:RL I [] ([]:List zK):=rfl;refine yJ [] [3] rfl<|zX<|yD [4] rfl<|wB<|qW [(1,vP b 0),(3,vS (some ⟨b1,0,none⟩) ([]:List zK) 0),(4,vI 0)] ?_;obtain ⟨o02,ho02,hMl2⟩:=zC N;refine zAz p ([]:List zK) 0 o02 ho02 iR h h1 h2 (fun _ _ _ h=>h) (fun _ _ h=>h) ?_;intro I04 out1 p4 c3 cs1 heq2 le4 h4;subst o02;refine zR<|wW [2] rfl<|xB<|xA 0 rfl ?_;intro I05 le5 hl01;have h21:=SL.of_frozen hl01 le5 h4;obtain rfl:=zB hMl2;exact xC ⟨_,_,(.tmp rfl ResV.nil),zP,⟨_,rfl,rfl,h21⟩⟩
def zEV (r:(List xH)):KT:=fun kk I' hs' v=>
  ∃ v0,hs'=[]∧v=tupV [v0]∧SL I' v0 r
def tN (p:zE) (y:(List zK)) (out:List xH) (i:Int):Option (List xH):=do
 if (decide (i < (y.length:Int))) then
  let x←idx y i
  let x1←idx p.Parts x.Part
  let x2←idx y i
  let x3←idx x1.Body x2.Stmt
  let x4←idx y i
  let (y2,y3,y4)←oG p.Arrays x3 x4.Point
  let out2←app 32 out ([(xH.mk y2 y3)]:List xH)
  tN p y out2 (W (i + 1))
 else
  pure (id out)
 partial_fixpoint
theorem zDb (p:zE) (y:(List zK)):∀ (out:List xH) (i:Int) (o:List xH),tN p y out i=some o→∀ {B}{I0 I:Imm}{Q p1 c p2 c1}{b:Nat}{p3 c2 p4 c3 cs},I0.le I→(S4 I p3 y c2)→(S4 I p1 p.Arrays c)→(S4 I p2 p.Parts c1)→(RL I cs out)→NG Q→NO Q→(∀ (I':Imm) (out1:List xH) (p5:Option Addr) (c4:Nat) (cs1:List Value),o=out1→I0.le I'→(RL I' cs1 out1)→T 54 B Q (.exit 0) I' [hO xH (vS p5 out1 c4) cs1] [(3,vS p5 out1 c4)])→J Tryz.prog 54 B (nav (bodyOf Tryz.f128) [1,1,1,0,1,0]) Q I [hO xH (vS p4 out c3) cs,hB b (cProg p p1 c p2 c1)] [(1,vP b 0),(3,vS p4 out c3),(4,vS p3 y c2),(5,vI i)]:=by
 refine tN.partial_correctness p y _ fun self ih out i o N B I0 I Q p1 c p2 c1 b p3 c2 p4 c3 cs H h3 h h1 h4 hg ho hx=>yR hg ho<|zZ<|yD [15] rfl<|zI<|yB N ?_ ?_
 · intro hc N;refine zS<|zX<|yG<|zZ ?_;obtain ⟨x,hy1,N⟩:=zC N;obtain ⟨x1,hy2,N⟩:=zC N;obtain ⟨x2,hy3,N⟩:=zC N;obtain ⟨x3,hy4,N⟩:=zC N;obtain ⟨x4,hy5,N⟩:=zC N;obtain ⟨⟨y2,y3,y4⟩,hy6,N⟩:=zC N;refine wX [.p (vP b 0) [],.p (vS p1 p.Arrays c) [1],.p (vP b 1) [],.p (vS p2 p.Parts c1) [1],.p (vS p3 y c2) [],.p (vI i) [],.x (ePInst x),.x (ePInst x),.q (vI x.Part),.x (ePPart x1),.x (eQPart 1 x1),.x (eS x1.Body),.p (vS p3 y c2) [],.p (vI i) [],.x (ePInst x2),.x (eQInst 1 x2),.q (vI x2.Stmt),.x (ePStmt x3),.x (eVStmt x3),.p (vS p3 y c2) [],.p (vI i) [],.x (ePInst x4),.x (eQInst 2 x4),.x (eS x4.Point),.x (fun I' v hx=>∃ p15 c14,v=.tuple ⟨[vS p15 y2 c14,vI y3,.bool y4]⟩∧hx=[]∧(S4 I' p15 y2 c14)),.x (fun I' v hx=>∃ p151 c141,v=.tuple ⟨[vS p151 y2 c141,vI y3,.bool y4]⟩∧hx=[]∧(S4 I' p151 y2 c141)),.x (eS y2),.q (vI y3),.q (.bool y4),.x (eS y2),.p (vI y3) []] [[],[(0,false)],[],[(2,false)],[],[],[(4,false),(5,false)],[(6,false)],[(7,false)],[(3,false),(8,false)],[(9,false)],[(10,false)],[],[],[(12,false),(13,false)],[(14,false)],[(15,false)],[(11,false),(16,false)],[(17,false)],[],[],[(19,false),(20,false)],[(21,false)],[(22,false)],[(1,false),(18,false),(23,false)],[(24,false)],[(25,false)],[(25,false)],[(25,false)],[(26,false)],[(27,false)]] [hO xH (vS p4 out c3) cs,hB b (cProg p p1 c p2 c1)] [] [(28,false),(29,false),(30,false)] (zY [0,1]) ?_ ?_
   · refine Op<|Op<|Op<|Op<|Op<|Op<|Ox ?_<|Ox ?_<|Oq ?_<|Ox ?_<|Ox ?_<|Ox ?_<|Op<|Op<|Ox ?_<|Ox ?_<|Oq ?_<|Ox ?_<|Ox ?_<|Op<|Op<|Ox ?_<|Ox ?_<|Ox ?_<|Ox ?_<|Ox ?_<|Ox ?_<|Oq ?_<|Oq ?_<|Ox ?_<|Op<|On
     · intro I1 hf le1;refine yS [23,24] rfl ?_;have h3:=h3.mono le1;refine xS rfl rfl h3 hy1 ?_;intro ad ccs hat hrep;obtain ⟨p6,c5,rfl,h6⟩:=rQ hrep;exact yK [] iR ⟨_,_,_,rfl,rfl,hat,h6⟩
     · rintro I1 hf le1 _ _ ⟨ad,p6,c5,rfl,rfl,hat,h6⟩;exact yS [25] rfl<|oH 8 [(26,.pointer (some ad))]<|yK [] iR ⟨_,_,_,rfl,rfl,hat,h6⟩
     · rintro I1 hf le1 _ _ ⟨ad1,p61,c51,rfl,rfl,hat1,h61⟩;exact yS [26] rfl<|xL 0 hat1 [vI x.Part] (vI x.Part) rfl<|xF iR
     · intro I1 hf le1;refine yS [22,27] rfl ?_;have h1:=h1.mono le1;refine xS rfl rfl h1 hy2 ?_;intro ad2 ccs1 hat2 hrep1;obtain ⟨p7,c6,p8,c7,rfl,h7,h8⟩:=tD hrep1;exact yK [] iR ⟨_,_,_,_,_,rfl,rfl,hat2,h7,h8⟩
     · rintro I1 hf le1 _ _ ⟨ad2,p7,c6,p8,c7,rfl,rfl,hat2,h7,h8⟩;exact yS [28] rfl<|oH 11 [(29,.pointer (some (ad2.add 1)))]<|yK [] iR ⟨_,_,_,_,_,rfl,rfl,hat2,h7,h8⟩
     · rintro I1 hf le1 _ _ ⟨ad21,p71,c61,p81,c71,rfl,rfl,hat21,h71,h81⟩;exact yS [29] rfl<|xL 1 hat21 [vS p81 x1.Body c71] (vS p81 x1.Body c71) rfl<|yK [] iR ⟨_,_,rfl,rfl,h81⟩
     · intro I1 hf le1;refine yS [31,32] rfl ?_;have h3:=h3.mono le1;refine xS rfl rfl h3 hy3 ?_;intro ad3 ccs2 hat3 hrep2;obtain ⟨p9,c8,rfl,h9⟩:=rQ hrep2;exact yK [] iR ⟨_,_,_,rfl,rfl,hat3,h9⟩
     · rintro I1 hf le1 _ _ ⟨ad3,p9,c8,rfl,rfl,hat3,h9⟩;exact yS [33] rfl<|oH 16 [(34,.pointer (some (ad3.add 1)))]<|yK [] iR ⟨_,_,_,rfl,rfl,hat3,h9⟩
     · rintro I1 hf le1 _ _ ⟨ad31,p91,c81,rfl,rfl,hat31,h91⟩;exact yS [34] rfl<|xL 1 hat31 [vI x2.Stmt] (vI x2.Stmt) rfl<|xF iR
     · rintro I1 hf le1 _ _ ⟨p811,c711,rfl,rfl,h811⟩;refine yS [30,35] rfl<|xS rfl rfl h811 hy4 ?_;intro ad4 ccs3 hat4 hrep3;obtain ⟨p10,c9,p11,c10,p12,c11,p13,c12,rfl,h10,h11,h12,h13⟩:=qC hrep3;exact yK [] iR ⟨_,_,_,_,_,_,_,_,_,rfl,rfl,hat4,h10,h11,h12,h13⟩
     · rintro I1 hf le1 _ _ ⟨ad4,p10,c9,p11,c10,p12,c11,p13,c12,rfl,rfl,hat4,h10,h11,h12,h13⟩;exact yS [36] rfl<|xL 0 hat4 (cStmt x3 p10 c9 p11 c10 p12 c11 p13 c12) (vA (cStmt x3 p10 c9 p11 c10 p12 c11 p13 c12)) rfl<|yK [] iR ⟨_,_,_,_,_,_,_,_,rfl,rfl,h10,h11,h12,h13⟩
     · intro I1 hf le1;refine yS [38,39] rfl ?_;have h3:=h3.mono le1;refine xS rfl rfl h3 hy5 ?_;intro ad5 ccs4 hat5 hrep4;obtain ⟨p14,c13,rfl,h14⟩:=rQ hrep4;exact yK [] iR ⟨_,_,_,rfl,rfl,hat5,h14⟩
     · rintro I1 hf le1 _ _ ⟨ad5,p14,c13,rfl,rfl,hat5,h14⟩;exact yS [40] rfl<|oH 23 [(41,.pointer (some (ad5.add 2)))]<|yK [] iR ⟨_,_,_,rfl,rfl,hat5,h14⟩
     · rintro I1 hf le1 _ _ ⟨ad51,p141,c131,rfl,rfl,hat51,h141⟩;exact yS [41] rfl<|xL 2 hat51 [vS p141 x4.Point c131] (vS p141 x4.Point c131) rfl<|yK [] iR ⟨_,_,rfl,rfl,h141⟩
     · rintro I1 hf le1 _ _ ⟨rfl,rfl⟩ _ _ ⟨p101,c91,p111,c101,p121,c111,p131,c121,rfl,rfl,h101,h111,h121,h131⟩ _ _ ⟨p1411,c1311,rfl,rfl,h1411⟩;refine yS [20,37,42] rfl ?_;have H:=iS I1;have h:=h.mono le1;refine xV (zBJ p.Arrays x3 x4.Point _ hy6 h h101 h111 h121 h131 h1411) ?_;rintro I01 hs2 v2 k2 le1 - ⟨v010,v011,v012,rfl,rfl,h15,rfl,rfl⟩ -;have H:=H.trans le1;obtain ⟨p15,c14,rfl⟩:=h15.form;exact yK [] H ⟨_,_,rfl,rfl,h15⟩
     · rintro I1 hf le1 _ _ ⟨p15,c14,rfl,rfl,h15⟩;exact yS [43] rfl<|oH 26 [(18,.tuple ⟨[vS p15 y2 c14,vI y3,.bool y4]⟩)]<|yK [] iR ⟨_,_,rfl,rfl,h15⟩
     · rintro I1 hf le1 _ _ ⟨p151,c141,rfl,rfl,h151⟩;exact yS [18] rfl<|oH 27 [(44,vS p151 y2 c141)]<|yK [] iR ⟨_,_,rfl,rfl,h151⟩
     · rintro I1 hf le1 _ _ ⟨p151,c141,rfl,rfl,h151⟩;exact yS [18] rfl<|oH 28 [(45,vI y3)]<|xF iR
     · rintro I1 hf le1 _ _ ⟨p151,c141,rfl,rfl,h151⟩;exact yS [18] rfl<|oH 29 [(46,.bool y4)]<|xF iR
     rintro I1 hf le1 _ _ ⟨p1511,c1411,rfl,rfl,h1511⟩;exact yS [44] rfl<|oH 30 [(6,vS p1511 y2 c1411)]<|yK [] iR ⟨_,_,rfl,rfl,h1511⟩
   rintro I02 le2 _ _ ⟨rfl,rfl⟩ _ _ ⟨p15111,c14111,rfl,rfl,h15111⟩;refine yS [1,3,4,5,6,7,46] rfl ?_;have ⟨h4,h3,h,h1,H⟩:=m5 le2 h4 h3 h h1 H;refine vG [] []<|zI<|zL<|yH 4 [] [47,50] rfl<|tJ [vS p15111 y2 c14111,vI y3] xH ?_;intro b2 hb2;have h18:RL I02 [vS p15111 y2 c14111,vI y3] ([(xH.mk y2 y3)]:List xH):=⟨[vS p15111 y2 c14111,vI y3],_,rfl,rfl,(zEh ⟨_,rfl,h15111⟩),rfl⟩;obtain ⟨out2,hy7,N⟩:=zC N;exact qB 158 2 1 rfl rfl rfl h4 (.inr ⟨0,rfl⟩) h18 hy7 fun p16 c15 cs2 h19=>rW (zY [1,2] (hs':=[hO xH (vS p16 out2 c15) cs2,hB b (cProg p p1 c p2 c1)]))<|yJ [] [3] rfl<|zO<|zI<|zL<|yJ [] [5] rfl<|yQ<|nO<|ih out2 (W (i + 1)) _ N H h3 h h1 h19 hg ho hx
 intro hc N;exact wY<|wA (zW [0] rfl (by decide))<|yO<|hx _ _ _ _ _ (zB N).symm H h4
def mR (p:zE):Option ((List xH)):=do
 let y←uD p
 let out1←tN p y ([]:List xH) 0
 pure (id out1)
theorem zFr:∀ p r,mR p=some r→∀ {I:Imm}{p1 c p2 c1},(S4 I p1 p.Arrays c)→(S4 I p2 p.Parts c1)→RT 128 [vA (cProg p p1 c p2 c1)] I [] (zEV  r):=by
 intro p r N I p1 c p2 c1 h h1;unfold mR at N;refine yL Tryz.func128 fun B=>yF<|tX (cProg p p1 c p2 c1) ?_;intro b hb;refine vG [] []<|xG<|tJ [] xH ?_;intro b1 hb1;have h2:RL I [] ([]:List xH):=rfl;refine yJ [] [3] rfl<|xG<|oD 1 [1] [(10,vA (cProg p p1 c p2 c1))]<|bE N fun y hy N=>xV (eQ p _ hy h h1) ?_;rintro I0 hs2 v2 k2 le - ⟨v0,rfl,rfl,h3⟩ -;have ⟨h2,h,h1⟩:=m3 le h2 h h1;obtain ⟨p3,c2,rfl⟩:=h3.form;refine yJ [] [4] rfl<|zX<|yD [5] rfl<|wB<|qW [(1,vP b 0),(3,vS (some ⟨b1,0,none⟩) ([]:List xH) 0),(4,vS p3 y c2),(5,vI 0)] ?_;obtain ⟨o0,ho0,hMl⟩:=zC N;refine zDb p y ([]:List xH) 0 o0 ho0 iR h3 h h1 h2 (fun _ _ _ h=>h) (fun _ _ h=>h) ?_;intro I03 out1 p5 c4 cs1 heq le3 h5;subst o0;refine zR<|wW [2] rfl<|xB<|xA 0 rfl ?_;intro I04 le4 hl0;have h20:=SL.of_frozen hl0 le4 h5;obtain rfl:=zB hMl;exact xC ⟨_,_,(.tmp rfl ResV.nil),zP,⟨_,rfl,rfl,h20⟩⟩
def oR (list:(List Int)) (n0:Int) (i:Int):Option (Out Unit (Bool)):=do
 if (decide (i < (list.length:Int))) then
  let x←idx list i
  if (x == n0) then
   pure (.ret true)
  else
   oR list n0 (W (i + 1))
 else
  pure (.done ())
 partial_fixpoint
theorem zEW (list:(List Int)) (n0:Int):∀ (i:Int) (o:Out Unit (Bool)),oR list n0 i=some o→∀ {B}{I0 I:Imm}{Q p c},I0.le I→(S4 I p list c)→NG Q→NO Q→(∀ (I':Imm) ,o=(.done ())→I0.le I'→T 18 B Q (.exit 0) I' [] [])→(∀ r I' hs' m',o=(.ret r)→I0.le I'→RS Tryz.prog Tryz.f175 B (zT  r) I' hs' m'→T 18 B Q .ret I' hs' m')→J Tryz.prog 18 B (nav (bodyOf Tryz.f175) [1,0,1,0]) Q I [] [(0,vS p list c),(1,vI n0),(5,vI i)]:=by
 refine oR.partial_correctness list n0 _ fun self ih i o N B I0 I Q p c H h hg ho hx hr=>yR hg ho<|zZ<|yD [9] rfl<|zI<|yB N ?_ ?_
 · intro hc N;refine zS<|zX<|yG<|yF<|yH 2 [] [12,13] rfl<|bE N fun x hy N=>xS rfl rfl h hy ?_;intro ad ccs hat hrep;obtain rfl:=hrep;refine xL 0 hat [vI x] (vI x) rfl<|yJ [] [17] rfl<|zI<|yB N ?_ ?_
   · intro hc1 N;exact wV [(4,vY)]<|xB<|zU<|zF<|zF<|hr _ _ _ _ (zB N).symm H ⟨_,_,(.tmp rfl ResV.nil),zP,⟨_,rfl,rfl,rfl⟩⟩
   intro hc1 N;exact zS<|zO<|zI<|zL<|yJ [] [5] rfl<|yQ<|nO<|ih (W (i + 1)) _ N H h hg ho hx hr
 intro hc N;exact wY<|yO<|hx _  (zB N).symm H
def jV (list:(List Int)) (n0:Int):Option (Bool):=do
 match←oR list n0 0 with
 | .ret r0=>pure r0
 | .done _ =>
  pure false
theorem zCP:∀ list n0 r,jV list n0=some r→∀ {I:Imm}{p c},(S4 I p list c)→RT 175 [vS p list c,vI n0] I [] (zT  r):=by
 intro list n0 r N I p c h;unfold jV at N;refine yL Tryz.func175 fun B=>wV []<|zX<|yD [5] rfl<|wB<|qW [(0,vS p list c),(1,vI n0),(5,vI 0)] ?_;obtain ⟨o0,ho0,hMl⟩:=zC N;refine zEW list n0 0 o0 ho0 iR h (fun _ _ _ h=>h) (fun _ _ h=>h) ?_ ?_
 · intro I0  heq le;subst o0;refine zR<|zDB [(4,vF)]<|zI<|yZ ?_;obtain rfl:=zB hMl;exact wL
 intro r0 I9 hs9 m9 heq9 le9 hrs9;subst heq9;refine zU<|zF ?_;obtain rfl:=zB hMl;exact xC hrs9
def jN (a0:xH) (b:xH):Option (Int):=do
 let y←jV b.reads a0.write
 let n0←(do
   if y then
    pure (W (0 + 1))
   else
    pure (id 0)
     : Option Int)
 let y1←jV a0.reads b.write
 let n01←(do
   if y1 then
    pure (W (n0 + 2))
   else
    pure (id n0)
     : Option Int)
 let n02←(do
   if (a0.write == b.write) then
    pure (W (n01 + 4))
   else
    pure (id n01)
     : Option Int)
 pure (id n02)
theorem zEy:∀ a0 b r,jN a0 b=some r→∀ {I:Imm}{p c p1 c1},(S4 I p a0.reads c)→(S4 I p1 b.reads c1)→RT 129 [vA [vS p a0.reads c,vI a0.write],vA [vS p1 b.reads c1,vI b.write]] I [] (yP  r):=by
 intro a0 b r N I p c p1 c1 h h1;unfold jN at N;refine yL Tryz.func129 fun B=>?_;have H:=iS I;refine yF<|tX [vS p a0.reads c,vI a0.write] ?_;intro b1 hb;refine tX [vS p1 b.reads c1,vI b.write] ?_;intro b2 hb1;refine vG [] []<|wW [5] rfl<|zX<|yF<|yH 4 [0,1] [7,9] rfl<|bE N fun y hy N=>uH (zCP b.reads a0.write _ hy h1) ?_;intro I0 le;have ⟨h,H⟩:=m2 le h H;refine yE rfl<|zI ?_;refine wP N [hB b2 [vS p1 b.reads c1,vI b.write],hB b1 [vS p a0.reads c,vI a0.write]] (fun n0=>[(2,vP b1 0),(3,vP b2 0),(5,vI n0)]) (fun o0 ho0=>?_) ?_
 · have H:=iS I0;refine yB ho0 ?_ ?_
   · intro hc N;exact zL<|yJ [] [5] rfl<|yO<|zV (ct N H)
   intro hc N;exact zS<|yO<|zV (ct N H)
 intro n0 I01 le1 hMc;have ⟨h,H⟩:=m2 le1 h H;refine zX<|yF<|yH 4 [1,0] [14,16] rfl ?_;obtain ⟨y1,hy1,N⟩:=zC hMc;refine uH (zCP a0.reads b.write _ hy1 h) ?_;intro I02 le2;have H:=H.trans le2;refine yE rfl<|zI ?_;refine wP N [hB b2 [vS p1 b.reads c1,vI b.write],hB b1 [vS p a0.reads c,vI a0.write]] (fun n01=>[(2,vP b1 0),(3,vP b2 0),(5,vI n01)]) (fun o01 ho01=>?_) ?_
 · have H:=iS I02;refine yB ho01 ?_ ?_
   · intro hc1 N;exact zL<|yJ [] [5] rfl<|yO<|zV (ct N H)
   intro hc1 N;exact zS<|yO<|zV (ct N H)
 intro n01 I03 le3 hMc1;have H:=H.trans le3;refine zX<|yF<|yJ [1,0] [24] rfl<|zI ?_;refine wP hMc1 [] (fun n02=>[(5,vI n02)]) (fun o02 ho02=>?_) ?_
 · have H:=iS I03;refine yB ho02 ?_ ?_
   · intro hc2 N;exact zL<|yJ [] [5] rfl<|wA zP<|yO<|zV (ct N H)
   intro hc2 N;exact zS<|wA zP<|yO<|zV (ct N H)
 intro n02 I04 le4 hMc2;refine wW [4] rfl<|zI<|yZ ?_;obtain rfl:=zB hMc2;exact wL
def pS (y:(List xH)) (i:Int) (out2:List yC) (k0:Int):Option (List yC):=do
 if (decide (k0 < (y.length:Int))) then
  let x←idx y i
  let x1←idx y k0
  let y1←jN x x1
  let out4←(do
    if (y1 != 0) then
     let out5←app 24 out2 ([(yC.mk i k0 y1)]:List yC)
     pure (id out5)
    else
     pure (id out2)
      : Option (List yC))
  pS y i out4 (W (k0 + 1))
 else
  pure (id out2)
 partial_fixpoint
theorem zDc (y:(List xH)) (i:Int):∀ (out2:List yC) (k0:Int) (o:List yC),pS y i out2 k0=some o→∀ {B}{I0 I:Imm}{Q p3 c2 p6 c5 cs2},I0.le I→(S4 I p3 y c2)→(RL I cs2 out2)→NG Q→NO Q→(∀ (I':Imm) (out3:List yC) (p7:Option Addr) (c6:Nat) (cs3:List Value),o=out3→I0.le I'→(RL I' cs3 out3)→T 44 B Q (.exit 2) I' [hO yC (vS p7 out3 c6) cs3] [(3,vS p7 out3 c6),(4,vS p3 y c2),(5,vI i)])→J Tryz.prog 44 B (nav (bodyOf Tryz.f82) [1,1,1,0,1,0,0,1,0,0,1,0]) Q I [hO yC (vS p6 out2 c5) cs2] [(3,vS p6 out2 c5),(4,vS p3 y c2),(5,vI i),(6,vI k0)]:=by
 refine pS.partial_correctness y i _ fun self ih out2 k0 o N B I0 I Q p3 c2 p6 c5 cs2 H h3 h6 hg ho hx=>yR hg ho<|zZ<|yD [22] rfl<|zI<|yB N ?_ ?_
 · intro hc1 N;refine zS<|zX<|yG<|zZ ?_;obtain ⟨x,hy1,N⟩:=zC N;obtain ⟨x1,hy2,N⟩:=zC N;obtain ⟨y1,hy3,N⟩:=zC N;refine wX [.p (vS p3 y c2) [],.p (vI i) [],.x (fun I' v hx=>∃ ad p8 c7,v=.pointer (some ad)∧hx=[]∧(At I' ad [vS p8 x.reads c7,vI x.write])∧(S4 I' p8 x.reads c7)),.x (fun I' v hx=>∃ p81 c71,v=vA [vS p81 x.reads c71,vI x.write]∧hx=[]∧(S4 I' p81 x.reads c71)),.p (vS p3 y c2) [],.p (vI k0) [],.x (fun I' v hx=>∃ ad1 p9 c8,v=.pointer (some ad1)∧hx=[]∧(At I' ad1 [vS p9 x1.reads c8,vI x1.write])∧(S4 I' p9 x1.reads c8)),.x (fun I' v hx=>∃ p91 c81,v=vA [vS p91 x1.reads c81,vI x1.write]∧hx=[]∧(S4 I' p91 x1.reads c81)),.q (vI y1)] [[],[],[(0,false),(1,false)],[(2,false)],[],[],[(4,false),(5,false)],[(6,false)],[(3,false),(7,false)]] [hO yC (vS p6 out2 c5) cs2] [] [(8,false)] (zY [0]) ?_ ?_
   · refine Op<|Op<|Ox ?_<|Ox ?_<|Op<|Op<|Ox ?_<|Ox ?_<|Oq ?_<|On
     · intro I1 hf le1;refine yS [25,26] rfl ?_;have h3:=h3.mono le1;refine xS rfl rfl h3 hy1 ?_;intro ad ccs hat hrep;obtain ⟨p8,c7,rfl,h8⟩:=zCN hrep;exact yK [] iR ⟨_,_,_,rfl,rfl,hat,h8⟩
     · rintro I1 hf le1 _ _ ⟨ad,p8,c7,rfl,rfl,hat,h8⟩;exact yS [27] rfl<|xL 0 hat [vS p8 x.reads c7,vI x.write] (vA [vS p8 x.reads c7,vI x.write]) rfl<|yK [] iR ⟨_,_,rfl,rfl,h8⟩
     · intro I1 hf le1;refine yS [29,30] rfl ?_;have h3:=h3.mono le1;refine xS rfl rfl h3 hy2 ?_;intro ad1 ccs1 hat1 hrep1;obtain ⟨p9,c8,rfl,h9⟩:=zCN hrep1;exact yK [] iR ⟨_,_,_,rfl,rfl,hat1,h9⟩
     · rintro I1 hf le1 _ _ ⟨ad1,p9,c8,rfl,rfl,hat1,h9⟩;exact yS [31] rfl<|xL 0 hat1 [vS p9 x1.reads c8,vI x1.write] (vA [vS p9 x1.reads c8,vI x1.write]) rfl<|yK [] iR ⟨_,_,rfl,rfl,h9⟩
     rintro I1 hf le1 _ _ ⟨p81,c71,rfl,rfl,h81⟩ _ _ ⟨p91,c81,rfl,rfl,h91⟩;refine yS [28,32] rfl ?_;have H:=iS I1;refine jD (zEy x x1 _ hy3 h81 h91) ?_;intro I01 le1;have H:=H.trans le1;exact xF H
   intro I02 le2;refine yS [3,4,5,6,33] rfl ?_;have ⟨h6,h3,H⟩:=m3 le2 h6 h3 H;refine yJ [] [7] rfl<|wW [35] rfl<|zI ?_;obtain ⟨o0,ho0,hMc⟩:=zC N;refine oC (fun I' hs' m'=>∃ (out4:List yC) (p10:Option Addr) (c9:Nat) (cs4:List Value),o0=out4∧I02.le I'∧(RL I' cs4 out4)∧hs'=[hO yC (vS p10 out4 c9) cs4]∧m'=[(3,vS p10 out4 c9),(4,vS p3 y c2),(5,vI i),(6,vI k0)]) ?_ ?_
   · have H:=iS I02;refine yB ho0 ?_ ?_
     · intro hc2 N;refine zL<|yH 5 [] [36,40] rfl<|tJ [vI i,vI k0,vI y1] yC ?_;intro b2 hb2;have h12:RL I02 [vI i,vI k0,vI y1] ([(yC.mk i k0 y1)]:List yC):=⟨[vI i,vI k0,vI y1],_,rfl,rfl,(zCM rfl),rfl⟩;obtain ⟨out5,hy4,N⟩:=zC N;exact qB 67 3 1 rfl rfl rfl h6 (.inr ⟨0,rfl⟩) h12 hy4 fun p11 c10 cs5 h13=>rW (zY [1] (hs':=[hO yC (vS p11 out5 c10) cs5]))<|yJ [] [3] rfl<|yO<|zV ⟨_,_,_,_,(zB N).symm,H,h13,rfl,rfl⟩
     intro hc2 N;exact zS<|yO<|zV ⟨_,_,_,_,(zB N).symm,H,h6,rfl,rfl⟩
   rintro I03 hs2 m2 ⟨out4,p10,c9,cs4,heq,le3,h11,rfl,rfl⟩;subst o0;have ⟨h3,H⟩:=m2 le3 h3 H;exact zO<|zI<|zL<|yJ [] [6] rfl<|yQ<|nO<|ih out4 (W (k0 + 1)) _ hMc H h3 h11 hg ho hx
 intro hc1 N;exact wY<|yO<|hx _ _ _ _ _ (zB N).symm H h6
def pT (y:(List xH)) (out:List yC) (i:Int):Option (List yC):=do
 if (decide (i < (y.length:Int))) then
  let out3←pS y i out (W (i + 1))
  pT y out3 (W (i + 1))
 else
  pure (id out)
 partial_fixpoint
theorem zDd (y:(List xH)):∀ (out:List yC) (i:Int) (o:List yC),pT y out i=some o→∀ {B}{I0 I:Imm}{Q p3 c2 p4 c3 cs},I0.le I→(S4 I p3 y c2)→(RL I cs out)→NG Q→NO Q→(∀ (I':Imm) (out1:List yC) (p5:Option Addr) (c4:Nat) (cs1:List Value),o=out1→I0.le I'→(RL I' cs1 out1)→T 44 B Q (.exit 0) I' [hO yC (vS p5 out1 c4) cs1] [(3,vS p5 out1 c4)])→J Tryz.prog 44 B (nav (bodyOf Tryz.f82) [1,1,1,0,1,0]) Q I [hO yC (vS p4 out c3) cs] [(3,vS p4 out c3),(4,vS p3 y c2),(5,vI i)]:=by
 refine pT.partial_correctness y _ fun self ih out i o N B I0 I Q p3 c2 p4 c3 cs H h3 h4 hg ho hx=>yR hg ho<|zZ<|yD [14] rfl<|zI<|yB N ?_ ?_
 · intro hc N;refine zS<|zX<|yG<|yD [6] rfl<|wB<|qW [(3,vS p4 out c3),(4,vS p3 y c2),(5,vI i),(6,vI (W (i + 1)))] ?_;obtain ⟨o01,ho01,hMl⟩:=zC N;refine zDc y i out (W (i + 1)) o01 ho01 iR h3 h4 (fun _ _ _ h=>hg _ _ _ h) (fun _ _ h=>ho _ _ h) ?_;intro I04 out3 p7 c6 cs3 heq1 le4 h7;subst o01;have ⟨h3,H⟩:=m2 le4 h3 H;exact zR<|zO<|zI<|zL<|yJ [] [5] rfl<|yQ<|nO<|ih out3 (W (i + 1)) _ hMl H h3 h7 hg ho hx
 intro hc N;exact wY<|yO<|hx _ _ _ _ _ (zB N).symm H h4
def gK (p:zE):Option ((List yC)):=do
 let y←mR p
 let out1←pT y ([]:List yC) 0
 pure (id out1)
theorem zFs:∀ p r,gK p=some r→∀ {I:Imm}{p1 c p2 c1},(S4 I p1 p.Arrays c)→(S4 I p2 p.Parts c1)→RT 82 [vA (cProg p p1 c p2 c1)] I [] (fL  r):=by
 intro p r N I p1 c p2 c1 h h1;unfold gK at N;refine yL Tryz.func82 fun B=>yF<|tX (cProg p p1 c p2 c1) ?_;intro b hb;refine vG [] []<|xG<|tJ [] yC ?_;intro b1 hb1;have h2:RL I [] ([]:List yC):=rfl;refine yJ [] [3] rfl<|xG<|oD 1 [1] [(9,vA (cProg p p1 c p2 c1))]<|bE N fun y hy N=>xV (zFr p _ hy h h1) ?_;rintro I0 hs2 v2 k2 le - ⟨v0,rfl,rfl,h3⟩ -;have ⟨h2,h⟩:=m2 le h2 h;obtain ⟨p3,c2,rfl⟩:=h3.form;refine yJ [] [4] rfl<|zX<|yD [5] rfl<|wB<|jR (zY [0] (hs':=[hO yC (vS (some ⟨b1,0,none⟩) ([]:List yC) 0) []]))<|qW [(3,vS (some ⟨b1,0,none⟩) ([]:List yC) 0),(4,vS p3 y c2),(5,vI 0)] ?_;obtain ⟨o02,ho02,hMl1⟩:=zC N;refine zDd y ([]:List yC) 0 o02 ho02 iR h3 h2 (fun _ _ _ h=>h) (fun _ _ h=>h) ?_;intro I05 out1 p5 c4 cs1 heq2 le5 h5;subst o02;refine zR<|wW [2] rfl<|xB<|xA 0 rfl ?_;intro I06 le6 hl0;have h14:=SL.of_frozen hl0 le6 h5;obtain rfl:=zB hMl1;exact xC ⟨_,_,(.tmp rfl ResV.nil),zP,⟨_,rfl,rfl,h14⟩⟩
def pU (a0:(List Int)) (b:(List Int)) (i:Int):Option (Out Unit (Bool)):=do
 if (decide (i < (a0.length:Int))) then
  let x←idx a0 i
  let x1←idx b i
  if (x != x1) then
   pure (.ret false)
  else
   pU a0 b (W (i + 1))
 else
  pure (.done ())
 partial_fixpoint
theorem zDe (a0:(List Int)) (b:(List Int)):∀ (i:Int) (o:Out Unit (Bool)),pU a0 b i=some o→∀ {B}{I0 I:Imm}{Q p c p1 c1},I0.le I→(S4 I p a0 c)→(S4 I p1 b c1)→NG Q→NO Q→(∀ (I':Imm) ,o=(.done ())→I0.le I'→T 26 B Q (.exit 0) I' [] [])→(∀ r I' hs' m',o=(.ret r)→I0.le I'→RS Tryz.prog Tryz.f120 B (zT  r) I' hs' m'→T 26 B Q .ret I' hs' m')→J Tryz.prog 26 B (nav (bodyOf Tryz.f120) [1,1,0,1,0]) Q I [] [(0,vS p a0 c),(1,vS p1 b c1),(5,vI i)]:=by
 refine pU.partial_correctness a0 b _ fun self ih i o N B I0 I Q p c p1 c1 H h h1 hg ho hx hr=>yR hg ho<|zZ<|yD [14] rfl<|zI<|yB N ?_ ?_
 · intro hc1 N;refine zS<|zX<|yG<|zZ<|nH (by kernel_rfl) (by kernel_rfl)<|jY 2 [] [17,18] rfl<|bE N fun x hy N=>gW rfl rfl h hy ?_;intro ad ccs hat hrep;obtain rfl:=hrep;refine jX 0 hat [vI x] (vI x) rfl<|jY 6 [] [21,22] rfl<|bE N fun x1 hy1 N=>gW rfl rfl h1 hy1 ?_;intro ad1 ccs1 hat1 hrep1;obtain rfl:=hrep1;refine jX 0 hat1 [vI x1] (vI x1) rfl<|zEi [] [25] rfl<|zI<|yB N ?_ ?_
   · intro hc2 N;exact wV [(4,vF)]<|xB<|zU<|zF<|zF<|hr _ _ _ _ (zB N).symm H ⟨_,_,(.tmp rfl ResV.nil),zP,⟨_,rfl,rfl,rfl⟩⟩
   intro hc2 N;exact zS<|zO<|zI<|zL<|yJ [] [5] rfl<|yQ<|nO<|ih (W (i + 1)) _ N H h h1 hg ho hx hr
 intro hc1 N;exact wY<|yO<|hx _  (zB N).symm H
def gL (a0:(List Int)) (b:(List Int)):Option (Bool):=do
 if ((a0.length:Int) != (b.length:Int)) then
  pure false
 else
  match←pU a0 b 0 with
  | .ret r0=>pure r0
  | .done _ =>
   pure true
theorem zFt:∀ a0 b r,gL a0 b=some r→∀ {I:Imm}{p c p1 c1},(S4 I p a0 c)→(S4 I p1 b c1)→RT 120 [vS p a0 c,vS p1 b c1] I [] (zT  r):=by
 intro a0 b r N I p c p1 c1 h h1;unfold gL at N;refine yL Tryz.func120 fun B=>wV []<|zX<|yD [10] rfl<|zI<|yB N ?_ ?_
 · intro hc N;refine wV [(4,vF)]<|xB<|zF ?_;obtain rfl:=zB N;exact wL
 intro hc N;refine zS<|zX<|yD [5] rfl<|wB<|qW [(0,vS p a0 c),(1,vS p1 b c1),(5,vI 0)] ?_;obtain ⟨o0,ho0,hMl⟩:=zC N;refine zDe a0 b 0 o0 ho0 iR h h1 (fun _ _ _ h=>h) (fun _ _ h=>h) ?_ ?_
 · intro I0  heq le;subst o0;refine zR<|zDB [(4,vY)]<|zI<|yZ ?_;obtain rfl:=zB hMl;exact wL
 intro r0 I9 hs9 m9 heq9 le9 hrs9;subst heq9;refine zU<|zF ?_;obtain rfl:=zB hMl;exact xC hrs9
def sZ (p:(List Int)) (q:(List Int)) (i:Int):Option (Out Unit (Bool)):=do
 let t15←(do
   if (decide (i < (p.length:Int))) then
    pure (decide (i < (q.length:Int)))
   else
    pure false
     : Option Bool)
 if t15 then
  let x←idx p i
  let x1←idx q i
  if (x != x1) then
   let x2←idx p i
   let x3←idx q i
   pure (.ret (decide (x2 < x3)))
  else
   sZ p q (W (i + 1))
 else
  pure (.done ())
 partial_fixpoint
theorem zCj (p:(List Int)) (q:(List Int)):∀ (i:Int) (o:Out Unit (Bool)),sZ p q i=some o→∀ {B}{I0 I:Imm}{Q p1 c p2 c1},I0.le I→(S4 I p1 p c)→(S4 I p2 q c1)→NG Q→NO Q→(∀ (I':Imm) ,o=(.done ())→I0.le I'→T 41 B Q (.exit 0) I' [] [(0,vS p1 p c),(1,vS p2 q c1)])→(∀ r I' hs' m',o=(.ret r)→I0.le I'→RS Tryz.prog Tryz.f182 B (zT  r) I' hs' m'→T 41 B Q .ret I' hs' m')→J Tryz.prog 41 B (nav (bodyOf Tryz.f182) [1,0,1,0]) Q I [] [(0,vS p1 p c),(1,vS p2 q c1),(5,vI i)]:=by
 refine sZ.partial_correctness p q _ fun self ih i o N B I0 I Q p1 c p2 c1 H h h1 hg ho hx hr=>yR hg ho<|zZ<|zZ ?_;refine wP N [] (fun t15=>[(0,vS p1 p c),(1,vS p2 q c1),(5,vI i),(15,.bool t15)]) (fun o0 ho0=>?_) ?_
 · have H:=iS I;refine zL<|yH 5 [] [10] rfl<|xZ [10] ho0 ?_ ?_
   · intro hc N;exact yJ [] [15] rfl<|yO<|zV (ct N H)
   intro hc N;exact vG [] [(15,vF)]<|yO<|zV (ct N H)
 intro t15 I0 le hMc;have ⟨h,h1,H⟩:=m3 le h h1 H;refine zI<|yB hMc ?_ ?_
 · intro hc1 N;refine zS<|zX<|yG<|zZ<|nH (by kernel_rfl) (by kernel_rfl)<|jY 2 [] [18,19] rfl<|bE N fun x hy N=>gW rfl rfl h hy ?_;intro ad ccs hat hrep;obtain rfl:=hrep;refine jX 0 hat [vI x] (vI x) rfl<|jY 6 [] [22,23] rfl<|bE N fun x1 hy1 N=>gW rfl rfl h1 hy1 ?_;intro ad1 ccs1 hat1 hrep1;obtain rfl:=hrep1;refine jX 0 hat1 [vI x1] (vI x1) rfl<|zEi [] [26] rfl<|zI<|yB N ?_ ?_
   · intro hc2 N;refine zZ<|nH (by kernel_rfl) (by kernel_rfl)<|jY 2 [] [27,28] rfl<|bE N fun x2 hy2 N=>gW rfl rfl h hy2 ?_;intro ad2 ccs2 hat2 hrep2;obtain rfl:=hrep2;refine jX 0 hat2 [vI x2] (vI x2) rfl<|jY 6 [] [31,32] rfl<|bE N fun x3 hy3 N=>gW rfl rfl h1 hy3 ?_;intro ad3 ccs3 hat3 hrep3;obtain rfl:=hrep3;exact jX 0 hat3 [vI x3] (vI x3) rfl<|zEi [] [4] rfl<|xB<|zU<|zF<|zF<|hr _ _ _ _ (zB N).symm H ⟨_,_,(.tmp rfl ResV.nil),zP,⟨_,rfl,rfl,rfl⟩⟩
   intro hc2 N;exact zS<|zO<|zI<|zL<|yJ [] [5] rfl<|yQ<|nO<|ih (W (i + 1)) _ N H h h1 hg ho hx hr
 intro hc1 N;exact wY<|yO<|hx _  (zB N).symm H
def jO (p:(List Int)) (q:(List Int)):Option (Bool):=do
 match←sZ p q 0 with
 | .ret r0=>pure r0
 | .done _ =>
  pure (decide ((p.length:Int) < (q.length:Int)))
theorem zEz:∀ p q r,jO p q=some r→∀ {I:Imm}{p1 c p2 c1},(S4 I p1 p c)→(S4 I p2 q c1)→RT 182 [vS p1 p c,vS p2 q c1] I [] (zT  r):=by
 intro p q r N I p1 c p2 c1 h h1;unfold jO at N;refine yL Tryz.func182 fun B=>wV []<|zX<|yD [5] rfl<|wB<|qW [(0,vS p1 p c),(1,vS p2 q c1),(5,vI 0)] ?_;obtain ⟨o01,ho01,hMl⟩:=zC N;refine zCj p q 0 o01 ho01 iR h h1 (fun _ _ _ h=>h) (fun _ _ h=>h) ?_ ?_
 · intro I01  heq1 le1;subst o01;refine zR<|wW [4] rfl<|zI<|yZ ?_;obtain rfl:=zB hMl;exact wL
 intro r0 I9 hs9 m9 heq9 le9 hrs9;subst heq9;refine zU<|zF ?_;obtain rfl:=zB hMl;exact xC hrs9
end Go.LN
