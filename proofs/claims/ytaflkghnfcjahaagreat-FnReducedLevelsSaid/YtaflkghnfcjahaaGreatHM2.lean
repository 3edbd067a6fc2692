/- Helper of the proof (see the last text). -/
import Derived.Test.YtaflkghnfcjahaaGreatHM1
set_option linter.unusedVariables false
set_option linter.unusedSimpArgs false
namespace Go.LN
open Go.Proofs
set_option maxRecDepth 20000
def qH (r:(List zO)×Bool):KT:=fun kk I' hs' v=>
  ∃ v0 v1,hs'=[]∧v=tupV [v0,v1]∧SL I' v0 r.1∧v1=.bool r.2
def wZ (p:zE) (t26:Int) (x:zM) (x1:(List Int)) (out4:List zO) (t64:Int):Option (Out (List zO) ((List zO)×Bool)):=do
 if (decide (t64 < (x.Body.length:Int))) then
  let x2←idx x.Body t64
  let y7←pL p x2 x1
  if (!y7) then
   pure (.ret (([]:List zO),false))
  else
   let y8←sP x1
   let out6←app 40 out4 ([(zO.mk t26 t64 y8)]:List zO)
   wZ p t26 x x1 out6 (W (t64 + 1))
 else
  pure (.done out4)
 partial_fixpoint
theorem dJ (p:zE) (t26:Int) (x:zM) (x1:(List Int)):∀ (out4:List zO) (t64:Int) (o:Out (List zO) ((List zO)×Bool)),wZ p t26 x x1 out4 t64=some o→∀ {B}{I0 I:Imm}{Q}{y2:(List (List Int))}{t54:Int}{p1 c p2 c1}{b:Nat}{p5 c4 p6 c5}{b1:Nat}{p7 c6 p14 c13 p15 c14 cs4},I0.le I→(S4 I p5 x.Nest c4)→(S4 I p6 x.Body c5)→(At I ⟨b1,0,none⟩ (cPart x p5 c4 p6 c5))→(S4 I p14 x1 c13)→(S4 I p2 p.Parts c1)→(S4 I p7 y2 c6)→(S4 I p1 p.Arrays c)→(RL I cs4 out4)→NG Q→NO Q→(∀ (I':Imm) (out5:List zO) (p16:Option Addr) (c15:Nat) (cs5:List Value),o=(.done out5)→I0.le I'→(RL I' cs5 out5)→T 89 B Q (.exit 4) I' [hO zO (vS p16 out5 c15) cs5,hB b (cProg p p1 c p2 c1)] [(1,vP b 0),(4,vS p16 out5 c15),(5,vI t26),(6,vP b1 0),(24,vS p2 p.Parts c1),(25,vI (p.Parts.length:Int)),(26,vI t26),(52,vS p7 y2 c6),(53,vI (y2.length:Int)),(54,vI t54)])→(∀ r I' hs' m',o=(.ret r)→I0.le I'→RS Tryz.prog Tryz.f50 B (qH  r) I' hs' m'→T 89 B Q .ret I' hs' m')→J Tryz.prog 89 B (nav (bodyOf Tryz.f50) [1,1,1,0,1,0,0,1,1,0,0,1,1,1,1,0,0,1,1,0,0,1,1,1,0]) Q I [hO zO (vS p15 out4 c14) cs4,hB b (cProg p p1 c p2 c1)] [(1,vP b 0),(4,vS p15 out4 c14),(5,vI t26),(6,vP b1 0),(10,vS p14 x1 c13),(24,vS p2 p.Parts c1),(25,vI (p.Parts.length:Int)),(26,vI t26),(52,vS p7 y2 c6),(53,vI (y2.length:Int)),(54,vI t54),(62,vS p6 x.Body c5),(63,vI (x.Body.length:Int)),(64,vI t64)]:=by
 refine wZ.partial_correctness p t26 x x1 _ fun self ih out4 t64 o N B I0 I Q y2 t54 p1 c p2 c1 b p5 c4 p6 c5 b1 p7 c6 p14 c13 p15 c14 cs4 H h6 h7 hat1 h18 h1 h8 h h20 hg ho hx hr=>yT hg ho<|yG [65] rfl<|zZ<|yE N ?_ ?_
 · intro hc8 N;refine zS<|zZ<|yH<|yF<|yB 1 [] [66] rfl<|bE N fun x2 hy7 N=>xJ rfl rfl h7 hy7 ?_;intro ad2 ccs2 hat3 hrep2;obtain ⟨p17,c16,p18,c17,p19,c18,p20,c19,rfl,h22,h23,h24,h25⟩:=tG hrep2;refine yX 0 hat3 (cStmt x2 p17 c16 p18 c17 p19 c18 p20 c19) (vA (cStmt x2 p17 c16 p18 c17 p19 c18 p20 c19)) rfl<|wH [vT ([]),z0,vI 0,vI 0,z0,vI 0,vT ([]),z0,z0] ?_;intro b2 hb2;refine yB 5 [] [11] rfl<|xI 0 (cStmt x2 p17 c16 p18 c17 p19 c18 p20 c19) rfl<|yA rfl<|zZ<|yF<|yB 3 [2,0] [69,70,71] rfl<|bE N fun y7 hy8 N=>vZ (zBS p x2 x1 _ hy8 h h1 h22 h23 h24 h25 h18) ?_;intro I08 le8;have ⟨h20,h6,h7,hat1,h18,h1⟩:=m6 le8 h20 h6 h7 hat1 h18 h1;have ⟨h8,h,H⟩:=m3 le8 h8 h H;refine yJ [] [73] rfl<|zI<|yE N ?_ ?_
   · intro hc9 N;exact yG [2,3] rfl<|xG<|zH<|zW<|zH<|zH<|hr _ _ _ _ (zC N).symm H ⟨_,_,(.tmp rfl (.tmp rfl ResV.nil)),zQ,⟨_,_,rfl,rfl,(SL.nil _),rfl⟩⟩
   intro hc9 N;refine zS<|zI<|zK<|yB 4 [] [74,75,76,77] rfl<|bE N fun y8 hy9 N=>xQ (kJ x1 _ hy9 h18) ?_;rintro I09 hs2 v2 k2 le9 - ⟨p21,c20,cs6,rfl,rfl,h27⟩ -;have ⟨h6,h7,hat1,h18,h1,h8⟩:=m6 le9 h6 h7 hat1 h18 h1 h8;have ⟨h20,h,H⟩:=m3 le9 h20 h H;refine yB 6 [] [79] rfl<|xP 0 rfl ?_;intro I010 le10 hl01;have h28:=SL.of_frozen hl01 le10 h27;have ⟨h6,h7,hat1,h18,h1,h8⟩:=m6 le10 h6 h7 hat1 h18 h1 h8;have ⟨h20,h,H⟩:=m3 le10 h20 h H;refine tH [vI t26,vI t64,vS p21 y8 c20] zO ?_;intro b3 hb3;have h29:RL I010 [vI t26,vI t64,vS p21 y8 c20] ([(zO.mk t26 t64 y8)]:List zO):=⟨[vI t26,vI t64,vS p21 y8 c20],_,rfl,rfl,(zAD ⟨_,rfl,h28⟩),rfl⟩;obtain ⟨out6,hy10,N⟩:=zB N;exact qI 49 3 2 rfl rfl rfl h20 (.inr ⟨0,rfl⟩) h29 hy10 fun p22 c21 cs7 h30=>sD (zY [1,2,3] (hs':=[hB b2 (cStmt x2 p17 c16 p18 c17 p19 c18 p20 c19),hO zO (vS p22 out6 c21) cs7,hB b (cProg p p1 c p2 c1)]))<|yJ [] [4] rfl<|zP<|zI<|zK<|yJ [] [64] rfl<|yS<|kX (zX [1,2] rfl (by decide))<|nG<|ih out6 (W (t64 + 1)) _ N H h6 h7 hat1 h18 h1 h8 h h30 hg ho hx hr
 intro hc8 N;exact wT<|yQ<|hx _ _ _ _ _ (zC N).symm H h20
def vC (p:zE) (t26:Int) (x:zM) (y2:(List (List Int))) (out2:List zO) (t54:Int):Option (Out (List zO) ((List zO)×Bool)):=do
 if (decide (t54 < (y2.length:Int))) then
  let x1←idx y2 t54
  let y6←gA x1
  if (!y6) then
   pure (.ret (([]:List zO),false))
  else
   match←wZ p t26 x x1 out2 0 with
   | .ret r0=>pure (.ret r0)
   | .done out5 =>
    vC p t26 x y2 out5 (W (t54 + 1))
 else
  pure (.done out2)
 partial_fixpoint
theorem dK (p:zE) (t26:Int) (x:zM) (y2:(List (List Int))):∀ (out2:List zO) (t54:Int) (o:Out (List zO) ((List zO)×Bool)),vC p t26 x y2 out2 t54=some o→∀ {B}{I0 I:Imm}{Q p1 c p2 c1}{b:Nat}{p5 c4 p6 c5}{b1:Nat}{p7 c6 p12 c11 cs2},I0.le I→(S4 I p5 x.Nest c4)→(S4 I p6 x.Body c5)→(At I ⟨b1,0,none⟩ (cPart x p5 c4 p6 c5))→(S4 I p2 p.Parts c1)→(S4 I p7 y2 c6)→(S4 I p1 p.Arrays c)→(RL I cs2 out2)→NG Q→NO Q→(∀ (I':Imm) (out3:List zO) (p13:Option Addr) (c12:Nat) (cs3:List Value),o=(.done out3)→I0.le I'→(RL I' cs3 out3)→T 89 B Q (.exit 2) I' [hO zO (vS p13 out3 c12) cs3,hB b (cProg p p1 c p2 c1)] [(1,vP b 0),(4,vS p13 out3 c12),(24,vS p2 p.Parts c1),(25,vI (p.Parts.length:Int)),(26,vI t26)])→(∀ r I' hs' m',o=(.ret r)→I0.le I'→RS Tryz.prog Tryz.f50 B (qH  r) I' hs' m'→T 89 B Q .ret I' hs' m')→J Tryz.prog 89 B (nav (bodyOf Tryz.f50) [1,1,1,0,1,0,0,1,1,0,0,1,1,1,1,0]) Q I [hO zO (vS p12 out2 c11) cs2,hB b (cProg p p1 c p2 c1)] [(1,vP b 0),(4,vS p12 out2 c11),(5,vI t26),(6,vP b1 0),(24,vS p2 p.Parts c1),(25,vI (p.Parts.length:Int)),(26,vI t26),(52,vS p7 y2 c6),(53,vI (y2.length:Int)),(54,vI t54)]:=by
 refine vC.partial_correctness p t26 x y2 _ fun self ih out2 t54 o N B I0 I Q p1 c p2 c1 b p5 c4 p6 c5 b1 p7 c6 p12 c11 cs2 H h6 h7 hat1 h1 h8 h h16 hg ho hx hr=>yT hg ho<|yG [55] rfl<|zZ<|yE N ?_ ?_
 · intro hc6 N;refine zS<|zZ<|yH<|yF<|bE N fun x1 hy5 N=>xJ rfl rfl h8 hy5 ?_;intro ad1 ccs1 hat2 hrep1;obtain ⟨v011,rfl,h18⟩:=hrep1;obtain ⟨p14,c13,rfl⟩:=h18.form;refine yX 0 hat2 [vS p14 x1 c13] (vS p14 x1 c13) rfl<|yJ [] [10] rfl<|zZ<|yF<|yB 1 [] [58] rfl<|bE N fun y6 hy6 N=>vZ (zF2 x1 _ hy6 h18) ?_;intro I07 le7;have ⟨h16,h6,h7,hat1,h18,h1⟩:=m6 le7 h16 h6 h7 hat1 h18 h1;have ⟨h8,h,H⟩:=m3 le7 h8 h H;refine yJ [] [60] rfl<|zI<|yE N ?_ ?_
   · intro hc7 N;exact yG [2,3] rfl<|xG<|zH<|zW<|zH<|zH<|hr _ _ _ _ (zC N).symm H ⟨_,_,(.tmp rfl (.tmp rfl ResV.nil)),zQ,⟨_,_,rfl,rfl,(SL.nil _),rfl⟩⟩
   intro hc7 N;refine zS<|yV<|yB 1 [] [61] rfl<|yX 1 hat1 [vS p6 x.Body c5] (vS p6 x.Body c5) rfl<|yJ [] [63,64] rfl<|xZ<|pJ [(1,vP b 0),(4,vS p12 out2 c11),(5,vI t26),(6,vP b1 0),(10,vS p14 x1 c13),(24,vS p2 p.Parts c1),(25,vI (p.Parts.length:Int)),(26,vI t26),(52,vS p7 y2 c6),(53,vI (y2.length:Int)),(54,vI t54),(62,vS p6 x.Body c5),(63,vI (x.Body.length:Int)),(64,vI 0)] ?_;obtain ⟨o02,ho02,hMl⟩:=zB N;refine dJ p t26 x x1 out2 0 o02 ho02 iR h6 h7 hat1 h18 h1 h8 h h16 (fun _ _ _ h=>hg _ _ _ h) (fun _ _ h=>ho _ _ h) ?_ ?_
   · intro I011 out5 p16 c15 cs5 heq2 le11 h21;subst o02;have ⟨h6,h7,hat1,h1,h8,h⟩:=m6 le11 h6 h7 hat1 h1 h8 h;have H:=H.trans le11;exact zR<|zP<|zI<|zK<|yJ [] [54] rfl<|yS<|nG<|ih out5 (W (t54 + 1)) _ hMl H h6 h7 hat1 h1 h8 h h21 hg ho hx hr
   intro r0 I9 hs9 m9 heq9 le9 hrs9;subst heq9;exact zW<|zW<|zH<|zH<|hr _ _ _ _ (zC hMl).symm (H.trans le9) hrs9
 intro hc6 N;exact wT<|yQ<|hx _ _ _ _ _ (zC N).symm H h16
def vD (p:zE) (out:List zO) (t26:Int):Option (Out (List zO) ((List zO)×Bool)):=do
 if (decide (t26 < (p.Parts.length:Int))) then
  let x←idx p.Parts t26
  let (y2,y3)←mG x.Nest
  let t51←(do
    if (!y3) then
     pure true
    else
     let y4←wK (x.Body.length:Int) 1 4
     if (!y4) then
      pure true
     else
      let y5←xY x.Body (fun x0=>vL x0 x)
      pure (id y5)
      : Option Bool)
  if t51 then
   pure (.ret (([]:List zO),false))
  else
   match←vC p t26 x y2 out 0 with
   | .ret r0=>pure (.ret r0)
   | .done out3 =>
    vD p out3 (W (t26 + 1))
 else
  pure (.done out)
 partial_fixpoint
theorem dL (p:zE):∀ (out:List zO) (t26:Int) (o:Out (List zO) ((List zO)×Bool)),vD p out t26=some o→∀ {B}{I0 I:Imm}{Q p1 c p2 c1}{b:Nat}{p3 c2 cs},I0.le I→(S4 I p2 p.Parts c1)→(S4 I p1 p.Arrays c)→(RL I cs out)→NG Q→NO Q→(∀ (I':Imm) (out1:List zO) (p4:Option Addr) (c3:Nat) (cs1:List Value),o=(.done out1)→I0.le I'→(RL I' cs1 out1)→T 89 B Q (.exit 0) I' [hO zO (vS p4 out1 c3) cs1] [(4,vS p4 out1 c3)])→(∀ r I' hs' m',o=(.ret r)→I0.le I'→RS Tryz.prog Tryz.f50 B (qH  r) I' hs' m'→T 89 B Q .ret I' hs' m')→J Tryz.prog 89 B (nav (bodyOf Tryz.f50) [1,1,1,0,1,0]) Q I [hO zO (vS p3 out c2) cs,hB b (cProg p p1 c p2 c1)] [(1,vP b 0),(4,vS p3 out c2),(24,vS p2 p.Parts c1),(25,vI (p.Parts.length:Int)),(26,vI t26)]:=by
 refine vD.partial_correctness p _ fun self ih out t26 o N B I0 I Q p1 c p2 c1 b p3 c2 cs H h1 h h4 hg ho hx hr=>yT hg ho<|yG [27] rfl<|zZ<|yE N ?_ ?_
 · intro hc2 N;refine zS<|zZ<|yH<|yF<|yB 1 [] [28] rfl<|bE N fun x hy1 N=>xJ rfl rfl h1 hy1 ?_;intro ad ccs hat hrep;obtain ⟨p5,c4,p6,c5,rfl,h6,h7⟩:=wW hrep;refine yX 0 hat (cPart x p5 c4 p6 c5) (vA (cPart x p5 c4 p6 c5)) rfl<|wH zTwo ?_;intro b1 hb1;refine yB 5 [] [5] rfl<|xI 0 (cPart x p5 c4 p6 c5) rfl<|yA rfl<|yV<|yB 2 [0] [33] rfl ?_;obtain ⟨⟨y2,y3⟩,hy2,N⟩:=zB N;refine xQ (zDH x.Nest _ hy2 h6) ?_;rintro I02 hs2 v2 k2 le2 - ⟨v03,v04,rfl,rfl,h8,rfl⟩ -;have ⟨h4,h1,h6,h7,h,H⟩:=m6 le2 h4 h1 h6 h7 h H;obtain ⟨p7,c6,rfl⟩:=h8.form;refine yJ [] [7,8] rfl<|zZ<|yC<|oM 0 rfl ?_;intro I03 le3 hl0;have hat1:At I03 ⟨b1,0,none⟩ (cPart x p5 c4 p6 c5):=At.of_blk hl0;have ⟨h4,h6,h7,h8,h1,h⟩:=m6 le3 h4 h6 h7 h8 h1 h;have H:=H.trans le3;refine wE N [hO zO (vS p3 out c2) cs,hB b (cProg p p1 c p2 c1)] (fun t51=>[(1,vP b 0),(4,vS p3 out c2),(5,vI t26),(6,vP b1 0),(7,vS p7 y2 c6),(24,vS p2 p.Parts c1),(25,vI (p.Parts.length:Int)),(26,vI t26),(51,.bool t51)]) (fun o01 ho01=>?_) ?_
   · have H:=iS I03;refine zK<|yB 3 [] [39] rfl<|xW [39] ho01 ?_ ?_
     · intro hc3 N;exact wG [] [(51,vY)]<|yQ<|zT (ct N H)
     intro hc3 N;refine yB 4 [] [40] rfl<|yX 1 hat1 [vS p6 x.Body c5] (vS p6 x.Body c5) rfl<|yB 6 [] [42] rfl<|bE N fun y4 hy3 N=>vZ (vK (x.Body.length:Int) 1 4 _ hy3 ) ?_;intro I05 le4;have ⟨h6,h7,hat1,h,H⟩:=m5 le4 h6 h7 hat1 h H;refine yB 10 [] [46] rfl<|xW [46] N ?_ ?_
     · intro hc4 N;exact wG [] [(51,vY)]<|yQ<|zT (ct N H)
     intro hc4 N;refine yB 11 [] [47] rfl<|yX 1 hat1 [vS p6 x.Body c5] (vS p6 x.Body c5) rfl<|yB 13 [] [49] rfl ?_;have hf0:FV1 Tryz.prog I05 [] (.func (.func 104) ⟨[]⟩ ⟨[vP b1 0]⟩) (fun x0=>vL x0 x):=by
       refine FV1.intro ?_;intro I1 le1 x0 r u0 hF k0;obtain ⟨_,rfl,k0⟩:=k0;obtain ⟨p8,c7,p9,c8,p10,c9,p11,c10,rfl,h11,h12,h13,h14⟩:=tG k0;exact (dZ x0 x r hF h11 h12 h13 h14 (h6.mono le1) (h7.mono le1) (hat1.mono le1)).mono (by rintro k i hs u ⟨v0,rfl,rfl,h⟩; exact ⟨rfl,h⟩)
     obtain ⟨y5,hy4,N⟩:=zB N;refine xQ (jD x.Body (fun x0=>vL x0 x) _ hy4 h7 hf0) ?_;rintro I06 hs2 v2 k2 le5 - ⟨v010,rfl,rfl,rfl⟩ -;have H:=H.trans le5;exact yJ [] [51] rfl<|yQ<|zT (ct N H)
   intro t51 I04 le6 hMc1;have ⟨h4,h6,h7,hat1,h8,h1⟩:=m6 le6 h4 h6 h7 hat1 h8 h1;have ⟨h,H⟩:=m2 le6 h H;refine zI<|yE hMc1 ?_ ?_
   · intro hc5 N;exact yG [2,3] rfl<|xG<|zH<|zW<|zH<|zH<|hr _ _ _ _ (zC N).symm H ⟨_,_,(.tmp rfl (.tmp rfl ResV.nil)),zQ,⟨_,_,rfl,rfl,(SL.nil _),rfl⟩⟩
   intro hc5 N;refine zS<|vG [52,53,54] rfl<|xZ<|pJ [(1,vP b 0),(4,vS p3 out c2),(5,vI t26),(6,vP b1 0),(24,vS p2 p.Parts c1),(25,vI (p.Parts.length:Int)),(26,vI t26),(52,vS p7 y2 c6),(53,vI (y2.length:Int)),(54,vI 0)] ?_;obtain ⟨o03,ho03,hMl1⟩:=zB N;refine dK p t26 x y2 out 0 o03 ho03 iR h6 h7 hat1 h1 h8 h h4 (fun _ _ _ h=>hg _ _ _ h) (fun _ _ h=>ho _ _ h) ?_ ?_
   · intro I012 out3 p13 c12 cs3 heq3 le12 h17;subst o03;have ⟨h1,h,H⟩:=m3 le12 h1 h H;exact zR<|zP<|zI<|zK<|yJ [] [26] rfl<|yS<|nG<|ih out3 (W (t26 + 1)) _ hMl1 H h1 h h17 hg ho hx hr
   intro r0 I9 hs9 m9 heq9 le9 hrs9;subst heq9;exact zW<|zW<|zH<|zH<|hr _ _ _ _ (zC hMl1).symm (H.trans le9) hrs9
 intro hc2 N;exact wT<|xT (zX [0] rfl (by decide))<|yQ<|hx _ _ _ _ _ (zC N).symm H h4
def rP (p:zE):Option ((List zO)×Bool):=do
 let t22←(do
   let y←jK p.Arrays
   if (!y) then
    pure true
   else
    pure (decide ((p.Parts.length:Int) > 4))
     : Option Bool)
 if t22 then
  pure (([]:List zO),false)
 else
  match←vD p ([]:List zO) 0 with
  | .ret r0=>pure r0
  | .done out1 =>
   pure (out1,(decide ((out1.length:Int) ≤ 120)))
theorem zAT:∀ p r,rP p=some r→∀ {I:Imm}{p1 c p2 c1},(S4 I p1 p.Arrays c)→(S4 I p2 p.Parts c1)→RT 50 [vA (cProg p p1 c p2 c1)] I [] (qH  r):=by
 intro p r N I p1 c p2 c1 h h1;unfold rP at N;refine yM Tryz.func50 fun B=>?_;have H:=iS I;refine yF<|vX (cProg p p1 c p2 c1) ?_;intro b hb;refine wG [] []<|zZ<|yC ?_;refine wE N [hB b (cProg p p1 c p2 c1)] (fun t22=>[(1,vP b 0),(22,.bool t22)]) (fun o0 ho0=>?_) ?_
 · have H:=iS I;refine zK<|yB 2 [0] [14] rfl ?_;obtain ⟨y,hy,N⟩:=zB ho0;refine vZ (zEj p.Arrays _ hy h) ?_;intro I01 le;have H:=H.trans le;refine yB 5 [] [17] rfl<|xW [17] N ?_ ?_
   · intro hc N;exact wG [] [(22,vY)]<|yQ<|zT (ct N H)
   intro hc N;exact yJ [0] [22] rfl<|yQ<|zT (ct N H)
 intro t22 I0 le1 hMc;have ⟨h,h1⟩:=m2 le1 h h1;refine zI<|yE hMc ?_ ?_
 · intro hc1 N;refine yG [2,3] rfl<|xG<|zH ?_;obtain rfl:=zC N;exact xA ⟨_,_,(.tmp rfl (.tmp rfl ResV.nil)),zQ,⟨_,_,rfl,rfl,(SL.nil _),rfl⟩⟩
 intro hc1 N;refine zS<|zF0 [(4,z0)]<|zZ<|yF<|yJ [0] [24,25,26] rfl<|xZ<|pJ [(1,vP b 0),(4,z0),(24,vS p2 p.Parts c1),(25,vI (p.Parts.length:Int)),(26,vI 0)]<|zAE zO fun h3=>?_;obtain ⟨o04,ho04,hMl2⟩:=zB N;refine dL p ([]:List zO) 0 o04 ho04 iR h1 h h3 (fun _ _ _ h=>h) (fun _ _ h=>h) ?_ ?_
 · intro I013 out1 p4 c3 cs1 heq4 le13 h5;subst o04;refine zR<|vG [2,3] rfl<|xG<|yY 0 rfl ?_;intro I014 le14 hl02;have h31:=SL.of_frozen hl02 le14 h5;obtain rfl:=zC hMl2;exact xA ⟨_,_,(.tmp rfl (.tmp rfl ResV.nil)),zQ,⟨_,_,rfl,rfl,h31,rfl⟩⟩
 intro r0 I9 hs9 m9 heq9 le9 hrs9;subst heq9;refine zW<|zH ?_;obtain rfl:=zC hMl2;exact xA hrs9
def wU (hsF:List HA) (r:Bool):KT:=fun kk I' hs' v=>
  ∃ v0,hsF=hs'∧v=tupV [v0]∧v0=.bool r
def xF (s1:(List zA)) (s2:(List zA)) (eq:(zA→zA→Option Bool)) (t17:Int):Option (Out Unit (Bool)):=do
 if (decide (t17 < (s1.length:Int))) then
  let x←idx s1 t17
  let x1←idx s2 t17
  let y←eq x x1
  if (!y) then
   pure (.ret false)
  else
   xF s1 s2 eq (W (t17 + 1))
 else
  pure (.done ())
 partial_fixpoint
theorem rD (s1:(List zA)) (s2:(List zA)) (eq:(zA→zA→Option Bool)):∀ (t17:Int) (o:Out Unit (Bool)),xF s1 s2 eq t17=some o→∀ {B}{I0 I:Imm}{Q p c p1 c1}{fv:Value}{hsF:List HA},I0.le I→(S4 I p1 s2 c1)→(FV2 Tryz.prog I hsF fv eq)→(S4 I p s1 c)→NG Q→NO Q→(∀ (I':Imm) ,o=(.done ())→I0.le I'→T 32 B Q (.exit 0) I' hsF [])→(∀ r I' hs' m',o=(.ret r)→I0.le I'→RS Tryz.prog Tryz.f160 B (wU hsF r) I' hs' m'→T 32 B Q .ret I' hs' m')→J Tryz.prog 32 B (nav (bodyOf Tryz.f160) [1,1,0,1,0]) Q I hsF [(1,vS p1 s2 c1),(2,fv),(15,vS p s1 c),(16,vI (s1.length:Int)),(17,vI t17)]:=by
 refine xF.partial_correctness s1 s2 eq _ fun self ih t17 o N B I0 I Q p c p1 c1 fv hsF H h1 h2 h hg ho hx hr=>yT hg ho<|yG [18] rfl<|zZ<|yE N ?_ ?_
 · intro hc1 N;refine zS<|zZ<|yH<|yF<|yB 1 [] [19] rfl<|bE N fun x hy N=>xJ rfl rfl h hy ?_;intro ad ccs hat hrep;obtain ⟨p2,c2,rfl,h3⟩:=yL hrep;refine yX 0 hat (cAff x p2 c2) (vA (cAff x p2 c2)) rfl<|wH [z0,vI 0] ?_;intro b hb;refine yB 5 [] [7] rfl<|zAf 0 (cAff x p2 c2) (hB b (cAff x p2 c2)::hsF) rfl rfl rfl rfl<|yA rfl<|yV<|yB 2 [] [22,23] rfl<|bE N fun x1 hy1 N=>xJ rfl rfl h1 hy1 ?_;intro ad1 ccs1 hat1 hrep1;obtain ⟨p3,c3,rfl,h4⟩:=yL hrep1;refine yX 0 hat1 (cAff x1 p3 c3) (vA (cAff x1 p3 c3)) rfl<|wH [z0,vI 0] ?_;intro b1 hb1;refine zAf 0 (cAff x1 p3 c3) (hB b1 (cAff x1 p3 c3)::hB b (cAff x p2 c2)::hsF) rfl rfl rfl rfl<|yA rfl<|yV<|yB 3 [1,0] [26,27,28] rfl<|bE N fun y hy2 N=>sD (hs':=hsF ++ [hB b1 (cAff x1 p3 c3),hB b (cAff x p2 c2)]) (zC9 [hB b1 (cAff x1 p3 c3),hB b (cAff x p2 c2)] hsF)<|zM9 rfl rfl rfl h2 hy2 ⟨_,rfl,(yO ⟨_,rfl,h3⟩)⟩ ⟨_,rfl,(yO ⟨_,rfl,h4⟩)⟩ rfl ?_;rintro I0 v02 le rfl;refine sD (hs':=(hB b1 (cAff x1 p3 c3)::hB b (cAff x p2 c2)::hsF)) (zC9 hsF [hB b1 (cAff x1 p3 c3),hB b (cAff x p2 c2)]) ?_;have ⟨h1,h2,h,H⟩:=m4 le h1 h2 h H;refine yJ [] [30] rfl<|zI<|yE N ?_ ?_
   · intro hc2 N;exact vJ [(6,vF)]<|xG<|zW<|zH<|zH<|hr _ _ _ _ (zC N).symm H ⟨_,_,(.tmp rfl ResV.nil),(zBO [hB b1 (cAff x1 p3 c3),hB b (cAff x p2 c2)] hsF [] rfl (by decide)),⟨_,rfl,rfl,rfl⟩⟩
   intro hc2 N;exact zS<|zP<|zI<|zK<|yJ [] [17] rfl<|yS<|kX (zBO [hB b1 (cAff x1 p3 c3),hB b (cAff x p2 c2)] hsF [] rfl (by decide))<|nG<|ih (W (t17 + 1)) _ N H h1 h2 h hg ho hx hr
 intro hc1 N;exact wT<|yQ<|hx _  (zC N).symm H
def xU (s1:(List zA)) (s2:(List zA)) (eq:(zA→zA→Option Bool)):Option (Bool):=do
 if ((s1.length:Int) != (s2.length:Int)) then
  pure false
 else
  match←xF s1 s2 eq 0 with
  | .ret r0=>pure r0
  | .done _ =>
   pure true
theorem rV:∀ s1 s2 eq r,xU s1 s2 eq=some r→∀ {I:Imm}{p c p1 c1}{fv:Value}{hsF:List HA},(S4 I p s1 c)→(S4 I p1 s2 c1)→(FV2 Tryz.prog I hsF fv eq)→RT 160 [vS p s1 c,vS p1 s2 c1,fv] I hsF (wU hsF r):=by
 intro s1 s2 eq r N I p c p1 c1 fv hsF h h1 h2;unfold xU at N;refine yM Tryz.func160 fun B=>vJ []<|zZ<|yG [14] rfl<|zI<|yE N ?_ ?_
 · intro hc N;refine vJ [(6,vF)]<|xG<|zH ?_;obtain rfl:=zC N;exact xA ⟨_,_,(.tmp rfl ResV.nil),(fun _ h=>h),⟨_,rfl,rfl,rfl⟩⟩
 intro hc N;refine zS<|zZ<|yG [15,16,17] rfl<|xZ<|pJ [(1,vS p1 s2 c1),(2,fv),(15,vS p s1 c),(16,vI (s1.length:Int)),(17,vI 0)] ?_;obtain ⟨o0,ho0,hMl⟩:=zB N;refine rD s1 s2 eq 0 o0 ho0 iR h1 h2 h (fun _ _ _ h=>h) (fun _ _ h=>h) ?_ ?_
 · intro I01  heq le1;subst o0;refine zR<|zF0 [(6,vY)]<|zI<|yW ?_;obtain rfl:=zC hMl;exact xA ⟨_,_,(.tmp rfl ResV.nil),(fun _ h=>h),⟨_,rfl,rfl,rfl⟩⟩
 intro r0 I9 hs9 m9 heq9 le9 hrs9;subst heq9;refine zW<|zH ?_;obtain rfl:=zC hMl;exact xA hrs9
def pK (s1:(List Int)) (s2:(List Int)) (t13:Int):Option (Out Unit (Bool)):=do
 if (decide (t13 < (s1.length:Int))) then
  let x←idx s1 t13
  let x1←idx s2 t13
  if (x != x1) then
   pure (.ret false)
  else
   pK s1 s2 (W (t13 + 1))
 else
  pure (.done ())
 partial_fixpoint
theorem zAG (s1:(List Int)) (s2:(List Int)):∀ (t13:Int) (o:Out Unit (Bool)),pK s1 s2 t13=some o→∀ {B}{I0 I:Imm}{Q p c p1 c1},I0.le I→(S4 I p s1 c)→(S4 I p1 s2 c1)→NG Q→NO Q→(∀ (I':Imm) ,o=(.done ())→I0.le I'→T 26 B Q (.exit 0) I' [] [])→(∀ r I' hs' m',o=(.ret r)→I0.le I'→RS Tryz.prog Tryz.f134 B (zU  r) I' hs' m'→T 26 B Q .ret I' hs' m')→J Tryz.prog 26 B (nav (bodyOf Tryz.f134) [1,1,0,1,0]) Q I [] [(0,vS p s1 c),(1,vS p1 s2 c1),(12,vI (s1.length:Int)),(13,vI t13)]:=by
 refine pK.partial_correctness s1 s2 _ fun self ih t13 o N B I0 I Q p c p1 c1 H h h1 hg ho hx hr=>yT hg ho<|yG [14] rfl<|zZ<|yE N ?_ ?_
 · intro hc1 N;refine zS<|zZ<|yH<|yG [5] rfl<|zZ<|kY (by kernel_rfl) (by kernel_rfl)<|fU 2 [] [16,17] rfl<|bE N fun x hy N=>dQ rfl rfl h hy ?_;intro ad ccs hat hrep;obtain rfl:=hrep;refine eK 0 hat [vI x] (vI x) rfl<|fU 6 [] [20,21] rfl<|bE N fun x1 hy1 N=>dQ rfl rfl h1 hy1 ?_;intro ad1 ccs1 hat1 hrep1;obtain rfl:=hrep1;refine eK 0 hat1 [vI x1] (vI x1) rfl<|zGy [] [24] rfl<|zI<|yE N ?_ ?_
   · intro hc2 N;exact vJ [(4,vF)]<|xG<|zW<|zH<|zH<|hr _ _ _ _ (zC N).symm H ⟨_,_,(.tmp rfl ResV.nil),zQ,⟨_,rfl,rfl,rfl⟩⟩
   intro hc2 N;exact zS<|zP<|zI<|zK<|yJ [] [13] rfl<|yS<|nG<|ih (W (t13 + 1)) _ N H h h1 hg ho hx hr
 intro hc1 N;exact wT<|yQ<|hx _  (zC N).symm H
def jE (s1:(List Int)) (s2:(List Int)):Option (Bool):=do
 if ((s1.length:Int) != (s2.length:Int)) then
  pure false
 else
  match←pK s1 s2 0 with
  | .ret r0=>pure r0
  | .done _ =>
   pure true
theorem zAy:∀ s1 s2 r,jE s1 s2=some r→∀ {I:Imm}{p c p1 c1},(S4 I p s1 c)→(S4 I p1 s2 c1)→RT 134 [vS p s1 c,vS p1 s2 c1] I [] (zU  r):=by
 intro s1 s2 r N I p c p1 c1 h h1;unfold jE at N;refine yM Tryz.func134 fun B=>vJ []<|zZ<|yG [10] rfl<|zI<|yE N ?_ ?_
 · intro hc N;refine vJ [(4,vF)]<|xG<|zH ?_;obtain rfl:=zC N;exact wP
 intro hc N;refine zS<|zZ<|yG [12,13] rfl<|xZ<|pJ [(0,vS p s1 c),(1,vS p1 s2 c1),(12,vI (s1.length:Int)),(13,vI 0)] ?_;obtain ⟨o0,ho0,hMl⟩:=zB N;refine zAG s1 s2 0 o0 ho0 iR h h1 (fun _ _ _ h=>h) (fun _ _ h=>h) ?_ ?_
 · intro I0  heq le;subst o0;refine zR<|zF0 [(4,vY)]<|zI<|yW ?_;obtain rfl:=zC hMl;exact wP
 intro r0 I9 hs9 m9 heq9 le9 hrs9;subst heq9;refine zW<|zH ?_;obtain rfl:=zC hMl;exact xA hrs9
def mJ (a0:zA) (b:zA):Option (Bool):=do
 let t4←(do
   let y←jE a0.Coefs b.Coefs
   if y then
    pure (a0.Const == b.Const)
   else
    pure false
     : Option Bool)
 pure (id t4)
theorem zDL:∀ a0 b r,mJ a0 b=some r→∀ {I:Imm}{p c p1 c1},(S4 I p a0.Coefs c)→(S4 I p1 b.Coefs c1)→RT 161 [vA (cAff a0 p c),vA (cAff b p1 c1)] I [] (zU  r):=by
 intro a0 b r N I p c p1 c1 h h1;unfold mJ at N;refine yM Tryz.func161 fun B=>?_;have H:=iS I;refine yF<|vX (cAff a0 p c) ?_;intro b1 hb;refine vX (cAff b p1 c1) ?_;intro b2 hb1;refine wG [] []<|zI<|yC ?_;refine wE N [] (fun t4=>[(4,.bool t4)]) (fun o0 ho0=>?_) ?_
 · have H:=iS I;refine zK<|yB 4 [1,0] [6,8] rfl ?_;obtain ⟨y,hy,N⟩:=zB ho0;refine vZ (zAy a0.Coefs b.Coefs _ hy h h1) ?_;intro I01 le;have H:=H.trans le;refine yB 6 [] [10] rfl<|xW [10] N ?_ ?_
   · intro hc N;exact yJ [1,0] [4] rfl<|xT zQ<|yQ<|zT (ct N H)
   intro hc N;exact wG [] [(4,vF)]<|xT zQ<|yQ<|zT (ct N H)
 intro t4 I0 le1 hMc;refine zI<|yW ?_;obtain rfl:=zC hMc;exact wP
def jT (a0:zJ) (b:zJ):Option (Bool):=do
 let t4←(do
   if (a0.Array.l == b.Array.l) then
    let y←xU a0.Subs b.Subs mJ
    pure (id y)
   else
    pure false
     : Option Bool)
 pure (id t4)
theorem zAH:∀ a0 b r,jT a0 b=some r→∀ {I:Imm}{p c p1 c1},(S4 I p a0.Subs c)→(S4 I p1 b.Subs c1)→RT 109 [vA (cAccess a0 p c),vA (cAccess b p1 c1)] I [] (zU  r):=by
 intro a0 b r N I p c p1 c1 h h1;unfold jT at N;refine yM Tryz.func109 fun B=>?_;have H:=iS I;refine yF<|vX (cAccess a0 p c) ?_;intro b1 hb;refine vX (cAccess b p1 c1) ?_;intro b2 hb1;refine wG [] []<|zI<|yC ?_;refine wE N [] (fun t4=>[(4,.bool t4)]) (fun o0 ho0=>?_) ?_
 · have H:=iS I;refine zK<|yB 6 [1,0] [10] rfl<|xW [10] ho0 ?_ ?_
   · intro hc N;refine yB 10 [1,0] [12,14] rfl ?_;have hf0:FV2 Tryz.prog I [] (.func (.func 161) ⟨[]⟩ ⟨[]⟩) mJ:=by
       refine FV2.intro ?_;intro I1 le1 x0 x1 r u0 u1 hF k0 k1;obtain ⟨_,rfl,k0⟩:=k0;obtain ⟨p2,c2,rfl,h2⟩:=yL k0;obtain ⟨_,rfl,k1⟩:=k1;obtain ⟨p3,c3,rfl,h3⟩:=yL k1;exact (zDL x0 x1 r hF h2 h3).mono (by rintro k i hs u ⟨v0,rfl,rfl,h⟩; exact ⟨rfl,h⟩)
     obtain ⟨y,hy,N⟩:=zB N;refine xQ (rV a0.Subs b.Subs mJ _ hy h h1 hf0) ?_;rintro I01 hs2 v2 k2 le - ⟨v02,rfl,rfl,rfl⟩ -;have H:=H.trans le;exact yJ [] [4] rfl<|xT zQ<|yQ<|zT (ct N H)
   intro hc N;exact wG [] [(4,vF)]<|xT zQ<|yQ<|zT (ct N H)
 intro t4 I0 le1 hMc;refine zI<|yW ?_;obtain rfl:=zC hMc;exact wP
def kO (a0:zJ) (x:zN):Option (Bool):=do
 pure (a0.Array.l == x.Write.Array.l)
theorem zDm:∀ a0 x r,kO a0 x=some r→∀ {I:Imm}{p c}{ad:Addr}{p1 c1 p2 c2 p3 c3 p4 c4},(S4 I p a0.Subs c)→(S4 I p1 x.Write.Subs c1)→(S4 I p2 x.Value.Index.Coefs c2)→(S4 I p3 x.Value.Read.Subs c3)→(S4 I p4 x.Value.Kids c4)→(At I ad (cStmt x p1 c1 p2 c2 p3 c3 p4 c4))→RT 112 [vA (cAccess a0 p c),.pointer (some ad)] I [] (zU  r):=by
 intro a0 x r N I p c ad p1 c1 p2 c2 p3 c3 p4 c4 h h1 h2 h3 h4 hat;unfold kO at N;refine yM Tryz.func112 fun B=>yF<|vX (cAccess a0 p c) ?_;intro b hb;refine wG [] []<|yV<|yB 4 [0] [5,7] rfl<|yX 0 hat [vT x.Write.Array.l] (vT x.Write.Array.l) rfl<|yJ [] [3] rfl<|zI<|yW ?_;obtain rfl:=zC N;exact wP
def fZ (s:zN):Option (Bool):=do
 let t32←(do
   if (s.Value.Kind != 4) then
    if (s.Value.Kind != 5) then
     pure true
    else
     let x←idx s.Value.Kids 0
     if (x.Kind != 3) then
      pure true
     else
      let x1←idx s.Value.Kids 0
      let y←jT x1.Read s.Write
      pure (!y)
   else
    let x2←idx s.Value.Kids 0
    if (x2.Kind != 3) then
     pure true
    else
     let x3←idx s.Value.Kids 0
     let y1←jT x3.Read s.Write
     pure (!y1)
     : Option Bool)
 if t32 then
  pure false
 else
  let x4←idx s.Value.Kids 1
  let y2←nH x4
  let y3←xM y2 (fun x0=>kO x0 s)
  pure (!y3)
theorem zBd:∀ s r,fZ s=some r→∀ {I:Imm}{p c p1 c1 p2 c2 p3 c3},(S4 I p s.Write.Subs c)→(S4 I p1 s.Value.Index.Coefs c1)→(S4 I p2 s.Value.Read.Subs c2)→(S4 I p3 s.Value.Kids c3)→RT 52 [vA (cStmt s p c p1 c1 p2 c2 p3 c3)] I [] (zU  r):=by
 intro s r N I p c p1 c1 p2 c2 p3 c3 h h1 h2 h3;unfold fZ at N;refine yM Tryz.func52 fun B=>?_;have H:=iS I;refine yF<|vX (cStmt s p c p1 c1 p2 c2 p3 c3) ?_;intro b hb;refine xP 0 rfl ?_;intro I0 le hl0;have hat:At I0 ⟨b,0,none⟩ (cStmt s p c p1 c1 p2 c2 p3 c3):=At.of_blk hl0;have ⟨h,h1,h2,h3,H⟩:=m5 le h h1 h2 h3 H;refine wG [] []<|yV<|yB 1 [] [4] rfl<|yX 2 hat (cExpr s.Value p1 c1 p2 c2 p3 c3) (vA (cExpr s.Value p1 c1 p2 c2 p3 c3)) rfl<|wH zExpr ?_;intro b1 hb1;refine xI 0 (cExpr s.Value p1 c1 p2 c2 p3 c3) rfl<|yA rfl<|zZ<|yC ?_;refine wE N [hB b1 (cExpr s.Value p1 c1 p2 c2 p3 c3)] (fun t32=>[(1,vP b 0),(3,vP b1 0),(32,.bool t32)]) (fun o0 ho0=>?_) ?_
 · have H:=iS I0;cases hc:(s.Value.Kind != 4) with
   | true =>
    have hM0:=wV hc ho0;cases hc1:(s.Value.Kind != 5) with
    | true =>
     have hM01:=wV hc1 hM0;refine wA [.p (vP b1 0) [],.p (vI s.Value.Kind) [0],.q vY,.q vY,.p (vP b1 0) [],.p (vI s.Value.Kind) [0],.q vY,.q vY,.q vY,.p undef [],.p undef [],.p undef [],.p undef [],.p undef [],.p undef [],.p vY [],.p vY [],.p undef [],.p undef [],.p undef [],.p undef [],.p undef [],.p undef [],.p undef [],.p undef [],.p undef [],.p vY []] [[],[(0,false)],[(1,false)],[(2,false)],[(3,false)],[(3,false),(4,false)],[(3,false),(5,false)],[(3,false),(6,false)],[(7,false)],[(8,false)],[(8,false),(9,false)],[(8,false),(10,false)],[(8,false),(11,false)],[(8,false),(12,false)],[(8,false),(13,false)],[(8,false),(14,false)],[(15,false)],[(16,false)],[(16,false),(17,false)],[(16,false),(18,false)],[(16,false),(19,false)],[(16,false),(20,false)],[(16,false)],[(16,false),(22,false)],[(16,false),(21,false),(23,false)],[(16,false),(24,false)],[(16,false),(25,false)]] [hB b1 (cExpr s.Value p1 c1 p2 c2 p3 c3)] [] [(26,false)] (zY [0]) ?_ ?_
     · refine Op<|Op<|Oq ?_<|Oq ?_<|Op<|Op<|Oq ?_<|Oq ?_<|Oq ?_<|Op<|Op<|Op<|Op<|Op<|Op<|Op<|Op<|Op<|Op<|Op<|Op<|Op<|Op<|Op<|Op<|Op<|Op<|On
       · intro I1 hf le1;refine yN [7] rfl<|tM 3 [(8,.bool (s.Value.Kind != 4))] ?_;rw [hc];exact yP iR
       · intro I1 hf le1;exact gY [(8,vY)]<|tM 4 [(9,vY)]<|yP iR
       · intro I1 hf le1;refine yN [9,11] rfl<|tM 7 [(12,.bool (s.Value.Kind != 5))] ?_;rw [hc1];exact yP iR
       · intro I1 hf le1;exact yN [9,12] rfl<|tM 8 [(13,vY)]<|yP iR
       intro I1 hf le1;exact gY [(13,vY)]<|tM 9 [(14,vY)]<|yP iR
     intro I02 le1;refine yN [1,3,32] rfl ?_;have H:=H.trans le1;exact yA rfl<|yQ<|zT (ct hM01 H)
    | false =>
     have hM02:=wB hc1 hM0;obtain ⟨x,hy,N⟩:=zB hM02;cases hc2:(x.Kind != 3) with
     | true =>
      have hM03:=wV hc2 N;refine wA [.p (vP b1 0) [],.p (vI s.Value.Kind) [0],.q vY,.q vY,.p (vP b1 0) [],.p (vI s.Value.Kind) [0],.q vF,.q vF,.q vF,.p (vP b1 6) [],.p (vS p3 s.Value.Kids c3) [0],.x (ePExpr x),.x (ePExpr x),.q (vI x.Kind),.q vY,.q vY,.q vY,.p undef [],.p undef [],.p undef [],.p undef [],.p undef [],.p undef [],.p undef [],.p undef [],.p undef [],.p vY []] [[],[(0,false)],[(1,false)],[(2,false)],[(3,false)],[(3,false),(4,false)],[(3,false),(5,false)],[(3,false),(6,false)],[(7,false)],[(8,false)],[(8,false),(9,false)],[(8,false),(10,false)],[(8,false),(11,false)],[(8,false),(12,false)],[(8,false),(13,false)],[(8,false),(14,false)],[(15,false)],[(16,false)],[(16,false),(17,false)],[(16,false),(18,false)],[(16,false),(19,false)],[(16,false),(20,false)],[(16,false)],[(16,false),(22,false)],[(16,false),(21,false),(23,false)],[(16,false),(24,false)],[(16,false),(25,false)]] [hB b1 (cExpr s.Value p1 c1 p2 c2 p3 c3)] [] [(26,false)] (zY [0]) ?_ ?_
      · refine Op<|Op<|Oq ?_<|Oq ?_<|Op<|Op<|Oq ?_<|Oq ?_<|Oq ?_<|Op<|Op<|Ox ?_<|Ox ?_<|Oq ?_<|Oq ?_<|Oq ?_<|Oq ?_<|Op<|Op<|Op<|Op<|Op<|Op<|Op<|Op<|Op<|Op<|On
        · intro I1 hf le1;refine yN [7] rfl<|tM 3 [(8,.bool (s.Value.Kind != 4))] ?_;rw [hc];exact yP iR
        · intro I1 hf le1;exact gY [(8,vY)]<|tM 4 [(9,vY)]<|yP iR
        · intro I1 hf le1;refine yN [9,11] rfl<|tM 7 [(12,.bool (s.Value.Kind != 5))] ?_;rw [hc1];exact yP iR
        · intro I1 hf le1;exact yN [9,12] rfl<|tM 8 [(13,vF)]<|yP iR
        · intro I1 hf le1;exact gY [(13,vF)]<|tM 9 [(14,vF)]<|yP iR
        · intro I1 hf le1;refine yN [14,16] rfl ?_;have h3:=h3.mono le1;refine xJ rfl rfl h3 hy ?_;intro ad ccs hat1 hrep;obtain ⟨p4,c4,p5,c5,p6,c6,rfl,h4,h5,h6⟩:=xS hrep;exact yI [] iR ⟨_,_,_,_,_,_,_,rfl,rfl,hat1,h4,h5,h6⟩
        · rintro I1 hf le1 _ _ ⟨rfl,rfl⟩ _ _ ⟨ad,p4,c4,p5,c5,p6,c6,rfl,rfl,hat1,h4,h5,h6⟩;exact yN [14,17] rfl<|tM 13 [(18,.pointer (some ad))]<|yI [] iR ⟨_,_,_,_,_,_,_,rfl,rfl,hat1,h4,h5,h6⟩
        · rintro I1 hf le1 _ _ ⟨rfl,rfl⟩ _ _ ⟨ad1,p41,c41,p51,c51,p61,c61,rfl,rfl,hat11,h41,h51,h61⟩;exact yN [14,18] rfl<|yX 0 hat11 [vI x.Kind] (vI x.Kind) rfl<|yP iR
        · intro I1 hf le1;refine yN [14,19] rfl<|tM 15 [(20,.bool (x.Kind != 3))] ?_;rw [hc2];exact yP iR
        · intro I1 hf le1;exact yN [14,20] rfl<|tM 16 [(21,vY)]<|yP iR
        intro I1 hf le1;exact gY [(21,vY)]<|tM 17 [(22,vY)]<|yP iR
      intro I03 le2;refine yN [1,3,32] rfl ?_;have H:=H.trans le2;exact yA rfl<|yQ<|zT (ct hM03 H)
     | false =>
      have hM04:=wB hc2 N;obtain ⟨x1,hy1,N⟩:=zB hM04;obtain ⟨y,hy2,N⟩:=zB N;refine wA [.p (vP b1 0) [],.p (vI s.Value.Kind) [0],.q vY,.q vY,.p (vP b1 0) [],.p (vI s.Value.Kind) [0],.q vF,.q vF,.q vF,.p (vP b1 6) [],.p (vS p3 s.Value.Kids c3) [0],.x (ePExpr x),.x (ePExpr x),.q (vI x.Kind),.q vF,.q vF,.q vF,.p (vP b1 6) [],.p (vS p3 s.Value.Kids c3) [0],.x (ePExpr x1),.x (eQExpr 4 x1),.x (eVAccess x1.Read),.p (vP b 0) [],.q (vA (cAccess s.Write p c)),.q (.bool y),.p (.bool (!y)) [],.p (.bool (!y)) []] [[],[(0,false)],[(1,false)],[(2,false)],[(3,false)],[(3,false),(4,false)],[(3,false),(5,false)],[(3,false),(6,false)],[(7,false)],[(8,false)],[(8,false),(9,false)],[(8,false),(10,false)],[(8,false),(11,false)],[(8,false),(12,false)],[(8,false),(13,false)],[(8,false),(14,false)],[(15,false)],[(16,false)],[(16,false),(17,false)],[(16,false),(18,false)],[(16,false),(19,false)],[(16,false),(20,false)],[(16,false)],[(16,false),(22,false)],[(16,false),(21,false),(23,false)],[(16,false),(24,false)],[(16,false),(25,false)]] [hB b1 (cExpr s.Value p1 c1 p2 c2 p3 c3)] [] [(26,false)] (zY [0]) ?_ ?_
      · refine Op<|Op<|Oq ?_<|Oq ?_<|Op<|Op<|Oq ?_<|Oq ?_<|Oq ?_<|Op<|Op<|Ox ?_<|Ox ?_<|Oq ?_<|Oq ?_<|Oq ?_<|Oq ?_<|Op<|Op<|Ox ?_<|Ox ?_<|Ox ?_<|Op<|Oq ?_<|Oq ?_<|Op<|Op<|On
        · intro I1 hf le1;refine yN [7] rfl<|tM 3 [(8,.bool (s.Value.Kind != 4))] ?_;rw [hc];exact yP iR
        · intro I1 hf le1;exact gY [(8,vY)]<|tM 4 [(9,vY)]<|yP iR
        · intro I1 hf le1;refine yN [9,11] rfl<|tM 7 [(12,.bool (s.Value.Kind != 5))] ?_;rw [hc1];exact yP iR
        · intro I1 hf le1;exact yN [9,12] rfl<|tM 8 [(13,vF)]<|yP iR
        · intro I1 hf le1;exact gY [(13,vF)]<|tM 9 [(14,vF)]<|yP iR
        · intro I1 hf le1;refine yN [14,16] rfl ?_;have h3:=h3.mono le1;refine xJ rfl rfl h3 hy ?_;intro ad ccs hat1 hrep;obtain ⟨p4,c4,p5,c5,p6,c6,rfl,h4,h5,h6⟩:=xS hrep;exact yI [] iR ⟨_,_,_,_,_,_,_,rfl,rfl,hat1,h4,h5,h6⟩
        · rintro I1 hf le1 _ _ ⟨rfl,rfl⟩ _ _ ⟨ad,p4,c4,p5,c5,p6,c6,rfl,rfl,hat1,h4,h5,h6⟩;exact yN [14,17] rfl<|tM 13 [(18,.pointer (some ad))]<|yI [] iR ⟨_,_,_,_,_,_,_,rfl,rfl,hat1,h4,h5,h6⟩
        · rintro I1 hf le1 _ _ ⟨rfl,rfl⟩ _ _ ⟨ad1,p41,c41,p51,c51,p61,c61,rfl,rfl,hat11,h41,h51,h61⟩;exact yN [14,18] rfl<|yX 0 hat11 [vI x.Kind] (vI x.Kind) rfl<|yP iR
        · intro I1 hf le1;refine yN [14,19] rfl<|tM 15 [(20,.bool (x.Kind != 3))] ?_;rw [hc2];exact yP iR
        · intro I1 hf le1;exact yN [14,20] rfl<|tM 16 [(21,vF)]<|yP iR
        · intro I1 hf le1;exact gY [(21,vF)]<|tM 17 [(22,vF)]<|yP iR
        · intro I1 hf le1;refine yN [22,24] rfl ?_;have h3:=h3.mono le1;refine xJ rfl rfl h3 hy1 ?_;intro ad2 ccs1 hat2 hrep1;obtain ⟨p7,c7,p8,c8,p9,c9,rfl,h7,h8,h9⟩:=xS hrep1;exact yI [] iR ⟨_,_,_,_,_,_,_,rfl,rfl,hat2,h7,h8,h9⟩
        · rintro I1 hf le1 _ _ ⟨rfl,rfl⟩ _ _ ⟨ad2,p7,c7,p8,c8,p9,c9,rfl,rfl,hat2,h7,h8,h9⟩;exact yN [22,25] rfl<|tM 21 [(26,.pointer (some (ad2.add 4)))]<|yI [] iR ⟨_,_,_,_,_,_,_,rfl,rfl,hat2,h7,h8,h9⟩
        · rintro I1 hf le1 _ _ ⟨rfl,rfl⟩ _ _ ⟨ad21,p71,c71,p81,c81,p91,c91,rfl,rfl,hat21,h71,h81,h91⟩;exact yN [22,26] rfl<|yX 4 hat21 (cAccess x1.Read p81 c81) (vA (cAccess x1.Read p81 c81)) rfl<|yI [] iR ⟨_,_,rfl,rfl,h81⟩
        · intro I1 hf le1;refine yN [22,28] rfl ?_;have hat:=hat.mono le1;exact yX 0 hat (cAccess s.Write p c) (vA (cAccess s.Write p c)) rfl<|yP iR
        rintro I1 hf le1 _ _ ⟨rfl,rfl⟩ _ _ ⟨p811,c811,rfl,rfl,h811⟩;refine yN [22,27,29] rfl ?_;have H:=iS I1;have h:=h.mono le1;refine vZ (zAH x1.Read s.Write _ hy2 h811 h) ?_;intro I04 le3;have H:=H.trans le3;exact yP H
      intro I05 le4;refine yN [1,3,32] rfl ?_;have H:=H.trans le4;exact yA rfl<|yQ<|zT (ct N H)
   | false =>
    have hM05:=wB hc ho0;obtain ⟨x2,hy3,N⟩:=zB hM05;cases hc3:(x2.Kind != 3) with
    | true =>
     have hM06:=wV hc3 N;refine wA [.p (vP b1 0) [],.p (vI s.Value.Kind) [0],.q vF,.q vF,.p undef [],.p undef [],.p undef [],.p vF [],.p vF [],.p (vP b1 6) [],.p (vS p3 s.Value.Kids c3) [0],.x (ePExpr x2),.x (ePExpr x2),.q (vI x2.Kind),.q vY,.q vY,.q vY,.p undef [],.p undef [],.p undef [],.p undef [],.p undef [],.p undef [],.p undef [],.p undef [],.p undef [],.p vY []] [[],[(0,false)],[(1,false)],[(2,false)],[(3,false)],[(3,false),(4,false)],[(3,false),(5,false)],[(3,false),(6,false)],[(7,false)],[(8,false)],[(8,false),(9,false)],[(8,false),(10,false)],[(8,false),(11,false)],[(8,false),(12,false)],[(8,false),(13,false)],[(8,false),(14,false)],[(15,false)],[(16,false)],[(16,false),(17,false)],[(16,false),(18,false)],[(16,false),(19,false)],[(16,false),(20,false)],[(16,false)],[(16,false),(22,false)],[(16,false),(21,false),(23,false)],[(16,false),(24,false)],[(16,false),(25,false)]] [hB b1 (cExpr s.Value p1 c1 p2 c2 p3 c3)] [] [(26,false)] (zY [0]) ?_ ?_
     · refine Op<|Op<|Oq ?_<|Oq ?_<|Op<|Op<|Op<|Op<|Op<|Op<|Op<|Ox ?_<|Ox ?_<|Oq ?_<|Oq ?_<|Oq ?_<|Oq ?_<|Op<|Op<|Op<|Op<|Op<|Op<|Op<|Op<|Op<|Op<|On
       · intro I1 hf le1;refine yN [7] rfl<|tM 3 [(8,.bool (s.Value.Kind != 4))] ?_;rw [hc];exact yP iR
       · intro I1 hf le1;exact gY [(8,vF)]<|tM 4 [(9,vF)]<|yP iR
       · intro I1 hf le1;refine yN [14,16] rfl ?_;have h3:=h3.mono le1;refine xJ rfl rfl h3 hy3 ?_;intro ad3 ccs2 hat3 hrep2;obtain ⟨p10,c10,p11,c11,p12,c12,rfl,h11,h12,h13⟩:=xS hrep2;exact yI [] iR ⟨_,_,_,_,_,_,_,rfl,rfl,hat3,h11,h12,h13⟩
       · rintro I1 hf le1 _ _ ⟨rfl,rfl⟩ _ _ ⟨ad3,p10,c10,p11,c11,p12,c12,rfl,rfl,hat3,h11,h12,h13⟩;exact yN [14,17] rfl<|tM 13 [(18,.pointer (some ad3))]<|yI [] iR ⟨_,_,_,_,_,_,_,rfl,rfl,hat3,h11,h12,h13⟩
       · rintro I1 hf le1 _ _ ⟨rfl,rfl⟩ _ _ ⟨ad31,p101,c101,p111,c111,p121,c121,rfl,rfl,hat31,h111,h121,h131⟩;exact yN [14,18] rfl<|yX 0 hat31 [vI x2.Kind] (vI x2.Kind) rfl<|yP iR
       · intro I1 hf le1;refine yN [14,19] rfl<|tM 15 [(20,.bool (x2.Kind != 3))] ?_;rw [hc3];exact yP iR
       · intro I1 hf le1;exact yN [14,20] rfl<|tM 16 [(21,vY)]<|yP iR
       intro I1 hf le1;exact gY [(21,vY)]<|tM 17 [(22,vY)]<|yP iR
     intro I06 le5;refine yN [1,3,32] rfl ?_;have H:=H.trans le5;exact yA rfl<|yQ<|zT (ct hM06 H)
    | false =>
     have hM07:=wB hc3 N;obtain ⟨x3,hy4,N⟩:=zB hM07;obtain ⟨y1,hy5,N⟩:=zB N;refine wA [.p (vP b1 0) [],.p (vI s.Value.Kind) [0],.q vF,.q vF,.p undef [],.p undef [],.p undef [],.p vF [],.p vF [],.p (vP b1 6) [],.p (vS p3 s.Value.Kids c3) [0],.x (ePExpr x2),.x (ePExpr x2),.q (vI x2.Kind),.q vF,.q vF,.q vF,.p (vP b1 6) [],.p (vS p3 s.Value.Kids c3) [0],.x (ePExpr x3),.x (eQExpr 4 x3),.x (eVAccess x3.Read),.p (vP b 0) [],.q (vA (cAccess s.Write p c)),.q (.bool y1),.p (.bool (!y1)) [],.p (.bool (!y1)) []] [[],[(0,false)],[(1,false)],[(2,false)],[(3,false)],[(3,false),(4,false)],[(3,false),(5,false)],[(3,false),(6,false)],[(7,false)],[(8,false)],[(8,false),(9,false)],[(8,false),(10,false)],[(8,false),(11,false)],[(8,false),(12,false)],[(8,false),(13,false)],[(8,false),(14,false)],[(15,false)],[(16,false)],[(16,false),(17,false)],[(16,false),(18,false)],[(16,false),(19,false)],[(16,false),(20,false)],[(16,false)],[(16,false),(22,false)],[(16,false),(21,false),(23,false)],[(16,false),(24,false)],[(16,false),(25,false)]] [hB b1 (cExpr s.Value p1 c1 p2 c2 p3 c3)] [] [(26,false)] (zY [0]) ?_ ?_
     · refine Op<|Op<|Oq ?_<|Oq ?_<|Op<|Op<|Op<|Op<|Op<|Op<|Op<|Ox ?_<|Ox ?_<|Oq ?_<|Oq ?_<|Oq ?_<|Oq ?_<|Op<|Op<|Ox ?_<|Ox ?_<|Ox ?_<|Op<|Oq ?_<|Oq ?_<|Op<|Op<|On
       · intro I1 hf le1;refine yN [7] rfl<|tM 3 [(8,.bool (s.Value.Kind != 4))] ?_;rw [hc];exact yP iR
       · intro I1 hf le1;exact gY [(8,vF)]<|tM 4 [(9,vF)]<|yP iR
       · intro I1 hf le1;refine yN [14,16] rfl ?_;have h3:=h3.mono le1;refine xJ rfl rfl h3 hy3 ?_;intro ad3 ccs2 hat3 hrep2;obtain ⟨p10,c10,p11,c11,p12,c12,rfl,h11,h12,h13⟩:=xS hrep2;exact yI [] iR ⟨_,_,_,_,_,_,_,rfl,rfl,hat3,h11,h12,h13⟩
       · rintro I1 hf le1 _ _ ⟨rfl,rfl⟩ _ _ ⟨ad3,p10,c10,p11,c11,p12,c12,rfl,rfl,hat3,h11,h12,h13⟩;exact yN [14,17] rfl<|tM 13 [(18,.pointer (some ad3))]<|yI [] iR ⟨_,_,_,_,_,_,_,rfl,rfl,hat3,h11,h12,h13⟩
       · rintro I1 hf le1 _ _ ⟨rfl,rfl⟩ _ _ ⟨ad31,p101,c101,p111,c111,p121,c121,rfl,rfl,hat31,h111,h121,h131⟩;exact yN [14,18] rfl<|yX 0 hat31 [vI x2.Kind] (vI x2.Kind) rfl<|yP iR
       · intro I1 hf le1;refine yN [14,19] rfl<|tM 15 [(20,.bool (x2.Kind != 3))] ?_;rw [hc3];exact yP iR
       · intro I1 hf le1;exact yN [14,20] rfl<|tM 16 [(21,vF)]<|yP iR
       · intro I1 hf le1;exact gY [(21,vF)]<|tM 17 [(22,vF)]<|yP iR
       · intro I1 hf le1;refine yN [22,24] rfl ?_;have h3:=h3.mono le1;refine xJ rfl rfl h3 hy4 ?_;intro ad4 ccs3 hat4 hrep3;obtain ⟨p13,c13,p14,c14,p15,c15,rfl,h14,h15,h16⟩:=xS hrep3;exact yI [] iR ⟨_,_,_,_,_,_,_,rfl,rfl,hat4,h14,h15,h16⟩
       · rintro I1 hf le1 _ _ ⟨rfl,rfl⟩ _ _ ⟨ad4,p13,c13,p14,c14,p15,c15,rfl,rfl,hat4,h14,h15,h16⟩;exact yN [22,25] rfl<|tM 21 [(26,.pointer (some (ad4.add 4)))]<|yI [] iR ⟨_,_,_,_,_,_,_,rfl,rfl,hat4,h14,h15,h16⟩
       · rintro I1 hf le1 _ _ ⟨rfl,rfl⟩ _ _ ⟨ad41,p131,c131,p141,c141,p151,c151,rfl,rfl,hat41,h141,h151,h161⟩;exact yN [22,26] rfl<|yX 4 hat41 (cAccess x3.Read p141 c141) (vA (cAccess x3.Read p141 c141)) rfl<|yI [] iR ⟨_,_,rfl,rfl,h151⟩
       · intro I1 hf le1;refine yN [22,28] rfl ?_;have hat:=hat.mono le1;exact yX 0 hat (cAccess s.Write p c) (vA (cAccess s.Write p c)) rfl<|yP iR
       rintro I1 hf le1 _ _ ⟨rfl,rfl⟩ _ _ ⟨p1411,c1411,rfl,rfl,h1511⟩;refine yN [22,27,29] rfl ?_;have H:=iS I1;have h:=h.mono le1;refine vZ (zAH x3.Read s.Write _ hy5 h1511 h) ?_;intro I07 le6;have H:=H.trans le6;exact yP H
     intro I08 le7;refine yN [1,3,32] rfl ?_;have H:=H.trans le7;exact yA rfl<|yQ<|zT (ct N H)
 intro t32 I01 le8 hMc;have ⟨h,h1,h2,h3,hat⟩:=m5 le8 h h1 h2 h3 hat;refine zI<|yE hMc ?_ ?_
 · intro hc4 N;refine vJ [(2,vF)]<|xG<|zH ?_;obtain rfl:=zC N;exact wP
 intro hc4 N;refine zS<|yV<|yB 2 [0] [34] rfl<|bE N fun x4 hy6 N=>xJ rfl rfl h3 hy6 ?_;intro ad5 ccs4 hat5 hrep4;obtain ⟨p16,c16,p17,c17,p18,c18,rfl,h18,h19,h20⟩:=xS hrep4;refine yX 0 hat5 (cExpr x4 p16 c16 p17 c17 p18 c18) (vA (cExpr x4 p16 c16 p17 c17 p18 c18)) rfl<|bE N fun y2 hy7 N=>xQ (zAg x4 _ hy7 h18 h19 h20) ?_;rintro I09 hs2 v2 k2 le9 - ⟨v017,rfl,rfl,h21⟩ -;have ⟨h,h1,h2,h3,hat⟩:=m5 le9 h h1 h2 h3 hat;obtain ⟨p19,c19,rfl⟩:=h21.form;refine yB 6 [] [38] rfl ?_;have hf0:FV1 Tryz.prog I09 [] (.func (.func 112) ⟨[]⟩ ⟨[vP b 0]⟩) (fun x0=>kO x0 s):=by
   refine FV1.intro ?_;intro I1 le1 x0 r u0 hF k0;obtain ⟨_,rfl,k0⟩:=k0;obtain ⟨p20,c20,rfl,h22⟩:=qN k0;exact (zDm x0 s r hF h22 (h.mono le1) (h1.mono le1) (h2.mono le1) (h3.mono le1) (hat.mono le1)).mono (by rintro k i hs u ⟨v0,rfl,rfl,h⟩; exact ⟨rfl,h⟩)
 obtain ⟨y3,hy8,N⟩:=zB N;refine xQ (rO y2 (fun x0=>kO x0 s) _ hy8 h21 hf0) ?_;rintro I010 hs2 v2 k2 le10 - ⟨v019,rfl,rfl,rfl⟩ -;refine yJ [] [2] rfl<|zI<|yW ?_;obtain rfl:=zC N;exact wP
def zBT (r:zN):KT:=fun kk I' hs' v=>
  ∃ v0,hs'=[]∧v=tupV [v0]∧(∃ cs,v0=.agg ⟨cs⟩∧Rp.rep I' cs r)
def pC (p:zE) (x:zO):Option (zN):=do
 let x1←idx p.Parts x.Part
 let x2←idx x1.Body x.Stmt
 pure (id x2)
theorem gB:∀ p x r,pC p x=some r→∀ {I:Imm}{p1 c p2 c1 p3 c2},(S4 I p1 p.Arrays c)→(S4 I p2 p.Parts c1)→(S4 I p3 x.Point c2)→RT 53 [vA (cProg p p1 c p2 c1),vA (cInst x p3 c2)] I [] (zBT  r):=by
 intro p x r N I p1 c p2 c1 p3 c2 h h1 h2;unfold pC at N;refine yM Tryz.func53 fun B=>yF<|vX (cProg p p1 c p2 c1) ?_;intro b hb;refine vX (cInst x p3 c2) ?_;intro b1 hb1;refine wH [vT ([]),z0,vI 0,vI 0,z0,vI 0,vT ([]),z0,z0] ?_;intro b2 hb2;refine yA rfl<|zI<|yC ?_;obtain ⟨x1,hy,N⟩:=zB N;obtain ⟨x2,hy1,N⟩:=zB N;refine wA [.p (vP b 1) [],.p (vS p2 p.Parts c1) [2],.p (vP b1 0) [],.p (vI x.Part) [1],.x (ePPart x1),.x (eQPart 1 x1),.x (eS x1.Body),.p (vP b1 1) [],.p (vI x.Stmt) [1],.x (ePStmt x2),.x (eVStmt x2)] [[],[(0,false)],[],[(2,false)],[(1,false),(3,false)],[(4,false)],[(5,false)],[],[(7,false)],[(6,false),(8,false)],[(9,false)]] [hB b2 [vT ([]),z0,vI 0,vI 0,z0,vI 0,vT ([]),z0,z0],hB b1 (cInst x p3 c2),hB b (cProg p p1 c p2 c1)] [] [(10,false)] (zY [0,1,2]) ?_ ?_
 · refine Op<|Op<|Op<|Op<|Ox ?_<|Ox ?_<|Ox ?_<|Op<|Op<|Ox ?_<|Ox ?_<|On
   · intro I1 hf le1;refine yN [6,8] rfl ?_;have h1:=h1.mono le1;refine xJ rfl rfl h1 hy ?_;intro ad ccs hat hrep;obtain ⟨p4,c3,p5,c4,rfl,h3,h4⟩:=wW hrep;exact yI [] iR ⟨_,_,_,_,_,rfl,rfl,hat,h3,h4⟩
   · rintro I1 hf le1 _ _ ⟨ad,p4,c3,p5,c4,rfl,rfl,hat,h3,h4⟩;exact yN [9] rfl<|tM 6 [(10,.pointer (some (ad.add 1)))]<|yI [] iR ⟨_,_,_,_,_,rfl,rfl,hat,h3,h4⟩
   · rintro I1 hf le1 _ _ ⟨ad1,p41,c31,p51,c41,rfl,rfl,hat1,h31,h41⟩;exact yN [10] rfl<|yX 1 hat1 [vS p51 x1.Body c41] (vS p51 x1.Body c41) rfl<|yI [] iR ⟨_,_,rfl,rfl,h41⟩
   · rintro I1 hf le1 _ _ ⟨p511,c411,rfl,rfl,h411⟩;refine yN [11,13] rfl<|xJ rfl rfl h411 hy1 ?_;intro ad2 ccs1 hat2 hrep1;obtain ⟨p6,c5,p7,c6,p8,c7,p9,c8,rfl,h5,h6,h7,h8⟩:=tG hrep1;exact yI [] iR ⟨_,_,_,_,_,_,_,_,_,rfl,rfl,hat2,h5,h6,h7,h8⟩
   rintro I1 hf le1 _ _ ⟨ad2,p6,c5,p7,c6,p8,c7,p9,c8,rfl,rfl,hat2,h5,h6,h7,h8⟩;exact yN [14] rfl<|yX 0 hat2 (cStmt x2 p6 c5 p7 c6 p8 c7 p9 c8) (vA (cStmt x2 p6 c5 p7 c6 p8 c7 p9 c8)) rfl<|yI [] iR ⟨_,_,_,_,_,_,_,_,rfl,rfl,h5,h6,h7,h8⟩
 rintro I0 le _ _ ⟨p61,c51,p71,c61,p81,c71,p91,c81,rfl,rfl,h51,h61,h71,h81⟩;refine yN [4,15] rfl ?_;refine xI 0 (cStmt x2 p61 c51 p71 c61 p81 c71 p91 c81) rfl<|yA rfl<|zI<|yW ?_;obtain rfl:=zC N;exact xA ⟨_,_,(.cell 0 rfl rfl (by kernel_rfl) ResV.nil),zQ,⟨_,rfl,rfl,⟨_,rfl,(wQ ⟨_,_,_,_,rfl,h51,h61,h71,h81⟩)⟩⟩⟩
def zDn (r:zL):KT:=fun kk I' hs' v=>
  ∃ b_0 a0_0 c0_0,hs'=[.blk b_0 ⟨[.slice a0_0 r.b.length c0_0,.int .i64 r.p]⟩]∧v=tupV [(.pointer (some ⟨b_0,0,none⟩))]∧SL I' (.slice a0_0 r.b.length c0_0) r.b
def gD (code:(List UInt8)):Option (zL):=do
 let code1←(do
   if (decide ((code.length:Int) > 2000)) then
    let l←slc code 0 2000
    pure (id l)
   else
    pure (id code)
     : Option (List UInt8))
 pure (zL.mk code1 0)
theorem zF3:∀ code r,gD code=some r→∀ {I:Imm}{p c},(S4 I p code c)→RT 46 [vS p code c] I [] (zDn  r):=by
 intro code r N I p c h;unfold gD at N;refine yM Tryz.func46 fun B=>?_;have H:=iS I;refine vJ []<|zZ<|yG [5] rfl<|zI ?_;obtain ⟨o0,ho0,hMc⟩:=zB N;refine qL (fun I' hs' m'=>∃ (code1:List UInt8) (p1:Option Addr) (c1:Nat),o0=code1∧I.le I'∧(S4 I' p1 code1 c1)∧hs'=[]∧m'=[(0,vS p1 code1 c1)]) ?_ ?_
 · have H:=iS I;refine yE ho0 ?_ ?_
   · intro hc N;refine zK<|yB 1 [] [6] rfl<|bE N fun l hy N=>zM6 rfl h hy ?_;intro v0 h2;obtain ⟨p2,c2,rfl⟩:=h2.form;exact yJ [] [0] rfl<|yQ<|zT ⟨_,_,_,(zC N).symm,H,h2,rfl,rfl⟩
   intro hc N;exact zS<|yQ<|zT ⟨_,_,_,(zC N).symm,H,h,rfl,rfl⟩
 rintro I0 hs2 m2 ⟨code1,p1,c1,heq,le,h1,rfl,rfl⟩;subst o0;refine yV<|yB 2 [] [9] rfl<|vX [vS p1 code1 c1,vI 0] ?_;intro b hb;refine yJ [] [2] rfl<|zI<|yW ?_;obtain rfl:=zC hMc;exact xA ⟨_,_,(.tmp rfl ResV.nil),(zX [0] rfl (by decide)),⟨_,_,_,rfl,rfl,h1⟩⟩
def zCG (b0:Nat) (r:Int×zL):KT:=fun kk I' hs' v=>
  ∃ v0 k0,hs'=[.blk b0 ⟨k0⟩]∧v=tupV [v0]∧v0=.int .i64 r.1∧Rp.rep I' k0 r.2
def yU (r0:zL) (n0:Int):Option (Int×zL):=do
 let t24←(do
   if (decide (n0 < 1)) then
    pure true
   else
    pure ((r0.b.length:Int) == 0)
     : Option Bool)
 if t24 then
  pure (0,(zL.mk r0.b (W (r0.p + 1))))
 else
  if (decide ((W ((W (r0.p + 1)) - 1)) < (r0.b.length:Int))) then
   let x←idx r0.b (W ((W (r0.p + 1)) - 1))
   let q←rem (W (x.toNat:Int)) n0
   pure (q,(zL.mk r0.b (W (r0.p + 1))))
  else
   let q1←rem (W ((W (r0.p + 1)) - 1)) (r0.b.length:Int)
   let x1←idx r0.b q1
   let q2←rem (W ((W ((W ((W (r0.p + 1)) - 1)) * 7)) + 3)) (r0.b.length:Int)
   let x2←idx r0.b q2
   let q3←quo (W ((W (r0.p + 1)) - 1)) (r0.b.length:Int)
   let q4←rem (W (BitVec.ofInt IntKind.i64.bits (W ((W ((W ((W ((W (x1.toNat:Int)) * 131)) + (W ((W (x2.toNat:Int)) * 1117)))) + (W ((W ((W (r0.p + 1)) - 1)) * 29)))) + (W (q3 * 53)))) ^^^ BitVec.ofInt IntKind.i64.bits (W ((W ((W ((W ((W ((W (x1.toNat:Int)) * 131)) + (W ((W (x2.toNat:Int)) * 1117)))) + (W ((W ((W (r0.p + 1)) - 1)) * 29)))) + (W (q3 * 53)))).tdiv 64))).toNat) n0
   pure (q4,(zL.mk r0.b (W (r0.p + 1))))
theorem xR:∀ r0 n0 r,yU r0 n0=some r→∀ {I:Imm}{r01:Nat}{p c},(S4 I p r0.b c)→RT 95 [vP r01 0,vI n0] I [hB r01 (cRd r0 p c)] (zCG r01 r):=by
 intro r0 n0 r N I r01 p c h;unfold yU at N;refine yM Tryz.func95 fun B=>?_;have H:=iS I;refine vJ []<|yV<|yB 8 [0] [12,14] rfl<|xI 0 [vS p r0.b c,vI (W (r0.p + 1))] rfl<|yA rfl<|zZ<|yC ?_;refine wE N [hB r01 [vS p r0.b c,vI (W (r0.p + 1))]] (fun t24=>[(0,vP r01 0),(1,vI n0),(24,.bool t24)]) (fun o0 ho0=>?_) ?_
 · have H:=iS I;refine zK<|yB 3 [] [17] rfl<|xW [17] ho0 ?_ ?_
   · intro hc N;exact wG [] [(24,vY)]<|yQ<|zT (ct N H)
   intro hc N;exact yJ [0] [24] rfl<|yQ<|zT (ct N H)
 intro t24 I0 le hMc;have h:=h.mono le;refine zI<|yE hMc ?_ ?_
 · intro hc1 N;refine yG [4] rfl<|xG<|zH ?_;obtain rfl:=zC N;exact xA ⟨_,_,(.tmp rfl ResV.nil),(zX [0] rfl (by decide)),⟨_,_,rfl,rfl,rfl,(yR ⟨_,rfl,h⟩)⟩⟩
 intro hc1 N;refine zS<|yV<|yJ [0] [5] rfl<|zZ<|yF<|yJ [0] [36] rfl<|zI<|yE N ?_ ?_
 · intro hc2 N;refine yF<|yB 5 [0] [40,41] rfl<|bE N fun x hy N=>xJ rfl rfl h hy ?_;intro ad ccs hat hrep;obtain rfl:=hrep;refine yX 0 hat [.int .u8 (x.toNat:Int)] (.int .u8 (x.toNat:Int)) rfl<|yB 9 [] [44,45] rfl<|bE N fun q hy1 N=>zM8 rfl hy1<|yJ [] [4] rfl<|xG<|zH ?_;obtain rfl:=zC N;exact xA ⟨_,_,(.tmp rfl ResV.nil),(zX [0] rfl (by decide)),⟨_,_,rfl,rfl,rfl,(yR ⟨_,rfl,h⟩)⟩⟩
 intro hc2 N;refine zS<|zZ<|kY (by kernel_rfl) (by kernel_rfl)<|fU 10 [0,0] [50,51,56] rfl<|bE N fun q1 hy2 N=>zLm rfl hy2<|bE N fun x1 hy3 N=>dQ rfl rfl h hy3 ?_;intro ad1 ccs1 hat1 hrep1;obtain rfl:=hrep1;refine eK 0 hat1 [.int .u8 (x1.toNat:Int)] (.int .u8 (x1.toNat:Int)) rfl<|fU 27 [0,0] [61,65,68,73] rfl<|bE N fun q2 hy4 N=>zLm rfl hy4<|bE N fun x2 hy5 N=>dQ rfl rfl h hy5 ?_;intro ad2 ccs2 hat2 hrep2;obtain rfl:=hrep2;refine eK 0 hat2 [.int .u8 (x2.toNat:Int)] (.int .u8 (x2.toNat:Int)) rfl<|fU 42 [0] [82,83,88] rfl<|bE N fun q3 hy6 N=>zM7 rfl hy6<|zGy [] [6] rfl<|vG [6] rfl<|yV<|yB 2 [] [96,97] rfl<|bE N fun q4 hy7 N=>zM8 rfl hy7<|yJ [] [4] rfl<|zI<|yW ?_;obtain rfl:=zC N;exact xA ⟨_,_,(.tmp rfl ResV.nil),(zX [0] rfl (by decide)),⟨_,_,rfl,rfl,rfl,(yR ⟨_,rfl,h⟩)⟩⟩
def zCd (b0:Nat) (r:Int×zL):KT:=fun kk I' hs' v=>
  ∃ v0 k0,hs'=[.blk b0 ⟨k0⟩]∧v=tupV [v0]∧v0=.int .i64 r.1∧Rp.rep I' k0 r.2
def xB (r0:zL) (list:(List Int)):Option (Int×zL):=do
 let (y1,y2)←yU r0 (list.length:Int)
 let x←idx list y1
 pure (x,y2)
theorem xN:∀ r0 list r,xB r0 list=some r→∀ {I:Imm}{r01:Nat}{p c p1 c1},(S4 I p r0.b c)→(S4 I p1 list c1)→RT 58 [vP r01 0,vS p1 list c1] I [hB r01 (cRd r0 p c)] (zCd r01 r):=by
 intro r0 list r N I r01 p c p1 c1 h h1;unfold xB at N;refine yM Tryz.func58 fun B=>vJ []<|yV<|yB 4 [] [5,6,8] rfl ?_;obtain ⟨⟨y1,y2⟩,hy,N⟩:=zB N;refine sE (xR r0 (list.length:Int) _ hy h) rfl ?_;rintro I0 hs2 v2 k2 le - ⟨v0,kk,rfl,rfl,rfl,h3⟩ -;have h1:=h1.mono le;obtain ⟨p2,c2,rfl,h4⟩:=yD h3;obtain ⟨x,hy1,N⟩:=zB N;refine xJ rfl rfl h1 hy1 ?_;intro ad ccs hat hrep;obtain rfl:=hrep;refine yX 0 hat [vI x] (vI x) rfl<|yJ [] [4] rfl<|zI<|yW ?_;obtain rfl:=zC N;exact xA ⟨_,_,(.tmp rfl ResV.nil),(zX [0] rfl (by decide)),⟨_,_,rfl,rfl,rfl,(yR ⟨_,rfl,h4⟩)⟩⟩
def zEl (r:(List zD)):KT:=fun kk I' hs' v=>
  ∃ v0,hs'=[]∧v=tupV [v0]∧SL I' v0 r
def sR (nest:(List zD)) (i:Int) (k0:Int) (Lo:List zA):Option (List zA):=do
 let x←idx nest i
 if (decide (k0 < (x.Lo.length:Int))) then
  let x1←idx nest i
  let x2←idx x1.Lo k0
  let l←app 8 ([]:List Int) x2.Coefs
  let l1←app 32 Lo ([(zA.mk l x2.Const)]:List zA)
  sR nest i (W (k0 + 1)) l1
 else
  pure (id Lo)
 partial_fixpoint
theorem zAZ (nest:(List zD)) (i:Int):∀ (k0:Int) (Lo:List zA) (o:List zA),sR nest i k0 Lo=some o→∀ {B}{I0 I:Imm}{Q}{τ:Type} [Rp τ] {out:List τ}{p c p1 c1 cs}{b1:Nat}{p3 c3 cs2},I0.le I→(S4 I p nest c)→(RL I cs out)→(RL I cs2 Lo)→NG Q→NO Q→(∀ (I':Imm) (Lo1:List zA) (p4:Option Addr) (c4:Nat) (cs3:List Value),o=Lo1→I0.le I'→(RL I' cs3 Lo1)→T 83 B Q (.exit 2) I' [hO zA (vS p4 Lo1 c4) cs3,hB b1 [vS p4 Lo1 c4,z0],hO τ (vS p1 out c1) cs] [(0,vS p nest c),(3,vS p1 out c1),(4,vI i),(5,vP b1 0)])→J Tryz.prog 83 B (nav (bodyOf Tryz.f141) [1,1,0,1,0,0,1,0,0,1,0,1,0]) Q I [hO zA (vS p3 Lo c3) cs2,hB b1 [vS p3 Lo c3,z0],hO τ (vS p1 out c1) cs] [(0,vS p nest c),(3,vS p1 out c1),(4,vI i),(5,vP b1 0),(6,vI k0)]:=by
 refine sR.partial_correctness nest i _ fun self ih k0 Lo o N B I0 I Q τ _ out p c p1 c1 cs b1 p3 c3 cs2 H h h2 h5 hg ho hx=>yT hg ho<|yC<|yF<|yB 3 [] [18,19,20] rfl<|bE N fun x hy N=>xJ rfl rfl h hy ?_;intro ad ccs hat hrep;obtain ⟨p5,c5,p6,c6,rfl,h7,h8⟩:=sB hrep;refine yB 5 [] [22] rfl<|yX 0 hat [vS p5 x.Lo c5] (vS p5 x.Lo c5) rfl<|yJ [] [25] rfl<|zI<|yE N ?_ ?_
 · intro hc1 N;refine zS<|zZ<|yH<|yF<|yB 2 [] [28,29] rfl<|bE N fun x1 hy1 N=>xJ rfl rfl h hy1 ?_;intro ad1 ccs1 hat1 hrep1;obtain ⟨p7,c7,p8,c8,rfl,h9,h10⟩:=sB hrep1;refine yB 4 [] [31] rfl<|yX 0 hat1 [vS p7 x1.Lo c7] (vS p7 x1.Lo c7) rfl<|yB 6 [] [33] rfl<|bE N fun x2 hy2 N=>xJ rfl rfl h9 hy2 ?_;intro ad2 ccs2 hat2 hrep2;obtain ⟨p9,c9,rfl,h11⟩:=yL hrep2;refine yX 0 hat2 (cAff x2 p9 c9) (vA (cAff x2 p9 c9)) rfl<|wH [z0,vI 0] ?_;intro b2 hb2;refine xI 0 (cAff x2 p9 c9) rfl<|yA rfl<|zI ?_;obtain ⟨l,hy3,N⟩:=zB N;obtain ⟨l1,hy4,N⟩:=zB N;refine wA [.p (vP b1 0) [],.p (vS p3 Lo c3) [1],.x (fun I' v hx=>∃ b3,v=vS (some ⟨b3,0,none⟩) ([]:List Int) 0∧hx=[hO Int (vS (some ⟨b3,0,none⟩) ([]:List Int) 0) []]∧(RL I' [] ([]:List Int))),.p (vP b2 0) [],.p (vS p9 x2.Coefs c9) [0],.x (fun I' v hx=>∃ p10 c10 cs4,v=vS p10 l c10∧hx=[hO Int (vS p10 l c10) cs4]∧(RL I' cs4 l)),.p (vP b2 1) [],.p (vI x2.Const) [0],.x (fun I' v hx=>∃ p101 c101 cs41,v=vA [vS p101 l c101,vI x2.Const]∧hx=[hO Int (vS p101 l c101) cs41]∧(RL I' cs41 l)),.x (fun I' v hx=>∃ b4,v=vS (some ⟨b4,0,none⟩) ([(zA.mk l x2.Const)]:List zA) 1∧hx=[]∧(SL I' (vS (some ⟨b4,0,none⟩) ([(zA.mk l x2.Const)]:List zA) 1) ([(zA.mk l x2.Const)]:List zA))),.x (fun I' v hx=>∃ p11 c11 cs5,v=vS p11 l1 c11∧hx=[hO zA (vS p11 l1 c11) cs5]∧(RL I' cs5 l1))] [[],[(0,false)],[],[],[(3,false)],[(2,true),(4,false)],[],[(6,false)],[(5,true),(7,false)],[(8,true)],[(1,false),(9,false),(13,true)]] [hB b2 (cAff x2 p9 c9),hB b1 [vS p3 Lo c3,z0],hO τ (vS p1 out c1) cs] [[hO zA (vS p3 Lo c3) cs2]] [(10,true)] (zY [0,2,3,1]) ?_ ?_
   · refine Op<|Op<|Ox ?_<|Op<|Op<|Ox ?_<|Op<|Op<|Ox ?_<|Ox ?_<|Ox ?_<|On
     · intro I1 hf le1;refine gY []<|tH [] Int ?_;intro b3 hb3;have h12:RL I1 [] ([]:List Int):=rfl;exact yI [hO Int (vS (some ⟨b3,0,none⟩) ([]:List Int) 0) []] iR ⟨_,rfl,rfl,h12⟩
     · rintro I1 hf le1 _ _ ⟨b3,rfl,rfl,h12⟩;refine yN [38,40] rfl ?_;have h11:=h11.mono le1;obtain ⟨ccs3,k01,k02⟩:=h11;have h11:SL I1 (vS p9 x2.Coefs c9) x2.Coefs:=⟨_,k01,k02⟩;exact qI 3 1 0 rfl rfl rfl h12 (.inl k01) k02 hy3 fun p10 c10 cs4 h13=>vH (hs':=(hO Int (vS p10 l c10) cs4::hB b2 (cAff x2 p9 c9)::hB b1 [vS p3 Lo c3,z0]::hO τ (vS p1 out c1) cs::hf)) rfl<|yI [hO Int (vS p10 l c10) cs4] iR ⟨_,_,_,rfl,rfl,h13⟩
     · rintro I1 hf le1 _ _ ⟨p10,c10,cs4,rfl,rfl,h13⟩;exact yN [41,43] rfl<|tM 9 [(44,vA [vS p10 l c10,vI x2.Const])]<|yI [hO Int (vS p10 l c10) cs4] iR ⟨_,_,_,rfl,rfl,h13⟩
     · rintro I1 hf le1 _ _ ⟨p101,c101,cs41,rfl,rfl,h131⟩;refine yN [44] rfl ?_;have H:=iS I1;refine xP 0 rfl ?_;intro I0 le hl0;have h14:=SL.of_frozen hl0 le h131;have H:=H.trans le;refine nQ (rc (zA.mk l x2.Const) (yO ⟨_,rfl,h14⟩) rN) ?_;intro b4 I01 le1 h16;have H:=H.trans le1;exact yI [] H ⟨_,rfl,rfl,h16⟩
     rintro I1 hf le1 _ _ ⟨rfl,rfl⟩ _ _ ⟨b4,rfl,rfl,h16⟩ _ _ rfl;refine yN [37,45] rfl ?_;have h5:=iM le1 h5;obtain ⟨ccs4,k03,k04⟩:=h16;have h16:SL I1 (vS (some ⟨b4,0,none⟩) ([(zA.mk l x2.Const)]:List zA) 1) ([(zA.mk l x2.Const)]:List zA):=⟨_,k03,k04⟩;exact qI 38 2 0 rfl rfl rfl h5 (.inl k03) k04 hy4 fun p11 c11 cs5 h17=>vH (hs':=(hO zA (vS p11 l1 c11) cs5::hB b2 (cAff x2 p9 c9)::hB b1 [vS p3 Lo c3,z0]::hO τ (vS p1 out c1) cs::hf)) rfl<|yI [hO zA (vS p11 l1 c11) cs5] iR ⟨_,_,_,rfl,rfl,h17⟩
   rintro I02 le2 _ _ ⟨p11,c11,cs5,rfl,rfl,h17⟩;refine yN [0,3,4,5,6,46] rfl ?_;have ⟨h,h2,H⟩:=m3 le2 h h2 H;exact yB 12 [] [47] rfl<|xI 2 [vS p11 l1 c11,z0] rfl<|yA rfl<|zP<|zI<|zK<|yJ [] [6] rfl<|yS<|kX (zX [0,2,3] rfl (by decide))<|nG<|ih (W (k0 + 1)) l1 _ N H h h2 h17 hg ho hx
 intro hc1 N;exact wT<|yQ<|hx _ _ _ _ _ (zC N).symm H h5
def sS (nest:(List zD)) (i:Int) (k05:Int) (Hi:List zA):Option (List zA):=do
 let x3←idx nest i
 if (decide (k05 < (x3.Hi.length:Int))) then
  let x4←idx nest i
  let x5←idx x4.Hi k05
  let l2←app 8 ([]:List Int) x5.Coefs
  let l3←app 32 Hi ([(zA.mk l2 x5.Const)]:List zA)
  sS nest i (W (k05 + 1)) l3
 else
  pure (id Hi)
 partial_fixpoint
theorem zA0 (nest:(List zD)) (i:Int):∀ (k05:Int) (Hi:List zA) (o:List zA),sS nest i k05 Hi=some o→∀ {B}{I0 I:Imm}{Q}{τ:Type} [Rp τ] {out:List τ}{Lo1:List zA}{p c p1 c1 cs}{b1:Nat}{p4 c4 cs3 p12 c12 cs6},I0.le I→(S4 I p nest c)→(RL I cs out)→(RL I cs3 Lo1)→(RL I cs6 Hi)→NG Q→NO Q→(∀ (I':Imm) (Hi1:List zA) (p13:Option Addr) (c13:Nat) (cs7:List Value),o=Hi1→I0.le I'→(RL I' cs7 Hi1)→T 83 B Q (.exit 4) I' [hO zA (vS p13 Hi1 c13) cs7,hO zA (vS p4 Lo1 c4) cs3,hB b1 [vS p4 Lo1 c4,vS p13 Hi1 c13],hO τ (vS p1 out c1) cs] [(0,vS p nest c),(3,vS p1 out c1),(4,vI i),(5,vP b1 0)])→J Tryz.prog 83 B (nav (bodyOf Tryz.f141) [1,1,0,1,0,0,1,0,0,1,1,0,1,0]) Q I [hO zA (vS p12 Hi c12) cs6,hO zA (vS p4 Lo1 c4) cs3,hB b1 [vS p4 Lo1 c4,vS p12 Hi c12],hO τ (vS p1 out c1) cs] [(0,vS p nest c),(3,vS p1 out c1),(4,vI i),(5,vP b1 0),(8,vI k05)]:=by
 refine sS.partial_correctness nest i _ fun self ih k05 Hi o N B I0 I Q τ _ out Lo1 p c p1 c1 cs b1 p4 c4 cs3 p12 c12 cs6 H h h2 h6 h19 hg ho hx=>yT hg ho<|yC<|yF<|yB 3 [] [48,49,50] rfl<|bE N fun x3 hy5 N=>xJ rfl rfl h hy5 ?_;intro ad3 ccs5 hat3 hrep3;obtain ⟨p14,c14,p15,c15,rfl,h21,h22⟩:=sB hrep3;refine yB 5 [] [52] rfl<|yX 1 hat3 [vS p15 x3.Hi c15] (vS p15 x3.Hi c15) rfl<|yJ [] [55] rfl<|zI<|yE N ?_ ?_
 · intro hc2 N;refine zS<|zZ<|yH<|yF<|yB 2 [] [58,59] rfl<|bE N fun x4 hy6 N=>xJ rfl rfl h hy6 ?_;intro ad4 ccs6 hat4 hrep4;obtain ⟨p16,c16,p17,c17,rfl,h23,h24⟩:=sB hrep4;refine yB 4 [] [61] rfl<|yX 1 hat4 [vS p17 x4.Hi c17] (vS p17 x4.Hi c17) rfl<|yB 6 [] [63] rfl<|bE N fun x5 hy7 N=>xJ rfl rfl h24 hy7 ?_;intro ad5 ccs7 hat5 hrep5;obtain ⟨p18,c18,rfl,h25⟩:=yL hrep5;refine yX 0 hat5 (cAff x5 p18 c18) (vA (cAff x5 p18 c18)) rfl<|wH [z0,vI 0] ?_;intro b5 hb5;refine xI 0 (cAff x5 p18 c18) rfl<|yA rfl<|zI ?_;obtain ⟨l2,hy8,N⟩:=zB N;obtain ⟨l3,hy9,N⟩:=zB N;refine wA [.p (vP b1 1) [],.p (vS p12 Hi c12) [2],.x (fun I' v hx=>∃ b6,v=vS (some ⟨b6,0,none⟩) ([]:List Int) 0∧hx=[hO Int (vS (some ⟨b6,0,none⟩) ([]:List Int) 0) []]∧(RL I' [] ([]:List Int))),.p (vP b5 0) [],.p (vS p18 x5.Coefs c18) [0],.x (fun I' v hx=>∃ p19 c19 cs8,v=vS p19 l2 c19∧hx=[hO Int (vS p19 l2 c19) cs8]∧(RL I' cs8 l2)),.p (vP b5 1) [],.p (vI x5.Const) [0],.x (fun I' v hx=>∃ p191 c191 cs81,v=vA [vS p191 l2 c191,vI x5.Const]∧hx=[hO Int (vS p191 l2 c191) cs81]∧(RL I' cs81 l2)),.x (fun I' v hx=>∃ b7,v=vS (some ⟨b7,0,none⟩) ([(zA.mk l2 x5.Const)]:List zA) 1∧hx=[]∧(SL I' (vS (some ⟨b7,0,none⟩) ([(zA.mk l2 x5.Const)]:List zA) 1) ([(zA.mk l2 x5.Const)]:List zA))),.x (fun I' v hx=>∃ p20 c20 cs9,v=vS p20 l3 c20∧hx=[hO zA (vS p20 l3 c20) cs9]∧(RL I' cs9 l3))] [[],[(0,false)],[],[],[(3,false)],[(2,true),(4,false)],[],[(6,false)],[(5,true),(7,false)],[(8,true)],[(1,false),(9,false),(13,true)]] [hB b5 (cAff x5 p18 c18),hO zA (vS p4 Lo1 c4) cs3,hB b1 [vS p4 Lo1 c4,vS p12 Hi c12],hO τ (vS p1 out c1) cs] [[hO zA (vS p12 Hi c12) cs6]] [(10,true)] (zY [0,2,3,4,1]) ?_ ?_
   · refine Op<|Op<|Ox ?_<|Op<|Op<|Ox ?_<|Op<|Op<|Ox ?_<|Ox ?_<|Ox ?_<|On
     · intro I1 hf le1;refine gY []<|tH [] Int ?_;intro b6 hb6;have h26:RL I1 [] ([]:List Int):=rfl;exact yI [hO Int (vS (some ⟨b6,0,none⟩) ([]:List Int) 0) []] iR ⟨_,rfl,rfl,h26⟩
     · rintro I1 hf le1 _ _ ⟨b6,rfl,rfl,h26⟩;refine yN [68,70] rfl ?_;have h25:=h25.mono le1;obtain ⟨ccs8,k06,k07⟩:=h25;have h25:SL I1 (vS p18 x5.Coefs c18) x5.Coefs:=⟨_,k06,k07⟩;exact qI 3 1 0 rfl rfl rfl h26 (.inl k06) k07 hy8 fun p19 c19 cs8 h27=>vH (hs':=(hO Int (vS p19 l2 c19) cs8::hB b5 (cAff x5 p18 c18)::hO zA (vS p4 Lo1 c4) cs3::hB b1 [vS p4 Lo1 c4,vS p12 Hi c12]::hO τ (vS p1 out c1) cs::hf)) rfl<|yI [hO Int (vS p19 l2 c19) cs8] iR ⟨_,_,_,rfl,rfl,h27⟩
     · rintro I1 hf le1 _ _ ⟨p19,c19,cs8,rfl,rfl,h27⟩;exact yN [71,73] rfl<|tM 9 [(74,vA [vS p19 l2 c19,vI x5.Const])]<|yI [hO Int (vS p19 l2 c19) cs8] iR ⟨_,_,_,rfl,rfl,h27⟩
     · rintro I1 hf le1 _ _ ⟨p191,c191,cs81,rfl,rfl,h271⟩;refine yN [74] rfl ?_;have H:=iS I1;refine xP 0 rfl ?_;intro I04 le4 hl02;have h28:=SL.of_frozen hl02 le4 h271;have H:=H.trans le4;refine nQ (rc (zA.mk l2 x5.Const) (yO ⟨_,rfl,h28⟩) rN) ?_;intro b7 I05 le5 h30;have H:=H.trans le5;exact yI [] H ⟨_,rfl,rfl,h30⟩
     rintro I1 hf le1 _ _ ⟨rfl,rfl⟩ _ _ ⟨b7,rfl,rfl,h30⟩ _ _ rfl;refine yN [67,75] rfl ?_;have h19:=iM le1 h19;obtain ⟨ccs9,k08,k09⟩:=h30;have h30:SL I1 (vS (some ⟨b7,0,none⟩) ([(zA.mk l2 x5.Const)]:List zA) 1) ([(zA.mk l2 x5.Const)]:List zA):=⟨_,k08,k09⟩;exact qI 38 2 0 rfl rfl rfl h19 (.inl k08) k09 hy9 fun p20 c20 cs9 h31=>vH (hs':=(hO zA (vS p20 l3 c20) cs9::hB b5 (cAff x5 p18 c18)::hO zA (vS p4 Lo1 c4) cs3::hB b1 [vS p4 Lo1 c4,vS p12 Hi c12]::hO τ (vS p1 out c1) cs::hf)) rfl<|yI [hO zA (vS p20 l3 c20) cs9] iR ⟨_,_,_,rfl,rfl,h31⟩
   rintro I06 le6 _ _ ⟨p20,c20,cs9,rfl,rfl,h31⟩;refine yN [0,3,4,5,8,76] rfl ?_;have ⟨h,h2,h6,H⟩:=m4 le6 h h2 h6 H;exact yB 12 [] [77] rfl<|xI 3 [vS p4 Lo1 c4,vS p20 l3 c20] rfl<|yA rfl<|zP<|zI<|zK<|yJ [] [8] rfl<|yS<|kX (zX [0,2,3,4] rfl (by decide))<|nG<|ih (W (k05 + 1)) l3 _ N H h h2 h6 h31 hg ho hx
 intro hc2 N;exact wT<|yQ<|hx _ _ _ _ _ (zC N).symm H h19
def uN (nest:(List zD)) (out:List zD) (i:Int):Option (List zD):=do
 if (decide (i < (nest.length:Int))) then
  let Lo1←sR nest i 0 ([]:List zA)
  let Hi1←sS nest i 0 ([]:List zA)
  let out2←app 48 out ([(zD.mk Lo1 Hi1)]:List zD)
  uN nest out2 (W (i + 1))
 else
  pure (id out)
 partial_fixpoint
theorem zDo (nest:(List zD)):∀ (out:List zD) (i:Int) (o:List zD),uN nest out i=some o→∀ {B}{I0 I:Imm}{Q p c p1 c1 cs},I0.le I→(S4 I p nest c)→(RL I cs out)→NG Q→NO Q→(∀ (I':Imm) (out1:List zD) (p2:Option Addr) (c2:Nat) (cs1:List Value),o=out1→I0.le I'→(RL I' cs1 out1)→T 83 B Q (.exit 0) I' [hO zD (vS p2 out1 c2) cs1] [(3,vS p2 out1 c2)])→J Tryz.prog 83 B (nav (bodyOf Tryz.f141) [1,1,0,1,0]) Q I [hO zD (vS p1 out c1) cs] [(0,vS p nest c),(3,vS p1 out c1),(4,vI i)]:=by
 refine uN.partial_correctness nest _ fun self ih out i o N B I0 I Q p c p1 c1 cs H h h2 hg ho hx=>yT hg ho<|yC<|yG [14] rfl<|zI<|yE N ?_ ?_
 · intro hc N;refine zS<|zZ<|yH<|yF<|yB 1 [] [17] rfl<|wH zTwo ?_;intro b1 hb1;refine zAf 0 zTwo [hB b1 zTwo,hO zD (vS p1 out c1) cs] rfl rfl rfl rfl<|yA rfl<|zZ<|yG [6] rfl<|xZ<|pJ [(0,vS p nest c),(3,vS p1 out c1),(4,vI i),(5,vP b1 0),(6,vI 0)]<|zAE zA fun h4=>?_;obtain ⟨o0,ho0,hMl⟩:=zB N;refine zAZ nest i 0 ([]:List zA) o0 ho0 iR h h2 h4 (fun _ _ _ h=>hg _ _ _ h) (fun _ _ h=>ho _ _ h) ?_;intro I03 Lo1 p4 c4 cs3 heq le3 h6;subst o0;have ⟨h,h2,H⟩:=m3 le3 h h2 H;refine zR<|zZ<|yG [8] rfl<|xZ<|pJ [(0,vS p nest c),(3,vS p1 out c1),(4,vI i),(5,vP b1 0),(8,vI 0)]<|zAE zA fun h18=>?_;obtain ⟨o01,ho01,hMl1⟩:=zB hMl;refine zA0 nest i 0 ([]:List zA) o01 ho01 iR h h2 h6 h18 (fun _ _ _ h=>hg _ _ _ h) (fun _ _ h=>ho _ _ h) ?_;intro I07 Hi1 p13 c13 cs7 heq1 le7 h20;subst o01;have ⟨h,h2,h6,H⟩:=m4 le7 h h2 h6 H;refine zR<|zI<|zK<|yB 2 [2] [78,79] rfl<|xP 1 rfl ?_;intro I08 le8 hl04;have h32:=SL.of_frozen hl04 le8 h6;have ⟨h,h2,h20,H⟩:=m4 le8 h h2 h20 H;refine xP 0 rfl ?_;intro I09 le9 hl05;have h33:=SL.of_frozen hl05 le9 h20;have ⟨h,h2,h32,H⟩:=m4 le9 h h2 h32 H;refine tH [vS p4 Lo1 c4,vS p13 Hi1 c13] zD ?_;intro b8 hb8;have h34:RL I09 [vS p4 Lo1 c4,vS p13 Hi1 c13] ([(zD.mk Lo1 Hi1)]:List zD):=⟨[vS p4 Lo1 c4,vS p13 Hi1 c13],_,rfl,rfl,(rL ⟨_,_,rfl,h32,h33⟩),rfl⟩;obtain ⟨out2,hy10,N⟩:=zB hMl1;exact qI 170 2 2 rfl rfl rfl h2 (.inr ⟨0,rfl⟩) h34 hy10 fun p21 c21 cs10 h35=>sD (zY [1,2] (hs':=[hB b1 [vS p4 Lo1 c4,vS p13 Hi1 c13],hO zD (vS p21 out2 c21) cs10]))<|yJ [] [3] rfl<|zP<|zI<|zK<|yJ [] [4] rfl<|yS<|kX (zX [1] rfl (by decide))<|nG<|ih out2 (W (i + 1)) _ N H h h35 hg ho hx
 intro hc N;exact wT<|yQ<|hx _ _ _ _ _ (zC N).symm H h2
def nK (nest:(List zD)):Option ((List zD)):=do
 let out1←uN nest ([]:List zD) 0
 pure (id out1)
theorem zCH:∀ nest r,nK nest=some r→∀ {I:Imm}{p c},(S4 I p nest c)→RT 141 [vS p nest c] I [] (zEl  r):=by
 intro nest r N I p c h;unfold nK at N;refine yM Tryz.func141 fun B=>vJ []<|yV<|tH [] zD ?_;intro b hb;have h1:RL I [] ([]:List zD):=rfl;refine yJ [] [3] rfl<|zZ<|yG [4] rfl<|xZ<|pJ [(0,vS p nest c),(3,vS (some ⟨b,0,none⟩) ([]:List zD) 0),(4,vI 0)] ?_;obtain ⟨o02,ho02,hMl2⟩:=zB N;refine zDo nest ([]:List zD) 0 o02 ho02 iR h h1 (fun _ _ _ h=>h) (fun _ _ h=>h) ?_;intro I010 out1 p2 c2 cs1 heq2 le10 h3;subst o02;refine zR<|vG [2] rfl<|xG<|yY 0 rfl ?_;intro I011 le11 hl06;have h36:=SL.of_frozen hl06 le11 h3;obtain rfl:=zC hMl2;exact xA ⟨_,_,(.tmp rfl ResV.nil),zQ,⟨_,rfl,rfl,h36⟩⟩
def jF (r:zA):KT:=fun kk I' hs' v=>
  ∃ v0,hs'=[]∧v=tupV [v0]∧(∃ cs,v0=.agg ⟨cs⟩∧Rp.rep I' cs r)
def tW (a0:zA):Option (zA):=do
 if ((a0.Coefs.length:Int) == 0) then
  pure (zA.mk ([]:List Int) a0.Const)
 else
  let l←app 8 ([]:List Int) a0.Coefs
  pure (zA.mk l a0.Const)
theorem dD:∀ a0 r,tW a0=some r→∀ {I:Imm}{p c},(S4 I p a0.Coefs c)→RT 232 [vA (cAff a0 p c)] I [] (jF  r):=by
 intro a0 r N I p c h;unfold tW at N;refine yM Tryz.func232 fun B=>yF<|vX (cAff a0 p c) ?_;intro b hb;refine wH [z0,vI 0] ?_;intro b1 hb1;refine yA rfl<|zZ<|yF<|yJ [1] [6] rfl<|zI<|yE N ?_ ?_
 · intro hc N;refine yF<|yB 3 [1] [9] rfl<|xI 0 [z0,vI a0.Const] rfl<|yA rfl<|xG<|zH ?_;obtain rfl:=zC N;exact xA ⟨_,_,(.cell 0 rfl rfl (by kernel_rfl) ResV.nil),zQ,⟨_,rfl,rfl,⟨_,rfl,(yO ⟨_,rfl,(SL.nil _)⟩)⟩⟩⟩
 intro hc N;refine zS<|zZ<|bE N fun l hy N=>wA [.x (fun I' v hx=>∃ b2,v=vS (some ⟨b2,0,none⟩) ([]:List Int) 0∧hx=[hO Int (vS (some ⟨b2,0,none⟩) ([]:List Int) 0) []]∧(RL I' [] ([]:List Int))),.p (vP b 0) [],.p (vS p a0.Coefs c) [1],.x (fun I' v hx=>∃ p1 c1 cs,v=vS p1 l c1∧hx=[hO Int (vS p1 l c1) cs]∧(RL I' cs l)),.p (vP b 1) [],.p (vI a0.Const) [1],.x (fun I' v hx=>∃ p11 c11 cs1,v=vA [vS p11 l c11,vI a0.Const]∧hx=[hO Int (vS p11 l c11) cs1]∧(RL I' cs1 l))] [[],[],[(1,false)],[(0,true),(2,false)],[],[(4,false)],[(3,true),(5,false)]] [hB b1 [z0,vI 0],hB b (cAff a0 p c)] [] [(6,true)] (zY [0,1]) ?_ ?_
 · refine Ox ?_<|Op<|Op<|Ox ?_<|Op<|Op<|Ox ?_<|On
   · intro I1 hf le1;refine gY []<|tH [] Int ?_;intro b2 hb2;have h1:RL I1 [] ([]:List Int):=rfl;exact yI [hO Int (vS (some ⟨b2,0,none⟩) ([]:List Int) 0) []] iR ⟨_,rfl,rfl,h1⟩
   · rintro I1 hf le1 _ _ ⟨b2,rfl,rfl,h1⟩;refine yN [10,12] rfl ?_;have h:=h.mono le1;obtain ⟨ccs,k0,k01⟩:=h;have h:SL I1 (vS p a0.Coefs c) a0.Coefs:=⟨_,k0,k01⟩;exact qI 3 1 0 rfl rfl rfl h1 (.inl k0) k01 hy fun p1 c1 cs h2=>vH (hs':=(hO Int (vS p1 l c1) cs::hB b1 [z0,vI 0]::hB b (cAff a0 p c)::hf)) rfl<|yI [hO Int (vS p1 l c1) cs] iR ⟨_,_,_,rfl,rfl,h2⟩
   rintro I1 hf le1 _ _ ⟨p1,c1,cs,rfl,rfl,h2⟩;exact yN [13,15] rfl<|tM 7 [(16,vA [vS p1 l c1,vI a0.Const])]<|yI [hO Int (vS p1 l c1) cs] iR ⟨_,_,_,rfl,rfl,h2⟩
 rintro I0 le _ _ ⟨p11,c11,cs1,rfl,rfl,h21⟩;refine yN [2,16] rfl ?_;refine xI 1 [vS p11 l c11,vI a0.Const] rfl<|yA rfl<|xG<|yY 0 rfl ?_;intro I01 le1 hl0;have h3:=SL.of_frozen hl0 le1 h21;obtain rfl:=zC N;exact xA ⟨_,_,(.cell 0 rfl rfl (by kernel_rfl) ResV.nil),zQ,⟨_,rfl,rfl,⟨_,rfl,(yO ⟨_,rfl,h3⟩)⟩⟩⟩
def zBU (r:zJ):KT:=fun kk I' hs' v=>
  ∃ a0_1 c0_1 s0_1,hs'=[.osl (.slice a0_1 r.Subs.length c0_1) (Rp.sz zA) s0_1]∧v=tupV [(.agg ⟨[.string ⟨⟨r.Array.l⟩⟩,.slice a0_1 r.Subs.length c0_1]⟩)]∧RepL (Rp.rep I') (Rp.sz zA) s0_1 r.Subs
def wC (a0:zJ) (i:Int) (Subs:List zA):Option (List zA):=do
 if (decide (i < (a0.Subs.length:Int))) then
  let x←idx a0.Subs i
  let y←tW x
  let l←app 32 Subs ([y]:List zA)
  wC a0 (W (i + 1)) l
 else
  pure (id Subs)
 partial_fixpoint
theorem zAz (a0:zJ):∀ (i:Int) (Subs:List zA) (o:List zA),wC a0 i Subs=some o→∀ {B}{I0 I:Imm}{Q p c}{b:Nat}{b1:Nat}{b2:Nat}{p1 c1 cs},I0.le I→(S4 I p a0.Subs c)→(RL I cs Subs)→NG Q→NO Q→(∀ (I':Imm) (Subs1:List zA) (p2:Option Addr) (c2:Nat) (cs1:List Value),o=Subs1→I0.le I'→(RL I' cs1 Subs1)→T 27 B Q (.exit 0) I' [hO zA (vS p2 Subs1 c2) cs1,hB b2 [vT a0.Array.l,vS p2 Subs1 c2],hB b1 [vT ([]),z0]] [(2,vP b1 0),(3,vP b2 0)])→J Tryz.prog 27 B (nav (bodyOf Tryz.f184) [1,1,0,1,0]) Q I [hO zA (vS p1 Subs c1) cs,hB b2 [vT a0.Array.l,vS p1 Subs c1],hB b1 [vT ([]),z0],hB b (cAccess a0 p c)] [(1,vP b 0),(2,vP b1 0),(3,vP b2 0),(4,vI i)]:=by
 refine wC.partial_correctness a0 _ fun self ih i Subs o N B I0 I Q p c b b1 b2 p1 c1 cs H h h2 hg ho hx=>yT hg ho<|yC<|yF<|yJ [3] [12] rfl<|zI<|yE N ?_ ?_
 · intro hc N;refine zS<|zZ<|yH ?_;obtain ⟨x,hy,N⟩:=zB N;obtain ⟨y,hy1,N⟩:=zB N;obtain ⟨l,hy2,N⟩:=zB N;refine wA [.p (vP b2 1) [],.p (vS p1 Subs c1) [0],.p (vP b 1) [],.p (vS p a0.Subs c) [2],.p (vI i) [],.x (ePAff x),.x (eVAff x),.x (eVAff y),.x (fun I' v hx=>∃ b3,v=vS (some ⟨b3,0,none⟩) ([y]:List zA) 1∧hx=[]∧(SL I' (vS (some ⟨b3,0,none⟩) ([y]:List zA) 1) ([y]:List zA))),.x (fun I' v hx=>∃ p5 c5 cs3,v=vS p5 l c5∧hx=[hO zA (vS p5 l c5) cs3]∧(RL I' cs3 l))] [[],[(0,false)],[],[(2,false)],[],[(3,false),(4,false)],[(5,false)],[(6,false)],[(7,false)],[(1,false),(8,false),(12,true)]] [hB b2 [vT a0.Array.l,vS p1 Subs c1],hB b1 [vT ([]),z0],hB b (cAccess a0 p c)] [[hO zA (vS p1 Subs c1) cs]] [(9,true)] (zY [1,2,3,0]) ?_ ?_
   · refine Op<|Op<|Op<|Op<|Op<|Ox ?_<|Ox ?_<|Ox ?_<|Ox ?_<|Ox ?_<|On
     · intro I1 hf le1;refine yN [18,19] rfl ?_;have h:=h.mono le1;refine xJ rfl rfl h hy ?_;intro ad ccs hat hrep;obtain ⟨p3,c3,rfl,h4⟩:=yL hrep;exact yI [] iR ⟨_,_,_,rfl,rfl,hat,h4⟩
     · rintro I1 hf le1 _ _ ⟨ad,p3,c3,rfl,rfl,hat,h4⟩;exact yN [20] rfl<|yX 0 hat (cAff x p3 c3) (vA (cAff x p3 c3)) rfl<|yI [] iR ⟨_,_,rfl,rfl,h4⟩
     · rintro I1 hf le1 _ _ ⟨p31,c31,rfl,rfl,h41⟩;refine yN [21] rfl ?_;have H:=iS I1;refine xQ (dD x _ hy1 h41) ?_;rintro I0 hs2 v2 k2 le - ⟨v01,rfl,rfl,⟨cs2,rfl,h5⟩⟩ -;have H:=H.trans le;obtain ⟨p4,c4,rfl,h6⟩:=yL h5;exact yI [] H ⟨_,_,rfl,rfl,h6⟩
     · rintro I1 hf le1 _ _ ⟨p4,c4,rfl,rfl,h6⟩;refine yN [22] rfl ?_;have H:=iS I1;refine nQ (rc y (yO ⟨_,rfl,h6⟩) rN) ?_;intro b3 I01 le1 h8;have H:=H.trans le1;exact yI [] H ⟨_,rfl,rfl,h8⟩
     rintro I1 hf le1 _ _ ⟨rfl,rfl⟩ _ _ ⟨b3,rfl,rfl,h8⟩ _ _ rfl;refine yN [16,23] rfl ?_;have h2:=iM le1 h2;obtain ⟨ccs1,k0,k01⟩:=h8;have h8:SL I1 (vS (some ⟨b3,0,none⟩) ([y]:List zA) 1) ([y]:List zA):=⟨_,k0,k01⟩;exact qI 38 2 0 rfl rfl rfl h2 (.inl k0) k01 hy2 fun p5 c5 cs3 h9=>vH (hs':=(hO zA (vS p5 l c5) cs3::hB b2 [vT a0.Array.l,vS p1 Subs c1]::hB b1 [vT ([]),z0]::hB b (cAccess a0 p c)::hf)) rfl<|yI [hO zA (vS p5 l c5) cs3] iR ⟨_,_,_,rfl,rfl,h9⟩
   rintro I02 le2 _ _ ⟨p5,c5,cs3,rfl,rfl,h9⟩;refine yN [1,2,3,4,24] rfl ?_;have ⟨h,H⟩:=m2 le2 h H;exact yB 11 [] [25] rfl<|xI 1 [vT a0.Array.l,vS p5 l c5] rfl<|yA rfl<|zP<|zI<|zK<|yJ [] [4] rfl<|yS<|nG<|ih (W (i + 1)) l _ N H h h9 hg ho hx
 intro hc N;exact wT<|xT (zX [0,1,2] rfl (by decide))<|yQ<|hx _ _ _ _ _ (zC N).symm H h2
def uI (a0:zJ):Option (zJ):=do
 let Subs1←wC a0 0 ([]:List zA)
 pure (zJ.mk a0.Array Subs1)
theorem gE:∀ a0 r,uI a0=some r→∀ {I:Imm}{p c},(S4 I p a0.Subs c)→RT 184 [vA (cAccess a0 p c)] I [] (zBU  r):=by
 intro a0 r N I p c h;unfold uI at N;refine yM Tryz.func184 fun B=>yF<|vX (cAccess a0 p c) ?_;intro b hb;refine wH [vT ([]),z0] ?_;intro b1 hb1;refine yA rfl<|yV<|yB 3 [1] [7] rfl<|wH [vT ([]),z0] ?_;intro b2 hb2;refine xI 0 [vT a0.Array.l,z0] rfl<|yA rfl<|zZ<|yG [4] rfl<|xZ<|pJ [(1,vP b 0),(2,vP b1 0),(3,vP b2 0),(4,vI 0)]<|zAE zA fun h1=>?_;obtain ⟨o0,ho0,hMl⟩:=zB N;refine zAz a0 0 ([]:List zA) o0 ho0 iR h h1 (fun _ _ _ h=>h) (fun _ _ h=>h) ?_;intro I03 Subs1 p2 c2 cs1 heq le3 h3;subst o0;refine zR<|yV<|yB 1 [1] [26] rfl<|xI 2 [vT a0.Array.l,vS p2 Subs1 c2] rfl<|yA rfl<|zI<|yW ?_;obtain rfl:=zC hMl;exact xA ⟨_,_,(.cell 2 rfl rfl (by kernel_rfl) ResV.nil),(zX [0] rfl (by decide)),⟨_,_,_,rfl,rfl,h3⟩⟩
def dE (r:zG):KT:=fun kk I' hs' v=>
  ∃ a0_2 c0_2 a0_5 c0_5 a0_6 c0_6 s0_6,hs'=[.osl (.slice a0_6 r.Kids.length c0_6) (Rp.sz zG) s0_6]∧v=tupV [(.agg ⟨[.int .i64 r.Kind,.int .i64 r.Num,.slice a0_2 r.Index.Coefs.length c0_2,.int .i64 r.Index.Const,.string ⟨⟨r.Read.Array.l⟩⟩,.slice a0_5 r.Read.Subs.length c0_5,.slice a0_6 r.Kids.length c0_6]⟩)]∧SL I' (.slice a0_2 r.Index.Coefs.length c0_2) r.Index.Coefs∧SL I' (.slice a0_5 r.Read.Subs.length c0_5) r.Read.Subs∧RepL (Rp.rep I') (Rp.sz zG) s0_6 r.Kids
mutual
def qR (e0:zG):Option (zG):=do
 let y←tW e0.Index
 let y1←uI e0.Read
 let Kids1←uC (same e0) (same 0) ([]:List zG)
 pure (zG.mk e0.Kind e0.Num y (zJ.mk y1.Array y1.Subs) Kids1)
 partial_fixpoint
def uC (e0:zG) (i:Int) (Kids:List zG):Option (List zG):=do
 if (decide (i < (e0.Kids.length:Int))) then
  let x←idx e0.Kids i
  let y2←qR (same x)
  let l←app 112 Kids ([y2]:List zG)
  uC (same e0) (W (i + 1)) (same l)
 else
  pure (id Kids)
 partial_fixpoint
end
theorem zCe:(∀ (e0:zG) r,qR e0=some r→∀ {I:Imm}{p c p1 c1 p2 c2},(S4 I p e0.Index.Coefs c)→(S4 I p1 e0.Read.Subs c1)→(S4 I p2 e0.Kids c2)→RT 185 [vA (cExpr e0 p c p1 c1 p2 c2)] I [] (dE  r))∧(∀ (e0:zG) (i:Int) (Kids:List zG) o,uC e0 i Kids=some o→∀ {B}{I0 I:Imm}{Q}{y:zA}{y1:zJ}{p c p1 c1 p2 c2}{b:Nat}{b1:Nat}{p31 c31 p41 c41 cs11}{b2:Nat}{p5 c5 cs2},I0.le I→(S4 I p31 y.Coefs c31)→(RL I cs11 y1.Subs)→(S4 I p e0.Index.Coefs c)→(S4 I p1 e0.Read.Subs c1)→(S4 I p2 e0.Kids c2)→(RL I cs2 Kids)→NG Q→NO Q→(∀ (I':Imm) (Kids1:List zG) (p6:Option Addr) (c6:Nat) (cs3:List Value),o=Kids1→I0.le I'→(RL I' cs3 Kids1)→T 35 B Q (.exit 0) I' [hO zG (vS p6 Kids1 c6) cs3,hB b2 [vI e0.Kind,vI e0.Num,vS p31 y.Coefs c31,vI y.Const,vT y1.Array.l,vS p41 y1.Subs c41,vS p6 Kids1 c6],hO zA (vS p41 y1.Subs c41) cs11,hB b1 zExpr] [(2,vP b1 0),(3,vP b2 0)])→J Tryz.prog 35 B (nav (bodyOf Tryz.f185) [1,1,0,1,0]) Q I [hO zG (vS p5 Kids c5) cs2,hB b2 [vI e0.Kind,vI e0.Num,vS p31 y.Coefs c31,vI y.Const,vT y1.Array.l,vS p41 y1.Subs c41,vS p5 Kids c5],hO zA (vS p41 y1.Subs c41) cs11,hB b1 zExpr,hB b (cExpr e0 p c p1 c1 p2 c2)] [(1,vP b 0),(2,vP b1 0),(3,vP b2 0),(4,vI i)]):=by
  refine qR.mutual_partial_correctness _ _ ?_ ?_
  · intro F_spec_l3CopyExpr_l1 ih_spec_l3CopyExpr_l1 e0 r N I p c p1 c1 p2 c2 h h1 h2;refine yM Tryz.func185 fun B=>?_;have H:=iS I;refine yF<|vX (cExpr e0 p c p1 c1 p2 c2) ?_;intro b hb;refine wH zExpr ?_;intro b1 hb1;refine yA rfl<|zI<|yC ?_;obtain ⟨y,hy,N⟩:=zB N;obtain ⟨y1,hy1,N⟩:=zB N;refine wA [.p (vP b 0) [],.p (vI e0.Kind) [1],.p (vP b 1) [],.p (vI e0.Num) [1],.p (vP b 2) [],.p (vA (cAff e0.Index p c)) [1],.x (eVAff y),.p (vP b 4) [],.p (vA (cAccess e0.Read p1 c1)) [1],.x (fun I' v hx=>∃ p4 c4 cs1,v=vA (cAccess y1 p4 c4)∧hx=[hO zA (vS p4 y1.Subs c4) cs1]∧(RL I' cs1 y1.Subs)),.x (fun I' v hx=>∃ p31 c31 p41 c41 cs11,v=vA [vI e0.Kind,vI e0.Num,vS p31 y.Coefs c31,vI y.Const,vT y1.Array.l,vS p41 y1.Subs c41,z0]∧hx=[hO zA (vS p41 y1.Subs c41) cs11]∧(S4 I' p31 y.Coefs c31)∧(RL I' cs11 y1.Subs)),.x (fun I' v hx=>∃ b2,v=vP b2 0∧hx=[hB b2 zExpr])] [[],[(0,false)],[],[(2,false)],[],[(4,false)],[(5,false)],[],[(7,false)],[(8,false)],[(1,false),(3,false),(6,false),(9,true)],[]] [hB b1 zExpr,hB b (cExpr e0 p c p1 c1 p2 c2)] [] [(10,true),(11,true)] (zY [0,1]) ?_ ?_
    · refine Op<|Op<|Op<|Op<|Op<|Op<|Ox ?_<|Op<|Op<|Ox ?_<|Ox ?_<|Ox ?_<|On
      · intro I1 hf le1;refine yN [10] rfl ?_;have H:=iS I1;have h:=h.mono le1;refine xQ (dD e0.Index _ hy h) ?_;rintro I0 hs2 v2 k2 le - ⟨v0,rfl,rfl,⟨cs,rfl,h3⟩⟩ -;have H:=H.trans le;obtain ⟨p3,c3,rfl,h4⟩:=yL h3;exact yI [] H ⟨_,_,rfl,rfl,h4⟩
      · intro I1 hf le1;refine yN [13] rfl ?_;have H:=iS I1;have h1:=h1.mono le1;refine xQ (gE e0.Read _ hy1 h1) ?_;rintro I01 hs2 v2 k2 le1 - ⟨p4,c4,cs1,rfl,rfl,h5⟩ -;have H:=H.trans le1;exact yI [hO zA (vS p4 y1.Subs c4) cs1] H ⟨_,_,_,rfl,rfl,h5⟩
      · rintro I1 hf le1 _ _ ⟨rfl,rfl⟩ _ _ ⟨rfl,rfl⟩ _ _ ⟨p3,c3,rfl,rfl,h4⟩ _ _ ⟨p4,c4,cs1,rfl,rfl,h5⟩;exact yN [6,8,11,14] rfl<|tM 11 [(15,vA [vI e0.Kind,vI e0.Num,vS p3 y.Coefs c3,vI y.Const,vT y1.Array.l,vS p4 y1.Subs c4,z0])]<|yI [hO zA (vS p4 y1.Subs c4) cs1] iR ⟨_,_,_,_,_,rfl,rfl,h4,h5⟩
      intro I1 hf le1;refine gY []<|wH zExpr ?_;intro b2 hb2;exact yI [hB b2 zExpr] iR ⟨_,rfl,rfl⟩
    rintro I02 le2 _ _ ⟨p31,c31,p41,c41,cs11,rfl,rfl,h41,h51⟩ _ _ ⟨b2,rfl,rfl⟩;refine yN [1,2,3,15] rfl ?_;have ⟨h,h1,h2⟩:=m3 le2 h h1 h2;refine xI 0 [vI e0.Kind,vI e0.Num,vS p31 y.Coefs c31,vI y.Const,vT y1.Array.l,vS p41 y1.Subs c41,z0] rfl<|yA rfl<|zZ<|yG [4] rfl<|xZ<|pJ [(1,vP b 0),(2,vP b1 0),(3,vP b2 0),(4,vI 0)]<|zAE zG fun h6=>?_;obtain ⟨o0,ho0,hMl⟩:=zB N;refine ih_spec_l3CopyExpr_l1 e0 0 ([]:List zG) o0 ho0 iR h41 h51 h h1 h2 h6 (fun _ _ _ h=>h) (fun _ _ h=>h) ?_;intro I07 Kids1 p6 c6 cs3 heq le7 h8;subst o0;have ⟨h41,h51⟩:=m2 le7 h41 h51;refine zR<|yV<|yB 1 [1] [34] rfl<|xI 3 [vI e0.Kind,vI e0.Num,vS p31 y.Coefs c31,vI y.Const,vT y1.Array.l,vS p41 y1.Subs c41,vS p6 Kids1 c6] rfl<|yA rfl<|xG<|yY 2 rfl ?_;intro I08 le8 hl02;have h19:=SL.of_frozen hl02 le8 h51;have ⟨h8,h41⟩:=m2 le8 h8 h41;obtain rfl:=zC hMl;exact xA ⟨_,_,(.cell 2 rfl rfl (by kernel_rfl) ResV.nil),(zX [0] rfl (by decide)),⟨_,_,_,_,_,_,_,rfl,rfl,h41,h19,h8⟩⟩
  intro F_spec_l3CopyExpr F_spec_l3CopyExpr_l1 ih_spec_l3CopyExpr ih_spec_l3CopyExpr_l1 e0 i Kids o N B I0 I Q y y1 p c p1 c1 p2 c2 b b1 p31 c31 p41 c41 cs11 b2 p5 c5 cs2 H h41 h51 h h1 h2 h7 hg ho hx;refine yT hg ho<|yC<|yF<|yJ [4] [20] rfl<|zI<|yE N ?_ ?_
  · intro hc N;refine zS<|zZ<|yH ?_;obtain ⟨x,hy2,N⟩:=zB N;obtain ⟨y2,hy3,N⟩:=zB N;obtain ⟨l,hy4,N⟩:=zB N;refine wA [.p (vP b2 6) [],.p (vS p5 Kids c5) [0],.p (vP b 6) [],.p (vS p2 e0.Kids c2) [3],.p (vI i) [],.x (ePExpr x),.x (eVExpr x),.x (fun I' v hx=>∃ p10 c10 p11 c11 p12 c12 cs4,v=vA (cExpr y2 p10 c10 p11 c11 p12 c12)∧hx=[hO zG (vS p12 y2.Kids c12) cs4]∧(S4 I' p10 y2.Index.Coefs c10)∧(S4 I' p11 y2.Read.Subs c11)∧(RL I' cs4 y2.Kids)),.x (fun I' v hx=>∃ b3,v=vS (some ⟨b3,0,none⟩) ([y2]:List zG) 1∧hx=[]∧(SL I' (vS (some ⟨b3,0,none⟩) ([y2]:List zG) 1) ([y2]:List zG))),.x (fun I' v hx=>∃ p13 c13 cs5,v=vS p13 l c13∧hx=[hO zG (vS p13 l c13) cs5]∧(RL I' cs5 l))] [[],[(0,false)],[],[(2,false)],[],[(3,false),(4,false)],[(5,false)],[(6,false)],[(7,true)],[(1,false),(8,false),(12,true)]] [hB b2 [vI e0.Kind,vI e0.Num,vS p31 y.Coefs c31,vI y.Const,vT y1.Array.l,vS p41 y1.Subs c41,vS p5 Kids c5],hO zA (vS p41 y1.Subs c41) cs11,hB b1 zExpr,hB b (cExpr e0 p c p1 c1 p2 c2)] [[hO zG (vS p5 Kids c5) cs2]] [(9,true)] (zY [1,2,3,4,0]) ?_ ?_
    · refine Op<|Op<|Op<|Op<|Op<|Ox ?_<|Ox ?_<|Ox ?_<|Ox ?_<|Ox ?_<|On
      · intro I1 hf le1;refine yN [26,27] rfl ?_;have h2:=h2.mono le1;refine xJ rfl rfl h2 hy2 ?_;intro ad ccs hat hrep;obtain ⟨p7,c7,p8,c8,p9,c9,rfl,h9,h10,h11⟩:=xS hrep;exact yI [] iR ⟨_,_,_,_,_,_,_,rfl,rfl,hat,h9,h10,h11⟩
      · rintro I1 hf le1 _ _ ⟨ad,p7,c7,p8,c8,p9,c9,rfl,rfl,hat,h9,h10,h11⟩;exact yN [28] rfl<|yX 0 hat (cExpr x p7 c7 p8 c8 p9 c9) (vA (cExpr x p7 c7 p8 c8 p9 c9)) rfl<|yI [] iR ⟨_,_,_,_,_,_,rfl,rfl,h9,h10,h11⟩
      · rintro I1 hf le1 _ _ ⟨p71,c71,p81,c81,p91,c91,rfl,rfl,h91,h101,h111⟩;refine yN [29] rfl ?_;have H:=iS I1;refine xQ (ih_spec_l3CopyExpr x _ hy3 h91 h101 h111) ?_;rintro I03 hs2 v2 k2 le3 - ⟨p10,c10,p11,c11,p12,c12,cs4,rfl,rfl,h12,h13,h14⟩ -;have H:=H.trans le3;exact yI [hO zG (vS p12 y2.Kids c12) cs4] H ⟨_,_,_,_,_,_,_,rfl,rfl,h12,h13,h14⟩
      · rintro I1 hf le1 _ _ ⟨p10,c10,p11,c11,p12,c12,cs4,rfl,rfl,h12,h13,h14⟩;refine yN [30] rfl ?_;have H:=iS I1;refine xP 0 rfl ?_;intro I04 le4 hl0;have h15:=SL.of_frozen hl0 le4 h14;have ⟨h12,h13,H⟩:=m3 le4 h12 h13 H;refine nQ (rc y2 (xV ⟨_,_,_,rfl,h12,h13,h15⟩) rN) ?_;intro b3 I05 le5 h17;have H:=H.trans le5;exact yI [] H ⟨_,rfl,rfl,h17⟩
      rintro I1 hf le1 _ _ ⟨rfl,rfl⟩ _ _ ⟨b3,rfl,rfl,h17⟩ _ _ rfl;refine yN [24,31] rfl ?_;have h7:=iM le1 h7;obtain ⟨ccs1,k0,k01⟩:=h17;have h17:SL I1 (vS (some ⟨b3,0,none⟩) ([y2]:List zG) 1) ([y2]:List zG):=⟨_,k0,k01⟩;exact qI 41 7 0 rfl rfl rfl h7 (.inl k0) k01 hy4 fun p13 c13 cs5 h18=>vH (hs':=(hO zG (vS p13 l c13) cs5::hB b2 [vI e0.Kind,vI e0.Num,vS p31 y.Coefs c31,vI y.Const,vT y1.Array.l,vS p41 y1.Subs c41,vS p5 Kids c5]::hO zA (vS p41 y1.Subs c41) cs11::hB b1 zExpr::hB b (cExpr e0 p c p1 c1 p2 c2)::hf)) rfl<|yI [hO zG (vS p13 l c13) cs5] iR ⟨_,_,_,rfl,rfl,h18⟩
    rintro I06 le6 _ _ ⟨p13,c13,cs5,rfl,rfl,h18⟩;refine yN [1,2,3,4,32] rfl ?_;have ⟨h41,h51,h,h1,h2,H⟩:=m6 le6 h41 h51 h h1 h2 H;exact yB 11 [] [33] rfl<|xI 1 [vI e0.Kind,vI e0.Num,vS p31 y.Coefs c31,vI y.Const,vT y1.Array.l,vS p41 y1.Subs c41,vS p13 l c13] rfl<|yA rfl<|zP<|zI<|zK<|yJ [] [4] rfl<|yS<|nG<|ih_spec_l3CopyExpr_l1 e0 (W (i + 1)) l _ N H h41 h51 h h1 h2 h18 hg ho hx
  intro hc N;exact wT<|xT (zX [0,1,2,3] rfl (by decide))<|yQ<|hx _ _ _ _ _ (zC N).symm H h7
theorem zDM:∀ e0 r,qR e0=some r→∀ {I:Imm}{p c p1 c1 p2 c2},(S4 I p e0.Index.Coefs c)→(S4 I p1 e0.Read.Subs c1)→(S4 I p2 e0.Kids c2)→RT 185 [vA (cExpr e0 p c p1 c1 p2 c2)] I [] (dE  r):=zCe.1
def zEm (r:zN):KT:=fun kk I' hs' v=>
  ∃ a0_1 c0_1 s0_1 a0_4 c0_4 a0_7 c0_7 a0_8 c0_8 s0_8,hs'=[.osl (.slice a0_1 r.Write.Subs.length c0_1) (Rp.sz zA) s0_1,.osl (.slice a0_8 r.Value.Kids.length c0_8) (Rp.sz zG) s0_8]∧v=tupV [(.agg ⟨[.string ⟨⟨r.Write.Array.l⟩⟩,.slice a0_1 r.Write.Subs.length c0_1,.int .i64 r.Value.Kind,.int .i64 r.Value.Num,.slice a0_4 r.Value.Index.Coefs.length c0_4,.int .i64 r.Value.Index.Const,.string ⟨⟨r.Value.Read.Array.l⟩⟩,.slice a0_7 r.Value.Read.Subs.length c0_7,.slice a0_8 r.Value.Kids.length c0_8]⟩)]∧RepL (Rp.rep I') (Rp.sz zA) s0_1 r.Write.Subs∧SL I' (.slice a0_4 r.Value.Index.Coefs.length c0_4) r.Value.Index.Coefs∧SL I' (.slice a0_7 r.Value.Read.Subs.length c0_7) r.Value.Read.Subs∧RepL (Rp.rep I') (Rp.sz zG) s0_8 r.Value.Kids
def jN (s:zN):Option (zN):=do
 let y←uI s.Write
 let y1←qR s.Value
 pure (zN.mk y y1)
theorem zCI:∀ s r,jN s=some r→∀ {I:Imm}{p c p1 c1 p2 c2 p3 c3},(S4 I p s.Write.Subs c)→(S4 I p1 s.Value.Index.Coefs c1)→(S4 I p2 s.Value.Read.Subs c2)→(S4 I p3 s.Value.Kids c3)→RT 142 [vA (cStmt s p c p1 c1 p2 c2 p3 c3)] I [] (zEm  r):=by
 intro s r N I p c p1 c1 p2 c2 p3 c3 h h1 h2 h3;unfold jN at N;refine yM Tryz.func142 fun B=>?_;have H:=iS I;refine yF<|vX (cStmt s p c p1 c1 p2 c2 p3 c3) ?_;intro b hb;refine wH [vT ([]),z0,vI 0,vI 0,z0,vI 0,vT ([]),z0,z0] ?_;intro b1 hb1;refine yA rfl<|zI<|yC ?_;obtain ⟨y,hy,N⟩:=zB N;obtain ⟨y1,hy1,N⟩:=zB N;refine wA [.p (vP b 0) [],.p (vA (cAccess s.Write p c)) [1],.x (fun I' v hx=>∃ p4 c4 cs,v=vA (cAccess y p4 c4)∧hx=[hO zA (vS p4 y.Subs c4) cs]∧(RL I' cs y.Subs)),.p (vP b 2) [],.p (vA (cExpr s.Value p1 c1 p2 c2 p3 c3)) [1],.x (fun I' v hx=>∃ p5 c5 p6 c6 p7 c7 cs1,v=vA (cExpr y1 p5 c5 p6 c6 p7 c7)∧hx=[hO zG (vS p7 y1.Kids c7) cs1]∧(S4 I' p5 y1.Index.Coefs c5)∧(S4 I' p6 y1.Read.Subs c6)∧(RL I' cs1 y1.Kids)),.x (fun I' v hx=>∃ p41 c41 p51 c51 p61 c61 p71 c71 cs11 cs2,v=vA [vT y.Array.l,vS p41 y.Subs c41,vI y1.Kind,vI y1.Num,vS p51 y1.Index.Coefs c51,vI y1.Index.Const,vT y1.Read.Array.l,vS p61 y1.Read.Subs c61,vS p71 y1.Kids c71]∧hx=[hO zG (vS p71 y1.Kids c71) cs11,hO zA (vS p41 y.Subs c41) cs2]∧(RL I' cs2 y.Subs)∧(S4 I' p51 y1.Index.Coefs c51)∧(S4 I' p61 y1.Read.Subs c61)∧(RL I' cs11 y1.Kids))] [[],[(0,false)],[(1,false)],[],[(3,false)],[(4,false)],[(2,true),(5,true)]] [hB b1 [vT ([]),z0,vI 0,vI 0,z0,vI 0,vT ([]),z0,z0],hB b (cStmt s p c p1 c1 p2 c2 p3 c3)] [] [(6,true)] (zY [0,1]) ?_ ?_
 · refine Op<|Op<|Ox ?_<|Op<|Op<|Ox ?_<|Ox ?_<|On
   · intro I1 hf le1;refine yN [4] rfl ?_;have H:=iS I1;have h:=h.mono le1;refine xQ (gE s.Write _ hy h) ?_;rintro I0 hs2 v2 k2 le - ⟨p4,c4,cs,rfl,rfl,h4⟩ -;have H:=H.trans le;exact yI [hO zA (vS p4 y.Subs c4) cs] H ⟨_,_,_,rfl,rfl,h4⟩
   · intro I1 hf le1;refine yN [7] rfl ?_;have H:=iS I1;have ⟨h1,h2,h3⟩:=m3 le1 h1 h2 h3;refine xQ (zDM s.Value _ hy1 h1 h2 h3) ?_;rintro I01 hs2 v2 k2 le1 - ⟨p5,c5,p6,c6,p7,c7,cs1,rfl,rfl,h5,h6,h7⟩ -;have H:=H.trans le1;exact yI [hO zG (vS p7 y1.Kids c7) cs1] H ⟨_,_,_,_,_,_,_,rfl,rfl,h5,h6,h7⟩
   rintro I1 hf le1 _ _ ⟨p4,c4,cs,rfl,rfl,h4⟩ _ _ ⟨p5,c5,p6,c6,p7,c7,cs1,rfl,rfl,h5,h6,h7⟩;exact yN [5,8] rfl<|tM 7 [(9,vA [vT y.Array.l,vS p4 y.Subs c4,vI y1.Kind,vI y1.Num,vS p5 y1.Index.Coefs c5,vI y1.Index.Const,vT y1.Read.Array.l,vS p6 y1.Read.Subs c6,vS p7 y1.Kids c7])]<|yI [hO zG (vS p7 y1.Kids c7) cs1,hO zA (vS p4 y.Subs c4) cs] iR ⟨_,_,_,_,_,_,_,_,_,_,rfl,rfl,h4,h5,h6,h7⟩
 rintro I02 le2 _ _ ⟨p41,c41,p51,c51,p61,c61,p71,c71,cs11,cs2,rfl,rfl,h41,h51,h61,h71⟩;refine yN [2,9] rfl ?_;refine xI 2 [vT y.Array.l,vS p41 y.Subs c41,vI y1.Kind,vI y1.Num,vS p51 y1.Index.Coefs c51,vI y1.Index.Const,vT y1.Read.Array.l,vS p61 y1.Read.Subs c61,vS p71 y1.Kids c71] rfl<|yA rfl<|zI<|yW ?_;obtain rfl:=zC N;exact xA ⟨_,_,(.cell 2 rfl rfl (by kernel_rfl) ResV.nil),(zX [1,0] rfl (by decide)),⟨_,_,_,_,_,_,_,_,_,_,rfl,rfl,h41,h51,h61,h71⟩⟩
end Go.LN
