/- Helper of the proof (see the last text). -/
import Derived.Test.YtpacccdphbhfbaaGreatHM5
set_option linter.unusedVariables false
set_option linter.unusedSimpArgs false
namespace Go.LN
open Go.Proofs
set_option maxRecDepth 20000
def rJ (r:(List zM)×Bool):KT:=fun kk I' hs' v=>
  ∃ v0 v1,hs'=[]∧v=tupV [v0,v1]∧SL I' v0 r.1∧v1=.bool r.2
def wP (p:zK) (t26:Int) (x:zL) (x1:(List Int)) (out4:List zM) (t64:Int):Option (Out (List zM) ((List zM)×Bool)):=do
 if (decide (t64 < (x.Body.length:Int))) then
  let x2←idx x.Body t64
  let y7←qR p x2 x1
  if (!y7) then
   pure (.ret (([]:List zM),false))
  else
   let y8←sC x1
   let out6←app 40 out4 ([(zM.mk t26 t64 y8)]:List zM)
   wP p t26 x x1 out6 (W (t64 + 1))
 else
  pure (.done out4)
 partial_fixpoint
theorem fP (p:zK) (t26:Int) (x:zL) (x1:(List Int)):∀ (out4:List zM) (t64:Int) (o:Out (List zM) ((List zM)×Bool)),wP p t26 x x1 out4 t64=some o→∀ {B}{I0 I:Imm}{Q}{y2:(List (List Int))}{t54:Int}{p1 c p2 c1}{b:Nat}{p5 c4 p6 c5}{b1:Nat}{p7 c6 p14 c13 p15 c14 cs4},I0.le I→(S4 I p5 x.Nest c4)→(S4 I p6 x.Body c5)→(At I ⟨b1,0,none⟩ (cPart x p5 c4 p6 c5))→(S4 I p14 x1 c13)→(S4 I p2 p.Parts c1)→(S4 I p7 y2 c6)→(S4 I p1 p.Arrays c)→(RL I cs4 out4)→NG Q→NO Q→(∀ (I':Imm) (out5:List zM) (p16:Option Addr) (c15:Nat) (cs5:List Value),o=(.done out5)→I0.le I'→(RL I' cs5 out5)→T 89 B Q (.exit 4) I' [hO zM (vS p16 out5 c15) cs5,hB b (cProg p p1 c p2 c1)] [(1,vP b 0),(4,vS p16 out5 c15),(5,vI t26),(6,vP b1 0),(24,vS p2 p.Parts c1),(25,vI (p.Parts.length:Int)),(26,vI t26),(52,vS p7 y2 c6),(53,vI (y2.length:Int)),(54,vI t54)])→(∀ r I' hs' m',o=(.ret r)→I0.le I'→RS Tryz.prog Tryz.f40 B (rJ  r) I' hs' m'→T 89 B Q .ret I' hs' m')→J Tryz.prog 89 B (nav (bodyOf Tryz.f40) [1,1,1,0,1,0,0,1,1,0,0,1,1,1,1,0,0,1,1,0,0,1,1,1,0]) Q I [hO zM (vS p15 out4 c14) cs4,hB b (cProg p p1 c p2 c1)] [(1,vP b 0),(4,vS p15 out4 c14),(5,vI t26),(6,vP b1 0),(10,vS p14 x1 c13),(24,vS p2 p.Parts c1),(25,vI (p.Parts.length:Int)),(26,vI t26),(52,vS p7 y2 c6),(53,vI (y2.length:Int)),(54,vI t54),(62,vS p6 x.Body c5),(63,vI (x.Body.length:Int)),(64,vI t64)]:=by
 refine wP.partial_correctness p t26 x x1 _ fun self ih out4 t64 o N B I0 I Q y2 t54 p1 c p2 c1 b p5 c4 p6 c5 b1 p7 c6 p14 c13 p15 c14 cs4 H h6 h7 hat1 h18 h1 h8 h h20 hg ho hx hr=>yY hg ho<|yH [65] rfl<|yA<|yE N ?_ ?_
 · intro hc8 N;refine zT<|yA<|yL<|yB<|yD 1 [] [66] rfl<|bE N fun x2 hy7 N=>xS rfl rfl h7 hy7 ?_;intro ad2 ccs2 hat3 hrep2;obtain ⟨p17,c16,p18,c17,p19,c18,p20,c19,rfl,h22,h23,h24,h25⟩:=tH hrep2;refine xL 0 hat3 (cStmt x2 p17 c16 p18 c17 p19 c18 p20 c19) (vA (cStmt x2 p17 c16 p18 c17 p19 c18 p20 c19)) rfl<|wU [vT ([]),z0,vI 0,vI 0,z0,vI 0,vT ([]),z0,z0] ?_;intro b2 hb2;refine yD 5 [] [11] rfl<|xI 0 (cStmt x2 p17 c16 p18 c17 p19 c18 p20 c19) rfl<|yC rfl<|yA<|yB<|sU 3 [2,0] [(69,vA (cProg p p1 c p2 c1)),(70,vA (cStmt x2 p17 c16 p18 c17 p19 c18 p20 c19)),(71,vS p14 x1 c13)]<|bE N fun y7 hy8 N=>wZ (zA6 p x2 x1 _ hy8 h h1 h22 h23 h24 h25 h18) ?_;intro I08 le8;have ⟨h20,h6,h7,hat1,h18,h1⟩:=m6 le8 h20 h6 h7 hat1 h18 h1;have ⟨h8,h,H⟩:=m3 le8 h8 h H;refine yI [] [73] rfl<|zJ<|yE N ?_ ?_
   · intro hc9 N;exact yH [2,3] rfl<|xB<|zI<|zU<|zI<|zI<|hr _ _ _ _ (zC N).symm H ⟨_,_,(.tmp rfl (.tmp rfl ResV.nil)),zP,⟨_,_,rfl,rfl,(SL.nil _),rfl⟩⟩
   intro hc9 N;refine zT<|zJ<|zO<|yD 4 [] [74,75,76,77] rfl<|bE N fun y8 hy9 N=>xP (mS x1 _ hy9 h18) ?_;rintro I09 hs2 v2 k2 le9 - ⟨p21,c20,cs6,rfl,rfl,h27⟩ -;have ⟨h6,h7,hat1,h18,h1,h8⟩:=m6 le9 h6 h7 hat1 h18 h1 h8;have ⟨h20,h,H⟩:=m3 le9 h20 h H;refine yD 6 [] [79] rfl<|xK 0 rfl ?_;intro I010 le10 hl01;have h28:=SL.of_frozen hl01 le10 h27;have ⟨h6,h7,hat1,h18,h1,h8⟩:=m6 le10 h6 h7 hat1 h18 h1 h8;have ⟨h20,h,H⟩:=m3 le10 h20 h H;refine tJ [vI t26,vI t64,vS p21 y8 c20] zM ?_;intro b3 hb3;have h29:RL I010 [vI t26,vI t64,vS p21 y8 c20] ([(zM.mk t26 t64 y8)]:List zM):=⟨[vI t26,vI t64,vS p21 y8 c20],_,rfl,rfl,(nB ⟨_,rfl,h28⟩),rfl⟩;obtain ⟨out6,hy10,N⟩:=zB N;exact pP 58 3 2 rfl rfl rfl h20 (.inr ⟨0,rfl⟩) h29 hy10 fun p22 c21 cs7 h30=>sX (zY [1,2,3] (hs':=[hB b2 (cStmt x2 p17 c16 p18 c17 p19 c18 p20 c19),hO zM (vS p22 out6 c21) cs7,hB b (cProg p p1 c p2 c1)]))<|yI [] [4] rfl<|zQ<|zJ<|zO<|yI [] [64] rfl<|yZ<|kP (zX [1,2] rfl (by decide))<|mW<|ih out6 (W (t64 + 1)) _ N H h6 h7 hat1 h18 h1 h8 h h30 hg ho hx hr
 intro hc8 N;exact uA<|yQ<|hx _ _ _ _ _ (zC N).symm H h20
def wQ (p:zK) (t26:Int) (x:zL) (y2:(List (List Int))) (out2:List zM) (t54:Int):Option (Out (List zM) ((List zM)×Bool)):=do
 if (decide (t54 < (y2.length:Int))) then
  let x1←idx y2 t54
  let y6←mU x1
  if (!y6) then
   pure (.ret (([]:List zM),false))
  else
   match←wP p t26 x x1 out2 0 with
   | .ret r0=>pure (.ret r0)
   | .done out5 =>
    wQ p t26 x y2 out5 (W (t54 + 1))
 else
  pure (.done out2)
 partial_fixpoint
theorem fQ (p:zK) (t26:Int) (x:zL) (y2:(List (List Int))):∀ (out2:List zM) (t54:Int) (o:Out (List zM) ((List zM)×Bool)),wQ p t26 x y2 out2 t54=some o→∀ {B}{I0 I:Imm}{Q p1 c p2 c1}{b:Nat}{p5 c4 p6 c5}{b1:Nat}{p7 c6 p12 c11 cs2},I0.le I→(S4 I p5 x.Nest c4)→(S4 I p6 x.Body c5)→(At I ⟨b1,0,none⟩ (cPart x p5 c4 p6 c5))→(S4 I p2 p.Parts c1)→(S4 I p7 y2 c6)→(S4 I p1 p.Arrays c)→(RL I cs2 out2)→NG Q→NO Q→(∀ (I':Imm) (out3:List zM) (p13:Option Addr) (c12:Nat) (cs3:List Value),o=(.done out3)→I0.le I'→(RL I' cs3 out3)→T 89 B Q (.exit 2) I' [hO zM (vS p13 out3 c12) cs3,hB b (cProg p p1 c p2 c1)] [(1,vP b 0),(4,vS p13 out3 c12),(24,vS p2 p.Parts c1),(25,vI (p.Parts.length:Int)),(26,vI t26)])→(∀ r I' hs' m',o=(.ret r)→I0.le I'→RS Tryz.prog Tryz.f40 B (rJ  r) I' hs' m'→T 89 B Q .ret I' hs' m')→J Tryz.prog 89 B (nav (bodyOf Tryz.f40) [1,1,1,0,1,0,0,1,1,0,0,1,1,1,1,0]) Q I [hO zM (vS p12 out2 c11) cs2,hB b (cProg p p1 c p2 c1)] [(1,vP b 0),(4,vS p12 out2 c11),(5,vI t26),(6,vP b1 0),(24,vS p2 p.Parts c1),(25,vI (p.Parts.length:Int)),(26,vI t26),(52,vS p7 y2 c6),(53,vI (y2.length:Int)),(54,vI t54)]:=by
 refine wQ.partial_correctness p t26 x y2 _ fun self ih out2 t54 o N B I0 I Q p1 c p2 c1 b p5 c4 p6 c5 b1 p7 c6 p12 c11 cs2 H h6 h7 hat1 h1 h8 h h16 hg ho hx hr=>yY hg ho<|yH [55] rfl<|yA<|yE N ?_ ?_
 · intro hc6 N;refine zT<|yA<|yL<|yB<|bE N fun x1 hy5 N=>xS rfl rfl h8 hy5 ?_;intro ad1 ccs1 hat2 hrep1;obtain ⟨v011,rfl,h18⟩:=hrep1;obtain ⟨p14,c13,rfl⟩:=h18.form;refine xL 0 hat2 [vS p14 x1 c13] (vS p14 x1 c13) rfl<|yI [] [10] rfl<|yA<|yB<|yD 1 [] [58] rfl<|bE N fun y6 hy6 N=>wZ (zAh x1 _ hy6 h18) ?_;intro I07 le7;have ⟨h16,h6,h7,hat1,h18,h1⟩:=m6 le7 h16 h6 h7 hat1 h18 h1;have ⟨h8,h,H⟩:=m3 le7 h8 h H;refine yI [] [60] rfl<|zJ<|yE N ?_ ?_
   · intro hc7 N;exact yH [2,3] rfl<|xB<|zI<|zU<|zI<|zI<|hr _ _ _ _ (zC N).symm H ⟨_,_,(.tmp rfl (.tmp rfl ResV.nil)),zP,⟨_,_,rfl,rfl,(SL.nil _),rfl⟩⟩
   intro hc7 N;refine zT<|xE<|yD 1 [] [61] rfl<|xL 1 hat1 [vS p6 x.Body c5] (vS p6 x.Body c5) rfl<|yI [] [63,64] rfl<|wK<|oM [(1,vP b 0),(4,vS p12 out2 c11),(5,vI t26),(6,vP b1 0),(10,vS p14 x1 c13),(24,vS p2 p.Parts c1),(25,vI (p.Parts.length:Int)),(26,vI t26),(52,vS p7 y2 c6),(53,vI (y2.length:Int)),(54,vI t54),(62,vS p6 x.Body c5),(63,vI (x.Body.length:Int)),(64,vI 0)] ?_;obtain ⟨o02,ho02,hMl⟩:=zB N;refine fP p t26 x x1 out2 0 o02 ho02 iR h6 h7 hat1 h18 h1 h8 h h16 (fun _ _ _ h=>hg _ _ _ h) (fun _ _ h=>ho _ _ h) ?_ ?_
   · intro I011 out5 p16 c15 cs5 heq2 le11 h21;subst o02;have ⟨h6,h7,hat1,h1,h8,h⟩:=m6 le11 h6 h7 hat1 h1 h8 h;have H:=H.trans le11;exact zV<|zQ<|zJ<|zO<|yI [] [54] rfl<|yZ<|mW<|ih out5 (W (t54 + 1)) _ hMl H h6 h7 hat1 h1 h8 h h21 hg ho hx hr
   intro r0 I9 hs9 m9 heq9 le9 hrs9;subst heq9;exact zU<|zU<|zI<|zI<|hr _ _ _ _ (zC hMl).symm (H.trans le9) hrs9
 intro hc6 N;exact uA<|yQ<|hx _ _ _ _ _ (zC N).symm H h16
def wR (p:zK) (out:List zM) (t26:Int):Option (Out (List zM) ((List zM)×Bool)):=do
 if (decide (t26 < (p.Parts.length:Int))) then
  let x←idx p.Parts t26
  let (y2,y3)←nV x.Nest
  let t51←(do
    if (!y3) then
     pure true
    else
     let y4←xT (x.Body.length:Int) 1 4
     if (!y4) then
      pure true
     else
      let y5←xW x.Body (fun x0=>wY x0 x)
      pure (id y5)
      : Option Bool)
  if t51 then
   pure (.ret (([]:List zM),false))
  else
   match←wQ p t26 x y2 out 0 with
   | .ret r0=>pure (.ret r0)
   | .done out3 =>
    wR p out3 (W (t26 + 1))
 else
  pure (.done out)
 partial_fixpoint
theorem fR (p:zK):∀ (out:List zM) (t26:Int) (o:Out (List zM) ((List zM)×Bool)),wR p out t26=some o→∀ {B}{I0 I:Imm}{Q p1 c p2 c1}{b:Nat}{p3 c2 cs},I0.le I→(S4 I p2 p.Parts c1)→(S4 I p1 p.Arrays c)→(RL I cs out)→NG Q→NO Q→(∀ (I':Imm) (out1:List zM) (p4:Option Addr) (c3:Nat) (cs1:List Value),o=(.done out1)→I0.le I'→(RL I' cs1 out1)→T 89 B Q (.exit 0) I' [hO zM (vS p4 out1 c3) cs1] [(4,vS p4 out1 c3)])→(∀ r I' hs' m',o=(.ret r)→I0.le I'→RS Tryz.prog Tryz.f40 B (rJ  r) I' hs' m'→T 89 B Q .ret I' hs' m')→J Tryz.prog 89 B (nav (bodyOf Tryz.f40) [1,1,1,0,1,0]) Q I [hO zM (vS p3 out c2) cs,hB b (cProg p p1 c p2 c1)] [(1,vP b 0),(4,vS p3 out c2),(24,vS p2 p.Parts c1),(25,vI (p.Parts.length:Int)),(26,vI t26)]:=by
 refine wR.partial_correctness p _ fun self ih out t26 o N B I0 I Q p1 c p2 c1 b p3 c2 cs H h1 h h4 hg ho hx hr=>yY hg ho<|yH [27] rfl<|yA<|yE N ?_ ?_
 · intro hc2 N;refine zT<|yA<|yL<|yB<|yD 1 [] [28] rfl<|bE N fun x hy1 N=>xS rfl rfl h1 hy1 ?_;intro ad ccs hat hrep;obtain ⟨p5,c4,p6,c5,rfl,h6,h7⟩:=wE hrep;refine xL 0 hat (cPart x p5 c4 p6 c5) (vA (cPart x p5 c4 p6 c5)) rfl<|wU zTwo ?_;intro b1 hb1;refine yD 5 [] [5] rfl<|xI 0 (cPart x p5 c4 p6 c5) rfl<|yC rfl<|xE<|yD 2 [0] [33] rfl ?_;obtain ⟨⟨y2,y3⟩,hy2,N⟩:=zB N;refine xP (zCP x.Nest _ hy2 h6) ?_;rintro I02 hs2 v2 k2 le2 - ⟨v03,v04,rfl,rfl,h8,rfl⟩ -;have ⟨h4,h1,h6,h7,h,H⟩:=m6 le2 h4 h1 h6 h7 h H;obtain ⟨p7,c6,rfl⟩:=h8.form;refine yI [] [7,8] rfl<|yA<|zZ<|oY 0 rfl ?_;intro I03 le3 hl0;have hat1:At I03 ⟨b1,0,none⟩ (cPart x p5 c4 p6 c5):=At.of_blk hl0;have ⟨h4,h6,h7,h8,h1,h⟩:=m6 le3 h4 h6 h7 h8 h1 h;have H:=H.trans le3;refine wD N [hO zM (vS p3 out c2) cs,hB b (cProg p p1 c p2 c1)] (fun t51=>[(1,vP b 0),(4,vS p3 out c2),(5,vI t26),(6,vP b1 0),(7,vS p7 y2 c6),(24,vS p2 p.Parts c1),(25,vI (p.Parts.length:Int)),(26,vI t26),(51,.bool t51)]) (fun o01 ho01=>?_) ?_
   · have H:=iS I03;refine zO<|yD 3 [] [39] rfl<|xQ [39] ho01 ?_ ?_
     · intro hc3 N;exact xY [] [(51,vY)]<|yQ<|zR (ct N H)
     intro hc3 N;refine yD 4 [] [40] rfl<|xL 1 hat1 [vS p6 x.Body c5] (vS p6 x.Body c5) rfl<|yD 6 [] [42] rfl<|bE N fun y4 hy3 N=>wZ (xN (x.Body.length:Int) 1 4 _ hy3 ) ?_;intro I05 le4;have ⟨h6,h7,hat1,h,H⟩:=m5 le4 h6 h7 hat1 h H;refine yD 10 [] [46] rfl<|xQ [46] N ?_ ?_
     · intro hc4 N;exact xY [] [(51,vY)]<|yQ<|zR (ct N H)
     intro hc4 N;refine yD 11 [] [47] rfl<|xL 1 hat1 [vS p6 x.Body c5] (vS p6 x.Body c5) rfl<|yD 13 [] [49] rfl ?_;have hf0:FV1 Tryz.prog I05 [] (.func (.func 91) ⟨[]⟩ ⟨[vP b1 0]⟩) (fun x0=>wY x0 x):=by
       refine FV1.intro ?_;intro I1 le1 x0 r u0 hF k0;obtain ⟨_,rfl,k0⟩:=k0;obtain ⟨p8,c7,p9,c8,p10,c9,p11,c10,rfl,h11,h12,h13,h14⟩:=tH k0;exact (fZ x0 x r hF h11 h12 h13 h14 (h6.mono le1) (h7.mono le1) (hat1.mono le1)).mono (by rintro k i hs u ⟨v0,rfl,rfl,h⟩; exact ⟨rfl,h⟩)
     obtain ⟨y5,hy4,N⟩:=zB N;refine xP (kH x.Body (fun x0=>wY x0 x) _ hy4 h7 hf0) ?_;rintro I06 hs2 v2 k2 le5 - ⟨v010,rfl,rfl,rfl⟩ -;have H:=H.trans le5;exact yI [] [51] rfl<|yQ<|zR (ct N H)
   intro t51 I04 le6 hMc1;have ⟨h4,h6,h7,hat1,h8,h1⟩:=m6 le6 h4 h6 h7 hat1 h8 h1;have ⟨h,H⟩:=m2 le6 h H;refine zJ<|yE hMc1 ?_ ?_
   · intro hc5 N;exact yH [2,3] rfl<|xB<|zI<|zU<|zI<|zI<|hr _ _ _ _ (zC N).symm H ⟨_,_,(.tmp rfl (.tmp rfl ResV.nil)),zP,⟨_,_,rfl,rfl,(SL.nil _),rfl⟩⟩
   intro hc5 N;refine zT<|vV [52,53,54] rfl<|wK<|oM [(1,vP b 0),(4,vS p3 out c2),(5,vI t26),(6,vP b1 0),(24,vS p2 p.Parts c1),(25,vI (p.Parts.length:Int)),(26,vI t26),(52,vS p7 y2 c6),(53,vI (y2.length:Int)),(54,vI 0)] ?_;obtain ⟨o03,ho03,hMl1⟩:=zB N;refine fQ p t26 x y2 out 0 o03 ho03 iR h6 h7 hat1 h1 h8 h h4 (fun _ _ _ h=>hg _ _ _ h) (fun _ _ h=>ho _ _ h) ?_ ?_
   · intro I012 out3 p13 c12 cs3 heq3 le12 h17;subst o03;have ⟨h1,h,H⟩:=m3 le12 h1 h H;exact zV<|zQ<|zJ<|zO<|yI [] [26] rfl<|yZ<|mW<|ih out3 (W (t26 + 1)) _ hMl1 H h1 h h17 hg ho hx hr
   intro r0 I9 hs9 m9 heq9 le9 hrs9;subst heq9;exact zU<|zU<|zI<|zI<|hr _ _ _ _ (zC hMl1).symm (H.trans le9) hrs9
 intro hc2 N;exact uA<|xV (zX [0] rfl (by decide))<|yQ<|hx _ _ _ _ _ (zC N).symm H h4
def sT (p:zK):Option ((List zM)×Bool):=do
 let t22←(do
   let y←kK p.Arrays
   if (!y) then
    pure true
   else
    pure (decide ((p.Parts.length:Int) > 4))
     : Option Bool)
 if t22 then
  pure (([]:List zM),false)
 else
  match←wR p ([]:List zM) 0 with
  | .ret r0=>pure r0
  | .done out1 =>
   pure (out1,(decide ((out1.length:Int) ≤ 120)))
theorem eX:∀ p r,sT p=some r→∀ {I:Imm}{p1 c p2 c1},(S4 I p1 p.Arrays c)→(S4 I p2 p.Parts c1)→RT 40 [vA (cProg p p1 c p2 c1)] I [] (rJ  r):=by
 intro p r N I p1 c p2 c1 h h1;unfold sT at N;refine yJ Tryz.func40 fun B=>?_;have H:=iS I;refine yB<|vM (cProg p p1 c p2 c1) ?_;intro b hb;refine xY [] []<|yA<|zZ ?_;refine wD N [hB b (cProg p p1 c p2 c1)] (fun t22=>[(1,vP b 0),(22,.bool t22)]) (fun o0 ho0=>?_) ?_
 · have H:=iS I;refine zO<|yD 2 [0] [14] rfl ?_;obtain ⟨y,hy,N⟩:=zB ho0;refine wZ (zDf p.Arrays _ hy h) ?_;intro I01 le;have H:=H.trans le;refine yD 5 [] [17] rfl<|xQ [17] N ?_ ?_
   · intro hc N;exact xY [] [(22,vY)]<|yQ<|zR (ct N H)
   intro hc N;exact yI [0] [22] rfl<|yQ<|zR (ct N H)
 intro t22 I0 le1 hMc;have ⟨h,h1⟩:=m2 le1 h h1;refine zJ<|yE hMc ?_ ?_
 · intro hc1 N;refine yH [2,3] rfl<|xB<|zI ?_;obtain rfl:=zC N;exact xC ⟨_,_,(.tmp rfl (.tmp rfl ResV.nil)),zP,⟨_,_,rfl,rfl,(SL.nil _),rfl⟩⟩
 intro hc1 N;refine zT<|zIX [(4,z0)]<|yA<|yB<|yI [0] [24,25,26] rfl<|wK<|oM [(1,vP b 0),(4,z0),(24,vS p2 p.Parts c1),(25,vI (p.Parts.length:Int)),(26,vI 0)]<|zAE zM fun h3=>?_;obtain ⟨o04,ho04,hMl2⟩:=zB N;refine fR p ([]:List zM) 0 o04 ho04 iR h1 h h3 (fun _ _ _ h=>h) (fun _ _ h=>h) ?_ ?_
 · intro I013 out1 p4 c3 cs1 heq4 le13 h5;subst o04;refine zV<|vV [2,3] rfl<|xB<|xJ 0 rfl ?_;intro I014 le14 hl02;have h31:=SL.of_frozen hl02 le14 h5;obtain rfl:=zC hMl2;exact xC ⟨_,_,(.tmp rfl (.tmp rfl ResV.nil)),zP,⟨_,_,rfl,rfl,h31,rfl⟩⟩
 intro r0 I9 hs9 m9 heq9 le9 hrs9;subst heq9;refine zU<|zI ?_;obtain rfl:=zC hMl2;exact xC hrs9
def oK (p:zK):Option (Bool):=do
 let (y1,y2)←sT p
 pure (id y2)
theorem zBP:∀ p r,oK p=some r→∀ {I:Imm}{p1 c p2 c1},(S4 I p1 p.Arrays c)→(S4 I p2 p.Parts c1)→RT 14 [vA (cProg p p1 c p2 c1)] I [] (zS  r):=by
 intro p r N I p1 c p2 c1 h h1;unfold oK at N;refine yJ Tryz.func14 fun B=>yB<|vM (cProg p p1 c p2 c1) ?_;intro b hb;refine xY [] []<|xE<|sU 1 [0] [(6,vA (cProg p p1 c p2 c1))] ?_;obtain ⟨⟨y1,y2⟩,hy,N⟩:=zB N;refine xP (eX p _ hy h h1) ?_;rintro I0 hs2 v2 k2 le - ⟨v0,v01,rfl,rfl,h2,rfl⟩ -;obtain ⟨p3,c2,rfl⟩:=h2.form;refine yI [] [4] rfl<|vV [2] rfl<|zJ<|yX ?_;obtain rfl:=zC N;exact xZ
def uI (p:zK) (n0:Int) (t9:Int):Option (Int):=do
 if (decide (t9 < (p.Arrays.length:Int))) then
  let x←idx p.Arrays t9
  let y←pY x
  uI p (W (n0 + y)) (W (t9 + 1))
 else
  pure (id n0)
 partial_fixpoint
theorem zAA (p:zK):∀ (n0:Int) (t9:Int) (o:Int),uI p n0 t9=some o→∀ {B}{I0 I:Imm}{Q p1 c},I0.le I→(S4 I p1 p.Arrays c)→NG Q→NO Q→(∀ (I':Imm) (n01:Int),o=n01→I0.le I'→T 19 B Q (.exit 0) I' [] [(3,vI n01)])→J Tryz.prog 19 B (nav (bodyOf Tryz.f124) [1,1,0,1,0]) Q I [] [(3,vI n0),(7,vS p1 p.Arrays c),(8,vI (p.Arrays.length:Int)),(9,vI t9)]:=by
 refine uI.partial_correctness p _ fun self ih n0 t9 o N B I0 I Q p1 c H h hg ho hx=>yY hg ho<|yH [10] rfl<|yA<|yE N ?_ ?_
 · intro hc N;refine zT<|yA<|yL<|yB<|bE N fun x hy N=>xS rfl rfl h hy ?_;intro ad ccs hat hrep;obtain ⟨p3,c2,rfl,h2⟩:=wT hrep;refine xL 0 hat (cArr x p3 c2) (vA (cArr x p3 c2)) rfl<|wU [vT ([]),z0] ?_;intro b1 hb1;refine xI 0 (cArr x p3 c2) rfl<|yC rfl<|zJ<|zO<|sU 2 [0] [(13,vI n0),(14,vA (cArr x p3 c2))]<|bE N fun y hy1 N=>oH (eQ x _ hy1 h2) ?_;intro I0 le;have ⟨h,H⟩:=m2 le h H;exact yI [] [3] rfl<|zQ<|zJ<|zO<|yI [] [9] rfl<|yZ<|kP zP<|mW<|ih (W (n0 + y)) (W (t9 + 1)) _ N H h hg ho hx
 intro hc N;exact uA<|yQ<|hx _ _ (zC N).symm H
def pU (p:zK):Option (Int):=do
 let n01←uI p 0 0
 pure (id n01)
theorem zAq:∀ p r,pU p=some r→∀ {I:Imm}{p1 c p2 c1},(S4 I p1 p.Arrays c)→(S4 I p2 p.Parts c1)→RT 124 [vA (cProg p p1 c p2 c1)] I [] (yP  r):=by
 intro p r N I p1 c p2 c1 h h1;unfold pU at N;refine yJ Tryz.func124 fun B=>yB<|vM (cProg p p1 c p2 c1) ?_;intro b hb;refine xY [] []<|vV [3] rfl<|yA<|yB<|yI [0] [7,8,9] rfl<|wK<|kP (zY [] (hs':=[]))<|oM [(3,vI 0),(7,vS p1 p.Arrays c),(8,vI (p.Arrays.length:Int)),(9,vI 0)] ?_;obtain ⟨o0,ho0,hMl⟩:=zB N;refine zAA p 0 0 o0 ho0 iR h (fun _ _ _ h=>h) (fun _ _ h=>h) ?_;intro I01 n01 heq le1;subst o0;refine zV<|vV [2] rfl<|zJ<|yX ?_;obtain rfl:=zC hMl;exact xZ
def tP (n0:Int):Option (Bool):=do
 let y←xT n0 0 999
 pure (!y)
theorem zAr:∀ n0 r,tP n0=some r→∀ {I:Imm} ,RT 125 [vI n0] I [] (zS  r):=by
 intro n0 r N I;unfold tP at N;refine yJ Tryz.func125 fun B=>vU []<|xE<|yD 1 [] [3] rfl<|bE N fun y hy N=>wZ (xN n0 0 999 _ hy ) fun I0 le=>xY [] [(2,.bool (!y))]<|zJ<|yX ?_;obtain rfl:=zC N;exact xZ
def nE (p:zK) (m0:(List Int)):Option (Bool):=do
 let t4←(do
   let y←oK p
   if y then
    let y1←pU p
    if ((m0.length:Int) == y1) then
     let y2←yU m0 tP
     pure (!y2)
    else
     pure false
   else
    pure false
     : Option Bool)
 pure (id t4)
theorem zBe:∀ p m0 r,nE p m0=some r→∀ {I:Imm}{p1 c p2 c1 p3 c2},(S4 I p1 p.Arrays c)→(S4 I p2 p.Parts c1)→(S4 I p3 m0 c2)→RT 63 [vA (cProg p p1 c p2 c1),vS p3 m0 c2] I [] (zS  r):=by
 intro p m0 r N I p1 c p2 c1 p3 c2 h h1 h2;unfold nE at N;refine yJ Tryz.func63 fun B=>?_;have H:=iS I;refine yB<|vM (cProg p p1 c p2 c1) ?_;intro b hb;refine xY [] []<|zJ<|zZ ?_;refine wD N [] (fun t4=>[(4,.bool t4)]) (fun o0 ho0=>?_) ?_
 · have H:=iS I;refine zO<|sU 1 [0] [(5,vA (cProg p p1 c p2 c1))] ?_;obtain ⟨y,hy,N⟩:=zB ho0;refine wZ (zBP p _ hy h h1) ?_;intro I01 le;have ⟨h2,h,h1,H⟩:=m4 le h2 h h1 H;refine yD 3 [] [7] rfl<|xQ [7] N ?_ ?_
   · intro hc N;refine sU 6 [0] [(9,vI (m0.length:Int)),(10,vA (cProg p p1 c p2 c1))]<|bE N fun y1 hy1 N=>oH (zAq p _ hy1 h h1) ?_;intro I02 le1;have ⟨h2,h,H⟩:=m3 le1 h2 h H;refine yD 10 [] [14] rfl<|xQ [14] N ?_ ?_
     · intro hc1 N;refine yD 11 [] [15] rfl ?_;have hf0:FV1 Tryz.prog I02 [] (.func (.func 125) ⟨[]⟩ ⟨[]⟩) tP:=by
         refine FV1.intro ?_;intro I1 le1 x0 r u0 hF k0;obtain rfl:=k0;exact (zAr x0 r hF ).mono (by rintro k i hs u ⟨v0,rfl,rfl,h⟩; exact ⟨rfl,h⟩)
       obtain ⟨y2,hy2,N⟩:=zB N;refine xP (wV m0 tP _ hy2 h2 hf0) ?_;rintro I03 hs2 v2 k2 le2 - ⟨v02,rfl,rfl,rfl⟩ -;have H:=H.trans le2;exact yI [] [4] rfl<|xV zP<|yQ<|zR (ct N H)
     intro hc1 N;exact xY [] [(4,vF)]<|xV zP<|yQ<|zR (ct N H)
   intro hc N;exact xY [] [(4,vF)]<|xV zP<|yQ<|zR (ct N H)
 intro t4 I0 le3 hMc;refine zJ<|yX ?_;obtain rfl:=zC hMc;exact xZ
def qI (nest:(List zE)) (p1:(List Int)) (t26:Int):Option (Out Unit (Bool)):=do
 if (decide (t26 < (nest.length:Int))) then
  let x←idx nest t26
  let l←slc p1 0 t26
  let (y3,y4)←oW x l
  let t52←(do
    let x1←idx p1 t26
    if (decide (x1 < y3)) then
     pure true
    else
     let x2←idx p1 t26
     pure (decide (x2 ≥ y4))
      : Option Bool)
  if t52 then
   pure (.ret false)
  else
   qI nest p1 (W (t26 + 1))
 else
  pure (.done ())
 partial_fixpoint
theorem zCS (nest:(List zE)) (p1:(List Int)):∀ (t26:Int) (o:Out Unit (Bool)),qI nest p1 t26=some o→∀ {B}{I0 I:Imm}{Q p c p2 c1},I0.le I→(S4 I p2 p1 c1)→(S4 I p nest c)→NG Q→NO Q→(∀ (I':Imm) ,o=(.done ())→I0.le I'→T 54 B Q (.exit 0) I' [] [])→(∀ r I' hs' m',o=(.ret r)→I0.le I'→RS Tryz.prog Tryz.f126 B (zS  r) I' hs' m'→T 54 B Q .ret I' hs' m')→J Tryz.prog 54 B (nav (bodyOf Tryz.f126) [1,1,0,1,0]) Q I [] [(1,vS p2 p1 c1),(24,vS p nest c),(25,vI (nest.length:Int)),(26,vI t26)]:=by
 refine qI.partial_correctness nest p1 _ fun self ih t26 o N B I0 I Q p c p2 c1 H h1 h hg ho hx hr=>yY hg ho<|yH [27] rfl<|yA<|yE N ?_ ?_
 · intro hc3 N;refine zT<|yA<|yL<|yB<|yD 1 [] [28] rfl<|bE N fun x hy2 N=>xS rfl rfl h hy2 ?_;intro ad ccs hat hrep;obtain ⟨p3,c2,p4,c3,rfl,h4,h5⟩:=tG hrep;refine xL 0 hat (cLoop x p3 c2 p4 c3) (vA (cLoop x p3 c2 p4 c3)) rfl<|wU zTwo ?_;intro b hb;refine yD 5 [] [5] rfl<|xI 0 (cLoop x p3 c2 p4 c3) rfl<|yC rfl<|zJ<|zZ ?_;obtain ⟨l,hy3,N⟩:=zB N;obtain ⟨⟨y3,y4⟩,hy4,N⟩:=zB N;refine wS [.p (vA (cLoop x p3 c2 p4 c3)) [0],.p (vS p2 p1 c1) [],.p (vI t26) [],.x (eS l),.q (.tuple ⟨[vI y3,vI y4]⟩),.p (.tuple ⟨[vI y3,vI y4]⟩) [],.p (vI y3) [],.p (vI y4) [],.p (vI y3) []] [[],[],[],[(1,false),(2,false)],[(0,false),(3,false)],[(4,false)],[(5,false)],[(5,false)],[(6,false)]] [hB b (cLoop x p3 c2 p4 c3)] [] [(7,false),(8,false)] (zY [0]) ?_ ?_
   · refine Op<|Op<|Op<|Ox ?_<|Oq ?_<|Op<|Op<|Op<|Op<|On
     · intro I1 hf le1;refine yS [33,34] rfl ?_;have h1:=h1.mono le1;refine zJx rfl h1 hy3 ?_;intro v04 h6;obtain ⟨p5,c4,rfl⟩:=h6.form;exact yN [] iR ⟨_,_,rfl,rfl,h6⟩
     rintro I1 hf le1 _ _ ⟨rfl,rfl⟩ _ _ ⟨p5,c4,rfl,rfl,h6⟩;refine yS [32,35] rfl ?_;have H:=iS I1;have ⟨h4,h5⟩:=m2 le1 h4 h5;refine xP (dP x l _ hy4 h4 h5 h6) ?_;rintro I03 hs2 v2 k2 le3 - ⟨v05,v06,rfl,rfl,rfl,rfl⟩ -;have H:=H.trans le3;exact xF H
   intro I04 le4;refine yS [1,5,7,24,25,26,38] rfl ?_;have ⟨h1,h,H⟩:=m3 le4 h1 h H;refine yI [] [8] rfl<|zJ<|zZ ?_;refine wD N [] (fun t52=>[(1,vS p2 p1 c1),(24,vS p nest c),(25,vI (nest.length:Int)),(26,vI t26),(52,.bool t52)]) (fun o01 ho01=>?_) ?_
   · have H:=iS I04;refine zO<|yD 2 [] [39,40] rfl ?_;obtain ⟨x1,hy5,N⟩:=zB ho01;refine xS rfl rfl h1 hy5 ?_;intro ad1 ccs1 hat1 hrep1;obtain rfl:=hrep1;refine xL 0 hat1 [vI x1] (vI x1) rfl<|yD 7 [] [45] rfl<|xQ [45] N ?_ ?_
     · intro hc4 N;exact xY [] [(52,vY)]<|xV zP<|yQ<|zR (ct N H)
     intro hc4 N;refine yD 9 [] [46,47] rfl<|bE N fun x2 hy6 N=>xS rfl rfl h1 hy6 ?_;intro ad2 ccs2 hat2 hrep2;obtain rfl:=hrep2;exact xL 0 hat2 [vI x2] (vI x2) rfl<|yI [] [52] rfl<|xV zP<|yQ<|zR (ct N H)
   intro t52 I05 le5 hMc1;have ⟨h1,h,H⟩:=m3 le5 h1 h H;refine zJ<|yE hMc1 ?_ ?_
   · intro hc5 N;exact vU [(4,vF)]<|xB<|zU<|zI<|zI<|hr _ _ _ _ (zC N).symm H ⟨_,_,(.tmp rfl ResV.nil),zP,⟨_,rfl,rfl,rfl⟩⟩
   intro hc5 N;exact zT<|zQ<|zJ<|zO<|yI [] [26] rfl<|yZ<|mW<|ih (W (t26 + 1)) _ N H h1 h hg ho hx hr
 intro hc3 N;exact uA<|yQ<|hx _  (zC N).symm H
def jC (nest:(List zE)) (p1:(List Int)):Option (Bool):=do
 let t23←(do
   let y←oV nest
   if (!y) then
    pure true
   else
    let y1←mU p1
    if (!y1) then
     pure true
    else
     pure ((p1.length:Int) != (nest.length:Int))
     : Option Bool)
 if t23 then
  pure false
 else
  match←qI nest p1 0 with
  | .ret r0=>pure r0
  | .done _ =>
   pure true
theorem zEI:∀ nest p1 r,jC nest p1=some r→∀ {I:Imm}{p c p2 c1},(S4 I p nest c)→(S4 I p2 p1 c1)→RT 126 [vS p nest c,vS p2 p1 c1] I [] (zS  r):=by
 intro nest p1 r N I p c p2 c1 h h1;unfold jC at N;refine yJ Tryz.func126 fun B=>?_;have H:=iS I;refine vU []<|yA<|zZ ?_;refine wD N [] (fun t23=>[(0,vS p nest c),(1,vS p2 p1 c1),(23,.bool t23)]) (fun o0 ho0=>?_) ?_
 · have H:=iS I;refine zO<|yD 1 [] [9] rfl ?_;obtain ⟨y,hy,N⟩:=zB ho0;refine wZ (dO nest _ hy h) ?_;intro I01 le;have ⟨h1,H⟩:=m2 le h1 H;refine yD 4 [] [12] rfl<|xQ [12] N ?_ ?_
   · intro hc N;exact xY [] [(23,vY)]<|yQ<|zR (ct N H)
   intro hc N;refine yD 5 [] [13] rfl<|bE N fun y1 hy1 N=>wZ (zAh p1 _ hy1 h1) ?_;intro I02 le1;have H:=H.trans le1;refine yD 9 [] [17] rfl<|xQ [17] N ?_ ?_
   · intro hc1 N;exact xY [] [(23,vY)]<|yQ<|zR (ct N H)
   intro hc1 N;exact yI [] [23] rfl<|yQ<|zR (ct N H)
 intro t23 I0 le2 hMc;have ⟨h,h1⟩:=m2 le2 h h1;refine zJ<|yE hMc ?_ ?_
 · intro hc2 N;refine vU [(4,vF)]<|xB<|zI ?_;obtain rfl:=zC N;exact xZ
 intro hc2 N;refine zT<|yA<|yH [24,25,26] rfl<|wK<|oM [(1,vS p2 p1 c1),(24,vS p nest c),(25,vI (nest.length:Int)),(26,vI 0)] ?_;obtain ⟨o02,ho02,hMl⟩:=zB N;refine zCS nest p1 0 o02 ho02 iR h1 h (fun _ _ _ h=>h) (fun _ _ h=>h) ?_ ?_
 · intro I06  heq2 le6;subst o02;refine zV<|zIX [(4,vY)]<|zJ<|yX ?_;obtain rfl:=zC hMl;exact xZ
 intro r0 I9 hs9 m9 heq9 le9 hrs9;subst heq9;refine zU<|zI ?_;obtain rfl:=zC hMl;exact xC hrs9
def sE (p:zK) (x:zM):Option (Bool):=do
 let t4←(do
   let y←xT x.Part 0 (W ((p.Parts.length:Int) - 1))
   if y then
    let x1←idx p.Parts x.Part
    let y1←xT x.Stmt 0 (W ((x1.Body.length:Int) - 1))
    if y1 then
     let x2←idx p.Parts x.Part
     let y2←jC x2.Nest x.Point
     pure (id y2)
    else
     pure false
   else
    pure false
     : Option Bool)
 pure (id t4)
theorem eT:∀ p x r,sE p x=some r→∀ {I:Imm}{p1 c p2 c1 p3 c2},(S4 I p1 p.Arrays c)→(S4 I p2 p.Parts c1)→(S4 I p3 x.Point c2)→RT 64 [vA (cProg p p1 c p2 c1),vA (cInst x p3 c2)] I [] (zS  r):=by
 intro p x r N I p1 c p2 c1 p3 c2 h h1 h2;unfold sE at N;refine yJ Tryz.func64 fun B=>?_;have H:=iS I;refine yB<|vM (cProg p p1 c p2 c1) ?_;intro b hb;refine vM (cInst x p3 c2) ?_;intro b1 hb1;refine xY [] []<|zJ<|zZ ?_;refine wD N [] (fun t4=>[(4,.bool t4)]) (fun o0 ho0=>?_) ?_
 · have H:=iS I;obtain ⟨y,hy,N⟩:=zB ho0;cases hc:y with
   | true =>
    have hM0:=rQ hc N;obtain ⟨x1,hy1,N⟩:=zB hM0;obtain ⟨y1,hy2,N⟩:=zB N;cases hc1:y1 with
    | true =>
     have hM01:=rQ hc1 N;obtain ⟨x2,hy3,N⟩:=zB hM01;obtain ⟨y2,hy4,N⟩:=zB N;refine wS [.p (vP b1 0) [],.p (vI x.Part) [0],.p (vP b 1) [],.p (vS p2 p.Parts c1) [1],.p (vI (p.Parts.length:Int)) [],.p (vI (W ((p.Parts.length:Int) - 1))) [],.q vY,.q vY,.p (vP b1 1) [],.p (vI x.Stmt) [0],.p (vP b 1) [],.p (vS p2 p.Parts c1) [1],.p (vP b1 0) [],.p (vI x.Part) [0],.x (ePPart x1),.x (eQPart 1 x1),.x (eS x1.Body),.q (vI (x1.Body.length:Int)),.p (vI (W ((x1.Body.length:Int) - 1))) [],.q vY,.q vY,.q vY,.p (vP b 1) [],.p (vS p2 p.Parts c1) [1],.p (vP b1 0) [],.p (vI x.Part) [0],.x (ePPart x2),.x (ePPart x2),.x (eS x2.Nest),.p (vP b1 2) [],.p (vS p3 x.Point c2) [0],.q (.bool y2),.p (.bool y2) []] [[],[(0,false)],[],[(2,false)],[(3,false)],[(4,false)],[(1,false),(5,false)],[(6,false)],[(7,false)],[(7,false),(8,false)],[(7,false)],[(7,false),(10,false)],[(7,false)],[(7,false),(12,false)],[(7,false),(11,false),(13,false)],[(7,false),(14,false)],[(7,false),(15,false)],[(7,false),(16,false)],[(7,false),(17,false)],[(7,false),(9,false),(18,false)],[(7,false),(19,false)],[(20,false)],[(21,false)],[(21,false),(22,false)],[(21,false)],[(21,false),(24,false)],[(21,false),(23,false),(25,false)],[(21,false),(26,false)],[(21,false),(27,false)],[(21,false)],[(21,false),(29,false)],[(21,false),(28,false),(30,false)],[(21,false),(31,false)]] [hB b1 (cInst x p3 c2),hB b (cProg p p1 c p2 c1)] [] [(32,false)] (zY [0,1]) ?_ ?_
     · refine Op<|Op<|Op<|Op<|Op<|Op<|Oq ?_<|Oq ?_<|Op<|Op<|Op<|Op<|Op<|Op<|Ox ?_<|Ox ?_<|Ox ?_<|Oq ?_<|Op<|Oq ?_<|Oq ?_<|Oq ?_<|Op<|Op<|Op<|Op<|Ox ?_<|Ox ?_<|Ox ?_<|Op<|Op<|Oq ?_<|Op<|On
       · intro I1 hf le1;refine yS [6,10] rfl ?_;have H:=iS I1;refine wZ (xN x.Part 0 (W ((p.Parts.length:Int) - 1)) _ hy ) ?_;intro I01 le;have H:=H.trans le;rw [hc];exact xF H
       · intro I1 hf le1;exact fC [(11,vY)]<|qQ 8 [(12,vY)]<|xF iR
       · intro I1 hf le1;refine yS [12,16,18] rfl ?_;have h1:=h1.mono le1;refine xS rfl rfl h1 hy1 ?_;intro ad ccs hat hrep;obtain ⟨p4,c3,p5,c4,rfl,h4,h5⟩:=wE hrep;exact yN [] iR ⟨_,_,_,_,_,rfl,rfl,hat,h4,h5⟩
       · rintro I1 hf le1 _ _ ⟨rfl,rfl⟩ _ _ ⟨ad,p4,c3,p5,c4,rfl,rfl,hat,h4,h5⟩;exact yS [12,19] rfl<|qQ 16 [(20,.pointer (some (ad.add 1)))]<|yN [] iR ⟨_,_,_,_,_,rfl,rfl,hat,h4,h5⟩
       · rintro I1 hf le1 _ _ ⟨rfl,rfl⟩ _ _ ⟨ad1,p41,c31,p51,c41,rfl,rfl,hat1,h41,h51⟩;exact yS [12,20] rfl<|xL 1 hat1 [vS p51 x1.Body c41] (vS p51 x1.Body c41) rfl<|yN [] iR ⟨_,_,rfl,rfl,h51⟩
       · rintro I1 hf le1 _ _ ⟨rfl,rfl⟩ _ _ ⟨p511,c411,rfl,rfl,h511⟩;exact yS [12,21] rfl<|qQ 18 [(22,vI (x1.Body.length:Int))]<|xF iR
       · intro I1 hf le1;refine yS [12,14,23] rfl ?_;have H:=iS I1;refine wZ (xN x.Stmt 0 (W ((x1.Body.length:Int) - 1)) _ hy2 ) ?_;intro I02 le1;have H:=H.trans le1;rw [hc1];exact xF H
       · intro I1 hf le1;exact yS [12,24] rfl<|qQ 21 [(25,vY)]<|xF iR
       · intro I1 hf le1;exact fC [(25,vY)]<|qQ 22 [(26,vY)]<|xF iR
       · intro I1 hf le1;refine yS [26,28,30] rfl ?_;have h1:=h1.mono le1;refine xS rfl rfl h1 hy3 ?_;intro ad2 ccs1 hat2 hrep1;obtain ⟨p6,c5,p7,c6,rfl,h7,h8⟩:=wE hrep1;exact yN [] iR ⟨_,_,_,_,_,rfl,rfl,hat2,h7,h8⟩
       · rintro I1 hf le1 _ _ ⟨rfl,rfl⟩ _ _ ⟨ad2,p6,c5,p7,c6,rfl,rfl,hat2,h7,h8⟩;exact yS [26,31] rfl<|qQ 28 [(32,.pointer (some ad2))]<|yN [] iR ⟨_,_,_,_,_,rfl,rfl,hat2,h7,h8⟩
       · rintro I1 hf le1 _ _ ⟨rfl,rfl⟩ _ _ ⟨ad21,p61,c51,p71,c61,rfl,rfl,hat21,h71,h81⟩;exact yS [26,32] rfl<|xL 0 hat21 [vS p61 x2.Nest c51] (vS p61 x2.Nest c51) rfl<|yN [] iR ⟨_,_,rfl,rfl,h71⟩
       rintro I1 hf le1 _ _ ⟨rfl,rfl⟩ _ _ ⟨p611,c511,rfl,rfl,h711⟩;refine yS [26,33,35] rfl ?_;have H:=iS I1;have h2:=h2.mono le1;refine wZ (zEI x2.Nest x.Point _ hy4 h711 h2) ?_;intro I03 le2;have H:=H.trans le2;exact xF H
     intro I04 le3;refine yS [37] rfl ?_;have H:=H.trans le3;exact yI [] [4] rfl<|xV zP<|yQ<|zR (ct N H)
    | false =>
     have hM02:=sP hc1 N;refine wS [.p (vP b1 0) [],.p (vI x.Part) [0],.p (vP b 1) [],.p (vS p2 p.Parts c1) [1],.p (vI (p.Parts.length:Int)) [],.p (vI (W ((p.Parts.length:Int) - 1))) [],.q vY,.q vY,.p (vP b1 1) [],.p (vI x.Stmt) [0],.p (vP b 1) [],.p (vS p2 p.Parts c1) [1],.p (vP b1 0) [],.p (vI x.Part) [0],.x (ePPart x1),.x (eQPart 1 x1),.x (eS x1.Body),.q (vI (x1.Body.length:Int)),.p (vI (W ((x1.Body.length:Int) - 1))) [],.q vF,.q vF,.q vF,.p undef [],.p undef [],.p undef [],.p undef [],.p undef [],.p undef [],.p undef [],.p undef [],.p undef [],.p undef [],.p vF []] [[],[(0,false)],[],[(2,false)],[(3,false)],[(4,false)],[(1,false),(5,false)],[(6,false)],[(7,false)],[(7,false),(8,false)],[(7,false)],[(7,false),(10,false)],[(7,false)],[(7,false),(12,false)],[(7,false),(11,false),(13,false)],[(7,false),(14,false)],[(7,false),(15,false)],[(7,false),(16,false)],[(7,false),(17,false)],[(7,false),(9,false),(18,false)],[(7,false),(19,false)],[(20,false)],[(21,false)],[(21,false),(22,false)],[(21,false)],[(21,false),(24,false)],[(21,false),(23,false),(25,false)],[(21,false),(26,false)],[(21,false),(27,false)],[(21,false)],[(21,false),(29,false)],[(21,false),(28,false),(30,false)],[(21,false),(31,false)]] [hB b1 (cInst x p3 c2),hB b (cProg p p1 c p2 c1)] [] [(32,false)] (zY [0,1]) ?_ ?_
     · refine Op<|Op<|Op<|Op<|Op<|Op<|Oq ?_<|Oq ?_<|Op<|Op<|Op<|Op<|Op<|Op<|Ox ?_<|Ox ?_<|Ox ?_<|Oq ?_<|Op<|Oq ?_<|Oq ?_<|Oq ?_<|Op<|Op<|Op<|Op<|Op<|Op<|Op<|Op<|Op<|Op<|Op<|On
       · intro I1 hf le1;refine yS [6,10] rfl ?_;have H:=iS I1;refine wZ (xN x.Part 0 (W ((p.Parts.length:Int) - 1)) _ hy ) ?_;intro I01 le;have H:=H.trans le;rw [hc];exact xF H
       · intro I1 hf le1;exact fC [(11,vY)]<|qQ 8 [(12,vY)]<|xF iR
       · intro I1 hf le1;refine yS [12,16,18] rfl ?_;have h1:=h1.mono le1;refine xS rfl rfl h1 hy1 ?_;intro ad ccs hat hrep;obtain ⟨p4,c3,p5,c4,rfl,h4,h5⟩:=wE hrep;exact yN [] iR ⟨_,_,_,_,_,rfl,rfl,hat,h4,h5⟩
       · rintro I1 hf le1 _ _ ⟨rfl,rfl⟩ _ _ ⟨ad,p4,c3,p5,c4,rfl,rfl,hat,h4,h5⟩;exact yS [12,19] rfl<|qQ 16 [(20,.pointer (some (ad.add 1)))]<|yN [] iR ⟨_,_,_,_,_,rfl,rfl,hat,h4,h5⟩
       · rintro I1 hf le1 _ _ ⟨rfl,rfl⟩ _ _ ⟨ad1,p41,c31,p51,c41,rfl,rfl,hat1,h41,h51⟩;exact yS [12,20] rfl<|xL 1 hat1 [vS p51 x1.Body c41] (vS p51 x1.Body c41) rfl<|yN [] iR ⟨_,_,rfl,rfl,h51⟩
       · rintro I1 hf le1 _ _ ⟨rfl,rfl⟩ _ _ ⟨p511,c411,rfl,rfl,h511⟩;exact yS [12,21] rfl<|qQ 18 [(22,vI (x1.Body.length:Int))]<|xF iR
       · intro I1 hf le1;refine yS [12,14,23] rfl ?_;have H:=iS I1;refine wZ (xN x.Stmt 0 (W ((x1.Body.length:Int) - 1)) _ hy2 ) ?_;intro I02 le1;have H:=H.trans le1;rw [hc1];exact xF H
       · intro I1 hf le1;exact yS [12,24] rfl<|qQ 21 [(25,vF)]<|xF iR
       intro I1 hf le1;exact fC [(25,vF)]<|qQ 22 [(26,vF)]<|xF iR
     intro I05 le4;refine fC [(37,vF)] ?_;have H:=H.trans le4;exact xY [] [(4,vF)]<|xV zP<|yQ<|zR (ct hM02 H)
   | false =>
    have hM03:=sP hc N;refine wS [.p (vP b1 0) [],.p (vI x.Part) [0],.p (vP b 1) [],.p (vS p2 p.Parts c1) [1],.p (vI (p.Parts.length:Int)) [],.p (vI (W ((p.Parts.length:Int) - 1))) [],.q vF,.q vF,.p undef [],.p undef [],.p undef [],.p undef [],.p undef [],.p undef [],.p undef [],.p undef [],.p undef [],.p undef [],.p undef [],.p undef [],.p vF [],.p vF [],.p undef [],.p undef [],.p undef [],.p undef [],.p undef [],.p undef [],.p undef [],.p undef [],.p undef [],.p undef [],.p vF []] [[],[(0,false)],[],[(2,false)],[(3,false)],[(4,false)],[(1,false),(5,false)],[(6,false)],[(7,false)],[(7,false),(8,false)],[(7,false)],[(7,false),(10,false)],[(7,false)],[(7,false),(12,false)],[(7,false),(11,false),(13,false)],[(7,false),(14,false)],[(7,false),(15,false)],[(7,false),(16,false)],[(7,false),(17,false)],[(7,false),(9,false),(18,false)],[(7,false),(19,false)],[(20,false)],[(21,false)],[(21,false),(22,false)],[(21,false)],[(21,false),(24,false)],[(21,false),(23,false),(25,false)],[(21,false),(26,false)],[(21,false),(27,false)],[(21,false)],[(21,false),(29,false)],[(21,false),(28,false),(30,false)],[(21,false),(31,false)]] [hB b1 (cInst x p3 c2),hB b (cProg p p1 c p2 c1)] [] [(32,false)] (zY [0,1]) ?_ ?_
    · refine Op<|Op<|Op<|Op<|Op<|Op<|Oq ?_<|Oq ?_<|Op<|Op<|Op<|Op<|Op<|Op<|Op<|Op<|Op<|Op<|Op<|Op<|Op<|Op<|Op<|Op<|Op<|Op<|Op<|Op<|Op<|Op<|Op<|Op<|Op<|On
      · intro I1 hf le1;refine yS [6,10] rfl ?_;have H:=iS I1;refine wZ (xN x.Part 0 (W ((p.Parts.length:Int) - 1)) _ hy ) ?_;intro I01 le;have H:=H.trans le;rw [hc];exact xF H
      intro I1 hf le1;exact fC [(11,vF)]<|qQ 8 [(12,vF)]<|xF iR
    intro I06 le5;refine fC [(37,vF)] ?_;have H:=H.trans le5;exact xY [] [(4,vF)]<|xV zP<|yQ<|zR (ct hM03 H)
 intro t4 I0 le6 hMc;refine zJ<|yX ?_;obtain rfl:=zC hMc;exact xZ
def oR (n0:Int):Option (Int):=do
 pure ((W ((W ((n0.tmod 1000) + 999)) + 1)).tmod 1000)
theorem gK:∀ n0 r,oR n0=some r→∀ {I:Imm} ,RT 127 [vI n0] I [] (yP  r):=by
 intro n0 r N I;unfold oR at N;refine yJ Tryz.func127 fun B=>vU []<|vV [2] rfl<|zJ<|yX ?_;obtain rfl:=zC N;exact xZ
def tQ (p:zK) (m0:(List Int)) (e0:zD) (point:(List Int)):Option (Int):=do
 if (e0.Kind == 1) then
  pure e0.Num
 else
  if (e0.Kind == 2) then
   let y←wX e0.Index point
   let y1←oR y
   pure (id y1)
  else
   if (e0.Kind == 3) then
    let y2←tB p e0.Read point
    let x←idx m0 y2
    pure (id x)
   else
    let x1←idx e0.Kids 0
    let y3←tQ (same p) (same m0) (same x1) (same point)
    let x2←idx e0.Kids 1
    let y4←tQ (same p) (same m0) (same x2) (same point)
    if (e0.Kind == 4) then
     let y5←oR (W (y3 + y4))
     pure (id y5)
    else
     if (e0.Kind == 5) then
      let y6←oR (W (y3 - y4))
      pure (id y6)
     else
      let y7←oR (W (y3 * y4))
      pure (id y7)
 partial_fixpoint
theorem zAs:∀ p m0 e0 point r,tQ p m0 e0 point=some r→∀ {I:Imm}{p1 c p2 c1 p3 c2 p4 c3 p5 c4 p6 c5 p7 c6},(S4 I p1 p.Arrays c)→(S4 I p2 p.Parts c1)→(S4 I p3 m0 c2)→(S4 I p4 e0.Index.Coefs c3)→(S4 I p5 e0.Read.Subs c4)→(S4 I p6 e0.Kids c5)→(S4 I p7 point c6)→RT 65 [vA (cProg p p1 c p2 c1),vS p3 m0 c2,vA (cExpr e0 p4 c3 p5 c4 p6 c5),vS p7 point c6] I [] (yP  r):=by
 refine tQ.partial_correctness _ fun F_impl_Program_value ih_impl_Program_value p m0 e0 point r N I p1 c p2 c1 p3 c2 p4 c3 p5 c4 p6 c5 p7 c6 h h1 h2 h3 h4 h5 h6=>yJ Tryz.func65 fun B=>?_;have H:=iS I;refine yB<|vM (cProg p p1 c p2 c1) ?_;intro b hb;refine vM (cExpr e0 p4 c3 p5 c4 p6 c5) ?_;intro b1 hb1;refine xY [] []<|yA<|yB<|yI [0] [12] rfl<|wK<|yH [13] rfl<|zJ<|yE N ?_ ?_
 · intro hc N;refine yB<|yI [0] [8] rfl<|xB<|zU<|zI ?_;obtain rfl:=zC N;exact xZ
 intro hc N;refine yH [17] rfl<|zJ<|yE N ?_ ?_
 · intro hc1 N;refine yB<|sU 3 [0] [(20,vA (cAff e0.Index p4 c3)),(21,vS p7 point c6)]<|bE N fun y hy N=>oH (sI e0.Index point _ hy h3 h6) ?_;intro I0 le;obtain ⟨y1,hy1,N⟩:=zB N;refine oH (gK y _ hy1 ) fun I01 le1=>xY [] [(8,vI y1)]<|xB<|zU<|zI ?_;obtain rfl:=zC N;exact xZ
 intro hc1 N;refine yH [24] rfl<|zJ<|yE N ?_ ?_
 · intro hc2 N;refine yB<|sU 5 [1,0] [(26,vS p3 m0 c2),(27,vA (cProg p p1 c p2 c1)),(29,vA (cAccess e0.Read p5 c4)),(30,vS p7 point c6)]<|bE N fun y2 hy2 N=>oH (jB p e0.Read point _ hy2 h h1 h4 h6) ?_;intro I02 le2;have h2:=h2.mono le2;obtain ⟨x,hy3,N⟩:=zB N;refine xS rfl rfl h2 hy3 ?_;intro ad ccs hat hrep;obtain rfl:=hrep;refine xL 0 hat [vI x] (vI x) rfl<|yI [] [8] rfl<|xB<|zU<|zI ?_;obtain rfl:=zC N;exact xZ
 intro hc2 N;refine zT<|zQ<|zJ<|zZ ?_;obtain ⟨x1,hy4,N⟩:=zB N;obtain ⟨y3,hy5,N⟩:=zB N;obtain ⟨x2,hy6,N⟩:=zB N;obtain ⟨y4,hy7,N⟩:=zB N;refine wS [.p (vA (cProg p p1 c p2 c1)) [1],.p (vS p3 m0 c2) [],.p (vP b1 6) [],.p (vS p6 e0.Kids c5) [0],.x (ePExpr x1),.x (eVExpr x1),.p (vS p7 point c6) [],.q (vI y3),.p (vA (cProg p p1 c p2 c1)) [1],.p (vS p3 m0 c2) [],.p (vP b1 6) [],.p (vS p6 e0.Kids c5) [0],.x (ePExpr x2),.x (eVExpr x2),.p (vS p7 point c6) [],.q (vI y4),.p (vI y3) []] [[],[],[],[(2,false)],[(3,false)],[(4,false)],[],[(0,false),(1,false),(5,false),(6,false)],[],[],[],[(10,false)],[(11,false)],[(12,false)],[],[(8,false),(9,false),(13,false),(14,false)],[(7,false)]] [hB b1 (cExpr e0 p4 c3 p5 c4 p6 c5),hB b (cProg p p1 c p2 c1)] [] [(15,false),(16,false)] (zY [0,1]) ?_ ?_
 · refine Op<|Op<|Op<|Op<|Ox ?_<|Ox ?_<|Op<|Oq ?_<|Op<|Op<|Op<|Op<|Ox ?_<|Ox ?_<|Op<|Oq ?_<|Op<|On
   · intro I1 hf le1;refine yS [37] rfl ?_;have h5:=h5.mono le1;refine xS rfl rfl h5 hy4 ?_;intro ad1 ccs1 hat1 hrep1;obtain ⟨p8,c7,p9,c8,p10,c9,rfl,h10,h11,h12⟩:=xX hrep1;exact yN [] iR ⟨_,_,_,_,_,_,_,rfl,rfl,hat1,h10,h11,h12⟩
   · rintro I1 hf le1 _ _ ⟨ad1,p8,c7,p9,c8,p10,c9,rfl,rfl,hat1,h10,h11,h12⟩;exact yS [38] rfl<|xL 0 hat1 (cExpr x1 p8 c7 p9 c8 p10 c9) (vA (cExpr x1 p8 c7 p9 c8 p10 c9)) rfl<|yN [] iR ⟨_,_,_,_,_,_,rfl,rfl,h10,h11,h12⟩
   · rintro I1 hf le1 _ _ ⟨rfl,rfl⟩ _ _ ⟨rfl,rfl⟩ _ _ ⟨p81,c71,p91,c81,p101,c91,rfl,rfl,h101,h111,h121⟩;refine yS [34,35,39,40] rfl ?_;have H:=iS I1;have ⟨h2,h6,h,h1⟩:=m4 le1 h2 h6 h h1;refine xP (ih_impl_Program_value p m0 x1 point _ hy5 h h1 h2 h101 h111 h121 h6) ?_;rintro I03 hs2 v2 k2 le3 - ⟨v06,rfl,rfl,rfl⟩ -;have H:=H.trans le3;exact xF H
   · intro I1 hf le1;refine yS [45] rfl ?_;have h5:=h5.mono le1;refine xS rfl rfl h5 hy6 ?_;intro ad2 ccs2 hat2 hrep2;obtain ⟨p11,c10,p12,c11,p13,c12,rfl,h14,h15,h16⟩:=xX hrep2;exact yN [] iR ⟨_,_,_,_,_,_,_,rfl,rfl,hat2,h14,h15,h16⟩
   · rintro I1 hf le1 _ _ ⟨ad2,p11,c10,p12,c11,p13,c12,rfl,rfl,hat2,h14,h15,h16⟩;exact yS [46] rfl<|xL 0 hat2 (cExpr x2 p11 c10 p12 c11 p13 c12) (vA (cExpr x2 p11 c10 p12 c11 p13 c12)) rfl<|yN [] iR ⟨_,_,_,_,_,_,rfl,rfl,h14,h15,h16⟩
   rintro I1 hf le1 _ _ ⟨rfl,rfl⟩ _ _ ⟨rfl,rfl⟩ _ _ ⟨p111,c101,p121,c111,p131,c121,rfl,rfl,h141,h151,h161⟩;refine yS [42,43,47,48] rfl ?_;have H:=iS I1;have ⟨h2,h6,h,h1⟩:=m4 le1 h2 h6 h h1;refine xP (ih_impl_Program_value p m0 x2 point _ hy7 h h1 h2 h141 h151 h161 h6) ?_;rintro I04 hs2 v2 k2 le4 - ⟨v010,rfl,rfl,rfl⟩ -;have H:=H.trans le4;exact xF H
 intro I05 le5;refine yS [6,9,49] rfl ?_;refine yI [] [10] rfl<|yA<|yB<|yI [0] [51] rfl<|wK<|yH [52] rfl<|zJ<|yE N ?_ ?_
 · intro hc3 N;refine yB<|yD 3 [] [56] rfl<|bE N fun y5 hy8 N=>oH (gK (W (y3 + y4)) _ hy8 ) fun I06 le6=>xY [] [(8,vI y5)]<|xB<|zU<|zI ?_;obtain rfl:=zC N;exact xZ
 intro hc3 N;refine yH [58] rfl<|zJ<|yE N ?_ ?_
 · intro hc4 N;refine yB<|yD 3 [] [62] rfl<|bE N fun y6 hy9 N=>oH (gK (W (y3 - y4)) _ hy9 ) fun I07 le7=>xY [] [(8,vI y6)]<|xB<|zU<|zI ?_;obtain rfl:=zC N;exact xZ
 intro hc4 N;refine zT<|zQ<|xE<|yD 3 [] [66] rfl<|bE N fun y7 hy10 N=>oH (gK (W (y3 * y4)) _ hy10 ) fun I08 le8=>xY [] [(8,vI y7)]<|zJ<|yX ?_;obtain rfl:=zC N;exact xZ
def gL (r:zN):KT:=fun kk I' hs' v=>
  ∃ v0,hs'=[]∧v=tupV [v0]∧(∃ cs,v0=.agg ⟨cs⟩∧Rp.rep I' cs r)
def mJ (p:zK) (x:zM):Option (zN):=do
 let x1←idx p.Parts x.Part
 let x2←idx x1.Body x.Stmt
 pure (id x2)
theorem zBQ:∀ p x r,mJ p x=some r→∀ {I:Imm}{p1 c p2 c1 p3 c2},(S4 I p1 p.Arrays c)→(S4 I p2 p.Parts c1)→(S4 I p3 x.Point c2)→RT 66 [vA (cProg p p1 c p2 c1),vA (cInst x p3 c2)] I [] (gL  r):=by
 intro p x r N I p1 c p2 c1 p3 c2 h h1 h2;unfold mJ at N;refine yJ Tryz.func66 fun B=>yB<|vM (cProg p p1 c p2 c1) ?_;intro b hb;refine vM (cInst x p3 c2) ?_;intro b1 hb1;refine wU [vT ([]),z0,vI 0,vI 0,z0,vI 0,vT ([]),z0,z0] ?_;intro b2 hb2;refine yC rfl<|zJ<|zZ ?_;obtain ⟨x1,hy,N⟩:=zB N;obtain ⟨x2,hy1,N⟩:=zB N;refine wS [.p (vP b 1) [],.p (vS p2 p.Parts c1) [2],.p (vP b1 0) [],.p (vI x.Part) [1],.x (ePPart x1),.x (eQPart 1 x1),.x (eS x1.Body),.p (vP b1 1) [],.p (vI x.Stmt) [1],.x (ePStmt x2),.x (eVStmt x2)] [[],[(0,false)],[],[(2,false)],[(1,false),(3,false)],[(4,false)],[(5,false)],[],[(7,false)],[(6,false),(8,false)],[(9,false)]] [hB b2 [vT ([]),z0,vI 0,vI 0,z0,vI 0,vT ([]),z0,z0],hB b1 (cInst x p3 c2),hB b (cProg p p1 c p2 c1)] [] [(10,false)] (zY [0,1,2]) ?_ ?_
 · refine Op<|Op<|Op<|Op<|Ox ?_<|Ox ?_<|Ox ?_<|Op<|Op<|Ox ?_<|Ox ?_<|On
   · intro I1 hf le1;refine yS [6,8] rfl ?_;have h1:=h1.mono le1;refine xS rfl rfl h1 hy ?_;intro ad ccs hat hrep;obtain ⟨p4,c3,p5,c4,rfl,h3,h4⟩:=wE hrep;exact yN [] iR ⟨_,_,_,_,_,rfl,rfl,hat,h3,h4⟩
   · rintro I1 hf le1 _ _ ⟨ad,p4,c3,p5,c4,rfl,rfl,hat,h3,h4⟩;exact yS [9] rfl<|qQ 6 [(10,.pointer (some (ad.add 1)))]<|yN [] iR ⟨_,_,_,_,_,rfl,rfl,hat,h3,h4⟩
   · rintro I1 hf le1 _ _ ⟨ad1,p41,c31,p51,c41,rfl,rfl,hat1,h31,h41⟩;exact yS [10] rfl<|xL 1 hat1 [vS p51 x1.Body c41] (vS p51 x1.Body c41) rfl<|yN [] iR ⟨_,_,rfl,rfl,h41⟩
   · rintro I1 hf le1 _ _ ⟨p511,c411,rfl,rfl,h411⟩;refine yS [11,13] rfl<|xS rfl rfl h411 hy1 ?_;intro ad2 ccs1 hat2 hrep1;obtain ⟨p6,c5,p7,c6,p8,c7,p9,c8,rfl,h5,h6,h7,h8⟩:=tH hrep1;exact yN [] iR ⟨_,_,_,_,_,_,_,_,_,rfl,rfl,hat2,h5,h6,h7,h8⟩
   rintro I1 hf le1 _ _ ⟨ad2,p6,c5,p7,c6,p8,c7,p9,c8,rfl,rfl,hat2,h5,h6,h7,h8⟩;exact yS [14] rfl<|xL 0 hat2 (cStmt x2 p6 c5 p7 c6 p8 c7 p9 c8) (vA (cStmt x2 p6 c5 p7 c6 p8 c7 p9 c8)) rfl<|yN [] iR ⟨_,_,_,_,_,_,_,_,rfl,rfl,h5,h6,h7,h8⟩
 rintro I0 le _ _ ⟨p61,c51,p71,c61,p81,c71,p91,c81,rfl,rfl,h51,h61,h71,h81⟩;refine yS [4,15] rfl ?_;refine xI 0 (cStmt x2 p61 c51 p71 c61 p81 c71 p91 c81) rfl<|yC rfl<|zJ<|yX ?_;obtain rfl:=zC N;exact xC ⟨_,_,(.cell 0 rfl rfl (by kernel_rfl) ResV.nil),zP,⟨_,rfl,rfl,⟨_,rfl,(xR ⟨_,_,_,_,rfl,h51,h61,h71,h81⟩)⟩⟩⟩
def tR (p:zK) (m0:(List Int)) (x:zM):Option (Int×Bool):=do
 let t17←(do
   let y←nE p m0
   if (!y) then
    pure true
   else
    let y1←sE p x
    pure (!y1)
     : Option Bool)
 if t17 then
  pure (0,false)
 else
  let y2←mJ p x
  let y3←tQ p m0 y2.Value x.Point
  pure (y3,true)
theorem gR:∀ p m0 x r,tR p m0 x=some r→∀ {I:Imm}{p1 c p2 c1 p3 c2 p4 c3},(S4 I p1 p.Arrays c)→(S4 I p2 p.Parts c1)→(S4 I p3 m0 c2)→(S4 I p4 x.Point c3)→RT 23 [vA (cProg p p1 c p2 c1),vS p3 m0 c2,vA (cInst x p4 c3)] I [] (qU  r):=by
 intro p m0 x r N I p1 c p2 c1 p3 c2 p4 c3 h h1 h2 h3;unfold tR at N;refine yJ Tryz.func23 fun B=>?_;have H:=iS I;refine yB<|vM (cProg p p1 c p2 c1) ?_;intro b hb;refine vM (cInst x p4 c3) ?_;intro b1 hb1;refine xY [] []<|yA<|zZ ?_;refine wD N [hB b1 (cInst x p4 c3),hB b (cProg p p1 c p2 c1)] (fun t17=>[(1,vS p3 m0 c2),(3,vP b 0),(5,vP b1 0),(17,.bool t17)]) (fun o0 ho0=>?_) ?_
 · have H:=iS I;refine zO<|sU 2 [1] [(8,vA (cProg p p1 c p2 c1)),(9,vS p3 m0 c2)] ?_;obtain ⟨y,hy,N⟩:=zB ho0;refine wZ (zBe p m0 _ hy h h1 h2) ?_;intro I01 le;have ⟨h3,h,h1,H⟩:=m4 le h3 h h1 H;refine yD 5 [] [12] rfl<|xQ [12] N ?_ ?_
   · intro hc N;exact xY [] [(17,vY)]<|yQ<|zR (ct N H)
   intro hc N;refine sU 7 [1,0] [(13,vA (cProg p p1 c p2 c1)),(14,vA (cInst x p4 c3))]<|bE N fun y1 hy1 N=>wZ (eT p x _ hy1 h h1 h3) ?_;intro I02 le1;have H:=H.trans le1;exact yI [] [17] rfl<|yQ<|zR (ct N H)
 intro t17 I0 le2 hMc;have ⟨h2,h3,h,h1,H⟩:=m5 le2 h2 h3 h h1 H;refine zJ<|yE hMc ?_ ?_
 · intro hc1 N;refine yH [6,7] rfl<|xB<|zI ?_;obtain rfl:=zC N;exact xC ⟨_,_,(.tmp rfl (.tmp rfl ResV.nil)),zP,⟨_,_,rfl,rfl,rfl,rfl⟩⟩
 intro hc1 N;refine zT<|zJ<|zZ ?_;obtain ⟨y2,hy2,N⟩:=zB N;obtain ⟨y3,hy3,N⟩:=zB N;refine wS [.p (vA (cProg p p1 c p2 c1)) [1],.p (vS p3 m0 c2) [],.p (vA (cProg p p1 c p2 c1)) [1],.p (vA (cInst x p4 c3)) [0],.x (eVStmt y2),.x (eVExpr y2.Value),.p (vP b1 2) [],.p (vS p4 x.Point c3) [0],.q (vI y3)] [[],[],[],[],[(2,false),(3,false)],[(4,false)],[],[(6,false)],[(0,false),(1,false),(5,false),(7,false)]] [hB b1 (cInst x p4 c3),hB b (cProg p p1 c p2 c1)] [] [(8,false)] (zY [0,1]) ?_ ?_
 · refine Op<|Op<|Op<|Op<|Ox ?_<|Ox ?_<|Op<|Op<|Oq ?_<|On
   · intro I1 hf le1;refine yS [20,21] rfl ?_;have H:=iS I1;have ⟨h3,h,h1⟩:=m3 le1 h3 h h1;refine xP (zBQ p x _ hy2 h h1 h3) ?_;rintro I03 hs2 v2 k2 le3 - ⟨v02,rfl,rfl,⟨cs,rfl,h6⟩⟩ -;have H:=H.trans le3;obtain ⟨p5,c4,p6,c5,p7,c6,p8,c7,rfl,h7,h8,h9,h10⟩:=tH h6;exact yN [] H ⟨_,_,_,_,_,_,_,_,rfl,rfl,h7,h8,h9,h10⟩
   · rintro I1 hf le1 _ _ ⟨p5,c4,p6,c5,p7,c6,p8,c7,rfl,rfl,h7,h8,h9,h10⟩;exact yS [22] rfl<|qQ 6 [(23,vA (cExpr y2.Value p6 c5 p7 c6 p8 c7))]<|yN [] iR ⟨_,_,_,_,_,_,rfl,rfl,h8,h9,h10⟩
   rintro I1 hf le1 _ _ ⟨rfl,rfl⟩ _ _ ⟨rfl,rfl⟩ _ _ ⟨p61,c51,p71,c61,p81,c71,rfl,rfl,h81,h91,h101⟩;refine yS [18,19,23,25] rfl ?_;have H:=iS I1;have ⟨h2,h3,h,h1⟩:=m4 le1 h2 h3 h h1;refine oH (zAs p m0 y2.Value x.Point _ hy3 h h1 h2 h81 h91 h101 h3) ?_;intro I04 le4;have H:=H.trans le4;exact xF H
 intro I05 le5;refine yS [26] rfl ?_;refine yI [] [6,7] rfl<|zJ<|yX ?_;obtain rfl:=zC N;exact xC ⟨_,_,(.tmp rfl (.tmp rfl ResV.nil)),zP,⟨_,_,rfl,rfl,rfl,rfl⟩⟩
def tF (m0:(List Int)) (i:Int):Option (Out Unit (Bool)):=do
 if (decide (i < (m0.length:Int))) then
  let t23←(do
    let x←idx m0 i
    if (decide (x < 0)) then
     pure true
    else
     let x1←idx m0 i
     pure (decide (x1 > 999))
      : Option Bool)
  if t23 then
   pure (.ret false)
  else
   tF m0 (W (i + 1))
 else
  pure (.done ())
 partial_fixpoint
theorem zA7 (m0:(List Int)):∀ (i:Int) (o:Out Unit (Bool)),tF m0 i=some o→∀ {B}{I0 I:Imm}{Q}{p:zK}{p1 c p2 c1 p3 c2}{b:Nat},I0.le I→(S4 I p3 m0 c2)→(S4 I p1 p.Arrays c)→(S4 I p2 p.Parts c1)→NG Q→NO Q→(∀ (I':Imm) ,o=(.done ())→I0.le I'→T 33 B Q (.exit 0) I' [hB b (cProg p p1 c p2 c1)] [(1,vS p3 m0 c2),(2,vP b 0)])→(∀ r I' hs' m',o=(.ret r)→I0.le I'→RS Tryz.prog Tryz.f67 B (zS  r) I' hs' m'→T 33 B Q .ret I' hs' m')→J Tryz.prog 33 B (nav (bodyOf Tryz.f67) [1,0,1,0]) Q I [hB b (cProg p p1 c p2 c1)] [(1,vS p3 m0 c2),(2,vP b 0),(5,vI i)]:=by
 refine tF.partial_correctness m0 _ fun self ih i o N B I0 I Q p p1 c p2 c1 p3 c2 b H h2 h h1 hg ho hx hr=>yY hg ho<|zZ<|yH [9] rfl<|zJ<|yE N ?_ ?_
 · intro hc N;refine zT<|yA<|yL<|zZ ?_;refine wD N [hB b (cProg p p1 c p2 c1)] (fun t23=>[(1,vS p3 m0 c2),(2,vP b 0),(5,vI i),(23,.bool t23)]) (fun o0 ho0=>?_) ?_
   · have H:=iS I;refine zO<|yD 2 [] [12,13] rfl ?_;obtain ⟨x,hy,N⟩:=zB ho0;refine xS rfl rfl h2 hy ?_;intro ad ccs hat hrep;obtain rfl:=hrep;refine xL 0 hat [vI x] (vI x) rfl<|yD 6 [] [17] rfl<|xQ [17] N ?_ ?_
     · intro hc1 N;exact xY [] [(23,vY)]<|yQ<|zR (ct N H)
     intro hc1 N;refine yD 8 [] [18,19] rfl<|bE N fun x1 hy1 N=>xS rfl rfl h2 hy1 ?_;intro ad1 ccs1 hat1 hrep1;obtain rfl:=hrep1;exact xL 0 hat1 [vI x1] (vI x1) rfl<|yI [] [23] rfl<|yQ<|zR (ct N H)
   intro t23 I0 le hMc;have ⟨h2,h,h1,H⟩:=m4 le h2 h h1 H;refine zJ<|yE hMc ?_ ?_
   · intro hc2 N;exact vU [(4,vF)]<|xB<|zU<|zI<|zI<|hr _ _ _ _ (zC N).symm H ⟨_,_,(.tmp rfl ResV.nil),zP,⟨_,rfl,rfl,rfl⟩⟩
   intro hc2 N;exact zT<|zQ<|zJ<|zO<|yI [] [5] rfl<|yZ<|mW<|ih (W (i + 1)) _ N H h2 h h1 hg ho hx hr
 intro hc N;exact uA<|yQ<|hx _  (zC N).symm H
def nF (p:zK) (m0:(List Int)):Option (Bool):=do
 match←tF m0 0 with
 | .ret r0=>pure r0
 | .done _ =>
  let t4←(do
    let y←vC p
    if y then
     let y1←mP p
     pure ((m0.length:Int) == y1)
    else
     pure false
      : Option Bool)
  pure (id t4)
theorem zBf:∀ p m0 r,nF p m0=some r→∀ {I:Imm}{p1 c p2 c1 p3 c2},(S4 I p1 p.Arrays c)→(S4 I p2 p.Parts c1)→(S4 I p3 m0 c2)→RT 67 [vA (cProg p p1 c p2 c1),vS p3 m0 c2] I [] (zS  r):=by
 intro p m0 r N I p1 c p2 c1 p3 c2 h h1 h2;unfold nF at N;refine yJ Tryz.func67 fun B=>?_;have H:=iS I;refine yB<|vM (cProg p p1 c p2 c1) ?_;intro b hb;refine xY [] []<|yA<|yH [5] rfl<|wK<|oM [(1,vS p3 m0 c2),(2,vP b 0),(5,vI 0)] ?_;obtain ⟨o01,ho01,hMl⟩:=zB N;refine zA7 m0 0 o01 ho01 iR h2 h h1 (fun _ _ _ h=>h) (fun _ _ h=>h) ?_ ?_
 · intro I01  heq1 le1;subst o01;have ⟨h,h1,H⟩:=m3 le1 h h1 H;refine zV<|zJ<|zZ ?_;refine wD hMl [] (fun t4=>[(4,.bool t4)]) (fun o02 ho02=>?_) ?_
   · have H:=iS I01;refine zO<|sU 1 [0] [(24,vA (cProg p p1 c p2 c1))] ?_;obtain ⟨y,hy2,N⟩:=zB ho02;refine wZ (nR p _ hy2 h h1) ?_;intro I03 le2;have ⟨h,h1,H⟩:=m3 le2 h h1 H;refine yD 3 [] [26] rfl<|xQ [26] N ?_ ?_
     · intro hc3 N;refine sU 6 [0] [(28,vI (m0.length:Int)),(29,vA (cProg p p1 c p2 c1))]<|bE N fun y1 hy3 N=>oH (zAf p _ hy3 h h1) ?_;intro I04 le3;have H:=H.trans le3;exact yI [] [4] rfl<|xV zP<|yQ<|zR (ct N H)
     intro hc3 N;exact xY [] [(4,vF)]<|xV zP<|yQ<|zR (ct N H)
   intro t4 I02 le4 hMc1;refine zJ<|yX ?_;obtain rfl:=zC hMc1;exact xZ
 intro r0 I9 hs9 m9 heq9 le9 hrs9;subst heq9;refine zU<|zI ?_;obtain rfl:=zC hMl;exact xC hrs9
def qJ (nest:(List zE)) (p1:(List Int)) (i:Int):Option (Out Unit (Bool)):=do
 if (decide (i < (p1.length:Int))) then
  let x←idx nest i
  let l←slc p1 0 i
  let (y3,y4)←rY x l
  let t53←(do
    let x1←idx p1 i
    if (decide (x1 < y3)) then
     pure true
    else
     let x2←idx p1 i
     pure (decide (x2 ≥ y4))
      : Option Bool)
  if t53 then
   pure (.ret false)
  else
   qJ nest p1 (W (i + 1))
 else
  pure (.done ())
 partial_fixpoint
theorem zCT (nest:(List zE)) (p1:(List Int)):∀ (i:Int) (o:Out Unit (Bool)),qJ nest p1 i=some o→∀ {B}{I0 I:Imm}{Q p c p2 c1},I0.le I→(S4 I p nest c)→(S4 I p2 p1 c1)→NG Q→NO Q→(∀ (I':Imm) ,o=(.done ())→I0.le I'→T 54 B Q (.exit 0) I' [] [])→(∀ r I' hs' m',o=(.ret r)→I0.le I'→RS Tryz.prog Tryz.f130 B (zS  r) I' hs' m'→T 54 B Q .ret I' hs' m')→J Tryz.prog 54 B (nav (bodyOf Tryz.f130) [1,1,0,1,0]) Q I [] [(0,vS p nest c),(1,vS p2 p1 c1),(5,vI i)]:=by
 refine qJ.partial_correctness nest p1 _ fun self ih i o N B I0 I Q p c p2 c1 H h h1 hg ho hx hr=>yY hg ho<|zZ<|yH [26] rfl<|zJ<|yE N ?_ ?_
 · intro hc3 N;refine zT<|yA<|yL<|zZ ?_;obtain ⟨x,hy2,N⟩:=zB N;obtain ⟨l,hy3,N⟩:=zB N;obtain ⟨⟨y3,y4⟩,hy4,N⟩:=zB N;refine wS [.p (vS p nest c) [],.p (vI i) [],.x (ePLoop x),.x (eVLoop x),.p (vS p2 p1 c1) [],.p (vI i) [],.x (eS l),.q (.tuple ⟨[vI y3,vI y4]⟩),.p (.tuple ⟨[vI y3,vI y4]⟩) [],.p (vI y3) [],.p (vI y4) [],.p (vI y3) []] [[],[],[(0,false),(1,false)],[(2,false)],[],[],[(4,false),(5,false)],[(3,false),(6,false)],[(7,false)],[(8,false)],[(8,false)],[(9,false)]] [] [] [(10,false),(11,false)] zP ?_ ?_
   · refine Op<|Op<|Ox ?_<|Ox ?_<|Op<|Op<|Ox ?_<|Oq ?_<|Op<|Op<|Op<|Op<|On
     · intro I1 hf le1;refine yS [30,31] rfl ?_;have h:=h.mono le1;refine xS rfl rfl h hy2 ?_;intro ad ccs hat hrep;obtain ⟨p3,c2,p4,c3,rfl,h4,h5⟩:=tG hrep;exact yN [] iR ⟨_,_,_,_,_,rfl,rfl,hat,h4,h5⟩
     · rintro I1 hf le1 _ _ ⟨ad,p3,c2,p4,c3,rfl,rfl,hat,h4,h5⟩;exact yS [32] rfl<|xL 0 hat (cLoop x p3 c2 p4 c3) (vA (cLoop x p3 c2 p4 c3)) rfl<|yN [] iR ⟨_,_,_,_,rfl,rfl,h4,h5⟩
     · intro I1 hf le1;refine yS [34,35] rfl ?_;have h1:=h1.mono le1;refine zJx rfl h1 hy3 ?_;intro v04 h6;obtain ⟨p5,c4,rfl⟩:=h6.form;exact yN [] iR ⟨_,_,rfl,rfl,h6⟩
     rintro I1 hf le1 _ _ ⟨p31,c21,p41,c31,rfl,rfl,h41,h51⟩ _ _ ⟨p5,c4,rfl,rfl,h6⟩;refine yS [33,36] rfl ?_;have H:=iS I1;refine xP (fO x l _ hy4 h41 h51 h6) ?_;rintro I03 hs2 v2 k2 le3 - ⟨v05,v06,rfl,rfl,rfl,rfl⟩ -;have H:=H.trans le3;exact xF H
   intro I04 le4;refine yS [0,1,5,6,39] rfl ?_;have ⟨h,h1,H⟩:=m3 le4 h h1 H;refine yI [] [7] rfl<|zJ<|zZ ?_;refine wD N [] (fun t53=>[(0,vS p nest c),(1,vS p2 p1 c1),(5,vI i),(53,.bool t53)]) (fun o01 ho01=>?_) ?_
   · have H:=iS I04;refine zO<|yD 2 [] [40,41] rfl ?_;obtain ⟨x1,hy5,N⟩:=zB ho01;refine xS rfl rfl h1 hy5 ?_;intro ad1 ccs1 hat1 hrep1;obtain rfl:=hrep1;refine xL 0 hat1 [vI x1] (vI x1) rfl<|yD 7 [] [46] rfl<|xQ [46] N ?_ ?_
     · intro hc4 N;exact xY [] [(53,vY)]<|yQ<|zR (ct N H)
     intro hc4 N;refine yD 9 [] [47,48] rfl<|bE N fun x2 hy6 N=>xS rfl rfl h1 hy6 ?_;intro ad2 ccs2 hat2 hrep2;obtain rfl:=hrep2;exact xL 0 hat2 [vI x2] (vI x2) rfl<|yI [] [53] rfl<|yQ<|zR (ct N H)
   intro t53 I05 le5 hMc1;have ⟨h,h1,H⟩:=m3 le5 h h1 H;refine zJ<|yE hMc1 ?_ ?_
   · intro hc5 N;exact vU [(4,vF)]<|xB<|zU<|zI<|zI<|hr _ _ _ _ (zC N).symm H ⟨_,_,(.tmp rfl ResV.nil),zP,⟨_,rfl,rfl,rfl⟩⟩
   intro hc5 N;exact zT<|zQ<|zJ<|zO<|yI [] [5] rfl<|yZ<|mW<|ih (W (i + 1)) _ N H h h1 hg ho hx hr
 intro hc3 N;exact uA<|yQ<|hx _  (zC N).symm H
def jD (nest:(List zE)) (p1:(List Int)):Option (Bool):=do
 let t22←(do
   let y←rE nest
   if (!y) then
    pure true
   else
    let y1←pT p1
    if (!y1) then
     pure true
    else
     pure ((p1.length:Int) != (nest.length:Int))
     : Option Bool)
 if t22 then
  pure false
 else
  match←qJ nest p1 0 with
  | .ret r0=>pure r0
  | .done _ =>
   pure true
theorem zEJ:∀ nest p1 r,jD nest p1=some r→∀ {I:Imm}{p c p2 c1},(S4 I p nest c)→(S4 I p2 p1 c1)→RT 130 [vS p nest c,vS p2 p1 c1] I [] (zS  r):=by
 intro nest p1 r N I p c p2 c1 h h1;unfold jD at N;refine yJ Tryz.func130 fun B=>?_;have H:=iS I;refine vU []<|yA<|zZ ?_;refine wD N [] (fun t22=>[(0,vS p nest c),(1,vS p2 p1 c1),(22,.bool t22)]) (fun o0 ho0=>?_) ?_
 · have H:=iS I;refine zO<|yD 1 [] [8] rfl ?_;obtain ⟨y,hy,N⟩:=zB ho0;refine wZ (dH nest _ hy h) ?_;intro I01 le;have ⟨h1,H⟩:=m2 le h1 H;refine yD 4 [] [11] rfl<|xQ [11] N ?_ ?_
   · intro hc N;exact xY [] [(22,vY)]<|yQ<|zR (ct N H)
   intro hc N;refine yD 5 [] [12] rfl<|bE N fun y1 hy1 N=>wZ (zAd p1 _ hy1 h1) ?_;intro I02 le1;have H:=H.trans le1;refine yD 9 [] [16] rfl<|xQ [16] N ?_ ?_
   · intro hc1 N;exact xY [] [(22,vY)]<|yQ<|zR (ct N H)
   intro hc1 N;exact yI [] [22] rfl<|yQ<|zR (ct N H)
 intro t22 I0 le2 hMc;have ⟨h,h1⟩:=m2 le2 h h1;refine zJ<|yE hMc ?_ ?_
 · intro hc2 N;refine vU [(4,vF)]<|xB<|zI ?_;obtain rfl:=zC N;exact xZ
 intro hc2 N;refine zT<|yA<|yH [5] rfl<|wK<|oM [(0,vS p nest c),(1,vS p2 p1 c1),(5,vI 0)] ?_;obtain ⟨o02,ho02,hMl⟩:=zB N;refine zCT nest p1 0 o02 ho02 iR h h1 (fun _ _ _ h=>h) (fun _ _ h=>h) ?_ ?_
 · intro I06  heq2 le6;subst o02;refine zV<|zIX [(4,vY)]<|zJ<|yX ?_;obtain rfl:=zC hMl;exact xZ
 intro r0 I9 hs9 m9 heq9 le9 hrs9;subst heq9;refine zU<|zI ?_;obtain rfl:=zC hMl;exact xC hrs9
def fJ (p:zK) (x:zM):Option (Bool):=do
 let t16←(do
   if (decide (x.Part < 0)) then
    pure true
   else
    pure (decide (x.Part ≥ (p.Parts.length:Int)))
     : Option Bool)
 if t16 then
  pure false
 else
  let x1←idx p.Parts x.Part
  let t4←(do
    if (decide (x.Stmt ≥ 0)) then
     if (decide (x.Stmt < (x1.Body.length:Int))) then
      let y←jD x1.Nest x.Point
      pure (id y)
     else
      pure false
    else
     pure false
      : Option Bool)
  pure (id t4)
theorem zGO:∀ p x r,fJ p x=some r→∀ {I:Imm}{p1 c p2 c1 p3 c2},(S4 I p1 p.Arrays c)→(S4 I p2 p.Parts c1)→(S4 I p3 x.Point c2)→RT 68 [vA (cProg p p1 c p2 c1),vA (cInst x p3 c2)] I [] (zS  r):=by
 intro p x r N I p1 c p2 c1 p3 c2 h h1 h2;unfold fJ at N;refine yJ Tryz.func68 fun B=>?_;have H:=iS I;refine yB<|vM (cProg p p1 c p2 c1) ?_;intro b hb;refine vM (cInst x p3 c2) ?_;intro b1 hb1;refine xY [] []<|yA<|zZ ?_;refine wD N [hB b1 (cInst x p3 c2),hB b (cProg p p1 c p2 c1)] (fun t16=>[(2,vP b 0),(3,vP b1 0),(16,.bool t16)]) (fun o0 ho0=>?_) ?_
 · have H:=iS I;refine zO<|yD 4 [0] [9] rfl<|xQ [9] ho0 ?_ ?_
   · intro hc N;exact xY [] [(16,vY)]<|yQ<|zR (ct N H)
   intro hc N;exact yI [0,1] [16] rfl<|yQ<|zR (ct N H)
 intro t16 I0 le hMc;have ⟨h2,h1,H⟩:=m3 le h2 h1 H;refine zJ<|yE hMc ?_ ?_
 · intro hc1 N;refine vU [(4,vF)]<|xB<|zI ?_;obtain rfl:=zC N;exact xZ
 intro hc1 N;refine zT<|xE<|yD 4 [1,0] [18,20] rfl<|bE N fun x1 hy N=>xS rfl rfl h1 hy ?_;intro ad ccs hat hrep;obtain ⟨p4,c3,p5,c4,rfl,h3,h4⟩:=wE hrep;refine xL 0 hat (cPart x1 p4 c3 p5 c4) (vA (cPart x1 p4 c3 p5 c4)) rfl<|wU zTwo ?_;intro b2 hb2;refine xI 0 (cPart x1 p4 c3 p5 c4) rfl<|yC rfl<|zJ<|zZ ?_;refine wD N [] (fun t4=>[(4,.bool t4)]) (fun o01 ho01=>?_) ?_
 · have H:=iS I0;refine zO<|yD 4 [1] [26] rfl<|xQ [26] ho01 ?_ ?_
   · intro hc2 N;refine yD 12 [1,0] [34] rfl<|xQ [34] N ?_ ?_
     · intro hc3 N;refine yD 16 [0,1] [36,38] rfl<|bE N fun y hy1 N=>wZ (zEJ x1.Nest x.Point _ hy1 h3 h2) ?_;intro I02 le1;have H:=H.trans le1;exact yI [] [4] rfl<|xV zP<|yQ<|zR (ct N H)
     intro hc3 N;exact xY [] [(4,vF)]<|xV zP<|yQ<|zR (ct N H)
   intro hc2 N;exact xY [] [(4,vF)]<|xV zP<|yQ<|zR (ct N H)
 intro t4 I01 le2 hMc1;refine zJ<|yX ?_;obtain rfl:=zC hMc1;exact xZ
def oT (n0:Int):Option (Int):=do
 if (decide ((n0.tmod 1000) < 0)) then
  pure (W ((W ((n0.tmod 1000) + 999)) + 1))
 else
  pure (n0.tmod 1000)
theorem gN:∀ n0 r,oT n0=some r→∀ {I:Imm} ,RT 131 [vI n0] I [] (yP  r):=by
 intro n0 r N I;unfold oT at N;refine yJ Tryz.func131 fun B=>vU []<|vV [0] rfl<|yA<|yH [6] rfl<|zJ<|yE N ?_ ?_
 · intro hc N;refine yH [2] rfl<|xB<|zI ?_;obtain rfl:=zC N;exact xZ
 intro hc N;refine zT<|vV [2] rfl<|zJ<|yX ?_;obtain rfl:=zC N;exact xZ
def mH (list:(List zF)) (m0:(List Int)) (e0:zD) (point:(List Int)):Option (Int):=do
 if (e0.Kind == 1) then
  pure e0.Num
 else
  if (e0.Kind == 2) then
   let y←tU e0.Index point
   let y1←oT y
   pure (id y1)
  else
   if (e0.Kind == 3) then
    let y2←rL list e0.Read point
    let x←idx m0 y2
    pure (id x)
   else
    let x1←idx e0.Kids 0
    let y3←mH (same list) (same m0) (same x1) (same point)
    let x2←idx e0.Kids 1
    let y4←mH (same list) (same m0) (same x2) (same point)
    if (e0.Kind == 4) then
     let y5←oT (W (y3 + y4))
     pure (id y5)
    else
     if (e0.Kind == 5) then
      let y6←oT (W (y3 - y4))
      pure (id y6)
     else
      let y7←oT (W (y3 * y4))
      pure (id y7)
 partial_fixpoint
theorem zEy:∀ list m0 e0 point r,mH list m0 e0 point=some r→∀ {I:Imm}{p c p1 c1 p2 c2 p3 c3 p4 c4 p5 c5},(S4 I p list c)→(S4 I p1 m0 c1)→(S4 I p2 e0.Index.Coefs c2)→(S4 I p3 e0.Read.Subs c3)→(S4 I p4 e0.Kids c4)→(S4 I p5 point c5)→RT 69 [vS p list c,vS p1 m0 c1,vA (cExpr e0 p2 c2 p3 c3 p4 c4),vS p5 point c5] I [] (yP  r):=by
 refine mH.partial_correctness _ fun F_spec_l5Eval ih_spec_l5Eval list m0 e0 point r N I p c p1 c1 p2 c2 p3 c3 p4 c4 p5 c5 h h1 h2 h3 h4 h5=>yJ Tryz.func69 fun B=>yB<|vM (cExpr e0 p2 c2 p3 c3 p4 c4) ?_;intro b hb;refine xY [] []<|yA<|yB<|yI [0] [12] rfl<|wK<|yH [13] rfl<|zJ<|yE N ?_ ?_
 · intro hc N;refine yB<|yI [0] [8] rfl<|xB<|zU<|zI ?_;obtain rfl:=zC N;exact xZ
 intro hc N;refine yH [17] rfl<|zJ<|yE N ?_ ?_
 · intro hc1 N;refine yB<|sU 3 [0] [(20,vA (cAff e0.Index p2 c2)),(21,vS p5 point c5)]<|bE N fun y hy N=>oH (mM e0.Index point _ hy h2 h5) ?_;intro I0 le;obtain ⟨y1,hy1,N⟩:=zB N;refine oH (gN y _ hy1 ) fun I01 le1=>xY [] [(8,vI y1)]<|xB<|zU<|zI ?_;obtain rfl:=zC N;exact xZ
 intro hc1 N;refine yH [24] rfl<|zJ<|yE N ?_ ?_
 · intro hc2 N;refine yB<|sU 5 [0] [(26,vS p1 m0 c1),(27,vS p list c),(29,vA (cAccess e0.Read p3 c3)),(30,vS p5 point c5)]<|bE N fun y2 hy2 N=>oH (eJ list e0.Read point _ hy2 h h3 h5) ?_;intro I02 le2;have h1:=h1.mono le2;obtain ⟨x,hy3,N⟩:=zB N;refine xS rfl rfl h1 hy3 ?_;intro ad ccs hat hrep;obtain rfl:=hrep;refine xL 0 hat [vI x] (vI x) rfl<|yI [] [8] rfl<|xB<|zU<|zI ?_;obtain rfl:=zC N;exact xZ
 intro hc2 N;refine zT<|zQ<|xE<|yD 4 [0] [34,35,37] rfl<|bE N fun x1 hy4 N=>xS rfl rfl h4 hy4 ?_;intro ad1 ccs1 hat1 hrep1;obtain ⟨p6,c6,p7,c7,p8,c8,rfl,h9,h10,h11⟩:=xX hrep1;refine xL 0 hat1 (cExpr x1 p6 c6 p7 c7 p8 c8) (vA (cExpr x1 p6 c6 p7 c7 p8 c8)) rfl<|yD 7 [] [40] rfl<|bE N fun y3 hy5 N=>xP (ih_spec_l5Eval list m0 x1 point _ hy5 h h1 h9 h10 h11 h5) ?_;rintro I03 hs2 v2 k2 le3 - ⟨v06,rfl,rfl,rfl⟩ -;have ⟨h,h1,h5,h4⟩:=m4 le3 h h1 h5 h4;refine yI [] [9] rfl<|xE<|yD 4 [0] [42,43,45] rfl<|bE N fun x2 hy6 N=>xS rfl rfl h4 hy6 ?_;intro ad2 ccs2 hat2 hrep2;obtain ⟨p9,c9,p10,c10,p11,c11,rfl,h13,h14,h15⟩:=xX hrep2;refine xL 0 hat2 (cExpr x2 p9 c9 p10 c10 p11 c11) (vA (cExpr x2 p9 c9 p10 c10 p11 c11)) rfl<|yD 7 [] [48] rfl<|bE N fun y4 hy7 N=>xP (ih_spec_l5Eval list m0 x2 point _ hy7 h h1 h13 h14 h15 h5) ?_;rintro I04 hs2 v2 k2 le4 - ⟨v010,rfl,rfl,rfl⟩ -;refine yI [] [10] rfl<|yA<|yB<|yI [0] [51] rfl<|wK<|yH [52] rfl<|zJ<|yE N ?_ ?_
 · intro hc3 N;refine yB<|yD 3 [] [56] rfl<|bE N fun y5 hy8 N=>oH (gN (W (y3 + y4)) _ hy8 ) fun I05 le5=>xY [] [(8,vI y5)]<|xB<|zU<|zI ?_;obtain rfl:=zC N;exact xZ
 intro hc3 N;refine yH [58] rfl<|zJ<|yE N ?_ ?_
 · intro hc4 N;refine yB<|yD 3 [] [62] rfl<|bE N fun y6 hy9 N=>oH (gN (W (y3 - y4)) _ hy9 ) fun I06 le6=>xY [] [(8,vI y6)]<|xB<|zU<|zI ?_;obtain rfl:=zC N;exact xZ
 intro hc4 N;refine zT<|zQ<|xE<|yD 3 [] [66] rfl<|bE N fun y7 hy10 N=>oH (gN (W (y3 * y4)) _ hy10 ) fun I07 le7=>xY [] [(8,vI y7)]<|zJ<|yX ?_;obtain rfl:=zC N;exact xZ
def pV (p:zK) (m0:(List Int)) (x:zM):Option (Int×Bool):=do
 let t17←(do
   let y←nF p m0
   if (!y) then
    pure true
   else
    let y1←fJ p x
    pure (!y1)
     : Option Bool)
 if t17 then
  pure (0,false)
 else
  let x1←idx p.Parts x.Part
  let x2←idx x1.Body x.Stmt
  let y2←mH p.Arrays m0 x2.Value x.Point
  pure (y2,true)
theorem zAt:∀ p m0 x r,pV p m0 x=some r→∀ {I:Imm}{p1 c p2 c1 p3 c2 p4 c3},(S4 I p1 p.Arrays c)→(S4 I p2 p.Parts c1)→(S4 I p3 m0 c2)→(S4 I p4 x.Point c3)→RT 24 [vA (cProg p p1 c p2 c1),vS p3 m0 c2,vA (cInst x p4 c3)] I [] (qU  r):=by
 intro p m0 x r N I p1 c p2 c1 p3 c2 p4 c3 h h1 h2 h3;unfold pV at N;refine yJ Tryz.func24 fun B=>?_;have H:=iS I;refine yB<|vM (cProg p p1 c p2 c1) ?_;intro b hb;refine vM (cInst x p4 c3) ?_;intro b1 hb1;refine xY [] []<|yA<|zZ ?_;refine wD N [hB b1 (cInst x p4 c3),hB b (cProg p p1 c p2 c1)] (fun t17=>[(1,vS p3 m0 c2),(3,vP b 0),(5,vP b1 0),(17,.bool t17)]) (fun o0 ho0=>?_) ?_
 · have H:=iS I;refine zO<|sU 2 [1] [(8,vA (cProg p p1 c p2 c1)),(9,vS p3 m0 c2)] ?_;obtain ⟨y,hy,N⟩:=zB ho0;refine wZ (zBf p m0 _ hy h h1 h2) ?_;intro I01 le;have ⟨h3,h,h1,H⟩:=m4 le h3 h h1 H;refine yD 5 [] [12] rfl<|xQ [12] N ?_ ?_
   · intro hc N;exact xY [] [(17,vY)]<|yQ<|zR (ct N H)
   intro hc N;refine sU 7 [1,0] [(13,vA (cProg p p1 c p2 c1)),(14,vA (cInst x p4 c3))]<|bE N fun y1 hy1 N=>wZ (zGO p x _ hy1 h h1 h3) ?_;intro I02 le1;have H:=H.trans le1;exact yI [] [17] rfl<|yQ<|zR (ct N H)
 intro t17 I0 le2 hMc;have ⟨h2,h3,h,h1,H⟩:=m5 le2 h2 h3 h h1 H;refine zJ<|yE hMc ?_ ?_
 · intro hc1 N;refine yH [6,7] rfl<|xB<|zI ?_;obtain rfl:=zC N;exact xC ⟨_,_,(.tmp rfl (.tmp rfl ResV.nil)),zP,⟨_,_,rfl,rfl,rfl,rfl⟩⟩
 intro hc1 N;refine zT<|zJ<|zZ ?_;obtain ⟨x1,hy2,N⟩:=zB N;obtain ⟨x2,hy3,N⟩:=zB N;obtain ⟨y2,hy4,N⟩:=zB N;refine wS [.p (vP b 0) [],.p (vS p1 p.Arrays c) [1],.p (vS p3 m0 c2) [],.p (vP b 1) [],.p (vS p2 p.Parts c1) [1],.p (vP b1 0) [],.p (vI x.Part) [0],.x (ePPart x1),.x (eQPart 1 x1),.x (eS x1.Body),.p (vP b1 1) [],.p (vI x.Stmt) [0],.x (ePStmt x2),.x (eQStmt 2 x2),.x (eVExpr x2.Value),.p (vP b1 2) [],.p (vS p4 x.Point c3) [0],.q (vI y2)] [[],[(0,false)],[],[],[(3,false)],[],[(5,false)],[(4,false),(6,false)],[(7,false)],[(8,false)],[],[(10,false)],[(9,false),(11,false)],[(12,false)],[(13,false)],[],[(15,false)],[(1,false),(2,false),(14,false),(16,false)]] [hB b1 (cInst x p4 c3),hB b (cProg p p1 c p2 c1)] [] [(17,false)] (zY [0,1]) ?_ ?_
 · refine Op<|Op<|Op<|Op<|Op<|Op<|Op<|Ox ?_<|Ox ?_<|Ox ?_<|Op<|Op<|Ox ?_<|Ox ?_<|Ox ?_<|Op<|Op<|Oq ?_<|On
   · intro I1 hf le1;refine yS [22,24] rfl ?_;have h1:=h1.mono le1;refine xS rfl rfl h1 hy2 ?_;intro ad ccs hat hrep;obtain ⟨p5,c4,p6,c5,rfl,h6,h7⟩:=wE hrep;exact yN [] iR ⟨_,_,_,_,_,rfl,rfl,hat,h6,h7⟩
   · rintro I1 hf le1 _ _ ⟨ad,p5,c4,p6,c5,rfl,rfl,hat,h6,h7⟩;exact yS [25] rfl<|qQ 9 [(26,.pointer (some (ad.add 1)))]<|yN [] iR ⟨_,_,_,_,_,rfl,rfl,hat,h6,h7⟩
   · rintro I1 hf le1 _ _ ⟨ad1,p51,c41,p61,c51,rfl,rfl,hat1,h61,h71⟩;exact yS [26] rfl<|xL 1 hat1 [vS p61 x1.Body c51] (vS p61 x1.Body c51) rfl<|yN [] iR ⟨_,_,rfl,rfl,h71⟩
   · rintro I1 hf le1 _ _ ⟨p611,c511,rfl,rfl,h711⟩;refine yS [27,29] rfl<|xS rfl rfl h711 hy3 ?_;intro ad2 ccs1 hat2 hrep1;obtain ⟨p7,c6,p8,c7,p9,c8,p10,c9,rfl,h8,h9,h10,h11⟩:=tH hrep1;exact yN [] iR ⟨_,_,_,_,_,_,_,_,_,rfl,rfl,hat2,h8,h9,h10,h11⟩
   · rintro I1 hf le1 _ _ ⟨ad2,p7,c6,p8,c7,p9,c8,p10,c9,rfl,rfl,hat2,h8,h9,h10,h11⟩;exact yS [30] rfl<|qQ 14 [(31,.pointer (some (ad2.add 2)))]<|yN [] iR ⟨_,_,_,_,_,_,_,_,_,rfl,rfl,hat2,h8,h9,h10,h11⟩
   · rintro I1 hf le1 _ _ ⟨ad21,p71,c61,p81,c71,p91,c81,p101,c91,rfl,rfl,hat21,h81,h91,h101,h111⟩;exact yS [31] rfl<|xL 2 hat21 (cExpr x2.Value p81 c71 p91 c81 p101 c91) (vA (cExpr x2.Value p81 c71 p91 c81 p101 c91)) rfl<|yN [] iR ⟨_,_,_,_,_,_,rfl,rfl,h91,h101,h111⟩
   rintro I1 hf le1 _ _ ⟨rfl,rfl⟩ _ _ ⟨rfl,rfl⟩ _ _ ⟨p811,c711,p911,c811,p1011,c911,rfl,rfl,h911,h1011,h1111⟩;refine yS [19,20,32,34] rfl ?_;have H:=iS I1;have ⟨h2,h3,h⟩:=m3 le1 h2 h3 h;refine oH (zEy p.Arrays m0 x2.Value x.Point _ hy4 h h2 h911 h1011 h1111 h3) ?_;intro I03 le3;have H:=H.trans le3;exact xF H
 intro I04 le4;refine yS [35] rfl ?_;refine yI [] [6,7] rfl<|zJ<|yX ?_;obtain rfl:=zC N;exact xC ⟨_,_,(.tmp rfl (.tmp rfl ResV.nil)),zP,⟨_,_,rfl,rfl,rfl,rfl⟩⟩
def zBg (r:zG):KT:=fun kk I' hs' v=>
  ∃ v0,hs'=[]∧v=tupV [v0]∧(∃ cs,v0=.agg ⟨cs⟩∧Rp.rep I' cs r)
def sL (a0:zG) (change:(zA→Option zA)) (t14:Int) (Subs:List zA):Option (List zA):=do
 if (decide (t14 < (a0.Subs.length:Int))) then
  let x←idx a0.Subs t14
  let y←change x
  let l←app 32 Subs ([y]:List zA)
  sL a0 change (W (t14 + 1)) l
 else
  pure (id Subs)
 partial_fixpoint
theorem zBR (a0:zG) (change:(zA→Option zA)):∀ (t14:Int) (Subs:List zA) (o:List zA),sL a0 change t14 Subs=some o→∀ {B}{I0 I:Imm}{Q p c}{fv:Value}{b1:Nat}{b2:Nat}{p1 c1 cs},I0.le I→(FV1 Tryz.prog I [] fv change)→(S4 I p a0.Subs c)→(RL I cs Subs)→NG Q→NO Q→(∀ (I':Imm) (Subs1:List zA) (p2:Option Addr) (c2:Nat) (cs1:List Value),o=Subs1→I0.le I'→(RL I' cs1 Subs1)→T 28 B Q (.exit 0) I' [hO zA (vS p2 Subs1 c2) cs1,hB b2 [vT a0.Array.l,vS p2 Subs1 c2],hB b1 [vT ([]),z0]] [(4,vP b1 0),(5,vP b2 0)])→J Tryz.prog 28 B (nav (bodyOf Tryz.f111) [1,1,0,1,0]) Q I [hO zA (vS p1 Subs c1) cs,hB b2 [vT a0.Array.l,vS p1 Subs c1],hB b1 [vT ([]),z0]] [(1,fv),(4,vP b1 0),(5,vP b2 0),(12,vS p a0.Subs c),(13,vI (a0.Subs.length:Int)),(14,vI t14)]:=by
 refine sL.partial_correctness a0 change _ fun self ih t14 Subs o N B I0 I Q p c fv b1 b2 p1 c1 cs H h1 h h3 hg ho hx=>yY hg ho<|yH [15] rfl<|yA<|yE N ?_ ?_
 · intro hc N;refine zT<|yA<|yL<|yB<|bE N fun x hy N=>xS rfl rfl h hy ?_;intro ad ccs hat hrep;obtain ⟨p3,c3,rfl,h5⟩:=yG hrep;refine xL 0 hat (cAff x p3 c3) (vA (cAff x p3 c3)) rfl<|wU [z0,vI 0] ?_;intro b3 hb3;refine xI 0 (cAff x p3 c3) rfl<|yC rfl<|zJ ?_;obtain ⟨y,hy1,N⟩:=zB N;obtain ⟨l,hy2,N⟩:=zB N;refine wS [.p (vP b2 1) [],.p (vS p1 Subs c1) [1],.p fv [],.p (vA (cAff x p3 c3)) [0],.x (eVAff y),.x (fun I' v hx=>∃ b4,v=vS (some ⟨b4,0,none⟩) ([y]:List zA) 1∧hx=[]∧(SL I' (vS (some ⟨b4,0,none⟩) ([y]:List zA) 1) ([y]:List zA))),.x (fun I' v hx=>∃ p5 c5 cs3,v=vS p5 l c5∧hx=[hO zA (vS p5 l c5) cs3]∧(RL I' cs3 l))] [[],[(0,false)],[],[],[(2,false),(3,false)],[(4,false)],[(1,false),(5,false),(9,true)]] [hB b3 (cAff x p3 c3),hB b2 [vT a0.Array.l,vS p1 Subs c1],hB b1 [vT ([]),z0]] [[hO zA (vS p1 Subs c1) cs]] [(6,true)] (zY [0,2,3,1]) ?_ ?_
   · refine Op<|Op<|Op<|Op<|Ox ?_<|Ox ?_<|Ox ?_<|On
     · intro I1 hf le1;refine yS [20,21] rfl ?_;have H:=iS I1;have ⟨h1,h5⟩:=m2 le1 h1 h5;refine zKV rfl rfl h1 hy1 ⟨_,rfl,(yF ⟨_,rfl,h5⟩)⟩  ?_;rintro I0 v01 le ⟨cs2,rfl,h6⟩;have H:=H.trans le;obtain ⟨p4,c4,rfl,h7⟩:=yG h6;exact yN [] H ⟨_,_,rfl,rfl,h7⟩
     · rintro I1 hf le1 _ _ ⟨p4,c4,rfl,rfl,h7⟩;refine yS [22] rfl ?_;have H:=iS I1;refine pW (rc y (yF ⟨_,rfl,h7⟩) rN) ?_;intro b4 I01 le1 h9;have H:=H.trans le1;exact yN [] H ⟨_,rfl,rfl,h9⟩
     rintro I1 hf le1 _ _ ⟨rfl,rfl⟩ _ _ ⟨b4,rfl,rfl,h9⟩ _ _ rfl;refine yS [19,23] rfl ?_;have h3:=iM le1 h3;obtain ⟨ccs1,k0,k01⟩:=h9;have h9:SL I1 (vS (some ⟨b4,0,none⟩) ([y]:List zA) 1) ([y]:List zA):=⟨_,k0,k01⟩;exact pP 43 2 0 rfl rfl rfl h3 (.inl k0) k01 hy2 fun p5 c5 cs3 h10=>uR (hs':=(hO zA (vS p5 l c5) cs3::hB b3 (cAff x p3 c3)::hB b2 [vT a0.Array.l,vS p1 Subs c1]::hB b1 [vT ([]),z0]::hf)) rfl<|yN [hO zA (vS p5 l c5) cs3] iR ⟨_,_,_,rfl,rfl,h10⟩
   rintro I02 le2 _ _ ⟨p5,c5,cs3,rfl,rfl,h10⟩;refine yS [1,4,5,12,13,14,24] rfl ?_;have ⟨h1,h,H⟩:=m3 le2 h1 h H;exact yD 8 [] [25] rfl<|xI 2 [vT a0.Array.l,vS p5 l c5] rfl<|yC rfl<|zQ<|zJ<|zO<|yI [] [14] rfl<|yZ<|kP (zX [0,2,3] rfl (by decide))<|mW<|ih (W (t14 + 1)) l _ N H h1 h h10 hg ho hx
 intro hc N;exact uA<|yQ<|hx _ _ _ _ _ (zC N).symm H h3
def oX (a0:zG) (change:(zA→Option zA)):Option (zG):=do
 let Subs1←sL a0 change 0 ([]:List zA)
 pure (zG.mk a0.Array Subs1)
theorem dQ:∀ a0 change r,oX a0 change=some r→∀ {I:Imm}{p c}{fv:Value},(S4 I p a0.Subs c)→(FV1 Tryz.prog I [] fv change)→RT 111 [vA (cAccess a0 p c),fv] I [] (zBg  r):=by
 intro a0 change r N I p c fv h h1;unfold oX at N;refine yJ Tryz.func111 fun B=>yB<|vM (cAccess a0 p c) ?_;intro b hb;refine wU [vT ([]),z0] ?_;intro b1 hb1;refine yC rfl<|xE<|sU 3 [1] [(10,vA [vT a0.Array.l,z0])]<|wU [vT ([]),z0] ?_;intro b2 hb2;refine xI 0 [vT a0.Array.l,z0] rfl<|yC rfl<|yA<|yB<|yI [2] [12,13,14] rfl<|wK<|kP (zY [0,1] (hs':=[hB b2 [vT a0.Array.l,z0],hB b1 [vT ([]),z0]]))<|oM [(1,fv),(4,vP b1 0),(5,vP b2 0),(12,vS p a0.Subs c),(13,vI (a0.Subs.length:Int)),(14,vI 0)]<|zAE zA fun h2=>?_;obtain ⟨o0,ho0,hMl⟩:=zB N;refine zBR a0 change 0 ([]:List zA) o0 ho0 iR h1 h h2 (fun _ _ _ h=>h) (fun _ _ h=>h) ?_;intro I03 Subs1 p2 c2 cs1 heq le3 h4;subst o0;refine zV<|xE<|sU 1 [1] [(27,vA [vT a0.Array.l,vS p2 Subs1 c2])]<|xI 2 [vT a0.Array.l,vS p2 Subs1 c2] rfl<|yC rfl<|xB<|xJ 0 rfl ?_;intro I04 le4 hl01;have h11:=SL.of_frozen hl01 le4 h4;obtain rfl:=zC hMl;exact xC ⟨_,_,(.cell 1 rfl rfl (by kernel_rfl) ResV.nil),zP,⟨_,rfl,rfl,⟨_,rfl,(qT ⟨_,rfl,h11⟩)⟩⟩⟩
def dR (r:zD):KT:=fun kk I' hs' v=>
  ∃ v0,hs'=[]∧v=tupV [v0]∧(∃ cs,v0=.agg ⟨cs⟩∧Rp.rep I' cs r)
mutual
def nG (e0:zD) (change:(zA→Option zA)):Option (zD):=do
 let (IndexCoefs,IndexConst,ReadArray,ReadSubs)←(do
   if (e0.Kind == 2) then
    let y←change e0.Index
    pure (y.Coefs,y.Const,(⟨[]⟩:Str),([]:List zA))
   else
    let (ReadArray1,ReadSubs1)←(do
      if (e0.Kind == 3) then
       let y1←oX e0.Read change
       pure (y1.Array,y1.Subs)
      else
       pure ((⟨[]⟩:Str),([]:List zA))
        : Option (Str×List zA))
    pure (([]:List Int),0,ReadArray1,ReadSubs1)
     : Option (List Int×Int×Str×List zA))
 let Kids1←sN (same e0) (same change) (same 0) ([]:List zD)
 pure (zD.mk e0.Kind e0.Num (zA.mk IndexCoefs IndexConst) (zG.mk ReadArray ReadSubs) Kids1)
 partial_fixpoint
def sN (e0:zD) (change:(zA→Option zA)) (t32:Int) (Kids:List zD):Option (List zD):=do
 if (decide (t32 < (e0.Kids.length:Int))) then
  let x←idx e0.Kids t32
  let y2←nG (same x) (same change)
  let l←app 112 Kids ([y2]:List zD)
  sN (same e0) (same change) (W (t32 + 1)) (same l)
 else
  pure (id Kids)
 partial_fixpoint
end
theorem zDh:(∀ (e0:zD) (change:(zA→Option zA)) r,nG e0 change=some r→∀ {I:Imm}{p c p1 c1 p2 c2}{fv:Value},(S4 I p e0.Index.Coefs c)→(S4 I p1 e0.Read.Subs c1)→(S4 I p2 e0.Kids c2)→(FV1 Tryz.prog I [] fv change)→RT 112 [vA (cExpr e0 p c p1 c1 p2 c2),fv] I [] (dR  r))∧(∀ (e0:zD) (change:(zA→Option zA)) (t32:Int) (Kids:List zD) o,sN e0 change t32 Kids=some o→∀ {B}{I0 I:Imm}{Q}{IndexCoefs:List Int}{IndexConst:Int}{ReadArray:Str}{ReadSubs:List zA}{p2 c2}{fv:Value}{b1:Nat}{b2:Nat}{p3 c3 p4 c4 p8 c8 cs2},I0.le I→(FV1 Tryz.prog I [] fv change)→(S4 I p2 e0.Kids c2)→(S4 I p3 IndexCoefs c3)→(S4 I p4 ReadSubs c4)→(RL I cs2 Kids)→NG Q→NO Q→(∀ (I':Imm) (Kids1:List zD) (p9:Option Addr) (c9:Nat) (cs3:List Value),o=Kids1→I0.le I'→(RL I' cs3 Kids1)→T 46 B Q (.exit 1) I' [hO zD (vS p9 Kids1 c9) cs3,hB b2 [vI e0.Kind,vI e0.Num,vS p3 IndexCoefs c3,vI IndexConst,vT ReadArray.l,vS p4 ReadSubs c4,vS p9 Kids1 c9],hB b1 zExpr] [(4,vP b1 0),(5,vP b2 0)])→J Tryz.prog 46 B (nav (bodyOf Tryz.f112) [1,1,1,0,1,0]) Q I [hO zD (vS p8 Kids c8) cs2,hB b2 [vI e0.Kind,vI e0.Num,vS p3 IndexCoefs c3,vI IndexConst,vT ReadArray.l,vS p4 ReadSubs c4,vS p8 Kids c8],hB b1 zExpr] [(1,fv),(4,vP b1 0),(5,vP b2 0),(30,vS p2 e0.Kids c2),(31,vI (e0.Kids.length:Int)),(32,vI t32)]):=by
  refine nG.mutual_partial_correctness _ _ ?_ ?_
  · intro F_impl_exprMap_l1 ih_impl_exprMap_l1 e0 change r N I p c p1 c1 p2 c2 fv h h1 h2 h3;refine yJ Tryz.func112 fun B=>?_;have H:=iS I;refine yB<|vM (cExpr e0 p c p1 c1 p2 c2) ?_;intro b hb;refine wU zExpr ?_;intro b1 hb1;refine yC rfl<|xE<|sU 5 [1,1] [(12,vA [vI e0.Kind,vI e0.Num,z0,vI 0,vT ([]),z0,z0])]<|wU zExpr ?_;intro b2 hb2;refine xI 0 [vI e0.Kind,vI e0.Num,z0,vI 0,vT ([]),z0,z0] rfl<|yC rfl<|yA<|yB<|yI [2] [14] rfl<|wK<|yH [15] rfl<|zJ ?_;obtain ⟨o0,ho0,hMc⟩:=zB N;refine pM (fun I' hs' m'=>∃ (IndexCoefs:List Int) (IndexConst:Int) (ReadArray:Str) (ReadSubs:List zA) (p3:Option Addr) (c3:Nat) (p4:Option Addr) (c4:Nat),o0=(IndexCoefs,IndexConst,ReadArray,ReadSubs)∧I.le I'∧(S4 I' p3 IndexCoefs c3)∧(S4 I' p4 ReadSubs c4)∧hs'=[hB b2 [vI e0.Kind,vI e0.Num,vS p3 IndexCoefs c3,vI IndexConst,vT ReadArray.l,vS p4 ReadSubs c4,z0],hB b1 zExpr,hB b (cExpr e0 p c p1 c1 p2 c2)]∧m'=[(1,fv),(2,vP b 0),(4,vP b1 0),(5,vP b2 0)]) ?_ ?_
    · have H:=iS I;refine yE ho0 ?_ ?_
      · intro hc N;refine zO<|sU 3 [2] [(17,fv),(19,vA (cAff e0.Index p c))]<|bE N fun y hy N=>zKV rfl rfl h3 hy ⟨_,rfl,(yF ⟨_,rfl,h⟩)⟩  ?_;rintro I01 v0 le ⟨cs,rfl,h6⟩;have H:=H.trans le;obtain ⟨p5,c5,rfl,h7⟩:=yG h6;exact yD 5 [] [21] rfl<|xI 0 [vI e0.Kind,vI e0.Num,vS p5 y.Coefs c5,vI y.Const,vT ([]),z0,z0] rfl<|yC rfl<|yQ<|zR ⟨_,_,_,_,_,_,_,_,(zC N).symm,H,h7,(SL.nil _),rfl,rfl⟩
      intro hc N;refine yH [22] rfl<|zJ ?_;obtain ⟨o01,ho01,hMc1⟩:=zB N;refine pM (fun I' hs' m'=>∃ (ReadArray1:Str) (ReadSubs1:List zA) (p6:Option Addr) (c6:Nat),o01=(ReadArray1,ReadSubs1)∧I.le I'∧(S4 I' p6 ReadSubs1 c6)∧hs'=[hB b2 [vI e0.Kind,vI e0.Num,z0,vI 0,vT ReadArray1.l,vS p6 ReadSubs1 c6,z0],hB b1 zExpr,hB b (cExpr e0 p c p1 c1 p2 c2)]∧m'=[(1,fv),(2,vP b 0),(4,vP b1 0),(5,vP b2 0)]) ?_ ?_
      · have H:=iS I;refine yE ho01 ?_ ?_
        · intro hc1 N;refine zO<|sU 3 [2] [(25,vA (cAccess e0.Read p1 c1)),(26,fv)]<|bE N fun y1 hy1 N=>xP (dQ e0.Read change _ hy1 h1 h3) ?_;rintro I03 hs2 v2 k2 le1 - ⟨v02,rfl,rfl,⟨cs1,rfl,h9⟩⟩ -;have H:=H.trans le1;obtain ⟨p7,c7,rfl,h10⟩:=rS h9;exact yD 5 [] [28] rfl<|xI 0 [vI e0.Kind,vI e0.Num,z0,vI 0,vT y1.Array.l,vS p7 y1.Subs c7,z0] rfl<|yC rfl<|yQ<|zR ⟨_,_,_,_,(zC N).symm,H,h10,rfl,rfl⟩
        intro hc1 N;exact zT<|yQ<|zR ⟨_,_,_,_,(zC N).symm,H,(SL.nil _),rfl,rfl⟩
      rintro I02 hs2 m2 ⟨ReadArray1,ReadSubs1,p6,c6,heq,le2,h8,rfl,rfl⟩;subst o01;have H:=H.trans le2;exact yQ<|zR ⟨_,_,_,_,_,_,_,_,(zC hMc1).symm,H,(SL.nil _),h8,rfl,rfl⟩
    rintro I0 hs2 m2 ⟨IndexCoefs,IndexConst,ReadArray,ReadSubs,p3,c3,p4,c4,heq1,le3,h4,h5,rfl,rfl⟩;subst o0;have ⟨h3,h,h2⟩:=m3 le3 h3 h h2;refine zQ<|yA<|yB<|yI [2] [30,31,32] rfl<|wK<|kP (zY [0,1] (hs':=[hB b2 [vI e0.Kind,vI e0.Num,vS p3 IndexCoefs c3,vI IndexConst,vT ReadArray.l,vS p4 ReadSubs c4,z0],hB b1 zExpr]))<|oM [(1,fv),(4,vP b1 0),(5,vP b2 0),(30,vS p2 e0.Kids c2),(31,vI (e0.Kids.length:Int)),(32,vI 0)]<|zAE zD fun h11=>?_;obtain ⟨o02,ho02,hMl⟩:=zB hMc;refine ih_impl_exprMap_l1 e0 change 0 ([]:List zD) o02 ho02 iR h3 h2 h4 h5 h11 (fun _ _ _ h=>h) (fun _ _ h=>h) ?_;intro I07 Kids1 p9 c9 cs3 heq2 le7 h13;subst o02;have ⟨h4,h5⟩:=m2 le7 h4 h5;refine zV<|xE<|sU 1 [1] [(45,vA [vI e0.Kind,vI e0.Num,vS p3 IndexCoefs c3,vI IndexConst,vT ReadArray.l,vS p4 ReadSubs c4,vS p9 Kids1 c9])]<|xI 2 [vI e0.Kind,vI e0.Num,vS p3 IndexCoefs c3,vI IndexConst,vT ReadArray.l,vS p4 ReadSubs c4,vS p9 Kids1 c9] rfl<|yC rfl<|xB<|xJ 0 rfl ?_;intro I08 le8 hl01;have h24:=SL.of_frozen hl01 le8 h13;have ⟨h4,h5⟩:=m2 le8 h4 h5;obtain rfl:=zC hMl;exact xC ⟨_,_,(.cell 1 rfl rfl (by kernel_rfl) ResV.nil),zP,⟨_,rfl,rfl,⟨_,rfl,(xM ⟨_,_,_,rfl,h4,h5,h24⟩)⟩⟩⟩
  intro F_impl_exprMap F_impl_exprMap_l1 ih_impl_exprMap ih_impl_exprMap_l1 e0 change t32 Kids o N B I0 I Q IndexCoefs IndexConst ReadArray ReadSubs p2 c2 fv b1 b2 p3 c3 p4 c4 p8 c8 cs2 H h3 h2 h4 h5 h12 hg ho hx;refine yY hg ho<|yH [33] rfl<|yA<|yE N ?_ ?_
  · intro hc2 N;refine zT<|yA<|yL<|yB<|bE N fun x hy2 N=>xS rfl rfl h2 hy2 ?_;intro ad ccs hat hrep;obtain ⟨p10,c10,p11,c11,p12,c12,rfl,h14,h15,h16⟩:=xX hrep;refine xL 0 hat (cExpr x p10 c10 p11 c11 p12 c12) (vA (cExpr x p10 c10 p11 c11 p12 c12)) rfl<|wU zExpr ?_;intro b3 hb3;refine xI 0 (cExpr x p10 c10 p11 c11 p12 c12) rfl<|yC rfl<|zJ ?_;obtain ⟨y2,hy3,N⟩:=zB N;obtain ⟨l,hy4,N⟩:=zB N;refine wS [.p (vP b2 6) [],.p (vS p8 Kids c8) [1],.p (vA (cExpr x p10 c10 p11 c11 p12 c12)) [0],.p fv [],.x (eVExpr y2),.x (fun I' v hx=>∃ b4,v=vS (some ⟨b4,0,none⟩) ([y2]:List zD) 1∧hx=[]∧(SL I' (vS (some ⟨b4,0,none⟩) ([y2]:List zD) 1) ([y2]:List zD))),.x (fun I' v hx=>∃ p16 c16 cs5,v=vS p16 l c16∧hx=[hO zD (vS p16 l c16) cs5]∧(RL I' cs5 l))] [[],[(0,false)],[],[],[(2,false),(3,false)],[(4,false)],[(1,false),(5,false),(9,true)]] [hB b3 (cExpr x p10 c10 p11 c11 p12 c12),hB b2 [vI e0.Kind,vI e0.Num,vS p3 IndexCoefs c3,vI IndexConst,vT ReadArray.l,vS p4 ReadSubs c4,vS p8 Kids c8],hB b1 zExpr] [[hO zD (vS p8 Kids c8) cs2]] [(6,true)] (zY [0,2,3,1]) ?_ ?_
    · refine Op<|Op<|Op<|Op<|Ox ?_<|Ox ?_<|Ox ?_<|On
      · intro I1 hf le1;refine yS [38,39] rfl ?_;have H:=iS I1;have ⟨h3,h14,h15,h16⟩:=m4 le1 h3 h14 h15 h16;refine xP (ih_impl_exprMap x change _ hy3 h14 h15 h16 h3) ?_;rintro I04 hs2 v2 k2 le4 - ⟨v07,rfl,rfl,⟨cs4,rfl,h17⟩⟩ -;have H:=H.trans le4;obtain ⟨p13,c13,p14,c14,p15,c15,rfl,h18,h19,h20⟩:=xX h17;exact yN [] H ⟨_,_,_,_,_,_,rfl,rfl,h18,h19,h20⟩
      · rintro I1 hf le1 _ _ ⟨p13,c13,p14,c14,p15,c15,rfl,rfl,h18,h19,h20⟩;refine yS [40] rfl ?_;have H:=iS I1;refine pW (rc y2 (xM ⟨_,_,_,rfl,h18,h19,h20⟩) rN) ?_;intro b4 I05 le5 h22;have H:=H.trans le5;exact yN [] H ⟨_,rfl,rfl,h22⟩
      rintro I1 hf le1 _ _ ⟨rfl,rfl⟩ _ _ ⟨b4,rfl,rfl,h22⟩ _ _ rfl;refine yS [37,41] rfl ?_;have h12:=iM le1 h12;obtain ⟨ccs1,k0,k01⟩:=h22;have h22:SL I1 (vS (some ⟨b4,0,none⟩) ([y2]:List zD) 1) ([y2]:List zD):=⟨_,k0,k01⟩;exact pP 46 7 0 rfl rfl rfl h12 (.inl k0) k01 hy4 fun p16 c16 cs5 h23=>uR (hs':=(hO zD (vS p16 l c16) cs5::hB b3 (cExpr x p10 c10 p11 c11 p12 c12)::hB b2 [vI e0.Kind,vI e0.Num,vS p3 IndexCoefs c3,vI IndexConst,vT ReadArray.l,vS p4 ReadSubs c4,vS p8 Kids c8]::hB b1 zExpr::hf)) rfl<|yN [hO zD (vS p16 l c16) cs5] iR ⟨_,_,_,rfl,rfl,h23⟩
    rintro I06 le6 _ _ ⟨p16,c16,cs5,rfl,rfl,h23⟩;refine yS [1,4,5,30,31,32,42] rfl ?_;have ⟨h3,h2,h4,h5,H⟩:=m5 le6 h3 h2 h4 h5 H;exact yD 8 [] [43] rfl<|xI 2 [vI e0.Kind,vI e0.Num,vS p3 IndexCoefs c3,vI IndexConst,vT ReadArray.l,vS p4 ReadSubs c4,vS p16 l c16] rfl<|yC rfl<|zQ<|zJ<|zO<|yI [] [32] rfl<|yZ<|kP (zX [0,2,3] rfl (by decide))<|mW<|ih_impl_exprMap_l1 e0 change (W (t32 + 1)) l _ N H h3 h2 h4 h5 h23 hg ho hx
  intro hc2 N;exact uA<|yQ<|hx _ _ _ _ _ (zC N).symm H h12
theorem zEK:∀ e0 change r,nG e0 change=some r→∀ {I:Imm}{p c p1 c1 p2 c2}{fv:Value},(S4 I p e0.Index.Coefs c)→(S4 I p1 e0.Read.Subs c1)→(S4 I p2 e0.Kids c2)→(FV1 Tryz.prog I [] fv change)→RT 112 [vA (cExpr e0 p c p1 c1 p2 c2),fv] I [] (dR  r):=zDh.1
def jE (s:zN) (change:(zA→Option zA)):Option (zN):=do
 let y←oX s.Write change
 let y1←nG s.Value change
 pure (zN.mk y y1)
theorem zEL:∀ s change r,jE s change=some r→∀ {I:Imm}{p c p1 c1 p2 c2 p3 c3}{fv:Value},(S4 I p s.Write.Subs c)→(S4 I p1 s.Value.Index.Coefs c1)→(S4 I p2 s.Value.Read.Subs c2)→(S4 I p3 s.Value.Kids c3)→(FV1 Tryz.prog I [] fv change)→RT 53 [vA (cStmt s p c p1 c1 p2 c2 p3 c3),fv] I [] (gL  r):=by
 intro s change r N I p c p1 c1 p2 c2 p3 c3 fv h h1 h2 h3 h4;unfold jE at N;refine yJ Tryz.func53 fun B=>?_;have H:=iS I;refine yB<|vM (cStmt s p c p1 c1 p2 c2 p3 c3) ?_;intro b hb;refine wU [vT ([]),z0,vI 0,vI 0,z0,vI 0,vT ([]),z0,z0] ?_;intro b1 hb1;refine yC rfl<|zJ<|zZ ?_;obtain ⟨y,hy,N⟩:=zB N;obtain ⟨y1,hy1,N⟩:=zB N;refine wS [.p (vP b 0) [],.p (vA (cAccess s.Write p c)) [1],.p fv [],.x (eVAccess y),.p (vP b 2) [],.p (vA (cExpr s.Value p1 c1 p2 c2 p3 c3)) [1],.p fv [],.x (eVExpr y1),.x (fun I' v hx=>∃ p41 c41 p51 c51 p61 c61 p71 c71,v=vA [vT y.Array.l,vS p41 y.Subs c41,vI y1.Kind,vI y1.Num,vS p51 y1.Index.Coefs c51,vI y1.Index.Const,vT y1.Read.Array.l,vS p61 y1.Read.Subs c61,vS p71 y1.Kids c71]∧hx=[]∧(S4 I' p41 y.Subs c41)∧(S4 I' p51 y1.Index.Coefs c51)∧(S4 I' p61 y1.Read.Subs c61)∧(S4 I' p71 y1.Kids c71))] [[],[(0,false)],[],[(1,false),(2,false)],[],[(4,false)],[],[(5,false),(6,false)],[(3,false),(7,false)]] [hB b1 [vT ([]),z0,vI 0,vI 0,z0,vI 0,vT ([]),z0,z0],hB b (cStmt s p c p1 c1 p2 c2 p3 c3)] [] [(8,false)] (zY [0,1]) ?_ ?_
 · refine Op<|Op<|Op<|Ox ?_<|Op<|Op<|Op<|Ox ?_<|Ox ?_<|On
   · intro I1 hf le1;refine yS [6,7] rfl ?_;have H:=iS I1;have ⟨h4,h⟩:=m2 le1 h4 h;refine xP (dQ s.Write change _ hy h h4) ?_;rintro I0 hs2 v2 k2 le - ⟨v0,rfl,rfl,⟨cs,rfl,h5⟩⟩ -;have H:=H.trans le;obtain ⟨p4,c4,rfl,h6⟩:=rS h5;exact yN [] H ⟨_,_,rfl,rfl,h6⟩
   · intro I1 hf le1;refine yS [10,11] rfl ?_;have H:=iS I1;have ⟨h4,h1,h2,h3⟩:=m4 le1 h4 h1 h2 h3;refine xP (zEK s.Value change _ hy1 h1 h2 h3 h4) ?_;rintro I01 hs2 v2 k2 le1 - ⟨v02,rfl,rfl,⟨cs1,rfl,h7⟩⟩ -;have H:=H.trans le1;obtain ⟨p5,c5,p6,c6,p7,c7,rfl,h8,h9,h10⟩:=xX h7;exact yN [] H ⟨_,_,_,_,_,_,rfl,rfl,h8,h9,h10⟩
   rintro I1 hf le1 _ _ ⟨p4,c4,rfl,rfl,h6⟩ _ _ ⟨p5,c5,p6,c6,p7,c7,rfl,rfl,h8,h9,h10⟩;exact yS [8,12] rfl<|qQ 9 [(13,vA [vT y.Array.l,vS p4 y.Subs c4,vI y1.Kind,vI y1.Num,vS p5 y1.Index.Coefs c5,vI y1.Index.Const,vT y1.Read.Array.l,vS p6 y1.Read.Subs c6,vS p7 y1.Kids c7])]<|yN [] iR ⟨_,_,_,_,_,_,_,_,rfl,rfl,h6,h8,h9,h10⟩
 rintro I02 le2 _ _ ⟨p41,c41,p51,c51,p61,c61,p71,c71,rfl,rfl,h61,h81,h91,h101⟩;refine yS [4,13] rfl ?_;refine xI 0 [vT y.Array.l,vS p41 y.Subs c41,vI y1.Kind,vI y1.Num,vS p51 y1.Index.Coefs c51,vI y1.Index.Const,vT y1.Read.Array.l,vS p61 y1.Read.Subs c61,vS p71 y1.Kids c71] rfl<|yC rfl<|zJ<|yX ?_;obtain rfl:=zC N;exact xC ⟨_,_,(.cell 0 rfl rfl (by kernel_rfl) ResV.nil),zP,⟨_,rfl,rfl,⟨_,rfl,(xR ⟨_,_,_,_,rfl,h61,h81,h91,h101⟩)⟩⟩⟩
def rD (n0:Int):Option (Bool):=do
 let y←mR n0
 pure (!y)
theorem zBh:∀ n0 r,rD n0=some r→∀ {I:Imm} ,RT 72 [vI n0] I [] (zS  r):=by
 intro n0 r N I;unfold rD at N;refine yJ Tryz.func72 fun B=>vU []<|xE<|yD 1 [] [3] rfl<|bE N fun y hy N=>wZ (zAg n0 _ hy ) fun I0 le=>xY [] [(2,.bool (!y))]<|zJ<|yX ?_;obtain rfl:=zC N;exact xZ
def jV (n0:Int):Option (zA):=do
 let l←mkrow 8 4 (0:Int)
 pure (zA.mk l n0)
theorem zDi:∀ n0 r,jV n0=some r→∀ {I:Imm} ,RT 75 [vI n0] I [] (rU  r):=by
 intro n0 r N I;unfold jV at N;refine yJ Tryz.func75 fun B=>yB<|wU [z0,vI 0] ?_;intro b hb;refine yC rfl<|xE<|bE N fun l hy N=>zLJ 8 [vI 0] rfl hy rfl ?_;intro b1 cs h;refine yD 3 [] [5] rfl<|xI 1 [vS (some ⟨b1,0,none⟩) l l.length,vI n0] rfl<|yC rfl<|xB<|xJ 0 rfl ?_;intro I0 le hl0;have h1:=SL.of_frozen hl0 le h;obtain rfl:=zC N;exact xC ⟨_,_,(.cell 0 rfl rfl (by kernel_rfl) ResV.nil),zP,⟨_,rfl,rfl,⟨_,rfl,(yF ⟨_,rfl,h1⟩)⟩⟩⟩
def tS (a0:zA) (x:(List Int)):Option (zA):=do
 let y←wX a0 x
 let y1←jV y
 pure (id y1)
theorem zBi:∀ a0 x r,tS a0 x=some r→∀ {I:Imm}{p c}{ad:Addr}{p1 c1},(S4 I p a0.Coefs c)→(S4 I p1 x c1)→(At I ad [vS p1 x c1])→RT 74 [vA (cAff a0 p c),.pointer (some ad)] I [] (rU  r):=by
 intro a0 x r N I p c ad p1 c1 h h1 hat;unfold tS at N;refine yJ Tryz.func74 fun B=>yB<|vM (cAff a0 p c) ?_;intro b hb;refine wU [z0,vI 0] ?_;intro b1 hb1;refine yC rfl<|xE<|sU 1 [1] [(4,vA (cAff a0 p c))]<|xL 0 hat [vS p1 x c1] (vS p1 x c1) rfl<|bE N fun y hy N=>oH (sI a0 x _ hy h h1) ?_;intro I0 le;obtain ⟨y1,hy1,N⟩:=zB N;refine xP (zDi y _ hy1 ) ?_;rintro I01 hs2 v2 k2 le1 - ⟨v01,rfl,rfl,⟨cs,rfl,h3⟩⟩ -;obtain ⟨p2,c2,rfl,h4⟩:=yG h3;refine xI 0 (cAff y1 p2 c2) rfl<|yC rfl<|zJ<|yX ?_;obtain rfl:=zC N;exact xC ⟨_,_,(.cell 0 rfl rfl (by kernel_rfl) ResV.nil),zP,⟨_,rfl,rfl,⟨_,rfl,(yF ⟨_,rfl,h4⟩)⟩⟩⟩
def mV (s:zN) (point:(List Int)):Option (zN×Bool):=do
 let t15←(do
   let y←pJ s (point.length:Int)
   if (!y) then
    pure true
   else
    let y1←yU point rD
    pure (id y1)
     : Option Bool)
 if t15 then
  pure ((zN.mk (zG.mk (⟨[]⟩:Str) ([]:List zA)) (zD.mk 0 0 (zA.mk ([]:List Int) 0) (zG.mk (⟨[]⟩:Str) ([]:List zA)) ([]:List zD))),false)
 else
  let y2←jE s (fun x0=>tS x0 point)
  let y3←pJ y2 0
  if (!y3) then
   pure ((zN.mk (zG.mk (⟨[]⟩:Str) ([]:List zA)) (zD.mk 0 0 (zA.mk ([]:List Int) 0) (zG.mk (⟨[]⟩:Str) ([]:List zA)) ([]:List zD))),false)
  else
   pure (y2,true)
theorem zDD:∀ s point r,mV s point=some r→∀ {I:Imm}{p c p1 c1 p2 c2 p3 c3 p4 c4},(S4 I p s.Write.Subs c)→(S4 I p1 s.Value.Index.Coefs c1)→(S4 I p2 s.Value.Read.Subs c2)→(S4 I p3 s.Value.Kids c3)→(S4 I p4 point c4)→RT 25 [vA (cStmt s p c p1 c1 p2 c2 p3 c3),vS p4 point c4] I [] (fV  r):=by
 intro s point r N I p c p1 c1 p2 c2 p3 c3 p4 c4 h h1 h2 h3 h4;unfold mV at N;refine yJ Tryz.func25 fun B=>?_;have H:=iS I;refine yB<|vM (cStmt s p c p1 c1 p2 c2 p3 c3) ?_;intro b hb;refine vM [vS p4 point c4] ?_;intro b1 hb1;refine xK 0 rfl ?_;intro I0 le hl0;have hat:At I0 ⟨b1,0,none⟩ [vS p4 point c4]:=At.of_blk hl0;have ⟨h,h1,h2,h3,h4,H⟩:=m6 le h h1 h2 h3 h4 H;refine wU [vT ([]),z0,vI 0,vI 0,z0,vI 0,vT ([]),z0,z0] ?_;intro b2 hb2;refine xY [] []<|yA<|zZ ?_;refine wD N [hB b2 [vT ([]),z0,vI 0,vI 0,z0,vI 0,vT ([]),z0,z0],hB b (cStmt s p c p1 c1 p2 c2 p3 c3)] (fun t15=>[(2,vP b 0),(3,vP b1 0),(4,vP b2 0),(15,.bool t15)]) (fun o0 ho0=>?_) ?_
 · have H:=iS I0;refine zO<|sU 1 [1] [(7,vA (cStmt s p c p1 c1 p2 c2 p3 c3))]<|xL 0 hat [vS p4 point c4] (vS p4 point c4) rfl<|yD 3 [] [9] rfl ?_;obtain ⟨y,hy,N⟩:=zB ho0;refine wZ (gJ s (point.length:Int) _ hy h h1 h2 h3) ?_;intro I02 le1;have ⟨h4,hat,h,H⟩:=m4 le1 h4 hat h H;refine yD 6 [] [12] rfl<|xQ [12] N ?_ ?_
   · intro hc N;exact xY [] [(15,vY)]<|yQ<|zR (ct N H)
   intro hc N;refine xL 0 hat [vS p4 point c4] (vS p4 point c4) rfl ?_;have hf0:FV1 Tryz.prog I02 [] (.func (.func 72) ⟨[]⟩ ⟨[]⟩) rD:=by
     refine FV1.intro ?_;intro I1 le1 x0 r u0 hF k0;obtain rfl:=k0;exact (zBh x0 r hF ).mono (by rintro k i hs u ⟨v0,rfl,rfl,h⟩; exact ⟨rfl,h⟩)
   obtain ⟨y1,hy1,N⟩:=zB N;refine xP (wV point rD _ hy1 h4 hf0) ?_;rintro I03 hs2 v2 k2 le2 - ⟨v01,rfl,rfl,rfl⟩ -;have H:=H.trans le2;exact yI [] [15] rfl<|yQ<|zR (ct N H)
 intro t15 I01 le3 hMc;have ⟨h4,hat,h,h1,h2,h3⟩:=m6 le3 h4 hat h h1 h2 h3;refine zJ<|yE hMc ?_ ?_
 · intro hc1 N;refine yB<|yD 1 [] [16] rfl<|xI 0 [vT ([]),z0,vI 0,vI 0,z0,vI 0,vT ([]),z0,z0] rfl<|xY [] [(5,vF)]<|xB<|zI ?_;obtain rfl:=zC N;exact xC ⟨_,_,(.cell 0 rfl rfl (by kernel_rfl) (.tmp rfl ResV.nil)),zP,⟨_,_,rfl,rfl,⟨_,rfl,(xR ⟨_,_,_,_,rfl,(SL.nil _),(SL.nil _),(SL.nil _),(SL.nil _)⟩)⟩,rfl⟩⟩
 intro hc1 N;refine zT<|xE<|sU 2 [1] [(17,vA (cStmt s p c p1 c1 p2 c2 p3 c3)),(18,.func (.func 74) ⟨[]⟩ ⟨[vP b1 0]⟩)] ?_;have hf01:FV1 Tryz.prog I01 [] (.func (.func 74) ⟨[]⟩ ⟨[vP b1 0]⟩) (fun x0=>tS x0 point):=by
   refine FV1.intro ?_;intro I1 le1 x0 r u0 hF k0;obtain ⟨_,rfl,k0⟩:=k0;obtain ⟨p5,c5,rfl,h7⟩:=yG k0;exact (zBi x0 point r hF h7 (h4.mono le1) (hat.mono le1)).mono (by rintro k i hs u ⟨v0,rfl,rfl,h⟩; exact ⟨rfl,h⟩)
 obtain ⟨y2,hy2,N⟩:=zB N;refine xP (zEL s (fun x0=>tS x0 point) _ hy2 h h1 h2 h3 hf01) ?_;rintro I04 hs2 v2 k2 le4 - ⟨v03,rfl,rfl,⟨cs,rfl,h8⟩⟩ -;obtain ⟨p6,c6,p7,c7,p8,c8,p9,c9,rfl,h9,h10,h11,h12⟩:=tH h8;refine wU [vT ([]),z0,vI 0,vI 0,z0,vI 0,vT ([]),z0,z0] ?_;intro b3 hb3;refine xI 0 (cStmt y2 p6 c6 p7 c7 p8 c8 p9 c9) rfl<|yC rfl<|yA<|yB<|sU 1 [0] [(20,vA (cStmt y2 p6 c6 p7 c7 p8 c8 p9 c9))]<|bE N fun y3 hy3 N=>wZ (gJ y2 0 _ hy3 h9 h10 h11 h12) ?_;intro I05 le5;have ⟨h9,h10,h11,h12⟩:=m4 le5 h9 h10 h11 h12;refine yI [] [22] rfl<|zJ<|yE N ?_ ?_
 · intro hc2 N;refine yB<|yD 1 [] [23] rfl<|xI 1 [vT ([]),z0,vI 0,vI 0,z0,vI 0,vT ([]),z0,z0] rfl<|xY [] [(5,vF)]<|xB<|zI ?_;obtain rfl:=zC N;exact xC ⟨_,_,(.cell 1 rfl rfl (by kernel_rfl) (.tmp rfl ResV.nil)),zP,⟨_,_,rfl,rfl,⟨_,rfl,(xR ⟨_,_,_,_,rfl,(SL.nil _),(SL.nil _),(SL.nil _),(SL.nil _)⟩)⟩,rfl⟩⟩
 intro hc2 N;refine zT<|xE<|sU 1 [0] [(24,vA (cStmt y2 p6 c6 p7 c7 p8 c8 p9 c9))]<|xI 1 (cStmt y2 p6 c6 p7 c7 p8 c8 p9 c9) rfl<|xY [] [(5,vY)]<|zJ<|yX ?_;obtain rfl:=zC N;exact xC ⟨_,_,(.cell 1 rfl rfl (by kernel_rfl) (.tmp rfl ResV.nil)),zP,⟨_,_,rfl,rfl,⟨_,rfl,(xR ⟨_,_,_,_,rfl,h9,h10,h11,h12⟩)⟩,rfl⟩⟩
end Go.LN
