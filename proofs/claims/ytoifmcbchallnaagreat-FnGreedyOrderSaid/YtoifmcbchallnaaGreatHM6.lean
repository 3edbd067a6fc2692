/- Helper of the proof (see the last text). -/
import Derived.Test.YtoifmcbchallnaaGreatHM5
set_option linter.unusedVariables false
set_option linter.unusedSimpArgs false
namespace Go.LN
open Go.Proofs
set_option maxRecDepth 20000
def rC (r:(List zP)×Bool):KT:=fun kk I' hs' v=>
  ∃ v0 v1,hs'=[]∧v=tupV [v0,v1]∧SL I' v0 r.1∧v1=.bool r.2
def wO (p:zJ) (t26:Int) (x:zN) (x1:(List Int)) (out4:List zP) (t64:Int):Option (Out (List zP) ((List zP)×Bool)):=do
 if (decide (t64 < (x.Body.length:Int))) then
  let x2←idx x.Body t64
  let y7←qB p x2 x1
  if (!y7) then
   pure (.ret (([]:List zP),false))
  else
   let y8←sD x1
   let out6←app 40 out4 ([(zP.mk t26 t64 y8)]:List zP)
   wO p t26 x x1 out6 (W (t64 + 1))
 else
  pure (.done out4)
 partial_fixpoint
theorem gU (p:zJ) (t26:Int) (x:zN) (x1:(List Int)):∀ (out4:List zP) (t64:Int) (o:Out (List zP) ((List zP)×Bool)),wO p t26 x x1 out4 t64=some o→∀ {B}{I0 I:Imm}{Q}{y2:(List (List Int))}{t54:Int}{p1 c p2 c1}{b:Nat}{p5 c4 p6 c5}{b1:Nat}{p7 c6 p14 c13 p15 c14 cs4},I0.le I→(S4 I p5 x.Nest c4)→(S4 I p6 x.Body c5)→(At I ⟨b1,0,none⟩ (cPart x p5 c4 p6 c5))→(S4 I p14 x1 c13)→(S4 I p2 p.Parts c1)→(S4 I p7 y2 c6)→(S4 I p1 p.Arrays c)→(RL I cs4 out4)→NG Q→NO Q→(∀ (I':Imm) (out5:List zP) (p16:Option Addr) (c15:Nat) (cs5:List Value),o=(.done out5)→I0.le I'→(RL I' cs5 out5)→T 89 B Q (.exit 4) I' [hO zP (vS p16 out5 c15) cs5,hB b (cProg p p1 c p2 c1)] [(1,vP b 0),(4,vS p16 out5 c15),(5,vI t26),(6,vP b1 0),(24,vS p2 p.Parts c1),(25,vI (p.Parts.length:Int)),(26,vI t26),(52,vS p7 y2 c6),(53,vI (y2.length:Int)),(54,vI t54)])→(∀ r I' hs' m',o=(.ret r)→I0.le I'→RS Tryz.prog Tryz.f43 B (rC  r) I' hs' m'→T 89 B Q .ret I' hs' m')→J Tryz.prog 89 B (nav (bodyOf Tryz.f43) [1,1,1,0,1,0,0,1,1,0,0,1,1,1,1,0,0,1,1,0,0,1,1,1,0]) Q I [hO zP (vS p15 out4 c14) cs4,hB b (cProg p p1 c p2 c1)] [(1,vP b 0),(4,vS p15 out4 c14),(5,vI t26),(6,vP b1 0),(10,vS p14 x1 c13),(24,vS p2 p.Parts c1),(25,vI (p.Parts.length:Int)),(26,vI t26),(52,vS p7 y2 c6),(53,vI (y2.length:Int)),(54,vI t54),(62,vS p6 x.Body c5),(63,vI (x.Body.length:Int)),(64,vI t64)]:=by
 refine wO.partial_correctness p t26 x x1 _ fun self ih out4 t64 o N B I0 I Q y2 t54 p1 c p2 c1 b p5 c4 p6 c5 b1 p7 c6 p14 c13 p15 c14 cs4 H h6 h7 hat1 h18 h1 h8 h h20 hg ho hx hr=>yY hg ho<|yE [(65,.bool (decide (t64 < (x.Body.length:Int))))]<|yI<|yM N ?_ ?_
 · intro hc8 N;refine zX<|yI<|zV<|yO<|yH 1 [] [(66,vI t64)]<|bE N fun x2 hy7 N=>xV rfl rfl h7 hy7 ?_;intro ad2 ccs2 hat3 hrep2;obtain ⟨p17,c16,p18,c17,p19,c18,p20,c19,rfl,h22,h23,h24,h25⟩:=rH hrep2;refine xR 0 hat3 (cStmt x2 p17 c16 p18 c17 p19 c18 p20 c19) (vA (cStmt x2 p17 c16 p18 c17 p19 c18 p20 c19)) rfl<|uQ [vT ([]),z0,vI 0,vI 0,z0,vI 0,vT ([]),z0,z0] ?_;intro b2 hb2;refine yH 5 [] [(11,vI t64)]<|xQ 0 (cStmt x2 p17 c16 p18 c17 p19 c18 p20 c19) [hB b2 (cStmt x2 p17 c16 p18 c17 p19 c18 p20 c19),hO zP (vS p15 out4 c14) cs4,hB b (cProg p p1 c p2 c1)] rfl rfl rfl rfl<|yN rfl<|yI<|yO<|yH 3 [2,0] [(69,vA (cProg p p1 c p2 c1)),(70,vA (cStmt x2 p17 c16 p18 c17 p19 c18 p20 c19)),(71,vS p14 x1 c13)]<|bE N fun y7 hy8 N=>uR (zAG p x2 x1 _ hy8 h h1 h22 h23 h24 h25 h18) ?_;intro I08 le8;have h20:=iM le8 h20;have h6:=h6.mono le8;have h7:=h7.mono le8;have hat1:=hat1.mono le8;have h18:=h18.mono le8;have h1:=h1.mono le8;have h8:=h8.mono le8;have h:=h.mono le8;have H:=H.trans le8;refine yF [] [(73,.bool (!y7))]<|zD<|yM N ?_ ?_
   · intro hc9 N;exact yE [(2,z0),(3,vF)]<|zD<|yC<|zM<|yB<|zM<|zM<|hr _ _ _ _ (zB N).symm H ⟨_,_,(.tmp rfl (.tmp rfl ResV.nil)),yD,⟨_,_,rfl,rfl,(SL.nil _),rfl⟩⟩
   intro hc9 N;refine zX<|zD<|zQ<|yH 4 [] [(74,vS p15 out4 c14),(75,vI t26),(76,vI t64),(77,vS p14 x1 c13)]<|bE N fun y8 hy9 N=>xW (nZ x1 _ hy9 h18) ?_;rintro I09 hs2 v2 k2 le9 - ⟨p21,c20,cs6,rfl,rfl,h27⟩ -;have h6:=h6.mono le9;have h7:=h7.mono le9;have hat1:=hat1.mono le9;have h18:=h18.mono le9;have h1:=h1.mono le9;have h8:=h8.mono le9;have h20:=iM le9 h20;have h:=h.mono le9;have H:=H.trans le9;refine yH 6 [] [(79,vA [vI t26,vI t64,vS p21 y8 c20])]<|yJ 0 rfl ?_;intro I010 le10 hl01;have h28:=SL.of_frozen hl01 le10 h27;have h6:=h6.mono le10;have h7:=h7.mono le10;have hat1:=hat1.mono le10;have h18:=h18.mono le10;have h1:=h1.mono le10;have h8:=h8.mono le10;have h20:=iM le10 h20;have h:=h.mono le10;have H:=H.trans le10;refine xX [vI t26,vI t64,vS p21 y8 c20] zP ?_;intro b3 hb3;have h29:RL I010 [vI t26,vI t64,vS p21 y8 c20] ([(zP.mk t26 t64 y8)]:List zP):=⟨[vI t26,vI t64,vS p21 y8 c20],_,rfl,rfl,(fO ⟨_,rfl,h28⟩),rfl⟩;obtain ⟨out6,hy10,N⟩:=zC N;exact qF 80 3 2 rfl rfl rfl h20 (.inr ⟨0,rfl⟩) h29 hy10 fun p22 c21 cs7 h30=>rW (zE [1,2,3] (hs':=[hB b2 (cStmt x2 p17 c16 p18 c17 p19 c18 p20 c19),hO zP (vS p22 out6 c21) cs7,hB b (cProg p p1 c p2 c1)]) rfl (by decide))<|yF [] [(4,vS p22 out6 c21)]<|zT<|zD<|zQ<|yF [] [(64,vI (W (t64 + 1)))]<|yZ<|qE (zE [1,2] rfl (by decide))<|wS [(1,vP b 0),(4,vS p22 out6 c21),(5,vI t26),(6,vP b1 0),(10,vS p14 x1 c13),(24,vS p2 p.Parts c1),(25,vI (p.Parts.length:Int)),(26,vI t26),(52,vS p7 y2 c6),(53,vI (y2.length:Int)),(54,vI t54),(62,vS p6 x.Body c5),(63,vI (x.Body.length:Int)),(64,vI (W (t64 + 1)))]<|ih out6 (W (t64 + 1)) _ N H h6 h7 hat1 h18 h1 h8 h h30 hg ho hx hr
 intro hc8 N;exact yX<|zL<|zL<|yR [(1,vP b 0),(4,vS p15 out4 c14),(5,vI t26),(6,vP b1 0),(24,vS p2 p.Parts c1),(25,vI (p.Parts.length:Int)),(26,vI t26),(52,vS p7 y2 c6),(53,vI (y2.length:Int)),(54,vI t54)]<|hx _ _ _ _ _ (zB N).symm H h20
def wP (p:zJ) (t26:Int) (x:zN) (y2:(List (List Int))) (out2:List zP) (t54:Int):Option (Out (List zP) ((List zP)×Bool)):=do
 if (decide (t54 < (y2.length:Int))) then
  let x1←idx y2 t54
  let y6←kN x1
  if (!y6) then
   pure (.ret (([]:List zP),false))
  else
   match←wO p t26 x x1 out2 0 with
   | .ret r0=>pure (.ret r0)
   | .done out5 =>
    wP p t26 x y2 out5 (W (t54 + 1))
 else
  pure (.done out2)
 partial_fixpoint
theorem gV (p:zJ) (t26:Int) (x:zN) (y2:(List (List Int))):∀ (out2:List zP) (t54:Int) (o:Out (List zP) ((List zP)×Bool)),wP p t26 x y2 out2 t54=some o→∀ {B}{I0 I:Imm}{Q p1 c p2 c1}{b:Nat}{p5 c4 p6 c5}{b1:Nat}{p7 c6 p12 c11 cs2},I0.le I→(S4 I p5 x.Nest c4)→(S4 I p6 x.Body c5)→(At I ⟨b1,0,none⟩ (cPart x p5 c4 p6 c5))→(S4 I p2 p.Parts c1)→(S4 I p7 y2 c6)→(S4 I p1 p.Arrays c)→(RL I cs2 out2)→NG Q→NO Q→(∀ (I':Imm) (out3:List zP) (p13:Option Addr) (c12:Nat) (cs3:List Value),o=(.done out3)→I0.le I'→(RL I' cs3 out3)→T 89 B Q (.exit 2) I' [hO zP (vS p13 out3 c12) cs3,hB b (cProg p p1 c p2 c1)] [(1,vP b 0),(4,vS p13 out3 c12),(24,vS p2 p.Parts c1),(25,vI (p.Parts.length:Int)),(26,vI t26)])→(∀ r I' hs' m',o=(.ret r)→I0.le I'→RS Tryz.prog Tryz.f43 B (rC  r) I' hs' m'→T 89 B Q .ret I' hs' m')→J Tryz.prog 89 B (nav (bodyOf Tryz.f43) [1,1,1,0,1,0,0,1,1,0,0,1,1,1,1,0]) Q I [hO zP (vS p12 out2 c11) cs2,hB b (cProg p p1 c p2 c1)] [(1,vP b 0),(4,vS p12 out2 c11),(5,vI t26),(6,vP b1 0),(24,vS p2 p.Parts c1),(25,vI (p.Parts.length:Int)),(26,vI t26),(52,vS p7 y2 c6),(53,vI (y2.length:Int)),(54,vI t54)]:=by
 refine wP.partial_correctness p t26 x y2 _ fun self ih out2 t54 o N B I0 I Q p1 c p2 c1 b p5 c4 p6 c5 b1 p7 c6 p12 c11 cs2 H h6 h7 hat1 h1 h8 h h16 hg ho hx hr=>yY hg ho<|yE [(55,.bool (decide (t54 < (y2.length:Int))))]<|yI<|yM N ?_ ?_
 · intro hc6 N;refine zX<|yI<|zV<|yO<|bE N fun x1 hy5 N=>xV rfl rfl h8 hy5 ?_;intro ad1 ccs1 hat2 hrep1;obtain ⟨v011,rfl,h18⟩:=hrep1;obtain ⟨p14,c13,rfl⟩:=h18.form;refine xR 0 hat2 [vS p14 x1 c13] (vS p14 x1 c13) rfl<|yF [] [(10,vS p14 x1 c13)]<|yI<|yO<|yH 1 [] [(58,vS p14 x1 c13)]<|bE N fun y6 hy6 N=>uR (zDn x1 _ hy6 h18) ?_;intro I07 le7;have h16:=iM le7 h16;have h6:=h6.mono le7;have h7:=h7.mono le7;have hat1:=hat1.mono le7;have h18:=h18.mono le7;have h1:=h1.mono le7;have h8:=h8.mono le7;have h:=h.mono le7;have H:=H.trans le7;refine yF [] [(60,.bool (!y6))]<|zD<|yM N ?_ ?_
   · intro hc7 N;exact yE [(2,z0),(3,vF)]<|zD<|yC<|zM<|yB<|zM<|zM<|hr _ _ _ _ (zB N).symm H ⟨_,_,(.tmp rfl (.tmp rfl ResV.nil)),yD,⟨_,_,rfl,rfl,(SL.nil _),rfl⟩⟩
   intro hc7 N;refine zX<|xI<|yH 1 [] [(61,vP b1 1)]<|xR 1 hat1 [vS p6 x.Body c5] (vS p6 x.Body c5) rfl<|yF [] [(63,vI (x.Body.length:Int)),(64,vI 0)]<|zD<|zV<|wS [(1,vP b 0),(4,vS p12 out2 c11),(5,vI t26),(6,vP b1 0),(10,vS p14 x1 c13),(24,vS p2 p.Parts c1),(25,vI (p.Parts.length:Int)),(26,vI t26),(52,vS p7 y2 c6),(53,vI (y2.length:Int)),(54,vI t54),(62,vS p6 x.Body c5),(63,vI (x.Body.length:Int)),(64,vI 0)] ?_;obtain ⟨o02,ho02,hMl⟩:=zC N;refine gU p t26 x x1 out2 0 o02 ho02 iR h6 h7 hat1 h18 h1 h8 h h16 (fun _ _ _ h=>hg _ _ _ h) (fun _ _ h=>ho _ _ h) ?_ ?_
   · intro I011 out5 p16 c15 cs5 heq2 le11 h21;subst o02;have h6:=h6.mono le11;have h7:=h7.mono le11;have hat1:=hat1.mono le11;have h1:=h1.mono le11;have h8:=h8.mono le11;have h:=h.mono le11;have H:=H.trans le11;exact zW<|zT<|zD<|zQ<|yF [] [(54,vI (W (t54 + 1)))]<|yZ<|wS [(1,vP b 0),(4,vS p16 out5 c15),(5,vI t26),(6,vP b1 0),(24,vS p2 p.Parts c1),(25,vI (p.Parts.length:Int)),(26,vI t26),(52,vS p7 y2 c6),(53,vI (y2.length:Int)),(54,vI (W (t54 + 1)))]<|ih out5 (W (t54 + 1)) _ hMl H h6 h7 hat1 h1 h8 h h21 hg ho hx hr
   intro r0 I9 hs9 m9 heq9 le9 hrs9;subst heq9;exact yB<|yB<|zM<|zM<|hr _ _ _ _ (zB hMl).symm (H.trans le9) hrs9
 intro hc6 N;exact yX<|zL<|zL<|yR [(1,vP b 0),(4,vS p12 out2 c11),(24,vS p2 p.Parts c1),(25,vI (p.Parts.length:Int)),(26,vI t26)]<|hx _ _ _ _ _ (zB N).symm H h16
def wQ (p:zJ) (out:List zP) (t26:Int):Option (Out (List zP) ((List zP)×Bool)):=do
 if (decide (t26 < (p.Parts.length:Int))) then
  let x←idx p.Parts t26
  let (y2,y3)←nA x.Nest
  let t51←(do
    if (!y3) then
     pure true
    else
     let y4←wB (x.Body.length:Int) 1 4
     if (!y4) then
      pure true
     else
      let y5←xY x.Body (fun x0=>wV x0 x)
      pure (id y5)
      : Option Bool)
  if t51 then
   pure (.ret (([]:List zP),false))
  else
   match←wP p t26 x y2 out 0 with
   | .ret r0=>pure (.ret r0)
   | .done out3 =>
    wQ p out3 (W (t26 + 1))
 else
  pure (.done out)
 partial_fixpoint
theorem gW (p:zJ):∀ (out:List zP) (t26:Int) (o:Out (List zP) ((List zP)×Bool)),wQ p out t26=some o→∀ {B}{I0 I:Imm}{Q p1 c p2 c1}{b:Nat}{p3 c2 cs},I0.le I→(S4 I p2 p.Parts c1)→(S4 I p1 p.Arrays c)→(RL I cs out)→NG Q→NO Q→(∀ (I':Imm) (out1:List zP) (p4:Option Addr) (c3:Nat) (cs1:List Value),o=(.done out1)→I0.le I'→(RL I' cs1 out1)→T 89 B Q (.exit 0) I' [hO zP (vS p4 out1 c3) cs1] [(4,vS p4 out1 c3)])→(∀ r I' hs' m',o=(.ret r)→I0.le I'→RS Tryz.prog Tryz.f43 B (rC  r) I' hs' m'→T 89 B Q .ret I' hs' m')→J Tryz.prog 89 B (nav (bodyOf Tryz.f43) [1,1,1,0,1,0]) Q I [hO zP (vS p3 out c2) cs,hB b (cProg p p1 c p2 c1)] [(1,vP b 0),(4,vS p3 out c2),(24,vS p2 p.Parts c1),(25,vI (p.Parts.length:Int)),(26,vI t26)]:=by
 refine wQ.partial_correctness p _ fun self ih out t26 o N B I0 I Q p1 c p2 c1 b p3 c2 cs H h1 h h4 hg ho hx hr=>yY hg ho<|yE [(27,.bool (decide (t26 < (p.Parts.length:Int))))]<|yI<|yM N ?_ ?_
 · intro hc2 N;refine zX<|yI<|zV<|yO<|yH 1 [] [(28,vI t26)]<|bE N fun x hy1 N=>xV rfl rfl h1 hy1 ?_;intro ad ccs hat hrep;obtain ⟨p5,c4,p6,c5,rfl,h6,h7⟩:=uU hrep;refine xR 0 hat (cPart x p5 c4 p6 c5) (vA (cPart x p5 c4 p6 c5)) rfl<|uQ zTwo ?_;intro b1 hb1;refine yH 5 [] [(5,vI t26)]<|xQ 0 (cPart x p5 c4 p6 c5) [hB b1 (cPart x p5 c4 p6 c5),hO zP (vS p3 out c2) cs,hB b (cProg p p1 c p2 c1)] rfl rfl rfl rfl<|yN rfl<|xI<|yH 2 [0] [(33,vS p5 x.Nest c4)] ?_;obtain ⟨⟨y2,y3⟩,hy2,N⟩:=zC N;refine xW (zBi x.Nest _ hy2 h6) ?_;rintro I02 hs2 v2 k2 le2 - ⟨v03,v04,rfl,rfl,h8,rfl⟩ -;have h4:=iM le2 h4;have h1:=h1.mono le2;have h6:=h6.mono le2;have h7:=h7.mono le2;have h:=h.mono le2;have H:=H.trans le2;obtain ⟨p7,c6,rfl⟩:=h8.form;refine yF [] [(7,vS p7 y2 c6),(8,.bool y3)]<|yI<|yK<|oF 0 rfl ?_;intro I03 le3 hl0;have hat1:At I03 ⟨b1,0,none⟩ (cPart x p5 c4 p6 c5):=At.of_blk hl0;have h4:=iM le3 h4;have h6:=h6.mono le3;have h7:=h7.mono le3;have h8:=h8.mono le3;have h1:=h1.mono le3;have h:=h.mono le3;have H:=H.trans le3;obtain ⟨o01,ho01,hMc1⟩:=zC N;refine yU (fun I' hs' m'=>∃ (t51:Bool),o01=t51∧I03.le I'∧hs'=[hO zP (vS p3 out c2) cs,hB b (cProg p p1 c p2 c1)]∧m'=[(1,vP b 0),(4,vS p3 out c2),(5,vI t26),(6,vP b1 0),(7,vS p7 y2 c6),(24,vS p2 p.Parts c1),(25,vI (p.Parts.length:Int)),(26,vI t26),(51,.bool t51)]) ?_ ?_
   · have H:=iS I03;refine zQ<|yH 3 [] [(39,.bool (!y3))] ?_;cases hc3:(!y3) with
     | true =>
      have hM02:=zU hc3 ho01
      try rw [hc3]
      exact yF [] [(51,vY)]<|yR [(1,vP b 0),(4,vS p3 out c2),(5,vI t26),(6,vP b1 0),(7,vS p7 y2 c6),(24,vS p2 p.Parts c1),(25,vI (p.Parts.length:Int)),(26,vI t26),(51,vY)]<|zY ⟨_,(zB hM02).symm,H,rfl,rfl⟩
     | false =>
      have hM03:=zS hc3 ho01
      try rw [hc3]
      refine yH 4 [] [(40,vP b1 1)]<|xR 1 hat1 [vS p6 x.Body c5] (vS p6 x.Body c5) rfl<|yH 6 [] [(42,vI (x.Body.length:Int))] ?_;obtain ⟨y4,hy3,N⟩:=zC hM03;refine uR (wL (x.Body.length:Int) 1 4 _ hy3 ) ?_;intro I05 le4;have h6:=h6.mono le4;have h7:=h7.mono le4;have hat1:=hat1.mono le4;have h:=h.mono le4;have H:=H.trans le4;refine yH 10 [] [(46,.bool (!y4))] ?_;cases hc4:(!y4) with
      | true =>
       have hM04:=zU hc4 N
       try rw [hc4]
       exact yF [] [(51,vY)]<|yR [(1,vP b 0),(4,vS p3 out c2),(5,vI t26),(6,vP b1 0),(7,vS p7 y2 c6),(24,vS p2 p.Parts c1),(25,vI (p.Parts.length:Int)),(26,vI t26),(51,vY)]<|zY ⟨_,(zB hM04).symm,H,rfl,rfl⟩
      | false =>
       have hM05:=zS hc4 N
       try rw [hc4]
       refine yH 11 [] [(47,vP b1 1)]<|xR 1 hat1 [vS p6 x.Body c5] (vS p6 x.Body c5) rfl<|yH 13 [] [(49,.func (.func 69) ⟨[]⟩ ⟨[vP b1 0]⟩)] ?_;have hf0:FV1 Tryz.prog I05 [] (.func (.func 69) ⟨[]⟩ ⟨[vP b1 0]⟩) (fun x0=>wV x0 x):=by
         refine FV1.intro ?_;intro I1 le1 x0 r u0 hF k0;obtain ⟨_,rfl,k0⟩:=k0;obtain ⟨p8,c7,p9,c8,p10,c9,p11,c10,rfl,h11,h12,h13,h14⟩:=rH k0;exact (fG x0 x r hF h11 h12 h13 h14 (h6.mono le1) (h7.mono le1) (hat1.mono le1)).mono (by rintro k i hs u ⟨v0,rfl,rfl,h⟩; exact ⟨rfl,h⟩)
       obtain ⟨y5,hy4,N⟩:=zC hM05;refine xW (mO x.Body (fun x0=>wV x0 x) _ hy4 h7 hf0) ?_;rintro I06 hs2 v2 k2 le5 - ⟨v010,rfl,rfl,rfl⟩ -;have H:=H.trans le5;exact yF [] [(51,.bool y5)]<|yR [(1,vP b 0),(4,vS p3 out c2),(5,vI t26),(6,vP b1 0),(7,vS p7 y2 c6),(24,vS p2 p.Parts c1),(25,vI (p.Parts.length:Int)),(26,vI t26),(51,.bool y5)]<|zY ⟨_,(zB N).symm,H,rfl,rfl⟩
   rintro I04 hs2 m2 ⟨t51,heq1,le6,rfl,rfl⟩;subst o01;have h4:=iM le6 h4;have h6:=h6.mono le6;have h7:=h7.mono le6;have hat1:=hat1.mono le6;have h8:=h8.mono le6;have h1:=h1.mono le6;have h:=h.mono le6;have H:=H.trans le6;refine zD<|yM hMc1 ?_ ?_
   · intro hc5 N;exact yE [(2,z0),(3,vF)]<|zD<|yC<|zM<|yB<|zM<|zM<|hr _ _ _ _ (zB N).symm H ⟨_,_,(.tmp rfl (.tmp rfl ResV.nil)),yD,⟨_,_,rfl,rfl,(SL.nil _),rfl⟩⟩
   intro hc5 N;refine zX<|wR [(52,vS p7 y2 c6),(53,vI (y2.length:Int)),(54,vI 0)]<|zD<|zV<|wS [(1,vP b 0),(4,vS p3 out c2),(5,vI t26),(6,vP b1 0),(24,vS p2 p.Parts c1),(25,vI (p.Parts.length:Int)),(26,vI t26),(52,vS p7 y2 c6),(53,vI (y2.length:Int)),(54,vI 0)] ?_;obtain ⟨o03,ho03,hMl1⟩:=zC N;refine gV p t26 x y2 out 0 o03 ho03 iR h6 h7 hat1 h1 h8 h h4 (fun _ _ _ h=>hg _ _ _ h) (fun _ _ h=>ho _ _ h) ?_ ?_
   · intro I012 out3 p13 c12 cs3 heq3 le12 h17;subst o03;have h1:=h1.mono le12;have h:=h.mono le12;have H:=H.trans le12;exact zW<|zT<|zD<|zQ<|yF [] [(26,vI (W (t26 + 1)))]<|yZ<|wS [(1,vP b 0),(4,vS p13 out3 c12),(24,vS p2 p.Parts c1),(25,vI (p.Parts.length:Int)),(26,vI (W (t26 + 1)))]<|ih out3 (W (t26 + 1)) _ hMl1 H h1 h h17 hg ho hx hr
   intro r0 I9 hs9 m9 heq9 le9 hrs9;subst heq9;exact yB<|yB<|zM<|zM<|hr _ _ _ _ (zB hMl1).symm (H.trans le9) hrs9
 intro hc2 N;exact yX<|zL<|zL<|wC (zE [0] rfl (by decide))<|yR [(4,vS p3 out c2)]<|hx _ _ _ _ _ (zB N).symm H h4
def tE (p:zJ):Option ((List zP)×Bool):=do
 let t22←(do
   let y←mR p.Arrays
   if (!y) then
    pure true
   else
    pure (decide ((p.Parts.length:Int) > 4))
     : Option Bool)
 if t22 then
  pure (([]:List zP),false)
 else
  match←wQ p ([]:List zP) 0 with
  | .ret r0=>pure r0
  | .done out1 =>
   pure (out1,(decide ((out1.length:Int) ≤ 120)))
theorem kX:∀ p r,tE p=some r→∀ {I:Imm}{p1 c p2 c1},(S4 I p1 p.Arrays c)→(S4 I p2 p.Parts c1)→Ret Tryz.prog 43 [vA (cProg p p1 c p2 c1)] I [] (rC  r):=by
 intro p r N I p1 c p2 c1 h h1;unfold tE at N;refine yA (fn:=Tryz.f43) (c:=(bodyOf Tryz.f43)) Tryz.func43 rfl rfl ?_;rintro B - -;have H:=iS I;refine yO<|tA (cProg p p1 c p2 c1) ?_;intro b hb;refine yF [] []<|yI<|yK ?_;obtain ⟨o0,ho0,hMc⟩:=zC N;refine yU (fun I' hs' m'=>∃ (t22:Bool),o0=t22∧I.le I'∧hs'=[hB b (cProg p p1 c p2 c1)]∧m'=[(1,vP b 0),(22,.bool t22)]) ?_ ?_
 · have H:=iS I;refine zQ<|yH 2 [0] [(14,vS p1 p.Arrays c)] ?_;obtain ⟨y,hy,N⟩:=zC ho0;refine uR (zDP p.Arrays _ hy h) ?_;intro I01 le;have H:=H.trans le;refine yH 5 [] [(17,.bool (!y))] ?_;cases hc:(!y) with
   | true =>
    have hM0:=zU hc N
    try rw [hc]
    exact yF [] [(22,vY)]<|yR [(1,vP b 0),(22,vY)]<|zY ⟨_,(zB hM0).symm,H,rfl,rfl⟩
   | false =>
    have hM01:=zS hc N
    try rw [hc]
    exact yF [0] [(22,.bool (decide ((p.Parts.length:Int) > 4)))]<|yR [(1,vP b 0),(22,.bool (decide ((p.Parts.length:Int) > 4)))]<|zY ⟨_,(zB hM01).symm,H,rfl,rfl⟩
 rintro I0 hs2 m2 ⟨t22,heq,le1,rfl,rfl⟩;subst o0;have h:=h.mono le1;have h1:=h1.mono le1;refine zD<|yM hMc ?_ ?_
 · intro hc1 N;refine yE [(2,z0),(3,vF)]<|zD<|yC<|zM ?_;obtain rfl:=zB N;exact xH ⟨_,_,(.tmp rfl (.tmp rfl ResV.nil)),yD,⟨_,_,rfl,rfl,(SL.nil _),rfl⟩⟩
 intro hc1 N;refine zX<|wR [(4,z0)]<|yI<|yO<|yF [0] [(24,vS p2 p.Parts c1),(25,vI (p.Parts.length:Int)),(26,vI 0)]<|zD<|zV<|wS [(1,vP b 0),(4,z0),(24,vS p2 p.Parts c1),(25,vI (p.Parts.length:Int)),(26,vI 0)]<|qE (uP (Rp.sz zP)) ?_;have h3:RL I0 [] ([]:List zP):=RepL.nil;obtain ⟨o04,ho04,hMl2⟩:=zC N;refine gW p ([]:List zP) 0 o04 ho04 iR h1 h h3 (fun _ _ _ h=>h) (fun _ _ h=>h) ?_ ?_
 · intro I013 out1 p4 c3 cs1 heq4 le13 h5;subst o04;refine zW<|wR [(2,vS p4 out1 c3),(3,.bool (decide ((out1.length:Int) ≤ 120)))]<|zD<|yC<|xG 0 rfl ?_;intro I014 le14 hl02;have h31:=SL.of_frozen hl02 le14 h5;obtain rfl:=zB hMl2;exact xH ⟨_,_,(.tmp rfl (.tmp rfl ResV.nil)),yD,⟨_,_,rfl,rfl,h31,rfl⟩⟩
 intro r0 I9 hs9 m9 heq9 le9 hrs9;subst heq9;refine yB<|zM ?_;obtain rfl:=zB hMl2;exact xH hrs9
def zAH (r:zR):KT:=fun kk I' hs' v=>
  ∃ v0,hs'=[]∧v=tupV [v0]∧(∃ cs,v0=.agg ⟨cs⟩∧Rp.rep I' cs r)
def nS (p:zJ) (x:zP):Option (zR):=do
 let x1←idx p.Parts x.Part
 let x2←idx x1.Body x.Stmt
 pure (id x2)
theorem zAp:∀ p x r,nS p x=some r→∀ {I:Imm}{p1 c p2 c1 p3 c2},(S4 I p1 p.Arrays c)→(S4 I p2 p.Parts c1)→(S4 I p3 x.Point c2)→Ret Tryz.prog 97 [vA (cProg p p1 c p2 c1),vA (cInst x p3 c2)] I [] (zAH  r):=by
 intro p x r N I p1 c p2 c1 p3 c2 h h1 h2;unfold nS at N;refine yA (fn:=Tryz.f97) (c:=(bodyOf Tryz.f97)) Tryz.func97 rfl rfl ?_;rintro B - -;refine yO<|tA (cProg p p1 c p2 c1) ?_;intro b hb;refine tA (cInst x p3 c2) ?_;intro b1 hb1;refine uQ [vT ([]),z0,vI 0,vI 0,z0,vI 0,vT ([]),z0,z0] ?_;intro b2 hb2;refine yN rfl<|zD<|yK ?_;obtain ⟨x1,hy,N⟩:=zC N;obtain ⟨x2,hy1,N⟩:=zC N;refine vQ [.p (vP b 1) [],.p (vS p2 p.Parts c1) [2],.p (vP b1 0) [],.p (vI x.Part) [1],.x (fun I' v hx=>∃ ad p4 c3 p5 c4,v=.pointer (some ad)∧hx=[]∧(At I' ad (cPart x1 p4 c3 p5 c4))∧(S4 I' p4 x1.Nest c3)∧(S4 I' p5 x1.Body c4)),.x (fun I' v hx=>∃ ad1 p41 c31 p51 c41,v=.pointer (some (ad1.add 1))∧hx=[]∧(At I' ad1 (cPart x1 p41 c31 p51 c41))∧(S4 I' p41 x1.Nest c31)∧(S4 I' p51 x1.Body c41)),.x (fun I' v hx=>∃ p511 c411,v=vS p511 x1.Body c411∧hx=[]∧(S4 I' p511 x1.Body c411)),.p (vP b1 1) [],.p (vI x.Stmt) [1],.x (fun I' v hx=>∃ ad2 p6 c5 p7 c6 p8 c7 p9 c8,v=.pointer (some ad2)∧hx=[]∧(At I' ad2 (cStmt x2 p6 c5 p7 c6 p8 c7 p9 c8))∧(S4 I' p6 x2.Write.Subs c5)∧(S4 I' p7 x2.Value.Index.Coefs c6)∧(S4 I' p8 x2.Value.Read.Subs c7)∧(S4 I' p9 x2.Value.Kids c8)),.x (fun I' v hx=>∃ p61 c51 p71 c61 p81 c71 p91 c81,v=vA (cStmt x2 p61 c51 p71 c61 p81 c71 p91 c81)∧hx=[]∧(S4 I' p61 x2.Write.Subs c51)∧(S4 I' p71 x2.Value.Index.Coefs c61)∧(S4 I' p81 x2.Value.Read.Subs c71)∧(S4 I' p91 x2.Value.Kids c81))] [[],[(0,false)],[],[(2,false)],[(1,false),(3,false)],[(4,false)],[(5,false)],[],[(7,false)],[(6,false),(8,false)],[(9,false)]] [hB b2 [vT ([]),z0,vI 0,vI 0,z0,vI 0,vT ([]),z0,z0],hB b1 (cInst x p3 c2),hB b (cProg p p1 c p2 c1)] [] [(10,false)] (zE [0,1,2] rfl (by decide)) ?_ ?_
 · refine Op<|Op<|Op<|Op<|Ox ?_<|Ox ?_<|Ox ?_<|Op<|Op<|Ox ?_<|Ox ?_<|On
   · intro I1 hf le1;refine yV [(6,vS p2 p.Parts c1),(8,vI x.Part)] ?_;have h1:=h1.mono le1;refine xV rfl rfl h1 hy ?_;intro ad ccs hat hrep;obtain ⟨p4,c3,p5,c4,rfl,h3,h4⟩:=uU hrep;exact yS [] iR ⟨_,_,_,_,_,rfl,rfl,hat,h3,h4⟩
   · intro I1 hf le1;refine zI ?_;rintro _ _ ⟨ad,p4,c3,p5,c4,rfl,rfl,hat,h3,h4⟩;exact yV [(9,.pointer (some ad))]<|pH 6 [(10,.pointer (some (ad.add 1)))]<|yS [] iR ⟨_,_,_,_,_,rfl,rfl,hat,h3,h4⟩
   · intro I1 hf le1;refine zI ?_;rintro _ _ ⟨ad1,p41,c31,p51,c41,rfl,rfl,hat1,h31,h41⟩;exact yV [(10,.pointer (some (ad1.add 1)))]<|xR 1 hat1 [vS p51 x1.Body c41] (vS p51 x1.Body c41) rfl<|yS [] iR ⟨_,_,rfl,rfl,h41⟩
   · intro I1 hf le1;refine zI ?_;rintro _ _ ⟨p511,c411,rfl,rfl,h411⟩;refine yV [(11,vS p511 x1.Body c411),(13,vI x.Stmt)]<|xV rfl rfl h411 hy1 ?_;intro ad2 ccs1 hat2 hrep1;obtain ⟨p6,c5,p7,c6,p8,c7,p9,c8,rfl,h5,h6,h7,h8⟩:=rH hrep1;exact yS [] iR ⟨_,_,_,_,_,_,_,_,_,rfl,rfl,hat2,h5,h6,h7,h8⟩
   intro I1 hf le1;refine zI ?_;rintro _ _ ⟨ad2,p6,c5,p7,c6,p8,c7,p9,c8,rfl,rfl,hat2,h5,h6,h7,h8⟩;exact yV [(14,.pointer (some ad2))]<|xR 0 hat2 (cStmt x2 p6 c5 p7 c6 p8 c7 p9 c8) (vA (cStmt x2 p6 c5 p7 c6 p8 c7 p9 c8)) rfl<|yS [] iR ⟨_,_,_,_,_,_,_,_,rfl,rfl,h5,h6,h7,h8⟩
 intro I0 le;refine zI ?_;rintro _ _ ⟨p61,c51,p71,c61,p81,c71,p91,c81,rfl,rfl,h51,h61,h71,h81⟩;refine yV [(4,vP b2 0),(15,vA (cStmt x2 p61 c51 p71 c61 p81 c71 p91 c81))] ?_;refine xQ 0 (cStmt x2 p61 c51 p71 c61 p81 c71 p91 c81) [hB b2 (cStmt x2 p61 c51 p71 c61 p81 c71 p91 c81),hB b1 (cInst x p3 c2),hB b (cProg p p1 c p2 c1)] rfl rfl rfl rfl<|yN rfl<|zD<|yC ?_;obtain rfl:=zB N;exact xH ⟨_,_,(.cell 0 rfl rfl (by kernel_rfl) ResV.nil),yD,⟨_,rfl,rfl,⟨_,rfl,(wT ⟨_,_,_,_,rfl,h51,h61,h71,h81⟩)⟩⟩⟩
def eF (r:(List Int)×Int):KT:=fun kk I' hs' v=>
  ∃ v0 v1,hs'=[]∧v=tupV [v0,v1]∧SL I' v0 r.1∧v1=.int .i64 r.2
def wW (p:zJ) (x:zP) (y1:(List zK)) (out:List Int) (t17:Int):Option (List Int):=do
 if (decide (t17 < (y1.length:Int))) then
  let x1←idx y1 t17
  let y2←tH p x1 x.Point
  let out2←app 8 out ([y2]:List Int)
  wW p x y1 out2 (W (t17 + 1))
 else
  pure (id out)
 partial_fixpoint
theorem fW (p:zJ) (x:zP) (y1:(List zK)):∀ (out:List Int) (t17:Int) (o:List Int),wW p x y1 out t17=some o→∀ {B}{I0 I:Imm}{Q}{y:zR}{p1 c p2 c1 p3 c2}{b:Nat}{b1:Nat}{p4 c3 p5 c4 p6 c5 p7 c6}{b2:Nat}{p8 c7 p9 c8 cs1},I0.le I→(S4 I p8 y1 c7)→(S4 I p4 y.Write.Subs c3)→(S4 I p5 y.Value.Index.Coefs c4)→(S4 I p6 y.Value.Read.Subs c5)→(S4 I p7 y.Value.Kids c6)→(S4 I p3 x.Point c2)→(S4 I p1 p.Arrays c)→(S4 I p2 p.Parts c1)→(RL I cs1 out)→NG Q→NO Q→(∀ (I':Imm) (out1:List Int) (p10:Option Addr) (c9:Nat) (cs2:List Value),o=out1→I0.le I'→(RL I' cs2 out1)→T 37 B Q (.exit 0) I' [hO Int (vS p10 out1 c9) cs2,hB b2 (cStmt y p4 c3 p5 c4 p6 c5 p7 c6),hB b1 (cInst x p3 c2),hB b (cProg p p1 c p2 c1)] [(2,vP b 0),(3,vP b1 0),(6,vP b2 0),(7,vS p10 out1 c9)])→J Tryz.prog 37 B (nav (bodyOf Tryz.f65) [1,1,1,0,1,0]) Q I [hO Int (vS p9 out c8) cs1,hB b2 (cStmt y p4 c3 p5 c4 p6 c5 p7 c6),hB b1 (cInst x p3 c2),hB b (cProg p p1 c p2 c1)] [(2,vP b 0),(3,vP b1 0),(6,vP b2 0),(7,vS p9 out c8),(15,vS p8 y1 c7),(16,vI (y1.length:Int)),(17,vI t17)]:=by
 refine wW.partial_correctness p x y1 _ fun self ih out t17 o N B I0 I Q y p1 c p2 c1 p3 c2 b b1 p4 c3 p5 c4 p6 c5 p7 c6 b2 p8 c7 p9 c8 cs1 H h8 h4 h5 h6 h7 h2 h h1 h10 hg ho hx=>yY hg ho<|yE [(18,.bool (decide (t17 < (y1.length:Int))))]<|yI<|yM N ?_ ?_
 · intro hc N;refine zX<|yI<|zV<|yO<|bE N fun x1 hy2 N=>xV rfl rfl h8 hy2 ?_;intro ad ccs hat hrep;obtain ⟨p11,c10,rfl,h12⟩:=pE hrep;refine xR 0 hat (cAccess x1 p11 c10) (vA (cAccess x1 p11 c10)) rfl<|uQ [vT ([]),z0] ?_;intro b3 hb3;refine xQ 0 (cAccess x1 p11 c10) [hB b3 (cAccess x1 p11 c10),hO Int (vS p9 out c8) cs1,hB b2 (cStmt y p4 c3 p5 c4 p6 c5 p7 c6),hB b1 (cInst x p3 c2),hB b (cProg p p1 c p2 c1)] rfl rfl rfl rfl<|yN rfl<|zD<|zQ<|yH 5 [4,0,3] [(21,vS p9 out c8),(22,vA (cProg p p1 c p2 c1)),(23,vA (cAccess x1 p11 c10)),(25,vS p3 x.Point c2)]<|bE N fun y2 hy3 N=>kE (nD p x1 x.Point _ hy3 h h1 h12 h2) ?_;intro I02 le2;have h8:=h8.mono le2;have h10:=iM le2 h10;have h4:=h4.mono le2;have h5:=h5.mono le2;have h6:=h6.mono le2;have h7:=h7.mono le2;have h2:=h2.mono le2;have h:=h.mono le2;have h1:=h1.mono le2;have H:=H.trans le2;refine xX [vI y2] Int ?_;intro b4 hb4;have h14:RL I02 [vI y2] ([y2]:List Int):=⟨[vI y2],_,rfl,rfl,rfl,rfl⟩;obtain ⟨out2,hy4,N⟩:=zC N;exact qF 3 1 2 rfl rfl rfl h10 (.inr ⟨0,rfl⟩) h14 hy4 fun p12 c11 cs3 h15=>rW (zE [1,2,3,4,5] (hs':=[hB b3 (cAccess x1 p11 c10),hO Int (vS p12 out2 c11) cs3,hB b2 (cStmt y p4 c3 p5 c4 p6 c5 p7 c6),hB b1 (cInst x p3 c2),hB b (cProg p p1 c p2 c1)]) rfl (by decide))<|yF [] [(7,vS p12 out2 c11)]<|zT<|zD<|zQ<|yF [] [(17,vI (W (t17 + 1)))]<|yZ<|qE (zE [1,2,3,4] rfl (by decide))<|wS [(2,vP b 0),(3,vP b1 0),(6,vP b2 0),(7,vS p12 out2 c11),(15,vS p8 y1 c7),(16,vI (y1.length:Int)),(17,vI (W (t17 + 1)))]<|ih out2 (W (t17 + 1)) _ N H h8 h4 h5 h6 h7 h2 h h1 h15 hg ho hx
 intro hc N;exact yX<|zL<|zL<|yR [(2,vP b 0),(3,vP b1 0),(6,vP b2 0),(7,vS p9 out c8)]<|hx _ _ _ _ _ (zB N).symm H h10
def rT (p:zJ) (x:zP):Option ((List Int)×Int):=do
 let y←nS p x
 let y1←nB y.Value
 let out1←wW p x y1 ([]:List Int) 0
 let y3←tH p y.Write x.Point
 pure (out1,y3)
theorem dW:∀ p x r,rT p x=some r→∀ {I:Imm}{p1 c p2 c1 p3 c2},(S4 I p1 p.Arrays c)→(S4 I p2 p.Parts c1)→(S4 I p3 x.Point c2)→Ret Tryz.prog 65 [vA (cProg p p1 c p2 c1),vA (cInst x p3 c2)] I [] (eF  r):=by
 intro p x r N I p1 c p2 c1 p3 c2 h h1 h2;unfold rT at N;refine yA (fn:=Tryz.f65) (c:=(bodyOf Tryz.f65)) Tryz.func65 rfl rfl ?_;rintro B - -;refine yO<|tA (cProg p p1 c p2 c1) ?_;intro b hb;refine tA (cInst x p3 c2) ?_;intro b1 hb1;refine yF [] []<|xI<|yH 2 [1,0] [(10,vA (cProg p p1 c p2 c1)),(11,vA (cInst x p3 c2))]<|bE N fun y hy N=>xW (zAp p x _ hy h h1 h2) ?_;rintro I0 hs2 v2 k2 le - ⟨v0,rfl,rfl,⟨cs,rfl,h3⟩⟩ -;have h2:=h2.mono le;have h:=h.mono le;have h1:=h1.mono le;obtain ⟨p4,c3,p5,c4,p6,c5,p7,c6,rfl,h4,h5,h6,h7⟩:=rH h3;refine uQ [vT ([]),z0,vI 0,vI 0,z0,vI 0,vT ([]),z0,z0] ?_;intro b2 hb2;refine xQ 0 (cStmt y p4 c3 p5 c4 p6 c5 p7 c6) [hB b2 (cStmt y p4 c3 p5 c4 p6 c5 p7 c6),hB b1 (cInst x p3 c2),hB b (cProg p p1 c p2 c1)] rfl rfl rfl rfl<|yN rfl<|wR [(7,z0)]<|yI<|yO<|yH 2 [0] [(14,vA (cExpr y.Value p5 c4 p6 c5 p7 c6))]<|bE N fun y1 hy1 N=>xW (zBU y.Value _ hy1 h5 h6 h7) ?_;rintro I01 hs2 v2 k2 le1 - ⟨v05,rfl,rfl,h8⟩ -;have h4:=h4.mono le1;have h5:=h5.mono le1;have h6:=h6.mono le1;have h7:=h7.mono le1;have h2:=h2.mono le1;have h:=h.mono le1;have h1:=h1.mono le1;obtain ⟨p8,c7,rfl⟩:=h8.form;refine yF [] [(16,vI (y1.length:Int)),(17,vI 0)]<|zD<|zV<|wS [(2,vP b 0),(3,vP b1 0),(6,vP b2 0),(7,z0),(15,vS p8 y1 c7),(16,vI (y1.length:Int)),(17,vI 0)]<|qE (uP (Rp.sz Int)) ?_;have h9:RL I01 [] ([]:List Int):=RepL.nil;obtain ⟨o0,ho0,hMl⟩:=zC N;refine fW p x y1 ([]:List Int) 0 o0 ho0 iR h8 h4 h5 h6 h7 h2 h h1 h9 (fun _ _ _ h=>h) (fun _ _ h=>h) ?_;intro I03 out1 p10 c9 cs2 heq le3 h11;subst o0;have h4:=h4.mono le3;have h2:=h2.mono le3;have h:=h.mono le3;have h1:=h1.mono le3;refine zW<|xI<|yH 6 [3,1,2] [(30,vS p10 out1 c9),(31,vA (cProg p p1 c p2 c1)),(33,vA (cAccess y.Write p4 c3)),(35,vS p3 x.Point c2)] ?_;obtain ⟨y3,hy5,N⟩:=zC hMl;refine kE (nD p y.Write x.Point _ hy5 h h1 h4 h2) ?_;intro I04 le4;have h11:=iM le4 h11;refine yF [] [(4,vS p10 out1 c9),(5,vI y3)]<|zD<|yC<|xG 0 rfl ?_;intro I05 le5 hl0;have h17:=SL.of_frozen hl0 le5 h11;obtain rfl:=zB N;exact xH ⟨_,_,(.tmp rfl (.tmp rfl ResV.nil)),yD,⟨_,_,rfl,rfl,h17,rfl⟩⟩
def zDo (r:(Option tN)×Bool):KT:=fun kk I' hs' v=>
  ∃ v0 v1,hs'=[]∧v=tupV [v0,v1]∧FP I' v0 r.1∧v1=.bool r.2
def pR (p:zJ) (y1:(List zP)) (t24:Int) (reads:List (List Int)) (writes:List Int):Option ((List (List Int)×List Int)):=do
 if (decide (t24 < (y1.length:Int))) then
  let x←idx y1 t24
  let (y4,y5)←rT p x
  let l←app 24 reads ([y4]:List (List Int))
  let l1←app 8 writes ([y5]:List Int)
  pR p y1 (W (t24 + 1)) l l1
 else
  pure (reads,writes)
 partial_fixpoint
theorem zDR (p:zJ) (y1:(List zP)):∀ (t24:Int) (reads:List (List Int)) (writes:List Int) (o:(List (List Int)×List Int)),pR p y1 t24 reads writes=some o→∀ {B}{I0 I:Imm}{Q p1 c p2 c1}{b:Nat}{p3 c2}{b1:Nat}{p4 c3 cs p5 c4 cs1},I0.le I→(S4 I p3 y1 c2)→(S4 I p1 p.Arrays c)→(S4 I p2 p.Parts c1)→(RL I cs reads)→(RL I cs1 writes)→NG Q→NO Q→(∀ (I':Imm) (reads1:List (List Int)) (writes1:List Int) (p6:Option Addr) (c5:Nat) (cs2:List Value) (p7:Option Addr) (c6:Nat) (cs3:List Value),o=(reads1,writes1)→I0.le I'→(RL I' cs2 reads1)→(RL I' cs3 writes1)→T 56 B Q (.exit 0) I' [hO Int (vS p7 writes1 c6) cs3,hO (List Int) (vS p6 reads1 c5) cs2,hB b1 [vS p1 p.Arrays c,vS p2 p.Parts c1,vS p3 y1 c2,vS p6 reads1 c5,vS p7 writes1 c6]] [(6,vP b1 0)])→J Tryz.prog 56 B (nav (bodyOf Tryz.f40) [1,1,1,1,0,1,0]) Q I [hO Int (vS p5 writes c4) cs1,hO (List Int) (vS p4 reads c3) cs,hB b1 [vS p1 p.Arrays c,vS p2 p.Parts c1,vS p3 y1 c2,vS p4 reads c3,vS p5 writes c4],hB b (cProg p p1 c p2 c1)] [(1,vP b 0),(6,vP b1 0),(22,vS p3 y1 c2),(23,vI (y1.length:Int)),(24,vI t24)]:=by
 refine pR.partial_correctness p y1 _ fun self ih t24 reads writes o N B I0 I Q p1 c p2 c1 b p3 c2 b1 p4 c3 cs p5 c4 cs1 H h2 h h1 h6 h7 hg ho hx=>yY hg ho<|yE [(25,.bool (decide (t24 < (y1.length:Int))))]<|yI<|yM N ?_ ?_
 · intro hc1 N;refine zX<|yI<|zV<|yO<|bE N fun x hy1 N=>xV rfl rfl h2 hy1 ?_;intro ad ccs hat hrep;obtain ⟨p8,c7,rfl,h10⟩:=kS hrep;refine xR 0 hat (cInst x p8 c7) (vA (cInst x p8 c7)) rfl<|uQ [vI 0,vI 0,z0] ?_;intro b2 hb2;refine xQ 0 (cInst x p8 c7) [hB b2 (cInst x p8 c7),hO Int (vS p5 writes c4) cs1,hO (List Int) (vS p4 reads c3) cs,hB b1 [vS p1 p.Arrays c,vS p2 p.Parts c1,vS p3 y1 c2,vS p4 reads c3,vS p5 writes c4],hB b (cProg p p1 c p2 c1)] rfl rfl rfl rfl<|yN rfl<|xI<|yH 2 [4,0] [(29,vA (cProg p p1 c p2 c1)),(30,vA (cInst x p8 c7))] ?_;obtain ⟨⟨y4,y5⟩,hy2,N⟩:=zC N;refine xW (dW p x _ hy2 h h1 h10) ?_;rintro I01 hs2 v2 k2 le1 - ⟨v03,v04,rfl,rfl,h11,rfl⟩ -;have h2:=h2.mono le1;have h7:=iM le1 h7;have h6:=iM le1 h6;have h:=h.mono le1;have h1:=h1.mono le1;have H:=H.trans le1;obtain ⟨p9,c8,rfl⟩:=h11.form;refine yF [] [(9,vS p9 y4 c8),(10,vI y5)]<|zD ?_;obtain ⟨l,hy3,N⟩:=zC N;obtain ⟨l1,hy4,N⟩:=zC N;refine vQ [.p (vP b1 0) [],.p (vP b1 0) [],.p (vP b1 0) [],.p (vP b1 0) [],.p (vP b1 3) [],.q (vS p4 reads c3),.p (vS p9 y4 c8) [],.x (fun I' v hx=>∃ b3,v=vS (some ⟨b3,0,none⟩) ([y4]:List (List Int)) 1∧hx=[]∧(SL I' (vS (some ⟨b3,0,none⟩) ([y4]:List (List Int)) 1) ([y4]:List (List Int)))),.x (fun I' v hx=>∃ p10 c9 cs4,v=vS p10 l c9∧hx=[hO (List Int) (vS p10 l c9) cs4]∧(RL I' cs4 l)),.p (vP b1 0) [],.p (vP b1 0) [],.p (vP b1 4) [],.q (vS p5 writes c4),.p (vI y5) [],.x (fun I' v hx=>∃ b4,v=vS (some ⟨b4,0,none⟩) ([y5]:List Int) 1∧hx=[]∧(SL I' (vS (some ⟨b4,0,none⟩) ([y5]:List Int) 1) ([y5]:List Int))),.x (fun I' v hx=>∃ p11 c10 cs5,v=vS p11 l1 c10∧hx=[hO Int (vS p11 l1 c10) cs5]∧(RL I' cs5 l1)),.p (vP b1 0) [],.p (vP b1 3) [],.x (fun I' v hx=>∃ p101 c91 cs41,hx=[hB b1 [vS p1 p.Arrays c,vS p2 p.Parts c1,vS p3 y1 c2,vS p101 l c91,vS p5 writes c4],hO (List Int) (vS p101 l c91) cs41]∧(RL I' cs41 l))] [[],[],[],[(2,false)],[(3,false)],[(4,false),(24,false)],[],[(6,false)],[(5,false),(7,false),(22,true)],[],[(9,false)],[(10,false)],[(11,false),(24,false)],[],[(13,false)],[(12,false),(14,false),(23,true)],[(0,false)],[(16,false)],[(8,true),(17,false),(24,true)]] [hB b2 (cInst x p8 c7),hB b (cProg p p1 c p2 c1)] [[hO (List Int) (vS p4 reads c3) cs],[hO Int (vS p5 writes c4) cs1],[hB b1 [vS p1 p.Arrays c,vS p2 p.Parts c1,vS p3 y1 c2,vS p4 reads c3,vS p5 writes c4]]] [(1,false),(15,true),(18,true)] (zE [0,4,2,1,3] rfl (by decide)) ?_ ?_
   · refine Op<|Op<|Op<|Op<|Op<|Ob ?_<|Op<|Ox ?_<|Ox ?_<|Op<|Op<|Op<|Ob ?_<|Op<|Ox ?_<|Ox ?_<|Op<|Op<|Ox ?_<|On
     · intro I1 hf le1 hbo;obtain ⟨hf2,hbp⟩:=hbo.at (j:=24) (g:=[hB b1 [vS p1 p.Arrays c,vS p2 p.Parts c1,vS p3 y1 c2,vS p4 reads c3,vS p5 writes c4]]) (by decide) (by kernel_rfl) rfl;refine zI ?_;rintro _ _ ⟨rfl,rfl⟩;refine zI ?_;rintro _ _ rfl;refine nQ<|zKB hbp<|zAz [(38,vP b1 3)] ?_;exact zBX (cs:=[vS p4 reads c3]) (v:=vS p4 reads c3) 2 rfl rfl rfl rfl rfl (by kernel_rfl) (by kernel_rfl) (by kernel_rfl)<|xP iR
     · intro I1 hf le1;refine yV [(40,vS p9 y4 c8)] ?_;have H:=iS I1;have h11:=h11.mono le1;refine xX [vS p9 y4 c8] (List Int) ?_;intro b3 hb3;have h13:RL I1 [vS p9 y4 c8] ([y4]:List (List Int)):=⟨[vS p9 y4 c8],_,rfl,rfl,⟨_,rfl,h11⟩,rfl⟩;refine yJ 0 rfl ?_;intro I02 le2 hl0;have h14:=SL.of_frozen hl0 le2 h13;have H:=H.trans le2;exact yS [] H ⟨_,rfl,rfl,h14⟩
     · intro I1 hf le1;refine zI ?_;rintro _ _ ⟨rfl,rfl⟩;refine zI ?_;rintro _ _ ⟨b3,rfl,rfl,h14⟩;refine zI ?_;rintro _ _ rfl;refine yV [(39,vS p4 reads c3),(41,vS (some ⟨b3,0,none⟩) ([y4]:List (List Int)) 1)] ?_;have h6:=iM le1 h6;obtain ⟨ccs1,k0,k01⟩:=h14;have h14:SL I1 (vS (some ⟨b3,0,none⟩) ([y4]:List (List Int)) 1) ([y4]:List (List Int)):=⟨_,k0,k01⟩;exact qF 28 1 0 rfl rfl rfl h6 (.inl k0) k01 hy3 fun p10 c9 cs4 h15=>uO (hs':=(hO (List Int) (vS p10 l c9) cs4::hB b2 (cInst x p8 c7)::hB b (cProg p p1 c p2 c1)::hf)) rfl<|yS [hO (List Int) (vS p10 l c9) cs4] iR ⟨_,_,_,rfl,rfl,h15⟩
     · intro I1 hf le1 hbo;obtain ⟨hf2,hbp⟩:=hbo.at (j:=24) (g:=[hB b1 [vS p1 p.Arrays c,vS p2 p.Parts c1,vS p3 y1 c2,vS p4 reads c3,vS p5 writes c4]]) (by decide) (by kernel_rfl) rfl;refine zI ?_;rintro _ _ ⟨rfl,rfl⟩;refine zI ?_;rintro _ _ rfl;refine nQ<|zKB hbp<|zAz [(45,vP b1 4)] ?_;exact zBX (cs:=[vS p5 writes c4]) (v:=vS p5 writes c4) 2 rfl rfl rfl rfl rfl (by kernel_rfl) (by kernel_rfl) (by kernel_rfl)<|xP iR
     · intro I1 hf le1;refine yV [(47,vI y5)] ?_;have H:=iS I1;refine xX [vI y5] Int ?_;intro b4 hb4;have h16:RL I1 [vI y5] ([y5]:List Int):=⟨[vI y5],_,rfl,rfl,rfl,rfl⟩;refine yJ 0 rfl ?_;intro I03 le3 hl01;have h17:=SL.of_frozen hl01 le3 h16;have H:=H.trans le3;exact yS [] H ⟨_,rfl,rfl,h17⟩
     · intro I1 hf le1;refine zI ?_;rintro _ _ ⟨rfl,rfl⟩;refine zI ?_;rintro _ _ ⟨b4,rfl,rfl,h17⟩;refine zI ?_;rintro _ _ rfl;refine yV [(46,vS p5 writes c4),(48,vS (some ⟨b4,0,none⟩) ([y5]:List Int) 1)] ?_;have h7:=iM le1 h7;obtain ⟨ccs2,k02,k03⟩:=h17;have h17:SL I1 (vS (some ⟨b4,0,none⟩) ([y5]:List Int) 1) ([y5]:List Int):=⟨_,k02,k03⟩;exact qF 3 1 0 rfl rfl rfl h7 (.inl k02) k03 hy4 fun p11 c10 cs5 h18=>uO (hs':=(hO Int (vS p11 l1 c10) cs5::hB b2 (cInst x p8 c7)::hB b (cProg p p1 c p2 c1)::hf)) rfl<|yS [hO Int (vS p11 l1 c10) cs5] iR ⟨_,_,_,rfl,rfl,h18⟩
     intro I1 hf le1;refine zI ?_;rintro _ _ ⟨p10,c9,cs4,rfl,rfl,h15⟩;refine zI ?_;rintro _ _ ⟨rfl,rfl⟩;refine zI ?_;rintro _ _ rfl;refine yV [(42,vS p10 l c9),(51,vP b1 3)] ?_;have H:=iS I1;exact xQ 0 [vS p1 p.Arrays c,vS p2 p.Parts c1,vS p3 y1 c2,vS p10 l c9,vS p5 writes c4] (hB b1 [vS p1 p.Arrays c,vS p2 p.Parts c1,vS p3 y1 c2,vS p10 l c9,vS p5 writes c4]::hO (List Int) (vS p10 l c9) cs4::hB b2 (cInst x p8 c7)::hB b (cProg p p1 c p2 c1)::hf) rfl rfl rfl rfl<|zER (hx:=[hB b1 [vS p1 p.Arrays c,vS p2 p.Parts c1,vS p3 y1 c2,vS p10 l c9,vS p5 writes c4],hO (List Int) (vS p10 l c9) cs4]) rfl H rfl (zG2 (v:=undef)) ⟨_,_,_,rfl,h15⟩
   intro I04 le4;refine zI ?_;rintro _ _ ⟨rfl,rfl⟩;refine zI ?_;rintro _ _ ⟨p11,c10,cs5,rfl,rfl,h18⟩;refine zI ?_;rintro _ _ ⟨p101,c91,cs41,rfl,h151⟩;refine yV [(1,vP b 0),(6,vP b1 0),(22,vS p3 y1 c2),(23,vI (y1.length:Int)),(24,vI t24),(35,vP b1 0),(49,vS p11 l1 c10)] ?_;have h2:=h2.mono le4;have h:=h.mono le4;have h1:=h1.mono le4;have H:=H.trans le4;exact yH 21 [] [(53,vP b1 4)]<|xQ 0 [vS p1 p.Arrays c,vS p2 p.Parts c1,vS p3 y1 c2,vS p101 l c91,vS p11 l1 c10] [hB b1 [vS p1 p.Arrays c,vS p2 p.Parts c1,vS p3 y1 c2,vS p101 l c91,vS p11 l1 c10],hO (List Int) (vS p101 l c91) cs41,hO Int (vS p11 l1 c10) cs5,hB b2 (cInst x p8 c7),hB b (cProg p p1 c p2 c1)] rfl rfl rfl rfl<|yN rfl<|zT<|zD<|zQ<|yF [] [(24,vI (W (t24 + 1)))]<|yZ<|qE (zE [2,1,0,4] rfl (by decide))<|wS [(1,vP b 0),(6,vP b1 0),(22,vS p3 y1 c2),(23,vI (y1.length:Int)),(24,vI (W (t24 + 1)))]<|ih (W (t24 + 1)) l l1 _ N H h2 h h1 h151 h18 hg ho hx
 intro hc1 N;exact yX<|zL<|zL<|wC (zE [0,1,2] rfl (by decide))<|yR [(6,vP b1 0)]<|hx _ _ _ _ _ _ _ _ _ (zB N).symm H h6 h7
def jU (p:zJ):Option ((Option tN)×Bool):=do
 let (y1,y2)←tE p
 if (!y2) then
  pure (none,false)
 else
  let (reads1,writes1)←pR p y1 0 ([]:List (List Int)) ([]:List Int)
  pure ((some (tN.mk p y1 reads1 writes1)),true)
theorem zFJ:∀ p r,jU p=some r→∀ {I:Imm}{p1 c p2 c1},(S4 I p1 p.Arrays c)→(S4 I p2 p.Parts c1)→Ret Tryz.prog 40 [vA (cProg p p1 c p2 c1)] I [] (zDo  r):=by
 intro p r N I p1 c p2 c1 h h1;unfold jU at N;refine yA (fn:=Tryz.f40) (c:=(bodyOf Tryz.f40)) Tryz.func40 rfl rfl ?_;rintro B - -;refine yO<|tA (cProg p p1 c p2 c1) ?_;intro b hb;refine yF [] []<|xI<|yH 1 [0] [(12,vA (cProg p p1 c p2 c1))] ?_;obtain ⟨⟨y1,y2⟩,hy,N⟩:=zC N;refine xW (kX p _ hy h h1) ?_;rintro I0 hs2 v2 k2 le - ⟨v0,v01,rfl,rfl,h2,rfl⟩ -;have h:=h.mono le;have h1:=h1.mono le;obtain ⟨p3,c2,rfl⟩:=h2.form;refine yF [] [(4,vS p3 y1 c2),(5,.bool y2)]<|yI<|yE [(17,.bool (!y2))]<|zD<|yM N ?_ ?_
 · intro hc N;refine yE [(2,.pointer none),(3,vF)]<|zD<|yC<|zM ?_;obtain rfl:=zB N;exact xH ⟨_,_,(.tmp rfl (.tmp rfl ResV.nil)),yD,⟨_,_,rfl,rfl,zKW,rfl⟩⟩
 intro hc N;refine zX<|xI<|yH 3 [0] [(20,vA [vS p1 p.Arrays c,vS p2 p.Parts c1,vS p3 y1 c2,z0,z0])]<|tA [vS p1 p.Arrays c,vS p2 p.Parts c1,vS p3 y1 c2,z0,z0] ?_;intro b1 hb1;refine yF [] [(6,vP b1 0)]<|yI<|yE [(22,vS p3 y1 c2),(23,vI (y1.length:Int)),(24,vI 0)]<|zD<|zV<|wS [(1,vP b 0),(6,vP b1 0),(22,vS p3 y1 c2),(23,vI (y1.length:Int)),(24,vI 0)]<|qE (uP (Rp.sz (List Int))) ?_;have h4:RL I0 [] ([]:List (List Int)):=RepL.nil;refine qE (uP (Rp.sz Int)) ?_;have h5:RL I0 [] ([]:List Int):=RepL.nil;obtain ⟨o0,ho0,hMl⟩:=zC N;refine zDR p y1 0 ([]:List (List Int)) ([]:List Int) o0 ho0 iR h2 h h1 h4 h5 (fun _ _ _ h=>h) (fun _ _ h=>h) ?_;intro I05 reads1 writes1 p6 c5 cs2 p7 c6 cs3 heq le5 h8 h9;subst o0;have h:=h.mono le5;have h1:=h1.mono le5;have h2:=h2.mono le5;refine zW<|wR [(2,vP b1 0),(3,vY)]<|zD<|yC<|xG 1 rfl ?_;intro I06 le6 hl02;have h19:=SL.of_frozen hl02 le6 h8;have h9:=iM le6 h9;have h:=h.mono le6;have h1:=h1.mono le6;have h2:=h2.mono le6;refine xG 0 rfl ?_;intro I07 le7 hl03;have h20:=SL.of_frozen hl03 le7 h9;have h:=h.mono le7;have h1:=h1.mono le7;have h2:=h2.mono le7;have h19:=h19.mono le7;refine xG 0 rfl ?_;intro I08 le8 hl04;have hat1:At I08 ⟨b1,0,none⟩ [vS p1 p.Arrays c,vS p2 p.Parts c1,vS p3 y1 c2,vS p6 reads1 c5,vS p7 writes1 c6]:=At.of_blk hl04;have h:=h.mono le8;have h1:=h1.mono le8;have h2:=h2.mono le8;have h19:=h19.mono le8;have h20:=h20.mono le8;obtain rfl:=zB hMl;exact xH ⟨_,_,(.tmp rfl (.tmp rfl ResV.nil)),yD,⟨_,_,rfl,rfl,(zKn hat1 (zCx ⟨_,_,_,_,_,rfl,h,h1,h2,h19,h20⟩)),rfl⟩⟩
def wX (s:(List Int)) (v0:Int) (t8:Int):Option (Out Unit (Int)):=do
 if (decide (t8 < (s.length:Int))) then
  let x←idx s t8
  if (v0 == x) then
   pure (.ret t8)
  else
   wX s v0 (W (t8 + 1))
 else
  pure (.done ())
 partial_fixpoint
theorem fX (s:(List Int)) (v0:Int):∀ (t8:Int) (o:Out Unit (Int)),wX s v0 t8=some o→∀ {B}{I0 I:Imm}{Q p c},I0.le I→(S4 I p s c)→NG Q→NO Q→(∀ (I':Imm) ,o=(.done ())→I0.le I'→T 19 B Q (.exit 0) I' [] [])→(∀ r I' hs' m',o=(.ret r)→I0.le I'→RS Tryz.prog Tryz.f111 B (yW  r) I' hs' m'→T 19 B Q .ret I' hs' m')→J Tryz.prog 19 B (nav (bodyOf Tryz.f111) [1,0,1,0]) Q I [] [(0,vS p s c),(1,vI v0),(7,vI (s.length:Int)),(8,vI t8)]:=by
 refine wX.partial_correctness s v0 _ fun self ih t8 o N B I0 I Q p c H h hg ho hx hr=>yY hg ho<|yE [(9,.bool (decide (t8 < (s.length:Int))))]<|yI<|yM N ?_ ?_
 · intro hc N;refine zX<|yI<|zV<|yE [(5,vI t8)]<|xI<|yH 3 [] [(11,vI v0),(12,vS p s c),(13,vI t8)]<|bE N fun x hy N=>xV rfl rfl h hy ?_;intro ad ccs hat hrep;obtain rfl:=hrep;refine xR 0 hat [vI x] (vI x) rfl<|yF [] [(16,.bool (v0 == x))]<|zD<|yM N ?_ ?_
   · intro hc1 N;exact yE [(4,vI t8)]<|zD<|yC<|yB<|zM<|zM<|hr _ _ _ _ (zB N).symm H ⟨_,_,(.tmp rfl ResV.nil),yD,⟨_,rfl,rfl,rfl⟩⟩
   intro hc1 N;exact zX<|zT<|zD<|zQ<|yF [] [(8,vI (W (t8 + 1)))]<|yZ<|wS [(0,vS p s c),(1,vI v0),(7,vI (s.length:Int)),(8,vI (W (t8 + 1)))]<|ih (W (t8 + 1)) _ N H h hg ho hx hr
 intro hc N;exact yX<|zL<|zL<|yR []<|hx _  (zB N).symm H
def pX (s:(List Int)) (v0:Int):Option (Int):=do
 match←wX s v0 0 with
 | .ret r0=>pure r0
 | .done _ =>
  pure (-1)
theorem dX:∀ s v0 r,pX s v0=some r→∀ {I:Imm}{p c},(S4 I p s c)→Ret Tryz.prog 111 [vS p s c,vI v0] I [] (yW  r):=by
 intro s v0 r N I p c h;unfold pX at N;refine yA (fn:=Tryz.f111) (c:=(bodyOf Tryz.f111)) Tryz.func111 rfl rfl ?_;rintro B - -;refine yE []<|yI<|yE [(7,vI (s.length:Int)),(8,vI 0)]<|zD<|zV<|wS [(0,vS p s c),(1,vI v0),(7,vI (s.length:Int)),(8,vI 0)] ?_;obtain ⟨o0,ho0,hMl⟩:=zC N;refine fX s v0 0 o0 ho0 iR h (fun _ _ _ h=>h) (fun _ _ h=>h) ?_ ?_
 · intro I0  heq le;subst o0;refine zW<|wR [(4,vI (-1))]<|zD<|yC ?_;obtain rfl:=zB hMl;exact wY
 intro r0 I9 hs9 m9 heq9 le9 hrs9;subst heq9;refine yB<|zM ?_;obtain rfl:=zB hMl;exact xH hrs9
def uS (s:(List Int)) (v0:Int):Option (Bool):=do
 let y←pX s v0
 pure (decide (y ≥ 0))
theorem kO:∀ s v0 r,uS s v0=some r→∀ {I:Imm}{p c},(S4 I p s c)→Ret Tryz.prog 74 [vS p s c,vI v0] I [] (zZ  r):=by
 intro s v0 r N I p c h;unfold uS at N;refine yA (fn:=Tryz.f74) (c:=(bodyOf Tryz.f74)) Tryz.func74 rfl rfl ?_;rintro B - -;refine yE []<|xI<|yH 2 [] [(5,vS p s c),(6,vI v0)]<|bE N fun y hy N=>kE (dX s v0 _ hy h) fun I0 le=>yF [] [(4,.bool (decide (y ≥ 0)))]<|zD<|yC ?_;obtain rfl:=zB N;exact wY
def qC (t:tN) (from0:Int) (to0:Int):Option (Int):=do
 let x←idx t.reads to0
 let x1←idx t.writes from0
 let y←uS x x1
 let kinds←(do
   if y then
    pure (W (0 + 1))
   else
    pure (id 0)
     : Option Int)
 let x2←idx t.reads from0
 let x3←idx t.writes to0
 let y1←uS x2 x3
 let kinds1←(do
   if y1 then
    pure (W (kinds + 2))
   else
    pure (id kinds)
     : Option Int)
 let x4←idx t.writes from0
 let x5←idx t.writes to0
 let kinds2←(do
   if (x4 == x5) then
    pure (W (kinds1 + 4))
   else
    pure (id kinds1)
     : Option Int)
 pure (id kinds2)
theorem zAI:∀ t from0 to0 r,qC t from0 to0=some r→∀ {I:Imm}{ad:Addr}{p c p1 c1 p2 c2 p3 c3 p4 c4},(S4 I p t.Program.Arrays c)→(S4 I p1 t.Program.Parts c1)→(S4 I p2 t.list c2)→(S4 I p3 t.reads c3)→(S4 I p4 t.writes c4)→(At I ad [vS p t.Program.Arrays c,vS p1 t.Program.Parts c1,vS p2 t.list c2,vS p3 t.reads c3,vS p4 t.writes c4])→Ret Tryz.prog 45 [.pointer (some ad),vI from0,vI to0] I [] (yW  r):=by
 intro t from0 to0 r N I ad p c p1 c1 p2 c2 p3 c3 p4 c4 h h1 h2 h3 h4 hat;unfold qC at N;refine yA (fn:=Tryz.f45) (c:=(bodyOf Tryz.f45)) Tryz.func45 rfl rfl ?_;rintro B - -;have H:=iS I;refine yE []<|wR [(7,vI 0)]<|yI<|yK ?_;obtain ⟨x,hy,N⟩:=zC N;obtain ⟨x1,hy1,N⟩:=zC N;obtain ⟨y,hy2,N⟩:=zC N;refine vQ [.p (.pointer (some ad)) [],.p (.pointer (some ad)) [],.p (.pointer (some (ad.add 3))) [],.q (vS p3 t.reads c3),.p (vI to0) [],.x (fun I' v hx=>∃ ad1 p5 c5,v=.pointer (some ad1)∧hx=[]∧(At I' ad1 [vS p5 x c5])∧(S4 I' p5 x c5)),.x (fun I' v hx=>∃ p51 c51,v=vS p51 x c51∧hx=[]∧(S4 I' p51 x c51)),.p (.pointer (some ad)) [],.p (.pointer (some ad)) [],.p (.pointer (some (ad.add 4))) [],.q (vS p4 t.writes c4),.p (vI from0) [],.x (fun I' v hx=>∃ ad2,v=.pointer (some ad2)∧hx=[]∧(At I' ad2 [vI x1])),.q (vI x1),.q (.bool y)] [[],[(0,false)],[(1,false)],[(2,false)],[],[(3,false),(4,false)],[(5,false)],[],[(7,false)],[(8,false)],[(9,false)],[],[(10,false),(11,false)],[(12,false)],[(6,false),(13,false)]] [] [] [(14,false)] (zE [] rfl (by decide)) ?_ ?_
 · refine Op<|Op<|Op<|Oq ?_<|Op<|Ox ?_<|Ox ?_<|Op<|Op<|Op<|Oq ?_<|Op<|Ox ?_<|Oq ?_<|Oq ?_<|On
   · intro I1 hf le1;refine yV [(10,.pointer (some (ad.add 3)))] ?_;have hat:=hat.mono le1;exact xR 3 hat [vS p3 t.reads c3] (vS p3 t.reads c3) rfl<|xP iR
   · intro I1 hf le1;refine yV [(11,vS p3 t.reads c3),(12,vI to0)] ?_;have h3:=h3.mono le1;refine xV rfl rfl h3 hy ?_;intro ad1 ccs hat1 hrep;obtain ⟨v0,rfl,h5⟩:=hrep;obtain ⟨p5,c5,rfl⟩:=h5.form;exact yS [] iR ⟨_,_,_,rfl,rfl,hat1,h5⟩
   · intro I1 hf le1;refine zI ?_;rintro _ _ ⟨ad1,p5,c5,rfl,rfl,hat1,h5⟩;exact yV [(13,.pointer (some ad1))]<|xR 0 hat1 [vS p5 x c5] (vS p5 x c5) rfl<|yS [] iR ⟨_,_,rfl,rfl,h5⟩
   · intro I1 hf le1;refine yV [(17,.pointer (some (ad.add 4)))] ?_;have hat:=hat.mono le1;exact xR 4 hat [vS p4 t.writes c4] (vS p4 t.writes c4) rfl<|xP iR
   · intro I1 hf le1;refine yV [(18,vS p4 t.writes c4),(19,vI from0)] ?_;have h4:=h4.mono le1;refine xV rfl rfl h4 hy1 ?_;intro ad2 ccs1 hat2 hrep1;obtain rfl:=hrep1;exact yS [] iR ⟨_,rfl,rfl,hat2⟩
   · intro I1 hf le1;refine zI ?_;rintro _ _ ⟨ad2,rfl,rfl,hat2⟩;exact yV [(20,.pointer (some ad2))]<|xR 0 hat2 [vI x1] (vI x1) rfl<|xP iR
   intro I1 hf le1;refine zI ?_;rintro _ _ ⟨p51,c51,rfl,rfl,h51⟩;refine yV [(14,vS p51 x c51),(21,vI x1)] ?_;have H:=iS I1;refine uR (kO x x1 _ hy2 h51) ?_;intro I0 le;have H:=H.trans le;exact xP H
 intro I01 le1;refine yV [(0,.pointer (some ad)),(1,vI from0),(2,vI to0),(7,vI 0),(22,.bool y)] ?_;have h3:=h3.mono le1;have h4:=h4.mono le1;have hat:=hat.mono le1;have H:=H.trans le1;refine yN rfl<|zD ?_;obtain ⟨o0,ho0,hMc⟩:=zC N;refine yU (fun I' hs' m'=>∃ (kinds:Int),o0=kinds∧I01.le I'∧hs'=[]∧m'=[(0,.pointer (some ad)),(1,vI from0),(2,vI to0),(7,vI kinds)]) ?_ ?_
 · have H:=iS I01;refine yM ho0 ?_ ?_
   · intro hc N;exact zQ<|yF [] [(7,vI (W (0 + 1)))]<|yR [(0,.pointer (some ad)),(1,vI from0),(2,vI to0),(7,vI (W (0 + 1)))]<|zY ⟨_,(zB N).symm,H,rfl,rfl⟩
   intro hc N;exact zX<|yR [(0,.pointer (some ad)),(1,vI from0),(2,vI to0),(7,vI 0)]<|zY ⟨_,(zB N).symm,H,rfl,rfl⟩
 rintro I02 hs2 m2 ⟨kinds,heq,le2,rfl,rfl⟩;subst o0;have h3:=h3.mono le2;have h4:=h4.mono le2;have hat:=hat.mono le2;have H:=H.trans le2;refine yI<|yK ?_;obtain ⟨x2,hy3,N⟩:=zC hMc;obtain ⟨x3,hy4,N⟩:=zC N;obtain ⟨y1,hy5,N⟩:=zC N;refine vQ [.p (.pointer (some ad)) [],.p (.pointer (some ad)) [],.p (.pointer (some (ad.add 3))) [],.q (vS p3 t.reads c3),.p (vI from0) [],.x (fun I' v hx=>∃ ad3 p6 c6,v=.pointer (some ad3)∧hx=[]∧(At I' ad3 [vS p6 x2 c6])∧(S4 I' p6 x2 c6)),.x (fun I' v hx=>∃ p61 c61,v=vS p61 x2 c61∧hx=[]∧(S4 I' p61 x2 c61)),.p (.pointer (some ad)) [],.p (.pointer (some ad)) [],.p (.pointer (some (ad.add 4))) [],.q (vS p4 t.writes c4),.p (vI to0) [],.x (fun I' v hx=>∃ ad4,v=.pointer (some ad4)∧hx=[]∧(At I' ad4 [vI x3])),.q (vI x3),.q (.bool y1)] [[],[(0,false)],[(1,false)],[(2,false)],[],[(3,false),(4,false)],[(5,false)],[],[(7,false)],[(8,false)],[(9,false)],[],[(10,false),(11,false)],[(12,false)],[(6,false),(13,false)]] [] [] [(14,false)] (zE [] rfl (by decide)) ?_ ?_
 · refine Op<|Op<|Op<|Oq ?_<|Op<|Ox ?_<|Ox ?_<|Op<|Op<|Op<|Oq ?_<|Op<|Ox ?_<|Oq ?_<|Oq ?_<|On
   · intro I1 hf le1;refine yV [(27,.pointer (some (ad.add 3)))] ?_;have hat:=hat.mono le1;exact xR 3 hat [vS p3 t.reads c3] (vS p3 t.reads c3) rfl<|xP iR
   · intro I1 hf le1;refine yV [(28,vS p3 t.reads c3),(29,vI from0)] ?_;have h3:=h3.mono le1;refine xV rfl rfl h3 hy3 ?_;intro ad3 ccs2 hat3 hrep2;obtain ⟨v02,rfl,h7⟩:=hrep2;obtain ⟨p6,c6,rfl⟩:=h7.form;exact yS [] iR ⟨_,_,_,rfl,rfl,hat3,h7⟩
   · intro I1 hf le1;refine zI ?_;rintro _ _ ⟨ad3,p6,c6,rfl,rfl,hat3,h7⟩;exact yV [(30,.pointer (some ad3))]<|xR 0 hat3 [vS p6 x2 c6] (vS p6 x2 c6) rfl<|yS [] iR ⟨_,_,rfl,rfl,h7⟩
   · intro I1 hf le1;refine yV [(34,.pointer (some (ad.add 4)))] ?_;have hat:=hat.mono le1;exact xR 4 hat [vS p4 t.writes c4] (vS p4 t.writes c4) rfl<|xP iR
   · intro I1 hf le1;refine yV [(35,vS p4 t.writes c4),(36,vI to0)] ?_;have h4:=h4.mono le1;refine xV rfl rfl h4 hy4 ?_;intro ad4 ccs3 hat4 hrep3;obtain rfl:=hrep3;exact yS [] iR ⟨_,rfl,rfl,hat4⟩
   · intro I1 hf le1;refine zI ?_;rintro _ _ ⟨ad4,rfl,rfl,hat4⟩;exact yV [(37,.pointer (some ad4))]<|xR 0 hat4 [vI x3] (vI x3) rfl<|xP iR
   intro I1 hf le1;refine zI ?_;rintro _ _ ⟨p61,c61,rfl,rfl,h71⟩;refine yV [(31,vS p61 x2 c61),(38,vI x3)] ?_;have H:=iS I1;refine uR (kO x2 x3 _ hy5 h71) ?_;intro I03 le3;have H:=H.trans le3;exact xP H
 intro I04 le4;refine yV [(0,.pointer (some ad)),(1,vI from0),(2,vI to0),(7,vI kinds),(39,.bool y1)] ?_;have h4:=h4.mono le4;have hat:=hat.mono le4;have H:=H.trans le4;refine yN rfl<|zD ?_;obtain ⟨o01,ho01,hMc1⟩:=zC N;refine yU (fun I' hs' m'=>∃ (kinds1:Int),o01=kinds1∧I04.le I'∧hs'=[]∧m'=[(0,.pointer (some ad)),(1,vI from0),(2,vI to0),(7,vI kinds1)]) ?_ ?_
 · have H:=iS I04;refine yM ho01 ?_ ?_
   · intro hc1 N;exact zQ<|yF [] [(7,vI (W (kinds + 2)))]<|yR [(0,.pointer (some ad)),(1,vI from0),(2,vI to0),(7,vI (W (kinds + 2)))]<|zY ⟨_,(zB N).symm,H,rfl,rfl⟩
   intro hc1 N;exact zX<|yR [(0,.pointer (some ad)),(1,vI from0),(2,vI to0),(7,vI kinds)]<|zY ⟨_,(zB N).symm,H,rfl,rfl⟩
 rintro I05 hs2 m2 ⟨kinds1,heq1,le5,rfl,rfl⟩;subst o01;have h4:=h4.mono le5;have hat:=hat.mono le5;have H:=H.trans le5;refine yI<|yK<|jI (by kernel_rfl) (by kernel_rfl)<|fE 3 [] [(44,.pointer (some (ad.add 4)))]<|fM 4 hat [vS p4 t.writes c4] (vS p4 t.writes c4) rfl<|fE 5 [] [(46,vI from0)] ?_;obtain ⟨x4,hy6,N⟩:=zC hMc1;refine zA9 rfl rfl h4 hy6 ?_;intro ad5 ccs4 hat5 hrep4;obtain rfl:=hrep4;refine fM 0 hat5 [vI x4] (vI x4) rfl<|fE 10 [] [(51,.pointer (some (ad.add 4)))]<|fM 4 hat [vS p4 t.writes c4] (vS p4 t.writes c4) rfl<|fE 12 [] [(53,vI to0)]<|bE N fun x5 hy7 N=>zA9 rfl rfl h4 hy7 ?_;intro ad6 ccs5 hat6 hrep5;obtain rfl:=hrep5;refine fM 0 hat6 [vI x5] (vI x5) rfl<|zCB [] [(56,.bool (x4 == x5))]<|zD ?_;obtain ⟨o02,ho02,hMc2⟩:=zC N;refine yU (fun I' hs' m'=>∃ (kinds2:Int),o02=kinds2∧I05.le I'∧hs'=[]∧m'=[(7,vI kinds2)]) ?_ ?_
 · have H:=iS I05;refine yM ho02 ?_ ?_
   · intro hc2 N;exact zQ<|yF [] [(7,vI (W (kinds1 + 4)))]<|yR [(7,vI (W (kinds1 + 4)))]<|zY ⟨_,(zB N).symm,H,rfl,rfl⟩
   intro hc2 N;exact zX<|yR [(7,vI kinds1)]<|zY ⟨_,(zB N).symm,H,rfl,rfl⟩
 rintro I06 hs2 m2 ⟨kinds2,heq2,le6,rfl,rfl⟩;subst o02;refine wR [(6,vI kinds2)]<|zD<|yC ?_;obtain rfl:=zB hMc2;exact wY
def mX (r:(List yG)):KT:=fun kk I' hs' v=>
  ∃ v0,hs'=[]∧v=tupV [v0]∧SL I' v0 r
def tK (t:tN) (t12:Int) (out2:List yG) (to0:Int):Option (List yG):=do
 if (decide (to0 < (t.list.length:Int))) then
  let y←qC t t12 to0
  let out4←(do
    if (decide (y > 0)) then
     let out5←app 24 out2 ([(yG.mk t12 to0 y)]:List yG)
     pure (id out5)
    else
     pure (id out2)
      : Option (List yG))
  tK t t12 out4 (W (to0 + 1))
 else
  pure (id out2)
 partial_fixpoint
theorem zAJ (t:tN) (t12:Int):∀ (out2:List yG) (to0:Int) (o:List yG),tK t t12 out2 to0=some o→∀ {B}{I0 I:Imm}{Q}  {ad:Addr}{p c p1 c1 p2 c2 p3 c3 p4 c4 p7 c7 cs2},I0.le I→(S4 I p t.Program.Arrays c)→(S4 I p1 t.Program.Parts c1)→(S4 I p2 t.list c2)→(S4 I p3 t.reads c3)→(S4 I p4 t.writes c4)→(At I ad [vS p t.Program.Arrays c,vS p1 t.Program.Parts c1,vS p2 t.list c2,vS p3 t.reads c3,vS p4 t.writes c4])→(RL I cs2 out2)→NG Q→NO Q→(∀ (I':Imm) (out3:List yG) (p8:Option Addr) (c8:Nat) (cs3:List Value),o=out3→I0.le I'→(RL I' cs3 out3)→T 41 B Q (.exit 2) I' [hO yG (vS p8 out3 c8) cs3] [(0,.pointer (some ad)),(3,vS p8 out3 c8),(11,vI (t.list.length:Int)),(12,vI t12)])→J Tryz.prog 41 B (nav (bodyOf Tryz.f41) [1,1,0,1,0,0,1,1,0,0,1,1,0]) Q I [hO yG (vS p7 out2 c7) cs2] [(0,.pointer (some ad)),(3,vS p7 out2 c7),(4,vI t12),(5,vI to0),(11,vI (t.list.length:Int)),(12,vI t12)]:=by
 refine tK.partial_correctness t t12 _ fun self ih out2 to0 o N B I0 I Q ad p c p1 c1 p2 c2 p3 c3 p4 c4 p7 c7 cs2 H h h1 h2 h3 h4 hat h8 hg ho hx=>yY hg ho<|yK<|yO<|yH 4 [] [(17,vI to0),(20,.pointer (some (ad.add 2)))]<|xR 2 hat [vS p2 t.list c2] (vS p2 t.list c2) rfl<|yF [] [(23,.bool (decide (to0 < (t.list.length:Int))))]<|zD<|yM N ?_ ?_
 · intro hc1 N;refine zX<|yI<|zV<|yO<|yH 3 [] [(26,.pointer (some ad)),(27,vI t12),(28,vI to0)]<|bE N fun y hy N=>kE (zAI t t12 to0 _ hy h h1 h2 h3 h4 hat) ?_;intro I0 le;have h:=h.mono le;have h1:=h1.mono le;have h2:=h2.mono le;have h3:=h3.mono le;have h4:=h4.mono le;have hat:=hat.mono le;have h8:=iM le h8;have H:=H.trans le;refine yF [] [(6,vI y)]<|wR [(31,.bool (decide (y > 0)))]<|zD ?_;obtain ⟨o0,ho0,hMc⟩:=zC N;refine yU (fun I' hs' m'=>∃ (out4:List yG) (p9:Option Addr) (c9:Nat) (cs4:List Value),o0=out4∧I0.le I'∧(RL I' cs4 out4)∧hs'=[hO yG (vS p9 out4 c9) cs4]∧m'=[(0,.pointer (some ad)),(3,vS p9 out4 c9),(4,vI t12),(5,vI to0),(11,vI (t.list.length:Int)),(12,vI t12)]) ?_ ?_
   · have H:=iS I0;refine yM ho0 ?_ ?_
     · intro hc2 N;refine zQ<|yH 5 [] [(32,vS p7 out2 c7),(36,vA [vI t12,vI to0,vI y])]<|xX [vI t12,vI to0,vI y] yG ?_;intro b hb;have h12:RL I0 [vI t12,vI to0,vI y] ([(yG.mk t12 to0 y)]:List yG):=⟨[vI t12,vI to0,vI y],_,rfl,rfl,(dB rfl),rfl⟩;obtain ⟨out5,hy1,N⟩:=zC N;exact qF 35 3 1 rfl rfl rfl h8 (.inr ⟨0,rfl⟩) h12 hy1 fun p10 c10 cs5 h13=>rW (zE [1] (hs':=[hO yG (vS p10 out5 c10) cs5]) rfl (by decide))<|yF [] [(3,vS p10 out5 c10)]<|yR [(0,.pointer (some ad)),(3,vS p10 out5 c10),(4,vI t12),(5,vI to0),(11,vI (t.list.length:Int)),(12,vI t12)]<|zY ⟨_,_,_,_,(zB N).symm,H,h13,rfl,rfl⟩
     intro hc2 N;exact zX<|yR [(0,.pointer (some ad)),(3,vS p7 out2 c7),(4,vI t12),(5,vI to0),(11,vI (t.list.length:Int)),(12,vI t12)]<|zY ⟨_,_,_,_,(zB N).symm,H,h8,rfl,rfl⟩
   rintro I01 hs2 m2 ⟨out4,p9,c9,cs4,heq,le1,h11,rfl,rfl⟩;subst o0;have h:=h.mono le1;have h1:=h1.mono le1;have h2:=h2.mono le1;have h3:=h3.mono le1;have h4:=h4.mono le1;have hat:=hat.mono le1;have H:=H.trans le1;exact zT<|zD<|zQ<|yF [] [(5,vI (W (to0 + 1)))]<|yZ<|wS [(0,.pointer (some ad)),(3,vS p9 out4 c9),(4,vI t12),(5,vI (W (to0 + 1))),(11,vI (t.list.length:Int)),(12,vI t12)]<|ih out4 (W (to0 + 1)) _ hMc H h h1 h2 h3 h4 hat h11 hg ho hx
 intro hc1 N;exact yX<|zL<|zL<|yR [(0,.pointer (some ad)),(3,vS p7 out2 c7),(11,vI (t.list.length:Int)),(12,vI t12)]<|hx _ _ _ _ _ (zB N).symm H h8
def tL (t:tN) (out:List yG) (t12:Int):Option (List yG):=do
 if (decide (t12 < (t.list.length:Int))) then
  let out3←tK t t12 out (W (t12 + 1))
  tL t out3 (W (t12 + 1))
 else
  pure (id out)
 partial_fixpoint
theorem zAK (t:tN):∀ (out:List yG) (t12:Int) (o:List yG),tL t out t12=some o→∀ {B}{I0 I:Imm}{Q}  {ad:Addr}{p c p1 c1 p2 c2 p3 c3 p4 c4 p5 c5 cs},I0.le I→(S4 I p t.Program.Arrays c)→(S4 I p1 t.Program.Parts c1)→(S4 I p2 t.list c2)→(S4 I p3 t.reads c3)→(S4 I p4 t.writes c4)→(At I ad [vS p t.Program.Arrays c,vS p1 t.Program.Parts c1,vS p2 t.list c2,vS p3 t.reads c3,vS p4 t.writes c4])→(RL I cs out)→NG Q→NO Q→(∀ (I':Imm) (out1:List yG) (p6:Option Addr) (c6:Nat) (cs1:List Value),o=out1→I0.le I'→(RL I' cs1 out1)→T 41 B Q (.exit 0) I' [hO yG (vS p6 out1 c6) cs1] [(3,vS p6 out1 c6)])→J Tryz.prog 41 B (nav (bodyOf Tryz.f41) [1,1,0,1,0]) Q I [hO yG (vS p5 out c5) cs] [(0,.pointer (some ad)),(3,vS p5 out c5),(11,vI (t.list.length:Int)),(12,vI t12)]:=by
 refine tL.partial_correctness t _ fun self ih out t12 o N B I0 I Q ad p c p1 c1 p2 c2 p3 c3 p4 c4 p5 c5 cs H h h1 h2 h3 h4 hat h6 hg ho hx=>yY hg ho<|yE [(13,.bool (decide (t12 < (t.list.length:Int))))]<|yI<|yM N ?_ ?_
 · intro hc N;refine zX<|yI<|zV<|yE [(4,vI t12)]<|wR [(5,vI (W (t12 + 1)))]<|zD<|zV<|wS [(0,.pointer (some ad)),(3,vS p5 out c5),(4,vI t12),(5,vI (W (t12 + 1))),(11,vI (t.list.length:Int)),(12,vI t12)] ?_;obtain ⟨o01,ho01,hMl⟩:=zC N;refine zAJ t t12 out (W (t12 + 1)) o01 ho01 iR h h1 h2 h3 h4 hat h6 (fun _ _ _ h=>hg _ _ _ h) (fun _ _ h=>ho _ _ h) ?_;intro I02 out3 p8 c8 cs3 heq1 le2 h9;subst o01;have h:=h.mono le2;have h1:=h1.mono le2;have h2:=h2.mono le2;have h3:=h3.mono le2;have h4:=h4.mono le2;have hat:=hat.mono le2;have H:=H.trans le2;exact zW<|zT<|zD<|zQ<|yF [] [(12,vI (W (t12 + 1)))]<|yZ<|wS [(0,.pointer (some ad)),(3,vS p8 out3 c8),(11,vI (t.list.length:Int)),(12,vI (W (t12 + 1)))]<|ih out3 (W (t12 + 1)) _ hMl H h h1 h2 h3 h4 hat h9 hg ho hx
 intro hc N;exact yX<|zL<|zL<|yR [(3,vS p5 out c5)]<|hx _ _ _ _ _ (zB N).symm H h6
def mP (t:tN):Option ((List yG)):=do
 let out1←tL t ([]:List yG) 0
 pure (id out1)
theorem zBL:∀ t r,mP t=some r→∀ {I:Imm}{ad:Addr}{p c p1 c1 p2 c2 p3 c3 p4 c4},(S4 I p t.Program.Arrays c)→(S4 I p1 t.Program.Parts c1)→(S4 I p2 t.list c2)→(S4 I p3 t.reads c3)→(S4 I p4 t.writes c4)→(At I ad [vS p t.Program.Arrays c,vS p1 t.Program.Parts c1,vS p2 t.list c2,vS p3 t.reads c3,vS p4 t.writes c4])→Ret Tryz.prog 41 [.pointer (some ad)] I [] (mX  r):=by
 intro t r N I ad p c p1 c1 p2 c2 p3 c3 p4 c4 h h1 h2 h3 h4 hat;unfold mP at N;refine yA (fn:=Tryz.f41) (c:=(bodyOf Tryz.f41)) Tryz.func41 rfl rfl ?_;rintro B - -;refine yE []<|wR [(3,z0)]<|yI<|yO<|yH 3 [] [(9,.pointer (some (ad.add 2)))]<|xR 2 hat [vS p2 t.list c2] (vS p2 t.list c2) rfl<|yF [] [(11,vI (t.list.length:Int)),(12,vI 0)]<|zD<|zV<|wS [(0,.pointer (some ad)),(3,z0),(11,vI (t.list.length:Int)),(12,vI 0)]<|qE (uP (Rp.sz yG)) ?_;have h5:RL I [] ([]:List yG):=RepL.nil;obtain ⟨o02,ho02,hMl1⟩:=zC N;refine zAK t ([]:List yG) 0 o02 ho02 iR h h1 h2 h3 h4 hat h5 (fun _ _ _ h=>h) (fun _ _ h=>h) ?_;intro I03 out1 p6 c6 cs1 heq2 le3 h7;subst o02;refine zW<|wR [(2,vS p6 out1 c6)]<|zD<|yC<|xG 0 rfl ?_;intro I04 le4 hl0;have h14:=SL.of_frozen hl0 le4 h7;obtain rfl:=zB hMl1;exact xH ⟨_,_,(.tmp rfl ResV.nil),yD,⟨_,rfl,rfl,h14⟩⟩
def oK (p:zJ):Option ((List yG)):=do
 let (y1,y2)←jU p
 if (!y2) then
  pure ([]:List yG)
 else
  let t←y1
  let y3←mP t
  pure (id y3)
theorem zBM:∀ p r,oK p=some r→∀ {I:Imm}{p1 c p2 c1},(S4 I p1 p.Arrays c)→(S4 I p2 p.Parts c1)→Ret Tryz.prog 15 [vA (cProg p p1 c p2 c1)] I [] (mX  r):=by
 intro p r N I p1 c p2 c1 h h1;unfold oK at N;refine yA (fn:=Tryz.f15) (c:=(bodyOf Tryz.f15)) Tryz.func15 rfl rfl ?_;rintro B - -;refine yO<|tA (cProg p p1 c p2 c1) ?_;intro b hb;refine yF [] []<|xI<|yH 1 [0] [(6,vA (cProg p p1 c p2 c1))] ?_;obtain ⟨⟨y1,y2⟩,hy,N⟩:=zC N;refine xW (zFJ p _ hy h h1) ?_;rintro I0 hs2 v2 k2 le - ⟨v0,v01,rfl,rfl,h2,rfl⟩ -;refine yF [] [(3,v0),(4,.bool y2)]<|yI<|yE [(11,.bool (!y2))]<|zD<|yM N ?_ ?_
 · intro hc N;refine yE [(2,z0)]<|zD<|yC<|zM ?_;obtain rfl:=zB N;exact xH ⟨_,_,(.tmp rfl ResV.nil),yD,⟨_,rfl,rfl,(SL.nil _)⟩⟩
 intro hc N;refine zX<|xI<|yH 1 [] [(12,v0)] ?_;obtain ⟨t,hy1,N⟩:=zC N;obtain ⟨ad,ccs,rfl,hat,hrep⟩:=zJ6 h2 hy1;obtain ⟨p3,c2,p4,c3,p5,c4,p6,c5,p7,c6,rfl,h4,h5,h6,h7,h8⟩:=zEZ hrep;obtain ⟨y3,hy2,N⟩:=zC N;refine xW (zBL t _ hy2 h4 h5 h6 h7 h8 hat) ?_;rintro I01 hs2 v2 k2 le1 - ⟨v07,rfl,rfl,h9⟩ -;obtain ⟨p8,c7,rfl⟩:=h9.form;refine yF [] [(2,vS p8 y3 c7)]<|zD<|yC ?_;obtain rfl:=zB N;exact xH ⟨_,_,(.tmp rfl ResV.nil),yD,⟨_,rfl,rfl,h9⟩⟩
def fY (r:(List zP)):KT:=fun kk I' hs' v=>
  ∃ v0,hs'=[]∧v=tupV [v0]∧SL I' v0 r
def zDS (r:(List Int)):KT:=fun kk I' hs' v=>
  ∃ v0,hs'=[]∧v=tupV [v0]∧SL I' v0 r
def wG (p:zJ) (i:Int) (y:(List (List Int))) (k0:Int) (out4:List zP) (s:Int):Option (List zP):=do
 let x1←idx p.Parts i
 if (decide (s < (x1.Body.length:Int))) then
  let x2←idx y k0
  let l←app 8 ([]:List Int) x2
  let out6←app 40 out4 ([(zP.mk i s l)]:List zP)
  wG p i y k0 out6 (W (s + 1))
 else
  pure (id out4)
 partial_fixpoint
theorem zAL (p:zJ) (i:Int) (y:(List (List Int))) (k0:Int):∀ (out4:List zP) (s:Int) (o:List zP),wG p i y k0 out4 s=some o→∀ {B}{I0 I:Imm}{Q p1 c p2 c1}{b:Nat}{p7 c6 cs2 p10 c9 cs5},I0.le I→(RL I cs2 y)→(S4 I p1 p.Arrays c)→(S4 I p2 p.Parts c1)→(RL I cs5 out4)→NG Q→NO Q→(∀ (I':Imm) (out5:List zP) (p11:Option Addr) (c10:Nat) (cs6:List Value),o=out5→I0.le I'→(RL I' cs6 out5)→T 54 B Q (.exit 4) I' [hO (List Int) (vS p7 y c6) cs2,hO zP (vS p11 out5 c10) cs6,hB b (cProg p p1 c p2 c1)] [(1,vP b 0),(3,vS p11 out5 c10),(4,vI i),(5,vS p7 y c6),(6,vI k0)])→J Tryz.prog 54 B (nav (bodyOf Tryz.f60) [1,1,0,1,0,0,1,0,0,1,1,0,0,1,0,0,1,0]) Q I [hO (List Int) (vS p7 y c6) cs2,hO zP (vS p10 out4 c9) cs5,hB b (cProg p p1 c p2 c1)] [(1,vP b 0),(3,vS p10 out4 c9),(4,vI i),(5,vS p7 y c6),(6,vI k0),(7,vI s)]:=by
 refine wG.partial_correctness p i y k0 _ fun self ih out4 s o N B I0 I Q p1 c p2 c1 b p7 c6 cs2 p10 c9 cs5 H h8 h h1 h11 hg ho hx=>yY hg ho<|yK<|yO<|yH 4 [2] [(30,vI s),(32,vS p2 p.Parts c1),(33,vI i)]<|bE N fun x1 hy2 N=>xV rfl rfl h1 hy2 ?_;intro ad1 ccs1 hat1 hrep1;obtain ⟨p12,c11,p13,c12,rfl,h13,h14⟩:=uU hrep1;refine yH 6 [] [(35,.pointer (some (ad1.add 1)))]<|xR 1 hat1 [vS p13 x1.Body c12] (vS p13 x1.Body c12) rfl<|yF [] [(38,.bool (decide (s < (x1.Body.length:Int))))]<|zD<|yM N ?_ ?_
 · intro hc2 N;refine zX<|yI<|zV<|zQ<|yH 3 [] [(41,vS p10 out4 c9),(42,vI i),(43,vI s)]<|xX [] Int ?_;intro b3 hb3;have h15:RL I [] ([]:List Int):=rfl;refine yH 6 [] [(45,vS p7 y c6),(46,vI k0)]<|bE N fun x2 hy3 N=>oM 1 rfl rfl rfl h8 hy3 ?_;intro ad2 ccs2 hat2 hcc hrep2;obtain ⟨v04,rfl,h16⟩:=hrep2;obtain ⟨p14,c13,rfl⟩:=h16.form;refine zCD 1 0 hat2 hcc [vS p14 x2 c13] (vS p14 x2 c13) rfl rfl ?_;obtain ⟨ccs3,k01,k02⟩:=h16;have h16:SL I (vS p14 x2 c13) x2:=⟨_,k01,k02⟩;obtain ⟨l,hy4,N⟩:=zC N;refine qF 3 1 0 rfl rfl rfl h15 (.inl k01) k02 hy4 fun p15 c14 cs7 h17=>rW (zE [0,1,2,3] (hs':=[hO Int (vS p15 l c14) cs7,hO (List Int) (vS p7 y c6) cs2,hO zP (vS p10 out4 c9) cs5,hB b (cProg p p1 c p2 c1)]) rfl (by decide))<|yH 10 [] [(50,vA [vI i,vI s,vS p15 l c14])]<|yJ 0 rfl ?_;intro I01 le1 hl0;have h18:=SL.of_frozen hl0 le1 h17;have h8:=iM le1 h8;have h11:=iM le1 h11;have h:=h.mono le1;have h1:=h1.mono le1;have H:=H.trans le1;refine xX [vI i,vI s,vS p15 l c14] zP ?_;intro b4 hb4;have h19:RL I01 [vI i,vI s,vS p15 l c14] ([(zP.mk i s l)]:List zP):=⟨[vI i,vI s,vS p15 l c14],_,rfl,rfl,(fO ⟨_,rfl,h18⟩),rfl⟩;obtain ⟨out6,hy5,N⟩:=zC N;exact qF 80 3 2 rfl rfl rfl h11 (.inr ⟨0,rfl⟩) h19 hy5 fun p16 c15 cs8 h20=>rW (zE [1,2,3] (hs':=[hO (List Int) (vS p7 y c6) cs2,hO zP (vS p16 out6 c15) cs8,hB b (cProg p p1 c p2 c1)]) rfl (by decide))<|yF [] [(3,vS p16 out6 c15)]<|zT<|zD<|zQ<|yF [] [(7,vI (W (s + 1)))]<|yZ<|wS [(1,vP b 0),(3,vS p16 out6 c15),(4,vI i),(5,vS p7 y c6),(6,vI k0),(7,vI (W (s + 1)))]<|ih out6 (W (s + 1)) _ N H h8 h h1 h20 hg ho hx
 intro hc2 N;exact yX<|zL<|zL<|yR [(1,vP b 0),(3,vS p10 out4 c9),(4,vI i),(5,vS p7 y c6),(6,vI k0)]<|hx _ _ _ _ _ (zB N).symm H h11
def wH (p:zJ) (i:Int) (y:(List (List Int))) (out2:List zP) (k0:Int):Option (List zP):=do
 if (decide (k0 < (y.length:Int))) then
  let out5←wG p i y k0 out2 0
  wH p i y out5 (W (k0 + 1))
 else
  pure (id out2)
 partial_fixpoint
theorem zAM (p:zJ) (i:Int) (y:(List (List Int))):∀ (out2:List zP) (k0:Int) (o:List zP),wH p i y out2 k0=some o→∀ {B}{I0 I:Imm}{Q p1 c p2 c1}{b:Nat}{p7 c6 cs2 p8 c7 cs3},I0.le I→(RL I cs2 y)→(S4 I p1 p.Arrays c)→(S4 I p2 p.Parts c1)→(RL I cs3 out2)→NG Q→NO Q→(∀ (I':Imm) (out3:List zP) (p9:Option Addr) (c8:Nat) (cs4:List Value),o=out3→I0.le I'→(RL I' cs4 out3)→T 54 B Q (.exit 2) I' [hO zP (vS p9 out3 c8) cs4,hB b (cProg p p1 c p2 c1)] [(1,vP b 0),(3,vS p9 out3 c8),(4,vI i)])→J Tryz.prog 54 B (nav (bodyOf Tryz.f60) [1,1,0,1,0,0,1,0,0,1,1,0]) Q I [hO (List Int) (vS p7 y c6) cs2,hO zP (vS p8 out2 c7) cs3,hB b (cProg p p1 c p2 c1)] [(1,vP b 0),(3,vS p8 out2 c7),(4,vI i),(5,vS p7 y c6),(6,vI k0)]:=by
 refine wH.partial_correctness p i y _ fun self ih out2 k0 o N B I0 I Q p1 c p2 c1 b p7 c6 cs2 p8 c7 cs3 H h8 h h1 h9 hg ho hx=>yY hg ho<|yK<|yE [(27,.bool (decide (k0 < (y.length:Int))))]<|zD<|yM N ?_ ?_
 · intro hc1 N;refine zX<|yI<|zV<|yE [(7,vI 0)]<|zD<|zV<|wS [(1,vP b 0),(3,vS p8 out2 c7),(4,vI i),(5,vS p7 y c6),(6,vI k0),(7,vI 0)] ?_;obtain ⟨o0,ho0,hMl⟩:=zC N;refine zAL p i y k0 out2 0 o0 ho0 iR h8 h h1 h9 (fun _ _ _ h=>hg _ _ _ h) (fun _ _ h=>ho _ _ h) ?_;intro I02 out5 p11 c10 cs6 heq le2 h12;subst o0;have h8:=iM le2 h8;have h:=h.mono le2;have h1:=h1.mono le2;have H:=H.trans le2;exact zW<|zT<|zD<|zQ<|yF [] [(6,vI (W (k0 + 1)))]<|yZ<|wS [(1,vP b 0),(3,vS p11 out5 c10),(4,vI i),(5,vS p7 y c6),(6,vI (W (k0 + 1)))]<|ih out5 (W (k0 + 1)) _ hMl H h8 h h1 h12 hg ho hx
 intro hc1 N;exact yX<|zL<|zL<|wC (zE [1,2] rfl (by decide))<|yR [(1,vP b 0),(3,vS p8 out2 c7),(4,vI i)]<|hx _ _ _ _ _ (zB N).symm H h9
def wI (p:zJ) (out:List zP) (i:Int):Option (List zP):=do
 if (decide (i < (p.Parts.length:Int))) then
  let x←idx p.Parts i
  let y←wZ ([]:List (List Int)) x.Nest ([]:List Int)
  let out3←wH p i y out 0
  wI p out3 (W (i + 1))
 else
  pure (id out)
 partial_fixpoint
theorem zAN (p:zJ):∀ (out:List zP) (i:Int) (o:List zP),wI p out i=some o→∀ {B}{I0 I:Imm}{Q p1 c p2 c1}{b:Nat}{p3 c2 cs},I0.le I→(S4 I p1 p.Arrays c)→(S4 I p2 p.Parts c1)→(RL I cs out)→NG Q→NO Q→(∀ (I':Imm) (out1:List zP) (p4:Option Addr) (c3:Nat) (cs1:List Value),o=out1→I0.le I'→(RL I' cs1 out1)→T 54 B Q (.exit 0) I' [hO zP (vS p4 out1 c3) cs1] [(3,vS p4 out1 c3)])→J Tryz.prog 54 B (nav (bodyOf Tryz.f60) [1,1,0,1,0]) Q I [hO zP (vS p3 out c2) cs,hB b (cProg p p1 c p2 c1)] [(1,vP b 0),(3,vS p3 out c2),(4,vI i)]:=by
 refine wI.partial_correctness p _ fun self ih out i o N B I0 I Q p1 c p2 c1 b p3 c2 cs H h h1 h3 hg ho hx=>yY hg ho<|yK<|yO<|yF [1] [(13,.bool (decide (i < (p.Parts.length:Int))))]<|zD<|yM N ?_ ?_
 · intro hc N;refine zX<|yI<|zV<|yO<|xX [] (List Int) ?_;intro b2 hb2;have h5:RL I [] ([]:List (List Int)):=rfl;refine yH 4 [2] [(18,vS p2 p.Parts c1),(19,vI i)]<|bE N fun x hy N=>xV rfl rfl h1 hy ?_;intro ad ccs hat hrep;obtain ⟨p5,c4,p6,c5,rfl,h6,h7⟩:=uU hrep;refine yH 6 [] [(21,.pointer (some ad))]<|xR 0 hat [vS p5 x.Nest c4] (vS p5 x.Nest c4) rfl<|bE N fun y hy1 N=>sY [hO (List Int) (vS (some ⟨b2,0,none⟩) ([]:List (List Int)) 0) []] [hO zP (vS p3 out c2) cs,hB b (cProg p p1 c p2 c1)] (dK ([]:List (List Int)) x.Nest ([]:List Int) _ hy1 h5 h6 (SL.nil _)) ?_;rintro I0 hs2 v2 k2 le - ⟨p7,c6,cs2,rfl,rfl,h8⟩ -;have h3:=iM le h3;have h:=h.mono le;have h1:=h1.mono le;have H:=H.trans le;refine yF [] [(5,vS p7 y c6)]<|wR [(6,vI 0)]<|zD<|zV<|wS [(1,vP b 0),(3,vS p3 out c2),(4,vI i),(5,vS p7 y c6),(6,vI 0)] ?_;obtain ⟨o01,ho01,hMl1⟩:=zC N;refine zAM p i y out 0 o01 ho01 iR h8 h h1 h3 (fun _ _ _ h=>hg _ _ _ h) (fun _ _ h=>ho _ _ h) ?_;intro I03 out3 p9 c8 cs4 heq1 le3 h10;subst o01;have h:=h.mono le3;have h1:=h1.mono le3;have H:=H.trans le3;exact zW<|zT<|zD<|zQ<|yF [] [(4,vI (W (i + 1)))]<|yZ<|wS [(1,vP b 0),(3,vS p9 out3 c8),(4,vI (W (i + 1)))]<|ih out3 (W (i + 1)) _ hMl1 H h h1 h10 hg ho hx
 intro hc N;exact yX<|zL<|zL<|wC (zE [0] rfl (by decide))<|yR [(3,vS p3 out c2)]<|hx _ _ _ _ _ (zB N).symm H h3
def tT (p:zJ):Option ((List zP)):=do
 let out1←wI p ([]:List zP) 0
 pure (id out1)
theorem fB:∀ p r,tT p=some r→∀ {I:Imm}{p1 c p2 c1},(S4 I p1 p.Arrays c)→(S4 I p2 p.Parts c1)→Ret Tryz.prog 60 [vA (cProg p p1 c p2 c1)] I [] (fY  r):=by
 intro p r N I p1 c p2 c1 h h1;unfold tT at N;refine yA (fn:=Tryz.f60) (c:=(bodyOf Tryz.f60)) Tryz.func60 rfl rfl ?_;rintro B - -;refine yO<|tA (cProg p p1 c p2 c1) ?_;intro b hb;refine yF [] []<|xI<|xX [] zP ?_;intro b1 hb1;have h2:RL I [] ([]:List zP):=rfl;refine yF [] [(3,vS (some ⟨b1,0,none⟩) ([]:List zP) 0)]<|yI<|yE [(4,vI 0)]<|zD<|zV<|wS [(1,vP b 0),(3,vS (some ⟨b1,0,none⟩) ([]:List zP) 0),(4,vI 0)] ?_;obtain ⟨o02,ho02,hMl2⟩:=zC N;refine zAN p ([]:List zP) 0 o02 ho02 iR h h1 h2 (fun _ _ _ h=>h) (fun _ _ h=>h) ?_;intro I04 out1 p4 c3 cs1 heq2 le4 h4;subst o02;refine zW<|wR [(2,vS p4 out1 c3)]<|zD<|yC<|xG 0 rfl ?_;intro I05 le5 hl01;have h21:=SL.of_frozen hl01 le5 h4;obtain rfl:=zB hMl2;exact xH ⟨_,_,(.tmp rfl ResV.nil),yD,⟨_,rfl,rfl,h21⟩⟩
def zDT (r:(List xN)):KT:=fun kk I' hs' v=>
  ∃ v0,hs'=[]∧v=tupV [v0]∧SL I' v0 r
def qU (p:zJ) (y:(List zP)) (out:List xN) (i:Int):Option (List xN):=do
 if (decide (i < (y.length:Int))) then
  let x←idx y i
  let x1←idx p.Parts x.Part
  let x2←idx y i
  let x3←idx x1.Body x2.Stmt
  let x4←idx y i
  let (y2,y3,y4)←pG p.Arrays x3 x4.Point
  let out2←app 32 out ([(xN.mk y2 y3)]:List xN)
  qU p y out2 (W (i + 1))
 else
  pure (id out)
 partial_fixpoint
theorem zCc (p:zJ) (y:(List zP)):∀ (out:List xN) (i:Int) (o:List xN),qU p y out i=some o→∀ {B}{I0 I:Imm}{Q p1 c p2 c1}{b:Nat}{p3 c2 p4 c3 cs},I0.le I→(S4 I p3 y c2)→(S4 I p1 p.Arrays c)→(S4 I p2 p.Parts c1)→(RL I cs out)→NG Q→NO Q→(∀ (I':Imm) (out1:List xN) (p5:Option Addr) (c4:Nat) (cs1:List Value),o=out1→I0.le I'→(RL I' cs1 out1)→T 54 B Q (.exit 0) I' [hO xN (vS p5 out1 c4) cs1] [(3,vS p5 out1 c4)])→J Tryz.prog 54 B (nav (bodyOf Tryz.f80) [1,1,1,0,1,0]) Q I [hO xN (vS p4 out c3) cs,hB b (cProg p p1 c p2 c1)] [(1,vP b 0),(3,vS p4 out c3),(4,vS p3 y c2),(5,vI i)]:=by
 refine qU.partial_correctness p y _ fun self ih out i o N B I0 I Q p1 c p2 c1 b p3 c2 p4 c3 cs H h3 h h1 h4 hg ho hx=>yY hg ho<|yK<|yE [(15,.bool (decide (i < (y.length:Int))))]<|zD<|yM N ?_ ?_
 · intro hc N;refine zX<|yI<|zV<|yK ?_;obtain ⟨x,hy1,N⟩:=zC N;obtain ⟨x1,hy2,N⟩:=zC N;obtain ⟨x2,hy3,N⟩:=zC N;obtain ⟨x3,hy4,N⟩:=zC N;obtain ⟨x4,hy5,N⟩:=zC N;obtain ⟨⟨y2,y3,y4⟩,hy6,N⟩:=zC N;refine vQ [.p (vP b 0) [],.p (vS p1 p.Arrays c) [1],.p (vP b 1) [],.p (vS p2 p.Parts c1) [1],.p (vS p3 y c2) [],.p (vI i) [],.x (fun I' v hx=>∃ ad p6 c5,v=.pointer (some ad)∧hx=[]∧(At I' ad (cInst x p6 c5))∧(S4 I' p6 x.Point c5)),.x (fun I' v hx=>∃ ad1 p61 c51,v=.pointer (some ad1)∧hx=[]∧(At I' ad1 (cInst x p61 c51))∧(S4 I' p61 x.Point c51)),.q (vI x.Part),.x (fun I' v hx=>∃ ad2 p7 c6 p8 c7,v=.pointer (some ad2)∧hx=[]∧(At I' ad2 (cPart x1 p7 c6 p8 c7))∧(S4 I' p7 x1.Nest c6)∧(S4 I' p8 x1.Body c7)),.x (fun I' v hx=>∃ ad21 p71 c61 p81 c71,v=.pointer (some (ad21.add 1))∧hx=[]∧(At I' ad21 (cPart x1 p71 c61 p81 c71))∧(S4 I' p71 x1.Nest c61)∧(S4 I' p81 x1.Body c71)),.x (fun I' v hx=>∃ p811 c711,v=vS p811 x1.Body c711∧hx=[]∧(S4 I' p811 x1.Body c711)),.p (vS p3 y c2) [],.p (vI i) [],.x (fun I' v hx=>∃ ad3 p9 c8,v=.pointer (some ad3)∧hx=[]∧(At I' ad3 (cInst x2 p9 c8))∧(S4 I' p9 x2.Point c8)),.x (fun I' v hx=>∃ ad31 p91 c81,v=.pointer (some (ad31.add 1))∧hx=[]∧(At I' ad31 (cInst x2 p91 c81))∧(S4 I' p91 x2.Point c81)),.q (vI x2.Stmt),.x (fun I' v hx=>∃ ad4 p10 c9 p11 c10 p12 c11 p13 c12,v=.pointer (some ad4)∧hx=[]∧(At I' ad4 (cStmt x3 p10 c9 p11 c10 p12 c11 p13 c12))∧(S4 I' p10 x3.Write.Subs c9)∧(S4 I' p11 x3.Value.Index.Coefs c10)∧(S4 I' p12 x3.Value.Read.Subs c11)∧(S4 I' p13 x3.Value.Kids c12)),.x (fun I' v hx=>∃ p101 c91 p111 c101 p121 c111 p131 c121,v=vA (cStmt x3 p101 c91 p111 c101 p121 c111 p131 c121)∧hx=[]∧(S4 I' p101 x3.Write.Subs c91)∧(S4 I' p111 x3.Value.Index.Coefs c101)∧(S4 I' p121 x3.Value.Read.Subs c111)∧(S4 I' p131 x3.Value.Kids c121)),.p (vS p3 y c2) [],.p (vI i) [],.x (fun I' v hx=>∃ ad5 p14 c13,v=.pointer (some ad5)∧hx=[]∧(At I' ad5 (cInst x4 p14 c13))∧(S4 I' p14 x4.Point c13)),.x (fun I' v hx=>∃ ad51 p141 c131,v=.pointer (some (ad51.add 2))∧hx=[]∧(At I' ad51 (cInst x4 p141 c131))∧(S4 I' p141 x4.Point c131)),.x (fun I' v hx=>∃ p1411 c1311,v=vS p1411 x4.Point c1311∧hx=[]∧(S4 I' p1411 x4.Point c1311)),.x (fun I' v hx=>∃ p15 c14,v=.tuple ⟨[vS p15 y2 c14,vI y3,.bool y4]⟩∧hx=[]∧(S4 I' p15 y2 c14)),.x (fun I' v hx=>∃ p151 c141,v=.tuple ⟨[vS p151 y2 c141,vI y3,.bool y4]⟩∧hx=[]∧(S4 I' p151 y2 c141)),.x (fun I' v hx=>∃ p1511 c1411,v=vS p1511 y2 c1411∧hx=[]∧(S4 I' p1511 y2 c1411)),.q (vI y3),.q (.bool y4),.x (fun I' v hx=>∃ p15111 c14111,v=vS p15111 y2 c14111∧hx=[]∧(S4 I' p15111 y2 c14111)),.p (vI y3) []] [[],[(0,false)],[],[(2,false)],[],[],[(4,false),(5,false)],[(6,false)],[(7,false)],[(3,false),(8,false)],[(9,false)],[(10,false)],[],[],[(12,false),(13,false)],[(14,false)],[(15,false)],[(11,false),(16,false)],[(17,false)],[],[],[(19,false),(20,false)],[(21,false)],[(22,false)],[(1,false),(18,false),(23,false)],[(24,false)],[(25,false)],[(25,false)],[(25,false)],[(26,false)],[(27,false)]] [hO xN (vS p4 out c3) cs,hB b (cProg p p1 c p2 c1)] [] [(28,false),(29,false),(30,false)] (zE [0,1] rfl (by decide)) ?_ ?_
   · refine Op<|Op<|Op<|Op<|Op<|Op<|Ox ?_<|Ox ?_<|Oq ?_<|Ox ?_<|Ox ?_<|Ox ?_<|Op<|Op<|Ox ?_<|Ox ?_<|Oq ?_<|Ox ?_<|Ox ?_<|Op<|Op<|Ox ?_<|Ox ?_<|Ox ?_<|Ox ?_<|Ox ?_<|Ox ?_<|Oq ?_<|Oq ?_<|Ox ?_<|Op<|On
     · intro I1 hf le1;refine yV [(23,vS p3 y c2),(24,vI i)] ?_;have h3:=h3.mono le1;refine xV rfl rfl h3 hy1 ?_;intro ad ccs hat hrep;obtain ⟨p6,c5,rfl,h6⟩:=kS hrep;exact yS [] iR ⟨_,_,_,rfl,rfl,hat,h6⟩
     · intro I1 hf le1;refine zI ?_;rintro _ _ ⟨ad,p6,c5,rfl,rfl,hat,h6⟩;exact yV [(25,.pointer (some ad))]<|pH 8 [(26,.pointer (some ad))]<|yS [] iR ⟨_,_,_,rfl,rfl,hat,h6⟩
     · intro I1 hf le1;refine zI ?_;rintro _ _ ⟨ad1,p61,c51,rfl,rfl,hat1,h61⟩;exact yV [(26,.pointer (some ad1))]<|xR 0 hat1 [vI x.Part] (vI x.Part) rfl<|xP iR
     · intro I1 hf le1;refine yV [(22,vS p2 p.Parts c1),(27,vI x.Part)] ?_;have h1:=h1.mono le1;refine xV rfl rfl h1 hy2 ?_;intro ad2 ccs1 hat2 hrep1;obtain ⟨p7,c6,p8,c7,rfl,h7,h8⟩:=uU hrep1;exact yS [] iR ⟨_,_,_,_,_,rfl,rfl,hat2,h7,h8⟩
     · intro I1 hf le1;refine zI ?_;rintro _ _ ⟨ad2,p7,c6,p8,c7,rfl,rfl,hat2,h7,h8⟩;exact yV [(28,.pointer (some ad2))]<|pH 11 [(29,.pointer (some (ad2.add 1)))]<|yS [] iR ⟨_,_,_,_,_,rfl,rfl,hat2,h7,h8⟩
     · intro I1 hf le1;refine zI ?_;rintro _ _ ⟨ad21,p71,c61,p81,c71,rfl,rfl,hat21,h71,h81⟩;exact yV [(29,.pointer (some (ad21.add 1)))]<|xR 1 hat21 [vS p81 x1.Body c71] (vS p81 x1.Body c71) rfl<|yS [] iR ⟨_,_,rfl,rfl,h81⟩
     · intro I1 hf le1;refine yV [(31,vS p3 y c2),(32,vI i)] ?_;have h3:=h3.mono le1;refine xV rfl rfl h3 hy3 ?_;intro ad3 ccs2 hat3 hrep2;obtain ⟨p9,c8,rfl,h9⟩:=kS hrep2;exact yS [] iR ⟨_,_,_,rfl,rfl,hat3,h9⟩
     · intro I1 hf le1;refine zI ?_;rintro _ _ ⟨ad3,p9,c8,rfl,rfl,hat3,h9⟩;exact yV [(33,.pointer (some ad3))]<|pH 16 [(34,.pointer (some (ad3.add 1)))]<|yS [] iR ⟨_,_,_,rfl,rfl,hat3,h9⟩
     · intro I1 hf le1;refine zI ?_;rintro _ _ ⟨ad31,p91,c81,rfl,rfl,hat31,h91⟩;exact yV [(34,.pointer (some (ad31.add 1)))]<|xR 1 hat31 [vI x2.Stmt] (vI x2.Stmt) rfl<|xP iR
     · intro I1 hf le1;refine zI ?_;rintro _ _ ⟨p811,c711,rfl,rfl,h811⟩;refine yV [(30,vS p811 x1.Body c711),(35,vI x2.Stmt)]<|xV rfl rfl h811 hy4 ?_;intro ad4 ccs3 hat4 hrep3;obtain ⟨p10,c9,p11,c10,p12,c11,p13,c12,rfl,h10,h11,h12,h13⟩:=rH hrep3;exact yS [] iR ⟨_,_,_,_,_,_,_,_,_,rfl,rfl,hat4,h10,h11,h12,h13⟩
     · intro I1 hf le1;refine zI ?_;rintro _ _ ⟨ad4,p10,c9,p11,c10,p12,c11,p13,c12,rfl,rfl,hat4,h10,h11,h12,h13⟩;exact yV [(36,.pointer (some ad4))]<|xR 0 hat4 (cStmt x3 p10 c9 p11 c10 p12 c11 p13 c12) (vA (cStmt x3 p10 c9 p11 c10 p12 c11 p13 c12)) rfl<|yS [] iR ⟨_,_,_,_,_,_,_,_,rfl,rfl,h10,h11,h12,h13⟩
     · intro I1 hf le1;refine yV [(38,vS p3 y c2),(39,vI i)] ?_;have h3:=h3.mono le1;refine xV rfl rfl h3 hy5 ?_;intro ad5 ccs4 hat5 hrep4;obtain ⟨p14,c13,rfl,h14⟩:=kS hrep4;exact yS [] iR ⟨_,_,_,rfl,rfl,hat5,h14⟩
     · intro I1 hf le1;refine zI ?_;rintro _ _ ⟨ad5,p14,c13,rfl,rfl,hat5,h14⟩;exact yV [(40,.pointer (some ad5))]<|pH 23 [(41,.pointer (some (ad5.add 2)))]<|yS [] iR ⟨_,_,_,rfl,rfl,hat5,h14⟩
     · intro I1 hf le1;refine zI ?_;rintro _ _ ⟨ad51,p141,c131,rfl,rfl,hat51,h141⟩;exact yV [(41,.pointer (some (ad51.add 2)))]<|xR 2 hat51 [vS p141 x4.Point c131] (vS p141 x4.Point c131) rfl<|yS [] iR ⟨_,_,rfl,rfl,h141⟩
     · intro I1 hf le1;refine zI ?_;rintro _ _ ⟨rfl,rfl⟩;refine zI ?_;rintro _ _ ⟨p101,c91,p111,c101,p121,c111,p131,c121,rfl,rfl,h101,h111,h121,h131⟩;refine zI ?_;rintro _ _ ⟨p1411,c1311,rfl,rfl,h1411⟩;refine yV [(20,vS p1 p.Arrays c),(37,vA (cStmt x3 p101 c91 p111 c101 p121 c111 p131 c121)),(42,vS p1411 x4.Point c1311)] ?_;have H:=iS I1;have h:=h.mono le1;refine xW (zAV p.Arrays x3 x4.Point _ hy6 h h101 h111 h121 h131 h1411) ?_;rintro I01 hs2 v2 k2 le1 - ⟨v010,v011,v012,rfl,rfl,h15,rfl,rfl⟩ -;have H:=H.trans le1;obtain ⟨p15,c14,rfl⟩:=h15.form;exact yS [] H ⟨_,_,rfl,rfl,h15⟩
     · intro I1 hf le1;refine zI ?_;rintro _ _ ⟨p15,c14,rfl,rfl,h15⟩;exact yV [(43,.tuple ⟨[vS p15 y2 c14,vI y3,.bool y4]⟩)]<|pH 26 [(18,.tuple ⟨[vS p15 y2 c14,vI y3,.bool y4]⟩)]<|yS [] iR ⟨_,_,rfl,rfl,h15⟩
     · intro I1 hf le1;refine zI ?_;rintro _ _ ⟨p151,c141,rfl,rfl,h151⟩;exact yV [(18,.tuple ⟨[vS p151 y2 c141,vI y3,.bool y4]⟩)]<|pH 27 [(44,vS p151 y2 c141)]<|yS [] iR ⟨_,_,rfl,rfl,h151⟩
     · intro I1 hf le1;refine zI ?_;rintro _ _ ⟨p151,c141,rfl,rfl,h151⟩;exact yV [(18,.tuple ⟨[vS p151 y2 c141,vI y3,.bool y4]⟩)]<|pH 28 [(45,vI y3)]<|xP iR
     · intro I1 hf le1;refine zI ?_;rintro _ _ ⟨p151,c141,rfl,rfl,h151⟩;exact yV [(18,.tuple ⟨[vS p151 y2 c141,vI y3,.bool y4]⟩)]<|pH 29 [(46,.bool y4)]<|xP iR
     intro I1 hf le1;refine zI ?_;rintro _ _ ⟨p1511,c1411,rfl,rfl,h1511⟩;exact yV [(44,vS p1511 y2 c1411)]<|pH 30 [(6,vS p1511 y2 c1411)]<|yS [] iR ⟨_,_,rfl,rfl,h1511⟩
   intro I02 le2;refine zI ?_;rintro _ _ ⟨rfl,rfl⟩;refine zI ?_;rintro _ _ ⟨p15111,c14111,rfl,rfl,h15111⟩;refine yV [(1,vP b 0),(3,vS p4 out c3),(4,vS p3 y c2),(5,vI i),(6,vS p15111 y2 c14111),(7,vI y3),(46,.bool y4)] ?_;have h4:=iM le2 h4;have h3:=h3.mono le2;have h:=h.mono le2;have h1:=h1.mono le2;have H:=H.trans le2;refine yF [] []<|zD<|zQ<|yH 4 [] [(47,vS p4 out c3),(50,vA [vS p15111 y2 c14111,vI y3])]<|xX [vS p15111 y2 c14111,vI y3] xN ?_;intro b2 hb2;have h18:RL I02 [vS p15111 y2 c14111,vI y3] ([(xN.mk y2 y3)]:List xN):=⟨[vS p15111 y2 c14111,vI y3],_,rfl,rfl,(zDa ⟨_,rfl,h15111⟩),rfl⟩;obtain ⟨out2,hy7,N⟩:=zC N;exact qF 108 2 1 rfl rfl rfl h4 (.inr ⟨0,rfl⟩) h18 hy7 fun p16 c15 cs2 h19=>rW (zE [1,2] (hs':=[hO xN (vS p16 out2 c15) cs2,hB b (cProg p p1 c p2 c1)]) rfl (by decide))<|yF [] [(3,vS p16 out2 c15)]<|zT<|zD<|zQ<|yF [] [(5,vI (W (i + 1)))]<|yZ<|wS [(1,vP b 0),(3,vS p16 out2 c15),(4,vS p3 y c2),(5,vI (W (i + 1)))]<|ih out2 (W (i + 1)) _ N H h3 h h1 h19 hg ho hx
 intro hc N;exact yX<|zL<|zL<|wC (zE [0] rfl (by decide))<|yR [(3,vS p4 out c3)]<|hx _ _ _ _ _ (zB N).symm H h4
def jG (p:zJ):Option ((List xN)):=do
 let y←tT p
 let out1←qU p y ([]:List xN) 0
 pure (id out1)
theorem zEf:∀ p r,jG p=some r→∀ {I:Imm}{p1 c p2 c1},(S4 I p1 p.Arrays c)→(S4 I p2 p.Parts c1)→Ret Tryz.prog 80 [vA (cProg p p1 c p2 c1)] I [] (zDT  r):=by
 intro p r N I p1 c p2 c1 h h1;unfold jG at N;refine yA (fn:=Tryz.f80) (c:=(bodyOf Tryz.f80)) Tryz.func80 rfl rfl ?_;rintro B - -;refine yO<|tA (cProg p p1 c p2 c1) ?_;intro b hb;refine yF [] []<|xI<|xX [] xN ?_;intro b1 hb1;have h2:RL I [] ([]:List xN):=rfl;refine yF [] [(3,vS (some ⟨b1,0,none⟩) ([]:List xN) 0)]<|xI<|yH 1 [1] [(10,vA (cProg p p1 c p2 c1))]<|bE N fun y hy N=>xW (fB p _ hy h h1) ?_;rintro I0 hs2 v2 k2 le - ⟨v0,rfl,rfl,h3⟩ -;have h2:=iM le h2;have h:=h.mono le;have h1:=h1.mono le;obtain ⟨p3,c2,rfl⟩:=h3.form;refine yF [] [(4,vS p3 y c2)]<|yI<|yE [(5,vI 0)]<|zD<|zV<|wS [(1,vP b 0),(3,vS (some ⟨b1,0,none⟩) ([]:List xN) 0),(4,vS p3 y c2),(5,vI 0)] ?_;obtain ⟨o0,ho0,hMl⟩:=zC N;refine zCc p y ([]:List xN) 0 o0 ho0 iR h3 h h1 h2 (fun _ _ _ h=>h) (fun _ _ h=>h) ?_;intro I03 out1 p5 c4 cs1 heq le3 h5;subst o0;refine zW<|wR [(2,vS p5 out1 c4)]<|zD<|yC<|xG 0 rfl ?_;intro I04 le4 hl0;have h20:=SL.of_frozen hl0 le4 h5;obtain rfl:=zB hMl;exact xH ⟨_,_,(.tmp rfl ResV.nil),yD,⟨_,rfl,rfl,h20⟩⟩
def pS (list:(List Int)) (n0:Int) (i:Int):Option (Out Unit (Bool)):=do
 if (decide (i < (list.length:Int))) then
  let x←idx list i
  if (x == n0) then
   pure (.ret true)
  else
   pS list n0 (W (i + 1))
 else
  pure (.done ())
 partial_fixpoint
theorem zDU (list:(List Int)) (n0:Int):∀ (i:Int) (o:Out Unit (Bool)),pS list n0 i=some o→∀ {B}{I0 I:Imm}{Q p c},I0.le I→(S4 I p list c)→NG Q→NO Q→(∀ (I':Imm) ,o=(.done ())→I0.le I'→T 18 B Q (.exit 0) I' [] [])→(∀ r I' hs' m',o=(.ret r)→I0.le I'→RS Tryz.prog Tryz.f112 B (zZ  r) I' hs' m'→T 18 B Q .ret I' hs' m')→J Tryz.prog 18 B (nav (bodyOf Tryz.f112) [1,0,1,0]) Q I [] [(0,vS p list c),(1,vI n0),(5,vI i)]:=by
 refine pS.partial_correctness list n0 _ fun self ih i o N B I0 I Q p c H h hg ho hx hr=>yY hg ho<|yK<|yE [(9,.bool (decide (i < (list.length:Int))))]<|zD<|yM N ?_ ?_
 · intro hc N;refine zX<|yI<|zV<|yO<|yH 2 [] [(12,vS p list c),(13,vI i)]<|bE N fun x hy N=>xV rfl rfl h hy ?_;intro ad ccs hat hrep;obtain rfl:=hrep;refine xR 0 hat [vI x] (vI x) rfl<|yF [] [(17,.bool (x == n0))]<|zD<|yM N ?_ ?_
   · intro hc1 N;exact yE [(4,vY)]<|zD<|yC<|yB<|zM<|zM<|hr _ _ _ _ (zB N).symm H ⟨_,_,(.tmp rfl ResV.nil),yD,⟨_,rfl,rfl,rfl⟩⟩
   intro hc1 N;exact zX<|zT<|zD<|zQ<|yF [] [(5,vI (W (i + 1)))]<|yZ<|wS [(0,vS p list c),(1,vI n0),(5,vI (W (i + 1)))]<|ih (W (i + 1)) _ N H h hg ho hx hr
 intro hc N;exact yX<|zL<|zL<|yR []<|hx _  (zB N).symm H
def kV (list:(List Int)) (n0:Int):Option (Bool):=do
 match←pS list n0 0 with
 | .ret r0=>pure r0
 | .done _ =>
  pure false
theorem zBV:∀ list n0 r,kV list n0=some r→∀ {I:Imm}{p c},(S4 I p list c)→Ret Tryz.prog 112 [vS p list c,vI n0] I [] (zZ  r):=by
 intro list n0 r N I p c h;unfold kV at N;refine yA (fn:=Tryz.f112) (c:=(bodyOf Tryz.f112)) Tryz.func112 rfl rfl ?_;rintro B - -;refine yE []<|yI<|yE [(5,vI 0)]<|zD<|zV<|wS [(0,vS p list c),(1,vI n0),(5,vI 0)] ?_;obtain ⟨o0,ho0,hMl⟩:=zC N;refine zDU list n0 0 o0 ho0 iR h (fun _ _ _ h=>h) (fun _ _ h=>h) ?_ ?_
 · intro I0  heq le;subst o0;refine zW<|wR [(4,vF)]<|zD<|yC ?_;obtain rfl:=zB hMl;exact wY
 intro r0 I9 hs9 m9 heq9 le9 hrs9;subst heq9;refine yB<|zM ?_;obtain rfl:=zB hMl;exact xH hrs9
def kP (a0:xN) (b:xN):Option (Int):=do
 let y←kV b.reads a0.write
 let n0←(do
   if y then
    pure (W (0 + 1))
   else
    pure (id 0)
     : Option Int)
 let y1←kV a0.reads b.write
 let n01←(do
   if y1 then
    pure (W (n0 + 2))
   else
    pure (id n0)
     : Option Int)
 let n02←(do
   if (a0.write == b.write) then
    pure (W (n01 + 4))
   else
    pure (id n01)
     : Option Int)
 pure (id n02)
theorem zDp:∀ a0 b r,kP a0 b=some r→∀ {I:Imm}{p c p1 c1},(S4 I p a0.reads c)→(S4 I p1 b.reads c1)→Ret Tryz.prog 81 [vA [vS p a0.reads c,vI a0.write],vA [vS p1 b.reads c1,vI b.write]] I [] (yW  r):=by
 intro a0 b r N I p c p1 c1 h h1;unfold kP at N;refine yA (fn:=Tryz.f81) (c:=(bodyOf Tryz.f81)) Tryz.func81 rfl rfl ?_;rintro B - -;have H:=iS I;refine yO<|tA [vS p a0.reads c,vI a0.write] ?_;intro b1 hb;refine tA [vS p1 b.reads c1,vI b.write] ?_;intro b2 hb1;refine yF [] []<|wR [(5,vI 0)]<|yI<|yO<|yH 4 [0,1] [(7,vS p1 b.reads c1),(9,vI a0.write)]<|bE N fun y hy N=>uR (zBV b.reads a0.write _ hy h1) ?_;intro I0 le;have h:=h.mono le;have H:=H.trans le;refine yN rfl<|zD ?_;obtain ⟨o0,ho0,hMc⟩:=zC N;refine yU (fun I' hs' m'=>∃ (n0:Int),o0=n0∧I0.le I'∧hs'=[hB b2 [vS p1 b.reads c1,vI b.write],hB b1 [vS p a0.reads c,vI a0.write]]∧m'=[(2,vP b1 0),(3,vP b2 0),(5,vI n0)]) ?_ ?_
 · have H:=iS I0;refine yM ho0 ?_ ?_
   · intro hc N;exact zQ<|yF [] [(5,vI (W (0 + 1)))]<|yR [(2,vP b1 0),(3,vP b2 0),(5,vI (W (0 + 1)))]<|zY ⟨_,(zB N).symm,H,rfl,rfl⟩
   intro hc N;exact zX<|yR [(2,vP b1 0),(3,vP b2 0),(5,vI 0)]<|zY ⟨_,(zB N).symm,H,rfl,rfl⟩
 rintro I01 hs2 m2 ⟨n0,heq,le1,rfl,rfl⟩;subst o0;have h:=h.mono le1;have H:=H.trans le1;refine yI<|yO<|yH 4 [1,0] [(14,vS p a0.reads c),(16,vI b.write)] ?_;obtain ⟨y1,hy1,N⟩:=zC hMc;refine uR (zBV a0.reads b.write _ hy1 h) ?_;intro I02 le2;have H:=H.trans le2;refine yN rfl<|zD ?_;obtain ⟨o01,ho01,hMc1⟩:=zC N;refine yU (fun I' hs' m'=>∃ (n01:Int),o01=n01∧I02.le I'∧hs'=[hB b2 [vS p1 b.reads c1,vI b.write],hB b1 [vS p a0.reads c,vI a0.write]]∧m'=[(2,vP b1 0),(3,vP b2 0),(5,vI n01)]) ?_ ?_
 · have H:=iS I02;refine yM ho01 ?_ ?_
   · intro hc1 N;exact zQ<|yF [] [(5,vI (W (n0 + 2)))]<|yR [(2,vP b1 0),(3,vP b2 0),(5,vI (W (n0 + 2)))]<|zY ⟨_,(zB N).symm,H,rfl,rfl⟩
   intro hc1 N;exact zX<|yR [(2,vP b1 0),(3,vP b2 0),(5,vI n0)]<|zY ⟨_,(zB N).symm,H,rfl,rfl⟩
 rintro I03 hs2 m2 ⟨n01,heq1,le3,rfl,rfl⟩;subst o01;have H:=H.trans le3;refine yI<|yO<|yF [1,0] [(24,.bool (a0.write == b.write))]<|zD ?_;obtain ⟨o02,ho02,hMc2⟩:=zC hMc1;refine yU (fun I' hs' m'=>∃ (n02:Int),o02=n02∧I03.le I'∧hs'=[]∧m'=[(5,vI n02)]) ?_ ?_
 · have H:=iS I03;refine yM ho02 ?_ ?_
   · intro hc2 N;exact zQ<|yF [] [(5,vI (W (n01 + 4)))]<|wC (zE [] rfl (by decide))<|yR [(5,vI (W (n01 + 4)))]<|zY ⟨_,(zB N).symm,H,rfl,rfl⟩
   intro hc2 N;exact zX<|wC (zE [] rfl (by decide))<|yR [(5,vI n01)]<|zY ⟨_,(zB N).symm,H,rfl,rfl⟩
 rintro I04 hs2 m2 ⟨n02,heq2,le4,rfl,rfl⟩;subst o02;refine wR [(4,vI n02)]<|zD<|yC ?_;obtain rfl:=zB hMc2;exact wY
def qV (y:(List xN)) (i:Int) (out2:List yG) (k0:Int):Option (List yG):=do
 if (decide (k0 < (y.length:Int))) then
  let x←idx y i
  let x1←idx y k0
  let y1←kP x x1
  let out4←(do
    if (y1 != 0) then
     let out5←app 24 out2 ([(yG.mk i k0 y1)]:List yG)
     pure (id out5)
    else
     pure (id out2)
      : Option (List yG))
  qV y i out4 (W (k0 + 1))
 else
  pure (id out2)
 partial_fixpoint
theorem zCd (y:(List xN)) (i:Int):∀ (out2:List yG) (k0:Int) (o:List yG),qV y i out2 k0=some o→∀ {B}{I0 I:Imm}{Q p3 c2 p6 c5 cs2},I0.le I→(S4 I p3 y c2)→(RL I cs2 out2)→NG Q→NO Q→(∀ (I':Imm) (out3:List yG) (p7:Option Addr) (c6:Nat) (cs3:List Value),o=out3→I0.le I'→(RL I' cs3 out3)→T 44 B Q (.exit 2) I' [hO yG (vS p7 out3 c6) cs3] [(3,vS p7 out3 c6),(4,vS p3 y c2),(5,vI i)])→J Tryz.prog 44 B (nav (bodyOf Tryz.f52) [1,1,1,0,1,0,0,1,0,0,1,0]) Q I [hO yG (vS p6 out2 c5) cs2] [(3,vS p6 out2 c5),(4,vS p3 y c2),(5,vI i),(6,vI k0)]:=by
 refine qV.partial_correctness y i _ fun self ih out2 k0 o N B I0 I Q p3 c2 p6 c5 cs2 H h3 h6 hg ho hx=>yY hg ho<|yK<|yE [(22,.bool (decide (k0 < (y.length:Int))))]<|zD<|yM N ?_ ?_
 · intro hc1 N;refine zX<|yI<|zV<|yK ?_;obtain ⟨x,hy1,N⟩:=zC N;obtain ⟨x1,hy2,N⟩:=zC N;obtain ⟨y1,hy3,N⟩:=zC N;refine vQ [.p (vS p3 y c2) [],.p (vI i) [],.x (fun I' v hx=>∃ ad p8 c7,v=.pointer (some ad)∧hx=[]∧(At I' ad [vS p8 x.reads c7,vI x.write])∧(S4 I' p8 x.reads c7)),.x (fun I' v hx=>∃ p81 c71,v=vA [vS p81 x.reads c71,vI x.write]∧hx=[]∧(S4 I' p81 x.reads c71)),.p (vS p3 y c2) [],.p (vI k0) [],.x (fun I' v hx=>∃ ad1 p9 c8,v=.pointer (some ad1)∧hx=[]∧(At I' ad1 [vS p9 x1.reads c8,vI x1.write])∧(S4 I' p9 x1.reads c8)),.x (fun I' v hx=>∃ p91 c81,v=vA [vS p91 x1.reads c81,vI x1.write]∧hx=[]∧(S4 I' p91 x1.reads c81)),.q (vI y1)] [[],[],[(0,false),(1,false)],[(2,false)],[],[],[(4,false),(5,false)],[(6,false)],[(3,false),(7,false)]] [hO yG (vS p6 out2 c5) cs2] [] [(8,false)] (zE [0] rfl (by decide)) ?_ ?_
   · refine Op<|Op<|Ox ?_<|Ox ?_<|Op<|Op<|Ox ?_<|Ox ?_<|Oq ?_<|On
     · intro I1 hf le1;refine yV [(25,vS p3 y c2),(26,vI i)] ?_;have h3:=h3.mono le1;refine xV rfl rfl h3 hy1 ?_;intro ad ccs hat hrep;obtain ⟨p8,c7,rfl,h8⟩:=zBT hrep;exact yS [] iR ⟨_,_,_,rfl,rfl,hat,h8⟩
     · intro I1 hf le1;refine zI ?_;rintro _ _ ⟨ad,p8,c7,rfl,rfl,hat,h8⟩;exact yV [(27,.pointer (some ad))]<|xR 0 hat [vS p8 x.reads c7,vI x.write] (vA [vS p8 x.reads c7,vI x.write]) rfl<|yS [] iR ⟨_,_,rfl,rfl,h8⟩
     · intro I1 hf le1;refine yV [(29,vS p3 y c2),(30,vI k0)] ?_;have h3:=h3.mono le1;refine xV rfl rfl h3 hy2 ?_;intro ad1 ccs1 hat1 hrep1;obtain ⟨p9,c8,rfl,h9⟩:=zBT hrep1;exact yS [] iR ⟨_,_,_,rfl,rfl,hat1,h9⟩
     · intro I1 hf le1;refine zI ?_;rintro _ _ ⟨ad1,p9,c8,rfl,rfl,hat1,h9⟩;exact yV [(31,.pointer (some ad1))]<|xR 0 hat1 [vS p9 x1.reads c8,vI x1.write] (vA [vS p9 x1.reads c8,vI x1.write]) rfl<|yS [] iR ⟨_,_,rfl,rfl,h9⟩
     intro I1 hf le1;refine zI ?_;rintro _ _ ⟨p81,c71,rfl,rfl,h81⟩;refine zI ?_;rintro _ _ ⟨p91,c81,rfl,rfl,h91⟩;refine yV [(28,vA [vS p81 x.reads c71,vI x.write]),(32,vA [vS p91 x1.reads c81,vI x1.write])] ?_;have H:=iS I1;refine kE (zDp x x1 _ hy3 h81 h91) ?_;intro I01 le1;have H:=H.trans le1;exact xP H
   intro I02 le2;refine yV [(3,vS p6 out2 c5),(4,vS p3 y c2),(5,vI i),(6,vI k0),(33,vI y1)] ?_;have h6:=iM le2 h6;have h3:=h3.mono le2;have H:=H.trans le2;refine yF [] [(7,vI y1)]<|wR [(35,.bool (y1 != 0))]<|zD ?_;obtain ⟨o0,ho0,hMc⟩:=zC N;refine yU (fun I' hs' m'=>∃ (out4:List yG) (p10:Option Addr) (c9:Nat) (cs4:List Value),o0=out4∧I02.le I'∧(RL I' cs4 out4)∧hs'=[hO yG (vS p10 out4 c9) cs4]∧m'=[(3,vS p10 out4 c9),(4,vS p3 y c2),(5,vI i),(6,vI k0)]) ?_ ?_
   · have H:=iS I02;refine yM ho0 ?_ ?_
     · intro hc2 N;refine zQ<|yH 5 [] [(36,vS p6 out2 c5),(40,vA [vI i,vI k0,vI y1])]<|xX [vI i,vI k0,vI y1] yG ?_;intro b2 hb2;have h12:RL I02 [vI i,vI k0,vI y1] ([(yG.mk i k0 y1)]:List yG):=⟨[vI i,vI k0,vI y1],_,rfl,rfl,(dB rfl),rfl⟩;obtain ⟨out5,hy4,N⟩:=zC N;exact qF 35 3 1 rfl rfl rfl h6 (.inr ⟨0,rfl⟩) h12 hy4 fun p11 c10 cs5 h13=>rW (zE [1] (hs':=[hO yG (vS p11 out5 c10) cs5]) rfl (by decide))<|yF [] [(3,vS p11 out5 c10)]<|yR [(3,vS p11 out5 c10),(4,vS p3 y c2),(5,vI i),(6,vI k0)]<|zY ⟨_,_,_,_,(zB N).symm,H,h13,rfl,rfl⟩
     intro hc2 N;exact zX<|yR [(3,vS p6 out2 c5),(4,vS p3 y c2),(5,vI i),(6,vI k0)]<|zY ⟨_,_,_,_,(zB N).symm,H,h6,rfl,rfl⟩
   rintro I03 hs2 m2 ⟨out4,p10,c9,cs4,heq,le3,h11,rfl,rfl⟩;subst o0;have h3:=h3.mono le3;have H:=H.trans le3;exact zT<|zD<|zQ<|yF [] [(6,vI (W (k0 + 1)))]<|yZ<|wS [(3,vS p10 out4 c9),(4,vS p3 y c2),(5,vI i),(6,vI (W (k0 + 1)))]<|ih out4 (W (k0 + 1)) _ hMc H h3 h11 hg ho hx
 intro hc1 N;exact yX<|zL<|zL<|yR [(3,vS p6 out2 c5),(4,vS p3 y c2),(5,vI i)]<|hx _ _ _ _ _ (zB N).symm H h6
def qW (y:(List xN)) (out:List yG) (i:Int):Option (List yG):=do
 if (decide (i < (y.length:Int))) then
  let out3←qV y i out (W (i + 1))
  qW y out3 (W (i + 1))
 else
  pure (id out)
 partial_fixpoint
theorem zCe (y:(List xN)):∀ (out:List yG) (i:Int) (o:List yG),qW y out i=some o→∀ {B}{I0 I:Imm}{Q p3 c2 p4 c3 cs},I0.le I→(S4 I p3 y c2)→(RL I cs out)→NG Q→NO Q→(∀ (I':Imm) (out1:List yG) (p5:Option Addr) (c4:Nat) (cs1:List Value),o=out1→I0.le I'→(RL I' cs1 out1)→T 44 B Q (.exit 0) I' [hO yG (vS p5 out1 c4) cs1] [(3,vS p5 out1 c4)])→J Tryz.prog 44 B (nav (bodyOf Tryz.f52) [1,1,1,0,1,0]) Q I [hO yG (vS p4 out c3) cs] [(3,vS p4 out c3),(4,vS p3 y c2),(5,vI i)]:=by
 refine qW.partial_correctness y _ fun self ih out i o N B I0 I Q p3 c2 p4 c3 cs H h3 h4 hg ho hx=>yY hg ho<|yK<|yE [(14,.bool (decide (i < (y.length:Int))))]<|zD<|yM N ?_ ?_
 · intro hc N;refine zX<|yI<|zV<|yE [(6,vI (W (i + 1)))]<|zD<|zV<|wS [(3,vS p4 out c3),(4,vS p3 y c2),(5,vI i),(6,vI (W (i + 1)))] ?_;obtain ⟨o01,ho01,hMl⟩:=zC N;refine zCd y i out (W (i + 1)) o01 ho01 iR h3 h4 (fun _ _ _ h=>hg _ _ _ h) (fun _ _ h=>ho _ _ h) ?_;intro I04 out3 p7 c6 cs3 heq1 le4 h7;subst o01;have h3:=h3.mono le4;have H:=H.trans le4;exact zW<|zT<|zD<|zQ<|yF [] [(5,vI (W (i + 1)))]<|yZ<|wS [(3,vS p7 out3 c6),(4,vS p3 y c2),(5,vI (W (i + 1)))]<|ih out3 (W (i + 1)) _ hMl H h3 h7 hg ho hx
 intro hc N;exact yX<|zL<|zL<|yR [(3,vS p4 out c3)]<|hx _ _ _ _ _ (zB N).symm H h4
def nP (p:zJ):Option ((List yG)):=do
 let y←jG p
 let out1←qW y ([]:List yG) 0
 pure (id out1)
theorem zEg:∀ p r,nP p=some r→∀ {I:Imm}{p1 c p2 c1},(S4 I p1 p.Arrays c)→(S4 I p2 p.Parts c1)→Ret Tryz.prog 52 [vA (cProg p p1 c p2 c1)] I [] (mX  r):=by
 intro p r N I p1 c p2 c1 h h1;unfold nP at N;refine yA (fn:=Tryz.f52) (c:=(bodyOf Tryz.f52)) Tryz.func52 rfl rfl ?_;rintro B - -;refine yO<|tA (cProg p p1 c p2 c1) ?_;intro b hb;refine yF [] []<|xI<|xX [] yG ?_;intro b1 hb1;have h2:RL I [] ([]:List yG):=rfl;refine yF [] [(3,vS (some ⟨b1,0,none⟩) ([]:List yG) 0)]<|xI<|yH 1 [1] [(9,vA (cProg p p1 c p2 c1))]<|bE N fun y hy N=>xW (zEf p _ hy h h1) ?_;rintro I0 hs2 v2 k2 le - ⟨v0,rfl,rfl,h3⟩ -;have h2:=iM le h2;have h:=h.mono le;obtain ⟨p3,c2,rfl⟩:=h3.form;refine yF [] [(4,vS p3 y c2)]<|yI<|yE [(5,vI 0)]<|zD<|zV<|qE (zE [0] (hs':=[hO yG (vS (some ⟨b1,0,none⟩) ([]:List yG) 0) []]) rfl (by decide))<|wS [(3,vS (some ⟨b1,0,none⟩) ([]:List yG) 0),(4,vS p3 y c2),(5,vI 0)] ?_;obtain ⟨o02,ho02,hMl1⟩:=zC N;refine zCe y ([]:List yG) 0 o02 ho02 iR h3 h2 (fun _ _ _ h=>h) (fun _ _ h=>h) ?_;intro I05 out1 p5 c4 cs1 heq2 le5 h5;subst o02;refine zW<|wR [(2,vS p5 out1 c4)]<|zD<|yC<|xG 0 rfl ?_;intro I06 le6 hl0;have h14:=SL.of_frozen hl0 le6 h5;obtain rfl:=zB hMl1;exact xH ⟨_,_,(.tmp rfl ResV.nil),yD,⟨_,rfl,rfl,h14⟩⟩
end Go.LN
