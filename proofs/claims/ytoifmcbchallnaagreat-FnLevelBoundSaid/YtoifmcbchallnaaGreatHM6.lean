/- Helper of the proof (see the last text). -/
import Derived.Test.YtoifmcbchallnaaGreatHM5
set_option linter.unusedVariables false
set_option linter.unusedSimpArgs false
namespace Go.LN
open Go.Proofs
set_option maxRecDepth 20000
def rA (r:(List zQ)×Bool):KT:=fun kk I' hs' v=>
  ∃ v0 v1,hs'=[]∧v=tupV [v0,v1]∧SL I' v0 r.1∧v1=.bool r.2
def wO (p:zK) (t26:Int) (x:zM) (x1:(List Int)) (out4:List zQ) (t64:Int):Option (Out (List zQ) ((List zQ)×Bool)):=do
 if (decide (t64 < (x.Body.length:Int))) then
  let x2←idx x.Body t64
  let y7←rW p x2 x1
  if (!y7) then
   pure (.ret (([]:List zQ),false))
  else
   let y8←sB x1
   let out6←app 40 out4 ([(zQ.mk t26 t64 y8)]:List zQ)
   wO p t26 x x1 out6 (W (t64 + 1))
 else
  pure (.done out4)
 partial_fixpoint
theorem jX (p:zK) (t26:Int) (x:zM) (x1:(List Int)):∀ (out4:List zQ) (t64:Int) (o:Out (List zQ) ((List zQ)×Bool)),wO p t26 x x1 out4 t64=some o→∀ {B}{I0 I:Imm}{Q}{y2:(List (List Int))}{t54:Int}{p1 c p2 c1}{b:Nat}{p5 c4 p6 c5}{b1:Nat}{p7 c6 p14 c13 p15 c14 cs4},I0.le I→(S4 I p5 x.Nest c4)→(S4 I p6 x.Body c5)→(At I ⟨b1,0,none⟩ (cPart x p5 c4 p6 c5))→(S4 I p14 x1 c13)→(S4 I p2 p.Parts c1)→(S4 I p7 y2 c6)→(S4 I p1 p.Arrays c)→(RL I cs4 out4)→NG Q→NO Q→(∀ (I':Imm) (out5:List zQ) (p16:Option Addr) (c15:Nat) (cs5:List Value),o=(.done out5)→I0.le I'→(RL I' cs5 out5)→T 89 B Q (.exit 4) I' [hO zQ (vS p16 out5 c15) cs5,hB b (cProg p p1 c p2 c1)] [(1,vP b 0),(4,vS p16 out5 c15),(5,vI t26),(6,vP b1 0),(24,vS p2 p.Parts c1),(25,vI (p.Parts.length:Int)),(26,vI t26),(52,vS p7 y2 c6),(53,vI (y2.length:Int)),(54,vI t54)])→(∀ r I' hs' m',o=(.ret r)→I0.le I'→RS Tryz.prog Tryz.f43 B (rA  r) I' hs' m'→T 89 B Q .ret I' hs' m')→J Tryz.prog 89 B (nav (bodyOf Tryz.f43) [1,1,1,0,1,0,0,1,1,0,0,1,1,1,1,0,0,1,1,0,0,1,1,1,0]) Q I [hO zQ (vS p15 out4 c14) cs4,hB b (cProg p p1 c p2 c1)] [(1,vP b 0),(4,vS p15 out4 c14),(5,vI t26),(6,vP b1 0),(10,vS p14 x1 c13),(24,vS p2 p.Parts c1),(25,vI (p.Parts.length:Int)),(26,vI t26),(52,vS p7 y2 c6),(53,vI (y2.length:Int)),(54,vI t54),(62,vS p6 x.Body c5),(63,vI (x.Body.length:Int)),(64,vI t64)]:=by
 refine wO.partial_correctness p t26 x x1 _ ?_;intro self ih out4 t64 o N B I0 I Q y2 t54 p1 c p2 c1 b p5 c4 p6 c5 b1 p7 c6 p14 c13 p15 c14 cs4 H h6 h7 hat1 h18 h1 h8 h h20 hg ho hx hr;refine xE hg ho<|yG [(65,.bool (decide (t64 < (x.Body.length:Int))))]<|yI<|yO N ?_ ?_
 · intro hc8 N;refine zY<|yI<|zV<|yP<|yH 1 [] [(66,vI t64)] ?_;obtain ⟨x2,hy7,N⟩:=zB N;refine xX rfl rfl h7 hy7 ?_;intro ad2 ccs2 hat3 hrep2;obtain ⟨v013,v014,v015,v016,rfl,h22,h23,h24,h25⟩:=wA hrep2;obtain ⟨p17,c16,rfl⟩:=h22.form;obtain ⟨p18,c17,rfl⟩:=h23.form;obtain ⟨p19,c18,rfl⟩:=h24.form;obtain ⟨p20,c19,rfl⟩:=h25.form;refine xT 0 hat3 (cStmt x2 p17 c16 p18 c17 p19 c18 p20 c19) (vA (cStmt x2 p17 c16 p18 c17 p19 c18 p20 c19)) rfl<|uO [vT ([]),z0,vI 0,vI 0,z0,vI 0,vT ([]),z0,z0] ?_;intro b2 hb2;refine yH 5 [] [(11,vI t64)]<|xP 0 (cStmt x2 p17 c16 p18 c17 p19 c18 p20 c19) [hB b2 (cStmt x2 p17 c16 p18 c17 p19 c18 p20 c19),hO zQ (vS p15 out4 c14) cs4,hB b (cProg p p1 c p2 c1)] rfl rfl rfl rfl<|yN rfl<|yI<|yP<|yH 3 [2,0] [(69,vA (cProg p p1 c p2 c1)),(70,vA (cStmt x2 p17 c16 p18 c17 p19 c18 p20 c19)),(71,vS p14 x1 c13)] ?_;obtain ⟨y7,hy8,N⟩:=zB N;refine yQ (dE p x2 x1 _ hy8 h h1 h22 h23 h24 h25 h18) ?_;rintro I08 hs2 v2 k2 le8 - ⟨v017,rfl,rfl,rfl⟩ -;have h20:=iM le8 h20;have h6:=h6.mono le8;have h7:=h7.mono le8;have hat1:=hat1.mono le8;have h18:=h18.mono le8;have h1:=h1.mono le8;have h8:=h8.mono le8;have h:=h.mono le8;have H:=H.trans le8;refine yF [] [(73,.bool (!y7))]<|zD<|yO N ?_ ?_
   · intro hc9 N;exact yG [(2,z0),(3,vF)]<|zD<|yC<|zN<|yA<|zN<|zN<|hr _ _ _ _ (zC N).symm H ⟨_,_,(.tmp rfl (.tmp rfl ResV.nil)),yE,⟨_,_,rfl,rfl,(SL.nil _),rfl⟩⟩
   intro hc9 N;refine zY<|zD<|zR<|yH 4 [] [(74,vS p15 out4 c14),(75,vI t26),(76,vI t64),(77,vS p14 x1 c13)] ?_;obtain ⟨y8,hy9,N⟩:=zB N;refine yQ (nN x1 _ hy9 h18) ?_;rintro I09 hs2 v2 k2 le9 - ⟨p21,c20,cs6,rfl,rfl,h27⟩ -;have h6:=h6.mono le9;have h7:=h7.mono le9;have hat1:=hat1.mono le9;have h18:=h18.mono le9;have h1:=h1.mono le9;have h8:=h8.mono le9;have h20:=iM le9 h20;have h:=h.mono le9;have H:=H.trans le9;refine yH 6 [] [(79,vA [vI t26,vI t64,vS p21 y8 c20])]<|yK 0 rfl ?_;intro I010 le10 hl01;have h28:=SL.of_frozen hl01 le10 h27;have h6:=h6.mono le10;have h7:=h7.mono le10;have hat1:=hat1.mono le10;have h18:=h18.mono le10;have h1:=h1.mono le10;have h8:=h8.mono le10;have h20:=iM le10 h20;have h:=h.mono le10;have H:=H.trans le10;refine xW [vI t26,vI t64,vS p21 y8 c20] zQ ?_;intro b3 hb3;have h29:RL I010 [vI t26,vI t64,vS p21 y8 c20] ([(zQ.mk t26 t64 y8)]:List zQ):=⟨[vI t26,vI t64,vS p21 y8 c20],_,rfl,rfl,(gL ⟨_,rfl,h28⟩),rfl⟩;obtain ⟨out6,hy10,N⟩:=zB N;refine qU 80 3 2 rfl rfl rfl h20 (.inr ⟨0,rfl⟩) h29 hy10 ?_;intro p22 c21 cs7 h30;exact rV (zH [1,2,3] (hs':=[hB b2 (cStmt x2 p17 c16 p18 c17 p19 c18 p20 c19),hO zQ (vS p22 out6 c21) cs7,hB b (cProg p p1 c p2 c1)]) rfl (by decide))<|yF [] [(4,vS p22 out6 c21)]<|zU<|zD<|zR<|yF [] [(64,vI (W (t64 + 1)))]<|xF<|qT (zH [1,2] rfl (by decide))<|vE [(1,vP b 0),(4,vS p22 out6 c21),(5,vI t26),(6,vP b1 0),(10,vS p14 x1 c13),(24,vS p2 p.Parts c1),(25,vI (p.Parts.length:Int)),(26,vI t26),(52,vS p7 y2 c6),(53,vI (y2.length:Int)),(54,vI t54),(62,vS p6 x.Body c5),(63,vI (x.Body.length:Int)),(64,vI (W (t64 + 1)))]<|ih out6 (W (t64 + 1)) _ N H h6 h7 hat1 h18 h1 h8 h h30 hg ho hx hr
 intro hc8 N;exact xA<|zO<|zO<|yU [(1,vP b 0),(4,vS p15 out4 c14),(5,vI t26),(6,vP b1 0),(24,vS p2 p.Parts c1),(25,vI (p.Parts.length:Int)),(26,vI t26),(52,vS p7 y2 c6),(53,vI (y2.length:Int)),(54,vI t54)]<|hx _ _ _ _ _ (zC N).symm H h20
def wP (p:zK) (t26:Int) (x:zM) (y2:(List (List Int))) (out2:List zQ) (t54:Int):Option (Out (List zQ) ((List zQ)×Bool)):=do
 if (decide (t54 < (y2.length:Int))) then
  let x1←idx y2 t54
  let y6←mX x1
  if (!y6) then
   pure (.ret (([]:List zQ),false))
  else
   match←wO p t26 x x1 out2 0 with
   | .ret r0=>pure (.ret r0)
   | .done out5 =>
    wP p t26 x y2 out5 (W (t54 + 1))
 else
  pure (.done out2)
 partial_fixpoint
theorem jY (p:zK) (t26:Int) (x:zM) (y2:(List (List Int))):∀ (out2:List zQ) (t54:Int) (o:Out (List zQ) ((List zQ)×Bool)),wP p t26 x y2 out2 t54=some o→∀ {B}{I0 I:Imm}{Q p1 c p2 c1}{b:Nat}{p5 c4 p6 c5}{b1:Nat}{p7 c6 p12 c11 cs2},I0.le I→(S4 I p5 x.Nest c4)→(S4 I p6 x.Body c5)→(At I ⟨b1,0,none⟩ (cPart x p5 c4 p6 c5))→(S4 I p2 p.Parts c1)→(S4 I p7 y2 c6)→(S4 I p1 p.Arrays c)→(RL I cs2 out2)→NG Q→NO Q→(∀ (I':Imm) (out3:List zQ) (p13:Option Addr) (c12:Nat) (cs3:List Value),o=(.done out3)→I0.le I'→(RL I' cs3 out3)→T 89 B Q (.exit 2) I' [hO zQ (vS p13 out3 c12) cs3,hB b (cProg p p1 c p2 c1)] [(1,vP b 0),(4,vS p13 out3 c12),(24,vS p2 p.Parts c1),(25,vI (p.Parts.length:Int)),(26,vI t26)])→(∀ r I' hs' m',o=(.ret r)→I0.le I'→RS Tryz.prog Tryz.f43 B (rA  r) I' hs' m'→T 89 B Q .ret I' hs' m')→J Tryz.prog 89 B (nav (bodyOf Tryz.f43) [1,1,1,0,1,0,0,1,1,0,0,1,1,1,1,0]) Q I [hO zQ (vS p12 out2 c11) cs2,hB b (cProg p p1 c p2 c1)] [(1,vP b 0),(4,vS p12 out2 c11),(5,vI t26),(6,vP b1 0),(24,vS p2 p.Parts c1),(25,vI (p.Parts.length:Int)),(26,vI t26),(52,vS p7 y2 c6),(53,vI (y2.length:Int)),(54,vI t54)]:=by
 refine wP.partial_correctness p t26 x y2 _ ?_;intro self ih out2 t54 o N B I0 I Q p1 c p2 c1 b p5 c4 p6 c5 b1 p7 c6 p12 c11 cs2 H h6 h7 hat1 h1 h8 h h16 hg ho hx hr;refine xE hg ho<|yG [(55,.bool (decide (t54 < (y2.length:Int))))]<|yI<|yO N ?_ ?_
 · intro hc6 N;refine zY<|yI<|zV<|yJ<|zR ?_;obtain ⟨x1,hy5,N⟩:=zB N;refine xX rfl rfl h8 hy5 ?_;intro ad1 ccs1 hat2 hrep1;obtain ⟨v011,rfl,h18⟩:=hrep1;obtain ⟨p14,c13,rfl⟩:=h18.form;refine xT 0 hat2 [vS p14 x1 c13] (vS p14 x1 c13) rfl<|yF [] [(10,vS p14 x1 c13)]<|yI<|yP<|yH 1 [] [(58,vS p14 x1 c13)] ?_;obtain ⟨y6,hy6,N⟩:=zB N;refine yQ (zDK x1 _ hy6 h18) ?_;rintro I07 hs2 v2 k2 le7 - ⟨v012,rfl,rfl,rfl⟩ -;have h16:=iM le7 h16;have h6:=h6.mono le7;have h7:=h7.mono le7;have hat1:=hat1.mono le7;have h18:=h18.mono le7;have h1:=h1.mono le7;have h8:=h8.mono le7;have h:=h.mono le7;have H:=H.trans le7;refine yF [] [(60,.bool (!y6))]<|zD<|yO N ?_ ?_
   · intro hc7 N;exact yG [(2,z0),(3,vF)]<|zD<|yC<|zN<|yA<|zN<|zN<|hr _ _ _ _ (zC N).symm H ⟨_,_,(.tmp rfl (.tmp rfl ResV.nil)),yE,⟨_,_,rfl,rfl,(SL.nil _),rfl⟩⟩
   intro hc7 N;refine zY<|xQ<|yH 1 [] [(61,vP b1 1)]<|xT 1 hat1 [vS p6 x.Body c5] (vS p6 x.Body c5) rfl<|yF [] [(63,vI (x.Body.length:Int)),(64,vI 0)]<|zD<|zV<|vE [(1,vP b 0),(4,vS p12 out2 c11),(5,vI t26),(6,vP b1 0),(10,vS p14 x1 c13),(24,vS p2 p.Parts c1),(25,vI (p.Parts.length:Int)),(26,vI t26),(52,vS p7 y2 c6),(53,vI (y2.length:Int)),(54,vI t54),(62,vS p6 x.Body c5),(63,vI (x.Body.length:Int)),(64,vI 0)] ?_;obtain ⟨o02,ho02,hMl⟩:=zB N;refine jX p t26 x x1 out2 0 o02 ho02 iR h6 h7 hat1 h18 h1 h8 h h16 (fun _ _ _ h=>hg _ _ _ h) (fun _ _ h=>ho _ _ h) ?_ ?_
   · intro I011 out5 p16 c15 cs5 heq2 le11 h21;subst o02;have h6:=h6.mono le11;have h7:=h7.mono le11;have hat1:=hat1.mono le11;have h1:=h1.mono le11;have h8:=h8.mono le11;have h:=h.mono le11;have H:=H.trans le11;exact zW<|zU<|zD<|zR<|yF [] [(54,vI (W (t54 + 1)))]<|xF<|vE [(1,vP b 0),(4,vS p16 out5 c15),(5,vI t26),(6,vP b1 0),(24,vS p2 p.Parts c1),(25,vI (p.Parts.length:Int)),(26,vI t26),(52,vS p7 y2 c6),(53,vI (y2.length:Int)),(54,vI (W (t54 + 1)))]<|ih out5 (W (t54 + 1)) _ hMl H h6 h7 hat1 h1 h8 h h21 hg ho hx hr
   intro r0 I9 hs9 m9 heq9 le9 hrs9;subst heq9;exact yA<|yA<|zN<|zN<|hr _ _ _ _ (zC hMl).symm (H.trans le9) hrs9
 intro hc6 N;exact xA<|zO<|zO<|yU [(1,vP b 0),(4,vS p12 out2 c11),(24,vS p2 p.Parts c1),(25,vI (p.Parts.length:Int)),(26,vI t26)]<|hx _ _ _ _ _ (zC N).symm H h16
def wQ (p:zK) (out:List zQ) (t26:Int):Option (Out (List zQ) ((List zQ)×Bool)):=do
 if (decide (t26 < (p.Parts.length:Int))) then
  let x←idx p.Parts t26
  let (y2,y3)←oQ x.Nest
  let t51←(do
    if (!y3) then
     pure true
    else
     let y4←wE (x.Body.length:Int) 1 4
     if (!y4) then
      pure true
     else
      let y5←xV x.Body (fun x0=>wW x0 x)
      pure (id y5)
      : Option Bool)
  if t51 then
   pure (.ret (([]:List zQ),false))
  else
   match←wP p t26 x y2 out 0 with
   | .ret r0=>pure (.ret r0)
   | .done out3 =>
    wQ p out3 (W (t26 + 1))
 else
  pure (.done out)
 partial_fixpoint
theorem jZ (p:zK):∀ (out:List zQ) (t26:Int) (o:Out (List zQ) ((List zQ)×Bool)),wQ p out t26=some o→∀ {B}{I0 I:Imm}{Q p1 c p2 c1}{b:Nat}{p3 c2 cs},I0.le I→(S4 I p2 p.Parts c1)→(S4 I p1 p.Arrays c)→(RL I cs out)→NG Q→NO Q→(∀ (I':Imm) (out1:List zQ) (p4:Option Addr) (c3:Nat) (cs1:List Value),o=(.done out1)→I0.le I'→(RL I' cs1 out1)→T 89 B Q (.exit 0) I' [hO zQ (vS p4 out1 c3) cs1] [(4,vS p4 out1 c3)])→(∀ r I' hs' m',o=(.ret r)→I0.le I'→RS Tryz.prog Tryz.f43 B (rA  r) I' hs' m'→T 89 B Q .ret I' hs' m')→J Tryz.prog 89 B (nav (bodyOf Tryz.f43) [1,1,1,0,1,0]) Q I [hO zQ (vS p3 out c2) cs,hB b (cProg p p1 c p2 c1)] [(1,vP b 0),(4,vS p3 out c2),(24,vS p2 p.Parts c1),(25,vI (p.Parts.length:Int)),(26,vI t26)]:=by
 refine wQ.partial_correctness p _ ?_;intro self ih out t26 o N B I0 I Q p1 c p2 c1 b p3 c2 cs H h1 h h4 hg ho hx hr;refine xE hg ho<|yG [(27,.bool (decide (t26 < (p.Parts.length:Int))))]<|yI<|yO N ?_ ?_
 · intro hc2 N;refine zY<|yI<|zV<|yP<|yH 1 [] [(28,vI t26)] ?_;obtain ⟨x,hy1,N⟩:=zB N;refine xX rfl rfl h1 hy1 ?_;intro ad ccs hat hrep;obtain ⟨v01,v02,rfl,h6,h7⟩:=wT hrep;obtain ⟨p5,c4,rfl⟩:=h6.form;obtain ⟨p6,c5,rfl⟩:=h7.form;refine xT 0 hat (cPart x p5 c4 p6 c5) (vA (cPart x p5 c4 p6 c5)) rfl<|uO zTwo ?_;intro b1 hb1;refine yH 5 [] [(5,vI t26)]<|xP 0 (cPart x p5 c4 p6 c5) [hB b1 (cPart x p5 c4 p6 c5),hO zQ (vS p3 out c2) cs,hB b (cProg p p1 c p2 c1)] rfl rfl rfl rfl<|yN rfl<|xQ<|yH 2 [0] [(33,vS p5 x.Nest c4)] ?_;obtain ⟨⟨y2,y3⟩,hy2,N⟩:=zB N;refine yQ (zBO x.Nest _ hy2 h6) ?_;rintro I02 hs2 v2 k2 le2 - ⟨v03,v04,rfl,rfl,h8,rfl⟩ -;have h4:=iM le2 h4;have h1:=h1.mono le2;have h6:=h6.mono le2;have h7:=h7.mono le2;have h:=h.mono le2;have H:=H.trans le2;obtain ⟨p7,c6,rfl⟩:=h8.form;refine yF [] [(7,vS p7 y2 c6),(8,.bool y3)]<|yI<|yJ<|pX 0 rfl ?_;intro I03 le3 hl0;have hat1:At I03 ⟨b1,0,none⟩ (cPart x p5 c4 p6 c5):=At.of_blk hl0;have h4:=iM le3 h4;have h6:=h6.mono le3;have h7:=h7.mono le3;have h8:=h8.mono le3;have h1:=h1.mono le3;have h:=h.mono le3;have H:=H.trans le3;obtain ⟨o01,ho01,hMc1⟩:=zB N;refine yV (fun I' hs' m'=>∃ (t51:Bool),o01=t51∧I03.le I'∧hs'=[hO zQ (vS p3 out c2) cs,hB b (cProg p p1 c p2 c1)]∧m'=[(1,vP b 0),(4,vS p3 out c2),(5,vI t26),(6,vP b1 0),(7,vS p7 y2 c6),(24,vS p2 p.Parts c1),(25,vI (p.Parts.length:Int)),(26,vI t26),(51,.bool t51)]) ?_ ?_
   · have H:=iS I03;refine zR<|yH 3 [] [(39,.bool (!y3))] ?_;cases hc3:(!y3) with
     | true =>
      have hM02:=zT hc3 ho01
      try rw [hc3]
      exact yF [] [(51,vY)]<|yU [(1,vP b 0),(4,vS p3 out c2),(5,vI t26),(6,vP b1 0),(7,vS p7 y2 c6),(24,vS p2 p.Parts c1),(25,vI (p.Parts.length:Int)),(26,vI t26),(51,vY)]<|zX ⟨_,(zC hM02).symm,H,rfl,rfl⟩
     | false =>
      have hM03:=zS hc3 ho01
      try rw [hc3]
      refine yH 4 [] [(40,vP b1 1)]<|xT 1 hat1 [vS p6 x.Body c5] (vS p6 x.Body c5) rfl<|yH 6 [] [(42,vI (x.Body.length:Int))] ?_;obtain ⟨y4,hy3,N⟩:=zB hM03;refine yQ (wV (x.Body.length:Int) 1 4 _ hy3 ) ?_;rintro I05 hs2 v2 k2 le4 - ⟨v05,rfl,rfl,rfl⟩ -;have h6:=h6.mono le4;have h7:=h7.mono le4;have hat1:=hat1.mono le4;have h:=h.mono le4;have H:=H.trans le4;refine yH 10 [] [(46,.bool (!y4))] ?_;cases hc4:(!y4) with
      | true =>
       have hM04:=zT hc4 N
       try rw [hc4]
       exact yF [] [(51,vY)]<|yU [(1,vP b 0),(4,vS p3 out c2),(5,vI t26),(6,vP b1 0),(7,vS p7 y2 c6),(24,vS p2 p.Parts c1),(25,vI (p.Parts.length:Int)),(26,vI t26),(51,vY)]<|zX ⟨_,(zC hM04).symm,H,rfl,rfl⟩
      | false =>
       have hM05:=zS hc4 N
       try rw [hc4]
       refine yH 11 [] [(47,vP b1 1)]<|xT 1 hat1 [vS p6 x.Body c5] (vS p6 x.Body c5) rfl<|yH 13 [] [(49,.func (.func 69) ⟨[]⟩ ⟨[vP b1 0]⟩)] ?_;have hf0:FV1 Tryz.prog I05 [] (.func (.func 69) ⟨[]⟩ ⟨[vP b1 0]⟩) (fun x0=>wW x0 x):=by
         refine FV1.intro ?_;intro I1 le1 x0 r u0 hF k0;obtain ⟨_,rfl,k0⟩:=k0;obtain ⟨v06,v07,v08,v09,rfl,h11,h12,h13,h14⟩:=wA k0;obtain ⟨p8,c7,rfl⟩:=h11.form;obtain ⟨p9,c8,rfl⟩:=h12.form;obtain ⟨p10,c9,rfl⟩:=h13.form;obtain ⟨p11,c10,rfl⟩:=h14.form;exact (gG x0 x r hF h11 h12 h13 h14 (h6.mono le1) (h7.mono le1) (hat1.mono le1)).mono (by rintro k i hs u ⟨v0,rfl,rfl,h⟩; exact ⟨rfl,h⟩)
       obtain ⟨y5,hy4,N⟩:=zB hM05;refine yQ (mB x.Body (fun x0=>wW x0 x) _ hy4 h7 hf0) ?_;rintro I06 hs2 v2 k2 le5 - ⟨v010,rfl,rfl,rfl⟩ -;have H:=H.trans le5;exact yF [] [(51,.bool y5)]<|yU [(1,vP b 0),(4,vS p3 out c2),(5,vI t26),(6,vP b1 0),(7,vS p7 y2 c6),(24,vS p2 p.Parts c1),(25,vI (p.Parts.length:Int)),(26,vI t26),(51,.bool y5)]<|zX ⟨_,(zC N).symm,H,rfl,rfl⟩
   rintro I04 hs2 m2 ⟨t51,heq1,le6,rfl,rfl⟩;subst o01;have h4:=iM le6 h4;have h6:=h6.mono le6;have h7:=h7.mono le6;have hat1:=hat1.mono le6;have h8:=h8.mono le6;have h1:=h1.mono le6;have h:=h.mono le6;have H:=H.trans le6;refine zD<|yO hMc1 ?_ ?_
   · intro hc5 N;exact yG [(2,z0),(3,vF)]<|zD<|yC<|zN<|yA<|zN<|zN<|hr _ _ _ _ (zC N).symm H ⟨_,_,(.tmp rfl (.tmp rfl ResV.nil)),yE,⟨_,_,rfl,rfl,(SL.nil _),rfl⟩⟩
   intro hc5 N;refine zY<|wX [(52,vS p7 y2 c6),(53,vI (y2.length:Int)),(54,vI 0)]<|zD<|zV<|vE [(1,vP b 0),(4,vS p3 out c2),(5,vI t26),(6,vP b1 0),(24,vS p2 p.Parts c1),(25,vI (p.Parts.length:Int)),(26,vI t26),(52,vS p7 y2 c6),(53,vI (y2.length:Int)),(54,vI 0)] ?_;obtain ⟨o03,ho03,hMl1⟩:=zB N;refine jY p t26 x y2 out 0 o03 ho03 iR h6 h7 hat1 h1 h8 h h4 (fun _ _ _ h=>hg _ _ _ h) (fun _ _ h=>ho _ _ h) ?_ ?_
   · intro I012 out3 p13 c12 cs3 heq3 le12 h17;subst o03;have h1:=h1.mono le12;have h:=h.mono le12;have H:=H.trans le12;exact zW<|zU<|zD<|zR<|yF [] [(26,vI (W (t26 + 1)))]<|xF<|vE [(1,vP b 0),(4,vS p13 out3 c12),(24,vS p2 p.Parts c1),(25,vI (p.Parts.length:Int)),(26,vI (W (t26 + 1)))]<|ih out3 (W (t26 + 1)) _ hMl1 H h1 h h17 hg ho hx hr
   intro r0 I9 hs9 m9 heq9 le9 hrs9;subst heq9;exact yA<|yA<|zN<|zN<|hr _ _ _ _ (zC hMl1).symm (H.trans le9) hrs9
 intro hc2 N;exact xA<|zO<|zO<|wJ (zH [0] rfl (by decide))<|yU [(4,vS p3 out c2)]<|hx _ _ _ _ _ (zC N).symm H h4
def tC (p:zK):Option ((List zQ)×Bool):=do
 let t22←(do
   let y←mF p.Arrays
   if (!y) then
    pure true
   else
    pure (decide ((p.Parts.length:Int) > 4))
     : Option Bool)
 if t22 then
  pure (([]:List zQ),false)
 else
  match←wQ p ([]:List zQ) 0 with
  | .ret r0=>pure r0
  | .done out1 =>
   pure (out1,(decide ((out1.length:Int) ≤ 120)))
theorem kG:∀ (p:zK) r,tC p=some r→∀ {I:Imm}{p1 c p2 c1},(S4 I p1 p.Arrays c)→(S4 I p2 p.Parts c1)→Ret Tryz.prog 43 [vA (cProg p p1 c p2 c1)] I [] (rA  r):=by
 intro p r N I p1 c p2 c1 h h1;unfold tC at N;refine yB (fn:=Tryz.f43) (c:=(bodyOf Tryz.f43)) Tryz.func43 rfl rfl ?_;rintro B - -;have H:=iS I;refine yP<|tM (cProg p p1 c p2 c1) ?_;intro b hb;refine yF [] []<|yI<|yJ ?_;obtain ⟨o0,ho0,hMc⟩:=zB N;refine yV (fun I' hs' m'=>∃ (t22:Bool),o0=t22∧I.le I'∧hs'=[hB b (cProg p p1 c p2 c1)]∧m'=[(1,vP b 0),(22,.bool t22)]) ?_ ?_
 · have H:=iS I;refine zR<|yH 2 [0] [(14,vS p1 p.Arrays c)] ?_;obtain ⟨y,hy,N⟩:=zB ho0;refine yQ (zCf p.Arrays _ hy h) ?_;rintro I01 hs2 v2 k2 le - ⟨v0,rfl,rfl,rfl⟩ -;have H:=H.trans le;refine yH 5 [] [(17,.bool (!y))] ?_;cases hc:(!y) with
   | true =>
    have hM0:=zT hc N
    try rw [hc]
    exact yF [] [(22,vY)]<|yU [(1,vP b 0),(22,vY)]<|zX ⟨_,(zC hM0).symm,H,rfl,rfl⟩
   | false =>
    have hM01:=zS hc N
    try rw [hc]
    exact yF [0] [(22,.bool (decide ((p.Parts.length:Int) > 4)))]<|yU [(1,vP b 0),(22,.bool (decide ((p.Parts.length:Int) > 4)))]<|zX ⟨_,(zC hM01).symm,H,rfl,rfl⟩
 rintro I0 hs2 m2 ⟨t22,heq,le1,rfl,rfl⟩;subst o0;have h:=h.mono le1;have h1:=h1.mono le1;refine zD<|yO hMc ?_ ?_
 · intro hc1 N;refine yG [(2,z0),(3,vF)]<|zD<|yC<|zN ?_;obtain rfl:=zC N;exact xM ⟨_,_,(.tmp rfl (.tmp rfl ResV.nil)),yE,⟨_,_,rfl,rfl,(SL.nil _),rfl⟩⟩
 intro hc1 N;refine zY<|wX [(4,z0)]<|yI<|yP<|yF [0] [(24,vS p2 p.Parts c1),(25,vI (p.Parts.length:Int)),(26,vI 0)]<|zD<|zV<|vE [(1,vP b 0),(4,z0),(24,vS p2 p.Parts c1),(25,vI (p.Parts.length:Int)),(26,vI 0)]<|qT (uN (Rp.sz zQ)) ?_;have h3:RL I0 [] ([]:List zQ):=RepL.nil;obtain ⟨o04,ho04,hMl2⟩:=zB N;refine jZ p ([]:List zQ) 0 o04 ho04 iR h1 h h3 (fun _ _ _ h=>h) (fun _ _ h=>h) ?_ ?_
 · intro I013 out1 p4 c3 cs1 heq4 le13 h5;subst o04;refine zW<|wX [(2,vS p4 out1 c3),(3,.bool (decide ((out1.length:Int) ≤ 120)))]<|zD<|yC<|xL 0 rfl ?_;intro I014 le14 hl02;have h31:=SL.of_frozen hl02 le14 h5;obtain rfl:=zC hMl2;exact xM ⟨_,_,(.tmp rfl (.tmp rfl ResV.nil)),yE,⟨_,_,rfl,rfl,h31,rfl⟩⟩
 intro r0 I9 hs9 m9 heq9 le9 hrs9;subst heq9;refine yA<|zN ?_;obtain rfl:=zC hMl2;exact xM hrs9
def dF (r:zP):KT:=fun kk I' hs' v=>
  ∃ v0,hs'=[]∧v=tupV [v0]∧(∃ cs,v0=.agg ⟨cs⟩∧Rp.rep I' cs r)
def nG (p:zK) (x:zQ):Option (zP):=do
 let x1←idx p.Parts x.Part
 let x2←idx x1.Body x.Stmt
 pure (id x2)
theorem zAX:∀ (p:zK) (x:zQ) r,nG p x=some r→∀ {I:Imm}{p1 c p2 c1 p3 c2},(S4 I p1 p.Arrays c)→(S4 I p2 p.Parts c1)→(S4 I p3 x.Point c2)→Ret Tryz.prog 97 [vA (cProg p p1 c p2 c1),vA (cInst x p3 c2)] I [] (dF  r):=by
 intro p x r N I p1 c p2 c1 p3 c2 h h1 h2;unfold nG at N;refine yB (fn:=Tryz.f97) (c:=(bodyOf Tryz.f97)) Tryz.func97 rfl rfl ?_;rintro B - -;refine yP<|tM (cProg p p1 c p2 c1) ?_;intro b hb;refine tM (cInst x p3 c2) ?_;intro b1 hb1;refine uO [vT ([]),z0,vI 0,vI 0,z0,vI 0,vT ([]),z0,z0] ?_;intro b2 hb2;refine yN rfl<|zD<|yJ ?_;obtain ⟨x1,hy,N⟩:=zB N;obtain ⟨x2,hy1,N⟩:=zB N;refine vR [.p (vP b 1) [],.p (vS p2 p.Parts c1) [2],.p (vP b1 0) [],.p (vI x.Part) [1],.x (fun I' v hx=>∃ ad p4 c3 p5 c4,v=.pointer (some ad)∧hx=[]∧(At I' ad (cPart x1 p4 c3 p5 c4))∧(S4 I' p4 x1.Nest c3)∧(S4 I' p5 x1.Body c4)),.x (fun I' v hx=>∃ ad1 p41 c31 p51 c41,v=.pointer (some (ad1.add 1))∧hx=[]∧(At I' ad1 (cPart x1 p41 c31 p51 c41))∧(S4 I' p41 x1.Nest c31)∧(S4 I' p51 x1.Body c41)),.x (fun I' v hx=>∃ p511 c411,v=vS p511 x1.Body c411∧hx=[]∧(S4 I' p511 x1.Body c411)),.p (vP b1 1) [],.p (vI x.Stmt) [1],.x (fun I' v hx=>∃ ad2 p6 c5 p7 c6 p8 c7 p9 c8,v=.pointer (some ad2)∧hx=[]∧(At I' ad2 (cStmt x2 p6 c5 p7 c6 p8 c7 p9 c8))∧(S4 I' p6 x2.Write.Subs c5)∧(S4 I' p7 x2.Value.Index.Coefs c6)∧(S4 I' p8 x2.Value.Read.Subs c7)∧(S4 I' p9 x2.Value.Kids c8)),.x (fun I' v hx=>∃ p61 c51 p71 c61 p81 c71 p91 c81,v=vA (cStmt x2 p61 c51 p71 c61 p81 c71 p91 c81)∧hx=[]∧(S4 I' p61 x2.Write.Subs c51)∧(S4 I' p71 x2.Value.Index.Coefs c61)∧(S4 I' p81 x2.Value.Read.Subs c71)∧(S4 I' p91 x2.Value.Kids c81))] [[],[(0,false)],[],[(2,false)],[(1,false),(3,false)],[(4,false)],[(5,false)],[],[(7,false)],[(6,false),(8,false)],[(9,false)]] [hB b2 [vT ([]),z0,vI 0,vI 0,z0,vI 0,vT ([]),z0,z0],hB b1 (cInst x p3 c2),hB b (cProg p p1 c p2 c1)] [] [(10,false)] (zH [0,1,2] rfl (by decide)) ?_ ?_
 · refine Op<|Op<|Op<|Op<|Ox ?_<|Ox ?_<|Ox ?_<|Op<|Op<|Ox ?_<|Ox ?_<|On
   · intro I1 hf le1;refine yT [(6,vS p2 p.Parts c1),(8,vI x.Part)] ?_;have h1:=h1.mono le1;refine xX rfl rfl h1 hy ?_;intro ad ccs hat hrep;obtain ⟨v0,v01,rfl,h3,h4⟩:=wT hrep;obtain ⟨p4,c3,rfl⟩:=h3.form;obtain ⟨p5,c4,rfl⟩:=h4.form;exact yS [] iR ⟨_,_,_,_,_,rfl,rfl,hat,h3,h4⟩
   · intro I1 hf le1;refine zI ?_;rintro _ _ ⟨ad,p4,c3,p5,c4,rfl,rfl,hat,h3,h4⟩;exact yT [(9,.pointer (some ad))]<|qY 6 [(10,.pointer (some (ad.add 1)))]<|yS [] iR ⟨_,_,_,_,_,rfl,rfl,hat,h3,h4⟩
   · intro I1 hf le1;refine zI ?_;rintro _ _ ⟨ad1,p41,c31,p51,c41,rfl,rfl,hat1,h31,h41⟩;exact yT [(10,.pointer (some (ad1.add 1)))]<|xT 1 hat1 [vS p51 x1.Body c41] (vS p51 x1.Body c41) rfl<|yS [] iR ⟨_,_,rfl,rfl,h41⟩
   · intro I1 hf le1;refine zI ?_;rintro _ _ ⟨p511,c411,rfl,rfl,h411⟩;refine yT [(11,vS p511 x1.Body c411),(13,vI x.Stmt)]<|xX rfl rfl h411 hy1 ?_;intro ad2 ccs1 hat2 hrep1;obtain ⟨v02,v03,v04,v05,rfl,h5,h6,h7,h8⟩:=wA hrep1;obtain ⟨p6,c5,rfl⟩:=h5.form;obtain ⟨p7,c6,rfl⟩:=h6.form;obtain ⟨p8,c7,rfl⟩:=h7.form;obtain ⟨p9,c8,rfl⟩:=h8.form;exact yS [] iR ⟨_,_,_,_,_,_,_,_,_,rfl,rfl,hat2,h5,h6,h7,h8⟩
   intro I1 hf le1;refine zI ?_;rintro _ _ ⟨ad2,p6,c5,p7,c6,p8,c7,p9,c8,rfl,rfl,hat2,h5,h6,h7,h8⟩;exact yT [(14,.pointer (some ad2))]<|xT 0 hat2 (cStmt x2 p6 c5 p7 c6 p8 c7 p9 c8) (vA (cStmt x2 p6 c5 p7 c6 p8 c7 p9 c8)) rfl<|yS [] iR ⟨_,_,_,_,_,_,_,_,rfl,rfl,h5,h6,h7,h8⟩
 intro I0 le;refine zI ?_;rintro _ _ ⟨p61,c51,p71,c61,p81,c71,p91,c81,rfl,rfl,h51,h61,h71,h81⟩;refine yT [(4,vP b2 0),(15,vA (cStmt x2 p61 c51 p71 c61 p81 c71 p91 c81))] ?_;refine xP 0 (cStmt x2 p61 c51 p71 c61 p81 c71 p91 c81) [hB b2 (cStmt x2 p61 c51 p71 c61 p81 c71 p91 c81),hB b1 (cInst x p3 c2),hB b (cProg p p1 c p2 c1)] rfl rfl rfl rfl<|yN rfl<|zD<|yC ?_;obtain rfl:=zC N;exact xM ⟨_,_,(.cell 0 rfl rfl (by kernel_rfl) ResV.nil),yE,⟨_,rfl,rfl,⟨_,rfl,(wS ⟨_,_,_,_,rfl,h51,h61,h71,h81⟩)⟩⟩⟩
def fB (r:(List Int)×Int):KT:=fun kk I' hs' v=>
  ∃ v0 v1,hs'=[]∧v=tupV [v0,v1]∧SL I' v0 r.1∧v1=.int .i64 r.2
def wY (p:zK) (x:zQ) (y1:(List zJ)) (out:List Int) (t17:Int):Option (List Int):=do
 if (decide (t17 < (y1.length:Int))) then
  let x1←idx y1 t17
  let y2←tH p x1 x.Point
  let out2←app 8 out ([y2]:List Int)
  wY p x y1 out2 (W (t17 + 1))
 else
  pure (id out)
 partial_fixpoint
theorem gV (p:zK) (x:zQ) (y1:(List zJ)):∀ (out:List Int) (t17:Int) (o:List Int),wY p x y1 out t17=some o→∀ {B}{I0 I:Imm}{Q}{y:zP}{p1 c p2 c1 p3 c2}{b:Nat}{b1:Nat}{p4 c3 p5 c4 p6 c5 p7 c6}{b2:Nat}{p8 c7 p9 c8 cs1},I0.le I→(S4 I p8 y1 c7)→(S4 I p4 y.Write.Subs c3)→(S4 I p5 y.Value.Index.Coefs c4)→(S4 I p6 y.Value.Read.Subs c5)→(S4 I p7 y.Value.Kids c6)→(S4 I p3 x.Point c2)→(S4 I p1 p.Arrays c)→(S4 I p2 p.Parts c1)→(RL I cs1 out)→NG Q→NO Q→(∀ (I':Imm) (out1:List Int) (p10:Option Addr) (c9:Nat) (cs2:List Value),o=out1→I0.le I'→(RL I' cs2 out1)→T 37 B Q (.exit 0) I' [hO Int (vS p10 out1 c9) cs2,hB b2 (cStmt y p4 c3 p5 c4 p6 c5 p7 c6),hB b1 (cInst x p3 c2),hB b (cProg p p1 c p2 c1)] [(2,vP b 0),(3,vP b1 0),(6,vP b2 0),(7,vS p10 out1 c9)])→J Tryz.prog 37 B (nav (bodyOf Tryz.f65) [1,1,1,0,1,0]) Q I [hO Int (vS p9 out c8) cs1,hB b2 (cStmt y p4 c3 p5 c4 p6 c5 p7 c6),hB b1 (cInst x p3 c2),hB b (cProg p p1 c p2 c1)] [(2,vP b 0),(3,vP b1 0),(6,vP b2 0),(7,vS p9 out c8),(15,vS p8 y1 c7),(16,vI (y1.length:Int)),(17,vI t17)]:=by
 refine wY.partial_correctness p x y1 _ ?_;intro self ih out t17 o N B I0 I Q y p1 c p2 c1 p3 c2 b b1 p4 c3 p5 c4 p6 c5 p7 c6 b2 p8 c7 p9 c8 cs1 H h8 h4 h5 h6 h7 h2 h h1 h10 hg ho hx;refine xE hg ho<|yG [(18,.bool (decide (t17 < (y1.length:Int))))]<|yI<|yO N ?_ ?_
 · intro hc N;refine zY<|yI<|zV<|yJ<|zR ?_;obtain ⟨x1,hy2,N⟩:=zB N;refine xX rfl rfl h8 hy2 ?_;intro ad ccs hat hrep;obtain ⟨v06,rfl,h12⟩:=sW hrep;obtain ⟨p11,c10,rfl⟩:=h12.form;refine xT 0 hat (cAccess x1 p11 c10) (vA (cAccess x1 p11 c10)) rfl<|uO [vT ([]),z0] ?_;intro b3 hb3;refine xP 0 (cAccess x1 p11 c10) [hB b3 (cAccess x1 p11 c10),hO Int (vS p9 out c8) cs1,hB b2 (cStmt y p4 c3 p5 c4 p6 c5 p7 c6),hB b1 (cInst x p3 c2),hB b (cProg p p1 c p2 c1)] rfl rfl rfl rfl<|yN rfl<|zD<|zR<|yH 5 [4,0,3] [(21,vS p9 out c8),(22,vA (cProg p p1 c p2 c1)),(23,vA (cAccess x1 p11 c10)),(25,vS p3 x.Point c2)] ?_;obtain ⟨y2,hy3,N⟩:=zB N;refine yQ (oU p x1 x.Point _ hy3 h h1 h12 h2) ?_;rintro I02 hs2 v2 k2 le2 - ⟨v07,rfl,rfl,rfl⟩ -;have h8:=h8.mono le2;have h10:=iM le2 h10;have h4:=h4.mono le2;have h5:=h5.mono le2;have h6:=h6.mono le2;have h7:=h7.mono le2;have h2:=h2.mono le2;have h:=h.mono le2;have h1:=h1.mono le2;have H:=H.trans le2;refine xW [vI y2] Int ?_;intro b4 hb4;have h14:RL I02 [vI y2] ([y2]:List Int):=⟨[vI y2],_,rfl,rfl,rfl,rfl⟩;obtain ⟨out2,hy4,N⟩:=zB N;refine qU 3 1 2 rfl rfl rfl h10 (.inr ⟨0,rfl⟩) h14 hy4 ?_;intro p12 c11 cs3 h15;exact rV (zH [1,2,3,4,5] (hs':=[hB b3 (cAccess x1 p11 c10),hO Int (vS p12 out2 c11) cs3,hB b2 (cStmt y p4 c3 p5 c4 p6 c5 p7 c6),hB b1 (cInst x p3 c2),hB b (cProg p p1 c p2 c1)]) rfl (by decide))<|yF [] [(7,vS p12 out2 c11)]<|zU<|zD<|zR<|yF [] [(17,vI (W (t17 + 1)))]<|xF<|qT (zH [1,2,3,4] rfl (by decide))<|vE [(2,vP b 0),(3,vP b1 0),(6,vP b2 0),(7,vS p12 out2 c11),(15,vS p8 y1 c7),(16,vI (y1.length:Int)),(17,vI (W (t17 + 1)))]<|ih out2 (W (t17 + 1)) _ N H h8 h4 h5 h6 h7 h2 h h1 h15 hg ho hx
 intro hc N;exact xA<|zO<|zO<|yU [(2,vP b 0),(3,vP b1 0),(6,vP b2 0),(7,vS p9 out c8)]<|hx _ _ _ _ _ (zC N).symm H h10
def rP (p:zK) (x:zQ):Option ((List Int)×Int):=do
 let y←nG p x
 let y1←oR y.Value
 let out1←wY p x y1 ([]:List Int) 0
 let y3←tH p y.Write x.Point
 pure (out1,y3)
theorem eV:∀ (p:zK) (x:zQ) r,rP p x=some r→∀ {I:Imm}{p1 c p2 c1 p3 c2},(S4 I p1 p.Arrays c)→(S4 I p2 p.Parts c1)→(S4 I p3 x.Point c2)→Ret Tryz.prog 65 [vA (cProg p p1 c p2 c1),vA (cInst x p3 c2)] I [] (fB  r):=by
 intro p x r N I p1 c p2 c1 p3 c2 h h1 h2;unfold rP at N;refine yB (fn:=Tryz.f65) (c:=(bodyOf Tryz.f65)) Tryz.func65 rfl rfl ?_;rintro B - -;refine yP<|tM (cProg p p1 c p2 c1) ?_;intro b hb;refine tM (cInst x p3 c2) ?_;intro b1 hb1;refine yF [] []<|xQ<|yH 2 [1,0] [(10,vA (cProg p p1 c p2 c1)),(11,vA (cInst x p3 c2))] ?_;obtain ⟨y,hy,N⟩:=zB N;refine yQ (zAX p x _ hy h h1 h2) ?_;rintro I0 hs2 v2 k2 le - ⟨v0,rfl,rfl,⟨cs,rfl,h3⟩⟩ -;have h2:=h2.mono le;have h:=h.mono le;have h1:=h1.mono le;obtain ⟨v01,v02,v03,v04,rfl,h4,h5,h6,h7⟩:=wA h3;obtain ⟨p4,c3,rfl⟩:=h4.form;obtain ⟨p5,c4,rfl⟩:=h5.form;obtain ⟨p6,c5,rfl⟩:=h6.form;obtain ⟨p7,c6,rfl⟩:=h7.form;refine uO [vT ([]),z0,vI 0,vI 0,z0,vI 0,vT ([]),z0,z0] ?_;intro b2 hb2;refine xP 0 (cStmt y p4 c3 p5 c4 p6 c5 p7 c6) [hB b2 (cStmt y p4 c3 p5 c4 p6 c5 p7 c6),hB b1 (cInst x p3 c2),hB b (cProg p p1 c p2 c1)] rfl rfl rfl rfl<|yN rfl<|wX [(7,z0)]<|yI<|yP<|yH 2 [0] [(14,vA (cExpr y.Value p5 c4 p6 c5 p7 c6))] ?_;obtain ⟨y1,hy1,N⟩:=zB N;refine yQ (zAr y.Value _ hy1 h5 h6 h7) ?_;rintro I01 hs2 v2 k2 le1 - ⟨v05,rfl,rfl,h8⟩ -;have h4:=h4.mono le1;have h5:=h5.mono le1;have h6:=h6.mono le1;have h7:=h7.mono le1;have h2:=h2.mono le1;have h:=h.mono le1;have h1:=h1.mono le1;obtain ⟨p8,c7,rfl⟩:=h8.form;refine yF [] [(16,vI (y1.length:Int)),(17,vI 0)]<|zD<|zV<|vE [(2,vP b 0),(3,vP b1 0),(6,vP b2 0),(7,z0),(15,vS p8 y1 c7),(16,vI (y1.length:Int)),(17,vI 0)]<|qT (uN (Rp.sz Int)) ?_;have h9:RL I01 [] ([]:List Int):=RepL.nil;obtain ⟨o0,ho0,hMl⟩:=zB N;refine gV p x y1 ([]:List Int) 0 o0 ho0 iR h8 h4 h5 h6 h7 h2 h h1 h9 (fun _ _ _ h=>h) (fun _ _ h=>h) ?_;intro I03 out1 p10 c9 cs2 heq le3 h11;subst o0;have h4:=h4.mono le3;have h2:=h2.mono le3;have h:=h.mono le3;have h1:=h1.mono le3;refine zW<|xQ<|yH 6 [3,1,2] [(30,vS p10 out1 c9),(31,vA (cProg p p1 c p2 c1)),(33,vA (cAccess y.Write p4 c3)),(35,vS p3 x.Point c2)] ?_;obtain ⟨y3,hy5,N⟩:=zB hMl;refine yQ (oU p y.Write x.Point _ hy5 h h1 h4 h2) ?_;rintro I04 hs2 v2 k2 le4 - ⟨v08,rfl,rfl,rfl⟩ -;have h11:=iM le4 h11;refine yF [] [(4,vS p10 out1 c9),(5,vI y3)]<|zD<|yC<|xL 0 rfl ?_;intro I05 le5 hl0;have h17:=SL.of_frozen hl0 le5 h11;obtain rfl:=zC N;exact xM ⟨_,_,(.tmp rfl (.tmp rfl ResV.nil)),yE,⟨_,_,rfl,rfl,h17,rfl⟩⟩
def zDL (r:(Option tD)×Bool):KT:=fun kk I' hs' v=>
  ∃ v0 v1,hs'=[]∧v=tupV [v0,v1]∧FP I' v0 r.1∧v1=.bool r.2
def pI (p:zK) (y1:(List zQ)) (t24:Int) (reads:List (List Int)) (writes:List Int):Option ((List (List Int)×List Int)):=do
 if (decide (t24 < (y1.length:Int))) then
  let x←idx y1 t24
  let (y4,y5)←rP p x
  let l←app 24 reads ([y4]:List (List Int))
  let l1←app 8 writes ([y5]:List Int)
  pI p y1 (W (t24 + 1)) l l1
 else
  pure (reads,writes)
 partial_fixpoint
theorem zCh (p:zK) (y1:(List zQ)):∀ (t24:Int) (reads:List (List Int)) (writes:List Int) (o:(List (List Int)×List Int)),pI p y1 t24 reads writes=some o→∀ {B}{I0 I:Imm}{Q p1 c p2 c1}{b:Nat}{p3 c2}{b1:Nat}{p4 c3 cs p5 c4 cs1},I0.le I→(S4 I p3 y1 c2)→(S4 I p1 p.Arrays c)→(S4 I p2 p.Parts c1)→(RL I cs reads)→(RL I cs1 writes)→NG Q→NO Q→(∀ (I':Imm) (reads1:List (List Int)) (writes1:List Int) (p6:Option Addr) (c5:Nat) (cs2:List Value) (p7:Option Addr) (c6:Nat) (cs3:List Value),o=(reads1,writes1)→I0.le I'→(RL I' cs2 reads1)→(RL I' cs3 writes1)→T 56 B Q (.exit 0) I' [hO Int (vS p7 writes1 c6) cs3,hO (List Int) (vS p6 reads1 c5) cs2,hB b1 [vS p1 p.Arrays c,vS p2 p.Parts c1,vS p3 y1 c2,vS p6 reads1 c5,vS p7 writes1 c6]] [(6,vP b1 0)])→J Tryz.prog 56 B (nav (bodyOf Tryz.f40) [1,1,1,1,0,1,0]) Q I [hO Int (vS p5 writes c4) cs1,hO (List Int) (vS p4 reads c3) cs,hB b1 [vS p1 p.Arrays c,vS p2 p.Parts c1,vS p3 y1 c2,vS p4 reads c3,vS p5 writes c4],hB b (cProg p p1 c p2 c1)] [(1,vP b 0),(6,vP b1 0),(22,vS p3 y1 c2),(23,vI (y1.length:Int)),(24,vI t24)]:=by
 refine pI.partial_correctness p y1 _ ?_;intro self ih t24 reads writes o N B I0 I Q p1 c p2 c1 b p3 c2 b1 p4 c3 cs p5 c4 cs1 H h2 h h1 h6 h7 hg ho hx;refine xE hg ho<|yG [(25,.bool (decide (t24 < (y1.length:Int))))]<|yI<|yO N ?_ ?_
 · intro hc1 N;refine zY<|yI<|zV<|yJ<|zR ?_;obtain ⟨x,hy1,N⟩:=zB N;refine xX rfl rfl h2 hy1 ?_;intro ad ccs hat hrep;obtain ⟨v02,rfl,h10⟩:=nV hrep;obtain ⟨p8,c7,rfl⟩:=h10.form;refine xT 0 hat (cInst x p8 c7) (vA (cInst x p8 c7)) rfl<|uO [vI 0,vI 0,z0] ?_;intro b2 hb2;refine xP 0 (cInst x p8 c7) [hB b2 (cInst x p8 c7),hO Int (vS p5 writes c4) cs1,hO (List Int) (vS p4 reads c3) cs,hB b1 [vS p1 p.Arrays c,vS p2 p.Parts c1,vS p3 y1 c2,vS p4 reads c3,vS p5 writes c4],hB b (cProg p p1 c p2 c1)] rfl rfl rfl rfl<|yN rfl<|xQ<|yH 2 [4,0] [(29,vA (cProg p p1 c p2 c1)),(30,vA (cInst x p8 c7))] ?_;obtain ⟨⟨y4,y5⟩,hy2,N⟩:=zB N;refine yQ (eV p x _ hy2 h h1 h10) ?_;rintro I01 hs2 v2 k2 le1 - ⟨v03,v04,rfl,rfl,h11,rfl⟩ -;have h2:=h2.mono le1;have h7:=iM le1 h7;have h6:=iM le1 h6;have h:=h.mono le1;have h1:=h1.mono le1;have H:=H.trans le1;obtain ⟨p9,c8,rfl⟩:=h11.form;refine yF [] [(9,vS p9 y4 c8),(10,vI y5)]<|zD ?_;obtain ⟨l,hy3,N⟩:=zB N;obtain ⟨l1,hy4,N⟩:=zB N;refine vR [.p (vP b1 0) [],.p (vP b1 0) [],.p (vP b1 0) [],.p (vP b1 0) [],.p (vP b1 3) [],.q (vS p4 reads c3),.p (vS p9 y4 c8) [],.x (fun I' v hx=>∃ b3,v=vS (some ⟨b3,0,none⟩) ([y4]:List (List Int)) 1∧hx=[]∧(SL I' (vS (some ⟨b3,0,none⟩) ([y4]:List (List Int)) 1) ([y4]:List (List Int)))),.x (fun I' v hx=>∃ p10 c9 cs4,v=vS p10 l c9∧hx=[hO (List Int) (vS p10 l c9) cs4]∧(RL I' cs4 l)),.p (vP b1 0) [],.p (vP b1 0) [],.p (vP b1 4) [],.q (vS p5 writes c4),.p (vI y5) [],.x (fun I' v hx=>∃ b4,v=vS (some ⟨b4,0,none⟩) ([y5]:List Int) 1∧hx=[]∧(SL I' (vS (some ⟨b4,0,none⟩) ([y5]:List Int) 1) ([y5]:List Int))),.x (fun I' v hx=>∃ p11 c10 cs5,v=vS p11 l1 c10∧hx=[hO Int (vS p11 l1 c10) cs5]∧(RL I' cs5 l1)),.p (vP b1 0) [],.p (vP b1 3) [],.x (fun I' v hx=>∃ p101 c91 cs41,hx=[hB b1 [vS p1 p.Arrays c,vS p2 p.Parts c1,vS p3 y1 c2,vS p101 l c91,vS p5 writes c4],hO (List Int) (vS p101 l c91) cs41]∧(RL I' cs41 l))] [[],[],[],[(2,false)],[(3,false)],[(4,false),(24,false)],[],[(6,false)],[(5,false),(7,false),(22,true)],[],[(9,false)],[(10,false)],[(11,false),(24,false)],[],[(13,false)],[(12,false),(14,false),(23,true)],[(0,false)],[(16,false)],[(8,true),(17,false),(24,true)]] [hB b2 (cInst x p8 c7),hB b (cProg p p1 c p2 c1)] [[hO (List Int) (vS p4 reads c3) cs],[hO Int (vS p5 writes c4) cs1],[hB b1 [vS p1 p.Arrays c,vS p2 p.Parts c1,vS p3 y1 c2,vS p4 reads c3,vS p5 writes c4]]] [(1,false),(15,true),(18,true)] (zH [0,4,2,1,3] rfl (by decide)) ?_ ?_
   · refine Op<|Op<|Op<|Op<|Op<|Ob ?_<|Op<|Ox ?_<|Ox ?_<|Op<|Op<|Op<|Ob ?_<|Op<|Ox ?_<|Ox ?_<|Op<|Op<|Ox ?_<|On
     · intro I1 hf le1 hbo;obtain ⟨hf2,hbp⟩:=hbo.at (j:=24) (g:=[hB b1 [vS p1 p.Arrays c,vS p2 p.Parts c1,vS p3 y1 c2,vS p4 reads c3,vS p5 writes c4]]) (by decide) (by kernel_rfl) rfl;refine zI ?_;rintro _ _ ⟨rfl,rfl⟩;refine zI ?_;rintro _ _ rfl;refine nE<|zJA hbp<|zA6 [(38,vP b1 3)] ?_;exact zAu (cs:=[vS p4 reads c3]) (v:=vS p4 reads c3) 2 rfl rfl rfl rfl rfl (by kernel_rfl) (by kernel_rfl) (by kernel_rfl)<|xN iR
     · intro I1 hf le1;refine yT [(40,vS p9 y4 c8)] ?_;have H:=iS I1;have h11:=h11.mono le1;refine xW [vS p9 y4 c8] (List Int) ?_;intro b3 hb3;have h13:RL I1 [vS p9 y4 c8] ([y4]:List (List Int)):=⟨[vS p9 y4 c8],_,rfl,rfl,⟨_,rfl,h11⟩,rfl⟩;refine yK 0 rfl ?_;intro I02 le2 hl0;have h14:=SL.of_frozen hl0 le2 h13;have H:=H.trans le2;exact yS [] H ⟨_,rfl,rfl,h14⟩
     · intro I1 hf le1;refine zI ?_;rintro _ _ ⟨rfl,rfl⟩;refine zI ?_;rintro _ _ ⟨b3,rfl,rfl,h14⟩;refine zI ?_;rintro _ _ rfl;refine yT [(39,vS p4 reads c3),(41,vS (some ⟨b3,0,none⟩) ([y4]:List (List Int)) 1)] ?_;have h6:=iM le1 h6;obtain ⟨ccs1,k0,k01⟩:=h14;have h14:SL I1 (vS (some ⟨b3,0,none⟩) ([y4]:List (List Int)) 1) ([y4]:List (List Int)):=⟨_,k0,k01⟩;refine qU 28 1 0 rfl rfl rfl h6 (.inl k0) k01 hy3 ?_;intro p10 c9 cs4 h15;exact uR (hs':=(hO (List Int) (vS p10 l c9) cs4::hB b2 (cInst x p8 c7)::hB b (cProg p p1 c p2 c1)::hf)) rfl<|yS [hO (List Int) (vS p10 l c9) cs4] iR ⟨_,_,_,rfl,rfl,h15⟩
     · intro I1 hf le1 hbo;obtain ⟨hf2,hbp⟩:=hbo.at (j:=24) (g:=[hB b1 [vS p1 p.Arrays c,vS p2 p.Parts c1,vS p3 y1 c2,vS p4 reads c3,vS p5 writes c4]]) (by decide) (by kernel_rfl) rfl;refine zI ?_;rintro _ _ ⟨rfl,rfl⟩;refine zI ?_;rintro _ _ rfl;refine nE<|zJA hbp<|zA6 [(45,vP b1 4)] ?_;exact zAu (cs:=[vS p5 writes c4]) (v:=vS p5 writes c4) 2 rfl rfl rfl rfl rfl (by kernel_rfl) (by kernel_rfl) (by kernel_rfl)<|xN iR
     · intro I1 hf le1;refine yT [(47,vI y5)] ?_;have H:=iS I1;refine xW [vI y5] Int ?_;intro b4 hb4;have h16:RL I1 [vI y5] ([y5]:List Int):=⟨[vI y5],_,rfl,rfl,rfl,rfl⟩;refine yK 0 rfl ?_;intro I03 le3 hl01;have h17:=SL.of_frozen hl01 le3 h16;have H:=H.trans le3;exact yS [] H ⟨_,rfl,rfl,h17⟩
     · intro I1 hf le1;refine zI ?_;rintro _ _ ⟨rfl,rfl⟩;refine zI ?_;rintro _ _ ⟨b4,rfl,rfl,h17⟩;refine zI ?_;rintro _ _ rfl;refine yT [(46,vS p5 writes c4),(48,vS (some ⟨b4,0,none⟩) ([y5]:List Int) 1)] ?_;have h7:=iM le1 h7;obtain ⟨ccs2,k02,k03⟩:=h17;have h17:SL I1 (vS (some ⟨b4,0,none⟩) ([y5]:List Int) 1) ([y5]:List Int):=⟨_,k02,k03⟩;refine qU 3 1 0 rfl rfl rfl h7 (.inl k02) k03 hy4 ?_;intro p11 c10 cs5 h18;exact uR (hs':=(hO Int (vS p11 l1 c10) cs5::hB b2 (cInst x p8 c7)::hB b (cProg p p1 c p2 c1)::hf)) rfl<|yS [hO Int (vS p11 l1 c10) cs5] iR ⟨_,_,_,rfl,rfl,h18⟩
     intro I1 hf le1;refine zI ?_;rintro _ _ ⟨p10,c9,cs4,rfl,rfl,h15⟩;refine zI ?_;rintro _ _ ⟨rfl,rfl⟩;refine zI ?_;rintro _ _ rfl;refine yT [(42,vS p10 l c9),(51,vP b1 3)] ?_;have H:=iS I1;exact xP 0 [vS p1 p.Arrays c,vS p2 p.Parts c1,vS p3 y1 c2,vS p10 l c9,vS p5 writes c4] (hB b1 [vS p1 p.Arrays c,vS p2 p.Parts c1,vS p3 y1 c2,vS p10 l c9,vS p5 writes c4]::hO (List Int) (vS p10 l c9) cs4::hB b2 (cInst x p8 c7)::hB b (cProg p p1 c p2 c1)::hf) rfl rfl rfl rfl<|zD9 (hx:=[hB b1 [vS p1 p.Arrays c,vS p2 p.Parts c1,vS p3 y1 c2,vS p10 l c9,vS p5 writes c4],hO (List Int) (vS p10 l c9) cs4]) rfl H rfl (zFg (v:=undef)) ⟨_,_,_,rfl,h15⟩
   intro I04 le4;refine zI ?_;rintro _ _ ⟨rfl,rfl⟩;refine zI ?_;rintro _ _ ⟨p11,c10,cs5,rfl,rfl,h18⟩;refine zI ?_;rintro _ _ ⟨p101,c91,cs41,rfl,h151⟩;refine yT [(1,vP b 0),(6,vP b1 0),(22,vS p3 y1 c2),(23,vI (y1.length:Int)),(24,vI t24),(35,vP b1 0),(49,vS p11 l1 c10)] ?_;have h2:=h2.mono le4;have h:=h.mono le4;have h1:=h1.mono le4;have H:=H.trans le4;exact yH 21 [] [(53,vP b1 4)]<|xP 0 [vS p1 p.Arrays c,vS p2 p.Parts c1,vS p3 y1 c2,vS p101 l c91,vS p11 l1 c10] [hB b1 [vS p1 p.Arrays c,vS p2 p.Parts c1,vS p3 y1 c2,vS p101 l c91,vS p11 l1 c10],hO (List Int) (vS p101 l c91) cs41,hO Int (vS p11 l1 c10) cs5,hB b2 (cInst x p8 c7),hB b (cProg p p1 c p2 c1)] rfl rfl rfl rfl<|yN rfl<|zU<|zD<|zR<|yF [] [(24,vI (W (t24 + 1)))]<|xF<|qT (zH [2,1,0,4] rfl (by decide))<|vE [(1,vP b 0),(6,vP b1 0),(22,vS p3 y1 c2),(23,vI (y1.length:Int)),(24,vI (W (t24 + 1)))]<|ih (W (t24 + 1)) l l1 _ N H h2 h h1 h151 h18 hg ho hx
 intro hc1 N;exact xA<|zO<|zO<|wJ (zH [0,1,2] rfl (by decide))<|yU [(6,vP b1 0)]<|hx _ _ _ _ _ _ _ _ _ (zC N).symm H h6 h7
def kZ (p:zK):Option ((Option tD)×Bool):=do
 let (y1,y2)←tC p
 if (!y2) then
  pure (none,false)
 else
  let (reads1,writes1)←pI p y1 0 ([]:List (List Int)) ([]:List Int)
  pure ((some (tD.mk p y1 reads1 writes1)),true)
theorem zEV:∀ (p:zK) r,kZ p=some r→∀ {I:Imm}{p1 c p2 c1},(S4 I p1 p.Arrays c)→(S4 I p2 p.Parts c1)→Ret Tryz.prog 40 [vA (cProg p p1 c p2 c1)] I [] (zDL  r):=by
 intro p r N I p1 c p2 c1 h h1;unfold kZ at N;refine yB (fn:=Tryz.f40) (c:=(bodyOf Tryz.f40)) Tryz.func40 rfl rfl ?_;rintro B - -;refine yP<|tM (cProg p p1 c p2 c1) ?_;intro b hb;refine yF [] []<|xQ<|yH 1 [0] [(12,vA (cProg p p1 c p2 c1))] ?_;obtain ⟨⟨y1,y2⟩,hy,N⟩:=zB N;refine yQ (kG p _ hy h h1) ?_;rintro I0 hs2 v2 k2 le - ⟨v0,v01,rfl,rfl,h2,rfl⟩ -;have h:=h.mono le;have h1:=h1.mono le;obtain ⟨p3,c2,rfl⟩:=h2.form;refine yF [] [(4,vS p3 y1 c2),(5,.bool y2)]<|yI<|yG [(17,.bool (!y2))]<|zD<|yO N ?_ ?_
 · intro hc N;refine yG [(2,.pointer none),(3,vF)]<|zD<|yC<|zN ?_;obtain rfl:=zC N;exact xM ⟨_,_,(.tmp rfl (.tmp rfl ResV.nil)),yE,⟨_,_,rfl,rfl,zJU,rfl⟩⟩
 intro hc N;refine zY<|xQ<|yH 3 [0] [(20,vA [vS p1 p.Arrays c,vS p2 p.Parts c1,vS p3 y1 c2,z0,z0])]<|tM [vS p1 p.Arrays c,vS p2 p.Parts c1,vS p3 y1 c2,z0,z0] ?_;intro b1 hb1;refine yF [] [(6,vP b1 0)]<|yI<|yG [(22,vS p3 y1 c2),(23,vI (y1.length:Int)),(24,vI 0)]<|zD<|zV<|vE [(1,vP b 0),(6,vP b1 0),(22,vS p3 y1 c2),(23,vI (y1.length:Int)),(24,vI 0)]<|qT (uN (Rp.sz (List Int))) ?_;have h4:RL I0 [] ([]:List (List Int)):=RepL.nil;refine qT (uN (Rp.sz Int)) ?_;have h5:RL I0 [] ([]:List Int):=RepL.nil;obtain ⟨o0,ho0,hMl⟩:=zB N;refine zCh p y1 0 ([]:List (List Int)) ([]:List Int) o0 ho0 iR h2 h h1 h4 h5 (fun _ _ _ h=>h) (fun _ _ h=>h) ?_;intro I05 reads1 writes1 p6 c5 cs2 p7 c6 cs3 heq le5 h8 h9;subst o0;have h:=h.mono le5;have h1:=h1.mono le5;have h2:=h2.mono le5;refine zW<|wX [(2,vP b1 0),(3,vY)]<|zD<|yC<|xL 1 rfl ?_;intro I06 le6 hl02;have h19:=SL.of_frozen hl02 le6 h8;have h9:=iM le6 h9;have h:=h.mono le6;have h1:=h1.mono le6;have h2:=h2.mono le6;refine xL 0 rfl ?_;intro I07 le7 hl03;have h20:=SL.of_frozen hl03 le7 h9;have h:=h.mono le7;have h1:=h1.mono le7;have h2:=h2.mono le7;have h19:=h19.mono le7;refine xL 0 rfl ?_;intro I08 le8 hl04;have hat1:At I08 ⟨b1,0,none⟩ [vS p1 p.Arrays c,vS p2 p.Parts c1,vS p3 y1 c2,vS p6 reads1 c5,vS p7 writes1 c6]:=At.of_blk hl04;have h:=h.mono le8;have h1:=h1.mono le8;have h2:=h2.mono le8;have h19:=h19.mono le8;have h20:=h20.mono le8;obtain rfl:=zC hMl;exact xM ⟨_,_,(.tmp rfl (.tmp rfl ResV.nil)),yE,⟨_,_,rfl,rfl,(zJi hat1 (zCW ⟨_,_,_,_,_,rfl,h,h1,h2,h19,h20⟩)),rfl⟩⟩
def wZ (s:(List Int)) (v0:Int) (t8:Int):Option (Out Unit (Int)):=do
 if (decide (t8 < (s.length:Int))) then
  let x←idx s t8
  if (v0 == x) then
   pure (.ret t8)
  else
   wZ s v0 (W (t8 + 1))
 else
  pure (.done ())
 partial_fixpoint
theorem gW (s:(List Int)) (v0:Int):∀ (t8:Int) (o:Out Unit (Int)),wZ s v0 t8=some o→∀ {B}{I0 I:Imm}{Q p c},I0.le I→(S4 I p s c)→NG Q→NO Q→(∀ (I':Imm) ,o=(.done ())→I0.le I'→T 19 B Q (.exit 0) I' [] [])→(∀ r I' hs' m',o=(.ret r)→I0.le I'→RS Tryz.prog Tryz.f111 B (yZ  r) I' hs' m'→T 19 B Q .ret I' hs' m')→J Tryz.prog 19 B (nav (bodyOf Tryz.f111) [1,0,1,0]) Q I [] [(0,vS p s c),(1,vI v0),(7,vI (s.length:Int)),(8,vI t8)]:=by
 refine wZ.partial_correctness s v0 _ ?_;intro self ih t8 o N B I0 I Q p c H h hg ho hx hr;refine xE hg ho<|yG [(9,.bool (decide (t8 < (s.length:Int))))]<|yI<|yO N ?_ ?_
 · intro hc N;refine zY<|yI<|zV<|yG [(5,vI t8)]<|xQ<|yH 3 [] [(11,vI v0),(12,vS p s c),(13,vI t8)] ?_;obtain ⟨x,hy,N⟩:=zB N;refine xX rfl rfl h hy ?_;intro ad ccs hat hrep;obtain rfl:=hrep;refine xT 0 hat [vI x] (vI x) rfl<|yF [] [(16,.bool (v0 == x))]<|zD<|yO N ?_ ?_
   · intro hc1 N;exact yG [(4,vI t8)]<|zD<|yC<|yA<|zN<|zN<|hr _ _ _ _ (zC N).symm H ⟨_,_,(.tmp rfl ResV.nil),yE,⟨_,rfl,rfl,rfl⟩⟩
   intro hc1 N;exact zY<|zU<|zD<|zR<|yF [] [(8,vI (W (t8 + 1)))]<|xF<|vE [(0,vS p s c),(1,vI v0),(7,vI (s.length:Int)),(8,vI (W (t8 + 1)))]<|ih (W (t8 + 1)) _ N H h hg ho hx hr
 intro hc N;exact xA<|zO<|zO<|yU []<|hx _  (zC N).symm H
def pP (s:(List Int)) (v0:Int):Option (Int):=do
 match←wZ s v0 0 with
 | .ret r0=>pure r0
 | .done _ =>
  pure (-1)
theorem eW:∀ (s:(List Int)) (v0:Int) r,pP s v0=some r→∀ {I:Imm}{p c},(S4 I p s c)→Ret Tryz.prog 111 [vS p s c,vI v0] I [] (yZ  r):=by
 intro s v0 r N I p c h;unfold pP at N;refine yB (fn:=Tryz.f111) (c:=(bodyOf Tryz.f111)) Tryz.func111 rfl rfl ?_;rintro B - -;refine yG []<|yI<|yG [(7,vI (s.length:Int)),(8,vI 0)]<|zD<|zV<|vE [(0,vS p s c),(1,vI v0),(7,vI (s.length:Int)),(8,vI 0)] ?_;obtain ⟨o0,ho0,hMl⟩:=zB N;refine gW s v0 0 o0 ho0 iR h (fun _ _ _ h=>h) (fun _ _ h=>h) ?_ ?_
 · intro I0  heq le;subst o0;refine zW<|wX [(4,vI (-1))]<|zD<|yC ?_;obtain rfl:=zC hMl;exact uM
 intro r0 I9 hs9 m9 heq9 le9 hrs9;subst heq9;refine yA<|zN ?_;obtain rfl:=zC hMl;exact xM hrs9
def uQ (s:(List Int)) (v0:Int):Option (Bool):=do
 let y←pP s v0
 pure (decide (y ≥ 0))
theorem mY:∀ (s:(List Int)) (v0:Int) r,uQ s v0=some r→∀ {I:Imm}{p c},(S4 I p s c)→Ret Tryz.prog 74 [vS p s c,vI v0] I [] (zZ  r):=by
 intro s v0 r N I p c h;unfold uQ at N;refine yB (fn:=Tryz.f74) (c:=(bodyOf Tryz.f74)) Tryz.func74 rfl rfl ?_;rintro B - -;refine yG []<|xQ<|yH 2 [] [(5,vS p s c),(6,vI v0)] ?_;obtain ⟨y,hy,N⟩:=zB N;refine yQ (eW s v0 _ hy h) ?_;rintro I0 hs2 v2 k2 le - ⟨v01,rfl,rfl,rfl⟩ -;refine yF [] [(4,.bool (decide (y ≥ 0)))]<|zD<|yC ?_;obtain rfl:=zC N;exact uM
def rX (t:tD) (from0:Int) (to0:Int):Option (Int):=do
 let x←idx t.reads to0
 let x1←idx t.writes from0
 let y←uQ x x1
 let kinds←(do
   if y then
    pure (W (0 + 1))
   else
    pure (id 0)
     : Option Int)
 let x2←idx t.reads from0
 let x3←idx t.writes to0
 let y1←uQ x2 x3
 let kinds1←(do
   if y1 then
    pure (W (kinds + 2))
   else
    pure (id kinds)
     : Option Int)
 let x4←idx t.writes from0
 let x5←idx t.writes to0
 let kinds2←(do
   if (x4 == x5) then
    pure (W (kinds1 + 4))
   else
    pure (id kinds1)
     : Option Int)
 pure (id kinds2)
theorem dG:∀ (t:tD) (from0:Int) (to0:Int) r,rX t from0 to0=some r→∀ {I:Imm}{ad:Addr}{p c p1 c1 p2 c2 p3 c3 p4 c4},(S4 I p t.Program.Arrays c)→(S4 I p1 t.Program.Parts c1)→(S4 I p2 t.list c2)→(S4 I p3 t.reads c3)→(S4 I p4 t.writes c4)→(At I ad [vS p t.Program.Arrays c,vS p1 t.Program.Parts c1,vS p2 t.list c2,vS p3 t.reads c3,vS p4 t.writes c4])→Ret Tryz.prog 45 [.pointer (some ad),vI from0,vI to0] I [] (yZ  r):=by
 intro t from0 to0 r N I ad p c p1 c1 p2 c2 p3 c3 p4 c4 h h1 h2 h3 h4 hat;unfold rX at N;refine yB (fn:=Tryz.f45) (c:=(bodyOf Tryz.f45)) Tryz.func45 rfl rfl ?_;rintro B - -;have H:=iS I;refine yG []<|wX [(7,vI 0)]<|yI<|yJ ?_;obtain ⟨x,hy,N⟩:=zB N;obtain ⟨x1,hy1,N⟩:=zB N;obtain ⟨y,hy2,N⟩:=zB N;refine vR [.p (.pointer (some ad)) [],.p (.pointer (some ad)) [],.p (.pointer (some (ad.add 3))) [],.q (vS p3 t.reads c3),.p (vI to0) [],.x (fun I' v hx=>∃ ad1 p5 c5,v=.pointer (some ad1)∧hx=[]∧(At I' ad1 [vS p5 x c5])∧(S4 I' p5 x c5)),.x (fun I' v hx=>∃ p51 c51,v=vS p51 x c51∧hx=[]∧(S4 I' p51 x c51)),.p (.pointer (some ad)) [],.p (.pointer (some ad)) [],.p (.pointer (some (ad.add 4))) [],.q (vS p4 t.writes c4),.p (vI from0) [],.x (fun I' v hx=>∃ ad2,v=.pointer (some ad2)∧hx=[]∧(At I' ad2 [vI x1])),.q (vI x1),.q (.bool y)] [[],[(0,false)],[(1,false)],[(2,false)],[],[(3,false),(4,false)],[(5,false)],[],[(7,false)],[(8,false)],[(9,false)],[],[(10,false),(11,false)],[(12,false)],[(6,false),(13,false)]] [] [] [(14,false)] (zH [] rfl (by decide)) ?_ ?_
 · refine Op<|Op<|Op<|Oq ?_<|Op<|Ox ?_<|Ox ?_<|Op<|Op<|Op<|Oq ?_<|Op<|Ox ?_<|Oq ?_<|Oq ?_<|On
   · intro I1 hf le1;refine yT [(10,.pointer (some (ad.add 3)))] ?_;have hat:=hat.mono le1;exact xT 3 hat [vS p3 t.reads c3] (vS p3 t.reads c3) rfl<|xN iR
   · intro I1 hf le1;refine yT [(11,vS p3 t.reads c3),(12,vI to0)] ?_;have h3:=h3.mono le1;refine xX rfl rfl h3 hy ?_;intro ad1 ccs hat1 hrep;obtain ⟨v0,rfl,h5⟩:=hrep;obtain ⟨p5,c5,rfl⟩:=h5.form;exact yS [] iR ⟨_,_,_,rfl,rfl,hat1,h5⟩
   · intro I1 hf le1;refine zI ?_;rintro _ _ ⟨ad1,p5,c5,rfl,rfl,hat1,h5⟩;exact yT [(13,.pointer (some ad1))]<|xT 0 hat1 [vS p5 x c5] (vS p5 x c5) rfl<|yS [] iR ⟨_,_,rfl,rfl,h5⟩
   · intro I1 hf le1;refine yT [(17,.pointer (some (ad.add 4)))] ?_;have hat:=hat.mono le1;exact xT 4 hat [vS p4 t.writes c4] (vS p4 t.writes c4) rfl<|xN iR
   · intro I1 hf le1;refine yT [(18,vS p4 t.writes c4),(19,vI from0)] ?_;have h4:=h4.mono le1;refine xX rfl rfl h4 hy1 ?_;intro ad2 ccs1 hat2 hrep1;obtain rfl:=hrep1;exact yS [] iR ⟨_,rfl,rfl,hat2⟩
   · intro I1 hf le1;refine zI ?_;rintro _ _ ⟨ad2,rfl,rfl,hat2⟩;exact yT [(20,.pointer (some ad2))]<|xT 0 hat2 [vI x1] (vI x1) rfl<|xN iR
   intro I1 hf le1;refine zI ?_;rintro _ _ ⟨p51,c51,rfl,rfl,h51⟩;refine yT [(14,vS p51 x c51),(21,vI x1)] ?_;have H:=iS I1;refine yQ (mY x x1 _ hy2 h51) ?_;rintro I0 hs2 v2 k2 le - ⟨v01,rfl,rfl,rfl⟩ -;have H:=H.trans le;exact xN H
 intro I01 le1;refine yT [(0,.pointer (some ad)),(1,vI from0),(2,vI to0),(7,vI 0),(22,.bool y)] ?_;have h3:=h3.mono le1;have h4:=h4.mono le1;have hat:=hat.mono le1;have H:=H.trans le1;refine yN rfl<|zD ?_;obtain ⟨o0,ho0,hMc⟩:=zB N;refine yV (fun I' hs' m'=>∃ (kinds:Int),o0=kinds∧I01.le I'∧hs'=[]∧m'=[(0,.pointer (some ad)),(1,vI from0),(2,vI to0),(7,vI kinds)]) ?_ ?_
 · have H:=iS I01;refine yO ho0 ?_ ?_
   · intro hc N;exact zR<|yF [] [(7,vI (W (0 + 1)))]<|yU [(0,.pointer (some ad)),(1,vI from0),(2,vI to0),(7,vI (W (0 + 1)))]<|zX ⟨_,(zC N).symm,H,rfl,rfl⟩
   intro hc N;exact zY<|yU [(0,.pointer (some ad)),(1,vI from0),(2,vI to0),(7,vI 0)]<|zX ⟨_,(zC N).symm,H,rfl,rfl⟩
 rintro I02 hs2 m2 ⟨kinds,heq,le2,rfl,rfl⟩;subst o0;have h3:=h3.mono le2;have h4:=h4.mono le2;have hat:=hat.mono le2;have H:=H.trans le2;refine yI<|yJ ?_;obtain ⟨x2,hy3,N⟩:=zB hMc;obtain ⟨x3,hy4,N⟩:=zB N;obtain ⟨y1,hy5,N⟩:=zB N;refine vR [.p (.pointer (some ad)) [],.p (.pointer (some ad)) [],.p (.pointer (some (ad.add 3))) [],.q (vS p3 t.reads c3),.p (vI from0) [],.x (fun I' v hx=>∃ ad3 p6 c6,v=.pointer (some ad3)∧hx=[]∧(At I' ad3 [vS p6 x2 c6])∧(S4 I' p6 x2 c6)),.x (fun I' v hx=>∃ p61 c61,v=vS p61 x2 c61∧hx=[]∧(S4 I' p61 x2 c61)),.p (.pointer (some ad)) [],.p (.pointer (some ad)) [],.p (.pointer (some (ad.add 4))) [],.q (vS p4 t.writes c4),.p (vI to0) [],.x (fun I' v hx=>∃ ad4,v=.pointer (some ad4)∧hx=[]∧(At I' ad4 [vI x3])),.q (vI x3),.q (.bool y1)] [[],[(0,false)],[(1,false)],[(2,false)],[],[(3,false),(4,false)],[(5,false)],[],[(7,false)],[(8,false)],[(9,false)],[],[(10,false),(11,false)],[(12,false)],[(6,false),(13,false)]] [] [] [(14,false)] (zH [] rfl (by decide)) ?_ ?_
 · refine Op<|Op<|Op<|Oq ?_<|Op<|Ox ?_<|Ox ?_<|Op<|Op<|Op<|Oq ?_<|Op<|Ox ?_<|Oq ?_<|Oq ?_<|On
   · intro I1 hf le1;refine yT [(27,.pointer (some (ad.add 3)))] ?_;have hat:=hat.mono le1;exact xT 3 hat [vS p3 t.reads c3] (vS p3 t.reads c3) rfl<|xN iR
   · intro I1 hf le1;refine yT [(28,vS p3 t.reads c3),(29,vI from0)] ?_;have h3:=h3.mono le1;refine xX rfl rfl h3 hy3 ?_;intro ad3 ccs2 hat3 hrep2;obtain ⟨v02,rfl,h7⟩:=hrep2;obtain ⟨p6,c6,rfl⟩:=h7.form;exact yS [] iR ⟨_,_,_,rfl,rfl,hat3,h7⟩
   · intro I1 hf le1;refine zI ?_;rintro _ _ ⟨ad3,p6,c6,rfl,rfl,hat3,h7⟩;exact yT [(30,.pointer (some ad3))]<|xT 0 hat3 [vS p6 x2 c6] (vS p6 x2 c6) rfl<|yS [] iR ⟨_,_,rfl,rfl,h7⟩
   · intro I1 hf le1;refine yT [(34,.pointer (some (ad.add 4)))] ?_;have hat:=hat.mono le1;exact xT 4 hat [vS p4 t.writes c4] (vS p4 t.writes c4) rfl<|xN iR
   · intro I1 hf le1;refine yT [(35,vS p4 t.writes c4),(36,vI to0)] ?_;have h4:=h4.mono le1;refine xX rfl rfl h4 hy4 ?_;intro ad4 ccs3 hat4 hrep3;obtain rfl:=hrep3;exact yS [] iR ⟨_,rfl,rfl,hat4⟩
   · intro I1 hf le1;refine zI ?_;rintro _ _ ⟨ad4,rfl,rfl,hat4⟩;exact yT [(37,.pointer (some ad4))]<|xT 0 hat4 [vI x3] (vI x3) rfl<|xN iR
   intro I1 hf le1;refine zI ?_;rintro _ _ ⟨p61,c61,rfl,rfl,h71⟩;refine yT [(31,vS p61 x2 c61),(38,vI x3)] ?_;have H:=iS I1;refine yQ (mY x2 x3 _ hy5 h71) ?_;rintro I03 hs2 v2 k2 le3 - ⟨v03,rfl,rfl,rfl⟩ -;have H:=H.trans le3;exact xN H
 intro I04 le4;refine yT [(0,.pointer (some ad)),(1,vI from0),(2,vI to0),(7,vI kinds),(39,.bool y1)] ?_;have h4:=h4.mono le4;have hat:=hat.mono le4;have H:=H.trans le4;refine yN rfl<|zD ?_;obtain ⟨o01,ho01,hMc1⟩:=zB N;refine yV (fun I' hs' m'=>∃ (kinds1:Int),o01=kinds1∧I04.le I'∧hs'=[]∧m'=[(0,.pointer (some ad)),(1,vI from0),(2,vI to0),(7,vI kinds1)]) ?_ ?_
 · have H:=iS I04;refine yO ho01 ?_ ?_
   · intro hc1 N;exact zR<|yF [] [(7,vI (W (kinds + 2)))]<|yU [(0,.pointer (some ad)),(1,vI from0),(2,vI to0),(7,vI (W (kinds + 2)))]<|zX ⟨_,(zC N).symm,H,rfl,rfl⟩
   intro hc1 N;exact zY<|yU [(0,.pointer (some ad)),(1,vI from0),(2,vI to0),(7,vI kinds)]<|zX ⟨_,(zC N).symm,H,rfl,rfl⟩
 rintro I05 hs2 m2 ⟨kinds1,heq1,le5,rfl,rfl⟩;subst o01;have h4:=h4.mono le5;have hat:=hat.mono le5;have H:=H.trans le5;refine yI<|yJ<|jD (by kernel_rfl) (by kernel_rfl)<|gY 3 [] [(44,.pointer (some (ad.add 4)))]<|zAG 4 hat [vS p4 t.writes c4] (vS p4 t.writes c4) rfl<|gY 5 [] [(46,vI from0)] ?_;obtain ⟨x4,hy6,N⟩:=zB hMc1;refine zB5 rfl rfl h4 hy6 ?_;intro ad5 ccs4 hat5 hrep4;obtain rfl:=hrep4;refine zAG 0 hat5 [vI x4] (vI x4) rfl<|gY 10 [] [(51,.pointer (some (ad.add 4)))]<|zAG 4 hat [vS p4 t.writes c4] (vS p4 t.writes c4) rfl<|gY 12 [] [(53,vI to0)] ?_;obtain ⟨x5,hy7,N⟩:=zB N;refine zB5 rfl rfl h4 hy7 ?_;intro ad6 ccs5 hat6 hrep5;obtain rfl:=hrep5;refine zAG 0 hat6 [vI x5] (vI x5) rfl<|zCT [] [(56,.bool (x4 == x5))]<|zD ?_;obtain ⟨o02,ho02,hMc2⟩:=zB N;refine yV (fun I' hs' m'=>∃ (kinds2:Int),o02=kinds2∧I05.le I'∧hs'=[]∧m'=[(7,vI kinds2)]) ?_ ?_
 · have H:=iS I05;refine yO ho02 ?_ ?_
   · intro hc2 N;exact zR<|yF [] [(7,vI (W (kinds1 + 4)))]<|yU [(7,vI (W (kinds1 + 4)))]<|zX ⟨_,(zC N).symm,H,rfl,rfl⟩
   intro hc2 N;exact zY<|yU [(7,vI kinds1)]<|zX ⟨_,(zC N).symm,H,rfl,rfl⟩
 rintro I06 hs2 m2 ⟨kinds2,heq2,le6,rfl,rfl⟩;subst o02;refine wX [(6,vI kinds2)]<|zD<|yC ?_;obtain rfl:=zC hMc2;exact uM
def mK (r:(List yL)):KT:=fun kk I' hs' v=>
  ∃ v0,hs'=[]∧v=tupV [v0]∧SL I' v0 r
def tK (t:tD) (t12:Int) (out2:List yL) (to0:Int):Option (List yL):=do
 if (decide (to0 < (t.list.length:Int))) then
  let y←rX t t12 to0
  let out4←(do
    if (decide (y > 0)) then
     let out5←app 24 out2 ([(yL.mk t12 to0 y)]:List yL)
     pure (id out5)
    else
     pure (id out2)
      : Option (List yL))
  tK t t12 out4 (W (to0 + 1))
 else
  pure (id out2)
 partial_fixpoint
theorem dH (t:tD) (t12:Int):∀ (out2:List yL) (to0:Int) (o:List yL),tK t t12 out2 to0=some o→∀ {B}{I0 I:Imm}{Q}  {ad:Addr}{p c p1 c1 p2 c2 p3 c3 p4 c4 p7 c7 cs2},I0.le I→(S4 I p t.Program.Arrays c)→(S4 I p1 t.Program.Parts c1)→(S4 I p2 t.list c2)→(S4 I p3 t.reads c3)→(S4 I p4 t.writes c4)→(At I ad [vS p t.Program.Arrays c,vS p1 t.Program.Parts c1,vS p2 t.list c2,vS p3 t.reads c3,vS p4 t.writes c4])→(RL I cs2 out2)→NG Q→NO Q→(∀ (I':Imm) (out3:List yL) (p8:Option Addr) (c8:Nat) (cs3:List Value),o=out3→I0.le I'→(RL I' cs3 out3)→T 41 B Q (.exit 2) I' [hO yL (vS p8 out3 c8) cs3] [(0,.pointer (some ad)),(3,vS p8 out3 c8),(11,vI (t.list.length:Int)),(12,vI t12)])→J Tryz.prog 41 B (nav (bodyOf Tryz.f41) [1,1,0,1,0,0,1,1,0,0,1,1,0]) Q I [hO yL (vS p7 out2 c7) cs2] [(0,.pointer (some ad)),(3,vS p7 out2 c7),(4,vI t12),(5,vI to0),(11,vI (t.list.length:Int)),(12,vI t12)]:=by
 refine tK.partial_correctness t t12 _ ?_;intro self ih out2 to0 o N B I0 I Q ad p c p1 c1 p2 c2 p3 c3 p4 c4 p7 c7 cs2 H h h1 h2 h3 h4 hat h8 hg ho hx;refine xE hg ho<|yJ<|yP<|yH 4 [] [(17,vI to0),(20,.pointer (some (ad.add 2)))]<|xT 2 hat [vS p2 t.list c2] (vS p2 t.list c2) rfl<|yF [] [(23,.bool (decide (to0 < (t.list.length:Int))))]<|zD<|yO N ?_ ?_
 · intro hc1 N;refine zY<|yI<|zV<|yP<|yH 3 [] [(26,.pointer (some ad)),(27,vI t12),(28,vI to0)] ?_;obtain ⟨y,hy,N⟩:=zB N;refine yQ (dG t t12 to0 _ hy h h1 h2 h3 h4 hat) ?_;rintro I0 hs2 v2 k2 le - ⟨v0,rfl,rfl,rfl⟩ -;have h:=h.mono le;have h1:=h1.mono le;have h2:=h2.mono le;have h3:=h3.mono le;have h4:=h4.mono le;have hat:=hat.mono le;have h8:=iM le h8;have H:=H.trans le;refine yF [] [(6,vI y)]<|wX [(31,.bool (decide (y > 0)))]<|zD ?_;obtain ⟨o0,ho0,hMc⟩:=zB N;refine yV (fun I' hs' m'=>∃ (out4:List yL) (p9:Option Addr) (c9:Nat) (cs4:List Value),o0=out4∧I0.le I'∧(RL I' cs4 out4)∧hs'=[hO yL (vS p9 out4 c9) cs4]∧m'=[(0,.pointer (some ad)),(3,vS p9 out4 c9),(4,vI t12),(5,vI to0),(11,vI (t.list.length:Int)),(12,vI t12)]) ?_ ?_
   · have H:=iS I0;refine yO ho0 ?_ ?_
     · intro hc2 N;refine zR<|yH 5 [] [(32,vS p7 out2 c7),(36,vA [vI t12,vI to0,vI y])]<|xW [vI t12,vI to0,vI y] yL ?_;intro b hb;have h12:RL I0 [vI t12,vI to0,vI y] ([(yL.mk t12 to0 y)]:List yL):=⟨[vI t12,vI to0,vI y],_,rfl,rfl,(zAq rfl),rfl⟩;obtain ⟨out5,hy1,N⟩:=zB N;refine qU 35 3 1 rfl rfl rfl h8 (.inr ⟨0,rfl⟩) h12 hy1 ?_;intro p10 c10 cs5 h13;exact rV (zH [1] (hs':=[hO yL (vS p10 out5 c10) cs5]) rfl (by decide))<|yF [] [(3,vS p10 out5 c10)]<|yU [(0,.pointer (some ad)),(3,vS p10 out5 c10),(4,vI t12),(5,vI to0),(11,vI (t.list.length:Int)),(12,vI t12)]<|zX ⟨_,_,_,_,(zC N).symm,H,h13,rfl,rfl⟩
     intro hc2 N;exact zY<|yU [(0,.pointer (some ad)),(3,vS p7 out2 c7),(4,vI t12),(5,vI to0),(11,vI (t.list.length:Int)),(12,vI t12)]<|zX ⟨_,_,_,_,(zC N).symm,H,h8,rfl,rfl⟩
   rintro I01 hs2 m2 ⟨out4,p9,c9,cs4,heq,le1,h11,rfl,rfl⟩;subst o0;have h:=h.mono le1;have h1:=h1.mono le1;have h2:=h2.mono le1;have h3:=h3.mono le1;have h4:=h4.mono le1;have hat:=hat.mono le1;have H:=H.trans le1;exact zU<|zD<|zR<|yF [] [(5,vI (W (to0 + 1)))]<|xF<|vE [(0,.pointer (some ad)),(3,vS p9 out4 c9),(4,vI t12),(5,vI (W (to0 + 1))),(11,vI (t.list.length:Int)),(12,vI t12)]<|ih out4 (W (to0 + 1)) _ hMc H h h1 h2 h3 h4 hat h11 hg ho hx
 intro hc1 N;exact xA<|zO<|zO<|yU [(0,.pointer (some ad)),(3,vS p7 out2 c7),(11,vI (t.list.length:Int)),(12,vI t12)]<|hx _ _ _ _ _ (zC N).symm H h8
def tL (t:tD) (out:List yL) (t12:Int):Option (List yL):=do
 if (decide (t12 < (t.list.length:Int))) then
  let out3←tK t t12 out (W (t12 + 1))
  tL t out3 (W (t12 + 1))
 else
  pure (id out)
 partial_fixpoint
theorem dI (t:tD):∀ (out:List yL) (t12:Int) (o:List yL),tL t out t12=some o→∀ {B}{I0 I:Imm}{Q}  {ad:Addr}{p c p1 c1 p2 c2 p3 c3 p4 c4 p5 c5 cs},I0.le I→(S4 I p t.Program.Arrays c)→(S4 I p1 t.Program.Parts c1)→(S4 I p2 t.list c2)→(S4 I p3 t.reads c3)→(S4 I p4 t.writes c4)→(At I ad [vS p t.Program.Arrays c,vS p1 t.Program.Parts c1,vS p2 t.list c2,vS p3 t.reads c3,vS p4 t.writes c4])→(RL I cs out)→NG Q→NO Q→(∀ (I':Imm) (out1:List yL) (p6:Option Addr) (c6:Nat) (cs1:List Value),o=out1→I0.le I'→(RL I' cs1 out1)→T 41 B Q (.exit 0) I' [hO yL (vS p6 out1 c6) cs1] [(3,vS p6 out1 c6)])→J Tryz.prog 41 B (nav (bodyOf Tryz.f41) [1,1,0,1,0]) Q I [hO yL (vS p5 out c5) cs] [(0,.pointer (some ad)),(3,vS p5 out c5),(11,vI (t.list.length:Int)),(12,vI t12)]:=by
 refine tL.partial_correctness t _ ?_;intro self ih out t12 o N B I0 I Q ad p c p1 c1 p2 c2 p3 c3 p4 c4 p5 c5 cs H h h1 h2 h3 h4 hat h6 hg ho hx;refine xE hg ho<|yG [(13,.bool (decide (t12 < (t.list.length:Int))))]<|yI<|yO N ?_ ?_
 · intro hc N;refine zY<|yI<|zV<|yG [(4,vI t12)]<|wX [(5,vI (W (t12 + 1)))]<|zD<|zV<|vE [(0,.pointer (some ad)),(3,vS p5 out c5),(4,vI t12),(5,vI (W (t12 + 1))),(11,vI (t.list.length:Int)),(12,vI t12)] ?_;obtain ⟨o01,ho01,hMl⟩:=zB N;refine dH t t12 out (W (t12 + 1)) o01 ho01 iR h h1 h2 h3 h4 hat h6 (fun _ _ _ h=>hg _ _ _ h) (fun _ _ h=>ho _ _ h) ?_;intro I02 out3 p8 c8 cs3 heq1 le2 h9;subst o01;have h:=h.mono le2;have h1:=h1.mono le2;have h2:=h2.mono le2;have h3:=h3.mono le2;have h4:=h4.mono le2;have hat:=hat.mono le2;have H:=H.trans le2;exact zW<|zU<|zD<|zR<|yF [] [(12,vI (W (t12 + 1)))]<|xF<|vE [(0,.pointer (some ad)),(3,vS p8 out3 c8),(11,vI (t.list.length:Int)),(12,vI (W (t12 + 1)))]<|ih out3 (W (t12 + 1)) _ hMl H h h1 h2 h3 h4 hat h9 hg ho hx
 intro hc N;exact xA<|zO<|zO<|yU [(3,vS p5 out c5)]<|hx _ _ _ _ _ (zC N).symm H h6
def mC (t:tD):Option ((List yL)):=do
 let out1←tL t ([]:List yL) 0
 pure (id out1)
theorem zAi:∀ (t:tD) r,mC t=some r→∀ {I:Imm}{ad:Addr}{p c p1 c1 p2 c2 p3 c3 p4 c4},(S4 I p t.Program.Arrays c)→(S4 I p1 t.Program.Parts c1)→(S4 I p2 t.list c2)→(S4 I p3 t.reads c3)→(S4 I p4 t.writes c4)→(At I ad [vS p t.Program.Arrays c,vS p1 t.Program.Parts c1,vS p2 t.list c2,vS p3 t.reads c3,vS p4 t.writes c4])→Ret Tryz.prog 41 [.pointer (some ad)] I [] (mK  r):=by
 intro t r N I ad p c p1 c1 p2 c2 p3 c3 p4 c4 h h1 h2 h3 h4 hat;unfold mC at N;refine yB (fn:=Tryz.f41) (c:=(bodyOf Tryz.f41)) Tryz.func41 rfl rfl ?_;rintro B - -;refine yG []<|wX [(3,z0)]<|yI<|yP<|yH 3 [] [(9,.pointer (some (ad.add 2)))]<|xT 2 hat [vS p2 t.list c2] (vS p2 t.list c2) rfl<|yF [] [(11,vI (t.list.length:Int)),(12,vI 0)]<|zD<|zV<|vE [(0,.pointer (some ad)),(3,z0),(11,vI (t.list.length:Int)),(12,vI 0)]<|qT (uN (Rp.sz yL)) ?_;have h5:RL I [] ([]:List yL):=RepL.nil;obtain ⟨o02,ho02,hMl1⟩:=zB N;refine dI t ([]:List yL) 0 o02 ho02 iR h h1 h2 h3 h4 hat h5 (fun _ _ _ h=>h) (fun _ _ h=>h) ?_;intro I03 out1 p6 c6 cs1 heq2 le3 h7;subst o02;refine zW<|wX [(2,vS p6 out1 c6)]<|zD<|yC<|xL 0 rfl ?_;intro I04 le4 hl0;have h14:=SL.of_frozen hl0 le4 h7;obtain rfl:=zC hMl1;exact xM ⟨_,_,(.tmp rfl ResV.nil),yE,⟨_,rfl,rfl,h14⟩⟩
def mD (p:zK):Option ((List yL)):=do
 let (y1,y2)←kZ p
 if (!y2) then
  pure ([]:List yL)
 else
  let t←y1
  let y3←mC t
  pure (id y3)
theorem zGR:∀ (p:zK) r,mD p=some r→∀ {I:Imm}{p1 c p2 c1},(S4 I p1 p.Arrays c)→(S4 I p2 p.Parts c1)→Ret Tryz.prog 15 [vA (cProg p p1 c p2 c1)] I [] (mK  r):=by
 intro p r N I p1 c p2 c1 h h1;unfold mD at N;refine yB (fn:=Tryz.f15) (c:=(bodyOf Tryz.f15)) Tryz.func15 rfl rfl ?_;rintro B - -;refine yP<|tM (cProg p p1 c p2 c1) ?_;intro b hb;refine yF [] []<|xQ<|yH 1 [0] [(6,vA (cProg p p1 c p2 c1))] ?_;obtain ⟨⟨y1,y2⟩,hy,N⟩:=zB N;refine yQ (zEV p _ hy h h1) ?_;rintro I0 hs2 v2 k2 le - ⟨v0,v01,rfl,rfl,h2,rfl⟩ -;refine yF [] [(3,v0),(4,.bool y2)]<|yI<|yG [(11,.bool (!y2))]<|zD<|yO N ?_ ?_
 · intro hc N;refine yG [(2,z0)]<|zD<|yC<|zN ?_;obtain rfl:=zC N;exact xM ⟨_,_,(.tmp rfl ResV.nil),yE,⟨_,rfl,rfl,(SL.nil _)⟩⟩
 intro hc N;refine zY<|xQ<|yH 1 [] [(12,v0)] ?_;obtain ⟨t,hy1,N⟩:=zB N;obtain ⟨ad,ccs,rfl,hat,hrep⟩:=zId h2 hy1;obtain ⟨v02,v03,v04,v05,v06,rfl,h4,h5,h6,h7,h8⟩:=zCV hrep;obtain ⟨p3,c2,rfl⟩:=h4.form;obtain ⟨p4,c3,rfl⟩:=h5.form;obtain ⟨p5,c4,rfl⟩:=h6.form;obtain ⟨p6,c5,rfl⟩:=h7.form;obtain ⟨p7,c6,rfl⟩:=h8.form;obtain ⟨y3,hy2,N⟩:=zB N;refine yQ (zAi t _ hy2 h4 h5 h6 h7 h8 hat) ?_;rintro I01 hs2 v2 k2 le1 - ⟨v07,rfl,rfl,h9⟩ -;obtain ⟨p8,c7,rfl⟩:=h9.form;refine yF [] [(2,vS p8 y3 c7)]<|zD<|yC ?_;obtain rfl:=zC N;exact xM ⟨_,_,(.tmp rfl ResV.nil),yE,⟨_,rfl,rfl,h9⟩⟩
def mZ (r:(List zQ)):KT:=fun kk I' hs' v=>
  ∃ v0,hs'=[]∧v=tupV [v0]∧SL I' v0 r
def pC (p:zK):Option ((List zQ)):=do
 let (y1,y2)←tC p
 if (!y2) then
  pure ([]:List zQ)
 else
  pure (id y1)
theorem zEW:∀ (p:zK) r,pC p=some r→∀ {I:Imm}{p1 c p2 c1},(S4 I p1 p.Arrays c)→(S4 I p2 p.Parts c1)→Ret Tryz.prog 19 [vA (cProg p p1 c p2 c1)] I [] (mZ  r):=by
 intro p r N I p1 c p2 c1 h h1;unfold pC at N;refine yB (fn:=Tryz.f19) (c:=(bodyOf Tryz.f19)) Tryz.func19 rfl rfl ?_;rintro B - -;refine yP<|tM (cProg p p1 c p2 c1) ?_;intro b hb;refine yF [] []<|xQ<|yH 1 [0] [(6,vA (cProg p p1 c p2 c1))] ?_;obtain ⟨⟨y1,y2⟩,hy,N⟩:=zB N;refine yQ (kG p _ hy h h1) ?_;rintro I0 hs2 v2 k2 le - ⟨v0,v01,rfl,rfl,h2,rfl⟩ -;obtain ⟨p3,c2,rfl⟩:=h2.form;refine yF [] [(3,vS p3 y1 c2),(4,.bool y2)]<|yI<|yG [(11,.bool (!y2))]<|zD<|yO N ?_ ?_
 · intro hc N;refine yG [(2,z0)]<|zD<|yC<|zN ?_;obtain rfl:=zC N;exact xM ⟨_,_,(.tmp rfl ResV.nil),yE,⟨_,rfl,rfl,(SL.nil _)⟩⟩
 intro hc N;refine zY<|wX [(2,vS p3 y1 c2)]<|zD<|yC ?_;obtain rfl:=zC N;exact xM ⟨_,_,(.tmp rfl ResV.nil),yE,⟨_,rfl,rfl,h2⟩⟩
def zHI (r:(List Int)):KT:=fun kk I' hs' v=>
  ∃ v0,hs'=[]∧v=tupV [v0]∧SL I' v0 r
def wF (p:zK) (i:Int) (y:(List (List Int))) (k0:Int) (out4:List zQ) (s:Int):Option (List zQ):=do
 let x1←idx p.Parts i
 if (decide (s < (x1.Body.length:Int))) then
  let x2←idx y k0
  let l←app 8 ([]:List Int) x2
  let out6←app 40 out4 ([(zQ.mk i s l)]:List zQ)
  wF p i y k0 out6 (W (s + 1))
 else
  pure (id out4)
 partial_fixpoint
theorem dJ (p:zK) (i:Int) (y:(List (List Int))) (k0:Int):∀ (out4:List zQ) (s:Int) (o:List zQ),wF p i y k0 out4 s=some o→∀ {B}{I0 I:Imm}{Q p1 c p2 c1}{b:Nat}{p7 c6 cs2 p10 c9 cs5},I0.le I→(RL I cs2 y)→(S4 I p1 p.Arrays c)→(S4 I p2 p.Parts c1)→(RL I cs5 out4)→NG Q→NO Q→(∀ (I':Imm) (out5:List zQ) (p11:Option Addr) (c10:Nat) (cs6:List Value),o=out5→I0.le I'→(RL I' cs6 out5)→T 54 B Q (.exit 4) I' [hO (List Int) (vS p7 y c6) cs2,hO zQ (vS p11 out5 c10) cs6,hB b (cProg p p1 c p2 c1)] [(1,vP b 0),(3,vS p11 out5 c10),(4,vI i),(5,vS p7 y c6),(6,vI k0)])→J Tryz.prog 54 B (nav (bodyOf Tryz.f60) [1,1,0,1,0,0,1,0,0,1,1,0,0,1,0,0,1,0]) Q I [hO (List Int) (vS p7 y c6) cs2,hO zQ (vS p10 out4 c9) cs5,hB b (cProg p p1 c p2 c1)] [(1,vP b 0),(3,vS p10 out4 c9),(4,vI i),(5,vS p7 y c6),(6,vI k0),(7,vI s)]:=by
 refine wF.partial_correctness p i y k0 _ ?_;intro self ih out4 s o N B I0 I Q p1 c p2 c1 b p7 c6 cs2 p10 c9 cs5 H h8 h h1 h11 hg ho hx;refine xE hg ho<|yJ<|yP<|yH 4 [2] [(30,vI s),(32,vS p2 p.Parts c1),(33,vI i)] ?_;obtain ⟨x1,hy2,N⟩:=zB N;refine xX rfl rfl h1 hy2 ?_;intro ad1 ccs1 hat1 hrep1;obtain ⟨v02,v03,rfl,h13,h14⟩:=wT hrep1;obtain ⟨p12,c11,rfl⟩:=h13.form;obtain ⟨p13,c12,rfl⟩:=h14.form;refine yH 6 [] [(35,.pointer (some (ad1.add 1)))]<|xT 1 hat1 [vS p13 x1.Body c12] (vS p13 x1.Body c12) rfl<|yF [] [(38,.bool (decide (s < (x1.Body.length:Int))))]<|zD<|yO N ?_ ?_
 · intro hc2 N;refine zY<|yI<|zV<|zR<|yH 3 [] [(41,vS p10 out4 c9),(42,vI i),(43,vI s)]<|xW [] Int ?_;intro b3 hb3;have h15:RL I [] ([]:List Int):=rfl;refine yH 6 [] [(45,vS p7 y c6),(46,vI k0)] ?_;obtain ⟨x2,hy3,N⟩:=zB N;refine mP 1 rfl rfl rfl h8 hy3 ?_;intro ad2 ccs2 hat2 hcc hrep2;obtain ⟨v04,rfl,h16⟩:=hrep2;obtain ⟨p14,c13,rfl⟩:=h16.form;refine zCv 1 0 hat2 hcc [vS p14 x2 c13] (vS p14 x2 c13) rfl rfl ?_;obtain ⟨ccs3,k01,k02⟩:=h16;have h16:SL I (vS p14 x2 c13) x2:=⟨_,k01,k02⟩;obtain ⟨l,hy4,N⟩:=zB N;refine qU 3 1 0 rfl rfl rfl h15 (.inl k01) k02 hy4 ?_;intro p15 c14 cs7 h17;refine rV (zH [0,1,2,3] (hs':=[hO Int (vS p15 l c14) cs7,hO (List Int) (vS p7 y c6) cs2,hO zQ (vS p10 out4 c9) cs5,hB b (cProg p p1 c p2 c1)]) rfl (by decide))<|yH 10 [] [(50,vA [vI i,vI s,vS p15 l c14])]<|yK 0 rfl ?_;intro I01 le1 hl0;have h18:=SL.of_frozen hl0 le1 h17;have h8:=iM le1 h8;have h11:=iM le1 h11;have h:=h.mono le1;have h1:=h1.mono le1;have H:=H.trans le1;refine xW [vI i,vI s,vS p15 l c14] zQ ?_;intro b4 hb4;have h19:RL I01 [vI i,vI s,vS p15 l c14] ([(zQ.mk i s l)]:List zQ):=⟨[vI i,vI s,vS p15 l c14],_,rfl,rfl,(gL ⟨_,rfl,h18⟩),rfl⟩;obtain ⟨out6,hy5,N⟩:=zB N;refine qU 80 3 2 rfl rfl rfl h11 (.inr ⟨0,rfl⟩) h19 hy5 ?_;intro p16 c15 cs8 h20;exact rV (zH [1,2,3] (hs':=[hO (List Int) (vS p7 y c6) cs2,hO zQ (vS p16 out6 c15) cs8,hB b (cProg p p1 c p2 c1)]) rfl (by decide))<|yF [] [(3,vS p16 out6 c15)]<|zU<|zD<|zR<|yF [] [(7,vI (W (s + 1)))]<|xF<|vE [(1,vP b 0),(3,vS p16 out6 c15),(4,vI i),(5,vS p7 y c6),(6,vI k0),(7,vI (W (s + 1)))]<|ih out6 (W (s + 1)) _ N H h8 h h1 h20 hg ho hx
 intro hc2 N;exact xA<|zO<|zO<|yU [(1,vP b 0),(3,vS p10 out4 c9),(4,vI i),(5,vS p7 y c6),(6,vI k0)]<|hx _ _ _ _ _ (zC N).symm H h11
def wG (p:zK) (i:Int) (y:(List (List Int))) (out2:List zQ) (k0:Int):Option (List zQ):=do
 if (decide (k0 < (y.length:Int))) then
  let out5←wF p i y k0 out2 0
  wG p i y out5 (W (k0 + 1))
 else
  pure (id out2)
 partial_fixpoint
theorem dK (p:zK) (i:Int) (y:(List (List Int))):∀ (out2:List zQ) (k0:Int) (o:List zQ),wG p i y out2 k0=some o→∀ {B}{I0 I:Imm}{Q p1 c p2 c1}{b:Nat}{p7 c6 cs2 p8 c7 cs3},I0.le I→(RL I cs2 y)→(S4 I p1 p.Arrays c)→(S4 I p2 p.Parts c1)→(RL I cs3 out2)→NG Q→NO Q→(∀ (I':Imm) (out3:List zQ) (p9:Option Addr) (c8:Nat) (cs4:List Value),o=out3→I0.le I'→(RL I' cs4 out3)→T 54 B Q (.exit 2) I' [hO zQ (vS p9 out3 c8) cs4,hB b (cProg p p1 c p2 c1)] [(1,vP b 0),(3,vS p9 out3 c8),(4,vI i)])→J Tryz.prog 54 B (nav (bodyOf Tryz.f60) [1,1,0,1,0,0,1,0,0,1,1,0]) Q I [hO (List Int) (vS p7 y c6) cs2,hO zQ (vS p8 out2 c7) cs3,hB b (cProg p p1 c p2 c1)] [(1,vP b 0),(3,vS p8 out2 c7),(4,vI i),(5,vS p7 y c6),(6,vI k0)]:=by
 refine wG.partial_correctness p i y _ ?_;intro self ih out2 k0 o N B I0 I Q p1 c p2 c1 b p7 c6 cs2 p8 c7 cs3 H h8 h h1 h9 hg ho hx;refine xE hg ho<|yJ<|yG [(27,.bool (decide (k0 < (y.length:Int))))]<|zD<|yO N ?_ ?_
 · intro hc1 N;refine zY<|yI<|zV<|yG [(7,vI 0)]<|zD<|zV<|vE [(1,vP b 0),(3,vS p8 out2 c7),(4,vI i),(5,vS p7 y c6),(6,vI k0),(7,vI 0)] ?_;obtain ⟨o0,ho0,hMl⟩:=zB N;refine dJ p i y k0 out2 0 o0 ho0 iR h8 h h1 h9 (fun _ _ _ h=>hg _ _ _ h) (fun _ _ h=>ho _ _ h) ?_;intro I02 out5 p11 c10 cs6 heq le2 h12;subst o0;have h8:=iM le2 h8;have h:=h.mono le2;have h1:=h1.mono le2;have H:=H.trans le2;exact zW<|zU<|zD<|zR<|yF [] [(6,vI (W (k0 + 1)))]<|xF<|vE [(1,vP b 0),(3,vS p11 out5 c10),(4,vI i),(5,vS p7 y c6),(6,vI (W (k0 + 1)))]<|ih out5 (W (k0 + 1)) _ hMl H h8 h h1 h12 hg ho hx
 intro hc1 N;exact xA<|zO<|zO<|wJ (zH [1,2] rfl (by decide))<|yU [(1,vP b 0),(3,vS p8 out2 c7),(4,vI i)]<|hx _ _ _ _ _ (zC N).symm H h9
def wH (p:zK) (out:List zQ) (i:Int):Option (List zQ):=do
 if (decide (i < (p.Parts.length:Int))) then
  let x←idx p.Parts i
  let y←vC ([]:List (List Int)) x.Nest ([]:List Int)
  let out3←wG p i y out 0
  wH p out3 (W (i + 1))
 else
  pure (id out)
 partial_fixpoint
theorem dL (p:zK):∀ (out:List zQ) (i:Int) (o:List zQ),wH p out i=some o→∀ {B}{I0 I:Imm}{Q p1 c p2 c1}{b:Nat}{p3 c2 cs},I0.le I→(S4 I p1 p.Arrays c)→(S4 I p2 p.Parts c1)→(RL I cs out)→NG Q→NO Q→(∀ (I':Imm) (out1:List zQ) (p4:Option Addr) (c3:Nat) (cs1:List Value),o=out1→I0.le I'→(RL I' cs1 out1)→T 54 B Q (.exit 0) I' [hO zQ (vS p4 out1 c3) cs1] [(3,vS p4 out1 c3)])→J Tryz.prog 54 B (nav (bodyOf Tryz.f60) [1,1,0,1,0]) Q I [hO zQ (vS p3 out c2) cs,hB b (cProg p p1 c p2 c1)] [(1,vP b 0),(3,vS p3 out c2),(4,vI i)]:=by
 refine wH.partial_correctness p _ ?_;intro self ih out i o N B I0 I Q p1 c p2 c1 b p3 c2 cs H h h1 h3 hg ho hx;refine xE hg ho<|yJ<|yP<|yF [1] [(13,.bool (decide (i < (p.Parts.length:Int))))]<|zD<|yO N ?_ ?_
 · intro hc N;refine zY<|yI<|zV<|yP<|xW [] (List Int) ?_;intro b2 hb2;have h5:RL I [] ([]:List (List Int)):=rfl;refine yH 4 [2] [(18,vS p2 p.Parts c1),(19,vI i)] ?_;obtain ⟨x,hy,N⟩:=zB N;refine xX rfl rfl h1 hy ?_;intro ad ccs hat hrep;obtain ⟨v0,v01,rfl,h6,h7⟩:=wT hrep;obtain ⟨p5,c4,rfl⟩:=h6.form;obtain ⟨p6,c5,rfl⟩:=h7.form;refine yH 6 [] [(21,.pointer (some ad))]<|xT 0 hat [vS p5 x.Nest c4] (vS p5 x.Nest c4) rfl ?_;obtain ⟨y,hy1,N⟩:=zB N;refine sN [hO (List Int) (vS (some ⟨b2,0,none⟩) ([]:List (List Int)) 0) []] [hO zQ (vS p3 out c2) cs,hB b (cProg p p1 c p2 c1)] (eF ([]:List (List Int)) x.Nest ([]:List Int) _ hy1 h5 h6 (SL.nil _)) ?_;rintro I0 hs2 v2 k2 le - ⟨p7,c6,cs2,rfl,rfl,h8⟩ -;have h3:=iM le h3;have h:=h.mono le;have h1:=h1.mono le;have H:=H.trans le;refine yF [] [(5,vS p7 y c6)]<|wX [(6,vI 0)]<|zD<|zV<|vE [(1,vP b 0),(3,vS p3 out c2),(4,vI i),(5,vS p7 y c6),(6,vI 0)] ?_;obtain ⟨o01,ho01,hMl1⟩:=zB N;refine dK p i y out 0 o01 ho01 iR h8 h h1 h3 (fun _ _ _ h=>hg _ _ _ h) (fun _ _ h=>ho _ _ h) ?_;intro I03 out3 p9 c8 cs4 heq1 le3 h10;subst o01;have h:=h.mono le3;have h1:=h1.mono le3;have H:=H.trans le3;exact zW<|zU<|zD<|zR<|yF [] [(4,vI (W (i + 1)))]<|xF<|vE [(1,vP b 0),(3,vS p9 out3 c8),(4,vI (W (i + 1)))]<|ih out3 (W (i + 1)) _ hMl1 H h h1 h10 hg ho hx
 intro hc N;exact xA<|zO<|zO<|wJ (zH [0] rfl (by decide))<|yU [(3,vS p3 out c2)]<|hx _ _ _ _ _ (zC N).symm H h3
def sV (p:zK):Option ((List zQ)):=do
 let out1←wH p ([]:List zQ) 0
 pure (id out1)
theorem zAj:∀ (p:zK) r,sV p=some r→∀ {I:Imm}{p1 c p2 c1},(S4 I p1 p.Arrays c)→(S4 I p2 p.Parts c1)→Ret Tryz.prog 60 [vA (cProg p p1 c p2 c1)] I [] (mZ  r):=by
 intro p r N I p1 c p2 c1 h h1;unfold sV at N;refine yB (fn:=Tryz.f60) (c:=(bodyOf Tryz.f60)) Tryz.func60 rfl rfl ?_;rintro B - -;refine yP<|tM (cProg p p1 c p2 c1) ?_;intro b hb;refine yF [] []<|xQ<|xW [] zQ ?_;intro b1 hb1;have h2:RL I [] ([]:List zQ):=rfl;refine yF [] [(3,vS (some ⟨b1,0,none⟩) ([]:List zQ) 0)]<|yI<|yG [(4,vI 0)]<|zD<|zV<|vE [(1,vP b 0),(3,vS (some ⟨b1,0,none⟩) ([]:List zQ) 0),(4,vI 0)] ?_;obtain ⟨o02,ho02,hMl2⟩:=zB N;refine dL p ([]:List zQ) 0 o02 ho02 iR h h1 h2 (fun _ _ _ h=>h) (fun _ _ h=>h) ?_;intro I04 out1 p4 c3 cs1 heq2 le4 h4;subst o02;refine zW<|wX [(2,vS p4 out1 c3)]<|zD<|yC<|xL 0 rfl ?_;intro I05 le5 hl01;have h21:=SL.of_frozen hl01 le5 h4;obtain rfl:=zC hMl2;exact xM ⟨_,_,(.tmp rfl ResV.nil),yE,⟨_,rfl,rfl,h21⟩⟩
def zCi (r:(List xH)):KT:=fun kk I' hs' v=>
  ∃ v0,hs'=[]∧v=tupV [v0]∧SL I' v0 r
def qM (p:zK) (y:(List zQ)) (out:List xH) (i:Int):Option (List xH):=do
 if (decide (i < (y.length:Int))) then
  let x←idx y i
  let x1←idx p.Parts x.Part
  let x2←idx y i
  let x3←idx x1.Body x2.Stmt
  let x4←idx y i
  let (y2,y3,y4)←qW p.Arrays x3 x4.Point
  let out2←app 32 out ([(xH.mk y2 y3)]:List xH)
  qM p y out2 (W (i + 1))
 else
  pure (id out)
 partial_fixpoint
theorem zCD (p:zK) (y:(List zQ)):∀ (out:List xH) (i:Int) (o:List xH),qM p y out i=some o→∀ {B}{I0 I:Imm}{Q p1 c p2 c1}{b:Nat}{p3 c2 p4 c3 cs},I0.le I→(S4 I p3 y c2)→(S4 I p1 p.Arrays c)→(S4 I p2 p.Parts c1)→(RL I cs out)→NG Q→NO Q→(∀ (I':Imm) (out1:List xH) (p5:Option Addr) (c4:Nat) (cs1:List Value),o=out1→I0.le I'→(RL I' cs1 out1)→T 54 B Q (.exit 0) I' [hO xH (vS p5 out1 c4) cs1] [(3,vS p5 out1 c4)])→J Tryz.prog 54 B (nav (bodyOf Tryz.f80) [1,1,1,0,1,0]) Q I [hO xH (vS p4 out c3) cs,hB b (cProg p p1 c p2 c1)] [(1,vP b 0),(3,vS p4 out c3),(4,vS p3 y c2),(5,vI i)]:=by
 refine qM.partial_correctness p y _ ?_;intro self ih out i o N B I0 I Q p1 c p2 c1 b p3 c2 p4 c3 cs H h3 h h1 h4 hg ho hx;refine xE hg ho<|yJ<|yG [(15,.bool (decide (i < (y.length:Int))))]<|zD<|yO N ?_ ?_
 · intro hc N;refine zY<|yI<|zV<|yJ ?_;obtain ⟨x,hy1,N⟩:=zB N;obtain ⟨x1,hy2,N⟩:=zB N;obtain ⟨x2,hy3,N⟩:=zB N;obtain ⟨x3,hy4,N⟩:=zB N;obtain ⟨x4,hy5,N⟩:=zB N;obtain ⟨⟨y2,y3,y4⟩,hy6,N⟩:=zB N;refine vR [.p (vP b 0) [],.p (vS p1 p.Arrays c) [1],.p (vP b 1) [],.p (vS p2 p.Parts c1) [1],.p (vS p3 y c2) [],.p (vI i) [],.x (fun I' v hx=>∃ ad p6 c5,v=.pointer (some ad)∧hx=[]∧(At I' ad (cInst x p6 c5))∧(S4 I' p6 x.Point c5)),.x (fun I' v hx=>∃ ad1 p61 c51,v=.pointer (some ad1)∧hx=[]∧(At I' ad1 (cInst x p61 c51))∧(S4 I' p61 x.Point c51)),.q (vI x.Part),.x (fun I' v hx=>∃ ad2 p7 c6 p8 c7,v=.pointer (some ad2)∧hx=[]∧(At I' ad2 (cPart x1 p7 c6 p8 c7))∧(S4 I' p7 x1.Nest c6)∧(S4 I' p8 x1.Body c7)),.x (fun I' v hx=>∃ ad21 p71 c61 p81 c71,v=.pointer (some (ad21.add 1))∧hx=[]∧(At I' ad21 (cPart x1 p71 c61 p81 c71))∧(S4 I' p71 x1.Nest c61)∧(S4 I' p81 x1.Body c71)),.x (fun I' v hx=>∃ p811 c711,v=vS p811 x1.Body c711∧hx=[]∧(S4 I' p811 x1.Body c711)),.p (vS p3 y c2) [],.p (vI i) [],.x (fun I' v hx=>∃ ad3 p9 c8,v=.pointer (some ad3)∧hx=[]∧(At I' ad3 (cInst x2 p9 c8))∧(S4 I' p9 x2.Point c8)),.x (fun I' v hx=>∃ ad31 p91 c81,v=.pointer (some (ad31.add 1))∧hx=[]∧(At I' ad31 (cInst x2 p91 c81))∧(S4 I' p91 x2.Point c81)),.q (vI x2.Stmt),.x (fun I' v hx=>∃ ad4 p10 c9 p11 c10 p12 c11 p13 c12,v=.pointer (some ad4)∧hx=[]∧(At I' ad4 (cStmt x3 p10 c9 p11 c10 p12 c11 p13 c12))∧(S4 I' p10 x3.Write.Subs c9)∧(S4 I' p11 x3.Value.Index.Coefs c10)∧(S4 I' p12 x3.Value.Read.Subs c11)∧(S4 I' p13 x3.Value.Kids c12)),.x (fun I' v hx=>∃ p101 c91 p111 c101 p121 c111 p131 c121,v=vA (cStmt x3 p101 c91 p111 c101 p121 c111 p131 c121)∧hx=[]∧(S4 I' p101 x3.Write.Subs c91)∧(S4 I' p111 x3.Value.Index.Coefs c101)∧(S4 I' p121 x3.Value.Read.Subs c111)∧(S4 I' p131 x3.Value.Kids c121)),.p (vS p3 y c2) [],.p (vI i) [],.x (fun I' v hx=>∃ ad5 p14 c13,v=.pointer (some ad5)∧hx=[]∧(At I' ad5 (cInst x4 p14 c13))∧(S4 I' p14 x4.Point c13)),.x (fun I' v hx=>∃ ad51 p141 c131,v=.pointer (some (ad51.add 2))∧hx=[]∧(At I' ad51 (cInst x4 p141 c131))∧(S4 I' p141 x4.Point c131)),.x (fun I' v hx=>∃ p1411 c1311,v=vS p1411 x4.Point c1311∧hx=[]∧(S4 I' p1411 x4.Point c1311)),.x (fun I' v hx=>∃ p15 c14,v=.tuple ⟨[vS p15 y2 c14,vI y3,.bool y4]⟩∧hx=[]∧(S4 I' p15 y2 c14)),.x (fun I' v hx=>∃ p151 c141,v=.tuple ⟨[vS p151 y2 c141,vI y3,.bool y4]⟩∧hx=[]∧(S4 I' p151 y2 c141)),.x (fun I' v hx=>∃ p1511 c1411,v=vS p1511 y2 c1411∧hx=[]∧(S4 I' p1511 y2 c1411)),.q (vI y3),.q (.bool y4),.x (fun I' v hx=>∃ p15111 c14111,v=vS p15111 y2 c14111∧hx=[]∧(S4 I' p15111 y2 c14111)),.p (vI y3) []] [[],[(0,false)],[],[(2,false)],[],[],[(4,false),(5,false)],[(6,false)],[(7,false)],[(3,false),(8,false)],[(9,false)],[(10,false)],[],[],[(12,false),(13,false)],[(14,false)],[(15,false)],[(11,false),(16,false)],[(17,false)],[],[],[(19,false),(20,false)],[(21,false)],[(22,false)],[(1,false),(18,false),(23,false)],[(24,false)],[(25,false)],[(25,false)],[(25,false)],[(26,false)],[(27,false)]] [hO xH (vS p4 out c3) cs,hB b (cProg p p1 c p2 c1)] [] [(28,false),(29,false),(30,false)] (zH [0,1] rfl (by decide)) ?_ ?_
   · refine Op<|Op<|Op<|Op<|Op<|Op<|Ox ?_<|Ox ?_<|Oq ?_<|Ox ?_<|Ox ?_<|Ox ?_<|Op<|Op<|Ox ?_<|Ox ?_<|Oq ?_<|Ox ?_<|Ox ?_<|Op<|Op<|Ox ?_<|Ox ?_<|Ox ?_<|Ox ?_<|Ox ?_<|Ox ?_<|Oq ?_<|Oq ?_<|Ox ?_<|Op<|On
     · intro I1 hf le1;refine yT [(23,vS p3 y c2),(24,vI i)] ?_;have h3:=h3.mono le1;refine xX rfl rfl h3 hy1 ?_;intro ad ccs hat hrep;obtain ⟨v01,rfl,h6⟩:=nV hrep;obtain ⟨p6,c5,rfl⟩:=h6.form;exact yS [] iR ⟨_,_,_,rfl,rfl,hat,h6⟩
     · intro I1 hf le1;refine zI ?_;rintro _ _ ⟨ad,p6,c5,rfl,rfl,hat,h6⟩;exact yT [(25,.pointer (some ad))]<|qY 8 [(26,.pointer (some ad))]<|yS [] iR ⟨_,_,_,rfl,rfl,hat,h6⟩
     · intro I1 hf le1;refine zI ?_;rintro _ _ ⟨ad1,p61,c51,rfl,rfl,hat1,h61⟩;exact yT [(26,.pointer (some ad1))]<|xT 0 hat1 [vI x.Part] (vI x.Part) rfl<|xN iR
     · intro I1 hf le1;refine yT [(22,vS p2 p.Parts c1),(27,vI x.Part)] ?_;have h1:=h1.mono le1;refine xX rfl rfl h1 hy2 ?_;intro ad2 ccs1 hat2 hrep1;obtain ⟨v02,v03,rfl,h7,h8⟩:=wT hrep1;obtain ⟨p7,c6,rfl⟩:=h7.form;obtain ⟨p8,c7,rfl⟩:=h8.form;exact yS [] iR ⟨_,_,_,_,_,rfl,rfl,hat2,h7,h8⟩
     · intro I1 hf le1;refine zI ?_;rintro _ _ ⟨ad2,p7,c6,p8,c7,rfl,rfl,hat2,h7,h8⟩;exact yT [(28,.pointer (some ad2))]<|qY 11 [(29,.pointer (some (ad2.add 1)))]<|yS [] iR ⟨_,_,_,_,_,rfl,rfl,hat2,h7,h8⟩
     · intro I1 hf le1;refine zI ?_;rintro _ _ ⟨ad21,p71,c61,p81,c71,rfl,rfl,hat21,h71,h81⟩;exact yT [(29,.pointer (some (ad21.add 1)))]<|xT 1 hat21 [vS p81 x1.Body c71] (vS p81 x1.Body c71) rfl<|yS [] iR ⟨_,_,rfl,rfl,h81⟩
     · intro I1 hf le1;refine yT [(31,vS p3 y c2),(32,vI i)] ?_;have h3:=h3.mono le1;refine xX rfl rfl h3 hy3 ?_;intro ad3 ccs2 hat3 hrep2;obtain ⟨v04,rfl,h9⟩:=nV hrep2;obtain ⟨p9,c8,rfl⟩:=h9.form;exact yS [] iR ⟨_,_,_,rfl,rfl,hat3,h9⟩
     · intro I1 hf le1;refine zI ?_;rintro _ _ ⟨ad3,p9,c8,rfl,rfl,hat3,h9⟩;exact yT [(33,.pointer (some ad3))]<|qY 16 [(34,.pointer (some (ad3.add 1)))]<|yS [] iR ⟨_,_,_,rfl,rfl,hat3,h9⟩
     · intro I1 hf le1;refine zI ?_;rintro _ _ ⟨ad31,p91,c81,rfl,rfl,hat31,h91⟩;exact yT [(34,.pointer (some (ad31.add 1)))]<|xT 1 hat31 [vI x2.Stmt] (vI x2.Stmt) rfl<|xN iR
     · intro I1 hf le1;refine zI ?_;rintro _ _ ⟨p811,c711,rfl,rfl,h811⟩;refine yT [(30,vS p811 x1.Body c711),(35,vI x2.Stmt)]<|xX rfl rfl h811 hy4 ?_;intro ad4 ccs3 hat4 hrep3;obtain ⟨v05,v06,v07,v08,rfl,h10,h11,h12,h13⟩:=wA hrep3;obtain ⟨p10,c9,rfl⟩:=h10.form;obtain ⟨p11,c10,rfl⟩:=h11.form;obtain ⟨p12,c11,rfl⟩:=h12.form;obtain ⟨p13,c12,rfl⟩:=h13.form;exact yS [] iR ⟨_,_,_,_,_,_,_,_,_,rfl,rfl,hat4,h10,h11,h12,h13⟩
     · intro I1 hf le1;refine zI ?_;rintro _ _ ⟨ad4,p10,c9,p11,c10,p12,c11,p13,c12,rfl,rfl,hat4,h10,h11,h12,h13⟩;exact yT [(36,.pointer (some ad4))]<|xT 0 hat4 (cStmt x3 p10 c9 p11 c10 p12 c11 p13 c12) (vA (cStmt x3 p10 c9 p11 c10 p12 c11 p13 c12)) rfl<|yS [] iR ⟨_,_,_,_,_,_,_,_,rfl,rfl,h10,h11,h12,h13⟩
     · intro I1 hf le1;refine yT [(38,vS p3 y c2),(39,vI i)] ?_;have h3:=h3.mono le1;refine xX rfl rfl h3 hy5 ?_;intro ad5 ccs4 hat5 hrep4;obtain ⟨v09,rfl,h14⟩:=nV hrep4;obtain ⟨p14,c13,rfl⟩:=h14.form;exact yS [] iR ⟨_,_,_,rfl,rfl,hat5,h14⟩
     · intro I1 hf le1;refine zI ?_;rintro _ _ ⟨ad5,p14,c13,rfl,rfl,hat5,h14⟩;exact yT [(40,.pointer (some ad5))]<|qY 23 [(41,.pointer (some (ad5.add 2)))]<|yS [] iR ⟨_,_,_,rfl,rfl,hat5,h14⟩
     · intro I1 hf le1;refine zI ?_;rintro _ _ ⟨ad51,p141,c131,rfl,rfl,hat51,h141⟩;exact yT [(41,.pointer (some (ad51.add 2)))]<|xT 2 hat51 [vS p141 x4.Point c131] (vS p141 x4.Point c131) rfl<|yS [] iR ⟨_,_,rfl,rfl,h141⟩
     · intro I1 hf le1;refine zI ?_;rintro _ _ ⟨rfl,rfl⟩;refine zI ?_;rintro _ _ ⟨p101,c91,p111,c101,p121,c111,p131,c121,rfl,rfl,h101,h111,h121,h131⟩;refine zI ?_;rintro _ _ ⟨p1411,c1311,rfl,rfl,h1411⟩;refine yT [(20,vS p1 p.Arrays c),(37,vA (cStmt x3 p101 c91 p111 c101 p121 c111 p131 c121)),(42,vS p1411 x4.Point c1311)] ?_;have H:=iS I1;have h:=h.mono le1;refine yQ (dT p.Arrays x3 x4.Point _ hy6 h h101 h111 h121 h131 h1411) ?_;rintro I01 hs2 v2 k2 le1 - ⟨v010,v011,v012,rfl,rfl,h15,rfl,rfl⟩ -;have H:=H.trans le1;obtain ⟨p15,c14,rfl⟩:=h15.form;exact yS [] H ⟨_,_,rfl,rfl,h15⟩
     · intro I1 hf le1;refine zI ?_;rintro _ _ ⟨p15,c14,rfl,rfl,h15⟩;exact yT [(43,.tuple ⟨[vS p15 y2 c14,vI y3,.bool y4]⟩)]<|qY 26 [(18,.tuple ⟨[vS p15 y2 c14,vI y3,.bool y4]⟩)]<|yS [] iR ⟨_,_,rfl,rfl,h15⟩
     · intro I1 hf le1;refine zI ?_;rintro _ _ ⟨p151,c141,rfl,rfl,h151⟩;exact yT [(18,.tuple ⟨[vS p151 y2 c141,vI y3,.bool y4]⟩)]<|qY 27 [(44,vS p151 y2 c141)]<|yS [] iR ⟨_,_,rfl,rfl,h151⟩
     · intro I1 hf le1;refine zI ?_;rintro _ _ ⟨p151,c141,rfl,rfl,h151⟩;exact yT [(18,.tuple ⟨[vS p151 y2 c141,vI y3,.bool y4]⟩)]<|qY 28 [(45,vI y3)]<|xN iR
     · intro I1 hf le1;refine zI ?_;rintro _ _ ⟨p151,c141,rfl,rfl,h151⟩;exact yT [(18,.tuple ⟨[vS p151 y2 c141,vI y3,.bool y4]⟩)]<|qY 29 [(46,.bool y4)]<|xN iR
     intro I1 hf le1;refine zI ?_;rintro _ _ ⟨p1511,c1411,rfl,rfl,h1511⟩;exact yT [(44,vS p1511 y2 c1411)]<|qY 30 [(6,vS p1511 y2 c1411)]<|yS [] iR ⟨_,_,rfl,rfl,h1511⟩
   intro I02 le2;refine zI ?_;rintro _ _ ⟨rfl,rfl⟩;refine zI ?_;rintro _ _ ⟨p15111,c14111,rfl,rfl,h15111⟩;refine yT [(1,vP b 0),(3,vS p4 out c3),(4,vS p3 y c2),(5,vI i),(6,vS p15111 y2 c14111),(7,vI y3),(46,.bool y4)] ?_;have h4:=iM le2 h4;have h3:=h3.mono le2;have h:=h.mono le2;have h1:=h1.mono le2;have H:=H.trans le2;refine yF [] []<|zD<|zR<|yH 4 [] [(47,vS p4 out c3),(50,vA [vS p15111 y2 c14111,vI y3])]<|xW [vS p15111 y2 c14111,vI y3] xH ?_;intro b2 hb2;have h18:RL I02 [vS p15111 y2 c14111,vI y3] ([(xH.mk y2 y3)]:List xH):=⟨[vS p15111 y2 c14111,vI y3],_,rfl,rfl,(zCw ⟨_,rfl,h15111⟩),rfl⟩;obtain ⟨out2,hy7,N⟩:=zB N;refine qU 108 2 1 rfl rfl rfl h4 (.inr ⟨0,rfl⟩) h18 hy7 ?_;intro p16 c15 cs2 h19;exact rV (zH [1,2] (hs':=[hO xH (vS p16 out2 c15) cs2,hB b (cProg p p1 c p2 c1)]) rfl (by decide))<|yF [] [(3,vS p16 out2 c15)]<|zU<|zD<|zR<|yF [] [(5,vI (W (i + 1)))]<|xF<|vE [(1,vP b 0),(3,vS p16 out2 c15),(4,vS p3 y c2),(5,vI (W (i + 1)))]<|ih out2 (W (i + 1)) _ N H h3 h h1 h19 hg ho hx
 intro hc N;exact xA<|zO<|zO<|wJ (zH [0] rfl (by decide))<|yU [(3,vS p4 out c3)]<|hx _ _ _ _ _ (zC N).symm H h4
def kQ (p:zK):Option ((List xH)):=do
 let y←sV p
 let out1←qM p y ([]:List xH) 0
 pure (id out1)
theorem zDu:∀ (p:zK) r,kQ p=some r→∀ {I:Imm}{p1 c p2 c1},(S4 I p1 p.Arrays c)→(S4 I p2 p.Parts c1)→Ret Tryz.prog 80 [vA (cProg p p1 c p2 c1)] I [] (zCi  r):=by
 intro p r N I p1 c p2 c1 h h1;unfold kQ at N;refine yB (fn:=Tryz.f80) (c:=(bodyOf Tryz.f80)) Tryz.func80 rfl rfl ?_;rintro B - -;refine yP<|tM (cProg p p1 c p2 c1) ?_;intro b hb;refine yF [] []<|xQ<|xW [] xH ?_;intro b1 hb1;have h2:RL I [] ([]:List xH):=rfl;refine yF [] [(3,vS (some ⟨b1,0,none⟩) ([]:List xH) 0)]<|xQ<|yH 1 [1] [(10,vA (cProg p p1 c p2 c1))] ?_;obtain ⟨y,hy,N⟩:=zB N;refine yQ (zAj p _ hy h h1) ?_;rintro I0 hs2 v2 k2 le - ⟨v0,rfl,rfl,h3⟩ -;have h2:=iM le h2;have h:=h.mono le;have h1:=h1.mono le;obtain ⟨p3,c2,rfl⟩:=h3.form;refine yF [] [(4,vS p3 y c2)]<|yI<|yG [(5,vI 0)]<|zD<|zV<|vE [(1,vP b 0),(3,vS (some ⟨b1,0,none⟩) ([]:List xH) 0),(4,vS p3 y c2),(5,vI 0)] ?_;obtain ⟨o0,ho0,hMl⟩:=zB N;refine zCD p y ([]:List xH) 0 o0 ho0 iR h3 h h1 h2 (fun _ _ _ h=>h) (fun _ _ h=>h) ?_;intro I03 out1 p5 c4 cs1 heq le3 h5;subst o0;refine zW<|wX [(2,vS p5 out1 c4)]<|zD<|yC<|xL 0 rfl ?_;intro I04 le4 hl0;have h20:=SL.of_frozen hl0 le4 h5;obtain rfl:=zC hMl;exact xM ⟨_,_,(.tmp rfl ResV.nil),yE,⟨_,rfl,rfl,h20⟩⟩
def pJ (list:(List Int)) (n0:Int) (i:Int):Option (Out Unit (Bool)):=do
 if (decide (i < (list.length:Int))) then
  let x←idx list i
  if (x == n0) then
   pure (.ret true)
  else
   pJ list n0 (W (i + 1))
 else
  pure (.done ())
 partial_fixpoint
theorem zCj (list:(List Int)) (n0:Int):∀ (i:Int) (o:Out Unit (Bool)),pJ list n0 i=some o→∀ {B}{I0 I:Imm}{Q p c},I0.le I→(S4 I p list c)→NG Q→NO Q→(∀ (I':Imm) ,o=(.done ())→I0.le I'→T 18 B Q (.exit 0) I' [] [])→(∀ r I' hs' m',o=(.ret r)→I0.le I'→RS Tryz.prog Tryz.f112 B (zZ  r) I' hs' m'→T 18 B Q .ret I' hs' m')→J Tryz.prog 18 B (nav (bodyOf Tryz.f112) [1,0,1,0]) Q I [] [(0,vS p list c),(1,vI n0),(5,vI i)]:=by
 refine pJ.partial_correctness list n0 _ ?_;intro self ih i o N B I0 I Q p c H h hg ho hx hr;refine xE hg ho<|yJ<|yG [(9,.bool (decide (i < (list.length:Int))))]<|zD<|yO N ?_ ?_
 · intro hc N;refine zY<|yI<|zV<|yP<|yH 2 [] [(12,vS p list c),(13,vI i)] ?_;obtain ⟨x,hy,N⟩:=zB N;refine xX rfl rfl h hy ?_;intro ad ccs hat hrep;obtain rfl:=hrep;refine xT 0 hat [vI x] (vI x) rfl<|yF [] [(17,.bool (x == n0))]<|zD<|yO N ?_ ?_
   · intro hc1 N;exact yG [(4,vY)]<|zD<|yC<|yA<|zN<|zN<|hr _ _ _ _ (zC N).symm H ⟨_,_,(.tmp rfl ResV.nil),yE,⟨_,rfl,rfl,rfl⟩⟩
   intro hc1 N;exact zY<|zU<|zD<|zR<|yF [] [(5,vI (W (i + 1)))]<|xF<|vE [(0,vS p list c),(1,vI n0),(5,vI (W (i + 1)))]<|ih (W (i + 1)) _ N H h hg ho hx hr
 intro hc N;exact xA<|zO<|zO<|yU []<|hx _  (zC N).symm H
def kF (list:(List Int)) (n0:Int):Option (Bool):=do
 match←pJ list n0 0 with
 | .ret r0=>pure r0
 | .done _ =>
  pure false
theorem zAs:∀ (list:(List Int)) (n0:Int) r,kF list n0=some r→∀ {I:Imm}{p c},(S4 I p list c)→Ret Tryz.prog 112 [vS p list c,vI n0] I [] (zZ  r):=by
 intro list n0 r N I p c h;unfold kF at N;refine yB (fn:=Tryz.f112) (c:=(bodyOf Tryz.f112)) Tryz.func112 rfl rfl ?_;rintro B - -;refine yG []<|yI<|yG [(5,vI 0)]<|zD<|zV<|vE [(0,vS p list c),(1,vI n0),(5,vI 0)] ?_;obtain ⟨o0,ho0,hMl⟩:=zB N;refine zCj list n0 0 o0 ho0 iR h (fun _ _ _ h=>h) (fun _ _ h=>h) ?_ ?_
 · intro I0  heq le;subst o0;refine zW<|wX [(4,vF)]<|zD<|yC ?_;obtain rfl:=zC hMl;exact uM
 intro r0 I9 hs9 m9 heq9 le9 hrs9;subst heq9;refine yA<|zN ?_;obtain rfl:=zC hMl;exact xM hrs9
def kA (a0:xH) (b:xH):Option (Int):=do
 let y←kF b.reads a0.write
 let n0←(do
   if y then
    pure (W (0 + 1))
   else
    pure (id 0)
     : Option Int)
 let y1←kF a0.reads b.write
 let n01←(do
   if y1 then
    pure (W (n0 + 2))
   else
    pure (id n0)
     : Option Int)
 let n02←(do
   if (a0.write == b.write) then
    pure (W (n01 + 4))
   else
    pure (id n01)
     : Option Int)
 pure (id n02)
theorem zDM:∀ (a0:xH) (b:xH) r,kA a0 b=some r→∀ {I:Imm}{p c p1 c1},(S4 I p a0.reads c)→(S4 I p1 b.reads c1)→Ret Tryz.prog 81 [vA [vS p a0.reads c,vI a0.write],vA [vS p1 b.reads c1,vI b.write]] I [] (yZ  r):=by
 intro a0 b r N I p c p1 c1 h h1;unfold kA at N;refine yB (fn:=Tryz.f81) (c:=(bodyOf Tryz.f81)) Tryz.func81 rfl rfl ?_;rintro B - -;have H:=iS I;refine yP<|tM [vS p a0.reads c,vI a0.write] ?_;intro b1 hb;refine tM [vS p1 b.reads c1,vI b.write] ?_;intro b2 hb1;refine yF [] []<|wX [(5,vI 0)]<|yI<|yP<|yH 4 [0,1] [(7,vS p1 b.reads c1),(9,vI a0.write)] ?_;obtain ⟨y,hy,N⟩:=zB N;refine yQ (zAs b.reads a0.write _ hy h1) ?_;rintro I0 hs2 v2 k2 le - ⟨v0,rfl,rfl,rfl⟩ -;have h:=h.mono le;have H:=H.trans le;refine yN rfl<|zD ?_;obtain ⟨o0,ho0,hMc⟩:=zB N;refine yV (fun I' hs' m'=>∃ (n0:Int),o0=n0∧I0.le I'∧hs'=[hB b2 [vS p1 b.reads c1,vI b.write],hB b1 [vS p a0.reads c,vI a0.write]]∧m'=[(2,vP b1 0),(3,vP b2 0),(5,vI n0)]) ?_ ?_
 · have H:=iS I0;refine yO ho0 ?_ ?_
   · intro hc N;exact zR<|yF [] [(5,vI (W (0 + 1)))]<|yU [(2,vP b1 0),(3,vP b2 0),(5,vI (W (0 + 1)))]<|zX ⟨_,(zC N).symm,H,rfl,rfl⟩
   intro hc N;exact zY<|yU [(2,vP b1 0),(3,vP b2 0),(5,vI 0)]<|zX ⟨_,(zC N).symm,H,rfl,rfl⟩
 rintro I01 hs2 m2 ⟨n0,heq,le1,rfl,rfl⟩;subst o0;have h:=h.mono le1;have H:=H.trans le1;refine yI<|yP<|yH 4 [1,0] [(14,vS p a0.reads c),(16,vI b.write)] ?_;obtain ⟨y1,hy1,N⟩:=zB hMc;refine yQ (zAs a0.reads b.write _ hy1 h) ?_;rintro I02 hs2 v2 k2 le2 - ⟨v01,rfl,rfl,rfl⟩ -;have H:=H.trans le2;refine yN rfl<|zD ?_;obtain ⟨o01,ho01,hMc1⟩:=zB N;refine yV (fun I' hs' m'=>∃ (n01:Int),o01=n01∧I02.le I'∧hs'=[hB b2 [vS p1 b.reads c1,vI b.write],hB b1 [vS p a0.reads c,vI a0.write]]∧m'=[(2,vP b1 0),(3,vP b2 0),(5,vI n01)]) ?_ ?_
 · have H:=iS I02;refine yO ho01 ?_ ?_
   · intro hc1 N;exact zR<|yF [] [(5,vI (W (n0 + 2)))]<|yU [(2,vP b1 0),(3,vP b2 0),(5,vI (W (n0 + 2)))]<|zX ⟨_,(zC N).symm,H,rfl,rfl⟩
   intro hc1 N;exact zY<|yU [(2,vP b1 0),(3,vP b2 0),(5,vI n0)]<|zX ⟨_,(zC N).symm,H,rfl,rfl⟩
 rintro I03 hs2 m2 ⟨n01,heq1,le3,rfl,rfl⟩;subst o01;have H:=H.trans le3;refine yI<|yP<|yF [1,0] [(24,.bool (a0.write == b.write))]<|zD ?_;obtain ⟨o02,ho02,hMc2⟩:=zB hMc1;refine yV (fun I' hs' m'=>∃ (n02:Int),o02=n02∧I03.le I'∧hs'=[]∧m'=[(5,vI n02)]) ?_ ?_
 · have H:=iS I03;refine yO ho02 ?_ ?_
   · intro hc2 N;exact zR<|yF [] [(5,vI (W (n01 + 4)))]<|wJ (zH [] rfl (by decide))<|yU [(5,vI (W (n01 + 4)))]<|zX ⟨_,(zC N).symm,H,rfl,rfl⟩
   intro hc2 N;exact zY<|wJ (zH [] rfl (by decide))<|yU [(5,vI n01)]<|zX ⟨_,(zC N).symm,H,rfl,rfl⟩
 rintro I04 hs2 m2 ⟨n02,heq2,le4,rfl,rfl⟩;subst o02;refine wX [(4,vI n02)]<|zD<|yC ?_;obtain rfl:=zC hMc2;exact uM
def qN (y:(List xH)) (i:Int) (out2:List yL) (k0:Int):Option (List yL):=do
 if (decide (k0 < (y.length:Int))) then
  let x←idx y i
  let x1←idx y k0
  let y1←kA x x1
  let out4←(do
    if (y1 != 0) then
     let out5←app 24 out2 ([(yL.mk i k0 y1)]:List yL)
     pure (id out5)
    else
     pure (id out2)
      : Option (List yL))
  qN y i out4 (W (k0 + 1))
 else
  pure (id out2)
 partial_fixpoint
theorem zCE (y:(List xH)) (i:Int):∀ (out2:List yL) (k0:Int) (o:List yL),qN y i out2 k0=some o→∀ {B}{I0 I:Imm}{Q p3 c2 p6 c5 cs2},I0.le I→(S4 I p3 y c2)→(RL I cs2 out2)→NG Q→NO Q→(∀ (I':Imm) (out3:List yL) (p7:Option Addr) (c6:Nat) (cs3:List Value),o=out3→I0.le I'→(RL I' cs3 out3)→T 44 B Q (.exit 2) I' [hO yL (vS p7 out3 c6) cs3] [(3,vS p7 out3 c6),(4,vS p3 y c2),(5,vI i)])→J Tryz.prog 44 B (nav (bodyOf Tryz.f52) [1,1,1,0,1,0,0,1,0,0,1,0]) Q I [hO yL (vS p6 out2 c5) cs2] [(3,vS p6 out2 c5),(4,vS p3 y c2),(5,vI i),(6,vI k0)]:=by
 refine qN.partial_correctness y i _ ?_;intro self ih out2 k0 o N B I0 I Q p3 c2 p6 c5 cs2 H h3 h6 hg ho hx;refine xE hg ho<|yJ<|yG [(22,.bool (decide (k0 < (y.length:Int))))]<|zD<|yO N ?_ ?_
 · intro hc1 N;refine zY<|yI<|zV<|yJ ?_;obtain ⟨x,hy1,N⟩:=zB N;obtain ⟨x1,hy2,N⟩:=zB N;obtain ⟨y1,hy3,N⟩:=zB N;refine vR [.p (vS p3 y c2) [],.p (vI i) [],.x (fun I' v hx=>∃ ad p8 c7,v=.pointer (some ad)∧hx=[]∧(At I' ad [vS p8 x.reads c7,vI x.write])∧(S4 I' p8 x.reads c7)),.x (fun I' v hx=>∃ p81 c71,v=vA [vS p81 x.reads c71,vI x.write]∧hx=[]∧(S4 I' p81 x.reads c71)),.p (vS p3 y c2) [],.p (vI k0) [],.x (fun I' v hx=>∃ ad1 p9 c8,v=.pointer (some ad1)∧hx=[]∧(At I' ad1 [vS p9 x1.reads c8,vI x1.write])∧(S4 I' p9 x1.reads c8)),.x (fun I' v hx=>∃ p91 c81,v=vA [vS p91 x1.reads c81,vI x1.write]∧hx=[]∧(S4 I' p91 x1.reads c81)),.q (vI y1)] [[],[],[(0,false),(1,false)],[(2,false)],[],[],[(4,false),(5,false)],[(6,false)],[(3,false),(7,false)]] [hO yL (vS p6 out2 c5) cs2] [] [(8,false)] (zH [0] rfl (by decide)) ?_ ?_
   · refine Op<|Op<|Ox ?_<|Ox ?_<|Op<|Op<|Ox ?_<|Ox ?_<|Oq ?_<|On
     · intro I1 hf le1;refine yT [(25,vS p3 y c2),(26,vI i)] ?_;have h3:=h3.mono le1;refine xX rfl rfl h3 hy1 ?_;intro ad ccs hat hrep;obtain ⟨v01,rfl,h8⟩:=dR hrep;obtain ⟨p8,c7,rfl⟩:=h8.form;exact yS [] iR ⟨_,_,_,rfl,rfl,hat,h8⟩
     · intro I1 hf le1;refine zI ?_;rintro _ _ ⟨ad,p8,c7,rfl,rfl,hat,h8⟩;exact yT [(27,.pointer (some ad))]<|xT 0 hat [vS p8 x.reads c7,vI x.write] (vA [vS p8 x.reads c7,vI x.write]) rfl<|yS [] iR ⟨_,_,rfl,rfl,h8⟩
     · intro I1 hf le1;refine yT [(29,vS p3 y c2),(30,vI k0)] ?_;have h3:=h3.mono le1;refine xX rfl rfl h3 hy2 ?_;intro ad1 ccs1 hat1 hrep1;obtain ⟨v02,rfl,h9⟩:=dR hrep1;obtain ⟨p9,c8,rfl⟩:=h9.form;exact yS [] iR ⟨_,_,_,rfl,rfl,hat1,h9⟩
     · intro I1 hf le1;refine zI ?_;rintro _ _ ⟨ad1,p9,c8,rfl,rfl,hat1,h9⟩;exact yT [(31,.pointer (some ad1))]<|xT 0 hat1 [vS p9 x1.reads c8,vI x1.write] (vA [vS p9 x1.reads c8,vI x1.write]) rfl<|yS [] iR ⟨_,_,rfl,rfl,h9⟩
     intro I1 hf le1;refine zI ?_;rintro _ _ ⟨p81,c71,rfl,rfl,h81⟩;refine zI ?_;rintro _ _ ⟨p91,c81,rfl,rfl,h91⟩;refine yT [(28,vA [vS p81 x.reads c71,vI x.write]),(32,vA [vS p91 x1.reads c81,vI x1.write])] ?_;have H:=iS I1;refine yQ (zDM x x1 _ hy3 h81 h91) ?_;rintro I01 hs2 v2 k2 le1 - ⟨v03,rfl,rfl,rfl⟩ -;have H:=H.trans le1;exact xN H
   intro I02 le2;refine yT [(3,vS p6 out2 c5),(4,vS p3 y c2),(5,vI i),(6,vI k0),(33,vI y1)] ?_;have h6:=iM le2 h6;have h3:=h3.mono le2;have H:=H.trans le2;refine yF [] [(7,vI y1)]<|wX [(35,.bool (y1 != 0))]<|zD ?_;obtain ⟨o0,ho0,hMc⟩:=zB N;refine yV (fun I' hs' m'=>∃ (out4:List yL) (p10:Option Addr) (c9:Nat) (cs4:List Value),o0=out4∧I02.le I'∧(RL I' cs4 out4)∧hs'=[hO yL (vS p10 out4 c9) cs4]∧m'=[(3,vS p10 out4 c9),(4,vS p3 y c2),(5,vI i),(6,vI k0)]) ?_ ?_
   · have H:=iS I02;refine yO ho0 ?_ ?_
     · intro hc2 N;refine zR<|yH 5 [] [(36,vS p6 out2 c5),(40,vA [vI i,vI k0,vI y1])]<|xW [vI i,vI k0,vI y1] yL ?_;intro b2 hb2;have h12:RL I02 [vI i,vI k0,vI y1] ([(yL.mk i k0 y1)]:List yL):=⟨[vI i,vI k0,vI y1],_,rfl,rfl,(zAq rfl),rfl⟩;obtain ⟨out5,hy4,N⟩:=zB N;refine qU 35 3 1 rfl rfl rfl h6 (.inr ⟨0,rfl⟩) h12 hy4 ?_;intro p11 c10 cs5 h13;exact rV (zH [1] (hs':=[hO yL (vS p11 out5 c10) cs5]) rfl (by decide))<|yF [] [(3,vS p11 out5 c10)]<|yU [(3,vS p11 out5 c10),(4,vS p3 y c2),(5,vI i),(6,vI k0)]<|zX ⟨_,_,_,_,(zC N).symm,H,h13,rfl,rfl⟩
     intro hc2 N;exact zY<|yU [(3,vS p6 out2 c5),(4,vS p3 y c2),(5,vI i),(6,vI k0)]<|zX ⟨_,_,_,_,(zC N).symm,H,h6,rfl,rfl⟩
   rintro I03 hs2 m2 ⟨out4,p10,c9,cs4,heq,le3,h11,rfl,rfl⟩;subst o0;have h3:=h3.mono le3;have H:=H.trans le3;exact zU<|zD<|zR<|yF [] [(6,vI (W (k0 + 1)))]<|xF<|vE [(3,vS p10 out4 c9),(4,vS p3 y c2),(5,vI i),(6,vI (W (k0 + 1)))]<|ih out4 (W (k0 + 1)) _ hMc H h3 h11 hg ho hx
 intro hc1 N;exact xA<|zO<|zO<|yU [(3,vS p6 out2 c5),(4,vS p3 y c2),(5,vI i)]<|hx _ _ _ _ _ (zC N).symm H h6
def qO (y:(List xH)) (out:List yL) (i:Int):Option (List yL):=do
 if (decide (i < (y.length:Int))) then
  let out3←qN y i out (W (i + 1))
  qO y out3 (W (i + 1))
 else
  pure (id out)
 partial_fixpoint
theorem zCF (y:(List xH)):∀ (out:List yL) (i:Int) (o:List yL),qO y out i=some o→∀ {B}{I0 I:Imm}{Q p3 c2 p4 c3 cs},I0.le I→(S4 I p3 y c2)→(RL I cs out)→NG Q→NO Q→(∀ (I':Imm) (out1:List yL) (p5:Option Addr) (c4:Nat) (cs1:List Value),o=out1→I0.le I'→(RL I' cs1 out1)→T 44 B Q (.exit 0) I' [hO yL (vS p5 out1 c4) cs1] [(3,vS p5 out1 c4)])→J Tryz.prog 44 B (nav (bodyOf Tryz.f52) [1,1,1,0,1,0]) Q I [hO yL (vS p4 out c3) cs] [(3,vS p4 out c3),(4,vS p3 y c2),(5,vI i)]:=by
 refine qO.partial_correctness y _ ?_;intro self ih out i o N B I0 I Q p3 c2 p4 c3 cs H h3 h4 hg ho hx;refine xE hg ho<|yJ<|yG [(14,.bool (decide (i < (y.length:Int))))]<|zD<|yO N ?_ ?_
 · intro hc N;refine zY<|yI<|zV<|yG [(6,vI (W (i + 1)))]<|zD<|zV<|vE [(3,vS p4 out c3),(4,vS p3 y c2),(5,vI i),(6,vI (W (i + 1)))] ?_;obtain ⟨o01,ho01,hMl⟩:=zB N;refine zCE y i out (W (i + 1)) o01 ho01 iR h3 h4 (fun _ _ _ h=>hg _ _ _ h) (fun _ _ h=>ho _ _ h) ?_;intro I04 out3 p7 c6 cs3 heq1 le4 h7;subst o01;have h3:=h3.mono le4;have H:=H.trans le4;exact zW<|zU<|zD<|zR<|yF [] [(5,vI (W (i + 1)))]<|xF<|vE [(3,vS p7 out3 c6),(4,vS p3 y c2),(5,vI (W (i + 1)))]<|ih out3 (W (i + 1)) _ hMl H h3 h7 hg ho hx
 intro hc N;exact xA<|zO<|zO<|yU [(3,vS p4 out c3)]<|hx _ _ _ _ _ (zC N).symm H h4
def jN (p:zK):Option ((List yL)):=do
 let y←kQ p
 let out1←qO y ([]:List yL) 0
 pure (id out1)
theorem zHu:∀ (p:zK) r,jN p=some r→∀ {I:Imm}{p1 c p2 c1},(S4 I p1 p.Arrays c)→(S4 I p2 p.Parts c1)→Ret Tryz.prog 52 [vA (cProg p p1 c p2 c1)] I [] (mK  r):=by
 intro p r N I p1 c p2 c1 h h1;unfold jN at N;refine yB (fn:=Tryz.f52) (c:=(bodyOf Tryz.f52)) Tryz.func52 rfl rfl ?_;rintro B - -;refine yP<|tM (cProg p p1 c p2 c1) ?_;intro b hb;refine yF [] []<|xQ<|xW [] yL ?_;intro b1 hb1;have h2:RL I [] ([]:List yL):=rfl;refine yF [] [(3,vS (some ⟨b1,0,none⟩) ([]:List yL) 0)]<|xQ<|yH 1 [1] [(9,vA (cProg p p1 c p2 c1))] ?_;obtain ⟨y,hy,N⟩:=zB N;refine yQ (zDu p _ hy h h1) ?_;rintro I0 hs2 v2 k2 le - ⟨v0,rfl,rfl,h3⟩ -;have h2:=iM le h2;have h:=h.mono le;obtain ⟨p3,c2,rfl⟩:=h3.form;refine yF [] [(4,vS p3 y c2)]<|yI<|yG [(5,vI 0)]<|zD<|zV<|qT (zH [0] (hs':=[hO yL (vS (some ⟨b1,0,none⟩) ([]:List yL) 0) []]) rfl (by decide))<|vE [(3,vS (some ⟨b1,0,none⟩) ([]:List yL) 0),(4,vS p3 y c2),(5,vI 0)] ?_;obtain ⟨o02,ho02,hMl1⟩:=zB N;refine zCF y ([]:List yL) 0 o02 ho02 iR h3 h2 (fun _ _ _ h=>h) (fun _ _ h=>h) ?_;intro I05 out1 p5 c4 cs1 heq2 le5 h5;subst o02;refine zW<|wX [(2,vS p5 out1 c4)]<|zD<|yC<|xL 0 rfl ?_;intro I06 le6 hl0;have h14:=SL.of_frozen hl0 le6 h5;obtain rfl:=zC hMl1;exact xM ⟨_,_,(.tmp rfl ResV.nil),yE,⟨_,rfl,rfl,h14⟩⟩
end Go.LN
