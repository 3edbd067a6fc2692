/- Helper of the proof (see the last text). -/
import Derived.Test.YtoifmcbchallnaaGreatHM2
set_option linter.unusedVariables false
set_option linter.unusedSimpArgs false
namespace Go.LN
open Go.Proofs
set_option maxRecDepth 20000
def uC (list:(List zG)) (a0:zK) (point:(List Int)) (i:Int) (n0:Int) (k0:Int):Option (Out Int (Int)):=do
 if (decide (k0 < (a0.Subs.length:Int))) then
  let x2←idx list i
  if ((a0.Subs.length:Int) != (x2.Dims.length:Int)) then
   pure (.ret (-1))
  else
   let x3←idx a0.Subs k0
   let y1←sO x3 point
   let t70←(do
     if (decide (y1 < 0)) then
      pure true
     else
      let x4←idx list i
      let x5←idx x4.Dims k0
      pure (decide (y1 ≥ x5))
       : Option Bool)
   if t70 then
    pure (.ret (-1))
   else
    let x6←idx list i
    let x7←idx x6.Dims k0
    uC list a0 point i (W ((W (n0 * x7)) + y1)) (W (k0 + 1))
 else
  pure (.done n0)
 partial_fixpoint
theorem zCR (list:(List zG)) (a0:zK) (point:(List Int)) (i:Int):∀ (n0:Int) (k0:Int) (o:Out Int (Int)),uC list a0 point i n0 k0=some o→∀ {B}{I0 I:Imm}{Q}{base:Int}{p c p1 c1 p2 c2}{b:Nat},I0.le I→(S4 I p list c)→(S4 I p2 point c2)→(S4 I p1 a0.Subs c1)→NG Q→NO Q→(∀ (I':Imm) (n01:Int),o=(.done n01)→I0.le I'→T 86 B Q (.exit 2) I' [] [(7,vI base),(9,vI n01)])→(∀ r I' hs' m',o=(.ret r)→I0.le I'→RS Tryz.prog Tryz.f129 B (yW  r) I' hs' m'→T 86 B Q .ret I' hs' m')→J Tryz.prog 86 B (nav (bodyOf Tryz.f129) [1,1,0,1,0,0,1,0,0,1,1,0,1,0]) Q I [hB b (cAccess a0 p1 c1)] [(0,vS p list c),(2,vS p2 point c2),(4,vP b 0),(7,vI base),(8,vI i),(9,vI n0),(10,vI k0)]:=by
 refine uC.partial_correctness list a0 point i _ fun self ih n0 k0 o N B I0 I Q base p c p1 c1 p2 c2 b H h h2 h1 hg ho hx hr=>yY hg ho<|yK<|yO<|yF [0] [(37,.bool (decide (k0 < (a0.Subs.length:Int))))]<|zD<|yM N ?_ ?_
 · intro hc2 N;refine zX<|yI<|zV<|yK<|yK<|jI (by kernel_rfl) (by kernel_rfl)<|fE 5 [0] [(42,vI (a0.Subs.length:Int)),(43,vS p list c),(44,vI i)]<|bE N fun x2 hy3 N=>zA9 rfl rfl h hy3 ?_;intro ad2 ccs2 hat2 hrep2;obtain ⟨p5,c5,rfl,h6⟩:=vK hrep2;refine fE 7 [] [(46,.pointer (some (ad2.add 1)))]<|fM 1 hat2 [vS p5 x2.Dims c5] (vS p5 x2.Dims c5) rfl<|zCB [] [(49,.bool ((a0.Subs.length:Int) != (x2.Dims.length:Int)))]<|zD<|yM N ?_ ?_
   · intro hc3 N;exact yE [(6,vI (-1))]<|zD<|yC<|zM<|yB<|zM<|zM<|hr _ _ _ _ (zB N).symm H ⟨_,_,(.tmp rfl ResV.nil),yD,⟨_,rfl,rfl,rfl⟩⟩
   intro hc3 N;refine zX<|xI<|yH 3 [0] [(51,vS p1 a0.Subs c1),(52,vI k0)]<|bE N fun x3 hy4 N=>xV rfl rfl h1 hy4 ?_;intro ad3 ccs3 hat3 hrep3;obtain ⟨p6,c6,rfl,h7⟩:=yQ hrep3;refine xR 0 hat3 (cAff x3 p6 c6) (vA (cAff x3 p6 c6)) rfl<|yH 6 [] [(55,vS p2 point c2)]<|bE N fun y1 hy5 N=>kE (kI x3 point _ hy5 h7 h2) ?_;intro I01 le1;have h:=h.mono le1;have h2:=h2.mono le1;have h1:=h1.mono le1;have H:=H.trans le1;refine yF [] [(11,vI y1)]<|yI<|yK ?_;obtain ⟨o0,ho0,hMc⟩:=zC N;refine yU (fun I' hs' m'=>∃ (t70:Bool),o0=t70∧I01.le I'∧hs'=[hB b (cAccess a0 p1 c1)]∧m'=[(0,vS p list c),(2,vS p2 point c2),(4,vP b 0),(7,vI base),(8,vI i),(9,vI n0),(10,vI k0),(11,vI y1),(70,.bool t70)]) ?_ ?_
   · have H:=iS I01;refine zQ<|yH 3 [] [(59,.bool (decide (y1 < 0)))] ?_;cases hc4:(decide (y1 < 0)) with
     | true =>
      have hM0:=zU hc4 ho0
      try rw [hc4]
      exact yF [] [(70,vY)]<|yR [(0,vS p list c),(2,vS p2 point c2),(4,vP b 0),(7,vI base),(8,vI i),(9,vI n0),(10,vI k0),(11,vI y1),(70,vY)]<|zY ⟨_,(zB hM0).symm,H,rfl,rfl⟩
     | false =>
      have hM01:=zS hc4 ho0
      try rw [hc4]
      refine yH 6 [] [(60,vI y1),(61,vS p list c),(62,vI i)] ?_;obtain ⟨x4,hy6,N⟩:=zC hM01;refine xV rfl rfl h hy6 ?_;intro ad4 ccs4 hat4 hrep4;obtain ⟨p7,c7,rfl,h9⟩:=vK hrep4;refine yH 8 [] [(64,.pointer (some (ad4.add 1)))]<|xR 1 hat4 [vS p7 x4.Dims c7] (vS p7 x4.Dims c7) rfl<|yH 10 [] [(66,vI k0)]<|bE N fun x5 hy7 N=>xV rfl rfl h9 hy7 ?_;intro ad5 ccs5 hat5 hrep5;obtain rfl:=hrep5;exact xR 0 hat5 [vI x5] (vI x5) rfl<|yF [] [(70,.bool (decide (y1 ≥ x5)))]<|yR [(0,vS p list c),(2,vS p2 point c2),(4,vP b 0),(7,vI base),(8,vI i),(9,vI n0),(10,vI k0),(11,vI y1),(70,.bool (decide (y1 ≥ x5)))]<|zY ⟨_,(zB N).symm,H,rfl,rfl⟩
   rintro I02 hs2 m2 ⟨t70,heq,le2,rfl,rfl⟩;subst o0;have h:=h.mono le2;have h2:=h2.mono le2;have h1:=h1.mono le2;have H:=H.trans le2;refine zD<|yM hMc ?_ ?_
   · intro hc5 N;exact yE [(6,vI (-1))]<|zD<|yC<|zM<|yB<|zM<|zM<|hr _ _ _ _ (zB N).symm H ⟨_,_,(.tmp rfl ResV.nil),yD,⟨_,rfl,rfl,rfl⟩⟩
   intro hc5 N;refine zX<|zD<|zQ<|yH 3 [] [(71,vI n0),(72,vS p list c),(73,vI i)]<|bE N fun x6 hy8 N=>xV rfl rfl h hy8 ?_;intro ad6 ccs6 hat6 hrep6;obtain ⟨p8,c8,rfl,h10⟩:=vK hrep6;refine yH 5 [] [(75,.pointer (some (ad6.add 1)))]<|xR 1 hat6 [vS p8 x6.Dims c8] (vS p8 x6.Dims c8) rfl<|yH 7 [] [(77,vI k0)]<|bE N fun x7 hy9 N=>xV rfl rfl h10 hy9 ?_;intro ad7 ccs7 hat7 hrep7;obtain rfl:=hrep7;exact xR 0 hat7 [vI x7] (vI x7) rfl<|yF [] [(9,vI (W ((W (n0 * x7)) + y1)))]<|zT<|zD<|zQ<|yF [] [(10,vI (W (k0 + 1)))]<|yZ<|wS [(0,vS p list c),(2,vS p2 point c2),(4,vP b 0),(7,vI base),(8,vI i),(9,vI (W ((W (n0 * x7)) + y1))),(10,vI (W (k0 + 1)))]<|ih (W ((W (n0 * x7)) + y1)) (W (k0 + 1)) _ N H h h2 h1 hg ho hx hr
 intro hc2 N;exact yX<|zL<|zL<|wC (zE [] rfl (by decide))<|yR [(7,vI base),(9,vI n0)]<|hx _ _ (zB N).symm H
def uD (list:(List zG)) (a0:zK) (point:(List Int)) (base:Int) (i:Int):Option (Out Unit (Int)):=do
 if (decide (i < (list.length:Int))) then
  let x←idx list i
  if (!(x.Name.l == a0.Array.l)) then
   let x1←idx list i
   let y←nI x1
   uD list a0 point (W (base + y)) (W (i + 1))
  else
   match←uC list a0 point i 0 0 with
   | .ret r0=>pure (.ret r0)
   | .done n01 =>
    pure (.ret (W (base + n01)))
 else
  pure (.done ())
 partial_fixpoint
theorem zCS (list:(List zG)) (a0:zK) (point:(List Int)):∀ (base:Int) (i:Int) (o:Out Unit (Int)),uD list a0 point base i=some o→∀ {B}{I0 I:Imm}{Q p c p1 c1 p2 c2}{b:Nat},I0.le I→(S4 I p list c)→(S4 I p2 point c2)→(S4 I p1 a0.Subs c1)→NG Q→NO Q→(∀ (I':Imm) ,o=(.done ())→I0.le I'→T 86 B Q (.exit 0) I' [] [])→(∀ r I' hs' m',o=(.ret r)→I0.le I'→RS Tryz.prog Tryz.f129 B (yW  r) I' hs' m'→T 86 B Q .ret I' hs' m')→J Tryz.prog 86 B (nav (bodyOf Tryz.f129) [1,1,0,1,0]) Q I [hB b (cAccess a0 p1 c1)] [(0,vS p list c),(2,vS p2 point c2),(4,vP b 0),(7,vI base),(8,vI i)]:=by
 refine uD.partial_correctness list a0 point _ fun self ih base i o N B I0 I Q p c p1 c1 p2 c2 b H h h2 h1 hg ho hx hr=>yY hg ho<|yK<|yE [(15,.bool (decide (i < (list.length:Int))))]<|zD<|yM N ?_ ?_
 · intro hc N;refine zX<|yI<|zV<|yK<|yK<|jI (by kernel_rfl) (by kernel_rfl)<|fE 2 [] [(18,vS p list c),(19,vI i)]<|bE N fun x hy N=>zA9 rfl rfl h hy ?_;intro ad ccs hat hrep;obtain ⟨p3,c3,rfl,h3⟩:=vK hrep;refine fE 4 [] [(21,.pointer (some ad))]<|fM 0 hat [vT x.Name.l] (vT x.Name.l) rfl<|zCB [0] [(25,.bool (!(x.Name.l == a0.Array.l)))]<|zD<|yM N ?_ ?_
   · intro hc1 N;refine yO<|yH 3 [] [(26,vI base),(27,vS p list c),(28,vI i)]<|bE N fun x1 hy1 N=>xV rfl rfl h hy1 ?_;intro ad1 ccs1 hat1 hrep1;obtain ⟨p4,c4,rfl,h4⟩:=vK hrep1;refine xR 0 hat1 (cArr x1 p4 c4) (vA (cArr x1 p4 c4)) rfl<|bE N fun y hy2 N=>kE (zE4 x1 _ hy2 h4) ?_;intro I0 le;have h:=h.mono le;have h2:=h2.mono le;have h1:=h1.mono le;have H:=H.trans le;exact yF [] [(7,vI (W (base + y)))]<|zD<|yX<|zL<|zW<|zD<|zQ<|yF [] [(8,vI (W (i + 1)))]<|yZ<|wS [(0,vS p list c),(2,vS p2 point c2),(4,vP b 0),(7,vI (W (base + y))),(8,vI (W (i + 1)))]<|ih (W (base + y)) (W (i + 1)) _ N H h h2 h1 hg ho hx hr
   intro hc1 N;refine zX<|wR [(9,vI 0)]<|yI<|yE [(10,vI 0)]<|zD<|zV<|wS [(0,vS p list c),(2,vS p2 point c2),(4,vP b 0),(7,vI base),(8,vI i),(9,vI 0),(10,vI 0)] ?_;obtain ⟨o01,ho01,hMl⟩:=zC N;refine zCR list a0 point i 0 0 o01 ho01 iR h h2 h1 (fun _ _ _ h=>hg _ _ _ h) (fun _ _ h=>ho _ _ h) ?_ ?_
   · intro I03 n01 heq1 le3;subst o01;have H:=H.trans le3;exact zW<|wR [(6,vI (W (base + n01)))]<|zD<|yC<|yB<|zM<|zM<|hr _ _ _ _ (zB hMl).symm H ⟨_,_,(.tmp rfl ResV.nil),yD,⟨_,rfl,rfl,rfl⟩⟩
   intro r0 I9 hs9 m9 heq9 le9 hrs9;subst heq9;exact yB<|zM<|yB<|zM<|zM<|hr _ _ _ _ (zB hMl).symm (H.trans le9) hrs9
 intro hc N;exact yX<|zL<|zL<|wC (zE [] rfl (by decide))<|yR []<|hx _  (zB N).symm H
def oA (list:(List zG)) (a0:zK) (point:(List Int)):Option (Int):=do
 match←uD list a0 point 0 0 with
 | .ret r0=>pure r0
 | .done _ =>
  pure (-1)
theorem zAg:∀ list a0 point r,oA list a0 point=some r→∀ {I:Imm}{p c p1 c1 p2 c2},(S4 I p list c)→(S4 I p1 a0.Subs c1)→(S4 I p2 point c2)→Ret Tryz.prog 129 [vS p list c,vA (cAccess a0 p1 c1),vS p2 point c2] I [] (yW  r):=by
 intro list a0 point r N I p c p1 c1 p2 c2 h h1 h2;unfold oA at N;refine yA (fn:=Tryz.f129) (c:=(bodyOf Tryz.f129)) Tryz.func129 rfl rfl ?_;rintro B - -;refine yO<|tA (cAccess a0 p1 c1) ?_;intro b hb;refine yF [] []<|wR [(7,vI 0)]<|yI<|yE [(8,vI 0)]<|zD<|zV<|wS [(0,vS p list c),(2,vS p2 point c2),(4,vP b 0),(7,vI 0),(8,vI 0)] ?_;obtain ⟨o02,ho02,hMl1⟩:=zC N;refine zCS list a0 point 0 0 o02 ho02 iR h h2 h1 (fun _ _ _ h=>h) (fun _ _ h=>h) ?_ ?_
 · intro I04  heq2 le4;subst o02;refine zW<|wR [(6,vI (-1))]<|zD<|yC ?_;obtain rfl:=zB hMl1;exact wY
 intro r0 I9 hs9 m9 heq9 le9 hrs9;subst heq9;refine yB<|zM ?_;obtain rfl:=zB hMl1;exact xH hrs9
def eU (r:(List Int)×Int×Bool):KT:=fun kk I' hs' v=>
  ∃ v0 v1 v2,hs'=[]∧v=tupV [v0,v1,v2]∧SL I' v0 r.1∧v1=.int .i64 r.2.1∧v2=.bool r.2.2
def uK (list:(List zG)) (point:(List Int)) (y:(List zK)) (out:List Int) (i:Int):Option (Out (List Int) ((List Int)×Int×Bool)):=do
 if (decide (i < (y.length:Int))) then
  let x←idx y i
  let y1←oA list x point
  if (decide (y1 < 0)) then
   pure (.ret (([]:List Int),0,false))
  else
   let out2←app 8 out ([y1]:List Int)
   uK list point y out2 (W (i + 1))
 else
  pure (.done out)
 partial_fixpoint
theorem zBb (list:(List zG)) (point:(List Int)) (y:(List zK)):∀ (out:List Int) (i:Int) (o:Out (List Int) ((List Int)×Int×Bool)),uK list point y out i=some o→∀ {B}{I0 I:Imm}{Q}{s:zR}{p c p1 c1 p2 c2 p3 c3 p4 c4 p5 c5}{b:Nat}{p6 c6 cs p7 c7 cs1},I0.le I→(S4 I p list c)→(S4 I p5 point c5)→(RL I cs y)→(S4 I p1 s.Write.Subs c1)→(S4 I p2 s.Value.Index.Coefs c2)→(S4 I p3 s.Value.Read.Subs c3)→(S4 I p4 s.Value.Kids c4)→(RL I cs1 out)→NG Q→NO Q→(∀ (I':Imm) (out1:List Int) (p8:Option Addr) (c8:Nat) (cs2:List Value),o=(.done out1)→I0.le I'→(RL I' cs2 out1)→T 49 B Q (.exit 0) I' [hO Int (vS p8 out1 c8) cs2,hB b (cStmt s p1 c1 p2 c2 p3 c3 p4 c4)] [(0,vS p list c),(2,vS p5 point c5),(4,vP b 0),(9,vS p8 out1 c8)])→(∀ r I' hs' m',o=(.ret r)→I0.le I'→RS Tryz.prog Tryz.f95 B (eU  r) I' hs' m'→T 49 B Q .ret I' hs' m')→J Tryz.prog 49 B (nav (bodyOf Tryz.f95) [1,1,1,0,1,0]) Q I [hO zK (vS p6 y c6) cs,hO Int (vS p7 out c7) cs1,hB b (cStmt s p1 c1 p2 c2 p3 c3 p4 c4)] [(0,vS p list c),(2,vS p5 point c5),(4,vP b 0),(9,vS p7 out c7),(10,vS p6 y c6),(11,vI i)]:=by
 refine uK.partial_correctness list point y _ fun self ih out i o N B I0 I Q s p c p1 c1 p2 c2 p3 c3 p4 c4 p5 c5 b p6 c6 cs p7 c7 cs1 H h h5 h8 h1 h2 h3 h4 h9 hg ho hx hr=>yY hg ho<|yK<|yE [(22,.bool (decide (i < (y.length:Int))))]<|zD<|yM N ?_ ?_
 · intro hc N;refine zX<|yI<|zV<|yO<|yH 3 [] [(25,vS p list c),(26,vS p6 y c6),(27,vI i)]<|bE N fun x hy1 N=>oM 0 rfl rfl rfl h8 hy1 ?_;intro ad ccs hat hcc hrep;obtain ⟨p9,c9,rfl,h11⟩:=pE hrep;refine zCD 0 0 hat hcc (cAccess x p9 c9) (vA (cAccess x p9 c9)) rfl rfl<|yH 6 [] [(30,vS p5 point c5)]<|bE N fun y1 hy2 N=>kE (zAg list x point _ hy2 h h11 h5) ?_;intro I01 le1;have h:=h.mono le1;have h5:=h5.mono le1;have h9:=iM le1 h9;have h8:=iM le1 h8;have h1:=h1.mono le1;have h2:=h2.mono le1;have h3:=h3.mono le1;have h4:=h4.mono le1;have H:=H.trans le1;refine yF [] [(12,vI y1)]<|yI<|yE [(33,.bool (decide (y1 < 0)))]<|zD<|yM N ?_ ?_
   · intro hc1 N;refine yO<|xX [] Int ?_;intro b3 hb3;have h13:RL I01 [] ([]:List Int):=rfl;refine yF [] [(6,vS (some ⟨b3,0,none⟩) ([]:List Int) 0),(7,vI 0),(8,vF)]<|zD<|yC<|zM<|yB<|zM<|zM<|xG 0 rfl ?_;intro I02 le2 hl0;have h14:=SL.of_frozen hl0 le2 h13;have H:=H.trans le2;exact hr _ _ _ _ (zB N).symm H ⟨_,_,(.tmp rfl (.tmp rfl (.tmp rfl ResV.nil))),yD,⟨_,_,_,rfl,rfl,h14,rfl,rfl⟩⟩
   intro hc1 N;refine zX<|zD<|zQ<|yH 2 [] [(35,vS p7 out c7),(36,vI y1)]<|xX [vI y1] Int ?_;intro b4 hb4;have h15:RL I01 [vI y1] ([y1]:List Int):=⟨[vI y1],_,rfl,rfl,rfl,rfl⟩;obtain ⟨out2,hy3,N⟩:=zC N;exact qF 3 1 2 rfl rfl rfl h9 (.inr ⟨0,rfl⟩) h15 hy3 fun p10 c10 cs3 h16=>rW (zE [1,2,3] (hs':=[hO zK (vS p6 y c6) cs,hO Int (vS p10 out2 c10) cs3,hB b (cStmt s p1 c1 p2 c2 p3 c3 p4 c4)]) rfl (by decide))<|yF [] [(9,vS p10 out2 c10)]<|zT<|zD<|zQ<|yF [] [(11,vI (W (i + 1)))]<|yZ<|wS [(0,vS p list c),(2,vS p5 point c5),(4,vP b 0),(9,vS p10 out2 c10),(10,vS p6 y c6),(11,vI (W (i + 1)))]<|ih out2 (W (i + 1)) _ N H h h5 h8 h1 h2 h3 h4 h16 hg ho hx hr
 intro hc N;exact yX<|zL<|zL<|wC (zE [1,2] rfl (by decide))<|yR [(0,vS p list c),(2,vS p5 point c5),(4,vP b 0),(9,vS p7 out c7)]<|hx _ _ _ _ _ (zB N).symm H h9
def pG (list:(List zG)) (s:zR) (point:(List Int)):Option ((List Int)×Int×Bool):=do
 let y←tP ([]:List zK) s.Value
 match←uK list point y ([]:List Int) 0 with
 | .ret r0=>pure r0
 | .done out1 =>
  let y2←oA list s.Write point
  if (decide (y2 < 0)) then
   pure (([]:List Int),0,false)
  else
   pure (out1,y2,true)
theorem zAV:∀ list s point r,pG list s point=some r→∀ {I:Imm}{p c p1 c1 p2 c2 p3 c3 p4 c4 p5 c5},(S4 I p list c)→(S4 I p1 s.Write.Subs c1)→(S4 I p2 s.Value.Index.Coefs c2)→(S4 I p3 s.Value.Read.Subs c3)→(S4 I p4 s.Value.Kids c4)→(S4 I p5 point c5)→Ret Tryz.prog 95 [vS p list c,vA (cStmt s p1 c1 p2 c2 p3 c3 p4 c4),vS p5 point c5] I [] (eU  r):=by
 intro list s point r N I p c p1 c1 p2 c2 p3 c3 p4 c4 p5 c5 h h1 h2 h3 h4 h5;unfold pG at N;refine yA (fn:=Tryz.f95) (c:=(bodyOf Tryz.f95)) Tryz.func95 rfl rfl ?_;rintro B - -;refine yO<|tA (cStmt s p1 c1 p2 c2 p3 c3 p4 c4) ?_;intro b hb;refine yF [] []<|xI<|xX [] Int ?_;intro b1 hb1;have h6:RL I [] ([]:List Int):=rfl;refine yF [] [(9,vS (some ⟨b1,0,none⟩) ([]:List Int) 0)]<|xI<|xX [] zK ?_;intro b2 hb2;have h7:RL I [] ([]:List zK):=rfl;refine yH 3 [2] [(17,vA (cExpr s.Value p2 c2 p3 c3 p4 c4))]<|bE N fun y hy N=>sY [hO zK (vS (some ⟨b2,0,none⟩) ([]:List zK) 0) []] [hO Int (vS (some ⟨b1,0,none⟩) ([]:List Int) 0) [],hB b (cStmt s p1 c1 p2 c2 p3 c3 p4 c4)] (zDg ([]:List zK) s.Value _ hy h7 h2 h3 h4) ?_;rintro I0 hs2 v2 k2 le - ⟨p6,c6,cs,rfl,rfl,h8⟩ -;have h:=h.mono le;have h5:=h5.mono le;have h6:=iM le h6;have h1:=h1.mono le;have h2:=h2.mono le;have h3:=h3.mono le;have h4:=h4.mono le;refine yF [] [(10,vS p6 y c6)]<|yI<|yE [(11,vI 0)]<|zD<|zV<|wS [(0,vS p list c),(2,vS p5 point c5),(4,vP b 0),(9,vS (some ⟨b1,0,none⟩) ([]:List Int) 0),(10,vS p6 y c6),(11,vI 0)] ?_;obtain ⟨o0,ho0,hMl⟩:=zC N;refine zBb list point y ([]:List Int) 0 o0 ho0 iR h h5 h8 h1 h2 h3 h4 h6 (fun _ _ _ h=>h) (fun _ _ h=>h) ?_ ?_
 · intro I03 out1 p8 c8 cs2 heq le3 h10;subst o0;have h:=h.mono le3;have h5:=h5.mono le3;have h1:=h1.mono le3;refine zW<|xI<|yH 4 [1] [(39,vS p list c),(41,vA (cAccess s.Write p1 c1)),(42,vS p5 point c5)] ?_;obtain ⟨y2,hy4,N⟩:=zC hMl;refine kE (zAg list s.Write point _ hy4 h h1 h5) ?_;intro I04 le4;have h10:=iM le4 h10;refine yF [] [(13,vI y2)]<|yI<|yE [(45,.bool (decide (y2 < 0)))]<|zD<|yM N ?_ ?_
   · intro hc2 N;refine yO<|xX [] Int ?_;intro b5 hb5;have h18:RL I04 [] ([]:List Int):=rfl;refine yF [] [(6,vS (some ⟨b5,0,none⟩) ([]:List Int) 0),(7,vI 0),(8,vF)]<|zD<|yC<|zM<|xG 0 rfl ?_;intro I05 le5 hl01;have h19:=SL.of_frozen hl01 le5 h18;obtain rfl:=zB N;exact xH ⟨_,_,(.tmp rfl (.tmp rfl (.tmp rfl ResV.nil))),yD,⟨_,_,_,rfl,rfl,h19,rfl,rfl⟩⟩
   intro hc2 N;refine zX<|wR [(6,vS p8 out1 c8),(7,vI y2),(8,vY)]<|zD<|yC<|xG 0 rfl ?_;intro I06 le6 hl02;have h20:=SL.of_frozen hl02 le6 h10;obtain rfl:=zB N;exact xH ⟨_,_,(.tmp rfl (.tmp rfl (.tmp rfl ResV.nil))),yD,⟨_,_,_,rfl,rfl,h20,rfl,rfl⟩⟩
 intro r0 I9 hs9 m9 heq9 le9 hrs9;subst heq9;refine yB<|zM ?_;obtain rfl:=zB hMl;exact xH hrs9
def uL (p:(List Int)) (i:Int):Option (Out Unit (Bool)):=do
 if (decide (i < (p.length:Int))) then
  let x←idx p i
  let y←vC x 9999
  if (!y) then
   pure (.ret false)
  else
   uL p (W (i + 1))
 else
  pure (.done ())
 partial_fixpoint
theorem zBc (p:(List Int)):∀ (i:Int) (o:Out Unit (Bool)),uL p i=some o→∀ {B}{I0 I:Imm}{Q p1 c},I0.le I→(S4 I p1 p c)→NG Q→NO Q→(∀ (I':Imm) ,o=(.done ())→I0.le I'→T 19 B Q (.exit 0) I' [] [(0,vS p1 p c)])→(∀ r I' hs' m',o=(.ret r)→I0.le I'→RS Tryz.prog Tryz.f96 B (zZ  r) I' hs' m'→T 19 B Q .ret I' hs' m')→J Tryz.prog 19 B (nav (bodyOf Tryz.f96) [1,0,1,0]) Q I [] [(0,vS p1 p c),(3,vI i)]:=by
 refine uL.partial_correctness p _ fun self ih i o N B I0 I Q p1 c H h hg ho hx hr=>yY hg ho<|yK<|yE [(7,.bool (decide (i < (p.length:Int))))]<|zD<|yM N ?_ ?_
 · intro hc N;refine zX<|yI<|zV<|yO<|yH 2 [] [(10,vS p1 p c),(11,vI i)]<|bE N fun x hy N=>xV rfl rfl h hy ?_;intro ad ccs hat hrep;obtain rfl:=hrep;refine xR 0 hat [vI x] (vI x) rfl<|bE N fun y hy1 N=>uR (gB x 9999 _ hy1 ) ?_;intro I0 le;have h:=h.mono le;have H:=H.trans le;refine yF [] [(15,.bool (!y))]<|zD<|yM N ?_ ?_
   · intro hc1 N;exact yE [(2,vF)]<|zD<|yC<|yB<|zM<|zM<|hr _ _ _ _ (zB N).symm H ⟨_,_,(.tmp rfl ResV.nil),yD,⟨_,rfl,rfl,rfl⟩⟩
   intro hc1 N;exact zX<|zT<|zD<|zQ<|yF [] [(3,vI (W (i + 1)))]<|yZ<|wS [(0,vS p1 p c),(3,vI (W (i + 1)))]<|ih (W (i + 1)) _ N H h hg ho hx hr
 intro hc N;exact yX<|zL<|zL<|yR [(0,vS p1 p c)]<|hx _  (zB N).symm H
def oI (p:(List Int)):Option (Bool):=do
 match←uL p 0 with
 | .ret r0=>pure r0
 | .done _ =>
  pure (decide ((p.length:Int) ≤ 4))
theorem zDh:∀ p r,oI p=some r→∀ {I:Imm}{p1 c},(S4 I p1 p c)→Ret Tryz.prog 96 [vS p1 p c] I [] (zZ  r):=by
 intro p r N I p1 c h;unfold oI at N;refine yA (fn:=Tryz.f96) (c:=(bodyOf Tryz.f96)) Tryz.func96 rfl rfl ?_;rintro B - -;refine yE []<|yI<|yE [(3,vI 0)]<|zD<|zV<|wS [(0,vS p1 p c),(3,vI 0)] ?_;obtain ⟨o0,ho0,hMl⟩:=zC N;refine zBc p 0 o0 ho0 iR h (fun _ _ _ h=>h) (fun _ _ h=>h) ?_ ?_
 · intro I01  heq le1;subst o0;refine zW<|wR [(2,.bool (decide ((p.length:Int) ≤ 4)))]<|zD<|yC ?_;obtain rfl:=zB hMl;exact wY
 intro r0 I9 hs9 m9 heq9 le9 hrs9;subst heq9;refine yB<|zM ?_;obtain rfl:=zB hMl;exact xH hrs9
def nU (r:Int×Bool):KT:=fun kk I' hs' v=>
  ∃ v0 v1,hs'=[]∧v=tupV [v0,v1]∧v0=.int .i64 r.1∧v1=.bool r.2
def uE (list:(List zG)) (part:zN) (y1:(List (List Int))) (i:Int) (k0:Int):Option (Out Unit (Int×Bool)):=do
 if (decide (k0 < (y1.length:Int))) then
  let x1←idx part.Body i
  let x2←idx y1 k0
  let (y5,y6,y7)←pG list x1 x2
  let t80←(do
    if (!y7) then
     pure true
    else
     let x3←idx y1 k0
     let y8←oI x3
     pure (!y8)
      : Option Bool)
  if t80 then
   pure (.ret (0,false))
  else
   uE list part y1 i (W (k0 + 1))
 else
  pure (.done ())
 partial_fixpoint
theorem zCT (list:(List zG)) (part:zN) (y1:(List (List Int))) (i:Int):∀ (k0:Int) (o:Out Unit (Int×Bool)),uE list part y1 i k0=some o→∀ {B}{I0 I:Imm}{Q p c p1 c1 p2 c2}{b:Nat}{p3 c3},I0.le I→(S4 I p list c)→(S4 I p3 y1 c3)→(S4 I p1 part.Nest c1)→(S4 I p2 part.Body c2)→NG Q→NO Q→(∀ (I':Imm) ,o=(.done ())→I0.le I'→T 87 B Q (.exit 2) I' [hB b (cPart part p1 c1 p2 c2)] [(0,vS p list c),(3,vP b 0),(6,vS p3 y1 c3),(8,vI i)])→(∀ r I' hs' m',o=(.ret r)→I0.le I'→RS Tryz.prog Tryz.f64 B (nU  r) I' hs' m'→T 87 B Q .ret I' hs' m')→J Tryz.prog 87 B (nav (bodyOf Tryz.f64) [1,1,1,0,1,0,0,1,0,0,1,1,0]) Q I [hB b (cPart part p1 c1 p2 c2)] [(0,vS p list c),(3,vP b 0),(6,vS p3 y1 c3),(8,vI i),(9,vI k0)]:=by
 refine uE.partial_correctness list part y1 i _ fun self ih k0 o N B I0 I Q p c p1 c1 p2 c2 b p3 c3 H h h3 h1 h2 hg ho hx hr=>yY hg ho<|yK<|yE [(53,.bool (decide (k0 < (y1.length:Int))))]<|zD<|yM N ?_ ?_
 · intro hc5 N;refine zX<|yI<|zV<|yK ?_;obtain ⟨x1,hy3,N⟩:=zC N;obtain ⟨x2,hy4,N⟩:=zC N;obtain ⟨⟨y5,y6,y7⟩,hy5,N⟩:=zC N;refine vQ [.p (vS p list c) [],.p (vP b 1) [],.p (vS p2 part.Body c2) [0],.p (vI i) [],.x (fun I' v hx=>∃ ad1 p8 c8 p9 c9 p10 c10 p11 c11,v=.pointer (some ad1)∧hx=[]∧(At I' ad1 (cStmt x1 p8 c8 p9 c9 p10 c10 p11 c11))∧(S4 I' p8 x1.Write.Subs c8)∧(S4 I' p9 x1.Value.Index.Coefs c9)∧(S4 I' p10 x1.Value.Read.Subs c10)∧(S4 I' p11 x1.Value.Kids c11)),.x (fun I' v hx=>∃ p81 c81 p91 c91 p101 c101 p111 c111,v=vA (cStmt x1 p81 c81 p91 c91 p101 c101 p111 c111)∧hx=[]∧(S4 I' p81 x1.Write.Subs c81)∧(S4 I' p91 x1.Value.Index.Coefs c91)∧(S4 I' p101 x1.Value.Read.Subs c101)∧(S4 I' p111 x1.Value.Kids c111)),.p (vS p3 y1 c3) [],.p (vI k0) [],.x (fun I' v hx=>∃ ad2 p12 c12,v=.pointer (some ad2)∧hx=[]∧(At I' ad2 [vS p12 x2 c12])∧(S4 I' p12 x2 c12)),.x (fun I' v hx=>∃ p121 c121,v=vS p121 x2 c121∧hx=[]∧(S4 I' p121 x2 c121)),.x (fun I' v hx=>∃ p13 c13,v=.tuple ⟨[vS p13 y5 c13,vI y6,.bool y7]⟩∧hx=[]∧(S4 I' p13 y5 c13)),.x (fun I' v hx=>∃ p131 c131,v=.tuple ⟨[vS p131 y5 c131,vI y6,.bool y7]⟩∧hx=[]∧(S4 I' p131 y5 c131)),.x (fun I' v hx=>∃ p1311 c1311,v=vS p1311 y5 c1311∧hx=[]∧(S4 I' p1311 y5 c1311)),.q (vI y6),.q (.bool y7),.x (fun I' v hx=>∃ p13111 c13111,v=vS p13111 y5 c13111∧hx=[]∧(S4 I' p13111 y5 c13111)),.p (vI y6) []] [[],[],[(1,false)],[],[(2,false),(3,false)],[(4,false)],[],[],[(6,false),(7,false)],[(8,false)],[(0,false),(5,false),(9,false)],[(10,false)],[(11,false)],[(11,false)],[(11,false)],[(12,false)],[(13,false)]] [hB b (cPart part p1 c1 p2 c2)] [] [(14,false)] (zE [0] rfl (by decide)) ?_ ?_
   · refine Op<|Op<|Op<|Op<|Ox ?_<|Ox ?_<|Op<|Op<|Ox ?_<|Ox ?_<|Ox ?_<|Ox ?_<|Ox ?_<|Oq ?_<|Oq ?_<|Ox ?_<|Op<|On
     · intro I1 hf le1;refine yV [(59,vS p2 part.Body c2),(60,vI i)] ?_;have h2:=h2.mono le1;refine xV rfl rfl h2 hy3 ?_;intro ad1 ccs1 hat1 hrep1;obtain ⟨p8,c8,p9,c9,p10,c10,p11,c11,rfl,h10,h11,h12,h13⟩:=rH hrep1;exact yS [] iR ⟨_,_,_,_,_,_,_,_,_,rfl,rfl,hat1,h10,h11,h12,h13⟩
     · intro I1 hf le1;refine zI ?_;rintro _ _ ⟨ad1,p8,c8,p9,c9,p10,c10,p11,c11,rfl,rfl,hat1,h10,h11,h12,h13⟩;exact yV [(61,.pointer (some ad1))]<|xR 0 hat1 (cStmt x1 p8 c8 p9 c9 p10 c10 p11 c11) (vA (cStmt x1 p8 c8 p9 c9 p10 c10 p11 c11)) rfl<|yS [] iR ⟨_,_,_,_,_,_,_,_,rfl,rfl,h10,h11,h12,h13⟩
     · intro I1 hf le1;refine yV [(63,vS p3 y1 c3),(64,vI k0)] ?_;have h3:=h3.mono le1;refine xV rfl rfl h3 hy4 ?_;intro ad2 ccs2 hat2 hrep2;obtain ⟨v011,rfl,h14⟩:=hrep2;obtain ⟨p12,c12,rfl⟩:=h14.form;exact yS [] iR ⟨_,_,_,rfl,rfl,hat2,h14⟩
     · intro I1 hf le1;refine zI ?_;rintro _ _ ⟨ad2,p12,c12,rfl,rfl,hat2,h14⟩;exact yV [(65,.pointer (some ad2))]<|xR 0 hat2 [vS p12 x2 c12] (vS p12 x2 c12) rfl<|yS [] iR ⟨_,_,rfl,rfl,h14⟩
     · intro I1 hf le1;refine zI ?_;rintro _ _ ⟨rfl,rfl⟩;refine zI ?_;rintro _ _ ⟨p81,c81,p91,c91,p101,c101,p111,c111,rfl,rfl,h101,h111,h121,h131⟩;refine zI ?_;rintro _ _ ⟨p121,c121,rfl,rfl,h141⟩;refine yV [(57,vS p list c),(62,vA (cStmt x1 p81 c81 p91 c91 p101 c101 p111 c111)),(66,vS p121 x2 c121)] ?_;have H:=iS I1;have h:=h.mono le1;refine xW (zAV list x1 x2 _ hy5 h h101 h111 h121 h131 h141) ?_;rintro I04 hs2 v2 k2 le4 - ⟨v012,v013,v014,rfl,rfl,h15,rfl,rfl⟩ -;have H:=H.trans le4;obtain ⟨p13,c13,rfl⟩:=h15.form;exact yS [] H ⟨_,_,rfl,rfl,h15⟩
     · intro I1 hf le1;refine zI ?_;rintro _ _ ⟨p13,c13,rfl,rfl,h15⟩;exact yV [(67,.tuple ⟨[vS p13 y5 c13,vI y6,.bool y7]⟩)]<|pH 12 [(56,.tuple ⟨[vS p13 y5 c13,vI y6,.bool y7]⟩)]<|yS [] iR ⟨_,_,rfl,rfl,h15⟩
     · intro I1 hf le1;refine zI ?_;rintro _ _ ⟨p131,c131,rfl,rfl,h151⟩;exact yV [(56,.tuple ⟨[vS p131 y5 c131,vI y6,.bool y7]⟩)]<|pH 13 [(68,vS p131 y5 c131)]<|yS [] iR ⟨_,_,rfl,rfl,h151⟩
     · intro I1 hf le1;refine zI ?_;rintro _ _ ⟨p131,c131,rfl,rfl,h151⟩;exact yV [(56,.tuple ⟨[vS p131 y5 c131,vI y6,.bool y7]⟩)]<|pH 14 [(69,vI y6)]<|xP iR
     · intro I1 hf le1;refine zI ?_;rintro _ _ ⟨p131,c131,rfl,rfl,h151⟩;exact yV [(56,.tuple ⟨[vS p131 y5 c131,vI y6,.bool y7]⟩)]<|pH 15 [(70,.bool y7)]<|xP iR
     intro I1 hf le1;refine zI ?_;rintro _ _ ⟨p1311,c1311,rfl,rfl,h1511⟩;exact yV [(68,vS p1311 y5 c1311)]<|pH 16 [(10,vS p1311 y5 c1311)]<|yS [] iR ⟨_,_,rfl,rfl,h1511⟩
   intro I05 le5;refine yV [(0,vS p list c),(3,vP b 0),(6,vS p3 y1 c3),(8,vI i),(9,vI k0),(70,.bool y7)] ?_;have h:=h.mono le5;have h3:=h3.mono le5;have h1:=h1.mono le5;have h2:=h2.mono le5;have H:=H.trans le5;refine yF [] [(12,.bool y7)]<|zD<|yK ?_;obtain ⟨o01,ho01,hMc1⟩:=zC N;refine yU (fun I' hs' m'=>∃ (t80:Bool),o01=t80∧I05.le I'∧hs'=[hB b (cPart part p1 c1 p2 c2)]∧m'=[(0,vS p list c),(3,vP b 0),(6,vS p3 y1 c3),(8,vI i),(9,vI k0),(80,.bool t80)]) ?_ ?_
   · have H:=iS I05;refine zQ<|yH 3 [] [(73,.bool (!y7))] ?_;cases hc6:(!y7) with
     | true =>
      have hM04:=zU hc6 ho01
      try rw [hc6]
      exact yF [] [(80,vY)]<|yR [(0,vS p list c),(3,vP b 0),(6,vS p3 y1 c3),(8,vI i),(9,vI k0),(80,vY)]<|zY ⟨_,(zB hM04).symm,H,rfl,rfl⟩
     | false =>
      have hM05:=zS hc6 ho01
      try rw [hc6]
      refine yH 5 [] [(74,vS p3 y1 c3),(75,vI k0)] ?_;obtain ⟨x3,hy6,N⟩:=zC hM05;refine xV rfl rfl h3 hy6 ?_;intro ad3 ccs3 hat3 hrep3;obtain ⟨v015,rfl,h18⟩:=hrep3;obtain ⟨p14,c14,rfl⟩:=h18.form;refine xR 0 hat3 [vS p14 x3 c14] (vS p14 x3 c14) rfl<|bE N fun y8 hy7 N=>uR (zDh x3 _ hy7 h18) ?_;intro I07 le6;have H:=H.trans le6;exact yF [] [(80,.bool (!y8))]<|yR [(0,vS p list c),(3,vP b 0),(6,vS p3 y1 c3),(8,vI i),(9,vI k0),(80,.bool (!y8))]<|zY ⟨_,(zB N).symm,H,rfl,rfl⟩
   rintro I06 hs2 m2 ⟨t80,heq1,le7,rfl,rfl⟩;subst o01;have h:=h.mono le7;have h3:=h3.mono le7;have h1:=h1.mono le7;have h2:=h2.mono le7;have H:=H.trans le7;refine zD<|yM hMc1 ?_ ?_
   · intro hc7 N;exact yE [(4,vI 0),(5,vF)]<|zD<|yC<|yB<|zM<|zM<|hr _ _ _ _ (zB N).symm H ⟨_,_,(.tmp rfl (.tmp rfl ResV.nil)),yD,⟨_,_,rfl,rfl,rfl,rfl⟩⟩
   intro hc7 N;exact zX<|zT<|zD<|zQ<|yF [] [(9,vI (W (k0 + 1)))]<|yZ<|wS [(0,vS p list c),(3,vP b 0),(6,vS p3 y1 c3),(8,vI i),(9,vI (W (k0 + 1)))]<|ih (W (k0 + 1)) _ N H h h3 h1 h2 hg ho hx hr
 intro hc5 N;exact yX<|zL<|zL<|yR [(0,vS p list c),(3,vP b 0),(6,vS p3 y1 c3),(8,vI i)]<|hx _  (zB N).symm H
def uF (list:(List zG)) (part:zN) (y1:(List (List Int))) (i:Int):Option (Out Unit (Int×Bool)):=do
 if (decide (i < (part.Body.length:Int))) then
  let x←idx part.Body i
  let y3←sB x (part.Nest.length:Int)
  if (!y3) then
   pure (.ret (0,false))
  else
   match←uE list part y1 i 0 with
   | .ret r0=>pure (.ret r0)
   | .done _ =>
    uF list part y1 (W (i + 1))
 else
  pure (.done ())
 partial_fixpoint
theorem zCU (list:(List zG)) (part:zN) (y1:(List (List Int))):∀ (i:Int) (o:Out Unit (Int×Bool)),uF list part y1 i=some o→∀ {B}{I0 I:Imm}{Q p c p1 c1 p2 c2}{b:Nat}{p3 c3},I0.le I→(S4 I p list c)→(S4 I p3 y1 c3)→(S4 I p1 part.Nest c1)→(S4 I p2 part.Body c2)→NG Q→NO Q→(∀ (I':Imm) ,o=(.done ())→I0.le I'→T 87 B Q (.exit 0) I' [hB b (cPart part p1 c1 p2 c2)] [(3,vP b 0),(6,vS p3 y1 c3)])→(∀ r I' hs' m',o=(.ret r)→I0.le I'→RS Tryz.prog Tryz.f64 B (nU  r) I' hs' m'→T 87 B Q .ret I' hs' m')→J Tryz.prog 87 B (nav (bodyOf Tryz.f64) [1,1,1,0,1,0]) Q I [hB b (cPart part p1 c1 p2 c2)] [(0,vS p list c),(3,vP b 0),(6,vS p3 y1 c3),(8,vI i)]:=by
 refine uF.partial_correctness list part y1 _ fun self ih i o N B I0 I Q p c p1 c1 p2 c2 b p3 c3 H h h3 h1 h2 hg ho hx hr=>yY hg ho<|yK<|yO<|yF [0] [(37,.bool (decide (i < (part.Body.length:Int))))]<|zD<|yM N ?_ ?_
 · intro hc3 N;refine zX<|yI<|zV<|yK<|yK ?_;obtain ⟨x,hy1,N⟩:=zC N;obtain ⟨y3,hy2,N⟩:=zC N;refine vQ [.p (vP b 1) [],.p (vS p2 part.Body c2) [0],.p (vI i) [],.x (fun I' v hx=>∃ ad p4 c4 p5 c5 p6 c6 p7 c7,v=.pointer (some ad)∧hx=[]∧(At I' ad (cStmt x p4 c4 p5 c5 p6 c6 p7 c7))∧(S4 I' p4 x.Write.Subs c4)∧(S4 I' p5 x.Value.Index.Coefs c5)∧(S4 I' p6 x.Value.Read.Subs c6)∧(S4 I' p7 x.Value.Kids c7)),.x (fun I' v hx=>∃ p41 c41 p51 c51 p61 c61 p71 c71,v=vA (cStmt x p41 c41 p51 c51 p61 c61 p71 c71)∧hx=[]∧(S4 I' p41 x.Write.Subs c41)∧(S4 I' p51 x.Value.Index.Coefs c51)∧(S4 I' p61 x.Value.Read.Subs c61)∧(S4 I' p71 x.Value.Kids c71)),.p (vP b 0) [],.p (vS p1 part.Nest c1) [0],.p (vI (part.Nest.length:Int)) [],.q (.bool y3),.p (.bool (!y3)) []] [[],[(0,false)],[],[(1,false),(2,false)],[(3,false)],[],[(5,false)],[(6,false)],[(4,false),(7,false)],[(8,false)]] [hB b (cPart part p1 c1 p2 c2)] [] [(9,false)] (zE [0] rfl (by decide)) ?_ ?_
   · refine Op<|Op<|Op<|Ox ?_<|Ox ?_<|Op<|Op<|Op<|Oq ?_<|Op<|On
     · intro I1 hf le1;refine yV [(41,vS p2 part.Body c2),(42,vI i)] ?_;have h2:=h2.mono le1;refine xV rfl rfl h2 hy1 ?_;intro ad ccs hat hrep;obtain ⟨p4,c4,p5,c5,p6,c6,p7,c7,rfl,h5,h6,h7,h8⟩:=rH hrep;exact yS [] iR ⟨_,_,_,_,_,_,_,_,_,rfl,rfl,hat,h5,h6,h7,h8⟩
     · intro I1 hf le1;refine zI ?_;rintro _ _ ⟨ad,p4,c4,p5,c5,p6,c6,p7,c7,rfl,rfl,hat,h5,h6,h7,h8⟩;exact yV [(43,.pointer (some ad))]<|xR 0 hat (cStmt x p4 c4 p5 c5 p6 c6 p7 c7) (vA (cStmt x p4 c4 p5 c5 p6 c6 p7 c7)) rfl<|yS [] iR ⟨_,_,_,_,_,_,_,_,rfl,rfl,h5,h6,h7,h8⟩
     intro I1 hf le1;refine zI ?_;rintro _ _ ⟨p41,c41,p51,c51,p61,c61,p71,c71,rfl,rfl,h51,h61,h71,h81⟩;refine yV [(44,vA (cStmt x p41 c41 p51 c51 p61 c61 p71 c71)),(47,vI (part.Nest.length:Int))] ?_;have H:=iS I1;refine uR (jP x (part.Nest.length:Int) _ hy2 h51 h61 h71 h81) ?_;intro I02 le2;have H:=H.trans le2;exact xP H
   intro I03 le3;refine yV [(0,vS p list c),(3,vP b 0),(6,vS p3 y1 c3),(8,vI i),(49,.bool (!y3))] ?_;have h:=h.mono le3;have h3:=h3.mono le3;have h1:=h1.mono le3;have h2:=h2.mono le3;have H:=H.trans le3;refine yN rfl<|zD<|yM N ?_ ?_
   · intro hc4 N;exact yE [(4,vI 0),(5,vF)]<|zD<|yC<|zM<|yB<|zM<|zM<|hr _ _ _ _ (zB N).symm H ⟨_,_,(.tmp rfl (.tmp rfl ResV.nil)),yD,⟨_,_,rfl,rfl,rfl,rfl⟩⟩
   intro hc4 N;refine zX<|wR [(9,vI 0)]<|zD<|zV<|wS [(0,vS p list c),(3,vP b 0),(6,vS p3 y1 c3),(8,vI i),(9,vI 0)] ?_;obtain ⟨o02,ho02,hMl⟩:=zC N;refine zCT list part y1 i 0 o02 ho02 iR h h3 h1 h2 (fun _ _ _ h=>hg _ _ _ h) (fun _ _ h=>ho _ _ h) ?_ ?_
   · intro I08  heq2 le8;subst o02;have h:=h.mono le8;have h3:=h3.mono le8;have h1:=h1.mono le8;have h2:=h2.mono le8;have H:=H.trans le8;exact zW<|zT<|zD<|zQ<|yF [] [(8,vI (W (i + 1)))]<|yZ<|wS [(0,vS p list c),(3,vP b 0),(6,vS p3 y1 c3),(8,vI (W (i + 1)))]<|ih (W (i + 1)) _ hMl H h h3 h1 h2 hg ho hx hr
   intro r0 I9 hs9 m9 heq9 le9 hrs9;subst heq9;exact yB<|yB<|zM<|zM<|hr _ _ _ _ (zB hMl).symm (H.trans le9) hrs9
 intro hc3 N;exact yX<|zL<|zL<|yR [(3,vP b 0),(6,vS p3 y1 c3)]<|hx _  (zB N).symm H
def pD (list:(List zG)) (part:zN):Option (Int×Bool):=do
 let (y1,y2)←rL part.Nest
 let t32←(do
   if (!y2) then
    pure true
   else
    if (decide ((part.Body.length:Int) < 1)) then
     pure true
    else
     pure (decide ((part.Body.length:Int) > 4))
     : Option Bool)
 if t32 then
  pure (0,false)
 else
  match←uF list part y1 0 with
  | .ret r0=>pure r0
  | .done _ =>
   pure ((W ((y1.length:Int) * (part.Body.length:Int))),true)
theorem fS:∀ list part r,pD list part=some r→∀ {I:Imm}{p c p1 c1 p2 c2},(S4 I p list c)→(S4 I p1 part.Nest c1)→(S4 I p2 part.Body c2)→Ret Tryz.prog 64 [vS p list c,vA (cPart part p1 c1 p2 c2)] I [] (nU  r):=by
 intro list part r N I p c p1 c1 p2 c2 h h1 h2;unfold pD at N;refine yA (fn:=Tryz.f64) (c:=(bodyOf Tryz.f64)) Tryz.func64 rfl rfl ?_;rintro B - -;have H:=iS I;refine yO<|tA (cPart part p1 c1 p2 c2) ?_;intro b hb;refine yF [] []<|xI<|yH 2 [0] [(15,vS p1 part.Nest c1)] ?_;obtain ⟨⟨y1,y2⟩,hy,N⟩:=zC N;refine xW (zBa part.Nest _ hy h1) ?_;rintro I0 hs2 v2 k2 le - ⟨v0,v01,rfl,rfl,h3,rfl⟩ -;have h:=h.mono le;have h1:=h1.mono le;have h2:=h2.mono le;have H:=H.trans le;obtain ⟨p3,c3,rfl⟩:=h3.form;refine yF [] [(6,vS p3 y1 c3),(7,.bool y2)]<|yI<|yK ?_;obtain ⟨o0,ho0,hMc⟩:=zC N;refine yU (fun I' hs' m'=>∃ (t32:Bool),o0=t32∧I0.le I'∧hs'=[hB b (cPart part p1 c1 p2 c2)]∧m'=[(0,vS p list c),(3,vP b 0),(6,vS p3 y1 c3),(32,.bool t32)]) ?_ ?_
 · have H:=iS I0;refine zQ<|yH 3 [] [(21,.bool (!y2))] ?_;cases hc:(!y2) with
   | true =>
    have hM0:=zU hc ho0
    try rw [hc]
    exact yF [] [(32,vY)]<|yR [(0,vS p list c),(3,vP b 0),(6,vS p3 y1 c3),(32,vY)]<|zY ⟨_,(zB hM0).symm,H,rfl,rfl⟩
   | false =>
    have hM01:=zS hc ho0
    try rw [hc]
    refine yH 9 [0] [(27,.bool (decide ((part.Body.length:Int) < 1)))] ?_;cases hc1:(decide ((part.Body.length:Int) < 1)) with
    | true =>
     have hM02:=zU hc1 hM01
     try rw [hc1]
     exact yF [] [(32,vY)]<|yR [(0,vS p list c),(3,vP b 0),(6,vS p3 y1 c3),(32,vY)]<|zY ⟨_,(zB hM02).symm,H,rfl,rfl⟩
    | false =>
     have hM03:=zS hc1 hM01
     try rw [hc1]
     exact yF [0] [(32,.bool (decide ((part.Body.length:Int) > 4)))]<|yR [(0,vS p list c),(3,vP b 0),(6,vS p3 y1 c3),(32,.bool (decide ((part.Body.length:Int) > 4)))]<|zY ⟨_,(zB hM03).symm,H,rfl,rfl⟩
 rintro I01 hs2 m2 ⟨t32,heq,le1,rfl,rfl⟩;subst o0;have h:=h.mono le1;have h3:=h3.mono le1;have h1:=h1.mono le1;have h2:=h2.mono le1;refine zD<|yM hMc ?_ ?_
 · intro hc2 N;refine yE [(4,vI 0),(5,vF)]<|zD<|yC<|zM ?_;obtain rfl:=zB N;exact xH ⟨_,_,(.tmp rfl (.tmp rfl ResV.nil)),yD,⟨_,_,rfl,rfl,rfl,rfl⟩⟩
 intro hc2 N;refine zX<|yI<|yE [(8,vI 0)]<|zD<|zV<|wS [(0,vS p list c),(3,vP b 0),(6,vS p3 y1 c3),(8,vI 0)] ?_;obtain ⟨o03,ho03,hMl1⟩:=zC N;refine zCU list part y1 0 o03 ho03 iR h h3 h1 h2 (fun _ _ _ h=>h) (fun _ _ h=>h) ?_ ?_
 · intro I09  heq3 le9;subst o03;refine zW<|xI<|yF [0] [(4,vI (W ((y1.length:Int) * (part.Body.length:Int)))),(5,vY)]<|zD<|yC ?_;obtain rfl:=zB hMl1;exact xH ⟨_,_,(.tmp rfl (.tmp rfl ResV.nil)),yD,⟨_,_,rfl,rfl,rfl,rfl⟩⟩
 intro r0 I9 hs9 m9 heq9 le9 hrs9;subst heq9;refine yB<|zM ?_;obtain rfl:=zB hMl1;exact xH hrs9
def wA (p:zJ) (total:Int) (i:Int):Option (Out Int (Bool)):=do
 if (decide (i < (p.Parts.length:Int))) then
  let x←idx p.Parts i
  let (y2,y3)←pD p.Arrays x
  if (!y3) then
   pure (.ret false)
  else
   wA p (W (total + y2)) (W (i + 1))
 else
  pure (.done total)
 partial_fixpoint
theorem dM (p:zJ):∀ (total:Int) (i:Int) (o:Out Int (Bool)),wA p total i=some o→∀ {B}{I0 I:Imm}{Q p1 c p2 c1}{b:Nat},I0.le I→(S4 I p1 p.Arrays c)→(S4 I p2 p.Parts c1)→NG Q→NO Q→(∀ (I':Imm) (total1:Int),o=(.done total1)→I0.le I'→T 42 B Q (.exit 0) I' [] [(3,vI total1)])→(∀ r I' hs' m',o=(.ret r)→I0.le I'→RS Tryz.prog Tryz.f38 B (zZ  r) I' hs' m'→T 42 B Q .ret I' hs' m')→J Tryz.prog 42 B (nav (bodyOf Tryz.f38) [1,1,1,0,1,0]) Q I [hB b (cProg p p1 c p2 c1)] [(1,vP b 0),(3,vI total),(4,vI i)]:=by
 refine wA.partial_correctness p _ fun self ih total i o N B I0 I Q p1 c p2 c1 b H h h1 hg ho hx hr=>yY hg ho<|yK<|yO<|yF [0] [(21,.bool (decide (i < (p.Parts.length:Int))))]<|zD<|yM N ?_ ?_
 · intro hc2 N;refine zX<|yI<|zV<|yK ?_;obtain ⟨x,hy1,N⟩:=zC N;obtain ⟨⟨y2,y3⟩,hy2,N⟩:=zC N;refine vQ [.p (vP b 0) [],.p (vS p1 p.Arrays c) [0],.p (vP b 1) [],.p (vS p2 p.Parts c1) [0],.p (vI i) [],.x (fun I' v hx=>∃ ad p3 c2 p4 c3,v=.pointer (some ad)∧hx=[]∧(At I' ad (cPart x p3 c2 p4 c3))∧(S4 I' p3 x.Nest c2)∧(S4 I' p4 x.Body c3)),.x (fun I' v hx=>∃ p31 c21 p41 c31,v=vA (cPart x p31 c21 p41 c31)∧hx=[]∧(S4 I' p31 x.Nest c21)∧(S4 I' p41 x.Body c31)),.q (.tuple ⟨[vI y2,.bool y3]⟩),.p (.tuple ⟨[vI y2,.bool y3]⟩) [],.p (vI y2) [],.p (.bool y3) [],.p (vI y2) []] [[],[(0,false)],[],[(2,false)],[],[(3,false),(4,false)],[(5,false)],[(1,false),(6,false)],[(7,false)],[(8,false)],[(8,false)],[(9,false)]] [hB b (cProg p p1 c p2 c1)] [] [(10,false),(11,false)] (zE [0] rfl (by decide)) ?_ ?_
   · refine Op<|Op<|Op<|Op<|Op<|Ox ?_<|Ox ?_<|Oq ?_<|Op<|Op<|Op<|Op<|On
     · intro I1 hf le1;refine yV [(28,vS p2 p.Parts c1),(29,vI i)] ?_;have h1:=h1.mono le1;refine xV rfl rfl h1 hy1 ?_;intro ad ccs hat hrep;obtain ⟨p3,c2,p4,c3,rfl,h3,h4⟩:=uU hrep;exact yS [] iR ⟨_,_,_,_,_,rfl,rfl,hat,h3,h4⟩
     · intro I1 hf le1;refine zI ?_;rintro _ _ ⟨ad,p3,c2,p4,c3,rfl,rfl,hat,h3,h4⟩;exact yV [(30,.pointer (some ad))]<|xR 0 hat (cPart x p3 c2 p4 c3) (vA (cPart x p3 c2 p4 c3)) rfl<|yS [] iR ⟨_,_,_,_,rfl,rfl,h3,h4⟩
     intro I1 hf le1;refine zI ?_;rintro _ _ ⟨rfl,rfl⟩;refine zI ?_;rintro _ _ ⟨p31,c21,p41,c31,rfl,rfl,h31,h41⟩;refine yV [(26,vS p1 p.Arrays c),(31,vA (cPart x p31 c21 p41 c31))] ?_;have H:=iS I1;have h:=h.mono le1;refine xW (fS p.Arrays x _ hy2 h h31 h41) ?_;rintro I02 hs2 v2 k2 le2 - ⟨v03,v04,rfl,rfl,rfl,rfl⟩ -;have H:=H.trans le2;exact xP H
   intro I03 le3;refine yV [(1,vP b 0),(3,vI total),(4,vI i),(5,vI y2),(34,.bool y3)] ?_;have h:=h.mono le3;have h1:=h1.mono le3;have H:=H.trans le3;refine yF [] [(6,.bool y3)]<|yI<|yE [(36,.bool (!y3))]<|zD<|yM N ?_ ?_
   · intro hc3 N;exact yE [(2,vF)]<|zD<|yC<|zM<|yB<|zM<|zM<|hr _ _ _ _ (zB N).symm H ⟨_,_,(.tmp rfl ResV.nil),yD,⟨_,rfl,rfl,rfl⟩⟩
   intro hc3 N;exact zX<|zD<|zQ<|yF [] [(3,vI (W (total + y2)))]<|zT<|zD<|zQ<|yF [] [(4,vI (W (i + 1)))]<|yZ<|wS [(1,vP b 0),(3,vI (W (total + y2))),(4,vI (W (i + 1)))]<|ih (W (total + y2)) (W (i + 1)) _ N H h h1 hg ho hx hr
 intro hc2 N;exact yX<|zL<|zL<|wC (zE [] rfl (by decide))<|yR [(3,vI total)]<|hx _ _ (zB N).symm H
def vV (p:zJ):Option (Bool):=do
 let t16←(do
   let y←pO p.Arrays
   if (!y) then
    pure true
   else
    pure (decide ((p.Parts.length:Int) > 4))
     : Option Bool)
 if t16 then
  pure false
 else
  match←wA p 0 0 with
  | .ret r0=>pure r0
  | .done total1 =>
   pure (decide (total1 ≤ 120))
theorem gO:∀ p r,vV p=some r→∀ {I:Imm}{p1 c p2 c1},(S4 I p1 p.Arrays c)→(S4 I p2 p.Parts c1)→Ret Tryz.prog 38 [vA (cProg p p1 c p2 c1)] I [] (zZ  r):=by
 intro p r N I p1 c p2 c1 h h1;unfold vV at N;refine yA (fn:=Tryz.f38) (c:=(bodyOf Tryz.f38)) Tryz.func38 rfl rfl ?_;rintro B - -;have H:=iS I;refine yO<|tA (cProg p p1 c p2 c1) ?_;intro b hb;refine yF [] []<|yI<|yK ?_;obtain ⟨o0,ho0,hMc⟩:=zC N;refine yU (fun I' hs' m'=>∃ (t16:Bool),o0=t16∧I.le I'∧hs'=[hB b (cProg p p1 c p2 c1)]∧m'=[(1,vP b 0),(16,.bool t16)]) ?_ ?_
 · have H:=iS I;refine zQ<|yH 2 [0] [(8,vS p1 p.Arrays c)] ?_;obtain ⟨y,hy,N⟩:=zC ho0;refine uR (zDB p.Arrays _ hy h) ?_;intro I01 le;have H:=H.trans le;refine yH 5 [] [(11,.bool (!y))] ?_;cases hc:(!y) with
   | true =>
    have hM0:=zU hc N
    try rw [hc]
    exact yF [] [(16,vY)]<|yR [(1,vP b 0),(16,vY)]<|zY ⟨_,(zB hM0).symm,H,rfl,rfl⟩
   | false =>
    have hM01:=zS hc N
    try rw [hc]
    exact yF [0] [(16,.bool (decide ((p.Parts.length:Int) > 4)))]<|yR [(1,vP b 0),(16,.bool (decide ((p.Parts.length:Int) > 4)))]<|zY ⟨_,(zB hM01).symm,H,rfl,rfl⟩
 rintro I0 hs2 m2 ⟨t16,heq,le1,rfl,rfl⟩;subst o0;have h:=h.mono le1;have h1:=h1.mono le1;refine zD<|yM hMc ?_ ?_
 · intro hc1 N;refine yE [(2,vF)]<|zD<|yC<|zM ?_;obtain rfl:=zB N;exact wY
 intro hc1 N;refine zX<|wR [(3,vI 0)]<|yI<|yE [(4,vI 0)]<|zD<|zV<|wS [(1,vP b 0),(3,vI 0),(4,vI 0)] ?_;obtain ⟨o01,ho01,hMl⟩:=zC N;refine dM p 0 0 o01 ho01 iR h h1 (fun _ _ _ h=>h) (fun _ _ h=>h) ?_ ?_
 · intro I04 total1 heq1 le4;subst o01;refine zW<|wR [(2,.bool (decide (total1 ≤ 120)))]<|zD<|yC ?_;obtain rfl:=zB hMl;exact wY
 intro r0 I9 hs9 m9 heq9 le9 hrs9;subst heq9;refine yB<|zM ?_;obtain rfl:=zB hMl;exact xH hrs9
def zDF (r:(List zG)):KT:=fun kk I' hs' v=>
  ∃ v0,hs'=[]∧v=tupV [v0]∧SL I' v0 r
def nJ :Option ((List zG)):=do
 pure ([(zG.mk (⟨[65]⟩:Str) ([6]:List Int)),(zG.mk (⟨[66]⟩:Str) ([4,5]:List Int)),(zG.mk (⟨[67]⟩:Str) ([3]:List Int))]:List zG)
theorem jQ:∀ r,nJ =some r→∀ {I:Imm} ,Ret Tryz.prog 86 [] I [] (zDF  r):=by
 intro  r N I;unfold nJ at N;refine yA (fn:=Tryz.f86) (c:=(bodyOf Tryz.f86)) Tryz.func86 rfl rfl ?_;rintro B - -;refine yE []<|xI<|xX [vI 6] Int ?_;intro b hb;have h:RL I [vI 6] ([6]:List Int):=⟨[vI 6],_,rfl,rfl,rfl,rfl⟩;refine yH 2 [] [(2,vA [vT ([65]),vS (some ⟨b,0,none⟩) ([6]:List Int) 1])]<|xX [vI 4,vI 5] Int ?_;intro b1 hb1;have h1:RL I [vI 4,vI 5] ([4,5]:List Int):=⟨[vI 4],_,rfl,rfl,rfl,⟨[vI 5],_,rfl,rfl,rfl,rfl⟩⟩;refine yH 4 [] [(4,vA [vT ([66]),vS (some ⟨b1,0,none⟩) ([4,5]:List Int) 2])]<|xX [vI 3] Int ?_;intro b2 hb2;have h2:RL I [vI 3] ([3]:List Int):=⟨[vI 3],_,rfl,rfl,rfl,rfl⟩;refine yH 6 [] [(6,vA [vT ([67]),vS (some ⟨b2,0,none⟩) ([3]:List Int) 1])]<|yJ 2 rfl ?_;intro I0 le hl0;have h3:=SL.of_frozen hl0 le h;have h1:=iM le h1;have h2:=iM le h2;refine yJ 1 rfl ?_;intro I01 le1 hl01;have h4:=SL.of_frozen hl01 le1 h1;have h3:=h3.mono le1;have h2:=iM le1 h2;refine yJ 0 rfl ?_;intro I02 le2 hl02;have h5:=SL.of_frozen hl02 le2 h2;have h3:=h3.mono le2;have h4:=h4.mono le2;refine xX [vT ([65]),vS (some ⟨b,0,none⟩) ([6]:List Int) 1,vT ([66]),vS (some ⟨b1,0,none⟩) ([4,5]:List Int) 2,vT ([67]),vS (some ⟨b2,0,none⟩) ([3]:List Int) 1] zG ?_;intro b3 hb3;have h6:RL I02 [vT ([65]),vS (some ⟨b,0,none⟩) ([6]:List Int) 1,vT ([66]),vS (some ⟨b1,0,none⟩) ([4,5]:List Int) 2,vT ([67]),vS (some ⟨b2,0,none⟩) ([3]:List Int) 1] ([(zG.mk (⟨[65]⟩:Str) ([6]:List Int)),(zG.mk (⟨[66]⟩:Str) ([4,5]:List Int)),(zG.mk (⟨[67]⟩:Str) ([3]:List Int))]:List zG):=⟨[vT ([65]),vS (some ⟨b,0,none⟩) ([6]:List Int) 1],_,rfl,rfl,(oQ ⟨_,rfl,h3⟩),⟨[vT ([66]),vS (some ⟨b1,0,none⟩) ([4,5]:List Int) 2],_,rfl,rfl,(oQ ⟨_,rfl,h4⟩),⟨[vT ([67]),vS (some ⟨b2,0,none⟩) ([3]:List Int) 1],_,rfl,rfl,(oQ ⟨_,rfl,h5⟩),rfl⟩⟩⟩;refine yF [] [(0,vS (some ⟨b3,0,none⟩) ([(zG.mk (⟨[65]⟩:Str) ([6]:List Int)),(zG.mk (⟨[66]⟩:Str) ([4,5]:List Int)),(zG.mk (⟨[67]⟩:Str) ([3]:List Int))]:List zG) 3)]<|zD<|yC<|xG 0 rfl ?_;intro I03 le3 hl03;have h7:=SL.of_frozen hl03 le3 h6;obtain rfl:=zB N;exact xH ⟨_,_,(.tmp rfl ResV.nil),yD,⟨_,rfl,rfl,h7⟩⟩
def sG (a0:zA) (x:Int) (b:zA) (y:Int) (i:Int) (Coefs:List Int):Option (List Int):=do
 if (decide (i < 4)) then
  let x1←idx a0.Coefs i
  let x2←idx b.Coefs i
  let l←app 8 Coefs ([(W ((W (x * x1)) + (W (y * x2))))]:List Int)
  sG a0 x b y (W (i + 1)) l
 else
  pure (id Coefs)
 partial_fixpoint
theorem zAh (a0:zA) (x:Int) (b:zA) (y:Int):∀ (i:Int) (Coefs:List Int) (o:List Int),sG a0 x b y i Coefs=some o→∀ {B}{I0 I:Imm}{Q p c p1 c1}{b1:Nat}{b2:Nat}{b3:Nat}{b4:Nat}{p2 c2 cs},I0.le I→(S4 I p1 b.Coefs c1)→(S4 I p a0.Coefs c)→(RL I cs Coefs)→NG Q→NO Q→(∀ (I':Imm) (Coefs1:List Int) (p3:Option Addr) (c3:Nat) (cs1:List Value),o=Coefs1→I0.le I'→(RL I' cs1 Coefs1)→T 46 B Q (.exit 0) I' [hO Int (vS p3 Coefs1 c3) cs1,hB b4 [vS p3 Coefs1 c3,vI (W ((W (x * a0.Const)) + (W (y * b.Const))))],hB b3 [z0,vI 0]] [(8,vP b3 0),(9,vP b4 0)])→J Tryz.prog 46 B (nav (bodyOf Tryz.f166) [1,1,0,1,0]) Q I [hO Int (vS p2 Coefs c2) cs,hB b4 [vS p2 Coefs c2,vI (W ((W (x * a0.Const)) + (W (y * b.Const))))],hB b3 [z0,vI 0],hB b2 (cAff b p1 c1),hB b1 (cAff a0 p c)] [(1,vI x),(3,vI y),(4,vP b1 0),(6,vP b2 0),(8,vP b3 0),(9,vP b4 0),(10,vI i)]:=by
 refine sG.partial_correctness a0 x b y _ fun self ih i Coefs o N B I0 I Q p c p1 c1 b1 b2 b3 b4 p2 c2 cs H h1 h h3 hg ho hx=>yY hg ho<|yK<|yE [(22,.bool (decide (i < 4)))]<|zD<|yM N ?_ ?_
 · intro hc N;refine zX<|yI<|zV ?_;obtain ⟨x1,hy,N⟩:=zC N;obtain ⟨x2,hy1,N⟩:=zC N;obtain ⟨l,hy2,N⟩:=zC N;refine vQ [.p (vP b4 0) [],.p (vS p2 Coefs c2) [0],.p (vI x) [],.p (vP b1 0) [],.p (vS p a0.Coefs c) [3],.p (vI i) [],.x (fun I' v hx=>∃ ad,v=.pointer (some ad)∧hx=[]∧(At I' ad [vI x1])),.q (vI x1),.p (vI (W (x * x1))) [],.p (vI y) [],.p (vP b2 0) [],.p (vS p1 b.Coefs c1) [2],.p (vI i) [],.x (fun I' v hx=>∃ ad1,v=.pointer (some ad1)∧hx=[]∧(At I' ad1 [vI x2])),.q (vI x2),.p (vI (W (y * x2))) [],.p (vI (W ((W (x * x1)) + (W (y * x2))))) [],.x (fun I' v hx=>∃ b5,v=vS (some ⟨b5,0,none⟩) ([(W ((W (x * x1)) + (W (y * x2))))]:List Int) 1∧hx=[]∧(SL I' (vS (some ⟨b5,0,none⟩) ([(W ((W (x * x1)) + (W (y * x2))))]:List Int) 1) ([(W ((W (x * x1)) + (W (y * x2))))]:List Int))),.x (fun I' v hx=>∃ p4 c4 cs2,v=vS p4 l c4∧hx=[hO Int (vS p4 l c4) cs2]∧(RL I' cs2 l))] [[],[(0,false)],[],[],[(3,false)],[],[(4,false),(5,false)],[(6,false)],[(2,false),(7,false)],[],[],[(10,false)],[],[(11,false),(12,false)],[(13,false)],[(9,false),(14,false)],[(8,false),(15,false)],[(16,false)],[(1,false),(17,false),(21,true)]] [hB b4 [vS p2 Coefs c2,vI (W ((W (x * a0.Const)) + (W (y * b.Const))))],hB b3 [z0,vI 0],hB b2 (cAff b p1 c1),hB b1 (cAff a0 p c)] [[hO Int (vS p2 Coefs c2) cs]] [(18,true)] (zE [1,2,3,4,0] rfl (by decide)) ?_ ?_
   · refine Op<|Op<|Op<|Op<|Op<|Op<|Ox ?_<|Oq ?_<|Op<|Op<|Op<|Op<|Op<|Ox ?_<|Oq ?_<|Op<|Op<|Ox ?_<|Ox ?_<|On
     · intro I1 hf le1;refine yV [(29,vS p a0.Coefs c),(30,vI i)] ?_;have h:=h.mono le1;refine xV rfl rfl h hy ?_;intro ad ccs hat hrep;obtain rfl:=hrep;exact yS [] iR ⟨_,rfl,rfl,hat⟩
     · intro I1 hf le1;refine zI ?_;rintro _ _ ⟨ad,rfl,rfl,hat⟩;exact yV [(31,.pointer (some ad))]<|xR 0 hat [vI x1] (vI x1) rfl<|xP iR
     · intro I1 hf le1;refine yV [(36,vS p1 b.Coefs c1),(37,vI i)] ?_;have h1:=h1.mono le1;refine xV rfl rfl h1 hy1 ?_;intro ad1 ccs1 hat1 hrep1;obtain rfl:=hrep1;exact yS [] iR ⟨_,rfl,rfl,hat1⟩
     · intro I1 hf le1;refine zI ?_;rintro _ _ ⟨ad1,rfl,rfl,hat1⟩;exact yV [(38,.pointer (some ad1))]<|xR 0 hat1 [vI x2] (vI x2) rfl<|xP iR
     · intro I1 hf le1;refine yV [(41,vI (W ((W (x * x1)) + (W (y * x2)))))] ?_;have H:=iS I1;refine xX [vI (W ((W (x * x1)) + (W (y * x2))))] Int ?_;intro b5 hb4;have h5:RL I1 [vI (W ((W (x * x1)) + (W (y * x2))))] ([(W ((W (x * x1)) + (W (y * x2))))]:List Int):=⟨[vI (W ((W (x * x1)) + (W (y * x2))))],_,rfl,rfl,rfl,rfl⟩;refine yJ 0 rfl ?_;intro I0 le hl0;have h6:=SL.of_frozen hl0 le h5;have H:=H.trans le;exact yS [] H ⟨_,rfl,rfl,h6⟩
     intro I1 hf le1;refine zI ?_;rintro _ _ ⟨rfl,rfl⟩;refine zI ?_;rintro _ _ ⟨b5,rfl,rfl,h6⟩;refine zI ?_;rintro _ _ rfl;refine yV [(26,vS p2 Coefs c2),(42,vS (some ⟨b5,0,none⟩) ([(W ((W (x * x1)) + (W (y * x2))))]:List Int) 1)] ?_;have h3:=iM le1 h3;obtain ⟨ccs2,k0,k01⟩:=h6;have h6:SL I1 (vS (some ⟨b5,0,none⟩) ([(W ((W (x * x1)) + (W (y * x2))))]:List Int) 1) ([(W ((W (x * x1)) + (W (y * x2))))]:List Int):=⟨_,k0,k01⟩;exact qF 3 1 0 rfl rfl rfl h3 (.inl k0) k01 hy2 fun p4 c4 cs2 h7=>uO (hs':=(hO Int (vS p4 l c4) cs2::hB b4 [vS p2 Coefs c2,vI (W ((W (x * a0.Const)) + (W (y * b.Const))))]::hB b3 [z0,vI 0]::hB b2 (cAff b p1 c1)::hB b1 (cAff a0 p c)::hf)) rfl<|yS [hO Int (vS p4 l c4) cs2] iR ⟨_,_,_,rfl,rfl,h7⟩
   intro I01 le1;refine zI ?_;rintro _ _ ⟨p4,c4,cs2,rfl,rfl,h7⟩;refine yV [(1,vI x),(3,vI y),(4,vP b1 0),(6,vP b2 0),(8,vP b3 0),(9,vP b4 0),(10,vI i),(43,vS p4 l c4)] ?_;have h1:=h1.mono le1;have h:=h.mono le1;have H:=H.trans le1;exact yH 20 [] [(44,vP b4 0)]<|xQ 1 [vS p4 l c4,vI (W ((W (x * a0.Const)) + (W (y * b.Const))))] [hO Int (vS p4 l c4) cs2,hB b4 [vS p4 l c4,vI (W ((W (x * a0.Const)) + (W (y * b.Const))))],hB b3 [z0,vI 0],hB b2 (cAff b p1 c1),hB b1 (cAff a0 p c)] rfl rfl rfl rfl<|yN rfl<|zT<|zD<|zQ<|yF [] [(10,vI (W (i + 1)))]<|yZ<|wS [(1,vI x),(3,vI y),(4,vP b1 0),(6,vP b2 0),(8,vP b3 0),(9,vP b4 0),(10,vI (W (i + 1)))]<|ih (W (i + 1)) l _ N H h1 h h7 hg ho hx
 intro hc N;exact yX<|zL<|zL<|wC (zE [0,1,2] rfl (by decide))<|yR [(8,vP b3 0),(9,vP b4 0)]<|hx _ _ _ _ _ (zB N).symm H h3
def oD (a0:zA) (x:Int) (b:zA) (y:Int):Option (zA):=do
 let Coefs1←sG a0 x b y 0 ([]:List Int)
 pure (zA.mk Coefs1 (W ((W (x * a0.Const)) + (W (y * b.Const)))))
theorem eV:∀ a0 x b y r,oD a0 x b y=some r→∀ {I:Imm}{p c p1 c1},(S4 I p a0.Coefs c)→(S4 I p1 b.Coefs c1)→Ret Tryz.prog 166 [vA (cAff a0 p c),vI x,vA (cAff b p1 c1),vI y] I [] (mJ  r):=by
 intro a0 x b y r N I p c p1 c1 h h1;unfold oD at N;refine yA (fn:=Tryz.f166) (c:=(bodyOf Tryz.f166)) Tryz.func166 rfl rfl ?_;rintro B - -;refine yO<|tA (cAff a0 p c) ?_;intro b1 hb;refine tA (cAff b p1 c1) ?_;intro b2 hb1;refine uQ [z0,vI 0] ?_;intro b3 hb2;refine yN rfl<|xI<|yH 10 [2,1] [(20,vA [z0,vI (W ((W (x * a0.Const)) + (W (y * b.Const))))])]<|uQ [z0,vI 0] ?_;intro b4 hb3;refine xQ 0 [z0,vI (W ((W (x * a0.Const)) + (W (y * b.Const))))] [hB b4 [z0,vI (W ((W (x * a0.Const)) + (W (y * b.Const))))],hB b3 [z0,vI 0],hB b2 (cAff b p1 c1),hB b1 (cAff a0 p c)] rfl rfl rfl rfl<|yN rfl<|yI<|yE [(10,vI 0)]<|zD<|zV<|wS [(1,vI x),(3,vI y),(4,vP b1 0),(6,vP b2 0),(8,vP b3 0),(9,vP b4 0),(10,vI 0)]<|qE (uP (Rp.sz Int)) ?_;have h2:RL I [] ([]:List Int):=RepL.nil;obtain ⟨o0,ho0,hMl⟩:=zC N;refine zAh a0 x b y 0 ([]:List Int) o0 ho0 iR h1 h h2 (fun _ _ _ h=>h) (fun _ _ h=>h) ?_;intro I02 Coefs1 p3 c3 cs1 heq le2 h4;subst o0;refine zW<|xI<|yH 1 [1] [(45,vA [vS p3 Coefs1 c3,vI (W ((W (x * a0.Const)) + (W (y * b.Const))))])]<|xQ 2 [vS p3 Coefs1 c3,vI (W ((W (x * a0.Const)) + (W (y * b.Const))))] [hO Int (vS p3 Coefs1 c3) cs1,hB b4 [vS p3 Coefs1 c3,vI (W ((W (x * a0.Const)) + (W (y * b.Const))))],hB b3 [vS p3 Coefs1 c3,vI (W ((W (x * a0.Const)) + (W (y * b.Const))))]] rfl rfl rfl rfl<|yN rfl<|zD<|yC<|xG 0 rfl ?_;intro I03 le3 hl01;have h8:=SL.of_frozen hl01 le3 h4;obtain rfl:=zB hMl;exact xH ⟨_,_,(.cell 1 rfl rfl (by kernel_rfl) ResV.nil),yD,⟨_,rfl,rfl,⟨_,rfl,(yP ⟨_,rfl,h8⟩)⟩⟩⟩
def zDG (b0:Nat) (r:zH×zO):KT:=fun kk I' hs' v=>
  ∃ v0 k0,hs'=[.blk b0 ⟨k0⟩]∧v=tupV [v0]∧(∃ cs,v0=.agg ⟨cs⟩∧Rp.rep I' cs r.1)∧Rp.rep I' k0 r.2
def kZ (r0:zO) (depth:Int):Option (zH×zO):=do
 let (y1,y2)←xB r0 ([0,0,1,0,(-1)]:List Int)
 let y3←wJ y1
 let (y5,y6)←xB y2 ([3,4,2,3,1]:List Int)
 let y7←wJ y5
 let (t23,x)←(do
   if (decide (depth > 0)) then
    let (y9,y10)←xC y6 4
    pure ((y9 == 0),y10)
   else
    pure (false,y6)
     : Option (Bool×zO))
 let (x1,x2,x3)←(do
   if t23 then
    let (y12,y13)←xC x depth
    let (y15,y16)←xC y13 2
    let (x4,x5)←(do
      if (y15 == 0) then
       let y17←pW y12
       pure (y17,(zA.mk y7.Coefs y7.Const))
      else
       let y18←pW y12
       let y19←wJ 1
       let y20←oD y18 1 y19 1
       pure ((zA.mk y3.Coefs y3.Const),y20)
        : Option (zA×zA))
    pure (x4,x5,y16)
   else
    pure ((zA.mk y3.Coefs y3.Const),(zA.mk y7.Coefs y7.Const),x)
     : Option (zA×zA×zO))
 let (y22,y23)←xC x3 12
 let (Lo,Hi,x6)←(do
   if (y22 == 0) then
    let (y25,y26)←xB y23 ([3,2,4]:List Int)
    let y27←wJ y25
    let l←app 32 ([x2]:List zA) ([y27]:List zA)
    pure (([x1]:List zA),l,y26)
   else
    let (Lo1,x7)←(do
      if (y22 == 1) then
       let (y29,y30)←xB y23 ([0,1]:List Int)
       let y31←wJ y29
       let l1←app 32 ([x1]:List zA) ([y31]:List zA)
       pure (l1,y30)
      else
       pure (([x1]:List zA),y23)
        : Option (List zA×zO))
    pure (Lo1,([x2]:List zA),x7)
     : Option (List zA×List zA×zO))
 pure ((zH.mk Lo Hi),x6)
theorem zE5:∀ r0 depth r,kZ r0 depth=some r→∀ {I:Imm}{r01:Nat}{p c},(S4 I p r0.b c)→Ret Tryz.prog 147 [vP r01 0,vI depth] I [hB r01 (cRd r0 p c)] (zDG r01 r):=by
 intro r0 depth r N I r01 p c h;unfold kZ at N;refine yA (fn:=Tryz.f147) (c:=(bodyOf Tryz.f147)) Tryz.func147 rfl rfl ?_;rintro B - -;have H:=iS I;refine yO<|uQ zTwo ?_;intro b hb;refine yN rfl<|xI<|yH 1 [] [(9,vP r01 0)]<|xX [vI 0,vI 0,vI 1,vI 0,vI (-1)] Int ?_;intro b1 hb1;have h1:RL I [vI 0,vI 0,vI 1,vI 0,vI (-1)] ([0,0,1,0,(-1)]:List Int):=⟨[vI 0],_,rfl,rfl,rfl,⟨[vI 0],_,rfl,rfl,rfl,⟨[vI 1],_,rfl,rfl,rfl,⟨[vI 0],_,rfl,rfl,rfl,⟨[vI (-1)],_,rfl,rfl,rfl,rfl⟩⟩⟩⟩⟩;refine yJ 0 rfl ?_;intro I0 le hl0;have h2:=SL.of_frozen hl0 le h1;have h:=h.mono le;have H:=H.trans le;refine rW (zE [1,0] (hs':=[hB r01 (cRd r0 p c),hB b zTwo]) rfl (by decide)) ?_;obtain ⟨⟨y1,y2⟩,hy,N⟩:=zC N;refine sY [hB r01 (cRd r0 p c)] [hB b zTwo] (xL r0 ([0,0,1,0,(-1)]:List Int) _ hy h h2) ?_;rintro I01 hs2 v2 k2 le1 - ⟨v0,kk,rfl,rfl,rfl,h4⟩ -;have H:=H.trans le1;obtain ⟨p1,c1,rfl,h5⟩:=yL h4;obtain ⟨y3,hy1,N⟩:=zC N;refine xW (vX y1 _ hy1 ) ?_;rintro I02 hs2 v2 k2 le2 - ⟨p2,c2,cs,rfl,rfl,h6⟩ -;have h5:=h5.mono le2;have H:=H.trans le2;refine uQ [z0,vI 0] ?_;intro b2 hb2;refine xQ 0 (cAff y3 p2 c2) [hB b2 (cAff y3 p2 c2),hO Int (vS p2 y3.Coefs c2) cs,hB r01 (cRd y2 p1 c1),hB b zTwo] rfl rfl rfl rfl<|yN rfl<|xI<|yH 1 [] [(13,vP r01 0)]<|xX [vI 3,vI 4,vI 2,vI 3,vI 1] Int ?_;intro b3 hb3;have h7:RL I02 [vI 3,vI 4,vI 2,vI 3,vI 1] ([3,4,2,3,1]:List Int):=⟨[vI 3],_,rfl,rfl,rfl,⟨[vI 4],_,rfl,rfl,rfl,⟨[vI 2],_,rfl,rfl,rfl,⟨[vI 3],_,rfl,rfl,rfl,⟨[vI 1],_,rfl,rfl,rfl,rfl⟩⟩⟩⟩⟩;refine yJ 0 rfl ?_;intro I03 le3 hl01;have h8:=SL.of_frozen hl01 le3 h7;have h6:=iM le3 h6;have h5:=h5.mono le3;have H:=H.trans le3;refine rW (zE [2,0,1,3] (hs':=[hB r01 (cRd y2 p1 c1),hB b2 (cAff y3 p2 c2),hO Int (vS p2 y3.Coefs c2) cs,hB b zTwo]) rfl (by decide)) ?_;obtain ⟨⟨y5,y6⟩,hy2,N⟩:=zC N;refine sY [hB r01 (cRd y2 p1 c1)] [hB b2 (cAff y3 p2 c2),hO Int (vS p2 y3.Coefs c2) cs,hB b zTwo] (xL y2 ([3,4,2,3,1]:List Int) _ hy2 h5 h8) ?_;rintro I04 hs2 v2 k2 le4 - ⟨v02,kk1,rfl,rfl,rfl,h10⟩ -;have h6:=iM le4 h6;have H:=H.trans le4;obtain ⟨p3,c3,rfl,h11⟩:=yL h10;obtain ⟨y7,hy3,N⟩:=zC N;refine xW (vX y5 _ hy3 ) ?_;rintro I05 hs2 v2 k2 le5 - ⟨p4,c4,cs1,rfl,rfl,h12⟩ -;have h11:=h11.mono le5;have h6:=iM le5 h6;have H:=H.trans le5;refine uQ [z0,vI 0] ?_;intro b4 hb4;refine xQ 0 (cAff y7 p4 c4) [hB b4 (cAff y7 p4 c4),hO Int (vS p4 y7.Coefs c4) cs1,hB r01 (cRd y6 p3 c3),hB b2 (cAff y3 p2 c2),hO Int (vS p2 y3.Coefs c2) cs,hB b zTwo] rfl rfl rfl rfl<|yN rfl<|yI<|yK ?_;obtain ⟨o0,ho0,hMc⟩:=zC N;refine yU (fun I' hs' m'=>∃ (t23:Bool) (x:zO) (p5:Option Addr) (c5:Nat),o0=(t23,x)∧I05.le I'∧(S4 I' p5 x.b c5)∧hs'=[hB b4 (cAff y7 p4 c4),hO Int (vS p4 y7.Coefs c4) cs1,hB r01 (cRd x p5 c5),hB b2 (cAff y3 p2 c2),hO Int (vS p2 y3.Coefs c2) cs,hB b zTwo]∧m'=[(0,vP r01 0),(1,vI depth),(4,vP b 0),(5,vP b2 0),(6,vP b4 0),(23,.bool t23)]) ?_ ?_
 · have H:=iS I05;refine zQ<|yH 3 [] [(19,.bool (decide (depth > 0)))] ?_;cases hc:(decide (depth > 0)) with
   | true =>
    have hM0:=zU hc ho0
    try rw [hc]
    refine yH 4 [] [(20,vP r01 0)]<|rW (zE [2,0,1,3,4,5] (hs':=[hB r01 (cRd y6 p3 c3),hB b4 (cAff y7 p4 c4),hO Int (vS p4 y7.Coefs c4) cs1,hB b2 (cAff y3 p2 c2),hO Int (vS p2 y3.Coefs c2) cs,hB b zTwo]) rfl (by decide)) ?_;obtain ⟨⟨y9,y10⟩,hy4,N⟩:=zC hM0;refine sY [hB r01 (cRd y6 p3 c3)] [hB b4 (cAff y7 p4 c4),hO Int (vS p4 y7.Coefs c4) cs1,hB b2 (cAff y3 p2 c2),hO Int (vS p2 y3.Coefs c2) cs,hB b zTwo] (xT y6 4 _ hy4 h11) ?_;rintro I07 hs2 v2 k2 le6 - ⟨v04,kk2,rfl,rfl,rfl,h15⟩ -;have H:=H.trans le6;obtain ⟨p6,c6,rfl,h16⟩:=yL h15;exact yF [] [(23,.bool (y9 == 0))]<|wC (zE [1,2,0,3,4,5] rfl (by decide))<|yR [(0,vP r01 0),(1,vI depth),(4,vP b 0),(5,vP b2 0),(6,vP b4 0),(23,.bool (y9 == 0))]<|zY ⟨_,_,_,_,(zB N).symm,H,h16,rfl,rfl⟩
   | false =>
    have hM01:=zS hc ho0
    try rw [hc]
    exact yF [] [(23,vF)]<|yR [(0,vP r01 0),(1,vI depth),(4,vP b 0),(5,vP b2 0),(6,vP b4 0),(23,vF)]<|zY ⟨_,_,_,_,(zB hM01).symm,H,h11,rfl,rfl⟩
 rintro I06 hs2 m2 ⟨t23,x,p5,c5,heq,le7,h13,rfl,rfl⟩;subst o0;have h12:=iM le7 h12;have h6:=iM le7 h6;have H:=H.trans le7;refine zD<|oF 4 rfl ?_;intro I08 le8 hl02;have h17:=SL.of_frozen hl02 le8 h6;have h12:=iM le8 h12;have h13:=h13.mono le8;have H:=H.trans le8;refine oF 1 rfl ?_;intro I09 le9 hl03;have h18:=SL.of_frozen hl03 le9 h12;have h13:=h13.mono le9;have h17:=h17.mono le9;have H:=H.trans le9;obtain ⟨o01,ho01,hMc1⟩:=zC hMc;refine yU (fun I' hs' m'=>∃ (x1:zA) (x2:zA) (x3:zO) (p7:Option Addr) (c7:Nat) (p8:Option Addr) (c8:Nat) (p9:Option Addr) (c9:Nat),o01=(x1,x2,x3)∧I09.le I'∧(S4 I' p7 x1.Coefs c7)∧(S4 I' p8 x2.Coefs c8)∧(S4 I' p9 x3.b c9)∧hs'=[hB b4 (cAff x2 p8 c8),hB r01 (cRd x3 p9 c9),hB b2 (cAff x1 p7 c7),hB b zTwo]∧m'=[(0,vP r01 0),(4,vP b 0),(5,vP b2 0),(6,vP b4 0)]) ?_ ?_
 · have H:=iS I09;refine yM ho01 ?_ ?_
   · intro hc1 N;refine yO<|yH 2 [] [(24,vP r01 0),(25,vI depth)]<|rW (zE [1,0,2,3] (hs':=[hB r01 (cRd x p5 c5),hB b4 (cAff y7 p4 c4),hB b2 (cAff y3 p2 c2),hB b zTwo]) rfl (by decide)) ?_;obtain ⟨⟨y12,y13⟩,hy5,N⟩:=zC N;refine sY [hB r01 (cRd x p5 c5)] [hB b4 (cAff y7 p4 c4),hB b2 (cAff y3 p2 c2),hB b zTwo] (xT x depth _ hy5 h13) ?_;rintro I011 hs2 v2 k2 le10 - ⟨v06,kk3,rfl,rfl,rfl,h23⟩ -;have h18:=h18.mono le10;have h17:=h17.mono le10;have H:=H.trans le10;obtain ⟨p10,c10,rfl,h24⟩:=yL h23;refine yF [] [(7,vI y12)]<|xI<|yH 1 [] [(27,vP r01 0)] ?_;obtain ⟨⟨y15,y16⟩,hy6,N⟩:=zC N;refine sY [hB r01 (cRd y13 p10 c10)] [hB b4 (cAff y7 p4 c4),hB b2 (cAff y3 p2 c2),hB b zTwo] (xT y13 2 _ hy6 h24) ?_;rintro I012 hs2 v2 k2 le11 - ⟨v08,kk4,rfl,rfl,rfl,h26⟩ -;have h18:=h18.mono le11;have h17:=h17.mono le11;have H:=H.trans le11;obtain ⟨p11,c11,rfl,h27⟩:=yL h26;refine yF [] [(29,.bool (y15 == 0))]<|zD ?_;obtain ⟨o02,ho02,hMc2⟩:=zC N;refine yU (fun I' hs' m'=>∃ (x4:zA) (x5:zA) (p12:Option Addr) (c12:Nat) (p13:Option Addr) (c13:Nat),o02=(x4,x5)∧I012.le I'∧(S4 I' p12 x4.Coefs c12)∧(S4 I' p13 x5.Coefs c13)∧hs'=[hB r01 (cRd y16 p11 c11),hB b4 (cAff x5 p13 c13),hB b2 (cAff x4 p12 c12),hB b zTwo]∧m'=[(0,vP r01 0),(4,vP b 0),(5,vP b2 0),(6,vP b4 0)]) ?_ ?_
     · have H:=iS I012;refine yM ho02 ?_ ?_
       · intro hc2 N;refine zQ<|yH 1 [] [(30,vI y12)]<|bE N fun y17 hy7 N=>xW (kY y12 _ hy7 ) ?_;rintro I014 hs2 v2 k2 le12 - ⟨v010,rfl,rfl,⟨cs2,rfl,h30⟩⟩ -;have h18:=h18.mono le12;have H:=H.trans le12;obtain ⟨p14,c14,rfl,h31⟩:=yQ h30;exact xQ 2 (cAff y17 p14 c14) [hB r01 (cRd y16 p11 c11),hB b4 (cAff y7 p4 c4),hB b2 (cAff y17 p14 c14),hB b zTwo] rfl rfl rfl rfl<|yN rfl<|yR [(0,vP r01 0),(4,vP b 0),(5,vP b2 0),(6,vP b4 0)]<|zY ⟨_,_,_,_,_,_,(zB N).symm,H,h31,h18,rfl,rfl⟩
       intro hc2 N;refine zQ<|yH 1 [] [(32,vI y12)]<|bE N fun y18 hy8 N=>xW (kY y12 _ hy8 ) ?_;rintro I015 hs2 v2 k2 le13 - ⟨v012,rfl,rfl,⟨cs3,rfl,h32⟩⟩ -;have h17:=h17.mono le13;have H:=H.trans le13;obtain ⟨p15,c15,rfl,h33⟩:=yQ h32;obtain ⟨y19,hy9,N⟩:=zC N;refine xW (vX 1 _ hy9 ) ?_;rintro I016 hs2 v2 k2 le14 - ⟨p16,c16,cs4,rfl,rfl,h34⟩ -;have h33:=h33.mono le14;have h17:=h17.mono le14;have H:=H.trans le14;refine yJ 0 rfl ?_;intro I017 le15 hl04;have h35:=SL.of_frozen hl04 le15 h34;have h33:=h33.mono le15;have h17:=h17.mono le15;have H:=H.trans le15;obtain ⟨y20,hy10,N⟩:=zC N;refine xW (eV y18 1 y19 1 _ hy10 h33 h35) ?_;rintro I018 hs2 v2 k2 le16 - ⟨v014,rfl,rfl,⟨cs5,rfl,h36⟩⟩ -;have h17:=h17.mono le16;have H:=H.trans le16;obtain ⟨p17,c17,rfl,h37⟩:=yQ h36;exact xQ 1 (cAff y20 p17 c17) [hB r01 (cRd y16 p11 c11),hB b4 (cAff y20 p17 c17),hB b2 (cAff y3 p2 c2),hB b zTwo] rfl rfl rfl rfl<|yN rfl<|yR [(0,vP r01 0),(4,vP b 0),(5,vP b2 0),(6,vP b4 0)]<|zY ⟨_,_,_,_,_,_,(zB N).symm,H,h17,h37,rfl,rfl⟩
     rintro I013 hs2 m2 ⟨x4,x5,p12,c12,p13,c13,heq1,le17,h28,h29,rfl,rfl⟩;subst o02;have h27:=h27.mono le17;have H:=H.trans le17;exact wC (zE [1,0,2,3] rfl (by decide))<|yR [(0,vP r01 0),(4,vP b 0),(5,vP b2 0),(6,vP b4 0)]<|zY ⟨_,_,_,_,_,_,_,_,_,(zB hMc2).symm,H,h28,h29,h27,rfl,rfl⟩
   intro hc1 N;exact zX<|yR [(0,vP r01 0),(4,vP b 0),(5,vP b2 0),(6,vP b4 0)]<|zY ⟨_,_,_,_,_,_,_,_,_,(zB N).symm,H,h17,h18,h13,rfl,rfl⟩
 rintro I010 hs2 m2 ⟨x1,x2,x3,p7,c7,p8,c8,p9,c9,heq2,le18,h19,h20,h21,rfl,rfl⟩;subst o01;have H:=H.trans le18;refine xI<|yH 1 [2] [(36,vA (cAff x1 p7 c7))]<|xX (cAff x1 p7 c7) zA ?_;intro b5 hb5;have h38:RL I010 (cAff x1 p7 c7) ([x1]:List zA):=⟨(cAff x1 p7 c7),_,rfl,rfl,(yP ⟨_,rfl,h19⟩),rfl⟩;refine yH 3 [1] [(38,vA (cAff x2 p8 c8))]<|xX (cAff x2 p8 c8) zA ?_;intro b6 hb6;have h39:RL I010 (cAff x2 p8 c8) ([x2]:List zA):=⟨(cAff x2 p8 c8),_,rfl,rfl,(yP ⟨_,rfl,h20⟩),rfl⟩;refine yH 5 [] [(40,vA [vS (some ⟨b5,0,none⟩) ([x1]:List zA) 1,vS (some ⟨b6,0,none⟩) ([x2]:List zA) 1])]<|uQ zTwo ?_;intro b7 hb7;refine xQ 0 [vS (some ⟨b5,0,none⟩) ([x1]:List zA) 1,vS (some ⟨b6,0,none⟩) ([x2]:List zA) 1] [hB b7 [vS (some ⟨b5,0,none⟩) ([x1]:List zA) 1,vS (some ⟨b6,0,none⟩) ([x2]:List zA) 1],hO zA (vS (some ⟨b6,0,none⟩) ([x2]:List zA) 1) (cAff x2 p8 c8),hO zA (vS (some ⟨b5,0,none⟩) ([x1]:List zA) 1) (cAff x1 p7 c7),hB b4 (cAff x2 p8 c8),hB r01 (cRd x3 p9 c9),hB b2 (cAff x1 p7 c7),hB b zTwo] rfl rfl rfl rfl<|yN rfl<|yI<|yO<|yH 1 [] [(41,vP r01 0)]<|rW (zE [4,0,1,2,3,5,6] (hs':=[hB r01 (cRd x3 p9 c9),hB b7 [vS (some ⟨b5,0,none⟩) ([x1]:List zA) 1,vS (some ⟨b6,0,none⟩) ([x2]:List zA) 1],hO zA (vS (some ⟨b6,0,none⟩) ([x2]:List zA) 1) (cAff x2 p8 c8),hO zA (vS (some ⟨b5,0,none⟩) ([x1]:List zA) 1) (cAff x1 p7 c7),hB b4 (cAff x2 p8 c8),hB b2 (cAff x1 p7 c7),hB b zTwo]) rfl (by decide)) ?_;obtain ⟨⟨y22,y23⟩,hy11,N⟩:=zC hMc1;refine sY [hB r01 (cRd x3 p9 c9)] [hB b7 [vS (some ⟨b5,0,none⟩) ([x1]:List zA) 1,vS (some ⟨b6,0,none⟩) ([x2]:List zA) 1],hO zA (vS (some ⟨b6,0,none⟩) ([x2]:List zA) 1) (cAff x2 p8 c8),hO zA (vS (some ⟨b5,0,none⟩) ([x1]:List zA) 1) (cAff x1 p7 c7),hB b4 (cAff x2 p8 c8),hB b2 (cAff x1 p7 c7),hB b zTwo] (xT x3 12 _ hy11 h21) ?_;rintro I019 hs2 v2 k2 le19 - ⟨v016,kk5,rfl,rfl,rfl,h41⟩ -;have h38:=iM le19 h38;have h39:=iM le19 h39;have H:=H.trans le19;obtain ⟨p18,c18,rfl,h42⟩:=yL h41;refine yN rfl<|zD<|zV<|yE [(43,.bool (y22 == 0))]<|zD<|oF 4 rfl ?_;intro I020 le20 hl05;have hat:At I020 ⟨b4,0,none⟩ (cAff x2 p8 c8):=At.of_blk hl05;have h42:=h42.mono le20;have h38:=iM le20 h38;have h39:=iM le20 h39;have H:=H.trans le20;refine oF 4 rfl ?_;intro I021 le21 hl06;have hat1:At I021 ⟨b2,0,none⟩ (cAff x1 p7 c7):=At.of_blk hl06;have h42:=h42.mono le21;have h38:=iM le21 h38;have h39:=iM le21 h39;have H:=H.trans le21;obtain ⟨o03,ho03,hMc3⟩:=zC N;refine yU (fun I' hs' m'=>∃ (Lo:List zA) (Hi:List zA) (x6:zO) (p19:Option Addr) (c19:Nat) (cs6:List Value) (p20:Option Addr) (c20:Nat) (cs7:List Value) (p21:Option Addr) (c21:Nat),o03=(Lo,Hi,x6)∧I021.le I'∧(RL I' cs6 Lo)∧(RL I' cs7 Hi)∧(S4 I' p21 x6.b c21)∧hs'=[hB r01 (cRd x6 p21 c21),hB b7 [vS p19 Lo c19,vS p20 Hi c20],hO zA (vS p20 Hi c20) cs7,hO zA (vS p19 Lo c19) cs6,hB b zTwo]∧m'=[(4,vP b 0),(8,vP b7 0)]) ?_ ?_
 · have H:=iS I021;refine yM ho03 ?_ ?_
   · intro hc3 N;obtain ⟨⟨y25,y26⟩,hy12,N⟩:=zC N;obtain ⟨y27,hy13,N⟩:=zC N;obtain ⟨l,hy14,N⟩:=zC N;refine vQ [.p (vP b7 1) [],.p (vS (some ⟨b6,0,none⟩) ([x2]:List zA) 1) [0],.p (vP r01 0) [],.x (fun I' v hx=>∃ b8,v=vS (some ⟨b8,0,none⟩) ([3,2,4]:List Int) 3∧hx=[]∧(SL I' (vS (some ⟨b8,0,none⟩) ([3,2,4]:List Int) 3) ([3,2,4]:List Int))),.x (fun I' v hx=>∃ p22 c22,v=vI y25∧hx=[hB r01 (cRd y26 p22 c22)]∧(S4 I' p22 y26.b c22)),.x (fun I' v hx=>∃ p23 c23 cs8,v=vA (cAff y27 p23 c23)∧hx=[hO Int (vS p23 y27.Coefs c23) cs8]∧(RL I' cs8 y27.Coefs)),.x (fun I' v hx=>∃ b9,v=vS (some ⟨b9,0,none⟩) ([y27]:List zA) 1∧hx=[]∧(SL I' (vS (some ⟨b9,0,none⟩) ([y27]:List zA) 1) ([y27]:List zA))),.x (fun I' v hx=>∃ p24 c24 cs9,v=vS p24 l c24∧hx=[hO zA (vS p24 l c24) cs9]∧(RL I' cs9 l))] [[],[(0,false)],[],[],[(2,false),(3,false),(10,true)],[(4,false)],[(5,true)],[(1,false),(6,false),(11,true)]] [hB b7 [vS (some ⟨b5,0,none⟩) ([x1]:List zA) 1,vS (some ⟨b6,0,none⟩) ([x2]:List zA) 1],hO zA (vS (some ⟨b5,0,none⟩) ([x1]:List zA) 1) (cAff x1 p7 c7),hB b zTwo] [[hB r01 (cRd y23 p18 c18)],[hO zA (vS (some ⟨b6,0,none⟩) ([x2]:List zA) 1) (cAff x2 p8 c8)]] [(4,true),(7,true)] (zE [1,3,4,0,2] rfl (by decide)) ?_ ?_
     · refine Op<|Op<|Op<|Ox ?_<|Ox ?_<|Ox ?_<|Ox ?_<|Ox ?_<|On
       · intro I1 hf le1;refine yV [] ?_;have H:=iS I1;refine xX [vI 3,vI 2,vI 4] Int ?_;intro b8 hb8;have h46:RL I1 [vI 3,vI 2,vI 4] ([3,2,4]:List Int):=⟨[vI 3],_,rfl,rfl,rfl,⟨[vI 2],_,rfl,rfl,rfl,⟨[vI 4],_,rfl,rfl,rfl,rfl⟩⟩⟩;refine yJ 0 rfl ?_;intro I023 le22 hl07;have h47:=SL.of_frozen hl07 le22 h46;have H:=H.trans le22;exact yS [] H ⟨_,rfl,rfl,h47⟩
       · intro I1 hf le1;refine zI ?_;rintro _ _ ⟨rfl,rfl⟩;refine zI ?_;rintro _ _ ⟨b8,rfl,rfl,h47⟩;refine zI ?_;rintro _ _ rfl;refine yV [(47,vP r01 0),(48,vS (some ⟨b8,0,none⟩) ([3,2,4]:List Int) 3)] ?_;have H:=iS I1;have h42:=h42.mono le1;refine sY [hB r01 (cRd y23 p18 c18)] (hB b7 [vS (some ⟨b5,0,none⟩) ([x1]:List zA) 1,vS (some ⟨b6,0,none⟩) ([x2]:List zA) 1]::hO zA (vS (some ⟨b5,0,none⟩) ([x1]:List zA) 1) (cAff x1 p7 c7)::hB b zTwo::hf) (xL y23 ([3,2,4]:List Int) _ hy12 h42 h47) ?_;rintro I024 hs2 v2 k2 le23 - ⟨v018,kk6,rfl,rfl,rfl,h49⟩ -;have H:=H.trans le23;obtain ⟨p22,c22,rfl,h50⟩:=yL h49;exact yS [hB r01 (cRd y26 p22 c22)] H ⟨_,_,rfl,rfl,h50⟩
       · intro I1 hf le1;refine zI ?_;rintro _ _ ⟨p22,c22,rfl,rfl,h50⟩;refine yV [(49,vI y25)] ?_;have H:=iS I1;refine xW (vX y25 _ hy13 ) ?_;rintro I025 hs2 v2 k2 le24 - ⟨p23,c23,cs8,rfl,rfl,h51⟩ -;have H:=H.trans le24;exact yS [hO Int (vS p23 y27.Coefs c23) cs8] H ⟨_,_,_,rfl,rfl,h51⟩
       · intro I1 hf le1;refine zI ?_;rintro _ _ ⟨p23,c23,cs8,rfl,rfl,h51⟩;refine yV [(50,vA (cAff y27 p23 c23))] ?_;have H:=iS I1;refine yJ 0 rfl ?_;intro I026 le25 hl08;have h52:=SL.of_frozen hl08 le25 h51;have H:=H.trans le25;refine xX (cAff y27 p23 c23) zA ?_;intro b9 hb9;have h53:RL I026 (cAff y27 p23 c23) ([y27]:List zA):=⟨(cAff y27 p23 c23),_,rfl,rfl,(yP ⟨_,rfl,h52⟩),rfl⟩;refine yJ 0 rfl ?_;intro I027 le26 hl09;have h54:=SL.of_frozen hl09 le26 h53;have H:=H.trans le26;exact yS [] H ⟨_,rfl,rfl,h54⟩
       intro I1 hf le1;refine zI ?_;rintro _ _ ⟨rfl,rfl⟩;refine zI ?_;rintro _ _ ⟨b9,rfl,rfl,h54⟩;refine zI ?_;rintro _ _ rfl;refine yV [(46,vS (some ⟨b6,0,none⟩) ([x2]:List zA) 1),(51,vS (some ⟨b9,0,none⟩) ([y27]:List zA) 1)] ?_;have h39:=iM le1 h39;obtain ⟨ccs,k0,k01⟩:=h54;have h54:SL I1 (vS (some ⟨b9,0,none⟩) ([y27]:List zA) 1) ([y27]:List zA):=⟨_,k0,k01⟩;exact qF 90 2 0 rfl rfl rfl h39 (.inl k0) k01 hy14 fun p24 c24 cs9 h55=>uO (hs':=(hO zA (vS p24 l c24) cs9::hB b7 [vS (some ⟨b5,0,none⟩) ([x1]:List zA) 1,vS (some ⟨b6,0,none⟩) ([x2]:List zA) 1]::hO zA (vS (some ⟨b5,0,none⟩) ([x1]:List zA) 1) (cAff x1 p7 c7)::hB b zTwo::hf)) rfl<|yS [hO zA (vS p24 l c24) cs9] iR ⟨_,_,_,rfl,rfl,h55⟩
     intro I028 le27;refine zI ?_;rintro _ _ ⟨p22,c22,rfl,rfl,h50⟩;refine zI ?_;rintro _ _ ⟨p24,c24,cs9,rfl,rfl,h55⟩;refine yV [(4,vP b 0),(8,vP b7 0),(52,vS p24 l c24)] ?_;have h38:=iM le27 h38;have H:=H.trans le27;exact yH 9 [] [(53,vP b7 1)]<|xQ 2 [vS (some ⟨b5,0,none⟩) ([x1]:List zA) 1,vS p24 l c24] [hO zA (vS p24 l c24) cs9,hB r01 (cRd y26 p22 c22),hB b7 [vS (some ⟨b5,0,none⟩) ([x1]:List zA) 1,vS p24 l c24],hO zA (vS (some ⟨b5,0,none⟩) ([x1]:List zA) 1) (cAff x1 p7 c7),hB b zTwo] rfl rfl rfl rfl<|yN rfl<|wC (zE [1,2,0,3,4] rfl (by decide))<|yR [(4,vP b 0),(8,vP b7 0)]<|zY ⟨_,_,_,_,_,_,_,_,_,_,_,(zB N).symm,H,h38,h55,h50,rfl,rfl⟩
   intro hc3 N;refine yE [(54,.bool (y22 == 1))]<|zD ?_;obtain ⟨o04,ho04,hMc4⟩:=zC N;refine yU (fun I' hs' m'=>∃ (Lo1:List zA) (x7:zO) (p25:Option Addr) (c25:Nat) (cs10:List Value) (p26:Option Addr) (c26:Nat),o04=(Lo1,x7)∧I021.le I'∧(RL I' cs10 Lo1)∧(S4 I' p26 x7.b c26)∧hs'=[hB r01 (cRd x7 p26 c26),hB b7 [vS p25 Lo1 c25,vS (some ⟨b6,0,none⟩) ([x2]:List zA) 1],hO zA (vS (some ⟨b6,0,none⟩) ([x2]:List zA) 1) (cAff x2 p8 c8),hO zA (vS p25 Lo1 c25) cs10,hB b zTwo]∧m'=[(4,vP b 0),(8,vP b7 0)]) ?_ ?_
   · have H:=iS I021;refine yM ho04 ?_ ?_
     · intro hc4 N;obtain ⟨⟨y29,y30⟩,hy15,N⟩:=zC N;obtain ⟨y31,hy16,N⟩:=zC N;obtain ⟨l1,hy17,N⟩:=zC N;refine vQ [.p (vP b7 0) [],.p (vS (some ⟨b5,0,none⟩) ([x1]:List zA) 1) [0],.p (vP r01 0) [],.x (fun I' v hx=>∃ b10,v=vS (some ⟨b10,0,none⟩) ([0,1]:List Int) 2∧hx=[]∧(SL I' (vS (some ⟨b10,0,none⟩) ([0,1]:List Int) 2) ([0,1]:List Int))),.x (fun I' v hx=>∃ p27 c27,v=vI y29∧hx=[hB r01 (cRd y30 p27 c27)]∧(S4 I' p27 y30.b c27)),.x (fun I' v hx=>∃ p28 c28 cs11,v=vA (cAff y31 p28 c28)∧hx=[hO Int (vS p28 y31.Coefs c28) cs11]∧(RL I' cs11 y31.Coefs)),.x (fun I' v hx=>∃ b11,v=vS (some ⟨b11,0,none⟩) ([y31]:List zA) 1∧hx=[]∧(SL I' (vS (some ⟨b11,0,none⟩) ([y31]:List zA) 1) ([y31]:List zA))),.x (fun I' v hx=>∃ p29 c29 cs12,v=vS p29 l1 c29∧hx=[hO zA (vS p29 l1 c29) cs12]∧(RL I' cs12 l1))] [[],[(0,false)],[],[],[(2,false),(3,false),(10,true)],[(4,false)],[(5,true)],[(1,false),(6,false),(11,true)]] [hB b7 [vS (some ⟨b5,0,none⟩) ([x1]:List zA) 1,vS (some ⟨b6,0,none⟩) ([x2]:List zA) 1],hO zA (vS (some ⟨b6,0,none⟩) ([x2]:List zA) 1) (cAff x2 p8 c8),hB b zTwo] [[hB r01 (cRd y23 p18 c18)],[hO zA (vS (some ⟨b5,0,none⟩) ([x1]:List zA) 1) (cAff x1 p7 c7)]] [(4,true),(7,true)] (zE [1,2,4,0,3] rfl (by decide)) ?_ ?_
       · refine Op<|Op<|Op<|Ox ?_<|Ox ?_<|Ox ?_<|Ox ?_<|Ox ?_<|On
         · intro I1 hf le1;refine yV [] ?_;have H:=iS I1;refine xX [vI 0,vI 1] Int ?_;intro b10 hb10;have h58:RL I1 [vI 0,vI 1] ([0,1]:List Int):=⟨[vI 0],_,rfl,rfl,rfl,⟨[vI 1],_,rfl,rfl,rfl,rfl⟩⟩;refine yJ 0 rfl ?_;intro I030 le28 hl010;have h59:=SL.of_frozen hl010 le28 h58;have H:=H.trans le28;exact yS [] H ⟨_,rfl,rfl,h59⟩
         · intro I1 hf le1;refine zI ?_;rintro _ _ ⟨rfl,rfl⟩;refine zI ?_;rintro _ _ ⟨b10,rfl,rfl,h59⟩;refine zI ?_;rintro _ _ rfl;refine yV [(58,vP r01 0),(59,vS (some ⟨b10,0,none⟩) ([0,1]:List Int) 2)] ?_;have H:=iS I1;have h42:=h42.mono le1;refine sY [hB r01 (cRd y23 p18 c18)] (hB b7 [vS (some ⟨b5,0,none⟩) ([x1]:List zA) 1,vS (some ⟨b6,0,none⟩) ([x2]:List zA) 1]::hO zA (vS (some ⟨b6,0,none⟩) ([x2]:List zA) 1) (cAff x2 p8 c8)::hB b zTwo::hf) (xL y23 ([0,1]:List Int) _ hy15 h42 h59) ?_;rintro I031 hs2 v2 k2 le29 - ⟨v020,kk7,rfl,rfl,rfl,h61⟩ -;have H:=H.trans le29;obtain ⟨p27,c27,rfl,h62⟩:=yL h61;exact yS [hB r01 (cRd y30 p27 c27)] H ⟨_,_,rfl,rfl,h62⟩
         · intro I1 hf le1;refine zI ?_;rintro _ _ ⟨p27,c27,rfl,rfl,h62⟩;refine yV [(60,vI y29)] ?_;have H:=iS I1;refine xW (vX y29 _ hy16 ) ?_;rintro I032 hs2 v2 k2 le30 - ⟨p28,c28,cs11,rfl,rfl,h63⟩ -;have H:=H.trans le30;exact yS [hO Int (vS p28 y31.Coefs c28) cs11] H ⟨_,_,_,rfl,rfl,h63⟩
         · intro I1 hf le1;refine zI ?_;rintro _ _ ⟨p28,c28,cs11,rfl,rfl,h63⟩;refine yV [(61,vA (cAff y31 p28 c28))] ?_;have H:=iS I1;refine yJ 0 rfl ?_;intro I033 le31 hl011;have h64:=SL.of_frozen hl011 le31 h63;have H:=H.trans le31;refine xX (cAff y31 p28 c28) zA ?_;intro b11 hb11;have h65:RL I033 (cAff y31 p28 c28) ([y31]:List zA):=⟨(cAff y31 p28 c28),_,rfl,rfl,(yP ⟨_,rfl,h64⟩),rfl⟩;refine yJ 0 rfl ?_;intro I034 le32 hl012;have h66:=SL.of_frozen hl012 le32 h65;have H:=H.trans le32;exact yS [] H ⟨_,rfl,rfl,h66⟩
         intro I1 hf le1;refine zI ?_;rintro _ _ ⟨rfl,rfl⟩;refine zI ?_;rintro _ _ ⟨b11,rfl,rfl,h66⟩;refine zI ?_;rintro _ _ rfl;refine yV [(57,vS (some ⟨b5,0,none⟩) ([x1]:List zA) 1),(62,vS (some ⟨b11,0,none⟩) ([y31]:List zA) 1)] ?_;have h38:=iM le1 h38;obtain ⟨ccs1,k02,k03⟩:=h66;have h66:SL I1 (vS (some ⟨b11,0,none⟩) ([y31]:List zA) 1) ([y31]:List zA):=⟨_,k02,k03⟩;exact qF 90 2 0 rfl rfl rfl h38 (.inl k02) k03 hy17 fun p29 c29 cs12 h67=>uO (hs':=(hO zA (vS p29 l1 c29) cs12::hB b7 [vS (some ⟨b5,0,none⟩) ([x1]:List zA) 1,vS (some ⟨b6,0,none⟩) ([x2]:List zA) 1]::hO zA (vS (some ⟨b6,0,none⟩) ([x2]:List zA) 1) (cAff x2 p8 c8)::hB b zTwo::hf)) rfl<|yS [hO zA (vS p29 l1 c29) cs12] iR ⟨_,_,_,rfl,rfl,h67⟩
       intro I035 le33;refine zI ?_;rintro _ _ ⟨p27,c27,rfl,rfl,h62⟩;refine zI ?_;rintro _ _ ⟨p29,c29,cs12,rfl,rfl,h67⟩;refine yV [(4,vP b 0),(8,vP b7 0),(63,vS p29 l1 c29)] ?_;have H:=H.trans le33;exact yH 9 [] [(64,vP b7 0)]<|xQ 2 [vS p29 l1 c29,vS (some ⟨b6,0,none⟩) ([x2]:List zA) 1] [hO zA (vS p29 l1 c29) cs12,hB r01 (cRd y30 p27 c27),hB b7 [vS p29 l1 c29,vS (some ⟨b6,0,none⟩) ([x2]:List zA) 1],hO zA (vS (some ⟨b6,0,none⟩) ([x2]:List zA) 1) (cAff x2 p8 c8),hB b zTwo] rfl rfl rfl rfl<|yN rfl<|wC (zE [1,2,3,0,4] rfl (by decide))<|yR [(4,vP b 0),(8,vP b7 0)]<|zY ⟨_,_,_,_,_,_,_,(zB N).symm,H,h67,h62,rfl,rfl⟩
     intro hc4 N;exact zX<|yR [(4,vP b 0),(8,vP b7 0)]<|zY ⟨_,_,_,_,_,_,_,(zB N).symm,H,h38,h42,rfl,rfl⟩
   rintro I029 hs2 m2 ⟨Lo1,x7,p25,c25,cs10,p26,c26,heq3,le34,h56,h57,rfl,rfl⟩;subst o04;have h39:=iM le34 h39;have H:=H.trans le34;exact yR [(4,vP b 0),(8,vP b7 0)]<|zY ⟨_,_,_,_,_,_,_,_,_,_,_,(zB hMc4).symm,H,h56,h39,h57,rfl,rfl⟩
 rintro I022 hs2 m2 ⟨Lo,Hi,x6,p19,c19,cs6,p20,c20,cs7,p21,c21,heq4,le35,h43,h44,h45,rfl,rfl⟩;subst o03;refine zT<|xI<|yH 1 [1] [(65,vA [vS p19 Lo c19,vS p20 Hi c20])]<|xQ 4 [vS p19 Lo c19,vS p20 Hi c20] [hB r01 (cRd x6 p21 c21),hB b7 [vS p19 Lo c19,vS p20 Hi c20],hO zA (vS p20 Hi c20) cs7,hO zA (vS p19 Lo c19) cs6,hB b [vS p19 Lo c19,vS p20 Hi c20]] rfl rfl rfl rfl<|yN rfl<|zD<|yC<|xG 3 rfl ?_;intro I036 le36 hl013;have h68:=SL.of_frozen hl013 le36 h43;have h45:=h45.mono le36;have h44:=iM le36 h44;refine xG 2 rfl ?_;intro I037 le37 hl014;have h69:=SL.of_frozen hl014 le37 h44;have h45:=h45.mono le37;have h68:=h68.mono le37;obtain rfl:=zB hMc3;exact xH ⟨_,_,(.cell 2 rfl rfl (by kernel_rfl) ResV.nil),(zE [0] rfl (by decide)),⟨_,_,rfl,rfl,⟨_,rfl,(oG ⟨_,_,rfl,h68,h69⟩)⟩,(xA ⟨_,rfl,h45⟩)⟩⟩
def zDH (b0:Nat) (r:(List zH)×zO):KT:=fun kk I' hs' v=>
  ∃ v0 k0,hs'=[.blk b0 ⟨k0⟩]∧v=tupV [v0]∧SL I' v0 r.1∧Rp.rep I' k0 r.2
def qH (out:List zH) (i:Int) (x:zO):Option ((List zH×zO)):=do
 if (decide (i > 0)) then
  let (y4,y5)←kZ x (out.length:Int)
  let out2←app 48 out ([y4]:List zH)
  qH out2 (W (i - 1)) y5
 else
  pure (out,x)
 partial_fixpoint
theorem zCV :∀ (out:List zH) (i:Int) (x:zO) (o:(List zH×zO)),qH out i x=some o→∀ {B}{I0 I:Imm}{Q}  {r01:Nat}{p2 c2 cs p3 c3},I0.le I→(RL I cs out)→(S4 I p3 x.b c3)→NG Q→NO Q→(∀ (I':Imm) (out1:List zH) (x1:zO) (p4:Option Addr) (c4:Nat) (cs1:List Value) (p5:Option Addr) (c5:Nat),o=(out1,x1)→I0.le I'→(RL I' cs1 out1)→(S4 I' p5 x1.b c5)→T 21 B Q (.exit 0) I' [hB r01 (cRd x1 p5 c5),hO zH (vS p4 out1 c4) cs1] [(3,vS p4 out1 c4)])→J Tryz.prog 21 B (nav (bodyOf Tryz.f118) [1,1,0,1,0]) Q I [hB r01 (cRd x p3 c3),hO zH (vS p2 out c2) cs] [(0,vP r01 0),(3,vS p2 out c2),(4,vI i)]:=by
 refine qH.partial_correctness  _ fun self ih out i x o N B I0 I Q r01 p2 c2 cs p3 c3 H h7 h8 hg ho hx=>yY hg ho<|yK<|yE [(10,.bool (decide (i > 0)))]<|zD<|yM N ?_ ?_
 · intro hc N;refine zX<|yI<|zV<|zQ<|yH 4 [] [(13,vS p2 out c2),(14,vP r01 0),(16,vI (out.length:Int))] ?_;obtain ⟨⟨y4,y5⟩,hy1,N⟩:=zC N;refine sY [hB r01 (cRd x p3 c3)] [hO zH (vS p2 out c2) cs] (zE5 x (out.length:Int) _ hy1 h8) ?_;rintro I02 hs2 v2 k2 le2 - ⟨v02,kk1,rfl,rfl,⟨cs2,rfl,h11⟩,h12⟩ -;have h7:=iM le2 h7;have H:=H.trans le2;obtain ⟨p6,c6,p7,c7,rfl,h13,h14⟩:=sQ h11;obtain ⟨p8,c8,rfl,h15⟩:=yL h12;refine xX (cLoop y4 p6 c6 p7 c7) zH ?_;intro b2 hb2;have h16:RL I02 (cLoop y4 p6 c6 p7 c7) ([y4]:List zH):=⟨(cLoop y4 p6 c6 p7 c7),_,rfl,rfl,(oG ⟨_,_,rfl,h13,h14⟩),rfl⟩;obtain ⟨out2,hy2,N⟩:=zC N;exact qF 146 2 2 rfl rfl rfl h7 (.inr ⟨0,rfl⟩) h16 hy2 fun p9 c9 cs3 h17=>rW (zE [1,2] (hs':=[hB r01 (cRd y5 p8 c8),hO zH (vS p9 out2 c9) cs3]) rfl (by decide))<|yF [] [(3,vS p9 out2 c9)]<|zT<|zD<|zQ<|yF [] [(4,vI (W (i - 1)))]<|yZ<|wS [(0,vP r01 0),(3,vS p9 out2 c9),(4,vI (W (i - 1)))]<|ih out2 (W (i - 1)) y5 _ N H h17 h15 hg ho hx
 intro hc N;exact yX<|zL<|zL<|yR [(3,vS p2 out c2)]<|hx _ _ _ _ _ _ _ _ (zB N).symm H h7 h8
def jA (r0:zO):Option ((List zH)×zO):=do
 let (y1,y2)←xB r0 ([2,1,2,3]:List Int)
 let (out1,x1)←qH ([]:List zH) y1 y2
 pure (out1,x1)
theorem zE6:∀ r0 r,jA r0=some r→∀ {I:Imm}{r01:Nat}{p c},(S4 I p r0.b c)→Ret Tryz.prog 118 [vP r01 0] I [hB r01 (cRd r0 p c)] (zDH r01 r):=by
 intro r0 r N I r01 p c h;unfold jA at N;refine yA (fn:=Tryz.f118) (c:=(bodyOf Tryz.f118)) Tryz.func118 rfl rfl ?_;rintro B - -;refine yE []<|xI<|xX [] zH ?_;intro b hb;have h1:RL I [] ([]:List zH):=rfl;refine yF [] [(3,vS (some ⟨b,0,none⟩) ([]:List zH) 0)]<|yI<|yO<|yH 1 [] [(6,vP r01 0)]<|xX [vI 2,vI 1,vI 2,vI 3] Int ?_;intro b1 hb1;have h2:RL I [vI 2,vI 1,vI 2,vI 3] ([2,1,2,3]:List Int):=⟨[vI 2],_,rfl,rfl,rfl,⟨[vI 1],_,rfl,rfl,rfl,⟨[vI 2],_,rfl,rfl,rfl,⟨[vI 3],_,rfl,rfl,rfl,rfl⟩⟩⟩⟩;refine yJ 0 rfl ?_;intro I0 le hl0;have h3:=SL.of_frozen hl0 le h2;have h1:=iM le h1;have h:=h.mono le;refine rW (zE [1,0] (hs':=[hB r01 (cRd r0 p c),hO zH (vS (some ⟨b,0,none⟩) ([]:List zH) 0) []]) rfl (by decide)) ?_;obtain ⟨⟨y1,y2⟩,hy,N⟩:=zC N;refine sY [hB r01 (cRd r0 p c)] [hO zH (vS (some ⟨b,0,none⟩) ([]:List zH) 0) []] (xL r0 ([2,1,2,3]:List Int) _ hy h h3) ?_;rintro I01 hs2 v2 k2 le1 - ⟨v0,kk,rfl,rfl,rfl,h5⟩ -;have h1:=iM le1 h1;obtain ⟨p1,c1,rfl,h6⟩:=yL h5;refine yF [] [(4,vI y1)]<|zD<|zV<|wS [(0,vP r01 0),(3,vS (some ⟨b,0,none⟩) ([]:List zH) 0),(4,vI y1)] ?_;obtain ⟨o0,ho0,hMl⟩:=zC N;refine zCV ([]:List zH) y1 y2 o0 ho0 iR h1 h6 (fun _ _ _ h=>h) (fun _ _ h=>h) ?_;intro I03 out1 x1 p4 c4 cs1 p5 c5 heq le3 h9 h10;subst o0;refine zW<|wR [(2,vS p4 out1 c4)]<|zD<|yC<|xG 1 rfl ?_;intro I04 le4 hl01;have h18:=SL.of_frozen hl01 le4 h9;have h10:=h10.mono le4;obtain rfl:=zB hMl;exact xH ⟨_,_,(.tmp rfl ResV.nil),(zE [0] rfl (by decide)),⟨_,_,rfl,rfl,h18,(xA ⟨_,rfl,h10⟩)⟩⟩
def zDI (b0:Nat) (r:zK×zO):KT:=fun kk I' hs' v=>
  ∃ v0 k0,hs'=[.blk b0 ⟨k0⟩]∧v=tupV [v0]∧(∃ cs,v0=.agg ⟨cs⟩∧Rp.rep I' cs r.1)∧Rp.rep I' k0 r.2
def qI (depth:Int) (n0:Int) (i:Int) (Subs:List zA) (x:zO):Option ((List zA×zO)):=do
 if (decide (i < n0)) then
  let (y4,y5)←xB x ([0,1,0,2]:List Int)
  let y6←wJ y4
  let (t32,x2)←(do
    if (decide (depth > 0)) then
     let (y8,y9)←xC y5 5
     pure ((decide (y8 > 0)),y9)
    else
     pure (false,y5)
      : Option (Bool×zO))
  let (x3,x4)←(do
    if t32 then
     let (y11,y12)←xC x2 depth
     let y13←pW y11
     let (y15,y16)←xB y12 ([1,1,1,2,(-1)]:List Int)
     let (y18,y19)←xB y16 ([0,1,0,0,2]:List Int)
     let y20←wJ y18
     let y21←oD y13 y15 y20 1
     pure (y21,y19)
    else
     pure ((zA.mk y6.Coefs y6.Const),x2)
      : Option (zA×zO))
  let l←app 32 Subs ([x3]:List zA)
  qI depth n0 (W (i + 1)) l x4
 else
  pure (Subs,x)
 partial_fixpoint
theorem zCW (depth:Int) (n0:Int):∀ (i:Int) (Subs:List zA) (x:zO) (o:(List zA×zO)),qI depth n0 i Subs x=some o→∀ {B}{I0 I:Imm}{Q}{y1:Str}{r01:Nat}{b:Nat}{b2:Nat}{p2 c2 cs p3 c3},I0.le I→(RL I cs Subs)→(S4 I p3 x.b c3)→NG Q→NO Q→(∀ (I':Imm) (Subs1:List zA) (x1:zO) (p4:Option Addr) (c4:Nat) (cs1:List Value) (p5:Option Addr) (c5:Nat),o=(Subs1,x1)→I0.le I'→(RL I' cs1 Subs1)→(S4 I' p5 x1.b c5)→T 53 B Q (.exit 0) I' [hO zA (vS p4 Subs1 c4) cs1,hB b2 [vT y1.l,vS p4 Subs1 c4],hB r01 (cRd x1 p5 c5),hB b [vT ([]),z0]] [(4,vP b 0),(5,vP b2 0)])→J Tryz.prog 53 B (nav (bodyOf Tryz.f148) [1,1,1,1,0,1,0]) Q I [hO zA (vS p2 Subs c2) cs,hB b2 [vT y1.l,vS p2 Subs c2],hB r01 (cRd x p3 c3),hB b [vT ([]),z0]] [(0,vP r01 0),(1,vI depth),(4,vP b 0),(5,vP b2 0),(6,vI n0),(7,vI i)]:=by
 refine qI.partial_correctness depth n0 _ fun self ih i Subs x o N B I0 I Q y1 r01 b b2 p2 c2 cs p3 c3 H h7 h8 hg ho hx=>yY hg ho<|yK<|yE [(19,.bool (decide (i < n0)))]<|zD<|yM N ?_ ?_
 · intro hc1 N;refine zX<|yI<|zV<|yO<|yH 1 [] [(22,vP r01 0)]<|xX [vI 0,vI 1,vI 0,vI 2] Int ?_;intro b3 hb3;have h11:RL I [vI 0,vI 1,vI 0,vI 2] ([0,1,0,2]:List Int):=⟨[vI 0],_,rfl,rfl,rfl,⟨[vI 1],_,rfl,rfl,rfl,⟨[vI 0],_,rfl,rfl,rfl,⟨[vI 2],_,rfl,rfl,rfl,rfl⟩⟩⟩⟩;refine yJ 0 rfl ?_;intro I03 le3 hl01;have h12:=SL.of_frozen hl01 le3 h11;have h7:=iM le3 h7;have h8:=h8.mono le3;have H:=H.trans le3;refine rW (zE [2,0,1,3] (hs':=[hB r01 (cRd x p3 c3),hO zA (vS p2 Subs c2) cs,hB b2 [vT y1.l,vS p2 Subs c2],hB b [vT ([]),z0]]) rfl (by decide)) ?_;obtain ⟨⟨y4,y5⟩,hy1,N⟩:=zC N;refine sY [hB r01 (cRd x p3 c3)] [hO zA (vS p2 Subs c2) cs,hB b2 [vT y1.l,vS p2 Subs c2],hB b [vT ([]),z0]] (xL x ([0,1,0,2]:List Int) _ hy1 h8 h12) ?_;rintro I04 hs2 v2 k2 le4 - ⟨v02,kk1,rfl,rfl,rfl,h14⟩ -;have h7:=iM le4 h7;have H:=H.trans le4;obtain ⟨p6,c6,rfl,h15⟩:=yL h14;obtain ⟨y6,hy2,N⟩:=zC N;refine xW (vX y4 _ hy2 ) ?_;rintro I05 hs2 v2 k2 le5 - ⟨p7,c7,cs2,rfl,rfl,h16⟩ -;have h15:=h15.mono le5;have h7:=iM le5 h7;have H:=H.trans le5;refine uQ [z0,vI 0] ?_;intro b4 hb4;refine xQ 0 (cAff y6 p7 c7) [hB b4 (cAff y6 p7 c7),hO Int (vS p7 y6.Coefs c7) cs2,hB r01 (cRd y5 p6 c6),hO zA (vS p2 Subs c2) cs,hB b2 [vT y1.l,vS p2 Subs c2],hB b [vT ([]),z0]] rfl rfl rfl rfl<|yN rfl<|yI<|yK ?_;obtain ⟨o01,ho01,hMc1⟩:=zC N;refine yU (fun I' hs' m'=>∃ (t32:Bool) (x2:zO) (p8:Option Addr) (c8:Nat),o01=(t32,x2)∧I05.le I'∧(S4 I' p8 x2.b c8)∧hs'=[hB b4 (cAff y6 p7 c7),hO Int (vS p7 y6.Coefs c7) cs2,hB r01 (cRd x2 p8 c8),hO zA (vS p2 Subs c2) cs,hB b2 [vT y1.l,vS p2 Subs c2],hB b [vT ([]),z0]]∧m'=[(0,vP r01 0),(1,vI depth),(4,vP b 0),(5,vP b2 0),(6,vI n0),(7,vI i),(8,vP b4 0),(32,.bool t32)]) ?_ ?_
   · have H:=iS I05;refine zQ<|yH 3 [] [(28,.bool (decide (depth > 0)))] ?_;cases hc2:(decide (depth > 0)) with
     | true =>
      have hM0:=zU hc2 ho01
      try rw [hc2]
      refine yH 4 [] [(29,vP r01 0)]<|rW (zE [2,0,1,3,4,5] (hs':=[hB r01 (cRd y5 p6 c6),hB b4 (cAff y6 p7 c7),hO Int (vS p7 y6.Coefs c7) cs2,hO zA (vS p2 Subs c2) cs,hB b2 [vT y1.l,vS p2 Subs c2],hB b [vT ([]),z0]]) rfl (by decide)) ?_;obtain ⟨⟨y8,y9⟩,hy3,N⟩:=zC hM0;refine sY [hB r01 (cRd y5 p6 c6)] [hB b4 (cAff y6 p7 c7),hO Int (vS p7 y6.Coefs c7) cs2,hO zA (vS p2 Subs c2) cs,hB b2 [vT y1.l,vS p2 Subs c2],hB b [vT ([]),z0]] (xT y5 5 _ hy3 h15) ?_;rintro I07 hs2 v2 k2 le6 - ⟨v04,kk2,rfl,rfl,rfl,h19⟩ -;have H:=H.trans le6;obtain ⟨p9,c9,rfl,h20⟩:=yL h19;exact yF [] [(32,.bool (decide (y8 > 0)))]<|wC (zE [1,2,0,3,4,5] rfl (by decide))<|yR [(0,vP r01 0),(1,vI depth),(4,vP b 0),(5,vP b2 0),(6,vI n0),(7,vI i),(8,vP b4 0),(32,.bool (decide (y8 > 0)))]<|zY ⟨_,_,_,_,(zB N).symm,H,h20,rfl,rfl⟩
     | false =>
      have hM01:=zS hc2 ho01
      try rw [hc2]
      exact yF [] [(32,vF)]<|yR [(0,vP r01 0),(1,vI depth),(4,vP b 0),(5,vP b2 0),(6,vI n0),(7,vI i),(8,vP b4 0),(32,vF)]<|zY ⟨_,_,_,_,(zB hM01).symm,H,h15,rfl,rfl⟩
   rintro I06 hs2 m2 ⟨t32,x2,p8,c8,heq1,le7,h17,rfl,rfl⟩;subst o01;have h16:=iM le7 h16;have h7:=iM le7 h7;have H:=H.trans le7;refine zD<|oF 1 rfl ?_;intro I08 le8 hl02;have h21:=SL.of_frozen hl02 le8 h16;have h17:=h17.mono le8;have h7:=iM le8 h7;have H:=H.trans le8;obtain ⟨o02,ho02,hMc2⟩:=zC hMc1;refine yU (fun I' hs' m'=>∃ (x3:zA) (x4:zO) (p10:Option Addr) (c10:Nat) (p11:Option Addr) (c11:Nat),o02=(x3,x4)∧I08.le I'∧(S4 I' p10 x3.Coefs c10)∧(S4 I' p11 x4.b c11)∧hs'=[hB b4 (cAff x3 p10 c10),hB r01 (cRd x4 p11 c11),hO zA (vS p2 Subs c2) cs,hB b2 [vT y1.l,vS p2 Subs c2],hB b [vT ([]),z0]]∧m'=[(0,vP r01 0),(1,vI depth),(4,vP b 0),(5,vP b2 0),(6,vI n0),(7,vI i),(8,vP b4 0)]) ?_ ?_
   · have H:=iS I08;refine yM ho02 ?_ ?_
     · intro hc3 N;refine yO<|yH 2 [] [(33,vP r01 0),(34,vI depth)]<|rW (zE [1,0,2,3,4] (hs':=[hB r01 (cRd x2 p8 c8),hB b4 (cAff y6 p7 c7),hO zA (vS p2 Subs c2) cs,hB b2 [vT y1.l,vS p2 Subs c2],hB b [vT ([]),z0]]) rfl (by decide)) ?_;obtain ⟨⟨y11,y12⟩,hy4,N⟩:=zC N;refine sY [hB r01 (cRd x2 p8 c8)] [hB b4 (cAff y6 p7 c7),hO zA (vS p2 Subs c2) cs,hB b2 [vT y1.l,vS p2 Subs c2],hB b [vT ([]),z0]] (xT x2 depth _ hy4 h17) ?_;rintro I010 hs2 v2 k2 le9 - ⟨v06,kk3,rfl,rfl,rfl,h25⟩ -;have H:=H.trans le9;obtain ⟨p12,c12,rfl,h26⟩:=yL h25;refine yF [] [(9,vI y11)]<|zD<|zQ<|yH 1 [] [(36,vI y11)]<|bE N fun y13 hy5 N=>xW (kY y11 _ hy5 ) ?_;rintro I011 hs2 v2 k2 le10 - ⟨v08,rfl,rfl,⟨cs3,rfl,h27⟩⟩ -;have h26:=h26.mono le10;have H:=H.trans le10;obtain ⟨p13,c13,rfl,h28⟩:=yQ h27;refine yH 3 [] [(38,vP r01 0)]<|xX [vI 1,vI 1,vI 1,vI 2,vI (-1)] Int ?_;intro b5 hb5;have h29:RL I011 [vI 1,vI 1,vI 1,vI 2,vI (-1)] ([1,1,1,2,(-1)]:List Int):=⟨[vI 1],_,rfl,rfl,rfl,⟨[vI 1],_,rfl,rfl,rfl,⟨[vI 1],_,rfl,rfl,rfl,⟨[vI 2],_,rfl,rfl,rfl,⟨[vI (-1)],_,rfl,rfl,rfl,rfl⟩⟩⟩⟩⟩;refine yJ 0 rfl ?_;intro I012 le11 hl03;have h30:=SL.of_frozen hl03 le11 h29;have h28:=h28.mono le11;have h26:=h26.mono le11;have H:=H.trans le11;obtain ⟨⟨y15,y16⟩,hy6,N⟩:=zC N;refine sY [hB r01 (cRd y12 p12 c12)] [hB b4 (cAff y6 p7 c7),hO zA (vS p2 Subs c2) cs,hB b2 [vT y1.l,vS p2 Subs c2],hB b [vT ([]),z0]] (xL y12 ([1,1,1,2,(-1)]:List Int) _ hy6 h26 h30) ?_;rintro I013 hs2 v2 k2 le12 - ⟨v010,kk4,rfl,rfl,rfl,h32⟩ -;have h28:=h28.mono le12;have H:=H.trans le12;obtain ⟨p14,c14,rfl,h33⟩:=yL h32;refine yH 6 [] [(41,vP r01 0)]<|xX [vI 0,vI 1,vI 0,vI 0,vI 2] Int ?_;intro b6 hb6;have h34:RL I013 [vI 0,vI 1,vI 0,vI 0,vI 2] ([0,1,0,0,2]:List Int):=⟨[vI 0],_,rfl,rfl,rfl,⟨[vI 1],_,rfl,rfl,rfl,⟨[vI 0],_,rfl,rfl,rfl,⟨[vI 0],_,rfl,rfl,rfl,⟨[vI 2],_,rfl,rfl,rfl,rfl⟩⟩⟩⟩⟩;refine yJ 0 rfl ?_;intro I014 le13 hl04;have h35:=SL.of_frozen hl04 le13 h34;have h28:=h28.mono le13;have h33:=h33.mono le13;have H:=H.trans le13;obtain ⟨⟨y18,y19⟩,hy7,N⟩:=zC N;refine sY [hB r01 (cRd y16 p14 c14)] [hB b4 (cAff y6 p7 c7),hO zA (vS p2 Subs c2) cs,hB b2 [vT y1.l,vS p2 Subs c2],hB b [vT ([]),z0]] (xL y16 ([0,1,0,0,2]:List Int) _ hy7 h33 h35) ?_;rintro I015 hs2 v2 k2 le14 - ⟨v012,kk5,rfl,rfl,rfl,h37⟩ -;have h28:=h28.mono le14;have H:=H.trans le14;obtain ⟨p15,c15,rfl,h38⟩:=yL h37;obtain ⟨y20,hy8,N⟩:=zC N;refine xW (vX y18 _ hy8 ) ?_;rintro I016 hs2 v2 k2 le15 - ⟨p16,c16,cs4,rfl,rfl,h39⟩ -;have h28:=h28.mono le15;have h38:=h38.mono le15;have H:=H.trans le15;refine yJ 0 rfl ?_;intro I017 le16 hl05;have h40:=SL.of_frozen hl05 le16 h39;have h28:=h28.mono le16;have h38:=h38.mono le16;have H:=H.trans le16;obtain ⟨y21,hy9,N⟩:=zC N;refine xW (eV y13 y15 y20 1 _ hy9 h28 h40) ?_;rintro I018 hs2 v2 k2 le17 - ⟨v014,rfl,rfl,⟨cs5,rfl,h41⟩⟩ -;have h38:=h38.mono le17;have H:=H.trans le17;obtain ⟨p17,c17,rfl,h42⟩:=yQ h41;exact xQ 1 (cAff y21 p17 c17) [hB r01 (cRd y19 p15 c15),hB b4 (cAff y21 p17 c17),hO zA (vS p2 Subs c2) cs,hB b2 [vT y1.l,vS p2 Subs c2],hB b [vT ([]),z0]] rfl rfl rfl rfl<|yN rfl<|wC (zE [1,0,2,3,4] rfl (by decide))<|yR [(0,vP r01 0),(1,vI depth),(4,vP b 0),(5,vP b2 0),(6,vI n0),(7,vI i),(8,vP b4 0)]<|zY ⟨_,_,_,_,_,_,(zB N).symm,H,h42,h38,rfl,rfl⟩
     intro hc3 N;exact zX<|yR [(0,vP r01 0),(1,vI depth),(4,vP b 0),(5,vP b2 0),(6,vI n0),(7,vI i),(8,vP b4 0)]<|zY ⟨_,_,_,_,_,_,(zB N).symm,H,h21,h17,rfl,rfl⟩
   rintro I09 hs2 m2 ⟨x3,x4,p10,c10,p11,c11,heq2,le18,h22,h23,rfl,rfl⟩;subst o02;have h7:=iM le18 h7;have H:=H.trans le18;refine zD<|zQ<|yH 3 [3,0] [(47,vS p2 Subs c2),(48,vA (cAff x3 p10 c10))]<|xX (cAff x3 p10 c10) zA ?_;intro b7 hb7;have h43:RL I09 (cAff x3 p10 c10) ([x3]:List zA):=⟨(cAff x3 p10 c10),_,rfl,rfl,(yP ⟨_,rfl,h22⟩),rfl⟩;obtain ⟨l,hy10,N⟩:=zC hMc2;refine qF 90 2 3 rfl rfl rfl h7 (.inr ⟨0,rfl⟩) h43 hy10 ?_;intro p18 c18 cs6 h44;exact rW (zE [1,2,3,4,5] (hs':=[hB b4 (cAff x3 p10 c10),hB r01 (cRd x4 p11 c11),hO zA (vS p18 l c18) cs6,hB b2 [vT y1.l,vS p2 Subs c2],hB b [vT ([]),z0]]) rfl (by decide))<|yH 6 [] [(51,vP b2 1)]<|xQ 3 [vT y1.l,vS p18 l c18] [hB b4 (cAff x3 p10 c10),hB r01 (cRd x4 p11 c11),hO zA (vS p18 l c18) cs6,hB b2 [vT y1.l,vS p18 l c18],hB b [vT ([]),z0]] rfl rfl rfl rfl<|yN rfl<|zT<|zD<|zQ<|yF [] [(7,vI (W (i + 1)))]<|yZ<|qE (zE [2,3,1,4] rfl (by decide))<|wS [(0,vP r01 0),(1,vI depth),(4,vP b 0),(5,vP b2 0),(6,vI n0),(7,vI (W (i + 1)))]<|ih (W (i + 1)) l x4 _ N H h44 h23 hg ho hx
 intro hc1 N;exact yX<|zL<|zL<|yR [(4,vP b 0),(5,vP b2 0)]<|hx _ _ _ _ _ _ _ _ (zB N).symm H h7 h8
def nK (r0:zO) (depth:Int):Option (zK×zO):=do
 let (y1,y2)←pK r0 ([(⟨[65]⟩:Str),(⟨[66]⟩:Str),(⟨[65]⟩:Str),(⟨[67]⟩:Str)]:List Str)
 let n0←(do
   if (y1.l == ([66]:List UInt8)) then
    pure (id 2)
   else
    pure (id 1)
     : Option Int)
 let (Subs1,x1)←qI depth n0 0 ([]:List zA) y2
 pure ((zK.mk y1 Subs1),x1)
theorem zAi:∀ r0 depth r,nK r0 depth=some r→∀ {I:Imm}{r01:Nat}{p c},(S4 I p r0.b c)→Ret Tryz.prog 148 [vP r01 0,vI depth] I [hB r01 (cRd r0 p c)] (zDI r01 r):=by
 intro r0 depth r N I r01 p c h;unfold nK at N;refine yA (fn:=Tryz.f148) (c:=(bodyOf Tryz.f148)) Tryz.func148 rfl rfl ?_;rintro B - -;have H:=iS I;refine yO<|uQ [vT ([]),z0] ?_;intro b hb;refine yN rfl<|xI<|yH 1 [] [(10,vP r01 0)]<|xX [vT ([65]),vT ([66]),vT ([65]),vT ([67])] Str ?_;intro b1 hb1;have h1:RL I [vT ([65]),vT ([66]),vT ([65]),vT ([67])] ([(⟨[65]⟩:Str),(⟨[66]⟩:Str),(⟨[65]⟩:Str),(⟨[67]⟩:Str)]:List Str):=⟨[vT ([65])],_,rfl,rfl,rfl,⟨[vT ([66])],_,rfl,rfl,rfl,⟨[vT ([65])],_,rfl,rfl,rfl,⟨[vT ([67])],_,rfl,rfl,rfl,rfl⟩⟩⟩⟩;refine yJ 0 rfl ?_;intro I0 le hl0;have h2:=SL.of_frozen hl0 le h1;have h:=h.mono le;have H:=H.trans le;refine rW (zE [1,0] (hs':=[hB r01 (cRd r0 p c),hB b [vT ([]),z0]]) rfl (by decide)) ?_;obtain ⟨⟨y1,y2⟩,hy,N⟩:=zC N;refine sY [hB r01 (cRd r0 p c)] [hB b [vT ([]),z0]] (jY r0 ([(⟨[65]⟩:Str),(⟨[66]⟩:Str),(⟨[65]⟩:Str),(⟨[67]⟩:Str)]:List Str) _ hy h h2) ?_;rintro I01 hs2 v2 k2 le1 - ⟨v0,kk,rfl,rfl,rfl,h4⟩ -;have H:=H.trans le1;obtain ⟨p1,c1,rfl,h5⟩:=yL h4;refine yH 4 [] [(13,vA [vT y1.l,z0])]<|uQ [vT ([]),z0] ?_;intro b2 hb2;refine xQ 0 [vT y1.l,z0] [hB b2 [vT y1.l,z0],hB r01 (cRd y2 p1 c1),hB b [vT ([]),z0]] rfl rfl rfl rfl<|yN rfl<|wR [(6,vI 1)]<|yI<|yO<|yF [0] [(16,.bool (y1.l == ([66]:List UInt8)))]<|zD ?_;obtain ⟨o0,ho0,hMc⟩:=zC N;refine yU (fun I' hs' m'=>∃ (n0:Int),o0=n0∧I01.le I'∧hs'=[hB b2 [vT y1.l,z0],hB r01 (cRd y2 p1 c1),hB b [vT ([]),z0]]∧m'=[(0,vP r01 0),(1,vI depth),(4,vP b 0),(5,vP b2 0),(6,vI n0)]) ?_ ?_
 · have H:=iS I01;refine yM ho0 ?_ ?_
   · intro hc N;exact zQ<|yF [] [(6,vI 2)]<|yR [(0,vP r01 0),(1,vI depth),(4,vP b 0),(5,vP b2 0),(6,vI 2)]<|zY ⟨_,(zB N).symm,H,rfl,rfl⟩
   intro hc N;exact zX<|yR [(0,vP r01 0),(1,vI depth),(4,vP b 0),(5,vP b2 0),(6,vI 1)]<|zY ⟨_,(zB N).symm,H,rfl,rfl⟩
 rintro I02 hs2 m2 ⟨n0,heq,le2,rfl,rfl⟩;subst o0;have h5:=h5.mono le2;refine yI<|yE [(7,vI 0)]<|zD<|zV<|wS [(0,vP r01 0),(1,vI depth),(4,vP b 0),(5,vP b2 0),(6,vI n0),(7,vI 0)]<|qE (uP (Rp.sz zA)) ?_;have h6:RL I02 [] ([]:List zA):=RepL.nil;obtain ⟨o03,ho03,hMl⟩:=zC hMc;refine zCW depth n0 0 ([]:List zA) y2 o03 ho03 iR h6 h5 (fun _ _ _ h=>h) (fun _ _ h=>h) ?_;intro I019 Subs1 x1 p4 c4 cs1 p5 c5 heq3 le19 h9 h10;subst o03;refine zW<|xI<|yH 1 [1] [(52,vA [vT y1.l,vS p4 Subs1 c4])]<|xQ 3 [vT y1.l,vS p4 Subs1 c4] [hO zA (vS p4 Subs1 c4) cs1,hB b2 [vT y1.l,vS p4 Subs1 c4],hB r01 (cRd x1 p5 c5),hB b [vT y1.l,vS p4 Subs1 c4]] rfl rfl rfl rfl<|yN rfl<|zD<|yC<|xG 0 rfl ?_;intro I020 le20 hl06;have h45:=SL.of_frozen hl06 le20 h9;have h10:=h10.mono le20;obtain rfl:=zB hMl;exact xH ⟨_,_,(.cell 2 rfl rfl (by kernel_rfl) ResV.nil),(zE [1] rfl (by decide)),⟨_,_,rfl,rfl,⟨_,rfl,(oC ⟨_,rfl,h45⟩)⟩,(xA ⟨_,rfl,h10⟩)⟩⟩
def zDJ (b0:Nat) (r:zA×zO):KT:=fun kk I' hs' v=>
  ∃ v0 k0,hs'=[.blk b0 ⟨k0⟩]∧v=tupV [v0]∧(∃ cs,v0=.agg ⟨cs⟩∧Rp.rep I' cs r.1)∧Rp.rep I' k0 r.2
def qJ (depth:Int) (i:Int) (Coefs:List Int) (x:zO):Option ((List Int×zO)):=do
 if (decide (i < depth)) then
  let (y5,y6)←xB x ([0,1,0,(-1),2,0,9]:List Int)
  let x2←idx Coefs i
  let l←pure (Coefs.set i.toNat y5)
  qJ depth (W (i + 1)) l y6
 else
  pure (Coefs,x)
 partial_fixpoint
theorem zCX (depth:Int):∀ (i:Int) (Coefs:List Int) (x:zO) (o:(List Int×zO)),qJ depth i Coefs x=some o→∀ {B}{I0 I:Imm}{Q}{y3:zA}{r01:Nat}{b:Nat}{b2:Nat}{p3 c3 cs1 p4 c4},I0.le I→(RL I cs1 Coefs)→(S4 I p4 x.b c4)→NG Q→NO Q→(∀ (I':Imm) (Coefs1:List Int) (x1:zO) (p5:Option Addr) (c5:Nat) (cs2:List Value) (p6:Option Addr) (c6:Nat),o=(Coefs1,x1)→I0.le I'→(RL I' cs2 Coefs1)→(S4 I' p6 x1.b c6)→T 24 B Q (.exit 0) I' [hB b2 [vS p5 Coefs1 c5,vI y3.Const],hO Int (vS p5 Coefs1 c5) cs2,hB r01 (cRd x1 p6 c6),hB b [z0,vI 0]] [(4,vP b 0),(5,vP b2 0)])→J Tryz.prog 24 B (nav (bodyOf Tryz.f167) [1,1,0,1,0]) Q I [hB b2 [vS p3 Coefs c3,vI y3.Const],hO Int (vS p3 Coefs c3) cs1,hB r01 (cRd x p4 c4),hB b [z0,vI 0]] [(0,vP r01 0),(1,vI depth),(4,vP b 0),(5,vP b2 0),(6,vI i)]:=by
 refine qJ.partial_correctness depth _ fun self ih i Coefs x o N B I0 I Q y3 r01 b b2 p3 c3 cs1 p4 c4 H h7 h8 hg ho hx=>yY hg ho<|yK<|yE [(13,.bool (decide (i < depth)))]<|zD<|yM N ?_ ?_
 · intro hc N;refine zX<|yI<|zV ?_;obtain ⟨⟨y5,y6⟩,hy2,N⟩:=zC N;refine vQ [.p (vP b2 0) [],.p (vS p3 Coefs c3) [0],.p (vI i) [],.p (vP r01 0) [],.x (fun I' v hx=>∃ b3,v=vS (some ⟨b3,0,none⟩) ([0,1,0,(-1),2,0,9]:List Int) 7∧hx=[]∧(SL I' (vS (some ⟨b3,0,none⟩) ([0,1,0,(-1),2,0,9]:List Int) 7) ([0,1,0,(-1),2,0,9]:List Int))),.x (fun I' v hx=>∃ p7 c7,v=vI y5∧hx=[hB r01 (cRd y6 p7 c7)]∧(S4 I' p7 y6.b c7))] [[],[(0,false)],[],[],[],[(3,false),(4,false),(8,true)]] [hB b2 [vS p3 Coefs c3,vI y3.Const],hO Int (vS p3 Coefs c3) cs1,hB b [z0,vI 0]] [[hB r01 (cRd x p4 c4)]] [(1,false),(2,false),(5,true)] (zE [0,1,3,2] rfl (by decide)) ?_ ?_
   · refine Op<|Op<|Op<|Op<|Ox ?_<|Ox ?_<|On
     · intro I1 hf le1;refine yV [] ?_;have H:=iS I1;refine xX [vI 0,vI 1,vI 0,vI (-1),vI 2,vI 0,vI 9] Int ?_;intro b3 hb3;have h11:RL I1 [vI 0,vI 1,vI 0,vI (-1),vI 2,vI 0,vI 9] ([0,1,0,(-1),2,0,9]:List Int):=⟨[vI 0],_,rfl,rfl,rfl,⟨[vI 1],_,rfl,rfl,rfl,⟨[vI 0],_,rfl,rfl,rfl,⟨[vI (-1)],_,rfl,rfl,rfl,⟨[vI 2],_,rfl,rfl,rfl,⟨[vI 0],_,rfl,rfl,rfl,⟨[vI 9],_,rfl,rfl,rfl,rfl⟩⟩⟩⟩⟩⟩⟩;refine yJ 0 rfl ?_;intro I03 le3 hl01;have h12:=SL.of_frozen hl01 le3 h11;have H:=H.trans le3;exact yS [] H ⟨_,rfl,rfl,h12⟩
     intro I1 hf le1;refine zI ?_;rintro _ _ ⟨rfl,rfl⟩;refine zI ?_;rintro _ _ ⟨b3,rfl,rfl,h12⟩;refine zI ?_;rintro _ _ rfl;refine yV [(19,vP r01 0),(20,vS (some ⟨b3,0,none⟩) ([0,1,0,(-1),2,0,9]:List Int) 7)] ?_;have H:=iS I1;have h8:=h8.mono le1;refine sY [hB r01 (cRd x p4 c4)] (hB b2 [vS p3 Coefs c3,vI y3.Const]::hO Int (vS p3 Coefs c3) cs1::hB b [z0,vI 0]::hf) (xL x ([0,1,0,(-1),2,0,9]:List Int) _ hy2 h8 h12) ?_;rintro I04 hs2 v2 k2 le4 - ⟨v02,kk1,rfl,rfl,rfl,h14⟩ -;have H:=H.trans le4;obtain ⟨p7,c7,rfl,h15⟩:=yL h14;exact yS [hB r01 (cRd y6 p7 c7)] H ⟨_,_,rfl,rfl,h15⟩
   intro I05 le5;refine zI ?_;rintro _ _ ⟨rfl,rfl⟩;refine zI ?_;rintro _ _ ⟨rfl,rfl⟩;refine zI ?_;rintro _ _ ⟨p7,c7,rfl,rfl,h15⟩;refine yV [(0,vP r01 0),(1,vI depth),(4,vP b 0),(5,vP b2 0),(6,vI i),(17,vS p3 Coefs c3),(18,vI i),(21,vI y5)] ?_;have h7:=iM le5 h7;have H:=H.trans le5;obtain ⟨x2,hy3,N⟩:=zC N;refine oM 2 rfl rfl rfl h7 hy3 ?_;intro ad ccs hat hcc hrep;obtain rfl:=hrep;obtain ⟨l,hy4,N⟩:=zC N;refine sF (c:=[vI y5]) (x':=y5) 2 0 rfl rfl rfl hat rfl rfl hcc (by kernel_rfl) (by kernel_rfl) (by kernel_rfl) h7 hy3 (by kernel_rfl) rfl ?_;rw [show Coefs.set i.toNat y5=l from zB hy4];intro cs3 h16 hl02;exact oX (m':=[(0,vP r01 0),(1,vI depth),(4,vP b 0),(5,vP b2 0),(6,vI i),(17,vS p3 Coefs c3),(18,vI i),(21,vI y5)]) ⟨rfl,rfl,rfl,rfl,rfl,rfl,rfl,rfl,trivial⟩<|fL (hs':=[hB r01 (cRd y6 p7 c7),hB b2 [vS p3 l c3,vI y3.Const],hO Int (vS p3 l c3) cs3,hB b [z0,vI 0]]) (m':=[(0,vP r01 0),(1,vI depth),(4,vP b 0),(5,vP b2 0),(6,vI i),(17,vS p3 l c3),(18,vI i),(21,vI y5)]) (by first | rfl | simp only [vS,hl02,List.nil_append,List.cons_append,List.set_cons_zero,List.set_cons_succ,List.eraseIdx_cons_zero,List.eraseIdx_cons_succ]) (by first | rfl | simp only [vS,hl02])<|yN rfl<|zT<|zD<|zQ<|yF [] [(6,vI (W (i + 1)))]<|yZ<|qE (zE [1,2,0,3] rfl (by decide))<|wS [(0,vP r01 0),(1,vI depth),(4,vP b 0),(5,vP b2 0),(6,vI (W (i + 1)))]<|ih (W (i + 1)) l y6 _ N H h16 h15 hg ho hx
 intro hc N;exact yX<|zL<|zL<|yR [(4,vP b 0),(5,vP b2 0)]<|hx _ _ _ _ _ _ _ _ (zB N).symm H h7 h8
def mU (r0:zO) (depth:Int):Option (zA×zO):=do
 let (y1,y2)←xB r0 ([0,1,(-1),2,0,5,(-9),99]:List Int)
 let y3←wJ y1
 let (Coefs1,x1)←qJ depth 0 y3.Coefs y2
 pure ((zA.mk Coefs1 y3.Const),x1)
theorem zE7:∀ r0 depth r,mU r0 depth=some r→∀ {I:Imm}{r01:Nat}{p c},(S4 I p r0.b c)→Ret Tryz.prog 167 [vP r01 0,vI depth] I [hB r01 (cRd r0 p c)] (zDJ r01 r):=by
 intro r0 depth r N I r01 p c h;unfold mU at N;refine yA (fn:=Tryz.f167) (c:=(bodyOf Tryz.f167)) Tryz.func167 rfl rfl ?_;rintro B - -;refine yO<|uQ [z0,vI 0] ?_;intro b hb;refine yN rfl<|xI<|yH 1 [] [(7,vP r01 0)]<|xX [vI 0,vI 1,vI (-1),vI 2,vI 0,vI 5,vI (-9),vI 99] Int ?_;intro b1 hb1;have h1:RL I [vI 0,vI 1,vI (-1),vI 2,vI 0,vI 5,vI (-9),vI 99] ([0,1,(-1),2,0,5,(-9),99]:List Int):=⟨[vI 0],_,rfl,rfl,rfl,⟨[vI 1],_,rfl,rfl,rfl,⟨[vI (-1)],_,rfl,rfl,rfl,⟨[vI 2],_,rfl,rfl,rfl,⟨[vI 0],_,rfl,rfl,rfl,⟨[vI 5],_,rfl,rfl,rfl,⟨[vI (-9)],_,rfl,rfl,rfl,⟨[vI 99],_,rfl,rfl,rfl,rfl⟩⟩⟩⟩⟩⟩⟩⟩;refine yJ 0 rfl ?_;intro I0 le hl0;have h2:=SL.of_frozen hl0 le h1;have h:=h.mono le;refine rW (zE [1,0] (hs':=[hB r01 (cRd r0 p c),hB b [z0,vI 0]]) rfl (by decide)) ?_;obtain ⟨⟨y1,y2⟩,hy,N⟩:=zC N;refine sY [hB r01 (cRd r0 p c)] [hB b [z0,vI 0]] (xL r0 ([0,1,(-1),2,0,5,(-9),99]:List Int) _ hy h h2) ?_;rintro I01 hs2 v2 k2 le1 - ⟨v0,kk,rfl,rfl,rfl,h4⟩ -;obtain ⟨p1,c1,rfl,h5⟩:=yL h4;obtain ⟨y3,hy1,N⟩:=zC N;refine xW (vX y1 _ hy1 ) ?_;rintro I02 hs2 v2 k2 le2 - ⟨p2,c2,cs,rfl,rfl,h6⟩ -;have h5:=h5.mono le2;refine uQ [z0,vI 0] ?_;intro b2 hb2;refine xQ 0 (cAff y3 p2 c2) [hB b2 (cAff y3 p2 c2),hO Int (vS p2 y3.Coefs c2) cs,hB r01 (cRd y2 p1 c1),hB b [z0,vI 0]] rfl rfl rfl rfl<|yN rfl<|yI<|yE [(6,vI 0)]<|zD<|zV<|wS [(0,vP r01 0),(1,vI depth),(4,vP b 0),(5,vP b2 0),(6,vI 0)] ?_;obtain ⟨o0,ho0,hMl⟩:=zC N;refine zCX depth 0 y3.Coefs y2 o0 ho0 iR h6 h5 (fun _ _ _ h=>h) (fun _ _ h=>h) ?_;intro I06 Coefs1 x1 p5 c5 cs2 p6 c6 heq le6 h9 h10;subst o0;refine zW<|xI<|yH 1 [0] [(23,vA [vS p5 Coefs1 c5,vI y3.Const])]<|xQ 3 [vS p5 Coefs1 c5,vI y3.Const] [hB b2 [vS p5 Coefs1 c5,vI y3.Const],hO Int (vS p5 Coefs1 c5) cs2,hB r01 (cRd x1 p6 c6),hB b [vS p5 Coefs1 c5,vI y3.Const]] rfl rfl rfl rfl<|yN rfl<|zD<|yC<|xG 1 rfl ?_;intro I07 le7 hl03;have h17:=SL.of_frozen hl03 le7 h9;have h10:=h10.mono le7;obtain rfl:=zB hMl;exact xH ⟨_,_,(.cell 2 rfl rfl (by kernel_rfl) ResV.nil),(zE [1] rfl (by decide)),⟨_,_,rfl,rfl,⟨_,rfl,(yP ⟨_,rfl,h17⟩)⟩,(xA ⟨_,rfl,h10⟩)⟩⟩
def eW (b0:Nat) (r:zF×zO):KT:=fun kk I' hs' v=>
  ∃ v0 k0,hs'=[.blk b0 ⟨k0⟩]∧v=tupV [v0]∧(∃ cs,v0=.agg ⟨cs⟩∧Rp.rep I' cs r.1)∧Rp.rep I' k0 r.2
mutual
def rN (r0:zO) (depth:Int) (levels:Int):Option (zF×zO):=do
 let (t15,x)←(do
   if (decide (levels < 2)) then
    pure (true,r0)
   else
    let (y1,y2)←xC r0 4
    pure ((y1 == 0),y2)
     : Option (Bool×zO))
 if t15 then
  let (y4,y5)←xC x 4
  if (y4 == 0) then
   let (y7,y8)←xB y5 ([1,2,0,99,3]:List Int)
   pure ((zF.mk 1 y7 (zA.mk ([]:List Int) 0) (zK.mk (⟨[]⟩:Str) ([]:List zA)) ([]:List zF)),y8)
  else
   if (y4 == 1) then
    let (y10,y11)←mU y5 depth
    pure ((zF.mk 2 0 y10 (zK.mk (⟨[]⟩:Str) ([]:List zA)) ([]:List zF)),y11)
   else
    let (y13,y14)←nK y5 depth
    pure ((zF.mk 3 0 (zA.mk ([]:List Int) 0) y13 ([]:List zF)),y14)
 else
  let (y16,y17)←xB x ([4,6,5,4]:List Int)
  let (Kids1,x2)←pI (same depth) (same levels) (same 0) ([]:List zF) (same y17)
  pure ((zF.mk y16 0 (zA.mk ([]:List Int) 0) (zK.mk (⟨[]⟩:Str) ([]:List zA)) Kids1),x2)
 partial_fixpoint
def pI (depth:Int) (levels:Int) (i:Int) (Kids:List zF) (x1:zO):Option ((List zF×zO)):=do
 if (decide (i < 2)) then
  let (y19,y20)←rN (same x1) (same depth) (W (levels - 1))
  let l←app 112 Kids ([y19]:List zF)
  pI (same depth) (same levels) (W (i + 1)) (same l) (same y20)
 else
  pure (Kids,x1)
 partial_fixpoint
end
theorem zDK:(∀ (r0:zO) (depth:Int) (levels:Int) r,rN r0 depth levels=some r→∀ {I:Imm}{r01:Nat}{p c},(S4 I p r0.b c)→Ret Tryz.prog 149 [vP r01 0,vI depth,vI levels] I [hB r01 (cRd r0 p c)] (eW r01 r))∧(∀ (depth:Int) (levels:Int) (i:Int) (Kids:List zF) (x1:zO) o,pI depth levels i Kids x1=some o→∀ {B}{I0 I:Imm}{Q}{y16:Int}{r01:Nat}{b:Nat}{b3:Nat}{p10 c10 cs2 p11 c11},I0.le I→(RL I cs2 Kids)→(S4 I p11 x1.b c11)→NG Q→NO Q→(∀ (I':Imm) (Kids1:List zF) (x2:zO) (p12:Option Addr) (c12:Nat) (cs3:List Value) (p13:Option Addr) (c13:Nat),o=(Kids1,x2)→I0.le I'→(RL I' cs3 Kids1)→(S4 I' p13 x2.b c13)→T 53 B Q (.exit 1) I' [hO zF (vS p12 Kids1 c12) cs3,hB b3 [vI y16,vI 0,z0,vI 0,vT ([]),z0,vS p12 Kids1 c12],hB r01 (cRd x2 p13 c13),hB b zExpr] [(6,vP b 0),(7,vP b3 0)])→J Tryz.prog 53 B (nav (bodyOf Tryz.f149) [1,1,1,0,1,0]) Q I [hO zF (vS p10 Kids c10) cs2,hB b3 [vI y16,vI 0,z0,vI 0,vT ([]),z0,vS p10 Kids c10],hB r01 (cRd x1 p11 c11),hB b zExpr] [(0,vP r01 0),(1,vI depth),(2,vI levels),(6,vP b 0),(7,vP b3 0),(8,vI i)]):=by
  refine rN.mutual_partial_correctness _ _ ?_ ?_
  · intro F_spec_l3Value_l1 ih_spec_l3Value_l1 r0 depth levels r N I r01 p c h;refine yA (fn:=Tryz.f149) (c:=(bodyOf Tryz.f149)) Tryz.func149 rfl rfl ?_;rintro B - -;have H:=iS I;refine yO<|uQ zExpr ?_;intro b hb;refine yN rfl<|yI<|yK ?_;obtain ⟨o0,ho0,hMc⟩:=zC N;refine yU (fun I' hs' m'=>∃ (t15:Bool) (x:zO) (p1:Option Addr) (c1:Nat),o0=(t15,x)∧I.le I'∧(S4 I' p1 x.b c1)∧hs'=[hB b zExpr,hB r01 (cRd x p1 c1)]∧m'=[(0,vP r01 0),(1,vI depth),(2,vI levels),(6,vP b 0),(15,.bool t15)]) ?_ ?_
    · have H:=iS I;refine zQ<|yH 3 [] [(11,.bool (decide (levels < 2)))] ?_;cases hc:(decide (levels < 2)) with
      | true =>
       have hM0:=zU hc ho0
       try rw [hc]
       exact yF [] [(15,vY)]<|yR [(0,vP r01 0),(1,vI depth),(2,vI levels),(6,vP b 0),(15,vY)]<|zY ⟨_,_,_,_,(zB hM0).symm,H,h,rfl,rfl⟩
      | false =>
       have hM01:=zS hc ho0
       try rw [hc]
       refine yH 4 [] [(12,vP r01 0)]<|rW (zE [1,0] (hs':=[hB r01 (cRd r0 p c),hB b zExpr]) rfl (by decide)) ?_;obtain ⟨⟨y1,y2⟩,hy,N⟩:=zC hM01;refine sY [hB r01 (cRd r0 p c)] [hB b zExpr] (xT r0 4 _ hy h) ?_;rintro I01 hs2 v2 k2 le - ⟨v0,kk,rfl,rfl,rfl,h3⟩ -;have H:=H.trans le;obtain ⟨p2,c2,rfl,h4⟩:=yL h3;exact yF [] [(15,.bool (y1 == 0))]<|wC (zE [1,0] rfl (by decide))<|yR [(0,vP r01 0),(1,vI depth),(2,vI levels),(6,vP b 0),(15,.bool (y1 == 0))]<|zY ⟨_,_,_,_,(zB N).symm,H,h4,rfl,rfl⟩
    rintro I0 hs2 m2 ⟨t15,x,p1,c1,heq,le1,h1,rfl,rfl⟩;subst o0;refine zD<|yM hMc ?_ ?_
    · intro hc1 N;refine yK<|yO<|yH 1 [] [(16,vP r01 0)]<|rW (zE [1,0] (hs':=[hB r01 (cRd x p1 c1),hB b zExpr]) rfl (by decide)) ?_;obtain ⟨⟨y4,y5⟩,hy1,N⟩:=zC N;refine sY [hB r01 (cRd x p1 c1)] [hB b zExpr] (xT x 4 _ hy1 h1) ?_;rintro I02 hs2 v2 k2 le2 - ⟨v02,kk1,rfl,rfl,rfl,h6⟩ -;obtain ⟨p3,c3,rfl,h7⟩:=yL h6;refine yN rfl<|zD<|zV<|yE [(18,.bool (y4 == 0))]<|zD<|yM N ?_ ?_
      · intro hc2 N;refine yO<|yH 1 [] [(20,vP r01 0)]<|xX [vI 1,vI 2,vI 0,vI 99,vI 3] Int ?_;intro b1 hb1;have h8:RL I02 [vI 1,vI 2,vI 0,vI 99,vI 3] ([1,2,0,99,3]:List Int):=⟨[vI 1],_,rfl,rfl,rfl,⟨[vI 2],_,rfl,rfl,rfl,⟨[vI 0],_,rfl,rfl,rfl,⟨[vI 99],_,rfl,rfl,rfl,⟨[vI 3],_,rfl,rfl,rfl,rfl⟩⟩⟩⟩⟩;refine yJ 0 rfl ?_;intro I03 le3 hl0;have h9:=SL.of_frozen hl0 le3 h8;have h7:=h7.mono le3;obtain ⟨⟨y7,y8⟩,hy2,N⟩:=zC N;refine sY [hB r01 (cRd y5 p3 c3)] [hB b zExpr] (xL y5 ([1,2,0,99,3]:List Int) _ hy2 h7 h9) ?_;rintro I04 hs2 v2 k2 le4 - ⟨v04,kk2,rfl,rfl,rfl,h11⟩ -;obtain ⟨p4,c4,rfl,h12⟩:=yL h11;refine yH 4 [] [(23,vA [vI 1,vI y7,z0,vI 0,vT ([]),z0,z0])]<|xQ 1 [vI 1,vI y7,z0,vI 0,vT ([]),z0,z0] [hB r01 (cRd y8 p4 c4),hB b [vI 1,vI y7,z0,vI 0,vT ([]),z0,z0]] rfl rfl rfl rfl<|yN rfl<|zD<|yC<|yB<|zM<|zM ?_;obtain rfl:=zB N;exact xH ⟨_,_,(.cell 1 rfl rfl (by kernel_rfl) ResV.nil),(zE [0] rfl (by decide)),⟨_,_,rfl,rfl,⟨_,rfl,(xU ⟨_,_,_,rfl,(SL.nil _),(SL.nil _),(SL.nil _)⟩)⟩,(xA ⟨_,rfl,h12⟩)⟩⟩
      intro hc2 N;refine yE [(24,.bool (y4 == 1))]<|zD<|yM N ?_ ?_
      · intro hc3 N;refine yO<|yH 2 [] [(26,vP r01 0),(27,vI depth)] ?_;obtain ⟨⟨y10,y11⟩,hy3,N⟩:=zC N;refine sY [hB r01 (cRd y5 p3 c3)] [hB b zExpr] (zE7 y5 depth _ hy3 h7) ?_;rintro I05 hs2 v2 k2 le5 - ⟨v06,kk3,rfl,rfl,⟨cs,rfl,h13⟩,h14⟩ -;obtain ⟨p5,c5,rfl,h15⟩:=yQ h13;obtain ⟨p6,c6,rfl,h16⟩:=yL h14;refine yH 4 [] [(29,vA [vI 2,vI 0,vS p5 y10.Coefs c5,vI y10.Const,vT ([]),z0,z0])]<|xQ 1 [vI 2,vI 0,vS p5 y10.Coefs c5,vI y10.Const,vT ([]),z0,z0] [hB r01 (cRd y11 p6 c6),hB b [vI 2,vI 0,vS p5 y10.Coefs c5,vI y10.Const,vT ([]),z0,z0]] rfl rfl rfl rfl<|yN rfl<|zD<|yC<|yB<|zM<|zM ?_;obtain rfl:=zB N;exact xH ⟨_,_,(.cell 1 rfl rfl (by kernel_rfl) ResV.nil),(zE [0] rfl (by decide)),⟨_,_,rfl,rfl,⟨_,rfl,(xU ⟨_,_,_,rfl,h15,(SL.nil _),(SL.nil _)⟩)⟩,(xA ⟨_,rfl,h16⟩)⟩⟩
      intro hc3 N;refine zX<|zT<|xI<|yH 2 [] [(30,vP r01 0),(31,vI depth)] ?_;obtain ⟨⟨y13,y14⟩,hy4,N⟩:=zC N;refine sY [hB r01 (cRd y5 p3 c3)] [hB b zExpr] (zAi y5 depth _ hy4 h7) ?_;rintro I06 hs2 v2 k2 le6 - ⟨v09,kk4,rfl,rfl,⟨cs1,rfl,h17⟩,h18⟩ -;obtain ⟨p7,c7,rfl,h19⟩:=pE h17;obtain ⟨p8,c8,rfl,h20⟩:=yL h18;refine yH 4 [] [(33,vA [vI 3,vI 0,z0,vI 0,vT y13.Array.l,vS p7 y13.Subs c7,z0])]<|xQ 1 [vI 3,vI 0,z0,vI 0,vT y13.Array.l,vS p7 y13.Subs c7,z0] [hB r01 (cRd y14 p8 c8),hB b [vI 3,vI 0,z0,vI 0,vT y13.Array.l,vS p7 y13.Subs c7,z0]] rfl rfl rfl rfl<|yN rfl<|zD<|yC<|zM ?_;obtain rfl:=zB N;exact xH ⟨_,_,(.cell 1 rfl rfl (by kernel_rfl) ResV.nil),(zE [0] rfl (by decide)),⟨_,_,rfl,rfl,⟨_,rfl,(xU ⟨_,_,_,rfl,(SL.nil _),h19,(SL.nil _)⟩)⟩,(xA ⟨_,rfl,h20⟩)⟩⟩
    intro hc1 N;refine zX<|xI<|yH 1 [] [(34,vP r01 0)]<|xX [vI 4,vI 6,vI 5,vI 4] Int ?_;intro b2 hb2;have h21:RL I0 [vI 4,vI 6,vI 5,vI 4] ([4,6,5,4]:List Int):=⟨[vI 4],_,rfl,rfl,rfl,⟨[vI 6],_,rfl,rfl,rfl,⟨[vI 5],_,rfl,rfl,rfl,⟨[vI 4],_,rfl,rfl,rfl,rfl⟩⟩⟩⟩;refine yJ 0 rfl ?_;intro I07 le7 hl01;have h22:=SL.of_frozen hl01 le7 h21;have h1:=h1.mono le7;refine rW (zE [1,0] (hs':=[hB r01 (cRd x p1 c1),hB b zExpr]) rfl (by decide)) ?_;obtain ⟨⟨y16,y17⟩,hy5,N⟩:=zC N;refine sY [hB r01 (cRd x p1 c1)] [hB b zExpr] (xL x ([4,6,5,4]:List Int) _ hy5 h1 h22) ?_;rintro I08 hs2 v2 k2 le8 - ⟨v012,kk5,rfl,rfl,rfl,h24⟩ -;obtain ⟨p9,c9,rfl,h25⟩:=yL h24;refine yH 4 [] [(37,vA [vI y16,vI 0,z0,vI 0,vT ([]),z0,z0])]<|uQ zExpr ?_;intro b3 hb3;refine xQ 0 [vI y16,vI 0,z0,vI 0,vT ([]),z0,z0] [hB b3 [vI y16,vI 0,z0,vI 0,vT ([]),z0,z0],hB r01 (cRd y17 p9 c9),hB b zExpr] rfl rfl rfl rfl<|yN rfl<|yI<|yE [(8,vI 0)]<|zD<|zV<|wS [(0,vP r01 0),(1,vI depth),(2,vI levels),(6,vP b 0),(7,vP b3 0),(8,vI 0)]<|qE (uP (Rp.sz zF)) ?_;have h26:RL I08 [] ([]:List zF):=RepL.nil;obtain ⟨o01,ho01,hMl⟩:=zC N;refine ih_spec_l3Value_l1 depth levels 0 ([]:List zF) y17 o01 ho01 iR h26 h25 (fun _ _ _ h=>h) (fun _ _ h=>h) ?_;intro I012 Kids1 x2 p12 c12 cs3 p13 c13 heq1 le12 h29 h30;subst o01;refine zW<|xI<|yH 1 [1] [(52,vA [vI y16,vI 0,z0,vI 0,vT ([]),z0,vS p12 Kids1 c12])]<|xQ 3 [vI y16,vI 0,z0,vI 0,vT ([]),z0,vS p12 Kids1 c12] [hO zF (vS p12 Kids1 c12) cs3,hB b3 [vI y16,vI 0,z0,vI 0,vT ([]),z0,vS p12 Kids1 c12],hB r01 (cRd x2 p13 c13),hB b [vI y16,vI 0,z0,vI 0,vT ([]),z0,vS p12 Kids1 c12]] rfl rfl rfl rfl<|yN rfl<|zD<|yC<|xG 0 rfl ?_;intro I013 le13 hl03;have h40:=SL.of_frozen hl03 le13 h29;have h30:=h30.mono le13;obtain rfl:=zB hMl;exact xH ⟨_,_,(.cell 2 rfl rfl (by kernel_rfl) ResV.nil),(zE [1] rfl (by decide)),⟨_,_,rfl,rfl,⟨_,rfl,(xU ⟨_,_,_,rfl,(SL.nil _),(SL.nil _),h40⟩)⟩,(xA ⟨_,rfl,h30⟩)⟩⟩
  intro F_spec_l3Value F_spec_l3Value_l1 ih_spec_l3Value ih_spec_l3Value_l1 depth levels i Kids x1 o N B I0 I Q y16 r01 b b3 p10 c10 cs2 p11 c11 H h27 h28 hg ho hx;refine yY hg ho<|yK<|yE [(39,.bool (decide (i < 2)))]<|zD<|yM N ?_ ?_
  · intro hc4 N;refine zX<|yI<|zV ?_;obtain ⟨⟨y19,y20⟩,hy6,N⟩:=zC N;obtain ⟨l,hy7,N⟩:=zC N;refine vQ [.p (vP b3 6) [],.p (vS p10 Kids c10) [0],.p (vP r01 0) [],.p (vI depth) [],.p (vI levels) [],.p (vI (W (levels - 1))) [],.x (fun I' v hx=>∃ p14 c14 p15 c15 p16 c16 p17 c17,v=vA (cExpr y19 p14 c14 p15 c15 p16 c16)∧hx=[hB r01 (cRd y20 p17 c17)]∧(S4 I' p14 y19.Index.Coefs c14)∧(S4 I' p15 y19.Read.Subs c15)∧(S4 I' p16 y19.Kids c16)∧(S4 I' p17 y20.b c17)),.x (fun I' v hx=>∃ b4,v=vS (some ⟨b4,0,none⟩) ([y19]:List zF) 1∧hx=[]∧(SL I' (vS (some ⟨b4,0,none⟩) ([y19]:List zF) 1) ([y19]:List zF))),.x (fun I' v hx=>∃ p18 c18 cs5,v=vS p18 l c18∧hx=[hO zF (vS p18 l c18) cs5]∧(RL I' cs5 l))] [[],[(0,false)],[],[],[],[(4,false)],[(2,false),(3,false),(5,false),(11,true)],[(6,false)],[(1,false),(7,false),(12,true)]] [hB b3 [vI y16,vI 0,z0,vI 0,vT ([]),z0,vS p10 Kids c10],hB b zExpr] [[hB r01 (cRd x1 p11 c11)],[hO zF (vS p10 Kids c10) cs2]] [(6,true),(8,true)] (zE [1,3,2,0] rfl (by decide)) ?_ ?_
    · refine Op<|Op<|Op<|Op<|Op<|Op<|Ox ?_<|Ox ?_<|Ox ?_<|On
      · intro I1 hf le1;refine zI ?_;rintro _ _ ⟨rfl,rfl⟩;refine zI ?_;rintro _ _ ⟨rfl,rfl⟩;refine zI ?_;rintro _ _ ⟨rfl,rfl⟩;refine zI ?_;rintro _ _ rfl;refine yV [(44,vP r01 0),(45,vI depth),(47,vI (W (levels - 1)))] ?_;have H:=iS I1;have h28:=h28.mono le1;refine sY [hB r01 (cRd x1 p11 c11)] (hB b3 [vI y16,vI 0,z0,vI 0,vT ([]),z0,vS p10 Kids c10]::hB b zExpr::hf) (ih_spec_l3Value x1 depth (W (levels - 1)) _ hy6 h28) ?_;rintro I09 hs2 v2 k2 le9 - ⟨v014,kk6,rfl,rfl,⟨cs4,rfl,h31⟩,h32⟩ -;have H:=H.trans le9;obtain ⟨p14,c14,p15,c15,p16,c16,rfl,h33,h34,h35⟩:=uT h31;obtain ⟨p17,c17,rfl,h36⟩:=yL h32;exact yS [hB r01 (cRd y20 p17 c17)] H ⟨_,_,_,_,_,_,_,_,rfl,rfl,h33,h34,h35,h36⟩
      · intro I1 hf le1;refine zI ?_;rintro _ _ ⟨p14,c14,p15,c15,p16,c16,p17,c17,rfl,rfl,h33,h34,h35,h36⟩;refine yV [(48,vA (cExpr y19 p14 c14 p15 c15 p16 c16))] ?_;have H:=iS I1;refine xX (cExpr y19 p14 c14 p15 c15 p16 c16) zF ?_;intro b4 hb4;have h37:RL I1 (cExpr y19 p14 c14 p15 c15 p16 c16) ([y19]:List zF):=⟨(cExpr y19 p14 c14 p15 c15 p16 c16),_,rfl,rfl,(xU ⟨_,_,_,rfl,h33,h34,h35⟩),rfl⟩;refine yJ 0 rfl ?_;intro I010 le10 hl02;have h38:=SL.of_frozen hl02 le10 h37;have H:=H.trans le10;exact yS [] H ⟨_,rfl,rfl,h38⟩
      intro I1 hf le1;refine zI ?_;rintro _ _ ⟨rfl,rfl⟩;refine zI ?_;rintro _ _ ⟨b4,rfl,rfl,h38⟩;refine zI ?_;rintro _ _ rfl;refine yV [(43,vS p10 Kids c10),(49,vS (some ⟨b4,0,none⟩) ([y19]:List zF) 1)] ?_;have h27:=iM le1 h27;obtain ⟨ccs,k0,k01⟩:=h38;have h38:SL I1 (vS (some ⟨b4,0,none⟩) ([y19]:List zF) 1) ([y19]:List zF):=⟨_,k0,k01⟩;exact qF 93 7 0 rfl rfl rfl h27 (.inl k0) k01 hy7 fun p18 c18 cs5 h39=>uO (hs':=(hO zF (vS p18 l c18) cs5::hB b3 [vI y16,vI 0,z0,vI 0,vT ([]),z0,vS p10 Kids c10]::hB b zExpr::hf)) rfl<|yS [hO zF (vS p18 l c18) cs5] iR ⟨_,_,_,rfl,rfl,h39⟩
    intro I011 le11;refine zI ?_;rintro _ _ ⟨p14,c14,p15,c15,p16,c16,p17,c17,rfl,rfl,h33,h34,h35,h36⟩;refine zI ?_;rintro _ _ ⟨p18,c18,cs5,rfl,rfl,h39⟩;refine yV [(0,vP r01 0),(1,vI depth),(2,vI levels),(6,vP b 0),(7,vP b3 0),(8,vI i),(50,vS p18 l c18)] ?_;have H:=H.trans le11;exact yH 10 [] [(51,vP b3 6)]<|xQ 2 [vI y16,vI 0,z0,vI 0,vT ([]),z0,vS p18 l c18] [hO zF (vS p18 l c18) cs5,hB r01 (cRd y20 p17 c17),hB b3 [vI y16,vI 0,z0,vI 0,vT ([]),z0,vS p18 l c18],hB b zExpr] rfl rfl rfl rfl<|yN rfl<|zT<|zD<|zQ<|yF [] [(8,vI (W (i + 1)))]<|yZ<|qE (zE [0,2,1,3] rfl (by decide))<|wS [(0,vP r01 0),(1,vI depth),(2,vI levels),(6,vP b 0),(7,vP b3 0),(8,vI (W (i + 1)))]<|ih_spec_l3Value_l1 depth levels (W (i + 1)) l y20 _ N H h39 h36 hg ho hx
  intro hc4 N;exact yX<|zL<|zL<|yR [(6,vP b 0),(7,vP b3 0)]<|hx _ _ _ _ _ _ _ _ (zB N).symm H h27 h28
theorem zDi:∀ r0 depth levels r,rN r0 depth levels=some r→∀ {I:Imm}{r01:Nat}{p c},(S4 I p r0.b c)→Ret Tryz.prog 149 [vP r01 0,vI depth,vI levels] I [hB r01 (cRd r0 p c)] (eW r01 r):=zDK.1
def zDL (b0:Nat) (r:zR×zO):KT:=fun kk I' hs' v=>
  ∃ v0 k0,hs'=[.blk b0 ⟨k0⟩]∧v=tupV [v0]∧(∃ cs,v0=.agg ⟨cs⟩∧Rp.rep I' cs r.1)∧Rp.rep I' k0 r.2
def jB (r0:zO) (depth:Int):Option (zR×zO):=do
 let (y1,y2)←nK r0 depth
 let (y4,y5)←xB y2 ([2,3,1,2]:List Int)
 let (y7,y8)←rN y5 depth y4
 let y9←sB (zR.mk y1 y7) depth
 if y9 then
  pure ((zR.mk y1 y7),y8)
 else
  let y10←pA
  pure ((zR.mk (zK.mk (⟨[65]⟩:Str) ([y10]:List zA)) (zF.mk 1 1 (zA.mk ([]:List Int) 0) (zK.mk (⟨[]⟩:Str) ([]:List zA)) ([]:List zF))),y8)
theorem zE8:∀ r0 depth r,jB r0 depth=some r→∀ {I:Imm}{r01:Nat}{p c},(S4 I p r0.b c)→Ret Tryz.prog 119 [vP r01 0,vI depth] I [hB r01 (cRd r0 p c)] (zDL r01 r):=by
 intro r0 depth r N I r01 p c h;unfold jB at N;refine yA (fn:=Tryz.f119) (c:=(bodyOf Tryz.f119)) Tryz.func119 rfl rfl ?_;rintro B - -;refine yO<|uQ [vT ([]),z0,vI 0,vI 0,z0,vI 0,vT ([]),z0,z0] ?_;intro b hb;refine yN rfl<|xI<|yH 2 [] [(6,vP r01 0),(7,vI depth)]<|rW (zE [1,0] (hs':=[hB r01 (cRd r0 p c),hB b [vT ([]),z0,vI 0,vI 0,z0,vI 0,vT ([]),z0,z0]]) rfl (by decide)) ?_;obtain ⟨⟨y1,y2⟩,hy,N⟩:=zC N;refine sY [hB r01 (cRd r0 p c)] [hB b [vT ([]),z0,vI 0,vI 0,z0,vI 0,vT ([]),z0,z0]] (zAi r0 depth _ hy h) ?_;rintro I0 hs2 v2 k2 le - ⟨v0,kk,rfl,rfl,⟨cs,rfl,h1⟩,h2⟩ -;obtain ⟨p1,c1,rfl,h3⟩:=pE h1;obtain ⟨p2,c2,rfl,h4⟩:=yL h2;refine yH 6 [] [(9,vP r01 0),(10,vI depth),(11,vP r01 0)]<|xX [vI 2,vI 3,vI 1,vI 2] Int ?_;intro b1 hb1;have h5:RL I0 [vI 2,vI 3,vI 1,vI 2] ([2,3,1,2]:List Int):=⟨[vI 2],_,rfl,rfl,rfl,⟨[vI 3],_,rfl,rfl,rfl,⟨[vI 1],_,rfl,rfl,rfl,⟨[vI 2],_,rfl,rfl,rfl,rfl⟩⟩⟩⟩;refine yJ 0 rfl ?_;intro I01 le1 hl0;have h6:=SL.of_frozen hl0 le1 h5;have h3:=h3.mono le1;have h4:=h4.mono le1;obtain ⟨⟨y4,y5⟩,hy1,N⟩:=zC N;refine sY [hB r01 (cRd y2 p2 c2)] [hB b [vT ([]),z0,vI 0,vI 0,z0,vI 0,vT ([]),z0,z0]] (xL y2 ([2,3,1,2]:List Int) _ hy1 h4 h6) ?_;rintro I02 hs2 v2 k2 le2 - ⟨v03,kk1,rfl,rfl,rfl,h8⟩ -;have h3:=h3.mono le2;obtain ⟨p3,c3,rfl,h9⟩:=yL h8;obtain ⟨⟨y7,y8⟩,hy2,N⟩:=zC N;refine sY [hB r01 (cRd y5 p3 c3)] [hB b [vT ([]),z0,vI 0,vI 0,z0,vI 0,vT ([]),z0,z0]] (zDi y5 depth y4 _ hy2 h9) ?_;rintro I03 hs2 v2 k2 le3 - ⟨v05,kk2,rfl,rfl,⟨cs1,rfl,h10⟩,h11⟩ -;have h3:=h3.mono le3;obtain ⟨p4,c4,p5,c5,p6,c6,rfl,h12,h13,h14⟩:=uT h10;obtain ⟨p7,c7,rfl,h15⟩:=yL h11;refine yH 10 [] [(15,vA [vT y1.Array.l,vS p1 y1.Subs c1,vI y7.Kind,vI y7.Num,vS p4 y7.Index.Coefs c4,vI y7.Index.Const,vT y7.Read.Array.l,vS p5 y7.Read.Subs c5,vS p6 y7.Kids c6])]<|uQ [vT ([]),z0,vI 0,vI 0,z0,vI 0,vT ([]),z0,z0] ?_;intro b2 hb2;refine xQ 0 [vT y1.Array.l,vS p1 y1.Subs c1,vI y7.Kind,vI y7.Num,vS p4 y7.Index.Coefs c4,vI y7.Index.Const,vT y7.Read.Array.l,vS p5 y7.Read.Subs c5,vS p6 y7.Kids c6] [hB b2 [vT y1.Array.l,vS p1 y1.Subs c1,vI y7.Kind,vI y7.Num,vS p4 y7.Index.Coefs c4,vI y7.Index.Const,vT y7.Read.Array.l,vS p5 y7.Read.Subs c5,vS p6 y7.Kids c6],hB r01 (cRd y8 p7 c7),hB b [vT ([]),z0,vI 0,vI 0,z0,vI 0,vT ([]),z0,z0]] rfl rfl rfl rfl<|yN rfl<|yI<|yO<|yH 2 [0] [(16,vA [vT y1.Array.l,vS p1 y1.Subs c1,vI y7.Kind,vI y7.Num,vS p4 y7.Index.Coefs c4,vI y7.Index.Const,vT y7.Read.Array.l,vS p5 y7.Read.Subs c5,vS p6 y7.Kids c6]),(17,vI depth)]<|bE N fun y9 hy3 N=>uR (jP (zR.mk y1 y7) depth _ hy3 h3 h12 h13 h14) ?_;intro I04 le4;have h3:=h3.mono le4;have h12:=h12.mono le4;have h13:=h13.mono le4;have h14:=h14.mono le4;have h15:=h15.mono le4;refine yN rfl<|zD<|yM N ?_ ?_
 · intro hc N;refine yO<|yH 1 [0] [(19,vA [vT y1.Array.l,vS p1 y1.Subs c1,vI y7.Kind,vI y7.Num,vS p4 y7.Index.Coefs c4,vI y7.Index.Const,vT y7.Read.Array.l,vS p5 y7.Read.Subs c5,vS p6 y7.Kids c6])]<|xQ 2 [vT y1.Array.l,vS p1 y1.Subs c1,vI y7.Kind,vI y7.Num,vS p4 y7.Index.Coefs c4,vI y7.Index.Const,vT y7.Read.Array.l,vS p5 y7.Read.Subs c5,vS p6 y7.Kids c6] [hB b2 [vT y1.Array.l,vS p1 y1.Subs c1,vI y7.Kind,vI y7.Num,vS p4 y7.Index.Coefs c4,vI y7.Index.Const,vT y7.Read.Array.l,vS p5 y7.Read.Subs c5,vS p6 y7.Kids c6],hB r01 (cRd y8 p7 c7),hB b [vT y1.Array.l,vS p1 y1.Subs c1,vI y7.Kind,vI y7.Num,vS p4 y7.Index.Coefs c4,vI y7.Index.Const,vT y7.Read.Array.l,vS p5 y7.Read.Subs c5,vS p6 y7.Kids c6]] rfl rfl rfl rfl<|yN rfl<|zD<|yC<|zM ?_;obtain rfl:=zB N;exact xH ⟨_,_,(.cell 2 rfl rfl (by kernel_rfl) ResV.nil),(zE [1] rfl (by decide)),⟨_,_,rfl,rfl,⟨_,rfl,(wT ⟨_,_,_,_,rfl,h3,h12,h13,h14⟩)⟩,(xA ⟨_,rfl,h15⟩)⟩⟩
 intro hc N;refine zX<|xI<|bE N fun y10 hy4 N=>xW (nT  _ hy4 ) ?_;rintro I05 hs2 v2 k2 le5 - ⟨p8,c8,cs2,rfl,rfl,h17⟩ -;have h15:=h15.mono le5;refine yJ 0 rfl ?_;intro I06 le6 hl01;have h18:=SL.of_frozen hl01 le6 h17;have h15:=h15.mono le6;refine xX (cAff y10 p8 c8) zA ?_;intro b3 hb3;have h19:RL I06 (cAff y10 p8 c8) ([y10]:List zA):=⟨(cAff y10 p8 c8),_,rfl,rfl,(yP ⟨_,rfl,h18⟩),rfl⟩;refine yH 5 [] [(24,vA [vT ([65]),vS (some ⟨b3,0,none⟩) ([y10]:List zA) 1,vI 1,vI 1,z0,vI 0,vT ([]),z0,z0])]<|xQ 3 [vT ([65]),vS (some ⟨b3,0,none⟩) ([y10]:List zA) 1,vI 1,vI 1,z0,vI 0,vT ([]),z0,z0] [hO zA (vS (some ⟨b3,0,none⟩) ([y10]:List zA) 1) (cAff y10 p8 c8),hB b2 [vT y1.Array.l,vS p1 y1.Subs c1,vI y7.Kind,vI y7.Num,vS p4 y7.Index.Coefs c4,vI y7.Index.Const,vT y7.Read.Array.l,vS p5 y7.Read.Subs c5,vS p6 y7.Kids c6],hB r01 (cRd y8 p7 c7),hB b [vT ([65]),vS (some ⟨b3,0,none⟩) ([y10]:List zA) 1,vI 1,vI 1,z0,vI 0,vT ([]),z0,z0]] rfl rfl rfl rfl<|yN rfl<|zD<|yC<|xG 0 rfl ?_;intro I07 le7 hl02;have h20:=SL.of_frozen hl02 le7 h19;have h15:=h15.mono le7;obtain rfl:=zB N;exact xH ⟨_,_,(.cell 2 rfl rfl (by kernel_rfl) ResV.nil),(zE [1] rfl (by decide)),⟨_,_,rfl,rfl,⟨_,rfl,(wT ⟨_,_,_,_,rfl,h20,(SL.nil _),(SL.nil _),(SL.nil _)⟩)⟩,(xA ⟨_,rfl,h15⟩)⟩⟩
def rO (s:Str) (end0:UInt8) (i:Int):Option (Out Unit (Int)):=do
 if (decide (i < (s.l.length:Int))) then
  let b←sidx s i
  if ((b.toNat:Int) == (end0.toNat:Int)) then
   pure (.ret i)
  else
   rO s end0 (W (i + 1))
 else
  pure (.done ())
 partial_fixpoint
theorem zBd (s:Str) (end0:UInt8):∀ (i:Int) (o:Out Unit (Int)),rO s end0 i=some o→∀ {B}{I0 I:Imm}{Q}  ,I0.le I→NG Q→NO Q→(∀ (I':Imm) ,o=(.done ())→I0.le I'→T 21 B Q (.exit 0) I' [] [])→(∀ r I' hs' m',o=(.ret r)→I0.le I'→RS Tryz.prog Tryz.f168 B (yW  r) I' hs' m'→T 21 B Q .ret I' hs' m')→J Tryz.prog 21 B (nav (bodyOf Tryz.f168) [1,0,1,0]) Q I [] [(0,vT s.l),(2,.int .u8 (end0.toNat:Int)),(7,vI i)]:=by
 refine rO.partial_correctness s end0 _ fun self ih i o N B I0 I Q H hg ho hx hr=>yY hg ho<|yK<|yE [(12,.bool (decide (i < (s.l.length:Int))))]<|zD<|yM N ?_ ?_
 · intro hc N;refine zX<|yI<|zV<|yO<|yH 2 [] [(15,vT s.l),(16,vI i)]<|bE N fun b hy N=>eC rfl rfl hy<|yF [] [(19,.bool ((b.toNat:Int) == (end0.toNat:Int)))]<|zD<|yM N ?_ ?_
   · intro hc1 N;exact yE [(6,vI i)]<|zD<|yC<|yB<|zM<|zM<|hr _ _ _ _ (zB N).symm H ⟨_,_,(.tmp rfl ResV.nil),yD,⟨_,rfl,rfl,rfl⟩⟩
   intro hc1 N;exact zX<|zT<|zD<|zQ<|yF [] [(7,vI (W (i + 1)))]<|yZ<|wS [(0,vT s.l),(2,.int .u8 (end0.toNat:Int)),(7,vI (W (i + 1)))]<|ih (W (i + 1)) _ N H  hg ho hx hr
 intro hc N;exact yX<|zL<|zL<|yR []<|hx _  (zB N).symm H
def nV (s:Str) (at0:Int) (end0:UInt8):Option (Int):=do
 match←rO s end0 at0 with
 | .ret r0=>pure r0
 | .done _ =>
  pure (-1)
theorem zAW:∀ s at0 end0 r,nV s at0 end0=some r→∀ {I:Imm} ,Ret Tryz.prog 168 [vT s.l,vI at0,.int .u8 (end0.toNat:Int)] I [] (yW  r):=by
 intro s at0 end0 r N I;unfold nV at N;refine yA (fn:=Tryz.f168) (c:=(bodyOf Tryz.f168)) Tryz.func168 rfl rfl ?_;rintro B - -;refine yE []<|yI<|yE [(7,vI at0)]<|zD<|zV<|wS [(0,vT s.l),(2,.int .u8 (end0.toNat:Int)),(7,vI at0)] ?_;obtain ⟨o0,ho0,hMl⟩:=zC N;refine zBd s end0 at0 o0 ho0 iR  (fun _ _ _ h=>h) (fun _ _ h=>h) ?_ ?_
 · intro I0  heq le;subst o0;refine zW<|wR [(6,vI (-1))]<|zD<|yC ?_;obtain rfl:=zB hMl;exact wY
 intro r0 I9 hs9 m9 heq9 le9 hrs9;subst heq9;refine yB<|zM ?_;obtain rfl:=zB hMl;exact xH hrs9
def qK (s1:Str) (n0:Int) (i:Int):Option (Out Int (Int×Bool)):=do
 if (decide (i < (s1.l.length:Int))) then
  let t54←(do
    let b2←sidx s1 i
    if (decide ((b2.toNat:Int) < 48)) then
     pure true
    else
     let b3←sidx s1 i
     pure (decide ((b3.toNat:Int) > 57))
      : Option Bool)
  if t54 then
   pure (.ret (0,false))
  else
   let b4←sidx s1 i
   qK s1 (W ((W (n0 * 10)) + (W (IntKind.u8.wrap ((b4.toNat:Int) - 48))))) (W (i + 1))
 else
  pure (.done n0)
 partial_fixpoint
theorem zCY (s1:Str):∀ (n0:Int) (i:Int) (o:Out Int (Int×Bool)),qK s1 n0 i=some o→∀ {B}{I0 I:Imm}{Q}{neg:Bool} ,I0.le I→NG Q→NO Q→(∀ (I':Imm) (n01:Int),o=(.done n01)→I0.le I'→T 67 B Q (.exit 0) I' [] [(4,.bool neg),(5,vI n01)])→(∀ r I' hs' m',o=(.ret r)→I0.le I'→RS Tryz.prog Tryz.f181 B (nU  r) I' hs' m'→T 67 B Q .ret I' hs' m')→J Tryz.prog 67 B (nav (bodyOf Tryz.f181) [1,1,1,1,1,0,1,0]) Q I [] [(0,vT s1.l),(4,.bool neg),(5,vI n0),(6,vI i)]:=by
 refine qK.partial_correctness s1 _ fun self ih n0 i o N B I0 I Q neg H hg ho hx hr=>yY hg ho<|yK<|yE [(42,.bool (decide (i < (s1.l.length:Int))))]<|zD<|yM N ?_ ?_
 · intro hc7 N;refine zX<|yI<|zV<|yK<|yK ?_;obtain ⟨o03,ho03,hMc3⟩:=zC N;refine yU (fun I' hs' m'=>∃ (t54:Bool),o03=t54∧I.le I'∧hs'=[]∧m'=[(0,vT s1.l),(4,.bool neg),(5,vI n0),(6,vI i),(54,.bool t54)]) ?_ ?_
   · have H:=iS I;refine zQ<|yH 2 [] [(45,vT s1.l),(46,vI i)] ?_;obtain ⟨b2,hy3,N⟩:=zC ho03;refine eC rfl rfl hy3<|yH 5 [] [(49,.bool (decide ((b2.toNat:Int) < 48)))] ?_;cases hc8:(decide ((b2.toNat:Int) < 48)) with
     | true =>
      have hM010:=zU hc8 N
      try rw [hc8]
      exact yF [] [(54,vY)]<|yR [(0,vT s1.l),(4,.bool neg),(5,vI n0),(6,vI i),(54,vY)]<|zY ⟨_,(zB hM010).symm,H,rfl,rfl⟩
     | false =>
      have hM011:=zS hc8 N
      try rw [hc8]
      refine yH 7 [] [(50,vT s1.l),(51,vI i)] ?_;obtain ⟨b3,hy4,N⟩:=zC hM011;exact eC rfl rfl hy4<|yF [] [(54,.bool (decide ((b3.toNat:Int) > 57)))]<|yR [(0,vT s1.l),(4,.bool neg),(5,vI n0),(6,vI i),(54,.bool (decide ((b3.toNat:Int) > 57)))]<|zY ⟨_,(zB N).symm,H,rfl,rfl⟩
   rintro I03 hs2 m2 ⟨t54,heq3,le3,rfl,rfl⟩;subst o03;have H:=H.trans le3;refine zD<|yM hMc3 ?_ ?_
   · intro hc9 N;exact yE [(2,vI 0),(3,vF)]<|zD<|yC<|zM<|yB<|zM<|zM<|hr _ _ _ _ (zB N).symm H ⟨_,_,(.tmp rfl (.tmp rfl ResV.nil)),yD,⟨_,_,rfl,rfl,rfl,rfl⟩⟩
   intro hc9 N;exact zX<|zD<|zQ<|yH 4 [] [(56,vI (W (n0 * 10))),(57,vT s1.l),(58,vI i)]<|bE N fun b4 hy5 N=>eC rfl rfl hy5<|yF [] [(5,vI (W ((W (n0 * 10)) + (W (IntKind.u8.wrap ((b4.toNat:Int) - 48))))))]<|zT<|zD<|zQ<|yF [] [(6,vI (W (i + 1)))]<|yZ<|wS [(0,vT s1.l),(4,.bool neg),(5,vI (W ((W (n0 * 10)) + (W (IntKind.u8.wrap ((b4.toNat:Int) - 48)))))),(6,vI (W (i + 1)))]<|ih (W ((W (n0 * 10)) + (W (IntKind.u8.wrap ((b4.toNat:Int) - 48))))) (W (i + 1)) _ N H  hg ho hx hr
 intro hc7 N;exact yX<|zL<|zL<|yR [(4,.bool neg),(5,vI n0)]<|hx _ _ (zB N).symm H
def jC (s:Str):Option (Int×Bool):=do
 let neg←(do
   if (decide ((s.l.length:Int) > 0)) then
    let b←sidx s 0
    pure ((b.toNat:Int) == 45)
   else
    pure false
     : Option Bool)
 let s1←(do
   if neg then
    let s2←sslc s 1 (s.l.length:Int)
    pure (id s2)
   else
    pure (id s)
     : Option Str)
 let t38←(do
   if ((s1.l.length:Int) == 0) then
    pure true
   else
    if (decide ((s1.l.length:Int) > 17)) then
     pure true
    else
     let b1←sidx s1 0
     if ((b1.toNat:Int) == 48) then
      if (decide ((s1.l.length:Int) > 1)) then
       pure true
      else
       pure (id neg)
     else
      pure false
     : Option Bool)
 if t38 then
  pure (0,false)
 else
  match←qK s1 0 0 with
  | .ret r0=>pure r0
  | .done n01 =>
   let n02←(do
     if neg then
      pure (W (0 - n01))
     else
      pure (id n01)
       : Option Int)
   pure (n02,true)
theorem zE9:∀ s r,jC s=some r→∀ {I:Imm} ,Ret Tryz.prog 181 [vT s.l] I [] (nU  r):=by
 intro s r N I;unfold jC at N;refine yA (fn:=Tryz.f181) (c:=(bodyOf Tryz.f181)) Tryz.func181 rfl rfl ?_;rintro B - -;have H:=iS I;refine yE []<|zD<|yK ?_;obtain ⟨o0,ho0,hMc⟩:=zC N;refine yU (fun I' hs' m'=>∃ (neg:Bool),o0=neg∧I.le I'∧hs'=[]∧m'=[(0,vT s.l),(4,.bool neg)]) ?_ ?_
 · have H:=iS I;refine zQ<|yH 4 [] [(10,.bool (decide ((s.l.length:Int) > 0)))] ?_;cases hc:(decide ((s.l.length:Int) > 0)) with
   | true =>
    have hM0:=zU hc ho0
    try rw [hc]
    refine yH 5 [] [(11,vT s.l)] ?_;obtain ⟨b,hy,N⟩:=zC hM0;exact eC rfl rfl hy<|yF [] [(4,.bool ((b.toNat:Int) == 45))]<|yR [(0,vT s.l),(4,.bool ((b.toNat:Int) == 45))]<|zY ⟨_,(zB N).symm,H,rfl,rfl⟩
   | false =>
    have hM01:=zS hc ho0
    try rw [hc]
    exact yF [] [(4,vF)]<|yR [(0,vT s.l),(4,vF)]<|zY ⟨_,(zB hM01).symm,H,rfl,rfl⟩
 rintro I0 hs2 m2 ⟨neg,heq,le,rfl,rfl⟩;subst o0;have H:=H.trans le;refine yI<|yE [(15,.bool neg)]<|zD ?_;obtain ⟨o01,ho01,hMc1⟩:=zC hMc;refine yU (fun I' hs' m'=>∃ (s1:Str),o01=s1∧I0.le I'∧hs'=[]∧m'=[(0,vT s1.l),(4,.bool neg)]) ?_ ?_
 · have H:=iS I0;refine yM ho01 ?_ ?_
   · intro hc1 N;exact zQ<|yH 1 [] [(16,vT s.l)]<|bE N fun s2 hy1 N=>zFH rfl hy1<|yF [] [(0,vT s2.l)]<|yR [(0,vT s2.l),(4,.bool neg)]<|zY ⟨_,(zB N).symm,H,rfl,rfl⟩
   intro hc1 N;exact zX<|yR [(0,vT s.l),(4,.bool neg)]<|zY ⟨_,(zB N).symm,H,rfl,rfl⟩
 rintro I01 hs2 m2 ⟨s1,heq1,le1,rfl,rfl⟩;subst o01;have H:=H.trans le1;refine yI<|yK ?_;obtain ⟨o02,ho02,hMc2⟩:=zC hMc1;refine yU (fun I' hs' m'=>∃ (t38:Bool),o02=t38∧I01.le I'∧hs'=[]∧m'=[(0,vT s1.l),(4,.bool neg),(38,.bool t38)]) ?_ ?_
 · have H:=iS I01;refine zQ<|yH 4 [] [(21,.bool ((s1.l.length:Int) == 0))] ?_;cases hc2:((s1.l.length:Int) == 0) with
   | true =>
    have hM02:=zU hc2 ho02
    try rw [hc2]
    exact yF [] [(38,vY)]<|yR [(0,vT s1.l),(4,.bool neg),(38,vY)]<|zY ⟨_,(zB hM02).symm,H,rfl,rfl⟩
   | false =>
    have hM03:=zS hc2 ho02
    try rw [hc2]
    refine yH 9 [] [(26,.bool (decide ((s1.l.length:Int) > 17)))] ?_;cases hc3:(decide ((s1.l.length:Int) > 17)) with
    | true =>
     have hM04:=zU hc3 hM03
     try rw [hc3]
     exact yF [] [(38,vY)]<|yR [(0,vT s1.l),(4,.bool neg),(38,vY)]<|zY ⟨_,(zB hM04).symm,H,rfl,rfl⟩
    | false =>
     have hM05:=zS hc3 hM03
     try rw [hc3]
     refine yH 10 [] [(27,vT s1.l)] ?_;obtain ⟨b1,hy2,N⟩:=zC hM05;refine eC rfl rfl hy2<|yH 13 [] [(30,.bool ((b1.toNat:Int) == 48))] ?_;cases hc4:((b1.toNat:Int) == 48) with
     | true =>
      have hM06:=zU hc4 N
      try rw [hc4]
      refine yH 17 [] [(34,.bool (decide ((s1.l.length:Int) > 1)))] ?_;cases hc5:(decide ((s1.l.length:Int) > 1)) with
      | true =>
       have hM07:=zU hc5 hM06
       try rw [hc5]
       exact yF [] [(38,vY)]<|yR [(0,vT s1.l),(4,.bool neg),(38,vY)]<|zY ⟨_,(zB hM07).symm,H,rfl,rfl⟩
      | false =>
       have hM08:=zS hc5 hM06
       try rw [hc5]
       exact yF [] [(38,.bool neg)]<|yR [(0,vT s1.l),(4,.bool neg),(38,.bool neg)]<|zY ⟨_,(zB hM08).symm,H,rfl,rfl⟩
     | false =>
      have hM09:=zS hc4 N
      try rw [hc4]
      exact yF [] [(38,vF)]<|yR [(0,vT s1.l),(4,.bool neg),(38,vF)]<|zY ⟨_,(zB hM09).symm,H,rfl,rfl⟩
 rintro I02 hs2 m2 ⟨t38,heq2,le2,rfl,rfl⟩;subst o02;have H:=H.trans le2;refine zD<|yM hMc2 ?_ ?_
 · intro hc6 N;refine yE [(2,vI 0),(3,vF)]<|zD<|yC<|zM ?_;obtain rfl:=zB N;exact xH ⟨_,_,(.tmp rfl (.tmp rfl ResV.nil)),yD,⟨_,_,rfl,rfl,rfl,rfl⟩⟩
 intro hc6 N;refine zX<|wR [(5,vI 0)]<|yI<|yE [(6,vI 0)]<|zD<|zV<|wS [(0,vT s1.l),(4,.bool neg),(5,vI 0),(6,vI 0)] ?_;obtain ⟨o04,ho04,hMl⟩:=zC N;refine zCY s1 0 0 o04 ho04 iR  (fun _ _ _ h=>h) (fun _ _ h=>h) ?_ ?_
 · intro I04 n01 heq4 le4;subst o04;have H:=H.trans le4;refine zW<|yI<|yE [(63,.bool neg)]<|zD ?_;obtain ⟨o05,ho05,hMc4⟩:=zC hMl;refine yU (fun I' hs' m'=>∃ (n02:Int),o05=n02∧I04.le I'∧hs'=[]∧m'=[(5,vI n02)]) ?_ ?_
   · have H:=iS I04;refine yM ho05 ?_ ?_
     · intro hc10 N;exact zQ<|yF [] [(5,vI (W (0 - n01)))]<|yR [(5,vI (W (0 - n01)))]<|zY ⟨_,(zB N).symm,H,rfl,rfl⟩
     intro hc10 N;exact zX<|yR [(5,vI n01)]<|zY ⟨_,(zB N).symm,H,rfl,rfl⟩
   rintro I05 hs2 m2 ⟨n02,heq5,le5,rfl,rfl⟩;subst o05;refine wR [(2,vI n02),(3,vY)]<|zD<|yC ?_;obtain rfl:=zB hMc4;exact xH ⟨_,_,(.tmp rfl (.tmp rfl ResV.nil)),yD,⟨_,_,rfl,rfl,rfl,rfl⟩⟩
 intro r0 I9 hs9 m9 heq9 le9 hrs9;subst heq9;refine yB<|zM ?_;obtain rfl:=zB hMl;exact xH hrs9
def sV (s:Str) (at0:Int) (end0:Int):Option (Int):=do
 let t31←(do
   if (decide (end0 < (s.l.length:Int))) then
    if (decide (end0 < (W (at0 + 2)))) then
     let b←sidx s end0
     if (decide ((b.toNat:Int) ≥ 48)) then
      let b1←sidx s end0
      pure (decide ((b1.toNat:Int) ≤ 57))
     else
      pure false
    else
     pure false
   else
    pure false
     : Option Bool)
 if t31 then
  sV s at0 (W (end0 + 1))
 else
  pure (id end0)
 partial_fixpoint
theorem zBG (s:Str) (at0:Int):∀ (end0:Int) (o:Int),sV s at0 end0=some o→∀ {B}{I0 I:Imm}{Q}  ,I0.le I→NG Q→NO Q→(∀ (I':Imm) (end01:Int),o=end01→I0.le I'→T 47 B Q (.exit 0) I' [] [(0,vT s.l),(1,vI at0),(6,vI end01)])→J Tryz.prog 47 B (nav (bodyOf Tryz.f172) [1,1,0,0]) Q I [] [(0,vT s.l),(1,vI at0),(6,vI end0)]:=by
 refine sV.partial_correctness s at0 _ fun self ih end0 o N B I0 I Q H hg ho hx=>yY hg ho<|yK<|yK ?_;obtain ⟨o0,ho0,hMc⟩:=zC N;refine yU (fun I' hs' m'=>∃ (t31:Bool),o0=t31∧I.le I'∧hs'=[]∧m'=[(0,vT s.l),(1,vI at0),(6,vI end0),(31,.bool t31)]) ?_ ?_
 · have H:=iS I;refine zQ<|yH 5 [] [(14,.bool (decide (end0 < (s.l.length:Int))))] ?_;cases hc:(decide (end0 < (s.l.length:Int))) with
   | true =>
    have hM0:=zU hc ho0
    try rw [hc]
    refine yH 11 [] [(20,.bool (decide (end0 < (W (at0 + 2)))))] ?_;cases hc1:(decide (end0 < (W (at0 + 2)))) with
    | true =>
     have hM01:=zU hc1 hM0
     try rw [hc1]
     refine yH 13 [] [(21,vT s.l),(22,vI end0)] ?_;obtain ⟨b,hy,N⟩:=zC hM01;refine eC rfl rfl hy<|yH 17 [] [(26,.bool (decide ((b.toNat:Int) ≥ 48)))] ?_;cases hc2:(decide ((b.toNat:Int) ≥ 48)) with
     | true =>
      have hM02:=zU hc2 N
      try rw [hc2]
      refine yH 19 [] [(27,vT s.l),(28,vI end0)] ?_;obtain ⟨b1,hy1,N⟩:=zC hM02;exact eC rfl rfl hy1<|yF [] [(31,.bool (decide ((b1.toNat:Int) ≤ 57)))]<|yR [(0,vT s.l),(1,vI at0),(6,vI end0),(31,.bool (decide ((b1.toNat:Int) ≤ 57)))]<|zY ⟨_,(zB N).symm,H,rfl,rfl⟩
     | false =>
      have hM03:=zS hc2 N
      try rw [hc2]
      exact yF [] [(31,vF)]<|yR [(0,vT s.l),(1,vI at0),(6,vI end0),(31,vF)]<|zY ⟨_,(zB hM03).symm,H,rfl,rfl⟩
    | false =>
     have hM04:=zS hc1 hM0
     try rw [hc1]
     exact yF [] [(31,vF)]<|yR [(0,vT s.l),(1,vI at0),(6,vI end0),(31,vF)]<|zY ⟨_,(zB hM04).symm,H,rfl,rfl⟩
   | false =>
    have hM05:=zS hc ho0
    try rw [hc]
    exact yF [] [(31,vF)]<|yR [(0,vT s.l),(1,vI at0),(6,vI end0),(31,vF)]<|zY ⟨_,(zB hM05).symm,H,rfl,rfl⟩
 rintro I0 hs2 m2 ⟨t31,heq,le,rfl,rfl⟩;subst o0;have H:=H.trans le;refine zD<|yM hMc ?_ ?_
 · intro hc3 N;exact zX<|zD<|zV<|zQ<|yF [] [(6,vI (W (end0 + 1)))]<|zT<|yZ<|wS [(0,vT s.l),(1,vI at0),(6,vI (W (end0 + 1)))]<|ih (W (end0 + 1)) _ N H  hg ho hx
 intro hc3 N;exact yX<|zL<|zL<|yR [(0,vT s.l),(1,vI at0),(6,vI end0)]<|hx _ _ (zB N).symm H
def oR (s:Str) (at0:Int):Option (Int×Int):=do
 let end01←sV s at0 at0
 let s1←sslc s at0 end01
 let (y1,y2)←jC s1
 if (!y2) then
  pure (1,at0)
 else
  pure (y1,end01)
theorem dN:∀ s at0 r,oR s at0=some r→∀ {I:Imm} ,Ret Tryz.prog 172 [vT s.l,vI at0] I [] (jO  r):=by
 intro s at0 r N I;unfold oR at N;refine yA (fn:=Tryz.f172) (c:=(bodyOf Tryz.f172)) Tryz.func172 rfl rfl ?_;rintro B - -;refine yE []<|wR [(6,vI at0)]<|yI<|zV<|wS [(0,vT s.l),(1,vI at0),(6,vI at0)] ?_;obtain ⟨o01,ho01,hMl⟩:=zC N;refine zBG s at0 at0 o01 ho01 iR  (fun _ _ _ h=>h) (fun _ _ h=>h) ?_;intro I01 end01 heq1 le1;subst o01;refine zW<|xI<|yH 3 [] [(35,vT s.l),(36,vI at0),(37,vI end01)] ?_;obtain ⟨s1,hy2,N⟩:=zC hMl;refine zFH rfl hy2 ?_;obtain ⟨⟨y1,y2⟩,hy3,N⟩:=zC N;refine xW (zE9 s1 _ hy3 ) ?_;rintro I02 hs2 v2 k2 le2 - ⟨v0,v01,rfl,rfl,rfl,rfl⟩ -;refine yF [] [(7,vI y1),(8,.bool y2)]<|yI<|yE [(43,.bool (!y2))]<|zD<|yM N ?_ ?_
 · intro hc4 N;refine yE [(4,vI 1),(5,vI at0)]<|zD<|yC<|zM ?_;obtain rfl:=zB N;exact xH ⟨_,_,(.tmp rfl (.tmp rfl ResV.nil)),yD,⟨_,_,rfl,rfl,rfl,rfl⟩⟩
 intro hc4 N;refine zX<|wR [(4,vI y1),(5,vI end01)]<|zD<|yC ?_;obtain rfl:=zB N;exact xH ⟨_,_,(.tmp rfl (.tmp rfl ResV.nil)),yD,⟨_,_,rfl,rfl,rfl,rfl⟩⟩
def jD (s:Str) (at0:Int):Option (Int):=do
 let t20←(do
   if (decide (at0 ≥ (s.l.length:Int))) then
    pure true
   else
    let b←sidx s at0
    if (decide ((b.toNat:Int) < 105)) then
     pure true
    else
     let b1←sidx s at0
     pure (decide ((b1.toNat:Int) > 108))
     : Option Bool)
 if t20 then
  pure (-1)
 else
  let b2←sidx s at0
  pure (W ((W (b2.toNat:Int)) - 105))
theorem zEa:∀ s at0 r,jD s at0=some r→∀ {I:Imm} ,Ret Tryz.prog 189 [vT s.l,vI at0] I [] (yW  r):=by
 intro s at0 r N I;unfold jD at N;refine yA (fn:=Tryz.f189) (c:=(bodyOf Tryz.f189)) Tryz.func189 rfl rfl ?_;rintro B - -;have H:=iS I;refine yE []<|yI<|yK ?_;obtain ⟨o0,ho0,hMc⟩:=zC N;refine yU (fun I' hs' m'=>∃ (t20:Bool),o0=t20∧I.le I'∧hs'=[]∧m'=[(0,vT s.l),(1,vI at0),(20,.bool t20)]) ?_ ?_
 · have H:=iS I;refine zQ<|yH 5 [] [(9,.bool (decide (at0 ≥ (s.l.length:Int))))] ?_;cases hc:(decide (at0 ≥ (s.l.length:Int))) with
   | true =>
    have hM0:=zU hc ho0
    try rw [hc]
    exact yF [] [(20,vY)]<|yR [(0,vT s.l),(1,vI at0),(20,vY)]<|zY ⟨_,(zB hM0).symm,H,rfl,rfl⟩
   | false =>
    have hM01:=zS hc ho0
    try rw [hc]
    refine yH 7 [] [(10,vT s.l),(11,vI at0)] ?_;obtain ⟨b,hy,N⟩:=zC hM01;refine eC rfl rfl hy<|yH 11 [] [(15,.bool (decide ((b.toNat:Int) < 105)))] ?_;cases hc1:(decide ((b.toNat:Int) < 105)) with
    | true =>
     have hM02:=zU hc1 N
     try rw [hc1]
     exact yF [] [(20,vY)]<|yR [(0,vT s.l),(1,vI at0),(20,vY)]<|zY ⟨_,(zB hM02).symm,H,rfl,rfl⟩
    | false =>
     have hM03:=zS hc1 N
     try rw [hc1]
     refine yH 13 [] [(16,vT s.l),(17,vI at0)] ?_;obtain ⟨b1,hy1,N⟩:=zC hM03;exact eC rfl rfl hy1<|yF [] [(20,.bool (decide ((b1.toNat:Int) > 108)))]<|yR [(0,vT s.l),(1,vI at0),(20,.bool (decide ((b1.toNat:Int) > 108)))]<|zY ⟨_,(zB N).symm,H,rfl,rfl⟩
 rintro I0 hs2 m2 ⟨t20,heq,le,rfl,rfl⟩;subst o0;refine zD<|yM hMc ?_ ?_
 · intro hc2 N;refine yE [(4,vI (-1))]<|zD<|yC<|zM ?_;obtain rfl:=zB N;exact wY
 intro hc2 N;refine zX<|xI<|yH 2 [] [(21,vT s.l),(22,vI at0)]<|bE N fun b2 hy2 N=>eC rfl rfl hy2<|yF [] [(4,vI (W ((W (b2.toNat:Int)) - 105)))]<|zD<|yC ?_;obtain rfl:=zB N;exact wY
def zCZ (r:zA×Int):KT:=fun kk I' hs' v=>
  ∃ v0 v1,hs'=[]∧v=tupV [v0,v1]∧(∃ cs,v0=.agg ⟨cs⟩∧Rp.rep I' cs r.1)∧v1=.int .i64 r.2
def kJ (a0:zA) (s:Str) (at0:Int):Option (zA×Int):=do
 let b2←sidx s at0
 let sign←(do
   if ((b2.toNat:Int) == 45) then
    pure (-1)
   else
    pure (id 1)
     : Option Int)
 let t27←(do
   let b3←sidx s at0
   if ((b3.toNat:Int) == 45) then
    pure true
   else
    let b4←sidx s at0
    pure ((b4.toNat:Int) == 43)
     : Option Bool)
 let at01←(do
   if t27 then
    pure (W (at0 + 1))
   else
    pure (id at0)
     : Option Int)
 let (y1,y2)←oR s at01
 let t51←(do
   if (decide (y2 > at01)) then
    if (decide (y2 < (s.l.length:Int))) then
     let b5←sidx s y2
     pure ((b5.toNat:Int) == 42)
    else
     pure false
   else
    pure false
     : Option Bool)
 let star←(do
   if t51 then
    pure (W (y2 + 1))
   else
    pure (id y2)
     : Option Int)
 let y3←jD s star
 let l←app 8 ([]:List Int) a0.Coefs
 let t75←(do
   if (decide (y3 ≥ 0)) then
    if (decide (star > y2)) then
     pure true
    else
     pure (y2 == at01)
   else
    pure false
     : Option Bool)
 if t75 then
  let x←idx l y3
  let x1←idx l y3
  let l1←pure (l.set y3.toNat (W (x + (W (sign * y1)))))
  pure ((zA.mk l1 a0.Const),(W (star + 1)))
 else
  if (y2 == at01) then
   pure (a0,(-1))
  else
   pure ((zA.mk l (W (a0.Const + (W (sign * y1))))),y2)
theorem zDj:∀ a0 s at0 r,kJ a0 s at0=some r→∀ {I:Imm}{p c},(S4 I p a0.Coefs c)→Ret Tryz.prog 179 [vA (cAff a0 p c),vT s.l,vI at0] I [] (zCZ  r):=by
 intro a0 s at0 r N I p c h;unfold kJ at N;refine yA (fn:=Tryz.f179) (c:=(bodyOf Tryz.f179)) Tryz.func179 rfl rfl ?_;rintro B - -;have H:=iS I;refine yO<|tA (cAff a0 p c) ?_;intro b hb;refine uQ [z0,vI 0] ?_;intro b1 hb1;refine yF [] []<|wR [(8,vI 1)]<|yI<|yO<|yH 2 [] [(14,vT s.l),(15,vI at0)]<|bE N fun b2 hy N=>eC rfl rfl hy<|yF [] [(17,.bool ((b2.toNat:Int) == 45))]<|zD ?_;obtain ⟨o0,ho0,hMc⟩:=zC N;refine yU (fun I' hs' m'=>∃ (sign:Int),o0=sign∧I.le I'∧hs'=[hB b1 [z0,vI 0],hB b (cAff a0 p c)]∧m'=[(1,vT s.l),(2,vI at0),(3,vP b 0),(6,vP b1 0),(8,vI sign)]) ?_ ?_
 · have H:=iS I;refine yM ho0 ?_ ?_
   · intro hc N;exact zQ<|yF [] [(8,vI (-1))]<|yR [(1,vT s.l),(2,vI at0),(3,vP b 0),(6,vP b1 0),(8,vI (-1))]<|zY ⟨_,(zB N).symm,H,rfl,rfl⟩
   intro hc N;exact zX<|yR [(1,vT s.l),(2,vI at0),(3,vP b 0),(6,vP b1 0),(8,vI 1)]<|zY ⟨_,(zB N).symm,H,rfl,rfl⟩
 rintro I0 hs2 m2 ⟨sign,heq,le,rfl,rfl⟩;subst o0;have h:=h.mono le;have H:=H.trans le;refine yI<|yK ?_;obtain ⟨o01,ho01,hMc1⟩:=zC hMc;refine yU (fun I' hs' m'=>∃ (t27:Bool),o01=t27∧I0.le I'∧hs'=[hB b1 [z0,vI 0],hB b (cAff a0 p c)]∧m'=[(1,vT s.l),(2,vI at0),(3,vP b 0),(6,vP b1 0),(8,vI sign),(27,.bool t27)]) ?_ ?_
 · have H:=iS I0;refine zQ<|yH 2 [] [(18,vT s.l),(19,vI at0)] ?_;obtain ⟨b3,hy1,N⟩:=zC ho01;refine eC rfl rfl hy1<|yH 5 [] [(22,.bool ((b3.toNat:Int) == 45))] ?_;cases hc1:((b3.toNat:Int) == 45) with
   | true =>
    have hM0:=zU hc1 N
    try rw [hc1]
    exact yF [] [(27,vY)]<|yR [(1,vT s.l),(2,vI at0),(3,vP b 0),(6,vP b1 0),(8,vI sign),(27,vY)]<|zY ⟨_,(zB hM0).symm,H,rfl,rfl⟩
   | false =>
    have hM01:=zS hc1 N
    try rw [hc1]
    refine yH 7 [] [(23,vT s.l),(24,vI at0)] ?_;obtain ⟨b4,hy2,N⟩:=zC hM01;exact eC rfl rfl hy2<|yF [] [(27,.bool ((b4.toNat:Int) == 43))]<|yR [(1,vT s.l),(2,vI at0),(3,vP b 0),(6,vP b1 0),(8,vI sign),(27,.bool ((b4.toNat:Int) == 43))]<|zY ⟨_,(zB N).symm,H,rfl,rfl⟩
 rintro I01 hs2 m2 ⟨t27,heq1,le1,rfl,rfl⟩;subst o01;have h:=h.mono le1;have H:=H.trans le1;refine zD ?_;obtain ⟨o02,ho02,hMc2⟩:=zC hMc1;refine yU (fun I' hs' m'=>∃ (at01:Int),o02=at01∧I01.le I'∧hs'=[hB b1 [z0,vI 0],hB b (cAff a0 p c)]∧m'=[(1,vT s.l),(2,vI at01),(3,vP b 0),(6,vP b1 0),(8,vI sign)]) ?_ ?_
 · have H:=iS I01;refine yM ho02 ?_ ?_
   · intro hc2 N;exact zQ<|yF [] [(2,vI (W (at0 + 1)))]<|yR [(1,vT s.l),(2,vI (W (at0 + 1))),(3,vP b 0),(6,vP b1 0),(8,vI sign)]<|zY ⟨_,(zB N).symm,H,rfl,rfl⟩
   intro hc2 N;exact zX<|yR [(1,vT s.l),(2,vI at0),(3,vP b 0),(6,vP b1 0),(8,vI sign)]<|zY ⟨_,(zB N).symm,H,rfl,rfl⟩
 rintro I02 hs2 m2 ⟨at01,heq2,le2,rfl,rfl⟩;subst o02;have h:=h.mono le2;have H:=H.trans le2;refine xI<|yH 2 [] [(31,vT s.l),(32,vI at01)] ?_;obtain ⟨⟨y1,y2⟩,hy3,N⟩:=zC hMc2;refine xW (dN s at01 _ hy3 ) ?_;rintro I03 hs2 v2 k2 le3 - ⟨v0,v01,rfl,rfl,rfl,rfl⟩ -;have h:=h.mono le3;have H:=H.trans le3;refine yF [] [(9,vI y1),(10,vI y2)]<|wR [(11,vI y2)]<|yI<|yK ?_;obtain ⟨o03,ho03,hMc3⟩:=zC N;refine yU (fun I' hs' m'=>∃ (t51:Bool),o03=t51∧I03.le I'∧hs'=[hB b1 [z0,vI 0],hB b (cAff a0 p c)]∧m'=[(1,vT s.l),(2,vI at01),(3,vP b 0),(6,vP b1 0),(8,vI sign),(9,vI y1),(10,vI y2),(11,vI y2),(51,.bool t51)]) ?_ ?_
 · have H:=iS I03;refine zQ<|yH 4 [] [(40,.bool (decide (y2 > at01)))] ?_;cases hc3:(decide (y2 > at01)) with
   | true =>
    have hM02:=zU hc3 ho03
    try rw [hc3]
    refine yH 10 [] [(46,.bool (decide (y2 < (s.l.length:Int))))] ?_;cases hc4:(decide (y2 < (s.l.length:Int))) with
    | true =>
     have hM03:=zU hc4 hM02
     try rw [hc4]
     refine yH 12 [] [(47,vT s.l),(48,vI y2)] ?_;obtain ⟨b5,hy4,N⟩:=zC hM03;exact eC rfl rfl hy4<|yF [] [(51,.bool ((b5.toNat:Int) == 42))]<|yR [(1,vT s.l),(2,vI at01),(3,vP b 0),(6,vP b1 0),(8,vI sign),(9,vI y1),(10,vI y2),(11,vI y2),(51,.bool ((b5.toNat:Int) == 42))]<|zY ⟨_,(zB N).symm,H,rfl,rfl⟩
    | false =>
     have hM04:=zS hc4 hM02
     try rw [hc4]
     exact yF [] [(51,vF)]<|yR [(1,vT s.l),(2,vI at01),(3,vP b 0),(6,vP b1 0),(8,vI sign),(9,vI y1),(10,vI y2),(11,vI y2),(51,vF)]<|zY ⟨_,(zB hM04).symm,H,rfl,rfl⟩
   | false =>
    have hM05:=zS hc3 ho03
    try rw [hc3]
    exact yF [] [(51,vF)]<|yR [(1,vT s.l),(2,vI at01),(3,vP b 0),(6,vP b1 0),(8,vI sign),(9,vI y1),(10,vI y2),(11,vI y2),(51,vF)]<|zY ⟨_,(zB hM05).symm,H,rfl,rfl⟩
 rintro I04 hs2 m2 ⟨t51,heq3,le4,rfl,rfl⟩;subst o03;have h:=h.mono le4;have H:=H.trans le4;refine zD ?_;obtain ⟨o04,ho04,hMc4⟩:=zC hMc3;refine yU (fun I' hs' m'=>∃ (star:Int),o04=star∧I04.le I'∧hs'=[hB b1 [z0,vI 0],hB b (cAff a0 p c)]∧m'=[(1,vT s.l),(2,vI at01),(3,vP b 0),(6,vP b1 0),(8,vI sign),(9,vI y1),(10,vI y2),(11,vI star)]) ?_ ?_
 · have H:=iS I04;refine yM ho04 ?_ ?_
   · intro hc5 N;exact zQ<|yF [] [(11,vI (W (y2 + 1)))]<|yR [(1,vT s.l),(2,vI at01),(3,vP b 0),(6,vP b1 0),(8,vI sign),(9,vI y1),(10,vI y2),(11,vI (W (y2 + 1)))]<|zY ⟨_,(zB N).symm,H,rfl,rfl⟩
   intro hc5 N;exact zX<|yR [(1,vT s.l),(2,vI at01),(3,vP b 0),(6,vP b1 0),(8,vI sign),(9,vI y1),(10,vI y2),(11,vI y2)]<|zY ⟨_,(zB N).symm,H,rfl,rfl⟩
 rintro I05 hs2 m2 ⟨star,heq4,le5,rfl,rfl⟩;subst o04;have h:=h.mono le5;have H:=H.trans le5;refine xI<|yH 2 [] [(54,vT s.l),(55,vI star)] ?_;obtain ⟨y3,hy5,N⟩:=zC hMc4;refine kE (zEa s star _ hy5 ) ?_;intro I06 le6;have h:=h.mono le6;have H:=H.trans le6;refine yF [] [(12,vI y3)]<|yI<|bE N fun l hy6 N=>vQ [.x (fun I' v hx=>∃ b6,v=vS (some ⟨b6,0,none⟩) ([]:List Int) 0∧hx=[hO Int (vS (some ⟨b6,0,none⟩) ([]:List Int) 0) []]∧(RL I' [] ([]:List Int))),.p (vP b 0) [],.p (vS p a0.Coefs c) [1],.x (fun I' v hx=>∃ p1 c1 cs,v=vS p1 l c1∧hx=[hO Int (vS p1 l c1) cs]∧(RL I' cs l)),.p (vP b 1) [],.p (vI a0.Const) [1],.x (fun I' v hx=>∃ p11 c11 cs1,v=vA [vS p11 l c11,vI a0.Const]∧hx=[hO Int (vS p11 l c11) cs1]∧(RL I' cs1 l)),.x (fun I' v hx=>∃ b7,v=vP b7 0∧hx=[hB b7 [z0,vI 0]])] [[],[],[(1,false)],[(0,true),(2,false)],[],[(4,false)],[(3,true),(5,false)],[]] [hB b1 [z0,vI 0],hB b (cAff a0 p c)] [] [(6,true),(7,true)] (zE [0,1] rfl (by decide)) ?_ ?_
 · refine Ox ?_<|Op<|Op<|Ox ?_<|Op<|Op<|Ox ?_<|Ox ?_<|On
   · intro I1 hf le1;refine yV []<|xX [] Int ?_;intro b6 hb2;have h4:RL I1 [] ([]:List Int):=rfl;exact yS [hO Int (vS (some ⟨b6,0,none⟩) ([]:List Int) 0) []] iR ⟨_,rfl,rfl,h4⟩
   · intro I1 hf le1;refine zI ?_;rintro _ _ ⟨b6,rfl,rfl,h4⟩;refine yV [(57,vS (some ⟨b6,0,none⟩) ([]:List Int) 0),(59,vS p a0.Coefs c)] ?_;have h:=h.mono le1;obtain ⟨ccs,k0,k01⟩:=h;have h:SL I1 (vS p a0.Coefs c) a0.Coefs:=⟨_,k0,k01⟩;exact qF 3 1 0 rfl rfl rfl h4 (.inl k0) k01 hy6 fun p1 c1 cs h5=>uO (hs':=(hO Int (vS p1 l c1) cs::hB b1 [z0,vI 0]::hB b (cAff a0 p c)::hf)) rfl<|yS [hO Int (vS p1 l c1) cs] iR ⟨_,_,_,rfl,rfl,h5⟩
   · intro I1 hf le1;refine zI ?_;rintro _ _ ⟨p1,c1,cs,rfl,rfl,h5⟩;exact yV [(60,vS p1 l c1),(62,vI a0.Const)]<|pH 7 [(63,vA [vS p1 l c1,vI a0.Const])]<|yS [hO Int (vS p1 l c1) cs] iR ⟨_,_,_,rfl,rfl,h5⟩
   intro I1 hf le1;refine yV []<|uQ [z0,vI 0] ?_;intro b7 hb3;exact yS [hB b7 [z0,vI 0]] iR ⟨_,rfl,rfl⟩
 intro I07 le7;refine zI ?_;rintro _ _ ⟨p11,c11,cs1,rfl,rfl,h51⟩;refine zI ?_;rintro _ _ ⟨b7,rfl,rfl⟩;refine yV [(2,vI at01),(3,vP b 0),(6,vP b1 0),(8,vI sign),(9,vI y1),(10,vI y2),(11,vI star),(12,vI y3),(13,vP b7 0),(63,vA [vS p11 l c11,vI a0.Const])] ?_;have h:=h.mono le7;have H:=H.trans le7;refine xQ 0 [vS p11 l c11,vI a0.Const] [hB b7 [vS p11 l c11,vI a0.Const],hO Int (vS p11 l c11) cs1,hB b1 [z0,vI 0],hB b (cAff a0 p c)] rfl rfl rfl rfl<|yN rfl<|yI<|yK ?_;obtain ⟨o05,ho05,hMc5⟩:=zC N;refine yU (fun I' hs' m'=>∃ (t75:Bool),o05=t75∧I07.le I'∧hs'=[hB b7 [vS p11 l c11,vI a0.Const],hO Int (vS p11 l c11) cs1,hB b1 [z0,vI 0],hB b (cAff a0 p c)]∧m'=[(2,vI at01),(3,vP b 0),(6,vP b1 0),(8,vI sign),(9,vI y1),(10,vI y2),(11,vI star),(12,vI y3),(13,vP b7 0),(75,.bool t75)]) ?_ ?_
 · have H:=iS I07;refine zQ<|yH 3 [] [(66,.bool (decide (y3 ≥ 0)))] ?_;cases hc6:(decide (y3 ≥ 0)) with
   | true =>
    have hM06:=zU hc6 ho05
    try rw [hc6]
    refine yH 7 [] [(70,.bool (decide (star > y2)))] ?_;cases hc7:(decide (star > y2)) with
    | true =>
     have hM07:=zU hc7 hM06
     try rw [hc7]
     exact yF [] [(75,vY)]<|yR [(2,vI at01),(3,vP b 0),(6,vP b1 0),(8,vI sign),(9,vI y1),(10,vI y2),(11,vI star),(12,vI y3),(13,vP b7 0),(75,vY)]<|zY ⟨_,(zB hM07).symm,H,rfl,rfl⟩
    | false =>
     have hM08:=zS hc7 hM06
     try rw [hc7]
     exact yF [] [(75,.bool (y2 == at01))]<|yR [(2,vI at01),(3,vP b 0),(6,vP b1 0),(8,vI sign),(9,vI y1),(10,vI y2),(11,vI star),(12,vI y3),(13,vP b7 0),(75,.bool (y2 == at01))]<|zY ⟨_,(zB hM08).symm,H,rfl,rfl⟩
   | false =>
    have hM09:=zS hc6 ho05
    try rw [hc6]
    exact yF [] [(75,vF)]<|yR [(2,vI at01),(3,vP b 0),(6,vP b1 0),(8,vI sign),(9,vI y1),(10,vI y2),(11,vI star),(12,vI y3),(13,vP b7 0),(75,vF)]<|zY ⟨_,(zB hM09).symm,H,rfl,rfl⟩
 rintro I08 hs2 m2 ⟨t75,heq5,le8,rfl,rfl⟩;subst o05;have h51:=iM le8 h51;have h:=h.mono le8;refine zD<|yM hMc5 ?_ ?_
 · intro hc8 N;refine yK<|bE N fun x hy7 N=>vQ [.p (vP b7 0) [],.p (vS p11 l c11) [0],.p (vI y3) [],.p (vP b7 0) [],.p (vS p11 l c11) [0],.p (vI y3) [],.x (fun I' v hx=>∃ ad,v=.pointer (some ad)∧hx=[]∧(AtO (vS p11 l c11) (Rp.sz Int) y3.toNat ad)∧((cs1.drop (y3.toNat * Rp.sz Int)).take (Rp.sz Int)=[vI x])),.q (vI x),.p (vI sign) [],.p (vI y1) [],.p (vI (W (sign * y1))) [],.p (vI (W (x + (W (sign * y1))))) []] [[],[(0,false)],[],[],[(3,false)],[],[(4,false),(5,false)],[(6,false)],[],[],[(8,false),(9,false)],[(7,false),(10,false)]] [hB b7 [vS p11 l c11,vI a0.Const],hO Int (vS p11 l c11) cs1,hB b1 [z0,vI 0],hB b (cAff a0 p c)] [] [(1,false),(2,false),(11,false)] (zE [0,1,2,3] rfl (by decide)) ?_ ?_
   · refine Op<|Op<|Op<|Op<|Op<|Op<|Ox ?_<|Oq ?_<|Op<|Op<|Op<|Op<|On
     · intro I1 hf le1;refine yV [(80,vS p11 l c11),(81,vI y3)] ?_;have h51:=iM le1 h51;refine oM 1 rfl rfl rfl h51 hy7 ?_;intro ad ccs1 hat hcc hrep;obtain rfl:=hrep;exact yS [] iR ⟨_,rfl,rfl,hat,hcc⟩
     intro I1 hf le1;refine zI ?_;rintro _ _ ⟨ad,rfl,rfl,hat,hcc⟩;exact yV [(82,.pointer (some ad))]<|zCD 1 0 hat hcc [vI x] (vI x) rfl rfl<|xP iR
   intro I09 le9;refine yV [(6,vP b1 0),(11,vI star),(13,vP b7 0),(77,vS p11 l c11),(78,vI y3),(87,vI (W (x + (W (sign * y1)))))] ?_;have h51:=iM le9 h51;obtain ⟨x1,hy8,N⟩:=zC N;refine oM 1 rfl rfl rfl h51 hy8 ?_;intro ad1 ccs2 hat1 hcc1 hrep1;obtain rfl:=hrep1;obtain ⟨l1,hy9,N⟩:=zC N;refine sF (c:=[vI (W (x + (W (sign * y1))))]) (x':=(W (x + (W (sign * y1))))) 1 0 rfl rfl rfl hat1 rfl rfl hcc1 (by kernel_rfl) (by kernel_rfl) (by kernel_rfl) h51 hy8 (by kernel_rfl) rfl ?_;rw [show l.set y3.toNat (W (x + (W (sign * y1))))=l1 from zB hy9];intro cs2 h6 hl0;refine oX (m':=[(6,vP b1 0),(11,vI star),(13,vP b7 0),(77,vS p11 l c11),(78,vI y3),(87,vI (W (x + (W (sign * y1)))))]) ⟨rfl,rfl,rfl,rfl,rfl,rfl,trivial⟩<|fL (hs':=[hB b7 [vS p11 l1 c11,vI a0.Const],hO Int (vS p11 l1 c11) cs2,hB b1 [z0,vI 0],hB b (cAff a0 p c)]) (m':=[(6,vP b1 0),(11,vI star),(13,vP b7 0),(77,vS p11 l1 c11),(78,vI y3),(87,vI (W (x + (W (sign * y1)))))]) (by first | rfl | simp only [vS,hl0,List.nil_append,List.cons_append,List.set_cons_zero,List.set_cons_succ,List.eraseIdx_cons_zero,List.eraseIdx_cons_succ]) (by first | rfl | simp only [vS,hl0])<|yN rfl<|xI<|yH 3 [0] [(89,vA [vS p11 l1 c11,vI a0.Const]),(91,vI (W (star + 1)))]<|xQ 2 [vS p11 l1 c11,vI a0.Const] [hB b7 [vS p11 l1 c11,vI a0.Const],hO Int (vS p11 l1 c11) cs2,hB b1 [vS p11 l1 c11,vI a0.Const],hB b (cAff a0 p c)] rfl rfl rfl rfl<|yF [] [(7,vI (W (star + 1)))]<|zD<|yC<|zM<|xG 1 rfl ?_;intro I010 le10 hl01;have h7:=SL.of_frozen hl01 le10 h6;obtain rfl:=zB N;exact xH ⟨_,_,(.cell 1 rfl rfl (by kernel_rfl) (.tmp rfl ResV.nil)),yD,⟨_,_,rfl,rfl,⟨_,rfl,(yP ⟨_,rfl,h7⟩)⟩,rfl⟩⟩
 intro hc8 N;refine zX<|yI<|yE [(94,.bool (y2 == at01))]<|zD<|yM N ?_ ?_
 · intro hc9 N;refine yO<|yH 1 [3] [(95,vA (cAff a0 p c))]<|xQ 2 (cAff a0 p c) [hB b7 [vS p11 l c11,vI a0.Const],hO Int (vS p11 l c11) cs1,hB b1 (cAff a0 p c),hB b (cAff a0 p c)] rfl rfl rfl rfl<|yF [] [(7,vI (-1))]<|zD<|yC<|zM ?_;obtain rfl:=zB N;exact xH ⟨_,_,(.cell 2 rfl rfl (by kernel_rfl) (.tmp rfl ResV.nil)),yD,⟨_,_,rfl,rfl,⟨_,rfl,(yP ⟨_,rfl,h⟩)⟩,rfl⟩⟩
 intro hc9 N;refine zX<|xI<|yH 7 [0] [(101,vI (W (a0.Const + (W (sign * y1))))),(102,vP b7 1)]<|xQ 0 [vS p11 l c11,vI (W (a0.Const + (W (sign * y1))))] [hB b7 [vS p11 l c11,vI (W (a0.Const + (W (sign * y1))))],hO Int (vS p11 l c11) cs1,hB b1 [z0,vI 0],hB b (cAff a0 p c)] rfl rfl rfl rfl<|yN rfl<|xI<|yH 2 [0] [(103,vA [vS p11 l c11,vI (W (a0.Const + (W (sign * y1))))]),(104,vI y2)]<|xQ 2 [vS p11 l c11,vI (W (a0.Const + (W (sign * y1))))] [hB b7 [vS p11 l c11,vI (W (a0.Const + (W (sign * y1))))],hO Int (vS p11 l c11) cs1,hB b1 [vS p11 l c11,vI (W (a0.Const + (W (sign * y1))))],hB b (cAff a0 p c)] rfl rfl rfl rfl<|yF [] [(7,vI y2)]<|zD<|yC<|xG 1 rfl ?_;intro I011 le11 hl02;have h8:=SL.of_frozen hl02 le11 h51;obtain rfl:=zB N;exact xH ⟨_,_,(.cell 1 rfl rfl (by kernel_rfl) (.tmp rfl ResV.nil)),yD,⟨_,_,rfl,rfl,⟨_,rfl,(yP ⟨_,rfl,h8⟩)⟩,rfl⟩⟩
def sZ (r:Str):KT:=fun kk I' hs' v=>
  ∃ v0,hs'=[]∧v=tupV [v0]∧v0=.string ⟨⟨r.l⟩⟩
def qL (n01:Int) (out:Str):Option ((Int×Str)):=do
 if (decide (n01 > 9)) then
  let s1←cat (⟨([(u8 (W (48 + (n01.tmod 10))))]:List UInt8)⟩:Str) out
  qL (W (n01.tdiv 10)) s1
 else
  pure (n01,out)
 partial_fixpoint
theorem zC0 :∀ (n01:Int) (out:Str) (o:(Int×Str)),qL n01 out=some o→∀ {B}{I0 I:Imm}{Q}  ,I0.le I→NG Q→NO Q→(∀ (I':Imm) (n02:Int) (out1:Str),o=(n02,out1)→I0.le I'→T 31 B Q (.exit 0) I' [] [(0,vI n02),(3,vT out1.l)])→J Tryz.prog 31 B (nav (bodyOf Tryz.f183) [1,1,1,1,0,0]) Q I [] [(0,vI n01),(3,vT out.l)]:=by
 refine qL.partial_correctness  _ fun self ih n01 out o N B I0 I Q H hg ho hx=>yY hg ho<|yK<|yE [(13,.bool (decide (n01 > 9)))]<|zD<|yM N ?_ ?_
 · intro hc2 N;refine zX<|zD<|zV<|yO<|yH 3 [] [(16,vI (W (48 + (n01.tmod 10))))]<|zKl (d:=17) (i:=(W (48 + (n01.tmod 10)))) rfl (by kernel_rfl)<|xX [.int .u8 ((u8 (W (48 + (n01.tmod 10)))).toNat:Int)] UInt8 ?_;intro b hb;have h1:RL I [.int .u8 ((u8 (W (48 + (n01.tmod 10)))).toNat:Int)] ([(u8 (W (48 + (n01.tmod 10))))]:List UInt8):=⟨[.int .u8 ((u8 (W (48 + (n01.tmod 10)))).toNat:Int)],_,rfl,rfl,rfl,rfl⟩;exact zHb (l:=([(u8 (W (48 + (n01.tmod 10))))]:List UInt8)) rfl rfl rfl rfl (by kernel_rfl) (by kernel_rfl) (.inr ⟨0,rfl⟩) h1<|yH 7 [] [(20,vT out.l)]<|bE N fun s1 hy2 N=>fN rfl hy2<|yF [] [(3,vT s1.l)]<|zD<|zQ<|yF [] [(0,vI (W (n01.tdiv 10)))]<|zT<|yZ<|qE (zE [] rfl (by decide))<|wS [(0,vI (W (n01.tdiv 10))),(3,vT s1.l)]<|ih (W (n01.tdiv 10)) s1 _ N H  hg ho hx
 intro hc2 N;exact yX<|zL<|zL<|yR [(0,vI n01),(3,vT out.l)]<|hx _ _ _ (zB N).symm H
def rE (n0:Int):Option (Str):=do
 if (decide (n0 < (-9223372036854775807))) then
  pure (⟨[45,57,50,50,51,51,55,50,48,51,54,56,53,52,55,55,53,56,48,56]⟩:Str)
 else
  if (decide (n0 < 0)) then
   let y←rE (W (0 - n0))
   let s←cat (⟨[45]⟩:Str) y
   pure (id s)
  else
   let (n02,out1)←qL n0 (⟨[]⟩:Str)
   let s2←cat (⟨([(u8 (W (48 + n02)))]:List UInt8)⟩:Str) out1
   pure (id s2)
 partial_fixpoint
theorem fT:∀ n0 r,rE n0=some r→∀ {I:Imm} ,Ret Tryz.prog 183 [vI n0] I [] (sZ  r):=by
 refine rE.partial_correctness _ fun F_spec_l16Dec ih_spec_l16Dec n0 r N I=>yA (fn:=Tryz.f183) (c:=(bodyOf Tryz.f183)) Tryz.func183 rfl rfl ?_;rintro B - -;refine yE []<|yI<|yE [(5,.bool (decide (n0 < (-9223372036854775807))))]<|zD<|yM N ?_ ?_
 · intro hc N;refine yE [(2,vT ([45,57,50,50,51,51,55,50,48,51,54,56,53,52,55,55,53,56,48,56]))]<|zD<|yC<|zM ?_;obtain rfl:=zB N;exact wY
 intro hc N;refine zX<|yI<|yE [(7,.bool (decide (n0 < 0)))]<|zD<|yM N ?_ ?_
 · intro hc1 N;refine yO<|yH 2 [] [(9,vI (W (0 - n0)))]<|bE N fun y hy N=>xW (ih_spec_l16Dec (W (0 - n0)) _ hy ) ?_;rintro I0 hs2 v2 k2 le - ⟨v0,rfl,rfl,rfl⟩ -;obtain ⟨s,hy1,N⟩:=zC N;refine fN rfl hy1<|yF [] [(2,vT s.l)]<|zD<|yC<|zM ?_;obtain rfl:=zB N;exact wY
 intro hc1 N;refine zX<|wR [(3,vT ([]))]<|yI<|zV<|wS [(0,vI n0),(3,vT ([]))] ?_;obtain ⟨o0,ho0,hMl⟩:=zC N;refine zC0 n0 (⟨[]⟩:Str) o0 ho0 iR  (fun _ _ _ h=>h) (fun _ _ h=>h) ?_;intro I01 n02 out1 heq le1;subst o0;refine zW<|xI<|yH 2 [] [(25,vI (W (48 + n02)))]<|zKl (d:=26) (i:=(W (48 + n02))) rfl (by kernel_rfl)<|xX [.int .u8 ((u8 (W (48 + n02))).toNat:Int)] UInt8 ?_;intro b1 hb1;have h2:RL I01 [.int .u8 ((u8 (W (48 + n02))).toNat:Int)] ([(u8 (W (48 + n02)))]:List UInt8):=⟨[.int .u8 ((u8 (W (48 + n02))).toNat:Int)],_,rfl,rfl,rfl,rfl⟩;refine zHb (l:=([(u8 (W (48 + n02)))]:List UInt8)) rfl rfl rfl rfl (by kernel_rfl) (by kernel_rfl) (.inr ⟨0,rfl⟩) h2<|yH 6 [] [(29,vT out1.l)] ?_;obtain ⟨s2,hy3,N⟩:=zC hMl;refine fN rfl hy3<|yF [] [(2,vT s2.l)]<|zD<|yC ?_;obtain rfl:=zB N;exact wY
end Go.LN
