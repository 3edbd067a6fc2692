/- Helper of the proof (see the last text). -/
import Derived.Test.YtaflkghnfcjahaaGreatHM2
set_option linter.unusedVariables false
set_option linter.unusedSimpArgs false
namespace Go.LN
open Go.Proofs
set_option maxRecDepth 20000
def uO (list:(List zH)) (a0:zJ) (point:(List Int)) (i:Int) (n0:Int) (k0:Int):Option (Out Int (Int)):=do
 if (decide (k0 < (a0.Subs.length:Int))) then
  let x2←idx list i
  if ((a0.Subs.length:Int) != (x2.Dims.length:Int)) then
   pure (.ret (-1))
  else
   let x3←idx a0.Subs k0
   let y1←rD x3 point
   let t70←(do
     if (decide (y1 < 0)) then
      pure true
     else
      let x4←idx list i
      let x5←idx x4.Dims k0
      pure (decide (y1 ≥ x5))
       : Option Bool)
   if t70 then
    pure (.ret (-1))
   else
    let x6←idx list i
    let x7←idx x6.Dims k0
    uO list a0 point i (W ((W (n0 * x7)) + y1)) (W (k0 + 1))
 else
  pure (.done n0)
 partial_fixpoint
theorem zDP (list:(List zH)) (a0:zJ) (point:(List Int)) (i:Int):∀ (n0:Int) (k0:Int) (o:Out Int (Int)),uO list a0 point i n0 k0=some o→∀ {B}{I0 I:Imm}{Q}{base:Int}{p c p1 c1 p2 c2}{b:Nat},I0.le I→(S4 I p list c)→(S4 I p2 point c2)→(S4 I p1 a0.Subs c1)→NG Q→NO Q→(∀ (I':Imm) (n01:Int),o=(.done n01)→I0.le I'→T 86 B Q (.exit 2) I' [] [(7,vI base),(9,vI n01)])→(∀ r I' hs' m',o=(.ret r)→I0.le I'→RS Tryz.prog Tryz.f211 B (yP  r) I' hs' m'→T 86 B Q .ret I' hs' m')→J Tryz.prog 86 B (nav (bodyOf Tryz.f211) [1,1,0,1,0,0,1,0,0,1,1,0,1,0]) Q I [hB b (cAccess a0 p1 c1)] [(0,vS p list c),(2,vS p2 point c2),(4,vP b 0),(7,vI base),(8,vI i),(9,vI n0),(10,vI k0)]:=by
 refine uO.partial_correctness list a0 point i _ fun self ih n0 k0 o N B I0 I Q base p c p1 c1 p2 c2 b H h h2 h1 hg ho hx hr=>yR hg ho<|zZ<|yF<|yJ [0] [37] rfl<|zI<|yB N ?_ ?_
 · intro hc2 N;refine zS<|zX<|yG<|zZ<|zZ<|nH (by kernel_rfl) (by kernel_rfl)<|jY 5 [0] [42,43,44] rfl<|bE N fun x2 hy3 N=>gW rfl rfl h hy3 ?_;intro ad2 ccs2 hat2 hrep2;obtain ⟨p5,c5,rfl,h6⟩:=vZ hrep2;refine jY 7 [] [46] rfl<|jX 1 hat2 [vS p5 x2.Dims c5] (vS p5 x2.Dims c5) rfl<|zEi [] [49] rfl<|zI<|yB N ?_ ?_
   · intro hc3 N;exact yD [6] rfl<|xB<|zF<|zU<|zF<|zF<|hr _ _ _ _ (zB N).symm H ⟨_,_,(.tmp rfl ResV.nil),zP,⟨_,rfl,rfl,rfl⟩⟩
   intro hc3 N;refine zS<|xG<|yH 3 [0] [51,52] rfl<|bE N fun x3 hy4 N=>xS rfl rfl h1 hy4 ?_;intro ad3 ccs3 hat3 hrep3;obtain ⟨p6,c6,rfl,h7⟩:=yN hrep3;refine xL 0 hat3 (cAff x3 p6 c6) (vA (cAff x3 p6 c6)) rfl<|yH 6 [] [55] rfl<|bE N fun y1 hy5 N=>jD (jG x3 point _ hy5 h7 h2) ?_;intro I01 le1;have ⟨h,h2,h1,H⟩:=m4 le1 h h2 h1 H;refine yJ [] [11] rfl<|zX<|zZ ?_;refine wP N [hB b (cAccess a0 p1 c1)] (fun t70=>[(0,vS p list c),(2,vS p2 point c2),(4,vP b 0),(7,vI base),(8,vI i),(9,vI n0),(10,vI k0),(11,vI y1),(70,.bool t70)]) (fun o0 ho0=>?_) ?_
   · have H:=iS I01;refine zL<|yH 3 [] [59] rfl<|xZ [59] ho0 ?_ ?_
     · intro hc4 N;exact vG [] [(70,vY)]<|yO<|zV (ct N H)
     intro hc4 N;refine yH 6 [] [60,61,62] rfl<|bE N fun x4 hy6 N=>xS rfl rfl h hy6 ?_;intro ad4 ccs4 hat4 hrep4;obtain ⟨p7,c7,rfl,h9⟩:=vZ hrep4;refine yH 8 [] [64] rfl<|xL 1 hat4 [vS p7 x4.Dims c7] (vS p7 x4.Dims c7) rfl<|yH 10 [] [66] rfl<|bE N fun x5 hy7 N=>xS rfl rfl h9 hy7 ?_;intro ad5 ccs5 hat5 hrep5;obtain rfl:=hrep5;exact xL 0 hat5 [vI x5] (vI x5) rfl<|yJ [] [70] rfl<|yO<|zV (ct N H)
   intro t70 I02 le2 hMc;have ⟨h,h2,h1,H⟩:=m4 le2 h h2 h1 H;refine zI<|yB hMc ?_ ?_
   · intro hc5 N;exact yD [6] rfl<|xB<|zF<|zU<|zF<|zF<|hr _ _ _ _ (zB N).symm H ⟨_,_,(.tmp rfl ResV.nil),zP,⟨_,rfl,rfl,rfl⟩⟩
   intro hc5 N;refine zS<|zI<|zL<|yH 3 [] [71,72,73] rfl<|bE N fun x6 hy8 N=>xS rfl rfl h hy8 ?_;intro ad6 ccs6 hat6 hrep6;obtain ⟨p8,c8,rfl,h10⟩:=vZ hrep6;refine yH 5 [] [75] rfl<|xL 1 hat6 [vS p8 x6.Dims c8] (vS p8 x6.Dims c8) rfl<|yH 7 [] [77] rfl<|bE N fun x7 hy9 N=>xS rfl rfl h10 hy9 ?_;intro ad7 ccs7 hat7 hrep7;obtain rfl:=hrep7;exact xL 0 hat7 [vI x7] (vI x7) rfl<|yJ [] [9] rfl<|zO<|zI<|zL<|yJ [] [10] rfl<|yQ<|nO<|ih (W ((W (n0 * x7)) + y1)) (W (k0 + 1)) _ N H h h2 h1 hg ho hx hr
 intro hc2 N;exact wY<|wA zP<|yO<|hx _ _ (zB N).symm H
def uP (list:(List zH)) (a0:zJ) (point:(List Int)) (base:Int) (i:Int):Option (Out Unit (Int)):=do
 if (decide (i < (list.length:Int))) then
  let x←idx list i
  if (!(x.Name.l == a0.Array.l)) then
   let x1←idx list i
   let y←mK x1
   uP list a0 point (W (base + y)) (W (i + 1))
  else
   match←uO list a0 point i 0 0 with
   | .ret r0=>pure (.ret r0)
   | .done n01 =>
    pure (.ret (W (base + n01)))
 else
  pure (.done ())
 partial_fixpoint
theorem zDQ (list:(List zH)) (a0:zJ) (point:(List Int)):∀ (base:Int) (i:Int) (o:Out Unit (Int)),uP list a0 point base i=some o→∀ {B}{I0 I:Imm}{Q p c p1 c1 p2 c2}{b:Nat},I0.le I→(S4 I p list c)→(S4 I p2 point c2)→(S4 I p1 a0.Subs c1)→NG Q→NO Q→(∀ (I':Imm) ,o=(.done ())→I0.le I'→T 86 B Q (.exit 0) I' [] [])→(∀ r I' hs' m',o=(.ret r)→I0.le I'→RS Tryz.prog Tryz.f211 B (yP  r) I' hs' m'→T 86 B Q .ret I' hs' m')→J Tryz.prog 86 B (nav (bodyOf Tryz.f211) [1,1,0,1,0]) Q I [hB b (cAccess a0 p1 c1)] [(0,vS p list c),(2,vS p2 point c2),(4,vP b 0),(7,vI base),(8,vI i)]:=by
 refine uP.partial_correctness list a0 point _ fun self ih base i o N B I0 I Q p c p1 c1 p2 c2 b H h h2 h1 hg ho hx hr=>yR hg ho<|zZ<|yD [15] rfl<|zI<|yB N ?_ ?_
 · intro hc N;refine zS<|zX<|yG<|zZ<|zZ<|nH (by kernel_rfl) (by kernel_rfl)<|jY 2 [] [18,19] rfl<|bE N fun x hy N=>gW rfl rfl h hy ?_;intro ad ccs hat hrep;obtain ⟨p3,c3,rfl,h3⟩:=vZ hrep;refine jY 4 [] [21] rfl<|jX 0 hat [vT x.Name.l] (vT x.Name.l) rfl<|zEi [0] [25] rfl<|zI<|yB N ?_ ?_
   · intro hc1 N;refine yF<|yH 3 [] [26,27,28] rfl<|bE N fun x1 hy1 N=>xS rfl rfl h hy1 ?_;intro ad1 ccs1 hat1 hrep1;obtain ⟨p4,c4,rfl,h4⟩:=vZ hrep1;refine xL 0 hat1 (cArr x1 p4 c4) (vA (cArr x1 p4 c4)) rfl<|bE N fun y hy2 N=>jD (zFe x1 _ hy2 h4) ?_;intro I0 le;have ⟨h,h2,h1,H⟩:=m4 le h h2 h1 H;exact yJ [] [7] rfl<|zI<|zFS<|jB<|zR<|zI<|zL<|yJ [] [8] rfl<|yQ<|nO<|ih (W (base + y)) (W (i + 1)) _ N H h h2 h1 hg ho hx hr
   intro hc1 N;refine zS<|wW [9] rfl<|zX<|yD [10] rfl<|wB<|qW [(0,vS p list c),(2,vS p2 point c2),(4,vP b 0),(7,vI base),(8,vI i),(9,vI 0),(10,vI 0)] ?_;obtain ⟨o01,ho01,hMl⟩:=zC N;refine zDP list a0 point i 0 0 o01 ho01 iR h h2 h1 (fun _ _ _ h=>hg _ _ _ h) (fun _ _ h=>ho _ _ h) ?_ ?_
   · intro I03 n01 heq1 le3;subst o01;have H:=H.trans le3;exact zR<|wW [6] rfl<|xB<|zU<|zF<|zF<|hr _ _ _ _ (zB hMl).symm H ⟨_,_,(.tmp rfl ResV.nil),zP,⟨_,rfl,rfl,rfl⟩⟩
   intro r0 I9 hs9 m9 heq9 le9 hrs9;subst heq9;exact zU<|zF<|zU<|zF<|zF<|hr _ _ _ _ (zB hMl).symm (H.trans le9) hrs9
 intro hc N;exact wY<|wA zP<|yO<|hx _  (zB N).symm H
def nC (list:(List zH)) (a0:zJ) (point:(List Int)):Option (Int):=do
 match←uP list a0 point 0 0 with
 | .ret r0=>pure r0
 | .done _ =>
  pure (-1)
theorem zB6:∀ list a0 point r,nC list a0 point=some r→∀ {I:Imm}{p c p1 c1 p2 c2},(S4 I p list c)→(S4 I p1 a0.Subs c1)→(S4 I p2 point c2)→RT 211 [vS p list c,vA (cAccess a0 p1 c1),vS p2 point c2] I [] (yP  r):=by
 intro list a0 point r N I p c p1 c1 p2 c2 h h1 h2;unfold nC at N;refine yL Tryz.func211 fun B=>yF<|tX (cAccess a0 p1 c1) ?_;intro b hb;refine vG [] []<|wW [7] rfl<|zX<|yD [8] rfl<|wB<|qW [(0,vS p list c),(2,vS p2 point c2),(4,vP b 0),(7,vI 0),(8,vI 0)] ?_;obtain ⟨o02,ho02,hMl1⟩:=zC N;refine zDQ list a0 point 0 0 o02 ho02 iR h h2 h1 (fun _ _ _ h=>h) (fun _ _ h=>h) ?_ ?_
 · intro I04  heq2 le4;subst o02;refine zR<|wW [6] rfl<|zI<|yZ ?_;obtain rfl:=zB hMl1;exact wL
 intro r0 I9 hs9 m9 heq9 le9 hrs9;subst heq9;refine zU<|zF ?_;obtain rfl:=zB hMl1;exact xC hrs9
def zAH (r:(List Int)×Int×Bool):KT:=fun kk I' hs' v=>
  ∃ v0 v1 v2,hs'=[]∧v=tupV [v0,v1,v2]∧SL I' v0 r.1∧v1=.int .i64 r.2.1∧v2=.bool r.2.2
def uX (list:(List zH)) (point:(List Int)) (y:(List zJ)) (out:List Int) (i:Int):Option (Out (List Int) ((List Int)×Int×Bool)):=do
 if (decide (i < (y.length:Int))) then
  let x←idx y i
  let y1←nC list x point
  if (decide (y1 < 0)) then
   pure (.ret (([]:List Int),0,false))
  else
   let out2←app 8 out ([y1]:List Int)
   uX list point y out2 (W (i + 1))
 else
  pure (.done out)
 partial_fixpoint
theorem zC6 (list:(List zH)) (point:(List Int)) (y:(List zJ)):∀ (out:List Int) (i:Int) (o:Out (List Int) ((List Int)×Int×Bool)),uX list point y out i=some o→∀ {B}{I0 I:Imm}{Q}{s:zQ}{p c p1 c1 p2 c2 p3 c3 p4 c4 p5 c5}{b:Nat}{p6 c6 cs p7 c7 cs1},I0.le I→(S4 I p list c)→(S4 I p5 point c5)→(RL I cs y)→(S4 I p1 s.Write.Subs c1)→(S4 I p2 s.Value.Index.Coefs c2)→(S4 I p3 s.Value.Read.Subs c3)→(S4 I p4 s.Value.Kids c4)→(RL I cs1 out)→NG Q→NO Q→(∀ (I':Imm) (out1:List Int) (p8:Option Addr) (c8:Nat) (cs2:List Value),o=(.done out1)→I0.le I'→(RL I' cs2 out1)→T 49 B Q (.exit 0) I' [hO Int (vS p8 out1 c8) cs2,hB b (cStmt s p1 c1 p2 c2 p3 c3 p4 c4)] [(0,vS p list c),(2,vS p5 point c5),(4,vP b 0),(9,vS p8 out1 c8)])→(∀ r I' hs' m',o=(.ret r)→I0.le I'→RS Tryz.prog Tryz.f165 B (zAH  r) I' hs' m'→T 49 B Q .ret I' hs' m')→J Tryz.prog 49 B (nav (bodyOf Tryz.f165) [1,1,1,0,1,0]) Q I [hO zJ (vS p6 y c6) cs,hO Int (vS p7 out c7) cs1,hB b (cStmt s p1 c1 p2 c2 p3 c3 p4 c4)] [(0,vS p list c),(2,vS p5 point c5),(4,vP b 0),(9,vS p7 out c7),(10,vS p6 y c6),(11,vI i)]:=by
 refine uX.partial_correctness list point y _ fun self ih out i o N B I0 I Q s p c p1 c1 p2 c2 p3 c3 p4 c4 p5 c5 b p6 c6 cs p7 c7 cs1 H h h5 h8 h1 h2 h3 h4 h9 hg ho hx hr=>yR hg ho<|zZ<|yD [22] rfl<|zI<|yB N ?_ ?_
 · intro hc N;refine zS<|zX<|yG<|yF<|yH 3 [] [25,26,27] rfl<|bE N fun x hy1 N=>kI 0 rfl rfl rfl h8 hy1 ?_;intro ad ccs hat hcc hrep;obtain ⟨p9,c9,rfl,h11⟩:=oE hrep;refine zBZ 0 0 hat hcc (cAccess x p9 c9) (vA (cAccess x p9 c9)) rfl rfl<|yH 6 [] [30] rfl<|bE N fun y1 hy2 N=>jD (zB6 list x point _ hy2 h h11 h5) ?_;intro I01 le1;have ⟨h,h5,h9,h8,h1,h2⟩:=m6 le1 h h5 h9 h8 h1 h2;have ⟨h3,h4,H⟩:=m3 le1 h3 h4 H;refine yJ [] [12] rfl<|zX<|yD [33] rfl<|zI<|yB N ?_ ?_
   · intro hc1 N;refine yF<|tJ [] Int ?_;intro b3 hb3;have h13:RL I01 [] ([]:List Int):=rfl;refine yJ [] [6,7,8] rfl<|xB<|zF<|zU<|zF<|zF<|xA 0 rfl ?_;intro I02 le2 hl0;have h14:=SL.of_frozen hl0 le2 h13;have H:=H.trans le2;exact hr _ _ _ _ (zB N).symm H ⟨_,_,(.tmp rfl (.tmp rfl (.tmp rfl ResV.nil))),zP,⟨_,_,_,rfl,rfl,h14,rfl,rfl⟩⟩
   intro hc1 N;refine zS<|zI<|zL<|yH 2 [] [35,36] rfl<|tJ [vI y1] Int ?_;intro b4 hb4;have h15:RL I01 [vI y1] ([y1]:List Int):=rI [y1];obtain ⟨out2,hy3,N⟩:=zC N;exact qB 3 1 2 rfl rfl rfl h9 (.inr ⟨0,rfl⟩) h15 hy3 fun p10 c10 cs3 h16=>rW (zY [1,2,3] (hs':=[hO zJ (vS p6 y c6) cs,hO Int (vS p10 out2 c10) cs3,hB b (cStmt s p1 c1 p2 c2 p3 c3 p4 c4)]))<|yJ [] [9] rfl<|zO<|zI<|zL<|yJ [] [11] rfl<|yQ<|nO<|ih out2 (W (i + 1)) _ N H h h5 h8 h1 h2 h3 h4 h16 hg ho hx hr
 intro hc N;exact wY<|wA (zW [1,2] rfl (by decide))<|yO<|hx _ _ _ _ _ (zB N).symm H h9
def oG (list:(List zH)) (s:zQ) (point:(List Int)):Option ((List Int)×Int×Bool):=do
 let y←sA ([]:List zJ) s.Value
 match←uX list point y ([]:List Int) 0 with
 | .ret r0=>pure r0
 | .done out1 =>
  let y2←nC list s.Write point
  if (decide (y2 < 0)) then
   pure (([]:List Int),0,false)
  else
   pure (out1,y2,true)
theorem zBJ:∀ list s point r,oG list s point=some r→∀ {I:Imm}{p c p1 c1 p2 c2 p3 c3 p4 c4 p5 c5},(S4 I p list c)→(S4 I p1 s.Write.Subs c1)→(S4 I p2 s.Value.Index.Coefs c2)→(S4 I p3 s.Value.Read.Subs c3)→(S4 I p4 s.Value.Kids c4)→(S4 I p5 point c5)→RT 165 [vS p list c,vA (cStmt s p1 c1 p2 c2 p3 c3 p4 c4),vS p5 point c5] I [] (zAH  r):=by
 intro list s point r N I p c p1 c1 p2 c2 p3 c3 p4 c4 p5 c5 h h1 h2 h3 h4 h5;unfold oG at N;refine yL Tryz.func165 fun B=>yF<|tX (cStmt s p1 c1 p2 c2 p3 c3 p4 c4) ?_;intro b hb;refine vG [] []<|xG<|tJ [] Int ?_;intro b1 hb1;have h6:RL I [] ([]:List Int):=rfl;refine yJ [] [9] rfl<|xG<|tJ [] zJ ?_;intro b2 hb2;have h7:RL I [] ([]:List zJ):=rfl;refine oD 3 [2] [(17,vA (cExpr s.Value p2 c2 p3 c3 p4 c4))]<|bE N fun y hy N=>sR (zEp ([]:List zJ) s.Value _ hy h7 h2 h3 h4) rfl ?_;rintro I0 hs2 v2 k2 le - ⟨p6,c6,cs,rfl,rfl,h8⟩ -;have ⟨h,h5,h6,h1,h2,h3⟩:=m6 le h h5 h6 h1 h2 h3;have h4:=h4.mono le;refine yJ [] [10] rfl<|zX<|yD [11] rfl<|wB<|qW [(0,vS p list c),(2,vS p5 point c5),(4,vP b 0),(9,vS (some ⟨b1,0,none⟩) ([]:List Int) 0),(10,vS p6 y c6),(11,vI 0)] ?_;obtain ⟨o0,ho0,hMl⟩:=zC N;refine zC6 list point y ([]:List Int) 0 o0 ho0 iR h h5 h8 h1 h2 h3 h4 h6 (fun _ _ _ h=>h) (fun _ _ h=>h) ?_ ?_
 · intro I03 out1 p8 c8 cs2 heq le3 h10;subst o0;have ⟨h,h5,h1⟩:=m3 le3 h h5 h1;refine zR<|xG<|oD 4 [1] [(39,vS p list c),(41,vA (cAccess s.Write p1 c1)),(42,vS p5 point c5)] ?_;obtain ⟨y2,hy4,N⟩:=zC hMl;refine jD (zB6 list s.Write point _ hy4 h h1 h5) ?_;intro I04 le4;have h10:=iM le4 h10;refine yJ [] [13] rfl<|zX<|yD [45] rfl<|zI<|yB N ?_ ?_
   · intro hc2 N;refine yF<|tJ [] Int ?_;intro b5 hb5;have h18:RL I04 [] ([]:List Int):=rfl;refine yJ [] [6,7,8] rfl<|xB<|zF<|xA 0 rfl ?_;intro I05 le5 hl01;have h19:=SL.of_frozen hl01 le5 h18;obtain rfl:=zB N;exact xC ⟨_,_,(.tmp rfl (.tmp rfl (.tmp rfl ResV.nil))),zP,⟨_,_,_,rfl,rfl,h19,rfl,rfl⟩⟩
   intro hc2 N;refine zS<|wW [6,7,8] rfl<|xB<|xA 0 rfl ?_;intro I06 le6 hl02;have h20:=SL.of_frozen hl02 le6 h10;obtain rfl:=zB N;exact xC ⟨_,_,(.tmp rfl (.tmp rfl (.tmp rfl ResV.nil))),zP,⟨_,_,_,rfl,rfl,h20,rfl,rfl⟩⟩
 intro r0 I9 hs9 m9 heq9 le9 hrs9;subst heq9;refine zU<|zF ?_;obtain rfl:=zB hMl;exact xC hrs9
def uY (p:(List Int)) (i:Int):Option (Out Unit (Bool)):=do
 if (decide (i < (p.length:Int))) then
  let x←idx p i
  let y←vM x 9999
  if (!y) then
   pure (.ret false)
  else
   uY p (W (i + 1))
 else
  pure (.done ())
 partial_fixpoint
theorem zC7 (p:(List Int)):∀ (i:Int) (o:Out Unit (Bool)),uY p i=some o→∀ {B}{I0 I:Imm}{Q p1 c},I0.le I→(S4 I p1 p c)→NG Q→NO Q→(∀ (I':Imm) ,o=(.done ())→I0.le I'→T 19 B Q (.exit 0) I' [] [(0,vS p1 p c)])→(∀ r I' hs' m',o=(.ret r)→I0.le I'→RS Tryz.prog Tryz.f166 B (zT  r) I' hs' m'→T 19 B Q .ret I' hs' m')→J Tryz.prog 19 B (nav (bodyOf Tryz.f166) [1,0,1,0]) Q I [] [(0,vS p1 p c),(3,vI i)]:=by
 refine uY.partial_correctness p _ fun self ih i o N B I0 I Q p1 c H h hg ho hx hr=>yR hg ho<|zZ<|yD [7] rfl<|zI<|yB N ?_ ?_
 · intro hc N;refine zS<|zX<|yG<|yF<|yH 2 [] [10,11] rfl<|bE N fun x hy N=>xS rfl rfl h hy ?_;intro ad ccs hat hrep;obtain rfl:=hrep;refine xL 0 hat [vI x] (vI x) rfl<|bE N fun y hy1 N=>uH (fP x 9999 _ hy1 ) ?_;intro I0 le;have ⟨h,H⟩:=m2 le h H;refine yJ [] [15] rfl<|zI<|yB N ?_ ?_
   · intro hc1 N;exact wV [(2,vF)]<|xB<|zU<|zF<|zF<|hr _ _ _ _ (zB N).symm H ⟨_,_,(.tmp rfl ResV.nil),zP,⟨_,rfl,rfl,rfl⟩⟩
   intro hc1 N;exact zS<|zO<|zI<|zL<|yJ [] [3] rfl<|yQ<|nO<|ih (W (i + 1)) _ N H h hg ho hx hr
 intro hc N;exact wY<|yO<|hx _  (zB N).symm H
def nK (p:(List Int)):Option (Bool):=do
 match←uY p 0 with
 | .ret r0=>pure r0
 | .done _ =>
  pure (decide ((p.length:Int) ≤ 4))
theorem zEq:∀ p r,nK p=some r→∀ {I:Imm}{p1 c},(S4 I p1 p c)→RT 166 [vS p1 p c] I [] (zT  r):=by
 intro p r N I p1 c h;unfold nK at N;refine yL Tryz.func166 fun B=>wV []<|zX<|yD [3] rfl<|wB<|qW [(0,vS p1 p c),(3,vI 0)] ?_;obtain ⟨o0,ho0,hMl⟩:=zC N;refine zC7 p 0 o0 ho0 iR h (fun _ _ _ h=>h) (fun _ _ h=>h) ?_ ?_
 · intro I01  heq le1;subst o0;refine zR<|wW [2] rfl<|zI<|yZ ?_;obtain rfl:=zB hMl;exact wL
 intro r0 I9 hs9 m9 heq9 le9 hrs9;subst heq9;refine zU<|zF ?_;obtain rfl:=zB hMl;exact xC hrs9
def mW (r:Int×Bool):KT:=fun kk I' hs' v=>
  ∃ v0 v1,hs'=[]∧v=tupV [v0,v1]∧v0=.int .i64 r.1∧v1=.bool r.2
def uQ (list:(List zH)) (part:zN) (y1:(List (List Int))) (i:Int) (k0:Int):Option (Out Unit (Int×Bool)):=do
 if (decide (k0 < (y1.length:Int))) then
  let x1←idx part.Body i
  let x2←idx y1 k0
  let (y5,y6,y7)←oG list x1 x2
  let t80←(do
    if (!y7) then
     pure true
    else
     let x3←idx y1 k0
     let y8←nK x3
     pure (!y8)
      : Option Bool)
  if t80 then
   pure (.ret (0,false))
  else
   uQ list part y1 i (W (k0 + 1))
 else
  pure (.done ())
 partial_fixpoint
theorem zDR (list:(List zH)) (part:zN) (y1:(List (List Int))) (i:Int):∀ (k0:Int) (o:Out Unit (Int×Bool)),uQ list part y1 i k0=some o→∀ {B}{I0 I:Imm}{Q p c p1 c1 p2 c2}{b:Nat}{p3 c3},I0.le I→(S4 I p list c)→(S4 I p3 y1 c3)→(S4 I p1 part.Nest c1)→(S4 I p2 part.Body c2)→NG Q→NO Q→(∀ (I':Imm) ,o=(.done ())→I0.le I'→T 87 B Q (.exit 2) I' [hB b (cPart part p1 c1 p2 c2)] [(0,vS p list c),(3,vP b 0),(6,vS p3 y1 c3),(8,vI i)])→(∀ r I' hs' m',o=(.ret r)→I0.le I'→RS Tryz.prog Tryz.f114 B (mW  r) I' hs' m'→T 87 B Q .ret I' hs' m')→J Tryz.prog 87 B (nav (bodyOf Tryz.f114) [1,1,1,0,1,0,0,1,0,0,1,1,0]) Q I [hB b (cPart part p1 c1 p2 c2)] [(0,vS p list c),(3,vP b 0),(6,vS p3 y1 c3),(8,vI i),(9,vI k0)]:=by
 refine uQ.partial_correctness list part y1 i _ fun self ih k0 o N B I0 I Q p c p1 c1 p2 c2 b p3 c3 H h h3 h1 h2 hg ho hx hr=>yR hg ho<|zZ<|yD [53] rfl<|zI<|yB N ?_ ?_
 · intro hc5 N;refine zS<|zX<|yG<|zZ ?_;obtain ⟨x1,hy3,N⟩:=zC N;obtain ⟨x2,hy4,N⟩:=zC N;obtain ⟨⟨y5,y6,y7⟩,hy5,N⟩:=zC N;refine wX [.p (vS p list c) [],.p (vP b 1) [],.p (vS p2 part.Body c2) [0],.p (vI i) [],.x (ePStmt x1),.x (eVStmt x1),.p (vS p3 y1 c3) [],.p (vI k0) [],.x (fun I' v hx=>∃ ad2 p12 c12,v=.pointer (some ad2)∧hx=[]∧(At I' ad2 [vS p12 x2 c12])∧(S4 I' p12 x2 c12)),.x (eS x2),.x (fun I' v hx=>∃ p13 c13,v=.tuple ⟨[vS p13 y5 c13,vI y6,.bool y7]⟩∧hx=[]∧(S4 I' p13 y5 c13)),.x (fun I' v hx=>∃ p131 c131,v=.tuple ⟨[vS p131 y5 c131,vI y6,.bool y7]⟩∧hx=[]∧(S4 I' p131 y5 c131)),.x (eS y5),.q (vI y6),.q (.bool y7),.x (eS y5),.p (vI y6) []] [[],[],[(1,false)],[],[(2,false),(3,false)],[(4,false)],[],[],[(6,false),(7,false)],[(8,false)],[(0,false),(5,false),(9,false)],[(10,false)],[(11,false)],[(11,false)],[(11,false)],[(12,false)],[(13,false)]] [hB b (cPart part p1 c1 p2 c2)] [] [(14,false)] (zY [0]) ?_ ?_
   · refine Op<|Op<|Op<|Op<|Ox ?_<|Ox ?_<|Op<|Op<|Ox ?_<|Ox ?_<|Ox ?_<|Ox ?_<|Ox ?_<|Oq ?_<|Oq ?_<|Ox ?_<|Op<|On
     · intro I1 hf le1;refine yS [59,60] rfl ?_;have h2:=h2.mono le1;refine xS rfl rfl h2 hy3 ?_;intro ad1 ccs1 hat1 hrep1;obtain ⟨p8,c8,p9,c9,p10,c10,p11,c11,rfl,h10,h11,h12,h13⟩:=qC hrep1;exact yK [] iR ⟨_,_,_,_,_,_,_,_,_,rfl,rfl,hat1,h10,h11,h12,h13⟩
     · rintro I1 hf le1 _ _ ⟨ad1,p8,c8,p9,c9,p10,c10,p11,c11,rfl,rfl,hat1,h10,h11,h12,h13⟩;exact yS [61] rfl<|xL 0 hat1 (cStmt x1 p8 c8 p9 c9 p10 c10 p11 c11) (vA (cStmt x1 p8 c8 p9 c9 p10 c10 p11 c11)) rfl<|yK [] iR ⟨_,_,_,_,_,_,_,_,rfl,rfl,h10,h11,h12,h13⟩
     · intro I1 hf le1;refine yS [63,64] rfl ?_;have h3:=h3.mono le1;refine xS rfl rfl h3 hy4 ?_;intro ad2 ccs2 hat2 hrep2;obtain ⟨v011,rfl,h14⟩:=hrep2;obtain ⟨p12,c12,rfl⟩:=h14.form;exact yK [] iR ⟨_,_,_,rfl,rfl,hat2,h14⟩
     · rintro I1 hf le1 _ _ ⟨ad2,p12,c12,rfl,rfl,hat2,h14⟩;exact yS [65] rfl<|xL 0 hat2 [vS p12 x2 c12] (vS p12 x2 c12) rfl<|yK [] iR ⟨_,_,rfl,rfl,h14⟩
     · rintro I1 hf le1 _ _ ⟨rfl,rfl⟩ _ _ ⟨p81,c81,p91,c91,p101,c101,p111,c111,rfl,rfl,h101,h111,h121,h131⟩ _ _ ⟨p121,c121,rfl,rfl,h141⟩;refine yS [57,62,66] rfl ?_;have H:=iS I1;have h:=h.mono le1;refine xV (zBJ list x1 x2 _ hy5 h h101 h111 h121 h131 h141) ?_;rintro I04 hs2 v2 k2 le4 - ⟨v012,v013,v014,rfl,rfl,h15,rfl,rfl⟩ -;have H:=H.trans le4;obtain ⟨p13,c13,rfl⟩:=h15.form;exact yK [] H ⟨_,_,rfl,rfl,h15⟩
     · rintro I1 hf le1 _ _ ⟨p13,c13,rfl,rfl,h15⟩;exact yS [67] rfl<|oH 12 [(56,.tuple ⟨[vS p13 y5 c13,vI y6,.bool y7]⟩)]<|yK [] iR ⟨_,_,rfl,rfl,h15⟩
     · rintro I1 hf le1 _ _ ⟨p131,c131,rfl,rfl,h151⟩;exact yS [56] rfl<|oH 13 [(68,vS p131 y5 c131)]<|yK [] iR ⟨_,_,rfl,rfl,h151⟩
     · rintro I1 hf le1 _ _ ⟨p131,c131,rfl,rfl,h151⟩;exact yS [56] rfl<|oH 14 [(69,vI y6)]<|xF iR
     · rintro I1 hf le1 _ _ ⟨p131,c131,rfl,rfl,h151⟩;exact yS [56] rfl<|oH 15 [(70,.bool y7)]<|xF iR
     rintro I1 hf le1 _ _ ⟨p1311,c1311,rfl,rfl,h1511⟩;exact yS [68] rfl<|oH 16 [(10,vS p1311 y5 c1311)]<|yK [] iR ⟨_,_,rfl,rfl,h1511⟩
   intro I05 le5;refine yS [0,3,6,8,9,70] rfl ?_;have ⟨h,h3,h1,h2,H⟩:=m5 le5 h h3 h1 h2 H;refine yJ [] [12] rfl<|zI<|zZ ?_;refine wP N [hB b (cPart part p1 c1 p2 c2)] (fun t80=>[(0,vS p list c),(3,vP b 0),(6,vS p3 y1 c3),(8,vI i),(9,vI k0),(80,.bool t80)]) (fun o01 ho01=>?_) ?_
   · have H:=iS I05;refine zL<|yH 3 [] [73] rfl<|xZ [73] ho01 ?_ ?_
     · intro hc6 N;exact vG [] [(80,vY)]<|yO<|zV (ct N H)
     intro hc6 N;refine yH 5 [] [74,75] rfl<|bE N fun x3 hy6 N=>xS rfl rfl h3 hy6 ?_;intro ad3 ccs3 hat3 hrep3;obtain ⟨v015,rfl,h18⟩:=hrep3;obtain ⟨p14,c14,rfl⟩:=h18.form;refine xL 0 hat3 [vS p14 x3 c14] (vS p14 x3 c14) rfl<|bE N fun y8 hy7 N=>uH (zEq x3 _ hy7 h18) ?_;intro I07 le6;have H:=H.trans le6;exact yJ [] [80] rfl<|yO<|zV (ct N H)
   intro t80 I06 le7 hMc1;have ⟨h,h3,h1,h2,H⟩:=m5 le7 h h3 h1 h2 H;refine zI<|yB hMc1 ?_ ?_
   · intro hc7 N;exact yD [4,5] rfl<|xB<|zU<|zF<|zF<|hr _ _ _ _ (zB N).symm H ⟨_,_,(.tmp rfl (.tmp rfl ResV.nil)),zP,⟨_,_,rfl,rfl,rfl,rfl⟩⟩
   intro hc7 N;exact zS<|zO<|zI<|zL<|yJ [] [9] rfl<|yQ<|nO<|ih (W (k0 + 1)) _ N H h h3 h1 h2 hg ho hx hr
 intro hc5 N;exact wY<|yO<|hx _  (zB N).symm H
def uR (list:(List zH)) (part:zN) (y1:(List (List Int))) (i:Int):Option (Out Unit (Int×Bool)):=do
 if (decide (i < (part.Body.length:Int))) then
  let x←idx part.Body i
  let y3←sL x (part.Nest.length:Int)
  if (!y3) then
   pure (.ret (0,false))
  else
   match←uQ list part y1 i 0 with
   | .ret r0=>pure (.ret r0)
   | .done _ =>
    uR list part y1 (W (i + 1))
 else
  pure (.done ())
 partial_fixpoint
theorem zDS (list:(List zH)) (part:zN) (y1:(List (List Int))):∀ (i:Int) (o:Out Unit (Int×Bool)),uR list part y1 i=some o→∀ {B}{I0 I:Imm}{Q p c p1 c1 p2 c2}{b:Nat}{p3 c3},I0.le I→(S4 I p list c)→(S4 I p3 y1 c3)→(S4 I p1 part.Nest c1)→(S4 I p2 part.Body c2)→NG Q→NO Q→(∀ (I':Imm) ,o=(.done ())→I0.le I'→T 87 B Q (.exit 0) I' [hB b (cPart part p1 c1 p2 c2)] [(3,vP b 0),(6,vS p3 y1 c3)])→(∀ r I' hs' m',o=(.ret r)→I0.le I'→RS Tryz.prog Tryz.f114 B (mW  r) I' hs' m'→T 87 B Q .ret I' hs' m')→J Tryz.prog 87 B (nav (bodyOf Tryz.f114) [1,1,1,0,1,0]) Q I [hB b (cPart part p1 c1 p2 c2)] [(0,vS p list c),(3,vP b 0),(6,vS p3 y1 c3),(8,vI i)]:=by
 refine uR.partial_correctness list part y1 _ fun self ih i o N B I0 I Q p c p1 c1 p2 c2 b p3 c3 H h h3 h1 h2 hg ho hx hr=>yR hg ho<|zZ<|yF<|yJ [0] [37] rfl<|zI<|yB N ?_ ?_
 · intro hc3 N;refine zS<|zX<|yG<|zZ<|zZ ?_;obtain ⟨x,hy1,N⟩:=zC N;obtain ⟨y3,hy2,N⟩:=zC N;refine wX [.p (vP b 1) [],.p (vS p2 part.Body c2) [0],.p (vI i) [],.x (ePStmt x),.x (eVStmt x),.p (vP b 0) [],.p (vS p1 part.Nest c1) [0],.p (vI (part.Nest.length:Int)) [],.q (.bool y3),.p (.bool (!y3)) []] [[],[(0,false)],[],[(1,false),(2,false)],[(3,false)],[],[(5,false)],[(6,false)],[(4,false),(7,false)],[(8,false)]] [hB b (cPart part p1 c1 p2 c2)] [] [(9,false)] (zY [0]) ?_ ?_
   · refine Op<|Op<|Op<|Ox ?_<|Ox ?_<|Op<|Op<|Op<|Oq ?_<|Op<|On
     · intro I1 hf le1;refine yS [41,42] rfl ?_;have h2:=h2.mono le1;refine xS rfl rfl h2 hy1 ?_;intro ad ccs hat hrep;obtain ⟨p4,c4,p5,c5,p6,c6,p7,c7,rfl,h5,h6,h7,h8⟩:=qC hrep;exact yK [] iR ⟨_,_,_,_,_,_,_,_,_,rfl,rfl,hat,h5,h6,h7,h8⟩
     · rintro I1 hf le1 _ _ ⟨ad,p4,c4,p5,c5,p6,c6,p7,c7,rfl,rfl,hat,h5,h6,h7,h8⟩;exact yS [43] rfl<|xL 0 hat (cStmt x p4 c4 p5 c5 p6 c6 p7 c7) (vA (cStmt x p4 c4 p5 c5 p6 c6 p7 c7)) rfl<|yK [] iR ⟨_,_,_,_,_,_,_,_,rfl,rfl,h5,h6,h7,h8⟩
     rintro I1 hf le1 _ _ ⟨p41,c41,p51,c51,p61,c61,p71,c71,rfl,rfl,h51,h61,h71,h81⟩;refine yS [44,47] rfl ?_;have H:=iS I1;refine uH (gY x (part.Nest.length:Int) _ hy2 h51 h61 h71 h81) ?_;intro I02 le2;have H:=H.trans le2;exact xF H
   intro I03 le3;refine yS [0,3,6,8,49] rfl ?_;have ⟨h,h3,h1,h2,H⟩:=m5 le3 h h3 h1 h2 H;refine yE rfl<|zI<|yB N ?_ ?_
   · intro hc4 N;exact yD [4,5] rfl<|xB<|zF<|zU<|zF<|zF<|hr _ _ _ _ (zB N).symm H ⟨_,_,(.tmp rfl (.tmp rfl ResV.nil)),zP,⟨_,_,rfl,rfl,rfl,rfl⟩⟩
   intro hc4 N;refine zS<|wW [9] rfl<|wB<|qW [(0,vS p list c),(3,vP b 0),(6,vS p3 y1 c3),(8,vI i),(9,vI 0)] ?_;obtain ⟨o02,ho02,hMl⟩:=zC N;refine zDR list part y1 i 0 o02 ho02 iR h h3 h1 h2 (fun _ _ _ h=>hg _ _ _ h) (fun _ _ h=>ho _ _ h) ?_ ?_
   · intro I08  heq2 le8;subst o02;have ⟨h,h3,h1,h2,H⟩:=m5 le8 h h3 h1 h2 H;exact zR<|zO<|zI<|zL<|yJ [] [8] rfl<|yQ<|nO<|ih (W (i + 1)) _ hMl H h h3 h1 h2 hg ho hx hr
   intro r0 I9 hs9 m9 heq9 le9 hrs9;subst heq9;exact zU<|zU<|zF<|zF<|hr _ _ _ _ (zB hMl).symm (H.trans le9) hrs9
 intro hc3 N;exact wY<|yO<|hx _  (zB N).symm H
def pZ (list:(List zH)) (part:zN):Option (Int×Bool):=do
 let (y1,y2)←qG part.Nest
 let t32←(do
   if (!y2) then
    pure true
   else
    if (decide ((part.Body.length:Int) < 1)) then
     pure true
    else
     pure (decide ((part.Body.length:Int) > 4))
     : Option Bool)
 if t32 then
  pure (0,false)
 else
  match←uR list part y1 0 with
  | .ret r0=>pure r0
  | .done _ =>
   pure ((W ((y1.length:Int) * (part.Body.length:Int))),true)
theorem dI:∀ list part r,pZ list part=some r→∀ {I:Imm}{p c p1 c1 p2 c2},(S4 I p list c)→(S4 I p1 part.Nest c1)→(S4 I p2 part.Body c2)→RT 114 [vS p list c,vA (cPart part p1 c1 p2 c2)] I [] (mW  r):=by
 intro list part r N I p c p1 c1 p2 c2 h h1 h2;unfold pZ at N;refine yL Tryz.func114 fun B=>?_;have H:=iS I;refine yF<|tX (cPart part p1 c1 p2 c2) ?_;intro b hb;refine vG [] []<|xG<|yH 2 [0] [15] rfl ?_;obtain ⟨⟨y1,y2⟩,hy,N⟩:=zC N;refine xV (zC5 part.Nest _ hy h1) ?_;rintro I0 hs2 v2 k2 le - ⟨v0,v01,rfl,rfl,h3,rfl⟩ -;have ⟨h,h1,h2,H⟩:=m4 le h h1 h2 H;obtain ⟨p3,c3,rfl⟩:=h3.form;refine yJ [] [6,7] rfl<|zX<|zZ ?_;refine wP N [hB b (cPart part p1 c1 p2 c2)] (fun t32=>[(0,vS p list c),(3,vP b 0),(6,vS p3 y1 c3),(32,.bool t32)]) (fun o0 ho0=>?_) ?_
 · have H:=iS I0;refine zL<|yH 3 [] [21] rfl<|xZ [21] ho0 ?_ ?_
   · intro hc N;exact vG [] [(32,vY)]<|yO<|zV (ct N H)
   intro hc N;refine yH 9 [0] [27] rfl<|xZ [27] N ?_ ?_
   · intro hc1 N;exact vG [] [(32,vY)]<|yO<|zV (ct N H)
   intro hc1 N;exact yJ [0] [32] rfl<|yO<|zV (ct N H)
 intro t32 I01 le1 hMc;have ⟨h,h3,h1,h2⟩:=m4 le1 h h3 h1 h2;refine zI<|yB hMc ?_ ?_
 · intro hc2 N;refine yD [4,5] rfl<|xB<|zF ?_;obtain rfl:=zB N;exact xC ⟨_,_,(.tmp rfl (.tmp rfl ResV.nil)),zP,⟨_,_,rfl,rfl,rfl,rfl⟩⟩
 intro hc2 N;refine zS<|zX<|yD [8] rfl<|wB<|qW [(0,vS p list c),(3,vP b 0),(6,vS p3 y1 c3),(8,vI 0)] ?_;obtain ⟨o03,ho03,hMl1⟩:=zC N;refine zDS list part y1 0 o03 ho03 iR h h3 h1 h2 (fun _ _ _ h=>h) (fun _ _ h=>h) ?_ ?_
 · intro I09  heq3 le9;subst o03;refine zR<|xG<|yJ [0] [4,5] rfl<|zI<|yZ ?_;obtain rfl:=zB hMl1;exact xC ⟨_,_,(.tmp rfl (.tmp rfl ResV.nil)),zP,⟨_,_,rfl,rfl,rfl,rfl⟩⟩
 intro r0 I9 hs9 m9 heq9 le9 hrs9;subst heq9;refine zU<|zF ?_;obtain rfl:=zB hMl1;exact xC hrs9
def wD (p:zE) (total:Int) (i:Int):Option (Out Int (Bool)):=do
 if (decide (i < (p.Parts.length:Int))) then
  let x←idx p.Parts i
  let (y2,y3)←pZ p.Arrays x
  if (!y3) then
   pure (.ret false)
  else
   wD p (W (total + y2)) (W (i + 1))
 else
  pure (.done total)
 partial_fixpoint
theorem zA4 (p:zE):∀ (total:Int) (i:Int) (o:Out Int (Bool)),wD p total i=some o→∀ {B}{I0 I:Imm}{Q p1 c p2 c1}{b:Nat},I0.le I→(S4 I p1 p.Arrays c)→(S4 I p2 p.Parts c1)→NG Q→NO Q→(∀ (I':Imm) (total1:Int),o=(.done total1)→I0.le I'→T 42 B Q (.exit 0) I' [] [(3,vI total1)])→(∀ r I' hs' m',o=(.ret r)→I0.le I'→RS Tryz.prog Tryz.f54 B (zT  r) I' hs' m'→T 42 B Q .ret I' hs' m')→J Tryz.prog 42 B (nav (bodyOf Tryz.f54) [1,1,1,0,1,0]) Q I [hB b (cProg p p1 c p2 c1)] [(1,vP b 0),(3,vI total),(4,vI i)]:=by
 refine wD.partial_correctness p _ fun self ih total i o N B I0 I Q p1 c p2 c1 b H h h1 hg ho hx hr=>yR hg ho<|zZ<|yF<|yJ [0] [21] rfl<|zI<|yB N ?_ ?_
 · intro hc2 N;refine zS<|zX<|yG<|zZ ?_;obtain ⟨x,hy1,N⟩:=zC N;obtain ⟨⟨y2,y3⟩,hy2,N⟩:=zC N;refine wX [.p (vP b 0) [],.p (vS p1 p.Arrays c) [0],.p (vP b 1) [],.p (vS p2 p.Parts c1) [0],.p (vI i) [],.x (ePPart x),.x (eVPart x),.q (.tuple ⟨[vI y2,.bool y3]⟩),.p (.tuple ⟨[vI y2,.bool y3]⟩) [],.p (vI y2) [],.p (.bool y3) [],.p (vI y2) []] [[],[(0,false)],[],[(2,false)],[],[(3,false),(4,false)],[(5,false)],[(1,false),(6,false)],[(7,false)],[(8,false)],[(8,false)],[(9,false)]] [hB b (cProg p p1 c p2 c1)] [] [(10,false),(11,false)] (zY [0]) ?_ ?_
   · refine Op<|Op<|Op<|Op<|Op<|Ox ?_<|Ox ?_<|Oq ?_<|Op<|Op<|Op<|Op<|On
     · intro I1 hf le1;refine yS [28,29] rfl ?_;have h1:=h1.mono le1;refine xS rfl rfl h1 hy1 ?_;intro ad ccs hat hrep;obtain ⟨p3,c2,p4,c3,rfl,h3,h4⟩:=tD hrep;exact yK [] iR ⟨_,_,_,_,_,rfl,rfl,hat,h3,h4⟩
     · rintro I1 hf le1 _ _ ⟨ad,p3,c2,p4,c3,rfl,rfl,hat,h3,h4⟩;exact yS [30] rfl<|xL 0 hat (cPart x p3 c2 p4 c3) (vA (cPart x p3 c2 p4 c3)) rfl<|yK [] iR ⟨_,_,_,_,rfl,rfl,h3,h4⟩
     rintro I1 hf le1 _ _ ⟨rfl,rfl⟩ _ _ ⟨p31,c21,p41,c31,rfl,rfl,h31,h41⟩;refine yS [26,31] rfl ?_;have H:=iS I1;have h:=h.mono le1;refine xV (dI p.Arrays x _ hy2 h h31 h41) ?_;rintro I02 hs2 v2 k2 le2 - ⟨v03,v04,rfl,rfl,rfl,rfl⟩ -;have H:=H.trans le2;exact xF H
   intro I03 le3;refine yS [1,3,4,5,34] rfl ?_;have ⟨h,h1,H⟩:=m3 le3 h h1 H;refine yJ [] [6] rfl<|zX<|yD [36] rfl<|zI<|yB N ?_ ?_
   · intro hc3 N;exact wV [(2,vF)]<|xB<|zF<|zU<|zF<|zF<|hr _ _ _ _ (zB N).symm H ⟨_,_,(.tmp rfl ResV.nil),zP,⟨_,rfl,rfl,rfl⟩⟩
   intro hc3 N;exact zS<|zI<|zL<|yJ [] [3] rfl<|zO<|zI<|zL<|yJ [] [4] rfl<|yQ<|nO<|ih (W (total + y2)) (W (i + 1)) _ N H h h1 hg ho hx hr
 intro hc2 N;exact wY<|wA zP<|yO<|hx _ _ (zB N).symm H
def tP (p:zE):Option (Bool):=do
 let t16←(do
   let y←oM p.Arrays
   if (!y) then
    pure true
   else
    pure (decide ((p.Parts.length:Int) > 4))
     : Option Bool)
 if t16 then
  pure false
 else
  match←wD p 0 0 with
  | .ret r0=>pure r0
  | .done total1 =>
   pure (decide (total1 ≤ 120))
theorem fY:∀ p r,tP p=some r→∀ {I:Imm}{p1 c p2 c1},(S4 I p1 p.Arrays c)→(S4 I p2 p.Parts c1)→RT 54 [vA (cProg p p1 c p2 c1)] I [] (zT  r):=by
 intro p r N I p1 c p2 c1 h h1;unfold tP at N;refine yL Tryz.func54 fun B=>?_;have H:=iS I;refine yF<|tX (cProg p p1 c p2 c1) ?_;intro b hb;refine vG [] []<|zX<|zZ ?_;refine wP N [hB b (cProg p p1 c p2 c1)] (fun t16=>[(1,vP b 0),(16,.bool t16)]) (fun o0 ho0=>?_) ?_
 · have H:=iS I;refine zL<|yH 2 [0] [8] rfl ?_;obtain ⟨y,hy,N⟩:=zC ho0;refine uH (zEE p.Arrays _ hy h) ?_;intro I01 le;have H:=H.trans le;refine yH 5 [] [11] rfl<|xZ [11] N ?_ ?_
   · intro hc N;exact vG [] [(16,vY)]<|yO<|zV (ct N H)
   intro hc N;exact yJ [0] [16] rfl<|yO<|zV (ct N H)
 intro t16 I0 le1 hMc;have ⟨h,h1⟩:=m2 le1 h h1;refine zI<|yB hMc ?_ ?_
 · intro hc1 N;refine wV [(2,vF)]<|xB<|zF ?_;obtain rfl:=zB N;exact wL
 intro hc1 N;refine zS<|wW [3] rfl<|zX<|yD [4] rfl<|wB<|qW [(1,vP b 0),(3,vI 0),(4,vI 0)] ?_;obtain ⟨o01,ho01,hMl⟩:=zC N;refine zA4 p 0 0 o01 ho01 iR h h1 (fun _ _ _ h=>h) (fun _ _ h=>h) ?_ ?_
 · intro I04 total1 heq1 le4;subst o01;refine zR<|wW [2] rfl<|zI<|yZ ?_;obtain rfl:=zB hMl;exact wL
 intro r0 I9 hs9 m9 heq9 le9 hrs9;subst heq9;refine zU<|zF ?_;obtain rfl:=zB hMl;exact xC hrs9
def zEI (r:(List zH)):KT:=fun kk I' hs' v=>
  ∃ v0,hs'=[]∧v=tupV [v0]∧SL I' v0 r
def mL :Option ((List zH)):=do
 pure ([(zH.mk (⟨[65]⟩:Str) ([6]:List Int)),(zH.mk (⟨[66]⟩:Str) ([4,5]:List Int)),(zH.mk (⟨[67]⟩:Str) ([3]:List Int))]:List zH)
theorem gZ:∀ r,mL =some r→∀ {I:Imm} ,RT 130 [] I [] (zEI  r):=by
 intro  r N I;unfold mL at N;refine yL Tryz.func130 fun B=>wV []<|xG<|tJ [vI 6] Int ?_;intro b hb;have h:RL I [vI 6] ([6]:List Int):=rI [6];refine yH 2 [] [2] rfl<|tJ [vI 4,vI 5] Int ?_;intro b1 hb1;have h1:RL I [vI 4,vI 5] ([4,5]:List Int):=rI [4,5];refine yH 4 [] [4] rfl<|tJ [vI 3] Int ?_;intro b2 hb2;have h2:RL I [vI 3] ([3]:List Int):=rI [3];refine yH 6 [] [6] rfl<|xM 2 rfl ?_;intro I0 le hl0;have h3:=SL.of_frozen hl0 le h;have ⟨h1,h2⟩:=m2 le h1 h2;refine xM 1 rfl ?_;intro I01 le1 hl01;have h4:=SL.of_frozen hl01 le1 h1;have ⟨h3,h2⟩:=m2 le1 h3 h2;refine xM 0 rfl ?_;intro I02 le2 hl02;have h5:=SL.of_frozen hl02 le2 h2;have ⟨h3,h4⟩:=m2 le2 h3 h4;refine tJ [vT ([65]),vS (some ⟨b,0,none⟩) ([6]:List Int) 1,vT ([66]),vS (some ⟨b1,0,none⟩) ([4,5]:List Int) 2,vT ([67]),vS (some ⟨b2,0,none⟩) ([3]:List Int) 1] zH ?_;intro b3 hb3;have h6:RL I02 [vT ([65]),vS (some ⟨b,0,none⟩) ([6]:List Int) 1,vT ([66]),vS (some ⟨b1,0,none⟩) ([4,5]:List Int) 2,vT ([67]),vS (some ⟨b2,0,none⟩) ([3]:List Int) 1] ([(zH.mk (⟨[65]⟩:Str) ([6]:List Int)),(zH.mk (⟨[66]⟩:Str) ([4,5]:List Int)),(zH.mk (⟨[67]⟩:Str) ([3]:List Int))]:List zH):=⟨[vT ([65]),vS (some ⟨b,0,none⟩) ([6]:List Int) 1],_,rfl,rfl,(nS ⟨_,rfl,h3⟩),⟨[vT ([66]),vS (some ⟨b1,0,none⟩) ([4,5]:List Int) 2],_,rfl,rfl,(nS ⟨_,rfl,h4⟩),⟨[vT ([67]),vS (some ⟨b2,0,none⟩) ([3]:List Int) 1],_,rfl,rfl,(nS ⟨_,rfl,h5⟩),rfl⟩⟩⟩;refine yJ [] [0] rfl<|xB<|xA 0 rfl ?_;intro I03 le3 hl03;have h7:=SL.of_frozen hl03 le3 h6;obtain rfl:=zB N;exact xC ⟨_,_,(.tmp rfl ResV.nil),zP,⟨_,rfl,rfl,h7⟩⟩
def sS (a0:zA) (x:Int) (b:zA) (y:Int) (i:Int) (Coefs:List Int):Option (List Int):=do
 if (decide (i < 4)) then
  let x1←idx a0.Coefs i
  let x2←idx b.Coefs i
  let l←app 8 Coefs ([(W ((W (x * x1)) + (W (y * x2))))]:List Int)
  sS a0 x b y (W (i + 1)) l
 else
  pure (id Coefs)
 partial_fixpoint
theorem zB7 (a0:zA) (x:Int) (b:zA) (y:Int):∀ (i:Int) (Coefs:List Int) (o:List Int),sS a0 x b y i Coefs=some o→∀ {B}{I0 I:Imm}{Q p c p1 c1}{b1:Nat}{b2:Nat}{b3:Nat}{b4:Nat}{p2 c2 cs},I0.le I→(S4 I p1 b.Coefs c1)→(S4 I p a0.Coefs c)→(RL I cs Coefs)→NG Q→NO Q→(∀ (I':Imm) (Coefs1:List Int) (p3:Option Addr) (c3:Nat) (cs1:List Value),o=Coefs1→I0.le I'→(RL I' cs1 Coefs1)→T 46 B Q (.exit 0) I' [hO Int (vS p3 Coefs1 c3) cs1,hB b4 [vS p3 Coefs1 c3,vI (W ((W (x * a0.Const)) + (W (y * b.Const))))],hB b3 [z0,vI 0]] [(8,vP b3 0),(9,vP b4 0)])→J Tryz.prog 46 B (nav (bodyOf Tryz.f250) [1,1,0,1,0]) Q I [hO Int (vS p2 Coefs c2) cs,hB b4 [vS p2 Coefs c2,vI (W ((W (x * a0.Const)) + (W (y * b.Const))))],hB b3 [z0,vI 0],hB b2 (cAff b p1 c1),hB b1 (cAff a0 p c)] [(1,vI x),(3,vI y),(4,vP b1 0),(6,vP b2 0),(8,vP b3 0),(9,vP b4 0),(10,vI i)]:=by
 refine sS.partial_correctness a0 x b y _ fun self ih i Coefs o N B I0 I Q p c p1 c1 b1 b2 b3 b4 p2 c2 cs H h1 h h3 hg ho hx=>yR hg ho<|zZ<|yD [22] rfl<|zI<|yB N ?_ ?_
 · intro hc N;refine zS<|zX<|yG ?_;obtain ⟨x1,hy,N⟩:=zC N;obtain ⟨x2,hy1,N⟩:=zC N;obtain ⟨l,hy2,N⟩:=zC N;refine wX [.p (vP b4 0) [],.p (vS p2 Coefs c2) [0],.p (vI x) [],.p (vP b1 0) [],.p (vS p a0.Coefs c) [3],.p (vI i) [],.x (fun I' v hx=>∃ ad,v=.pointer (some ad)∧hx=[]∧(At I' ad [vI x1])),.q (vI x1),.p (vI (W (x * x1))) [],.p (vI y) [],.p (vP b2 0) [],.p (vS p1 b.Coefs c1) [2],.p (vI i) [],.x (fun I' v hx=>∃ ad1,v=.pointer (some ad1)∧hx=[]∧(At I' ad1 [vI x2])),.q (vI x2),.p (vI (W (y * x2))) [],.p (vI (W ((W (x * x1)) + (W (y * x2))))) [],.x (fun I' v hx=>∃ b5,v=vS (some ⟨b5,0,none⟩) ([(W ((W (x * x1)) + (W (y * x2))))]:List Int) 1∧hx=[]∧(SL I' (vS (some ⟨b5,0,none⟩) ([(W ((W (x * x1)) + (W (y * x2))))]:List Int) 1) ([(W ((W (x * x1)) + (W (y * x2))))]:List Int))),.x (fun I' v hx=>∃ p4 c4 cs2,v=vS p4 l c4∧hx=[hO Int (vS p4 l c4) cs2]∧(RL I' cs2 l))] [[],[(0,false)],[],[],[(3,false)],[],[(4,false),(5,false)],[(6,false)],[(2,false),(7,false)],[],[],[(10,false)],[],[(11,false),(12,false)],[(13,false)],[(9,false),(14,false)],[(8,false),(15,false)],[(16,false)],[(1,false),(17,false),(21,true)]] [hB b4 [vS p2 Coefs c2,vI (W ((W (x * a0.Const)) + (W (y * b.Const))))],hB b3 [z0,vI 0],hB b2 (cAff b p1 c1),hB b1 (cAff a0 p c)] [[hO Int (vS p2 Coefs c2) cs]] [(18,true)] (zY [1,2,3,4,0]) ?_ ?_
   · refine Op<|Op<|Op<|Op<|Op<|Op<|Ox ?_<|Oq ?_<|Op<|Op<|Op<|Op<|Op<|Ox ?_<|Oq ?_<|Op<|Op<|Ox ?_<|Ox ?_<|On
     · intro I1 hf le1;refine yS [29,30] rfl ?_;have h:=h.mono le1;refine xS rfl rfl h hy ?_;intro ad ccs hat hrep;obtain rfl:=hrep;exact yK [] iR ⟨_,rfl,rfl,hat⟩
     · rintro I1 hf le1 _ _ ⟨ad,rfl,rfl,hat⟩;exact yS [31] rfl<|xL 0 hat [vI x1] (vI x1) rfl<|xF iR
     · intro I1 hf le1;refine yS [36,37] rfl ?_;have h1:=h1.mono le1;refine xS rfl rfl h1 hy1 ?_;intro ad1 ccs1 hat1 hrep1;obtain rfl:=hrep1;exact yK [] iR ⟨_,rfl,rfl,hat1⟩
     · rintro I1 hf le1 _ _ ⟨ad1,rfl,rfl,hat1⟩;exact yS [38] rfl<|xL 0 hat1 [vI x2] (vI x2) rfl<|xF iR
     · intro I1 hf le1;refine yS [41] rfl ?_;have H:=iS I1;refine nE (rI [(W ((W (x * x1)) + (W (y * x2))))]) ?_;intro b5 I0 le h6;have H:=H.trans le;exact yK [] H ⟨_,rfl,rfl,h6⟩
     rintro I1 hf le1 _ _ ⟨rfl,rfl⟩ _ _ ⟨b5,rfl,rfl,h6⟩ _ _ rfl;refine yS [26,42] rfl ?_;have h3:=iM le1 h3;obtain ⟨ccs2,k0,k01⟩:=h6;have h6:SL I1 (vS (some ⟨b5,0,none⟩) ([(W ((W (x * x1)) + (W (y * x2))))]:List Int) 1) ([(W ((W (x * x1)) + (W (y * x2))))]:List Int):=⟨_,k0,k01⟩;exact qB 3 1 0 rfl rfl rfl h3 (.inl k0) k01 hy2 fun p4 c4 cs2 h7=>uG (hs':=(hO Int (vS p4 l c4) cs2::hB b4 [vS p2 Coefs c2,vI (W ((W (x * a0.Const)) + (W (y * b.Const))))]::hB b3 [z0,vI 0]::hB b2 (cAff b p1 c1)::hB b1 (cAff a0 p c)::hf)) rfl<|yK [hO Int (vS p4 l c4) cs2] iR ⟨_,_,_,rfl,rfl,h7⟩
   rintro I01 le1 _ _ ⟨p4,c4,cs2,rfl,rfl,h7⟩;refine yS [1,3,4,6,8,9,10,43] rfl ?_;have ⟨h1,h,H⟩:=m3 le1 h1 h H;exact yH 20 [] [44] rfl<|xQ 1 [vS p4 l c4,vI (W ((W (x * a0.Const)) + (W (y * b.Const))))] rfl<|yE rfl<|zO<|zI<|zL<|yJ [] [10] rfl<|yQ<|nO<|ih (W (i + 1)) l _ N H h1 h h7 hg ho hx
 intro hc N;exact wY<|wA (zW [0,1,2] rfl (by decide))<|yO<|hx _ _ _ _ _ (zB N).symm H h3
def nF (a0:zA) (x:Int) (b:zA) (y:Int):Option (zA):=do
 let Coefs1←sS a0 x b y 0 ([]:List Int)
 pure (zA.mk Coefs1 (W ((W (x * a0.Const)) + (W (y * b.Const)))))
theorem zAI:∀ a0 x b y r,nF a0 x b y=some r→∀ {I:Imm}{p c p1 c1},(S4 I p a0.Coefs c)→(S4 I p1 b.Coefs c1)→RT 250 [vA (cAff a0 p c),vI x,vA (cAff b p1 c1),vI y] I [] (kL  r):=by
 intro a0 x b y r N I p c p1 c1 h h1;unfold nF at N;refine yL Tryz.func250 fun B=>yF<|tX (cAff a0 p c) ?_;intro b1 hb;refine tX (cAff b p1 c1) ?_;intro b2 hb1;refine uF [z0,vI 0] ?_;intro b3 hb2;refine yE rfl<|xG<|oD 10 [2,1] [(20,vA [z0,vI (W ((W (x * a0.Const)) + (W (y * b.Const))))])]<|uF [z0,vI 0] ?_;intro b4 hb3;refine xQ 0 [z0,vI (W ((W (x * a0.Const)) + (W (y * b.Const))))] rfl<|yE rfl<|zX<|yD [10] rfl<|wB<|qW [(1,vI x),(3,vI y),(4,vP b1 0),(6,vP b2 0),(8,vP b3 0),(9,vP b4 0),(10,vI 0)]<|eV Int fun h2=>?_;obtain ⟨o0,ho0,hMl⟩:=zC N;refine zB7 a0 x b y 0 ([]:List Int) o0 ho0 iR h1 h h2 (fun _ _ _ h=>h) (fun _ _ h=>h) ?_;intro I02 Coefs1 p3 c3 cs1 heq le2 h4;subst o0;refine zR<|xG<|oD 1 [1] [(45,vA [vS p3 Coefs1 c3,vI (W ((W (x * a0.Const)) + (W (y * b.Const))))])]<|xQ 2 [vS p3 Coefs1 c3,vI (W ((W (x * a0.Const)) + (W (y * b.Const))))] rfl<|yE rfl<|xB<|xA 0 rfl ?_;intro I03 le3 hl01;have h8:=SL.of_frozen hl01 le3 h4;obtain rfl:=zB hMl;exact xC ⟨_,_,(.cell 1 rfl rfl (by kernel_rfl) ResV.nil),zP,⟨_,rfl,rfl,⟨_,rfl,(yM ⟨_,rfl,h8⟩)⟩⟩⟩
def zEJ (b0:Nat) (r:zD×zM):KT:=fun kk I' hs' v=>
  ∃ v0 k0,hs'=[.blk b0 ⟨k0⟩]∧v=tupV [v0]∧(∃ cs,v0=.agg ⟨cs⟩∧Rp.rep I' cs r.1)∧Rp.rep I' k0 r.2
def gA (r0:zM) (depth:Int):Option (zD×zM):=do
 let (y1,y2)←yU r0 ([0,0,1,0,(-1)]:List Int)
 let y3←wM y1
 let (y5,y6)←yU y2 ([3,4,2,3,1]:List Int)
 let y7←wM y5
 let (t23,x)←(do
   if (decide (depth > 0)) then
    let (y9,y10)←yW y6 4
    pure ((y9 == 0),y10)
   else
    pure (false,y6)
     : Option (Bool×zM))
 let (x1,x2,x3)←(do
   if t23 then
    let (y12,y13)←yW x depth
    let (y15,y16)←yW y13 2
    let (x4,x5)←(do
      if (y15 == 0) then
       let y17←oY y12
       pure (y17,(zA.mk y7.Coefs y7.Const))
      else
       let y18←oY y12
       let y19←wM 1
       let y20←nF y18 1 y19 1
       pure ((zA.mk y3.Coefs y3.Const),y20)
        : Option (zA×zA))
    pure (x4,x5,y16)
   else
    pure ((zA.mk y3.Coefs y3.Const),(zA.mk y7.Coefs y7.Const),x)
     : Option (zA×zA×zM))
 let (y22,y23)←yW x3 12
 let (Lo,Hi,x6)←(do
   if (y22 == 0) then
    let (y25,y26)←yU y23 ([3,2,4]:List Int)
    let y27←wM y25
    let l←app 32 ([x2]:List zA) ([y27]:List zA)
    pure (([x1]:List zA),l,y26)
   else
    let (Lo1,x7)←(do
      if (y22 == 1) then
       let (y29,y30)←yU y23 ([0,1]:List Int)
       let y31←wM y29
       let l1←app 32 ([x1]:List zA) ([y31]:List zA)
       pure (l1,y30)
      else
       pure (([x1]:List zA),y23)
        : Option (List zA×zM))
    pure (Lo1,([x2]:List zA),x7)
     : Option (List zA×List zA×zM))
 pure ((zD.mk Lo Hi),x6)
theorem zFf:∀ r0 depth r,gA r0 depth=some r→∀ {I:Imm}{r01:Nat}{p c},(S4 I p r0.b c)→RT 216 [vP r01 0,vI depth] I [hB r01 (cRd r0 p c)] (zEJ r01 r):=by
 intro r0 depth r N I r01 p c h;unfold gA at N;refine yL Tryz.func216 fun B=>?_;have H:=iS I;refine yF<|uF zTwo ?_;intro b hb;refine yE rfl<|xG<|yH 1 [] [9] rfl<|nE (rI [0,0,1,0,(-1)]) ?_;intro b1 I0 le h2;have ⟨h,H⟩:=m2 le h H;refine rW (zY [1,0] (hs':=[hB r01 (cRd r0 p c),hB b zTwo])) ?_;obtain ⟨⟨y1,y2⟩,hy,N⟩:=zC N;refine sR (xD r0 ([0,0,1,0,(-1)]:List Int) _ hy h h2) rfl ?_;rintro I01 hs2 v2 k2 le1 - ⟨v0,kk,rfl,rfl,rfl,h4⟩ -;have H:=H.trans le1;obtain ⟨p1,c1,rfl,h5⟩:=yA h4;obtain ⟨y3,hy1,N⟩:=zC N;refine xV (uK y1 _ hy1 ) ?_;rintro I02 hs2 v2 k2 le2 - ⟨p2,c2,cs,rfl,rfl,h6⟩ -;have ⟨h5,H⟩:=m2 le2 h5 H;refine uF [z0,vI 0] ?_;intro b2 hb2;refine xQ 0 (cAff y3 p2 c2) rfl<|yE rfl<|xG<|yH 1 [] [13] rfl<|nE (rI [3,4,2,3,1]) ?_;intro b3 I03 le3 h8;have ⟨h6,h5,H⟩:=m3 le3 h6 h5 H;refine rW (zY [2,0,1,3] (hs':=[hB r01 (cRd y2 p1 c1),hB b2 (cAff y3 p2 c2),hO Int (vS p2 y3.Coefs c2) cs,hB b zTwo])) ?_;obtain ⟨⟨y5,y6⟩,hy2,N⟩:=zC N;refine sR (xD y2 ([3,4,2,3,1]:List Int) _ hy2 h5 h8) rfl ?_;rintro I04 hs2 v2 k2 le4 - ⟨v02,kk1,rfl,rfl,rfl,h10⟩ -;have ⟨h6,H⟩:=m2 le4 h6 H;obtain ⟨p3,c3,rfl,h11⟩:=yA h10;obtain ⟨y7,hy3,N⟩:=zC N;refine xV (uK y5 _ hy3 ) ?_;rintro I05 hs2 v2 k2 le5 - ⟨p4,c4,cs1,rfl,rfl,h12⟩ -;have ⟨h11,h6,H⟩:=m3 le5 h11 h6 H;refine uF [z0,vI 0] ?_;intro b4 hb4;refine xQ 0 (cAff y7 p4 c4) rfl<|yE rfl<|zX<|zZ ?_;obtain ⟨o0,ho0,hMc⟩:=zC N;refine oC (fun I' hs' m'=>∃ (t23:Bool) (x:zM) (p5:Option Addr) (c5:Nat),o0=(t23,x)∧I05.le I'∧(S4 I' p5 x.b c5)∧hs'=[hB b4 (cAff y7 p4 c4),hO Int (vS p4 y7.Coefs c4) cs1,hB r01 (cRd x p5 c5),hB b2 (cAff y3 p2 c2),hO Int (vS p2 y3.Coefs c2) cs,hB b zTwo]∧m'=[(0,vP r01 0),(1,vI depth),(4,vP b 0),(5,vP b2 0),(6,vP b4 0),(23,.bool t23)]) ?_ ?_
 · have H:=iS I05;refine zL<|yH 3 [] [19] rfl<|xZ [19] ho0 ?_ ?_
   · intro hc N;refine yH 4 [] [20] rfl<|rW (zY [2,0,1,3,4,5] (hs':=[hB r01 (cRd y6 p3 c3),hB b4 (cAff y7 p4 c4),hO Int (vS p4 y7.Coefs c4) cs1,hB b2 (cAff y3 p2 c2),hO Int (vS p2 y3.Coefs c2) cs,hB b zTwo])) ?_;obtain ⟨⟨y9,y10⟩,hy4,N⟩:=zC N;refine sR (xT y6 4 _ hy4 h11) rfl ?_;rintro I07 hs2 v2 k2 le6 - ⟨v04,kk2,rfl,rfl,rfl,h15⟩ -;have H:=H.trans le6;obtain ⟨p6,c6,rfl,h16⟩:=yA h15;exact yJ [] [23] rfl<|wA (zW [1,2,0,3,4,5] rfl (by decide))<|yO<|zV ⟨_,_,_,_,(zB N).symm,H,h16,rfl,rfl⟩
   intro hc N;exact vG [] [(23,vF)]<|yO<|zV ⟨_,_,_,_,(zB N).symm,H,h11,rfl,rfl⟩
 rintro I06 hs2 m2 ⟨t23,x,p5,c5,heq,le7,h13,rfl,rfl⟩;subst o0;have ⟨h12,h6,H⟩:=m3 le7 h12 h6 H;refine zI<|oT 4 rfl ?_;intro I08 le8 hl02;have h17:=SL.of_frozen hl02 le8 h6;have ⟨h12,h13,H⟩:=m3 le8 h12 h13 H;refine oT 1 rfl ?_;intro I09 le9 hl03;have h18:=SL.of_frozen hl03 le9 h12;have ⟨h13,h17,H⟩:=m3 le9 h13 h17 H;obtain ⟨o01,ho01,hMc1⟩:=zC hMc;refine oC (fun I' hs' m'=>∃ (x1:zA) (x2:zA) (x3:zM) (p7:Option Addr) (c7:Nat) (p8:Option Addr) (c8:Nat) (p9:Option Addr) (c9:Nat),o01=(x1,x2,x3)∧I09.le I'∧(S4 I' p7 x1.Coefs c7)∧(S4 I' p8 x2.Coefs c8)∧(S4 I' p9 x3.b c9)∧hs'=[hB b4 (cAff x2 p8 c8),hB r01 (cRd x3 p9 c9),hB b2 (cAff x1 p7 c7),hB b zTwo]∧m'=[(0,vP r01 0),(4,vP b 0),(5,vP b2 0),(6,vP b4 0)]) ?_ ?_
 · have H:=iS I09;refine yB ho01 ?_ ?_
   · intro hc1 N;refine yF<|yH 2 [] [24,25] rfl<|rW (zY [1,0,2,3] (hs':=[hB r01 (cRd x p5 c5),hB b4 (cAff y7 p4 c4),hB b2 (cAff y3 p2 c2),hB b zTwo])) ?_;obtain ⟨⟨y12,y13⟩,hy5,N⟩:=zC N;refine sR (xT x depth _ hy5 h13) rfl ?_;rintro I011 hs2 v2 k2 le10 - ⟨v06,kk3,rfl,rfl,rfl,h23⟩ -;have ⟨h18,h17,H⟩:=m3 le10 h18 h17 H;obtain ⟨p10,c10,rfl,h24⟩:=yA h23;refine yJ [] [7] rfl<|xG<|yH 1 [] [27] rfl ?_;obtain ⟨⟨y15,y16⟩,hy6,N⟩:=zC N;refine sR (xT y13 2 _ hy6 h24) rfl ?_;rintro I012 hs2 v2 k2 le11 - ⟨v08,kk4,rfl,rfl,rfl,h26⟩ -;have ⟨h18,h17,H⟩:=m3 le11 h18 h17 H;obtain ⟨p11,c11,rfl,h27⟩:=yA h26;refine yJ [] [29] rfl<|zI ?_;obtain ⟨o02,ho02,hMc2⟩:=zC N;refine oC (fun I' hs' m'=>∃ (x4:zA) (x5:zA) (p12:Option Addr) (c12:Nat) (p13:Option Addr) (c13:Nat),o02=(x4,x5)∧I012.le I'∧(S4 I' p12 x4.Coefs c12)∧(S4 I' p13 x5.Coefs c13)∧hs'=[hB r01 (cRd y16 p11 c11),hB b4 (cAff x5 p13 c13),hB b2 (cAff x4 p12 c12),hB b zTwo]∧m'=[(0,vP r01 0),(4,vP b 0),(5,vP b2 0),(6,vP b4 0)]) ?_ ?_
     · have H:=iS I012;refine yB ho02 ?_ ?_
       · intro hc2 N;refine zL<|yH 1 [] [30] rfl<|bE N fun y17 hy7 N=>xV (jZ y12 _ hy7 ) ?_;rintro I014 hs2 v2 k2 le12 - ⟨v010,rfl,rfl,⟨cs2,rfl,h30⟩⟩ -;have ⟨h18,H⟩:=m2 le12 h18 H;obtain ⟨p14,c14,rfl,h31⟩:=yN h30;exact xQ 2 (cAff y17 p14 c14) rfl<|yE rfl<|yO<|zV ⟨_,_,_,_,_,_,(zB N).symm,H,h31,h18,rfl,rfl⟩
       intro hc2 N;refine zL<|yH 1 [] [32] rfl<|bE N fun y18 hy8 N=>xV (jZ y12 _ hy8 ) ?_;rintro I015 hs2 v2 k2 le13 - ⟨v012,rfl,rfl,⟨cs3,rfl,h32⟩⟩ -;have ⟨h17,H⟩:=m2 le13 h17 H;obtain ⟨p15,c15,rfl,h33⟩:=yN h32;obtain ⟨y19,hy9,N⟩:=zC N;refine xV (uK 1 _ hy9 ) ?_;rintro I016 hs2 v2 k2 le14 - ⟨p16,c16,cs4,rfl,rfl,h34⟩ -;have ⟨h33,h17,H⟩:=m3 le14 h33 h17 H;refine xM 0 rfl ?_;intro I017 le15 hl04;have h35:=SL.of_frozen hl04 le15 h34;have ⟨h33,h17,H⟩:=m3 le15 h33 h17 H;obtain ⟨y20,hy10,N⟩:=zC N;refine xV (zAI y18 1 y19 1 _ hy10 h33 h35) ?_;rintro I018 hs2 v2 k2 le16 - ⟨v014,rfl,rfl,⟨cs5,rfl,h36⟩⟩ -;have ⟨h17,H⟩:=m2 le16 h17 H;obtain ⟨p17,c17,rfl,h37⟩:=yN h36;exact xQ 1 (cAff y20 p17 c17) rfl<|yE rfl<|yO<|zV ⟨_,_,_,_,_,_,(zB N).symm,H,h17,h37,rfl,rfl⟩
     rintro I013 hs2 m2 ⟨x4,x5,p12,c12,p13,c13,heq1,le17,h28,h29,rfl,rfl⟩;subst o02;have ⟨h27,H⟩:=m2 le17 h27 H;exact wA (zW [1,0,2,3] rfl (by decide))<|yO<|zV ⟨_,_,_,_,_,_,_,_,_,(zB hMc2).symm,H,h28,h29,h27,rfl,rfl⟩
   intro hc1 N;exact zS<|yO<|zV ⟨_,_,_,_,_,_,_,_,_,(zB N).symm,H,h17,h18,h13,rfl,rfl⟩
 rintro I010 hs2 m2 ⟨x1,x2,x3,p7,c7,p8,c8,p9,c9,heq2,le18,h19,h20,h21,rfl,rfl⟩;subst o01;have H:=H.trans le18;refine xG<|oD 1 [2] [(36,vA (cAff x1 p7 c7))]<|tJ (cAff x1 p7 c7) zA ?_;intro b5 hb5;have h38:RL I010 (cAff x1 p7 c7) ([x1]:List zA):=⟨(cAff x1 p7 c7),_,rfl,rfl,(yM ⟨_,rfl,h19⟩),rfl⟩;refine oD 3 [1] [(38,vA (cAff x2 p8 c8))]<|tJ (cAff x2 p8 c8) zA ?_;intro b6 hb6;have h39:RL I010 (cAff x2 p8 c8) ([x2]:List zA):=⟨(cAff x2 p8 c8),_,rfl,rfl,(yM ⟨_,rfl,h20⟩),rfl⟩;refine yH 5 [] [40] rfl<|uF zTwo ?_;intro b7 hb7;refine xQ 0 [vS (some ⟨b5,0,none⟩) ([x1]:List zA) 1,vS (some ⟨b6,0,none⟩) ([x2]:List zA) 1] rfl<|yE rfl<|zX<|yF<|yH 1 [] [41] rfl<|rW (zY [4,0,1,2,3,5,6] (hs':=[hB r01 (cRd x3 p9 c9),hB b7 [vS (some ⟨b5,0,none⟩) ([x1]:List zA) 1,vS (some ⟨b6,0,none⟩) ([x2]:List zA) 1],hO zA (vS (some ⟨b6,0,none⟩) ([x2]:List zA) 1) (cAff x2 p8 c8),hO zA (vS (some ⟨b5,0,none⟩) ([x1]:List zA) 1) (cAff x1 p7 c7),hB b4 (cAff x2 p8 c8),hB b2 (cAff x1 p7 c7),hB b zTwo])) ?_;obtain ⟨⟨y22,y23⟩,hy11,N⟩:=zC hMc1;refine sR (xT x3 12 _ hy11 h21) rfl ?_;rintro I019 hs2 v2 k2 le19 - ⟨v016,kk5,rfl,rfl,rfl,h41⟩ -;have ⟨h38,h39,H⟩:=m3 le19 h38 h39 H;obtain ⟨p18,c18,rfl,h42⟩:=yA h41;refine yE rfl<|wB<|yD [43] rfl<|zI<|oT 4 rfl ?_;intro I020 le20 hl05;have hat:At I020 ⟨b4,0,none⟩ (cAff x2 p8 c8):=At.of_blk hl05;have ⟨h42,h38,h39,H⟩:=m4 le20 h42 h38 h39 H;refine oT 4 rfl ?_;intro I021 le21 hl06;have hat1:At I021 ⟨b2,0,none⟩ (cAff x1 p7 c7):=At.of_blk hl06;have ⟨h42,h38,h39,H⟩:=m4 le21 h42 h38 h39 H;obtain ⟨o03,ho03,hMc3⟩:=zC N;refine oC (fun I' hs' m'=>∃ (Lo:List zA) (Hi:List zA) (x6:zM) (p19:Option Addr) (c19:Nat) (cs6:List Value) (p20:Option Addr) (c20:Nat) (cs7:List Value) (p21:Option Addr) (c21:Nat),o03=(Lo,Hi,x6)∧I021.le I'∧(RL I' cs6 Lo)∧(RL I' cs7 Hi)∧(S4 I' p21 x6.b c21)∧hs'=[hB r01 (cRd x6 p21 c21),hB b7 [vS p19 Lo c19,vS p20 Hi c20],hO zA (vS p20 Hi c20) cs7,hO zA (vS p19 Lo c19) cs6,hB b zTwo]∧m'=[(4,vP b 0),(8,vP b7 0)]) ?_ ?_
 · have H:=iS I021;refine yB ho03 ?_ ?_
   · intro hc3 N;obtain ⟨⟨y25,y26⟩,hy12,N⟩:=zC N;obtain ⟨y27,hy13,N⟩:=zC N;obtain ⟨l,hy14,N⟩:=zC N;refine wX [.p (vP b7 1) [],.p (vS (some ⟨b6,0,none⟩) ([x2]:List zA) 1) [0],.p (vP r01 0) [],.x (fun I' v hx=>∃ b8,v=vS (some ⟨b8,0,none⟩) ([3,2,4]:List Int) 3∧hx=[]∧(SL I' (vS (some ⟨b8,0,none⟩) ([3,2,4]:List Int) 3) ([3,2,4]:List Int))),.x (fun I' v hx=>∃ p22 c22,v=vI y25∧hx=[hB r01 (cRd y26 p22 c22)]∧(S4 I' p22 y26.b c22)),.x (fun I' v hx=>∃ p23 c23 cs8,v=vA (cAff y27 p23 c23)∧hx=[hO Int (vS p23 y27.Coefs c23) cs8]∧(RL I' cs8 y27.Coefs)),.x (fun I' v hx=>∃ b9,v=vS (some ⟨b9,0,none⟩) ([y27]:List zA) 1∧hx=[]∧(SL I' (vS (some ⟨b9,0,none⟩) ([y27]:List zA) 1) ([y27]:List zA))),.x (fun I' v hx=>∃ p24 c24 cs9,v=vS p24 l c24∧hx=[hO zA (vS p24 l c24) cs9]∧(RL I' cs9 l))] [[],[(0,false)],[],[],[(2,false),(3,false),(10,true)],[(4,false)],[(5,true)],[(1,false),(6,false),(11,true)]] [hB b7 [vS (some ⟨b5,0,none⟩) ([x1]:List zA) 1,vS (some ⟨b6,0,none⟩) ([x2]:List zA) 1],hO zA (vS (some ⟨b5,0,none⟩) ([x1]:List zA) 1) (cAff x1 p7 c7),hB b zTwo] [[hB r01 (cRd y23 p18 c18)],[hO zA (vS (some ⟨b6,0,none⟩) ([x2]:List zA) 1) (cAff x2 p8 c8)]] [(4,true),(7,true)] (zY [1,3,4,0,2]) ?_ ?_
     · refine Op<|Op<|Op<|Ox ?_<|Ox ?_<|Ox ?_<|Ox ?_<|Ox ?_<|On
       · intro I1 hf le1;refine eU [] ?_;have H:=iS I1;refine nE (rI [3,2,4]) ?_;intro b8 I023 le22 h47;have H:=H.trans le22;exact yK [] H ⟨_,rfl,rfl,h47⟩
       · rintro I1 hf le1 _ _ ⟨rfl,rfl⟩ _ _ ⟨b8,rfl,rfl,h47⟩ _ _ rfl;refine yS [47,48] rfl ?_;have H:=iS I1;have h42:=h42.mono le1;refine sR (xD y23 ([3,2,4]:List Int) _ hy12 h42 h47) rfl ?_;rintro I024 hs2 v2 k2 le23 - ⟨v018,kk6,rfl,rfl,rfl,h49⟩ -;have H:=H.trans le23;obtain ⟨p22,c22,rfl,h50⟩:=yA h49;exact yK [hB r01 (cRd y26 p22 c22)] H ⟨_,_,rfl,rfl,h50⟩
       · rintro I1 hf le1 _ _ ⟨p22,c22,rfl,rfl,h50⟩;refine yS [49] rfl ?_;have H:=iS I1;refine xV (uK y25 _ hy13 ) ?_;rintro I025 hs2 v2 k2 le24 - ⟨p23,c23,cs8,rfl,rfl,h51⟩ -;have H:=H.trans le24;exact yK [hO Int (vS p23 y27.Coefs c23) cs8] H ⟨_,_,_,rfl,rfl,h51⟩
       · rintro I1 hf le1 _ _ ⟨p23,c23,cs8,rfl,rfl,h51⟩;refine yS [50] rfl ?_;have H:=iS I1;refine xM 0 rfl ?_;intro I026 le25 hl08;have h52:=SL.of_frozen hl08 le25 h51;have H:=H.trans le25;refine nE (rc y27 (yM ⟨_,rfl,h52⟩) rN) ?_;intro b9 I027 le26 h54;have H:=H.trans le26;exact yK [] H ⟨_,rfl,rfl,h54⟩
       rintro I1 hf le1 _ _ ⟨rfl,rfl⟩ _ _ ⟨b9,rfl,rfl,h54⟩ _ _ rfl;refine yS [46,51] rfl ?_;have h39:=iM le1 h39;obtain ⟨ccs,k0,k01⟩:=h54;have h54:SL I1 (vS (some ⟨b9,0,none⟩) ([y27]:List zA) 1) ([y27]:List zA):=⟨_,k0,k01⟩;exact qB 38 2 0 rfl rfl rfl h39 (.inl k0) k01 hy14 fun p24 c24 cs9 h55=>uG (hs':=(hO zA (vS p24 l c24) cs9::hB b7 [vS (some ⟨b5,0,none⟩) ([x1]:List zA) 1,vS (some ⟨b6,0,none⟩) ([x2]:List zA) 1]::hO zA (vS (some ⟨b5,0,none⟩) ([x1]:List zA) 1) (cAff x1 p7 c7)::hB b zTwo::hf)) rfl<|yK [hO zA (vS p24 l c24) cs9] iR ⟨_,_,_,rfl,rfl,h55⟩
     rintro I028 le27 _ _ ⟨p22,c22,rfl,rfl,h50⟩ _ _ ⟨p24,c24,cs9,rfl,rfl,h55⟩;refine yS [4,8,52] rfl ?_;have ⟨h38,H⟩:=m2 le27 h38 H;exact yH 9 [] [53] rfl<|xQ 2 [vS (some ⟨b5,0,none⟩) ([x1]:List zA) 1,vS p24 l c24] rfl<|yE rfl<|wA (zW [1,2,0,3,4] rfl (by decide))<|yO<|zV ⟨_,_,_,_,_,_,_,_,_,_,_,(zB N).symm,H,h38,h55,h50,rfl,rfl⟩
   intro hc3 N;refine yD [54] rfl<|zI ?_;obtain ⟨o04,ho04,hMc4⟩:=zC N;refine oC (fun I' hs' m'=>∃ (Lo1:List zA) (x7:zM) (p25:Option Addr) (c25:Nat) (cs10:List Value) (p26:Option Addr) (c26:Nat),o04=(Lo1,x7)∧I021.le I'∧(RL I' cs10 Lo1)∧(S4 I' p26 x7.b c26)∧hs'=[hB r01 (cRd x7 p26 c26),hB b7 [vS p25 Lo1 c25,vS (some ⟨b6,0,none⟩) ([x2]:List zA) 1],hO zA (vS (some ⟨b6,0,none⟩) ([x2]:List zA) 1) (cAff x2 p8 c8),hO zA (vS p25 Lo1 c25) cs10,hB b zTwo]∧m'=[(4,vP b 0),(8,vP b7 0)]) ?_ ?_
   · have H:=iS I021;refine yB ho04 ?_ ?_
     · intro hc4 N;obtain ⟨⟨y29,y30⟩,hy15,N⟩:=zC N;obtain ⟨y31,hy16,N⟩:=zC N;obtain ⟨l1,hy17,N⟩:=zC N;refine wX [.p (vP b7 0) [],.p (vS (some ⟨b5,0,none⟩) ([x1]:List zA) 1) [0],.p (vP r01 0) [],.x (fun I' v hx=>∃ b10,v=vS (some ⟨b10,0,none⟩) ([0,1]:List Int) 2∧hx=[]∧(SL I' (vS (some ⟨b10,0,none⟩) ([0,1]:List Int) 2) ([0,1]:List Int))),.x (fun I' v hx=>∃ p27 c27,v=vI y29∧hx=[hB r01 (cRd y30 p27 c27)]∧(S4 I' p27 y30.b c27)),.x (fun I' v hx=>∃ p28 c28 cs11,v=vA (cAff y31 p28 c28)∧hx=[hO Int (vS p28 y31.Coefs c28) cs11]∧(RL I' cs11 y31.Coefs)),.x (fun I' v hx=>∃ b11,v=vS (some ⟨b11,0,none⟩) ([y31]:List zA) 1∧hx=[]∧(SL I' (vS (some ⟨b11,0,none⟩) ([y31]:List zA) 1) ([y31]:List zA))),.x (fun I' v hx=>∃ p29 c29 cs12,v=vS p29 l1 c29∧hx=[hO zA (vS p29 l1 c29) cs12]∧(RL I' cs12 l1))] [[],[(0,false)],[],[],[(2,false),(3,false),(10,true)],[(4,false)],[(5,true)],[(1,false),(6,false),(11,true)]] [hB b7 [vS (some ⟨b5,0,none⟩) ([x1]:List zA) 1,vS (some ⟨b6,0,none⟩) ([x2]:List zA) 1],hO zA (vS (some ⟨b6,0,none⟩) ([x2]:List zA) 1) (cAff x2 p8 c8),hB b zTwo] [[hB r01 (cRd y23 p18 c18)],[hO zA (vS (some ⟨b5,0,none⟩) ([x1]:List zA) 1) (cAff x1 p7 c7)]] [(4,true),(7,true)] (zY [1,2,4,0,3]) ?_ ?_
       · refine Op<|Op<|Op<|Ox ?_<|Ox ?_<|Ox ?_<|Ox ?_<|Ox ?_<|On
         · intro I1 hf le1;refine eU [] ?_;have H:=iS I1;refine nE (rI [0,1]) ?_;intro b10 I030 le28 h59;have H:=H.trans le28;exact yK [] H ⟨_,rfl,rfl,h59⟩
         · rintro I1 hf le1 _ _ ⟨rfl,rfl⟩ _ _ ⟨b10,rfl,rfl,h59⟩ _ _ rfl;refine yS [58,59] rfl ?_;have H:=iS I1;have h42:=h42.mono le1;refine sR (xD y23 ([0,1]:List Int) _ hy15 h42 h59) rfl ?_;rintro I031 hs2 v2 k2 le29 - ⟨v020,kk7,rfl,rfl,rfl,h61⟩ -;have H:=H.trans le29;obtain ⟨p27,c27,rfl,h62⟩:=yA h61;exact yK [hB r01 (cRd y30 p27 c27)] H ⟨_,_,rfl,rfl,h62⟩
         · rintro I1 hf le1 _ _ ⟨p27,c27,rfl,rfl,h62⟩;refine yS [60] rfl ?_;have H:=iS I1;refine xV (uK y29 _ hy16 ) ?_;rintro I032 hs2 v2 k2 le30 - ⟨p28,c28,cs11,rfl,rfl,h63⟩ -;have H:=H.trans le30;exact yK [hO Int (vS p28 y31.Coefs c28) cs11] H ⟨_,_,_,rfl,rfl,h63⟩
         · rintro I1 hf le1 _ _ ⟨p28,c28,cs11,rfl,rfl,h63⟩;refine yS [61] rfl ?_;have H:=iS I1;refine xM 0 rfl ?_;intro I033 le31 hl011;have h64:=SL.of_frozen hl011 le31 h63;have H:=H.trans le31;refine nE (rc y31 (yM ⟨_,rfl,h64⟩) rN) ?_;intro b11 I034 le32 h66;have H:=H.trans le32;exact yK [] H ⟨_,rfl,rfl,h66⟩
         rintro I1 hf le1 _ _ ⟨rfl,rfl⟩ _ _ ⟨b11,rfl,rfl,h66⟩ _ _ rfl;refine yS [57,62] rfl ?_;have h38:=iM le1 h38;obtain ⟨ccs1,k02,k03⟩:=h66;have h66:SL I1 (vS (some ⟨b11,0,none⟩) ([y31]:List zA) 1) ([y31]:List zA):=⟨_,k02,k03⟩;exact qB 38 2 0 rfl rfl rfl h38 (.inl k02) k03 hy17 fun p29 c29 cs12 h67=>uG (hs':=(hO zA (vS p29 l1 c29) cs12::hB b7 [vS (some ⟨b5,0,none⟩) ([x1]:List zA) 1,vS (some ⟨b6,0,none⟩) ([x2]:List zA) 1]::hO zA (vS (some ⟨b6,0,none⟩) ([x2]:List zA) 1) (cAff x2 p8 c8)::hB b zTwo::hf)) rfl<|yK [hO zA (vS p29 l1 c29) cs12] iR ⟨_,_,_,rfl,rfl,h67⟩
       rintro I035 le33 _ _ ⟨p27,c27,rfl,rfl,h62⟩ _ _ ⟨p29,c29,cs12,rfl,rfl,h67⟩;refine yS [4,8,63] rfl ?_;have H:=H.trans le33;exact yH 9 [] [64] rfl<|xQ 2 [vS p29 l1 c29,vS (some ⟨b6,0,none⟩) ([x2]:List zA) 1] rfl<|yE rfl<|wA (zW [1,2,3,0,4] rfl (by decide))<|yO<|zV ⟨_,_,_,_,_,_,_,(zB N).symm,H,h67,h62,rfl,rfl⟩
     intro hc4 N;exact zS<|yO<|zV ⟨_,_,_,_,_,_,_,(zB N).symm,H,h38,h42,rfl,rfl⟩
   rintro I029 hs2 m2 ⟨Lo1,x7,p25,c25,cs10,p26,c26,heq3,le34,h56,h57,rfl,rfl⟩;subst o04;have ⟨h39,H⟩:=m2 le34 h39 H;exact yO<|zV ⟨_,_,_,_,_,_,_,_,_,_,_,(zB hMc4).symm,H,h56,h39,h57,rfl,rfl⟩
 rintro I022 hs2 m2 ⟨Lo,Hi,x6,p19,c19,cs6,p20,c20,cs7,p21,c21,heq4,le35,h43,h44,h45,rfl,rfl⟩;subst o03;refine zO<|xG<|oD 1 [1] [(65,vA [vS p19 Lo c19,vS p20 Hi c20])]<|xQ 4 [vS p19 Lo c19,vS p20 Hi c20] rfl<|yE rfl<|xB<|xA 3 rfl ?_;intro I036 le36 hl013;have h68:=SL.of_frozen hl013 le36 h43;have ⟨h45,h44⟩:=m2 le36 h45 h44;refine xA 2 rfl ?_;intro I037 le37 hl014;have h69:=SL.of_frozen hl014 le37 h44;have ⟨h45,h68⟩:=m2 le37 h45 h68;obtain rfl:=zB hMc3;exact xC ⟨_,_,(.cell 2 rfl rfl (by kernel_rfl) ResV.nil),(zW [0] rfl (by decide)),⟨_,_,rfl,rfl,⟨_,rfl,(nI ⟨_,_,rfl,h68,h69⟩)⟩,(yT ⟨_,rfl,h45⟩)⟩⟩
def zEK (b0:Nat) (r:(List zD)×zM):KT:=fun kk I' hs' v=>
  ∃ v0 k0,hs'=[.blk b0 ⟨k0⟩]∧v=tupV [v0]∧SL I' v0 r.1∧Rp.rep I' k0 r.2
def pD (out:List zD) (i:Int) (x:zM):Option ((List zD×zM)):=do
 if (decide (i > 0)) then
  let (y4,y5)←gA x (out.length:Int)
  let out2←app 48 out ([y4]:List zD)
  pD out2 (W (i - 1)) y5
 else
  pure (out,x)
 partial_fixpoint
theorem zDT :∀ (out:List zD) (i:Int) (x:zM) (o:(List zD×zM)),pD out i x=some o→∀ {B}{I0 I:Imm}{Q}  {r01:Nat}{p2 c2 cs p3 c3},I0.le I→(RL I cs out)→(S4 I p3 x.b c3)→NG Q→NO Q→(∀ (I':Imm) (out1:List zD) (x1:zM) (p4:Option Addr) (c4:Nat) (cs1:List Value) (p5:Option Addr) (c5:Nat),o=(out1,x1)→I0.le I'→(RL I' cs1 out1)→(S4 I' p5 x1.b c5)→T 21 B Q (.exit 0) I' [hB r01 (cRd x1 p5 c5),hO zD (vS p4 out1 c4) cs1] [(3,vS p4 out1 c4)])→J Tryz.prog 21 B (nav (bodyOf Tryz.f176) [1,1,0,1,0]) Q I [hB r01 (cRd x p3 c3),hO zD (vS p2 out c2) cs] [(0,vP r01 0),(3,vS p2 out c2),(4,vI i)]:=by
 refine pD.partial_correctness  _ fun self ih out i x o N B I0 I Q r01 p2 c2 cs p3 c3 H h7 h8 hg ho hx=>yR hg ho<|zZ<|yD [10] rfl<|zI<|yB N ?_ ?_
 · intro hc N;refine zS<|zX<|yG<|zL<|yH 4 [] [13,14,16] rfl ?_;obtain ⟨⟨y4,y5⟩,hy1,N⟩:=zC N;refine sR (zFf x (out.length:Int) _ hy1 h8) rfl ?_;rintro I02 hs2 v2 k2 le2 - ⟨v02,kk1,rfl,rfl,⟨cs2,rfl,h11⟩,h12⟩ -;have ⟨h7,H⟩:=m2 le2 h7 H;obtain ⟨p6,c6,p7,c7,rfl,h13,h14⟩:=rH h11;obtain ⟨p8,c8,rfl,h15⟩:=yA h12;refine tJ (cLoop y4 p6 c6 p7 c7) zD ?_;intro b2 hb2;have h16:RL I02 (cLoop y4 p6 c6 p7 c7) ([y4]:List zD):=⟨(cLoop y4 p6 c6 p7 c7),_,rfl,rfl,(nI ⟨_,_,rfl,h13,h14⟩),rfl⟩;obtain ⟨out2,hy2,N⟩:=zC N;exact qB 170 2 2 rfl rfl rfl h7 (.inr ⟨0,rfl⟩) h16 hy2 fun p9 c9 cs3 h17=>rW (zY [1,2] (hs':=[hB r01 (cRd y5 p8 c8),hO zD (vS p9 out2 c9) cs3]))<|yJ [] [3] rfl<|zO<|zI<|zL<|yJ [] [4] rfl<|yQ<|nO<|ih out2 (W (i - 1)) y5 _ N H h17 h15 hg ho hx
 intro hc N;exact wY<|yO<|hx _ _ _ _ _ _ _ _ (zB N).symm H h7 h8
def gB (r0:zM):Option ((List zD)×zM):=do
 let (y1,y2)←yU r0 ([2,1,2,3]:List Int)
 let (out1,x1)←pD ([]:List zD) y1 y2
 pure (out1,x1)
theorem zFg:∀ r0 r,gB r0=some r→∀ {I:Imm}{r01:Nat}{p c},(S4 I p r0.b c)→RT 176 [vP r01 0] I [hB r01 (cRd r0 p c)] (zEK r01 r):=by
 intro r0 r N I r01 p c h;unfold gB at N;refine yL Tryz.func176 fun B=>wV []<|xG<|tJ [] zD ?_;intro b hb;have h1:RL I [] ([]:List zD):=rfl;refine yJ [] [3] rfl<|zX<|yF<|yH 1 [] [6] rfl<|nE (rI [2,1,2,3]) ?_;intro b1 I0 le h3;have ⟨h1,h⟩:=m2 le h1 h;refine rW (zY [1,0] (hs':=[hB r01 (cRd r0 p c),hO zD (vS (some ⟨b,0,none⟩) ([]:List zD) 0) []])) ?_;obtain ⟨⟨y1,y2⟩,hy,N⟩:=zC N;refine sR (xD r0 ([2,1,2,3]:List Int) _ hy h h3) rfl ?_;rintro I01 hs2 v2 k2 le1 - ⟨v0,kk,rfl,rfl,rfl,h5⟩ -;have h1:=iM le1 h1;obtain ⟨p1,c1,rfl,h6⟩:=yA h5;refine yJ [] [4] rfl<|wB<|qW [(0,vP r01 0),(3,vS (some ⟨b,0,none⟩) ([]:List zD) 0),(4,vI y1)] ?_;obtain ⟨o0,ho0,hMl⟩:=zC N;refine zDT ([]:List zD) y1 y2 o0 ho0 iR h1 h6 (fun _ _ _ h=>h) (fun _ _ h=>h) ?_;intro I03 out1 x1 p4 c4 cs1 p5 c5 heq le3 h9 h10;subst o0;refine zR<|wW [2] rfl<|xB<|xA 1 rfl ?_;intro I04 le4 hl01;have h18:=SL.of_frozen hl01 le4 h9;have h10:=h10.mono le4;obtain rfl:=zB hMl;exact xC ⟨_,_,(.tmp rfl ResV.nil),(zW [0] rfl (by decide)),⟨_,_,rfl,rfl,h18,(yT ⟨_,rfl,h10⟩)⟩⟩
def zEL (b0:Nat) (r:zJ×zM):KT:=fun kk I' hs' v=>
  ∃ v0 k0,hs'=[.blk b0 ⟨k0⟩]∧v=tupV [v0]∧(∃ cs,v0=.agg ⟨cs⟩∧Rp.rep I' cs r.1)∧Rp.rep I' k0 r.2
def pE (depth:Int) (n0:Int) (i:Int) (Subs:List zA) (x:zM):Option ((List zA×zM)):=do
 if (decide (i < n0)) then
  let (y4,y5)←yU x ([0,1,0,2]:List Int)
  let y6←wM y4
  let (t32,x2)←(do
    if (decide (depth > 0)) then
     let (y8,y9)←yW y5 5
     pure ((decide (y8 > 0)),y9)
    else
     pure (false,y5)
      : Option (Bool×zM))
  let (x3,x4)←(do
    if t32 then
     let (y11,y12)←yW x2 depth
     let y13←oY y11
     let (y15,y16)←yU y12 ([1,1,1,2,(-1)]:List Int)
     let (y18,y19)←yU y16 ([0,1,0,0,2]:List Int)
     let y20←wM y18
     let y21←nF y13 y15 y20 1
     pure (y21,y19)
    else
     pure ((zA.mk y6.Coefs y6.Const),x2)
      : Option (zA×zM))
  let l←app 32 Subs ([x3]:List zA)
  pE depth n0 (W (i + 1)) l x4
 else
  pure (Subs,x)
 partial_fixpoint
theorem zDU (depth:Int) (n0:Int):∀ (i:Int) (Subs:List zA) (x:zM) (o:(List zA×zM)),pE depth n0 i Subs x=some o→∀ {B}{I0 I:Imm}{Q}{y1:Str}{r01:Nat}{b:Nat}{b2:Nat}{p2 c2 cs p3 c3},I0.le I→(RL I cs Subs)→(S4 I p3 x.b c3)→NG Q→NO Q→(∀ (I':Imm) (Subs1:List zA) (x1:zM) (p4:Option Addr) (c4:Nat) (cs1:List Value) (p5:Option Addr) (c5:Nat),o=(Subs1,x1)→I0.le I'→(RL I' cs1 Subs1)→(S4 I' p5 x1.b c5)→T 53 B Q (.exit 0) I' [hO zA (vS p4 Subs1 c4) cs1,hB b2 [vT y1.l,vS p4 Subs1 c4],hB r01 (cRd x1 p5 c5),hB b [vT ([]),z0]] [(4,vP b 0),(5,vP b2 0)])→J Tryz.prog 53 B (nav (bodyOf Tryz.f217) [1,1,1,1,0,1,0]) Q I [hO zA (vS p2 Subs c2) cs,hB b2 [vT y1.l,vS p2 Subs c2],hB r01 (cRd x p3 c3),hB b [vT ([]),z0]] [(0,vP r01 0),(1,vI depth),(4,vP b 0),(5,vP b2 0),(6,vI n0),(7,vI i)]:=by
 refine pE.partial_correctness depth n0 _ fun self ih i Subs x o N B I0 I Q y1 r01 b b2 p2 c2 cs p3 c3 H h7 h8 hg ho hx=>yR hg ho<|zZ<|yD [19] rfl<|zI<|yB N ?_ ?_
 · intro hc1 N;refine zS<|zX<|yG<|yF<|yH 1 [] [22] rfl<|nE (rI [0,1,0,2]) ?_;intro b3 I03 le3 h12;have ⟨h7,h8,H⟩:=m3 le3 h7 h8 H;refine rW (zY [2,0,1,3] (hs':=[hB r01 (cRd x p3 c3),hO zA (vS p2 Subs c2) cs,hB b2 [vT y1.l,vS p2 Subs c2],hB b [vT ([]),z0]])) ?_;obtain ⟨⟨y4,y5⟩,hy1,N⟩:=zC N;refine sR (xD x ([0,1,0,2]:List Int) _ hy1 h8 h12) rfl ?_;rintro I04 hs2 v2 k2 le4 - ⟨v02,kk1,rfl,rfl,rfl,h14⟩ -;have ⟨h7,H⟩:=m2 le4 h7 H;obtain ⟨p6,c6,rfl,h15⟩:=yA h14;obtain ⟨y6,hy2,N⟩:=zC N;refine xV (uK y4 _ hy2 ) ?_;rintro I05 hs2 v2 k2 le5 - ⟨p7,c7,cs2,rfl,rfl,h16⟩ -;have ⟨h15,h7,H⟩:=m3 le5 h15 h7 H;refine uF [z0,vI 0] ?_;intro b4 hb4;refine xQ 0 (cAff y6 p7 c7) rfl<|yE rfl<|zX<|zZ ?_;obtain ⟨o01,ho01,hMc1⟩:=zC N;refine oC (fun I' hs' m'=>∃ (t32:Bool) (x2:zM) (p8:Option Addr) (c8:Nat),o01=(t32,x2)∧I05.le I'∧(S4 I' p8 x2.b c8)∧hs'=[hB b4 (cAff y6 p7 c7),hO Int (vS p7 y6.Coefs c7) cs2,hB r01 (cRd x2 p8 c8),hO zA (vS p2 Subs c2) cs,hB b2 [vT y1.l,vS p2 Subs c2],hB b [vT ([]),z0]]∧m'=[(0,vP r01 0),(1,vI depth),(4,vP b 0),(5,vP b2 0),(6,vI n0),(7,vI i),(8,vP b4 0),(32,.bool t32)]) ?_ ?_
   · have H:=iS I05;refine zL<|yH 3 [] [28] rfl<|xZ [28] ho01 ?_ ?_
     · intro hc2 N;refine yH 4 [] [29] rfl<|rW (zY [2,0,1,3,4,5] (hs':=[hB r01 (cRd y5 p6 c6),hB b4 (cAff y6 p7 c7),hO Int (vS p7 y6.Coefs c7) cs2,hO zA (vS p2 Subs c2) cs,hB b2 [vT y1.l,vS p2 Subs c2],hB b [vT ([]),z0]])) ?_;obtain ⟨⟨y8,y9⟩,hy3,N⟩:=zC N;refine sR (xT y5 5 _ hy3 h15) rfl ?_;rintro I07 hs2 v2 k2 le6 - ⟨v04,kk2,rfl,rfl,rfl,h19⟩ -;have H:=H.trans le6;obtain ⟨p9,c9,rfl,h20⟩:=yA h19;exact yJ [] [32] rfl<|wA (zW [1,2,0,3,4,5] rfl (by decide))<|yO<|zV ⟨_,_,_,_,(zB N).symm,H,h20,rfl,rfl⟩
     intro hc2 N;exact vG [] [(32,vF)]<|yO<|zV ⟨_,_,_,_,(zB N).symm,H,h15,rfl,rfl⟩
   rintro I06 hs2 m2 ⟨t32,x2,p8,c8,heq1,le7,h17,rfl,rfl⟩;subst o01;have ⟨h16,h7,H⟩:=m3 le7 h16 h7 H;refine zI<|oT 1 rfl ?_;intro I08 le8 hl02;have h21:=SL.of_frozen hl02 le8 h16;have ⟨h17,h7,H⟩:=m3 le8 h17 h7 H;obtain ⟨o02,ho02,hMc2⟩:=zC hMc1;refine oC (fun I' hs' m'=>∃ (x3:zA) (x4:zM) (p10:Option Addr) (c10:Nat) (p11:Option Addr) (c11:Nat),o02=(x3,x4)∧I08.le I'∧(S4 I' p10 x3.Coefs c10)∧(S4 I' p11 x4.b c11)∧hs'=[hB b4 (cAff x3 p10 c10),hB r01 (cRd x4 p11 c11),hO zA (vS p2 Subs c2) cs,hB b2 [vT y1.l,vS p2 Subs c2],hB b [vT ([]),z0]]∧m'=[(0,vP r01 0),(1,vI depth),(4,vP b 0),(5,vP b2 0),(6,vI n0),(7,vI i),(8,vP b4 0)]) ?_ ?_
   · have H:=iS I08;refine yB ho02 ?_ ?_
     · intro hc3 N;refine yF<|yH 2 [] [33,34] rfl<|rW (zY [1,0,2,3,4] (hs':=[hB r01 (cRd x2 p8 c8),hB b4 (cAff y6 p7 c7),hO zA (vS p2 Subs c2) cs,hB b2 [vT y1.l,vS p2 Subs c2],hB b [vT ([]),z0]])) ?_;obtain ⟨⟨y11,y12⟩,hy4,N⟩:=zC N;refine sR (xT x2 depth _ hy4 h17) rfl ?_;rintro I010 hs2 v2 k2 le9 - ⟨v06,kk3,rfl,rfl,rfl,h25⟩ -;have H:=H.trans le9;obtain ⟨p12,c12,rfl,h26⟩:=yA h25;refine yJ [] [9] rfl<|zI<|zL<|yH 1 [] [36] rfl<|bE N fun y13 hy5 N=>xV (jZ y11 _ hy5 ) ?_;rintro I011 hs2 v2 k2 le10 - ⟨v08,rfl,rfl,⟨cs3,rfl,h27⟩⟩ -;have ⟨h26,H⟩:=m2 le10 h26 H;obtain ⟨p13,c13,rfl,h28⟩:=yN h27;refine yH 3 [] [38] rfl<|nE (rI [1,1,1,2,(-1)]) ?_;intro b5 I012 le11 h30;have ⟨h28,h26,H⟩:=m3 le11 h28 h26 H;obtain ⟨⟨y15,y16⟩,hy6,N⟩:=zC N;refine sR (xD y12 ([1,1,1,2,(-1)]:List Int) _ hy6 h26 h30) rfl ?_;rintro I013 hs2 v2 k2 le12 - ⟨v010,kk4,rfl,rfl,rfl,h32⟩ -;have ⟨h28,H⟩:=m2 le12 h28 H;obtain ⟨p14,c14,rfl,h33⟩:=yA h32;refine yH 6 [] [41] rfl<|nE (rI [0,1,0,0,2]) ?_;intro b6 I014 le13 h35;have ⟨h28,h33,H⟩:=m3 le13 h28 h33 H;obtain ⟨⟨y18,y19⟩,hy7,N⟩:=zC N;refine sR (xD y16 ([0,1,0,0,2]:List Int) _ hy7 h33 h35) rfl ?_;rintro I015 hs2 v2 k2 le14 - ⟨v012,kk5,rfl,rfl,rfl,h37⟩ -;have ⟨h28,H⟩:=m2 le14 h28 H;obtain ⟨p15,c15,rfl,h38⟩:=yA h37;obtain ⟨y20,hy8,N⟩:=zC N;refine xV (uK y18 _ hy8 ) ?_;rintro I016 hs2 v2 k2 le15 - ⟨p16,c16,cs4,rfl,rfl,h39⟩ -;have ⟨h28,h38,H⟩:=m3 le15 h28 h38 H;refine xM 0 rfl ?_;intro I017 le16 hl05;have h40:=SL.of_frozen hl05 le16 h39;have ⟨h28,h38,H⟩:=m3 le16 h28 h38 H;obtain ⟨y21,hy9,N⟩:=zC N;refine xV (zAI y13 y15 y20 1 _ hy9 h28 h40) ?_;rintro I018 hs2 v2 k2 le17 - ⟨v014,rfl,rfl,⟨cs5,rfl,h41⟩⟩ -;have ⟨h38,H⟩:=m2 le17 h38 H;obtain ⟨p17,c17,rfl,h42⟩:=yN h41;exact xQ 1 (cAff y21 p17 c17) rfl<|yE rfl<|wA (zW [1,0,2,3,4] rfl (by decide))<|yO<|zV ⟨_,_,_,_,_,_,(zB N).symm,H,h42,h38,rfl,rfl⟩
     intro hc3 N;exact zS<|yO<|zV ⟨_,_,_,_,_,_,(zB N).symm,H,h21,h17,rfl,rfl⟩
   rintro I09 hs2 m2 ⟨x3,x4,p10,c10,p11,c11,heq2,le18,h22,h23,rfl,rfl⟩;subst o02;have ⟨h7,H⟩:=m2 le18 h7 H;refine zI<|zL<|oD 3 [3,0] [(47,vS p2 Subs c2),(48,vA (cAff x3 p10 c10))]<|tJ (cAff x3 p10 c10) zA ?_;intro b7 hb7;have h43:RL I09 (cAff x3 p10 c10) ([x3]:List zA):=⟨(cAff x3 p10 c10),_,rfl,rfl,(yM ⟨_,rfl,h22⟩),rfl⟩;obtain ⟨l,hy10,N⟩:=zC hMc2;refine qB 38 2 3 rfl rfl rfl h7 (.inr ⟨0,rfl⟩) h43 hy10 ?_;intro p18 c18 cs6 h44;exact rW (zY [1,2,3,4,5] (hs':=[hB b4 (cAff x3 p10 c10),hB r01 (cRd x4 p11 c11),hO zA (vS p18 l c18) cs6,hB b2 [vT y1.l,vS p2 Subs c2],hB b [vT ([]),z0]]))<|yH 6 [] [51] rfl<|xQ 3 [vT y1.l,vS p18 l c18] rfl<|yE rfl<|zO<|zI<|zL<|yJ [] [7] rfl<|yQ<|jR (zW [2,3,1,4] rfl (by decide))<|nO<|ih (W (i + 1)) l x4 _ N H h44 h23 hg ho hx
 intro hc1 N;exact wY<|yO<|hx _ _ _ _ _ _ _ _ (zB N).symm H h7 h8
def mM (r0:zM) (depth:Int):Option (zJ×zM):=do
 let (y1,y2)←oK r0 ([(⟨[65]⟩:Str),(⟨[66]⟩:Str),(⟨[65]⟩:Str),(⟨[67]⟩:Str)]:List Str)
 let n0←(do
   if (y1.l == ([66]:List UInt8)) then
    pure (id 2)
   else
    pure (id 1)
     : Option Int)
 let (Subs1,x1)←pE depth n0 0 ([]:List zA) y2
 pure ((zJ.mk y1 Subs1),x1)
theorem zB8:∀ r0 depth r,mM r0 depth=some r→∀ {I:Imm}{r01:Nat}{p c},(S4 I p r0.b c)→RT 217 [vP r01 0,vI depth] I [hB r01 (cRd r0 p c)] (zEL r01 r):=by
 intro r0 depth r N I r01 p c h;unfold mM at N;refine yL Tryz.func217 fun B=>?_;have H:=iS I;refine yF<|uF [vT ([]),z0] ?_;intro b hb;refine yE rfl<|xG<|yH 1 [] [10] rfl<|nE (rT [(⟨[65]⟩:Str),(⟨[66]⟩:Str),(⟨[65]⟩:Str),(⟨[67]⟩:Str)]) ?_;intro b1 I0 le h2;have ⟨h,H⟩:=m2 le h H;refine rW (zY [1,0] (hs':=[hB r01 (cRd r0 p c),hB b [vT ([]),z0]])) ?_;obtain ⟨⟨y1,y2⟩,hy,N⟩:=zC N;refine sR (fM r0 ([(⟨[65]⟩:Str),(⟨[66]⟩:Str),(⟨[65]⟩:Str),(⟨[67]⟩:Str)]:List Str) _ hy h h2) rfl ?_;rintro I01 hs2 v2 k2 le1 - ⟨v0,kk,rfl,rfl,rfl,h4⟩ -;have H:=H.trans le1;obtain ⟨p1,c1,rfl,h5⟩:=yA h4;refine yH 4 [] [13] rfl<|uF [vT ([]),z0] ?_;intro b2 hb2;refine xQ 0 [vT y1.l,z0] rfl<|yE rfl<|wW [6] rfl<|zX<|yF<|yJ [0] [16] rfl<|zI ?_;refine wP N [hB b2 [vT y1.l,z0],hB r01 (cRd y2 p1 c1),hB b [vT ([]),z0]] (fun n0=>[(0,vP r01 0),(1,vI depth),(4,vP b 0),(5,vP b2 0),(6,vI n0)]) (fun o0 ho0=>?_) ?_
 · have H:=iS I01;refine yB ho0 ?_ ?_
   · intro hc N;exact zL<|yJ [] [6] rfl<|yO<|zV (ct N H)
   intro hc N;exact zS<|yO<|zV (ct N H)
 intro n0 I02 le2 hMc;have h5:=h5.mono le2;refine zX<|yD [7] rfl<|wB<|qW [(0,vP r01 0),(1,vI depth),(4,vP b 0),(5,vP b2 0),(6,vI n0),(7,vI 0)]<|eV zA fun h6=>?_;obtain ⟨o03,ho03,hMl⟩:=zC hMc;refine zDU depth n0 0 ([]:List zA) y2 o03 ho03 iR h6 h5 (fun _ _ _ h=>h) (fun _ _ h=>h) ?_;intro I019 Subs1 x1 p4 c4 cs1 p5 c5 heq3 le19 h9 h10;subst o03;refine zR<|xG<|oD 1 [1] [(52,vA [vT y1.l,vS p4 Subs1 c4])]<|xQ 3 [vT y1.l,vS p4 Subs1 c4] rfl<|yE rfl<|xB<|xA 0 rfl ?_;intro I020 le20 hl06;have h45:=SL.of_frozen hl06 le20 h9;have h10:=h10.mono le20;obtain rfl:=zB hMl;exact xC ⟨_,_,(.cell 2 rfl rfl (by kernel_rfl) ResV.nil),(zW [1] rfl (by decide)),⟨_,_,rfl,rfl,⟨_,rfl,(nD ⟨_,rfl,h45⟩)⟩,(yT ⟨_,rfl,h10⟩)⟩⟩
def zEM (b0:Nat) (r:zA×zM):KT:=fun kk I' hs' v=>
  ∃ v0 k0,hs'=[.blk b0 ⟨k0⟩]∧v=tupV [v0]∧(∃ cs,v0=.agg ⟨cs⟩∧Rp.rep I' cs r.1)∧Rp.rep I' k0 r.2
def pF (depth:Int) (i:Int) (Coefs:List Int) (x:zM):Option ((List Int×zM)):=do
 if (decide (i < depth)) then
  let (y5,y6)←yU x ([0,1,0,(-1),2,0,9]:List Int)
  let x2←idx Coefs i
  let l←pure (Coefs.set i.toNat y5)
  pF depth (W (i + 1)) l y6
 else
  pure (Coefs,x)
 partial_fixpoint
theorem zDV (depth:Int):∀ (i:Int) (Coefs:List Int) (x:zM) (o:(List Int×zM)),pF depth i Coefs x=some o→∀ {B}{I0 I:Imm}{Q}{y3:zA}{r01:Nat}{b:Nat}{b2:Nat}{p3 c3 cs1 p4 c4},I0.le I→(RL I cs1 Coefs)→(S4 I p4 x.b c4)→NG Q→NO Q→(∀ (I':Imm) (Coefs1:List Int) (x1:zM) (p5:Option Addr) (c5:Nat) (cs2:List Value) (p6:Option Addr) (c6:Nat),o=(Coefs1,x1)→I0.le I'→(RL I' cs2 Coefs1)→(S4 I' p6 x1.b c6)→T 24 B Q (.exit 0) I' [hB b2 [vS p5 Coefs1 c5,vI y3.Const],hO Int (vS p5 Coefs1 c5) cs2,hB r01 (cRd x1 p6 c6),hB b [z0,vI 0]] [(4,vP b 0),(5,vP b2 0)])→J Tryz.prog 24 B (nav (bodyOf Tryz.f251) [1,1,0,1,0]) Q I [hB b2 [vS p3 Coefs c3,vI y3.Const],hO Int (vS p3 Coefs c3) cs1,hB r01 (cRd x p4 c4),hB b [z0,vI 0]] [(0,vP r01 0),(1,vI depth),(4,vP b 0),(5,vP b2 0),(6,vI i)]:=by
 refine pF.partial_correctness depth _ fun self ih i Coefs x o N B I0 I Q y3 r01 b b2 p3 c3 cs1 p4 c4 H h7 h8 hg ho hx=>yR hg ho<|zZ<|yD [13] rfl<|zI<|yB N ?_ ?_
 · intro hc N;refine zS<|zX<|yG ?_;obtain ⟨⟨y5,y6⟩,hy2,N⟩:=zC N;refine wX [.p (vP b2 0) [],.p (vS p3 Coefs c3) [0],.p (vI i) [],.p (vP r01 0) [],.x (fun I' v hx=>∃ b3,v=vS (some ⟨b3,0,none⟩) ([0,1,0,(-1),2,0,9]:List Int) 7∧hx=[]∧(SL I' (vS (some ⟨b3,0,none⟩) ([0,1,0,(-1),2,0,9]:List Int) 7) ([0,1,0,(-1),2,0,9]:List Int))),.x (fun I' v hx=>∃ p7 c7,v=vI y5∧hx=[hB r01 (cRd y6 p7 c7)]∧(S4 I' p7 y6.b c7))] [[],[(0,false)],[],[],[],[(3,false),(4,false),(8,true)]] [hB b2 [vS p3 Coefs c3,vI y3.Const],hO Int (vS p3 Coefs c3) cs1,hB b [z0,vI 0]] [[hB r01 (cRd x p4 c4)]] [(1,false),(2,false),(5,true)] (zY [0,1,3,2]) ?_ ?_
   · refine Op<|Op<|Op<|Op<|Ox ?_<|Ox ?_<|On
     · intro I1 hf le1;refine eU [] ?_;have H:=iS I1;refine nE (rI [0,1,0,(-1),2,0,9]) ?_;intro b3 I03 le3 h12;have H:=H.trans le3;exact yK [] H ⟨_,rfl,rfl,h12⟩
     rintro I1 hf le1 _ _ ⟨rfl,rfl⟩ _ _ ⟨b3,rfl,rfl,h12⟩ _ _ rfl;refine yS [19,20] rfl ?_;have H:=iS I1;have h8:=h8.mono le1;refine sR (xD x ([0,1,0,(-1),2,0,9]:List Int) _ hy2 h8 h12) rfl ?_;rintro I04 hs2 v2 k2 le4 - ⟨v02,kk1,rfl,rfl,rfl,h14⟩ -;have H:=H.trans le4;obtain ⟨p7,c7,rfl,h15⟩:=yA h14;exact yK [hB r01 (cRd y6 p7 c7)] H ⟨_,_,rfl,rfl,h15⟩
   rintro I05 le5 _ _ ⟨rfl,rfl⟩ _ _ ⟨rfl,rfl⟩ _ _ ⟨p7,c7,rfl,rfl,h15⟩;refine yS [0,1,4,5,6,17,18,21] rfl ?_;have ⟨h7,H⟩:=m2 le5 h7 H;obtain ⟨x2,hy3,N⟩:=zC N;refine kI 2 rfl rfl rfl h7 hy3 ?_;intro ad ccs hat hcc hrep;obtain rfl:=hrep;obtain ⟨l,hy4,N⟩:=zC N;refine oJ (c:=[vI y5]) (x':=y5) 2 0 rfl rfl rfl hat rfl rfl hcc (by kernel_rfl) (by kernel_rfl) (by kernel_rfl) h7 hy3 (by kernel_rfl) rfl ?_;rw [show Coefs.set i.toNat y5=l from zB hy4];intro cs3 h16 hl02;exact kT (m':=[(0,vP r01 0),(1,vI depth),(4,vP b 0),(5,vP b2 0),(6,vI i),(17,vS p3 Coefs c3),(18,vI i),(21,vI y5)]) ⟨rfl,rfl,rfl,rfl,rfl,rfl,rfl,rfl,trivial⟩<|zAj (hs':=[hB r01 (cRd y6 p7 c7),hB b2 [vS p3 l c3,vI y3.Const],hO Int (vS p3 l c3) cs3,hB b [z0,vI 0]]) (m':=[(0,vP r01 0),(1,vI depth),(4,vP b 0),(5,vP b2 0),(6,vI i),(17,vS p3 l c3),(18,vI i),(21,vI y5)]) (by first | rfl | simp only [vS,hl02,List.nil_append,List.cons_append,List.set_cons_zero,List.set_cons_succ,List.eraseIdx_cons_zero,List.eraseIdx_cons_succ]) (by first | rfl | simp only [vS,hl02])<|yE rfl<|zO<|zI<|zL<|yJ [] [6] rfl<|yQ<|jR (zW [1,2,0,3] rfl (by decide))<|nO<|ih (W (i + 1)) l y6 _ N H h16 h15 hg ho hx
 intro hc N;exact wY<|yO<|hx _ _ _ _ _ _ _ _ (zB N).symm H h7 h8
def kW (r0:zM) (depth:Int):Option (zA×zM):=do
 let (y1,y2)←yU r0 ([0,1,(-1),2,0,5,(-9),99]:List Int)
 let y3←wM y1
 let (Coefs1,x1)←pF depth 0 y3.Coefs y2
 pure ((zA.mk Coefs1 y3.Const),x1)
theorem zFh:∀ r0 depth r,kW r0 depth=some r→∀ {I:Imm}{r01:Nat}{p c},(S4 I p r0.b c)→RT 251 [vP r01 0,vI depth] I [hB r01 (cRd r0 p c)] (zEM r01 r):=by
 intro r0 depth r N I r01 p c h;unfold kW at N;refine yL Tryz.func251 fun B=>yF<|uF [z0,vI 0] ?_;intro b hb;refine yE rfl<|xG<|yH 1 [] [7] rfl<|nE (rI [0,1,(-1),2,0,5,(-9),99]) ?_;intro b1 I0 le h2;have h:=h.mono le;refine rW (zY [1,0] (hs':=[hB r01 (cRd r0 p c),hB b [z0,vI 0]])) ?_;obtain ⟨⟨y1,y2⟩,hy,N⟩:=zC N;refine sR (xD r0 ([0,1,(-1),2,0,5,(-9),99]:List Int) _ hy h h2) rfl ?_;rintro I01 hs2 v2 k2 le1 - ⟨v0,kk,rfl,rfl,rfl,h4⟩ -;obtain ⟨p1,c1,rfl,h5⟩:=yA h4;obtain ⟨y3,hy1,N⟩:=zC N;refine xV (uK y1 _ hy1 ) ?_;rintro I02 hs2 v2 k2 le2 - ⟨p2,c2,cs,rfl,rfl,h6⟩ -;have h5:=h5.mono le2;refine uF [z0,vI 0] ?_;intro b2 hb2;refine xQ 0 (cAff y3 p2 c2) rfl<|yE rfl<|zX<|yD [6] rfl<|wB<|qW [(0,vP r01 0),(1,vI depth),(4,vP b 0),(5,vP b2 0),(6,vI 0)] ?_;obtain ⟨o0,ho0,hMl⟩:=zC N;refine zDV depth 0 y3.Coefs y2 o0 ho0 iR h6 h5 (fun _ _ _ h=>h) (fun _ _ h=>h) ?_;intro I06 Coefs1 x1 p5 c5 cs2 p6 c6 heq le6 h9 h10;subst o0;refine zR<|xG<|oD 1 [0] [(23,vA [vS p5 Coefs1 c5,vI y3.Const])]<|xQ 3 [vS p5 Coefs1 c5,vI y3.Const] rfl<|yE rfl<|xB<|xA 1 rfl ?_;intro I07 le7 hl03;have h17:=SL.of_frozen hl03 le7 h9;have h10:=h10.mono le7;obtain rfl:=zB hMl;exact xC ⟨_,_,(.cell 2 rfl rfl (by kernel_rfl) ResV.nil),(zW [1] rfl (by decide)),⟨_,_,rfl,rfl,⟨_,rfl,(yM ⟨_,rfl,h17⟩)⟩,(yT ⟨_,rfl,h10⟩)⟩⟩
def zAJ (b0:Nat) (r:zG×zM):KT:=fun kk I' hs' v=>
  ∃ v0 k0,hs'=[.blk b0 ⟨k0⟩]∧v=tupV [v0]∧(∃ cs,v0=.agg ⟨cs⟩∧Rp.rep I' cs r.1)∧Rp.rep I' k0 r.2
mutual
def qI (r0:zM) (depth:Int) (levels:Int):Option (zG×zM):=do
 let (t15,x)←(do
   if (decide (levels < 2)) then
    pure (true,r0)
   else
    let (y1,y2)←yW r0 4
    pure ((y1 == 0),y2)
     : Option (Bool×zM))
 if t15 then
  let (y4,y5)←yW x 4
  if (y4 == 0) then
   let (y7,y8)←yU y5 ([1,2,0,99,3]:List Int)
   pure ((zG.mk 1 y7 (zA.mk ([]:List Int) 0) (zJ.mk (⟨[]⟩:Str) ([]:List zA)) ([]:List zG)),y8)
  else
   if (y4 == 1) then
    let (y10,y11)←kW y5 depth
    pure ((zG.mk 2 0 y10 (zJ.mk (⟨[]⟩:Str) ([]:List zA)) ([]:List zG)),y11)
   else
    let (y13,y14)←mM y5 depth
    pure ((zG.mk 3 0 (zA.mk ([]:List Int) 0) y13 ([]:List zG)),y14)
 else
  let (y16,y17)←yU x ([4,6,5,4]:List Int)
  let (Kids1,x2)←oI (same depth) (same levels) (same 0) ([]:List zG) (same y17)
  pure ((zG.mk y16 0 (zA.mk ([]:List Int) 0) (zJ.mk (⟨[]⟩:Str) ([]:List zA)) Kids1),x2)
 partial_fixpoint
def oI (depth:Int) (levels:Int) (i:Int) (Kids:List zG) (x1:zM):Option ((List zG×zM)):=do
 if (decide (i < 2)) then
  let (y19,y20)←qI (same x1) (same depth) (W (levels - 1))
  let l←app 112 Kids ([y19]:List zG)
  oI (same depth) (same levels) (W (i + 1)) (same l) (same y20)
 else
  pure (Kids,x1)
 partial_fixpoint
end
theorem zEN:(∀ (r0:zM) (depth:Int) (levels:Int) r,qI r0 depth levels=some r→∀ {I:Imm}{r01:Nat}{p c},(S4 I p r0.b c)→RT 218 [vP r01 0,vI depth,vI levels] I [hB r01 (cRd r0 p c)] (zAJ r01 r))∧(∀ (depth:Int) (levels:Int) (i:Int) (Kids:List zG) (x1:zM) o,oI depth levels i Kids x1=some o→∀ {B}{I0 I:Imm}{Q}{y16:Int}{r01:Nat}{b:Nat}{b3:Nat}{p10 c10 cs2 p11 c11},I0.le I→(RL I cs2 Kids)→(S4 I p11 x1.b c11)→NG Q→NO Q→(∀ (I':Imm) (Kids1:List zG) (x2:zM) (p12:Option Addr) (c12:Nat) (cs3:List Value) (p13:Option Addr) (c13:Nat),o=(Kids1,x2)→I0.le I'→(RL I' cs3 Kids1)→(S4 I' p13 x2.b c13)→T 53 B Q (.exit 1) I' [hO zG (vS p12 Kids1 c12) cs3,hB b3 [vI y16,vI 0,z0,vI 0,vT ([]),z0,vS p12 Kids1 c12],hB r01 (cRd x2 p13 c13),hB b zExpr] [(6,vP b 0),(7,vP b3 0)])→J Tryz.prog 53 B (nav (bodyOf Tryz.f218) [1,1,1,0,1,0]) Q I [hO zG (vS p10 Kids c10) cs2,hB b3 [vI y16,vI 0,z0,vI 0,vT ([]),z0,vS p10 Kids c10],hB r01 (cRd x1 p11 c11),hB b zExpr] [(0,vP r01 0),(1,vI depth),(2,vI levels),(6,vP b 0),(7,vP b3 0),(8,vI i)]):=by
  refine qI.mutual_partial_correctness _ _ ?_ ?_
  · intro F_spec_l3Value_l1 ih_spec_l3Value_l1 r0 depth levels r N I r01 p c h;refine yL Tryz.func218 fun B=>?_;have H:=iS I;refine yF<|uF zExpr ?_;intro b hb;refine yE rfl<|zX<|zZ ?_;obtain ⟨o0,ho0,hMc⟩:=zC N;refine oC (fun I' hs' m'=>∃ (t15:Bool) (x:zM) (p1:Option Addr) (c1:Nat),o0=(t15,x)∧I.le I'∧(S4 I' p1 x.b c1)∧hs'=[hB b zExpr,hB r01 (cRd x p1 c1)]∧m'=[(0,vP r01 0),(1,vI depth),(2,vI levels),(6,vP b 0),(15,.bool t15)]) ?_ ?_
    · have H:=iS I;refine zL<|yH 3 [] [11] rfl<|xZ [11] ho0 ?_ ?_
      · intro hc N;exact vG [] [(15,vY)]<|yO<|zV ⟨_,_,_,_,(zB N).symm,H,h,rfl,rfl⟩
      intro hc N;refine yH 4 [] [12] rfl<|rW (zY [1,0] (hs':=[hB r01 (cRd r0 p c),hB b zExpr])) ?_;obtain ⟨⟨y1,y2⟩,hy,N⟩:=zC N;refine sR (xT r0 4 _ hy h) rfl ?_;rintro I01 hs2 v2 k2 le - ⟨v0,kk,rfl,rfl,rfl,h3⟩ -;have H:=H.trans le;obtain ⟨p2,c2,rfl,h4⟩:=yA h3;exact yJ [] [15] rfl<|wA (zW [1,0] rfl (by decide))<|yO<|zV ⟨_,_,_,_,(zB N).symm,H,h4,rfl,rfl⟩
    rintro I0 hs2 m2 ⟨t15,x,p1,c1,heq,le1,h1,rfl,rfl⟩;subst o0;refine zI<|yB hMc ?_ ?_
    · intro hc1 N;refine zZ<|yF<|yH 1 [] [16] rfl<|rW (zY [1,0] (hs':=[hB r01 (cRd x p1 c1),hB b zExpr])) ?_;obtain ⟨⟨y4,y5⟩,hy1,N⟩:=zC N;refine sR (xT x 4 _ hy1 h1) rfl ?_;rintro I02 hs2 v2 k2 le2 - ⟨v02,kk1,rfl,rfl,rfl,h6⟩ -;obtain ⟨p3,c3,rfl,h7⟩:=yA h6;refine yE rfl<|wB<|yD [18] rfl<|zI<|yB N ?_ ?_
      · intro hc2 N;refine yF<|yH 1 [] [20] rfl<|nE (rI [1,2,0,99,3]) ?_;intro b1 I03 le3 h9;have h7:=h7.mono le3;obtain ⟨⟨y7,y8⟩,hy2,N⟩:=zC N;refine sR (xD y5 ([1,2,0,99,3]:List Int) _ hy2 h7 h9) rfl ?_;rintro I04 hs2 v2 k2 le4 - ⟨v04,kk2,rfl,rfl,rfl,h11⟩ -;obtain ⟨p4,c4,rfl,h12⟩:=yA h11;refine yH 4 [] [23] rfl<|xQ 1 [vI 1,vI y7,z0,vI 0,vT ([]),z0,z0] rfl<|yE rfl<|xB<|zU<|zF<|zF ?_;obtain rfl:=zB N;exact xC ⟨_,_,(.cell 1 rfl rfl (by kernel_rfl) ResV.nil),(zW [0] rfl (by decide)),⟨_,_,rfl,rfl,⟨_,rfl,(xW ⟨_,_,_,rfl,(SL.nil _),(SL.nil _),(SL.nil _)⟩)⟩,(yT ⟨_,rfl,h12⟩)⟩⟩
      intro hc2 N;refine yD [24] rfl<|zI<|yB N ?_ ?_
      · intro hc3 N;refine yF<|yH 2 [] [26,27] rfl ?_;obtain ⟨⟨y10,y11⟩,hy3,N⟩:=zC N;refine sR (zFh y5 depth _ hy3 h7) rfl ?_;rintro I05 hs2 v2 k2 le5 - ⟨v06,kk3,rfl,rfl,⟨cs,rfl,h13⟩,h14⟩ -;obtain ⟨p5,c5,rfl,h15⟩:=yN h13;obtain ⟨p6,c6,rfl,h16⟩:=yA h14;refine yH 4 [] [29] rfl<|xQ 1 [vI 2,vI 0,vS p5 y10.Coefs c5,vI y10.Const,vT ([]),z0,z0] rfl<|yE rfl<|xB<|zU<|zF<|zF ?_;obtain rfl:=zB N;exact xC ⟨_,_,(.cell 1 rfl rfl (by kernel_rfl) ResV.nil),(zW [0] rfl (by decide)),⟨_,_,rfl,rfl,⟨_,rfl,(xW ⟨_,_,_,rfl,h15,(SL.nil _),(SL.nil _)⟩)⟩,(yT ⟨_,rfl,h16⟩)⟩⟩
      intro hc3 N;refine zS<|zO<|xG<|yH 2 [] [30,31] rfl ?_;obtain ⟨⟨y13,y14⟩,hy4,N⟩:=zC N;refine sR (zB8 y5 depth _ hy4 h7) rfl ?_;rintro I06 hs2 v2 k2 le6 - ⟨v09,kk4,rfl,rfl,⟨cs1,rfl,h17⟩,h18⟩ -;obtain ⟨p7,c7,rfl,h19⟩:=oE h17;obtain ⟨p8,c8,rfl,h20⟩:=yA h18;refine yH 4 [] [33] rfl<|xQ 1 [vI 3,vI 0,z0,vI 0,vT y13.Array.l,vS p7 y13.Subs c7,z0] rfl<|yE rfl<|xB<|zF ?_;obtain rfl:=zB N;exact xC ⟨_,_,(.cell 1 rfl rfl (by kernel_rfl) ResV.nil),(zW [0] rfl (by decide)),⟨_,_,rfl,rfl,⟨_,rfl,(xW ⟨_,_,_,rfl,(SL.nil _),h19,(SL.nil _)⟩)⟩,(yT ⟨_,rfl,h20⟩)⟩⟩
    intro hc1 N;refine zS<|xG<|yH 1 [] [34] rfl<|nE (rI [4,6,5,4]) ?_;intro b2 I07 le7 h22;have h1:=h1.mono le7;refine rW (zY [1,0] (hs':=[hB r01 (cRd x p1 c1),hB b zExpr])) ?_;obtain ⟨⟨y16,y17⟩,hy5,N⟩:=zC N;refine sR (xD x ([4,6,5,4]:List Int) _ hy5 h1 h22) rfl ?_;rintro I08 hs2 v2 k2 le8 - ⟨v012,kk5,rfl,rfl,rfl,h24⟩ -;obtain ⟨p9,c9,rfl,h25⟩:=yA h24;refine yH 4 [] [37] rfl<|uF zExpr ?_;intro b3 hb3;refine xQ 0 [vI y16,vI 0,z0,vI 0,vT ([]),z0,z0] rfl<|yE rfl<|zX<|yD [8] rfl<|wB<|qW [(0,vP r01 0),(1,vI depth),(2,vI levels),(6,vP b 0),(7,vP b3 0),(8,vI 0)]<|eV zG fun h26=>?_;obtain ⟨o01,ho01,hMl⟩:=zC N;refine ih_spec_l3Value_l1 depth levels 0 ([]:List zG) y17 o01 ho01 iR h26 h25 (fun _ _ _ h=>h) (fun _ _ h=>h) ?_;intro I012 Kids1 x2 p12 c12 cs3 p13 c13 heq1 le12 h29 h30;subst o01;refine zR<|xG<|oD 1 [1] [(52,vA [vI y16,vI 0,z0,vI 0,vT ([]),z0,vS p12 Kids1 c12])]<|xQ 3 [vI y16,vI 0,z0,vI 0,vT ([]),z0,vS p12 Kids1 c12] rfl<|yE rfl<|xB<|xA 0 rfl ?_;intro I013 le13 hl03;have h40:=SL.of_frozen hl03 le13 h29;have h30:=h30.mono le13;obtain rfl:=zB hMl;exact xC ⟨_,_,(.cell 2 rfl rfl (by kernel_rfl) ResV.nil),(zW [1] rfl (by decide)),⟨_,_,rfl,rfl,⟨_,rfl,(xW ⟨_,_,_,rfl,(SL.nil _),(SL.nil _),h40⟩)⟩,(yT ⟨_,rfl,h30⟩)⟩⟩
  intro F_spec_l3Value F_spec_l3Value_l1 ih_spec_l3Value ih_spec_l3Value_l1 depth levels i Kids x1 o N B I0 I Q y16 r01 b b3 p10 c10 cs2 p11 c11 H h27 h28 hg ho hx;refine yR hg ho<|zZ<|yD [39] rfl<|zI<|yB N ?_ ?_
  · intro hc4 N;refine zS<|zX<|yG ?_;obtain ⟨⟨y19,y20⟩,hy6,N⟩:=zC N;obtain ⟨l,hy7,N⟩:=zC N;refine wX [.p (vP b3 6) [],.p (vS p10 Kids c10) [0],.p (vP r01 0) [],.p (vI depth) [],.p (vI levels) [],.p (vI (W (levels - 1))) [],.x (fun I' v hx=>∃ p14 c14 p15 c15 p16 c16 p17 c17,v=vA (cExpr y19 p14 c14 p15 c15 p16 c16)∧hx=[hB r01 (cRd y20 p17 c17)]∧(S4 I' p14 y19.Index.Coefs c14)∧(S4 I' p15 y19.Read.Subs c15)∧(S4 I' p16 y19.Kids c16)∧(S4 I' p17 y20.b c17)),.x (fun I' v hx=>∃ b4,v=vS (some ⟨b4,0,none⟩) ([y19]:List zG) 1∧hx=[]∧(SL I' (vS (some ⟨b4,0,none⟩) ([y19]:List zG) 1) ([y19]:List zG))),.x (fun I' v hx=>∃ p18 c18 cs5,v=vS p18 l c18∧hx=[hO zG (vS p18 l c18) cs5]∧(RL I' cs5 l))] [[],[(0,false)],[],[],[],[(4,false)],[(2,false),(3,false),(5,false),(11,true)],[(6,false)],[(1,false),(7,false),(12,true)]] [hB b3 [vI y16,vI 0,z0,vI 0,vT ([]),z0,vS p10 Kids c10],hB b zExpr] [[hB r01 (cRd x1 p11 c11)],[hO zG (vS p10 Kids c10) cs2]] [(6,true),(8,true)] (zY [1,3,2,0]) ?_ ?_
    · refine Op<|Op<|Op<|Op<|Op<|Op<|Ox ?_<|Ox ?_<|Ox ?_<|On
      · rintro I1 hf le1 _ _ ⟨rfl,rfl⟩ _ _ ⟨rfl,rfl⟩ _ _ ⟨rfl,rfl⟩ _ _ rfl;refine yS [44,45,47] rfl ?_;have H:=iS I1;have h28:=h28.mono le1;refine sR (ih_spec_l3Value x1 depth (W (levels - 1)) _ hy6 h28) rfl ?_;rintro I09 hs2 v2 k2 le9 - ⟨v014,kk6,rfl,rfl,⟨cs4,rfl,h31⟩,h32⟩ -;have H:=H.trans le9;obtain ⟨p14,c14,p15,c15,p16,c16,rfl,h33,h34,h35⟩:=tC h31;obtain ⟨p17,c17,rfl,h36⟩:=yA h32;exact yK [hB r01 (cRd y20 p17 c17)] H ⟨_,_,_,_,_,_,_,_,rfl,rfl,h33,h34,h35,h36⟩
      · rintro I1 hf le1 _ _ ⟨p14,c14,p15,c15,p16,c16,p17,c17,rfl,rfl,h33,h34,h35,h36⟩;refine yS [48] rfl ?_;have H:=iS I1;refine nE (rc y19 (xW ⟨_,_,_,rfl,h33,h34,h35⟩) rN) ?_;intro b4 I010 le10 h38;have H:=H.trans le10;exact yK [] H ⟨_,rfl,rfl,h38⟩
      rintro I1 hf le1 _ _ ⟨rfl,rfl⟩ _ _ ⟨b4,rfl,rfl,h38⟩ _ _ rfl;refine yS [43,49] rfl ?_;have h27:=iM le1 h27;obtain ⟨ccs,k0,k01⟩:=h38;have h38:SL I1 (vS (some ⟨b4,0,none⟩) ([y19]:List zG) 1) ([y19]:List zG):=⟨_,k0,k01⟩;exact qB 41 7 0 rfl rfl rfl h27 (.inl k0) k01 hy7 fun p18 c18 cs5 h39=>uG (hs':=(hO zG (vS p18 l c18) cs5::hB b3 [vI y16,vI 0,z0,vI 0,vT ([]),z0,vS p10 Kids c10]::hB b zExpr::hf)) rfl<|yK [hO zG (vS p18 l c18) cs5] iR ⟨_,_,_,rfl,rfl,h39⟩
    rintro I011 le11 _ _ ⟨p14,c14,p15,c15,p16,c16,p17,c17,rfl,rfl,h33,h34,h35,h36⟩ _ _ ⟨p18,c18,cs5,rfl,rfl,h39⟩;refine yS [0,1,2,6,7,8,50] rfl ?_;have H:=H.trans le11;exact yH 10 [] [51] rfl<|xQ 2 [vI y16,vI 0,z0,vI 0,vT ([]),z0,vS p18 l c18] rfl<|yE rfl<|zO<|zI<|zL<|yJ [] [8] rfl<|yQ<|jR (zW [0,2,1,3] rfl (by decide))<|nO<|ih_spec_l3Value_l1 depth levels (W (i + 1)) l y20 _ N H h39 h36 hg ho hx
  intro hc4 N;exact wY<|yO<|hx _ _ _ _ _ _ _ _ (zB N).symm H h27 h28
theorem zEr:∀ r0 depth levels r,qI r0 depth levels=some r→∀ {I:Imm}{r01:Nat}{p c},(S4 I p r0.b c)→RT 218 [vP r01 0,vI depth,vI levels] I [hB r01 (cRd r0 p c)] (zAJ r01 r):=zEN.1
def zEO (b0:Nat) (r:zQ×zM):KT:=fun kk I' hs' v=>
  ∃ v0 k0,hs'=[.blk b0 ⟨k0⟩]∧v=tupV [v0]∧(∃ cs,v0=.agg ⟨cs⟩∧Rp.rep I' cs r.1)∧Rp.rep I' k0 r.2
def gD (r0:zM) (depth:Int):Option (zQ×zM):=do
 let (y1,y2)←mM r0 depth
 let (y4,y5)←yU y2 ([2,3,1,2]:List Int)
 let (y7,y8)←qI y5 depth y4
 let y9←sL (zQ.mk y1 y7) depth
 if y9 then
  pure ((zQ.mk y1 y7),y8)
 else
  let y10←pX
  pure ((zQ.mk (zJ.mk (⟨[65]⟩:Str) ([y10]:List zA)) (zG.mk 1 1 (zA.mk ([]:List Int) 0) (zJ.mk (⟨[]⟩:Str) ([]:List zA)) ([]:List zG))),y8)
theorem zFi:∀ r0 depth r,gD r0 depth=some r→∀ {I:Imm}{r01:Nat}{p c},(S4 I p r0.b c)→RT 177 [vP r01 0,vI depth] I [hB r01 (cRd r0 p c)] (zEO r01 r):=by
 intro r0 depth r N I r01 p c h;unfold gD at N;refine yL Tryz.func177 fun B=>yF<|uF [vT ([]),z0,vI 0,vI 0,z0,vI 0,vT ([]),z0,z0] ?_;intro b hb;refine yE rfl<|xG<|yH 2 [] [6,7] rfl<|rW (zY [1,0] (hs':=[hB r01 (cRd r0 p c),hB b [vT ([]),z0,vI 0,vI 0,z0,vI 0,vT ([]),z0,z0]])) ?_;obtain ⟨⟨y1,y2⟩,hy,N⟩:=zC N;refine sR (zB8 r0 depth _ hy h) rfl ?_;rintro I0 hs2 v2 k2 le - ⟨v0,kk,rfl,rfl,⟨cs,rfl,h1⟩,h2⟩ -;obtain ⟨p1,c1,rfl,h3⟩:=oE h1;obtain ⟨p2,c2,rfl,h4⟩:=yA h2;refine yH 6 [] [9,10,11] rfl<|nE (rI [2,3,1,2]) ?_;intro b1 I01 le1 h6;have ⟨h3,h4⟩:=m2 le1 h3 h4;obtain ⟨⟨y4,y5⟩,hy1,N⟩:=zC N;refine sR (xD y2 ([2,3,1,2]:List Int) _ hy1 h4 h6) rfl ?_;rintro I02 hs2 v2 k2 le2 - ⟨v03,kk1,rfl,rfl,rfl,h8⟩ -;have h3:=h3.mono le2;obtain ⟨p3,c3,rfl,h9⟩:=yA h8;obtain ⟨⟨y7,y8⟩,hy2,N⟩:=zC N;refine sR (zEr y5 depth y4 _ hy2 h9) rfl ?_;rintro I03 hs2 v2 k2 le3 - ⟨v05,kk2,rfl,rfl,⟨cs1,rfl,h10⟩,h11⟩ -;have h3:=h3.mono le3;obtain ⟨p4,c4,p5,c5,p6,c6,rfl,h12,h13,h14⟩:=tC h10;obtain ⟨p7,c7,rfl,h15⟩:=yA h11;refine yH 10 [] [15] rfl<|uF [vT ([]),z0,vI 0,vI 0,z0,vI 0,vT ([]),z0,z0] ?_;intro b2 hb2;refine xQ 0 [vT y1.Array.l,vS p1 y1.Subs c1,vI y7.Kind,vI y7.Num,vS p4 y7.Index.Coefs c4,vI y7.Index.Const,vT y7.Read.Array.l,vS p5 y7.Read.Subs c5,vS p6 y7.Kids c6] rfl<|yE rfl<|zX<|yF<|oD 2 [0] [(16,vA [vT y1.Array.l,vS p1 y1.Subs c1,vI y7.Kind,vI y7.Num,vS p4 y7.Index.Coefs c4,vI y7.Index.Const,vT y7.Read.Array.l,vS p5 y7.Read.Subs c5,vS p6 y7.Kids c6]),(17,vI depth)]<|bE N fun y9 hy3 N=>uH (gY (zQ.mk y1 y7) depth _ hy3 h3 h12 h13 h14) ?_;intro I04 le4;have ⟨h3,h12,h13,h14,h15⟩:=m5 le4 h3 h12 h13 h14 h15;refine yE rfl<|zI<|yB N ?_ ?_
 · intro hc N;refine yF<|oD 1 [0] [(19,vA [vT y1.Array.l,vS p1 y1.Subs c1,vI y7.Kind,vI y7.Num,vS p4 y7.Index.Coefs c4,vI y7.Index.Const,vT y7.Read.Array.l,vS p5 y7.Read.Subs c5,vS p6 y7.Kids c6])]<|xQ 2 [vT y1.Array.l,vS p1 y1.Subs c1,vI y7.Kind,vI y7.Num,vS p4 y7.Index.Coefs c4,vI y7.Index.Const,vT y7.Read.Array.l,vS p5 y7.Read.Subs c5,vS p6 y7.Kids c6] rfl<|yE rfl<|xB<|zF ?_;obtain rfl:=zB N;exact xC ⟨_,_,(.cell 2 rfl rfl (by kernel_rfl) ResV.nil),(zW [1] rfl (by decide)),⟨_,_,rfl,rfl,⟨_,rfl,(wZ ⟨_,_,_,_,rfl,h3,h12,h13,h14⟩)⟩,(yT ⟨_,rfl,h15⟩)⟩⟩
 intro hc N;refine zS<|xG<|bE N fun y10 hy4 N=>xV (mV  _ hy4 ) ?_;rintro I05 hs2 v2 k2 le5 - ⟨p8,c8,cs2,rfl,rfl,h17⟩ -;have h15:=h15.mono le5;refine xM 0 rfl ?_;intro I06 le6 hl01;have h18:=SL.of_frozen hl01 le6 h17;have h15:=h15.mono le6;refine tJ (cAff y10 p8 c8) zA ?_;intro b3 hb3;have h19:RL I06 (cAff y10 p8 c8) ([y10]:List zA):=⟨(cAff y10 p8 c8),_,rfl,rfl,(yM ⟨_,rfl,h18⟩),rfl⟩;refine yH 5 [] [24] rfl<|xQ 3 [vT ([65]),vS (some ⟨b3,0,none⟩) ([y10]:List zA) 1,vI 1,vI 1,z0,vI 0,vT ([]),z0,z0] rfl<|yE rfl<|xB<|xA 0 rfl ?_;intro I07 le7 hl02;have h20:=SL.of_frozen hl02 le7 h19;have h15:=h15.mono le7;obtain rfl:=zB N;exact xC ⟨_,_,(.cell 2 rfl rfl (by kernel_rfl) ResV.nil),(zW [1] rfl (by decide)),⟨_,_,rfl,rfl,⟨_,rfl,(wZ ⟨_,_,_,_,rfl,h20,(SL.nil _),(SL.nil _),(SL.nil _)⟩)⟩,(yT ⟨_,rfl,h15⟩)⟩⟩
def zEP (r:(List Str)):KT:=fun kk I' hs' v=>
  ∃ v0,hs'=[]∧v=tupV [v0]∧SL I' v0 r
def pG (s:Str) (c:UInt8) (out:List Str) (from0:Int) (i:Int):Option (List Str):=do
 if (decide (i ≤ (s.l.length:Int))) then
  let t25←(do
    if (i == (s.l.length:Int)) then
     pure true
    else
     let b1←sidx s i
     pure ((b1.toNat:Int) == (c.toNat:Int))
      : Option Bool)
  let (out2,from01)←(do
    if t25 then
     let s1←sslc s from0 i
     let out3←app 16 out ([s1]:List Str)
     pure (out3,(W (i + 1)))
    else
     pure (out,from0)
      : Option (List Str×Int))
  pG s c out2 from01 (W (i + 1))
 else
  pure (id out)
 partial_fixpoint
theorem zDW (s:Str) (c:UInt8):∀ (out:List Str) (from0:Int) (i:Int) (o:List Str),pG s c out from0 i=some o→∀ {B}{I0 I:Imm}{Q p c1 cs},I0.le I→(RL I cs out)→NG Q→NO Q→(∀ (I':Imm) (out1:List Str) (p1:Option Addr) (c2:Nat) (cs1:List Value),o=out1→I0.le I'→(RL I' cs1 out1)→T 36 B Q (.exit 0) I' [hO Str (vS p1 out1 c2) cs1] [(5,vS p1 out1 c2)])→J Tryz.prog 36 B (nav (bodyOf Tryz.f146) [1,1,1,0,1,0]) Q I [hO Str (vS p out c1) cs] [(0,vT s.l),(1,.int .u8 (c.toNat:Int)),(5,vS p out c1),(6,vI from0),(7,vI i)]:=by
 refine pG.partial_correctness s c _ fun self ih out from0 i o N B I0 I Q p c1 cs H h1 hg ho hx=>yR hg ho<|zZ<|yD [12] rfl<|zI<|yB N ?_ ?_
 · intro hc N;refine zS<|zX<|yG<|zZ ?_;refine wP N [hO Str (vS p out c1) cs] (fun t25=>[(0,vT s.l),(1,.int .u8 (c.toNat:Int)),(5,vS p out c1),(6,vI from0),(7,vI i),(25,.bool t25)]) (fun o0 ho0=>?_) ?_
   · have H:=iS I;refine zL<|yH 5 [] [19] rfl<|xZ [19] ho0 ?_ ?_
     · intro hc1 N;exact vG [] [(25,vY)]<|yO<|zV (ct N H)
     intro hc1 N;exact yH 7 [] [20,21] rfl<|bE N fun b1 hy N=>dR rfl rfl hy<|yJ [] [25] rfl<|yO<|zV (ct N H)
   intro t25 I0 le hMc;have ⟨h1,H⟩:=m2 le h1 H;refine zI ?_;obtain ⟨o01,ho01,hMc1⟩:=zC hMc;refine oC (fun I' hs' m'=>∃ (out2:List Str) (from01:Int) (p2:Option Addr) (c3:Nat) (cs2:List Value),o01=(out2,from01)∧I0.le I'∧(RL I' cs2 out2)∧hs'=[hO Str (vS p2 out2 c3) cs2]∧m'=[(0,vT s.l),(1,.int .u8 (c.toNat:Int)),(5,vS p2 out2 c3),(6,vI from01),(7,vI i)]) ?_ ?_
   · have H:=iS I0;refine yB ho01 ?_ ?_
     · intro hc2 N;refine yF<|yH 4 [] [26,27,28,29] rfl<|bE N fun s1 hy1 N=>zGX rfl hy1<|tJ [vT s1.l] Str ?_;intro b2 hb1;have h4:RL I0 [vT s1.l] ([s1]:List Str):=rT [s1];obtain ⟨out3,hy2,N⟩:=zC N;exact qB 9 1 1 rfl rfl rfl h1 (.inr ⟨0,rfl⟩) h4 hy2 fun p3 c4 cs3 h5=>rW (zY [1] (hs':=[hO Str (vS p3 out3 c4) cs3]))<|yJ [] [5] rfl<|zI<|zL<|yJ [] [6] rfl<|yO<|zV ⟨_,_,_,_,_,(zB N).symm,H,h5,rfl,rfl⟩
     intro hc2 N;exact zS<|yO<|zV ⟨_,_,_,_,_,(zB N).symm,H,h1,rfl,rfl⟩
   rintro I01 hs2 m2 ⟨out2,from01,p2,c3,cs2,heq1,le1,h3,rfl,rfl⟩;subst o01;have H:=H.trans le1;exact zO<|zI<|zL<|yJ [] [7] rfl<|yQ<|nO<|ih out2 from01 (W (i + 1)) _ hMc1 H h3 hg ho hx
 intro hc N;exact wY<|yO<|hx _ _ _ _ _ (zB N).symm H h1
def gE (s:Str) (c:UInt8):Option ((List Str)):=do
 let out1←pG s c ([]:List Str) 0 0
 pure (id out1)
theorem zFj:∀ s c r,gE s c=some r→∀ {I:Imm} ,RT 146 [vT s.l,.int .u8 (c.toNat:Int)] I [] (zEP  r):=by
 intro s c r N I;unfold gE at N;refine yL Tryz.func146 fun B=>wV []<|xG<|tJ [] Str ?_;intro b hb;have h:RL I [] ([]:List Str):=rfl;refine yJ [] [5] rfl<|wW [6] rfl<|zX<|yD [7] rfl<|wB<|qW [(0,vT s.l),(1,.int .u8 (c.toNat:Int)),(5,vS (some ⟨b,0,none⟩) ([]:List Str) 0),(6,vI 0),(7,vI 0)] ?_;obtain ⟨o02,ho02,hMl⟩:=zC N;refine zDW s c ([]:List Str) 0 0 o02 ho02 iR h (fun _ _ _ h=>h) (fun _ _ h=>h) ?_;intro I02 out1 p1 c2 cs1 heq2 le2 h2;subst o02;refine zR<|wW [4] rfl<|xB<|xA 0 rfl ?_;intro I03 le3 hl0;have h6:=SL.of_frozen hl0 le3 h2;obtain rfl:=zB hMl;exact xC ⟨_,_,(.tmp rfl ResV.nil),zP,⟨_,rfl,rfl,h6⟩⟩
def pH (s1:Str) (n0:Int) (i:Int):Option (Out Int (Int×Bool)):=do
 if (decide (i < (s1.l.length:Int))) then
  let t54←(do
    let b2←sidx s1 i
    if (decide ((b2.toNat:Int) < 48)) then
     pure true
    else
     let b3←sidx s1 i
     pure (decide ((b3.toNat:Int) > 57))
      : Option Bool)
  if t54 then
   pure (.ret (0,false))
  else
   let b4←sidx s1 i
   pH s1 (W ((W (n0 * 10)) + (W (IntKind.u8.wrap ((b4.toNat:Int) - 48))))) (W (i + 1))
 else
  pure (.done n0)
 partial_fixpoint
theorem zDX (s1:Str):∀ (n0:Int) (i:Int) (o:Out Int (Int×Bool)),pH s1 n0 i=some o→∀ {B}{I0 I:Imm}{Q}{neg:Bool} ,I0.le I→NG Q→NO Q→(∀ (I':Imm) (n01:Int),o=(.done n01)→I0.le I'→T 67 B Q (.exit 0) I' [] [(4,.bool neg),(5,vI n01)])→(∀ r I' hs' m',o=(.ret r)→I0.le I'→RS Tryz.prog Tryz.f233 B (mW  r) I' hs' m'→T 67 B Q .ret I' hs' m')→J Tryz.prog 67 B (nav (bodyOf Tryz.f233) [1,1,1,1,1,0,1,0]) Q I [] [(0,vT s1.l),(4,.bool neg),(5,vI n0),(6,vI i)]:=by
 refine pH.partial_correctness s1 _ fun self ih n0 i o N B I0 I Q neg H hg ho hx hr=>yR hg ho<|zZ<|yD [42] rfl<|zI<|yB N ?_ ?_
 · intro hc7 N;refine zS<|zX<|yG<|zZ<|zZ ?_;refine wP N [] (fun t54=>[(0,vT s1.l),(4,.bool neg),(5,vI n0),(6,vI i),(54,.bool t54)]) (fun o03 ho03=>?_) ?_
   · have H:=iS I;refine zL<|yH 2 [] [45,46] rfl ?_;obtain ⟨b2,hy3,N⟩:=zC ho03;refine dR rfl rfl hy3<|yH 5 [] [49] rfl<|xZ [49] N ?_ ?_
     · intro hc8 N;exact vG [] [(54,vY)]<|yO<|zV (ct N H)
     intro hc8 N;exact yH 7 [] [50,51] rfl<|bE N fun b3 hy4 N=>dR rfl rfl hy4<|yJ [] [54] rfl<|yO<|zV (ct N H)
   intro t54 I03 le3 hMc3;have H:=H.trans le3;refine zI<|yB hMc3 ?_ ?_
   · intro hc9 N;exact yD [2,3] rfl<|xB<|zF<|zU<|zF<|zF<|hr _ _ _ _ (zB N).symm H ⟨_,_,(.tmp rfl (.tmp rfl ResV.nil)),zP,⟨_,_,rfl,rfl,rfl,rfl⟩⟩
   intro hc9 N;exact zS<|zI<|zL<|yH 4 [] [56,57,58] rfl<|bE N fun b4 hy5 N=>dR rfl rfl hy5<|yJ [] [5] rfl<|zO<|zI<|zL<|yJ [] [6] rfl<|yQ<|nO<|ih (W ((W (n0 * 10)) + (W (IntKind.u8.wrap ((b4.toNat:Int) - 48))))) (W (i + 1)) _ N H  hg ho hx hr
 intro hc7 N;exact wY<|yO<|hx _ _ (zB N).symm H
def gF (s:Str):Option (Int×Bool):=do
 let neg←(do
   if (decide ((s.l.length:Int) > 0)) then
    let b←sidx s 0
    pure ((b.toNat:Int) == 45)
   else
    pure false
     : Option Bool)
 let s1←(do
   if neg then
    let s2←sslc s 1 (s.l.length:Int)
    pure (id s2)
   else
    pure (id s)
     : Option Str)
 let t38←(do
   if ((s1.l.length:Int) == 0) then
    pure true
   else
    if (decide ((s1.l.length:Int) > 17)) then
     pure true
    else
     let b1←sidx s1 0
     if ((b1.toNat:Int) == 48) then
      if (decide ((s1.l.length:Int) > 1)) then
       pure true
      else
       pure (id neg)
     else
      pure false
     : Option Bool)
 if t38 then
  pure (0,false)
 else
  match←pH s1 0 0 with
  | .ret r0=>pure r0
  | .done n01 =>
   let n02←(do
     if neg then
      pure (W (0 - n01))
     else
      pure (id n01)
       : Option Int)
   pure (n02,true)
theorem zFk:∀ s r,gF s=some r→∀ {I:Imm} ,RT 233 [vT s.l] I [] (mW  r):=by
 intro s r N I;unfold gF at N;refine yL Tryz.func233 fun B=>?_;have H:=iS I;refine wV []<|zI<|zZ ?_;refine wP N [] (fun neg=>[(0,vT s.l),(4,.bool neg)]) (fun o0 ho0=>?_) ?_
 · have H:=iS I;refine zL<|yH 4 [] [10] rfl<|xZ [10] ho0 ?_ ?_
   · intro hc N;exact yH 5 [] [11] rfl<|bE N fun b hy N=>dR rfl rfl hy<|yJ [] [4] rfl<|yO<|zV (ct N H)
   intro hc N;exact vG [] [(4,vF)]<|yO<|zV (ct N H)
 intro neg I0 le hMc;have H:=H.trans le;refine zX<|yD [15] rfl<|zI ?_;refine wP hMc [] (fun s1=>[(0,vT s1.l),(4,.bool neg)]) (fun o01 ho01=>?_) ?_
 · have H:=iS I0;refine yB ho01 ?_ ?_
   · intro hc1 N;exact zL<|yH 1 [] [16] rfl<|bE N fun s2 hy1 N=>zGX rfl hy1<|yJ [] [0] rfl<|yO<|zV (ct N H)
   intro hc1 N;exact zS<|yO<|zV (ct N H)
 intro s1 I01 le1 hMc1;have H:=H.trans le1;refine zX<|zZ ?_;refine wP hMc1 [] (fun t38=>[(0,vT s1.l),(4,.bool neg),(38,.bool t38)]) (fun o02 ho02=>?_) ?_
 · have H:=iS I01;refine zL<|yH 4 [] [21] rfl<|xZ [21] ho02 ?_ ?_
   · intro hc2 N;exact vG [] [(38,vY)]<|yO<|zV (ct N H)
   intro hc2 N;refine yH 9 [] [26] rfl<|xZ [26] N ?_ ?_
   · intro hc3 N;exact vG [] [(38,vY)]<|yO<|zV (ct N H)
   intro hc3 N;refine yH 10 [] [27] rfl<|bE N fun b1 hy2 N=>dR rfl rfl hy2<|yH 13 [] [30] rfl<|xZ [30] N ?_ ?_
   · intro hc4 N;refine yH 17 [] [34] rfl<|xZ [34] N ?_ ?_
     · intro hc5 N;exact vG [] [(38,vY)]<|yO<|zV (ct N H)
     intro hc5 N;exact yJ [] [38] rfl<|yO<|zV (ct N H)
   intro hc4 N;exact vG [] [(38,vF)]<|yO<|zV (ct N H)
 intro t38 I02 le2 hMc2;have H:=H.trans le2;refine zI<|yB hMc2 ?_ ?_
 · intro hc6 N;refine yD [2,3] rfl<|xB<|zF ?_;obtain rfl:=zB N;exact xC ⟨_,_,(.tmp rfl (.tmp rfl ResV.nil)),zP,⟨_,_,rfl,rfl,rfl,rfl⟩⟩
 intro hc6 N;refine zS<|wW [5] rfl<|zX<|yD [6] rfl<|wB<|qW [(0,vT s1.l),(4,.bool neg),(5,vI 0),(6,vI 0)] ?_;obtain ⟨o04,ho04,hMl⟩:=zC N;refine zDX s1 0 0 o04 ho04 iR  (fun _ _ _ h=>h) (fun _ _ h=>h) ?_ ?_
 · intro I04 n01 heq4 le4;subst o04;have H:=H.trans le4;refine zR<|zX<|yD [63] rfl<|zI ?_;refine wP hMl [] (fun n02=>[(5,vI n02)]) (fun o05 ho05=>?_) ?_
   · have H:=iS I04;refine yB ho05 ?_ ?_
     · intro hc10 N;exact zL<|yJ [] [5] rfl<|yO<|zV (ct N H)
     intro hc10 N;exact zS<|yO<|zV (ct N H)
   intro n02 I05 le5 hMc4;refine wW [2,3] rfl<|zI<|yZ ?_;obtain rfl:=zB hMc4;exact xC ⟨_,_,(.tmp rfl (.tmp rfl ResV.nil)),zP,⟨_,_,rfl,rfl,rfl,rfl⟩⟩
 intro r0 I9 hs9 m9 heq9 le9 hrs9;subst heq9;refine zU<|zF ?_;obtain rfl:=zB hMl;exact xC hrs9
def rM (s:Str) (at0:Int) (end0:Int):Option (Int):=do
 let t31←(do
   if (decide (end0 < (s.l.length:Int))) then
    if (decide (end0 < (W (at0 + 2)))) then
     let b←sidx s end0
     if (decide ((b.toNat:Int) ≥ 48)) then
      let b1←sidx s end0
      pure (decide ((b1.toNat:Int) ≤ 57))
     else
      pure false
    else
     pure false
   else
    pure false
     : Option Bool)
 if t31 then
  rM s at0 (W (end0 + 1))
 else
  pure (id end0)
 partial_fixpoint
theorem zBz (s:Str) (at0:Int):∀ (end0:Int) (o:Int),rM s at0 end0=some o→∀ {B}{I0 I:Imm}{Q}  ,I0.le I→NG Q→NO Q→(∀ (I':Imm) (end01:Int),o=end01→I0.le I'→T 47 B Q (.exit 0) I' [] [(0,vT s.l),(1,vI at0),(6,vI end01)])→J Tryz.prog 47 B (nav (bodyOf Tryz.f255) [1,1,0,0]) Q I [] [(0,vT s.l),(1,vI at0),(6,vI end0)]:=by
 refine rM.partial_correctness s at0 _ fun self ih end0 o N B I0 I Q H hg ho hx=>yR hg ho<|zZ<|zZ ?_;refine wP N [] (fun t31=>[(0,vT s.l),(1,vI at0),(6,vI end0),(31,.bool t31)]) (fun o0 ho0=>?_) ?_
 · have H:=iS I;refine zL<|yH 5 [] [14] rfl<|xZ [14] ho0 ?_ ?_
   · intro hc N;refine yH 11 [] [20] rfl<|xZ [20] N ?_ ?_
     · intro hc1 N;refine yH 13 [] [21,22] rfl<|bE N fun b hy N=>dR rfl rfl hy<|yH 17 [] [26] rfl<|xZ [26] N ?_ ?_
       · intro hc2 N;exact yH 19 [] [27,28] rfl<|bE N fun b1 hy1 N=>dR rfl rfl hy1<|yJ [] [31] rfl<|yO<|zV (ct N H)
       intro hc2 N;exact vG [] [(31,vF)]<|yO<|zV (ct N H)
     intro hc1 N;exact vG [] [(31,vF)]<|yO<|zV (ct N H)
   intro hc N;exact vG [] [(31,vF)]<|yO<|zV (ct N H)
 intro t31 I0 le hMc;have H:=H.trans le;refine zI<|yB hMc ?_ ?_
 · intro hc3 N;exact zS<|wB<|zL<|yJ [] [6] rfl<|zO<|yQ<|nO<|ih (W (end0 + 1)) _ N H  hg ho hx
 intro hc3 N;exact wY<|yO<|hx _ _ (zB N).symm H
def nT (s:Str) (at0:Int):Option (Int×Int):=do
 let end01←rM s at0 at0
 let s1←sslc s at0 end01
 let (y1,y2)←gF s1
 if (!y2) then
  pure (1,at0)
 else
  pure (y1,end01)
theorem zA5:∀ s at0 r,nT s at0=some r→∀ {I:Imm} ,RT 255 [vT s.l,vI at0] I [] (gX  r):=by
 intro s at0 r N I;unfold nT at N;refine yL Tryz.func255 fun B=>wV []<|wW [6] rfl<|zX<|yG<|qW [(0,vT s.l),(1,vI at0),(6,vI at0)] ?_;obtain ⟨o01,ho01,hMl⟩:=zC N;refine zBz s at0 at0 o01 ho01 iR  (fun _ _ _ h=>h) (fun _ _ h=>h) ?_;intro I01 end01 heq1 le1;subst o01;refine zR<|xG<|yH 3 [] [35,36,37] rfl ?_;obtain ⟨s1,hy2,N⟩:=zC hMl;refine zGX rfl hy2 ?_;obtain ⟨⟨y1,y2⟩,hy3,N⟩:=zC N;refine xV (zFk s1 _ hy3 ) ?_;rintro I02 hs2 v2 k2 le2 - ⟨v0,v01,rfl,rfl,rfl,rfl⟩ -;refine yJ [] [7,8] rfl<|zX<|yD [43] rfl<|zI<|yB N ?_ ?_
 · intro hc4 N;refine yD [4,5] rfl<|xB<|zF ?_;obtain rfl:=zB N;exact xC ⟨_,_,(.tmp rfl (.tmp rfl ResV.nil)),zP,⟨_,_,rfl,rfl,rfl,rfl⟩⟩
 intro hc4 N;refine zS<|wW [4,5] rfl<|zI<|yZ ?_;obtain rfl:=zB N;exact xC ⟨_,_,(.tmp rfl (.tmp rfl ResV.nil)),zP,⟨_,_,rfl,rfl,rfl,rfl⟩⟩
def gG (s:Str) (at0:Int):Option (Int):=do
 let t20←(do
   if (decide (at0 ≥ (s.l.length:Int))) then
    pure true
   else
    let b←sidx s at0
    if (decide ((b.toNat:Int) < 105)) then
     pure true
    else
     let b1←sidx s at0
     pure (decide ((b1.toNat:Int) > 108))
     : Option Bool)
 if t20 then
  pure (-1)
 else
  let b2←sidx s at0
  pure (W ((W (b2.toNat:Int)) - 105))
theorem zFl:∀ s at0 r,gG s at0=some r→∀ {I:Imm} ,RT 272 [vT s.l,vI at0] I [] (yP  r):=by
 intro s at0 r N I;unfold gG at N;refine yL Tryz.func272 fun B=>?_;have H:=iS I;refine wV []<|zX<|zZ ?_;refine wP N [] (fun t20=>[(0,vT s.l),(1,vI at0),(20,.bool t20)]) (fun o0 ho0=>?_) ?_
 · have H:=iS I;refine zL<|yH 5 [] [9] rfl<|xZ [9] ho0 ?_ ?_
   · intro hc N;exact vG [] [(20,vY)]<|yO<|zV (ct N H)
   intro hc N;refine yH 7 [] [10,11] rfl<|bE N fun b hy N=>dR rfl rfl hy<|yH 11 [] [15] rfl<|xZ [15] N ?_ ?_
   · intro hc1 N;exact vG [] [(20,vY)]<|yO<|zV (ct N H)
   intro hc1 N;exact yH 13 [] [16,17] rfl<|bE N fun b1 hy1 N=>dR rfl rfl hy1<|yJ [] [20] rfl<|yO<|zV (ct N H)
 intro t20 I0 le hMc;refine zI<|yB hMc ?_ ?_
 · intro hc2 N;refine yD [4] rfl<|xB<|zF ?_;obtain rfl:=zB N;exact wL
 intro hc2 N;refine zS<|xG<|yH 2 [] [21,22] rfl<|bE N fun b2 hy2 N=>dR rfl rfl hy2<|yJ [] [4] rfl<|zI<|yZ ?_;obtain rfl:=zB N;exact wL
def zDY (r:zA×Int):KT:=fun kk I' hs' v=>
  ∃ v0 v1,hs'=[]∧v=tupV [v0,v1]∧(∃ cs,v0=.agg ⟨cs⟩∧Rp.rep I' cs r.1)∧v1=.int .i64 r.2
def jH (a0:zA) (s:Str) (at0:Int):Option (zA×Int):=do
 let b2←sidx s at0
 let sign←(do
   if ((b2.toNat:Int) == 45) then
    pure (-1)
   else
    pure (id 1)
     : Option Int)
 let t27←(do
   let b3←sidx s at0
   if ((b3.toNat:Int) == 45) then
    pure true
   else
    let b4←sidx s at0
    pure ((b4.toNat:Int) == 43)
     : Option Bool)
 let at01←(do
   if t27 then
    pure (W (at0 + 1))
   else
    pure (id at0)
     : Option Int)
 let (y1,y2)←nT s at01
 let t51←(do
   if (decide (y2 > at01)) then
    if (decide (y2 < (s.l.length:Int))) then
     let b5←sidx s y2
     pure ((b5.toNat:Int) == 42)
    else
     pure false
   else
    pure false
     : Option Bool)
 let star←(do
   if t51 then
    pure (W (y2 + 1))
   else
    pure (id y2)
     : Option Int)
 let y3←gG s star
 let l←app 8 ([]:List Int) a0.Coefs
 let t75←(do
   if (decide (y3 ≥ 0)) then
    if (decide (star > y2)) then
     pure true
    else
     pure (y2 == at01)
   else
    pure false
     : Option Bool)
 if t75 then
  let x←idx l y3
  let x1←idx l y3
  let l1←pure (l.set y3.toNat (W (x + (W (sign * y1)))))
  pure ((zA.mk l1 a0.Const),(W (star + 1)))
 else
  if (y2 == at01) then
   pure (a0,(-1))
  else
   pure ((zA.mk l (W (a0.Const + (W (sign * y1))))),y2)
theorem zEs:∀ a0 s at0 r,jH a0 s at0=some r→∀ {I:Imm}{p c},(S4 I p a0.Coefs c)→RT 265 [vA (cAff a0 p c),vT s.l,vI at0] I [] (zDY  r):=by
 intro a0 s at0 r N I p c h;unfold jH at N;refine yL Tryz.func265 fun B=>?_;have H:=iS I;refine yF<|tX (cAff a0 p c) ?_;intro b hb;refine uF [z0,vI 0] ?_;intro b1 hb1;refine vG [] []<|wW [8] rfl<|zX<|yF<|yH 2 [] [14,15] rfl<|bE N fun b2 hy N=>dR rfl rfl hy<|yJ [] [17] rfl<|zI ?_;refine wP N [hB b1 [z0,vI 0],hB b (cAff a0 p c)] (fun sign=>[(1,vT s.l),(2,vI at0),(3,vP b 0),(6,vP b1 0),(8,vI sign)]) (fun o0 ho0=>?_) ?_
 · have H:=iS I;refine yB ho0 ?_ ?_
   · intro hc N;exact zL<|yJ [] [8] rfl<|yO<|zV (ct N H)
   intro hc N;exact zS<|yO<|zV (ct N H)
 intro sign I0 le hMc;have ⟨h,H⟩:=m2 le h H;refine zX<|zZ ?_;refine wP hMc [hB b1 [z0,vI 0],hB b (cAff a0 p c)] (fun t27=>[(1,vT s.l),(2,vI at0),(3,vP b 0),(6,vP b1 0),(8,vI sign),(27,.bool t27)]) (fun o01 ho01=>?_) ?_
 · have H:=iS I0;refine zL<|yH 2 [] [18,19] rfl ?_;obtain ⟨b3,hy1,N⟩:=zC ho01;refine dR rfl rfl hy1<|yH 5 [] [22] rfl<|xZ [22] N ?_ ?_
   · intro hc1 N;exact vG [] [(27,vY)]<|yO<|zV (ct N H)
   intro hc1 N;exact yH 7 [] [23,24] rfl<|bE N fun b4 hy2 N=>dR rfl rfl hy2<|yJ [] [27] rfl<|yO<|zV (ct N H)
 intro t27 I01 le1 hMc1;have ⟨h,H⟩:=m2 le1 h H;refine zI ?_;refine wP hMc1 [hB b1 [z0,vI 0],hB b (cAff a0 p c)] (fun at01=>[(1,vT s.l),(2,vI at01),(3,vP b 0),(6,vP b1 0),(8,vI sign)]) (fun o02 ho02=>?_) ?_
 · have H:=iS I01;refine yB ho02 ?_ ?_
   · intro hc2 N;exact zL<|yJ [] [2] rfl<|yO<|zV (ct N H)
   intro hc2 N;exact zS<|yO<|zV (ct N H)
 intro at01 I02 le2 hMc2;have ⟨h,H⟩:=m2 le2 h H;refine xG<|yH 2 [] [31,32] rfl ?_;obtain ⟨⟨y1,y2⟩,hy3,N⟩:=zC hMc2;refine xV (zA5 s at01 _ hy3 ) ?_;rintro I03 hs2 v2 k2 le3 - ⟨v0,v01,rfl,rfl,rfl,rfl⟩ -;have ⟨h,H⟩:=m2 le3 h H;refine yJ [] [9,10] rfl<|wW [11] rfl<|zX<|zZ ?_;refine wP N [hB b1 [z0,vI 0],hB b (cAff a0 p c)] (fun t51=>[(1,vT s.l),(2,vI at01),(3,vP b 0),(6,vP b1 0),(8,vI sign),(9,vI y1),(10,vI y2),(11,vI y2),(51,.bool t51)]) (fun o03 ho03=>?_) ?_
 · have H:=iS I03;refine zL<|yH 4 [] [40] rfl<|xZ [40] ho03 ?_ ?_
   · intro hc3 N;refine yH 10 [] [46] rfl<|xZ [46] N ?_ ?_
     · intro hc4 N;exact yH 12 [] [47,48] rfl<|bE N fun b5 hy4 N=>dR rfl rfl hy4<|yJ [] [51] rfl<|yO<|zV (ct N H)
     intro hc4 N;exact vG [] [(51,vF)]<|yO<|zV (ct N H)
   intro hc3 N;exact vG [] [(51,vF)]<|yO<|zV (ct N H)
 intro t51 I04 le4 hMc3;have ⟨h,H⟩:=m2 le4 h H;refine zI ?_;refine wP hMc3 [hB b1 [z0,vI 0],hB b (cAff a0 p c)] (fun star=>[(1,vT s.l),(2,vI at01),(3,vP b 0),(6,vP b1 0),(8,vI sign),(9,vI y1),(10,vI y2),(11,vI star)]) (fun o04 ho04=>?_) ?_
 · have H:=iS I04;refine yB ho04 ?_ ?_
   · intro hc5 N;exact zL<|yJ [] [11] rfl<|yO<|zV (ct N H)
   intro hc5 N;exact zS<|yO<|zV (ct N H)
 intro star I05 le5 hMc4;have ⟨h,H⟩:=m2 le5 h H;refine xG<|yH 2 [] [54,55] rfl ?_;obtain ⟨y3,hy5,N⟩:=zC hMc4;refine jD (zFl s star _ hy5 ) ?_;intro I06 le6;have ⟨h,H⟩:=m2 le6 h H;refine yJ [] [12] rfl<|zX<|bE N fun l hy6 N=>wX [.x (fun I' v hx=>∃ b6,v=vS (some ⟨b6,0,none⟩) ([]:List Int) 0∧hx=[hO Int (vS (some ⟨b6,0,none⟩) ([]:List Int) 0) []]∧(RL I' [] ([]:List Int))),.p (vP b 0) [],.p (vS p a0.Coefs c) [1],.x (fun I' v hx=>∃ p1 c1 cs,v=vS p1 l c1∧hx=[hO Int (vS p1 l c1) cs]∧(RL I' cs l)),.p (vP b 1) [],.p (vI a0.Const) [1],.x (fun I' v hx=>∃ p11 c11 cs1,v=vA [vS p11 l c11,vI a0.Const]∧hx=[hO Int (vS p11 l c11) cs1]∧(RL I' cs1 l)),.x (fun I' v hx=>∃ b7,v=vP b7 0∧hx=[hB b7 [z0,vI 0]])] [[],[],[(1,false)],[(0,true),(2,false)],[],[(4,false)],[(3,true),(5,false)],[]] [hB b1 [z0,vI 0],hB b (cAff a0 p c)] [] [(6,true),(7,true)] (zY [0,1]) ?_ ?_
 · refine Ox ?_<|Op<|Op<|Ox ?_<|Op<|Op<|Ox ?_<|Ox ?_<|On
   · intro I1 hf le1;refine eU []<|tJ [] Int ?_;intro b6 hb2;have h4:RL I1 [] ([]:List Int):=rfl;exact yK [hO Int (vS (some ⟨b6,0,none⟩) ([]:List Int) 0) []] iR ⟨_,rfl,rfl,h4⟩
   · rintro I1 hf le1 _ _ ⟨b6,rfl,rfl,h4⟩;refine yS [57,59] rfl ?_;have h:=h.mono le1;obtain ⟨ccs,k0,k01⟩:=h;have h:SL I1 (vS p a0.Coefs c) a0.Coefs:=⟨_,k0,k01⟩;exact qB 3 1 0 rfl rfl rfl h4 (.inl k0) k01 hy6 fun p1 c1 cs h5=>uG (hs':=(hO Int (vS p1 l c1) cs::hB b1 [z0,vI 0]::hB b (cAff a0 p c)::hf)) rfl<|yK [hO Int (vS p1 l c1) cs] iR ⟨_,_,_,rfl,rfl,h5⟩
   · rintro I1 hf le1 _ _ ⟨p1,c1,cs,rfl,rfl,h5⟩;exact yS [60,62] rfl<|oH 7 [(63,vA [vS p1 l c1,vI a0.Const])]<|yK [hO Int (vS p1 l c1) cs] iR ⟨_,_,_,rfl,rfl,h5⟩
   intro I1 hf le1;refine eU []<|uF [z0,vI 0] ?_;intro b7 hb3;exact yK [hB b7 [z0,vI 0]] iR ⟨_,rfl,rfl⟩
 rintro I07 le7 _ _ ⟨p11,c11,cs1,rfl,rfl,h51⟩ _ _ ⟨b7,rfl,rfl⟩;refine yS [2,3,6,8,9,10,11,12,13,63] rfl ?_;have ⟨h,H⟩:=m2 le7 h H;refine xQ 0 [vS p11 l c11,vI a0.Const] rfl<|yE rfl<|zX<|zZ ?_;refine wP N [hB b7 [vS p11 l c11,vI a0.Const],hO Int (vS p11 l c11) cs1,hB b1 [z0,vI 0],hB b (cAff a0 p c)] (fun t75=>[(2,vI at01),(3,vP b 0),(6,vP b1 0),(8,vI sign),(9,vI y1),(10,vI y2),(11,vI star),(12,vI y3),(13,vP b7 0),(75,.bool t75)]) (fun o05 ho05=>?_) ?_
 · have H:=iS I07;refine zL<|yH 3 [] [66] rfl<|xZ [66] ho05 ?_ ?_
   · intro hc6 N;refine yH 7 [] [70] rfl<|xZ [70] N ?_ ?_
     · intro hc7 N;exact vG [] [(75,vY)]<|yO<|zV (ct N H)
     intro hc7 N;exact yJ [] [75] rfl<|yO<|zV (ct N H)
   intro hc6 N;exact vG [] [(75,vF)]<|yO<|zV (ct N H)
 intro t75 I08 le8 hMc5;have ⟨h51,h⟩:=m2 le8 h51 h;refine zI<|yB hMc5 ?_ ?_
 · intro hc8 N;refine zZ<|bE N fun x hy7 N=>wX [.p (vP b7 0) [],.p (vS p11 l c11) [0],.p (vI y3) [],.p (vP b7 0) [],.p (vS p11 l c11) [0],.p (vI y3) [],.x (fun I' v hx=>∃ ad,v=.pointer (some ad)∧hx=[]∧(AtO (vS p11 l c11) (Rp.sz Int) y3.toNat ad)∧((cs1.drop (y3.toNat * Rp.sz Int)).take (Rp.sz Int)=[vI x])),.q (vI x),.p (vI sign) [],.p (vI y1) [],.p (vI (W (sign * y1))) [],.p (vI (W (x + (W (sign * y1))))) []] [[],[(0,false)],[],[],[(3,false)],[],[(4,false),(5,false)],[(6,false)],[],[],[(8,false),(9,false)],[(7,false),(10,false)]] [hB b7 [vS p11 l c11,vI a0.Const],hO Int (vS p11 l c11) cs1,hB b1 [z0,vI 0],hB b (cAff a0 p c)] [] [(1,false),(2,false),(11,false)] (zY [0,1,2,3]) ?_ ?_
   · refine Op<|Op<|Op<|Op<|Op<|Op<|Ox ?_<|Oq ?_<|Op<|Op<|Op<|Op<|On
     · intro I1 hf le1;refine yS [80,81] rfl ?_;have h51:=iM le1 h51;refine kI 1 rfl rfl rfl h51 hy7 ?_;intro ad ccs1 hat hcc hrep;obtain rfl:=hrep;exact yK [] iR ⟨_,rfl,rfl,hat,hcc⟩
     rintro I1 hf le1 _ _ ⟨ad,rfl,rfl,hat,hcc⟩;exact yS [82] rfl<|zBZ 1 0 hat hcc [vI x] (vI x) rfl rfl<|xF iR
   intro I09 le9;refine yS [6,11,13,77,78,87] rfl ?_;have h51:=iM le9 h51;obtain ⟨x1,hy8,N⟩:=zC N;refine kI 1 rfl rfl rfl h51 hy8 ?_;intro ad1 ccs2 hat1 hcc1 hrep1;obtain rfl:=hrep1;obtain ⟨l1,hy9,N⟩:=zC N;refine oJ (c:=[vI (W (x + (W (sign * y1))))]) (x':=(W (x + (W (sign * y1))))) 1 0 rfl rfl rfl hat1 rfl rfl hcc1 (by kernel_rfl) (by kernel_rfl) (by kernel_rfl) h51 hy8 (by kernel_rfl) rfl ?_;rw [show l.set y3.toNat (W (x + (W (sign * y1))))=l1 from zB hy9];intro cs2 h6 hl0;refine kT (m':=[(6,vP b1 0),(11,vI star),(13,vP b7 0),(77,vS p11 l c11),(78,vI y3),(87,vI (W (x + (W (sign * y1)))))]) ⟨rfl,rfl,rfl,rfl,rfl,rfl,trivial⟩<|zAj (hs':=[hB b7 [vS p11 l1 c11,vI a0.Const],hO Int (vS p11 l1 c11) cs2,hB b1 [z0,vI 0],hB b (cAff a0 p c)]) (m':=[(6,vP b1 0),(11,vI star),(13,vP b7 0),(77,vS p11 l1 c11),(78,vI y3),(87,vI (W (x + (W (sign * y1)))))]) (by first | rfl | simp only [vS,hl0,List.nil_append,List.cons_append,List.set_cons_zero,List.set_cons_succ,List.eraseIdx_cons_zero,List.eraseIdx_cons_succ]) (by first | rfl | simp only [vS,hl0])<|yE rfl<|xG<|oD 3 [0] [(89,vA [vS p11 l1 c11,vI a0.Const]),(91,vI (W (star + 1)))]<|xQ 2 [vS p11 l1 c11,vI a0.Const] rfl<|yJ [] [7] rfl<|xB<|zF<|xA 1 rfl ?_;intro I010 le10 hl01;have h7:=SL.of_frozen hl01 le10 h6;obtain rfl:=zB N;exact xC ⟨_,_,(.cell 1 rfl rfl (by kernel_rfl) (.tmp rfl ResV.nil)),zP,⟨_,_,rfl,rfl,⟨_,rfl,(yM ⟨_,rfl,h7⟩)⟩,rfl⟩⟩
 intro hc8 N;refine zS<|zX<|yD [94] rfl<|zI<|yB N ?_ ?_
 · intro hc9 N;refine yF<|oD 1 [3] [(95,vA (cAff a0 p c))]<|xQ 2 (cAff a0 p c) rfl<|yJ [] [7] rfl<|xB<|zF ?_;obtain rfl:=zB N;exact xC ⟨_,_,(.cell 2 rfl rfl (by kernel_rfl) (.tmp rfl ResV.nil)),zP,⟨_,_,rfl,rfl,⟨_,rfl,(yM ⟨_,rfl,h⟩)⟩,rfl⟩⟩
 intro hc9 N;refine zS<|xG<|yH 7 [0] [101,102] rfl<|xQ 0 [vS p11 l c11,vI (W (a0.Const + (W (sign * y1))))] rfl<|yE rfl<|xG<|oD 2 [0] [(103,vA [vS p11 l c11,vI (W (a0.Const + (W (sign * y1))))]),(104,vI y2)]<|xQ 2 [vS p11 l c11,vI (W (a0.Const + (W (sign * y1))))] rfl<|yJ [] [7] rfl<|xB<|xA 1 rfl ?_;intro I011 le11 hl02;have h8:=SL.of_frozen hl02 le11 h51;obtain rfl:=zB N;exact xC ⟨_,_,(.cell 1 rfl rfl (by kernel_rfl) (.tmp rfl ResV.nil)),zP,⟨_,_,rfl,rfl,⟨_,rfl,(yM ⟨_,rfl,h8⟩)⟩,rfl⟩⟩
def rR (r:Str):KT:=fun kk I' hs' v=>
  ∃ v0,hs'=[]∧v=tupV [v0]∧v0=.string ⟨⟨r.l⟩⟩
def pI (n01:Int) (out:Str):Option ((Int×Str)):=do
 if (decide (n01 > 9)) then
  let s1←cat (⟨([(u8 (W (48 + (n01.tmod 10))))]:List UInt8)⟩:Str) out
  pI (W (n01.tdiv 10)) s1
 else
  pure (n01,out)
 partial_fixpoint
theorem zDZ :∀ (n01:Int) (out:Str) (o:(Int×Str)),pI n01 out=some o→∀ {B}{I0 I:Imm}{Q}  ,I0.le I→NG Q→NO Q→(∀ (I':Imm) (n02:Int) (out1:Str),o=(n02,out1)→I0.le I'→T 31 B Q (.exit 0) I' [] [(0,vI n02),(3,vT out1.l)])→J Tryz.prog 31 B (nav (bodyOf Tryz.f189) [1,1,1,1,0,0]) Q I [] [(0,vI n01),(3,vT out.l)]:=by
 refine pI.partial_correctness  _ fun self ih n01 out o N B I0 I Q H hg ho hx=>yR hg ho<|zZ<|yD [13] rfl<|zI<|yB N ?_ ?_
 · intro hc2 N;refine zS<|wB<|yF<|yH 3 [] [16] rfl<|zMg (d:=17) (i:=(W (48 + (n01.tmod 10)))) rfl (by kernel_rfl)<|tJ [.int .u8 ((u8 (W (48 + (n01.tmod 10)))).toNat:Int)] UInt8 ?_;intro b hb;have h1:RL I [.int .u8 ((u8 (W (48 + (n01.tmod 10)))).toNat:Int)] ([(u8 (W (48 + (n01.tmod 10))))]:List UInt8):=⟨[.int .u8 ((u8 (W (48 + (n01.tmod 10)))).toNat:Int)],_,rfl,rfl,rfl,rfl⟩;exact zJF (l:=([(u8 (W (48 + (n01.tmod 10))))]:List UInt8)) rfl rfl rfl rfl (by kernel_rfl) (by kernel_rfl) (.inr ⟨0,rfl⟩) h1<|yH 7 [] [20] rfl<|bE N fun s1 hy2 N=>dC rfl hy2<|yJ [] [3] rfl<|zI<|zL<|yJ [] [0] rfl<|zO<|yQ<|jR zP<|nO<|ih (W (n01.tdiv 10)) s1 _ N H  hg ho hx
 intro hc2 N;exact wY<|yO<|hx _ _ _ (zB N).symm H
def rY (n0:Int):Option (Str):=do
 if (decide (n0 < (-9223372036854775807))) then
  pure (⟨[45,57,50,50,51,51,55,50,48,51,54,56,53,52,55,55,53,56,48,56]⟩:Str)
 else
  if (decide (n0 < 0)) then
   let y←rY (W (0 - n0))
   let s←cat (⟨[45]⟩:Str) y
   pure (id s)
  else
   let (n02,out1)←pI n0 (⟨[]⟩:Str)
   let s2←cat (⟨([(u8 (W (48 + n02)))]:List UInt8)⟩:Str) out1
   pure (id s2)
 partial_fixpoint
theorem dJ:∀ n0 r,rY n0=some r→∀ {I:Imm} ,RT 189 [vI n0] I [] (rR  r):=by
 refine rY.partial_correctness _ fun F_spec_l16Dec ih_spec_l16Dec n0 r N I=>yL Tryz.func189 fun B=>wV []<|zX<|yD [5] rfl<|zI<|yB N ?_ ?_
 · intro hc N;refine yD [2] rfl<|xB<|zF ?_;obtain rfl:=zB N;exact wL
 intro hc N;refine zS<|zX<|yD [7] rfl<|zI<|yB N ?_ ?_
 · intro hc1 N;refine yF<|yH 2 [] [9] rfl<|bE N fun y hy N=>xV (ih_spec_l16Dec (W (0 - n0)) _ hy ) ?_;rintro I0 hs2 v2 k2 le - ⟨v0,rfl,rfl,rfl⟩ -;obtain ⟨s,hy1,N⟩:=zC N;refine dC rfl hy1<|yJ [] [2] rfl<|xB<|zF ?_;obtain rfl:=zB N;exact wL
 intro hc1 N;refine zS<|wW [3] rfl<|zX<|yG<|qW [(0,vI n0),(3,vT ([]))] ?_;obtain ⟨o0,ho0,hMl⟩:=zC N;refine zDZ n0 (⟨[]⟩:Str) o0 ho0 iR  (fun _ _ _ h=>h) (fun _ _ h=>h) ?_;intro I01 n02 out1 heq le1;subst o0;refine zR<|xG<|yH 2 [] [25] rfl<|zMg (d:=26) (i:=(W (48 + n02))) rfl (by kernel_rfl)<|tJ [.int .u8 ((u8 (W (48 + n02))).toNat:Int)] UInt8 ?_;intro b1 hb1;have h2:RL I01 [.int .u8 ((u8 (W (48 + n02))).toNat:Int)] ([(u8 (W (48 + n02)))]:List UInt8):=⟨[.int .u8 ((u8 (W (48 + n02))).toNat:Int)],_,rfl,rfl,rfl,rfl⟩;refine zJF (l:=([(u8 (W (48 + n02)))]:List UInt8)) rfl rfl rfl rfl (by kernel_rfl) (by kernel_rfl) (.inr ⟨0,rfl⟩) h2<|yH 6 [] [29] rfl ?_;obtain ⟨s2,hy3,N⟩:=zC hMl;refine dC rfl hy3<|yJ [] [2] rfl<|zI<|yZ ?_;obtain rfl:=zB N;exact wL
end Go.LN
