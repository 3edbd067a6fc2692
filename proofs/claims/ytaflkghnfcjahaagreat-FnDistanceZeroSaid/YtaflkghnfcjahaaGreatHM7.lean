/- Helper of the proof (see the last text). -/
import Derived.Test.YtaflkghnfcjahaaGreatHM6
set_option linter.unusedVariables false
set_option linter.unusedSimpArgs false
namespace Go.LN
open Go.Proofs
set_option maxRecDepth 20000
def qV (list:(List (List Int))) (d0:(List Int)) (out:List (List Int)) (done:Bool) (i:Int):Option (Out (List (List Int)×Bool) ((List (List Int)))):=do
 if (decide (i < (list.length:Int))) then
  let x←idx list i
  let y←gL x d0
  if y then
   pure (.ret list)
  else
   let t31←(do
     if (!done) then
      let x1←idx list i
      let y1←jO d0 x1
      pure (id y1)
     else
      pure false
       : Option Bool)
   let (out2,done2)←(do
     if t31 then
      let out3←app 24 out ([d0]:List (List Int))
      pure (out3,true)
     else
      pure (out,done)
       : Option (List (List Int)×Bool))
   let x2←idx list i
   let out4←app 24 out2 ([x2]:List (List Int))
   qV list d0 out4 done2 (W (i + 1))
 else
  pure (.done (out,done))
 partial_fixpoint
theorem zEX (list:(List (List Int))) (d0:(List Int)):∀ (out:List (List Int)) (done:Bool) (i:Int) (o:Out (List (List Int)×Bool) ((List (List Int)))),qV list d0 out done i=some o→∀ {B}{I0 I:Imm}{Q p c p1 c1 p2 c2 cs},I0.le I→(S4 I p list c)→(S4 I p1 d0 c1)→(RL I cs out)→NG Q→NO Q→(∀ (I':Imm) (out1:List (List Int)) (done1:Bool) (p3:Option Addr) (c3:Nat) (cs1:List Value),o=(.done (out1,done1))→I0.le I'→(RL I' cs1 out1)→T 50 B Q (.exit 0) I' [hO (List Int) (vS p3 out1 c3) cs1] [(1,vS p1 d0 c1),(5,vS p3 out1 c3),(6,.bool done1)])→(∀ r I' hs' m',o=(.ret r)→I0.le I'→RS Tryz.prog Tryz.f135 B (xN  r) I' hs' m'→T 50 B Q .ret I' hs' m')→J Tryz.prog 50 B (nav (bodyOf Tryz.f135) [1,1,1,0,1,0]) Q I [hO (List Int) (vS p2 out c2) cs] [(0,vS p list c),(1,vS p1 d0 c1),(5,vS p2 out c2),(6,.bool done),(7,vI i)]:=by
 refine qV.partial_correctness list d0 _ fun self ih out done i o N B I0 I Q p c p1 c1 p2 c2 cs H h h1 h3 hg ho hx hr=>yR hg ho<|zZ<|yD [12] rfl<|zI<|yB N ?_ ?_
 · intro hc N;refine zS<|zX<|yG<|zZ<|yF<|yH 2 [] [15,16] rfl<|bE N fun x hy N=>xS rfl rfl h hy ?_;intro ad ccs hat hrep;obtain ⟨v0,rfl,h5⟩:=hrep;obtain ⟨p4,c4,rfl⟩:=h5.form;refine xL 0 hat [vS p4 x c4] (vS p4 x c4) rfl<|yH 5 [] [19] rfl<|bE N fun y hy1 N=>uH (zFt x d0 _ hy1 h5 h1) ?_;intro I0 le;have ⟨h,h1,h3,H⟩:=m4 le h h1 h3 H;refine yE rfl<|zI<|yB N ?_ ?_
   · intro hc1 N;exact yD [4] rfl<|xB<|zF<|zU<|zF<|zF<|hr _ _ _ _ (zB N).symm H ⟨_,_,(.tmp rfl ResV.nil),zP,⟨_,rfl,rfl,h⟩⟩
   intro hc1 N;refine zS<|zX<|zZ ?_;refine wP N [hO (List Int) (vS p2 out c2) cs] (fun t31=>[(0,vS p list c),(1,vS p1 d0 c1),(5,vS p2 out c2),(6,.bool done),(7,vI i),(31,.bool t31)]) (fun o0 ho0=>?_) ?_
   · have H:=iS I0;refine zL<|yH 3 [] [24] rfl<|xZ [24] ho0 ?_ ?_
     · intro hc2 N;refine yH 6 [] [25,26,27] rfl<|bE N fun x1 hy2 N=>xS rfl rfl h hy2 ?_;intro ad1 ccs1 hat1 hrep1;obtain ⟨v02,rfl,h7⟩:=hrep1;obtain ⟨p5,c5,rfl⟩:=h7.form;refine xL 0 hat1 [vS p5 x1 c5] (vS p5 x1 c5) rfl<|bE N fun y1 hy3 N=>uH (zEz d0 x1 _ hy3 h1 h7) ?_;intro I02 le1;have H:=H.trans le1;exact yJ [] [31] rfl<|yO<|zV (ct N H)
     intro hc2 N;exact vG [] [(31,vF)]<|yO<|zV (ct N H)
   intro t31 I01 le2 hMc;have ⟨h,h1,h3,H⟩:=m4 le2 h h1 h3 H;refine zI ?_;obtain ⟨o01,ho01,hMc1⟩:=zC hMc;refine oC (fun I' hs' m'=>∃ (out2:List (List Int)) (done2:Bool) (p6:Option Addr) (c6:Nat) (cs2:List Value),o01=(out2,done2)∧I01.le I'∧(RL I' cs2 out2)∧hs'=[hO (List Int) (vS p6 out2 c6) cs2]∧m'=[(0,vS p list c),(1,vS p1 d0 c1),(5,vS p6 out2 c6),(6,.bool done2),(7,vI i)]) ?_ ?_
   · have H:=iS I01;refine yB ho01 ?_ ?_
     · intro hc3 N;refine yF<|yH 2 [] [32,33] rfl<|tJ [vS p1 d0 c1] (List Int) ?_;intro b1 hb1;have h10:RL I01 [vS p1 d0 c1] ([d0]:List (List Int)):=⟨[vS p1 d0 c1],_,rfl,rfl,⟨_,rfl,h1⟩,rfl⟩;obtain ⟨out3,hy4,N⟩:=zC N;exact qB 36 1 1 rfl rfl rfl h3 (.inr ⟨0,rfl⟩) h10 hy4 fun p7 c7 cs3 h11=>rW (zY [1] (hs':=[hO (List Int) (vS p7 out3 c7) cs3]))<|yJ [] [5] rfl<|zI<|zL<|vG [] [(6,vY)]<|yO<|zV ⟨_,_,_,_,_,(zB N).symm,H,h11,rfl,rfl⟩
     intro hc3 N;exact zS<|yO<|zV ⟨_,_,_,_,_,(zB N).symm,H,h3,rfl,rfl⟩
   rintro I03 hs2 m2 ⟨out2,done2,p6,c6,cs2,heq1,le3,h9,rfl,rfl⟩;subst o01;have ⟨h,h1,H⟩:=m3 le3 h h1 H;refine zI<|zL<|yH 3 [] [36,37,38] rfl ?_;obtain ⟨x2,hy5,N⟩:=zC hMc1;refine xS rfl rfl h hy5 ?_;intro ad2 ccs2 hat2 hrep2;obtain ⟨v04,rfl,h12⟩:=hrep2;obtain ⟨p8,c8,rfl⟩:=h12.form;refine xL 0 hat2 [vS p8 x2 c8] (vS p8 x2 c8) rfl<|tJ [vS p8 x2 c8] (List Int) ?_;intro b2 hb2;have h13:RL I03 [vS p8 x2 c8] ([x2]:List (List Int)):=⟨[vS p8 x2 c8],_,rfl,rfl,⟨_,rfl,h12⟩,rfl⟩;obtain ⟨out4,hy6,N⟩:=zC N;exact qB 36 1 1 rfl rfl rfl h9 (.inr ⟨0,rfl⟩) h13 hy6 fun p9 c9 cs4 h14=>rW (zY [1] (hs':=[hO (List Int) (vS p9 out4 c9) cs4]))<|yJ [] [5] rfl<|zO<|zI<|zL<|yJ [] [7] rfl<|yQ<|nO<|ih out4 done2 (W (i + 1)) _ N H h h1 h14 hg ho hx hr
 intro hc N;exact wY<|yO<|hx _ _ _ _ _ _ (zB N).symm H h3
def fH (list:(List (List Int))) (d0:(List Int)):Option ((List (List Int))):=do
 match←qV list d0 ([]:List (List Int)) false 0 with
 | .ret r0=>pure r0
 | .done (out1,done1) =>
  let out5←(do
    if (!done1) then
     let out6←app 24 out1 ([d0]:List (List Int))
     pure (id out6)
    else
     pure (id out1)
      : Option (List (List Int)))
  pure (id out5)
theorem zG0:∀ list d0 r,fH list d0=some r→∀ {I:Imm}{p c p1 c1},(S4 I p list c)→(S4 I p1 d0 c1)→RT 135 [vS p list c,vS p1 d0 c1] I [] (xN  r):=by
 intro list d0 r N I p c p1 c1 h h1;unfold fH at N;refine yL Tryz.func135 fun B=>?_;have H:=iS I;refine wV []<|xG<|tJ [] (List Int) ?_;intro b hb;have h2:RL I [] ([]:List (List Int)):=rfl;refine yJ [] [5] rfl<|zDB [(6,vF)]<|zX<|yD [7] rfl<|wB<|qW [(0,vS p list c),(1,vS p1 d0 c1),(5,vS (some ⟨b,0,none⟩) ([]:List (List Int)) 0),(6,vF),(7,vI 0)] ?_;obtain ⟨o02,ho02,hMl⟩:=zC N;refine zEX list d0 ([]:List (List Int)) false 0 o02 ho02 iR h h1 h2 (fun _ _ _ h=>h) (fun _ _ h=>h) ?_ ?_
 · intro I04 out1 done1 p3 c3 cs1 heq2 le4 h4;subst o02;have ⟨h1,H⟩:=m2 le4 h1 H;refine zR<|zX<|yD [44] rfl<|zI ?_;obtain ⟨o03,ho03,hMc2⟩:=zC hMl;refine oC (fun I' hs' m'=>∃ (out5:List (List Int)) (p10:Option Addr) (c10:Nat) (cs5:List Value),o03=out5∧I04.le I'∧(RL I' cs5 out5)∧hs'=[hO (List Int) (vS p10 out5 c10) cs5]∧m'=[(5,vS p10 out5 c10)]) ?_ ?_
   · have H:=iS I04;refine yB ho03 ?_ ?_
     · intro hc4 N;refine zL<|yH 2 [] [45,46] rfl<|tJ [vS p1 d0 c1] (List Int) ?_;intro b3 hb3;have h16:RL I04 [vS p1 d0 c1] ([d0]:List (List Int)):=⟨[vS p1 d0 c1],_,rfl,rfl,⟨_,rfl,h1⟩,rfl⟩;obtain ⟨out6,hy7,N⟩:=zC N;exact qB 36 1 1 rfl rfl rfl h4 (.inr ⟨0,rfl⟩) h16 hy7 fun p11 c11 cs6 h17=>rW (zY [1] (hs':=[hO (List Int) (vS p11 out6 c11) cs6]))<|yJ [] [5] rfl<|yO<|zV ⟨_,_,_,_,(zB N).symm,H,h17,rfl,rfl⟩
     intro hc4 N;exact zS<|yO<|zV ⟨_,_,_,_,(zB N).symm,H,h4,rfl,rfl⟩
   rintro I05 hs2 m2 ⟨out5,p10,c10,cs5,heq3,le5,h15,rfl,rfl⟩;subst o03;refine wW [4] rfl<|xB<|xA 0 rfl ?_;intro I06 le6 hl0;have h18:=SL.of_frozen hl0 le6 h15;obtain rfl:=zB hMc2;exact xC ⟨_,_,(.tmp rfl ResV.nil),zP,⟨_,rfl,rfl,h18⟩⟩
 intro r0 I9 hs9 m9 heq9 le9 hrs9;subst heq9;refine zU<|zF ?_;obtain rfl:=zB hMl;exact xC hrs9
def zDf (r:(List Int)):KT:=fun kk I' hs' v=>
  ∃ v0,hs'=[]∧v=tupV [v0]∧SL I' v0 r
def qP (a0:(List Int)) (b:(List Int)) (out:List Int) (i:Int):Option (List Int):=do
 if (decide (i < (a0.length:Int))) then
  let x←idx a0 i
  let x1←idx b i
  let out2←app 8 out ([(W (x - x1))]:List Int)
  qP a0 b out2 (W (i + 1))
 else
  pure (id out)
 partial_fixpoint
theorem zCk (a0:(List Int)) (b:(List Int)):∀ (out:List Int) (i:Int) (o:List Int),qP a0 b out i=some o→∀ {B}{I0 I:Imm}{Q p c p1 c1 p2 c2 cs},I0.le I→(S4 I p a0 c)→(S4 I p1 b c1)→(RL I cs out)→NG Q→NO Q→(∀ (I':Imm) (out1:List Int) (p3:Option Addr) (c3:Nat) (cs1:List Value),o=out1→I0.le I'→(RL I' cs1 out1)→T 27 B Q (.exit 0) I' [hO Int (vS p3 out1 c3) cs1] [(5,vS p3 out1 c3)])→J Tryz.prog 27 B (nav (bodyOf Tryz.f136) [1,1,0,1,0]) Q I [hO Int (vS p2 out c2) cs] [(0,vS p a0 c),(1,vS p1 b c1),(5,vS p2 out c2),(6,vI i)]:=by
 refine qP.partial_correctness a0 b _ fun self ih out i o N B I0 I Q p c p1 c1 p2 c2 cs H h h1 h3 hg ho hx=>yR hg ho<|zZ<|yD [11] rfl<|zI<|yB N ?_ ?_
 · intro hc N;refine zS<|zX<|yG ?_;obtain ⟨x,hy,N⟩:=zC N;obtain ⟨x1,hy1,N⟩:=zC N;obtain ⟨out2,hy2,N⟩:=zC N;refine wX [.p (vS p2 out c2) [],.p (vS p a0 c) [],.p (vI i) [],.x (fun I' v hx=>∃ ad,v=.pointer (some ad)∧hx=[]∧(At I' ad [vI x])),.q (vI x),.p (vS p1 b c1) [],.p (vI i) [],.x (fun I' v hx=>∃ ad1,v=.pointer (some ad1)∧hx=[]∧(At I' ad1 [vI x1])),.q (vI x1),.p (vI (W (x - x1))) [],.x (fun I' v hx=>∃ b2,v=vS (some ⟨b2,0,none⟩) ([(W (x - x1))]:List Int) 1∧hx=[]∧(SL I' (vS (some ⟨b2,0,none⟩) ([(W (x - x1))]:List Int) 1) ([(W (x - x1))]:List Int))),.x (fun I' v hx=>∃ p4 c4 cs2,v=vS p4 out2 c4∧hx=[hO Int (vS p4 out2 c4) cs2]∧(RL I' cs2 out2))] [[],[],[],[(1,false),(2,false)],[(3,false)],[],[],[(5,false),(6,false)],[(7,false)],[(4,false),(8,false)],[(9,false)],[(0,false),(10,false),(13,true)]] [] [[hO Int (vS p2 out c2) cs]] [(11,true)] (zY [0]) ?_ ?_
   · refine Op<|Op<|Op<|Ox ?_<|Oq ?_<|Op<|Op<|Ox ?_<|Oq ?_<|Op<|Ox ?_<|Ox ?_<|On
     · intro I1 hf le1;refine yS [15,16] rfl ?_;have h:=h.mono le1;refine xS rfl rfl h hy ?_;intro ad ccs hat hrep;obtain rfl:=hrep;exact yK [] iR ⟨_,rfl,rfl,hat⟩
     · rintro I1 hf le1 _ _ ⟨ad,rfl,rfl,hat⟩;exact yS [17] rfl<|xL 0 hat [vI x] (vI x) rfl<|xF iR
     · intro I1 hf le1;refine yS [19,20] rfl ?_;have h1:=h1.mono le1;refine xS rfl rfl h1 hy1 ?_;intro ad1 ccs1 hat1 hrep1;obtain rfl:=hrep1;exact yK [] iR ⟨_,rfl,rfl,hat1⟩
     · rintro I1 hf le1 _ _ ⟨ad1,rfl,rfl,hat1⟩;exact yS [21] rfl<|xL 0 hat1 [vI x1] (vI x1) rfl<|xF iR
     · intro I1 hf le1;refine yS [23] rfl ?_;have H:=iS I1;refine nE (rI [(W (x - x1))]) ?_;intro b2 I0 le h6;have H:=H.trans le;exact yK [] H ⟨_,rfl,rfl,h6⟩
     rintro I1 hf le1 _ _ ⟨rfl,rfl⟩ _ _ ⟨b2,rfl,rfl,h6⟩ _ _ rfl;refine yS [14,24] rfl ?_;have h3:=iM le1 h3;obtain ⟨ccs2,k0,k01⟩:=h6;have h6:SL I1 (vS (some ⟨b2,0,none⟩) ([(W (x - x1))]:List Int) 1) ([(W (x - x1))]:List Int):=⟨_,k0,k01⟩;exact qB 3 1 0 rfl rfl rfl h3 (.inl k0) k01 hy2 fun p4 c4 cs2 h7=>uG (hs':=(hO Int (vS p4 out2 c4) cs2::hf)) rfl<|yK [hO Int (vS p4 out2 c4) cs2] iR ⟨_,_,_,rfl,rfl,h7⟩
   rintro I01 le1 _ _ ⟨p4,c4,cs2,rfl,rfl,h7⟩;refine yS [0,1,6,25] rfl ?_;have ⟨h,h1,H⟩:=m3 le1 h h1 H;exact yJ [] [5] rfl<|zO<|zI<|zL<|yJ [] [6] rfl<|yQ<|nO<|ih out2 (W (i + 1)) _ N H h h1 h7 hg ho hx
 intro hc N;exact wY<|yO<|hx _ _ _ _ _ (zB N).symm H h3
def jP (a0:(List Int)) (b:(List Int)):Option ((List Int)):=do
 let out1←qP a0 b ([]:List Int) 0
 pure (id out1)
theorem zFA:∀ a0 b r,jP a0 b=some r→∀ {I:Imm}{p c p1 c1},(S4 I p a0 c)→(S4 I p1 b c1)→RT 136 [vS p a0 c,vS p1 b c1] I [] (zDf  r):=by
 intro a0 b r N I p c p1 c1 h h1;unfold jP at N;refine yL Tryz.func136 fun B=>wV []<|xG<|tJ [] Int ?_;intro b1 hb;have h2:RL I [] ([]:List Int):=rfl;refine yJ [] [5] rfl<|zX<|yD [6] rfl<|wB<|qW [(0,vS p a0 c),(1,vS p1 b c1),(5,vS (some ⟨b1,0,none⟩) ([]:List Int) 0),(6,vI 0)] ?_;obtain ⟨o0,ho0,hMl⟩:=zC N;refine zCk a0 b ([]:List Int) 0 o0 ho0 iR h h1 h2 (fun _ _ _ h=>h) (fun _ _ h=>h) ?_;intro I02 out1 p3 c3 cs1 heq le2 h4;subst o0;refine zR<|wW [4] rfl<|xB<|xA 0 rfl ?_;intro I03 le3 hl01;have h8:=SL.of_frozen hl01 le3 h4;obtain rfl:=zB hMl;exact xC ⟨_,_,(.tmp rfl ResV.nil),zP,⟨_,rfl,rfl,h8⟩⟩
def uI (part:Int) (y:(List zK)) (y1:(List yC)) (out:List (List Int)) (i:Int):Option (List (List Int)):=do
 if (decide (i < (y1.length:Int))) then
  let x←idx y1 i
  let x1←idx y x.From
  let x2←idx y1 i
  let x3←idx y x2.To
  let t47←(do
    if (x1.Part == part) then
     pure (x3.Part == part)
    else
     pure false
      : Option Bool)
  let out2←(do
    if t47 then
     let y2←jP x3.Point x1.Point
     let y3←fH out y2
     pure (id y3)
    else
     pure (id out)
      : Option (List (List Int)))
  uI part y y1 out2 (W (i + 1))
 else
  pure (id out)
 partial_fixpoint
theorem zBA (part:Int) (y:(List zK)) (y1:(List yC)):∀ (out:List (List Int)) (i:Int) (o:List (List Int)),uI part y y1 out i=some o→∀ {B}{I0 I:Imm}{Q p3 c2 p4 c3 p5 c4},I0.le I→(S4 I p3 y c2)→(S4 I p4 y1 c3)→(S4 I p5 out c4)→NG Q→NO Q→(∀ (I':Imm) (out1:List (List Int)) (p6:Option Addr) (c5:Nat),o=out1→I0.le I'→(S4 I' p6 out1 c5)→T 56 B Q (.exit 0) I' [] [(5,vS p6 out1 c5)])→J Tryz.prog 56 B (nav (bodyOf Tryz.f87) [1,1,1,1,0,1,0]) Q I [] [(1,vI part),(5,vS p5 out c4),(6,vS p3 y c2),(7,vS p4 y1 c3),(8,vI i)]:=by
 refine uI.partial_correctness part y y1 _ fun self ih out i o N B I0 I Q p3 c2 p4 c3 p5 c4 H h3 h4 h6 hg ho hx=>yR hg ho<|zZ<|yD [19] rfl<|zI<|yB N ?_ ?_
 · intro hc N;refine zS<|zX<|yG<|yF<|yH 3 [] [22,23,24] rfl<|bE N fun x hy2 N=>xS rfl rfl h4 hy2 ?_;intro ad ccs hat hrep;obtain rfl:=zAQ hrep;refine yH 5 [] [26] rfl<|xL 0 hat [vI x.From] (vI x.From) rfl<|bE N fun x1 hy3 N=>xS rfl rfl h3 hy3 ?_;intro ad1 ccs1 hat1 hrep1;obtain ⟨p7,c6,rfl,h8⟩:=rQ hrep1;refine xL 0 hat1 (cInst x1 p7 c6) (vA (cInst x1 p7 c6)) rfl<|uF [vI 0,vI 0,z0] ?_;intro b2 hb2;refine xQ 0 (cInst x1 p7 c6) rfl<|yE rfl<|xG<|yH 3 [] [30,31,32] rfl<|bE N fun x2 hy4 N=>xS rfl rfl h4 hy4 ?_;intro ad2 ccs2 hat2 hrep2;obtain rfl:=zAQ hrep2;refine yH 5 [] [34] rfl<|xL 1 hat2 [vI x2.To] (vI x2.To) rfl<|bE N fun x3 hy5 N=>xS rfl rfl h3 hy5 ?_;intro ad3 ccs3 hat3 hrep3;obtain ⟨p8,c7,rfl,h9⟩:=rQ hrep3;refine xL 0 hat3 (cInst x3 p8 c7) (vA (cInst x3 p8 c7)) rfl<|uF [vI 0,vI 0,z0] ?_;intro b3 hb3;refine xQ 0 (cInst x3 p8 c7) rfl<|yE rfl<|zI<|zZ ?_;refine wP N [hB b3 (cInst x3 p8 c7),hB b2 (cInst x1 p7 c6)] (fun t47=>[(1,vI part),(5,vS p5 out c4),(6,vS p3 y c2),(7,vS p4 y1 c3),(8,vI i),(9,vP b2 0),(10,vP b3 0),(47,.bool t47)]) (fun o0 ho0=>?_) ?_
   · have H:=iS I;refine zL<|yH 5 [1] [42] rfl<|xZ [42] ho0 ?_ ?_
     · intro hc1 N;exact yJ [0] [47] rfl<|yO<|zV (ct N H)
     intro hc1 N;exact vG [] [(47,vF)]<|yO<|zV (ct N H)
   intro t47 I03 le3 hMc;have ⟨h6,h3,h4,h9,h8,H⟩:=m6 le3 h6 h3 h4 h9 h8 H;refine zI ?_;obtain ⟨o01,ho01,hMc1⟩:=zC hMc;refine oC (fun I' hs' m'=>∃ (out2:List (List Int)) (p9:Option Addr) (c8:Nat),o01=out2∧I03.le I'∧(S4 I' p9 out2 c8)∧hs'=[]∧m'=[(1,vI part),(5,vS p9 out2 c8),(6,vS p3 y c2),(7,vS p4 y1 c3),(8,vI i)]) ?_ ?_
   · have H:=iS I03;refine yB ho01 ?_ ?_
     · intro hc2 N;refine zL<|yH 5 [0,1] [48,50,52] rfl<|bE N fun y2 hy6 N=>xV (zFA x3.Point x1.Point _ hy6 h9 h8) ?_;rintro I05 hs2 v2 k2 le4 - ⟨v04,rfl,rfl,h11⟩ -;have ⟨h6,H⟩:=m2 le4 h6 H;obtain ⟨p10,c9,rfl⟩:=h11.form;obtain ⟨y3,hy7,N⟩:=zC N;refine xV (zG0 out y2 _ hy7 h6 h11) ?_;rintro I06 hs2 v2 k2 le5 - ⟨v05,rfl,rfl,h12⟩ -;have H:=H.trans le5;obtain ⟨p11,c10,rfl⟩:=h12.form;exact yJ [] [5] rfl<|wA zP<|yO<|zV ⟨_,_,_,(zB N).symm,H,h12,rfl,rfl⟩
     intro hc2 N;exact zS<|wA zP<|yO<|zV ⟨_,_,_,(zB N).symm,H,h6,rfl,rfl⟩
   rintro I04 hs2 m2 ⟨out2,p9,c8,heq1,le6,h10,rfl,rfl⟩;subst o01;have ⟨h3,h4,H⟩:=m3 le6 h3 h4 H;exact zO<|zI<|zL<|yJ [] [8] rfl<|yQ<|nO<|ih out2 (W (i + 1)) _ hMc1 H h3 h4 h10 hg ho hx
 intro hc N;exact wY<|yO<|hx _ _ _ _ (zB N).symm H h6
def kR (p:zE) (part:Int):Option ((List (List Int))):=do
 let y←uD p
 let y1←gK p
 let out1←uI part y y1 ([]:List (List Int)) 0
 pure (id out1)
theorem zCF:∀ p part r,kR p part=some r→∀ {I:Imm}{p1 c p2 c1},(S4 I p1 p.Arrays c)→(S4 I p2 p.Parts c1)→RT 87 [vA (cProg p p1 c p2 c1),vI part] I [] (xN  r):=by
 intro p part r N I p1 c p2 c1 h h1;unfold kR at N;refine yL Tryz.func87 fun B=>yF<|tX (cProg p p1 c p2 c1) ?_;intro b hb;refine vG [] []<|xG<|tJ [] (List Int) ?_;intro b1 hb1;have h2:RL I [] ([]:List (List Int)):=rfl;refine yJ [] [5] rfl<|xG<|oD 1 [1] [(12,vA (cProg p p1 c p2 c1))]<|bE N fun y hy N=>xV (eQ p _ hy h h1) ?_;rintro I0 hs2 v2 k2 le - ⟨v0,rfl,rfl,h3⟩ -;have ⟨h2,h,h1⟩:=m3 le h2 h h1;obtain ⟨p3,c2,rfl⟩:=h3.form;refine yJ [] [6] rfl<|xG<|oD 1 [1] [(14,vA (cProg p p1 c p2 c1))]<|bE N fun y1 hy1 N=>xV (zFs p _ hy1 h h1) ?_;rintro I01 hs2 v2 k2 le1 - ⟨v01,rfl,rfl,h4⟩ -;have ⟨h2,h3,h⟩:=m3 le1 h2 h3 h;obtain ⟨p4,c3,rfl⟩:=h4.form;refine yJ [] [7] rfl<|zX<|yD [8] rfl<|wB<|oT 0 rfl ?_;intro I02 le2 hl0;have h5:=SL.of_frozen hl0 le2 h2;have ⟨h3,h4,h⟩:=m3 le2 h3 h4 h;refine jR (zY [] (hs':=[]))<|qW [(1,vI part),(5,vS (some ⟨b1,0,none⟩) ([]:List (List Int)) 0),(6,vS p3 y c2),(7,vS p4 y1 c3),(8,vI 0)] ?_;obtain ⟨o02,ho02,hMl⟩:=zC N;refine zBA part y y1 ([]:List (List Int)) 0 o02 ho02 iR h3 h4 h5 (fun _ _ _ h=>h) (fun _ _ h=>h) ?_;intro I07 out1 p6 c5 heq2 le7 h7;subst o02;refine zR<|wW [4] rfl<|zI<|yZ ?_;obtain rfl:=zB hMl;exact xC ⟨_,_,(.tmp rfl ResV.nil),zP,⟨_,rfl,rfl,h7⟩⟩
def jW (p:zE) (part:Int):Option ((List (List Int))):=do
 let y←tP p
 if (!y) then
  pure ([]:List (List Int))
 else
  let y1←kR p part
  pure (id y1)
theorem zJO:∀ p part r,jW p part=some r→∀ {I:Imm}{p1 c p2 c1},(S4 I p1 p.Arrays c)→(S4 I p2 p.Parts c1)→RT 38 [vA (cProg p p1 c p2 c1),vI part] I [] (xN  r):=by
 intro p part r N I p1 c p2 c1 h h1;unfold jW at N;refine yL Tryz.func38 fun B=>yF<|tX (cProg p p1 c p2 c1) ?_;intro b hb;refine vG [] []<|zX<|yF<|oD 1 [0] [(5,vA (cProg p p1 c p2 c1))]<|bE N fun y hy N=>uH (fY p _ hy h h1) ?_;intro I0 le;have ⟨h,h1⟩:=m2 le h h1;refine yJ [] [7] rfl<|zI<|yB N ?_ ?_
 · intro hc N;refine yF<|tJ [] (List Int) ?_;intro b1 hb1;have h3:RL I0 [] ([]:List (List Int)):=rfl;refine yJ [] [4] rfl<|xB<|zF<|xA 0 rfl ?_;intro I01 le1 hl0;have h4:=SL.of_frozen hl0 le1 h3;obtain rfl:=zB N;exact xC ⟨_,_,(.tmp rfl ResV.nil),zP,⟨_,rfl,rfl,h4⟩⟩
 intro hc N;refine zS<|xG<|oD 2 [0] [(9,vA (cProg p p1 c p2 c1)),(10,vI part)]<|bE N fun y1 hy1 N=>xV (zCF p part _ hy1 h h1) ?_;rintro I02 hs2 v2 k2 le2 - ⟨v01,rfl,rfl,h5⟩ -;obtain ⟨p3,c2,rfl⟩:=h5.form;refine yJ [] [4] rfl<|zI<|yZ ?_;obtain rfl:=zB N;exact xC ⟨_,_,(.tmp rfl ResV.nil),zP,⟨_,rfl,rfl,h5⟩⟩
def sX (n0:Int):Option (Bool):=do
 pure (n0 != 0)
theorem zBg:∀ n0 r,sX n0=some r→∀ {I:Imm} ,RT 89 [vI n0] I [] (zT  r):=by
 intro n0 r N I;unfold sX at N;refine yL Tryz.func89 fun B=>wV []<|wW [2] rfl<|zI<|yZ ?_;obtain rfl:=zB N;exact wL
def kZ (d0:(List Int)):Option (Int):=do
 let y←uS d0 sX
 pure (id y)
theorem zIm:∀ d0 r,kZ d0=some r→∀ {I:Imm}{p c},(S4 I p d0 c)→RT 39 [vS p d0 c] I [] (yP  r):=by
 intro d0 r N I p c h;unfold kZ at N;refine yL Tryz.func39 fun B=>wV []<|xG<|yH 1 [] [3] rfl ?_;have hf0:FV1 Tryz.prog I [] (.func (.func 89) ⟨[]⟩ ⟨[]⟩) sX:=by
   refine FV1.intro ?_;intro I1 le1 x0 r u0 hF k0;obtain rfl:=k0;exact (zBg x0 r hF ).mono (by rintro k i hs u ⟨v0,rfl,rfl,h⟩; exact ⟨rfl,h⟩)
 obtain ⟨y,hy,N⟩:=zC N;refine xV (kY d0 sX _ hy h hf0) ?_;rintro I0 hs2 v2 k2 le - ⟨v0,rfl,rfl,rfl⟩ -;refine yJ [] [2] rfl<|zI<|yZ ?_;obtain rfl:=zB N;exact wL
end Go.LN
