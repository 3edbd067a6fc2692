/- Helper of the proof (see the last text). -/
import Derived.Test.YtpacccdphbhfbaaGreatHM2
set_option linter.unusedVariables false
set_option linter.unusedSimpArgs false
namespace Go.LN
open Go.Proofs
set_option maxRecDepth 20000
def gV (r:(List zF)):KT:=fun kk I' hs' v=>
  ∃ a0 c0 s0,hs'=[.osl (.slice a0 r.length c0) (Rp.sz zF) s0]∧v=tupV [(.slice a0 r.length c0)]∧RepL (Rp.rep I') (Rp.sz zF) s0 r
mutual
def uX (out:(List zF)) (e0:zD):Option ((List zF)):=do
 let out1←(do
   if (e0.Kind == 3) then
    let y←vD e0.Read
    let out2←app 40 out ([y]:List zF)
    pure (id out2)
   else
    pure (id out)
     : Option (List zF))
 let out4←xW (same e0) (same out1) (same 0)
 pure (id out4)
 partial_fixpoint
def xW (e0:zD) (out3:List zF) (i:Int):Option (List zF):=do
 if (decide (i < (e0.Kids.length:Int))) then
  let x←idx e0.Kids i
  let y1←uX (same out3) (same x)
  xW (same e0) (same y1) (W (i + 1))
 else
  pure (id out3)
 partial_fixpoint
end
theorem zBy:(∀ (out:(List zF)) (e0:zD) r,uX out e0=some r→∀ {I:Imm}{p c cs p1 c1 p2 c2 p3 c3},(RL I cs out)→(S4 I p1 e0.Index.Coefs c1)→(S4 I p2 e0.Read.Subs c2)→(S4 I p3 e0.Kids c3)→RT 232 [vS p out c,vA (cExpr e0 p1 c1 p2 c2 p3 c3)] I [hO zF (vS p out c) cs] (gV  r))∧(∀ (e0:zD) (out3:List zF) (i:Int) o,xW e0 out3 i=some o→∀ {B}{I0 I:Imm}{Q p1 c1 p2 c2 p3 c3}{b:Nat}{p7 c7 cs4},I0.le I→(S4 I p1 e0.Index.Coefs c1)→(S4 I p2 e0.Read.Subs c2)→(S4 I p3 e0.Kids c3)→(RL I cs4 out3)→NG Q→NO Q→(∀ (I':Imm) (out4:List zF) (p8:Option Addr) (c8:Nat) (cs5:List Value),o=out4→I0.le I'→(RL I' cs5 out4)→T 30 B Q (.exit 0) I' [hO zF (vS p8 out4 c8) cs5] [(0,vS p8 out4 c8)])→J Tryz.prog 30 B (nav (bodyOf Tryz.f232) [1,1,0,1,0]) Q I [hB b (cExpr e0 p1 c1 p2 c2 p3 c3),hO zF (vS p7 out3 c7) cs4] [(0,vS p7 out3 c7),(3,vP b 0),(5,vI i)]):=by
  refine uX.mutual_partial_correctness _ _ ?_ ?_
  · intro F_spec_l3Reads_l1 ih_spec_l3Reads_l1 out e0 r N I p c cs p1 c1 p2 c2 p3 c3 h h1 h2 h3;refine yI Tryz.func232 fun B=>?_;have H:=iS I;refine yG<|uG (cExpr e0 p1 c1 p2 c2 p3 c3) ?_;intro b hb;refine wC [] []<|yE<|yG<|yL [0] [8] rfl<|zI ?_;obtain ⟨o0,ho0,hMc⟩:=zC N;refine oH (fun I' hs' m'=>∃ (out1:List zF) (p4:Option Addr) (c4:Nat) (cs1:List Value),o0=out1∧I.le I'∧(RL I' cs1 out1)∧hs'=[hB b (cExpr e0 p1 c1 p2 c2 p3 c3),hO zF (vS p4 out1 c4) cs1]∧m'=[(0,vS p4 out1 c4),(3,vP b 0)]) ?_ ?_
    · have H:=iS I;refine yH ho0 ?_ ?_
      · intro hc N;refine zM<|sH 3 [0] [(9,vS p out c),(11,vA (cAccess e0.Read p2 c2))]<|bE N fun y hy N=>xM (nQ e0.Read _ hy h2) ?_;rintro I01 hs2 v2 k2 le - ⟨p5,c5,cs2,rfl,rfl,h5⟩ -;have ⟨h,H⟩:=m2 le h H;refine vZ 0 rfl ?_;intro I02 le1 hl0;have h6:=SL.of_frozen hl0 le1 h5;have ⟨h,H⟩:=m2 le1 h H;refine qB (cAccess y p5 c5) zF ?_;intro b1 hb1;have h7:RL I02 (cAccess y p5 c5) ([y]:List zF):=⟨(cAccess y p5 c5),_,rfl,rfl,(rD ⟨_,rfl,h6⟩),rfl⟩;obtain ⟨out2,hy1,N⟩:=zC N;exact nO 41 2 2 rfl rfl rfl h (.inr ⟨0,rfl⟩) h7 hy1 fun p6 c6 cs3 h8=>qH (yB [1,2] (hs':=[hB b (cExpr e0 p1 c1 p2 c2 p3 c3),hO zF (vS p6 out2 c6) cs3]))<|yL [] [0] rfl<|yM<|zR ⟨_,_,_,_,(zB N).symm,H,h8,rfl,rfl⟩
      intro hc N;exact zT<|yM<|zR ⟨_,_,_,_,(zB N).symm,H,h,rfl,rfl⟩
    rintro I0 hs2 m2 ⟨out1,p4,c4,cs1,heq,le2,h4,rfl,rfl⟩;subst o0;have ⟨h1,h2,h3⟩:=m3 le2 h1 h2 h3;refine yE<|yO [5] rfl<|uV<|mH [(0,vS p4 out1 c4),(3,vP b 0),(5,vI 0)] ?_;obtain ⟨o01,ho01,hMl⟩:=zC hMc;refine ih_spec_l3Reads_l1 e0 out1 0 o01 ho01 iR h1 h2 h3 h4 (fun _ _ _ h=>h) (fun _ _ h=>h) ?_;intro I04 out4 p8 c8 cs5 heq1 le4 h10;subst o01;refine zU<|sI [4] rfl<|zI<|yS ?_;obtain rfl:=zB hMl;exact xB ⟨_,_,(.tmp rfl ResV.nil),(zX [0] rfl (by decide)),⟨_,_,_,rfl,rfl,h10⟩⟩
  intro F_spec_l3Reads F_spec_l3Reads_l1 ih_spec_l3Reads ih_spec_l3Reads_l1 e0 out3 i o N B I0 I Q p1 c1 p2 c2 p3 c3 b p7 c7 cs4 H h1 h2 h3 h9 hg ho hx;refine xH hg ho<|yA<|yG<|yL [0] [19] rfl<|zI<|yH N ?_ ?_
  · intro hc1 N;refine zT<|yE<|yN<|zM<|yF 4 [0] [22,24,25] rfl<|bE N fun x hy2 N=>wF rfl rfl h3 hy2 ?_;intro ad ccs hat hrep;obtain ⟨p9,c9,p10,c10,p11,c11,rfl,h11,h12,h13⟩:=yV hrep;refine xT 0 hat (cExpr x p9 c9 p10 c10 p11 c11) (vA (cExpr x p9 c9 p10 c10 p11 c11)) rfl<|qH (yB [1,0] (hs':=[hO zF (vS p7 out3 c7) cs4,hB b (cExpr e0 p1 c1 p2 c2 p3 c3)]))<|bE N fun y1 hy3 N=>rA (ih_spec_l3Reads out3 x _ hy3 h9 h11 h12 h13) rfl ?_;rintro I03 hs2 v2 k2 le3 - ⟨p12,c12,cs6,rfl,rfl,h14⟩ -;have ⟨h1,h2,h3,H⟩:=m4 le3 h1 h2 h3 H;exact yL [] [0] rfl<|zQ<|zI<|zM<|yL [] [5] rfl<|xF<|gA (zX [1,0] rfl (by decide))<|mJ<|ih_spec_l3Reads_l1 e0 y1 (W (i + 1)) _ N H h1 h2 h3 h14 hg ho hx
  intro hc1 N;exact tS<|xQ (zX [1] rfl (by decide))<|yM<|hx _ _ _ _ _ (zB N).symm H h9
theorem zC7:∀ out e0 r,uX out e0=some r→∀ {I:Imm}{p c cs p1 c1 p2 c2 p3 c3},(RL I cs out)→(S4 I p1 e0.Index.Coefs c1)→(S4 I p2 e0.Read.Subs c2)→(S4 I p3 e0.Kids c3)→RT 232 [vS p out c,vA (cExpr e0 p1 c1 p2 c2 p3 c3)] I [hO zF (vS p out c) cs] (gV  r):=zBy.1
def gW (r:(List Int)×Int×Bool):KT:=fun kk I' hs' v=>
  ∃ v0 v1 v2,hs'=[]∧v=tupV [v0,v1,v2]∧SL I' v0 r.1∧v1=.int .i64 r.2.1∧v2=.bool r.2.2
def vW (list:(List zN)) (point:(List Int)) (y:(List zF)) (out:List Int) (i:Int):Option (Out (List Int) ((List Int)×Int×Bool)):=do
 if (decide (i < (y.length:Int))) then
  let x←idx y i
  let y1←qL list x point
  if (decide (y1 < 0)) then
   pure (.ret (([]:List Int),0,false))
  else
   let out2←app 8 out ([y1]:List Int)
   vW list point y out2 (W (i + 1))
 else
  pure (.done out)
 partial_fixpoint
theorem zAi (list:(List zN)) (point:(List Int)) (y:(List zF)):∀ (out:List Int) (i:Int) (o:Out (List Int) ((List Int)×Int×Bool)),vW list point y out i=some o→∀ {B}{I0 I:Imm}{Q}{s:zK}{p c p1 c1 p2 c2 p3 c3 p4 c4 p5 c5}{b:Nat}{p6 c6 cs p7 c7 cs1},I0.le I→(S4 I p list c)→(S4 I p5 point c5)→(RL I cs y)→(S4 I p1 s.Write.Subs c1)→(S4 I p2 s.Value.Index.Coefs c2)→(S4 I p3 s.Value.Read.Subs c3)→(S4 I p4 s.Value.Kids c4)→(RL I cs1 out)→NG Q→NO Q→(∀ (I':Imm) (out1:List Int) (p8:Option Addr) (c8:Nat) (cs2:List Value),o=(.done out1)→I0.le I'→(RL I' cs2 out1)→T 49 B Q (.exit 0) I' [hO Int (vS p8 out1 c8) cs2,hB b (cStmt s p1 c1 p2 c2 p3 c3 p4 c4)] [(0,vS p list c),(2,vS p5 point c5),(4,vP b 0),(9,vS p8 out1 c8)])→(∀ r I' hs' m',o=(.ret r)→I0.le I'→RS Tryz.prog Tryz.f191 B (gW  r) I' hs' m'→T 49 B Q .ret I' hs' m')→J Tryz.prog 49 B (nav (bodyOf Tryz.f191) [1,1,1,0,1,0]) Q I [hO zF (vS p6 y c6) cs,hO Int (vS p7 out c7) cs1,hB b (cStmt s p1 c1 p2 c2 p3 c3 p4 c4)] [(0,vS p list c),(2,vS p5 point c5),(4,vP b 0),(9,vS p7 out c7),(10,vS p6 y c6),(11,vI i)]:=by
 refine vW.partial_correctness list point y _ fun self ih out i o N B I0 I Q s p c p1 c1 p2 c2 p3 c3 p4 c4 p5 c5 b p6 c6 cs p7 c7 cs1 H h h5 h8 h1 h2 h3 h4 h9 hg ho hx hr=>xH hg ho<|yA<|yO [22] rfl<|zI<|yH N ?_ ?_
 · intro hc N;refine zT<|yE<|yN<|yG<|yF 3 [] [25,26,27] rfl<|bE N fun x hy1 N=>fP 0 rfl rfl rfl h8 hy1 ?_;intro ad ccs hat hcc hrep;obtain ⟨p9,c9,rfl,h11⟩:=uE hrep;refine zGf 0 0 hat hcc (cAccess x p9 c9) (vA (cAccess x p9 c9)) rfl rfl<|yF 6 [] [30] rfl<|bE N fun y1 hy2 N=>fQ (dS list x point _ hy2 h h11 h5) ?_;intro I01 le1;have ⟨h,h5,h9,h8,h1,h2⟩:=m6 le1 h h5 h9 h8 h1 h2;have ⟨h3,h4,H⟩:=m3 le1 h3 h4 H;refine yL [] [12] rfl<|yE<|yO [33] rfl<|zI<|yH N ?_ ?_
   · intro hc1 N;refine yG<|qB [] Int ?_;intro b3 hb3;have h13:RL I01 [] ([]:List Int):=rfl;refine yL [] [6,7,8] rfl<|xE<|zH<|zV<|zH<|zH<|xN 0 rfl ?_;intro I02 le2 hl0;have h14:=SL.of_frozen hl0 le2 h13;have H:=H.trans le2;exact hr _ _ _ _ (zB N).symm H ⟨_,_,(.tmp rfl (.tmp rfl (.tmp rfl ResV.nil))),zL,⟨_,_,_,rfl,rfl,h14,rfl,rfl⟩⟩
   intro hc1 N;refine zT<|zI<|zM<|yF 2 [] [35,36] rfl<|qB [vI y1] Int ?_;intro b4 hb4;have h15:RL I01 [vI y1] ([y1]:List Int):=rI [y1];obtain ⟨out2,hy3,N⟩:=zC N;exact nO 3 1 2 rfl rfl rfl h9 (.inr ⟨0,rfl⟩) h15 hy3 fun p10 c10 cs3 h16=>qH (yB [1,2,3] (hs':=[hO zF (vS p6 y c6) cs,hO Int (vS p10 out2 c10) cs3,hB b (cStmt s p1 c1 p2 c2 p3 c3 p4 c4)]))<|yL [] [9] rfl<|zQ<|zI<|zM<|yL [] [11] rfl<|xF<|mJ<|ih out2 (W (i + 1)) _ N H h h5 h8 h1 h2 h3 h4 h16 hg ho hx hr
 intro hc N;exact tS<|xQ (zX [1,2] rfl (by decide))<|yM<|hx _ _ _ _ _ (zB N).symm H h9
def qU (list:(List zN)) (s:zK) (point:(List Int)):Option ((List Int)×Int×Bool):=do
 let y←uX ([]:List zF) s.Value
 match←vW list point y ([]:List Int) 0 with
 | .ret r0=>pure r0
 | .done out1 =>
  let y2←qL list s.Write point
  if (decide (y2 < 0)) then
   pure (([]:List Int),0,false)
  else
   pure (out1,y2,true)
theorem zC8:∀ list s point r,qU list s point=some r→∀ {I:Imm}{p c p1 c1 p2 c2 p3 c3 p4 c4 p5 c5},(S4 I p list c)→(S4 I p1 s.Write.Subs c1)→(S4 I p2 s.Value.Index.Coefs c2)→(S4 I p3 s.Value.Read.Subs c3)→(S4 I p4 s.Value.Kids c4)→(S4 I p5 point c5)→RT 191 [vS p list c,vA (cStmt s p1 c1 p2 c2 p3 c3 p4 c4),vS p5 point c5] I [] (gW  r):=by
 intro list s point r N I p c p1 c1 p2 c2 p3 c3 p4 c4 p5 c5 h h1 h2 h3 h4 h5;unfold qU at N;refine yI Tryz.func191 fun B=>yG<|uG (cStmt s p1 c1 p2 c2 p3 c3 p4 c4) ?_;intro b hb;refine wC [] []<|yX<|qB [] Int ?_;intro b1 hb1;have h6:RL I [] ([]:List Int):=rfl;refine yL [] [9] rfl<|yX<|qB [] zF ?_;intro b2 hb2;have h7:RL I [] ([]:List zF):=rfl;refine sH 3 [2] [(17,vA (cExpr s.Value p2 c2 p3 c3 p4 c4))]<|bE N fun y hy N=>rA (zC7 ([]:List zF) s.Value _ hy h7 h2 h3 h4) rfl ?_;rintro I0 hs2 v2 k2 le - ⟨p6,c6,cs,rfl,rfl,h8⟩ -;have ⟨h,h5,h6,h1,h2,h3⟩:=m6 le h h5 h6 h1 h2 h3;have h4:=h4.mono le;refine yL [] [10] rfl<|yE<|yO [11] rfl<|uV<|mH [(0,vS p list c),(2,vS p5 point c5),(4,vP b 0),(9,vS (some ⟨b1,0,none⟩) ([]:List Int) 0),(10,vS p6 y c6),(11,vI 0)] ?_;obtain ⟨o0,ho0,hMl⟩:=zC N;refine zAi list point y ([]:List Int) 0 o0 ho0 iR h h5 h8 h1 h2 h3 h4 h6 (fun _ _ _ h=>h) (fun _ _ h=>h) ?_ ?_
 · intro I03 out1 p8 c8 cs2 heq le3 h10;subst o0;have ⟨h,h5,h1⟩:=m3 le3 h h5 h1;refine zU<|yX<|sH 4 [1] [(39,vS p list c),(41,vA (cAccess s.Write p1 c1)),(42,vS p5 point c5)] ?_;obtain ⟨y2,hy4,N⟩:=zC hMl;refine fQ (dS list s.Write point _ hy4 h h1 h5) ?_;intro I04 le4;have h10:=iM le4 h10;refine yL [] [13] rfl<|yE<|yO [45] rfl<|zI<|yH N ?_ ?_
   · intro hc2 N;refine yG<|qB [] Int ?_;intro b5 hb5;have h18:RL I04 [] ([]:List Int):=rfl;refine yL [] [6,7,8] rfl<|xE<|zH<|xN 0 rfl ?_;intro I05 le5 hl01;have h19:=SL.of_frozen hl01 le5 h18;obtain rfl:=zB N;exact xB ⟨_,_,(.tmp rfl (.tmp rfl (.tmp rfl ResV.nil))),zL,⟨_,_,_,rfl,rfl,h19,rfl,rfl⟩⟩
   intro hc2 N;refine zT<|sI [6,7,8] rfl<|xE<|xN 0 rfl ?_;intro I06 le6 hl02;have h20:=SL.of_frozen hl02 le6 h10;obtain rfl:=zB N;exact xB ⟨_,_,(.tmp rfl (.tmp rfl (.tmp rfl ResV.nil))),zL,⟨_,_,_,rfl,rfl,h20,rfl,rfl⟩⟩
 intro r0 I9 hs9 m9 heq9 le9 hrs9;subst heq9;refine zV<|zH ?_;obtain rfl:=zB hMl;exact xB hrs9
def oL (r:Int×Bool):KT:=fun kk I' hs' v=>
  ∃ v0 v1,hs'=[]∧v=tupV [v0,v1]∧v0=.int .i64 r.1∧v1=.bool r.2
def vL (list:(List zN)) (part:zS) (y1:(List (List Int))) (i:Int) (k0:Int):Option (Out Unit (Int×Bool)):=do
 if (decide (k0 < (y1.length:Int))) then
  let x1←idx part.Body i
  let x2←idx y1 k0
  let (y5,y6,y7)←qU list x1 x2
  let t80←(do
    if (!y7) then
     pure true
    else
     let x3←idx y1 k0
     let y8←qT x3
     pure (!y8)
      : Option Bool)
  if t80 then
   pure (.ret (0,false))
  else
   vL list part y1 i (W (k0 + 1))
 else
  pure (.done ())
 partial_fixpoint
theorem zBP (list:(List zN)) (part:zS) (y1:(List (List Int))) (i:Int):∀ (k0:Int) (o:Out Unit (Int×Bool)),vL list part y1 i k0=some o→∀ {B}{I0 I:Imm}{Q p c p1 c1 p2 c2}{b:Nat}{p3 c3},I0.le I→(S4 I p list c)→(S4 I p3 y1 c3)→(S4 I p1 part.Nest c1)→(S4 I p2 part.Body c2)→NG Q→NO Q→(∀ (I':Imm) ,o=(.done ())→I0.le I'→T 87 B Q (.exit 2) I' [hB b (cPart part p1 c1 p2 c2)] [(0,vS p list c),(3,vP b 0),(6,vS p3 y1 c3),(8,vI i)])→(∀ r I' hs' m',o=(.ret r)→I0.le I'→RS Tryz.prog Tryz.f145 B (oL  r) I' hs' m'→T 87 B Q .ret I' hs' m')→J Tryz.prog 87 B (nav (bodyOf Tryz.f145) [1,1,1,0,1,0,0,1,0,0,1,1,0]) Q I [hB b (cPart part p1 c1 p2 c2)] [(0,vS p list c),(3,vP b 0),(6,vS p3 y1 c3),(8,vI i),(9,vI k0)]:=by
 refine vL.partial_correctness list part y1 i _ fun self ih k0 o N B I0 I Q p c p1 c1 p2 c2 b p3 c3 H h h3 h1 h2 hg ho hx hr=>xH hg ho<|yA<|yO [53] rfl<|zI<|yH N ?_ ?_
 · intro hc5 N;refine zT<|yE<|yN<|yA ?_;obtain ⟨x1,hy3,N⟩:=zC N;obtain ⟨x2,hy4,N⟩:=zC N;obtain ⟨⟨y5,y6,y7⟩,hy5,N⟩:=zC N;refine wZ [.p (vS p list c) [],.p (vP b 1) [],.p (vS p2 part.Body c2) [0],.p (vI i) [],.x (ePStmt x1),.x (eVStmt x1),.p (vS p3 y1 c3) [],.p (vI k0) [],.x (fun I' v hx=>∃ ad2 p12 c12,v=.pointer (some ad2)∧hx=[]∧(At I' ad2 [vS p12 x2 c12])∧(S4 I' p12 x2 c12)),.x (eS x2),.x (fun I' v hx=>∃ p13 c13,v=.tuple ⟨[vS p13 y5 c13,vI y6,.bool y7]⟩∧hx=[]∧(S4 I' p13 y5 c13)),.x (fun I' v hx=>∃ p131 c131,v=.tuple ⟨[vS p131 y5 c131,vI y6,.bool y7]⟩∧hx=[]∧(S4 I' p131 y5 c131)),.x (eS y5),.q (vI y6),.q (.bool y7),.x (eS y5),.p (vI y6) []] [[],[],[(1,false)],[],[(2,false),(3,false)],[(4,false)],[],[],[(6,false),(7,false)],[(8,false)],[(0,false),(5,false),(9,false)],[(10,false)],[(11,false)],[(11,false)],[(11,false)],[(12,false)],[(13,false)]] [hB b (cPart part p1 c1 p2 c2)] [] [(14,false)] (yB [0]) ?_ ?_
   · refine Op<|Op<|Op<|Op<|Ox ?_<|Ox ?_<|Op<|Op<|Ox ?_<|Ox ?_<|Ox ?_<|Ox ?_<|Ox ?_<|Oq ?_<|Oq ?_<|Ox ?_<|Op<|On
     · intro I1 hf le1;refine yY [59,60] rfl ?_;have h2:=h2.mono le1;refine wF rfl rfl h2 hy3 ?_;intro ad1 ccs1 hat1 hrep1;obtain ⟨p8,c8,p9,c9,p10,c10,p11,c11,rfl,h10,h11,h12,h13⟩:=tZ hrep1;exact yW [] iR ⟨_,_,_,_,_,_,_,_,_,rfl,rfl,hat1,h10,h11,h12,h13⟩
     · rintro I1 hf le1 _ _ ⟨ad1,p8,c8,p9,c9,p10,c10,p11,c11,rfl,rfl,hat1,h10,h11,h12,h13⟩;exact yY [61] rfl<|xT 0 hat1 (cStmt x1 p8 c8 p9 c9 p10 c10 p11 c11) (vA (cStmt x1 p8 c8 p9 c9 p10 c10 p11 c11)) rfl<|yW [] iR ⟨_,_,_,_,_,_,_,_,rfl,rfl,h10,h11,h12,h13⟩
     · intro I1 hf le1;refine yY [63,64] rfl ?_;have h3:=h3.mono le1;refine wF rfl rfl h3 hy4 ?_;intro ad2 ccs2 hat2 hrep2;obtain ⟨v011,rfl,h14⟩:=hrep2;obtain ⟨p12,c12,rfl⟩:=h14.form;exact yW [] iR ⟨_,_,_,rfl,rfl,hat2,h14⟩
     · rintro I1 hf le1 _ _ ⟨ad2,p12,c12,rfl,rfl,hat2,h14⟩;exact yY [65] rfl<|xT 0 hat2 [vS p12 x2 c12] (vS p12 x2 c12) rfl<|yW [] iR ⟨_,_,rfl,rfl,h14⟩
     · rintro I1 hf le1 _ _ ⟨rfl,rfl⟩ _ _ ⟨p81,c81,p91,c91,p101,c101,p111,c111,rfl,rfl,h101,h111,h121,h131⟩ _ _ ⟨p121,c121,rfl,rfl,h141⟩;refine yY [57,62,66] rfl ?_;have H:=iS I1;have h:=h.mono le1;refine xM (zC8 list x1 x2 _ hy5 h h101 h111 h121 h131 h141) ?_;rintro I04 hs2 v2 k2 le4 - ⟨v012,v013,v014,rfl,rfl,h15,rfl,rfl⟩ -;have H:=H.trans le4;obtain ⟨p13,c13,rfl⟩:=h15.form;exact yW [] H ⟨_,_,rfl,rfl,h15⟩
     · rintro I1 hf le1 _ _ ⟨p13,c13,rfl,rfl,h15⟩;exact yY [67] rfl<|qE 12 [(56,.tuple ⟨[vS p13 y5 c13,vI y6,.bool y7]⟩)]<|yW [] iR ⟨_,_,rfl,rfl,h15⟩
     · rintro I1 hf le1 _ _ ⟨p131,c131,rfl,rfl,h151⟩;exact yY [56] rfl<|qE 13 [(68,vS p131 y5 c131)]<|yW [] iR ⟨_,_,rfl,rfl,h151⟩
     · rintro I1 hf le1 _ _ ⟨p131,c131,rfl,rfl,h151⟩;exact yY [56] rfl<|qE 14 [(69,vI y6)]<|xC iR
     · rintro I1 hf le1 _ _ ⟨p131,c131,rfl,rfl,h151⟩;exact yY [56] rfl<|qE 15 [(70,.bool y7)]<|xC iR
     rintro I1 hf le1 _ _ ⟨p1311,c1311,rfl,rfl,h1511⟩;exact yY [68] rfl<|qE 16 [(10,vS p1311 y5 c1311)]<|yW [] iR ⟨_,_,rfl,rfl,h1511⟩
   intro I05 le5;refine yY [0,3,6,8,9,70] rfl ?_;have ⟨h,h3,h1,h2,H⟩:=m5 le5 h h3 h1 h2 H;refine yL [] [12] rfl<|zI<|yA ?_;refine wI N [hB b (cPart part p1 c1 p2 c2)] (fun t80=>[(0,vS p list c),(3,vP b 0),(6,vS p3 y1 c3),(8,vI i),(9,vI k0),(80,.bool t80)]) (fun o01 ho01=>?_) ?_
   · have H:=iS I05;refine zM<|yF 3 [] [73] rfl<|xP [73] ho01 ?_ ?_
     · intro hc6 N;exact wC [] [(80,vY)]<|yM<|zR (ct N H)
     intro hc6 N;refine yF 5 [] [74,75] rfl<|bE N fun x3 hy6 N=>wF rfl rfl h3 hy6 ?_;intro ad3 ccs3 hat3 hrep3;obtain ⟨v015,rfl,h18⟩:=hrep3;obtain ⟨p14,c14,rfl⟩:=h18.form;refine xT 0 hat3 [vS p14 x3 c14] (vS p14 x3 c14) rfl<|bE N fun y8 hy7 N=>uB (zC5 x3 _ hy7 h18) ?_;intro I07 le6;have H:=H.trans le6;exact yL [] [80] rfl<|yM<|zR (ct N H)
   intro t80 I06 le7 hMc1;have ⟨h,h3,h1,h2,H⟩:=m5 le7 h h3 h1 h2 H;refine zI<|yH hMc1 ?_ ?_
   · intro hc7 N;exact yO [4,5] rfl<|xE<|zV<|zH<|zH<|hr _ _ _ _ (zB N).symm H ⟨_,_,(.tmp rfl (.tmp rfl ResV.nil)),zL,⟨_,_,rfl,rfl,rfl,rfl⟩⟩
   intro hc7 N;exact zT<|zQ<|zI<|zM<|yL [] [9] rfl<|xF<|mJ<|ih (W (k0 + 1)) _ N H h h3 h1 h2 hg ho hx hr
 intro hc5 N;exact tS<|yM<|hx _  (zB N).symm H
def vM (list:(List zN)) (part:zS) (y1:(List (List Int))) (i:Int):Option (Out Unit (Int×Bool)):=do
 if (decide (i < (part.Body.length:Int))) then
  let x←idx part.Body i
  let y3←uH x (part.Nest.length:Int)
  if (!y3) then
   pure (.ret (0,false))
  else
   match←vL list part y1 i 0 with
   | .ret r0=>pure (.ret r0)
   | .done _ =>
    vM list part y1 (W (i + 1))
 else
  pure (.done ())
 partial_fixpoint
theorem zBQ (list:(List zN)) (part:zS) (y1:(List (List Int))):∀ (i:Int) (o:Out Unit (Int×Bool)),vM list part y1 i=some o→∀ {B}{I0 I:Imm}{Q p c p1 c1 p2 c2}{b:Nat}{p3 c3},I0.le I→(S4 I p list c)→(S4 I p3 y1 c3)→(S4 I p1 part.Nest c1)→(S4 I p2 part.Body c2)→NG Q→NO Q→(∀ (I':Imm) ,o=(.done ())→I0.le I'→T 87 B Q (.exit 0) I' [hB b (cPart part p1 c1 p2 c2)] [(3,vP b 0),(6,vS p3 y1 c3)])→(∀ r I' hs' m',o=(.ret r)→I0.le I'→RS Tryz.prog Tryz.f145 B (oL  r) I' hs' m'→T 87 B Q .ret I' hs' m')→J Tryz.prog 87 B (nav (bodyOf Tryz.f145) [1,1,1,0,1,0]) Q I [hB b (cPart part p1 c1 p2 c2)] [(0,vS p list c),(3,vP b 0),(6,vS p3 y1 c3),(8,vI i)]:=by
 refine vM.partial_correctness list part y1 _ fun self ih i o N B I0 I Q p c p1 c1 p2 c2 b p3 c3 H h h3 h1 h2 hg ho hx hr=>xH hg ho<|yA<|yG<|yL [0] [37] rfl<|zI<|yH N ?_ ?_
 · intro hc3 N;refine zT<|yE<|yN<|yA<|yA ?_;obtain ⟨x,hy1,N⟩:=zC N;obtain ⟨y3,hy2,N⟩:=zC N;refine wZ [.p (vP b 1) [],.p (vS p2 part.Body c2) [0],.p (vI i) [],.x (ePStmt x),.x (eVStmt x),.p (vP b 0) [],.p (vS p1 part.Nest c1) [0],.p (vI (part.Nest.length:Int)) [],.q (.bool y3),.p (.bool (!y3)) []] [[],[(0,false)],[],[(1,false),(2,false)],[(3,false)],[],[(5,false)],[(6,false)],[(4,false),(7,false)],[(8,false)]] [hB b (cPart part p1 c1 p2 c2)] [] [(9,false)] (yB [0]) ?_ ?_
   · refine Op<|Op<|Op<|Ox ?_<|Ox ?_<|Op<|Op<|Op<|Oq ?_<|Op<|On
     · intro I1 hf le1;refine yY [41,42] rfl ?_;have h2:=h2.mono le1;refine wF rfl rfl h2 hy1 ?_;intro ad ccs hat hrep;obtain ⟨p4,c4,p5,c5,p6,c6,p7,c7,rfl,h5,h6,h7,h8⟩:=tZ hrep;exact yW [] iR ⟨_,_,_,_,_,_,_,_,_,rfl,rfl,hat,h5,h6,h7,h8⟩
     · rintro I1 hf le1 _ _ ⟨ad,p4,c4,p5,c5,p6,c6,p7,c7,rfl,rfl,hat,h5,h6,h7,h8⟩;exact yY [43] rfl<|xT 0 hat (cStmt x p4 c4 p5 c5 p6 c6 p7 c7) (vA (cStmt x p4 c4 p5 c5 p6 c6 p7 c7)) rfl<|yW [] iR ⟨_,_,_,_,_,_,_,_,rfl,rfl,h5,h6,h7,h8⟩
     rintro I1 hf le1 _ _ ⟨p41,c41,p51,c51,p61,c61,p71,c71,rfl,rfl,h51,h61,h71,h81⟩;refine yY [44,47] rfl ?_;have H:=iS I1;refine uB (nK x (part.Nest.length:Int) _ hy2 h51 h61 h71 h81) ?_;intro I02 le2;have H:=H.trans le2;exact xC H
   intro I03 le3;refine yY [0,3,6,8,49] rfl ?_;have ⟨h,h3,h1,h2,H⟩:=m5 le3 h h3 h1 h2 H;refine zZ rfl<|zI<|yH N ?_ ?_
   · intro hc4 N;exact yO [4,5] rfl<|xE<|zH<|zV<|zH<|zH<|hr _ _ _ _ (zB N).symm H ⟨_,_,(.tmp rfl (.tmp rfl ResV.nil)),zL,⟨_,_,rfl,rfl,rfl,rfl⟩⟩
   intro hc4 N;refine zT<|sI [9] rfl<|uV<|mH [(0,vS p list c),(3,vP b 0),(6,vS p3 y1 c3),(8,vI i),(9,vI 0)] ?_;obtain ⟨o02,ho02,hMl⟩:=zC N;refine zBP list part y1 i 0 o02 ho02 iR h h3 h1 h2 (fun _ _ _ h=>hg _ _ _ h) (fun _ _ h=>ho _ _ h) ?_ ?_
   · intro I08  heq2 le8;subst o02;have ⟨h,h3,h1,h2,H⟩:=m5 le8 h h3 h1 h2 H;exact zU<|zQ<|zI<|zM<|yL [] [8] rfl<|xF<|mJ<|ih (W (i + 1)) _ hMl H h h3 h1 h2 hg ho hx hr
   intro r0 I9 hs9 m9 heq9 le9 hrs9;subst heq9;exact zV<|zV<|zH<|zH<|hr _ _ _ _ (zB hMl).symm (H.trans le9) hrs9
 intro hc3 N;exact tS<|yM<|hx _  (zB N).symm H
def tW (list:(List zN)) (part:zS):Option (Int×Bool):=do
 let (y1,y2)←sO part.Nest
 let t32←(do
   if (!y2) then
    pure true
   else
    if (decide ((part.Body.length:Int) < 1)) then
     pure true
    else
     pure (decide ((part.Body.length:Int) > 4))
     : Option Bool)
 if t32 then
  pure (0,false)
 else
  match←vM list part y1 0 with
  | .ret r0=>pure r0
  | .done _ =>
   pure ((W ((y1.length:Int) * (part.Body.length:Int))),true)
theorem gF:∀ list part r,tW list part=some r→∀ {I:Imm}{p c p1 c1 p2 c2},(S4 I p list c)→(S4 I p1 part.Nest c1)→(S4 I p2 part.Body c2)→RT 145 [vS p list c,vA (cPart part p1 c1 p2 c2)] I [] (oL  r):=by
 intro list part r N I p c p1 c1 p2 c2 h h1 h2;unfold tW at N;refine yI Tryz.func145 fun B=>?_;have H:=iS I;refine yG<|uG (cPart part p1 c1 p2 c2) ?_;intro b hb;refine wC [] []<|yX<|yF 2 [0] [15] rfl ?_;obtain ⟨⟨y1,y2⟩,hy,N⟩:=zC N;refine xM (zAh part.Nest _ hy h1) ?_;rintro I0 hs2 v2 k2 le - ⟨v0,v01,rfl,rfl,h3,rfl⟩ -;have ⟨h,h1,h2,H⟩:=m4 le h h1 h2 H;obtain ⟨p3,c3,rfl⟩:=h3.form;refine yL [] [6,7] rfl<|yE<|yA ?_;refine wI N [hB b (cPart part p1 c1 p2 c2)] (fun t32=>[(0,vS p list c),(3,vP b 0),(6,vS p3 y1 c3),(32,.bool t32)]) (fun o0 ho0=>?_) ?_
 · have H:=iS I0;refine zM<|yF 3 [] [21] rfl<|xP [21] ho0 ?_ ?_
   · intro hc N;exact wC [] [(32,vY)]<|yM<|zR (ct N H)
   intro hc N;refine yF 9 [0] [27] rfl<|xP [27] N ?_ ?_
   · intro hc1 N;exact wC [] [(32,vY)]<|yM<|zR (ct N H)
   intro hc1 N;exact yL [0] [32] rfl<|yM<|zR (ct N H)
 intro t32 I01 le1 hMc;have ⟨h,h3,h1,h2⟩:=m4 le1 h h3 h1 h2;refine zI<|yH hMc ?_ ?_
 · intro hc2 N;refine yO [4,5] rfl<|xE<|zH ?_;obtain rfl:=zB N;exact xB ⟨_,_,(.tmp rfl (.tmp rfl ResV.nil)),zL,⟨_,_,rfl,rfl,rfl,rfl⟩⟩
 intro hc2 N;refine zT<|yE<|yO [8] rfl<|uV<|mH [(0,vS p list c),(3,vP b 0),(6,vS p3 y1 c3),(8,vI 0)] ?_;obtain ⟨o03,ho03,hMl1⟩:=zC N;refine zBQ list part y1 0 o03 ho03 iR h h3 h1 h2 (fun _ _ _ h=>h) (fun _ _ h=>h) ?_ ?_
 · intro I09  heq3 le9;subst o03;refine zU<|yX<|yL [0] [4,5] rfl<|zI<|yS ?_;obtain rfl:=zB hMl1;exact xB ⟨_,_,(.tmp rfl (.tmp rfl ResV.nil)),zL,⟨_,_,rfl,rfl,rfl,rfl⟩⟩
 intro r0 I9 hs9 m9 heq9 le9 hrs9;subst heq9;refine zV<|zH ?_;obtain rfl:=zB hMl1;exact xB hrs9
def xS (p:zO) (total:Int) (i:Int):Option (Out Int (Bool)):=do
 if (decide (i < (p.Parts.length:Int))) then
  let x←idx p.Parts i
  let (y2,y3)←tW p.Arrays x
  if (!y3) then
   pure (.ret false)
  else
   xS p (W (total + y2)) (W (i + 1))
 else
  pure (.done total)
 partial_fixpoint
theorem fT (p:zO):∀ (total:Int) (i:Int) (o:Out Int (Bool)),xS p total i=some o→∀ {B}{I0 I:Imm}{Q p1 c p2 c1}{b:Nat},I0.le I→(S4 I p1 p.Arrays c)→(S4 I p2 p.Parts c1)→NG Q→NO Q→(∀ (I':Imm) (total1:Int),o=(.done total1)→I0.le I'→T 42 B Q (.exit 0) I' [] [(3,vI total1)])→(∀ r I' hs' m',o=(.ret r)→I0.le I'→RS Tryz.prog Tryz.f86 B (zP  r) I' hs' m'→T 42 B Q .ret I' hs' m')→J Tryz.prog 42 B (nav (bodyOf Tryz.f86) [1,1,1,0,1,0]) Q I [hB b (cProg p p1 c p2 c1)] [(1,vP b 0),(3,vI total),(4,vI i)]:=by
 refine xS.partial_correctness p _ fun self ih total i o N B I0 I Q p1 c p2 c1 b H h h1 hg ho hx hr=>xH hg ho<|yA<|yG<|yL [0] [21] rfl<|zI<|yH N ?_ ?_
 · intro hc2 N;refine zT<|yE<|yN<|yA ?_;obtain ⟨x,hy1,N⟩:=zC N;obtain ⟨⟨y2,y3⟩,hy2,N⟩:=zC N;refine wZ [.p (vP b 0) [],.p (vS p1 p.Arrays c) [0],.p (vP b 1) [],.p (vS p2 p.Parts c1) [0],.p (vI i) [],.x (ePPart x),.x (eVPart x),.q (.tuple ⟨[vI y2,.bool y3]⟩),.p (.tuple ⟨[vI y2,.bool y3]⟩) [],.p (vI y2) [],.p (.bool y3) [],.p (vI y2) []] [[],[(0,false)],[],[(2,false)],[],[(3,false),(4,false)],[(5,false)],[(1,false),(6,false)],[(7,false)],[(8,false)],[(8,false)],[(9,false)]] [hB b (cProg p p1 c p2 c1)] [] [(10,false),(11,false)] (yB [0]) ?_ ?_
   · refine Op<|Op<|Op<|Op<|Op<|Ox ?_<|Ox ?_<|Oq ?_<|Op<|Op<|Op<|Op<|On
     · intro I1 hf le1;refine yY [28,29] rfl ?_;have h1:=h1.mono le1;refine wF rfl rfl h1 hy1 ?_;intro ad ccs hat hrep;obtain ⟨p3,c2,p4,c3,rfl,h3,h4⟩:=mC hrep;exact yW [] iR ⟨_,_,_,_,_,rfl,rfl,hat,h3,h4⟩
     · rintro I1 hf le1 _ _ ⟨ad,p3,c2,p4,c3,rfl,rfl,hat,h3,h4⟩;exact yY [30] rfl<|xT 0 hat (cPart x p3 c2 p4 c3) (vA (cPart x p3 c2 p4 c3)) rfl<|yW [] iR ⟨_,_,_,_,rfl,rfl,h3,h4⟩
     rintro I1 hf le1 _ _ ⟨rfl,rfl⟩ _ _ ⟨p31,c21,p41,c31,rfl,rfl,h31,h41⟩;refine yY [26,31] rfl ?_;have H:=iS I1;have h:=h.mono le1;refine xM (gF p.Arrays x _ hy2 h h31 h41) ?_;rintro I02 hs2 v2 k2 le2 - ⟨v03,v04,rfl,rfl,rfl,rfl⟩ -;have H:=H.trans le2;exact xC H
   intro I03 le3;refine yY [1,3,4,5,34] rfl ?_;have ⟨h,h1,H⟩:=m3 le3 h h1 H;refine yL [] [6] rfl<|yE<|yO [36] rfl<|zI<|yH N ?_ ?_
   · intro hc3 N;exact uA [(2,vF)]<|xE<|zH<|zV<|zH<|zH<|hr _ _ _ _ (zB N).symm H ⟨_,_,(.tmp rfl ResV.nil),zL,⟨_,rfl,rfl,rfl⟩⟩
   intro hc3 N;exact zT<|zI<|zM<|yL [] [3] rfl<|zQ<|zI<|zM<|yL [] [4] rfl<|xF<|mJ<|ih (W (total + y2)) (W (i + 1)) _ N H h h1 hg ho hx hr
 intro hc2 N;exact tS<|xQ zL<|yM<|hx _ _ (zB N).symm H
def uQ (p:zO):Option (Bool):=do
 let t16←(do
   let y←qC p.Arrays
   if (!y) then
    pure true
   else
    pure (decide ((p.Parts.length:Int) > 4))
     : Option Bool)
 if t16 then
  pure false
 else
  match←xS p 0 0 with
  | .ret r0=>pure r0
  | .done total1 =>
   pure (decide (total1 ≤ 120))
theorem jH:∀ p r,uQ p=some r→∀ {I:Imm}{p1 c p2 c1},(S4 I p1 p.Arrays c)→(S4 I p2 p.Parts c1)→RT 86 [vA (cProg p p1 c p2 c1)] I [] (zP  r):=by
 intro p r N I p1 c p2 c1 h h1;unfold uQ at N;refine yI Tryz.func86 fun B=>?_;have H:=iS I;refine yG<|uG (cProg p p1 c p2 c1) ?_;intro b hb;refine wC [] []<|yE<|yA ?_;refine wI N [hB b (cProg p p1 c p2 c1)] (fun t16=>[(1,vP b 0),(16,.bool t16)]) (fun o0 ho0=>?_) ?_
 · have H:=iS I;refine zM<|yF 2 [0] [8] rfl ?_;obtain ⟨y,hy,N⟩:=zC ho0;refine uB (zBu p.Arrays _ hy h) ?_;intro I01 le;have H:=H.trans le;refine yF 5 [] [11] rfl<|xP [11] N ?_ ?_
   · intro hc N;exact wC [] [(16,vY)]<|yM<|zR (ct N H)
   intro hc N;exact yL [0] [16] rfl<|yM<|zR (ct N H)
 intro t16 I0 le1 hMc;have ⟨h,h1⟩:=m2 le1 h h1;refine zI<|yH hMc ?_ ?_
 · intro hc1 N;refine uA [(2,vF)]<|xE<|zH ?_;obtain rfl:=zB N;exact wM
 intro hc1 N;refine zT<|sI [3] rfl<|yE<|yO [4] rfl<|uV<|mH [(1,vP b 0),(3,vI 0),(4,vI 0)] ?_;obtain ⟨o01,ho01,hMl⟩:=zC N;refine fT p 0 0 o01 ho01 iR h h1 (fun _ _ _ h=>h) (fun _ _ h=>h) ?_ ?_
 · intro I04 total1 heq1 le4;subst o01;refine zU<|sI [2] rfl<|zI<|yS ?_;obtain rfl:=zB hMl;exact wM
 intro r0 I9 hs9 m9 heq9 le9 hrs9;subst heq9;refine zV<|zH ?_;obtain rfl:=zB hMl;exact xB hrs9
def zBz (r:(List zN)):KT:=fun kk I' hs' v=>
  ∃ v0,hs'=[]∧v=tupV [v0]∧SL I' v0 r
def pR :Option ((List zN)):=do
 pure ([(zN.mk (⟨[65]⟩:Str) ([6]:List Int)),(zN.mk (⟨[66]⟩:Str) ([4,5]:List Int)),(zN.mk (⟨[67]⟩:Str) ([3]:List Int))]:List zN)
theorem kF:∀ r,pR =some r→∀ {I:Imm} ,RT 119 [] I [] (zBz  r):=by
 intro  r N I;unfold pR at N;refine yI Tryz.func119 fun B=>uA []<|yX<|qB [vI 6] Int ?_;intro b hb;have h:RL I [vI 6] ([6]:List Int):=rI [6];refine yF 2 [] [2] rfl<|qB [vI 4,vI 5] Int ?_;intro b1 hb1;have h1:RL I [vI 4,vI 5] ([4,5]:List Int):=rI [4,5];refine yF 4 [] [4] rfl<|qB [vI 3] Int ?_;intro b2 hb2;have h2:RL I [vI 3] ([3]:List Int):=rI [3];refine yF 6 [] [6] rfl<|vZ 2 rfl ?_;intro I0 le hl0;have h3:=SL.of_frozen hl0 le h;have ⟨h1,h2⟩:=m2 le h1 h2;refine vZ 1 rfl ?_;intro I01 le1 hl01;have h4:=SL.of_frozen hl01 le1 h1;have ⟨h3,h2⟩:=m2 le1 h3 h2;refine vZ 0 rfl ?_;intro I02 le2 hl02;have h5:=SL.of_frozen hl02 le2 h2;have ⟨h3,h4⟩:=m2 le2 h3 h4;refine qB [vT ([65]),vS (some ⟨b,0,none⟩) ([6]:List Int) 1,vT ([66]),vS (some ⟨b1,0,none⟩) ([4,5]:List Int) 2,vT ([67]),vS (some ⟨b2,0,none⟩) ([3]:List Int) 1] zN ?_;intro b3 hb3;have h6:RL I02 [vT ([65]),vS (some ⟨b,0,none⟩) ([6]:List Int) 1,vT ([66]),vS (some ⟨b1,0,none⟩) ([4,5]:List Int) 2,vT ([67]),vS (some ⟨b2,0,none⟩) ([3]:List Int) 1] ([(zN.mk (⟨[65]⟩:Str) ([6]:List Int)),(zN.mk (⟨[66]⟩:Str) ([4,5]:List Int)),(zN.mk (⟨[67]⟩:Str) ([3]:List Int))]:List zN):=⟨[vT ([65]),vS (some ⟨b,0,none⟩) ([6]:List Int) 1],_,rfl,rfl,(nC ⟨_,rfl,h3⟩),⟨[vT ([66]),vS (some ⟨b1,0,none⟩) ([4,5]:List Int) 2],_,rfl,rfl,(nC ⟨_,rfl,h4⟩),⟨[vT ([67]),vS (some ⟨b2,0,none⟩) ([3]:List Int) 1],_,rfl,rfl,(nC ⟨_,rfl,h5⟩),rfl⟩⟩⟩;refine yL [] [0] rfl<|xE<|xN 0 rfl ?_;intro I03 le3 hl03;have h7:=SL.of_frozen hl03 le3 h6;obtain rfl:=zB N;exact xB ⟨_,_,(.tmp rfl ResV.nil),zL,⟨_,rfl,rfl,h7⟩⟩
def tL (a0:zA) (x:Int) (b:zA) (y:Int) (i:Int) (Coefs:List Int):Option (List Int):=do
 if (decide (i < 4)) then
  let x1←idx a0.Coefs i
  let x2←idx b.Coefs i
  let l←app 8 Coefs ([(W ((W (x * x1)) + (W (y * x2))))]:List Int)
  tL a0 x b y (W (i + 1)) l
 else
  pure (id Coefs)
 partial_fixpoint
theorem dU (a0:zA) (x:Int) (b:zA) (y:Int):∀ (i:Int) (Coefs:List Int) (o:List Int),tL a0 x b y i Coefs=some o→∀ {B}{I0 I:Imm}{Q p c p1 c1}{b1:Nat}{b2:Nat}{b3:Nat}{b4:Nat}{p2 c2 cs},I0.le I→(S4 I p1 b.Coefs c1)→(S4 I p a0.Coefs c)→(RL I cs Coefs)→NG Q→NO Q→(∀ (I':Imm) (Coefs1:List Int) (p3:Option Addr) (c3:Nat) (cs1:List Value),o=Coefs1→I0.le I'→(RL I' cs1 Coefs1)→T 46 B Q (.exit 0) I' [hO Int (vS p3 Coefs1 c3) cs1,hB b4 [vS p3 Coefs1 c3,vI (W ((W (x * a0.Const)) + (W (y * b.Const))))],hB b3 [z0,vI 0]] [(8,vP b3 0),(9,vP b4 0)])→J Tryz.prog 46 B (nav (bodyOf Tryz.f239) [1,1,0,1,0]) Q I [hO Int (vS p2 Coefs c2) cs,hB b4 [vS p2 Coefs c2,vI (W ((W (x * a0.Const)) + (W (y * b.Const))))],hB b3 [z0,vI 0],hB b2 (cAff b p1 c1),hB b1 (cAff a0 p c)] [(1,vI x),(3,vI y),(4,vP b1 0),(6,vP b2 0),(8,vP b3 0),(9,vP b4 0),(10,vI i)]:=by
 refine tL.partial_correctness a0 x b y _ fun self ih i Coefs o N B I0 I Q p c p1 c1 b1 b2 b3 b4 p2 c2 cs H h1 h h3 hg ho hx=>xH hg ho<|yA<|yO [22] rfl<|zI<|yH N ?_ ?_
 · intro hc N;refine zT<|yE<|yN ?_;obtain ⟨x1,hy,N⟩:=zC N;obtain ⟨x2,hy1,N⟩:=zC N;obtain ⟨l,hy2,N⟩:=zC N;refine wZ [.p (vP b4 0) [],.p (vS p2 Coefs c2) [0],.p (vI x) [],.p (vP b1 0) [],.p (vS p a0.Coefs c) [3],.p (vI i) [],.x (fun I' v hx=>∃ ad,v=.pointer (some ad)∧hx=[]∧(At I' ad [vI x1])),.q (vI x1),.p (vI (W (x * x1))) [],.p (vI y) [],.p (vP b2 0) [],.p (vS p1 b.Coefs c1) [2],.p (vI i) [],.x (fun I' v hx=>∃ ad1,v=.pointer (some ad1)∧hx=[]∧(At I' ad1 [vI x2])),.q (vI x2),.p (vI (W (y * x2))) [],.p (vI (W ((W (x * x1)) + (W (y * x2))))) [],.x (fun I' v hx=>∃ b5,v=vS (some ⟨b5,0,none⟩) ([(W ((W (x * x1)) + (W (y * x2))))]:List Int) 1∧hx=[]∧(SL I' (vS (some ⟨b5,0,none⟩) ([(W ((W (x * x1)) + (W (y * x2))))]:List Int) 1) ([(W ((W (x * x1)) + (W (y * x2))))]:List Int))),.x (fun I' v hx=>∃ p4 c4 cs2,v=vS p4 l c4∧hx=[hO Int (vS p4 l c4) cs2]∧(RL I' cs2 l))] [[],[(0,false)],[],[],[(3,false)],[],[(4,false),(5,false)],[(6,false)],[(2,false),(7,false)],[],[],[(10,false)],[],[(11,false),(12,false)],[(13,false)],[(9,false),(14,false)],[(8,false),(15,false)],[(16,false)],[(1,false),(17,false),(21,true)]] [hB b4 [vS p2 Coefs c2,vI (W ((W (x * a0.Const)) + (W (y * b.Const))))],hB b3 [z0,vI 0],hB b2 (cAff b p1 c1),hB b1 (cAff a0 p c)] [[hO Int (vS p2 Coefs c2) cs]] [(18,true)] (yB [1,2,3,4,0]) ?_ ?_
   · refine Op<|Op<|Op<|Op<|Op<|Op<|Ox ?_<|Oq ?_<|Op<|Op<|Op<|Op<|Op<|Ox ?_<|Oq ?_<|Op<|Op<|Ox ?_<|Ox ?_<|On
     · intro I1 hf le1;refine yY [29,30] rfl ?_;have h:=h.mono le1;refine wF rfl rfl h hy ?_;intro ad ccs hat hrep;obtain rfl:=hrep;exact yW [] iR ⟨_,rfl,rfl,hat⟩
     · rintro I1 hf le1 _ _ ⟨ad,rfl,rfl,hat⟩;exact yY [31] rfl<|xT 0 hat [vI x1] (vI x1) rfl<|xC iR
     · intro I1 hf le1;refine yY [36,37] rfl ?_;have h1:=h1.mono le1;refine wF rfl rfl h1 hy1 ?_;intro ad1 ccs1 hat1 hrep1;obtain rfl:=hrep1;exact yW [] iR ⟨_,rfl,rfl,hat1⟩
     · rintro I1 hf le1 _ _ ⟨ad1,rfl,rfl,hat1⟩;exact yY [38] rfl<|xT 0 hat1 [vI x2] (vI x2) rfl<|xC iR
     · intro I1 hf le1;refine yY [41] rfl ?_;have H:=iS I1;refine nM (rI [(W ((W (x * x1)) + (W (y * x2))))]) ?_;intro b5 I0 le h6;have H:=H.trans le;exact yW [] H ⟨_,rfl,rfl,h6⟩
     rintro I1 hf le1 _ _ ⟨rfl,rfl⟩ _ _ ⟨b5,rfl,rfl,h6⟩ _ _ rfl;refine yY [26,42] rfl ?_;have h3:=iM le1 h3;obtain ⟨ccs2,k0,k01⟩:=h6;have h6:SL I1 (vS (some ⟨b5,0,none⟩) ([(W ((W (x * x1)) + (W (y * x2))))]:List Int) 1) ([(W ((W (x * x1)) + (W (y * x2))))]:List Int):=⟨_,k0,k01⟩;exact nO 3 1 0 rfl rfl rfl h3 (.inl k0) k01 hy2 fun p4 c4 cs2 h7=>qI (hs':=(hO Int (vS p4 l c4) cs2::hB b4 [vS p2 Coefs c2,vI (W ((W (x * a0.Const)) + (W (y * b.Const))))]::hB b3 [z0,vI 0]::hB b2 (cAff b p1 c1)::hB b1 (cAff a0 p c)::hf)) rfl<|yW [hO Int (vS p4 l c4) cs2] iR ⟨_,_,_,rfl,rfl,h7⟩
   rintro I01 le1 _ _ ⟨p4,c4,cs2,rfl,rfl,h7⟩;refine yY [1,3,4,6,8,9,10,43] rfl ?_;have ⟨h1,h,H⟩:=m3 le1 h1 h H;exact yF 20 [] [44] rfl<|yZ 1 [vS p4 l c4,vI (W ((W (x * a0.Const)) + (W (y * b.Const))))] rfl<|zZ rfl<|zQ<|zI<|zM<|yL [] [10] rfl<|xF<|mJ<|ih (W (i + 1)) l _ N H h1 h h7 hg ho hx
 intro hc N;exact tS<|xQ (zX [0,1,2] rfl (by decide))<|yM<|hx _ _ _ _ _ (zB N).symm H h3
def qM (a0:zA) (x:Int) (b:zA) (y:Int):Option (zA):=do
 let Coefs1←tL a0 x b y 0 ([]:List Int)
 pure (zA.mk Coefs1 (W ((W (x * a0.Const)) + (W (y * b.Const)))))
theorem gX:∀ a0 x b y r,qM a0 x b y=some r→∀ {I:Imm}{p c p1 c1},(S4 I p a0.Coefs c)→(S4 I p1 b.Coefs c1)→RT 239 [vA (cAff a0 p c),vI x,vA (cAff b p1 c1),vI y] I [] (tF  r):=by
 intro a0 x b y r N I p c p1 c1 h h1;unfold qM at N;refine yI Tryz.func239 fun B=>yG<|uG (cAff a0 p c) ?_;intro b1 hb;refine uG (cAff b p1 c1) ?_;intro b2 hb1;refine wK [z0,vI 0] ?_;intro b3 hb2;refine zZ rfl<|yX<|sH 10 [2,1] [(20,vA [z0,vI (W ((W (x * a0.Const)) + (W (y * b.Const))))])]<|wK [z0,vI 0] ?_;intro b4 hb3;refine yZ 0 [z0,vI (W ((W (x * a0.Const)) + (W (y * b.Const))))] rfl<|zZ rfl<|yE<|yO [10] rfl<|uV<|mH [(1,vI x),(3,vI y),(4,vP b1 0),(6,vP b2 0),(8,vP b3 0),(9,vP b4 0),(10,vI 0)]<|zDQ Int fun h2=>?_;obtain ⟨o0,ho0,hMl⟩:=zC N;refine dU a0 x b y 0 ([]:List Int) o0 ho0 iR h1 h h2 (fun _ _ _ h=>h) (fun _ _ h=>h) ?_;intro I02 Coefs1 p3 c3 cs1 heq le2 h4;subst o0;refine zU<|yX<|sH 1 [1] [(45,vA [vS p3 Coefs1 c3,vI (W ((W (x * a0.Const)) + (W (y * b.Const))))])]<|yZ 2 [vS p3 Coefs1 c3,vI (W ((W (x * a0.Const)) + (W (y * b.Const))))] rfl<|zZ rfl<|xE<|xN 0 rfl ?_;intro I03 le3 hl01;have h8:=SL.of_frozen hl01 le3 h4;obtain rfl:=zB hMl;exact xB ⟨_,_,(.cell 1 rfl rfl (by kernel_rfl) ResV.nil),zL,⟨_,rfl,rfl,⟨_,rfl,(yC ⟨_,rfl,h8⟩)⟩⟩⟩
def zCA (b0:Nat) (r:zG×zJ):KT:=fun kk I' hs' v=>
  ∃ v0 k0,hs'=[.blk b0 ⟨k0⟩]∧v=tupV [v0]∧(∃ cs,v0=.agg ⟨cs⟩∧Rp.rep I' cs r.1)∧Rp.rep I' k0 r.2
def mM (r0:zJ) (depth:Int):Option (zG×zJ):=do
 let (y1,y2)←yT r0 ([0,0,1,0,(-1)]:List Int)
 let y3←vH y1
 let (y5,y6)←yT y2 ([3,4,2,3,1]:List Int)
 let y7←vH y5
 let (t23,x)←(do
   if (decide (depth > 0)) then
    let (y9,y10)←yU y6 4
    pure ((y9 == 0),y10)
   else
    pure (false,y6)
     : Option (Bool×zJ))
 let (x1,x2,x3)←(do
   if t23 then
    let (y12,y13)←yU x depth
    let (y15,y16)←yU y13 2
    let (x4,x5)←(do
      if (y15 == 0) then
       let y17←pI y12
       pure (y17,(zA.mk y7.Coefs y7.Const))
      else
       let y18←pI y12
       let y19←vH 1
       let y20←qM y18 1 y19 1
       pure ((zA.mk y3.Coefs y3.Const),y20)
        : Option (zA×zA))
    pure (x4,x5,y16)
   else
    pure ((zA.mk y3.Coefs y3.Const),(zA.mk y7.Coefs y7.Const),x)
     : Option (zA×zA×zJ))
 let (y22,y23)←yU x3 12
 let (Lo,Hi,x6)←(do
   if (y22 == 0) then
    let (y25,y26)←yT y23 ([3,2,4]:List Int)
    let y27←vH y25
    let l←app 32 ([x2]:List zA) ([y27]:List zA)
    pure (([x1]:List zA),l,y26)
   else
    let (Lo1,x7)←(do
      if (y22 == 1) then
       let (y29,y30)←yT y23 ([0,1]:List Int)
       let y31←vH y29
       let l1←app 32 ([x1]:List zA) ([y31]:List zA)
       pure (l1,y30)
      else
       pure (([x1]:List zA),y23)
        : Option (List zA×zJ))
    pure (Lo1,([x2]:List zA),x7)
     : Option (List zA×List zA×zJ))
 pure ((zG.mk Lo Hi),x6)
theorem zDU:∀ r0 depth r,mM r0 depth=some r→∀ {I:Imm}{r01:Nat}{p c},(S4 I p r0.b c)→RT 211 [vP r01 0,vI depth] I [hB r01 (cRd r0 p c)] (zCA r01 r):=by
 intro r0 depth r N I r01 p c h;unfold mM at N;refine yI Tryz.func211 fun B=>?_;have H:=iS I;refine yG<|wK zTwo ?_;intro b hb;refine zZ rfl<|yX<|yF 1 [] [9] rfl<|nM (rI [0,0,1,0,(-1)]) ?_;intro b1 I0 le h2;have ⟨h,H⟩:=m2 le h H;refine qH (yB [1,0] (hs':=[hB r01 (cRd r0 p c),hB b zTwo])) ?_;obtain ⟨⟨y1,y2⟩,hy,N⟩:=zC N;refine rA (xG r0 ([0,0,1,0,(-1)]:List Int) _ hy h h2) rfl ?_;rintro I01 hs2 v2 k2 le1 - ⟨v0,kk,rfl,rfl,rfl,h4⟩ -;have H:=H.trans le1;obtain ⟨p1,c1,rfl,h5⟩:=zY h4;obtain ⟨y3,hy1,N⟩:=zC N;refine xM (sA y1 _ hy1 ) ?_;rintro I02 hs2 v2 k2 le2 - ⟨p2,c2,cs,rfl,rfl,h6⟩ -;have ⟨h5,H⟩:=m2 le2 h5 H;refine wK [z0,vI 0] ?_;intro b2 hb2;refine yZ 0 (cAff y3 p2 c2) rfl<|zZ rfl<|yX<|yF 1 [] [13] rfl<|nM (rI [3,4,2,3,1]) ?_;intro b3 I03 le3 h8;have ⟨h6,h5,H⟩:=m3 le3 h6 h5 H;refine qH (yB [2,0,1,3] (hs':=[hB r01 (cRd y2 p1 c1),hB b2 (cAff y3 p2 c2),hO Int (vS p2 y3.Coefs c2) cs,hB b zTwo])) ?_;obtain ⟨⟨y5,y6⟩,hy2,N⟩:=zC N;refine rA (xG y2 ([3,4,2,3,1]:List Int) _ hy2 h5 h8) rfl ?_;rintro I04 hs2 v2 k2 le4 - ⟨v02,kk1,rfl,rfl,rfl,h10⟩ -;have ⟨h6,H⟩:=m2 le4 h6 H;obtain ⟨p3,c3,rfl,h11⟩:=zY h10;obtain ⟨y7,hy3,N⟩:=zC N;refine xM (sA y5 _ hy3 ) ?_;rintro I05 hs2 v2 k2 le5 - ⟨p4,c4,cs1,rfl,rfl,h12⟩ -;have ⟨h11,h6,H⟩:=m3 le5 h11 h6 H;refine wK [z0,vI 0] ?_;intro b4 hb4;refine yZ 0 (cAff y7 p4 c4) rfl<|zZ rfl<|yE<|yA ?_;obtain ⟨o0,ho0,hMc⟩:=zC N;refine oH (fun I' hs' m'=>∃ (t23:Bool) (x:zJ) (p5:Option Addr) (c5:Nat),o0=(t23,x)∧I05.le I'∧(S4 I' p5 x.b c5)∧hs'=[hB b4 (cAff y7 p4 c4),hO Int (vS p4 y7.Coefs c4) cs1,hB r01 (cRd x p5 c5),hB b2 (cAff y3 p2 c2),hO Int (vS p2 y3.Coefs c2) cs,hB b zTwo]∧m'=[(0,vP r01 0),(1,vI depth),(4,vP b 0),(5,vP b2 0),(6,vP b4 0),(23,.bool t23)]) ?_ ?_
 · have H:=iS I05;refine zM<|yF 3 [] [19] rfl<|xP [19] ho0 ?_ ?_
   · intro hc N;refine yF 4 [] [20] rfl<|qH (yB [2,0,1,3,4,5] (hs':=[hB r01 (cRd y6 p3 c3),hB b4 (cAff y7 p4 c4),hO Int (vS p4 y7.Coefs c4) cs1,hB b2 (cAff y3 p2 c2),hO Int (vS p2 y3.Coefs c2) cs,hB b zTwo])) ?_;obtain ⟨⟨y9,y10⟩,hy4,N⟩:=zC N;refine rA (xL y6 4 _ hy4 h11) rfl ?_;rintro I07 hs2 v2 k2 le6 - ⟨v04,kk2,rfl,rfl,rfl,h15⟩ -;have H:=H.trans le6;obtain ⟨p6,c6,rfl,h16⟩:=zY h15;exact yL [] [23] rfl<|xQ (zX [1,2,0,3,4,5] rfl (by decide))<|yM<|zR ⟨_,_,_,_,(zB N).symm,H,h16,rfl,rfl⟩
   intro hc N;exact wC [] [(23,vF)]<|yM<|zR ⟨_,_,_,_,(zB N).symm,H,h11,rfl,rfl⟩
 rintro I06 hs2 m2 ⟨t23,x,p5,c5,heq,le7,h13,rfl,rfl⟩;subst o0;have ⟨h12,h6,H⟩:=m3 le7 h12 h6 H;refine zI<|mK 4 rfl ?_;intro I08 le8 hl02;have h17:=SL.of_frozen hl02 le8 h6;have ⟨h12,h13,H⟩:=m3 le8 h12 h13 H;refine mK 1 rfl ?_;intro I09 le9 hl03;have h18:=SL.of_frozen hl03 le9 h12;have ⟨h13,h17,H⟩:=m3 le9 h13 h17 H;obtain ⟨o01,ho01,hMc1⟩:=zC hMc;refine oH (fun I' hs' m'=>∃ (x1:zA) (x2:zA) (x3:zJ) (p7:Option Addr) (c7:Nat) (p8:Option Addr) (c8:Nat) (p9:Option Addr) (c9:Nat),o01=(x1,x2,x3)∧I09.le I'∧(S4 I' p7 x1.Coefs c7)∧(S4 I' p8 x2.Coefs c8)∧(S4 I' p9 x3.b c9)∧hs'=[hB b4 (cAff x2 p8 c8),hB r01 (cRd x3 p9 c9),hB b2 (cAff x1 p7 c7),hB b zTwo]∧m'=[(0,vP r01 0),(4,vP b 0),(5,vP b2 0),(6,vP b4 0)]) ?_ ?_
 · have H:=iS I09;refine yH ho01 ?_ ?_
   · intro hc1 N;refine yG<|yF 2 [] [24,25] rfl<|qH (yB [1,0,2,3] (hs':=[hB r01 (cRd x p5 c5),hB b4 (cAff y7 p4 c4),hB b2 (cAff y3 p2 c2),hB b zTwo])) ?_;obtain ⟨⟨y12,y13⟩,hy5,N⟩:=zC N;refine rA (xL x depth _ hy5 h13) rfl ?_;rintro I011 hs2 v2 k2 le10 - ⟨v06,kk3,rfl,rfl,rfl,h23⟩ -;have ⟨h18,h17,H⟩:=m3 le10 h18 h17 H;obtain ⟨p10,c10,rfl,h24⟩:=zY h23;refine yL [] [7] rfl<|yX<|yF 1 [] [27] rfl ?_;obtain ⟨⟨y15,y16⟩,hy6,N⟩:=zC N;refine rA (xL y13 2 _ hy6 h24) rfl ?_;rintro I012 hs2 v2 k2 le11 - ⟨v08,kk4,rfl,rfl,rfl,h26⟩ -;have ⟨h18,h17,H⟩:=m3 le11 h18 h17 H;obtain ⟨p11,c11,rfl,h27⟩:=zY h26;refine yL [] [29] rfl<|zI ?_;obtain ⟨o02,ho02,hMc2⟩:=zC N;refine oH (fun I' hs' m'=>∃ (x4:zA) (x5:zA) (p12:Option Addr) (c12:Nat) (p13:Option Addr) (c13:Nat),o02=(x4,x5)∧I012.le I'∧(S4 I' p12 x4.Coefs c12)∧(S4 I' p13 x5.Coefs c13)∧hs'=[hB r01 (cRd y16 p11 c11),hB b4 (cAff x5 p13 c13),hB b2 (cAff x4 p12 c12),hB b zTwo]∧m'=[(0,vP r01 0),(4,vP b 0),(5,vP b2 0),(6,vP b4 0)]) ?_ ?_
     · have H:=iS I012;refine yH ho02 ?_ ?_
       · intro hc2 N;refine zM<|yF 1 [] [30] rfl<|bE N fun y17 hy7 N=>xM (jC y12 _ hy7 ) ?_;rintro I014 hs2 v2 k2 le12 - ⟨v010,rfl,rfl,⟨cs2,rfl,h30⟩⟩ -;have ⟨h18,H⟩:=m2 le12 h18 H;obtain ⟨p14,c14,rfl,h31⟩:=yD h30;exact yZ 2 (cAff y17 p14 c14) rfl<|zZ rfl<|yM<|zR ⟨_,_,_,_,_,_,(zB N).symm,H,h31,h18,rfl,rfl⟩
       intro hc2 N;refine zM<|yF 1 [] [32] rfl<|bE N fun y18 hy8 N=>xM (jC y12 _ hy8 ) ?_;rintro I015 hs2 v2 k2 le13 - ⟨v012,rfl,rfl,⟨cs3,rfl,h32⟩⟩ -;have ⟨h17,H⟩:=m2 le13 h17 H;obtain ⟨p15,c15,rfl,h33⟩:=yD h32;obtain ⟨y19,hy9,N⟩:=zC N;refine xM (sA 1 _ hy9 ) ?_;rintro I016 hs2 v2 k2 le14 - ⟨p16,c16,cs4,rfl,rfl,h34⟩ -;have ⟨h33,h17,H⟩:=m3 le14 h33 h17 H;refine vZ 0 rfl ?_;intro I017 le15 hl04;have h35:=SL.of_frozen hl04 le15 h34;have ⟨h33,h17,H⟩:=m3 le15 h33 h17 H;obtain ⟨y20,hy10,N⟩:=zC N;refine xM (gX y18 1 y19 1 _ hy10 h33 h35) ?_;rintro I018 hs2 v2 k2 le16 - ⟨v014,rfl,rfl,⟨cs5,rfl,h36⟩⟩ -;have ⟨h17,H⟩:=m2 le16 h17 H;obtain ⟨p17,c17,rfl,h37⟩:=yD h36;exact yZ 1 (cAff y20 p17 c17) rfl<|zZ rfl<|yM<|zR ⟨_,_,_,_,_,_,(zB N).symm,H,h17,h37,rfl,rfl⟩
     rintro I013 hs2 m2 ⟨x4,x5,p12,c12,p13,c13,heq1,le17,h28,h29,rfl,rfl⟩;subst o02;have ⟨h27,H⟩:=m2 le17 h27 H;exact xQ (zX [1,0,2,3] rfl (by decide))<|yM<|zR ⟨_,_,_,_,_,_,_,_,_,(zB hMc2).symm,H,h28,h29,h27,rfl,rfl⟩
   intro hc1 N;exact zT<|yM<|zR ⟨_,_,_,_,_,_,_,_,_,(zB N).symm,H,h17,h18,h13,rfl,rfl⟩
 rintro I010 hs2 m2 ⟨x1,x2,x3,p7,c7,p8,c8,p9,c9,heq2,le18,h19,h20,h21,rfl,rfl⟩;subst o01;have H:=H.trans le18;refine yX<|sH 1 [2] [(36,vA (cAff x1 p7 c7))]<|qB (cAff x1 p7 c7) zA ?_;intro b5 hb5;have h38:RL I010 (cAff x1 p7 c7) ([x1]:List zA):=⟨(cAff x1 p7 c7),_,rfl,rfl,(yC ⟨_,rfl,h19⟩),rfl⟩;refine sH 3 [1] [(38,vA (cAff x2 p8 c8))]<|qB (cAff x2 p8 c8) zA ?_;intro b6 hb6;have h39:RL I010 (cAff x2 p8 c8) ([x2]:List zA):=⟨(cAff x2 p8 c8),_,rfl,rfl,(yC ⟨_,rfl,h20⟩),rfl⟩;refine yF 5 [] [40] rfl<|wK zTwo ?_;intro b7 hb7;refine yZ 0 [vS (some ⟨b5,0,none⟩) ([x1]:List zA) 1,vS (some ⟨b6,0,none⟩) ([x2]:List zA) 1] rfl<|zZ rfl<|yE<|yG<|yF 1 [] [41] rfl<|qH (yB [4,0,1,2,3,5,6] (hs':=[hB r01 (cRd x3 p9 c9),hB b7 [vS (some ⟨b5,0,none⟩) ([x1]:List zA) 1,vS (some ⟨b6,0,none⟩) ([x2]:List zA) 1],hO zA (vS (some ⟨b6,0,none⟩) ([x2]:List zA) 1) (cAff x2 p8 c8),hO zA (vS (some ⟨b5,0,none⟩) ([x1]:List zA) 1) (cAff x1 p7 c7),hB b4 (cAff x2 p8 c8),hB b2 (cAff x1 p7 c7),hB b zTwo])) ?_;obtain ⟨⟨y22,y23⟩,hy11,N⟩:=zC hMc1;refine rA (xL x3 12 _ hy11 h21) rfl ?_;rintro I019 hs2 v2 k2 le19 - ⟨v016,kk5,rfl,rfl,rfl,h41⟩ -;have ⟨h38,h39,H⟩:=m3 le19 h38 h39 H;obtain ⟨p18,c18,rfl,h42⟩:=zY h41;refine zZ rfl<|uV<|yO [43] rfl<|zI<|mK 4 rfl ?_;intro I020 le20 hl05;have hat:At I020 ⟨b4,0,none⟩ (cAff x2 p8 c8):=At.of_blk hl05;have ⟨h42,h38,h39,H⟩:=m4 le20 h42 h38 h39 H;refine mK 4 rfl ?_;intro I021 le21 hl06;have hat1:At I021 ⟨b2,0,none⟩ (cAff x1 p7 c7):=At.of_blk hl06;have ⟨h42,h38,h39,H⟩:=m4 le21 h42 h38 h39 H;obtain ⟨o03,ho03,hMc3⟩:=zC N;refine oH (fun I' hs' m'=>∃ (Lo:List zA) (Hi:List zA) (x6:zJ) (p19:Option Addr) (c19:Nat) (cs6:List Value) (p20:Option Addr) (c20:Nat) (cs7:List Value) (p21:Option Addr) (c21:Nat),o03=(Lo,Hi,x6)∧I021.le I'∧(RL I' cs6 Lo)∧(RL I' cs7 Hi)∧(S4 I' p21 x6.b c21)∧hs'=[hB r01 (cRd x6 p21 c21),hB b7 [vS p19 Lo c19,vS p20 Hi c20],hO zA (vS p20 Hi c20) cs7,hO zA (vS p19 Lo c19) cs6,hB b zTwo]∧m'=[(4,vP b 0),(8,vP b7 0)]) ?_ ?_
 · have H:=iS I021;refine yH ho03 ?_ ?_
   · intro hc3 N;obtain ⟨⟨y25,y26⟩,hy12,N⟩:=zC N;obtain ⟨y27,hy13,N⟩:=zC N;obtain ⟨l,hy14,N⟩:=zC N;refine wZ [.p (vP b7 1) [],.p (vS (some ⟨b6,0,none⟩) ([x2]:List zA) 1) [0],.p (vP r01 0) [],.x (fun I' v hx=>∃ b8,v=vS (some ⟨b8,0,none⟩) ([3,2,4]:List Int) 3∧hx=[]∧(SL I' (vS (some ⟨b8,0,none⟩) ([3,2,4]:List Int) 3) ([3,2,4]:List Int))),.x (fun I' v hx=>∃ p22 c22,v=vI y25∧hx=[hB r01 (cRd y26 p22 c22)]∧(S4 I' p22 y26.b c22)),.x (fun I' v hx=>∃ p23 c23 cs8,v=vA (cAff y27 p23 c23)∧hx=[hO Int (vS p23 y27.Coefs c23) cs8]∧(RL I' cs8 y27.Coefs)),.x (fun I' v hx=>∃ b9,v=vS (some ⟨b9,0,none⟩) ([y27]:List zA) 1∧hx=[]∧(SL I' (vS (some ⟨b9,0,none⟩) ([y27]:List zA) 1) ([y27]:List zA))),.x (fun I' v hx=>∃ p24 c24 cs9,v=vS p24 l c24∧hx=[hO zA (vS p24 l c24) cs9]∧(RL I' cs9 l))] [[],[(0,false)],[],[],[(2,false),(3,false),(10,true)],[(4,false)],[(5,true)],[(1,false),(6,false),(11,true)]] [hB b7 [vS (some ⟨b5,0,none⟩) ([x1]:List zA) 1,vS (some ⟨b6,0,none⟩) ([x2]:List zA) 1],hO zA (vS (some ⟨b5,0,none⟩) ([x1]:List zA) 1) (cAff x1 p7 c7),hB b zTwo] [[hB r01 (cRd y23 p18 c18)],[hO zA (vS (some ⟨b6,0,none⟩) ([x2]:List zA) 1) (cAff x2 p8 c8)]] [(4,true),(7,true)] (yB [1,3,4,0,2]) ?_ ?_
     · refine Op<|Op<|Op<|Ox ?_<|Ox ?_<|Ox ?_<|Ox ?_<|Ox ?_<|On
       · intro I1 hf le1;refine jM [] ?_;have H:=iS I1;refine nM (rI [3,2,4]) ?_;intro b8 I023 le22 h47;have H:=H.trans le22;exact yW [] H ⟨_,rfl,rfl,h47⟩
       · rintro I1 hf le1 _ _ ⟨rfl,rfl⟩ _ _ ⟨b8,rfl,rfl,h47⟩ _ _ rfl;refine yY [47,48] rfl ?_;have H:=iS I1;have h42:=h42.mono le1;refine rA (xG y23 ([3,2,4]:List Int) _ hy12 h42 h47) rfl ?_;rintro I024 hs2 v2 k2 le23 - ⟨v018,kk6,rfl,rfl,rfl,h49⟩ -;have H:=H.trans le23;obtain ⟨p22,c22,rfl,h50⟩:=zY h49;exact yW [hB r01 (cRd y26 p22 c22)] H ⟨_,_,rfl,rfl,h50⟩
       · rintro I1 hf le1 _ _ ⟨p22,c22,rfl,rfl,h50⟩;refine yY [49] rfl ?_;have H:=iS I1;refine xM (sA y25 _ hy13 ) ?_;rintro I025 hs2 v2 k2 le24 - ⟨p23,c23,cs8,rfl,rfl,h51⟩ -;have H:=H.trans le24;exact yW [hO Int (vS p23 y27.Coefs c23) cs8] H ⟨_,_,_,rfl,rfl,h51⟩
       · rintro I1 hf le1 _ _ ⟨p23,c23,cs8,rfl,rfl,h51⟩;refine yY [50] rfl ?_;have H:=iS I1;refine vZ 0 rfl ?_;intro I026 le25 hl08;have h52:=SL.of_frozen hl08 le25 h51;have H:=H.trans le25;refine nM (rc y27 (yC ⟨_,rfl,h52⟩) rN) ?_;intro b9 I027 le26 h54;have H:=H.trans le26;exact yW [] H ⟨_,rfl,rfl,h54⟩
       rintro I1 hf le1 _ _ ⟨rfl,rfl⟩ _ _ ⟨b9,rfl,rfl,h54⟩ _ _ rfl;refine yY [46,51] rfl ?_;have h39:=iM le1 h39;obtain ⟨ccs,k0,k01⟩:=h54;have h54:SL I1 (vS (some ⟨b9,0,none⟩) ([y27]:List zA) 1) ([y27]:List zA):=⟨_,k0,k01⟩;exact nO 43 2 0 rfl rfl rfl h39 (.inl k0) k01 hy14 fun p24 c24 cs9 h55=>qI (hs':=(hO zA (vS p24 l c24) cs9::hB b7 [vS (some ⟨b5,0,none⟩) ([x1]:List zA) 1,vS (some ⟨b6,0,none⟩) ([x2]:List zA) 1]::hO zA (vS (some ⟨b5,0,none⟩) ([x1]:List zA) 1) (cAff x1 p7 c7)::hB b zTwo::hf)) rfl<|yW [hO zA (vS p24 l c24) cs9] iR ⟨_,_,_,rfl,rfl,h55⟩
     rintro I028 le27 _ _ ⟨p22,c22,rfl,rfl,h50⟩ _ _ ⟨p24,c24,cs9,rfl,rfl,h55⟩;refine yY [4,8,52] rfl ?_;have ⟨h38,H⟩:=m2 le27 h38 H;exact yF 9 [] [53] rfl<|yZ 2 [vS (some ⟨b5,0,none⟩) ([x1]:List zA) 1,vS p24 l c24] rfl<|zZ rfl<|xQ (zX [1,2,0,3,4] rfl (by decide))<|yM<|zR ⟨_,_,_,_,_,_,_,_,_,_,_,(zB N).symm,H,h38,h55,h50,rfl,rfl⟩
   intro hc3 N;refine yO [54] rfl<|zI ?_;obtain ⟨o04,ho04,hMc4⟩:=zC N;refine oH (fun I' hs' m'=>∃ (Lo1:List zA) (x7:zJ) (p25:Option Addr) (c25:Nat) (cs10:List Value) (p26:Option Addr) (c26:Nat),o04=(Lo1,x7)∧I021.le I'∧(RL I' cs10 Lo1)∧(S4 I' p26 x7.b c26)∧hs'=[hB r01 (cRd x7 p26 c26),hB b7 [vS p25 Lo1 c25,vS (some ⟨b6,0,none⟩) ([x2]:List zA) 1],hO zA (vS (some ⟨b6,0,none⟩) ([x2]:List zA) 1) (cAff x2 p8 c8),hO zA (vS p25 Lo1 c25) cs10,hB b zTwo]∧m'=[(4,vP b 0),(8,vP b7 0)]) ?_ ?_
   · have H:=iS I021;refine yH ho04 ?_ ?_
     · intro hc4 N;obtain ⟨⟨y29,y30⟩,hy15,N⟩:=zC N;obtain ⟨y31,hy16,N⟩:=zC N;obtain ⟨l1,hy17,N⟩:=zC N;refine wZ [.p (vP b7 0) [],.p (vS (some ⟨b5,0,none⟩) ([x1]:List zA) 1) [0],.p (vP r01 0) [],.x (fun I' v hx=>∃ b10,v=vS (some ⟨b10,0,none⟩) ([0,1]:List Int) 2∧hx=[]∧(SL I' (vS (some ⟨b10,0,none⟩) ([0,1]:List Int) 2) ([0,1]:List Int))),.x (fun I' v hx=>∃ p27 c27,v=vI y29∧hx=[hB r01 (cRd y30 p27 c27)]∧(S4 I' p27 y30.b c27)),.x (fun I' v hx=>∃ p28 c28 cs11,v=vA (cAff y31 p28 c28)∧hx=[hO Int (vS p28 y31.Coefs c28) cs11]∧(RL I' cs11 y31.Coefs)),.x (fun I' v hx=>∃ b11,v=vS (some ⟨b11,0,none⟩) ([y31]:List zA) 1∧hx=[]∧(SL I' (vS (some ⟨b11,0,none⟩) ([y31]:List zA) 1) ([y31]:List zA))),.x (fun I' v hx=>∃ p29 c29 cs12,v=vS p29 l1 c29∧hx=[hO zA (vS p29 l1 c29) cs12]∧(RL I' cs12 l1))] [[],[(0,false)],[],[],[(2,false),(3,false),(10,true)],[(4,false)],[(5,true)],[(1,false),(6,false),(11,true)]] [hB b7 [vS (some ⟨b5,0,none⟩) ([x1]:List zA) 1,vS (some ⟨b6,0,none⟩) ([x2]:List zA) 1],hO zA (vS (some ⟨b6,0,none⟩) ([x2]:List zA) 1) (cAff x2 p8 c8),hB b zTwo] [[hB r01 (cRd y23 p18 c18)],[hO zA (vS (some ⟨b5,0,none⟩) ([x1]:List zA) 1) (cAff x1 p7 c7)]] [(4,true),(7,true)] (yB [1,2,4,0,3]) ?_ ?_
       · refine Op<|Op<|Op<|Ox ?_<|Ox ?_<|Ox ?_<|Ox ?_<|Ox ?_<|On
         · intro I1 hf le1;refine jM [] ?_;have H:=iS I1;refine nM (rI [0,1]) ?_;intro b10 I030 le28 h59;have H:=H.trans le28;exact yW [] H ⟨_,rfl,rfl,h59⟩
         · rintro I1 hf le1 _ _ ⟨rfl,rfl⟩ _ _ ⟨b10,rfl,rfl,h59⟩ _ _ rfl;refine yY [58,59] rfl ?_;have H:=iS I1;have h42:=h42.mono le1;refine rA (xG y23 ([0,1]:List Int) _ hy15 h42 h59) rfl ?_;rintro I031 hs2 v2 k2 le29 - ⟨v020,kk7,rfl,rfl,rfl,h61⟩ -;have H:=H.trans le29;obtain ⟨p27,c27,rfl,h62⟩:=zY h61;exact yW [hB r01 (cRd y30 p27 c27)] H ⟨_,_,rfl,rfl,h62⟩
         · rintro I1 hf le1 _ _ ⟨p27,c27,rfl,rfl,h62⟩;refine yY [60] rfl ?_;have H:=iS I1;refine xM (sA y29 _ hy16 ) ?_;rintro I032 hs2 v2 k2 le30 - ⟨p28,c28,cs11,rfl,rfl,h63⟩ -;have H:=H.trans le30;exact yW [hO Int (vS p28 y31.Coefs c28) cs11] H ⟨_,_,_,rfl,rfl,h63⟩
         · rintro I1 hf le1 _ _ ⟨p28,c28,cs11,rfl,rfl,h63⟩;refine yY [61] rfl ?_;have H:=iS I1;refine vZ 0 rfl ?_;intro I033 le31 hl011;have h64:=SL.of_frozen hl011 le31 h63;have H:=H.trans le31;refine nM (rc y31 (yC ⟨_,rfl,h64⟩) rN) ?_;intro b11 I034 le32 h66;have H:=H.trans le32;exact yW [] H ⟨_,rfl,rfl,h66⟩
         rintro I1 hf le1 _ _ ⟨rfl,rfl⟩ _ _ ⟨b11,rfl,rfl,h66⟩ _ _ rfl;refine yY [57,62] rfl ?_;have h38:=iM le1 h38;obtain ⟨ccs1,k02,k03⟩:=h66;have h66:SL I1 (vS (some ⟨b11,0,none⟩) ([y31]:List zA) 1) ([y31]:List zA):=⟨_,k02,k03⟩;exact nO 43 2 0 rfl rfl rfl h38 (.inl k02) k03 hy17 fun p29 c29 cs12 h67=>qI (hs':=(hO zA (vS p29 l1 c29) cs12::hB b7 [vS (some ⟨b5,0,none⟩) ([x1]:List zA) 1,vS (some ⟨b6,0,none⟩) ([x2]:List zA) 1]::hO zA (vS (some ⟨b6,0,none⟩) ([x2]:List zA) 1) (cAff x2 p8 c8)::hB b zTwo::hf)) rfl<|yW [hO zA (vS p29 l1 c29) cs12] iR ⟨_,_,_,rfl,rfl,h67⟩
       rintro I035 le33 _ _ ⟨p27,c27,rfl,rfl,h62⟩ _ _ ⟨p29,c29,cs12,rfl,rfl,h67⟩;refine yY [4,8,63] rfl ?_;have H:=H.trans le33;exact yF 9 [] [64] rfl<|yZ 2 [vS p29 l1 c29,vS (some ⟨b6,0,none⟩) ([x2]:List zA) 1] rfl<|zZ rfl<|xQ (zX [1,2,3,0,4] rfl (by decide))<|yM<|zR ⟨_,_,_,_,_,_,_,(zB N).symm,H,h67,h62,rfl,rfl⟩
     intro hc4 N;exact zT<|yM<|zR ⟨_,_,_,_,_,_,_,(zB N).symm,H,h38,h42,rfl,rfl⟩
   rintro I029 hs2 m2 ⟨Lo1,x7,p25,c25,cs10,p26,c26,heq3,le34,h56,h57,rfl,rfl⟩;subst o04;have ⟨h39,H⟩:=m2 le34 h39 H;exact yM<|zR ⟨_,_,_,_,_,_,_,_,_,_,_,(zB hMc4).symm,H,h56,h39,h57,rfl,rfl⟩
 rintro I022 hs2 m2 ⟨Lo,Hi,x6,p19,c19,cs6,p20,c20,cs7,p21,c21,heq4,le35,h43,h44,h45,rfl,rfl⟩;subst o03;refine zQ<|yX<|sH 1 [1] [(65,vA [vS p19 Lo c19,vS p20 Hi c20])]<|yZ 4 [vS p19 Lo c19,vS p20 Hi c20] rfl<|zZ rfl<|xE<|xN 3 rfl ?_;intro I036 le36 hl013;have h68:=SL.of_frozen hl013 le36 h43;have ⟨h45,h44⟩:=m2 le36 h45 h44;refine xN 2 rfl ?_;intro I037 le37 hl014;have h69:=SL.of_frozen hl014 le37 h44;have ⟨h45,h68⟩:=m2 le37 h45 h68;obtain rfl:=zB hMc3;exact xB ⟨_,_,(.cell 2 rfl rfl (by kernel_rfl) ResV.nil),(zX [0] rfl (by decide)),⟨_,_,rfl,rfl,⟨_,rfl,(qS ⟨_,_,rfl,h68,h69⟩)⟩,(yR ⟨_,rfl,h45⟩)⟩⟩
def zCB (b0:Nat) (r:(List zG)×zJ):KT:=fun kk I' hs' v=>
  ∃ v0 k0,hs'=[.blk b0 ⟨k0⟩]∧v=tupV [v0]∧SL I' v0 r.1∧Rp.rep I' k0 r.2
def rF (out:List zG) (i:Int) (x:zJ):Option ((List zG×zJ)):=do
 if (decide (i > 0)) then
  let (y4,y5)←mM x (out.length:Int)
  let out2←app 48 out ([y4]:List zG)
  rF out2 (W (i - 1)) y5
 else
  pure (out,x)
 partial_fixpoint
theorem zBR :∀ (out:List zG) (i:Int) (x:zJ) (o:(List zG×zJ)),rF out i x=some o→∀ {B}{I0 I:Imm}{Q}  {r01:Nat}{p2 c2 cs p3 c3},I0.le I→(RL I cs out)→(S4 I p3 x.b c3)→NG Q→NO Q→(∀ (I':Imm) (out1:List zG) (x1:zJ) (p4:Option Addr) (c4:Nat) (cs1:List Value) (p5:Option Addr) (c5:Nat),o=(out1,x1)→I0.le I'→(RL I' cs1 out1)→(S4 I' p5 x1.b c5)→T 21 B Q (.exit 0) I' [hB r01 (cRd x1 p5 c5),hO zG (vS p4 out1 c4) cs1] [(3,vS p4 out1 c4)])→J Tryz.prog 21 B (nav (bodyOf Tryz.f170) [1,1,0,1,0]) Q I [hB r01 (cRd x p3 c3),hO zG (vS p2 out c2) cs] [(0,vP r01 0),(3,vS p2 out c2),(4,vI i)]:=by
 refine rF.partial_correctness  _ fun self ih out i x o N B I0 I Q r01 p2 c2 cs p3 c3 H h7 h8 hg ho hx=>xH hg ho<|yA<|yO [10] rfl<|zI<|yH N ?_ ?_
 · intro hc N;refine zT<|yE<|yN<|zM<|yF 4 [] [13,14,16] rfl ?_;obtain ⟨⟨y4,y5⟩,hy1,N⟩:=zC N;refine rA (zDU x (out.length:Int) _ hy1 h8) rfl ?_;rintro I02 hs2 v2 k2 le2 - ⟨v02,kk1,rfl,rfl,⟨cs2,rfl,h11⟩,h12⟩ -;have ⟨h7,H⟩:=m2 le2 h7 H;obtain ⟨p6,c6,p7,c7,rfl,h13,h14⟩:=oW h11;obtain ⟨p8,c8,rfl,h15⟩:=zY h12;refine qB (cLoop y4 p6 c6 p7 c7) zG ?_;intro b2 hb2;have h16:RL I02 (cLoop y4 p6 c6 p7 c7) ([y4]:List zG):=⟨(cLoop y4 p6 c6 p7 c7),_,rfl,rfl,(qS ⟨_,_,rfl,h13,h14⟩),rfl⟩;obtain ⟨out2,hy2,N⟩:=zC N;exact nO 187 2 2 rfl rfl rfl h7 (.inr ⟨0,rfl⟩) h16 hy2 fun p9 c9 cs3 h17=>qH (yB [1,2] (hs':=[hB r01 (cRd y5 p8 c8),hO zG (vS p9 out2 c9) cs3]))<|yL [] [3] rfl<|zQ<|zI<|zM<|yL [] [4] rfl<|xF<|mJ<|ih out2 (W (i - 1)) y5 _ N H h17 h15 hg ho hx
 intro hc N;exact tS<|yM<|hx _ _ _ _ _ _ _ _ (zB N).symm H h7 h8
def mN (r0:zJ):Option ((List zG)×zJ):=do
 let (y1,y2)←yT r0 ([2,1,2,3]:List Int)
 let (out1,x1)←rF ([]:List zG) y1 y2
 pure (out1,x1)
theorem zDV:∀ r0 r,mN r0=some r→∀ {I:Imm}{r01:Nat}{p c},(S4 I p r0.b c)→RT 170 [vP r01 0] I [hB r01 (cRd r0 p c)] (zCB r01 r):=by
 intro r0 r N I r01 p c h;unfold mN at N;refine yI Tryz.func170 fun B=>uA []<|yX<|qB [] zG ?_;intro b hb;have h1:RL I [] ([]:List zG):=rfl;refine yL [] [3] rfl<|yE<|yG<|yF 1 [] [6] rfl<|nM (rI [2,1,2,3]) ?_;intro b1 I0 le h3;have ⟨h1,h⟩:=m2 le h1 h;refine qH (yB [1,0] (hs':=[hB r01 (cRd r0 p c),hO zG (vS (some ⟨b,0,none⟩) ([]:List zG) 0) []])) ?_;obtain ⟨⟨y1,y2⟩,hy,N⟩:=zC N;refine rA (xG r0 ([2,1,2,3]:List Int) _ hy h h3) rfl ?_;rintro I01 hs2 v2 k2 le1 - ⟨v0,kk,rfl,rfl,rfl,h5⟩ -;have h1:=iM le1 h1;obtain ⟨p1,c1,rfl,h6⟩:=zY h5;refine yL [] [4] rfl<|uV<|mH [(0,vP r01 0),(3,vS (some ⟨b,0,none⟩) ([]:List zG) 0),(4,vI y1)] ?_;obtain ⟨o0,ho0,hMl⟩:=zC N;refine zBR ([]:List zG) y1 y2 o0 ho0 iR h1 h6 (fun _ _ _ h=>h) (fun _ _ h=>h) ?_;intro I03 out1 x1 p4 c4 cs1 p5 c5 heq le3 h9 h10;subst o0;refine zU<|sI [2] rfl<|xE<|xN 1 rfl ?_;intro I04 le4 hl01;have h18:=SL.of_frozen hl01 le4 h9;have h10:=h10.mono le4;obtain rfl:=zB hMl;exact xB ⟨_,_,(.tmp rfl ResV.nil),(zX [0] rfl (by decide)),⟨_,_,rfl,rfl,h18,(yR ⟨_,rfl,h10⟩)⟩⟩
def zCC (b0:Nat) (r:zF×zJ):KT:=fun kk I' hs' v=>
  ∃ v0 k0,hs'=[.blk b0 ⟨k0⟩]∧v=tupV [v0]∧(∃ cs,v0=.agg ⟨cs⟩∧Rp.rep I' cs r.1)∧Rp.rep I' k0 r.2
def rG (depth:Int) (n0:Int) (i:Int) (Subs:List zA) (x:zJ):Option ((List zA×zJ)):=do
 if (decide (i < n0)) then
  let (y4,y5)←yT x ([0,1,0,2]:List Int)
  let y6←vH y4
  let (t32,x2)←(do
    if (decide (depth > 0)) then
     let (y8,y9)←yU y5 5
     pure ((decide (y8 > 0)),y9)
    else
     pure (false,y5)
      : Option (Bool×zJ))
  let (x3,x4)←(do
    if t32 then
     let (y11,y12)←yU x2 depth
     let y13←pI y11
     let (y15,y16)←yT y12 ([1,1,1,2,(-1)]:List Int)
     let (y18,y19)←yT y16 ([0,1,0,0,2]:List Int)
     let y20←vH y18
     let y21←qM y13 y15 y20 1
     pure (y21,y19)
    else
     pure ((zA.mk y6.Coefs y6.Const),x2)
      : Option (zA×zJ))
  let l←app 32 Subs ([x3]:List zA)
  rG depth n0 (W (i + 1)) l x4
 else
  pure (Subs,x)
 partial_fixpoint
theorem zBS (depth:Int) (n0:Int):∀ (i:Int) (Subs:List zA) (x:zJ) (o:(List zA×zJ)),rG depth n0 i Subs x=some o→∀ {B}{I0 I:Imm}{Q}{y1:Str}{r01:Nat}{b:Nat}{b2:Nat}{p2 c2 cs p3 c3},I0.le I→(RL I cs Subs)→(S4 I p3 x.b c3)→NG Q→NO Q→(∀ (I':Imm) (Subs1:List zA) (x1:zJ) (p4:Option Addr) (c4:Nat) (cs1:List Value) (p5:Option Addr) (c5:Nat),o=(Subs1,x1)→I0.le I'→(RL I' cs1 Subs1)→(S4 I' p5 x1.b c5)→T 53 B Q (.exit 0) I' [hO zA (vS p4 Subs1 c4) cs1,hB b2 [vT y1.l,vS p4 Subs1 c4],hB r01 (cRd x1 p5 c5),hB b [vT ([]),z0]] [(4,vP b 0),(5,vP b2 0)])→J Tryz.prog 53 B (nav (bodyOf Tryz.f212) [1,1,1,1,0,1,0]) Q I [hO zA (vS p2 Subs c2) cs,hB b2 [vT y1.l,vS p2 Subs c2],hB r01 (cRd x p3 c3),hB b [vT ([]),z0]] [(0,vP r01 0),(1,vI depth),(4,vP b 0),(5,vP b2 0),(6,vI n0),(7,vI i)]:=by
 refine rG.partial_correctness depth n0 _ fun self ih i Subs x o N B I0 I Q y1 r01 b b2 p2 c2 cs p3 c3 H h7 h8 hg ho hx=>xH hg ho<|yA<|yO [19] rfl<|zI<|yH N ?_ ?_
 · intro hc1 N;refine zT<|yE<|yN<|yG<|yF 1 [] [22] rfl<|nM (rI [0,1,0,2]) ?_;intro b3 I03 le3 h12;have ⟨h7,h8,H⟩:=m3 le3 h7 h8 H;refine qH (yB [2,0,1,3] (hs':=[hB r01 (cRd x p3 c3),hO zA (vS p2 Subs c2) cs,hB b2 [vT y1.l,vS p2 Subs c2],hB b [vT ([]),z0]])) ?_;obtain ⟨⟨y4,y5⟩,hy1,N⟩:=zC N;refine rA (xG x ([0,1,0,2]:List Int) _ hy1 h8 h12) rfl ?_;rintro I04 hs2 v2 k2 le4 - ⟨v02,kk1,rfl,rfl,rfl,h14⟩ -;have ⟨h7,H⟩:=m2 le4 h7 H;obtain ⟨p6,c6,rfl,h15⟩:=zY h14;obtain ⟨y6,hy2,N⟩:=zC N;refine xM (sA y4 _ hy2 ) ?_;rintro I05 hs2 v2 k2 le5 - ⟨p7,c7,cs2,rfl,rfl,h16⟩ -;have ⟨h15,h7,H⟩:=m3 le5 h15 h7 H;refine wK [z0,vI 0] ?_;intro b4 hb4;refine yZ 0 (cAff y6 p7 c7) rfl<|zZ rfl<|yE<|yA ?_;obtain ⟨o01,ho01,hMc1⟩:=zC N;refine oH (fun I' hs' m'=>∃ (t32:Bool) (x2:zJ) (p8:Option Addr) (c8:Nat),o01=(t32,x2)∧I05.le I'∧(S4 I' p8 x2.b c8)∧hs'=[hB b4 (cAff y6 p7 c7),hO Int (vS p7 y6.Coefs c7) cs2,hB r01 (cRd x2 p8 c8),hO zA (vS p2 Subs c2) cs,hB b2 [vT y1.l,vS p2 Subs c2],hB b [vT ([]),z0]]∧m'=[(0,vP r01 0),(1,vI depth),(4,vP b 0),(5,vP b2 0),(6,vI n0),(7,vI i),(8,vP b4 0),(32,.bool t32)]) ?_ ?_
   · have H:=iS I05;refine zM<|yF 3 [] [28] rfl<|xP [28] ho01 ?_ ?_
     · intro hc2 N;refine yF 4 [] [29] rfl<|qH (yB [2,0,1,3,4,5] (hs':=[hB r01 (cRd y5 p6 c6),hB b4 (cAff y6 p7 c7),hO Int (vS p7 y6.Coefs c7) cs2,hO zA (vS p2 Subs c2) cs,hB b2 [vT y1.l,vS p2 Subs c2],hB b [vT ([]),z0]])) ?_;obtain ⟨⟨y8,y9⟩,hy3,N⟩:=zC N;refine rA (xL y5 5 _ hy3 h15) rfl ?_;rintro I07 hs2 v2 k2 le6 - ⟨v04,kk2,rfl,rfl,rfl,h19⟩ -;have H:=H.trans le6;obtain ⟨p9,c9,rfl,h20⟩:=zY h19;exact yL [] [32] rfl<|xQ (zX [1,2,0,3,4,5] rfl (by decide))<|yM<|zR ⟨_,_,_,_,(zB N).symm,H,h20,rfl,rfl⟩
     intro hc2 N;exact wC [] [(32,vF)]<|yM<|zR ⟨_,_,_,_,(zB N).symm,H,h15,rfl,rfl⟩
   rintro I06 hs2 m2 ⟨t32,x2,p8,c8,heq1,le7,h17,rfl,rfl⟩;subst o01;have ⟨h16,h7,H⟩:=m3 le7 h16 h7 H;refine zI<|mK 1 rfl ?_;intro I08 le8 hl02;have h21:=SL.of_frozen hl02 le8 h16;have ⟨h17,h7,H⟩:=m3 le8 h17 h7 H;obtain ⟨o02,ho02,hMc2⟩:=zC hMc1;refine oH (fun I' hs' m'=>∃ (x3:zA) (x4:zJ) (p10:Option Addr) (c10:Nat) (p11:Option Addr) (c11:Nat),o02=(x3,x4)∧I08.le I'∧(S4 I' p10 x3.Coefs c10)∧(S4 I' p11 x4.b c11)∧hs'=[hB b4 (cAff x3 p10 c10),hB r01 (cRd x4 p11 c11),hO zA (vS p2 Subs c2) cs,hB b2 [vT y1.l,vS p2 Subs c2],hB b [vT ([]),z0]]∧m'=[(0,vP r01 0),(1,vI depth),(4,vP b 0),(5,vP b2 0),(6,vI n0),(7,vI i),(8,vP b4 0)]) ?_ ?_
   · have H:=iS I08;refine yH ho02 ?_ ?_
     · intro hc3 N;refine yG<|yF 2 [] [33,34] rfl<|qH (yB [1,0,2,3,4] (hs':=[hB r01 (cRd x2 p8 c8),hB b4 (cAff y6 p7 c7),hO zA (vS p2 Subs c2) cs,hB b2 [vT y1.l,vS p2 Subs c2],hB b [vT ([]),z0]])) ?_;obtain ⟨⟨y11,y12⟩,hy4,N⟩:=zC N;refine rA (xL x2 depth _ hy4 h17) rfl ?_;rintro I010 hs2 v2 k2 le9 - ⟨v06,kk3,rfl,rfl,rfl,h25⟩ -;have H:=H.trans le9;obtain ⟨p12,c12,rfl,h26⟩:=zY h25;refine yL [] [9] rfl<|zI<|zM<|yF 1 [] [36] rfl<|bE N fun y13 hy5 N=>xM (jC y11 _ hy5 ) ?_;rintro I011 hs2 v2 k2 le10 - ⟨v08,rfl,rfl,⟨cs3,rfl,h27⟩⟩ -;have ⟨h26,H⟩:=m2 le10 h26 H;obtain ⟨p13,c13,rfl,h28⟩:=yD h27;refine yF 3 [] [38] rfl<|nM (rI [1,1,1,2,(-1)]) ?_;intro b5 I012 le11 h30;have ⟨h28,h26,H⟩:=m3 le11 h28 h26 H;obtain ⟨⟨y15,y16⟩,hy6,N⟩:=zC N;refine rA (xG y12 ([1,1,1,2,(-1)]:List Int) _ hy6 h26 h30) rfl ?_;rintro I013 hs2 v2 k2 le12 - ⟨v010,kk4,rfl,rfl,rfl,h32⟩ -;have ⟨h28,H⟩:=m2 le12 h28 H;obtain ⟨p14,c14,rfl,h33⟩:=zY h32;refine yF 6 [] [41] rfl<|nM (rI [0,1,0,0,2]) ?_;intro b6 I014 le13 h35;have ⟨h28,h33,H⟩:=m3 le13 h28 h33 H;obtain ⟨⟨y18,y19⟩,hy7,N⟩:=zC N;refine rA (xG y16 ([0,1,0,0,2]:List Int) _ hy7 h33 h35) rfl ?_;rintro I015 hs2 v2 k2 le14 - ⟨v012,kk5,rfl,rfl,rfl,h37⟩ -;have ⟨h28,H⟩:=m2 le14 h28 H;obtain ⟨p15,c15,rfl,h38⟩:=zY h37;obtain ⟨y20,hy8,N⟩:=zC N;refine xM (sA y18 _ hy8 ) ?_;rintro I016 hs2 v2 k2 le15 - ⟨p16,c16,cs4,rfl,rfl,h39⟩ -;have ⟨h28,h38,H⟩:=m3 le15 h28 h38 H;refine vZ 0 rfl ?_;intro I017 le16 hl05;have h40:=SL.of_frozen hl05 le16 h39;have ⟨h28,h38,H⟩:=m3 le16 h28 h38 H;obtain ⟨y21,hy9,N⟩:=zC N;refine xM (gX y13 y15 y20 1 _ hy9 h28 h40) ?_;rintro I018 hs2 v2 k2 le17 - ⟨v014,rfl,rfl,⟨cs5,rfl,h41⟩⟩ -;have ⟨h38,H⟩:=m2 le17 h38 H;obtain ⟨p17,c17,rfl,h42⟩:=yD h41;exact yZ 1 (cAff y21 p17 c17) rfl<|zZ rfl<|xQ (zX [1,0,2,3,4] rfl (by decide))<|yM<|zR ⟨_,_,_,_,_,_,(zB N).symm,H,h42,h38,rfl,rfl⟩
     intro hc3 N;exact zT<|yM<|zR ⟨_,_,_,_,_,_,(zB N).symm,H,h21,h17,rfl,rfl⟩
   rintro I09 hs2 m2 ⟨x3,x4,p10,c10,p11,c11,heq2,le18,h22,h23,rfl,rfl⟩;subst o02;have ⟨h7,H⟩:=m2 le18 h7 H;refine zI<|zM<|sH 3 [3,0] [(47,vS p2 Subs c2),(48,vA (cAff x3 p10 c10))]<|qB (cAff x3 p10 c10) zA ?_;intro b7 hb7;have h43:RL I09 (cAff x3 p10 c10) ([x3]:List zA):=⟨(cAff x3 p10 c10),_,rfl,rfl,(yC ⟨_,rfl,h22⟩),rfl⟩;obtain ⟨l,hy10,N⟩:=zC hMc2;refine nO 43 2 3 rfl rfl rfl h7 (.inr ⟨0,rfl⟩) h43 hy10 ?_;intro p18 c18 cs6 h44;exact qH (yB [1,2,3,4,5] (hs':=[hB b4 (cAff x3 p10 c10),hB r01 (cRd x4 p11 c11),hO zA (vS p18 l c18) cs6,hB b2 [vT y1.l,vS p2 Subs c2],hB b [vT ([]),z0]]))<|yF 6 [] [51] rfl<|yZ 3 [vT y1.l,vS p18 l c18] rfl<|zZ rfl<|zQ<|zI<|zM<|yL [] [7] rfl<|xF<|gA (zX [2,3,1,4] rfl (by decide))<|mJ<|ih (W (i + 1)) l x4 _ N H h44 h23 hg ho hx
 intro hc1 N;exact tS<|yM<|hx _ _ _ _ _ _ _ _ (zB N).symm H h7 h8
def pS (r0:zJ) (depth:Int):Option (zF×zJ):=do
 let (y1,y2)←sX r0 ([(⟨[65]⟩:Str),(⟨[66]⟩:Str),(⟨[65]⟩:Str),(⟨[67]⟩:Str)]:List Str)
 let n0←(do
   if (y1.l == ([66]:List UInt8)) then
    pure (id 2)
   else
    pure (id 1)
     : Option Int)
 let (Subs1,x1)←rG depth n0 0 ([]:List zA) y2
 pure ((zF.mk y1 Subs1),x1)
theorem dV:∀ r0 depth r,pS r0 depth=some r→∀ {I:Imm}{r01:Nat}{p c},(S4 I p r0.b c)→RT 212 [vP r01 0,vI depth] I [hB r01 (cRd r0 p c)] (zCC r01 r):=by
 intro r0 depth r N I r01 p c h;unfold pS at N;refine yI Tryz.func212 fun B=>?_;have H:=iS I;refine yG<|wK [vT ([]),z0] ?_;intro b hb;refine zZ rfl<|yX<|yF 1 [] [10] rfl<|nM (rT [(⟨[65]⟩:Str),(⟨[66]⟩:Str),(⟨[65]⟩:Str),(⟨[67]⟩:Str)]) ?_;intro b1 I0 le h2;have ⟨h,H⟩:=m2 le h H;refine qH (yB [1,0] (hs':=[hB r01 (cRd r0 p c),hB b [vT ([]),z0]])) ?_;obtain ⟨⟨y1,y2⟩,hy,N⟩:=zC N;refine rA (mD r0 ([(⟨[65]⟩:Str),(⟨[66]⟩:Str),(⟨[65]⟩:Str),(⟨[67]⟩:Str)]:List Str) _ hy h h2) rfl ?_;rintro I01 hs2 v2 k2 le1 - ⟨v0,kk,rfl,rfl,rfl,h4⟩ -;have H:=H.trans le1;obtain ⟨p1,c1,rfl,h5⟩:=zY h4;refine yF 4 [] [13] rfl<|wK [vT ([]),z0] ?_;intro b2 hb2;refine yZ 0 [vT y1.l,z0] rfl<|zZ rfl<|sI [6] rfl<|yE<|yG<|yL [0] [16] rfl<|zI ?_;refine wI N [hB b2 [vT y1.l,z0],hB r01 (cRd y2 p1 c1),hB b [vT ([]),z0]] (fun n0=>[(0,vP r01 0),(1,vI depth),(4,vP b 0),(5,vP b2 0),(6,vI n0)]) (fun o0 ho0=>?_) ?_
 · have H:=iS I01;refine yH ho0 ?_ ?_
   · intro hc N;exact zM<|yL [] [6] rfl<|yM<|zR (ct N H)
   intro hc N;exact zT<|yM<|zR (ct N H)
 intro n0 I02 le2 hMc;have h5:=h5.mono le2;refine yE<|yO [7] rfl<|uV<|mH [(0,vP r01 0),(1,vI depth),(4,vP b 0),(5,vP b2 0),(6,vI n0),(7,vI 0)]<|zDQ zA fun h6=>?_;obtain ⟨o03,ho03,hMl⟩:=zC hMc;refine zBS depth n0 0 ([]:List zA) y2 o03 ho03 iR h6 h5 (fun _ _ _ h=>h) (fun _ _ h=>h) ?_;intro I019 Subs1 x1 p4 c4 cs1 p5 c5 heq3 le19 h9 h10;subst o03;refine zU<|yX<|sH 1 [1] [(52,vA [vT y1.l,vS p4 Subs1 c4])]<|yZ 3 [vT y1.l,vS p4 Subs1 c4] rfl<|zZ rfl<|xE<|xN 0 rfl ?_;intro I020 le20 hl06;have h45:=SL.of_frozen hl06 le20 h9;have h10:=h10.mono le20;obtain rfl:=zB hMl;exact xB ⟨_,_,(.cell 2 rfl rfl (by kernel_rfl) ResV.nil),(zX [1] rfl (by decide)),⟨_,_,rfl,rfl,⟨_,rfl,(rD ⟨_,rfl,h45⟩)⟩,(yR ⟨_,rfl,h10⟩)⟩⟩
def zCD (b0:Nat) (r:zA×zJ):KT:=fun kk I' hs' v=>
  ∃ v0 k0,hs'=[.blk b0 ⟨k0⟩]∧v=tupV [v0]∧(∃ cs,v0=.agg ⟨cs⟩∧Rp.rep I' cs r.1)∧Rp.rep I' k0 r.2
def rH (depth:Int) (i:Int) (Coefs:List Int) (x:zJ):Option ((List Int×zJ)):=do
 if (decide (i < depth)) then
  let (y5,y6)←yT x ([0,1,0,(-1),2,0,9]:List Int)
  let x2←idx Coefs i
  let l←pure (Coefs.set i.toNat y5)
  rH depth (W (i + 1)) l y6
 else
  pure (Coefs,x)
 partial_fixpoint
theorem zBT (depth:Int):∀ (i:Int) (Coefs:List Int) (x:zJ) (o:(List Int×zJ)),rH depth i Coefs x=some o→∀ {B}{I0 I:Imm}{Q}{y3:zA}{r01:Nat}{b:Nat}{b2:Nat}{p3 c3 cs1 p4 c4},I0.le I→(RL I cs1 Coefs)→(S4 I p4 x.b c4)→NG Q→NO Q→(∀ (I':Imm) (Coefs1:List Int) (x1:zJ) (p5:Option Addr) (c5:Nat) (cs2:List Value) (p6:Option Addr) (c6:Nat),o=(Coefs1,x1)→I0.le I'→(RL I' cs2 Coefs1)→(S4 I' p6 x1.b c6)→T 24 B Q (.exit 0) I' [hB b2 [vS p5 Coefs1 c5,vI y3.Const],hO Int (vS p5 Coefs1 c5) cs2,hB r01 (cRd x1 p6 c6),hB b [z0,vI 0]] [(4,vP b 0),(5,vP b2 0)])→J Tryz.prog 24 B (nav (bodyOf Tryz.f240) [1,1,0,1,0]) Q I [hB b2 [vS p3 Coefs c3,vI y3.Const],hO Int (vS p3 Coefs c3) cs1,hB r01 (cRd x p4 c4),hB b [z0,vI 0]] [(0,vP r01 0),(1,vI depth),(4,vP b 0),(5,vP b2 0),(6,vI i)]:=by
 refine rH.partial_correctness depth _ fun self ih i Coefs x o N B I0 I Q y3 r01 b b2 p3 c3 cs1 p4 c4 H h7 h8 hg ho hx=>xH hg ho<|yA<|yO [13] rfl<|zI<|yH N ?_ ?_
 · intro hc N;refine zT<|yE<|yN ?_;obtain ⟨⟨y5,y6⟩,hy2,N⟩:=zC N;refine wZ [.p (vP b2 0) [],.p (vS p3 Coefs c3) [0],.p (vI i) [],.p (vP r01 0) [],.x (fun I' v hx=>∃ b3,v=vS (some ⟨b3,0,none⟩) ([0,1,0,(-1),2,0,9]:List Int) 7∧hx=[]∧(SL I' (vS (some ⟨b3,0,none⟩) ([0,1,0,(-1),2,0,9]:List Int) 7) ([0,1,0,(-1),2,0,9]:List Int))),.x (fun I' v hx=>∃ p7 c7,v=vI y5∧hx=[hB r01 (cRd y6 p7 c7)]∧(S4 I' p7 y6.b c7))] [[],[(0,false)],[],[],[],[(3,false),(4,false),(8,true)]] [hB b2 [vS p3 Coefs c3,vI y3.Const],hO Int (vS p3 Coefs c3) cs1,hB b [z0,vI 0]] [[hB r01 (cRd x p4 c4)]] [(1,false),(2,false),(5,true)] (yB [0,1,3,2]) ?_ ?_
   · refine Op<|Op<|Op<|Op<|Ox ?_<|Ox ?_<|On
     · intro I1 hf le1;refine jM [] ?_;have H:=iS I1;refine nM (rI [0,1,0,(-1),2,0,9]) ?_;intro b3 I03 le3 h12;have H:=H.trans le3;exact yW [] H ⟨_,rfl,rfl,h12⟩
     rintro I1 hf le1 _ _ ⟨rfl,rfl⟩ _ _ ⟨b3,rfl,rfl,h12⟩ _ _ rfl;refine yY [19,20] rfl ?_;have H:=iS I1;have h8:=h8.mono le1;refine rA (xG x ([0,1,0,(-1),2,0,9]:List Int) _ hy2 h8 h12) rfl ?_;rintro I04 hs2 v2 k2 le4 - ⟨v02,kk1,rfl,rfl,rfl,h14⟩ -;have H:=H.trans le4;obtain ⟨p7,c7,rfl,h15⟩:=zY h14;exact yW [hB r01 (cRd y6 p7 c7)] H ⟨_,_,rfl,rfl,h15⟩
   rintro I05 le5 _ _ ⟨rfl,rfl⟩ _ _ ⟨rfl,rfl⟩ _ _ ⟨p7,c7,rfl,rfl,h15⟩;refine yY [0,1,4,5,6,17,18,21] rfl ?_;have ⟨h7,H⟩:=m2 le5 h7 H;obtain ⟨x2,hy3,N⟩:=zC N;refine fP 2 rfl rfl rfl h7 hy3 ?_;intro ad ccs hat hcc hrep;obtain rfl:=hrep;obtain ⟨l,hy4,N⟩:=zC N;refine mV (c:=[vI y5]) (x':=y5) 2 0 rfl rfl rfl hat rfl rfl hcc (by kernel_rfl) (by kernel_rfl) (by kernel_rfl) h7 hy3 (by kernel_rfl) rfl ?_;rw [show Coefs.set i.toNat y5=l from zB hy4];intro cs3 h16 hl02;exact jD (m':=[(0,vP r01 0),(1,vI depth),(4,vP b 0),(5,vP b2 0),(6,vI i),(17,vS p3 Coefs c3),(18,vI i),(21,vI y5)]) ⟨rfl,rfl,rfl,rfl,rfl,rfl,rfl,rfl,trivial⟩<|zDJ (hs':=[hB r01 (cRd y6 p7 c7),hB b2 [vS p3 l c3,vI y3.Const],hO Int (vS p3 l c3) cs3,hB b [z0,vI 0]]) (m':=[(0,vP r01 0),(1,vI depth),(4,vP b 0),(5,vP b2 0),(6,vI i),(17,vS p3 l c3),(18,vI i),(21,vI y5)]) (by first | rfl | simp only [vS,hl02,List.nil_append,List.cons_append,List.set_cons_zero,List.set_cons_succ,List.eraseIdx_cons_zero,List.eraseIdx_cons_succ]) (by first | rfl | simp only [vS,hl02])<|zZ rfl<|zQ<|zI<|zM<|yL [] [6] rfl<|xF<|gA (zX [1,2,0,3] rfl (by decide))<|mJ<|ih (W (i + 1)) l y6 _ N H h16 h15 hg ho hx
 intro hc N;exact tS<|yM<|hx _ _ _ _ _ _ _ _ (zB N).symm H h7 h8
def nG (r0:zJ) (depth:Int):Option (zA×zJ):=do
 let (y1,y2)←yT r0 ([0,1,(-1),2,0,5,(-9),99]:List Int)
 let y3←vH y1
 let (Coefs1,x1)←rH depth 0 y3.Coefs y2
 pure ((zA.mk Coefs1 y3.Const),x1)
theorem zDW:∀ r0 depth r,nG r0 depth=some r→∀ {I:Imm}{r01:Nat}{p c},(S4 I p r0.b c)→RT 240 [vP r01 0,vI depth] I [hB r01 (cRd r0 p c)] (zCD r01 r):=by
 intro r0 depth r N I r01 p c h;unfold nG at N;refine yI Tryz.func240 fun B=>yG<|wK [z0,vI 0] ?_;intro b hb;refine zZ rfl<|yX<|yF 1 [] [7] rfl<|nM (rI [0,1,(-1),2,0,5,(-9),99]) ?_;intro b1 I0 le h2;have h:=h.mono le;refine qH (yB [1,0] (hs':=[hB r01 (cRd r0 p c),hB b [z0,vI 0]])) ?_;obtain ⟨⟨y1,y2⟩,hy,N⟩:=zC N;refine rA (xG r0 ([0,1,(-1),2,0,5,(-9),99]:List Int) _ hy h h2) rfl ?_;rintro I01 hs2 v2 k2 le1 - ⟨v0,kk,rfl,rfl,rfl,h4⟩ -;obtain ⟨p1,c1,rfl,h5⟩:=zY h4;obtain ⟨y3,hy1,N⟩:=zC N;refine xM (sA y1 _ hy1 ) ?_;rintro I02 hs2 v2 k2 le2 - ⟨p2,c2,cs,rfl,rfl,h6⟩ -;have h5:=h5.mono le2;refine wK [z0,vI 0] ?_;intro b2 hb2;refine yZ 0 (cAff y3 p2 c2) rfl<|zZ rfl<|yE<|yO [6] rfl<|uV<|mH [(0,vP r01 0),(1,vI depth),(4,vP b 0),(5,vP b2 0),(6,vI 0)] ?_;obtain ⟨o0,ho0,hMl⟩:=zC N;refine zBT depth 0 y3.Coefs y2 o0 ho0 iR h6 h5 (fun _ _ _ h=>h) (fun _ _ h=>h) ?_;intro I06 Coefs1 x1 p5 c5 cs2 p6 c6 heq le6 h9 h10;subst o0;refine zU<|yX<|sH 1 [0] [(23,vA [vS p5 Coefs1 c5,vI y3.Const])]<|yZ 3 [vS p5 Coefs1 c5,vI y3.Const] rfl<|zZ rfl<|xE<|xN 1 rfl ?_;intro I07 le7 hl03;have h17:=SL.of_frozen hl03 le7 h9;have h10:=h10.mono le7;obtain rfl:=zB hMl;exact xB ⟨_,_,(.cell 2 rfl rfl (by kernel_rfl) ResV.nil),(zX [1] rfl (by decide)),⟨_,_,rfl,rfl,⟨_,rfl,(yC ⟨_,rfl,h17⟩)⟩,(yR ⟨_,rfl,h10⟩)⟩⟩
def gY (b0:Nat) (r:zD×zJ):KT:=fun kk I' hs' v=>
  ∃ v0 k0,hs'=[.blk b0 ⟨k0⟩]∧v=tupV [v0]∧(∃ cs,v0=.agg ⟨cs⟩∧Rp.rep I' cs r.1)∧Rp.rep I' k0 r.2
mutual
def sP (r0:zJ) (depth:Int) (levels:Int):Option (zD×zJ):=do
 let (t15,x)←(do
   if (decide (levels < 2)) then
    pure (true,r0)
   else
    let (y1,y2)←yU r0 4
    pure ((y1 == 0),y2)
     : Option (Bool×zJ))
 if t15 then
  let (y4,y5)←yU x 4
  if (y4 == 0) then
   let (y7,y8)←yT y5 ([1,2,0,99,3]:List Int)
   pure ((zD.mk 1 y7 (zA.mk ([]:List Int) 0) (zF.mk (⟨[]⟩:Str) ([]:List zA)) ([]:List zD)),y8)
  else
   if (y4 == 1) then
    let (y10,y11)←nG y5 depth
    pure ((zD.mk 2 0 y10 (zF.mk (⟨[]⟩:Str) ([]:List zA)) ([]:List zD)),y11)
   else
    let (y13,y14)←pS y5 depth
    pure ((zD.mk 3 0 (zA.mk ([]:List Int) 0) y13 ([]:List zD)),y14)
 else
  let (y16,y17)←yT x ([4,6,5,4]:List Int)
  let (Kids1,x2)←qA (same depth) (same levels) (same 0) ([]:List zD) (same y17)
  pure ((zD.mk y16 0 (zA.mk ([]:List Int) 0) (zF.mk (⟨[]⟩:Str) ([]:List zA)) Kids1),x2)
 partial_fixpoint
def qA (depth:Int) (levels:Int) (i:Int) (Kids:List zD) (x1:zJ):Option ((List zD×zJ)):=do
 if (decide (i < 2)) then
  let (y19,y20)←sP (same x1) (same depth) (W (levels - 1))
  let l←app 112 Kids ([y19]:List zD)
  qA (same depth) (same levels) (W (i + 1)) (same l) (same y20)
 else
  pure (Kids,x1)
 partial_fixpoint
end
theorem zCE:(∀ (r0:zJ) (depth:Int) (levels:Int) r,sP r0 depth levels=some r→∀ {I:Imm}{r01:Nat}{p c},(S4 I p r0.b c)→RT 213 [vP r01 0,vI depth,vI levels] I [hB r01 (cRd r0 p c)] (gY r01 r))∧(∀ (depth:Int) (levels:Int) (i:Int) (Kids:List zD) (x1:zJ) o,qA depth levels i Kids x1=some o→∀ {B}{I0 I:Imm}{Q}{y16:Int}{r01:Nat}{b:Nat}{b3:Nat}{p10 c10 cs2 p11 c11},I0.le I→(RL I cs2 Kids)→(S4 I p11 x1.b c11)→NG Q→NO Q→(∀ (I':Imm) (Kids1:List zD) (x2:zJ) (p12:Option Addr) (c12:Nat) (cs3:List Value) (p13:Option Addr) (c13:Nat),o=(Kids1,x2)→I0.le I'→(RL I' cs3 Kids1)→(S4 I' p13 x2.b c13)→T 53 B Q (.exit 1) I' [hO zD (vS p12 Kids1 c12) cs3,hB b3 [vI y16,vI 0,z0,vI 0,vT ([]),z0,vS p12 Kids1 c12],hB r01 (cRd x2 p13 c13),hB b zExpr] [(6,vP b 0),(7,vP b3 0)])→J Tryz.prog 53 B (nav (bodyOf Tryz.f213) [1,1,1,0,1,0]) Q I [hO zD (vS p10 Kids c10) cs2,hB b3 [vI y16,vI 0,z0,vI 0,vT ([]),z0,vS p10 Kids c10],hB r01 (cRd x1 p11 c11),hB b zExpr] [(0,vP r01 0),(1,vI depth),(2,vI levels),(6,vP b 0),(7,vP b3 0),(8,vI i)]):=by
  refine sP.mutual_partial_correctness _ _ ?_ ?_
  · intro F_spec_l3Value_l1 ih_spec_l3Value_l1 r0 depth levels r N I r01 p c h;refine yI Tryz.func213 fun B=>?_;have H:=iS I;refine yG<|wK zExpr ?_;intro b hb;refine zZ rfl<|yE<|yA ?_;obtain ⟨o0,ho0,hMc⟩:=zC N;refine oH (fun I' hs' m'=>∃ (t15:Bool) (x:zJ) (p1:Option Addr) (c1:Nat),o0=(t15,x)∧I.le I'∧(S4 I' p1 x.b c1)∧hs'=[hB b zExpr,hB r01 (cRd x p1 c1)]∧m'=[(0,vP r01 0),(1,vI depth),(2,vI levels),(6,vP b 0),(15,.bool t15)]) ?_ ?_
    · have H:=iS I;refine zM<|yF 3 [] [11] rfl<|xP [11] ho0 ?_ ?_
      · intro hc N;exact wC [] [(15,vY)]<|yM<|zR ⟨_,_,_,_,(zB N).symm,H,h,rfl,rfl⟩
      intro hc N;refine yF 4 [] [12] rfl<|qH (yB [1,0] (hs':=[hB r01 (cRd r0 p c),hB b zExpr])) ?_;obtain ⟨⟨y1,y2⟩,hy,N⟩:=zC N;refine rA (xL r0 4 _ hy h) rfl ?_;rintro I01 hs2 v2 k2 le - ⟨v0,kk,rfl,rfl,rfl,h3⟩ -;have H:=H.trans le;obtain ⟨p2,c2,rfl,h4⟩:=zY h3;exact yL [] [15] rfl<|xQ (zX [1,0] rfl (by decide))<|yM<|zR ⟨_,_,_,_,(zB N).symm,H,h4,rfl,rfl⟩
    rintro I0 hs2 m2 ⟨t15,x,p1,c1,heq,le1,h1,rfl,rfl⟩;subst o0;refine zI<|yH hMc ?_ ?_
    · intro hc1 N;refine yA<|yG<|yF 1 [] [16] rfl<|qH (yB [1,0] (hs':=[hB r01 (cRd x p1 c1),hB b zExpr])) ?_;obtain ⟨⟨y4,y5⟩,hy1,N⟩:=zC N;refine rA (xL x 4 _ hy1 h1) rfl ?_;rintro I02 hs2 v2 k2 le2 - ⟨v02,kk1,rfl,rfl,rfl,h6⟩ -;obtain ⟨p3,c3,rfl,h7⟩:=zY h6;refine zZ rfl<|uV<|yO [18] rfl<|zI<|yH N ?_ ?_
      · intro hc2 N;refine yG<|yF 1 [] [20] rfl<|nM (rI [1,2,0,99,3]) ?_;intro b1 I03 le3 h9;have h7:=h7.mono le3;obtain ⟨⟨y7,y8⟩,hy2,N⟩:=zC N;refine rA (xG y5 ([1,2,0,99,3]:List Int) _ hy2 h7 h9) rfl ?_;rintro I04 hs2 v2 k2 le4 - ⟨v04,kk2,rfl,rfl,rfl,h11⟩ -;obtain ⟨p4,c4,rfl,h12⟩:=zY h11;refine yF 4 [] [23] rfl<|yZ 1 [vI 1,vI y7,z0,vI 0,vT ([]),z0,z0] rfl<|zZ rfl<|xE<|zV<|zH<|zH ?_;obtain rfl:=zB N;exact xB ⟨_,_,(.cell 1 rfl rfl (by kernel_rfl) ResV.nil),(zX [0] rfl (by decide)),⟨_,_,rfl,rfl,⟨_,rfl,(xI ⟨_,_,_,rfl,(SL.nil _),(SL.nil _),(SL.nil _)⟩)⟩,(yR ⟨_,rfl,h12⟩)⟩⟩
      intro hc2 N;refine yO [24] rfl<|zI<|yH N ?_ ?_
      · intro hc3 N;refine yG<|yF 2 [] [26,27] rfl ?_;obtain ⟨⟨y10,y11⟩,hy3,N⟩:=zC N;refine rA (zDW y5 depth _ hy3 h7) rfl ?_;rintro I05 hs2 v2 k2 le5 - ⟨v06,kk3,rfl,rfl,⟨cs,rfl,h13⟩,h14⟩ -;obtain ⟨p5,c5,rfl,h15⟩:=yD h13;obtain ⟨p6,c6,rfl,h16⟩:=zY h14;refine yF 4 [] [29] rfl<|yZ 1 [vI 2,vI 0,vS p5 y10.Coefs c5,vI y10.Const,vT ([]),z0,z0] rfl<|zZ rfl<|xE<|zV<|zH<|zH ?_;obtain rfl:=zB N;exact xB ⟨_,_,(.cell 1 rfl rfl (by kernel_rfl) ResV.nil),(zX [0] rfl (by decide)),⟨_,_,rfl,rfl,⟨_,rfl,(xI ⟨_,_,_,rfl,h15,(SL.nil _),(SL.nil _)⟩)⟩,(yR ⟨_,rfl,h16⟩)⟩⟩
      intro hc3 N;refine zT<|zQ<|yX<|yF 2 [] [30,31] rfl ?_;obtain ⟨⟨y13,y14⟩,hy4,N⟩:=zC N;refine rA (dV y5 depth _ hy4 h7) rfl ?_;rintro I06 hs2 v2 k2 le6 - ⟨v09,kk4,rfl,rfl,⟨cs1,rfl,h17⟩,h18⟩ -;obtain ⟨p7,c7,rfl,h19⟩:=uE h17;obtain ⟨p8,c8,rfl,h20⟩:=zY h18;refine yF 4 [] [33] rfl<|yZ 1 [vI 3,vI 0,z0,vI 0,vT y13.Array.l,vS p7 y13.Subs c7,z0] rfl<|zZ rfl<|xE<|zH ?_;obtain rfl:=zB N;exact xB ⟨_,_,(.cell 1 rfl rfl (by kernel_rfl) ResV.nil),(zX [0] rfl (by decide)),⟨_,_,rfl,rfl,⟨_,rfl,(xI ⟨_,_,_,rfl,(SL.nil _),h19,(SL.nil _)⟩)⟩,(yR ⟨_,rfl,h20⟩)⟩⟩
    intro hc1 N;refine zT<|yX<|yF 1 [] [34] rfl<|nM (rI [4,6,5,4]) ?_;intro b2 I07 le7 h22;have h1:=h1.mono le7;refine qH (yB [1,0] (hs':=[hB r01 (cRd x p1 c1),hB b zExpr])) ?_;obtain ⟨⟨y16,y17⟩,hy5,N⟩:=zC N;refine rA (xG x ([4,6,5,4]:List Int) _ hy5 h1 h22) rfl ?_;rintro I08 hs2 v2 k2 le8 - ⟨v012,kk5,rfl,rfl,rfl,h24⟩ -;obtain ⟨p9,c9,rfl,h25⟩:=zY h24;refine yF 4 [] [37] rfl<|wK zExpr ?_;intro b3 hb3;refine yZ 0 [vI y16,vI 0,z0,vI 0,vT ([]),z0,z0] rfl<|zZ rfl<|yE<|yO [8] rfl<|uV<|mH [(0,vP r01 0),(1,vI depth),(2,vI levels),(6,vP b 0),(7,vP b3 0),(8,vI 0)]<|zDQ zD fun h26=>?_;obtain ⟨o01,ho01,hMl⟩:=zC N;refine ih_spec_l3Value_l1 depth levels 0 ([]:List zD) y17 o01 ho01 iR h26 h25 (fun _ _ _ h=>h) (fun _ _ h=>h) ?_;intro I012 Kids1 x2 p12 c12 cs3 p13 c13 heq1 le12 h29 h30;subst o01;refine zU<|yX<|sH 1 [1] [(52,vA [vI y16,vI 0,z0,vI 0,vT ([]),z0,vS p12 Kids1 c12])]<|yZ 3 [vI y16,vI 0,z0,vI 0,vT ([]),z0,vS p12 Kids1 c12] rfl<|zZ rfl<|xE<|xN 0 rfl ?_;intro I013 le13 hl03;have h40:=SL.of_frozen hl03 le13 h29;have h30:=h30.mono le13;obtain rfl:=zB hMl;exact xB ⟨_,_,(.cell 2 rfl rfl (by kernel_rfl) ResV.nil),(zX [1] rfl (by decide)),⟨_,_,rfl,rfl,⟨_,rfl,(xI ⟨_,_,_,rfl,(SL.nil _),(SL.nil _),h40⟩)⟩,(yR ⟨_,rfl,h30⟩)⟩⟩
  intro F_spec_l3Value F_spec_l3Value_l1 ih_spec_l3Value ih_spec_l3Value_l1 depth levels i Kids x1 o N B I0 I Q y16 r01 b b3 p10 c10 cs2 p11 c11 H h27 h28 hg ho hx;refine xH hg ho<|yA<|yO [39] rfl<|zI<|yH N ?_ ?_
  · intro hc4 N;refine zT<|yE<|yN ?_;obtain ⟨⟨y19,y20⟩,hy6,N⟩:=zC N;obtain ⟨l,hy7,N⟩:=zC N;refine wZ [.p (vP b3 6) [],.p (vS p10 Kids c10) [0],.p (vP r01 0) [],.p (vI depth) [],.p (vI levels) [],.p (vI (W (levels - 1))) [],.x (fun I' v hx=>∃ p14 c14 p15 c15 p16 c16 p17 c17,v=vA (cExpr y19 p14 c14 p15 c15 p16 c16)∧hx=[hB r01 (cRd y20 p17 c17)]∧(S4 I' p14 y19.Index.Coefs c14)∧(S4 I' p15 y19.Read.Subs c15)∧(S4 I' p16 y19.Kids c16)∧(S4 I' p17 y20.b c17)),.x (fun I' v hx=>∃ b4,v=vS (some ⟨b4,0,none⟩) ([y19]:List zD) 1∧hx=[]∧(SL I' (vS (some ⟨b4,0,none⟩) ([y19]:List zD) 1) ([y19]:List zD))),.x (fun I' v hx=>∃ p18 c18 cs5,v=vS p18 l c18∧hx=[hO zD (vS p18 l c18) cs5]∧(RL I' cs5 l))] [[],[(0,false)],[],[],[],[(4,false)],[(2,false),(3,false),(5,false),(11,true)],[(6,false)],[(1,false),(7,false),(12,true)]] [hB b3 [vI y16,vI 0,z0,vI 0,vT ([]),z0,vS p10 Kids c10],hB b zExpr] [[hB r01 (cRd x1 p11 c11)],[hO zD (vS p10 Kids c10) cs2]] [(6,true),(8,true)] (yB [1,3,2,0]) ?_ ?_
    · refine Op<|Op<|Op<|Op<|Op<|Op<|Ox ?_<|Ox ?_<|Ox ?_<|On
      · rintro I1 hf le1 _ _ ⟨rfl,rfl⟩ _ _ ⟨rfl,rfl⟩ _ _ ⟨rfl,rfl⟩ _ _ rfl;refine yY [44,45,47] rfl ?_;have H:=iS I1;have h28:=h28.mono le1;refine rA (ih_spec_l3Value x1 depth (W (levels - 1)) _ hy6 h28) rfl ?_;rintro I09 hs2 v2 k2 le9 - ⟨v014,kk6,rfl,rfl,⟨cs4,rfl,h31⟩,h32⟩ -;have H:=H.trans le9;obtain ⟨p14,c14,p15,c15,p16,c16,rfl,h33,h34,h35⟩:=yV h31;obtain ⟨p17,c17,rfl,h36⟩:=zY h32;exact yW [hB r01 (cRd y20 p17 c17)] H ⟨_,_,_,_,_,_,_,_,rfl,rfl,h33,h34,h35,h36⟩
      · rintro I1 hf le1 _ _ ⟨p14,c14,p15,c15,p16,c16,p17,c17,rfl,rfl,h33,h34,h35,h36⟩;refine yY [48] rfl ?_;have H:=iS I1;refine nM (rc y19 (xI ⟨_,_,_,rfl,h33,h34,h35⟩) rN) ?_;intro b4 I010 le10 h38;have H:=H.trans le10;exact yW [] H ⟨_,rfl,rfl,h38⟩
      rintro I1 hf le1 _ _ ⟨rfl,rfl⟩ _ _ ⟨b4,rfl,rfl,h38⟩ _ _ rfl;refine yY [43,49] rfl ?_;have h27:=iM le1 h27;obtain ⟨ccs,k0,k01⟩:=h38;have h38:SL I1 (vS (some ⟨b4,0,none⟩) ([y19]:List zD) 1) ([y19]:List zD):=⟨_,k0,k01⟩;exact nO 46 7 0 rfl rfl rfl h27 (.inl k0) k01 hy7 fun p18 c18 cs5 h39=>qI (hs':=(hO zD (vS p18 l c18) cs5::hB b3 [vI y16,vI 0,z0,vI 0,vT ([]),z0,vS p10 Kids c10]::hB b zExpr::hf)) rfl<|yW [hO zD (vS p18 l c18) cs5] iR ⟨_,_,_,rfl,rfl,h39⟩
    rintro I011 le11 _ _ ⟨p14,c14,p15,c15,p16,c16,p17,c17,rfl,rfl,h33,h34,h35,h36⟩ _ _ ⟨p18,c18,cs5,rfl,rfl,h39⟩;refine yY [0,1,2,6,7,8,50] rfl ?_;have H:=H.trans le11;exact yF 10 [] [51] rfl<|yZ 2 [vI y16,vI 0,z0,vI 0,vT ([]),z0,vS p18 l c18] rfl<|zZ rfl<|zQ<|zI<|zM<|yL [] [8] rfl<|xF<|gA (zX [0,2,1,3] rfl (by decide))<|mJ<|ih_spec_l3Value_l1 depth levels (W (i + 1)) l y20 _ N H h39 h36 hg ho hx
  intro hc4 N;exact tS<|yM<|hx _ _ _ _ _ _ _ _ (zB N).symm H h27 h28
theorem zC9:∀ r0 depth levels r,sP r0 depth levels=some r→∀ {I:Imm}{r01:Nat}{p c},(S4 I p r0.b c)→RT 213 [vP r01 0,vI depth,vI levels] I [hB r01 (cRd r0 p c)] (gY r01 r):=zCE.1
def zCF (b0:Nat) (r:zK×zJ):KT:=fun kk I' hs' v=>
  ∃ v0 k0,hs'=[.blk b0 ⟨k0⟩]∧v=tupV [v0]∧(∃ cs,v0=.agg ⟨cs⟩∧Rp.rep I' cs r.1)∧Rp.rep I' k0 r.2
def mO (r0:zJ) (depth:Int):Option (zK×zJ):=do
 let (y1,y2)←pS r0 depth
 let (y4,y5)←yT y2 ([2,3,1,2]:List Int)
 let (y7,y8)←sP y5 depth y4
 let y9←uH (zK.mk y1 y7) depth
 if y9 then
  pure ((zK.mk y1 y7),y8)
 else
  let y10←rW
  pure ((zK.mk (zF.mk (⟨[65]⟩:Str) ([y10]:List zA)) (zD.mk 1 1 (zA.mk ([]:List Int) 0) (zF.mk (⟨[]⟩:Str) ([]:List zA)) ([]:List zD))),y8)
theorem zDX:∀ r0 depth r,mO r0 depth=some r→∀ {I:Imm}{r01:Nat}{p c},(S4 I p r0.b c)→RT 171 [vP r01 0,vI depth] I [hB r01 (cRd r0 p c)] (zCF r01 r):=by
 intro r0 depth r N I r01 p c h;unfold mO at N;refine yI Tryz.func171 fun B=>yG<|wK [vT ([]),z0,vI 0,vI 0,z0,vI 0,vT ([]),z0,z0] ?_;intro b hb;refine zZ rfl<|yX<|yF 2 [] [6,7] rfl<|qH (yB [1,0] (hs':=[hB r01 (cRd r0 p c),hB b [vT ([]),z0,vI 0,vI 0,z0,vI 0,vT ([]),z0,z0]])) ?_;obtain ⟨⟨y1,y2⟩,hy,N⟩:=zC N;refine rA (dV r0 depth _ hy h) rfl ?_;rintro I0 hs2 v2 k2 le - ⟨v0,kk,rfl,rfl,⟨cs,rfl,h1⟩,h2⟩ -;obtain ⟨p1,c1,rfl,h3⟩:=uE h1;obtain ⟨p2,c2,rfl,h4⟩:=zY h2;refine yF 6 [] [9,10,11] rfl<|nM (rI [2,3,1,2]) ?_;intro b1 I01 le1 h6;have ⟨h3,h4⟩:=m2 le1 h3 h4;obtain ⟨⟨y4,y5⟩,hy1,N⟩:=zC N;refine rA (xG y2 ([2,3,1,2]:List Int) _ hy1 h4 h6) rfl ?_;rintro I02 hs2 v2 k2 le2 - ⟨v03,kk1,rfl,rfl,rfl,h8⟩ -;have h3:=h3.mono le2;obtain ⟨p3,c3,rfl,h9⟩:=zY h8;obtain ⟨⟨y7,y8⟩,hy2,N⟩:=zC N;refine rA (zC9 y5 depth y4 _ hy2 h9) rfl ?_;rintro I03 hs2 v2 k2 le3 - ⟨v05,kk2,rfl,rfl,⟨cs1,rfl,h10⟩,h11⟩ -;have h3:=h3.mono le3;obtain ⟨p4,c4,p5,c5,p6,c6,rfl,h12,h13,h14⟩:=yV h10;obtain ⟨p7,c7,rfl,h15⟩:=zY h11;refine yF 10 [] [15] rfl<|wK [vT ([]),z0,vI 0,vI 0,z0,vI 0,vT ([]),z0,z0] ?_;intro b2 hb2;refine yZ 0 [vT y1.Array.l,vS p1 y1.Subs c1,vI y7.Kind,vI y7.Num,vS p4 y7.Index.Coefs c4,vI y7.Index.Const,vT y7.Read.Array.l,vS p5 y7.Read.Subs c5,vS p6 y7.Kids c6] rfl<|zZ rfl<|yE<|yG<|sH 2 [0] [(16,vA [vT y1.Array.l,vS p1 y1.Subs c1,vI y7.Kind,vI y7.Num,vS p4 y7.Index.Coefs c4,vI y7.Index.Const,vT y7.Read.Array.l,vS p5 y7.Read.Subs c5,vS p6 y7.Kids c6]),(17,vI depth)]<|bE N fun y9 hy3 N=>uB (nK (zK.mk y1 y7) depth _ hy3 h3 h12 h13 h14) ?_;intro I04 le4;have ⟨h3,h12,h13,h14,h15⟩:=m5 le4 h3 h12 h13 h14 h15;refine zZ rfl<|zI<|yH N ?_ ?_
 · intro hc N;refine yG<|sH 1 [0] [(19,vA [vT y1.Array.l,vS p1 y1.Subs c1,vI y7.Kind,vI y7.Num,vS p4 y7.Index.Coefs c4,vI y7.Index.Const,vT y7.Read.Array.l,vS p5 y7.Read.Subs c5,vS p6 y7.Kids c6])]<|yZ 2 [vT y1.Array.l,vS p1 y1.Subs c1,vI y7.Kind,vI y7.Num,vS p4 y7.Index.Coefs c4,vI y7.Index.Const,vT y7.Read.Array.l,vS p5 y7.Read.Subs c5,vS p6 y7.Kids c6] rfl<|zZ rfl<|xE<|zH ?_;obtain rfl:=zB N;exact xB ⟨_,_,(.cell 2 rfl rfl (by kernel_rfl) ResV.nil),(zX [1] rfl (by decide)),⟨_,_,rfl,rfl,⟨_,rfl,(xU ⟨_,_,_,_,rfl,h3,h12,h13,h14⟩)⟩,(yR ⟨_,rfl,h15⟩)⟩⟩
 intro hc N;refine zT<|yX<|bE N fun y10 hy4 N=>xM (oK  _ hy4 ) ?_;rintro I05 hs2 v2 k2 le5 - ⟨p8,c8,cs2,rfl,rfl,h17⟩ -;have h15:=h15.mono le5;refine vZ 0 rfl ?_;intro I06 le6 hl01;have h18:=SL.of_frozen hl01 le6 h17;have h15:=h15.mono le6;refine qB (cAff y10 p8 c8) zA ?_;intro b3 hb3;have h19:RL I06 (cAff y10 p8 c8) ([y10]:List zA):=⟨(cAff y10 p8 c8),_,rfl,rfl,(yC ⟨_,rfl,h18⟩),rfl⟩;refine yF 5 [] [24] rfl<|yZ 3 [vT ([65]),vS (some ⟨b3,0,none⟩) ([y10]:List zA) 1,vI 1,vI 1,z0,vI 0,vT ([]),z0,z0] rfl<|zZ rfl<|xE<|xN 0 rfl ?_;intro I07 le7 hl02;have h20:=SL.of_frozen hl02 le7 h19;have h15:=h15.mono le7;obtain rfl:=zB N;exact xB ⟨_,_,(.cell 2 rfl rfl (by kernel_rfl) ResV.nil),(zX [1] rfl (by decide)),⟨_,_,rfl,rfl,⟨_,rfl,(xU ⟨_,_,_,_,rfl,h20,(SL.nil _),(SL.nil _),(SL.nil _)⟩)⟩,(yR ⟨_,rfl,h15⟩)⟩⟩
def fU (r:(List Str)):KT:=fun kk I' hs' v=>
  ∃ v0,hs'=[]∧v=tupV [v0]∧SL I' v0 r
def rJ (s:Str) (c:UInt8) (out:List Str) (from0:Int) (i:Int):Option (List Str):=do
 if (decide (i ≤ (s.l.length:Int))) then
  let t25←(do
    if (i == (s.l.length:Int)) then
     pure true
    else
     let b1←sidx s i
     pure ((b1.toNat:Int) == (c.toNat:Int))
      : Option Bool)
  let (out2,from01)←(do
    if t25 then
     let s1←sslc s from0 i
     let out3←app 16 out ([s1]:List Str)
     pure (out3,(W (i + 1)))
    else
     pure (out,from0)
      : Option (List Str×Int))
  rJ s c out2 from01 (W (i + 1))
 else
  pure (id out)
 partial_fixpoint
theorem zBU (s:Str) (c:UInt8):∀ (out:List Str) (from0:Int) (i:Int) (o:List Str),rJ s c out from0 i=some o→∀ {B}{I0 I:Imm}{Q p c1 cs},I0.le I→(RL I cs out)→NG Q→NO Q→(∀ (I':Imm) (out1:List Str) (p1:Option Addr) (c2:Nat) (cs1:List Value),o=out1→I0.le I'→(RL I' cs1 out1)→T 36 B Q (.exit 0) I' [hO Str (vS p1 out1 c2) cs1] [(5,vS p1 out1 c2)])→J Tryz.prog 36 B (nav (bodyOf Tryz.f157) [1,1,1,0,1,0]) Q I [hO Str (vS p out c1) cs] [(0,vT s.l),(1,.int .u8 (c.toNat:Int)),(5,vS p out c1),(6,vI from0),(7,vI i)]:=by
 refine rJ.partial_correctness s c _ fun self ih out from0 i o N B I0 I Q p c1 cs H h1 hg ho hx=>xH hg ho<|yA<|yO [12] rfl<|zI<|yH N ?_ ?_
 · intro hc N;refine zT<|yE<|yN<|yA ?_;refine wI N [hO Str (vS p out c1) cs] (fun t25=>[(0,vT s.l),(1,.int .u8 (c.toNat:Int)),(5,vS p out c1),(6,vI from0),(7,vI i),(25,.bool t25)]) (fun o0 ho0=>?_) ?_
   · have H:=iS I;refine zM<|yF 5 [] [19] rfl<|xP [19] ho0 ?_ ?_
     · intro hc1 N;exact wC [] [(25,vY)]<|yM<|zR (ct N H)
     intro hc1 N;exact yF 7 [] [20,21] rfl<|bE N fun b1 hy N=>gL rfl rfl hy<|yL [] [25] rfl<|yM<|zR (ct N H)
   intro t25 I0 le hMc;have ⟨h1,H⟩:=m2 le h1 H;refine zI ?_;obtain ⟨o01,ho01,hMc1⟩:=zC hMc;refine oH (fun I' hs' m'=>∃ (out2:List Str) (from01:Int) (p2:Option Addr) (c3:Nat) (cs2:List Value),o01=(out2,from01)∧I0.le I'∧(RL I' cs2 out2)∧hs'=[hO Str (vS p2 out2 c3) cs2]∧m'=[(0,vT s.l),(1,.int .u8 (c.toNat:Int)),(5,vS p2 out2 c3),(6,vI from01),(7,vI i)]) ?_ ?_
   · have H:=iS I0;refine yH ho01 ?_ ?_
     · intro hc2 N;refine yG<|yF 4 [] [26,27,28,29] rfl<|bE N fun s1 hy1 N=>zDv rfl hy1<|qB [vT s1.l] Str ?_;intro b2 hb1;have h4:RL I0 [vT s1.l] ([s1]:List Str):=rT [s1];obtain ⟨out3,hy2,N⟩:=zC N;exact nO 9 1 1 rfl rfl rfl h1 (.inr ⟨0,rfl⟩) h4 hy2 fun p3 c4 cs3 h5=>qH (yB [1] (hs':=[hO Str (vS p3 out3 c4) cs3]))<|yL [] [5] rfl<|zI<|zM<|yL [] [6] rfl<|yM<|zR ⟨_,_,_,_,_,(zB N).symm,H,h5,rfl,rfl⟩
     intro hc2 N;exact zT<|yM<|zR ⟨_,_,_,_,_,(zB N).symm,H,h1,rfl,rfl⟩
   rintro I01 hs2 m2 ⟨out2,from01,p2,c3,cs2,heq1,le1,h3,rfl,rfl⟩;subst o01;have H:=H.trans le1;exact zQ<|zI<|zM<|yL [] [7] rfl<|xF<|mJ<|ih out2 from01 (W (i + 1)) _ hMc1 H h3 hg ho hx
 intro hc N;exact tS<|yM<|hx _ _ _ _ _ (zB N).symm H h1
def pT (s:Str) (c:UInt8):Option ((List Str)):=do
 let out1←rJ s c ([]:List Str) 0 0
 pure (id out1)
theorem gG:∀ s c r,pT s c=some r→∀ {I:Imm} ,RT 157 [vT s.l,.int .u8 (c.toNat:Int)] I [] (fU  r):=by
 intro s c r N I;unfold pT at N;refine yI Tryz.func157 fun B=>uA []<|yX<|qB [] Str ?_;intro b hb;have h:RL I [] ([]:List Str):=rfl;refine yL [] [5] rfl<|sI [6] rfl<|yE<|yO [7] rfl<|uV<|mH [(0,vT s.l),(1,.int .u8 (c.toNat:Int)),(5,vS (some ⟨b,0,none⟩) ([]:List Str) 0),(6,vI 0),(7,vI 0)] ?_;obtain ⟨o02,ho02,hMl⟩:=zC N;refine zBU s c ([]:List Str) 0 0 o02 ho02 iR h (fun _ _ _ h=>h) (fun _ _ h=>h) ?_;intro I02 out1 p1 c2 cs1 heq2 le2 h2;subst o02;refine zU<|sI [4] rfl<|xE<|xN 0 rfl ?_;intro I03 le3 hl0;have h6:=SL.of_frozen hl0 le3 h2;obtain rfl:=zB hMl;exact xB ⟨_,_,(.tmp rfl ResV.nil),zL,⟨_,rfl,rfl,h6⟩⟩
def rK (s1:Str) (n0:Int) (i:Int):Option (Out Int (Int×Bool)):=do
 if (decide (i < (s1.l.length:Int))) then
  let t54←(do
    let b2←sidx s1 i
    if (decide ((b2.toNat:Int) < 48)) then
     pure true
    else
     let b3←sidx s1 i
     pure (decide ((b3.toNat:Int) > 57))
      : Option Bool)
  if t54 then
   pure (.ret (0,false))
  else
   let b4←sidx s1 i
   rK s1 (W ((W (n0 * 10)) + (W (IntKind.u8.wrap ((b4.toNat:Int) - 48))))) (W (i + 1))
 else
  pure (.done n0)
 partial_fixpoint
theorem zBV (s1:Str):∀ (n0:Int) (i:Int) (o:Out Int (Int×Bool)),rK s1 n0 i=some o→∀ {B}{I0 I:Imm}{Q}{neg:Bool} ,I0.le I→NG Q→NO Q→(∀ (I':Imm) (n01:Int),o=(.done n01)→I0.le I'→T 67 B Q (.exit 0) I' [] [(4,.bool neg),(5,vI n01)])→(∀ r I' hs' m',o=(.ret r)→I0.le I'→RS Tryz.prog Tryz.f235 B (oL  r) I' hs' m'→T 67 B Q .ret I' hs' m')→J Tryz.prog 67 B (nav (bodyOf Tryz.f235) [1,1,1,1,1,0,1,0]) Q I [] [(0,vT s1.l),(4,.bool neg),(5,vI n0),(6,vI i)]:=by
 refine rK.partial_correctness s1 _ fun self ih n0 i o N B I0 I Q neg H hg ho hx hr=>xH hg ho<|yA<|yO [42] rfl<|zI<|yH N ?_ ?_
 · intro hc7 N;refine zT<|yE<|yN<|yA<|yA ?_;refine wI N [] (fun t54=>[(0,vT s1.l),(4,.bool neg),(5,vI n0),(6,vI i),(54,.bool t54)]) (fun o03 ho03=>?_) ?_
   · have H:=iS I;refine zM<|yF 2 [] [45,46] rfl ?_;obtain ⟨b2,hy3,N⟩:=zC ho03;refine gL rfl rfl hy3<|yF 5 [] [49] rfl<|xP [49] N ?_ ?_
     · intro hc8 N;exact wC [] [(54,vY)]<|yM<|zR (ct N H)
     intro hc8 N;exact yF 7 [] [50,51] rfl<|bE N fun b3 hy4 N=>gL rfl rfl hy4<|yL [] [54] rfl<|yM<|zR (ct N H)
   intro t54 I03 le3 hMc3;have H:=H.trans le3;refine zI<|yH hMc3 ?_ ?_
   · intro hc9 N;exact yO [2,3] rfl<|xE<|zH<|zV<|zH<|zH<|hr _ _ _ _ (zB N).symm H ⟨_,_,(.tmp rfl (.tmp rfl ResV.nil)),zL,⟨_,_,rfl,rfl,rfl,rfl⟩⟩
   intro hc9 N;exact zT<|zI<|zM<|yF 4 [] [56,57,58] rfl<|bE N fun b4 hy5 N=>gL rfl rfl hy5<|yL [] [5] rfl<|zQ<|zI<|zM<|yL [] [6] rfl<|xF<|mJ<|ih (W ((W (n0 * 10)) + (W (IntKind.u8.wrap ((b4.toNat:Int) - 48))))) (W (i + 1)) _ N H  hg ho hx hr
 intro hc7 N;exact tS<|yM<|hx _ _ (zB N).symm H
def nH (s:Str):Option (Int×Bool):=do
 let neg←(do
   if (decide ((s.l.length:Int) > 0)) then
    let b←sidx s 0
    pure ((b.toNat:Int) == 45)
   else
    pure false
     : Option Bool)
 let s1←(do
   if neg then
    let s2←sslc s 1 (s.l.length:Int)
    pure (id s2)
   else
    pure (id s)
     : Option Str)
 let t38←(do
   if ((s1.l.length:Int) == 0) then
    pure true
   else
    if (decide ((s1.l.length:Int) > 17)) then
     pure true
    else
     let b1←sidx s1 0
     if ((b1.toNat:Int) == 48) then
      if (decide ((s1.l.length:Int) > 1)) then
       pure true
      else
       pure (id neg)
     else
      pure false
     : Option Bool)
 if t38 then
  pure (0,false)
 else
  match←rK s1 0 0 with
  | .ret r0=>pure r0
  | .done n01 =>
   let n02←(do
     if neg then
      pure (W (0 - n01))
     else
      pure (id n01)
       : Option Int)
   pure (n02,true)
theorem dW:∀ s r,nH s=some r→∀ {I:Imm} ,RT 235 [vT s.l] I [] (oL  r):=by
 intro s r N I;unfold nH at N;refine yI Tryz.func235 fun B=>?_;have H:=iS I;refine uA []<|zI<|yA ?_;refine wI N [] (fun neg=>[(0,vT s.l),(4,.bool neg)]) (fun o0 ho0=>?_) ?_
 · have H:=iS I;refine zM<|yF 4 [] [10] rfl<|xP [10] ho0 ?_ ?_
   · intro hc N;exact yF 5 [] [11] rfl<|bE N fun b hy N=>gL rfl rfl hy<|yL [] [4] rfl<|yM<|zR (ct N H)
   intro hc N;exact wC [] [(4,vF)]<|yM<|zR (ct N H)
 intro neg I0 le hMc;have H:=H.trans le;refine yE<|yO [15] rfl<|zI ?_;refine wI hMc [] (fun s1=>[(0,vT s1.l),(4,.bool neg)]) (fun o01 ho01=>?_) ?_
 · have H:=iS I0;refine yH ho01 ?_ ?_
   · intro hc1 N;exact zM<|yF 1 [] [16] rfl<|bE N fun s2 hy1 N=>zDv rfl hy1<|yL [] [0] rfl<|yM<|zR (ct N H)
   intro hc1 N;exact zT<|yM<|zR (ct N H)
 intro s1 I01 le1 hMc1;have H:=H.trans le1;refine yE<|yA ?_;refine wI hMc1 [] (fun t38=>[(0,vT s1.l),(4,.bool neg),(38,.bool t38)]) (fun o02 ho02=>?_) ?_
 · have H:=iS I01;refine zM<|yF 4 [] [21] rfl<|xP [21] ho02 ?_ ?_
   · intro hc2 N;exact wC [] [(38,vY)]<|yM<|zR (ct N H)
   intro hc2 N;refine yF 9 [] [26] rfl<|xP [26] N ?_ ?_
   · intro hc3 N;exact wC [] [(38,vY)]<|yM<|zR (ct N H)
   intro hc3 N;refine yF 10 [] [27] rfl<|bE N fun b1 hy2 N=>gL rfl rfl hy2<|yF 13 [] [30] rfl<|xP [30] N ?_ ?_
   · intro hc4 N;refine yF 17 [] [34] rfl<|xP [34] N ?_ ?_
     · intro hc5 N;exact wC [] [(38,vY)]<|yM<|zR (ct N H)
     intro hc5 N;exact yL [] [38] rfl<|yM<|zR (ct N H)
   intro hc4 N;exact wC [] [(38,vF)]<|yM<|zR (ct N H)
 intro t38 I02 le2 hMc2;have H:=H.trans le2;refine zI<|yH hMc2 ?_ ?_
 · intro hc6 N;refine yO [2,3] rfl<|xE<|zH ?_;obtain rfl:=zB N;exact xB ⟨_,_,(.tmp rfl (.tmp rfl ResV.nil)),zL,⟨_,_,rfl,rfl,rfl,rfl⟩⟩
 intro hc6 N;refine zT<|sI [5] rfl<|yE<|yO [6] rfl<|uV<|mH [(0,vT s1.l),(4,.bool neg),(5,vI 0),(6,vI 0)] ?_;obtain ⟨o04,ho04,hMl⟩:=zC N;refine zBV s1 0 0 o04 ho04 iR  (fun _ _ _ h=>h) (fun _ _ h=>h) ?_ ?_
 · intro I04 n01 heq4 le4;subst o04;have H:=H.trans le4;refine zU<|yE<|yO [63] rfl<|zI ?_;refine wI hMl [] (fun n02=>[(5,vI n02)]) (fun o05 ho05=>?_) ?_
   · have H:=iS I04;refine yH ho05 ?_ ?_
     · intro hc10 N;exact zM<|yL [] [5] rfl<|yM<|zR (ct N H)
     intro hc10 N;exact zT<|yM<|zR (ct N H)
   intro n02 I05 le5 hMc4;refine sI [2,3] rfl<|zI<|yS ?_;obtain rfl:=zB hMc4;exact xB ⟨_,_,(.tmp rfl (.tmp rfl ResV.nil)),zL,⟨_,_,rfl,rfl,rfl,rfl⟩⟩
 intro r0 I9 hs9 m9 heq9 le9 hrs9;subst heq9;refine zV<|zH ?_;obtain rfl:=zB hMl;exact xB hrs9
def sE (s:Str) (at0:Int) (end0:Int):Option (Int):=do
 let t31←(do
   if (decide (end0 < (s.l.length:Int))) then
    if (decide (end0 < (W (at0 + 2)))) then
     let b←sidx s end0
     if (decide ((b.toNat:Int) ≥ 48)) then
      let b1←sidx s end0
      pure (decide ((b1.toNat:Int) ≤ 57))
     else
      pure false
    else
     pure false
   else
    pure false
     : Option Bool)
 if t31 then
  sE s at0 (W (end0 + 1))
 else
  pure (id end0)
 partial_fixpoint
theorem zAS (s:Str) (at0:Int):∀ (end0:Int) (o:Int),sE s at0 end0=some o→∀ {B}{I0 I:Imm}{Q}  ,I0.le I→NG Q→NO Q→(∀ (I':Imm) (end01:Int),o=end01→I0.le I'→T 47 B Q (.exit 0) I' [] [(0,vT s.l),(1,vI at0),(6,vI end01)])→J Tryz.prog 47 B (nav (bodyOf Tryz.f244) [1,1,0,0]) Q I [] [(0,vT s.l),(1,vI at0),(6,vI end0)]:=by
 refine sE.partial_correctness s at0 _ fun self ih end0 o N B I0 I Q H hg ho hx=>xH hg ho<|yA<|yA ?_;refine wI N [] (fun t31=>[(0,vT s.l),(1,vI at0),(6,vI end0),(31,.bool t31)]) (fun o0 ho0=>?_) ?_
 · have H:=iS I;refine zM<|yF 5 [] [14] rfl<|xP [14] ho0 ?_ ?_
   · intro hc N;refine yF 11 [] [20] rfl<|xP [20] N ?_ ?_
     · intro hc1 N;refine yF 13 [] [21,22] rfl<|bE N fun b hy N=>gL rfl rfl hy<|yF 17 [] [26] rfl<|xP [26] N ?_ ?_
       · intro hc2 N;exact yF 19 [] [27,28] rfl<|bE N fun b1 hy1 N=>gL rfl rfl hy1<|yL [] [31] rfl<|yM<|zR (ct N H)
       intro hc2 N;exact wC [] [(31,vF)]<|yM<|zR (ct N H)
     intro hc1 N;exact wC [] [(31,vF)]<|yM<|zR (ct N H)
   intro hc N;exact wC [] [(31,vF)]<|yM<|zR (ct N H)
 intro t31 I0 le hMc;have H:=H.trans le;refine zI<|yH hMc ?_ ?_
 · intro hc3 N;exact zT<|uV<|zM<|yL [] [6] rfl<|zQ<|xF<|mJ<|ih (W (end0 + 1)) _ N H  hg ho hx
 intro hc3 N;exact tS<|yM<|hx _ _ (zB N).symm H
def pB (s:Str) (at0:Int):Option (Int×Int):=do
 let end01←sE s at0 at0
 let s1←sslc s at0 end01
 let (y1,y2)←nH s1
 if (!y2) then
  pure (1,at0)
 else
  pure (y1,end01)
theorem fV:∀ s at0 r,pB s at0=some r→∀ {I:Imm} ,RT 244 [vT s.l,vI at0] I [] (gU  r):=by
 intro s at0 r N I;unfold pB at N;refine yI Tryz.func244 fun B=>uA []<|sI [6] rfl<|yE<|yN<|mH [(0,vT s.l),(1,vI at0),(6,vI at0)] ?_;obtain ⟨o01,ho01,hMl⟩:=zC N;refine zAS s at0 at0 o01 ho01 iR  (fun _ _ _ h=>h) (fun _ _ h=>h) ?_;intro I01 end01 heq1 le1;subst o01;refine zU<|yX<|yF 3 [] [35,36,37] rfl ?_;obtain ⟨s1,hy2,N⟩:=zC hMl;refine zDv rfl hy2 ?_;obtain ⟨⟨y1,y2⟩,hy3,N⟩:=zC N;refine xM (dW s1 _ hy3 ) ?_;rintro I02 hs2 v2 k2 le2 - ⟨v0,v01,rfl,rfl,rfl,rfl⟩ -;refine yL [] [7,8] rfl<|yE<|yO [43] rfl<|zI<|yH N ?_ ?_
 · intro hc4 N;refine yO [4,5] rfl<|xE<|zH ?_;obtain rfl:=zB N;exact xB ⟨_,_,(.tmp rfl (.tmp rfl ResV.nil)),zL,⟨_,_,rfl,rfl,rfl,rfl⟩⟩
 intro hc4 N;refine zT<|sI [4,5] rfl<|zI<|yS ?_;obtain rfl:=zB N;exact xB ⟨_,_,(.tmp rfl (.tmp rfl ResV.nil)),zL,⟨_,_,rfl,rfl,rfl,rfl⟩⟩
def mP (s:Str) (at0:Int):Option (Int):=do
 let t20←(do
   if (decide (at0 ≥ (s.l.length:Int))) then
    pure true
   else
    let b←sidx s at0
    if (decide ((b.toNat:Int) < 105)) then
     pure true
    else
     let b1←sidx s at0
     pure (decide ((b1.toNat:Int) > 108))
     : Option Bool)
 if t20 then
  pure (-1)
 else
  let b2←sidx s at0
  pure (W ((W (b2.toNat:Int)) - 105))
theorem zDY:∀ s at0 r,mP s at0=some r→∀ {I:Imm} ,RT 259 [vT s.l,vI at0] I [] (xO  r):=by
 intro s at0 r N I;unfold mP at N;refine yI Tryz.func259 fun B=>?_;have H:=iS I;refine uA []<|yE<|yA ?_;refine wI N [] (fun t20=>[(0,vT s.l),(1,vI at0),(20,.bool t20)]) (fun o0 ho0=>?_) ?_
 · have H:=iS I;refine zM<|yF 5 [] [9] rfl<|xP [9] ho0 ?_ ?_
   · intro hc N;exact wC [] [(20,vY)]<|yM<|zR (ct N H)
   intro hc N;refine yF 7 [] [10,11] rfl<|bE N fun b hy N=>gL rfl rfl hy<|yF 11 [] [15] rfl<|xP [15] N ?_ ?_
   · intro hc1 N;exact wC [] [(20,vY)]<|yM<|zR (ct N H)
   intro hc1 N;exact yF 13 [] [16,17] rfl<|bE N fun b1 hy1 N=>gL rfl rfl hy1<|yL [] [20] rfl<|yM<|zR (ct N H)
 intro t20 I0 le hMc;refine zI<|yH hMc ?_ ?_
 · intro hc2 N;refine yO [4] rfl<|xE<|zH ?_;obtain rfl:=zB N;exact wM
 intro hc2 N;refine zT<|yX<|yF 2 [] [21,22] rfl<|bE N fun b2 hy2 N=>gL rfl rfl hy2<|yL [] [4] rfl<|zI<|yS ?_;obtain rfl:=zB N;exact wM
def zBW (r:zA×Int):KT:=fun kk I' hs' v=>
  ∃ v0 v1,hs'=[]∧v=tupV [v0,v1]∧(∃ cs,v0=.agg ⟨cs⟩∧Rp.rep I' cs r.1)∧v1=.int .i64 r.2
def nS (a0:zA) (s:Str) (at0:Int):Option (zA×Int):=do
 let b2←sidx s at0
 let sign←(do
   if ((b2.toNat:Int) == 45) then
    pure (-1)
   else
    pure (id 1)
     : Option Int)
 let t27←(do
   let b3←sidx s at0
   if ((b3.toNat:Int) == 45) then
    pure true
   else
    let b4←sidx s at0
    pure ((b4.toNat:Int) == 43)
     : Option Bool)
 let at01←(do
   if t27 then
    pure (W (at0 + 1))
   else
    pure (id at0)
     : Option Int)
 let (y1,y2)←pB s at01
 let t51←(do
   if (decide (y2 > at01)) then
    if (decide (y2 < (s.l.length:Int))) then
     let b5←sidx s y2
     pure ((b5.toNat:Int) == 42)
    else
     pure false
   else
    pure false
     : Option Bool)
 let star←(do
   if t51 then
    pure (W (y2 + 1))
   else
    pure (id y2)
     : Option Int)
 let y3←mP s star
 let l←app 8 ([]:List Int) a0.Coefs
 let t75←(do
   if (decide (y3 ≥ 0)) then
    if (decide (star > y2)) then
     pure true
    else
     pure (y2 == at01)
   else
    pure false
     : Option Bool)
 if t75 then
  let x←idx l y3
  let x1←idx l y3
  let l1←pure (l.set y3.toNat (W (x + (W (sign * y1)))))
  pure ((zA.mk l1 a0.Const),(W (star + 1)))
 else
  if (y2 == at01) then
   pure (a0,(-1))
  else
   pure ((zA.mk l (W (a0.Const + (W (sign * y1))))),y2)
theorem zCa:∀ a0 s at0 r,nS a0 s at0=some r→∀ {I:Imm}{p c},(S4 I p a0.Coefs c)→RT 252 [vA (cAff a0 p c),vT s.l,vI at0] I [] (zBW  r):=by
 intro a0 s at0 r N I p c h;unfold nS at N;refine yI Tryz.func252 fun B=>?_;have H:=iS I;refine yG<|uG (cAff a0 p c) ?_;intro b hb;refine wK [z0,vI 0] ?_;intro b1 hb1;refine wC [] []<|sI [8] rfl<|yE<|yG<|yF 2 [] [14,15] rfl<|bE N fun b2 hy N=>gL rfl rfl hy<|yL [] [17] rfl<|zI ?_;refine wI N [hB b1 [z0,vI 0],hB b (cAff a0 p c)] (fun sign=>[(1,vT s.l),(2,vI at0),(3,vP b 0),(6,vP b1 0),(8,vI sign)]) (fun o0 ho0=>?_) ?_
 · have H:=iS I;refine yH ho0 ?_ ?_
   · intro hc N;exact zM<|yL [] [8] rfl<|yM<|zR (ct N H)
   intro hc N;exact zT<|yM<|zR (ct N H)
 intro sign I0 le hMc;have ⟨h,H⟩:=m2 le h H;refine yE<|yA ?_;refine wI hMc [hB b1 [z0,vI 0],hB b (cAff a0 p c)] (fun t27=>[(1,vT s.l),(2,vI at0),(3,vP b 0),(6,vP b1 0),(8,vI sign),(27,.bool t27)]) (fun o01 ho01=>?_) ?_
 · have H:=iS I0;refine zM<|yF 2 [] [18,19] rfl ?_;obtain ⟨b3,hy1,N⟩:=zC ho01;refine gL rfl rfl hy1<|yF 5 [] [22] rfl<|xP [22] N ?_ ?_
   · intro hc1 N;exact wC [] [(27,vY)]<|yM<|zR (ct N H)
   intro hc1 N;exact yF 7 [] [23,24] rfl<|bE N fun b4 hy2 N=>gL rfl rfl hy2<|yL [] [27] rfl<|yM<|zR (ct N H)
 intro t27 I01 le1 hMc1;have ⟨h,H⟩:=m2 le1 h H;refine zI ?_;refine wI hMc1 [hB b1 [z0,vI 0],hB b (cAff a0 p c)] (fun at01=>[(1,vT s.l),(2,vI at01),(3,vP b 0),(6,vP b1 0),(8,vI sign)]) (fun o02 ho02=>?_) ?_
 · have H:=iS I01;refine yH ho02 ?_ ?_
   · intro hc2 N;exact zM<|yL [] [2] rfl<|yM<|zR (ct N H)
   intro hc2 N;exact zT<|yM<|zR (ct N H)
 intro at01 I02 le2 hMc2;have ⟨h,H⟩:=m2 le2 h H;refine yX<|yF 2 [] [31,32] rfl ?_;obtain ⟨⟨y1,y2⟩,hy3,N⟩:=zC hMc2;refine xM (fV s at01 _ hy3 ) ?_;rintro I03 hs2 v2 k2 le3 - ⟨v0,v01,rfl,rfl,rfl,rfl⟩ -;have ⟨h,H⟩:=m2 le3 h H;refine yL [] [9,10] rfl<|sI [11] rfl<|yE<|yA ?_;refine wI N [hB b1 [z0,vI 0],hB b (cAff a0 p c)] (fun t51=>[(1,vT s.l),(2,vI at01),(3,vP b 0),(6,vP b1 0),(8,vI sign),(9,vI y1),(10,vI y2),(11,vI y2),(51,.bool t51)]) (fun o03 ho03=>?_) ?_
 · have H:=iS I03;refine zM<|yF 4 [] [40] rfl<|xP [40] ho03 ?_ ?_
   · intro hc3 N;refine yF 10 [] [46] rfl<|xP [46] N ?_ ?_
     · intro hc4 N;exact yF 12 [] [47,48] rfl<|bE N fun b5 hy4 N=>gL rfl rfl hy4<|yL [] [51] rfl<|yM<|zR (ct N H)
     intro hc4 N;exact wC [] [(51,vF)]<|yM<|zR (ct N H)
   intro hc3 N;exact wC [] [(51,vF)]<|yM<|zR (ct N H)
 intro t51 I04 le4 hMc3;have ⟨h,H⟩:=m2 le4 h H;refine zI ?_;refine wI hMc3 [hB b1 [z0,vI 0],hB b (cAff a0 p c)] (fun star=>[(1,vT s.l),(2,vI at01),(3,vP b 0),(6,vP b1 0),(8,vI sign),(9,vI y1),(10,vI y2),(11,vI star)]) (fun o04 ho04=>?_) ?_
 · have H:=iS I04;refine yH ho04 ?_ ?_
   · intro hc5 N;exact zM<|yL [] [11] rfl<|yM<|zR (ct N H)
   intro hc5 N;exact zT<|yM<|zR (ct N H)
 intro star I05 le5 hMc4;have ⟨h,H⟩:=m2 le5 h H;refine yX<|yF 2 [] [54,55] rfl ?_;obtain ⟨y3,hy5,N⟩:=zC hMc4;refine fQ (zDY s star _ hy5 ) ?_;intro I06 le6;have ⟨h,H⟩:=m2 le6 h H;refine yL [] [12] rfl<|yE<|bE N fun l hy6 N=>wZ [.x (fun I' v hx=>∃ b6,v=vS (some ⟨b6,0,none⟩) ([]:List Int) 0∧hx=[hO Int (vS (some ⟨b6,0,none⟩) ([]:List Int) 0) []]∧(RL I' [] ([]:List Int))),.p (vP b 0) [],.p (vS p a0.Coefs c) [1],.x (fun I' v hx=>∃ p1 c1 cs,v=vS p1 l c1∧hx=[hO Int (vS p1 l c1) cs]∧(RL I' cs l)),.p (vP b 1) [],.p (vI a0.Const) [1],.x (fun I' v hx=>∃ p11 c11 cs1,v=vA [vS p11 l c11,vI a0.Const]∧hx=[hO Int (vS p11 l c11) cs1]∧(RL I' cs1 l)),.x (fun I' v hx=>∃ b7,v=vP b7 0∧hx=[hB b7 [z0,vI 0]])] [[],[],[(1,false)],[(0,true),(2,false)],[],[(4,false)],[(3,true),(5,false)],[]] [hB b1 [z0,vI 0],hB b (cAff a0 p c)] [] [(6,true),(7,true)] (yB [0,1]) ?_ ?_
 · refine Ox ?_<|Op<|Op<|Ox ?_<|Op<|Op<|Ox ?_<|Ox ?_<|On
   · intro I1 hf le1;refine jM []<|qB [] Int ?_;intro b6 hb2;have h4:RL I1 [] ([]:List Int):=rfl;exact yW [hO Int (vS (some ⟨b6,0,none⟩) ([]:List Int) 0) []] iR ⟨_,rfl,rfl,h4⟩
   · rintro I1 hf le1 _ _ ⟨b6,rfl,rfl,h4⟩;refine yY [57,59] rfl ?_;have h:=h.mono le1;obtain ⟨ccs,k0,k01⟩:=h;have h:SL I1 (vS p a0.Coefs c) a0.Coefs:=⟨_,k0,k01⟩;exact nO 3 1 0 rfl rfl rfl h4 (.inl k0) k01 hy6 fun p1 c1 cs h5=>qI (hs':=(hO Int (vS p1 l c1) cs::hB b1 [z0,vI 0]::hB b (cAff a0 p c)::hf)) rfl<|yW [hO Int (vS p1 l c1) cs] iR ⟨_,_,_,rfl,rfl,h5⟩
   · rintro I1 hf le1 _ _ ⟨p1,c1,cs,rfl,rfl,h5⟩;exact yY [60,62] rfl<|qE 7 [(63,vA [vS p1 l c1,vI a0.Const])]<|yW [hO Int (vS p1 l c1) cs] iR ⟨_,_,_,rfl,rfl,h5⟩
   intro I1 hf le1;refine jM []<|wK [z0,vI 0] ?_;intro b7 hb3;exact yW [hB b7 [z0,vI 0]] iR ⟨_,rfl,rfl⟩
 rintro I07 le7 _ _ ⟨p11,c11,cs1,rfl,rfl,h51⟩ _ _ ⟨b7,rfl,rfl⟩;refine yY [2,3,6,8,9,10,11,12,13,63] rfl ?_;have ⟨h,H⟩:=m2 le7 h H;refine yZ 0 [vS p11 l c11,vI a0.Const] rfl<|zZ rfl<|yE<|yA ?_;refine wI N [hB b7 [vS p11 l c11,vI a0.Const],hO Int (vS p11 l c11) cs1,hB b1 [z0,vI 0],hB b (cAff a0 p c)] (fun t75=>[(2,vI at01),(3,vP b 0),(6,vP b1 0),(8,vI sign),(9,vI y1),(10,vI y2),(11,vI star),(12,vI y3),(13,vP b7 0),(75,.bool t75)]) (fun o05 ho05=>?_) ?_
 · have H:=iS I07;refine zM<|yF 3 [] [66] rfl<|xP [66] ho05 ?_ ?_
   · intro hc6 N;refine yF 7 [] [70] rfl<|xP [70] N ?_ ?_
     · intro hc7 N;exact wC [] [(75,vY)]<|yM<|zR (ct N H)
     intro hc7 N;exact yL [] [75] rfl<|yM<|zR (ct N H)
   intro hc6 N;exact wC [] [(75,vF)]<|yM<|zR (ct N H)
 intro t75 I08 le8 hMc5;have ⟨h51,h⟩:=m2 le8 h51 h;refine zI<|yH hMc5 ?_ ?_
 · intro hc8 N;refine yA<|bE N fun x hy7 N=>wZ [.p (vP b7 0) [],.p (vS p11 l c11) [0],.p (vI y3) [],.p (vP b7 0) [],.p (vS p11 l c11) [0],.p (vI y3) [],.x (fun I' v hx=>∃ ad,v=.pointer (some ad)∧hx=[]∧(AtO (vS p11 l c11) (Rp.sz Int) y3.toNat ad)∧((cs1.drop (y3.toNat * Rp.sz Int)).take (Rp.sz Int)=[vI x])),.q (vI x),.p (vI sign) [],.p (vI y1) [],.p (vI (W (sign * y1))) [],.p (vI (W (x + (W (sign * y1))))) []] [[],[(0,false)],[],[],[(3,false)],[],[(4,false),(5,false)],[(6,false)],[],[],[(8,false),(9,false)],[(7,false),(10,false)]] [hB b7 [vS p11 l c11,vI a0.Const],hO Int (vS p11 l c11) cs1,hB b1 [z0,vI 0],hB b (cAff a0 p c)] [] [(1,false),(2,false),(11,false)] (yB [0,1,2,3]) ?_ ?_
   · refine Op<|Op<|Op<|Op<|Op<|Op<|Ox ?_<|Oq ?_<|Op<|Op<|Op<|Op<|On
     · intro I1 hf le1;refine yY [80,81] rfl ?_;have h51:=iM le1 h51;refine fP 1 rfl rfl rfl h51 hy7 ?_;intro ad ccs1 hat hcc hrep;obtain rfl:=hrep;exact yW [] iR ⟨_,rfl,rfl,hat,hcc⟩
     rintro I1 hf le1 _ _ ⟨ad,rfl,rfl,hat,hcc⟩;exact yY [82] rfl<|zGf 1 0 hat hcc [vI x] (vI x) rfl rfl<|xC iR
   intro I09 le9;refine yY [6,11,13,77,78,87] rfl ?_;have h51:=iM le9 h51;obtain ⟨x1,hy8,N⟩:=zC N;refine fP 1 rfl rfl rfl h51 hy8 ?_;intro ad1 ccs2 hat1 hcc1 hrep1;obtain rfl:=hrep1;obtain ⟨l1,hy9,N⟩:=zC N;refine mV (c:=[vI (W (x + (W (sign * y1))))]) (x':=(W (x + (W (sign * y1))))) 1 0 rfl rfl rfl hat1 rfl rfl hcc1 (by kernel_rfl) (by kernel_rfl) (by kernel_rfl) h51 hy8 (by kernel_rfl) rfl ?_;rw [show l.set y3.toNat (W (x + (W (sign * y1))))=l1 from zB hy9];intro cs2 h6 hl0;refine jD (m':=[(6,vP b1 0),(11,vI star),(13,vP b7 0),(77,vS p11 l c11),(78,vI y3),(87,vI (W (x + (W (sign * y1)))))]) ⟨rfl,rfl,rfl,rfl,rfl,rfl,trivial⟩<|zDJ (hs':=[hB b7 [vS p11 l1 c11,vI a0.Const],hO Int (vS p11 l1 c11) cs2,hB b1 [z0,vI 0],hB b (cAff a0 p c)]) (m':=[(6,vP b1 0),(11,vI star),(13,vP b7 0),(77,vS p11 l1 c11),(78,vI y3),(87,vI (W (x + (W (sign * y1)))))]) (by first | rfl | simp only [vS,hl0,List.nil_append,List.cons_append,List.set_cons_zero,List.set_cons_succ,List.eraseIdx_cons_zero,List.eraseIdx_cons_succ]) (by first | rfl | simp only [vS,hl0])<|zZ rfl<|yX<|sH 3 [0] [(89,vA [vS p11 l1 c11,vI a0.Const]),(91,vI (W (star + 1)))]<|yZ 2 [vS p11 l1 c11,vI a0.Const] rfl<|yL [] [7] rfl<|xE<|zH<|xN 1 rfl ?_;intro I010 le10 hl01;have h7:=SL.of_frozen hl01 le10 h6;obtain rfl:=zB N;exact xB ⟨_,_,(.cell 1 rfl rfl (by kernel_rfl) (.tmp rfl ResV.nil)),zL,⟨_,_,rfl,rfl,⟨_,rfl,(yC ⟨_,rfl,h7⟩)⟩,rfl⟩⟩
 intro hc8 N;refine zT<|yE<|yO [94] rfl<|zI<|yH N ?_ ?_
 · intro hc9 N;refine yG<|sH 1 [3] [(95,vA (cAff a0 p c))]<|yZ 2 (cAff a0 p c) rfl<|yL [] [7] rfl<|xE<|zH ?_;obtain rfl:=zB N;exact xB ⟨_,_,(.cell 2 rfl rfl (by kernel_rfl) (.tmp rfl ResV.nil)),zL,⟨_,_,rfl,rfl,⟨_,rfl,(yC ⟨_,rfl,h⟩)⟩,rfl⟩⟩
 intro hc9 N;refine zT<|yX<|yF 7 [0] [101,102] rfl<|yZ 0 [vS p11 l c11,vI (W (a0.Const + (W (sign * y1))))] rfl<|zZ rfl<|yX<|sH 2 [0] [(103,vA [vS p11 l c11,vI (W (a0.Const + (W (sign * y1))))]),(104,vI y2)]<|yZ 2 [vS p11 l c11,vI (W (a0.Const + (W (sign * y1))))] rfl<|yL [] [7] rfl<|xE<|xN 1 rfl ?_;intro I011 le11 hl02;have h8:=SL.of_frozen hl02 le11 h51;obtain rfl:=zB N;exact xB ⟨_,_,(.cell 1 rfl rfl (by kernel_rfl) (.tmp rfl ResV.nil)),zL,⟨_,_,rfl,rfl,⟨_,rfl,(yC ⟨_,rfl,h8⟩)⟩,rfl⟩⟩
def uL (r:Str):KT:=fun kk I' hs' v=>
  ∃ v0,hs'=[]∧v=tupV [v0]∧v0=.string ⟨⟨r.l⟩⟩
def tH (n01:Int) (out:Str):Option ((Int×Str)):=do
 if (decide (n01 > 9)) then
  let s1←cat (⟨([(u8 (W (48 + (n01.tmod 10))))]:List UInt8)⟩:Str) out
  tH (W (n01.tdiv 10)) s1
 else
  pure (n01,out)
 partial_fixpoint
theorem zBX :∀ (n01:Int) (out:Str) (o:(Int×Str)),tH n01 out=some o→∀ {B}{I0 I:Imm}{Q}  ,I0.le I→NG Q→NO Q→(∀ (I':Imm) (n02:Int) (out1:Str),o=(n02,out1)→I0.le I'→T 31 B Q (.exit 0) I' [] [(0,vI n02),(3,vT out1.l)])→J Tryz.prog 31 B (nav (bodyOf Tryz.f202) [1,1,1,1,0,0]) Q I [] [(0,vI n01),(3,vT out.l)]:=by
 refine tH.partial_correctness  _ fun self ih n01 out o N B I0 I Q H hg ho hx=>xH hg ho<|yA<|yO [13] rfl<|zI<|yH N ?_ ?_
 · intro hc2 N;refine zT<|uV<|yG<|yF 3 [] [16] rfl<|zJO (d:=17) (i:=(W (48 + (n01.tmod 10)))) rfl (by kernel_rfl)<|qB [.int .u8 ((u8 (W (48 + (n01.tmod 10)))).toNat:Int)] UInt8 ?_;intro b hb;have h1:RL I [.int .u8 ((u8 (W (48 + (n01.tmod 10)))).toNat:Int)] ([(u8 (W (48 + (n01.tmod 10))))]:List UInt8):=⟨[.int .u8 ((u8 (W (48 + (n01.tmod 10)))).toNat:Int)],_,rfl,rfl,rfl,rfl⟩;exact zGR (l:=([(u8 (W (48 + (n01.tmod 10))))]:List UInt8)) rfl rfl rfl rfl (by kernel_rfl) (by kernel_rfl) (.inr ⟨0,rfl⟩) h1<|yF 7 [] [20] rfl<|bE N fun s1 hy2 N=>oI rfl hy2<|yL [] [3] rfl<|zI<|zM<|yL [] [0] rfl<|zQ<|xF<|gA zL<|mJ<|ih (W (n01.tdiv 10)) s1 _ N H  hg ho hx
 intro hc2 N;exact tS<|yM<|hx _ _ _ (zB N).symm H
def uM (n0:Int):Option (Str):=do
 if (decide (n0 < (-9223372036854775807))) then
  pure (⟨[45,57,50,50,51,51,55,50,48,51,54,56,53,52,55,55,53,56,48,56]⟩:Str)
 else
  if (decide (n0 < 0)) then
   let y←uM (W (0 - n0))
   let s←cat (⟨[45]⟩:Str) y
   pure (id s)
  else
   let (n02,out1)←tH n0 (⟨[]⟩:Str)
   let s2←cat (⟨([(u8 (W (48 + n02)))]:List UInt8)⟩:Str) out1
   pure (id s2)
 partial_fixpoint
theorem kG:∀ n0 r,uM n0=some r→∀ {I:Imm} ,RT 202 [vI n0] I [] (uL  r):=by
 refine uM.partial_correctness _ fun F_spec_l16Dec ih_spec_l16Dec n0 r N I=>yI Tryz.func202 fun B=>uA []<|yE<|yO [5] rfl<|zI<|yH N ?_ ?_
 · intro hc N;refine yO [2] rfl<|xE<|zH ?_;obtain rfl:=zB N;exact wM
 intro hc N;refine zT<|yE<|yO [7] rfl<|zI<|yH N ?_ ?_
 · intro hc1 N;refine yG<|yF 2 [] [9] rfl<|bE N fun y hy N=>xM (ih_spec_l16Dec (W (0 - n0)) _ hy ) ?_;rintro I0 hs2 v2 k2 le - ⟨v0,rfl,rfl,rfl⟩ -;obtain ⟨s,hy1,N⟩:=zC N;refine oI rfl hy1<|yL [] [2] rfl<|xE<|zH ?_;obtain rfl:=zB N;exact wM
 intro hc1 N;refine zT<|sI [3] rfl<|yE<|yN<|mH [(0,vI n0),(3,vT ([]))] ?_;obtain ⟨o0,ho0,hMl⟩:=zC N;refine zBX n0 (⟨[]⟩:Str) o0 ho0 iR  (fun _ _ _ h=>h) (fun _ _ h=>h) ?_;intro I01 n02 out1 heq le1;subst o0;refine zU<|yX<|yF 2 [] [25] rfl<|zJO (d:=26) (i:=(W (48 + n02))) rfl (by kernel_rfl)<|qB [.int .u8 ((u8 (W (48 + n02))).toNat:Int)] UInt8 ?_;intro b1 hb1;have h2:RL I01 [.int .u8 ((u8 (W (48 + n02))).toNat:Int)] ([(u8 (W (48 + n02)))]:List UInt8):=⟨[.int .u8 ((u8 (W (48 + n02))).toNat:Int)],_,rfl,rfl,rfl,rfl⟩;refine zGR (l:=([(u8 (W (48 + n02)))]:List UInt8)) rfl rfl rfl rfl (by kernel_rfl) (by kernel_rfl) (.inr ⟨0,rfl⟩) h2<|yF 6 [] [29] rfl ?_;obtain ⟨s2,hy3,N⟩:=zC hMl;refine oI rfl hy3<|yL [] [2] rfl<|zI<|yS ?_;obtain rfl:=zB N;exact wM
def nI (n0:Int) (name:Str):Option (Str):=do
 let (n01,sign)←(do
   if (decide (n0 < 0)) then
    pure ((W (0 - n0)),(⟨[45]⟩:Str))
   else
    pure (n0,(⟨[43]⟩:Str))
     : Option (Int×Str))
 if (name.l == ([]:List UInt8)) then
  let y←uM n01
  let s←cat sign y
  pure (id s)
 else
  if (n01 == 1) then
   let s1←cat sign name
   pure (id s1)
  else
   let y1←uM n01
   let s2←cat sign y1
   let s3←cat s2 (⟨[42]⟩:Str)
   let s4←cat s3 name
   pure (id s4)
theorem dX:∀ n0 name r,nI n0 name=some r→∀ {I:Imm} ,RT 251 [vI n0,vT name.l] I [] (uL  r):=by
 intro n0 name r N I;unfold nI at N;refine yI Tryz.func251 fun B=>?_;have H:=iS I;refine uA []<|sI [5] rfl<|yE<|yO [7] rfl<|zI ?_;obtain ⟨o0,ho0,hMc⟩:=zC N;refine oH (fun I' hs' m'=>∃ (n01:Int) (sign:Str),o0=(n01,sign)∧I.le I'∧hs'=[]∧m'=[(0,vI n01),(1,vT name.l),(5,vT sign.l)]) ?_ ?_
 · have H:=iS I;refine yH ho0 ?_ ?_
   · intro hc N;exact yO [5] rfl<|zI<|zM<|yL [] [0] rfl<|yM<|zR ⟨_,_,(zB N).symm,H,rfl,rfl⟩
   intro hc N;exact zT<|yM<|zR ⟨_,_,(zB N).symm,H,rfl,rfl⟩
 rintro I0 hs2 m2 ⟨n01,sign,heq,le,rfl,rfl⟩;subst o0;refine yE<|yO [11] rfl<|zI<|yH hMc ?_ ?_
 · intro hc1 N;refine yG<|yF 2 [] [12,13] rfl<|bE N fun y hy N=>xM (kG n01 _ hy ) ?_;rintro I01 hs2 v2 k2 le1 - ⟨v0,rfl,rfl,rfl⟩ -;obtain ⟨s,hy1,N⟩:=zC N;refine oI rfl hy1<|yL [] [4] rfl<|xE<|zH ?_;obtain rfl:=zB N;exact wM
 intro hc1 N;refine zT<|yE<|yO [17] rfl<|zI<|yH N ?_ ?_
 · intro hc2 N;refine yG<|yF 2 [] [18,19] rfl<|bE N fun s1 hy2 N=>oI rfl hy2<|yL [] [4] rfl<|xE<|zH ?_;obtain rfl:=zB N;exact wM
 intro hc2 N;refine zT<|yX<|yF 2 [] [21,22] rfl<|bE N fun y1 hy3 N=>xM (kG n01 _ hy3 ) ?_;rintro I02 hs2 v2 k2 le2 - ⟨v01,rfl,rfl,rfl⟩ -;obtain ⟨s2,hy4,N⟩:=zC N;refine oI rfl hy4<|bE N fun s3 hy5 N=>oI rfl hy5<|yF 6 [] [26] rfl<|bE N fun s4 hy6 N=>oI rfl hy6<|yL [] [4] rfl<|zI<|yS ?_;obtain rfl:=zB N;exact wM
end Go.LN
