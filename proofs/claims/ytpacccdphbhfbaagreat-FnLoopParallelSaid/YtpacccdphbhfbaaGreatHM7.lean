/- Helper of the proof (see the last text). -/
import Derived.Test.YtpacccdphbhfbaaGreatHM6
set_option linter.unusedVariables false
set_option linter.unusedSimpArgs false
namespace Go.LN
open Go.Proofs
set_option maxRecDepth 20000
def zAv (r:(List Bool)):KT:=fun kk I' hs' v=>
  ∃ a0 c0 s0,hs'=[.osl (.slice a0 r.length c0) (Rp.sz Bool) s0]∧v=tupV [(.slice a0 r.length c0)]∧RepL (Rp.rep I') (Rp.sz Bool) s0 r
def uL (y:(List (List Int))) (out1:List Bool) (t24:Int):Option (List Bool):=do
 if (decide (t24 < (y.length:Int))) then
  let x1←idx y t24
  let y1←mZ x1
  let out3←(do
    if (decide (y1 ≥ 0)) then
     let x2←idx out1 y1
     let l←pure (out1.set y1.toNat true)
     pure (id l)
    else
     pure (id out1)
      : Option (List Bool))
  uL y out3 (W (t24 + 1))
 else
  pure (id out1)
 partial_fixpoint
theorem zA5 (y:(List (List Int))):∀ (out1:List Bool) (t24:Int) (o:List Bool),uL y out1 t24=some o→∀ {B}{I0 I:Imm}{Q p7 c7 p8 c8 cs1},I0.le I→(S4 I p7 y c7)→(RL I cs1 out1)→NG Q→NO Q→(∀ (I':Imm) (out2:List Bool) (p9:Option Addr) (c9:Nat) (cs2:List Value),o=out2→I0.le I'→(RL I' cs2 out2)→T 37 B Q (.exit 0) I' [hO Bool (vS p9 out2 c9) cs2] [(5,vS p9 out2 c9)])→J Tryz.prog 37 B (nav (bodyOf Tryz.f35) [1,1,0,1,0]) Q I [hO Bool (vS p8 out1 c8) cs1] [(5,vS p8 out1 c8),(22,vS p7 y c7),(23,vI (y.length:Int)),(24,vI t24)]:=by
 refine uL.partial_correctness y _ fun self ih out1 t24 o N B I0 I Q p7 c7 p8 c8 cs1 H h8 h9 hg ho hx=>yQ hg ho<|yF [25] rfl<|zY<|yC N ?_ ?_
 · intro hc N;refine zS<|zY<|yG<|yD<|bE N fun x1 hy3 N=>xK rfl rfl h8 hy3 ?_;intro ad2 ccs1 hat2 hrep1;obtain ⟨v03,rfl,h11⟩:=hrep1;obtain ⟨p10,c10,rfl⟩:=h11.form;refine xF 0 hat2 [vS p10 x1 c10] (vS p10 x1 c10) rfl<|yI [] [7] rfl<|yX<|yE 1 [] [28] rfl<|bE N fun y1 hy4 N=>gF (zDg x1 _ hy4 h11) ?_;intro I01 le1;have ⟨h9,h8,H⟩:=m3 le1 h9 h8 H;refine yI [] [8] rfl<|wH [31] rfl<|zI ?_;obtain ⟨o0,ho0,hMc⟩:=zB N;refine qA (fun I' hs' m'=>∃ (out3:List Bool) (p11:Option Addr) (c11:Nat) (cs3:List Value),o0=out3∧I01.le I'∧(RL I' cs3 out3)∧hs'=[hO Bool (vS p11 out3 c11) cs3]∧m'=[(5,vS p11 out3 c11),(22,vS p7 y c7),(23,vI (y.length:Int)),(24,vI t24)]) ?_ ?_
   · have H:=iS I01;refine yC ho0 ?_ ?_
     · intro hc1 N;refine zK<|yE 2 [] [32,33] rfl<|bE N fun x2 hy5 N=>nV 0 rfl rfl rfl h9 hy5 ?_;intro ad3 ccs2 hat3 hcc hrep2;obtain rfl:=hrep2;obtain ⟨l,hy6,N⟩:=zB N;refine rG (c:=[vY]) (x':=true) 0 0 rfl rfl rfl hat3 rfl rfl hcc (by kernel_rfl) (by kernel_rfl) (by kernel_rfl) h9 hy5 (by kernel_rfl) rfl ?_;rw [show out1.set y1.toNat true=l from zC hy6];intro cs4 h14 hl0;exact mS (m':=[(5,vS p8 out1 c8),(22,vS p7 y c7),(23,vI (y.length:Int)),(24,vI t24),(32,vS p8 out1 c8),(33,vI y1)]) ⟨rfl,rfl,rfl,rfl,rfl,rfl,trivial⟩<|zAN (hs':=[hO Bool (vS p8 l c8) cs4]) (m':=[(5,vS p8 l c8),(22,vS p7 y c7),(23,vI (y.length:Int)),(24,vI t24),(32,vS p8 l c8),(33,vI y1)]) (by first | rfl | simp only [vS,hl0,List.nil_append,List.cons_append,List.set_cons_zero,List.set_cons_succ,List.eraseIdx_cons_zero,List.eraseIdx_cons_succ]) (by first | rfl | simp only [vS,hl0])<|yB rfl<|yN<|zT ⟨_,_,_,_,(zC N).symm,H,h14,rfl,rfl⟩
     intro hc1 N;exact zS<|yN<|zT ⟨_,_,_,_,(zC N).symm,H,h9,rfl,rfl⟩
   rintro I02 hs2 m2 ⟨out3,p11,c11,cs3,heq,le2,h13,rfl,rfl⟩;subst o0;have ⟨h8,H⟩:=m2 le2 h8 H;exact zO<|zI<|zK<|yI [] [24] rfl<|yO<|nF<|ih out3 (W (t24 + 1)) _ hMc H h8 h13 hg ho hx
 intro hc N;exact wJ<|yN<|hx _ _ _ _ _ (zC N).symm H h9
def mI (t:vQ) (part:Int):Option ((List Bool)):=do
 let x←idx t.Program.Parts part
 let out←mkrow 1 (x.Nest.length:Int) (false:Bool)
 let y←qU t part
 let out2←uL y out 0
 pure (id out2)
theorem zI4:∀ t part r,mI t part=some r→∀ {I:Imm}{ad:Addr}{p c p1 c1 p2 c2 p3 c3 p4 c4},(S4 I p t.Program.Arrays c)→(S4 I p1 t.Program.Parts c1)→(S4 I p2 t.list c2)→(S4 I p3 t.reads c3)→(S4 I p4 t.writes c4)→(At I ad [vS p t.Program.Arrays c,vS p1 t.Program.Parts c1,vS p2 t.list c2,vS p3 t.reads c3,vS p4 t.writes c4])→RT 35 [.pointer (some ad),vI part] I [] (zAv  r):=by
 intro t part r N I ad p c p1 c1 p2 c2 p3 c3 p4 c4 h h1 h2 h3 h4 hat;unfold mI at N;refine yL Tryz.func35 fun B=>vJ []<|yX<|yE 4 [] [12] rfl<|xF 1 hat [vS p1 t.Program.Parts c1] (vS p1 t.Program.Parts c1) rfl<|yE 6 [] [14] rfl<|bE N fun x hy N=>xK rfl rfl h1 hy ?_;intro ad1 ccs hat1 hrep;obtain ⟨p5,c5,p6,c6,rfl,h5,h6⟩:=wL hrep;refine yE 8 [] [16] rfl<|xF 0 hat1 [vS p5 x.Nest c5] (vS p5 x.Nest c5) rfl<|yE 10 [] [18] rfl<|bE N fun out hy1 N=>zOT 1 [vF] rfl hy1 rfl fun b cs h7=>yI [] [5] rfl<|zY<|yD<|yE 2 [] [20,21] rfl<|bE N fun y hy2 N=>xP (zAu t part _ hy2 h h1 h2 h3 h4 hat) ?_;rintro I0 hs2 v2 k2 le - ⟨v02,rfl,rfl,h8⟩ -;have h7:=iM le h7;obtain ⟨p7,c7,rfl⟩:=h8.form;refine yI [] [23,24] rfl<|xW<|qW [(5,vS (some ⟨b,0,none⟩) out out.length),(22,vS p7 y c7),(23,vI (y.length:Int)),(24,vI 0)] ?_;obtain ⟨o01,ho01,hMl⟩:=zB N;refine zA5 y out 0 o01 ho01 iR h8 h7 (fun _ _ _ h=>h) (fun _ _ h=>h) ?_;intro I03 out2 p9 c9 cs2 heq1 le3 h10;subst o01;refine zR<|wH [4] rfl<|zI<|yW ?_;obtain rfl:=zC hMl;exact xA ⟨_,_,(.tmp rfl ResV.nil),(zW [0] rfl (by decide)),⟨_,_,_,rfl,rfl,h10⟩⟩
def dA (r:(List Int)):KT:=fun kk I' hs' v=>
  ∃ v0,hs'=[]∧v=tupV [v0]∧SL I' v0 r
def zCE (r:(List zL)):KT:=fun kk I' hs' v=>
  ∃ v0,hs'=[]∧v=tupV [v0]∧SL I' v0 r
def wQ (p:zD) (i:Int) (y:(List (List Int))) (k0:Int) (out4:List zL) (s:Int):Option (List zL):=do
 let x1←idx p.Parts i
 if (decide (s < (x1.Body.length:Int))) then
  let x2←idx y k0
  let l←app 8 ([]:List Int) x2
  let out6←app 40 out4 ([(zL.mk i s l)]:List zL)
  wQ p i y k0 out6 (W (s + 1))
 else
  pure (id out4)
 partial_fixpoint
theorem zBh (p:zD) (i:Int) (y:(List (List Int))) (k0:Int):∀ (out4:List zL) (s:Int) (o:List zL),wQ p i y k0 out4 s=some o→∀ {B}{I0 I:Imm}{Q p1 c p2 c1}{b:Nat}{p7 c6 cs2 p10 c9 cs5},I0.le I→(RL I cs2 y)→(S4 I p1 p.Arrays c)→(S4 I p2 p.Parts c1)→(RL I cs5 out4)→NG Q→NO Q→(∀ (I':Imm) (out5:List zL) (p11:Option Addr) (c10:Nat) (cs6:List Value),o=out5→I0.le I'→(RL I' cs6 out5)→T 54 B Q (.exit 4) I' [hO (List Int) (vS p7 y c6) cs2,hO zL (vS p11 out5 c10) cs6,hB b (cProg p p1 c p2 c1)] [(1,vP b 0),(3,vS p11 out5 c10),(4,vI i),(5,vS p7 y c6),(6,vI k0)])→J Tryz.prog 54 B (nav (bodyOf Tryz.f146) [1,1,0,1,0,0,1,0,0,1,1,0,0,1,0,0,1,0]) Q I [hO (List Int) (vS p7 y c6) cs2,hO zL (vS p10 out4 c9) cs5,hB b (cProg p p1 c p2 c1)] [(1,vP b 0),(3,vS p10 out4 c9),(4,vI i),(5,vS p7 y c6),(6,vI k0),(7,vI s)]:=by
 refine wQ.partial_correctness p i y k0 _ fun self ih out4 s o N B I0 I Q p1 c p2 c1 b p7 c6 cs2 p10 c9 cs5 H h8 h h1 h11 hg ho hx=>yQ hg ho<|zZ<|yD<|yE 4 [2] [30,32,33] rfl<|bE N fun x1 hy2 N=>xK rfl rfl h1 hy2 ?_;intro ad1 ccs1 hat1 hrep1;obtain ⟨p12,c11,p13,c12,rfl,h13,h14⟩:=wL hrep1;refine yE 6 [] [35] rfl<|xF 1 hat1 [vS p13 x1.Body c12] (vS p13 x1.Body c12) rfl<|yI [] [38] rfl<|zI<|yC N ?_ ?_
 · intro hc2 N;refine zS<|zY<|yG<|zK<|yE 3 [] [41,42,43] rfl<|uN [] Int ?_;intro b3 hb3;have h15:RL I [] ([]:List Int):=rfl;refine yE 6 [] [45,46] rfl<|bE N fun x2 hy3 N=>nV 1 rfl rfl rfl h8 hy3 ?_;intro ad2 ccs2 hat2 hcc hrep2;obtain ⟨v04,rfl,h16⟩:=hrep2;obtain ⟨p14,c13,rfl⟩:=h16.form;refine zB3 1 0 hat2 hcc [vS p14 x2 c13] (vS p14 x2 c13) rfl rfl ?_;obtain ⟨ccs3,k01,k02⟩:=h16;have h16:SL I (vS p14 x2 c13) x2:=⟨_,k01,k02⟩;obtain ⟨l,hy4,N⟩:=zB N;refine rX 3 1 0 rfl rfl rfl h15 (.inl k01) k02 hy4 fun p15 c14 cs7 h17=>sK (zX [0,1,2,3] (hs':=[hO Int (vS p15 l c14) cs7,hO (List Int) (vS p7 y c6) cs2,hO zL (vS p10 out4 c9) cs5,hB b (cProg p p1 c p2 c1)]))<|yE 10 [] [50] rfl<|xO 0 rfl ?_;intro I01 le1 hl0;have h18:=SL.of_frozen hl0 le1 h17;have ⟨h8,h11,h,h1,H⟩:=m5 le1 h8 h11 h h1 H;refine uN [vI i,vI s,vS p15 l c14] zL ?_;intro b4 hb4;have h19:RL I01 [vI i,vI s,vS p15 l c14] ([(zL.mk i s l)]:List zL):=⟨[vI i,vI s,vS p15 l c14],_,rfl,rfl,(zAO ⟨_,rfl,h18⟩),rfl⟩;obtain ⟨out6,hy5,N⟩:=zB N;exact rX 58 3 2 rfl rfl rfl h11 (.inr ⟨0,rfl⟩) h19 hy5 fun p16 c15 cs8 h20=>sK (zX [1,2,3] (hs':=[hO (List Int) (vS p7 y c6) cs2,hO zL (vS p16 out6 c15) cs8,hB b (cProg p p1 c p2 c1)]))<|yI [] [3] rfl<|zO<|zI<|zK<|yI [] [7] rfl<|yO<|nF<|ih out6 (W (s + 1)) _ N H h8 h h1 h20 hg ho hx
 intro hc2 N;exact wJ<|yN<|hx _ _ _ _ _ (zC N).symm H h11
def wR (p:zD) (i:Int) (y:(List (List Int))) (out2:List zL) (k0:Int):Option (List zL):=do
 if (decide (k0 < (y.length:Int))) then
  let out5←wQ p i y k0 out2 0
  wR p i y out5 (W (k0 + 1))
 else
  pure (id out2)
 partial_fixpoint
theorem zBi (p:zD) (i:Int) (y:(List (List Int))):∀ (out2:List zL) (k0:Int) (o:List zL),wR p i y out2 k0=some o→∀ {B}{I0 I:Imm}{Q p1 c p2 c1}{b:Nat}{p7 c6 cs2 p8 c7 cs3},I0.le I→(RL I cs2 y)→(S4 I p1 p.Arrays c)→(S4 I p2 p.Parts c1)→(RL I cs3 out2)→NG Q→NO Q→(∀ (I':Imm) (out3:List zL) (p9:Option Addr) (c8:Nat) (cs4:List Value),o=out3→I0.le I'→(RL I' cs4 out3)→T 54 B Q (.exit 2) I' [hO zL (vS p9 out3 c8) cs4,hB b (cProg p p1 c p2 c1)] [(1,vP b 0),(3,vS p9 out3 c8),(4,vI i)])→J Tryz.prog 54 B (nav (bodyOf Tryz.f146) [1,1,0,1,0,0,1,0,0,1,1,0]) Q I [hO (List Int) (vS p7 y c6) cs2,hO zL (vS p8 out2 c7) cs3,hB b (cProg p p1 c p2 c1)] [(1,vP b 0),(3,vS p8 out2 c7),(4,vI i),(5,vS p7 y c6),(6,vI k0)]:=by
 refine wR.partial_correctness p i y _ fun self ih out2 k0 o N B I0 I Q p1 c p2 c1 b p7 c6 cs2 p8 c7 cs3 H h8 h h1 h9 hg ho hx=>yQ hg ho<|zZ<|yF [27] rfl<|zI<|yC N ?_ ?_
 · intro hc1 N;refine zS<|zY<|yG<|yF [7] rfl<|xW<|qW [(1,vP b 0),(3,vS p8 out2 c7),(4,vI i),(5,vS p7 y c6),(6,vI k0),(7,vI 0)] ?_;obtain ⟨o0,ho0,hMl⟩:=zB N;refine zBh p i y k0 out2 0 o0 ho0 iR h8 h h1 h9 (fun _ _ _ h=>hg _ _ _ h) (fun _ _ h=>ho _ _ h) ?_;intro I02 out5 p11 c10 cs6 heq le2 h12;subst o0;have ⟨h8,h,h1,H⟩:=m4 le2 h8 h h1 H;exact zR<|zO<|zI<|zK<|yI [] [6] rfl<|yO<|nF<|ih out5 (W (k0 + 1)) _ hMl H h8 h h1 h12 hg ho hx
 intro hc1 N;exact wJ<|xY (zW [1,2] rfl (by decide))<|yN<|hx _ _ _ _ _ (zC N).symm H h9
def wS (p:zD) (out:List zL) (i:Int):Option (List zL):=do
 if (decide (i < (p.Parts.length:Int))) then
  let x←idx p.Parts i
  let y←vZ ([]:List (List Int)) x.Nest ([]:List Int)
  let out3←wR p i y out 0
  wS p out3 (W (i + 1))
 else
  pure (id out)
 partial_fixpoint
theorem zBj (p:zD):∀ (out:List zL) (i:Int) (o:List zL),wS p out i=some o→∀ {B}{I0 I:Imm}{Q p1 c p2 c1}{b:Nat}{p3 c2 cs},I0.le I→(S4 I p1 p.Arrays c)→(S4 I p2 p.Parts c1)→(RL I cs out)→NG Q→NO Q→(∀ (I':Imm) (out1:List zL) (p4:Option Addr) (c3:Nat) (cs1:List Value),o=out1→I0.le I'→(RL I' cs1 out1)→T 54 B Q (.exit 0) I' [hO zL (vS p4 out1 c3) cs1] [(3,vS p4 out1 c3)])→J Tryz.prog 54 B (nav (bodyOf Tryz.f146) [1,1,0,1,0]) Q I [hO zL (vS p3 out c2) cs,hB b (cProg p p1 c p2 c1)] [(1,vP b 0),(3,vS p3 out c2),(4,vI i)]:=by
 refine wS.partial_correctness p _ fun self ih out i o N B I0 I Q p1 c p2 c1 b p3 c2 cs H h h1 h3 hg ho hx=>yQ hg ho<|zZ<|yD<|yI [1] [13] rfl<|zI<|yC N ?_ ?_
 · intro hc N;refine zS<|zY<|yG<|yD<|uN [] (List Int) ?_;intro b2 hb2;have h5:RL I [] ([]:List (List Int)):=rfl;refine yE 4 [2] [18,19] rfl<|bE N fun x hy N=>xK rfl rfl h1 hy ?_;intro ad ccs hat hrep;obtain ⟨p5,c4,p6,c5,rfl,h6,h7⟩:=wL hrep;refine yE 6 [] [21] rfl<|xF 0 hat [vS p5 x.Nest c4] (vS p5 x.Nest c4) rfl<|bE N fun y hy1 N=>sJ (zBI ([]:List (List Int)) x.Nest ([]:List Int) _ hy1 h5 h6 (SL.nil _)) rfl ?_;rintro I0 hs2 v2 k2 le - ⟨p7,c6,cs2,rfl,rfl,h8⟩ -;have ⟨h3,h,h1,H⟩:=m4 le h3 h h1 H;refine yI [] [5] rfl<|wH [6] rfl<|xW<|qW [(1,vP b 0),(3,vS p3 out c2),(4,vI i),(5,vS p7 y c6),(6,vI 0)] ?_;obtain ⟨o01,ho01,hMl1⟩:=zB N;refine zBi p i y out 0 o01 ho01 iR h8 h h1 h3 (fun _ _ _ h=>hg _ _ _ h) (fun _ _ h=>ho _ _ h) ?_;intro I03 out3 p9 c8 cs4 heq1 le3 h10;subst o01;have ⟨h,h1,H⟩:=m3 le3 h h1 H;exact zR<|zO<|zI<|zK<|yI [] [4] rfl<|yO<|nF<|ih out3 (W (i + 1)) _ hMl1 H h h1 h10 hg ho hx
 intro hc N;exact wJ<|xY (zW [0] rfl (by decide))<|yN<|hx _ _ _ _ _ (zC N).symm H h3
def uM (p:zD):Option ((List zL)):=do
 let out1←wS p ([]:List zL) 0
 pure (id out1)
theorem zAE:∀ p r,uM p=some r→∀ {I:Imm}{p1 c p2 c1},(S4 I p1 p.Arrays c)→(S4 I p2 p.Parts c1)→RT 146 [vA (cProg p p1 c p2 c1)] I [] (zCE  r):=by
 intro p r N I p1 c p2 c1 h h1;unfold uM at N;refine yL Tryz.func146 fun B=>yD<|tS (cProg p p1 c p2 c1) ?_;intro b hb;refine wI [] []<|yX<|uN [] zL ?_;intro b1 hb1;have h2:RL I [] ([]:List zL):=rfl;refine yI [] [3] rfl<|zY<|yF [4] rfl<|xW<|qW [(1,vP b 0),(3,vS (some ⟨b1,0,none⟩) ([]:List zL) 0),(4,vI 0)] ?_;obtain ⟨o02,ho02,hMl2⟩:=zB N;refine zBj p ([]:List zL) 0 o02 ho02 iR h h1 h2 (fun _ _ _ h=>h) (fun _ _ h=>h) ?_;intro I04 out1 p4 c3 cs1 heq2 le4 h4;subst o02;refine zR<|wH [2] rfl<|xG<|yV 0 rfl ?_;intro I05 le5 hl01;have h21:=SL.of_frozen hl01 le5 h4;obtain rfl:=zC hMl2;exact xA ⟨_,_,(.tmp rfl ResV.nil),zQ,⟨_,rfl,rfl,h21⟩⟩
def zF3 (r:(List xI)):KT:=fun kk I' hs' v=>
  ∃ v0,hs'=[]∧v=tupV [v0]∧SL I' v0 r
def tZ (p:zD) (y:(List zL)) (out:List xI) (i:Int):Option (List xI):=do
 if (decide (i < (y.length:Int))) then
  let x←idx y i
  let x1←idx p.Parts x.Part
  let x2←idx y i
  let x3←idx x1.Body x2.Stmt
  let x4←idx y i
  let (y2,y3,y4)←nC p.Arrays x3 x4.Point
  let out2←app 32 out ([(xI.mk y2 y3)]:List xI)
  tZ p y out2 (W (i + 1))
 else
  pure (id out)
 partial_fixpoint
theorem zE8 (p:zD) (y:(List zL)):∀ (out:List xI) (i:Int) (o:List xI),tZ p y out i=some o→∀ {B}{I0 I:Imm}{Q p1 c p2 c1}{b:Nat}{p3 c2 p4 c3 cs},I0.le I→(S4 I p3 y c2)→(S4 I p1 p.Arrays c)→(S4 I p2 p.Parts c1)→(RL I cs out)→NG Q→NO Q→(∀ (I':Imm) (out1:List xI) (p5:Option Addr) (c4:Nat) (cs1:List Value),o=out1→I0.le I'→(RL I' cs1 out1)→T 54 B Q (.exit 0) I' [hO xI (vS p5 out1 c4) cs1] [(3,vS p5 out1 c4)])→J Tryz.prog 54 B (nav (bodyOf Tryz.f193) [1,1,1,0,1,0]) Q I [hO xI (vS p4 out c3) cs,hB b (cProg p p1 c p2 c1)] [(1,vP b 0),(3,vS p4 out c3),(4,vS p3 y c2),(5,vI i)]:=by
 refine tZ.partial_correctness p y _ fun self ih out i o N B I0 I Q p1 c p2 c1 b p3 c2 p4 c3 cs H h3 h h1 h4 hg ho hx=>yQ hg ho<|zZ<|yF [15] rfl<|zI<|yC N ?_ ?_
 · intro hc N;refine zS<|zY<|yG<|zZ ?_;obtain ⟨x,hy1,N⟩:=zB N;obtain ⟨x1,hy2,N⟩:=zB N;obtain ⟨x2,hy3,N⟩:=zB N;obtain ⟨x3,hy4,N⟩:=zB N;obtain ⟨x4,hy5,N⟩:=zB N;obtain ⟨⟨y2,y3,y4⟩,hy6,N⟩:=zB N;refine wK [.p (vP b 0) [],.p (vS p1 p.Arrays c) [1],.p (vP b 1) [],.p (vS p2 p.Parts c1) [1],.p (vS p3 y c2) [],.p (vI i) [],.x (ePInst x),.x (ePInst x),.q (vI x.Part),.x (ePPart x1),.x (eQPart 1 x1),.x (eS x1.Body),.p (vS p3 y c2) [],.p (vI i) [],.x (ePInst x2),.x (eQInst 1 x2),.q (vI x2.Stmt),.x (ePStmt x3),.x (eVStmt x3),.p (vS p3 y c2) [],.p (vI i) [],.x (ePInst x4),.x (eQInst 2 x4),.x (eS x4.Point),.x (fun I' v hx=>∃ p15 c14,v=.tuple ⟨[vS p15 y2 c14,vI y3,.bool y4]⟩∧hx=[]∧(S4 I' p15 y2 c14)),.x (fun I' v hx=>∃ p151 c141,v=.tuple ⟨[vS p151 y2 c141,vI y3,.bool y4]⟩∧hx=[]∧(S4 I' p151 y2 c141)),.x (eS y2),.q (vI y3),.q (.bool y4),.x (eS y2),.p (vI y3) []] [[],[(0,false)],[],[(2,false)],[],[],[(4,false),(5,false)],[(6,false)],[(7,false)],[(3,false),(8,false)],[(9,false)],[(10,false)],[],[],[(12,false),(13,false)],[(14,false)],[(15,false)],[(11,false),(16,false)],[(17,false)],[],[],[(19,false),(20,false)],[(21,false)],[(22,false)],[(1,false),(18,false),(23,false)],[(24,false)],[(25,false)],[(25,false)],[(25,false)],[(26,false)],[(27,false)]] [hO xI (vS p4 out c3) cs,hB b (cProg p p1 c p2 c1)] [] [(28,false),(29,false),(30,false)] (zX [0,1]) ?_ ?_
   · refine Op<|Op<|Op<|Op<|Op<|Op<|Ox ?_<|Ox ?_<|Oq ?_<|Ox ?_<|Ox ?_<|Ox ?_<|Op<|Op<|Ox ?_<|Ox ?_<|Oq ?_<|Ox ?_<|Ox ?_<|Op<|Op<|Ox ?_<|Ox ?_<|Ox ?_<|Ox ?_<|Ox ?_<|Ox ?_<|Oq ?_<|Oq ?_<|Ox ?_<|Op<|On
     · intro I1 hf le1;refine yR [23,24] rfl ?_;have h3:=h3.mono le1;refine xK rfl rfl h3 hy1 ?_;intro ad ccs hat hrep;obtain ⟨p6,c5,rfl,h6⟩:=qS hrep;exact yK [] iR ⟨_,_,_,rfl,rfl,hat,h6⟩
     · rintro I1 hf le1 _ _ ⟨ad,p6,c5,rfl,rfl,hat,h6⟩;exact yR [25] rfl<|oY 8 [(26,.pointer (some ad))]<|yK [] iR ⟨_,_,_,rfl,rfl,hat,h6⟩
     · rintro I1 hf le1 _ _ ⟨ad1,p61,c51,rfl,rfl,hat1,h61⟩;exact yR [26] rfl<|xF 0 hat1 [vI x.Part] (vI x.Part) rfl<|xE iR
     · intro I1 hf le1;refine yR [22,27] rfl ?_;have h1:=h1.mono le1;refine xK rfl rfl h1 hy2 ?_;intro ad2 ccs1 hat2 hrep1;obtain ⟨p7,c6,p8,c7,rfl,h7,h8⟩:=wL hrep1;exact yK [] iR ⟨_,_,_,_,_,rfl,rfl,hat2,h7,h8⟩
     · rintro I1 hf le1 _ _ ⟨ad2,p7,c6,p8,c7,rfl,rfl,hat2,h7,h8⟩;exact yR [28] rfl<|oY 11 [(29,.pointer (some (ad2.add 1)))]<|yK [] iR ⟨_,_,_,_,_,rfl,rfl,hat2,h7,h8⟩
     · rintro I1 hf le1 _ _ ⟨ad21,p71,c61,p81,c71,rfl,rfl,hat21,h71,h81⟩;exact yR [29] rfl<|xF 1 hat21 [vS p81 x1.Body c71] (vS p81 x1.Body c71) rfl<|yK [] iR ⟨_,_,rfl,rfl,h81⟩
     · intro I1 hf le1;refine yR [31,32] rfl ?_;have h3:=h3.mono le1;refine xK rfl rfl h3 hy3 ?_;intro ad3 ccs2 hat3 hrep2;obtain ⟨p9,c8,rfl,h9⟩:=qS hrep2;exact yK [] iR ⟨_,_,_,rfl,rfl,hat3,h9⟩
     · rintro I1 hf le1 _ _ ⟨ad3,p9,c8,rfl,rfl,hat3,h9⟩;exact yR [33] rfl<|oY 16 [(34,.pointer (some (ad3.add 1)))]<|yK [] iR ⟨_,_,_,rfl,rfl,hat3,h9⟩
     · rintro I1 hf le1 _ _ ⟨ad31,p91,c81,rfl,rfl,hat31,h91⟩;exact yR [34] rfl<|xF 1 hat31 [vI x2.Stmt] (vI x2.Stmt) rfl<|xE iR
     · rintro I1 hf le1 _ _ ⟨p811,c711,rfl,rfl,h811⟩;refine yR [30,35] rfl<|xK rfl rfl h811 hy4 ?_;intro ad4 ccs3 hat4 hrep3;obtain ⟨p10,c9,p11,c10,p12,c11,p13,c12,rfl,h10,h11,h12,h13⟩:=qH hrep3;exact yK [] iR ⟨_,_,_,_,_,_,_,_,_,rfl,rfl,hat4,h10,h11,h12,h13⟩
     · rintro I1 hf le1 _ _ ⟨ad4,p10,c9,p11,c10,p12,c11,p13,c12,rfl,rfl,hat4,h10,h11,h12,h13⟩;exact yR [36] rfl<|xF 0 hat4 (cStmt x3 p10 c9 p11 c10 p12 c11 p13 c12) (vA (cStmt x3 p10 c9 p11 c10 p12 c11 p13 c12)) rfl<|yK [] iR ⟨_,_,_,_,_,_,_,_,rfl,rfl,h10,h11,h12,h13⟩
     · intro I1 hf le1;refine yR [38,39] rfl ?_;have h3:=h3.mono le1;refine xK rfl rfl h3 hy5 ?_;intro ad5 ccs4 hat5 hrep4;obtain ⟨p14,c13,rfl,h14⟩:=qS hrep4;exact yK [] iR ⟨_,_,_,rfl,rfl,hat5,h14⟩
     · rintro I1 hf le1 _ _ ⟨ad5,p14,c13,rfl,rfl,hat5,h14⟩;exact yR [40] rfl<|oY 23 [(41,.pointer (some (ad5.add 2)))]<|yK [] iR ⟨_,_,_,rfl,rfl,hat5,h14⟩
     · rintro I1 hf le1 _ _ ⟨ad51,p141,c131,rfl,rfl,hat51,h141⟩;exact yR [41] rfl<|xF 2 hat51 [vS p141 x4.Point c131] (vS p141 x4.Point c131) rfl<|yK [] iR ⟨_,_,rfl,rfl,h141⟩
     · rintro I1 hf le1 _ _ ⟨rfl,rfl⟩ _ _ ⟨p101,c91,p111,c101,p121,c111,p131,c121,rfl,rfl,h101,h111,h121,h131⟩ _ _ ⟨p1411,c1311,rfl,rfl,h1411⟩;refine yR [20,37,42] rfl ?_;have H:=iS I1;have h:=h.mono le1;refine xP (zBt p.Arrays x3 x4.Point _ hy6 h h101 h111 h121 h131 h1411) ?_;rintro I01 hs2 v2 k2 le1 - ⟨v010,v011,v012,rfl,rfl,h15,rfl,rfl⟩ -;have H:=H.trans le1;obtain ⟨p15,c14,rfl⟩:=h15.form;exact yK [] H ⟨_,_,rfl,rfl,h15⟩
     · rintro I1 hf le1 _ _ ⟨p15,c14,rfl,rfl,h15⟩;exact yR [43] rfl<|oY 26 [(18,.tuple ⟨[vS p15 y2 c14,vI y3,.bool y4]⟩)]<|yK [] iR ⟨_,_,rfl,rfl,h15⟩
     · rintro I1 hf le1 _ _ ⟨p151,c141,rfl,rfl,h151⟩;exact yR [18] rfl<|oY 27 [(44,vS p151 y2 c141)]<|yK [] iR ⟨_,_,rfl,rfl,h151⟩
     · rintro I1 hf le1 _ _ ⟨p151,c141,rfl,rfl,h151⟩;exact yR [18] rfl<|oY 28 [(45,vI y3)]<|xE iR
     · rintro I1 hf le1 _ _ ⟨p151,c141,rfl,rfl,h151⟩;exact yR [18] rfl<|oY 29 [(46,.bool y4)]<|xE iR
     rintro I1 hf le1 _ _ ⟨p1511,c1411,rfl,rfl,h1511⟩;exact yR [44] rfl<|oY 30 [(6,vS p1511 y2 c1411)]<|yK [] iR ⟨_,_,rfl,rfl,h1511⟩
   rintro I02 le2 _ _ ⟨rfl,rfl⟩ _ _ ⟨p15111,c14111,rfl,rfl,h15111⟩;refine yR [1,3,4,5,6,7,46] rfl ?_;have ⟨h4,h3,h,h1,H⟩:=m5 le2 h4 h3 h h1 H;refine wI [] []<|zI<|zK<|yE 4 [] [47,50] rfl<|uN [vS p15111 y2 c14111,vI y3] xI ?_;intro b2 hb2;have h18:RL I02 [vS p15111 y2 c14111,vI y3] ([(xI.mk y2 y3)]:List xI):=⟨[vS p15111 y2 c14111,vI y3],_,rfl,rfl,(zFq ⟨_,rfl,h15111⟩),rfl⟩;obtain ⟨out2,hy7,N⟩:=zB N;exact rX 208 2 1 rfl rfl rfl h4 (.inr ⟨0,rfl⟩) h18 hy7 fun p16 c15 cs2 h19=>sK (zX [1,2] (hs':=[hO xI (vS p16 out2 c15) cs2,hB b (cProg p p1 c p2 c1)]))<|yI [] [3] rfl<|zO<|zI<|zK<|yI [] [5] rfl<|yO<|nF<|ih out2 (W (i + 1)) _ N H h3 h h1 h19 hg ho hx
 intro hc N;exact wJ<|xY (zW [0] rfl (by decide))<|yN<|hx _ _ _ _ _ (zC N).symm H h4
def kR (p:zD):Option ((List xI)):=do
 let y←uM p
 let out1←tZ p y ([]:List xI) 0
 pure (id out1)
theorem zHA:∀ p r,kR p=some r→∀ {I:Imm}{p1 c p2 c1},(S4 I p1 p.Arrays c)→(S4 I p2 p.Parts c1)→RT 193 [vA (cProg p p1 c p2 c1)] I [] (zF3  r):=by
 intro p r N I p1 c p2 c1 h h1;unfold kR at N;refine yL Tryz.func193 fun B=>yD<|tS (cProg p p1 c p2 c1) ?_;intro b hb;refine wI [] []<|yX<|uN [] xI ?_;intro b1 hb1;have h2:RL I [] ([]:List xI):=rfl;refine yI [] [3] rfl<|yX<|qL 1 [1] [(10,vA (cProg p p1 c p2 c1))]<|bE N fun y hy N=>xP (zAE p _ hy h h1) ?_;rintro I0 hs2 v2 k2 le - ⟨v0,rfl,rfl,h3⟩ -;have ⟨h2,h,h1⟩:=m3 le h2 h h1;obtain ⟨p3,c2,rfl⟩:=h3.form;refine yI [] [4] rfl<|zY<|yF [5] rfl<|xW<|qW [(1,vP b 0),(3,vS (some ⟨b1,0,none⟩) ([]:List xI) 0),(4,vS p3 y c2),(5,vI 0)] ?_;obtain ⟨o0,ho0,hMl⟩:=zB N;refine zE8 p y ([]:List xI) 0 o0 ho0 iR h3 h h1 h2 (fun _ _ _ h=>h) (fun _ _ h=>h) ?_;intro I03 out1 p5 c4 cs1 heq le3 h5;subst o0;refine zR<|wH [2] rfl<|xG<|yV 0 rfl ?_;intro I04 le4 hl0;have h20:=SL.of_frozen hl0 le4 h5;obtain rfl:=zC hMl;exact xA ⟨_,_,(.tmp rfl ResV.nil),zQ,⟨_,rfl,rfl,h20⟩⟩
def nN (list:(List Int)) (n0:Int) (i:Int):Option (Out Unit (Bool)):=do
 if (decide (i < (list.length:Int))) then
  let x←idx list i
  if (x == n0) then
   pure (.ret true)
  else
   nN list n0 (W (i + 1))
 else
  pure (.done ())
 partial_fixpoint
theorem zF4 (list:(List Int)) (n0:Int):∀ (i:Int) (o:Out Unit (Bool)),nN list n0 i=some o→∀ {B}{I0 I:Imm}{Q p c},I0.le I→(S4 I p list c)→NG Q→NO Q→(∀ (I':Imm) ,o=(.done ())→I0.le I'→T 18 B Q (.exit 0) I' [] [])→(∀ r I' hs' m',o=(.ret r)→I0.le I'→RS Tryz.prog Tryz.f79 B (zU  r) I' hs' m'→T 18 B Q .ret I' hs' m')→J Tryz.prog 18 B (nav (bodyOf Tryz.f79) [1,0,1,0]) Q I [] [(0,vS p list c),(1,vI n0),(5,vI i)]:=by
 refine nN.partial_correctness list n0 _ fun self ih i o N B I0 I Q p c H h hg ho hx hr=>yQ hg ho<|zZ<|yF [9] rfl<|zI<|yC N ?_ ?_
 · intro hc N;refine zS<|zY<|yG<|yD<|yE 2 [] [12,13] rfl<|bE N fun x hy N=>xK rfl rfl h hy ?_;intro ad ccs hat hrep;obtain rfl:=hrep;refine xF 0 hat [vI x] (vI x) rfl<|yI [] [17] rfl<|zI<|yC N ?_ ?_
   · intro hc1 N;exact vJ [(4,vY)]<|xG<|zV<|zG<|zG<|hr _ _ _ _ (zC N).symm H ⟨_,_,(.tmp rfl ResV.nil),zQ,⟨_,rfl,rfl,rfl⟩⟩
   intro hc1 N;exact zS<|zO<|zI<|zK<|yI [] [5] rfl<|yO<|nF<|ih (W (i + 1)) _ N H h hg ho hx hr
 intro hc N;exact wJ<|yN<|hx _  (zC N).symm H
def jU (list:(List Int)) (n0:Int):Option (Bool):=do
 match←nN list n0 0 with
 | .ret r0=>pure r0
 | .done _ =>
  pure false
theorem zAw:∀ list n0 r,jU list n0=some r→∀ {I:Imm}{p c},(S4 I p list c)→RT 79 [vS p list c,vI n0] I [] (zU  r):=by
 intro list n0 r N I p c h;unfold jU at N;refine yL Tryz.func79 fun B=>vJ []<|zY<|yF [5] rfl<|xW<|qW [(0,vS p list c),(1,vI n0),(5,vI 0)] ?_;obtain ⟨o0,ho0,hMl⟩:=zB N;refine zF4 list n0 0 o0 ho0 iR h (fun _ _ _ h=>h) (fun _ _ h=>h) ?_ ?_
 · intro I0  heq le;subst o0;refine zR<|zFr [(4,vF)]<|zI<|yW ?_;obtain rfl:=zC hMl;exact wM
 intro r0 I9 hs9 m9 heq9 le9 hrs9;subst heq9;refine zV<|zG ?_;obtain rfl:=zC hMl;exact xA hrs9
def gW (a0:xI) (b:xI):Option (Int):=do
 let y←jU b.reads a0.write
 let n0←(do
   if y then
    pure (W (0 + 1))
   else
    pure (id 0)
     : Option Int)
 let y1←jU a0.reads b.write
 let n01←(do
   if y1 then
    pure (W (n0 + 2))
   else
    pure (id n0)
     : Option Int)
 let n02←(do
   if (a0.write == b.write) then
    pure (W (n01 + 4))
   else
    pure (id n01)
     : Option Int)
 pure (id n02)
theorem zGH:∀ a0 b r,gW a0 b=some r→∀ {I:Imm}{p c p1 c1},(S4 I p a0.reads c)→(S4 I p1 b.reads c1)→RT 194 [vA [vS p a0.reads c,vI a0.write],vA [vS p1 b.reads c1,vI b.write]] I [] (yM  r):=by
 intro a0 b r N I p c p1 c1 h h1;unfold gW at N;refine yL Tryz.func194 fun B=>?_;have H:=iS I;refine yD<|tS [vS p a0.reads c,vI a0.write] ?_;intro b1 hb;refine tS [vS p1 b.reads c1,vI b.write] ?_;intro b2 hb1;refine wI [] []<|wH [5] rfl<|zY<|yD<|yE 4 [0,1] [7,9] rfl<|bE N fun y hy N=>uH (zAw b.reads a0.write _ hy h1) ?_;intro I0 le;have ⟨h,H⟩:=m2 le h H;refine yB rfl<|zI ?_;refine wT N [hB b2 [vS p1 b.reads c1,vI b.write],hB b1 [vS p a0.reads c,vI a0.write]] (fun n0=>[(2,vP b1 0),(3,vP b2 0),(5,vI n0)]) (fun o0 ho0=>?_) ?_
 · have H:=iS I0;refine yC ho0 ?_ ?_
   · intro hc N;exact zK<|yI [] [5] rfl<|yN<|zT (ct N H)
   intro hc N;exact zS<|yN<|zT (ct N H)
 intro n0 I01 le1 hMc;have ⟨h,H⟩:=m2 le1 h H;refine zY<|yD<|yE 4 [1,0] [14,16] rfl ?_;obtain ⟨y1,hy1,N⟩:=zB hMc;refine uH (zAw a0.reads b.write _ hy1 h) ?_;intro I02 le2;have H:=H.trans le2;refine yB rfl<|zI ?_;refine wT N [hB b2 [vS p1 b.reads c1,vI b.write],hB b1 [vS p a0.reads c,vI a0.write]] (fun n01=>[(2,vP b1 0),(3,vP b2 0),(5,vI n01)]) (fun o01 ho01=>?_) ?_
 · have H:=iS I02;refine yC ho01 ?_ ?_
   · intro hc1 N;exact zK<|yI [] [5] rfl<|yN<|zT (ct N H)
   intro hc1 N;exact zS<|yN<|zT (ct N H)
 intro n01 I03 le3 hMc1;have H:=H.trans le3;refine zY<|yD<|yI [1,0] [24] rfl<|zI ?_;refine wT hMc1 [] (fun n02=>[(5,vI n02)]) (fun o02 ho02=>?_) ?_
 · have H:=iS I03;refine yC ho02 ?_ ?_
   · intro hc2 N;exact zK<|yI [] [5] rfl<|xY zQ<|yN<|zT (ct N H)
   intro hc2 N;exact zS<|xY zQ<|yN<|zT (ct N H)
 intro n02 I04 le4 hMc2;refine wH [4] rfl<|zI<|yW ?_;obtain rfl:=zC hMc2;exact wM
def oO (y:(List xI)) (i:Int) (out2:List yH) (k0:Int):Option (List yH):=do
 if (decide (k0 < (y.length:Int))) then
  let x←idx y i
  let x1←idx y k0
  let y1←gW x x1
  let out4←(do
    if (y1 != 0) then
     let out5←app 24 out2 ([(yH.mk i k0 y1)]:List yH)
     pure (id out5)
    else
     pure (id out2)
      : Option (List yH))
  oO y i out4 (W (k0 + 1))
 else
  pure (id out2)
 partial_fixpoint
theorem zE9 (y:(List xI)) (i:Int):∀ (out2:List yH) (k0:Int) (o:List yH),oO y i out2 k0=some o→∀ {B}{I0 I:Imm}{Q p3 c2 p6 c5 cs2},I0.le I→(S4 I p3 y c2)→(RL I cs2 out2)→NG Q→NO Q→(∀ (I':Imm) (out3:List yH) (p7:Option Addr) (c6:Nat) (cs3:List Value),o=out3→I0.le I'→(RL I' cs3 out3)→T 44 B Q (.exit 2) I' [hO yH (vS p7 out3 c6) cs3] [(3,vS p7 out3 c6),(4,vS p3 y c2),(5,vI i)])→J Tryz.prog 44 B (nav (bodyOf Tryz.f147) [1,1,1,0,1,0,0,1,0,0,1,0]) Q I [hO yH (vS p6 out2 c5) cs2] [(3,vS p6 out2 c5),(4,vS p3 y c2),(5,vI i),(6,vI k0)]:=by
 refine oO.partial_correctness y i _ fun self ih out2 k0 o N B I0 I Q p3 c2 p6 c5 cs2 H h3 h6 hg ho hx=>yQ hg ho<|zZ<|yF [22] rfl<|zI<|yC N ?_ ?_
 · intro hc1 N;refine zS<|zY<|yG<|zZ ?_;obtain ⟨x,hy1,N⟩:=zB N;obtain ⟨x1,hy2,N⟩:=zB N;obtain ⟨y1,hy3,N⟩:=zB N;refine wK [.p (vS p3 y c2) [],.p (vI i) [],.x (fun I' v hx=>∃ ad p8 c7,v=.pointer (some ad)∧hx=[]∧(At I' ad [vS p8 x.reads c7,vI x.write])∧(S4 I' p8 x.reads c7)),.x (fun I' v hx=>∃ p81 c71,v=vA [vS p81 x.reads c71,vI x.write]∧hx=[]∧(S4 I' p81 x.reads c71)),.p (vS p3 y c2) [],.p (vI k0) [],.x (fun I' v hx=>∃ ad1 p9 c8,v=.pointer (some ad1)∧hx=[]∧(At I' ad1 [vS p9 x1.reads c8,vI x1.write])∧(S4 I' p9 x1.reads c8)),.x (fun I' v hx=>∃ p91 c81,v=vA [vS p91 x1.reads c81,vI x1.write]∧hx=[]∧(S4 I' p91 x1.reads c81)),.q (vI y1)] [[],[],[(0,false),(1,false)],[(2,false)],[],[],[(4,false),(5,false)],[(6,false)],[(3,false),(7,false)]] [hO yH (vS p6 out2 c5) cs2] [] [(8,false)] (zX [0]) ?_ ?_
   · refine Op<|Op<|Ox ?_<|Ox ?_<|Op<|Op<|Ox ?_<|Ox ?_<|Oq ?_<|On
     · intro I1 hf le1;refine yR [25,26] rfl ?_;have h3:=h3.mono le1;refine xK rfl rfl h3 hy1 ?_;intro ad ccs hat hrep;obtain ⟨p8,c7,rfl,h8⟩:=zDL hrep;exact yK [] iR ⟨_,_,_,rfl,rfl,hat,h8⟩
     · rintro I1 hf le1 _ _ ⟨ad,p8,c7,rfl,rfl,hat,h8⟩;exact yR [27] rfl<|xF 0 hat [vS p8 x.reads c7,vI x.write] (vA [vS p8 x.reads c7,vI x.write]) rfl<|yK [] iR ⟨_,_,rfl,rfl,h8⟩
     · intro I1 hf le1;refine yR [29,30] rfl ?_;have h3:=h3.mono le1;refine xK rfl rfl h3 hy2 ?_;intro ad1 ccs1 hat1 hrep1;obtain ⟨p9,c8,rfl,h9⟩:=zDL hrep1;exact yK [] iR ⟨_,_,_,rfl,rfl,hat1,h9⟩
     · rintro I1 hf le1 _ _ ⟨ad1,p9,c8,rfl,rfl,hat1,h9⟩;exact yR [31] rfl<|xF 0 hat1 [vS p9 x1.reads c8,vI x1.write] (vA [vS p9 x1.reads c8,vI x1.write]) rfl<|yK [] iR ⟨_,_,rfl,rfl,h9⟩
     rintro I1 hf le1 _ _ ⟨p81,c71,rfl,rfl,h81⟩ _ _ ⟨p91,c81,rfl,rfl,h91⟩;refine yR [28,32] rfl ?_;have H:=iS I1;refine gF (zGH x x1 _ hy3 h81 h91) ?_;intro I01 le1;have H:=H.trans le1;exact xE H
   intro I02 le2;refine yR [3,4,5,6,33] rfl ?_;have ⟨h6,h3,H⟩:=m3 le2 h6 h3 H;refine yI [] [7] rfl<|wH [35] rfl<|zI ?_;obtain ⟨o0,ho0,hMc⟩:=zB N;refine qA (fun I' hs' m'=>∃ (out4:List yH) (p10:Option Addr) (c9:Nat) (cs4:List Value),o0=out4∧I02.le I'∧(RL I' cs4 out4)∧hs'=[hO yH (vS p10 out4 c9) cs4]∧m'=[(3,vS p10 out4 c9),(4,vS p3 y c2),(5,vI i),(6,vI k0)]) ?_ ?_
   · have H:=iS I02;refine yC ho0 ?_ ?_
     · intro hc2 N;refine zK<|yE 5 [] [36,40] rfl<|uN [vI i,vI k0,vI y1] yH ?_;intro b2 hb2;have h12:RL I02 [vI i,vI k0,vI y1] ([(yH.mk i k0 y1)]:List yH):=⟨[vI i,vI k0,vI y1],_,rfl,rfl,(zDK rfl),rfl⟩;obtain ⟨out5,hy4,N⟩:=zB N;exact rX 74 3 1 rfl rfl rfl h6 (.inr ⟨0,rfl⟩) h12 hy4 fun p11 c10 cs5 h13=>sK (zX [1] (hs':=[hO yH (vS p11 out5 c10) cs5]))<|yI [] [3] rfl<|yN<|zT ⟨_,_,_,_,(zC N).symm,H,h13,rfl,rfl⟩
     intro hc2 N;exact zS<|yN<|zT ⟨_,_,_,_,(zC N).symm,H,h6,rfl,rfl⟩
   rintro I03 hs2 m2 ⟨out4,p10,c9,cs4,heq,le3,h11,rfl,rfl⟩;subst o0;have ⟨h3,H⟩:=m2 le3 h3 H;exact zO<|zI<|zK<|yI [] [6] rfl<|yO<|nF<|ih out4 (W (k0 + 1)) _ hMc H h3 h11 hg ho hx
 intro hc1 N;exact wJ<|yN<|hx _ _ _ _ _ (zC N).symm H h6
def oQ (y:(List xI)) (out:List yH) (i:Int):Option (List yH):=do
 if (decide (i < (y.length:Int))) then
  let out3←oO y i out (W (i + 1))
  oQ y out3 (W (i + 1))
 else
  pure (id out)
 partial_fixpoint
theorem zEa (y:(List xI)):∀ (out:List yH) (i:Int) (o:List yH),oQ y out i=some o→∀ {B}{I0 I:Imm}{Q p3 c2 p4 c3 cs},I0.le I→(S4 I p3 y c2)→(RL I cs out)→NG Q→NO Q→(∀ (I':Imm) (out1:List yH) (p5:Option Addr) (c4:Nat) (cs1:List Value),o=out1→I0.le I'→(RL I' cs1 out1)→T 44 B Q (.exit 0) I' [hO yH (vS p5 out1 c4) cs1] [(3,vS p5 out1 c4)])→J Tryz.prog 44 B (nav (bodyOf Tryz.f147) [1,1,1,0,1,0]) Q I [hO yH (vS p4 out c3) cs] [(3,vS p4 out c3),(4,vS p3 y c2),(5,vI i)]:=by
 refine oQ.partial_correctness y _ fun self ih out i o N B I0 I Q p3 c2 p4 c3 cs H h3 h4 hg ho hx=>yQ hg ho<|zZ<|yF [14] rfl<|zI<|yC N ?_ ?_
 · intro hc N;refine zS<|zY<|yG<|yF [6] rfl<|xW<|qW [(3,vS p4 out c3),(4,vS p3 y c2),(5,vI i),(6,vI (W (i + 1)))] ?_;obtain ⟨o01,ho01,hMl⟩:=zB N;refine zE9 y i out (W (i + 1)) o01 ho01 iR h3 h4 (fun _ _ _ h=>hg _ _ _ h) (fun _ _ h=>ho _ _ h) ?_;intro I04 out3 p7 c6 cs3 heq1 le4 h7;subst o01;have ⟨h3,H⟩:=m2 le4 h3 H;exact zR<|zO<|zI<|zK<|yI [] [5] rfl<|yO<|nF<|ih out3 (W (i + 1)) _ hMl H h3 h7 hg ho hx
 intro hc N;exact wJ<|yN<|hx _ _ _ _ _ (zC N).symm H h4
def fN (p:zD):Option ((List yH)):=do
 let y←kR p
 let out1←oQ y ([]:List yH) 0
 pure (id out1)
theorem zHB:∀ p r,fN p=some r→∀ {I:Imm}{p1 c p2 c1},(S4 I p1 p.Arrays c)→(S4 I p2 p.Parts c1)→RT 147 [vA (cProg p p1 c p2 c1)] I [] (eU  r):=by
 intro p r N I p1 c p2 c1 h h1;unfold fN at N;refine yL Tryz.func147 fun B=>yD<|tS (cProg p p1 c p2 c1) ?_;intro b hb;refine wI [] []<|yX<|uN [] yH ?_;intro b1 hb1;have h2:RL I [] ([]:List yH):=rfl;refine yI [] [3] rfl<|yX<|qL 1 [1] [(9,vA (cProg p p1 c p2 c1))]<|bE N fun y hy N=>xP (zHA p _ hy h h1) ?_;rintro I0 hs2 v2 k2 le - ⟨v0,rfl,rfl,h3⟩ -;have ⟨h2,h⟩:=m2 le h2 h;obtain ⟨p3,c2,rfl⟩:=h3.form;refine yI [] [4] rfl<|zY<|yF [5] rfl<|xW<|jG (zX [0] (hs':=[hO yH (vS (some ⟨b1,0,none⟩) ([]:List yH) 0) []]))<|qW [(3,vS (some ⟨b1,0,none⟩) ([]:List yH) 0),(4,vS p3 y c2),(5,vI 0)] ?_;obtain ⟨o02,ho02,hMl1⟩:=zB N;refine zEa y ([]:List yH) 0 o02 ho02 iR h3 h2 (fun _ _ _ h=>h) (fun _ _ h=>h) ?_;intro I05 out1 p5 c4 cs1 heq2 le5 h5;subst o02;refine zR<|wH [2] rfl<|xG<|yV 0 rfl ?_;intro I06 le6 hl0;have h14:=SL.of_frozen hl0 le6 h5;obtain rfl:=zC hMl1;exact xA ⟨_,_,(.tmp rfl ResV.nil),zQ,⟨_,rfl,rfl,h14⟩⟩
def oR (a0:(List Int)) (b:(List Int)) (i:Int):Option (Out Unit (Bool)):=do
 if (decide (i < (a0.length:Int))) then
  let x←idx a0 i
  let x1←idx b i
  if (x != x1) then
   pure (.ret false)
  else
   oR a0 b (W (i + 1))
 else
  pure (.done ())
 partial_fixpoint
theorem zEb (a0:(List Int)) (b:(List Int)):∀ (i:Int) (o:Out Unit (Bool)),oR a0 b i=some o→∀ {B}{I0 I:Imm}{Q p c p1 c1},I0.le I→(S4 I p a0 c)→(S4 I p1 b c1)→NG Q→NO Q→(∀ (I':Imm) ,o=(.done ())→I0.le I'→T 26 B Q (.exit 0) I' [] [])→(∀ r I' hs' m',o=(.ret r)→I0.le I'→RS Tryz.prog Tryz.f195 B (zU  r) I' hs' m'→T 26 B Q .ret I' hs' m')→J Tryz.prog 26 B (nav (bodyOf Tryz.f195) [1,1,0,1,0]) Q I [] [(0,vS p a0 c),(1,vS p1 b c1),(5,vI i)]:=by
 refine oR.partial_correctness a0 b _ fun self ih i o N B I0 I Q p c p1 c1 H h h1 hg ho hx hr=>yQ hg ho<|zZ<|yF [14] rfl<|zI<|yC N ?_ ?_
 · intro hc1 N;refine zS<|zY<|yG<|zZ<|kF (by kernel_rfl) (by kernel_rfl)<|fX 2 [] [17,18] rfl<|bE N fun x hy N=>dK rfl rfl h hy ?_;intro ad ccs hat hrep;obtain rfl:=hrep;refine fZ 0 hat [vI x] (vI x) rfl<|fX 6 [] [21,22] rfl<|bE N fun x1 hy1 N=>dK rfl rfl h1 hy1 ?_;intro ad1 ccs1 hat1 hrep1;obtain rfl:=hrep1;refine fZ 0 hat1 [vI x1] (vI x1) rfl<|zGg [] [25] rfl<|zI<|yC N ?_ ?_
   · intro hc2 N;exact vJ [(4,vF)]<|xG<|zV<|zG<|zG<|hr _ _ _ _ (zC N).symm H ⟨_,_,(.tmp rfl ResV.nil),zQ,⟨_,rfl,rfl,rfl⟩⟩
   intro hc2 N;exact zS<|zO<|zI<|zK<|yI [] [5] rfl<|yO<|nF<|ih (W (i + 1)) _ N H h h1 hg ho hx hr
 intro hc1 N;exact wJ<|yN<|hx _  (zC N).symm H
def fO (a0:(List Int)) (b:(List Int)):Option (Bool):=do
 if ((a0.length:Int) != (b.length:Int)) then
  pure false
 else
  match←oR a0 b 0 with
  | .ret r0=>pure r0
  | .done _ =>
   pure true
theorem zHC:∀ a0 b r,fO a0 b=some r→∀ {I:Imm}{p c p1 c1},(S4 I p a0 c)→(S4 I p1 b c1)→RT 195 [vS p a0 c,vS p1 b c1] I [] (zU  r):=by
 intro a0 b r N I p c p1 c1 h h1;unfold fO at N;refine yL Tryz.func195 fun B=>vJ []<|zY<|yF [10] rfl<|zI<|yC N ?_ ?_
 · intro hc N;refine vJ [(4,vF)]<|xG<|zG ?_;obtain rfl:=zC N;exact wM
 intro hc N;refine zS<|zY<|yF [5] rfl<|xW<|qW [(0,vS p a0 c),(1,vS p1 b c1),(5,vI 0)] ?_;obtain ⟨o0,ho0,hMl⟩:=zB N;refine zEb a0 b 0 o0 ho0 iR h h1 (fun _ _ _ h=>h) (fun _ _ h=>h) ?_ ?_
 · intro I0  heq le;subst o0;refine zR<|zFr [(4,vY)]<|zI<|yW ?_;obtain rfl:=zC hMl;exact wM
 intro r0 I9 hs9 m9 heq9 le9 hrs9;subst heq9;refine zV<|zG ?_;obtain rfl:=zC hMl;exact xA hrs9
def rW (p:(List Int)) (q:(List Int)) (i:Int):Option (Out Unit (Bool)):=do
 let t15←(do
   if (decide (i < (p.length:Int))) then
    pure (decide (i < (q.length:Int)))
   else
    pure false
     : Option Bool)
 if t15 then
  let x←idx p i
  let x1←idx q i
  if (x != x1) then
   let x2←idx p i
   let x3←idx q i
   pure (.ret (decide (x2 < x3)))
  else
   rW p q (W (i + 1))
 else
  pure (.done ())
 partial_fixpoint
theorem zDh (p:(List Int)) (q:(List Int)):∀ (i:Int) (o:Out Unit (Bool)),rW p q i=some o→∀ {B}{I0 I:Imm}{Q p1 c p2 c1},I0.le I→(S4 I p1 p c)→(S4 I p2 q c1)→NG Q→NO Q→(∀ (I':Imm) ,o=(.done ())→I0.le I'→T 41 B Q (.exit 0) I' [] [(0,vS p1 p c),(1,vS p2 q c1)])→(∀ r I' hs' m',o=(.ret r)→I0.le I'→RS Tryz.prog Tryz.f196 B (zU  r) I' hs' m'→T 41 B Q .ret I' hs' m')→J Tryz.prog 41 B (nav (bodyOf Tryz.f196) [1,0,1,0]) Q I [] [(0,vS p1 p c),(1,vS p2 q c1),(5,vI i)]:=by
 refine rW.partial_correctness p q _ fun self ih i o N B I0 I Q p1 c p2 c1 H h h1 hg ho hx hr=>yQ hg ho<|zZ<|zZ ?_;refine wT N [] (fun t15=>[(0,vS p1 p c),(1,vS p2 q c1),(5,vI i),(15,.bool t15)]) (fun o0 ho0=>?_) ?_
 · have H:=iS I;refine zK<|yE 5 [] [10] rfl<|xZ [10] ho0 ?_ ?_
   · intro hc N;exact yI [] [15] rfl<|yN<|zT (ct N H)
   intro hc N;exact wI [] [(15,vF)]<|yN<|zT (ct N H)
 intro t15 I0 le hMc;have ⟨h,h1,H⟩:=m3 le h h1 H;refine zI<|yC hMc ?_ ?_
 · intro hc1 N;refine zS<|zY<|yG<|zZ<|kF (by kernel_rfl) (by kernel_rfl)<|fX 2 [] [18,19] rfl<|bE N fun x hy N=>dK rfl rfl h hy ?_;intro ad ccs hat hrep;obtain rfl:=hrep;refine fZ 0 hat [vI x] (vI x) rfl<|fX 6 [] [22,23] rfl<|bE N fun x1 hy1 N=>dK rfl rfl h1 hy1 ?_;intro ad1 ccs1 hat1 hrep1;obtain rfl:=hrep1;refine fZ 0 hat1 [vI x1] (vI x1) rfl<|zGg [] [26] rfl<|zI<|yC N ?_ ?_
   · intro hc2 N;refine zZ<|kF (by kernel_rfl) (by kernel_rfl)<|fX 2 [] [27,28] rfl<|bE N fun x2 hy2 N=>dK rfl rfl h hy2 ?_;intro ad2 ccs2 hat2 hrep2;obtain rfl:=hrep2;refine fZ 0 hat2 [vI x2] (vI x2) rfl<|fX 6 [] [31,32] rfl<|bE N fun x3 hy3 N=>dK rfl rfl h1 hy3 ?_;intro ad3 ccs3 hat3 hrep3;obtain rfl:=hrep3;exact fZ 0 hat3 [vI x3] (vI x3) rfl<|zGg [] [4] rfl<|xG<|zV<|zG<|zG<|hr _ _ _ _ (zC N).symm H ⟨_,_,(.tmp rfl ResV.nil),zQ,⟨_,rfl,rfl,rfl⟩⟩
   intro hc2 N;exact zS<|zO<|zI<|zK<|yI [] [5] rfl<|yO<|nF<|ih (W (i + 1)) _ N H h h1 hg ho hx hr
 intro hc1 N;exact wJ<|yN<|hx _  (zC N).symm H
def gX (p:(List Int)) (q:(List Int)):Option (Bool):=do
 match←rW p q 0 with
 | .ret r0=>pure r0
 | .done _ =>
  pure (decide ((p.length:Int) < (q.length:Int)))
theorem zGI:∀ p q r,gX p q=some r→∀ {I:Imm}{p1 c p2 c1},(S4 I p1 p c)→(S4 I p2 q c1)→RT 196 [vS p1 p c,vS p2 q c1] I [] (zU  r):=by
 intro p q r N I p1 c p2 c1 h h1;unfold gX at N;refine yL Tryz.func196 fun B=>vJ []<|zY<|yF [5] rfl<|xW<|qW [(0,vS p1 p c),(1,vS p2 q c1),(5,vI 0)] ?_;obtain ⟨o01,ho01,hMl⟩:=zB N;refine zDh p q 0 o01 ho01 iR h h1 (fun _ _ _ h=>h) (fun _ _ h=>h) ?_ ?_
 · intro I01  heq1 le1;subst o01;refine zR<|wH [4] rfl<|zI<|yW ?_;obtain rfl:=zC hMl;exact wM
 intro r0 I9 hs9 m9 heq9 le9 hrs9;subst heq9;refine zV<|zG ?_;obtain rfl:=zC hMl;exact xA hrs9
def pT (list:(List (List Int))) (d0:(List Int)) (out:List (List Int)) (done:Bool) (i:Int):Option (Out (List (List Int)×Bool) ((List (List Int)))):=do
 if (decide (i < (list.length:Int))) then
  let x←idx list i
  let y←fO x d0
  if y then
   pure (.ret list)
  else
   let t31←(do
     if (!done) then
      let x1←idx list i
      let y1←gX d0 x1
      pure (id y1)
     else
      pure false
       : Option Bool)
   let (out2,done2)←(do
     if t31 then
      let out3←app 24 out ([d0]:List (List Int))
      pure (out3,true)
     else
      pure (out,done)
       : Option (List (List Int)×Bool))
   let x2←idx list i
   let out4←app 24 out2 ([x2]:List (List Int))
   pT list d0 out4 done2 (W (i + 1))
 else
  pure (.done (out,done))
 partial_fixpoint
theorem zF5 (list:(List (List Int))) (d0:(List Int)):∀ (out:List (List Int)) (done:Bool) (i:Int) (o:Out (List (List Int)×Bool) ((List (List Int)))),pT list d0 out done i=some o→∀ {B}{I0 I:Imm}{Q p c p1 c1 p2 c2 cs},I0.le I→(S4 I p list c)→(S4 I p1 d0 c1)→(RL I cs out)→NG Q→NO Q→(∀ (I':Imm) (out1:List (List Int)) (done1:Bool) (p3:Option Addr) (c3:Nat) (cs1:List Value),o=(.done (out1,done1))→I0.le I'→(RL I' cs1 out1)→T 50 B Q (.exit 0) I' [hO (List Int) (vS p3 out1 c3) cs1] [(1,vS p1 d0 c1),(5,vS p3 out1 c3),(6,.bool done1)])→(∀ r I' hs' m',o=(.ret r)→I0.le I'→RS Tryz.prog Tryz.f148 B (wC  r) I' hs' m'→T 50 B Q .ret I' hs' m')→J Tryz.prog 50 B (nav (bodyOf Tryz.f148) [1,1,1,0,1,0]) Q I [hO (List Int) (vS p2 out c2) cs] [(0,vS p list c),(1,vS p1 d0 c1),(5,vS p2 out c2),(6,.bool done),(7,vI i)]:=by
 refine pT.partial_correctness list d0 _ fun self ih out done i o N B I0 I Q p c p1 c1 p2 c2 cs H h h1 h3 hg ho hx hr=>yQ hg ho<|zZ<|yF [12] rfl<|zI<|yC N ?_ ?_
 · intro hc N;refine zS<|zY<|yG<|zZ<|yD<|yE 2 [] [15,16] rfl<|bE N fun x hy N=>xK rfl rfl h hy ?_;intro ad ccs hat hrep;obtain ⟨v0,rfl,h5⟩:=hrep;obtain ⟨p4,c4,rfl⟩:=h5.form;refine xF 0 hat [vS p4 x c4] (vS p4 x c4) rfl<|yE 5 [] [19] rfl<|bE N fun y hy1 N=>uH (zHC x d0 _ hy1 h5 h1) ?_;intro I0 le;have ⟨h,h1,h3,H⟩:=m4 le h h1 h3 H;refine yB rfl<|zI<|yC N ?_ ?_
   · intro hc1 N;exact yF [4] rfl<|xG<|zG<|zV<|zG<|zG<|hr _ _ _ _ (zC N).symm H ⟨_,_,(.tmp rfl ResV.nil),zQ,⟨_,rfl,rfl,h⟩⟩
   intro hc1 N;refine zS<|zY<|zZ ?_;refine wT N [hO (List Int) (vS p2 out c2) cs] (fun t31=>[(0,vS p list c),(1,vS p1 d0 c1),(5,vS p2 out c2),(6,.bool done),(7,vI i),(31,.bool t31)]) (fun o0 ho0=>?_) ?_
   · have H:=iS I0;refine zK<|yE 3 [] [24] rfl<|xZ [24] ho0 ?_ ?_
     · intro hc2 N;refine yE 6 [] [25,26,27] rfl<|bE N fun x1 hy2 N=>xK rfl rfl h hy2 ?_;intro ad1 ccs1 hat1 hrep1;obtain ⟨v02,rfl,h7⟩:=hrep1;obtain ⟨p5,c5,rfl⟩:=h7.form;refine xF 0 hat1 [vS p5 x1 c5] (vS p5 x1 c5) rfl<|bE N fun y1 hy3 N=>uH (zGI d0 x1 _ hy3 h1 h7) ?_;intro I02 le1;have H:=H.trans le1;exact yI [] [31] rfl<|yN<|zT (ct N H)
     intro hc2 N;exact wI [] [(31,vF)]<|yN<|zT (ct N H)
   intro t31 I01 le2 hMc;have ⟨h,h1,h3,H⟩:=m4 le2 h h1 h3 H;refine zI ?_;obtain ⟨o01,ho01,hMc1⟩:=zB hMc;refine qA (fun I' hs' m'=>∃ (out2:List (List Int)) (done2:Bool) (p6:Option Addr) (c6:Nat) (cs2:List Value),o01=(out2,done2)∧I01.le I'∧(RL I' cs2 out2)∧hs'=[hO (List Int) (vS p6 out2 c6) cs2]∧m'=[(0,vS p list c),(1,vS p1 d0 c1),(5,vS p6 out2 c6),(6,.bool done2),(7,vI i)]) ?_ ?_
   · have H:=iS I01;refine yC ho01 ?_ ?_
     · intro hc3 N;refine yD<|yE 2 [] [32,33] rfl<|uN [vS p1 d0 c1] (List Int) ?_;intro b1 hb1;have h10:RL I01 [vS p1 d0 c1] ([d0]:List (List Int)):=⟨[vS p1 d0 c1],_,rfl,rfl,⟨_,rfl,h1⟩,rfl⟩;obtain ⟨out3,hy4,N⟩:=zB N;exact rX 29 1 1 rfl rfl rfl h3 (.inr ⟨0,rfl⟩) h10 hy4 fun p7 c7 cs3 h11=>sK (zX [1] (hs':=[hO (List Int) (vS p7 out3 c7) cs3]))<|yI [] [5] rfl<|zI<|zK<|wI [] [(6,vY)]<|yN<|zT ⟨_,_,_,_,_,(zC N).symm,H,h11,rfl,rfl⟩
     intro hc3 N;exact zS<|yN<|zT ⟨_,_,_,_,_,(zC N).symm,H,h3,rfl,rfl⟩
   rintro I03 hs2 m2 ⟨out2,done2,p6,c6,cs2,heq1,le3,h9,rfl,rfl⟩;subst o01;have ⟨h,h1,H⟩:=m3 le3 h h1 H;refine zI<|zK<|yE 3 [] [36,37,38] rfl ?_;obtain ⟨x2,hy5,N⟩:=zB hMc1;refine xK rfl rfl h hy5 ?_;intro ad2 ccs2 hat2 hrep2;obtain ⟨v04,rfl,h12⟩:=hrep2;obtain ⟨p8,c8,rfl⟩:=h12.form;refine xF 0 hat2 [vS p8 x2 c8] (vS p8 x2 c8) rfl<|uN [vS p8 x2 c8] (List Int) ?_;intro b2 hb2;have h13:RL I03 [vS p8 x2 c8] ([x2]:List (List Int)):=⟨[vS p8 x2 c8],_,rfl,rfl,⟨_,rfl,h12⟩,rfl⟩;obtain ⟨out4,hy6,N⟩:=zB N;exact rX 29 1 1 rfl rfl rfl h9 (.inr ⟨0,rfl⟩) h13 hy6 fun p9 c9 cs4 h14=>sK (zX [1] (hs':=[hO (List Int) (vS p9 out4 c9) cs4]))<|yI [] [5] rfl<|zO<|zI<|zK<|yI [] [7] rfl<|yO<|nF<|ih out4 done2 (W (i + 1)) _ N H h h1 h14 hg ho hx hr
 intro hc N;exact wJ<|yN<|hx _ _ _ _ _ _ (zC N).symm H h3
def eN (list:(List (List Int))) (d0:(List Int)):Option ((List (List Int))):=do
 match←pT list d0 ([]:List (List Int)) false 0 with
 | .ret r0=>pure r0
 | .done (out1,done1) =>
  let out5←(do
    if (!done1) then
     let out6←app 24 out1 ([d0]:List (List Int))
     pure (id out6)
    else
     pure (id out1)
      : Option (List (List Int)))
  pure (id out5)
theorem zHa:∀ list d0 r,eN list d0=some r→∀ {I:Imm}{p c p1 c1},(S4 I p list c)→(S4 I p1 d0 c1)→RT 148 [vS p list c,vS p1 d0 c1] I [] (wC  r):=by
 intro list d0 r N I p c p1 c1 h h1;unfold eN at N;refine yL Tryz.func148 fun B=>?_;have H:=iS I;refine vJ []<|yX<|uN [] (List Int) ?_;intro b hb;have h2:RL I [] ([]:List (List Int)):=rfl;refine yI [] [5] rfl<|zFr [(6,vF)]<|zY<|yF [7] rfl<|xW<|qW [(0,vS p list c),(1,vS p1 d0 c1),(5,vS (some ⟨b,0,none⟩) ([]:List (List Int)) 0),(6,vF),(7,vI 0)] ?_;obtain ⟨o02,ho02,hMl⟩:=zB N;refine zF5 list d0 ([]:List (List Int)) false 0 o02 ho02 iR h h1 h2 (fun _ _ _ h=>h) (fun _ _ h=>h) ?_ ?_
 · intro I04 out1 done1 p3 c3 cs1 heq2 le4 h4;subst o02;have ⟨h1,H⟩:=m2 le4 h1 H;refine zR<|zY<|yF [44] rfl<|zI ?_;obtain ⟨o03,ho03,hMc2⟩:=zB hMl;refine qA (fun I' hs' m'=>∃ (out5:List (List Int)) (p10:Option Addr) (c10:Nat) (cs5:List Value),o03=out5∧I04.le I'∧(RL I' cs5 out5)∧hs'=[hO (List Int) (vS p10 out5 c10) cs5]∧m'=[(5,vS p10 out5 c10)]) ?_ ?_
   · have H:=iS I04;refine yC ho03 ?_ ?_
     · intro hc4 N;refine zK<|yE 2 [] [45,46] rfl<|uN [vS p1 d0 c1] (List Int) ?_;intro b3 hb3;have h16:RL I04 [vS p1 d0 c1] ([d0]:List (List Int)):=⟨[vS p1 d0 c1],_,rfl,rfl,⟨_,rfl,h1⟩,rfl⟩;obtain ⟨out6,hy7,N⟩:=zB N;exact rX 29 1 1 rfl rfl rfl h4 (.inr ⟨0,rfl⟩) h16 hy7 fun p11 c11 cs6 h17=>sK (zX [1] (hs':=[hO (List Int) (vS p11 out6 c11) cs6]))<|yI [] [5] rfl<|yN<|zT ⟨_,_,_,_,(zC N).symm,H,h17,rfl,rfl⟩
     intro hc4 N;exact zS<|yN<|zT ⟨_,_,_,_,(zC N).symm,H,h4,rfl,rfl⟩
   rintro I05 hs2 m2 ⟨out5,p10,c10,cs5,heq3,le5,h15,rfl,rfl⟩;subst o03;refine wH [4] rfl<|xG<|yV 0 rfl ?_;intro I06 le6 hl0;have h18:=SL.of_frozen hl0 le6 h15;obtain rfl:=zC hMc2;exact xA ⟨_,_,(.tmp rfl ResV.nil),zQ,⟨_,rfl,rfl,h18⟩⟩
 intro r0 I9 hs9 m9 heq9 le9 hrs9;subst heq9;refine zV<|zG ?_;obtain rfl:=zC hMl;exact xA hrs9
def pL (a0:(List Int)) (b:(List Int)) (out:List Int) (i:Int):Option (List Int):=do
 if (decide (i < (a0.length:Int))) then
  let x←idx a0 i
  let x1←idx b i
  let out2←app 8 out ([(W (x - x1))]:List Int)
  pL a0 b out2 (W (i + 1))
 else
  pure (id out)
 partial_fixpoint
theorem zDi (a0:(List Int)) (b:(List Int)):∀ (out:List Int) (i:Int) (o:List Int),pL a0 b out i=some o→∀ {B}{I0 I:Imm}{Q p c p1 c1 p2 c2 cs},I0.le I→(S4 I p a0 c)→(S4 I p1 b c1)→(RL I cs out)→NG Q→NO Q→(∀ (I':Imm) (out1:List Int) (p3:Option Addr) (c3:Nat) (cs1:List Value),o=out1→I0.le I'→(RL I' cs1 out1)→T 27 B Q (.exit 0) I' [hO Int (vS p3 out1 c3) cs1] [(5,vS p3 out1 c3)])→J Tryz.prog 27 B (nav (bodyOf Tryz.f149) [1,1,0,1,0]) Q I [hO Int (vS p2 out c2) cs] [(0,vS p a0 c),(1,vS p1 b c1),(5,vS p2 out c2),(6,vI i)]:=by
 refine pL.partial_correctness a0 b _ fun self ih out i o N B I0 I Q p c p1 c1 p2 c2 cs H h h1 h3 hg ho hx=>yQ hg ho<|zZ<|yF [11] rfl<|zI<|yC N ?_ ?_
 · intro hc N;refine zS<|zY<|yG ?_;obtain ⟨x,hy,N⟩:=zB N;obtain ⟨x1,hy1,N⟩:=zB N;obtain ⟨out2,hy2,N⟩:=zB N;refine wK [.p (vS p2 out c2) [],.p (vS p a0 c) [],.p (vI i) [],.x (fun I' v hx=>∃ ad,v=.pointer (some ad)∧hx=[]∧(At I' ad [vI x])),.q (vI x),.p (vS p1 b c1) [],.p (vI i) [],.x (fun I' v hx=>∃ ad1,v=.pointer (some ad1)∧hx=[]∧(At I' ad1 [vI x1])),.q (vI x1),.p (vI (W (x - x1))) [],.x (fun I' v hx=>∃ b2,v=vS (some ⟨b2,0,none⟩) ([(W (x - x1))]:List Int) 1∧hx=[]∧(SL I' (vS (some ⟨b2,0,none⟩) ([(W (x - x1))]:List Int) 1) ([(W (x - x1))]:List Int))),.x (fun I' v hx=>∃ p4 c4 cs2,v=vS p4 out2 c4∧hx=[hO Int (vS p4 out2 c4) cs2]∧(RL I' cs2 out2))] [[],[],[],[(1,false),(2,false)],[(3,false)],[],[],[(5,false),(6,false)],[(7,false)],[(4,false),(8,false)],[(9,false)],[(0,false),(10,false),(13,true)]] [] [[hO Int (vS p2 out c2) cs]] [(11,true)] (zX [0]) ?_ ?_
   · refine Op<|Op<|Op<|Ox ?_<|Oq ?_<|Op<|Op<|Ox ?_<|Oq ?_<|Op<|Ox ?_<|Ox ?_<|On
     · intro I1 hf le1;refine yR [15,16] rfl ?_;have h:=h.mono le1;refine xK rfl rfl h hy ?_;intro ad ccs hat hrep;obtain rfl:=hrep;exact yK [] iR ⟨_,rfl,rfl,hat⟩
     · rintro I1 hf le1 _ _ ⟨ad,rfl,rfl,hat⟩;exact yR [17] rfl<|xF 0 hat [vI x] (vI x) rfl<|xE iR
     · intro I1 hf le1;refine yR [19,20] rfl ?_;have h1:=h1.mono le1;refine xK rfl rfl h1 hy1 ?_;intro ad1 ccs1 hat1 hrep1;obtain rfl:=hrep1;exact yK [] iR ⟨_,rfl,rfl,hat1⟩
     · rintro I1 hf le1 _ _ ⟨ad1,rfl,rfl,hat1⟩;exact yR [21] rfl<|xF 0 hat1 [vI x1] (vI x1) rfl<|xE iR
     · intro I1 hf le1;refine yR [23] rfl ?_;have H:=iS I1;refine nH (rI [(W (x - x1))]) ?_;intro b2 I0 le h6;have H:=H.trans le;exact yK [] H ⟨_,rfl,rfl,h6⟩
     rintro I1 hf le1 _ _ ⟨rfl,rfl⟩ _ _ ⟨b2,rfl,rfl,h6⟩ _ _ rfl;refine yR [14,24] rfl ?_;have h3:=iM le1 h3;obtain ⟨ccs2,k0,k01⟩:=h6;have h6:SL I1 (vS (some ⟨b2,0,none⟩) ([(W (x - x1))]:List Int) 1) ([(W (x - x1))]:List Int):=⟨_,k0,k01⟩;exact rX 3 1 0 rfl rfl rfl h3 (.inl k0) k01 hy2 fun p4 c4 cs2 h7=>vK (hs':=(hO Int (vS p4 out2 c4) cs2::hf)) rfl<|yK [hO Int (vS p4 out2 c4) cs2] iR ⟨_,_,_,rfl,rfl,h7⟩
   rintro I01 le1 _ _ ⟨p4,c4,cs2,rfl,rfl,h7⟩;refine yR [0,1,6,25] rfl ?_;have ⟨h,h1,H⟩:=m3 le1 h h1 H;exact yI [] [5] rfl<|zO<|zI<|zK<|yI [] [6] rfl<|yO<|nF<|ih out2 (W (i + 1)) _ N H h h1 h7 hg ho hx
 intro hc N;exact wJ<|yN<|hx _ _ _ _ _ (zC N).symm H h3
def gY (a0:(List Int)) (b:(List Int)):Option ((List Int)):=do
 let out1←pL a0 b ([]:List Int) 0
 pure (id out1)
theorem zGJ:∀ a0 b r,gY a0 b=some r→∀ {I:Imm}{p c p1 c1},(S4 I p a0 c)→(S4 I p1 b c1)→RT 149 [vS p a0 c,vS p1 b c1] I [] (dA  r):=by
 intro a0 b r N I p c p1 c1 h h1;unfold gY at N;refine yL Tryz.func149 fun B=>vJ []<|yX<|uN [] Int ?_;intro b1 hb;have h2:RL I [] ([]:List Int):=rfl;refine yI [] [5] rfl<|zY<|yF [6] rfl<|xW<|qW [(0,vS p a0 c),(1,vS p1 b c1),(5,vS (some ⟨b1,0,none⟩) ([]:List Int) 0),(6,vI 0)] ?_;obtain ⟨o0,ho0,hMl⟩:=zB N;refine zDi a0 b ([]:List Int) 0 o0 ho0 iR h h1 h2 (fun _ _ _ h=>h) (fun _ _ h=>h) ?_;intro I02 out1 p3 c3 cs1 heq le2 h4;subst o0;refine zR<|wH [4] rfl<|xG<|yV 0 rfl ?_;intro I03 le3 hl01;have h8:=SL.of_frozen hl01 le3 h4;obtain rfl:=zC hMl;exact xA ⟨_,_,(.tmp rfl ResV.nil),zQ,⟨_,rfl,rfl,h8⟩⟩
def uO (part:Int) (y:(List zL)) (y1:(List yH)) (out:List (List Int)) (i:Int):Option (List (List Int)):=do
 if (decide (i < (y1.length:Int))) then
  let x←idx y1 i
  let x1←idx y x.From
  let x2←idx y1 i
  let x3←idx y x2.To
  let t47←(do
    if (x1.Part == part) then
     pure (x3.Part == part)
    else
     pure false
      : Option Bool)
  let out2←(do
    if t47 then
     let y2←gY x3.Point x1.Point
     let y3←eN out y2
     pure (id y3)
    else
     pure (id out)
      : Option (List (List Int)))
  uO part y y1 out2 (W (i + 1))
 else
  pure (id out)
 partial_fixpoint
theorem zBk (part:Int) (y:(List zL)) (y1:(List yH)):∀ (out:List (List Int)) (i:Int) (o:List (List Int)),uO part y y1 out i=some o→∀ {B}{I0 I:Imm}{Q p3 c2 p4 c3 p5 c4},I0.le I→(S4 I p3 y c2)→(S4 I p4 y1 c3)→(S4 I p5 out c4)→NG Q→NO Q→(∀ (I':Imm) (out1:List (List Int)) (p6:Option Addr) (c5:Nat),o=out1→I0.le I'→(S4 I' p6 out1 c5)→T 56 B Q (.exit 0) I' [] [(5,vS p6 out1 c5)])→J Tryz.prog 56 B (nav (bodyOf Tryz.f87) [1,1,1,1,0,1,0]) Q I [] [(1,vI part),(5,vS p5 out c4),(6,vS p3 y c2),(7,vS p4 y1 c3),(8,vI i)]:=by
 refine uO.partial_correctness part y y1 _ fun self ih out i o N B I0 I Q p3 c2 p4 c3 p5 c4 H h3 h4 h6 hg ho hx=>yQ hg ho<|zZ<|yF [19] rfl<|zI<|yC N ?_ ?_
 · intro hc N;refine zS<|zY<|yG<|yD<|yE 3 [] [22,23,24] rfl<|bE N fun x hy2 N=>xK rfl rfl h4 hy2 ?_;intro ad ccs hat hrep;obtain rfl:=zAo hrep;refine yE 5 [] [26] rfl<|xF 0 hat [vI x.From] (vI x.From) rfl<|bE N fun x1 hy3 N=>xK rfl rfl h3 hy3 ?_;intro ad1 ccs1 hat1 hrep1;obtain ⟨p7,c6,rfl,h8⟩:=qS hrep1;refine xF 0 hat1 (cInst x1 p7 c6) (vA (cInst x1 p7 c6)) rfl<|wY [vI 0,vI 0,z0] ?_;intro b2 hb2;refine xJ 0 (cInst x1 p7 c6) rfl<|yB rfl<|yX<|yE 3 [] [30,31,32] rfl<|bE N fun x2 hy4 N=>xK rfl rfl h4 hy4 ?_;intro ad2 ccs2 hat2 hrep2;obtain rfl:=zAo hrep2;refine yE 5 [] [34] rfl<|xF 1 hat2 [vI x2.To] (vI x2.To) rfl<|bE N fun x3 hy5 N=>xK rfl rfl h3 hy5 ?_;intro ad3 ccs3 hat3 hrep3;obtain ⟨p8,c7,rfl,h9⟩:=qS hrep3;refine xF 0 hat3 (cInst x3 p8 c7) (vA (cInst x3 p8 c7)) rfl<|wY [vI 0,vI 0,z0] ?_;intro b3 hb3;refine xJ 0 (cInst x3 p8 c7) rfl<|yB rfl<|zI<|zZ ?_;refine wT N [hB b3 (cInst x3 p8 c7),hB b2 (cInst x1 p7 c6)] (fun t47=>[(1,vI part),(5,vS p5 out c4),(6,vS p3 y c2),(7,vS p4 y1 c3),(8,vI i),(9,vP b2 0),(10,vP b3 0),(47,.bool t47)]) (fun o0 ho0=>?_) ?_
   · have H:=iS I;refine zK<|yE 5 [1] [42] rfl<|xZ [42] ho0 ?_ ?_
     · intro hc1 N;exact yI [0] [47] rfl<|yN<|zT (ct N H)
     intro hc1 N;exact wI [] [(47,vF)]<|yN<|zT (ct N H)
   intro t47 I03 le3 hMc;have ⟨h6,h3,h4,h9,h8,H⟩:=m6 le3 h6 h3 h4 h9 h8 H;refine zI ?_;obtain ⟨o01,ho01,hMc1⟩:=zB hMc;refine qA (fun I' hs' m'=>∃ (out2:List (List Int)) (p9:Option Addr) (c8:Nat),o01=out2∧I03.le I'∧(S4 I' p9 out2 c8)∧hs'=[]∧m'=[(1,vI part),(5,vS p9 out2 c8),(6,vS p3 y c2),(7,vS p4 y1 c3),(8,vI i)]) ?_ ?_
   · have H:=iS I03;refine yC ho01 ?_ ?_
     · intro hc2 N;refine zK<|yE 5 [0,1] [48,50,52] rfl<|bE N fun y2 hy6 N=>xP (zGJ x3.Point x1.Point _ hy6 h9 h8) ?_;rintro I05 hs2 v2 k2 le4 - ⟨v04,rfl,rfl,h11⟩ -;have ⟨h6,H⟩:=m2 le4 h6 H;obtain ⟨p10,c9,rfl⟩:=h11.form;obtain ⟨y3,hy7,N⟩:=zB N;refine xP (zHa out y2 _ hy7 h6 h11) ?_;rintro I06 hs2 v2 k2 le5 - ⟨v05,rfl,rfl,h12⟩ -;have H:=H.trans le5;obtain ⟨p11,c10,rfl⟩:=h12.form;exact yI [] [5] rfl<|xY zQ<|yN<|zT ⟨_,_,_,(zC N).symm,H,h12,rfl,rfl⟩
     intro hc2 N;exact zS<|xY zQ<|yN<|zT ⟨_,_,_,(zC N).symm,H,h6,rfl,rfl⟩
   rintro I04 hs2 m2 ⟨out2,p9,c8,heq1,le6,h10,rfl,rfl⟩;subst o01;have ⟨h3,h4,H⟩:=m3 le6 h3 h4 H;exact zO<|zI<|zK<|yI [] [8] rfl<|yO<|nF<|ih out2 (W (i + 1)) _ hMc1 H h3 h4 h10 hg ho hx
 intro hc N;exact wJ<|yN<|hx _ _ _ _ (zC N).symm H h6
def jV (p:zD) (part:Int):Option ((List (List Int))):=do
 let y←uM p
 let y1←fN p
 let out1←uO part y y1 ([]:List (List Int)) 0
 pure (id out1)
theorem zDC:∀ p part r,jV p part=some r→∀ {I:Imm}{p1 c p2 c1},(S4 I p1 p.Arrays c)→(S4 I p2 p.Parts c1)→RT 87 [vA (cProg p p1 c p2 c1),vI part] I [] (wC  r):=by
 intro p part r N I p1 c p2 c1 h h1;unfold jV at N;refine yL Tryz.func87 fun B=>yD<|tS (cProg p p1 c p2 c1) ?_;intro b hb;refine wI [] []<|yX<|uN [] (List Int) ?_;intro b1 hb1;have h2:RL I [] ([]:List (List Int)):=rfl;refine yI [] [5] rfl<|yX<|qL 1 [1] [(12,vA (cProg p p1 c p2 c1))]<|bE N fun y hy N=>xP (zAE p _ hy h h1) ?_;rintro I0 hs2 v2 k2 le - ⟨v0,rfl,rfl,h3⟩ -;have ⟨h2,h,h1⟩:=m3 le h2 h h1;obtain ⟨p3,c2,rfl⟩:=h3.form;refine yI [] [6] rfl<|yX<|qL 1 [1] [(14,vA (cProg p p1 c p2 c1))]<|bE N fun y1 hy1 N=>xP (zHB p _ hy1 h h1) ?_;rintro I01 hs2 v2 k2 le1 - ⟨v01,rfl,rfl,h4⟩ -;have ⟨h2,h3,h⟩:=m3 le1 h2 h3 h;obtain ⟨p4,c3,rfl⟩:=h4.form;refine yI [] [7] rfl<|zY<|yF [8] rfl<|xW<|pU 0 rfl ?_;intro I02 le2 hl0;have h5:=SL.of_frozen hl0 le2 h2;have ⟨h3,h4,h⟩:=m3 le2 h3 h4 h;refine jG (zX [] (hs':=[]))<|qW [(1,vI part),(5,vS (some ⟨b1,0,none⟩) ([]:List (List Int)) 0),(6,vS p3 y c2),(7,vS p4 y1 c3),(8,vI 0)] ?_;obtain ⟨o02,ho02,hMl⟩:=zB N;refine zBk part y y1 ([]:List (List Int)) 0 o02 ho02 iR h3 h4 h5 (fun _ _ _ h=>h) (fun _ _ h=>h) ?_;intro I07 out1 p6 c5 heq2 le7 h7;subst o02;refine zR<|wH [4] rfl<|zI<|yW ?_;obtain rfl:=zC hMl;exact xA ⟨_,_,(.tmp rfl ResV.nil),zQ,⟨_,rfl,rfl,h7⟩⟩
def jE (p:zD) (part:Int):Option ((List (List Int))):=do
 let y←vR p
 if (!y) then
  pure ([]:List (List Int))
 else
  let y1←jV p part
  pure (id y1)
theorem zEc:∀ p part r,jE p part=some r→∀ {I:Imm}{p1 c p2 c1},(S4 I p1 p.Arrays c)→(S4 I p2 p.Parts c1)→RT 37 [vA (cProg p p1 c p2 c1),vI part] I [] (wC  r):=by
 intro p part r N I p1 c p2 c1 h h1;unfold jE at N;refine yL Tryz.func37 fun B=>yD<|tS (cProg p p1 c p2 c1) ?_;intro b hb;refine wI [] []<|zY<|yD<|qL 1 [0] [(5,vA (cProg p p1 c p2 c1))]<|bE N fun y hy N=>uH (mT p _ hy h h1) ?_;intro I0 le;have ⟨h,h1⟩:=m2 le h h1;refine yI [] [7] rfl<|zI<|yC N ?_ ?_
 · intro hc N;refine yD<|uN [] (List Int) ?_;intro b1 hb1;have h3:RL I0 [] ([]:List (List Int)):=rfl;refine yI [] [4] rfl<|xG<|zG<|yV 0 rfl ?_;intro I01 le1 hl0;have h4:=SL.of_frozen hl0 le1 h3;obtain rfl:=zC N;exact xA ⟨_,_,(.tmp rfl ResV.nil),zQ,⟨_,rfl,rfl,h4⟩⟩
 intro hc N;refine zS<|yX<|qL 2 [0] [(9,vA (cProg p p1 c p2 c1)),(10,vI part)]<|bE N fun y1 hy1 N=>xP (zDC p part _ hy1 h h1) ?_;rintro I02 hs2 v2 k2 le2 - ⟨v01,rfl,rfl,h5⟩ -;obtain ⟨p3,c2,rfl⟩:=h5.form;refine yI [] [4] rfl<|zI<|yW ?_;obtain rfl:=zC N;exact xA ⟨_,_,(.tmp rfl ResV.nil),zQ,⟨_,rfl,rfl,h5⟩⟩
def sQ (d0:(List Int)) (i:Int):Option (Out Unit (Int)):=do
 if (decide (i < (d0.length:Int))) then
  let x←idx d0 i
  if (x != 0) then
   pure (.ret i)
  else
   sQ d0 (W (i + 1))
 else
  pure (.done ())
 partial_fixpoint
theorem zCF (d0:(List Int)):∀ (i:Int) (o:Out Unit (Int)),sQ d0 i=some o→∀ {B}{I0 I:Imm}{Q p c},I0.le I→(S4 I p d0 c)→NG Q→NO Q→(∀ (I':Imm) ,o=(.done ())→I0.le I'→T 16 B Q (.exit 0) I' [] [])→(∀ r I' hs' m',o=(.ret r)→I0.le I'→RS Tryz.prog Tryz.f38 B (yM  r) I' hs' m'→T 16 B Q .ret I' hs' m')→J Tryz.prog 16 B (nav (bodyOf Tryz.f38) [1,0,1,0]) Q I [] [(0,vS p d0 c),(3,vI i)]:=by
 refine sQ.partial_correctness d0 _ fun self ih i o N B I0 I Q p c H h hg ho hx hr=>yQ hg ho<|zZ<|yF [7] rfl<|zI<|yC N ?_ ?_
 · intro hc N;refine zS<|zY<|yG<|yD<|yE 2 [] [10,11] rfl<|bE N fun x hy N=>xK rfl rfl h hy ?_;intro ad ccs hat hrep;obtain rfl:=hrep;refine xF 0 hat [vI x] (vI x) rfl<|yI [] [14] rfl<|zI<|yC N ?_ ?_
   · intro hc1 N;exact yF [2] rfl<|xG<|zV<|zG<|zG<|hr _ _ _ _ (zC N).symm H ⟨_,_,(.tmp rfl ResV.nil),zQ,⟨_,rfl,rfl,rfl⟩⟩
   intro hc1 N;exact zS<|zO<|zI<|zK<|yI [] [3] rfl<|yO<|nF<|ih (W (i + 1)) _ N H h hg ho hx hr
 intro hc N;exact wJ<|yN<|hx _  (zC N).symm H
def kC (d0:(List Int)):Option (Int):=do
 match←sQ d0 0 with
 | .ret r0=>pure r0
 | .done _ =>
  pure (-1)
theorem zDj:∀ d0 r,kC d0=some r→∀ {I:Imm}{p c},(S4 I p d0 c)→RT 38 [vS p d0 c] I [] (yM  r):=by
 intro d0 r N I p c h;unfold kC at N;refine yL Tryz.func38 fun B=>vJ []<|zY<|yF [3] rfl<|xW<|qW [(0,vS p d0 c),(3,vI 0)] ?_;obtain ⟨o0,ho0,hMl⟩:=zB N;refine zCF d0 0 o0 ho0 iR h (fun _ _ _ h=>h) (fun _ _ h=>h) ?_ ?_
 · intro I0  heq le;subst o0;refine zR<|wH [2] rfl<|zI<|yW ?_;obtain rfl:=zC hMl;exact wM
 intro r0 I9 hs9 m9 heq9 le9 hrs9;subst heq9;refine zV<|zG ?_;obtain rfl:=zC hMl;exact xA hrs9
def rR (list:(List Bool)) (out:List Int) (i:Int):Option (List Int):=do
 if (decide (i < (list.length:Int))) then
  let x←idx list i
  let out2←(do
    if x then
     let out3←app 8 out ([i]:List Int)
     pure (id out3)
    else
     pure (id out)
      : Option (List Int))
  rR list out2 (W (i + 1))
 else
  pure (id out)
 partial_fixpoint
theorem zC7 (list:(List Bool)):∀ (out:List Int) (i:Int) (o:List Int),rR list out i=some o→∀ {B}{I0 I:Imm}{Q p c p1 c1 cs},I0.le I→(S4 I p list c)→(RL I cs out)→NG Q→NO Q→(∀ (I':Imm) (out1:List Int) (p2:Option Addr) (c2:Nat) (cs1:List Value),o=out1→I0.le I'→(RL I' cs1 out1)→T 21 B Q (.exit 0) I' [hO Int (vS p2 out1 c2) cs1] [(3,vS p2 out1 c2)])→J Tryz.prog 21 B (nav (bodyOf Tryz.f39) [1,1,0,1,0]) Q I [hO Int (vS p1 out c1) cs] [(0,vS p list c),(3,vS p1 out c1),(4,vI i)]:=by
 refine rR.partial_correctness list _ fun self ih out i o N B I0 I Q p c p1 c1 cs H h h2 hg ho hx=>yQ hg ho<|zZ<|yF [9] rfl<|zI<|yC N ?_ ?_
 · intro hc N;refine zS<|zY<|yG<|yD<|yE 2 [] [12,13] rfl<|bE N fun x hy N=>xK rfl rfl h hy ?_;intro ad ccs hat hrep;obtain rfl:=hrep;refine xF 0 hat [.bool x] (.bool x) rfl<|yB rfl<|zI ?_;obtain ⟨o0,ho0,hMc⟩:=zB N;refine qA (fun I' hs' m'=>∃ (out2:List Int) (p3:Option Addr) (c3:Nat) (cs2:List Value),o0=out2∧I.le I'∧(RL I' cs2 out2)∧hs'=[hO Int (vS p3 out2 c3) cs2]∧m'=[(0,vS p list c),(3,vS p3 out2 c3),(4,vI i)]) ?_ ?_
   · have H:=iS I;refine yC ho0 ?_ ?_
     · intro hc1 N;refine zK<|yE 2 [] [16,17] rfl<|uN [vI i] Int ?_;intro b1 hb1;have h5:RL I [vI i] ([i]:List Int):=rI [i];obtain ⟨out3,hy1,N⟩:=zB N;exact rX 3 1 1 rfl rfl rfl h2 (.inr ⟨0,rfl⟩) h5 hy1 fun p4 c4 cs3 h6=>sK (zX [1] (hs':=[hO Int (vS p4 out3 c4) cs3]))<|yI [] [3] rfl<|yN<|zT ⟨_,_,_,_,(zC N).symm,H,h6,rfl,rfl⟩
     intro hc1 N;exact zS<|yN<|zT ⟨_,_,_,_,(zC N).symm,H,h2,rfl,rfl⟩
   rintro I0 hs2 m2 ⟨out2,p3,c3,cs2,heq,le,h4,rfl,rfl⟩;subst o0;have ⟨h,H⟩:=m2 le h H;exact zO<|zI<|zK<|yI [] [4] rfl<|yO<|nF<|ih out2 (W (i + 1)) _ hMc H h h4 hg ho hx
 intro hc N;exact wJ<|yN<|hx _ _ _ _ _ (zC N).symm H h2
def jF (list:(List Bool)):Option ((List Int)):=do
 let out1←rR list ([]:List Int) 0
 pure (id out1)
theorem zEd:∀ list r,jF list=some r→∀ {I:Imm}{p c},(S4 I p list c)→RT 39 [vS p list c] I [] (dA  r):=by
 intro list r N I p c h;unfold jF at N;refine yL Tryz.func39 fun B=>vJ []<|yX<|uN [] Int ?_;intro b hb;have h1:RL I [] ([]:List Int):=rfl;refine yI [] [3] rfl<|zY<|yF [4] rfl<|xW<|qW [(0,vS p list c),(3,vS (some ⟨b,0,none⟩) ([]:List Int) 0),(4,vI 0)] ?_;obtain ⟨o01,ho01,hMl⟩:=zB N;refine zC7 list ([]:List Int) 0 o01 ho01 iR h h1 (fun _ _ _ h=>h) (fun _ _ h=>h) ?_;intro I01 out1 p2 c2 cs1 heq1 le1 h3;subst o01;refine zR<|wH [2] rfl<|xG<|yV 0 rfl ?_;intro I02 le2 hl0;have h7:=SL.of_frozen hl0 le2 h3;obtain rfl:=zC hMl;exact xA ⟨_,_,(.tmp rfl ResV.nil),zQ,⟨_,rfl,rfl,h7⟩⟩
def tE (y:(List (List Int))) (flags1:List Bool) (i:Int):Option (List Bool):=do
 if (decide (i < (y.length:Int))) then
  let x←idx y i
  let y1←kC x
  let flags3←(do
    if (decide (y1 ≥ 0)) then
     let x1←idx flags1 y1
     let l←pure (flags1.set y1.toNat true)
     pure (id l)
    else
     pure (id flags1)
      : Option (List Bool))
  tE y flags3 (W (i + 1))
 else
  pure (id flags1)
 partial_fixpoint
theorem zAx (y:(List (List Int))):∀ (flags1:List Bool) (i:Int) (o:List Bool),tE y flags1 i=some o→∀ {B}{I0 I:Imm}{Q p3 c2 p4 c3 cs1},I0.le I→(S4 I p3 y c2)→(RL I cs1 flags1)→NG Q→NO Q→(∀ (I':Imm) (flags2:List Bool) (p5:Option Addr) (c4:Nat) (cs2:List Value),o=flags2→I0.le I'→(RL I' cs2 flags2)→T 31 B Q (.exit 0) I' [hO Bool (vS p5 flags2 c4) cs2] [(5,vS p5 flags2 c4)])→J Tryz.prog 31 B (nav (bodyOf Tryz.f13) [1,1,1,0,1,0]) Q I [hO Bool (vS p4 flags1 c3) cs1] [(5,vS p4 flags1 c3),(6,vS p3 y c2),(7,vI i)]:=by
 refine tE.partial_correctness y _ fun self ih flags1 i o N B I0 I Q p3 c2 p4 c3 cs1 H h3 h4 hg ho hx=>yQ hg ho<|zZ<|yF [16] rfl<|zI<|yC N ?_ ?_
 · intro hc N;refine zS<|zY<|yG<|yD<|yE 2 [] [19,20] rfl<|bE N fun x hy2 N=>xK rfl rfl h3 hy2 ?_;intro ad ccs hat hrep;obtain ⟨v01,rfl,h6⟩:=hrep;obtain ⟨p6,c5,rfl⟩:=h6.form;refine xF 0 hat [vS p6 x c5] (vS p6 x c5) rfl<|bE N fun y1 hy3 N=>gF (zDj x _ hy3 h6) ?_;intro I01 le1;have ⟨h4,h3,H⟩:=m3 le1 h4 h3 H;refine yI [] [8] rfl<|wH [25] rfl<|zI ?_;obtain ⟨o0,ho0,hMc⟩:=zB N;refine qA (fun I' hs' m'=>∃ (flags3:List Bool) (p7:Option Addr) (c6:Nat) (cs3:List Value),o0=flags3∧I01.le I'∧(RL I' cs3 flags3)∧hs'=[hO Bool (vS p7 flags3 c6) cs3]∧m'=[(5,vS p7 flags3 c6),(6,vS p3 y c2),(7,vI i)]) ?_ ?_
   · have H:=iS I01;refine yC ho0 ?_ ?_
     · intro hc1 N;refine zK<|yE 2 [] [26,27] rfl<|bE N fun x1 hy4 N=>nV 0 rfl rfl rfl h4 hy4 ?_;intro ad1 ccs1 hat1 hcc hrep1;obtain rfl:=hrep1;obtain ⟨l,hy5,N⟩:=zB N;refine rG (c:=[vY]) (x':=true) 0 0 rfl rfl rfl hat1 rfl rfl hcc (by kernel_rfl) (by kernel_rfl) (by kernel_rfl) h4 hy4 (by kernel_rfl) rfl ?_;rw [show flags1.set y1.toNat true=l from zC hy5];intro cs4 h9 hl0;exact mS (m':=[(5,vS p4 flags1 c3),(6,vS p3 y c2),(7,vI i),(26,vS p4 flags1 c3),(27,vI y1)]) ⟨rfl,rfl,rfl,rfl,rfl,trivial⟩<|zAN (hs':=[hO Bool (vS p4 l c3) cs4]) (m':=[(5,vS p4 l c3),(6,vS p3 y c2),(7,vI i),(26,vS p4 l c3),(27,vI y1)]) (by first | rfl | simp only [vS,hl0,List.nil_append,List.cons_append,List.set_cons_zero,List.set_cons_succ,List.eraseIdx_cons_zero,List.eraseIdx_cons_succ]) (by first | rfl | simp only [vS,hl0])<|yB rfl<|yN<|zT ⟨_,_,_,_,(zC N).symm,H,h9,rfl,rfl⟩
     intro hc1 N;exact zS<|yN<|zT ⟨_,_,_,_,(zC N).symm,H,h4,rfl,rfl⟩
   rintro I02 hs2 m2 ⟨flags3,p7,c6,cs3,heq,le2,h8,rfl,rfl⟩;subst o0;have ⟨h3,H⟩:=m2 le2 h3 H;exact zO<|zI<|zK<|yI [] [7] rfl<|yO<|nF<|ih flags3 (W (i + 1)) _ hMc H h3 h8 hg ho hx
 intro hc N;exact wJ<|yN<|hx _ _ _ _ _ (zC N).symm H h4
def nE (p:zD) (part:Int):Option ((List Int)):=do
 let flags←mkrow 1 4 (false:Bool)
 let y←jE p part
 let flags2←tE y flags 0
 let y2←jF flags2
 pure (id y2)
theorem zCG:∀ p part r,nE p part=some r→∀ {I:Imm}{p1 c p2 c1},(S4 I p1 p.Arrays c)→(S4 I p2 p.Parts c1)→RT 13 [vA (cProg p p1 c p2 c1),vI part] I [] (dA  r):=by
 intro p part r N I p1 c p2 c1 h h1;unfold nE at N;refine yL Tryz.func13 fun B=>yD<|tS (cProg p p1 c p2 c1) ?_;intro b hb;refine wI [] []<|yX<|bE N fun flags hy N=>zOT 1 [vF] rfl hy rfl fun b1 cs h2=>yI [] [5] rfl<|yX<|qL 2 [1] [(10,vA (cProg p p1 c p2 c1)),(11,vI part)]<|bE N fun y hy1 N=>xP (zEc p part _ hy1 h h1) ?_;rintro I0 hs2 v2 k2 le - ⟨v0,rfl,rfl,h3⟩ -;have ⟨h2,h⟩:=m2 le h2 h;obtain ⟨p3,c2,rfl⟩:=h3.form;refine yI [] [6] rfl<|zY<|yF [7] rfl<|xW<|jG (zX [0] (hs':=[hO Bool (vS (some ⟨b1,0,none⟩) flags flags.length) cs]))<|qW [(5,vS (some ⟨b1,0,none⟩) flags flags.length),(6,vS p3 y c2),(7,vI 0)] ?_;obtain ⟨o01,ho01,hMl⟩:=zB N;refine zAx y flags 0 o01 ho01 iR h3 h2 (fun _ _ _ h=>h) (fun _ _ h=>h) ?_;intro I03 flags2 p5 c4 cs2 heq1 le3 h5;subst o01;refine zR<|yX<|yE 1 [] [29] rfl<|xO 0 rfl ?_;intro I04 le4 hl01;have h10:=SL.of_frozen hl01 le4 h5;obtain ⟨y2,hy6,N⟩:=zB hMl;refine xP (zEd flags2 _ hy6 h10) ?_;rintro I05 hs2 v2 k2 le5 - ⟨v03,rfl,rfl,h11⟩ -;obtain ⟨p8,c7,rfl⟩:=h11.form;refine yI [] [4] rfl<|zI<|yW ?_;obtain rfl:=zC N;exact xA ⟨_,_,(.tmp rfl ResV.nil),zQ,⟨_,rfl,rfl,h11⟩⟩
def eO (p:zD) (part:Int) (loop:Int):Option (Bool):=do
 let t6←(do
   let y←vR p
   if y then
    if (decide (part ≥ 0)) then
     if (decide (part < (p.Parts.length:Int))) then
      if (decide (loop ≥ 0)) then
       let x←idx p.Parts part
       pure (decide (loop < (x.Nest.length:Int)))
      else
       pure false
     else
      pure false
    else
     pure false
   else
    pure false
     : Option Bool)
 pure (id t6)
theorem zHb:∀ p part loop r,eO p part loop=some r→∀ {I:Imm}{p1 c p2 c1},(S4 I p1 p.Arrays c)→(S4 I p2 p.Parts c1)→RT 78 [vA (cProg p p1 c p2 c1),vI part,vI loop] I [] (zU  r):=by
 intro p part loop r N I p1 c p2 c1 h h1;unfold eO at N;refine yL Tryz.func78 fun B=>?_;have H:=iS I;refine yD<|tS (cProg p p1 c p2 c1) ?_;intro b hb;refine wI [] []<|zI<|zZ ?_;refine wT N [] (fun t6=>[(6,.bool t6)]) (fun o0 ho0=>?_) ?_
 · have H:=iS I;refine zK<|qL 1 [0] [(7,vA (cProg p p1 c p2 c1))] ?_;obtain ⟨y,hy,N⟩:=zB ho0;refine uH (mT p _ hy h h1) ?_;intro I01 le;have ⟨h1,H⟩:=m2 le h1 H;refine yE 3 [] [9] rfl<|xZ [9] N ?_ ?_
   · intro hc N;refine yE 7 [] [13] rfl<|xZ [13] N ?_ ?_
     · intro hc1 N;refine yE 14 [0] [20] rfl<|xZ [20] N ?_ ?_
       · intro hc2 N;refine yE 18 [] [24] rfl<|xZ [24] N ?_ ?_
         · intro hc3 N;refine yE 22 [0] [25,27,28] rfl<|bE N fun x hy1 N=>xK rfl rfl h1 hy1 ?_;intro ad ccs hat hrep;obtain ⟨p3,c2,p4,c3,rfl,h3,h4⟩:=wL hrep;exact yE 24 [] [30] rfl<|xF 0 hat [vS p3 x.Nest c2] (vS p3 x.Nest c2) rfl<|yI [] [6] rfl<|xY zQ<|yN<|zT (ct N H)
         intro hc3 N;exact wI [] [(6,vF)]<|xY zQ<|yN<|zT (ct N H)
       intro hc2 N;exact wI [] [(6,vF)]<|xY zQ<|yN<|zT (ct N H)
     intro hc1 N;exact wI [] [(6,vF)]<|xY zQ<|yN<|zT (ct N H)
   intro hc N;exact wI [] [(6,vF)]<|xY zQ<|yN<|zT (ct N H)
 intro t6 I0 le1 hMc;refine zI<|yW ?_;obtain rfl:=zC hMc;exact wM
def kU (p:zD) (part:Int) (loop:Int):Option (Bool):=do
 let t6←(do
   let y←eO p part loop
   if y then
    let y1←nE p part
    let y2←jU y1 loop
    pure (!y2)
   else
    pure false
     : Option Bool)
 pure (id t6)
theorem zJF:∀ p part loop r,kU p part loop=some r→∀ {I:Imm}{p1 c p2 c1},(S4 I p1 p.Arrays c)→(S4 I p2 p.Parts c1)→RT 27 [vA (cProg p p1 c p2 c1),vI part,vI loop] I [] (zU  r):=by
 intro p part loop r N I p1 c p2 c1 h h1;unfold kU at N;refine yL Tryz.func27 fun B=>?_;have H:=iS I;refine yD<|tS (cProg p p1 c p2 c1) ?_;intro b hb;refine wI [] []<|zI<|zZ ?_;refine wT N [] (fun t6=>[(6,.bool t6)]) (fun o0 ho0=>?_) ?_
 · have H:=iS I;refine zK<|qL 3 [0] [(7,vA (cProg p p1 c p2 c1)),(8,vI part),(9,vI loop)] ?_;obtain ⟨y,hy,N⟩:=zB ho0;refine uH (zHb p part loop _ hy h h1) ?_;intro I01 le;have ⟨h,h1,H⟩:=m3 le h h1 H;refine yE 5 [] [11] rfl<|xZ [11] N ?_ ?_
   · intro hc N;refine qL 7 [0] [(12,vA (cProg p p1 c p2 c1)),(13,vI part)]<|bE N fun y1 hy1 N=>xP (zCG p part _ hy1 h h1) ?_;rintro I02 hs2 v2 k2 le1 - ⟨v01,rfl,rfl,h3⟩ -;have H:=H.trans le1;obtain ⟨p3,c2,rfl⟩:=h3.form;refine yE 9 [] [15] rfl<|bE N fun y2 hy2 N=>uH (zAw y1 loop _ hy2 h3) ?_;intro I03 le2;have H:=H.trans le2;exact yI [] [6] rfl<|xY zQ<|yN<|zT (ct N H)
   intro hc N;exact wI [] [(6,vF)]<|xY zQ<|yN<|zT (ct N H)
 intro t6 I0 le3 hMc;refine zI<|yW ?_;obtain rfl:=zC hMc;exact wM
end Go.LN
