/- Helper of the proof (see the last text). -/
import Derived.Test.YtpacccdphbhfbaaGreatLnA
import Derived.Test.YtpacccdphbhfbaaGreatLnI
import Derived.Test.YtpacccdphbhfbaaGreatLnO
import Derived.Test.YtpacccdphbhfbaaGreatLnZ3
import Derived.Test.YtpacccdphbhfbaaGreatTryzShelf
import Derived.Test.YtpacccdphbhfbaaGreatHM1
import Derived.Test.YtpacccdphbhfbaaGreatHM2
import Derived.Test.YtpacccdphbhfbaaGreatHM3
import Derived.Test.YtpacccdphbhfbaaGreatHM4
import Derived.Test.YtpacccdphbhfbaaGreatHM5
import Derived.Test.YtpacccdphbhfbaaGreatHM6
import Derived.Test.YtpacccdphbhfbaaGreatHM7
import Derived.Test.YtpacccdphbhfbaaGreatQT
import Derived.Test.YtpacccdphbhfbaaGreatQZ
import Derived.Test.YtpacccdphbhfbaaGreatVB1
import Derived.Test.YtpacccdphbhfbaaGreatVB8
import Derived.Test.YtpacccdphbhfbaaGreatVL3
import Derived.Test.YtpacccdphbhfbaaGreatLnR
set_option linter.unusedVariables false
set_option linter.unusedSimpArgs false
namespace Go.LN
open Go.Proofs
set_option maxRecDepth 20000
def zOk (r:zD×Int):KT:=fun kk I' hs' v=>
  ∃ v0 v1,hs'=[]∧v=tupV [v0,v1]∧(∃ cs,v0=.agg ⟨cs⟩∧Rp.rep I' cs r.1)∧v1=.int .i64 r.2
def zOd (code:(List UInt8)):Option (zD×Int):=do
 let y←eA code
 let (y2,y3,y4,y5)←dJ y
 pure (y2,y3)
theorem zOp:∀ code r,zOd code=some r→∀ {I:Imm}{p c},(S4 I p code c)→RT 32 [vS p code c] I [] (zOk  r):=by
 intro code r N I p c h;unfold zOd at N;refine yL Tryz.func32 fun B=>yD<|wY zTwo ?_;intro b hb;refine wI [] []<|yX<|yE 1 [] [8] rfl<|bE N fun y hy N=>xP (zLT code _ hy h) ?_;rintro I0 hs2 v2 k2 le - ⟨b1,p1,c1,rfl,rfl,h1⟩ -;obtain ⟨⟨y2,y3,y4,y5⟩,hy1,N⟩:=zB N;refine sJ (zLw y _ hy1 h1) rfl ?_;rintro I01 hs2 v2 k2 le1 - ⟨v0,v01,v02,kk,rfl,rfl,⟨cs,rfl,h2⟩,rfl,rfl,h5⟩ -;obtain ⟨p2,c2,p3,c3,rfl,h6,h7⟩:=jX h2;obtain ⟨p4,c4,rfl,h8⟩:=yA h5;refine yE 7 [] [11,12,13] rfl<|wY zTwo ?_;intro b2 hb1;refine xJ 0 (cProg y2 p2 c2 p3 c3) rfl<|yI [] [5] rfl<|yX<|qL 2 [0] [(14,vA (cProg y2 p2 c2 p3 c3)),(15,vI y3)]<|xJ 2 (cProg y2 p2 c2 p3 c3) rfl<|yI [] [3] rfl<|zI<|yW ?_;obtain rfl:=zC N;exact xA ⟨_,_,(.cell 2 rfl rfl (by kernel_rfl) (.tmp rfl ResV.nil)),zQ,⟨_,_,rfl,rfl,⟨_,rfl,(uB ⟨_,_,rfl,h6,h7⟩)⟩,rfl⟩⟩
def zO8 (code:(List UInt8)):Option (zD×Int):=do
 let (y1,y2)←zOd code
 pure (y1,y2)
theorem zOq:∀ code r,zO8 code=some r→∀ {I:Imm}{p c},(S4 I p code c)→RT 8 [vS p code c] I [] (zOk  r):=by
 intro code r N I p c h;unfold zO8 at N;refine yL Tryz.func8 fun B=>yD<|wY zTwo ?_;intro b hb;refine wI [] []<|yX<|yE 1 [] [4] rfl ?_;obtain ⟨⟨y1,y2⟩,hy,N⟩:=zB N;refine xP (zOp code _ hy h) ?_;rintro I0 hs2 v2 k2 le - ⟨v0,v01,rfl,rfl,⟨cs,rfl,h1⟩,rfl⟩ -;obtain ⟨p1,c1,p2,c2,rfl,h3,h4⟩:=jX h1;refine yE 4 [] [6,7] rfl<|xJ 0 (cProg y1 p1 c1 p2 c2) rfl<|yI [] [3] rfl<|zI<|yW ?_;obtain rfl:=zC N;exact xA ⟨_,_,(.cell 0 rfl rfl (by kernel_rfl) (.tmp rfl ResV.nil)),zQ,⟨_,_,rfl,rfl,⟨_,rfl,(uB ⟨_,_,rfl,h3,h4⟩)⟩,rfl⟩⟩
end Go.LN
namespace Go.LN
open Go.Proofs
set_option maxRecDepth 20000
def zOb (list:(List Bool)) (out:List Int) (t8:Int):Option (List Int):=do
 if (decide (t8 < (list.length:Int))) then
  let x←idx list t8
  let out2←(do
    if x then
     let out3←app 8 out ([t8]:List Int)
     pure (id out3)
    else
     pure (id out)
      : Option (List Int))
  zOb list out2 (W (t8 + 1))
 else
  pure (id out)
 partial_fixpoint
theorem zOz (list:(List Bool)):∀ (out:List Int) (t8:Int) (o:List Int),zOb list out t8=some o→∀ {B}{I0 I:Imm}{Q p c p1 c1 cs},I0.le I→(S4 I p list c)→(RL I cs out)→NG Q→NO Q→(∀ (I':Imm) (out1:List Int) (p2:Option Addr) (c2:Nat) (cs1:List Value),o=out1→I0.le I'→(RL I' cs1 out1)→T 20 B Q (.exit 0) I' [hO Int (vS p2 out1 c2) cs1] [(3,vS p2 out1 c2)])→J Tryz.prog 20 B (nav (bodyOf Tryz.f36) [1,1,0,1,0]) Q I [hO Int (vS p1 out c1) cs] [(3,vS p1 out c1),(6,vS p list c),(7,vI (list.length:Int)),(8,vI t8)]:=by
 refine zOb.partial_correctness list _ fun self ih out t8 o N B I0 I Q p c p1 c1 cs H h h2 hg ho hx=>yQ hg ho<|yF [9] rfl<|zY<|yC N ?_ ?_
 · intro hc N;refine zS<|zY<|yG<|yD<|yE 1 [] [10] rfl<|bE N fun x hy N=>xK rfl rfl h hy ?_;intro ad ccs hat hrep;obtain rfl:=hrep;refine xF 0 hat [.bool x] (.bool x) rfl<|yI [] [4,5] rfl<|wH [13] rfl<|zI ?_;obtain ⟨o0,ho0,hMc⟩:=zB N;refine qA (fun I' hs' m'=>∃ (out2:List Int) (p3:Option Addr) (c3:Nat) (cs2:List Value),o0=out2∧I.le I'∧(RL I' cs2 out2)∧hs'=[hO Int (vS p3 out2 c3) cs2]∧m'=[(3,vS p3 out2 c3),(6,vS p list c),(7,vI (list.length:Int)),(8,vI t8)]) ?_ ?_
   · have H:=iS I;refine yC ho0 ?_ ?_
     · intro hc1 N;refine zK<|yE 2 [] [14,15] rfl<|uN [vI t8] Int ?_;intro b hb;have h5:RL I [vI t8] ([t8]:List Int):=rI [t8];obtain ⟨out3,hy1,N⟩:=zB N;exact rX 3 1 1 rfl rfl rfl h2 (.inr ⟨0,rfl⟩) h5 hy1 fun p4 c4 cs3 h6=>sK (zX [1] (hs':=[hO Int (vS p4 out3 c4) cs3]))<|yI [] [3] rfl<|yN<|zT ⟨_,_,_,_,(zC N).symm,H,h6,rfl,rfl⟩
     intro hc1 N;exact zS<|yN<|zT ⟨_,_,_,_,(zC N).symm,H,h2,rfl,rfl⟩
   rintro I0 hs2 m2 ⟨out2,p3,c3,cs2,heq,le,h4,rfl,rfl⟩;subst o0;have ⟨h,H⟩:=m2 le h H;exact zO<|zI<|zK<|yI [] [8] rfl<|yO<|nF<|ih out2 (W (t8 + 1)) _ hMc H h h4 hg ho hx
 intro hc N;exact wJ<|yN<|hx _ _ _ _ _ (zC N).symm H h2
def zOj (list:(List Bool)):Option ((List Int)):=do
 let out1←zOb list ([]:List Int) 0
 pure (id out1)
theorem zOw:∀ list r,zOj list=some r→∀ {I:Imm}{p c},(S4 I p list c)→RT 36 [vS p list c] I [] (dA  r):=by
 intro list r N I p c h;unfold zOj at N;refine yL Tryz.func36 fun B=>vJ []<|zFr [(3,z0)]<|zY<|yF [6,7,8] rfl<|xW<|qW [(3,z0),(6,vS p list c),(7,vI (list.length:Int)),(8,vI 0)]<|dR Int fun h1=>?_;obtain ⟨o01,ho01,hMl⟩:=zB N;refine zOz list ([]:List Int) 0 o01 ho01 iR h h1 (fun _ _ _ h=>h) (fun _ _ h=>h) ?_;intro I01 out1 p2 c2 cs1 heq1 le1 h3;subst o01;refine zR<|wH [2] rfl<|xG<|yV 0 rfl ?_;intro I02 le2 hl0;have h7:=SL.of_frozen hl0 le2 h3;obtain rfl:=zC hMl;exact xA ⟨_,_,(.tmp rfl ResV.nil),zQ,⟨_,rfl,rfl,h7⟩⟩
def zAC (y4:(List Bool)) (list:List Bool) (t28:Int):Option (List Bool):=do
 if (decide (t28 < (y4.length:Int))) then
  let x←idx list t28
  let x1←idx list t28
  let l←pure (list.set t28.toNat (!x))
  zAC y4 l (W (t28 + 1))
 else
  pure (id list)
 partial_fixpoint
theorem zOr (y4:(List Bool)):∀ (list:List Bool) (t28:Int) (o:List Bool),zAC y4 list t28=some o→∀ {B}{I0 I:Imm}{Q p9 c8 cs1},I0.le I→(RL I cs1 list)→NG Q→NO Q→(∀ (I':Imm) (list1:List Bool) (p10:Option Addr) (c9:Nat) (cs2:List Value),o=list1→I0.le I'→(RL I' cs2 list1)→T 41 B Q (.exit 0) I' [hO Bool (vS p10 list1 c9) cs2] [(7,vS p10 list1 c9)])→J Tryz.prog 41 B (nav (bodyOf Tryz.f9) [1,1,1,1,0,1,0]) Q I [hO Bool (vS p9 list c8) cs1] [(7,vS p9 list c8),(26,vS p9 list c8),(27,vI (y4.length:Int)),(28,vI t28)]:=by
 refine zAC.partial_correctness y4 _ fun self ih list t28 o N B I0 I Q p9 c8 cs1 H h11 hg ho hx=>yQ hg ho<|yF [29] rfl<|zY<|yC N ?_ ?_
 · intro hc2 N;refine zS<|zY<|yG<|yD<|yE 1 [] [30] rfl<|bE N fun x hy4 N=>nV 0 rfl rfl rfl h11 hy4 ?_;intro ad1 ccs1 hat1 hcc hrep1;obtain rfl:=hrep1;refine zB3 0 0 hat1 hcc [.bool x] (.bool x) rfl rfl<|yI [] [8,9] rfl<|zI<|zK<|yE 4 [] [33,34,36] rfl<|bE N fun x1 hy5 N=>nV 0 rfl rfl rfl h11 hy5 ?_;intro ad2 ccs2 hat2 hcc1 hrep2;obtain rfl:=hrep2;obtain ⟨l,hy6,N⟩:=zB N;refine rG (c:=[.bool (!x)]) (x':=(!x)) 0 0 rfl rfl rfl hat2 rfl rfl hcc1 (by kernel_rfl) (by kernel_rfl) (by kernel_rfl) h11 hy5 (by kernel_rfl) rfl ?_;rw [show list.set t28.toNat (!x)=l from zC hy6];intro cs3 h13 hl0;exact mS (m':=[(7,vS p9 list c8),(26,vS p9 list c8),(27,vI (y4.length:Int)),(28,vI t28),(33,vS p9 list c8),(34,vI t28),(36,.bool (!x))]) ⟨rfl,rfl,rfl,rfl,rfl,rfl,rfl,trivial⟩<|zAN (hs':=[hO Bool (vS p9 l c8) cs3]) (m':=[(7,vS p9 l c8),(26,vS p9 l c8),(27,vI (y4.length:Int)),(28,vI t28),(33,vS p9 l c8),(34,vI t28),(36,.bool (!x))]) (by first | rfl | simp only [vS,hl0,List.nil_append,List.cons_append,List.set_cons_zero,List.set_cons_succ,List.eraseIdx_cons_zero,List.eraseIdx_cons_succ]) (by first | rfl | simp only [vS,hl0])<|yB rfl<|zO<|zI<|zK<|yI [] [28] rfl<|yO<|nF<|ih l (W (t28 + 1)) _ N H h13 hg ho hx
 intro hc2 N;exact wJ<|yN<|hx _ _ _ _ _ (zC N).symm H h11
def zOe (p:zD) (part:Int):Option ((List Int)):=do
 let (y1,y2)←zAH p
 let t22←(do
   if (!y2) then
    pure true
   else
    let y3←mH p part
    pure (!y3)
     : Option Bool)
 if t22 then
  pure ([]:List Int)
 else
  let t←y1
  let y4←mI t part
  let list1←zAC y4 y4 0
  let y5←zOj list1
  pure (id y5)
theorem zOu:∀ p part r,zOe p part=some r→∀ {I:Imm}{p1 c p2 c1},(S4 I p1 p.Arrays c)→(S4 I p2 p.Parts c1)→RT 9 [vA (cProg p p1 c p2 c1),vI part] I [] (dA  r):=by
 intro p part r N I p1 c p2 c1 h h1;unfold zOe at N;refine yL Tryz.func9 fun B=>?_;have H:=iS I;refine yD<|tS (cProg p p1 c p2 c1) ?_;intro b hb;refine wI [] []<|yX<|qL 1 [0] [(11,vA (cProg p p1 c p2 c1))] ?_;obtain ⟨⟨y1,y2⟩,hy,N⟩:=zB N;refine xP (zM4 p _ hy h h1) ?_;rintro I0 hs2 v2 k2 le - ⟨v0,v01,rfl,rfl,h2,rfl⟩ -;have ⟨h,h1,H⟩:=m3 le h h1 H;refine yI [] [5,6] rfl<|zY<|zZ ?_;refine wT N [] (fun t22=>[(1,vI part),(5,v0),(22,.bool t22)]) (fun o0 ho0=>?_) ?_
 · have H:=iS I0;refine zK<|yE 3 [] [17] rfl<|xZ [17] ho0 ?_ ?_
   · intro hc N;exact wI [] [(22,vY)]<|xY zQ<|yN<|zT (ct N H)
   intro hc N;refine qL 5 [0] [(18,vA (cProg p p1 c p2 c1)),(19,vI part)]<|bE N fun y3 hy1 N=>uH (zI3 p part _ hy1 h h1) ?_;intro I02 le1;have H:=H.trans le1;exact yI [] [22] rfl<|xY zQ<|yN<|zT (ct N H)
 intro t22 I01 le2 hMc;have h2:=h2.mono le2;refine zI<|yC hMc ?_ ?_
 · intro hc1 N;refine vJ [(4,z0)]<|xG<|zG ?_;obtain rfl:=zC N;exact xA ⟨_,_,(.tmp rfl ResV.nil),zQ,⟨_,rfl,rfl,(SL.nil _)⟩⟩
 intro hc1 N;refine zS<|yX<|yE 2 [] [23,24] rfl ?_;obtain ⟨t,hy2,N⟩:=zB N;obtain ⟨ad,ccs,rfl,hat,hrep⟩:=zO2 h2 hy2;obtain ⟨p3,c2,p4,c3,p5,c4,p6,c5,p7,c6,rfl,h5,h6,h7,h8,h9⟩:=zLj hrep;obtain ⟨y4,hy3,N⟩:=zB N;refine xP (zI4 t part _ hy3 h5 h6 h7 h8 h9 hat) ?_;rintro I03 hs2 v2 k2 le3 - ⟨p8,c7,cs,rfl,rfl,h10⟩ -;refine yI [] [7] rfl<|zY<|yF [26,27,28] rfl<|xW<|qW [(7,vS p8 y4 c7),(26,vS p8 y4 c7),(27,vI (y4.length:Int)),(28,vI 0)] ?_;obtain ⟨o01,ho01,hMl⟩:=zB N;refine zOr y4 y4 0 o01 ho01 iR h10 (fun _ _ _ h=>h) (fun _ _ h=>h) ?_;intro I04 list1 p10 c9 cs2 heq1 le4 h12;subst o01;refine zR<|yX<|yE 1 [] [39] rfl<|xO 0 rfl ?_;intro I05 le5 hl01;have h14:=SL.of_frozen hl01 le5 h12;obtain ⟨y5,hy7,N⟩:=zB hMl;refine xP (zOw list1 _ hy7 h14) ?_;rintro I06 hs2 v2 k2 le6 - ⟨v08,rfl,rfl,h15⟩ -;obtain ⟨p11,c10,rfl⟩:=h15.form;refine yI [] [4] rfl<|zI<|yW ?_;obtain rfl:=zC N;exact xA ⟨_,_,(.tmp rfl ResV.nil),zQ,⟨_,rfl,rfl,h15⟩⟩
def zOf (p:zD) (part:Int):Option ((List Int)):=do
 let (y1,y2)←zAH p
 let t19←(do
   if (!y2) then
    pure true
   else
    let y3←mH p part
    pure (!y3)
     : Option Bool)
 if t19 then
  pure ([]:List Int)
 else
  let t←y1
  let y4←mI t part
  let y5←zOj y4
  pure (id y5)
theorem zOv:∀ p part r,zOf p part=some r→∀ {I:Imm}{p1 c p2 c1},(S4 I p1 p.Arrays c)→(S4 I p2 p.Parts c1)→RT 10 [vA (cProg p p1 c p2 c1),vI part] I [] (dA  r):=by
 intro p part r N I p1 c p2 c1 h h1;unfold zOf at N;refine yL Tryz.func10 fun B=>?_;have H:=iS I;refine yD<|tS (cProg p p1 c p2 c1) ?_;intro b hb;refine wI [] []<|yX<|qL 1 [0] [(8,vA (cProg p p1 c p2 c1))] ?_;obtain ⟨⟨y1,y2⟩,hy,N⟩:=zB N;refine xP (zM4 p _ hy h h1) ?_;rintro I0 hs2 v2 k2 le - ⟨v0,v01,rfl,rfl,h2,rfl⟩ -;have ⟨h,h1,H⟩:=m3 le h h1 H;refine yI [] [5,6] rfl<|zY<|zZ ?_;refine wT N [] (fun t19=>[(1,vI part),(5,v0),(19,.bool t19)]) (fun o0 ho0=>?_) ?_
 · have H:=iS I0;refine zK<|yE 3 [] [14] rfl<|xZ [14] ho0 ?_ ?_
   · intro hc N;exact wI [] [(19,vY)]<|xY zQ<|yN<|zT (ct N H)
   intro hc N;refine qL 5 [0] [(15,vA (cProg p p1 c p2 c1)),(16,vI part)]<|bE N fun y3 hy1 N=>uH (zI3 p part _ hy1 h h1) ?_;intro I02 le1;have H:=H.trans le1;exact yI [] [19] rfl<|xY zQ<|yN<|zT (ct N H)
 intro t19 I01 le2 hMc;have h2:=h2.mono le2;refine zI<|yC hMc ?_ ?_
 · intro hc1 N;refine vJ [(4,z0)]<|xG<|zG ?_;obtain rfl:=zC N;exact xA ⟨_,_,(.tmp rfl ResV.nil),zQ,⟨_,rfl,rfl,(SL.nil _)⟩⟩
 intro hc1 N;refine zS<|yX<|yE 2 [] [20,21] rfl ?_;obtain ⟨t,hy2,N⟩:=zB N;obtain ⟨ad,ccs,rfl,hat,hrep⟩:=zO2 h2 hy2;obtain ⟨p3,c2,p4,c3,p5,c4,p6,c5,p7,c6,rfl,h5,h6,h7,h8,h9⟩:=zLj hrep;obtain ⟨y4,hy3,N⟩:=zB N;refine xP (zI4 t part _ hy3 h5 h6 h7 h8 h9 hat) ?_;rintro I03 hs2 v2 k2 le3 - ⟨p8,c7,cs,rfl,rfl,h10⟩ -;refine xO 0 rfl ?_;intro I04 le4 hl0;have h11:=SL.of_frozen hl0 le4 h10;obtain ⟨y5,hy4,N⟩:=zB N;refine xP (zOw y4 _ hy4 h11) ?_;rintro I05 hs2 v2 k2 le5 - ⟨v08,rfl,rfl,h12⟩ -;obtain ⟨p9,c8,rfl⟩:=h12.form;refine yI [] [4] rfl<|zI<|yW ?_;obtain rfl:=zC N;exact xA ⟨_,_,(.tmp rfl ResV.nil),zQ,⟨_,rfl,rfl,h12⟩⟩
def zOc (a0:(List Int)) (b:(List Int)) (i:Int):Option (Out Unit (Bool)):=do
 if (decide (i < (a0.length:Int))) then
  let x←idx a0 i
  let x1←idx b i
  if (x != x1) then
   pure (.ret false)
  else
   zOc a0 b (W (i + 1))
 else
  pure (.done ())
 partial_fixpoint
theorem zPA (a0:(List Int)) (b:(List Int)):∀ (i:Int) (o:Out Unit (Bool)),zOc a0 b i=some o→∀ {B}{I0 I:Imm}{Q p c p1 c1},I0.le I→(S4 I p a0 c)→(S4 I p1 b c1)→NG Q→NO Q→(∀ (I':Imm) ,o=(.done ())→I0.le I'→T 26 B Q (.exit 0) I' [] [])→(∀ r I' hs' m',o=(.ret r)→I0.le I'→RS Tryz.prog Tryz.f11 B (zU  r) I' hs' m'→T 26 B Q .ret I' hs' m')→J Tryz.prog 26 B (nav (bodyOf Tryz.f11) [1,1,0,1,0]) Q I [] [(0,vS p a0 c),(1,vS p1 b c1),(5,vI i)]:=by
 refine zOc.partial_correctness a0 b _ fun self ih i o N B I0 I Q p c p1 c1 H h h1 hg ho hx hr=>yQ hg ho<|zZ<|yF [14] rfl<|zI<|yC N ?_ ?_
 · intro hc1 N;refine zS<|zY<|yG<|zZ<|kF (by kernel_rfl) (by kernel_rfl)<|fX 2 [] [17,18] rfl<|bE N fun x hy N=>dK rfl rfl h hy ?_;intro ad ccs hat hrep;obtain rfl:=hrep;refine fZ 0 hat [vI x] (vI x) rfl<|fX 6 [] [21,22] rfl<|bE N fun x1 hy1 N=>dK rfl rfl h1 hy1 ?_;intro ad1 ccs1 hat1 hrep1;obtain rfl:=hrep1;refine fZ 0 hat1 [vI x1] (vI x1) rfl<|zGg [] [25] rfl<|zI<|yC N ?_ ?_
   · intro hc2 N;exact vJ [(4,vF)]<|xG<|zV<|zG<|zG<|hr _ _ _ _ (zC N).symm H ⟨_,_,(.tmp rfl ResV.nil),zQ,⟨_,rfl,rfl,rfl⟩⟩
   intro hc2 N;exact zS<|zO<|zI<|zK<|yI [] [5] rfl<|yO<|nF<|ih (W (i + 1)) _ N H h h1 hg ho hx hr
 intro hc1 N;exact wJ<|yN<|hx _  (zC N).symm H
def zOi (a0:(List Int)) (b:(List Int)):Option (Bool):=do
 if ((a0.length:Int) != (b.length:Int)) then
  pure false
 else
  match←zOc a0 b 0 with
  | .ret r0=>pure r0
  | .done _ =>
   pure true
theorem zOm:∀ a0 b r,zOi a0 b=some r→∀ {I:Imm}{p c p1 c1},(S4 I p a0 c)→(S4 I p1 b c1)→RT 11 [vS p a0 c,vS p1 b c1] I [] (zU  r):=by
 intro a0 b r N I p c p1 c1 h h1;unfold zOi at N;refine yL Tryz.func11 fun B=>vJ []<|zY<|yF [10] rfl<|zI<|yC N ?_ ?_
 · intro hc N;refine vJ [(4,vF)]<|xG<|zG ?_;obtain rfl:=zC N;exact wM
 intro hc N;refine zS<|zY<|yF [5] rfl<|xW<|qW [(0,vS p a0 c),(1,vS p1 b c1),(5,vI 0)] ?_;obtain ⟨o0,ho0,hMl⟩:=zB N;refine zPA a0 b 0 o0 ho0 iR h h1 (fun _ _ _ h=>h) (fun _ _ h=>h) ?_ ?_
 · intro I0  heq le;subst o0;refine zR<|zFr [(4,vY)]<|zI<|yW ?_;obtain rfl:=zC hMl;exact wM
 intro r0 I9 hs9 m9 heq9 le9 hrs9;subst heq9;refine zV<|zG ?_;obtain rfl:=zC hMl;exact xA hrs9
def zO7 (p:zD) (part:Int) (out:List Int) (i:Int):Option (List Int):=do
 if (decide (i < 4)) then
  let y←kU p part i
  let out2←(do
    if y then
     let out3←app 8 out ([i]:List Int)
     pure (id out3)
    else
     pure (id out)
      : Option (List Int))
  zO7 p part out2 (W (i + 1))
 else
  pure (id out)
 partial_fixpoint
theorem zOs (p:zD) (part:Int):∀ (out:List Int) (i:Int) (o:List Int),zO7 p part out i=some o→∀ {B}{I0 I:Imm}{Q p1 c p2 c1}{b:Nat}{p3 c2 cs},I0.le I→(S4 I p1 p.Arrays c)→(S4 I p2 p.Parts c1)→(RL I cs out)→NG Q→NO Q→(∀ (I':Imm) (out1:List Int) (p4:Option Addr) (c3:Nat) (cs1:List Value),o=out1→I0.le I'→(RL I' cs1 out1)→T 21 B Q (.exit 0) I' [hO Int (vS p4 out1 c3) cs1] [(5,vS p4 out1 c3)])→J Tryz.prog 21 B (nav (bodyOf Tryz.f12) [1,1,0,1,0]) Q I [hO Int (vS p3 out c2) cs,hB b (cProg p p1 c p2 c1)] [(1,vI part),(2,vP b 0),(5,vS p3 out c2),(6,vI i)]:=by
 refine zO7.partial_correctness p part _ fun self ih out i o N B I0 I Q p1 c p2 c1 b p3 c2 cs H h h1 h3 hg ho hx=>yQ hg ho<|zZ<|yF [9] rfl<|zI<|yC N ?_ ?_
 · intro hc N;refine zS<|zY<|yG<|yD<|qL 3 [1] [(12,vA (cProg p p1 c p2 c1)),(13,vI part),(14,vI i)]<|bE N fun y hy N=>uH (zJF p part i _ hy h h1) ?_;intro I0 le;have ⟨h3,h,h1,H⟩:=m4 le h3 h h1 H;refine yB rfl<|zI ?_;obtain ⟨o0,ho0,hMc⟩:=zB N;refine qA (fun I' hs' m'=>∃ (out2:List Int) (p5:Option Addr) (c4:Nat) (cs2:List Value),o0=out2∧I0.le I'∧(RL I' cs2 out2)∧hs'=[hO Int (vS p5 out2 c4) cs2,hB b (cProg p p1 c p2 c1)]∧m'=[(1,vI part),(2,vP b 0),(5,vS p5 out2 c4),(6,vI i)]) ?_ ?_
   · have H:=iS I0;refine yC ho0 ?_ ?_
     · intro hc1 N;refine zK<|yE 2 [] [16,17] rfl<|uN [vI i] Int ?_;intro b2 hb2;have h7:RL I0 [vI i] ([i]:List Int):=rI [i];obtain ⟨out3,hy1,N⟩:=zB N;exact rX 3 1 1 rfl rfl rfl h3 (.inr ⟨0,rfl⟩) h7 hy1 fun p6 c5 cs3 h8=>sK (zX [1,2] (hs':=[hO Int (vS p6 out3 c5) cs3,hB b (cProg p p1 c p2 c1)]))<|yI [] [5] rfl<|yN<|zT ⟨_,_,_,_,(zC N).symm,H,h8,rfl,rfl⟩
     intro hc1 N;exact zS<|yN<|zT ⟨_,_,_,_,(zC N).symm,H,h3,rfl,rfl⟩
   rintro I01 hs2 m2 ⟨out2,p5,c4,cs2,heq,le1,h6,rfl,rfl⟩;subst o0;have ⟨h,h1,H⟩:=m3 le1 h h1 H;exact zO<|zI<|zK<|yI [] [6] rfl<|yO<|nF<|ih out2 (W (i + 1)) _ hMc H h h1 h6 hg ho hx
 intro hc N;exact wJ<|xY (zW [0] rfl (by decide))<|yN<|hx _ _ _ _ _ (zC N).symm H h3
def zO9 (p:zD) (part:Int):Option ((List Int)):=do
 let out1←zO7 p part ([]:List Int) 0
 pure (id out1)
theorem zOn:∀ p part r,zO9 p part=some r→∀ {I:Imm}{p1 c p2 c1},(S4 I p1 p.Arrays c)→(S4 I p2 p.Parts c1)→RT 12 [vA (cProg p p1 c p2 c1),vI part] I [] (dA  r):=by
 intro p part r N I p1 c p2 c1 h h1;unfold zO9 at N;refine yL Tryz.func12 fun B=>yD<|tS (cProg p p1 c p2 c1) ?_;intro b hb;refine wI [] []<|yX<|uN [] Int ?_;intro b1 hb1;have h2:RL I [] ([]:List Int):=rfl;refine yI [] [5] rfl<|zY<|yF [6] rfl<|xW<|qW [(1,vI part),(2,vP b 0),(5,vS (some ⟨b1,0,none⟩) ([]:List Int) 0),(6,vI 0)] ?_;obtain ⟨o01,ho01,hMl⟩:=zB N;refine zOs p part ([]:List Int) 0 o01 ho01 iR h h1 h2 (fun _ _ _ h=>h) (fun _ _ h=>h) ?_;intro I02 out1 p4 c3 cs1 heq1 le2 h4;subst o01;refine zR<|wH [4] rfl<|xG<|yV 0 rfl ?_;intro I03 le3 hl0;have h9:=SL.of_frozen hl0 le3 h4;obtain rfl:=zC hMl;exact xA ⟨_,_,(.tmp rfl ResV.nil),zQ,⟨_,rfl,rfl,h9⟩⟩
def zOh (p:zD):Option (Bool):=do
 let (y1,y2)←qG p
 pure (id y2)
theorem zOx:∀ p r,zOh p=some r→∀ {I:Imm}{p1 c p2 c1},(S4 I p1 p.Arrays c)→(S4 I p2 p.Parts c1)→RT 14 [vA (cProg p p1 c p2 c1)] I [] (zU  r):=by
 intro p r N I p1 c p2 c1 h h1;unfold zOh at N;refine yL Tryz.func14 fun B=>yD<|tS (cProg p p1 c p2 c1) ?_;intro b hb;refine wI [] []<|yX<|qL 1 [0] [(6,vA (cProg p p1 c p2 c1))] ?_;obtain ⟨⟨y1,y2⟩,hy,N⟩:=zB N;refine xP (zA2 p _ hy h h1) ?_;rintro I0 hs2 v2 k2 le - ⟨v0,v01,rfl,rfl,h2,rfl⟩ -;obtain ⟨p3,c2,rfl⟩:=h2.form;refine yI [] [4] rfl<|wH [2] rfl<|zI<|yW ?_;obtain rfl:=zC N;exact wM
def zOg (list:(List Int)) (n0:Int) (i:Int):Option (Out Unit (Bool)):=do
 if (decide (i < (list.length:Int))) then
  let x←idx list i
  if (x == n0) then
   pure (.ret true)
  else
   zOg list n0 (W (i + 1))
 else
  pure (.done ())
 partial_fixpoint
theorem zPC (list:(List Int)) (n0:Int):∀ (i:Int) (o:Out Unit (Bool)),zOg list n0 i=some o→∀ {B}{I0 I:Imm}{Q p c},I0.le I→(S4 I p list c)→NG Q→NO Q→(∀ (I':Imm) ,o=(.done ())→I0.le I'→T 18 B Q (.exit 0) I' [] [])→(∀ r I' hs' m',o=(.ret r)→I0.le I'→RS Tryz.prog Tryz.f15 B (zU  r) I' hs' m'→T 18 B Q .ret I' hs' m')→J Tryz.prog 18 B (nav (bodyOf Tryz.f15) [1,0,1,0]) Q I [] [(0,vS p list c),(1,vI n0),(5,vI i)]:=by
 refine zOg.partial_correctness list n0 _ fun self ih i o N B I0 I Q p c H h hg ho hx hr=>yQ hg ho<|zZ<|yF [9] rfl<|zI<|yC N ?_ ?_
 · intro hc N;refine zS<|zY<|yG<|yD<|yE 2 [] [12,13] rfl<|bE N fun x hy N=>xK rfl rfl h hy ?_;intro ad ccs hat hrep;obtain rfl:=hrep;refine xF 0 hat [vI x] (vI x) rfl<|yI [] [17] rfl<|zI<|yC N ?_ ?_
   · intro hc1 N;exact vJ [(4,vY)]<|xG<|zV<|zG<|zG<|hr _ _ _ _ (zC N).symm H ⟨_,_,(.tmp rfl ResV.nil),zQ,⟨_,rfl,rfl,rfl⟩⟩
   intro hc1 N;exact zS<|zO<|zI<|zK<|yI [] [5] rfl<|yO<|nF<|ih (W (i + 1)) _ N H h hg ho hx hr
 intro hc N;exact wJ<|yN<|hx _  (zC N).symm H
def zOl (list:(List Int)) (n0:Int):Option (Bool):=do
 match←zOg list n0 0 with
 | .ret r0=>pure r0
 | .done _ =>
  pure false
theorem zOy:∀ list n0 r,zOl list n0=some r→∀ {I:Imm}{p c},(S4 I p list c)→RT 15 [vS p list c,vI n0] I [] (zU  r):=by
 intro list n0 r N I p c h;unfold zOl at N;refine yL Tryz.func15 fun B=>vJ []<|zY<|yF [5] rfl<|xW<|qW [(0,vS p list c),(1,vI n0),(5,vI 0)] ?_;obtain ⟨o0,ho0,hMl⟩:=zB N;refine zPC list n0 0 o0 ho0 iR h (fun _ _ _ h=>h) (fun _ _ h=>h) ?_ ?_
 · intro I0  heq le;subst o0;refine zR<|zFr [(4,vF)]<|zI<|yW ?_;obtain rfl:=zC hMl;exact wM
 intro r0 I9 hs9 m9 heq9 le9 hrs9;subst heq9;refine zV<|zG ?_;obtain rfl:=zC hMl;exact xA hrs9
def zOP (y1:zD) (y2:Int) (y3:(List Int)) (y4:(List Int)) (i:Int):Option (Out Unit (Bool)):=do
 let x←idx y1.Parts y2
 if (decide (i < (x.Nest.length:Int))) then
  let y14←zOl y3 i
  let y15←zOl y4 i
  if (y14 == y15) then
   pure (.ret false)
  else
   zOP y1 y2 y3 y4 (W (i + 1))
 else
  pure (.done ())
 partial_fixpoint
theorem zOo (y1:zD) (y2:Int) (y3:(List Int)) (y4:(List Int)):∀ (i:Int) (o:Out Unit (Bool)),zOP y1 y2 y3 y4 i=some o→∀ {B}{I0 I:Imm}{Q p1 c1 p2 c2}{b:Nat}{p3 c3 p4 c4},I0.le I→(S4 I p3 y3 c3)→(S4 I p4 y4 c4)→(S4 I p1 y1.Arrays c1)→(S4 I p2 y1.Parts c2)→NG Q→NO Q→(∀ (I':Imm) ,o=(.done ())→I0.le I'→T 95 B Q (.exit 0) I' [hB b (cProg y1 p1 c1 p2 c2)] [(3,vP b 0),(4,vI y2),(5,vS p3 y3 c3),(6,vS p4 y4 c4)])→(∀ r I' hs' m',o=(.ret r)→I0.le I'→RS Tryz.prog Tryz.f3 B (zU  r) I' hs' m'→T 95 B Q .ret I' hs' m')→J Tryz.prog 95 B (nav (bodyOf Tryz.f3) [1,1,1,1,1,1,0,1,0]) Q I [hB b (cProg y1 p1 c1 p2 c2)] [(3,vP b 0),(4,vI y2),(5,vS p3 y3 c3),(6,vS p4 y4 c4),(7,vI i)]:=by
 refine zOP.partial_correctness y1 y2 y3 y4 _ fun self ih i o N B I0 I Q p1 c1 p2 c2 b p3 c3 p4 c4 H h5 h6 h3 h4 hg ho hx hr=>yQ hg ho<|zZ<|yD<|yE 4 [0] [64,66,67] rfl<|bE N fun x hy12 N=>xK rfl rfl h4 hy12 ?_;intro ad ccs hat hrep;obtain ⟨p9,c9,p10,c10,rfl,h16,h17⟩:=wL hrep;refine yE 6 [] [69] rfl<|xF 0 hat [vS p9 x.Nest c9] (vS p9 x.Nest c9) rfl<|yI [] [72] rfl<|zI<|yC N ?_ ?_
 · intro hc7 N;refine zS<|zY<|yG<|yD<|yE 2 [] [75,76] rfl<|bE N fun y14 hy13 N=>uH (zOy y3 i _ hy13 h5) ?_;intro I014 le14;have ⟨h5,h6,h3,h4,H⟩:=m5 le14 h5 h6 h3 h4 H;refine yE 5 [] [78,79] rfl<|bE N fun y15 hy14 N=>uH (zOy y4 i _ hy14 h6) ?_;intro I015 le15;have ⟨h5,h6,h3,h4,H⟩:=m5 le15 h5 h6 h3 h4 H;refine yI [] [81] rfl<|zI<|yC N ?_ ?_
   · intro hc8 N;exact vJ [(2,vF)]<|xG<|zV<|zG<|zG<|hr _ _ _ _ (zC N).symm H ⟨_,_,(.tmp rfl ResV.nil),zQ,⟨_,rfl,rfl,rfl⟩⟩
   intro hc8 N;exact zS<|zO<|zI<|zK<|yI [] [7] rfl<|yO<|nF<|ih (W (i + 1)) _ N H h5 h6 h3 h4 hg ho hx hr
 intro hc7 N;exact wJ<|yN<|hx _  (zC N).symm H
def zOa (code:(List UInt8)):Option (Bool):=do
 if (decide ((code.length:Int) > 1048576)) then
  pure true
 else
  let (y1,y2)←zO8 code
  let y3←zOe y1 y2
  let y4←zOf y1 y2
  let t51←(do
    let y5←zO9 y1 y2
    let y6←zOi y3 y5
    if (!y6) then
     pure true
    else
     let y7←nE y1 y2
     let y8←zOi y4 y7
     if (!y8) then
      pure true
     else
      let y9←zOh y1
      if (!y9) then
       pure true
      else
       if (decide (y2 < 0)) then
        pure true
       else
        pure (decide (y2 ≥ (y1.Parts.length:Int)))
      : Option Bool)
  if t51 then
   let t2←(do
     let y10←zO9 y1 y2
     let y11←zOi y3 y10
     if y11 then
      let y12←nE y1 y2
      let y13←zOi y4 y12
      pure (id y13)
     else
      pure false
       : Option Bool)
   pure (id t2)
  else
   match←zOP y1 y2 y3 y4 0 with
   | .ret r0=>pure r0
   | .done _ =>
    let x1←idx y1.Parts y2
    pure ((W ((y3.length:Int) + (y4.length:Int))) == (x1.Nest.length:Int))
theorem zOt:∀ code r,zOa code=some r→∀ {I:Imm}{p c},(S4 I p code c)→RT 3 [vS p code c] I [] (zU  r):=by
 intro code r N I p c h;unfold zOa at N;refine yL Tryz.func3 fun B=>?_;have H:=iS I;refine vJ []<|zY<|yF [10] rfl<|zI<|yC N ?_ ?_
 · intro hc N;refine vJ [(2,vY)]<|xG<|zG ?_;obtain rfl:=zC N;exact wM
 intro hc N;refine zS<|yX<|yE 1 [] [12] rfl ?_;obtain ⟨⟨y1,y2⟩,hy,N⟩:=zB N;refine xP (zOq code _ hy h) ?_;rintro I0 hs2 v2 k2 le - ⟨v0,v01,rfl,rfl,⟨cs,rfl,h1⟩,rfl⟩ -;have H:=H.trans le;obtain ⟨p1,c1,p2,c2,rfl,h3,h4⟩:=jX h1;refine yE 5 [] [14,15] rfl<|wY zTwo ?_;intro b hb;refine xJ 0 (cProg y1 p1 c1 p2 c2) rfl<|yI [] [4] rfl<|yX<|qL 2 [0] [(16,vA (cProg y1 p1 c1 p2 c2)),(17,vI y2)]<|bE N fun y3 hy1 N=>xP (zOu y1 y2 _ hy1 h3 h4) ?_;rintro I01 hs2 v2 k2 le1 - ⟨v04,rfl,rfl,h5⟩ -;have ⟨h3,h4,H⟩:=m3 le1 h3 h4 H;obtain ⟨p3,c3,rfl⟩:=h5.form;refine yI [] [5] rfl<|yX<|qL 2 [0] [(19,vA (cProg y1 p1 c1 p2 c2)),(20,vI y2)]<|bE N fun y4 hy2 N=>xP (zOv y1 y2 _ hy2 h3 h4) ?_;rintro I02 hs2 v2 k2 le2 - ⟨v05,rfl,rfl,h6⟩ -;have ⟨h5,h3,h4,H⟩:=m4 le2 h5 h3 h4 H;obtain ⟨p4,c4,rfl⟩:=h6.form;refine yI [] [6] rfl<|zY<|zZ ?_;refine wT N [hB b (cProg y1 p1 c1 p2 c2)] (fun t51=>[(3,vP b 0),(4,vI y2),(5,vS p3 y3 c3),(6,vS p4 y4 c4),(51,.bool t51)]) (fun o0 ho0=>?_) ?_
 · have H:=iS I02;refine zK<|qL 3 [0] [(22,vS p3 y3 c3),(23,vA (cProg y1 p1 c1 p2 c2)),(24,vI y2)] ?_;obtain ⟨y5,hy3,N⟩:=zB ho0;refine xP (zOn y1 y2 _ hy3 h3 h4) ?_;rintro I04 hs2 v2 k2 le3 - ⟨v06,rfl,rfl,h7⟩ -;have ⟨h5,h6,h3,h4,H⟩:=m5 le3 h5 h6 h3 h4 H;obtain ⟨p5,c5,rfl⟩:=h7.form;obtain ⟨y6,hy4,N⟩:=zB N;refine uH (zOm y3 y5 _ hy4 h5 h7) ?_;intro I05 le4;have ⟨h6,h3,h4,H⟩:=m4 le4 h6 h3 h4 H;refine yE 7 [] [28] rfl<|xZ [28] N ?_ ?_
   · intro hc1 N;exact wI [] [(51,vY)]<|yN<|zT (ct N H)
   intro hc1 N;refine qL 10 [0] [(29,vS p4 y4 c4),(30,vA (cProg y1 p1 c1 p2 c2)),(31,vI y2)]<|bE N fun y7 hy5 N=>xP (zCG y1 y2 _ hy5 h3 h4) ?_;rintro I06 hs2 v2 k2 le5 - ⟨v08,rfl,rfl,h9⟩ -;have ⟨h6,h3,h4,H⟩:=m4 le5 h6 h3 h4 H;obtain ⟨p6,c6,rfl⟩:=h9.form;obtain ⟨y8,hy6,N⟩:=zB N;refine uH (zOm y4 y7 _ hy6 h6 h9) ?_;intro I07 le6;have ⟨h3,h4,H⟩:=m3 le6 h3 h4 H;refine yE 15 [] [36] rfl<|xZ [36] N ?_ ?_
   · intro hc2 N;exact wI [] [(51,vY)]<|yN<|zT (ct N H)
   intro hc2 N;refine qL 16 [0] [(37,vA (cProg y1 p1 c1 p2 c2))]<|bE N fun y9 hy7 N=>uH (zOx y1 _ hy7 h3 h4) ?_;intro I08 le7;have H:=H.trans le7;refine yE 20 [] [41] rfl<|xZ [41] N ?_ ?_
   · intro hc3 N;exact wI [] [(51,vY)]<|yN<|zT (ct N H)
   intro hc3 N;refine yE 24 [] [45] rfl<|xZ [45] N ?_ ?_
   · intro hc4 N;exact wI [] [(51,vY)]<|yN<|zT (ct N H)
   intro hc4 N;exact yI [0] [51] rfl<|yN<|zT (ct N H)
 intro t51 I03 le8 hMc;have ⟨h5,h6,h3,h4,H⟩:=m5 le8 h5 h6 h3 h4 H;refine zI<|yC hMc ?_ ?_
 · intro hc5 N;refine zZ ?_;refine wT N [] (fun t2=>[(2,.bool t2)]) (fun o01 ho01=>?_) ?_
   · have H:=iS I03;refine zK<|qL 3 [0] [(52,vS p3 y3 c3),(53,vA (cProg y1 p1 c1 p2 c2)),(54,vI y2)] ?_;obtain ⟨y10,hy8,N⟩:=zB ho01;refine xP (zOn y1 y2 _ hy8 h3 h4) ?_;rintro I010 hs2 v2 k2 le9 - ⟨v011,rfl,rfl,h12⟩ -;have ⟨h6,h5,h3,h4,H⟩:=m5 le9 h6 h5 h3 h4 H;obtain ⟨p7,c7,rfl⟩:=h12.form;obtain ⟨y11,hy9,N⟩:=zB N;refine uH (zOm y3 y10 _ hy9 h5 h12) ?_;intro I011 le10;have ⟨h6,h3,h4,H⟩:=m4 le10 h6 h3 h4 H;refine yE 6 [] [57] rfl<|xZ [57] N ?_ ?_
     · intro hc6 N;refine qL 9 [0] [(58,vS p4 y4 c4),(59,vA (cProg y1 p1 c1 p2 c2)),(60,vI y2)]<|bE N fun y12 hy10 N=>xP (zCG y1 y2 _ hy10 h3 h4) ?_;rintro I012 hs2 v2 k2 le11 - ⟨v013,rfl,rfl,h14⟩ -;have ⟨h6,H⟩:=m2 le11 h6 H;obtain ⟨p8,c8,rfl⟩:=h14.form;obtain ⟨y13,hy11,N⟩:=zB N;refine uH (zOm y4 y12 _ hy11 h6 h14) ?_;intro I013 le12;have H:=H.trans le12;exact yI [] [2] rfl<|xY zQ<|yN<|zT (ct N H)
     intro hc6 N;exact wI [] [(2,vF)]<|xY zQ<|yN<|zT (ct N H)
   intro t2 I09 le13 hMc1;refine xG<|zG ?_;obtain rfl:=zC hMc1;exact wM
 intro hc5 N;refine zS<|zY<|yF [7] rfl<|xW<|qW [(3,vP b 0),(4,vI y2),(5,vS p3 y3 c3),(6,vS p4 y4 c4),(7,vI 0)] ?_;obtain ⟨o02,ho02,hMl⟩:=zB N;refine zOo y1 y2 y3 y4 0 o02 ho02 iR h5 h6 h3 h4 (fun _ _ _ h=>h) (fun _ _ h=>h) ?_ ?_
 · intro I016  heq2 le16;subst o02;have h4:=h4.mono le16;refine zR<|yX<|yE 8 [0] [86,88,89] rfl ?_;obtain ⟨x1,hy15,N⟩:=zB hMl;refine xK rfl rfl h4 hy15 ?_;intro ad1 ccs1 hat1 hrep1;obtain ⟨p11,c11,p12,c12,rfl,h20,h21⟩:=wL hrep1;refine yE 10 [] [91] rfl<|xF 0 hat1 [vS p11 x1.Nest c11] (vS p11 x1.Nest c11) rfl<|yI [] [2] rfl<|zI<|yW ?_;obtain rfl:=zC N;exact wM
 intro r0 I9 hs9 m9 heq9 le9 hrs9;subst heq9;refine zV<|zG ?_;obtain rfl:=zC hMl;exact xA hrs9
end Go.LN
namespace Go.LN
theorem implValidP (P:zD) (h:BG P):zOh P=some (validP P):=by
  unfold zOh validP;rw [implInstances P h];cases progB P <;> rfl
end Go.LN
namespace Go.LN
theorem zPE (l:List Int) (h:l.length ≤ 1048576):zOi l l=some true:=by
  unfold zOi;have hl:=eQ (n:=l.length) (f:=zOc l l) (P:=fun _=>true) (fun i hi=>by
      rw [zOc];have h1:((i:Int) < (l.length:Int)):=by omega
      simp only [h1,dT,if_true,yJ hi,oB,oS,bne_self_eq_false,bF,if_false];rw [wD (by omega)]) (by rw [zOc]; simp)
  rw [hl];have:((List.range l.length).all fun _=>true)=true:=by simp
  simp [this]
end Go.LN
namespace Go.LN
theorem lnHasV (l:List Int) (n:Int) (hl:l.length ≤ 1048576):zOl l n=some (hasB l n):=by
  unfold zOl;have h:=zMN (R:=Bool) (r0:=true) (n:=l.length) (f:=zOg l n) (P:=fun i=>l.getD i 0 == n) (fun i hi=>by
      rw [zOg];have h1:((i:Int) < (l.length:Int)):=by omega
      have hg:l.getD i 0=l[i]:=by simp [hi]
      simp only [h1,dT,if_true,yJ hi,oB,oS,oP,hg];rw [wD (by omega)]) (by rw [zOg]; simp)
  rw [zLN l (fun x=>x == n) 0] at h;rw [h];unfold hasB;cases l.any fun x=>x == n <;> rfl
end Go.LN
namespace Go.LN
theorem implCho (l:List Bool) (hl:l.length ≤ 1000000):zOj l=some (choF l 0):=by
  have key:∀ (j i:Nat) (o:List Int),i + j=l.length→o.length ≤ i→zOb l o (i:Int)=some (o ++ choF (l.drop i) i):=by
    intro j
    induction j with
    | zero =>
      intro i o hi ho;rw [zOb];have:¬((i:Int) < (l.length:Int)):=by omega
      simp only [this,dF,bF,if_false,oP,id];rw [dN.2 (by omega),choF,List.append_nil]
    | succ j ih =>
      intro i o hi ho;rw [zOb];have hlt:i < l.length:=by omega
      have hc:((i:Int) < (l.length:Int)):=by omega
      rw [gC hlt,choF];simp only [hc,dT,if_true,yJ hlt,oB,oS,oP,id,rS (show (o.length + [(i:Int)].length) * 8 ≤ 140737488355328 by simp; omega)];rw [wD (by omega)];cases l[i] with
      | false =>
        simp only [bF,if_false,oS];rw [ih (i + 1) o (by omega) (by omega),List.nil_append]
      | true =>
        simp only [if_true,oS];rw [ih (i + 1) _ (by omega) (by rw [lA]; simp; omega),List.append_assoc]
  have:=key _ 0 [] (Nat.zero_add _) (Nat.le_refl _);rw [nZ,List.drop_zero,List.nil_append] at this;unfold zOj;rw [this]; rfl
end Go.LN
namespace Go.LN
theorem zPF {n:Nat}{f g:Nat→Bool} (h:∀ m,m < n→f m=g m):bsL n f=bsL n g:=by
  unfold bsL;exact List.map_congr_left fun m hm=>h m (List.mem_range.1 hm)
end Go.LN
namespace Go.LN
theorem zPD {m n:Nat}{g:Nat→Bool} (h:m ≤ n) (hz:∀ k,m ≤ k→g k=false):lvF n g=lvF m g:=by
  obtain ⟨e,rfl⟩:=Nat.le.dest h;unfold lvF;rw [List.range_add,List.filter_append];have:((List.range e).map (m + ·)).filter g=[]:=by
    rw [List.filter_eq_nil_iff];intro a ha;obtain ⟨x,_,rfl⟩:=List.mem_map.1 ha;rw [hz (m + x) (Nat.le_add_right _ _)]; simp
  rw [this,List.append_nil]
theorem zPK (g:Nat→Bool):∀ l:List Nat,(l.filter fun x=>!g x).length + (l.filter g).length=l.length
  | []=>rfl
  | x::l=>by
    have:=zPK g l
    rw [List.filter_cons,List.filter_cons]
    cases g x <;> simp <;> omega
theorem zPP (n:Nat) (g:Nat→Bool):(lvF n fun x=>!g x).length + (lvF n g).length=n:=by
  have:=zPK g (List.range n);unfold lvF;rw [List.length_range] at this;rw [lM,lM]; exact this
theorem zPG {P:zD} (hb:BG P) {part:Int}{k:Nat} (h:crd P part k=true):validP P=true∧0 ≤ part∧part.toNat < P.Parts.length∧k < (gP P part.toNat).Nest.length∧k < 4:=by
  unfold crd at h;obtain ⟨d,hd,h⟩:=List.any_eq_true.1 h;obtain ⟨a,_,_,b1,b2,b3,_⟩:=zIo hb hd;unfold atK at h;cases e:nzF d with
  | none=>rw [e] at h; cases h
  | some y =>
    rw [e] at h;obtain ⟨k',v⟩:=y;obtain ⟨hk,_⟩:=zKV e;have e:k'=k:=by simpa using h
    exact ⟨(zKj hb (zMX.1 hd)).1,b1,b2,by omega,by omega⟩
theorem zPL {P:zD} (hb:BG P) {part:Int} (h:¬(validP P=true∧0 ≤ part∧part ≤ (P.Parts.length:Int) - 1)) (k:Nat):crd P part k=false:=by
  cases e:crd P part k with
  | false=>rfl
  | true =>
    obtain ⟨a,b,c,_⟩:=zPG hb e;exact absurd ⟨a,b,by omega⟩ h
theorem zPH {n:Nat}{g:Nat→Bool} (h:∀ k,g k=false):lvF n g=[]:=by
  have:=zPD (m:=0) (n:=n) (g:=g) (Nat.zero_le _) fun k _=>h k;rw [this]; rfl
theorem zPI {n:Nat}{f g:Nat→Bool} (h:∀ k,k < n→f k=g k):lvF n f=lvF n g:=by
  unfold lvF;rw [List.filter_congr fun x hx=>h x (List.mem_range.1 hx)]
theorem zPM {m n:Nat}{g:Nat→Bool} (h:∀ k,g k=true→k < m∧k < n):lvF n g=lvF m g:=by
  have z:∀ k,(m ≤ k∨n ≤ k)→g k=false:=fun k hk=>by
    cases e:g k with
    | false=>rfl
    | true=>have:=h k e; omega
  rcases Nat.le_total m n with c | c
  · exact zPD c fun k hk=>z k (.inl hk)
  · exact (zPD c fun k hk=>z k (.inr hk)).symm
end Go.LN
namespace Go.LN
theorem implCar (P:zD) (hb:BG P) (part:Int):zOf P part=some (lvF 4 (crd P part)):=by
  unfold zOf;rw [implTrace P hb];cases hv:validP P with
  | false =>
    rw [zPH (zPL hb (part:=part) (by rw [hv]; simp))]; rfl
  | true =>
    simp only [if_true,oB,oS,bT,bF,if_false,isPartL hb,oP];by_cases h:0 ≤ part∧part ≤ (P.Parts.length:Int) - 1
    · have h4:=nest4 hv (show part.toNat < P.Parts.length by omega);simp only [h.1,h.2,dT,Bool.and_self,bT,bF,if_false,crdV hb hv h,oS,id,implCho _ (show (bsL (gP P part.toNat).Nest.length (crd P part)).length ≤ 1000000 by rw [zEp]; omega),choB];rw [zPM (m:=4) fun k hk=>by have:=zPG hb hk; exact ⟨this.2.2.2.2,this.2.2.2.1⟩]
    · simp only [zO3 h,Bool.not_false,if_true];rw [zPH (zPL hb (part:=part) fun x=>h x.2)]
theorem zPQ {P:zD} (hb:BG P) (part:Int):∀ (j i:Nat) (o:List Int),i + j=4→o.length ≤ i→zO7 P part o (i:Int)=some (o ++ ((List.range' i j).filter fun k:Nat=>lpB P part (k:Int)).map fun x:Nat=>(x:Int)):=by
  intro j
  induction j with
  | zero =>
    intro i o hi ho;rw [zO7];have:¬((i:Int) < 4):=by omega
    simp only [this,dF,bF,if_false,oP,id];simp
  | succ j ih =>
    intro i o hi ho;rw [zO7,List.range'_succ,List.filter_cons];have hc:((i:Int) < 4):=by omega
    simp only [hc,dT,if_true,specLP P hb,oB,oS,oP,id,rS (show (o.length + [(i:Int)].length) * 8 ≤ 140737488355328 by simp; omega)];rw [wD (by omega)];cases lpB P part (i:Int) with
    | false =>
      simp only [bF,if_false,oS];rw [ih (i + 1) o (by omega) (by omega)]
    | true =>
      simp only [if_true,oS];rw [ih (i + 1) _ (by omega) (by rw [lA]; simp; omega),List.append_assoc]; rfl
theorem specLv (P:zD) (hb:BG P) (part:Int):zO9 P part=some (lvF 4 fun k=>lpB P part (k:Int)):=by
  have h:=zPQ hb part 4 0 [] rfl (Nat.le_refl _);rw [nZ,List.nil_append,← List.range_eq_range'] at h;unfold zO9;rw [h]; rfl
theorem zPR {n:Nat} (hn:n ≤ 1000000) (g:Nat→Bool) (y:List Bool) (hy:y.length=n):∀ (j i:Nat),i + j=n→zAC y (bsL n fun x=>if x < i then !g x else g x) (i:Int)=some (bsL n fun x=>!g x):=by
  intro j
  induction j with
  | zero =>
    intro i hi;rw [zAC];have:¬((i:Int) < (y.length:Int)):=by omega
    simp only [this,dF,bF,if_false,oP,id];exact congrArg some (zPF fun m hm=>by rw [if_pos (by omega)])
  | succ j ih =>
    intro i hi;rw [zAC];have hc:((i:Int) < (y.length:Int)):=by omega
    have hin:i < n:=by omega
    simp only [hc,dT,if_true,zKn hin,oB,oS,oP,iN];rw [wD (by omega),← ih (i + 1) (by omega)];refine congrArg (fun l=>zAC y l ((i + 1:Nat):Int)) ?_;refine List.ext_getElem (by rw [List.length_set,zEp,zEp]) fun k h1 h2=>?_;rw [List.getElem_set,zKW,zKW];by_cases e:i=k
    · subst e; simp
    · rw [if_neg e];by_cases c:k < i
      · rw [if_pos c,if_pos (by omega)]
      · rw [if_neg c,if_neg (by omega)]
theorem implLv (P:zD) (hb:BG P) (part:Int):zOe P part=some (lvF 4 fun k=>lpB P part (k:Int)):=by
  unfold zOe;rw [implTrace P hb];cases hv:validP P with
  | false =>
    rw [zPH fun k=>zOH (by rw [hv]; simp)]; rfl
  | true =>
    simp only [if_true,oB,oS,bT,bF,if_false,isPartL hb,oP];by_cases h:0 ≤ part∧part ≤ (P.Parts.length:Int) - 1
    · have h4:=nest4 hv (show part.toNat < P.Parts.length by omega);have hl:=zPR (n:=(gP P part.toNat).Nest.length) (by omega) (crd P part) (bsL (gP P part.toNat).Nest.length (crd P part)) (zEp _ _) _ 0 (Nat.zero_add _);rw [nZ] at hl;have e:(bsL (gP P part.toNat).Nest.length fun x=>if x < 0 then !crd P part x else crd P part x)=bsL (gP P part.toNat).Nest.length (crd P part):=zPF fun m _=>by rw [if_neg (Nat.not_lt_zero _)]
      rw [e] at hl;simp only [h.1,h.2,dT,Bool.and_self,bT,bF,if_false,crdV hb hv h,hl,oS,id,implCho _ (show (bsL (gP P part.toNat).Nest.length fun x=>!crd P part x).length ≤ 1000000 by rw [zEp]; omega),choB];rw [zPD (m:=(gP P part.toNat).Nest.length) (n:=4) h4 fun k hk=>zOH fun x=>by have:=x.2.2.2; omega];exact congrArg some (zPI fun k hk=>by rw [zNS ⟨hv,h,by omega,by omega⟩,iN])
    · simp only [zO3 h,Bool.not_false,if_true];rw [zPH fun k=>zOH fun x=>h x.2.1]
end Go.LN
namespace Go.LN
theorem drawPL (code:List UInt8):Ok (zO8 code) (fun y=>BG y.1):=by
  unfold zO8 zOd;exact Ok.bind (Ok.call (zN2 code) trivial fun s hs=>Ok.bind (args9 s (by omega)) fun y hy=>Ok.pure (φ:=fun y:zD×Int=>BG y.1) hy) fun y hy=>Ok.pure hy
theorem zPS {P:zD}{part:Int}{n:Nat} (hn:n ≤ 4) (hx:∃ x,idx P.Parts part=some x∧x.Nest.length=n) {f g:Nat→Bool} (h:∀ k,k < n→f k=!g k):∀ (j i:Nat),i + j=n→zOP P part (lvF 4 f) (lvF 4 g) (i:Int)=some (.done ()):=by
  obtain ⟨x,hx,hl⟩:=hx;have a1:=zOD 4 f;have a2:=zOD 4 g;intro j
  induction j with
  | zero =>
    intro i hi;rw [zOP];have:¬((i:Int) < (x.Nest.length:Int)):=by omega
    simp only [hx,this,dF,bF,if_false,oB,oS,oP]
  | succ j ih =>
    intro i hi;have hc:((i:Int) < (x.Nest.length:Int)):=by omega
    have e:((decide (i < 4) && f i) == (decide (i < 4) && g i))=false:=by
      rw [decide_eq_true (show i < 4 by omega),h i (by omega)];cases g i <;> rfl
    rw [zOP];simp only [hx,hc,dT,if_true,lnHasV _ (i:Int) (show (lvF 4 f).length ≤ 1048576 by omega),lnHasV _ (i:Int) (show (lvF 4 g).length ≤ 1048576 by omega),zOE,e,bF,if_false,oB,oS,oP];rw [wD (by omega),ih (i + 1) (by omega)]
theorem zPB (code:List UInt8):∃ r,zOa code=some r∧r=true:=by
  obtain ⟨y,hy,hb⟩:=drawPL code;obtain ⟨P,part⟩:=y;have hb:BG P:=hb;unfold zOa;refine ⟨true,?_,rfl⟩;by_cases h1:(code.length:Int) > 1048576
  · simp [h1]
  · have a1:=zOD 4 fun k=>lpB P part (k:Int);have a2:=zOD 4 (crd P part);have r1:=zPE (lvF 4 fun k=>lpB P part (k:Int)) (by omega);have r2:=zPE (lvF 4 (crd P part)) (by omega);simp only [h1,dF,bF,if_false,hy,implLv P hb part,implCar P hb part,specLv P hb part,specCar P hb part,r1,r2,implValidP P hb,bT,oP,oB,oS,id,if_true];cases hv:validP P with
    | false=>simp
    | true =>
      by_cases c1:part < 0
      · simp [c1]
      · by_cases c2:part ≥ (P.Parts.length:Int)
        · simp [c1,c2]
        · have h:0 ≤ part∧part ≤ (P.Parts.length:Int) - 1:=by omega
          have h4:=nest4 hv (show part.toNat < P.Parts.length by omega);have e:∀ k,k < (gP P part.toNat).Nest.length→lpB P part (k:Int)=!crd P part k:=fun k hk=>by rw [zNS ⟨hv,h,by omega,by omega⟩,iN]
          have hw:=zPS h4 ⟨_,zN3 h,rfl⟩ e _ 0 (Nat.zero_add _);rw [nZ] at hw;have z1:(lvF 4 fun k=>lpB P part (k:Int))=lvF (gP P part.toNat).Nest.length fun k=>!crd P part k:=by
            rw [zPD (m:=(gP P part.toNat).Nest.length) (n:=4) h4 fun k hk=>zOH fun x=>by have:=x.2.2.2; omega];exact zPI e
          have z2:lvF 4 (crd P part)=lvF (gP P part.toNat).Nest.length (crd P part):=zPM fun k hk=>by have:=zPG hb hk; exact ⟨this.2.2.2.1,this.2.2.2.2⟩
          have z3:=zPP (gP P part.toNat).Nest.length (crd P part);rw [← z1,← z2] at z3;simp only [c1,c2,dF,bT,bF,if_false,hw,zN3 h,oS];rw [rH (by omega) (by omega)];have:(((lvF 4 fun k=>lpB P part (k:Int)).length:Int) + ((lvF 4 (crd P part)).length:Int))=((gP P part.toNat).Nest.length:Int):=by omega
          rw [this,bQ]
end Go.LN
