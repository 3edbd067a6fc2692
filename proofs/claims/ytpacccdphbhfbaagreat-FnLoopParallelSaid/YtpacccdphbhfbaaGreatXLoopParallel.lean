/- Helper of the proof (see the last text). -/
import Derived.Test.YtpacccdphbhfbaaGreatLnA
import Derived.Test.YtpacccdphbhfbaaGreatLnI
import Derived.Test.YtpacccdphbhfbaaGreatLnO
import Derived.Test.YtpacccdphbhfbaaGreatLnZ3
import Derived.Test.YtpacccdphbhfbaaGreatTryzShelf
import Derived.Test.YtpacccdphbhfbaaGreatHM1
import Derived.Test.YtpacccdphbhfbaaGreatHM2
import Derived.Test.YtpacccdphbhfbaaGreatHM3
import Derived.Test.YtpacccdphbhfbaaGreatHM4
import Derived.Test.YtpacccdphbhfbaaGreatHM5
import Derived.Test.YtpacccdphbhfbaaGreatHM6
import Derived.Test.YtpacccdphbhfbaaGreatHM7
import Derived.Test.YtpacccdphbhfbaaGreatQT
import Derived.Test.YtpacccdphbhfbaaGreatQZ
import Derived.Test.YtpacccdphbhfbaaGreatVB1
import Derived.Test.YtpacccdphbhfbaaGreatVB8
import Derived.Test.YtpacccdphbhfbaaGreatVL3
import Derived.Test.YtpacccdphbhfbaaGreatLnR
set_option linter.unusedVariables false
set_option linter.unusedSimpArgs false
namespace Go.LN
open Go.Proofs
set_option maxRecDepth 20000
def zO9 (a0:(List Int)) (b:(List Int)) (i:Int):Option (Out Unit (Bool)):=do
 if (decide (i < (a0.length:Int))) then
  let x←idx a0 i
  let x1←idx b i
  if (x != x1) then
   pure (.ret false)
  else
   zO9 a0 b (W (i + 1))
 else
  pure (.done ())
 partial_fixpoint
theorem zOp (a0:(List Int)) (b:(List Int)):∀ (i:Int) (o:Out Unit (Bool)),zO9 a0 b i=some o→∀ {B}{I0 I:Imm}{Q p c p1 c1},I0.le I→(S4 I p a0 c)→(S4 I p1 b c1)→NG Q→NO Q→(∀ (I':Imm) ,o=(.done ())→I0.le I'→T 26 B Q (.exit 0) I' [] [])→(∀ r I' hs' m',o=(.ret r)→I0.le I'→RS Tryz.prog Tryz.f11 B (zU  r) I' hs' m'→T 26 B Q .ret I' hs' m')→J Tryz.prog 26 B (nav (bodyOf Tryz.f11) [1,1,0,1,0]) Q I [] [(0,vS p a0 c),(1,vS p1 b c1),(5,vI i)]:=by
 refine zO9.partial_correctness a0 b _ fun self ih i o N B I0 I Q p c p1 c1 H h h1 hg ho hx hr=>yQ hg ho<|zZ<|yF [14] rfl<|zI<|yC N ?_ ?_
 · intro hc1 N;refine zS<|zY<|yG<|zZ<|kF (by kernel_rfl) (by kernel_rfl)<|fX 2 [] [17,18] rfl<|bE N fun x hy N=>dK rfl rfl h hy ?_;intro ad ccs hat hrep;obtain rfl:=hrep;refine fZ 0 hat [vI x] (vI x) rfl<|fX 6 [] [21,22] rfl<|bE N fun x1 hy1 N=>dK rfl rfl h1 hy1 ?_;intro ad1 ccs1 hat1 hrep1;obtain rfl:=hrep1;refine fZ 0 hat1 [vI x1] (vI x1) rfl<|zGg [] [25] rfl<|zI<|yC N ?_ ?_
   · intro hc2 N;exact vJ [(4,vF)]<|xG<|zV<|zG<|zG<|hr _ _ _ _ (zC N).symm H ⟨_,_,(.tmp rfl ResV.nil),zQ,⟨_,rfl,rfl,rfl⟩⟩
   intro hc2 N;exact zS<|zO<|zI<|zK<|yI [] [5] rfl<|yO<|nF<|ih (W (i + 1)) _ N H h h1 hg ho hx hr
 intro hc1 N;exact wJ<|yN<|hx _  (zC N).symm H
def zOe (a0:(List Int)) (b:(List Int)):Option (Bool):=do
 if ((a0.length:Int) != (b.length:Int)) then
  pure false
 else
  match←zO9 a0 b 0 with
  | .ret r0=>pure r0
  | .done _ =>
   pure true
theorem zOl:∀ a0 b r,zOe a0 b=some r→∀ {I:Imm}{p c p1 c1},(S4 I p a0 c)→(S4 I p1 b c1)→RT 11 [vS p a0 c,vS p1 b c1] I [] (zU  r):=by
 intro a0 b r N I p c p1 c1 h h1;unfold zOe at N;refine yL Tryz.func11 fun B=>vJ []<|zY<|yF [10] rfl<|zI<|yC N ?_ ?_
 · intro hc N;refine vJ [(4,vF)]<|xG<|zG ?_;obtain rfl:=zC N;exact wM
 intro hc N;refine zS<|zY<|yF [5] rfl<|xW<|qW [(0,vS p a0 c),(1,vS p1 b c1),(5,vI 0)] ?_;obtain ⟨o0,ho0,hMl⟩:=zB N;refine zOp a0 b 0 o0 ho0 iR h h1 (fun _ _ _ h=>h) (fun _ _ h=>h) ?_ ?_
 · intro I0  heq le;subst o0;refine zR<|zFr [(4,vY)]<|zI<|yW ?_;obtain rfl:=zC hMl;exact wM
 intro r0 I9 hs9 m9 heq9 le9 hrs9;subst heq9;refine zV<|zG ?_;obtain rfl:=zC hMl;exact xA hrs9
def zOa (p:zD):Option (Bool):=do
 let (y1,y2)←qG p
 pure (id y2)
theorem zOm:∀ p r,zOa p=some r→∀ {I:Imm}{p1 c p2 c1},(S4 I p1 p.Arrays c)→(S4 I p2 p.Parts c1)→RT 14 [vA (cProg p p1 c p2 c1)] I [] (zU  r):=by
 intro p r N I p1 c p2 c1 h h1;unfold zOa at N;refine yL Tryz.func14 fun B=>yD<|tS (cProg p p1 c p2 c1) ?_;intro b hb;refine wI [] []<|yX<|qL 1 [0] [(6,vA (cProg p p1 c p2 c1))] ?_;obtain ⟨⟨y1,y2⟩,hy,N⟩:=zB N;refine xP (zA2 p _ hy h h1) ?_;rintro I0 hs2 v2 k2 le - ⟨v0,v01,rfl,rfl,h2,rfl⟩ -;obtain ⟨p3,c2,rfl⟩:=h2.form;refine yI [] [4] rfl<|wH [2] rfl<|zI<|yW ?_;obtain rfl:=zC N;exact wM
def zOd (p:zD) (part:Int) (loop:Int):Option (Bool):=do
 let t6←(do
   let y←mH p part
   if y then
    let x←idx p.Parts part
    let y1←wG loop 0 (W ((x.Nest.length:Int) - 1))
    pure (id y1)
   else
    pure false
     : Option Bool)
 pure (id t6)
theorem zOj:∀ p part loop r,zOd p part loop=some r→∀ {I:Imm}{p1 c p2 c1},(S4 I p1 p.Arrays c)→(S4 I p2 p.Parts c1)→RT 77 [vA (cProg p p1 c p2 c1),vI part,vI loop] I [] (zU  r):=by
 intro p part loop r N I p1 c p2 c1 h h1;unfold zOd at N;refine yL Tryz.func77 fun B=>?_;have H:=iS I;refine yD<|tS (cProg p p1 c p2 c1) ?_;intro b hb;refine wI [] []<|zI<|zZ ?_;refine wT N [] (fun t6=>[(6,.bool t6)]) (fun o0 ho0=>?_) ?_
 · have H:=iS I;refine zK<|qL 2 [0] [(7,vA (cProg p p1 c p2 c1)),(8,vI part)] ?_;obtain ⟨y,hy,N⟩:=zB ho0;refine uH (zI3 p part _ hy h h1) ?_;intro I01 le;have ⟨h1,H⟩:=m2 le h1 H;refine yE 4 [] [10] rfl<|xZ [10] N ?_ ?_
   · intro hc N;refine yE 8 [0] [11,13,14] rfl<|bE N fun x hy1 N=>xK rfl rfl h1 hy1 ?_;intro ad ccs hat hrep;obtain ⟨p3,c2,p4,c3,rfl,h3,h4⟩:=wL hrep;refine yE 10 [] [16] rfl<|xF 0 hat [vS p3 x.Nest c2] (vS p3 x.Nest c2) rfl<|yE 13 [] [19] rfl<|bE N fun y1 hy2 N=>uH (wX loop 0 (W ((x.Nest.length:Int) - 1)) _ hy2 ) ?_;intro I02 le1;have H:=H.trans le1;exact yI [] [6] rfl<|xY zQ<|yN<|zT (ct N H)
   intro hc N;exact wI [] [(6,vF)]<|xY zQ<|yN<|zT (ct N H)
 intro t6 I0 le2 hMc;refine zI<|yW ?_;obtain rfl:=zC hMc;exact wM
def zOb (p:zD) (part:Int) (loop:Int):Option (Bool):=do
 let (y1,y2)←zAH p
 let t6←(do
   if y2 then
    let y3←zOd p part loop
    if y3 then
     let t←y1
     let y4←mI t part
     let x←idx y4 loop
     pure (!x)
    else
     pure false
   else
    pure false
     : Option Bool)
 pure (id t6)
theorem zOn:∀ p part loop r,zOb p part loop=some r→∀ {I:Imm}{p1 c p2 c1},(S4 I p1 p.Arrays c)→(S4 I p2 p.Parts c1)→RT 26 [vA (cProg p p1 c p2 c1),vI part,vI loop] I [] (zU  r):=by
 intro p part loop r N I p1 c p2 c1 h h1;unfold zOb at N;refine yL Tryz.func26 fun B=>?_;have H:=iS I;refine yD<|tS (cProg p p1 c p2 c1) ?_;intro b hb;refine wI [] []<|yX<|qL 1 [0] [(10,vA (cProg p p1 c p2 c1))] ?_;obtain ⟨⟨y1,y2⟩,hy,N⟩:=zB N;refine xP (zM4 p _ hy h h1) ?_;rintro I0 hs2 v2 k2 le - ⟨v0,v01,rfl,rfl,h2,rfl⟩ -;have ⟨h,h1,H⟩:=m3 le h h1 H;refine yI [] [7,8] rfl<|zI<|zZ ?_;refine wT N [] (fun t6=>[(6,.bool t6)]) (fun o0 ho0=>?_) ?_
 · have H:=iS I0;refine zK<|yE 2 [] [15] rfl<|xZ [15] ho0 ?_ ?_
   · intro hc N;refine qL 5 [0] [(16,vA (cProg p p1 c p2 c1)),(17,vI part),(18,vI loop)]<|bE N fun y3 hy1 N=>uH (zOj p part loop _ hy1 h h1) ?_;intro I02 le1;have ⟨h2,H⟩:=m2 le1 h2 H;refine yE 8 [] [21] rfl<|xZ [21] N ?_ ?_
     · intro hc1 N;refine yE 10 [] [22,23] rfl ?_;obtain ⟨t,hy2,N⟩:=zB N;obtain ⟨ad,ccs,rfl,hat,hrep⟩:=zO2 h2 hy2;obtain ⟨p3,c2,p4,c3,p5,c4,p6,c5,p7,c6,rfl,h5,h6,h7,h8,h9⟩:=zLj hrep;obtain ⟨y4,hy3,N⟩:=zB N;refine xP (zI4 t part _ hy3 h5 h6 h7 h8 h9 hat) ?_;rintro I03 hs2 v2 k2 le2 - ⟨p8,c7,cs,rfl,rfl,h10⟩ -;have H:=H.trans le2;refine yE 12 [] [25] rfl<|bE N fun x hy4 N=>nV 0 rfl rfl rfl h10 hy4 ?_;intro ad1 ccs1 hat1 hcc hrep1;obtain rfl:=hrep1;exact zB3 0 0 hat1 hcc [.bool x] (.bool x) rfl rfl<|yI [] [6] rfl<|xY zQ<|yN<|zT (ct N H)
     intro hc1 N;exact wI [] [(6,vF)]<|xY zQ<|yN<|zT (ct N H)
   intro hc N;exact wI [] [(6,vF)]<|xY zQ<|yN<|zT (ct N H)
 intro t6 I01 le3 hMc;refine zI<|yW ?_;obtain rfl:=zC hMc;exact wM
def zOf (r:zD×Int×Int):KT:=fun kk I' hs' v=>
  ∃ v0 v1 v2,hs'=[]∧v=tupV [v0,v1,v2]∧(∃ cs,v0=.agg ⟨cs⟩∧Rp.rep I' cs r.1)∧v1=.int .i64 r.2.1∧v2=.int .i64 r.2.2
def zO7 (code:(List UInt8)):Option (zD×Int×Int):=do
 let y←eA code
 let (y2,y3,y4,y5)←dJ y
 pure (y2,y3,y4)
theorem zOh:∀ code r,zO7 code=some r→∀ {I:Imm}{p c},(S4 I p code c)→RT 29 [vS p code c] I [] (zOf  r):=by
 intro code r N I p c h;unfold zO7 at N;refine yL Tryz.func29 fun B=>yD<|wY zTwo ?_;intro b hb;refine wI [] []<|yX<|yE 1 [] [5] rfl<|bE N fun y hy N=>xP (zLT code _ hy h) ?_;rintro I0 hs2 v2 k2 le - ⟨b1,p1,c1,rfl,rfl,h1⟩ -;obtain ⟨⟨y2,y3,y4,y5⟩,hy1,N⟩:=zB N;refine sJ (zLw y _ hy1 h1) rfl ?_;rintro I01 hs2 v2 k2 le1 - ⟨v0,v01,v02,kk,rfl,rfl,⟨cs,rfl,h2⟩,rfl,rfl,h5⟩ -;obtain ⟨p2,c2,p3,c3,rfl,h6,h7⟩:=jX h2;obtain ⟨p4,c4,rfl,h8⟩:=yA h5;refine yE 6 [] [8,9,10] rfl<|xJ 1 (cProg y2 p2 c2 p3 c3) rfl<|yI [] [3,4] rfl<|zI<|yW ?_;obtain rfl:=zC N;exact xA ⟨_,_,(.cell 1 rfl rfl (by kernel_rfl) (.tmp rfl (.tmp rfl ResV.nil))),zQ,⟨_,_,_,rfl,rfl,⟨_,rfl,(uB ⟨_,_,rfl,h6,h7⟩)⟩,rfl,rfl⟩⟩
def zOP (p:zD):Option ((List zL)):=do
 let (y1,y2)←qG p
 if (!y2) then
  pure ([]:List zL)
 else
  pure (id y1)
theorem zOi:∀ p r,zOP p=some r→∀ {I:Imm}{p1 c p2 c1},(S4 I p1 p.Arrays c)→(S4 I p2 p.Parts c1)→RT 30 [vA (cProg p p1 c p2 c1)] I [] (zCE  r):=by
 intro p r N I p1 c p2 c1 h h1;unfold zOP at N;refine yL Tryz.func30 fun B=>yD<|tS (cProg p p1 c p2 c1) ?_;intro b hb;refine wI [] []<|yX<|qL 1 [0] [(6,vA (cProg p p1 c p2 c1))] ?_;obtain ⟨⟨y1,y2⟩,hy,N⟩:=zB N;refine xP (zA2 p _ hy h h1) ?_;rintro I0 hs2 v2 k2 le - ⟨v0,v01,rfl,rfl,h2,rfl⟩ -;obtain ⟨p3,c2,rfl⟩:=h2.form;refine yI [] [3,4] rfl<|zY<|yF [11] rfl<|zI<|yC N ?_ ?_
 · intro hc N;refine vJ [(2,z0)]<|xG<|zG ?_;obtain rfl:=zC N;exact xA ⟨_,_,(.tmp rfl ResV.nil),zQ,⟨_,rfl,rfl,(SL.nil _)⟩⟩
 intro hc N;refine zS<|wH [2] rfl<|zI<|yW ?_;obtain rfl:=zC N;exact xA ⟨_,_,(.tmp rfl ResV.nil),zQ,⟨_,rfl,rfl,h2⟩⟩
def zOc (p:zD):Option ((List yH)):=do
 let (y1,y2)←zAH p
 if (!y2) then
  pure ([]:List yH)
 else
  let t←y1
  let y3←mF t
  pure (id y3)
theorem zOo:∀ p r,zOc p=some r→∀ {I:Imm}{p1 c p2 c1},(S4 I p1 p.Arrays c)→(S4 I p2 p.Parts c1)→RT 31 [vA (cProg p p1 c p2 c1)] I [] (eU  r):=by
 intro p r N I p1 c p2 c1 h h1;unfold zOc at N;refine yL Tryz.func31 fun B=>yD<|tS (cProg p p1 c p2 c1) ?_;intro b hb;refine wI [] []<|yX<|qL 1 [0] [(6,vA (cProg p p1 c p2 c1))] ?_;obtain ⟨⟨y1,y2⟩,hy,N⟩:=zB N;refine xP (zM4 p _ hy h h1) ?_;rintro I0 hs2 v2 k2 le - ⟨v0,v01,rfl,rfl,h2,rfl⟩ -;refine yI [] [3,4] rfl<|zY<|yF [11] rfl<|zI<|yC N ?_ ?_
 · intro hc N;refine vJ [(2,z0)]<|xG<|zG ?_;obtain rfl:=zC N;exact xA ⟨_,_,(.tmp rfl ResV.nil),zQ,⟨_,rfl,rfl,(SL.nil _)⟩⟩
 intro hc N;refine zS<|yX<|qL 1 [] [(12,v0)] ?_;obtain ⟨t,hy1,N⟩:=zB N;obtain ⟨ad,ccs,rfl,hat,hrep⟩:=zO2 h2 hy1;obtain ⟨p3,c2,p4,c3,p5,c4,p6,c5,p7,c6,rfl,h4,h5,h6,h7,h8⟩:=zLj hrep;obtain ⟨y3,hy2,N⟩:=zB N;refine xP (zDB t _ hy2 h4 h5 h6 h7 h8 hat) ?_;rintro I01 hs2 v2 k2 le1 - ⟨v07,rfl,rfl,h9⟩ -;obtain ⟨p8,c7,rfl⟩:=h9.form;refine yI [] [2] rfl<|zI<|yW ?_;obtain rfl:=zC N;exact xA ⟨_,_,(.tmp rfl ResV.nil),zQ,⟨_,rfl,rfl,h9⟩⟩
def zAC (y2:Int) (y3:Int) (y8:(List zL)) (y9:(List yH)) (some0:Bool) (i:Int):Option (Bool):=do
 if (decide (i < (y9.length:Int))) then
  let x1←idx y9 i
  let x2←idx y8 x1.From
  let x3←idx y9 i
  let x4←idx y8 x3.To
  let t128←(do
    if (x2.Part == y2) then
     if (x4.Part == y2) then
      let l←slc x2.Point 0 y3
      let l1←slc x4.Point 0 y3
      let y10←zOe l l1
      if y10 then
       let x5←idx x2.Point y3
       let x6←idx x4.Point y3
       pure (x5 != x6)
      else
       pure false
     else
      pure false
    else
     pure false
      : Option Bool)
  let some02←(do
    if t128 then
     pure true
    else
     pure (id some0)
      : Option Bool)
  zAC y2 y3 y8 y9 some02 (W (i + 1))
 else
  pure (id some0)
 partial_fixpoint
theorem zOg (y2:Int) (y3:Int) (y8:(List zL)) (y9:(List yH)):∀ (some0:Bool) (i:Int) (o:Bool),zAC y2 y3 y8 y9 some0 i=some o→∀ {B}{I0 I:Imm}{Q}{y4:Bool}{p5 c5 p6 c6},I0.le I→(S4 I p5 y8 c5)→(S4 I p6 y9 c6)→NG Q→NO Q→(∀ (I':Imm) (some01:Bool),o=some01→I0.le I'→T 133 B Q (.exit 0) I' [] [(6,.bool y4),(9,.bool some01)])→J Tryz.prog 133 B (nav (bodyOf Tryz.f7) [1,1,1,1,1,1,1,1,0,1,0]) Q I [] [(4,vI y2),(5,vI y3),(6,.bool y4),(7,vS p5 y8 c5),(8,vS p6 y9 c6),(9,.bool some0),(10,vI i)]:=by
 refine zAC.partial_correctness y2 y3 y8 y9 _ fun self ih some0 i o N B I0 I Q y4 p5 c5 p6 c6 H h12 h13 hg ho hx=>yQ hg ho<|zZ<|yF [76] rfl<|zI<|yC N ?_ ?_
 · intro hc7 N;refine zS<|zY<|yG<|yD<|yE 3 [] [79,80,81] rfl<|bE N fun x1 hy8 N=>xK rfl rfl h13 hy8 ?_;intro ad1 ccs1 hat1 hrep1;obtain rfl:=zAo hrep1;refine yE 5 [] [83] rfl<|xF 0 hat1 [vI x1.From] (vI x1.From) rfl<|bE N fun x2 hy9 N=>xK rfl rfl h12 hy9 ?_;intro ad2 ccs2 hat2 hrep2;obtain ⟨p7,c7,rfl,h14⟩:=qS hrep2;refine xF 0 hat2 (cInst x2 p7 c7) (vA (cInst x2 p7 c7)) rfl<|wY [vI 0,vI 0,z0] ?_;intro b1 hb1;refine xJ 0 (cInst x2 p7 c7) rfl<|yB rfl<|yX<|yE 3 [] [87,88,89] rfl<|bE N fun x3 hy10 N=>xK rfl rfl h13 hy10 ?_;intro ad3 ccs3 hat3 hrep3;obtain rfl:=zAo hrep3;refine yE 5 [] [91] rfl<|xF 1 hat3 [vI x3.To] (vI x3.To) rfl<|bE N fun x4 hy11 N=>xK rfl rfl h12 hy11 ?_;intro ad4 ccs4 hat4 hrep4;obtain ⟨p8,c8,rfl,h15⟩:=qS hrep4;refine xF 0 hat4 (cInst x4 p8 c8) (vA (cInst x4 p8 c8)) rfl<|wY [vI 0,vI 0,z0] ?_;intro b2 hb2;refine xJ 0 (cInst x4 p8 c8) rfl<|yB rfl<|zI<|zZ ?_;refine wT N [] (fun t128=>[(4,vI y2),(5,vI y3),(6,.bool y4),(7,vS p5 y8 c5),(8,vS p6 y9 c6),(9,.bool some0),(10,vI i),(128,.bool t128)]) (fun o01 ho01=>?_) ?_
   · have H:=iS I;cases hc8:(x2.Part == y2) with
     | true =>
      have hM0:=sT hc8 ho01;cases hc9:(x4.Part == y2) with
      | true =>
       have hM01:=sT hc9 hM0;obtain ⟨l,hy12,N⟩:=zB hM01;obtain ⟨l1,hy13,N⟩:=zB N;obtain ⟨y10,hy14,N⟩:=zB N;cases hc10:y10 with
       | true =>
        have hM02:=sT hc10 N;obtain ⟨x5,hy15,N⟩:=zB hM02;obtain ⟨x6,hy16,N⟩:=zB N;refine wK [.p (vP b1 0) [],.p (vI x2.Part) [1],.p (vI y2) [],.q vY,.q vY,.p (vP b2 0) [],.p (vI x4.Part) [0],.p (vI y2) [],.q vY,.q vY,.q vY,.p (vP b1 2) [],.p (vS p7 x2.Point c7) [1],.p (vI y3) [],.x (eS l),.p (vP b2 2) [],.p (vS p8 x4.Point c8) [0],.p (vI y3) [],.x (eS l1),.q vY,.q vY,.q vY,.p (vP b1 2) [],.p (vS p7 x2.Point c7) [1],.p (vI y3) [],.x (fun I' v hx=>∃ ad5,v=.pointer (some ad5)∧hx=[]∧(At I' ad5 [vI x5])),.q (vI x5),.p (vP b2 2) [],.p (vS p8 x4.Point c8) [0],.p (vI y3) [],.x (fun I' v hx=>∃ ad6,v=.pointer (some ad6)∧hx=[]∧(At I' ad6 [vI x6])),.q (vI x6),.p (.bool (x5 != x6)) [],.p (.bool (x5 != x6)) []] [[],[(0,false)],[],[(1,false),(2,false)],[(3,false)],[(4,false)],[(4,false),(5,false)],[(4,false)],[(4,false),(6,false),(7,false)],[(4,false),(8,false)],[(9,false)],[(10,false)],[(10,false),(11,false)],[(10,false)],[(10,false),(12,false),(13,false)],[(10,false)],[(10,false),(15,false)],[(10,false)],[(10,false),(16,false),(17,false)],[(10,false),(14,false),(18,false)],[(10,false),(19,false)],[(20,false)],[(21,false)],[(21,false),(22,false)],[(21,false)],[(21,false),(23,false),(24,false)],[(21,false),(25,false)],[(21,false)],[(21,false),(27,false)],[(21,false)],[(21,false),(28,false),(29,false)],[(21,false),(30,false)],[(21,false),(26,false),(31,false)],[(21,false),(32,false)]] [hB b2 (cInst x4 p8 c8),hB b1 (cInst x2 p7 c7)] [] [(33,false)] (zX [0,1]) ?_ ?_
        · refine Op<|Op<|Op<|Oq ?_<|Oq ?_<|Op<|Op<|Op<|Oq ?_<|Oq ?_<|Oq ?_<|Op<|Op<|Op<|Ox ?_<|Op<|Op<|Op<|Ox ?_<|Oq ?_<|Oq ?_<|Oq ?_<|Op<|Op<|Op<|Ox ?_<|Oq ?_<|Op<|Op<|Op<|Ox ?_<|Oq ?_<|Op<|Op<|On
          · intro I1 hf le1;refine yR [96,97] rfl<|oY 4 [(98,.bool (x2.Part == y2))] ?_;rw [hc8];exact xE iR
          · intro I1 hf le1;exact I_h [(98,vY)]<|oY 5 [(99,vY)]<|xE iR
          · intro I1 hf le1;refine yR [99,101,102] rfl<|oY 9 [(103,.bool (x4.Part == y2))] ?_;rw [hc9];exact xE iR
          · intro I1 hf le1;exact yR [99,103] rfl<|oY 10 [(104,vY)]<|xE iR
          · intro I1 hf le1;exact I_h [(104,vY)]<|oY 11 [(105,vY)]<|xE iR
          · intro I1 hf le1;refine yR [105,107,108] rfl ?_;have h14:=h14.mono le1;refine zOQ rfl h14 hy12 ?_;intro v015 h16;obtain ⟨p9,c9,rfl⟩:=h16.form;exact yK [] iR ⟨_,_,rfl,rfl,h16⟩
          · intro I1 hf le1;refine yR [105,111,112] rfl ?_;have h15:=h15.mono le1;refine zOQ rfl h15 hy13 ?_;intro v016 h17;obtain ⟨p10,c10,rfl⟩:=h17.form;exact yK [] iR ⟨_,_,rfl,rfl,h17⟩
          · rintro I1 hf le1 _ _ ⟨rfl,rfl⟩ _ _ ⟨p9,c9,rfl,rfl,h16⟩ _ _ ⟨p10,c10,rfl,rfl,h17⟩;refine yR [105,109,113] rfl ?_;have H:=iS I1;refine uH (zOl l l1 _ hy14 h16 h17) ?_;intro I09 le8;have H:=H.trans le8;rw [hc10];exact xE H
          · intro I1 hf le1;exact yR [105,114] rfl<|oY 21 [(115,vY)]<|xE iR
          · intro I1 hf le1;exact I_h [(115,vY)]<|oY 22 [(116,vY)]<|xE iR
          · intro I1 hf le1;refine yR [116,118,119] rfl ?_;have h14:=h14.mono le1;refine xK rfl rfl h14 hy15 ?_;intro ad5 ccs5 hat5 hrep5;obtain rfl:=hrep5;exact yK [] iR ⟨_,rfl,rfl,hat5⟩
          · rintro I1 hf le1 _ _ ⟨rfl,rfl⟩ _ _ ⟨ad5,rfl,rfl,hat5⟩;exact yR [116,120] rfl<|xF 0 hat5 [vI x5] (vI x5) rfl<|xE iR
          · intro I1 hf le1;refine yR [116,123,124] rfl ?_;have h15:=h15.mono le1;refine xK rfl rfl h15 hy16 ?_;intro ad6 ccs6 hat6 hrep6;obtain rfl:=hrep6;exact yK [] iR ⟨_,rfl,rfl,hat6⟩
          rintro I1 hf le1 _ _ ⟨rfl,rfl⟩ _ _ ⟨ad6,rfl,rfl,hat6⟩;exact yR [116,125] rfl<|xF 0 hat6 [vI x6] (vI x6) rfl<|xE iR
        intro I010 le9;refine yR [4,5,6,7,8,9,10,128] rfl ?_;have H:=H.trans le9;exact yB rfl<|xY zQ<|yN<|zT (ct N H)
       | false =>
        have hM03:=tU hc10 N;refine wK [.p (vP b1 0) [],.p (vI x2.Part) [1],.p (vI y2) [],.q vY,.q vY,.p (vP b2 0) [],.p (vI x4.Part) [0],.p (vI y2) [],.q vY,.q vY,.q vY,.p (vP b1 2) [],.p (vS p7 x2.Point c7) [1],.p (vI y3) [],.x (eS l),.p (vP b2 2) [],.p (vS p8 x4.Point c8) [0],.p (vI y3) [],.x (eS l1),.q vF,.q vF,.q vF,.p undef [],.p undef [],.p undef [],.p undef [],.p undef [],.p undef [],.p undef [],.p undef [],.p undef [],.p undef [],.p undef [],.p vF []] [[],[(0,false)],[],[(1,false),(2,false)],[(3,false)],[(4,false)],[(4,false),(5,false)],[(4,false)],[(4,false),(6,false),(7,false)],[(4,false),(8,false)],[(9,false)],[(10,false)],[(10,false),(11,false)],[(10,false)],[(10,false),(12,false),(13,false)],[(10,false)],[(10,false),(15,false)],[(10,false)],[(10,false),(16,false),(17,false)],[(10,false),(14,false),(18,false)],[(10,false),(19,false)],[(20,false)],[(21,false)],[(21,false),(22,false)],[(21,false)],[(21,false),(23,false),(24,false)],[(21,false),(25,false)],[(21,false)],[(21,false),(27,false)],[(21,false)],[(21,false),(28,false),(29,false)],[(21,false),(30,false)],[(21,false),(26,false),(31,false)],[(21,false),(32,false)]] [hB b2 (cInst x4 p8 c8),hB b1 (cInst x2 p7 c7)] [] [(33,false)] (zX [0,1]) ?_ ?_
        · refine Op<|Op<|Op<|Oq ?_<|Oq ?_<|Op<|Op<|Op<|Oq ?_<|Oq ?_<|Oq ?_<|Op<|Op<|Op<|Ox ?_<|Op<|Op<|Op<|Ox ?_<|Oq ?_<|Oq ?_<|Oq ?_<|Op<|Op<|Op<|Op<|Op<|Op<|Op<|Op<|Op<|Op<|Op<|Op<|On
          · intro I1 hf le1;refine yR [96,97] rfl<|oY 4 [(98,.bool (x2.Part == y2))] ?_;rw [hc8];exact xE iR
          · intro I1 hf le1;exact I_h [(98,vY)]<|oY 5 [(99,vY)]<|xE iR
          · intro I1 hf le1;refine yR [99,101,102] rfl<|oY 9 [(103,.bool (x4.Part == y2))] ?_;rw [hc9];exact xE iR
          · intro I1 hf le1;exact yR [99,103] rfl<|oY 10 [(104,vY)]<|xE iR
          · intro I1 hf le1;exact I_h [(104,vY)]<|oY 11 [(105,vY)]<|xE iR
          · intro I1 hf le1;refine yR [105,107,108] rfl ?_;have h14:=h14.mono le1;refine zOQ rfl h14 hy12 ?_;intro v015 h16;obtain ⟨p9,c9,rfl⟩:=h16.form;exact yK [] iR ⟨_,_,rfl,rfl,h16⟩
          · intro I1 hf le1;refine yR [105,111,112] rfl ?_;have h15:=h15.mono le1;refine zOQ rfl h15 hy13 ?_;intro v016 h17;obtain ⟨p10,c10,rfl⟩:=h17.form;exact yK [] iR ⟨_,_,rfl,rfl,h17⟩
          · rintro I1 hf le1 _ _ ⟨rfl,rfl⟩ _ _ ⟨p9,c9,rfl,rfl,h16⟩ _ _ ⟨p10,c10,rfl,rfl,h17⟩;refine yR [105,109,113] rfl ?_;have H:=iS I1;refine uH (zOl l l1 _ hy14 h16 h17) ?_;intro I09 le8;have H:=H.trans le8;rw [hc10];exact xE H
          · intro I1 hf le1;exact yR [105,114] rfl<|oY 21 [(115,vF)]<|xE iR
          intro I1 hf le1;exact I_h [(115,vF)]<|oY 22 [(116,vF)]<|xE iR
        intro I011 le10;refine yR [4,5,6,7,8,9,10,128] rfl ?_;have H:=H.trans le10;exact yB rfl<|xY zQ<|yN<|zT (ct hM03 H)
      | false =>
       have hM04:=tU hc9 hM0;refine wK [.p (vP b1 0) [],.p (vI x2.Part) [1],.p (vI y2) [],.q vY,.q vY,.p (vP b2 0) [],.p (vI x4.Part) [0],.p (vI y2) [],.q vF,.q vF,.q vF,.p undef [],.p undef [],.p undef [],.p undef [],.p undef [],.p undef [],.p undef [],.p undef [],.p undef [],.p vF [],.p vF [],.p undef [],.p undef [],.p undef [],.p undef [],.p undef [],.p undef [],.p undef [],.p undef [],.p undef [],.p undef [],.p undef [],.p vF []] [[],[(0,false)],[],[(1,false),(2,false)],[(3,false)],[(4,false)],[(4,false),(5,false)],[(4,false)],[(4,false),(6,false),(7,false)],[(4,false),(8,false)],[(9,false)],[(10,false)],[(10,false),(11,false)],[(10,false)],[(10,false),(12,false),(13,false)],[(10,false)],[(10,false),(15,false)],[(10,false)],[(10,false),(16,false),(17,false)],[(10,false),(14,false),(18,false)],[(10,false),(19,false)],[(20,false)],[(21,false)],[(21,false),(22,false)],[(21,false)],[(21,false),(23,false),(24,false)],[(21,false),(25,false)],[(21,false)],[(21,false),(27,false)],[(21,false)],[(21,false),(28,false),(29,false)],[(21,false),(30,false)],[(21,false),(26,false),(31,false)],[(21,false),(32,false)]] [hB b2 (cInst x4 p8 c8),hB b1 (cInst x2 p7 c7)] [] [(33,false)] (zX [0,1]) ?_ ?_
       · refine Op<|Op<|Op<|Oq ?_<|Oq ?_<|Op<|Op<|Op<|Oq ?_<|Oq ?_<|Oq ?_<|Op<|Op<|Op<|Op<|Op<|Op<|Op<|Op<|Op<|Op<|Op<|Op<|Op<|Op<|Op<|Op<|Op<|Op<|Op<|Op<|Op<|Op<|Op<|On
         · intro I1 hf le1;refine yR [96,97] rfl<|oY 4 [(98,.bool (x2.Part == y2))] ?_;rw [hc8];exact xE iR
         · intro I1 hf le1;exact I_h [(98,vY)]<|oY 5 [(99,vY)]<|xE iR
         · intro I1 hf le1;refine yR [99,101,102] rfl<|oY 9 [(103,.bool (x4.Part == y2))] ?_;rw [hc9];exact xE iR
         · intro I1 hf le1;exact yR [99,103] rfl<|oY 10 [(104,vF)]<|xE iR
         intro I1 hf le1;exact I_h [(104,vF)]<|oY 11 [(105,vF)]<|xE iR
       intro I012 le11;refine yR [4,5,6,7,8,9,10,128] rfl ?_;have H:=H.trans le11;exact yB rfl<|xY zQ<|yN<|zT (ct hM04 H)
     | false =>
      have hM05:=tU hc8 ho01;refine wK [.p (vP b1 0) [],.p (vI x2.Part) [1],.p (vI y2) [],.q vF,.q vF,.p undef [],.p undef [],.p undef [],.p undef [],.p vF [],.p vF [],.p undef [],.p undef [],.p undef [],.p undef [],.p undef [],.p undef [],.p undef [],.p undef [],.p undef [],.p vF [],.p vF [],.p undef [],.p undef [],.p undef [],.p undef [],.p undef [],.p undef [],.p undef [],.p undef [],.p undef [],.p undef [],.p undef [],.p vF []] [[],[(0,false)],[],[(1,false),(2,false)],[(3,false)],[(4,false)],[(4,false),(5,false)],[(4,false)],[(4,false),(6,false),(7,false)],[(4,false),(8,false)],[(9,false)],[(10,false)],[(10,false),(11,false)],[(10,false)],[(10,false),(12,false),(13,false)],[(10,false)],[(10,false),(15,false)],[(10,false)],[(10,false),(16,false),(17,false)],[(10,false),(14,false),(18,false)],[(10,false),(19,false)],[(20,false)],[(21,false)],[(21,false),(22,false)],[(21,false)],[(21,false),(23,false),(24,false)],[(21,false),(25,false)],[(21,false)],[(21,false),(27,false)],[(21,false)],[(21,false),(28,false),(29,false)],[(21,false),(30,false)],[(21,false),(26,false),(31,false)],[(21,false),(32,false)]] [hB b2 (cInst x4 p8 c8),hB b1 (cInst x2 p7 c7)] [] [(33,false)] (zX [0,1]) ?_ ?_
      · refine Op<|Op<|Op<|Oq ?_<|Oq ?_<|Op<|Op<|Op<|Op<|Op<|Op<|Op<|Op<|Op<|Op<|Op<|Op<|Op<|Op<|Op<|Op<|Op<|Op<|Op<|Op<|Op<|Op<|Op<|Op<|Op<|Op<|Op<|Op<|Op<|On
        · intro I1 hf le1;refine yR [96,97] rfl<|oY 4 [(98,.bool (x2.Part == y2))] ?_;rw [hc8];exact xE iR
        intro I1 hf le1;exact I_h [(98,vF)]<|oY 5 [(99,vF)]<|xE iR
      intro I013 le12;refine yR [4,5,6,7,8,9,10,128] rfl ?_;have H:=H.trans le12;exact yB rfl<|xY zQ<|yN<|zT (ct hM05 H)
   intro t128 I08 le13 hMc1;have ⟨h12,h13,H⟩:=m3 le13 h12 h13 H;refine zI ?_;refine wT hMc1 [] (fun some02=>[(4,vI y2),(5,vI y3),(6,.bool y4),(7,vS p5 y8 c5),(8,vS p6 y9 c6),(9,.bool some02),(10,vI i)]) (fun o02 ho02=>?_) ?_
   · have H:=iS I08;refine yC ho02 ?_ ?_
     · intro hc11 N;exact zK<|wI [] [(9,vY)]<|yN<|zT (ct N H)
     intro hc11 N;exact zS<|yN<|zT (ct N H)
   intro some02 I014 le14 hMc2;have ⟨h12,h13,H⟩:=m3 le14 h12 h13 H;exact zO<|zI<|zK<|yI [] [10] rfl<|yO<|nF<|ih some02 (W (i + 1)) _ hMc2 H h12 h13 hg ho hx
 intro hc7 N;exact wJ<|yN<|hx _ _ (zC N).symm H
def zO8 (code:(List UInt8)):Option (Bool):=do
 if (decide ((code.length:Int) > 1048576)) then
  pure true
 else
  let (y1,y2,y3)←zO7 code
  let y4←zOb y1 y2 y3
  let t62←(do
    let y5←kU y1 y2 y3
    if (!(y4 == y5)) then
     pure true
    else
     let y6←zOa y1
     if (!y6) then
      pure true
     else
      if (decide (y2 < 0)) then
       pure true
      else
       if (decide (y2 ≥ (y1.Parts.length:Int))) then
        pure true
       else
        if (decide (y3 < 0)) then
         pure true
        else
         let x←idx y1.Parts y2
         pure (decide (y3 ≥ (x.Nest.length:Int)))
      : Option Bool)
  if t62 then
   let y7←kU y1 y2 y3
   pure (y4 == y7)
  else
   let y8←zOP y1
   let y9←zOc y1
   let some01←zAC y2 y3 y8 y9 false 0
   pure (y4 == (!some01))
theorem zOk:∀ code r,zO8 code=some r→∀ {I:Imm}{p c},(S4 I p code c)→RT 7 [vS p code c] I [] (zU  r):=by
 intro code r N I p c h;unfold zO8 at N;refine yL Tryz.func7 fun B=>?_;have H:=iS I;refine vJ []<|zY<|yF [15] rfl<|zI<|yC N ?_ ?_
 · intro hc N;refine vJ [(2,vY)]<|xG<|zG ?_;obtain rfl:=zC N;exact wM
 intro hc N;refine zS<|yX<|yE 1 [] [17] rfl ?_;obtain ⟨⟨y1,y2,y3⟩,hy,N⟩:=zB N;refine xP (zOh code _ hy h) ?_;rintro I0 hs2 v2 k2 le - ⟨v0,v01,v02,rfl,rfl,⟨cs,rfl,h1⟩,rfl,rfl⟩ -;have H:=H.trans le;obtain ⟨p1,c1,p2,c2,rfl,h4,h5⟩:=jX h1;refine yE 6 [] [19,20,21] rfl<|wY zTwo ?_;intro b hb;refine xJ 0 (cProg y1 p1 c1 p2 c2) rfl<|yI [] [4,5] rfl<|yX<|qL 3 [0] [(22,vA (cProg y1 p1 c1 p2 c2)),(23,vI y2),(24,vI y3)]<|bE N fun y4 hy1 N=>uH (zOn y1 y2 y3 _ hy1 h4 h5) ?_;intro I01 le1;have ⟨h4,h5,H⟩:=m3 le1 h4 h5 H;refine yI [] [6] rfl<|zY<|zZ ?_;refine wT N [hB b (cProg y1 p1 c1 p2 c2)] (fun t62=>[(3,vP b 0),(4,vI y2),(5,vI y3),(6,.bool y4),(62,.bool t62)]) (fun o0 ho0=>?_) ?_
 · have H:=iS I01;refine zK<|qL 4 [0] [(26,.bool y4),(27,vA (cProg y1 p1 c1 p2 c2)),(28,vI y2),(29,vI y3)] ?_;obtain ⟨y5,hy2,N⟩:=zB ho0;refine uH (zJF y1 y2 y3 _ hy2 h4 h5) ?_;intro I03 le2;have ⟨h4,h5,H⟩:=m3 le2 h4 h5 H;refine yE 7 [] [32] rfl<|xZ [32] N ?_ ?_
   · intro hc1 N;exact wI [] [(62,vY)]<|yN<|zT (ct N H)
   intro hc1 N;refine qL 8 [0] [(33,vA (cProg y1 p1 c1 p2 c2))]<|bE N fun y6 hy3 N=>uH (zOm y1 _ hy3 h4 h5) ?_;intro I04 le3;have ⟨h5,H⟩:=m2 le3 h5 H;refine yE 12 [] [37] rfl<|xZ [37] N ?_ ?_
   · intro hc2 N;exact wI [] [(62,vY)]<|yN<|zT (ct N H)
   intro hc2 N;refine yE 16 [] [41] rfl<|xZ [41] N ?_ ?_
   · intro hc3 N;exact wI [] [(62,vY)]<|yN<|zT (ct N H)
   intro hc3 N;refine yE 23 [0] [48] rfl<|xZ [48] N ?_ ?_
   · intro hc4 N;exact wI [] [(62,vY)]<|yN<|zT (ct N H)
   intro hc4 N;refine yE 27 [] [52] rfl<|xZ [52] N ?_ ?_
   · intro hc5 N;exact wI [] [(62,vY)]<|yN<|zT (ct N H)
   intro hc5 N;refine yE 31 [0] [53,55,56] rfl<|bE N fun x hy4 N=>xK rfl rfl h5 hy4 ?_;intro ad ccs hat hrep;obtain ⟨p3,c3,p4,c4,rfl,h9,h10⟩:=wL hrep;exact yE 33 [] [58] rfl<|xF 0 hat [vS p3 x.Nest c3] (vS p3 x.Nest c3) rfl<|yI [] [62] rfl<|yN<|zT (ct N H)
 intro t62 I02 le4 hMc;have ⟨h4,h5⟩:=m2 le4 h4 h5;refine zI<|yC hMc ?_ ?_
 · intro hc6 N;refine yD<|qL 4 [0] [(63,.bool y4),(64,vA (cProg y1 p1 c1 p2 c2)),(65,vI y2),(66,vI y3)]<|bE N fun y7 hy5 N=>uH (zJF y1 y2 y3 _ hy5 h4 h5) fun I05 le5=>wI [] [(2,.bool (y4 == y7))]<|xG<|zG ?_;obtain rfl:=zC N;exact wM
 intro hc6 N;refine zS<|yX<|qL 1 [0] [(69,vA (cProg y1 p1 c1 p2 c2))]<|bE N fun y8 hy6 N=>xP (zOi y1 _ hy6 h4 h5) ?_;rintro I06 hs2 v2 k2 le6 - ⟨v011,rfl,rfl,h12⟩ -;have ⟨h4,h5⟩:=m2 le6 h4 h5;obtain ⟨p5,c5,rfl⟩:=h12.form;refine yI [] [7] rfl<|yX<|qL 1 [0] [(71,vA (cProg y1 p1 c1 p2 c2))]<|bE N fun y9 hy7 N=>xP (zOo y1 _ hy7 h4 h5) ?_;rintro I07 hs2 v2 k2 le7 - ⟨v012,rfl,rfl,h13⟩ -;have h12:=h12.mono le7;obtain ⟨p6,c6,rfl⟩:=h13.form;refine yI [] [8] rfl<|zFr [(9,vF)]<|zY<|yF [10] rfl<|xW<|jG (zX [] (hs':=[]))<|qW [(4,vI y2),(5,vI y3),(6,.bool y4),(7,vS p5 y8 c5),(8,vS p6 y9 c6),(9,vF),(10,vI 0)] ?_;obtain ⟨o03,ho03,hMl⟩:=zB N;refine zOg y2 y3 y8 y9 false 0 o03 ho03 iR h12 h13 (fun _ _ _ h=>h) (fun _ _ h=>h) ?_;intro I015 some01 heq3 le15;subst o03;refine zR<|wH [2] rfl<|zI<|yW ?_;obtain rfl:=zC hMl;exact wM
end Go.LN
namespace Go.LN
theorem zOs {α:Type}{s:List α}{f i:Nat} (hf:f ≤ i) (hi:i ≤ s.length):slc s (f:Int) (i:Int)=some ((s.take i).drop f):=by
  unfold slc;rw [if_pos (by omega)];simp
end Go.LN
namespace Go.LN
theorem implValidP (P:zD) (h:BG P):zOa P=some (validP P):=by
  unfold zOa validP;rw [implInstances P h];cases progB P <;> rfl
theorem implInstP (P:zD) (h:BG P):zOP P=some (if validP P then progI P else []):=by
  unfold zOP validP;rw [implInstances P h];cases progB P with
  | false=>rfl
  | true=>cases hd:decide ((progI P).length ≤ 120) <;> simp [hd]
end Go.LN
namespace Go.LN
theorem intsV (a b:List Int) (h:a.length ≤ 1048576):zOe a b=some (decide (a=b)):=by
  unfold zOe;by_cases hl:a.length=b.length
  · have hf:=eQ (n:=a.length) (f:=zO9 a b) (P:=fun i=>a.getD i 0 == b.getD i 0) (fun i hi=>by
      rw [zO9];have h1:((i:Int) < (a.length:Int)):=by omega
      have hib:i < b.length:=by omega
      have g1:a.getD i 0=a[i]:=by simp [hi]
      have g2:b.getD i 0=b[i]:=by simp [hib]
      simp only [h1,dT,if_true,yJ hi,yJ hib,oB,oS,oP,g1,g2];by_cases e:a[i]=b[i]
      · simp only [e,bne_self_eq_false,bF,if_false,bQ,if_true];rw [wD (by omega)]
      · simp [e]) (by rw [zO9]; simp)
    rw [hf];have hlb:((a.length:Int) != (b.length:Int))=false:=by simp [hl]
    simp only [hlb,bF,if_false,oB,oS];by_cases e:a=b
    · subst e; simp
    · have:((List.range a.length).all fun i=>a.getD i 0 == b.getD i 0)=false:=by
        cases hq:((List.range a.length).all fun i=>a.getD i 0 == b.getD i 0) with
        | false=>rfl
        | true =>
          refine absurd (List.ext_getElem hl fun i h1 h2=>?_) e;have:=List.all_eq_true.1 hq i (List.mem_range.2 h1);simpa [h1,h2] using this
      simp only [this,bF,if_false,e,dF,oP]
  · have hlb:((a.length:Int) != (b.length:Int))=true:=by simp; omega
    have e:a ≠ b:=fun e=>hl (by rw [e]);simp [hlb,e]
end Go.LN
namespace Go.LN
theorem implDeps (P:zD) (hb:BG P):zOc P=some (dpF P):=by
  unfold zOc dpF;rw [implTrace P hb];cases hv:validP P with
  | false=>rfl
  | true =>
    have hlen:=(jM hv).2.2.2;have hi:∀ z ∈ progI P,InP P z:=fun z hz=>dG hb hv hz;have hl:=zNN hi hlen _ 0 [] (Nat.zero_add _) (by simp);rw [nZ,List.nil_append] at hl;simp only [if_true,oB,oS,bT,bF,if_false,mF,hl,oP,id]
end Go.LN
namespace Go.LN
theorem zOt:∀ {a b:List Int},a.length=b.length→(∀ x ∈ a,-9999 ≤ x∧x ≤ 9999)→(∀ x ∈ b,-9999 ≤ x∧x ≤ 9999)→∀ k:Nat,atK k (minV b a)=(decide (k < a.length) && (decide (a.take k=b.take k) && !(a.getD k 0 == b.getD k 0)))
  | [],[],_,_,_,k=>by simp [atK,minV,nzF]
  | x::a,y::b,hl,ha,hb,k=>by
    have h1:=ha x (List.mem_cons_self ..)
    have h2:=hb y (List.mem_cons_self ..)
    have e:minV (y::b) (x::a)=(y - x)::minV b a:=by
      show W (y - x)::minV b a=_
      rw [rH (by omega) (by omega)]
    have ih:=zOt (a:=a) (b:=b) (by simpa using hl) (fun z hz=>ha z (List.mem_cons_of_mem _ hz)) (fun z hz=>hb z (List.mem_cons_of_mem _ hz))
    unfold atK at ih ⊢
    rw [e,nzF]
    by_cases hxy:x=y
    · rw [if_pos (by omega)]
      cases k with
      | zero =>
        cases nzF (minV b a) with
        | none=>simp [hxy]
        | some z=>simp [hxy]
      | succ k =>
        have ih:=ih k
        cases hz:nzF (minV b a) with
        | none =>
          rw [hz] at ih
          simp only [Option.map_none] at ih ⊢
          simp only [List.length_cons,Nat.succ_lt_succ_iff,List.take_succ_cons,List.cons.injEq,hxy,true_and,List.getD_cons_succ]
          exact ih
        | some z =>
          rw [hz] at ih
          simp only [Option.map_some] at ih ⊢
          simp only [List.length_cons,Nat.succ_lt_succ_iff,List.take_succ_cons,List.cons.injEq,hxy,true_and,List.getD_cons_succ]
          rw [← ih]
          simp
    · rw [if_neg (by omega)]
      cases k with
      | zero=>simp [hxy]
      | succ k=>simp [hxy]
  | [],_::_,hl,_,_,_=>by simp at hl
  | _::_,[],hl,_,_,_=>by simp at hl
def carB (P:zD) (part:Int) (k:Nat) (d:yH):Bool:=inPt P part d && (decide (k < (zIns P d.From.toNat).Point.length) && (decide ((zIns P d.From.toNat).Point.take k=(zIns P d.To.toNat).Point.take k) && !((zIns P d.From.toNat).Point.getD k 0 == (zIns P d.To.toNat).Point.getD k 0)))
theorem zOw {P:zD} (hb:BG P) (part:Int) (k:Nat):crd P part k=(dpF P).any (carB P part k):=by
  have key:∀ d ∈ dpF P,inPt P part d=true→atK k (dvF P d)=(decide (k < (zIns P d.From.toNat).Point.length) && (decide ((zIns P d.From.toNat).Point.take k=(zIns P d.To.toNat).Point.take k) && !((zIns P d.From.toNat).Point.getD k 0 == (zIns P d.To.toNat).Point.getD k 0))):=fun d hd hp=>by
    obtain ⟨hv,i,m,e1,e2,h1,h2⟩:=zIm hd;have hi:i < (progI P).length:=by omega
    unfold inPt at hp;unfold dvF;rw [e1,e2,iN,iN,bA,beq_iff_eq,beq_iff_eq] at hp;rw [e1,e2,iN,iN];exact zOt (zKi hb hv hi h2 (by rw [hp.1,hp.2])).1 (zM1 (dG hb hv (zB0 hi)).pin.2.2.1) (zM1 (dG hb hv (zB0 h2)).pin.2.2.1) k
  rw [Bool.eq_iff_iff];unfold crd;rw [List.any_eq_true,List.any_eq_true];constructor
  · rintro ⟨l,hl,h⟩;have hl:=zMX.1 hl;unfold dvs at hl;obtain ⟨d,hd,rfl⟩:=List.mem_map.1 hl;rw [List.mem_filter] at hd;refine ⟨d,hd.1,?_⟩;unfold carB;rw [hd.2,Bool.true_and,← key d hd.1 hd.2]; exact h
  · rintro ⟨d,hd,h⟩;unfold carB at h;rw [bA] at h;refine ⟨dvF P d,zMX.2 ?_,?_⟩
    · unfold dvs;exact List.mem_map.2 ⟨d,List.mem_filter.2 ⟨hd,h.1⟩,rfl⟩
    · rw [key d hd h.1]; exact h.2
end Go.LN
namespace Go.LN
theorem implLP (P:zD) (hb:BG P) (part loop:Int):zOb P part loop=some (lpB P part loop):=by
  unfold zOb;rw [implTrace P hb];cases hv:validP P with
  | false=>rw [zOH (by rw [hv]; simp)]; rfl
  | true =>
    simp only [if_true,oB,oS,oP,zOd,isPartL hb,id];by_cases h:0 ≤ part∧part ≤ (P.Parts.length:Int) - 1
    · have h4:=nest4 hv (show part.toNat < P.Parts.length by omega);simp only [h.1,h.2,dT,Bool.and_self,if_true,zN3 h,oS,mD,rH (x:=((gP P part.toNat).Nest.length:Int) - 1) (by omega) (by omega),crdV hb hv h];by_cases hq:0 ≤ loop∧loop ≤ ((gP P part.toNat).Nest.length:Int) - 1
      · have hx:idx (bsL (gP P part.toNat).Nest.length (crd P part)) loop=some (crd P part loop.toNat):=by
          have:=zKn (n:=(gP P part.toNat).Nest.length) (m:=loop.toNat) (g:=crd P part) (by omega);rwa [show ((loop.toNat:Nat):Int)=loop by omega] at this
        simp only [hq.1,hq.2,dT,Bool.and_self,if_true,hx,oS];rw [zNS ⟨hv,h,hq⟩]
      · have e:(decide (0 ≤ loop) && decide (loop ≤ ((gP P part.toNat).Nest.length:Int) - 1))=false:=by
          cases hw:(decide (0 ≤ loop) && decide (loop ≤ ((gP P part.toNat).Nest.length:Int) - 1)) with
          | false=>rfl
          | true=>simp only [bA,decide_eq_true_eq] at hw; exact absurd hw hq
        simp only [e,bF,if_false,oS];rw [zOH fun x=>hq x.2.2]
    · simp only [zO3 h,bF,if_false,oS];rw [zOH fun x=>h x.2.1]
end Go.LN
namespace Go.LN
theorem drawLP (code:List UInt8):Ok (zO7 code) (fun y=>BG y.1):=by
  unfold zO7;exact Ok.call (zN2 code) trivial fun s hs=>Ok.bind (args9 s (by omega)) fun y hy=>Ok.pure hy
theorem zOx {P:zD} (hb:BG P) {part:Int}{k:Nat} (hk:k < (gP P part.toNat).Nest.length) {D:List yH} (hD:∀ d ∈ D,d ∈ dpF P) (hl:D.length ≤ 1000000):∀ (j i:Nat) (b:Bool),i + j=D.length→zAC part (k:Int) (progI P) D b (i:Int)=some (b || (D.drop i).any (carB P part k)):=by
  intro j
  induction j with
  | zero =>
    intro i b hi;rw [zAC];have:¬((i:Int) < (D.length:Int)):=by omega
    have e:D.drop i=[]:=dN.2 (by omega);simp only [this,dF,bF,if_false,oP,id,e,List.any_nil,Bool.or_false]
  | succ j ih =>
    intro i b hi;have h1:i < D.length:=by omega
    have hc:((i:Int) < (D.length:Int)):=by omega
    obtain ⟨hv,p,q,e1,e2,g1,g2⟩:=zIm (hD _ (gM h1));have hp:p < (progI P).length:=by omega
    have zp:idx (progI P) (p:Int)=some (zIns P p):=by rw [yJ hp]; simp [zIns,hp]
    have zq:idx (progI P) (q:Int)=some (zIns P q):=by rw [yJ g2]; simp [zIns,g2]
    rw [zAC,gC h1,List.any_cons];have key:(if ((zIns P p).Part == part)=true then if ((zIns P q).Part == part)=true then (slc (zIns P p).Point 0 (k:Int)).bind fun l=>(slc (zIns P q).Point 0 (k:Int)).bind fun l1=>(zOe l l1).bind fun y10=>if y10=true then (idx (zIns P p).Point (k:Int)).bind fun x5=>(idx (zIns P q).Point (k:Int)).bind fun x6=>some (x5 != x6) else some false else some false else some false)=some (carB P part k D[i]):=by
      unfold carB inPt;rw [e1,e2,iN,iN];cases c1:(zIns P p).Part == part with
      | false=>simp
      | true =>
        cases c2:(zIns P q).Part == part with
        | false=>simp
        | true =>
          have d1:(zIns P p).Part=part:=by simpa using c1
          have d2:(zIns P q).Part=part:=by simpa using c2
          have hs:=zKi hb hv hp g2 (by rw [d1,d2]);have w1:(zIns P q).Point.length=(gP P part.toNat).Nest.length:=by rw [hs.2,d2]
          have w2:(zIns P p).Point.length=(gP P part.toNat).Nest.length:=by rw [hs.1,w1]
          have n4:=(dG hb hv (zB0 hp)).pt;have s1:=zOs (s:=(zIns P p).Point) (f:=0) (i:=k) (Nat.zero_le _) (by omega);have s2:=zOs (s:=(zIns P q).Point) (f:=0) (i:=k) (Nat.zero_le _) (by omega);rw [nZ,List.drop_zero] at s1 s2;have i1:idx (zIns P p).Point (k:Int)=some ((zIns P p).Point.getD k 0):=by
            rw [yJ (show k < (zIns P p).Point.length by omega)]; simp [show k < (zIns P p).Point.length by omega]
          have i2:idx (zIns P q).Point (k:Int)=some ((zIns P q).Point.getD k 0):=by
            rw [yJ (show k < (zIns P q).Point.length by omega)]; simp [show k < (zIns P q).Point.length by omega]
          have hI:=intsV ((zIns P p).Point.take k) ((zIns P q).Point.take k) (by rw [List.length_take]; omega);simp only [if_true,s1,s2,hI,i1,i2,oS,Bool.and_self,Bool.true_and,decide_eq_true (show k < (zIns P p).Point.length by omega)];cases decide ((zIns P p).Point.take k=(zIns P q).Point.take k) with
          | false=>simp
          | true=>rfl
    simp only [hc,dT,if_true,yJ h1,e1,e2,zp,zq,oB,oS,oP];rw [key,wD (by omega)];cases hq:carB P part k D[i] with
    | true =>
      simp only [if_true,oS,id];rw [ih (i + 1) true (by omega)]; simp
    | false =>
      simp only [bF,if_false,oS,id];rw [ih (i + 1) b (by omega),Bool.false_or]
theorem zOq (code:List UInt8):∃ r,zO8 code=some r∧r=true:=by
  obtain ⟨y,hy,hb⟩:=drawLP code;obtain ⟨P,part,loop⟩:=y;have hb:BG P:=hb;unfold zO8;refine ⟨true,?_,rfl⟩;by_cases h1:(code.length:Int) > 1048576
  · simp [h1]
  · simp only [h1,dF,bF,if_false,hy,implLP P hb part loop,specLP P hb part loop,implValidP P hb,bQ,bT,oP,oB,oS];cases hv:validP P with
    | false=>simp
    | true =>
      by_cases c1:part < 0
      · simp [c1]
      · by_cases c2:part ≥ (P.Parts.length:Int)
        · simp [c1,c2]
        · by_cases c3:loop < 0
          · simp [c1,c2,c3]
          · have h:0 ≤ part∧part ≤ (P.Parts.length:Int) - 1:=by omega
            by_cases c4:loop ≥ ((gP P part.toNat).Nest.length:Int)
            · simp [c1,c2,c3,c4,zN3 h]
            · have hk:loop.toNat < (gP P part.toNat).Nest.length:=by omega
              have hdl:=zIi (P:=P);have hw:=zOx hb hk (D:=dpF P) (fun d hd=>hd) (by omega) _ 0 false (Nat.zero_add _);rw [nZ,List.drop_zero,Bool.false_or,show ((loop.toNat:Nat):Int)=loop by omega] at hw;have hI:zOP P=some (progI P):=by rw [implInstP P hb,if_pos hv]
              rw [zNS ⟨hv,h,by omega,by omega⟩,zOw hb];simp only [c1,c2,c3,c4,dF,bT,bF,if_false,zN3 h,hI,implDeps P hb,hw,oS,bQ]
end Go.LN
