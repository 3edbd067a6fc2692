/- Helper of the proof (see the last text). -/
import Derived.Test.YtpacccdphbhfbaaGreatLnA
import Derived.Test.YtpacccdphbhfbaaGreatLnI
import Derived.Test.YtpacccdphbhfbaaGreatLnO
import Derived.Test.YtpacccdphbhfbaaGreatLnZ3
import Derived.Test.YtpacccdphbhfbaaGreatTryzShelf
import Derived.Test.YtpacccdphbhfbaaGreatHM1
import Derived.Test.YtpacccdphbhfbaaGreatHM2
import Derived.Test.YtpacccdphbhfbaaGreatHM3
import Derived.Test.YtpacccdphbhfbaaGreatHM4
import Derived.Test.YtpacccdphbhfbaaGreatHM5
import Derived.Test.YtpacccdphbhfbaaGreatHM6
import Derived.Test.YtpacccdphbhfbaaGreatHM7
import Derived.Test.YtpacccdphbhfbaaGreatQT
import Derived.Test.YtpacccdphbhfbaaGreatQZ
import Derived.Test.YtpacccdphbhfbaaGreatVB1
import Derived.Test.YtpacccdphbhfbaaGreatVB8
import Derived.Test.YtpacccdphbhfbaaGreatVL3
import Derived.Test.YtpacccdphbhfbaaGreatLnR
set_option linter.unusedVariables false
set_option linter.unusedSimpArgs false
namespace Go.LN
open Go.Proofs
set_option maxRecDepth 20000
def zOc (r:zD×Int):KT:=fun kk I' hs' v=>
  ∃ v0 v1,hs'=[]∧v=tupV [v0,v1]∧(∃ cs,v0=.agg ⟨cs⟩∧Rp.rep I' cs r.1)∧v1=.int .i64 r.2
def zO8 (code:(List UInt8)):Option (zD×Int):=do
 let y←eA code
 let (y2,y3,y4,y5)←dJ y
 pure (y2,y3)
theorem zOe:∀ code r,zO8 code=some r→∀ {I:Imm}{p c},(S4 I p code c)→RT 32 [vS p code c] I [] (zOc  r):=by
 intro code r N I p c h;unfold zO8 at N;refine yL Tryz.func32 fun B=>yD<|wY zTwo ?_;intro b hb;refine wI [] []<|yX<|yE 1 [] [8] rfl<|bE N fun y hy N=>xP (zLT code _ hy h) ?_;rintro I0 hs2 v2 k2 le - ⟨b1,p1,c1,rfl,rfl,h1⟩ -;obtain ⟨⟨y2,y3,y4,y5⟩,hy1,N⟩:=zB N;refine sJ (zLw y _ hy1 h1) rfl ?_;rintro I01 hs2 v2 k2 le1 - ⟨v0,v01,v02,kk,rfl,rfl,⟨cs,rfl,h2⟩,rfl,rfl,h5⟩ -;obtain ⟨p2,c2,p3,c3,rfl,h6,h7⟩:=jX h2;obtain ⟨p4,c4,rfl,h8⟩:=yA h5;refine yE 7 [] [11,12,13] rfl<|wY zTwo ?_;intro b2 hb1;refine xJ 0 (cProg y2 p2 c2 p3 c3) rfl<|yI [] [5] rfl<|yX<|qL 2 [0] [(14,vA (cProg y2 p2 c2 p3 c3)),(15,vI y3)]<|xJ 2 (cProg y2 p2 c2 p3 c3) rfl<|yI [] [3] rfl<|zI<|yW ?_;obtain rfl:=zC N;exact xA ⟨_,_,(.cell 2 rfl rfl (by kernel_rfl) (.tmp rfl ResV.nil)),zQ,⟨_,_,rfl,rfl,⟨_,rfl,(uB ⟨_,_,rfl,h6,h7⟩)⟩,rfl⟩⟩
def zOP (code:(List UInt8)):Option (zD×Int):=do
 let (y1,y2)←zO8 code
 pure (y1,y2)
theorem zOf:∀ code r,zOP code=some r→∀ {I:Imm}{p c},(S4 I p code c)→RT 8 [vS p code c] I [] (zOc  r):=by
 intro code r N I p c h;unfold zOP at N;refine yL Tryz.func8 fun B=>yD<|wY zTwo ?_;intro b hb;refine wI [] []<|yX<|yE 1 [] [4] rfl ?_;obtain ⟨⟨y1,y2⟩,hy,N⟩:=zB N;refine xP (zOe code _ hy h) ?_;rintro I0 hs2 v2 k2 le - ⟨v0,v01,rfl,rfl,⟨cs,rfl,h1⟩,rfl⟩ -;obtain ⟨p1,c1,p2,c2,rfl,h3,h4⟩:=jX h1;refine yE 4 [] [6,7] rfl<|xJ 0 (cProg y1 p1 c1 p2 c2) rfl<|yI [] [3] rfl<|zI<|yW ?_;obtain rfl:=zC N;exact xA ⟨_,_,(.cell 0 rfl rfl (by kernel_rfl) (.tmp rfl ResV.nil)),zQ,⟨_,_,rfl,rfl,⟨_,rfl,(uB ⟨_,_,rfl,h3,h4⟩)⟩,rfl⟩⟩
end Go.LN
namespace Go.LN
open Go.Proofs
set_option maxRecDepth 20000
def zOa (p:zD) (part:Int) (loop:Int):Option (Bool):=do
 let t6←(do
   let y←mH p part
   if y then
    let x←idx p.Parts part
    let y1←wG loop 0 (W ((x.Nest.length:Int) - 1))
    pure (id y1)
   else
    pure false
     : Option Bool)
 pure (id t6)
theorem zOh:∀ p part loop r,zOa p part loop=some r→∀ {I:Imm}{p1 c p2 c1},(S4 I p1 p.Arrays c)→(S4 I p2 p.Parts c1)→RT 77 [vA (cProg p p1 c p2 c1),vI part,vI loop] I [] (zU  r):=by
 intro p part loop r N I p1 c p2 c1 h h1;unfold zOa at N;refine yL Tryz.func77 fun B=>?_;have H:=iS I;refine yD<|tS (cProg p p1 c p2 c1) ?_;intro b hb;refine wI [] []<|zI<|zZ ?_;refine wT N [] (fun t6=>[(6,.bool t6)]) (fun o0 ho0=>?_) ?_
 · have H:=iS I;refine zK<|qL 2 [0] [(7,vA (cProg p p1 c p2 c1)),(8,vI part)] ?_;obtain ⟨y,hy,N⟩:=zB ho0;refine uH (zI3 p part _ hy h h1) ?_;intro I01 le;have ⟨h1,H⟩:=m2 le h1 H;refine yE 4 [] [10] rfl<|xZ [10] N ?_ ?_
   · intro hc N;refine yE 8 [0] [11,13,14] rfl<|bE N fun x hy1 N=>xK rfl rfl h1 hy1 ?_;intro ad ccs hat hrep;obtain ⟨p3,c2,p4,c3,rfl,h3,h4⟩:=wL hrep;refine yE 10 [] [16] rfl<|xF 0 hat [vS p3 x.Nest c2] (vS p3 x.Nest c2) rfl<|yE 13 [] [19] rfl<|bE N fun y1 hy2 N=>uH (wX loop 0 (W ((x.Nest.length:Int) - 1)) _ hy2 ) ?_;intro I02 le1;have H:=H.trans le1;exact yI [] [6] rfl<|xY zQ<|yN<|zT (ct N H)
   intro hc N;exact wI [] [(6,vF)]<|xY zQ<|yN<|zT (ct N H)
 intro t6 I0 le2 hMc;refine zI<|yW ?_;obtain rfl:=zC hMc;exact wM
def zO9 (p:zD) (part:Int) (loop:Int):Option (Bool):=do
 let (y1,y2)←zAH p
 let t6←(do
   if y2 then
    let y3←zOa p part loop
    if y3 then
     let t←y1
     let y4←mI t part
     let x←idx y4 loop
     pure (!x)
    else
     pure false
   else
    pure false
     : Option Bool)
 pure (id t6)
theorem zOi:∀ p part loop r,zO9 p part loop=some r→∀ {I:Imm}{p1 c p2 c1},(S4 I p1 p.Arrays c)→(S4 I p2 p.Parts c1)→RT 26 [vA (cProg p p1 c p2 c1),vI part,vI loop] I [] (zU  r):=by
 intro p part loop r N I p1 c p2 c1 h h1;unfold zO9 at N;refine yL Tryz.func26 fun B=>?_;have H:=iS I;refine yD<|tS (cProg p p1 c p2 c1) ?_;intro b hb;refine wI [] []<|yX<|qL 1 [0] [(10,vA (cProg p p1 c p2 c1))] ?_;obtain ⟨⟨y1,y2⟩,hy,N⟩:=zB N;refine xP (zM4 p _ hy h h1) ?_;rintro I0 hs2 v2 k2 le - ⟨v0,v01,rfl,rfl,h2,rfl⟩ -;have ⟨h,h1,H⟩:=m3 le h h1 H;refine yI [] [7,8] rfl<|zI<|zZ ?_;refine wT N [] (fun t6=>[(6,.bool t6)]) (fun o0 ho0=>?_) ?_
 · have H:=iS I0;refine zK<|yE 2 [] [15] rfl<|xZ [15] ho0 ?_ ?_
   · intro hc N;refine qL 5 [0] [(16,vA (cProg p p1 c p2 c1)),(17,vI part),(18,vI loop)]<|bE N fun y3 hy1 N=>uH (zOh p part loop _ hy1 h h1) ?_;intro I02 le1;have ⟨h2,H⟩:=m2 le1 h2 H;refine yE 8 [] [21] rfl<|xZ [21] N ?_ ?_
     · intro hc1 N;refine yE 10 [] [22,23] rfl ?_;obtain ⟨t,hy2,N⟩:=zB N;obtain ⟨ad,ccs,rfl,hat,hrep⟩:=zO2 h2 hy2;obtain ⟨p3,c2,p4,c3,p5,c4,p6,c5,p7,c6,rfl,h5,h6,h7,h8,h9⟩:=zLj hrep;obtain ⟨y4,hy3,N⟩:=zB N;refine xP (zI4 t part _ hy3 h5 h6 h7 h8 h9 hat) ?_;rintro I03 hs2 v2 k2 le2 - ⟨p8,c7,cs,rfl,rfl,h10⟩ -;have H:=H.trans le2;refine yE 12 [] [25] rfl<|bE N fun x hy4 N=>nV 0 rfl rfl rfl h10 hy4 ?_;intro ad1 ccs1 hat1 hcc hrep1;obtain rfl:=hrep1;exact zB3 0 0 hat1 hcc [.bool x] (.bool x) rfl rfl<|yI [] [6] rfl<|xY zQ<|yN<|zT (ct N H)
     intro hc1 N;exact wI [] [(6,vF)]<|xY zQ<|yN<|zT (ct N H)
   intro hc N;exact wI [] [(6,vF)]<|xY zQ<|yN<|zT (ct N H)
 intro t6 I01 le3 hMc;refine zI<|yW ?_;obtain rfl:=zC hMc;exact wM
def zOb (p:zD) (part:Int):Option ((List (List Int))):=do
 let (y1,y2)←zAH p
 let t19←(do
   if (!y2) then
    pure true
   else
    let y3←mH p part
    pure (!y3)
     : Option Bool)
 if t19 then
  pure ([]:List (List Int))
 else
  let t←y1
  let y4←qU t part
  pure (id y4)
theorem zOj:∀ p part r,zOb p part=some r→∀ {I:Imm}{p1 c p2 c1},(S4 I p1 p.Arrays c)→(S4 I p2 p.Parts c1)→RT 28 [vA (cProg p p1 c p2 c1),vI part] I [] (wC  r):=by
 intro p part r N I p1 c p2 c1 h h1;unfold zOb at N;refine yL Tryz.func28 fun B=>?_;have H:=iS I;refine yD<|tS (cProg p p1 c p2 c1) ?_;intro b hb;refine wI [] []<|yX<|qL 1 [0] [(8,vA (cProg p p1 c p2 c1))] ?_;obtain ⟨⟨y1,y2⟩,hy,N⟩:=zB N;refine xP (zM4 p _ hy h h1) ?_;rintro I0 hs2 v2 k2 le - ⟨v0,v01,rfl,rfl,h2,rfl⟩ -;have ⟨h,h1,H⟩:=m3 le h h1 H;refine yI [] [5,6] rfl<|zY<|zZ ?_;refine wT N [] (fun t19=>[(1,vI part),(5,v0),(19,.bool t19)]) (fun o0 ho0=>?_) ?_
 · have H:=iS I0;refine zK<|yE 3 [] [14] rfl<|xZ [14] ho0 ?_ ?_
   · intro hc N;exact wI [] [(19,vY)]<|xY zQ<|yN<|zT (ct N H)
   intro hc N;refine qL 5 [0] [(15,vA (cProg p p1 c p2 c1)),(16,vI part)]<|bE N fun y3 hy1 N=>uH (zI3 p part _ hy1 h h1) ?_;intro I02 le1;have H:=H.trans le1;exact yI [] [19] rfl<|xY zQ<|yN<|zT (ct N H)
 intro t19 I01 le2 hMc;have h2:=h2.mono le2;refine zI<|yC hMc ?_ ?_
 · intro hc1 N;refine vJ [(4,z0)]<|xG<|zG ?_;obtain rfl:=zC N;exact xA ⟨_,_,(.tmp rfl ResV.nil),zQ,⟨_,rfl,rfl,(SL.nil _)⟩⟩
 intro hc1 N;refine zS<|yX<|yE 2 [] [20,21] rfl ?_;obtain ⟨t,hy2,N⟩:=zB N;obtain ⟨ad,ccs,rfl,hat,hrep⟩:=zO2 h2 hy2;obtain ⟨p3,c2,p4,c3,p5,c4,p6,c5,p7,c6,rfl,h5,h6,h7,h8,h9⟩:=zLj hrep;obtain ⟨y4,hy3,N⟩:=zB N;refine xP (zAu t part _ hy3 h5 h6 h7 h8 h9 hat) ?_;rintro I03 hs2 v2 k2 le3 - ⟨v08,rfl,rfl,h10⟩ -;obtain ⟨p8,c7,rfl⟩:=h10.form;refine yI [] [4] rfl<|zI<|yW ?_;obtain rfl:=zC N;exact xA ⟨_,_,(.tmp rfl ResV.nil),zQ,⟨_,rfl,rfl,h10⟩⟩
def zAC (y6:(List (List Int))) (i:Int):Option (Out Unit (Bool)):=do
 if (decide (i < (y6.length:Int))) then
  let x←idx y6 i
  let x1←idx x 0
  if (x1 != 0) then
   pure (.ret false)
  else
   zAC y6 (W (i + 1))
 else
  pure (.done ())
 partial_fixpoint
theorem zOd (y6:(List (List Int))):∀ (i:Int) (o:Out Unit (Bool)),zAC y6 i=some o→∀ {B}{I0 I:Imm}{Q p3 c3},I0.le I→(S4 I p3 y6 c3)→NG Q→NO Q→(∀ (I':Imm) ,o=(.done ())→I0.le I'→T 49 B Q (.exit 0) I' [] [])→(∀ r I' hs' m',o=(.ret r)→I0.le I'→RS Tryz.prog Tryz.f6 B (zU  r) I' hs' m'→T 49 B Q .ret I' hs' m')→J Tryz.prog 49 B (nav (bodyOf Tryz.f6) [1,1,1,1,1,1,0,1,0]) Q I [] [(6,vS p3 y6 c3),(7,vI i)]:=by
 refine zAC.partial_correctness y6 _ fun self ih i o N B I0 I Q p3 c3 H h8 hg ho hx hr=>yQ hg ho<|zZ<|yF [39] rfl<|zI<|yC N ?_ ?_
 · intro hc3 N;refine zS<|zY<|yG<|yD<|yE 2 [] [42,43] rfl<|bE N fun x hy5 N=>xK rfl rfl h8 hy5 ?_;intro ad ccs hat hrep;obtain ⟨v08,rfl,h9⟩:=hrep;obtain ⟨p4,c4,rfl⟩:=h9.form;refine xF 0 hat [vS p4 x c4] (vS p4 x c4) rfl<|bE N fun x1 hy6 N=>xK rfl rfl h9 hy6 ?_;intro ad1 ccs1 hat1 hrep1;obtain rfl:=hrep1;refine xF 0 hat1 [vI x1] (vI x1) rfl<|yI [] [48] rfl<|zI<|yC N ?_ ?_
   · intro hc4 N;exact vJ [(2,vF)]<|xG<|zV<|zG<|zG<|hr _ _ _ _ (zC N).symm H ⟨_,_,(.tmp rfl ResV.nil),zQ,⟨_,rfl,rfl,rfl⟩⟩
   intro hc4 N;exact zS<|zO<|zI<|zK<|yI [] [7] rfl<|yO<|nF<|ih (W (i + 1)) _ N H h8 hg ho hx hr
 intro hc3 N;exact wJ<|yN<|hx _  (zC N).symm H
def zO7 (code:(List UInt8)):Option (Bool):=do
 if (decide ((code.length:Int) > 1048576)) then
  pure true
 else
  let (y1,y2)←zOP code
  let y3←zO9 y1 y2 0
  let t27←(do
    let y4←kU y1 y2 0
    if (!(y3 == y4)) then
     pure true
    else
     pure (!y3)
      : Option Bool)
  if t27 then
   let y5←kU y1 y2 0
   pure (y3 == y5)
  else
   let y6←zOb y1 y2
   match←zAC y6 0 with
   | .ret r0=>pure r0
   | .done _ =>
    pure true
theorem zOg:∀ code r,zO7 code=some r→∀ {I:Imm}{p c},(S4 I p code c)→RT 6 [vS p code c] I [] (zU  r):=by
 intro code r N I p c h;unfold zO7 at N;refine yL Tryz.func6 fun B=>?_;have H:=iS I;refine vJ []<|zY<|yF [10] rfl<|zI<|yC N ?_ ?_
 · intro hc N;refine vJ [(2,vY)]<|xG<|zG ?_;obtain rfl:=zC N;exact wM
 intro hc N;refine zS<|yX<|yE 1 [] [12] rfl ?_;obtain ⟨⟨y1,y2⟩,hy,N⟩:=zB N;refine xP (zOf code _ hy h) ?_;rintro I0 hs2 v2 k2 le - ⟨v0,v01,rfl,rfl,⟨cs,rfl,h1⟩,rfl⟩ -;have H:=H.trans le;obtain ⟨p1,c1,p2,c2,rfl,h3,h4⟩:=jX h1;refine yE 5 [] [14,15] rfl<|wY zTwo ?_;intro b hb;refine xJ 0 (cProg y1 p1 c1 p2 c2) rfl<|yI [] [4] rfl<|yX<|qL 2 [0] [(16,vA (cProg y1 p1 c1 p2 c2)),(17,vI y2)]<|bE N fun y3 hy1 N=>uH (zOi y1 y2 0 _ hy1 h3 h4) ?_;intro I01 le1;have ⟨h3,h4,H⟩:=m3 le1 h3 h4 H;refine yI [] [5] rfl<|zY<|zZ ?_;refine wT N [hB b (cProg y1 p1 c1 p2 c2)] (fun t27=>[(3,vP b 0),(4,vI y2),(5,.bool y3),(27,.bool t27)]) (fun o0 ho0=>?_) ?_
 · have H:=iS I01;refine zK<|qL 3 [0] [(19,.bool y3),(20,vA (cProg y1 p1 c1 p2 c2)),(21,vI y2)] ?_;obtain ⟨y4,hy2,N⟩:=zB ho0;refine uH (zJF y1 y2 0 _ hy2 h3 h4) ?_;intro I03 le2;have H:=H.trans le2;refine yE 6 [] [24] rfl<|xZ [24] N ?_ ?_
   · intro hc1 N;exact wI [] [(27,vY)]<|yN<|zT (ct N H)
   intro hc1 N;exact yI [] [27] rfl<|yN<|zT (ct N H)
 intro t27 I02 le3 hMc;have ⟨h3,h4⟩:=m2 le3 h3 h4;refine zI<|yC hMc ?_ ?_
 · intro hc2 N;refine yD<|qL 3 [0] [(28,.bool y3),(29,vA (cProg y1 p1 c1 p2 c2)),(30,vI y2)]<|bE N fun y5 hy3 N=>uH (zJF y1 y2 0 _ hy3 h3 h4) fun I04 le4=>wI [] [(2,.bool (y3 == y5))]<|xG<|zG ?_;obtain rfl:=zC N;exact wM
 intro hc2 N;refine zS<|yX<|qL 2 [0] [(33,vA (cProg y1 p1 c1 p2 c2)),(34,vI y2)]<|bE N fun y6 hy4 N=>xP (zOj y1 y2 _ hy4 h3 h4) ?_;rintro I05 hs2 v2 k2 le5 - ⟨v07,rfl,rfl,h8⟩ -;obtain ⟨p3,c3,rfl⟩:=h8.form;refine yI [] [6] rfl<|zY<|yF [7] rfl<|xW<|jG (zX [] (hs':=[]))<|qW [(6,vS p3 y6 c3),(7,vI 0)] ?_;obtain ⟨o01,ho01,hMl⟩:=zB N;refine zOd y6 0 o01 ho01 iR h8 (fun _ _ _ h=>h) (fun _ _ h=>h) ?_ ?_
 · intro I06  heq1 le6;subst o01;refine zR<|zFr [(2,vY)]<|zI<|yW ?_;obtain rfl:=zC hMl;exact wM
 intro r0 I9 hs9 m9 heq9 le9 hrs9;subst heq9;refine zV<|zG ?_;obtain rfl:=zC hMl;exact xA hrs9
end Go.LN
namespace Go.LN
theorem zOo {P:zD} (hb:BG P) {part:Int} (h:¬(0 ≤ part∧part ≤ (P.Parts.length:Int) - 1)):dvs P part=[]:=by
  cases e:dvs P part with
  | nil=>rfl
  | cons l r =>
    obtain ⟨hv,i,k,h1,h2,h3,h4,_⟩:=zKj hb (part:=part) (l:=l) (by rw [e]; exact List.mem_cons_self ..);have:=(dG hb hv (zB0 h2)).part;rw [h4] at this;exact absurd ⟨this.1,by omega⟩ h
theorem implDist (P:zD) (hb:BG P) (part:Int):zOb P part=some (dsF P part):=by
  unfold zOb;rw [implTrace P hb];cases hv:validP P with
  | false =>
    have e:dvs P part=[]:=by unfold dvs dpF; rw [hv]; rfl
    have e2:dsF P part=[]:=by unfold dsF; rw [e]; exact zMU
    rw [e2]; rfl
  | true =>
    simp only [if_true,oB,oS,bT,bF,if_false,isPartL hb,oP];by_cases h:0 ≤ part∧part ≤ (P.Parts.length:Int) - 1
    · simp only [h.1,h.2,dT,Bool.and_self,bT,bF,if_false,tdist hb hv,oS,id]
    · have e:(decide (0 ≤ part) && decide (part ≤ (P.Parts.length:Int) - 1))=false:=by
        cases hq:(decide (0 ≤ part) && decide (part ≤ (P.Parts.length:Int) - 1)) with
        | false=>rfl
        | true=>simp only [bA,decide_eq_true_eq] at hq; exact absurd hq h
      have e2:dsF P part=[]:=by unfold dsF; rw [zOo hb h]; exact zMU
      simp only [e,Bool.not_false,if_true,e2]
end Go.LN
namespace Go.LN
theorem zOp {x:Int}{d:List Int}:atK 0 (x::d)=!(x == 0):=by
  unfold atK;rw [nzF];by_cases h:x=0
  · rw [if_pos h,h];cases nzF d with
    | none=>rfl
    | some y=>simp
  · rw [if_neg h]; simp [h]
end Go.LN
namespace Go.LN
theorem implLP (P:zD) (hb:BG P) (part loop:Int):zO9 P part loop=some (lpB P part loop):=by
  unfold zO9;rw [implTrace P hb];cases hv:validP P with
  | false=>rw [zOH (by rw [hv]; simp)]; rfl
  | true =>
    simp only [if_true,oB,oS,oP,zOa,isPartL hb,id];by_cases h:0 ≤ part∧part ≤ (P.Parts.length:Int) - 1
    · have h4:=nest4 hv (show part.toNat < P.Parts.length by omega);simp only [h.1,h.2,dT,Bool.and_self,if_true,zN3 h,oS,mD,rH (x:=((gP P part.toNat).Nest.length:Int) - 1) (by omega) (by omega),crdV hb hv h];by_cases hq:0 ≤ loop∧loop ≤ ((gP P part.toNat).Nest.length:Int) - 1
      · have hx:idx (bsL (gP P part.toNat).Nest.length (crd P part)) loop=some (crd P part loop.toNat):=by
          have:=zKn (n:=(gP P part.toNat).Nest.length) (m:=loop.toNat) (g:=crd P part) (by omega);rwa [show ((loop.toNat:Nat):Int)=loop by omega] at this
        simp only [hq.1,hq.2,dT,Bool.and_self,if_true,hx,oS];rw [zNS ⟨hv,h,hq⟩]
      · have e:(decide (0 ≤ loop) && decide (loop ≤ ((gP P part.toNat).Nest.length:Int) - 1))=false:=by
          cases hw:(decide (0 ≤ loop) && decide (loop ≤ ((gP P part.toNat).Nest.length:Int) - 1)) with
          | false=>rfl
          | true=>simp only [bA,decide_eq_true_eq] at hw; exact absurd hw hq
        simp only [e,bF,if_false,oS];rw [zOH fun x=>hq x.2.2]
    · simp only [zO3 h,bF,if_false,oS];rw [zOH fun x=>h x.2.1]
end Go.LN
namespace Go.LN
theorem drawPL (code:List UInt8):Ok (zOP code) (fun y=>BG y.1):=by
  unfold zOP zO8;exact Ok.bind (Ok.call (zN2 code) trivial fun s hs=>Ok.bind (args9 s (by omega)) fun y hy=>Ok.pure (φ:=fun y:zD×Int=>BG y.1) hy) fun y hy=>Ok.pure hy
theorem zOq {D:List (List Int)} (hD:D.length ≤ 1000000) (h:∀ d ∈ D,0 < d.length∧atK 0 d=false):∀ (j i:Nat),i + j=D.length→zAC D (i:Int)=some (.done ()):=by
  intro j
  induction j with
  | zero =>
    intro i hi;rw [zAC];have:¬((i:Int) < (D.length:Int)):=by omega
    simp only [this,dF,bF,if_false,oP]
  | succ j ih =>
    intro i hi;have h1:i < D.length:=by omega
    have hc:((i:Int) < (D.length:Int)):=by omega
    obtain ⟨a,b⟩:=h _ (gM h1);have e:idx D[i] 0=some (0:Int):=by
      cases hd:D[i] with
      | nil=>rw [hd] at a; exact absurd a (Nat.lt_irrefl _)
      | cons x d =>
        rw [hd,zOp] at b;have hx:x=0:=by simpa using b
        subst hx;have:=yJ (l:=(0:Int)::d) (i:=0) (by simp);rwa [nZ] at this
    rw [zAC];simp only [hc,dT,if_true,yJ h1,e,bne_self_eq_false,bF,if_false,oB,oS,oP];rw [wD (by omega),ih (i + 1) (by omega)]
theorem zOk (code:List UInt8):∃ r,zO7 code=some r∧r=true:=by
  obtain ⟨y,hy,hb⟩:=drawPL code;obtain ⟨P,part⟩:=y;have hb:BG P:=hb;unfold zO7;refine ⟨true,?_,rfl⟩;by_cases h1:(code.length:Int) > 1048576
  · simp [h1]
  · simp only [h1,dF,bF,if_false,hy,implLP P hb part 0,specLP P hb part 0,bQ,bT,oP,oB,oS];by_cases h:validP P=true∧(0 ≤ part∧part ≤ (P.Parts.length:Int) - 1)∧(0:Int) ≤ 0∧(0:Int) ≤ ((gP P part.toNat).Nest.length:Int) - 1
    · rw [zNS h];cases hc:crd P part (0:Int).toNat with
      | true=>simp
      | false =>
        have hl:=zMY (P:=P) part;have hc:(dsF P part).any (atK 0)=false:=hc;have h3:=h.2.2.2;have hp:∀ d ∈ dsF P part,0 < d.length∧atK 0 d=false:=fun d hd=>by
          have b3:=(zIo hb hd).2.2.2.2.2.1;refine ⟨by rw [b3]; omega,?_⟩;have:=List.any_eq_false.1 hc d hd;simpa using this
        have hw:=zOq (D:=dsF P part) (by omega) hp _ 0 (Nat.zero_add _);rw [nZ] at hw;simp only [Bool.not_false,bT,bF,if_false,implDist P hb part,hw,oS]
    · rw [zOH h]; simp
end Go.LN
