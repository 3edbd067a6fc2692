/- Helper of the proof (see the last text). -/
import Derived.Test.YtaflkghnfcjahaaGreatHM3
set_option linter.unusedVariables false
set_option linter.unusedSimpArgs false
namespace Go.LN
open Go.Proofs
set_option maxRecDepth 20000
def kX (n0:Int) (name:Str):Option (Str):=do
 let (n01,sign)←(do
   if (decide (n0 < 0)) then
    pure ((W (0 - n0)),(⟨[45]⟩:Str))
   else
    pure (n0,(⟨[43]⟩:Str))
     : Option (Int×Str))
 if (name.l == ([]:List UInt8)) then
  let y←rY n01
  let s←cat sign y
  pure (id s)
 else
  if (n01 == 1) then
   let s1←cat sign name
   pure (id s1)
  else
   let y1←rY n01
   let s2←cat sign y1
   let s3←cat s2 (⟨[42]⟩:Str)
   let s4←cat s3 name
   pure (id s4)
theorem zB9:∀ n0 name r,kX n0 name=some r→∀ {I:Imm} ,RT 261 [vI n0,vT name.l] I [] (rR  r):=by
 intro n0 name r N I;unfold kX at N;refine yL Tryz.func261 fun B=>?_;have H:=iS I;refine wV []<|wW [5] rfl<|zX<|yD [7] rfl<|zI ?_;obtain ⟨o0,ho0,hMc⟩:=zC N;refine oC (fun I' hs' m'=>∃ (n01:Int) (sign:Str),o0=(n01,sign)∧I.le I'∧hs'=[]∧m'=[(0,vI n01),(1,vT name.l),(5,vT sign.l)]) ?_ ?_
 · have H:=iS I;refine yB ho0 ?_ ?_
   · intro hc N;exact yD [5] rfl<|zI<|zL<|yJ [] [0] rfl<|yO<|zV ⟨_,_,(zB N).symm,H,rfl,rfl⟩
   intro hc N;exact zS<|yO<|zV ⟨_,_,(zB N).symm,H,rfl,rfl⟩
 rintro I0 hs2 m2 ⟨n01,sign,heq,le,rfl,rfl⟩;subst o0;refine zX<|yD [11] rfl<|zI<|yB hMc ?_ ?_
 · intro hc1 N;refine yF<|yH 2 [] [12,13] rfl<|bE N fun y hy N=>xV (dJ n01 _ hy ) ?_;rintro I01 hs2 v2 k2 le1 - ⟨v0,rfl,rfl,rfl⟩ -;obtain ⟨s,hy1,N⟩:=zC N;refine dC rfl hy1<|yJ [] [4] rfl<|xB<|zF ?_;obtain rfl:=zB N;exact wL
 intro hc1 N;refine zS<|zX<|yD [17] rfl<|zI<|yB N ?_ ?_
 · intro hc2 N;refine yF<|yH 2 [] [18,19] rfl<|bE N fun s1 hy2 N=>dC rfl hy2<|yJ [] [4] rfl<|xB<|zF ?_;obtain rfl:=zB N;exact wL
 intro hc2 N;refine zS<|xG<|yH 2 [] [21,22] rfl<|bE N fun y1 hy3 N=>xV (dJ n01 _ hy3 ) ?_;rintro I02 hs2 v2 k2 le2 - ⟨v01,rfl,rfl,rfl⟩ -;obtain ⟨s2,hy4,N⟩:=zC N;refine dC rfl hy4<|bE N fun s3 hy5 N=>dC rfl hy5<|yH 6 [] [26] rfl<|bE N fun s4 hy6 N=>dC rfl hy6<|yJ [] [4] rfl<|zI<|yZ ?_;obtain rfl:=zB N;exact wL
def pJ (a0:zA) (out:Str) (i:Int):Option (Str):=do
 if (decide (i < (a0.Coefs.length:Int))) then
  let x←idx a0.Coefs i
  let out2←(do
    if (x != 0) then
     let x1←idx a0.Coefs i
     let s←sslc (⟨[105,106,107,108]⟩:Str) i (W (i + 1))
     let y←kX x1 s
     let s1←cat out y
     pure (id s1)
    else
     pure (id out)
      : Option Str)
  pJ a0 out2 (W (i + 1))
 else
  pure (id out)
 partial_fixpoint
theorem zD0 (a0:zA):∀ (out:Str) (i:Int) (o:Str),pJ a0 out i=some o→∀ {B}{I0 I:Imm}{Q p c}{b:Nat},I0.le I→(S4 I p a0.Coefs c)→NG Q→NO Q→(∀ (I':Imm) (out1:Str),o=out1→I0.le I'→T 46 B Q (.exit 0) I' [hB b (cAff a0 p c)] [(1,vP b 0),(3,vT out1.l)])→J Tryz.prog 46 B (nav (bodyOf Tryz.f236) [1,1,0,1,0]) Q I [hB b (cAff a0 p c)] [(1,vP b 0),(3,vT out.l),(4,vI i)]:=by
 refine pJ.partial_correctness a0 _ fun self ih out i o N B I0 I Q p c b H h hg ho hx=>yR hg ho<|zZ<|yF<|yJ [0] [9] rfl<|zI<|yB N ?_ ?_
 · intro hc N;refine zS<|zX<|yG<|yF<|yH 3 [0] [13,14] rfl<|bE N fun x hy N=>xS rfl rfl h hy ?_;intro ad ccs hat hrep;obtain rfl:=hrep;refine xL 0 hat [vI x] (vI x) rfl<|yJ [] [17] rfl<|zI ?_;refine wP N [hB b (cAff a0 p c)] (fun out2=>[(1,vP b 0),(3,vT out2.l),(4,vI i)]) (fun o0 ho0=>?_) ?_
   · have H:=iS I;refine yB ho0 ?_ ?_
     · intro hc1 N;obtain ⟨x1,hy1,N⟩:=zC N;obtain ⟨s,hy2,N⟩:=zC N;obtain ⟨y,hy3,N⟩:=zC N;obtain ⟨s1,hy4,N⟩:=zC N;refine wX [.p (vT out.l) [],.p (vP b 0) [],.p (vS p a0.Coefs c) [0],.p (vI i) [],.x (fun I' v hx=>∃ ad1,v=.pointer (some ad1)∧hx=[]∧(At I' ad1 [vI x1])),.q (vI x1),.p (vI i) [],.p (vI i) [],.p (vI (W (i + 1))) [],.q (vT s.l),.q (vT y.l),.q (vT s1.l)] [[],[],[(1,false)],[],[(2,false),(3,false)],[(4,false)],[],[],[(7,false)],[(6,false),(8,false)],[(5,false),(9,false)],[(0,false),(10,false)]] [hB b (cAff a0 p c)] [] [(11,false)] (zY [0]) ?_ ?_
       · refine Op<|Op<|Op<|Op<|Ox ?_<|Oq ?_<|Op<|Op<|Op<|Oq ?_<|Oq ?_<|Oq ?_<|On
         · intro I1 hf le1;refine yS [20,21] rfl ?_;have h:=h.mono le1;refine xS rfl rfl h hy1 ?_;intro ad1 ccs1 hat1 hrep1;obtain rfl:=hrep1;exact yK [] iR ⟨_,rfl,rfl,hat1⟩
         · rintro I1 hf le1 _ _ ⟨ad1,rfl,rfl,hat1⟩;exact yS [22] rfl<|xL 0 hat1 [vI x1] (vI x1) rfl<|xF iR
         · intro I1 hf le1;exact yS [24,26] rfl<|zGX rfl hy2<|xF iR
         · intro I1 hf le1;refine yS [23,27] rfl ?_;have H:=iS I1;refine xV (zB9 x1 s _ hy3 ) ?_;rintro I01 hs2 v2 k2 le - ⟨v0,rfl,rfl,rfl⟩ -;have H:=H.trans le;exact xF H
         intro I1 hf le1;exact yS [18,28] rfl<|dC rfl hy4<|xF iR
       intro I02 le1;refine yS [1,4,29] rfl ?_;have H:=H.trans le1;exact yJ [] [3] rfl<|yO<|zV (ct N H)
     intro hc1 N;exact zS<|yO<|zV (ct N H)
   intro out2 I0 le2 hMc;have ⟨h,H⟩:=m2 le2 h H;exact zO<|zI<|zL<|yJ [] [4] rfl<|yQ<|nO<|ih out2 (W (i + 1)) _ hMc H h hg ho hx
 intro hc N;exact wY<|yO<|hx _ _ (zB N).symm H
def mN (a0:zA):Option (Str):=do
 let out1←pJ a0 (⟨[]⟩:Str) 0
 let out3←(do
   if (a0.Const != 0) then
    let y1←kX a0.Const (⟨[]⟩:Str)
    let s2←cat out1 y1
    pure (id s2)
   else
    pure (id out1)
     : Option Str)
 if (out3.l == ([]:List UInt8)) then
  pure (⟨[48]⟩:Str)
 else
  let s3←sslc out3 0 1
  if (s3.l == ([43]:List UInt8)) then
   let s4←sslc out3 1 (out3.l.length:Int)
   pure (id s4)
  else
   pure (id out3)
theorem dK:∀ a0 r,mN a0=some r→∀ {I:Imm}{p c},(S4 I p a0.Coefs c)→RT 236 [vA (cAff a0 p c)] I [] (rR  r):=by
 intro a0 r N I p c h;unfold mN at N;refine yL Tryz.func236 fun B=>?_;have H:=iS I;refine yF<|tX (cAff a0 p c) ?_;intro b hb;refine vG [] []<|wW [3] rfl<|zX<|yD [4] rfl<|wB<|qW [(1,vP b 0),(3,vT ([])),(4,vI 0)] ?_;obtain ⟨o01,ho01,hMl⟩:=zC N;refine zD0 a0 (⟨[]⟩:Str) 0 o01 ho01 iR h (fun _ _ _ h=>h) (fun _ _ h=>h) ?_;intro I03 out1 heq1 le3;subst o01;have H:=H.trans le3;refine zR<|zX<|yF<|yJ [0] [32] rfl<|zI ?_;refine wP hMl [] (fun out3=>[(3,vT out3.l)]) (fun o02 ho02=>?_) ?_
 · have H:=iS I03;refine yB ho02 ?_ ?_
   · intro hc2 N;refine zL<|yH 3 [0] [33,35] rfl<|bE N fun y1 hy5 N=>xV (zB9 a0.Const (⟨[]⟩:Str) _ hy5 ) ?_;rintro I05 hs2 v2 k2 le4 - ⟨v01,rfl,rfl,rfl⟩ -;have H:=H.trans le4;obtain ⟨s2,hy6,N⟩:=zC N;exact dC rfl hy6<|yJ [] [3] rfl<|wA zP<|yO<|zV (ct N H)
   intro hc2 N;exact zS<|wA zP<|yO<|zV (ct N H)
 intro out3 I04 le5 hMc1;refine zX<|yD [39] rfl<|zI<|yB hMc1 ?_ ?_
 · intro hc3 N;refine yD [2] rfl<|xB<|zF ?_;obtain rfl:=zB N;exact wL
 intro hc3 N;refine zS<|zX<|yF<|yH 1 [] [40] rfl<|bE N fun s3 hy7 N=>zGX rfl hy7<|yJ [] [42] rfl<|zI<|yB N ?_ ?_
 · intro hc4 N;refine yF<|yH 1 [] [43] rfl<|bE N fun s4 hy8 N=>zGX rfl hy8<|yJ [] [2] rfl<|xB<|zF ?_;obtain rfl:=zB N;exact wL
 intro hc4 N;refine zS<|wW [2] rfl<|zI<|yZ ?_;obtain rfl:=zB N;exact wL
def oU (a0:zA):Option (Str):=do
 let y←uB a0
 if (!y) then
  pure (⟨[]⟩:Str)
 else
  let y1←mN a0
  pure (id y1)
theorem zBa:∀ a0 r,oU a0=some r→∀ {I:Imm}{p c},(S4 I p a0.Coefs c)→RT 266 [vA (cAff a0 p c)] I [] (rR  r):=by
 intro a0 r N I p c h;unfold oU at N;refine yL Tryz.func266 fun B=>yF<|tX (cAff a0 p c) ?_;intro b hb;refine vG [] []<|zX<|yF<|oD 1 [0] [(3,vA (cAff a0 p c))]<|bE N fun y hy N=>uH (mT a0 _ hy h) ?_;intro I0 le;have h:=h.mono le;refine yJ [] [5] rfl<|zI<|yB N ?_ ?_
 · intro hc N;refine yD [2] rfl<|xB<|zF ?_;obtain rfl:=zB N;exact wL
 intro hc N;refine zS<|xG<|oD 1 [0] [(6,vA (cAff a0 p c))]<|bE N fun y1 hy1 N=>xV (dK a0 _ hy1 h) ?_;rintro I01 hs2 v2 k2 le1 - ⟨v01,rfl,rfl,rfl⟩ -;refine yJ [] [2] rfl<|zI<|yZ ?_;obtain rfl:=zB N;exact wL
def zBM (r:zA×Bool):KT:=fun kk I' hs' v=>
  ∃ v0 v1,hs'=[]∧v=tupV [v0,v1]∧(∃ cs,v0=.agg ⟨cs⟩∧Rp.rep I' cs r.1)∧v1=.bool r.2
def rA (text:Str) (at0:Int) (x:zA):Option (zA):=do
 let t18←(do
   if (decide (at0 ≥ 0)) then
    pure (decide (at0 < (text.l.length:Int)))
   else
    pure false
     : Option Bool)
 if t18 then
  let (y2,y3)←jH x text at0
  rA text y3 y2
 else
  pure (id x)
 partial_fixpoint
theorem zAo (text:Str):∀ (at0:Int) (x:zA) (o:zA),rA text at0 x=some o→∀ {B}{I0 I:Imm}{Q}  {b:Nat}{b1:Nat}{p1 c1},I0.le I→(S4 I p1 x.Coefs c1)→NG Q→NO Q→(∀ (I':Imm) (x1:zA) (p2:Option Addr) (c2:Nat),o=x1→I0.le I'→(S4 I' p2 x1.Coefs c2)→T 32 B Q (.exit 0) I' [hB b1 (cAff x1 p2 c2),hB b [z0,vI 0]] [(0,vT text.l),(2,vP b 0),(4,vP b1 0)])→J Tryz.prog 32 B (nav (bodyOf Tryz.f253) [1,1,1,1,0,0]) Q I [hB b1 (cAff x p1 c1),hB b [z0,vI 0]] [(0,vT text.l),(2,vP b 0),(4,vP b1 0),(5,vI at0)]:=by
 refine rA.partial_correctness text _ fun self ih at0 x o N B I0 I Q b b1 p1 c1 H h2 hg ho hx=>yR hg ho<|zZ<|zZ ?_;refine wP N [hB b1 (cAff x p1 c1),hB b [z0,vI 0]] (fun t18=>[(0,vT text.l),(2,vP b 0),(4,vP b1 0),(5,vI at0),(18,.bool t18)]) (fun o0 ho0=>?_) ?_
 · have H:=iS I;refine zL<|yH 3 [] [13] rfl<|xZ [13] ho0 ?_ ?_
   · intro hc1 N;exact yJ [] [18] rfl<|yO<|zV (ct N H)
   intro hc1 N;exact vG [] [(18,vF)]<|yO<|zV (ct N H)
 intro t18 I02 le2 hMc;have ⟨h2,H⟩:=m2 le2 h2 H;refine zI<|yB hMc ?_ ?_
 · intro hc2 N;refine zS<|wB<|zL<|oD 3 [0] [(20,vA (cAff x p1 c1)),(21,vT text.l),(22,vI at0)] ?_;obtain ⟨⟨y2,y3⟩,hy1,N⟩:=zC N;refine xV (zEs x text at0 _ hy1 h2) ?_;rintro I03 hs2 v2 k2 le3 - ⟨v0,v01,rfl,rfl,⟨cs1,rfl,h4⟩,rfl⟩ -;have H:=H.trans le3;obtain ⟨p3,c3,rfl,h6⟩:=yN h4;exact yH 7 [] [24,25] rfl<|xQ 0 (cAff y2 p3 c3) rfl<|yJ [] [5] rfl<|zO<|yQ<|nO<|ih y3 y2 _ N H h6 hg ho hx
 intro hc2 N;exact wY<|yO<|hx _ _ _ _ (zB N).symm H h2
def pK (text:Str):Option (zA×Bool):=do
 let y←pX
 if (decide ((text.l.length:Int) > 40)) then
  pure ((zA.mk ([]:List Int) 0),false)
 else
  let x1←rA text 0 (zA.mk y.Coefs y.Const)
  let y4←oU x1
  if (!(y4.l == text.l)) then
   pure ((zA.mk ([]:List Int) 0),false)
  else
   pure (x1,true)
theorem eO:∀ text r,pK text=some r→∀ {I:Imm} ,RT 253 [vT text.l] I [] (zBM  r):=by
 intro text r N I;unfold pK at N;refine yL Tryz.func253 fun B=>yF<|uF [z0,vI 0] ?_;intro b hb;refine vG [] []<|xG<|bE N fun y hy N=>xV (mV  _ hy ) ?_;rintro I0 hs2 v2 k2 le - ⟨p,c,cs,rfl,rfl,h⟩ -;refine uF [z0,vI 0] ?_;intro b1 hb1;refine xQ 0 (cAff y p c) rfl<|yE rfl<|zX<|yD [9] rfl<|zI<|yB N ?_ ?_
 · intro hc N;refine yF<|yH 1 [] [10] rfl<|xQ 2 [z0,vI 0] rfl<|vG [] [(3,vF)]<|xB<|zF ?_;obtain rfl:=zB N;exact xC ⟨_,_,(.cell 2 rfl rfl (by kernel_rfl) (.tmp rfl ResV.nil)),zP,⟨_,_,rfl,rfl,⟨_,rfl,(yM ⟨_,rfl,(SL.nil _)⟩)⟩,rfl⟩⟩
 intro hc N;refine zS<|wW [5] rfl<|zX<|yG<|oT 1 rfl ?_;intro I01 le1 hl0;have h1:=SL.of_frozen hl0 le1 h;refine qW [(0,vT text.l),(2,vP b 0),(4,vP b1 0),(5,vI 0)] ?_;obtain ⟨o01,ho01,hMl⟩:=zC N;refine zAo text 0 (zA.mk y.Coefs y.Const) o01 ho01 iR h1 (fun _ _ _ h=>h) (fun _ _ h=>h) ?_;intro I04 x1 p2 c2 heq1 le4 h3;subst o01;refine zR<|zX<|yF<|oD 1 [0] [(26,vA (cAff x1 p2 c2))] ?_;obtain ⟨y4,hy2,N⟩:=zC hMl;refine xV (zBa x1 _ hy2 h3) ?_;rintro I05 hs2 v2 k2 le5 - ⟨v03,rfl,rfl,rfl⟩ -;have h3:=h3.mono le5;refine yJ [] [29] rfl<|zI<|yB N ?_ ?_
 · intro hc3 N;refine yF<|yH 1 [] [30] rfl<|xQ 1 [z0,vI 0] rfl<|vG [] [(3,vF)]<|xB<|zF ?_;obtain rfl:=zB N;exact xC ⟨_,_,(.cell 1 rfl rfl (by kernel_rfl) (.tmp rfl ResV.nil)),zP,⟨_,_,rfl,rfl,⟨_,rfl,(yM ⟨_,rfl,(SL.nil _)⟩)⟩,rfl⟩⟩
 intro hc3 N;refine zS<|xG<|oD 1 [0] [(31,vA (cAff x1 p2 c2))]<|xQ 1 (cAff x1 p2 c2) rfl<|vG [] [(3,vY)]<|zI<|yZ ?_;obtain rfl:=zB N;exact xC ⟨_,_,(.cell 1 rfl rfl (by kernel_rfl) (.tmp rfl ResV.nil)),zP,⟨_,_,rfl,rfl,⟨_,rfl,(yM ⟨_,rfl,h3⟩)⟩,rfl⟩⟩
def zBN (r:(List zA)):KT:=fun kk I' hs' v=>
  ∃ v0,hs'=[]∧v=tupV [v0]∧SL I' v0 r
def tS (y:(List Str)) (out:List zA) (i:Int):Option (List zA):=do
 let t18←(do
   if (decide (i < (y.length:Int))) then
    pure (decide (i ≤ 2))
   else
    pure false
     : Option Bool)
 if t18 then
  let x←idx y i
  let (y2,y3)←pK x
  let out2←app 32 out ([y2]:List zA)
  tS y out2 (W (i + 1))
 else
  pure (id out)
 partial_fixpoint
theorem zAp (y:(List Str)):∀ (out:List zA) (i:Int) (o:List zA),tS y out i=some o→∀ {B}{I0 I:Imm}{Q p c p1 c1 cs},I0.le I→(S4 I p y c)→(RL I cs out)→NG Q→NO Q→(∀ (I':Imm) (out1:List zA) (p2:Option Addr) (c2:Nat) (cs1:List Value),o=out1→I0.le I'→(RL I' cs1 out1)→T 34 B Q (.exit 0) I' [hO zA (vS p2 out1 c2) cs1] [(3,vS p2 out1 c2)])→J Tryz.prog 34 B (nav (bodyOf Tryz.f234) [1,1,1,0,1,0]) Q I [hO zA (vS p1 out c1) cs] [(3,vS p1 out c1),(4,vS p y c),(5,vI i)]:=by
 refine tS.partial_correctness y _ fun self ih out i o N B I0 I Q p c p1 c1 cs H h1 h2 hg ho hx=>yR hg ho<|zZ<|zZ ?_;refine wP N [hO zA (vS p1 out c1) cs] (fun t18=>[(3,vS p1 out c1),(4,vS p y c),(5,vI i),(18,.bool t18)]) (fun o0 ho0=>?_) ?_
 · have H:=iS I;refine zL<|yH 5 [] [15] rfl<|xZ [15] ho0 ?_ ?_
   · intro hc N;exact yJ [] [18] rfl<|yO<|zV (ct N H)
   intro hc N;exact vG [] [(18,vF)]<|yO<|zV (ct N H)
 intro t18 I01 le1 hMc;have ⟨h2,h1,H⟩:=m3 le1 h2 h1 H;refine zI<|yB hMc ?_ ?_
 · intro hc1 N;refine zS<|zX<|yG<|yF<|yH 2 [] [22,23] rfl<|bE N fun x hy1 N=>xS rfl rfl h1 hy1 ?_;intro ad ccs hat hrep;obtain rfl:=hrep;refine xL 0 hat [vT x.l] (vT x.l) rfl ?_;obtain ⟨⟨y2,y3⟩,hy2,N⟩:=zC N;refine xV (eO x _ hy2 ) ?_;rintro I02 hs2 v2 k2 le2 - ⟨v01,v02,rfl,rfl,⟨cs2,rfl,h4⟩,rfl⟩ -;have ⟨h2,h1,H⟩:=m3 le2 h2 h1 H;obtain ⟨p3,c3,rfl,h6⟩:=yN h4;refine yH 8 [] [27,28] rfl<|uF [z0,vI 0] ?_;intro b1 hb1;refine xQ 0 (cAff y2 p3 c3) rfl<|vG [] []<|zI<|zL<|oD 2 [0] [(29,vS p1 out c1),(30,vA (cAff y2 p3 c3))]<|tJ (cAff y2 p3 c3) zA ?_;intro b2 hb2;have h7:RL I02 (cAff y2 p3 c3) ([y2]:List zA):=⟨(cAff y2 p3 c3),_,rfl,rfl,(yM ⟨_,rfl,h6⟩),rfl⟩;obtain ⟨out2,hy3,N⟩:=zC N;exact qB 38 2 2 rfl rfl rfl h2 (.inr ⟨0,rfl⟩) h7 hy3 fun p4 c4 cs3 h8=>rW (zY [1,2] (hs':=[hB b1 (cAff y2 p3 c3),hO zA (vS p4 out2 c4) cs3]))<|yJ [] [3] rfl<|zO<|zI<|zL<|yJ [] [5] rfl<|yQ<|jR (zW [1] rfl (by decide))<|nO<|ih out2 (W (i + 1)) _ N H h1 h8 hg ho hx
 intro hc1 N;exact wY<|yO<|hx _ _ _ _ _ (zB N).symm H h2
def nL (text:Str):Option ((List zA)):=do
 let y←gE text (44:UInt8)
 let out1←tS y ([]:List zA) 0
 pure (id out1)
theorem zCA:∀ text r,nL text=some r→∀ {I:Imm} ,RT 234 [vT text.l] I [] (zBN  r):=by
 intro text r N I;unfold nL at N;refine yL Tryz.func234 fun B=>wV []<|xG<|tJ [] zA ?_;intro b hb;have h:RL I [] ([]:List zA):=rfl;refine yJ [] [3] rfl<|xG<|yH 1 [] [9] rfl<|bE N fun y hy N=>xV (zFj text (44:UInt8) _ hy ) ?_;rintro I0 hs2 v2 k2 le - ⟨v0,rfl,rfl,h1⟩ -;have h:=iM le h;obtain ⟨p,c,rfl⟩:=h1.form;refine yJ [] [4] rfl<|zX<|yD [5] rfl<|wB<|qW [(3,vS (some ⟨b,0,none⟩) ([]:List zA) 0),(4,vS p y c),(5,vI 0)] ?_;obtain ⟨o01,ho01,hMl⟩:=zC N;refine zAp y ([]:List zA) 0 o01 ho01 iR h1 h (fun _ _ _ h=>h) (fun _ _ h=>h) ?_;intro I03 out1 p2 c2 cs1 heq1 le3 h3;subst o01;refine zR<|wW [2] rfl<|xB<|xA 0 rfl ?_;intro I04 le4 hl0;have h9:=SL.of_frozen hl0 le4 h3;obtain rfl:=zB hMl;exact xC ⟨_,_,(.tmp rfl ResV.nil),zP,⟨_,rfl,rfl,h9⟩⟩
def qJ (s:Str) (end0:UInt8) (i:Int):Option (Out Unit (Int)):=do
 if (decide (i < (s.l.length:Int))) then
  let b←sidx s i
  if ((b.toNat:Int) == (end0.toNat:Int)) then
   pure (.ret i)
  else
   qJ s end0 (W (i + 1))
 else
  pure (.done ())
 partial_fixpoint
theorem zC8 (s:Str) (end0:UInt8):∀ (i:Int) (o:Out Unit (Int)),qJ s end0 i=some o→∀ {B}{I0 I:Imm}{Q}  ,I0.le I→NG Q→NO Q→(∀ (I':Imm) ,o=(.done ())→I0.le I'→T 21 B Q (.exit 0) I' [] [])→(∀ r I' hs' m',o=(.ret r)→I0.le I'→RS Tryz.prog Tryz.f252 B (yP  r) I' hs' m'→T 21 B Q .ret I' hs' m')→J Tryz.prog 21 B (nav (bodyOf Tryz.f252) [1,0,1,0]) Q I [] [(0,vT s.l),(2,.int .u8 (end0.toNat:Int)),(7,vI i)]:=by
 refine qJ.partial_correctness s end0 _ fun self ih i o N B I0 I Q H hg ho hx hr=>yR hg ho<|zZ<|yD [12] rfl<|zI<|yB N ?_ ?_
 · intro hc N;refine zS<|zX<|yG<|yF<|yH 2 [] [15,16] rfl<|bE N fun b hy N=>dR rfl rfl hy<|yJ [] [19] rfl<|zI<|yB N ?_ ?_
   · intro hc1 N;exact yD [6] rfl<|xB<|zU<|zF<|zF<|hr _ _ _ _ (zB N).symm H ⟨_,_,(.tmp rfl ResV.nil),zP,⟨_,rfl,rfl,rfl⟩⟩
   intro hc1 N;exact zS<|zO<|zI<|zL<|yJ [] [7] rfl<|yQ<|nO<|ih (W (i + 1)) _ N H  hg ho hx hr
 intro hc N;exact wY<|yO<|hx _  (zB N).symm H
def mX (s:Str) (at0:Int) (end0:UInt8):Option (Int):=do
 match←qJ s end0 at0 with
 | .ret r0=>pure r0
 | .done _ =>
  pure (-1)
theorem zBK:∀ s at0 end0 r,mX s at0 end0=some r→∀ {I:Imm} ,RT 252 [vT s.l,vI at0,.int .u8 (end0.toNat:Int)] I [] (yP  r):=by
 intro s at0 end0 r N I;unfold mX at N;refine yL Tryz.func252 fun B=>wV []<|zX<|yD [7] rfl<|wB<|qW [(0,vT s.l),(2,.int .u8 (end0.toNat:Int)),(7,vI at0)] ?_;obtain ⟨o0,ho0,hMl⟩:=zC N;refine zC8 s end0 at0 o0 ho0 iR  (fun _ _ _ h=>h) (fun _ _ h=>h) ?_ ?_
 · intro I0  heq le;subst o0;refine zR<|wW [6] rfl<|zI<|yZ ?_;obtain rfl:=zB hMl;exact wL
 intro r0 I9 hs9 m9 heq9 le9 hrs9;subst heq9;refine zU<|zF ?_;obtain rfl:=zB hMl;exact xC hrs9
def zA6 (r:zJ×Int):KT:=fun kk I' hs' v=>
  ∃ v0 v1,hs'=[]∧v=tupV [v0,v1]∧(∃ cs,v0=.agg ⟨cs⟩∧Rp.rep I' cs r.1)∧v1=.int .i64 r.2
def rS (s:Str) (at0:Int):Option (zJ×Int):=do
 let y←mX s at0 (93:UInt8)
 let t20←(do
   if (decide (y < (W (at0 + 2)))) then
    pure true
   else
    let b1←sidx s (W (at0 + 1))
    pure ((b1.toNat:Int) != 91)
     : Option Bool)
 if t20 then
  pure ((zJ.mk (⟨[]⟩:Str) ([]:List zA)),(-1))
 else
  let s1←sslc s at0 (W (at0 + 1))
  let s2←sslc s (W (at0 + 2)) y
  let y1←nL s2
  pure ((zJ.mk s1 y1),(W (y + 1)))
theorem fK:∀ s at0 r,rS s at0=some r→∀ {I:Imm} ,RT 219 [vT s.l,vI at0] I [] (zA6  r):=by
 intro s at0 r N I;unfold rS at N;refine yL Tryz.func219 fun B=>?_;have H:=iS I;refine yF<|uF [vT ([]),z0] ?_;intro b hb;refine vG [] []<|xG<|yH 2 [] [7,8] rfl<|bE N fun y hy N=>jD (zBK s at0 (93:UInt8) _ hy ) ?_;intro I0 le;have H:=H.trans le;refine yJ [] [6] rfl<|zX<|zZ ?_;refine wP N [hB b [vT ([]),z0]] (fun t20=>[(0,vT s.l),(1,vI at0),(4,vP b 0),(6,vI y),(20,.bool t20)]) (fun o0 ho0=>?_) ?_
 · have H:=iS I0;refine zL<|yH 5 [] [14] rfl<|xZ [14] ho0 ?_ ?_
   · intro hc N;exact vG [] [(20,vY)]<|yO<|zV (ct N H)
   intro hc N;exact yH 8 [] [15,17] rfl<|bE N fun b1 hy1 N=>dR rfl rfl hy1<|yJ [] [20] rfl<|yO<|zV (ct N H)
 intro t20 I01 le1 hMc;have H:=H.trans le1;refine zI<|yB hMc ?_ ?_
 · intro hc1 N;refine yF<|yH 1 [] [21] rfl<|xQ 0 [vT ([]),z0] rfl<|yJ [] [5] rfl<|xB<|zF ?_;obtain rfl:=zB N;exact xC ⟨_,_,(.cell 0 rfl rfl (by kernel_rfl) (.tmp rfl ResV.nil)),zP,⟨_,_,rfl,rfl,⟨_,rfl,(nD ⟨_,rfl,(SL.nil _)⟩)⟩,rfl⟩⟩
 intro hc1 N;refine zS<|zI<|zZ ?_;obtain ⟨s1,hy2,N⟩:=zC N;obtain ⟨s2,hy3,N⟩:=zC N;obtain ⟨y1,hy4,N⟩:=zC N;refine wX [.p (vT s.l) [],.p (vI at0) [],.p (vI at0) [],.p (vI (W (at0 + 1))) [],.q (vT s1.l),.p (vT s.l) [],.p (vI at0) [],.p (vI (W (at0 + 2))) [],.p (vI y) [],.q (vT s2.l),.x (eS y1),.x (fun I' v hx=>∃ p1 c1,v=vA [vT s1.l,vS p1 y1 c1]∧hx=[]∧(S4 I' p1 y1 c1)),.p (vI y) [],.p (vI (W (y + 1))) [],.x (fun I' v hx=>∃ p11 c11,hx=[hB b [vT s1.l,vS p11 y1 c11]]∧(S4 I' p11 y1 c11))] [[],[],[],[(2,false)],[(0,false),(1,false),(3,false)],[],[],[(6,false)],[],[(5,false),(7,false),(8,false)],[(9,false)],[(4,false),(10,false)],[],[(12,false)],[(11,false),(16,true)]] [] [[hB b [vT ([]),z0]]] [(13,false),(14,true)] (zY [0]) ?_ ?_
 · refine Op<|Op<|Op<|Op<|Oq ?_<|Op<|Op<|Op<|Op<|Oq ?_<|Ox ?_<|Ox ?_<|Op<|Op<|Ox ?_<|On
   · intro I1 hf le1;exact yS [22,23,25] rfl<|zGX rfl hy2<|xF iR
   · intro I1 hf le1;exact yS [27,29,30] rfl<|zGX rfl hy3<|xF iR
   · intro I1 hf le1;refine yS [31] rfl ?_;have H:=iS I1;refine xV (zCA s2 _ hy4 ) ?_;rintro I02 hs2 v2 k2 le2 - ⟨v01,rfl,rfl,h1⟩ -;have H:=H.trans le2;obtain ⟨p,c,rfl⟩:=h1.form;exact yK [] H ⟨_,_,rfl,rfl,h1⟩
   · rintro I1 hf le1 _ _ ⟨rfl,rfl⟩ _ _ ⟨p,c,rfl,rfl,h1⟩;exact yS [26,32] rfl<|oH 12 [(33,vA [vT s1.l,vS p y1 c])]<|yK [] iR ⟨_,_,rfl,rfl,h1⟩
   rintro I1 hf le1 _ _ ⟨p1,c1,rfl,rfl,h11⟩ _ _ rfl;refine yS [4,33] rfl ?_;have H:=iS I1;exact zCz 0 [vT s1.l,vS p1 y1 c1] (hB b [vT s1.l,vS p1 y1 c1]::hf) rfl rfl rfl rfl<|zE8 (hx:=[hB b [vT s1.l,vS p1 y1 c1]]) rfl H rfl (zF0 (v:=undef)) ⟨_,_,rfl,h11⟩
 rintro I03 le3 _ _ ⟨rfl,rfl⟩ _ _ ⟨p11,c11,rfl,h111⟩;refine yS [4,35] rfl ?_;refine yJ [] [5] rfl<|zI<|yZ ?_;obtain rfl:=zB N;exact xC ⟨_,_,(.cell 0 rfl rfl (by kernel_rfl) (.tmp rfl ResV.nil)),zP,⟨_,_,rfl,rfl,⟨_,rfl,(nD ⟨_,rfl,h111⟩)⟩,rfl⟩⟩
def fA (r:zG×Int):KT:=fun kk I' hs' v=>
  ∃ v0 v1,hs'=[]∧v=tupV [v0,v1]∧(∃ cs,v0=.agg ⟨cs⟩∧Rp.rep I' cs r.1)∧v1=.int .i64 r.2
mutual
def jI (s:Str) (at0:Int) (levels:Int):Option (zG×Int):=do
 let (y1,y2)←qK (same s) (same at0) (same levels)
 let t27←(do
   if (decide (y2 < 0)) then
    pure true
   else
    pure (decide (y2 ≥ (s.l.length:Int)))
     : Option Bool)
 if t27 then
  pure ((zG.mk 0 0 (zA.mk ([]:List Int) 0) (zJ.mk (⟨[]⟩:Str) ([]:List zA)) ([]:List zG)),(-1))
 else
  let b2←sidx s y2
  let kind←(do
    if ((b2.toNat:Int) == 45) then
     pure (id 5)
    else
     let kind1←(do
       if ((b2.toNat:Int) == 42) then
        pure (id 6)
       else
        pure (id 4)
         : Option Int)
     pure (id kind1)
      : Option Int)
  let (y4,y5)←qK (same s) (W (y2 + 1)) (same levels)
  let t51←(do
    if (decide (y5 < 0)) then
     pure true
    else
     pure (decide (y5 ≥ (s.l.length:Int)))
      : Option Bool)
  if t51 then
   pure ((zG.mk 0 0 (zA.mk ([]:List Int) 0) (zJ.mk (⟨[]⟩:Str) ([]:List zA)) ([]:List zG)),(-1))
  else
   pure ((zG.mk kind 0 (zA.mk ([]:List Int) 0) (zJ.mk (⟨[]⟩:Str) ([]:List zA)) ([y1,y4]:List zG)),(W (y5 + 1)))
 partial_fixpoint
def qK (s:Str) (at0:Int) (levels:Int):Option (zG×Int):=do
 let t26←(do
   if (decide (levels < 1)) then
    pure true
   else
    if (decide (at0 < 0)) then
     pure true
    else
     pure (decide (at0 ≥ (s.l.length:Int)))
     : Option Bool)
 if t26 then
  pure ((zG.mk 0 0 (zA.mk ([]:List Int) 0) (zJ.mk (⟨[]⟩:Str) ([]:List zA)) ([]:List zG)),(-1))
 else
  let b1←sidx s at0
  if ((b1.toNat:Int) == 123) then
   let y←mX s at0 (125:UInt8)
   if (decide (y < 0)) then
    pure ((zG.mk 0 0 (zA.mk ([]:List Int) 0) (zJ.mk (⟨[]⟩:Str) ([]:List zA)) ([]:List zG)),(-1))
   else
    let s1←sslc s (W (at0 + 1)) y
    let (y2,y3)←pK s1
    pure ((zG.mk 2 0 y2 (zJ.mk (⟨[]⟩:Str) ([]:List zA)) ([]:List zG)),(W (y + 1)))
  else
   let t52←(do
     let b3←sidx s at0
     if (decide ((b3.toNat:Int) ≥ 65)) then
      let b4←sidx s at0
      pure (decide ((b4.toNat:Int) ≤ 68))
     else
      pure false
       : Option Bool)
   if t52 then
    let (y5,y6)←rS s at0
    pure ((zG.mk 3 0 (zA.mk ([]:List Int) 0) y5 ([]:List zG)),y6)
   else
    let b6←sidx s at0
    if ((b6.toNat:Int) == 40) then
     let (y8,y9)←jI (same s) (W (at0 + 1)) (W (levels - 1))
     pure (y8,y9)
    else
     let (y11,y12)←nT s at0
     if (y12 == at0) then
      pure ((zG.mk 0 0 (zA.mk ([]:List Int) 0) (zJ.mk (⟨[]⟩:Str) ([]:List zA)) ([]:List zG)),(-1))
     else
      pure ((zG.mk 1 y11 (zA.mk ([]:List Int) 0) (zJ.mk (⟨[]⟩:Str) ([]:List zA)) ([]:List zG)),y12)
 partial_fixpoint
end
theorem zEQ:(∀ (s:Str) (at0:Int) (levels:Int) r,jI s at0 levels=some r→∀ {I:Imm} ,RT 254 [vT s.l,vI at0,vI levels] I [] (fA  r))∧(∀ (s:Str) (at0:Int) (levels:Int) r,qK s at0 levels=some r→∀ {I:Imm} ,RT 220 [vT s.l,vI at0,vI levels] I [] (fA  r)):=by
  refine jI.mutual_partial_correctness _ _ ?_ ?_
  · intro F_spec_l3Parse ih_spec_l3Parse s at0 levels r N I;refine yL Tryz.func254 fun B=>?_;have H:=iS I;refine yF<|uF zExpr ?_;intro b hb;refine vG [] []<|xG<|yH 3 [] [14,15,16] rfl ?_;obtain ⟨⟨y1,y2⟩,hy,N⟩:=zC N;refine xV (ih_spec_l3Parse s at0 levels _ hy ) ?_;rintro I0 hs2 v2 k2 le - ⟨v0,v01,rfl,rfl,⟨cs,rfl,h⟩,rfl⟩ -;have H:=H.trans le;obtain ⟨p,c,p1,c1,p2,c2,rfl,h2,h3,h4⟩:=tC h;refine yH 7 [] [18,19] rfl<|uF zExpr ?_;intro b1 hb1;refine xQ 0 (cExpr y1 p c p1 c1 p2 c2) rfl<|yJ [] [9] rfl<|zX<|zZ ?_;refine wP N [hB b1 (cExpr y1 p c p1 c1 p2 c2),hB b zExpr] (fun t27=>[(0,vT s.l),(2,vI levels),(6,vP b 0),(8,vP b1 0),(9,vI y2),(27,.bool t27)]) (fun o0 ho0=>?_) ?_
    · have H:=iS I0;refine zL<|yH 3 [] [22] rfl<|xZ [22] ho0 ?_ ?_
      · intro hc N;exact vG [] [(27,vY)]<|yO<|zV (ct N H)
      intro hc N;exact yJ [] [27] rfl<|yO<|zV (ct N H)
    intro t27 I01 le1 hMc;have ⟨h2,h3,h4,H⟩:=m4 le1 h2 h3 h4 H;refine zI<|yB hMc ?_ ?_
    · intro hc1 N;refine yF<|yH 1 [] [28] rfl<|zCz 1 zExpr [hB b1 (cExpr y1 p c p1 c1 p2 c2),hB b zExpr] rfl rfl rfl rfl<|yJ [] [7] rfl<|xB<|zF ?_;obtain rfl:=zB N;exact xC ⟨_,_,(.cell 1 rfl rfl (by kernel_rfl) (.tmp rfl ResV.nil)),zP,⟨_,_,rfl,rfl,⟨_,rfl,(xW ⟨_,_,_,rfl,(SL.nil _),(SL.nil _),(SL.nil _)⟩)⟩,rfl⟩⟩
    intro hc1 N;refine zS<|wW [10] rfl<|zX<|yF<|yH 2 [] [29,30] rfl<|bE N fun b2 hy1 N=>dR rfl rfl hy1<|yE rfl<|wB<|yD [32] rfl<|zI ?_;refine wP N [hB b1 (cExpr y1 p c p1 c1 p2 c2),hB b zExpr] (fun kind=>[(0,vT s.l),(2,vI levels),(6,vP b 0),(8,vP b1 0),(9,vI y2),(10,vI kind)]) (fun o01 ho01=>?_) ?_
    · have H:=iS I01;refine yB ho01 ?_ ?_
      · intro hc2 N;exact zL<|yJ [] [10] rfl<|yO<|zV (ct N H)
      intro hc2 N;refine yD [34] rfl<|zI ?_;refine wP N [hB b1 (cExpr y1 p c p1 c1 p2 c2),hB b zExpr] (fun kind1=>[(0,vT s.l),(2,vI levels),(6,vP b 0),(8,vP b1 0),(9,vI y2),(10,vI kind1)]) (fun o02 ho02=>?_) ?_
      · have H:=iS I01;refine yB ho02 ?_ ?_
        · intro hc3 N;exact zL<|yJ [] [10] rfl<|yO<|zV (ct N H)
        intro hc3 N;exact zS<|yO<|zV (ct N H)
      intro kind1 I03 le2 hMc2;have H:=H.trans le2;exact yO<|zV (ct hMc2 H)
    intro kind I02 le3 hMc1;have ⟨h2,h3,h4,H⟩:=m4 le3 h2 h3 h4 H;refine zO<|xG<|yH 4 [] [37,39,40] rfl ?_;obtain ⟨⟨y4,y5⟩,hy2,N⟩:=zC hMc1;refine xV (ih_spec_l3Parse s (W (y2 + 1)) levels _ hy2 ) ?_;rintro I04 hs2 v2 k2 le4 - ⟨v05,v06,rfl,rfl,⟨cs1,rfl,h5⟩,rfl⟩ -;have ⟨h2,h3,h4,H⟩:=m4 le4 h2 h3 h4 H;obtain ⟨p3,c3,p4,c4,p5,c5,rfl,h7,h8,h9⟩:=tC h5;refine yH 8 [] [42,43] rfl<|uF zExpr ?_;intro b3 hb2;refine xQ 0 (cExpr y4 p3 c3 p4 c4 p5 c5) rfl<|yJ [] [12] rfl<|zX<|zZ ?_;refine wP N [hB b3 (cExpr y4 p3 c3 p4 c4 p5 c5),hB b1 (cExpr y1 p c p1 c1 p2 c2),hB b zExpr] (fun t51=>[(6,vP b 0),(8,vP b1 0),(10,vI kind),(11,vP b3 0),(12,vI y5),(51,.bool t51)]) (fun o03 ho03=>?_) ?_
    · have H:=iS I04;refine zL<|yH 3 [] [46] rfl<|xZ [46] ho03 ?_ ?_
      · intro hc4 N;exact vG [] [(51,vY)]<|yO<|zV (ct N H)
      intro hc4 N;exact yJ [] [51] rfl<|yO<|zV (ct N H)
    intro t51 I05 le5 hMc3;have ⟨h7,h8,h9,h2,h3,h4⟩:=m6 le5 h7 h8 h9 h2 h3 h4;refine zI<|yB hMc3 ?_ ?_
    · intro hc5 N;refine yF<|yH 1 [] [52] rfl<|zCz 2 zExpr [hB b3 (cExpr y4 p3 c3 p4 c4 p5 c5),hB b1 (cExpr y1 p c p1 c1 p2 c2),hB b zExpr] rfl rfl rfl rfl<|yJ [] [7] rfl<|xB<|zF ?_;obtain rfl:=zB N;exact xC ⟨_,_,(.cell 2 rfl rfl (by kernel_rfl) (.tmp rfl ResV.nil)),zP,⟨_,_,rfl,rfl,⟨_,rfl,(xW ⟨_,_,_,rfl,(SL.nil _),(SL.nil _),(SL.nil _)⟩)⟩,rfl⟩⟩
    intro hc5 N;refine zS<|xG<|oD 3 [1,0] [(53,vI kind),(54,vA (cExpr y1 p c p1 c1 p2 c2)),(55,vA (cExpr y4 p3 c3 p4 c4 p5 c5))]<|tJ [vI y1.Kind,vI y1.Num,vS p y1.Index.Coefs c,vI y1.Index.Const,vT y1.Read.Array.l,vS p1 y1.Read.Subs c1,vS p2 y1.Kids c2,vI y4.Kind,vI y4.Num,vS p3 y4.Index.Coefs c3,vI y4.Index.Const,vT y4.Read.Array.l,vS p4 y4.Read.Subs c4,vS p5 y4.Kids c5] zG ?_;intro b4 hb3;have h10:RL I05 [vI y1.Kind,vI y1.Num,vS p y1.Index.Coefs c,vI y1.Index.Const,vT y1.Read.Array.l,vS p1 y1.Read.Subs c1,vS p2 y1.Kids c2,vI y4.Kind,vI y4.Num,vS p3 y4.Index.Coefs c3,vI y4.Index.Const,vT y4.Read.Array.l,vS p4 y4.Read.Subs c4,vS p5 y4.Kids c5] ([y1,y4]:List zG):=⟨(cExpr y1 p c p1 c1 p2 c2),_,rfl,rfl,(xW ⟨_,_,_,rfl,h2,h3,h4⟩),⟨(cExpr y4 p3 c3 p4 c4 p5 c5),_,rfl,rfl,(xW ⟨_,_,_,rfl,h7,h8,h9⟩),rfl⟩⟩;refine yH 7 [] [57,59] rfl<|xQ 3 [vI kind,vI 0,z0,vI 0,vT ([]),z0,vS (some ⟨b4,0,none⟩) ([y1,y4]:List zG) 2] rfl<|yJ [] [7] rfl<|xB<|xA 0 rfl ?_;intro I06 le6 hl0;have h11:=SL.of_frozen hl0 le6 h10;obtain rfl:=zB N;exact xC ⟨_,_,(.cell 2 rfl rfl (by kernel_rfl) (.tmp rfl ResV.nil)),zP,⟨_,_,rfl,rfl,⟨_,rfl,(xW ⟨_,_,_,rfl,(SL.nil _),(SL.nil _),h11⟩)⟩,rfl⟩⟩
  intro F_spec_l3Round ih_spec_l3Round s at0 levels r N I;refine yL Tryz.func220 fun B=>?_;have H:=iS I;refine yF<|uF zExpr ?_;intro b hb;refine vG [] []<|zX<|zZ ?_;refine wP N [hB b zExpr] (fun t26=>[(0,vT s.l),(1,vI at0),(2,vI levels),(6,vP b 0),(26,.bool t26)]) (fun o0 ho0=>?_) ?_
  · have H:=iS I;refine zL<|yH 3 [] [17] rfl<|xZ [17] ho0 ?_ ?_
    · intro hc N;exact vG [] [(26,vY)]<|yO<|zV (ct N H)
    intro hc N;refine yH 7 [] [21] rfl<|xZ [21] N ?_ ?_
    · intro hc1 N;exact vG [] [(26,vY)]<|yO<|zV (ct N H)
    intro hc1 N;exact yJ [] [26] rfl<|yO<|zV (ct N H)
  intro t26 I0 le hMc;have H:=H.trans le;refine zI<|yB hMc ?_ ?_
  · intro hc2 N;refine yF<|yH 1 [] [27] rfl<|zCz 0 zExpr [hB b zExpr] rfl rfl rfl rfl<|yJ [] [7] rfl<|xB<|zF ?_;obtain rfl:=zB N;exact xC ⟨_,_,(.cell 0 rfl rfl (by kernel_rfl) (.tmp rfl ResV.nil)),zP,⟨_,_,rfl,rfl,⟨_,rfl,(xW ⟨_,_,_,rfl,(SL.nil _),(SL.nil _),(SL.nil _)⟩)⟩,rfl⟩⟩
  intro hc2 N;refine zS<|zX<|yG<|yF<|yH 2 [] [29,30] rfl<|bE N fun b1 hy N=>dR rfl rfl hy<|yJ [] [28] rfl<|zI<|yB N ?_ ?_
  · intro hc3 N;refine yF<|yH 2 [] [33,34] rfl<|bE N fun y hy1 N=>jD (zBK s at0 (125:UInt8) _ hy1 ) fun I01 le1=>yJ [] [8] rfl<|zX<|yD [37] rfl<|zI<|yB N ?_ ?_
    · intro hc4 N;refine yF<|yH 1 [] [38] rfl<|zCz 0 zExpr [hB b zExpr] rfl rfl rfl rfl<|yJ [] [7] rfl<|xB<|zF<|zU<|zF ?_;obtain rfl:=zB N;exact xC ⟨_,_,(.cell 0 rfl rfl (by kernel_rfl) (.tmp rfl ResV.nil)),zP,⟨_,_,rfl,rfl,⟨_,rfl,(xW ⟨_,_,_,rfl,(SL.nil _),(SL.nil _),(SL.nil _)⟩)⟩,rfl⟩⟩
    intro hc4 N;refine zS<|xG<|yH 4 [] [40,42,43] rfl<|bE N fun s1 hy2 N=>zGX rfl hy2 ?_;obtain ⟨⟨y2,y3⟩,hy3,N⟩:=zC N;refine xV (eO s1 _ hy3 ) ?_;rintro I02 hs2 v2 k2 le2 - ⟨v01,v02,rfl,rfl,⟨cs,rfl,h1⟩,rfl⟩ -;obtain ⟨p,c,rfl,h3⟩:=yN h1;refine yH 9 [] [46,47] rfl<|uF [z0,vI 0] ?_;intro b2 hb1;refine xQ 0 (cAff y2 p c) rfl<|vG [] []<|xG<|oD 4 [0] [(49,vA [vI 2,vI 0,vS p y2.Coefs c,vI y2.Const,vT ([]),z0,z0]),(51,vI (W (y + 1)))]<|xQ 1 [vI 2,vI 0,vS p y2.Coefs c,vI y2.Const,vT ([]),z0,z0] rfl<|yJ [] [7] rfl<|xB<|zU<|zF ?_;obtain rfl:=zB N;exact xC ⟨_,_,(.cell 1 rfl rfl (by kernel_rfl) (.tmp rfl ResV.nil)),zP,⟨_,_,rfl,rfl,⟨_,rfl,(xW ⟨_,_,_,rfl,h3,(SL.nil _),(SL.nil _)⟩)⟩,rfl⟩⟩
  intro hc3 N;refine zZ ?_;refine wP N [hB b zExpr] (fun t52=>[(0,vT s.l),(1,vI at0),(2,vI levels),(6,vP b 0),(52,.bool t52)]) (fun o01 ho01=>?_) ?_
  · have H:=iS I0;refine zL<|yH 2 [] [53,54] rfl ?_;obtain ⟨b3,hy4,N⟩:=zC ho01;refine dR rfl rfl hy4<|yH 5 [] [57] rfl<|xZ [57] N ?_ ?_
    · intro hc5 N;exact yH 7 [] [58,59] rfl<|bE N fun b4 hy5 N=>dR rfl rfl hy5<|yJ [] [52] rfl<|yO<|zV (ct N H)
    intro hc5 N;exact vG [] [(52,vF)]<|yO<|zV (ct N H)
  intro t52 I03 le3 hMc1;refine zI<|yB hMc1 ?_ ?_
  · intro hc6 N;refine yF<|yH 2 [] [64,65] rfl ?_;obtain ⟨⟨y5,y6⟩,hy6,N⟩:=zC N;refine xV (fK s at0 _ hy6 ) ?_;rintro I04 hs2 v2 k2 le4 - ⟨v04,v05,rfl,rfl,⟨cs1,rfl,h4⟩,rfl⟩ -;obtain ⟨p1,c1,rfl,h6⟩:=oE h4;refine yH 6 [] [67,68] rfl<|uF [vT ([]),z0] ?_;intro b5 hb2;refine xQ 0 (cAccess y5 p1 c1) rfl<|yJ [] [12] rfl<|xG<|oD 3 [0] [(70,vA [vI 3,vI 0,z0,vI 0,vT y5.Array.l,vS p1 y5.Subs c1,z0]),(71,vI y6)]<|xQ 1 [vI 3,vI 0,z0,vI 0,vT y5.Array.l,vS p1 y5.Subs c1,z0] rfl<|yJ [] [7] rfl<|xB<|zU<|zF ?_;obtain rfl:=zB N;exact xC ⟨_,_,(.cell 1 rfl rfl (by kernel_rfl) (.tmp rfl ResV.nil)),zP,⟨_,_,rfl,rfl,⟨_,rfl,(xW ⟨_,_,_,rfl,(SL.nil _),h6,(SL.nil _)⟩)⟩,rfl⟩⟩
  intro hc6 N;refine yF<|yH 2 [] [73,74] rfl<|bE N fun b6 hy7 N=>dR rfl rfl hy7<|yJ [] [72] rfl<|zI<|yB N ?_ ?_
  · intro hc7 N;refine yF<|yH 5 [] [77,79,81] rfl ?_;obtain ⟨⟨y8,y9⟩,hy8,N⟩:=zC N;refine xV (ih_spec_l3Round s (W (at0 + 1)) (W (levels - 1)) _ hy8 ) ?_;rintro I05 hs2 v2 k2 le5 - ⟨v07,v08,rfl,rfl,⟨cs2,rfl,h7⟩,rfl⟩ -;obtain ⟨p2,c2,p3,c3,p4,c4,rfl,h9,h10,h11⟩:=tC h7;refine yH 8 [] [83,84] rfl<|xQ 0 (cExpr y8 p2 c2 p3 c3 p4 c4) rfl<|yJ [] [7] rfl<|xB<|zU<|zF ?_;obtain rfl:=zB N;exact xC ⟨_,_,(.cell 0 rfl rfl (by kernel_rfl) (.tmp rfl ResV.nil)),zP,⟨_,_,rfl,rfl,⟨_,rfl,(xW ⟨_,_,_,rfl,h9,h10,h11⟩)⟩,rfl⟩⟩
  intro hc7 N;refine zS<|zO<|xG<|yH 2 [] [86,87] rfl ?_;obtain ⟨⟨y11,y12⟩,hy9,N⟩:=zC N;refine xV (zA5 s at0 _ hy9 ) ?_;rintro I06 hs2 v2 k2 le6 - ⟨v012,v013,rfl,rfl,rfl,rfl⟩ -;refine yJ [] [13,14] rfl<|zX<|yD [93] rfl<|zI<|yB N ?_ ?_
  · intro hc8 N;refine yF<|yH 1 [] [94] rfl<|zCz 0 zExpr [hB b zExpr] rfl rfl rfl rfl<|yJ [] [7] rfl<|xB<|zF ?_;obtain rfl:=zB N;exact xC ⟨_,_,(.cell 0 rfl rfl (by kernel_rfl) (.tmp rfl ResV.nil)),zP,⟨_,_,rfl,rfl,⟨_,rfl,(xW ⟨_,_,_,rfl,(SL.nil _),(SL.nil _),(SL.nil _)⟩)⟩,rfl⟩⟩
  intro hc8 N;refine zS<|xG<|yH 3 [] [96,97] rfl<|xQ 0 [vI 1,vI y11,z0,vI 0,vT ([]),z0,z0] rfl<|yJ [] [7] rfl<|zI<|yZ ?_;obtain rfl:=zB N;exact xC ⟨_,_,(.cell 0 rfl rfl (by kernel_rfl) (.tmp rfl ResV.nil)),zP,⟨_,_,rfl,rfl,⟨_,rfl,(xW ⟨_,_,_,rfl,(SL.nil _),(SL.nil _),(SL.nil _)⟩)⟩,rfl⟩⟩
theorem zEt:∀ s at0 levels r,qK s at0 levels=some r→∀ {I:Imm} ,RT 220 [vT s.l,vI at0,vI levels] I [] (fA  r):=zEQ.2
def sB (list:(List zA)) (out:Str) (i:Int):Option (Str):=do
 if (decide (i < (list.length:Int))) then
  let out2←(do
    if (decide (i > 0)) then
     let s←cat out (⟨[44]⟩:Str)
     pure (id s)
    else
     pure (id out)
      : Option Str)
  let x←idx list i
  let y←mN x
  let s1←cat out2 y
  sB list s1 (W (i + 1))
 else
  pure (id out)
 partial_fixpoint
theorem zBO (list:(List zA)):∀ (out:Str) (i:Int) (o:Str),sB list out i=some o→∀ {B}{I0 I:Imm}{Q p c},I0.le I→(S4 I p list c)→NG Q→NO Q→(∀ (I':Imm) (out1:Str),o=out1→I0.le I'→T 23 B Q (.exit 0) I' [] [(3,vT out1.l)])→J Tryz.prog 23 B (nav (bodyOf Tryz.f235) [1,1,0,1,0]) Q I [] [(0,vS p list c),(3,vT out.l),(4,vI i)]:=by
 refine sB.partial_correctness list _ fun self ih out i o N B I0 I Q p c H h hg ho hx=>yR hg ho<|zZ<|yD [8] rfl<|zI<|yB N ?_ ?_
 · intro hc N;refine zS<|zX<|yG<|zZ<|yD [12] rfl<|zI ?_;refine wP N [] (fun out2=>[(0,vS p list c),(3,vT out2.l),(4,vI i)]) (fun o0 ho0=>?_) ?_
   · have H:=iS I;refine yB ho0 ?_ ?_
     · intro hc1 N;exact zL<|yH 1 [] [13] rfl<|bE N fun s hy N=>dC rfl hy<|yJ [] [3] rfl<|yO<|zV (ct N H)
     intro hc1 N;exact zS<|yO<|zV (ct N H)
   intro out2 I0 le hMc;have ⟨h,H⟩:=m2 le h H;refine zI<|zL<|yH 3 [] [15,16,17] rfl ?_;obtain ⟨x,hy1,N⟩:=zC hMc;refine xS rfl rfl h hy1 ?_;intro ad ccs hat hrep;obtain ⟨p1,c1,rfl,h1⟩:=yN hrep;refine xL 0 hat (cAff x p1 c1) (vA (cAff x p1 c1)) rfl<|bE N fun y hy2 N=>xV (dK x _ hy2 h1) ?_;rintro I01 hs2 v2 k2 le1 - ⟨v01,rfl,rfl,rfl⟩ -;have ⟨h,H⟩:=m2 le1 h H;obtain ⟨s1,hy3,N⟩:=zC N;exact dC rfl hy3<|yJ [] [3] rfl<|zO<|zI<|zL<|yJ [] [4] rfl<|yQ<|nO<|ih s1 (W (i + 1)) _ N H h hg ho hx
 intro hc N;exact wY<|yO<|hx _ _ (zB N).symm H
def mA (list:(List zA)):Option (Str):=do
 let out1←sB list (⟨[]⟩:Str) 0
 pure (id out1)
theorem zC9:∀ list r,mA list=some r→∀ {I:Imm}{p c},(S4 I p list c)→RT 235 [vS p list c] I [] (rR  r):=by
 intro list r N I p c h;unfold mA at N;refine yL Tryz.func235 fun B=>wV []<|wW [3] rfl<|zX<|yD [4] rfl<|wB<|qW [(0,vS p list c),(3,vT ([])),(4,vI 0)] ?_;obtain ⟨o01,ho01,hMl⟩:=zC N;refine zBO list (⟨[]⟩:Str) 0 o01 ho01 iR h (fun _ _ _ h=>h) (fun _ _ h=>h) ?_;intro I02 out1 heq1 le2;subst o01;refine zR<|wW [2] rfl<|zI<|yZ ?_;obtain rfl:=zB hMl;exact wL
def qQ (a0:zJ):Option (Str):=do
 let s←cat a0.Array (⟨[91]⟩:Str)
 let y←mA a0.Subs
 let s1←cat s y
 let s2←cat s1 (⟨[93]⟩:Str)
 pure (id s2)
theorem fZ:∀ a0 r,qQ a0=some r→∀ {I:Imm}{p c},(S4 I p a0.Subs c)→RT 191 [vA (cAccess a0 p c)] I [] (rR  r):=by
 intro a0 r N I p c h;unfold qQ at N;refine yL Tryz.func191 fun B=>?_;have H:=iS I;refine yF<|tX (cAccess a0 p c) ?_;intro b hb;refine vG [] []<|zI<|zZ ?_;obtain ⟨s,hy,N⟩:=zC N;obtain ⟨y,hy1,N⟩:=zC N;obtain ⟨s1,hy2,N⟩:=zC N;obtain ⟨s2,hy3,N⟩:=zC N;refine wX [.p (vP b 0) [],.p (vT a0.Array.l) [0],.q (vT s.l),.p (vP b 1) [],.p (vS p a0.Subs c) [0],.q (vT y.l),.q (vT s1.l),.q (vT s2.l)] [[],[(0,false)],[(1,false)],[],[(3,false)],[(4,false)],[(2,false),(5,false)],[(6,false)]] [hB b (cAccess a0 p c)] [] [(7,false)] (zY [0]) ?_ ?_
 · refine Op<|Op<|Oq ?_<|Op<|Op<|Oq ?_<|Oq ?_<|Oq ?_<|On
   · intro I1 hf le1;exact yS [4] rfl<|dC rfl hy<|xF iR
   · intro I1 hf le1;refine yS [7] rfl ?_;have H:=iS I1;have h:=h.mono le1;refine xV (zC9 a0.Subs _ hy1 h) ?_;rintro I0 hs2 v2 k2 le - ⟨v0,rfl,rfl,rfl⟩ -;have H:=H.trans le;exact xF H
   · intro I1 hf le1;exact yS [5,8] rfl<|dC rfl hy2<|xF iR
   intro I1 hf le1;exact yS [9] rfl<|dC rfl hy3<|xF iR
 intro I01 le1;refine yS [10] rfl ?_;refine yJ [] [2] rfl<|zI<|yZ ?_;obtain rfl:=zB N;exact wL
def rZ (e0:zG):Option (Str):=do
 if (e0.Kind == 1) then
  let y←rY e0.Num
  pure (id y)
 else
  if (e0.Kind == 2) then
   let y1←mN e0.Index
   let s←cat (⟨[123]⟩:Str) y1
   let s1←cat s (⟨[125]⟩:Str)
   pure (id s1)
  else
   if (e0.Kind == 3) then
    let y2←qQ e0.Read
    pure (id y2)
   else
    let x←idx e0.Kids 0
    let y3←rZ (same x)
    let s2←cat (⟨[40]⟩:Str) y3
    let s3←sslc (⟨[43,45,42]⟩:Str) (W (e0.Kind - 4)) (W ((W (e0.Kind - 4)) + 1))
    let s4←cat s2 s3
    let x1←idx e0.Kids 1
    let y4←rZ (same x1)
    let s5←cat s4 y4
    let s6←cat s5 (⟨[41]⟩:Str)
    pure (id s6)
 partial_fixpoint
theorem zFm:∀ e0 r,rZ e0=some r→∀ {I:Imm}{p c p1 c1 p2 c2},(S4 I p e0.Index.Coefs c)→(S4 I p1 e0.Read.Subs c1)→(S4 I p2 e0.Kids c2)→RT 192 [vA (cExpr e0 p c p1 c1 p2 c2)] I [] (rR  r):=by
 refine rZ.partial_correctness _ fun F_spec_l3Text ih_spec_l3Text e0 r N I p c p1 c1 p2 c2 h h1 h2=>yL Tryz.func192 fun B=>?_;have H:=iS I;refine yF<|tX (cExpr e0 p c p1 c1 p2 c2) ?_;intro b hb;refine vG [] []<|zX<|yF<|yJ [0] [4] rfl<|wB<|yD [5] rfl<|zI<|yB N ?_ ?_
 · intro hc N;refine yF<|yH 2 [0] [8] rfl<|bE N fun y hy N=>xV (dJ e0.Num _ hy ) ?_;rintro I0 hs2 v2 k2 le - ⟨v0,rfl,rfl,rfl⟩ -;refine yJ [] [2] rfl<|xB<|zU<|zF ?_;obtain rfl:=zB N;exact wL
 intro hc N;refine yD [10] rfl<|zI<|yB N ?_ ?_
 · intro hc1 N;refine yF<|oD 2 [0] [(13,vA (cAff e0.Index p c))]<|bE N fun y1 hy1 N=>xV (dK e0.Index _ hy1 h) ?_;rintro I01 hs2 v2 k2 le1 - ⟨v01,rfl,rfl,rfl⟩ -;obtain ⟨s,hy2,N⟩:=zC N;refine dC rfl hy2<|bE N fun s1 hy3 N=>dC rfl hy3<|yJ [] [2] rfl<|xB<|zU<|zF ?_;obtain rfl:=zB N;exact wL
 intro hc1 N;refine yD [17] rfl<|zI<|yB N ?_ ?_
 · intro hc2 N;refine yF<|oD 2 [0] [(20,vA (cAccess e0.Read p1 c1))]<|bE N fun y2 hy4 N=>xV (fZ e0.Read _ hy4 h1) ?_;rintro I02 hs2 v2 k2 le2 - ⟨v02,rfl,rfl,rfl⟩ -;refine yJ [] [2] rfl<|xB<|zU<|zF ?_;obtain rfl:=zB N;exact wL
 intro hc2 N;refine zS<|zO<|zI<|zZ ?_;obtain ⟨x,hy5,N⟩:=zC N;obtain ⟨y3,hy6,N⟩:=zC N;obtain ⟨s2,hy7,N⟩:=zC N;obtain ⟨s3,hy8,N⟩:=zC N;obtain ⟨s4,hy9,N⟩:=zC N;obtain ⟨x1,hy10,N⟩:=zC N;obtain ⟨y4,hy11,N⟩:=zC N;obtain ⟨s5,hy12,N⟩:=zC N;obtain ⟨s6,hy13,N⟩:=zC N;refine wX [.p (vP b 6) [],.p (vS p2 e0.Kids c2) [0],.x (ePExpr x),.x (eVExpr x),.q (vT y3.l),.q (vT s2.l),.p (vP b 0) [],.p (vI e0.Kind) [0],.p (vI (W (e0.Kind - 4))) [],.p (vP b 0) [],.p (vI e0.Kind) [0],.p (vI (W (e0.Kind - 4))) [],.p (vI (W ((W (e0.Kind - 4)) + 1))) [],.q (vT s3.l),.q (vT s4.l),.p (vP b 6) [],.p (vS p2 e0.Kids c2) [0],.x (ePExpr x1),.x (eVExpr x1),.q (vT y4.l),.q (vT s5.l),.q (vT s6.l)] [[],[(0,false)],[(1,false)],[(2,false)],[(3,false)],[(4,false)],[],[(6,false)],[(7,false)],[],[(9,false)],[(10,false)],[(11,false)],[(8,false),(12,false)],[(5,false),(13,false)],[],[(15,false)],[(16,false)],[(17,false)],[(18,false)],[(14,false),(19,false)],[(20,false)]] [hB b (cExpr e0 p c p1 c1 p2 c2)] [] [(21,false)] (zY [0]) ?_ ?_
 · refine Op<|Op<|Ox ?_<|Ox ?_<|Oq ?_<|Oq ?_<|Op<|Op<|Op<|Op<|Op<|Op<|Op<|Oq ?_<|Oq ?_<|Op<|Op<|Ox ?_<|Ox ?_<|Oq ?_<|Oq ?_<|Oq ?_<|On
   · intro I1 hf le1;refine yS [23] rfl ?_;have h2:=h2.mono le1;refine xS rfl rfl h2 hy5 ?_;intro ad ccs hat hrep;obtain ⟨p3,c3,p4,c4,p5,c5,rfl,h6,h7,h8⟩:=tC hrep;exact yK [] iR ⟨_,_,_,_,_,_,_,rfl,rfl,hat,h6,h7,h8⟩
   · rintro I1 hf le1 _ _ ⟨ad,p3,c3,p4,c4,p5,c5,rfl,rfl,hat,h6,h7,h8⟩;exact yS [24] rfl<|xL 0 hat (cExpr x p3 c3 p4 c4 p5 c5) (vA (cExpr x p3 c3 p4 c4 p5 c5)) rfl<|yK [] iR ⟨_,_,_,_,_,_,rfl,rfl,h6,h7,h8⟩
   · rintro I1 hf le1 _ _ ⟨p31,c31,p41,c41,p51,c51,rfl,rfl,h61,h71,h81⟩;refine yS [25] rfl ?_;have H:=iS I1;refine xV (ih_spec_l3Text x _ hy6 h61 h71 h81) ?_;rintro I03 hs2 v2 k2 le3 - ⟨v06,rfl,rfl,rfl⟩ -;have H:=H.trans le3;exact xF H
   · intro I1 hf le1;exact yS [26] rfl<|dC rfl hy7<|xF iR
   · intro I1 hf le1;exact yS [30,34] rfl<|zGX rfl hy8<|xF iR
   · intro I1 hf le1;exact yS [27,35] rfl<|dC rfl hy9<|xF iR
   · intro I1 hf le1;refine yS [38] rfl ?_;have h2:=h2.mono le1;refine xS rfl rfl h2 hy10 ?_;intro ad1 ccs1 hat1 hrep1;obtain ⟨p6,c6,p7,c7,p8,c8,rfl,h10,h11,h12⟩:=tC hrep1;exact yK [] iR ⟨_,_,_,_,_,_,_,rfl,rfl,hat1,h10,h11,h12⟩
   · rintro I1 hf le1 _ _ ⟨ad1,p6,c6,p7,c7,p8,c8,rfl,rfl,hat1,h10,h11,h12⟩;exact yS [39] rfl<|xL 0 hat1 (cExpr x1 p6 c6 p7 c7 p8 c8) (vA (cExpr x1 p6 c6 p7 c7 p8 c8)) rfl<|yK [] iR ⟨_,_,_,_,_,_,rfl,rfl,h10,h11,h12⟩
   · rintro I1 hf le1 _ _ ⟨p61,c61,p71,c71,p81,c81,rfl,rfl,h101,h111,h121⟩;refine yS [40] rfl ?_;have H:=iS I1;refine xV (ih_spec_l3Text x1 _ hy11 h101 h111 h121) ?_;rintro I04 hs2 v2 k2 le4 - ⟨v010,rfl,rfl,rfl⟩ -;have H:=H.trans le4;exact xF H
   · intro I1 hf le1;exact yS [36,41] rfl<|dC rfl hy12<|xF iR
   intro I1 hf le1;exact yS [42] rfl<|dC rfl hy13<|xF iR
 intro I05 le5;refine yS [43] rfl ?_;refine yJ [] [2] rfl<|zI<|yZ ?_;obtain rfl:=zB N;exact wL
def mB (s:zQ):Option (Str):=do
 let y←sL s 4
 if (!y) then
  pure (⟨[]⟩:Str)
 else
  let y1←qQ s.Write
  let s1←cat y1 (⟨[61]⟩:Str)
  let y2←rZ s.Value
  let s2←cat s1 y2
  pure (id s2)
theorem zCa:∀ s r,mB s=some r→∀ {I:Imm}{p c p1 c1 p2 c2 p3 c3},(S4 I p s.Write.Subs c)→(S4 I p1 s.Value.Index.Coefs c1)→(S4 I p2 s.Value.Read.Subs c2)→(S4 I p3 s.Value.Kids c3)→RT 221 [vA (cStmt s p c p1 c1 p2 c2 p3 c3)] I [] (rR  r):=by
 intro s r N I p c p1 c1 p2 c2 p3 c3 h h1 h2 h3;unfold mB at N;refine yL Tryz.func221 fun B=>?_;have H:=iS I;refine yF<|tX (cStmt s p c p1 c1 p2 c2 p3 c3) ?_;intro b hb;refine vG [] []<|zX<|yF<|oD 1 [0] [(3,vA (cStmt s p c p1 c1 p2 c2 p3 c3))]<|bE N fun y hy N=>uH (gY s 4 _ hy h h1 h2 h3) ?_;intro I0 le;have ⟨h,h1,h2,h3,H⟩:=m5 le h h1 h2 h3 H;refine yJ [] [5] rfl<|zI<|yB N ?_ ?_
 · intro hc N;refine yD [2] rfl<|xB<|zF ?_;obtain rfl:=zB N;exact wL
 intro hc N;refine zS<|zI<|zZ ?_;obtain ⟨y1,hy1,N⟩:=zC N;obtain ⟨s1,hy2,N⟩:=zC N;obtain ⟨y2,hy3,N⟩:=zC N;obtain ⟨s2,hy4,N⟩:=zC N;refine wX [.p (vP b 0) [],.p (vA (cAccess s.Write p c)) [0],.q (vT y1.l),.q (vT s1.l),.p (vP b 2) [],.p (vA (cExpr s.Value p1 c1 p2 c2 p3 c3)) [0],.q (vT y2.l),.q (vT s2.l)] [[],[(0,false)],[(1,false)],[(2,false)],[],[(4,false)],[(5,false)],[(3,false),(6,false)]] [hB b (cStmt s p c p1 c1 p2 c2 p3 c3)] [] [(7,false)] (zY [0]) ?_ ?_
 · refine Op<|Op<|Oq ?_<|Oq ?_<|Op<|Op<|Oq ?_<|Oq ?_<|On
   · intro I1 hf le1;refine yS [7] rfl ?_;have H:=iS I1;have h:=h.mono le1;refine xV (fZ s.Write _ hy1 h) ?_;rintro I01 hs2 v2 k2 le1 - ⟨v01,rfl,rfl,rfl⟩ -;have H:=H.trans le1;exact xF H
   · intro I1 hf le1;exact yS [8] rfl<|dC rfl hy2<|xF iR
   · intro I1 hf le1;refine yS [11] rfl ?_;have H:=iS I1;have ⟨h1,h2,h3⟩:=m3 le1 h1 h2 h3;refine xV (zFm s.Value _ hy3 h1 h2 h3) ?_;rintro I02 hs2 v2 k2 le2 - ⟨v02,rfl,rfl,rfl⟩ -;have H:=H.trans le2;exact xF H
   intro I1 hf le1;exact yS [9,12] rfl<|dC rfl hy4<|xF iR
 intro I03 le3;refine yS [13] rfl ?_;refine yJ [] [2] rfl<|zI<|yZ ?_;obtain rfl:=zB N;exact wL
def zCB (r:zQ×Bool):KT:=fun kk I' hs' v=>
  ∃ v0 v1,hs'=[]∧v=tupV [v0,v1]∧(∃ cs,v0=.agg ⟨cs⟩∧Rp.rep I' cs r.1)∧v1=.bool r.2
def mY (text:Str):Option (zQ×Bool):=do
 if (decide ((text.l.length:Int) < 4)) then
  pure ((zQ.mk (zJ.mk (⟨[]⟩:Str) ([]:List zA)) (zG.mk 0 0 (zA.mk ([]:List Int) 0) (zJ.mk (⟨[]⟩:Str) ([]:List zA)) ([]:List zG))),false)
 else
  let (y1,y2)←rS text 0
  let t25←(do
    if (decide (y2 < 0)) then
     pure true
    else
     pure (decide (y2 ≥ (text.l.length:Int)))
      : Option Bool)
  if t25 then
   pure ((zQ.mk (zJ.mk (⟨[]⟩:Str) ([]:List zA)) (zG.mk 0 0 (zA.mk ([]:List Int) 0) (zJ.mk (⟨[]⟩:Str) ([]:List zA)) ([]:List zG))),false)
  else
   let (y4,y5)←qK text (W (y2 + 1)) 5
   let y6←mB (zQ.mk y1 y4)
   if (!(y6.l == text.l)) then
    pure ((zQ.mk (zJ.mk (⟨[]⟩:Str) ([]:List zA)) (zG.mk 0 0 (zA.mk ([]:List Int) 0) (zJ.mk (⟨[]⟩:Str) ([]:List zA)) ([]:List zG))),false)
   else
    pure ((zQ.mk y1 y4),true)
theorem zD1:∀ text r,mY text=some r→∀ {I:Imm} ,RT 178 [vT text.l] I [] (zCB  r):=by
 intro text r N I;unfold mY at N;refine yL Tryz.func178 fun B=>?_;have H:=iS I;refine yF<|uF [vT ([]),z0,vI 0,vI 0,z0,vI 0,vT ([]),z0,z0] ?_;intro b hb;refine vG [] []<|zX<|yD [11] rfl<|zI<|yB N ?_ ?_
 · intro hc N;refine yF<|yH 1 [] [12] rfl<|xQ 0 [vT ([]),z0,vI 0,vI 0,z0,vI 0,vT ([]),z0,z0] rfl<|vG [] [(3,vF)]<|xB<|zF ?_;obtain rfl:=zB N;exact xC ⟨_,_,(.cell 0 rfl rfl (by kernel_rfl) (.tmp rfl ResV.nil)),zP,⟨_,_,rfl,rfl,⟨_,rfl,(wZ ⟨_,_,_,_,rfl,(SL.nil _),(SL.nil _),(SL.nil _),(SL.nil _)⟩)⟩,rfl⟩⟩
 intro hc N;refine zS<|xG<|yH 1 [] [14] rfl ?_;obtain ⟨⟨y1,y2⟩,hy,N⟩:=zC N;refine xV (fK text 0 _ hy ) ?_;rintro I0 hs2 v2 k2 le - ⟨v0,v01,rfl,rfl,⟨cs,rfl,h⟩,rfl⟩ -;have H:=H.trans le;obtain ⟨p,c,rfl,h2⟩:=oE h;refine yH 5 [] [16,17] rfl<|uF [vT ([]),z0] ?_;intro b1 hb1;refine xQ 0 (cAccess y1 p c) rfl<|yJ [] [5] rfl<|zX<|zZ ?_;refine wP N [hB b1 (cAccess y1 p c),hB b [vT ([]),z0,vI 0,vI 0,z0,vI 0,vT ([]),z0,z0]] (fun t25=>[(0,vT text.l),(2,vP b 0),(4,vP b1 0),(5,vI y2),(25,.bool t25)]) (fun o0 ho0=>?_) ?_
 · have H:=iS I0;refine zL<|yH 3 [] [20] rfl<|xZ [20] ho0 ?_ ?_
   · intro hc1 N;exact vG [] [(25,vY)]<|yO<|zV (ct N H)
   intro hc1 N;exact yJ [] [25] rfl<|yO<|zV (ct N H)
 intro t25 I01 le1 hMc;have h2:=h2.mono le1;refine zI<|yB hMc ?_ ?_
 · intro hc2 N;refine yF<|yH 1 [] [26] rfl<|xQ 1 [vT ([]),z0,vI 0,vI 0,z0,vI 0,vT ([]),z0,z0] rfl<|vG [] [(3,vF)]<|xB<|zF ?_;obtain rfl:=zB N;exact xC ⟨_,_,(.cell 1 rfl rfl (by kernel_rfl) (.tmp rfl ResV.nil)),zP,⟨_,_,rfl,rfl,⟨_,rfl,(wZ ⟨_,_,_,_,rfl,(SL.nil _),(SL.nil _),(SL.nil _),(SL.nil _)⟩)⟩,rfl⟩⟩
 intro hc2 N;refine zS<|xG<|yH 3 [] [28,30] rfl ?_;obtain ⟨⟨y4,y5⟩,hy1,N⟩:=zC N;refine xV (zEt text (W (y2 + 1)) 5 _ hy1 ) ?_;rintro I02 hs2 v2 k2 le2 - ⟨v03,v04,rfl,rfl,⟨cs1,rfl,h3⟩,rfl⟩ -;have h2:=h2.mono le2;obtain ⟨p1,c1,p2,c2,p3,c3,rfl,h5,h6,h7⟩:=tC h3;refine yH 7 [] [32,33] rfl<|uF zExpr ?_;intro b2 hb2;refine xQ 0 (cExpr y4 p1 c1 p2 c2 p3 c3) rfl<|vG [] []<|xG<|oD 3 [1,0] [(36,vA [vT y1.Array.l,vS p y1.Subs c,vI y4.Kind,vI y4.Num,vS p1 y4.Index.Coefs c1,vI y4.Index.Const,vT y4.Read.Array.l,vS p2 y4.Read.Subs c2,vS p3 y4.Kids c3])]<|uF [vT ([]),z0,vI 0,vI 0,z0,vI 0,vT ([]),z0,z0] ?_;intro b3 hb3;refine xQ 0 [vT y1.Array.l,vS p y1.Subs c,vI y4.Kind,vI y4.Num,vS p1 y4.Index.Coefs c1,vI y4.Index.Const,vT y4.Read.Array.l,vS p2 y4.Read.Subs c2,vS p3 y4.Kids c3] rfl<|yE rfl<|zX<|yF<|oD 1 [0] [(37,vA [vT y1.Array.l,vS p y1.Subs c,vI y4.Kind,vI y4.Num,vS p1 y4.Index.Coefs c1,vI y4.Index.Const,vT y4.Read.Array.l,vS p2 y4.Read.Subs c2,vS p3 y4.Kids c3])]<|bE N fun y6 hy2 N=>xV (zCa (zQ.mk y1 y4) _ hy2 h2 h5 h6 h7) ?_;rintro I03 hs2 v2 k2 le3 - ⟨v08,rfl,rfl,rfl⟩ -;have ⟨h2,h5,h6,h7⟩:=m4 le3 h2 h5 h6 h7;refine yJ [] [40] rfl<|zI<|yB N ?_ ?_
 · intro hc3 N;refine yF<|yH 1 [] [41] rfl<|xQ 3 [vT ([]),z0,vI 0,vI 0,z0,vI 0,vT ([]),z0,z0] rfl<|vG [] [(3,vF)]<|xB<|zF ?_;obtain rfl:=zB N;exact xC ⟨_,_,(.cell 3 rfl rfl (by kernel_rfl) (.tmp rfl ResV.nil)),zP,⟨_,_,rfl,rfl,⟨_,rfl,(wZ ⟨_,_,_,_,rfl,(SL.nil _),(SL.nil _),(SL.nil _),(SL.nil _)⟩)⟩,rfl⟩⟩
 intro hc3 N;refine zS<|xG<|oD 1 [0] [(42,vA [vT y1.Array.l,vS p y1.Subs c,vI y4.Kind,vI y4.Num,vS p1 y4.Index.Coefs c1,vI y4.Index.Const,vT y4.Read.Array.l,vS p2 y4.Read.Subs c2,vS p3 y4.Kids c3])]<|xQ 3 [vT y1.Array.l,vS p y1.Subs c,vI y4.Kind,vI y4.Num,vS p1 y4.Index.Coefs c1,vI y4.Index.Const,vT y4.Read.Array.l,vS p2 y4.Read.Subs c2,vS p3 y4.Kids c3] rfl<|vG [] [(3,vY)]<|zI<|yZ ?_;obtain rfl:=zB N;exact xC ⟨_,_,(.cell 3 rfl rfl (by kernel_rfl) (.tmp rfl ResV.nil)),zP,⟨_,_,rfl,rfl,⟨_,rfl,(wZ ⟨_,_,_,_,rfl,h2,h5,h6,h7⟩)⟩,rfl⟩⟩
def zAK (r:(List zD)×Bool):KT:=fun kk I' hs' v=>
  ∃ v0 v1,hs'=[]∧v=tupV [v0,v1]∧SL I' v0 r.1∧v1=.bool r.2
def qL (sizes:(List Int)) (out:List zD) (i:Int):Option (Out (List zD) ((List zD)×Bool)):=do
 if (decide (i < (sizes.length:Int))) then
  let t28←(do
    let x←idx sizes i
    if (decide (x < 0)) then
     pure true
    else
     let x1←idx sizes i
     pure (decide (x1 > 99))
      : Option Bool)
  if t28 then
   pure (.ret (([]:List zD),false))
  else
   let y←pX
   let x2←idx sizes i
   let y1←wM x2
   let out2←app 48 out ([(zD.mk ([y]:List zA) ([y1]:List zA))]:List zD)
   qL sizes out2 (W (i + 1))
 else
  pure (.done out)
 partial_fixpoint
theorem zCb (sizes:(List Int)):∀ (out:List zD) (i:Int) (o:Out (List zD) ((List zD)×Bool)),qL sizes out i=some o→∀ {B}{I0 I:Imm}{Q p c p1 c1 cs},I0.le I→(S4 I p sizes c)→(RL I cs out)→NG Q→NO Q→(∀ (I':Imm) (out1:List zD) (p2:Option Addr) (c2:Nat) (cs1:List Value),o=(.done out1)→I0.le I'→(RL I' cs1 out1)→T 43 B Q (.exit 0) I' [hO zD (vS p2 out1 c2) cs1] [(4,vS p2 out1 c2)])→(∀ r I' hs' m',o=(.ret r)→I0.le I'→RS Tryz.prog Tryz.f179 B (zAK  r) I' hs' m'→T 43 B Q .ret I' hs' m')→J Tryz.prog 43 B (nav (bodyOf Tryz.f179) [1,1,1,0,1,0]) Q I [hO zD (vS p1 out c1) cs] [(0,vS p sizes c),(4,vS p1 out c1),(5,vI i)]:=by
 refine qL.partial_correctness sizes _ fun self ih out i o N B I0 I Q p c p1 c1 cs H h h3 hg ho hx hr=>yR hg ho<|zZ<|yD [14] rfl<|zI<|yB N ?_ ?_
 · intro hc1 N;refine zS<|zX<|yG<|zZ<|zZ ?_;refine wP N [hO zD (vS p1 out c1) cs] (fun t28=>[(0,vS p sizes c),(4,vS p1 out c1),(5,vI i),(28,.bool t28)]) (fun o0 ho0=>?_) ?_
   · have H:=iS I;refine zL<|yH 2 [] [17,18] rfl ?_;obtain ⟨x,hy,N⟩:=zC ho0;refine xS rfl rfl h hy ?_;intro ad ccs hat hrep;obtain rfl:=hrep;refine xL 0 hat [vI x] (vI x) rfl<|yH 6 [] [22] rfl<|xZ [22] N ?_ ?_
     · intro hc2 N;exact vG [] [(28,vY)]<|yO<|zV (ct N H)
     intro hc2 N;refine yH 8 [] [23,24] rfl<|bE N fun x1 hy1 N=>xS rfl rfl h hy1 ?_;intro ad1 ccs1 hat1 hrep1;obtain rfl:=hrep1;exact xL 0 hat1 [vI x1] (vI x1) rfl<|yJ [] [28] rfl<|yO<|zV (ct N H)
   intro t28 I01 le1 hMc;have ⟨h,h3,H⟩:=m3 le1 h h3 H;refine zI<|yB hMc ?_ ?_
   · intro hc3 N;refine yF<|tJ [] zD ?_;intro b1 hb1;have h5:RL I01 [] ([]:List zD):=rfl;refine yJ [] [2,3] rfl<|xB<|zF<|zU<|zF<|zF<|xA 0 rfl ?_;intro I02 le2 hl01;have h6:=SL.of_frozen hl01 le2 h5;have H:=H.trans le2;exact hr _ _ _ _ (zB N).symm H ⟨_,_,(.tmp rfl (.tmp rfl ResV.nil)),zP,⟨_,_,rfl,rfl,h6,rfl⟩⟩
   intro hc3 N;refine zS<|zI ?_;obtain ⟨y,hy2,N⟩:=zC N;obtain ⟨x2,hy3,N⟩:=zC N;obtain ⟨y1,hy4,N⟩:=zC N;obtain ⟨out2,hy5,N⟩:=zC N;refine wX [.p (vS p1 out c1) [],.x (fun I' v hx=>∃ p3 c3 cs2,v=vA (cAff y p3 c3)∧hx=[hO Int (vS p3 y.Coefs c3) cs2]∧(RL I' cs2 y.Coefs)),.x (fun I' v hx=>∃ b2,v=vS (some ⟨b2,0,none⟩) ([y]:List zA) 1∧hx=[]∧(SL I' (vS (some ⟨b2,0,none⟩) ([y]:List zA) 1) ([y]:List zA))),.p (vS p sizes c) [],.p (vI i) [],.x (fun I' v hx=>∃ ad2,v=.pointer (some ad2)∧hx=[]∧(At I' ad2 [vI x2])),.q (vI x2),.x (fun I' v hx=>∃ p4 c4 cs3,v=vA (cAff y1 p4 c4)∧hx=[hO Int (vS p4 y1.Coefs c4) cs3]∧(RL I' cs3 y1.Coefs)),.x (fun I' v hx=>∃ b3,v=vS (some ⟨b3,0,none⟩) ([y1]:List zA) 1∧hx=[]∧(SL I' (vS (some ⟨b3,0,none⟩) ([y1]:List zA) 1) ([y1]:List zA))),.x (fun I' v hx=>∃ b21 b31,v=vA [vS (some ⟨b21,0,none⟩) ([y]:List zA) 1,vS (some ⟨b31,0,none⟩) ([y1]:List zA) 1]∧hx=[]∧(SL I' (vS (some ⟨b21,0,none⟩) ([y]:List zA) 1) ([y]:List zA))∧(SL I' (vS (some ⟨b31,0,none⟩) ([y1]:List zA) 1) ([y1]:List zA))),.x (fun I' v hx=>∃ b4,v=vS (some ⟨b4,0,none⟩) ([(zD.mk ([y]:List zA) ([y1]:List zA))]:List zD) 1∧hx=[]∧(SL I' (vS (some ⟨b4,0,none⟩) ([(zD.mk ([y]:List zA) ([y1]:List zA))]:List zD) 1) ([(zD.mk ([y]:List zA) ([y1]:List zA))]:List zD))),.x (fun I' v hx=>∃ p5 c5 cs4,v=vS p5 out2 c5∧hx=[hO zD (vS p5 out2 c5) cs4]∧(RL I' cs4 out2))] [[],[],[(1,true)],[],[],[(3,false),(4,false)],[(5,false)],[(6,false)],[(7,true)],[(2,false),(8,false)],[(9,false)],[(0,false),(10,false),(13,true)]] [] [[hO zD (vS p1 out c1) cs]] [(11,true)] (zY [0]) ?_ ?_
   · refine Op<|Ox ?_<|Ox ?_<|Op<|Op<|Ox ?_<|Oq ?_<|Ox ?_<|Ox ?_<|Ox ?_<|Ox ?_<|Ox ?_<|On
     · intro I1 hf le1;refine eU [] ?_;have H:=iS I1;refine xV (mV  _ hy2 ) ?_;rintro I03 hs2 v2 k2 le3 - ⟨p3,c3,cs2,rfl,rfl,h7⟩ -;have H:=H.trans le3;exact yK [hO Int (vS p3 y.Coefs c3) cs2] H ⟨_,_,_,rfl,rfl,h7⟩
     · rintro I1 hf le1 _ _ ⟨p3,c3,cs2,rfl,rfl,h7⟩;refine yS [31] rfl ?_;have H:=iS I1;refine xM 0 rfl ?_;intro I04 le4 hl02;have h8:=SL.of_frozen hl02 le4 h7;have H:=H.trans le4;refine nE (rc y (yM ⟨_,rfl,h8⟩) rN) ?_;intro b2 I05 le5 h10;have H:=H.trans le5;exact yK [] H ⟨_,rfl,rfl,h10⟩
     · intro I1 hf le1;refine yS [33,34] rfl ?_;have h:=h.mono le1;refine xS rfl rfl h hy3 ?_;intro ad2 ccs2 hat2 hrep2;obtain rfl:=hrep2;exact yK [] iR ⟨_,rfl,rfl,hat2⟩
     · rintro I1 hf le1 _ _ ⟨ad2,rfl,rfl,hat2⟩;exact yS [35] rfl<|xL 0 hat2 [vI x2] (vI x2) rfl<|xF iR
     · intro I1 hf le1;refine yS [36] rfl ?_;have H:=iS I1;refine xV (uK x2 _ hy4 ) ?_;rintro I06 hs2 v2 k2 le6 - ⟨p4,c4,cs3,rfl,rfl,h11⟩ -;have H:=H.trans le6;exact yK [hO Int (vS p4 y1.Coefs c4) cs3] H ⟨_,_,_,rfl,rfl,h11⟩
     · rintro I1 hf le1 _ _ ⟨p4,c4,cs3,rfl,rfl,h11⟩;refine yS [37] rfl ?_;have H:=iS I1;refine xM 0 rfl ?_;intro I07 le7 hl04;have h12:=SL.of_frozen hl04 le7 h11;have H:=H.trans le7;refine nE (rc y1 (yM ⟨_,rfl,h12⟩) rN) ?_;intro b3 I08 le8 h14;have H:=H.trans le8;exact yK [] H ⟨_,rfl,rfl,h14⟩
     · rintro I1 hf le1 _ _ ⟨b2,rfl,rfl,h10⟩ _ _ ⟨b3,rfl,rfl,h14⟩;exact yS [32,38] rfl<|oH 10 [(39,vA [vS (some ⟨b2,0,none⟩) ([y]:List zA) 1,vS (some ⟨b3,0,none⟩) ([y1]:List zA) 1])]<|yK [] iR ⟨_,_,rfl,rfl,h10,h14⟩
     · rintro I1 hf le1 _ _ ⟨b21,b31,rfl,rfl,h101,h141⟩;refine yS [39] rfl ?_;have H:=iS I1;refine nE (rc (zD.mk ([y]:List zA) ([y1]:List zA)) (nI ⟨_,_,rfl,h101,h141⟩) rN) ?_;intro b4 I09 le9 h16;have H:=H.trans le9;exact yK [] H ⟨_,rfl,rfl,h16⟩
     rintro I1 hf le1 _ _ ⟨rfl,rfl⟩ _ _ ⟨b4,rfl,rfl,h16⟩ _ _ rfl;refine yS [30,40] rfl ?_;have h3:=iM le1 h3;obtain ⟨ccs3,k0,k01⟩:=h16;have h16:SL I1 (vS (some ⟨b4,0,none⟩) ([(zD.mk ([y]:List zA) ([y1]:List zA))]:List zD) 1) ([(zD.mk ([y]:List zA) ([y1]:List zA))]:List zD):=⟨_,k0,k01⟩;exact qB 170 2 0 rfl rfl rfl h3 (.inl k0) k01 hy5 fun p5 c5 cs4 h17=>uG (hs':=(hO zD (vS p5 out2 c5) cs4::hf)) rfl<|yK [hO zD (vS p5 out2 c5) cs4] iR ⟨_,_,_,rfl,rfl,h17⟩
   rintro I010 le10 _ _ ⟨p5,c5,cs4,rfl,rfl,h17⟩;refine yS [0,5,41] rfl ?_;have ⟨h,H⟩:=m2 le10 h H;exact yJ [] [4] rfl<|zO<|zI<|zL<|yJ [] [5] rfl<|yQ<|nO<|ih out2 (W (i + 1)) _ N H h h17 hg ho hx hr
 intro hc1 N;exact wY<|yO<|hx _ _ _ _ _ (zB N).symm H h3
def jJ (sizes:(List Int)):Option ((List zD)×Bool):=do
 if (decide ((sizes.length:Int) > 4)) then
  pure (([]:List zD),false)
 else
  match←qL sizes ([]:List zD) 0 with
  | .ret r0=>pure r0
  | .done out1 =>
   pure (out1,true)
theorem zEu:∀ sizes r,jJ sizes=some r→∀ {I:Imm}{p c},(S4 I p sizes c)→RT 179 [vS p sizes c] I [] (zAK  r):=by
 intro sizes r N I p c h;unfold jJ at N;refine yL Tryz.func179 fun B=>wV []<|xG<|tJ [] zD ?_;intro b hb;have h1:RL I [] ([]:List zD):=rfl;refine yJ [] [4] rfl<|zX<|yD [9] rfl<|zI<|yB N ?_ ?_
 · intro hc N;refine yD [2,3] rfl<|xB<|zF<|xA 0 rfl ?_;intro I0 le hl0;have h2:=SL.of_frozen hl0 le h1;obtain rfl:=zB N;exact xC ⟨_,_,(.tmp rfl (.tmp rfl ResV.nil)),zP,⟨_,_,rfl,rfl,h2,rfl⟩⟩
 intro hc N;refine zS<|zX<|yD [5] rfl<|wB<|qW [(0,vS p sizes c),(4,vS (some ⟨b,0,none⟩) ([]:List zD) 0),(5,vI 0)] ?_;obtain ⟨o01,ho01,hMl⟩:=zC N;refine zCb sizes ([]:List zD) 0 o01 ho01 iR h h1 (fun _ _ _ h=>h) (fun _ _ h=>h) ?_ ?_
 · intro I011 out1 p2 c2 cs1 heq1 le11 h4;subst o01;refine zR<|wW [2,3] rfl<|xB<|xA 0 rfl ?_;intro I012 le12 hl07;have h18:=SL.of_frozen hl07 le12 h4;obtain rfl:=zB hMl;exact xC ⟨_,_,(.tmp rfl (.tmp rfl ResV.nil)),zP,⟨_,_,rfl,rfl,h18,rfl⟩⟩
 intro r0 I9 hs9 m9 heq9 le9 hrs9;subst heq9;refine zU<|zF ?_;obtain rfl:=zB hMl;exact xC hrs9
def zA7 (b0:Nat) (r:zN×zM):KT:=fun kk I' hs' v=>
  ∃ v0 k0,hs'=[.blk b0 ⟨k0⟩]∧v=tupV [v0]∧(∃ cs,v0=.agg ⟨cs⟩∧Rp.rep I' cs r.1)∧Rp.rep I' k0 r.2
def pL (y1:(List zD)) (Body2:List zQ) (n0:Int) (x6:zM):Option ((List zQ×zM)):=do
 if (decide (n0 < 5)) then
  let (y7,y8)←gD x6 (y1.length:Int)
  let y9←mL
  let (y11,y12)←pZ y9 (zN.mk y1 ([y7]:List zQ))
  if y12 then
   let l←app 152 Body2 ([y7]:List zQ)
   pure (l,y8)
  else
   pL y1 Body2 (W (n0 + 1)) y8
 else
  pure (Body2,x6)
 partial_fixpoint
theorem zD2 (y1:(List zD)) (Body2:List zQ):∀ (n0:Int) (x6:zM) (o:(List zQ×zM)),pL y1 Body2 n0 x6=some o→∀ {B}{I0 I:Imm}{Q}{i:Int}{x:zN}{k0:Int}{r01:Nat}{b:Nat}{p1 c1 p2 c2 p7 c7}{b1:Nat}{p14 c14 cs2 p15 c15},I0.le I→(S4 I p7 y1 c7)→(S4 I p1 x.Nest c1)→(S4 I p2 x.Body c2)→(RL I cs2 Body2)→(S4 I p15 x6.b c15)→NG Q→NO Q→(∀ (I':Imm) (Body3:List zQ) (x7:zM) (p16:Option Addr) (c16:Nat) (cs3:List Value) (p17:Option Addr) (c17:Nat),o=(Body3,x7)→I0.le I'→(RL I' cs3 Body3)→(S4 I' p17 x7.b c17)→T 81 B Q (.exit 4) I' [hO zQ (vS p16 Body3 c16) cs3,hB r01 (cRd x7 p17 c17),hB b1 [vS p7 y1 c7,vS p16 Body3 c16],hB b (cPart x p1 c1 p2 c2)] [(0,vP r01 0),(2,vP b 0),(3,vI i),(4,vP b1 0),(5,vI k0)])→J Tryz.prog 81 B (nav (bodyOf Tryz.f131) [1,0,1,0,0,1,0,0,1,0,1,0,0,1,0,0,1,0]) Q I [hO zQ (vS p14 Body2 c14) cs2,hB r01 (cRd x6 p15 c15),hB b1 [vS p7 y1 c7,vS p14 Body2 c14],hB b (cPart x p1 c1 p2 c2)] [(0,vP r01 0),(2,vP b 0),(3,vI i),(4,vP b1 0),(5,vI k0),(6,vI n0)]:=by
 refine pL.partial_correctness y1 Body2 _ fun self ih n0 x6 o N B I0 I Q i x k0 r01 b p1 c1 p2 c2 p7 c7 b1 p14 c14 cs2 p15 c15 H h7 h1 h2 h20 h21 hg ho hx=>yR hg ho<|zZ<|yD [31] rfl<|zI<|yB N ?_ ?_
 · intro hc2 N;refine zS<|zX<|yG<|yF<|yH 4 [2] [34,37] rfl<|rW (zY [1,0,2,3] (hs':=[hB r01 (cRd x6 p15 c15),hO zQ (vS p14 Body2 c14) cs2,hB b1 [vS p7 y1 c7,vS p14 Body2 c14],hB b (cPart x p1 c1 p2 c2)])) ?_;obtain ⟨⟨y7,y8⟩,hy2,N⟩:=zC N;refine sR (zFi x6 (y1.length:Int) _ hy2 h21) rfl ?_;rintro I03 hs2 v2 k2 le3 - ⟨v04,kk2,rfl,rfl,⟨cs4,rfl,h24⟩,h25⟩ -;have ⟨h20,h7,h1,h2,H⟩:=m5 le3 h20 h7 h1 h2 H;obtain ⟨p18,c18,p19,c19,p20,c20,p21,c21,rfl,h26,h27,h28,h29⟩:=qC h24;obtain ⟨p22,c22,rfl,h30⟩:=yA h25;refine uF [vT ([]),z0,vI 0,vI 0,z0,vI 0,vT ([]),z0,z0] ?_;intro b3 hb3;refine xQ 0 (cStmt y7 p18 c18 p19 c19 p20 c20 p21 c21) rfl<|yE rfl<|zI<|zZ ?_;obtain ⟨y9,hy3,N⟩:=zC N;obtain ⟨⟨y11,y12⟩,hy4,N⟩:=zC N;refine wX [.x (eS y9),.p (vP b1 0) [],.p (vS p7 y1 c7) [3],.p (vA (cStmt y7 p18 c18 p19 c19 p20 c20 p21 c21)) [0],.x (fun I' v hx=>∃ b4,v=vS (some ⟨b4,0,none⟩) ([y7]:List zQ) 1∧hx=[]∧(SL I' (vS (some ⟨b4,0,none⟩) ([y7]:List zQ) 1) ([y7]:List zQ))),.x (fun I' v hx=>∃ b41,v=vA [vS p7 y1 c7,vS (some ⟨b41,0,none⟩) ([y7]:List zQ) 1]∧hx=[]∧(SL I' (vS (some ⟨b41,0,none⟩) ([y7]:List zQ) 1) ([y7]:List zQ))),.q (.tuple ⟨[vI y11,.bool y12]⟩),.p (.tuple ⟨[vI y11,.bool y12]⟩) [],.p (vI y11) [],.p (.bool y12) [],.p (vI y11) []] [[],[],[(1,false)],[],[(3,false)],[(2,false),(4,false)],[(0,false),(5,false)],[(6,false)],[(7,false)],[(7,false)],[(8,false)]] [hB b3 (cStmt y7 p18 c18 p19 c19 p20 c20 p21 c21),hB r01 (cRd y8 p22 c22),hO zQ (vS p14 Body2 c14) cs2,hB b1 [vS p7 y1 c7,vS p14 Body2 c14],hB b (cPart x p1 c1 p2 c2)] [] [(9,false)] (zY [0,1,2,3,4]) ?_ ?_
   · refine Ox ?_<|Op<|Op<|Op<|Ox ?_<|Ox ?_<|Oq ?_<|Op<|Op<|Op<|Op<|On
     · intro I1 hf le1;refine eU [] ?_;have H:=iS I1;refine xV (gZ  _ hy3 ) ?_;rintro I04 hs2 v2 k2 le4 - ⟨v010,rfl,rfl,h31⟩ -;have H:=H.trans le4;obtain ⟨p23,c23,rfl⟩:=h31.form;exact yK [] H ⟨_,_,rfl,rfl,h31⟩
     · intro I1 hf le1;refine yS [43] rfl ?_;have H:=iS I1;have ⟨h26,h27,h28,h29⟩:=m4 le1 h26 h27 h28 h29;refine nE (rc y7 (wZ ⟨_,_,_,_,rfl,h26,h27,h28,h29⟩) rN) ?_;intro b4 I05 le5 h33;have H:=H.trans le5;exact yK [] H ⟨_,rfl,rfl,h33⟩
     · rintro I1 hf le1 _ _ ⟨rfl,rfl⟩ _ _ ⟨b4,rfl,rfl,h33⟩;refine yS [42,44] rfl ?_;exact oH 6 [(45,vA [vS p7 y1 c7,vS (some ⟨b4,0,none⟩) ([y7]:List zQ) 1])]<|yK [] iR ⟨_,rfl,rfl,h33⟩
     rintro I1 hf le1 _ _ ⟨p23,c23,rfl,rfl,h31⟩ _ _ ⟨b41,rfl,rfl,h331⟩;refine yS [40,45] rfl ?_;have H:=iS I1;have h7:=h7.mono le1;refine xV (dI y9 (zN.mk y1 ([y7]:List zQ)) _ hy4 h31 h7 h331) ?_;rintro I06 hs2 v2 k2 le6 - ⟨v011,v012,rfl,rfl,rfl,rfl⟩ -;have H:=H.trans le6;exact xF H
   intro I07 le7;refine yS [0,2,3,4,5,6,7,48] rfl ?_;have ⟨h26,h27,h28,h29,h30,h20⟩:=m6 le7 h26 h27 h28 h29 h30 h20;have ⟨h7,h1,h2,H⟩:=m4 le7 h7 h1 h2 H;refine yJ [] [9] rfl<|wW [49] rfl<|zI<|yB N ?_ ?_
   · intro hc3 N;refine yF<|oD 3 [3,0] [(51,vS p14 Body2 c14),(52,vA (cStmt y7 p18 c18 p19 c19 p20 c20 p21 c21))]<|tJ (cStmt y7 p18 c18 p19 c19 p20 c20 p21 c21) zQ ?_;intro b5 hb5;have h36:RL I07 (cStmt y7 p18 c18 p19 c19 p20 c20 p21 c21) ([y7]:List zQ):=⟨(cStmt y7 p18 c18 p19 c19 p20 c20 p21 c21),_,rfl,rfl,(wZ ⟨_,_,_,_,rfl,h26,h27,h28,h29⟩),rfl⟩;obtain ⟨l,hy5,N⟩:=zC N;refine qB 43 9 3 rfl rfl rfl h20 (.inr ⟨0,rfl⟩) h36 hy5 ?_;intro p24 c24 cs5 h37;exact rW (zY [1,2,3,4,5] (hs':=[hB b3 (cStmt y7 p18 c18 p19 c19 p20 c20 p21 c21),hB r01 (cRd y8 p22 c22),hO zQ (vS p24 l c24) cs5,hB b1 [vS p7 y1 c7,vS p14 Body2 c14],hB b (cPart x p1 c1 p2 c2)]))<|yH 6 [] [55] rfl<|xQ 3 [vS p7 y1 c7,vS p24 l c24] rfl<|yE rfl<|zI<|zFS<|zGV rfl<|jB<|jB<|wA (zW [2,1,3,4] rfl (by decide))<|yO<|hx _ _ _ _ _ _ _ _ (zB N).symm H h37 h30
   intro hc3 N;exact zS<|zO<|zI<|zL<|yJ [] [6] rfl<|yQ<|jR (zW [2,1,3,4] rfl (by decide))<|nO<|ih (W (n0 + 1)) y8 _ N H h7 h1 h2 h20 h30 hg ho hx
 intro hc2 N;exact wY<|yO<|hx _ _ _ _ _ _ _ _ (zB N).symm H h20 h21
def pM (y1:(List zD)) (k0:Int) (Body:List zQ) (x4:zM):Option ((List zQ×zM)):=do
 if (decide (k0 > 0)) then
  let (Body3,x7)←pL y1 Body 0 x4
  pM y1 (W (k0 - 1)) Body3 x7
 else
  pure (Body,x4)
 partial_fixpoint
theorem zD3 (y1:(List zD)):∀ (k0:Int) (Body:List zQ) (x4:zM) (o:(List zQ×zM)),pM y1 k0 Body x4=some o→∀ {B}{I0 I:Imm}{Q}{i:Int}{x:zN}{r01:Nat}{b:Nat}{p1 c1 p2 c2 p7 c7}{b1:Nat}{p10 c10 cs p11 c11},I0.le I→(S4 I p7 y1 c7)→(S4 I p1 x.Nest c1)→(S4 I p2 x.Body c2)→(RL I cs Body)→(S4 I p11 x4.b c11)→NG Q→NO Q→(∀ (I':Imm) (Body1:List zQ) (x5:zM) (p12:Option Addr) (c12:Nat) (cs1:List Value) (p13:Option Addr) (c13:Nat),o=(Body1,x5)→I0.le I'→(RL I' cs1 Body1)→(S4 I' p13 x5.b c13)→T 81 B Q (.exit 2) I' [hO zQ (vS p12 Body1 c12) cs1,hB r01 (cRd x5 p13 c13),hB b1 [vS p7 y1 c7,vS p12 Body1 c12],hB b (cPart x p1 c1 p2 c2)] [(0,vP r01 0),(2,vP b 0),(3,vI i),(4,vP b1 0)])→J Tryz.prog 81 B (nav (bodyOf Tryz.f131) [1,0,1,0,0,1,0,0,1,0,1,0]) Q I [hO zQ (vS p10 Body c10) cs,hB r01 (cRd x4 p11 c11),hB b1 [vS p7 y1 c7,vS p10 Body c10],hB b (cPart x p1 c1 p2 c2)] [(0,vP r01 0),(2,vP b 0),(3,vI i),(4,vP b1 0),(5,vI k0)]:=by
 refine pM.partial_correctness y1 _ fun self ih k0 Body x4 o N B I0 I Q i x r01 b p1 c1 p2 c2 p7 c7 b1 p10 c10 cs p11 c11 H h7 h1 h2 h16 h17 hg ho hx=>yR hg ho<|zZ<|yD [27] rfl<|zI<|yB N ?_ ?_
 · intro hc1 N;refine zS<|zX<|yG<|yD [6] rfl<|wB<|qW [(0,vP r01 0),(2,vP b 0),(3,vI i),(4,vP b1 0),(5,vI k0),(6,vI 0)] ?_;obtain ⟨o0,ho0,hMl⟩:=zC N;refine zD2 y1 Body 0 x4 o0 ho0 iR h7 h1 h2 h16 h17 (fun _ _ _ h=>hg _ _ _ h) (fun _ _ h=>ho _ _ h) ?_;intro I08 Body3 x7 p16 c16 cs3 p17 c17 heq le8 h22 h23;subst o0;have ⟨h7,h1,h2,H⟩:=m4 le8 h7 h1 h2 H;exact zR<|zO<|zI<|zL<|yJ [] [5] rfl<|yQ<|nO<|ih (W (k0 - 1)) Body3 x7 _ hMl H h7 h1 h2 h22 h23 hg ho hx
 intro hc1 N;exact wY<|yO<|hx _ _ _ _ _ _ _ _ (zB N).symm H h16 h17
def pO (x:zN) (i:Int) (x1:zM):Option (Out (zN×zM) (zN×zM)):=do
 if (decide (i < 4)) then
  let (y1,y2)←gB x1
  let (y4,y5)←yU y2 ([1,2,1,3]:List Int)
  let (Body1,x5)←pM y1 y4 ([]:List zQ) y5
  let y13←mL
  let (y15,y16)←pZ y13 (zN.mk y1 Body1)
  let t66←(do
    if y16 then
     pure (decide (y15 ≤ 40))
    else
     pure false
      : Option Bool)
  if t66 then
   pure (.ret ((zN.mk y1 Body1),x5))
  else
   pO x (W (i + 1)) x5
 else
  pure (.done (x,x1))
 partial_fixpoint
theorem zD4 (x:zN):∀ (i:Int) (x1:zM) (o:Out (zN×zM) (zN×zM)),pO x i x1=some o→∀ {B}{I0 I:Imm}{Q}  {r01:Nat}{b:Nat}{p1 c1 p2 c2 p3 c3},I0.le I→(S4 I p1 x.Nest c1)→(S4 I p2 x.Body c2)→(S4 I p3 x1.b c3)→NG Q→NO Q→(∀ (I':Imm) (x2:zN) (x3:zM) (p4:Option Addr) (c4:Nat) (p5:Option Addr) (c5:Nat) (p6:Option Addr) (c6:Nat),o=(.done (x2,x3))→I0.le I'→(S4 I' p4 x2.Nest c4)→(S4 I' p5 x2.Body c5)→(S4 I' p6 x3.b c6)→T 81 B Q (.exit 0) I' [hB b (cPart x2 p4 c4 p5 c5),hB r01 (cRd x3 p6 c6)] [(2,vP b 0)])→(∀ r I' hs' m',o=(.ret r)→I0.le I'→RS Tryz.prog Tryz.f131 B (zA7 r01 r) I' hs' m'→T 81 B Q .ret I' hs' m')→J Tryz.prog 81 B (nav (bodyOf Tryz.f131) [1,0,1,0]) Q I [hB b (cPart x p1 c1 p2 c2),hB r01 (cRd x1 p3 c3)] [(0,vP r01 0),(2,vP b 0),(3,vI i)]:=by
 refine pO.partial_correctness x _ fun self ih i x1 o N B I0 I Q r01 b p1 c1 p2 c2 p3 c3 H h1 h2 h3 hg ho hx hr=>yR hg ho<|zZ<|yD [17] rfl<|zI<|yB N ?_ ?_
 · intro hc N;refine zS<|zX<|yG<|yF<|yH 1 [] [20] rfl<|rW (zY [1,0] (hs':=[hB r01 (cRd x1 p3 c3),hB b (cPart x p1 c1 p2 c2)])) ?_;obtain ⟨⟨y1,y2⟩,hy,N⟩:=zC N;refine sR (zFg x1 _ hy h3) rfl ?_;rintro I0 hs2 v2 k2 le - ⟨v0,kk,rfl,rfl,h7,h8⟩ -;have ⟨h1,h2,H⟩:=m3 le h1 h2 H;obtain ⟨p7,c7,rfl⟩:=h7.form;obtain ⟨p8,c8,rfl,h9⟩:=yA h8;refine yH 3 [] [22] rfl<|uF zTwo ?_;intro b1 hb1;refine xQ 0 [vS p7 y1 c7,z0] rfl<|yE rfl<|zX<|yF<|yH 1 [] [23] rfl<|nE (rI [1,2,1,3]) ?_;intro b2 I01 le1 h11;have ⟨h7,h9,h1,h2,H⟩:=m5 le1 h7 h9 h1 h2 H;refine rW (zY [1,0,2] (hs':=[hB r01 (cRd y2 p8 c8),hB b1 [vS p7 y1 c7,z0],hB b (cPart x p1 c1 p2 c2)])) ?_;obtain ⟨⟨y4,y5⟩,hy1,N⟩:=zC N;refine sR (xD y2 ([1,2,1,3]:List Int) _ hy1 h9 h11) rfl ?_;rintro I02 hs2 v2 k2 le2 - ⟨v02,kk1,rfl,rfl,rfl,h13⟩ -;have ⟨h7,h1,h2,H⟩:=m4 le2 h7 h1 h2 H;obtain ⟨p9,c9,rfl,h14⟩:=yA h13;refine yJ [] [5] rfl<|wB<|qW [(0,vP r01 0),(2,vP b 0),(3,vI i),(4,vP b1 0),(5,vI y4)]<|eV zQ fun h15=>?_;obtain ⟨o01,ho01,hMl1⟩:=zC N;refine zD3 y1 y4 ([]:List zQ) y5 o01 ho01 iR h7 h1 h2 h15 h14 (fun _ _ _ h=>hg _ _ _ h) (fun _ _ h=>ho _ _ h) ?_;intro I09 Body1 x5 p12 c12 cs1 p13 c13 heq1 le9 h18 h19;subst o01;have ⟨h7,h1,h2,H⟩:=m4 le9 h7 h1 h2 H;refine zR<|zX<|oT 0 rfl ?_;intro I010 le10 hl02;have h38:=SL.of_frozen hl02 le10 h18;have ⟨h19,h7,h1,h2,H⟩:=m5 le10 h19 h7 h1 h2 H;obtain ⟨y13,hy6,N⟩:=zC hMl1;obtain ⟨⟨y15,y16⟩,hy7,N⟩:=zC N;refine wX [.x (eS y13),.p (vA [vS p7 y1 c7,vS p12 Body1 c12]) [1],.q (.tuple ⟨[vI y15,.bool y16]⟩),.p (.tuple ⟨[vI y15,.bool y16]⟩) [],.p (vI y15) [],.p (.bool y16) [],.p (vI y15) []] [[],[],[(0,false),(1,false)],[(2,false)],[(3,false)],[(3,false)],[(4,false)]] [hB r01 (cRd x5 p13 c13),hB b1 [vS p7 y1 c7,vS p12 Body1 c12],hB b (cPart x p1 c1 p2 c2)] [] [(5,false),(6,false)] (zY [0,1,2]) ?_ ?_
   · refine Ox ?_<|Op<|Oq ?_<|Op<|Op<|Op<|Op<|On
     · intro I1 hf le1;refine eU [] ?_;have H:=iS I1;refine xV (gZ  _ hy6 ) ?_;rintro I011 hs2 v2 k2 le11 - ⟨v013,rfl,rfl,h39⟩ -;have H:=H.trans le11;obtain ⟨p25,c25,rfl⟩:=h39.form;exact yK [] H ⟨_,_,rfl,rfl,h39⟩
     rintro I1 hf le1 _ _ ⟨p25,c25,rfl,rfl,h39⟩;refine yS [57,58] rfl ?_;have H:=iS I1;have ⟨h7,h38⟩:=m2 le1 h7 h38;refine xV (dI y13 (zN.mk y1 Body1) _ hy7 h39 h7 h38) ?_;rintro I012 hs2 v2 k2 le12 - ⟨v014,v015,rfl,rfl,rfl,rfl⟩ -;have H:=H.trans le12;exact xF H
   intro I013 le13;refine yS [0,2,3,4,10,61] rfl ?_;have ⟨h19,h7,h38,h1,h2,H⟩:=m6 le13 h19 h7 h38 h1 h2 H;refine yJ [] [11] rfl<|zI<|zZ ?_;refine wP N [hB r01 (cRd x5 p13 c13),hB b1 [vS p7 y1 c7,vS p12 Body1 c12],hB b (cPart x p1 c1 p2 c2)] (fun t66=>[(0,vP r01 0),(2,vP b 0),(3,vI i),(4,vP b1 0),(66,.bool t66)]) (fun o02 ho02=>?_) ?_
   · have H:=iS I013;refine zL<|yH 2 [] [63] rfl<|xZ [63] ho02 ?_ ?_
     · intro hc4 N;exact yJ [] [66] rfl<|yO<|zV (ct N H)
     intro hc4 N;exact vG [] [(66,vF)]<|yO<|zV (ct N H)
   intro t66 I014 le14 hMc;have ⟨h19,h7,h38,h1,h2,H⟩:=m6 le14 h19 h7 h38 h1 h2 H;refine zI<|yB hMc ?_ ?_
   · intro hc5 N;exact yF<|oD 1 [1] [(67,vA [vS p7 y1 c7,vS p12 Body1 c12])]<|xQ 2 [vS p7 y1 c7,vS p12 Body1 c12] rfl<|yE rfl<|xB<|zU<|zF<|zF<|hr _ _ _ _ (zB N).symm H ⟨_,_,(.cell 2 rfl rfl (by kernel_rfl) ResV.nil),(zW [0] rfl (by decide)),⟨_,_,rfl,rfl,⟨_,rfl,(qD ⟨_,_,rfl,h7,h38⟩)⟩,(yT ⟨_,rfl,h19⟩)⟩⟩
   intro hc5 N;exact zS<|zO<|zI<|zL<|yJ [] [3] rfl<|yQ<|jR (zW [2,0] rfl (by decide))<|nO<|ih (W (i + 1)) x5 _ N H h1 h2 h19 hg ho hx hr
 intro hc N;exact wY<|yO<|hx _ _ _ _ _ _ _ _ _ (zB N).symm H h1 h2 h3
def gH (r0:zM):Option (zN×zM):=do
 match←pO (zN.mk ([]:List zD) ([]:List zQ)) 0 r0 with
 | .ret r0=>pure r0
 | .done (x2,x3) =>
  let (y18,y19)←mY (⟨[65,91,105,93,61,40,65,91,105,93,43,123,105,125,41]⟩:Str)
  let (y21,y22)←jJ ([4]:List Int)
  pure ((zN.mk y21 ([y18]:List zQ)),x3)
theorem zFn:∀ r0 r,gH r0=some r→∀ {I:Imm}{r01:Nat}{p c},(S4 I p r0.b c)→RT 131 [vP r01 0] I [hB r01 (cRd r0 p c)] (zA7 r01 r):=by
 intro r0 r N I r01 p c h;unfold gH at N;refine yL Tryz.func131 fun B=>yF<|uF zTwo ?_;intro b hb;refine yE rfl<|zX<|yD [3] rfl<|wB<|qW [(0,vP r01 0),(2,vP b 0),(3,vI 0)] ?_;obtain ⟨o03,ho03,hMl2⟩:=zC N;refine zD4 (zN.mk ([]:List zD) ([]:List zQ)) 0 r0 o03 ho03 iR (SL.nil _) (SL.nil _) h (fun _ _ _ h=>h) (fun _ _ h=>h) ?_ ?_
 · intro I015 x2 x3 p4 c4 p5 c5 p6 c6 heq3 le15 h4 h5 h6;subst o03;refine zR<|zX<|zL ?_;obtain ⟨⟨y18,y19⟩,hy8,N⟩:=zC hMl2;refine xV (zD1 (⟨[65,91,105,93,61,40,65,91,105,93,43,123,105,125,41]⟩:Str) _ hy8 ) ?_;rintro I016 hs2 v2 k2 le16 - ⟨v016,v017,rfl,rfl,⟨cs6,rfl,h42⟩,rfl⟩ -;have h6:=h6.mono le16;obtain ⟨p26,c26,p27,c27,p28,c28,p29,c29,rfl,h44,h45,h46,h47⟩:=qC h42;refine yH 4 [] [70,71] rfl<|uF [vT ([]),z0,vI 0,vI 0,z0,vI 0,vT ([]),z0,z0] ?_;intro b6 hb6;refine xQ 0 (cStmt y18 p26 c26 p27 c27 p28 c28 p29 c29) rfl<|vG [] []<|xG<|nE (rI [4]) ?_;intro b7 I017 le17 h49;have ⟨h44,h45,h46,h47,h6⟩:=m5 le17 h44 h45 h46 h47 h6;obtain ⟨⟨y21,y22⟩,hy9,N⟩:=zC N;refine xV (zEu ([4]:List Int) _ hy9 h49) ?_;rintro I018 hs2 v2 k2 le18 - ⟨v022,v023,rfl,rfl,h50,rfl⟩ -;have ⟨h44,h45,h46,h47,h6⟩:=m5 le18 h44 h45 h46 h47 h6;obtain ⟨p30,c30,rfl⟩:=h50.form;refine yJ [] [14] rfl<|xG<|oD 2 [0] [(77,vS p30 y21 c30),(78,vA (cStmt y18 p26 c26 p27 c27 p28 c28 p29 c29))]<|tJ (cStmt y18 p26 c26 p27 c27 p28 c28 p29 c29) zQ ?_;intro b8 hb8;have h52:RL I018 (cStmt y18 p26 c26 p27 c27 p28 c28 p29 c29) ([y18]:List zQ):=⟨(cStmt y18 p26 c26 p27 c27 p28 c28 p29 c29),_,rfl,rfl,(wZ ⟨_,_,_,_,rfl,h44,h45,h46,h47⟩),rfl⟩;refine yH 4 [] [80] rfl<|xQ 2 [vS p30 y21 c30,vS (some ⟨b8,0,none⟩) ([y18]:List zQ) 1] rfl<|yE rfl<|xB<|xA 0 rfl ?_;intro I019 le19 hl04;have h53:=SL.of_frozen hl04 le19 h52;have ⟨h50,h6⟩:=m2 le19 h50 h6;obtain rfl:=zB N;exact xC ⟨_,_,(.cell 1 rfl rfl (by kernel_rfl) ResV.nil),(zW [2] rfl (by decide)),⟨_,_,rfl,rfl,⟨_,rfl,(qD ⟨_,_,rfl,h50,h53⟩)⟩,(yT ⟨_,rfl,h6⟩)⟩⟩
 intro r0 I9 hs9 m9 heq9 le9 hrs9;subst heq9;refine zU<|zF ?_;obtain rfl:=zB hMl2;exact xC hrs9
def zER (b0:Nat) (r:zE×zM):KT:=fun kk I' hs' v=>
  ∃ v0 k0,hs'=[.blk b0 ⟨k0⟩]∧v=tupV [v0]∧(∃ cs,v0=.agg ⟨cs⟩∧Rp.rep I' cs r.1)∧Rp.rep I' k0 r.2
def pP (i:Int) (Parts:List zN) (x:zM):Option ((List zN×zM)):=do
 if (decide (i > 0)) then
  let (y5,y6)←gH x
  let l←app 48 Parts ([y5]:List zN)
  pP (W (i - 1)) l y6
 else
  pure (Parts,x)
 partial_fixpoint
theorem zD5 :∀ (i:Int) (Parts:List zN) (x:zM) (o:(List zN×zM)),pP i Parts x=some o→∀ {B}{I0 I:Imm}{Q}{y:(List zH)}{r01:Nat}{b:Nat}{p1 c1}{b1:Nat}{p3 c3 cs p4 c4},I0.le I→(S4 I p1 y c1)→(RL I cs Parts)→(S4 I p4 x.b c4)→NG Q→NO Q→(∀ (I':Imm) (Parts1:List zN) (x1:zM) (p5:Option Addr) (c5:Nat) (cs1:List Value) (p6:Option Addr) (c6:Nat),o=(Parts1,x1)→I0.le I'→(RL I' cs1 Parts1)→(S4 I' p6 x1.b c6)→T 29 B Q (.exit 0) I' [hO zN (vS p5 Parts1 c5) cs1,hB r01 (cRd x1 p6 c6),hB b1 [vS p1 y c1,vS p5 Parts1 c5],hB b zTwo] [(2,vP b 0),(3,vP b1 0)])→J Tryz.prog 29 B (nav (bodyOf Tryz.f84) [1,1,0,1,0]) Q I [hO zN (vS p3 Parts c3) cs,hB r01 (cRd x p4 c4),hB b1 [vS p1 y c1,vS p3 Parts c3],hB b zTwo] [(0,vP r01 0),(2,vP b 0),(3,vP b1 0),(4,vI i)]:=by
 refine pP.partial_correctness  _ fun self ih i Parts x o N B I0 I Q y r01 b p1 c1 b1 p3 c3 cs p4 c4 H h1 h8 h9 hg ho hx=>yR hg ho<|zZ<|yD [11] rfl<|zI<|yB N ?_ ?_
 · intro hc N;refine zS<|zX<|yG ?_;obtain ⟨⟨y5,y6⟩,hy2,N⟩:=zC N;obtain ⟨l,hy3,N⟩:=zC N;refine wX [.p (vP b1 1) [],.p (vS p3 Parts c3) [0],.p (vP r01 0) [],.x (fun I' v hx=>∃ p7 c7 p8 c8 p9 c9,v=vA (cPart y5 p7 c7 p8 c8)∧hx=[hB r01 (cRd y6 p9 c9)]∧(S4 I' p7 y5.Nest c7)∧(S4 I' p8 y5.Body c8)∧(S4 I' p9 y6.b c9)),.x (fun I' v hx=>∃ b3,v=vS (some ⟨b3,0,none⟩) ([y5]:List zN) 1∧hx=[]∧(SL I' (vS (some ⟨b3,0,none⟩) ([y5]:List zN) 1) ([y5]:List zN))),.x (fun I' v hx=>∃ p10 c10 cs3,v=vS p10 l c10∧hx=[hO zN (vS p10 l c10) cs3]∧(RL I' cs3 l))] [[],[(0,false)],[],[(2,false),(8,true)],[(3,false)],[(1,false),(4,false),(9,true)]] [hB b1 [vS p1 y c1,vS p3 Parts c3],hB b zTwo] [[hB r01 (cRd x p4 c4)],[hO zN (vS p3 Parts c3) cs]] [(3,true),(5,true)] (zY [2,3,1,0]) ?_ ?_
   · refine Op<|Op<|Op<|Ox ?_<|Ox ?_<|Ox ?_<|On
     · rintro I1 hf le1 _ _ ⟨rfl,rfl⟩ _ _ rfl;refine yS [16] rfl ?_;have H:=iS I1;have h9:=h9.mono le1;refine sR (zFn x _ hy2 h9) rfl ?_;rintro I03 hs2 v2 k2 le3 - ⟨v03,kk1,rfl,rfl,⟨cs2,rfl,h12⟩,h13⟩ -;have H:=H.trans le3;obtain ⟨p7,c7,p8,c8,rfl,h14,h15⟩:=tD h12;obtain ⟨p9,c9,rfl,h16⟩:=yA h13;exact yK [hB r01 (cRd y6 p9 c9)] H ⟨_,_,_,_,_,_,rfl,rfl,h14,h15,h16⟩
     · rintro I1 hf le1 _ _ ⟨p7,c7,p8,c8,p9,c9,rfl,rfl,h14,h15,h16⟩;refine yS [17] rfl ?_;have H:=iS I1;refine nE (rc y5 (qD ⟨_,_,rfl,h14,h15⟩) rN) ?_;intro b3 I04 le4 h18;have H:=H.trans le4;exact yK [] H ⟨_,rfl,rfl,h18⟩
     rintro I1 hf le1 _ _ ⟨rfl,rfl⟩ _ _ ⟨b3,rfl,rfl,h18⟩ _ _ rfl;refine yS [15,18] rfl ?_;have h8:=iM le1 h8;obtain ⟨ccs,k0,k01⟩:=h18;have h18:SL I1 (vS (some ⟨b3,0,none⟩) ([y5]:List zN) 1) ([y5]:List zN):=⟨_,k0,k01⟩;exact qB 47 2 0 rfl rfl rfl h8 (.inl k0) k01 hy3 fun p10 c10 cs3 h19=>uG (hs':=(hO zN (vS p10 l c10) cs3::hB b1 [vS p1 y c1,vS p3 Parts c3]::hB b zTwo::hf)) rfl<|yK [hO zN (vS p10 l c10) cs3] iR ⟨_,_,_,rfl,rfl,h19⟩
   rintro I05 le5 _ _ ⟨p7,c7,p8,c8,p9,c9,rfl,rfl,h14,h15,h16⟩ _ _ ⟨p10,c10,cs3,rfl,rfl,h19⟩;refine yS [0,2,3,4,19] rfl ?_;have ⟨h1,H⟩:=m2 le5 h1 H;exact yH 7 [] [20] rfl<|xQ 2 [vS p1 y c1,vS p10 l c10] rfl<|yE rfl<|zO<|zI<|zL<|yJ [] [4] rfl<|yQ<|nO<|ih (W (i - 1)) l y6 _ N H h1 h19 h16 hg ho hx
 intro hc N;exact wY<|yO<|hx _ _ _ _ _ _ _ _ (zB N).symm H h8 h9
def gI (r0:zM):Option (zE×zM):=do
 let y←mL
 let (y2,y3)←yU r0 ([1,2,1,3]:List Int)
 let (Parts1,x1)←pP y2 ([]:List zN) y3
 let y7←tP (zE.mk y Parts1)
 if y7 then
  pure ((zE.mk y Parts1),x1)
 else
  let y8←mL
  let l1←slc Parts1 0 1
  pure ((zE.mk y8 l1),x1)
theorem zFo:∀ r0 r,gI r0=some r→∀ {I:Imm}{r01:Nat}{p c},(S4 I p r0.b c)→RT 84 [vP r01 0] I [hB r01 (cRd r0 p c)] (zER r01 r):=by
 intro r0 r N I r01 p c h;unfold gI at N;refine yL Tryz.func84 fun B=>?_;have H:=iS I;refine yF<|uF zTwo ?_;intro b hb;refine yE rfl<|xG<|bE N fun y hy N=>xV (gZ  _ hy ) ?_;rintro I0 hs2 v2 k2 le - ⟨v0,rfl,rfl,h1⟩ -;have ⟨h,H⟩:=m2 le h H;obtain ⟨p1,c1,rfl⟩:=h1.form;refine yH 2 [] [6] rfl<|uF zTwo ?_;intro b1 hb1;refine xQ 0 [vS p1 y c1,z0] rfl<|yE rfl<|zX<|yF<|yH 1 [] [7] rfl<|nE (rI [1,2,1,3]) ?_;intro b2 I01 le1 h3;have ⟨h1,h,H⟩:=m3 le1 h1 h H;refine rW (zY [2,0,1] (hs':=[hB r01 (cRd r0 p c),hB b1 [vS p1 y c1,z0],hB b zTwo])) ?_;obtain ⟨⟨y2,y3⟩,hy1,N⟩:=zC N;refine sR (xD r0 ([1,2,1,3]:List Int) _ hy1 h h3) rfl ?_;rintro I02 hs2 v2 k2 le2 - ⟨v01,kk,rfl,rfl,rfl,h5⟩ -;have ⟨h1,H⟩:=m2 le2 h1 H;obtain ⟨p2,c2,rfl,h6⟩:=yA h5;refine yJ [] [4] rfl<|wB<|qW [(0,vP r01 0),(2,vP b 0),(3,vP b1 0),(4,vI y2)]<|eV zN fun h7=>?_;obtain ⟨o0,ho0,hMl⟩:=zC N;refine zD5 y2 ([]:List zN) y3 o0 ho0 iR h1 h7 h6 (fun _ _ _ h=>h) (fun _ _ h=>h) ?_;intro I06 Parts1 x1 p5 c5 cs1 p6 c6 heq le6 h10 h11;subst o0;have ⟨h1,H⟩:=m2 le6 h1 H;refine zR<|zX<|yF<|oD 1 [2] [(21,vA [vS p1 y c1,vS p5 Parts1 c5])]<|xM 0 rfl ?_;intro I07 le7 hl02;have h20:=SL.of_frozen hl02 le7 h10;have ⟨h1,h11,H⟩:=m3 le7 h1 h11 H;obtain ⟨y7,hy4,N⟩:=zC hMl;refine uH (fY (zE.mk y Parts1) _ hy4 h1 h20) ?_;intro I08 le8;have ⟨h11,h1,h20,H⟩:=m4 le8 h11 h1 h20 H;refine yE rfl<|zI<|yB N ?_ ?_
 · intro hc1 N;refine yF<|oD 1 [1] [(23,vA [vS p1 y c1,vS p5 Parts1 c5])]<|xQ 2 [vS p1 y c1,vS p5 Parts1 c5] rfl<|yE rfl<|xB<|zF ?_;obtain rfl:=zB N;exact xC ⟨_,_,(.cell 2 rfl rfl (by kernel_rfl) ResV.nil),(zW [0] rfl (by decide)),⟨_,_,rfl,rfl,⟨_,rfl,(nY ⟨_,_,rfl,h1,h20⟩)⟩,(yT ⟨_,rfl,h11⟩)⟩⟩
 intro hc1 N;refine zS<|zI<|zZ ?_;obtain ⟨y8,hy5,N⟩:=zC N;obtain ⟨l1,hy6,N⟩:=zC N;refine wX [.x (eS y8),.p (vP b1 1) [],.p (vS p5 Parts1 c5) [1],.x (eS l1),.x (fun I' v hx=>∃ p111 c111 p121 c121,v=vA [vS p111 y8 c111,vS p121 l1 c121]∧hx=[]∧(S4 I' p111 y8 c111)∧(S4 I' p121 l1 c121))] [[],[],[(1,false)],[(2,false)],[(0,false),(3,false)]] [hB r01 (cRd x1 p6 c6),hB b1 [vS p1 y c1,vS p5 Parts1 c5],hB b zTwo] [] [(4,false)] (zY [0,1,2]) ?_ ?_
 · refine Ox ?_<|Op<|Op<|Ox ?_<|Ox ?_<|On
   · intro I1 hf le1;refine eU [] ?_;have H:=iS I1;refine xV (gZ  _ hy5 ) ?_;rintro I09 hs2 v2 k2 le9 - ⟨v08,rfl,rfl,h22⟩ -;have H:=H.trans le9;obtain ⟨p11,c11,rfl⟩:=h22.form;exact yK [] H ⟨_,_,rfl,rfl,h22⟩
   · intro I1 hf le1;refine yS [26] rfl ?_;have h20:=h20.mono le1;refine zMj rfl h20 hy6 ?_;intro v09 h23;obtain ⟨p12,c12,rfl⟩:=h23.form;exact yK [] iR ⟨_,_,rfl,rfl,h23⟩
   rintro I1 hf le1 _ _ ⟨p11,c11,rfl,rfl,h22⟩ _ _ ⟨p12,c12,rfl,rfl,h23⟩;exact yS [24,27] rfl<|oH 5 [(28,vA [vS p11 y8 c11,vS p12 l1 c12])]<|yK [] iR ⟨_,_,_,_,rfl,rfl,h22,h23⟩
 rintro I010 le10 _ _ ⟨p111,c111,p121,c121,rfl,rfl,h221,h231⟩;refine yS [2,28] rfl ?_;have h11:=h11.mono le10;refine xQ 2 [vS p111 y8 c111,vS p121 l1 c121] rfl<|yE rfl<|zI<|yZ ?_;obtain rfl:=zB N;exact xC ⟨_,_,(.cell 2 rfl rfl (by kernel_rfl) ResV.nil),(zW [0] rfl (by decide)),⟨_,_,rfl,rfl,⟨_,rfl,(nY ⟨_,_,rfl,h221,h231⟩)⟩,(yT ⟨_,rfl,h11⟩)⟩⟩
def zA8 (r:zE×Int):KT:=fun kk I' hs' v=>
  ∃ v0 v1,hs'=[]∧v=tupV [v0,v1]∧(∃ cs,v0=.agg ⟨cs⟩∧Rp.rep I' cs r.1)∧v1=.int .i64 r.2
def mC (code:(List UInt8)):Option (zE×Int):=do
 let y←jE code
 let (y2,y3)←gI y
 let (y5,y6)←qR y3 y2
 let (y8,y9)←yU y6 ([0,0,1,2,(-1),5]:List Int)
 pure (y5,y8)
theorem zHb:∀ code r,mC code=some r→∀ {I:Imm}{p c},(S4 I p code c)→RT 35 [vS p code c] I [] (zA8  r):=by
 intro code r N I p c h;unfold mC at N;refine yL Tryz.func35 fun B=>?_;have H:=iS I;refine yF<|uF zTwo ?_;intro b hb;refine vG [] []<|xG<|yH 1 [] [6] rfl<|bE N fun y hy N=>xV (zEj code _ hy h) ?_;rintro I0 hs2 v2 k2 le - ⟨b1,p1,c1,rfl,rfl,h1⟩ -;have H:=H.trans le;refine yJ [] [4] rfl<|xG<|yH 2 [] [8,9] rfl ?_;obtain ⟨⟨y2,y3⟩,hy1,N⟩:=zC N;refine sR (zFo y _ hy1 h1) rfl ?_;rintro I01 hs2 v2 k2 le1 - ⟨v0,kk,rfl,rfl,⟨cs,rfl,h2⟩,h3⟩ -;have H:=H.trans le1;obtain ⟨p2,c2,p3,c3,rfl,h4,h5⟩:=zBH h2;obtain ⟨p4,c4,rfl,h6⟩:=yA h3;obtain ⟨⟨y5,y6⟩,hy2,N⟩:=zC N;refine sR (zED y3 y2 _ hy2 h6 h4 h5) rfl ?_;rintro I02 hs2 v2 k2 le2 - ⟨v04,kk1,rfl,rfl,⟨cs1,rfl,h7⟩,h8⟩ -;have H:=H.trans le2;obtain ⟨p5,c5,p6,c6,rfl,h9,h10⟩:=zBH h7;obtain ⟨p7,c7,rfl,h11⟩:=yA h8;refine uF zTwo ?_;intro b2 hb1;refine xQ 0 (cProg y5 p5 c5 p6 c6) rfl<|yE rfl<|zI<|zZ ?_;obtain ⟨⟨y8,y9⟩,hy3,N⟩:=zC N;refine wX [.p (vA (cProg y5 p5 c5 p6 c6)) [0],.p (vP b1 0) [],.x (fun I' v hx=>∃ b3,v=vS (some ⟨b3,0,none⟩) ([0,0,1,2,(-1),5]:List Int) 6∧hx=[]∧(SL I' (vS (some ⟨b3,0,none⟩) ([0,0,1,2,(-1),5]:List Int) 6) ([0,0,1,2,(-1),5]:List Int))),.x (fun I' v hx=>∃ p8 c8,v=vI y8∧hx=[hB b1 (cRd y9 p8 c8)]∧(S4 I' p8 y9.b c8)),.x (fun I' v hx=>hx=[hB b (cProg y5 p5 c5 p6 c6)])] [[],[],[],[(1,false),(2,false),(6,true)],[(0,false),(7,true)]] [hB b2 (cProg y5 p5 c5 p6 c6)] [[hB b1 (cRd y6 p7 c7)],[hB b zTwo]] [(3,true),(4,true)] (zY [0,1,2]) ?_ ?_
 · refine Op<|Op<|Ox ?_<|Ox ?_<|Ox ?_<|On
   · intro I1 hf le1;refine eU [] ?_;have H:=iS I1;refine nE (rI [0,0,1,2,(-1),5]) ?_;intro b3 I03 le3 h13;have H:=H.trans le3;exact yK [] H ⟨_,rfl,rfl,h13⟩
   · rintro I1 hf le1 _ _ ⟨rfl,rfl⟩ _ _ ⟨b3,rfl,rfl,h13⟩ _ _ rfl;refine yS [13,14] rfl ?_;have H:=iS I1;have h11:=h11.mono le1;refine sR (xD y6 ([0,0,1,2,(-1),5]:List Int) _ hy3 h11 h13) rfl ?_;rintro I04 hs2 v2 k2 le4 - ⟨v08,kk2,rfl,rfl,rfl,h15⟩ -;have H:=H.trans le4;obtain ⟨p8,c8,rfl,h16⟩:=yA h15;exact yK [hB b1 (cRd y9 p8 c8)] H ⟨_,_,rfl,rfl,h16⟩
   rintro I1 hf le1 _ _ ⟨rfl,rfl⟩ _ _ rfl;refine yS [2,12] rfl ?_;have H:=iS I1;exact zCz 0 (cProg y5 p5 c5 p6 c6) (hB b (cProg y5 p5 c5 p6 c6)::hB b2 (cProg y5 p5 c5 p6 c6)::hf) rfl rfl rfl rfl<|zE8 (hx:=[hB b (cProg y5 p5 c5 p6 c6)]) rfl H rfl (zF0 (v:=undef)) rfl
 rintro I05 le5 _ _ ⟨p8,c8,rfl,rfl,h16⟩ _ _ rfl;refine yS [2,15] rfl ?_;have ⟨h9,h10⟩:=m2 le5 h9 h10;refine yJ [] [3] rfl<|zI<|yZ ?_;obtain rfl:=zB N;exact xC ⟨_,_,(.cell 0 rfl rfl (by kernel_rfl) (.tmp rfl ResV.nil)),zP,⟨_,_,rfl,rfl,⟨_,rfl,(nY ⟨_,_,rfl,h9,h10⟩)⟩,rfl⟩⟩
def wE (n0:Int) (low:Int) (high:Int):Option (Bool):=do
 let t6←(do
   if (decide (low ≤ n0)) then
    pure (decide (n0 ≤ high))
   else
    pure false
     : Option Bool)
 pure (id t6)
theorem wO:∀ n0 low high r,wE n0 low high=some r→∀ {I:Imm} ,RT 51 [vI n0,vI low,vI high] I [] (zT  r):=by
 intro n0 low high r N I;unfold wE at N;refine yL Tryz.func51 fun B=>?_;have H:=iS I;refine wV []<|zI<|zZ ?_;refine wP N [] (fun t6=>[(6,.bool t6)]) (fun o0 ho0=>?_) ?_
 · have H:=iS I;refine zL<|yH 4 [] [10] rfl<|xZ [10] ho0 ?_ ?_
   · intro hc N;exact yJ [] [6] rfl<|yO<|zV (ct N H)
   intro hc N;exact vG [] [(6,vF)]<|yO<|zV (ct N H)
 intro t6 I0 le hMc;refine zI<|yZ ?_;obtain rfl:=zB hMc;exact wL
def kN (s:Str) (substr:Str):Option Bool:=match substr.l with | [c]=>some (decide (0 ≤ Lib.indexByte s.l c)) | _=>none
theorem zCC:∀ (s substr:Str) r,kN s substr=some r→∀ {I:Imm},RT 193 [vT s.l,vT substr.l] I [] (zT r):=by
 intro s substr r N I;unfold kN at N;split at N
 · rename_i c hc;cases N
   rw [hc];exact zJe (fun w g=>(Tryz.strings_Contains_one ⟨⟨s.l⟩⟩ c w).mono fun e w' ⟨h1,h2⟩=>⟨h1,h2 ▸ RowKit.Below.refl _ _,Nat.le_of_eq (by rw [h2])⟩) fun k=>⟨_,rfl,rfl,rfl⟩
 cases N
def mZ (s:Str):Option (Bool):=do
 let t2←(do
   if ((s.l.length:Int) == 1) then
    let y←kN (⟨[65,66,67,68]⟩:Str) s
    pure (id y)
   else
    pure false
     : Option Bool)
 pure (id t2)
theorem oN:∀ s r,mZ s=some r→∀ {I:Imm} ,RT 149 [vT s.l] I [] (zT  r):=by
 intro s r N I;unfold mZ at N;refine yL Tryz.func149 fun B=>?_;have H:=iS I;refine wV []<|zI<|zZ ?_;refine wP N [] (fun t2=>[(2,.bool t2)]) (fun o0 ho0=>?_) ?_
 · have H:=iS I;refine zL<|yH 4 [] [6] rfl<|xZ [6] ho0 ?_ ?_
   · intro hc N;refine yH 5 [] [7] rfl<|bE N fun y hy N=>uH (zCC (⟨[65,66,67,68]⟩:Str) s _ hy ) ?_;intro I01 le;have H:=H.trans le;exact yJ [] [2] rfl<|yO<|zV (ct N H)
   intro hc N;exact vG [] [(2,vF)]<|yO<|zV (ct N H)
 intro t2 I0 le1 hMc;refine zI<|yZ ?_;obtain rfl:=zB hMc;exact wL
def kJ (hsF:List HA) (r:Int):KT:=fun kk I' hs' v=>
  ∃ v0,hsF=hs'∧v=tupV [v0]∧v0=.int .i64 r
def xJ (s:(List Int)) (f0:(Int→Option Bool)) (t8:Int):Option (Out Unit (Int)):=do
 if (decide (t8 < (s.length:Int))) then
  let x←idx s t8
  let y←f0 x
  if y then
   pure (.ret t8)
  else
   xJ s f0 (W (t8 + 1))
 else
  pure (.done ())
 partial_fixpoint
theorem fQ (s:(List Int)) (f0:(Int→Option Bool)):∀ (t8:Int) (o:Out Unit (Int)),xJ s f0 t8=some o→∀ {B}{I0 I:Imm}{Q p c}{fv:Value}{hsF:List HA},I0.le I→(S4 I p s c)→(FV1 Tryz.prog I hsF fv f0)→NG Q→NO Q→(∀ (I':Imm) ,o=(.done ())→I0.le I'→T 19 B Q (.exit 0) I' hsF [])→(∀ r I' hs' m',o=(.ret r)→I0.le I'→RS Tryz.prog Tryz.f88 B (kJ hsF r) I' hs' m'→T 19 B Q .ret I' hs' m')→J Tryz.prog 19 B (nav (bodyOf Tryz.f88) [1,0,1,0]) Q I hsF [(0,vS p s c),(1,fv),(7,vI (s.length:Int)),(8,vI t8)]:=by
 refine xJ.partial_correctness s f0 _ fun self ih t8 o N B I0 I Q p c fv hsF H h h1 hg ho hx hr=>yR hg ho<|yD [9] rfl<|zX<|yB N ?_ ?_
 · intro hc N;refine zS<|zX<|yG<|yD [5] rfl<|xG<|yH 3 [] [11,12,13] rfl<|bE N fun x hy N=>xS rfl rfl h hy ?_;intro ad ccs hat hrep;obtain rfl:=hrep;refine xL 0 hat [vI x] (vI x) rfl<|bE N fun y hy1 N=>zJI rfl rfl h1 hy1 rfl (List.append_nil _).symm ?_;rintro I0 v0 le rfl;refine uG (hs':=hsF) (List.append_nil _) ?_;have ⟨h,h1,H⟩:=m3 le h h1 H;refine yE rfl<|zI<|yB N ?_ ?_
   · intro hc1 N;exact yD [4] rfl<|xB<|zU<|zF<|zF<|hr _ _ _ _ (zB N).symm H ⟨_,_,(.tmp rfl ResV.nil),(fun _ h=>h),⟨_,rfl,rfl,rfl⟩⟩
   intro hc1 N;exact zS<|zO<|zI<|zL<|yJ [] [8] rfl<|yQ<|nO<|ih (W (t8 + 1)) _ N H h h1 hg ho hx hr
 intro hc N;exact wY<|yO<|hx _  (zB N).symm H
def uS (s:(List Int)) (f0:(Int→Option Bool)):Option (Int):=do
 match←xJ s f0 0 with
 | .ret r0=>pure r0
 | .done _ =>
  pure (-1)
theorem kY:∀ s f0 r,uS s f0=some r→∀ {I:Imm}{p c}{fv:Value}{hsF:List HA},(S4 I p s c)→(FV1 Tryz.prog I hsF fv f0)→RT 88 [vS p s c,fv] I hsF (kJ hsF r):=by
 intro s f0 r N I p c fv hsF h h1;unfold uS at N;refine yL Tryz.func88 fun B=>wV []<|zX<|yD [7,8] rfl<|wB<|qW [(0,vS p s c),(1,fv),(7,vI (s.length:Int)),(8,vI 0)] ?_;obtain ⟨o0,ho0,hMl⟩:=zC N;refine fQ s f0 0 o0 ho0 iR h h1 (fun _ _ _ h=>h) (fun _ _ h=>h) ?_ ?_
 · intro I01  heq le1;subst o0;refine zR<|wW [4] rfl<|zI<|yZ ?_;obtain rfl:=zB hMl;exact xC ⟨_,_,(.tmp rfl ResV.nil),(fun _ h=>h),⟨_,rfl,rfl,rfl⟩⟩
 intro r0 I9 hs9 m9 heq9 le9 hrs9;subst heq9;refine zU<|zF ?_;obtain rfl:=zB hMl;exact xC hrs9
def fB (hsF:List HA) (r:Bool):KT:=fun kk I' hs' v=>
  ∃ v0,hsF=hs'∧v=tupV [v0]∧v0=.bool r
def xK (s:(List Int)) (f0:(Int→Option Bool)):Option (Bool):=do
 let y←uS s f0
 pure (decide (y ≥ 0))
theorem sM:∀ s f0 r,xK s f0=some r→∀ {I:Imm}{p c}{fv:Value}{hsF:List HA},(S4 I p s c)→(FV1 Tryz.prog I hsF fv f0)→RT 150 [vS p s c,fv] I hsF (fB hsF r):=by
 intro s f0 r N I p c fv hsF h h1;unfold xK at N;refine yL Tryz.func150 fun B=>wV []<|xG<|yH 2 [] [5,6] rfl<|bE N fun y hy N=>zDq (hs1:=hsF) (rest:=[]) rfl rfl rfl rfl (by kernel_rfl) rfl (List.append_nil _).symm (kY s f0 _ hy h h1) ?_;rintro I0 hs2 v2 k2 le - ⟨v0,rfl,rfl,rfl⟩ -;refine uG (hs':=hsF) (List.append_nil _) ?_;refine yJ [] [4] rfl<|zI<|yZ ?_;obtain rfl:=zB N;exact xC ⟨_,_,(.tmp rfl ResV.nil),(fun _ h=>h),⟨_,rfl,rfl,rfl⟩⟩
def uZ (n0:Int):Option (Bool):=do
 let y←wE n0 1 6
 pure (!y)
theorem dL:∀ n0 r,uZ n0=some r→∀ {I:Imm} ,RT 151 [vI n0] I [] (zT  r):=by
 intro n0 r N I;unfold uZ at N;refine yL Tryz.func151 fun B=>wV []<|xG<|yH 1 [] [3] rfl<|bE N fun y hy N=>uH (wO n0 1 6 _ hy ) fun I0 le=>yJ [] [2] rfl<|zI<|yZ ?_;obtain rfl:=zB N;exact wL
end Go.LN
