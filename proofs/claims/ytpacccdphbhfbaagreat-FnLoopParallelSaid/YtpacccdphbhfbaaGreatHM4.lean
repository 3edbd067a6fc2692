/- Helper of the proof (see the last text). -/
import Derived.Test.YtpacccdphbhfbaaGreatHM3
set_option linter.unusedVariables false
set_option linter.unusedSimpArgs false
namespace Go.LN
open Go.Proofs
set_option maxRecDepth 20000
def oG (a0:zA) (out:Str) (i:Int):Option (Str):=do
 if (decide (i < (a0.Coefs.length:Int))) then
  let x←idx a0.Coefs i
  let out2←(do
    if (x != 0) then
     let x1←idx a0.Coefs i
     let s←sslc (⟨[105,106,107,108]⟩:Str) i (W (i + 1))
     let y←gE x1 s
     let s1←cat out y
     pure (id s1)
    else
     pure (id out)
      : Option Str)
  oG a0 out2 (W (i + 1))
 else
  pure (id out)
 partial_fixpoint
theorem zEX (a0:zA):∀ (out:Str) (i:Int) (o:Str),oG a0 out i=some o→∀ {B}{I0 I:Imm}{Q p c}{b:Nat},I0.le I→(S4 I p a0.Coefs c)→NG Q→NO Q→(∀ (I':Imm) (out1:Str),o=out1→I0.le I'→T 46 B Q (.exit 0) I' [hB b (cAff a0 p c)] [(1,vP b 0),(3,vT out1.l)])→J Tryz.prog 46 B (nav (bodyOf Tryz.f238) [1,1,0,1,0]) Q I [hB b (cAff a0 p c)] [(1,vP b 0),(3,vT out.l),(4,vI i)]:=by
 refine oG.partial_correctness a0 _ fun self ih out i o N B I0 I Q p c b H h hg ho hx=>yQ hg ho<|zZ<|yD<|yI [0] [9] rfl<|zI<|yC N ?_ ?_
 · intro hc N;refine zS<|zY<|yG<|yD<|yE 3 [0] [13,14] rfl<|bE N fun x hy N=>xK rfl rfl h hy ?_;intro ad ccs hat hrep;obtain rfl:=hrep;refine xF 0 hat [vI x] (vI x) rfl<|yI [] [17] rfl<|zI ?_;refine wT N [hB b (cAff a0 p c)] (fun out2=>[(1,vP b 0),(3,vT out2.l),(4,vI i)]) (fun o0 ho0=>?_) ?_
   · have H:=iS I;refine yC ho0 ?_ ?_
     · intro hc1 N;obtain ⟨x1,hy1,N⟩:=zB N;obtain ⟨s,hy2,N⟩:=zB N;obtain ⟨y,hy3,N⟩:=zB N;obtain ⟨s1,hy4,N⟩:=zB N;refine wK [.p (vT out.l) [],.p (vP b 0) [],.p (vS p a0.Coefs c) [0],.p (vI i) [],.x (fun I' v hx=>∃ ad1,v=.pointer (some ad1)∧hx=[]∧(At I' ad1 [vI x1])),.q (vI x1),.p (vI i) [],.p (vI i) [],.p (vI (W (i + 1))) [],.q (vT s.l),.q (vT y.l),.q (vT s1.l)] [[],[],[(1,false)],[],[(2,false),(3,false)],[(4,false)],[],[],[(7,false)],[(6,false),(8,false)],[(5,false),(9,false)],[(0,false),(10,false)]] [hB b (cAff a0 p c)] [] [(11,false)] (zX [0]) ?_ ?_
       · refine Op<|Op<|Op<|Op<|Ox ?_<|Oq ?_<|Op<|Op<|Op<|Oq ?_<|Oq ?_<|Oq ?_<|On
         · intro I1 hf le1;refine yR [20,21] rfl ?_;have h:=h.mono le1;refine xK rfl rfl h hy1 ?_;intro ad1 ccs1 hat1 hrep1;obtain rfl:=hrep1;exact yK [] iR ⟨_,rfl,rfl,hat1⟩
         · rintro I1 hf le1 _ _ ⟨ad1,rfl,rfl,hat1⟩;exact yR [22] rfl<|xF 0 hat1 [vI x1] (vI x1) rfl<|xE iR
         · intro I1 hf le1;exact yR [24,26] rfl<|zH8 rfl hy2<|xE iR
         · intro I1 hf le1;refine yR [23,27] rfl ?_;have H:=iS I1;refine xP (zCX x1 s _ hy3 ) ?_;rintro I01 hs2 v2 k2 le - ⟨v0,rfl,rfl,rfl⟩ -;have H:=H.trans le;exact xE H
         intro I1 hf le1;exact yR [18,28] rfl<|jH rfl hy4<|xE iR
       intro I02 le1;refine yR [1,4,29] rfl ?_;have H:=H.trans le1;exact yI [] [3] rfl<|yN<|zT (ct N H)
     intro hc1 N;exact zS<|yN<|zT (ct N H)
   intro out2 I0 le2 hMc;have ⟨h,H⟩:=m2 le2 h H;exact zO<|zI<|zK<|yI [] [4] rfl<|yO<|nF<|ih out2 (W (i + 1)) _ hMc H h hg ho hx
 intro hc N;exact wJ<|yN<|hx _ _ (zC N).symm H
def kL (a0:zA):Option (Str):=do
 let out1←oG a0 (⟨[]⟩:Str) 0
 let out3←(do
   if (a0.Const != 0) then
    let y1←gE a0.Const (⟨[]⟩:Str)
    let s2←cat out1 y1
    pure (id s2)
   else
    pure (id out1)
     : Option Str)
 if (out3.l == ([]:List UInt8)) then
  pure (⟨[48]⟩:Str)
 else
  let s3←sslc out3 0 1
  if (s3.l == ([43]:List UInt8)) then
   let s4←sslc out3 1 (out3.l.length:Int)
   pure (id s4)
  else
   pure (id out3)
theorem zAU:∀ a0 r,kL a0=some r→∀ {I:Imm}{p c},(S4 I p a0.Coefs c)→RT 238 [vA (cAff a0 p c)] I [] (tY  r):=by
 intro a0 r N I p c h;unfold kL at N;refine yL Tryz.func238 fun B=>?_;have H:=iS I;refine yD<|tS (cAff a0 p c) ?_;intro b hb;refine wI [] []<|wH [3] rfl<|zY<|yF [4] rfl<|xW<|qW [(1,vP b 0),(3,vT ([])),(4,vI 0)] ?_;obtain ⟨o01,ho01,hMl⟩:=zB N;refine zEX a0 (⟨[]⟩:Str) 0 o01 ho01 iR h (fun _ _ _ h=>h) (fun _ _ h=>h) ?_;intro I03 out1 heq1 le3;subst o01;have H:=H.trans le3;refine zR<|zY<|yD<|yI [0] [32] rfl<|zI ?_;refine wT hMl [] (fun out3=>[(3,vT out3.l)]) (fun o02 ho02=>?_) ?_
 · have H:=iS I03;refine yC ho02 ?_ ?_
   · intro hc2 N;refine zK<|yE 3 [0] [33,35] rfl<|bE N fun y1 hy5 N=>xP (zCX a0.Const (⟨[]⟩:Str) _ hy5 ) ?_;rintro I05 hs2 v2 k2 le4 - ⟨v01,rfl,rfl,rfl⟩ -;have H:=H.trans le4;obtain ⟨s2,hy6,N⟩:=zB N;exact jH rfl hy6<|yI [] [3] rfl<|xY zQ<|yN<|zT (ct N H)
   intro hc2 N;exact zS<|xY zQ<|yN<|zT (ct N H)
 intro out3 I04 le5 hMc1;refine zY<|yF [39] rfl<|zI<|yC hMc1 ?_ ?_
 · intro hc3 N;refine yF [2] rfl<|xG<|zG ?_;obtain rfl:=zC N;exact wM
 intro hc3 N;refine zS<|zY<|yD<|yE 1 [] [40] rfl<|bE N fun s3 hy7 N=>zH8 rfl hy7<|yI [] [42] rfl<|zI<|yC N ?_ ?_
 · intro hc4 N;refine yD<|yE 1 [] [43] rfl<|bE N fun s4 hy8 N=>zH8 rfl hy8<|yI [] [2] rfl<|xG<|zG ?_;obtain rfl:=zC N;exact wM
 intro hc4 N;refine zS<|wH [2] rfl<|zI<|yW ?_;obtain rfl:=zC N;exact wM
def nO (a0:zA):Option (Str):=do
 let y←uJ a0
 if (!y) then
  pure (⟨[]⟩:Str)
 else
  let y1←kL a0
  pure (id y1)
theorem zCY:∀ a0 r,nO a0=some r→∀ {I:Imm}{p c},(S4 I p a0.Coefs c)→RT 253 [vA (cAff a0 p c)] I [] (tY  r):=by
 intro a0 r N I p c h;unfold nO at N;refine yL Tryz.func253 fun B=>yD<|tS (cAff a0 p c) ?_;intro b hb;refine wI [] []<|zY<|yD<|qL 1 [0] [(3,vA (cAff a0 p c))]<|bE N fun y hy N=>uH (kS a0 _ hy h) ?_;intro I0 le;have h:=h.mono le;refine yI [] [5] rfl<|zI<|yC N ?_ ?_
 · intro hc N;refine yF [2] rfl<|xG<|zG ?_;obtain rfl:=zC N;exact wM
 intro hc N;refine zS<|yX<|qL 1 [0] [(6,vA (cAff a0 p c))]<|bE N fun y1 hy1 N=>xP (zAU a0 _ hy1 h) ?_;rintro I01 hs2 v2 k2 le1 - ⟨v01,rfl,rfl,rfl⟩ -;refine yI [] [2] rfl<|zI<|yW ?_;obtain rfl:=zC N;exact wM
def zBx (r:zA×Bool):KT:=fun kk I' hs' v=>
  ∃ v0 v1,hs'=[]∧v=tupV [v0,v1]∧(∃ cs,v0=.agg ⟨cs⟩∧Rp.rep I' cs r.1)∧v1=.bool r.2
def rY (text:Str) (at0:Int) (x:zA):Option (zA):=do
 let t18←(do
   if (decide (at0 ≥ 0)) then
    pure (decide (at0 < (text.l.length:Int)))
   else
    pure false
     : Option Bool)
 if t18 then
  let (y2,y3)←gN x text at0
  rY text y3 y2
 else
  pure (id x)
 partial_fixpoint
theorem zB8 (text:Str):∀ (at0:Int) (x:zA) (o:zA),rY text at0 x=some o→∀ {B}{I0 I:Imm}{Q}  {b:Nat}{b1:Nat}{p1 c1},I0.le I→(S4 I p1 x.Coefs c1)→NG Q→NO Q→(∀ (I':Imm) (x1:zA) (p2:Option Addr) (c2:Nat),o=x1→I0.le I'→(S4 I' p2 x1.Coefs c2)→T 32 B Q (.exit 0) I' [hB b1 (cAff x1 p2 c2),hB b [z0,vI 0]] [(0,vT text.l),(2,vP b 0),(4,vP b1 0)])→J Tryz.prog 32 B (nav (bodyOf Tryz.f242) [1,1,1,1,0,0]) Q I [hB b1 (cAff x p1 c1),hB b [z0,vI 0]] [(0,vT text.l),(2,vP b 0),(4,vP b1 0),(5,vI at0)]:=by
 refine rY.partial_correctness text _ fun self ih at0 x o N B I0 I Q b b1 p1 c1 H h2 hg ho hx=>yQ hg ho<|zZ<|zZ ?_;refine wT N [hB b1 (cAff x p1 c1),hB b [z0,vI 0]] (fun t18=>[(0,vT text.l),(2,vP b 0),(4,vP b1 0),(5,vI at0),(18,.bool t18)]) (fun o0 ho0=>?_) ?_
 · have H:=iS I;refine zK<|yE 3 [] [13] rfl<|xZ [13] ho0 ?_ ?_
   · intro hc1 N;exact yI [] [18] rfl<|yN<|zT (ct N H)
   intro hc1 N;exact wI [] [(18,vF)]<|yN<|zT (ct N H)
 intro t18 I02 le2 hMc;have ⟨h2,H⟩:=m2 le2 h2 H;refine zI<|yC hMc ?_ ?_
 · intro hc2 N;refine zS<|xW<|zK<|qL 3 [0] [(20,vA (cAff x p1 c1)),(21,vT text.l),(22,vI at0)] ?_;obtain ⟨⟨y2,y3⟩,hy1,N⟩:=zB N;refine xP (zGA x text at0 _ hy1 h2) ?_;rintro I03 hs2 v2 k2 le3 - ⟨v0,v01,rfl,rfl,⟨cs1,rfl,h4⟩,rfl⟩ -;have H:=H.trans le3;obtain ⟨p3,c3,rfl,h6⟩:=yS h4;exact yE 7 [] [24,25] rfl<|xJ 0 (cAff y2 p3 c3) rfl<|yI [] [5] rfl<|zO<|yO<|nF<|ih y3 y2 _ N H h6 hg ho hx
 intro hc2 N;exact wJ<|yN<|hx _ _ _ _ (zC N).symm H h2
def oH (text:Str):Option (zA×Bool):=do
 let y←oU
 if (decide ((text.l.length:Int) > 40)) then
  pure ((zA.mk ([]:List Int) 0),false)
 else
  let x1←rY text 0 (zA.mk y.Coefs y.Const)
  let y4←nO x1
  if (!(y4.l == text.l)) then
   pure ((zA.mk ([]:List Int) 0),false)
  else
   pure (x1,true)
theorem zAD:∀ text r,oH text=some r→∀ {I:Imm} ,RT 242 [vT text.l] I [] (zBx  r):=by
 intro text r N I;unfold oH at N;refine yL Tryz.func242 fun B=>yD<|wY [z0,vI 0] ?_;intro b hb;refine wI [] []<|yX<|bE N fun y hy N=>xP (kV  _ hy ) ?_;rintro I0 hs2 v2 k2 le - ⟨p,c,cs,rfl,rfl,h⟩ -;refine wY [z0,vI 0] ?_;intro b1 hb1;refine xJ 0 (cAff y p c) rfl<|yB rfl<|zY<|yF [9] rfl<|zI<|yC N ?_ ?_
 · intro hc N;refine yD<|yE 1 [] [10] rfl<|xJ 2 [z0,vI 0] rfl<|wI [] [(3,vF)]<|xG<|zG ?_;obtain rfl:=zC N;exact xA ⟨_,_,(.cell 2 rfl rfl (by kernel_rfl) (.tmp rfl ResV.nil)),zQ,⟨_,_,rfl,rfl,⟨_,rfl,(yP ⟨_,rfl,(SL.nil _)⟩)⟩,rfl⟩⟩
 intro hc N;refine zS<|wH [5] rfl<|zY<|yG<|pU 1 rfl ?_;intro I01 le1 hl0;have h1:=SL.of_frozen hl0 le1 h;refine qW [(0,vT text.l),(2,vP b 0),(4,vP b1 0),(5,vI 0)] ?_;obtain ⟨o01,ho01,hMl⟩:=zB N;refine zB8 text 0 (zA.mk y.Coefs y.Const) o01 ho01 iR h1 (fun _ _ _ h=>h) (fun _ _ h=>h) ?_;intro I04 x1 p2 c2 heq1 le4 h3;subst o01;refine zR<|zY<|yD<|qL 1 [0] [(26,vA (cAff x1 p2 c2))] ?_;obtain ⟨y4,hy2,N⟩:=zB hMl;refine xP (zCY x1 _ hy2 h3) ?_;rintro I05 hs2 v2 k2 le5 - ⟨v03,rfl,rfl,rfl⟩ -;have h3:=h3.mono le5;refine yI [] [29] rfl<|zI<|yC N ?_ ?_
 · intro hc3 N;refine yD<|yE 1 [] [30] rfl<|xJ 1 [z0,vI 0] rfl<|wI [] [(3,vF)]<|xG<|zG ?_;obtain rfl:=zC N;exact xA ⟨_,_,(.cell 1 rfl rfl (by kernel_rfl) (.tmp rfl ResV.nil)),zQ,⟨_,_,rfl,rfl,⟨_,rfl,(yP ⟨_,rfl,(SL.nil _)⟩)⟩,rfl⟩⟩
 intro hc3 N;refine zS<|yX<|qL 1 [0] [(31,vA (cAff x1 p2 c2))]<|xJ 1 (cAff x1 p2 c2) rfl<|wI [] [(3,vY)]<|zI<|yW ?_;obtain rfl:=zC N;exact xA ⟨_,_,(.cell 1 rfl rfl (by kernel_rfl) (.tmp rfl ResV.nil)),zQ,⟨_,_,rfl,rfl,⟨_,rfl,(yP ⟨_,rfl,h3⟩)⟩,rfl⟩⟩
def zBy (r:(List zA)):KT:=fun kk I' hs' v=>
  ∃ v0,hs'=[]∧v=tupV [v0]∧SL I' v0 r
def sD (y:(List Str)) (out:List zA) (i:Int):Option (List zA):=do
 let t18←(do
   if (decide (i < (y.length:Int))) then
    pure (decide (i ≤ 2))
   else
    pure false
     : Option Bool)
 if t18 then
  let x←idx y i
  let (y2,y3)←oH x
  let out2←app 32 out ([y2]:List zA)
  sD y out2 (W (i + 1))
 else
  pure (id out)
 partial_fixpoint
theorem zB9 (y:(List Str)):∀ (out:List zA) (i:Int) (o:List zA),sD y out i=some o→∀ {B}{I0 I:Imm}{Q p c p1 c1 cs},I0.le I→(S4 I p y c)→(RL I cs out)→NG Q→NO Q→(∀ (I':Imm) (out1:List zA) (p2:Option Addr) (c2:Nat) (cs1:List Value),o=out1→I0.le I'→(RL I' cs1 out1)→T 34 B Q (.exit 0) I' [hO zA (vS p2 out1 c2) cs1] [(3,vS p2 out1 c2)])→J Tryz.prog 34 B (nav (bodyOf Tryz.f236) [1,1,1,0,1,0]) Q I [hO zA (vS p1 out c1) cs] [(3,vS p1 out c1),(4,vS p y c),(5,vI i)]:=by
 refine sD.partial_correctness y _ fun self ih out i o N B I0 I Q p c p1 c1 cs H h1 h2 hg ho hx=>yQ hg ho<|zZ<|zZ ?_;refine wT N [hO zA (vS p1 out c1) cs] (fun t18=>[(3,vS p1 out c1),(4,vS p y c),(5,vI i),(18,.bool t18)]) (fun o0 ho0=>?_) ?_
 · have H:=iS I;refine zK<|yE 5 [] [15] rfl<|xZ [15] ho0 ?_ ?_
   · intro hc N;exact yI [] [18] rfl<|yN<|zT (ct N H)
   intro hc N;exact wI [] [(18,vF)]<|yN<|zT (ct N H)
 intro t18 I01 le1 hMc;have ⟨h2,h1,H⟩:=m3 le1 h2 h1 H;refine zI<|yC hMc ?_ ?_
 · intro hc1 N;refine zS<|zY<|yG<|yD<|yE 2 [] [22,23] rfl<|bE N fun x hy1 N=>xK rfl rfl h1 hy1 ?_;intro ad ccs hat hrep;obtain rfl:=hrep;refine xF 0 hat [vT x.l] (vT x.l) rfl ?_;obtain ⟨⟨y2,y3⟩,hy2,N⟩:=zB N;refine xP (zAD x _ hy2 ) ?_;rintro I02 hs2 v2 k2 le2 - ⟨v01,v02,rfl,rfl,⟨cs2,rfl,h4⟩,rfl⟩ -;have ⟨h2,h1,H⟩:=m3 le2 h2 h1 H;obtain ⟨p3,c3,rfl,h6⟩:=yS h4;refine yE 8 [] [27,28] rfl<|wY [z0,vI 0] ?_;intro b1 hb1;refine xJ 0 (cAff y2 p3 c3) rfl<|wI [] []<|zI<|zK<|qL 2 [0] [(29,vS p1 out c1),(30,vA (cAff y2 p3 c3))]<|uN (cAff y2 p3 c3) zA ?_;intro b2 hb2;have h7:RL I02 (cAff y2 p3 c3) ([y2]:List zA):=⟨(cAff y2 p3 c3),_,rfl,rfl,(yP ⟨_,rfl,h6⟩),rfl⟩;obtain ⟨out2,hy3,N⟩:=zB N;exact rX 43 2 2 rfl rfl rfl h2 (.inr ⟨0,rfl⟩) h7 hy3 fun p4 c4 cs3 h8=>sK (zX [1,2] (hs':=[hB b1 (cAff y2 p3 c3),hO zA (vS p4 out2 c4) cs3]))<|yI [] [3] rfl<|zO<|zI<|zK<|yI [] [5] rfl<|yO<|jG (zW [1] rfl (by decide))<|nF<|ih out2 (W (i + 1)) _ N H h1 h8 hg ho hx
 intro hc1 N;exact wJ<|yN<|hx _ _ _ _ _ (zC N).symm H h2
def qO (text:Str):Option ((List zA)):=do
 let y←kK text (44:UInt8)
 let out1←sD y ([]:List zA) 0
 pure (id out1)
theorem fB:∀ text r,qO text=some r→∀ {I:Imm} ,RT 236 [vT text.l] I [] (zBy  r):=by
 intro text r N I;unfold qO at N;refine yL Tryz.func236 fun B=>vJ []<|yX<|uN [] zA ?_;intro b hb;have h:RL I [] ([]:List zA):=rfl;refine yI [] [3] rfl<|yX<|yE 1 [] [9] rfl<|bE N fun y hy N=>xP (zAT text (44:UInt8) _ hy ) ?_;rintro I0 hs2 v2 k2 le - ⟨v0,rfl,rfl,h1⟩ -;have h:=iM le h;obtain ⟨p,c,rfl⟩:=h1.form;refine yI [] [4] rfl<|zY<|yF [5] rfl<|xW<|qW [(3,vS (some ⟨b,0,none⟩) ([]:List zA) 0),(4,vS p y c),(5,vI 0)] ?_;obtain ⟨o01,ho01,hMl⟩:=zB N;refine zB9 y ([]:List zA) 0 o01 ho01 iR h1 h (fun _ _ _ h=>h) (fun _ _ h=>h) ?_;intro I03 out1 p2 c2 cs1 heq1 le3 h3;subst o01;refine zR<|wH [2] rfl<|xG<|yV 0 rfl ?_;intro I04 le4 hl0;have h9:=SL.of_frozen hl0 le4 h3;obtain rfl:=zC hMl;exact xA ⟨_,_,(.tmp rfl ResV.nil),zQ,⟨_,rfl,rfl,h9⟩⟩
def pF (s:Str) (end0:UInt8) (i:Int):Option (Out Unit (Int)):=do
 if (decide (i < (s.l.length:Int))) then
  let b←sidx s i
  if ((b.toNat:Int) == (end0.toNat:Int)) then
   pure (.ret i)
  else
   pF s end0 (W (i + 1))
 else
  pure (.done ())
 partial_fixpoint
theorem zD6 (s:Str) (end0:UInt8):∀ (i:Int) (o:Out Unit (Int)),pF s end0 i=some o→∀ {B}{I0 I:Imm}{Q}  ,I0.le I→NG Q→NO Q→(∀ (I':Imm) ,o=(.done ())→I0.le I'→T 21 B Q (.exit 0) I' [] [])→(∀ r I' hs' m',o=(.ret r)→I0.le I'→RS Tryz.prog Tryz.f241 B (yM  r) I' hs' m'→T 21 B Q .ret I' hs' m')→J Tryz.prog 21 B (nav (bodyOf Tryz.f241) [1,0,1,0]) Q I [] [(0,vT s.l),(2,.int .u8 (end0.toNat:Int)),(7,vI i)]:=by
 refine pF.partial_correctness s end0 _ fun self ih i o N B I0 I Q H hg ho hx hr=>yQ hg ho<|zZ<|yF [12] rfl<|zI<|yC N ?_ ?_
 · intro hc N;refine zS<|zY<|yG<|yD<|yE 2 [] [15,16] rfl<|bE N fun b hy N=>zA0 rfl rfl hy<|yI [] [19] rfl<|zI<|yC N ?_ ?_
   · intro hc1 N;exact yF [6] rfl<|xG<|zV<|zG<|zG<|hr _ _ _ _ (zC N).symm H ⟨_,_,(.tmp rfl ResV.nil),zQ,⟨_,rfl,rfl,rfl⟩⟩
   intro hc1 N;exact zS<|zO<|zI<|zK<|yI [] [7] rfl<|yO<|nF<|ih (W (i + 1)) _ N H  hg ho hx hr
 intro hc N;exact wJ<|yN<|hx _  (zC N).symm H
def kX (s:Str) (at0:Int) (end0:UInt8):Option (Int):=do
 match←pF s end0 at0 with
 | .ret r0=>pure r0
 | .done _ =>
  pure (-1)
theorem zBu:∀ s at0 end0 r,kX s at0 end0=some r→∀ {I:Imm} ,RT 241 [vT s.l,vI at0,.int .u8 (end0.toNat:Int)] I [] (yM  r):=by
 intro s at0 end0 r N I;unfold kX at N;refine yL Tryz.func241 fun B=>vJ []<|zY<|yF [7] rfl<|xW<|qW [(0,vT s.l),(2,.int .u8 (end0.toNat:Int)),(7,vI at0)] ?_;obtain ⟨o0,ho0,hMl⟩:=zB N;refine zD6 s end0 at0 o0 ho0 iR  (fun _ _ _ h=>h) (fun _ _ h=>h) ?_ ?_
 · intro I0  heq le;subst o0;refine zR<|wH [6] rfl<|zI<|yW ?_;obtain rfl:=zC hMl;exact wM
 intro r0 I9 hs9 m9 heq9 le9 hrs9;subst heq9;refine zV<|zG ?_;obtain rfl:=zC hMl;exact xA hrs9
def zBM (r:zJ×Int):KT:=fun kk I' hs' v=>
  ∃ v0 v1,hs'=[]∧v=tupV [v0,v1]∧(∃ cs,v0=.agg ⟨cs⟩∧Rp.rep I' cs r.1)∧v1=.int .i64 r.2
def qT (s:Str) (at0:Int):Option (zJ×Int):=do
 let y←kX s at0 (93:UInt8)
 let t20←(do
   if (decide (y < (W (at0 + 2)))) then
    pure true
   else
    let b1←sidx s (W (at0 + 1))
    pure ((b1.toNat:Int) != 91)
     : Option Bool)
 if t20 then
  pure ((zJ.mk (⟨[]⟩:Str) ([]:List zA)),(-1))
 else
  let s1←sslc s at0 (W (at0 + 1))
  let s2←sslc s (W (at0 + 2)) y
  let y1←qO s2
  pure ((zJ.mk s1 y1),(W (y + 1)))
theorem eT:∀ s at0 r,qT s at0=some r→∀ {I:Imm} ,RT 214 [vT s.l,vI at0] I [] (zBM  r):=by
 intro s at0 r N I;unfold qT at N;refine yL Tryz.func214 fun B=>?_;have H:=iS I;refine yD<|wY [vT ([]),z0] ?_;intro b hb;refine wI [] []<|yX<|yE 2 [] [7,8] rfl<|bE N fun y hy N=>gF (zBu s at0 (93:UInt8) _ hy ) ?_;intro I0 le;have H:=H.trans le;refine yI [] [6] rfl<|zY<|zZ ?_;refine wT N [hB b [vT ([]),z0]] (fun t20=>[(0,vT s.l),(1,vI at0),(4,vP b 0),(6,vI y),(20,.bool t20)]) (fun o0 ho0=>?_) ?_
 · have H:=iS I0;refine zK<|yE 5 [] [14] rfl<|xZ [14] ho0 ?_ ?_
   · intro hc N;exact wI [] [(20,vY)]<|yN<|zT (ct N H)
   intro hc N;exact yE 8 [] [15,17] rfl<|bE N fun b1 hy1 N=>zA0 rfl rfl hy1<|yI [] [20] rfl<|yN<|zT (ct N H)
 intro t20 I01 le1 hMc;have H:=H.trans le1;refine zI<|yC hMc ?_ ?_
 · intro hc1 N;refine yD<|yE 1 [] [21] rfl<|xJ 0 [vT ([]),z0] rfl<|yI [] [5] rfl<|xG<|zG ?_;obtain rfl:=zC N;exact xA ⟨_,_,(.cell 0 rfl rfl (by kernel_rfl) (.tmp rfl ResV.nil)),zQ,⟨_,_,rfl,rfl,⟨_,rfl,(mA ⟨_,rfl,(SL.nil _)⟩)⟩,rfl⟩⟩
 intro hc1 N;refine zS<|zI<|zZ ?_;obtain ⟨s1,hy2,N⟩:=zB N;obtain ⟨s2,hy3,N⟩:=zB N;obtain ⟨y1,hy4,N⟩:=zB N;refine wK [.p (vT s.l) [],.p (vI at0) [],.p (vI at0) [],.p (vI (W (at0 + 1))) [],.q (vT s1.l),.p (vT s.l) [],.p (vI at0) [],.p (vI (W (at0 + 2))) [],.p (vI y) [],.q (vT s2.l),.x (eS y1),.x (fun I' v hx=>∃ p1 c1,v=vA [vT s1.l,vS p1 y1 c1]∧hx=[]∧(S4 I' p1 y1 c1)),.p (vI y) [],.p (vI (W (y + 1))) [],.x (fun I' v hx=>∃ p11 c11,hx=[hB b [vT s1.l,vS p11 y1 c11]]∧(S4 I' p11 y1 c11))] [[],[],[],[(2,false)],[(0,false),(1,false),(3,false)],[],[],[(6,false)],[],[(5,false),(7,false),(8,false)],[(9,false)],[(4,false),(10,false)],[],[(12,false)],[(11,false),(16,true)]] [] [[hB b [vT ([]),z0]]] [(13,false),(14,true)] (zX [0]) ?_ ?_
 · refine Op<|Op<|Op<|Op<|Oq ?_<|Op<|Op<|Op<|Op<|Oq ?_<|Ox ?_<|Ox ?_<|Op<|Op<|Ox ?_<|On
   · intro I1 hf le1;exact yR [22,23,25] rfl<|zH8 rfl hy2<|xE iR
   · intro I1 hf le1;exact yR [27,29,30] rfl<|zH8 rfl hy3<|xE iR
   · intro I1 hf le1;refine yR [31] rfl ?_;have H:=iS I1;refine xP (fB s2 _ hy4 ) ?_;rintro I02 hs2 v2 k2 le2 - ⟨v01,rfl,rfl,h1⟩ -;have H:=H.trans le2;obtain ⟨p,c,rfl⟩:=h1.form;exact yK [] H ⟨_,_,rfl,rfl,h1⟩
   · rintro I1 hf le1 _ _ ⟨rfl,rfl⟩ _ _ ⟨p,c,rfl,rfl,h1⟩;exact yR [26,32] rfl<|oY 12 [(33,vA [vT s1.l,vS p y1 c])]<|yK [] iR ⟨_,_,rfl,rfl,h1⟩
   rintro I1 hf le1 _ _ ⟨p1,c1,rfl,rfl,h11⟩ _ _ rfl;refine yR [4,33] rfl ?_;have H:=iS I1;exact zB4 0 [vT s1.l,vS p1 y1 c1] (hB b [vT s1.l,vS p1 y1 c1]::hf) rfl rfl rfl rfl<|zFh (hx:=[hB b [vT s1.l,vS p1 y1 c1]]) rfl H rfl (zG9 (v:=undef)) ⟨_,_,rfl,h11⟩
 rintro I03 le3 _ _ ⟨rfl,rfl⟩ _ _ ⟨p11,c11,rfl,h111⟩;refine yR [4,35] rfl ?_;refine yI [] [5] rfl<|zI<|yW ?_;obtain rfl:=zC N;exact xA ⟨_,_,(.cell 0 rfl rfl (by kernel_rfl) (.tmp rfl ResV.nil)),zQ,⟨_,_,rfl,rfl,⟨_,rfl,(mA ⟨_,rfl,h111⟩)⟩,rfl⟩⟩
def eH (r:zH×Int):KT:=fun kk I' hs' v=>
  ∃ v0 v1,hs'=[]∧v=tupV [v0,v1]∧(∃ cs,v0=.agg ⟨cs⟩∧Rp.rep I' cs r.1)∧v1=.int .i64 r.2
mutual
def gO (s:Str) (at0:Int) (levels:Int):Option (zH×Int):=do
 let (y1,y2)←pG (same s) (same at0) (same levels)
 let t27←(do
   if (decide (y2 < 0)) then
    pure true
   else
    pure (decide (y2 ≥ (s.l.length:Int)))
     : Option Bool)
 if t27 then
  pure ((zH.mk 0 0 (zA.mk ([]:List Int) 0) (zJ.mk (⟨[]⟩:Str) ([]:List zA)) ([]:List zH)),(-1))
 else
  let b2←sidx s y2
  let kind←(do
    if ((b2.toNat:Int) == 45) then
     pure (id 5)
    else
     let kind1←(do
       if ((b2.toNat:Int) == 42) then
        pure (id 6)
       else
        pure (id 4)
         : Option Int)
     pure (id kind1)
      : Option Int)
  let (y4,y5)←pG (same s) (W (y2 + 1)) (same levels)
  let t51←(do
    if (decide (y5 < 0)) then
     pure true
    else
     pure (decide (y5 ≥ (s.l.length:Int)))
      : Option Bool)
  if t51 then
   pure ((zH.mk 0 0 (zA.mk ([]:List Int) 0) (zJ.mk (⟨[]⟩:Str) ([]:List zA)) ([]:List zH)),(-1))
  else
   pure ((zH.mk kind 0 (zA.mk ([]:List Int) 0) (zJ.mk (⟨[]⟩:Str) ([]:List zA)) ([y1,y4]:List zH)),(W (y5 + 1)))
 partial_fixpoint
def pG (s:Str) (at0:Int) (levels:Int):Option (zH×Int):=do
 let t26←(do
   if (decide (levels < 1)) then
    pure true
   else
    if (decide (at0 < 0)) then
     pure true
    else
     pure (decide (at0 ≥ (s.l.length:Int)))
     : Option Bool)
 if t26 then
  pure ((zH.mk 0 0 (zA.mk ([]:List Int) 0) (zJ.mk (⟨[]⟩:Str) ([]:List zA)) ([]:List zH)),(-1))
 else
  let b1←sidx s at0
  if ((b1.toNat:Int) == 123) then
   let y←kX s at0 (125:UInt8)
   if (decide (y < 0)) then
    pure ((zH.mk 0 0 (zA.mk ([]:List Int) 0) (zJ.mk (⟨[]⟩:Str) ([]:List zA)) ([]:List zH)),(-1))
   else
    let s1←sslc s (W (at0 + 1)) y
    let (y2,y3)←oH s1
    pure ((zH.mk 2 0 y2 (zJ.mk (⟨[]⟩:Str) ([]:List zA)) ([]:List zH)),(W (y + 1)))
  else
   let t52←(do
     let b3←sidx s at0
     if (decide ((b3.toNat:Int) ≥ 65)) then
      let b4←sidx s at0
      pure (decide ((b4.toNat:Int) ≤ 68))
     else
      pure false
       : Option Bool)
   if t52 then
    let (y5,y6)←qT s at0
    pure ((zH.mk 3 0 (zA.mk ([]:List Int) 0) y5 ([]:List zH)),y6)
   else
    let b6←sidx s at0
    if ((b6.toNat:Int) == 40) then
     let (y8,y9)←gO (same s) (W (at0 + 1)) (W (levels - 1))
     pure (y8,y9)
    else
     let (y11,y12)←mM s at0
     if (y12 == at0) then
      pure ((zH.mk 0 0 (zA.mk ([]:List Int) 0) (zJ.mk (⟨[]⟩:Str) ([]:List zA)) ([]:List zH)),(-1))
     else
      pure ((zH.mk 1 y11 (zA.mk ([]:List Int) 0) (zJ.mk (⟨[]⟩:Str) ([]:List zA)) ([]:List zH)),y12)
 partial_fixpoint
end
theorem zFT:(∀ (s:Str) (at0:Int) (levels:Int) r,gO s at0 levels=some r→∀ {I:Imm} ,RT 243 [vT s.l,vI at0,vI levels] I [] (eH  r))∧(∀ (s:Str) (at0:Int) (levels:Int) r,pG s at0 levels=some r→∀ {I:Imm} ,RT 215 [vT s.l,vI at0,vI levels] I [] (eH  r)):=by
  refine gO.mutual_partial_correctness _ _ ?_ ?_
  · intro F_spec_l3Parse ih_spec_l3Parse s at0 levels r N I;refine yL Tryz.func243 fun B=>?_;have H:=iS I;refine yD<|wY zExpr ?_;intro b hb;refine wI [] []<|yX<|yE 3 [] [14,15,16] rfl ?_;obtain ⟨⟨y1,y2⟩,hy,N⟩:=zB N;refine xP (ih_spec_l3Parse s at0 levels _ hy ) ?_;rintro I0 hs2 v2 k2 le - ⟨v0,v01,rfl,rfl,⟨cs,rfl,h⟩,rfl⟩ -;have H:=H.trans le;obtain ⟨p,c,p1,c1,p2,c2,rfl,h2,h3,h4⟩:=tN h;refine yE 7 [] [18,19] rfl<|wY zExpr ?_;intro b1 hb1;refine xJ 0 (cExpr y1 p c p1 c1 p2 c2) rfl<|yI [] [9] rfl<|zY<|zZ ?_;refine wT N [hB b1 (cExpr y1 p c p1 c1 p2 c2),hB b zExpr] (fun t27=>[(0,vT s.l),(2,vI levels),(6,vP b 0),(8,vP b1 0),(9,vI y2),(27,.bool t27)]) (fun o0 ho0=>?_) ?_
    · have H:=iS I0;refine zK<|yE 3 [] [22] rfl<|xZ [22] ho0 ?_ ?_
      · intro hc N;exact wI [] [(27,vY)]<|yN<|zT (ct N H)
      intro hc N;exact yI [] [27] rfl<|yN<|zT (ct N H)
    intro t27 I01 le1 hMc;have ⟨h2,h3,h4,H⟩:=m4 le1 h2 h3 h4 H;refine zI<|yC hMc ?_ ?_
    · intro hc1 N;refine yD<|yE 1 [] [28] rfl<|zB4 1 zExpr [hB b1 (cExpr y1 p c p1 c1 p2 c2),hB b zExpr] rfl rfl rfl rfl<|yI [] [7] rfl<|xG<|zG ?_;obtain rfl:=zC N;exact xA ⟨_,_,(.cell 1 rfl rfl (by kernel_rfl) (.tmp rfl ResV.nil)),zQ,⟨_,_,rfl,rfl,⟨_,rfl,(xV ⟨_,_,_,rfl,(SL.nil _),(SL.nil _),(SL.nil _)⟩)⟩,rfl⟩⟩
    intro hc1 N;refine zS<|wH [10] rfl<|zY<|yD<|yE 2 [] [29,30] rfl<|bE N fun b2 hy1 N=>zA0 rfl rfl hy1<|yB rfl<|xW<|yF [32] rfl<|zI ?_;refine wT N [hB b1 (cExpr y1 p c p1 c1 p2 c2),hB b zExpr] (fun kind=>[(0,vT s.l),(2,vI levels),(6,vP b 0),(8,vP b1 0),(9,vI y2),(10,vI kind)]) (fun o01 ho01=>?_) ?_
    · have H:=iS I01;refine yC ho01 ?_ ?_
      · intro hc2 N;exact zK<|yI [] [10] rfl<|yN<|zT (ct N H)
      intro hc2 N;refine yF [34] rfl<|zI ?_;refine wT N [hB b1 (cExpr y1 p c p1 c1 p2 c2),hB b zExpr] (fun kind1=>[(0,vT s.l),(2,vI levels),(6,vP b 0),(8,vP b1 0),(9,vI y2),(10,vI kind1)]) (fun o02 ho02=>?_) ?_
      · have H:=iS I01;refine yC ho02 ?_ ?_
        · intro hc3 N;exact zK<|yI [] [10] rfl<|yN<|zT (ct N H)
        intro hc3 N;exact zS<|yN<|zT (ct N H)
      intro kind1 I03 le2 hMc2;have H:=H.trans le2;exact yN<|zT (ct hMc2 H)
    intro kind I02 le3 hMc1;have ⟨h2,h3,h4,H⟩:=m4 le3 h2 h3 h4 H;refine zO<|yX<|yE 4 [] [37,39,40] rfl ?_;obtain ⟨⟨y4,y5⟩,hy2,N⟩:=zB hMc1;refine xP (ih_spec_l3Parse s (W (y2 + 1)) levels _ hy2 ) ?_;rintro I04 hs2 v2 k2 le4 - ⟨v05,v06,rfl,rfl,⟨cs1,rfl,h5⟩,rfl⟩ -;have ⟨h2,h3,h4,H⟩:=m4 le4 h2 h3 h4 H;obtain ⟨p3,c3,p4,c4,p5,c5,rfl,h7,h8,h9⟩:=tN h5;refine yE 8 [] [42,43] rfl<|wY zExpr ?_;intro b3 hb2;refine xJ 0 (cExpr y4 p3 c3 p4 c4 p5 c5) rfl<|yI [] [12] rfl<|zY<|zZ ?_;refine wT N [hB b3 (cExpr y4 p3 c3 p4 c4 p5 c5),hB b1 (cExpr y1 p c p1 c1 p2 c2),hB b zExpr] (fun t51=>[(6,vP b 0),(8,vP b1 0),(10,vI kind),(11,vP b3 0),(12,vI y5),(51,.bool t51)]) (fun o03 ho03=>?_) ?_
    · have H:=iS I04;refine zK<|yE 3 [] [46] rfl<|xZ [46] ho03 ?_ ?_
      · intro hc4 N;exact wI [] [(51,vY)]<|yN<|zT (ct N H)
      intro hc4 N;exact yI [] [51] rfl<|yN<|zT (ct N H)
    intro t51 I05 le5 hMc3;have ⟨h7,h8,h9,h2,h3,h4⟩:=m6 le5 h7 h8 h9 h2 h3 h4;refine zI<|yC hMc3 ?_ ?_
    · intro hc5 N;refine yD<|yE 1 [] [52] rfl<|zB4 2 zExpr [hB b3 (cExpr y4 p3 c3 p4 c4 p5 c5),hB b1 (cExpr y1 p c p1 c1 p2 c2),hB b zExpr] rfl rfl rfl rfl<|yI [] [7] rfl<|xG<|zG ?_;obtain rfl:=zC N;exact xA ⟨_,_,(.cell 2 rfl rfl (by kernel_rfl) (.tmp rfl ResV.nil)),zQ,⟨_,_,rfl,rfl,⟨_,rfl,(xV ⟨_,_,_,rfl,(SL.nil _),(SL.nil _),(SL.nil _)⟩)⟩,rfl⟩⟩
    intro hc5 N;refine zS<|yX<|qL 3 [1,0] [(53,vI kind),(54,vA (cExpr y1 p c p1 c1 p2 c2)),(55,vA (cExpr y4 p3 c3 p4 c4 p5 c5))]<|uN [vI y1.Kind,vI y1.Num,vS p y1.Index.Coefs c,vI y1.Index.Const,vT y1.Read.Array.l,vS p1 y1.Read.Subs c1,vS p2 y1.Kids c2,vI y4.Kind,vI y4.Num,vS p3 y4.Index.Coefs c3,vI y4.Index.Const,vT y4.Read.Array.l,vS p4 y4.Read.Subs c4,vS p5 y4.Kids c5] zH ?_;intro b4 hb3;have h10:RL I05 [vI y1.Kind,vI y1.Num,vS p y1.Index.Coefs c,vI y1.Index.Const,vT y1.Read.Array.l,vS p1 y1.Read.Subs c1,vS p2 y1.Kids c2,vI y4.Kind,vI y4.Num,vS p3 y4.Index.Coefs c3,vI y4.Index.Const,vT y4.Read.Array.l,vS p4 y4.Read.Subs c4,vS p5 y4.Kids c5] ([y1,y4]:List zH):=⟨(cExpr y1 p c p1 c1 p2 c2),_,rfl,rfl,(xV ⟨_,_,_,rfl,h2,h3,h4⟩),⟨(cExpr y4 p3 c3 p4 c4 p5 c5),_,rfl,rfl,(xV ⟨_,_,_,rfl,h7,h8,h9⟩),rfl⟩⟩;refine yE 7 [] [57,59] rfl<|xJ 3 [vI kind,vI 0,z0,vI 0,vT ([]),z0,vS (some ⟨b4,0,none⟩) ([y1,y4]:List zH) 2] rfl<|yI [] [7] rfl<|xG<|yV 0 rfl ?_;intro I06 le6 hl0;have h11:=SL.of_frozen hl0 le6 h10;obtain rfl:=zC N;exact xA ⟨_,_,(.cell 2 rfl rfl (by kernel_rfl) (.tmp rfl ResV.nil)),zQ,⟨_,_,rfl,rfl,⟨_,rfl,(xV ⟨_,_,_,rfl,(SL.nil _),(SL.nil _),h11⟩)⟩,rfl⟩⟩
  intro F_spec_l3Round ih_spec_l3Round s at0 levels r N I;refine yL Tryz.func215 fun B=>?_;have H:=iS I;refine yD<|wY zExpr ?_;intro b hb;refine wI [] []<|zY<|zZ ?_;refine wT N [hB b zExpr] (fun t26=>[(0,vT s.l),(1,vI at0),(2,vI levels),(6,vP b 0),(26,.bool t26)]) (fun o0 ho0=>?_) ?_
  · have H:=iS I;refine zK<|yE 3 [] [17] rfl<|xZ [17] ho0 ?_ ?_
    · intro hc N;exact wI [] [(26,vY)]<|yN<|zT (ct N H)
    intro hc N;refine yE 7 [] [21] rfl<|xZ [21] N ?_ ?_
    · intro hc1 N;exact wI [] [(26,vY)]<|yN<|zT (ct N H)
    intro hc1 N;exact yI [] [26] rfl<|yN<|zT (ct N H)
  intro t26 I0 le hMc;have H:=H.trans le;refine zI<|yC hMc ?_ ?_
  · intro hc2 N;refine yD<|yE 1 [] [27] rfl<|zB4 0 zExpr [hB b zExpr] rfl rfl rfl rfl<|yI [] [7] rfl<|xG<|zG ?_;obtain rfl:=zC N;exact xA ⟨_,_,(.cell 0 rfl rfl (by kernel_rfl) (.tmp rfl ResV.nil)),zQ,⟨_,_,rfl,rfl,⟨_,rfl,(xV ⟨_,_,_,rfl,(SL.nil _),(SL.nil _),(SL.nil _)⟩)⟩,rfl⟩⟩
  intro hc2 N;refine zS<|zY<|yG<|yD<|yE 2 [] [29,30] rfl<|bE N fun b1 hy N=>zA0 rfl rfl hy<|yI [] [28] rfl<|zI<|yC N ?_ ?_
  · intro hc3 N;refine yD<|yE 2 [] [33,34] rfl<|bE N fun y hy1 N=>gF (zBu s at0 (125:UInt8) _ hy1 ) fun I01 le1=>wI [] [(8,vI y)]<|zY<|vJ [(37,.bool (decide (y < 0)))]<|zI<|yC N ?_ ?_
    · intro hc4 N;refine yD<|yE 1 [] [38] rfl<|zB4 0 zExpr [hB b zExpr] rfl rfl rfl rfl<|yI [] [7] rfl<|xG<|zG<|zV<|zG ?_;obtain rfl:=zC N;exact xA ⟨_,_,(.cell 0 rfl rfl (by kernel_rfl) (.tmp rfl ResV.nil)),zQ,⟨_,_,rfl,rfl,⟨_,rfl,(xV ⟨_,_,_,rfl,(SL.nil _),(SL.nil _),(SL.nil _)⟩)⟩,rfl⟩⟩
    intro hc4 N;refine zS<|yX<|yE 4 [] [40,42,43] rfl<|bE N fun s1 hy2 N=>zH8 rfl hy2 ?_;obtain ⟨⟨y2,y3⟩,hy3,N⟩:=zB N;refine xP (zAD s1 _ hy3 ) ?_;rintro I02 hs2 v2 k2 le2 - ⟨v01,v02,rfl,rfl,⟨cs,rfl,h1⟩,rfl⟩ -;obtain ⟨p,c,rfl,h3⟩:=yS h1;refine yE 9 [] [46,47] rfl<|wY [z0,vI 0] ?_;intro b2 hb1;refine xJ 0 (cAff y2 p c) rfl<|wI [] []<|yX<|qL 4 [0] [(49,vA [vI 2,vI 0,vS p y2.Coefs c,vI y2.Const,vT ([]),z0,z0]),(51,vI (W (y + 1)))]<|xJ 1 [vI 2,vI 0,vS p y2.Coefs c,vI y2.Const,vT ([]),z0,z0] rfl<|yI [] [7] rfl<|xG<|zV<|zG ?_;obtain rfl:=zC N;exact xA ⟨_,_,(.cell 1 rfl rfl (by kernel_rfl) (.tmp rfl ResV.nil)),zQ,⟨_,_,rfl,rfl,⟨_,rfl,(xV ⟨_,_,_,rfl,h3,(SL.nil _),(SL.nil _)⟩)⟩,rfl⟩⟩
  intro hc3 N;refine zZ ?_;refine wT N [hB b zExpr] (fun t52=>[(0,vT s.l),(1,vI at0),(2,vI levels),(6,vP b 0),(52,.bool t52)]) (fun o01 ho01=>?_) ?_
  · have H:=iS I0;refine zK<|yE 2 [] [53,54] rfl ?_;obtain ⟨b3,hy4,N⟩:=zB ho01;refine zA0 rfl rfl hy4<|yE 5 [] [57] rfl<|xZ [57] N ?_ ?_
    · intro hc5 N;exact yE 7 [] [58,59] rfl<|bE N fun b4 hy5 N=>zA0 rfl rfl hy5<|yI [] [52] rfl<|yN<|zT (ct N H)
    intro hc5 N;exact wI [] [(52,vF)]<|yN<|zT (ct N H)
  intro t52 I03 le3 hMc1;refine zI<|yC hMc1 ?_ ?_
  · intro hc6 N;refine yD<|yE 2 [] [64,65] rfl ?_;obtain ⟨⟨y5,y6⟩,hy6,N⟩:=zB N;refine xP (eT s at0 _ hy6 ) ?_;rintro I04 hs2 v2 k2 le4 - ⟨v04,v05,rfl,rfl,⟨cs1,rfl,h4⟩,rfl⟩ -;obtain ⟨p1,c1,rfl,h6⟩:=oZ h4;refine yE 6 [] [67,68] rfl<|wY [vT ([]),z0] ?_;intro b5 hb2;refine xJ 0 (cAccess y5 p1 c1) rfl<|yI [] [12] rfl<|yX<|qL 3 [0] [(70,vA [vI 3,vI 0,z0,vI 0,vT y5.Array.l,vS p1 y5.Subs c1,z0]),(71,vI y6)]<|xJ 1 [vI 3,vI 0,z0,vI 0,vT y5.Array.l,vS p1 y5.Subs c1,z0] rfl<|yI [] [7] rfl<|xG<|zV<|zG ?_;obtain rfl:=zC N;exact xA ⟨_,_,(.cell 1 rfl rfl (by kernel_rfl) (.tmp rfl ResV.nil)),zQ,⟨_,_,rfl,rfl,⟨_,rfl,(xV ⟨_,_,_,rfl,(SL.nil _),h6,(SL.nil _)⟩)⟩,rfl⟩⟩
  intro hc6 N;refine yD<|yE 2 [] [73,74] rfl<|bE N fun b6 hy7 N=>zA0 rfl rfl hy7<|yI [] [72] rfl<|zI<|yC N ?_ ?_
  · intro hc7 N;refine yD<|yE 5 [] [77,79,81] rfl ?_;obtain ⟨⟨y8,y9⟩,hy8,N⟩:=zB N;refine xP (ih_spec_l3Round s (W (at0 + 1)) (W (levels - 1)) _ hy8 ) ?_;rintro I05 hs2 v2 k2 le5 - ⟨v07,v08,rfl,rfl,⟨cs2,rfl,h7⟩,rfl⟩ -;obtain ⟨p2,c2,p3,c3,p4,c4,rfl,h9,h10,h11⟩:=tN h7;refine yE 8 [] [83,84] rfl<|xJ 0 (cExpr y8 p2 c2 p3 c3 p4 c4) rfl<|yI [] [7] rfl<|xG<|zV<|zG ?_;obtain rfl:=zC N;exact xA ⟨_,_,(.cell 0 rfl rfl (by kernel_rfl) (.tmp rfl ResV.nil)),zQ,⟨_,_,rfl,rfl,⟨_,rfl,(xV ⟨_,_,_,rfl,h9,h10,h11⟩)⟩,rfl⟩⟩
  intro hc7 N;refine zS<|zO<|yX<|yE 2 [] [86,87] rfl ?_;obtain ⟨⟨y11,y12⟩,hy9,N⟩:=zB N;refine xP (zBL s at0 _ hy9 ) ?_;rintro I06 hs2 v2 k2 le6 - ⟨v012,v013,rfl,rfl,rfl,rfl⟩ -;refine yI [] [13,14] rfl<|zY<|yF [93] rfl<|zI<|yC N ?_ ?_
  · intro hc8 N;refine yD<|yE 1 [] [94] rfl<|zB4 0 zExpr [hB b zExpr] rfl rfl rfl rfl<|yI [] [7] rfl<|xG<|zG ?_;obtain rfl:=zC N;exact xA ⟨_,_,(.cell 0 rfl rfl (by kernel_rfl) (.tmp rfl ResV.nil)),zQ,⟨_,_,rfl,rfl,⟨_,rfl,(xV ⟨_,_,_,rfl,(SL.nil _),(SL.nil _),(SL.nil _)⟩)⟩,rfl⟩⟩
  intro hc8 N;refine zS<|yX<|yE 3 [] [96,97] rfl<|xJ 0 [vI 1,vI y11,z0,vI 0,vT ([]),z0,z0] rfl<|yI [] [7] rfl<|zI<|yW ?_;obtain rfl:=zC N;exact xA ⟨_,_,(.cell 0 rfl rfl (by kernel_rfl) (.tmp rfl ResV.nil)),zQ,⟨_,_,rfl,rfl,⟨_,rfl,(xV ⟨_,_,_,rfl,(SL.nil _),(SL.nil _),(SL.nil _)⟩)⟩,rfl⟩⟩
theorem zGB:∀ s at0 levels r,pG s at0 levels=some r→∀ {I:Imm} ,RT 215 [vT s.l,vI at0,vI levels] I [] (eH  r):=zFT.2
def sN (list:(List zA)) (out:Str) (i:Int):Option (Str):=do
 if (decide (i < (list.length:Int))) then
  let out2←(do
    if (decide (i > 0)) then
     let s←cat out (⟨[44]⟩:Str)
     pure (id s)
    else
     pure (id out)
      : Option Str)
  let x←idx list i
  let y←kL x
  let s1←cat out2 y
  sN list s1 (W (i + 1))
 else
  pure (id out)
 partial_fixpoint
theorem zBz (list:(List zA)):∀ (out:Str) (i:Int) (o:Str),sN list out i=some o→∀ {B}{I0 I:Imm}{Q p c},I0.le I→(S4 I p list c)→NG Q→NO Q→(∀ (I':Imm) (out1:Str),o=out1→I0.le I'→T 23 B Q (.exit 0) I' [] [(3,vT out1.l)])→J Tryz.prog 23 B (nav (bodyOf Tryz.f237) [1,1,0,1,0]) Q I [] [(0,vS p list c),(3,vT out.l),(4,vI i)]:=by
 refine sN.partial_correctness list _ fun self ih out i o N B I0 I Q p c H h hg ho hx=>yQ hg ho<|zZ<|yF [8] rfl<|zI<|yC N ?_ ?_
 · intro hc N;refine zS<|zY<|yG<|zZ<|yF [12] rfl<|zI ?_;refine wT N [] (fun out2=>[(0,vS p list c),(3,vT out2.l),(4,vI i)]) (fun o0 ho0=>?_) ?_
   · have H:=iS I;refine yC ho0 ?_ ?_
     · intro hc1 N;exact zK<|yE 1 [] [13] rfl<|bE N fun s hy N=>jH rfl hy<|yI [] [3] rfl<|yN<|zT (ct N H)
     intro hc1 N;exact zS<|yN<|zT (ct N H)
   intro out2 I0 le hMc;have ⟨h,H⟩:=m2 le h H;refine zI<|zK<|yE 3 [] [15,16,17] rfl ?_;obtain ⟨x,hy1,N⟩:=zB hMc;refine xK rfl rfl h hy1 ?_;intro ad ccs hat hrep;obtain ⟨p1,c1,rfl,h1⟩:=yS hrep;refine xF 0 hat (cAff x p1 c1) (vA (cAff x p1 c1)) rfl<|bE N fun y hy2 N=>xP (zAU x _ hy2 h1) ?_;rintro I01 hs2 v2 k2 le1 - ⟨v01,rfl,rfl,rfl⟩ -;have ⟨h,H⟩:=m2 le1 h H;obtain ⟨s1,hy3,N⟩:=zB N;exact jH rfl hy3<|yI [] [3] rfl<|zO<|zI<|zK<|yI [] [4] rfl<|yO<|nF<|ih s1 (W (i + 1)) _ N H h hg ho hx
 intro hc N;exact wJ<|yN<|hx _ _ (zC N).symm H
def pH (list:(List zA)):Option (Str):=do
 let out1←sN list (⟨[]⟩:Str) 0
 pure (id out1)
theorem fT:∀ list r,pH list=some r→∀ {I:Imm}{p c},(S4 I p list c)→RT 237 [vS p list c] I [] (tY  r):=by
 intro list r N I p c h;unfold pH at N;refine yL Tryz.func237 fun B=>vJ []<|wH [3] rfl<|zY<|yF [4] rfl<|xW<|qW [(0,vS p list c),(3,vT ([])),(4,vI 0)] ?_;obtain ⟨o01,ho01,hMl⟩:=zB N;refine zBz list (⟨[]⟩:Str) 0 o01 ho01 iR h (fun _ _ _ h=>h) (fun _ _ h=>h) ?_;intro I02 out1 heq1 le2;subst o01;refine zR<|wH [2] rfl<|zI<|yW ?_;obtain rfl:=zC hMl;exact wM
def rK (a0:zJ):Option (Str):=do
 let s←cat a0.Array (⟨[91]⟩:Str)
 let y←pH a0.Subs
 let s1←cat s y
 let s2←cat s1 (⟨[93]⟩:Str)
 pure (id s2)
theorem gQ:∀ a0 r,rK a0=some r→∀ {I:Imm}{p c},(S4 I p a0.Subs c)→RT 204 [vA (cAccess a0 p c)] I [] (tY  r):=by
 intro a0 r N I p c h;unfold rK at N;refine yL Tryz.func204 fun B=>?_;have H:=iS I;refine yD<|tS (cAccess a0 p c) ?_;intro b hb;refine wI [] []<|zI<|zZ ?_;obtain ⟨s,hy,N⟩:=zB N;obtain ⟨y,hy1,N⟩:=zB N;obtain ⟨s1,hy2,N⟩:=zB N;obtain ⟨s2,hy3,N⟩:=zB N;refine wK [.p (vP b 0) [],.p (vT a0.Array.l) [0],.q (vT s.l),.p (vP b 1) [],.p (vS p a0.Subs c) [0],.q (vT y.l),.q (vT s1.l),.q (vT s2.l)] [[],[(0,false)],[(1,false)],[],[(3,false)],[(4,false)],[(2,false),(5,false)],[(6,false)]] [hB b (cAccess a0 p c)] [] [(7,false)] (zX [0]) ?_ ?_
 · refine Op<|Op<|Oq ?_<|Op<|Op<|Oq ?_<|Oq ?_<|Oq ?_<|On
   · intro I1 hf le1;exact yR [4] rfl<|jH rfl hy<|xE iR
   · intro I1 hf le1;refine yR [7] rfl ?_;have H:=iS I1;have h:=h.mono le1;refine xP (fT a0.Subs _ hy1 h) ?_;rintro I0 hs2 v2 k2 le - ⟨v0,rfl,rfl,rfl⟩ -;have H:=H.trans le;exact xE H
   · intro I1 hf le1;exact yR [5,8] rfl<|jH rfl hy2<|xE iR
   intro I1 hf le1;exact yR [9] rfl<|jH rfl hy3<|xE iR
 intro I01 le1;refine yR [10] rfl ?_;refine yI [] [2] rfl<|zI<|yW ?_;obtain rfl:=zC N;exact wM
def qE (e0:zH):Option (Str):=do
 if (e0.Kind == 1) then
  let y←qD e0.Num
  pure (id y)
 else
  if (e0.Kind == 2) then
   let y1←kL e0.Index
   let s←cat (⟨[123]⟩:Str) y1
   let s1←cat s (⟨[125]⟩:Str)
   pure (id s1)
  else
   if (e0.Kind == 3) then
    let y2←rK e0.Read
    pure (id y2)
   else
    let x←idx e0.Kids 0
    let y3←qE (same x)
    let s2←cat (⟨[40]⟩:Str) y3
    let s3←sslc (⟨[43,45,42]⟩:Str) (W (e0.Kind - 4)) (W ((W (e0.Kind - 4)) + 1))
    let s4←cat s2 s3
    let x1←idx e0.Kids 1
    let y4←qE (same x1)
    let s5←cat s4 y4
    let s6←cat s5 (⟨[41]⟩:Str)
    pure (id s6)
 partial_fixpoint
theorem zCZ:∀ e0 r,qE e0=some r→∀ {I:Imm}{p c p1 c1 p2 c2},(S4 I p e0.Index.Coefs c)→(S4 I p1 e0.Read.Subs c1)→(S4 I p2 e0.Kids c2)→RT 205 [vA (cExpr e0 p c p1 c1 p2 c2)] I [] (tY  r):=by
 refine qE.partial_correctness _ fun F_spec_l3Text ih_spec_l3Text e0 r N I p c p1 c1 p2 c2 h h1 h2=>yL Tryz.func205 fun B=>?_;have H:=iS I;refine yD<|tS (cExpr e0 p c p1 c1 p2 c2) ?_;intro b hb;refine wI [] []<|zY<|yD<|yI [0] [4] rfl<|xW<|yF [5] rfl<|zI<|yC N ?_ ?_
 · intro hc N;refine yD<|yE 2 [0] [8] rfl<|bE N fun y hy N=>xP (eG e0.Num _ hy ) ?_;rintro I0 hs2 v2 k2 le - ⟨v0,rfl,rfl,rfl⟩ -;refine yI [] [2] rfl<|xG<|zV<|zG ?_;obtain rfl:=zC N;exact wM
 intro hc N;refine yF [10] rfl<|zI<|yC N ?_ ?_
 · intro hc1 N;refine yD<|qL 2 [0] [(13,vA (cAff e0.Index p c))]<|bE N fun y1 hy1 N=>xP (zAU e0.Index _ hy1 h) ?_;rintro I01 hs2 v2 k2 le1 - ⟨v01,rfl,rfl,rfl⟩ -;obtain ⟨s,hy2,N⟩:=zB N;refine jH rfl hy2<|bE N fun s1 hy3 N=>jH rfl hy3<|yI [] [2] rfl<|xG<|zV<|zG ?_;obtain rfl:=zC N;exact wM
 intro hc1 N;refine yF [17] rfl<|zI<|yC N ?_ ?_
 · intro hc2 N;refine yD<|qL 2 [0] [(20,vA (cAccess e0.Read p1 c1))]<|bE N fun y2 hy4 N=>xP (gQ e0.Read _ hy4 h1) ?_;rintro I02 hs2 v2 k2 le2 - ⟨v02,rfl,rfl,rfl⟩ -;refine yI [] [2] rfl<|xG<|zV<|zG ?_;obtain rfl:=zC N;exact wM
 intro hc2 N;refine zS<|zO<|zI<|zZ ?_;obtain ⟨x,hy5,N⟩:=zB N;obtain ⟨y3,hy6,N⟩:=zB N;obtain ⟨s2,hy7,N⟩:=zB N;obtain ⟨s3,hy8,N⟩:=zB N;obtain ⟨s4,hy9,N⟩:=zB N;obtain ⟨x1,hy10,N⟩:=zB N;obtain ⟨y4,hy11,N⟩:=zB N;obtain ⟨s5,hy12,N⟩:=zB N;obtain ⟨s6,hy13,N⟩:=zB N;refine wK [.p (vP b 6) [],.p (vS p2 e0.Kids c2) [0],.x (ePExpr x),.x (eVExpr x),.q (vT y3.l),.q (vT s2.l),.p (vP b 0) [],.p (vI e0.Kind) [0],.p (vI (W (e0.Kind - 4))) [],.p (vP b 0) [],.p (vI e0.Kind) [0],.p (vI (W (e0.Kind - 4))) [],.p (vI (W ((W (e0.Kind - 4)) + 1))) [],.q (vT s3.l),.q (vT s4.l),.p (vP b 6) [],.p (vS p2 e0.Kids c2) [0],.x (ePExpr x1),.x (eVExpr x1),.q (vT y4.l),.q (vT s5.l),.q (vT s6.l)] [[],[(0,false)],[(1,false)],[(2,false)],[(3,false)],[(4,false)],[],[(6,false)],[(7,false)],[],[(9,false)],[(10,false)],[(11,false)],[(8,false),(12,false)],[(5,false),(13,false)],[],[(15,false)],[(16,false)],[(17,false)],[(18,false)],[(14,false),(19,false)],[(20,false)]] [hB b (cExpr e0 p c p1 c1 p2 c2)] [] [(21,false)] (zX [0]) ?_ ?_
 · refine Op<|Op<|Ox ?_<|Ox ?_<|Oq ?_<|Oq ?_<|Op<|Op<|Op<|Op<|Op<|Op<|Op<|Oq ?_<|Oq ?_<|Op<|Op<|Ox ?_<|Ox ?_<|Oq ?_<|Oq ?_<|Oq ?_<|On
   · intro I1 hf le1;refine yR [23] rfl ?_;have h2:=h2.mono le1;refine xK rfl rfl h2 hy5 ?_;intro ad ccs hat hrep;obtain ⟨p3,c3,p4,c4,p5,c5,rfl,h6,h7,h8⟩:=tN hrep;exact yK [] iR ⟨_,_,_,_,_,_,_,rfl,rfl,hat,h6,h7,h8⟩
   · rintro I1 hf le1 _ _ ⟨ad,p3,c3,p4,c4,p5,c5,rfl,rfl,hat,h6,h7,h8⟩;exact yR [24] rfl<|xF 0 hat (cExpr x p3 c3 p4 c4 p5 c5) (vA (cExpr x p3 c3 p4 c4 p5 c5)) rfl<|yK [] iR ⟨_,_,_,_,_,_,rfl,rfl,h6,h7,h8⟩
   · rintro I1 hf le1 _ _ ⟨p31,c31,p41,c41,p51,c51,rfl,rfl,h61,h71,h81⟩;refine yR [25] rfl ?_;have H:=iS I1;refine xP (ih_spec_l3Text x _ hy6 h61 h71 h81) ?_;rintro I03 hs2 v2 k2 le3 - ⟨v06,rfl,rfl,rfl⟩ -;have H:=H.trans le3;exact xE H
   · intro I1 hf le1;exact yR [26] rfl<|jH rfl hy7<|xE iR
   · intro I1 hf le1;exact yR [30,34] rfl<|zH8 rfl hy8<|xE iR
   · intro I1 hf le1;exact yR [27,35] rfl<|jH rfl hy9<|xE iR
   · intro I1 hf le1;refine yR [38] rfl ?_;have h2:=h2.mono le1;refine xK rfl rfl h2 hy10 ?_;intro ad1 ccs1 hat1 hrep1;obtain ⟨p6,c6,p7,c7,p8,c8,rfl,h10,h11,h12⟩:=tN hrep1;exact yK [] iR ⟨_,_,_,_,_,_,_,rfl,rfl,hat1,h10,h11,h12⟩
   · rintro I1 hf le1 _ _ ⟨ad1,p6,c6,p7,c7,p8,c8,rfl,rfl,hat1,h10,h11,h12⟩;exact yR [39] rfl<|xF 0 hat1 (cExpr x1 p6 c6 p7 c7 p8 c8) (vA (cExpr x1 p6 c6 p7 c7 p8 c8)) rfl<|yK [] iR ⟨_,_,_,_,_,_,rfl,rfl,h10,h11,h12⟩
   · rintro I1 hf le1 _ _ ⟨p61,c61,p71,c71,p81,c81,rfl,rfl,h101,h111,h121⟩;refine yR [40] rfl ?_;have H:=iS I1;refine xP (ih_spec_l3Text x1 _ hy11 h101 h111 h121) ?_;rintro I04 hs2 v2 k2 le4 - ⟨v010,rfl,rfl,rfl⟩ -;have H:=H.trans le4;exact xE H
   · intro I1 hf le1;exact yR [36,41] rfl<|jH rfl hy12<|xE iR
   intro I1 hf le1;exact yR [42] rfl<|jH rfl hy13<|xE iR
 intro I05 le5;refine yR [43] rfl ?_;refine yI [] [2] rfl<|zI<|yW ?_;obtain rfl:=zC N;exact wM
def mU (s:zP):Option (Str):=do
 let y←sY s 4
 if (!y) then
  pure (⟨[]⟩:Str)
 else
  let y1←rK s.Write
  let s1←cat y1 (⟨[61]⟩:Str)
  let y2←qE s.Value
  let s2←cat s1 y2
  pure (id s2)
theorem zD7:∀ s r,mU s=some r→∀ {I:Imm}{p c p1 c1 p2 c2 p3 c3},(S4 I p s.Write.Subs c)→(S4 I p1 s.Value.Index.Coefs c1)→(S4 I p2 s.Value.Read.Subs c2)→(S4 I p3 s.Value.Kids c3)→RT 216 [vA (cStmt s p c p1 c1 p2 c2 p3 c3)] I [] (tY  r):=by
 intro s r N I p c p1 c1 p2 c2 p3 c3 h h1 h2 h3;unfold mU at N;refine yL Tryz.func216 fun B=>?_;have H:=iS I;refine yD<|tS (cStmt s p c p1 c1 p2 c2 p3 c3) ?_;intro b hb;refine wI [] []<|zY<|yD<|qL 1 [0] [(3,vA (cStmt s p c p1 c1 p2 c2 p3 c3))]<|bE N fun y hy N=>uH (eC s 4 _ hy h h1 h2 h3) ?_;intro I0 le;have ⟨h,h1,h2,h3,H⟩:=m5 le h h1 h2 h3 H;refine yI [] [5] rfl<|zI<|yC N ?_ ?_
 · intro hc N;refine yF [2] rfl<|xG<|zG ?_;obtain rfl:=zC N;exact wM
 intro hc N;refine zS<|zI<|zZ ?_;obtain ⟨y1,hy1,N⟩:=zB N;obtain ⟨s1,hy2,N⟩:=zB N;obtain ⟨y2,hy3,N⟩:=zB N;obtain ⟨s2,hy4,N⟩:=zB N;refine wK [.p (vP b 0) [],.p (vA (cAccess s.Write p c)) [0],.q (vT y1.l),.q (vT s1.l),.p (vP b 2) [],.p (vA (cExpr s.Value p1 c1 p2 c2 p3 c3)) [0],.q (vT y2.l),.q (vT s2.l)] [[],[(0,false)],[(1,false)],[(2,false)],[],[(4,false)],[(5,false)],[(3,false),(6,false)]] [hB b (cStmt s p c p1 c1 p2 c2 p3 c3)] [] [(7,false)] (zX [0]) ?_ ?_
 · refine Op<|Op<|Oq ?_<|Oq ?_<|Op<|Op<|Oq ?_<|Oq ?_<|On
   · intro I1 hf le1;refine yR [7] rfl ?_;have H:=iS I1;have h:=h.mono le1;refine xP (gQ s.Write _ hy1 h) ?_;rintro I01 hs2 v2 k2 le1 - ⟨v01,rfl,rfl,rfl⟩ -;have H:=H.trans le1;exact xE H
   · intro I1 hf le1;exact yR [8] rfl<|jH rfl hy2<|xE iR
   · intro I1 hf le1;refine yR [11] rfl ?_;have H:=iS I1;have ⟨h1,h2,h3⟩:=m3 le1 h1 h2 h3;refine xP (zCZ s.Value _ hy3 h1 h2 h3) ?_;rintro I02 hs2 v2 k2 le2 - ⟨v02,rfl,rfl,rfl⟩ -;have H:=H.trans le2;exact xE H
   intro I1 hf le1;exact yR [9,12] rfl<|jH rfl hy4<|xE iR
 intro I03 le3;refine yR [13] rfl ?_;refine yI [] [2] rfl<|zI<|yW ?_;obtain rfl:=zC N;exact wM
def zCx (r:zP×Bool):KT:=fun kk I' hs' v=>
  ∃ v0 v1,hs'=[]∧v=tupV [v0,v1]∧(∃ cs,v0=.agg ⟨cs⟩∧Rp.rep I' cs r.1)∧v1=.bool r.2
def mC (text:Str):Option (zP×Bool):=do
 if (decide ((text.l.length:Int) < 4)) then
  pure ((zP.mk (zJ.mk (⟨[]⟩:Str) ([]:List zA)) (zH.mk 0 0 (zA.mk ([]:List Int) 0) (zJ.mk (⟨[]⟩:Str) ([]:List zA)) ([]:List zH))),false)
 else
  let (y1,y2)←qT text 0
  let t25←(do
    if (decide (y2 < 0)) then
     pure true
    else
     pure (decide (y2 ≥ (text.l.length:Int)))
      : Option Bool)
  if t25 then
   pure ((zP.mk (zJ.mk (⟨[]⟩:Str) ([]:List zA)) (zH.mk 0 0 (zA.mk ([]:List Int) 0) (zJ.mk (⟨[]⟩:Str) ([]:List zA)) ([]:List zH))),false)
  else
   let (y4,y5)←pG text (W (y2 + 1)) 5
   let y6←mU (zP.mk y1 y4)
   if (!(y6.l == text.l)) then
    pure ((zP.mk (zJ.mk (⟨[]⟩:Str) ([]:List zA)) (zH.mk 0 0 (zA.mk ([]:List Int) 0) (zJ.mk (⟨[]⟩:Str) ([]:List zA)) ([]:List zH))),false)
   else
    pure ((zP.mk y1 y4),true)
theorem zAj:∀ text r,mC text=some r→∀ {I:Imm} ,RT 172 [vT text.l] I [] (zCx  r):=by
 intro text r N I;unfold mC at N;refine yL Tryz.func172 fun B=>?_;have H:=iS I;refine yD<|wY [vT ([]),z0,vI 0,vI 0,z0,vI 0,vT ([]),z0,z0] ?_;intro b hb;refine wI [] []<|zY<|yF [11] rfl<|zI<|yC N ?_ ?_
 · intro hc N;refine yD<|yE 1 [] [12] rfl<|xJ 0 [vT ([]),z0,vI 0,vI 0,z0,vI 0,vT ([]),z0,z0] rfl<|wI [] [(3,vF)]<|xG<|zG ?_;obtain rfl:=zC N;exact xA ⟨_,_,(.cell 0 rfl rfl (by kernel_rfl) (.tmp rfl ResV.nil)),zQ,⟨_,_,rfl,rfl,⟨_,rfl,(wU ⟨_,_,_,_,rfl,(SL.nil _),(SL.nil _),(SL.nil _),(SL.nil _)⟩)⟩,rfl⟩⟩
 intro hc N;refine zS<|yX<|yE 1 [] [14] rfl ?_;obtain ⟨⟨y1,y2⟩,hy,N⟩:=zB N;refine xP (eT text 0 _ hy ) ?_;rintro I0 hs2 v2 k2 le - ⟨v0,v01,rfl,rfl,⟨cs,rfl,h⟩,rfl⟩ -;have H:=H.trans le;obtain ⟨p,c,rfl,h2⟩:=oZ h;refine yE 5 [] [16,17] rfl<|wY [vT ([]),z0] ?_;intro b1 hb1;refine xJ 0 (cAccess y1 p c) rfl<|yI [] [5] rfl<|zY<|zZ ?_;refine wT N [hB b1 (cAccess y1 p c),hB b [vT ([]),z0,vI 0,vI 0,z0,vI 0,vT ([]),z0,z0]] (fun t25=>[(0,vT text.l),(2,vP b 0),(4,vP b1 0),(5,vI y2),(25,.bool t25)]) (fun o0 ho0=>?_) ?_
 · have H:=iS I0;refine zK<|yE 3 [] [20] rfl<|xZ [20] ho0 ?_ ?_
   · intro hc1 N;exact wI [] [(25,vY)]<|yN<|zT (ct N H)
   intro hc1 N;exact yI [] [25] rfl<|yN<|zT (ct N H)
 intro t25 I01 le1 hMc;have h2:=h2.mono le1;refine zI<|yC hMc ?_ ?_
 · intro hc2 N;refine yD<|yE 1 [] [26] rfl<|xJ 1 [vT ([]),z0,vI 0,vI 0,z0,vI 0,vT ([]),z0,z0] rfl<|wI [] [(3,vF)]<|xG<|zG ?_;obtain rfl:=zC N;exact xA ⟨_,_,(.cell 1 rfl rfl (by kernel_rfl) (.tmp rfl ResV.nil)),zQ,⟨_,_,rfl,rfl,⟨_,rfl,(wU ⟨_,_,_,_,rfl,(SL.nil _),(SL.nil _),(SL.nil _),(SL.nil _)⟩)⟩,rfl⟩⟩
 intro hc2 N;refine zS<|yX<|yE 3 [] [28,30] rfl ?_;obtain ⟨⟨y4,y5⟩,hy1,N⟩:=zB N;refine xP (zGB text (W (y2 + 1)) 5 _ hy1 ) ?_;rintro I02 hs2 v2 k2 le2 - ⟨v03,v04,rfl,rfl,⟨cs1,rfl,h3⟩,rfl⟩ -;have h2:=h2.mono le2;obtain ⟨p1,c1,p2,c2,p3,c3,rfl,h5,h6,h7⟩:=tN h3;refine yE 7 [] [32,33] rfl<|wY zExpr ?_;intro b2 hb2;refine xJ 0 (cExpr y4 p1 c1 p2 c2 p3 c3) rfl<|wI [] []<|yX<|qL 3 [1,0] [(36,vA [vT y1.Array.l,vS p y1.Subs c,vI y4.Kind,vI y4.Num,vS p1 y4.Index.Coefs c1,vI y4.Index.Const,vT y4.Read.Array.l,vS p2 y4.Read.Subs c2,vS p3 y4.Kids c3])]<|wY [vT ([]),z0,vI 0,vI 0,z0,vI 0,vT ([]),z0,z0] ?_;intro b3 hb3;refine xJ 0 [vT y1.Array.l,vS p y1.Subs c,vI y4.Kind,vI y4.Num,vS p1 y4.Index.Coefs c1,vI y4.Index.Const,vT y4.Read.Array.l,vS p2 y4.Read.Subs c2,vS p3 y4.Kids c3] rfl<|yB rfl<|zY<|yD<|qL 1 [0] [(37,vA [vT y1.Array.l,vS p y1.Subs c,vI y4.Kind,vI y4.Num,vS p1 y4.Index.Coefs c1,vI y4.Index.Const,vT y4.Read.Array.l,vS p2 y4.Read.Subs c2,vS p3 y4.Kids c3])]<|bE N fun y6 hy2 N=>xP (zD7 (zP.mk y1 y4) _ hy2 h2 h5 h6 h7) ?_;rintro I03 hs2 v2 k2 le3 - ⟨v08,rfl,rfl,rfl⟩ -;have ⟨h2,h5,h6,h7⟩:=m4 le3 h2 h5 h6 h7;refine yI [] [40] rfl<|zI<|yC N ?_ ?_
 · intro hc3 N;refine yD<|yE 1 [] [41] rfl<|xJ 3 [vT ([]),z0,vI 0,vI 0,z0,vI 0,vT ([]),z0,z0] rfl<|wI [] [(3,vF)]<|xG<|zG ?_;obtain rfl:=zC N;exact xA ⟨_,_,(.cell 3 rfl rfl (by kernel_rfl) (.tmp rfl ResV.nil)),zQ,⟨_,_,rfl,rfl,⟨_,rfl,(wU ⟨_,_,_,_,rfl,(SL.nil _),(SL.nil _),(SL.nil _),(SL.nil _)⟩)⟩,rfl⟩⟩
 intro hc3 N;refine zS<|yX<|qL 1 [0] [(42,vA [vT y1.Array.l,vS p y1.Subs c,vI y4.Kind,vI y4.Num,vS p1 y4.Index.Coefs c1,vI y4.Index.Const,vT y4.Read.Array.l,vS p2 y4.Read.Subs c2,vS p3 y4.Kids c3])]<|xJ 3 [vT y1.Array.l,vS p y1.Subs c,vI y4.Kind,vI y4.Num,vS p1 y4.Index.Coefs c1,vI y4.Index.Const,vT y4.Read.Array.l,vS p2 y4.Read.Subs c2,vS p3 y4.Kids c3] rfl<|wI [] [(3,vY)]<|zI<|yW ?_;obtain rfl:=zC N;exact xA ⟨_,_,(.cell 3 rfl rfl (by kernel_rfl) (.tmp rfl ResV.nil)),zQ,⟨_,_,rfl,rfl,⟨_,rfl,(wU ⟨_,_,_,_,rfl,h2,h5,h6,h7⟩)⟩,rfl⟩⟩
def zAk (r:(List zE)×Bool):KT:=fun kk I' hs' v=>
  ∃ v0 v1,hs'=[]∧v=tupV [v0,v1]∧SL I' v0 r.1∧v1=.bool r.2
def pI (sizes:(List Int)) (out:List zE) (i:Int):Option (Out (List zE) ((List zE)×Bool)):=do
 if (decide (i < (sizes.length:Int))) then
  let t28←(do
    let x←idx sizes i
    if (decide (x < 0)) then
     pure true
    else
     let x1←idx sizes i
     pure (decide (x1 > 99))
      : Option Bool)
  if t28 then
   pure (.ret (([]:List zE),false))
  else
   let y←oU
   let x2←idx sizes i
   let y1←wV x2
   let out2←app 48 out ([(zE.mk ([y]:List zA) ([y1]:List zA))]:List zE)
   pI sizes out2 (W (i + 1))
 else
  pure (.done out)
 partial_fixpoint
theorem zD8 (sizes:(List Int)):∀ (out:List zE) (i:Int) (o:Out (List zE) ((List zE)×Bool)),pI sizes out i=some o→∀ {B}{I0 I:Imm}{Q p c p1 c1 cs},I0.le I→(S4 I p sizes c)→(RL I cs out)→NG Q→NO Q→(∀ (I':Imm) (out1:List zE) (p2:Option Addr) (c2:Nat) (cs1:List Value),o=(.done out1)→I0.le I'→(RL I' cs1 out1)→T 43 B Q (.exit 0) I' [hO zE (vS p2 out1 c2) cs1] [(4,vS p2 out1 c2)])→(∀ r I' hs' m',o=(.ret r)→I0.le I'→RS Tryz.prog Tryz.f173 B (zAk  r) I' hs' m'→T 43 B Q .ret I' hs' m')→J Tryz.prog 43 B (nav (bodyOf Tryz.f173) [1,1,1,0,1,0]) Q I [hO zE (vS p1 out c1) cs] [(0,vS p sizes c),(4,vS p1 out c1),(5,vI i)]:=by
 refine pI.partial_correctness sizes _ fun self ih out i o N B I0 I Q p c p1 c1 cs H h h3 hg ho hx hr=>yQ hg ho<|zZ<|yF [14] rfl<|zI<|yC N ?_ ?_
 · intro hc1 N;refine zS<|zY<|yG<|zZ<|zZ ?_;refine wT N [hO zE (vS p1 out c1) cs] (fun t28=>[(0,vS p sizes c),(4,vS p1 out c1),(5,vI i),(28,.bool t28)]) (fun o0 ho0=>?_) ?_
   · have H:=iS I;refine zK<|yE 2 [] [17,18] rfl ?_;obtain ⟨x,hy,N⟩:=zB ho0;refine xK rfl rfl h hy ?_;intro ad ccs hat hrep;obtain rfl:=hrep;refine xF 0 hat [vI x] (vI x) rfl<|yE 6 [] [22] rfl<|xZ [22] N ?_ ?_
     · intro hc2 N;exact wI [] [(28,vY)]<|yN<|zT (ct N H)
     intro hc2 N;refine yE 8 [] [23,24] rfl<|bE N fun x1 hy1 N=>xK rfl rfl h hy1 ?_;intro ad1 ccs1 hat1 hrep1;obtain rfl:=hrep1;exact xF 0 hat1 [vI x1] (vI x1) rfl<|yI [] [28] rfl<|yN<|zT (ct N H)
   intro t28 I01 le1 hMc;have ⟨h,h3,H⟩:=m3 le1 h h3 H;refine zI<|yC hMc ?_ ?_
   · intro hc3 N;refine yD<|uN [] zE ?_;intro b1 hb1;have h5:RL I01 [] ([]:List zE):=rfl;refine yI [] [2,3] rfl<|xG<|zG<|zV<|zG<|zG<|yV 0 rfl ?_;intro I02 le2 hl01;have h6:=SL.of_frozen hl01 le2 h5;have H:=H.trans le2;exact hr _ _ _ _ (zC N).symm H ⟨_,_,(.tmp rfl (.tmp rfl ResV.nil)),zQ,⟨_,_,rfl,rfl,h6,rfl⟩⟩
   intro hc3 N;refine zS<|zI ?_;obtain ⟨y,hy2,N⟩:=zB N;obtain ⟨x2,hy3,N⟩:=zB N;obtain ⟨y1,hy4,N⟩:=zB N;obtain ⟨out2,hy5,N⟩:=zB N;refine wK [.p (vS p1 out c1) [],.x (fun I' v hx=>∃ p3 c3 cs2,v=vA (cAff y p3 c3)∧hx=[hO Int (vS p3 y.Coefs c3) cs2]∧(RL I' cs2 y.Coefs)),.x (fun I' v hx=>∃ b2,v=vS (some ⟨b2,0,none⟩) ([y]:List zA) 1∧hx=[]∧(SL I' (vS (some ⟨b2,0,none⟩) ([y]:List zA) 1) ([y]:List zA))),.p (vS p sizes c) [],.p (vI i) [],.x (fun I' v hx=>∃ ad2,v=.pointer (some ad2)∧hx=[]∧(At I' ad2 [vI x2])),.q (vI x2),.x (fun I' v hx=>∃ p4 c4 cs3,v=vA (cAff y1 p4 c4)∧hx=[hO Int (vS p4 y1.Coefs c4) cs3]∧(RL I' cs3 y1.Coefs)),.x (fun I' v hx=>∃ b3,v=vS (some ⟨b3,0,none⟩) ([y1]:List zA) 1∧hx=[]∧(SL I' (vS (some ⟨b3,0,none⟩) ([y1]:List zA) 1) ([y1]:List zA))),.x (fun I' v hx=>∃ b21 b31,v=vA [vS (some ⟨b21,0,none⟩) ([y]:List zA) 1,vS (some ⟨b31,0,none⟩) ([y1]:List zA) 1]∧hx=[]∧(SL I' (vS (some ⟨b21,0,none⟩) ([y]:List zA) 1) ([y]:List zA))∧(SL I' (vS (some ⟨b31,0,none⟩) ([y1]:List zA) 1) ([y1]:List zA))),.x (fun I' v hx=>∃ b4,v=vS (some ⟨b4,0,none⟩) ([(zE.mk ([y]:List zA) ([y1]:List zA))]:List zE) 1∧hx=[]∧(SL I' (vS (some ⟨b4,0,none⟩) ([(zE.mk ([y]:List zA) ([y1]:List zA))]:List zE) 1) ([(zE.mk ([y]:List zA) ([y1]:List zA))]:List zE))),.x (fun I' v hx=>∃ p5 c5 cs4,v=vS p5 out2 c5∧hx=[hO zE (vS p5 out2 c5) cs4]∧(RL I' cs4 out2))] [[],[],[(1,true)],[],[],[(3,false),(4,false)],[(5,false)],[(6,false)],[(7,true)],[(2,false),(8,false)],[(9,false)],[(0,false),(10,false),(13,true)]] [] [[hO zE (vS p1 out c1) cs]] [(11,true)] (zX [0]) ?_ ?_
   · refine Op<|Ox ?_<|Ox ?_<|Op<|Op<|Ox ?_<|Oq ?_<|Ox ?_<|Ox ?_<|Ox ?_<|Ox ?_<|Ox ?_<|On
     · intro I1 hf le1;refine I_h [] ?_;have H:=iS I1;refine xP (kV  _ hy2 ) ?_;rintro I03 hs2 v2 k2 le3 - ⟨p3,c3,cs2,rfl,rfl,h7⟩ -;have H:=H.trans le3;exact yK [hO Int (vS p3 y.Coefs c3) cs2] H ⟨_,_,_,rfl,rfl,h7⟩
     · rintro I1 hf le1 _ _ ⟨p3,c3,cs2,rfl,rfl,h7⟩;refine yR [31] rfl ?_;have H:=iS I1;refine xO 0 rfl ?_;intro I04 le4 hl02;have h8:=SL.of_frozen hl02 le4 h7;have H:=H.trans le4;refine nH (rc y (yP ⟨_,rfl,h8⟩) rN) ?_;intro b2 I05 le5 h10;have H:=H.trans le5;exact yK [] H ⟨_,rfl,rfl,h10⟩
     · intro I1 hf le1;refine yR [33,34] rfl ?_;have h:=h.mono le1;refine xK rfl rfl h hy3 ?_;intro ad2 ccs2 hat2 hrep2;obtain rfl:=hrep2;exact yK [] iR ⟨_,rfl,rfl,hat2⟩
     · rintro I1 hf le1 _ _ ⟨ad2,rfl,rfl,hat2⟩;exact yR [35] rfl<|xF 0 hat2 [vI x2] (vI x2) rfl<|xE iR
     · intro I1 hf le1;refine yR [36] rfl ?_;have H:=iS I1;refine xP (uQ x2 _ hy4 ) ?_;rintro I06 hs2 v2 k2 le6 - ⟨p4,c4,cs3,rfl,rfl,h11⟩ -;have H:=H.trans le6;exact yK [hO Int (vS p4 y1.Coefs c4) cs3] H ⟨_,_,_,rfl,rfl,h11⟩
     · rintro I1 hf le1 _ _ ⟨p4,c4,cs3,rfl,rfl,h11⟩;refine yR [37] rfl ?_;have H:=iS I1;refine xO 0 rfl ?_;intro I07 le7 hl04;have h12:=SL.of_frozen hl04 le7 h11;have H:=H.trans le7;refine nH (rc y1 (yP ⟨_,rfl,h12⟩) rN) ?_;intro b3 I08 le8 h14;have H:=H.trans le8;exact yK [] H ⟨_,rfl,rfl,h14⟩
     · rintro I1 hf le1 _ _ ⟨b2,rfl,rfl,h10⟩ _ _ ⟨b3,rfl,rfl,h14⟩;exact yR [32,38] rfl<|oY 10 [(39,vA [vS (some ⟨b2,0,none⟩) ([y]:List zA) 1,vS (some ⟨b3,0,none⟩) ([y1]:List zA) 1])]<|yK [] iR ⟨_,_,rfl,rfl,h10,h14⟩
     · rintro I1 hf le1 _ _ ⟨b21,b31,rfl,rfl,h101,h141⟩;refine yR [39] rfl ?_;have H:=iS I1;refine nH (rc (zE.mk ([y]:List zA) ([y1]:List zA)) (qB ⟨_,_,rfl,h101,h141⟩) rN) ?_;intro b4 I09 le9 h16;have H:=H.trans le9;exact yK [] H ⟨_,rfl,rfl,h16⟩
     rintro I1 hf le1 _ _ ⟨rfl,rfl⟩ _ _ ⟨b4,rfl,rfl,h16⟩ _ _ rfl;refine yR [30,40] rfl ?_;have h3:=iM le1 h3;obtain ⟨ccs3,k0,k01⟩:=h16;have h16:SL I1 (vS (some ⟨b4,0,none⟩) ([(zE.mk ([y]:List zA) ([y1]:List zA))]:List zE) 1) ([(zE.mk ([y]:List zA) ([y1]:List zA))]:List zE):=⟨_,k0,k01⟩;exact rX 187 2 0 rfl rfl rfl h3 (.inl k0) k01 hy5 fun p5 c5 cs4 h17=>vK (hs':=(hO zE (vS p5 out2 c5) cs4::hf)) rfl<|yK [hO zE (vS p5 out2 c5) cs4] iR ⟨_,_,_,rfl,rfl,h17⟩
   rintro I010 le10 _ _ ⟨p5,c5,cs4,rfl,rfl,h17⟩;refine yR [0,5,41] rfl ?_;have ⟨h,H⟩:=m2 le10 h H;exact yI [] [4] rfl<|zO<|zI<|zK<|yI [] [5] rfl<|yO<|nF<|ih out2 (W (i + 1)) _ N H h h17 hg ho hx hr
 intro hc1 N;exact wJ<|yN<|hx _ _ _ _ _ (zC N).symm H h3
def gR (sizes:(List Int)):Option ((List zE)×Bool):=do
 if (decide ((sizes.length:Int) > 4)) then
  pure (([]:List zE),false)
 else
  match←pI sizes ([]:List zE) 0 with
  | .ret r0=>pure r0
  | .done out1 =>
   pure (out1,true)
theorem zGC:∀ sizes r,gR sizes=some r→∀ {I:Imm}{p c},(S4 I p sizes c)→RT 173 [vS p sizes c] I [] (zAk  r):=by
 intro sizes r N I p c h;unfold gR at N;refine yL Tryz.func173 fun B=>vJ []<|yX<|uN [] zE ?_;intro b hb;have h1:RL I [] ([]:List zE):=rfl;refine yI [] [4] rfl<|zY<|yF [9] rfl<|zI<|yC N ?_ ?_
 · intro hc N;refine yF [2,3] rfl<|xG<|zG<|yV 0 rfl ?_;intro I0 le hl0;have h2:=SL.of_frozen hl0 le h1;obtain rfl:=zC N;exact xA ⟨_,_,(.tmp rfl (.tmp rfl ResV.nil)),zQ,⟨_,_,rfl,rfl,h2,rfl⟩⟩
 intro hc N;refine zS<|zY<|yF [5] rfl<|xW<|qW [(0,vS p sizes c),(4,vS (some ⟨b,0,none⟩) ([]:List zE) 0),(5,vI 0)] ?_;obtain ⟨o01,ho01,hMl⟩:=zB N;refine zD8 sizes ([]:List zE) 0 o01 ho01 iR h h1 (fun _ _ _ h=>h) (fun _ _ h=>h) ?_ ?_
 · intro I011 out1 p2 c2 cs1 heq1 le11 h4;subst o01;refine zR<|wH [2,3] rfl<|xG<|yV 0 rfl ?_;intro I012 le12 hl07;have h18:=SL.of_frozen hl07 le12 h4;obtain rfl:=zC hMl;exact xA ⟨_,_,(.tmp rfl (.tmp rfl ResV.nil)),zQ,⟨_,_,rfl,rfl,h18,rfl⟩⟩
 intro r0 I9 hs9 m9 heq9 le9 hrs9;subst heq9;refine zV<|zG ?_;obtain rfl:=zC hMl;exact xA hrs9
def zBN (b0:Nat) (r:zN×zM):KT:=fun kk I' hs' v=>
  ∃ v0 k0,hs'=[.blk b0 ⟨k0⟩]∧v=tupV [v0]∧(∃ cs,v0=.agg ⟨cs⟩∧Rp.rep I' cs r.1)∧Rp.rep I' k0 r.2
def oI (y1:(List zE)) (Body2:List zP) (n0:Int) (x6:zM):Option ((List zP×zM)):=do
 if (decide (n0 < 5)) then
  let (y7,y8)←fF x6 (y1.length:Int)
  let y9←kI
  let (y11,y12)←oW y9 (zN.mk y1 ([y7]:List zP))
  if y12 then
   let l←app 152 Body2 ([y7]:List zP)
   pure (l,y8)
  else
   oI y1 Body2 (W (n0 + 1)) y8
 else
  pure (Body2,x6)
 partial_fixpoint
theorem zEY (y1:(List zE)) (Body2:List zP):∀ (n0:Int) (x6:zM) (o:(List zP×zM)),oI y1 Body2 n0 x6=some o→∀ {B}{I0 I:Imm}{Q}{i:Int}{x:zN}{k0:Int}{r01:Nat}{b:Nat}{p1 c1 p2 c2 p7 c7}{b1:Nat}{p14 c14 cs2 p15 c15},I0.le I→(S4 I p7 y1 c7)→(S4 I p1 x.Nest c1)→(S4 I p2 x.Body c2)→(RL I cs2 Body2)→(S4 I p15 x6.b c15)→NG Q→NO Q→(∀ (I':Imm) (Body3:List zP) (x7:zM) (p16:Option Addr) (c16:Nat) (cs3:List Value) (p17:Option Addr) (c17:Nat),o=(Body3,x7)→I0.le I'→(RL I' cs3 Body3)→(S4 I' p17 x7.b c17)→T 81 B Q (.exit 4) I' [hO zP (vS p16 Body3 c16) cs3,hB r01 (cRd x7 p17 c17),hB b1 [vS p7 y1 c7,vS p16 Body3 c16],hB b (cPart x p1 c1 p2 c2)] [(0,vP r01 0),(2,vP b 0),(3,vI i),(4,vP b1 0),(5,vI k0)])→J Tryz.prog 81 B (nav (bodyOf Tryz.f120) [1,0,1,0,0,1,0,0,1,0,1,0,0,1,0,0,1,0]) Q I [hO zP (vS p14 Body2 c14) cs2,hB r01 (cRd x6 p15 c15),hB b1 [vS p7 y1 c7,vS p14 Body2 c14],hB b (cPart x p1 c1 p2 c2)] [(0,vP r01 0),(2,vP b 0),(3,vI i),(4,vP b1 0),(5,vI k0),(6,vI n0)]:=by
 refine oI.partial_correctness y1 Body2 _ fun self ih n0 x6 o N B I0 I Q i x k0 r01 b p1 c1 p2 c2 p7 c7 b1 p14 c14 cs2 p15 c15 H h7 h1 h2 h20 h21 hg ho hx=>yQ hg ho<|zZ<|yF [31] rfl<|zI<|yC N ?_ ?_
 · intro hc2 N;refine zS<|zY<|yG<|yD<|yE 4 [2] [34,37] rfl<|sK (zX [1,0,2,3] (hs':=[hB r01 (cRd x6 p15 c15),hO zP (vS p14 Body2 c14) cs2,hB b1 [vS p7 y1 c7,vS p14 Body2 c14],hB b (cPart x p1 c1 p2 c2)])) ?_;obtain ⟨⟨y7,y8⟩,hy2,N⟩:=zB N;refine sJ (zGq x6 (y1.length:Int) _ hy2 h21) rfl ?_;rintro I03 hs2 v2 k2 le3 - ⟨v04,kk2,rfl,rfl,⟨cs4,rfl,h24⟩,h25⟩ -;have ⟨h20,h7,h1,h2,H⟩:=m5 le3 h20 h7 h1 h2 H;obtain ⟨p18,c18,p19,c19,p20,c20,p21,c21,rfl,h26,h27,h28,h29⟩:=qH h24;obtain ⟨p22,c22,rfl,h30⟩:=yA h25;refine wY [vT ([]),z0,vI 0,vI 0,z0,vI 0,vT ([]),z0,z0] ?_;intro b3 hb3;refine xJ 0 (cStmt y7 p18 c18 p19 c19 p20 c20 p21 c21) rfl<|yB rfl<|zI<|zZ ?_;obtain ⟨y9,hy3,N⟩:=zB N;obtain ⟨⟨y11,y12⟩,hy4,N⟩:=zB N;refine wK [.x (eS y9),.p (vP b1 0) [],.p (vS p7 y1 c7) [3],.p (vA (cStmt y7 p18 c18 p19 c19 p20 c20 p21 c21)) [0],.x (fun I' v hx=>∃ b4,v=vS (some ⟨b4,0,none⟩) ([y7]:List zP) 1∧hx=[]∧(SL I' (vS (some ⟨b4,0,none⟩) ([y7]:List zP) 1) ([y7]:List zP))),.x (fun I' v hx=>∃ b41,v=vA [vS p7 y1 c7,vS (some ⟨b41,0,none⟩) ([y7]:List zP) 1]∧hx=[]∧(SL I' (vS (some ⟨b41,0,none⟩) ([y7]:List zP) 1) ([y7]:List zP))),.q (.tuple ⟨[vI y11,.bool y12]⟩),.p (.tuple ⟨[vI y11,.bool y12]⟩) [],.p (vI y11) [],.p (.bool y12) [],.p (vI y11) []] [[],[],[(1,false)],[],[(3,false)],[(2,false),(4,false)],[(0,false),(5,false)],[(6,false)],[(7,false)],[(7,false)],[(8,false)]] [hB b3 (cStmt y7 p18 c18 p19 c19 p20 c20 p21 c21),hB r01 (cRd y8 p22 c22),hO zP (vS p14 Body2 c14) cs2,hB b1 [vS p7 y1 c7,vS p14 Body2 c14],hB b (cPart x p1 c1 p2 c2)] [] [(9,false)] (zX [0,1,2,3,4]) ?_ ?_
   · refine Ox ?_<|Op<|Op<|Op<|Ox ?_<|Ox ?_<|Oq ?_<|Op<|Op<|Op<|Op<|On
     · intro I1 hf le1;refine I_h [] ?_;have H:=iS I1;refine xP (eF  _ hy3 ) ?_;rintro I04 hs2 v2 k2 le4 - ⟨v010,rfl,rfl,h31⟩ -;have H:=H.trans le4;obtain ⟨p23,c23,rfl⟩:=h31.form;exact yK [] H ⟨_,_,rfl,rfl,h31⟩
     · intro I1 hf le1;refine yR [43] rfl ?_;have H:=iS I1;have ⟨h26,h27,h28,h29⟩:=m4 le1 h26 h27 h28 h29;refine nH (rc y7 (wU ⟨_,_,_,_,rfl,h26,h27,h28,h29⟩) rN) ?_;intro b4 I05 le5 h33;have H:=H.trans le5;exact yK [] H ⟨_,rfl,rfl,h33⟩
     · rintro I1 hf le1 _ _ ⟨rfl,rfl⟩ _ _ ⟨b4,rfl,rfl,h33⟩;refine yR [42,44] rfl ?_;exact oY 6 [(45,vA [vS p7 y1 c7,vS (some ⟨b4,0,none⟩) ([y7]:List zP) 1])]<|yK [] iR ⟨_,rfl,rfl,h33⟩
     rintro I1 hf le1 _ _ ⟨p23,c23,rfl,rfl,h31⟩ _ _ ⟨b41,rfl,rfl,h331⟩;refine yR [40,45] rfl ?_;have H:=iS I1;have h7:=h7.mono le1;refine xP (zAS y9 (zN.mk y1 ([y7]:List zP)) _ hy4 h31 h7 h331) ?_;rintro I06 hs2 v2 k2 le6 - ⟨v011,v012,rfl,rfl,rfl,rfl⟩ -;have H:=H.trans le6;exact xE H
   intro I07 le7;refine yR [0,2,3,4,5,6,7,48] rfl ?_;have ⟨h26,h27,h28,h29,h30,h20⟩:=m6 le7 h26 h27 h28 h29 h30 h20;have ⟨h7,h1,h2,H⟩:=m4 le7 h7 h1 h2 H;refine yI [] [9] rfl<|wH [49] rfl<|zI<|yC N ?_ ?_
   · intro hc3 N;refine yD<|qL 3 [3,0] [(51,vS p14 Body2 c14),(52,vA (cStmt y7 p18 c18 p19 c19 p20 c20 p21 c21))]<|uN (cStmt y7 p18 c18 p19 c19 p20 c20 p21 c21) zP ?_;intro b5 hb5;have h36:RL I07 (cStmt y7 p18 c18 p19 c19 p20 c20 p21 c21) ([y7]:List zP):=⟨(cStmt y7 p18 c18 p19 c19 p20 c20 p21 c21),_,rfl,rfl,(wU ⟨_,_,_,_,rfl,h26,h27,h28,h29⟩),rfl⟩;obtain ⟨l,hy5,N⟩:=zB N;refine rX 48 9 3 rfl rfl rfl h20 (.inr ⟨0,rfl⟩) h36 hy5 ?_;intro p24 c24 cs5 h37;exact sK (zX [1,2,3,4,5] (hs':=[hB b3 (cStmt y7 p18 c18 p19 c19 p20 c20 p21 c21),hB r01 (cRd y8 p22 c22),hO zP (vS p24 l c24) cs5,hB b1 [vS p7 y1 c7,vS p14 Body2 c14],hB b (cPart x p1 c1 p2 c2)]))<|yE 6 [] [55] rfl<|xJ 3 [vS p7 y1 c7,vS p24 l c24] rfl<|yB rfl<|zI<|zEr<|zH6 rfl<|jK<|jK<|xY (zW [2,1,3,4] rfl (by decide))<|yN<|hx _ _ _ _ _ _ _ _ (zC N).symm H h37 h30
   intro hc3 N;exact zS<|zO<|zI<|zK<|yI [] [6] rfl<|yO<|jG (zW [2,1,3,4] rfl (by decide))<|nF<|ih (W (n0 + 1)) y8 _ N H h7 h1 h2 h20 h30 hg ho hx
 intro hc2 N;exact wJ<|yN<|hx _ _ _ _ _ _ _ _ (zC N).symm H h20 h21
def oJ (y1:(List zE)) (k0:Int) (Body:List zP) (x4:zM):Option ((List zP×zM)):=do
 if (decide (k0 > 0)) then
  let (Body3,x7)←oI y1 Body 0 x4
  oJ y1 (W (k0 - 1)) Body3 x7
 else
  pure (Body,x4)
 partial_fixpoint
theorem zEZ (y1:(List zE)):∀ (k0:Int) (Body:List zP) (x4:zM) (o:(List zP×zM)),oJ y1 k0 Body x4=some o→∀ {B}{I0 I:Imm}{Q}{i:Int}{x:zN}{r01:Nat}{b:Nat}{p1 c1 p2 c2 p7 c7}{b1:Nat}{p10 c10 cs p11 c11},I0.le I→(S4 I p7 y1 c7)→(S4 I p1 x.Nest c1)→(S4 I p2 x.Body c2)→(RL I cs Body)→(S4 I p11 x4.b c11)→NG Q→NO Q→(∀ (I':Imm) (Body1:List zP) (x5:zM) (p12:Option Addr) (c12:Nat) (cs1:List Value) (p13:Option Addr) (c13:Nat),o=(Body1,x5)→I0.le I'→(RL I' cs1 Body1)→(S4 I' p13 x5.b c13)→T 81 B Q (.exit 2) I' [hO zP (vS p12 Body1 c12) cs1,hB r01 (cRd x5 p13 c13),hB b1 [vS p7 y1 c7,vS p12 Body1 c12],hB b (cPart x p1 c1 p2 c2)] [(0,vP r01 0),(2,vP b 0),(3,vI i),(4,vP b1 0)])→J Tryz.prog 81 B (nav (bodyOf Tryz.f120) [1,0,1,0,0,1,0,0,1,0,1,0]) Q I [hO zP (vS p10 Body c10) cs,hB r01 (cRd x4 p11 c11),hB b1 [vS p7 y1 c7,vS p10 Body c10],hB b (cPart x p1 c1 p2 c2)] [(0,vP r01 0),(2,vP b 0),(3,vI i),(4,vP b1 0),(5,vI k0)]:=by
 refine oJ.partial_correctness y1 _ fun self ih k0 Body x4 o N B I0 I Q i x r01 b p1 c1 p2 c2 p7 c7 b1 p10 c10 cs p11 c11 H h7 h1 h2 h16 h17 hg ho hx=>yQ hg ho<|zZ<|yF [27] rfl<|zI<|yC N ?_ ?_
 · intro hc1 N;refine zS<|zY<|yG<|yF [6] rfl<|xW<|qW [(0,vP r01 0),(2,vP b 0),(3,vI i),(4,vP b1 0),(5,vI k0),(6,vI 0)] ?_;obtain ⟨o0,ho0,hMl⟩:=zB N;refine zEY y1 Body 0 x4 o0 ho0 iR h7 h1 h2 h16 h17 (fun _ _ _ h=>hg _ _ _ h) (fun _ _ h=>ho _ _ h) ?_;intro I08 Body3 x7 p16 c16 cs3 p17 c17 heq le8 h22 h23;subst o0;have ⟨h7,h1,h2,H⟩:=m4 le8 h7 h1 h2 H;exact zR<|zO<|zI<|zK<|yI [] [5] rfl<|yO<|nF<|ih (W (k0 - 1)) Body3 x7 _ hMl H h7 h1 h2 h22 h23 hg ho hx
 intro hc1 N;exact wJ<|yN<|hx _ _ _ _ _ _ _ _ (zC N).symm H h16 h17
def oK (x:zN) (i:Int) (x1:zM):Option (Out (zN×zM) (zN×zM)):=do
 if (decide (i < 4)) then
  let (y1,y2)←fE x1
  let (y4,y5)←yU y2 ([1,2,1,3]:List Int)
  let (Body1,x5)←oJ y1 y4 ([]:List zP) y5
  let y13←kI
  let (y15,y16)←oW y13 (zN.mk y1 Body1)
  let t66←(do
    if y16 then
     pure (decide (y15 ≤ 40))
    else
     pure false
      : Option Bool)
  if t66 then
   pure (.ret ((zN.mk y1 Body1),x5))
  else
   oK x (W (i + 1)) x5
 else
  pure (.done (x,x1))
 partial_fixpoint
theorem zE0 (x:zN):∀ (i:Int) (x1:zM) (o:Out (zN×zM) (zN×zM)),oK x i x1=some o→∀ {B}{I0 I:Imm}{Q}  {r01:Nat}{b:Nat}{p1 c1 p2 c2 p3 c3},I0.le I→(S4 I p1 x.Nest c1)→(S4 I p2 x.Body c2)→(S4 I p3 x1.b c3)→NG Q→NO Q→(∀ (I':Imm) (x2:zN) (x3:zM) (p4:Option Addr) (c4:Nat) (p5:Option Addr) (c5:Nat) (p6:Option Addr) (c6:Nat),o=(.done (x2,x3))→I0.le I'→(S4 I' p4 x2.Nest c4)→(S4 I' p5 x2.Body c5)→(S4 I' p6 x3.b c6)→T 81 B Q (.exit 0) I' [hB b (cPart x2 p4 c4 p5 c5),hB r01 (cRd x3 p6 c6)] [(2,vP b 0)])→(∀ r I' hs' m',o=(.ret r)→I0.le I'→RS Tryz.prog Tryz.f120 B (zBN r01 r) I' hs' m'→T 81 B Q .ret I' hs' m')→J Tryz.prog 81 B (nav (bodyOf Tryz.f120) [1,0,1,0]) Q I [hB b (cPart x p1 c1 p2 c2),hB r01 (cRd x1 p3 c3)] [(0,vP r01 0),(2,vP b 0),(3,vI i)]:=by
 refine oK.partial_correctness x _ fun self ih i x1 o N B I0 I Q r01 b p1 c1 p2 c2 p3 c3 H h1 h2 h3 hg ho hx hr=>yQ hg ho<|zZ<|yF [17] rfl<|zI<|yC N ?_ ?_
 · intro hc N;refine zS<|zY<|yG<|yD<|yE 1 [] [20] rfl<|sK (zX [1,0] (hs':=[hB r01 (cRd x1 p3 c3),hB b (cPart x p1 c1 p2 c2)])) ?_;obtain ⟨⟨y1,y2⟩,hy,N⟩:=zB N;refine sJ (zGo x1 _ hy h3) rfl ?_;rintro I0 hs2 v2 k2 le - ⟨v0,kk,rfl,rfl,h7,h8⟩ -;have ⟨h1,h2,H⟩:=m3 le h1 h2 H;obtain ⟨p7,c7,rfl⟩:=h7.form;obtain ⟨p8,c8,rfl,h9⟩:=yA h8;refine yE 3 [] [22] rfl<|wY zTwo ?_;intro b1 hb1;refine xJ 0 [vS p7 y1 c7,z0] rfl<|yB rfl<|zY<|yD<|yE 1 [] [23] rfl<|nH (rI [1,2,1,3]) ?_;intro b2 I01 le1 h11;have ⟨h7,h9,h1,h2,H⟩:=m5 le1 h7 h9 h1 h2 H;refine sK (zX [1,0,2] (hs':=[hB r01 (cRd y2 p8 c8),hB b1 [vS p7 y1 c7,z0],hB b (cPart x p1 c1 p2 c2)])) ?_;obtain ⟨⟨y4,y5⟩,hy1,N⟩:=zB N;refine sJ (xB y2 ([1,2,1,3]:List Int) _ hy1 h9 h11) rfl ?_;rintro I02 hs2 v2 k2 le2 - ⟨v02,kk1,rfl,rfl,rfl,h13⟩ -;have ⟨h7,h1,h2,H⟩:=m4 le2 h7 h1 h2 H;obtain ⟨p9,c9,rfl,h14⟩:=yA h13;refine yI [] [5] rfl<|xW<|qW [(0,vP r01 0),(2,vP b 0),(3,vI i),(4,vP b1 0),(5,vI y4)]<|dR zP fun h15=>?_;obtain ⟨o01,ho01,hMl1⟩:=zB N;refine zEZ y1 y4 ([]:List zP) y5 o01 ho01 iR h7 h1 h2 h15 h14 (fun _ _ _ h=>hg _ _ _ h) (fun _ _ h=>ho _ _ h) ?_;intro I09 Body1 x5 p12 c12 cs1 p13 c13 heq1 le9 h18 h19;subst o01;have ⟨h7,h1,h2,H⟩:=m4 le9 h7 h1 h2 H;refine zR<|zY<|pU 0 rfl ?_;intro I010 le10 hl02;have h38:=SL.of_frozen hl02 le10 h18;have ⟨h19,h7,h1,h2,H⟩:=m5 le10 h19 h7 h1 h2 H;obtain ⟨y13,hy6,N⟩:=zB hMl1;obtain ⟨⟨y15,y16⟩,hy7,N⟩:=zB N;refine wK [.x (eS y13),.p (vA [vS p7 y1 c7,vS p12 Body1 c12]) [1],.q (.tuple ⟨[vI y15,.bool y16]⟩),.p (.tuple ⟨[vI y15,.bool y16]⟩) [],.p (vI y15) [],.p (.bool y16) [],.p (vI y15) []] [[],[],[(0,false),(1,false)],[(2,false)],[(3,false)],[(3,false)],[(4,false)]] [hB r01 (cRd x5 p13 c13),hB b1 [vS p7 y1 c7,vS p12 Body1 c12],hB b (cPart x p1 c1 p2 c2)] [] [(5,false),(6,false)] (zX [0,1,2]) ?_ ?_
   · refine Ox ?_<|Op<|Oq ?_<|Op<|Op<|Op<|Op<|On
     · intro I1 hf le1;refine I_h [] ?_;have H:=iS I1;refine xP (eF  _ hy6 ) ?_;rintro I011 hs2 v2 k2 le11 - ⟨v013,rfl,rfl,h39⟩ -;have H:=H.trans le11;obtain ⟨p25,c25,rfl⟩:=h39.form;exact yK [] H ⟨_,_,rfl,rfl,h39⟩
     rintro I1 hf le1 _ _ ⟨p25,c25,rfl,rfl,h39⟩;refine yR [57,58] rfl ?_;have H:=iS I1;have ⟨h7,h38⟩:=m2 le1 h7 h38;refine xP (zAS y13 (zN.mk y1 Body1) _ hy7 h39 h7 h38) ?_;rintro I012 hs2 v2 k2 le12 - ⟨v014,v015,rfl,rfl,rfl,rfl⟩ -;have H:=H.trans le12;exact xE H
   intro I013 le13;refine yR [0,2,3,4,10,61] rfl ?_;have ⟨h19,h7,h38,h1,h2,H⟩:=m6 le13 h19 h7 h38 h1 h2 H;refine yI [] [11] rfl<|zI<|zZ ?_;refine wT N [hB r01 (cRd x5 p13 c13),hB b1 [vS p7 y1 c7,vS p12 Body1 c12],hB b (cPart x p1 c1 p2 c2)] (fun t66=>[(0,vP r01 0),(2,vP b 0),(3,vI i),(4,vP b1 0),(66,.bool t66)]) (fun o02 ho02=>?_) ?_
   · have H:=iS I013;refine zK<|yE 2 [] [63] rfl<|xZ [63] ho02 ?_ ?_
     · intro hc4 N;exact yI [] [66] rfl<|yN<|zT (ct N H)
     intro hc4 N;exact wI [] [(66,vF)]<|yN<|zT (ct N H)
   intro t66 I014 le14 hMc;have ⟨h19,h7,h38,h1,h2,H⟩:=m6 le14 h19 h7 h38 h1 h2 H;refine zI<|yC hMc ?_ ?_
   · intro hc5 N;exact yD<|qL 1 [1] [(67,vA [vS p7 y1 c7,vS p12 Body1 c12])]<|xJ 2 [vS p7 y1 c7,vS p12 Body1 c12] rfl<|yB rfl<|xG<|zV<|zG<|zG<|hr _ _ _ _ (zC N).symm H ⟨_,_,(.cell 2 rfl rfl (by kernel_rfl) ResV.nil),(zW [0] rfl (by decide)),⟨_,_,rfl,rfl,⟨_,rfl,(qY ⟨_,_,rfl,h7,h38⟩)⟩,(yT ⟨_,rfl,h19⟩)⟩⟩
   intro hc5 N;exact zS<|zO<|zI<|zK<|yI [] [3] rfl<|yO<|jG (zW [2,0] rfl (by decide))<|nF<|ih (W (i + 1)) x5 _ N H h1 h2 h19 hg ho hx hr
 intro hc N;exact wJ<|yN<|hx _ _ _ _ _ _ _ _ _ (zC N).symm H h1 h2 h3
def fH (r0:zM):Option (zN×zM):=do
 match←oK (zN.mk ([]:List zE) ([]:List zP)) 0 r0 with
 | .ret r0=>pure r0
 | .done (x2,x3) =>
  let (y18,y19)←mC (⟨[65,91,105,93,61,40,65,91,105,93,43,123,105,125,41]⟩:Str)
  let (y21,y22)←gR ([4]:List Int)
  pure ((zN.mk y21 ([y18]:List zP)),x3)
theorem zGs:∀ r0 r,fH r0=some r→∀ {I:Imm}{r01:Nat}{p c},(S4 I p r0.b c)→RT 120 [vP r01 0] I [hB r01 (cRd r0 p c)] (zBN r01 r):=by
 intro r0 r N I r01 p c h;unfold fH at N;refine yL Tryz.func120 fun B=>yD<|wY zTwo ?_;intro b hb;refine yB rfl<|zY<|yF [3] rfl<|xW<|qW [(0,vP r01 0),(2,vP b 0),(3,vI 0)] ?_;obtain ⟨o03,ho03,hMl2⟩:=zB N;refine zE0 (zN.mk ([]:List zE) ([]:List zP)) 0 r0 o03 ho03 iR (SL.nil _) (SL.nil _) h (fun _ _ _ h=>h) (fun _ _ h=>h) ?_ ?_
 · intro I015 x2 x3 p4 c4 p5 c5 p6 c6 heq3 le15 h4 h5 h6;subst o03;refine zR<|zY<|zK ?_;obtain ⟨⟨y18,y19⟩,hy8,N⟩:=zB hMl2;refine xP (zAj (⟨[65,91,105,93,61,40,65,91,105,93,43,123,105,125,41]⟩:Str) _ hy8 ) ?_;rintro I016 hs2 v2 k2 le16 - ⟨v016,v017,rfl,rfl,⟨cs6,rfl,h42⟩,rfl⟩ -;have h6:=h6.mono le16;obtain ⟨p26,c26,p27,c27,p28,c28,p29,c29,rfl,h44,h45,h46,h47⟩:=qH h42;refine yE 4 [] [70,71] rfl<|wY [vT ([]),z0,vI 0,vI 0,z0,vI 0,vT ([]),z0,z0] ?_;intro b6 hb6;refine xJ 0 (cStmt y18 p26 c26 p27 c27 p28 c28 p29 c29) rfl<|wI [] []<|yX<|nH (rI [4]) ?_;intro b7 I017 le17 h49;have ⟨h44,h45,h46,h47,h6⟩:=m5 le17 h44 h45 h46 h47 h6;obtain ⟨⟨y21,y22⟩,hy9,N⟩:=zB N;refine xP (zGC ([4]:List Int) _ hy9 h49) ?_;rintro I018 hs2 v2 k2 le18 - ⟨v022,v023,rfl,rfl,h50,rfl⟩ -;have ⟨h44,h45,h46,h47,h6⟩:=m5 le18 h44 h45 h46 h47 h6;obtain ⟨p30,c30,rfl⟩:=h50.form;refine yI [] [14] rfl<|yX<|qL 2 [0] [(77,vS p30 y21 c30),(78,vA (cStmt y18 p26 c26 p27 c27 p28 c28 p29 c29))]<|uN (cStmt y18 p26 c26 p27 c27 p28 c28 p29 c29) zP ?_;intro b8 hb8;have h52:RL I018 (cStmt y18 p26 c26 p27 c27 p28 c28 p29 c29) ([y18]:List zP):=⟨(cStmt y18 p26 c26 p27 c27 p28 c28 p29 c29),_,rfl,rfl,(wU ⟨_,_,_,_,rfl,h44,h45,h46,h47⟩),rfl⟩;refine yE 4 [] [80] rfl<|xJ 2 [vS p30 y21 c30,vS (some ⟨b8,0,none⟩) ([y18]:List zP) 1] rfl<|yB rfl<|xG<|yV 0 rfl ?_;intro I019 le19 hl04;have h53:=SL.of_frozen hl04 le19 h52;have ⟨h50,h6⟩:=m2 le19 h50 h6;obtain rfl:=zC N;exact xA ⟨_,_,(.cell 1 rfl rfl (by kernel_rfl) ResV.nil),(zW [2] rfl (by decide)),⟨_,_,rfl,rfl,⟨_,rfl,(qY ⟨_,_,rfl,h50,h53⟩)⟩,(yT ⟨_,rfl,h6⟩)⟩⟩
 intro r0 I9 hs9 m9 heq9 le9 hrs9;subst heq9;refine zV<|zG ?_;obtain rfl:=zC hMl2;exact xA hrs9
def zFU (b0:Nat) (r:zD×zM):KT:=fun kk I' hs' v=>
  ∃ v0 k0,hs'=[.blk b0 ⟨k0⟩]∧v=tupV [v0]∧(∃ cs,v0=.agg ⟨cs⟩∧Rp.rep I' cs r.1)∧Rp.rep I' k0 r.2
def oL (i:Int) (Parts:List zN) (x:zM):Option ((List zN×zM)):=do
 if (decide (i > 0)) then
  let (y5,y6)←fH x
  let l←app 48 Parts ([y5]:List zN)
  oL (W (i - 1)) l y6
 else
  pure (Parts,x)
 partial_fixpoint
theorem zE1 :∀ (i:Int) (Parts:List zN) (x:zM) (o:(List zN×zM)),oL i Parts x=some o→∀ {B}{I0 I:Imm}{Q}{y:(List zF)}{r01:Nat}{b:Nat}{p1 c1}{b1:Nat}{p3 c3 cs p4 c4},I0.le I→(S4 I p1 y c1)→(RL I cs Parts)→(S4 I p4 x.b c4)→NG Q→NO Q→(∀ (I':Imm) (Parts1:List zN) (x1:zM) (p5:Option Addr) (c5:Nat) (cs1:List Value) (p6:Option Addr) (c6:Nat),o=(Parts1,x1)→I0.le I'→(RL I' cs1 Parts1)→(S4 I' p6 x1.b c6)→T 29 B Q (.exit 0) I' [hO zN (vS p5 Parts1 c5) cs1,hB r01 (cRd x1 p6 c6),hB b1 [vS p1 y c1,vS p5 Parts1 c5],hB b zTwo] [(2,vP b 0),(3,vP b1 0)])→J Tryz.prog 29 B (nav (bodyOf Tryz.f59) [1,1,0,1,0]) Q I [hO zN (vS p3 Parts c3) cs,hB r01 (cRd x p4 c4),hB b1 [vS p1 y c1,vS p3 Parts c3],hB b zTwo] [(0,vP r01 0),(2,vP b 0),(3,vP b1 0),(4,vI i)]:=by
 refine oL.partial_correctness  _ fun self ih i Parts x o N B I0 I Q y r01 b p1 c1 b1 p3 c3 cs p4 c4 H h1 h8 h9 hg ho hx=>yQ hg ho<|zZ<|yF [11] rfl<|zI<|yC N ?_ ?_
 · intro hc N;refine zS<|zY<|yG ?_;obtain ⟨⟨y5,y6⟩,hy2,N⟩:=zB N;obtain ⟨l,hy3,N⟩:=zB N;refine wK [.p (vP b1 1) [],.p (vS p3 Parts c3) [0],.p (vP r01 0) [],.x (fun I' v hx=>∃ p7 c7 p8 c8 p9 c9,v=vA (cPart y5 p7 c7 p8 c8)∧hx=[hB r01 (cRd y6 p9 c9)]∧(S4 I' p7 y5.Nest c7)∧(S4 I' p8 y5.Body c8)∧(S4 I' p9 y6.b c9)),.x (fun I' v hx=>∃ b3,v=vS (some ⟨b3,0,none⟩) ([y5]:List zN) 1∧hx=[]∧(SL I' (vS (some ⟨b3,0,none⟩) ([y5]:List zN) 1) ([y5]:List zN))),.x (fun I' v hx=>∃ p10 c10 cs3,v=vS p10 l c10∧hx=[hO zN (vS p10 l c10) cs3]∧(RL I' cs3 l))] [[],[(0,false)],[],[(2,false),(8,true)],[(3,false)],[(1,false),(4,false),(9,true)]] [hB b1 [vS p1 y c1,vS p3 Parts c3],hB b zTwo] [[hB r01 (cRd x p4 c4)],[hO zN (vS p3 Parts c3) cs]] [(3,true),(5,true)] (zX [2,3,1,0]) ?_ ?_
   · refine Op<|Op<|Op<|Ox ?_<|Ox ?_<|Ox ?_<|On
     · rintro I1 hf le1 _ _ ⟨rfl,rfl⟩ _ _ rfl;refine yR [16] rfl ?_;have H:=iS I1;have h9:=h9.mono le1;refine sJ (zGs x _ hy2 h9) rfl ?_;rintro I03 hs2 v2 k2 le3 - ⟨v03,kk1,rfl,rfl,⟨cs2,rfl,h12⟩,h13⟩ -;have H:=H.trans le3;obtain ⟨p7,c7,p8,c8,rfl,h14,h15⟩:=wL h12;obtain ⟨p9,c9,rfl,h16⟩:=yA h13;exact yK [hB r01 (cRd y6 p9 c9)] H ⟨_,_,_,_,_,_,rfl,rfl,h14,h15,h16⟩
     · rintro I1 hf le1 _ _ ⟨p7,c7,p8,c8,p9,c9,rfl,rfl,h14,h15,h16⟩;refine yR [17] rfl ?_;have H:=iS I1;refine nH (rc y5 (qY ⟨_,_,rfl,h14,h15⟩) rN) ?_;intro b3 I04 le4 h18;have H:=H.trans le4;exact yK [] H ⟨_,rfl,rfl,h18⟩
     rintro I1 hf le1 _ _ ⟨rfl,rfl⟩ _ _ ⟨b3,rfl,rfl,h18⟩ _ _ rfl;refine yR [15,18] rfl ?_;have h8:=iM le1 h8;obtain ⟨ccs,k0,k01⟩:=h18;have h18:SL I1 (vS (some ⟨b3,0,none⟩) ([y5]:List zN) 1) ([y5]:List zN):=⟨_,k0,k01⟩;exact rX 36 2 0 rfl rfl rfl h8 (.inl k0) k01 hy3 fun p10 c10 cs3 h19=>vK (hs':=(hO zN (vS p10 l c10) cs3::hB b1 [vS p1 y c1,vS p3 Parts c3]::hB b zTwo::hf)) rfl<|yK [hO zN (vS p10 l c10) cs3] iR ⟨_,_,_,rfl,rfl,h19⟩
   rintro I05 le5 _ _ ⟨p7,c7,p8,c8,p9,c9,rfl,rfl,h14,h15,h16⟩ _ _ ⟨p10,c10,cs3,rfl,rfl,h19⟩;refine yR [0,2,3,4,19] rfl ?_;have ⟨h1,H⟩:=m2 le5 h1 H;exact yE 7 [] [20] rfl<|xJ 2 [vS p1 y c1,vS p10 l c10] rfl<|yB rfl<|zO<|zI<|zK<|yI [] [4] rfl<|yO<|nF<|ih (W (i - 1)) l y6 _ N H h1 h19 h16 hg ho hx
 intro hc N;exact wJ<|yN<|hx _ _ _ _ _ _ _ _ (zC N).symm H h8 h9
def fI (r0:zM):Option (zD×zM):=do
 let y←kI
 let (y2,y3)←yU r0 ([1,2,1,3]:List Int)
 let (Parts1,x1)←oL y2 ([]:List zN) y3
 let y7←vR (zD.mk y Parts1)
 if y7 then
  pure ((zD.mk y Parts1),x1)
 else
  let y8←kI
  let l1←slc Parts1 0 1
  pure ((zD.mk y8 l1),x1)
theorem zGt:∀ r0 r,fI r0=some r→∀ {I:Imm}{r01:Nat}{p c},(S4 I p r0.b c)→RT 59 [vP r01 0] I [hB r01 (cRd r0 p c)] (zFU r01 r):=by
 intro r0 r N I r01 p c h;unfold fI at N;refine yL Tryz.func59 fun B=>?_;have H:=iS I;refine yD<|wY zTwo ?_;intro b hb;refine yB rfl<|yX<|bE N fun y hy N=>xP (eF  _ hy ) ?_;rintro I0 hs2 v2 k2 le - ⟨v0,rfl,rfl,h1⟩ -;have ⟨h,H⟩:=m2 le h H;obtain ⟨p1,c1,rfl⟩:=h1.form;refine yE 2 [] [6] rfl<|wY zTwo ?_;intro b1 hb1;refine xJ 0 [vS p1 y c1,z0] rfl<|yB rfl<|zY<|yD<|yE 1 [] [7] rfl<|nH (rI [1,2,1,3]) ?_;intro b2 I01 le1 h3;have ⟨h1,h,H⟩:=m3 le1 h1 h H;refine sK (zX [2,0,1] (hs':=[hB r01 (cRd r0 p c),hB b1 [vS p1 y c1,z0],hB b zTwo])) ?_;obtain ⟨⟨y2,y3⟩,hy1,N⟩:=zB N;refine sJ (xB r0 ([1,2,1,3]:List Int) _ hy1 h h3) rfl ?_;rintro I02 hs2 v2 k2 le2 - ⟨v01,kk,rfl,rfl,rfl,h5⟩ -;have ⟨h1,H⟩:=m2 le2 h1 H;obtain ⟨p2,c2,rfl,h6⟩:=yA h5;refine yI [] [4] rfl<|xW<|qW [(0,vP r01 0),(2,vP b 0),(3,vP b1 0),(4,vI y2)]<|dR zN fun h7=>?_;obtain ⟨o0,ho0,hMl⟩:=zB N;refine zE1 y2 ([]:List zN) y3 o0 ho0 iR h1 h7 h6 (fun _ _ _ h=>h) (fun _ _ h=>h) ?_;intro I06 Parts1 x1 p5 c5 cs1 p6 c6 heq le6 h10 h11;subst o0;have ⟨h1,H⟩:=m2 le6 h1 H;refine zR<|zY<|yD<|qL 1 [2] [(21,vA [vS p1 y c1,vS p5 Parts1 c5])]<|xO 0 rfl ?_;intro I07 le7 hl02;have h20:=SL.of_frozen hl02 le7 h10;have ⟨h1,h11,H⟩:=m3 le7 h1 h11 H;obtain ⟨y7,hy4,N⟩:=zB hMl;refine uH (mT (zD.mk y Parts1) _ hy4 h1 h20) ?_;intro I08 le8;have ⟨h11,h1,h20,H⟩:=m4 le8 h11 h1 h20 H;refine yB rfl<|zI<|yC N ?_ ?_
 · intro hc1 N;refine yD<|qL 1 [1] [(23,vA [vS p1 y c1,vS p5 Parts1 c5])]<|xJ 2 [vS p1 y c1,vS p5 Parts1 c5] rfl<|yB rfl<|xG<|zG ?_;obtain rfl:=zC N;exact xA ⟨_,_,(.cell 2 rfl rfl (by kernel_rfl) ResV.nil),(zW [0] rfl (by decide)),⟨_,_,rfl,rfl,⟨_,rfl,(uB ⟨_,_,rfl,h1,h20⟩)⟩,(yT ⟨_,rfl,h11⟩)⟩⟩
 intro hc1 N;refine zS<|zI<|zZ ?_;obtain ⟨y8,hy5,N⟩:=zB N;obtain ⟨l1,hy6,N⟩:=zB N;refine wK [.x (eS y8),.p (vP b1 1) [],.p (vS p5 Parts1 c5) [1],.x (eS l1),.x (fun I' v hx=>∃ p111 c111 p121 c121,v=vA [vS p111 y8 c111,vS p121 l1 c121]∧hx=[]∧(S4 I' p111 y8 c111)∧(S4 I' p121 l1 c121))] [[],[],[(1,false)],[(2,false)],[(0,false),(3,false)]] [hB r01 (cRd x1 p6 c6),hB b1 [vS p1 y c1,vS p5 Parts1 c5],hB b zTwo] [] [(4,false)] (zX [0,1,2]) ?_ ?_
 · refine Ox ?_<|Op<|Op<|Ox ?_<|Ox ?_<|On
   · intro I1 hf le1;refine I_h [] ?_;have H:=iS I1;refine xP (eF  _ hy5 ) ?_;rintro I09 hs2 v2 k2 le9 - ⟨v08,rfl,rfl,h22⟩ -;have H:=H.trans le9;obtain ⟨p11,c11,rfl⟩:=h22.form;exact yK [] H ⟨_,_,rfl,rfl,h22⟩
   · intro I1 hf le1;refine yR [26] rfl ?_;have h20:=h20.mono le1;refine zOQ rfl h20 hy6 ?_;intro v09 h23;obtain ⟨p12,c12,rfl⟩:=h23.form;exact yK [] iR ⟨_,_,rfl,rfl,h23⟩
   rintro I1 hf le1 _ _ ⟨p11,c11,rfl,rfl,h22⟩ _ _ ⟨p12,c12,rfl,rfl,h23⟩;exact yR [24,27] rfl<|oY 5 [(28,vA [vS p11 y8 c11,vS p12 l1 c12])]<|yK [] iR ⟨_,_,_,_,rfl,rfl,h22,h23⟩
 rintro I010 le10 _ _ ⟨p111,c111,p121,c121,rfl,rfl,h221,h231⟩;refine yR [2,28] rfl ?_;have h11:=h11.mono le10;refine xJ 2 [vS p111 y8 c111,vS p121 l1 c121] rfl<|yB rfl<|zI<|yW ?_;obtain rfl:=zC N;exact xA ⟨_,_,(.cell 2 rfl rfl (by kernel_rfl) ResV.nil),(zW [0] rfl (by decide)),⟨_,_,rfl,rfl,⟨_,rfl,(uB ⟨_,_,rfl,h221,h231⟩)⟩,(yT ⟨_,rfl,h11⟩)⟩⟩
def qP (y:(List Str)) (out:List Str) (i:Int):Option (List Str):=do
 if (decide (i < (y.length:Int))) then
  let x←idx y i
  let out2←(do
    if (!(x.l == ([]:List UInt8))) then
     let x1←idx y i
     let out3←app 16 out ([x1]:List Str)
     pure (id out3)
    else
     pure (id out)
      : Option (List Str))
  qP y out2 (W (i + 1))
 else
  pure (id out)
 partial_fixpoint
theorem zCy (y:(List Str)):∀ (out:List Str) (i:Int) (o:List Str),qP y out i=some o→∀ {B}{I0 I:Imm}{Q p c p1 c1 cs},I0.le I→(S4 I p y c)→(RL I cs out)→NG Q→NO Q→(∀ (I':Imm) (out1:List Str) (p2:Option Addr) (c2:Nat) (cs1:List Value),o=out1→I0.le I'→(RL I' cs1 out1)→T 28 B Q (.exit 0) I' [hO Str (vS p2 out1 c2) cs1] [(4,vS p2 out1 c2)])→J Tryz.prog 28 B (nav (bodyOf Tryz.f199) [1,1,1,0,1,0]) Q I [hO Str (vS p1 out c1) cs] [(3,vS p y c),(4,vS p1 out c1),(5,vI i)]:=by
 refine qP.partial_correctness y _ fun self ih out i o N B I0 I Q p c p1 c1 cs H h h2 hg ho hx=>yQ hg ho<|zZ<|yF [12] rfl<|zI<|yC N ?_ ?_
 · intro hc N;refine zS<|zY<|yG<|yD<|yE 2 [] [15,16] rfl<|bE N fun x hy1 N=>xK rfl rfl h hy1 ?_;intro ad ccs hat hrep;obtain rfl:=hrep;refine xF 0 hat [vT x.l] (vT x.l) rfl<|yI [] [19] rfl<|zI ?_;obtain ⟨o0,ho0,hMc⟩:=zB N;refine qA (fun I' hs' m'=>∃ (out2:List Str) (p3:Option Addr) (c3:Nat) (cs2:List Value),o0=out2∧I.le I'∧(RL I' cs2 out2)∧hs'=[hO Str (vS p3 out2 c3) cs2]∧m'=[(3,vS p y c),(4,vS p3 out2 c3),(5,vI i)]) ?_ ?_
   · have H:=iS I;refine yC ho0 ?_ ?_
     · intro hc1 N;refine zK<|yE 3 [] [20,21,22] rfl<|bE N fun x1 hy2 N=>xK rfl rfl h hy2 ?_;intro ad1 ccs1 hat1 hrep1;obtain rfl:=hrep1;refine xF 0 hat1 [vT x1.l] (vT x1.l) rfl<|uN [vT x1.l] Str ?_;intro b1 hb1;have h5:RL I [vT x1.l] ([x1]:List Str):=rT [x1];obtain ⟨out3,hy3,N⟩:=zB N;exact rX 9 1 1 rfl rfl rfl h2 (.inr ⟨0,rfl⟩) h5 hy3 fun p4 c4 cs3 h6=>sK (zX [1] (hs':=[hO Str (vS p4 out3 c4) cs3]))<|yI [] [4] rfl<|yN<|zT ⟨_,_,_,_,(zC N).symm,H,h6,rfl,rfl⟩
     intro hc1 N;exact zS<|yN<|zT ⟨_,_,_,_,(zC N).symm,H,h2,rfl,rfl⟩
   rintro I01 hs2 m2 ⟨out2,p3,c3,cs2,heq,le1,h4,rfl,rfl⟩;subst o0;have ⟨h,H⟩:=m2 le1 h H;exact zO<|zI<|zK<|yI [] [5] rfl<|yO<|nF<|ih out2 (W (i + 1)) _ hMc H h h4 hg ho hx
 intro hc N;exact wJ<|yN<|hx _ _ _ _ _ (zC N).symm H h2
def mN (s:Str):Option ((List Str)):=do
 let y←kK s (32:UInt8)
 let out1←qP y ([]:List Str) 0
 pure (id out1)
theorem zBO:∀ s r,mN s=some r→∀ {I:Imm} ,RT 199 [vT s.l] I [] (zBK  r):=by
 intro s r N I;unfold mN at N;refine yL Tryz.func199 fun B=>vJ []<|yX<|yE 1 [] [6] rfl<|bE N fun y hy N=>xP (zAT s (32:UInt8) _ hy ) ?_;rintro I0 hs2 v2 k2 le - ⟨v0,rfl,rfl,h⟩ -;obtain ⟨p,c,rfl⟩:=h.form;refine yI [] [3] rfl<|yX<|uN [] Str ?_;intro b hb;have h1:RL I0 [] ([]:List Str):=rfl;refine yI [] [4] rfl<|zY<|yF [5] rfl<|xW<|qW [(3,vS p y c),(4,vS (some ⟨b,0,none⟩) ([]:List Str) 0),(5,vI 0)] ?_;obtain ⟨o01,ho01,hMl⟩:=zB N;refine zCy y ([]:List Str) 0 o01 ho01 iR h h1 (fun _ _ _ h=>h) (fun _ _ h=>h) ?_;intro I02 out1 p2 c2 cs1 heq1 le2 h3;subst o01;refine zR<|wH [2] rfl<|xG<|yV 0 rfl ?_;intro I03 le3 hl0;have h7:=SL.of_frozen hl0 le3 h3;obtain rfl:=zC hMl;exact xA ⟨_,_,(.tmp rfl ResV.nil),zQ,⟨_,rfl,rfl,h7⟩⟩
def zE2 (r:zF):KT:=fun kk I' hs' v=>
  ∃ v0,hs'=[]∧v=tupV [v0]∧(∃ cs,v0=.agg ⟨cs⟩∧Rp.rep I' cs r)
def rU (w0:(List Str)) (i:Int) (Name:Str) (Dims:List Int):Option ((Str×List Int)):=do
 let t15←(do
   if (decide (i < (w0.length:Int))) then
    pure (decide (i ≤ 4))
   else
    pure false
     : Option Bool)
 if t15 then
  if (i == 1) then
   let x←idx w0 1
   rU w0 (W (i + 1)) x Dims
  else
   let x1←idx w0 i
   let (y1,y2)←gD x1
   let l←app 8 Dims ([y1]:List Int)
   rU w0 (W (i + 1)) Name l
 else
  pure (Name,Dims)
 partial_fixpoint
theorem zD9 (w0:(List Str)):∀ (i:Int) (Name:Str) (Dims:List Int) (o:(Str×List Int)),rU w0 i Name Dims=some o→∀ {B}{I0 I:Imm}{Q p c}{b:Nat}{b1:Nat}{p1 c1 cs},I0.le I→(S4 I p w0 c)→(RL I cs Dims)→NG Q→NO Q→(∀ (I':Imm) (Name1:Str) (Dims1:List Int) (p2:Option Addr) (c2:Nat) (cs1:List Value),o=(Name1,Dims1)→I0.le I'→(RL I' cs1 Dims1)→T 39 B Q (.exit 0) I' [hO Int (vS p2 Dims1 c2) cs1,hB b1 [vT Name1.l,vS p2 Dims1 c2],hB b [vT ([]),z0]] [(2,vP b 0),(3,vP b1 0)])→J Tryz.prog 39 B (nav (bodyOf Tryz.f200) [1,1,0,1,0]) Q I [hO Int (vS p1 Dims c1) cs,hB b1 [vT Name.l,vS p1 Dims c1],hB b [vT ([]),z0]] [(0,vS p w0 c),(2,vP b 0),(3,vP b1 0),(4,vI i)]:=by
 refine rU.partial_correctness w0 _ fun self ih i Name Dims o N B I0 I Q p c b b1 p1 c1 cs H h h2 hg ho hx=>yQ hg ho<|zZ<|zZ ?_;refine wT N [hO Int (vS p1 Dims c1) cs,hB b1 [vT Name.l,vS p1 Dims c1],hB b [vT ([]),z0]] (fun t15=>[(0,vS p w0 c),(2,vP b 0),(3,vP b1 0),(4,vI i),(15,.bool t15)]) (fun o0 ho0=>?_) ?_
 · have H:=iS I;refine zK<|yE 5 [] [12] rfl<|xZ [12] ho0 ?_ ?_
   · intro hc N;exact yI [] [15] rfl<|yN<|zT (ct N H)
   intro hc N;exact wI [] [(15,vF)]<|yN<|zT (ct N H)
 intro t15 I0 le hMc;have ⟨h,h2,H⟩:=m3 le h h2 H;refine zI<|yC hMc ?_ ?_
 · intro hc1 N;refine zS<|zY<|yG<|zZ<|yF [19] rfl<|zI<|yC N ?_ ?_
   · intro hc2 N;refine yD<|yE 1 [] [20] rfl<|bE N fun x hy N=>xK rfl rfl h hy ?_;intro ad ccs hat hrep;obtain rfl:=hrep;exact xF 0 hat [vT x.l] (vT x.l) rfl<|yE 4 [] [23] rfl<|xJ 1 [vT x.l,vS p1 Dims c1] rfl<|yB rfl<|zI<|zEr<|jK<|zR<|zI<|zK<|yI [] [4] rfl<|yO<|nF<|ih (W (i + 1)) x Dims _ N H h h2 hg ho hx
   intro hc2 N;refine zS<|yX<|yE 2 [] [25,26] rfl<|bE N fun x1 hy1 N=>xK rfl rfl h hy1 ?_;intro ad1 ccs1 hat1 hrep1;obtain rfl:=hrep1;refine xF 0 hat1 [vT x1.l] (vT x1.l) rfl ?_;obtain ⟨⟨y1,y2⟩,hy2,N⟩:=zB N;refine xP (zCW x1 _ hy2 ) ?_;rintro I01 hs2 v2 k2 le1 - ⟨v0,v01,rfl,rfl,rfl,rfl⟩ -;have ⟨h,h2,H⟩:=m3 le1 h h2 H;refine yI [] [5] rfl<|zI<|zK<|yE 3 [1] [33,34] rfl<|uN [vI y1] Int ?_;intro b2 hb2;have h6:RL I01 [vI y1] ([y1]:List Int):=rI [y1];obtain ⟨l,hy3,N⟩:=zB N;refine rX 3 1 1 rfl rfl rfl h2 (.inr ⟨0,rfl⟩) h6 hy3 ?_;intro p3 c3 cs2 h7;exact sK (zX [1,2,3] (hs':=[hO Int (vS p3 l c3) cs2,hB b1 [vT Name.l,vS p1 Dims c1],hB b [vT ([]),z0]]))<|yE 6 [] [37] rfl<|xJ 1 [vT Name.l,vS p3 l c3] rfl<|yB rfl<|zO<|zI<|zK<|yI [] [4] rfl<|yO<|nF<|ih (W (i + 1)) Name l _ N H h h7 hg ho hx
 intro hc1 N;exact wJ<|yN<|hx _ _ _ _ _ _ (zC N).symm H h2
def gS (w0:(List Str)):Option (zF):=do
 let (Name1,Dims1)←rU w0 1 (⟨[]⟩:Str) ([]:List Int)
 pure (zF.mk Name1 Dims1)
theorem zGD:∀ w0 r,gS w0=some r→∀ {I:Imm}{p c},(S4 I p w0 c)→RT 200 [vS p w0 c] I [] (zE2  r):=by
 intro w0 r N I p c h;unfold gS at N;refine yL Tryz.func200 fun B=>yD<|wY [vT ([]),z0] ?_;intro b hb;refine yB rfl<|yX<|yE 1 [] [7] rfl<|wY [vT ([]),z0] ?_;intro b1 hb1;refine xJ 0 [vT ([]),z0] rfl<|yB rfl<|zY<|yF [4] rfl<|xW<|qW [(0,vS p w0 c),(2,vP b 0),(3,vP b1 0),(4,vI 1)]<|dR Int fun h1=>?_;obtain ⟨o01,ho01,hMl⟩:=zB N;refine zD9 w0 1 (⟨[]⟩:Str) ([]:List Int) o01 ho01 iR h h1 (fun _ _ _ h=>h) (fun _ _ h=>h) ?_;intro I02 Name1 Dims1 p2 c2 cs1 heq1 le2 h3;subst o01;refine zR<|yX<|qL 1 [1] [(38,vA [vT Name1.l,vS p2 Dims1 c2])]<|xJ 2 [vT Name1.l,vS p2 Dims1 c2] rfl<|yB rfl<|xG<|yV 0 rfl ?_;intro I03 le3 hl0;have h8:=SL.of_frozen hl0 le3 h3;obtain rfl:=zC hMl;exact xA ⟨_,_,(.cell 1 rfl rfl (by kernel_rfl) ResV.nil),zQ,⟨_,rfl,rfl,⟨_,rfl,(pM ⟨_,rfl,h8⟩)⟩⟩⟩
def zFV (r:zE):KT:=fun kk I' hs' v=>
  ∃ v0,hs'=[]∧v=tupV [v0]∧(∃ cs,v0=.agg ⟨cs⟩∧Rp.rep I' cs r)
def fJ (line:Str):Option (zE):=do
 let y←mN line
 if ((y.length:Int) != 3) then
  pure (zE.mk ([]:List zA) ([]:List zA))
 else
  let x←idx y 1
  let y1←qO x
  let x1←idx y 2
  let y2←qO x1
  pure (zE.mk y1 y2)
theorem zGu:∀ line r,fJ line=some r→∀ {I:Imm} ,RT 201 [vT line.l] I [] (zFV  r):=by
 intro line r N I;unfold fJ at N;refine yL Tryz.func201 fun B=>?_;have H:=iS I;refine yD<|wY zTwo ?_;intro b hb;refine yB rfl<|yX<|yE 1 [] [4] rfl<|bE N fun y hy N=>xP (zBO line _ hy ) ?_;rintro I0 hs2 v2 k2 le - ⟨v0,rfl,rfl,h⟩ -;have H:=H.trans le;obtain ⟨p,c,rfl⟩:=h.form;refine yI [] [3] rfl<|zY<|yF [8] rfl<|zI<|yC N ?_ ?_
 · intro hc N;refine yD<|yE 1 [] [9] rfl<|zB4 0 zTwo [hB b zTwo] rfl rfl rfl rfl<|yB rfl<|xG<|zG ?_;obtain rfl:=zC N;exact xA ⟨_,_,(.cell 0 rfl rfl (by kernel_rfl) ResV.nil),zQ,⟨_,rfl,rfl,⟨_,rfl,(qB ⟨_,_,rfl,(SL.nil _),(SL.nil _)⟩)⟩⟩⟩
 intro hc N;refine zS<|zI<|zZ ?_;obtain ⟨x,hy1,N⟩:=zB N;obtain ⟨y1,hy2,N⟩:=zB N;obtain ⟨x1,hy3,N⟩:=zB N;obtain ⟨y2,hy4,N⟩:=zB N;refine wK [.p (vS p y c) [],.x (fun I' v hx=>∃ ad,v=.pointer (some ad)∧hx=[]∧(At I' ad [vT x.l])),.q (vT x.l),.x (eS y1),.p (vS p y c) [],.x (fun I' v hx=>∃ ad1,v=.pointer (some ad1)∧hx=[]∧(At I' ad1 [vT x1.l])),.q (vT x1.l),.x (eS y2),.x (fun I' v hx=>∃ p11 c11 p21 c21,v=vA [vS p11 y1 c11,vS p21 y2 c21]∧hx=[]∧(S4 I' p11 y1 c11)∧(S4 I' p21 y2 c21))] [[],[(0,false)],[(1,false)],[(2,false)],[],[(4,false)],[(5,false)],[(6,false)],[(3,false),(7,false)]] [hB b zTwo] [] [(8,false)] (zX [0]) ?_ ?_
 · refine Op<|Ox ?_<|Oq ?_<|Ox ?_<|Op<|Ox ?_<|Oq ?_<|Ox ?_<|Ox ?_<|On
   · intro I1 hf le1;refine yR [10] rfl ?_;have h:=h.mono le1;refine xK rfl rfl h hy1 ?_;intro ad ccs hat hrep;obtain rfl:=hrep;exact yK [] iR ⟨_,rfl,rfl,hat⟩
   · rintro I1 hf le1 _ _ ⟨ad,rfl,rfl,hat⟩;exact yR [11] rfl<|xF 0 hat [vT x.l] (vT x.l) rfl<|xE iR
   · intro I1 hf le1;refine yR [12] rfl ?_;have H:=iS I1;refine xP (fB x _ hy2 ) ?_;rintro I01 hs2 v2 k2 le1 - ⟨v01,rfl,rfl,h1⟩ -;have H:=H.trans le1;obtain ⟨p1,c1,rfl⟩:=h1.form;exact yK [] H ⟨_,_,rfl,rfl,h1⟩
   · intro I1 hf le1;refine yR [14] rfl ?_;have h:=h.mono le1;refine xK rfl rfl h hy3 ?_;intro ad1 ccs1 hat1 hrep1;obtain rfl:=hrep1;exact yK [] iR ⟨_,rfl,rfl,hat1⟩
   · rintro I1 hf le1 _ _ ⟨ad1,rfl,rfl,hat1⟩;exact yR [15] rfl<|xF 0 hat1 [vT x1.l] (vT x1.l) rfl<|xE iR
   · intro I1 hf le1;refine yR [16] rfl ?_;have H:=iS I1;refine xP (fB x1 _ hy4 ) ?_;rintro I02 hs2 v2 k2 le2 - ⟨v02,rfl,rfl,h2⟩ -;have H:=H.trans le2;obtain ⟨p2,c2,rfl⟩:=h2.form;exact yK [] H ⟨_,_,rfl,rfl,h2⟩
   rintro I1 hf le1 _ _ ⟨p1,c1,rfl,rfl,h1⟩ _ _ ⟨p2,c2,rfl,rfl,h2⟩;exact yR [13,17] rfl<|oY 9 [(18,vA [vS p1 y1 c1,vS p2 y2 c2])]<|yK [] iR ⟨_,_,_,_,rfl,rfl,h1,h2⟩
 rintro I03 le3 _ _ ⟨p11,c11,p21,c21,rfl,rfl,h11,h21⟩;refine yR [2,18] rfl ?_;refine xJ 0 [vS p11 y1 c11,vS p21 y2 c21] rfl<|yB rfl<|zI<|yW ?_;obtain rfl:=zC N;exact xA ⟨_,_,(.cell 0 rfl rfl (by kernel_rfl) ResV.nil),zQ,⟨_,rfl,rfl,⟨_,rfl,(qB ⟨_,_,rfl,h11,h21⟩)⟩⟩⟩
def zFW (r:zD):KT:=fun kk I' hs' v=>
  ∃ (a0:Option Addr) (c0:Nat) (s0:List Value) (a1:Option Addr) (c1:Nat) (s1:List Value) (raws:List Raw2) (vN vB:Value) (nl:List zE) (bl:List zP) (csN csB:List Value),
    hs'=[hO zF (vS a0 r.Arrays c0) s0,hO Raw2 (vS a1 raws c1) s1,hO zE vN csN,hO zP vB csB]∧v=tupV [vA [vS a0 r.Arrays c0,vS a1 raws c1]]∧L4 I' s0 r.Arrays s1 raws r.Parts vN nl vB bl csN csB
def fK (p:zD) (line:Str):Option (zD):=do
 let y←mN line
 let t17←(do
   if (decide ((y.length:Int) > 0)) then
    let x←idx y 0
    pure (x.l == ([97,114,114,97,121]:List UInt8))
   else
    pure false
     : Option Bool)
 if t17 then
  let y1←gS y
  let l←app 40 p.Arrays ([y1]:List zF)
  pure (zD.mk l p.Parts)
 else
  if (line.l == ([112,97,114,116]:List UInt8)) then
   let l1←app 48 p.Parts ([(zN.mk ([]:List zE) ([]:List zP))]:List zN)
   pure (zD.mk p.Arrays l1)
  else
   let t43←(do
     if (decide ((W ((p.Parts.length:Int) - 1)) ≥ 0)) then
      if (decide ((y.length:Int) > 0)) then
       let x1←idx y 0
       pure (x1.l == ([102,111,114]:List UInt8))
      else
       pure false
     else
      pure false
       : Option Bool)
   if t43 then
    let x2←idx p.Parts (W ((p.Parts.length:Int) - 1))
    let y2←fJ line
    let l2←app 48 x2.Nest ([y2]:List zE)
    pure (zD.mk p.Arrays (p.Parts.set (W ((p.Parts.length:Int) - 1)).toNat (zN.mk l2 x2.Body)))
   else
    if (decide ((W ((p.Parts.length:Int) - 1)) ≥ 0)) then
     let x4←idx p.Parts (W ((p.Parts.length:Int) - 1))
     let (y4,y5)←mC line
     let l3←app 152 x4.Body ([y4]:List zP)
     pure (zD.mk p.Arrays (p.Parts.set (W ((p.Parts.length:Int) - 1)).toNat (zN.mk x4.Nest l3)))
    else
     pure (id p)
theorem zGv:∀ p line r,fK p line=some r→∀ {I:Imm}{p1 c cs p2 c1 cs1}{raws:List Raw2}{vN vB:Value}{nl:List zE}{bl:List zP}{csN csB:List Value},
    L4 I cs p.Arrays cs1 raws p.Parts vN nl vB bl csN csB→RT 158 [vA [vS p1 p.Arrays c,vS p2 raws c1],vT line.l] I [hO zF (vS p1 p.Arrays c) cs,hO Raw2 (vS p2 raws c1) cs1,hO zE vN csN,hO zP vB csB] (zFW r):=by
 intro p line r N I p1 c cs p2 c1 cs1 raws vN vB nl bl csN csB hQ
 unfold fK at N
 simp only [hQ.lp.len] at N
 refine yL Tryz.func158 fun B=>yD<|tS [vS p1 p.Arrays c,vS p2 raws c1] ?_
 intro b hb
 refine wY zTwo ?_
 intro b1 hb1
 refine yB rfl<|yX<|yE 1 [] [11] rfl ?_
 obtain ⟨y,hy,N⟩:=zB N
 refine xP (zBO line _ hy ) ?_
 rintro I0 hs2 v2 k2 le - ⟨v0,rfl,rfl,h2⟩ -
 have hQ:=hQ.mono le
 obtain ⟨p3,c2,rfl⟩:=h2.form
 refine yI [] [5] rfl<|yX<|yI [1] [6] rfl<|zY<|yG<|zZ ?_
 obtain ⟨o0,ho0,N⟩:=zB N
 refine qA (K1 o0 I0 [hB b1 zTwo,hB b [vS p1 p.Arrays c,vS p2 raws c1],hO zF (vS p1 p.Arrays c) cs,hO Raw2 (vS p2 raws c1) cs1,hO zE vN csN,hO zP vB csB] fun t17=>[(1,vT line.l),(2,vP b 0),(4,vP b1 0),(5,vS p3 y c2),(6,vI (W ((raws.length:Int) - 1))),(17,.bool t17)]) ?_ ?_
 · refine zK<|yE 4 [] [21] rfl ?_
   cases hc:(decide ((y.length:Int) > 0)) with
   | true =>
    have hM0:=sT hc ho0
    refine yE 5 [] [22] rfl ?_
    obtain ⟨x,hy1,N⟩:=zB hM0
    refine xK rfl rfl h2 hy1 ?_
    intro ad ccs hat hrep
    obtain rfl:=hrep
    exact xF 0 hat [vT x.l] (vT x.l) rfl<|yI [] [17] rfl<|yN<|zT ⟨_,(zC N).symm,Imm.le.refl _,rfl,rfl⟩
   | false =>
    have hM01:=tU hc ho0
    exact wI [] [(17,vF)]<|yN<|zT ⟨_,(zC hM01).symm,Imm.le.refl _,rfl,rfl⟩
 rintro I01 hs2 m2 ⟨t17,heq,le1,rfl,rfl⟩
 subst o0
 have h2:=h2.mono le1
 have hQ:=hQ.mono le1
 refine zI<|yC N ?_ ?_
 · intro hc1 N
   obtain ⟨y1,hy2,N⟩:=zB N
   obtain ⟨l,hy3,N⟩:=zB N
   refine wK [.p (vP b 0) [],.p (vS p1 p.Arrays c) [1],.p (vS p3 y c2) [],.x (eVArr y1),.x (fun I' v hx=>∃ b2,v=vS (some ⟨b2,0,none⟩) ([y1]:List zF) 1∧hx=[]∧(SL I' (vS (some ⟨b2,0,none⟩) ([y1]:List zF) 1) ([y1]:List zF))),.x (fun I' v hx=>∃ p5 c4 cs3,v=vS p5 l c4∧hx=[hO zF (vS p5 l c4) cs3]∧(RL I' cs3 l))] [[],[(0,false)],[],[(2,false)],[(3,false)],[(1,false),(4,false),(8,true)]] [hB b1 zTwo,hB b [vS p1 p.Arrays c,vS p2 raws c1],hO Raw2 (vS p2 raws c1) cs1,hO zE vN csN,hO zP vB csB] [[hO zF (vS p1 p.Arrays c) cs]] [(5,true)] (zX [0,1,3,4,5,2]) ?_ ?_
   · refine Op<|Op<|Op<|Ox ?_<|Ox ?_<|Ox ?_<|On
     · intro I1 hf le1
       refine yR [29] rfl<|xP (zGD y _ hy2 (h2.mono le1)) ?_
       rintro I02 hs2 v2 k2 le2 - ⟨v01,rfl,rfl,⟨cs2,rfl,h3⟩⟩ -
       obtain ⟨v02,rfl,h4⟩:=zBr h3
       obtain ⟨p4,c3,rfl⟩:=h4.form
       exact yK [] le2 ⟨_,_,rfl,rfl,h4⟩
     · intro I1 hf le1
       refine wA ?_
       rintro _ _ ⟨p4,c3,rfl,rfl,h4⟩
       refine yR [30] rfl<|uN (cArr y1 p4 c3) zF ?_
       intro b2 hb2
       have h5:RL I1 (cArr y1 p4 c3) ([y1]:List zF):=⟨(cArr y1 p4 c3),_,rfl,rfl,(pM ⟨_,rfl,h4⟩),rfl⟩
       refine xO 0 rfl ?_
       intro I03 le3 hl0
       exact yK [] le3 ⟨_,rfl,rfl,SL.of_frozen hl0 le3 h5⟩
     intro I1 hf le1
     refine wA ?_
     rintro _ _ ⟨rfl,rfl⟩
     refine wA ?_
     rintro _ _ ⟨b2,rfl,rfl,h6⟩
     refine wA ?_
     rintro _ _ rfl
     refine yR [28,31] rfl ?_
     obtain ⟨ccs1,k0,k01⟩:=h6
     refine rX 147 2 0 rfl rfl rfl (hQ.mono le1).arr (.inl k0) k01 hy3 ?_
     intro p5 c4 cs3 h7
     exact vK (hs':=(hO zF (vS p5 l c4) cs3::(hB b1 zTwo::hB b [vS p1 p.Arrays c,vS p2 raws c1]::hO Raw2 (vS p2 raws c1) cs1::hO zE vN csN::hO zP vB csB::hf))) rfl<|yK [hO zF (vS p5 l c4) cs3] iR ⟨_,_,_,rfl,rfl,h7⟩
   intro I04 le4
   refine wA ?_
   rintro _ _ ⟨p5,c4,cs3,rfl,rfl,h7⟩
   refine yR [2,4,32] rfl ?_
   have hQ:=hQ.mono le4
   refine yE 7 [] [33] rfl<|xJ 2 [vS p5 l c4,vS p2 raws c1] rfl<|yB rfl<|zO<|yX<|qL 1 [2] [(98,vA [vS p5 l c4,vS p2 raws c1])]<|xJ 1 [vS p5 l c4,vS p2 raws c1] rfl<|yB rfl<|zI<|yW ?_
   obtain rfl:=zC N
   exact xA ⟨_,_,(.cell 1 rfl rfl (by kernel_rfl) ResV.nil),(zW [0,3,4,5] rfl (by decide)),⟨_,_,_,_,_,_,_,_,_,_,_,_,_,rfl,rfl,⟨h7,hQ.raw,hQ.lp,hQ.n,hQ.b⟩⟩⟩
 intro hc1 N
 refine yF [34] rfl<|zI<|yC N ?_ ?_
 · intro hc2 N
   refine pU 4 rfl ?_
   intro I05 le5 hl5
   have kN:=SL.of_frozen hl5 le5 hQ.n
   have hQ:=hQ.mono le5
   refine pU 4 rfl ?_
   intro I06 le6 hl6
   have kB:=SL.of_frozen hl6 le6 hQ.b
   replace kN:=kN.mono le6
   have hQ:=hQ.mono le6
   obtain ⟨l1,hy4,N⟩:=zB N
   have hy5:=zIX (l':=raws) (m':=[(⟨z0,z0⟩:Raw2)]) hy4 hQ.lp.2.1 rfl
   have hLP:=hQ.lp.part kN kB hy4
   refine zK<|vK (hs':=[hB b1 zTwo,hB b [vS p1 p.Arrays c,vS p2 raws c1],hO zF (vS p1 p.Arrays c) cs,hO Raw2 (vS p2 raws c1) cs1]) rfl<|qL 3 [1] [(38,vS p2 raws c1),(39,vA zTwo)]<|uN zTwo Raw2 ?_
   intro b3 hb3
   have h8:RL I06 zTwo [(⟨z0,z0⟩:Raw2)]:=⟨zTwo,[],rfl,rfl,⟨rfl,rfl,rfl⟩,rfl⟩
   refine rX 36 2 4 rfl rfl rfl hQ.raw (.inr ⟨0,rfl⟩) h8 hy5 ?_
   intro p6 c5 cs4 h9
   refine sK (zX [1,2,3,4] (hs':=[hB b1 zTwo,hB b [vS p1 p.Arrays c,vS p2 raws c1],hO zF (vS p1 p.Arrays c) cs,hO Raw2 (vS p6 (raws ++ [(⟨z0,z0⟩:Raw2)]) c5) cs4]))<|yE 6 [] [42] rfl<|xJ 1 [vS p1 p.Arrays c,vS p6 (raws ++ [(⟨z0,z0⟩:Raw2)]) c5] rfl<|yB rfl<|zO<|yX<|qL 1 [1] [(98,vA [vS p1 p.Arrays c,vS p6 (raws ++ [(⟨z0,z0⟩:Raw2)]) c5])]<|xJ 0 [vS p1 p.Arrays c,vS p6 (raws ++ [(⟨z0,z0⟩:Raw2)]) c5] rfl<|yB rfl<|xG<|xY (gI (Rp.sz zP))<|xY (gI (Rp.sz zE)) ?_
   obtain rfl:=zC N
   exact xA ⟨_,_,(.cell 2 rfl rfl (by kernel_rfl) ResV.nil),(zW [4,5,0,1] rfl (by decide)),⟨_,_,_,_,_,_,_,_,_,_,_,_,_,rfl,rfl,⟨hQ.arr,h9,hLP,RepL.nil,RepL.nil⟩⟩⟩
 intro hc2 N
 refine zZ ?_
 obtain ⟨o01,ho01,N⟩:=zB N
 refine qA (K1 o01 I01 [hB b1 zTwo,hB b [vS p1 p.Arrays c,vS p2 raws c1],hO zF (vS p1 p.Arrays c) cs,hO Raw2 (vS p2 raws c1) cs1,hO zE vN csN,hO zP vB csB] fun t43=>[(1,vT line.l),(2,vP b 0),(4,vP b1 0),(6,vI (W ((raws.length:Int) - 1))),(43,.bool t43)]) ?_ ?_
 · refine zK<|yE 3 [] [46] rfl ?_
   cases hc3:(decide ((W ((raws.length:Int) - 1)) ≥ 0)) with
   | true =>
    have hM02:=sT hc3 ho01
    refine yE 8 [] [51] rfl ?_
    cases hc4:(decide ((y.length:Int) > 0)) with
    | true =>
     have hM03:=sT hc4 hM02
     refine yE 9 [] [52] rfl ?_
     obtain ⟨x1,hy5,N⟩:=zB hM03
     refine xK rfl rfl h2 hy5 ?_
     intro ad1 ccs2 hat1 hrep1
     obtain rfl:=hrep1
     exact xF 0 hat1 [vT x1.l] (vT x1.l) rfl<|yI [] [43] rfl<|yN<|zT ⟨_,(zC N).symm,Imm.le.refl _,rfl,rfl⟩
    | false =>
     have hM04:=tU hc4 hM02
     exact wI [] [(43,vF)]<|yN<|zT ⟨_,(zC hM04).symm,Imm.le.refl _,rfl,rfl⟩
   | false =>
    have hM05:=tU hc3 ho01
    exact wI [] [(43,vF)]<|yN<|zT ⟨_,(zC hM05).symm,Imm.le.refl _,rfl,rfl⟩
 rintro I05 hs2 m2 ⟨t43,heq1,le5,rfl,rfl⟩
 subst o01
 have hQ:=hQ.mono le5
 refine zI<|yC N ?_ ?_
 · intro hc5 N
   refine yD<|yE 3 [1] [58,59] rfl ?_
   obtain ⟨x2,hy6,N⟩:=zB N
   obtain ⟨rfl,hyr,hset⟩:=hQ.lp.last hy6
   refine nV 3 rfl rfl rfl hQ.raw hyr ?_
   intro ad2 ccs3 hat2 hcc hrep2
   obtain ⟨rfl,o1,o2⟩:=hrep2
   refine zB3 3 0 hat2 hcc [vN,vB] (vA [vN,vB]) rfl rfl<|wY zTwo ?_
   intro b4 hb4
   refine zNV 0 [vN,vB] (hB b4 [vN,vB]::[hB b1 zTwo,hB b [vS p1 p.Arrays c,vS p2 raws c1],hO zF (vS p1 p.Arrays c) cs,hO Raw2 (vS p2 raws c1) cs1,hO zE vN csN,hO zP vB csB]) rfl rfl rfl rfl (by simp [Value.cells,o1,o2])<|yB rfl<|zI<|zZ ?_
   obtain ⟨y2,hy7,N⟩:=zB N
   obtain ⟨l2,hy8,N⟩:=zB N
   refine wK [.p (vP b4 0) [],.p vN [0],.p (vT line.l) [],.x (eVLoop y2),.x (fun I' v hx=>∃ b5,v=vS (some ⟨b5,0,none⟩) ([y2]:List zE) 1∧hx=[]∧(SL I' (vS (some ⟨b5,0,none⟩) ([y2]:List zE) 1) ([y2]:List zE))),.x (fun I' v hx=>∃ p11 c10 cs3,v=vS p11 l2 c10∧hx=[hO zE (vS p11 l2 c10) cs3]∧(RL I' cs3 l2))] [[],[(0,false)],[],[(2,false)],[(3,false)],[(1,false),(4,false),(8,true)]] [hB b4 [vN,vB],hB b1 zTwo,hB b [vS p1 p.Arrays c,vS p2 raws c1],hO zF (vS p1 p.Arrays c) cs,hO Raw2 (vS p2 raws c1) cs1,hO zP vB csB] [[hO zE vN csN]] [(5,true)] (zX [0,1,2,3,4,6,5]) ?_ ?_
   · refine Op<|Op<|Op<|Ox ?_<|Ox ?_<|Ox ?_<|On
     · intro I1 hf le1
       refine yR [64] rfl<|xP (zGu line _ hy7 ) ?_
       rintro I06 hs2 v2 k2 le6 - ⟨v05,rfl,rfl,⟨cs5,rfl,h12⟩⟩ -
       obtain ⟨v06,v07,rfl,h13,h14⟩:=zCM h12
       obtain ⟨p9,c8,rfl⟩:=h13.form
       obtain ⟨p10,c9,rfl⟩:=h14.form
       exact yK [] le6 ⟨_,_,_,_,rfl,rfl,h13,h14⟩
     · intro I1 hf le1
       refine wA ?_
       rintro _ _ ⟨p9,c8,p10,c9,rfl,rfl,h13,h14⟩
       refine yR [65] rfl<|uN (cLoop y2 p9 c8 p10 c9) zE ?_
       intro b5 hb5
       have h15:RL I1 (cLoop y2 p9 c8 p10 c9) ([y2]:List zE):=⟨(cLoop y2 p9 c8 p10 c9),_,rfl,rfl,(qB ⟨_,_,rfl,h13,h14⟩),rfl⟩
       refine xO 0 rfl ?_
       intro I07 le7 hl01
       exact yK [] le7 ⟨_,rfl,rfl,SL.of_frozen hl01 le7 h15⟩
     intro I1 hf le1
     refine wA ?_
     rintro u _ ⟨hu,rfl⟩
     have hu:=hu.symm
     subst hu
     refine wA ?_
     rintro _ _ ⟨b5,rfl,rfl,h16⟩
     refine wA ?_
     rintro _ _ rfl
     refine yR [63,66] rfl ?_
     obtain ⟨ccs4,k0,k01⟩:=h16
     refine rX 187 2 0 rfl rfl rfl (hQ.mono le1).n (.inl k0) k01 hy8 ?_
     intro p11 c10 cs3 h17
     exact vK (hs':=(hO zE (vS p11 l2 c10) cs3::(hB b4 [vN,vB]::hB b1 zTwo::hB b [vS p1 p.Arrays c,vS p2 raws c1]::hO zF (vS p1 p.Arrays c) cs::hO Raw2 (vS p2 raws c1) cs1::hO zP vB csB::hf))) rfl<|yK [hO zE (vS p11 l2 c10) cs3] iR ⟨_,_,_,rfl,rfl,h17⟩
   intro I08 le8
   refine wA ?_
   rintro _ _ ⟨p11,c10,cs3,rfl,rfl,h17⟩
   refine yR [2,4,6,7,67] rfl ?_
   have hQ:=hQ.mono le8
   refine yE 7 [] [68] rfl<|xJ 1 [vS p11 l2 c10,vB] rfl<|yB rfl<|zI<|zK<|qL 4 [3,1] [(70,vS p2 raws c1),(71,vI (W ((raws.length:Int) - 1))),(72,vA [vS p11 l2 c10,vB])]<|nV 5 rfl rfl rfl hQ.raw hyr ?_
   intro ad3 ccs5 hat3 hcc1 hrep3
   obtain ⟨rfl,-⟩:=hrep3
   refine rG (α:=Raw2) (c:=[vS p11 l2 c10,vB]) (x':=⟨vS p11 l2 c10,vB⟩) 5 0 rfl rfl rfl hat3 rfl rfl hcc1 (by kernel_rfl) (by kernel_rfl) (by simp [Value.cells,o2]; rfl) hQ.raw hyr (by kernel_rfl) ⟨rfl,rfl,o2⟩ ?_
   intro cs6 h19 hl02
   refine vK (hs':=[hO zE (vS p11 l2 c10) cs3,hB b4 [vS p11 l2 c10,vB],hB b1 zTwo,hB b [vS p1 p.Arrays c,vS p2 raws c1],hO zF (vS p1 p.Arrays c) cs,hO Raw2 (vS p2 raws c1) cs6,hO zP vB csB]) rfl<|yB rfl<|zO<|yX<|qL 1 [3] [(98,vA [vS p1 p.Arrays c,vS p2 raws c1])]<|xJ 2 [vS p1 p.Arrays c,vS p2 raws c1] rfl<|yB rfl<|zI<|yW ?_
   obtain rfl:=zC N
   exact xA ⟨[vA [vS p1 p.Arrays c,vS p2 raws c1]],_,(.cell 2 rfl rfl (by kernel_rfl) ResV.nil),(zW [4,5,0,6] rfl (by decide)),⟨p1,c,cs,p2,c1,cs6,raws.set (W ((raws.length:Int) - 1)).toNat ⟨vS p11 l2 c10,vB⟩,vS p11 l2 c10,vB,l2,bl,cs3,csB,(by simp only [vS,hl02]),(by simp only [vS,hl02]),⟨hQ.arr,h19,(hset _ _ _ _).mono le8,h17,hQ.b⟩⟩⟩
 intro hc5 N
 refine yF [74] rfl<|zI<|yC N ?_ ?_
 · intro hc6 N
   refine yD<|yE 3 [1] [78,79] rfl ?_
   obtain ⟨x4,hy10,N⟩:=zB N
   obtain ⟨rfl,hyr,hset⟩:=hQ.lp.last hy10
   refine nV 3 rfl rfl rfl hQ.raw hyr ?_
   intro ad4 ccs5 hat4 hcc2 hrep4
   obtain ⟨rfl,o1,o2⟩:=hrep4
   refine zB3 3 0 hat4 hcc2 [vN,vB] (vA [vN,vB]) rfl rfl<|wY zTwo ?_
   intro b6 hb6
   refine zNV 0 [vN,vB] (hB b6 [vN,vB]::[hB b1 zTwo,hB b [vS p1 p.Arrays c,vS p2 raws c1],hO zF (vS p1 p.Arrays c) cs,hO Raw2 (vS p2 raws c1) cs1,hO zE vN csN,hO zP vB csB]) rfl rfl rfl rfl (by simp [Value.cells,o1,o2])<|yB rfl<|yX<|qL 1 [] [(83,vT line.l)] ?_
   obtain ⟨⟨y4,y5⟩,hy11,N⟩:=zB N
   refine xP (zAj line _ hy11 ) ?_
   rintro I09 hs2 v2 k2 le9 - ⟨v012,v013,rfl,rfl,⟨cs7,rfl,h22⟩,rfl⟩ -
   have hQ:=hQ.mono le9
   obtain ⟨v014,v015,v016,v017,rfl,h24,h25,h26,h27⟩:=nA h22
   obtain ⟨p15,c14,rfl⟩:=h24.form
   obtain ⟨p16,c15,rfl⟩:=h25.form
   obtain ⟨p17,c16,rfl⟩:=h26.form
   obtain ⟨p18,c17,rfl⟩:=h27.form
   refine yE 5 [] [85,86] rfl<|wY [vT ([]),z0,vI 0,vI 0,z0,vI 0,vT ([]),z0,z0] ?_
   intro b7 hb7
   refine zB4 0 (cStmt y4 p15 c14 p16 c15 p17 c16 p18 c17) (hB b7 (cStmt y4 p15 c14 p16 c15 p17 c16 p18 c17)::hB b6 [vN,vB]::[hB b1 zTwo,hB b [vS p1 p.Arrays c,vS p2 raws c1],hO zF (vS p1 p.Arrays c) cs,hO Raw2 (vS p2 raws c1) cs1,hO zE vN csN,hO zP vB csB]) rfl rfl rfl rfl<|wI [] []<|yX<|qL 3 [1,0] [(88,vB),(89,vA (cStmt y4 p15 c14 p16 c15 p17 c16 p18 c17))]<|uN (cStmt y4 p15 c14 p16 c15 p17 c16 p18 c17) zP ?_
   intro b8 hb8
   have h28:RL I09 (cStmt y4 p15 c14 p16 c15 p17 c16 p18 c17) ([y4]:List zP):=⟨(cStmt y4 p15 c14 p16 c15 p17 c16 p18 c17),_,rfl,rfl,(wU ⟨_,_,_,_,rfl,h24,h25,h26,h27⟩),rfl⟩
   obtain ⟨l3,hy12,N⟩:=zB N
   refine rX 48 9 8 rfl rfl rfl hQ.b (.inr ⟨0,rfl⟩) h28 hy12 ?_
   intro p19 c18 cs9 h29
   refine sK (zX [2,3,4,5,6,7,8] (hs':=[hB b6 [vN,vB],hB b1 zTwo,hB b [vS p1 p.Arrays c,vS p2 raws c1],hO zF (vS p1 p.Arrays c) cs,hO Raw2 (vS p2 raws c1) cs1,hO zE vN csN,hO zP (vS p19 l3 c18) cs9]))<|yE 6 [] [92] rfl<|xJ 0 [vN,vS p19 l3 c18] rfl<|yB rfl<|zI<|zK<|qL 4 [2,0] [(94,vS p2 raws c1),(95,vI (W ((raws.length:Int) - 1))),(96,vA [vN,vS p19 l3 c18])]<|nV 4 rfl rfl rfl hQ.raw hyr ?_
   intro ad5 ccs6 hat5 hcc3 hrep5
   obtain ⟨rfl,-⟩:=hrep5
   refine rG (α:=Raw2) (c:=[vN,vS p19 l3 c18]) (x':=⟨vN,vS p19 l3 c18⟩) 4 0 rfl rfl rfl hat5 rfl rfl hcc3 (by kernel_rfl) (by kernel_rfl) (by simp [Value.cells,o1]; rfl) hQ.raw hyr (by kernel_rfl) ⟨rfl,o1,rfl⟩ ?_
   intro cs8 h31 hl03
   refine vK (hs':=[hB b6 [vN,vS p19 l3 c18],hB b1 zTwo,hB b [vS p1 p.Arrays c,vS p2 raws c1],hO zF (vS p1 p.Arrays c) cs,hO Raw2 (vS p2 raws c1) cs8,hO zE vN csN,hO zP (vS p19 l3 c18) cs9]) rfl<|yB rfl<|zO<|yX<|qL 1 [2] [(98,vA [vS p1 p.Arrays c,vS p2 raws c1])]<|xJ 1 [vS p1 p.Arrays c,vS p2 raws c1] rfl<|yB rfl<|zI<|yW ?_
   obtain rfl:=zC N
   exact xA ⟨[vA [vS p1 p.Arrays c,vS p2 raws c1]],_,(.cell 1 rfl rfl (by kernel_rfl) ResV.nil),(zW [3,4,5,6] rfl (by decide)),⟨p1,c,cs,p2,c1,cs8,raws.set (W ((raws.length:Int) - 1)).toNat ⟨vN,vS p19 l3 c18⟩,vN,vS p19 l3 c18,nl,l3,csN,cs9,(by simp only [vS,hl03]),(by simp only [vS,hl03]),⟨hQ.arr,h31,(hset _ _ _ _).mono le9,hQ.n,h29⟩⟩⟩
 intro hc6 N
 refine zS<|zO<|yX<|qL 1 [1] [(98,vA [vS p1 p.Arrays c,vS p2 raws c1])]<|xJ 0 [vS p1 p.Arrays c,vS p2 raws c1] rfl<|yB rfl<|zI<|yW ?_
 obtain rfl:=zC N
 exact xA ⟨_,_,(.cell 0 rfl rfl (by kernel_rfl) ResV.nil),(zW [2,3,4,5] rfl (by decide)),⟨_,_,_,_,_,_,_,_,_,_,_,_,_,rfl,rfl,hQ⟩⟩
def oM (nest:(List zE)) (out:Str) (i:Int):Option (Str):=do
 if (decide (i < (nest.length:Int))) then
  let s←cat out (⟨[102,111,114,32]⟩:Str)
  let x←idx nest i
  let y←pH x.Lo
  let s1←cat s y
  let s2←cat s1 (⟨[32]⟩:Str)
  let x1←idx nest i
  let y1←pH x1.Hi
  let s3←cat s2 y1
  let s4←cat s3 (⟨[10]⟩:Str)
  oM nest s4 (W (i + 1))
 else
  pure (id out)
 partial_fixpoint
theorem zE3 (nest:(List zE)):∀ (out:Str) (i:Int) (o:Str),oM nest out i=some o→∀ {B}{I0 I:Imm}{Q p c},I0.le I→(S4 I p nest c)→NG Q→NO Q→(∀ (I':Imm) (out1:Str),o=out1→I0.le I'→T 30 B Q (.exit 0) I' [] [(3,vT out1.l)])→J Tryz.prog 30 B (nav (bodyOf Tryz.f203) [1,1,0,1,0]) Q I [] [(0,vS p nest c),(3,vT out.l),(4,vI i)]:=by
 refine oM.partial_correctness nest _ fun self ih out i o N B I0 I Q p c H h hg ho hx=>yQ hg ho<|zZ<|yF [8] rfl<|zI<|yC N ?_ ?_
 · intro hc N;refine zS<|zY<|yG ?_;obtain ⟨s,hy,N⟩:=zB N;obtain ⟨x,hy1,N⟩:=zB N;obtain ⟨y,hy2,N⟩:=zB N;obtain ⟨s1,hy3,N⟩:=zB N;obtain ⟨s2,hy4,N⟩:=zB N;obtain ⟨x1,hy5,N⟩:=zB N;obtain ⟨y1,hy6,N⟩:=zB N;obtain ⟨s3,hy7,N⟩:=zB N;obtain ⟨s4,hy8,N⟩:=zB N;refine wK [.p (vT out.l) [],.q (vT s.l),.p (vS p nest c) [],.p (vI i) [],.x (ePLoop x),.x (ePLoop x),.x (eS x.Lo),.q (vT y.l),.q (vT s1.l),.q (vT s2.l),.p (vS p nest c) [],.p (vI i) [],.x (ePLoop x1),.x (eQLoop 1 x1),.x (eS x1.Hi),.q (vT y1.l),.q (vT s3.l),.q (vT s4.l)] [[],[(0,false)],[],[],[(2,false),(3,false)],[(4,false)],[(5,false)],[(6,false)],[(1,false),(7,false)],[(8,false)],[],[],[(10,false),(11,false)],[(12,false)],[(13,false)],[(14,false)],[(9,false),(15,false)],[(16,false)]] [] [] [(17,false)] zQ ?_ ?_
   · refine Op<|Oq ?_<|Op<|Op<|Ox ?_<|Ox ?_<|Ox ?_<|Oq ?_<|Oq ?_<|Oq ?_<|Op<|Op<|Ox ?_<|Ox ?_<|Ox ?_<|Oq ?_<|Oq ?_<|Oq ?_<|On
     · intro I1 hf le1;exact yR [11] rfl<|jH rfl hy<|xE iR
     · intro I1 hf le1;refine yR [13,14] rfl ?_;have h:=h.mono le1;refine xK rfl rfl h hy1 ?_;intro ad ccs hat hrep;obtain ⟨p1,c1,p2,c2,rfl,h1,h2⟩:=sH hrep;exact yK [] iR ⟨_,_,_,_,_,rfl,rfl,hat,h1,h2⟩
     · rintro I1 hf le1 _ _ ⟨ad,p1,c1,p2,c2,rfl,rfl,hat,h1,h2⟩;exact yR [15] rfl<|oY 6 [(16,.pointer (some ad))]<|yK [] iR ⟨_,_,_,_,_,rfl,rfl,hat,h1,h2⟩
     · rintro I1 hf le1 _ _ ⟨ad1,p11,c11,p21,c21,rfl,rfl,hat1,h11,h21⟩;exact yR [16] rfl<|xF 0 hat1 [vS p11 x.Lo c11] (vS p11 x.Lo c11) rfl<|yK [] iR ⟨_,_,rfl,rfl,h11⟩
     · rintro I1 hf le1 _ _ ⟨p111,c111,rfl,rfl,h111⟩;refine yR [17] rfl ?_;have H:=iS I1;refine xP (fT x.Lo _ hy2 h111) ?_;rintro I0 hs2 v2 k2 le - ⟨v02,rfl,rfl,rfl⟩ -;have H:=H.trans le;exact xE H
     · intro I1 hf le1;exact yR [12,18] rfl<|jH rfl hy3<|xE iR
     · intro I1 hf le1;exact yR [19] rfl<|jH rfl hy4<|xE iR
     · intro I1 hf le1;refine yR [21,22] rfl ?_;have h:=h.mono le1;refine xK rfl rfl h hy5 ?_;intro ad2 ccs1 hat2 hrep1;obtain ⟨p3,c3,p4,c4,rfl,h4,h5⟩:=sH hrep1;exact yK [] iR ⟨_,_,_,_,_,rfl,rfl,hat2,h4,h5⟩
     · rintro I1 hf le1 _ _ ⟨ad2,p3,c3,p4,c4,rfl,rfl,hat2,h4,h5⟩;exact yR [23] rfl<|oY 14 [(24,.pointer (some (ad2.add 1)))]<|yK [] iR ⟨_,_,_,_,_,rfl,rfl,hat2,h4,h5⟩
     · rintro I1 hf le1 _ _ ⟨ad21,p31,c31,p41,c41,rfl,rfl,hat21,h41,h51⟩;exact yR [24] rfl<|xF 1 hat21 [vS p41 x1.Hi c41] (vS p41 x1.Hi c41) rfl<|yK [] iR ⟨_,_,rfl,rfl,h51⟩
     · rintro I1 hf le1 _ _ ⟨p411,c411,rfl,rfl,h511⟩;refine yR [25] rfl ?_;have H:=iS I1;refine xP (fT x1.Hi _ hy6 h511) ?_;rintro I01 hs2 v2 k2 le1 - ⟨v05,rfl,rfl,rfl⟩ -;have H:=H.trans le1;exact xE H
     · intro I1 hf le1;exact yR [20,26] rfl<|jH rfl hy7<|xE iR
     intro I1 hf le1;exact yR [27] rfl<|jH rfl hy8<|xE iR
   intro I02 le2;refine yR [0,4,28] rfl ?_;have ⟨h,H⟩:=m2 le2 h H;exact yI [] [3] rfl<|zO<|zI<|zK<|yI [] [4] rfl<|yO<|nF<|ih s4 (W (i + 1)) _ N H h hg ho hx
 intro hc N;exact wJ<|yN<|hx _ _ (zC N).symm H
def fL (nest:(List zE)):Option (Str):=do
 let out1←oM nest (⟨[]⟩:Str) 0
 pure (id out1)
theorem zGw:∀ nest r,fL nest=some r→∀ {I:Imm}{p c},(S4 I p nest c)→RT 203 [vS p nest c] I [] (tY  r):=by
 intro nest r N I p c h;unfold fL at N;refine yL Tryz.func203 fun B=>vJ []<|wH [3] rfl<|zY<|yF [4] rfl<|xW<|qW [(0,vS p nest c),(3,vT ([])),(4,vI 0)] ?_;obtain ⟨o0,ho0,hMl⟩:=zB N;refine zE3 nest (⟨[]⟩:Str) 0 o0 ho0 iR h (fun _ _ _ h=>h) (fun _ _ h=>h) ?_;intro I03 out1 heq le3;subst o0;refine zR<|wH [2] rfl<|zI<|yW ?_;obtain rfl:=zC hMl;exact wM
end Go.LN
