/- Helper of the proof (see the last text). -/
import Derived.Test.YtpacccdphbhfbaaGreatHM3
set_option linter.unusedVariables false
set_option linter.unusedSimpArgs false
namespace Go.LN
open Go.Proofs
set_option maxRecDepth 20000
def pC (a0:zA) (out:Str) (i:Int):Option (Str):=do
 if (decide (i < (a0.Coefs.length:Int))) then
  let x←idx a0.Coefs i
  let out2←(do
    if (x != 0) then
     let x1←idx a0.Coefs i
     let s←sslc (⟨[105,106,107,108]⟩:Str) i (W (i + 1))
     let y←kO x1 s
     let s1←cat out y
     pure (id s1)
    else
     pure (id out)
      : Option Str)
  pC a0 out2 (W (i + 1))
 else
  pure (id out)
 partial_fixpoint
theorem zCv (a0:zA):∀ (out:Str) (i:Int) (o:Str),pC a0 out i=some o→∀ {B}{I0 I:Imm}{Q p c}{b:Nat},I0.le I→(S4 I p a0.Coefs c)→NG Q→NO Q→(∀ (I':Imm) (out1:Str),o=out1→I0.le I'→T 46 B Q (.exit 0) I' [hB b (cAff a0 p c)] [(1,vP b 0),(3,vT out1.l)])→J Tryz.prog 46 B (nav (bodyOf Tryz.f238) [1,1,0,1,0]) Q I [hB b (cAff a0 p c)] [(1,vP b 0),(3,vT out.l),(4,vI i)]:=by
 refine pC.partial_correctness a0 _ fun self ih out i o N B I0 I Q p c b H h hg ho hx=>yY hg ho<|zZ<|yB<|yI [0] [9] rfl<|zJ<|yE N ?_ ?_
 · intro hc N;refine zT<|yA<|yL<|yB<|yD 3 [0] [13,14] rfl<|bE N fun x hy N=>xS rfl rfl h hy ?_;intro ad ccs hat hrep;obtain rfl:=hrep;refine xL 0 hat [vI x] (vI x) rfl<|yI [] [17] rfl<|zJ ?_;refine wD N [hB b (cAff a0 p c)] (fun out2=>[(1,vP b 0),(3,vT out2.l),(4,vI i)]) (fun o0 ho0=>?_) ?_
   · have H:=iS I;refine yE ho0 ?_ ?_
     · intro hc1 N;obtain ⟨x1,hy1,N⟩:=zB N;obtain ⟨s,hy2,N⟩:=zB N;obtain ⟨y,hy3,N⟩:=zB N;obtain ⟨s1,hy4,N⟩:=zB N;refine wS [.p (vT out.l) [],.p (vP b 0) [],.p (vS p a0.Coefs c) [0],.p (vI i) [],.x (fun I' v hx=>∃ ad1,v=.pointer (some ad1)∧hx=[]∧(At I' ad1 [vI x1])),.q (vI x1),.p (vI i) [],.p (vI i) [],.p (vI (W (i + 1))) [],.q (vT s.l),.q (vT y.l),.q (vT s1.l)] [[],[],[(1,false)],[],[(2,false),(3,false)],[(4,false)],[],[],[(7,false)],[(6,false),(8,false)],[(5,false),(9,false)],[(0,false),(10,false)]] [hB b (cAff a0 p c)] [] [(11,false)] (zY [0]) ?_ ?_
       · refine Op<|Op<|Op<|Op<|Ox ?_<|Oq ?_<|Op<|Op<|Op<|Oq ?_<|Oq ?_<|Oq ?_<|On
         · intro I1 hf le1;refine yS [20,21] rfl ?_;have h:=h.mono le1;refine xS rfl rfl h hy1 ?_;intro ad1 ccs1 hat1 hrep1;obtain rfl:=hrep1;exact yN [] iR ⟨_,rfl,rfl,hat1⟩
         · rintro I1 hf le1 _ _ ⟨ad1,rfl,rfl,hat1⟩;exact yS [22] rfl<|xL 0 hat1 [vI x1] (vI x1) rfl<|xF iR
         · intro I1 hf le1;exact yS [24,26] rfl<|zFX rfl hy2<|xF iR
         · intro I1 hf le1;refine yS [23,27] rfl ?_;have H:=iS I1;refine xP (zBJ x1 s _ hy3 ) ?_;rintro I01 hs2 v2 k2 le - ⟨v0,rfl,rfl,rfl⟩ -;have H:=H.trans le;exact xF H
         intro I1 hf le1;exact yS [18,28] rfl<|eF rfl hy4<|xF iR
       intro I02 le1;refine yS [1,4,29] rfl ?_;have H:=H.trans le1;exact yI [] [3] rfl<|yQ<|zR (ct N H)
     intro hc1 N;exact zT<|yQ<|zR (ct N H)
   intro out2 I0 le2 hMc;have ⟨h,H⟩:=m2 le2 h H;exact zQ<|zJ<|zO<|yI [] [4] rfl<|yZ<|mW<|ih out2 (W (i + 1)) _ hMc H h hg ho hx
 intro hc N;exact uA<|yQ<|hx _ _ (zC N).symm H
def mD (a0:zA):Option (Str):=do
 let out1←pC a0 (⟨[]⟩:Str) 0
 let out3←(do
   if (a0.Const != 0) then
    let y1←kO a0.Const (⟨[]⟩:Str)
    let s2←cat out1 y1
    pure (id s2)
   else
    pure (id out1)
     : Option Str)
 if (out3.l == ([]:List UInt8)) then
  pure (⟨[48]⟩:Str)
 else
  let s3←sslc out3 0 1
  if (s3.l == ([43]:List UInt8)) then
   let s4←sslc out3 1 (out3.l.length:Int)
   pure (id s4)
  else
   pure (id out3)
theorem eN:∀ a0 r,mD a0=some r→∀ {I:Imm}{p c},(S4 I p a0.Coefs c)→RT 238 [vA (cAff a0 p c)] I [] (rF  r):=by
 intro a0 r N I p c h;unfold mD at N;refine yJ Tryz.func238 fun B=>?_;have H:=iS I;refine yB<|vM (cAff a0 p c) ?_;intro b hb;refine xY [] []<|vV [3] rfl<|yA<|yH [4] rfl<|wK<|oM [(1,vP b 0),(3,vT ([])),(4,vI 0)] ?_;obtain ⟨o01,ho01,hMl⟩:=zB N;refine zCv a0 (⟨[]⟩:Str) 0 o01 ho01 iR h (fun _ _ _ h=>h) (fun _ _ h=>h) ?_;intro I03 out1 heq1 le3;subst o01;have H:=H.trans le3;refine zV<|yA<|yB<|yI [0] [32] rfl<|zJ ?_;refine wD hMl [] (fun out3=>[(3,vT out3.l)]) (fun o02 ho02=>?_) ?_
 · have H:=iS I03;refine yE ho02 ?_ ?_
   · intro hc2 N;refine zO<|yD 3 [0] [33,35] rfl<|bE N fun y1 hy5 N=>xP (zBJ a0.Const (⟨[]⟩:Str) _ hy5 ) ?_;rintro I05 hs2 v2 k2 le4 - ⟨v01,rfl,rfl,rfl⟩ -;have H:=H.trans le4;obtain ⟨s2,hy6,N⟩:=zB N;exact eF rfl hy6<|yI [] [3] rfl<|xV zP<|yQ<|zR (ct N H)
   intro hc2 N;exact zT<|xV zP<|yQ<|zR (ct N H)
 intro out3 I04 le5 hMc1;refine yA<|yH [39] rfl<|zJ<|yE hMc1 ?_ ?_
 · intro hc3 N;refine yH [2] rfl<|xB<|zI ?_;obtain rfl:=zC N;exact xZ
 intro hc3 N;refine zT<|yA<|yB<|yD 1 [] [40] rfl<|bE N fun s3 hy7 N=>zFX rfl hy7<|yI [] [42] rfl<|zJ<|yE N ?_ ?_
 · intro hc4 N;refine yB<|yD 1 [] [43] rfl<|bE N fun s4 hy8 N=>zFX rfl hy8<|yI [] [2] rfl<|xB<|zI ?_;obtain rfl:=zC N;exact xZ
 intro hc4 N;refine zT<|vV [2] rfl<|zJ<|yX ?_;obtain rfl:=zC N;exact xZ
def oI (a0:zA):Option (Str):=do
 let y←vQ a0
 if (!y) then
  pure (⟨[]⟩:Str)
 else
  let y1←mD a0
  pure (id y1)
theorem zBK:∀ a0 r,oI a0=some r→∀ {I:Imm}{p c},(S4 I p a0.Coefs c)→RT 253 [vA (cAff a0 p c)] I [] (rF  r):=by
 intro a0 r N I p c h;unfold oI at N;refine yJ Tryz.func253 fun B=>yB<|vM (cAff a0 p c) ?_;intro b hb;refine xY [] []<|yA<|yB<|sU 1 [0] [(3,vA (cAff a0 p c))]<|bE N fun y hy N=>wZ (mI a0 _ hy h) ?_;intro I0 le;have h:=h.mono le;refine yI [] [5] rfl<|zJ<|yE N ?_ ?_
 · intro hc N;refine yH [2] rfl<|xB<|zI ?_;obtain rfl:=zC N;exact xZ
 intro hc N;refine zT<|xE<|sU 1 [0] [(6,vA (cAff a0 p c))]<|bE N fun y1 hy1 N=>xP (eN a0 _ hy1 h) ?_;rintro I01 hs2 v2 k2 le1 - ⟨v01,rfl,rfl,rfl⟩ -;refine yI [] [2] rfl<|zJ<|yX ?_;obtain rfl:=zC N;exact xZ
def zAk (r:zA×Bool):KT:=fun kk I' hs' v=>
  ∃ v0 v1,hs'=[]∧v=tupV [v0,v1]∧(∃ cs,v0=.agg ⟨cs⟩∧Rp.rep I' cs r.1)∧v1=.bool r.2
def sO (text:Str) (at0:Int) (x:zA):Option (zA):=do
 let t18←(do
   if (decide (at0 ≥ 0)) then
    pure (decide (at0 < (text.l.length:Int)))
   else
    pure false
     : Option Bool)
 if t18 then
  let (y2,y3)←kW x text at0
  sO text y3 y2
 else
  pure (id x)
 partial_fixpoint
theorem zA0 (text:Str):∀ (at0:Int) (x:zA) (o:zA),sO text at0 x=some o→∀ {B}{I0 I:Imm}{Q}  {b:Nat}{b1:Nat}{p1 c1},I0.le I→(S4 I p1 x.Coefs c1)→NG Q→NO Q→(∀ (I':Imm) (x1:zA) (p2:Option Addr) (c2:Nat),o=x1→I0.le I'→(S4 I' p2 x1.Coefs c2)→T 32 B Q (.exit 0) I' [hB b1 (cAff x1 p2 c2),hB b [z0,vI 0]] [(0,vT text.l),(2,vP b 0),(4,vP b1 0)])→J Tryz.prog 32 B (nav (bodyOf Tryz.f242) [1,1,1,1,0,0]) Q I [hB b1 (cAff x p1 c1),hB b [z0,vI 0]] [(0,vT text.l),(2,vP b 0),(4,vP b1 0),(5,vI at0)]:=by
 refine sO.partial_correctness text _ fun self ih at0 x o N B I0 I Q b b1 p1 c1 H h2 hg ho hx=>yY hg ho<|zZ<|zZ ?_;refine wD N [hB b1 (cAff x p1 c1),hB b [z0,vI 0]] (fun t18=>[(0,vT text.l),(2,vP b 0),(4,vP b1 0),(5,vI at0),(18,.bool t18)]) (fun o0 ho0=>?_) ?_
 · have H:=iS I;refine zO<|yD 3 [] [13] rfl<|xQ [13] ho0 ?_ ?_
   · intro hc1 N;exact yI [] [18] rfl<|yQ<|zR (ct N H)
   intro hc1 N;exact xY [] [(18,vF)]<|yQ<|zR (ct N H)
 intro t18 I02 le2 hMc;have ⟨h2,H⟩:=m2 le2 h2 H;refine zJ<|yE hMc ?_ ?_
 · intro hc2 N;refine zT<|wK<|zO<|sU 3 [0] [(20,vA (cAff x p1 c1)),(21,vT text.l),(22,vI at0)] ?_;obtain ⟨⟨y2,y3⟩,hy1,N⟩:=zB N;refine xP (zED x text at0 _ hy1 h2) ?_;rintro I03 hs2 v2 k2 le3 - ⟨v0,v01,rfl,rfl,⟨cs1,rfl,h4⟩,rfl⟩ -;have H:=H.trans le3;obtain ⟨p3,c3,rfl,h6⟩:=yG h4;exact yD 7 [] [24,25] rfl<|xI 0 (cAff y2 p3 c3) rfl<|yI [] [5] rfl<|zQ<|yZ<|mW<|ih y3 y2 _ N H h6 hg ho hx
 intro hc2 N;exact uA<|yQ<|hx _ _ _ _ (zC N).symm H h2
def pD (text:Str):Option (zA×Bool):=do
 let y←pQ
 if (decide ((text.l.length:Int) > 40)) then
  pure ((zA.mk ([]:List Int) 0),false)
 else
  let x1←sO text 0 (zA.mk y.Coefs y.Const)
  let y4←oI x1
  if (!(y4.l == text.l)) then
   pure ((zA.mk ([]:List Int) 0),false)
  else
   pure (x1,true)
theorem fU:∀ text r,pD text=some r→∀ {I:Imm} ,RT 242 [vT text.l] I [] (zAk  r):=by
 intro text r N I;unfold pD at N;refine yJ Tryz.func242 fun B=>yB<|wU [z0,vI 0] ?_;intro b hb;refine xY [] []<|xE<|bE N fun y hy N=>xP (mL  _ hy ) ?_;rintro I0 hs2 v2 k2 le - ⟨p,c,cs,rfl,rfl,h⟩ -;refine wU [z0,vI 0] ?_;intro b1 hb1;refine xI 0 (cAff y p c) rfl<|yC rfl<|yA<|yH [9] rfl<|zJ<|yE N ?_ ?_
 · intro hc N;refine yB<|yD 1 [] [10] rfl<|xI 2 [z0,vI 0] rfl<|xY [] [(3,vF)]<|xB<|zI ?_;obtain rfl:=zC N;exact xC ⟨_,_,(.cell 2 rfl rfl (by kernel_rfl) (.tmp rfl ResV.nil)),zP,⟨_,_,rfl,rfl,⟨_,rfl,(yF ⟨_,rfl,(SL.nil _)⟩)⟩,rfl⟩⟩
 intro hc N;refine zT<|vV [5] rfl<|yA<|yL<|oY 1 rfl ?_;intro I01 le1 hl0;have h1:=SL.of_frozen hl0 le1 h;refine oM [(0,vT text.l),(2,vP b 0),(4,vP b1 0),(5,vI 0)] ?_;obtain ⟨o01,ho01,hMl⟩:=zB N;refine zA0 text 0 (zA.mk y.Coefs y.Const) o01 ho01 iR h1 (fun _ _ _ h=>h) (fun _ _ h=>h) ?_;intro I04 x1 p2 c2 heq1 le4 h3;subst o01;refine zV<|yA<|yB<|sU 1 [0] [(26,vA (cAff x1 p2 c2))] ?_;obtain ⟨y4,hy2,N⟩:=zB hMl;refine xP (zBK x1 _ hy2 h3) ?_;rintro I05 hs2 v2 k2 le5 - ⟨v03,rfl,rfl,rfl⟩ -;have h3:=h3.mono le5;refine yI [] [29] rfl<|zJ<|yE N ?_ ?_
 · intro hc3 N;refine yB<|yD 1 [] [30] rfl<|xI 1 [z0,vI 0] rfl<|xY [] [(3,vF)]<|xB<|zI ?_;obtain rfl:=zC N;exact xC ⟨_,_,(.cell 1 rfl rfl (by kernel_rfl) (.tmp rfl ResV.nil)),zP,⟨_,_,rfl,rfl,⟨_,rfl,(yF ⟨_,rfl,(SL.nil _)⟩)⟩,rfl⟩⟩
 intro hc3 N;refine zT<|xE<|sU 1 [0] [(31,vA (cAff x1 p2 c2))]<|xI 1 (cAff x1 p2 c2) rfl<|xY [] [(3,vY)]<|zJ<|yX ?_;obtain rfl:=zC N;exact xC ⟨_,_,(.cell 1 rfl rfl (by kernel_rfl) (.tmp rfl ResV.nil)),zP,⟨_,_,rfl,rfl,⟨_,rfl,(yF ⟨_,rfl,h3⟩)⟩,rfl⟩⟩
def zAl (r:(List zA)):KT:=fun kk I' hs' v=>
  ∃ v0,hs'=[]∧v=tupV [v0]∧SL I' v0 r
def tD (y:(List Str)) (out:List zA) (i:Int):Option (List zA):=do
 let t18←(do
   if (decide (i < (y.length:Int))) then
    pure (decide (i ≤ 2))
   else
    pure false
     : Option Bool)
 if t18 then
  let x←idx y i
  let (y2,y3)←pD x
  let out2←app 32 out ([y2]:List zA)
  tD y out2 (W (i + 1))
 else
  pure (id out)
 partial_fixpoint
theorem zA1 (y:(List Str)):∀ (out:List zA) (i:Int) (o:List zA),tD y out i=some o→∀ {B}{I0 I:Imm}{Q p c p1 c1 cs},I0.le I→(S4 I p y c)→(RL I cs out)→NG Q→NO Q→(∀ (I':Imm) (out1:List zA) (p2:Option Addr) (c2:Nat) (cs1:List Value),o=out1→I0.le I'→(RL I' cs1 out1)→T 34 B Q (.exit 0) I' [hO zA (vS p2 out1 c2) cs1] [(3,vS p2 out1 c2)])→J Tryz.prog 34 B (nav (bodyOf Tryz.f236) [1,1,1,0,1,0]) Q I [hO zA (vS p1 out c1) cs] [(3,vS p1 out c1),(4,vS p y c),(5,vI i)]:=by
 refine tD.partial_correctness y _ fun self ih out i o N B I0 I Q p c p1 c1 cs H h1 h2 hg ho hx=>yY hg ho<|zZ<|zZ ?_;refine wD N [hO zA (vS p1 out c1) cs] (fun t18=>[(3,vS p1 out c1),(4,vS p y c),(5,vI i),(18,.bool t18)]) (fun o0 ho0=>?_) ?_
 · have H:=iS I;refine zO<|yD 5 [] [15] rfl<|xQ [15] ho0 ?_ ?_
   · intro hc N;exact yI [] [18] rfl<|yQ<|zR (ct N H)
   intro hc N;exact xY [] [(18,vF)]<|yQ<|zR (ct N H)
 intro t18 I01 le1 hMc;have ⟨h2,h1,H⟩:=m3 le1 h2 h1 H;refine zJ<|yE hMc ?_ ?_
 · intro hc1 N;refine zT<|yA<|yL<|yB<|yD 2 [] [22,23] rfl<|bE N fun x hy1 N=>xS rfl rfl h1 hy1 ?_;intro ad ccs hat hrep;obtain rfl:=hrep;refine xL 0 hat [vT x.l] (vT x.l) rfl ?_;obtain ⟨⟨y2,y3⟩,hy2,N⟩:=zB N;refine xP (fU x _ hy2 ) ?_;rintro I02 hs2 v2 k2 le2 - ⟨v01,v02,rfl,rfl,⟨cs2,rfl,h4⟩,rfl⟩ -;have ⟨h2,h1,H⟩:=m3 le2 h2 h1 H;obtain ⟨p3,c3,rfl,h6⟩:=yG h4;refine yD 8 [] [27,28] rfl<|wU [z0,vI 0] ?_;intro b1 hb1;refine xI 0 (cAff y2 p3 c3) rfl<|xY [] []<|zJ<|zO<|sU 2 [0] [(29,vS p1 out c1),(30,vA (cAff y2 p3 c3))]<|tJ (cAff y2 p3 c3) zA ?_;intro b2 hb2;have h7:RL I02 (cAff y2 p3 c3) ([y2]:List zA):=⟨(cAff y2 p3 c3),_,rfl,rfl,(yF ⟨_,rfl,h6⟩),rfl⟩;obtain ⟨out2,hy3,N⟩:=zB N;exact pP 43 2 2 rfl rfl rfl h2 (.inr ⟨0,rfl⟩) h7 hy3 fun p4 c4 cs3 h8=>sX (zY [1,2] (hs':=[hB b1 (cAff y2 p3 c3),hO zA (vS p4 out2 c4) cs3]))<|yI [] [3] rfl<|zQ<|zJ<|zO<|yI [] [5] rfl<|yZ<|kP (zX [1] rfl (by decide))<|mW<|ih out2 (W (i + 1)) _ N H h1 h8 hg ho hx
 intro hc1 N;exact uA<|yQ<|hx _ _ _ _ _ (zC N).symm H h2
def nD (text:Str):Option ((List zA)):=do
 let y←jN text (44:UInt8)
 let out1←tD y ([]:List zA) 0
 pure (id out1)
theorem zB9:∀ text r,nD text=some r→∀ {I:Imm} ,RT 236 [vT text.l] I [] (zAl  r):=by
 intro text r N I;unfold nD at N;refine yJ Tryz.func236 fun B=>vU []<|xE<|tJ [] zA ?_;intro b hb;have h:RL I [] ([]:List zA):=rfl;refine yI [] [3] rfl<|xE<|yD 1 [] [9] rfl<|bE N fun y hy N=>xP (zEq text (44:UInt8) _ hy ) ?_;rintro I0 hs2 v2 k2 le - ⟨v0,rfl,rfl,h1⟩ -;have h:=iM le h;obtain ⟨p,c,rfl⟩:=h1.form;refine yI [] [4] rfl<|yA<|yH [5] rfl<|wK<|oM [(3,vS (some ⟨b,0,none⟩) ([]:List zA) 0),(4,vS p y c),(5,vI 0)] ?_;obtain ⟨o01,ho01,hMl⟩:=zB N;refine zA1 y ([]:List zA) 0 o01 ho01 iR h1 h (fun _ _ _ h=>h) (fun _ _ h=>h) ?_;intro I03 out1 p2 c2 cs1 heq1 le3 h3;subst o01;refine zV<|vV [2] rfl<|xB<|xJ 0 rfl ?_;intro I04 le4 hl0;have h9:=SL.of_frozen hl0 le4 h3;obtain rfl:=zC hMl;exact xC ⟨_,_,(.tmp rfl ResV.nil),zP,⟨_,rfl,rfl,h9⟩⟩
def qB (s:Str) (end0:UInt8) (i:Int):Option (Out Unit (Int)):=do
 if (decide (i < (s.l.length:Int))) then
  let b←sidx s i
  if ((b.toNat:Int) == (end0.toNat:Int)) then
   pure (.ret i)
  else
   qB s end0 (W (i + 1))
 else
  pure (.done ())
 partial_fixpoint
theorem zCG (s:Str) (end0:UInt8):∀ (i:Int) (o:Out Unit (Int)),qB s end0 i=some o→∀ {B}{I0 I:Imm}{Q}  ,I0.le I→NG Q→NO Q→(∀ (I':Imm) ,o=(.done ())→I0.le I'→T 21 B Q (.exit 0) I' [] [])→(∀ r I' hs' m',o=(.ret r)→I0.le I'→RS Tryz.prog Tryz.f241 B (yP  r) I' hs' m'→T 21 B Q .ret I' hs' m')→J Tryz.prog 21 B (nav (bodyOf Tryz.f241) [1,0,1,0]) Q I [] [(0,vT s.l),(2,.int .u8 (end0.toNat:Int)),(7,vI i)]:=by
 refine qB.partial_correctness s end0 _ fun self ih i o N B I0 I Q H hg ho hx hr=>yY hg ho<|zZ<|yH [12] rfl<|zJ<|yE N ?_ ?_
 · intro hc N;refine zT<|yA<|yL<|yB<|yD 2 [] [15,16] rfl<|bE N fun b hy N=>eU rfl rfl hy<|yI [] [19] rfl<|zJ<|yE N ?_ ?_
   · intro hc1 N;exact yH [6] rfl<|xB<|zU<|zI<|zI<|hr _ _ _ _ (zC N).symm H ⟨_,_,(.tmp rfl ResV.nil),zP,⟨_,rfl,rfl,rfl⟩⟩
   intro hc1 N;exact zT<|zQ<|zJ<|zO<|yI [] [7] rfl<|yZ<|mW<|ih (W (i + 1)) _ N H  hg ho hx hr
 intro hc N;exact uA<|yQ<|hx _  (zC N).symm H
def mN (s:Str) (at0:Int) (end0:UInt8):Option (Int):=do
 match←qB s end0 at0 with
 | .ret r0=>pure r0
 | .done _ =>
  pure (-1)
theorem zAe:∀ s at0 end0 r,mN s at0 end0=some r→∀ {I:Imm} ,RT 241 [vT s.l,vI at0,.int .u8 (end0.toNat:Int)] I [] (yP  r):=by
 intro s at0 end0 r N I;unfold mN at N;refine yJ Tryz.func241 fun B=>vU []<|yA<|yH [7] rfl<|wK<|oM [(0,vT s.l),(2,.int .u8 (end0.toNat:Int)),(7,vI at0)] ?_;obtain ⟨o0,ho0,hMl⟩:=zB N;refine zCG s end0 at0 o0 ho0 iR  (fun _ _ _ h=>h) (fun _ _ h=>h) ?_ ?_
 · intro I0  heq le;subst o0;refine zV<|vV [6] rfl<|zJ<|yX ?_;obtain rfl:=zC hMl;exact xZ
 intro r0 I9 hs9 m9 heq9 le9 hrs9;subst heq9;refine zU<|zI ?_;obtain rfl:=zC hMl;exact xC hrs9
def zAN (r:zG×Int):KT:=fun kk I' hs' v=>
  ∃ v0 v1,hs'=[]∧v=tupV [v0,v1]∧(∃ cs,v0=.agg ⟨cs⟩∧Rp.rep I' cs r.1)∧v1=.int .i64 r.2
def rG (s:Str) (at0:Int):Option (zG×Int):=do
 let y←mN s at0 (93:UInt8)
 let t20←(do
   if (decide (y < (W (at0 + 2)))) then
    pure true
   else
    let b1←sidx s (W (at0 + 1))
    pure ((b1.toNat:Int) != 91)
     : Option Bool)
 if t20 then
  pure ((zG.mk (⟨[]⟩:Str) ([]:List zA)),(-1))
 else
  let s1←sslc s at0 (W (at0 + 1))
  let s2←sslc s (W (at0 + 2)) y
  let y1←nD s2
  pure ((zG.mk s1 y1),(W (y + 1)))
theorem gO:∀ s at0 r,rG s at0=some r→∀ {I:Imm} ,RT 214 [vT s.l,vI at0] I [] (zAN  r):=by
 intro s at0 r N I;unfold rG at N;refine yJ Tryz.func214 fun B=>?_;have H:=iS I;refine yB<|wU [vT ([]),z0] ?_;intro b hb;refine xY [] []<|xE<|yD 2 [] [7,8] rfl<|bE N fun y hy N=>oH (zAe s at0 (93:UInt8) _ hy ) ?_;intro I0 le;have H:=H.trans le;refine yI [] [6] rfl<|yA<|zZ ?_;refine wD N [hB b [vT ([]),z0]] (fun t20=>[(0,vT s.l),(1,vI at0),(4,vP b 0),(6,vI y),(20,.bool t20)]) (fun o0 ho0=>?_) ?_
 · have H:=iS I0;refine zO<|yD 5 [] [14] rfl<|xQ [14] ho0 ?_ ?_
   · intro hc N;exact xY [] [(20,vY)]<|yQ<|zR (ct N H)
   intro hc N;exact yD 8 [] [15,17] rfl<|bE N fun b1 hy1 N=>eU rfl rfl hy1<|yI [] [20] rfl<|yQ<|zR (ct N H)
 intro t20 I01 le1 hMc;have H:=H.trans le1;refine zJ<|yE hMc ?_ ?_
 · intro hc1 N;refine yB<|yD 1 [] [21] rfl<|xI 0 [vT ([]),z0] rfl<|yI [] [5] rfl<|xB<|zI ?_;obtain rfl:=zC N;exact xC ⟨_,_,(.cell 0 rfl rfl (by kernel_rfl) (.tmp rfl ResV.nil)),zP,⟨_,_,rfl,rfl,⟨_,rfl,(qT ⟨_,rfl,(SL.nil _)⟩)⟩,rfl⟩⟩
 intro hc1 N;refine zT<|zJ<|zZ ?_;obtain ⟨s1,hy2,N⟩:=zB N;obtain ⟨s2,hy3,N⟩:=zB N;obtain ⟨y1,hy4,N⟩:=zB N;refine wS [.p (vT s.l) [],.p (vI at0) [],.p (vI at0) [],.p (vI (W (at0 + 1))) [],.q (vT s1.l),.p (vT s.l) [],.p (vI at0) [],.p (vI (W (at0 + 2))) [],.p (vI y) [],.q (vT s2.l),.x (eS y1),.x (fun I' v hx=>∃ p1 c1,v=vA [vT s1.l,vS p1 y1 c1]∧hx=[]∧(S4 I' p1 y1 c1)),.p (vI y) [],.p (vI (W (y + 1))) [],.x (fun I' v hx=>∃ p11 c11,hx=[hB b [vT s1.l,vS p11 y1 c11]]∧(S4 I' p11 y1 c11))] [[],[],[],[(2,false)],[(0,false),(1,false),(3,false)],[],[],[(6,false)],[],[(5,false),(7,false),(8,false)],[(9,false)],[(4,false),(10,false)],[],[(12,false)],[(11,false),(16,true)]] [] [[hB b [vT ([]),z0]]] [(13,false),(14,true)] (zY [0]) ?_ ?_
 · refine Op<|Op<|Op<|Op<|Oq ?_<|Op<|Op<|Op<|Op<|Oq ?_<|Ox ?_<|Ox ?_<|Op<|Op<|Ox ?_<|On
   · intro I1 hf le1;exact yS [22,23,25] rfl<|zFX rfl hy2<|xF iR
   · intro I1 hf le1;exact yS [27,29,30] rfl<|zFX rfl hy3<|xF iR
   · intro I1 hf le1;refine yS [31] rfl ?_;have H:=iS I1;refine xP (zB9 s2 _ hy4 ) ?_;rintro I02 hs2 v2 k2 le2 - ⟨v01,rfl,rfl,h1⟩ -;have H:=H.trans le2;obtain ⟨p,c,rfl⟩:=h1.form;exact yN [] H ⟨_,_,rfl,rfl,h1⟩
   · rintro I1 hf le1 _ _ ⟨rfl,rfl⟩ _ _ ⟨p,c,rfl,rfl,h1⟩;exact yS [26,32] rfl<|qQ 12 [(33,vA [vT s1.l,vS p y1 c])]<|yN [] iR ⟨_,_,rfl,rfl,h1⟩
   rintro I1 hf le1 _ _ ⟨p1,c1,rfl,rfl,h11⟩ _ _ rfl;refine yS [4,33] rfl ?_;have H:=iS I1;exact zDR 0 [vT s1.l,vS p1 y1 c1] (hB b [vT s1.l,vS p1 y1 c1]::hf) rfl rfl rfl rfl<|zE6 (hx:=[hB b [vT s1.l,vS p1 y1 c1]]) rfl H rfl (zGg (v:=undef)) ⟨_,_,rfl,h11⟩
 rintro I03 le3 _ _ ⟨rfl,rfl⟩ _ _ ⟨p11,c11,rfl,h111⟩;refine yS [4,35] rfl ?_;refine yI [] [5] rfl<|zJ<|yX ?_;obtain rfl:=zC N;exact xC ⟨_,_,(.cell 0 rfl rfl (by kernel_rfl) (.tmp rfl ResV.nil)),zP,⟨_,_,rfl,rfl,⟨_,rfl,(qT ⟨_,rfl,h111⟩)⟩,rfl⟩⟩
def gG (r:zD×Int):KT:=fun kk I' hs' v=>
  ∃ v0 v1,hs'=[]∧v=tupV [v0,v1]∧(∃ cs,v0=.agg ⟨cs⟩∧Rp.rep I' cs r.1)∧v1=.int .i64 r.2
mutual
def kX (s:Str) (at0:Int) (levels:Int):Option (zD×Int):=do
 let (y1,y2)←qC (same s) (same at0) (same levels)
 let t27←(do
   if (decide (y2 < 0)) then
    pure true
   else
    pure (decide (y2 ≥ (s.l.length:Int)))
     : Option Bool)
 if t27 then
  pure ((zD.mk 0 0 (zA.mk ([]:List Int) 0) (zG.mk (⟨[]⟩:Str) ([]:List zA)) ([]:List zD)),(-1))
 else
  let b2←sidx s y2
  let kind←(do
    if ((b2.toNat:Int) == 45) then
     pure (id 5)
    else
     let kind1←(do
       if ((b2.toNat:Int) == 42) then
        pure (id 6)
       else
        pure (id 4)
         : Option Int)
     pure (id kind1)
      : Option Int)
  let (y4,y5)←qC (same s) (W (y2 + 1)) (same levels)
  let t51←(do
    if (decide (y5 < 0)) then
     pure true
    else
     pure (decide (y5 ≥ (s.l.length:Int)))
      : Option Bool)
  if t51 then
   pure ((zD.mk 0 0 (zA.mk ([]:List Int) 0) (zG.mk (⟨[]⟩:Str) ([]:List zA)) ([]:List zD)),(-1))
  else
   pure ((zD.mk kind 0 (zA.mk ([]:List Int) 0) (zG.mk (⟨[]⟩:Str) ([]:List zA)) ([y1,y4]:List zD)),(W (y5 + 1)))
 partial_fixpoint
def qC (s:Str) (at0:Int) (levels:Int):Option (zD×Int):=do
 let t26←(do
   if (decide (levels < 1)) then
    pure true
   else
    if (decide (at0 < 0)) then
     pure true
    else
     pure (decide (at0 ≥ (s.l.length:Int)))
     : Option Bool)
 if t26 then
  pure ((zD.mk 0 0 (zA.mk ([]:List Int) 0) (zG.mk (⟨[]⟩:Str) ([]:List zA)) ([]:List zD)),(-1))
 else
  let b1←sidx s at0
  if ((b1.toNat:Int) == 123) then
   let y←mN s at0 (125:UInt8)
   if (decide (y < 0)) then
    pure ((zD.mk 0 0 (zA.mk ([]:List Int) 0) (zG.mk (⟨[]⟩:Str) ([]:List zA)) ([]:List zD)),(-1))
   else
    let s1←sslc s (W (at0 + 1)) y
    let (y2,y3)←pD s1
    pure ((zD.mk 2 0 y2 (zG.mk (⟨[]⟩:Str) ([]:List zA)) ([]:List zD)),(W (y + 1)))
  else
   let t52←(do
     let b3←sidx s at0
     if (decide ((b3.toNat:Int) ≥ 65)) then
      let b4←sidx s at0
      pure (decide ((b4.toNat:Int) ≤ 68))
     else
      pure false
       : Option Bool)
   if t52 then
    let (y5,y6)←rG s at0
    pure ((zD.mk 3 0 (zA.mk ([]:List Int) 0) y5 ([]:List zD)),y6)
   else
    let b6←sidx s at0
    if ((b6.toNat:Int) == 40) then
     let (y8,y9)←kX (same s) (W (at0 + 1)) (W (levels - 1))
     pure (y8,y9)
    else
     let (y11,y12)←nL s at0
     if (y12 == at0) then
      pure ((zD.mk 0 0 (zA.mk ([]:List Int) 0) (zG.mk (⟨[]⟩:Str) ([]:List zA)) ([]:List zD)),(-1))
     else
      pure ((zD.mk 1 y11 (zA.mk ([]:List Int) 0) (zG.mk (⟨[]⟩:Str) ([]:List zA)) ([]:List zD)),y12)
 partial_fixpoint
end
theorem zDb:(∀ (s:Str) (at0:Int) (levels:Int) r,kX s at0 levels=some r→∀ {I:Imm} ,RT 243 [vT s.l,vI at0,vI levels] I [] (gG  r))∧(∀ (s:Str) (at0:Int) (levels:Int) r,qC s at0 levels=some r→∀ {I:Imm} ,RT 215 [vT s.l,vI at0,vI levels] I [] (gG  r)):=by
  refine kX.mutual_partial_correctness _ _ ?_ ?_
  · intro F_spec_l3Parse ih_spec_l3Parse s at0 levels r N I;refine yJ Tryz.func243 fun B=>?_;have H:=iS I;refine yB<|wU zExpr ?_;intro b hb;refine xY [] []<|xE<|yD 3 [] [14,15,16] rfl ?_;obtain ⟨⟨y1,y2⟩,hy,N⟩:=zB N;refine xP (ih_spec_l3Parse s at0 levels _ hy ) ?_;rintro I0 hs2 v2 k2 le - ⟨v0,v01,rfl,rfl,⟨cs,rfl,h⟩,rfl⟩ -;have H:=H.trans le;obtain ⟨p,c,p1,c1,p2,c2,rfl,h2,h3,h4⟩:=xX h;refine yD 7 [] [18,19] rfl<|wU zExpr ?_;intro b1 hb1;refine xI 0 (cExpr y1 p c p1 c1 p2 c2) rfl<|yI [] [9] rfl<|yA<|zZ ?_;refine wD N [hB b1 (cExpr y1 p c p1 c1 p2 c2),hB b zExpr] (fun t27=>[(0,vT s.l),(2,vI levels),(6,vP b 0),(8,vP b1 0),(9,vI y2),(27,.bool t27)]) (fun o0 ho0=>?_) ?_
    · have H:=iS I0;refine zO<|yD 3 [] [22] rfl<|xQ [22] ho0 ?_ ?_
      · intro hc N;exact xY [] [(27,vY)]<|yQ<|zR (ct N H)
      intro hc N;exact yI [] [27] rfl<|yQ<|zR (ct N H)
    intro t27 I01 le1 hMc;have ⟨h2,h3,h4,H⟩:=m4 le1 h2 h3 h4 H;refine zJ<|yE hMc ?_ ?_
    · intro hc1 N;refine yB<|yD 1 [] [28] rfl<|zDR 1 zExpr [hB b1 (cExpr y1 p c p1 c1 p2 c2),hB b zExpr] rfl rfl rfl rfl<|yI [] [7] rfl<|xB<|zI ?_;obtain rfl:=zC N;exact xC ⟨_,_,(.cell 1 rfl rfl (by kernel_rfl) (.tmp rfl ResV.nil)),zP,⟨_,_,rfl,rfl,⟨_,rfl,(xM ⟨_,_,_,rfl,(SL.nil _),(SL.nil _),(SL.nil _)⟩)⟩,rfl⟩⟩
    intro hc1 N;refine zT<|vV [10] rfl<|yA<|yB<|yD 2 [] [29,30] rfl<|bE N fun b2 hy1 N=>eU rfl rfl hy1<|yC rfl<|wK<|yH [32] rfl<|zJ ?_;refine wD N [hB b1 (cExpr y1 p c p1 c1 p2 c2),hB b zExpr] (fun kind=>[(0,vT s.l),(2,vI levels),(6,vP b 0),(8,vP b1 0),(9,vI y2),(10,vI kind)]) (fun o01 ho01=>?_) ?_
    · have H:=iS I01;refine yE ho01 ?_ ?_
      · intro hc2 N;exact zO<|yI [] [10] rfl<|yQ<|zR (ct N H)
      intro hc2 N;refine yH [34] rfl<|zJ ?_;refine wD N [hB b1 (cExpr y1 p c p1 c1 p2 c2),hB b zExpr] (fun kind1=>[(0,vT s.l),(2,vI levels),(6,vP b 0),(8,vP b1 0),(9,vI y2),(10,vI kind1)]) (fun o02 ho02=>?_) ?_
      · have H:=iS I01;refine yE ho02 ?_ ?_
        · intro hc3 N;exact zO<|yI [] [10] rfl<|yQ<|zR (ct N H)
        intro hc3 N;exact zT<|yQ<|zR (ct N H)
      intro kind1 I03 le2 hMc2;have H:=H.trans le2;exact yQ<|zR (ct hMc2 H)
    intro kind I02 le3 hMc1;have ⟨h2,h3,h4,H⟩:=m4 le3 h2 h3 h4 H;refine zQ<|xE<|yD 4 [] [37,39,40] rfl ?_;obtain ⟨⟨y4,y5⟩,hy2,N⟩:=zB hMc1;refine xP (ih_spec_l3Parse s (W (y2 + 1)) levels _ hy2 ) ?_;rintro I04 hs2 v2 k2 le4 - ⟨v05,v06,rfl,rfl,⟨cs1,rfl,h5⟩,rfl⟩ -;have ⟨h2,h3,h4,H⟩:=m4 le4 h2 h3 h4 H;obtain ⟨p3,c3,p4,c4,p5,c5,rfl,h7,h8,h9⟩:=xX h5;refine yD 8 [] [42,43] rfl<|wU zExpr ?_;intro b3 hb2;refine xI 0 (cExpr y4 p3 c3 p4 c4 p5 c5) rfl<|yI [] [12] rfl<|yA<|zZ ?_;refine wD N [hB b3 (cExpr y4 p3 c3 p4 c4 p5 c5),hB b1 (cExpr y1 p c p1 c1 p2 c2),hB b zExpr] (fun t51=>[(6,vP b 0),(8,vP b1 0),(10,vI kind),(11,vP b3 0),(12,vI y5),(51,.bool t51)]) (fun o03 ho03=>?_) ?_
    · have H:=iS I04;refine zO<|yD 3 [] [46] rfl<|xQ [46] ho03 ?_ ?_
      · intro hc4 N;exact xY [] [(51,vY)]<|yQ<|zR (ct N H)
      intro hc4 N;exact yI [] [51] rfl<|yQ<|zR (ct N H)
    intro t51 I05 le5 hMc3;have ⟨h7,h8,h9,h2,h3,h4⟩:=m6 le5 h7 h8 h9 h2 h3 h4;refine zJ<|yE hMc3 ?_ ?_
    · intro hc5 N;refine yB<|yD 1 [] [52] rfl<|zDR 2 zExpr [hB b3 (cExpr y4 p3 c3 p4 c4 p5 c5),hB b1 (cExpr y1 p c p1 c1 p2 c2),hB b zExpr] rfl rfl rfl rfl<|yI [] [7] rfl<|xB<|zI ?_;obtain rfl:=zC N;exact xC ⟨_,_,(.cell 2 rfl rfl (by kernel_rfl) (.tmp rfl ResV.nil)),zP,⟨_,_,rfl,rfl,⟨_,rfl,(xM ⟨_,_,_,rfl,(SL.nil _),(SL.nil _),(SL.nil _)⟩)⟩,rfl⟩⟩
    intro hc5 N;refine zT<|xE<|sU 3 [1,0] [(53,vI kind),(54,vA (cExpr y1 p c p1 c1 p2 c2)),(55,vA (cExpr y4 p3 c3 p4 c4 p5 c5))]<|tJ [vI y1.Kind,vI y1.Num,vS p y1.Index.Coefs c,vI y1.Index.Const,vT y1.Read.Array.l,vS p1 y1.Read.Subs c1,vS p2 y1.Kids c2,vI y4.Kind,vI y4.Num,vS p3 y4.Index.Coefs c3,vI y4.Index.Const,vT y4.Read.Array.l,vS p4 y4.Read.Subs c4,vS p5 y4.Kids c5] zD ?_;intro b4 hb3;have h10:RL I05 [vI y1.Kind,vI y1.Num,vS p y1.Index.Coefs c,vI y1.Index.Const,vT y1.Read.Array.l,vS p1 y1.Read.Subs c1,vS p2 y1.Kids c2,vI y4.Kind,vI y4.Num,vS p3 y4.Index.Coefs c3,vI y4.Index.Const,vT y4.Read.Array.l,vS p4 y4.Read.Subs c4,vS p5 y4.Kids c5] ([y1,y4]:List zD):=⟨(cExpr y1 p c p1 c1 p2 c2),_,rfl,rfl,(xM ⟨_,_,_,rfl,h2,h3,h4⟩),⟨(cExpr y4 p3 c3 p4 c4 p5 c5),_,rfl,rfl,(xM ⟨_,_,_,rfl,h7,h8,h9⟩),rfl⟩⟩;refine yD 7 [] [57,59] rfl<|xI 3 [vI kind,vI 0,z0,vI 0,vT ([]),z0,vS (some ⟨b4,0,none⟩) ([y1,y4]:List zD) 2] rfl<|yI [] [7] rfl<|xB<|xJ 0 rfl ?_;intro I06 le6 hl0;have h11:=SL.of_frozen hl0 le6 h10;obtain rfl:=zC N;exact xC ⟨_,_,(.cell 2 rfl rfl (by kernel_rfl) (.tmp rfl ResV.nil)),zP,⟨_,_,rfl,rfl,⟨_,rfl,(xM ⟨_,_,_,rfl,(SL.nil _),(SL.nil _),h11⟩)⟩,rfl⟩⟩
  intro F_spec_l3Round ih_spec_l3Round s at0 levels r N I;refine yJ Tryz.func215 fun B=>?_;have H:=iS I;refine yB<|wU zExpr ?_;intro b hb;refine xY [] []<|yA<|zZ ?_;refine wD N [hB b zExpr] (fun t26=>[(0,vT s.l),(1,vI at0),(2,vI levels),(6,vP b 0),(26,.bool t26)]) (fun o0 ho0=>?_) ?_
  · have H:=iS I;refine zO<|yD 3 [] [17] rfl<|xQ [17] ho0 ?_ ?_
    · intro hc N;exact xY [] [(26,vY)]<|yQ<|zR (ct N H)
    intro hc N;refine yD 7 [] [21] rfl<|xQ [21] N ?_ ?_
    · intro hc1 N;exact xY [] [(26,vY)]<|yQ<|zR (ct N H)
    intro hc1 N;exact yI [] [26] rfl<|yQ<|zR (ct N H)
  intro t26 I0 le hMc;have H:=H.trans le;refine zJ<|yE hMc ?_ ?_
  · intro hc2 N;refine yB<|yD 1 [] [27] rfl<|zDR 0 zExpr [hB b zExpr] rfl rfl rfl rfl<|yI [] [7] rfl<|xB<|zI ?_;obtain rfl:=zC N;exact xC ⟨_,_,(.cell 0 rfl rfl (by kernel_rfl) (.tmp rfl ResV.nil)),zP,⟨_,_,rfl,rfl,⟨_,rfl,(xM ⟨_,_,_,rfl,(SL.nil _),(SL.nil _),(SL.nil _)⟩)⟩,rfl⟩⟩
  intro hc2 N;refine zT<|yA<|yL<|yB<|yD 2 [] [29,30] rfl<|bE N fun b1 hy N=>eU rfl rfl hy<|yI [] [28] rfl<|zJ<|yE N ?_ ?_
  · intro hc3 N;refine yB<|yD 2 [] [33,34] rfl<|bE N fun y hy1 N=>oH (zAe s at0 (125:UInt8) _ hy1 ) fun I01 le1=>xY [] [(8,vI y)]<|yA<|vU [(37,.bool (decide (y < 0)))]<|zJ<|yE N ?_ ?_
    · intro hc4 N;refine yB<|yD 1 [] [38] rfl<|zDR 0 zExpr [hB b zExpr] rfl rfl rfl rfl<|yI [] [7] rfl<|xB<|zI<|zU<|zI ?_;obtain rfl:=zC N;exact xC ⟨_,_,(.cell 0 rfl rfl (by kernel_rfl) (.tmp rfl ResV.nil)),zP,⟨_,_,rfl,rfl,⟨_,rfl,(xM ⟨_,_,_,rfl,(SL.nil _),(SL.nil _),(SL.nil _)⟩)⟩,rfl⟩⟩
    intro hc4 N;refine zT<|xE<|yD 4 [] [40,42,43] rfl<|bE N fun s1 hy2 N=>zFX rfl hy2 ?_;obtain ⟨⟨y2,y3⟩,hy3,N⟩:=zB N;refine xP (fU s1 _ hy3 ) ?_;rintro I02 hs2 v2 k2 le2 - ⟨v01,v02,rfl,rfl,⟨cs,rfl,h1⟩,rfl⟩ -;obtain ⟨p,c,rfl,h3⟩:=yG h1;refine yD 9 [] [46,47] rfl<|wU [z0,vI 0] ?_;intro b2 hb1;refine xI 0 (cAff y2 p c) rfl<|xY [] []<|xE<|sU 4 [0] [(49,vA [vI 2,vI 0,vS p y2.Coefs c,vI y2.Const,vT ([]),z0,z0]),(51,vI (W (y + 1)))]<|xI 1 [vI 2,vI 0,vS p y2.Coefs c,vI y2.Const,vT ([]),z0,z0] rfl<|yI [] [7] rfl<|xB<|zU<|zI ?_;obtain rfl:=zC N;exact xC ⟨_,_,(.cell 1 rfl rfl (by kernel_rfl) (.tmp rfl ResV.nil)),zP,⟨_,_,rfl,rfl,⟨_,rfl,(xM ⟨_,_,_,rfl,h3,(SL.nil _),(SL.nil _)⟩)⟩,rfl⟩⟩
  intro hc3 N;refine zZ ?_;refine wD N [hB b zExpr] (fun t52=>[(0,vT s.l),(1,vI at0),(2,vI levels),(6,vP b 0),(52,.bool t52)]) (fun o01 ho01=>?_) ?_
  · have H:=iS I0;refine zO<|yD 2 [] [53,54] rfl ?_;obtain ⟨b3,hy4,N⟩:=zB ho01;refine eU rfl rfl hy4<|yD 5 [] [57] rfl<|xQ [57] N ?_ ?_
    · intro hc5 N;exact yD 7 [] [58,59] rfl<|bE N fun b4 hy5 N=>eU rfl rfl hy5<|yI [] [52] rfl<|yQ<|zR (ct N H)
    intro hc5 N;exact xY [] [(52,vF)]<|yQ<|zR (ct N H)
  intro t52 I03 le3 hMc1;refine zJ<|yE hMc1 ?_ ?_
  · intro hc6 N;refine yB<|yD 2 [] [64,65] rfl ?_;obtain ⟨⟨y5,y6⟩,hy6,N⟩:=zB N;refine xP (gO s at0 _ hy6 ) ?_;rintro I04 hs2 v2 k2 le4 - ⟨v04,v05,rfl,rfl,⟨cs1,rfl,h4⟩,rfl⟩ -;obtain ⟨p1,c1,rfl,h6⟩:=rS h4;refine yD 6 [] [67,68] rfl<|wU [vT ([]),z0] ?_;intro b5 hb2;refine xI 0 (cAccess y5 p1 c1) rfl<|yI [] [12] rfl<|xE<|sU 3 [0] [(70,vA [vI 3,vI 0,z0,vI 0,vT y5.Array.l,vS p1 y5.Subs c1,z0]),(71,vI y6)]<|xI 1 [vI 3,vI 0,z0,vI 0,vT y5.Array.l,vS p1 y5.Subs c1,z0] rfl<|yI [] [7] rfl<|xB<|zU<|zI ?_;obtain rfl:=zC N;exact xC ⟨_,_,(.cell 1 rfl rfl (by kernel_rfl) (.tmp rfl ResV.nil)),zP,⟨_,_,rfl,rfl,⟨_,rfl,(xM ⟨_,_,_,rfl,(SL.nil _),h6,(SL.nil _)⟩)⟩,rfl⟩⟩
  intro hc6 N;refine yB<|yD 2 [] [73,74] rfl<|bE N fun b6 hy7 N=>eU rfl rfl hy7<|yI [] [72] rfl<|zJ<|yE N ?_ ?_
  · intro hc7 N;refine yB<|yD 5 [] [77,79,81] rfl ?_;obtain ⟨⟨y8,y9⟩,hy8,N⟩:=zB N;refine xP (ih_spec_l3Round s (W (at0 + 1)) (W (levels - 1)) _ hy8 ) ?_;rintro I05 hs2 v2 k2 le5 - ⟨v07,v08,rfl,rfl,⟨cs2,rfl,h7⟩,rfl⟩ -;obtain ⟨p2,c2,p3,c3,p4,c4,rfl,h9,h10,h11⟩:=xX h7;refine yD 8 [] [83,84] rfl<|xI 0 (cExpr y8 p2 c2 p3 c3 p4 c4) rfl<|yI [] [7] rfl<|xB<|zU<|zI ?_;obtain rfl:=zC N;exact xC ⟨_,_,(.cell 0 rfl rfl (by kernel_rfl) (.tmp rfl ResV.nil)),zP,⟨_,_,rfl,rfl,⟨_,rfl,(xM ⟨_,_,_,rfl,h9,h10,h11⟩)⟩,rfl⟩⟩
  intro hc7 N;refine zT<|zQ<|xE<|yD 2 [] [86,87] rfl ?_;obtain ⟨⟨y11,y12⟩,hy9,N⟩:=zB N;refine xP (zAM s at0 _ hy9 ) ?_;rintro I06 hs2 v2 k2 le6 - ⟨v012,v013,rfl,rfl,rfl,rfl⟩ -;refine yI [] [13,14] rfl<|yA<|yH [93] rfl<|zJ<|yE N ?_ ?_
  · intro hc8 N;refine yB<|yD 1 [] [94] rfl<|zDR 0 zExpr [hB b zExpr] rfl rfl rfl rfl<|yI [] [7] rfl<|xB<|zI ?_;obtain rfl:=zC N;exact xC ⟨_,_,(.cell 0 rfl rfl (by kernel_rfl) (.tmp rfl ResV.nil)),zP,⟨_,_,rfl,rfl,⟨_,rfl,(xM ⟨_,_,_,rfl,(SL.nil _),(SL.nil _),(SL.nil _)⟩)⟩,rfl⟩⟩
  intro hc8 N;refine zT<|xE<|yD 3 [] [96,97] rfl<|xI 0 [vI 1,vI y11,z0,vI 0,vT ([]),z0,z0] rfl<|yI [] [7] rfl<|zJ<|yX ?_;obtain rfl:=zC N;exact xC ⟨_,_,(.cell 0 rfl rfl (by kernel_rfl) (.tmp rfl ResV.nil)),zP,⟨_,_,rfl,rfl,⟨_,rfl,(xM ⟨_,_,_,rfl,(SL.nil _),(SL.nil _),(SL.nil _)⟩)⟩,rfl⟩⟩
theorem zEE:∀ s at0 levels r,qC s at0 levels=some r→∀ {I:Imm} ,RT 215 [vT s.l,vI at0,vI levels] I [] (gG  r):=zDb.2
def tM (list:(List zA)) (out:Str) (i:Int):Option (Str):=do
 if (decide (i < (list.length:Int))) then
  let out2←(do
    if (decide (i > 0)) then
     let s←cat out (⟨[44]⟩:Str)
     pure (id s)
    else
     pure (id out)
      : Option Str)
  let x←idx list i
  let y←mD x
  let s1←cat out2 y
  tM list s1 (W (i + 1))
 else
  pure (id out)
 partial_fixpoint
theorem zAm (list:(List zA)):∀ (out:Str) (i:Int) (o:Str),tM list out i=some o→∀ {B}{I0 I:Imm}{Q p c},I0.le I→(S4 I p list c)→NG Q→NO Q→(∀ (I':Imm) (out1:Str),o=out1→I0.le I'→T 23 B Q (.exit 0) I' [] [(3,vT out1.l)])→J Tryz.prog 23 B (nav (bodyOf Tryz.f237) [1,1,0,1,0]) Q I [] [(0,vS p list c),(3,vT out.l),(4,vI i)]:=by
 refine tM.partial_correctness list _ fun self ih out i o N B I0 I Q p c H h hg ho hx=>yY hg ho<|zZ<|yH [8] rfl<|zJ<|yE N ?_ ?_
 · intro hc N;refine zT<|yA<|yL<|zZ<|yH [12] rfl<|zJ ?_;refine wD N [] (fun out2=>[(0,vS p list c),(3,vT out2.l),(4,vI i)]) (fun o0 ho0=>?_) ?_
   · have H:=iS I;refine yE ho0 ?_ ?_
     · intro hc1 N;exact zO<|yD 1 [] [13] rfl<|bE N fun s hy N=>eF rfl hy<|yI [] [3] rfl<|yQ<|zR (ct N H)
     intro hc1 N;exact zT<|yQ<|zR (ct N H)
   intro out2 I0 le hMc;have ⟨h,H⟩:=m2 le h H;refine zJ<|zO<|yD 3 [] [15,16,17] rfl ?_;obtain ⟨x,hy1,N⟩:=zB hMc;refine xS rfl rfl h hy1 ?_;intro ad ccs hat hrep;obtain ⟨p1,c1,rfl,h1⟩:=yG hrep;refine xL 0 hat (cAff x p1 c1) (vA (cAff x p1 c1)) rfl<|bE N fun y hy2 N=>xP (eN x _ hy2 h1) ?_;rintro I01 hs2 v2 k2 le1 - ⟨v01,rfl,rfl,rfl⟩ -;have ⟨h,H⟩:=m2 le1 h H;obtain ⟨s1,hy3,N⟩:=zB N;exact eF rfl hy3<|yI [] [3] rfl<|zQ<|zJ<|zO<|yI [] [4] rfl<|yZ<|mW<|ih s1 (W (i + 1)) _ N H h hg ho hx
 intro hc N;exact uA<|yQ<|hx _ _ (zC N).symm H
def nS (list:(List zA)):Option (Str):=do
 let out1←tM list (⟨[]⟩:Str) 0
 pure (id out1)
theorem zCH:∀ list r,nS list=some r→∀ {I:Imm}{p c},(S4 I p list c)→RT 237 [vS p list c] I [] (rF  r):=by
 intro list r N I p c h;unfold nS at N;refine yJ Tryz.func237 fun B=>vU []<|vV [3] rfl<|yA<|yH [4] rfl<|wK<|oM [(0,vS p list c),(3,vT ([])),(4,vI 0)] ?_;obtain ⟨o01,ho01,hMl⟩:=zB N;refine zAm list (⟨[]⟩:Str) 0 o01 ho01 iR h (fun _ _ _ h=>h) (fun _ _ h=>h) ?_;intro I02 out1 heq1 le2;subst o01;refine zV<|vV [2] rfl<|zJ<|yX ?_;obtain rfl:=zC hMl;exact xZ
def qK (a0:zG):Option (Str):=do
 let s←cat a0.Array (⟨[91]⟩:Str)
 let y←nS a0.Subs
 let s1←cat s y
 let s2←cat s1 (⟨[93]⟩:Str)
 pure (id s2)
theorem fH:∀ a0 r,qK a0=some r→∀ {I:Imm}{p c},(S4 I p a0.Subs c)→RT 204 [vA (cAccess a0 p c)] I [] (rF  r):=by
 intro a0 r N I p c h;unfold qK at N;refine yJ Tryz.func204 fun B=>?_;have H:=iS I;refine yB<|vM (cAccess a0 p c) ?_;intro b hb;refine xY [] []<|zJ<|zZ ?_;obtain ⟨s,hy,N⟩:=zB N;obtain ⟨y,hy1,N⟩:=zB N;obtain ⟨s1,hy2,N⟩:=zB N;obtain ⟨s2,hy3,N⟩:=zB N;refine wS [.p (vP b 0) [],.p (vT a0.Array.l) [0],.q (vT s.l),.p (vP b 1) [],.p (vS p a0.Subs c) [0],.q (vT y.l),.q (vT s1.l),.q (vT s2.l)] [[],[(0,false)],[(1,false)],[],[(3,false)],[(4,false)],[(2,false),(5,false)],[(6,false)]] [hB b (cAccess a0 p c)] [] [(7,false)] (zY [0]) ?_ ?_
 · refine Op<|Op<|Oq ?_<|Op<|Op<|Oq ?_<|Oq ?_<|Oq ?_<|On
   · intro I1 hf le1;exact yS [4] rfl<|eF rfl hy<|xF iR
   · intro I1 hf le1;refine yS [7] rfl ?_;have H:=iS I1;have h:=h.mono le1;refine xP (zCH a0.Subs _ hy1 h) ?_;rintro I0 hs2 v2 k2 le - ⟨v0,rfl,rfl,rfl⟩ -;have H:=H.trans le;exact xF H
   · intro I1 hf le1;exact yS [5,8] rfl<|eF rfl hy2<|xF iR
   intro I1 hf le1;exact yS [9] rfl<|eF rfl hy3<|xF iR
 intro I01 le1;refine yS [10] rfl ?_;refine yI [] [2] rfl<|zJ<|yX ?_;obtain rfl:=zC N;exact xZ
def rO (e0:zD):Option (Str):=do
 if (e0.Kind == 1) then
  let y←rM e0.Num
  pure (id y)
 else
  if (e0.Kind == 2) then
   let y1←mD e0.Index
   let s←cat (⟨[123]⟩:Str) y1
   let s1←cat s (⟨[125]⟩:Str)
   pure (id s1)
  else
   if (e0.Kind == 3) then
    let y2←qK e0.Read
    pure (id y2)
   else
    let x←idx e0.Kids 0
    let y3←rO (same x)
    let s2←cat (⟨[40]⟩:Str) y3
    let s3←sslc (⟨[43,45,42]⟩:Str) (W (e0.Kind - 4)) (W ((W (e0.Kind - 4)) + 1))
    let s4←cat s2 s3
    let x1←idx e0.Kids 1
    let y4←rO (same x1)
    let s5←cat s4 y4
    let s6←cat s5 (⟨[41]⟩:Str)
    pure (id s6)
 partial_fixpoint
theorem zEt:∀ e0 r,rO e0=some r→∀ {I:Imm}{p c p1 c1 p2 c2},(S4 I p e0.Index.Coefs c)→(S4 I p1 e0.Read.Subs c1)→(S4 I p2 e0.Kids c2)→RT 205 [vA (cExpr e0 p c p1 c1 p2 c2)] I [] (rF  r):=by
 refine rO.partial_correctness _ fun F_spec_l3Text ih_spec_l3Text e0 r N I p c p1 c1 p2 c2 h h1 h2=>yJ Tryz.func205 fun B=>?_;have H:=iS I;refine yB<|vM (cExpr e0 p c p1 c1 p2 c2) ?_;intro b hb;refine xY [] []<|yA<|yB<|yI [0] [4] rfl<|wK<|yH [5] rfl<|zJ<|yE N ?_ ?_
 · intro hc N;refine yB<|yD 2 [0] [8] rfl<|bE N fun y hy N=>xP (eM e0.Num _ hy ) ?_;rintro I0 hs2 v2 k2 le - ⟨v0,rfl,rfl,rfl⟩ -;refine yI [] [2] rfl<|xB<|zU<|zI ?_;obtain rfl:=zC N;exact xZ
 intro hc N;refine yH [10] rfl<|zJ<|yE N ?_ ?_
 · intro hc1 N;refine yB<|sU 2 [0] [(13,vA (cAff e0.Index p c))]<|bE N fun y1 hy1 N=>xP (eN e0.Index _ hy1 h) ?_;rintro I01 hs2 v2 k2 le1 - ⟨v01,rfl,rfl,rfl⟩ -;obtain ⟨s,hy2,N⟩:=zB N;refine eF rfl hy2<|bE N fun s1 hy3 N=>eF rfl hy3<|yI [] [2] rfl<|xB<|zU<|zI ?_;obtain rfl:=zC N;exact xZ
 intro hc1 N;refine yH [17] rfl<|zJ<|yE N ?_ ?_
 · intro hc2 N;refine yB<|sU 2 [0] [(20,vA (cAccess e0.Read p1 c1))]<|bE N fun y2 hy4 N=>xP (fH e0.Read _ hy4 h1) ?_;rintro I02 hs2 v2 k2 le2 - ⟨v02,rfl,rfl,rfl⟩ -;refine yI [] [2] rfl<|xB<|zU<|zI ?_;obtain rfl:=zC N;exact xZ
 intro hc2 N;refine zT<|zQ<|zJ<|zZ ?_;obtain ⟨x,hy5,N⟩:=zB N;obtain ⟨y3,hy6,N⟩:=zB N;obtain ⟨s2,hy7,N⟩:=zB N;obtain ⟨s3,hy8,N⟩:=zB N;obtain ⟨s4,hy9,N⟩:=zB N;obtain ⟨x1,hy10,N⟩:=zB N;obtain ⟨y4,hy11,N⟩:=zB N;obtain ⟨s5,hy12,N⟩:=zB N;obtain ⟨s6,hy13,N⟩:=zB N;refine wS [.p (vP b 6) [],.p (vS p2 e0.Kids c2) [0],.x (ePExpr x),.x (eVExpr x),.q (vT y3.l),.q (vT s2.l),.p (vP b 0) [],.p (vI e0.Kind) [0],.p (vI (W (e0.Kind - 4))) [],.p (vP b 0) [],.p (vI e0.Kind) [0],.p (vI (W (e0.Kind - 4))) [],.p (vI (W ((W (e0.Kind - 4)) + 1))) [],.q (vT s3.l),.q (vT s4.l),.p (vP b 6) [],.p (vS p2 e0.Kids c2) [0],.x (ePExpr x1),.x (eVExpr x1),.q (vT y4.l),.q (vT s5.l),.q (vT s6.l)] [[],[(0,false)],[(1,false)],[(2,false)],[(3,false)],[(4,false)],[],[(6,false)],[(7,false)],[],[(9,false)],[(10,false)],[(11,false)],[(8,false),(12,false)],[(5,false),(13,false)],[],[(15,false)],[(16,false)],[(17,false)],[(18,false)],[(14,false),(19,false)],[(20,false)]] [hB b (cExpr e0 p c p1 c1 p2 c2)] [] [(21,false)] (zY [0]) ?_ ?_
 · refine Op<|Op<|Ox ?_<|Ox ?_<|Oq ?_<|Oq ?_<|Op<|Op<|Op<|Op<|Op<|Op<|Op<|Oq ?_<|Oq ?_<|Op<|Op<|Ox ?_<|Ox ?_<|Oq ?_<|Oq ?_<|Oq ?_<|On
   · intro I1 hf le1;refine yS [23] rfl ?_;have h2:=h2.mono le1;refine xS rfl rfl h2 hy5 ?_;intro ad ccs hat hrep;obtain ⟨p3,c3,p4,c4,p5,c5,rfl,h6,h7,h8⟩:=xX hrep;exact yN [] iR ⟨_,_,_,_,_,_,_,rfl,rfl,hat,h6,h7,h8⟩
   · rintro I1 hf le1 _ _ ⟨ad,p3,c3,p4,c4,p5,c5,rfl,rfl,hat,h6,h7,h8⟩;exact yS [24] rfl<|xL 0 hat (cExpr x p3 c3 p4 c4 p5 c5) (vA (cExpr x p3 c3 p4 c4 p5 c5)) rfl<|yN [] iR ⟨_,_,_,_,_,_,rfl,rfl,h6,h7,h8⟩
   · rintro I1 hf le1 _ _ ⟨p31,c31,p41,c41,p51,c51,rfl,rfl,h61,h71,h81⟩;refine yS [25] rfl ?_;have H:=iS I1;refine xP (ih_spec_l3Text x _ hy6 h61 h71 h81) ?_;rintro I03 hs2 v2 k2 le3 - ⟨v06,rfl,rfl,rfl⟩ -;have H:=H.trans le3;exact xF H
   · intro I1 hf le1;exact yS [26] rfl<|eF rfl hy7<|xF iR
   · intro I1 hf le1;exact yS [30,34] rfl<|zFX rfl hy8<|xF iR
   · intro I1 hf le1;exact yS [27,35] rfl<|eF rfl hy9<|xF iR
   · intro I1 hf le1;refine yS [38] rfl ?_;have h2:=h2.mono le1;refine xS rfl rfl h2 hy10 ?_;intro ad1 ccs1 hat1 hrep1;obtain ⟨p6,c6,p7,c7,p8,c8,rfl,h10,h11,h12⟩:=xX hrep1;exact yN [] iR ⟨_,_,_,_,_,_,_,rfl,rfl,hat1,h10,h11,h12⟩
   · rintro I1 hf le1 _ _ ⟨ad1,p6,c6,p7,c7,p8,c8,rfl,rfl,hat1,h10,h11,h12⟩;exact yS [39] rfl<|xL 0 hat1 (cExpr x1 p6 c6 p7 c7 p8 c8) (vA (cExpr x1 p6 c6 p7 c7 p8 c8)) rfl<|yN [] iR ⟨_,_,_,_,_,_,rfl,rfl,h10,h11,h12⟩
   · rintro I1 hf le1 _ _ ⟨p61,c61,p71,c71,p81,c81,rfl,rfl,h101,h111,h121⟩;refine yS [40] rfl ?_;have H:=iS I1;refine xP (ih_spec_l3Text x1 _ hy11 h101 h111 h121) ?_;rintro I04 hs2 v2 k2 le4 - ⟨v010,rfl,rfl,rfl⟩ -;have H:=H.trans le4;exact xF H
   · intro I1 hf le1;exact yS [36,41] rfl<|eF rfl hy12<|xF iR
   intro I1 hf le1;exact yS [42] rfl<|eF rfl hy13<|xF iR
 intro I05 le5;refine yS [43] rfl ?_;refine yI [] [2] rfl<|zJ<|yX ?_;obtain rfl:=zC N;exact xZ
def nT (s:zN):Option (Str):=do
 let y←sA s 4
 if (!y) then
  pure (⟨[]⟩:Str)
 else
  let y1←qK s.Write
  let s1←cat y1 (⟨[61]⟩:Str)
  let y2←rO s.Value
  let s2←cat s1 y2
  pure (id s2)
theorem zCI:∀ s r,nT s=some r→∀ {I:Imm}{p c p1 c1 p2 c2 p3 c3},(S4 I p s.Write.Subs c)→(S4 I p1 s.Value.Index.Coefs c1)→(S4 I p2 s.Value.Read.Subs c2)→(S4 I p3 s.Value.Kids c3)→RT 216 [vA (cStmt s p c p1 c1 p2 c2 p3 c3)] I [] (rF  r):=by
 intro s r N I p c p1 c1 p2 c2 p3 c3 h h1 h2 h3;unfold nT at N;refine yJ Tryz.func216 fun B=>?_;have H:=iS I;refine yB<|vM (cStmt s p c p1 c1 p2 c2 p3 c3) ?_;intro b hb;refine xY [] []<|yA<|yB<|sU 1 [0] [(3,vA (cStmt s p c p1 c1 p2 c2 p3 c3))]<|bE N fun y hy N=>wZ (gD s 4 _ hy h h1 h2 h3) ?_;intro I0 le;have ⟨h,h1,h2,h3,H⟩:=m5 le h h1 h2 h3 H;refine yI [] [5] rfl<|zJ<|yE N ?_ ?_
 · intro hc N;refine yH [2] rfl<|xB<|zI ?_;obtain rfl:=zC N;exact xZ
 intro hc N;refine zT<|zJ<|zZ ?_;obtain ⟨y1,hy1,N⟩:=zB N;obtain ⟨s1,hy2,N⟩:=zB N;obtain ⟨y2,hy3,N⟩:=zB N;obtain ⟨s2,hy4,N⟩:=zB N;refine wS [.p (vP b 0) [],.p (vA (cAccess s.Write p c)) [0],.q (vT y1.l),.q (vT s1.l),.p (vP b 2) [],.p (vA (cExpr s.Value p1 c1 p2 c2 p3 c3)) [0],.q (vT y2.l),.q (vT s2.l)] [[],[(0,false)],[(1,false)],[(2,false)],[],[(4,false)],[(5,false)],[(3,false),(6,false)]] [hB b (cStmt s p c p1 c1 p2 c2 p3 c3)] [] [(7,false)] (zY [0]) ?_ ?_
 · refine Op<|Op<|Oq ?_<|Oq ?_<|Op<|Op<|Oq ?_<|Oq ?_<|On
   · intro I1 hf le1;refine yS [7] rfl ?_;have H:=iS I1;have h:=h.mono le1;refine xP (fH s.Write _ hy1 h) ?_;rintro I01 hs2 v2 k2 le1 - ⟨v01,rfl,rfl,rfl⟩ -;have H:=H.trans le1;exact xF H
   · intro I1 hf le1;exact yS [8] rfl<|eF rfl hy2<|xF iR
   · intro I1 hf le1;refine yS [11] rfl ?_;have H:=iS I1;have ⟨h1,h2,h3⟩:=m3 le1 h1 h2 h3;refine xP (zEt s.Value _ hy3 h1 h2 h3) ?_;rintro I02 hs2 v2 k2 le2 - ⟨v02,rfl,rfl,rfl⟩ -;have H:=H.trans le2;exact xF H
   intro I1 hf le1;exact yS [9,12] rfl<|eF rfl hy4<|xF iR
 intro I03 le3;refine yS [13] rfl ?_;refine yI [] [2] rfl<|zJ<|yX ?_;obtain rfl:=zC N;exact xZ
def fV (r:zN×Bool):KT:=fun kk I' hs' v=>
  ∃ v0 v1,hs'=[]∧v=tupV [v0,v1]∧(∃ cs,v0=.agg ⟨cs⟩∧Rp.rep I' cs r.1)∧v1=.bool r.2
def mO (text:Str):Option (zN×Bool):=do
 if (decide ((text.l.length:Int) < 4)) then
  pure ((zN.mk (zG.mk (⟨[]⟩:Str) ([]:List zA)) (zD.mk 0 0 (zA.mk ([]:List Int) 0) (zG.mk (⟨[]⟩:Str) ([]:List zA)) ([]:List zD))),false)
 else
  let (y1,y2)←rG text 0
  let t25←(do
    if (decide (y2 < 0)) then
     pure true
    else
     pure (decide (y2 ≥ (text.l.length:Int)))
      : Option Bool)
  if t25 then
   pure ((zN.mk (zG.mk (⟨[]⟩:Str) ([]:List zA)) (zD.mk 0 0 (zA.mk ([]:List Int) 0) (zG.mk (⟨[]⟩:Str) ([]:List zA)) ([]:List zD))),false)
  else
   let (y4,y5)←qC text (W (y2 + 1)) 5
   let y6←nT (zN.mk y1 y4)
   if (!(y6.l == text.l)) then
    pure ((zN.mk (zG.mk (⟨[]⟩:Str) ([]:List zA)) (zD.mk 0 0 (zA.mk ([]:List Int) 0) (zG.mk (⟨[]⟩:Str) ([]:List zA)) ([]:List zD))),false)
   else
    pure ((zN.mk y1 y4),true)
theorem zCw:∀ text r,mO text=some r→∀ {I:Imm} ,RT 172 [vT text.l] I [] (fV  r):=by
 intro text r N I;unfold mO at N;refine yJ Tryz.func172 fun B=>?_;have H:=iS I;refine yB<|wU [vT ([]),z0,vI 0,vI 0,z0,vI 0,vT ([]),z0,z0] ?_;intro b hb;refine xY [] []<|yA<|yH [11] rfl<|zJ<|yE N ?_ ?_
 · intro hc N;refine yB<|yD 1 [] [12] rfl<|xI 0 [vT ([]),z0,vI 0,vI 0,z0,vI 0,vT ([]),z0,z0] rfl<|xY [] [(3,vF)]<|xB<|zI ?_;obtain rfl:=zC N;exact xC ⟨_,_,(.cell 0 rfl rfl (by kernel_rfl) (.tmp rfl ResV.nil)),zP,⟨_,_,rfl,rfl,⟨_,rfl,(xR ⟨_,_,_,_,rfl,(SL.nil _),(SL.nil _),(SL.nil _),(SL.nil _)⟩)⟩,rfl⟩⟩
 intro hc N;refine zT<|xE<|yD 1 [] [14] rfl ?_;obtain ⟨⟨y1,y2⟩,hy,N⟩:=zB N;refine xP (gO text 0 _ hy ) ?_;rintro I0 hs2 v2 k2 le - ⟨v0,v01,rfl,rfl,⟨cs,rfl,h⟩,rfl⟩ -;have H:=H.trans le;obtain ⟨p,c,rfl,h2⟩:=rS h;refine yD 5 [] [16,17] rfl<|wU [vT ([]),z0] ?_;intro b1 hb1;refine xI 0 (cAccess y1 p c) rfl<|yI [] [5] rfl<|yA<|zZ ?_;refine wD N [hB b1 (cAccess y1 p c),hB b [vT ([]),z0,vI 0,vI 0,z0,vI 0,vT ([]),z0,z0]] (fun t25=>[(0,vT text.l),(2,vP b 0),(4,vP b1 0),(5,vI y2),(25,.bool t25)]) (fun o0 ho0=>?_) ?_
 · have H:=iS I0;refine zO<|yD 3 [] [20] rfl<|xQ [20] ho0 ?_ ?_
   · intro hc1 N;exact xY [] [(25,vY)]<|yQ<|zR (ct N H)
   intro hc1 N;exact yI [] [25] rfl<|yQ<|zR (ct N H)
 intro t25 I01 le1 hMc;have h2:=h2.mono le1;refine zJ<|yE hMc ?_ ?_
 · intro hc2 N;refine yB<|yD 1 [] [26] rfl<|xI 1 [vT ([]),z0,vI 0,vI 0,z0,vI 0,vT ([]),z0,z0] rfl<|xY [] [(3,vF)]<|xB<|zI ?_;obtain rfl:=zC N;exact xC ⟨_,_,(.cell 1 rfl rfl (by kernel_rfl) (.tmp rfl ResV.nil)),zP,⟨_,_,rfl,rfl,⟨_,rfl,(xR ⟨_,_,_,_,rfl,(SL.nil _),(SL.nil _),(SL.nil _),(SL.nil _)⟩)⟩,rfl⟩⟩
 intro hc2 N;refine zT<|xE<|yD 3 [] [28,30] rfl ?_;obtain ⟨⟨y4,y5⟩,hy1,N⟩:=zB N;refine xP (zEE text (W (y2 + 1)) 5 _ hy1 ) ?_;rintro I02 hs2 v2 k2 le2 - ⟨v03,v04,rfl,rfl,⟨cs1,rfl,h3⟩,rfl⟩ -;have h2:=h2.mono le2;obtain ⟨p1,c1,p2,c2,p3,c3,rfl,h5,h6,h7⟩:=xX h3;refine yD 7 [] [32,33] rfl<|wU zExpr ?_;intro b2 hb2;refine xI 0 (cExpr y4 p1 c1 p2 c2 p3 c3) rfl<|xY [] []<|xE<|sU 3 [1,0] [(36,vA [vT y1.Array.l,vS p y1.Subs c,vI y4.Kind,vI y4.Num,vS p1 y4.Index.Coefs c1,vI y4.Index.Const,vT y4.Read.Array.l,vS p2 y4.Read.Subs c2,vS p3 y4.Kids c3])]<|wU [vT ([]),z0,vI 0,vI 0,z0,vI 0,vT ([]),z0,z0] ?_;intro b3 hb3;refine xI 0 [vT y1.Array.l,vS p y1.Subs c,vI y4.Kind,vI y4.Num,vS p1 y4.Index.Coefs c1,vI y4.Index.Const,vT y4.Read.Array.l,vS p2 y4.Read.Subs c2,vS p3 y4.Kids c3] rfl<|yC rfl<|yA<|yB<|sU 1 [0] [(37,vA [vT y1.Array.l,vS p y1.Subs c,vI y4.Kind,vI y4.Num,vS p1 y4.Index.Coefs c1,vI y4.Index.Const,vT y4.Read.Array.l,vS p2 y4.Read.Subs c2,vS p3 y4.Kids c3])]<|bE N fun y6 hy2 N=>xP (zCI (zN.mk y1 y4) _ hy2 h2 h5 h6 h7) ?_;rintro I03 hs2 v2 k2 le3 - ⟨v08,rfl,rfl,rfl⟩ -;have ⟨h2,h5,h6,h7⟩:=m4 le3 h2 h5 h6 h7;refine yI [] [40] rfl<|zJ<|yE N ?_ ?_
 · intro hc3 N;refine yB<|yD 1 [] [41] rfl<|xI 3 [vT ([]),z0,vI 0,vI 0,z0,vI 0,vT ([]),z0,z0] rfl<|xY [] [(3,vF)]<|xB<|zI ?_;obtain rfl:=zC N;exact xC ⟨_,_,(.cell 3 rfl rfl (by kernel_rfl) (.tmp rfl ResV.nil)),zP,⟨_,_,rfl,rfl,⟨_,rfl,(xR ⟨_,_,_,_,rfl,(SL.nil _),(SL.nil _),(SL.nil _),(SL.nil _)⟩)⟩,rfl⟩⟩
 intro hc3 N;refine zT<|xE<|sU 1 [0] [(42,vA [vT y1.Array.l,vS p y1.Subs c,vI y4.Kind,vI y4.Num,vS p1 y4.Index.Coefs c1,vI y4.Index.Const,vT y4.Read.Array.l,vS p2 y4.Read.Subs c2,vS p3 y4.Kids c3])]<|xI 3 [vT y1.Array.l,vS p y1.Subs c,vI y4.Kind,vI y4.Num,vS p1 y4.Index.Coefs c1,vI y4.Index.Const,vT y4.Read.Array.l,vS p2 y4.Read.Subs c2,vS p3 y4.Kids c3] rfl<|xY [] [(3,vY)]<|zJ<|yX ?_;obtain rfl:=zC N;exact xC ⟨_,_,(.cell 3 rfl rfl (by kernel_rfl) (.tmp rfl ResV.nil)),zP,⟨_,_,rfl,rfl,⟨_,rfl,(xR ⟨_,_,_,_,rfl,h2,h5,h6,h7⟩)⟩,rfl⟩⟩
def dM (r:(List zE)×Bool):KT:=fun kk I' hs' v=>
  ∃ v0 v1,hs'=[]∧v=tupV [v0,v1]∧SL I' v0 r.1∧v1=.bool r.2
def qD (sizes:(List Int)) (out:List zE) (i:Int):Option (Out (List zE) ((List zE)×Bool)):=do
 if (decide (i < (sizes.length:Int))) then
  let t28←(do
    let x←idx sizes i
    if (decide (x < 0)) then
     pure true
    else
     let x1←idx sizes i
     pure (decide (x1 > 99))
      : Option Bool)
  if t28 then
   pure (.ret (([]:List zE),false))
  else
   let y←pQ
   let x2←idx sizes i
   let y1←wL x2
   let out2←app 48 out ([(zE.mk ([y]:List zA) ([y1]:List zA))]:List zE)
   qD sizes out2 (W (i + 1))
 else
  pure (.done out)
 partial_fixpoint
theorem zCJ (sizes:(List Int)):∀ (out:List zE) (i:Int) (o:Out (List zE) ((List zE)×Bool)),qD sizes out i=some o→∀ {B}{I0 I:Imm}{Q p c p1 c1 cs},I0.le I→(S4 I p sizes c)→(RL I cs out)→NG Q→NO Q→(∀ (I':Imm) (out1:List zE) (p2:Option Addr) (c2:Nat) (cs1:List Value),o=(.done out1)→I0.le I'→(RL I' cs1 out1)→T 43 B Q (.exit 0) I' [hO zE (vS p2 out1 c2) cs1] [(4,vS p2 out1 c2)])→(∀ r I' hs' m',o=(.ret r)→I0.le I'→RS Tryz.prog Tryz.f173 B (dM  r) I' hs' m'→T 43 B Q .ret I' hs' m')→J Tryz.prog 43 B (nav (bodyOf Tryz.f173) [1,1,1,0,1,0]) Q I [hO zE (vS p1 out c1) cs] [(0,vS p sizes c),(4,vS p1 out c1),(5,vI i)]:=by
 refine qD.partial_correctness sizes _ fun self ih out i o N B I0 I Q p c p1 c1 cs H h h3 hg ho hx hr=>yY hg ho<|zZ<|yH [14] rfl<|zJ<|yE N ?_ ?_
 · intro hc1 N;refine zT<|yA<|yL<|zZ<|zZ ?_;refine wD N [hO zE (vS p1 out c1) cs] (fun t28=>[(0,vS p sizes c),(4,vS p1 out c1),(5,vI i),(28,.bool t28)]) (fun o0 ho0=>?_) ?_
   · have H:=iS I;refine zO<|yD 2 [] [17,18] rfl ?_;obtain ⟨x,hy,N⟩:=zB ho0;refine xS rfl rfl h hy ?_;intro ad ccs hat hrep;obtain rfl:=hrep;refine xL 0 hat [vI x] (vI x) rfl<|yD 6 [] [22] rfl<|xQ [22] N ?_ ?_
     · intro hc2 N;exact xY [] [(28,vY)]<|yQ<|zR (ct N H)
     intro hc2 N;refine yD 8 [] [23,24] rfl<|bE N fun x1 hy1 N=>xS rfl rfl h hy1 ?_;intro ad1 ccs1 hat1 hrep1;obtain rfl:=hrep1;exact xL 0 hat1 [vI x1] (vI x1) rfl<|yI [] [28] rfl<|yQ<|zR (ct N H)
   intro t28 I01 le1 hMc;have ⟨h,h3,H⟩:=m3 le1 h h3 H;refine zJ<|yE hMc ?_ ?_
   · intro hc3 N;refine yB<|tJ [] zE ?_;intro b1 hb1;have h5:RL I01 [] ([]:List zE):=rfl;refine yI [] [2,3] rfl<|xB<|zI<|zU<|zI<|zI<|xJ 0 rfl ?_;intro I02 le2 hl01;have h6:=SL.of_frozen hl01 le2 h5;have H:=H.trans le2;exact hr _ _ _ _ (zC N).symm H ⟨_,_,(.tmp rfl (.tmp rfl ResV.nil)),zP,⟨_,_,rfl,rfl,h6,rfl⟩⟩
   intro hc3 N;refine zT<|zJ ?_;obtain ⟨y,hy2,N⟩:=zB N;obtain ⟨x2,hy3,N⟩:=zB N;obtain ⟨y1,hy4,N⟩:=zB N;obtain ⟨out2,hy5,N⟩:=zB N;refine wS [.p (vS p1 out c1) [],.x (fun I' v hx=>∃ p3 c3 cs2,v=vA (cAff y p3 c3)∧hx=[hO Int (vS p3 y.Coefs c3) cs2]∧(RL I' cs2 y.Coefs)),.x (fun I' v hx=>∃ b2,v=vS (some ⟨b2,0,none⟩) ([y]:List zA) 1∧hx=[]∧(SL I' (vS (some ⟨b2,0,none⟩) ([y]:List zA) 1) ([y]:List zA))),.p (vS p sizes c) [],.p (vI i) [],.x (fun I' v hx=>∃ ad2,v=.pointer (some ad2)∧hx=[]∧(At I' ad2 [vI x2])),.q (vI x2),.x (fun I' v hx=>∃ p4 c4 cs3,v=vA (cAff y1 p4 c4)∧hx=[hO Int (vS p4 y1.Coefs c4) cs3]∧(RL I' cs3 y1.Coefs)),.x (fun I' v hx=>∃ b3,v=vS (some ⟨b3,0,none⟩) ([y1]:List zA) 1∧hx=[]∧(SL I' (vS (some ⟨b3,0,none⟩) ([y1]:List zA) 1) ([y1]:List zA))),.x (fun I' v hx=>∃ b21 b31,v=vA [vS (some ⟨b21,0,none⟩) ([y]:List zA) 1,vS (some ⟨b31,0,none⟩) ([y1]:List zA) 1]∧hx=[]∧(SL I' (vS (some ⟨b21,0,none⟩) ([y]:List zA) 1) ([y]:List zA))∧(SL I' (vS (some ⟨b31,0,none⟩) ([y1]:List zA) 1) ([y1]:List zA))),.x (fun I' v hx=>∃ b4,v=vS (some ⟨b4,0,none⟩) ([(zE.mk ([y]:List zA) ([y1]:List zA))]:List zE) 1∧hx=[]∧(SL I' (vS (some ⟨b4,0,none⟩) ([(zE.mk ([y]:List zA) ([y1]:List zA))]:List zE) 1) ([(zE.mk ([y]:List zA) ([y1]:List zA))]:List zE))),.x (fun I' v hx=>∃ p5 c5 cs4,v=vS p5 out2 c5∧hx=[hO zE (vS p5 out2 c5) cs4]∧(RL I' cs4 out2))] [[],[],[(1,true)],[],[],[(3,false),(4,false)],[(5,false)],[(6,false)],[(7,true)],[(2,false),(8,false)],[(9,false)],[(0,false),(10,false),(13,true)]] [] [[hO zE (vS p1 out c1) cs]] [(11,true)] (zY [0]) ?_ ?_
   · refine Op<|Ox ?_<|Ox ?_<|Op<|Op<|Ox ?_<|Oq ?_<|Ox ?_<|Ox ?_<|Ox ?_<|Ox ?_<|Ox ?_<|On
     · intro I1 hf le1;refine fC [] ?_;have H:=iS I1;refine xP (mL  _ hy2 ) ?_;rintro I03 hs2 v2 k2 le3 - ⟨p3,c3,cs2,rfl,rfl,h7⟩ -;have H:=H.trans le3;exact yN [hO Int (vS p3 y.Coefs c3) cs2] H ⟨_,_,_,rfl,rfl,h7⟩
     · rintro I1 hf le1 _ _ ⟨p3,c3,cs2,rfl,rfl,h7⟩;refine yS [31] rfl ?_;have H:=iS I1;refine xK 0 rfl ?_;intro I04 le4 hl02;have h8:=SL.of_frozen hl02 le4 h7;have H:=H.trans le4;refine pW (rc y (yF ⟨_,rfl,h8⟩) rN) ?_;intro b2 I05 le5 h10;have H:=H.trans le5;exact yN [] H ⟨_,rfl,rfl,h10⟩
     · intro I1 hf le1;refine yS [33,34] rfl ?_;have h:=h.mono le1;refine xS rfl rfl h hy3 ?_;intro ad2 ccs2 hat2 hrep2;obtain rfl:=hrep2;exact yN [] iR ⟨_,rfl,rfl,hat2⟩
     · rintro I1 hf le1 _ _ ⟨ad2,rfl,rfl,hat2⟩;exact yS [35] rfl<|xL 0 hat2 [vI x2] (vI x2) rfl<|xF iR
     · intro I1 hf le1;refine yS [36] rfl ?_;have H:=iS I1;refine xP (vX x2 _ hy4 ) ?_;rintro I06 hs2 v2 k2 le6 - ⟨p4,c4,cs3,rfl,rfl,h11⟩ -;have H:=H.trans le6;exact yN [hO Int (vS p4 y1.Coefs c4) cs3] H ⟨_,_,_,rfl,rfl,h11⟩
     · rintro I1 hf le1 _ _ ⟨p4,c4,cs3,rfl,rfl,h11⟩;refine yS [37] rfl ?_;have H:=iS I1;refine xK 0 rfl ?_;intro I07 le7 hl04;have h12:=SL.of_frozen hl04 le7 h11;have H:=H.trans le7;refine pW (rc y1 (yF ⟨_,rfl,h12⟩) rN) ?_;intro b3 I08 le8 h14;have H:=H.trans le8;exact yN [] H ⟨_,rfl,rfl,h14⟩
     · rintro I1 hf le1 _ _ ⟨b2,rfl,rfl,h10⟩ _ _ ⟨b3,rfl,rfl,h14⟩;exact yS [32,38] rfl<|qQ 10 [(39,vA [vS (some ⟨b2,0,none⟩) ([y]:List zA) 1,vS (some ⟨b3,0,none⟩) ([y1]:List zA) 1])]<|yN [] iR ⟨_,_,rfl,rfl,h10,h14⟩
     · rintro I1 hf le1 _ _ ⟨b21,b31,rfl,rfl,h101,h141⟩;refine yS [39] rfl ?_;have H:=iS I1;refine pW (rc (zE.mk ([y]:List zA) ([y1]:List zA)) (oZ ⟨_,_,rfl,h101,h141⟩) rN) ?_;intro b4 I09 le9 h16;have H:=H.trans le9;exact yN [] H ⟨_,rfl,rfl,h16⟩
     rintro I1 hf le1 _ _ ⟨rfl,rfl⟩ _ _ ⟨b4,rfl,rfl,h16⟩ _ _ rfl;refine yS [30,40] rfl ?_;have h3:=iM le1 h3;obtain ⟨ccs3,k0,k01⟩:=h16;have h16:SL I1 (vS (some ⟨b4,0,none⟩) ([(zE.mk ([y]:List zA) ([y1]:List zA))]:List zE) 1) ([(zE.mk ([y]:List zA) ([y1]:List zA))]:List zE):=⟨_,k0,k01⟩;exact pP 187 2 0 rfl rfl rfl h3 (.inl k0) k01 hy5 fun p5 c5 cs4 h17=>uR (hs':=(hO zE (vS p5 out2 c5) cs4::hf)) rfl<|yN [hO zE (vS p5 out2 c5) cs4] iR ⟨_,_,_,rfl,rfl,h17⟩
   rintro I010 le10 _ _ ⟨p5,c5,cs4,rfl,rfl,h17⟩;refine yS [0,5,41] rfl ?_;have ⟨h,H⟩:=m2 le10 h H;exact yI [] [4] rfl<|zQ<|zJ<|zO<|yI [] [5] rfl<|yZ<|mW<|ih out2 (W (i + 1)) _ N H h h17 hg ho hx hr
 intro hc1 N;exact uA<|yQ<|hx _ _ _ _ _ (zC N).symm H h3
def kY (sizes:(List Int)):Option ((List zE)×Bool):=do
 if (decide ((sizes.length:Int) > 4)) then
  pure (([]:List zE),false)
 else
  match←qD sizes ([]:List zE) 0 with
  | .ret r0=>pure r0
  | .done out1 =>
   pure (out1,true)
theorem zEF:∀ sizes r,kY sizes=some r→∀ {I:Imm}{p c},(S4 I p sizes c)→RT 173 [vS p sizes c] I [] (dM  r):=by
 intro sizes r N I p c h;unfold kY at N;refine yJ Tryz.func173 fun B=>vU []<|xE<|tJ [] zE ?_;intro b hb;have h1:RL I [] ([]:List zE):=rfl;refine yI [] [4] rfl<|yA<|yH [9] rfl<|zJ<|yE N ?_ ?_
 · intro hc N;refine yH [2,3] rfl<|xB<|zI<|xJ 0 rfl ?_;intro I0 le hl0;have h2:=SL.of_frozen hl0 le h1;obtain rfl:=zC N;exact xC ⟨_,_,(.tmp rfl (.tmp rfl ResV.nil)),zP,⟨_,_,rfl,rfl,h2,rfl⟩⟩
 intro hc N;refine zT<|yA<|yH [5] rfl<|wK<|oM [(0,vS p sizes c),(4,vS (some ⟨b,0,none⟩) ([]:List zE) 0),(5,vI 0)] ?_;obtain ⟨o01,ho01,hMl⟩:=zB N;refine zCJ sizes ([]:List zE) 0 o01 ho01 iR h h1 (fun _ _ _ h=>h) (fun _ _ h=>h) ?_ ?_
 · intro I011 out1 p2 c2 cs1 heq1 le11 h4;subst o01;refine zV<|vV [2,3] rfl<|xB<|xJ 0 rfl ?_;intro I012 le12 hl07;have h18:=SL.of_frozen hl07 le12 h4;obtain rfl:=zC hMl;exact xC ⟨_,_,(.tmp rfl (.tmp rfl ResV.nil)),zP,⟨_,_,rfl,rfl,h18,rfl⟩⟩
 intro r0 I9 hs9 m9 heq9 le9 hrs9;subst heq9;refine zU<|zI ?_;obtain rfl:=zC hMl;exact xC hrs9
def zAO (b0:Nat) (r:zL×zH):KT:=fun kk I' hs' v=>
  ∃ v0 k0,hs'=[.blk b0 ⟨k0⟩]∧v=tupV [v0]∧(∃ cs,v0=.agg ⟨cs⟩∧Rp.rep I' cs r.1)∧Rp.rep I' k0 r.2
def pE (y1:(List zE)) (Body2:List zN) (n0:Int) (x6:zH):Option ((List zN×zH)):=do
 if (decide (n0 < 5)) then
  let (y7,y8)←jM x6 (y1.length:Int)
  let y9←mB
  let (y11,y12)←pS y9 (zL.mk y1 ([y7]:List zN))
  if y12 then
   let l←app 152 Body2 ([y7]:List zN)
   pure (l,y8)
  else
   pE y1 Body2 (W (n0 + 1)) y8
 else
  pure (Body2,x6)
 partial_fixpoint
theorem zCx (y1:(List zE)) (Body2:List zN):∀ (n0:Int) (x6:zH) (o:(List zN×zH)),pE y1 Body2 n0 x6=some o→∀ {B}{I0 I:Imm}{Q}{i:Int}{x:zL}{k0:Int}{r01:Nat}{b:Nat}{p1 c1 p2 c2 p7 c7}{b1:Nat}{p14 c14 cs2 p15 c15},I0.le I→(S4 I p7 y1 c7)→(S4 I p1 x.Nest c1)→(S4 I p2 x.Body c2)→(RL I cs2 Body2)→(S4 I p15 x6.b c15)→NG Q→NO Q→(∀ (I':Imm) (Body3:List zN) (x7:zH) (p16:Option Addr) (c16:Nat) (cs3:List Value) (p17:Option Addr) (c17:Nat),o=(Body3,x7)→I0.le I'→(RL I' cs3 Body3)→(S4 I' p17 x7.b c17)→T 81 B Q (.exit 4) I' [hO zN (vS p16 Body3 c16) cs3,hB r01 (cRd x7 p17 c17),hB b1 [vS p7 y1 c7,vS p16 Body3 c16],hB b (cPart x p1 c1 p2 c2)] [(0,vP r01 0),(2,vP b 0),(3,vI i),(4,vP b1 0),(5,vI k0)])→J Tryz.prog 81 B (nav (bodyOf Tryz.f120) [1,0,1,0,0,1,0,0,1,0,1,0,0,1,0,0,1,0]) Q I [hO zN (vS p14 Body2 c14) cs2,hB r01 (cRd x6 p15 c15),hB b1 [vS p7 y1 c7,vS p14 Body2 c14],hB b (cPart x p1 c1 p2 c2)] [(0,vP r01 0),(2,vP b 0),(3,vI i),(4,vP b1 0),(5,vI k0),(6,vI n0)]:=by
 refine pE.partial_correctness y1 Body2 _ fun self ih n0 x6 o N B I0 I Q i x k0 r01 b p1 c1 p2 c2 p7 c7 b1 p14 c14 cs2 p15 c15 H h7 h1 h2 h20 h21 hg ho hx=>yY hg ho<|zZ<|yH [31] rfl<|zJ<|yE N ?_ ?_
 · intro hc2 N;refine zT<|yA<|yL<|yB<|yD 4 [2] [34,37] rfl<|sX (zY [1,0,2,3] (hs':=[hB r01 (cRd x6 p15 c15),hO zN (vS p14 Body2 c14) cs2,hB b1 [vS p7 y1 c7,vS p14 Body2 c14],hB b (cPart x p1 c1 p2 c2)])) ?_;obtain ⟨⟨y7,y8⟩,hy2,N⟩:=zB N;refine uQ (zEp x6 (y1.length:Int) _ hy2 h21) rfl ?_;rintro I03 hs2 v2 k2 le3 - ⟨v04,kk2,rfl,rfl,⟨cs4,rfl,h24⟩,h25⟩ -;have ⟨h20,h7,h1,h2,H⟩:=m5 le3 h20 h7 h1 h2 H;obtain ⟨p18,c18,p19,c19,p20,c20,p21,c21,rfl,h26,h27,h28,h29⟩:=tH h24;obtain ⟨p22,c22,rfl,h30⟩:=zW h25;refine wU [vT ([]),z0,vI 0,vI 0,z0,vI 0,vT ([]),z0,z0] ?_;intro b3 hb3;refine xI 0 (cStmt y7 p18 c18 p19 c19 p20 c20 p21 c21) rfl<|yC rfl<|zJ<|zZ ?_;obtain ⟨y9,hy3,N⟩:=zB N;obtain ⟨⟨y11,y12⟩,hy4,N⟩:=zB N;refine wS [.x (eS y9),.p (vP b1 0) [],.p (vS p7 y1 c7) [3],.p (vA (cStmt y7 p18 c18 p19 c19 p20 c20 p21 c21)) [0],.x (fun I' v hx=>∃ b4,v=vS (some ⟨b4,0,none⟩) ([y7]:List zN) 1∧hx=[]∧(SL I' (vS (some ⟨b4,0,none⟩) ([y7]:List zN) 1) ([y7]:List zN))),.x (fun I' v hx=>∃ b41,v=vA [vS p7 y1 c7,vS (some ⟨b41,0,none⟩) ([y7]:List zN) 1]∧hx=[]∧(SL I' (vS (some ⟨b41,0,none⟩) ([y7]:List zN) 1) ([y7]:List zN))),.q (.tuple ⟨[vI y11,.bool y12]⟩),.p (.tuple ⟨[vI y11,.bool y12]⟩) [],.p (vI y11) [],.p (.bool y12) [],.p (vI y11) []] [[],[],[(1,false)],[],[(3,false)],[(2,false),(4,false)],[(0,false),(5,false)],[(6,false)],[(7,false)],[(7,false)],[(8,false)]] [hB b3 (cStmt y7 p18 c18 p19 c19 p20 c20 p21 c21),hB r01 (cRd y8 p22 c22),hO zN (vS p14 Body2 c14) cs2,hB b1 [vS p7 y1 c7,vS p14 Body2 c14],hB b (cPart x p1 c1 p2 c2)] [] [(9,false)] (zY [0,1,2,3,4]) ?_ ?_
   · refine Ox ?_<|Op<|Op<|Op<|Ox ?_<|Ox ?_<|Oq ?_<|Op<|Op<|Op<|Op<|On
     · intro I1 hf le1;refine fC [] ?_;have H:=iS I1;refine xP (gF  _ hy3 ) ?_;rintro I04 hs2 v2 k2 le4 - ⟨v010,rfl,rfl,h31⟩ -;have H:=H.trans le4;obtain ⟨p23,c23,rfl⟩:=h31.form;exact yN [] H ⟨_,_,rfl,rfl,h31⟩
     · intro I1 hf le1;refine yS [43] rfl ?_;have H:=iS I1;have ⟨h26,h27,h28,h29⟩:=m4 le1 h26 h27 h28 h29;refine pW (rc y7 (xR ⟨_,_,_,_,rfl,h26,h27,h28,h29⟩) rN) ?_;intro b4 I05 le5 h33;have H:=H.trans le5;exact yN [] H ⟨_,rfl,rfl,h33⟩
     · rintro I1 hf le1 _ _ ⟨rfl,rfl⟩ _ _ ⟨b4,rfl,rfl,h33⟩;refine yS [42,44] rfl ?_;exact qQ 6 [(45,vA [vS p7 y1 c7,vS (some ⟨b4,0,none⟩) ([y7]:List zN) 1])]<|yN [] iR ⟨_,rfl,rfl,h33⟩
     rintro I1 hf le1 _ _ ⟨p23,c23,rfl,rfl,h31⟩ _ _ ⟨b41,rfl,rfl,h331⟩;refine yS [40,45] rfl ?_;have H:=iS I1;have h7:=h7.mono le1;refine xP (eK y9 (zL.mk y1 ([y7]:List zN)) _ hy4 h31 h7 h331) ?_;rintro I06 hs2 v2 k2 le6 - ⟨v011,v012,rfl,rfl,rfl,rfl⟩ -;have H:=H.trans le6;exact xF H
   intro I07 le7;refine yS [0,2,3,4,5,6,7,48] rfl ?_;have ⟨h26,h27,h28,h29,h30,h20⟩:=m6 le7 h26 h27 h28 h29 h30 h20;have ⟨h7,h1,h2,H⟩:=m4 le7 h7 h1 h2 H;refine yI [] [9] rfl<|vV [49] rfl<|zJ<|yE N ?_ ?_
   · intro hc3 N;refine yB<|sU 3 [3,0] [(51,vS p14 Body2 c14),(52,vA (cStmt y7 p18 c18 p19 c19 p20 c20 p21 c21))]<|tJ (cStmt y7 p18 c18 p19 c19 p20 c20 p21 c21) zN ?_;intro b5 hb5;have h36:RL I07 (cStmt y7 p18 c18 p19 c19 p20 c20 p21 c21) ([y7]:List zN):=⟨(cStmt y7 p18 c18 p19 c19 p20 c20 p21 c21),_,rfl,rfl,(xR ⟨_,_,_,_,rfl,h26,h27,h28,h29⟩),rfl⟩;obtain ⟨l,hy5,N⟩:=zB N;refine pP 48 9 3 rfl rfl rfl h20 (.inr ⟨0,rfl⟩) h36 hy5 ?_;intro p24 c24 cs5 h37;exact sX (zY [1,2,3,4,5] (hs':=[hB b3 (cStmt y7 p18 c18 p19 c19 p20 c20 p21 c21),hB r01 (cRd y8 p22 c22),hO zN (vS p24 l c24) cs5,hB b1 [vS p7 y1 c7,vS p14 Body2 c14],hB b (cPart x p1 c1 p2 c2)]))<|yD 6 [] [55] rfl<|xI 3 [vS p7 y1 c7,vS p24 l c24] rfl<|yC rfl<|zJ<|zGE<|zFV rfl<|jY<|jY<|xV (zX [2,1,3,4] rfl (by decide))<|yQ<|hx _ _ _ _ _ _ _ _ (zC N).symm H h37 h30
   intro hc3 N;exact zT<|zQ<|zJ<|zO<|yI [] [6] rfl<|yZ<|kP (zX [2,1,3,4] rfl (by decide))<|mW<|ih (W (n0 + 1)) y8 _ N H h7 h1 h2 h20 h30 hg ho hx
 intro hc2 N;exact uA<|yQ<|hx _ _ _ _ _ _ _ _ (zC N).symm H h20 h21
def pF (y1:(List zE)) (k0:Int) (Body:List zN) (x4:zH):Option ((List zN×zH)):=do
 if (decide (k0 > 0)) then
  let (Body3,x7)←pE y1 Body 0 x4
  pF y1 (W (k0 - 1)) Body3 x7
 else
  pure (Body,x4)
 partial_fixpoint
theorem zCy (y1:(List zE)):∀ (k0:Int) (Body:List zN) (x4:zH) (o:(List zN×zH)),pF y1 k0 Body x4=some o→∀ {B}{I0 I:Imm}{Q}{i:Int}{x:zL}{r01:Nat}{b:Nat}{p1 c1 p2 c2 p7 c7}{b1:Nat}{p10 c10 cs p11 c11},I0.le I→(S4 I p7 y1 c7)→(S4 I p1 x.Nest c1)→(S4 I p2 x.Body c2)→(RL I cs Body)→(S4 I p11 x4.b c11)→NG Q→NO Q→(∀ (I':Imm) (Body1:List zN) (x5:zH) (p12:Option Addr) (c12:Nat) (cs1:List Value) (p13:Option Addr) (c13:Nat),o=(Body1,x5)→I0.le I'→(RL I' cs1 Body1)→(S4 I' p13 x5.b c13)→T 81 B Q (.exit 2) I' [hO zN (vS p12 Body1 c12) cs1,hB r01 (cRd x5 p13 c13),hB b1 [vS p7 y1 c7,vS p12 Body1 c12],hB b (cPart x p1 c1 p2 c2)] [(0,vP r01 0),(2,vP b 0),(3,vI i),(4,vP b1 0)])→J Tryz.prog 81 B (nav (bodyOf Tryz.f120) [1,0,1,0,0,1,0,0,1,0,1,0]) Q I [hO zN (vS p10 Body c10) cs,hB r01 (cRd x4 p11 c11),hB b1 [vS p7 y1 c7,vS p10 Body c10],hB b (cPart x p1 c1 p2 c2)] [(0,vP r01 0),(2,vP b 0),(3,vI i),(4,vP b1 0),(5,vI k0)]:=by
 refine pF.partial_correctness y1 _ fun self ih k0 Body x4 o N B I0 I Q i x r01 b p1 c1 p2 c2 p7 c7 b1 p10 c10 cs p11 c11 H h7 h1 h2 h16 h17 hg ho hx=>yY hg ho<|zZ<|yH [27] rfl<|zJ<|yE N ?_ ?_
 · intro hc1 N;refine zT<|yA<|yL<|yH [6] rfl<|wK<|oM [(0,vP r01 0),(2,vP b 0),(3,vI i),(4,vP b1 0),(5,vI k0),(6,vI 0)] ?_;obtain ⟨o0,ho0,hMl⟩:=zB N;refine zCx y1 Body 0 x4 o0 ho0 iR h7 h1 h2 h16 h17 (fun _ _ _ h=>hg _ _ _ h) (fun _ _ h=>ho _ _ h) ?_;intro I08 Body3 x7 p16 c16 cs3 p17 c17 heq le8 h22 h23;subst o0;have ⟨h7,h1,h2,H⟩:=m4 le8 h7 h1 h2 H;exact zV<|zQ<|zJ<|zO<|yI [] [5] rfl<|yZ<|mW<|ih (W (k0 - 1)) Body3 x7 _ hMl H h7 h1 h2 h22 h23 hg ho hx
 intro hc1 N;exact uA<|yQ<|hx _ _ _ _ _ _ _ _ (zC N).symm H h16 h17
def pG (x:zL) (i:Int) (x1:zH):Option (Out (zL×zH) (zL×zH)):=do
 if (decide (i < 4)) then
  let (y1,y2)←jL x1
  let (y4,y5)←yK y2 ([1,2,1,3]:List Int)
  let (Body1,x5)←pF y1 y4 ([]:List zN) y5
  let y13←mB
  let (y15,y16)←pS y13 (zL.mk y1 Body1)
  let t66←(do
    if y16 then
     pure (decide (y15 ≤ 40))
    else
     pure false
      : Option Bool)
  if t66 then
   pure (.ret ((zL.mk y1 Body1),x5))
  else
   pG x (W (i + 1)) x5
 else
  pure (.done (x,x1))
 partial_fixpoint
theorem zCz (x:zL):∀ (i:Int) (x1:zH) (o:Out (zL×zH) (zL×zH)),pG x i x1=some o→∀ {B}{I0 I:Imm}{Q}  {r01:Nat}{b:Nat}{p1 c1 p2 c2 p3 c3},I0.le I→(S4 I p1 x.Nest c1)→(S4 I p2 x.Body c2)→(S4 I p3 x1.b c3)→NG Q→NO Q→(∀ (I':Imm) (x2:zL) (x3:zH) (p4:Option Addr) (c4:Nat) (p5:Option Addr) (c5:Nat) (p6:Option Addr) (c6:Nat),o=(.done (x2,x3))→I0.le I'→(S4 I' p4 x2.Nest c4)→(S4 I' p5 x2.Body c5)→(S4 I' p6 x3.b c6)→T 81 B Q (.exit 0) I' [hB b (cPart x2 p4 c4 p5 c5),hB r01 (cRd x3 p6 c6)] [(2,vP b 0)])→(∀ r I' hs' m',o=(.ret r)→I0.le I'→RS Tryz.prog Tryz.f120 B (zAO r01 r) I' hs' m'→T 81 B Q .ret I' hs' m')→J Tryz.prog 81 B (nav (bodyOf Tryz.f120) [1,0,1,0]) Q I [hB b (cPart x p1 c1 p2 c2),hB r01 (cRd x1 p3 c3)] [(0,vP r01 0),(2,vP b 0),(3,vI i)]:=by
 refine pG.partial_correctness x _ fun self ih i x1 o N B I0 I Q r01 b p1 c1 p2 c2 p3 c3 H h1 h2 h3 hg ho hx hr=>yY hg ho<|zZ<|yH [17] rfl<|zJ<|yE N ?_ ?_
 · intro hc N;refine zT<|yA<|yL<|yB<|yD 1 [] [20] rfl<|sX (zY [1,0] (hs':=[hB r01 (cRd x1 p3 c3),hB b (cPart x p1 c1 p2 c2)])) ?_;obtain ⟨⟨y1,y2⟩,hy,N⟩:=zB N;refine uQ (zEn x1 _ hy h3) rfl ?_;rintro I0 hs2 v2 k2 le - ⟨v0,kk,rfl,rfl,h7,h8⟩ -;have ⟨h1,h2,H⟩:=m3 le h1 h2 H;obtain ⟨p7,c7,rfl⟩:=h7.form;obtain ⟨p8,c8,rfl,h9⟩:=zW h8;refine yD 3 [] [22] rfl<|wU zTwo ?_;intro b1 hb1;refine xI 0 [vS p7 y1 c7,z0] rfl<|yC rfl<|yA<|yB<|yD 1 [] [23] rfl<|pW (rI [1,2,1,3]) ?_;intro b2 I01 le1 h11;have ⟨h7,h9,h1,h2,H⟩:=m5 le1 h7 h9 h1 h2 H;refine sX (zY [1,0,2] (hs':=[hB r01 (cRd y2 p8 c8),hB b1 [vS p7 y1 c7,z0],hB b (cPart x p1 c1 p2 c2)])) ?_;obtain ⟨⟨y4,y5⟩,hy1,N⟩:=zB N;refine uQ (yR y2 ([1,2,1,3]:List Int) _ hy1 h9 h11) rfl ?_;rintro I02 hs2 v2 k2 le2 - ⟨v02,kk1,rfl,rfl,rfl,h13⟩ -;have ⟨h7,h1,h2,H⟩:=m4 le2 h7 h1 h2 H;obtain ⟨p9,c9,rfl,h14⟩:=zW h13;refine yI [] [5] rfl<|wK<|oM [(0,vP r01 0),(2,vP b 0),(3,vI i),(4,vP b1 0),(5,vI y4)]<|zAE zN fun h15=>?_;obtain ⟨o01,ho01,hMl1⟩:=zB N;refine zCy y1 y4 ([]:List zN) y5 o01 ho01 iR h7 h1 h2 h15 h14 (fun _ _ _ h=>hg _ _ _ h) (fun _ _ h=>ho _ _ h) ?_;intro I09 Body1 x5 p12 c12 cs1 p13 c13 heq1 le9 h18 h19;subst o01;have ⟨h7,h1,h2,H⟩:=m4 le9 h7 h1 h2 H;refine zV<|yA<|oY 0 rfl ?_;intro I010 le10 hl02;have h38:=SL.of_frozen hl02 le10 h18;have ⟨h19,h7,h1,h2,H⟩:=m5 le10 h19 h7 h1 h2 H;obtain ⟨y13,hy6,N⟩:=zB hMl1;obtain ⟨⟨y15,y16⟩,hy7,N⟩:=zB N;refine wS [.x (eS y13),.p (vA [vS p7 y1 c7,vS p12 Body1 c12]) [1],.q (.tuple ⟨[vI y15,.bool y16]⟩),.p (.tuple ⟨[vI y15,.bool y16]⟩) [],.p (vI y15) [],.p (.bool y16) [],.p (vI y15) []] [[],[],[(0,false),(1,false)],[(2,false)],[(3,false)],[(3,false)],[(4,false)]] [hB r01 (cRd x5 p13 c13),hB b1 [vS p7 y1 c7,vS p12 Body1 c12],hB b (cPart x p1 c1 p2 c2)] [] [(5,false),(6,false)] (zY [0,1,2]) ?_ ?_
   · refine Ox ?_<|Op<|Oq ?_<|Op<|Op<|Op<|Op<|On
     · intro I1 hf le1;refine fC [] ?_;have H:=iS I1;refine xP (gF  _ hy6 ) ?_;rintro I011 hs2 v2 k2 le11 - ⟨v013,rfl,rfl,h39⟩ -;have H:=H.trans le11;obtain ⟨p25,c25,rfl⟩:=h39.form;exact yN [] H ⟨_,_,rfl,rfl,h39⟩
     rintro I1 hf le1 _ _ ⟨p25,c25,rfl,rfl,h39⟩;refine yS [57,58] rfl ?_;have H:=iS I1;have ⟨h7,h38⟩:=m2 le1 h7 h38;refine xP (eK y13 (zL.mk y1 Body1) _ hy7 h39 h7 h38) ?_;rintro I012 hs2 v2 k2 le12 - ⟨v014,v015,rfl,rfl,rfl,rfl⟩ -;have H:=H.trans le12;exact xF H
   intro I013 le13;refine yS [0,2,3,4,10,61] rfl ?_;have ⟨h19,h7,h38,h1,h2,H⟩:=m6 le13 h19 h7 h38 h1 h2 H;refine yI [] [11] rfl<|zJ<|zZ ?_;refine wD N [hB r01 (cRd x5 p13 c13),hB b1 [vS p7 y1 c7,vS p12 Body1 c12],hB b (cPart x p1 c1 p2 c2)] (fun t66=>[(0,vP r01 0),(2,vP b 0),(3,vI i),(4,vP b1 0),(66,.bool t66)]) (fun o02 ho02=>?_) ?_
   · have H:=iS I013;refine zO<|yD 2 [] [63] rfl<|xQ [63] ho02 ?_ ?_
     · intro hc4 N;exact yI [] [66] rfl<|yQ<|zR (ct N H)
     intro hc4 N;exact xY [] [(66,vF)]<|yQ<|zR (ct N H)
   intro t66 I014 le14 hMc;have ⟨h19,h7,h38,h1,h2,H⟩:=m6 le14 h19 h7 h38 h1 h2 H;refine zJ<|yE hMc ?_ ?_
   · intro hc5 N;exact yB<|sU 1 [1] [(67,vA [vS p7 y1 c7,vS p12 Body1 c12])]<|xI 2 [vS p7 y1 c7,vS p12 Body1 c12] rfl<|yC rfl<|xB<|zU<|zI<|zI<|hr _ _ _ _ (zC N).symm H ⟨_,_,(.cell 2 rfl rfl (by kernel_rfl) ResV.nil),(zX [0] rfl (by decide)),⟨_,_,rfl,rfl,⟨_,rfl,(sQ ⟨_,_,rfl,h7,h38⟩)⟩,(yM ⟨_,rfl,h19⟩)⟩⟩
   intro hc5 N;exact zT<|zQ<|zJ<|zO<|yI [] [3] rfl<|yZ<|kP (zX [2,0] rfl (by decide))<|mW<|ih (W (i + 1)) x5 _ N H h1 h2 h19 hg ho hx hr
 intro hc N;exact uA<|yQ<|hx _ _ _ _ _ _ _ _ _ (zC N).symm H h1 h2 h3
def jQ (r0:zH):Option (zL×zH):=do
 match←pG (zL.mk ([]:List zE) ([]:List zN)) 0 r0 with
 | .ret r0=>pure r0
 | .done (x2,x3) =>
  let (y18,y19)←mO (⟨[65,91,105,93,61,40,65,91,105,93,43,123,105,125,41]⟩:Str)
  let (y21,y22)←kY ([4]:List Int)
  pure ((zL.mk y21 ([y18]:List zN)),x3)
theorem zEu:∀ r0 r,jQ r0=some r→∀ {I:Imm}{r01:Nat}{p c},(S4 I p r0.b c)→RT 120 [vP r01 0] I [hB r01 (cRd r0 p c)] (zAO r01 r):=by
 intro r0 r N I r01 p c h;unfold jQ at N;refine yJ Tryz.func120 fun B=>yB<|wU zTwo ?_;intro b hb;refine yC rfl<|yA<|yH [3] rfl<|wK<|oM [(0,vP r01 0),(2,vP b 0),(3,vI 0)] ?_;obtain ⟨o03,ho03,hMl2⟩:=zB N;refine zCz (zL.mk ([]:List zE) ([]:List zN)) 0 r0 o03 ho03 iR (SL.nil _) (SL.nil _) h (fun _ _ _ h=>h) (fun _ _ h=>h) ?_ ?_
 · intro I015 x2 x3 p4 c4 p5 c5 p6 c6 heq3 le15 h4 h5 h6;subst o03;refine zV<|yA<|zO ?_;obtain ⟨⟨y18,y19⟩,hy8,N⟩:=zB hMl2;refine xP (zCw (⟨[65,91,105,93,61,40,65,91,105,93,43,123,105,125,41]⟩:Str) _ hy8 ) ?_;rintro I016 hs2 v2 k2 le16 - ⟨v016,v017,rfl,rfl,⟨cs6,rfl,h42⟩,rfl⟩ -;have h6:=h6.mono le16;obtain ⟨p26,c26,p27,c27,p28,c28,p29,c29,rfl,h44,h45,h46,h47⟩:=tH h42;refine yD 4 [] [70,71] rfl<|wU [vT ([]),z0,vI 0,vI 0,z0,vI 0,vT ([]),z0,z0] ?_;intro b6 hb6;refine xI 0 (cStmt y18 p26 c26 p27 c27 p28 c28 p29 c29) rfl<|xY [] []<|xE<|pW (rI [4]) ?_;intro b7 I017 le17 h49;have ⟨h44,h45,h46,h47,h6⟩:=m5 le17 h44 h45 h46 h47 h6;obtain ⟨⟨y21,y22⟩,hy9,N⟩:=zB N;refine xP (zEF ([4]:List Int) _ hy9 h49) ?_;rintro I018 hs2 v2 k2 le18 - ⟨v022,v023,rfl,rfl,h50,rfl⟩ -;have ⟨h44,h45,h46,h47,h6⟩:=m5 le18 h44 h45 h46 h47 h6;obtain ⟨p30,c30,rfl⟩:=h50.form;refine yI [] [14] rfl<|xE<|sU 2 [0] [(77,vS p30 y21 c30),(78,vA (cStmt y18 p26 c26 p27 c27 p28 c28 p29 c29))]<|tJ (cStmt y18 p26 c26 p27 c27 p28 c28 p29 c29) zN ?_;intro b8 hb8;have h52:RL I018 (cStmt y18 p26 c26 p27 c27 p28 c28 p29 c29) ([y18]:List zN):=⟨(cStmt y18 p26 c26 p27 c27 p28 c28 p29 c29),_,rfl,rfl,(xR ⟨_,_,_,_,rfl,h44,h45,h46,h47⟩),rfl⟩;refine yD 4 [] [80] rfl<|xI 2 [vS p30 y21 c30,vS (some ⟨b8,0,none⟩) ([y18]:List zN) 1] rfl<|yC rfl<|xB<|xJ 0 rfl ?_;intro I019 le19 hl04;have h53:=SL.of_frozen hl04 le19 h52;have ⟨h50,h6⟩:=m2 le19 h50 h6;obtain rfl:=zC N;exact xC ⟨_,_,(.cell 1 rfl rfl (by kernel_rfl) ResV.nil),(zX [2] rfl (by decide)),⟨_,_,rfl,rfl,⟨_,rfl,(sQ ⟨_,_,rfl,h50,h53⟩)⟩,(yM ⟨_,rfl,h6⟩)⟩⟩
 intro r0 I9 hs9 m9 heq9 le9 hrs9;subst heq9;refine zU<|zI ?_;obtain rfl:=zC hMl2;exact xC hrs9
def zDc (b0:Nat) (r:zK×zH):KT:=fun kk I' hs' v=>
  ∃ v0 k0,hs'=[.blk b0 ⟨k0⟩]∧v=tupV [v0]∧(∃ cs,v0=.agg ⟨cs⟩∧Rp.rep I' cs r.1)∧Rp.rep I' k0 r.2
def pH (i:Int) (Parts:List zL) (x:zH):Option ((List zL×zH)):=do
 if (decide (i > 0)) then
  let (y5,y6)←jQ x
  let l←app 48 Parts ([y5]:List zL)
  pH (W (i - 1)) l y6
 else
  pure (Parts,x)
 partial_fixpoint
theorem zDA :∀ (i:Int) (Parts:List zL) (x:zH) (o:(List zL×zH)),pH i Parts x=some o→∀ {B}{I0 I:Imm}{Q}{y:(List zF)}{r01:Nat}{b:Nat}{p1 c1}{b1:Nat}{p3 c3 cs p4 c4},I0.le I→(S4 I p1 y c1)→(RL I cs Parts)→(S4 I p4 x.b c4)→NG Q→NO Q→(∀ (I':Imm) (Parts1:List zL) (x1:zH) (p5:Option Addr) (c5:Nat) (cs1:List Value) (p6:Option Addr) (c6:Nat),o=(Parts1,x1)→I0.le I'→(RL I' cs1 Parts1)→(S4 I' p6 x1.b c6)→T 29 B Q (.exit 0) I' [hO zL (vS p5 Parts1 c5) cs1,hB r01 (cRd x1 p6 c6),hB b1 [vS p1 y c1,vS p5 Parts1 c5],hB b zTwo] [(2,vP b 0),(3,vP b1 0)])→J Tryz.prog 29 B (nav (bodyOf Tryz.f59) [1,1,0,1,0]) Q I [hO zL (vS p3 Parts c3) cs,hB r01 (cRd x p4 c4),hB b1 [vS p1 y c1,vS p3 Parts c3],hB b zTwo] [(0,vP r01 0),(2,vP b 0),(3,vP b1 0),(4,vI i)]:=by
 refine pH.partial_correctness  _ fun self ih i Parts x o N B I0 I Q y r01 b p1 c1 b1 p3 c3 cs p4 c4 H h1 h8 h9 hg ho hx=>yY hg ho<|zZ<|yH [11] rfl<|zJ<|yE N ?_ ?_
 · intro hc N;refine zT<|yA<|yL ?_;obtain ⟨⟨y5,y6⟩,hy2,N⟩:=zB N;obtain ⟨l,hy3,N⟩:=zB N;refine wS [.p (vP b1 1) [],.p (vS p3 Parts c3) [0],.p (vP r01 0) [],.x (fun I' v hx=>∃ p7 c7 p8 c8 p9 c9,v=vA (cPart y5 p7 c7 p8 c8)∧hx=[hB r01 (cRd y6 p9 c9)]∧(S4 I' p7 y5.Nest c7)∧(S4 I' p8 y5.Body c8)∧(S4 I' p9 y6.b c9)),.x (fun I' v hx=>∃ b3,v=vS (some ⟨b3,0,none⟩) ([y5]:List zL) 1∧hx=[]∧(SL I' (vS (some ⟨b3,0,none⟩) ([y5]:List zL) 1) ([y5]:List zL))),.x (fun I' v hx=>∃ p10 c10 cs3,v=vS p10 l c10∧hx=[hO zL (vS p10 l c10) cs3]∧(RL I' cs3 l))] [[],[(0,false)],[],[(2,false),(8,true)],[(3,false)],[(1,false),(4,false),(9,true)]] [hB b1 [vS p1 y c1,vS p3 Parts c3],hB b zTwo] [[hB r01 (cRd x p4 c4)],[hO zL (vS p3 Parts c3) cs]] [(3,true),(5,true)] (zY [2,3,1,0]) ?_ ?_
   · refine Op<|Op<|Op<|Ox ?_<|Ox ?_<|Ox ?_<|On
     · rintro I1 hf le1 _ _ ⟨rfl,rfl⟩ _ _ rfl;refine yS [16] rfl ?_;have H:=iS I1;have h9:=h9.mono le1;refine uQ (zEu x _ hy2 h9) rfl ?_;rintro I03 hs2 v2 k2 le3 - ⟨v03,kk1,rfl,rfl,⟨cs2,rfl,h12⟩,h13⟩ -;have H:=H.trans le3;obtain ⟨p7,c7,p8,c8,rfl,h14,h15⟩:=wE h12;obtain ⟨p9,c9,rfl,h16⟩:=zW h13;exact yN [hB r01 (cRd y6 p9 c9)] H ⟨_,_,_,_,_,_,rfl,rfl,h14,h15,h16⟩
     · rintro I1 hf le1 _ _ ⟨p7,c7,p8,c8,p9,c9,rfl,rfl,h14,h15,h16⟩;refine yS [17] rfl ?_;have H:=iS I1;refine pW (rc y5 (sQ ⟨_,_,rfl,h14,h15⟩) rN) ?_;intro b3 I04 le4 h18;have H:=H.trans le4;exact yN [] H ⟨_,rfl,rfl,h18⟩
     rintro I1 hf le1 _ _ ⟨rfl,rfl⟩ _ _ ⟨b3,rfl,rfl,h18⟩ _ _ rfl;refine yS [15,18] rfl ?_;have h8:=iM le1 h8;obtain ⟨ccs,k0,k01⟩:=h18;have h18:SL I1 (vS (some ⟨b3,0,none⟩) ([y5]:List zL) 1) ([y5]:List zL):=⟨_,k0,k01⟩;exact pP 36 2 0 rfl rfl rfl h8 (.inl k0) k01 hy3 fun p10 c10 cs3 h19=>uR (hs':=(hO zL (vS p10 l c10) cs3::hB b1 [vS p1 y c1,vS p3 Parts c3]::hB b zTwo::hf)) rfl<|yN [hO zL (vS p10 l c10) cs3] iR ⟨_,_,_,rfl,rfl,h19⟩
   rintro I05 le5 _ _ ⟨p7,c7,p8,c8,p9,c9,rfl,rfl,h14,h15,h16⟩ _ _ ⟨p10,c10,cs3,rfl,rfl,h19⟩;refine yS [0,2,3,4,19] rfl ?_;have ⟨h1,H⟩:=m2 le5 h1 H;exact yD 7 [] [20] rfl<|xI 2 [vS p1 y c1,vS p10 l c10] rfl<|yC rfl<|zQ<|zJ<|zO<|yI [] [4] rfl<|yZ<|mW<|ih (W (i - 1)) l y6 _ N H h1 h19 h16 hg ho hx
 intro hc N;exact uA<|yQ<|hx _ _ _ _ _ _ _ _ (zC N).symm H h8 h9
def jR (r0:zH):Option (zK×zH):=do
 let y←mB
 let (y2,y3)←yK r0 ([1,2,1,3]:List Int)
 let (Parts1,x1)←pH y2 ([]:List zL) y3
 let y7←vC (zK.mk y Parts1)
 if y7 then
  pure ((zK.mk y Parts1),x1)
 else
  let y8←mB
  let l1←slc Parts1 0 1
  pure ((zK.mk y8 l1),x1)
theorem zEv:∀ r0 r,jR r0=some r→∀ {I:Imm}{r01:Nat}{p c},(S4 I p r0.b c)→RT 59 [vP r01 0] I [hB r01 (cRd r0 p c)] (zDc r01 r):=by
 intro r0 r N I r01 p c h;unfold jR at N;refine yJ Tryz.func59 fun B=>?_;have H:=iS I;refine yB<|wU zTwo ?_;intro b hb;refine yC rfl<|xE<|bE N fun y hy N=>xP (gF  _ hy ) ?_;rintro I0 hs2 v2 k2 le - ⟨v0,rfl,rfl,h1⟩ -;have ⟨h,H⟩:=m2 le h H;obtain ⟨p1,c1,rfl⟩:=h1.form;refine yD 2 [] [6] rfl<|wU zTwo ?_;intro b1 hb1;refine xI 0 [vS p1 y c1,z0] rfl<|yC rfl<|yA<|yB<|yD 1 [] [7] rfl<|pW (rI [1,2,1,3]) ?_;intro b2 I01 le1 h3;have ⟨h1,h,H⟩:=m3 le1 h1 h H;refine sX (zY [2,0,1] (hs':=[hB r01 (cRd r0 p c),hB b1 [vS p1 y c1,z0],hB b zTwo])) ?_;obtain ⟨⟨y2,y3⟩,hy1,N⟩:=zB N;refine uQ (yR r0 ([1,2,1,3]:List Int) _ hy1 h h3) rfl ?_;rintro I02 hs2 v2 k2 le2 - ⟨v01,kk,rfl,rfl,rfl,h5⟩ -;have ⟨h1,H⟩:=m2 le2 h1 H;obtain ⟨p2,c2,rfl,h6⟩:=zW h5;refine yI [] [4] rfl<|wK<|oM [(0,vP r01 0),(2,vP b 0),(3,vP b1 0),(4,vI y2)]<|zAE zL fun h7=>?_;obtain ⟨o0,ho0,hMl⟩:=zB N;refine zDA y2 ([]:List zL) y3 o0 ho0 iR h1 h7 h6 (fun _ _ _ h=>h) (fun _ _ h=>h) ?_;intro I06 Parts1 x1 p5 c5 cs1 p6 c6 heq le6 h10 h11;subst o0;have ⟨h1,H⟩:=m2 le6 h1 H;refine zV<|yA<|yB<|sU 1 [2] [(21,vA [vS p1 y c1,vS p5 Parts1 c5])]<|xK 0 rfl ?_;intro I07 le7 hl02;have h20:=SL.of_frozen hl02 le7 h10;have ⟨h1,h11,H⟩:=m3 le7 h1 h11 H;obtain ⟨y7,hy4,N⟩:=zB hMl;refine wZ (nR (zK.mk y Parts1) _ hy4 h1 h20) ?_;intro I08 le8;have ⟨h11,h1,h20,H⟩:=m4 le8 h11 h1 h20 H;refine yC rfl<|zJ<|yE N ?_ ?_
 · intro hc1 N;refine yB<|sU 1 [1] [(23,vA [vS p1 y c1,vS p5 Parts1 c5])]<|xI 2 [vS p1 y c1,vS p5 Parts1 c5] rfl<|yC rfl<|xB<|zI ?_;obtain rfl:=zC N;exact xC ⟨_,_,(.cell 2 rfl rfl (by kernel_rfl) ResV.nil),(zX [0] rfl (by decide)),⟨_,_,rfl,rfl,⟨_,rfl,(nQ ⟨_,_,rfl,h1,h20⟩)⟩,(yM ⟨_,rfl,h11⟩)⟩⟩
 intro hc1 N;refine zT<|zJ<|zZ ?_;obtain ⟨y8,hy5,N⟩:=zB N;obtain ⟨l1,hy6,N⟩:=zB N;refine wS [.x (eS y8),.p (vP b1 1) [],.p (vS p5 Parts1 c5) [1],.x (eS l1),.x (fun I' v hx=>∃ p111 c111 p121 c121,v=vA [vS p111 y8 c111,vS p121 l1 c121]∧hx=[]∧(S4 I' p111 y8 c111)∧(S4 I' p121 l1 c121))] [[],[],[(1,false)],[(2,false)],[(0,false),(3,false)]] [hB r01 (cRd x1 p6 c6),hB b1 [vS p1 y c1,vS p5 Parts1 c5],hB b zTwo] [] [(4,false)] (zY [0,1,2]) ?_ ?_
 · refine Ox ?_<|Op<|Op<|Ox ?_<|Ox ?_<|On
   · intro I1 hf le1;refine fC [] ?_;have H:=iS I1;refine xP (gF  _ hy5 ) ?_;rintro I09 hs2 v2 k2 le9 - ⟨v08,rfl,rfl,h22⟩ -;have H:=H.trans le9;obtain ⟨p11,c11,rfl⟩:=h22.form;exact yN [] H ⟨_,_,rfl,rfl,h22⟩
   · intro I1 hf le1;refine yS [26] rfl ?_;have h20:=h20.mono le1;refine zJx rfl h20 hy6 ?_;intro v09 h23;obtain ⟨p12,c12,rfl⟩:=h23.form;exact yN [] iR ⟨_,_,rfl,rfl,h23⟩
   rintro I1 hf le1 _ _ ⟨p11,c11,rfl,rfl,h22⟩ _ _ ⟨p12,c12,rfl,rfl,h23⟩;exact yS [24,27] rfl<|qQ 5 [(28,vA [vS p11 y8 c11,vS p12 l1 c12])]<|yN [] iR ⟨_,_,_,_,rfl,rfl,h22,h23⟩
 rintro I010 le10 _ _ ⟨p111,c111,p121,c121,rfl,rfl,h221,h231⟩;refine yS [2,28] rfl ?_;have h11:=h11.mono le10;refine xI 2 [vS p111 y8 c111,vS p121 l1 c121] rfl<|yC rfl<|zJ<|yX ?_;obtain rfl:=zC N;exact xC ⟨_,_,(.cell 2 rfl rfl (by kernel_rfl) ResV.nil),(zX [0] rfl (by decide)),⟨_,_,rfl,rfl,⟨_,rfl,(nQ ⟨_,_,rfl,h221,h231⟩)⟩,(yM ⟨_,rfl,h11⟩)⟩⟩
def zDd (b0:Nat) (r:(List Int)×zH):KT:=fun kk I' hs' v=>
  ∃ v0 k0,hs'=[.blk b0 ⟨k0⟩]∧v=tupV [v0]∧SL I' v0 r.1∧Rp.rep I' k0 r.2
def jS (r0:zH) (m0:(List Int)):Option ((List Int)×zH):=do
 let out←app 8 ([]:List Int) m0
 let (y1,y2)←yO r0 40
 let (out1,x)←(do
   if (y1 == 0) then
    let out2←app 8 out ([0]:List Int)
    pure (out2,y2)
   else
    let (out3,x1)←(do
      if (y1 == 1) then
       let (out4,x2)←(do
         if (decide ((out.length:Int) > 0)) then
          let (y4,y5)←yO y2 (out.length:Int)
          let (y7,y8)←yK y5 ([1000,(-1),9223372036854775807]:List Int)
          let x3←idx out y4
          let l←pure (out.set y4.toNat y7)
          pure (l,y8)
         else
          pure (out,y2)
           : Option (List Int×zH))
       pure (out4,x2)
      else
       pure (out,y2)
        : Option (List Int×zH))
    pure (out3,x1)
     : Option (List Int×zH))
 pure (out1,x)
theorem zEw:∀ r0 m0 r,jS r0 m0=some r→∀ {I:Imm}{r01:Nat}{p c p1 c1},(S4 I p r0.b c)→(S4 I p1 m0 c1)→RT 60 [vP r01 0,vS p1 m0 c1] I [hB r01 (cRd r0 p c)] (zDd r01 r):=by
 intro r0 m0 r N I r01 p c p1 c1 h h1;unfold jS at N;refine yJ Tryz.func60 fun B=>?_;have H:=iS I;refine vU []<|xE<|tJ [] Int ?_;intro b hb;have h2:RL I [] ([]:List Int):=rfl;refine yD 2 [] [7] rfl ?_;obtain ⟨ccs,k0,k01⟩:=h1;have h1:SL I (vS p1 m0 c1) m0:=⟨_,k0,k01⟩;obtain ⟨out,hy,N⟩:=zB N;refine pP 3 1 0 rfl rfl rfl h2 (.inl k0) k01 hy fun p2 c2 cs h3=>sX (zY [0,1] (hs':=[hO Int (vS p2 out c2) cs,hB r01 (cRd r0 p c)]))<|yI [] [5] rfl<|yA<|yB<|yD 1 [] [9] rfl<|sX (zY [1,0] (hs':=[hB r01 (cRd r0 p c),hO Int (vS p2 out c2) cs])) ?_;obtain ⟨⟨y1,y2⟩,hy1,N⟩:=zB N;refine uQ (xA r0 40 _ hy1 h) rfl ?_;rintro I0 hs2 v2 k2 le - ⟨v0,kk,rfl,rfl,rfl,h5⟩ -;have ⟨h3,H⟩:=m2 le h3 H;obtain ⟨p3,c3,rfl,h6⟩:=zW h5;refine yC rfl<|wK<|yH [11] rfl<|zJ ?_;obtain ⟨o0,ho0,hMc⟩:=zB N;refine pM (fun I' hs' m'=>∃ (out1:List Int) (x:zH) (p4:Option Addr) (c4:Nat) (cs1:List Value) (p5:Option Addr) (c5:Nat),o0=(out1,x)∧I0.le I'∧(RL I' cs1 out1)∧(S4 I' p5 x.b c5)∧hs'=[hB r01 (cRd x p5 c5),hO Int (vS p4 out1 c4) cs1]∧m'=[(5,vS p4 out1 c4)]) ?_ ?_
 · have H:=iS I0;refine yE ho0 ?_ ?_
   · intro hc N;refine zO<|yD 1 [] [13] rfl<|tJ [vI 0] Int ?_;intro b1 hb1;have h9:RL I0 [vI 0] ([0]:List Int):=rI [0];obtain ⟨out2,hy2,N⟩:=zB N;exact pP 3 1 2 rfl rfl rfl h3 (.inr ⟨0,rfl⟩) h9 hy2 fun p6 c6 cs2 h10=>sX (zY [1,2] (hs':=[hB r01 (cRd y2 p3 c3),hO Int (vS p6 out2 c6) cs2]))<|yI [] [5] rfl<|yQ<|zR ⟨_,_,_,_,_,_,_,(zC N).symm,H,h10,h6,rfl,rfl⟩
   intro hc N;refine yH [16] rfl<|zJ ?_;obtain ⟨o01,ho01,hMc1⟩:=zB N;refine pM (fun I' hs' m'=>∃ (out3:List Int) (x1:zH) (p7:Option Addr) (c7:Nat) (cs3:List Value) (p8:Option Addr) (c8:Nat),o01=(out3,x1)∧I0.le I'∧(RL I' cs3 out3)∧(S4 I' p8 x1.b c8)∧hs'=[hB r01 (cRd x1 p8 c8),hO Int (vS p7 out3 c7) cs3]∧m'=[(5,vS p7 out3 c7)]) ?_ ?_
   · have H:=iS I0;refine yE ho01 ?_ ?_
     · intro hc1 N;refine yH [20] rfl<|zJ ?_;obtain ⟨o02,ho02,hMc2⟩:=zB N;refine pM (fun I' hs' m'=>∃ (out4:List Int) (x2:zH) (p9:Option Addr) (c9:Nat) (cs4:List Value) (p10:Option Addr) (c10:Nat),o02=(out4,x2)∧I0.le I'∧(RL I' cs4 out4)∧(S4 I' p10 x2.b c10)∧hs'=[hB r01 (cRd x2 p10 c10),hO Int (vS p9 out4 c9) cs4]∧m'=[(5,vS p9 out4 c9)]) ?_ ?_
       · have H:=iS I0;refine yE ho02 ?_ ?_
         · intro hc2 N;refine zO<|yD 4 [] [21,22,24] rfl ?_;obtain ⟨⟨y4,y5⟩,hy3,N⟩:=zB N;refine uQ (xA y2 (out.length:Int) _ hy3 h6) rfl ?_;rintro I04 hs2 v2 k2 le1 - ⟨v02,kk1,rfl,rfl,rfl,h16⟩ -;have ⟨h3,H⟩:=m2 le1 h3 H;obtain ⟨p11,c11,rfl,h17⟩:=zW h16;refine yD 6 [] [26] rfl<|pW (rI [1000,(-1),9223372036854775807]) ?_;intro b2 I05 le2 h19;have ⟨h3,h17,H⟩:=m3 le2 h3 h17 H;obtain ⟨⟨y7,y8⟩,hy4,N⟩:=zB N;refine uQ (yR y5 ([1000,(-1),9223372036854775807]:List Int) _ hy4 h17 h19) rfl ?_;rintro I06 hs2 v2 k2 le3 - ⟨v04,kk2,rfl,rfl,rfl,h21⟩ -;have ⟨h3,H⟩:=m2 le3 h3 H;obtain ⟨p12,c12,rfl,h22⟩:=zW h21;obtain ⟨x3,hy5,N⟩:=zB N;refine kR 1 rfl rfl rfl h3 hy5 ?_;intro ad ccs1 hat hcc hrep;obtain rfl:=hrep;obtain ⟨l,hy6,N⟩:=zB N;refine oA (c:=[vI y7]) (x':=y7) 1 0 rfl rfl rfl hat rfl rfl hcc (by kernel_rfl) (by kernel_rfl) (by kernel_rfl) h3 hy5 (by kernel_rfl) rfl ?_;rw [show out.set y4.toNat y7=l from zC hy6];intro cs5 h23 hl01;exact jI (m':=[(5,vS p2 out c2),(21,vS p2 out c2),(25,vI y4),(28,vI y7)]) ⟨rfl,rfl,rfl,rfl,trivial⟩<|zBr (hs':=[hB r01 (cRd y8 p12 c12),hO Int (vS p2 l c2) cs5]) (m':=[(5,vS p2 l c2),(21,vS p2 l c2),(25,vI y4),(28,vI y7)]) (by first | rfl | simp only [vS,hl01,List.nil_append,List.cons_append,List.set_cons_zero,List.set_cons_succ,List.eraseIdx_cons_zero,List.eraseIdx_cons_succ]) (by first | rfl | simp only [vS,hl01])<|yC rfl<|yQ<|zR ⟨_,_,_,_,_,_,_,(zC N).symm,H,h23,h22,rfl,rfl⟩
         intro hc2 N;exact zT<|yQ<|zR ⟨_,_,_,_,_,_,_,(zC N).symm,H,h3,h6,rfl,rfl⟩
       rintro I03 hs2 m2 ⟨out4,x2,p9,c9,cs4,p10,c10,heq,le4,h13,h14,rfl,rfl⟩;subst o02;have H:=H.trans le4;exact yQ<|zR ⟨_,_,_,_,_,_,_,(zC hMc2).symm,H,h13,h14,rfl,rfl⟩
     intro hc1 N;exact zT<|yQ<|zR ⟨_,_,_,_,_,_,_,(zC N).symm,H,h3,h6,rfl,rfl⟩
   rintro I02 hs2 m2 ⟨out3,x1,p7,c7,cs3,p8,c8,heq1,le5,h11,h12,rfl,rfl⟩;subst o01;have H:=H.trans le5;exact yQ<|zR ⟨_,_,_,_,_,_,_,(zC hMc1).symm,H,h11,h12,rfl,rfl⟩
 rintro I01 hs2 m2 ⟨out1,x,p4,c4,cs1,p5,c5,heq2,le6,h7,h8,rfl,rfl⟩;subst o0;refine zQ<|vV [4] rfl<|xB<|xJ 1 rfl ?_;intro I07 le7 hl02;have h24:=SL.of_frozen hl02 le7 h7;have h8:=h8.mono le7;obtain rfl:=zC hMc;exact xC ⟨_,_,(.tmp rfl ResV.nil),(zX [0] rfl (by decide)),⟨_,_,rfl,rfl,h24,(yM ⟨_,rfl,h8⟩)⟩⟩
def qE (p:zK) (n0:Int) (i:Int):Option (Int):=do
 if (decide (i < (p.Arrays.length:Int))) then
  let x←idx p.Arrays i
  let y←oQ x
  qE p (W (n0 + y)) (W (i + 1))
 else
  pure (id n0)
 partial_fixpoint
theorem zCK (p:zK):∀ (n0:Int) (i:Int) (o:Int),qE p n0 i=some o→∀ {B}{I0 I:Imm}{Q p1 c p2 c1}{b:Nat},I0.le I→(S4 I p1 p.Arrays c)→(S4 I p2 p.Parts c1)→NG Q→NO Q→(∀ (I':Imm) (n01:Int),o=n01→I0.le I'→T 21 B Q (.exit 0) I' [] [(3,vI n01)])→J Tryz.prog 21 B (nav (bodyOf Tryz.f129) [1,1,0,1,0]) Q I [hB b (cProg p p1 c p2 c1)] [(1,vP b 0),(3,vI n0),(4,vI i)]:=by
 refine qE.partial_correctness p _ fun self ih n0 i o N B I0 I Q p1 c p2 c1 b H h h1 hg ho hx=>yY hg ho<|zZ<|yB<|yI [0] [9] rfl<|zJ<|yE N ?_ ?_
 · intro hc N;refine zT<|yA<|yL<|zO<|yD 4 [0] [12,14,15] rfl<|bE N fun x hy N=>xS rfl rfl h hy ?_;intro ad ccs hat hrep;obtain ⟨p3,c2,rfl,h2⟩:=wT hrep;refine xL 0 hat (cArr x p3 c2) (vA (cArr x p3 c2)) rfl<|bE N fun y hy1 N=>oH (zBG x _ hy1 h2) ?_;intro I0 le;have ⟨h,h1,H⟩:=m3 le h h1 H;exact yI [] [3] rfl<|zQ<|zJ<|zO<|yI [] [4] rfl<|yZ<|mW<|ih (W (n0 + y)) (W (i + 1)) _ N H h h1 hg ho hx
 intro hc N;exact uA<|xV zP<|yQ<|hx _ _ (zC N).symm H
def mP (p:zK):Option (Int):=do
 let n01←qE p 0 0
 pure (id n01)
theorem zAf:∀ p r,mP p=some r→∀ {I:Imm}{p1 c p2 c1},(S4 I p1 p.Arrays c)→(S4 I p2 p.Parts c1)→RT 129 [vA (cProg p p1 c p2 c1)] I [] (yP  r):=by
 intro p r N I p1 c p2 c1 h h1;unfold mP at N;refine yJ Tryz.func129 fun B=>yB<|vM (cProg p p1 c p2 c1) ?_;intro b hb;refine xY [] []<|vV [3] rfl<|yA<|yH [4] rfl<|wK<|oM [(1,vP b 0),(3,vI 0),(4,vI 0)] ?_;obtain ⟨o0,ho0,hMl⟩:=zB N;refine zCK p 0 0 o0 ho0 iR h h1 (fun _ _ _ h=>h) (fun _ _ h=>h) ?_;intro I01 n01 heq le1;subst o0;refine zV<|vV [2] rfl<|zJ<|yX ?_;obtain rfl:=zC hMl;exact xZ
def nU (p:zK):Option (Int):=do
 let y←vC p
 if (!y) then
  pure (id 0)
 else
  let y1←mP p
  pure (id y1)
theorem zCL:∀ p r,nU p=some r→∀ {I:Imm}{p1 c p2 c1},(S4 I p1 p.Arrays c)→(S4 I p2 p.Parts c1)→RT 121 [vA (cProg p p1 c p2 c1)] I [] (yP  r):=by
 intro p r N I p1 c p2 c1 h h1;unfold nU at N;refine yJ Tryz.func121 fun B=>yB<|vM (cProg p p1 c p2 c1) ?_;intro b hb;refine xY [] []<|yA<|yB<|sU 1 [0] [(3,vA (cProg p p1 c p2 c1))]<|bE N fun y hy N=>wZ (nR p _ hy h h1) ?_;intro I0 le;have ⟨h,h1⟩:=m2 le h h1;refine yI [] [5] rfl<|zJ<|yE N ?_ ?_
 · intro hc N;refine yH [2] rfl<|xB<|zI ?_;obtain rfl:=zC N;exact xZ
 intro hc N;refine zT<|xE<|sU 1 [0] [(6,vA (cProg p p1 c p2 c1))]<|bE N fun y1 hy1 N=>oH (zAf p _ hy1 h h1) fun I01 le1=>xY [] [(2,vI y1)]<|zJ<|yX ?_;obtain rfl:=zC N;exact xZ
def zCM (b0:Nat) (r:(List Int)×zH):KT:=fun kk I' hs' v=>
  ∃ v0 k0,hs'=[.blk b0 ⟨k0⟩]∧v=tupV [v0]∧SL I' v0 r.1∧Rp.rep I' k0 r.2
def rA (out:List Int) (i:Int) (x:zH):Option ((List Int×zH)):=do
 if (decide (i > 0)) then
  let (y2,y3)←yK x ([1,2,5,0,7,999,10]:List Int)
  let out2←app 8 out ([y2]:List Int)
  rA out2 (W (i - 1)) y3
 else
  pure (out,x)
 partial_fixpoint
theorem zBa :∀ (out:List Int) (i:Int) (x:zH) (o:(List Int×zH)),rA out i x=some o→∀ {B}{I0 I:Imm}{Q}  {r01:Nat}{p4 c3 cs p5 c4},I0.le I→(RL I cs out)→(S4 I p5 x.b c4)→NG Q→NO Q→(∀ (I':Imm) (out1:List Int) (x1:zH) (p6:Option Addr) (c5:Nat) (cs1:List Value) (p7:Option Addr) (c6:Nat),o=(out1,x1)→I0.le I'→(RL I' cs1 out1)→(S4 I' p7 x1.b c6)→T 21 B Q (.exit 0) I' [hO Int (vS p6 out1 c5) cs1,hB r01 (cRd x1 p7 c6)] [(5,vS p6 out1 c5)])→J Tryz.prog 21 B (nav (bodyOf Tryz.f61) [1,1,0,1,0]) Q I [hO Int (vS p4 out c3) cs,hB r01 (cRd x p5 c4)] [(0,vP r01 0),(5,vS p4 out c3),(6,vI i)]:=by
 refine rA.partial_correctness  _ fun self ih out i x o N B I0 I Q r01 p4 c3 cs p5 c4 H h5 h6 hg ho hx=>yY hg ho<|zZ<|yH [11] rfl<|zJ<|yE N ?_ ?_
 · intro hc N;refine zT<|yA<|yL<|zO<|yD 2 [] [14,15] rfl<|pW (rI [1,2,5,0,7,999,10]) ?_;intro b2 I01 le1 h10;have ⟨h5,h6,H⟩:=m3 le1 h5 h6 H;refine sX (zY [1,0] (hs':=[hB r01 (cRd x p5 c4),hO Int (vS p4 out c3) cs])) ?_;obtain ⟨⟨y2,y3⟩,hy1,N⟩:=zB N;refine uQ (yR x ([1,2,5,0,7,999,10]:List Int) _ hy1 h6 h10) rfl ?_;rintro I02 hs2 v2 k2 le2 - ⟨v01,kk,rfl,rfl,rfl,h12⟩ -;have ⟨h5,H⟩:=m2 le2 h5 H;obtain ⟨p8,c7,rfl,h13⟩:=zW h12;refine tJ [vI y2] Int ?_;intro b3 hb3;have h14:RL I02 [vI y2] ([y2]:List Int):=rI [y2];obtain ⟨out2,hy2,N⟩:=zB N;exact pP 3 1 2 rfl rfl rfl h5 (.inr ⟨0,rfl⟩) h14 hy2 fun p9 c8 cs2 h15=>sX (zY [1,2] (hs':=[hB r01 (cRd y3 p8 c7),hO Int (vS p9 out2 c8) cs2]))<|yI [] [5] rfl<|zQ<|zJ<|zO<|yI [] [6] rfl<|yZ<|kP (zX [1,0] rfl (by decide))<|mW<|ih out2 (W (i - 1)) y3 _ N H h15 h13 hg ho hx
 intro hc N;exact uA<|yQ<|hx _ _ _ _ _ _ _ _ (zC N).symm H h5 h6
def kJ (r0:zH) (p1:zK):Option ((List Int)×zH):=do
 let y←nU p1
 let (out1,x1)←rA ([]:List Int) y r0
 pure (out1,x1)
theorem zDe:∀ r0 p1 r,kJ r0 p1=some r→∀ {I:Imm}{r01:Nat}{p c p2 c1 p3 c2},(S4 I p r0.b c)→(S4 I p2 p1.Arrays c1)→(S4 I p3 p1.Parts c2)→RT 61 [vP r01 0,vA (cProg p1 p2 c1 p3 c2)] I [hB r01 (cRd r0 p c)] (zCM r01 r):=by
 intro r0 p1 r N I r01 p c p2 c1 p3 c2 h h1 h2;unfold kJ at N;refine yJ Tryz.func61 fun B=>yB<|vM (cProg p1 p2 c1 p3 c2) ?_;intro b hb;refine xY [] []<|xE<|tJ [] Int ?_;intro b1 hb1;have h3:RL I [] ([]:List Int):=rfl;refine yI [] [5] rfl<|yA<|yB<|sU 1 [1] [(8,vA (cProg p1 p2 c1 p3 c2))]<|bE N fun y hy N=>oH (zCL p1 _ hy h1 h2) ?_;intro I0 le;have ⟨h3,h⟩:=m2 le h3 h;refine yI [] [6] rfl<|wK<|kP (zY [0,2] (hs':=[hO Int (vS (some ⟨b1,0,none⟩) ([]:List Int) 0) [],hB r01 (cRd r0 p c)]))<|oM [(0,vP r01 0),(5,vS (some ⟨b1,0,none⟩) ([]:List Int) 0),(6,vI y)] ?_;obtain ⟨o0,ho0,hMl⟩:=zB N;refine zBa ([]:List Int) y r0 o0 ho0 iR h3 h (fun _ _ _ h=>h) (fun _ _ h=>h) ?_;intro I03 out1 x1 p6 c5 cs1 p7 c6 heq le3 h7 h8;subst o0;refine zV<|vV [4] rfl<|xB<|xJ 0 rfl ?_;intro I04 le4 hl01;have h16:=SL.of_frozen hl01 le4 h7;have h8:=h8.mono le4;obtain rfl:=zC hMl;exact xC ⟨_,_,(.tmp rfl ResV.nil),(zX [0] rfl (by decide)),⟨_,_,rfl,rfl,h16,(yM ⟨_,rfl,h8⟩)⟩⟩
def gQ (r:(List zM)):KT:=fun kk I' hs' v=>
  ∃ v0,hs'=[]∧v=tupV [v0]∧SL I' v0 r
def wH (p:zK) (i:Int) (y:(List (List Int))) (k0:Int) (out4:List zM) (s:Int):Option (List zM):=do
 let x1←idx p.Parts i
 if (decide (s < (x1.Body.length:Int))) then
  let x2←idx y k0
  let l←app 8 ([]:List Int) x2
  let out6←app 40 out4 ([(zM.mk i s l)]:List zM)
  wH p i y k0 out6 (W (s + 1))
 else
  pure (id out4)
 partial_fixpoint
theorem zA2 (p:zK) (i:Int) (y:(List (List Int))) (k0:Int):∀ (out4:List zM) (s:Int) (o:List zM),wH p i y k0 out4 s=some o→∀ {B}{I0 I:Imm}{Q p1 c p2 c1}{b:Nat}{p7 c6 cs2 p10 c9 cs5},I0.le I→(RL I cs2 y)→(S4 I p1 p.Arrays c)→(S4 I p2 p.Parts c1)→(RL I cs5 out4)→NG Q→NO Q→(∀ (I':Imm) (out5:List zM) (p11:Option Addr) (c10:Nat) (cs6:List Value),o=out5→I0.le I'→(RL I' cs6 out5)→T 54 B Q (.exit 4) I' [hO (List Int) (vS p7 y c6) cs2,hO zM (vS p11 out5 c10) cs6,hB b (cProg p p1 c p2 c1)] [(1,vP b 0),(3,vS p11 out5 c10),(4,vI i),(5,vS p7 y c6),(6,vI k0)])→J Tryz.prog 54 B (nav (bodyOf Tryz.f146) [1,1,0,1,0,0,1,0,0,1,1,0,0,1,0,0,1,0]) Q I [hO (List Int) (vS p7 y c6) cs2,hO zM (vS p10 out4 c9) cs5,hB b (cProg p p1 c p2 c1)] [(1,vP b 0),(3,vS p10 out4 c9),(4,vI i),(5,vS p7 y c6),(6,vI k0),(7,vI s)]:=by
 refine wH.partial_correctness p i y k0 _ fun self ih out4 s o N B I0 I Q p1 c p2 c1 b p7 c6 cs2 p10 c9 cs5 H h8 h h1 h11 hg ho hx=>yY hg ho<|zZ<|yB<|yD 4 [2] [30,32,33] rfl<|bE N fun x1 hy2 N=>xS rfl rfl h1 hy2 ?_;intro ad1 ccs1 hat1 hrep1;obtain ⟨p12,c11,p13,c12,rfl,h13,h14⟩:=wE hrep1;refine yD 6 [] [35] rfl<|xL 1 hat1 [vS p13 x1.Body c12] (vS p13 x1.Body c12) rfl<|yI [] [38] rfl<|zJ<|yE N ?_ ?_
 · intro hc2 N;refine zT<|yA<|yL<|zO<|yD 3 [] [41,42,43] rfl<|tJ [] Int ?_;intro b3 hb3;have h15:RL I [] ([]:List Int):=rfl;refine yD 6 [] [45,46] rfl<|bE N fun x2 hy3 N=>kR 1 rfl rfl rfl h8 hy3 ?_;intro ad2 ccs2 hat2 hcc hrep2;obtain ⟨v04,rfl,h16⟩:=hrep2;obtain ⟨p14,c13,rfl⟩:=h16.form;refine zDs 1 0 hat2 hcc [vS p14 x2 c13] (vS p14 x2 c13) rfl rfl ?_;obtain ⟨ccs3,k01,k02⟩:=h16;have h16:SL I (vS p14 x2 c13) x2:=⟨_,k01,k02⟩;obtain ⟨l,hy4,N⟩:=zB N;refine pP 3 1 0 rfl rfl rfl h15 (.inl k01) k02 hy4 fun p15 c14 cs7 h17=>sX (zY [0,1,2,3] (hs':=[hO Int (vS p15 l c14) cs7,hO (List Int) (vS p7 y c6) cs2,hO zM (vS p10 out4 c9) cs5,hB b (cProg p p1 c p2 c1)]))<|yD 10 [] [50] rfl<|xK 0 rfl ?_;intro I01 le1 hl0;have h18:=SL.of_frozen hl0 le1 h17;have ⟨h8,h11,h,h1,H⟩:=m5 le1 h8 h11 h h1 H;refine tJ [vI i,vI s,vS p15 l c14] zM ?_;intro b4 hb4;have h19:RL I01 [vI i,vI s,vS p15 l c14] ([(zM.mk i s l)]:List zM):=⟨[vI i,vI s,vS p15 l c14],_,rfl,rfl,(nB ⟨_,rfl,h18⟩),rfl⟩;obtain ⟨out6,hy5,N⟩:=zB N;exact pP 58 3 2 rfl rfl rfl h11 (.inr ⟨0,rfl⟩) h19 hy5 fun p16 c15 cs8 h20=>sX (zY [1,2,3] (hs':=[hO (List Int) (vS p7 y c6) cs2,hO zM (vS p16 out6 c15) cs8,hB b (cProg p p1 c p2 c1)]))<|yI [] [3] rfl<|zQ<|zJ<|zO<|yI [] [7] rfl<|yZ<|mW<|ih out6 (W (s + 1)) _ N H h8 h h1 h20 hg ho hx
 intro hc2 N;exact uA<|yQ<|hx _ _ _ _ _ (zC N).symm H h11
def wI (p:zK) (i:Int) (y:(List (List Int))) (out2:List zM) (k0:Int):Option (List zM):=do
 if (decide (k0 < (y.length:Int))) then
  let out5←wH p i y k0 out2 0
  wI p i y out5 (W (k0 + 1))
 else
  pure (id out2)
 partial_fixpoint
theorem zA3 (p:zK) (i:Int) (y:(List (List Int))):∀ (out2:List zM) (k0:Int) (o:List zM),wI p i y out2 k0=some o→∀ {B}{I0 I:Imm}{Q p1 c p2 c1}{b:Nat}{p7 c6 cs2 p8 c7 cs3},I0.le I→(RL I cs2 y)→(S4 I p1 p.Arrays c)→(S4 I p2 p.Parts c1)→(RL I cs3 out2)→NG Q→NO Q→(∀ (I':Imm) (out3:List zM) (p9:Option Addr) (c8:Nat) (cs4:List Value),o=out3→I0.le I'→(RL I' cs4 out3)→T 54 B Q (.exit 2) I' [hO zM (vS p9 out3 c8) cs4,hB b (cProg p p1 c p2 c1)] [(1,vP b 0),(3,vS p9 out3 c8),(4,vI i)])→J Tryz.prog 54 B (nav (bodyOf Tryz.f146) [1,1,0,1,0,0,1,0,0,1,1,0]) Q I [hO (List Int) (vS p7 y c6) cs2,hO zM (vS p8 out2 c7) cs3,hB b (cProg p p1 c p2 c1)] [(1,vP b 0),(3,vS p8 out2 c7),(4,vI i),(5,vS p7 y c6),(6,vI k0)]:=by
 refine wI.partial_correctness p i y _ fun self ih out2 k0 o N B I0 I Q p1 c p2 c1 b p7 c6 cs2 p8 c7 cs3 H h8 h h1 h9 hg ho hx=>yY hg ho<|zZ<|yH [27] rfl<|zJ<|yE N ?_ ?_
 · intro hc1 N;refine zT<|yA<|yL<|yH [7] rfl<|wK<|oM [(1,vP b 0),(3,vS p8 out2 c7),(4,vI i),(5,vS p7 y c6),(6,vI k0),(7,vI 0)] ?_;obtain ⟨o0,ho0,hMl⟩:=zB N;refine zA2 p i y k0 out2 0 o0 ho0 iR h8 h h1 h9 (fun _ _ _ h=>hg _ _ _ h) (fun _ _ h=>ho _ _ h) ?_;intro I02 out5 p11 c10 cs6 heq le2 h12;subst o0;have ⟨h8,h,h1,H⟩:=m4 le2 h8 h h1 H;exact zV<|zQ<|zJ<|zO<|yI [] [6] rfl<|yZ<|mW<|ih out5 (W (k0 + 1)) _ hMl H h8 h h1 h12 hg ho hx
 intro hc1 N;exact uA<|xV (zX [1,2] rfl (by decide))<|yQ<|hx _ _ _ _ _ (zC N).symm H h9
def wJ (p:zK) (out:List zM) (i:Int):Option (List zM):=do
 if (decide (i < (p.Parts.length:Int))) then
  let x←idx p.Parts i
  let y←vE ([]:List (List Int)) x.Nest ([]:List Int)
  let out3←wI p i y out 0
  wJ p out3 (W (i + 1))
 else
  pure (id out)
 partial_fixpoint
theorem zA4 (p:zK):∀ (out:List zM) (i:Int) (o:List zM),wJ p out i=some o→∀ {B}{I0 I:Imm}{Q p1 c p2 c1}{b:Nat}{p3 c2 cs},I0.le I→(S4 I p1 p.Arrays c)→(S4 I p2 p.Parts c1)→(RL I cs out)→NG Q→NO Q→(∀ (I':Imm) (out1:List zM) (p4:Option Addr) (c3:Nat) (cs1:List Value),o=out1→I0.le I'→(RL I' cs1 out1)→T 54 B Q (.exit 0) I' [hO zM (vS p4 out1 c3) cs1] [(3,vS p4 out1 c3)])→J Tryz.prog 54 B (nav (bodyOf Tryz.f146) [1,1,0,1,0]) Q I [hO zM (vS p3 out c2) cs,hB b (cProg p p1 c p2 c1)] [(1,vP b 0),(3,vS p3 out c2),(4,vI i)]:=by
 refine wJ.partial_correctness p _ fun self ih out i o N B I0 I Q p1 c p2 c1 b p3 c2 cs H h h1 h3 hg ho hx=>yY hg ho<|zZ<|yB<|yI [1] [13] rfl<|zJ<|yE N ?_ ?_
 · intro hc N;refine zT<|yA<|yL<|yB<|tJ [] (List Int) ?_;intro b2 hb2;have h5:RL I [] ([]:List (List Int)):=rfl;refine yD 4 [2] [18,19] rfl<|bE N fun x hy N=>xS rfl rfl h1 hy ?_;intro ad ccs hat hrep;obtain ⟨p5,c4,p6,c5,rfl,h6,h7⟩:=wE hrep;refine yD 6 [] [21] rfl<|xL 0 hat [vS p5 x.Nest c4] (vS p5 x.Nest c4) rfl<|bE N fun y hy1 N=>uQ (zAK ([]:List (List Int)) x.Nest ([]:List Int) _ hy1 h5 h6 (SL.nil _)) rfl ?_;rintro I0 hs2 v2 k2 le - ⟨p7,c6,cs2,rfl,rfl,h8⟩ -;have ⟨h3,h,h1,H⟩:=m4 le h3 h h1 H;refine yI [] [5] rfl<|vV [6] rfl<|wK<|oM [(1,vP b 0),(3,vS p3 out c2),(4,vI i),(5,vS p7 y c6),(6,vI 0)] ?_;obtain ⟨o01,ho01,hMl1⟩:=zB N;refine zA3 p i y out 0 o01 ho01 iR h8 h h1 h3 (fun _ _ _ h=>hg _ _ _ h) (fun _ _ h=>ho _ _ h) ?_;intro I03 out3 p9 c8 cs4 heq1 le3 h10;subst o01;have ⟨h,h1,H⟩:=m3 le3 h h1 H;exact zV<|zQ<|zJ<|zO<|yI [] [4] rfl<|yZ<|mW<|ih out3 (W (i + 1)) _ hMl1 H h h1 h10 hg ho hx
 intro hc N;exact uA<|xV (zX [0] rfl (by decide))<|yQ<|hx _ _ _ _ _ (zC N).symm H h3
def pI (p:zK):Option ((List zM)):=do
 let out1←wJ p ([]:List zM) 0
 pure (id out1)
theorem zBb:∀ p r,pI p=some r→∀ {I:Imm}{p1 c p2 c1},(S4 I p1 p.Arrays c)→(S4 I p2 p.Parts c1)→RT 146 [vA (cProg p p1 c p2 c1)] I [] (gQ  r):=by
 intro p r N I p1 c p2 c1 h h1;unfold pI at N;refine yJ Tryz.func146 fun B=>yB<|vM (cProg p p1 c p2 c1) ?_;intro b hb;refine xY [] []<|xE<|tJ [] zM ?_;intro b1 hb1;have h2:RL I [] ([]:List zM):=rfl;refine yI [] [3] rfl<|yA<|yH [4] rfl<|wK<|oM [(1,vP b 0),(3,vS (some ⟨b1,0,none⟩) ([]:List zM) 0),(4,vI 0)] ?_;obtain ⟨o02,ho02,hMl2⟩:=zB N;refine zA4 p ([]:List zM) 0 o02 ho02 iR h h1 h2 (fun _ _ _ h=>h) (fun _ _ h=>h) ?_;intro I04 out1 p4 c3 cs1 heq2 le4 h4;subst o02;refine zV<|vV [2] rfl<|xB<|xJ 0 rfl ?_;intro I05 le5 hl01;have h21:=SL.of_frozen hl01 le5 h4;obtain rfl:=zC hMl2;exact xC ⟨_,_,(.tmp rfl ResV.nil),zP,⟨_,rfl,rfl,h21⟩⟩
def rH (p:zK):Option ((List zM)):=do
 let y←vC p
 if (!y) then
  pure ([]:List zM)
 else
  let y1←pI p
  pure (id y1)
theorem dY:∀ p r,rH p=some r→∀ {I:Imm}{p1 c p2 c1},(S4 I p1 p.Arrays c)→(S4 I p2 p.Parts c1)→RT 122 [vA (cProg p p1 c p2 c1)] I [] (gQ  r):=by
 intro p r N I p1 c p2 c1 h h1;unfold rH at N;refine yJ Tryz.func122 fun B=>yB<|vM (cProg p p1 c p2 c1) ?_;intro b hb;refine xY [] []<|yA<|yB<|sU 1 [0] [(3,vA (cProg p p1 c p2 c1))]<|bE N fun y hy N=>wZ (nR p _ hy h h1) ?_;intro I0 le;have ⟨h,h1⟩:=m2 le h h1;refine yI [] [5] rfl<|zJ<|yE N ?_ ?_
 · intro hc N;refine yB<|tJ [] zM ?_;intro b1 hb1;have h3:RL I0 [] ([]:List zM):=rfl;refine yI [] [2] rfl<|xB<|zI<|xJ 0 rfl ?_;intro I01 le1 hl0;have h4:=SL.of_frozen hl0 le1 h3;obtain rfl:=zC N;exact xC ⟨_,_,(.tmp rfl ResV.nil),zP,⟨_,rfl,rfl,h4⟩⟩
 intro hc N;refine zT<|xE<|sU 1 [0] [(7,vA (cProg p p1 c p2 c1))]<|bE N fun y1 hy1 N=>xP (zBb p _ hy1 h h1) ?_;rintro I02 hs2 v2 k2 le2 - ⟨v01,rfl,rfl,h5⟩ -;obtain ⟨p3,c2,rfl⟩:=h5.form;refine yI [] [2] rfl<|zJ<|yX ?_;obtain rfl:=zC N;exact xC ⟨_,_,(.tmp rfl ResV.nil),zP,⟨_,rfl,rfl,h5⟩⟩
def zDB (b0:Nat) (r:(List Int)×zH):KT:=fun kk I' hs' v=>
  ∃ v0 k0,hs'=[.blk b0 ⟨k0⟩]∧v=tupV [v0]∧SL I' v0 r.1∧Rp.rep I' k0 r.2
def qF (out:List Int) (i:Int) (x:zH):Option ((List Int×zH)):=do
 if (decide (i > 0)) then
  let (y4,y5)←yK x ([0,1,2,(-1),3,50,9999]:List Int)
  let out2←app 8 out ([y4]:List Int)
  qF out2 (W (i - 1)) y5
 else
  pure (out,x)
 partial_fixpoint
theorem zCN :∀ (out:List Int) (i:Int) (x:zH) (o:(List Int×zH)),qF out i x=some o→∀ {B}{I0 I:Imm}{Q}  {r01:Nat}{p2 c2 cs p3 c3},I0.le I→(RL I cs out)→(S4 I p3 x.b c3)→NG Q→NO Q→(∀ (I':Imm) (out1:List Int) (x1:zH) (p4:Option Addr) (c4:Nat) (cs1:List Value) (p5:Option Addr) (c5:Nat),o=(out1,x1)→I0.le I'→(RL I' cs1 out1)→(S4 I' p5 x1.b c5)→T 29 B Q (.exit 0) I' [hB r01 (cRd x1 p5 c5),hO Int (vS p4 out1 c4) cs1] [(0,vP r01 0),(3,vS p4 out1 c4)])→J Tryz.prog 29 B (nav (bodyOf Tryz.f123) [1,1,0,1,0]) Q I [hB r01 (cRd x p3 c3),hO Int (vS p2 out c2) cs] [(0,vP r01 0),(3,vS p2 out c2),(4,vI i)]:=by
 refine qF.partial_correctness  _ fun self ih out i x o N B I0 I Q r01 p2 c2 cs p3 c3 H h7 h8 hg ho hx=>yY hg ho<|zZ<|yH [10] rfl<|zJ<|yE N ?_ ?_
 · intro hc N;refine zT<|yA<|yL<|zO<|yD 2 [] [13,14] rfl<|pW (rI [0,1,2,(-1),3,50,9999]) ?_;intro b2 I02 le2 h12;have ⟨h7,h8,H⟩:=m3 le2 h7 h8 H;obtain ⟨⟨y4,y5⟩,hy1,N⟩:=zB N;refine uQ (yR x ([0,1,2,(-1),3,50,9999]:List Int) _ hy1 h8 h12) rfl ?_;rintro I03 hs2 v2 k2 le3 - ⟨v02,kk1,rfl,rfl,rfl,h14⟩ -;have ⟨h7,H⟩:=m2 le3 h7 H;obtain ⟨p6,c6,rfl,h15⟩:=zW h14;refine tJ [vI y4] Int ?_;intro b3 hb3;have h16:RL I03 [vI y4] ([y4]:List Int):=rI [y4];obtain ⟨out2,hy2,N⟩:=zB N;exact pP 3 1 2 rfl rfl rfl h7 (.inr ⟨0,rfl⟩) h16 hy2 fun p7 c7 cs2 h17=>sX (zY [1,2] (hs':=[hB r01 (cRd y5 p6 c6),hO Int (vS p7 out2 c7) cs2]))<|yI [] [3] rfl<|zQ<|zJ<|zO<|yI [] [4] rfl<|yZ<|mW<|ih out2 (W (i - 1)) y5 _ N H h17 h15 hg ho hx
 intro hc N;exact uA<|yQ<|hx _ _ _ _ _ _ _ _ (zC N).symm H h7 h8
def kZ (r0:zH):Option ((List Int)×zH):=do
 let (y1,y2)←yK r0 ([2,4,3,1,0]:List Int)
 let (out1,x1)←qF ([]:List Int) y1 y2
 let (y7,y8)←yO x1 30
 let (out3,x2)←(do
   if (y7 == 0) then
    let (y10,y11)←yK y8 ([10000,(-10000),9223372036854775807]:List Int)
    let out4←app 8 out1 ([y10,0]:List Int)
    pure (out4,y11)
   else
    pure (out1,y8)
     : Option (List Int×zH))
 pure (out3,x2)
theorem zEG:∀ r0 r,kZ r0=some r→∀ {I:Imm}{r01:Nat}{p c},(S4 I p r0.b c)→RT 123 [vP r01 0] I [hB r01 (cRd r0 p c)] (zDB r01 r):=by
 intro r0 r N I r01 p c h;unfold kZ at N;refine yJ Tryz.func123 fun B=>?_;have H:=iS I;refine vU []<|xE<|tJ [] Int ?_;intro b hb;have h1:RL I [] ([]:List Int):=rfl;refine yI [] [3] rfl<|yA<|yB<|yD 1 [] [6] rfl<|pW (rI [2,4,3,1,0]) ?_;intro b1 I0 le h3;have ⟨h1,h,H⟩:=m3 le h1 h H;refine sX (zY [1,0] (hs':=[hB r01 (cRd r0 p c),hO Int (vS (some ⟨b,0,none⟩) ([]:List Int) 0) []])) ?_;obtain ⟨⟨y1,y2⟩,hy,N⟩:=zB N;refine uQ (yR r0 ([2,4,3,1,0]:List Int) _ hy h h3) rfl ?_;rintro I01 hs2 v2 k2 le1 - ⟨v0,kk,rfl,rfl,rfl,h5⟩ -;have ⟨h1,H⟩:=m2 le1 h1 H;obtain ⟨p1,c1,rfl,h6⟩:=zW h5;refine yI [] [4] rfl<|wK<|oM [(0,vP r01 0),(3,vS (some ⟨b,0,none⟩) ([]:List Int) 0),(4,vI y1)] ?_;obtain ⟨o0,ho0,hMl⟩:=zB N;refine zCN ([]:List Int) y1 y2 o0 ho0 iR h1 h6 (fun _ _ _ h=>h) (fun _ _ h=>h) ?_;intro I04 out1 x1 p4 c4 cs1 p5 c5 heq le4 h9 h10;subst o0;have H:=H.trans le4;refine zV<|yA<|yB<|yD 1 [] [19] rfl ?_;obtain ⟨⟨y7,y8⟩,hy3,N⟩:=zB hMl;refine uQ (xA x1 30 _ hy3 h10) rfl ?_;rintro I05 hs2 v2 k2 le5 - ⟨v04,kk2,rfl,rfl,rfl,h19⟩ -;have ⟨h9,H⟩:=m2 le5 h9 H;obtain ⟨p8,c8,rfl,h20⟩:=zW h19;refine yI [] [21] rfl<|zJ ?_;obtain ⟨o01,ho01,hMc⟩:=zB N;refine pM (fun I' hs' m'=>∃ (out3:List Int) (x2:zH) (p9:Option Addr) (c9:Nat) (cs3:List Value) (p10:Option Addr) (c10:Nat),o01=(out3,x2)∧I05.le I'∧(RL I' cs3 out3)∧(S4 I' p10 x2.b c10)∧hs'=[hB r01 (cRd x2 p10 c10),hO Int (vS p9 out3 c9) cs3]∧m'=[(3,vS p9 out3 c9)]) ?_ ?_
 · have H:=iS I05;refine yE ho01 ?_ ?_
   · intro hc1 N;refine zO<|yD 2 [] [22,23] rfl<|pW (rI [10000,(-10000),9223372036854775807]) ?_;intro b4 I07 le6 h24;have ⟨h9,h20,H⟩:=m3 le6 h9 h20 H;obtain ⟨⟨y10,y11⟩,hy4,N⟩:=zB N;refine uQ (yR y8 ([10000,(-10000),9223372036854775807]:List Int) _ hy4 h20 h24) rfl ?_;rintro I08 hs2 v2 k2 le7 - ⟨v06,kk3,rfl,rfl,rfl,h26⟩ -;have ⟨h9,H⟩:=m2 le7 h9 H;obtain ⟨p11,c11,rfl,h27⟩:=zW h26;refine tJ [vI y10,vI 0] Int ?_;intro b5 hb5;have h28:RL I08 [vI y10,vI 0] ([y10,0]:List Int):=rI [y10,0];obtain ⟨out4,hy5,N⟩:=zB N;exact pP 3 1 2 rfl rfl rfl h9 (.inr ⟨0,rfl⟩) h28 hy5 fun p12 c12 cs4 h29=>sX (zY [1,2] (hs':=[hB r01 (cRd y11 p11 c11),hO Int (vS p12 out4 c12) cs4]))<|yI [] [3] rfl<|yQ<|zR ⟨_,_,_,_,_,_,_,(zC N).symm,H,h29,h27,rfl,rfl⟩
   intro hc1 N;exact zT<|yQ<|zR ⟨_,_,_,_,_,_,_,(zC N).symm,H,h9,h20,rfl,rfl⟩
 rintro I06 hs2 m2 ⟨out3,x2,p9,c9,cs3,p10,c10,heq1,le8,h21,h22,rfl,rfl⟩;subst o01;refine vV [2] rfl<|xB<|xJ 1 rfl ?_;intro I09 le9 hl03;have h30:=SL.of_frozen hl03 le9 h21;have h22:=h22.mono le9;obtain rfl:=zC hMc;exact xC ⟨_,_,(.tmp rfl ResV.nil),(zX [0] rfl (by decide)),⟨_,_,rfl,rfl,h30,(yM ⟨_,rfl,h22⟩)⟩⟩
def zEH (b0:Nat) (r:zM×zH):KT:=fun kk I' hs' v=>
  ∃ v0 k0,hs'=[.blk b0 ⟨k0⟩]∧v=tupV [v0]∧(∃ cs,v0=.agg ⟨cs⟩∧Rp.rep I' cs r.1)∧Rp.rep I' k0 r.2
def gH (r0:zH) (p1:zK):Option (zM×zH):=do
 let y←rH p1
 let (t15,x)←(do
   if (decide ((y.length:Int) > 0)) then
    let (y2,y3)←yO r0 6
    pure ((decide (y2 > 0)),y3)
   else
    pure (false,r0)
     : Option (Bool×zH))
 if t15 then
  let (y5,y6)←yO x (y.length:Int)
  let x1←idx y y5
  pure (x1,y6)
 else
  let (y8,y9)←yK x ([0,1,(-1),5]:List Int)
  let (y11,y12)←yK y9 ([0,1,(-1),9]:List Int)
  let (y14,y15)←kZ y12
  pure ((zM.mk y8 y11 y14),y15)
theorem zFZ:∀ r0 p1 r,gH r0 p1=some r→∀ {I:Imm}{r01:Nat}{p c p2 c1 p3 c2},(S4 I p r0.b c)→(S4 I p2 p1.Arrays c1)→(S4 I p3 p1.Parts c2)→RT 62 [vP r01 0,vA (cProg p1 p2 c1 p3 c2)] I [hB r01 (cRd r0 p c)] (zEH r01 r):=by
 intro r0 p1 r N I r01 p c p2 c1 p3 c2 h h1 h2;unfold gH at N;refine yJ Tryz.func62 fun B=>?_;have H:=iS I;refine yB<|vM (cProg p1 p2 c1 p3 c2) ?_;intro b hb;refine wU [vI 0,vI 0,z0] ?_;intro b1 hb1;refine yC rfl<|xE<|sU 1 [1] [(6,vA (cProg p1 p2 c1 p3 c2))]<|bE N fun y hy N=>xP (dY p1 _ hy h1 h2) ?_;rintro I0 hs2 v2 k2 le - ⟨v0,rfl,rfl,h3⟩ -;have ⟨h,H⟩:=m2 le h H;obtain ⟨p4,c3,rfl⟩:=h3.form;refine yI [] [5] rfl<|yA<|zZ ?_;obtain ⟨o0,ho0,hMc⟩:=zB N;refine pM (fun I' hs' m'=>∃ (t15:Bool) (x:zH) (p5:Option Addr) (c4:Nat),o0=(t15,x)∧I0.le I'∧(S4 I' p5 x.b c4)∧hs'=[hB b1 [vI 0,vI 0,z0],hB r01 (cRd x p5 c4)]∧m'=[(0,vP r01 0),(4,vP b1 0),(5,vS p4 y c3),(15,.bool t15)]) ?_ ?_
 · have H:=iS I0;refine zO<|yD 4 [] [11] rfl<|xQ [11] ho0 ?_ ?_
   · intro hc N;refine yD 5 [] [12] rfl<|sX (zY [2,0,1] (hs':=[hB r01 (cRd r0 p c),hB b1 [vI 0,vI 0,z0],hB b (cProg p1 p2 c1 p3 c2)])) ?_;obtain ⟨⟨y2,y3⟩,hy1,N⟩:=zB N;refine uQ (xA r0 6 _ hy1 h) rfl ?_;rintro I02 hs2 v2 k2 le1 - ⟨v01,kk,rfl,rfl,rfl,h6⟩ -;have H:=H.trans le1;obtain ⟨p6,c5,rfl,h7⟩:=zW h6;exact yI [] [15] rfl<|xV (zX [1,0] rfl (by decide))<|yQ<|zR ⟨_,_,_,_,(zC N).symm,H,h7,rfl,rfl⟩
   intro hc N;exact xY [] [(15,vF)]<|xV (zX [0,2] rfl (by decide))<|yQ<|zR ⟨_,_,_,_,(zC N).symm,H,h,rfl,rfl⟩
 rintro I01 hs2 m2 ⟨t15,x,p5,c4,heq,le2,h4,rfl,rfl⟩;subst o0;have h3:=h3.mono le2;refine zJ<|yE hMc ?_ ?_
 · intro hc1 N;refine yB<|yD 4 [] [16,17,19] rfl<|sX (zY [1,0] (hs':=[hB r01 (cRd x p5 c4),hB b1 [vI 0,vI 0,z0]])) ?_;obtain ⟨⟨y5,y6⟩,hy2,N⟩:=zB N;refine uQ (xA x (y.length:Int) _ hy2 h4) rfl ?_;rintro I03 hs2 v2 k2 le3 - ⟨v03,kk1,rfl,rfl,rfl,h9⟩ -;have h3:=h3.mono le3;obtain ⟨p7,c6,rfl,h10⟩:=zW h9;obtain ⟨x1,hy3,N⟩:=zB N;refine xS rfl rfl h3 hy3 ?_;intro ad ccs hat hrep;obtain ⟨p8,c7,rfl,h11⟩:=gS hrep;refine xL 0 hat (cInst x1 p8 c7) (vA (cInst x1 p8 c7)) rfl<|xI 1 (cInst x1 p8 c7) rfl<|yC rfl<|xB<|zI ?_;obtain rfl:=zC N;exact xC ⟨_,_,(.cell 1 rfl rfl (by kernel_rfl) ResV.nil),(zX [0] rfl (by decide)),⟨_,_,rfl,rfl,⟨_,rfl,(nB ⟨_,rfl,h11⟩)⟩,(yM ⟨_,rfl,h10⟩)⟩⟩
 intro hc1 N;refine zT<|xE<|yD 1 [] [23] rfl<|pW (rI [0,1,(-1),5]) ?_;intro b2 I04 le4 h13;have h4:=h4.mono le4;refine sX (zY [1,0] (hs':=[hB r01 (cRd x p5 c4),hB b1 [vI 0,vI 0,z0]])) ?_;obtain ⟨⟨y8,y9⟩,hy4,N⟩:=zB N;refine uQ (yR x ([0,1,(-1),5]:List Int) _ hy4 h4 h13) rfl ?_;rintro I05 hs2 v2 k2 le5 - ⟨v06,kk2,rfl,rfl,rfl,h15⟩ -;obtain ⟨p9,c8,rfl,h16⟩:=zW h15;refine yD 4 [] [26] rfl<|pW (rI [0,1,(-1),9]) ?_;intro b3 I06 le6 h18;have h16:=h16.mono le6;obtain ⟨⟨y11,y12⟩,hy5,N⟩:=zB N;refine uQ (yR y9 ([0,1,(-1),9]:List Int) _ hy5 h16 h18) rfl ?_;rintro I07 hs2 v2 k2 le7 - ⟨v08,kk3,rfl,rfl,rfl,h20⟩ -;obtain ⟨p10,c9,rfl,h21⟩:=zW h20;refine yD 7 [] [29] rfl ?_;obtain ⟨⟨y14,y15⟩,hy6,N⟩:=zB N;refine uQ (zEG y12 _ hy6 h21) rfl ?_;rintro I08 hs2 v2 k2 le8 - ⟨v010,kk4,rfl,rfl,h22,h23⟩ -;obtain ⟨p11,c10,rfl⟩:=h22.form;obtain ⟨p12,c11,rfl,h24⟩:=zW h23;refine yD 9 [] [31] rfl<|xI 1 [vI y8,vI y11,vS p11 y14 c10] rfl<|yC rfl<|zJ<|yX ?_;obtain rfl:=zC N;exact xC ⟨_,_,(.cell 1 rfl rfl (by kernel_rfl) ResV.nil),(zX [0] rfl (by decide)),⟨_,_,rfl,rfl,⟨_,rfl,(nB ⟨_,rfl,h22⟩)⟩,(yM ⟨_,rfl,h24⟩)⟩⟩
def fX (r:zK×(List Int)×zM):KT:=fun kk I' hs' v=>
  ∃ v0 v1 v2,hs'=[]∧v=tupV [v0,v1,v2]∧(∃ cs,v0=.agg ⟨cs⟩∧Rp.rep I' cs r.1)∧SL I' v1 r.2.1∧(∃ cs,v2=.agg ⟨cs⟩∧Rp.rep I' cs r.2.2)
def sR (code:(List UInt8)):Option (zK×(List Int)×zM):=do
 let y←kU code
 let (y2,y3)←jR y
 let (y5,y6)←qM y3 y2
 let (y8,y9)←kJ y6 y5
 let (y11,y12)←jS y9 y8
 let (y14,y15)←gH y12 y5
 pure (y5,y11,y14)
theorem eV:∀ code r,sR code=some r→∀ {I:Imm}{p c},(S4 I p code c)→RT 22 [vS p code c] I [] (fX  r):=by
 intro code r N I p c h;unfold sR at N;refine yJ Tryz.func22 fun B=>?_;have H:=iS I;refine yB<|wU zTwo ?_;intro b hb;refine sU 2 [] []<|wU [vI 0,vI 0,z0] ?_;intro b1 hb1;refine yC rfl<|xE<|yD 1 [] [8] rfl<|bE N fun y hy N=>xP (zDu code _ hy h) ?_;rintro I0 hs2 v2 k2 le - ⟨b2,p1,c1,rfl,rfl,h1⟩ -;have H:=H.trans le;refine yI [] [5] rfl<|xE<|yD 2 [] [10,11] rfl ?_;obtain ⟨⟨y2,y3⟩,hy1,N⟩:=zB N;refine uQ (zEv y _ hy1 h1) rfl ?_;rintro I01 hs2 v2 k2 le1 - ⟨v0,kk,rfl,rfl,⟨cs,rfl,h2⟩,h3⟩ -;have H:=H.trans le1;obtain ⟨p2,c2,p3,c3,rfl,h4,h5⟩:=fL h2;obtain ⟨p4,c4,rfl,h6⟩:=zW h3;obtain ⟨⟨y5,y6⟩,hy2,N⟩:=zB N;refine uQ (zDY y3 y2 _ hy2 h6 h4 h5) rfl ?_;rintro I02 hs2 v2 k2 le2 - ⟨v04,kk1,rfl,rfl,⟨cs1,rfl,h7⟩,h8⟩ -;have H:=H.trans le2;obtain ⟨p5,c5,p6,c6,rfl,h9,h10⟩:=fL h7;obtain ⟨p7,c7,rfl,h11⟩:=zW h8;refine wU zTwo ?_;intro b3 hb2;refine xI 0 (cProg y5 p5 c5 p6 c6) rfl<|yC rfl<|xE<|sU 3 [0] [(14,vP b2 0),(15,vP b2 0),(16,vA (cProg y5 p5 c5 p6 c6))]<|sX (zY [1,0,2,3] (hs':=[hB b2 (cRd y6 p7 c7),hB b3 (cProg y5 p5 c5 p6 c6),hB b1 [vI 0,vI 0,z0],hB b zTwo])) ?_;obtain ⟨⟨y8,y9⟩,hy3,N⟩:=zB N;refine uQ (zDe y6 y5 _ hy3 h11 h9 h10) rfl ?_;rintro I03 hs2 v2 k2 le3 - ⟨v08,kk2,rfl,rfl,h12,h13⟩ -;have ⟨h9,h10,H⟩:=m3 le3 h9 h10 H;obtain ⟨p8,c8,rfl⟩:=h12.form;obtain ⟨p9,c9,rfl,h14⟩:=zW h13;obtain ⟨⟨y11,y12⟩,hy4,N⟩:=zB N;refine uQ (zEw y9 y8 _ hy4 h14 h12) rfl ?_;rintro I04 hs2 v2 k2 le4 - ⟨v010,kk3,rfl,rfl,h15,h16⟩ -;have ⟨h9,h10,H⟩:=m3 le4 h9 h10 H;obtain ⟨p10,c10,rfl⟩:=h15.form;obtain ⟨p11,c11,rfl,h17⟩:=zW h16;refine yI [] [7] rfl<|zJ<|zZ ?_;obtain ⟨⟨y14,y15⟩,hy5,N⟩:=zB N;refine wS [.p (vA (cProg y5 p5 c5 p6 c6)) [0],.p (vS p10 y11 c10) [],.p (vP b2 0) [],.p (vA (cProg y5 p5 c5 p6 c6)) [0],.x (fun I' v hx=>∃ p12 c12 p13 c13,v=vA (cInst y14 p12 c12)∧hx=[hB b2 (cRd y15 p13 c13)]∧(S4 I' p12 y14.Point c12)∧(S4 I' p13 y15.b c13)),.x (fun I' v hx=>hx=[hB b (cProg y5 p5 c5 p6 c6)]),.p (vS p10 y11 c10) []] [[],[],[],[],[(2,false),(3,false),(8,true)],[(0,false),(9,true)],[(1,false)]] [hB b3 (cProg y5 p5 c5 p6 c6),hB b1 [vI 0,vI 0,z0]] [[hB b2 (cRd y12 p11 c11)],[hB b zTwo]] [(4,true),(5,true),(6,false)] (zY [1,2,0,3]) ?_ ?_
 · refine Op<|Op<|Op<|Op<|Ox ?_<|Ox ?_<|Op<|On
   · rintro I1 hf le1 _ _ ⟨rfl,rfl⟩ _ _ ⟨rfl,rfl⟩ _ _ rfl;refine yS [21,22] rfl ?_;have H:=iS I1;have ⟨h17,h9,h10⟩:=m3 le1 h17 h9 h10;refine uQ (zFZ y12 y5 _ hy5 h17 h9 h10) rfl ?_;rintro I05 hs2 v2 k2 le5 - ⟨v012,kk4,rfl,rfl,⟨cs2,rfl,h18⟩,h19⟩ -;have H:=H.trans le5;obtain ⟨p12,c12,rfl,h20⟩:=gS h18;obtain ⟨p13,c13,rfl,h21⟩:=zW h19;exact yN [hB b2 (cRd y15 p13 c13)] H ⟨_,_,_,_,rfl,rfl,h20,h21⟩
   rintro I1 hf le1 _ _ ⟨rfl,rfl⟩ _ _ rfl;refine yS [2,19] rfl ?_;have H:=iS I1;exact zDR 0 (cProg y5 p5 c5 p6 c6) (hB b (cProg y5 p5 c5 p6 c6)::hB b3 (cProg y5 p5 c5 p6 c6)::hB b1 [vI 0,vI 0,z0]::hf) rfl rfl rfl rfl<|zE6 (hx:=[hB b (cProg y5 p5 c5 p6 c6)]) rfl H rfl (zGg (v:=undef)) rfl
 rintro I06 le6 _ _ ⟨p12,c12,p13,c13,rfl,rfl,h20,h21⟩ _ _ rfl;refine yS [2,3,4,23] rfl ?_;have ⟨h15,h9,h10⟩:=m3 le6 h15 h9 h10;refine xI 3 (cInst y14 p12 c12) rfl<|yC rfl<|zJ<|yX ?_;obtain rfl:=zC N;exact xC ⟨_,_,(.cell 0 rfl rfl (by kernel_rfl) (.tmp rfl (.cell 3 rfl rfl (by kernel_rfl) ResV.nil))),zP,⟨_,_,_,rfl,rfl,⟨_,rfl,(nQ ⟨_,_,rfl,h9,h10⟩)⟩,h15,⟨_,rfl,(nB ⟨_,rfl,h20⟩)⟩⟩⟩
def xT (n0:Int) (low:Int) (high:Int):Option (Bool):=do
 let t6←(do
   if (decide (low ≤ n0)) then
    pure (decide (n0 ≤ high))
   else
    pure false
     : Option Bool)
 pure (id t6)
theorem xN:∀ n0 low high r,xT n0 low high=some r→∀ {I:Imm} ,RT 84 [vI n0,vI low,vI high] I [] (zS  r):=by
 intro n0 low high r N I;unfold xT at N;refine yJ Tryz.func84 fun B=>?_;have H:=iS I;refine vU []<|zJ<|zZ ?_;refine wD N [] (fun t6=>[(6,.bool t6)]) (fun o0 ho0=>?_) ?_
 · have H:=iS I;refine zO<|yD 4 [] [10] rfl<|xQ [10] ho0 ?_ ?_
   · intro hc N;exact yI [] [6] rfl<|yQ<|zR (ct N H)
   intro hc N;exact xY [] [(6,vF)]<|yQ<|zR (ct N H)
 intro t6 I0 le hMc;refine zJ<|yX ?_;obtain rfl:=zC hMc;exact xZ
def mZ (hsF:List HA) (r:Int):KT:=fun kk I' hs' v=>
  ∃ v0,hsF=hs'∧v=tupV [v0]∧v0=.int .i64 r
def wC (s:(List Int)) (f0:(Int→Option Bool)) (t8:Int):Option (Out Unit (Int)):=do
 if (decide (t8 < (s.length:Int))) then
  let x←idx s t8
  let y←f0 x
  if y then
   pure (.ret t8)
  else
   wC s f0 (W (t8 + 1))
 else
  pure (.done ())
 partial_fixpoint
theorem gX (s:(List Int)) (f0:(Int→Option Bool)):∀ (t8:Int) (o:Out Unit (Int)),wC s f0 t8=some o→∀ {B}{I0 I:Imm}{Q p c}{fv:Value}{hsF:List HA},I0.le I→(S4 I p s c)→(FV1 Tryz.prog I hsF fv f0)→NG Q→NO Q→(∀ (I':Imm) ,o=(.done ())→I0.le I'→T 19 B Q (.exit 0) I' hsF [])→(∀ r I' hs' m',o=(.ret r)→I0.le I'→RS Tryz.prog Tryz.f136 B (mZ hsF r) I' hs' m'→T 19 B Q .ret I' hs' m')→J Tryz.prog 19 B (nav (bodyOf Tryz.f136) [1,0,1,0]) Q I hsF [(0,vS p s c),(1,fv),(7,vI (s.length:Int)),(8,vI t8)]:=by
 refine wC.partial_correctness s f0 _ fun self ih t8 o N B I0 I Q p c fv hsF H h h1 hg ho hx hr=>yY hg ho<|yH [9] rfl<|yA<|yE N ?_ ?_
 · intro hc N;refine zT<|yA<|yL<|yH [5] rfl<|xE<|yD 3 [] [11,12,13] rfl<|bE N fun x hy N=>xS rfl rfl h hy ?_;intro ad ccs hat hrep;obtain rfl:=hrep;refine xL 0 hat [vI x] (vI x) rfl<|bE N fun y hy1 N=>zGl rfl rfl h1 hy1 rfl (List.append_nil _).symm ?_;rintro I0 v0 le rfl;refine uR (hs':=hsF) (List.append_nil _) ?_;have ⟨h,h1,H⟩:=m3 le h h1 H;refine yC rfl<|zJ<|yE N ?_ ?_
   · intro hc1 N;exact yH [4] rfl<|xB<|zU<|zI<|zI<|hr _ _ _ _ (zC N).symm H ⟨_,_,(.tmp rfl ResV.nil),(fun _ h=>h),⟨_,rfl,rfl,rfl⟩⟩
   intro hc1 N;exact zT<|zQ<|zJ<|zO<|yI [] [8] rfl<|yZ<|mW<|ih (W (t8 + 1)) _ N H h h1 hg ho hx hr
 intro hc N;exact uA<|yQ<|hx _  (zC N).symm H
def qG (s:(List Int)) (f0:(Int→Option Bool)):Option (Int):=do
 match←wC s f0 0 with
 | .ret r0=>pure r0
 | .done _ =>
  pure (-1)
theorem fY:∀ s f0 r,qG s f0=some r→∀ {I:Imm}{p c}{fv:Value}{hsF:List HA},(S4 I p s c)→(FV1 Tryz.prog I hsF fv f0)→RT 136 [vS p s c,fv] I hsF (mZ hsF r):=by
 intro s f0 r N I p c fv hsF h h1;unfold qG at N;refine yJ Tryz.func136 fun B=>vU []<|yA<|yH [7,8] rfl<|wK<|oM [(0,vS p s c),(1,fv),(7,vI (s.length:Int)),(8,vI 0)] ?_;obtain ⟨o0,ho0,hMl⟩:=zB N;refine gX s f0 0 o0 ho0 iR h h1 (fun _ _ _ h=>h) (fun _ _ h=>h) ?_ ?_
 · intro I01  heq le1;subst o0;refine zV<|vV [4] rfl<|zJ<|yX ?_;obtain rfl:=zC hMl;exact xC ⟨_,_,(.tmp rfl ResV.nil),(fun _ h=>h),⟨_,rfl,rfl,rfl⟩⟩
 intro r0 I9 hs9 m9 heq9 le9 hrs9;subst heq9;refine zU<|zI ?_;obtain rfl:=zC hMl;exact xC hrs9
end Go.LN
