/- Helper of the proof (see the last text). -/
import Derived.Test.YtpacccdphbhfbaaGreatHM3
set_option linter.unusedVariables false
set_option linter.unusedSimpArgs false
namespace Go.LN
open Go.Proofs
set_option maxRecDepth 20000
def rL (a0:zA) (out:Str) (i:Int):Option (Str):=do
 if (decide (i < (a0.Coefs.length:Int))) then
  let x←idx a0.Coefs i
  let out2←(do
    if (x != 0) then
     let x1←idx a0.Coefs i
     let s←sslc (⟨[105,106,107,108]⟩:Str) i (W (i + 1))
     let y←nI x1 s
     let s1←cat out y
     pure (id s1)
    else
     pure (id out)
      : Option Str)
  rL a0 out2 (W (i + 1))
 else
  pure (id out)
 partial_fixpoint
theorem zBY (a0:zA):∀ (out:Str) (i:Int) (o:Str),rL a0 out i=some o→∀ {B}{I0 I:Imm}{Q p c}{b:Nat},I0.le I→(S4 I p a0.Coefs c)→NG Q→NO Q→(∀ (I':Imm) (out1:Str),o=out1→I0.le I'→T 46 B Q (.exit 0) I' [hB b (cAff a0 p c)] [(1,vP b 0),(3,vT out1.l)])→J Tryz.prog 46 B (nav (bodyOf Tryz.f238) [1,1,0,1,0]) Q I [hB b (cAff a0 p c)] [(1,vP b 0),(3,vT out.l),(4,vI i)]:=by
 refine rL.partial_correctness a0 _ fun self ih out i o N B I0 I Q p c b H h hg ho hx=>xH hg ho<|yA<|yG<|yL [0] [9] rfl<|zI<|yH N ?_ ?_
 · intro hc N;refine zT<|yE<|yN<|yG<|yF 3 [0] [13,14] rfl<|bE N fun x hy N=>wF rfl rfl h hy ?_;intro ad ccs hat hrep;obtain rfl:=hrep;refine xT 0 hat [vI x] (vI x) rfl<|yL [] [17] rfl<|zI ?_;refine wI N [hB b (cAff a0 p c)] (fun out2=>[(1,vP b 0),(3,vT out2.l),(4,vI i)]) (fun o0 ho0=>?_) ?_
   · have H:=iS I;refine yH ho0 ?_ ?_
     · intro hc1 N;obtain ⟨x1,hy1,N⟩:=zC N;obtain ⟨s,hy2,N⟩:=zC N;obtain ⟨y,hy3,N⟩:=zC N;obtain ⟨s1,hy4,N⟩:=zC N;refine wZ [.p (vT out.l) [],.p (vP b 0) [],.p (vS p a0.Coefs c) [0],.p (vI i) [],.x (fun I' v hx=>∃ ad1,v=.pointer (some ad1)∧hx=[]∧(At I' ad1 [vI x1])),.q (vI x1),.p (vI i) [],.p (vI i) [],.p (vI (W (i + 1))) [],.q (vT s.l),.q (vT y.l),.q (vT s1.l)] [[],[],[(1,false)],[],[(2,false),(3,false)],[(4,false)],[],[],[(7,false)],[(6,false),(8,false)],[(5,false),(9,false)],[(0,false),(10,false)]] [hB b (cAff a0 p c)] [] [(11,false)] (yB [0]) ?_ ?_
       · refine Op<|Op<|Op<|Op<|Ox ?_<|Oq ?_<|Op<|Op<|Op<|Oq ?_<|Oq ?_<|Oq ?_<|On
         · intro I1 hf le1;refine yY [20,21] rfl ?_;have h:=h.mono le1;refine wF rfl rfl h hy1 ?_;intro ad1 ccs1 hat1 hrep1;obtain rfl:=hrep1;exact yW [] iR ⟨_,rfl,rfl,hat1⟩
         · rintro I1 hf le1 _ _ ⟨ad1,rfl,rfl,hat1⟩;exact yY [22] rfl<|xT 0 hat1 [vI x1] (vI x1) rfl<|xC iR
         · intro I1 hf le1;exact yY [24,26] rfl<|zDv rfl hy2<|xC iR
         · intro I1 hf le1;refine yY [23,27] rfl ?_;have H:=iS I1;refine xM (dX x1 s _ hy3 ) ?_;rintro I01 hs2 v2 k2 le - ⟨v0,rfl,rfl,rfl⟩ -;have H:=H.trans le;exact xC H
         intro I1 hf le1;exact yY [18,28] rfl<|oI rfl hy4<|xC iR
       intro I02 le1;refine yY [1,4,29] rfl ?_;have H:=H.trans le1;exact yL [] [3] rfl<|yM<|zR (ct N H)
     intro hc1 N;exact zT<|yM<|zR (ct N H)
   intro out2 I0 le2 hMc;have ⟨h,H⟩:=m2 le2 h H;exact zQ<|zI<|zM<|yL [] [4] rfl<|xF<|mJ<|ih out2 (W (i + 1)) _ hMc H h hg ho hx
 intro hc N;exact tS<|yM<|hx _ _ (zB N).symm H
def pU (a0:zA):Option (Str):=do
 let out1←rL a0 (⟨[]⟩:Str) 0
 let out3←(do
   if (a0.Const != 0) then
    let y1←nI a0.Const (⟨[]⟩:Str)
    let s2←cat out1 y1
    pure (id s2)
   else
    pure (id out1)
     : Option Str)
 if (out3.l == ([]:List UInt8)) then
  pure (⟨[48]⟩:Str)
 else
  let s3←sslc out3 0 1
  if (s3.l == ([43]:List UInt8)) then
   let s4←sslc out3 1 (out3.l.length:Int)
   pure (id s4)
  else
   pure (id out3)
theorem gH:∀ a0 r,pU a0=some r→∀ {I:Imm}{p c},(S4 I p a0.Coefs c)→RT 238 [vA (cAff a0 p c)] I [] (uL  r):=by
 intro a0 r N I p c h;unfold pU at N;refine yI Tryz.func238 fun B=>?_;have H:=iS I;refine yG<|uG (cAff a0 p c) ?_;intro b hb;refine wC [] []<|sI [3] rfl<|yE<|yO [4] rfl<|uV<|mH [(1,vP b 0),(3,vT ([])),(4,vI 0)] ?_;obtain ⟨o01,ho01,hMl⟩:=zC N;refine zBY a0 (⟨[]⟩:Str) 0 o01 ho01 iR h (fun _ _ _ h=>h) (fun _ _ h=>h) ?_;intro I03 out1 heq1 le3;subst o01;have H:=H.trans le3;refine zU<|yE<|yG<|yL [0] [32] rfl<|zI ?_;refine wI hMl [] (fun out3=>[(3,vT out3.l)]) (fun o02 ho02=>?_) ?_
 · have H:=iS I03;refine yH ho02 ?_ ?_
   · intro hc2 N;refine zM<|yF 3 [0] [33,35] rfl<|bE N fun y1 hy5 N=>xM (dX a0.Const (⟨[]⟩:Str) _ hy5 ) ?_;rintro I05 hs2 v2 k2 le4 - ⟨v01,rfl,rfl,rfl⟩ -;have H:=H.trans le4;obtain ⟨s2,hy6,N⟩:=zC N;exact oI rfl hy6<|yL [] [3] rfl<|xQ zL<|yM<|zR (ct N H)
   intro hc2 N;exact zT<|xQ zL<|yM<|zR (ct N H)
 intro out3 I04 le5 hMc1;refine yE<|yO [39] rfl<|zI<|yH hMc1 ?_ ?_
 · intro hc3 N;refine yO [2] rfl<|xE<|zH ?_;obtain rfl:=zB N;exact wM
 intro hc3 N;refine zT<|yE<|yG<|yF 1 [] [40] rfl<|bE N fun s3 hy7 N=>zDv rfl hy7<|yL [] [42] rfl<|zI<|yH N ?_ ?_
 · intro hc4 N;refine yG<|yF 1 [] [43] rfl<|bE N fun s4 hy8 N=>zDv rfl hy8<|yL [] [2] rfl<|xE<|zH ?_;obtain rfl:=zB N;exact wM
 intro hc4 N;refine zT<|sI [2] rfl<|zI<|yS ?_;obtain rfl:=zB N;exact wM
def qF (a0:zA):Option (Str):=do
 let y←wX a0
 if (!y) then
  pure (⟨[]⟩:Str)
 else
  let y1←pU a0
  pure (id y1)
theorem dY:∀ a0 r,qF a0=some r→∀ {I:Imm}{p c},(S4 I p a0.Coefs c)→RT 253 [vA (cAff a0 p c)] I [] (uL  r):=by
 intro a0 r N I p c h;unfold qF at N;refine yI Tryz.func253 fun B=>yG<|uG (cAff a0 p c) ?_;intro b hb;refine wC [] []<|yE<|yG<|sH 1 [0] [(3,vA (cAff a0 p c))]<|bE N fun y hy N=>uB (oF a0 _ hy h) ?_;intro I0 le;have h:=h.mono le;refine yL [] [5] rfl<|zI<|yH N ?_ ?_
 · intro hc N;refine yO [2] rfl<|xE<|zH ?_;obtain rfl:=zB N;exact wM
 intro hc N;refine zT<|yX<|sH 1 [0] [(6,vA (cAff a0 p c))]<|bE N fun y1 hy1 N=>xM (gH a0 _ hy1 h) ?_;rintro I01 hs2 v2 k2 le1 - ⟨v01,rfl,rfl,rfl⟩ -;refine yL [] [2] rfl<|zI<|yS ?_;obtain rfl:=zB N;exact wM
def eV (r:zA×Bool):KT:=fun kk I' hs' v=>
  ∃ v0 v1,hs'=[]∧v=tupV [v0,v1]∧(∃ cs,v0=.agg ⟨cs⟩∧Rp.rep I' cs r.1)∧v1=.bool r.2
def tU (text:Str) (at0:Int) (x:zA):Option (zA):=do
 let t18←(do
   if (decide (at0 ≥ 0)) then
    pure (decide (at0 < (text.l.length:Int)))
   else
    pure false
     : Option Bool)
 if t18 then
  let (y2,y3)←nS x text at0
  tU text y3 y2
 else
  pure (id x)
 partial_fixpoint
theorem eK (text:Str):∀ (at0:Int) (x:zA) (o:zA),tU text at0 x=some o→∀ {B}{I0 I:Imm}{Q}  {b:Nat}{b1:Nat}{p1 c1},I0.le I→(S4 I p1 x.Coefs c1)→NG Q→NO Q→(∀ (I':Imm) (x1:zA) (p2:Option Addr) (c2:Nat),o=x1→I0.le I'→(S4 I' p2 x1.Coefs c2)→T 32 B Q (.exit 0) I' [hB b1 (cAff x1 p2 c2),hB b [z0,vI 0]] [(0,vT text.l),(2,vP b 0),(4,vP b1 0)])→J Tryz.prog 32 B (nav (bodyOf Tryz.f242) [1,1,1,1,0,0]) Q I [hB b1 (cAff x p1 c1),hB b [z0,vI 0]] [(0,vT text.l),(2,vP b 0),(4,vP b1 0),(5,vI at0)]:=by
 refine tU.partial_correctness text _ fun self ih at0 x o N B I0 I Q b b1 p1 c1 H h2 hg ho hx=>xH hg ho<|yA<|yA ?_;refine wI N [hB b1 (cAff x p1 c1),hB b [z0,vI 0]] (fun t18=>[(0,vT text.l),(2,vP b 0),(4,vP b1 0),(5,vI at0),(18,.bool t18)]) (fun o0 ho0=>?_) ?_
 · have H:=iS I;refine zM<|yF 3 [] [13] rfl<|xP [13] ho0 ?_ ?_
   · intro hc1 N;exact yL [] [18] rfl<|yM<|zR (ct N H)
   intro hc1 N;exact wC [] [(18,vF)]<|yM<|zR (ct N H)
 intro t18 I02 le2 hMc;have ⟨h2,H⟩:=m2 le2 h2 H;refine zI<|yH hMc ?_ ?_
 · intro hc2 N;refine zT<|uV<|zM<|sH 3 [0] [(20,vA (cAff x p1 c1)),(21,vT text.l),(22,vI at0)] ?_;obtain ⟨⟨y2,y3⟩,hy1,N⟩:=zC N;refine xM (zCa x text at0 _ hy1 h2) ?_;rintro I03 hs2 v2 k2 le3 - ⟨v0,v01,rfl,rfl,⟨cs1,rfl,h4⟩,rfl⟩ -;have H:=H.trans le3;obtain ⟨p3,c3,rfl,h6⟩:=yD h4;exact yF 7 [] [24,25] rfl<|yZ 0 (cAff y2 p3 c3) rfl<|yL [] [5] rfl<|zQ<|xF<|mJ<|ih y3 y2 _ N H h6 hg ho hx
 intro hc2 N;exact tS<|yM<|hx _ _ _ _ (zB N).symm H h2
def rM (text:Str):Option (zA×Bool):=do
 let y←rW
 if (decide ((text.l.length:Int) > 40)) then
  pure ((zA.mk ([]:List Int) 0),false)
 else
  let x1←tU text 0 (zA.mk y.Coefs y.Const)
  let y4←qF x1
  if (!(y4.l == text.l)) then
   pure ((zA.mk ([]:List Int) 0),false)
  else
   pure (x1,true)
theorem jS:∀ text r,rM text=some r→∀ {I:Imm} ,RT 242 [vT text.l] I [] (eV  r):=by
 intro text r N I;unfold rM at N;refine yI Tryz.func242 fun B=>yG<|wK [z0,vI 0] ?_;intro b hb;refine wC [] []<|yX<|bE N fun y hy N=>xM (oK  _ hy ) ?_;rintro I0 hs2 v2 k2 le - ⟨p,c,cs,rfl,rfl,h⟩ -;refine wK [z0,vI 0] ?_;intro b1 hb1;refine yZ 0 (cAff y p c) rfl<|zZ rfl<|yE<|yO [9] rfl<|zI<|yH N ?_ ?_
 · intro hc N;refine yG<|yF 1 [] [10] rfl<|yZ 2 [z0,vI 0] rfl<|wC [] [(3,vF)]<|xE<|zH ?_;obtain rfl:=zB N;exact xB ⟨_,_,(.cell 2 rfl rfl (by kernel_rfl) (.tmp rfl ResV.nil)),zL,⟨_,_,rfl,rfl,⟨_,rfl,(yC ⟨_,rfl,(SL.nil _)⟩)⟩,rfl⟩⟩
 intro hc N;refine zT<|sI [5] rfl<|yE<|yN<|mK 1 rfl ?_;intro I01 le1 hl0;have h1:=SL.of_frozen hl0 le1 h;refine mH [(0,vT text.l),(2,vP b 0),(4,vP b1 0),(5,vI 0)] ?_;obtain ⟨o01,ho01,hMl⟩:=zC N;refine eK text 0 (zA.mk y.Coefs y.Const) o01 ho01 iR h1 (fun _ _ _ h=>h) (fun _ _ h=>h) ?_;intro I04 x1 p2 c2 heq1 le4 h3;subst o01;refine zU<|yE<|yG<|sH 1 [0] [(26,vA (cAff x1 p2 c2))] ?_;obtain ⟨y4,hy2,N⟩:=zC hMl;refine xM (dY x1 _ hy2 h3) ?_;rintro I05 hs2 v2 k2 le5 - ⟨v03,rfl,rfl,rfl⟩ -;have h3:=h3.mono le5;refine yL [] [29] rfl<|zI<|yH N ?_ ?_
 · intro hc3 N;refine yG<|yF 1 [] [30] rfl<|yZ 1 [z0,vI 0] rfl<|wC [] [(3,vF)]<|xE<|zH ?_;obtain rfl:=zB N;exact xB ⟨_,_,(.cell 1 rfl rfl (by kernel_rfl) (.tmp rfl ResV.nil)),zL,⟨_,_,rfl,rfl,⟨_,rfl,(yC ⟨_,rfl,(SL.nil _)⟩)⟩,rfl⟩⟩
 intro hc3 N;refine zT<|yX<|sH 1 [0] [(31,vA (cAff x1 p2 c2))]<|yZ 1 (cAff x1 p2 c2) rfl<|wC [] [(3,vY)]<|zI<|yS ?_;obtain rfl:=zB N;exact xB ⟨_,_,(.cell 1 rfl rfl (by kernel_rfl) (.tmp rfl ResV.nil)),zL,⟨_,_,rfl,rfl,⟨_,rfl,(yC ⟨_,rfl,h3⟩)⟩,rfl⟩⟩
def eW (r:(List zA)):KT:=fun kk I' hs' v=>
  ∃ v0,hs'=[]∧v=tupV [v0]∧SL I' v0 r
def uS (y:(List Str)) (out:List zA) (i:Int):Option (List zA):=do
 let t18←(do
   if (decide (i < (y.length:Int))) then
    pure (decide (i ≤ 2))
   else
    pure false
     : Option Bool)
 if t18 then
  let x←idx y i
  let (y2,y3)←rM x
  let out2←app 32 out ([y2]:List zA)
  uS y out2 (W (i + 1))
 else
  pure (id out)
 partial_fixpoint
theorem eL (y:(List Str)):∀ (out:List zA) (i:Int) (o:List zA),uS y out i=some o→∀ {B}{I0 I:Imm}{Q p c p1 c1 cs},I0.le I→(S4 I p y c)→(RL I cs out)→NG Q→NO Q→(∀ (I':Imm) (out1:List zA) (p2:Option Addr) (c2:Nat) (cs1:List Value),o=out1→I0.le I'→(RL I' cs1 out1)→T 34 B Q (.exit 0) I' [hO zA (vS p2 out1 c2) cs1] [(3,vS p2 out1 c2)])→J Tryz.prog 34 B (nav (bodyOf Tryz.f236) [1,1,1,0,1,0]) Q I [hO zA (vS p1 out c1) cs] [(3,vS p1 out c1),(4,vS p y c),(5,vI i)]:=by
 refine uS.partial_correctness y _ fun self ih out i o N B I0 I Q p c p1 c1 cs H h1 h2 hg ho hx=>xH hg ho<|yA<|yA ?_;refine wI N [hO zA (vS p1 out c1) cs] (fun t18=>[(3,vS p1 out c1),(4,vS p y c),(5,vI i),(18,.bool t18)]) (fun o0 ho0=>?_) ?_
 · have H:=iS I;refine zM<|yF 5 [] [15] rfl<|xP [15] ho0 ?_ ?_
   · intro hc N;exact yL [] [18] rfl<|yM<|zR (ct N H)
   intro hc N;exact wC [] [(18,vF)]<|yM<|zR (ct N H)
 intro t18 I01 le1 hMc;have ⟨h2,h1,H⟩:=m3 le1 h2 h1 H;refine zI<|yH hMc ?_ ?_
 · intro hc1 N;refine zT<|yE<|yN<|yG<|yF 2 [] [22,23] rfl<|bE N fun x hy1 N=>wF rfl rfl h1 hy1 ?_;intro ad ccs hat hrep;obtain rfl:=hrep;refine xT 0 hat [vT x.l] (vT x.l) rfl ?_;obtain ⟨⟨y2,y3⟩,hy2,N⟩:=zC N;refine xM (jS x _ hy2 ) ?_;rintro I02 hs2 v2 k2 le2 - ⟨v01,v02,rfl,rfl,⟨cs2,rfl,h4⟩,rfl⟩ -;have ⟨h2,h1,H⟩:=m3 le2 h2 h1 H;obtain ⟨p3,c3,rfl,h6⟩:=yD h4;refine yF 8 [] [27,28] rfl<|wK [z0,vI 0] ?_;intro b1 hb1;refine yZ 0 (cAff y2 p3 c3) rfl<|wC [] []<|zI<|zM<|sH 2 [0] [(29,vS p1 out c1),(30,vA (cAff y2 p3 c3))]<|qB (cAff y2 p3 c3) zA ?_;intro b2 hb2;have h7:RL I02 (cAff y2 p3 c3) ([y2]:List zA):=⟨(cAff y2 p3 c3),_,rfl,rfl,(yC ⟨_,rfl,h6⟩),rfl⟩;obtain ⟨out2,hy3,N⟩:=zC N;exact nO 43 2 2 rfl rfl rfl h2 (.inr ⟨0,rfl⟩) h7 hy3 fun p4 c4 cs3 h8=>qH (yB [1,2] (hs':=[hB b1 (cAff y2 p3 c3),hO zA (vS p4 out2 c4) cs3]))<|yL [] [3] rfl<|zQ<|zI<|zM<|yL [] [5] rfl<|xF<|gA (zX [1] rfl (by decide))<|mJ<|ih out2 (W (i + 1)) _ N H h1 h8 hg ho hx
 intro hc1 N;exact tS<|yM<|hx _ _ _ _ _ (zB N).symm H h2
def sF (text:Str):Option ((List zA)):=do
 let y←pT text (44:UInt8)
 let out1←uS y ([]:List zA) 0
 pure (id out1)
theorem mI:∀ text r,sF text=some r→∀ {I:Imm} ,RT 236 [vT text.l] I [] (eW  r):=by
 intro text r N I;unfold sF at N;refine yI Tryz.func236 fun B=>uA []<|yX<|qB [] zA ?_;intro b hb;have h:RL I [] ([]:List zA):=rfl;refine yL [] [3] rfl<|yX<|yF 1 [] [9] rfl<|bE N fun y hy N=>xM (gG text (44:UInt8) _ hy ) ?_;rintro I0 hs2 v2 k2 le - ⟨v0,rfl,rfl,h1⟩ -;have h:=iM le h;obtain ⟨p,c,rfl⟩:=h1.form;refine yL [] [4] rfl<|yE<|yO [5] rfl<|uV<|mH [(3,vS (some ⟨b,0,none⟩) ([]:List zA) 0),(4,vS p y c),(5,vI 0)] ?_;obtain ⟨o01,ho01,hMl⟩:=zC N;refine eL y ([]:List zA) 0 o01 ho01 iR h1 h (fun _ _ _ h=>h) (fun _ _ h=>h) ?_;intro I03 out1 p2 c2 cs1 heq1 le3 h3;subst o01;refine zU<|sI [2] rfl<|xE<|xN 0 rfl ?_;intro I04 le4 hl0;have h9:=SL.of_frozen hl0 le4 h3;obtain rfl:=zB hMl;exact xB ⟨_,_,(.tmp rfl ResV.nil),zL,⟨_,rfl,rfl,h9⟩⟩
def sQ (s:Str) (end0:UInt8) (i:Int):Option (Out Unit (Int)):=do
 if (decide (i < (s.l.length:Int))) then
  let b←sidx s i
  if ((b.toNat:Int) == (end0.toNat:Int)) then
   pure (.ret i)
  else
   sQ s end0 (W (i + 1))
 else
  pure (.done ())
 partial_fixpoint
theorem zAj (s:Str) (end0:UInt8):∀ (i:Int) (o:Out Unit (Int)),sQ s end0 i=some o→∀ {B}{I0 I:Imm}{Q}  ,I0.le I→NG Q→NO Q→(∀ (I':Imm) ,o=(.done ())→I0.le I'→T 21 B Q (.exit 0) I' [] [])→(∀ r I' hs' m',o=(.ret r)→I0.le I'→RS Tryz.prog Tryz.f241 B (xO  r) I' hs' m'→T 21 B Q .ret I' hs' m')→J Tryz.prog 21 B (nav (bodyOf Tryz.f241) [1,0,1,0]) Q I [] [(0,vT s.l),(2,.int .u8 (end0.toNat:Int)),(7,vI i)]:=by
 refine sQ.partial_correctness s end0 _ fun self ih i o N B I0 I Q H hg ho hx hr=>xH hg ho<|yA<|yO [12] rfl<|zI<|yH N ?_ ?_
 · intro hc N;refine zT<|yE<|yN<|yG<|yF 2 [] [15,16] rfl<|bE N fun b hy N=>gL rfl rfl hy<|yL [] [19] rfl<|zI<|yH N ?_ ?_
   · intro hc1 N;exact yO [6] rfl<|xE<|zV<|zH<|zH<|hr _ _ _ _ (zB N).symm H ⟨_,_,(.tmp rfl ResV.nil),zL,⟨_,rfl,rfl,rfl⟩⟩
   intro hc1 N;exact zT<|zQ<|zI<|zM<|yL [] [7] rfl<|xF<|mJ<|ih (W (i + 1)) _ N H  hg ho hx hr
 intro hc N;exact tS<|yM<|hx _  (zB N).symm H
def oM (s:Str) (at0:Int) (end0:UInt8):Option (Int):=do
 match←sQ s end0 at0 with
 | .ret r0=>pure r0
 | .done _ =>
  pure (-1)
theorem eT:∀ s at0 end0 r,oM s at0 end0=some r→∀ {I:Imm} ,RT 241 [vT s.l,vI at0,.int .u8 (end0.toNat:Int)] I [] (xO  r):=by
 intro s at0 end0 r N I;unfold oM at N;refine yI Tryz.func241 fun B=>uA []<|yE<|yO [7] rfl<|uV<|mH [(0,vT s.l),(2,.int .u8 (end0.toNat:Int)),(7,vI at0)] ?_;obtain ⟨o0,ho0,hMl⟩:=zC N;refine zAj s end0 at0 o0 ho0 iR  (fun _ _ _ h=>h) (fun _ _ h=>h) ?_ ?_
 · intro I0  heq le;subst o0;refine zU<|sI [6] rfl<|zI<|yS ?_;obtain rfl:=zB hMl;exact wM
 intro r0 I9 hs9 m9 heq9 le9 hrs9;subst heq9;refine zV<|zH ?_;obtain rfl:=zB hMl;exact xB hrs9
def fW (r:zF×Int):KT:=fun kk I' hs' v=>
  ∃ v0 v1,hs'=[]∧v=tupV [v0,v1]∧(∃ cs,v0=.agg ⟨cs⟩∧Rp.rep I' cs r.1)∧v1=.int .i64 r.2
def sJ (s:Str) (at0:Int):Option (zF×Int):=do
 let y←oM s at0 (93:UInt8)
 let t20←(do
   if (decide (y < (W (at0 + 2)))) then
    pure true
   else
    let b1←sidx s (W (at0 + 1))
    pure ((b1.toNat:Int) != 91)
     : Option Bool)
 if t20 then
  pure ((zF.mk (⟨[]⟩:Str) ([]:List zA)),(-1))
 else
  let s1←sslc s at0 (W (at0 + 1))
  let s2←sslc s (W (at0 + 2)) y
  let y1←sF s2
  pure ((zF.mk s1 y1),(W (y + 1)))
theorem kR:∀ s at0 r,sJ s at0=some r→∀ {I:Imm} ,RT 214 [vT s.l,vI at0] I [] (fW  r):=by
 intro s at0 r N I;unfold sJ at N;refine yI Tryz.func214 fun B=>?_;have H:=iS I;refine yG<|wK [vT ([]),z0] ?_;intro b hb;refine wC [] []<|yX<|yF 2 [] [7,8] rfl<|bE N fun y hy N=>fQ (eT s at0 (93:UInt8) _ hy ) ?_;intro I0 le;have H:=H.trans le;refine yL [] [6] rfl<|yE<|yA ?_;refine wI N [hB b [vT ([]),z0]] (fun t20=>[(0,vT s.l),(1,vI at0),(4,vP b 0),(6,vI y),(20,.bool t20)]) (fun o0 ho0=>?_) ?_
 · have H:=iS I0;refine zM<|yF 5 [] [14] rfl<|xP [14] ho0 ?_ ?_
   · intro hc N;exact wC [] [(20,vY)]<|yM<|zR (ct N H)
   intro hc N;exact yF 8 [] [15,17] rfl<|bE N fun b1 hy1 N=>gL rfl rfl hy1<|yL [] [20] rfl<|yM<|zR (ct N H)
 intro t20 I01 le1 hMc;have H:=H.trans le1;refine zI<|yH hMc ?_ ?_
 · intro hc1 N;refine yG<|yF 1 [] [21] rfl<|yZ 0 [vT ([]),z0] rfl<|yL [] [5] rfl<|xE<|zH ?_;obtain rfl:=zB N;exact xB ⟨_,_,(.cell 0 rfl rfl (by kernel_rfl) (.tmp rfl ResV.nil)),zL,⟨_,_,rfl,rfl,⟨_,rfl,(rD ⟨_,rfl,(SL.nil _)⟩)⟩,rfl⟩⟩
 intro hc1 N;refine zT<|zI<|yA ?_;obtain ⟨s1,hy2,N⟩:=zC N;obtain ⟨s2,hy3,N⟩:=zC N;obtain ⟨y1,hy4,N⟩:=zC N;refine wZ [.p (vT s.l) [],.p (vI at0) [],.p (vI at0) [],.p (vI (W (at0 + 1))) [],.q (vT s1.l),.p (vT s.l) [],.p (vI at0) [],.p (vI (W (at0 + 2))) [],.p (vI y) [],.q (vT s2.l),.x (eS y1),.x (fun I' v hx=>∃ p1 c1,v=vA [vT s1.l,vS p1 y1 c1]∧hx=[]∧(S4 I' p1 y1 c1)),.p (vI y) [],.p (vI (W (y + 1))) [],.x (fun I' v hx=>∃ p11 c11,hx=[hB b [vT s1.l,vS p11 y1 c11]]∧(S4 I' p11 y1 c11))] [[],[],[],[(2,false)],[(0,false),(1,false),(3,false)],[],[],[(6,false)],[],[(5,false),(7,false),(8,false)],[(9,false)],[(4,false),(10,false)],[],[(12,false)],[(11,false),(16,true)]] [] [[hB b [vT ([]),z0]]] [(13,false),(14,true)] (yB [0]) ?_ ?_
 · refine Op<|Op<|Op<|Op<|Oq ?_<|Op<|Op<|Op<|Op<|Oq ?_<|Ox ?_<|Ox ?_<|Op<|Op<|Ox ?_<|On
   · intro I1 hf le1;exact yY [22,23,25] rfl<|zDv rfl hy2<|xC iR
   · intro I1 hf le1;exact yY [27,29,30] rfl<|zDv rfl hy3<|xC iR
   · intro I1 hf le1;refine yY [31] rfl ?_;have H:=iS I1;refine xM (mI s2 _ hy4 ) ?_;rintro I02 hs2 v2 k2 le2 - ⟨v01,rfl,rfl,h1⟩ -;have H:=H.trans le2;obtain ⟨p,c,rfl⟩:=h1.form;exact yW [] H ⟨_,_,rfl,rfl,h1⟩
   · rintro I1 hf le1 _ _ ⟨rfl,rfl⟩ _ _ ⟨p,c,rfl,rfl,h1⟩;exact yY [26,32] rfl<|qE 12 [(33,vA [vT s1.l,vS p y1 c])]<|yW [] iR ⟨_,_,rfl,rfl,h1⟩
   rintro I1 hf le1 _ _ ⟨p1,c1,rfl,rfl,h11⟩ _ _ rfl;refine yY [4,33] rfl ?_;have H:=iS I1;exact zBD 0 [vT s1.l,vS p1 y1 c1] (hB b [vT s1.l,vS p1 y1 c1]::hf) rfl rfl rfl rfl<|zGQ (hx:=[hB b [vT s1.l,vS p1 y1 c1]]) rfl H rfl (zHO (v:=undef)) ⟨_,_,rfl,h11⟩
 rintro I03 le3 _ _ ⟨rfl,rfl⟩ _ _ ⟨p11,c11,rfl,h111⟩;refine yY [4,35] rfl ?_;refine yL [] [5] rfl<|zI<|yS ?_;obtain rfl:=zB N;exact xB ⟨_,_,(.cell 0 rfl rfl (by kernel_rfl) (.tmp rfl ResV.nil)),zL,⟨_,_,rfl,rfl,⟨_,rfl,(rD ⟨_,rfl,h111⟩)⟩,rfl⟩⟩
def kH (r:zD×Int):KT:=fun kk I' hs' v=>
  ∃ v0 v1,hs'=[]∧v=tupV [v0,v1]∧(∃ cs,v0=.agg ⟨cs⟩∧Rp.rep I' cs r.1)∧v1=.int .i64 r.2
mutual
def nT (s:Str) (at0:Int) (levels:Int):Option (zD×Int):=do
 let (y1,y2)←sR (same s) (same at0) (same levels)
 let t27←(do
   if (decide (y2 < 0)) then
    pure true
   else
    pure (decide (y2 ≥ (s.l.length:Int)))
     : Option Bool)
 if t27 then
  pure ((zD.mk 0 0 (zA.mk ([]:List Int) 0) (zF.mk (⟨[]⟩:Str) ([]:List zA)) ([]:List zD)),(-1))
 else
  let b2←sidx s y2
  let kind←(do
    if ((b2.toNat:Int) == 45) then
     pure (id 5)
    else
     let kind1←(do
       if ((b2.toNat:Int) == 42) then
        pure (id 6)
       else
        pure (id 4)
         : Option Int)
     pure (id kind1)
      : Option Int)
  let (y4,y5)←sR (same s) (W (y2 + 1)) (same levels)
  let t51←(do
    if (decide (y5 < 0)) then
     pure true
    else
     pure (decide (y5 ≥ (s.l.length:Int)))
      : Option Bool)
  if t51 then
   pure ((zD.mk 0 0 (zA.mk ([]:List Int) 0) (zF.mk (⟨[]⟩:Str) ([]:List zA)) ([]:List zD)),(-1))
  else
   pure ((zD.mk kind 0 (zA.mk ([]:List Int) 0) (zF.mk (⟨[]⟩:Str) ([]:List zA)) ([y1,y4]:List zD)),(W (y5 + 1)))
 partial_fixpoint
def sR (s:Str) (at0:Int) (levels:Int):Option (zD×Int):=do
 let t26←(do
   if (decide (levels < 1)) then
    pure true
   else
    if (decide (at0 < 0)) then
     pure true
    else
     pure (decide (at0 ≥ (s.l.length:Int)))
     : Option Bool)
 if t26 then
  pure ((zD.mk 0 0 (zA.mk ([]:List Int) 0) (zF.mk (⟨[]⟩:Str) ([]:List zA)) ([]:List zD)),(-1))
 else
  let b1←sidx s at0
  if ((b1.toNat:Int) == 123) then
   let y←oM s at0 (125:UInt8)
   if (decide (y < 0)) then
    pure ((zD.mk 0 0 (zA.mk ([]:List Int) 0) (zF.mk (⟨[]⟩:Str) ([]:List zA)) ([]:List zD)),(-1))
   else
    let s1←sslc s (W (at0 + 1)) y
    let (y2,y3)←rM s1
    pure ((zD.mk 2 0 y2 (zF.mk (⟨[]⟩:Str) ([]:List zA)) ([]:List zD)),(W (y + 1)))
  else
   let t52←(do
     let b3←sidx s at0
     if (decide ((b3.toNat:Int) ≥ 65)) then
      let b4←sidx s at0
      pure (decide ((b4.toNat:Int) ≤ 68))
     else
      pure false
       : Option Bool)
   if t52 then
    let (y5,y6)←sJ s at0
    pure ((zD.mk 3 0 (zA.mk ([]:List Int) 0) y5 ([]:List zD)),y6)
   else
    let b6←sidx s at0
    if ((b6.toNat:Int) == 40) then
     let (y8,y9)←nT (same s) (W (at0 + 1)) (W (levels - 1))
     pure (y8,y9)
    else
     let (y11,y12)←pB s at0
     if (y12 == at0) then
      pure ((zD.mk 0 0 (zA.mk ([]:List Int) 0) (zF.mk (⟨[]⟩:Str) ([]:List zA)) ([]:List zD)),(-1))
     else
      pure ((zD.mk 1 y11 (zA.mk ([]:List Int) 0) (zF.mk (⟨[]⟩:Str) ([]:List zA)) ([]:List zD)),y12)
 partial_fixpoint
end
theorem zCG:(∀ (s:Str) (at0:Int) (levels:Int) r,nT s at0 levels=some r→∀ {I:Imm} ,RT 243 [vT s.l,vI at0,vI levels] I [] (kH  r))∧(∀ (s:Str) (at0:Int) (levels:Int) r,sR s at0 levels=some r→∀ {I:Imm} ,RT 215 [vT s.l,vI at0,vI levels] I [] (kH  r)):=by
  refine nT.mutual_partial_correctness _ _ ?_ ?_
  · intro F_spec_l3Parse ih_spec_l3Parse s at0 levels r N I;refine yI Tryz.func243 fun B=>?_;have H:=iS I;refine yG<|wK zExpr ?_;intro b hb;refine wC [] []<|yX<|yF 3 [] [14,15,16] rfl ?_;obtain ⟨⟨y1,y2⟩,hy,N⟩:=zC N;refine xM (ih_spec_l3Parse s at0 levels _ hy ) ?_;rintro I0 hs2 v2 k2 le - ⟨v0,v01,rfl,rfl,⟨cs,rfl,h⟩,rfl⟩ -;have H:=H.trans le;obtain ⟨p,c,p1,c1,p2,c2,rfl,h2,h3,h4⟩:=yV h;refine yF 7 [] [18,19] rfl<|wK zExpr ?_;intro b1 hb1;refine yZ 0 (cExpr y1 p c p1 c1 p2 c2) rfl<|yL [] [9] rfl<|yE<|yA ?_;refine wI N [hB b1 (cExpr y1 p c p1 c1 p2 c2),hB b zExpr] (fun t27=>[(0,vT s.l),(2,vI levels),(6,vP b 0),(8,vP b1 0),(9,vI y2),(27,.bool t27)]) (fun o0 ho0=>?_) ?_
    · have H:=iS I0;refine zM<|yF 3 [] [22] rfl<|xP [22] ho0 ?_ ?_
      · intro hc N;exact wC [] [(27,vY)]<|yM<|zR (ct N H)
      intro hc N;exact yL [] [27] rfl<|yM<|zR (ct N H)
    intro t27 I01 le1 hMc;have ⟨h2,h3,h4,H⟩:=m4 le1 h2 h3 h4 H;refine zI<|yH hMc ?_ ?_
    · intro hc1 N;refine yG<|yF 1 [] [28] rfl<|zBD 1 zExpr [hB b1 (cExpr y1 p c p1 c1 p2 c2),hB b zExpr] rfl rfl rfl rfl<|yL [] [7] rfl<|xE<|zH ?_;obtain rfl:=zB N;exact xB ⟨_,_,(.cell 1 rfl rfl (by kernel_rfl) (.tmp rfl ResV.nil)),zL,⟨_,_,rfl,rfl,⟨_,rfl,(xI ⟨_,_,_,rfl,(SL.nil _),(SL.nil _),(SL.nil _)⟩)⟩,rfl⟩⟩
    intro hc1 N;refine zT<|sI [10] rfl<|yE<|yG<|yF 2 [] [29,30] rfl<|bE N fun b2 hy1 N=>gL rfl rfl hy1<|zZ rfl<|uV<|yO [32] rfl<|zI ?_;refine wI N [hB b1 (cExpr y1 p c p1 c1 p2 c2),hB b zExpr] (fun kind=>[(0,vT s.l),(2,vI levels),(6,vP b 0),(8,vP b1 0),(9,vI y2),(10,vI kind)]) (fun o01 ho01=>?_) ?_
    · have H:=iS I01;refine yH ho01 ?_ ?_
      · intro hc2 N;exact zM<|yL [] [10] rfl<|yM<|zR (ct N H)
      intro hc2 N;refine yO [34] rfl<|zI ?_;refine wI N [hB b1 (cExpr y1 p c p1 c1 p2 c2),hB b zExpr] (fun kind1=>[(0,vT s.l),(2,vI levels),(6,vP b 0),(8,vP b1 0),(9,vI y2),(10,vI kind1)]) (fun o02 ho02=>?_) ?_
      · have H:=iS I01;refine yH ho02 ?_ ?_
        · intro hc3 N;exact zM<|yL [] [10] rfl<|yM<|zR (ct N H)
        intro hc3 N;exact zT<|yM<|zR (ct N H)
      intro kind1 I03 le2 hMc2;have H:=H.trans le2;exact yM<|zR (ct hMc2 H)
    intro kind I02 le3 hMc1;have ⟨h2,h3,h4,H⟩:=m4 le3 h2 h3 h4 H;refine zQ<|yX<|yF 4 [] [37,39,40] rfl ?_;obtain ⟨⟨y4,y5⟩,hy2,N⟩:=zC hMc1;refine xM (ih_spec_l3Parse s (W (y2 + 1)) levels _ hy2 ) ?_;rintro I04 hs2 v2 k2 le4 - ⟨v05,v06,rfl,rfl,⟨cs1,rfl,h5⟩,rfl⟩ -;have ⟨h2,h3,h4,H⟩:=m4 le4 h2 h3 h4 H;obtain ⟨p3,c3,p4,c4,p5,c5,rfl,h7,h8,h9⟩:=yV h5;refine yF 8 [] [42,43] rfl<|wK zExpr ?_;intro b3 hb2;refine yZ 0 (cExpr y4 p3 c3 p4 c4 p5 c5) rfl<|yL [] [12] rfl<|yE<|yA ?_;refine wI N [hB b3 (cExpr y4 p3 c3 p4 c4 p5 c5),hB b1 (cExpr y1 p c p1 c1 p2 c2),hB b zExpr] (fun t51=>[(6,vP b 0),(8,vP b1 0),(10,vI kind),(11,vP b3 0),(12,vI y5),(51,.bool t51)]) (fun o03 ho03=>?_) ?_
    · have H:=iS I04;refine zM<|yF 3 [] [46] rfl<|xP [46] ho03 ?_ ?_
      · intro hc4 N;exact wC [] [(51,vY)]<|yM<|zR (ct N H)
      intro hc4 N;exact yL [] [51] rfl<|yM<|zR (ct N H)
    intro t51 I05 le5 hMc3;have ⟨h7,h8,h9,h2,h3,h4⟩:=m6 le5 h7 h8 h9 h2 h3 h4;refine zI<|yH hMc3 ?_ ?_
    · intro hc5 N;refine yG<|yF 1 [] [52] rfl<|zBD 2 zExpr [hB b3 (cExpr y4 p3 c3 p4 c4 p5 c5),hB b1 (cExpr y1 p c p1 c1 p2 c2),hB b zExpr] rfl rfl rfl rfl<|yL [] [7] rfl<|xE<|zH ?_;obtain rfl:=zB N;exact xB ⟨_,_,(.cell 2 rfl rfl (by kernel_rfl) (.tmp rfl ResV.nil)),zL,⟨_,_,rfl,rfl,⟨_,rfl,(xI ⟨_,_,_,rfl,(SL.nil _),(SL.nil _),(SL.nil _)⟩)⟩,rfl⟩⟩
    intro hc5 N;refine zT<|yX<|sH 3 [1,0] [(53,vI kind),(54,vA (cExpr y1 p c p1 c1 p2 c2)),(55,vA (cExpr y4 p3 c3 p4 c4 p5 c5))]<|qB [vI y1.Kind,vI y1.Num,vS p y1.Index.Coefs c,vI y1.Index.Const,vT y1.Read.Array.l,vS p1 y1.Read.Subs c1,vS p2 y1.Kids c2,vI y4.Kind,vI y4.Num,vS p3 y4.Index.Coefs c3,vI y4.Index.Const,vT y4.Read.Array.l,vS p4 y4.Read.Subs c4,vS p5 y4.Kids c5] zD ?_;intro b4 hb3;have h10:RL I05 [vI y1.Kind,vI y1.Num,vS p y1.Index.Coefs c,vI y1.Index.Const,vT y1.Read.Array.l,vS p1 y1.Read.Subs c1,vS p2 y1.Kids c2,vI y4.Kind,vI y4.Num,vS p3 y4.Index.Coefs c3,vI y4.Index.Const,vT y4.Read.Array.l,vS p4 y4.Read.Subs c4,vS p5 y4.Kids c5] ([y1,y4]:List zD):=⟨(cExpr y1 p c p1 c1 p2 c2),_,rfl,rfl,(xI ⟨_,_,_,rfl,h2,h3,h4⟩),⟨(cExpr y4 p3 c3 p4 c4 p5 c5),_,rfl,rfl,(xI ⟨_,_,_,rfl,h7,h8,h9⟩),rfl⟩⟩;refine yF 7 [] [57,59] rfl<|yZ 3 [vI kind,vI 0,z0,vI 0,vT ([]),z0,vS (some ⟨b4,0,none⟩) ([y1,y4]:List zD) 2] rfl<|yL [] [7] rfl<|xE<|xN 0 rfl ?_;intro I06 le6 hl0;have h11:=SL.of_frozen hl0 le6 h10;obtain rfl:=zB N;exact xB ⟨_,_,(.cell 2 rfl rfl (by kernel_rfl) (.tmp rfl ResV.nil)),zL,⟨_,_,rfl,rfl,⟨_,rfl,(xI ⟨_,_,_,rfl,(SL.nil _),(SL.nil _),h11⟩)⟩,rfl⟩⟩
  intro F_spec_l3Round ih_spec_l3Round s at0 levels r N I;refine yI Tryz.func215 fun B=>?_;have H:=iS I;refine yG<|wK zExpr ?_;intro b hb;refine wC [] []<|yE<|yA ?_;refine wI N [hB b zExpr] (fun t26=>[(0,vT s.l),(1,vI at0),(2,vI levels),(6,vP b 0),(26,.bool t26)]) (fun o0 ho0=>?_) ?_
  · have H:=iS I;refine zM<|yF 3 [] [17] rfl<|xP [17] ho0 ?_ ?_
    · intro hc N;exact wC [] [(26,vY)]<|yM<|zR (ct N H)
    intro hc N;refine yF 7 [] [21] rfl<|xP [21] N ?_ ?_
    · intro hc1 N;exact wC [] [(26,vY)]<|yM<|zR (ct N H)
    intro hc1 N;exact yL [] [26] rfl<|yM<|zR (ct N H)
  intro t26 I0 le hMc;have H:=H.trans le;refine zI<|yH hMc ?_ ?_
  · intro hc2 N;refine yG<|yF 1 [] [27] rfl<|zBD 0 zExpr [hB b zExpr] rfl rfl rfl rfl<|yL [] [7] rfl<|xE<|zH ?_;obtain rfl:=zB N;exact xB ⟨_,_,(.cell 0 rfl rfl (by kernel_rfl) (.tmp rfl ResV.nil)),zL,⟨_,_,rfl,rfl,⟨_,rfl,(xI ⟨_,_,_,rfl,(SL.nil _),(SL.nil _),(SL.nil _)⟩)⟩,rfl⟩⟩
  intro hc2 N;refine zT<|yE<|yN<|yG<|yF 2 [] [29,30] rfl<|bE N fun b1 hy N=>gL rfl rfl hy<|yL [] [28] rfl<|zI<|yH N ?_ ?_
  · intro hc3 N;refine yG<|yF 2 [] [33,34] rfl<|bE N fun y hy1 N=>fQ (eT s at0 (125:UInt8) _ hy1 ) fun I01 le1=>wC [] [(8,vI y)]<|yE<|uA [(37,.bool (decide (y < 0)))]<|zI<|yH N ?_ ?_
    · intro hc4 N;refine yG<|yF 1 [] [38] rfl<|zBD 0 zExpr [hB b zExpr] rfl rfl rfl rfl<|yL [] [7] rfl<|xE<|zH<|zV<|zH ?_;obtain rfl:=zB N;exact xB ⟨_,_,(.cell 0 rfl rfl (by kernel_rfl) (.tmp rfl ResV.nil)),zL,⟨_,_,rfl,rfl,⟨_,rfl,(xI ⟨_,_,_,rfl,(SL.nil _),(SL.nil _),(SL.nil _)⟩)⟩,rfl⟩⟩
    intro hc4 N;refine zT<|yX<|yF 4 [] [40,42,43] rfl<|bE N fun s1 hy2 N=>zDv rfl hy2 ?_;obtain ⟨⟨y2,y3⟩,hy3,N⟩:=zC N;refine xM (jS s1 _ hy3 ) ?_;rintro I02 hs2 v2 k2 le2 - ⟨v01,v02,rfl,rfl,⟨cs,rfl,h1⟩,rfl⟩ -;obtain ⟨p,c,rfl,h3⟩:=yD h1;refine yF 9 [] [46,47] rfl<|wK [z0,vI 0] ?_;intro b2 hb1;refine yZ 0 (cAff y2 p c) rfl<|wC [] []<|yX<|sH 4 [0] [(49,vA [vI 2,vI 0,vS p y2.Coefs c,vI y2.Const,vT ([]),z0,z0]),(51,vI (W (y + 1)))]<|yZ 1 [vI 2,vI 0,vS p y2.Coefs c,vI y2.Const,vT ([]),z0,z0] rfl<|yL [] [7] rfl<|xE<|zV<|zH ?_;obtain rfl:=zB N;exact xB ⟨_,_,(.cell 1 rfl rfl (by kernel_rfl) (.tmp rfl ResV.nil)),zL,⟨_,_,rfl,rfl,⟨_,rfl,(xI ⟨_,_,_,rfl,h3,(SL.nil _),(SL.nil _)⟩)⟩,rfl⟩⟩
  intro hc3 N;refine yA ?_;refine wI N [hB b zExpr] (fun t52=>[(0,vT s.l),(1,vI at0),(2,vI levels),(6,vP b 0),(52,.bool t52)]) (fun o01 ho01=>?_) ?_
  · have H:=iS I0;refine zM<|yF 2 [] [53,54] rfl ?_;obtain ⟨b3,hy4,N⟩:=zC ho01;refine gL rfl rfl hy4<|yF 5 [] [57] rfl<|xP [57] N ?_ ?_
    · intro hc5 N;exact yF 7 [] [58,59] rfl<|bE N fun b4 hy5 N=>gL rfl rfl hy5<|yL [] [52] rfl<|yM<|zR (ct N H)
    intro hc5 N;exact wC [] [(52,vF)]<|yM<|zR (ct N H)
  intro t52 I03 le3 hMc1;refine zI<|yH hMc1 ?_ ?_
  · intro hc6 N;refine yG<|yF 2 [] [64,65] rfl ?_;obtain ⟨⟨y5,y6⟩,hy6,N⟩:=zC N;refine xM (kR s at0 _ hy6 ) ?_;rintro I04 hs2 v2 k2 le4 - ⟨v04,v05,rfl,rfl,⟨cs1,rfl,h4⟩,rfl⟩ -;obtain ⟨p1,c1,rfl,h6⟩:=uE h4;refine yF 6 [] [67,68] rfl<|wK [vT ([]),z0] ?_;intro b5 hb2;refine yZ 0 (cAccess y5 p1 c1) rfl<|yL [] [12] rfl<|yX<|sH 3 [0] [(70,vA [vI 3,vI 0,z0,vI 0,vT y5.Array.l,vS p1 y5.Subs c1,z0]),(71,vI y6)]<|yZ 1 [vI 3,vI 0,z0,vI 0,vT y5.Array.l,vS p1 y5.Subs c1,z0] rfl<|yL [] [7] rfl<|xE<|zV<|zH ?_;obtain rfl:=zB N;exact xB ⟨_,_,(.cell 1 rfl rfl (by kernel_rfl) (.tmp rfl ResV.nil)),zL,⟨_,_,rfl,rfl,⟨_,rfl,(xI ⟨_,_,_,rfl,(SL.nil _),h6,(SL.nil _)⟩)⟩,rfl⟩⟩
  intro hc6 N;refine yG<|yF 2 [] [73,74] rfl<|bE N fun b6 hy7 N=>gL rfl rfl hy7<|yL [] [72] rfl<|zI<|yH N ?_ ?_
  · intro hc7 N;refine yG<|yF 5 [] [77,79,81] rfl ?_;obtain ⟨⟨y8,y9⟩,hy8,N⟩:=zC N;refine xM (ih_spec_l3Round s (W (at0 + 1)) (W (levels - 1)) _ hy8 ) ?_;rintro I05 hs2 v2 k2 le5 - ⟨v07,v08,rfl,rfl,⟨cs2,rfl,h7⟩,rfl⟩ -;obtain ⟨p2,c2,p3,c3,p4,c4,rfl,h9,h10,h11⟩:=yV h7;refine yF 8 [] [83,84] rfl<|yZ 0 (cExpr y8 p2 c2 p3 c3 p4 c4) rfl<|yL [] [7] rfl<|xE<|zV<|zH ?_;obtain rfl:=zB N;exact xB ⟨_,_,(.cell 0 rfl rfl (by kernel_rfl) (.tmp rfl ResV.nil)),zL,⟨_,_,rfl,rfl,⟨_,rfl,(xI ⟨_,_,_,rfl,h9,h10,h11⟩)⟩,rfl⟩⟩
  intro hc7 N;refine zT<|zQ<|yX<|yF 2 [] [86,87] rfl ?_;obtain ⟨⟨y11,y12⟩,hy9,N⟩:=zC N;refine xM (fV s at0 _ hy9 ) ?_;rintro I06 hs2 v2 k2 le6 - ⟨v012,v013,rfl,rfl,rfl,rfl⟩ -;refine yL [] [13,14] rfl<|yE<|yO [93] rfl<|zI<|yH N ?_ ?_
  · intro hc8 N;refine yG<|yF 1 [] [94] rfl<|zBD 0 zExpr [hB b zExpr] rfl rfl rfl rfl<|yL [] [7] rfl<|xE<|zH ?_;obtain rfl:=zB N;exact xB ⟨_,_,(.cell 0 rfl rfl (by kernel_rfl) (.tmp rfl ResV.nil)),zL,⟨_,_,rfl,rfl,⟨_,rfl,(xI ⟨_,_,_,rfl,(SL.nil _),(SL.nil _),(SL.nil _)⟩)⟩,rfl⟩⟩
  intro hc8 N;refine zT<|yX<|yF 3 [] [96,97] rfl<|yZ 0 [vI 1,vI y11,z0,vI 0,vT ([]),z0,z0] rfl<|yL [] [7] rfl<|zI<|yS ?_;obtain rfl:=zB N;exact xB ⟨_,_,(.cell 0 rfl rfl (by kernel_rfl) (.tmp rfl ResV.nil)),zL,⟨_,_,rfl,rfl,⟨_,rfl,(xI ⟨_,_,_,rfl,(SL.nil _),(SL.nil _),(SL.nil _)⟩)⟩,rfl⟩⟩
theorem zCb:∀ s at0 levels r,sR s at0 levels=some r→∀ {I:Imm} ,RT 215 [vT s.l,vI at0,vI levels] I [] (kH  r):=zCG.2
def uY (list:(List zA)) (out:Str) (i:Int):Option (Str):=do
 if (decide (i < (list.length:Int))) then
  let out2←(do
    if (decide (i > 0)) then
     let s←cat out (⟨[44]⟩:Str)
     pure (id s)
    else
     pure (id out)
      : Option Str)
  let x←idx list i
  let y←pU x
  let s1←cat out2 y
  uY list s1 (W (i + 1))
 else
  pure (id out)
 partial_fixpoint
theorem eX (list:(List zA)):∀ (out:Str) (i:Int) (o:Str),uY list out i=some o→∀ {B}{I0 I:Imm}{Q p c},I0.le I→(S4 I p list c)→NG Q→NO Q→(∀ (I':Imm) (out1:Str),o=out1→I0.le I'→T 23 B Q (.exit 0) I' [] [(3,vT out1.l)])→J Tryz.prog 23 B (nav (bodyOf Tryz.f237) [1,1,0,1,0]) Q I [] [(0,vS p list c),(3,vT out.l),(4,vI i)]:=by
 refine uY.partial_correctness list _ fun self ih out i o N B I0 I Q p c H h hg ho hx=>xH hg ho<|yA<|yO [8] rfl<|zI<|yH N ?_ ?_
 · intro hc N;refine zT<|yE<|yN<|yA<|yO [12] rfl<|zI ?_;refine wI N [] (fun out2=>[(0,vS p list c),(3,vT out2.l),(4,vI i)]) (fun o0 ho0=>?_) ?_
   · have H:=iS I;refine yH ho0 ?_ ?_
     · intro hc1 N;exact zM<|yF 1 [] [13] rfl<|bE N fun s hy N=>oI rfl hy<|yL [] [3] rfl<|yM<|zR (ct N H)
     intro hc1 N;exact zT<|yM<|zR (ct N H)
   intro out2 I0 le hMc;have ⟨h,H⟩:=m2 le h H;refine zI<|zM<|yF 3 [] [15,16,17] rfl ?_;obtain ⟨x,hy1,N⟩:=zC hMc;refine wF rfl rfl h hy1 ?_;intro ad ccs hat hrep;obtain ⟨p1,c1,rfl,h1⟩:=yD hrep;refine xT 0 hat (cAff x p1 c1) (vA (cAff x p1 c1)) rfl<|bE N fun y hy2 N=>xM (gH x _ hy2 h1) ?_;rintro I01 hs2 v2 k2 le1 - ⟨v01,rfl,rfl,rfl⟩ -;have ⟨h,H⟩:=m2 le1 h H;obtain ⟨s1,hy3,N⟩:=zC N;exact oI rfl hy3<|yL [] [3] rfl<|zQ<|zI<|zM<|yL [] [4] rfl<|xF<|mJ<|ih s1 (W (i + 1)) _ N H h hg ho hx
 intro hc N;exact tS<|yM<|hx _ _ (zB N).symm H
def sS (list:(List zA)):Option (Str):=do
 let out1←uY list (⟨[]⟩:Str) 0
 pure (id out1)
theorem mW:∀ list r,sS list=some r→∀ {I:Imm}{p c},(S4 I p list c)→RT 237 [vS p list c] I [] (uL  r):=by
 intro list r N I p c h;unfold sS at N;refine yI Tryz.func237 fun B=>uA []<|sI [3] rfl<|yE<|yO [4] rfl<|uV<|mH [(0,vS p list c),(3,vT ([])),(4,vI 0)] ?_;obtain ⟨o01,ho01,hMl⟩:=zC N;refine eX list (⟨[]⟩:Str) 0 o01 ho01 iR h (fun _ _ _ h=>h) (fun _ _ h=>h) ?_;intro I02 out1 heq1 le2;subst o01;refine zU<|sI [2] rfl<|zI<|yS ?_;obtain rfl:=zB hMl;exact wM
def tM (a0:zF):Option (Str):=do
 let s←cat a0.Array (⟨[91]⟩:Str)
 let y←sS a0.Subs
 let s1←cat s y
 let s2←cat s1 (⟨[93]⟩:Str)
 pure (id s2)
theorem nU:∀ a0 r,tM a0=some r→∀ {I:Imm}{p c},(S4 I p a0.Subs c)→RT 204 [vA (cAccess a0 p c)] I [] (uL  r):=by
 intro a0 r N I p c h;unfold tM at N;refine yI Tryz.func204 fun B=>?_;have H:=iS I;refine yG<|uG (cAccess a0 p c) ?_;intro b hb;refine wC [] []<|zI<|yA ?_;obtain ⟨s,hy,N⟩:=zC N;obtain ⟨y,hy1,N⟩:=zC N;obtain ⟨s1,hy2,N⟩:=zC N;obtain ⟨s2,hy3,N⟩:=zC N;refine wZ [.p (vP b 0) [],.p (vT a0.Array.l) [0],.q (vT s.l),.p (vP b 1) [],.p (vS p a0.Subs c) [0],.q (vT y.l),.q (vT s1.l),.q (vT s2.l)] [[],[(0,false)],[(1,false)],[],[(3,false)],[(4,false)],[(2,false),(5,false)],[(6,false)]] [hB b (cAccess a0 p c)] [] [(7,false)] (yB [0]) ?_ ?_
 · refine Op<|Op<|Oq ?_<|Op<|Op<|Oq ?_<|Oq ?_<|Oq ?_<|On
   · intro I1 hf le1;exact yY [4] rfl<|oI rfl hy<|xC iR
   · intro I1 hf le1;refine yY [7] rfl ?_;have H:=iS I1;have h:=h.mono le1;refine xM (mW a0.Subs _ hy1 h) ?_;rintro I0 hs2 v2 k2 le - ⟨v0,rfl,rfl,rfl⟩ -;have H:=H.trans le;exact xC H
   · intro I1 hf le1;exact yY [5,8] rfl<|oI rfl hy2<|xC iR
   intro I1 hf le1;exact yY [9] rfl<|oI rfl hy3<|xC iR
 intro I01 le1;refine yY [10] rfl ?_;refine yL [] [2] rfl<|zI<|yS ?_;obtain rfl:=zB N;exact wM
def tX (e0:zD):Option (Str):=do
 if (e0.Kind == 1) then
  let y←uM e0.Num
  pure (id y)
 else
  if (e0.Kind == 2) then
   let y1←pU e0.Index
   let s←cat (⟨[123]⟩:Str) y1
   let s1←cat s (⟨[125]⟩:Str)
   pure (id s1)
  else
   if (e0.Kind == 3) then
    let y2←tM e0.Read
    pure (id y2)
   else
    let x←idx e0.Kids 0
    let y3←tX (same x)
    let s2←cat (⟨[40]⟩:Str) y3
    let s3←sslc (⟨[43,45,42]⟩:Str) (W (e0.Kind - 4)) (W ((W (e0.Kind - 4)) + 1))
    let s4←cat s2 s3
    let x1←idx e0.Kids 1
    let y4←tX (same x1)
    let s5←cat s4 y4
    let s6←cat s5 (⟨[41]⟩:Str)
    pure (id s6)
 partial_fixpoint
theorem dZ:∀ e0 r,tX e0=some r→∀ {I:Imm}{p c p1 c1 p2 c2},(S4 I p e0.Index.Coefs c)→(S4 I p1 e0.Read.Subs c1)→(S4 I p2 e0.Kids c2)→RT 205 [vA (cExpr e0 p c p1 c1 p2 c2)] I [] (uL  r):=by
 refine tX.partial_correctness _ fun F_spec_l3Text ih_spec_l3Text e0 r N I p c p1 c1 p2 c2 h h1 h2=>yI Tryz.func205 fun B=>?_;have H:=iS I;refine yG<|uG (cExpr e0 p c p1 c1 p2 c2) ?_;intro b hb;refine wC [] []<|yE<|yG<|yL [0] [4] rfl<|uV<|yO [5] rfl<|zI<|yH N ?_ ?_
 · intro hc N;refine yG<|yF 2 [0] [8] rfl<|bE N fun y hy N=>xM (kG e0.Num _ hy ) ?_;rintro I0 hs2 v2 k2 le - ⟨v0,rfl,rfl,rfl⟩ -;refine yL [] [2] rfl<|xE<|zV<|zH ?_;obtain rfl:=zB N;exact wM
 intro hc N;refine yO [10] rfl<|zI<|yH N ?_ ?_
 · intro hc1 N;refine yG<|sH 2 [0] [(13,vA (cAff e0.Index p c))]<|bE N fun y1 hy1 N=>xM (gH e0.Index _ hy1 h) ?_;rintro I01 hs2 v2 k2 le1 - ⟨v01,rfl,rfl,rfl⟩ -;obtain ⟨s,hy2,N⟩:=zC N;refine oI rfl hy2<|bE N fun s1 hy3 N=>oI rfl hy3<|yL [] [2] rfl<|xE<|zV<|zH ?_;obtain rfl:=zB N;exact wM
 intro hc1 N;refine yO [17] rfl<|zI<|yH N ?_ ?_
 · intro hc2 N;refine yG<|sH 2 [0] [(20,vA (cAccess e0.Read p1 c1))]<|bE N fun y2 hy4 N=>xM (nU e0.Read _ hy4 h1) ?_;rintro I02 hs2 v2 k2 le2 - ⟨v02,rfl,rfl,rfl⟩ -;refine yL [] [2] rfl<|xE<|zV<|zH ?_;obtain rfl:=zB N;exact wM
 intro hc2 N;refine zT<|zQ<|zI<|yA ?_;obtain ⟨x,hy5,N⟩:=zC N;obtain ⟨y3,hy6,N⟩:=zC N;obtain ⟨s2,hy7,N⟩:=zC N;obtain ⟨s3,hy8,N⟩:=zC N;obtain ⟨s4,hy9,N⟩:=zC N;obtain ⟨x1,hy10,N⟩:=zC N;obtain ⟨y4,hy11,N⟩:=zC N;obtain ⟨s5,hy12,N⟩:=zC N;obtain ⟨s6,hy13,N⟩:=zC N;refine wZ [.p (vP b 6) [],.p (vS p2 e0.Kids c2) [0],.x (ePExpr x),.x (eVExpr x),.q (vT y3.l),.q (vT s2.l),.p (vP b 0) [],.p (vI e0.Kind) [0],.p (vI (W (e0.Kind - 4))) [],.p (vP b 0) [],.p (vI e0.Kind) [0],.p (vI (W (e0.Kind - 4))) [],.p (vI (W ((W (e0.Kind - 4)) + 1))) [],.q (vT s3.l),.q (vT s4.l),.p (vP b 6) [],.p (vS p2 e0.Kids c2) [0],.x (ePExpr x1),.x (eVExpr x1),.q (vT y4.l),.q (vT s5.l),.q (vT s6.l)] [[],[(0,false)],[(1,false)],[(2,false)],[(3,false)],[(4,false)],[],[(6,false)],[(7,false)],[],[(9,false)],[(10,false)],[(11,false)],[(8,false),(12,false)],[(5,false),(13,false)],[],[(15,false)],[(16,false)],[(17,false)],[(18,false)],[(14,false),(19,false)],[(20,false)]] [hB b (cExpr e0 p c p1 c1 p2 c2)] [] [(21,false)] (yB [0]) ?_ ?_
 · refine Op<|Op<|Ox ?_<|Ox ?_<|Oq ?_<|Oq ?_<|Op<|Op<|Op<|Op<|Op<|Op<|Op<|Oq ?_<|Oq ?_<|Op<|Op<|Ox ?_<|Ox ?_<|Oq ?_<|Oq ?_<|Oq ?_<|On
   · intro I1 hf le1;refine yY [23] rfl ?_;have h2:=h2.mono le1;refine wF rfl rfl h2 hy5 ?_;intro ad ccs hat hrep;obtain ⟨p3,c3,p4,c4,p5,c5,rfl,h6,h7,h8⟩:=yV hrep;exact yW [] iR ⟨_,_,_,_,_,_,_,rfl,rfl,hat,h6,h7,h8⟩
   · rintro I1 hf le1 _ _ ⟨ad,p3,c3,p4,c4,p5,c5,rfl,rfl,hat,h6,h7,h8⟩;exact yY [24] rfl<|xT 0 hat (cExpr x p3 c3 p4 c4 p5 c5) (vA (cExpr x p3 c3 p4 c4 p5 c5)) rfl<|yW [] iR ⟨_,_,_,_,_,_,rfl,rfl,h6,h7,h8⟩
   · rintro I1 hf le1 _ _ ⟨p31,c31,p41,c41,p51,c51,rfl,rfl,h61,h71,h81⟩;refine yY [25] rfl ?_;have H:=iS I1;refine xM (ih_spec_l3Text x _ hy6 h61 h71 h81) ?_;rintro I03 hs2 v2 k2 le3 - ⟨v06,rfl,rfl,rfl⟩ -;have H:=H.trans le3;exact xC H
   · intro I1 hf le1;exact yY [26] rfl<|oI rfl hy7<|xC iR
   · intro I1 hf le1;exact yY [30,34] rfl<|zDv rfl hy8<|xC iR
   · intro I1 hf le1;exact yY [27,35] rfl<|oI rfl hy9<|xC iR
   · intro I1 hf le1;refine yY [38] rfl ?_;have h2:=h2.mono le1;refine wF rfl rfl h2 hy10 ?_;intro ad1 ccs1 hat1 hrep1;obtain ⟨p6,c6,p7,c7,p8,c8,rfl,h10,h11,h12⟩:=yV hrep1;exact yW [] iR ⟨_,_,_,_,_,_,_,rfl,rfl,hat1,h10,h11,h12⟩
   · rintro I1 hf le1 _ _ ⟨ad1,p6,c6,p7,c7,p8,c8,rfl,rfl,hat1,h10,h11,h12⟩;exact yY [39] rfl<|xT 0 hat1 (cExpr x1 p6 c6 p7 c7 p8 c8) (vA (cExpr x1 p6 c6 p7 c7 p8 c8)) rfl<|yW [] iR ⟨_,_,_,_,_,_,rfl,rfl,h10,h11,h12⟩
   · rintro I1 hf le1 _ _ ⟨p61,c61,p71,c71,p81,c81,rfl,rfl,h101,h111,h121⟩;refine yY [40] rfl ?_;have H:=iS I1;refine xM (ih_spec_l3Text x1 _ hy11 h101 h111 h121) ?_;rintro I04 hs2 v2 k2 le4 - ⟨v010,rfl,rfl,rfl⟩ -;have H:=H.trans le4;exact xC H
   · intro I1 hf le1;exact yY [36,41] rfl<|oI rfl hy12<|xC iR
   intro I1 hf le1;exact yY [42] rfl<|oI rfl hy13<|xC iR
 intro I05 le5;refine yY [43] rfl ?_;refine yL [] [2] rfl<|zI<|yS ?_;obtain rfl:=zB N;exact wM
def pJ (s:zK):Option (Str):=do
 let y←uH s 4
 if (!y) then
  pure (⟨[]⟩:Str)
 else
  let y1←tM s.Write
  let s1←cat y1 (⟨[61]⟩:Str)
  let y2←tX s.Value
  let s2←cat s1 y2
  pure (id s2)
theorem zAk:∀ s r,pJ s=some r→∀ {I:Imm}{p c p1 c1 p2 c2 p3 c3},(S4 I p s.Write.Subs c)→(S4 I p1 s.Value.Index.Coefs c1)→(S4 I p2 s.Value.Read.Subs c2)→(S4 I p3 s.Value.Kids c3)→RT 216 [vA (cStmt s p c p1 c1 p2 c2 p3 c3)] I [] (uL  r):=by
 intro s r N I p c p1 c1 p2 c2 p3 c3 h h1 h2 h3;unfold pJ at N;refine yI Tryz.func216 fun B=>?_;have H:=iS I;refine yG<|uG (cStmt s p c p1 c1 p2 c2 p3 c3) ?_;intro b hb;refine wC [] []<|yE<|yG<|sH 1 [0] [(3,vA (cStmt s p c p1 c1 p2 c2 p3 c3))]<|bE N fun y hy N=>uB (nK s 4 _ hy h h1 h2 h3) ?_;intro I0 le;have ⟨h,h1,h2,h3,H⟩:=m5 le h h1 h2 h3 H;refine yL [] [5] rfl<|zI<|yH N ?_ ?_
 · intro hc N;refine yO [2] rfl<|xE<|zH ?_;obtain rfl:=zB N;exact wM
 intro hc N;refine zT<|zI<|yA ?_;obtain ⟨y1,hy1,N⟩:=zC N;obtain ⟨s1,hy2,N⟩:=zC N;obtain ⟨y2,hy3,N⟩:=zC N;obtain ⟨s2,hy4,N⟩:=zC N;refine wZ [.p (vP b 0) [],.p (vA (cAccess s.Write p c)) [0],.q (vT y1.l),.q (vT s1.l),.p (vP b 2) [],.p (vA (cExpr s.Value p1 c1 p2 c2 p3 c3)) [0],.q (vT y2.l),.q (vT s2.l)] [[],[(0,false)],[(1,false)],[(2,false)],[],[(4,false)],[(5,false)],[(3,false),(6,false)]] [hB b (cStmt s p c p1 c1 p2 c2 p3 c3)] [] [(7,false)] (yB [0]) ?_ ?_
 · refine Op<|Op<|Oq ?_<|Oq ?_<|Op<|Op<|Oq ?_<|Oq ?_<|On
   · intro I1 hf le1;refine yY [7] rfl ?_;have H:=iS I1;have h:=h.mono le1;refine xM (nU s.Write _ hy1 h) ?_;rintro I01 hs2 v2 k2 le1 - ⟨v01,rfl,rfl,rfl⟩ -;have H:=H.trans le1;exact xC H
   · intro I1 hf le1;exact yY [8] rfl<|oI rfl hy2<|xC iR
   · intro I1 hf le1;refine yY [11] rfl ?_;have H:=iS I1;have ⟨h1,h2,h3⟩:=m3 le1 h1 h2 h3;refine xM (dZ s.Value _ hy3 h1 h2 h3) ?_;rintro I02 hs2 v2 k2 le2 - ⟨v02,rfl,rfl,rfl⟩ -;have H:=H.trans le2;exact xC H
   intro I1 hf le1;exact yY [9,12] rfl<|oI rfl hy4<|xC iR
 intro I03 le3;refine yY [13] rfl ?_;refine yL [] [2] rfl<|zI<|yS ?_;obtain rfl:=zB N;exact wM
def jT (r:zK×Bool):KT:=fun kk I' hs' v=>
  ∃ v0 v1,hs'=[]∧v=tupV [v0,v1]∧(∃ cs,v0=.agg ⟨cs⟩∧Rp.rep I' cs r.1)∧v1=.bool r.2
def qN (text:Str):Option (zK×Bool):=do
 if (decide ((text.l.length:Int) < 4)) then
  pure ((zK.mk (zF.mk (⟨[]⟩:Str) ([]:List zA)) (zD.mk 0 0 (zA.mk ([]:List Int) 0) (zF.mk (⟨[]⟩:Str) ([]:List zA)) ([]:List zD))),false)
 else
  let (y1,y2)←sJ text 0
  let t25←(do
    if (decide (y2 < 0)) then
     pure true
    else
     pure (decide (y2 ≥ (text.l.length:Int)))
      : Option Bool)
  if t25 then
   pure ((zK.mk (zF.mk (⟨[]⟩:Str) ([]:List zA)) (zD.mk 0 0 (zA.mk ([]:List Int) 0) (zF.mk (⟨[]⟩:Str) ([]:List zA)) ([]:List zD))),false)
  else
   let (y4,y5)←sR text (W (y2 + 1)) 5
   let y6←pJ (zK.mk y1 y4)
   if (!(y6.l == text.l)) then
    pure ((zK.mk (zF.mk (⟨[]⟩:Str) ([]:List zA)) (zD.mk 0 0 (zA.mk ([]:List Int) 0) (zF.mk (⟨[]⟩:Str) ([]:List zA)) ([]:List zD))),false)
   else
    pure ((zK.mk y1 y4),true)
theorem gZ:∀ text r,qN text=some r→∀ {I:Imm} ,RT 172 [vT text.l] I [] (jT  r):=by
 intro text r N I;unfold qN at N;refine yI Tryz.func172 fun B=>?_;have H:=iS I;refine yG<|wK [vT ([]),z0,vI 0,vI 0,z0,vI 0,vT ([]),z0,z0] ?_;intro b hb;refine wC [] []<|yE<|yO [11] rfl<|zI<|yH N ?_ ?_
 · intro hc N;refine yG<|yF 1 [] [12] rfl<|yZ 0 [vT ([]),z0,vI 0,vI 0,z0,vI 0,vT ([]),z0,z0] rfl<|wC [] [(3,vF)]<|xE<|zH ?_;obtain rfl:=zB N;exact xB ⟨_,_,(.cell 0 rfl rfl (by kernel_rfl) (.tmp rfl ResV.nil)),zL,⟨_,_,rfl,rfl,⟨_,rfl,(xU ⟨_,_,_,_,rfl,(SL.nil _),(SL.nil _),(SL.nil _),(SL.nil _)⟩)⟩,rfl⟩⟩
 intro hc N;refine zT<|yX<|yF 1 [] [14] rfl ?_;obtain ⟨⟨y1,y2⟩,hy,N⟩:=zC N;refine xM (kR text 0 _ hy ) ?_;rintro I0 hs2 v2 k2 le - ⟨v0,v01,rfl,rfl,⟨cs,rfl,h⟩,rfl⟩ -;have H:=H.trans le;obtain ⟨p,c,rfl,h2⟩:=uE h;refine yF 5 [] [16,17] rfl<|wK [vT ([]),z0] ?_;intro b1 hb1;refine yZ 0 (cAccess y1 p c) rfl<|yL [] [5] rfl<|yE<|yA ?_;refine wI N [hB b1 (cAccess y1 p c),hB b [vT ([]),z0,vI 0,vI 0,z0,vI 0,vT ([]),z0,z0]] (fun t25=>[(0,vT text.l),(2,vP b 0),(4,vP b1 0),(5,vI y2),(25,.bool t25)]) (fun o0 ho0=>?_) ?_
 · have H:=iS I0;refine zM<|yF 3 [] [20] rfl<|xP [20] ho0 ?_ ?_
   · intro hc1 N;exact wC [] [(25,vY)]<|yM<|zR (ct N H)
   intro hc1 N;exact yL [] [25] rfl<|yM<|zR (ct N H)
 intro t25 I01 le1 hMc;have h2:=h2.mono le1;refine zI<|yH hMc ?_ ?_
 · intro hc2 N;refine yG<|yF 1 [] [26] rfl<|yZ 1 [vT ([]),z0,vI 0,vI 0,z0,vI 0,vT ([]),z0,z0] rfl<|wC [] [(3,vF)]<|xE<|zH ?_;obtain rfl:=zB N;exact xB ⟨_,_,(.cell 1 rfl rfl (by kernel_rfl) (.tmp rfl ResV.nil)),zL,⟨_,_,rfl,rfl,⟨_,rfl,(xU ⟨_,_,_,_,rfl,(SL.nil _),(SL.nil _),(SL.nil _),(SL.nil _)⟩)⟩,rfl⟩⟩
 intro hc2 N;refine zT<|yX<|yF 3 [] [28,30] rfl ?_;obtain ⟨⟨y4,y5⟩,hy1,N⟩:=zC N;refine xM (zCb text (W (y2 + 1)) 5 _ hy1 ) ?_;rintro I02 hs2 v2 k2 le2 - ⟨v03,v04,rfl,rfl,⟨cs1,rfl,h3⟩,rfl⟩ -;have h2:=h2.mono le2;obtain ⟨p1,c1,p2,c2,p3,c3,rfl,h5,h6,h7⟩:=yV h3;refine yF 7 [] [32,33] rfl<|wK zExpr ?_;intro b2 hb2;refine yZ 0 (cExpr y4 p1 c1 p2 c2 p3 c3) rfl<|wC [] []<|yX<|sH 3 [1,0] [(36,vA [vT y1.Array.l,vS p y1.Subs c,vI y4.Kind,vI y4.Num,vS p1 y4.Index.Coefs c1,vI y4.Index.Const,vT y4.Read.Array.l,vS p2 y4.Read.Subs c2,vS p3 y4.Kids c3])]<|wK [vT ([]),z0,vI 0,vI 0,z0,vI 0,vT ([]),z0,z0] ?_;intro b3 hb3;refine yZ 0 [vT y1.Array.l,vS p y1.Subs c,vI y4.Kind,vI y4.Num,vS p1 y4.Index.Coefs c1,vI y4.Index.Const,vT y4.Read.Array.l,vS p2 y4.Read.Subs c2,vS p3 y4.Kids c3] rfl<|zZ rfl<|yE<|yG<|sH 1 [0] [(37,vA [vT y1.Array.l,vS p y1.Subs c,vI y4.Kind,vI y4.Num,vS p1 y4.Index.Coefs c1,vI y4.Index.Const,vT y4.Read.Array.l,vS p2 y4.Read.Subs c2,vS p3 y4.Kids c3])]<|bE N fun y6 hy2 N=>xM (zAk (zK.mk y1 y4) _ hy2 h2 h5 h6 h7) ?_;rintro I03 hs2 v2 k2 le3 - ⟨v08,rfl,rfl,rfl⟩ -;have ⟨h2,h5,h6,h7⟩:=m4 le3 h2 h5 h6 h7;refine yL [] [40] rfl<|zI<|yH N ?_ ?_
 · intro hc3 N;refine yG<|yF 1 [] [41] rfl<|yZ 3 [vT ([]),z0,vI 0,vI 0,z0,vI 0,vT ([]),z0,z0] rfl<|wC [] [(3,vF)]<|xE<|zH ?_;obtain rfl:=zB N;exact xB ⟨_,_,(.cell 3 rfl rfl (by kernel_rfl) (.tmp rfl ResV.nil)),zL,⟨_,_,rfl,rfl,⟨_,rfl,(xU ⟨_,_,_,_,rfl,(SL.nil _),(SL.nil _),(SL.nil _),(SL.nil _)⟩)⟩,rfl⟩⟩
 intro hc3 N;refine zT<|yX<|sH 1 [0] [(42,vA [vT y1.Array.l,vS p y1.Subs c,vI y4.Kind,vI y4.Num,vS p1 y4.Index.Coefs c1,vI y4.Index.Const,vT y4.Read.Array.l,vS p2 y4.Read.Subs c2,vS p3 y4.Kids c3])]<|yZ 3 [vT y1.Array.l,vS p y1.Subs c,vI y4.Kind,vI y4.Num,vS p1 y4.Index.Coefs c1,vI y4.Index.Const,vT y4.Read.Array.l,vS p2 y4.Read.Subs c2,vS p3 y4.Kids c3] rfl<|wC [] [(3,vY)]<|zI<|yS ?_;obtain rfl:=zB N;exact xB ⟨_,_,(.cell 3 rfl rfl (by kernel_rfl) (.tmp rfl ResV.nil)),zL,⟨_,_,rfl,rfl,⟨_,rfl,(xU ⟨_,_,_,_,rfl,h2,h5,h6,h7⟩)⟩,rfl⟩⟩
def fA (r:(List zG)×Bool):KT:=fun kk I' hs' v=>
  ∃ v0 v1,hs'=[]∧v=tupV [v0,v1]∧SL I' v0 r.1∧v1=.bool r.2
def sT (sizes:(List Int)) (out:List zG) (i:Int):Option (Out (List zG) ((List zG)×Bool)):=do
 if (decide (i < (sizes.length:Int))) then
  let t28←(do
    let x←idx sizes i
    if (decide (x < 0)) then
     pure true
    else
     let x1←idx sizes i
     pure (decide (x1 > 99))
      : Option Bool)
  if t28 then
   pure (.ret (([]:List zG),false))
  else
   let y←rW
   let x2←idx sizes i
   let y1←vH x2
   let out2←app 48 out ([(zG.mk ([y]:List zA) ([y1]:List zA))]:List zG)
   sT sizes out2 (W (i + 1))
 else
  pure (.done out)
 partial_fixpoint
theorem zAl (sizes:(List Int)):∀ (out:List zG) (i:Int) (o:Out (List zG) ((List zG)×Bool)),sT sizes out i=some o→∀ {B}{I0 I:Imm}{Q p c p1 c1 cs},I0.le I→(S4 I p sizes c)→(RL I cs out)→NG Q→NO Q→(∀ (I':Imm) (out1:List zG) (p2:Option Addr) (c2:Nat) (cs1:List Value),o=(.done out1)→I0.le I'→(RL I' cs1 out1)→T 43 B Q (.exit 0) I' [hO zG (vS p2 out1 c2) cs1] [(4,vS p2 out1 c2)])→(∀ r I' hs' m',o=(.ret r)→I0.le I'→RS Tryz.prog Tryz.f173 B (fA  r) I' hs' m'→T 43 B Q .ret I' hs' m')→J Tryz.prog 43 B (nav (bodyOf Tryz.f173) [1,1,1,0,1,0]) Q I [hO zG (vS p1 out c1) cs] [(0,vS p sizes c),(4,vS p1 out c1),(5,vI i)]:=by
 refine sT.partial_correctness sizes _ fun self ih out i o N B I0 I Q p c p1 c1 cs H h h3 hg ho hx hr=>xH hg ho<|yA<|yO [14] rfl<|zI<|yH N ?_ ?_
 · intro hc1 N;refine zT<|yE<|yN<|yA<|yA ?_;refine wI N [hO zG (vS p1 out c1) cs] (fun t28=>[(0,vS p sizes c),(4,vS p1 out c1),(5,vI i),(28,.bool t28)]) (fun o0 ho0=>?_) ?_
   · have H:=iS I;refine zM<|yF 2 [] [17,18] rfl ?_;obtain ⟨x,hy,N⟩:=zC ho0;refine wF rfl rfl h hy ?_;intro ad ccs hat hrep;obtain rfl:=hrep;refine xT 0 hat [vI x] (vI x) rfl<|yF 6 [] [22] rfl<|xP [22] N ?_ ?_
     · intro hc2 N;exact wC [] [(28,vY)]<|yM<|zR (ct N H)
     intro hc2 N;refine yF 8 [] [23,24] rfl<|bE N fun x1 hy1 N=>wF rfl rfl h hy1 ?_;intro ad1 ccs1 hat1 hrep1;obtain rfl:=hrep1;exact xT 0 hat1 [vI x1] (vI x1) rfl<|yL [] [28] rfl<|yM<|zR (ct N H)
   intro t28 I01 le1 hMc;have ⟨h,h3,H⟩:=m3 le1 h h3 H;refine zI<|yH hMc ?_ ?_
   · intro hc3 N;refine yG<|qB [] zG ?_;intro b1 hb1;have h5:RL I01 [] ([]:List zG):=rfl;refine yL [] [2,3] rfl<|xE<|zH<|zV<|zH<|zH<|xN 0 rfl ?_;intro I02 le2 hl01;have h6:=SL.of_frozen hl01 le2 h5;have H:=H.trans le2;exact hr _ _ _ _ (zB N).symm H ⟨_,_,(.tmp rfl (.tmp rfl ResV.nil)),zL,⟨_,_,rfl,rfl,h6,rfl⟩⟩
   intro hc3 N;refine zT<|zI ?_;obtain ⟨y,hy2,N⟩:=zC N;obtain ⟨x2,hy3,N⟩:=zC N;obtain ⟨y1,hy4,N⟩:=zC N;obtain ⟨out2,hy5,N⟩:=zC N;refine wZ [.p (vS p1 out c1) [],.x (fun I' v hx=>∃ p3 c3 cs2,v=vA (cAff y p3 c3)∧hx=[hO Int (vS p3 y.Coefs c3) cs2]∧(RL I' cs2 y.Coefs)),.x (fun I' v hx=>∃ b2,v=vS (some ⟨b2,0,none⟩) ([y]:List zA) 1∧hx=[]∧(SL I' (vS (some ⟨b2,0,none⟩) ([y]:List zA) 1) ([y]:List zA))),.p (vS p sizes c) [],.p (vI i) [],.x (fun I' v hx=>∃ ad2,v=.pointer (some ad2)∧hx=[]∧(At I' ad2 [vI x2])),.q (vI x2),.x (fun I' v hx=>∃ p4 c4 cs3,v=vA (cAff y1 p4 c4)∧hx=[hO Int (vS p4 y1.Coefs c4) cs3]∧(RL I' cs3 y1.Coefs)),.x (fun I' v hx=>∃ b3,v=vS (some ⟨b3,0,none⟩) ([y1]:List zA) 1∧hx=[]∧(SL I' (vS (some ⟨b3,0,none⟩) ([y1]:List zA) 1) ([y1]:List zA))),.x (fun I' v hx=>∃ b21 b31,v=vA [vS (some ⟨b21,0,none⟩) ([y]:List zA) 1,vS (some ⟨b31,0,none⟩) ([y1]:List zA) 1]∧hx=[]∧(SL I' (vS (some ⟨b21,0,none⟩) ([y]:List zA) 1) ([y]:List zA))∧(SL I' (vS (some ⟨b31,0,none⟩) ([y1]:List zA) 1) ([y1]:List zA))),.x (fun I' v hx=>∃ b4,v=vS (some ⟨b4,0,none⟩) ([(zG.mk ([y]:List zA) ([y1]:List zA))]:List zG) 1∧hx=[]∧(SL I' (vS (some ⟨b4,0,none⟩) ([(zG.mk ([y]:List zA) ([y1]:List zA))]:List zG) 1) ([(zG.mk ([y]:List zA) ([y1]:List zA))]:List zG))),.x (fun I' v hx=>∃ p5 c5 cs4,v=vS p5 out2 c5∧hx=[hO zG (vS p5 out2 c5) cs4]∧(RL I' cs4 out2))] [[],[],[(1,true)],[],[],[(3,false),(4,false)],[(5,false)],[(6,false)],[(7,true)],[(2,false),(8,false)],[(9,false)],[(0,false),(10,false),(13,true)]] [] [[hO zG (vS p1 out c1) cs]] [(11,true)] (yB [0]) ?_ ?_
   · refine Op<|Ox ?_<|Ox ?_<|Op<|Op<|Ox ?_<|Oq ?_<|Ox ?_<|Ox ?_<|Ox ?_<|Ox ?_<|Ox ?_<|On
     · intro I1 hf le1;refine jM [] ?_;have H:=iS I1;refine xM (oK  _ hy2 ) ?_;rintro I03 hs2 v2 k2 le3 - ⟨p3,c3,cs2,rfl,rfl,h7⟩ -;have H:=H.trans le3;exact yW [hO Int (vS p3 y.Coefs c3) cs2] H ⟨_,_,_,rfl,rfl,h7⟩
     · rintro I1 hf le1 _ _ ⟨p3,c3,cs2,rfl,rfl,h7⟩;refine yY [31] rfl ?_;have H:=iS I1;refine vZ 0 rfl ?_;intro I04 le4 hl02;have h8:=SL.of_frozen hl02 le4 h7;have H:=H.trans le4;refine nM (rc y (yC ⟨_,rfl,h8⟩) rN) ?_;intro b2 I05 le5 h10;have H:=H.trans le5;exact yW [] H ⟨_,rfl,rfl,h10⟩
     · intro I1 hf le1;refine yY [33,34] rfl ?_;have h:=h.mono le1;refine wF rfl rfl h hy3 ?_;intro ad2 ccs2 hat2 hrep2;obtain rfl:=hrep2;exact yW [] iR ⟨_,rfl,rfl,hat2⟩
     · rintro I1 hf le1 _ _ ⟨ad2,rfl,rfl,hat2⟩;exact yY [35] rfl<|xT 0 hat2 [vI x2] (vI x2) rfl<|xC iR
     · intro I1 hf le1;refine yY [36] rfl ?_;have H:=iS I1;refine xM (sA x2 _ hy4 ) ?_;rintro I06 hs2 v2 k2 le6 - ⟨p4,c4,cs3,rfl,rfl,h11⟩ -;have H:=H.trans le6;exact yW [hO Int (vS p4 y1.Coefs c4) cs3] H ⟨_,_,_,rfl,rfl,h11⟩
     · rintro I1 hf le1 _ _ ⟨p4,c4,cs3,rfl,rfl,h11⟩;refine yY [37] rfl ?_;have H:=iS I1;refine vZ 0 rfl ?_;intro I07 le7 hl04;have h12:=SL.of_frozen hl04 le7 h11;have H:=H.trans le7;refine nM (rc y1 (yC ⟨_,rfl,h12⟩) rN) ?_;intro b3 I08 le8 h14;have H:=H.trans le8;exact yW [] H ⟨_,rfl,rfl,h14⟩
     · rintro I1 hf le1 _ _ ⟨b2,rfl,rfl,h10⟩ _ _ ⟨b3,rfl,rfl,h14⟩;exact yY [32,38] rfl<|qE 10 [(39,vA [vS (some ⟨b2,0,none⟩) ([y]:List zA) 1,vS (some ⟨b3,0,none⟩) ([y1]:List zA) 1])]<|yW [] iR ⟨_,_,rfl,rfl,h10,h14⟩
     · rintro I1 hf le1 _ _ ⟨b21,b31,rfl,rfl,h101,h141⟩;refine yY [39] rfl ?_;have H:=iS I1;refine nM (rc (zG.mk ([y]:List zA) ([y1]:List zA)) (qS ⟨_,_,rfl,h101,h141⟩) rN) ?_;intro b4 I09 le9 h16;have H:=H.trans le9;exact yW [] H ⟨_,rfl,rfl,h16⟩
     rintro I1 hf le1 _ _ ⟨rfl,rfl⟩ _ _ ⟨b4,rfl,rfl,h16⟩ _ _ rfl;refine yY [30,40] rfl ?_;have h3:=iM le1 h3;obtain ⟨ccs3,k0,k01⟩:=h16;have h16:SL I1 (vS (some ⟨b4,0,none⟩) ([(zG.mk ([y]:List zA) ([y1]:List zA))]:List zG) 1) ([(zG.mk ([y]:List zA) ([y1]:List zA))]:List zG):=⟨_,k0,k01⟩;exact nO 187 2 0 rfl rfl rfl h3 (.inl k0) k01 hy5 fun p5 c5 cs4 h17=>qI (hs':=(hO zG (vS p5 out2 c5) cs4::hf)) rfl<|yW [hO zG (vS p5 out2 c5) cs4] iR ⟨_,_,_,rfl,rfl,h17⟩
   rintro I010 le10 _ _ ⟨p5,c5,cs4,rfl,rfl,h17⟩;refine yY [0,5,41] rfl ?_;have ⟨h,H⟩:=m2 le10 h H;exact yL [] [4] rfl<|zQ<|zI<|zM<|yL [] [5] rfl<|xF<|mJ<|ih out2 (W (i + 1)) _ N H h h17 hg ho hx hr
 intro hc1 N;exact tS<|yM<|hx _ _ _ _ _ (zB N).symm H h3
def nV (sizes:(List Int)):Option ((List zG)×Bool):=do
 if (decide ((sizes.length:Int) > 4)) then
  pure (([]:List zG),false)
 else
  match←sT sizes ([]:List zG) 0 with
  | .ret r0=>pure r0
  | .done out1 =>
   pure (out1,true)
theorem zCc:∀ sizes r,nV sizes=some r→∀ {I:Imm}{p c},(S4 I p sizes c)→RT 173 [vS p sizes c] I [] (fA  r):=by
 intro sizes r N I p c h;unfold nV at N;refine yI Tryz.func173 fun B=>uA []<|yX<|qB [] zG ?_;intro b hb;have h1:RL I [] ([]:List zG):=rfl;refine yL [] [4] rfl<|yE<|yO [9] rfl<|zI<|yH N ?_ ?_
 · intro hc N;refine yO [2,3] rfl<|xE<|zH<|xN 0 rfl ?_;intro I0 le hl0;have h2:=SL.of_frozen hl0 le h1;obtain rfl:=zB N;exact xB ⟨_,_,(.tmp rfl (.tmp rfl ResV.nil)),zL,⟨_,_,rfl,rfl,h2,rfl⟩⟩
 intro hc N;refine zT<|yE<|yO [5] rfl<|uV<|mH [(0,vS p sizes c),(4,vS (some ⟨b,0,none⟩) ([]:List zG) 0),(5,vI 0)] ?_;obtain ⟨o01,ho01,hMl⟩:=zC N;refine zAl sizes ([]:List zG) 0 o01 ho01 iR h h1 (fun _ _ _ h=>h) (fun _ _ h=>h) ?_ ?_
 · intro I011 out1 p2 c2 cs1 heq1 le11 h4;subst o01;refine zU<|sI [2,3] rfl<|xE<|xN 0 rfl ?_;intro I012 le12 hl07;have h18:=SL.of_frozen hl07 le12 h4;obtain rfl:=zB hMl;exact xB ⟨_,_,(.tmp rfl (.tmp rfl ResV.nil)),zL,⟨_,_,rfl,rfl,h18,rfl⟩⟩
 intro r0 I9 hs9 m9 heq9 le9 hrs9;subst heq9;refine zV<|zH ?_;obtain rfl:=zB hMl;exact xB hrs9
def fX (b0:Nat) (r:zS×zJ):KT:=fun kk I' hs' v=>
  ∃ v0 k0,hs'=[.blk b0 ⟨k0⟩]∧v=tupV [v0]∧(∃ cs,v0=.agg ⟨cs⟩∧Rp.rep I' cs r.1)∧Rp.rep I' k0 r.2
def rO (y1:(List zG)) (Body2:List zK) (n0:Int) (x6:zJ):Option ((List zK×zJ)):=do
 if (decide (n0 < 5)) then
  let (y7,y8)←mO x6 (y1.length:Int)
  let y9←pR
  let (y11,y12)←tW y9 (zS.mk y1 ([y7]:List zK))
  if y12 then
   let l←app 152 Body2 ([y7]:List zK)
   pure (l,y8)
  else
   rO y1 Body2 (W (n0 + 1)) y8
 else
  pure (Body2,x6)
 partial_fixpoint
theorem zBZ (y1:(List zG)) (Body2:List zK):∀ (n0:Int) (x6:zJ) (o:(List zK×zJ)),rO y1 Body2 n0 x6=some o→∀ {B}{I0 I:Imm}{Q}{i:Int}{x:zS}{k0:Int}{r01:Nat}{b:Nat}{p1 c1 p2 c2 p7 c7}{b1:Nat}{p14 c14 cs2 p15 c15},I0.le I→(S4 I p7 y1 c7)→(S4 I p1 x.Nest c1)→(S4 I p2 x.Body c2)→(RL I cs2 Body2)→(S4 I p15 x6.b c15)→NG Q→NO Q→(∀ (I':Imm) (Body3:List zK) (x7:zJ) (p16:Option Addr) (c16:Nat) (cs3:List Value) (p17:Option Addr) (c17:Nat),o=(Body3,x7)→I0.le I'→(RL I' cs3 Body3)→(S4 I' p17 x7.b c17)→T 81 B Q (.exit 4) I' [hO zK (vS p16 Body3 c16) cs3,hB r01 (cRd x7 p17 c17),hB b1 [vS p7 y1 c7,vS p16 Body3 c16],hB b (cPart x p1 c1 p2 c2)] [(0,vP r01 0),(2,vP b 0),(3,vI i),(4,vP b1 0),(5,vI k0)])→J Tryz.prog 81 B (nav (bodyOf Tryz.f120) [1,0,1,0,0,1,0,0,1,0,1,0,0,1,0,0,1,0]) Q I [hO zK (vS p14 Body2 c14) cs2,hB r01 (cRd x6 p15 c15),hB b1 [vS p7 y1 c7,vS p14 Body2 c14],hB b (cPart x p1 c1 p2 c2)] [(0,vP r01 0),(2,vP b 0),(3,vI i),(4,vP b1 0),(5,vI k0),(6,vI n0)]:=by
 refine rO.partial_correctness y1 Body2 _ fun self ih n0 x6 o N B I0 I Q i x k0 r01 b p1 c1 p2 c2 p7 c7 b1 p14 c14 cs2 p15 c15 H h7 h1 h2 h20 h21 hg ho hx=>xH hg ho<|yA<|yO [31] rfl<|zI<|yH N ?_ ?_
 · intro hc2 N;refine zT<|yE<|yN<|yG<|yF 4 [2] [34,37] rfl<|qH (yB [1,0,2,3] (hs':=[hB r01 (cRd x6 p15 c15),hO zK (vS p14 Body2 c14) cs2,hB b1 [vS p7 y1 c7,vS p14 Body2 c14],hB b (cPart x p1 c1 p2 c2)])) ?_;obtain ⟨⟨y7,y8⟩,hy2,N⟩:=zC N;refine rA (zDX x6 (y1.length:Int) _ hy2 h21) rfl ?_;rintro I03 hs2 v2 k2 le3 - ⟨v04,kk2,rfl,rfl,⟨cs4,rfl,h24⟩,h25⟩ -;have ⟨h20,h7,h1,h2,H⟩:=m5 le3 h20 h7 h1 h2 H;obtain ⟨p18,c18,p19,c19,p20,c20,p21,c21,rfl,h26,h27,h28,h29⟩:=tZ h24;obtain ⟨p22,c22,rfl,h30⟩:=zY h25;refine wK [vT ([]),z0,vI 0,vI 0,z0,vI 0,vT ([]),z0,z0] ?_;intro b3 hb3;refine yZ 0 (cStmt y7 p18 c18 p19 c19 p20 c20 p21 c21) rfl<|zZ rfl<|zI<|yA ?_;obtain ⟨y9,hy3,N⟩:=zC N;obtain ⟨⟨y11,y12⟩,hy4,N⟩:=zC N;refine wZ [.x (eS y9),.p (vP b1 0) [],.p (vS p7 y1 c7) [3],.p (vA (cStmt y7 p18 c18 p19 c19 p20 c20 p21 c21)) [0],.x (fun I' v hx=>∃ b4,v=vS (some ⟨b4,0,none⟩) ([y7]:List zK) 1∧hx=[]∧(SL I' (vS (some ⟨b4,0,none⟩) ([y7]:List zK) 1) ([y7]:List zK))),.x (fun I' v hx=>∃ b41,v=vA [vS p7 y1 c7,vS (some ⟨b41,0,none⟩) ([y7]:List zK) 1]∧hx=[]∧(SL I' (vS (some ⟨b41,0,none⟩) ([y7]:List zK) 1) ([y7]:List zK))),.q (.tuple ⟨[vI y11,.bool y12]⟩),.p (.tuple ⟨[vI y11,.bool y12]⟩) [],.p (vI y11) [],.p (.bool y12) [],.p (vI y11) []] [[],[],[(1,false)],[],[(3,false)],[(2,false),(4,false)],[(0,false),(5,false)],[(6,false)],[(7,false)],[(7,false)],[(8,false)]] [hB b3 (cStmt y7 p18 c18 p19 c19 p20 c20 p21 c21),hB r01 (cRd y8 p22 c22),hO zK (vS p14 Body2 c14) cs2,hB b1 [vS p7 y1 c7,vS p14 Body2 c14],hB b (cPart x p1 c1 p2 c2)] [] [(9,false)] (yB [0,1,2,3,4]) ?_ ?_
   · refine Ox ?_<|Op<|Op<|Op<|Ox ?_<|Ox ?_<|Oq ?_<|Op<|Op<|Op<|Op<|On
     · intro I1 hf le1;refine jM [] ?_;have H:=iS I1;refine xM (kF  _ hy3 ) ?_;rintro I04 hs2 v2 k2 le4 - ⟨v010,rfl,rfl,h31⟩ -;have H:=H.trans le4;obtain ⟨p23,c23,rfl⟩:=h31.form;exact yW [] H ⟨_,_,rfl,rfl,h31⟩
     · intro I1 hf le1;refine yY [43] rfl ?_;have H:=iS I1;have ⟨h26,h27,h28,h29⟩:=m4 le1 h26 h27 h28 h29;refine nM (rc y7 (xU ⟨_,_,_,_,rfl,h26,h27,h28,h29⟩) rN) ?_;intro b4 I05 le5 h33;have H:=H.trans le5;exact yW [] H ⟨_,rfl,rfl,h33⟩
     · rintro I1 hf le1 _ _ ⟨rfl,rfl⟩ _ _ ⟨b4,rfl,rfl,h33⟩;refine yY [42,44] rfl ?_;exact qE 6 [(45,vA [vS p7 y1 c7,vS (some ⟨b4,0,none⟩) ([y7]:List zK) 1])]<|yW [] iR ⟨_,rfl,rfl,h33⟩
     rintro I1 hf le1 _ _ ⟨p23,c23,rfl,rfl,h31⟩ _ _ ⟨b41,rfl,rfl,h331⟩;refine yY [40,45] rfl ?_;have H:=iS I1;have h7:=h7.mono le1;refine xM (gF y9 (zS.mk y1 ([y7]:List zK)) _ hy4 h31 h7 h331) ?_;rintro I06 hs2 v2 k2 le6 - ⟨v011,v012,rfl,rfl,rfl,rfl⟩ -;have H:=H.trans le6;exact xC H
   intro I07 le7;refine yY [0,2,3,4,5,6,7,48] rfl ?_;have ⟨h26,h27,h28,h29,h30,h20⟩:=m6 le7 h26 h27 h28 h29 h30 h20;have ⟨h7,h1,h2,H⟩:=m4 le7 h7 h1 h2 H;refine yL [] [9] rfl<|sI [49] rfl<|zI<|yH N ?_ ?_
   · intro hc3 N;refine yG<|sH 3 [3,0] [(51,vS p14 Body2 c14),(52,vA (cStmt y7 p18 c18 p19 c19 p20 c20 p21 c21))]<|qB (cStmt y7 p18 c18 p19 c19 p20 c20 p21 c21) zK ?_;intro b5 hb5;have h36:RL I07 (cStmt y7 p18 c18 p19 c19 p20 c20 p21 c21) ([y7]:List zK):=⟨(cStmt y7 p18 c18 p19 c19 p20 c20 p21 c21),_,rfl,rfl,(xU ⟨_,_,_,_,rfl,h26,h27,h28,h29⟩),rfl⟩;obtain ⟨l,hy5,N⟩:=zC N;refine nO 48 9 3 rfl rfl rfl h20 (.inr ⟨0,rfl⟩) h36 hy5 ?_;intro p24 c24 cs5 h37;exact qH (yB [1,2,3,4,5] (hs':=[hB b3 (cStmt y7 p18 c18 p19 c19 p20 c20 p21 c21),hB r01 (cRd y8 p22 c22),hO zK (vS p24 l c24) cs5,hB b1 [vS p7 y1 c7,vS p14 Body2 c14],hB b (cPart x p1 c1 p2 c2)]))<|yF 6 [] [55] rfl<|yZ 3 [vS p7 y1 c7,vS p24 l c24] rfl<|zZ rfl<|zI<|zEe<|zDt rfl<|mZ<|mZ<|xQ (zX [2,1,3,4] rfl (by decide))<|yM<|hx _ _ _ _ _ _ _ _ (zB N).symm H h37 h30
   intro hc3 N;exact zT<|zQ<|zI<|zM<|yL [] [6] rfl<|xF<|gA (zX [2,1,3,4] rfl (by decide))<|mJ<|ih (W (n0 + 1)) y8 _ N H h7 h1 h2 h20 h30 hg ho hx
 intro hc2 N;exact tS<|yM<|hx _ _ _ _ _ _ _ _ (zB N).symm H h20 h21
def rP (y1:(List zG)) (k0:Int) (Body:List zK) (x4:zJ):Option ((List zK×zJ)):=do
 if (decide (k0 > 0)) then
  let (Body3,x7)←rO y1 Body 0 x4
  rP y1 (W (k0 - 1)) Body3 x7
 else
  pure (Body,x4)
 partial_fixpoint
theorem zB0 (y1:(List zG)):∀ (k0:Int) (Body:List zK) (x4:zJ) (o:(List zK×zJ)),rP y1 k0 Body x4=some o→∀ {B}{I0 I:Imm}{Q}{i:Int}{x:zS}{r01:Nat}{b:Nat}{p1 c1 p2 c2 p7 c7}{b1:Nat}{p10 c10 cs p11 c11},I0.le I→(S4 I p7 y1 c7)→(S4 I p1 x.Nest c1)→(S4 I p2 x.Body c2)→(RL I cs Body)→(S4 I p11 x4.b c11)→NG Q→NO Q→(∀ (I':Imm) (Body1:List zK) (x5:zJ) (p12:Option Addr) (c12:Nat) (cs1:List Value) (p13:Option Addr) (c13:Nat),o=(Body1,x5)→I0.le I'→(RL I' cs1 Body1)→(S4 I' p13 x5.b c13)→T 81 B Q (.exit 2) I' [hO zK (vS p12 Body1 c12) cs1,hB r01 (cRd x5 p13 c13),hB b1 [vS p7 y1 c7,vS p12 Body1 c12],hB b (cPart x p1 c1 p2 c2)] [(0,vP r01 0),(2,vP b 0),(3,vI i),(4,vP b1 0)])→J Tryz.prog 81 B (nav (bodyOf Tryz.f120) [1,0,1,0,0,1,0,0,1,0,1,0]) Q I [hO zK (vS p10 Body c10) cs,hB r01 (cRd x4 p11 c11),hB b1 [vS p7 y1 c7,vS p10 Body c10],hB b (cPart x p1 c1 p2 c2)] [(0,vP r01 0),(2,vP b 0),(3,vI i),(4,vP b1 0),(5,vI k0)]:=by
 refine rP.partial_correctness y1 _ fun self ih k0 Body x4 o N B I0 I Q i x r01 b p1 c1 p2 c2 p7 c7 b1 p10 c10 cs p11 c11 H h7 h1 h2 h16 h17 hg ho hx=>xH hg ho<|yA<|yO [27] rfl<|zI<|yH N ?_ ?_
 · intro hc1 N;refine zT<|yE<|yN<|yO [6] rfl<|uV<|mH [(0,vP r01 0),(2,vP b 0),(3,vI i),(4,vP b1 0),(5,vI k0),(6,vI 0)] ?_;obtain ⟨o0,ho0,hMl⟩:=zC N;refine zBZ y1 Body 0 x4 o0 ho0 iR h7 h1 h2 h16 h17 (fun _ _ _ h=>hg _ _ _ h) (fun _ _ h=>ho _ _ h) ?_;intro I08 Body3 x7 p16 c16 cs3 p17 c17 heq le8 h22 h23;subst o0;have ⟨h7,h1,h2,H⟩:=m4 le8 h7 h1 h2 H;exact zU<|zQ<|zI<|zM<|yL [] [5] rfl<|xF<|mJ<|ih (W (k0 - 1)) Body3 x7 _ hMl H h7 h1 h2 h22 h23 hg ho hx
 intro hc1 N;exact tS<|yM<|hx _ _ _ _ _ _ _ _ (zB N).symm H h16 h17
def uN (x:zS) (i:Int) (x1:zJ):Option (Out (zS×zJ) (zS×zJ)):=do
 if (decide (i < 4)) then
  let (y1,y2)←mN x1
  let (y4,y5)←yT y2 ([1,2,1,3]:List Int)
  let (Body1,x5)←rP y1 y4 ([]:List zK) y5
  let y13←pR
  let (y15,y16)←tW y13 (zS.mk y1 Body1)
  let t66←(do
    if y16 then
     pure (decide (y15 ≤ 40))
    else
     pure false
      : Option Bool)
  if t66 then
   pure (.ret ((zS.mk y1 Body1),x5))
  else
   uN x (W (i + 1)) x5
 else
  pure (.done (x,x1))
 partial_fixpoint
theorem zB1 (x:zS):∀ (i:Int) (x1:zJ) (o:Out (zS×zJ) (zS×zJ)),uN x i x1=some o→∀ {B}{I0 I:Imm}{Q}  {r01:Nat}{b:Nat}{p1 c1 p2 c2 p3 c3},I0.le I→(S4 I p1 x.Nest c1)→(S4 I p2 x.Body c2)→(S4 I p3 x1.b c3)→NG Q→NO Q→(∀ (I':Imm) (x2:zS) (x3:zJ) (p4:Option Addr) (c4:Nat) (p5:Option Addr) (c5:Nat) (p6:Option Addr) (c6:Nat),o=(.done (x2,x3))→I0.le I'→(S4 I' p4 x2.Nest c4)→(S4 I' p5 x2.Body c5)→(S4 I' p6 x3.b c6)→T 81 B Q (.exit 0) I' [hB b (cPart x2 p4 c4 p5 c5),hB r01 (cRd x3 p6 c6)] [(2,vP b 0)])→(∀ r I' hs' m',o=(.ret r)→I0.le I'→RS Tryz.prog Tryz.f120 B (fX r01 r) I' hs' m'→T 81 B Q .ret I' hs' m')→J Tryz.prog 81 B (nav (bodyOf Tryz.f120) [1,0,1,0]) Q I [hB b (cPart x p1 c1 p2 c2),hB r01 (cRd x1 p3 c3)] [(0,vP r01 0),(2,vP b 0),(3,vI i)]:=by
 refine uN.partial_correctness x _ fun self ih i x1 o N B I0 I Q r01 b p1 c1 p2 c2 p3 c3 H h1 h2 h3 hg ho hx hr=>xH hg ho<|yA<|yO [17] rfl<|zI<|yH N ?_ ?_
 · intro hc N;refine zT<|yE<|yN<|yG<|yF 1 [] [20] rfl<|qH (yB [1,0] (hs':=[hB r01 (cRd x1 p3 c3),hB b (cPart x p1 c1 p2 c2)])) ?_;obtain ⟨⟨y1,y2⟩,hy,N⟩:=zC N;refine rA (zDV x1 _ hy h3) rfl ?_;rintro I0 hs2 v2 k2 le - ⟨v0,kk,rfl,rfl,h7,h8⟩ -;have ⟨h1,h2,H⟩:=m3 le h1 h2 H;obtain ⟨p7,c7,rfl⟩:=h7.form;obtain ⟨p8,c8,rfl,h9⟩:=zY h8;refine yF 3 [] [22] rfl<|wK zTwo ?_;intro b1 hb1;refine yZ 0 [vS p7 y1 c7,z0] rfl<|zZ rfl<|yE<|yG<|yF 1 [] [23] rfl<|nM (rI [1,2,1,3]) ?_;intro b2 I01 le1 h11;have ⟨h7,h9,h1,h2,H⟩:=m5 le1 h7 h9 h1 h2 H;refine qH (yB [1,0,2] (hs':=[hB r01 (cRd y2 p8 c8),hB b1 [vS p7 y1 c7,z0],hB b (cPart x p1 c1 p2 c2)])) ?_;obtain ⟨⟨y4,y5⟩,hy1,N⟩:=zC N;refine rA (xG y2 ([1,2,1,3]:List Int) _ hy1 h9 h11) rfl ?_;rintro I02 hs2 v2 k2 le2 - ⟨v02,kk1,rfl,rfl,rfl,h13⟩ -;have ⟨h7,h1,h2,H⟩:=m4 le2 h7 h1 h2 H;obtain ⟨p9,c9,rfl,h14⟩:=zY h13;refine yL [] [5] rfl<|uV<|mH [(0,vP r01 0),(2,vP b 0),(3,vI i),(4,vP b1 0),(5,vI y4)]<|zDQ zK fun h15=>?_;obtain ⟨o01,ho01,hMl1⟩:=zC N;refine zB0 y1 y4 ([]:List zK) y5 o01 ho01 iR h7 h1 h2 h15 h14 (fun _ _ _ h=>hg _ _ _ h) (fun _ _ h=>ho _ _ h) ?_;intro I09 Body1 x5 p12 c12 cs1 p13 c13 heq1 le9 h18 h19;subst o01;have ⟨h7,h1,h2,H⟩:=m4 le9 h7 h1 h2 H;refine zU<|yE<|mK 0 rfl ?_;intro I010 le10 hl02;have h38:=SL.of_frozen hl02 le10 h18;have ⟨h19,h7,h1,h2,H⟩:=m5 le10 h19 h7 h1 h2 H;obtain ⟨y13,hy6,N⟩:=zC hMl1;obtain ⟨⟨y15,y16⟩,hy7,N⟩:=zC N;refine wZ [.x (eS y13),.p (vA [vS p7 y1 c7,vS p12 Body1 c12]) [1],.q (.tuple ⟨[vI y15,.bool y16]⟩),.p (.tuple ⟨[vI y15,.bool y16]⟩) [],.p (vI y15) [],.p (.bool y16) [],.p (vI y15) []] [[],[],[(0,false),(1,false)],[(2,false)],[(3,false)],[(3,false)],[(4,false)]] [hB r01 (cRd x5 p13 c13),hB b1 [vS p7 y1 c7,vS p12 Body1 c12],hB b (cPart x p1 c1 p2 c2)] [] [(5,false),(6,false)] (yB [0,1,2]) ?_ ?_
   · refine Ox ?_<|Op<|Oq ?_<|Op<|Op<|Op<|Op<|On
     · intro I1 hf le1;refine jM [] ?_;have H:=iS I1;refine xM (kF  _ hy6 ) ?_;rintro I011 hs2 v2 k2 le11 - ⟨v013,rfl,rfl,h39⟩ -;have H:=H.trans le11;obtain ⟨p25,c25,rfl⟩:=h39.form;exact yW [] H ⟨_,_,rfl,rfl,h39⟩
     rintro I1 hf le1 _ _ ⟨p25,c25,rfl,rfl,h39⟩;refine yY [57,58] rfl ?_;have H:=iS I1;have ⟨h7,h38⟩:=m2 le1 h7 h38;refine xM (gF y13 (zS.mk y1 Body1) _ hy7 h39 h7 h38) ?_;rintro I012 hs2 v2 k2 le12 - ⟨v014,v015,rfl,rfl,rfl,rfl⟩ -;have H:=H.trans le12;exact xC H
   intro I013 le13;refine yY [0,2,3,4,10,61] rfl ?_;have ⟨h19,h7,h38,h1,h2,H⟩:=m6 le13 h19 h7 h38 h1 h2 H;refine yL [] [11] rfl<|zI<|yA ?_;refine wI N [hB r01 (cRd x5 p13 c13),hB b1 [vS p7 y1 c7,vS p12 Body1 c12],hB b (cPart x p1 c1 p2 c2)] (fun t66=>[(0,vP r01 0),(2,vP b 0),(3,vI i),(4,vP b1 0),(66,.bool t66)]) (fun o02 ho02=>?_) ?_
   · have H:=iS I013;refine zM<|yF 2 [] [63] rfl<|xP [63] ho02 ?_ ?_
     · intro hc4 N;exact yL [] [66] rfl<|yM<|zR (ct N H)
     intro hc4 N;exact wC [] [(66,vF)]<|yM<|zR (ct N H)
   intro t66 I014 le14 hMc;have ⟨h19,h7,h38,h1,h2,H⟩:=m6 le14 h19 h7 h38 h1 h2 H;refine zI<|yH hMc ?_ ?_
   · intro hc5 N;exact yG<|sH 1 [1] [(67,vA [vS p7 y1 c7,vS p12 Body1 c12])]<|yZ 2 [vS p7 y1 c7,vS p12 Body1 c12] rfl<|zZ rfl<|xE<|zV<|zH<|zH<|hr _ _ _ _ (zB N).symm H ⟨_,_,(.cell 2 rfl rfl (by kernel_rfl) ResV.nil),(zX [0] rfl (by decide)),⟨_,_,rfl,rfl,⟨_,rfl,(oJ ⟨_,_,rfl,h7,h38⟩)⟩,(yR ⟨_,rfl,h19⟩)⟩⟩
   intro hc5 N;exact zT<|zQ<|zI<|zM<|yL [] [3] rfl<|xF<|gA (zX [2,0] rfl (by decide))<|mJ<|ih (W (i + 1)) x5 _ N H h1 h2 h19 hg ho hx hr
 intro hc N;exact tS<|yM<|hx _ _ _ _ _ _ _ _ _ (zB N).symm H h1 h2 h3
def pV (r0:zJ):Option (zS×zJ):=do
 match←uN (zS.mk ([]:List zG) ([]:List zK)) 0 r0 with
 | .ret r0=>pure r0
 | .done (x2,x3) =>
  let (y18,y19)←qN (⟨[65,91,105,93,61,40,65,91,105,93,43,123,105,125,41]⟩:Str)
  let (y21,y22)←nV ([4]:List Int)
  pure ((zS.mk y21 ([y18]:List zK)),x3)
theorem zDZ:∀ r0 r,pV r0=some r→∀ {I:Imm}{r01:Nat}{p c},(S4 I p r0.b c)→RT 120 [vP r01 0] I [hB r01 (cRd r0 p c)] (fX r01 r):=by
 intro r0 r N I r01 p c h;unfold pV at N;refine yI Tryz.func120 fun B=>yG<|wK zTwo ?_;intro b hb;refine zZ rfl<|yE<|yO [3] rfl<|uV<|mH [(0,vP r01 0),(2,vP b 0),(3,vI 0)] ?_;obtain ⟨o03,ho03,hMl2⟩:=zC N;refine zB1 (zS.mk ([]:List zG) ([]:List zK)) 0 r0 o03 ho03 iR (SL.nil _) (SL.nil _) h (fun _ _ _ h=>h) (fun _ _ h=>h) ?_ ?_
 · intro I015 x2 x3 p4 c4 p5 c5 p6 c6 heq3 le15 h4 h5 h6;subst o03;refine zU<|yE<|zM ?_;obtain ⟨⟨y18,y19⟩,hy8,N⟩:=zC hMl2;refine xM (gZ (⟨[65,91,105,93,61,40,65,91,105,93,43,123,105,125,41]⟩:Str) _ hy8 ) ?_;rintro I016 hs2 v2 k2 le16 - ⟨v016,v017,rfl,rfl,⟨cs6,rfl,h42⟩,rfl⟩ -;have h6:=h6.mono le16;obtain ⟨p26,c26,p27,c27,p28,c28,p29,c29,rfl,h44,h45,h46,h47⟩:=tZ h42;refine yF 4 [] [70,71] rfl<|wK [vT ([]),z0,vI 0,vI 0,z0,vI 0,vT ([]),z0,z0] ?_;intro b6 hb6;refine yZ 0 (cStmt y18 p26 c26 p27 c27 p28 c28 p29 c29) rfl<|wC [] []<|yX<|nM (rI [4]) ?_;intro b7 I017 le17 h49;have ⟨h44,h45,h46,h47,h6⟩:=m5 le17 h44 h45 h46 h47 h6;obtain ⟨⟨y21,y22⟩,hy9,N⟩:=zC N;refine xM (zCc ([4]:List Int) _ hy9 h49) ?_;rintro I018 hs2 v2 k2 le18 - ⟨v022,v023,rfl,rfl,h50,rfl⟩ -;have ⟨h44,h45,h46,h47,h6⟩:=m5 le18 h44 h45 h46 h47 h6;obtain ⟨p30,c30,rfl⟩:=h50.form;refine yL [] [14] rfl<|yX<|sH 2 [0] [(77,vS p30 y21 c30),(78,vA (cStmt y18 p26 c26 p27 c27 p28 c28 p29 c29))]<|qB (cStmt y18 p26 c26 p27 c27 p28 c28 p29 c29) zK ?_;intro b8 hb8;have h52:RL I018 (cStmt y18 p26 c26 p27 c27 p28 c28 p29 c29) ([y18]:List zK):=⟨(cStmt y18 p26 c26 p27 c27 p28 c28 p29 c29),_,rfl,rfl,(xU ⟨_,_,_,_,rfl,h44,h45,h46,h47⟩),rfl⟩;refine yF 4 [] [80] rfl<|yZ 2 [vS p30 y21 c30,vS (some ⟨b8,0,none⟩) ([y18]:List zK) 1] rfl<|zZ rfl<|xE<|xN 0 rfl ?_;intro I019 le19 hl04;have h53:=SL.of_frozen hl04 le19 h52;have ⟨h50,h6⟩:=m2 le19 h50 h6;obtain rfl:=zB N;exact xB ⟨_,_,(.cell 1 rfl rfl (by kernel_rfl) ResV.nil),(zX [2] rfl (by decide)),⟨_,_,rfl,rfl,⟨_,rfl,(oJ ⟨_,_,rfl,h50,h53⟩)⟩,(yR ⟨_,rfl,h6⟩)⟩⟩
 intro r0 I9 hs9 m9 heq9 le9 hrs9;subst heq9;refine zV<|zH ?_;obtain rfl:=zB hMl2;exact xB hrs9
def zCH (b0:Nat) (r:zO×zJ):KT:=fun kk I' hs' v=>
  ∃ v0 k0,hs'=[.blk b0 ⟨k0⟩]∧v=tupV [v0]∧(∃ cs,v0=.agg ⟨cs⟩∧Rp.rep I' cs r.1)∧Rp.rep I' k0 r.2
def tI (i:Int) (Parts:List zS) (x:zJ):Option ((List zS×zJ)):=do
 if (decide (i > 0)) then
  let (y5,y6)←pV x
  let l←app 48 Parts ([y5]:List zS)
  tI (W (i - 1)) l y6
 else
  pure (Parts,x)
 partial_fixpoint
theorem zB2 :∀ (i:Int) (Parts:List zS) (x:zJ) (o:(List zS×zJ)),tI i Parts x=some o→∀ {B}{I0 I:Imm}{Q}{y:(List zN)}{r01:Nat}{b:Nat}{p1 c1}{b1:Nat}{p3 c3 cs p4 c4},I0.le I→(S4 I p1 y c1)→(RL I cs Parts)→(S4 I p4 x.b c4)→NG Q→NO Q→(∀ (I':Imm) (Parts1:List zS) (x1:zJ) (p5:Option Addr) (c5:Nat) (cs1:List Value) (p6:Option Addr) (c6:Nat),o=(Parts1,x1)→I0.le I'→(RL I' cs1 Parts1)→(S4 I' p6 x1.b c6)→T 29 B Q (.exit 0) I' [hO zS (vS p5 Parts1 c5) cs1,hB r01 (cRd x1 p6 c6),hB b1 [vS p1 y c1,vS p5 Parts1 c5],hB b zTwo] [(2,vP b 0),(3,vP b1 0)])→J Tryz.prog 29 B (nav (bodyOf Tryz.f59) [1,1,0,1,0]) Q I [hO zS (vS p3 Parts c3) cs,hB r01 (cRd x p4 c4),hB b1 [vS p1 y c1,vS p3 Parts c3],hB b zTwo] [(0,vP r01 0),(2,vP b 0),(3,vP b1 0),(4,vI i)]:=by
 refine tI.partial_correctness  _ fun self ih i Parts x o N B I0 I Q y r01 b p1 c1 b1 p3 c3 cs p4 c4 H h1 h8 h9 hg ho hx=>xH hg ho<|yA<|yO [11] rfl<|zI<|yH N ?_ ?_
 · intro hc N;refine zT<|yE<|yN ?_;obtain ⟨⟨y5,y6⟩,hy2,N⟩:=zC N;obtain ⟨l,hy3,N⟩:=zC N;refine wZ [.p (vP b1 1) [],.p (vS p3 Parts c3) [0],.p (vP r01 0) [],.x (fun I' v hx=>∃ p7 c7 p8 c8 p9 c9,v=vA (cPart y5 p7 c7 p8 c8)∧hx=[hB r01 (cRd y6 p9 c9)]∧(S4 I' p7 y5.Nest c7)∧(S4 I' p8 y5.Body c8)∧(S4 I' p9 y6.b c9)),.x (fun I' v hx=>∃ b3,v=vS (some ⟨b3,0,none⟩) ([y5]:List zS) 1∧hx=[]∧(SL I' (vS (some ⟨b3,0,none⟩) ([y5]:List zS) 1) ([y5]:List zS))),.x (fun I' v hx=>∃ p10 c10 cs3,v=vS p10 l c10∧hx=[hO zS (vS p10 l c10) cs3]∧(RL I' cs3 l))] [[],[(0,false)],[],[(2,false),(8,true)],[(3,false)],[(1,false),(4,false),(9,true)]] [hB b1 [vS p1 y c1,vS p3 Parts c3],hB b zTwo] [[hB r01 (cRd x p4 c4)],[hO zS (vS p3 Parts c3) cs]] [(3,true),(5,true)] (yB [2,3,1,0]) ?_ ?_
   · refine Op<|Op<|Op<|Ox ?_<|Ox ?_<|Ox ?_<|On
     · rintro I1 hf le1 _ _ ⟨rfl,rfl⟩ _ _ rfl;refine yY [16] rfl ?_;have H:=iS I1;have h9:=h9.mono le1;refine rA (zDZ x _ hy2 h9) rfl ?_;rintro I03 hs2 v2 k2 le3 - ⟨v03,kk1,rfl,rfl,⟨cs2,rfl,h12⟩,h13⟩ -;have H:=H.trans le3;obtain ⟨p7,c7,p8,c8,rfl,h14,h15⟩:=mC h12;obtain ⟨p9,c9,rfl,h16⟩:=zY h13;exact yW [hB r01 (cRd y6 p9 c9)] H ⟨_,_,_,_,_,_,rfl,rfl,h14,h15,h16⟩
     · rintro I1 hf le1 _ _ ⟨p7,c7,p8,c8,p9,c9,rfl,rfl,h14,h15,h16⟩;refine yY [17] rfl ?_;have H:=iS I1;refine nM (rc y5 (oJ ⟨_,_,rfl,h14,h15⟩) rN) ?_;intro b3 I04 le4 h18;have H:=H.trans le4;exact yW [] H ⟨_,rfl,rfl,h18⟩
     rintro I1 hf le1 _ _ ⟨rfl,rfl⟩ _ _ ⟨b3,rfl,rfl,h18⟩ _ _ rfl;refine yY [15,18] rfl ?_;have h8:=iM le1 h8;obtain ⟨ccs,k0,k01⟩:=h18;have h18:SL I1 (vS (some ⟨b3,0,none⟩) ([y5]:List zS) 1) ([y5]:List zS):=⟨_,k0,k01⟩;exact nO 36 2 0 rfl rfl rfl h8 (.inl k0) k01 hy3 fun p10 c10 cs3 h19=>qI (hs':=(hO zS (vS p10 l c10) cs3::hB b1 [vS p1 y c1,vS p3 Parts c3]::hB b zTwo::hf)) rfl<|yW [hO zS (vS p10 l c10) cs3] iR ⟨_,_,_,rfl,rfl,h19⟩
   rintro I05 le5 _ _ ⟨p7,c7,p8,c8,p9,c9,rfl,rfl,h14,h15,h16⟩ _ _ ⟨p10,c10,cs3,rfl,rfl,h19⟩;refine yY [0,2,3,4,19] rfl ?_;have ⟨h1,H⟩:=m2 le5 h1 H;exact yF 7 [] [20] rfl<|yZ 2 [vS p1 y c1,vS p10 l c10] rfl<|zZ rfl<|zQ<|zI<|zM<|yL [] [4] rfl<|xF<|mJ<|ih (W (i - 1)) l y6 _ N H h1 h19 h16 hg ho hx
 intro hc N;exact tS<|yM<|hx _ _ _ _ _ _ _ _ (zB N).symm H h8 h9
def pW (r0:zJ):Option (zO×zJ):=do
 let y←pR
 let (y2,y3)←yT r0 ([1,2,1,3]:List Int)
 let (Parts1,x1)←tI y2 ([]:List zS) y3
 let y7←uQ (zO.mk y Parts1)
 if y7 then
  pure ((zO.mk y Parts1),x1)
 else
  let y8←pR
  let l1←slc Parts1 0 1
  pure ((zO.mk y8 l1),x1)
theorem zD0:∀ r0 r,pW r0=some r→∀ {I:Imm}{r01:Nat}{p c},(S4 I p r0.b c)→RT 59 [vP r01 0] I [hB r01 (cRd r0 p c)] (zCH r01 r):=by
 intro r0 r N I r01 p c h;unfold pW at N;refine yI Tryz.func59 fun B=>?_;have H:=iS I;refine yG<|wK zTwo ?_;intro b hb;refine zZ rfl<|yX<|bE N fun y hy N=>xM (kF  _ hy ) ?_;rintro I0 hs2 v2 k2 le - ⟨v0,rfl,rfl,h1⟩ -;have ⟨h,H⟩:=m2 le h H;obtain ⟨p1,c1,rfl⟩:=h1.form;refine yF 2 [] [6] rfl<|wK zTwo ?_;intro b1 hb1;refine yZ 0 [vS p1 y c1,z0] rfl<|zZ rfl<|yE<|yG<|yF 1 [] [7] rfl<|nM (rI [1,2,1,3]) ?_;intro b2 I01 le1 h3;have ⟨h1,h,H⟩:=m3 le1 h1 h H;refine qH (yB [2,0,1] (hs':=[hB r01 (cRd r0 p c),hB b1 [vS p1 y c1,z0],hB b zTwo])) ?_;obtain ⟨⟨y2,y3⟩,hy1,N⟩:=zC N;refine rA (xG r0 ([1,2,1,3]:List Int) _ hy1 h h3) rfl ?_;rintro I02 hs2 v2 k2 le2 - ⟨v01,kk,rfl,rfl,rfl,h5⟩ -;have ⟨h1,H⟩:=m2 le2 h1 H;obtain ⟨p2,c2,rfl,h6⟩:=zY h5;refine yL [] [4] rfl<|uV<|mH [(0,vP r01 0),(2,vP b 0),(3,vP b1 0),(4,vI y2)]<|zDQ zS fun h7=>?_;obtain ⟨o0,ho0,hMl⟩:=zC N;refine zB2 y2 ([]:List zS) y3 o0 ho0 iR h1 h7 h6 (fun _ _ _ h=>h) (fun _ _ h=>h) ?_;intro I06 Parts1 x1 p5 c5 cs1 p6 c6 heq le6 h10 h11;subst o0;have ⟨h1,H⟩:=m2 le6 h1 H;refine zU<|yE<|yG<|sH 1 [2] [(21,vA [vS p1 y c1,vS p5 Parts1 c5])]<|vZ 0 rfl ?_;intro I07 le7 hl02;have h20:=SL.of_frozen hl02 le7 h10;have ⟨h1,h11,H⟩:=m3 le7 h1 h11 H;obtain ⟨y7,hy4,N⟩:=zC hMl;refine uB (jH (zO.mk y Parts1) _ hy4 h1 h20) ?_;intro I08 le8;have ⟨h11,h1,h20,H⟩:=m4 le8 h11 h1 h20 H;refine zZ rfl<|zI<|yH N ?_ ?_
 · intro hc1 N;refine yG<|sH 1 [1] [(23,vA [vS p1 y c1,vS p5 Parts1 c5])]<|yZ 2 [vS p1 y c1,vS p5 Parts1 c5] rfl<|zZ rfl<|xE<|zH ?_;obtain rfl:=zB N;exact xB ⟨_,_,(.cell 2 rfl rfl (by kernel_rfl) ResV.nil),(zX [0] rfl (by decide)),⟨_,_,rfl,rfl,⟨_,rfl,(uU ⟨_,_,rfl,h1,h20⟩)⟩,(yR ⟨_,rfl,h11⟩)⟩⟩
 intro hc1 N;refine zT<|zI<|yA ?_;obtain ⟨y8,hy5,N⟩:=zC N;obtain ⟨l1,hy6,N⟩:=zC N;refine wZ [.x (eS y8),.p (vP b1 1) [],.p (vS p5 Parts1 c5) [1],.x (eS l1),.x (fun I' v hx=>∃ p111 c111 p121 c121,v=vA [vS p111 y8 c111,vS p121 l1 c121]∧hx=[]∧(S4 I' p111 y8 c111)∧(S4 I' p121 l1 c121))] [[],[],[(1,false)],[(2,false)],[(0,false),(3,false)]] [hB r01 (cRd x1 p6 c6),hB b1 [vS p1 y c1,vS p5 Parts1 c5],hB b zTwo] [] [(4,false)] (yB [0,1,2]) ?_ ?_
 · refine Ox ?_<|Op<|Op<|Ox ?_<|Ox ?_<|On
   · intro I1 hf le1;refine jM [] ?_;have H:=iS I1;refine xM (kF  _ hy5 ) ?_;rintro I09 hs2 v2 k2 le9 - ⟨v08,rfl,rfl,h22⟩ -;have H:=H.trans le9;obtain ⟨p11,c11,rfl⟩:=h22.form;exact yW [] H ⟨_,_,rfl,rfl,h22⟩
   · intro I1 hf le1;refine yY [26] rfl ?_;have h20:=h20.mono le1;refine zJP rfl h20 hy6 ?_;intro v09 h23;obtain ⟨p12,c12,rfl⟩:=h23.form;exact yW [] iR ⟨_,_,rfl,rfl,h23⟩
   rintro I1 hf le1 _ _ ⟨p11,c11,rfl,rfl,h22⟩ _ _ ⟨p12,c12,rfl,rfl,h23⟩;exact yY [24,27] rfl<|qE 5 [(28,vA [vS p11 y8 c11,vS p12 l1 c12])]<|yW [] iR ⟨_,_,_,_,rfl,rfl,h22,h23⟩
 rintro I010 le10 _ _ ⟨p111,c111,p121,c121,rfl,rfl,h221,h231⟩;refine yY [2,28] rfl ?_;have h11:=h11.mono le10;refine yZ 2 [vS p111 y8 c111,vS p121 l1 c121] rfl<|zZ rfl<|zI<|yS ?_;obtain rfl:=zB N;exact xB ⟨_,_,(.cell 2 rfl rfl (by kernel_rfl) ResV.nil),(zX [0] rfl (by decide)),⟨_,_,rfl,rfl,⟨_,rfl,(uU ⟨_,_,rfl,h221,h231⟩)⟩,(yR ⟨_,rfl,h11⟩)⟩⟩
def tY (n0:Int) (low:Int) (high:Int):Option (Bool):=do
 let t6←(do
   if (decide (low ≤ n0)) then
    pure (decide (n0 ≤ high))
   else
    pure false
     : Option Bool)
 pure (id t6)
theorem qV:∀ n0 low high r,tY n0 low high=some r→∀ {I:Imm} ,RT 84 [vI n0,vI low,vI high] I [] (zP  r):=by
 intro n0 low high r N I;unfold tY at N;refine yI Tryz.func84 fun B=>?_;have H:=iS I;refine uA []<|zI<|yA ?_;refine wI N [] (fun t6=>[(6,.bool t6)]) (fun o0 ho0=>?_) ?_
 · have H:=iS I;refine zM<|yF 4 [] [10] rfl<|xP [10] ho0 ?_ ?_
   · intro hc N;exact yL [] [6] rfl<|yM<|zR (ct N H)
   intro hc N;exact wC [] [(6,vF)]<|yM<|zR (ct N H)
 intro t6 I0 le hMc;refine zI<|yS ?_;obtain rfl:=zB hMc;exact wM
def oV (hsF:List HA) (r:Int):KT:=fun kk I' hs' v=>
  ∃ v0,hsF=hs'∧v=tupV [v0]∧v0=.int .i64 r
def xV (s:(List Int)) (f0:(Int→Option Bool)) (t8:Int):Option (Out Unit (Int)):=do
 if (decide (t8 < (s.length:Int))) then
  let x←idx s t8
  let y←f0 x
  if y then
   pure (.ret t8)
  else
   xV s f0 (W (t8 + 1))
 else
  pure (.done ())
 partial_fixpoint
theorem kU (s:(List Int)) (f0:(Int→Option Bool)):∀ (t8:Int) (o:Out Unit (Int)),xV s f0 t8=some o→∀ {B}{I0 I:Imm}{Q p c}{fv:Value}{hsF:List HA},I0.le I→(S4 I p s c)→(FV1 Tryz.prog I hsF fv f0)→NG Q→NO Q→(∀ (I':Imm) ,o=(.done ())→I0.le I'→T 19 B Q (.exit 0) I' hsF [])→(∀ r I' hs' m',o=(.ret r)→I0.le I'→RS Tryz.prog Tryz.f136 B (oV hsF r) I' hs' m'→T 19 B Q .ret I' hs' m')→J Tryz.prog 19 B (nav (bodyOf Tryz.f136) [1,0,1,0]) Q I hsF [(0,vS p s c),(1,fv),(7,vI (s.length:Int)),(8,vI t8)]:=by
 refine xV.partial_correctness s f0 _ fun self ih t8 o N B I0 I Q p c fv hsF H h h1 hg ho hx hr=>xH hg ho<|yO [9] rfl<|yE<|yH N ?_ ?_
 · intro hc N;refine zT<|yE<|yN<|yO [5] rfl<|yX<|yF 3 [] [11,12,13] rfl<|bE N fun x hy N=>wF rfl rfl h hy ?_;intro ad ccs hat hrep;obtain rfl:=hrep;refine xT 0 hat [vI x] (vI x) rfl<|bE N fun y hy1 N=>zGV rfl rfl h1 hy1 rfl (List.append_nil _).symm ?_;rintro I0 v0 le rfl;refine qI (hs':=hsF) (List.append_nil _) ?_;have ⟨h,h1,H⟩:=m3 le h h1 H;refine zZ rfl<|zI<|yH N ?_ ?_
   · intro hc1 N;exact yO [4] rfl<|xE<|zV<|zH<|zH<|hr _ _ _ _ (zB N).symm H ⟨_,_,(.tmp rfl ResV.nil),(fun _ h=>h),⟨_,rfl,rfl,rfl⟩⟩
   intro hc1 N;exact zT<|zQ<|zI<|zM<|yL [] [8] rfl<|xF<|mJ<|ih (W (t8 + 1)) _ N H h h1 hg ho hx hr
 intro hc N;exact tS<|yM<|hx _  (zB N).symm H
def sU (s:(List Int)) (f0:(Int→Option Bool)):Option (Int):=do
 match←xV s f0 0 with
 | .ret r0=>pure r0
 | .done _ =>
  pure (-1)
theorem jX:∀ s f0 r,sU s f0=some r→∀ {I:Imm}{p c}{fv:Value}{hsF:List HA},(S4 I p s c)→(FV1 Tryz.prog I hsF fv f0)→RT 136 [vS p s c,fv] I hsF (oV hsF r):=by
 intro s f0 r N I p c fv hsF h h1;unfold sU at N;refine yI Tryz.func136 fun B=>uA []<|yE<|yO [7,8] rfl<|uV<|mH [(0,vS p s c),(1,fv),(7,vI (s.length:Int)),(8,vI 0)] ?_;obtain ⟨o0,ho0,hMl⟩:=zC N;refine kU s f0 0 o0 ho0 iR h h1 (fun _ _ _ h=>h) (fun _ _ h=>h) ?_ ?_
 · intro I01  heq le1;subst o0;refine zU<|sI [4] rfl<|zI<|yS ?_;obtain rfl:=zB hMl;exact xB ⟨_,_,(.tmp rfl ResV.nil),(fun _ h=>h),⟨_,rfl,rfl,rfl⟩⟩
 intro r0 I9 hs9 m9 heq9 le9 hrs9;subst heq9;refine zV<|zH ?_;obtain rfl:=zB hMl;exact xB hrs9
end Go.LN
