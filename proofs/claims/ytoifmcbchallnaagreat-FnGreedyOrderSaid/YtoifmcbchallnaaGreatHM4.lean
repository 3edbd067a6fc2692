/- Helper of the proof (see the last text). -/
import Derived.Test.YtoifmcbchallnaaGreatHM3
set_option linter.unusedVariables false
set_option linter.unusedSimpArgs false
namespace Go.LN
open Go.Proofs
set_option maxRecDepth 20000
def mV (n0:Int) (name:Str):Option (Str):=do
 let (n01,sign)←(do
   if (decide (n0 < 0)) then
    pure ((W (0 - n0)),(⟨[45]⟩:Str))
   else
    pure (n0,(⟨[43]⟩:Str))
     : Option (Int×Str))
 if (name.l == ([]:List UInt8)) then
  let y←rE n01
  let s←cat sign y
  pure (id s)
 else
  if (n01 == 1) then
   let s1←cat sign name
   pure (id s1)
  else
   let y1←rE n01
   let s2←cat sign y1
   let s3←cat s2 (⟨[42]⟩:Str)
   let s4←cat s3 name
   pure (id s4)
theorem zAj:∀ n0 name r,mV n0 name=some r→∀ {I:Imm} ,Ret Tryz.prog 190 [vI n0,vT name.l] I [] (sZ  r):=by
 intro n0 name r N I;unfold mV at N;refine yA (fn:=Tryz.f190) (c:=(bodyOf Tryz.f190)) Tryz.func190 rfl rfl ?_;rintro B - -;have H:=iS I;refine yE []<|wR [(5,vT ([43]))]<|yI<|yE [(7,.bool (decide (n0 < 0)))]<|zD ?_;obtain ⟨o0,ho0,hMc⟩:=zC N;refine yU (fun I' hs' m'=>∃ (n01:Int) (sign:Str),o0=(n01,sign)∧I.le I'∧hs'=[]∧m'=[(0,vI n01),(1,vT name.l),(5,vT sign.l)]) ?_ ?_
 · have H:=iS I;refine yM ho0 ?_ ?_
   · intro hc N;exact yE [(5,vT ([45]))]<|zD<|zQ<|yF [] [(0,vI (W (0 - n0)))]<|yR [(0,vI (W (0 - n0))),(1,vT name.l),(5,vT ([45]))]<|zY ⟨_,_,(zB N).symm,H,rfl,rfl⟩
   intro hc N;exact zX<|yR [(0,vI n0),(1,vT name.l),(5,vT ([43]))]<|zY ⟨_,_,(zB N).symm,H,rfl,rfl⟩
 rintro I0 hs2 m2 ⟨n01,sign,heq,le,rfl,rfl⟩;subst o0;refine yI<|yE [(11,.bool (name.l == ([]:List UInt8)))]<|zD<|yM hMc ?_ ?_
 · intro hc1 N;refine yO<|yH 2 [] [(12,vT sign.l),(13,vI n01)]<|bE N fun y hy N=>xW (fT n01 _ hy ) ?_;rintro I01 hs2 v2 k2 le1 - ⟨v0,rfl,rfl,rfl⟩ -;obtain ⟨s,hy1,N⟩:=zC N;refine fN rfl hy1<|yF [] [(4,vT s.l)]<|zD<|yC<|zM ?_;obtain rfl:=zB N;exact wY
 intro hc1 N;refine zX<|yI<|yE [(17,.bool (n01 == 1))]<|zD<|yM N ?_ ?_
 · intro hc2 N;refine yO<|yH 2 [] [(18,vT sign.l),(19,vT name.l)]<|bE N fun s1 hy2 N=>fN rfl hy2<|yF [] [(4,vT s1.l)]<|zD<|yC<|zM ?_;obtain rfl:=zB N;exact wY
 intro hc2 N;refine zX<|xI<|yH 2 [] [(21,vT sign.l),(22,vI n01)]<|bE N fun y1 hy3 N=>xW (fT n01 _ hy3 ) ?_;rintro I02 hs2 v2 k2 le2 - ⟨v01,rfl,rfl,rfl⟩ -;obtain ⟨s2,hy4,N⟩:=zC N;refine fN rfl hy4<|bE N fun s3 hy5 N=>fN rfl hy5<|yH 6 [] [(26,vT name.l)]<|bE N fun s4 hy6 N=>fN rfl hy6<|yF [] [(4,vT s4.l)]<|zD<|yC ?_;obtain rfl:=zB N;exact wY
def qM (a0:zA) (out:Str) (i:Int):Option (Str):=do
 if (decide (i < (a0.Coefs.length:Int))) then
  let x←idx a0.Coefs i
  let out2←(do
    if (x != 0) then
     let x1←idx a0.Coefs i
     let s←sslc (⟨[105,106,107,108]⟩:Str) i (W (i + 1))
     let y←mV x1 s
     let s1←cat out y
     pure (id s1)
    else
     pure (id out)
      : Option Str)
  qM a0 out2 (W (i + 1))
 else
  pure (id out)
 partial_fixpoint
theorem zC1 (a0:zA):∀ (out:Str) (i:Int) (o:Str),qM a0 out i=some o→∀ {B}{I0 I:Imm}{Q p c}{b:Nat},I0.le I→(S4 I p a0.Coefs c)→NG Q→NO Q→(∀ (I':Imm) (out1:Str),o=out1→I0.le I'→T 46 B Q (.exit 0) I' [hB b (cAff a0 p c)] [(1,vP b 0),(3,vT out1.l)])→J Tryz.prog 46 B (nav (bodyOf Tryz.f184) [1,1,0,1,0]) Q I [hB b (cAff a0 p c)] [(1,vP b 0),(3,vT out.l),(4,vI i)]:=by
 refine qM.partial_correctness a0 _ fun self ih out i o N B I0 I Q p c b H h hg ho hx=>yY hg ho<|yK<|yO<|yF [0] [(9,.bool (decide (i < (a0.Coefs.length:Int))))]<|zD<|yM N ?_ ?_
 · intro hc N;refine zX<|yI<|zV<|yO<|yH 3 [0] [(13,vS p a0.Coefs c),(14,vI i)]<|bE N fun x hy N=>xV rfl rfl h hy ?_;intro ad ccs hat hrep;obtain rfl:=hrep;refine xR 0 hat [vI x] (vI x) rfl<|yF [] [(17,.bool (x != 0))]<|zD ?_;obtain ⟨o0,ho0,hMc⟩:=zC N;refine yU (fun I' hs' m'=>∃ (out2:Str),o0=out2∧I.le I'∧hs'=[hB b (cAff a0 p c)]∧m'=[(1,vP b 0),(3,vT out2.l),(4,vI i)]) ?_ ?_
   · have H:=iS I;refine yM ho0 ?_ ?_
     · intro hc1 N;obtain ⟨x1,hy1,N⟩:=zC N;obtain ⟨s,hy2,N⟩:=zC N;obtain ⟨y,hy3,N⟩:=zC N;obtain ⟨s1,hy4,N⟩:=zC N;refine vQ [.p (vT out.l) [],.p (vP b 0) [],.p (vS p a0.Coefs c) [0],.p (vI i) [],.x (fun I' v hx=>∃ ad1,v=.pointer (some ad1)∧hx=[]∧(At I' ad1 [vI x1])),.q (vI x1),.p (vI i) [],.p (vI i) [],.p (vI (W (i + 1))) [],.q (vT s.l),.q (vT y.l),.q (vT s1.l)] [[],[],[(1,false)],[],[(2,false),(3,false)],[(4,false)],[],[],[(7,false)],[(6,false),(8,false)],[(5,false),(9,false)],[(0,false),(10,false)]] [hB b (cAff a0 p c)] [] [(11,false)] (zE [0] rfl (by decide)) ?_ ?_
       · refine Op<|Op<|Op<|Op<|Ox ?_<|Oq ?_<|Op<|Op<|Op<|Oq ?_<|Oq ?_<|Oq ?_<|On
         · intro I1 hf le1;refine yV [(20,vS p a0.Coefs c),(21,vI i)] ?_;have h:=h.mono le1;refine xV rfl rfl h hy1 ?_;intro ad1 ccs1 hat1 hrep1;obtain rfl:=hrep1;exact yS [] iR ⟨_,rfl,rfl,hat1⟩
         · intro I1 hf le1;refine zI ?_;rintro _ _ ⟨ad1,rfl,rfl,hat1⟩;exact yV [(22,.pointer (some ad1))]<|xR 0 hat1 [vI x1] (vI x1) rfl<|xP iR
         · intro I1 hf le1;exact yV [(24,vI i),(26,vI (W (i + 1)))]<|zFH rfl hy2<|xP iR
         · intro I1 hf le1;refine yV [(23,vI x1),(27,vT s.l)] ?_;have H:=iS I1;refine xW (zAj x1 s _ hy3 ) ?_;rintro I01 hs2 v2 k2 le - ⟨v0,rfl,rfl,rfl⟩ -;have H:=H.trans le;exact xP H
         intro I1 hf le1;exact yV [(18,vT out.l),(28,vT y.l)]<|fN rfl hy4<|xP iR
       intro I02 le1;refine yV [(1,vP b 0),(4,vI i),(29,vT s1.l)] ?_;have H:=H.trans le1;exact yF [] [(3,vT s1.l)]<|yR [(1,vP b 0),(3,vT s1.l),(4,vI i)]<|zY ⟨_,(zB N).symm,H,rfl,rfl⟩
     intro hc1 N;exact zX<|yR [(1,vP b 0),(3,vT out.l),(4,vI i)]<|zY ⟨_,(zB N).symm,H,rfl,rfl⟩
   rintro I0 hs2 m2 ⟨out2,heq,le2,rfl,rfl⟩;subst o0;have h:=h.mono le2;have H:=H.trans le2;exact zT<|zD<|zQ<|yF [] [(4,vI (W (i + 1)))]<|yZ<|wS [(1,vP b 0),(3,vT out2.l),(4,vI (W (i + 1)))]<|ih out2 (W (i + 1)) _ hMc H h hg ho hx
 intro hc N;exact yX<|zL<|zL<|yR [(1,vP b 0),(3,vT out.l)]<|hx _ _ (zB N).symm H
def nL (a0:zA):Option (Str):=do
 let out1←qM a0 (⟨[]⟩:Str) 0
 let out3←(do
   if (a0.Const != 0) then
    let y1←mV a0.Const (⟨[]⟩:Str)
    let s2←cat out1 y1
    pure (id s2)
   else
    pure (id out1)
     : Option Str)
 if (out3.l == ([]:List UInt8)) then
  pure (⟨[48]⟩:Str)
 else
  let s3←sslc out3 0 1
  if (s3.l == ([43]:List UInt8)) then
   let s4←sslc out3 1 (out3.l.length:Int)
   pure (id s4)
  else
   pure (id out3)
theorem fU:∀ a0 r,nL a0=some r→∀ {I:Imm}{p c},(S4 I p a0.Coefs c)→Ret Tryz.prog 184 [vA (cAff a0 p c)] I [] (sZ  r):=by
 intro a0 r N I p c h;unfold nL at N;refine yA (fn:=Tryz.f184) (c:=(bodyOf Tryz.f184)) Tryz.func184 rfl rfl ?_;rintro B - -;have H:=iS I;refine yO<|tA (cAff a0 p c) ?_;intro b hb;refine yF [] []<|wR [(3,vT ([]))]<|yI<|yE [(4,vI 0)]<|zD<|zV<|wS [(1,vP b 0),(3,vT ([])),(4,vI 0)] ?_;obtain ⟨o01,ho01,hMl⟩:=zC N;refine zC1 a0 (⟨[]⟩:Str) 0 o01 ho01 iR h (fun _ _ _ h=>h) (fun _ _ h=>h) ?_;intro I03 out1 heq1 le3;subst o01;have H:=H.trans le3;refine zW<|yI<|yO<|yF [0] [(32,.bool (a0.Const != 0))]<|zD ?_;obtain ⟨o02,ho02,hMc1⟩:=zC hMl;refine yU (fun I' hs' m'=>∃ (out3:Str),o02=out3∧I03.le I'∧hs'=[]∧m'=[(3,vT out3.l)]) ?_ ?_
 · have H:=iS I03;refine yM ho02 ?_ ?_
   · intro hc2 N;refine zQ<|yH 3 [0] [(33,vT out1.l),(35,vI a0.Const)]<|bE N fun y1 hy5 N=>xW (zAj a0.Const (⟨[]⟩:Str) _ hy5 ) ?_;rintro I05 hs2 v2 k2 le4 - ⟨v01,rfl,rfl,rfl⟩ -;have H:=H.trans le4;obtain ⟨s2,hy6,N⟩:=zC N;exact fN rfl hy6<|yF [] [(3,vT s2.l)]<|wC (zE [] rfl (by decide))<|yR [(3,vT s2.l)]<|zY ⟨_,(zB N).symm,H,rfl,rfl⟩
   intro hc2 N;exact zX<|wC (zE [] rfl (by decide))<|yR [(3,vT out1.l)]<|zY ⟨_,(zB N).symm,H,rfl,rfl⟩
 rintro I04 hs2 m2 ⟨out3,heq2,le5,rfl,rfl⟩;subst o02;refine yI<|yE [(39,.bool (out3.l == ([]:List UInt8)))]<|zD<|yM hMc1 ?_ ?_
 · intro hc3 N;refine yE [(2,vT ([48]))]<|zD<|yC<|zM ?_;obtain rfl:=zB N;exact wY
 intro hc3 N;refine zX<|yI<|yO<|yH 1 [] [(40,vT out3.l)]<|bE N fun s3 hy7 N=>zFH rfl hy7<|yF [] [(42,.bool (s3.l == ([43]:List UInt8)))]<|zD<|yM N ?_ ?_
 · intro hc4 N;refine yO<|yH 1 [] [(43,vT out3.l)]<|bE N fun s4 hy8 N=>zFH rfl hy8<|yF [] [(2,vT s4.l)]<|zD<|yC<|zM ?_;obtain rfl:=zB N;exact wY
 intro hc4 N;refine zX<|wR [(2,vT out3.l)]<|zD<|yC ?_;obtain rfl:=zB N;exact wY
def pT (a0:zA):Option (Str):=do
 let y←vM a0
 if (!y) then
  pure (⟨[]⟩:Str)
 else
  let y1←nL a0
  pure (id y1)
theorem zAk:∀ a0 r,pT a0=some r→∀ {I:Imm}{p c},(S4 I p a0.Coefs c)→Ret Tryz.prog 180 [vA (cAff a0 p c)] I [] (sZ  r):=by
 intro a0 r N I p c h;unfold pT at N;refine yA (fn:=Tryz.f180) (c:=(bodyOf Tryz.f180)) Tryz.func180 rfl rfl ?_;rintro B - -;refine yO<|tA (cAff a0 p c) ?_;intro b hb;refine yF [] []<|yI<|yO<|yH 1 [0] [(3,vA (cAff a0 p c))]<|bE N fun y hy N=>uR (nR a0 _ hy h) ?_;intro I0 le;have h:=h.mono le;refine yF [] [(5,.bool (!y))]<|zD<|yM N ?_ ?_
 · intro hc N;refine yE [(2,vT ([]))]<|zD<|yC<|zM ?_;obtain rfl:=zB N;exact wY
 intro hc N;refine zX<|xI<|yH 1 [0] [(6,vA (cAff a0 p c))]<|bE N fun y1 hy1 N=>xW (fU a0 _ hy1 h) ?_;rintro I01 hs2 v2 k2 le1 - ⟨v01,rfl,rfl,rfl⟩ -;refine yF [] [(2,vT y1.l)]<|zD<|yC ?_;obtain rfl:=zB N;exact wY
def zAY (r:zA×Bool):KT:=fun kk I' hs' v=>
  ∃ v0 v1,hs'=[]∧v=tupV [v0,v1]∧(∃ cs,v0=.agg ⟨cs⟩∧Rp.rep I' cs r.1)∧v1=.bool r.2
def sN (text:Str) (at0:Int) (x:zA):Option (zA):=do
 let t18←(do
   if (decide (at0 ≥ 0)) then
    pure (decide (at0 < (text.l.length:Int)))
   else
    pure false
     : Option Bool)
 if t18 then
  let (y2,y3)←kJ x text at0
  sN text y3 y2
 else
  pure (id x)
 partial_fixpoint
theorem zAD (text:Str):∀ (at0:Int) (x:zA) (o:zA),sN text at0 x=some o→∀ {B}{I0 I:Imm}{Q}  {b:Nat}{b1:Nat}{p1 c1},I0.le I→(S4 I p1 x.Coefs c1)→NG Q→NO Q→(∀ (I':Imm) (x1:zA) (p2:Option Addr) (c2:Nat),o=x1→I0.le I'→(S4 I' p2 x1.Coefs c2)→T 32 B Q (.exit 0) I' [hB b1 (cAff x1 p2 c2),hB b [z0,vI 0]] [(0,vT text.l),(2,vP b 0),(4,vP b1 0)])→J Tryz.prog 32 B (nav (bodyOf Tryz.f170) [1,1,1,1,0,0]) Q I [hB b1 (cAff x p1 c1),hB b [z0,vI 0]] [(0,vT text.l),(2,vP b 0),(4,vP b1 0),(5,vI at0)]:=by
 refine sN.partial_correctness text _ fun self ih at0 x o N B I0 I Q b b1 p1 c1 H h2 hg ho hx=>yY hg ho<|yK<|yK ?_;obtain ⟨o0,ho0,hMc⟩:=zC N;refine yU (fun I' hs' m'=>∃ (t18:Bool),o0=t18∧I.le I'∧hs'=[hB b1 (cAff x p1 c1),hB b [z0,vI 0]]∧m'=[(0,vT text.l),(2,vP b 0),(4,vP b1 0),(5,vI at0),(18,.bool t18)]) ?_ ?_
 · have H:=iS I;refine zQ<|yH 3 [] [(13,.bool (decide (at0 ≥ 0)))] ?_;cases hc1:(decide (at0 ≥ 0)) with
   | true =>
    have hM0:=zU hc1 ho0
    try rw [hc1]
    exact yF [] [(18,.bool (decide (at0 < (text.l.length:Int))))]<|yR [(0,vT text.l),(2,vP b 0),(4,vP b1 0),(5,vI at0),(18,.bool (decide (at0 < (text.l.length:Int))))]<|zY ⟨_,(zB hM0).symm,H,rfl,rfl⟩
   | false =>
    have hM01:=zS hc1 ho0
    try rw [hc1]
    exact yF [] [(18,vF)]<|yR [(0,vT text.l),(2,vP b 0),(4,vP b1 0),(5,vI at0),(18,vF)]<|zY ⟨_,(zB hM01).symm,H,rfl,rfl⟩
 rintro I02 hs2 m2 ⟨t18,heq,le2,rfl,rfl⟩;subst o0;have h2:=h2.mono le2;have H:=H.trans le2;refine zD<|yM hMc ?_ ?_
 · intro hc2 N;refine zX<|zD<|zV<|zQ<|yH 3 [0] [(20,vA (cAff x p1 c1)),(21,vT text.l),(22,vI at0)] ?_;obtain ⟨⟨y2,y3⟩,hy1,N⟩:=zC N;refine xW (zDj x text at0 _ hy1 h2) ?_;rintro I03 hs2 v2 k2 le3 - ⟨v0,v01,rfl,rfl,⟨cs1,rfl,h4⟩,rfl⟩ -;have H:=H.trans le3;obtain ⟨p3,c3,rfl,h6⟩:=yQ h4;exact yH 7 [] [(24,vA (cAff y2 p3 c3)),(25,vI y3)]<|xQ 0 (cAff y2 p3 c3) [hB b1 (cAff y2 p3 c3),hB b [z0,vI 0]] rfl rfl rfl rfl<|yF [] [(5,vI y3)]<|zT<|yZ<|wS [(0,vT text.l),(2,vP b 0),(4,vP b1 0),(5,vI y3)]<|ih y3 y2 _ N H h6 hg ho hx
 intro hc2 N;exact yX<|zL<|zL<|yR [(0,vT text.l),(2,vP b 0),(4,vP b1 0)]<|hx _ _ _ _ (zB N).symm H h2
def qN (text:Str):Option (zA×Bool):=do
 let y←pA
 if (decide ((text.l.length:Int) > 40)) then
  pure ((zA.mk ([]:List Int) 0),false)
 else
  let x1←sN text 0 (zA.mk y.Coefs y.Const)
  let y4←pT x1
  if (!(y4.l == text.l)) then
   pure ((zA.mk ([]:List Int) 0),false)
  else
   pure (x1,true)
theorem fA:∀ text r,qN text=some r→∀ {I:Imm} ,Ret Tryz.prog 170 [vT text.l] I [] (zAY  r):=by
 intro text r N I;unfold qN at N;refine yA (fn:=Tryz.f170) (c:=(bodyOf Tryz.f170)) Tryz.func170 rfl rfl ?_;rintro B - -;refine yO<|uQ [z0,vI 0] ?_;intro b hb;refine yF [] []<|xI<|bE N fun y hy N=>xW (nT  _ hy ) ?_;rintro I0 hs2 v2 k2 le - ⟨p,c,cs,rfl,rfl,h⟩ -;refine uQ [z0,vI 0] ?_;intro b1 hb1;refine xQ 0 (cAff y p c) [hB b1 (cAff y p c),hO Int (vS p y.Coefs c) cs,hB b [z0,vI 0]] rfl rfl rfl rfl<|yN rfl<|yI<|yE [(9,.bool (decide ((text.l.length:Int) > 40)))]<|zD<|yM N ?_ ?_
 · intro hc N;refine yO<|yH 1 [] [(10,vA [z0,vI 0])]<|xQ 2 [z0,vI 0] [hB b1 (cAff y p c),hO Int (vS p y.Coefs c) cs,hB b [z0,vI 0]] rfl rfl rfl rfl<|yF [] [(3,vF)]<|zD<|yC<|zM ?_;obtain rfl:=zB N;exact xH ⟨_,_,(.cell 2 rfl rfl (by kernel_rfl) (.tmp rfl ResV.nil)),yD,⟨_,_,rfl,rfl,⟨_,rfl,(yP ⟨_,rfl,(SL.nil _)⟩)⟩,rfl⟩⟩
 intro hc N;refine zX<|wR [(5,vI 0)]<|yI<|zV<|oF 1 rfl ?_;intro I01 le1 hl0;have h1:=SL.of_frozen hl0 le1 h;refine wS [(0,vT text.l),(2,vP b 0),(4,vP b1 0),(5,vI 0)] ?_;obtain ⟨o01,ho01,hMl⟩:=zC N;refine zAD text 0 (zA.mk y.Coefs y.Const) o01 ho01 iR h1 (fun _ _ _ h=>h) (fun _ _ h=>h) ?_;intro I04 x1 p2 c2 heq1 le4 h3;subst o01;refine zW<|yI<|yO<|yH 1 [0] [(26,vA (cAff x1 p2 c2))] ?_;obtain ⟨y4,hy2,N⟩:=zC hMl;refine xW (zAk x1 _ hy2 h3) ?_;rintro I05 hs2 v2 k2 le5 - ⟨v03,rfl,rfl,rfl⟩ -;have h3:=h3.mono le5;refine yF [] [(29,.bool (!(y4.l == text.l)))]<|zD<|yM N ?_ ?_
 · intro hc3 N;refine yO<|yH 1 [] [(30,vA [z0,vI 0])]<|xQ 1 [z0,vI 0] [hB b1 (cAff x1 p2 c2),hB b [z0,vI 0]] rfl rfl rfl rfl<|yF [] [(3,vF)]<|zD<|yC<|zM ?_;obtain rfl:=zB N;exact xH ⟨_,_,(.cell 1 rfl rfl (by kernel_rfl) (.tmp rfl ResV.nil)),yD,⟨_,_,rfl,rfl,⟨_,rfl,(yP ⟨_,rfl,(SL.nil _)⟩)⟩,rfl⟩⟩
 intro hc3 N;refine zX<|xI<|yH 1 [0] [(31,vA (cAff x1 p2 c2))]<|xQ 1 (cAff x1 p2 c2) [hB b1 (cAff x1 p2 c2),hB b (cAff x1 p2 c2)] rfl rfl rfl rfl<|yF [] [(3,vY)]<|zD<|yC ?_;obtain rfl:=zB N;exact xH ⟨_,_,(.cell 1 rfl rfl (by kernel_rfl) (.tmp rfl ResV.nil)),yD,⟨_,_,rfl,rfl,⟨_,rfl,(yP ⟨_,rfl,h3⟩)⟩,rfl⟩⟩
def zDM (r:(List Str)):KT:=fun kk I' hs' v=>
  ∃ v0,hs'=[]∧v=tupV [v0]∧SL I' v0 r
def qO (s:Str) (c:UInt8) (out:List Str) (from0:Int) (i:Int):Option (List Str):=do
 if (decide (i ≤ (s.l.length:Int))) then
  let t25←(do
    if (i == (s.l.length:Int)) then
     pure true
    else
     let b1←sidx s i
     pure ((b1.toNat:Int) == (c.toNat:Int))
      : Option Bool)
  let (out2,from01)←(do
    if t25 then
     let s1←sslc s from0 i
     let out3←app 16 out ([s1]:List Str)
     pure (out3,(W (i + 1)))
    else
     pure (out,from0)
      : Option (List Str×Int))
  qO s c out2 from01 (W (i + 1))
 else
  pure (id out)
 partial_fixpoint
theorem zC2 (s:Str) (c:UInt8):∀ (out:List Str) (from0:Int) (i:Int) (o:List Str),qO s c out from0 i=some o→∀ {B}{I0 I:Imm}{Q p c1 cs},I0.le I→(RL I cs out)→NG Q→NO Q→(∀ (I':Imm) (out1:List Str) (p1:Option Addr) (c2:Nat) (cs1:List Value),o=out1→I0.le I'→(RL I' cs1 out1)→T 36 B Q (.exit 0) I' [hO Str (vS p1 out1 c2) cs1] [(5,vS p1 out1 c2)])→J Tryz.prog 36 B (nav (bodyOf Tryz.f178) [1,1,1,0,1,0]) Q I [hO Str (vS p out c1) cs] [(0,vT s.l),(1,.int .u8 (c.toNat:Int)),(5,vS p out c1),(6,vI from0),(7,vI i)]:=by
 refine qO.partial_correctness s c _ fun self ih out from0 i o N B I0 I Q p c1 cs H h1 hg ho hx=>yY hg ho<|yK<|yE [(12,.bool (decide (i ≤ (s.l.length:Int))))]<|zD<|yM N ?_ ?_
 · intro hc N;refine zX<|yI<|zV<|yK ?_;obtain ⟨o0,ho0,hMc⟩:=zC N;refine yU (fun I' hs' m'=>∃ (t25:Bool),o0=t25∧I.le I'∧hs'=[hO Str (vS p out c1) cs]∧m'=[(0,vT s.l),(1,.int .u8 (c.toNat:Int)),(5,vS p out c1),(6,vI from0),(7,vI i),(25,.bool t25)]) ?_ ?_
   · have H:=iS I;refine zQ<|yH 5 [] [(19,.bool (i == (s.l.length:Int)))] ?_;cases hc1:(i == (s.l.length:Int)) with
     | true =>
      have hM0:=zU hc1 ho0
      try rw [hc1]
      exact yF [] [(25,vY)]<|yR [(0,vT s.l),(1,.int .u8 (c.toNat:Int)),(5,vS p out c1),(6,vI from0),(7,vI i),(25,vY)]<|zY ⟨_,(zB hM0).symm,H,rfl,rfl⟩
     | false =>
      have hM01:=zS hc1 ho0
      try rw [hc1]
      refine yH 7 [] [(20,vT s.l),(21,vI i)] ?_;obtain ⟨b1,hy,N⟩:=zC hM01;exact eC rfl rfl hy<|yF [] [(25,.bool ((b1.toNat:Int) == (c.toNat:Int)))]<|yR [(0,vT s.l),(1,.int .u8 (c.toNat:Int)),(5,vS p out c1),(6,vI from0),(7,vI i),(25,.bool ((b1.toNat:Int) == (c.toNat:Int)))]<|zY ⟨_,(zB N).symm,H,rfl,rfl⟩
   rintro I0 hs2 m2 ⟨t25,heq,le,rfl,rfl⟩;subst o0;have h1:=iM le h1;have H:=H.trans le;refine zD ?_;obtain ⟨o01,ho01,hMc1⟩:=zC hMc;refine yU (fun I' hs' m'=>∃ (out2:List Str) (from01:Int) (p2:Option Addr) (c3:Nat) (cs2:List Value),o01=(out2,from01)∧I0.le I'∧(RL I' cs2 out2)∧hs'=[hO Str (vS p2 out2 c3) cs2]∧m'=[(0,vT s.l),(1,.int .u8 (c.toNat:Int)),(5,vS p2 out2 c3),(6,vI from01),(7,vI i)]) ?_ ?_
   · have H:=iS I0;refine yM ho01 ?_ ?_
     · intro hc2 N;refine yO<|yH 4 [] [(26,vS p out c1),(27,vT s.l),(28,vI from0),(29,vI i)]<|bE N fun s1 hy1 N=>zFH rfl hy1<|xX [vT s1.l] Str ?_;intro b2 hb1;have h4:RL I0 [vT s1.l] ([s1]:List Str):=⟨[vT s1.l],_,rfl,rfl,rfl,rfl⟩;obtain ⟨out3,hy2,N⟩:=zC N;exact qF 9 1 1 rfl rfl rfl h1 (.inr ⟨0,rfl⟩) h4 hy2 fun p3 c4 cs3 h5=>rW (zE [1] (hs':=[hO Str (vS p3 out3 c4) cs3]) rfl (by decide))<|yF [] [(5,vS p3 out3 c4)]<|zD<|zQ<|yF [] [(6,vI (W (i + 1)))]<|yR [(0,vT s.l),(1,.int .u8 (c.toNat:Int)),(5,vS p3 out3 c4),(6,vI (W (i + 1))),(7,vI i)]<|zY ⟨_,_,_,_,_,(zB N).symm,H,h5,rfl,rfl⟩
     intro hc2 N;exact zX<|yR [(0,vT s.l),(1,.int .u8 (c.toNat:Int)),(5,vS p out c1),(6,vI from0),(7,vI i)]<|zY ⟨_,_,_,_,_,(zB N).symm,H,h1,rfl,rfl⟩
   rintro I01 hs2 m2 ⟨out2,from01,p2,c3,cs2,heq1,le1,h3,rfl,rfl⟩;subst o01;have H:=H.trans le1;exact zT<|zD<|zQ<|yF [] [(7,vI (W (i + 1)))]<|yZ<|wS [(0,vT s.l),(1,.int .u8 (c.toNat:Int)),(5,vS p2 out2 c3),(6,vI from01),(7,vI (W (i + 1)))]<|ih out2 from01 (W (i + 1)) _ hMc1 H h3 hg ho hx
 intro hc N;exact yX<|zL<|zL<|yR [(5,vS p out c1)]<|hx _ _ _ _ _ (zB N).symm H h1
def jE (s:Str) (c:UInt8):Option ((List Str)):=do
 let out1←qO s c ([]:List Str) 0 0
 pure (id out1)
theorem zEb:∀ s c r,jE s c=some r→∀ {I:Imm} ,Ret Tryz.prog 178 [vT s.l,.int .u8 (c.toNat:Int)] I [] (zDM  r):=by
 intro s c r N I;unfold jE at N;refine yA (fn:=Tryz.f178) (c:=(bodyOf Tryz.f178)) Tryz.func178 rfl rfl ?_;rintro B - -;refine yE []<|xI<|xX [] Str ?_;intro b hb;have h:RL I [] ([]:List Str):=rfl;refine yF [] [(5,vS (some ⟨b,0,none⟩) ([]:List Str) 0)]<|wR [(6,vI 0)]<|yI<|yE [(7,vI 0)]<|zD<|zV<|wS [(0,vT s.l),(1,.int .u8 (c.toNat:Int)),(5,vS (some ⟨b,0,none⟩) ([]:List Str) 0),(6,vI 0),(7,vI 0)] ?_;obtain ⟨o02,ho02,hMl⟩:=zC N;refine zC2 s c ([]:List Str) 0 0 o02 ho02 iR h (fun _ _ _ h=>h) (fun _ _ h=>h) ?_;intro I02 out1 p1 c2 cs1 heq2 le2 h2;subst o02;refine zW<|wR [(4,vS p1 out1 c2)]<|zD<|yC<|xG 0 rfl ?_;intro I03 le3 hl0;have h6:=SL.of_frozen hl0 le3 h2;obtain rfl:=zB hMl;exact xH ⟨_,_,(.tmp rfl ResV.nil),yD,⟨_,rfl,rfl,h6⟩⟩
def zAZ (r:(List zA)):KT:=fun kk I' hs' v=>
  ∃ v0,hs'=[]∧v=tupV [v0]∧SL I' v0 r
def tI (y:(List Str)) (out:List zA) (i:Int):Option (List zA):=do
 let t18←(do
   if (decide (i < (y.length:Int))) then
    pure (decide (i ≤ 2))
   else
    pure false
     : Option Bool)
 if t18 then
  let x←idx y i
  let (y2,y3)←qN x
  let out2←app 32 out ([y2]:List zA)
  tI y out2 (W (i + 1))
 else
  pure (id out)
 partial_fixpoint
theorem zAE (y:(List Str)):∀ (out:List zA) (i:Int) (o:List zA),tI y out i=some o→∀ {B}{I0 I:Imm}{Q p c p1 c1 cs},I0.le I→(S4 I p y c)→(RL I cs out)→NG Q→NO Q→(∀ (I':Imm) (out1:List zA) (p2:Option Addr) (c2:Nat) (cs1:List Value),o=out1→I0.le I'→(RL I' cs1 out1)→T 34 B Q (.exit 0) I' [hO zA (vS p2 out1 c2) cs1] [(3,vS p2 out1 c2)])→J Tryz.prog 34 B (nav (bodyOf Tryz.f169) [1,1,1,0,1,0]) Q I [hO zA (vS p1 out c1) cs] [(3,vS p1 out c1),(4,vS p y c),(5,vI i)]:=by
 refine tI.partial_correctness y _ fun self ih out i o N B I0 I Q p c p1 c1 cs H h1 h2 hg ho hx=>yY hg ho<|yK<|yK ?_;obtain ⟨o0,ho0,hMc⟩:=zC N;refine yU (fun I' hs' m'=>∃ (t18:Bool),o0=t18∧I.le I'∧hs'=[hO zA (vS p1 out c1) cs]∧m'=[(3,vS p1 out c1),(4,vS p y c),(5,vI i),(18,.bool t18)]) ?_ ?_
 · have H:=iS I;refine zQ<|yH 5 [] [(15,.bool (decide (i < (y.length:Int))))] ?_;cases hc:(decide (i < (y.length:Int))) with
   | true =>
    have hM0:=zU hc ho0
    try rw [hc]
    exact yF [] [(18,.bool (decide (i ≤ 2)))]<|yR [(3,vS p1 out c1),(4,vS p y c),(5,vI i),(18,.bool (decide (i ≤ 2)))]<|zY ⟨_,(zB hM0).symm,H,rfl,rfl⟩
   | false =>
    have hM01:=zS hc ho0
    try rw [hc]
    exact yF [] [(18,vF)]<|yR [(3,vS p1 out c1),(4,vS p y c),(5,vI i),(18,vF)]<|zY ⟨_,(zB hM01).symm,H,rfl,rfl⟩
 rintro I01 hs2 m2 ⟨t18,heq,le1,rfl,rfl⟩;subst o0;have h2:=iM le1 h2;have h1:=h1.mono le1;have H:=H.trans le1;refine zD<|yM hMc ?_ ?_
 · intro hc1 N;refine zX<|yI<|zV<|yO<|yH 2 [] [(22,vS p y c),(23,vI i)]<|bE N fun x hy1 N=>xV rfl rfl h1 hy1 ?_;intro ad ccs hat hrep;obtain rfl:=hrep;refine xR 0 hat [vT x.l] (vT x.l) rfl ?_;obtain ⟨⟨y2,y3⟩,hy2,N⟩:=zC N;refine xW (fA x _ hy2 ) ?_;rintro I02 hs2 v2 k2 le2 - ⟨v01,v02,rfl,rfl,⟨cs2,rfl,h4⟩,rfl⟩ -;have h2:=iM le2 h2;have h1:=h1.mono le2;have H:=H.trans le2;obtain ⟨p3,c3,rfl,h6⟩:=yQ h4;refine yH 8 [] [(27,vA (cAff y2 p3 c3)),(28,.bool y3)]<|uQ [z0,vI 0] ?_;intro b1 hb1;refine xQ 0 (cAff y2 p3 c3) [hB b1 (cAff y2 p3 c3),hO zA (vS p1 out c1) cs] rfl rfl rfl rfl<|yF [] []<|zD<|zQ<|yH 2 [0] [(29,vS p1 out c1),(30,vA (cAff y2 p3 c3))]<|xX (cAff y2 p3 c3) zA ?_;intro b2 hb2;have h7:RL I02 (cAff y2 p3 c3) ([y2]:List zA):=⟨(cAff y2 p3 c3),_,rfl,rfl,(yP ⟨_,rfl,h6⟩),rfl⟩;obtain ⟨out2,hy3,N⟩:=zC N;exact qF 90 2 2 rfl rfl rfl h2 (.inr ⟨0,rfl⟩) h7 hy3 fun p4 c4 cs3 h8=>rW (zE [1,2] (hs':=[hB b1 (cAff y2 p3 c3),hO zA (vS p4 out2 c4) cs3]) rfl (by decide))<|yF [] [(3,vS p4 out2 c4)]<|zT<|zD<|zQ<|yF [] [(5,vI (W (i + 1)))]<|yZ<|qE (zE [1] rfl (by decide))<|wS [(3,vS p4 out2 c4),(4,vS p y c),(5,vI (W (i + 1)))]<|ih out2 (W (i + 1)) _ N H h1 h8 hg ho hx
 intro hc1 N;exact yX<|zL<|zL<|yR [(3,vS p1 out c1)]<|hx _ _ _ _ _ (zB N).symm H h2
def oJ (text:Str):Option ((List zA)):=do
 let y←jE text (44:UInt8)
 let out1←tI y ([]:List zA) 0
 pure (id out1)
theorem zBH:∀ text r,oJ text=some r→∀ {I:Imm} ,Ret Tryz.prog 169 [vT text.l] I [] (zAZ  r):=by
 intro text r N I;unfold oJ at N;refine yA (fn:=Tryz.f169) (c:=(bodyOf Tryz.f169)) Tryz.func169 rfl rfl ?_;rintro B - -;refine yE []<|xI<|xX [] zA ?_;intro b hb;have h:RL I [] ([]:List zA):=rfl;refine yF [] [(3,vS (some ⟨b,0,none⟩) ([]:List zA) 0)]<|xI<|yH 1 [] [(9,vT text.l)]<|bE N fun y hy N=>xW (zEb text (44:UInt8) _ hy ) ?_;rintro I0 hs2 v2 k2 le - ⟨v0,rfl,rfl,h1⟩ -;have h:=iM le h;obtain ⟨p,c,rfl⟩:=h1.form;refine yF [] [(4,vS p y c)]<|yI<|yE [(5,vI 0)]<|zD<|zV<|wS [(3,vS (some ⟨b,0,none⟩) ([]:List zA) 0),(4,vS p y c),(5,vI 0)] ?_;obtain ⟨o01,ho01,hMl⟩:=zC N;refine zAE y ([]:List zA) 0 o01 ho01 iR h1 h (fun _ _ _ h=>h) (fun _ _ h=>h) ?_;intro I03 out1 p2 c2 cs1 heq1 le3 h3;subst o01;refine zW<|wR [(2,vS p2 out1 c2)]<|zD<|yC<|xG 0 rfl ?_;intro I04 le4 hl0;have h9:=SL.of_frozen hl0 le4 h3;obtain rfl:=zB hMl;exact xH ⟨_,_,(.tmp rfl ResV.nil),yD,⟨_,rfl,rfl,h9⟩⟩
def dO (r:zK×Int):KT:=fun kk I' hs' v=>
  ∃ v0 v1,hs'=[]∧v=tupV [v0,v1]∧(∃ cs,v0=.agg ⟨cs⟩∧Rp.rep I' cs r.1)∧v1=.int .i64 r.2
def rA (s:Str) (at0:Int):Option (zK×Int):=do
 let y←nV s at0 (93:UInt8)
 let t20←(do
   if (decide (y < (W (at0 + 2)))) then
    pure true
   else
    let b1←sidx s (W (at0 + 1))
    pure ((b1.toNat:Int) != 91)
     : Option Bool)
 if t20 then
  pure ((zK.mk (⟨[]⟩:Str) ([]:List zA)),(-1))
 else
  let s1←sslc s at0 (W (at0 + 1))
  let s2←sslc s (W (at0 + 2)) y
  let y1←oJ s2
  pure ((zK.mk s1 y1),(W (y + 1)))
theorem jX:∀ s at0 r,rA s at0=some r→∀ {I:Imm} ,Ret Tryz.prog 150 [vT s.l,vI at0] I [] (dO  r):=by
 intro s at0 r N I;unfold rA at N;refine yA (fn:=Tryz.f150) (c:=(bodyOf Tryz.f150)) Tryz.func150 rfl rfl ?_;rintro B - -;have H:=iS I;refine yO<|uQ [vT ([]),z0] ?_;intro b hb;refine yF [] []<|xI<|yH 2 [] [(7,vT s.l),(8,vI at0)]<|bE N fun y hy N=>kE (zAW s at0 (93:UInt8) _ hy ) ?_;intro I0 le;have H:=H.trans le;refine yF [] [(6,vI y)]<|yI<|yK ?_;obtain ⟨o0,ho0,hMc⟩:=zC N;refine yU (fun I' hs' m'=>∃ (t20:Bool),o0=t20∧I0.le I'∧hs'=[hB b [vT ([]),z0]]∧m'=[(0,vT s.l),(1,vI at0),(4,vP b 0),(6,vI y),(20,.bool t20)]) ?_ ?_
 · have H:=iS I0;refine zQ<|yH 5 [] [(14,.bool (decide (y < (W (at0 + 2)))))] ?_;cases hc:(decide (y < (W (at0 + 2)))) with
   | true =>
    have hM0:=zU hc ho0
    try rw [hc]
    exact yF [] [(20,vY)]<|yR [(0,vT s.l),(1,vI at0),(4,vP b 0),(6,vI y),(20,vY)]<|zY ⟨_,(zB hM0).symm,H,rfl,rfl⟩
   | false =>
    have hM01:=zS hc ho0
    try rw [hc]
    refine yH 8 [] [(15,vT s.l),(17,vI (W (at0 + 1)))] ?_;obtain ⟨b1,hy1,N⟩:=zC hM01;exact eC rfl rfl hy1<|yF [] [(20,.bool ((b1.toNat:Int) != 91))]<|yR [(0,vT s.l),(1,vI at0),(4,vP b 0),(6,vI y),(20,.bool ((b1.toNat:Int) != 91))]<|zY ⟨_,(zB N).symm,H,rfl,rfl⟩
 rintro I01 hs2 m2 ⟨t20,heq,le1,rfl,rfl⟩;subst o0;have H:=H.trans le1;refine zD<|yM hMc ?_ ?_
 · intro hc1 N;refine yO<|yH 1 [] [(21,vA [vT ([]),z0])]<|xQ 0 [vT ([]),z0] [hB b [vT ([]),z0]] rfl rfl rfl rfl<|yF [] [(5,vI (-1))]<|zD<|yC<|zM ?_;obtain rfl:=zB N;exact xH ⟨_,_,(.cell 0 rfl rfl (by kernel_rfl) (.tmp rfl ResV.nil)),yD,⟨_,_,rfl,rfl,⟨_,rfl,(oC ⟨_,rfl,(SL.nil _)⟩)⟩,rfl⟩⟩
 intro hc1 N;refine zX<|zD<|yK ?_;obtain ⟨s1,hy2,N⟩:=zC N;obtain ⟨s2,hy3,N⟩:=zC N;obtain ⟨y1,hy4,N⟩:=zC N;refine vQ [.p (vT s.l) [],.p (vI at0) [],.p (vI at0) [],.p (vI (W (at0 + 1))) [],.q (vT s1.l),.p (vT s.l) [],.p (vI at0) [],.p (vI (W (at0 + 2))) [],.p (vI y) [],.q (vT s2.l),.x (fun I' v hx=>∃ p c,v=vS p y1 c∧hx=[]∧(S4 I' p y1 c)),.x (fun I' v hx=>∃ p1 c1,v=vA [vT s1.l,vS p1 y1 c1]∧hx=[]∧(S4 I' p1 y1 c1)),.p (vI y) [],.p (vI (W (y + 1))) [],.x (fun I' v hx=>∃ p11 c11,hx=[hB b [vT s1.l,vS p11 y1 c11]]∧(S4 I' p11 y1 c11))] [[],[],[],[(2,false)],[(0,false),(1,false),(3,false)],[],[],[(6,false)],[],[(5,false),(7,false),(8,false)],[(9,false)],[(4,false),(10,false)],[],[(12,false)],[(11,false),(16,true)]] [] [[hB b [vT ([]),z0]]] [(13,false),(14,true)] (zE [0] rfl (by decide)) ?_ ?_
 · refine Op<|Op<|Op<|Op<|Oq ?_<|Op<|Op<|Op<|Op<|Oq ?_<|Ox ?_<|Ox ?_<|Op<|Op<|Ox ?_<|On
   · intro I1 hf le1;exact yV [(22,vT s.l),(23,vI at0),(25,vI (W (at0 + 1)))]<|zFH rfl hy2<|xP iR
   · intro I1 hf le1;exact yV [(27,vT s.l),(29,vI (W (at0 + 2))),(30,vI y)]<|zFH rfl hy3<|xP iR
   · intro I1 hf le1;refine yV [(31,vT s2.l)] ?_;have H:=iS I1;refine xW (zBH s2 _ hy4 ) ?_;rintro I02 hs2 v2 k2 le2 - ⟨v01,rfl,rfl,h1⟩ -;have H:=H.trans le2;obtain ⟨p,c,rfl⟩:=h1.form;exact yS [] H ⟨_,_,rfl,rfl,h1⟩
   · intro I1 hf le1;refine zI ?_;rintro _ _ ⟨rfl,rfl⟩;refine zI ?_;rintro _ _ ⟨p,c,rfl,rfl,h1⟩;exact yV [(26,vT s1.l),(32,vS p y1 c)]<|pH 12 [(33,vA [vT s1.l,vS p y1 c])]<|yS [] iR ⟨_,_,rfl,rfl,h1⟩
   intro I1 hf le1;refine zI ?_;rintro _ _ ⟨p1,c1,rfl,rfl,h11⟩;refine zI ?_;rintro _ _ rfl;refine yV [(4,vP b 0),(33,vA [vT s1.l,vS p1 y1 c1])] ?_;have H:=iS I1;exact xQ 0 [vT s1.l,vS p1 y1 c1] (hB b [vT s1.l,vS p1 y1 c1]::hf) rfl rfl rfl rfl<|zER (hx:=[hB b [vT s1.l,vS p1 y1 c1]]) rfl H rfl (zG2 (v:=undef)) ⟨_,_,rfl,h11⟩
 intro I03 le3;refine zI ?_;rintro _ _ ⟨rfl,rfl⟩;refine zI ?_;rintro _ _ ⟨p11,c11,rfl,h111⟩;refine yV [(4,vP b 0),(35,vI (W (y + 1)))] ?_;refine yF [] [(5,vI (W (y + 1)))]<|zD<|yC ?_;obtain rfl:=zB N;exact xH ⟨_,_,(.cell 0 rfl rfl (by kernel_rfl) (.tmp rfl ResV.nil)),yD,⟨_,_,rfl,rfl,⟨_,rfl,(oC ⟨_,rfl,h111⟩)⟩,rfl⟩⟩
def jR (r:zF×Int):KT:=fun kk I' hs' v=>
  ∃ v0 v1,hs'=[]∧v=tupV [v0,v1]∧(∃ cs,v0=.agg ⟨cs⟩∧Rp.rep I' cs r.1)∧v1=.int .i64 r.2
mutual
def kK (s:Str) (at0:Int) (levels:Int):Option (zF×Int):=do
 let (y1,y2)←rP (same s) (same at0) (same levels)
 let t27←(do
   if (decide (y2 < 0)) then
    pure true
   else
    pure (decide (y2 ≥ (s.l.length:Int)))
     : Option Bool)
 if t27 then
  pure ((zF.mk 0 0 (zA.mk ([]:List Int) 0) (zK.mk (⟨[]⟩:Str) ([]:List zA)) ([]:List zF)),(-1))
 else
  let b2←sidx s y2
  let kind←(do
    if ((b2.toNat:Int) == 45) then
     pure (id 5)
    else
     let kind1←(do
       if ((b2.toNat:Int) == 42) then
        pure (id 6)
       else
        pure (id 4)
         : Option Int)
     pure (id kind1)
      : Option Int)
  let (y4,y5)←rP (same s) (W (y2 + 1)) (same levels)
  let t51←(do
    if (decide (y5 < 0)) then
     pure true
    else
     pure (decide (y5 ≥ (s.l.length:Int)))
      : Option Bool)
  if t51 then
   pure ((zF.mk 0 0 (zA.mk ([]:List Int) 0) (zK.mk (⟨[]⟩:Str) ([]:List zA)) ([]:List zF)),(-1))
  else
   pure ((zF.mk kind 0 (zA.mk ([]:List Int) 0) (zK.mk (⟨[]⟩:Str) ([]:List zA)) ([y1,y4]:List zF)),(W (y5 + 1)))
 partial_fixpoint
def rP (s:Str) (at0:Int) (levels:Int):Option (zF×Int):=do
 let t26←(do
   if (decide (levels < 1)) then
    pure true
   else
    if (decide (at0 < 0)) then
     pure true
    else
     pure (decide (at0 ≥ (s.l.length:Int)))
     : Option Bool)
 if t26 then
  pure ((zF.mk 0 0 (zA.mk ([]:List Int) 0) (zK.mk (⟨[]⟩:Str) ([]:List zA)) ([]:List zF)),(-1))
 else
  let b1←sidx s at0
  if ((b1.toNat:Int) == 123) then
   let y←nV s at0 (125:UInt8)
   if (decide (y < 0)) then
    pure ((zF.mk 0 0 (zA.mk ([]:List Int) 0) (zK.mk (⟨[]⟩:Str) ([]:List zA)) ([]:List zF)),(-1))
   else
    let s1←sslc s (W (at0 + 1)) y
    let (y2,y3)←qN s1
    pure ((zF.mk 2 0 y2 (zK.mk (⟨[]⟩:Str) ([]:List zA)) ([]:List zF)),(W (y + 1)))
  else
   let t52←(do
     let b3←sidx s at0
     if (decide ((b3.toNat:Int) ≥ 65)) then
      let b4←sidx s at0
      pure (decide ((b4.toNat:Int) ≤ 68))
     else
      pure false
       : Option Bool)
   if t52 then
    let (y5,y6)←rA s at0
    pure ((zF.mk 3 0 (zA.mk ([]:List Int) 0) y5 ([]:List zF)),y6)
   else
    let b6←sidx s at0
    if ((b6.toNat:Int) == 40) then
     let (y8,y9)←kK (same s) (W (at0 + 1)) (W (levels - 1))
     pure (y8,y9)
    else
     let (y11,y12)←oR s at0
     if (y12 == at0) then
      pure ((zF.mk 0 0 (zA.mk ([]:List Int) 0) (zK.mk (⟨[]⟩:Str) ([]:List zA)) ([]:List zF)),(-1))
     else
      pure ((zF.mk 1 y11 (zA.mk ([]:List Int) 0) (zK.mk (⟨[]⟩:Str) ([]:List zA)) ([]:List zF)),y12)
 partial_fixpoint
end
theorem zDN:(∀ (s:Str) (at0:Int) (levels:Int) r,kK s at0 levels=some r→∀ {I:Imm} ,Ret Tryz.prog 171 [vT s.l,vI at0,vI levels] I [] (jR  r))∧(∀ (s:Str) (at0:Int) (levels:Int) r,rP s at0 levels=some r→∀ {I:Imm} ,Ret Tryz.prog 151 [vT s.l,vI at0,vI levels] I [] (jR  r)):=by
  refine kK.mutual_partial_correctness _ _ ?_ ?_
  · intro F_spec_l3Parse ih_spec_l3Parse s at0 levels r N I;refine yA (fn:=Tryz.f171) (c:=(bodyOf Tryz.f171)) Tryz.func171 rfl rfl ?_;rintro B - -;have H:=iS I;refine yO<|uQ zExpr ?_;intro b hb;refine yF [] []<|xI<|yH 3 [] [(14,vT s.l),(15,vI at0),(16,vI levels)] ?_;obtain ⟨⟨y1,y2⟩,hy,N⟩:=zC N;refine xW (ih_spec_l3Parse s at0 levels _ hy ) ?_;rintro I0 hs2 v2 k2 le - ⟨v0,v01,rfl,rfl,⟨cs,rfl,h⟩,rfl⟩ -;have H:=H.trans le;obtain ⟨p,c,p1,c1,p2,c2,rfl,h2,h3,h4⟩:=uT h;refine yH 7 [] [(18,vA (cExpr y1 p c p1 c1 p2 c2)),(19,vI y2)]<|uQ zExpr ?_;intro b1 hb1;refine xQ 0 (cExpr y1 p c p1 c1 p2 c2) [hB b1 (cExpr y1 p c p1 c1 p2 c2),hB b zExpr] rfl rfl rfl rfl<|yF [] [(9,vI y2)]<|yI<|yK ?_;obtain ⟨o0,ho0,hMc⟩:=zC N;refine yU (fun I' hs' m'=>∃ (t27:Bool),o0=t27∧I0.le I'∧hs'=[hB b1 (cExpr y1 p c p1 c1 p2 c2),hB b zExpr]∧m'=[(0,vT s.l),(2,vI levels),(6,vP b 0),(8,vP b1 0),(9,vI y2),(27,.bool t27)]) ?_ ?_
    · have H:=iS I0;refine zQ<|yH 3 [] [(22,.bool (decide (y2 < 0)))] ?_;cases hc:(decide (y2 < 0)) with
      | true =>
       have hM0:=zU hc ho0
       try rw [hc]
       exact yF [] [(27,vY)]<|yR [(0,vT s.l),(2,vI levels),(6,vP b 0),(8,vP b1 0),(9,vI y2),(27,vY)]<|zY ⟨_,(zB hM0).symm,H,rfl,rfl⟩
      | false =>
       have hM01:=zS hc ho0
       try rw [hc]
       exact yF [] [(27,.bool (decide (y2 ≥ (s.l.length:Int))))]<|yR [(0,vT s.l),(2,vI levels),(6,vP b 0),(8,vP b1 0),(9,vI y2),(27,.bool (decide (y2 ≥ (s.l.length:Int))))]<|zY ⟨_,(zB hM01).symm,H,rfl,rfl⟩
    rintro I01 hs2 m2 ⟨t27,heq,le1,rfl,rfl⟩;subst o0;have h2:=h2.mono le1;have h3:=h3.mono le1;have h4:=h4.mono le1;have H:=H.trans le1;refine zD<|yM hMc ?_ ?_
    · intro hc1 N;refine yO<|yH 1 [] [(28,vA zExpr)]<|xQ 1 zExpr [hB b1 (cExpr y1 p c p1 c1 p2 c2),hB b zExpr] rfl rfl rfl rfl<|yF [] [(7,vI (-1))]<|zD<|yC<|zM ?_;obtain rfl:=zB N;exact xH ⟨_,_,(.cell 1 rfl rfl (by kernel_rfl) (.tmp rfl ResV.nil)),yD,⟨_,_,rfl,rfl,⟨_,rfl,(xU ⟨_,_,_,rfl,(SL.nil _),(SL.nil _),(SL.nil _)⟩)⟩,rfl⟩⟩
    intro hc1 N;refine zX<|wR [(10,vI 4)]<|yI<|yO<|yH 2 [] [(29,vT s.l),(30,vI y2)]<|bE N fun b2 hy1 N=>eC rfl rfl hy1<|yN rfl<|zD<|zV<|yE [(32,.bool ((b2.toNat:Int) == 45))]<|zD ?_;obtain ⟨o01,ho01,hMc1⟩:=zC N;refine yU (fun I' hs' m'=>∃ (kind:Int),o01=kind∧I01.le I'∧hs'=[hB b1 (cExpr y1 p c p1 c1 p2 c2),hB b zExpr]∧m'=[(0,vT s.l),(2,vI levels),(6,vP b 0),(8,vP b1 0),(9,vI y2),(10,vI kind)]) ?_ ?_
    · have H:=iS I01;refine yM ho01 ?_ ?_
      · intro hc2 N;exact zQ<|yF [] [(10,vI 5)]<|yR [(0,vT s.l),(2,vI levels),(6,vP b 0),(8,vP b1 0),(9,vI y2),(10,vI 5)]<|zY ⟨_,(zB N).symm,H,rfl,rfl⟩
      intro hc2 N;refine yE [(34,.bool ((b2.toNat:Int) == 42))]<|zD ?_;obtain ⟨o02,ho02,hMc2⟩:=zC N;refine yU (fun I' hs' m'=>∃ (kind1:Int),o02=kind1∧I01.le I'∧hs'=[hB b1 (cExpr y1 p c p1 c1 p2 c2),hB b zExpr]∧m'=[(0,vT s.l),(2,vI levels),(6,vP b 0),(8,vP b1 0),(9,vI y2),(10,vI kind1)]) ?_ ?_
      · have H:=iS I01;refine yM ho02 ?_ ?_
        · intro hc3 N;exact zQ<|yF [] [(10,vI 6)]<|yR [(0,vT s.l),(2,vI levels),(6,vP b 0),(8,vP b1 0),(9,vI y2),(10,vI 6)]<|zY ⟨_,(zB N).symm,H,rfl,rfl⟩
        intro hc3 N;exact zX<|yR [(0,vT s.l),(2,vI levels),(6,vP b 0),(8,vP b1 0),(9,vI y2),(10,vI 4)]<|zY ⟨_,(zB N).symm,H,rfl,rfl⟩
      rintro I03 hs2 m2 ⟨kind1,heq1,le2,rfl,rfl⟩;subst o02;have H:=H.trans le2;exact yR [(0,vT s.l),(2,vI levels),(6,vP b 0),(8,vP b1 0),(9,vI y2),(10,vI kind1)]<|zY ⟨_,(zB hMc2).symm,H,rfl,rfl⟩
    rintro I02 hs2 m2 ⟨kind,heq2,le3,rfl,rfl⟩;subst o01;have h2:=h2.mono le3;have h3:=h3.mono le3;have h4:=h4.mono le3;have H:=H.trans le3;refine zT<|xI<|yH 4 [] [(37,vT s.l),(39,vI (W (y2 + 1))),(40,vI levels)] ?_;obtain ⟨⟨y4,y5⟩,hy2,N⟩:=zC hMc1;refine xW (ih_spec_l3Parse s (W (y2 + 1)) levels _ hy2 ) ?_;rintro I04 hs2 v2 k2 le4 - ⟨v05,v06,rfl,rfl,⟨cs1,rfl,h5⟩,rfl⟩ -;have h2:=h2.mono le4;have h3:=h3.mono le4;have h4:=h4.mono le4;have H:=H.trans le4;obtain ⟨p3,c3,p4,c4,p5,c5,rfl,h7,h8,h9⟩:=uT h5;refine yH 8 [] [(42,vA (cExpr y4 p3 c3 p4 c4 p5 c5)),(43,vI y5)]<|uQ zExpr ?_;intro b3 hb2;refine xQ 0 (cExpr y4 p3 c3 p4 c4 p5 c5) [hB b3 (cExpr y4 p3 c3 p4 c4 p5 c5),hB b1 (cExpr y1 p c p1 c1 p2 c2),hB b zExpr] rfl rfl rfl rfl<|yF [] [(12,vI y5)]<|yI<|yK ?_;obtain ⟨o03,ho03,hMc3⟩:=zC N;refine yU (fun I' hs' m'=>∃ (t51:Bool),o03=t51∧I04.le I'∧hs'=[hB b3 (cExpr y4 p3 c3 p4 c4 p5 c5),hB b1 (cExpr y1 p c p1 c1 p2 c2),hB b zExpr]∧m'=[(6,vP b 0),(8,vP b1 0),(10,vI kind),(11,vP b3 0),(12,vI y5),(51,.bool t51)]) ?_ ?_
    · have H:=iS I04;refine zQ<|yH 3 [] [(46,.bool (decide (y5 < 0)))] ?_;cases hc4:(decide (y5 < 0)) with
      | true =>
       have hM02:=zU hc4 ho03
       try rw [hc4]
       exact yF [] [(51,vY)]<|yR [(6,vP b 0),(8,vP b1 0),(10,vI kind),(11,vP b3 0),(12,vI y5),(51,vY)]<|zY ⟨_,(zB hM02).symm,H,rfl,rfl⟩
      | false =>
       have hM03:=zS hc4 ho03
       try rw [hc4]
       exact yF [] [(51,.bool (decide (y5 ≥ (s.l.length:Int))))]<|yR [(6,vP b 0),(8,vP b1 0),(10,vI kind),(11,vP b3 0),(12,vI y5),(51,.bool (decide (y5 ≥ (s.l.length:Int))))]<|zY ⟨_,(zB hM03).symm,H,rfl,rfl⟩
    rintro I05 hs2 m2 ⟨t51,heq3,le5,rfl,rfl⟩;subst o03;have h7:=h7.mono le5;have h8:=h8.mono le5;have h9:=h9.mono le5;have h2:=h2.mono le5;have h3:=h3.mono le5;have h4:=h4.mono le5;refine zD<|yM hMc3 ?_ ?_
    · intro hc5 N;refine yO<|yH 1 [] [(52,vA zExpr)]<|xQ 2 zExpr [hB b3 (cExpr y4 p3 c3 p4 c4 p5 c5),hB b1 (cExpr y1 p c p1 c1 p2 c2),hB b zExpr] rfl rfl rfl rfl<|yF [] [(7,vI (-1))]<|zD<|yC<|zM ?_;obtain rfl:=zB N;exact xH ⟨_,_,(.cell 2 rfl rfl (by kernel_rfl) (.tmp rfl ResV.nil)),yD,⟨_,_,rfl,rfl,⟨_,rfl,(xU ⟨_,_,_,rfl,(SL.nil _),(SL.nil _),(SL.nil _)⟩)⟩,rfl⟩⟩
    intro hc5 N;refine zX<|xI<|yH 3 [1,0] [(53,vI kind),(54,vA (cExpr y1 p c p1 c1 p2 c2)),(55,vA (cExpr y4 p3 c3 p4 c4 p5 c5))]<|xX [vI y1.Kind,vI y1.Num,vS p y1.Index.Coefs c,vI y1.Index.Const,vT y1.Read.Array.l,vS p1 y1.Read.Subs c1,vS p2 y1.Kids c2,vI y4.Kind,vI y4.Num,vS p3 y4.Index.Coefs c3,vI y4.Index.Const,vT y4.Read.Array.l,vS p4 y4.Read.Subs c4,vS p5 y4.Kids c5] zF ?_;intro b4 hb3;have h10:RL I05 [vI y1.Kind,vI y1.Num,vS p y1.Index.Coefs c,vI y1.Index.Const,vT y1.Read.Array.l,vS p1 y1.Read.Subs c1,vS p2 y1.Kids c2,vI y4.Kind,vI y4.Num,vS p3 y4.Index.Coefs c3,vI y4.Index.Const,vT y4.Read.Array.l,vS p4 y4.Read.Subs c4,vS p5 y4.Kids c5] ([y1,y4]:List zF):=⟨(cExpr y1 p c p1 c1 p2 c2),_,rfl,rfl,(xU ⟨_,_,_,rfl,h2,h3,h4⟩),⟨(cExpr y4 p3 c3 p4 c4 p5 c5),_,rfl,rfl,(xU ⟨_,_,_,rfl,h7,h8,h9⟩),rfl⟩⟩;refine yH 7 [] [(57,vA [vI kind,vI 0,z0,vI 0,vT ([]),z0,vS (some ⟨b4,0,none⟩) ([y1,y4]:List zF) 2]),(59,vI (W (y5 + 1)))]<|xQ 3 [vI kind,vI 0,z0,vI 0,vT ([]),z0,vS (some ⟨b4,0,none⟩) ([y1,y4]:List zF) 2] [hO zF (vS (some ⟨b4,0,none⟩) ([y1,y4]:List zF) 2) [vI y1.Kind,vI y1.Num,vS p y1.Index.Coefs c,vI y1.Index.Const,vT y1.Read.Array.l,vS p1 y1.Read.Subs c1,vS p2 y1.Kids c2,vI y4.Kind,vI y4.Num,vS p3 y4.Index.Coefs c3,vI y4.Index.Const,vT y4.Read.Array.l,vS p4 y4.Read.Subs c4,vS p5 y4.Kids c5],hB b3 (cExpr y4 p3 c3 p4 c4 p5 c5),hB b1 (cExpr y1 p c p1 c1 p2 c2),hB b [vI kind,vI 0,z0,vI 0,vT ([]),z0,vS (some ⟨b4,0,none⟩) ([y1,y4]:List zF) 2]] rfl rfl rfl rfl<|yF [] [(7,vI (W (y5 + 1)))]<|zD<|yC<|xG 0 rfl ?_;intro I06 le6 hl0;have h11:=SL.of_frozen hl0 le6 h10;obtain rfl:=zB N;exact xH ⟨_,_,(.cell 2 rfl rfl (by kernel_rfl) (.tmp rfl ResV.nil)),yD,⟨_,_,rfl,rfl,⟨_,rfl,(xU ⟨_,_,_,rfl,(SL.nil _),(SL.nil _),h11⟩)⟩,rfl⟩⟩
  intro F_spec_l3Round ih_spec_l3Round s at0 levels r N I;refine yA (fn:=Tryz.f151) (c:=(bodyOf Tryz.f151)) Tryz.func151 rfl rfl ?_;rintro B - -;have H:=iS I;refine yO<|uQ zExpr ?_;intro b hb;refine yF [] []<|yI<|yK ?_;obtain ⟨o0,ho0,hMc⟩:=zC N;refine yU (fun I' hs' m'=>∃ (t26:Bool),o0=t26∧I.le I'∧hs'=[hB b zExpr]∧m'=[(0,vT s.l),(1,vI at0),(2,vI levels),(6,vP b 0),(26,.bool t26)]) ?_ ?_
  · have H:=iS I;refine zQ<|yH 3 [] [(17,.bool (decide (levels < 1)))] ?_;cases hc:(decide (levels < 1)) with
    | true =>
     have hM0:=zU hc ho0
     try rw [hc]
     exact yF [] [(26,vY)]<|yR [(0,vT s.l),(1,vI at0),(2,vI levels),(6,vP b 0),(26,vY)]<|zY ⟨_,(zB hM0).symm,H,rfl,rfl⟩
    | false =>
     have hM01:=zS hc ho0
     try rw [hc]
     refine yH 7 [] [(21,.bool (decide (at0 < 0)))] ?_;cases hc1:(decide (at0 < 0)) with
     | true =>
      have hM02:=zU hc1 hM01
      try rw [hc1]
      exact yF [] [(26,vY)]<|yR [(0,vT s.l),(1,vI at0),(2,vI levels),(6,vP b 0),(26,vY)]<|zY ⟨_,(zB hM02).symm,H,rfl,rfl⟩
     | false =>
      have hM03:=zS hc1 hM01
      try rw [hc1]
      exact yF [] [(26,.bool (decide (at0 ≥ (s.l.length:Int))))]<|yR [(0,vT s.l),(1,vI at0),(2,vI levels),(6,vP b 0),(26,.bool (decide (at0 ≥ (s.l.length:Int))))]<|zY ⟨_,(zB hM03).symm,H,rfl,rfl⟩
  rintro I0 hs2 m2 ⟨t26,heq,le,rfl,rfl⟩;subst o0;have H:=H.trans le;refine zD<|yM hMc ?_ ?_
  · intro hc2 N;refine yO<|yH 1 [] [(27,vA zExpr)]<|xQ 0 zExpr [hB b zExpr] rfl rfl rfl rfl<|yF [] [(7,vI (-1))]<|zD<|yC<|zM ?_;obtain rfl:=zB N;exact xH ⟨_,_,(.cell 0 rfl rfl (by kernel_rfl) (.tmp rfl ResV.nil)),yD,⟨_,_,rfl,rfl,⟨_,rfl,(xU ⟨_,_,_,rfl,(SL.nil _),(SL.nil _),(SL.nil _)⟩)⟩,rfl⟩⟩
  intro hc2 N;refine zX<|yI<|zV<|yO<|yH 2 [] [(29,vT s.l),(30,vI at0)]<|bE N fun b1 hy N=>eC rfl rfl hy<|yF [] [(28,.bool ((b1.toNat:Int) == 123))]<|zD<|yM N ?_ ?_
  · intro hc3 N;refine yO<|yH 2 [] [(33,vT s.l),(34,vI at0)]<|bE N fun y hy1 N=>kE (zAW s at0 (125:UInt8) _ hy1 ) fun I01 le1=>yF [] [(8,vI y)]<|yI<|yE [(37,.bool (decide (y < 0)))]<|zD<|yM N ?_ ?_
    · intro hc4 N;refine yO<|yH 1 [] [(38,vA zExpr)]<|xQ 0 zExpr [hB b zExpr] rfl rfl rfl rfl<|yF [] [(7,vI (-1))]<|zD<|yC<|zM<|yB<|zM ?_;obtain rfl:=zB N;exact xH ⟨_,_,(.cell 0 rfl rfl (by kernel_rfl) (.tmp rfl ResV.nil)),yD,⟨_,_,rfl,rfl,⟨_,rfl,(xU ⟨_,_,_,rfl,(SL.nil _),(SL.nil _),(SL.nil _)⟩)⟩,rfl⟩⟩
    intro hc4 N;refine zX<|xI<|yH 4 [] [(40,vT s.l),(42,vI (W (at0 + 1))),(43,vI y)]<|bE N fun s1 hy2 N=>zFH rfl hy2 ?_;obtain ⟨⟨y2,y3⟩,hy3,N⟩:=zC N;refine xW (fA s1 _ hy3 ) ?_;rintro I02 hs2 v2 k2 le2 - ⟨v01,v02,rfl,rfl,⟨cs,rfl,h1⟩,rfl⟩ -;obtain ⟨p,c,rfl,h3⟩:=yQ h1;refine yH 9 [] [(46,vA (cAff y2 p c)),(47,.bool y3)]<|uQ [z0,vI 0] ?_;intro b2 hb1;refine xQ 0 (cAff y2 p c) [hB b2 (cAff y2 p c),hB b zExpr] rfl rfl rfl rfl<|yF [] []<|xI<|yH 4 [0] [(49,vA [vI 2,vI 0,vS p y2.Coefs c,vI y2.Const,vT ([]),z0,z0]),(51,vI (W (y + 1)))]<|xQ 1 [vI 2,vI 0,vS p y2.Coefs c,vI y2.Const,vT ([]),z0,z0] [hB b2 (cAff y2 p c),hB b [vI 2,vI 0,vS p y2.Coefs c,vI y2.Const,vT ([]),z0,z0]] rfl rfl rfl rfl<|yF [] [(7,vI (W (y + 1)))]<|zD<|yC<|yB<|zM ?_;obtain rfl:=zB N;exact xH ⟨_,_,(.cell 1 rfl rfl (by kernel_rfl) (.tmp rfl ResV.nil)),yD,⟨_,_,rfl,rfl,⟨_,rfl,(xU ⟨_,_,_,rfl,h3,(SL.nil _),(SL.nil _)⟩)⟩,rfl⟩⟩
  intro hc3 N;refine yK ?_;obtain ⟨o01,ho01,hMc1⟩:=zC N;refine yU (fun I' hs' m'=>∃ (t52:Bool),o01=t52∧I0.le I'∧hs'=[hB b zExpr]∧m'=[(0,vT s.l),(1,vI at0),(2,vI levels),(6,vP b 0),(52,.bool t52)]) ?_ ?_
  · have H:=iS I0;refine zQ<|yH 2 [] [(53,vT s.l),(54,vI at0)] ?_;obtain ⟨b3,hy4,N⟩:=zC ho01;refine eC rfl rfl hy4<|yH 5 [] [(57,.bool (decide ((b3.toNat:Int) ≥ 65)))] ?_;cases hc5:(decide ((b3.toNat:Int) ≥ 65)) with
    | true =>
     have hM04:=zU hc5 N
     try rw [hc5]
     refine yH 7 [] [(58,vT s.l),(59,vI at0)] ?_;obtain ⟨b4,hy5,N⟩:=zC hM04;exact eC rfl rfl hy5<|yF [] [(52,.bool (decide ((b4.toNat:Int) ≤ 68)))]<|yR [(0,vT s.l),(1,vI at0),(2,vI levels),(6,vP b 0),(52,.bool (decide ((b4.toNat:Int) ≤ 68)))]<|zY ⟨_,(zB N).symm,H,rfl,rfl⟩
    | false =>
     have hM05:=zS hc5 N
     try rw [hc5]
     exact yF [] [(52,vF)]<|yR [(0,vT s.l),(1,vI at0),(2,vI levels),(6,vP b 0),(52,vF)]<|zY ⟨_,(zB hM05).symm,H,rfl,rfl⟩
  rintro I03 hs2 m2 ⟨t52,heq1,le3,rfl,rfl⟩;subst o01;refine zD<|yM hMc1 ?_ ?_
  · intro hc6 N;refine yO<|yH 2 [] [(64,vT s.l),(65,vI at0)] ?_;obtain ⟨⟨y5,y6⟩,hy6,N⟩:=zC N;refine xW (jX s at0 _ hy6 ) ?_;rintro I04 hs2 v2 k2 le4 - ⟨v04,v05,rfl,rfl,⟨cs1,rfl,h4⟩,rfl⟩ -;obtain ⟨p1,c1,rfl,h6⟩:=pE h4;refine yH 6 [] [(67,vA (cAccess y5 p1 c1)),(68,vI y6)]<|uQ [vT ([]),z0] ?_;intro b5 hb2;refine xQ 0 (cAccess y5 p1 c1) [hB b5 (cAccess y5 p1 c1),hB b zExpr] rfl rfl rfl rfl<|yF [] [(12,vI y6)]<|xI<|yH 3 [0] [(70,vA [vI 3,vI 0,z0,vI 0,vT y5.Array.l,vS p1 y5.Subs c1,z0]),(71,vI y6)]<|xQ 1 [vI 3,vI 0,z0,vI 0,vT y5.Array.l,vS p1 y5.Subs c1,z0] [hB b5 (cAccess y5 p1 c1),hB b [vI 3,vI 0,z0,vI 0,vT y5.Array.l,vS p1 y5.Subs c1,z0]] rfl rfl rfl rfl<|yF [] [(7,vI y6)]<|zD<|yC<|yB<|zM ?_;obtain rfl:=zB N;exact xH ⟨_,_,(.cell 1 rfl rfl (by kernel_rfl) (.tmp rfl ResV.nil)),yD,⟨_,_,rfl,rfl,⟨_,rfl,(xU ⟨_,_,_,rfl,(SL.nil _),h6,(SL.nil _)⟩)⟩,rfl⟩⟩
  intro hc6 N;refine yO<|yH 2 [] [(73,vT s.l),(74,vI at0)]<|bE N fun b6 hy7 N=>eC rfl rfl hy7<|yF [] [(72,.bool ((b6.toNat:Int) == 40))]<|zD<|yM N ?_ ?_
  · intro hc7 N;refine yO<|yH 5 [] [(77,vT s.l),(79,vI (W (at0 + 1))),(81,vI (W (levels - 1)))] ?_;obtain ⟨⟨y8,y9⟩,hy8,N⟩:=zC N;refine xW (ih_spec_l3Round s (W (at0 + 1)) (W (levels - 1)) _ hy8 ) ?_;rintro I05 hs2 v2 k2 le5 - ⟨v07,v08,rfl,rfl,⟨cs2,rfl,h7⟩,rfl⟩ -;obtain ⟨p2,c2,p3,c3,p4,c4,rfl,h9,h10,h11⟩:=uT h7;refine yH 8 [] [(83,vA (cExpr y8 p2 c2 p3 c3 p4 c4)),(84,vI y9)]<|xQ 0 (cExpr y8 p2 c2 p3 c3 p4 c4) [hB b (cExpr y8 p2 c2 p3 c3 p4 c4)] rfl rfl rfl rfl<|yF [] [(7,vI y9)]<|zD<|yC<|yB<|zM ?_;obtain rfl:=zB N;exact xH ⟨_,_,(.cell 0 rfl rfl (by kernel_rfl) (.tmp rfl ResV.nil)),yD,⟨_,_,rfl,rfl,⟨_,rfl,(xU ⟨_,_,_,rfl,h9,h10,h11⟩)⟩,rfl⟩⟩
  intro hc7 N;refine zX<|zT<|xI<|yH 2 [] [(86,vT s.l),(87,vI at0)] ?_;obtain ⟨⟨y11,y12⟩,hy9,N⟩:=zC N;refine xW (dN s at0 _ hy9 ) ?_;rintro I06 hs2 v2 k2 le6 - ⟨v012,v013,rfl,rfl,rfl,rfl⟩ -;refine yF [] [(13,vI y11),(14,vI y12)]<|yI<|yE [(93,.bool (y12 == at0))]<|zD<|yM N ?_ ?_
  · intro hc8 N;refine yO<|yH 1 [] [(94,vA zExpr)]<|xQ 0 zExpr [hB b zExpr] rfl rfl rfl rfl<|yF [] [(7,vI (-1))]<|zD<|yC<|zM ?_;obtain rfl:=zB N;exact xH ⟨_,_,(.cell 0 rfl rfl (by kernel_rfl) (.tmp rfl ResV.nil)),yD,⟨_,_,rfl,rfl,⟨_,rfl,(xU ⟨_,_,_,rfl,(SL.nil _),(SL.nil _),(SL.nil _)⟩)⟩,rfl⟩⟩
  intro hc8 N;refine zX<|xI<|yH 3 [] [(96,vA [vI 1,vI y11,z0,vI 0,vT ([]),z0,z0]),(97,vI y12)]<|xQ 0 [vI 1,vI y11,z0,vI 0,vT ([]),z0,z0] [hB b [vI 1,vI y11,z0,vI 0,vT ([]),z0,z0]] rfl rfl rfl rfl<|yF [] [(7,vI y12)]<|zD<|yC ?_;obtain rfl:=zB N;exact xH ⟨_,_,(.cell 0 rfl rfl (by kernel_rfl) (.tmp rfl ResV.nil)),yD,⟨_,_,rfl,rfl,⟨_,rfl,(xU ⟨_,_,_,rfl,(SL.nil _),(SL.nil _),(SL.nil _)⟩)⟩,rfl⟩⟩
theorem zDk:∀ s at0 levels r,rP s at0 levels=some r→∀ {I:Imm} ,Ret Tryz.prog 151 [vT s.l,vI at0,vI levels] I [] (jR  r):=zDN.2
def tQ (list:(List zA)) (out:Str) (i:Int):Option (Str):=do
 if (decide (i < (list.length:Int))) then
  let out2←(do
    if (decide (i > 0)) then
     let s←cat out (⟨[44]⟩:Str)
     pure (id s)
    else
     pure (id out)
      : Option Str)
  let x←idx list i
  let y←nL x
  let s1←cat out2 y
  tQ list s1 (W (i + 1))
 else
  pure (id out)
 partial_fixpoint
theorem zA0 (list:(List zA)):∀ (out:Str) (i:Int) (o:Str),tQ list out i=some o→∀ {B}{I0 I:Imm}{Q p c},I0.le I→(S4 I p list c)→NG Q→NO Q→(∀ (I':Imm) (out1:Str),o=out1→I0.le I'→T 23 B Q (.exit 0) I' [] [(3,vT out1.l)])→J Tryz.prog 23 B (nav (bodyOf Tryz.f182) [1,1,0,1,0]) Q I [] [(0,vS p list c),(3,vT out.l),(4,vI i)]:=by
 refine tQ.partial_correctness list _ fun self ih out i o N B I0 I Q p c H h hg ho hx=>yY hg ho<|yK<|yE [(8,.bool (decide (i < (list.length:Int))))]<|zD<|yM N ?_ ?_
 · intro hc N;refine zX<|yI<|zV<|yK<|yE [(12,.bool (decide (i > 0)))]<|zD ?_;obtain ⟨o0,ho0,hMc⟩:=zC N;refine yU (fun I' hs' m'=>∃ (out2:Str),o0=out2∧I.le I'∧hs'=[]∧m'=[(0,vS p list c),(3,vT out2.l),(4,vI i)]) ?_ ?_
   · have H:=iS I;refine yM ho0 ?_ ?_
     · intro hc1 N;exact zQ<|yH 1 [] [(13,vT out.l)]<|bE N fun s hy N=>fN rfl hy<|yF [] [(3,vT s.l)]<|yR [(0,vS p list c),(3,vT s.l),(4,vI i)]<|zY ⟨_,(zB N).symm,H,rfl,rfl⟩
     intro hc1 N;exact zX<|yR [(0,vS p list c),(3,vT out.l),(4,vI i)]<|zY ⟨_,(zB N).symm,H,rfl,rfl⟩
   rintro I0 hs2 m2 ⟨out2,heq,le,rfl,rfl⟩;subst o0;have h:=h.mono le;have H:=H.trans le;refine zD<|zQ<|yH 3 [] [(15,vT out2.l),(16,vS p list c),(17,vI i)] ?_;obtain ⟨x,hy1,N⟩:=zC hMc;refine xV rfl rfl h hy1 ?_;intro ad ccs hat hrep;obtain ⟨p1,c1,rfl,h1⟩:=yQ hrep;refine xR 0 hat (cAff x p1 c1) (vA (cAff x p1 c1)) rfl<|bE N fun y hy2 N=>xW (fU x _ hy2 h1) ?_;rintro I01 hs2 v2 k2 le1 - ⟨v01,rfl,rfl,rfl⟩ -;have h:=h.mono le1;have H:=H.trans le1;obtain ⟨s1,hy3,N⟩:=zC N;exact fN rfl hy3<|yF [] [(3,vT s1.l)]<|zT<|zD<|zQ<|yF [] [(4,vI (W (i + 1)))]<|yZ<|wS [(0,vS p list c),(3,vT s1.l),(4,vI (W (i + 1)))]<|ih s1 (W (i + 1)) _ N H h hg ho hx
 intro hc N;exact yX<|zL<|zL<|yR [(3,vT out.l)]<|hx _ _ (zB N).symm H
def oY (list:(List zA)):Option (Str):=do
 let out1←tQ list (⟨[]⟩:Str) 0
 pure (id out1)
theorem zBe:∀ list r,oY list=some r→∀ {I:Imm}{p c},(S4 I p list c)→Ret Tryz.prog 182 [vS p list c] I [] (sZ  r):=by
 intro list r N I p c h;unfold oY at N;refine yA (fn:=Tryz.f182) (c:=(bodyOf Tryz.f182)) Tryz.func182 rfl rfl ?_;rintro B - -;refine yE []<|wR [(3,vT ([]))]<|yI<|yE [(4,vI 0)]<|zD<|zV<|wS [(0,vS p list c),(3,vT ([])),(4,vI 0)] ?_;obtain ⟨o01,ho01,hMl⟩:=zC N;refine zA0 list (⟨[]⟩:Str) 0 o01 ho01 iR h (fun _ _ _ h=>h) (fun _ _ h=>h) ?_;intro I02 out1 heq1 le2;subst o01;refine zW<|wR [(2,vT out1.l)]<|zD<|yC ?_;obtain rfl:=zB hMl;exact wY
def rV (a0:zK):Option (Str):=do
 let s←cat a0.Array (⟨[91]⟩:Str)
 let y←oY a0.Subs
 let s1←cat s y
 let s2←cat s1 (⟨[93]⟩:Str)
 pure (id s2)
theorem gQ:∀ a0 r,rV a0=some r→∀ {I:Imm}{p c},(S4 I p a0.Subs c)→Ret Tryz.prog 173 [vA (cAccess a0 p c)] I [] (sZ  r):=by
 intro a0 r N I p c h;unfold rV at N;refine yA (fn:=Tryz.f173) (c:=(bodyOf Tryz.f173)) Tryz.func173 rfl rfl ?_;rintro B - -;have H:=iS I;refine yO<|tA (cAccess a0 p c) ?_;intro b hb;refine yF [] []<|zD<|yK ?_;obtain ⟨s,hy,N⟩:=zC N;obtain ⟨y,hy1,N⟩:=zC N;obtain ⟨s1,hy2,N⟩:=zC N;obtain ⟨s2,hy3,N⟩:=zC N;refine vQ [.p (vP b 0) [],.p (vT a0.Array.l) [0],.q (vT s.l),.p (vP b 1) [],.p (vS p a0.Subs c) [0],.q (vT y.l),.q (vT s1.l),.q (vT s2.l)] [[],[(0,false)],[(1,false)],[],[(3,false)],[(4,false)],[(2,false),(5,false)],[(6,false)]] [hB b (cAccess a0 p c)] [] [(7,false)] (zE [0] rfl (by decide)) ?_ ?_
 · refine Op<|Op<|Oq ?_<|Op<|Op<|Oq ?_<|Oq ?_<|Oq ?_<|On
   · intro I1 hf le1;exact yV [(4,vT a0.Array.l)]<|fN rfl hy<|xP iR
   · intro I1 hf le1;refine yV [(7,vS p a0.Subs c)] ?_;have H:=iS I1;have h:=h.mono le1;refine xW (zBe a0.Subs _ hy1 h) ?_;rintro I0 hs2 v2 k2 le - ⟨v0,rfl,rfl,rfl⟩ -;have H:=H.trans le;exact xP H
   · intro I1 hf le1;exact yV [(5,vT s.l),(8,vT y.l)]<|fN rfl hy2<|xP iR
   intro I1 hf le1;exact yV [(9,vT s1.l)]<|fN rfl hy3<|xP iR
 intro I01 le1;refine yV [(10,vT s2.l)] ?_;refine yF [] [(2,vT s2.l)]<|zD<|yC ?_;obtain rfl:=zB N;exact wY
def rF (e0:zF):Option (Str):=do
 if (e0.Kind == 1) then
  let y←rE e0.Num
  pure (id y)
 else
  if (e0.Kind == 2) then
   let y1←nL e0.Index
   let s←cat (⟨[123]⟩:Str) y1
   let s1←cat s (⟨[125]⟩:Str)
   pure (id s1)
  else
   if (e0.Kind == 3) then
    let y2←rV e0.Read
    pure (id y2)
   else
    let x←idx e0.Kids 0
    let y3←rF (same x)
    let s2←cat (⟨[40]⟩:Str) y3
    let s3←sslc (⟨[43,45,42]⟩:Str) (W (e0.Kind - 4)) (W ((W (e0.Kind - 4)) + 1))
    let s4←cat s2 s3
    let x1←idx e0.Kids 1
    let y4←rF (same x1)
    let s5←cat s4 y4
    let s6←cat s5 (⟨[41]⟩:Str)
    pure (id s6)
 partial_fixpoint
theorem zEc:∀ e0 r,rF e0=some r→∀ {I:Imm}{p c p1 c1 p2 c2},(S4 I p e0.Index.Coefs c)→(S4 I p1 e0.Read.Subs c1)→(S4 I p2 e0.Kids c2)→Ret Tryz.prog 174 [vA (cExpr e0 p c p1 c1 p2 c2)] I [] (sZ  r):=by
 refine rF.partial_correctness _ fun F_spec_l3Text ih_spec_l3Text e0 r N I p c p1 c1 p2 c2 h h1 h2=>yA (fn:=Tryz.f174) (c:=(bodyOf Tryz.f174)) Tryz.func174 rfl rfl ?_;rintro B - -;have H:=iS I;refine yO<|tA (cExpr e0 p c p1 c1 p2 c2) ?_;intro b hb;refine yF [] []<|yI<|yO<|yF [0] [(4,vI e0.Kind)]<|zD<|zV<|yE [(5,.bool (e0.Kind == 1))]<|zD<|yM N ?_ ?_
 · intro hc N;refine yO<|yH 2 [0] [(8,vI e0.Num)]<|bE N fun y hy N=>xW (fT e0.Num _ hy ) ?_;rintro I0 hs2 v2 k2 le - ⟨v0,rfl,rfl,rfl⟩ -;refine yF [] [(2,vT y.l)]<|zD<|yC<|yB<|zM ?_;obtain rfl:=zB N;exact wY
 intro hc N;refine yE [(10,.bool (e0.Kind == 2))]<|zD<|yM N ?_ ?_
 · intro hc1 N;refine yO<|yH 2 [0] [(13,vA (cAff e0.Index p c))]<|bE N fun y1 hy1 N=>xW (fU e0.Index _ hy1 h) ?_;rintro I01 hs2 v2 k2 le1 - ⟨v01,rfl,rfl,rfl⟩ -;obtain ⟨s,hy2,N⟩:=zC N;refine fN rfl hy2<|bE N fun s1 hy3 N=>fN rfl hy3<|yF [] [(2,vT s1.l)]<|zD<|yC<|yB<|zM ?_;obtain rfl:=zB N;exact wY
 intro hc1 N;refine yE [(17,.bool (e0.Kind == 3))]<|zD<|yM N ?_ ?_
 · intro hc2 N;refine yO<|yH 2 [0] [(20,vA (cAccess e0.Read p1 c1))]<|bE N fun y2 hy4 N=>xW (gQ e0.Read _ hy4 h1) ?_;rintro I02 hs2 v2 k2 le2 - ⟨v02,rfl,rfl,rfl⟩ -;refine yF [] [(2,vT y2.l)]<|zD<|yC<|yB<|zM ?_;obtain rfl:=zB N;exact wY
 intro hc2 N;refine zX<|zT<|zD<|yK ?_;obtain ⟨x,hy5,N⟩:=zC N;obtain ⟨y3,hy6,N⟩:=zC N;obtain ⟨s2,hy7,N⟩:=zC N;obtain ⟨s3,hy8,N⟩:=zC N;obtain ⟨s4,hy9,N⟩:=zC N;obtain ⟨x1,hy10,N⟩:=zC N;obtain ⟨y4,hy11,N⟩:=zC N;obtain ⟨s5,hy12,N⟩:=zC N;obtain ⟨s6,hy13,N⟩:=zC N;refine vQ [.p (vP b 6) [],.p (vS p2 e0.Kids c2) [0],.x (fun I' v hx=>∃ ad p3 c3 p4 c4 p5 c5,v=.pointer (some ad)∧hx=[]∧(At I' ad (cExpr x p3 c3 p4 c4 p5 c5))∧(S4 I' p3 x.Index.Coefs c3)∧(S4 I' p4 x.Read.Subs c4)∧(S4 I' p5 x.Kids c5)),.x (fun I' v hx=>∃ p31 c31 p41 c41 p51 c51,v=vA (cExpr x p31 c31 p41 c41 p51 c51)∧hx=[]∧(S4 I' p31 x.Index.Coefs c31)∧(S4 I' p41 x.Read.Subs c41)∧(S4 I' p51 x.Kids c51)),.q (vT y3.l),.q (vT s2.l),.p (vP b 0) [],.p (vI e0.Kind) [0],.p (vI (W (e0.Kind - 4))) [],.p (vP b 0) [],.p (vI e0.Kind) [0],.p (vI (W (e0.Kind - 4))) [],.p (vI (W ((W (e0.Kind - 4)) + 1))) [],.q (vT s3.l),.q (vT s4.l),.p (vP b 6) [],.p (vS p2 e0.Kids c2) [0],.x (fun I' v hx=>∃ ad1 p6 c6 p7 c7 p8 c8,v=.pointer (some ad1)∧hx=[]∧(At I' ad1 (cExpr x1 p6 c6 p7 c7 p8 c8))∧(S4 I' p6 x1.Index.Coefs c6)∧(S4 I' p7 x1.Read.Subs c7)∧(S4 I' p8 x1.Kids c8)),.x (fun I' v hx=>∃ p61 c61 p71 c71 p81 c81,v=vA (cExpr x1 p61 c61 p71 c71 p81 c81)∧hx=[]∧(S4 I' p61 x1.Index.Coefs c61)∧(S4 I' p71 x1.Read.Subs c71)∧(S4 I' p81 x1.Kids c81)),.q (vT y4.l),.q (vT s5.l),.q (vT s6.l)] [[],[(0,false)],[(1,false)],[(2,false)],[(3,false)],[(4,false)],[],[(6,false)],[(7,false)],[],[(9,false)],[(10,false)],[(11,false)],[(8,false),(12,false)],[(5,false),(13,false)],[],[(15,false)],[(16,false)],[(17,false)],[(18,false)],[(14,false),(19,false)],[(20,false)]] [hB b (cExpr e0 p c p1 c1 p2 c2)] [] [(21,false)] (zE [0] rfl (by decide)) ?_ ?_
 · refine Op<|Op<|Ox ?_<|Ox ?_<|Oq ?_<|Oq ?_<|Op<|Op<|Op<|Op<|Op<|Op<|Op<|Oq ?_<|Oq ?_<|Op<|Op<|Ox ?_<|Ox ?_<|Oq ?_<|Oq ?_<|Oq ?_<|On
   · intro I1 hf le1;refine yV [(23,vS p2 e0.Kids c2)] ?_;have h2:=h2.mono le1;refine xV rfl rfl h2 hy5 ?_;intro ad ccs hat hrep;obtain ⟨p3,c3,p4,c4,p5,c5,rfl,h6,h7,h8⟩:=uT hrep;exact yS [] iR ⟨_,_,_,_,_,_,_,rfl,rfl,hat,h6,h7,h8⟩
   · intro I1 hf le1;refine zI ?_;rintro _ _ ⟨ad,p3,c3,p4,c4,p5,c5,rfl,rfl,hat,h6,h7,h8⟩;exact yV [(24,.pointer (some ad))]<|xR 0 hat (cExpr x p3 c3 p4 c4 p5 c5) (vA (cExpr x p3 c3 p4 c4 p5 c5)) rfl<|yS [] iR ⟨_,_,_,_,_,_,rfl,rfl,h6,h7,h8⟩
   · intro I1 hf le1;refine zI ?_;rintro _ _ ⟨p31,c31,p41,c41,p51,c51,rfl,rfl,h61,h71,h81⟩;refine yV [(25,vA (cExpr x p31 c31 p41 c41 p51 c51))] ?_;have H:=iS I1;refine xW (ih_spec_l3Text x _ hy6 h61 h71 h81) ?_;rintro I03 hs2 v2 k2 le3 - ⟨v06,rfl,rfl,rfl⟩ -;have H:=H.trans le3;exact xP H
   · intro I1 hf le1;exact yV [(26,vT y3.l)]<|fN rfl hy7<|xP iR
   · intro I1 hf le1;exact yV [(30,vI (W (e0.Kind - 4))),(34,vI (W ((W (e0.Kind - 4)) + 1)))]<|zFH rfl hy8<|xP iR
   · intro I1 hf le1;exact yV [(27,vT s2.l),(35,vT s3.l)]<|fN rfl hy9<|xP iR
   · intro I1 hf le1;refine yV [(38,vS p2 e0.Kids c2)] ?_;have h2:=h2.mono le1;refine xV rfl rfl h2 hy10 ?_;intro ad1 ccs1 hat1 hrep1;obtain ⟨p6,c6,p7,c7,p8,c8,rfl,h10,h11,h12⟩:=uT hrep1;exact yS [] iR ⟨_,_,_,_,_,_,_,rfl,rfl,hat1,h10,h11,h12⟩
   · intro I1 hf le1;refine zI ?_;rintro _ _ ⟨ad1,p6,c6,p7,c7,p8,c8,rfl,rfl,hat1,h10,h11,h12⟩;exact yV [(39,.pointer (some ad1))]<|xR 0 hat1 (cExpr x1 p6 c6 p7 c7 p8 c8) (vA (cExpr x1 p6 c6 p7 c7 p8 c8)) rfl<|yS [] iR ⟨_,_,_,_,_,_,rfl,rfl,h10,h11,h12⟩
   · intro I1 hf le1;refine zI ?_;rintro _ _ ⟨p61,c61,p71,c71,p81,c81,rfl,rfl,h101,h111,h121⟩;refine yV [(40,vA (cExpr x1 p61 c61 p71 c71 p81 c81))] ?_;have H:=iS I1;refine xW (ih_spec_l3Text x1 _ hy11 h101 h111 h121) ?_;rintro I04 hs2 v2 k2 le4 - ⟨v010,rfl,rfl,rfl⟩ -;have H:=H.trans le4;exact xP H
   · intro I1 hf le1;exact yV [(36,vT s4.l),(41,vT y4.l)]<|fN rfl hy12<|xP iR
   intro I1 hf le1;exact yV [(42,vT s5.l)]<|fN rfl hy13<|xP iR
 intro I05 le5;refine yV [(43,vT s6.l)] ?_;refine yF [] [(2,vT s6.l)]<|zD<|yC ?_;obtain rfl:=zB N;exact wY
def oZ (s:zR):Option (Str):=do
 let y←sB s 4
 if (!y) then
  pure (⟨[]⟩:Str)
 else
  let y1←rV s.Write
  let s1←cat y1 (⟨[61]⟩:Str)
  let y2←rF s.Value
  let s2←cat s1 y2
  pure (id s2)
theorem zBf:∀ s r,oZ s=some r→∀ {I:Imm}{p c p1 c1 p2 c2 p3 c3},(S4 I p s.Write.Subs c)→(S4 I p1 s.Value.Index.Coefs c1)→(S4 I p2 s.Value.Read.Subs c2)→(S4 I p3 s.Value.Kids c3)→Ret Tryz.prog 152 [vA (cStmt s p c p1 c1 p2 c2 p3 c3)] I [] (sZ  r):=by
 intro s r N I p c p1 c1 p2 c2 p3 c3 h h1 h2 h3;unfold oZ at N;refine yA (fn:=Tryz.f152) (c:=(bodyOf Tryz.f152)) Tryz.func152 rfl rfl ?_;rintro B - -;have H:=iS I;refine yO<|tA (cStmt s p c p1 c1 p2 c2 p3 c3) ?_;intro b hb;refine yF [] []<|yI<|yO<|yH 1 [0] [(3,vA (cStmt s p c p1 c1 p2 c2 p3 c3))]<|bE N fun y hy N=>uR (jP s 4 _ hy h h1 h2 h3) ?_;intro I0 le;have h:=h.mono le;have h1:=h1.mono le;have h2:=h2.mono le;have h3:=h3.mono le;have H:=H.trans le;refine yF [] [(5,.bool (!y))]<|zD<|yM N ?_ ?_
 · intro hc N;refine yE [(2,vT ([]))]<|zD<|yC<|zM ?_;obtain rfl:=zB N;exact wY
 intro hc N;refine zX<|zD<|yK ?_;obtain ⟨y1,hy1,N⟩:=zC N;obtain ⟨s1,hy2,N⟩:=zC N;obtain ⟨y2,hy3,N⟩:=zC N;obtain ⟨s2,hy4,N⟩:=zC N;refine vQ [.p (vP b 0) [],.p (vA (cAccess s.Write p c)) [0],.q (vT y1.l),.q (vT s1.l),.p (vP b 2) [],.p (vA (cExpr s.Value p1 c1 p2 c2 p3 c3)) [0],.q (vT y2.l),.q (vT s2.l)] [[],[(0,false)],[(1,false)],[(2,false)],[],[(4,false)],[(5,false)],[(3,false),(6,false)]] [hB b (cStmt s p c p1 c1 p2 c2 p3 c3)] [] [(7,false)] (zE [0] rfl (by decide)) ?_ ?_
 · refine Op<|Op<|Oq ?_<|Oq ?_<|Op<|Op<|Oq ?_<|Oq ?_<|On
   · intro I1 hf le1;refine yV [(7,vA (cAccess s.Write p c))] ?_;have H:=iS I1;have h:=h.mono le1;refine xW (gQ s.Write _ hy1 h) ?_;rintro I01 hs2 v2 k2 le1 - ⟨v01,rfl,rfl,rfl⟩ -;have H:=H.trans le1;exact xP H
   · intro I1 hf le1;exact yV [(8,vT y1.l)]<|fN rfl hy2<|xP iR
   · intro I1 hf le1;refine yV [(11,vA (cExpr s.Value p1 c1 p2 c2 p3 c3))] ?_;have H:=iS I1;have h1:=h1.mono le1;have h2:=h2.mono le1;have h3:=h3.mono le1;refine xW (zEc s.Value _ hy3 h1 h2 h3) ?_;rintro I02 hs2 v2 k2 le2 - ⟨v02,rfl,rfl,rfl⟩ -;have H:=H.trans le2;exact xP H
   intro I1 hf le1;exact yV [(9,vT s1.l),(12,vT y2.l)]<|fN rfl hy4<|xP iR
 intro I03 le3;refine yV [(13,vT s2.l)] ?_;refine yF [] [(2,vT s2.l)]<|zD<|yC ?_;obtain rfl:=zB N;exact wY
def zBI (r:zR×Bool):KT:=fun kk I' hs' v=>
  ∃ v0 v1,hs'=[]∧v=tupV [v0,v1]∧(∃ cs,v0=.agg ⟨cs⟩∧Rp.rep I' cs r.1)∧v1=.bool r.2
def nW (text:Str):Option (zR×Bool):=do
 if (decide ((text.l.length:Int) < 4)) then
  pure ((zR.mk (zK.mk (⟨[]⟩:Str) ([]:List zA)) (zF.mk 0 0 (zA.mk ([]:List Int) 0) (zK.mk (⟨[]⟩:Str) ([]:List zA)) ([]:List zF))),false)
 else
  let (y1,y2)←rA text 0
  let t25←(do
    if (decide (y2 < 0)) then
     pure true
    else
     pure (decide (y2 ≥ (text.l.length:Int)))
      : Option Bool)
  if t25 then
   pure ((zR.mk (zK.mk (⟨[]⟩:Str) ([]:List zA)) (zF.mk 0 0 (zA.mk ([]:List Int) 0) (zK.mk (⟨[]⟩:Str) ([]:List zA)) ([]:List zF))),false)
  else
   let (y4,y5)←rP text (W (y2 + 1)) 5
   let y6←oZ (zR.mk y1 y4)
   if (!(y6.l == text.l)) then
    pure ((zR.mk (zK.mk (⟨[]⟩:Str) ([]:List zA)) (zF.mk 0 0 (zA.mk ([]:List Int) 0) (zK.mk (⟨[]⟩:Str) ([]:List zA)) ([]:List zF))),false)
   else
    pure ((zR.mk y1 y4),true)
theorem zC3:∀ text r,nW text=some r→∀ {I:Imm} ,Ret Tryz.prog 120 [vT text.l] I [] (zBI  r):=by
 intro text r N I;unfold nW at N;refine yA (fn:=Tryz.f120) (c:=(bodyOf Tryz.f120)) Tryz.func120 rfl rfl ?_;rintro B - -;have H:=iS I;refine yO<|uQ [vT ([]),z0,vI 0,vI 0,z0,vI 0,vT ([]),z0,z0] ?_;intro b hb;refine yF [] []<|yI<|yE [(11,.bool (decide ((text.l.length:Int) < 4)))]<|zD<|yM N ?_ ?_
 · intro hc N;refine yO<|yH 1 [] [(12,vA [vT ([]),z0,vI 0,vI 0,z0,vI 0,vT ([]),z0,z0])]<|xQ 0 [vT ([]),z0,vI 0,vI 0,z0,vI 0,vT ([]),z0,z0] [hB b [vT ([]),z0,vI 0,vI 0,z0,vI 0,vT ([]),z0,z0]] rfl rfl rfl rfl<|yF [] [(3,vF)]<|zD<|yC<|zM ?_;obtain rfl:=zB N;exact xH ⟨_,_,(.cell 0 rfl rfl (by kernel_rfl) (.tmp rfl ResV.nil)),yD,⟨_,_,rfl,rfl,⟨_,rfl,(wT ⟨_,_,_,_,rfl,(SL.nil _),(SL.nil _),(SL.nil _),(SL.nil _)⟩)⟩,rfl⟩⟩
 intro hc N;refine zX<|xI<|yH 1 [] [(14,vT text.l)] ?_;obtain ⟨⟨y1,y2⟩,hy,N⟩:=zC N;refine xW (jX text 0 _ hy ) ?_;rintro I0 hs2 v2 k2 le - ⟨v0,v01,rfl,rfl,⟨cs,rfl,h⟩,rfl⟩ -;have H:=H.trans le;obtain ⟨p,c,rfl,h2⟩:=pE h;refine yH 5 [] [(16,vA (cAccess y1 p c)),(17,vI y2)]<|uQ [vT ([]),z0] ?_;intro b1 hb1;refine xQ 0 (cAccess y1 p c) [hB b1 (cAccess y1 p c),hB b [vT ([]),z0,vI 0,vI 0,z0,vI 0,vT ([]),z0,z0]] rfl rfl rfl rfl<|yF [] [(5,vI y2)]<|yI<|yK ?_;obtain ⟨o0,ho0,hMc⟩:=zC N;refine yU (fun I' hs' m'=>∃ (t25:Bool),o0=t25∧I0.le I'∧hs'=[hB b1 (cAccess y1 p c),hB b [vT ([]),z0,vI 0,vI 0,z0,vI 0,vT ([]),z0,z0]]∧m'=[(0,vT text.l),(2,vP b 0),(4,vP b1 0),(5,vI y2),(25,.bool t25)]) ?_ ?_
 · have H:=iS I0;refine zQ<|yH 3 [] [(20,.bool (decide (y2 < 0)))] ?_;cases hc1:(decide (y2 < 0)) with
   | true =>
    have hM0:=zU hc1 ho0
    try rw [hc1]
    exact yF [] [(25,vY)]<|yR [(0,vT text.l),(2,vP b 0),(4,vP b1 0),(5,vI y2),(25,vY)]<|zY ⟨_,(zB hM0).symm,H,rfl,rfl⟩
   | false =>
    have hM01:=zS hc1 ho0
    try rw [hc1]
    exact yF [] [(25,.bool (decide (y2 ≥ (text.l.length:Int))))]<|yR [(0,vT text.l),(2,vP b 0),(4,vP b1 0),(5,vI y2),(25,.bool (decide (y2 ≥ (text.l.length:Int))))]<|zY ⟨_,(zB hM01).symm,H,rfl,rfl⟩
 rintro I01 hs2 m2 ⟨t25,heq,le1,rfl,rfl⟩;subst o0;have h2:=h2.mono le1;refine zD<|yM hMc ?_ ?_
 · intro hc2 N;refine yO<|yH 1 [] [(26,vA [vT ([]),z0,vI 0,vI 0,z0,vI 0,vT ([]),z0,z0])]<|xQ 1 [vT ([]),z0,vI 0,vI 0,z0,vI 0,vT ([]),z0,z0] [hB b1 (cAccess y1 p c),hB b [vT ([]),z0,vI 0,vI 0,z0,vI 0,vT ([]),z0,z0]] rfl rfl rfl rfl<|yF [] [(3,vF)]<|zD<|yC<|zM ?_;obtain rfl:=zB N;exact xH ⟨_,_,(.cell 1 rfl rfl (by kernel_rfl) (.tmp rfl ResV.nil)),yD,⟨_,_,rfl,rfl,⟨_,rfl,(wT ⟨_,_,_,_,rfl,(SL.nil _),(SL.nil _),(SL.nil _),(SL.nil _)⟩)⟩,rfl⟩⟩
 intro hc2 N;refine zX<|xI<|yH 3 [] [(28,vT text.l),(30,vI (W (y2 + 1)))] ?_;obtain ⟨⟨y4,y5⟩,hy1,N⟩:=zC N;refine xW (zDk text (W (y2 + 1)) 5 _ hy1 ) ?_;rintro I02 hs2 v2 k2 le2 - ⟨v03,v04,rfl,rfl,⟨cs1,rfl,h3⟩,rfl⟩ -;have h2:=h2.mono le2;obtain ⟨p1,c1,p2,c2,p3,c3,rfl,h5,h6,h7⟩:=uT h3;refine yH 7 [] [(32,vA (cExpr y4 p1 c1 p2 c2 p3 c3)),(33,vI y5)]<|uQ zExpr ?_;intro b2 hb2;refine xQ 0 (cExpr y4 p1 c1 p2 c2 p3 c3) [hB b2 (cExpr y4 p1 c1 p2 c2 p3 c3),hB b1 (cAccess y1 p c),hB b [vT ([]),z0,vI 0,vI 0,z0,vI 0,vT ([]),z0,z0]] rfl rfl rfl rfl<|yF [] []<|xI<|yH 3 [1,0] [(36,vA [vT y1.Array.l,vS p y1.Subs c,vI y4.Kind,vI y4.Num,vS p1 y4.Index.Coefs c1,vI y4.Index.Const,vT y4.Read.Array.l,vS p2 y4.Read.Subs c2,vS p3 y4.Kids c3])]<|uQ [vT ([]),z0,vI 0,vI 0,z0,vI 0,vT ([]),z0,z0] ?_;intro b3 hb3;refine xQ 0 [vT y1.Array.l,vS p y1.Subs c,vI y4.Kind,vI y4.Num,vS p1 y4.Index.Coefs c1,vI y4.Index.Const,vT y4.Read.Array.l,vS p2 y4.Read.Subs c2,vS p3 y4.Kids c3] [hB b3 [vT y1.Array.l,vS p y1.Subs c,vI y4.Kind,vI y4.Num,vS p1 y4.Index.Coefs c1,vI y4.Index.Const,vT y4.Read.Array.l,vS p2 y4.Read.Subs c2,vS p3 y4.Kids c3],hB b2 (cExpr y4 p1 c1 p2 c2 p3 c3),hB b1 (cAccess y1 p c),hB b [vT ([]),z0,vI 0,vI 0,z0,vI 0,vT ([]),z0,z0]] rfl rfl rfl rfl<|yN rfl<|yI<|yO<|yH 1 [0] [(37,vA [vT y1.Array.l,vS p y1.Subs c,vI y4.Kind,vI y4.Num,vS p1 y4.Index.Coefs c1,vI y4.Index.Const,vT y4.Read.Array.l,vS p2 y4.Read.Subs c2,vS p3 y4.Kids c3])]<|bE N fun y6 hy2 N=>xW (zBf (zR.mk y1 y4) _ hy2 h2 h5 h6 h7) ?_;rintro I03 hs2 v2 k2 le3 - ⟨v08,rfl,rfl,rfl⟩ -;have h2:=h2.mono le3;have h5:=h5.mono le3;have h6:=h6.mono le3;have h7:=h7.mono le3;refine yF [] [(40,.bool (!(y6.l == text.l)))]<|zD<|yM N ?_ ?_
 · intro hc3 N;refine yO<|yH 1 [] [(41,vA [vT ([]),z0,vI 0,vI 0,z0,vI 0,vT ([]),z0,z0])]<|xQ 3 [vT ([]),z0,vI 0,vI 0,z0,vI 0,vT ([]),z0,z0] [hB b3 [vT y1.Array.l,vS p y1.Subs c,vI y4.Kind,vI y4.Num,vS p1 y4.Index.Coefs c1,vI y4.Index.Const,vT y4.Read.Array.l,vS p2 y4.Read.Subs c2,vS p3 y4.Kids c3],hB b2 (cExpr y4 p1 c1 p2 c2 p3 c3),hB b1 (cAccess y1 p c),hB b [vT ([]),z0,vI 0,vI 0,z0,vI 0,vT ([]),z0,z0]] rfl rfl rfl rfl<|yF [] [(3,vF)]<|zD<|yC<|zM ?_;obtain rfl:=zB N;exact xH ⟨_,_,(.cell 3 rfl rfl (by kernel_rfl) (.tmp rfl ResV.nil)),yD,⟨_,_,rfl,rfl,⟨_,rfl,(wT ⟨_,_,_,_,rfl,(SL.nil _),(SL.nil _),(SL.nil _),(SL.nil _)⟩)⟩,rfl⟩⟩
 intro hc3 N;refine zX<|xI<|yH 1 [0] [(42,vA [vT y1.Array.l,vS p y1.Subs c,vI y4.Kind,vI y4.Num,vS p1 y4.Index.Coefs c1,vI y4.Index.Const,vT y4.Read.Array.l,vS p2 y4.Read.Subs c2,vS p3 y4.Kids c3])]<|xQ 3 [vT y1.Array.l,vS p y1.Subs c,vI y4.Kind,vI y4.Num,vS p1 y4.Index.Coefs c1,vI y4.Index.Const,vT y4.Read.Array.l,vS p2 y4.Read.Subs c2,vS p3 y4.Kids c3] [hB b3 [vT y1.Array.l,vS p y1.Subs c,vI y4.Kind,vI y4.Num,vS p1 y4.Index.Coefs c1,vI y4.Index.Const,vT y4.Read.Array.l,vS p2 y4.Read.Subs c2,vS p3 y4.Kids c3],hB b2 (cExpr y4 p1 c1 p2 c2 p3 c3),hB b1 (cAccess y1 p c),hB b [vT y1.Array.l,vS p y1.Subs c,vI y4.Kind,vI y4.Num,vS p1 y4.Index.Coefs c1,vI y4.Index.Const,vT y4.Read.Array.l,vS p2 y4.Read.Subs c2,vS p3 y4.Kids c3]] rfl rfl rfl rfl<|yF [] [(3,vY)]<|zD<|yC ?_;obtain rfl:=zB N;exact xH ⟨_,_,(.cell 3 rfl rfl (by kernel_rfl) (.tmp rfl ResV.nil)),yD,⟨_,_,rfl,rfl,⟨_,rfl,(wT ⟨_,_,_,_,rfl,h2,h5,h6,h7⟩)⟩,rfl⟩⟩
def eX (r:(List zH)×Bool):KT:=fun kk I' hs' v=>
  ∃ v0 v1,hs'=[]∧v=tupV [v0,v1]∧SL I' v0 r.1∧v1=.bool r.2
def rQ (sizes:(List Int)) (out:List zH) (i:Int):Option (Out (List zH) ((List zH)×Bool)):=do
 if (decide (i < (sizes.length:Int))) then
  let t28←(do
    let x←idx sizes i
    if (decide (x < 0)) then
     pure true
    else
     let x1←idx sizes i
     pure (decide (x1 > 99))
      : Option Bool)
  if t28 then
   pure (.ret (([]:List zH),false))
  else
   let y←pA
   let x2←idx sizes i
   let y1←wJ x2
   let out2←app 48 out ([(zH.mk ([y]:List zA) ([y1]:List zA))]:List zH)
   rQ sizes out2 (W (i + 1))
 else
  pure (.done out)
 partial_fixpoint
theorem zBg (sizes:(List Int)):∀ (out:List zH) (i:Int) (o:Out (List zH) ((List zH)×Bool)),rQ sizes out i=some o→∀ {B}{I0 I:Imm}{Q p c p1 c1 cs},I0.le I→(S4 I p sizes c)→(RL I cs out)→NG Q→NO Q→(∀ (I':Imm) (out1:List zH) (p2:Option Addr) (c2:Nat) (cs1:List Value),o=(.done out1)→I0.le I'→(RL I' cs1 out1)→T 43 B Q (.exit 0) I' [hO zH (vS p2 out1 c2) cs1] [(4,vS p2 out1 c2)])→(∀ r I' hs' m',o=(.ret r)→I0.le I'→RS Tryz.prog Tryz.f121 B (eX  r) I' hs' m'→T 43 B Q .ret I' hs' m')→J Tryz.prog 43 B (nav (bodyOf Tryz.f121) [1,1,1,0,1,0]) Q I [hO zH (vS p1 out c1) cs] [(0,vS p sizes c),(4,vS p1 out c1),(5,vI i)]:=by
 refine rQ.partial_correctness sizes _ fun self ih out i o N B I0 I Q p c p1 c1 cs H h h3 hg ho hx hr=>yY hg ho<|yK<|yE [(14,.bool (decide (i < (sizes.length:Int))))]<|zD<|yM N ?_ ?_
 · intro hc1 N;refine zX<|yI<|zV<|yK<|yK ?_;obtain ⟨o0,ho0,hMc⟩:=zC N;refine yU (fun I' hs' m'=>∃ (t28:Bool),o0=t28∧I.le I'∧hs'=[hO zH (vS p1 out c1) cs]∧m'=[(0,vS p sizes c),(4,vS p1 out c1),(5,vI i),(28,.bool t28)]) ?_ ?_
   · have H:=iS I;refine zQ<|yH 2 [] [(17,vS p sizes c),(18,vI i)] ?_;obtain ⟨x,hy,N⟩:=zC ho0;refine xV rfl rfl h hy ?_;intro ad ccs hat hrep;obtain rfl:=hrep;refine xR 0 hat [vI x] (vI x) rfl<|yH 6 [] [(22,.bool (decide (x < 0)))] ?_;cases hc2:(decide (x < 0)) with
     | true =>
      have hM0:=zU hc2 N
      try rw [hc2]
      exact yF [] [(28,vY)]<|yR [(0,vS p sizes c),(4,vS p1 out c1),(5,vI i),(28,vY)]<|zY ⟨_,(zB hM0).symm,H,rfl,rfl⟩
     | false =>
      have hM01:=zS hc2 N
      try rw [hc2]
      refine yH 8 [] [(23,vS p sizes c),(24,vI i)] ?_;obtain ⟨x1,hy1,N⟩:=zC hM01;refine xV rfl rfl h hy1 ?_;intro ad1 ccs1 hat1 hrep1;obtain rfl:=hrep1;exact xR 0 hat1 [vI x1] (vI x1) rfl<|yF [] [(28,.bool (decide (x1 > 99)))]<|yR [(0,vS p sizes c),(4,vS p1 out c1),(5,vI i),(28,.bool (decide (x1 > 99)))]<|zY ⟨_,(zB N).symm,H,rfl,rfl⟩
   rintro I01 hs2 m2 ⟨t28,heq,le1,rfl,rfl⟩;subst o0;have h:=h.mono le1;have h3:=iM le1 h3;have H:=H.trans le1;refine zD<|yM hMc ?_ ?_
   · intro hc3 N;refine yO<|xX [] zH ?_;intro b1 hb1;have h5:RL I01 [] ([]:List zH):=rfl;refine yF [] [(2,vS (some ⟨b1,0,none⟩) ([]:List zH) 0),(3,vF)]<|zD<|yC<|zM<|yB<|zM<|zM<|xG 0 rfl ?_;intro I02 le2 hl01;have h6:=SL.of_frozen hl01 le2 h5;have H:=H.trans le2;exact hr _ _ _ _ (zB N).symm H ⟨_,_,(.tmp rfl (.tmp rfl ResV.nil)),yD,⟨_,_,rfl,rfl,h6,rfl⟩⟩
   intro hc3 N;refine zX<|zD ?_;obtain ⟨y,hy2,N⟩:=zC N;obtain ⟨x2,hy3,N⟩:=zC N;obtain ⟨y1,hy4,N⟩:=zC N;obtain ⟨out2,hy5,N⟩:=zC N;refine vQ [.p (vS p1 out c1) [],.x (fun I' v hx=>∃ p3 c3 cs2,v=vA (cAff y p3 c3)∧hx=[hO Int (vS p3 y.Coefs c3) cs2]∧(RL I' cs2 y.Coefs)),.x (fun I' v hx=>∃ b2,v=vS (some ⟨b2,0,none⟩) ([y]:List zA) 1∧hx=[]∧(SL I' (vS (some ⟨b2,0,none⟩) ([y]:List zA) 1) ([y]:List zA))),.p (vS p sizes c) [],.p (vI i) [],.x (fun I' v hx=>∃ ad2,v=.pointer (some ad2)∧hx=[]∧(At I' ad2 [vI x2])),.q (vI x2),.x (fun I' v hx=>∃ p4 c4 cs3,v=vA (cAff y1 p4 c4)∧hx=[hO Int (vS p4 y1.Coefs c4) cs3]∧(RL I' cs3 y1.Coefs)),.x (fun I' v hx=>∃ b3,v=vS (some ⟨b3,0,none⟩) ([y1]:List zA) 1∧hx=[]∧(SL I' (vS (some ⟨b3,0,none⟩) ([y1]:List zA) 1) ([y1]:List zA))),.x (fun I' v hx=>∃ b21 b31,v=vA [vS (some ⟨b21,0,none⟩) ([y]:List zA) 1,vS (some ⟨b31,0,none⟩) ([y1]:List zA) 1]∧hx=[]∧(SL I' (vS (some ⟨b21,0,none⟩) ([y]:List zA) 1) ([y]:List zA))∧(SL I' (vS (some ⟨b31,0,none⟩) ([y1]:List zA) 1) ([y1]:List zA))),.x (fun I' v hx=>∃ b4,v=vS (some ⟨b4,0,none⟩) ([(zH.mk ([y]:List zA) ([y1]:List zA))]:List zH) 1∧hx=[]∧(SL I' (vS (some ⟨b4,0,none⟩) ([(zH.mk ([y]:List zA) ([y1]:List zA))]:List zH) 1) ([(zH.mk ([y]:List zA) ([y1]:List zA))]:List zH))),.x (fun I' v hx=>∃ p5 c5 cs4,v=vS p5 out2 c5∧hx=[hO zH (vS p5 out2 c5) cs4]∧(RL I' cs4 out2))] [[],[],[(1,true)],[],[],[(3,false),(4,false)],[(5,false)],[(6,false)],[(7,true)],[(2,false),(8,false)],[(9,false)],[(0,false),(10,false),(13,true)]] [] [[hO zH (vS p1 out c1) cs]] [(11,true)] (zE [0] rfl (by decide)) ?_ ?_
   · refine Op<|Ox ?_<|Ox ?_<|Op<|Op<|Ox ?_<|Oq ?_<|Ox ?_<|Ox ?_<|Ox ?_<|Ox ?_<|Ox ?_<|On
     · intro I1 hf le1;refine yV [] ?_;have H:=iS I1;refine xW (nT  _ hy2 ) ?_;rintro I03 hs2 v2 k2 le3 - ⟨p3,c3,cs2,rfl,rfl,h7⟩ -;have H:=H.trans le3;exact yS [hO Int (vS p3 y.Coefs c3) cs2] H ⟨_,_,_,rfl,rfl,h7⟩
     · intro I1 hf le1;refine zI ?_;rintro _ _ ⟨p3,c3,cs2,rfl,rfl,h7⟩;refine yV [(31,vA (cAff y p3 c3))] ?_;have H:=iS I1;refine yJ 0 rfl ?_;intro I04 le4 hl02;have h8:=SL.of_frozen hl02 le4 h7;have H:=H.trans le4;refine xX (cAff y p3 c3) zA ?_;intro b2 hb2;have h9:RL I04 (cAff y p3 c3) ([y]:List zA):=⟨(cAff y p3 c3),_,rfl,rfl,(yP ⟨_,rfl,h8⟩),rfl⟩;refine yJ 0 rfl ?_;intro I05 le5 hl03;have h10:=SL.of_frozen hl03 le5 h9;have H:=H.trans le5;exact yS [] H ⟨_,rfl,rfl,h10⟩
     · intro I1 hf le1;refine yV [(33,vS p sizes c),(34,vI i)] ?_;have h:=h.mono le1;refine xV rfl rfl h hy3 ?_;intro ad2 ccs2 hat2 hrep2;obtain rfl:=hrep2;exact yS [] iR ⟨_,rfl,rfl,hat2⟩
     · intro I1 hf le1;refine zI ?_;rintro _ _ ⟨ad2,rfl,rfl,hat2⟩;exact yV [(35,.pointer (some ad2))]<|xR 0 hat2 [vI x2] (vI x2) rfl<|xP iR
     · intro I1 hf le1;refine yV [(36,vI x2)] ?_;have H:=iS I1;refine xW (vX x2 _ hy4 ) ?_;rintro I06 hs2 v2 k2 le6 - ⟨p4,c4,cs3,rfl,rfl,h11⟩ -;have H:=H.trans le6;exact yS [hO Int (vS p4 y1.Coefs c4) cs3] H ⟨_,_,_,rfl,rfl,h11⟩
     · intro I1 hf le1;refine zI ?_;rintro _ _ ⟨p4,c4,cs3,rfl,rfl,h11⟩;refine yV [(37,vA (cAff y1 p4 c4))] ?_;have H:=iS I1;refine yJ 0 rfl ?_;intro I07 le7 hl04;have h12:=SL.of_frozen hl04 le7 h11;have H:=H.trans le7;refine xX (cAff y1 p4 c4) zA ?_;intro b3 hb3;have h13:RL I07 (cAff y1 p4 c4) ([y1]:List zA):=⟨(cAff y1 p4 c4),_,rfl,rfl,(yP ⟨_,rfl,h12⟩),rfl⟩;refine yJ 0 rfl ?_;intro I08 le8 hl05;have h14:=SL.of_frozen hl05 le8 h13;have H:=H.trans le8;exact yS [] H ⟨_,rfl,rfl,h14⟩
     · intro I1 hf le1;refine zI ?_;rintro _ _ ⟨b2,rfl,rfl,h10⟩;refine zI ?_;rintro _ _ ⟨b3,rfl,rfl,h14⟩;exact yV [(32,vS (some ⟨b2,0,none⟩) ([y]:List zA) 1),(38,vS (some ⟨b3,0,none⟩) ([y1]:List zA) 1)]<|pH 10 [(39,vA [vS (some ⟨b2,0,none⟩) ([y]:List zA) 1,vS (some ⟨b3,0,none⟩) ([y1]:List zA) 1])]<|yS [] iR ⟨_,_,rfl,rfl,h10,h14⟩
     · intro I1 hf le1;refine zI ?_;rintro _ _ ⟨b21,b31,rfl,rfl,h101,h141⟩;refine yV [(39,vA [vS (some ⟨b21,0,none⟩) ([y]:List zA) 1,vS (some ⟨b31,0,none⟩) ([y1]:List zA) 1])] ?_;have H:=iS I1;refine xX [vS (some ⟨b21,0,none⟩) ([y]:List zA) 1,vS (some ⟨b31,0,none⟩) ([y1]:List zA) 1] zH ?_;intro b4 hb4;have h15:RL I1 [vS (some ⟨b21,0,none⟩) ([y]:List zA) 1,vS (some ⟨b31,0,none⟩) ([y1]:List zA) 1] ([(zH.mk ([y]:List zA) ([y1]:List zA))]:List zH):=⟨[vS (some ⟨b21,0,none⟩) ([y]:List zA) 1,vS (some ⟨b31,0,none⟩) ([y1]:List zA) 1],_,rfl,rfl,(oG ⟨_,_,rfl,h101,h141⟩),rfl⟩;refine yJ 0 rfl ?_;intro I09 le9 hl06;have h16:=SL.of_frozen hl06 le9 h15;have H:=H.trans le9;exact yS [] H ⟨_,rfl,rfl,h16⟩
     intro I1 hf le1;refine zI ?_;rintro _ _ ⟨rfl,rfl⟩;refine zI ?_;rintro _ _ ⟨b4,rfl,rfl,h16⟩;refine zI ?_;rintro _ _ rfl;refine yV [(30,vS p1 out c1),(40,vS (some ⟨b4,0,none⟩) ([(zH.mk ([y]:List zA) ([y1]:List zA))]:List zH) 1)] ?_;have h3:=iM le1 h3;obtain ⟨ccs3,k0,k01⟩:=h16;have h16:SL I1 (vS (some ⟨b4,0,none⟩) ([(zH.mk ([y]:List zA) ([y1]:List zA))]:List zH) 1) ([(zH.mk ([y]:List zA) ([y1]:List zA))]:List zH):=⟨_,k0,k01⟩;exact qF 146 2 0 rfl rfl rfl h3 (.inl k0) k01 hy5 fun p5 c5 cs4 h17=>uO (hs':=(hO zH (vS p5 out2 c5) cs4::hf)) rfl<|yS [hO zH (vS p5 out2 c5) cs4] iR ⟨_,_,_,rfl,rfl,h17⟩
   intro I010 le10;refine zI ?_;rintro _ _ ⟨p5,c5,cs4,rfl,rfl,h17⟩;refine yV [(0,vS p sizes c),(5,vI i),(41,vS p5 out2 c5)] ?_;have h:=h.mono le10;have H:=H.trans le10;exact yF [] [(4,vS p5 out2 c5)]<|zT<|zD<|zQ<|yF [] [(5,vI (W (i + 1)))]<|yZ<|wS [(0,vS p sizes c),(4,vS p5 out2 c5),(5,vI (W (i + 1)))]<|ih out2 (W (i + 1)) _ N H h h17 hg ho hx hr
 intro hc1 N;exact yX<|zL<|zL<|yR [(4,vS p1 out c1)]<|hx _ _ _ _ _ (zB N).symm H h3
def kL (sizes:(List Int)):Option ((List zH)×Bool):=do
 if (decide ((sizes.length:Int) > 4)) then
  pure (([]:List zH),false)
 else
  match←rQ sizes ([]:List zH) 0 with
  | .ret r0=>pure r0
  | .done out1 =>
   pure (out1,true)
theorem zDl:∀ sizes r,kL sizes=some r→∀ {I:Imm}{p c},(S4 I p sizes c)→Ret Tryz.prog 121 [vS p sizes c] I [] (eX  r):=by
 intro sizes r N I p c h;unfold kL at N;refine yA (fn:=Tryz.f121) (c:=(bodyOf Tryz.f121)) Tryz.func121 rfl rfl ?_;rintro B - -;refine yE []<|xI<|xX [] zH ?_;intro b hb;have h1:RL I [] ([]:List zH):=rfl;refine yF [] [(4,vS (some ⟨b,0,none⟩) ([]:List zH) 0)]<|yI<|yE [(9,.bool (decide ((sizes.length:Int) > 4)))]<|zD<|yM N ?_ ?_
 · intro hc N;refine yE [(2,vS (some ⟨b,0,none⟩) ([]:List zH) 0),(3,vF)]<|zD<|yC<|zM<|xG 0 rfl ?_;intro I0 le hl0;have h2:=SL.of_frozen hl0 le h1;obtain rfl:=zB N;exact xH ⟨_,_,(.tmp rfl (.tmp rfl ResV.nil)),yD,⟨_,_,rfl,rfl,h2,rfl⟩⟩
 intro hc N;refine zX<|yI<|yE [(5,vI 0)]<|zD<|zV<|wS [(0,vS p sizes c),(4,vS (some ⟨b,0,none⟩) ([]:List zH) 0),(5,vI 0)] ?_;obtain ⟨o01,ho01,hMl⟩:=zC N;refine zBg sizes ([]:List zH) 0 o01 ho01 iR h h1 (fun _ _ _ h=>h) (fun _ _ h=>h) ?_ ?_
 · intro I011 out1 p2 c2 cs1 heq1 le11 h4;subst o01;refine zW<|wR [(2,vS p2 out1 c2),(3,vY)]<|zD<|yC<|xG 0 rfl ?_;intro I012 le12 hl07;have h18:=SL.of_frozen hl07 le12 h4;obtain rfl:=zB hMl;exact xH ⟨_,_,(.tmp rfl (.tmp rfl ResV.nil)),yD,⟨_,_,rfl,rfl,h18,rfl⟩⟩
 intro r0 I9 hs9 m9 heq9 le9 hrs9;subst heq9;refine yB<|zM ?_;obtain rfl:=zB hMl;exact xH hrs9
def dP (b0:Nat) (r:zN×zO):KT:=fun kk I' hs' v=>
  ∃ v0 k0,hs'=[.blk b0 ⟨k0⟩]∧v=tupV [v0]∧(∃ cs,v0=.agg ⟨cs⟩∧Rp.rep I' cs r.1)∧Rp.rep I' k0 r.2
def qP (y1:(List zH)) (Body2:List zR) (n0:Int) (x6:zO):Option ((List zR×zO)):=do
 if (decide (n0 < 5)) then
  let (y7,y8)←jB x6 (y1.length:Int)
  let y9←nJ
  let (y11,y12)←pD y9 (zN.mk y1 ([y7]:List zR))
  if y12 then
   let l←app 152 Body2 ([y7]:List zR)
   pure (l,y8)
  else
   qP y1 Body2 (W (n0 + 1)) y8
 else
  pure (Body2,x6)
 partial_fixpoint
theorem zC4 (y1:(List zH)) (Body2:List zR):∀ (n0:Int) (x6:zO) (o:(List zR×zO)),qP y1 Body2 n0 x6=some o→∀ {B}{I0 I:Imm}{Q}{i:Int}{x:zN}{k0:Int}{r01:Nat}{b:Nat}{p1 c1 p2 c2 p7 c7}{b1:Nat}{p14 c14 cs2 p15 c15},I0.le I→(S4 I p7 y1 c7)→(S4 I p1 x.Nest c1)→(S4 I p2 x.Body c2)→(RL I cs2 Body2)→(S4 I p15 x6.b c15)→NG Q→NO Q→(∀ (I':Imm) (Body3:List zR) (x7:zO) (p16:Option Addr) (c16:Nat) (cs3:List Value) (p17:Option Addr) (c17:Nat),o=(Body3,x7)→I0.le I'→(RL I' cs3 Body3)→(S4 I' p17 x7.b c17)→T 81 B Q (.exit 4) I' [hO zR (vS p16 Body3 c16) cs3,hB r01 (cRd x7 p17 c17),hB b1 [vS p7 y1 c7,vS p16 Body3 c16],hB b (cPart x p1 c1 p2 c2)] [(0,vP r01 0),(2,vP b 0),(3,vI i),(4,vP b1 0),(5,vI k0)])→J Tryz.prog 81 B (nav (bodyOf Tryz.f87) [1,0,1,0,0,1,0,0,1,0,1,0,0,1,0,0,1,0]) Q I [hO zR (vS p14 Body2 c14) cs2,hB r01 (cRd x6 p15 c15),hB b1 [vS p7 y1 c7,vS p14 Body2 c14],hB b (cPart x p1 c1 p2 c2)] [(0,vP r01 0),(2,vP b 0),(3,vI i),(4,vP b1 0),(5,vI k0),(6,vI n0)]:=by
 refine qP.partial_correctness y1 Body2 _ fun self ih n0 x6 o N B I0 I Q i x k0 r01 b p1 c1 p2 c2 p7 c7 b1 p14 c14 cs2 p15 c15 H h7 h1 h2 h20 h21 hg ho hx=>yY hg ho<|yK<|yE [(31,.bool (decide (n0 < 5)))]<|zD<|yM N ?_ ?_
 · intro hc2 N;refine zX<|yI<|zV<|yO<|yH 4 [2] [(34,vP r01 0),(37,vI (y1.length:Int))]<|rW (zE [1,0,2,3] (hs':=[hB r01 (cRd x6 p15 c15),hO zR (vS p14 Body2 c14) cs2,hB b1 [vS p7 y1 c7,vS p14 Body2 c14],hB b (cPart x p1 c1 p2 c2)]) rfl (by decide)) ?_;obtain ⟨⟨y7,y8⟩,hy2,N⟩:=zC N;refine sY [hB r01 (cRd x6 p15 c15)] [hO zR (vS p14 Body2 c14) cs2,hB b1 [vS p7 y1 c7,vS p14 Body2 c14],hB b (cPart x p1 c1 p2 c2)] (zE8 x6 (y1.length:Int) _ hy2 h21) ?_;rintro I03 hs2 v2 k2 le3 - ⟨v04,kk2,rfl,rfl,⟨cs4,rfl,h24⟩,h25⟩ -;have h20:=iM le3 h20;have h7:=h7.mono le3;have h1:=h1.mono le3;have h2:=h2.mono le3;have H:=H.trans le3;obtain ⟨p18,c18,p19,c19,p20,c20,p21,c21,rfl,h26,h27,h28,h29⟩:=rH h24;obtain ⟨p22,c22,rfl,h30⟩:=yL h25;refine uQ [vT ([]),z0,vI 0,vI 0,z0,vI 0,vT ([]),z0,z0] ?_;intro b3 hb3;refine xQ 0 (cStmt y7 p18 c18 p19 c19 p20 c20 p21 c21) [hB b3 (cStmt y7 p18 c18 p19 c19 p20 c20 p21 c21),hB r01 (cRd y8 p22 c22),hO zR (vS p14 Body2 c14) cs2,hB b1 [vS p7 y1 c7,vS p14 Body2 c14],hB b (cPart x p1 c1 p2 c2)] rfl rfl rfl rfl<|yN rfl<|zD<|yK ?_;obtain ⟨y9,hy3,N⟩:=zC N;obtain ⟨⟨y11,y12⟩,hy4,N⟩:=zC N;refine vQ [.x (fun I' v hx=>∃ p23 c23,v=vS p23 y9 c23∧hx=[]∧(S4 I' p23 y9 c23)),.p (vP b1 0) [],.p (vS p7 y1 c7) [3],.p (vA (cStmt y7 p18 c18 p19 c19 p20 c20 p21 c21)) [0],.x (fun I' v hx=>∃ b4,v=vS (some ⟨b4,0,none⟩) ([y7]:List zR) 1∧hx=[]∧(SL I' (vS (some ⟨b4,0,none⟩) ([y7]:List zR) 1) ([y7]:List zR))),.x (fun I' v hx=>∃ b41,v=vA [vS p7 y1 c7,vS (some ⟨b41,0,none⟩) ([y7]:List zR) 1]∧hx=[]∧(SL I' (vS (some ⟨b41,0,none⟩) ([y7]:List zR) 1) ([y7]:List zR))),.q (.tuple ⟨[vI y11,.bool y12]⟩),.p (.tuple ⟨[vI y11,.bool y12]⟩) [],.p (vI y11) [],.p (.bool y12) [],.p (vI y11) []] [[],[],[(1,false)],[],[(3,false)],[(2,false),(4,false)],[(0,false),(5,false)],[(6,false)],[(7,false)],[(7,false)],[(8,false)]] [hB b3 (cStmt y7 p18 c18 p19 c19 p20 c20 p21 c21),hB r01 (cRd y8 p22 c22),hO zR (vS p14 Body2 c14) cs2,hB b1 [vS p7 y1 c7,vS p14 Body2 c14],hB b (cPart x p1 c1 p2 c2)] [] [(9,false)] (zE [0,1,2,3,4] rfl (by decide)) ?_ ?_
   · refine Ox ?_<|Op<|Op<|Op<|Ox ?_<|Ox ?_<|Oq ?_<|Op<|Op<|Op<|Op<|On
     · intro I1 hf le1;refine yV [] ?_;have H:=iS I1;refine xW (jQ  _ hy3 ) ?_;rintro I04 hs2 v2 k2 le4 - ⟨v010,rfl,rfl,h31⟩ -;have H:=H.trans le4;obtain ⟨p23,c23,rfl⟩:=h31.form;exact yS [] H ⟨_,_,rfl,rfl,h31⟩
     · intro I1 hf le1;refine yV [(43,vA (cStmt y7 p18 c18 p19 c19 p20 c20 p21 c21))] ?_;have H:=iS I1;have h26:=h26.mono le1;have h27:=h27.mono le1;have h28:=h28.mono le1;have h29:=h29.mono le1;refine xX (cStmt y7 p18 c18 p19 c19 p20 c20 p21 c21) zR ?_;intro b4 hb4;have h32:RL I1 (cStmt y7 p18 c18 p19 c19 p20 c20 p21 c21) ([y7]:List zR):=⟨(cStmt y7 p18 c18 p19 c19 p20 c20 p21 c21),_,rfl,rfl,(wT ⟨_,_,_,_,rfl,h26,h27,h28,h29⟩),rfl⟩;refine yJ 0 rfl ?_;intro I05 le5 hl01;have h33:=SL.of_frozen hl01 le5 h32;have H:=H.trans le5;exact yS [] H ⟨_,rfl,rfl,h33⟩
     · intro I1 hf le1;refine zI ?_;rintro _ _ ⟨rfl,rfl⟩;refine zI ?_;rintro _ _ ⟨b4,rfl,rfl,h33⟩;refine yV [(42,vS p7 y1 c7),(44,vS (some ⟨b4,0,none⟩) ([y7]:List zR) 1)] ?_;exact pH 6 [(45,vA [vS p7 y1 c7,vS (some ⟨b4,0,none⟩) ([y7]:List zR) 1])]<|yS [] iR ⟨_,rfl,rfl,h33⟩
     intro I1 hf le1;refine zI ?_;rintro _ _ ⟨p23,c23,rfl,rfl,h31⟩;refine zI ?_;rintro _ _ ⟨b41,rfl,rfl,h331⟩;refine yV [(40,vS p23 y9 c23),(45,vA [vS p7 y1 c7,vS (some ⟨b41,0,none⟩) ([y7]:List zR) 1])] ?_;have H:=iS I1;have h7:=h7.mono le1;refine xW (fS y9 (zN.mk y1 ([y7]:List zR)) _ hy4 h31 h7 h331) ?_;rintro I06 hs2 v2 k2 le6 - ⟨v011,v012,rfl,rfl,rfl,rfl⟩ -;have H:=H.trans le6;exact xP H
   intro I07 le7;refine yV [(0,vP r01 0),(2,vP b 0),(3,vI i),(4,vP b1 0),(5,vI k0),(6,vI n0),(7,vP b3 0),(48,.bool y12)] ?_;have h26:=h26.mono le7;have h27:=h27.mono le7;have h28:=h28.mono le7;have h29:=h29.mono le7;have h30:=h30.mono le7;have h20:=iM le7 h20;have h7:=h7.mono le7;have h1:=h1.mono le7;have h2:=h2.mono le7;have H:=H.trans le7;refine yF [] [(9,.bool y12)]<|wR [(49,.bool y12)]<|zD<|yM N ?_ ?_
   · intro hc3 N;refine yO<|yH 3 [3,0] [(51,vS p14 Body2 c14),(52,vA (cStmt y7 p18 c18 p19 c19 p20 c20 p21 c21))]<|xX (cStmt y7 p18 c18 p19 c19 p20 c20 p21 c21) zR ?_;intro b5 hb5;have h36:RL I07 (cStmt y7 p18 c18 p19 c19 p20 c20 p21 c21) ([y7]:List zR):=⟨(cStmt y7 p18 c18 p19 c19 p20 c20 p21 c21),_,rfl,rfl,(wT ⟨_,_,_,_,rfl,h26,h27,h28,h29⟩),rfl⟩;obtain ⟨l,hy5,N⟩:=zC N;refine qF 95 9 3 rfl rfl rfl h20 (.inr ⟨0,rfl⟩) h36 hy5 ?_;intro p24 c24 cs5 h37;exact rW (zE [1,2,3,4,5] (hs':=[hB b3 (cStmt y7 p18 c18 p19 c19 p20 c20 p21 c21),hB r01 (cRd y8 p22 c22),hO zR (vS p24 l c24) cs5,hB b1 [vS p7 y1 c7,vS p14 Body2 c14],hB b (cPart x p1 c1 p2 c2)]) rfl (by decide))<|yH 6 [] [(55,vP b1 1)]<|xQ 3 [vS p7 y1 c7,vS p24 l c24] [hB b3 (cStmt y7 p18 c18 p19 c19 p20 c20 p21 c21),hB r01 (cRd y8 p22 c22),hO zR (vS p24 l c24) cs5,hB b1 [vS p7 y1 c7,vS p24 l c24],hB b (cPart x p1 c1 p2 c2)] rfl rfl rfl rfl<|yN rfl<|zD<|yX<|zFF rfl<|zL<|zL<|wC (zE [2,1,3,4] rfl (by decide))<|yR [(0,vP r01 0),(2,vP b 0),(3,vI i),(4,vP b1 0),(5,vI k0)]<|hx _ _ _ _ _ _ _ _ (zB N).symm H h37 h30
   intro hc3 N;exact zX<|zT<|zD<|zQ<|yF [] [(6,vI (W (n0 + 1)))]<|yZ<|qE (zE [2,1,3,4] rfl (by decide))<|wS [(0,vP r01 0),(2,vP b 0),(3,vI i),(4,vP b1 0),(5,vI k0),(6,vI (W (n0 + 1)))]<|ih (W (n0 + 1)) y8 _ N H h7 h1 h2 h20 h30 hg ho hx
 intro hc2 N;exact yX<|zL<|zL<|yR [(0,vP r01 0),(2,vP b 0),(3,vI i),(4,vP b1 0),(5,vI k0)]<|hx _ _ _ _ _ _ _ _ (zB N).symm H h20 h21
def qQ (y1:(List zH)) (k0:Int) (Body:List zR) (x4:zO):Option ((List zR×zO)):=do
 if (decide (k0 > 0)) then
  let (Body3,x7)←qP y1 Body 0 x4
  qQ y1 (W (k0 - 1)) Body3 x7
 else
  pure (Body,x4)
 partial_fixpoint
theorem zC5 (y1:(List zH)):∀ (k0:Int) (Body:List zR) (x4:zO) (o:(List zR×zO)),qQ y1 k0 Body x4=some o→∀ {B}{I0 I:Imm}{Q}{i:Int}{x:zN}{r01:Nat}{b:Nat}{p1 c1 p2 c2 p7 c7}{b1:Nat}{p10 c10 cs p11 c11},I0.le I→(S4 I p7 y1 c7)→(S4 I p1 x.Nest c1)→(S4 I p2 x.Body c2)→(RL I cs Body)→(S4 I p11 x4.b c11)→NG Q→NO Q→(∀ (I':Imm) (Body1:List zR) (x5:zO) (p12:Option Addr) (c12:Nat) (cs1:List Value) (p13:Option Addr) (c13:Nat),o=(Body1,x5)→I0.le I'→(RL I' cs1 Body1)→(S4 I' p13 x5.b c13)→T 81 B Q (.exit 2) I' [hO zR (vS p12 Body1 c12) cs1,hB r01 (cRd x5 p13 c13),hB b1 [vS p7 y1 c7,vS p12 Body1 c12],hB b (cPart x p1 c1 p2 c2)] [(0,vP r01 0),(2,vP b 0),(3,vI i),(4,vP b1 0)])→J Tryz.prog 81 B (nav (bodyOf Tryz.f87) [1,0,1,0,0,1,0,0,1,0,1,0]) Q I [hO zR (vS p10 Body c10) cs,hB r01 (cRd x4 p11 c11),hB b1 [vS p7 y1 c7,vS p10 Body c10],hB b (cPart x p1 c1 p2 c2)] [(0,vP r01 0),(2,vP b 0),(3,vI i),(4,vP b1 0),(5,vI k0)]:=by
 refine qQ.partial_correctness y1 _ fun self ih k0 Body x4 o N B I0 I Q i x r01 b p1 c1 p2 c2 p7 c7 b1 p10 c10 cs p11 c11 H h7 h1 h2 h16 h17 hg ho hx=>yY hg ho<|yK<|yE [(27,.bool (decide (k0 > 0)))]<|zD<|yM N ?_ ?_
 · intro hc1 N;refine zX<|yI<|zV<|yE [(6,vI 0)]<|zD<|zV<|wS [(0,vP r01 0),(2,vP b 0),(3,vI i),(4,vP b1 0),(5,vI k0),(6,vI 0)] ?_;obtain ⟨o0,ho0,hMl⟩:=zC N;refine zC4 y1 Body 0 x4 o0 ho0 iR h7 h1 h2 h16 h17 (fun _ _ _ h=>hg _ _ _ h) (fun _ _ h=>ho _ _ h) ?_;intro I08 Body3 x7 p16 c16 cs3 p17 c17 heq le8 h22 h23;subst o0;have h7:=h7.mono le8;have h1:=h1.mono le8;have h2:=h2.mono le8;have H:=H.trans le8;exact zW<|zT<|zD<|zQ<|yF [] [(5,vI (W (k0 - 1)))]<|yZ<|wS [(0,vP r01 0),(2,vP b 0),(3,vI i),(4,vP b1 0),(5,vI (W (k0 - 1)))]<|ih (W (k0 - 1)) Body3 x7 _ hMl H h7 h1 h2 h22 h23 hg ho hx
 intro hc1 N;exact yX<|zL<|zL<|yR [(0,vP r01 0),(2,vP b 0),(3,vI i),(4,vP b1 0)]<|hx _ _ _ _ _ _ _ _ (zB N).symm H h16 h17
def qR (x:zN) (i:Int) (x1:zO):Option (Out (zN×zO) (zN×zO)):=do
 if (decide (i < 4)) then
  let (y1,y2)←jA x1
  let (y4,y5)←xB y2 ([1,2,1,3]:List Int)
  let (Body1,x5)←qQ y1 y4 ([]:List zR) y5
  let y13←nJ
  let (y15,y16)←pD y13 (zN.mk y1 Body1)
  let t66←(do
    if y16 then
     pure (decide (y15 ≤ 40))
    else
     pure false
      : Option Bool)
  if t66 then
   pure (.ret ((zN.mk y1 Body1),x5))
  else
   qR x (W (i + 1)) x5
 else
  pure (.done (x,x1))
 partial_fixpoint
theorem zC6 (x:zN):∀ (i:Int) (x1:zO) (o:Out (zN×zO) (zN×zO)),qR x i x1=some o→∀ {B}{I0 I:Imm}{Q}  {r01:Nat}{b:Nat}{p1 c1 p2 c2 p3 c3},I0.le I→(S4 I p1 x.Nest c1)→(S4 I p2 x.Body c2)→(S4 I p3 x1.b c3)→NG Q→NO Q→(∀ (I':Imm) (x2:zN) (x3:zO) (p4:Option Addr) (c4:Nat) (p5:Option Addr) (c5:Nat) (p6:Option Addr) (c6:Nat),o=(.done (x2,x3))→I0.le I'→(S4 I' p4 x2.Nest c4)→(S4 I' p5 x2.Body c5)→(S4 I' p6 x3.b c6)→T 81 B Q (.exit 0) I' [hB b (cPart x2 p4 c4 p5 c5),hB r01 (cRd x3 p6 c6)] [(2,vP b 0)])→(∀ r I' hs' m',o=(.ret r)→I0.le I'→RS Tryz.prog Tryz.f87 B (dP r01 r) I' hs' m'→T 81 B Q .ret I' hs' m')→J Tryz.prog 81 B (nav (bodyOf Tryz.f87) [1,0,1,0]) Q I [hB b (cPart x p1 c1 p2 c2),hB r01 (cRd x1 p3 c3)] [(0,vP r01 0),(2,vP b 0),(3,vI i)]:=by
 refine qR.partial_correctness x _ fun self ih i x1 o N B I0 I Q r01 b p1 c1 p2 c2 p3 c3 H h1 h2 h3 hg ho hx hr=>yY hg ho<|yK<|yE [(17,.bool (decide (i < 4)))]<|zD<|yM N ?_ ?_
 · intro hc N;refine zX<|yI<|zV<|yO<|yH 1 [] [(20,vP r01 0)]<|rW (zE [1,0] (hs':=[hB r01 (cRd x1 p3 c3),hB b (cPart x p1 c1 p2 c2)]) rfl (by decide)) ?_;obtain ⟨⟨y1,y2⟩,hy,N⟩:=zC N;refine sY [hB r01 (cRd x1 p3 c3)] [hB b (cPart x p1 c1 p2 c2)] (zE6 x1 _ hy h3) ?_;rintro I0 hs2 v2 k2 le - ⟨v0,kk,rfl,rfl,h7,h8⟩ -;have h1:=h1.mono le;have h2:=h2.mono le;have H:=H.trans le;obtain ⟨p7,c7,rfl⟩:=h7.form;obtain ⟨p8,c8,rfl,h9⟩:=yL h8;refine yH 3 [] [(22,vA [vS p7 y1 c7,z0])]<|uQ zTwo ?_;intro b1 hb1;refine xQ 0 [vS p7 y1 c7,z0] [hB b1 [vS p7 y1 c7,z0],hB r01 (cRd y2 p8 c8),hB b (cPart x p1 c1 p2 c2)] rfl rfl rfl rfl<|yN rfl<|yI<|yO<|yH 1 [] [(23,vP r01 0)]<|xX [vI 1,vI 2,vI 1,vI 3] Int ?_;intro b2 hb2;have h10:RL I0 [vI 1,vI 2,vI 1,vI 3] ([1,2,1,3]:List Int):=⟨[vI 1],_,rfl,rfl,rfl,⟨[vI 2],_,rfl,rfl,rfl,⟨[vI 1],_,rfl,rfl,rfl,⟨[vI 3],_,rfl,rfl,rfl,rfl⟩⟩⟩⟩;refine yJ 0 rfl ?_;intro I01 le1 hl0;have h11:=SL.of_frozen hl0 le1 h10;have h7:=h7.mono le1;have h9:=h9.mono le1;have h1:=h1.mono le1;have h2:=h2.mono le1;have H:=H.trans le1;refine rW (zE [1,0,2] (hs':=[hB r01 (cRd y2 p8 c8),hB b1 [vS p7 y1 c7,z0],hB b (cPart x p1 c1 p2 c2)]) rfl (by decide)) ?_;obtain ⟨⟨y4,y5⟩,hy1,N⟩:=zC N;refine sY [hB r01 (cRd y2 p8 c8)] [hB b1 [vS p7 y1 c7,z0],hB b (cPart x p1 c1 p2 c2)] (xL y2 ([1,2,1,3]:List Int) _ hy1 h9 h11) ?_;rintro I02 hs2 v2 k2 le2 - ⟨v02,kk1,rfl,rfl,rfl,h13⟩ -;have h7:=h7.mono le2;have h1:=h1.mono le2;have h2:=h2.mono le2;have H:=H.trans le2;obtain ⟨p9,c9,rfl,h14⟩:=yL h13;refine yF [] [(5,vI y4)]<|zD<|zV<|wS [(0,vP r01 0),(2,vP b 0),(3,vI i),(4,vP b1 0),(5,vI y4)]<|qE (uP (Rp.sz zR)) ?_;have h15:RL I02 [] ([]:List zR):=RepL.nil;obtain ⟨o01,ho01,hMl1⟩:=zC N;refine zC5 y1 y4 ([]:List zR) y5 o01 ho01 iR h7 h1 h2 h15 h14 (fun _ _ _ h=>hg _ _ _ h) (fun _ _ h=>ho _ _ h) ?_;intro I09 Body1 x5 p12 c12 cs1 p13 c13 heq1 le9 h18 h19;subst o01;have h7:=h7.mono le9;have h1:=h1.mono le9;have h2:=h2.mono le9;have H:=H.trans le9;refine zW<|yI<|oF 0 rfl ?_;intro I010 le10 hl02;have h38:=SL.of_frozen hl02 le10 h18;have h19:=h19.mono le10;have h7:=h7.mono le10;have h1:=h1.mono le10;have h2:=h2.mono le10;have H:=H.trans le10;obtain ⟨y13,hy6,N⟩:=zC hMl1;obtain ⟨⟨y15,y16⟩,hy7,N⟩:=zC N;refine vQ [.x (fun I' v hx=>∃ p25 c25,v=vS p25 y13 c25∧hx=[]∧(S4 I' p25 y13 c25)),.p (vA [vS p7 y1 c7,vS p12 Body1 c12]) [1],.q (.tuple ⟨[vI y15,.bool y16]⟩),.p (.tuple ⟨[vI y15,.bool y16]⟩) [],.p (vI y15) [],.p (.bool y16) [],.p (vI y15) []] [[],[],[(0,false),(1,false)],[(2,false)],[(3,false)],[(3,false)],[(4,false)]] [hB r01 (cRd x5 p13 c13),hB b1 [vS p7 y1 c7,vS p12 Body1 c12],hB b (cPart x p1 c1 p2 c2)] [] [(5,false),(6,false)] (zE [0,1,2] rfl (by decide)) ?_ ?_
   · refine Ox ?_<|Op<|Oq ?_<|Op<|Op<|Op<|Op<|On
     · intro I1 hf le1;refine yV [] ?_;have H:=iS I1;refine xW (jQ  _ hy6 ) ?_;rintro I011 hs2 v2 k2 le11 - ⟨v013,rfl,rfl,h39⟩ -;have H:=H.trans le11;obtain ⟨p25,c25,rfl⟩:=h39.form;exact yS [] H ⟨_,_,rfl,rfl,h39⟩
     intro I1 hf le1;refine zI ?_;rintro _ _ ⟨p25,c25,rfl,rfl,h39⟩;refine yV [(57,vS p25 y13 c25),(58,vA [vS p7 y1 c7,vS p12 Body1 c12])] ?_;have H:=iS I1;have h7:=h7.mono le1;have h38:=h38.mono le1;refine xW (fS y13 (zN.mk y1 Body1) _ hy7 h39 h7 h38) ?_;rintro I012 hs2 v2 k2 le12 - ⟨v014,v015,rfl,rfl,rfl,rfl⟩ -;have H:=H.trans le12;exact xP H
   intro I013 le13;refine yV [(0,vP r01 0),(2,vP b 0),(3,vI i),(4,vP b1 0),(10,vI y15),(61,.bool y16)] ?_;have h19:=h19.mono le13;have h7:=h7.mono le13;have h38:=h38.mono le13;have h1:=h1.mono le13;have h2:=h2.mono le13;have H:=H.trans le13;refine yF [] [(11,.bool y16)]<|zD<|yK ?_;obtain ⟨o02,ho02,hMc⟩:=zC N;refine yU (fun I' hs' m'=>∃ (t66:Bool),o02=t66∧I013.le I'∧hs'=[hB r01 (cRd x5 p13 c13),hB b1 [vS p7 y1 c7,vS p12 Body1 c12],hB b (cPart x p1 c1 p2 c2)]∧m'=[(0,vP r01 0),(2,vP b 0),(3,vI i),(4,vP b1 0),(66,.bool t66)]) ?_ ?_
   · have H:=iS I013;refine zQ<|yH 2 [] [(63,.bool y16)] ?_;cases hc4:y16 with
     | true =>
      have hM0:=zU hc4 ho02
      try rw [hc4]
      exact yF [] [(66,.bool (decide (y15 ≤ 40)))]<|yR [(0,vP r01 0),(2,vP b 0),(3,vI i),(4,vP b1 0),(66,.bool (decide (y15 ≤ 40)))]<|zY ⟨_,(zB hM0).symm,H,rfl,rfl⟩
     | false =>
      have hM01:=zS hc4 ho02
      try rw [hc4]
      exact yF [] [(66,vF)]<|yR [(0,vP r01 0),(2,vP b 0),(3,vI i),(4,vP b1 0),(66,vF)]<|zY ⟨_,(zB hM01).symm,H,rfl,rfl⟩
   rintro I014 hs2 m2 ⟨t66,heq2,le14,rfl,rfl⟩;subst o02;have h19:=h19.mono le14;have h7:=h7.mono le14;have h38:=h38.mono le14;have h1:=h1.mono le14;have h2:=h2.mono le14;have H:=H.trans le14;refine zD<|yM hMc ?_ ?_
   · intro hc5 N;exact yO<|yH 1 [1] [(67,vA [vS p7 y1 c7,vS p12 Body1 c12])]<|xQ 2 [vS p7 y1 c7,vS p12 Body1 c12] [hB r01 (cRd x5 p13 c13),hB b1 [vS p7 y1 c7,vS p12 Body1 c12],hB b [vS p7 y1 c7,vS p12 Body1 c12]] rfl rfl rfl rfl<|yN rfl<|zD<|yC<|yB<|zM<|zM<|hr _ _ _ _ (zB N).symm H ⟨_,_,(.cell 2 rfl rfl (by kernel_rfl) ResV.nil),(zE [0] rfl (by decide)),⟨_,_,rfl,rfl,⟨_,rfl,(rI ⟨_,_,rfl,h7,h38⟩)⟩,(xA ⟨_,rfl,h19⟩)⟩⟩
   intro hc5 N;exact zX<|zT<|zD<|zQ<|yF [] [(3,vI (W (i + 1)))]<|yZ<|qE (zE [2,0] rfl (by decide))<|wS [(0,vP r01 0),(2,vP b 0),(3,vI (W (i + 1)))]<|ih (W (i + 1)) x5 _ N H h1 h2 h19 hg ho hx hr
 intro hc N;exact yX<|zL<|zL<|yR [(2,vP b 0)]<|hx _ _ _ _ _ _ _ _ _ (zB N).symm H h1 h2 h3
def jF (r0:zO):Option (zN×zO):=do
 match←qR (zN.mk ([]:List zH) ([]:List zR)) 0 r0 with
 | .ret r0=>pure r0
 | .done (x2,x3) =>
  let (y18,y19)←nW (⟨[65,91,105,93,61,40,65,91,105,93,43,123,105,125,41]⟩:Str)
  let (y21,y22)←kL ([4]:List Int)
  pure ((zN.mk y21 ([y18]:List zR)),x3)
theorem zEd:∀ r0 r,jF r0=some r→∀ {I:Imm}{r01:Nat}{p c},(S4 I p r0.b c)→Ret Tryz.prog 87 [vP r01 0] I [hB r01 (cRd r0 p c)] (dP r01 r):=by
 intro r0 r N I r01 p c h;unfold jF at N;refine yA (fn:=Tryz.f87) (c:=(bodyOf Tryz.f87)) Tryz.func87 rfl rfl ?_;rintro B - -;refine yO<|uQ zTwo ?_;intro b hb;refine yN rfl<|yI<|yE [(3,vI 0)]<|zD<|zV<|wS [(0,vP r01 0),(2,vP b 0),(3,vI 0)] ?_;obtain ⟨o03,ho03,hMl2⟩:=zC N;refine zC6 (zN.mk ([]:List zH) ([]:List zR)) 0 r0 o03 ho03 iR (SL.nil _) (SL.nil _) h (fun _ _ _ h=>h) (fun _ _ h=>h) ?_ ?_
 · intro I015 x2 x3 p4 c4 p5 c5 p6 c6 heq3 le15 h4 h5 h6;subst o03;refine zW<|yI<|zQ ?_;obtain ⟨⟨y18,y19⟩,hy8,N⟩:=zC hMl2;refine xW (zC3 (⟨[65,91,105,93,61,40,65,91,105,93,43,123,105,125,41]⟩:Str) _ hy8 ) ?_;rintro I016 hs2 v2 k2 le16 - ⟨v016,v017,rfl,rfl,⟨cs6,rfl,h42⟩,rfl⟩ -;have h6:=h6.mono le16;obtain ⟨p26,c26,p27,c27,p28,c28,p29,c29,rfl,h44,h45,h46,h47⟩:=rH h42;refine yH 4 [] [(70,vA (cStmt y18 p26 c26 p27 c27 p28 c28 p29 c29)),(71,.bool y19)]<|uQ [vT ([]),z0,vI 0,vI 0,z0,vI 0,vT ([]),z0,z0] ?_;intro b6 hb6;refine xQ 0 (cStmt y18 p26 c26 p27 c27 p28 c28 p29 c29) [hB b6 (cStmt y18 p26 c26 p27 c27 p28 c28 p29 c29),hB b (cPart x2 p4 c4 p5 c5),hB r01 (cRd x3 p6 c6)] rfl rfl rfl rfl<|yF [] []<|xI<|xX [vI 4] Int ?_;intro b7 hb7;have h48:RL I016 [vI 4] ([4]:List Int):=⟨[vI 4],_,rfl,rfl,rfl,rfl⟩;refine yJ 0 rfl ?_;intro I017 le17 hl03;have h49:=SL.of_frozen hl03 le17 h48;have h44:=h44.mono le17;have h45:=h45.mono le17;have h46:=h46.mono le17;have h47:=h47.mono le17;have h6:=h6.mono le17;obtain ⟨⟨y21,y22⟩,hy9,N⟩:=zC N;refine xW (zDl ([4]:List Int) _ hy9 h49) ?_;rintro I018 hs2 v2 k2 le18 - ⟨v022,v023,rfl,rfl,h50,rfl⟩ -;have h44:=h44.mono le18;have h45:=h45.mono le18;have h46:=h46.mono le18;have h47:=h47.mono le18;have h6:=h6.mono le18;obtain ⟨p30,c30,rfl⟩:=h50.form;refine yF [] [(14,vS p30 y21 c30)]<|xI<|yH 2 [0] [(77,vS p30 y21 c30),(78,vA (cStmt y18 p26 c26 p27 c27 p28 c28 p29 c29))]<|xX (cStmt y18 p26 c26 p27 c27 p28 c28 p29 c29) zR ?_;intro b8 hb8;have h52:RL I018 (cStmt y18 p26 c26 p27 c27 p28 c28 p29 c29) ([y18]:List zR):=⟨(cStmt y18 p26 c26 p27 c27 p28 c28 p29 c29),_,rfl,rfl,(wT ⟨_,_,_,_,rfl,h44,h45,h46,h47⟩),rfl⟩;refine yH 4 [] [(80,vA [vS p30 y21 c30,vS (some ⟨b8,0,none⟩) ([y18]:List zR) 1])]<|xQ 2 [vS p30 y21 c30,vS (some ⟨b8,0,none⟩) ([y18]:List zR) 1] [hO zR (vS (some ⟨b8,0,none⟩) ([y18]:List zR) 1) (cStmt y18 p26 c26 p27 c27 p28 c28 p29 c29),hB b6 (cStmt y18 p26 c26 p27 c27 p28 c28 p29 c29),hB b [vS p30 y21 c30,vS (some ⟨b8,0,none⟩) ([y18]:List zR) 1],hB r01 (cRd x3 p6 c6)] rfl rfl rfl rfl<|yN rfl<|zD<|yC<|xG 0 rfl ?_;intro I019 le19 hl04;have h53:=SL.of_frozen hl04 le19 h52;have h50:=h50.mono le19;have h6:=h6.mono le19;obtain rfl:=zB N;exact xH ⟨_,_,(.cell 1 rfl rfl (by kernel_rfl) ResV.nil),(zE [2] rfl (by decide)),⟨_,_,rfl,rfl,⟨_,rfl,(rI ⟨_,_,rfl,h50,h53⟩)⟩,(xA ⟨_,rfl,h6⟩)⟩⟩
 intro r0 I9 hs9 m9 heq9 le9 hrs9;subst heq9;refine yB<|zM ?_;obtain rfl:=zB hMl2;exact xH hrs9
def zDO (b0:Nat) (r:zJ×zO):KT:=fun kk I' hs' v=>
  ∃ v0 k0,hs'=[.blk b0 ⟨k0⟩]∧v=tupV [v0]∧(∃ cs,v0=.agg ⟨cs⟩∧Rp.rep I' cs r.1)∧Rp.rep I' k0 r.2
def qS (i:Int) (Parts:List zN) (x:zO):Option ((List zN×zO)):=do
 if (decide (i > 0)) then
  let (y5,y6)←jF x
  let l←app 48 Parts ([y5]:List zN)
  qS (W (i - 1)) l y6
 else
  pure (Parts,x)
 partial_fixpoint
theorem zC7 :∀ (i:Int) (Parts:List zN) (x:zO) (o:(List zN×zO)),qS i Parts x=some o→∀ {B}{I0 I:Imm}{Q}{y:(List zG)}{r01:Nat}{b:Nat}{p1 c1}{b1:Nat}{p3 c3 cs p4 c4},I0.le I→(S4 I p1 y c1)→(RL I cs Parts)→(S4 I p4 x.b c4)→NG Q→NO Q→(∀ (I':Imm) (Parts1:List zN) (x1:zO) (p5:Option Addr) (c5:Nat) (cs1:List Value) (p6:Option Addr) (c6:Nat),o=(Parts1,x1)→I0.le I'→(RL I' cs1 Parts1)→(S4 I' p6 x1.b c6)→T 29 B Q (.exit 0) I' [hO zN (vS p5 Parts1 c5) cs1,hB r01 (cRd x1 p6 c6),hB b1 [vS p1 y c1,vS p5 Parts1 c5],hB b zTwo] [(2,vP b 0),(3,vP b1 0)])→J Tryz.prog 29 B (nav (bodyOf Tryz.f57) [1,1,0,1,0]) Q I [hO zN (vS p3 Parts c3) cs,hB r01 (cRd x p4 c4),hB b1 [vS p1 y c1,vS p3 Parts c3],hB b zTwo] [(0,vP r01 0),(2,vP b 0),(3,vP b1 0),(4,vI i)]:=by
 refine qS.partial_correctness  _ fun self ih i Parts x o N B I0 I Q y r01 b p1 c1 b1 p3 c3 cs p4 c4 H h1 h8 h9 hg ho hx=>yY hg ho<|yK<|yE [(11,.bool (decide (i > 0)))]<|zD<|yM N ?_ ?_
 · intro hc N;refine zX<|yI<|zV ?_;obtain ⟨⟨y5,y6⟩,hy2,N⟩:=zC N;obtain ⟨l,hy3,N⟩:=zC N;refine vQ [.p (vP b1 1) [],.p (vS p3 Parts c3) [0],.p (vP r01 0) [],.x (fun I' v hx=>∃ p7 c7 p8 c8 p9 c9,v=vA (cPart y5 p7 c7 p8 c8)∧hx=[hB r01 (cRd y6 p9 c9)]∧(S4 I' p7 y5.Nest c7)∧(S4 I' p8 y5.Body c8)∧(S4 I' p9 y6.b c9)),.x (fun I' v hx=>∃ b3,v=vS (some ⟨b3,0,none⟩) ([y5]:List zN) 1∧hx=[]∧(SL I' (vS (some ⟨b3,0,none⟩) ([y5]:List zN) 1) ([y5]:List zN))),.x (fun I' v hx=>∃ p10 c10 cs3,v=vS p10 l c10∧hx=[hO zN (vS p10 l c10) cs3]∧(RL I' cs3 l))] [[],[(0,false)],[],[(2,false),(8,true)],[(3,false)],[(1,false),(4,false),(9,true)]] [hB b1 [vS p1 y c1,vS p3 Parts c3],hB b zTwo] [[hB r01 (cRd x p4 c4)],[hO zN (vS p3 Parts c3) cs]] [(3,true),(5,true)] (zE [2,3,1,0] rfl (by decide)) ?_ ?_
   · refine Op<|Op<|Op<|Ox ?_<|Ox ?_<|Ox ?_<|On
     · intro I1 hf le1;refine zI ?_;rintro _ _ ⟨rfl,rfl⟩;refine zI ?_;rintro _ _ rfl;refine yV [(16,vP r01 0)] ?_;have H:=iS I1;have h9:=h9.mono le1;refine sY [hB r01 (cRd x p4 c4)] (hB b1 [vS p1 y c1,vS p3 Parts c3]::hB b zTwo::hf) (zEd x _ hy2 h9) ?_;rintro I03 hs2 v2 k2 le3 - ⟨v03,kk1,rfl,rfl,⟨cs2,rfl,h12⟩,h13⟩ -;have H:=H.trans le3;obtain ⟨p7,c7,p8,c8,rfl,h14,h15⟩:=uU h12;obtain ⟨p9,c9,rfl,h16⟩:=yL h13;exact yS [hB r01 (cRd y6 p9 c9)] H ⟨_,_,_,_,_,_,rfl,rfl,h14,h15,h16⟩
     · intro I1 hf le1;refine zI ?_;rintro _ _ ⟨p7,c7,p8,c8,p9,c9,rfl,rfl,h14,h15,h16⟩;refine yV [(17,vA (cPart y5 p7 c7 p8 c8))] ?_;have H:=iS I1;refine xX (cPart y5 p7 c7 p8 c8) zN ?_;intro b3 hb3;have h17:RL I1 (cPart y5 p7 c7 p8 c8) ([y5]:List zN):=⟨(cPart y5 p7 c7 p8 c8),_,rfl,rfl,(rI ⟨_,_,rfl,h14,h15⟩),rfl⟩;refine yJ 0 rfl ?_;intro I04 le4 hl01;have h18:=SL.of_frozen hl01 le4 h17;have H:=H.trans le4;exact yS [] H ⟨_,rfl,rfl,h18⟩
     intro I1 hf le1;refine zI ?_;rintro _ _ ⟨rfl,rfl⟩;refine zI ?_;rintro _ _ ⟨b3,rfl,rfl,h18⟩;refine zI ?_;rintro _ _ rfl;refine yV [(15,vS p3 Parts c3),(18,vS (some ⟨b3,0,none⟩) ([y5]:List zN) 1)] ?_;have h8:=iM le1 h8;obtain ⟨ccs,k0,k01⟩:=h18;have h18:SL I1 (vS (some ⟨b3,0,none⟩) ([y5]:List zN) 1) ([y5]:List zN):=⟨_,k0,k01⟩;exact qF 78 2 0 rfl rfl rfl h8 (.inl k0) k01 hy3 fun p10 c10 cs3 h19=>uO (hs':=(hO zN (vS p10 l c10) cs3::hB b1 [vS p1 y c1,vS p3 Parts c3]::hB b zTwo::hf)) rfl<|yS [hO zN (vS p10 l c10) cs3] iR ⟨_,_,_,rfl,rfl,h19⟩
   intro I05 le5;refine zI ?_;rintro _ _ ⟨p7,c7,p8,c8,p9,c9,rfl,rfl,h14,h15,h16⟩;refine zI ?_;rintro _ _ ⟨p10,c10,cs3,rfl,rfl,h19⟩;refine yV [(0,vP r01 0),(2,vP b 0),(3,vP b1 0),(4,vI i),(19,vS p10 l c10)] ?_;have h1:=h1.mono le5;have H:=H.trans le5;exact yH 7 [] [(20,vP b1 1)]<|xQ 2 [vS p1 y c1,vS p10 l c10] [hO zN (vS p10 l c10) cs3,hB r01 (cRd y6 p9 c9),hB b1 [vS p1 y c1,vS p10 l c10],hB b zTwo] rfl rfl rfl rfl<|yN rfl<|zT<|zD<|zQ<|yF [] [(4,vI (W (i - 1)))]<|yZ<|wS [(0,vP r01 0),(2,vP b 0),(3,vP b1 0),(4,vI (W (i - 1)))]<|ih (W (i - 1)) l y6 _ N H h1 h19 h16 hg ho hx
 intro hc N;exact yX<|zL<|zL<|yR [(2,vP b 0),(3,vP b1 0)]<|hx _ _ _ _ _ _ _ _ (zB N).symm H h8 h9
def gK (r0:zO):Option (zJ×zO):=do
 let y←nJ
 let (y2,y3)←xB r0 ([1,2,1,3]:List Int)
 let (Parts1,x1)←qS y2 ([]:List zN) y3
 let y7←vV (zJ.mk y Parts1)
 if y7 then
  pure ((zJ.mk y Parts1),x1)
 else
  let y8←nJ
  let l1←slc Parts1 0 1
  pure ((zJ.mk y8 l1),x1)
theorem zIp:∀ r0 r,gK r0=some r→∀ {I:Imm}{r01:Nat}{p c},(S4 I p r0.b c)→Ret Tryz.prog 57 [vP r01 0] I [hB r01 (cRd r0 p c)] (zDO r01 r):=by
 intro r0 r N I r01 p c h;unfold gK at N;refine yA (fn:=Tryz.f57) (c:=(bodyOf Tryz.f57)) Tryz.func57 rfl rfl ?_;rintro B - -;have H:=iS I;refine yO<|uQ zTwo ?_;intro b hb;refine yN rfl<|xI<|bE N fun y hy N=>xW (jQ  _ hy ) ?_;rintro I0 hs2 v2 k2 le - ⟨v0,rfl,rfl,h1⟩ -;have h:=h.mono le;have H:=H.trans le;obtain ⟨p1,c1,rfl⟩:=h1.form;refine yH 2 [] [(6,vA [vS p1 y c1,z0])]<|uQ zTwo ?_;intro b1 hb1;refine xQ 0 [vS p1 y c1,z0] [hB b1 [vS p1 y c1,z0],hB b zTwo,hB r01 (cRd r0 p c)] rfl rfl rfl rfl<|yN rfl<|yI<|yO<|yH 1 [] [(7,vP r01 0)]<|xX [vI 1,vI 2,vI 1,vI 3] Int ?_;intro b2 hb2;have h2:RL I0 [vI 1,vI 2,vI 1,vI 3] ([1,2,1,3]:List Int):=⟨[vI 1],_,rfl,rfl,rfl,⟨[vI 2],_,rfl,rfl,rfl,⟨[vI 1],_,rfl,rfl,rfl,⟨[vI 3],_,rfl,rfl,rfl,rfl⟩⟩⟩⟩;refine yJ 0 rfl ?_;intro I01 le1 hl0;have h3:=SL.of_frozen hl0 le1 h2;have h1:=h1.mono le1;have h:=h.mono le1;have H:=H.trans le1;refine rW (zE [2,0,1] (hs':=[hB r01 (cRd r0 p c),hB b1 [vS p1 y c1,z0],hB b zTwo]) rfl (by decide)) ?_;obtain ⟨⟨y2,y3⟩,hy1,N⟩:=zC N;refine sY [hB r01 (cRd r0 p c)] [hB b1 [vS p1 y c1,z0],hB b zTwo] (xL r0 ([1,2,1,3]:List Int) _ hy1 h h3) ?_;rintro I02 hs2 v2 k2 le2 - ⟨v01,kk,rfl,rfl,rfl,h5⟩ -;have h1:=h1.mono le2;have H:=H.trans le2;obtain ⟨p2,c2,rfl,h6⟩:=yL h5;refine yF [] [(4,vI y2)]<|zD<|zV<|wS [(0,vP r01 0),(2,vP b 0),(3,vP b1 0),(4,vI y2)]<|qE (uP (Rp.sz zN)) ?_;have h7:RL I02 [] ([]:List zN):=RepL.nil;obtain ⟨o0,ho0,hMl⟩:=zC N;refine zC7 y2 ([]:List zN) y3 o0 ho0 iR h1 h7 h6 (fun _ _ _ h=>h) (fun _ _ h=>h) ?_;intro I06 Parts1 x1 p5 c5 cs1 p6 c6 heq le6 h10 h11;subst o0;have h1:=h1.mono le6;have H:=H.trans le6;refine zW<|yI<|yO<|yH 1 [2] [(21,vA [vS p1 y c1,vS p5 Parts1 c5])]<|yJ 0 rfl ?_;intro I07 le7 hl02;have h20:=SL.of_frozen hl02 le7 h10;have h1:=h1.mono le7;have h11:=h11.mono le7;have H:=H.trans le7;obtain ⟨y7,hy4,N⟩:=zC hMl;refine uR (gO (zJ.mk y Parts1) _ hy4 h1 h20) ?_;intro I08 le8;have h11:=h11.mono le8;have h1:=h1.mono le8;have h20:=h20.mono le8;have H:=H.trans le8;refine yN rfl<|zD<|yM N ?_ ?_
 · intro hc1 N;refine yO<|yH 1 [1] [(23,vA [vS p1 y c1,vS p5 Parts1 c5])]<|xQ 2 [vS p1 y c1,vS p5 Parts1 c5] [hB r01 (cRd x1 p6 c6),hB b1 [vS p1 y c1,vS p5 Parts1 c5],hB b [vS p1 y c1,vS p5 Parts1 c5]] rfl rfl rfl rfl<|yN rfl<|zD<|yC<|zM ?_;obtain rfl:=zB N;exact xH ⟨_,_,(.cell 2 rfl rfl (by kernel_rfl) ResV.nil),(zE [0] rfl (by decide)),⟨_,_,rfl,rfl,⟨_,rfl,(mZ ⟨_,_,rfl,h1,h20⟩)⟩,(xA ⟨_,rfl,h11⟩)⟩⟩
 intro hc1 N;refine zX<|zD<|yK ?_;obtain ⟨y8,hy5,N⟩:=zC N;obtain ⟨l1,hy6,N⟩:=zC N;refine vQ [.x (fun I' v hx=>∃ p11 c11,v=vS p11 y8 c11∧hx=[]∧(S4 I' p11 y8 c11)),.p (vP b1 1) [],.p (vS p5 Parts1 c5) [1],.x (fun I' v hx=>∃ p12 c12,v=vS p12 l1 c12∧hx=[]∧(S4 I' p12 l1 c12)),.x (fun I' v hx=>∃ p111 c111 p121 c121,v=vA [vS p111 y8 c111,vS p121 l1 c121]∧hx=[]∧(S4 I' p111 y8 c111)∧(S4 I' p121 l1 c121))] [[],[],[(1,false)],[(2,false)],[(0,false),(3,false)]] [hB r01 (cRd x1 p6 c6),hB b1 [vS p1 y c1,vS p5 Parts1 c5],hB b zTwo] [] [(4,false)] (zE [0,1,2] rfl (by decide)) ?_ ?_
 · refine Ox ?_<|Op<|Op<|Ox ?_<|Ox ?_<|On
   · intro I1 hf le1;refine yV [] ?_;have H:=iS I1;refine xW (jQ  _ hy5 ) ?_;rintro I09 hs2 v2 k2 le9 - ⟨v08,rfl,rfl,h22⟩ -;have H:=H.trans le9;obtain ⟨p11,c11,rfl⟩:=h22.form;exact yS [] H ⟨_,_,rfl,rfl,h22⟩
   · intro I1 hf le1;refine yV [(26,vS p5 Parts1 c5)] ?_;have h20:=h20.mono le1;refine zKo rfl h20 hy6 ?_;intro v09 h23;obtain ⟨p12,c12,rfl⟩:=h23.form;exact yS [] iR ⟨_,_,rfl,rfl,h23⟩
   intro I1 hf le1;refine zI ?_;rintro _ _ ⟨p11,c11,rfl,rfl,h22⟩;refine zI ?_;rintro _ _ ⟨p12,c12,rfl,rfl,h23⟩;exact yV [(24,vS p11 y8 c11),(27,vS p12 l1 c12)]<|pH 5 [(28,vA [vS p11 y8 c11,vS p12 l1 c12])]<|yS [] iR ⟨_,_,_,_,rfl,rfl,h22,h23⟩
 intro I010 le10;refine zI ?_;rintro _ _ ⟨p111,c111,p121,c121,rfl,rfl,h221,h231⟩;refine yV [(2,vP b 0),(28,vA [vS p111 y8 c111,vS p121 l1 c121])] ?_;have h11:=h11.mono le10;refine xQ 2 [vS p111 y8 c111,vS p121 l1 c121] [hB r01 (cRd x1 p6 c6),hB b1 [vS p1 y c1,vS p5 Parts1 c5],hB b [vS p111 y8 c111,vS p121 l1 c121]] rfl rfl rfl rfl<|yN rfl<|zD<|yC ?_;obtain rfl:=zB N;exact xH ⟨_,_,(.cell 2 rfl rfl (by kernel_rfl) ResV.nil),(zE [0] rfl (by decide)),⟨_,_,rfl,rfl,⟨_,rfl,(mZ ⟨_,_,rfl,h221,h231⟩)⟩,(xA ⟨_,rfl,h11⟩)⟩⟩
def wB (n0:Int) (low:Int) (high:Int):Option (Bool):=do
 let t6←(do
   if (decide (low ≤ n0)) then
    pure (decide (n0 ≤ high))
   else
    pure false
     : Option Bool)
 pure (id t6)
theorem wL:∀ n0 low high r,wB n0 low high=some r→∀ {I:Imm} ,Ret Tryz.prog 44 [vI n0,vI low,vI high] I [] (zZ  r):=by
 intro n0 low high r N I;unfold wB at N;refine yA (fn:=Tryz.f44) (c:=(bodyOf Tryz.f44)) Tryz.func44 rfl rfl ?_;rintro B - -;have H:=iS I;refine yE []<|zD<|yK ?_;obtain ⟨o0,ho0,hMc⟩:=zC N;refine yU (fun I' hs' m'=>∃ (t6:Bool),o0=t6∧I.le I'∧hs'=[]∧m'=[(6,.bool t6)]) ?_ ?_
 · have H:=iS I;refine zQ<|yH 4 [] [(10,.bool (decide (low ≤ n0)))] ?_;cases hc:(decide (low ≤ n0)) with
   | true =>
    have hM0:=zU hc ho0
    try rw [hc]
    exact yF [] [(6,.bool (decide (n0 ≤ high)))]<|yR [(6,.bool (decide (n0 ≤ high)))]<|zY ⟨_,(zB hM0).symm,H,rfl,rfl⟩
   | false =>
    have hM01:=zS hc ho0
    try rw [hc]
    exact yF [] [(6,vF)]<|yR [(6,vF)]<|zY ⟨_,(zB hM01).symm,H,rfl,rfl⟩
 rintro I0 hs2 m2 ⟨t6,heq,le,rfl,rfl⟩;subst o0;refine zD<|yC ?_;obtain rfl:=zB hMc;exact wY
def mL (s:Str) (substr:Str):Option Bool:=match substr.l with | [c]=>some (decide (0 ≤ Lib.indexByte s.l c)) | _=>none
theorem zBJ:∀ (s substr:Str) r,mL s substr=some r→∀ {I:Imm},Ret Tryz.prog 133 [vT s.l,vT substr.l] I [] (zZ r):=by
 intro s substr r N I;unfold mL at N;split at N
 · rename_i c hc;cases N
   rw [hc];exact zHy (fun w g=>(Tryz.strings_Contains_one ⟨⟨s.l⟩⟩ c w).mono fun e w' ⟨h1,h2⟩=>⟨h1,h2 ▸ RowKit.Below.refl _ _⟩) fun k=>⟨_,rfl,rfl,rfl⟩
 cases N
def nX (s:Str):Option (Bool):=do
 let t2←(do
   if ((s.l.length:Int) == 1) then
    let y←mL (⟨[65,66,67,68]⟩:Str) s
    pure (id y)
   else
    pure false
     : Option Bool)
 pure (id t2)
theorem pP:∀ s r,nX s=some r→∀ {I:Imm} ,Ret Tryz.prog 100 [vT s.l] I [] (zZ  r):=by
 intro s r N I;unfold nX at N;refine yA (fn:=Tryz.f100) (c:=(bodyOf Tryz.f100)) Tryz.func100 rfl rfl ?_;rintro B - -;have H:=iS I;refine yE []<|zD<|yK ?_;obtain ⟨o0,ho0,hMc⟩:=zC N;refine yU (fun I' hs' m'=>∃ (t2:Bool),o0=t2∧I.le I'∧hs'=[]∧m'=[(2,.bool t2)]) ?_ ?_
 · have H:=iS I;refine zQ<|yH 4 [] [(6,.bool ((s.l.length:Int) == 1))] ?_;cases hc:((s.l.length:Int) == 1) with
   | true =>
    have hM0:=zU hc ho0
    try rw [hc]
    refine yH 5 [] [(7,vT s.l)] ?_;obtain ⟨y,hy,N⟩:=zC hM0;refine uR (zBJ (⟨[65,66,67,68]⟩:Str) s _ hy ) ?_;intro I01 le;have H:=H.trans le;exact yF [] [(2,.bool y)]<|yR [(2,.bool y)]<|zY ⟨_,(zB N).symm,H,rfl,rfl⟩
   | false =>
    have hM01:=zS hc ho0
    try rw [hc]
    exact yF [] [(2,vF)]<|yR [(2,vF)]<|zY ⟨_,(zB hM01).symm,H,rfl,rfl⟩
 rintro I0 hs2 m2 ⟨t2,heq,le1,rfl,rfl⟩;subst o0;refine zD<|yC ?_;obtain rfl:=zB hMc;exact wY
def mG (hsF:List HA) (r:Int):KT:=fun kk I' hs' v=>
  ∃ v0,hsF=hs'∧v=tupV [v0]∧v0=.int .i64 r
def wD (s:(List Int)) (f0:(Int→Option Bool)) (t8:Int):Option (Out Unit (Int)):=do
 if (decide (t8 < (s.length:Int))) then
  let x←idx s t8
  let y←f0 x
  if y then
   pure (.ret t8)
  else
   wD s f0 (W (t8 + 1))
 else
  pure (.done ())
 partial_fixpoint
theorem gD (s:(List Int)) (f0:(Int→Option Bool)):∀ (t8:Int) (o:Out Unit (Int)),wD s f0 t8=some o→∀ {B}{I0 I:Imm}{Q p c}{fv:Value}{hsF:List HA},I0.le I→(S4 I p s c)→(FV1 Tryz.prog I hsF fv f0)→NG Q→NO Q→(∀ (I':Imm) ,o=(.done ())→I0.le I'→T 19 B Q (.exit 0) I' hsF [])→(∀ r I' hs' m',o=(.ret r)→I0.le I'→RS Tryz.prog Tryz.f134 B (mG hsF r) I' hs' m'→T 19 B Q .ret I' hs' m')→J Tryz.prog 19 B (nav (bodyOf Tryz.f134) [1,0,1,0]) Q I hsF [(0,vS p s c),(1,fv),(7,vI (s.length:Int)),(8,vI t8)]:=by
 refine wD.partial_correctness s f0 _ fun self ih t8 o N B I0 I Q p c fv hsF H h h1 hg ho hx hr=>yY hg ho<|yE [(9,.bool (decide (t8 < (s.length:Int))))]<|yI<|yM N ?_ ?_
 · intro hc N;refine zX<|yI<|zV<|yE [(5,vI t8)]<|xI<|yH 3 [] [(11,fv),(12,vS p s c),(13,vI t8)]<|bE N fun x hy N=>xV rfl rfl h hy ?_;intro ad ccs hat hrep;obtain rfl:=hrep;refine xR 0 hat [vI x] (vI x) rfl<|bE N fun y hy1 N=>zG7 rfl rfl h1 hy1 rfl (List.append_nil _).symm ?_;rintro I0 v0 le rfl;refine uO (hs':=hsF) (List.append_nil _) ?_;have h:=h.mono le;have h1:=h1.mono le;have H:=H.trans le;refine yN rfl<|zD<|yM N ?_ ?_
   · intro hc1 N;exact yE [(4,vI t8)]<|zD<|yC<|yB<|zM<|zM<|hr _ _ _ _ (zB N).symm H ⟨_,_,(.tmp rfl ResV.nil),(fun _ h=>h),⟨_,rfl,rfl,rfl⟩⟩
   intro hc1 N;exact zX<|zT<|zD<|zQ<|yF [] [(8,vI (W (t8 + 1)))]<|yZ<|wS [(0,vS p s c),(1,fv),(7,vI (s.length:Int)),(8,vI (W (t8 + 1)))]<|ih (W (t8 + 1)) _ N H h h1 hg ho hx hr
 intro hc N;exact yX<|zL<|zL<|yR []<|hx _  (zB N).symm H
def rR (s:(List Int)) (f0:(Int→Option Bool)):Option (Int):=do
 match←wD s f0 0 with
 | .ret r0=>pure r0
 | .done _ =>
  pure (-1)
theorem fF:∀ s f0 r,rR s f0=some r→∀ {I:Imm}{p c}{fv:Value}{hsF:List HA},(S4 I p s c)→(FV1 Tryz.prog I hsF fv f0)→Ret Tryz.prog 134 [vS p s c,fv] I hsF (mG hsF r):=by
 intro s f0 r N I p c fv hsF h h1;unfold rR at N;refine yA (fn:=Tryz.f134) (c:=(bodyOf Tryz.f134)) Tryz.func134 rfl rfl ?_;rintro B - -;refine yE []<|yI<|yE [(7,vI (s.length:Int)),(8,vI 0)]<|zD<|zV<|wS [(0,vS p s c),(1,fv),(7,vI (s.length:Int)),(8,vI 0)] ?_;obtain ⟨o0,ho0,hMl⟩:=zC N;refine gD s f0 0 o0 ho0 iR h h1 (fun _ _ _ h=>h) (fun _ _ h=>h) ?_ ?_
 · intro I01  heq le1;subst o0;refine zW<|wR [(4,vI (-1))]<|zD<|yC ?_;obtain rfl:=zB hMl;exact xH ⟨_,_,(.tmp rfl ResV.nil),(fun _ h=>h),⟨_,rfl,rfl,rfl⟩⟩
 intro r0 I9 hs9 m9 heq9 le9 hrs9;subst heq9;refine yB<|zM ?_;obtain rfl:=zB hMl;exact xH hrs9
def jS (hsF:List HA) (r:Bool):KT:=fun kk I' hs' v=>
  ∃ v0,hsF=hs'∧v=tupV [v0]∧v0=.bool r
def xM (s:(List Int)) (f0:(Int→Option Bool)):Option (Bool):=do
 let y←rR s f0
 pure (decide (y ≥ 0))
theorem sC:∀ s f0 r,xM s f0=some r→∀ {I:Imm}{p c}{fv:Value}{hsF:List HA},(S4 I p s c)→(FV1 Tryz.prog I hsF fv f0)→Ret Tryz.prog 101 [vS p s c,fv] I hsF (jS hsF r):=by
 intro s f0 r N I p c fv hsF h h1;unfold xM at N;refine yA (fn:=Tryz.f101) (c:=(bodyOf Tryz.f101)) Tryz.func101 rfl rfl ?_;rintro B - -;refine yE []<|xI<|yH 2 [] [(5,vS p s c),(6,fv)]<|bE N fun y hy N=>zCp (hs1:=hsF) (rest:=[]) rfl rfl rfl rfl (by kernel_rfl) rfl (List.append_nil _).symm (fF s f0 _ hy h h1) ?_;rintro I0 hs2 v2 k2 le - ⟨v0,rfl,rfl,rfl⟩ -;refine uO (hs':=hsF) (List.append_nil _) ?_;refine yF [] [(4,.bool (decide (y ≥ 0)))]<|zD<|yC ?_;obtain rfl:=zB N;exact xH ⟨_,_,(.tmp rfl ResV.nil),(fun _ h=>h),⟨_,rfl,rfl,rfl⟩⟩
def uM (n0:Int):Option (Bool):=do
 let y←wB n0 1 6
 pure (!y)
theorem fV:∀ n0 r,uM n0=some r→∀ {I:Imm} ,Ret Tryz.prog 102 [vI n0] I [] (zZ  r):=by
 intro n0 r N I;unfold uM at N;refine yA (fn:=Tryz.f102) (c:=(bodyOf Tryz.f102)) Tryz.func102 rfl rfl ?_;rintro B - -;refine yE []<|xI<|yH 1 [] [(3,vI n0)]<|bE N fun y hy N=>uR (wL n0 1 6 _ hy ) fun I0 le=>yF [] [(2,.bool (!y))]<|zD<|yC ?_;obtain rfl:=zB N;exact wY
end Go.LN
