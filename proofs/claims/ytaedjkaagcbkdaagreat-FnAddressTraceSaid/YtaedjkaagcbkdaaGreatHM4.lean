/- Helper of the proof (see the last text). -/
import Derived.Test.YtaedjkaagcbkdaaGreatHM3
set_option linter.unusedVariables false
set_option linter.unusedSimpArgs false
namespace Go.LN
open Go.Proofs
set_option maxRecDepth 20000
def fR (r:Str):KT:=fun kk imm' hs' v=>
  ∃ v0,hs'=[]∧v=tupV [v0]∧v0=.string ⟨⟨r.l⟩⟩
def rK (n01:Int) (out:Str):Option ((Int×Str)):=do
 if (decide (n01 > 9)) then
  let s1←cat (⟨([(u8 (W (48 + (n01.tmod 10))))]:List UInt8)⟩:Str) out
  rK (W (n01.tdiv 10)) s1
 else
  pure (n01,out)
 partial_fixpoint
theorem zCE :∀ (n01:Int) (out:Str) (o:(Int×Str)),rK n01 out=some o→∀ {B}{imm0 imm:Imm}{Q}  ,imm0.le imm→(∀ gl a w,¬Q (.goto gl) a w)→(∀ a w,¬Q .outgrown a w)→(∀ (imm':Imm) (n02:Int) (out1:Str),o=(n02,out1)→imm0.le imm'→T 31 B Q (.exit 0) imm' [] [(0,vI n02),(3,vT out1.l)])→J Tryz.prog 31 B (nav (bodyOf Tryz.f199) [1,1,1,1,0,0]) Q imm [] [(0,vI n01),(3,vT out.l)]:=by
 refine rK.partial_correctness  _ ?_;intro self ih n01 out o hM B imm0 imm Q  hle  hg ho hx;refine xA hg ho<|zG<|zG<|zB<|yA [] [(13,.bool (decide (n01 > 9)))]<|zF<|yO hM ?_ ?_
 · intro hc2 hM;refine yE<|zF<|yC<|zG<|zB<|yK 3 [] [(16,vI (W (48 + (n01.tmod 10))))]<|zJT (d:=17) (i:=(W (48 + (n01.tmod 10)))) rfl (by kernel_rfl)<|xV [.int .u8 ((u8 (W (48 + (n01.tmod 10)))).toNat:Int)] UInt8 ?_;intro b hb;have h1:RL imm [.int .u8 ((u8 (W (48 + (n01.tmod 10)))).toNat:Int)] ([(u8 (W (48 + (n01.tmod 10))))]:List UInt8):=⟨[.int .u8 ((u8 (W (48 + (n01.tmod 10)))).toNat:Int)],_,rfl,rfl,rfl,rfl⟩;refine zGj (l:=([(u8 (W (48 + (n01.tmod 10))))]:List UInt8)) rfl rfl rfl rfl (by kernel_rfl) (by kernel_rfl) (.inr ⟨0,rfl⟩) h1<|yK 7 [] [(20,vT out.l)] ?_;obtain ⟨s1,hy2,hM⟩:=zC hM;exact jM rfl hy2<|yA [] [(3,vT s1.l)]<|zF<|zB<|yA [] [(0,vI (W (n01.tdiv 10)))]<|zY<|xB<|qP (zL [] rfl (by decide))<|vG [(0,vI (W (n01.tdiv 10))),(3,vT s1.l)]<|ih (W (n01.tdiv 10)) s1 _ hM hle  hg ho hx
 intro hc2 hM;exact yZ<|zS<|zS<|yS [(0,vI n01),(3,vT out.l)]<|hx _ _ _ (zD hM).symm hle
def sH (n0:Int):Option (Str):=do
 if (decide (n0 < (-9223372036854775807))) then
  pure (⟨[45,57,50,50,51,51,55,50,48,51,54,56,53,52,55,55,53,56,48,56]⟩:Str)
 else
  if (decide (n0 < 0)) then
   let y←sH (W (0 - n0))
   let s←cat (⟨[45]⟩:Str) y
   pure (id s)
  else
   let (n02,out1)←rK n0 (⟨[]⟩:Str)
   let s2←cat (⟨([(u8 (W (48 + n02)))]:List UInt8)⟩:Str) out1
   pure (id s2)
 partial_fixpoint
theorem jS:∀ (n0:Int) r,sH n0=some r→∀ {imm:Imm} ,Ret Tryz.prog 199 [vI n0] imm [] (fR  r):=by
 refine sH.partial_correctness (fun n0 r=>∀ {imm:Imm} ,Ret Tryz.prog 199 [vI n0] imm [] (fR  r)) ?_;intro F_spec_l16Dec ih_spec_l16Dec n0 r hM imm;refine yH (fn:=Tryz.f199) (c:=(bodyOf Tryz.f199)) Tryz.func199 rfl rfl ?_;rintro B - -;refine zG<|zB<|yA [] []<|zF<|zG<|zG<|zB<|yA [] [(5,.bool (decide (n0 < (-9223372036854775807))))]<|zF<|yO hM ?_ ?_
 · intro hc hM;refine zG<|zB<|yA [] [(2,vT ([45,57,50,50,51,51,55,50,48,51,54,56,53,52,55,55,53,56,48,56]))]<|zF<|yI<|zP ?_;obtain rfl:=zD hM;exact yP ⟨_,_,(.tmp rfl ResV.nil),zX,⟨_,rfl,rfl,rfl⟩⟩
 intro hc hM;refine yE<|zF<|zG<|zG<|zB<|yA [] [(7,.bool (decide (n0 < 0)))]<|zF<|yO hM ?_ ?_
 · intro hc1 hM;refine zG<|zB<|yK 2 [] [(9,vI (W (0 - n0)))] ?_;obtain ⟨y,hy,hM⟩:=zC hM;refine yQ (ih_spec_l16Dec (W (0 - n0)) _ hy ) ?_;rintro imm0 hs2 v2 k2 le - ⟨v0,rfl,rfl,rfl⟩ -;obtain ⟨s,hy1,hM⟩:=zC hM;refine jM rfl hy1<|yA [] [(2,vT s.l)]<|zF<|yI<|zP ?_;obtain rfl:=zD hM;exact yP ⟨_,_,(.tmp rfl ResV.nil),zX,⟨_,rfl,rfl,rfl⟩⟩
 intro hc1 hM;refine yE<|zF<|zG<|zB<|yA [] [(3,vT ([]))]<|zF<|zG<|yC<|vG [(0,vI n0),(3,vT ([]))] ?_;obtain ⟨o0,ho0,hMl⟩:=zC hM;refine zCE n0 (⟨[]⟩:Str) o0 ho0 iR  (fun _ _ _ h=>h) (fun _ _ h=>h) ?_;intro imm01 n02 out1 heq le1;subst o0;refine yD<|zF<|zG<|zB<|yK 2 [] [(25,vI (W (48 + n02)))]<|zJT (d:=26) (i:=(W (48 + n02))) rfl (by kernel_rfl)<|xV [.int .u8 ((u8 (W (48 + n02))).toNat:Int)] UInt8 ?_;intro b1 hb1;have h2:RL imm01 [.int .u8 ((u8 (W (48 + n02))).toNat:Int)] ([(u8 (W (48 + n02)))]:List UInt8):=⟨[.int .u8 ((u8 (W (48 + n02))).toNat:Int)],_,rfl,rfl,rfl,rfl⟩;refine zGj (l:=([(u8 (W (48 + n02)))]:List UInt8)) rfl rfl rfl rfl (by kernel_rfl) (by kernel_rfl) (.inr ⟨0,rfl⟩) h2<|yK 6 [] [(29,vT out1.l)] ?_;obtain ⟨s2,hy3,hM⟩:=zC hMl;refine jM rfl hy3<|yA [] [(2,vT s2.l)]<|zF<|yI ?_;obtain rfl:=zD hM;exact yP ⟨_,_,(.tmp rfl ResV.nil),zX,⟨_,rfl,rfl,rfl⟩⟩
def zCr (r:Str):KT:=fun kk imm' hs' v=>
  ∃ v0,hs'=[]∧v=tupV [v0]∧v0=.string ⟨⟨r.l⟩⟩
def nF (n0:Int) (name:Str):Option (Str):=do
 let (n01,sign)←(do
   if (decide (n0 < 0)) then
    pure ((W (0 - n0)),(⟨[45]⟩:Str))
   else
    pure (n0,(⟨[43]⟩:Str))
     : Option (Int×Str))
 if (name.l == ([]:List UInt8)) then
  let y←sH n01
  let s←cat sign y
  pure (id s)
 else
  if (n01 == 1) then
   let s1←cat sign name
   pure (id s1)
  else
   let y1←sH n01
   let s2←cat sign y1
   let s3←cat s2 (⟨[42]⟩:Str)
   let s4←cat s3 name
   pure (id s4)
theorem zAK:∀ (n0:Int) (name:Str) r,nF n0 name=some r→∀ {imm:Imm} ,Ret Tryz.prog 223 [vI n0,vT name.l] imm [] (zCr  r):=by
 intro n0 name r hM imm;unfold nF at hM;refine yH (fn:=Tryz.f223) (c:=(bodyOf Tryz.f223)) Tryz.func223 rfl rfl ?_;rintro B - -;have hle:=iS imm;refine zG<|zB<|yA [] []<|zF<|zG<|zB<|yA [] [(5,vT ([43]))]<|zF<|zG<|zG<|zB<|yA [] [(7,.bool (decide (n0 < 0)))]<|zF ?_;obtain ⟨o0,ho0,hMc⟩:=zC hM;refine yT (fun imm' hs' m'=>∃ (n01:Int) (sign:Str),o0=(n01,sign)∧imm.le imm'∧hs'=[]∧m'=[(0,vI n01),(1,vT name.l),(5,vT sign.l)]) ?_ ?_
 · have hle:=iS imm;refine yO ho0 ?_ ?_
   · intro hc hM;exact zG<|zB<|yA [] [(5,vT ([45]))]<|zF<|zB<|yA [] [(0,vI (W (0 - n0)))]<|yS [(0,vI (W (0 - n0))),(1,vT name.l),(5,vT ([45]))]<|yB ⟨_,_,(zD hM).symm,hle,rfl,rfl⟩
   intro hc hM;exact yE<|yS [(0,vI n0),(1,vT name.l),(5,vT ([43]))]<|yB ⟨_,_,(zD hM).symm,hle,rfl,rfl⟩
 rintro imm0 hs2 m2 ⟨n01,sign,heq,le,rfl,rfl⟩;subst o0;refine zF<|zG<|zG<|zB<|yA [] [(11,.bool (name.l == ([]:List UInt8)))]<|zF<|yO hMc ?_ ?_
 · intro hc1 hM;refine zG<|zB<|yK 2 [] [(12,vT sign.l),(13,vI n01)] ?_;obtain ⟨y,hy,hM⟩:=zC hM;refine yQ (jS n01 _ hy ) ?_;rintro imm01 hs2 v2 k2 le1 - ⟨v0,rfl,rfl,rfl⟩ -;obtain ⟨s,hy1,hM⟩:=zC hM;refine jM rfl hy1<|yA [] [(4,vT s.l)]<|zF<|yI<|zP ?_;obtain rfl:=zD hM;exact yP ⟨_,_,(.tmp rfl ResV.nil),zX,⟨_,rfl,rfl,rfl⟩⟩
 intro hc1 hM;refine yE<|zF<|zG<|zG<|zB<|yA [] [(17,.bool (n01 == 1))]<|zF<|yO hM ?_ ?_
 · intro hc2 hM;refine zG<|zB<|yK 2 [] [(18,vT sign.l),(19,vT name.l)] ?_;obtain ⟨s1,hy2,hM⟩:=zC hM;refine jM rfl hy2<|yA [] [(4,vT s1.l)]<|zF<|yI<|zP ?_;obtain rfl:=zD hM;exact yP ⟨_,_,(.tmp rfl ResV.nil),zX,⟨_,rfl,rfl,rfl⟩⟩
 intro hc2 hM;refine yE<|zF<|zG<|zB<|yK 2 [] [(21,vT sign.l),(22,vI n01)] ?_;obtain ⟨y1,hy3,hM⟩:=zC hM;refine yQ (jS n01 _ hy3 ) ?_;rintro imm02 hs2 v2 k2 le2 - ⟨v01,rfl,rfl,rfl⟩ -;obtain ⟨s2,hy4,hM⟩:=zC hM;refine jM rfl hy4 ?_;obtain ⟨s3,hy5,hM⟩:=zC hM;refine jM rfl hy5<|yK 6 [] [(26,vT name.l)] ?_;obtain ⟨s4,hy6,hM⟩:=zC hM;refine jM rfl hy6<|yA [] [(4,vT s4.l)]<|zF<|yI ?_;obtain rfl:=zD hM;exact yP ⟨_,_,(.tmp rfl ResV.nil),zX,⟨_,rfl,rfl,rfl⟩⟩
def zCs (r:Str):KT:=fun kk imm' hs' v=>
  ∃ v0,hs'=[]∧v=tupV [v0]∧v0=.string ⟨⟨r.l⟩⟩
def rL (a0:zA) (out:Str) (i:Int):Option (Str):=do
 if (decide (i < (a0.Coefs.length:Int))) then
  let x←idx a0.Coefs i
  let out2←(do
    if (x != 0) then
     let x1←idx a0.Coefs i
     let s←sslc (⟨[105,106,107,108]⟩:Str) i (W (i + 1))
     let y←nF x1 s
     let s1←cat out y
     pure (id s1)
    else
     pure (id out)
      : Option Str)
  rL a0 out2 (W (i + 1))
 else
  pure (id out)
 partial_fixpoint
theorem zCF (a0:zA):∀ (out:Str) (i:Int) (o:Str),rL a0 out i=some o→∀ {B}{imm0 imm:Imm}{Q p c}{b:Nat},imm0.le imm→(S4 imm p a0.Coefs c)→(∀ gl a w,¬Q (.goto gl) a w)→(∀ a w,¬Q .outgrown a w)→(∀ (imm':Imm) (out1:Str),o=out1→imm0.le imm'→T 46 B Q (.exit 0) imm' [hB b (cAff a0 p c)] [(1,vP b 0),(3,vT out1.l)])→J Tryz.prog 46 B (nav (bodyOf Tryz.f215) [1,1,0,1,0]) Q imm [hB b (cAff a0 p c)] [(1,vP b 0),(3,vT out.l),(4,vI i)]:=by
 refine rL.partial_correctness a0 _ ?_;intro self ih out i o hM B imm0 imm Q p c b hle h hg ho hx;refine xA hg ho<|zG<|zG<|zB<|yA [0] [(9,.bool (decide (i < (a0.Coefs.length:Int))))]<|zF<|yO hM ?_ ?_
 · intro hc hM;refine yE<|zF<|zG<|yC<|zG<|zB<|yK 3 [0] [(13,vS p a0.Coefs c),(14,vI i)] ?_;obtain ⟨x,hy,hM⟩:=zC hM;refine wD rfl rfl h hy ?_;intro ad ccs hat hrep;obtain rfl:=hrep;refine xQ 0 hat [vI x] (vI x) rfl<|yA [] [(17,.bool (x != 0))]<|zF ?_;obtain ⟨o0,ho0,hMc⟩:=zC hM;refine yT (fun imm' hs' m'=>∃ (out2:Str),o0=out2∧imm.le imm'∧hs'=[hB b (cAff a0 p c)]∧m'=[(1,vP b 0),(3,vT out2.l),(4,vI i)]) ?_ ?_
   · have hle:=iS imm;refine yO ho0 ?_ ?_
     · intro hc1 hM;obtain ⟨x1,hy1,hM⟩:=zC hM;obtain ⟨s,hy2,hM⟩:=zC hM;obtain ⟨y,hy3,hM⟩:=zC hM;obtain ⟨s1,hy4,hM⟩:=zC hM;refine vC [.p (vT out.l) [],.p (vP b 0) [],.p (vS p a0.Coefs c) [0],.p (vI i) [],.x (fun imm' v hx=>∃ ad1,v=.pointer (some ad1)∧hx=[]∧(At imm' ad1 [vI x1])),.q (vI x1),.p (vI i) [],.p (vI i) [],.p (vI (W (i + 1))) [],.q (vT s.l),.q (vT y.l),.q (vT s1.l)] [[],[],[(1,false)],[],[(2,false),(3,false)],[(4,false)],[],[],[(7,false)],[(6,false),(8,false)],[(5,false),(9,false)],[(0,false),(10,false)]] [hB b (cAff a0 p c)] [] [(11,false)] (zL [0] rfl (by decide)) ?_ ?_
       · refine Op<|Op<|Op<|Op<|Ox ?_<|Oq ?_<|Op<|Op<|Op<|Oq ?_<|Oq ?_<|Oq ?_<|On
         · intro imm1 hf le1;refine zE ?_;rintro _ _ ⟨rfl,rfl⟩;refine zE ?_;rintro _ _ ⟨rfl,rfl⟩;refine zM<|yG [(20,vS p a0.Coefs c),(21,vI i)] ?_;have hle:=iS imm1;have h:=h.mono le1;refine wD rfl rfl h hy1 ?_;intro ad1 ccs1 hat1 hrep1;obtain rfl:=hrep1;exact zZ (hx:=[]) rfl hle rfl (zK rfl) ⟨_,rfl,rfl,hat1⟩
         · intro imm1 hf le1;refine zE ?_;rintro _ _ ⟨ad1,rfl,rfl,hat1⟩;refine zM<|yG [(22,.pointer (some ad1))] ?_;have hle:=iS imm1;exact xQ 0 hat1 [vI x1] (vI x1) rfl<|zZ (hx:=[]) rfl hle rfl (zK rfl) ⟨rfl,rfl⟩
         · intro imm1 hf le1;refine zE ?_;rintro _ _ ⟨rfl,rfl⟩;refine zE ?_;rintro _ _ ⟨rfl,rfl⟩;refine zM<|yG [(24,vI i),(26,vI (W (i + 1)))] ?_;have hle:=iS imm1;exact zE3 rfl hy2<|zZ (hx:=[]) rfl hle rfl (zK rfl) ⟨rfl,rfl⟩
         · intro imm1 hf le1;refine zE ?_;rintro _ _ ⟨rfl,rfl⟩;refine zE ?_;rintro _ _ ⟨rfl,rfl⟩;refine zM<|yG [(23,vI x1),(27,vT s.l)] ?_;have hle:=iS imm1;refine yQ (zAK x1 s _ hy3 ) ?_;rintro imm01 hs2 v2 k2 le - ⟨v0,rfl,rfl,rfl⟩ -;have hle:=hle.trans le;exact zZ (hx:=[]) rfl hle rfl (zK rfl) ⟨rfl,rfl⟩
         intro imm1 hf le1;refine zE ?_;rintro _ _ ⟨rfl,rfl⟩;refine zE ?_;rintro _ _ ⟨rfl,rfl⟩;refine zM<|yG [(18,vT out.l),(28,vT y.l)] ?_;have hle:=iS imm1;exact jM rfl hy4<|zZ (hx:=[]) rfl hle rfl (zK rfl) ⟨rfl,rfl⟩
       intro imm02 le1;refine zE ?_;rintro _ _ ⟨rfl,rfl⟩;refine zM<|yG [(1,vP b 0),(4,vI i),(29,vT s1.l)] ?_;have hle:=hle.trans le1;exact yA [] [(3,vT s1.l)]<|yS [(1,vP b 0),(3,vT s1.l),(4,vI i)]<|yB ⟨_,(zD hM).symm,hle,rfl,rfl⟩
     intro hc1 hM;exact yE<|yS [(1,vP b 0),(3,vT out.l),(4,vI i)]<|yB ⟨_,(zD hM).symm,hle,rfl,rfl⟩
   rintro imm0 hs2 m2 ⟨out2,heq,le2,rfl,rfl⟩;subst o0;have h:=h.mono le2;have hle:=hle.trans le2;exact zY<|zF<|zB<|yA [] [(4,vI (W (i + 1)))]<|xB<|vG [(1,vP b 0),(3,vT out2.l),(4,vI (W (i + 1)))]<|ih out2 (W (i + 1)) _ hMc hle h hg ho hx
 intro hc hM;exact yZ<|zS<|zS<|yS [(1,vP b 0),(3,vT out.l)]<|hx _ _ (zD hM).symm hle
def oC (a0:zA):Option (Str):=do
 let out1←rL a0 (⟨[]⟩:Str) 0
 let out3←(do
   if (a0.Const != 0) then
    let y1←nF a0.Const (⟨[]⟩:Str)
    let s2←cat out1 y1
    pure (id s2)
   else
    pure (id out1)
     : Option Str)
 if (out3.l == ([]:List UInt8)) then
  pure (⟨[48]⟩:Str)
 else
  let s3←sslc out3 0 1
  if (s3.l == ([43]:List UInt8)) then
   let s4←sslc out3 1 (out3.l.length:Int)
   pure (id s4)
  else
   pure (id out3)
theorem jT:∀ (a0:zA) r,oC a0=some r→∀ {imm:Imm}{p c},(S4 imm p a0.Coefs c)→Ret Tryz.prog 215 [vA (cAff a0 p c)] imm [] (zCs  r):=by
 intro a0 r hM imm p c h;unfold oC at hM;refine yH (fn:=Tryz.f215) (c:=(bodyOf Tryz.f215)) Tryz.func215 rfl rfl ?_;rintro B - -;have hle:=iS imm;refine zG<|zB<|tA (cAff a0 p c) ?_;intro b hb;refine yA [] []<|zF<|zG<|zB<|yA [] [(3,vT ([]))]<|zF<|zG<|zG<|zB<|yA [] [(4,vI 0)]<|zF<|yC<|vG [(1,vP b 0),(3,vT ([])),(4,vI 0)] ?_;obtain ⟨o01,ho01,hMl⟩:=zC hM;refine zCF a0 (⟨[]⟩:Str) 0 o01 ho01 iR h (fun _ _ _ h=>h) (fun _ _ h=>h) ?_;intro imm03 out1 heq1 le3;subst o01;have hle:=hle.trans le3;refine yD<|zF<|zG<|zG<|zB<|yA [0] [(32,.bool (a0.Const != 0))]<|zF ?_;obtain ⟨o02,ho02,hMc1⟩:=zC hMl;refine yT (fun imm' hs' m'=>∃ (out3:Str),o02=out3∧imm03.le imm'∧hs'=[]∧m'=[(3,vT out3.l)]) ?_ ?_
 · have hle:=iS imm03;refine yO ho02 ?_ ?_
   · intro hc2 hM;refine zB<|yK 3 [0] [(33,vT out1.l),(35,vI a0.Const)] ?_;obtain ⟨y1,hy5,hM⟩:=zC hM;refine yQ (zAK a0.Const (⟨[]⟩:Str) _ hy5 ) ?_;rintro imm05 hs2 v2 k2 le4 - ⟨v01,rfl,rfl,rfl⟩ -;have hle:=hle.trans le4;obtain ⟨s2,hy6,hM⟩:=zC hM;exact jM rfl hy6<|yA [] [(3,vT s2.l)]<|wB (zL [] rfl (by decide))<|yS [(3,vT s2.l)]<|yB ⟨_,(zD hM).symm,hle,rfl,rfl⟩
   intro hc2 hM;exact yE<|wB (zL [] rfl (by decide))<|yS [(3,vT out1.l)]<|yB ⟨_,(zD hM).symm,hle,rfl,rfl⟩
 rintro imm04 hs2 m2 ⟨out3,heq2,le5,rfl,rfl⟩;subst o02;refine zF<|zG<|zG<|zB<|yA [] [(39,.bool (out3.l == ([]:List UInt8)))]<|zF<|yO hMc1 ?_ ?_
 · intro hc3 hM;refine zG<|zB<|yA [] [(2,vT ([48]))]<|zF<|yI<|zP ?_;obtain rfl:=zD hM;exact yP ⟨_,_,(.tmp rfl ResV.nil),zX,⟨_,rfl,rfl,rfl⟩⟩
 intro hc3 hM;refine yE<|zF<|zG<|zG<|zB<|yK 1 [] [(40,vT out3.l)] ?_;obtain ⟨s3,hy7,hM⟩:=zC hM;refine zE3 rfl hy7<|yA [] [(42,.bool (s3.l == ([43]:List UInt8)))]<|zF<|yO hM ?_ ?_
 · intro hc4 hM;refine zG<|zB<|yK 1 [] [(43,vT out3.l)] ?_;obtain ⟨s4,hy8,hM⟩:=zC hM;refine zE3 rfl hy8<|yA [] [(2,vT s4.l)]<|zF<|yI<|zP ?_;obtain rfl:=zD hM;exact yP ⟨_,_,(.tmp rfl ResV.nil),zX,⟨_,rfl,rfl,rfl⟩⟩
 intro hc4 hM;refine yE<|zF<|zG<|zB<|yA [] [(2,vT out3.l)]<|zF<|yI ?_;obtain rfl:=zD hM;exact yP ⟨_,_,(.tmp rfl ResV.nil),zX,⟨_,rfl,rfl,rfl⟩⟩
def eN (r:Str):KT:=fun kk imm' hs' v=>
  ∃ v0,hs'=[]∧v=tupV [v0]∧v0=.string ⟨⟨r.l⟩⟩
def qH (a0:zA):Option (Str):=do
 let y←wY a0
 if (!y) then
  pure (⟨[]⟩:Str)
 else
  let y1←oC a0
  pure (id y1)
theorem zAL:∀ (a0:zA) r,qH a0=some r→∀ {imm:Imm}{p c},(S4 imm p a0.Coefs c)→Ret Tryz.prog 222 [vA (cAff a0 p c)] imm [] (eN  r):=by
 intro a0 r hM imm p c h;unfold qH at hM;refine yH (fn:=Tryz.f222) (c:=(bodyOf Tryz.f222)) Tryz.func222 rfl rfl ?_;rintro B - -;refine zG<|zB<|tA (cAff a0 p c) ?_;intro b hb;refine yA [] []<|zF<|zG<|zG<|zB<|yK 1 [0] [(3,vA (cAff a0 p c))] ?_;obtain ⟨y,hy,hM⟩:=zC hM;refine yQ (oG a0 _ hy h) ?_;rintro imm0 hs2 v2 k2 le - ⟨v0,rfl,rfl,rfl⟩ -;have h:=h.mono le;refine yA [] [(5,.bool (!y))]<|zF<|yO hM ?_ ?_
 · intro hc hM;refine zG<|zB<|yA [] [(2,vT ([]))]<|zF<|yI<|zP ?_;obtain rfl:=zD hM;exact yP ⟨_,_,(.tmp rfl ResV.nil),zX,⟨_,rfl,rfl,rfl⟩⟩
 intro hc hM;refine yE<|zF<|zG<|zB<|yK 1 [0] [(6,vA (cAff a0 p c))] ?_;obtain ⟨y1,hy1,hM⟩:=zC hM;refine yQ (jT a0 _ hy1 h) ?_;rintro imm01 hs2 v2 k2 le1 - ⟨v01,rfl,rfl,rfl⟩ -;refine yA [] [(2,vT y1.l)]<|zF<|yI ?_;obtain rfl:=zD hM;exact yP ⟨_,_,(.tmp rfl ResV.nil),zX,⟨_,rfl,rfl,rfl⟩⟩
def dJ (r:zA×Bool):KT:=fun kk imm' hs' v=>
  ∃ v0 v1,hs'=[]∧v=tupV [v0,v1]∧(∃ cs,v0=.agg ⟨cs⟩∧Rp.rep imm' cs r.1)∧v1=.bool r.2
def tS (text:Str) (at0:Int) (x:zA):Option (zA):=do
 let t18←(do
   if (decide (at0 ≥ 0)) then
    pure (decide (at0 < (text.l.length:Int)))
   else
    pure false
     : Option Bool)
 if t18 then
  let (y2,y3)←nP x text at0
  tS text y3 y2
 else
  pure (id x)
 partial_fixpoint
theorem eO (text:Str):∀ (at0:Int) (x:zA) (o:zA),tS text at0 x=some o→∀ {B}{imm0 imm:Imm}{Q}  {b:Nat}{b1:Nat}{p1 c1},imm0.le imm→(S4 imm p1 x.Coefs c1)→(∀ gl a w,¬Q (.goto gl) a w)→(∀ a w,¬Q .outgrown a w)→(∀ (imm':Imm) (x1:zA) (p2:Option Addr) (c2:Nat),o=x1→imm0.le imm'→(S4 imm' p2 x1.Coefs c2)→T 32 B Q (.exit 0) imm' [hB b1 (cAff x1 p2 c2),hB b [z0,vI 0]] [(0,vT text.l),(2,vP b 0),(4,vP b1 0)])→J Tryz.prog 32 B (nav (bodyOf Tryz.f210) [1,1,1,1,0,0]) Q imm [hB b1 (cAff x p1 c1),hB b [z0,vI 0]] [(0,vT text.l),(2,vP b 0),(4,vP b1 0),(5,vI at0)]:=by
 refine tS.partial_correctness text _ ?_;intro self ih at0 x o hM B imm0 imm Q b b1 p1 c1 hle h2 hg ho hx;refine xA hg ho<|zG<|zG ?_;obtain ⟨o0,ho0,hMc⟩:=zC hM;refine yT (fun imm' hs' m'=>∃ (t18:Bool),o0=t18∧imm.le imm'∧hs'=[hB b1 (cAff x p1 c1),hB b [z0,vI 0]]∧m'=[(0,vT text.l),(2,vP b 0),(4,vP b1 0),(5,vI at0),(18,.bool t18)]) ?_ ?_
 · have hle:=iS imm;refine zB<|yK 3 [] [(13,.bool (decide (at0 ≥ 0)))] ?_;cases hc1:(decide (at0 ≥ 0)) with
   | true =>
    have hM0:=zV hc1 ho0
    try rw [hc1]
    exact yA [] [(18,.bool (decide (at0 < (text.l.length:Int))))]<|yS [(0,vT text.l),(2,vP b 0),(4,vP b1 0),(5,vI at0),(18,.bool (decide (at0 < (text.l.length:Int))))]<|yB ⟨_,(zD hM0).symm,hle,rfl,rfl⟩
   | false =>
    have hM01:=zT hc1 ho0
    try rw [hc1]
    exact yA [] [(18,.bool false)]<|yS [(0,vT text.l),(2,vP b 0),(4,vP b1 0),(5,vI at0),(18,.bool false)]<|yB ⟨_,(zD hM01).symm,hle,rfl,rfl⟩
 rintro imm02 hs2 m2 ⟨t18,heq,le2,rfl,rfl⟩;subst o0;have h2:=h2.mono le2;have hle:=hle.trans le2;refine zF<|yO hMc ?_ ?_
 · intro hc2 hM;refine yE<|zF<|yC<|zB<|yK 3 [0] [(20,vA (cAff x p1 c1)),(21,vT text.l),(22,vI at0)] ?_;obtain ⟨⟨y2,y3⟩,hy1,hM⟩:=zC hM;refine yQ (zDU x text at0 _ hy1 h2) ?_;rintro imm03 hs2 v2 k2 le3 - ⟨v0,v01,rfl,rfl,⟨cs1,rfl,h4⟩,rfl⟩ -;have hle:=hle.trans le3;obtain ⟨v02,rfl,h6⟩:=yM h4;obtain ⟨p3,c3,rfl⟩:=h6.form;exact yK 7 [] [(24,vA (cAff y2 p3 c3)),(25,vI y3)]<|xI 0 (cAff y2 p3 c3) [hB b1 (cAff y2 p3 c3),hB b [z0,vI 0]] rfl rfl rfl rfl<|yA [] [(5,vI y3)]<|zY<|xB<|vG [(0,vT text.l),(2,vP b 0),(4,vP b1 0),(5,vI y3)]<|ih y3 y2 _ hM hle h6 hg ho hx
 intro hc2 hM;exact yZ<|zS<|zS<|yS [(0,vT text.l),(2,vP b 0),(4,vP b1 0)]<|hx _ _ _ _ (zD hM).symm hle h2
def rM (text:Str):Option (zA×Bool):=do
 let y←rT
 if (decide ((text.l.length:Int) > 40)) then
  pure ((zA.mk ([]:List Int) 0),false)
 else
  let x1←tS text 0 (zA.mk y.Coefs y.Const)
  let y4←qH x1
  if (!(y4.l == text.l)) then
   pure ((zA.mk ([]:List Int) 0),false)
  else
   pure (x1,true)
theorem jE:∀ (text:Str) r,rM text=some r→∀ {imm:Imm} ,Ret Tryz.prog 210 [vT text.l] imm [] (dJ  r):=by
 intro text r hM imm;unfold rM at hM;refine yH (fn:=Tryz.f210) (c:=(bodyOf Tryz.f210)) Tryz.func210 rfl rfl ?_;rintro B - -;refine zG<|zB<|uB [z0,vI 0] ?_;intro b hb;refine yA [] []<|zF<|zG<|zB ?_;obtain ⟨y,hy,hM⟩:=zC hM;refine yQ (oH  _ hy ) ?_;rintro imm0 hs2 v2 k2 le - ⟨p,c,cs,rfl,rfl,h⟩ -;refine uB [z0,vI 0] ?_;intro b1 hb1;refine xI 0 (cAff y p c) [hB b1 (cAff y p c),hO Int (vS p y.Coefs c) cs,hB b [z0,vI 0]] rfl rfl rfl rfl<|yN rfl<|zF<|zG<|zG<|zB<|yA [] [(9,.bool (decide ((text.l.length:Int) > 40)))]<|zF<|yO hM ?_ ?_
 · intro hc hM;refine zG<|zB<|yK 1 [] [(10,vA [z0,vI 0])]<|xI 2 [z0,vI 0] [hB b1 (cAff y p c),hO Int (vS p y.Coefs c) cs,hB b [z0,vI 0]] rfl rfl rfl rfl<|yA [] [(3,.bool false)]<|zF<|yI<|zP ?_;obtain rfl:=zD hM;exact yP ⟨_,_,(.cell 2 rfl rfl (by kernel_rfl) (.tmp rfl ResV.nil)),zX,⟨_,_,rfl,rfl,⟨_,rfl,(yR ⟨_,rfl,(SL.nil _)⟩)⟩,rfl⟩⟩
 intro hc hM;refine yE<|zF<|zG<|zB<|yA [] [(5,vI 0)]<|zF<|zG<|yC<|qW 1 rfl ?_;intro imm01 le1 hl0;have h1:=SL.of_frozen hl0 le1 h;refine vG [(0,vT text.l),(2,vP b 0),(4,vP b1 0),(5,vI 0)] ?_;obtain ⟨o01,ho01,hMl⟩:=zC hM;refine eO text 0 (zA.mk y.Coefs y.Const) o01 ho01 iR h1 (fun _ _ _ h=>h) (fun _ _ h=>h) ?_;intro imm04 x1 p2 c2 heq1 le4 h3;subst o01;refine yD<|zF<|zG<|zG<|zB<|yK 1 [0] [(26,vA (cAff x1 p2 c2))] ?_;obtain ⟨y4,hy2,hM⟩:=zC hMl;refine yQ (zAL x1 _ hy2 h3) ?_;rintro imm05 hs2 v2 k2 le5 - ⟨v03,rfl,rfl,rfl⟩ -;have h3:=h3.mono le5;refine yA [] [(29,.bool (!(y4.l == text.l)))]<|zF<|yO hM ?_ ?_
 · intro hc3 hM;refine zG<|zB<|yK 1 [] [(30,vA [z0,vI 0])]<|xI 1 [z0,vI 0] [hB b1 (cAff x1 p2 c2),hB b [z0,vI 0]] rfl rfl rfl rfl<|yA [] [(3,.bool false)]<|zF<|yI<|zP ?_;obtain rfl:=zD hM;exact yP ⟨_,_,(.cell 1 rfl rfl (by kernel_rfl) (.tmp rfl ResV.nil)),zX,⟨_,_,rfl,rfl,⟨_,rfl,(yR ⟨_,rfl,(SL.nil _)⟩)⟩,rfl⟩⟩
 intro hc3 hM;refine yE<|zF<|zG<|zB<|yK 1 [0] [(31,vA (cAff x1 p2 c2))]<|xI 1 (cAff x1 p2 c2) [hB b1 (cAff x1 p2 c2),hB b (cAff x1 p2 c2)] rfl rfl rfl rfl<|yA [] [(3,.bool true)]<|zF<|yI ?_;obtain rfl:=zD hM;exact yP ⟨_,_,(.cell 1 rfl rfl (by kernel_rfl) (.tmp rfl ResV.nil)),zX,⟨_,_,rfl,rfl,⟨_,rfl,(yR ⟨_,rfl,h3⟩)⟩,rfl⟩⟩
def dK (r:(List zA)):KT:=fun kk imm' hs' v=>
  ∃ v0,hs'=[]∧v=tupV [v0]∧SL imm' v0 r
def uQ (y:(List Str)) (out:List zA) (i:Int):Option (List zA):=do
 let t18←(do
   if (decide (i < (y.length:Int))) then
    pure (decide (i ≤ 2))
   else
    pure false
     : Option Bool)
 if t18 then
  let x←idx y i
  let (y2,y3)←rM x
  let out2←app 32 out ([y2]:List zA)
  uQ y out2 (W (i + 1))
 else
  pure (id out)
 partial_fixpoint
theorem eQ (y:(List Str)):∀ (out:List zA) (i:Int) (o:List zA),uQ y out i=some o→∀ {B}{imm0 imm:Imm}{Q p c p1 c1 cs},imm0.le imm→(S4 imm p y c)→(RL imm cs out)→(∀ gl a w,¬Q (.goto gl) a w)→(∀ a w,¬Q .outgrown a w)→(∀ (imm':Imm) (out1:List zA) (p2:Option Addr) (c2:Nat) (cs1:List Value),o=out1→imm0.le imm'→(RL imm' cs1 out1)→T 34 B Q (.exit 0) imm' [hO zA (vS p2 out1 c2) cs1] [(3,vS p2 out1 c2)])→J Tryz.prog 34 B (nav (bodyOf Tryz.f209) [1,1,1,0,1,0]) Q imm [hO zA (vS p1 out c1) cs] [(3,vS p1 out c1),(4,vS p y c),(5,vI i)]:=by
 refine uQ.partial_correctness y _ ?_;intro self ih out i o hM B imm0 imm Q p c p1 c1 cs hle h1 h2 hg ho hx;refine xA hg ho<|zG<|zG ?_;obtain ⟨o0,ho0,hMc⟩:=zC hM;refine yT (fun imm' hs' m'=>∃ (t18:Bool),o0=t18∧imm.le imm'∧hs'=[hO zA (vS p1 out c1) cs]∧m'=[(3,vS p1 out c1),(4,vS p y c),(5,vI i),(18,.bool t18)]) ?_ ?_
 · have hle:=iS imm;refine zB<|yK 5 [] [(15,.bool (decide (i < (y.length:Int))))] ?_;cases hc:(decide (i < (y.length:Int))) with
   | true =>
    have hM0:=zV hc ho0
    try rw [hc]
    exact yA [] [(18,.bool (decide (i ≤ 2)))]<|yS [(3,vS p1 out c1),(4,vS p y c),(5,vI i),(18,.bool (decide (i ≤ 2)))]<|yB ⟨_,(zD hM0).symm,hle,rfl,rfl⟩
   | false =>
    have hM01:=zT hc ho0
    try rw [hc]
    exact yA [] [(18,.bool false)]<|yS [(3,vS p1 out c1),(4,vS p y c),(5,vI i),(18,.bool false)]<|yB ⟨_,(zD hM01).symm,hle,rfl,rfl⟩
 rintro imm01 hs2 m2 ⟨t18,heq,le1,rfl,rfl⟩;subst o0;have h2:=iM le1 h2;have h1:=h1.mono le1;have hle:=hle.trans le1;refine zF<|yO hMc ?_ ?_
 · intro hc1 hM;refine yE<|zF<|zG<|yC<|zG<|zB<|yK 2 [] [(22,vS p y c),(23,vI i)] ?_;obtain ⟨x,hy1,hM⟩:=zC hM;refine wD rfl rfl h1 hy1 ?_;intro ad ccs hat hrep;obtain rfl:=hrep;refine xQ 0 hat [vT x.l] (vT x.l) rfl ?_;obtain ⟨⟨y2,y3⟩,hy2,hM⟩:=zC hM;refine yQ (jE x _ hy2 ) ?_;rintro imm02 hs2 v2 k2 le2 - ⟨v01,v02,rfl,rfl,⟨cs2,rfl,h4⟩,rfl⟩ -;have h2:=iM le2 h2;have h1:=h1.mono le2;have hle:=hle.trans le2;obtain ⟨v03,rfl,h6⟩:=yM h4;obtain ⟨p3,c3,rfl⟩:=h6.form;refine yK 8 [] [(27,vA (cAff y2 p3 c3)),(28,.bool y3)]<|uB [z0,vI 0] ?_;intro b1 hb1;refine xI 0 (cAff y2 p3 c3) [hB b1 (cAff y2 p3 c3),hO zA (vS p1 out c1) cs] rfl rfl rfl rfl<|yA [] []<|zF<|zB<|yK 2 [0] [(29,vS p1 out c1),(30,vA (cAff y2 p3 c3))]<|xV (cAff y2 p3 c3) zA ?_;intro b2 hb2;have h7:RL imm02 (cAff y2 p3 c3) ([y2]:List zA):=⟨(cAff y2 p3 c3),_,rfl,rfl,(yR ⟨_,rfl,h6⟩),rfl⟩;obtain ⟨out2,hy3,hM⟩:=zC hM;refine qQ 45 2 2 rfl rfl rfl h2 (.inr ⟨0,rfl⟩) h7 hy3 ?_;intro p4 c4 cs3 h8;exact rY (zL [1,2] (hs':=[hB b1 (cAff y2 p3 c3),hO zA (vS p4 out2 c4) cs3]) rfl (by decide))<|yA [] [(3,vS p4 out2 c4)]<|zY<|zF<|zB<|yA [] [(5,vI (W (i + 1)))]<|xB<|qP (zL [1] rfl (by decide))<|vG [(3,vS p4 out2 c4),(4,vS p y c),(5,vI (W (i + 1)))]<|ih out2 (W (i + 1)) _ hM hle h1 h8 hg ho hx
 intro hc1 hM;exact yZ<|zS<|zS<|yS [(3,vS p1 out c1)]<|hx _ _ _ _ _ (zD hM).symm hle h2
def pC (text:Str):Option ((List zA)):=do
 let y←mC text (44:UInt8)
 let out1←uQ y ([]:List zA) 0
 pure (id out1)
theorem zAh:∀ (text:Str) r,pC text=some r→∀ {imm:Imm} ,Ret Tryz.prog 209 [vT text.l] imm [] (dK  r):=by
 intro text r hM imm;unfold pC at hM;refine yH (fn:=Tryz.f209) (c:=(bodyOf Tryz.f209)) Tryz.func209 rfl rfl ?_;rintro B - -;refine zG<|zB<|yA [] []<|zF<|zG<|zB<|xV [] zA ?_;intro b hb;have h:RL imm [] ([]:List zA):=rfl;refine yA [] [(3,vS (some ⟨b,0,none⟩) ([]:List zA) 0)]<|zF<|zG<|zB<|yK 1 [] [(9,vT text.l)] ?_;obtain ⟨y,hy,hM⟩:=zC hM;refine yQ (zDx text (44:UInt8) _ hy ) ?_;rintro imm0 hs2 v2 k2 le - ⟨v0,rfl,rfl,h1⟩ -;have h:=iM le h;obtain ⟨p,c,rfl⟩:=h1.form;refine yA [] [(4,vS p y c)]<|zF<|zG<|zG<|zB<|yA [] [(5,vI 0)]<|zF<|yC<|vG [(3,vS (some ⟨b,0,none⟩) ([]:List zA) 0),(4,vS p y c),(5,vI 0)] ?_;obtain ⟨o01,ho01,hMl⟩:=zC hM;refine eQ y ([]:List zA) 0 o01 ho01 iR h1 h (fun _ _ _ h=>h) (fun _ _ h=>h) ?_;intro imm03 out1 p2 c2 cs1 heq1 le3 h3;subst o01;refine yD<|zF<|zG<|zB<|yA [] [(2,vS p2 out1 c2)]<|zF<|yI<|xJ 0 rfl ?_;intro imm04 le4 hl0;have h9:=SL.of_frozen hl0 le4 h3;obtain rfl:=zD hMl;exact yP ⟨_,_,(.tmp rfl ResV.nil),zX,⟨_,rfl,rfl,h9⟩⟩
def fS (r:zN×Int):KT:=fun kk imm' hs' v=>
  ∃ v0 v1,hs'=[]∧v=tupV [v0,v1]∧(∃ cs,v0=.agg ⟨cs⟩∧Rp.rep imm' cs r.1)∧v1=.int .i64 r.2
def sE (s:Str) (at0:Int):Option (zN×Int):=do
 let y←oI s at0 (93:UInt8)
 let t20←(do
   if (decide (y < (W (at0 + 2)))) then
    pure true
   else
    let b1←sidx s (W (at0 + 1))
    pure ((b1.toNat:Int) != 91)
     : Option Bool)
 if t20 then
  pure ((zN.mk (⟨[]⟩:Str) ([]:List zA)),(-1))
 else
  let s1←sslc s at0 (W (at0 + 1))
  let s2←sslc s (W (at0 + 2)) y
  let y1←pC s2
  pure ((zN.mk s1 y1),(W (y + 1)))
theorem mZ:∀ (s:Str) (at0:Int) r,sE s at0=some r→∀ {imm:Imm} ,Ret Tryz.prog 191 [vT s.l,vI at0] imm [] (fS  r):=by
 intro s at0 r hM imm;unfold sE at hM;refine yH (fn:=Tryz.f191) (c:=(bodyOf Tryz.f191)) Tryz.func191 rfl rfl ?_;rintro B - -;have hle:=iS imm;refine zG<|zB<|uB [vT ([]),z0] ?_;intro b hb;refine yA [] []<|zF<|zG<|zB<|yK 2 [] [(7,vT s.l),(8,vI at0)] ?_;obtain ⟨y,hy,hM⟩:=zC hM;refine yQ (dH s at0 (93:UInt8) _ hy ) ?_;rintro imm0 hs2 v2 k2 le - ⟨v0,rfl,rfl,rfl⟩ -;have hle:=hle.trans le;refine yA [] [(6,vI y)]<|zF<|zG<|zG ?_;obtain ⟨o0,ho0,hMc⟩:=zC hM;refine yT (fun imm' hs' m'=>∃ (t20:Bool),o0=t20∧imm0.le imm'∧hs'=[hB b [vT ([]),z0]]∧m'=[(0,vT s.l),(1,vI at0),(4,vP b 0),(6,vI y),(20,.bool t20)]) ?_ ?_
 · have hle:=iS imm0;refine zB<|yK 5 [] [(14,.bool (decide (y < (W (at0 + 2)))))] ?_;cases hc:(decide (y < (W (at0 + 2)))) with
   | true =>
    have hM0:=zV hc ho0
    try rw [hc]
    exact yA [] [(20,.bool true)]<|yS [(0,vT s.l),(1,vI at0),(4,vP b 0),(6,vI y),(20,.bool true)]<|yB ⟨_,(zD hM0).symm,hle,rfl,rfl⟩
   | false =>
    have hM01:=zT hc ho0
    try rw [hc]
    refine yK 8 [] [(15,vT s.l),(17,vI (W (at0 + 1)))] ?_;obtain ⟨b1,hy1,hM⟩:=zC hM01;exact gD rfl rfl hy1<|yA [] [(20,.bool ((b1.toNat:Int) != 91))]<|yS [(0,vT s.l),(1,vI at0),(4,vP b 0),(6,vI y),(20,.bool ((b1.toNat:Int) != 91))]<|yB ⟨_,(zD hM).symm,hle,rfl,rfl⟩
 rintro imm01 hs2 m2 ⟨t20,heq,le1,rfl,rfl⟩;subst o0;have hle:=hle.trans le1;refine zF<|yO hMc ?_ ?_
 · intro hc1 hM;refine zG<|zB<|yK 1 [] [(21,vA [vT ([]),z0])]<|xI 0 [vT ([]),z0] [hB b [vT ([]),z0]] rfl rfl rfl rfl<|yA [] [(5,vI (-1))]<|zF<|yI<|zP ?_;obtain rfl:=zD hM;exact yP ⟨_,_,(.cell 0 rfl rfl (by kernel_rfl) (.tmp rfl ResV.nil)),zX,⟨_,_,rfl,rfl,⟨_,rfl,(qR ⟨_,rfl,(SL.nil _)⟩)⟩,rfl⟩⟩
 intro hc1 hM;refine yE<|zF<|zG ?_;obtain ⟨s1,hy2,hM⟩:=zC hM;obtain ⟨s2,hy3,hM⟩:=zC hM;obtain ⟨y1,hy4,hM⟩:=zC hM;refine vC [.p (vT s.l) [],.p (vI at0) [],.p (vI at0) [],.p (vI (W (at0 + 1))) [],.q (vT s1.l),.p (vT s.l) [],.p (vI at0) [],.p (vI (W (at0 + 2))) [],.p (vI y) [],.q (vT s2.l),.x (fun imm' v hx=>∃ p c,v=vS p y1 c∧hx=[]∧(S4 imm' p y1 c)),.x (fun imm' v hx=>∃ p1 c1,v=vA [vT s1.l,vS p1 y1 c1]∧hx=[]∧(S4 imm' p1 y1 c1)),.p (vI y) [],.p (vI (W (y + 1))) [],.x (fun imm' v hx=>∃ p11 c11,hx=[hB b [vT s1.l,vS p11 y1 c11]]∧(S4 imm' p11 y1 c11))] [[],[],[],[(2,false)],[(0,false),(1,false),(3,false)],[],[],[(6,false)],[],[(5,false),(7,false),(8,false)],[(9,false)],[(4,false),(10,false)],[],[(12,false)],[(11,false),(16,true)]] [] [[hB b [vT ([]),z0]]] [(13,false),(14,true)] (zL [0] rfl (by decide)) ?_ ?_
 · refine Op<|Op<|Op<|Op<|Oq ?_<|Op<|Op<|Op<|Op<|Oq ?_<|Ox ?_<|Ox ?_<|Op<|Op<|Ox ?_<|On
   · intro imm1 hf le1;refine zE ?_;rintro _ _ ⟨rfl,rfl⟩;refine zE ?_;rintro _ _ ⟨rfl,rfl⟩;refine zE ?_;rintro _ _ ⟨rfl,rfl⟩;refine zM<|yG [(22,vT s.l),(23,vI at0),(25,vI (W (at0 + 1)))] ?_;have hle:=iS imm1;exact zE3 rfl hy2<|zZ (hx:=[]) rfl hle rfl (zK rfl) ⟨rfl,rfl⟩
   · intro imm1 hf le1;refine zE ?_;rintro _ _ ⟨rfl,rfl⟩;refine zE ?_;rintro _ _ ⟨rfl,rfl⟩;refine zE ?_;rintro _ _ ⟨rfl,rfl⟩;refine zM<|yG [(27,vT s.l),(29,vI (W (at0 + 2))),(30,vI y)] ?_;have hle:=iS imm1;exact zE3 rfl hy3<|zZ (hx:=[]) rfl hle rfl (zK rfl) ⟨rfl,rfl⟩
   · intro imm1 hf le1;refine zE ?_;rintro _ _ ⟨rfl,rfl⟩;refine zM<|yG [(31,vT s2.l)] ?_;have hle:=iS imm1;refine yQ (zAh s2 _ hy4 ) ?_;rintro imm02 hs2 v2 k2 le2 - ⟨v01,rfl,rfl,h1⟩ -;have hle:=hle.trans le2;obtain ⟨p,c,rfl⟩:=h1.form;exact zZ (hx:=[]) rfl hle rfl (zK rfl) ⟨_,_,rfl,rfl,h1⟩
   · intro imm1 hf le1;refine zE ?_;rintro _ _ ⟨rfl,rfl⟩;refine zE ?_;rintro _ _ ⟨p,c,rfl,rfl,h1⟩;refine zM<|yG [(26,vT s1.l),(32,vS p y1 c)] ?_;have hle:=iS imm1;exact rW 12 [(33,vA [vT s1.l,vS p y1 c])]<|zZ (hx:=[]) rfl hle rfl (zK rfl) ⟨_,_,rfl,rfl,h1⟩
   intro imm1 hf le1;refine zE ?_;rintro _ _ ⟨p1,c1,rfl,rfl,h11⟩;refine zE ?_;rintro _ _ rfl;refine zM<|yG [(4,vP b 0),(33,vA [vT s1.l,vS p1 y1 c1])] ?_;have hle:=iS imm1;exact xI 0 [vT s1.l,vS p1 y1 c1] (hB b [vT s1.l,vS p1 y1 c1]::hf) rfl rfl rfl rfl<|zZ (hx:=[hB b [vT s1.l,vS p1 y1 c1]]) rfl hle rfl (zH7 (v:=undef)) ⟨_,_,rfl,h11⟩
 intro imm03 le3;refine zE ?_;rintro _ _ ⟨rfl,rfl⟩;refine zE ?_;rintro _ _ ⟨p11,c11,rfl,h111⟩;refine zM<|yG [(4,vP b 0),(35,vI (W (y + 1)))] ?_;refine yA [] [(5,vI (W (y + 1)))]<|zF<|yI ?_;obtain rfl:=zD hM;exact yP ⟨_,_,(.cell 0 rfl rfl (by kernel_rfl) (.tmp rfl ResV.nil)),zX,⟨_,_,rfl,rfl,⟨_,rfl,(qR ⟨_,rfl,h111⟩)⟩,rfl⟩⟩
def gU (r:zH×Int):KT:=fun kk imm' hs' v=>
  ∃ v0 v1,hs'=[]∧v=tupV [v0,v1]∧(∃ cs,v0=.agg ⟨cs⟩∧Rp.rep imm' cs r.1)∧v1=.int .i64 r.2
def mT (r:zH×Int):KT:=fun kk imm' hs' v=>
  ∃ v0 v1,hs'=[]∧v=tupV [v0,v1]∧(∃ cs,v0=.agg ⟨cs⟩∧Rp.rep imm' cs r.1)∧v1=.int .i64 r.2
mutual
def nQ (s:Str) (at0:Int) (levels:Int):Option (zH×Int):=do
 let (y1,y2)←sR (same s) (same at0) (same levels)
 let t27←(do
   if (decide (y2 < 0)) then
    pure true
   else
    pure (decide (y2 ≥ (s.l.length:Int)))
     : Option Bool)
 if t27 then
  pure ((zH.mk 0 0 (zA.mk ([]:List Int) 0) (zN.mk (⟨[]⟩:Str) ([]:List zA)) ([]:List zH)),(-1))
 else
  let b2←sidx s y2
  let kind←(do
    if ((b2.toNat:Int) == 45) then
     pure (id 5)
    else
     let kind1←(do
       if ((b2.toNat:Int) == 42) then
        pure (id 6)
       else
        pure (id 4)
         : Option Int)
     pure (id kind1)
      : Option Int)
  let (y4,y5)←sR (same s) (W (y2 + 1)) (same levels)
  let t51←(do
    if (decide (y5 < 0)) then
     pure true
    else
     pure (decide (y5 ≥ (s.l.length:Int)))
      : Option Bool)
  if t51 then
   pure ((zH.mk 0 0 (zA.mk ([]:List Int) 0) (zN.mk (⟨[]⟩:Str) ([]:List zA)) ([]:List zH)),(-1))
  else
   pure ((zH.mk kind 0 (zA.mk ([]:List Int) 0) (zN.mk (⟨[]⟩:Str) ([]:List zA)) ([y1,y4]:List zH)),(W (y5 + 1)))
 partial_fixpoint
def sR (s:Str) (at0:Int) (levels:Int):Option (zH×Int):=do
 let t26←(do
   if (decide (levels < 1)) then
    pure true
   else
    if (decide (at0 < 0)) then
     pure true
    else
     pure (decide (at0 ≥ (s.l.length:Int)))
     : Option Bool)
 if t26 then
  pure ((zH.mk 0 0 (zA.mk ([]:List Int) 0) (zN.mk (⟨[]⟩:Str) ([]:List zA)) ([]:List zH)),(-1))
 else
  let b1←sidx s at0
  if ((b1.toNat:Int) == 123) then
   let y←oI s at0 (125:UInt8)
   if (decide (y < 0)) then
    pure ((zH.mk 0 0 (zA.mk ([]:List Int) 0) (zN.mk (⟨[]⟩:Str) ([]:List zA)) ([]:List zH)),(-1))
   else
    let s1←sslc s (W (at0 + 1)) y
    let (y2,y3)←rM s1
    pure ((zH.mk 2 0 y2 (zN.mk (⟨[]⟩:Str) ([]:List zA)) ([]:List zH)),(W (y + 1)))
  else
   let t52←(do
     let b3←sidx s at0
     if (decide ((b3.toNat:Int) ≥ 65)) then
      let b4←sidx s at0
      pure (decide ((b4.toNat:Int) ≤ 68))
     else
      pure false
       : Option Bool)
   if t52 then
    let (y5,y6)←sE s at0
    pure ((zH.mk 3 0 (zA.mk ([]:List Int) 0) y5 ([]:List zH)),y6)
   else
    let b6←sidx s at0
    if ((b6.toNat:Int) == 40) then
     let (y8,y9)←nQ (same s) (W (at0 + 1)) (W (levels - 1))
     pure (y8,y9)
    else
     let (y11,y12)←pH s at0
     if (y12 == at0) then
      pure ((zH.mk 0 0 (zA.mk ([]:List Int) 0) (zN.mk (⟨[]⟩:Str) ([]:List zA)) ([]:List zH)),(-1))
     else
      pure ((zH.mk 1 y11 (zA.mk ([]:List Int) 0) (zN.mk (⟨[]⟩:Str) ([]:List zA)) ([]:List zH)),y12)
 partial_fixpoint
end
theorem zCt:(∀ (s:Str) (at0:Int) (levels:Int) r,nQ s at0 levels=some r→∀ {imm:Imm} ,Ret Tryz.prog 211 [vT s.l,vI at0,vI levels] imm [] (gU  r))∧(∀ (s:Str) (at0:Int) (levels:Int) r,sR s at0 levels=some r→∀ {imm:Imm} ,Ret Tryz.prog 192 [vT s.l,vI at0,vI levels] imm [] (mT  r)):=by
  refine nQ.mutual_partial_correctness (fun s at0 levels r=>∀ {imm:Imm} ,Ret Tryz.prog 211 [vT s.l,vI at0,vI levels] imm [] (gU  r)) (fun s at0 levels r=>∀ {imm:Imm} ,Ret Tryz.prog 192 [vT s.l,vI at0,vI levels] imm [] (mT  r)) ?_ ?_
  · intro F_spec_l3Parse ih_spec_l3Parse s at0 levels r hM imm;refine yH (fn:=Tryz.f211) (c:=(bodyOf Tryz.f211)) Tryz.func211 rfl rfl ?_;rintro B - -;have hle:=iS imm;refine zG<|zB<|uB zExpr ?_;intro b hb;refine yA [] []<|zF<|zG<|zB<|yK 3 [] [(14,vT s.l),(15,vI at0),(16,vI levels)] ?_;obtain ⟨⟨y1,y2⟩,hy,hM⟩:=zC hM;refine yQ (ih_spec_l3Parse s at0 levels _ hy ) ?_;rintro imm0 hs2 v2 k2 le - ⟨v0,v01,rfl,rfl,⟨cs,rfl,h⟩,rfl⟩ -;have hle:=hle.trans le;obtain ⟨v02,v03,v04,rfl,h2,h3,h4⟩:=wM h;obtain ⟨p,c,rfl⟩:=h2.form;obtain ⟨p1,c1,rfl⟩:=h3.form;obtain ⟨p2,c2,rfl⟩:=h4.form;refine yK 7 [] [(18,vA (cExpr y1 p c p1 c1 p2 c2)),(19,vI y2)]<|uB zExpr ?_;intro b1 hb1;refine xI 0 (cExpr y1 p c p1 c1 p2 c2) [hB b1 (cExpr y1 p c p1 c1 p2 c2),hB b zExpr] rfl rfl rfl rfl<|yA [] [(9,vI y2)]<|zF<|zG<|zG ?_;obtain ⟨o0,ho0,hMc⟩:=zC hM;refine yT (fun imm' hs' m'=>∃ (t27:Bool),o0=t27∧imm0.le imm'∧hs'=[hB b1 (cExpr y1 p c p1 c1 p2 c2),hB b zExpr]∧m'=[(0,vT s.l),(2,vI levels),(6,vP b 0),(8,vP b1 0),(9,vI y2),(27,.bool t27)]) ?_ ?_
    · have hle:=iS imm0;refine zB<|yK 3 [] [(22,.bool (decide (y2 < 0)))] ?_;cases hc:(decide (y2 < 0)) with
      | true =>
       have hM0:=zV hc ho0
       try rw [hc]
       exact yA [] [(27,.bool true)]<|yS [(0,vT s.l),(2,vI levels),(6,vP b 0),(8,vP b1 0),(9,vI y2),(27,.bool true)]<|yB ⟨_,(zD hM0).symm,hle,rfl,rfl⟩
      | false =>
       have hM01:=zT hc ho0
       try rw [hc]
       exact yA [] [(27,.bool (decide (y2 ≥ (s.l.length:Int))))]<|yS [(0,vT s.l),(2,vI levels),(6,vP b 0),(8,vP b1 0),(9,vI y2),(27,.bool (decide (y2 ≥ (s.l.length:Int))))]<|yB ⟨_,(zD hM01).symm,hle,rfl,rfl⟩
    rintro imm01 hs2 m2 ⟨t27,heq,le1,rfl,rfl⟩;subst o0;have h2:=h2.mono le1;have h3:=h3.mono le1;have h4:=h4.mono le1;have hle:=hle.trans le1;refine zF<|yO hMc ?_ ?_
    · intro hc1 hM;refine zG<|zB<|yK 1 [] [(28,vA zExpr)]<|xI 1 zExpr [hB b1 (cExpr y1 p c p1 c1 p2 c2),hB b zExpr] rfl rfl rfl rfl<|yA [] [(7,vI (-1))]<|zF<|yI<|zP ?_;obtain rfl:=zD hM;exact yP ⟨_,_,(.cell 1 rfl rfl (by kernel_rfl) (.tmp rfl ResV.nil)),zX,⟨_,_,rfl,rfl,⟨_,rfl,(xN ⟨_,_,_,rfl,(SL.nil _),(SL.nil _),(SL.nil _)⟩)⟩,rfl⟩⟩
    intro hc1 hM;refine yE<|zF<|zG<|zB<|yA [] [(10,vI 4)]<|zF<|zG<|zG<|zB<|yK 2 [] [(29,vT s.l),(30,vI y2)] ?_;obtain ⟨b2,hy1,hM⟩:=zC hM;refine gD rfl rfl hy1<|yN rfl<|zF<|yC<|zG<|zB<|yA [] [(32,.bool ((b2.toNat:Int) == 45))]<|zF ?_;obtain ⟨o01,ho01,hMc1⟩:=zC hM;refine yT (fun imm' hs' m'=>∃ (kind:Int),o01=kind∧imm01.le imm'∧hs'=[hB b1 (cExpr y1 p c p1 c1 p2 c2),hB b zExpr]∧m'=[(0,vT s.l),(2,vI levels),(6,vP b 0),(8,vP b1 0),(9,vI y2),(10,vI kind)]) ?_ ?_
    · have hle:=iS imm01;refine yO ho01 ?_ ?_
      · intro hc2 hM;exact zB<|yA [] [(10,vI 5)]<|yS [(0,vT s.l),(2,vI levels),(6,vP b 0),(8,vP b1 0),(9,vI y2),(10,vI 5)]<|yB ⟨_,(zD hM).symm,hle,rfl,rfl⟩
      intro hc2 hM;refine zG<|zB<|yA [] [(34,.bool ((b2.toNat:Int) == 42))]<|zF ?_;obtain ⟨o02,ho02,hMc2⟩:=zC hM;refine yT (fun imm' hs' m'=>∃ (kind1:Int),o02=kind1∧imm01.le imm'∧hs'=[hB b1 (cExpr y1 p c p1 c1 p2 c2),hB b zExpr]∧m'=[(0,vT s.l),(2,vI levels),(6,vP b 0),(8,vP b1 0),(9,vI y2),(10,vI kind1)]) ?_ ?_
      · have hle:=iS imm01;refine yO ho02 ?_ ?_
        · intro hc3 hM;exact zB<|yA [] [(10,vI 6)]<|yS [(0,vT s.l),(2,vI levels),(6,vP b 0),(8,vP b1 0),(9,vI y2),(10,vI 6)]<|yB ⟨_,(zD hM).symm,hle,rfl,rfl⟩
        intro hc3 hM;exact yE<|yS [(0,vT s.l),(2,vI levels),(6,vP b 0),(8,vP b1 0),(9,vI y2),(10,vI 4)]<|yB ⟨_,(zD hM).symm,hle,rfl,rfl⟩
      rintro imm03 hs2 m2 ⟨kind1,heq1,le2,rfl,rfl⟩;subst o02;have hle:=hle.trans le2;exact yS [(0,vT s.l),(2,vI levels),(6,vP b 0),(8,vP b1 0),(9,vI y2),(10,vI kind1)]<|yB ⟨_,(zD hMc2).symm,hle,rfl,rfl⟩
    rintro imm02 hs2 m2 ⟨kind,heq2,le3,rfl,rfl⟩;subst o01;have h2:=h2.mono le3;have h3:=h3.mono le3;have h4:=h4.mono le3;have hle:=hle.trans le3;refine zY<|zF<|zG<|zB<|yK 4 [] [(37,vT s.l),(39,vI (W (y2 + 1))),(40,vI levels)] ?_;obtain ⟨⟨y4,y5⟩,hy2,hM⟩:=zC hMc1;refine yQ (ih_spec_l3Parse s (W (y2 + 1)) levels _ hy2 ) ?_;rintro imm04 hs2 v2 k2 le4 - ⟨v05,v06,rfl,rfl,⟨cs1,rfl,h5⟩,rfl⟩ -;have h2:=h2.mono le4;have h3:=h3.mono le4;have h4:=h4.mono le4;have hle:=hle.trans le4;obtain ⟨v07,v08,v09,rfl,h7,h8,h9⟩:=wM h5;obtain ⟨p3,c3,rfl⟩:=h7.form;obtain ⟨p4,c4,rfl⟩:=h8.form;obtain ⟨p5,c5,rfl⟩:=h9.form;refine yK 8 [] [(42,vA (cExpr y4 p3 c3 p4 c4 p5 c5)),(43,vI y5)]<|uB zExpr ?_;intro b3 hb2;refine xI 0 (cExpr y4 p3 c3 p4 c4 p5 c5) [hB b3 (cExpr y4 p3 c3 p4 c4 p5 c5),hB b1 (cExpr y1 p c p1 c1 p2 c2),hB b zExpr] rfl rfl rfl rfl<|yA [] [(12,vI y5)]<|zF<|zG<|zG ?_;obtain ⟨o03,ho03,hMc3⟩:=zC hM;refine yT (fun imm' hs' m'=>∃ (t51:Bool),o03=t51∧imm04.le imm'∧hs'=[hB b3 (cExpr y4 p3 c3 p4 c4 p5 c5),hB b1 (cExpr y1 p c p1 c1 p2 c2),hB b zExpr]∧m'=[(6,vP b 0),(8,vP b1 0),(10,vI kind),(11,vP b3 0),(12,vI y5),(51,.bool t51)]) ?_ ?_
    · have hle:=iS imm04;refine zB<|yK 3 [] [(46,.bool (decide (y5 < 0)))] ?_;cases hc4:(decide (y5 < 0)) with
      | true =>
       have hM02:=zV hc4 ho03
       try rw [hc4]
       exact yA [] [(51,.bool true)]<|yS [(6,vP b 0),(8,vP b1 0),(10,vI kind),(11,vP b3 0),(12,vI y5),(51,.bool true)]<|yB ⟨_,(zD hM02).symm,hle,rfl,rfl⟩
      | false =>
       have hM03:=zT hc4 ho03
       try rw [hc4]
       exact yA [] [(51,.bool (decide (y5 ≥ (s.l.length:Int))))]<|yS [(6,vP b 0),(8,vP b1 0),(10,vI kind),(11,vP b3 0),(12,vI y5),(51,.bool (decide (y5 ≥ (s.l.length:Int))))]<|yB ⟨_,(zD hM03).symm,hle,rfl,rfl⟩
    rintro imm05 hs2 m2 ⟨t51,heq3,le5,rfl,rfl⟩;subst o03;have h7:=h7.mono le5;have h8:=h8.mono le5;have h9:=h9.mono le5;have h2:=h2.mono le5;have h3:=h3.mono le5;have h4:=h4.mono le5;refine zF<|yO hMc3 ?_ ?_
    · intro hc5 hM;refine zG<|zB<|yK 1 [] [(52,vA zExpr)]<|xI 2 zExpr [hB b3 (cExpr y4 p3 c3 p4 c4 p5 c5),hB b1 (cExpr y1 p c p1 c1 p2 c2),hB b zExpr] rfl rfl rfl rfl<|yA [] [(7,vI (-1))]<|zF<|yI<|zP ?_;obtain rfl:=zD hM;exact yP ⟨_,_,(.cell 2 rfl rfl (by kernel_rfl) (.tmp rfl ResV.nil)),zX,⟨_,_,rfl,rfl,⟨_,rfl,(xN ⟨_,_,_,rfl,(SL.nil _),(SL.nil _),(SL.nil _)⟩)⟩,rfl⟩⟩
    intro hc5 hM;refine yE<|zF<|zG<|zB<|yK 3 [1,0] [(53,vI kind),(54,vA (cExpr y1 p c p1 c1 p2 c2)),(55,vA (cExpr y4 p3 c3 p4 c4 p5 c5))]<|xV [vI y1.Kind,vI y1.Num,vS p y1.Index.Coefs c,vI y1.Index.Const,vT y1.Read.Array.l,vS p1 y1.Read.Subs c1,vS p2 y1.Kids c2,vI y4.Kind,vI y4.Num,vS p3 y4.Index.Coefs c3,vI y4.Index.Const,vT y4.Read.Array.l,vS p4 y4.Read.Subs c4,vS p5 y4.Kids c5] zH ?_;intro b4 hb3;have h10:RL imm05 [vI y1.Kind,vI y1.Num,vS p y1.Index.Coefs c,vI y1.Index.Const,vT y1.Read.Array.l,vS p1 y1.Read.Subs c1,vS p2 y1.Kids c2,vI y4.Kind,vI y4.Num,vS p3 y4.Index.Coefs c3,vI y4.Index.Const,vT y4.Read.Array.l,vS p4 y4.Read.Subs c4,vS p5 y4.Kids c5] ([y1,y4]:List zH):=⟨(cExpr y1 p c p1 c1 p2 c2),_,rfl,rfl,(xN ⟨_,_,_,rfl,h2,h3,h4⟩),⟨(cExpr y4 p3 c3 p4 c4 p5 c5),_,rfl,rfl,(xN ⟨_,_,_,rfl,h7,h8,h9⟩),rfl⟩⟩;refine yK 7 [] [(57,vA [vI kind,vI 0,z0,vI 0,vT ([]),z0,vS (some ⟨b4,0,none⟩) ([y1,y4]:List zH) 2]),(59,vI (W (y5 + 1)))]<|xI 3 [vI kind,vI 0,z0,vI 0,vT ([]),z0,vS (some ⟨b4,0,none⟩) ([y1,y4]:List zH) 2] [hO zH (vS (some ⟨b4,0,none⟩) ([y1,y4]:List zH) 2) [vI y1.Kind,vI y1.Num,vS p y1.Index.Coefs c,vI y1.Index.Const,vT y1.Read.Array.l,vS p1 y1.Read.Subs c1,vS p2 y1.Kids c2,vI y4.Kind,vI y4.Num,vS p3 y4.Index.Coefs c3,vI y4.Index.Const,vT y4.Read.Array.l,vS p4 y4.Read.Subs c4,vS p5 y4.Kids c5],hB b3 (cExpr y4 p3 c3 p4 c4 p5 c5),hB b1 (cExpr y1 p c p1 c1 p2 c2),hB b [vI kind,vI 0,z0,vI 0,vT ([]),z0,vS (some ⟨b4,0,none⟩) ([y1,y4]:List zH) 2]] rfl rfl rfl rfl<|yA [] [(7,vI (W (y5 + 1)))]<|zF<|yI<|xJ 0 rfl ?_;intro imm06 le6 hl0;have h11:=SL.of_frozen hl0 le6 h10;obtain rfl:=zD hM;exact yP ⟨_,_,(.cell 2 rfl rfl (by kernel_rfl) (.tmp rfl ResV.nil)),zX,⟨_,_,rfl,rfl,⟨_,rfl,(xN ⟨_,_,_,rfl,(SL.nil _),(SL.nil _),h11⟩)⟩,rfl⟩⟩
  intro F_spec_l3Round ih_spec_l3Round s at0 levels r hM imm;refine yH (fn:=Tryz.f192) (c:=(bodyOf Tryz.f192)) Tryz.func192 rfl rfl ?_;rintro B - -;have hle:=iS imm;refine zG<|zB<|uB zExpr ?_;intro b hb;refine yA [] []<|zF<|zG<|zG ?_;obtain ⟨o0,ho0,hMc⟩:=zC hM;refine yT (fun imm' hs' m'=>∃ (t26:Bool),o0=t26∧imm.le imm'∧hs'=[hB b zExpr]∧m'=[(0,vT s.l),(1,vI at0),(2,vI levels),(6,vP b 0),(26,.bool t26)]) ?_ ?_
  · have hle:=iS imm;refine zB<|yK 3 [] [(17,.bool (decide (levels < 1)))] ?_;cases hc:(decide (levels < 1)) with
    | true =>
     have hM0:=zV hc ho0
     try rw [hc]
     exact yA [] [(26,.bool true)]<|yS [(0,vT s.l),(1,vI at0),(2,vI levels),(6,vP b 0),(26,.bool true)]<|yB ⟨_,(zD hM0).symm,hle,rfl,rfl⟩
    | false =>
     have hM01:=zT hc ho0
     try rw [hc]
     refine yK 7 [] [(21,.bool (decide (at0 < 0)))] ?_;cases hc1:(decide (at0 < 0)) with
     | true =>
      have hM02:=zV hc1 hM01
      try rw [hc1]
      exact yA [] [(26,.bool true)]<|yS [(0,vT s.l),(1,vI at0),(2,vI levels),(6,vP b 0),(26,.bool true)]<|yB ⟨_,(zD hM02).symm,hle,rfl,rfl⟩
     | false =>
      have hM03:=zT hc1 hM01
      try rw [hc1]
      exact yA [] [(26,.bool (decide (at0 ≥ (s.l.length:Int))))]<|yS [(0,vT s.l),(1,vI at0),(2,vI levels),(6,vP b 0),(26,.bool (decide (at0 ≥ (s.l.length:Int))))]<|yB ⟨_,(zD hM03).symm,hle,rfl,rfl⟩
  rintro imm0 hs2 m2 ⟨t26,heq,le,rfl,rfl⟩;subst o0;have hle:=hle.trans le;refine zF<|yO hMc ?_ ?_
  · intro hc2 hM;refine zG<|zB<|yK 1 [] [(27,vA zExpr)]<|xI 0 zExpr [hB b zExpr] rfl rfl rfl rfl<|yA [] [(7,vI (-1))]<|zF<|yI<|zP ?_;obtain rfl:=zD hM;exact yP ⟨_,_,(.cell 0 rfl rfl (by kernel_rfl) (.tmp rfl ResV.nil)),zX,⟨_,_,rfl,rfl,⟨_,rfl,(xN ⟨_,_,_,rfl,(SL.nil _),(SL.nil _),(SL.nil _)⟩)⟩,rfl⟩⟩
  intro hc2 hM;refine yE<|zF<|zG<|yC<|zG<|zB<|yK 2 [] [(29,vT s.l),(30,vI at0)] ?_;obtain ⟨b1,hy,hM⟩:=zC hM;refine gD rfl rfl hy<|yA [] [(28,.bool ((b1.toNat:Int) == 123))]<|zF<|yO hM ?_ ?_
  · intro hc3 hM;refine zG<|zB<|yK 2 [] [(33,vT s.l),(34,vI at0)] ?_;obtain ⟨y,hy1,hM⟩:=zC hM;refine yQ (dH s at0 (125:UInt8) _ hy1 ) ?_;rintro imm01 hs2 v2 k2 le1 - ⟨v0,rfl,rfl,rfl⟩ -;refine yA [] [(8,vI y)]<|zF<|zG<|zG<|zB<|yA [] [(37,.bool (decide (y < 0)))]<|zF<|yO hM ?_ ?_
    · intro hc4 hM;refine zG<|zB<|yK 1 [] [(38,vA zExpr)]<|xI 0 zExpr [hB b zExpr] rfl rfl rfl rfl<|yA [] [(7,vI (-1))]<|zF<|yI<|zP<|yF<|zP ?_;obtain rfl:=zD hM;exact yP ⟨_,_,(.cell 0 rfl rfl (by kernel_rfl) (.tmp rfl ResV.nil)),zX,⟨_,_,rfl,rfl,⟨_,rfl,(xN ⟨_,_,_,rfl,(SL.nil _),(SL.nil _),(SL.nil _)⟩)⟩,rfl⟩⟩
    intro hc4 hM;refine yE<|zF<|zG<|zB<|yK 4 [] [(40,vT s.l),(42,vI (W (at0 + 1))),(43,vI y)] ?_;obtain ⟨s1,hy2,hM⟩:=zC hM;refine zE3 rfl hy2 ?_;obtain ⟨⟨y2,y3⟩,hy3,hM⟩:=zC hM;refine yQ (jE s1 _ hy3 ) ?_;rintro imm02 hs2 v2 k2 le2 - ⟨v01,v02,rfl,rfl,⟨cs,rfl,h1⟩,rfl⟩ -;obtain ⟨v03,rfl,h3⟩:=yM h1;obtain ⟨p,c,rfl⟩:=h3.form;refine yK 9 [] [(46,vA (cAff y2 p c)),(47,.bool y3)]<|uB [z0,vI 0] ?_;intro b2 hb1;refine xI 0 (cAff y2 p c) [hB b2 (cAff y2 p c),hB b zExpr] rfl rfl rfl rfl<|yA [] []<|zF<|zG<|zB<|yK 4 [0] [(49,vA [vI 2,vI 0,vS p y2.Coefs c,vI y2.Const,vT ([]),z0,z0]),(51,vI (W (y + 1)))]<|xI 1 [vI 2,vI 0,vS p y2.Coefs c,vI y2.Const,vT ([]),z0,z0] [hB b2 (cAff y2 p c),hB b [vI 2,vI 0,vS p y2.Coefs c,vI y2.Const,vT ([]),z0,z0]] rfl rfl rfl rfl<|yA [] [(7,vI (W (y + 1)))]<|zF<|yI<|yF<|zP ?_;obtain rfl:=zD hM;exact yP ⟨_,_,(.cell 1 rfl rfl (by kernel_rfl) (.tmp rfl ResV.nil)),zX,⟨_,_,rfl,rfl,⟨_,rfl,(xN ⟨_,_,_,rfl,h3,(SL.nil _),(SL.nil _)⟩)⟩,rfl⟩⟩
  intro hc3 hM;refine zG ?_;obtain ⟨o01,ho01,hMc1⟩:=zC hM;refine yT (fun imm' hs' m'=>∃ (t52:Bool),o01=t52∧imm0.le imm'∧hs'=[hB b zExpr]∧m'=[(0,vT s.l),(1,vI at0),(2,vI levels),(6,vP b 0),(52,.bool t52)]) ?_ ?_
  · have hle:=iS imm0;refine zB<|yK 2 [] [(53,vT s.l),(54,vI at0)] ?_;obtain ⟨b3,hy4,hM⟩:=zC ho01;refine gD rfl rfl hy4<|yK 5 [] [(57,.bool (decide ((b3.toNat:Int) ≥ 65)))] ?_;cases hc5:(decide ((b3.toNat:Int) ≥ 65)) with
    | true =>
     have hM04:=zV hc5 hM
     try rw [hc5]
     refine yK 7 [] [(58,vT s.l),(59,vI at0)] ?_;obtain ⟨b4,hy5,hM⟩:=zC hM04;exact gD rfl rfl hy5<|yA [] [(52,.bool (decide ((b4.toNat:Int) ≤ 68)))]<|yS [(0,vT s.l),(1,vI at0),(2,vI levels),(6,vP b 0),(52,.bool (decide ((b4.toNat:Int) ≤ 68)))]<|yB ⟨_,(zD hM).symm,hle,rfl,rfl⟩
    | false =>
     have hM05:=zT hc5 hM
     try rw [hc5]
     exact yA [] [(52,.bool false)]<|yS [(0,vT s.l),(1,vI at0),(2,vI levels),(6,vP b 0),(52,.bool false)]<|yB ⟨_,(zD hM05).symm,hle,rfl,rfl⟩
  rintro imm03 hs2 m2 ⟨t52,heq1,le3,rfl,rfl⟩;subst o01;refine zF<|yO hMc1 ?_ ?_
  · intro hc6 hM;refine zG<|zB<|yK 2 [] [(64,vT s.l),(65,vI at0)] ?_;obtain ⟨⟨y5,y6⟩,hy6,hM⟩:=zC hM;refine yQ (mZ s at0 _ hy6 ) ?_;rintro imm04 hs2 v2 k2 le4 - ⟨v04,v05,rfl,rfl,⟨cs1,rfl,h4⟩,rfl⟩ -;obtain ⟨v06,rfl,h6⟩:=sC h4;obtain ⟨p1,c1,rfl⟩:=h6.form;refine yK 6 [] [(67,vA (cAccess y5 p1 c1)),(68,vI y6)]<|uB [vT ([]),z0] ?_;intro b5 hb2;refine xI 0 (cAccess y5 p1 c1) [hB b5 (cAccess y5 p1 c1),hB b zExpr] rfl rfl rfl rfl<|yA [] [(12,vI y6)]<|zF<|zG<|zB<|yK 3 [0] [(70,vA [vI 3,vI 0,z0,vI 0,vT y5.Array.l,vS p1 y5.Subs c1,z0]),(71,vI y6)]<|xI 1 [vI 3,vI 0,z0,vI 0,vT y5.Array.l,vS p1 y5.Subs c1,z0] [hB b5 (cAccess y5 p1 c1),hB b [vI 3,vI 0,z0,vI 0,vT y5.Array.l,vS p1 y5.Subs c1,z0]] rfl rfl rfl rfl<|yA [] [(7,vI y6)]<|zF<|yI<|yF<|zP ?_;obtain rfl:=zD hM;exact yP ⟨_,_,(.cell 1 rfl rfl (by kernel_rfl) (.tmp rfl ResV.nil)),zX,⟨_,_,rfl,rfl,⟨_,rfl,(xN ⟨_,_,_,rfl,(SL.nil _),h6,(SL.nil _)⟩)⟩,rfl⟩⟩
  intro hc6 hM;refine zG<|zB<|yK 2 [] [(73,vT s.l),(74,vI at0)] ?_;obtain ⟨b6,hy7,hM⟩:=zC hM;refine gD rfl rfl hy7<|yA [] [(72,.bool ((b6.toNat:Int) == 40))]<|zF<|yO hM ?_ ?_
  · intro hc7 hM;refine zG<|zB<|yK 5 [] [(77,vT s.l),(79,vI (W (at0 + 1))),(81,vI (W (levels - 1)))] ?_;obtain ⟨⟨y8,y9⟩,hy8,hM⟩:=zC hM;refine yQ (ih_spec_l3Round s (W (at0 + 1)) (W (levels - 1)) _ hy8 ) ?_;rintro imm05 hs2 v2 k2 le5 - ⟨v07,v08,rfl,rfl,⟨cs2,rfl,h7⟩,rfl⟩ -;obtain ⟨v09,v010,v011,rfl,h9,h10,h11⟩:=wM h7;obtain ⟨p2,c2,rfl⟩:=h9.form;obtain ⟨p3,c3,rfl⟩:=h10.form;obtain ⟨p4,c4,rfl⟩:=h11.form;refine yK 8 [] [(83,vA (cExpr y8 p2 c2 p3 c3 p4 c4)),(84,vI y9)]<|xI 0 (cExpr y8 p2 c2 p3 c3 p4 c4) [hB b (cExpr y8 p2 c2 p3 c3 p4 c4)] rfl rfl rfl rfl<|yA [] [(7,vI y9)]<|zF<|yI<|yF<|zP ?_;obtain rfl:=zD hM;exact yP ⟨_,_,(.cell 0 rfl rfl (by kernel_rfl) (.tmp rfl ResV.nil)),zX,⟨_,_,rfl,rfl,⟨_,rfl,(xN ⟨_,_,_,rfl,h9,h10,h11⟩)⟩,rfl⟩⟩
  intro hc7 hM;refine yE<|zY<|zF<|zG<|zB<|yK 2 [] [(86,vT s.l),(87,vI at0)] ?_;obtain ⟨⟨y11,y12⟩,hy9,hM⟩:=zC hM;refine yQ (fQ s at0 _ hy9 ) ?_;rintro imm06 hs2 v2 k2 le6 - ⟨v012,v013,rfl,rfl,rfl,rfl⟩ -;refine yA [] [(13,vI y11),(14,vI y12)]<|zF<|zG<|zG<|zB<|yA [] [(93,.bool (y12 == at0))]<|zF<|yO hM ?_ ?_
  · intro hc8 hM;refine zG<|zB<|yK 1 [] [(94,vA zExpr)]<|xI 0 zExpr [hB b zExpr] rfl rfl rfl rfl<|yA [] [(7,vI (-1))]<|zF<|yI<|zP ?_;obtain rfl:=zD hM;exact yP ⟨_,_,(.cell 0 rfl rfl (by kernel_rfl) (.tmp rfl ResV.nil)),zX,⟨_,_,rfl,rfl,⟨_,rfl,(xN ⟨_,_,_,rfl,(SL.nil _),(SL.nil _),(SL.nil _)⟩)⟩,rfl⟩⟩
  intro hc8 hM;refine yE<|zF<|zG<|zB<|yK 3 [] [(96,vA [vI 1,vI y11,z0,vI 0,vT ([]),z0,z0]),(97,vI y12)]<|xI 0 [vI 1,vI y11,z0,vI 0,vT ([]),z0,z0] [hB b [vI 1,vI y11,z0,vI 0,vT ([]),z0,z0]] rfl rfl rfl rfl<|yA [] [(7,vI y12)]<|zF<|yI ?_;obtain rfl:=zD hM;exact yP ⟨_,_,(.cell 0 rfl rfl (by kernel_rfl) (.tmp rfl ResV.nil)),zX,⟨_,_,rfl,rfl,⟨_,rfl,(xN ⟨_,_,_,rfl,(SL.nil _),(SL.nil _),(SL.nil _)⟩)⟩,rfl⟩⟩
theorem zDV:∀ (s:Str) (at0:Int) (levels:Int) r,sR s at0 levels=some r→∀ {imm:Imm} ,Ret Tryz.prog 192 [vT s.l,vI at0,vI levels] imm [] (mT  r):=zCt.2
def zAM (r:Str):KT:=fun kk imm' hs' v=>
  ∃ v0,hs'=[]∧v=tupV [v0]∧v0=.string ⟨⟨r.l⟩⟩
def uV (list:(List zA)) (out:Str) (i:Int):Option (Str):=do
 if (decide (i < (list.length:Int))) then
  let out2←(do
    if (decide (i > 0)) then
     let s←cat out (⟨[44]⟩:Str)
     pure (id s)
    else
     pure (id out)
      : Option Str)
  let x←idx list i
  let y←oC x
  let s1←cat out2 y
  uV list s1 (W (i + 1))
 else
  pure (id out)
 partial_fixpoint
theorem dL (list:(List zA)):∀ (out:Str) (i:Int) (o:Str),uV list out i=some o→∀ {B}{imm0 imm:Imm}{Q p c},imm0.le imm→(S4 imm p list c)→(∀ gl a w,¬Q (.goto gl) a w)→(∀ a w,¬Q .outgrown a w)→(∀ (imm':Imm) (out1:Str),o=out1→imm0.le imm'→T 23 B Q (.exit 0) imm' [] [(3,vT out1.l)])→J Tryz.prog 23 B (nav (bodyOf Tryz.f214) [1,1,0,1,0]) Q imm [] [(0,vS p list c),(3,vT out.l),(4,vI i)]:=by
 refine uV.partial_correctness list _ ?_;intro self ih out i o hM B imm0 imm Q p c hle h hg ho hx;refine xA hg ho<|zG<|zG<|zB<|yA [] [(8,.bool (decide (i < (list.length:Int))))]<|zF<|yO hM ?_ ?_
 · intro hc hM;refine yE<|zF<|zG<|yC<|zG<|zG<|zB<|yA [] [(12,.bool (decide (i > 0)))]<|zF ?_;obtain ⟨o0,ho0,hMc⟩:=zC hM;refine yT (fun imm' hs' m'=>∃ (out2:Str),o0=out2∧imm.le imm'∧hs'=[]∧m'=[(0,vS p list c),(3,vT out2.l),(4,vI i)]) ?_ ?_
   · have hle:=iS imm;refine yO ho0 ?_ ?_
     · intro hc1 hM;refine zB<|yK 1 [] [(13,vT out.l)] ?_;obtain ⟨s,hy,hM⟩:=zC hM;exact jM rfl hy<|yA [] [(3,vT s.l)]<|yS [(0,vS p list c),(3,vT s.l),(4,vI i)]<|yB ⟨_,(zD hM).symm,hle,rfl,rfl⟩
     intro hc1 hM;exact yE<|yS [(0,vS p list c),(3,vT out.l),(4,vI i)]<|yB ⟨_,(zD hM).symm,hle,rfl,rfl⟩
   rintro imm0 hs2 m2 ⟨out2,heq,le,rfl,rfl⟩;subst o0;have h:=h.mono le;have hle:=hle.trans le;refine zF<|zB<|yK 3 [] [(15,vT out2.l),(16,vS p list c),(17,vI i)] ?_;obtain ⟨x,hy1,hM⟩:=zC hMc;refine wD rfl rfl h hy1 ?_;intro ad ccs hat hrep;obtain ⟨v0,rfl,h1⟩:=yM hrep;obtain ⟨p1,c1,rfl⟩:=h1.form;refine xQ 0 hat (cAff x p1 c1) (vA (cAff x p1 c1)) rfl ?_;obtain ⟨y,hy2,hM⟩:=zC hM;refine yQ (jT x _ hy2 h1) ?_;rintro imm01 hs2 v2 k2 le1 - ⟨v01,rfl,rfl,rfl⟩ -;have h:=h.mono le1;have hle:=hle.trans le1;obtain ⟨s1,hy3,hM⟩:=zC hM;exact jM rfl hy3<|yA [] [(3,vT s1.l)]<|zY<|zF<|zB<|yA [] [(4,vI (W (i + 1)))]<|xB<|vG [(0,vS p list c),(3,vT s1.l),(4,vI (W (i + 1)))]<|ih s1 (W (i + 1)) _ hM hle h hg ho hx
 intro hc hM;exact yZ<|zS<|zS<|yS [(3,vT out.l)]<|hx _ _ (zD hM).symm hle
def pQ (list:(List zA)):Option (Str):=do
 let out1←uV list (⟨[]⟩:Str) 0
 pure (id out1)
theorem zBO:∀ (list:(List zA)) r,pQ list=some r→∀ {imm:Imm}{p c},(S4 imm p list c)→Ret Tryz.prog 214 [vS p list c] imm [] (zAM  r):=by
 intro list r hM imm p c h;unfold pQ at hM;refine yH (fn:=Tryz.f214) (c:=(bodyOf Tryz.f214)) Tryz.func214 rfl rfl ?_;rintro B - -;refine zG<|zB<|yA [] []<|zF<|zG<|zB<|yA [] [(3,vT ([]))]<|zF<|zG<|zG<|zB<|yA [] [(4,vI 0)]<|zF<|yC<|vG [(0,vS p list c),(3,vT ([])),(4,vI 0)] ?_;obtain ⟨o01,ho01,hMl⟩:=zC hM;refine dL list (⟨[]⟩:Str) 0 o01 ho01 iR h (fun _ _ _ h=>h) (fun _ _ h=>h) ?_;intro imm02 out1 heq1 le2;subst o01;refine yD<|zF<|zG<|zB<|yA [] [(2,vT out1.l)]<|zF<|yI ?_;obtain rfl:=zD hMl;exact yP ⟨_,_,(.tmp rfl ResV.nil),zX,⟨_,rfl,rfl,rfl⟩⟩
def eT (r:Str):KT:=fun kk imm' hs' v=>
  ∃ v0,hs'=[]∧v=tupV [v0]∧v0=.string ⟨⟨r.l⟩⟩
def sW (a0:zN):Option (Str):=do
 let s←cat a0.Array (⟨[91]⟩:Str)
 let y←pQ a0.Subs
 let s1←cat s y
 let s2←cat s1 (⟨[93]⟩:Str)
 pure (id s2)
theorem kQ:∀ (a0:zN) r,sW a0=some r→∀ {imm:Imm}{p c},(S4 imm p a0.Subs c)→Ret Tryz.prog 201 [vA (cAccess a0 p c)] imm [] (eT  r):=by
 intro a0 r hM imm p c h;unfold sW at hM;refine yH (fn:=Tryz.f201) (c:=(bodyOf Tryz.f201)) Tryz.func201 rfl rfl ?_;rintro B - -;have hle:=iS imm;refine zG<|zB<|tA (cAccess a0 p c) ?_;intro b hb;refine yA [] []<|zF<|zG ?_;obtain ⟨s,hy,hM⟩:=zC hM;obtain ⟨y,hy1,hM⟩:=zC hM;obtain ⟨s1,hy2,hM⟩:=zC hM;obtain ⟨s2,hy3,hM⟩:=zC hM;refine vC [.p (vP b 0) [],.p (vT a0.Array.l) [0],.q (vT s.l),.p (vP b 1) [],.p (vS p a0.Subs c) [0],.q (vT y.l),.q (vT s1.l),.q (vT s2.l)] [[],[(0,false)],[(1,false)],[],[(3,false)],[(4,false)],[(2,false),(5,false)],[(6,false)]] [hB b (cAccess a0 p c)] [] [(7,false)] (zL [0] rfl (by decide)) ?_ ?_
 · refine Op<|Op<|Oq ?_<|Op<|Op<|Oq ?_<|Oq ?_<|Oq ?_<|On
   · intro imm1 hf le1;refine zE ?_;rintro _ _ ⟨rfl,rfl⟩;refine zM<|yG [(4,vT a0.Array.l)] ?_;have hle:=iS imm1;exact jM rfl hy<|zZ (hx:=[]) rfl hle rfl (zK rfl) ⟨rfl,rfl⟩
   · intro imm1 hf le1;refine zE ?_;rintro _ _ ⟨rfl,rfl⟩;refine zM<|yG [(7,vS p a0.Subs c)] ?_;have hle:=iS imm1;have h:=h.mono le1;refine yQ (zBO a0.Subs _ hy1 h) ?_;rintro imm0 hs2 v2 k2 le - ⟨v0,rfl,rfl,rfl⟩ -;have hle:=hle.trans le;exact zZ (hx:=[]) rfl hle rfl (zK rfl) ⟨rfl,rfl⟩
   · intro imm1 hf le1;refine zE ?_;rintro _ _ ⟨rfl,rfl⟩;refine zE ?_;rintro _ _ ⟨rfl,rfl⟩;refine zM<|yG [(5,vT s.l),(8,vT y.l)] ?_;have hle:=iS imm1;exact jM rfl hy2<|zZ (hx:=[]) rfl hle rfl (zK rfl) ⟨rfl,rfl⟩
   intro imm1 hf le1;refine zE ?_;rintro _ _ ⟨rfl,rfl⟩;refine zM<|yG [(9,vT s1.l)] ?_;have hle:=iS imm1;exact jM rfl hy3<|zZ (hx:=[]) rfl hle rfl (zK rfl) ⟨rfl,rfl⟩
 intro imm01 le1;refine zE ?_;rintro _ _ ⟨rfl,rfl⟩;refine zM<|yG [(10,vT s2.l)] ?_;refine yA [] [(2,vT s2.l)]<|zF<|yI ?_;obtain rfl:=zD hM;exact yP ⟨_,_,(.tmp rfl ResV.nil),zX,⟨_,rfl,rfl,rfl⟩⟩
def fT (r:Str):KT:=fun kk imm' hs' v=>
  ∃ v0,hs'=[]∧v=tupV [v0]∧v0=.string ⟨⟨r.l⟩⟩
def sI (e0:zH):Option (Str):=do
 if (e0.Kind == 1) then
  let y←sH e0.Num
  pure (id y)
 else
  if (e0.Kind == 2) then
   let y1←oC e0.Index
   let s←cat (⟨[123]⟩:Str) y1
   let s1←cat s (⟨[125]⟩:Str)
   pure (id s1)
  else
   if (e0.Kind == 3) then
    let y2←sW e0.Read
    pure (id y2)
   else
    let x←idx e0.Kids 0
    let y3←sI (same x)
    let s2←cat (⟨[40]⟩:Str) y3
    let s3←sslc (⟨[43,45,42]⟩:Str) (W (e0.Kind - 4)) (W ((W (e0.Kind - 4)) + 1))
    let s4←cat s2 s3
    let x1←idx e0.Kids 1
    let y4←sI (same x1)
    let s5←cat s4 y4
    let s6←cat s5 (⟨[41]⟩:Str)
    pure (id s6)
 partial_fixpoint
theorem zEA:∀ (e0:zH) r,sI e0=some r→∀ {imm:Imm}{p c p1 c1 p2 c2},(S4 imm p e0.Index.Coefs c)→(S4 imm p1 e0.Read.Subs c1)→(S4 imm p2 e0.Kids c2)→Ret Tryz.prog 202 [vA (cExpr e0 p c p1 c1 p2 c2)] imm [] (fT  r):=by
 refine sI.partial_correctness (fun e0 r=>∀ {imm:Imm}{p c p1 c1 p2 c2},(S4 imm p e0.Index.Coefs c)→(S4 imm p1 e0.Read.Subs c1)→(S4 imm p2 e0.Kids c2)→Ret Tryz.prog 202 [vA (cExpr e0 p c p1 c1 p2 c2)] imm [] (fT  r)) ?_;intro F_spec_l3Text ih_spec_l3Text e0 r hM imm p c p1 c1 p2 c2 h h1 h2;refine yH (fn:=Tryz.f202) (c:=(bodyOf Tryz.f202)) Tryz.func202 rfl rfl ?_;rintro B - -;have hle:=iS imm;refine zG<|zB<|tA (cExpr e0 p c p1 c1 p2 c2) ?_;intro b hb;refine yA [] []<|zF<|zG<|zG<|zB<|yA [0] [(4,vI e0.Kind)]<|zF<|yC<|zG<|zB<|yA [] [(5,.bool (e0.Kind == 1))]<|zF<|yO hM ?_ ?_
 · intro hc hM;refine zG<|zB<|yK 2 [0] [(8,vI e0.Num)] ?_;obtain ⟨y,hy,hM⟩:=zC hM;refine yQ (jS e0.Num _ hy ) ?_;rintro imm0 hs2 v2 k2 le - ⟨v0,rfl,rfl,rfl⟩ -;refine yA [] [(2,vT y.l)]<|zF<|yI<|yF<|zP ?_;obtain rfl:=zD hM;exact yP ⟨_,_,(.tmp rfl ResV.nil),zX,⟨_,rfl,rfl,rfl⟩⟩
 intro hc hM;refine zG<|zB<|yA [] [(10,.bool (e0.Kind == 2))]<|zF<|yO hM ?_ ?_
 · intro hc1 hM;refine zG<|zB<|yK 2 [0] [(13,vA (cAff e0.Index p c))] ?_;obtain ⟨y1,hy1,hM⟩:=zC hM;refine yQ (jT e0.Index _ hy1 h) ?_;rintro imm01 hs2 v2 k2 le1 - ⟨v01,rfl,rfl,rfl⟩ -;obtain ⟨s,hy2,hM⟩:=zC hM;refine jM rfl hy2 ?_;obtain ⟨s1,hy3,hM⟩:=zC hM;refine jM rfl hy3<|yA [] [(2,vT s1.l)]<|zF<|yI<|yF<|zP ?_;obtain rfl:=zD hM;exact yP ⟨_,_,(.tmp rfl ResV.nil),zX,⟨_,rfl,rfl,rfl⟩⟩
 intro hc1 hM;refine zG<|zB<|yA [] [(17,.bool (e0.Kind == 3))]<|zF<|yO hM ?_ ?_
 · intro hc2 hM;refine zG<|zB<|yK 2 [0] [(20,vA (cAccess e0.Read p1 c1))] ?_;obtain ⟨y2,hy4,hM⟩:=zC hM;refine yQ (kQ e0.Read _ hy4 h1) ?_;rintro imm02 hs2 v2 k2 le2 - ⟨v02,rfl,rfl,rfl⟩ -;refine yA [] [(2,vT y2.l)]<|zF<|yI<|yF<|zP ?_;obtain rfl:=zD hM;exact yP ⟨_,_,(.tmp rfl ResV.nil),zX,⟨_,rfl,rfl,rfl⟩⟩
 intro hc2 hM;refine yE<|zY<|zF<|zG ?_;obtain ⟨x,hy5,hM⟩:=zC hM;obtain ⟨y3,hy6,hM⟩:=zC hM;obtain ⟨s2,hy7,hM⟩:=zC hM;obtain ⟨s3,hy8,hM⟩:=zC hM;obtain ⟨s4,hy9,hM⟩:=zC hM;obtain ⟨x1,hy10,hM⟩:=zC hM;obtain ⟨y4,hy11,hM⟩:=zC hM;obtain ⟨s5,hy12,hM⟩:=zC hM;obtain ⟨s6,hy13,hM⟩:=zC hM;refine vC [.p (vP b 6) [],.p (vS p2 e0.Kids c2) [0],.x (fun imm' v hx=>∃ ad p3 c3 p4 c4 p5 c5,v=.pointer (some ad)∧hx=[]∧(At imm' ad (cExpr x p3 c3 p4 c4 p5 c5))∧(S4 imm' p3 x.Index.Coefs c3)∧(S4 imm' p4 x.Read.Subs c4)∧(S4 imm' p5 x.Kids c5)),.x (fun imm' v hx=>∃ p31 c31 p41 c41 p51 c51,v=vA (cExpr x p31 c31 p41 c41 p51 c51)∧hx=[]∧(S4 imm' p31 x.Index.Coefs c31)∧(S4 imm' p41 x.Read.Subs c41)∧(S4 imm' p51 x.Kids c51)),.q (vT y3.l),.q (vT s2.l),.p (vP b 0) [],.p (vI e0.Kind) [0],.p (vI (W (e0.Kind - 4))) [],.p (vP b 0) [],.p (vI e0.Kind) [0],.p (vI (W (e0.Kind - 4))) [],.p (vI (W ((W (e0.Kind - 4)) + 1))) [],.q (vT s3.l),.q (vT s4.l),.p (vP b 6) [],.p (vS p2 e0.Kids c2) [0],.x (fun imm' v hx=>∃ ad1 p6 c6 p7 c7 p8 c8,v=.pointer (some ad1)∧hx=[]∧(At imm' ad1 (cExpr x1 p6 c6 p7 c7 p8 c8))∧(S4 imm' p6 x1.Index.Coefs c6)∧(S4 imm' p7 x1.Read.Subs c7)∧(S4 imm' p8 x1.Kids c8)),.x (fun imm' v hx=>∃ p61 c61 p71 c71 p81 c81,v=vA (cExpr x1 p61 c61 p71 c71 p81 c81)∧hx=[]∧(S4 imm' p61 x1.Index.Coefs c61)∧(S4 imm' p71 x1.Read.Subs c71)∧(S4 imm' p81 x1.Kids c81)),.q (vT y4.l),.q (vT s5.l),.q (vT s6.l)] [[],[(0,false)],[(1,false)],[(2,false)],[(3,false)],[(4,false)],[],[(6,false)],[(7,false)],[],[(9,false)],[(10,false)],[(11,false)],[(8,false),(12,false)],[(5,false),(13,false)],[],[(15,false)],[(16,false)],[(17,false)],[(18,false)],[(14,false),(19,false)],[(20,false)]] [hB b (cExpr e0 p c p1 c1 p2 c2)] [] [(21,false)] (zL [0] rfl (by decide)) ?_ ?_
 · refine Op<|Op<|Ox ?_<|Ox ?_<|Oq ?_<|Oq ?_<|Op<|Op<|Op<|Op<|Op<|Op<|Op<|Oq ?_<|Oq ?_<|Op<|Op<|Ox ?_<|Ox ?_<|Oq ?_<|Oq ?_<|Oq ?_<|On
   · intro imm1 hf le1;refine zE ?_;rintro _ _ ⟨rfl,rfl⟩;refine zM<|yG [(23,vS p2 e0.Kids c2)] ?_;have hle:=iS imm1;have h2:=h2.mono le1;refine wD rfl rfl h2 hy5 ?_;intro ad ccs hat hrep;obtain ⟨v03,v04,v05,rfl,h6,h7,h8⟩:=wM hrep;obtain ⟨p3,c3,rfl⟩:=h6.form;obtain ⟨p4,c4,rfl⟩:=h7.form;obtain ⟨p5,c5,rfl⟩:=h8.form;exact zZ (hx:=[]) rfl hle rfl (zK rfl) ⟨_,_,_,_,_,_,_,rfl,rfl,hat,h6,h7,h8⟩
   · intro imm1 hf le1;refine zE ?_;rintro _ _ ⟨ad,p3,c3,p4,c4,p5,c5,rfl,rfl,hat,h6,h7,h8⟩;refine zM<|yG [(24,.pointer (some ad))] ?_;have hle:=iS imm1;exact xQ 0 hat (cExpr x p3 c3 p4 c4 p5 c5) (vA (cExpr x p3 c3 p4 c4 p5 c5)) rfl<|zZ (hx:=[]) rfl hle rfl (zK rfl) ⟨_,_,_,_,_,_,rfl,rfl,h6,h7,h8⟩
   · intro imm1 hf le1;refine zE ?_;rintro _ _ ⟨p31,c31,p41,c41,p51,c51,rfl,rfl,h61,h71,h81⟩;refine zM<|yG [(25,vA (cExpr x p31 c31 p41 c41 p51 c51))] ?_;have hle:=iS imm1;refine yQ (ih_spec_l3Text x _ hy6 h61 h71 h81) ?_;rintro imm03 hs2 v2 k2 le3 - ⟨v06,rfl,rfl,rfl⟩ -;have hle:=hle.trans le3;exact zZ (hx:=[]) rfl hle rfl (zK rfl) ⟨rfl,rfl⟩
   · intro imm1 hf le1;refine zE ?_;rintro _ _ ⟨rfl,rfl⟩;refine zM<|yG [(26,vT y3.l)] ?_;have hle:=iS imm1;exact jM rfl hy7<|zZ (hx:=[]) rfl hle rfl (zK rfl) ⟨rfl,rfl⟩
   · intro imm1 hf le1;refine zE ?_;rintro _ _ ⟨rfl,rfl⟩;refine zE ?_;rintro _ _ ⟨rfl,rfl⟩;refine zM<|yG [(30,vI (W (e0.Kind - 4))),(34,vI (W ((W (e0.Kind - 4)) + 1)))] ?_;have hle:=iS imm1;exact zE3 rfl hy8<|zZ (hx:=[]) rfl hle rfl (zK rfl) ⟨rfl,rfl⟩
   · intro imm1 hf le1;refine zE ?_;rintro _ _ ⟨rfl,rfl⟩;refine zE ?_;rintro _ _ ⟨rfl,rfl⟩;refine zM<|yG [(27,vT s2.l),(35,vT s3.l)] ?_;have hle:=iS imm1;exact jM rfl hy9<|zZ (hx:=[]) rfl hle rfl (zK rfl) ⟨rfl,rfl⟩
   · intro imm1 hf le1;refine zE ?_;rintro _ _ ⟨rfl,rfl⟩;refine zM<|yG [(38,vS p2 e0.Kids c2)] ?_;have hle:=iS imm1;have h2:=h2.mono le1;refine wD rfl rfl h2 hy10 ?_;intro ad1 ccs1 hat1 hrep1;obtain ⟨v07,v08,v09,rfl,h10,h11,h12⟩:=wM hrep1;obtain ⟨p6,c6,rfl⟩:=h10.form;obtain ⟨p7,c7,rfl⟩:=h11.form;obtain ⟨p8,c8,rfl⟩:=h12.form;exact zZ (hx:=[]) rfl hle rfl (zK rfl) ⟨_,_,_,_,_,_,_,rfl,rfl,hat1,h10,h11,h12⟩
   · intro imm1 hf le1;refine zE ?_;rintro _ _ ⟨ad1,p6,c6,p7,c7,p8,c8,rfl,rfl,hat1,h10,h11,h12⟩;refine zM<|yG [(39,.pointer (some ad1))] ?_;have hle:=iS imm1;exact xQ 0 hat1 (cExpr x1 p6 c6 p7 c7 p8 c8) (vA (cExpr x1 p6 c6 p7 c7 p8 c8)) rfl<|zZ (hx:=[]) rfl hle rfl (zK rfl) ⟨_,_,_,_,_,_,rfl,rfl,h10,h11,h12⟩
   · intro imm1 hf le1;refine zE ?_;rintro _ _ ⟨p61,c61,p71,c71,p81,c81,rfl,rfl,h101,h111,h121⟩;refine zM<|yG [(40,vA (cExpr x1 p61 c61 p71 c71 p81 c81))] ?_;have hle:=iS imm1;refine yQ (ih_spec_l3Text x1 _ hy11 h101 h111 h121) ?_;rintro imm04 hs2 v2 k2 le4 - ⟨v010,rfl,rfl,rfl⟩ -;have hle:=hle.trans le4;exact zZ (hx:=[]) rfl hle rfl (zK rfl) ⟨rfl,rfl⟩
   · intro imm1 hf le1;refine zE ?_;rintro _ _ ⟨rfl,rfl⟩;refine zE ?_;rintro _ _ ⟨rfl,rfl⟩;refine zM<|yG [(36,vT s4.l),(41,vT y4.l)] ?_;have hle:=iS imm1;exact jM rfl hy12<|zZ (hx:=[]) rfl hle rfl (zK rfl) ⟨rfl,rfl⟩
   intro imm1 hf le1;refine zE ?_;rintro _ _ ⟨rfl,rfl⟩;refine zM<|yG [(42,vT s5.l)] ?_;have hle:=iS imm1;exact jM rfl hy13<|zZ (hx:=[]) rfl hle rfl (zK rfl) ⟨rfl,rfl⟩
 intro imm05 le5;refine zE ?_;rintro _ _ ⟨rfl,rfl⟩;refine zM<|yG [(43,vT s6.l)] ?_;refine yA [] [(2,vT s6.l)]<|zF<|yI ?_;obtain rfl:=zD hM;exact yP ⟨_,_,(.tmp rfl ResV.nil),zX,⟨_,rfl,rfl,rfl⟩⟩
def zAN (r:Str):KT:=fun kk imm' hs' v=>
  ∃ v0,hs'=[]∧v=tupV [v0]∧v0=.string ⟨⟨r.l⟩⟩
def pR (s:zR):Option (Str):=do
 let y←tF s 4
 if (!y) then
  pure (⟨[]⟩:Str)
 else
  let y1←sW s.Write
  let s1←cat y1 (⟨[61]⟩:Str)
  let y2←sI s.Value
  let s2←cat s1 y2
  pure (id s2)
theorem zBP:∀ (s:zR) r,pR s=some r→∀ {imm:Imm}{p c p1 c1 p2 c2 p3 c3},(S4 imm p s.Write.Subs c)→(S4 imm p1 s.Value.Index.Coefs c1)→(S4 imm p2 s.Value.Read.Subs c2)→(S4 imm p3 s.Value.Kids c3)→Ret Tryz.prog 193 [vA (cStmt s p c p1 c1 p2 c2 p3 c3)] imm [] (zAN  r):=by
 intro s r hM imm p c p1 c1 p2 c2 p3 c3 h h1 h2 h3;unfold pR at hM;refine yH (fn:=Tryz.f193) (c:=(bodyOf Tryz.f193)) Tryz.func193 rfl rfl ?_;rintro B - -;have hle:=iS imm;refine zG<|zB<|tA (cStmt s p c p1 c1 p2 c2 p3 c3) ?_;intro b hb;refine yA [] []<|zF<|zG<|zG<|zB<|yK 1 [0] [(3,vA (cStmt s p c p1 c1 p2 c2 p3 c3))] ?_;obtain ⟨y,hy,hM⟩:=zC hM;refine yQ (mP s 4 _ hy h h1 h2 h3) ?_;rintro imm0 hs2 v2 k2 le - ⟨v0,rfl,rfl,rfl⟩ -;have h:=h.mono le;have h1:=h1.mono le;have h2:=h2.mono le;have h3:=h3.mono le;have hle:=hle.trans le;refine yA [] [(5,.bool (!y))]<|zF<|yO hM ?_ ?_
 · intro hc hM;refine zG<|zB<|yA [] [(2,vT ([]))]<|zF<|yI<|zP ?_;obtain rfl:=zD hM;exact yP ⟨_,_,(.tmp rfl ResV.nil),zX,⟨_,rfl,rfl,rfl⟩⟩
 intro hc hM;refine yE<|zF<|zG ?_;obtain ⟨y1,hy1,hM⟩:=zC hM;obtain ⟨s1,hy2,hM⟩:=zC hM;obtain ⟨y2,hy3,hM⟩:=zC hM;obtain ⟨s2,hy4,hM⟩:=zC hM;refine vC [.p (vP b 0) [],.p (vA (cAccess s.Write p c)) [0],.q (vT y1.l),.q (vT s1.l),.p (vP b 2) [],.p (vA (cExpr s.Value p1 c1 p2 c2 p3 c3)) [0],.q (vT y2.l),.q (vT s2.l)] [[],[(0,false)],[(1,false)],[(2,false)],[],[(4,false)],[(5,false)],[(3,false),(6,false)]] [hB b (cStmt s p c p1 c1 p2 c2 p3 c3)] [] [(7,false)] (zL [0] rfl (by decide)) ?_ ?_
 · refine Op<|Op<|Oq ?_<|Oq ?_<|Op<|Op<|Oq ?_<|Oq ?_<|On
   · intro imm1 hf le1;refine zE ?_;rintro _ _ ⟨rfl,rfl⟩;refine zM<|yG [(7,vA (cAccess s.Write p c))] ?_;have hle:=iS imm1;have h:=h.mono le1;refine yQ (kQ s.Write _ hy1 h) ?_;rintro imm01 hs2 v2 k2 le1 - ⟨v01,rfl,rfl,rfl⟩ -;have hle:=hle.trans le1;exact zZ (hx:=[]) rfl hle rfl (zK rfl) ⟨rfl,rfl⟩
   · intro imm1 hf le1;refine zE ?_;rintro _ _ ⟨rfl,rfl⟩;refine zM<|yG [(8,vT y1.l)] ?_;have hle:=iS imm1;exact jM rfl hy2<|zZ (hx:=[]) rfl hle rfl (zK rfl) ⟨rfl,rfl⟩
   · intro imm1 hf le1;refine zE ?_;rintro _ _ ⟨rfl,rfl⟩;refine zM<|yG [(11,vA (cExpr s.Value p1 c1 p2 c2 p3 c3))] ?_;have hle:=iS imm1;have h1:=h1.mono le1;have h2:=h2.mono le1;have h3:=h3.mono le1;refine yQ (zEA s.Value _ hy3 h1 h2 h3) ?_;rintro imm02 hs2 v2 k2 le2 - ⟨v02,rfl,rfl,rfl⟩ -;have hle:=hle.trans le2;exact zZ (hx:=[]) rfl hle rfl (zK rfl) ⟨rfl,rfl⟩
   intro imm1 hf le1;refine zE ?_;rintro _ _ ⟨rfl,rfl⟩;refine zE ?_;rintro _ _ ⟨rfl,rfl⟩;refine zM<|yG [(9,vT s1.l),(12,vT y2.l)] ?_;have hle:=iS imm1;exact jM rfl hy4<|zZ (hx:=[]) rfl hle rfl (zK rfl) ⟨rfl,rfl⟩
 intro imm03 le3;refine zE ?_;rintro _ _ ⟨rfl,rfl⟩;refine zM<|yG [(13,vT s2.l)] ?_;refine yA [] [(2,vT s2.l)]<|zF<|yI ?_;obtain rfl:=zD hM;exact yP ⟨_,_,(.tmp rfl ResV.nil),zX,⟨_,rfl,rfl,rfl⟩⟩
def zAi (r:zR×Bool):KT:=fun kk imm' hs' v=>
  ∃ v0 v1,hs'=[]∧v=tupV [v0,v1]∧(∃ cs,v0=.agg ⟨cs⟩∧Rp.rep imm' cs r.1)∧v1=.bool r.2
def oJ (text:Str):Option (zR×Bool):=do
 if (decide ((text.l.length:Int) < 4)) then
  pure ((zR.mk (zN.mk (⟨[]⟩:Str) ([]:List zA)) (zH.mk 0 0 (zA.mk ([]:List Int) 0) (zN.mk (⟨[]⟩:Str) ([]:List zA)) ([]:List zH))),false)
 else
  let (y1,y2)←sE text 0
  let t25←(do
    if (decide (y2 < 0)) then
     pure true
    else
     pure (decide (y2 ≥ (text.l.length:Int)))
      : Option Bool)
  if t25 then
   pure ((zR.mk (zN.mk (⟨[]⟩:Str) ([]:List zA)) (zH.mk 0 0 (zA.mk ([]:List Int) 0) (zN.mk (⟨[]⟩:Str) ([]:List zA)) ([]:List zH))),false)
  else
   let (y4,y5)←sR text (W (y2 + 1)) 5
   let y6←pR (zR.mk y1 y4)
   if (!(y6.l == text.l)) then
    pure ((zR.mk (zN.mk (⟨[]⟩:Str) ([]:List zA)) (zH.mk 0 0 (zA.mk ([]:List Int) 0) (zN.mk (⟨[]⟩:Str) ([]:List zA)) ([]:List zH))),false)
   else
    pure ((zR.mk y1 y4),true)
theorem zCG:∀ (text:Str) r,oJ text=some r→∀ {imm:Imm} ,Ret Tryz.prog 170 [vT text.l] imm [] (zAi  r):=by
 intro text r hM imm;unfold oJ at hM;refine yH (fn:=Tryz.f170) (c:=(bodyOf Tryz.f170)) Tryz.func170 rfl rfl ?_;rintro B - -;have hle:=iS imm;refine zG<|zB<|uB [vT ([]),z0,vI 0,vI 0,z0,vI 0,vT ([]),z0,z0] ?_;intro b hb;refine yA [] []<|zF<|zG<|zG<|zB<|yA [] [(11,.bool (decide ((text.l.length:Int) < 4)))]<|zF<|yO hM ?_ ?_
 · intro hc hM;refine zG<|zB<|yK 1 [] [(12,vA [vT ([]),z0,vI 0,vI 0,z0,vI 0,vT ([]),z0,z0])]<|xI 0 [vT ([]),z0,vI 0,vI 0,z0,vI 0,vT ([]),z0,z0] [hB b [vT ([]),z0,vI 0,vI 0,z0,vI 0,vT ([]),z0,z0]] rfl rfl rfl rfl<|yA [] [(3,.bool false)]<|zF<|yI<|zP ?_;obtain rfl:=zD hM;exact yP ⟨_,_,(.cell 0 rfl rfl (by kernel_rfl) (.tmp rfl ResV.nil)),zX,⟨_,_,rfl,rfl,⟨_,rfl,(wN ⟨_,_,_,_,rfl,(SL.nil _),(SL.nil _),(SL.nil _),(SL.nil _)⟩)⟩,rfl⟩⟩
 intro hc hM;refine yE<|zF<|zG<|zB<|yK 1 [] [(14,vT text.l)] ?_;obtain ⟨⟨y1,y2⟩,hy,hM⟩:=zC hM;refine yQ (mZ text 0 _ hy ) ?_;rintro imm0 hs2 v2 k2 le - ⟨v0,v01,rfl,rfl,⟨cs,rfl,h⟩,rfl⟩ -;have hle:=hle.trans le;obtain ⟨v02,rfl,h2⟩:=sC h;obtain ⟨p,c,rfl⟩:=h2.form;refine yK 5 [] [(16,vA (cAccess y1 p c)),(17,vI y2)]<|uB [vT ([]),z0] ?_;intro b1 hb1;refine xI 0 (cAccess y1 p c) [hB b1 (cAccess y1 p c),hB b [vT ([]),z0,vI 0,vI 0,z0,vI 0,vT ([]),z0,z0]] rfl rfl rfl rfl<|yA [] [(5,vI y2)]<|zF<|zG<|zG ?_;obtain ⟨o0,ho0,hMc⟩:=zC hM;refine yT (fun imm' hs' m'=>∃ (t25:Bool),o0=t25∧imm0.le imm'∧hs'=[hB b1 (cAccess y1 p c),hB b [vT ([]),z0,vI 0,vI 0,z0,vI 0,vT ([]),z0,z0]]∧m'=[(0,vT text.l),(2,vP b 0),(4,vP b1 0),(5,vI y2),(25,.bool t25)]) ?_ ?_
 · have hle:=iS imm0;refine zB<|yK 3 [] [(20,.bool (decide (y2 < 0)))] ?_;cases hc1:(decide (y2 < 0)) with
   | true =>
    have hM0:=zV hc1 ho0
    try rw [hc1]
    exact yA [] [(25,.bool true)]<|yS [(0,vT text.l),(2,vP b 0),(4,vP b1 0),(5,vI y2),(25,.bool true)]<|yB ⟨_,(zD hM0).symm,hle,rfl,rfl⟩
   | false =>
    have hM01:=zT hc1 ho0
    try rw [hc1]
    exact yA [] [(25,.bool (decide (y2 ≥ (text.l.length:Int))))]<|yS [(0,vT text.l),(2,vP b 0),(4,vP b1 0),(5,vI y2),(25,.bool (decide (y2 ≥ (text.l.length:Int))))]<|yB ⟨_,(zD hM01).symm,hle,rfl,rfl⟩
 rintro imm01 hs2 m2 ⟨t25,heq,le1,rfl,rfl⟩;subst o0;have h2:=h2.mono le1;refine zF<|yO hMc ?_ ?_
 · intro hc2 hM;refine zG<|zB<|yK 1 [] [(26,vA [vT ([]),z0,vI 0,vI 0,z0,vI 0,vT ([]),z0,z0])]<|xI 1 [vT ([]),z0,vI 0,vI 0,z0,vI 0,vT ([]),z0,z0] [hB b1 (cAccess y1 p c),hB b [vT ([]),z0,vI 0,vI 0,z0,vI 0,vT ([]),z0,z0]] rfl rfl rfl rfl<|yA [] [(3,.bool false)]<|zF<|yI<|zP ?_;obtain rfl:=zD hM;exact yP ⟨_,_,(.cell 1 rfl rfl (by kernel_rfl) (.tmp rfl ResV.nil)),zX,⟨_,_,rfl,rfl,⟨_,rfl,(wN ⟨_,_,_,_,rfl,(SL.nil _),(SL.nil _),(SL.nil _),(SL.nil _)⟩)⟩,rfl⟩⟩
 intro hc2 hM;refine yE<|zF<|zG<|zB<|yK 3 [] [(28,vT text.l),(30,vI (W (y2 + 1)))] ?_;obtain ⟨⟨y4,y5⟩,hy1,hM⟩:=zC hM;refine yQ (zDV text (W (y2 + 1)) 5 _ hy1 ) ?_;rintro imm02 hs2 v2 k2 le2 - ⟨v03,v04,rfl,rfl,⟨cs1,rfl,h3⟩,rfl⟩ -;have h2:=h2.mono le2;obtain ⟨v05,v06,v07,rfl,h5,h6,h7⟩:=wM h3;obtain ⟨p1,c1,rfl⟩:=h5.form;obtain ⟨p2,c2,rfl⟩:=h6.form;obtain ⟨p3,c3,rfl⟩:=h7.form;refine yK 7 [] [(32,vA (cExpr y4 p1 c1 p2 c2 p3 c3)),(33,vI y5)]<|uB zExpr ?_;intro b2 hb2;refine xI 0 (cExpr y4 p1 c1 p2 c2 p3 c3) [hB b2 (cExpr y4 p1 c1 p2 c2 p3 c3),hB b1 (cAccess y1 p c),hB b [vT ([]),z0,vI 0,vI 0,z0,vI 0,vT ([]),z0,z0]] rfl rfl rfl rfl<|yA [] []<|zF<|zG<|zB<|yK 3 [1,0] [(36,vA [vT y1.Array.l,vS p y1.Subs c,vI y4.Kind,vI y4.Num,vS p1 y4.Index.Coefs c1,vI y4.Index.Const,vT y4.Read.Array.l,vS p2 y4.Read.Subs c2,vS p3 y4.Kids c3])]<|uB [vT ([]),z0,vI 0,vI 0,z0,vI 0,vT ([]),z0,z0] ?_;intro b3 hb3;refine xI 0 [vT y1.Array.l,vS p y1.Subs c,vI y4.Kind,vI y4.Num,vS p1 y4.Index.Coefs c1,vI y4.Index.Const,vT y4.Read.Array.l,vS p2 y4.Read.Subs c2,vS p3 y4.Kids c3] [hB b3 [vT y1.Array.l,vS p y1.Subs c,vI y4.Kind,vI y4.Num,vS p1 y4.Index.Coefs c1,vI y4.Index.Const,vT y4.Read.Array.l,vS p2 y4.Read.Subs c2,vS p3 y4.Kids c3],hB b2 (cExpr y4 p1 c1 p2 c2 p3 c3),hB b1 (cAccess y1 p c),hB b [vT ([]),z0,vI 0,vI 0,z0,vI 0,vT ([]),z0,z0]] rfl rfl rfl rfl<|yN rfl<|zF<|zG<|zG<|zB<|yK 1 [0] [(37,vA [vT y1.Array.l,vS p y1.Subs c,vI y4.Kind,vI y4.Num,vS p1 y4.Index.Coefs c1,vI y4.Index.Const,vT y4.Read.Array.l,vS p2 y4.Read.Subs c2,vS p3 y4.Kids c3])] ?_;obtain ⟨y6,hy2,hM⟩:=zC hM;refine yQ (zBP (zR.mk y1 y4) _ hy2 h2 h5 h6 h7) ?_;rintro imm03 hs2 v2 k2 le3 - ⟨v08,rfl,rfl,rfl⟩ -;have h2:=h2.mono le3;have h5:=h5.mono le3;have h6:=h6.mono le3;have h7:=h7.mono le3;refine yA [] [(40,.bool (!(y6.l == text.l)))]<|zF<|yO hM ?_ ?_
 · intro hc3 hM;refine zG<|zB<|yK 1 [] [(41,vA [vT ([]),z0,vI 0,vI 0,z0,vI 0,vT ([]),z0,z0])]<|xI 3 [vT ([]),z0,vI 0,vI 0,z0,vI 0,vT ([]),z0,z0] [hB b3 [vT y1.Array.l,vS p y1.Subs c,vI y4.Kind,vI y4.Num,vS p1 y4.Index.Coefs c1,vI y4.Index.Const,vT y4.Read.Array.l,vS p2 y4.Read.Subs c2,vS p3 y4.Kids c3],hB b2 (cExpr y4 p1 c1 p2 c2 p3 c3),hB b1 (cAccess y1 p c),hB b [vT ([]),z0,vI 0,vI 0,z0,vI 0,vT ([]),z0,z0]] rfl rfl rfl rfl<|yA [] [(3,.bool false)]<|zF<|yI<|zP ?_;obtain rfl:=zD hM;exact yP ⟨_,_,(.cell 3 rfl rfl (by kernel_rfl) (.tmp rfl ResV.nil)),zX,⟨_,_,rfl,rfl,⟨_,rfl,(wN ⟨_,_,_,_,rfl,(SL.nil _),(SL.nil _),(SL.nil _),(SL.nil _)⟩)⟩,rfl⟩⟩
 intro hc3 hM;refine yE<|zF<|zG<|zB<|yK 1 [0] [(42,vA [vT y1.Array.l,vS p y1.Subs c,vI y4.Kind,vI y4.Num,vS p1 y4.Index.Coefs c1,vI y4.Index.Const,vT y4.Read.Array.l,vS p2 y4.Read.Subs c2,vS p3 y4.Kids c3])]<|xI 3 [vT y1.Array.l,vS p y1.Subs c,vI y4.Kind,vI y4.Num,vS p1 y4.Index.Coefs c1,vI y4.Index.Const,vT y4.Read.Array.l,vS p2 y4.Read.Subs c2,vS p3 y4.Kids c3] [hB b3 [vT y1.Array.l,vS p y1.Subs c,vI y4.Kind,vI y4.Num,vS p1 y4.Index.Coefs c1,vI y4.Index.Const,vT y4.Read.Array.l,vS p2 y4.Read.Subs c2,vS p3 y4.Kids c3],hB b2 (cExpr y4 p1 c1 p2 c2 p3 c3),hB b1 (cAccess y1 p c),hB b [vT y1.Array.l,vS p y1.Subs c,vI y4.Kind,vI y4.Num,vS p1 y4.Index.Coefs c1,vI y4.Index.Const,vT y4.Read.Array.l,vS p2 y4.Read.Subs c2,vS p3 y4.Kids c3]] rfl rfl rfl rfl<|yA [] [(3,.bool true)]<|zF<|yI ?_;obtain rfl:=zD hM;exact yP ⟨_,_,(.cell 3 rfl rfl (by kernel_rfl) (.tmp rfl ResV.nil)),zX,⟨_,_,rfl,rfl,⟨_,rfl,(wN ⟨_,_,_,_,rfl,h2,h5,h6,h7⟩)⟩,rfl⟩⟩
def gV (r:(List zI)×Bool):KT:=fun kk imm' hs' v=>
  ∃ v0 v1,hs'=[]∧v=tupV [v0,v1]∧SL imm' v0 r.1∧v1=.bool r.2
def sS (sizes:(List Int)) (out:List zI) (i:Int):Option (Out (List zI) ((List zI)×Bool)):=do
 if (decide (i < (sizes.length:Int))) then
  let t28←(do
    let x←idx sizes i
    if (decide (x < 0)) then
     pure true
    else
     let x1←idx sizes i
     pure (decide (x1 > 99))
      : Option Bool)
  if t28 then
   pure (.ret (([]:List zI),false))
  else
   let y←rT
   let x2←idx sizes i
   let y1←wF x2
   let out2←app 48 out ([(zI.mk ([y]:List zA) ([y1]:List zA))]:List zI)
   sS sizes out2 (W (i + 1))
 else
  pure (.done out)
 partial_fixpoint
theorem zBQ (sizes:(List Int)):∀ (out:List zI) (i:Int) (o:Out (List zI) ((List zI)×Bool)),sS sizes out i=some o→∀ {B}{imm0 imm:Imm}{Q p c p1 c1 cs},imm0.le imm→(S4 imm p sizes c)→(RL imm cs out)→(∀ gl a w,¬Q (.goto gl) a w)→(∀ a w,¬Q .outgrown a w)→(∀ (imm':Imm) (out1:List zI) (p2:Option Addr) (c2:Nat) (cs1:List Value),o=(.done out1)→imm0.le imm'→(RL imm' cs1 out1)→T 43 B Q (.exit 0) imm' [hO zI (vS p2 out1 c2) cs1] [(4,vS p2 out1 c2)])→(∀ r imm' hs' m',o=(.ret r)→imm0.le imm'→RS Tryz.prog Tryz.f171 B (gV  r) imm' hs' m'→T 43 B Q .ret imm' hs' m')→J Tryz.prog 43 B (nav (bodyOf Tryz.f171) [1,1,1,0,1,0]) Q imm [hO zI (vS p1 out c1) cs] [(0,vS p sizes c),(4,vS p1 out c1),(5,vI i)]:=by
 refine sS.partial_correctness sizes _ ?_;intro self ih out i o hM B imm0 imm Q p c p1 c1 cs hle h h3 hg ho hx hr;refine xA hg ho<|zG<|zG<|zB<|yA [] [(14,.bool (decide (i < (sizes.length:Int))))]<|zF<|yO hM ?_ ?_
 · intro hc1 hM;refine yE<|zF<|zG<|yC<|zG<|zG ?_;obtain ⟨o0,ho0,hMc⟩:=zC hM;refine yT (fun imm' hs' m'=>∃ (t28:Bool),o0=t28∧imm.le imm'∧hs'=[hO zI (vS p1 out c1) cs]∧m'=[(0,vS p sizes c),(4,vS p1 out c1),(5,vI i),(28,.bool t28)]) ?_ ?_
   · have hle:=iS imm;refine zB<|yK 2 [] [(17,vS p sizes c),(18,vI i)] ?_;obtain ⟨x,hy,hM⟩:=zC ho0;refine wD rfl rfl h hy ?_;intro ad ccs hat hrep;obtain rfl:=hrep;refine xQ 0 hat [vI x] (vI x) rfl<|yK 6 [] [(22,.bool (decide (x < 0)))] ?_;cases hc2:(decide (x < 0)) with
     | true =>
      have hM0:=zV hc2 hM
      try rw [hc2]
      exact yA [] [(28,.bool true)]<|yS [(0,vS p sizes c),(4,vS p1 out c1),(5,vI i),(28,.bool true)]<|yB ⟨_,(zD hM0).symm,hle,rfl,rfl⟩
     | false =>
      have hM01:=zT hc2 hM
      try rw [hc2]
      refine yK 8 [] [(23,vS p sizes c),(24,vI i)] ?_;obtain ⟨x1,hy1,hM⟩:=zC hM01;refine wD rfl rfl h hy1 ?_;intro ad1 ccs1 hat1 hrep1;obtain rfl:=hrep1;exact xQ 0 hat1 [vI x1] (vI x1) rfl<|yA [] [(28,.bool (decide (x1 > 99)))]<|yS [(0,vS p sizes c),(4,vS p1 out c1),(5,vI i),(28,.bool (decide (x1 > 99)))]<|yB ⟨_,(zD hM).symm,hle,rfl,rfl⟩
   rintro imm01 hs2 m2 ⟨t28,heq,le1,rfl,rfl⟩;subst o0;have h:=h.mono le1;have h3:=iM le1 h3;have hle:=hle.trans le1;refine zF<|yO hMc ?_ ?_
   · intro hc3 hM;refine zG<|zB<|xV [] zI ?_;intro b1 hb1;have h5:RL imm01 [] ([]:List zI):=rfl;refine yA [] [(2,vS (some ⟨b1,0,none⟩) ([]:List zI) 0),(3,.bool false)]<|zF<|yI<|zP<|yF<|zP<|zP<|xJ 0 rfl ?_;intro imm02 le2 hl01;have h6:=SL.of_frozen hl01 le2 h5;have hle:=hle.trans le2;exact hr _ _ _ _ (zD hM).symm hle ⟨_,_,(.tmp rfl (.tmp rfl ResV.nil)),zX,⟨_,_,rfl,rfl,h6,rfl⟩⟩
   intro hc3 hM;refine yE<|zF ?_;obtain ⟨y,hy2,hM⟩:=zC hM;obtain ⟨x2,hy3,hM⟩:=zC hM;obtain ⟨y1,hy4,hM⟩:=zC hM;obtain ⟨out2,hy5,hM⟩:=zC hM;refine vC [.p (vS p1 out c1) [],.x (fun imm' v hx=>∃ p3 c3 cs2,v=vA (cAff y p3 c3)∧hx=[hO Int (vS p3 y.Coefs c3) cs2]∧(RL imm' cs2 y.Coefs)),.x (fun imm' v hx=>∃ b2,v=vS (some ⟨b2,0,none⟩) ([y]:List zA) 1∧hx=[]∧(SL imm' (vS (some ⟨b2,0,none⟩) ([y]:List zA) 1) ([y]:List zA))),.p (vS p sizes c) [],.p (vI i) [],.x (fun imm' v hx=>∃ ad2,v=.pointer (some ad2)∧hx=[]∧(At imm' ad2 [vI x2])),.q (vI x2),.x (fun imm' v hx=>∃ p4 c4 cs3,v=vA (cAff y1 p4 c4)∧hx=[hO Int (vS p4 y1.Coefs c4) cs3]∧(RL imm' cs3 y1.Coefs)),.x (fun imm' v hx=>∃ b3,v=vS (some ⟨b3,0,none⟩) ([y1]:List zA) 1∧hx=[]∧(SL imm' (vS (some ⟨b3,0,none⟩) ([y1]:List zA) 1) ([y1]:List zA))),.x (fun imm' v hx=>∃ b21 b31,v=vA [vS (some ⟨b21,0,none⟩) ([y]:List zA) 1,vS (some ⟨b31,0,none⟩) ([y1]:List zA) 1]∧hx=[]∧(SL imm' (vS (some ⟨b21,0,none⟩) ([y]:List zA) 1) ([y]:List zA))∧(SL imm' (vS (some ⟨b31,0,none⟩) ([y1]:List zA) 1) ([y1]:List zA))),.x (fun imm' v hx=>∃ b4,v=vS (some ⟨b4,0,none⟩) ([(zI.mk ([y]:List zA) ([y1]:List zA))]:List zI) 1∧hx=[]∧(SL imm' (vS (some ⟨b4,0,none⟩) ([(zI.mk ([y]:List zA) ([y1]:List zA))]:List zI) 1) ([(zI.mk ([y]:List zA) ([y1]:List zA))]:List zI))),.x (fun imm' v hx=>∃ p5 c5 cs4,v=vS p5 out2 c5∧hx=[hO zI (vS p5 out2 c5) cs4]∧(RL imm' cs4 out2))] [[],[],[(1,true)],[],[],[(3,false),(4,false)],[(5,false)],[(6,false)],[(7,true)],[(2,false),(8,false)],[(9,false)],[(0,false),(10,false),(13,true)]] [] [[hO zI (vS p1 out c1) cs]] [(11,true)] (zL [0] rfl (by decide)) ?_ ?_
   · refine Op<|Ox ?_<|Ox ?_<|Op<|Op<|Ox ?_<|Oq ?_<|Ox ?_<|Ox ?_<|Ox ?_<|Ox ?_<|Ox ?_<|On
     · intro imm1 hf le1;refine zM<|yG [] ?_;have hle:=iS imm1;refine yQ (oH  _ hy2 ) ?_;rintro imm03 hs2 v2 k2 le3 - ⟨p3,c3,cs2,rfl,rfl,h7⟩ -;have hle:=hle.trans le3;exact zZ (hx:=[hO Int (vS p3 y.Coefs c3) cs2]) rfl hle rfl (zK rfl) ⟨_,_,_,rfl,rfl,h7⟩
     · intro imm1 hf le1;refine zE ?_;rintro _ _ ⟨p3,c3,cs2,rfl,rfl,h7⟩;refine zM<|yG [(31,vA (cAff y p3 c3))] ?_;have hle:=iS imm1;refine yL 0 rfl ?_;intro imm04 le4 hl02;have h8:=SL.of_frozen hl02 le4 h7;have hle:=hle.trans le4;refine xV (cAff y p3 c3) zA ?_;intro b2 hb2;have h9:RL imm04 (cAff y p3 c3) ([y]:List zA):=⟨(cAff y p3 c3),_,rfl,rfl,(yR ⟨_,rfl,h8⟩),rfl⟩;refine yL 0 rfl ?_;intro imm05 le5 hl03;have h10:=SL.of_frozen hl03 le5 h9;have hle:=hle.trans le5;exact zZ (hx:=[]) rfl hle rfl (zK rfl) ⟨_,rfl,rfl,h10⟩
     · intro imm1 hf le1;refine zE ?_;rintro _ _ ⟨rfl,rfl⟩;refine zE ?_;rintro _ _ ⟨rfl,rfl⟩;refine zM<|yG [(33,vS p sizes c),(34,vI i)] ?_;have hle:=iS imm1;have h:=h.mono le1;refine wD rfl rfl h hy3 ?_;intro ad2 ccs2 hat2 hrep2;obtain rfl:=hrep2;exact zZ (hx:=[]) rfl hle rfl (zK rfl) ⟨_,rfl,rfl,hat2⟩
     · intro imm1 hf le1;refine zE ?_;rintro _ _ ⟨ad2,rfl,rfl,hat2⟩;refine zM<|yG [(35,.pointer (some ad2))] ?_;have hle:=iS imm1;exact xQ 0 hat2 [vI x2] (vI x2) rfl<|zZ (hx:=[]) rfl hle rfl (zK rfl) ⟨rfl,rfl⟩
     · intro imm1 hf le1;refine zE ?_;rintro _ _ ⟨rfl,rfl⟩;refine zM<|yG [(36,vI x2)] ?_;have hle:=iS imm1;refine yQ (vE x2 _ hy4 ) ?_;rintro imm06 hs2 v2 k2 le6 - ⟨p4,c4,cs3,rfl,rfl,h11⟩ -;have hle:=hle.trans le6;exact zZ (hx:=[hO Int (vS p4 y1.Coefs c4) cs3]) rfl hle rfl (zK rfl) ⟨_,_,_,rfl,rfl,h11⟩
     · intro imm1 hf le1;refine zE ?_;rintro _ _ ⟨p4,c4,cs3,rfl,rfl,h11⟩;refine zM<|yG [(37,vA (cAff y1 p4 c4))] ?_;have hle:=iS imm1;refine yL 0 rfl ?_;intro imm07 le7 hl04;have h12:=SL.of_frozen hl04 le7 h11;have hle:=hle.trans le7;refine xV (cAff y1 p4 c4) zA ?_;intro b3 hb3;have h13:RL imm07 (cAff y1 p4 c4) ([y1]:List zA):=⟨(cAff y1 p4 c4),_,rfl,rfl,(yR ⟨_,rfl,h12⟩),rfl⟩;refine yL 0 rfl ?_;intro imm08 le8 hl05;have h14:=SL.of_frozen hl05 le8 h13;have hle:=hle.trans le8;exact zZ (hx:=[]) rfl hle rfl (zK rfl) ⟨_,rfl,rfl,h14⟩
     · intro imm1 hf le1;refine zE ?_;rintro _ _ ⟨b2,rfl,rfl,h10⟩;refine zE ?_;rintro _ _ ⟨b3,rfl,rfl,h14⟩;refine zM<|yG [(32,vS (some ⟨b2,0,none⟩) ([y]:List zA) 1),(38,vS (some ⟨b3,0,none⟩) ([y1]:List zA) 1)] ?_;have hle:=iS imm1;exact rW 10 [(39,vA [vS (some ⟨b2,0,none⟩) ([y]:List zA) 1,vS (some ⟨b3,0,none⟩) ([y1]:List zA) 1])]<|zZ (hx:=[]) rfl hle rfl (zK rfl) ⟨_,_,rfl,rfl,h10,h14⟩
     · intro imm1 hf le1;refine zE ?_;rintro _ _ ⟨b21,b31,rfl,rfl,h101,h141⟩;refine zM<|yG [(39,vA [vS (some ⟨b21,0,none⟩) ([y]:List zA) 1,vS (some ⟨b31,0,none⟩) ([y1]:List zA) 1])] ?_;have hle:=iS imm1;refine xV [vS (some ⟨b21,0,none⟩) ([y]:List zA) 1,vS (some ⟨b31,0,none⟩) ([y1]:List zA) 1] zI ?_;intro b4 hb4;have h15:RL imm1 [vS (some ⟨b21,0,none⟩) ([y]:List zA) 1,vS (some ⟨b31,0,none⟩) ([y1]:List zA) 1] ([(zI.mk ([y]:List zA) ([y1]:List zA))]:List zI):=⟨[vS (some ⟨b21,0,none⟩) ([y]:List zA) 1,vS (some ⟨b31,0,none⟩) ([y1]:List zA) 1],_,rfl,rfl,(qY ⟨_,_,rfl,h101,h141⟩),rfl⟩;refine yL 0 rfl ?_;intro imm09 le9 hl06;have h16:=SL.of_frozen hl06 le9 h15;have hle:=hle.trans le9;exact zZ (hx:=[]) rfl hle rfl (zK rfl) ⟨_,rfl,rfl,h16⟩
     intro imm1 hf le1;refine zE ?_;rintro _ _ ⟨rfl,rfl⟩;refine zE ?_;rintro _ _ ⟨b4,rfl,rfl,h16⟩;refine zE ?_;rintro _ _ rfl;refine zM<|yG [(30,vS p1 out c1),(40,vS (some ⟨b4,0,none⟩) ([(zI.mk ([y]:List zA) ([y1]:List zA))]:List zI) 1)] ?_;have hle:=iS imm1;have h3:=iM le1 h3;obtain ⟨ccs3,k0,k01⟩:=h16;have h16:SL imm1 (vS (some ⟨b4,0,none⟩) ([(zI.mk ([y]:List zA) ([y1]:List zA))]:List zI) 1) ([(zI.mk ([y]:List zA) ([y1]:List zA))]:List zI):=⟨_,k0,k01⟩;refine qQ 113 2 0 rfl rfl rfl h3 (.inl k0) k01 hy5 ?_;intro p5 c5 cs4 h17;exact uP (hs':=(hO zI (vS p5 out2 c5) cs4::hf)) rfl<|zZ (hx:=[hO zI (vS p5 out2 c5) cs4]) rfl hle rfl (zK rfl) ⟨_,_,_,rfl,rfl,h17⟩
   intro imm010 le10;refine zE ?_;rintro _ _ ⟨p5,c5,cs4,rfl,rfl,h17⟩;refine zM<|yG [(0,vS p sizes c),(5,vI i),(41,vS p5 out2 c5)] ?_;have h:=h.mono le10;have hle:=hle.trans le10;exact yA [] [(4,vS p5 out2 c5)]<|zY<|zF<|zB<|yA [] [(5,vI (W (i + 1)))]<|xB<|vG [(0,vS p sizes c),(4,vS p5 out2 c5),(5,vI (W (i + 1)))]<|ih out2 (W (i + 1)) _ hM hle h h17 hg ho hx hr
 intro hc1 hM;exact yZ<|zS<|zS<|yS [(4,vS p1 out c1)]<|hx _ _ _ _ _ (zD hM).symm hle h3
def nR (sizes:(List Int)):Option ((List zI)×Bool):=do
 if (decide ((sizes.length:Int) > 4)) then
  pure (([]:List zI),false)
 else
  match←sS sizes ([]:List zI) 0 with
  | .ret r0=>pure r0
  | .done out1 =>
   pure (out1,true)
theorem zDW:∀ (sizes:(List Int)) r,nR sizes=some r→∀ {imm:Imm}{p c},(S4 imm p sizes c)→Ret Tryz.prog 171 [vS p sizes c] imm [] (gV  r):=by
 intro sizes r hM imm p c h;unfold nR at hM;refine yH (fn:=Tryz.f171) (c:=(bodyOf Tryz.f171)) Tryz.func171 rfl rfl ?_;rintro B - -;refine zG<|zB<|yA [] []<|zF<|zG<|zB<|xV [] zI ?_;intro b hb;have h1:RL imm [] ([]:List zI):=rfl;refine yA [] [(4,vS (some ⟨b,0,none⟩) ([]:List zI) 0)]<|zF<|zG<|zG<|zB<|yA [] [(9,.bool (decide ((sizes.length:Int) > 4)))]<|zF<|yO hM ?_ ?_
 · intro hc hM;refine zG<|zB<|yA [] [(2,vS (some ⟨b,0,none⟩) ([]:List zI) 0),(3,.bool false)]<|zF<|yI<|zP<|xJ 0 rfl ?_;intro imm0 le hl0;have h2:=SL.of_frozen hl0 le h1;obtain rfl:=zD hM;exact yP ⟨_,_,(.tmp rfl (.tmp rfl ResV.nil)),zX,⟨_,_,rfl,rfl,h2,rfl⟩⟩
 intro hc hM;refine yE<|zF<|zG<|zG<|zB<|yA [] [(5,vI 0)]<|zF<|yC<|vG [(0,vS p sizes c),(4,vS (some ⟨b,0,none⟩) ([]:List zI) 0),(5,vI 0)] ?_;obtain ⟨o01,ho01,hMl⟩:=zC hM;refine zBQ sizes ([]:List zI) 0 o01 ho01 iR h h1 (fun _ _ _ h=>h) (fun _ _ h=>h) ?_ ?_
 · intro imm011 out1 p2 c2 cs1 heq1 le11 h4;subst o01;refine yD<|zF<|zG<|zB<|yA [] [(2,vS p2 out1 c2),(3,.bool true)]<|zF<|yI<|xJ 0 rfl ?_;intro imm012 le12 hl07;have h18:=SL.of_frozen hl07 le12 h4;obtain rfl:=zD hMl;exact yP ⟨_,_,(.tmp rfl (.tmp rfl ResV.nil)),zX,⟨_,_,rfl,rfl,h18,rfl⟩⟩
 intro r0 imm9 hs9 m9 heq9 le9 hrs9;subst heq9;refine yF<|zP ?_;obtain rfl:=zD hMl;exact yP hrs9
def fU (b0:Nat) (r:zQ×zO):KT:=fun kk imm' hs' v=>
  ∃ v0 k0,hs'=[.blk b0 ⟨k0⟩]∧v=tupV [v0]∧(∃ cs,v0=.agg ⟨cs⟩∧Rp.rep imm' cs r.1)∧Rp.rep imm' k0 r.2
def rN (y1:(List zI)) (Body2:List zR) (n0:Int) (x6:zO):Option ((List zR×zO)):=do
 if (decide (n0 < 5)) then
  let (y7,y8)←mB x6 (y1.length:Int)
  let y9←oA
  let (y11,y12)←rV y9 (zQ.mk y1 ([y7]:List zR))
  if y12 then
   let l←app 152 Body2 ([y7]:List zR)
   pure (l,y8)
  else
   rN y1 Body2 (W (n0 + 1)) y8
 else
  pure (Body2,x6)
 partial_fixpoint
theorem zCH (y1:(List zI)) (Body2:List zR):∀ (n0:Int) (x6:zO) (o:(List zR×zO)),rN y1 Body2 n0 x6=some o→∀ {B}{imm0 imm:Imm}{Q}{i:Int}{x:zQ}{k0:Int}{r01:Nat}{b:Nat}{p1 c1 p2 c2 p7 c7}{b1:Nat}{p14 c14 cs2 p15 c15},imm0.le imm→(S4 imm p7 y1 c7)→(S4 imm p1 x.Nest c1)→(S4 imm p2 x.Body c2)→(RL imm cs2 Body2)→(S4 imm p15 x6.b c15)→(∀ gl a w,¬Q (.goto gl) a w)→(∀ a w,¬Q .outgrown a w)→(∀ (imm':Imm) (Body3:List zR) (x7:zO) (p16:Option Addr) (c16:Nat) (cs3:List Value) (p17:Option Addr) (c17:Nat),o=(Body3,x7)→imm0.le imm'→(RL imm' cs3 Body3)→(S4 imm' p17 x7.b c17)→T 81 B Q (.exit 4) imm' [hO zR (vS p16 Body3 c16) cs3,hB r01 (cRd x7 p17 c17),hB b1 [vS p7 y1 c7,vS p16 Body3 c16],hB b (cPart x p1 c1 p2 c2)] [(0,vP r01 0),(2,vP b 0),(3,vI i),(4,vP b1 0),(5,vI k0)])→J Tryz.prog 81 B (nav (bodyOf Tryz.f126) [1,0,1,0,0,1,0,0,1,0,1,0,0,1,0,0,1,0]) Q imm [hO zR (vS p14 Body2 c14) cs2,hB r01 (cRd x6 p15 c15),hB b1 [vS p7 y1 c7,vS p14 Body2 c14],hB b (cPart x p1 c1 p2 c2)] [(0,vP r01 0),(2,vP b 0),(3,vI i),(4,vP b1 0),(5,vI k0),(6,vI n0)]:=by
 refine rN.partial_correctness y1 Body2 _ ?_;intro self ih n0 x6 o hM B imm0 imm Q i x k0 r01 b p1 c1 p2 c2 p7 c7 b1 p14 c14 cs2 p15 c15 hle h7 h1 h2 h20 h21 hg ho hx;refine xA hg ho<|zG<|zG<|zB<|yA [] [(31,.bool (decide (n0 < 5)))]<|zF<|yO hM ?_ ?_
 · intro hc2 hM;refine yE<|zF<|zG<|yC<|zG<|zB<|yK 4 [2] [(34,vP r01 0),(37,vI (y1.length:Int))]<|rY (zL [1,0,2,3] (hs':=[hB r01 (cRd x6 p15 c15),hO zR (vS p14 Body2 c14) cs2,hB b1 [vS p7 y1 c7,vS p14 Body2 c14],hB b (cPart x p1 c1 p2 c2)]) rfl (by decide)) ?_;obtain ⟨⟨y7,y8⟩,hy2,hM⟩:=zC hM;refine tV [hB r01 (cRd x6 p15 c15)] [hO zR (vS p14 Body2 c14) cs2,hB b1 [vS p7 y1 c7,vS p14 Body2 c14],hB b (cPart x p1 c1 p2 c2)] (zDw x6 (y1.length:Int) _ hy2 h21) ?_;rintro imm03 hs2 v2 k2 le3 - ⟨v04,kk2,rfl,rfl,⟨cs4,rfl,h24⟩,h25⟩ -;have h20:=iM le3 h20;have h7:=h7.mono le3;have h1:=h1.mono le3;have h2:=h2.mono le3;have hle:=hle.trans le3;obtain ⟨v05,v06,v07,v08,rfl,h26,h27,h28,h29⟩:=wE h24;obtain ⟨p18,c18,rfl⟩:=h26.form;obtain ⟨p19,c19,rfl⟩:=h27.form;obtain ⟨p20,c20,rfl⟩:=h28.form;obtain ⟨p21,c21,rfl⟩:=h29.form;obtain ⟨v09,rfl,h30⟩:=yJ h25;obtain ⟨p22,c22,rfl⟩:=h30.form;refine uB [vT ([]),z0,vI 0,vI 0,z0,vI 0,vT ([]),z0,z0] ?_;intro b3 hb3;refine xI 0 (cStmt y7 p18 c18 p19 c19 p20 c20 p21 c21) [hB b3 (cStmt y7 p18 c18 p19 c19 p20 c20 p21 c21),hB r01 (cRd y8 p22 c22),hO zR (vS p14 Body2 c14) cs2,hB b1 [vS p7 y1 c7,vS p14 Body2 c14],hB b (cPart x p1 c1 p2 c2)] rfl rfl rfl rfl<|yN rfl<|zF<|zG ?_;obtain ⟨y9,hy3,hM⟩:=zC hM;obtain ⟨⟨y11,y12⟩,hy4,hM⟩:=zC hM;refine vC [.x (fun imm' v hx=>∃ p23 c23,v=vS p23 y9 c23∧hx=[]∧(S4 imm' p23 y9 c23)),.p (vP b1 0) [],.p (vS p7 y1 c7) [3],.p (vA (cStmt y7 p18 c18 p19 c19 p20 c20 p21 c21)) [0],.x (fun imm' v hx=>∃ b4,v=vS (some ⟨b4,0,none⟩) ([y7]:List zR) 1∧hx=[]∧(SL imm' (vS (some ⟨b4,0,none⟩) ([y7]:List zR) 1) ([y7]:List zR))),.x (fun imm' v hx=>∃ b41,v=vA [vS p7 y1 c7,vS (some ⟨b41,0,none⟩) ([y7]:List zR) 1]∧hx=[]∧(SL imm' (vS (some ⟨b41,0,none⟩) ([y7]:List zR) 1) ([y7]:List zR))),.q (.tuple ⟨[vI y11,.bool y12]⟩),.p (.tuple ⟨[vI y11,.bool y12]⟩) [],.p (vI y11) [],.p (.bool y12) [],.p (vI y11) []] [[],[],[(1,false)],[],[(3,false)],[(2,false),(4,false)],[(0,false),(5,false)],[(6,false)],[(7,false)],[(7,false)],[(8,false)]] [hB b3 (cStmt y7 p18 c18 p19 c19 p20 c20 p21 c21),hB r01 (cRd y8 p22 c22),hO zR (vS p14 Body2 c14) cs2,hB b1 [vS p7 y1 c7,vS p14 Body2 c14],hB b (cPart x p1 c1 p2 c2)] [] [(9,false)] (zL [0,1,2,3,4] rfl (by decide)) ?_ ?_
   · refine Ox ?_<|Op<|Op<|Op<|Ox ?_<|Ox ?_<|Oq ?_<|Op<|Op<|Op<|Op<|On
     · intro imm1 hf le1;refine zM<|yG [] ?_;have hle:=iS imm1;refine yQ (mR  _ hy3 ) ?_;rintro imm04 hs2 v2 k2 le4 - ⟨v010,rfl,rfl,h31⟩ -;have hle:=hle.trans le4;obtain ⟨p23,c23,rfl⟩:=h31.form;exact zZ (hx:=[]) rfl hle rfl (zK rfl) ⟨_,_,rfl,rfl,h31⟩
     · intro imm1 hf le1;refine zE ?_;rintro _ _ ⟨rfl,rfl⟩;refine zM<|yG [(43,vA (cStmt y7 p18 c18 p19 c19 p20 c20 p21 c21))] ?_;have hle:=iS imm1;have h26:=h26.mono le1;have h27:=h27.mono le1;have h28:=h28.mono le1;have h29:=h29.mono le1;refine xV (cStmt y7 p18 c18 p19 c19 p20 c20 p21 c21) zR ?_;intro b4 hb4;have h32:RL imm1 (cStmt y7 p18 c18 p19 c19 p20 c20 p21 c21) ([y7]:List zR):=⟨(cStmt y7 p18 c18 p19 c19 p20 c20 p21 c21),_,rfl,rfl,(wN ⟨_,_,_,_,rfl,h26,h27,h28,h29⟩),rfl⟩;refine yL 0 rfl ?_;intro imm05 le5 hl01;have h33:=SL.of_frozen hl01 le5 h32;have hle:=hle.trans le5;exact zZ (hx:=[]) rfl hle rfl (zK rfl) ⟨_,rfl,rfl,h33⟩
     · intro imm1 hf le1;refine zE ?_;rintro _ _ ⟨rfl,rfl⟩;refine zE ?_;rintro _ _ ⟨b4,rfl,rfl,h33⟩;refine zM<|yG [(42,vS p7 y1 c7),(44,vS (some ⟨b4,0,none⟩) ([y7]:List zR) 1)] ?_;have hle:=iS imm1;exact rW 6 [(45,vA [vS p7 y1 c7,vS (some ⟨b4,0,none⟩) ([y7]:List zR) 1])]<|zZ (hx:=[]) rfl hle rfl (zK rfl) ⟨_,rfl,rfl,h33⟩
     intro imm1 hf le1;refine zE ?_;rintro _ _ ⟨p23,c23,rfl,rfl,h31⟩;refine zE ?_;rintro _ _ ⟨b41,rfl,rfl,h331⟩;refine zM<|yG [(40,vS p23 y9 c23),(45,vA [vS p7 y1 c7,vS (some ⟨b41,0,none⟩) ([y7]:List zR) 1])] ?_;have hle:=iS imm1;have h7:=h7.mono le1;refine yQ (jR y9 (zQ.mk y1 ([y7]:List zR)) _ hy4 h31 h7 h331) ?_;rintro imm06 hs2 v2 k2 le6 - ⟨v011,v012,rfl,rfl,rfl,rfl⟩ -;have hle:=hle.trans le6;exact zZ (hx:=[]) rfl hle rfl (zK rfl) ⟨rfl,rfl⟩
   intro imm07 le7;refine zE ?_;rintro _ _ ⟨rfl,rfl⟩;refine zM<|yG [(0,vP r01 0),(2,vP b 0),(3,vI i),(4,vP b1 0),(5,vI k0),(6,vI n0),(7,vP b3 0),(48,.bool y12)] ?_;have h26:=h26.mono le7;have h27:=h27.mono le7;have h28:=h28.mono le7;have h29:=h29.mono le7;have h30:=h30.mono le7;have h20:=iM le7 h20;have h7:=h7.mono le7;have h1:=h1.mono le7;have h2:=h2.mono le7;have hle:=hle.trans le7;refine yA [] [(9,.bool y12)]<|zF<|zG<|zB<|yA [] [(49,.bool y12)]<|zF<|yO hM ?_ ?_
   · intro hc3 hM;refine zG<|zB<|yK 3 [3,0] [(51,vS p14 Body2 c14),(52,vA (cStmt y7 p18 c18 p19 c19 p20 c20 p21 c21))]<|xV (cStmt y7 p18 c18 p19 c19 p20 c20 p21 c21) zR ?_;intro b5 hb5;have h36:RL imm07 (cStmt y7 p18 c18 p19 c19 p20 c20 p21 c21) ([y7]:List zR):=⟨(cStmt y7 p18 c18 p19 c19 p20 c20 p21 c21),_,rfl,rfl,(wN ⟨_,_,_,_,rfl,h26,h27,h28,h29⟩),rfl⟩;obtain ⟨l,hy5,hM⟩:=zC hM;refine qQ 71 9 3 rfl rfl rfl h20 (.inr ⟨0,rfl⟩) h36 hy5 ?_;intro p24 c24 cs5 h37;exact rY (zL [1,2,3,4,5] (hs':=[hB b3 (cStmt y7 p18 c18 p19 c19 p20 c20 p21 c21),hB r01 (cRd y8 p22 c22),hO zR (vS p24 l c24) cs5,hB b1 [vS p7 y1 c7,vS p14 Body2 c14],hB b (cPart x p1 c1 p2 c2)]) rfl (by decide))<|yK 6 [] [(55,vP b1 1)]<|xI 3 [vS p7 y1 c7,vS p24 l c24] [hB b3 (cStmt y7 p18 c18 p19 c19 p20 c20 p21 c21),hB r01 (cRd y8 p22 c22),hO zR (vS p24 l c24) cs5,hB b1 [vS p7 y1 c7,vS p24 l c24],hB b (cPart x p1 c1 p2 c2)] rfl rfl rfl rfl<|yN rfl<|zF<|yZ<|zE1 rfl<|zS<|zS<|wB (zL [2,1,3,4] rfl (by decide))<|yS [(0,vP r01 0),(2,vP b 0),(3,vI i),(4,vP b1 0),(5,vI k0)]<|hx _ _ _ _ _ _ _ _ (zD hM).symm hle h37 h30
   intro hc3 hM;exact yE<|zY<|zF<|zB<|yA [] [(6,vI (W (n0 + 1)))]<|xB<|qP (zL [2,1,3,4] rfl (by decide))<|vG [(0,vP r01 0),(2,vP b 0),(3,vI i),(4,vP b1 0),(5,vI k0),(6,vI (W (n0 + 1)))]<|ih (W (n0 + 1)) y8 _ hM hle h7 h1 h2 h20 h30 hg ho hx
 intro hc2 hM;exact yZ<|zS<|zS<|yS [(0,vP r01 0),(2,vP b 0),(3,vI i),(4,vP b1 0),(5,vI k0)]<|hx _ _ _ _ _ _ _ _ (zD hM).symm hle h20 h21
def rO (y1:(List zI)) (k0:Int) (Body:List zR) (x4:zO):Option ((List zR×zO)):=do
 if (decide (k0 > 0)) then
  let (Body3,x7)←rN y1 Body 0 x4
  rO y1 (W (k0 - 1)) Body3 x7
 else
  pure (Body,x4)
 partial_fixpoint
theorem zCI (y1:(List zI)):∀ (k0:Int) (Body:List zR) (x4:zO) (o:(List zR×zO)),rO y1 k0 Body x4=some o→∀ {B}{imm0 imm:Imm}{Q}{i:Int}{x:zQ}{r01:Nat}{b:Nat}{p1 c1 p2 c2 p7 c7}{b1:Nat}{p10 c10 cs p11 c11},imm0.le imm→(S4 imm p7 y1 c7)→(S4 imm p1 x.Nest c1)→(S4 imm p2 x.Body c2)→(RL imm cs Body)→(S4 imm p11 x4.b c11)→(∀ gl a w,¬Q (.goto gl) a w)→(∀ a w,¬Q .outgrown a w)→(∀ (imm':Imm) (Body1:List zR) (x5:zO) (p12:Option Addr) (c12:Nat) (cs1:List Value) (p13:Option Addr) (c13:Nat),o=(Body1,x5)→imm0.le imm'→(RL imm' cs1 Body1)→(S4 imm' p13 x5.b c13)→T 81 B Q (.exit 2) imm' [hO zR (vS p12 Body1 c12) cs1,hB r01 (cRd x5 p13 c13),hB b1 [vS p7 y1 c7,vS p12 Body1 c12],hB b (cPart x p1 c1 p2 c2)] [(0,vP r01 0),(2,vP b 0),(3,vI i),(4,vP b1 0)])→J Tryz.prog 81 B (nav (bodyOf Tryz.f126) [1,0,1,0,0,1,0,0,1,0,1,0]) Q imm [hO zR (vS p10 Body c10) cs,hB r01 (cRd x4 p11 c11),hB b1 [vS p7 y1 c7,vS p10 Body c10],hB b (cPart x p1 c1 p2 c2)] [(0,vP r01 0),(2,vP b 0),(3,vI i),(4,vP b1 0),(5,vI k0)]:=by
 refine rO.partial_correctness y1 _ ?_;intro self ih k0 Body x4 o hM B imm0 imm Q i x r01 b p1 c1 p2 c2 p7 c7 b1 p10 c10 cs p11 c11 hle h7 h1 h2 h16 h17 hg ho hx;refine xA hg ho<|zG<|zG<|zB<|yA [] [(27,.bool (decide (k0 > 0)))]<|zF<|yO hM ?_ ?_
 · intro hc1 hM;refine yE<|zF<|zG<|yC<|zG<|zB<|yA [] [(6,vI 0)]<|zF<|yC<|vG [(0,vP r01 0),(2,vP b 0),(3,vI i),(4,vP b1 0),(5,vI k0),(6,vI 0)] ?_;obtain ⟨o0,ho0,hMl⟩:=zC hM;refine zCH y1 Body 0 x4 o0 ho0 iR h7 h1 h2 h16 h17 (fun _ _ _ h=>hg _ _ _ h) (fun _ _ h=>ho _ _ h) ?_;intro imm08 Body3 x7 p16 c16 cs3 p17 c17 heq le8 h22 h23;subst o0;have h7:=h7.mono le8;have h1:=h1.mono le8;have h2:=h2.mono le8;have hle:=hle.trans le8;exact yD<|zY<|zF<|zB<|yA [] [(5,vI (W (k0 - 1)))]<|xB<|vG [(0,vP r01 0),(2,vP b 0),(3,vI i),(4,vP b1 0),(5,vI (W (k0 - 1)))]<|ih (W (k0 - 1)) Body3 x7 _ hMl hle h7 h1 h2 h22 h23 hg ho hx
 intro hc1 hM;exact yZ<|zS<|zS<|yS [(0,vP r01 0),(2,vP b 0),(3,vI i),(4,vP b1 0)]<|hx _ _ _ _ _ _ _ _ (zD hM).symm hle h16 h17
def rP (x:zQ) (i:Int) (x1:zO):Option (Out (zQ×zO) (zQ×zO)):=do
 if (decide (i < 4)) then
  let (y1,y2)←mA x1
  let (y4,y5)←yV y2 ([1,2,1,3]:List Int)
  let (Body1,x5)←rO y1 y4 ([]:List zR) y5
  let y13←oA
  let (y15,y16)←rV y13 (zQ.mk y1 Body1)
  let t66←(do
    if y16 then
     pure (decide (y15 ≤ 40))
    else
     pure false
      : Option Bool)
  if t66 then
   pure (.ret ((zQ.mk y1 Body1),x5))
  else
   rP x (W (i + 1)) x5
 else
  pure (.done (x,x1))
 partial_fixpoint
theorem zCJ (x:zQ):∀ (i:Int) (x1:zO) (o:Out (zQ×zO) (zQ×zO)),rP x i x1=some o→∀ {B}{imm0 imm:Imm}{Q}  {r01:Nat}{b:Nat}{p1 c1 p2 c2 p3 c3},imm0.le imm→(S4 imm p1 x.Nest c1)→(S4 imm p2 x.Body c2)→(S4 imm p3 x1.b c3)→(∀ gl a w,¬Q (.goto gl) a w)→(∀ a w,¬Q .outgrown a w)→(∀ (imm':Imm) (x2:zQ) (x3:zO) (p4:Option Addr) (c4:Nat) (p5:Option Addr) (c5:Nat) (p6:Option Addr) (c6:Nat),o=(.done (x2,x3))→imm0.le imm'→(S4 imm' p4 x2.Nest c4)→(S4 imm' p5 x2.Body c5)→(S4 imm' p6 x3.b c6)→T 81 B Q (.exit 0) imm' [hB b (cPart x2 p4 c4 p5 c5),hB r01 (cRd x3 p6 c6)] [(2,vP b 0)])→(∀ r imm' hs' m',o=(.ret r)→imm0.le imm'→RS Tryz.prog Tryz.f126 B (fU r01 r) imm' hs' m'→T 81 B Q .ret imm' hs' m')→J Tryz.prog 81 B (nav (bodyOf Tryz.f126) [1,0,1,0]) Q imm [hB b (cPart x p1 c1 p2 c2),hB r01 (cRd x1 p3 c3)] [(0,vP r01 0),(2,vP b 0),(3,vI i)]:=by
 refine rP.partial_correctness x _ ?_;intro self ih i x1 o hM B imm0 imm Q r01 b p1 c1 p2 c2 p3 c3 hle h1 h2 h3 hg ho hx hr;refine xA hg ho<|zG<|zG<|zB<|yA [] [(17,.bool (decide (i < 4)))]<|zF<|yO hM ?_ ?_
 · intro hc hM;refine yE<|zF<|zG<|yC<|zG<|zB<|yK 1 [] [(20,vP r01 0)]<|rY (zL [1,0] (hs':=[hB r01 (cRd x1 p3 c3),hB b (cPart x p1 c1 p2 c2)]) rfl (by decide)) ?_;obtain ⟨⟨y1,y2⟩,hy,hM⟩:=zC hM;refine tV [hB r01 (cRd x1 p3 c3)] [hB b (cPart x p1 c1 p2 c2)] (zDu x1 _ hy h3) ?_;rintro imm0 hs2 v2 k2 le - ⟨v0,kk,rfl,rfl,h7,h8⟩ -;have h1:=h1.mono le;have h2:=h2.mono le;have hle:=hle.trans le;obtain ⟨p7,c7,rfl⟩:=h7.form;obtain ⟨v01,rfl,h9⟩:=yJ h8;obtain ⟨p8,c8,rfl⟩:=h9.form;refine yK 3 [] [(22,vA [vS p7 y1 c7,z0])]<|uB zTwo ?_;intro b1 hb1;refine xI 0 [vS p7 y1 c7,z0] [hB b1 [vS p7 y1 c7,z0],hB r01 (cRd y2 p8 c8),hB b (cPart x p1 c1 p2 c2)] rfl rfl rfl rfl<|yN rfl<|zF<|zG<|zG<|zB<|yK 1 [] [(23,vP r01 0)]<|xV [vI 1,vI 2,vI 1,vI 3] Int ?_;intro b2 hb2;have h10:RL imm0 [vI 1,vI 2,vI 1,vI 3] ([1,2,1,3]:List Int):=⟨[vI 1],_,rfl,rfl,rfl,⟨[vI 2],_,rfl,rfl,rfl,⟨[vI 1],_,rfl,rfl,rfl,⟨[vI 3],_,rfl,rfl,rfl,rfl⟩⟩⟩⟩;refine yL 0 rfl ?_;intro imm01 le1 hl0;have h11:=SL.of_frozen hl0 le1 h10;have h7:=h7.mono le1;have h9:=h9.mono le1;have h1:=h1.mono le1;have h2:=h2.mono le1;have hle:=hle.trans le1;refine rY (zL [1,0,2] (hs':=[hB r01 (cRd y2 p8 c8),hB b1 [vS p7 y1 c7,z0],hB b (cPart x p1 c1 p2 c2)]) rfl (by decide)) ?_;obtain ⟨⟨y4,y5⟩,hy1,hM⟩:=zC hM;refine tV [hB r01 (cRd y2 p8 c8)] [hB b1 [vS p7 y1 c7,z0],hB b (cPart x p1 c1 p2 c2)] (xE y2 ([1,2,1,3]:List Int) _ hy1 h9 h11) ?_;rintro imm02 hs2 v2 k2 le2 - ⟨v02,kk1,rfl,rfl,rfl,h13⟩ -;have h7:=h7.mono le2;have h1:=h1.mono le2;have h2:=h2.mono le2;have hle:=hle.trans le2;obtain ⟨v03,rfl,h14⟩:=yJ h13;obtain ⟨p9,c9,rfl⟩:=h14.form;refine yA [] [(5,vI y4)]<|zF<|yC<|vG [(0,vP r01 0),(2,vP b 0),(3,vI i),(4,vP b1 0),(5,vI y4)]<|qP (uS (Rp.sz zR)) ?_;have h15:RL imm02 [] ([]:List zR):=RepL.nil;obtain ⟨o01,ho01,hMl1⟩:=zC hM;refine zCI y1 y4 ([]:List zR) y5 o01 ho01 iR h7 h1 h2 h15 h14 (fun _ _ _ h=>hg _ _ _ h) (fun _ _ h=>ho _ _ h) ?_;intro imm09 Body1 x5 p12 c12 cs1 p13 c13 heq1 le9 h18 h19;subst o01;have h7:=h7.mono le9;have h1:=h1.mono le9;have h2:=h2.mono le9;have hle:=hle.trans le9;refine yD<|zF<|zG<|qW 0 rfl ?_;intro imm010 le10 hl02;have h38:=SL.of_frozen hl02 le10 h18;have h19:=h19.mono le10;have h7:=h7.mono le10;have h1:=h1.mono le10;have h2:=h2.mono le10;have hle:=hle.trans le10;obtain ⟨y13,hy6,hM⟩:=zC hMl1;obtain ⟨⟨y15,y16⟩,hy7,hM⟩:=zC hM;refine vC [.x (fun imm' v hx=>∃ p25 c25,v=vS p25 y13 c25∧hx=[]∧(S4 imm' p25 y13 c25)),.p (vA [vS p7 y1 c7,vS p12 Body1 c12]) [1],.q (.tuple ⟨[vI y15,.bool y16]⟩),.p (.tuple ⟨[vI y15,.bool y16]⟩) [],.p (vI y15) [],.p (.bool y16) [],.p (vI y15) []] [[],[],[(0,false),(1,false)],[(2,false)],[(3,false)],[(3,false)],[(4,false)]] [hB r01 (cRd x5 p13 c13),hB b1 [vS p7 y1 c7,vS p12 Body1 c12],hB b (cPart x p1 c1 p2 c2)] [] [(5,false),(6,false)] (zL [0,1,2] rfl (by decide)) ?_ ?_
   · refine Ox ?_<|Op<|Oq ?_<|Op<|Op<|Op<|Op<|On
     · intro imm1 hf le1;refine zM<|yG [] ?_;have hle:=iS imm1;refine yQ (mR  _ hy6 ) ?_;rintro imm011 hs2 v2 k2 le11 - ⟨v013,rfl,rfl,h39⟩ -;have hle:=hle.trans le11;obtain ⟨p25,c25,rfl⟩:=h39.form;exact zZ (hx:=[]) rfl hle rfl (zK rfl) ⟨_,_,rfl,rfl,h39⟩
     intro imm1 hf le1;refine zE ?_;rintro _ _ ⟨p25,c25,rfl,rfl,h39⟩;refine zE ?_;rintro _ _ ⟨rfl,rfl⟩;refine zM<|yG [(57,vS p25 y13 c25),(58,vA [vS p7 y1 c7,vS p12 Body1 c12])] ?_;have hle:=iS imm1;have h7:=h7.mono le1;have h38:=h38.mono le1;refine yQ (jR y13 (zQ.mk y1 Body1) _ hy7 h39 h7 h38) ?_;rintro imm012 hs2 v2 k2 le12 - ⟨v014,v015,rfl,rfl,rfl,rfl⟩ -;have hle:=hle.trans le12;exact zZ (hx:=[]) rfl hle rfl (zK rfl) ⟨rfl,rfl⟩
   intro imm013 le13;refine zE ?_;rintro _ _ ⟨rfl,rfl⟩;refine zE ?_;rintro _ _ ⟨rfl,rfl⟩;refine zM<|yG [(0,vP r01 0),(2,vP b 0),(3,vI i),(4,vP b1 0),(10,vI y15),(61,.bool y16)] ?_;have h19:=h19.mono le13;have h7:=h7.mono le13;have h38:=h38.mono le13;have h1:=h1.mono le13;have h2:=h2.mono le13;have hle:=hle.trans le13;refine yA [] [(11,.bool y16)]<|zF<|zG ?_;obtain ⟨o02,ho02,hMc⟩:=zC hM;refine yT (fun imm' hs' m'=>∃ (t66:Bool),o02=t66∧imm013.le imm'∧hs'=[hB r01 (cRd x5 p13 c13),hB b1 [vS p7 y1 c7,vS p12 Body1 c12],hB b (cPart x p1 c1 p2 c2)]∧m'=[(0,vP r01 0),(2,vP b 0),(3,vI i),(4,vP b1 0),(66,.bool t66)]) ?_ ?_
   · have hle:=iS imm013;refine zB<|yK 2 [] [(63,.bool y16)] ?_;cases hc4:y16 with
     | true =>
      have hM0:=zV hc4 ho02
      try rw [hc4]
      exact yA [] [(66,.bool (decide (y15 ≤ 40)))]<|yS [(0,vP r01 0),(2,vP b 0),(3,vI i),(4,vP b1 0),(66,.bool (decide (y15 ≤ 40)))]<|yB ⟨_,(zD hM0).symm,hle,rfl,rfl⟩
     | false =>
      have hM01:=zT hc4 ho02
      try rw [hc4]
      exact yA [] [(66,.bool false)]<|yS [(0,vP r01 0),(2,vP b 0),(3,vI i),(4,vP b1 0),(66,.bool false)]<|yB ⟨_,(zD hM01).symm,hle,rfl,rfl⟩
   rintro imm014 hs2 m2 ⟨t66,heq2,le14,rfl,rfl⟩;subst o02;have h19:=h19.mono le14;have h7:=h7.mono le14;have h38:=h38.mono le14;have h1:=h1.mono le14;have h2:=h2.mono le14;have hle:=hle.trans le14;refine zF<|yO hMc ?_ ?_
   · intro hc5 hM;exact zG<|zB<|yK 1 [1] [(67,vA [vS p7 y1 c7,vS p12 Body1 c12])]<|xI 2 [vS p7 y1 c7,vS p12 Body1 c12] [hB r01 (cRd x5 p13 c13),hB b1 [vS p7 y1 c7,vS p12 Body1 c12],hB b [vS p7 y1 c7,vS p12 Body1 c12]] rfl rfl rfl rfl<|yN rfl<|zF<|yI<|yF<|zP<|zP<|hr _ _ _ _ (zD hM).symm hle ⟨_,_,(.cell 2 rfl rfl (by kernel_rfl) ResV.nil),(zL [0] rfl (by decide)),⟨_,_,rfl,rfl,⟨_,rfl,(sK ⟨_,_,rfl,h7,h38⟩)⟩,(yU ⟨_,rfl,h19⟩)⟩⟩
   intro hc5 hM;exact yE<|zY<|zF<|zB<|yA [] [(3,vI (W (i + 1)))]<|xB<|qP (zL [2,0] rfl (by decide))<|vG [(0,vP r01 0),(2,vP b 0),(3,vI (W (i + 1)))]<|ih (W (i + 1)) x5 _ hM hle h1 h2 h19 hg ho hx hr
 intro hc hM;exact yZ<|zS<|zS<|yS [(2,vP b 0)]<|hx _ _ _ _ _ _ _ _ _ (zD hM).symm hle h1 h2 h3
def mF (r0:zO):Option (zQ×zO):=do
 match←rP (zQ.mk ([]:List zI) ([]:List zR)) 0 r0 with
 | .ret r0=>pure r0
 | .done (x2,x3) =>
  let (y18,y19)←oJ (⟨[65,91,105,93,61,40,65,91,105,93,43,123,105,125,41]⟩:Str)
  let (y21,y22)←nR ([4]:List Int)
  pure ((zQ.mk y21 ([y18]:List zR)),x3)
theorem zEB:∀ (r0:zO) r,mF r0=some r→∀ {imm:Imm}{r01:Nat}{p c},(S4 imm p r0.b c)→Ret Tryz.prog 126 [vP r01 0] imm [hB r01 (cRd r0 p c)] (fU r01 r):=by
 intro r0 r hM imm r01 p c h;unfold mF at hM;refine yH (fn:=Tryz.f126) (c:=(bodyOf Tryz.f126)) Tryz.func126 rfl rfl ?_;rintro B - -;refine zG<|zB<|uB zTwo ?_;intro b hb;refine yN rfl<|zF<|zG<|zG<|zB<|yA [] [(3,vI 0)]<|zF<|yC<|vG [(0,vP r01 0),(2,vP b 0),(3,vI 0)] ?_;obtain ⟨o03,ho03,hMl2⟩:=zC hM;refine zCJ (zQ.mk ([]:List zI) ([]:List zR)) 0 r0 o03 ho03 iR (SL.nil _) (SL.nil _) h (fun _ _ _ h=>h) (fun _ _ h=>h) ?_ ?_
 · intro imm015 x2 x3 p4 c4 p5 c5 p6 c6 heq3 le15 h4 h5 h6;subst o03;refine yD<|zF<|zG<|zB ?_;obtain ⟨⟨y18,y19⟩,hy8,hM⟩:=zC hMl2;refine yQ (zCG (⟨[65,91,105,93,61,40,65,91,105,93,43,123,105,125,41]⟩:Str) _ hy8 ) ?_;rintro imm016 hs2 v2 k2 le16 - ⟨v016,v017,rfl,rfl,⟨cs6,rfl,h42⟩,rfl⟩ -;have h6:=h6.mono le16;obtain ⟨v018,v019,v020,v021,rfl,h44,h45,h46,h47⟩:=wE h42;obtain ⟨p26,c26,rfl⟩:=h44.form;obtain ⟨p27,c27,rfl⟩:=h45.form;obtain ⟨p28,c28,rfl⟩:=h46.form;obtain ⟨p29,c29,rfl⟩:=h47.form;refine yK 4 [] [(70,vA (cStmt y18 p26 c26 p27 c27 p28 c28 p29 c29)),(71,.bool y19)]<|uB [vT ([]),z0,vI 0,vI 0,z0,vI 0,vT ([]),z0,z0] ?_;intro b6 hb6;refine xI 0 (cStmt y18 p26 c26 p27 c27 p28 c28 p29 c29) [hB b6 (cStmt y18 p26 c26 p27 c27 p28 c28 p29 c29),hB b (cPart x2 p4 c4 p5 c5),hB r01 (cRd x3 p6 c6)] rfl rfl rfl rfl<|yA [] []<|zF<|zG<|zB<|xV [vI 4] Int ?_;intro b7 hb7;have h48:RL imm016 [vI 4] ([4]:List Int):=⟨[vI 4],_,rfl,rfl,rfl,rfl⟩;refine yL 0 rfl ?_;intro imm017 le17 hl03;have h49:=SL.of_frozen hl03 le17 h48;have h44:=h44.mono le17;have h45:=h45.mono le17;have h46:=h46.mono le17;have h47:=h47.mono le17;have h6:=h6.mono le17;obtain ⟨⟨y21,y22⟩,hy9,hM⟩:=zC hM;refine yQ (zDW ([4]:List Int) _ hy9 h49) ?_;rintro imm018 hs2 v2 k2 le18 - ⟨v022,v023,rfl,rfl,h50,rfl⟩ -;have h44:=h44.mono le18;have h45:=h45.mono le18;have h46:=h46.mono le18;have h47:=h47.mono le18;have h6:=h6.mono le18;obtain ⟨p30,c30,rfl⟩:=h50.form;refine yA [] [(14,vS p30 y21 c30)]<|zF<|zG<|zB<|yK 2 [0] [(77,vS p30 y21 c30),(78,vA (cStmt y18 p26 c26 p27 c27 p28 c28 p29 c29))]<|xV (cStmt y18 p26 c26 p27 c27 p28 c28 p29 c29) zR ?_;intro b8 hb8;have h52:RL imm018 (cStmt y18 p26 c26 p27 c27 p28 c28 p29 c29) ([y18]:List zR):=⟨(cStmt y18 p26 c26 p27 c27 p28 c28 p29 c29),_,rfl,rfl,(wN ⟨_,_,_,_,rfl,h44,h45,h46,h47⟩),rfl⟩;refine yK 4 [] [(80,vA [vS p30 y21 c30,vS (some ⟨b8,0,none⟩) ([y18]:List zR) 1])]<|xI 2 [vS p30 y21 c30,vS (some ⟨b8,0,none⟩) ([y18]:List zR) 1] [hO zR (vS (some ⟨b8,0,none⟩) ([y18]:List zR) 1) (cStmt y18 p26 c26 p27 c27 p28 c28 p29 c29),hB b6 (cStmt y18 p26 c26 p27 c27 p28 c28 p29 c29),hB b [vS p30 y21 c30,vS (some ⟨b8,0,none⟩) ([y18]:List zR) 1],hB r01 (cRd x3 p6 c6)] rfl rfl rfl rfl<|yN rfl<|zF<|yI<|xJ 0 rfl ?_;intro imm019 le19 hl04;have h53:=SL.of_frozen hl04 le19 h52;have h50:=h50.mono le19;have h6:=h6.mono le19;obtain rfl:=zD hM;exact yP ⟨_,_,(.cell 1 rfl rfl (by kernel_rfl) ResV.nil),(zL [2] rfl (by decide)),⟨_,_,rfl,rfl,⟨_,rfl,(sK ⟨_,_,rfl,h50,h53⟩)⟩,(yU ⟨_,rfl,h6⟩)⟩⟩
 intro r0 imm9 hs9 m9 heq9 le9 hrs9;subst heq9;refine yF<|zP ?_;obtain rfl:=zD hMl2;exact yP hrs9
def zCu (b0:Nat) (r:zW×zO):KT:=fun kk imm' hs' v=>
  ∃ v0 k0,hs'=[.blk b0 ⟨k0⟩]∧v=tupV [v0]∧(∃ cs,v0=.agg ⟨cs⟩∧Rp.rep imm' cs r.1)∧Rp.rep imm' k0 r.2
def rQ (i:Int) (Parts:List zQ) (x:zO):Option ((List zQ×zO)):=do
 if (decide (i > 0)) then
  let (y5,y6)←mF x
  let l←app 48 Parts ([y5]:List zQ)
  rQ (W (i - 1)) l y6
 else
  pure (Parts,x)
 partial_fixpoint
theorem zCK :∀ (i:Int) (Parts:List zQ) (x:zO) (o:(List zQ×zO)),rQ i Parts x=some o→∀ {B}{imm0 imm:Imm}{Q}{y:(List zJ)}{r01:Nat}{b:Nat}{p1 c1}{b1:Nat}{p3 c3 cs p4 c4},imm0.le imm→(S4 imm p1 y c1)→(RL imm cs Parts)→(S4 imm p4 x.b c4)→(∀ gl a w,¬Q (.goto gl) a w)→(∀ a w,¬Q .outgrown a w)→(∀ (imm':Imm) (Parts1:List zQ) (x1:zO) (p5:Option Addr) (c5:Nat) (cs1:List Value) (p6:Option Addr) (c6:Nat),o=(Parts1,x1)→imm0.le imm'→(RL imm' cs1 Parts1)→(S4 imm' p6 x1.b c6)→T 29 B Q (.exit 0) imm' [hO zQ (vS p5 Parts1 c5) cs1,hB r01 (cRd x1 p6 c6),hB b1 [vS p1 y c1,vS p5 Parts1 c5],hB b zTwo] [(2,vP b 0),(3,vP b1 0)])→J Tryz.prog 29 B (nav (bodyOf Tryz.f62) [1,1,0,1,0]) Q imm [hO zQ (vS p3 Parts c3) cs,hB r01 (cRd x p4 c4),hB b1 [vS p1 y c1,vS p3 Parts c3],hB b zTwo] [(0,vP r01 0),(2,vP b 0),(3,vP b1 0),(4,vI i)]:=by
 refine rQ.partial_correctness  _ ?_;intro self ih i Parts x o hM B imm0 imm Q y r01 b p1 c1 b1 p3 c3 cs p4 c4 hle h1 h8 h9 hg ho hx;refine xA hg ho<|zG<|zG<|zB<|yA [] [(11,.bool (decide (i > 0)))]<|zF<|yO hM ?_ ?_
 · intro hc hM;refine yE<|zF<|zG<|yC ?_;obtain ⟨⟨y5,y6⟩,hy2,hM⟩:=zC hM;obtain ⟨l,hy3,hM⟩:=zC hM;refine vC [.p (vP b1 1) [],.p (vS p3 Parts c3) [0],.p (vP r01 0) [],.x (fun imm' v hx=>∃ p7 c7 p8 c8 p9 c9,v=vA (cPart y5 p7 c7 p8 c8)∧hx=[hB r01 (cRd y6 p9 c9)]∧(S4 imm' p7 y5.Nest c7)∧(S4 imm' p8 y5.Body c8)∧(S4 imm' p9 y6.b c9)),.x (fun imm' v hx=>∃ b3,v=vS (some ⟨b3,0,none⟩) ([y5]:List zQ) 1∧hx=[]∧(SL imm' (vS (some ⟨b3,0,none⟩) ([y5]:List zQ) 1) ([y5]:List zQ))),.x (fun imm' v hx=>∃ p10 c10 cs3,v=vS p10 l c10∧hx=[hO zQ (vS p10 l c10) cs3]∧(RL imm' cs3 l))] [[],[(0,false)],[],[(2,false),(8,true)],[(3,false)],[(1,false),(4,false),(9,true)]] [hB b1 [vS p1 y c1,vS p3 Parts c3],hB b zTwo] [[hB r01 (cRd x p4 c4)],[hO zQ (vS p3 Parts c3) cs]] [(3,true),(5,true)] (zL [2,3,1,0] rfl (by decide)) ?_ ?_
   · refine Op<|Op<|Op<|Ox ?_<|Ox ?_<|Ox ?_<|On
     · intro imm1 hf le1;refine zE ?_;rintro _ _ ⟨rfl,rfl⟩;refine zE ?_;rintro _ _ rfl;refine zM<|yG [(16,vP r01 0)] ?_;have hle:=iS imm1;have h9:=h9.mono le1;refine tV [hB r01 (cRd x p4 c4)] (hB b1 [vS p1 y c1,vS p3 Parts c3]::hB b zTwo::hf) (zEB x _ hy2 h9) ?_;rintro imm03 hs2 v2 k2 le3 - ⟨v03,kk1,rfl,rfl,⟨cs2,rfl,h12⟩,h13⟩ -;have hle:=hle.trans le3;obtain ⟨v04,v05,rfl,h14,h15⟩:=xT h12;obtain ⟨p7,c7,rfl⟩:=h14.form;obtain ⟨p8,c8,rfl⟩:=h15.form;obtain ⟨v06,rfl,h16⟩:=yJ h13;obtain ⟨p9,c9,rfl⟩:=h16.form;exact zZ (hx:=[hB r01 (cRd y6 p9 c9)]) rfl hle rfl (zK rfl) ⟨_,_,_,_,_,_,rfl,rfl,h14,h15,h16⟩
     · intro imm1 hf le1;refine zE ?_;rintro _ _ ⟨p7,c7,p8,c8,p9,c9,rfl,rfl,h14,h15,h16⟩;refine zM<|yG [(17,vA (cPart y5 p7 c7 p8 c8))] ?_;have hle:=iS imm1;refine xV (cPart y5 p7 c7 p8 c8) zQ ?_;intro b3 hb3;have h17:RL imm1 (cPart y5 p7 c7 p8 c8) ([y5]:List zQ):=⟨(cPart y5 p7 c7 p8 c8),_,rfl,rfl,(sK ⟨_,_,rfl,h14,h15⟩),rfl⟩;refine yL 0 rfl ?_;intro imm04 le4 hl01;have h18:=SL.of_frozen hl01 le4 h17;have hle:=hle.trans le4;exact zZ (hx:=[]) rfl hle rfl (zK rfl) ⟨_,rfl,rfl,h18⟩
     intro imm1 hf le1;refine zE ?_;rintro _ _ ⟨rfl,rfl⟩;refine zE ?_;rintro _ _ ⟨b3,rfl,rfl,h18⟩;refine zE ?_;rintro _ _ rfl;refine zM<|yG [(15,vS p3 Parts c3),(18,vS (some ⟨b3,0,none⟩) ([y5]:List zQ) 1)] ?_;have hle:=iS imm1;have h8:=iM le1 h8;obtain ⟨ccs,k0,k01⟩:=h18;have h18:SL imm1 (vS (some ⟨b3,0,none⟩) ([y5]:List zQ) 1) ([y5]:List zQ):=⟨_,k0,k01⟩;refine qQ 37 2 0 rfl rfl rfl h8 (.inl k0) k01 hy3 ?_;intro p10 c10 cs3 h19;exact uP (hs':=(hO zQ (vS p10 l c10) cs3::hB b1 [vS p1 y c1,vS p3 Parts c3]::hB b zTwo::hf)) rfl<|zZ (hx:=[hO zQ (vS p10 l c10) cs3]) rfl hle rfl (zK rfl) ⟨_,_,_,rfl,rfl,h19⟩
   intro imm05 le5;refine zE ?_;rintro _ _ ⟨p7,c7,p8,c8,p9,c9,rfl,rfl,h14,h15,h16⟩;refine zE ?_;rintro _ _ ⟨p10,c10,cs3,rfl,rfl,h19⟩;refine zM<|yG [(0,vP r01 0),(2,vP b 0),(3,vP b1 0),(4,vI i),(19,vS p10 l c10)] ?_;have h1:=h1.mono le5;have hle:=hle.trans le5;exact yK 7 [] [(20,vP b1 1)]<|xI 2 [vS p1 y c1,vS p10 l c10] [hO zQ (vS p10 l c10) cs3,hB r01 (cRd y6 p9 c9),hB b1 [vS p1 y c1,vS p10 l c10],hB b zTwo] rfl rfl rfl rfl<|yN rfl<|zY<|zF<|zB<|yA [] [(4,vI (W (i - 1)))]<|xB<|vG [(0,vP r01 0),(2,vP b 0),(3,vP b1 0),(4,vI (W (i - 1)))]<|ih (W (i - 1)) l y6 _ hM hle h1 h19 h16 hg ho hx
 intro hc hM;exact yZ<|zS<|zS<|yS [(2,vP b 0),(3,vP b1 0)]<|hx _ _ _ _ _ _ _ _ (zD hM).symm hle h8 h9
def mG (r0:zO):Option (zW×zO):=do
 let y←oA
 let (y2,y3)←yV r0 ([1,2,1,3]:List Int)
 let (Parts1,x1)←rQ y2 ([]:List zQ) y3
 let y7←tK (zW.mk y Parts1)
 if y7 then
  pure ((zW.mk y Parts1),x1)
 else
  let y8←oA
  let l1←slc Parts1 0 1
  pure ((zW.mk y8 l1),x1)
theorem zEC:∀ (r0:zO) r,mG r0=some r→∀ {imm:Imm}{r01:Nat}{p c},(S4 imm p r0.b c)→Ret Tryz.prog 62 [vP r01 0] imm [hB r01 (cRd r0 p c)] (zCu r01 r):=by
 intro r0 r hM imm r01 p c h;unfold mG at hM;refine yH (fn:=Tryz.f62) (c:=(bodyOf Tryz.f62)) Tryz.func62 rfl rfl ?_;rintro B - -;have hle:=iS imm;refine zG<|zB<|uB zTwo ?_;intro b hb;refine yN rfl<|zF<|zG<|zB ?_;obtain ⟨y,hy,hM⟩:=zC hM;refine yQ (mR  _ hy ) ?_;rintro imm0 hs2 v2 k2 le - ⟨v0,rfl,rfl,h1⟩ -;have h:=h.mono le;have hle:=hle.trans le;obtain ⟨p1,c1,rfl⟩:=h1.form;refine yK 2 [] [(6,vA [vS p1 y c1,z0])]<|uB zTwo ?_;intro b1 hb1;refine xI 0 [vS p1 y c1,z0] [hB b1 [vS p1 y c1,z0],hB b zTwo,hB r01 (cRd r0 p c)] rfl rfl rfl rfl<|yN rfl<|zF<|zG<|zG<|zB<|yK 1 [] [(7,vP r01 0)]<|xV [vI 1,vI 2,vI 1,vI 3] Int ?_;intro b2 hb2;have h2:RL imm0 [vI 1,vI 2,vI 1,vI 3] ([1,2,1,3]:List Int):=⟨[vI 1],_,rfl,rfl,rfl,⟨[vI 2],_,rfl,rfl,rfl,⟨[vI 1],_,rfl,rfl,rfl,⟨[vI 3],_,rfl,rfl,rfl,rfl⟩⟩⟩⟩;refine yL 0 rfl ?_;intro imm01 le1 hl0;have h3:=SL.of_frozen hl0 le1 h2;have h1:=h1.mono le1;have h:=h.mono le1;have hle:=hle.trans le1;refine rY (zL [2,0,1] (hs':=[hB r01 (cRd r0 p c),hB b1 [vS p1 y c1,z0],hB b zTwo]) rfl (by decide)) ?_;obtain ⟨⟨y2,y3⟩,hy1,hM⟩:=zC hM;refine tV [hB r01 (cRd r0 p c)] [hB b1 [vS p1 y c1,z0],hB b zTwo] (xE r0 ([1,2,1,3]:List Int) _ hy1 h h3) ?_;rintro imm02 hs2 v2 k2 le2 - ⟨v01,kk,rfl,rfl,rfl,h5⟩ -;have h1:=h1.mono le2;have hle:=hle.trans le2;obtain ⟨v02,rfl,h6⟩:=yJ h5;obtain ⟨p2,c2,rfl⟩:=h6.form;refine yA [] [(4,vI y2)]<|zF<|yC<|vG [(0,vP r01 0),(2,vP b 0),(3,vP b1 0),(4,vI y2)]<|qP (uS (Rp.sz zQ)) ?_;have h7:RL imm02 [] ([]:List zQ):=RepL.nil;obtain ⟨o0,ho0,hMl⟩:=zC hM;refine zCK y2 ([]:List zQ) y3 o0 ho0 iR h1 h7 h6 (fun _ _ _ h=>h) (fun _ _ h=>h) ?_;intro imm06 Parts1 x1 p5 c5 cs1 p6 c6 heq le6 h10 h11;subst o0;have h1:=h1.mono le6;have hle:=hle.trans le6;refine yD<|zF<|zG<|zG<|zB<|yK 1 [2] [(21,vA [vS p1 y c1,vS p5 Parts1 c5])]<|yL 0 rfl ?_;intro imm07 le7 hl02;have h20:=SL.of_frozen hl02 le7 h10;have h1:=h1.mono le7;have h11:=h11.mono le7;have hle:=hle.trans le7;obtain ⟨y7,hy4,hM⟩:=zC hMl;refine yQ (zAH (zW.mk y Parts1) _ hy4 h1 h20) ?_;rintro imm08 hs2 v2 k2 le8 - ⟨v07,rfl,rfl,rfl⟩ -;have h11:=h11.mono le8;have h1:=h1.mono le8;have h20:=h20.mono le8;have hle:=hle.trans le8;refine yN rfl<|zF<|yO hM ?_ ?_
 · intro hc1 hM;refine zG<|zB<|yK 1 [1] [(23,vA [vS p1 y c1,vS p5 Parts1 c5])]<|xI 2 [vS p1 y c1,vS p5 Parts1 c5] [hB r01 (cRd x1 p6 c6),hB b1 [vS p1 y c1,vS p5 Parts1 c5],hB b [vS p1 y c1,vS p5 Parts1 c5]] rfl rfl rfl rfl<|yN rfl<|zF<|yI<|zP ?_;obtain rfl:=zD hM;exact yP ⟨_,_,(.cell 2 rfl rfl (by kernel_rfl) ResV.nil),(zL [0] rfl (by decide)),⟨_,_,rfl,rfl,⟨_,rfl,(pO ⟨_,_,rfl,h1,h20⟩)⟩,(yU ⟨_,rfl,h11⟩)⟩⟩
 intro hc1 hM;refine yE<|zF<|zG ?_;obtain ⟨y8,hy5,hM⟩:=zC hM;obtain ⟨l1,hy6,hM⟩:=zC hM;refine vC [.x (fun imm' v hx=>∃ p11 c11,v=vS p11 y8 c11∧hx=[]∧(S4 imm' p11 y8 c11)),.p (vP b1 1) [],.p (vS p5 Parts1 c5) [1],.x (fun imm' v hx=>∃ p12 c12,v=vS p12 l1 c12∧hx=[]∧(S4 imm' p12 l1 c12)),.x (fun imm' v hx=>∃ p111 c111 p121 c121,v=vA [vS p111 y8 c111,vS p121 l1 c121]∧hx=[]∧(S4 imm' p111 y8 c111)∧(S4 imm' p121 l1 c121))] [[],[],[(1,false)],[(2,false)],[(0,false),(3,false)]] [hB r01 (cRd x1 p6 c6),hB b1 [vS p1 y c1,vS p5 Parts1 c5],hB b zTwo] [] [(4,false)] (zL [0,1,2] rfl (by decide)) ?_ ?_
 · refine Ox ?_<|Op<|Op<|Ox ?_<|Ox ?_<|On
   · intro imm1 hf le1;refine zM<|yG [] ?_;have hle:=iS imm1;refine yQ (mR  _ hy5 ) ?_;rintro imm09 hs2 v2 k2 le9 - ⟨v08,rfl,rfl,h22⟩ -;have hle:=hle.trans le9;obtain ⟨p11,c11,rfl⟩:=h22.form;exact zZ (hx:=[]) rfl hle rfl (zK rfl) ⟨_,_,rfl,rfl,h22⟩
   · intro imm1 hf le1;refine zE ?_;rintro _ _ ⟨rfl,rfl⟩;refine zM<|yG [(26,vS p5 Parts1 c5)] ?_;have hle:=iS imm1;have h20:=h20.mono le1;refine zIz rfl h20 hy6 ?_;intro v09 h23;obtain ⟨p12,c12,rfl⟩:=h23.form;exact zZ (hx:=[]) rfl hle rfl (zK rfl) ⟨_,_,rfl,rfl,h23⟩
   intro imm1 hf le1;refine zE ?_;rintro _ _ ⟨p11,c11,rfl,rfl,h22⟩;refine zE ?_;rintro _ _ ⟨p12,c12,rfl,rfl,h23⟩;refine zM<|yG [(24,vS p11 y8 c11),(27,vS p12 l1 c12)] ?_;have hle:=iS imm1;exact rW 5 [(28,vA [vS p11 y8 c11,vS p12 l1 c12])]<|zZ (hx:=[]) rfl hle rfl (zK rfl) ⟨_,_,_,_,rfl,rfl,h22,h23⟩
 intro imm010 le10;refine zE ?_;rintro _ _ ⟨p111,c111,p121,c121,rfl,rfl,h221,h231⟩;refine zM<|yG [(2,vP b 0),(28,vA [vS p111 y8 c111,vS p121 l1 c121])] ?_;have h11:=h11.mono le10;refine xI 2 [vS p111 y8 c111,vS p121 l1 c121] [hB r01 (cRd x1 p6 c6),hB b1 [vS p1 y c1,vS p5 Parts1 c5],hB b [vS p111 y8 c111,vS p121 l1 c121]] rfl rfl rfl rfl<|yN rfl<|zF<|yI ?_;obtain rfl:=zD hM;exact yP ⟨_,_,(.cell 2 rfl rfl (by kernel_rfl) ResV.nil),(zL [0] rfl (by decide)),⟨_,_,rfl,rfl,⟨_,rfl,(pO ⟨_,_,rfl,h221,h231⟩)⟩,(yU ⟨_,rfl,h11⟩)⟩⟩
def jU (r:zW):KT:=fun kk imm' hs' v=>
  ∃ v0,hs'=[]∧v=tupV [v0]∧(∃ cs,v0=.agg ⟨cs⟩∧Rp.rep imm' cs r)
def qA (code:(List UInt8)):Option (zW):=do
 let y←nL code
 let (y2,y3)←mG y
 let (y5,y6)←sX y3 y2
 pure (id y5)
theorem zE5:∀ (code:(List UInt8)) r,qA code=some r→∀ {imm:Imm}{p c},(S4 imm p code c)→Ret Tryz.prog 49 [vS p code c] imm [] (jU  r):=by
 intro code r hM imm p c h;unfold qA at hM;refine yH (fn:=Tryz.f49) (c:=(bodyOf Tryz.f49)) Tryz.func49 rfl rfl ?_;rintro B - -;refine zG<|zB<|uB zTwo ?_;intro b hb;refine yN rfl<|zF<|zG<|zB<|yK 1 [] [(4,vS p code c)] ?_;obtain ⟨y,hy,hM⟩:=zC hM;refine yQ (zDI code _ hy h) ?_;rintro imm0 hs2 v2 k2 le - ⟨b1,p1,c1,rfl,rfl,h1⟩ -;refine yA [] [(3,vP b1 0)]<|zF<|zG<|zB<|yK 2 [] [(6,vP b1 0),(7,vP b1 0)] ?_;obtain ⟨⟨y2,y3⟩,hy1,hM⟩:=zC hM;refine tV [hB b1 (cRd y p1 c1)] [hB b zTwo] (zEC y _ hy1 h1) ?_;rintro imm01 hs2 v2 k2 le1 - ⟨v0,kk,rfl,rfl,⟨cs,rfl,h2⟩,h3⟩ -;obtain ⟨v01,v02,rfl,h4,h5⟩:=gJ h2;obtain ⟨p2,c2,rfl⟩:=h4.form;obtain ⟨p3,c3,rfl⟩:=h5.form;obtain ⟨v03,rfl,h6⟩:=yJ h3;obtain ⟨p4,c4,rfl⟩:=h6.form;obtain ⟨⟨y5,y6⟩,hy2,hM⟩:=zC hM;refine tV [hB b1 (cRd y3 p4 c4)] [hB b zTwo] (zC9 y3 y2 _ hy2 h6 h4 h5) ?_;rintro imm02 hs2 v2 k2 le2 - ⟨v04,kk1,rfl,rfl,⟨cs1,rfl,h7⟩,h8⟩ -;obtain ⟨v05,v06,rfl,h9,h10⟩:=gJ h7;obtain ⟨p5,c5,rfl⟩:=h9.form;obtain ⟨p6,c6,rfl⟩:=h10.form;obtain ⟨v07,rfl,h11⟩:=yJ h8;obtain ⟨p7,c7,rfl⟩:=h11.form;refine xI 1 (cProg y5 p5 c5 p6 c6) [hB b1 (cRd y6 p7 c7),hB b (cProg y5 p5 c5 p6 c6)] rfl rfl rfl rfl<|yN rfl<|zF<|yI ?_;obtain rfl:=zD hM;exact yP ⟨_,_,(.cell 1 rfl rfl (by kernel_rfl) ResV.nil),zX,⟨_,rfl,rfl,⟨_,rfl,(pO ⟨_,_,rfl,h9,h10⟩)⟩⟩⟩
def zCv (r:Bool):KT:=fun kk imm' hs' v=>
  ∃ v0,hs'=[]∧v=tupV [v0]∧v0=.bool r
def xP (n0:Int) (low:Int) (high:Int):Option (Bool):=do
 let t6←(do
   if (decide (low ≤ n0)) then
    pure (decide (n0 ≤ high))
   else
    pure false
     : Option Bool)
 pure (id t6)
theorem xM:∀ (n0:Int) (low:Int) (high:Int) r,xP n0 low high=some r→∀ {imm:Imm} ,Ret Tryz.prog 77 [vI n0,vI low,vI high] imm [] (zCv  r):=by
 intro n0 low high r hM imm;unfold xP at hM;refine yH (fn:=Tryz.f77) (c:=(bodyOf Tryz.f77)) Tryz.func77 rfl rfl ?_;rintro B - -;have hle:=iS imm;refine zG<|zB<|yA [] []<|zF<|zG ?_;obtain ⟨o0,ho0,hMc⟩:=zC hM;refine yT (fun imm' hs' m'=>∃ (t6:Bool),o0=t6∧imm.le imm'∧hs'=[]∧m'=[(6,.bool t6)]) ?_ ?_
 · have hle:=iS imm;refine zB<|yK 4 [] [(10,.bool (decide (low ≤ n0)))] ?_;cases hc:(decide (low ≤ n0)) with
   | true =>
    have hM0:=zV hc ho0
    try rw [hc]
    exact yA [] [(6,.bool (decide (n0 ≤ high)))]<|yS [(6,.bool (decide (n0 ≤ high)))]<|yB ⟨_,(zD hM0).symm,hle,rfl,rfl⟩
   | false =>
    have hM01:=zT hc ho0
    try rw [hc]
    exact yA [] [(6,.bool false)]<|yS [(6,.bool false)]<|yB ⟨_,(zD hM01).symm,hle,rfl,rfl⟩
 rintro imm0 hs2 m2 ⟨t6,heq,le,rfl,rfl⟩;subst o0;refine zF<|yI ?_;obtain rfl:=zD hMc;exact yP ⟨_,_,(.tmp rfl ResV.nil),zX,⟨_,rfl,rfl,rfl⟩⟩
def tW (hsF:List HA) (r:Int):KT:=fun kk imm' hs' v=>
  ∃ v0,hsF=hs'∧v=tupV [v0]∧v0=.int .i64 r
def yX (s:(List zA)) (f0:(zA→Option Bool)) (t8:Int):Option (Out Unit (Int)):=do
 if (decide (t8 < (s.length:Int))) then
  let x←idx s t8
  let y←f0 x
  if y then
   pure (.ret t8)
  else
   yX s f0 (W (t8 + 1))
 else
  pure (.done ())
 partial_fixpoint
theorem oD (s:(List zA)) (f0:(zA→Option Bool)):∀ (t8:Int) (o:Out Unit (Int)),yX s f0 t8=some o→∀ {B}{imm0 imm:Imm}{Q p c}{fv:Value}{hsF:List HA},imm0.le imm→(S4 imm p s c)→(FV1 Tryz.prog imm hsF fv f0)→(∀ gl a w,¬Q (.goto gl) a w)→(∀ a w,¬Q .outgrown a w)→(∀ (imm':Imm) ,o=(.done ())→imm0.le imm'→T 19 B Q (.exit 0) imm' hsF [])→(∀ r imm' hs' m',o=(.ret r)→imm0.le imm'→RS Tryz.prog Tryz.f166 B (tW hsF r) imm' hs' m'→T 19 B Q .ret imm' hs' m')→J Tryz.prog 19 B (nav (bodyOf Tryz.f166) [1,0,1,0]) Q imm hsF [(0,vS p s c),(1,fv),(7,vI (s.length:Int)),(8,vI t8)]:=by
 refine yX.partial_correctness s f0 _ ?_;intro self ih t8 o hM B imm0 imm Q p c fv hsF hle h h1 hg ho hx hr;refine xA hg ho<|zG<|zB<|yA [] [(9,.bool (decide (t8 < (s.length:Int))))]<|zF<|zG<|yO hM ?_ ?_
 · intro hc hM;refine yE<|zF<|zG<|yC<|zG<|zB<|yA [] [(5,vI t8)]<|zF<|zG<|zB<|yK 3 [] [(11,fv),(12,vS p s c),(13,vI t8)] ?_;obtain ⟨x,hy,hM⟩:=zC hM;refine wD rfl rfl h hy ?_;intro ad ccs hat hrep;obtain ⟨v0,rfl,h2⟩:=yM hrep;obtain ⟨p1,c1,rfl⟩:=h2.form;refine xQ 0 hat (cAff x p1 c1) (vA (cAff x p1 c1)) rfl ?_;obtain ⟨y,hy1,hM⟩:=zC hM;refine zGl rfl rfl h1 hy1 ⟨_,rfl,(yR ⟨_,rfl,h2⟩)⟩ (List.append_nil _).symm ?_;rintro imm0 v01 le rfl;refine uP (hs':=hsF) (List.append_nil _) ?_;have h:=h.mono le;have h1:=h1.mono le;have hle:=hle.trans le;refine yN rfl<|zF<|yO hM ?_ ?_
   · intro hc1 hM;exact zG<|zB<|yA [] [(4,vI t8)]<|zF<|yI<|yF<|zP<|zP<|hr _ _ _ _ (zD hM).symm hle ⟨_,_,(.tmp rfl ResV.nil),(fun _ h=>h),⟨_,rfl,rfl,rfl⟩⟩
   intro hc1 hM;exact yE<|zY<|zF<|zB<|yA [] [(8,vI (W (t8 + 1)))]<|xB<|vG [(0,vS p s c),(1,fv),(7,vI (s.length:Int)),(8,vI (W (t8 + 1)))]<|ih (W (t8 + 1)) _ hM hle h h1 hg ho hx hr
 intro hc hM;exact yZ<|zS<|zS<|yS []<|hx _  (zD hM).symm hle
def wH (s:(List zA)) (f0:(zA→Option Bool)):Option (Int):=do
 match←yX s f0 0 with
 | .ret r0=>pure r0
 | .done _ =>
  pure (-1)
theorem oQ:∀ (s:(List zA)) (f0:(zA→Option Bool)) r,wH s f0=some r→∀ {imm:Imm}{p c}{fv:Value}{hsF:List HA},(S4 imm p s c)→(FV1 Tryz.prog imm hsF fv f0)→Ret Tryz.prog 166 [vS p s c,fv] imm hsF (tW hsF r):=by
 intro s f0 r hM imm p c fv hsF h h1;unfold wH at hM;refine yH (fn:=Tryz.f166) (c:=(bodyOf Tryz.f166)) Tryz.func166 rfl rfl ?_;rintro B - -;refine zG<|zB<|yA [] []<|zF<|zG<|zG<|zB<|yA [] [(7,vI (s.length:Int)),(8,vI 0)]<|zF<|yC<|vG [(0,vS p s c),(1,fv),(7,vI (s.length:Int)),(8,vI 0)] ?_;obtain ⟨o0,ho0,hMl⟩:=zC hM;refine oD s f0 0 o0 ho0 iR h h1 (fun _ _ _ h=>h) (fun _ _ h=>h) ?_ ?_
 · intro imm01  heq le1;subst o0;refine yD<|zF<|zG<|zB<|yA [] [(4,vI (-1))]<|zF<|yI ?_;obtain rfl:=zD hMl;exact yP ⟨_,_,(.tmp rfl ResV.nil),(fun _ h=>h),⟨_,rfl,rfl,rfl⟩⟩
 intro r0 imm9 hs9 m9 heq9 le9 hrs9;subst heq9;refine yF<|zP ?_;obtain rfl:=zD hMl;exact yP hrs9
def pD (hsF:List HA) (r:Bool):KT:=fun kk imm' hs' v=>
  ∃ v0,hsF=hs'∧v=tupV [v0]∧v0=.bool r
def xD (s:(List zA)) (f0:(zA→Option Bool)):Option (Bool):=do
 let y←wH s f0
 pure (decide (y ≥ 0))
theorem tU:∀ (s:(List zA)) (f0:(zA→Option Bool)) r,xD s f0=some r→∀ {imm:Imm}{p c}{fv:Value}{hsF:List HA},(S4 imm p s c)→(FV1 Tryz.prog imm hsF fv f0)→Ret Tryz.prog 118 [vS p s c,fv] imm hsF (pD hsF r):=by
 intro s f0 r hM imm p c fv hsF h h1;unfold xD at hM;refine yH (fn:=Tryz.f118) (c:=(bodyOf Tryz.f118)) Tryz.func118 rfl rfl ?_;rintro B - -;refine zG<|zB<|yA [] []<|zF<|zG<|zB<|yK 2 [] [(5,vS p s c),(6,fv)] ?_;obtain ⟨y,hy,hM⟩:=zC hM;refine zCY (hs1:=hsF) (rest:=[]) rfl rfl rfl rfl (by kernel_rfl) rfl (List.append_nil _).symm (oQ s f0 _ hy h h1) ?_;rintro imm0 hs2 v2 k2 le - ⟨v0,rfl,rfl,rfl⟩ -;refine uP (hs':=hsF) (List.append_nil _) ?_;refine yA [] [(4,.bool (decide (y ≥ 0)))]<|zF<|yI ?_;obtain rfl:=zD hM;exact yP ⟨_,_,(.tmp rfl ResV.nil),(fun _ h=>h),⟨_,rfl,rfl,rfl⟩⟩
def oS (hsF:List HA) (r:Int):KT:=fun kk imm' hs' v=>
  ∃ v0,hsF=hs'∧v=tupV [v0]∧v0=.int .i64 r
def xU (s:(List Int)) (f0:(Int→Option Bool)) (t8:Int):Option (Out Unit (Int)):=do
 if (decide (t8 < (s.length:Int))) then
  let x←idx s t8
  let y←f0 x
  if y then
   pure (.ret t8)
  else
   xU s f0 (W (t8 + 1))
 else
  pure (.done ())
 partial_fixpoint
theorem kJ (s:(List Int)) (f0:(Int→Option Bool)):∀ (t8:Int) (o:Out Unit (Int)),xU s f0 t8=some o→∀ {B}{imm0 imm:Imm}{Q p c}{fv:Value}{hsF:List HA},imm0.le imm→(S4 imm p s c)→(FV1 Tryz.prog imm hsF fv f0)→(∀ gl a w,¬Q (.goto gl) a w)→(∀ a w,¬Q .outgrown a w)→(∀ (imm':Imm) ,o=(.done ())→imm0.le imm'→T 19 B Q (.exit 0) imm' hsF [])→(∀ r imm' hs' m',o=(.ret r)→imm0.le imm'→RS Tryz.prog Tryz.f137 B (oS hsF r) imm' hs' m'→T 19 B Q .ret imm' hs' m')→J Tryz.prog 19 B (nav (bodyOf Tryz.f137) [1,0,1,0]) Q imm hsF [(0,vS p s c),(1,fv),(7,vI (s.length:Int)),(8,vI t8)]:=by
 refine xU.partial_correctness s f0 _ ?_;intro self ih t8 o hM B imm0 imm Q p c fv hsF hle h h1 hg ho hx hr;refine xA hg ho<|zG<|zB<|yA [] [(9,.bool (decide (t8 < (s.length:Int))))]<|zF<|zG<|yO hM ?_ ?_
 · intro hc hM;refine yE<|zF<|zG<|yC<|zG<|zB<|yA [] [(5,vI t8)]<|zF<|zG<|zB<|yK 3 [] [(11,fv),(12,vS p s c),(13,vI t8)] ?_;obtain ⟨x,hy,hM⟩:=zC hM;refine wD rfl rfl h hy ?_;intro ad ccs hat hrep;obtain rfl:=hrep;refine xQ 0 hat [vI x] (vI x) rfl ?_;obtain ⟨y,hy1,hM⟩:=zC hM;refine zGl rfl rfl h1 hy1 rfl (List.append_nil _).symm ?_;rintro imm0 v0 le rfl;refine uP (hs':=hsF) (List.append_nil _) ?_;have h:=h.mono le;have h1:=h1.mono le;have hle:=hle.trans le;refine yN rfl<|zF<|yO hM ?_ ?_
   · intro hc1 hM;exact zG<|zB<|yA [] [(4,vI t8)]<|zF<|yI<|yF<|zP<|zP<|hr _ _ _ _ (zD hM).symm hle ⟨_,_,(.tmp rfl ResV.nil),(fun _ h=>h),⟨_,rfl,rfl,rfl⟩⟩
   intro hc1 hM;exact yE<|zY<|zF<|zB<|yA [] [(8,vI (W (t8 + 1)))]<|xB<|vG [(0,vS p s c),(1,fv),(7,vI (s.length:Int)),(8,vI (W (t8 + 1)))]<|ih (W (t8 + 1)) _ hM hle h h1 hg ho hx hr
 intro hc hM;exact yZ<|zS<|zS<|yS []<|hx _  (zD hM).symm hle
def sT (s:(List Int)) (f0:(Int→Option Bool)):Option (Int):=do
 match←xU s f0 0 with
 | .ret r0=>pure r0
 | .done _ =>
  pure (-1)
theorem jH:∀ (s:(List Int)) (f0:(Int→Option Bool)) r,sT s f0=some r→∀ {imm:Imm}{p c}{fv:Value}{hsF:List HA},(S4 imm p s c)→(FV1 Tryz.prog imm hsF fv f0)→Ret Tryz.prog 137 [vS p s c,fv] imm hsF (oS hsF r):=by
 intro s f0 r hM imm p c fv hsF h h1;unfold sT at hM;refine yH (fn:=Tryz.f137) (c:=(bodyOf Tryz.f137)) Tryz.func137 rfl rfl ?_;rintro B - -;refine zG<|zB<|yA [] []<|zF<|zG<|zG<|zB<|yA [] [(7,vI (s.length:Int)),(8,vI 0)]<|zF<|yC<|vG [(0,vS p s c),(1,fv),(7,vI (s.length:Int)),(8,vI 0)] ?_;obtain ⟨o0,ho0,hMl⟩:=zC hM;refine kJ s f0 0 o0 ho0 iR h h1 (fun _ _ _ h=>h) (fun _ _ h=>h) ?_ ?_
 · intro imm01  heq le1;subst o0;refine yD<|zF<|zG<|zB<|yA [] [(4,vI (-1))]<|zF<|yI ?_;obtain rfl:=zD hMl;exact yP ⟨_,_,(.tmp rfl ResV.nil),(fun _ h=>h),⟨_,rfl,rfl,rfl⟩⟩
 intro r0 imm9 hs9 m9 heq9 le9 hrs9;subst heq9;refine yF<|zP ?_;obtain rfl:=zD hMl;exact yP hrs9
def mU (hsF:List HA) (r:Bool):KT:=fun kk imm' hs' v=>
  ∃ v0,hsF=hs'∧v=tupV [v0]∧v0=.bool r
def xG (s:(List Int)) (f0:(Int→Option Bool)):Option (Bool):=do
 let y←sT s f0
 pure (decide (y ≥ 0))
theorem tH:∀ (s:(List Int)) (f0:(Int→Option Bool)) r,xG s f0=some r→∀ {imm:Imm}{p c}{fv:Value}{hsF:List HA},(S4 imm p s c)→(FV1 Tryz.prog imm hsF fv f0)→Ret Tryz.prog 75 [vS p s c,fv] imm hsF (mU hsF r):=by
 intro s f0 r hM imm p c fv hsF h h1;unfold xG at hM;refine yH (fn:=Tryz.f75) (c:=(bodyOf Tryz.f75)) Tryz.func75 rfl rfl ?_;rintro B - -;refine zG<|zB<|yA [] []<|zF<|zG<|zB<|yK 2 [] [(5,vS p s c),(6,fv)] ?_;obtain ⟨y,hy,hM⟩:=zC hM;refine zCY (hs1:=hsF) (rest:=[]) rfl rfl rfl rfl (by kernel_rfl) rfl (List.append_nil _).symm (jH s f0 _ hy h h1) ?_;rintro imm0 hs2 v2 k2 le - ⟨v0,rfl,rfl,rfl⟩ -;refine uP (hs':=hsF) (List.append_nil _) ?_;refine yA [] [(4,.bool (decide (y ≥ 0)))]<|zF<|yI ?_;obtain rfl:=zD hM;exact yP ⟨_,_,(.tmp rfl ResV.nil),(fun _ h=>h),⟨_,rfl,rfl,rfl⟩⟩
def zCL (r:Bool):KT:=fun kk imm' hs' v=>
  ∃ v0,hs'=[]∧v=tupV [v0]∧v0=.bool r
def mV (n0:Int):Option (Bool):=do
 let y←xP n0 (-99) 99
 pure (id y)
theorem zDX:∀ (n0:Int) r,mV n0=some r→∀ {imm:Imm} ,Ret Tryz.prog 134 [vI n0] imm [] (zCL  r):=by
 intro n0 r hM imm;unfold mV at hM;refine yH (fn:=Tryz.f134) (c:=(bodyOf Tryz.f134)) Tryz.func134 rfl rfl ?_;rintro B - -;refine zG<|zB<|yA [] []<|zF<|zG<|zB<|yK 1 [] [(3,vI n0)] ?_;obtain ⟨y,hy,hM⟩:=zC hM;refine yQ (xM n0 (-99) 99 _ hy ) ?_;rintro imm0 hs2 v2 k2 le - ⟨v0,rfl,rfl,rfl⟩ -;refine yA [] [(2,.bool y)]<|zF<|yI ?_;obtain rfl:=zD hM;exact yP ⟨_,_,(.tmp rfl ResV.nil),zX,⟨_,rfl,rfl,rfl⟩⟩
def fV (r:Bool):KT:=fun kk imm' hs' v=>
  ∃ v0,hs'=[]∧v=tupV [v0]∧v0=.bool r
def uW (c:Int):Option (Bool):=do
 let y←xP c (-9) 9
 pure (!y)
theorem dM:∀ (c:Int) r,uW c=some r→∀ {imm:Imm} ,Ret Tryz.prog 135 [vI c] imm [] (fV  r):=by
 intro c r hM imm;unfold uW at hM;refine yH (fn:=Tryz.f135) (c:=(bodyOf Tryz.f135)) Tryz.func135 rfl rfl ?_;rintro B - -;refine zG<|zB<|yA [] []<|zF<|zG<|zB<|yK 1 [] [(3,vI c)] ?_;obtain ⟨y,hy,hM⟩:=zC hM;refine yQ (xM c (-9) 9 _ hy ) ?_;rintro imm0 hs2 v2 k2 le - ⟨v0,rfl,rfl,rfl⟩ -;refine yA [] [(2,.bool (!y))]<|zF<|yI ?_;obtain rfl:=zD hM;exact yP ⟨_,_,(.tmp rfl ResV.nil),zX,⟨_,rfl,rfl,rfl⟩⟩
def dN (r:Bool):KT:=fun kk imm' hs' v=>
  ∃ v0,hs'=[]∧v=tupV [v0]∧v0=.bool r
def sA (a0:zA):Option (Bool):=do
 let t2←(do
   if ((a0.Coefs.length:Int) == 4) then
    let y←mV a0.Const
    if y then
     let y1←xG a0.Coefs uW
     pure (!y1)
    else
     pure false
   else
    pure false
     : Option Bool)
 pure (id t2)
theorem qI:∀ (a0:zA) r,sA a0=some r→∀ {imm:Imm}{p c},(S4 imm p a0.Coefs c)→Ret Tryz.prog 70 [vA (cAff a0 p c)] imm [] (dN  r):=by
 intro a0 r hM imm p c h;unfold sA at hM;refine yH (fn:=Tryz.f70) (c:=(bodyOf Tryz.f70)) Tryz.func70 rfl rfl ?_;rintro B - -;have hle:=iS imm;refine zG<|zB<|tA (cAff a0 p c) ?_;intro b hb;refine yA [] []<|zF<|zG ?_;obtain ⟨o0,ho0,hMc⟩:=zC hM;refine yT (fun imm' hs' m'=>∃ (t2:Bool),o0=t2∧imm.le imm'∧hs'=[]∧m'=[(2,.bool t2)]) ?_ ?_
 · have hle:=iS imm;refine zB<|yK 5 [0] [(7,.bool ((a0.Coefs.length:Int) == 4))] ?_;cases hc:((a0.Coefs.length:Int) == 4) with
   | true =>
    have hM0:=zV hc ho0
    try rw [hc]
    refine yK 7 [0] [(9,vI a0.Const)] ?_;obtain ⟨y,hy,hM⟩:=zC hM0;refine yQ (zDX a0.Const _ hy ) ?_;rintro imm01 hs2 v2 k2 le - ⟨v0,rfl,rfl,rfl⟩ -;have h:=h.mono le;have hle:=hle.trans le;refine yK 10 [] [(12,.bool y)] ?_;cases hc1:y with
    | true =>
     have hM01:=zV hc1 hM
     try rw [hc1]
     refine yK 12 [0] [(14,vS p a0.Coefs c)] ?_;have hf0:FV1 Tryz.prog imm01 [] (.func (.func 135) ⟨[]⟩ ⟨[]⟩) uW:=by
       refine FV1.intro ?_;intro imm1 le1 x0 r u0 hF k0;obtain rfl:=k0;exact (dM x0 r hF ).mono (by rintro k i hs u ⟨v0,rfl,rfl,h⟩; exact ⟨rfl,h⟩)
     obtain ⟨y1,hy1,hM⟩:=zC hM01;refine yQ (tH a0.Coefs uW _ hy1 h hf0) ?_;rintro imm02 hs2 v2 k2 le1 - ⟨v01,rfl,rfl,rfl⟩ -;have hle:=hle.trans le1;exact yA [] [(2,.bool (!y1))]<|wB (zL [] rfl (by decide))<|yS [(2,.bool (!y1))]<|yB ⟨_,(zD hM).symm,hle,rfl,rfl⟩
    | false =>
     have hM02:=zT hc1 hM
     try rw [hc1]
     exact yA [] [(2,.bool false)]<|wB (zL [] rfl (by decide))<|yS [(2,.bool false)]<|yB ⟨_,(zD hM02).symm,hle,rfl,rfl⟩
   | false =>
    have hM03:=zT hc ho0
    try rw [hc]
    exact yA [] [(2,.bool false)]<|wB (zL [] rfl (by decide))<|yS [(2,.bool false)]<|yB ⟨_,(zD hM03).symm,hle,rfl,rfl⟩
 rintro imm0 hs2 m2 ⟨t2,heq,le2,rfl,rfl⟩;subst o0;refine zF<|yI ?_;obtain rfl:=zD hMc;exact yP ⟨_,_,(.tmp rfl ResV.nil),zX,⟨_,rfl,rfl,rfl⟩⟩
def eU (r:Int):KT:=fun kk imm' hs' v=>
  ∃ v0,hs'=[]∧v=tupV [v0]∧v0=.int .i64 r
def uE (a0:zA) (n0:Int):Option (Int):=do
 let t17←(do
   if (decide (n0 > 0)) then
    let x←idx a0.Coefs (W (n0 - 1))
    pure (x == 0)
   else
    pure false
     : Option Bool)
 if t17 then
  uE a0 (W (n0 - 1))
 else
  pure (id n0)
 partial_fixpoint
theorem fW (a0:zA):∀ (n0:Int) (o:Int),uE a0 n0=some o→∀ {B}{imm0 imm:Imm}{Q p c}{b:Nat},imm0.le imm→(S4 imm p a0.Coefs c)→(∀ gl a w,¬Q (.goto gl) a w)→(∀ a w,¬Q .outgrown a w)→(∀ (imm':Imm) (n01:Int),o=n01→imm0.le imm'→T 21 B Q (.exit 0) imm' [] [(3,vI n01)])→J Tryz.prog 21 B (nav (bodyOf Tryz.f120) [1,1,0,0]) Q imm [hB b (cAff a0 p c)] [(1,vP b 0),(3,vI n0)]:=by
 refine uE.partial_correctness a0 _ ?_;intro self ih n0 o hM B imm0 imm Q p c b hle h hg ho hx;refine xA hg ho<|zG<|zG ?_;obtain ⟨o0,ho0,hMc⟩:=zC hM;refine yT (fun imm' hs' m'=>∃ (t17:Bool),o0=t17∧imm.le imm'∧hs'=[hB b (cAff a0 p c)]∧m'=[(1,vP b 0),(3,vI n0),(17,.bool t17)]) ?_ ?_
 · have hle:=iS imm;refine zB<|yK 3 [] [(9,.bool (decide (n0 > 0)))] ?_;cases hc:(decide (n0 > 0)) with
   | true =>
    have hM0:=zV hc ho0
    try rw [hc]
    refine yK 7 [0] [(11,vS p a0.Coefs c),(13,vI (W (n0 - 1)))] ?_;obtain ⟨x,hy,hM⟩:=zC hM0;refine wD rfl rfl h hy ?_;intro ad ccs hat hrep;obtain rfl:=hrep;exact xQ 0 hat [vI x] (vI x) rfl<|yA [] [(17,.bool (x == 0))]<|yS [(1,vP b 0),(3,vI n0),(17,.bool (x == 0))]<|yB ⟨_,(zD hM).symm,hle,rfl,rfl⟩
   | false =>
    have hM01:=zT hc ho0
    try rw [hc]
    exact yA [] [(17,.bool false)]<|yS [(1,vP b 0),(3,vI n0),(17,.bool false)]<|yB ⟨_,(zD hM01).symm,hle,rfl,rfl⟩
 rintro imm0 hs2 m2 ⟨t17,heq,le,rfl,rfl⟩;subst o0;have h:=h.mono le;have hle:=hle.trans le;refine zF<|yO hMc ?_ ?_
 · intro hc1 hM;exact yE<|zF<|yC<|zB<|yA [] [(3,vI (W (n0 - 1)))]<|zY<|xB<|vG [(1,vP b 0),(3,vI (W (n0 - 1)))]<|ih (W (n0 - 1)) _ hM hle h hg ho hx
 intro hc1 hM;exact yZ<|zS<|zS<|wB (zL [] rfl (by decide))<|yS [(3,vI n0)]<|hx _ _ (zD hM).symm hle
def tM (a0:zA):Option (Int):=do
 let n01←uE a0 (a0.Coefs.length:Int)
 pure (id n01)
theorem nS:∀ (a0:zA) r,tM a0=some r→∀ {imm:Imm}{p c},(S4 imm p a0.Coefs c)→Ret Tryz.prog 120 [vA (cAff a0 p c)] imm [] (eU  r):=by
 intro a0 r hM imm p c h;unfold tM at hM;refine yH (fn:=Tryz.f120) (c:=(bodyOf Tryz.f120)) Tryz.func120 rfl rfl ?_;rintro B - -;refine zG<|zB<|tA (cAff a0 p c) ?_;intro b hb;refine yA [] []<|zF<|zG<|zB<|yA [0] [(3,vI (a0.Coefs.length:Int))]<|zF<|zG<|yC<|vG [(1,vP b 0),(3,vI (a0.Coefs.length:Int))] ?_;obtain ⟨o01,ho01,hMl⟩:=zC hM;refine fW a0 (a0.Coefs.length:Int) o01 ho01 iR h (fun _ _ _ h=>h) (fun _ _ h=>h) ?_;intro imm01 n01 heq1 le1;subst o01;refine yD<|zF<|zG<|zB<|yA [] [(2,vI n01)]<|zF<|yI ?_;obtain rfl:=zD hMl;exact yP ⟨_,_,(.tmp rfl ResV.nil),zX,⟨_,rfl,rfl,rfl⟩⟩
def zAO (r:Bool):KT:=fun kk imm' hs' v=>
  ∃ v0,hs'=[]∧v=tupV [v0]∧v0=.bool r
def tQ (a0:zA) (x:Int):Option (Bool):=do
 let t3←(do
   let y←sA a0
   if (!y) then
    pure true
   else
    let y1←tM a0
    pure (decide (y1 > x))
     : Option Bool)
 pure (id t3)
theorem zBR:∀ (a0:zA) (x:Int) r,tQ a0 x=some r→∀ {imm:Imm}{p c}{ad:Addr},(S4 imm p a0.Coefs c)→(At imm ad [vI x])→Ret Tryz.prog 164 [vA (cAff a0 p c),.pointer (some ad)] imm [] (zAO  r):=by
 intro a0 x r hM imm p c ad h hat;unfold tQ at hM;refine yH (fn:=Tryz.f164) (c:=(bodyOf Tryz.f164)) Tryz.func164 rfl rfl ?_;rintro B - -;have hle:=iS imm;refine zG<|zB<|tA (cAff a0 p c) ?_;intro b hb;refine yA [] []<|zF<|zG ?_;obtain ⟨o0,ho0,hMc⟩:=zC hM;refine yT (fun imm' hs' m'=>∃ (t3:Bool),o0=t3∧imm.le imm'∧hs'=[]∧m'=[(3,.bool t3)]) ?_ ?_
 · have hle:=iS imm;obtain ⟨y,hy,hM⟩:=zC ho0;cases hc:(!y) with
   | true =>
    have hM0:=zV hc hM;refine vC [.p (vA (cAff a0 p c)) [0],.q (.bool y),.q (.bool true),.q (.bool true),.p undef [],.p undef [],.p undef [],.p undef [],.p (.bool true) []] [[],[(0,false)],[(1,false)],[(2,false)],[(3,false)],[(3,false),(4,false)],[(3,false)],[(3,false),(5,false),(6,false)],[(3,false),(7,false)]] [hB b (cAff a0 p c)] [] [(8,false)] (zL [0] rfl (by decide)) ?_ ?_
    · refine Op<|Oq ?_<|Oq ?_<|Oq ?_<|Op<|Op<|Op<|Op<|Op<|On
      · intro imm1 hf le1;refine zE ?_;rintro _ _ ⟨rfl,rfl⟩;refine zM<|yG [(4,vA (cAff a0 p c))] ?_;have hle:=iS imm1;have h:=h.mono le1;refine yQ (qI a0 _ hy h) ?_;rintro imm01 hs2 v2 k2 le - ⟨v0,rfl,rfl,rfl⟩ -;have hle:=hle.trans le;exact zZ (hx:=[]) rfl hle rfl (zK rfl) ⟨rfl,rfl⟩
      · intro imm1 hf le1;refine zE ?_;rintro _ _ ⟨rfl,rfl⟩;refine zM<|yG [(5,.bool y)] ?_;have hle:=iS imm1;refine rW 3 [(6,.bool (!y))] ?_;rw [hc];exact zZ (hx:=[]) rfl hle rfl (zK rfl) ⟨rfl,rfl⟩
      intro imm1 hf le1;refine zE ?_;rintro _ _ ⟨rfl,rfl⟩;refine zM<|yG [(6,.bool true)] ?_;have hle:=iS imm1;exact rW 4 [(7,.bool true)]<|zZ (hx:=[]) rfl hle rfl (zK rfl) ⟨rfl,rfl⟩
    intro imm02 le1;refine zE ?_;rintro _ _ ⟨rfl,rfl⟩;refine zM<|yG [(12,.bool true)] ?_;have hle:=hle.trans le1;exact yA [] [(3,.bool true)]<|wB (zL [] rfl (by decide))<|yS [(3,.bool true)]<|yB ⟨_,(zD hM0).symm,hle,rfl,rfl⟩
   | false =>
    have hM01:=zT hc hM;obtain ⟨y1,hy1,hM⟩:=zC hM01;refine vC [.p (vA (cAff a0 p c)) [0],.q (.bool y),.q (.bool false),.q (.bool false),.p (vA (cAff a0 p c)) [0],.q (vI y1),.q (vI x),.p (.bool (decide (y1 > x))) [],.p (.bool (decide (y1 > x))) []] [[],[(0,false)],[(1,false)],[(2,false)],[(3,false)],[(3,false),(4,false)],[(3,false)],[(3,false),(5,false),(6,false)],[(3,false),(7,false)]] [hB b (cAff a0 p c)] [] [(8,false)] (zL [0] rfl (by decide)) ?_ ?_
    · refine Op<|Oq ?_<|Oq ?_<|Oq ?_<|Op<|Oq ?_<|Oq ?_<|Op<|Op<|On
      · intro imm1 hf le1;refine zE ?_;rintro _ _ ⟨rfl,rfl⟩;refine zM<|yG [(4,vA (cAff a0 p c))] ?_;have hle:=iS imm1;have h:=h.mono le1;refine yQ (qI a0 _ hy h) ?_;rintro imm01 hs2 v2 k2 le - ⟨v0,rfl,rfl,rfl⟩ -;have hle:=hle.trans le;exact zZ (hx:=[]) rfl hle rfl (zK rfl) ⟨rfl,rfl⟩
      · intro imm1 hf le1;refine zE ?_;rintro _ _ ⟨rfl,rfl⟩;refine zM<|yG [(5,.bool y)] ?_;have hle:=iS imm1;refine rW 3 [(6,.bool (!y))] ?_;rw [hc];exact zZ (hx:=[]) rfl hle rfl (zK rfl) ⟨rfl,rfl⟩
      · intro imm1 hf le1;refine zE ?_;rintro _ _ ⟨rfl,rfl⟩;refine zM<|yG [(6,.bool false)] ?_;have hle:=iS imm1;exact rW 4 [(7,.bool false)]<|zZ (hx:=[]) rfl hle rfl (zK rfl) ⟨rfl,rfl⟩
      · intro imm1 hf le1;refine zE ?_;rintro _ _ ⟨rfl,rfl⟩;refine zE ?_;rintro _ _ ⟨rfl,rfl⟩;refine zM<|yG [(7,.bool false),(8,vA (cAff a0 p c))] ?_;have hle:=iS imm1;have h:=h.mono le1;refine yQ (nS a0 _ hy1 h) ?_;rintro imm03 hs2 v2 k2 le2 - ⟨v01,rfl,rfl,rfl⟩ -;have hle:=hle.trans le2;exact zZ (hx:=[]) rfl hle rfl (zK rfl) ⟨rfl,rfl⟩
      intro imm1 hf le1;refine zE ?_;rintro _ _ ⟨rfl,rfl⟩;refine zM<|yG [(1,.pointer (some ad)),(7,.bool false)] ?_;have hle:=iS imm1;have hat:=hat.mono le1;exact xQ 0 hat [vI x] (vI x) rfl<|zZ (hx:=[]) rfl hle rfl (zK rfl) ⟨rfl,rfl⟩
    intro imm04 le3;refine zE ?_;rintro _ _ ⟨rfl,rfl⟩;refine zM<|yG [(12,.bool (decide (y1 > x)))] ?_;have hle:=hle.trans le3;exact yA [] [(3,.bool (decide (y1 > x)))]<|wB (zL [] rfl (by decide))<|yS [(3,.bool (decide (y1 > x)))]<|yB ⟨_,(zD hM).symm,hle,rfl,rfl⟩
 rintro imm0 hs2 m2 ⟨t3,heq,le4,rfl,rfl⟩;subst o0;refine zF<|yI ?_;obtain rfl:=zD hMc;exact yP ⟨_,_,(.tmp rfl ResV.nil),zX,⟨_,rfl,rfl,rfl⟩⟩
def zBS (r:Bool):KT:=fun kk imm' hs' v=>
  ∃ v0,hs'=[]∧v=tupV [v0]∧v0=.bool r
def pI (list:(List zA)) (depth:Int):Option (Bool):=do
 let t4←(do
   let y←xP (list.length:Int) 1 2
   if y then
    let y1←xD list (fun x0=>tQ x0 depth)
    pure (!y1)
   else
    pure false
     : Option Bool)
 pure (id t4)
theorem fX:∀ (list:(List zA)) (depth:Int) r,pI list depth=some r→∀ {imm:Imm}{p c},(S4 imm p list c)→Ret Tryz.prog 114 [vS p list c,vI depth] imm [] (zBS  r):=by
 intro list depth r hM imm p c h;unfold pI at hM;refine yH (fn:=Tryz.f114) (c:=(bodyOf Tryz.f114)) Tryz.func114 rfl rfl ?_;rintro B - -;have hle:=iS imm;refine zG<|zB<|tA [vI depth] ?_;intro b hb;refine yL 0 rfl ?_;intro imm0 le hl0;have hat:At imm0 ⟨b,0,none⟩ [vI depth]:=At.of_blk hl0;have h:=h.mono le;have hle:=hle.trans le;refine yA [] []<|zF<|zG ?_;obtain ⟨o0,ho0,hMc⟩:=zC hM;refine yT (fun imm' hs' m'=>∃ (t4:Bool),o0=t4∧imm0.le imm'∧hs'=[]∧m'=[(4,.bool t4)]) ?_ ?_
 · have hle:=iS imm0;refine zB<|yK 2 [] [(6,vI (list.length:Int))] ?_;obtain ⟨y,hy,hM⟩:=zC ho0;refine yQ (xM (list.length:Int) 1 2 _ hy ) ?_;rintro imm02 hs2 v2 k2 le1 - ⟨v0,rfl,rfl,rfl⟩ -;have h:=h.mono le1;have hat:=hat.mono le1;have hle:=hle.trans le1;refine yK 4 [] [(8,.bool y)] ?_;cases hc:y with
   | true =>
    have hM0:=zV hc hM
    try rw [hc]
    refine yK 6 [] [(9,vS p list c),(10,.func (.func 164) ⟨[]⟩ ⟨[vP b 0]⟩)] ?_;have hf0:FV1 Tryz.prog imm02 [] (.func (.func 164) ⟨[]⟩ ⟨[vP b 0]⟩) (fun x0=>tQ x0 depth):=by
      refine FV1.intro ?_;intro imm1 le1 x0 r u0 hF k0;obtain ⟨_,rfl,k0⟩:=k0;obtain ⟨v01,rfl,h2⟩:=yM k0;obtain ⟨p1,c1,rfl⟩:=h2.form;exact (zBR x0 depth r hF h2 (hat.mono le1)).mono (by rintro k i hs u ⟨v0,rfl,rfl,h⟩; exact ⟨rfl,h⟩)
    obtain ⟨y1,hy1,hM⟩:=zC hM0;refine yQ (tU list (fun x0=>tQ x0 depth) _ hy1 h hf0) ?_;rintro imm03 hs2 v2 k2 le2 - ⟨v02,rfl,rfl,rfl⟩ -;have hle:=hle.trans le2;exact yA [] [(4,.bool (!y1))]<|yS [(4,.bool (!y1))]<|yB ⟨_,(zD hM).symm,hle,rfl,rfl⟩
   | false =>
    have hM01:=zT hc hM
    try rw [hc]
    exact yA [] [(4,.bool false)]<|yS [(4,.bool false)]<|yB ⟨_,(zD hM01).symm,hle,rfl,rfl⟩
 rintro imm01 hs2 m2 ⟨t4,heq,le3,rfl,rfl⟩;subst o0;refine zF<|yI ?_;obtain rfl:=zD hMc;exact yP ⟨_,_,(.tmp rfl ResV.nil),zX,⟨_,rfl,rfl,rfl⟩⟩
def jF (r:Bool):KT:=fun kk imm' hs' v=>
  ∃ v0,hs'=[]∧v=tupV [v0]∧v0=.bool r
def tN (nest:(List zI)) (t7:Int):Option (Out Unit (Bool)):=do
 if (decide (t7 < (nest.length:Int))) then
  let x←idx nest t7
  let t23←(do
    let y←pI x.Lo t7
    if (!y) then
     pure true
    else
     let y1←pI x.Hi t7
     pure (!y1)
      : Option Bool)
  if t23 then
   pure (.ret false)
  else
   tN nest (W (t7 + 1))
 else
  pure (.done ())
 partial_fixpoint
theorem zAP (nest:(List zI)):∀ (t7:Int) (o:Out Unit (Bool)),tN nest t7=some o→∀ {B}{imm0 imm:Imm}{Q p c},imm0.le imm→(S4 imm p nest c)→(∀ gl a w,¬Q (.goto gl) a w)→(∀ a w,¬Q .outgrown a w)→(∀ (imm':Imm) ,o=(.done ())→imm0.le imm'→T 28 B Q (.exit 0) imm' [] [(0,vS p nest c)])→(∀ r imm' hs' m',o=(.ret r)→imm0.le imm'→RS Tryz.prog Tryz.f53 B (jF  r) imm' hs' m'→T 28 B Q .ret imm' hs' m')→J Tryz.prog 28 B (nav (bodyOf Tryz.f53) [1,0,1,0]) Q imm [] [(0,vS p nest c),(5,vS p nest c),(6,vI (nest.length:Int)),(7,vI t7)]:=by
 refine tN.partial_correctness nest _ ?_;intro self ih t7 o hM B imm0 imm Q p c hle h hg ho hx hr;refine xA hg ho<|zG<|zB<|yA [] [(8,.bool (decide (t7 < (nest.length:Int))))]<|zF<|zG<|yO hM ?_ ?_
 · intro hc hM;refine yE<|zF<|zG<|yC<|zG<|zB<|yK 1 [] [(9,vI t7)] ?_;obtain ⟨x,hy,hM⟩:=zC hM;refine wD rfl rfl h hy ?_;intro ad ccs hat hrep;obtain ⟨v0,v01,rfl,h1,h2⟩:=vH hrep;obtain ⟨p1,c1,rfl⟩:=h1.form;obtain ⟨p2,c2,rfl⟩:=h2.form;refine xQ 0 hat (cLoop x p1 c1 p2 c2) (vA (cLoop x p1 c1 p2 c2)) rfl<|uB zTwo ?_;intro b hb;refine yK 5 [] [(3,vI t7)]<|xI 0 (cLoop x p1 c1 p2 c2) [hB b (cLoop x p1 c1 p2 c2)] rfl rfl rfl rfl<|yN rfl<|zF<|zG ?_;obtain ⟨o0,ho0,hMc⟩:=zC hM;refine yT (fun imm' hs' m'=>∃ (t23:Bool),o0=t23∧imm.le imm'∧hs'=[]∧m'=[(0,vS p nest c),(5,vS p nest c),(6,vI (nest.length:Int)),(7,vI t7),(23,.bool t23)]) ?_ ?_
   · have hle:=iS imm;refine zB<|yK 3 [0] [(13,vS p1 x.Lo c1),(14,vI t7)] ?_;obtain ⟨y,hy1,hM⟩:=zC ho0;refine yQ (fX x.Lo t7 _ hy1 h1) ?_;rintro imm01 hs2 v2 k2 le - ⟨v02,rfl,rfl,rfl⟩ -;have h2:=h2.mono le;have hle:=hle.trans le;refine yK 6 [] [(17,.bool (!y))] ?_;cases hc1:(!y) with
     | true =>
      have hM0:=zV hc1 hM
      try rw [hc1]
      exact yA [] [(23,.bool true)]<|wB (zL [] rfl (by decide))<|yS [(0,vS p nest c),(5,vS p nest c),(6,vI (nest.length:Int)),(7,vI t7),(23,.bool true)]<|yB ⟨_,(zD hM0).symm,hle,rfl,rfl⟩
     | false =>
      have hM01:=zT hc1 hM
      try rw [hc1]
      refine yK 9 [0] [(19,vS p2 x.Hi c2),(20,vI t7)] ?_;obtain ⟨y1,hy2,hM⟩:=zC hM01;refine yQ (fX x.Hi t7 _ hy2 h2) ?_;rintro imm02 hs2 v2 k2 le1 - ⟨v03,rfl,rfl,rfl⟩ -;have hle:=hle.trans le1;exact yA [] [(23,.bool (!y1))]<|wB (zL [] rfl (by decide))<|yS [(0,vS p nest c),(5,vS p nest c),(6,vI (nest.length:Int)),(7,vI t7),(23,.bool (!y1))]<|yB ⟨_,(zD hM).symm,hle,rfl,rfl⟩
   rintro imm0 hs2 m2 ⟨t23,heq,le2,rfl,rfl⟩;subst o0;have h:=h.mono le2;have hle:=hle.trans le2;refine zF<|yO hMc ?_ ?_
   · intro hc2 hM;exact zG<|zB<|yA [] [(2,.bool false)]<|zF<|yI<|yF<|zP<|zP<|hr _ _ _ _ (zD hM).symm hle ⟨_,_,(.tmp rfl ResV.nil),zX,⟨_,rfl,rfl,rfl⟩⟩
   intro hc2 hM;exact yE<|zY<|zF<|zB<|yA [] [(7,vI (W (t7 + 1)))]<|xB<|vG [(0,vS p nest c),(5,vS p nest c),(6,vI (nest.length:Int)),(7,vI (W (t7 + 1)))]<|ih (W (t7 + 1)) _ hM hle h hg ho hx hr
 intro hc hM;exact yZ<|zS<|zS<|yS [(0,vS p nest c)]<|hx _  (zD hM).symm hle
def qT (nest:(List zI)):Option (Bool):=do
 match←tN nest 0 with
 | .ret r0=>pure r0
 | .done _ =>
  pure (decide ((nest.length:Int) ≤ 4))
theorem gW:∀ (nest:(List zI)) r,qT nest=some r→∀ {imm:Imm}{p c},(S4 imm p nest c)→Ret Tryz.prog 53 [vS p nest c] imm [] (jF  r):=by
 intro nest r hM imm p c h;unfold qT at hM;refine yH (fn:=Tryz.f53) (c:=(bodyOf Tryz.f53)) Tryz.func53 rfl rfl ?_;rintro B - -;refine zG<|zB<|yA [] []<|zF<|zG<|zG<|zB<|yA [] [(5,vS p nest c),(6,vI (nest.length:Int)),(7,vI 0)]<|zF<|yC<|vG [(0,vS p nest c),(5,vS p nest c),(6,vI (nest.length:Int)),(7,vI 0)] ?_;obtain ⟨o01,ho01,hMl⟩:=zC hM;refine zAP nest 0 o01 ho01 iR h (fun _ _ _ h=>h) (fun _ _ h=>h) ?_ ?_
 · intro imm03  heq1 le3;subst o01;refine yD<|zF<|zG<|zB<|yA [] [(2,.bool (decide ((nest.length:Int) ≤ 4)))]<|zF<|yI ?_;obtain rfl:=zD hMl;exact yP ⟨_,_,(.tmp rfl ResV.nil),zX,⟨_,rfl,rfl,rfl⟩⟩
 intro r0 imm9 hs9 m9 heq9 le9 hrs9;subst heq9;refine yF<|zP ?_;obtain rfl:=zD hMl;exact yP hrs9
def dO (r:Int):KT:=fun kk imm' hs' v=>
  ∃ v0,hs'=[]∧v=tupV [v0]∧v0=.int .i64 r
def uR (a0:zA) (point:(List Int)) (sum:Int) (t12:Int):Option (Int):=do
 if (decide (t12 < (point.length:Int))) then
  let x←idx point t12
  let x1←idx a0.Coefs t12
  uR a0 point (W (sum + (W (x1 * x)))) (W (t12 + 1))
 else
  pure (id sum)
 partial_fixpoint
theorem eV (a0:zA) (point:(List Int)):∀ (sum:Int) (t12:Int) (o:Int),uR a0 point sum t12=some o→∀ {B}{imm0 imm:Imm}{Q p c p1 c1}{b:Nat},imm0.le imm→(S4 imm p1 point c1)→(S4 imm p a0.Coefs c)→(∀ gl a w,¬Q (.goto gl) a w)→(∀ a w,¬Q .outgrown a w)→(∀ (imm':Imm) (sum1:Int),o=sum1→imm0.le imm'→T 28 B Q (.exit 0) imm' [] [(5,vI sum1)])→J Tryz.prog 28 B (nav (bodyOf Tryz.f122) [1,1,0,1,0]) Q imm [hB b (cAff a0 p c)] [(2,vP b 0),(5,vI sum),(10,vS p1 point c1),(11,vI (point.length:Int)),(12,vI t12)]:=by
 refine uR.partial_correctness a0 point _ ?_;intro self ih sum t12 o hM B imm0 imm Q p c p1 c1 b hle h1 h hg ho hx;refine xA hg ho<|zG<|zB<|yA [] [(13,.bool (decide (t12 < (point.length:Int))))]<|zF<|zG<|yO hM ?_ ?_
 · intro hc hM;refine yE<|zF<|zG<|yC<|zG<|zB<|yK 1 [] [(14,vI t12)] ?_;obtain ⟨x,hy,hM⟩:=zC hM;refine wD rfl rfl h1 hy ?_;intro ad ccs hat hrep;obtain rfl:=hrep;refine xQ 0 hat [vI x] (vI x) rfl<|yA [] [(6,vI t12),(7,vI x)]<|zF<|zB<|yK 4 [0] [(17,vI sum),(19,vS p a0.Coefs c),(20,vI t12)] ?_;obtain ⟨x1,hy1,hM⟩:=zC hM;refine wD rfl rfl h hy1 ?_;intro ad1 ccs1 hat1 hrep1;obtain rfl:=hrep1;exact xQ 0 hat1 [vI x1] (vI x1) rfl<|yA [] [(5,vI (W (sum + (W (x1 * x)))))]<|zY<|zF<|zB<|yA [] [(12,vI (W (t12 + 1)))]<|xB<|vG [(2,vP b 0),(5,vI (W (sum + (W (x1 * x))))),(10,vS p1 point c1),(11,vI (point.length:Int)),(12,vI (W (t12 + 1)))]<|ih (W (sum + (W (x1 * x)))) (W (t12 + 1)) _ hM hle h1 h hg ho hx
 intro hc hM;exact yZ<|zS<|zS<|wB (zL [] rfl (by decide))<|yS [(5,vI sum)]<|hx _ _ (zD hM).symm hle
def uF (a0:zA) (point:(List Int)):Option (Int):=do
 let sum1←uR a0 point a0.Const 0
 pure (id sum1)
theorem qJ:∀ (a0:zA) (point:(List Int)) r,uF a0 point=some r→∀ {imm:Imm}{p c p1 c1},(S4 imm p a0.Coefs c)→(S4 imm p1 point c1)→Ret Tryz.prog 122 [vA (cAff a0 p c),vS p1 point c1] imm [] (dO  r):=by
 intro a0 point r hM imm p c p1 c1 h h1;unfold uF at hM;refine yH (fn:=Tryz.f122) (c:=(bodyOf Tryz.f122)) Tryz.func122 rfl rfl ?_;rintro B - -;refine zG<|zB<|tA (cAff a0 p c) ?_;intro b hb;refine yA [] []<|zF<|zG<|zB<|yA [0] [(5,vI a0.Const)]<|zF<|zG<|zG<|zB<|yA [] [(10,vS p1 point c1),(11,vI (point.length:Int)),(12,vI 0)]<|zF<|yC<|vG [(2,vP b 0),(5,vI a0.Const),(10,vS p1 point c1),(11,vI (point.length:Int)),(12,vI 0)] ?_;obtain ⟨o0,ho0,hMl⟩:=zC hM;refine eV a0 point a0.Const 0 o0 ho0 iR h1 h (fun _ _ _ h=>h) (fun _ _ h=>h) ?_;intro imm0 sum1 heq le;subst o0;refine yD<|zF<|zG<|zB<|yA [] [(4,vI sum1)]<|zF<|yI ?_;obtain rfl:=zD hMl;exact yP ⟨_,_,(.tmp rfl ResV.nil),zX,⟨_,rfl,rfl,rfl⟩⟩
def zAj (r:Int×Int):KT:=fun kk imm' hs' v=>
  ∃ v0 v1,hs'=[]∧v=tupV [v0,v1]∧v0=.int .i64 r.1∧v1=.int .i64 r.2
def tO (l:zI) (point:(List Int)) (lo:Int) (t27:Int):Option (Int):=do
 if (decide (t27 < (l.Lo.length:Int))) then
  let x2←idx l.Lo t27
  let y2←uF x2 point
  tO l point (if y2 > lo then y2 else lo) (W (t27 + 1))
 else
  pure (id lo)
 partial_fixpoint
theorem zAQ (l:zI) (point:(List Int)):∀ (lo:Int) (t27:Int) (o:Int),tO l point lo t27=some o→∀ {B}{imm0 imm:Imm}{Q}{y1:Int}{p c p1 c1 p2 c2}{b:Nat},imm0.le imm→(S4 imm p2 point c2)→(S4 imm p l.Lo c)→(S4 imm p1 l.Hi c1)→(∀ gl a w,¬Q (.goto gl) a w)→(∀ a w,¬Q .outgrown a w)→(∀ (imm':Imm) (lo1:Int),o=lo1→imm0.le imm'→T 52 B Q (.exit 0) imm' [hB b (cLoop l p c p1 c1)] [(1,vS p2 point c2),(2,vP b 0),(6,vI lo1),(7,vI y1)])→J Tryz.prog 52 B (nav (bodyOf Tryz.f84) [1,1,0,1,0]) Q imm [hB b (cLoop l p c p1 c1)] [(1,vS p2 point c2),(2,vP b 0),(6,vI lo),(7,vI y1),(25,vS p l.Lo c),(26,vI (l.Lo.length:Int)),(27,vI t27)]:=by
 refine tO.partial_correctness l point _ ?_;intro self ih lo t27 o hM B imm0 imm Q y1 p c p1 c1 p2 c2 b hle h2 h h1 hg ho hx;refine xA hg ho<|zG<|zB<|yA [] [(28,.bool (decide (t27 < (l.Lo.length:Int))))]<|zF<|zG<|yO hM ?_ ?_
 · intro hc hM;refine yE<|zF<|zG<|yC<|zG<|zB ?_;obtain ⟨x2,hy4,hM⟩:=zC hM;refine wD rfl rfl h hy4 ?_;intro ad2 ccs2 hat2 hrep2;obtain ⟨v04,rfl,h7⟩:=yM hrep2;obtain ⟨p5,c5,rfl⟩:=h7.form;refine xQ 0 hat2 (cAff x2 p5 c5) (vA (cAff x2 p5 c5)) rfl<|uB [z0,vI 0] ?_;intro b1 hb1;refine xI 0 (cAff x2 p5 c5) [hB b1 (cAff x2 p5 c5),hB b (cLoop l p c p1 c1)] rfl rfl rfl rfl<|yN rfl<|zF<|zB<|yK 3 [0] [(31,vI lo),(32,vA (cAff x2 p5 c5)),(33,vS p2 point c2)] ?_;obtain ⟨y2,hy5,hM⟩:=zC hM;refine yQ (qJ x2 point _ hy5 h7 h2) ?_;rintro imm03 hs2 v2 k2 le3 - ⟨v05,rfl,rfl,rfl⟩ -;have h2:=h2.mono le3;have h:=h.mono le3;have h1:=h1.mono le3;have hle:=hle.trans le3;exact yA [] [(6,vI (if y2 > lo then y2 else lo))]<|zY<|zF<|zB<|yA [] [(27,vI (W (t27 + 1)))]<|xB<|qP (zL [1] rfl (by decide))<|vG [(1,vS p2 point c2),(2,vP b 0),(6,vI (if y2 > lo then y2 else lo)),(7,vI y1),(25,vS p l.Lo c),(26,vI (l.Lo.length:Int)),(27,vI (W (t27 + 1)))]<|ih (if y2 > lo then y2 else lo) (W (t27 + 1)) _ hM hle h2 h h1 hg ho hx
 intro hc hM;exact yZ<|zS<|zS<|yS [(1,vS p2 point c2),(2,vP b 0),(6,vI lo),(7,vI y1)]<|hx _ _ (zD hM).symm hle
def tP (l:zI) (point:(List Int)) (hi:Int) (t40:Int):Option (Int):=do
 if (decide (t40 < (l.Hi.length:Int))) then
  let x3←idx l.Hi t40
  let y3←uF x3 point
  tP l point (if y3 < hi then y3 else hi) (W (t40 + 1))
 else
  pure (id hi)
 partial_fixpoint
theorem zAR (l:zI) (point:(List Int)):∀ (hi:Int) (t40:Int) (o:Int),tP l point hi t40=some o→∀ {B}{imm0 imm:Imm}{Q}{lo1:Int}{p1 c1 p2 c2},imm0.le imm→(S4 imm p2 point c2)→(S4 imm p1 l.Hi c1)→(∀ gl a w,¬Q (.goto gl) a w)→(∀ a w,¬Q .outgrown a w)→(∀ (imm':Imm) (hi1:Int),o=hi1→imm0.le imm'→T 52 B Q (.exit 2) imm' [] [(6,vI lo1),(7,vI hi1)])→J Tryz.prog 52 B (nav (bodyOf Tryz.f84) [1,1,1,0,1,0]) Q imm [] [(1,vS p2 point c2),(6,vI lo1),(7,vI hi),(38,vS p1 l.Hi c1),(39,vI (l.Hi.length:Int)),(40,vI t40)]:=by
 refine tP.partial_correctness l point _ ?_;intro self ih hi t40 o hM B imm0 imm Q lo1 p1 c1 p2 c2 hle h2 h1 hg ho hx;refine xA hg ho<|zG<|zB<|yA [] [(41,.bool (decide (t40 < (l.Hi.length:Int))))]<|zF<|zG<|yO hM ?_ ?_
 · intro hc1 hM;refine yE<|zF<|zG<|yC<|zG<|zB ?_;obtain ⟨x3,hy6,hM⟩:=zC hM;refine wD rfl rfl h1 hy6 ?_;intro ad3 ccs3 hat3 hrep3;obtain ⟨v06,rfl,h9⟩:=yM hrep3;obtain ⟨p6,c6,rfl⟩:=h9.form;refine xQ 0 hat3 (cAff x3 p6 c6) (vA (cAff x3 p6 c6)) rfl<|uB [z0,vI 0] ?_;intro b2 hb2;refine xI 0 (cAff x3 p6 c6) [hB b2 (cAff x3 p6 c6)] rfl rfl rfl rfl<|yN rfl<|zF<|zB<|yK 3 [0] [(44,vI hi),(45,vA (cAff x3 p6 c6)),(46,vS p2 point c2)] ?_;obtain ⟨y3,hy7,hM⟩:=zC hM;refine yQ (qJ x3 point _ hy7 h9 h2) ?_;rintro imm05 hs2 v2 k2 le5 - ⟨v07,rfl,rfl,rfl⟩ -;have h2:=h2.mono le5;have h1:=h1.mono le5;have hle:=hle.trans le5;exact yA [] [(7,vI (if y3 < hi then y3 else hi))]<|zY<|zF<|zB<|yA [] [(40,vI (W (t40 + 1)))]<|xB<|qP (zL [] rfl (by decide))<|vG [(1,vS p2 point c2),(6,vI lo1),(7,vI (if y3 < hi then y3 else hi)),(38,vS p1 l.Hi c1),(39,vI (l.Hi.length:Int)),(40,vI (W (t40 + 1)))]<|ih (if y3 < hi then y3 else hi) (W (t40 + 1)) _ hM hle h2 h1 hg ho hx
 intro hc1 hM;exact yZ<|zS<|zS<|yS [(6,vI lo1),(7,vI hi)]<|hx _ _ (zD hM).symm hle
def qU (l:zI) (point:(List Int)):Option (Int×Int):=do
 let x←idx l.Lo 0
 let y←uF x point
 let x1←idx l.Hi 0
 let y1←uF x1 point
 let lo1←tO l point y 0
 let hi1←tP l point y1 0
 pure (lo1,hi1)
theorem gX:∀ (l:zI) (point:(List Int)) r,qU l point=some r→∀ {imm:Imm}{p c p1 c1 p2 c2},(S4 imm p l.Lo c)→(S4 imm p1 l.Hi c1)→(S4 imm p2 point c2)→Ret Tryz.prog 84 [vA (cLoop l p c p1 c1),vS p2 point c2] imm [] (zAj  r):=by
 intro l point r hM imm p c p1 c1 p2 c2 h h1 h2;unfold qU at hM;refine yH (fn:=Tryz.f84) (c:=(bodyOf Tryz.f84)) Tryz.func84 rfl rfl ?_;rintro B - -;have hle:=iS imm;refine zG<|zB<|tA (cLoop l p c p1 c1) ?_;intro b hb;refine yA [] []<|zF<|zG ?_;obtain ⟨x,hy,hM⟩:=zC hM;obtain ⟨y,hy1,hM⟩:=zC hM;obtain ⟨x1,hy2,hM⟩:=zC hM;obtain ⟨y1,hy3,hM⟩:=zC hM;refine vC [.p (vP b 0) [],.p (vS p l.Lo c) [0],.x (fun imm' v hx=>∃ ad p3 c3,v=.pointer (some ad)∧hx=[]∧(At imm' ad (cAff x p3 c3))∧(S4 imm' p3 x.Coefs c3)),.x (fun imm' v hx=>∃ p31 c31,v=vA (cAff x p31 c31)∧hx=[]∧(S4 imm' p31 x.Coefs c31)),.p (vS p2 point c2) [],.q (vI y),.p (vP b 1) [],.p (vS p1 l.Hi c1) [0],.x (fun imm' v hx=>∃ ad1 p4 c4,v=.pointer (some ad1)∧hx=[]∧(At imm' ad1 (cAff x1 p4 c4))∧(S4 imm' p4 x1.Coefs c4)),.x (fun imm' v hx=>∃ p41 c41,v=vA (cAff x1 p41 c41)∧hx=[]∧(S4 imm' p41 x1.Coefs c41)),.p (vS p2 point c2) [],.q (vI y1),.p (vI y) []] [[],[(0,false)],[(1,false)],[(2,false)],[],[(3,false),(4,false)],[],[(6,false)],[(7,false)],[(8,false)],[],[(9,false),(10,false)],[(5,false)]] [hB b (cLoop l p c p1 c1)] [] [(11,false),(12,false)] (zL [0] rfl (by decide)) ?_ ?_
 · refine Op<|Op<|Ox ?_<|Ox ?_<|Op<|Oq ?_<|Op<|Op<|Ox ?_<|Ox ?_<|Op<|Oq ?_<|Op<|On
   · intro imm1 hf le1;refine zE ?_;rintro _ _ ⟨rfl,rfl⟩;refine zM<|yG [(13,vS p l.Lo c)] ?_;have hle:=iS imm1;have h:=h.mono le1;refine wD rfl rfl h hy ?_;intro ad ccs hat hrep;obtain ⟨v0,rfl,h3⟩:=yM hrep;obtain ⟨p3,c3,rfl⟩:=h3.form;exact zZ (hx:=[]) rfl hle rfl (zK rfl) ⟨_,_,_,rfl,rfl,hat,h3⟩
   · intro imm1 hf le1;refine zE ?_;rintro _ _ ⟨ad,p3,c3,rfl,rfl,hat,h3⟩;refine zM<|yG [(14,.pointer (some ad))] ?_;have hle:=iS imm1;exact xQ 0 hat (cAff x p3 c3) (vA (cAff x p3 c3)) rfl<|zZ (hx:=[]) rfl hle rfl (zK rfl) ⟨_,_,rfl,rfl,h3⟩
   · intro imm1 hf le1;refine zE ?_;rintro _ _ ⟨p31,c31,rfl,rfl,h31⟩;refine zE ?_;rintro _ _ ⟨rfl,rfl⟩;refine zM<|yG [(15,vA (cAff x p31 c31)),(16,vS p2 point c2)] ?_;have hle:=iS imm1;have h2:=h2.mono le1;refine yQ (qJ x point _ hy1 h31 h2) ?_;rintro imm0 hs2 v2 k2 le - ⟨v01,rfl,rfl,rfl⟩ -;have hle:=hle.trans le;exact zZ (hx:=[]) rfl hle rfl (zK rfl) ⟨rfl,rfl⟩
   · intro imm1 hf le1;refine zE ?_;rintro _ _ ⟨rfl,rfl⟩;refine zM<|yG [(19,vS p1 l.Hi c1)] ?_;have hle:=iS imm1;have h1:=h1.mono le1;refine wD rfl rfl h1 hy2 ?_;intro ad1 ccs1 hat1 hrep1;obtain ⟨v02,rfl,h5⟩:=yM hrep1;obtain ⟨p4,c4,rfl⟩:=h5.form;exact zZ (hx:=[]) rfl hle rfl (zK rfl) ⟨_,_,_,rfl,rfl,hat1,h5⟩
   · intro imm1 hf le1;refine zE ?_;rintro _ _ ⟨ad1,p4,c4,rfl,rfl,hat1,h5⟩;refine zM<|yG [(20,.pointer (some ad1))] ?_;have hle:=iS imm1;exact xQ 0 hat1 (cAff x1 p4 c4) (vA (cAff x1 p4 c4)) rfl<|zZ (hx:=[]) rfl hle rfl (zK rfl) ⟨_,_,rfl,rfl,h5⟩
   intro imm1 hf le1;refine zE ?_;rintro _ _ ⟨p41,c41,rfl,rfl,h51⟩;refine zE ?_;rintro _ _ ⟨rfl,rfl⟩;refine zM<|yG [(21,vA (cAff x1 p41 c41)),(22,vS p2 point c2)] ?_;have hle:=iS imm1;have h2:=h2.mono le1;refine yQ (qJ x1 point _ hy3 h51 h2) ?_;rintro imm01 hs2 v2 k2 le1 - ⟨v03,rfl,rfl,rfl⟩ -;have hle:=hle.trans le1;exact zZ (hx:=[]) rfl hle rfl (zK rfl) ⟨rfl,rfl⟩
 intro imm02 le2;refine zE ?_;rintro _ _ ⟨rfl,rfl⟩;refine zE ?_;rintro _ _ ⟨rfl,rfl⟩;refine zM<|yG [(1,vS p2 point c2),(2,vP b 0),(6,vI y),(23,vI y1)] ?_;have h2:=h2.mono le2;have h:=h.mono le2;have h1:=h1.mono le2;refine yA [] [(7,vI y1)]<|zF<|zG<|zG<|zB<|yA [0] [(25,vS p l.Lo c),(26,vI (l.Lo.length:Int)),(27,vI 0)]<|zF<|yC<|vG [(1,vS p2 point c2),(2,vP b 0),(6,vI y),(7,vI y1),(25,vS p l.Lo c),(26,vI (l.Lo.length:Int)),(27,vI 0)] ?_;obtain ⟨o0,ho0,hMl⟩:=zC hM;refine zAQ l point y 0 o0 ho0 iR h2 h h1 (fun _ _ _ h=>h) (fun _ _ h=>h) ?_;intro imm04 lo1 heq le4;subst o0;have h2:=h2.mono le4;have h:=h.mono le4;have h1:=h1.mono le4;refine yD<|zF<|zG<|zG<|zB<|yA [0] [(38,vS p1 l.Hi c1),(39,vI (l.Hi.length:Int)),(40,vI 0)]<|zF<|yC<|qP (zL [] (hs':=[]) rfl (by decide))<|vG [(1,vS p2 point c2),(6,vI lo1),(7,vI y1),(38,vS p1 l.Hi c1),(39,vI (l.Hi.length:Int)),(40,vI 0)] ?_;obtain ⟨o01,ho01,hMl1⟩:=zC hMl;refine zAR l point y1 0 o01 ho01 iR h2 h1 (fun _ _ _ h=>h) (fun _ _ h=>h) ?_;intro imm06 hi1 heq1 le6;subst o01;refine yD<|zF<|zG<|zB<|yA [] [(4,vI lo1),(5,vI hi1)]<|zF<|yI ?_;obtain rfl:=zD hMl1;exact yP ⟨_,_,(.tmp rfl (.tmp rfl ResV.nil)),zX,⟨_,_,rfl,rfl,rfl,rfl⟩⟩
def gE (r:List Int):KT:=fun kk imm' hs' v=>
  ∃ a0 c0 s0,hs'=[.osl (.slice a0 r.length c0) (Rp.sz Int) s0]∧v=tupV [(.slice a0 r.length c0)]∧RepL (Rp.rep imm') (Rp.sz Int) s0 r
def tI (s:List Int):Option (List Int):=app 8 ([]:List Int) s
theorem oK:∀ (s:List Int) r,tI s=some r→∀ {imm:Imm}{p c},SL imm (vS p s c) s→Ret Tryz.prog 110 [vS p s c] imm [] (gE r):=by
 intro s r hM imm p c h;unfold tI at hM;obtain ⟨ccs,k0,k01⟩:=h;refine yH (fn:=Tryz.f110) (c:=(bodyOf Tryz.f110)) Tryz.func110 rfl rfl ?_;rintro B - -;cases p with
 | none =>
  have hs:s=[]:=by
    rcases k0 with ⟨hv,rfl⟩ | ⟨b0,off,len,cap,cc,hv,k2⟩
    · cases s with
      | nil=>rfl
      | cons _ _=>simp at hv
    simp at hv
  subst hs;obtain ⟨_,rfl⟩:=fG hM;refine zG<|zB<|yA [] [(0,vS none ([]:List Int) c),(2,z0)]<|zF<|zG<|zG<|zB<|yK 1 [] [(3,vS none ([]:List Int) c)]<|zJX true rfl rfl ?_ rfl;exact yA [] [(4,.bool true)]<|zF<|dU rfl<|zG<|zB<|yA [] [(2,z0)]<|zF<|yI<|zP<|wB (uS (Rp.sz Int))<|yP ⟨_,_,(.tmp rfl ResV.nil),(zL [0] rfl (by decide)),⟨none,0,[],rfl,rfl,rfl⟩⟩
 | some ad =>
  refine zG<|zB<|yA [] [(0,vS (some ad) s c),(2,z0)]<|zF<|zG<|zG<|zB<|yK 1 [] [(3,vS (some ad) s c)]<|zJX false rfl rfl ?_ rfl;refine yA [] [(0,vS (some ad) s c),(4,.bool false)]<|zF<|jG rfl<|yE<|zF<|zG<|zB<|xV [] Int ?_;intro b2 hb2;have h1:RL imm [] ([]:List Int):=rfl;refine yK 2 [] [(6,vS (some ad) s c)]<|qQ 3 1 0 rfl rfl rfl h1 (.inl k0) k01 hM ?_;intro p1 c1 cs h2;exact yA [] [(2,vS p1 r c1)]<|zF<|yI<|yP ⟨_,_,(.tmp rfl ResV.nil),(zL [0] rfl (by decide)),⟨_,_,_,rfl,rfl,h2⟩⟩
end Go.LN
