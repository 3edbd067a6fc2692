/- Helper of the proof (see the last text). -/
import Derived.Test.YtaedjkaagcbkdaaGreatHM3
namespace Go.LN
set_option linter.unusedVariables false
set_option linter.unusedSimpArgs false
open Go.Proofs
set_option maxRecDepth 20000
def gN (r:Str):KT:=fun kk imm' hs' v=>
  ∃ v0,hs'=[]∧v=tupV [v0]∧v0=.string ⟨⟨r.l⟩⟩
def rE (n01:Int) (out:Str):Option ((Int×Str)):=do
 if (decide (n01 > 9)) then
  let s1←cat (⟨([(u8 (W (48 + (n01.tmod 10))))]:List UInt8)⟩:Str) out
  rE (W (n01.tdiv 10)) s1
 else
  pure (n01,out)
 partial_fixpoint
theorem zBQ :∀ (n01:Int) (out:Str) (o:(Int×Str)),rE n01 out=some o→∀ {B}{imm0 imm:Imm}{Q}  ,imm0.le imm→(∀ l a w,¬Q (.goto l) a w)→(∀ a w,¬Q .outgrown a w)→(∀ (imm':Imm) (n02:Int) (out1:Str),o=(n02,out1)→imm0.le imm'→T 31 B Q (.exit 0) imm' [] [(0,vI n02),(3,vT out1.l)])→J Tryz.prog 31 B (nav (bodyOf Tryz.f199) [1,1,1,1,0,0]) Q imm [] [(0,vI n01),(3,vT out.l)]:=by
 refine rE.partial_correctness  _ ?_;intro self ih n01 out o hM B imm0 imm Q  hle  hg ho hx;refine xF hg ho<|zF<|zF<|zB<|zY [] [(13,.bool (decide (n01 > 9)))]<|zE<|yP hM ?_ ?_
 · intro hc2 hM;refine yD<|zE<|yB<|zF<|zB<|yK 3 [] [(16,vI (W (48 + (n01.tmod 10))))]<|zIO (d:=17) (i:=(W (48 + (n01.tmod 10)))) rfl (by kernel_rfl)<|xY [.int .u8 ((u8 (W (48 + (n01.tmod 10)))).toNat:Int)] UInt8 ?_;intro b hb;have h1:RL imm [.int .u8 ((u8 (W (48 + (n01.tmod 10)))).toNat:Int)] ([(u8 (W (48 + (n01.tmod 10))))]:List UInt8):=⟨[.int .u8 ((u8 (W (48 + (n01.tmod 10)))).toNat:Int)],_,rfl,rfl,rfl,rfl⟩;refine zFm (l:=([(u8 (W (48 + (n01.tmod 10))))]:List UInt8)) rfl rfl rfl rfl (by kernel_rfl) (by kernel_rfl) (.inr ⟨0,rfl⟩) h1<|yK 7 [] [(20,vT out.l)] ?_;obtain ⟨s1,hy2,hM⟩:=zC hM;exact kU rfl hy2<|zY [] [(3,vT s1.l)]<|zE<|zB<|zY [] [(0,vI (W (n01.tdiv 10)))]<|zW<|xG<|qR (zL [] rfl (by decide))<|uA [(0,vI (W (n01.tdiv 10))),(3,vT s1.l)]<|ih (W (n01.tdiv 10)) s1 _ hM hle  hg ho hx
 intro hc2 hM;exact xB<|zT<|zT<|yU [(0,vI n01),(3,vT out.l)]<|hx _ _ _ (zD hM).symm hle
def tZ (n0:Int):Option (Str):=do
 if (decide (n0 < (-9223372036854775807))) then
  pure (⟨[45,57,50,50,51,51,55,50,48,51,54,56,53,52,55,55,53,56,48,56]⟩:Str)
 else
  if (decide (n0 < 0)) then
   let y←tZ (W (0 - n0))
   let s←cat (⟨[45]⟩:Str) y
   pure (id s)
  else
   let (n02,out1)←rE n0 (⟨[]⟩:Str)
   let s2←cat (⟨([(u8 (W (48 + n02)))]:List UInt8)⟩:Str) out1
   pure (id s2)
 partial_fixpoint
theorem kZ:∀ (n0:Int) r,tZ n0=some r→∀ {imm:Imm} ,Ret Tryz.prog 199 [vI n0] imm [] (gN  r):=by
 refine tZ.partial_correctness (fun n0 r=>∀ {imm:Imm} ,Ret Tryz.prog 199 [vI n0] imm [] (gN  r)) ?_;intro F_spec_l16Dec ih_spec_l16Dec n0 r hM imm;refine yF (fn:=Tryz.f199) (c:=(bodyOf Tryz.f199)) Tryz.func199 rfl rfl ?_;rintro B - -;have hle:=iS imm;refine zF<|zB<|zY [] []<|zE<|zF<|zF<|zB<|zY [] [(5,.bool (decide (n0 < (-9223372036854775807))))]<|zE<|yP hM ?_ ?_
 · intro hc hM;refine zF<|zB<|zY [] [(2,vT ([45,57,50,50,51,51,55,50,48,51,54,56,53,52,55,55,53,56,48,56]))]<|zE<|yJ<|zQ ?_;obtain rfl:=zD hM;exact yQ ⟨_,_,(.tmp rfl ResV.nil),zV,⟨_,rfl,rfl,rfl⟩⟩
 intro hc hM;refine yD<|zE<|zF<|zF<|zB<|zY [] [(7,.bool (decide (n0 < 0)))]<|zE<|yP hM ?_ ?_
 · intro hc1 hM;refine zF<|zB<|yK 2 [] [(9,vI (W (0 - n0)))] ?_;obtain ⟨y,hy,hM⟩:=zC hM;refine yR (ih_spec_l16Dec (W (0 - n0)) _ hy ) ?_;rintro imm0 hs2 v2 k2 le - ⟨v0,rfl,rfl,rfl⟩ -;have hle:=hle.trans le;obtain ⟨s,hy1,hM⟩:=zC hM;refine kU rfl hy1<|zY [] [(2,vT s.l)]<|zE<|yJ<|zQ ?_;obtain rfl:=zD hM;exact yQ ⟨_,_,(.tmp rfl ResV.nil),zV,⟨_,rfl,rfl,rfl⟩⟩
 intro hc1 hM;refine yD<|zE<|zF<|zB<|zY [] [(3,vT ([]))]<|zE<|zF<|yB<|uA [(0,vI n0),(3,vT ([]))] ?_;obtain ⟨o0,ho0,hMl⟩:=zC hM;refine zBQ n0 (⟨[]⟩:Str) o0 ho0 iR  (fun _ _ _ h=>h) (fun _ _ h=>h) ?_;intro imm01 n02 out1 heq le1;subst o0;have hle:=hle.trans le1;refine yC<|zE<|zF<|zB<|yK 2 [] [(25,vI (W (48 + n02)))]<|zIO (d:=26) (i:=(W (48 + n02))) rfl (by kernel_rfl)<|xY [.int .u8 ((u8 (W (48 + n02))).toNat:Int)] UInt8 ?_;intro b1 hb1;have h2:RL imm01 [.int .u8 ((u8 (W (48 + n02))).toNat:Int)] ([(u8 (W (48 + n02)))]:List UInt8):=⟨[.int .u8 ((u8 (W (48 + n02))).toNat:Int)],_,rfl,rfl,rfl,rfl⟩;refine zFm (l:=([(u8 (W (48 + n02)))]:List UInt8)) rfl rfl rfl rfl (by kernel_rfl) (by kernel_rfl) (.inr ⟨0,rfl⟩) h2<|yK 6 [] [(29,vT out1.l)] ?_;obtain ⟨s2,hy3,hM⟩:=zC hMl;refine kU rfl hy3<|zY [] [(2,vT s2.l)]<|zE<|yJ ?_;obtain rfl:=zD hM;exact yQ ⟨_,_,(.tmp rfl ResV.nil),zV,⟨_,rfl,rfl,rfl⟩⟩
def zCD (r:Str):KT:=fun kk imm' hs' v=>
  ∃ v0,hs'=[]∧v=tupV [v0]∧v0=.string ⟨⟨r.l⟩⟩
def oS (n0:Int) (name:Str):Option (Str):=do
 let (n01,sign)←(do
   if (decide (n0 < 0)) then
    pure ((W (0 - n0)),(⟨[45]⟩:Str))
   else
    pure (n0,(⟨[43]⟩:Str))
     : Option (Int×Str))
 if (name.l == ([]:List UInt8)) then
  let y←tZ n01
  let s←cat sign y
  pure (id s)
 else
  if (n01 == 1) then
   let s1←cat sign name
   pure (id s1)
  else
   let y1←tZ n01
   let s2←cat sign y1
   let s3←cat s2 (⟨[42]⟩:Str)
   let s4←cat s3 name
   pure (id s4)
theorem eX:∀ (n0:Int) (name:Str) r,oS n0 name=some r→∀ {imm:Imm} ,Ret Tryz.prog 223 [vI n0,vT name.l] imm [] (zCD  r):=by
 intro n0 name r hM imm;unfold oS at hM;refine yF (fn:=Tryz.f223) (c:=(bodyOf Tryz.f223)) Tryz.func223 rfl rfl ?_;rintro B - -;have hle:=iS imm;refine zF<|zB<|zY [] []<|zE<|zF<|zB<|zY [] [(5,vT ([43]))]<|zE<|zF<|zF<|zB<|zY [] [(7,.bool (decide (n0 < 0)))]<|zE ?_;obtain ⟨o0,ho0,hMc⟩:=zC hM;refine yT (fun imm' hs' m'=>∃ (n01:Int) (sign:Str),o0=(n01,sign)∧imm.le imm'∧hs'=[]∧m'=[(0,vI n01),(1,vT name.l),(5,vT sign.l)]) ?_ ?_
 · have hle0:=hle;have hle:=iS imm;refine yP ho0 ?_ ?_
   · intro hc hM;exact zF<|zB<|zY [] [(5,vT ([45]))]<|zE<|zB<|zY [] [(0,vI (W (0 - n0)))]<|yU [(0,vI (W (0 - n0))),(1,vT name.l),(5,vT ([45]))]<|yA ⟨_,_,(zD hM).symm,hle,rfl,rfl⟩
   intro hc hM;exact yD<|yU [(0,vI n0),(1,vT name.l),(5,vT ([43]))]<|yA ⟨_,_,(zD hM).symm,hle,rfl,rfl⟩
 rintro imm0 hs2 m2 ⟨n01,sign,heq,le,rfl,rfl⟩;subst o0;have hle:=hle.trans le;refine zE<|zF<|zF<|zB<|zY [] [(11,.bool (name.l == ([]:List UInt8)))]<|zE<|yP hMc ?_ ?_
 · intro hc1 hM;refine zF<|zB<|yK 2 [] [(12,vT sign.l),(13,vI n01)] ?_;obtain ⟨y,hy,hM⟩:=zC hM;refine yR (kZ n01 _ hy ) ?_;rintro imm01 hs2 v2 k2 le1 - ⟨v0,rfl,rfl,rfl⟩ -;have hle:=hle.trans le1;obtain ⟨s,hy1,hM⟩:=zC hM;refine kU rfl hy1<|zY [] [(4,vT s.l)]<|zE<|yJ<|zQ ?_;obtain rfl:=zD hM;exact yQ ⟨_,_,(.tmp rfl ResV.nil),zV,⟨_,rfl,rfl,rfl⟩⟩
 intro hc1 hM;refine yD<|zE<|zF<|zF<|zB<|zY [] [(17,.bool (n01 == 1))]<|zE<|yP hM ?_ ?_
 · intro hc2 hM;refine zF<|zB<|yK 2 [] [(18,vT sign.l),(19,vT name.l)] ?_;obtain ⟨s1,hy2,hM⟩:=zC hM;refine kU rfl hy2<|zY [] [(4,vT s1.l)]<|zE<|yJ<|zQ ?_;obtain rfl:=zD hM;exact yQ ⟨_,_,(.tmp rfl ResV.nil),zV,⟨_,rfl,rfl,rfl⟩⟩
 intro hc2 hM;refine yD<|zE<|zF<|zB<|yK 2 [] [(21,vT sign.l),(22,vI n01)] ?_;obtain ⟨y1,hy3,hM⟩:=zC hM;refine yR (kZ n01 _ hy3 ) ?_;rintro imm02 hs2 v2 k2 le2 - ⟨v01,rfl,rfl,rfl⟩ -;have hle:=hle.trans le2;obtain ⟨s2,hy4,hM⟩:=zC hM;refine kU rfl hy4 ?_;obtain ⟨s3,hy5,hM⟩:=zC hM;refine kU rfl hy5<|yK 6 [] [(26,vT name.l)] ?_;obtain ⟨s4,hy6,hM⟩:=zC hM;refine kU rfl hy6<|zY [] [(4,vT s4.l)]<|zE<|yJ ?_;obtain rfl:=zD hM;exact yQ ⟨_,_,(.tmp rfl ResV.nil),zV,⟨_,rfl,rfl,rfl⟩⟩
def zCE (r:Str):KT:=fun kk imm' hs' v=>
  ∃ v0,hs'=[]∧v=tupV [v0]∧v0=.string ⟨⟨r.l⟩⟩
def rF (a0:zA) (out:Str) (i:Int):Option (Str):=do
 if (decide (i < (a0.Coefs.length:Int))) then
  let x←idx a0.Coefs i
  let out2←(do
    if (x != 0) then
     let x1←idx a0.Coefs i
     let s←sslc (⟨[105,106,107,108]⟩:Str) i (W (i + 1))
     let y←oS x1 s
     let s1←cat out y
     pure (id s1)
    else
     pure (id out)
      : Option Str)
  rF a0 out2 (W (i + 1))
 else
  pure (id out)
 partial_fixpoint
theorem zBR (a0:zA):∀ (out:Str) (i:Int) (o:Str),rF a0 out i=some o→∀ {B}{imm0 imm:Imm}{Q p c}{b:Nat},imm0.le imm→(S4 imm p a0.Coefs c)→(∀ l a w,¬Q (.goto l) a w)→(∀ a w,¬Q .outgrown a w)→(∀ (imm':Imm) (out1:Str),o=out1→imm0.le imm'→T 46 B Q (.exit 0) imm' [hB b (cAff a0 p c)] [(1,vP b 0),(3,vT out1.l)])→J Tryz.prog 46 B (nav (bodyOf Tryz.f215) [1,1,0,1,0]) Q imm [hB b (cAff a0 p c)] [(1,vP b 0),(3,vT out.l),(4,vI i)]:=by
 refine rF.partial_correctness a0 _ ?_;intro self ih out i o hM B imm0 imm Q p c b hle h hg ho hx;refine xF hg ho<|zF<|zF<|zB<|zY [0] [(9,.bool (decide (i < (a0.Coefs.length:Int))))]<|zE<|yP hM ?_ ?_
 · intro hc hM;refine yD<|zE<|zF<|yB<|zF<|zB<|yK 3 [0] [(13,vS p a0.Coefs c),(14,vI i)] ?_;obtain ⟨x,hy,hM⟩:=zC hM;refine wJ rfl rfl h hy ?_;intro ad ccs hat hrep;obtain rfl:=hrep;refine xX 0 hat [vI x] (vI x) rfl<|zY [] [(17,.bool (x != 0))]<|zE ?_;obtain ⟨o0,ho0,hMc⟩:=zC hM;refine yT (fun imm' hs' m'=>∃ (out2:Str),o0=out2∧imm.le imm'∧hs'=[hB b (cAff a0 p c)]∧m'=[(1,vP b 0),(3,vT out2.l),(4,vI i)]) ?_ ?_
   · have hle0:=hle;have hle:=iS imm;refine yP ho0 ?_ ?_
     · intro hc1 hM;obtain ⟨x1,hy1,hM⟩:=zC hM;obtain ⟨s,hy2,hM⟩:=zC hM;obtain ⟨y,hy3,hM⟩:=zC hM;obtain ⟨s1,hy4,hM⟩:=zC hM;refine vZ [.p (vT out.l) [],.p (vP b 0) [],.p (vS p a0.Coefs c) [0],.p (vI i) [],.x (fun imm' v hx=>∃ ad1,v=.pointer (some ad1)∧hx=[]∧(At imm' ad1 [vI x1])),.q (vI x1),.p (vI i) [],.p (vI i) [],.p (vI (W (i + 1))) [],.q (vT s.l),.q (vT y.l),.q (vT s1.l)] [[],[],[(1,false)],[],[(2,false),(3,false)],[(4,false)],[],[],[(7,false)],[(6,false),(8,false)],[(5,false),(9,false)],[(0,false),(10,false)]] [hB b (cAff a0 p c)] [] [(11,false)] (zL [0] rfl (by decide)) ?_ ?_
       · refine Op<|Op<|Op<|Op<|Ox ?_<|Oq ?_<|Op<|Op<|Op<|Oq ?_<|Oq ?_<|Oq ?_<|On
         · intro imm1 hf le1;refine zG ?_;rintro _ _ ⟨rfl,rfl⟩;refine zG ?_;rintro _ _ ⟨rfl,rfl⟩;refine zN<|yG [(20,vS p a0.Coefs c),(21,vI i)] ?_;have hle:=iS imm1;have h:=h.mono le1;refine wJ rfl rfl h hy1 ?_;intro ad1 ccs1 hat1 hrep1;obtain rfl:=hrep1;exact zX (hx:=[]) rfl hle rfl (zM rfl) ⟨_,rfl,rfl,hat1⟩
         · intro imm1 hf le1;refine zG ?_;rintro _ _ ⟨ad1,rfl,rfl,hat1⟩;refine zN<|yG [(22,.pointer (some ad1))] ?_;have hle:=iS imm1;exact xX 0 hat1 [vI x1] (vI x1) rfl<|zX (hx:=[]) rfl hle rfl (zM rfl) ⟨rfl,rfl⟩
         · intro imm1 hf le1;refine zG ?_;rintro _ _ ⟨rfl,rfl⟩;refine zG ?_;rintro _ _ ⟨rfl,rfl⟩;refine zN<|yG [(24,vI i),(26,vI (W (i + 1)))] ?_;have hle:=iS imm1;exact zDf rfl hy2<|zX (hx:=[]) rfl hle rfl (zM rfl) ⟨rfl,rfl⟩
         · intro imm1 hf le1;refine zG ?_;rintro _ _ ⟨rfl,rfl⟩;refine zG ?_;rintro _ _ ⟨rfl,rfl⟩;refine zN<|yG [(23,vI x1),(27,vT s.l)] ?_;have hle:=iS imm1;have h:=h.mono le1;refine yR (eX x1 s _ hy3 ) ?_;rintro imm01 hs2 v2 k2 le - ⟨v0,rfl,rfl,rfl⟩ -;have h:=h.mono le;have hle:=hle.trans le;exact zX (hx:=[]) rfl hle rfl (zM rfl) ⟨rfl,rfl⟩
         intro imm1 hf le1;refine zG ?_;rintro _ _ ⟨rfl,rfl⟩;refine zG ?_;rintro _ _ ⟨rfl,rfl⟩;refine zN<|yG [(18,vT out.l),(28,vT y.l)] ?_;have hle:=iS imm1;exact kU rfl hy4<|zX (hx:=[]) rfl hle rfl (zM rfl) ⟨rfl,rfl⟩
       intro imm02 le1;refine zG ?_;rintro _ _ ⟨rfl,rfl⟩;refine zN<|yG [(1,vP b 0),(4,vI i),(29,vT s1.l)] ?_;have h:=h.mono le1;have hle:=hle.trans le1;exact zY [] [(3,vT s1.l)]<|yU [(1,vP b 0),(3,vT s1.l),(4,vI i)]<|yA ⟨_,(zD hM).symm,hle,rfl,rfl⟩
     intro hc1 hM;exact yD<|yU [(1,vP b 0),(3,vT out.l),(4,vI i)]<|yA ⟨_,(zD hM).symm,hle,rfl,rfl⟩
   rintro imm0 hs2 m2 ⟨out2,heq,le2,rfl,rfl⟩;subst o0;have h:=h.mono le2;have hle:=hle.trans le2;exact zW<|zE<|zB<|zY [] [(4,vI (W (i + 1)))]<|xG<|uA [(1,vP b 0),(3,vT out2.l),(4,vI (W (i + 1)))]<|ih out2 (W (i + 1)) _ hMc hle h hg ho hx
 intro hc hM;exact xB<|zT<|zT<|yU [(1,vP b 0),(3,vT out.l)]<|hx _ _ (zD hM).symm hle
def pP (a0:zA):Option (Str):=do
 let out1←rF a0 (⟨[]⟩:Str) 0
 let out3←(do
   if (a0.Const != 0) then
    let y1←oS a0.Const (⟨[]⟩:Str)
    let s2←cat out1 y1
    pure (id s2)
   else
    pure (id out1)
     : Option Str)
 if (out3.l == ([]:List UInt8)) then
  pure (⟨[48]⟩:Str)
 else
  let s3←sslc out3 0 1
  if (s3.l == ([43]:List UInt8)) then
   let s4←sslc out3 1 (out3.l.length:Int)
   pure (id s4)
  else
   pure (id out3)
theorem jA:∀ (a0:zA) r,pP a0=some r→∀ {imm:Imm}{p c},(S4 imm p a0.Coefs c)→Ret Tryz.prog 215 [vA (cAff a0 p c)] imm [] (zCE  r):=by
 intro a0 r hM imm p c h;unfold pP at hM;refine yF (fn:=Tryz.f215) (c:=(bodyOf Tryz.f215)) Tryz.func215 rfl rfl ?_;rintro B - -;have hle:=iS imm;refine zF<|zB<|sD (cAff a0 p c) ?_;intro b hb;refine zY [] []<|zE<|zF<|zB<|zY [] [(3,vT ([]))]<|zE<|zF<|zF<|zB<|zY [] [(4,vI 0)]<|zE<|yB<|uA [(1,vP b 0),(3,vT ([])),(4,vI 0)] ?_;obtain ⟨o01,ho01,hMl⟩:=zC hM;refine zBR a0 (⟨[]⟩:Str) 0 o01 ho01 iR h (fun _ _ _ h=>h) (fun _ _ h=>h) ?_;intro imm03 out1 heq1 le3;subst o01;have h:=h.mono le3;have hle:=hle.trans le3;refine yC<|zE<|zF<|zF<|zB<|zY [0] [(32,.bool (a0.Const != 0))]<|zE ?_;obtain ⟨o02,ho02,hMc1⟩:=zC hMl;refine yT (fun imm' hs' m'=>∃ (out3:Str),o02=out3∧imm03.le imm'∧hs'=[]∧m'=[(3,vT out3.l)]) ?_ ?_
 · have hle01:=hle;have hle:=iS imm03;refine yP ho02 ?_ ?_
   · intro hc2 hM;refine zB<|yK 3 [0] [(33,vT out1.l),(35,vI a0.Const)] ?_;obtain ⟨y1,hy5,hM⟩:=zC hM;refine yR (eX a0.Const (⟨[]⟩:Str) _ hy5 ) ?_;rintro imm05 hs2 v2 k2 le4 - ⟨v01,rfl,rfl,rfl⟩ -;have h:=h.mono le4;have hle:=hle.trans le4;obtain ⟨s2,hy6,hM⟩:=zC hM;exact kU rfl hy6<|zY [] [(3,vT s2.l)]<|wE (zL [] rfl (by decide))<|yU [(3,vT s2.l)]<|yA ⟨_,(zD hM).symm,hle,rfl,rfl⟩
   intro hc2 hM;exact yD<|wE (zL [] rfl (by decide))<|yU [(3,vT out1.l)]<|yA ⟨_,(zD hM).symm,hle,rfl,rfl⟩
 rintro imm04 hs2 m2 ⟨out3,heq2,le5,rfl,rfl⟩;subst o02;have hle:=hle.trans le5;refine zE<|zF<|zF<|zB<|zY [] [(39,.bool (out3.l == ([]:List UInt8)))]<|zE<|yP hMc1 ?_ ?_
 · intro hc3 hM;refine zF<|zB<|zY [] [(2,vT ([48]))]<|zE<|yJ<|zQ ?_;obtain rfl:=zD hM;exact yQ ⟨_,_,(.tmp rfl ResV.nil),zV,⟨_,rfl,rfl,rfl⟩⟩
 intro hc3 hM;refine yD<|zE<|zF<|zF<|zB<|yK 1 [] [(40,vT out3.l)] ?_;obtain ⟨s3,hy7,hM⟩:=zC hM;refine zDf rfl hy7<|zY [] [(42,.bool (s3.l == ([43]:List UInt8)))]<|zE<|yP hM ?_ ?_
 · intro hc4 hM;refine zF<|zB<|yK 1 [] [(43,vT out3.l)] ?_;obtain ⟨s4,hy8,hM⟩:=zC hM;refine zDf rfl hy8<|zY [] [(2,vT s4.l)]<|zE<|yJ<|zQ ?_;obtain rfl:=zD hM;exact yQ ⟨_,_,(.tmp rfl ResV.nil),zV,⟨_,rfl,rfl,rfl⟩⟩
 intro hc4 hM;refine yD<|zE<|zF<|zB<|zY [] [(2,vT out3.l)]<|zE<|yJ ?_;obtain rfl:=zD hM;exact yQ ⟨_,_,(.tmp rfl ResV.nil),zV,⟨_,rfl,rfl,rfl⟩⟩
def fE (r:Str):KT:=fun kk imm' hs' v=>
  ∃ v0,hs'=[]∧v=tupV [v0]∧v0=.string ⟨⟨r.l⟩⟩
def rZ (a0:zA):Option (Str):=do
 let y←wT a0
 if (!y) then
  pure (⟨[]⟩:Str)
 else
  let y1←pP a0
  pure (id y1)
theorem eY:∀ (a0:zA) r,rZ a0=some r→∀ {imm:Imm}{p c},(S4 imm p a0.Coefs c)→Ret Tryz.prog 222 [vA (cAff a0 p c)] imm [] (fE  r):=by
 intro a0 r hM imm p c h;unfold rZ at hM;refine yF (fn:=Tryz.f222) (c:=(bodyOf Tryz.f222)) Tryz.func222 rfl rfl ?_;rintro B - -;have hle:=iS imm;refine zF<|zB<|sD (cAff a0 p c) ?_;intro b hb;refine zY [] []<|zE<|zF<|zF<|zB<|yK 1 [0] [(3,vA (cAff a0 p c))] ?_;obtain ⟨y,hy,hM⟩:=zC hM;refine yR (pT a0 _ hy h) ?_;rintro imm0 hs2 v2 k2 le - ⟨v0,rfl,rfl,rfl⟩ -;have h:=h.mono le;have hle:=hle.trans le;refine zY [] [(5,.bool (!y))]<|zE<|yP hM ?_ ?_
 · intro hc hM;refine zF<|zB<|zY [] [(2,vT ([]))]<|zE<|yJ<|zQ ?_;obtain rfl:=zD hM;exact yQ ⟨_,_,(.tmp rfl ResV.nil),zV,⟨_,rfl,rfl,rfl⟩⟩
 intro hc hM;refine yD<|zE<|zF<|zB<|yK 1 [0] [(6,vA (cAff a0 p c))] ?_;obtain ⟨y1,hy1,hM⟩:=zC hM;refine yR (jA a0 _ hy1 h) ?_;rintro imm01 hs2 v2 k2 le1 - ⟨v01,rfl,rfl,rfl⟩ -;have h:=h.mono le1;have hle:=hle.trans le1;refine zY [] [(2,vT y1.l)]<|zE<|yJ ?_;obtain rfl:=zD hM;exact yQ ⟨_,_,(.tmp rfl ResV.nil),zV,⟨_,rfl,rfl,rfl⟩⟩
def fR (r:zA×Bool):KT:=fun kk imm' hs' v=>
  ∃ v0 v1,hs'=[]∧v=tupV [v0,v1]∧(∃ cs,v0=.agg ⟨cs⟩∧Rp.rep imm' cs r.1)∧v1=.bool r.2
def tL (text:Str) (at0:Int) (x:zA):Option (zA):=do
 let t18←(do
   if (decide (at0 ≥ 0)) then
    pure (decide (at0 < (text.l.length:Int)))
   else
    pure false
     : Option Bool)
 if t18 then
  let (y2,y3)←nA x text at0
  tL text y3 y2
 else
  pure (id x)
 partial_fixpoint
theorem fF (text:Str):∀ (at0:Int) (x:zA) (o:zA),tL text at0 x=some o→∀ {B}{imm0 imm:Imm}{Q}  {b:Nat}{b1:Nat}{p1 c1},imm0.le imm→(S4 imm p1 x.Coefs c1)→(∀ l a w,¬Q (.goto l) a w)→(∀ a w,¬Q .outgrown a w)→(∀ (imm':Imm) (x1:zA) (p2:Option Addr) (c2:Nat),o=x1→imm0.le imm'→(S4 imm' p2 x1.Coefs c2)→T 32 B Q (.exit 0) imm' [hB b1 (cAff x1 p2 c2),hB b [z0,vI 0]] [(0,vT text.l),(2,vP b 0),(4,vP b1 0)])→J Tryz.prog 32 B (nav (bodyOf Tryz.f210) [1,1,1,1,0,0]) Q imm [hB b1 (cAff x p1 c1),hB b [z0,vI 0]] [(0,vT text.l),(2,vP b 0),(4,vP b1 0),(5,vI at0)]:=by
 refine tL.partial_correctness text _ ?_;intro self ih at0 x o hM B imm0 imm Q b b1 p1 c1 hle h2 hg ho hx;refine xF hg ho<|zF<|zF ?_;obtain ⟨o0,ho0,hMc⟩:=zC hM;refine yT (fun imm' hs' m'=>∃ (t18:Bool),o0=t18∧imm.le imm'∧hs'=[hB b1 (cAff x p1 c1),hB b [z0,vI 0]]∧m'=[(0,vT text.l),(2,vP b 0),(4,vP b1 0),(5,vI at0),(18,.bool t18)]) ?_ ?_
 · have hle0:=hle;have hle:=iS imm;refine zB<|yK 3 [] [(13,.bool (decide (at0 ≥ 0)))] ?_;cases hc1:(decide (at0 ≥ 0)) with
   | true =>
    have hM0:=zU hc1 ho0
    try rw [hc1]
    exact zY [] [(18,.bool (decide (at0 < (text.l.length:Int))))]<|yU [(0,vT text.l),(2,vP b 0),(4,vP b1 0),(5,vI at0),(18,.bool (decide (at0 < (text.l.length:Int))))]<|yA ⟨_,(zD hM0).symm,hle,rfl,rfl⟩
   | false =>
    have hM01:=zS hc1 ho0
    try rw [hc1]
    exact zY [] [(18,.bool false)]<|yU [(0,vT text.l),(2,vP b 0),(4,vP b1 0),(5,vI at0),(18,.bool false)]<|yA ⟨_,(zD hM01).symm,hle,rfl,rfl⟩
 rintro imm02 hs2 m2 ⟨t18,heq,le2,rfl,rfl⟩;subst o0;have h2:=h2.mono le2;have hle:=hle.trans le2;refine zE<|yP hMc ?_ ?_
 · intro hc2 hM;refine yD<|zE<|yB<|zB<|yK 3 [0] [(20,vA (cAff x p1 c1)),(21,vT text.l),(22,vI at0)] ?_;obtain ⟨⟨y2,y3⟩,hy1,hM⟩:=zC hM;refine yR (zC4 x text at0 _ hy1 h2) ?_;rintro imm03 hs2 v2 k2 le3 - ⟨v0,v01,rfl,rfl,⟨cs1,rfl,h4⟩,rfl⟩ -;have h2:=h2.mono le3;have hle:=hle.trans le3;obtain ⟨v02,rfl,h6⟩:=yM h4;obtain ⟨p3,c3,rfl⟩:=h6.form;exact yK 7 [] [(24,vA (cAff y2 p3 c3)),(25,vI y3)]<|xI 0 (cAff y2 p3 c3) [hB b1 (cAff y2 p3 c3),hB b [z0,vI 0]] rfl rfl rfl rfl<|zY [] [(5,vI y3)]<|zW<|xG<|uA [(0,vT text.l),(2,vP b 0),(4,vP b1 0),(5,vI y3)]<|ih y3 y2 _ hM hle h6 hg ho hx
 intro hc2 hM;exact xB<|zT<|zT<|yU [(0,vT text.l),(2,vP b 0),(4,vP b1 0)]<|hx _ _ _ _ (zD hM).symm hle h2
def rG (text:Str):Option (zA×Bool):=do
 let y←rN
 if (decide ((text.l.length:Int) > 40)) then
  pure ((zA.mk ([]:List Int) 0),false)
 else
  let x1←tL text 0 (zA.mk y.Coefs y.Const)
  let y4←rZ x1
  if (!(y4.l == text.l)) then
   pure ((zA.mk ([]:List Int) 0),false)
  else
   pure (x1,true)
theorem kN:∀ (text:Str) r,rG text=some r→∀ {imm:Imm} ,Ret Tryz.prog 210 [vT text.l] imm [] (fR  r):=by
 intro text r hM imm;unfold rG at hM;refine yF (fn:=Tryz.f210) (c:=(bodyOf Tryz.f210)) Tryz.func210 rfl rfl ?_;rintro B - -;have hle:=iS imm;refine zF<|zB<|uJ [z0,vI 0] ?_;intro b hb;refine zY [] []<|zE<|zF<|zB ?_;obtain ⟨y,hy,hM⟩:=zC hM;refine yR (pU  _ hy ) ?_;rintro imm0 hs2 v2 k2 le - ⟨p,c,cs,rfl,rfl,h⟩ -;have hle:=hle.trans le;refine uJ [z0,vI 0] ?_;intro b1 hb1;refine xI 0 (cAff y p c) [hB b1 (cAff y p c),hO Int (vS p y.Coefs c) cs,hB b [z0,vI 0]] rfl rfl rfl rfl<|yN rfl<|zE<|zF<|zF<|zB<|zY [] [(9,.bool (decide ((text.l.length:Int) > 40)))]<|zE<|yP hM ?_ ?_
 · intro hc hM;refine zF<|zB<|yK 1 [] [(10,vA [z0,vI 0])]<|xI 2 [z0,vI 0] [hB b1 (cAff y p c),hO Int (vS p y.Coefs c) cs,hB b [z0,vI 0]] rfl rfl rfl rfl<|zY [] [(3,.bool false)]<|zE<|yJ<|zQ ?_;obtain rfl:=zD hM;exact yQ ⟨_,_,(.cell 2 rfl rfl (by kernel_rfl) (.tmp rfl ResV.nil)),zV,⟨_,_,rfl,rfl,⟨_,rfl,(yO ⟨_,rfl,(SL.nil _)⟩)⟩,rfl⟩⟩
 intro hc hM;refine yD<|zE<|zF<|zB<|zY [] [(5,vI 0)]<|zE<|zF<|yB<|qK 1 rfl ?_;intro imm01 le1 hl0;have h1:=SL.of_frozen hl0 le1 h;have hle:=hle.trans le1;refine uA [(0,vT text.l),(2,vP b 0),(4,vP b1 0),(5,vI 0)] ?_;obtain ⟨o01,ho01,hMl⟩:=zC hM;refine fF text 0 (zA.mk y.Coefs y.Const) o01 ho01 iR h1 (fun _ _ _ h=>h) (fun _ _ h=>h) ?_;intro imm04 x1 p2 c2 heq1 le4 h3;subst o01;have hle:=hle.trans le4;refine yC<|zE<|zF<|zF<|zB<|yK 1 [0] [(26,vA (cAff x1 p2 c2))] ?_;obtain ⟨y4,hy2,hM⟩:=zC hMl;refine yR (eY x1 _ hy2 h3) ?_;rintro imm05 hs2 v2 k2 le5 - ⟨v03,rfl,rfl,rfl⟩ -;have h3:=h3.mono le5;have hle:=hle.trans le5;refine zY [] [(29,.bool (!(y4.l == text.l)))]<|zE<|yP hM ?_ ?_
 · intro hc3 hM;refine zF<|zB<|yK 1 [] [(30,vA [z0,vI 0])]<|xI 1 [z0,vI 0] [hB b1 (cAff x1 p2 c2),hB b [z0,vI 0]] rfl rfl rfl rfl<|zY [] [(3,.bool false)]<|zE<|yJ<|zQ ?_;obtain rfl:=zD hM;exact yQ ⟨_,_,(.cell 1 rfl rfl (by kernel_rfl) (.tmp rfl ResV.nil)),zV,⟨_,_,rfl,rfl,⟨_,rfl,(yO ⟨_,rfl,(SL.nil _)⟩)⟩,rfl⟩⟩
 intro hc3 hM;refine yD<|zE<|zF<|zB<|yK 1 [0] [(31,vA (cAff x1 p2 c2))]<|xI 1 (cAff x1 p2 c2) [hB b1 (cAff x1 p2 c2),hB b (cAff x1 p2 c2)] rfl rfl rfl rfl<|zY [] [(3,.bool true)]<|zE<|yJ ?_;obtain rfl:=zD hM;exact yQ ⟨_,_,(.cell 1 rfl rfl (by kernel_rfl) (.tmp rfl ResV.nil)),zV,⟨_,_,rfl,rfl,⟨_,rfl,(yO ⟨_,rfl,h3⟩)⟩,rfl⟩⟩
def fS (r:(List zA)):KT:=fun kk imm' hs' v=>
  ∃ v0,hs'=[]∧v=tupV [v0]∧SL imm' v0 r
def uK (y:(List Str)) (out:List zA) (i:Int):Option (List zA):=do
 let t18←(do
   if (decide (i < (y.length:Int))) then
    pure (decide (i ≤ 2))
   else
    pure false
     : Option Bool)
 if t18 then
  let x←idx y i
  let (y2,y3)←rG x
  let out2←app 32 out ([y2]:List zA)
  uK y out2 (W (i + 1))
 else
  pure (id out)
 partial_fixpoint
theorem fG (y:(List Str)):∀ (out:List zA) (i:Int) (o:List zA),uK y out i=some o→∀ {B}{imm0 imm:Imm}{Q p c p1 c1 cs},imm0.le imm→(S4 imm p y c)→(RL imm cs out)→(∀ l a w,¬Q (.goto l) a w)→(∀ a w,¬Q .outgrown a w)→(∀ (imm':Imm) (out1:List zA) (p2:Option Addr) (c2:Nat) (cs1:List Value),o=out1→imm0.le imm'→(RL imm' cs1 out1)→T 34 B Q (.exit 0) imm' [hO zA (vS p2 out1 c2) cs1] [(3,vS p2 out1 c2)])→J Tryz.prog 34 B (nav (bodyOf Tryz.f209) [1,1,1,0,1,0]) Q imm [hO zA (vS p1 out c1) cs] [(3,vS p1 out c1),(4,vS p y c),(5,vI i)]:=by
 refine uK.partial_correctness y _ ?_;intro self ih out i o hM B imm0 imm Q p c p1 c1 cs hle h1 h2 hg ho hx;refine xF hg ho<|zF<|zF ?_;obtain ⟨o0,ho0,hMc⟩:=zC hM;refine yT (fun imm' hs' m'=>∃ (t18:Bool),o0=t18∧imm.le imm'∧hs'=[hO zA (vS p1 out c1) cs]∧m'=[(3,vS p1 out c1),(4,vS p y c),(5,vI i),(18,.bool t18)]) ?_ ?_
 · have hle0:=hle;have hle:=iS imm;refine zB<|yK 5 [] [(15,.bool (decide (i < (y.length:Int))))] ?_;cases hc:(decide (i < (y.length:Int))) with
   | true =>
    have hM0:=zU hc ho0
    try rw [hc]
    exact zY [] [(18,.bool (decide (i ≤ 2)))]<|yU [(3,vS p1 out c1),(4,vS p y c),(5,vI i),(18,.bool (decide (i ≤ 2)))]<|yA ⟨_,(zD hM0).symm,hle,rfl,rfl⟩
   | false =>
    have hM01:=zS hc ho0
    try rw [hc]
    exact zY [] [(18,.bool false)]<|yU [(3,vS p1 out c1),(4,vS p y c),(5,vI i),(18,.bool false)]<|yA ⟨_,(zD hM01).symm,hle,rfl,rfl⟩
 rintro imm01 hs2 m2 ⟨t18,heq,le1,rfl,rfl⟩;subst o0;have h2:=iM le1 h2;have h1:=h1.mono le1;have hle:=hle.trans le1;refine zE<|yP hMc ?_ ?_
 · intro hc1 hM;refine yD<|zE<|zF<|yB<|zF<|zB<|yK 2 [] [(22,vS p y c),(23,vI i)] ?_;obtain ⟨x,hy1,hM⟩:=zC hM;refine wJ rfl rfl h1 hy1 ?_;intro ad ccs hat hrep;obtain rfl:=hrep;refine xX 0 hat [vT x.l] (vT x.l) rfl ?_;obtain ⟨⟨y2,y3⟩,hy2,hM⟩:=zC hM;refine yR (kN x _ hy2 ) ?_;rintro imm02 hs2 v2 k2 le2 - ⟨v01,v02,rfl,rfl,⟨cs2,rfl,h4⟩,rfl⟩ -;have h2:=iM le2 h2;have h1:=h1.mono le2;have hle:=hle.trans le2;obtain ⟨v03,rfl,h6⟩:=yM h4;obtain ⟨p3,c3,rfl⟩:=h6.form;refine yK 8 [] [(27,vA (cAff y2 p3 c3)),(28,.bool y3)]<|uJ [z0,vI 0] ?_;intro b1 hb1;refine xI 0 (cAff y2 p3 c3) [hB b1 (cAff y2 p3 c3),hO zA (vS p1 out c1) cs] rfl rfl rfl rfl<|zY [] []<|zE<|zB<|yK 2 [0] [(29,vS p1 out c1),(30,vA (cAff y2 p3 c3))]<|xY (cAff y2 p3 c3) zA ?_;intro b2 hb2;have h7:RL imm02 (cAff y2 p3 c3) ([y2]:List zA):=⟨(cAff y2 p3 c3),_,rfl,rfl,(yO ⟨_,rfl,h6⟩),rfl⟩;obtain ⟨out2,hy3,hM⟩:=zC hM;refine qS 45 2 2 rfl rfl rfl h2 (.inr ⟨0,rfl⟩) h7 hy3 ?_;intro p4 c4 cs3 h8;exact qC (zL [1,2] (hs':=[hB b1 (cAff y2 p3 c3),hO zA (vS p4 out2 c4) cs3]) rfl (by decide))<|zY [] [(3,vS p4 out2 c4)]<|zW<|zE<|zB<|zY [] [(5,vI (W (i + 1)))]<|xG<|qR (zL [1] rfl (by decide))<|uA [(3,vS p4 out2 c4),(4,vS p y c),(5,vI (W (i + 1)))]<|ih out2 (W (i + 1)) _ hM hle h1 h8 hg ho hx
 intro hc1 hM;exact xB<|zT<|zT<|yU [(3,vS p1 out c1)]<|hx _ _ _ _ _ (zD hM).symm hle h2
def qP (text:Str):Option ((List zA)):=do
 let y←nM text (44:UInt8)
 let out1←uK y ([]:List zA) 0
 pure (id out1)
theorem zAC:∀ (text:Str) r,qP text=some r→∀ {imm:Imm} ,Ret Tryz.prog 209 [vT text.l] imm [] (fS  r):=by
 intro text r hM imm;unfold qP at hM;refine yF (fn:=Tryz.f209) (c:=(bodyOf Tryz.f209)) Tryz.func209 rfl rfl ?_;rintro B - -;have hle:=iS imm;refine zF<|zB<|zY [] []<|zE<|zF<|zB<|xY [] zA ?_;intro b hb;have h:RL imm [] ([]:List zA):=rfl;refine zY [] [(3,vS (some ⟨b,0,none⟩) ([]:List zA) 0)]<|zE<|zF<|zB<|yK 1 [] [(9,vT text.l)] ?_;obtain ⟨y,hy,hM⟩:=zC hM;refine yR (zDJ text (44:UInt8) _ hy ) ?_;rintro imm0 hs2 v2 k2 le - ⟨v0,rfl,rfl,h1⟩ -;have h:=iM le h;have hle:=hle.trans le;obtain ⟨p,c,rfl⟩:=h1.form;refine zY [] [(4,vS p y c)]<|zE<|zF<|zF<|zB<|zY [] [(5,vI 0)]<|zE<|yB<|uA [(3,vS (some ⟨b,0,none⟩) ([]:List zA) 0),(4,vS p y c),(5,vI 0)] ?_;obtain ⟨o01,ho01,hMl⟩:=zC hM;refine fG y ([]:List zA) 0 o01 ho01 iR h1 h (fun _ _ _ h=>h) (fun _ _ h=>h) ?_;intro imm03 out1 p2 c2 cs1 heq1 le3 h3;subst o01;have hle:=hle.trans le3;refine yC<|zE<|zF<|zB<|zY [] [(2,vS p2 out1 c2)]<|zE<|yJ<|xL 0 rfl ?_;intro imm04 le4 hl0;have h9:=SL.of_frozen hl0 le4 h3;have hle:=hle.trans le4;obtain rfl:=zD hMl;exact yQ ⟨_,_,(.tmp rfl ResV.nil),zV,⟨_,rfl,rfl,h9⟩⟩
def gO (r:zK×Int):KT:=fun kk imm' hs' v=>
  ∃ v0 v1,hs'=[]∧v=tupV [v0,v1]∧(∃ cs,v0=.agg ⟨cs⟩∧Rp.rep imm' cs r.1)∧v1=.int .i64 r.2
def tU (s:Str) (at0:Int):Option (zK×Int):=do
 let y←pV s at0 (93:UInt8)
 let t20←(do
   if (decide (y < (W (at0 + 2)))) then
    pure true
   else
    let b1←sidx s (W (at0 + 1))
    pure ((b1.toNat:Int) != 91)
     : Option Bool)
 if t20 then
  pure ((zK.mk (⟨[]⟩:Str) ([]:List zA)),(-1))
 else
  let s1←sslc s at0 (W (at0 + 1))
  let s2←sslc s (W (at0 + 2)) y
  let y1←qP s2
  pure ((zK.mk s1 y1),(W (y + 1)))
theorem mJ:∀ (s:Str) (at0:Int) r,tU s at0=some r→∀ {imm:Imm} ,Ret Tryz.prog 191 [vT s.l,vI at0] imm [] (gO  r):=by
 intro s at0 r hM imm;unfold tU at hM;refine yF (fn:=Tryz.f191) (c:=(bodyOf Tryz.f191)) Tryz.func191 rfl rfl ?_;rintro B - -;have hle:=iS imm;refine zF<|zB<|uJ [vT ([]),z0] ?_;intro b hb;refine zY [] []<|zE<|zF<|zB<|yK 2 [] [(7,vT s.l),(8,vI at0)] ?_;obtain ⟨y,hy,hM⟩:=zC hM;refine yR (fP s at0 (93:UInt8) _ hy ) ?_;rintro imm0 hs2 v2 k2 le - ⟨v0,rfl,rfl,rfl⟩ -;have hle:=hle.trans le;refine zY [] [(6,vI y)]<|zE<|zF<|zF ?_;obtain ⟨o0,ho0,hMc⟩:=zC hM;refine yT (fun imm' hs' m'=>∃ (t20:Bool),o0=t20∧imm0.le imm'∧hs'=[hB b [vT ([]),z0]]∧m'=[(0,vT s.l),(1,vI at0),(4,vP b 0),(6,vI y),(20,.bool t20)]) ?_ ?_
 · have hle0:=hle;have hle:=iS imm0;refine zB<|yK 5 [] [(14,.bool (decide (y < (W (at0 + 2)))))] ?_;cases hc:(decide (y < (W (at0 + 2)))) with
   | true =>
    have hM0:=zU hc ho0
    try rw [hc]
    exact zY [] [(20,.bool true)]<|yU [(0,vT s.l),(1,vI at0),(4,vP b 0),(6,vI y),(20,.bool true)]<|yA ⟨_,(zD hM0).symm,hle,rfl,rfl⟩
   | false =>
    have hM01:=zS hc ho0
    try rw [hc]
    refine yK 8 [] [(15,vT s.l),(17,vI (W (at0 + 1)))] ?_;obtain ⟨b1,hy1,hM⟩:=zC hM01;exact jF rfl rfl hy1<|zY [] [(20,.bool ((b1.toNat:Int) != 91))]<|yU [(0,vT s.l),(1,vI at0),(4,vP b 0),(6,vI y),(20,.bool ((b1.toNat:Int) != 91))]<|yA ⟨_,(zD hM).symm,hle,rfl,rfl⟩
 rintro imm01 hs2 m2 ⟨t20,heq,le1,rfl,rfl⟩;subst o0;have hle:=hle.trans le1;refine zE<|yP hMc ?_ ?_
 · intro hc1 hM;refine zF<|zB<|yK 1 [] [(21,vA [vT ([]),z0])]<|xI 0 [vT ([]),z0] [hB b [vT ([]),z0]] rfl rfl rfl rfl<|zY [] [(5,vI (-1))]<|zE<|yJ<|zQ ?_;obtain rfl:=zD hM;exact yQ ⟨_,_,(.cell 0 rfl rfl (by kernel_rfl) (.tmp rfl ResV.nil)),zV,⟨_,_,rfl,rfl,⟨_,rfl,(qH ⟨_,rfl,(SL.nil _)⟩)⟩,rfl⟩⟩
 intro hc1 hM;refine yD<|zE<|zF ?_;obtain ⟨s1,hy2,hM⟩:=zC hM;obtain ⟨s2,hy3,hM⟩:=zC hM;obtain ⟨y1,hy4,hM⟩:=zC hM;refine vZ [.p (vT s.l) [],.p (vI at0) [],.p (vI at0) [],.p (vI (W (at0 + 1))) [],.q (vT s1.l),.p (vT s.l) [],.p (vI at0) [],.p (vI (W (at0 + 2))) [],.p (vI y) [],.q (vT s2.l),.x (fun imm' v hx=>∃ p c,v=vS p y1 c∧hx=[]∧(S4 imm' p y1 c)),.x (fun imm' v hx=>∃ p1 c1,v=vA [vT s1.l,vS p1 y1 c1]∧hx=[]∧(S4 imm' p1 y1 c1)),.p (vI y) [],.p (vI (W (y + 1))) [],.x (fun imm' v hx=>∃ p11 c11,hx=[hB b [vT s1.l,vS p11 y1 c11]]∧(S4 imm' p11 y1 c11))] [[],[],[],[(2,false)],[(0,false),(1,false),(3,false)],[],[],[(6,false)],[],[(5,false),(7,false),(8,false)],[(9,false)],[(4,false),(10,false)],[],[(12,false)],[(11,false),(16,true)]] [] [[hB b [vT ([]),z0]]] [(13,false),(14,true)] (zL [0] rfl (by decide)) ?_ ?_
 · refine Op<|Op<|Op<|Op<|Oq ?_<|Op<|Op<|Op<|Op<|Oq ?_<|Ox ?_<|Ox ?_<|Op<|Op<|Ox ?_<|On
   · intro imm1 hf le1;refine zG ?_;rintro _ _ ⟨rfl,rfl⟩;refine zG ?_;rintro _ _ ⟨rfl,rfl⟩;refine zG ?_;rintro _ _ ⟨rfl,rfl⟩;refine zN<|yG [(22,vT s.l),(23,vI at0),(25,vI (W (at0 + 1)))] ?_;have hle:=iS imm1;exact zDf rfl hy2<|zX (hx:=[]) rfl hle rfl (zM rfl) ⟨rfl,rfl⟩
   · intro imm1 hf le1;refine zG ?_;rintro _ _ ⟨rfl,rfl⟩;refine zG ?_;rintro _ _ ⟨rfl,rfl⟩;refine zG ?_;rintro _ _ ⟨rfl,rfl⟩;refine zN<|yG [(27,vT s.l),(29,vI (W (at0 + 2))),(30,vI y)] ?_;have hle:=iS imm1;exact zDf rfl hy3<|zX (hx:=[]) rfl hle rfl (zM rfl) ⟨rfl,rfl⟩
   · intro imm1 hf le1;refine zG ?_;rintro _ _ ⟨rfl,rfl⟩;refine zN<|yG [(31,vT s2.l)] ?_;have hle:=iS imm1;refine yR (zAC s2 _ hy4 ) ?_;rintro imm02 hs2 v2 k2 le2 - ⟨v01,rfl,rfl,h1⟩ -;have hle:=hle.trans le2;obtain ⟨p,c,rfl⟩:=h1.form;exact zX (hx:=[]) rfl hle rfl (zM rfl) ⟨_,_,rfl,rfl,h1⟩
   · intro imm1 hf le1;refine zG ?_;rintro _ _ ⟨rfl,rfl⟩;refine zG ?_;rintro _ _ ⟨p,c,rfl,rfl,h1⟩;refine zN<|yG [(26,vT s1.l),(32,vS p y1 c)] ?_;have hle:=iS imm1;exact qQ 12 [(33,vA [vT s1.l,vS p y1 c])]<|zX (hx:=[]) rfl hle rfl (zM rfl) ⟨_,_,rfl,rfl,h1⟩
   intro imm1 hf le1;refine zG ?_;rintro _ _ ⟨p1,c1,rfl,rfl,h11⟩;refine zG ?_;rintro _ _ rfl;refine zN<|yG [(4,vP b 0),(33,vA [vT s1.l,vS p1 y1 c1])] ?_;have hle:=iS imm1;exact xI 0 [vT s1.l,vS p1 y1 c1] (hB b [vT s1.l,vS p1 y1 c1]::hf) rfl rfl rfl rfl<|zX (hx:=[hB b [vT s1.l,vS p1 y1 c1]]) rfl hle rfl (zGb (v:=undef)) ⟨_,_,rfl,h11⟩
 intro imm03 le3;refine zG ?_;rintro _ _ ⟨rfl,rfl⟩;refine zG ?_;rintro _ _ ⟨p11,c11,rfl,h111⟩;refine zN<|yG [(4,vP b 0),(35,vI (W (y + 1)))] ?_;have hle:=hle.trans le3;refine zY [] [(5,vI (W (y + 1)))]<|zE<|yJ ?_;obtain rfl:=zD hM;exact yQ ⟨_,_,(.cell 0 rfl rfl (by kernel_rfl) (.tmp rfl ResV.nil)),zV,⟨_,_,rfl,rfl,⟨_,rfl,(qH ⟨_,rfl,h111⟩)⟩,rfl⟩⟩
def jT (r:zH×Int):KT:=fun kk imm' hs' v=>
  ∃ v0 v1,hs'=[]∧v=tupV [v0,v1]∧(∃ cs,v0=.agg ⟨cs⟩∧Rp.rep imm' cs r.1)∧v1=.int .i64 r.2
def mD (r:zH×Int):KT:=fun kk imm' hs' v=>
  ∃ v0 v1,hs'=[]∧v=tupV [v0,v1]∧(∃ cs,v0=.agg ⟨cs⟩∧Rp.rep imm' cs r.1)∧v1=.int .i64 r.2
mutual
def nB (s:Str) (at0:Int) (levels:Int):Option (zH×Int):=do
 let (y1,y2)←sK (same s) (same at0) (same levels)
 let t27←(do
   if (decide (y2 < 0)) then
    pure true
   else
    pure (decide (y2 ≥ (s.l.length:Int)))
     : Option Bool)
 if t27 then
  pure ((zH.mk 0 0 (zA.mk ([]:List Int) 0) (zK.mk (⟨[]⟩:Str) ([]:List zA)) ([]:List zH)),(-1))
 else
  let b2←sidx s y2
  let kind←(do
    if ((b2.toNat:Int) == 45) then
     pure (id 5)
    else
     let kind1←(do
       if ((b2.toNat:Int) == 42) then
        pure (id 6)
       else
        pure (id 4)
         : Option Int)
     pure (id kind1)
      : Option Int)
  let (y4,y5)←sK (same s) (W (y2 + 1)) (same levels)
  let t51←(do
    if (decide (y5 < 0)) then
     pure true
    else
     pure (decide (y5 ≥ (s.l.length:Int)))
      : Option Bool)
  if t51 then
   pure ((zH.mk 0 0 (zA.mk ([]:List Int) 0) (zK.mk (⟨[]⟩:Str) ([]:List zA)) ([]:List zH)),(-1))
  else
   pure ((zH.mk kind 0 (zA.mk ([]:List Int) 0) (zK.mk (⟨[]⟩:Str) ([]:List zA)) ([y1,y4]:List zH)),(W (y5 + 1)))
 partial_fixpoint
def sK (s:Str) (at0:Int) (levels:Int):Option (zH×Int):=do
 let t26←(do
   if (decide (levels < 1)) then
    pure true
   else
    if (decide (at0 < 0)) then
     pure true
    else
     pure (decide (at0 ≥ (s.l.length:Int)))
     : Option Bool)
 if t26 then
  pure ((zH.mk 0 0 (zA.mk ([]:List Int) 0) (zK.mk (⟨[]⟩:Str) ([]:List zA)) ([]:List zH)),(-1))
 else
  let b1←sidx s at0
  if ((b1.toNat:Int) == 123) then
   let y←pV s at0 (125:UInt8)
   if (decide (y < 0)) then
    pure ((zH.mk 0 0 (zA.mk ([]:List Int) 0) (zK.mk (⟨[]⟩:Str) ([]:List zA)) ([]:List zH)),(-1))
   else
    let s1←sslc s (W (at0 + 1)) y
    let (y2,y3)←rG s1
    pure ((zH.mk 2 0 y2 (zK.mk (⟨[]⟩:Str) ([]:List zA)) ([]:List zH)),(W (y + 1)))
  else
   let t52←(do
     let b3←sidx s at0
     if (decide ((b3.toNat:Int) ≥ 65)) then
      let b4←sidx s at0
      pure (decide ((b4.toNat:Int) ≤ 68))
     else
      pure false
       : Option Bool)
   if t52 then
    let (y5,y6)←tU s at0
    pure ((zH.mk 3 0 (zA.mk ([]:List Int) 0) y5 ([]:List zH)),y6)
   else
    let b6←sidx s at0
    if ((b6.toNat:Int) == 40) then
     let (y8,y9)←nB (same s) (W (at0 + 1)) (W (levels - 1))
     pure (y8,y9)
    else
     let (y11,y12)←qW s at0
     if (y12 == at0) then
      pure ((zH.mk 0 0 (zA.mk ([]:List Int) 0) (zK.mk (⟨[]⟩:Str) ([]:List zA)) ([]:List zH)),(-1))
     else
      pure ((zH.mk 1 y11 (zA.mk ([]:List Int) 0) (zK.mk (⟨[]⟩:Str) ([]:List zA)) ([]:List zH)),y12)
 partial_fixpoint
end
theorem zCF:(∀ (s:Str) (at0:Int) (levels:Int) r,nB s at0 levels=some r→∀ {imm:Imm} ,Ret Tryz.prog 211 [vT s.l,vI at0,vI levels] imm [] (jT  r))∧(∀ (s:Str) (at0:Int) (levels:Int) r,sK s at0 levels=some r→∀ {imm:Imm} ,Ret Tryz.prog 192 [vT s.l,vI at0,vI levels] imm [] (mD  r)):=by
  refine nB.mutual_partial_correctness (fun s at0 levels r=>∀ {imm:Imm} ,Ret Tryz.prog 211 [vT s.l,vI at0,vI levels] imm [] (jT  r)) (fun s at0 levels r=>∀ {imm:Imm} ,Ret Tryz.prog 192 [vT s.l,vI at0,vI levels] imm [] (mD  r)) ?_ ?_
  · intro F_spec_l3Parse ih_spec_l3Parse s at0 levels r hM imm;refine yF (fn:=Tryz.f211) (c:=(bodyOf Tryz.f211)) Tryz.func211 rfl rfl ?_;rintro B - -;have hle:=iS imm;refine zF<|zB<|uJ zExpr ?_;intro b hb;refine zY [] []<|zE<|zF<|zB<|yK 3 [] [(14,vT s.l),(15,vI at0),(16,vI levels)] ?_;obtain ⟨⟨y1,y2⟩,hy,hM⟩:=zC hM;refine yR (ih_spec_l3Parse s at0 levels _ hy ) ?_;rintro imm0 hs2 v2 k2 le - ⟨v0,v01,rfl,rfl,⟨cs,rfl,h⟩,rfl⟩ -;have hle:=hle.trans le;obtain ⟨v02,v03,v04,rfl,h2,h3,h4⟩:=wF h;obtain ⟨p,c,rfl⟩:=h2.form;obtain ⟨p1,c1,rfl⟩:=h3.form;obtain ⟨p2,c2,rfl⟩:=h4.form;refine yK 7 [] [(18,vA (cExpr y1 p c p1 c1 p2 c2)),(19,vI y2)]<|uJ zExpr ?_;intro b1 hb1;refine xI 0 (cExpr y1 p c p1 c1 p2 c2) [hB b1 (cExpr y1 p c p1 c1 p2 c2),hB b zExpr] rfl rfl rfl rfl<|zY [] [(9,vI y2)]<|zE<|zF<|zF ?_;obtain ⟨o0,ho0,hMc⟩:=zC hM;refine yT (fun imm' hs' m'=>∃ (t27:Bool),o0=t27∧imm0.le imm'∧hs'=[hB b1 (cExpr y1 p c p1 c1 p2 c2),hB b zExpr]∧m'=[(0,vT s.l),(2,vI levels),(6,vP b 0),(8,vP b1 0),(9,vI y2),(27,.bool t27)]) ?_ ?_
    · have hle0:=hle;have hle:=iS imm0;refine zB<|yK 3 [] [(22,.bool (decide (y2 < 0)))] ?_;cases hc:(decide (y2 < 0)) with
      | true =>
       have hM0:=zU hc ho0
       try rw [hc]
       exact zY [] [(27,.bool true)]<|yU [(0,vT s.l),(2,vI levels),(6,vP b 0),(8,vP b1 0),(9,vI y2),(27,.bool true)]<|yA ⟨_,(zD hM0).symm,hle,rfl,rfl⟩
      | false =>
       have hM01:=zS hc ho0
       try rw [hc]
       exact zY [] [(27,.bool (decide (y2 ≥ (s.l.length:Int))))]<|yU [(0,vT s.l),(2,vI levels),(6,vP b 0),(8,vP b1 0),(9,vI y2),(27,.bool (decide (y2 ≥ (s.l.length:Int))))]<|yA ⟨_,(zD hM01).symm,hle,rfl,rfl⟩
    rintro imm01 hs2 m2 ⟨t27,heq,le1,rfl,rfl⟩;subst o0;have h2:=h2.mono le1;have h3:=h3.mono le1;have h4:=h4.mono le1;have hle:=hle.trans le1;refine zE<|yP hMc ?_ ?_
    · intro hc1 hM;refine zF<|zB<|yK 1 [] [(28,vA zExpr)]<|xI 1 zExpr [hB b1 (cExpr y1 p c p1 c1 p2 c2),hB b zExpr] rfl rfl rfl rfl<|zY [] [(7,vI (-1))]<|zE<|yJ<|zQ ?_;obtain rfl:=zD hM;exact yQ ⟨_,_,(.cell 1 rfl rfl (by kernel_rfl) (.tmp rfl ResV.nil)),zV,⟨_,_,rfl,rfl,⟨_,rfl,(xM ⟨_,_,_,rfl,(SL.nil _),(SL.nil _),(SL.nil _)⟩)⟩,rfl⟩⟩
    intro hc1 hM;refine yD<|zE<|zF<|zB<|zY [] [(10,vI 4)]<|zE<|zF<|zF<|zB<|yK 2 [] [(29,vT s.l),(30,vI y2)] ?_;obtain ⟨b2,hy1,hM⟩:=zC hM;refine jF rfl rfl hy1<|yN rfl<|zE<|yB<|zF<|zB<|zY [] [(32,.bool ((b2.toNat:Int) == 45))]<|zE ?_;obtain ⟨o01,ho01,hMc1⟩:=zC hM;refine yT (fun imm' hs' m'=>∃ (kind:Int),o01=kind∧imm01.le imm'∧hs'=[hB b1 (cExpr y1 p c p1 c1 p2 c2),hB b zExpr]∧m'=[(0,vT s.l),(2,vI levels),(6,vP b 0),(8,vP b1 0),(9,vI y2),(10,vI kind)]) ?_ ?_
    · have hle01:=hle;have hle:=iS imm01;refine yP ho01 ?_ ?_
      · intro hc2 hM;exact zB<|zY [] [(10,vI 5)]<|yU [(0,vT s.l),(2,vI levels),(6,vP b 0),(8,vP b1 0),(9,vI y2),(10,vI 5)]<|yA ⟨_,(zD hM).symm,hle,rfl,rfl⟩
      intro hc2 hM;refine zF<|zB<|zY [] [(34,.bool ((b2.toNat:Int) == 42))]<|zE ?_;obtain ⟨o02,ho02,hMc2⟩:=zC hM;refine yT (fun imm' hs' m'=>∃ (kind1:Int),o02=kind1∧imm01.le imm'∧hs'=[hB b1 (cExpr y1 p c p1 c1 p2 c2),hB b zExpr]∧m'=[(0,vT s.l),(2,vI levels),(6,vP b 0),(8,vP b1 0),(9,vI y2),(10,vI kind1)]) ?_ ?_
      · have hle02:=hle;have hle:=iS imm01;refine yP ho02 ?_ ?_
        · intro hc3 hM;exact zB<|zY [] [(10,vI 6)]<|yU [(0,vT s.l),(2,vI levels),(6,vP b 0),(8,vP b1 0),(9,vI y2),(10,vI 6)]<|yA ⟨_,(zD hM).symm,hle,rfl,rfl⟩
        intro hc3 hM;exact yD<|yU [(0,vT s.l),(2,vI levels),(6,vP b 0),(8,vP b1 0),(9,vI y2),(10,vI 4)]<|yA ⟨_,(zD hM).symm,hle,rfl,rfl⟩
      rintro imm03 hs2 m2 ⟨kind1,heq1,le2,rfl,rfl⟩;subst o02;have h2:=h2.mono le2;have h3:=h3.mono le2;have h4:=h4.mono le2;have hle:=hle.trans le2;exact yU [(0,vT s.l),(2,vI levels),(6,vP b 0),(8,vP b1 0),(9,vI y2),(10,vI kind1)]<|yA ⟨_,(zD hMc2).symm,hle,rfl,rfl⟩
    rintro imm02 hs2 m2 ⟨kind,heq2,le3,rfl,rfl⟩;subst o01;have h2:=h2.mono le3;have h3:=h3.mono le3;have h4:=h4.mono le3;have hle:=hle.trans le3;refine zW<|zE<|zF<|zB<|yK 4 [] [(37,vT s.l),(39,vI (W (y2 + 1))),(40,vI levels)] ?_;obtain ⟨⟨y4,y5⟩,hy2,hM⟩:=zC hMc1;refine yR (ih_spec_l3Parse s (W (y2 + 1)) levels _ hy2 ) ?_;rintro imm04 hs2 v2 k2 le4 - ⟨v05,v06,rfl,rfl,⟨cs1,rfl,h5⟩,rfl⟩ -;have h2:=h2.mono le4;have h3:=h3.mono le4;have h4:=h4.mono le4;have hle:=hle.trans le4;obtain ⟨v07,v08,v09,rfl,h7,h8,h9⟩:=wF h5;obtain ⟨p3,c3,rfl⟩:=h7.form;obtain ⟨p4,c4,rfl⟩:=h8.form;obtain ⟨p5,c5,rfl⟩:=h9.form;refine yK 8 [] [(42,vA (cExpr y4 p3 c3 p4 c4 p5 c5)),(43,vI y5)]<|uJ zExpr ?_;intro b3 hb2;refine xI 0 (cExpr y4 p3 c3 p4 c4 p5 c5) [hB b3 (cExpr y4 p3 c3 p4 c4 p5 c5),hB b1 (cExpr y1 p c p1 c1 p2 c2),hB b zExpr] rfl rfl rfl rfl<|zY [] [(12,vI y5)]<|zE<|zF<|zF ?_;obtain ⟨o03,ho03,hMc3⟩:=zC hM;refine yT (fun imm' hs' m'=>∃ (t51:Bool),o03=t51∧imm04.le imm'∧hs'=[hB b3 (cExpr y4 p3 c3 p4 c4 p5 c5),hB b1 (cExpr y1 p c p1 c1 p2 c2),hB b zExpr]∧m'=[(6,vP b 0),(8,vP b1 0),(10,vI kind),(11,vP b3 0),(12,vI y5),(51,.bool t51)]) ?_ ?_
    · have hle03:=hle;have hle:=iS imm04;refine zB<|yK 3 [] [(46,.bool (decide (y5 < 0)))] ?_;cases hc4:(decide (y5 < 0)) with
      | true =>
       have hM02:=zU hc4 ho03
       try rw [hc4]
       exact zY [] [(51,.bool true)]<|yU [(6,vP b 0),(8,vP b1 0),(10,vI kind),(11,vP b3 0),(12,vI y5),(51,.bool true)]<|yA ⟨_,(zD hM02).symm,hle,rfl,rfl⟩
      | false =>
       have hM03:=zS hc4 ho03
       try rw [hc4]
       exact zY [] [(51,.bool (decide (y5 ≥ (s.l.length:Int))))]<|yU [(6,vP b 0),(8,vP b1 0),(10,vI kind),(11,vP b3 0),(12,vI y5),(51,.bool (decide (y5 ≥ (s.l.length:Int))))]<|yA ⟨_,(zD hM03).symm,hle,rfl,rfl⟩
    rintro imm05 hs2 m2 ⟨t51,heq3,le5,rfl,rfl⟩;subst o03;have h7:=h7.mono le5;have h8:=h8.mono le5;have h9:=h9.mono le5;have h2:=h2.mono le5;have h3:=h3.mono le5;have h4:=h4.mono le5;have hle:=hle.trans le5;refine zE<|yP hMc3 ?_ ?_
    · intro hc5 hM;refine zF<|zB<|yK 1 [] [(52,vA zExpr)]<|xI 2 zExpr [hB b3 (cExpr y4 p3 c3 p4 c4 p5 c5),hB b1 (cExpr y1 p c p1 c1 p2 c2),hB b zExpr] rfl rfl rfl rfl<|zY [] [(7,vI (-1))]<|zE<|yJ<|zQ ?_;obtain rfl:=zD hM;exact yQ ⟨_,_,(.cell 2 rfl rfl (by kernel_rfl) (.tmp rfl ResV.nil)),zV,⟨_,_,rfl,rfl,⟨_,rfl,(xM ⟨_,_,_,rfl,(SL.nil _),(SL.nil _),(SL.nil _)⟩)⟩,rfl⟩⟩
    intro hc5 hM;refine yD<|zE<|zF<|zB<|yK 3 [1,0] [(53,vI kind),(54,vA (cExpr y1 p c p1 c1 p2 c2)),(55,vA (cExpr y4 p3 c3 p4 c4 p5 c5))]<|xY [vI y1.Kind,vI y1.Num,vS p y1.Index.Coefs c,vI y1.Index.Const,vT y1.Read.Array.l,vS p1 y1.Read.Subs c1,vS p2 y1.Kids c2,vI y4.Kind,vI y4.Num,vS p3 y4.Index.Coefs c3,vI y4.Index.Const,vT y4.Read.Array.l,vS p4 y4.Read.Subs c4,vS p5 y4.Kids c5] zH ?_;intro b4 hb3;have h10:RL imm05 [vI y1.Kind,vI y1.Num,vS p y1.Index.Coefs c,vI y1.Index.Const,vT y1.Read.Array.l,vS p1 y1.Read.Subs c1,vS p2 y1.Kids c2,vI y4.Kind,vI y4.Num,vS p3 y4.Index.Coefs c3,vI y4.Index.Const,vT y4.Read.Array.l,vS p4 y4.Read.Subs c4,vS p5 y4.Kids c5] ([y1,y4]:List zH):=⟨(cExpr y1 p c p1 c1 p2 c2),_,rfl,rfl,(xM ⟨_,_,_,rfl,h2,h3,h4⟩),⟨(cExpr y4 p3 c3 p4 c4 p5 c5),_,rfl,rfl,(xM ⟨_,_,_,rfl,h7,h8,h9⟩),rfl⟩⟩;refine yK 7 [] [(57,vA [vI kind,vI 0,z0,vI 0,vT ([]),z0,vS (some ⟨b4,0,none⟩) ([y1,y4]:List zH) 2]),(59,vI (W (y5 + 1)))]<|xI 3 [vI kind,vI 0,z0,vI 0,vT ([]),z0,vS (some ⟨b4,0,none⟩) ([y1,y4]:List zH) 2] [hO zH (vS (some ⟨b4,0,none⟩) ([y1,y4]:List zH) 2) [vI y1.Kind,vI y1.Num,vS p y1.Index.Coefs c,vI y1.Index.Const,vT y1.Read.Array.l,vS p1 y1.Read.Subs c1,vS p2 y1.Kids c2,vI y4.Kind,vI y4.Num,vS p3 y4.Index.Coefs c3,vI y4.Index.Const,vT y4.Read.Array.l,vS p4 y4.Read.Subs c4,vS p5 y4.Kids c5],hB b3 (cExpr y4 p3 c3 p4 c4 p5 c5),hB b1 (cExpr y1 p c p1 c1 p2 c2),hB b [vI kind,vI 0,z0,vI 0,vT ([]),z0,vS (some ⟨b4,0,none⟩) ([y1,y4]:List zH) 2]] rfl rfl rfl rfl<|zY [] [(7,vI (W (y5 + 1)))]<|zE<|yJ<|xL 0 rfl ?_;intro imm06 le6 hl0;have h11:=SL.of_frozen hl0 le6 h10;have h7:=h7.mono le6;have h8:=h8.mono le6;have h9:=h9.mono le6;have h2:=h2.mono le6;have h3:=h3.mono le6;have h4:=h4.mono le6;have hle:=hle.trans le6;obtain rfl:=zD hM;exact yQ ⟨_,_,(.cell 2 rfl rfl (by kernel_rfl) (.tmp rfl ResV.nil)),zV,⟨_,_,rfl,rfl,⟨_,rfl,(xM ⟨_,_,_,rfl,(SL.nil _),(SL.nil _),h11⟩)⟩,rfl⟩⟩
  intro F_spec_l3Round ih_spec_l3Round s at0 levels r hM imm;refine yF (fn:=Tryz.f192) (c:=(bodyOf Tryz.f192)) Tryz.func192 rfl rfl ?_;rintro B - -;have hle:=iS imm;refine zF<|zB<|uJ zExpr ?_;intro b hb;refine zY [] []<|zE<|zF<|zF ?_;obtain ⟨o0,ho0,hMc⟩:=zC hM;refine yT (fun imm' hs' m'=>∃ (t26:Bool),o0=t26∧imm.le imm'∧hs'=[hB b zExpr]∧m'=[(0,vT s.l),(1,vI at0),(2,vI levels),(6,vP b 0),(26,.bool t26)]) ?_ ?_
  · have hle0:=hle;have hle:=iS imm;refine zB<|yK 3 [] [(17,.bool (decide (levels < 1)))] ?_;cases hc:(decide (levels < 1)) with
    | true =>
     have hM0:=zU hc ho0
     try rw [hc]
     exact zY [] [(26,.bool true)]<|yU [(0,vT s.l),(1,vI at0),(2,vI levels),(6,vP b 0),(26,.bool true)]<|yA ⟨_,(zD hM0).symm,hle,rfl,rfl⟩
    | false =>
     have hM01:=zS hc ho0
     try rw [hc]
     refine yK 7 [] [(21,.bool (decide (at0 < 0)))] ?_;cases hc1:(decide (at0 < 0)) with
     | true =>
      have hM02:=zU hc1 hM01
      try rw [hc1]
      exact zY [] [(26,.bool true)]<|yU [(0,vT s.l),(1,vI at0),(2,vI levels),(6,vP b 0),(26,.bool true)]<|yA ⟨_,(zD hM02).symm,hle,rfl,rfl⟩
     | false =>
      have hM03:=zS hc1 hM01
      try rw [hc1]
      exact zY [] [(26,.bool (decide (at0 ≥ (s.l.length:Int))))]<|yU [(0,vT s.l),(1,vI at0),(2,vI levels),(6,vP b 0),(26,.bool (decide (at0 ≥ (s.l.length:Int))))]<|yA ⟨_,(zD hM03).symm,hle,rfl,rfl⟩
  rintro imm0 hs2 m2 ⟨t26,heq,le,rfl,rfl⟩;subst o0;have hle:=hle.trans le;refine zE<|yP hMc ?_ ?_
  · intro hc2 hM;refine zF<|zB<|yK 1 [] [(27,vA zExpr)]<|xI 0 zExpr [hB b zExpr] rfl rfl rfl rfl<|zY [] [(7,vI (-1))]<|zE<|yJ<|zQ ?_;obtain rfl:=zD hM;exact yQ ⟨_,_,(.cell 0 rfl rfl (by kernel_rfl) (.tmp rfl ResV.nil)),zV,⟨_,_,rfl,rfl,⟨_,rfl,(xM ⟨_,_,_,rfl,(SL.nil _),(SL.nil _),(SL.nil _)⟩)⟩,rfl⟩⟩
  intro hc2 hM;refine yD<|zE<|zF<|yB<|zF<|zB<|yK 2 [] [(29,vT s.l),(30,vI at0)] ?_;obtain ⟨b1,hy,hM⟩:=zC hM;refine jF rfl rfl hy<|zY [] [(28,.bool ((b1.toNat:Int) == 123))]<|zE<|yP hM ?_ ?_
  · intro hc3 hM;refine zF<|zB<|yK 2 [] [(33,vT s.l),(34,vI at0)] ?_;obtain ⟨y,hy1,hM⟩:=zC hM;refine yR (fP s at0 (125:UInt8) _ hy1 ) ?_;rintro imm01 hs2 v2 k2 le1 - ⟨v0,rfl,rfl,rfl⟩ -;have hle:=hle.trans le1;refine zY [] [(8,vI y)]<|zE<|zF<|zF<|zB<|zY [] [(37,.bool (decide (y < 0)))]<|zE<|yP hM ?_ ?_
    · intro hc4 hM;refine zF<|zB<|yK 1 [] [(38,vA zExpr)]<|xI 0 zExpr [hB b zExpr] rfl rfl rfl rfl<|zY [] [(7,vI (-1))]<|zE<|yJ<|zQ<|yE<|zQ ?_;obtain rfl:=zD hM;exact yQ ⟨_,_,(.cell 0 rfl rfl (by kernel_rfl) (.tmp rfl ResV.nil)),zV,⟨_,_,rfl,rfl,⟨_,rfl,(xM ⟨_,_,_,rfl,(SL.nil _),(SL.nil _),(SL.nil _)⟩)⟩,rfl⟩⟩
    intro hc4 hM;refine yD<|zE<|zF<|zB<|yK 4 [] [(40,vT s.l),(42,vI (W (at0 + 1))),(43,vI y)] ?_;obtain ⟨s1,hy2,hM⟩:=zC hM;refine zDf rfl hy2 ?_;obtain ⟨⟨y2,y3⟩,hy3,hM⟩:=zC hM;refine yR (kN s1 _ hy3 ) ?_;rintro imm02 hs2 v2 k2 le2 - ⟨v01,v02,rfl,rfl,⟨cs,rfl,h1⟩,rfl⟩ -;have hle:=hle.trans le2;obtain ⟨v03,rfl,h3⟩:=yM h1;obtain ⟨p,c,rfl⟩:=h3.form;refine yK 9 [] [(46,vA (cAff y2 p c)),(47,.bool y3)]<|uJ [z0,vI 0] ?_;intro b2 hb1;refine xI 0 (cAff y2 p c) [hB b2 (cAff y2 p c),hB b zExpr] rfl rfl rfl rfl<|zY [] []<|zE<|zF<|zB<|yK 4 [0] [(49,vA [vI 2,vI 0,vS p y2.Coefs c,vI y2.Const,vT ([]),z0,z0]),(51,vI (W (y + 1)))]<|xI 1 [vI 2,vI 0,vS p y2.Coefs c,vI y2.Const,vT ([]),z0,z0] [hB b2 (cAff y2 p c),hB b [vI 2,vI 0,vS p y2.Coefs c,vI y2.Const,vT ([]),z0,z0]] rfl rfl rfl rfl<|zY [] [(7,vI (W (y + 1)))]<|zE<|yJ<|yE<|zQ ?_;obtain rfl:=zD hM;exact yQ ⟨_,_,(.cell 1 rfl rfl (by kernel_rfl) (.tmp rfl ResV.nil)),zV,⟨_,_,rfl,rfl,⟨_,rfl,(xM ⟨_,_,_,rfl,h3,(SL.nil _),(SL.nil _)⟩)⟩,rfl⟩⟩
  intro hc3 hM;refine zF ?_;obtain ⟨o01,ho01,hMc1⟩:=zC hM;refine yT (fun imm' hs' m'=>∃ (t52:Bool),o01=t52∧imm0.le imm'∧hs'=[hB b zExpr]∧m'=[(0,vT s.l),(1,vI at0),(2,vI levels),(6,vP b 0),(52,.bool t52)]) ?_ ?_
  · have hle01:=hle;have hle:=iS imm0;refine zB<|yK 2 [] [(53,vT s.l),(54,vI at0)] ?_;obtain ⟨b3,hy4,hM⟩:=zC ho01;refine jF rfl rfl hy4<|yK 5 [] [(57,.bool (decide ((b3.toNat:Int) ≥ 65)))] ?_;cases hc5:(decide ((b3.toNat:Int) ≥ 65)) with
    | true =>
     have hM04:=zU hc5 hM
     try rw [hc5]
     refine yK 7 [] [(58,vT s.l),(59,vI at0)] ?_;obtain ⟨b4,hy5,hM⟩:=zC hM04;exact jF rfl rfl hy5<|zY [] [(52,.bool (decide ((b4.toNat:Int) ≤ 68)))]<|yU [(0,vT s.l),(1,vI at0),(2,vI levels),(6,vP b 0),(52,.bool (decide ((b4.toNat:Int) ≤ 68)))]<|yA ⟨_,(zD hM).symm,hle,rfl,rfl⟩
    | false =>
     have hM05:=zS hc5 hM
     try rw [hc5]
     exact zY [] [(52,.bool false)]<|yU [(0,vT s.l),(1,vI at0),(2,vI levels),(6,vP b 0),(52,.bool false)]<|yA ⟨_,(zD hM05).symm,hle,rfl,rfl⟩
  rintro imm03 hs2 m2 ⟨t52,heq1,le3,rfl,rfl⟩;subst o01;have hle:=hle.trans le3;refine zE<|yP hMc1 ?_ ?_
  · intro hc6 hM;refine zF<|zB<|yK 2 [] [(64,vT s.l),(65,vI at0)] ?_;obtain ⟨⟨y5,y6⟩,hy6,hM⟩:=zC hM;refine yR (mJ s at0 _ hy6 ) ?_;rintro imm04 hs2 v2 k2 le4 - ⟨v04,v05,rfl,rfl,⟨cs1,rfl,h4⟩,rfl⟩ -;have hle:=hle.trans le4;obtain ⟨v06,rfl,h6⟩:=sX h4;obtain ⟨p1,c1,rfl⟩:=h6.form;refine yK 6 [] [(67,vA (cAccess y5 p1 c1)),(68,vI y6)]<|uJ [vT ([]),z0] ?_;intro b5 hb2;refine xI 0 (cAccess y5 p1 c1) [hB b5 (cAccess y5 p1 c1),hB b zExpr] rfl rfl rfl rfl<|zY [] [(12,vI y6)]<|zE<|zF<|zB<|yK 3 [0] [(70,vA [vI 3,vI 0,z0,vI 0,vT y5.Array.l,vS p1 y5.Subs c1,z0]),(71,vI y6)]<|xI 1 [vI 3,vI 0,z0,vI 0,vT y5.Array.l,vS p1 y5.Subs c1,z0] [hB b5 (cAccess y5 p1 c1),hB b [vI 3,vI 0,z0,vI 0,vT y5.Array.l,vS p1 y5.Subs c1,z0]] rfl rfl rfl rfl<|zY [] [(7,vI y6)]<|zE<|yJ<|yE<|zQ ?_;obtain rfl:=zD hM;exact yQ ⟨_,_,(.cell 1 rfl rfl (by kernel_rfl) (.tmp rfl ResV.nil)),zV,⟨_,_,rfl,rfl,⟨_,rfl,(xM ⟨_,_,_,rfl,(SL.nil _),h6,(SL.nil _)⟩)⟩,rfl⟩⟩
  intro hc6 hM;refine zF<|zB<|yK 2 [] [(73,vT s.l),(74,vI at0)] ?_;obtain ⟨b6,hy7,hM⟩:=zC hM;refine jF rfl rfl hy7<|zY [] [(72,.bool ((b6.toNat:Int) == 40))]<|zE<|yP hM ?_ ?_
  · intro hc7 hM;refine zF<|zB<|yK 5 [] [(77,vT s.l),(79,vI (W (at0 + 1))),(81,vI (W (levels - 1)))] ?_;obtain ⟨⟨y8,y9⟩,hy8,hM⟩:=zC hM;refine yR (ih_spec_l3Round s (W (at0 + 1)) (W (levels - 1)) _ hy8 ) ?_;rintro imm05 hs2 v2 k2 le5 - ⟨v07,v08,rfl,rfl,⟨cs2,rfl,h7⟩,rfl⟩ -;have hle:=hle.trans le5;obtain ⟨v09,v010,v011,rfl,h9,h10,h11⟩:=wF h7;obtain ⟨p2,c2,rfl⟩:=h9.form;obtain ⟨p3,c3,rfl⟩:=h10.form;obtain ⟨p4,c4,rfl⟩:=h11.form;refine yK 8 [] [(83,vA (cExpr y8 p2 c2 p3 c3 p4 c4)),(84,vI y9)]<|xI 0 (cExpr y8 p2 c2 p3 c3 p4 c4) [hB b (cExpr y8 p2 c2 p3 c3 p4 c4)] rfl rfl rfl rfl<|zY [] [(7,vI y9)]<|zE<|yJ<|yE<|zQ ?_;obtain rfl:=zD hM;exact yQ ⟨_,_,(.cell 0 rfl rfl (by kernel_rfl) (.tmp rfl ResV.nil)),zV,⟨_,_,rfl,rfl,⟨_,rfl,(xM ⟨_,_,_,rfl,h9,h10,h11⟩)⟩,rfl⟩⟩
  intro hc7 hM;refine yD<|zW<|zE<|zF<|zB<|yK 2 [] [(86,vT s.l),(87,vI at0)] ?_;obtain ⟨⟨y11,y12⟩,hy9,hM⟩:=zC hM;refine yR (gM s at0 _ hy9 ) ?_;rintro imm06 hs2 v2 k2 le6 - ⟨v012,v013,rfl,rfl,rfl,rfl⟩ -;have hle:=hle.trans le6;refine zY [] [(13,vI y11),(14,vI y12)]<|zE<|zF<|zF<|zB<|zY [] [(93,.bool (y12 == at0))]<|zE<|yP hM ?_ ?_
  · intro hc8 hM;refine zF<|zB<|yK 1 [] [(94,vA zExpr)]<|xI 0 zExpr [hB b zExpr] rfl rfl rfl rfl<|zY [] [(7,vI (-1))]<|zE<|yJ<|zQ ?_;obtain rfl:=zD hM;exact yQ ⟨_,_,(.cell 0 rfl rfl (by kernel_rfl) (.tmp rfl ResV.nil)),zV,⟨_,_,rfl,rfl,⟨_,rfl,(xM ⟨_,_,_,rfl,(SL.nil _),(SL.nil _),(SL.nil _)⟩)⟩,rfl⟩⟩
  intro hc8 hM;refine yD<|zE<|zF<|zB<|yK 3 [] [(96,vA [vI 1,vI y11,z0,vI 0,vT ([]),z0,z0]),(97,vI y12)]<|xI 0 [vI 1,vI y11,z0,vI 0,vT ([]),z0,z0] [hB b [vI 1,vI y11,z0,vI 0,vT ([]),z0,z0]] rfl rfl rfl rfl<|zY [] [(7,vI y12)]<|zE<|yJ ?_;obtain rfl:=zD hM;exact yQ ⟨_,_,(.cell 0 rfl rfl (by kernel_rfl) (.tmp rfl ResV.nil)),zV,⟨_,_,rfl,rfl,⟨_,rfl,(xM ⟨_,_,_,rfl,(SL.nil _),(SL.nil _),(SL.nil _)⟩)⟩,rfl⟩⟩
theorem zC5:∀ (s:Str) (at0:Int) (levels:Int) r,sK s at0 levels=some r→∀ {imm:Imm} ,Ret Tryz.prog 192 [vT s.l,vI at0,vI levels] imm [] (mD  r):=zCF.2
def eZ (r:Str):KT:=fun kk imm' hs' v=>
  ∃ v0,hs'=[]∧v=tupV [v0]∧v0=.string ⟨⟨r.l⟩⟩
def uP (list:(List zA)) (out:Str) (i:Int):Option (Str):=do
 if (decide (i < (list.length:Int))) then
  let out2←(do
    if (decide (i > 0)) then
     let s←cat out (⟨[44]⟩:Str)
     pure (id s)
    else
     pure (id out)
      : Option Str)
  let x←idx list i
  let y←pP x
  let s1←cat out2 y
  uP list s1 (W (i + 1))
 else
  pure (id out)
 partial_fixpoint
theorem fT (list:(List zA)):∀ (out:Str) (i:Int) (o:Str),uP list out i=some o→∀ {B}{imm0 imm:Imm}{Q p c},imm0.le imm→(S4 imm p list c)→(∀ l a w,¬Q (.goto l) a w)→(∀ a w,¬Q .outgrown a w)→(∀ (imm':Imm) (out1:Str),o=out1→imm0.le imm'→T 23 B Q (.exit 0) imm' [] [(3,vT out1.l)])→J Tryz.prog 23 B (nav (bodyOf Tryz.f214) [1,1,0,1,0]) Q imm [] [(0,vS p list c),(3,vT out.l),(4,vI i)]:=by
 refine uP.partial_correctness list _ ?_;intro self ih out i o hM B imm0 imm Q p c hle h hg ho hx;refine xF hg ho<|zF<|zF<|zB<|zY [] [(8,.bool (decide (i < (list.length:Int))))]<|zE<|yP hM ?_ ?_
 · intro hc hM;refine yD<|zE<|zF<|yB<|zF<|zF<|zB<|zY [] [(12,.bool (decide (i > 0)))]<|zE ?_;obtain ⟨o0,ho0,hMc⟩:=zC hM;refine yT (fun imm' hs' m'=>∃ (out2:Str),o0=out2∧imm.le imm'∧hs'=[]∧m'=[(0,vS p list c),(3,vT out2.l),(4,vI i)]) ?_ ?_
   · have hle0:=hle;have hle:=iS imm;refine yP ho0 ?_ ?_
     · intro hc1 hM;refine zB<|yK 1 [] [(13,vT out.l)] ?_;obtain ⟨s,hy,hM⟩:=zC hM;exact kU rfl hy<|zY [] [(3,vT s.l)]<|yU [(0,vS p list c),(3,vT s.l),(4,vI i)]<|yA ⟨_,(zD hM).symm,hle,rfl,rfl⟩
     intro hc1 hM;exact yD<|yU [(0,vS p list c),(3,vT out.l),(4,vI i)]<|yA ⟨_,(zD hM).symm,hle,rfl,rfl⟩
   rintro imm0 hs2 m2 ⟨out2,heq,le,rfl,rfl⟩;subst o0;have h:=h.mono le;have hle:=hle.trans le;refine zE<|zB<|yK 3 [] [(15,vT out2.l),(16,vS p list c),(17,vI i)] ?_;obtain ⟨x,hy1,hM⟩:=zC hMc;refine wJ rfl rfl h hy1 ?_;intro ad ccs hat hrep;obtain ⟨v0,rfl,h1⟩:=yM hrep;obtain ⟨p1,c1,rfl⟩:=h1.form;refine xX 0 hat (cAff x p1 c1) (vA (cAff x p1 c1)) rfl ?_;obtain ⟨y,hy2,hM⟩:=zC hM;refine yR (jA x _ hy2 h1) ?_;rintro imm01 hs2 v2 k2 le1 - ⟨v01,rfl,rfl,rfl⟩ -;have h:=h.mono le1;have hle:=hle.trans le1;obtain ⟨s1,hy3,hM⟩:=zC hM;exact kU rfl hy3<|zY [] [(3,vT s1.l)]<|zW<|zE<|zB<|zY [] [(4,vI (W (i + 1)))]<|xG<|uA [(0,vS p list c),(3,vT s1.l),(4,vI (W (i + 1)))]<|ih s1 (W (i + 1)) _ hM hle h hg ho hx
 intro hc hM;exact xB<|zT<|zT<|yU [(3,vT out.l)]<|hx _ _ (zD hM).symm hle
def pE (list:(List zA)):Option (Str):=do
 let out1←uP list (⟨[]⟩:Str) 0
 pure (id out1)
theorem zA8:∀ (list:(List zA)) r,pE list=some r→∀ {imm:Imm}{p c},(S4 imm p list c)→Ret Tryz.prog 214 [vS p list c] imm [] (eZ  r):=by
 intro list r hM imm p c h;unfold pE at hM;refine yF (fn:=Tryz.f214) (c:=(bodyOf Tryz.f214)) Tryz.func214 rfl rfl ?_;rintro B - -;have hle:=iS imm;refine zF<|zB<|zY [] []<|zE<|zF<|zB<|zY [] [(3,vT ([]))]<|zE<|zF<|zF<|zB<|zY [] [(4,vI 0)]<|zE<|yB<|uA [(0,vS p list c),(3,vT ([])),(4,vI 0)] ?_;obtain ⟨o01,ho01,hMl⟩:=zC hM;refine fT list (⟨[]⟩:Str) 0 o01 ho01 iR h (fun _ _ _ h=>h) (fun _ _ h=>h) ?_;intro imm02 out1 heq1 le2;subst o01;have hle:=hle.trans le2;refine yC<|zE<|zF<|zB<|zY [] [(2,vT out1.l)]<|zE<|yJ ?_;obtain rfl:=zD hMl;exact yQ ⟨_,_,(.tmp rfl ResV.nil),zV,⟨_,rfl,rfl,rfl⟩⟩
def fH (r:Str):KT:=fun kk imm' hs' v=>
  ∃ v0,hs'=[]∧v=tupV [v0]∧v0=.string ⟨⟨r.l⟩⟩
def sP (a0:zK):Option (Str):=do
 let s←cat a0.Array (⟨[91]⟩:Str)
 let y←pE a0.Subs
 let s1←cat s y
 let s2←cat s1 (⟨[93]⟩:Str)
 pure (id s2)
theorem mZ:∀ (a0:zK) r,sP a0=some r→∀ {imm:Imm}{p c},(S4 imm p a0.Subs c)→Ret Tryz.prog 201 [vA (cAccess a0 p c)] imm [] (fH  r):=by
 intro a0 r hM imm p c h;unfold sP at hM;refine yF (fn:=Tryz.f201) (c:=(bodyOf Tryz.f201)) Tryz.func201 rfl rfl ?_;rintro B - -;have hle:=iS imm;refine zF<|zB<|sD (cAccess a0 p c) ?_;intro b hb;refine zY [] []<|zE<|zF ?_;obtain ⟨s,hy,hM⟩:=zC hM;obtain ⟨y,hy1,hM⟩:=zC hM;obtain ⟨s1,hy2,hM⟩:=zC hM;obtain ⟨s2,hy3,hM⟩:=zC hM;refine vZ [.p (vP b 0) [],.p (vT a0.Array.l) [0],.q (vT s.l),.p (vP b 1) [],.p (vS p a0.Subs c) [0],.q (vT y.l),.q (vT s1.l),.q (vT s2.l)] [[],[(0,false)],[(1,false)],[],[(3,false)],[(4,false)],[(2,false),(5,false)],[(6,false)]] [hB b (cAccess a0 p c)] [] [(7,false)] (zL [0] rfl (by decide)) ?_ ?_
 · refine Op<|Op<|Oq ?_<|Op<|Op<|Oq ?_<|Oq ?_<|Oq ?_<|On
   · intro imm1 hf le1;refine zG ?_;rintro _ _ ⟨rfl,rfl⟩;refine zN<|yG [(4,vT a0.Array.l)] ?_;have hle:=iS imm1;exact kU rfl hy<|zX (hx:=[]) rfl hle rfl (zM rfl) ⟨rfl,rfl⟩
   · intro imm1 hf le1;refine zG ?_;rintro _ _ ⟨rfl,rfl⟩;refine zN<|yG [(7,vS p a0.Subs c)] ?_;have hle:=iS imm1;have h:=h.mono le1;refine yR (zA8 a0.Subs _ hy1 h) ?_;rintro imm0 hs2 v2 k2 le - ⟨v0,rfl,rfl,rfl⟩ -;have h:=h.mono le;have hle:=hle.trans le;exact zX (hx:=[]) rfl hle rfl (zM rfl) ⟨rfl,rfl⟩
   · intro imm1 hf le1;refine zG ?_;rintro _ _ ⟨rfl,rfl⟩;refine zG ?_;rintro _ _ ⟨rfl,rfl⟩;refine zN<|yG [(5,vT s.l),(8,vT y.l)] ?_;have hle:=iS imm1;exact kU rfl hy2<|zX (hx:=[]) rfl hle rfl (zM rfl) ⟨rfl,rfl⟩
   intro imm1 hf le1;refine zG ?_;rintro _ _ ⟨rfl,rfl⟩;refine zN<|yG [(9,vT s1.l)] ?_;have hle:=iS imm1;exact kU rfl hy3<|zX (hx:=[]) rfl hle rfl (zM rfl) ⟨rfl,rfl⟩
 intro imm01 le1;refine zG ?_;rintro _ _ ⟨rfl,rfl⟩;refine zN<|yG [(10,vT s2.l)] ?_;have h:=h.mono le1;have hle:=hle.trans le1;refine zY [] [(2,vT s2.l)]<|zE<|yJ ?_;obtain rfl:=zD hM;exact yQ ⟨_,_,(.tmp rfl ResV.nil),zV,⟨_,rfl,rfl,rfl⟩⟩
def gQ (r:Str):KT:=fun kk imm' hs' v=>
  ∃ v0,hs'=[]∧v=tupV [v0]∧v0=.string ⟨⟨r.l⟩⟩
def sA (e0:zH):Option (Str):=do
 if (e0.Kind == 1) then
  let y←tZ e0.Num
  pure (id y)
 else
  if (e0.Kind == 2) then
   let y1←pP e0.Index
   let s←cat (⟨[123]⟩:Str) y1
   let s1←cat s (⟨[125]⟩:Str)
   pure (id s1)
  else
   if (e0.Kind == 3) then
    let y2←sP e0.Read
    pure (id y2)
   else
    let x←idx e0.Kids 0
    let y3←sA (same x)
    let s2←cat (⟨[40]⟩:Str) y3
    let s3←sslc (⟨[43,45,42]⟩:Str) (W (e0.Kind - 4)) (W ((W (e0.Kind - 4)) + 1))
    let s4←cat s2 s3
    let x1←idx e0.Kids 1
    let y4←sA (same x1)
    let s5←cat s4 y4
    let s6←cat s5 (⟨[41]⟩:Str)
    pure (id s6)
 partial_fixpoint
theorem zDM:∀ (e0:zH) r,sA e0=some r→∀ {imm:Imm}{p c p1 c1 p2 c2},(S4 imm p e0.Index.Coefs c)→(S4 imm p1 e0.Read.Subs c1)→(S4 imm p2 e0.Kids c2)→Ret Tryz.prog 202 [vA (cExpr e0 p c p1 c1 p2 c2)] imm [] (gQ  r):=by
 refine sA.partial_correctness (fun e0 r=>∀ {imm:Imm}{p c p1 c1 p2 c2},(S4 imm p e0.Index.Coefs c)→(S4 imm p1 e0.Read.Subs c1)→(S4 imm p2 e0.Kids c2)→Ret Tryz.prog 202 [vA (cExpr e0 p c p1 c1 p2 c2)] imm [] (gQ  r)) ?_;intro F_spec_l3Text ih_spec_l3Text e0 r hM imm p c p1 c1 p2 c2 h h1 h2;refine yF (fn:=Tryz.f202) (c:=(bodyOf Tryz.f202)) Tryz.func202 rfl rfl ?_;rintro B - -;have hle:=iS imm;refine zF<|zB<|sD (cExpr e0 p c p1 c1 p2 c2) ?_;intro b hb;refine zY [] []<|zE<|zF<|zF<|zB<|zY [0] [(4,vI e0.Kind)]<|zE<|yB<|zF<|zB<|zY [] [(5,.bool (e0.Kind == 1))]<|zE<|yP hM ?_ ?_
 · intro hc hM;refine zF<|zB<|yK 2 [0] [(8,vI e0.Num)] ?_;obtain ⟨y,hy,hM⟩:=zC hM;refine yR (kZ e0.Num _ hy ) ?_;rintro imm0 hs2 v2 k2 le - ⟨v0,rfl,rfl,rfl⟩ -;have h:=h.mono le;have h1:=h1.mono le;have h2:=h2.mono le;have hle:=hle.trans le;refine zY [] [(2,vT y.l)]<|zE<|yJ<|yE<|zQ ?_;obtain rfl:=zD hM;exact yQ ⟨_,_,(.tmp rfl ResV.nil),zV,⟨_,rfl,rfl,rfl⟩⟩
 intro hc hM;refine zF<|zB<|zY [] [(10,.bool (e0.Kind == 2))]<|zE<|yP hM ?_ ?_
 · intro hc1 hM;refine zF<|zB<|yK 2 [0] [(13,vA (cAff e0.Index p c))] ?_;obtain ⟨y1,hy1,hM⟩:=zC hM;refine yR (jA e0.Index _ hy1 h) ?_;rintro imm01 hs2 v2 k2 le1 - ⟨v01,rfl,rfl,rfl⟩ -;have h:=h.mono le1;have h1:=h1.mono le1;have h2:=h2.mono le1;have hle:=hle.trans le1;obtain ⟨s,hy2,hM⟩:=zC hM;refine kU rfl hy2 ?_;obtain ⟨s1,hy3,hM⟩:=zC hM;refine kU rfl hy3<|zY [] [(2,vT s1.l)]<|zE<|yJ<|yE<|zQ ?_;obtain rfl:=zD hM;exact yQ ⟨_,_,(.tmp rfl ResV.nil),zV,⟨_,rfl,rfl,rfl⟩⟩
 intro hc1 hM;refine zF<|zB<|zY [] [(17,.bool (e0.Kind == 3))]<|zE<|yP hM ?_ ?_
 · intro hc2 hM;refine zF<|zB<|yK 2 [0] [(20,vA (cAccess e0.Read p1 c1))] ?_;obtain ⟨y2,hy4,hM⟩:=zC hM;refine yR (mZ e0.Read _ hy4 h1) ?_;rintro imm02 hs2 v2 k2 le2 - ⟨v02,rfl,rfl,rfl⟩ -;have h:=h.mono le2;have h1:=h1.mono le2;have h2:=h2.mono le2;have hle:=hle.trans le2;refine zY [] [(2,vT y2.l)]<|zE<|yJ<|yE<|zQ ?_;obtain rfl:=zD hM;exact yQ ⟨_,_,(.tmp rfl ResV.nil),zV,⟨_,rfl,rfl,rfl⟩⟩
 intro hc2 hM;refine yD<|zW<|zE<|zF ?_;obtain ⟨x,hy5,hM⟩:=zC hM;obtain ⟨y3,hy6,hM⟩:=zC hM;obtain ⟨s2,hy7,hM⟩:=zC hM;obtain ⟨s3,hy8,hM⟩:=zC hM;obtain ⟨s4,hy9,hM⟩:=zC hM;obtain ⟨x1,hy10,hM⟩:=zC hM;obtain ⟨y4,hy11,hM⟩:=zC hM;obtain ⟨s5,hy12,hM⟩:=zC hM;obtain ⟨s6,hy13,hM⟩:=zC hM;refine vZ [.p (vP b 6) [],.p (vS p2 e0.Kids c2) [0],.x (fun imm' v hx=>∃ ad p3 c3 p4 c4 p5 c5,v=.pointer (some ad)∧hx=[]∧(At imm' ad (cExpr x p3 c3 p4 c4 p5 c5))∧(S4 imm' p3 x.Index.Coefs c3)∧(S4 imm' p4 x.Read.Subs c4)∧(S4 imm' p5 x.Kids c5)),.x (fun imm' v hx=>∃ p31 c31 p41 c41 p51 c51,v=vA (cExpr x p31 c31 p41 c41 p51 c51)∧hx=[]∧(S4 imm' p31 x.Index.Coefs c31)∧(S4 imm' p41 x.Read.Subs c41)∧(S4 imm' p51 x.Kids c51)),.q (vT y3.l),.q (vT s2.l),.p (vP b 0) [],.p (vI e0.Kind) [0],.p (vI (W (e0.Kind - 4))) [],.p (vP b 0) [],.p (vI e0.Kind) [0],.p (vI (W (e0.Kind - 4))) [],.p (vI (W ((W (e0.Kind - 4)) + 1))) [],.q (vT s3.l),.q (vT s4.l),.p (vP b 6) [],.p (vS p2 e0.Kids c2) [0],.x (fun imm' v hx=>∃ ad1 p6 c6 p7 c7 p8 c8,v=.pointer (some ad1)∧hx=[]∧(At imm' ad1 (cExpr x1 p6 c6 p7 c7 p8 c8))∧(S4 imm' p6 x1.Index.Coefs c6)∧(S4 imm' p7 x1.Read.Subs c7)∧(S4 imm' p8 x1.Kids c8)),.x (fun imm' v hx=>∃ p61 c61 p71 c71 p81 c81,v=vA (cExpr x1 p61 c61 p71 c71 p81 c81)∧hx=[]∧(S4 imm' p61 x1.Index.Coefs c61)∧(S4 imm' p71 x1.Read.Subs c71)∧(S4 imm' p81 x1.Kids c81)),.q (vT y4.l),.q (vT s5.l),.q (vT s6.l)] [[],[(0,false)],[(1,false)],[(2,false)],[(3,false)],[(4,false)],[],[(6,false)],[(7,false)],[],[(9,false)],[(10,false)],[(11,false)],[(8,false),(12,false)],[(5,false),(13,false)],[],[(15,false)],[(16,false)],[(17,false)],[(18,false)],[(14,false),(19,false)],[(20,false)]] [hB b (cExpr e0 p c p1 c1 p2 c2)] [] [(21,false)] (zL [0] rfl (by decide)) ?_ ?_
 · refine Op<|Op<|Ox ?_<|Ox ?_<|Oq ?_<|Oq ?_<|Op<|Op<|Op<|Op<|Op<|Op<|Op<|Oq ?_<|Oq ?_<|Op<|Op<|Ox ?_<|Ox ?_<|Oq ?_<|Oq ?_<|Oq ?_<|On
   · intro imm1 hf le1;refine zG ?_;rintro _ _ ⟨rfl,rfl⟩;refine zN<|yG [(23,vS p2 e0.Kids c2)] ?_;have hle:=iS imm1;have h2:=h2.mono le1;refine wJ rfl rfl h2 hy5 ?_;intro ad ccs hat hrep;obtain ⟨v03,v04,v05,rfl,h6,h7,h8⟩:=wF hrep;obtain ⟨p3,c3,rfl⟩:=h6.form;obtain ⟨p4,c4,rfl⟩:=h7.form;obtain ⟨p5,c5,rfl⟩:=h8.form;exact zX (hx:=[]) rfl hle rfl (zM rfl) ⟨_,_,_,_,_,_,_,rfl,rfl,hat,h6,h7,h8⟩
   · intro imm1 hf le1;refine zG ?_;rintro _ _ ⟨ad,p3,c3,p4,c4,p5,c5,rfl,rfl,hat,h6,h7,h8⟩;refine zN<|yG [(24,.pointer (some ad))] ?_;have hle:=iS imm1;exact xX 0 hat (cExpr x p3 c3 p4 c4 p5 c5) (vA (cExpr x p3 c3 p4 c4 p5 c5)) rfl<|zX (hx:=[]) rfl hle rfl (zM rfl) ⟨_,_,_,_,_,_,rfl,rfl,h6,h7,h8⟩
   · intro imm1 hf le1;refine zG ?_;rintro _ _ ⟨p31,c31,p41,c41,p51,c51,rfl,rfl,h61,h71,h81⟩;refine zN<|yG [(25,vA (cExpr x p31 c31 p41 c41 p51 c51))] ?_;have hle:=iS imm1;have h:=h.mono le1;have h1:=h1.mono le1;have h2:=h2.mono le1;refine yR (ih_spec_l3Text x _ hy6 h61 h71 h81) ?_;rintro imm03 hs2 v2 k2 le3 - ⟨v06,rfl,rfl,rfl⟩ -;have h61:=h61.mono le3;have h71:=h71.mono le3;have h81:=h81.mono le3;have h:=h.mono le3;have h1:=h1.mono le3;have h2:=h2.mono le3;have hle:=hle.trans le3;exact zX (hx:=[]) rfl hle rfl (zM rfl) ⟨rfl,rfl⟩
   · intro imm1 hf le1;refine zG ?_;rintro _ _ ⟨rfl,rfl⟩;refine zN<|yG [(26,vT y3.l)] ?_;have hle:=iS imm1;exact kU rfl hy7<|zX (hx:=[]) rfl hle rfl (zM rfl) ⟨rfl,rfl⟩
   · intro imm1 hf le1;refine zG ?_;rintro _ _ ⟨rfl,rfl⟩;refine zG ?_;rintro _ _ ⟨rfl,rfl⟩;refine zN<|yG [(30,vI (W (e0.Kind - 4))),(34,vI (W ((W (e0.Kind - 4)) + 1)))] ?_;have hle:=iS imm1;exact zDf rfl hy8<|zX (hx:=[]) rfl hle rfl (zM rfl) ⟨rfl,rfl⟩
   · intro imm1 hf le1;refine zG ?_;rintro _ _ ⟨rfl,rfl⟩;refine zG ?_;rintro _ _ ⟨rfl,rfl⟩;refine zN<|yG [(27,vT s2.l),(35,vT s3.l)] ?_;have hle:=iS imm1;exact kU rfl hy9<|zX (hx:=[]) rfl hle rfl (zM rfl) ⟨rfl,rfl⟩
   · intro imm1 hf le1;refine zG ?_;rintro _ _ ⟨rfl,rfl⟩;refine zN<|yG [(38,vS p2 e0.Kids c2)] ?_;have hle:=iS imm1;have h2:=h2.mono le1;refine wJ rfl rfl h2 hy10 ?_;intro ad1 ccs1 hat1 hrep1;obtain ⟨v07,v08,v09,rfl,h10,h11,h12⟩:=wF hrep1;obtain ⟨p6,c6,rfl⟩:=h10.form;obtain ⟨p7,c7,rfl⟩:=h11.form;obtain ⟨p8,c8,rfl⟩:=h12.form;exact zX (hx:=[]) rfl hle rfl (zM rfl) ⟨_,_,_,_,_,_,_,rfl,rfl,hat1,h10,h11,h12⟩
   · intro imm1 hf le1;refine zG ?_;rintro _ _ ⟨ad1,p6,c6,p7,c7,p8,c8,rfl,rfl,hat1,h10,h11,h12⟩;refine zN<|yG [(39,.pointer (some ad1))] ?_;have hle:=iS imm1;exact xX 0 hat1 (cExpr x1 p6 c6 p7 c7 p8 c8) (vA (cExpr x1 p6 c6 p7 c7 p8 c8)) rfl<|zX (hx:=[]) rfl hle rfl (zM rfl) ⟨_,_,_,_,_,_,rfl,rfl,h10,h11,h12⟩
   · intro imm1 hf le1;refine zG ?_;rintro _ _ ⟨p61,c61,p71,c71,p81,c81,rfl,rfl,h101,h111,h121⟩;refine zN<|yG [(40,vA (cExpr x1 p61 c61 p71 c71 p81 c81))] ?_;have hle:=iS imm1;have h:=h.mono le1;have h1:=h1.mono le1;have h2:=h2.mono le1;refine yR (ih_spec_l3Text x1 _ hy11 h101 h111 h121) ?_;rintro imm04 hs2 v2 k2 le4 - ⟨v010,rfl,rfl,rfl⟩ -;have h101:=h101.mono le4;have h111:=h111.mono le4;have h121:=h121.mono le4;have h:=h.mono le4;have h1:=h1.mono le4;have h2:=h2.mono le4;have hle:=hle.trans le4;exact zX (hx:=[]) rfl hle rfl (zM rfl) ⟨rfl,rfl⟩
   · intro imm1 hf le1;refine zG ?_;rintro _ _ ⟨rfl,rfl⟩;refine zG ?_;rintro _ _ ⟨rfl,rfl⟩;refine zN<|yG [(36,vT s4.l),(41,vT y4.l)] ?_;have hle:=iS imm1;exact kU rfl hy12<|zX (hx:=[]) rfl hle rfl (zM rfl) ⟨rfl,rfl⟩
   intro imm1 hf le1;refine zG ?_;rintro _ _ ⟨rfl,rfl⟩;refine zN<|yG [(42,vT s5.l)] ?_;have hle:=iS imm1;exact kU rfl hy13<|zX (hx:=[]) rfl hle rfl (zM rfl) ⟨rfl,rfl⟩
 intro imm05 le5;refine zG ?_;rintro _ _ ⟨rfl,rfl⟩;refine zN<|yG [(43,vT s6.l)] ?_;have h:=h.mono le5;have h1:=h1.mono le5;have h2:=h2.mono le5;have hle:=hle.trans le5;refine zY [] [(2,vT s6.l)]<|zE<|yJ ?_;obtain rfl:=zD hM;exact yQ ⟨_,_,(.tmp rfl ResV.nil),zV,⟨_,rfl,rfl,rfl⟩⟩
def dA (r:Str):KT:=fun kk imm' hs' v=>
  ∃ v0,hs'=[]∧v=tupV [v0]∧v0=.string ⟨⟨r.l⟩⟩
def pF (s:zR):Option (Str):=do
 let y←uY s 4
 if (!y) then
  pure (⟨[]⟩:Str)
 else
  let y1←sP s.Write
  let s1←cat y1 (⟨[61]⟩:Str)
  let y2←sA s.Value
  let s2←cat s1 y2
  pure (id s2)
theorem zA9:∀ (s:zR) r,pF s=some r→∀ {imm:Imm}{p c p1 c1 p2 c2 p3 c3},(S4 imm p s.Write.Subs c)→(S4 imm p1 s.Value.Index.Coefs c1)→(S4 imm p2 s.Value.Read.Subs c2)→(S4 imm p3 s.Value.Kids c3)→Ret Tryz.prog 193 [vA (cStmt s p c p1 c1 p2 c2 p3 c3)] imm [] (dA  r):=by
 intro s r hM imm p c p1 c1 p2 c2 p3 c3 h h1 h2 h3;unfold pF at hM;refine yF (fn:=Tryz.f193) (c:=(bodyOf Tryz.f193)) Tryz.func193 rfl rfl ?_;rintro B - -;have hle:=iS imm;refine zF<|zB<|sD (cStmt s p c p1 c1 p2 c2 p3 c3) ?_;intro b hb;refine zY [] []<|zE<|zF<|zF<|zB<|yK 1 [0] [(3,vA (cStmt s p c p1 c1 p2 c2 p3 c3))] ?_;obtain ⟨y,hy,hM⟩:=zC hM;refine yR (nZ s 4 _ hy h h1 h2 h3) ?_;rintro imm0 hs2 v2 k2 le - ⟨v0,rfl,rfl,rfl⟩ -;have h:=h.mono le;have h1:=h1.mono le;have h2:=h2.mono le;have h3:=h3.mono le;have hle:=hle.trans le;refine zY [] [(5,.bool (!y))]<|zE<|yP hM ?_ ?_
 · intro hc hM;refine zF<|zB<|zY [] [(2,vT ([]))]<|zE<|yJ<|zQ ?_;obtain rfl:=zD hM;exact yQ ⟨_,_,(.tmp rfl ResV.nil),zV,⟨_,rfl,rfl,rfl⟩⟩
 intro hc hM;refine yD<|zE<|zF ?_;obtain ⟨y1,hy1,hM⟩:=zC hM;obtain ⟨s1,hy2,hM⟩:=zC hM;obtain ⟨y2,hy3,hM⟩:=zC hM;obtain ⟨s2,hy4,hM⟩:=zC hM;refine vZ [.p (vP b 0) [],.p (vA (cAccess s.Write p c)) [0],.q (vT y1.l),.q (vT s1.l),.p (vP b 2) [],.p (vA (cExpr s.Value p1 c1 p2 c2 p3 c3)) [0],.q (vT y2.l),.q (vT s2.l)] [[],[(0,false)],[(1,false)],[(2,false)],[],[(4,false)],[(5,false)],[(3,false),(6,false)]] [hB b (cStmt s p c p1 c1 p2 c2 p3 c3)] [] [(7,false)] (zL [0] rfl (by decide)) ?_ ?_
 · refine Op<|Op<|Oq ?_<|Oq ?_<|Op<|Op<|Oq ?_<|Oq ?_<|On
   · intro imm1 hf le1;refine zG ?_;rintro _ _ ⟨rfl,rfl⟩;refine zN<|yG [(7,vA (cAccess s.Write p c))] ?_;have hle:=iS imm1;have h:=h.mono le1;have h1:=h1.mono le1;have h2:=h2.mono le1;have h3:=h3.mono le1;refine yR (mZ s.Write _ hy1 h) ?_;rintro imm01 hs2 v2 k2 le1 - ⟨v01,rfl,rfl,rfl⟩ -;have h:=h.mono le1;have h1:=h1.mono le1;have h2:=h2.mono le1;have h3:=h3.mono le1;have hle:=hle.trans le1;exact zX (hx:=[]) rfl hle rfl (zM rfl) ⟨rfl,rfl⟩
   · intro imm1 hf le1;refine zG ?_;rintro _ _ ⟨rfl,rfl⟩;refine zN<|yG [(8,vT y1.l)] ?_;have hle:=iS imm1;exact kU rfl hy2<|zX (hx:=[]) rfl hle rfl (zM rfl) ⟨rfl,rfl⟩
   · intro imm1 hf le1;refine zG ?_;rintro _ _ ⟨rfl,rfl⟩;refine zN<|yG [(11,vA (cExpr s.Value p1 c1 p2 c2 p3 c3))] ?_;have hle:=iS imm1;have h:=h.mono le1;have h1:=h1.mono le1;have h2:=h2.mono le1;have h3:=h3.mono le1;refine yR (zDM s.Value _ hy3 h1 h2 h3) ?_;rintro imm02 hs2 v2 k2 le2 - ⟨v02,rfl,rfl,rfl⟩ -;have h1:=h1.mono le2;have h2:=h2.mono le2;have h3:=h3.mono le2;have h:=h.mono le2;have hle:=hle.trans le2;exact zX (hx:=[]) rfl hle rfl (zM rfl) ⟨rfl,rfl⟩
   intro imm1 hf le1;refine zG ?_;rintro _ _ ⟨rfl,rfl⟩;refine zG ?_;rintro _ _ ⟨rfl,rfl⟩;refine zN<|yG [(9,vT s1.l),(12,vT y2.l)] ?_;have hle:=iS imm1;exact kU rfl hy4<|zX (hx:=[]) rfl hle rfl (zM rfl) ⟨rfl,rfl⟩
 intro imm03 le3;refine zG ?_;rintro _ _ ⟨rfl,rfl⟩;refine zN<|yG [(13,vT s2.l)] ?_;have h:=h.mono le3;have h1:=h1.mono le3;have h2:=h2.mono le3;have h3:=h3.mono le3;have hle:=hle.trans le3;refine zY [] [(2,vT s2.l)]<|zE<|yJ ?_;obtain rfl:=zD hM;exact yQ ⟨_,_,(.tmp rfl ResV.nil),zV,⟨_,rfl,rfl,rfl⟩⟩
def zAD (r:zR×Bool):KT:=fun kk imm' hs' v=>
  ∃ v0 v1,hs'=[]∧v=tupV [v0,v1]∧(∃ cs,v0=.agg ⟨cs⟩∧Rp.rep imm' cs r.1)∧v1=.bool r.2
def pW (text:Str):Option (zR×Bool):=do
 if (decide ((text.l.length:Int) < 4)) then
  pure ((zR.mk (zK.mk (⟨[]⟩:Str) ([]:List zA)) (zH.mk 0 0 (zA.mk ([]:List Int) 0) (zK.mk (⟨[]⟩:Str) ([]:List zA)) ([]:List zH))),false)
 else
  let (y1,y2)←tU text 0
  let t25←(do
    if (decide (y2 < 0)) then
     pure true
    else
     pure (decide (y2 ≥ (text.l.length:Int)))
      : Option Bool)
  if t25 then
   pure ((zR.mk (zK.mk (⟨[]⟩:Str) ([]:List zA)) (zH.mk 0 0 (zA.mk ([]:List Int) 0) (zK.mk (⟨[]⟩:Str) ([]:List zA)) ([]:List zH))),false)
  else
   let (y4,y5)←sK text (W (y2 + 1)) 5
   let y6←pF (zR.mk y1 y4)
   if (!(y6.l == text.l)) then
    pure ((zR.mk (zK.mk (⟨[]⟩:Str) ([]:List zA)) (zH.mk 0 0 (zA.mk ([]:List Int) 0) (zK.mk (⟨[]⟩:Str) ([]:List zA)) ([]:List zH))),false)
   else
    pure ((zR.mk y1 y4),true)
theorem zBS:∀ (text:Str) r,pW text=some r→∀ {imm:Imm} ,Ret Tryz.prog 170 [vT text.l] imm [] (zAD  r):=by
 intro text r hM imm;unfold pW at hM;refine yF (fn:=Tryz.f170) (c:=(bodyOf Tryz.f170)) Tryz.func170 rfl rfl ?_;rintro B - -;have hle:=iS imm;refine zF<|zB<|uJ [vT ([]),z0,vI 0,vI 0,z0,vI 0,vT ([]),z0,z0] ?_;intro b hb;refine zY [] []<|zE<|zF<|zF<|zB<|zY [] [(11,.bool (decide ((text.l.length:Int) < 4)))]<|zE<|yP hM ?_ ?_
 · intro hc hM;refine zF<|zB<|yK 1 [] [(12,vA [vT ([]),z0,vI 0,vI 0,z0,vI 0,vT ([]),z0,z0])]<|xI 0 [vT ([]),z0,vI 0,vI 0,z0,vI 0,vT ([]),z0,z0] [hB b [vT ([]),z0,vI 0,vI 0,z0,vI 0,vT ([]),z0,z0]] rfl rfl rfl rfl<|zY [] [(3,.bool false)]<|zE<|yJ<|zQ ?_;obtain rfl:=zD hM;exact yQ ⟨_,_,(.cell 0 rfl rfl (by kernel_rfl) (.tmp rfl ResV.nil)),zV,⟨_,_,rfl,rfl,⟨_,rfl,(wM ⟨_,_,_,_,rfl,(SL.nil _),(SL.nil _),(SL.nil _),(SL.nil _)⟩)⟩,rfl⟩⟩
 intro hc hM;refine yD<|zE<|zF<|zB<|yK 1 [] [(14,vT text.l)] ?_;obtain ⟨⟨y1,y2⟩,hy,hM⟩:=zC hM;refine yR (mJ text 0 _ hy ) ?_;rintro imm0 hs2 v2 k2 le - ⟨v0,v01,rfl,rfl,⟨cs,rfl,h⟩,rfl⟩ -;have hle:=hle.trans le;obtain ⟨v02,rfl,h2⟩:=sX h;obtain ⟨p,c,rfl⟩:=h2.form;refine yK 5 [] [(16,vA (cAccess y1 p c)),(17,vI y2)]<|uJ [vT ([]),z0] ?_;intro b1 hb1;refine xI 0 (cAccess y1 p c) [hB b1 (cAccess y1 p c),hB b [vT ([]),z0,vI 0,vI 0,z0,vI 0,vT ([]),z0,z0]] rfl rfl rfl rfl<|zY [] [(5,vI y2)]<|zE<|zF<|zF ?_;obtain ⟨o0,ho0,hMc⟩:=zC hM;refine yT (fun imm' hs' m'=>∃ (t25:Bool),o0=t25∧imm0.le imm'∧hs'=[hB b1 (cAccess y1 p c),hB b [vT ([]),z0,vI 0,vI 0,z0,vI 0,vT ([]),z0,z0]]∧m'=[(0,vT text.l),(2,vP b 0),(4,vP b1 0),(5,vI y2),(25,.bool t25)]) ?_ ?_
 · have hle0:=hle;have hle:=iS imm0;refine zB<|yK 3 [] [(20,.bool (decide (y2 < 0)))] ?_;cases hc1:(decide (y2 < 0)) with
   | true =>
    have hM0:=zU hc1 ho0
    try rw [hc1]
    exact zY [] [(25,.bool true)]<|yU [(0,vT text.l),(2,vP b 0),(4,vP b1 0),(5,vI y2),(25,.bool true)]<|yA ⟨_,(zD hM0).symm,hle,rfl,rfl⟩
   | false =>
    have hM01:=zS hc1 ho0
    try rw [hc1]
    exact zY [] [(25,.bool (decide (y2 ≥ (text.l.length:Int))))]<|yU [(0,vT text.l),(2,vP b 0),(4,vP b1 0),(5,vI y2),(25,.bool (decide (y2 ≥ (text.l.length:Int))))]<|yA ⟨_,(zD hM01).symm,hle,rfl,rfl⟩
 rintro imm01 hs2 m2 ⟨t25,heq,le1,rfl,rfl⟩;subst o0;have h2:=h2.mono le1;have hle:=hle.trans le1;refine zE<|yP hMc ?_ ?_
 · intro hc2 hM;refine zF<|zB<|yK 1 [] [(26,vA [vT ([]),z0,vI 0,vI 0,z0,vI 0,vT ([]),z0,z0])]<|xI 1 [vT ([]),z0,vI 0,vI 0,z0,vI 0,vT ([]),z0,z0] [hB b1 (cAccess y1 p c),hB b [vT ([]),z0,vI 0,vI 0,z0,vI 0,vT ([]),z0,z0]] rfl rfl rfl rfl<|zY [] [(3,.bool false)]<|zE<|yJ<|zQ ?_;obtain rfl:=zD hM;exact yQ ⟨_,_,(.cell 1 rfl rfl (by kernel_rfl) (.tmp rfl ResV.nil)),zV,⟨_,_,rfl,rfl,⟨_,rfl,(wM ⟨_,_,_,_,rfl,(SL.nil _),(SL.nil _),(SL.nil _),(SL.nil _)⟩)⟩,rfl⟩⟩
 intro hc2 hM;refine yD<|zE<|zF<|zB<|yK 3 [] [(28,vT text.l),(30,vI (W (y2 + 1)))] ?_;obtain ⟨⟨y4,y5⟩,hy1,hM⟩:=zC hM;refine yR (zC5 text (W (y2 + 1)) 5 _ hy1 ) ?_;rintro imm02 hs2 v2 k2 le2 - ⟨v03,v04,rfl,rfl,⟨cs1,rfl,h3⟩,rfl⟩ -;have h2:=h2.mono le2;have hle:=hle.trans le2;obtain ⟨v05,v06,v07,rfl,h5,h6,h7⟩:=wF h3;obtain ⟨p1,c1,rfl⟩:=h5.form;obtain ⟨p2,c2,rfl⟩:=h6.form;obtain ⟨p3,c3,rfl⟩:=h7.form;refine yK 7 [] [(32,vA (cExpr y4 p1 c1 p2 c2 p3 c3)),(33,vI y5)]<|uJ zExpr ?_;intro b2 hb2;refine xI 0 (cExpr y4 p1 c1 p2 c2 p3 c3) [hB b2 (cExpr y4 p1 c1 p2 c2 p3 c3),hB b1 (cAccess y1 p c),hB b [vT ([]),z0,vI 0,vI 0,z0,vI 0,vT ([]),z0,z0]] rfl rfl rfl rfl<|zY [] []<|zE<|zF<|zB<|yK 3 [1,0] [(36,vA [vT y1.Array.l,vS p y1.Subs c,vI y4.Kind,vI y4.Num,vS p1 y4.Index.Coefs c1,vI y4.Index.Const,vT y4.Read.Array.l,vS p2 y4.Read.Subs c2,vS p3 y4.Kids c3])]<|uJ [vT ([]),z0,vI 0,vI 0,z0,vI 0,vT ([]),z0,z0] ?_;intro b3 hb3;refine xI 0 [vT y1.Array.l,vS p y1.Subs c,vI y4.Kind,vI y4.Num,vS p1 y4.Index.Coefs c1,vI y4.Index.Const,vT y4.Read.Array.l,vS p2 y4.Read.Subs c2,vS p3 y4.Kids c3] [hB b3 [vT y1.Array.l,vS p y1.Subs c,vI y4.Kind,vI y4.Num,vS p1 y4.Index.Coefs c1,vI y4.Index.Const,vT y4.Read.Array.l,vS p2 y4.Read.Subs c2,vS p3 y4.Kids c3],hB b2 (cExpr y4 p1 c1 p2 c2 p3 c3),hB b1 (cAccess y1 p c),hB b [vT ([]),z0,vI 0,vI 0,z0,vI 0,vT ([]),z0,z0]] rfl rfl rfl rfl<|yN rfl<|zE<|zF<|zF<|zB<|yK 1 [0] [(37,vA [vT y1.Array.l,vS p y1.Subs c,vI y4.Kind,vI y4.Num,vS p1 y4.Index.Coefs c1,vI y4.Index.Const,vT y4.Read.Array.l,vS p2 y4.Read.Subs c2,vS p3 y4.Kids c3])] ?_;obtain ⟨y6,hy2,hM⟩:=zC hM;refine yR (zA9 (zR.mk y1 y4) _ hy2 h2 h5 h6 h7) ?_;rintro imm03 hs2 v2 k2 le3 - ⟨v08,rfl,rfl,rfl⟩ -;have h2:=h2.mono le3;have h5:=h5.mono le3;have h6:=h6.mono le3;have h7:=h7.mono le3;have hle:=hle.trans le3;refine zY [] [(40,.bool (!(y6.l == text.l)))]<|zE<|yP hM ?_ ?_
 · intro hc3 hM;refine zF<|zB<|yK 1 [] [(41,vA [vT ([]),z0,vI 0,vI 0,z0,vI 0,vT ([]),z0,z0])]<|xI 3 [vT ([]),z0,vI 0,vI 0,z0,vI 0,vT ([]),z0,z0] [hB b3 [vT y1.Array.l,vS p y1.Subs c,vI y4.Kind,vI y4.Num,vS p1 y4.Index.Coefs c1,vI y4.Index.Const,vT y4.Read.Array.l,vS p2 y4.Read.Subs c2,vS p3 y4.Kids c3],hB b2 (cExpr y4 p1 c1 p2 c2 p3 c3),hB b1 (cAccess y1 p c),hB b [vT ([]),z0,vI 0,vI 0,z0,vI 0,vT ([]),z0,z0]] rfl rfl rfl rfl<|zY [] [(3,.bool false)]<|zE<|yJ<|zQ ?_;obtain rfl:=zD hM;exact yQ ⟨_,_,(.cell 3 rfl rfl (by kernel_rfl) (.tmp rfl ResV.nil)),zV,⟨_,_,rfl,rfl,⟨_,rfl,(wM ⟨_,_,_,_,rfl,(SL.nil _),(SL.nil _),(SL.nil _),(SL.nil _)⟩)⟩,rfl⟩⟩
 intro hc3 hM;refine yD<|zE<|zF<|zB<|yK 1 [0] [(42,vA [vT y1.Array.l,vS p y1.Subs c,vI y4.Kind,vI y4.Num,vS p1 y4.Index.Coefs c1,vI y4.Index.Const,vT y4.Read.Array.l,vS p2 y4.Read.Subs c2,vS p3 y4.Kids c3])]<|xI 3 [vT y1.Array.l,vS p y1.Subs c,vI y4.Kind,vI y4.Num,vS p1 y4.Index.Coefs c1,vI y4.Index.Const,vT y4.Read.Array.l,vS p2 y4.Read.Subs c2,vS p3 y4.Kids c3] [hB b3 [vT y1.Array.l,vS p y1.Subs c,vI y4.Kind,vI y4.Num,vS p1 y4.Index.Coefs c1,vI y4.Index.Const,vT y4.Read.Array.l,vS p2 y4.Read.Subs c2,vS p3 y4.Kids c3],hB b2 (cExpr y4 p1 c1 p2 c2 p3 c3),hB b1 (cAccess y1 p c),hB b [vT y1.Array.l,vS p y1.Subs c,vI y4.Kind,vI y4.Num,vS p1 y4.Index.Coefs c1,vI y4.Index.Const,vT y4.Read.Array.l,vS p2 y4.Read.Subs c2,vS p3 y4.Kids c3]] rfl rfl rfl rfl<|zY [] [(3,.bool true)]<|zE<|yJ ?_;obtain rfl:=zD hM;exact yQ ⟨_,_,(.cell 3 rfl rfl (by kernel_rfl) (.tmp rfl ResV.nil)),zV,⟨_,_,rfl,rfl,⟨_,rfl,(wM ⟨_,_,_,_,rfl,h2,h5,h6,h7⟩)⟩,rfl⟩⟩
def jU (r:(List zI)×Bool):KT:=fun kk imm' hs' v=>
  ∃ v0 v1,hs'=[]∧v=tupV [v0,v1]∧SL imm' v0 r.1∧v1=.bool r.2
def sL (sizes:(List Int)) (out:List zI) (i:Int):Option (Out (List zI) ((List zI)×Bool)):=do
 if (decide (i < (sizes.length:Int))) then
  let t28←(do
    let x←idx sizes i
    if (decide (x < 0)) then
     pure true
    else
     let x1←idx sizes i
     pure (decide (x1 > 99))
      : Option Bool)
  if t28 then
   pure (.ret (([]:List zI),false))
  else
   let y←rN
   let x2←idx sizes i
   let y1←xV x2
   let out2←app 48 out ([(zI.mk ([y]:List zA) ([y1]:List zA))]:List zI)
   sL sizes out2 (W (i + 1))
 else
  pure (.done out)
 partial_fixpoint
theorem zAa (sizes:(List Int)):∀ (out:List zI) (i:Int) (o:Out (List zI) ((List zI)×Bool)),sL sizes out i=some o→∀ {B}{imm0 imm:Imm}{Q p c p1 c1 cs},imm0.le imm→(S4 imm p sizes c)→(RL imm cs out)→(∀ l a w,¬Q (.goto l) a w)→(∀ a w,¬Q .outgrown a w)→(∀ (imm':Imm) (out1:List zI) (p2:Option Addr) (c2:Nat) (cs1:List Value),o=(.done out1)→imm0.le imm'→(RL imm' cs1 out1)→T 43 B Q (.exit 0) imm' [hO zI (vS p2 out1 c2) cs1] [(4,vS p2 out1 c2)])→(∀ r imm' hs' m',o=(.ret r)→imm0.le imm'→RS Tryz.prog Tryz.f171 B (jU  r) imm' hs' m'→T 43 B Q .ret imm' hs' m')→J Tryz.prog 43 B (nav (bodyOf Tryz.f171) [1,1,1,0,1,0]) Q imm [hO zI (vS p1 out c1) cs] [(0,vS p sizes c),(4,vS p1 out c1),(5,vI i)]:=by
 refine sL.partial_correctness sizes _ ?_;intro self ih out i o hM B imm0 imm Q p c p1 c1 cs hle h h3 hg ho hx hr;refine xF hg ho<|zF<|zF<|zB<|zY [] [(14,.bool (decide (i < (sizes.length:Int))))]<|zE<|yP hM ?_ ?_
 · intro hc1 hM;refine yD<|zE<|zF<|yB<|zF<|zF ?_;obtain ⟨o0,ho0,hMc⟩:=zC hM;refine yT (fun imm' hs' m'=>∃ (t28:Bool),o0=t28∧imm.le imm'∧hs'=[hO zI (vS p1 out c1) cs]∧m'=[(0,vS p sizes c),(4,vS p1 out c1),(5,vI i),(28,.bool t28)]) ?_ ?_
   · have hle0:=hle;have hle:=iS imm;refine zB<|yK 2 [] [(17,vS p sizes c),(18,vI i)] ?_;obtain ⟨x,hy,hM⟩:=zC ho0;refine wJ rfl rfl h hy ?_;intro ad ccs hat hrep;obtain rfl:=hrep;refine xX 0 hat [vI x] (vI x) rfl<|yK 6 [] [(22,.bool (decide (x < 0)))] ?_;cases hc2:(decide (x < 0)) with
     | true =>
      have hM0:=zU hc2 hM
      try rw [hc2]
      exact zY [] [(28,.bool true)]<|yU [(0,vS p sizes c),(4,vS p1 out c1),(5,vI i),(28,.bool true)]<|yA ⟨_,(zD hM0).symm,hle,rfl,rfl⟩
     | false =>
      have hM01:=zS hc2 hM
      try rw [hc2]
      refine yK 8 [] [(23,vS p sizes c),(24,vI i)] ?_;obtain ⟨x1,hy1,hM⟩:=zC hM01;refine wJ rfl rfl h hy1 ?_;intro ad1 ccs1 hat1 hrep1;obtain rfl:=hrep1;exact xX 0 hat1 [vI x1] (vI x1) rfl<|zY [] [(28,.bool (decide (x1 > 99)))]<|yU [(0,vS p sizes c),(4,vS p1 out c1),(5,vI i),(28,.bool (decide (x1 > 99)))]<|yA ⟨_,(zD hM).symm,hle,rfl,rfl⟩
   rintro imm01 hs2 m2 ⟨t28,heq,le1,rfl,rfl⟩;subst o0;have h:=h.mono le1;have h3:=iM le1 h3;have hle:=hle.trans le1;refine zE<|yP hMc ?_ ?_
   · intro hc3 hM;refine zF<|zB<|xY [] zI ?_;intro b1 hb1;have h5:RL imm01 [] ([]:List zI):=rfl;refine zY [] [(2,vS (some ⟨b1,0,none⟩) ([]:List zI) 0),(3,.bool false)]<|zE<|yJ<|zQ<|yE<|zQ<|zQ<|xL 0 rfl ?_;intro imm02 le2 hl01;have h6:=SL.of_frozen hl01 le2 h5;have h3:=iM le2 h3;have hle:=hle.trans le2;exact hr _ _ _ _ (zD hM).symm hle ⟨_,_,(.tmp rfl (.tmp rfl ResV.nil)),zV,⟨_,_,rfl,rfl,h6,rfl⟩⟩
   intro hc3 hM;refine yD<|zE ?_;obtain ⟨y,hy2,hM⟩:=zC hM;obtain ⟨x2,hy3,hM⟩:=zC hM;obtain ⟨y1,hy4,hM⟩:=zC hM;obtain ⟨out2,hy5,hM⟩:=zC hM;refine vZ [.p (vS p1 out c1) [],.x (fun imm' v hx=>∃ p3 c3 cs2,v=vA (cAff y p3 c3)∧hx=[hO Int (vS p3 y.Coefs c3) cs2]∧(RL imm' cs2 y.Coefs)),.x (fun imm' v hx=>∃ b2,v=vS (some ⟨b2,0,none⟩) ([y]:List zA) 1∧hx=[]∧(SL imm' (vS (some ⟨b2,0,none⟩) ([y]:List zA) 1) ([y]:List zA))),.p (vS p sizes c) [],.p (vI i) [],.x (fun imm' v hx=>∃ ad2,v=.pointer (some ad2)∧hx=[]∧(At imm' ad2 [vI x2])),.q (vI x2),.x (fun imm' v hx=>∃ p4 c4 cs3,v=vA (cAff y1 p4 c4)∧hx=[hO Int (vS p4 y1.Coefs c4) cs3]∧(RL imm' cs3 y1.Coefs)),.x (fun imm' v hx=>∃ b3,v=vS (some ⟨b3,0,none⟩) ([y1]:List zA) 1∧hx=[]∧(SL imm' (vS (some ⟨b3,0,none⟩) ([y1]:List zA) 1) ([y1]:List zA))),.x (fun imm' v hx=>∃ b21 b31,v=vA [vS (some ⟨b21,0,none⟩) ([y]:List zA) 1,vS (some ⟨b31,0,none⟩) ([y1]:List zA) 1]∧hx=[]∧(SL imm' (vS (some ⟨b21,0,none⟩) ([y]:List zA) 1) ([y]:List zA))∧(SL imm' (vS (some ⟨b31,0,none⟩) ([y1]:List zA) 1) ([y1]:List zA))),.x (fun imm' v hx=>∃ b4,v=vS (some ⟨b4,0,none⟩) ([(zI.mk ([y]:List zA) ([y1]:List zA))]:List zI) 1∧hx=[]∧(SL imm' (vS (some ⟨b4,0,none⟩) ([(zI.mk ([y]:List zA) ([y1]:List zA))]:List zI) 1) ([(zI.mk ([y]:List zA) ([y1]:List zA))]:List zI))),.x (fun imm' v hx=>∃ p5 c5 cs4,v=vS p5 out2 c5∧hx=[hO zI (vS p5 out2 c5) cs4]∧(RL imm' cs4 out2))] [[],[],[(1,true)],[],[],[(3,false),(4,false)],[(5,false)],[(6,false)],[(7,true)],[(2,false),(8,false)],[(9,false)],[(0,false),(10,false),(13,true)]] [] [[hO zI (vS p1 out c1) cs]] [(11,true)] (zL [0] rfl (by decide)) ?_ ?_
   · refine Op<|Ox ?_<|Ox ?_<|Op<|Op<|Ox ?_<|Oq ?_<|Ox ?_<|Ox ?_<|Ox ?_<|Ox ?_<|Ox ?_<|On
     · intro imm1 hf le1;refine zN<|yG [] ?_;have hle:=iS imm1;refine yR (pU  _ hy2 ) ?_;rintro imm03 hs2 v2 k2 le3 - ⟨p3,c3,cs2,rfl,rfl,h7⟩ -;have hle:=hle.trans le3;exact zX (hx:=[hO Int (vS p3 y.Coefs c3) cs2]) rfl hle rfl (zM rfl) ⟨_,_,_,rfl,rfl,h7⟩
     · intro imm1 hf le1;refine zG ?_;rintro _ _ ⟨p3,c3,cs2,rfl,rfl,h7⟩;refine zN<|yG [(31,vA (cAff y p3 c3))] ?_;have hle:=iS imm1;refine yL 0 rfl ?_;intro imm04 le4 hl02;have h8:=SL.of_frozen hl02 le4 h7;have hle:=hle.trans le4;refine xY (cAff y p3 c3) zA ?_;intro b2 hb2;have h9:RL imm04 (cAff y p3 c3) ([y]:List zA):=⟨(cAff y p3 c3),_,rfl,rfl,(yO ⟨_,rfl,h8⟩),rfl⟩;refine yL 0 rfl ?_;intro imm05 le5 hl03;have h10:=SL.of_frozen hl03 le5 h9;have h8:=h8.mono le5;have hle:=hle.trans le5;exact zX (hx:=[]) rfl hle rfl (zM rfl) ⟨_,rfl,rfl,h10⟩
     · intro imm1 hf le1;refine zG ?_;rintro _ _ ⟨rfl,rfl⟩;refine zG ?_;rintro _ _ ⟨rfl,rfl⟩;refine zN<|yG [(33,vS p sizes c),(34,vI i)] ?_;have hle:=iS imm1;have h:=h.mono le1;refine wJ rfl rfl h hy3 ?_;intro ad2 ccs2 hat2 hrep2;obtain rfl:=hrep2;exact zX (hx:=[]) rfl hle rfl (zM rfl) ⟨_,rfl,rfl,hat2⟩
     · intro imm1 hf le1;refine zG ?_;rintro _ _ ⟨ad2,rfl,rfl,hat2⟩;refine zN<|yG [(35,.pointer (some ad2))] ?_;have hle:=iS imm1;exact xX 0 hat2 [vI x2] (vI x2) rfl<|zX (hx:=[]) rfl hle rfl (zM rfl) ⟨rfl,rfl⟩
     · intro imm1 hf le1;refine zG ?_;rintro _ _ ⟨rfl,rfl⟩;refine zN<|yG [(36,vI x2)] ?_;have hle:=iS imm1;refine yR (wW x2 _ hy4 ) ?_;rintro imm06 hs2 v2 k2 le6 - ⟨p4,c4,cs3,rfl,rfl,h11⟩ -;have hle:=hle.trans le6;exact zX (hx:=[hO Int (vS p4 y1.Coefs c4) cs3]) rfl hle rfl (zM rfl) ⟨_,_,_,rfl,rfl,h11⟩
     · intro imm1 hf le1;refine zG ?_;rintro _ _ ⟨p4,c4,cs3,rfl,rfl,h11⟩;refine zN<|yG [(37,vA (cAff y1 p4 c4))] ?_;have hle:=iS imm1;refine yL 0 rfl ?_;intro imm07 le7 hl04;have h12:=SL.of_frozen hl04 le7 h11;have hle:=hle.trans le7;refine xY (cAff y1 p4 c4) zA ?_;intro b3 hb3;have h13:RL imm07 (cAff y1 p4 c4) ([y1]:List zA):=⟨(cAff y1 p4 c4),_,rfl,rfl,(yO ⟨_,rfl,h12⟩),rfl⟩;refine yL 0 rfl ?_;intro imm08 le8 hl05;have h14:=SL.of_frozen hl05 le8 h13;have h12:=h12.mono le8;have hle:=hle.trans le8;exact zX (hx:=[]) rfl hle rfl (zM rfl) ⟨_,rfl,rfl,h14⟩
     · intro imm1 hf le1;refine zG ?_;rintro _ _ ⟨b2,rfl,rfl,h10⟩;refine zG ?_;rintro _ _ ⟨b3,rfl,rfl,h14⟩;refine zN<|yG [(32,vS (some ⟨b2,0,none⟩) ([y]:List zA) 1),(38,vS (some ⟨b3,0,none⟩) ([y1]:List zA) 1)] ?_;have hle:=iS imm1;exact qQ 10 [(39,vA [vS (some ⟨b2,0,none⟩) ([y]:List zA) 1,vS (some ⟨b3,0,none⟩) ([y1]:List zA) 1])]<|zX (hx:=[]) rfl hle rfl (zM rfl) ⟨_,_,rfl,rfl,h10,h14⟩
     · intro imm1 hf le1;refine zG ?_;rintro _ _ ⟨b21,b31,rfl,rfl,h101,h141⟩;refine zN<|yG [(39,vA [vS (some ⟨b21,0,none⟩) ([y]:List zA) 1,vS (some ⟨b31,0,none⟩) ([y1]:List zA) 1])] ?_;have hle:=iS imm1;refine xY [vS (some ⟨b21,0,none⟩) ([y]:List zA) 1,vS (some ⟨b31,0,none⟩) ([y1]:List zA) 1] zI ?_;intro b4 hb4;have h15:RL imm1 [vS (some ⟨b21,0,none⟩) ([y]:List zA) 1,vS (some ⟨b31,0,none⟩) ([y1]:List zA) 1] ([(zI.mk ([y]:List zA) ([y1]:List zA))]:List zI):=⟨[vS (some ⟨b21,0,none⟩) ([y]:List zA) 1,vS (some ⟨b31,0,none⟩) ([y1]:List zA) 1],_,rfl,rfl,(qM ⟨_,_,rfl,h101,h141⟩),rfl⟩;refine yL 0 rfl ?_;intro imm09 le9 hl06;have h16:=SL.of_frozen hl06 le9 h15;have h101:=h101.mono le9;have h141:=h141.mono le9;have hle:=hle.trans le9;exact zX (hx:=[]) rfl hle rfl (zM rfl) ⟨_,rfl,rfl,h16⟩
     intro imm1 hf le1;refine zG ?_;rintro _ _ ⟨rfl,rfl⟩;refine zG ?_;rintro _ _ ⟨b4,rfl,rfl,h16⟩;refine zG ?_;rintro _ _ rfl;refine zN<|yG [(30,vS p1 out c1),(40,vS (some ⟨b4,0,none⟩) ([(zI.mk ([y]:List zA) ([y1]:List zA))]:List zI) 1)] ?_;have hle:=iS imm1;have h3:=iM le1 h3;obtain ⟨ccs3,k0,k01⟩:=h16;have h16:SL imm1 (vS (some ⟨b4,0,none⟩) ([(zI.mk ([y]:List zA) ([y1]:List zA))]:List zI) 1) ([(zI.mk ([y]:List zA) ([y1]:List zA))]:List zI):=⟨_,k0,k01⟩;refine qS 113 2 0 rfl rfl rfl h3 (.inl k0) k01 hy5 ?_;intro p5 c5 cs4 h17;exact uI (hs':=(hO zI (vS p5 out2 c5) cs4::hf)) rfl<|zX (hx:=[hO zI (vS p5 out2 c5) cs4]) rfl hle rfl (zM rfl) ⟨_,_,_,rfl,rfl,h17⟩
   intro imm010 le10;refine zG ?_;rintro _ _ ⟨p5,c5,cs4,rfl,rfl,h17⟩;refine zN<|yG [(0,vS p sizes c),(5,vI i),(41,vS p5 out2 c5)] ?_;have h:=h.mono le10;have hle:=hle.trans le10;exact zY [] [(4,vS p5 out2 c5)]<|zW<|zE<|zB<|zY [] [(5,vI (W (i + 1)))]<|xG<|uA [(0,vS p sizes c),(4,vS p5 out2 c5),(5,vI (W (i + 1)))]<|ih out2 (W (i + 1)) _ hM hle h h17 hg ho hx hr
 intro hc1 hM;exact xB<|zT<|zT<|yU [(4,vS p1 out c1)]<|hx _ _ _ _ _ (zD hM).symm hle h3
def nC (sizes:(List Int)):Option ((List zI)×Bool):=do
 if (decide ((sizes.length:Int) > 4)) then
  pure (([]:List zI),false)
 else
  match←sL sizes ([]:List zI) 0 with
  | .ret r0=>pure r0
  | .done out1 =>
   pure (out1,true)
theorem zC6:∀ (sizes:(List Int)) r,nC sizes=some r→∀ {imm:Imm}{p c},(S4 imm p sizes c)→Ret Tryz.prog 171 [vS p sizes c] imm [] (jU  r):=by
 intro sizes r hM imm p c h;unfold nC at hM;refine yF (fn:=Tryz.f171) (c:=(bodyOf Tryz.f171)) Tryz.func171 rfl rfl ?_;rintro B - -;have hle:=iS imm;refine zF<|zB<|zY [] []<|zE<|zF<|zB<|xY [] zI ?_;intro b hb;have h1:RL imm [] ([]:List zI):=rfl;refine zY [] [(4,vS (some ⟨b,0,none⟩) ([]:List zI) 0)]<|zE<|zF<|zF<|zB<|zY [] [(9,.bool (decide ((sizes.length:Int) > 4)))]<|zE<|yP hM ?_ ?_
 · intro hc hM;refine zF<|zB<|zY [] [(2,vS (some ⟨b,0,none⟩) ([]:List zI) 0),(3,.bool false)]<|zE<|yJ<|zQ<|xL 0 rfl ?_;intro imm0 le hl0;have h2:=SL.of_frozen hl0 le h1;have hle:=hle.trans le;obtain rfl:=zD hM;exact yQ ⟨_,_,(.tmp rfl (.tmp rfl ResV.nil)),zV,⟨_,_,rfl,rfl,h2,rfl⟩⟩
 intro hc hM;refine yD<|zE<|zF<|zF<|zB<|zY [] [(5,vI 0)]<|zE<|yB<|uA [(0,vS p sizes c),(4,vS (some ⟨b,0,none⟩) ([]:List zI) 0),(5,vI 0)] ?_;obtain ⟨o01,ho01,hMl⟩:=zC hM;refine zAa sizes ([]:List zI) 0 o01 ho01 iR h h1 (fun _ _ _ h=>h) (fun _ _ h=>h) ?_ ?_
 · intro imm011 out1 p2 c2 cs1 heq1 le11 h4;subst o01;have hle:=hle.trans le11;refine yC<|zE<|zF<|zB<|zY [] [(2,vS p2 out1 c2),(3,.bool true)]<|zE<|yJ<|xL 0 rfl ?_;intro imm012 le12 hl07;have h18:=SL.of_frozen hl07 le12 h4;have hle:=hle.trans le12;obtain rfl:=zD hMl;exact yQ ⟨_,_,(.tmp rfl (.tmp rfl ResV.nil)),zV,⟨_,_,rfl,rfl,h18,rfl⟩⟩
 intro r0 imm9 hs9 m9 heq9 le9 hrs9;subst heq9;refine yE<|zQ ?_;obtain rfl:=zD hMl;exact yQ hrs9
def gR (b0:Nat) (r:zP×zO):KT:=fun kk imm' hs' v=>
  ∃ v0 k0,hs'=[.blk b0 ⟨k0⟩]∧v=tupV [v0]∧(∃ cs,v0=.agg ⟨cs⟩∧Rp.rep imm' cs r.1)∧Rp.rep imm' k0 r.2
def rH (y1:(List zI)) (Body2:List zR) (n0:Int) (x6:zO):Option ((List zR×zO)):=do
 if (decide (n0 < 5)) then
  let (y7,y8)←nL x6 (y1.length:Int)
  let y9←pM
  let (y11,y12)←rP y9 (zP.mk y1 ([y7]:List zR))
  if y12 then
   let l←app 152 Body2 ([y7]:List zR)
   pure (l,y8)
  else
   rH y1 Body2 (W (n0 + 1)) y8
 else
  pure (Body2,x6)
 partial_fixpoint
theorem zBT (y1:(List zI)) (Body2:List zR):∀ (n0:Int) (x6:zO) (o:(List zR×zO)),rH y1 Body2 n0 x6=some o→∀ {B}{imm0 imm:Imm}{Q}{i:Int}{x:zP}{k0:Int}{r01:Nat}{b:Nat}{p1 c1 p2 c2 p7 c7}{b1:Nat}{p14 c14 cs2 p15 c15},imm0.le imm→(S4 imm p7 y1 c7)→(S4 imm p1 x.Nest c1)→(S4 imm p2 x.Body c2)→(RL imm cs2 Body2)→(S4 imm p15 x6.b c15)→(∀ l a w,¬Q (.goto l) a w)→(∀ a w,¬Q .outgrown a w)→(∀ (imm':Imm) (Body3:List zR) (x7:zO) (p16:Option Addr) (c16:Nat) (cs3:List Value) (p17:Option Addr) (c17:Nat),o=(Body3,x7)→imm0.le imm'→(RL imm' cs3 Body3)→(S4 imm' p17 x7.b c17)→T 81 B Q (.exit 4) imm' [hO zR (vS p16 Body3 c16) cs3,hB r01 (cRd x7 p17 c17),hB b1 [vS p7 y1 c7,vS p16 Body3 c16],hB b (cPart x p1 c1 p2 c2)] [(0,vP r01 0),(2,vP b 0),(3,vI i),(4,vP b1 0),(5,vI k0)])→J Tryz.prog 81 B (nav (bodyOf Tryz.f126) [1,0,1,0,0,1,0,0,1,0,1,0,0,1,0,0,1,0]) Q imm [hO zR (vS p14 Body2 c14) cs2,hB r01 (cRd x6 p15 c15),hB b1 [vS p7 y1 c7,vS p14 Body2 c14],hB b (cPart x p1 c1 p2 c2)] [(0,vP r01 0),(2,vP b 0),(3,vI i),(4,vP b1 0),(5,vI k0),(6,vI n0)]:=by
 refine rH.partial_correctness y1 Body2 _ ?_;intro self ih n0 x6 o hM B imm0 imm Q i x k0 r01 b p1 c1 p2 c2 p7 c7 b1 p14 c14 cs2 p15 c15 hle h7 h1 h2 h20 h21 hg ho hx;refine xF hg ho<|zF<|zF<|zB<|zY [] [(31,.bool (decide (n0 < 5)))]<|zE<|yP hM ?_ ?_
 · intro hc2 hM;refine yD<|zE<|zF<|yB<|zF<|zB<|yK 4 [2] [(34,vP r01 0),(37,vI (y1.length:Int))]<|qC (zL [1,0,2,3] (hs':=[hB r01 (cRd x6 p15 c15),hO zR (vS p14 Body2 c14) cs2,hB b1 [vS p7 y1 c7,vS p14 Body2 c14],hB b (cPart x p1 c1 p2 c2)]) rfl (by decide)) ?_;obtain ⟨⟨y7,y8⟩,hy2,hM⟩:=zC hM;refine tX [hB r01 (cRd x6 p15 c15)] [hO zR (vS p14 Body2 c14) cs2,hB b1 [vS p7 y1 c7,vS p14 Body2 c14],hB b (cPart x p1 c1 p2 c2)] (zDI x6 (y1.length:Int) _ hy2 h21) ?_;rintro imm03 hs2 v2 k2 le3 - ⟨v04,kk2,rfl,rfl,⟨cs4,rfl,h24⟩,h25⟩ -;have h20:=iM le3 h20;have h7:=h7.mono le3;have h1:=h1.mono le3;have h2:=h2.mono le3;have hle:=hle.trans le3;obtain ⟨v05,v06,v07,v08,rfl,h26,h27,h28,h29⟩:=wL h24;obtain ⟨p18,c18,rfl⟩:=h26.form;obtain ⟨p19,c19,rfl⟩:=h27.form;obtain ⟨p20,c20,rfl⟩:=h28.form;obtain ⟨p21,c21,rfl⟩:=h29.form;obtain ⟨v09,rfl,h30⟩:=yH h25;obtain ⟨p22,c22,rfl⟩:=h30.form;refine uJ [vT ([]),z0,vI 0,vI 0,z0,vI 0,vT ([]),z0,z0] ?_;intro b3 hb3;refine xI 0 (cStmt y7 p18 c18 p19 c19 p20 c20 p21 c21) [hB b3 (cStmt y7 p18 c18 p19 c19 p20 c20 p21 c21),hB r01 (cRd y8 p22 c22),hO zR (vS p14 Body2 c14) cs2,hB b1 [vS p7 y1 c7,vS p14 Body2 c14],hB b (cPart x p1 c1 p2 c2)] rfl rfl rfl rfl<|yN rfl<|zE<|zF ?_;obtain ⟨y9,hy3,hM⟩:=zC hM;obtain ⟨⟨y11,y12⟩,hy4,hM⟩:=zC hM;refine vZ [.x (fun imm' v hx=>∃ p23 c23,v=vS p23 y9 c23∧hx=[]∧(S4 imm' p23 y9 c23)),.p (vP b1 0) [],.p (vS p7 y1 c7) [3],.p (vA (cStmt y7 p18 c18 p19 c19 p20 c20 p21 c21)) [0],.x (fun imm' v hx=>∃ b4,v=vS (some ⟨b4,0,none⟩) ([y7]:List zR) 1∧hx=[]∧(SL imm' (vS (some ⟨b4,0,none⟩) ([y7]:List zR) 1) ([y7]:List zR))),.x (fun imm' v hx=>∃ b41,v=vA [vS p7 y1 c7,vS (some ⟨b41,0,none⟩) ([y7]:List zR) 1]∧hx=[]∧(SL imm' (vS (some ⟨b41,0,none⟩) ([y7]:List zR) 1) ([y7]:List zR))),.q (.tuple ⟨[vI y11,.bool y12]⟩),.p (.tuple ⟨[vI y11,.bool y12]⟩) [],.p (vI y11) [],.p (.bool y12) [],.p (vI y11) []] [[],[],[(1,false)],[],[(3,false)],[(2,false),(4,false)],[(0,false),(5,false)],[(6,false)],[(7,false)],[(7,false)],[(8,false)]] [hB b3 (cStmt y7 p18 c18 p19 c19 p20 c20 p21 c21),hB r01 (cRd y8 p22 c22),hO zR (vS p14 Body2 c14) cs2,hB b1 [vS p7 y1 c7,vS p14 Body2 c14],hB b (cPart x p1 c1 p2 c2)] [] [(9,false)] (zL [0,1,2,3,4] rfl (by decide)) ?_ ?_
   · refine Ox ?_<|Op<|Op<|Op<|Ox ?_<|Ox ?_<|Oq ?_<|Op<|Op<|Op<|Op<|On
     · intro imm1 hf le1;refine zN<|yG [] ?_;have hle:=iS imm1;have h26:=h26.mono le1;have h27:=h27.mono le1;have h28:=h28.mono le1;have h29:=h29.mono le1;have h30:=h30.mono le1;have h20:=iM le1 h20;have h7:=h7.mono le1;have h1:=h1.mono le1;have h2:=h2.mono le1;refine yR (mB  _ hy3 ) ?_;rintro imm04 hs2 v2 k2 le4 - ⟨v010,rfl,rfl,h31⟩ -;have h26:=h26.mono le4;have h27:=h27.mono le4;have h28:=h28.mono le4;have h29:=h29.mono le4;have h30:=h30.mono le4;have h20:=iM le4 h20;have h7:=h7.mono le4;have h1:=h1.mono le4;have h2:=h2.mono le4;have hle:=hle.trans le4;obtain ⟨p23,c23,rfl⟩:=h31.form;exact zX (hx:=[]) rfl hle rfl (zM rfl) ⟨_,_,rfl,rfl,h31⟩
     · intro imm1 hf le1;refine zG ?_;rintro _ _ ⟨rfl,rfl⟩;refine zN<|yG [(43,vA (cStmt y7 p18 c18 p19 c19 p20 c20 p21 c21))] ?_;have hle:=iS imm1;have h26:=h26.mono le1;have h27:=h27.mono le1;have h28:=h28.mono le1;have h29:=h29.mono le1;have h30:=h30.mono le1;have h20:=iM le1 h20;have h7:=h7.mono le1;have h1:=h1.mono le1;have h2:=h2.mono le1;refine xY (cStmt y7 p18 c18 p19 c19 p20 c20 p21 c21) zR ?_;intro b4 hb4;have h32:RL imm1 (cStmt y7 p18 c18 p19 c19 p20 c20 p21 c21) ([y7]:List zR):=⟨(cStmt y7 p18 c18 p19 c19 p20 c20 p21 c21),_,rfl,rfl,(wM ⟨_,_,_,_,rfl,h26,h27,h28,h29⟩),rfl⟩;refine yL 0 rfl ?_;intro imm05 le5 hl01;have h33:=SL.of_frozen hl01 le5 h32;have h26:=h26.mono le5;have h27:=h27.mono le5;have h28:=h28.mono le5;have h29:=h29.mono le5;have h30:=h30.mono le5;have h20:=iM le5 h20;have h7:=h7.mono le5;have h1:=h1.mono le5;have h2:=h2.mono le5;have hle:=hle.trans le5;exact zX (hx:=[]) rfl hle rfl (zM rfl) ⟨_,rfl,rfl,h33⟩
     · intro imm1 hf le1;refine zG ?_;rintro _ _ ⟨rfl,rfl⟩;refine zG ?_;rintro _ _ ⟨b4,rfl,rfl,h33⟩;refine zN<|yG [(42,vS p7 y1 c7),(44,vS (some ⟨b4,0,none⟩) ([y7]:List zR) 1)] ?_;have hle:=iS imm1;have h7:=h7.mono le1;exact qQ 6 [(45,vA [vS p7 y1 c7,vS (some ⟨b4,0,none⟩) ([y7]:List zR) 1])]<|zX (hx:=[]) rfl hle rfl (zM rfl) ⟨_,rfl,rfl,h33⟩
     intro imm1 hf le1;refine zG ?_;rintro _ _ ⟨p23,c23,rfl,rfl,h31⟩;refine zG ?_;rintro _ _ ⟨b41,rfl,rfl,h331⟩;refine zN<|yG [(40,vS p23 y9 c23),(45,vA [vS p7 y1 c7,vS (some ⟨b41,0,none⟩) ([y7]:List zR) 1])] ?_;have hle:=iS imm1;have h26:=h26.mono le1;have h27:=h27.mono le1;have h28:=h28.mono le1;have h29:=h29.mono le1;have h30:=h30.mono le1;have h20:=iM le1 h20;have h7:=h7.mono le1;have h1:=h1.mono le1;have h2:=h2.mono le1;refine yR (kY y9 (zP.mk y1 ([y7]:List zR)) _ hy4 h31 h7 h331) ?_;rintro imm06 hs2 v2 k2 le6 - ⟨v011,v012,rfl,rfl,rfl,rfl⟩ -;have h31:=h31.mono le6;have h7:=h7.mono le6;have h331:=h331.mono le6;have h26:=h26.mono le6;have h27:=h27.mono le6;have h28:=h28.mono le6;have h29:=h29.mono le6;have h30:=h30.mono le6;have h20:=iM le6 h20;have h1:=h1.mono le6;have h2:=h2.mono le6;have hle:=hle.trans le6;exact zX (hx:=[]) rfl hle rfl (zM rfl) ⟨rfl,rfl⟩
   intro imm07 le7;refine zG ?_;rintro _ _ ⟨rfl,rfl⟩;refine zN<|yG [(0,vP r01 0),(2,vP b 0),(3,vI i),(4,vP b1 0),(5,vI k0),(6,vI n0),(7,vP b3 0),(48,.bool y12)] ?_;have h26:=h26.mono le7;have h27:=h27.mono le7;have h28:=h28.mono le7;have h29:=h29.mono le7;have h30:=h30.mono le7;have h20:=iM le7 h20;have h7:=h7.mono le7;have h1:=h1.mono le7;have h2:=h2.mono le7;have hle:=hle.trans le7;refine zY [] [(9,.bool y12)]<|zE<|zF<|zB<|zY [] [(49,.bool y12)]<|zE<|yP hM ?_ ?_
   · intro hc3 hM;refine zF<|zB<|yK 3 [3,0] [(51,vS p14 Body2 c14),(52,vA (cStmt y7 p18 c18 p19 c19 p20 c20 p21 c21))]<|xY (cStmt y7 p18 c18 p19 c19 p20 c20 p21 c21) zR ?_;intro b5 hb5;have h36:RL imm07 (cStmt y7 p18 c18 p19 c19 p20 c20 p21 c21) ([y7]:List zR):=⟨(cStmt y7 p18 c18 p19 c19 p20 c20 p21 c21),_,rfl,rfl,(wM ⟨_,_,_,_,rfl,h26,h27,h28,h29⟩),rfl⟩;obtain ⟨l,hy5,hM⟩:=zC hM;refine qS 71 9 3 rfl rfl rfl h20 (.inr ⟨0,rfl⟩) h36 hy5 ?_;intro p24 c24 cs5 h37;exact qC (zL [1,2,3,4,5] (hs':=[hB b3 (cStmt y7 p18 c18 p19 c19 p20 c20 p21 c21),hB r01 (cRd y8 p22 c22),hO zR (vS p24 l c24) cs5,hB b1 [vS p7 y1 c7,vS p14 Body2 c14],hB b (cPart x p1 c1 p2 c2)]) rfl (by decide))<|yK 6 [] [(55,vP b1 1)]<|xI 3 [vS p7 y1 c7,vS p24 l c24] [hB b3 (cStmt y7 p18 c18 p19 c19 p20 c20 p21 c21),hB r01 (cRd y8 p22 c22),hO zR (vS p24 l c24) cs5,hB b1 [vS p7 y1 c7,vS p24 l c24],hB b (cPart x p1 c1 p2 c2)] rfl rfl rfl rfl<|yN rfl<|zE<|xB<|zDd rfl<|zT<|zT<|wE (zL [2,1,3,4] rfl (by decide))<|yU [(0,vP r01 0),(2,vP b 0),(3,vI i),(4,vP b1 0),(5,vI k0)]<|hx _ _ _ _ _ _ _ _ (zD hM).symm hle h37 h30
   intro hc3 hM;exact yD<|zW<|zE<|zB<|zY [] [(6,vI (W (n0 + 1)))]<|xG<|qR (zL [2,1,3,4] rfl (by decide))<|uA [(0,vP r01 0),(2,vP b 0),(3,vI i),(4,vP b1 0),(5,vI k0),(6,vI (W (n0 + 1)))]<|ih (W (n0 + 1)) y8 _ hM hle h7 h1 h2 h20 h30 hg ho hx
 intro hc2 hM;exact xB<|zT<|zT<|yU [(0,vP r01 0),(2,vP b 0),(3,vI i),(4,vP b1 0),(5,vI k0)]<|hx _ _ _ _ _ _ _ _ (zD hM).symm hle h20 h21
def rI (y1:(List zI)) (k0:Int) (Body:List zR) (x4:zO):Option ((List zR×zO)):=do
 if (decide (k0 > 0)) then
  let (Body3,x7)←rH y1 Body 0 x4
  rI y1 (W (k0 - 1)) Body3 x7
 else
  pure (Body,x4)
 partial_fixpoint
theorem zBU (y1:(List zI)):∀ (k0:Int) (Body:List zR) (x4:zO) (o:(List zR×zO)),rI y1 k0 Body x4=some o→∀ {B}{imm0 imm:Imm}{Q}{i:Int}{x:zP}{r01:Nat}{b:Nat}{p1 c1 p2 c2 p7 c7}{b1:Nat}{p10 c10 cs p11 c11},imm0.le imm→(S4 imm p7 y1 c7)→(S4 imm p1 x.Nest c1)→(S4 imm p2 x.Body c2)→(RL imm cs Body)→(S4 imm p11 x4.b c11)→(∀ l a w,¬Q (.goto l) a w)→(∀ a w,¬Q .outgrown a w)→(∀ (imm':Imm) (Body1:List zR) (x5:zO) (p12:Option Addr) (c12:Nat) (cs1:List Value) (p13:Option Addr) (c13:Nat),o=(Body1,x5)→imm0.le imm'→(RL imm' cs1 Body1)→(S4 imm' p13 x5.b c13)→T 81 B Q (.exit 2) imm' [hO zR (vS p12 Body1 c12) cs1,hB r01 (cRd x5 p13 c13),hB b1 [vS p7 y1 c7,vS p12 Body1 c12],hB b (cPart x p1 c1 p2 c2)] [(0,vP r01 0),(2,vP b 0),(3,vI i),(4,vP b1 0)])→J Tryz.prog 81 B (nav (bodyOf Tryz.f126) [1,0,1,0,0,1,0,0,1,0,1,0]) Q imm [hO zR (vS p10 Body c10) cs,hB r01 (cRd x4 p11 c11),hB b1 [vS p7 y1 c7,vS p10 Body c10],hB b (cPart x p1 c1 p2 c2)] [(0,vP r01 0),(2,vP b 0),(3,vI i),(4,vP b1 0),(5,vI k0)]:=by
 refine rI.partial_correctness y1 _ ?_;intro self ih k0 Body x4 o hM B imm0 imm Q i x r01 b p1 c1 p2 c2 p7 c7 b1 p10 c10 cs p11 c11 hle h7 h1 h2 h16 h17 hg ho hx;refine xF hg ho<|zF<|zF<|zB<|zY [] [(27,.bool (decide (k0 > 0)))]<|zE<|yP hM ?_ ?_
 · intro hc1 hM;refine yD<|zE<|zF<|yB<|zF<|zB<|zY [] [(6,vI 0)]<|zE<|yB<|uA [(0,vP r01 0),(2,vP b 0),(3,vI i),(4,vP b1 0),(5,vI k0),(6,vI 0)] ?_;obtain ⟨o0,ho0,hMl⟩:=zC hM;refine zBT y1 Body 0 x4 o0 ho0 iR h7 h1 h2 h16 h17 (fun _ _ _ h=>hg _ _ _ h) (fun _ _ h=>ho _ _ h) ?_;intro imm08 Body3 x7 p16 c16 cs3 p17 c17 heq le8 h22 h23;subst o0;have h7:=h7.mono le8;have h1:=h1.mono le8;have h2:=h2.mono le8;have hle:=hle.trans le8;exact yC<|zW<|zE<|zB<|zY [] [(5,vI (W (k0 - 1)))]<|xG<|uA [(0,vP r01 0),(2,vP b 0),(3,vI i),(4,vP b1 0),(5,vI (W (k0 - 1)))]<|ih (W (k0 - 1)) Body3 x7 _ hMl hle h7 h1 h2 h22 h23 hg ho hx
 intro hc1 hM;exact xB<|zT<|zT<|yU [(0,vP r01 0),(2,vP b 0),(3,vI i),(4,vP b1 0)]<|hx _ _ _ _ _ _ _ _ (zD hM).symm hle h16 h17
def rJ (x:zP) (i:Int) (x1:zO):Option (Out (zP×zO) (zP×zO)):=do
 if (decide (i < 4)) then
  let (y1,y2)←nK x1
  let (y4,y5)←yV y2 ([1,2,1,3]:List Int)
  let (Body1,x5)←rI y1 y4 ([]:List zR) y5
  let y13←pM
  let (y15,y16)←rP y13 (zP.mk y1 Body1)
  let t66←(do
    if y16 then
     pure (decide (y15 ≤ 40))
    else
     pure false
      : Option Bool)
  if t66 then
   pure (.ret ((zP.mk y1 Body1),x5))
  else
   rJ x (W (i + 1)) x5
 else
  pure (.done (x,x1))
 partial_fixpoint
theorem zBV (x:zP):∀ (i:Int) (x1:zO) (o:Out (zP×zO) (zP×zO)),rJ x i x1=some o→∀ {B}{imm0 imm:Imm}{Q}  {r01:Nat}{b:Nat}{p1 c1 p2 c2 p3 c3},imm0.le imm→(S4 imm p1 x.Nest c1)→(S4 imm p2 x.Body c2)→(S4 imm p3 x1.b c3)→(∀ l a w,¬Q (.goto l) a w)→(∀ a w,¬Q .outgrown a w)→(∀ (imm':Imm) (x2:zP) (x3:zO) (p4:Option Addr) (c4:Nat) (p5:Option Addr) (c5:Nat) (p6:Option Addr) (c6:Nat),o=(.done (x2,x3))→imm0.le imm'→(S4 imm' p4 x2.Nest c4)→(S4 imm' p5 x2.Body c5)→(S4 imm' p6 x3.b c6)→T 81 B Q (.exit 0) imm' [hB b (cPart x2 p4 c4 p5 c5),hB r01 (cRd x3 p6 c6)] [(2,vP b 0)])→(∀ r imm' hs' m',o=(.ret r)→imm0.le imm'→RS Tryz.prog Tryz.f126 B (gR r01 r) imm' hs' m'→T 81 B Q .ret imm' hs' m')→J Tryz.prog 81 B (nav (bodyOf Tryz.f126) [1,0,1,0]) Q imm [hB b (cPart x p1 c1 p2 c2),hB r01 (cRd x1 p3 c3)] [(0,vP r01 0),(2,vP b 0),(3,vI i)]:=by
 refine rJ.partial_correctness x _ ?_;intro self ih i x1 o hM B imm0 imm Q r01 b p1 c1 p2 c2 p3 c3 hle h1 h2 h3 hg ho hx hr;refine xF hg ho<|zF<|zF<|zB<|zY [] [(17,.bool (decide (i < 4)))]<|zE<|yP hM ?_ ?_
 · intro hc hM;refine yD<|zE<|zF<|yB<|zF<|zB<|yK 1 [] [(20,vP r01 0)]<|qC (zL [1,0] (hs':=[hB r01 (cRd x1 p3 c3),hB b (cPart x p1 c1 p2 c2)]) rfl (by decide)) ?_;obtain ⟨⟨y1,y2⟩,hy,hM⟩:=zC hM;refine tX [hB r01 (cRd x1 p3 c3)] [hB b (cPart x p1 c1 p2 c2)] (zDG x1 _ hy h3) ?_;rintro imm0 hs2 v2 k2 le - ⟨v0,kk,rfl,rfl,h7,h8⟩ -;have h1:=h1.mono le;have h2:=h2.mono le;have hle:=hle.trans le;obtain ⟨p7,c7,rfl⟩:=h7.form;obtain ⟨v01,rfl,h9⟩:=yH h8;obtain ⟨p8,c8,rfl⟩:=h9.form;refine yK 3 [] [(22,vA [vS p7 y1 c7,z0])]<|uJ zTwo ?_;intro b1 hb1;refine xI 0 [vS p7 y1 c7,z0] [hB b1 [vS p7 y1 c7,z0],hB r01 (cRd y2 p8 c8),hB b (cPart x p1 c1 p2 c2)] rfl rfl rfl rfl<|yN rfl<|zE<|zF<|zF<|zB<|yK 1 [] [(23,vP r01 0)]<|xY [vI 1,vI 2,vI 1,vI 3] Int ?_;intro b2 hb2;have h10:RL imm0 [vI 1,vI 2,vI 1,vI 3] ([1,2,1,3]:List Int):=⟨[vI 1],_,rfl,rfl,rfl,⟨[vI 2],_,rfl,rfl,rfl,⟨[vI 1],_,rfl,rfl,rfl,⟨[vI 3],_,rfl,rfl,rfl,rfl⟩⟩⟩⟩;refine yL 0 rfl ?_;intro imm01 le1 hl0;have h11:=SL.of_frozen hl0 le1 h10;have h7:=h7.mono le1;have h9:=h9.mono le1;have h1:=h1.mono le1;have h2:=h2.mono le1;have hle:=hle.trans le1;refine qC (zL [1,0,2] (hs':=[hB r01 (cRd y2 p8 c8),hB b1 [vS p7 y1 c7,z0],hB b (cPart x p1 c1 p2 c2)]) rfl (by decide)) ?_;obtain ⟨⟨y4,y5⟩,hy1,hM⟩:=zC hM;refine tX [hB r01 (cRd y2 p8 c8)] [hB b1 [vS p7 y1 c7,z0],hB b (cPart x p1 c1 p2 c2)] (xC y2 ([1,2,1,3]:List Int) _ hy1 h9 h11) ?_;rintro imm02 hs2 v2 k2 le2 - ⟨v02,kk1,rfl,rfl,rfl,h13⟩ -;have h7:=h7.mono le2;have h1:=h1.mono le2;have h2:=h2.mono le2;have hle:=hle.trans le2;obtain ⟨v03,rfl,h14⟩:=yH h13;obtain ⟨p9,c9,rfl⟩:=h14.form;refine zY [] [(5,vI y4)]<|zE<|yB<|uA [(0,vP r01 0),(2,vP b 0),(3,vI i),(4,vP b1 0),(5,vI y4)]<|qR (tD (Rp.sz zR)) ?_;have h15:RL imm02 [] ([]:List zR):=RepL.nil;obtain ⟨o01,ho01,hMl1⟩:=zC hM;refine zBU y1 y4 ([]:List zR) y5 o01 ho01 iR h7 h1 h2 h15 h14 (fun _ _ _ h=>hg _ _ _ h) (fun _ _ h=>ho _ _ h) ?_;intro imm09 Body1 x5 p12 c12 cs1 p13 c13 heq1 le9 h18 h19;subst o01;have h7:=h7.mono le9;have h1:=h1.mono le9;have h2:=h2.mono le9;have hle:=hle.trans le9;refine yC<|zE<|zF<|qK 0 rfl ?_;intro imm010 le10 hl02;have h38:=SL.of_frozen hl02 le10 h18;have h19:=h19.mono le10;have h7:=h7.mono le10;have h1:=h1.mono le10;have h2:=h2.mono le10;have hle:=hle.trans le10;obtain ⟨y13,hy6,hM⟩:=zC hMl1;obtain ⟨⟨y15,y16⟩,hy7,hM⟩:=zC hM;refine vZ [.x (fun imm' v hx=>∃ p25 c25,v=vS p25 y13 c25∧hx=[]∧(S4 imm' p25 y13 c25)),.p (vA [vS p7 y1 c7,vS p12 Body1 c12]) [1],.q (.tuple ⟨[vI y15,.bool y16]⟩),.p (.tuple ⟨[vI y15,.bool y16]⟩) [],.p (vI y15) [],.p (.bool y16) [],.p (vI y15) []] [[],[],[(0,false),(1,false)],[(2,false)],[(3,false)],[(3,false)],[(4,false)]] [hB r01 (cRd x5 p13 c13),hB b1 [vS p7 y1 c7,vS p12 Body1 c12],hB b (cPart x p1 c1 p2 c2)] [] [(5,false),(6,false)] (zL [0,1,2] rfl (by decide)) ?_ ?_
   · refine Ox ?_<|Op<|Oq ?_<|Op<|Op<|Op<|Op<|On
     · intro imm1 hf le1;refine zN<|yG [] ?_;have hle:=iS imm1;have h19:=h19.mono le1;have h7:=h7.mono le1;have h38:=h38.mono le1;have h1:=h1.mono le1;have h2:=h2.mono le1;refine yR (mB  _ hy6 ) ?_;rintro imm011 hs2 v2 k2 le11 - ⟨v013,rfl,rfl,h39⟩ -;have h19:=h19.mono le11;have h7:=h7.mono le11;have h38:=h38.mono le11;have h1:=h1.mono le11;have h2:=h2.mono le11;have hle:=hle.trans le11;obtain ⟨p25,c25,rfl⟩:=h39.form;exact zX (hx:=[]) rfl hle rfl (zM rfl) ⟨_,_,rfl,rfl,h39⟩
     intro imm1 hf le1;refine zG ?_;rintro _ _ ⟨p25,c25,rfl,rfl,h39⟩;refine zG ?_;rintro _ _ ⟨rfl,rfl⟩;refine zN<|yG [(57,vS p25 y13 c25),(58,vA [vS p7 y1 c7,vS p12 Body1 c12])] ?_;have hle:=iS imm1;have h19:=h19.mono le1;have h7:=h7.mono le1;have h38:=h38.mono le1;have h1:=h1.mono le1;have h2:=h2.mono le1;refine yR (kY y13 (zP.mk y1 Body1) _ hy7 h39 h7 h38) ?_;rintro imm012 hs2 v2 k2 le12 - ⟨v014,v015,rfl,rfl,rfl,rfl⟩ -;have h39:=h39.mono le12;have h7:=h7.mono le12;have h38:=h38.mono le12;have h19:=h19.mono le12;have h1:=h1.mono le12;have h2:=h2.mono le12;have hle:=hle.trans le12;exact zX (hx:=[]) rfl hle rfl (zM rfl) ⟨rfl,rfl⟩
   intro imm013 le13;refine zG ?_;rintro _ _ ⟨rfl,rfl⟩;refine zG ?_;rintro _ _ ⟨rfl,rfl⟩;refine zN<|yG [(0,vP r01 0),(2,vP b 0),(3,vI i),(4,vP b1 0),(10,vI y15),(61,.bool y16)] ?_;have h19:=h19.mono le13;have h7:=h7.mono le13;have h38:=h38.mono le13;have h1:=h1.mono le13;have h2:=h2.mono le13;have hle:=hle.trans le13;refine zY [] [(11,.bool y16)]<|zE<|zF ?_;obtain ⟨o02,ho02,hMc⟩:=zC hM;refine yT (fun imm' hs' m'=>∃ (t66:Bool),o02=t66∧imm013.le imm'∧hs'=[hB r01 (cRd x5 p13 c13),hB b1 [vS p7 y1 c7,vS p12 Body1 c12],hB b (cPart x p1 c1 p2 c2)]∧m'=[(0,vP r01 0),(2,vP b 0),(3,vI i),(4,vP b1 0),(66,.bool t66)]) ?_ ?_
   · have hle0:=hle;have hle:=iS imm013;refine zB<|yK 2 [] [(63,.bool y16)] ?_;cases hc4:y16 with
     | true =>
      have hM0:=zU hc4 ho02
      try rw [hc4]
      exact zY [] [(66,.bool (decide (y15 ≤ 40)))]<|yU [(0,vP r01 0),(2,vP b 0),(3,vI i),(4,vP b1 0),(66,.bool (decide (y15 ≤ 40)))]<|yA ⟨_,(zD hM0).symm,hle,rfl,rfl⟩
     | false =>
      have hM01:=zS hc4 ho02
      try rw [hc4]
      exact zY [] [(66,.bool false)]<|yU [(0,vP r01 0),(2,vP b 0),(3,vI i),(4,vP b1 0),(66,.bool false)]<|yA ⟨_,(zD hM01).symm,hle,rfl,rfl⟩
   rintro imm014 hs2 m2 ⟨t66,heq2,le14,rfl,rfl⟩;subst o02;have h19:=h19.mono le14;have h7:=h7.mono le14;have h38:=h38.mono le14;have h1:=h1.mono le14;have h2:=h2.mono le14;have hle:=hle.trans le14;refine zE<|yP hMc ?_ ?_
   · intro hc5 hM;exact zF<|zB<|yK 1 [1] [(67,vA [vS p7 y1 c7,vS p12 Body1 c12])]<|xI 2 [vS p7 y1 c7,vS p12 Body1 c12] [hB r01 (cRd x5 p13 c13),hB b1 [vS p7 y1 c7,vS p12 Body1 c12],hB b [vS p7 y1 c7,vS p12 Body1 c12]] rfl rfl rfl rfl<|yN rfl<|zE<|yJ<|yE<|zQ<|zQ<|hr _ _ _ _ (zD hM).symm hle ⟨_,_,(.cell 2 rfl rfl (by kernel_rfl) ResV.nil),(zL [0] rfl (by decide)),⟨_,_,rfl,rfl,⟨_,rfl,(sC ⟨_,_,rfl,h7,h38⟩)⟩,(yS ⟨_,rfl,h19⟩)⟩⟩
   intro hc5 hM;exact yD<|zW<|zE<|zB<|zY [] [(3,vI (W (i + 1)))]<|xG<|qR (zL [2,0] rfl (by decide))<|uA [(0,vP r01 0),(2,vP b 0),(3,vI (W (i + 1)))]<|ih (W (i + 1)) x5 _ hM hle h1 h2 h19 hg ho hx hr
 intro hc hM;exact xB<|zT<|zT<|yU [(2,vP b 0)]<|hx _ _ _ _ _ _ _ _ _ (zD hM).symm hle h1 h2 h3
def nP (r0:zO):Option (zP×zO):=do
 match←rJ (zP.mk ([]:List zI) ([]:List zR)) 0 r0 with
 | .ret r0=>pure r0
 | .done (x2,x3) =>
  let (y18,y19)←pW (⟨[65,91,105,93,61,40,65,91,105,93,43,123,105,125,41]⟩:Str)
  let (y21,y22)←nC ([4]:List Int)
  pure ((zP.mk y21 ([y18]:List zR)),x3)
theorem zDN:∀ (r0:zO) r,nP r0=some r→∀ {imm:Imm}{r01:Nat}{p c},(S4 imm p r0.b c)→Ret Tryz.prog 126 [vP r01 0] imm [hB r01 (cRd r0 p c)] (gR r01 r):=by
 intro r0 r hM imm r01 p c h;unfold nP at hM;refine yF (fn:=Tryz.f126) (c:=(bodyOf Tryz.f126)) Tryz.func126 rfl rfl ?_;rintro B - -;have hle:=iS imm;refine zF<|zB<|uJ zTwo ?_;intro b hb;refine yN rfl<|zE<|zF<|zF<|zB<|zY [] [(3,vI 0)]<|zE<|yB<|uA [(0,vP r01 0),(2,vP b 0),(3,vI 0)] ?_;obtain ⟨o03,ho03,hMl2⟩:=zC hM;refine zBV (zP.mk ([]:List zI) ([]:List zR)) 0 r0 o03 ho03 iR (SL.nil _) (SL.nil _) h (fun _ _ _ h=>h) (fun _ _ h=>h) ?_ ?_
 · intro imm015 x2 x3 p4 c4 p5 c5 p6 c6 heq3 le15 h4 h5 h6;subst o03;have hle:=hle.trans le15;refine yC<|zE<|zF<|zB ?_;obtain ⟨⟨y18,y19⟩,hy8,hM⟩:=zC hMl2;refine yR (zBS (⟨[65,91,105,93,61,40,65,91,105,93,43,123,105,125,41]⟩:Str) _ hy8 ) ?_;rintro imm016 hs2 v2 k2 le16 - ⟨v016,v017,rfl,rfl,⟨cs6,rfl,h42⟩,rfl⟩ -;have h4:=h4.mono le16;have h5:=h5.mono le16;have h6:=h6.mono le16;have hle:=hle.trans le16;obtain ⟨v018,v019,v020,v021,rfl,h44,h45,h46,h47⟩:=wL h42;obtain ⟨p26,c26,rfl⟩:=h44.form;obtain ⟨p27,c27,rfl⟩:=h45.form;obtain ⟨p28,c28,rfl⟩:=h46.form;obtain ⟨p29,c29,rfl⟩:=h47.form;refine yK 4 [] [(70,vA (cStmt y18 p26 c26 p27 c27 p28 c28 p29 c29)),(71,.bool y19)]<|uJ [vT ([]),z0,vI 0,vI 0,z0,vI 0,vT ([]),z0,z0] ?_;intro b6 hb6;refine xI 0 (cStmt y18 p26 c26 p27 c27 p28 c28 p29 c29) [hB b6 (cStmt y18 p26 c26 p27 c27 p28 c28 p29 c29),hB b (cPart x2 p4 c4 p5 c5),hB r01 (cRd x3 p6 c6)] rfl rfl rfl rfl<|zY [] []<|zE<|zF<|zB<|xY [vI 4] Int ?_;intro b7 hb7;have h48:RL imm016 [vI 4] ([4]:List Int):=⟨[vI 4],_,rfl,rfl,rfl,rfl⟩;refine yL 0 rfl ?_;intro imm017 le17 hl03;have h49:=SL.of_frozen hl03 le17 h48;have h44:=h44.mono le17;have h45:=h45.mono le17;have h46:=h46.mono le17;have h47:=h47.mono le17;have h4:=h4.mono le17;have h5:=h5.mono le17;have h6:=h6.mono le17;have hle:=hle.trans le17;obtain ⟨⟨y21,y22⟩,hy9,hM⟩:=zC hM;refine yR (zC6 ([4]:List Int) _ hy9 h49) ?_;rintro imm018 hs2 v2 k2 le18 - ⟨v022,v023,rfl,rfl,h50,rfl⟩ -;have h44:=h44.mono le18;have h45:=h45.mono le18;have h46:=h46.mono le18;have h47:=h47.mono le18;have h4:=h4.mono le18;have h5:=h5.mono le18;have h6:=h6.mono le18;have hle:=hle.trans le18;obtain ⟨p30,c30,rfl⟩:=h50.form;refine zY [] [(14,vS p30 y21 c30)]<|zE<|zF<|zB<|yK 2 [0] [(77,vS p30 y21 c30),(78,vA (cStmt y18 p26 c26 p27 c27 p28 c28 p29 c29))]<|xY (cStmt y18 p26 c26 p27 c27 p28 c28 p29 c29) zR ?_;intro b8 hb8;have h52:RL imm018 (cStmt y18 p26 c26 p27 c27 p28 c28 p29 c29) ([y18]:List zR):=⟨(cStmt y18 p26 c26 p27 c27 p28 c28 p29 c29),_,rfl,rfl,(wM ⟨_,_,_,_,rfl,h44,h45,h46,h47⟩),rfl⟩;refine yK 4 [] [(80,vA [vS p30 y21 c30,vS (some ⟨b8,0,none⟩) ([y18]:List zR) 1])]<|xI 2 [vS p30 y21 c30,vS (some ⟨b8,0,none⟩) ([y18]:List zR) 1] [hO zR (vS (some ⟨b8,0,none⟩) ([y18]:List zR) 1) (cStmt y18 p26 c26 p27 c27 p28 c28 p29 c29),hB b6 (cStmt y18 p26 c26 p27 c27 p28 c28 p29 c29),hB b [vS p30 y21 c30,vS (some ⟨b8,0,none⟩) ([y18]:List zR) 1],hB r01 (cRd x3 p6 c6)] rfl rfl rfl rfl<|yN rfl<|zE<|yJ<|xL 0 rfl ?_;intro imm019 le19 hl04;have h53:=SL.of_frozen hl04 le19 h52;have h44:=h44.mono le19;have h45:=h45.mono le19;have h46:=h46.mono le19;have h47:=h47.mono le19;have h50:=h50.mono le19;have h6:=h6.mono le19;have hle:=hle.trans le19;obtain rfl:=zD hM;exact yQ ⟨_,_,(.cell 1 rfl rfl (by kernel_rfl) ResV.nil),(zL [2] rfl (by decide)),⟨_,_,rfl,rfl,⟨_,rfl,(sC ⟨_,_,rfl,h50,h53⟩)⟩,(yS ⟨_,rfl,h6⟩)⟩⟩
 intro r0 imm9 hs9 m9 heq9 le9 hrs9;subst heq9;refine yE<|zQ ?_;obtain rfl:=zD hMl2;exact yQ hrs9
def zCG (b0:Nat) (r:zZ×zO):KT:=fun kk imm' hs' v=>
  ∃ v0 k0,hs'=[.blk b0 ⟨k0⟩]∧v=tupV [v0]∧(∃ cs,v0=.agg ⟨cs⟩∧Rp.rep imm' cs r.1)∧Rp.rep imm' k0 r.2
def rK (i:Int) (Parts:List zP) (x:zO):Option ((List zP×zO)):=do
 if (decide (i > 0)) then
  let (y5,y6)←nP x
  let l←app 48 Parts ([y5]:List zP)
  rK (W (i - 1)) l y6
 else
  pure (Parts,x)
 partial_fixpoint
theorem zBW :∀ (i:Int) (Parts:List zP) (x:zO) (o:(List zP×zO)),rK i Parts x=some o→∀ {B}{imm0 imm:Imm}{Q}{y:(List zJ)}{r01:Nat}{b:Nat}{p1 c1}{b1:Nat}{p3 c3 cs p4 c4},imm0.le imm→(S4 imm p1 y c1)→(RL imm cs Parts)→(S4 imm p4 x.b c4)→(∀ l a w,¬Q (.goto l) a w)→(∀ a w,¬Q .outgrown a w)→(∀ (imm':Imm) (Parts1:List zP) (x1:zO) (p5:Option Addr) (c5:Nat) (cs1:List Value) (p6:Option Addr) (c6:Nat),o=(Parts1,x1)→imm0.le imm'→(RL imm' cs1 Parts1)→(S4 imm' p6 x1.b c6)→T 29 B Q (.exit 0) imm' [hO zP (vS p5 Parts1 c5) cs1,hB r01 (cRd x1 p6 c6),hB b1 [vS p1 y c1,vS p5 Parts1 c5],hB b zTwo] [(2,vP b 0),(3,vP b1 0)])→J Tryz.prog 29 B (nav (bodyOf Tryz.f62) [1,1,0,1,0]) Q imm [hO zP (vS p3 Parts c3) cs,hB r01 (cRd x p4 c4),hB b1 [vS p1 y c1,vS p3 Parts c3],hB b zTwo] [(0,vP r01 0),(2,vP b 0),(3,vP b1 0),(4,vI i)]:=by
 refine rK.partial_correctness  _ ?_;intro self ih i Parts x o hM B imm0 imm Q y r01 b p1 c1 b1 p3 c3 cs p4 c4 hle h1 h8 h9 hg ho hx;refine xF hg ho<|zF<|zF<|zB<|zY [] [(11,.bool (decide (i > 0)))]<|zE<|yP hM ?_ ?_
 · intro hc hM;refine yD<|zE<|zF<|yB ?_;obtain ⟨⟨y5,y6⟩,hy2,hM⟩:=zC hM;obtain ⟨l,hy3,hM⟩:=zC hM;refine vZ [.p (vP b1 1) [],.p (vS p3 Parts c3) [0],.p (vP r01 0) [],.x (fun imm' v hx=>∃ p7 c7 p8 c8 p9 c9,v=vA (cPart y5 p7 c7 p8 c8)∧hx=[hB r01 (cRd y6 p9 c9)]∧(S4 imm' p7 y5.Nest c7)∧(S4 imm' p8 y5.Body c8)∧(S4 imm' p9 y6.b c9)),.x (fun imm' v hx=>∃ b3,v=vS (some ⟨b3,0,none⟩) ([y5]:List zP) 1∧hx=[]∧(SL imm' (vS (some ⟨b3,0,none⟩) ([y5]:List zP) 1) ([y5]:List zP))),.x (fun imm' v hx=>∃ p10 c10 cs3,v=vS p10 l c10∧hx=[hO zP (vS p10 l c10) cs3]∧(RL imm' cs3 l))] [[],[(0,false)],[],[(2,false),(8,true)],[(3,false)],[(1,false),(4,false),(9,true)]] [hB b1 [vS p1 y c1,vS p3 Parts c3],hB b zTwo] [[hB r01 (cRd x p4 c4)],[hO zP (vS p3 Parts c3) cs]] [(3,true),(5,true)] (zL [2,3,1,0] rfl (by decide)) ?_ ?_
   · refine Op<|Op<|Op<|Ox ?_<|Ox ?_<|Ox ?_<|On
     · intro imm1 hf le1;refine zG ?_;rintro _ _ ⟨rfl,rfl⟩;refine zG ?_;rintro _ _ rfl;refine zN<|yG [(16,vP r01 0)] ?_;have hle:=iS imm1;have h8:=iM le1 h8;have h9:=h9.mono le1;have h1:=h1.mono le1;refine tX [hB r01 (cRd x p4 c4)] (hB b1 [vS p1 y c1,vS p3 Parts c3]::hB b zTwo::hf) (zDN x _ hy2 h9) ?_;rintro imm03 hs2 v2 k2 le3 - ⟨v03,kk1,rfl,rfl,⟨cs2,rfl,h12⟩,h13⟩ -;have h1:=h1.mono le3;have h8:=iM le3 h8;have hle:=hle.trans le3;obtain ⟨v04,v05,rfl,h14,h15⟩:=uM h12;obtain ⟨p7,c7,rfl⟩:=h14.form;obtain ⟨p8,c8,rfl⟩:=h15.form;obtain ⟨v06,rfl,h16⟩:=yH h13;obtain ⟨p9,c9,rfl⟩:=h16.form;exact zX (hx:=[hB r01 (cRd y6 p9 c9)]) rfl hle rfl (zM rfl) ⟨_,_,_,_,_,_,rfl,rfl,h14,h15,h16⟩
     · intro imm1 hf le1;refine zG ?_;rintro _ _ ⟨p7,c7,p8,c8,p9,c9,rfl,rfl,h14,h15,h16⟩;refine zN<|yG [(17,vA (cPart y5 p7 c7 p8 c8))] ?_;have hle:=iS imm1;have h8:=iM le1 h8;have h1:=h1.mono le1;refine xY (cPart y5 p7 c7 p8 c8) zP ?_;intro b3 hb3;have h17:RL imm1 (cPart y5 p7 c7 p8 c8) ([y5]:List zP):=⟨(cPart y5 p7 c7 p8 c8),_,rfl,rfl,(sC ⟨_,_,rfl,h14,h15⟩),rfl⟩;refine yL 0 rfl ?_;intro imm04 le4 hl01;have h18:=SL.of_frozen hl01 le4 h17;have h14:=h14.mono le4;have h15:=h15.mono le4;have h1:=h1.mono le4;have h8:=iM le4 h8;have hle:=hle.trans le4;exact zX (hx:=[]) rfl hle rfl (zM rfl) ⟨_,rfl,rfl,h18⟩
     intro imm1 hf le1;refine zG ?_;rintro _ _ ⟨rfl,rfl⟩;refine zG ?_;rintro _ _ ⟨b3,rfl,rfl,h18⟩;refine zG ?_;rintro _ _ rfl;refine zN<|yG [(15,vS p3 Parts c3),(18,vS (some ⟨b3,0,none⟩) ([y5]:List zP) 1)] ?_;have hle:=iS imm1;have h8:=iM le1 h8;obtain ⟨ccs,k0,k01⟩:=h18;have h18:SL imm1 (vS (some ⟨b3,0,none⟩) ([y5]:List zP) 1) ([y5]:List zP):=⟨_,k0,k01⟩;refine qS 37 2 0 rfl rfl rfl h8 (.inl k0) k01 hy3 ?_;intro p10 c10 cs3 h19;exact uI (hs':=(hO zP (vS p10 l c10) cs3::hB b1 [vS p1 y c1,vS p3 Parts c3]::hB b zTwo::hf)) rfl<|zX (hx:=[hO zP (vS p10 l c10) cs3]) rfl hle rfl (zM rfl) ⟨_,_,_,rfl,rfl,h19⟩
   intro imm05 le5;refine zG ?_;rintro _ _ ⟨p7,c7,p8,c8,p9,c9,rfl,rfl,h14,h15,h16⟩;refine zG ?_;rintro _ _ ⟨p10,c10,cs3,rfl,rfl,h19⟩;refine zN<|yG [(0,vP r01 0),(2,vP b 0),(3,vP b1 0),(4,vI i),(19,vS p10 l c10)] ?_;have h1:=h1.mono le5;have h8:=iM le5 h8;have hle:=hle.trans le5;exact yK 7 [] [(20,vP b1 1)]<|xI 2 [vS p1 y c1,vS p10 l c10] [hO zP (vS p10 l c10) cs3,hB r01 (cRd y6 p9 c9),hB b1 [vS p1 y c1,vS p10 l c10],hB b zTwo] rfl rfl rfl rfl<|yN rfl<|zW<|zE<|zB<|zY [] [(4,vI (W (i - 1)))]<|xG<|uA [(0,vP r01 0),(2,vP b 0),(3,vP b1 0),(4,vI (W (i - 1)))]<|ih (W (i - 1)) l y6 _ hM hle h1 h19 h16 hg ho hx
 intro hc hM;exact xB<|zT<|zT<|yU [(2,vP b 0),(3,vP b1 0)]<|hx _ _ _ _ _ _ _ _ (zD hM).symm hle h8 h9
def mW (r0:zO):Option (zZ×zO):=do
 let y←pM
 let (y2,y3)←yV r0 ([1,2,1,3]:List Int)
 let (Parts1,x1)←rK y2 ([]:List zP) y3
 let y7←tE (zZ.mk y Parts1)
 if y7 then
  pure ((zZ.mk y Parts1),x1)
 else
  let y8←pM
  let l1←slc Parts1 0 1
  pure ((zZ.mk y8 l1),x1)
theorem zGp:∀ (r0:zO) r,mW r0=some r→∀ {imm:Imm}{r01:Nat}{p c},(S4 imm p r0.b c)→Ret Tryz.prog 62 [vP r01 0] imm [hB r01 (cRd r0 p c)] (zCG r01 r):=by
 intro r0 r hM imm r01 p c h;unfold mW at hM;refine yF (fn:=Tryz.f62) (c:=(bodyOf Tryz.f62)) Tryz.func62 rfl rfl ?_;rintro B - -;have hle:=iS imm;refine zF<|zB<|uJ zTwo ?_;intro b hb;refine yN rfl<|zE<|zF<|zB ?_;obtain ⟨y,hy,hM⟩:=zC hM;refine yR (mB  _ hy ) ?_;rintro imm0 hs2 v2 k2 le - ⟨v0,rfl,rfl,h1⟩ -;have h:=h.mono le;have hle:=hle.trans le;obtain ⟨p1,c1,rfl⟩:=h1.form;refine yK 2 [] [(6,vA [vS p1 y c1,z0])]<|uJ zTwo ?_;intro b1 hb1;refine xI 0 [vS p1 y c1,z0] [hB b1 [vS p1 y c1,z0],hB b zTwo,hB r01 (cRd r0 p c)] rfl rfl rfl rfl<|yN rfl<|zE<|zF<|zF<|zB<|yK 1 [] [(7,vP r01 0)]<|xY [vI 1,vI 2,vI 1,vI 3] Int ?_;intro b2 hb2;have h2:RL imm0 [vI 1,vI 2,vI 1,vI 3] ([1,2,1,3]:List Int):=⟨[vI 1],_,rfl,rfl,rfl,⟨[vI 2],_,rfl,rfl,rfl,⟨[vI 1],_,rfl,rfl,rfl,⟨[vI 3],_,rfl,rfl,rfl,rfl⟩⟩⟩⟩;refine yL 0 rfl ?_;intro imm01 le1 hl0;have h3:=SL.of_frozen hl0 le1 h2;have h1:=h1.mono le1;have h:=h.mono le1;have hle:=hle.trans le1;refine qC (zL [2,0,1] (hs':=[hB r01 (cRd r0 p c),hB b1 [vS p1 y c1,z0],hB b zTwo]) rfl (by decide)) ?_;obtain ⟨⟨y2,y3⟩,hy1,hM⟩:=zC hM;refine tX [hB r01 (cRd r0 p c)] [hB b1 [vS p1 y c1,z0],hB b zTwo] (xC r0 ([1,2,1,3]:List Int) _ hy1 h h3) ?_;rintro imm02 hs2 v2 k2 le2 - ⟨v01,kk,rfl,rfl,rfl,h5⟩ -;have h1:=h1.mono le2;have hle:=hle.trans le2;obtain ⟨v02,rfl,h6⟩:=yH h5;obtain ⟨p2,c2,rfl⟩:=h6.form;refine zY [] [(4,vI y2)]<|zE<|yB<|uA [(0,vP r01 0),(2,vP b 0),(3,vP b1 0),(4,vI y2)]<|qR (tD (Rp.sz zP)) ?_;have h7:RL imm02 [] ([]:List zP):=RepL.nil;obtain ⟨o0,ho0,hMl⟩:=zC hM;refine zBW y2 ([]:List zP) y3 o0 ho0 iR h1 h7 h6 (fun _ _ _ h=>h) (fun _ _ h=>h) ?_;intro imm06 Parts1 x1 p5 c5 cs1 p6 c6 heq le6 h10 h11;subst o0;have h1:=h1.mono le6;have hle:=hle.trans le6;refine yC<|zE<|zF<|zF<|zB<|yK 1 [2] [(21,vA [vS p1 y c1,vS p5 Parts1 c5])]<|yL 0 rfl ?_;intro imm07 le7 hl02;have h20:=SL.of_frozen hl02 le7 h10;have h1:=h1.mono le7;have h11:=h11.mono le7;have hle:=hle.trans le7;obtain ⟨y7,hy4,hM⟩:=zC hMl;refine yR (eU (zZ.mk y Parts1) _ hy4 h1 h20) ?_;rintro imm08 hs2 v2 k2 le8 - ⟨v07,rfl,rfl,rfl⟩ -;have h11:=h11.mono le8;have h1:=h1.mono le8;have h20:=h20.mono le8;have hle:=hle.trans le8;refine yN rfl<|zE<|yP hM ?_ ?_
 · intro hc1 hM;refine zF<|zB<|yK 1 [1] [(23,vA [vS p1 y c1,vS p5 Parts1 c5])]<|xI 2 [vS p1 y c1,vS p5 Parts1 c5] [hB r01 (cRd x1 p6 c6),hB b1 [vS p1 y c1,vS p5 Parts1 c5],hB b [vS p1 y c1,vS p5 Parts1 c5]] rfl rfl rfl rfl<|yN rfl<|zE<|yJ<|zQ ?_;obtain rfl:=zD hM;exact yQ ⟨_,_,(.cell 2 rfl rfl (by kernel_rfl) ResV.nil),(zL [0] rfl (by decide)),⟨_,_,rfl,rfl,⟨_,rfl,(oU ⟨_,_,rfl,h1,h20⟩)⟩,(yS ⟨_,rfl,h11⟩)⟩⟩
 intro hc1 hM;refine yD<|zE<|zF ?_;obtain ⟨y8,hy5,hM⟩:=zC hM;obtain ⟨l1,hy6,hM⟩:=zC hM;refine vZ [.x (fun imm' v hx=>∃ p11 c11,v=vS p11 y8 c11∧hx=[]∧(S4 imm' p11 y8 c11)),.p (vP b1 1) [],.p (vS p5 Parts1 c5) [1],.x (fun imm' v hx=>∃ p12 c12,v=vS p12 l1 c12∧hx=[]∧(S4 imm' p12 l1 c12)),.x (fun imm' v hx=>∃ p111 c111 p121 c121,v=vA [vS p111 y8 c111,vS p121 l1 c121]∧hx=[]∧(S4 imm' p111 y8 c111)∧(S4 imm' p121 l1 c121))] [[],[],[(1,false)],[(2,false)],[(0,false),(3,false)]] [hB r01 (cRd x1 p6 c6),hB b1 [vS p1 y c1,vS p5 Parts1 c5],hB b zTwo] [] [(4,false)] (zL [0,1,2] rfl (by decide)) ?_ ?_
 · refine Ox ?_<|Op<|Op<|Ox ?_<|Ox ?_<|On
   · intro imm1 hf le1;refine zN<|yG [] ?_;have hle:=iS imm1;have h11:=h11.mono le1;have h1:=h1.mono le1;have h20:=h20.mono le1;refine yR (mB  _ hy5 ) ?_;rintro imm09 hs2 v2 k2 le9 - ⟨v08,rfl,rfl,h22⟩ -;have h11:=h11.mono le9;have h1:=h1.mono le9;have h20:=h20.mono le9;have hle:=hle.trans le9;obtain ⟨p11,c11,rfl⟩:=h22.form;exact zX (hx:=[]) rfl hle rfl (zM rfl) ⟨_,_,rfl,rfl,h22⟩
   · intro imm1 hf le1;refine zG ?_;rintro _ _ ⟨rfl,rfl⟩;refine zN<|yG [(26,vS p5 Parts1 c5)] ?_;have hle:=iS imm1;have h20:=h20.mono le1;refine zIQ rfl h20 hy6 ?_;intro v09 h23;obtain ⟨p12,c12,rfl⟩:=h23.form;exact zX (hx:=[]) rfl hle rfl (zM rfl) ⟨_,_,rfl,rfl,h23⟩
   intro imm1 hf le1;refine zG ?_;rintro _ _ ⟨p11,c11,rfl,rfl,h22⟩;refine zG ?_;rintro _ _ ⟨p12,c12,rfl,rfl,h23⟩;refine zN<|yG [(24,vS p11 y8 c11),(27,vS p12 l1 c12)] ?_;have hle:=iS imm1;exact qQ 5 [(28,vA [vS p11 y8 c11,vS p12 l1 c12])]<|zX (hx:=[]) rfl hle rfl (zM rfl) ⟨_,_,_,_,rfl,rfl,h22,h23⟩
 intro imm010 le10;refine zG ?_;rintro _ _ ⟨p111,c111,p121,c121,rfl,rfl,h221,h231⟩;refine zN<|yG [(2,vP b 0),(28,vA [vS p111 y8 c111,vS p121 l1 c121])] ?_;have h11:=h11.mono le10;have h1:=h1.mono le10;have h20:=h20.mono le10;have hle:=hle.trans le10;refine xI 2 [vS p111 y8 c111,vS p121 l1 c121] [hB r01 (cRd x1 p6 c6),hB b1 [vS p1 y c1,vS p5 Parts1 c5],hB b [vS p111 y8 c111,vS p121 l1 c121]] rfl rfl rfl rfl<|yN rfl<|zE<|yJ ?_;obtain rfl:=zD hM;exact yQ ⟨_,_,(.cell 2 rfl rfl (by kernel_rfl) ResV.nil),(zL [0] rfl (by decide)),⟨_,_,rfl,rfl,⟨_,rfl,(oU ⟨_,_,rfl,h221,h231⟩)⟩,(yS ⟨_,rfl,h11⟩)⟩⟩
def zCH (r:Bool):KT:=fun kk imm' hs' v=>
  ∃ v0,hs'=[]∧v=tupV [v0]∧v0=.bool r
def xT (n0:Int) (low:Int) (high:Int):Option (Bool):=do
 let t6←(do
   if (decide (low ≤ n0)) then
    pure (decide (n0 ≤ high))
   else
    pure false
     : Option Bool)
 pure (id t6)
theorem wH:∀ (n0:Int) (low:Int) (high:Int) r,xT n0 low high=some r→∀ {imm:Imm} ,Ret Tryz.prog 77 [vI n0,vI low,vI high] imm [] (zCH  r):=by
 intro n0 low high r hM imm;unfold xT at hM;refine yF (fn:=Tryz.f77) (c:=(bodyOf Tryz.f77)) Tryz.func77 rfl rfl ?_;rintro B - -;have hle:=iS imm;refine zF<|zB<|zY [] []<|zE<|zF ?_;obtain ⟨o0,ho0,hMc⟩:=zC hM;refine yT (fun imm' hs' m'=>∃ (t6:Bool),o0=t6∧imm.le imm'∧hs'=[]∧m'=[(6,.bool t6)]) ?_ ?_
 · have hle0:=hle;have hle:=iS imm;refine zB<|yK 4 [] [(10,.bool (decide (low ≤ n0)))] ?_;cases hc:(decide (low ≤ n0)) with
   | true =>
    have hM0:=zU hc ho0
    try rw [hc]
    exact zY [] [(6,.bool (decide (n0 ≤ high)))]<|yU [(6,.bool (decide (n0 ≤ high)))]<|yA ⟨_,(zD hM0).symm,hle,rfl,rfl⟩
   | false =>
    have hM01:=zS hc ho0
    try rw [hc]
    exact zY [] [(6,.bool false)]<|yU [(6,.bool false)]<|yA ⟨_,(zD hM01).symm,hle,rfl,rfl⟩
 rintro imm0 hs2 m2 ⟨t6,heq,le,rfl,rfl⟩;subst o0;have hle:=hle.trans le;refine zE<|yJ ?_;obtain rfl:=zD hMc;exact yQ ⟨_,_,(.tmp rfl ResV.nil),zV,⟨_,rfl,rfl,rfl⟩⟩
def tO (hsF:List HA) (r:Int):KT:=fun kk imm' hs' v=>
  ∃ v0,hsF=hs'∧v=tupV [v0]∧v0=.int .i64 r
def yX (s:(List zA)) (f0:(zA→Option Bool)) (t8:Int):Option (Out Unit (Int)):=do
 if (decide (t8 < (s.length:Int))) then
  let x←idx s t8
  let y←f0 x
  if y then
   pure (.ret t8)
  else
   yX s f0 (W (t8 + 1))
 else
  pure (.done ())
 partial_fixpoint
theorem pQ (s:(List zA)) (f0:(zA→Option Bool)):∀ (t8:Int) (o:Out Unit (Int)),yX s f0 t8=some o→∀ {B}{imm0 imm:Imm}{Q p c}{fv:Value}{hsF:List HA},imm0.le imm→(S4 imm p s c)→(FV1 Tryz.prog imm hsF fv f0)→(∀ l a w,¬Q (.goto l) a w)→(∀ a w,¬Q .outgrown a w)→(∀ (imm':Imm) ,o=(.done ())→imm0.le imm'→T 19 B Q (.exit 0) imm' hsF [])→(∀ r imm' hs' m',o=(.ret r)→imm0.le imm'→RS Tryz.prog Tryz.f166 B (tO hsF r) imm' hs' m'→T 19 B Q .ret imm' hs' m')→J Tryz.prog 19 B (nav (bodyOf Tryz.f166) [1,0,1,0]) Q imm hsF [(0,vS p s c),(1,fv),(7,vI (s.length:Int)),(8,vI t8)]:=by
 refine yX.partial_correctness s f0 _ ?_;intro self ih t8 o hM B imm0 imm Q p c fv hsF hle h h1 hg ho hx hr;refine xF hg ho<|zF<|zB<|zY [] [(9,.bool (decide (t8 < (s.length:Int))))]<|zE<|zF<|yP hM ?_ ?_
 · intro hc hM;refine yD<|zE<|zF<|yB<|zF<|zB<|zY [] [(5,vI t8)]<|zE<|zF<|zB<|yK 3 [] [(11,fv),(12,vS p s c),(13,vI t8)] ?_;obtain ⟨x,hy,hM⟩:=zC hM;refine wJ rfl rfl h hy ?_;intro ad ccs hat hrep;obtain ⟨v0,rfl,h2⟩:=yM hrep;obtain ⟨p1,c1,rfl⟩:=h2.form;refine xX 0 hat (cAff x p1 c1) (vA (cAff x p1 c1)) rfl ?_;obtain ⟨y,hy1,hM⟩:=zC hM;refine zFo rfl rfl h1 hy1 ⟨_,rfl,(yO ⟨_,rfl,h2⟩)⟩ (List.append_nil _).symm ?_;rintro imm0 v01 le rfl;refine uI (hs':=hsF) (List.append_nil _) ?_;have h:=h.mono le;have h1:=h1.mono le;have hle:=hle.trans le;refine yN rfl<|zE<|yP hM ?_ ?_
   · intro hc1 hM;exact zF<|zB<|zY [] [(4,vI t8)]<|zE<|yJ<|yE<|zQ<|zQ<|hr _ _ _ _ (zD hM).symm hle ⟨_,_,(.tmp rfl ResV.nil),(fun _ h=>h),⟨_,rfl,rfl,rfl⟩⟩
   intro hc1 hM;exact yD<|zW<|zE<|zB<|zY [] [(8,vI (W (t8 + 1)))]<|xG<|uA [(0,vS p s c),(1,fv),(7,vI (s.length:Int)),(8,vI (W (t8 + 1)))]<|ih (W (t8 + 1)) _ hM hle h h1 hg ho hx hr
 intro hc hM;exact xB<|zT<|zT<|yU []<|hx _  (zD hM).symm hle
def xZ (s:(List zA)) (f0:(zA→Option Bool)):Option (Int):=do
 match←yX s f0 0 with
 | .ret r0=>pure r0
 | .done _ =>
  pure (-1)
theorem oD:∀ (s:(List zA)) (f0:(zA→Option Bool)) r,xZ s f0=some r→∀ {imm:Imm}{p c}{fv:Value}{hsF:List HA},(S4 imm p s c)→(FV1 Tryz.prog imm hsF fv f0)→Ret Tryz.prog 166 [vS p s c,fv] imm hsF (tO hsF r):=by
 intro s f0 r hM imm p c fv hsF h h1;unfold xZ at hM;refine yF (fn:=Tryz.f166) (c:=(bodyOf Tryz.f166)) Tryz.func166 rfl rfl ?_;rintro B - -;have hle:=iS imm;refine zF<|zB<|zY [] []<|zE<|zF<|zF<|zB<|zY [] [(7,vI (s.length:Int)),(8,vI 0)]<|zE<|yB<|uA [(0,vS p s c),(1,fv),(7,vI (s.length:Int)),(8,vI 0)] ?_;obtain ⟨o0,ho0,hMl⟩:=zC hM;refine pQ s f0 0 o0 ho0 iR h h1 (fun _ _ _ h=>h) (fun _ _ h=>h) ?_ ?_
 · intro imm01  heq le1;subst o0;have hle:=hle.trans le1;refine yC<|zE<|zF<|zB<|zY [] [(4,vI (-1))]<|zE<|yJ ?_;obtain rfl:=zD hMl;exact yQ ⟨_,_,(.tmp rfl ResV.nil),(fun _ h=>h),⟨_,rfl,rfl,rfl⟩⟩
 intro r0 imm9 hs9 m9 heq9 le9 hrs9;subst heq9;refine yE<|zQ ?_;obtain rfl:=zD hMl;exact yQ hrs9
def qT (hsF:List HA) (r:Bool):KT:=fun kk imm' hs' v=>
  ∃ v0,hsF=hs'∧v=tupV [v0]∧v0=.bool r
def xA (s:(List zA)) (f0:(zA→Option Bool)):Option (Bool):=do
 let y←xZ s f0
 pure (decide (y ≥ 0))
theorem tN:∀ (s:(List zA)) (f0:(zA→Option Bool)) r,xA s f0=some r→∀ {imm:Imm}{p c}{fv:Value}{hsF:List HA},(S4 imm p s c)→(FV1 Tryz.prog imm hsF fv f0)→Ret Tryz.prog 118 [vS p s c,fv] imm hsF (qT hsF r):=by
 intro s f0 r hM imm p c fv hsF h h1;unfold xA at hM;refine yF (fn:=Tryz.f118) (c:=(bodyOf Tryz.f118)) Tryz.func118 rfl rfl ?_;rintro B - -;have hle:=iS imm;refine zF<|zB<|zY [] []<|zE<|zF<|zB<|yK 2 [] [(5,vS p s c),(6,fv)] ?_;obtain ⟨y,hy,hM⟩:=zC hM;refine zBb (hs1:=hsF) (rest:=[]) rfl rfl rfl rfl (by kernel_rfl) rfl (List.append_nil _).symm (oD s f0 _ hy h h1) ?_;rintro imm0 hs2 v2 k2 le - ⟨v0,rfl,rfl,rfl⟩ -;refine uI (hs':=hsF) (List.append_nil _) ?_;have hle:=hle.trans le;refine zY [] [(4,.bool (decide (y ≥ 0)))]<|zE<|yJ ?_;obtain rfl:=zD hM;exact yQ ⟨_,_,(.tmp rfl ResV.nil),(fun _ h=>h),⟨_,rfl,rfl,rfl⟩⟩
def oF (hsF:List HA) (r:Int):KT:=fun kk imm' hs' v=>
  ∃ v0,hsF=hs'∧v=tupV [v0]∧v0=.int .i64 r
def xQ (s:(List Int)) (f0:(Int→Option Bool)) (t8:Int):Option (Out Unit (Int)):=do
 if (decide (t8 < (s.length:Int))) then
  let x←idx s t8
  let y←f0 x
  if y then
   pure (.ret t8)
  else
   xQ s f0 (W (t8 + 1))
 else
  pure (.done ())
 partial_fixpoint
theorem mR (s:(List Int)) (f0:(Int→Option Bool)):∀ (t8:Int) (o:Out Unit (Int)),xQ s f0 t8=some o→∀ {B}{imm0 imm:Imm}{Q p c}{fv:Value}{hsF:List HA},imm0.le imm→(S4 imm p s c)→(FV1 Tryz.prog imm hsF fv f0)→(∀ l a w,¬Q (.goto l) a w)→(∀ a w,¬Q .outgrown a w)→(∀ (imm':Imm) ,o=(.done ())→imm0.le imm'→T 19 B Q (.exit 0) imm' hsF [])→(∀ r imm' hs' m',o=(.ret r)→imm0.le imm'→RS Tryz.prog Tryz.f137 B (oF hsF r) imm' hs' m'→T 19 B Q .ret imm' hs' m')→J Tryz.prog 19 B (nav (bodyOf Tryz.f137) [1,0,1,0]) Q imm hsF [(0,vS p s c),(1,fv),(7,vI (s.length:Int)),(8,vI t8)]:=by
 refine xQ.partial_correctness s f0 _ ?_;intro self ih t8 o hM B imm0 imm Q p c fv hsF hle h h1 hg ho hx hr;refine xF hg ho<|zF<|zB<|zY [] [(9,.bool (decide (t8 < (s.length:Int))))]<|zE<|zF<|yP hM ?_ ?_
 · intro hc hM;refine yD<|zE<|zF<|yB<|zF<|zB<|zY [] [(5,vI t8)]<|zE<|zF<|zB<|yK 3 [] [(11,fv),(12,vS p s c),(13,vI t8)] ?_;obtain ⟨x,hy,hM⟩:=zC hM;refine wJ rfl rfl h hy ?_;intro ad ccs hat hrep;obtain rfl:=hrep;refine xX 0 hat [vI x] (vI x) rfl ?_;obtain ⟨y,hy1,hM⟩:=zC hM;refine zFo rfl rfl h1 hy1 rfl (List.append_nil _).symm ?_;rintro imm0 v0 le rfl;refine uI (hs':=hsF) (List.append_nil _) ?_;have h:=h.mono le;have h1:=h1.mono le;have hle:=hle.trans le;refine yN rfl<|zE<|yP hM ?_ ?_
   · intro hc1 hM;exact zF<|zB<|zY [] [(4,vI t8)]<|zE<|yJ<|yE<|zQ<|zQ<|hr _ _ _ _ (zD hM).symm hle ⟨_,_,(.tmp rfl ResV.nil),(fun _ h=>h),⟨_,rfl,rfl,rfl⟩⟩
   intro hc1 hM;exact yD<|zW<|zE<|zB<|zY [] [(8,vI (W (t8 + 1)))]<|xG<|uA [(0,vS p s c),(1,fv),(7,vI (s.length:Int)),(8,vI (W (t8 + 1)))]<|ih (W (t8 + 1)) _ hM hle h h1 hg ho hx hr
 intro hc hM;exact xB<|zT<|zT<|yU []<|hx _  (zD hM).symm hle
def sM (s:(List Int)) (f0:(Int→Option Bool)):Option (Int):=do
 match←xQ s f0 0 with
 | .ret r0=>pure r0
 | .done _ =>
  pure (-1)
theorem kQ:∀ (s:(List Int)) (f0:(Int→Option Bool)) r,sM s f0=some r→∀ {imm:Imm}{p c}{fv:Value}{hsF:List HA},(S4 imm p s c)→(FV1 Tryz.prog imm hsF fv f0)→Ret Tryz.prog 137 [vS p s c,fv] imm hsF (oF hsF r):=by
 intro s f0 r hM imm p c fv hsF h h1;unfold sM at hM;refine yF (fn:=Tryz.f137) (c:=(bodyOf Tryz.f137)) Tryz.func137 rfl rfl ?_;rintro B - -;have hle:=iS imm;refine zF<|zB<|zY [] []<|zE<|zF<|zF<|zB<|zY [] [(7,vI (s.length:Int)),(8,vI 0)]<|zE<|yB<|uA [(0,vS p s c),(1,fv),(7,vI (s.length:Int)),(8,vI 0)] ?_;obtain ⟨o0,ho0,hMl⟩:=zC hM;refine mR s f0 0 o0 ho0 iR h h1 (fun _ _ _ h=>h) (fun _ _ h=>h) ?_ ?_
 · intro imm01  heq le1;subst o0;have hle:=hle.trans le1;refine yC<|zE<|zF<|zB<|zY [] [(4,vI (-1))]<|zE<|yJ ?_;obtain rfl:=zD hMl;exact yQ ⟨_,_,(.tmp rfl ResV.nil),(fun _ h=>h),⟨_,rfl,rfl,rfl⟩⟩
 intro r0 imm9 hs9 m9 heq9 le9 hrs9;subst heq9;refine yE<|zQ ?_;obtain rfl:=zD hMl;exact yQ hrs9
def mE (hsF:List HA) (r:Bool):KT:=fun kk imm' hs' v=>
  ∃ v0,hsF=hs'∧v=tupV [v0]∧v0=.bool r
def xD (s:(List Int)) (f0:(Int→Option Bool)):Option (Bool):=do
 let y←sM s f0
 pure (decide (y ≥ 0))
theorem tA:∀ (s:(List Int)) (f0:(Int→Option Bool)) r,xD s f0=some r→∀ {imm:Imm}{p c}{fv:Value}{hsF:List HA},(S4 imm p s c)→(FV1 Tryz.prog imm hsF fv f0)→Ret Tryz.prog 75 [vS p s c,fv] imm hsF (mE hsF r):=by
 intro s f0 r hM imm p c fv hsF h h1;unfold xD at hM;refine yF (fn:=Tryz.f75) (c:=(bodyOf Tryz.f75)) Tryz.func75 rfl rfl ?_;rintro B - -;have hle:=iS imm;refine zF<|zB<|zY [] []<|zE<|zF<|zB<|yK 2 [] [(5,vS p s c),(6,fv)] ?_;obtain ⟨y,hy,hM⟩:=zC hM;refine zBb (hs1:=hsF) (rest:=[]) rfl rfl rfl rfl (by kernel_rfl) rfl (List.append_nil _).symm (kQ s f0 _ hy h h1) ?_;rintro imm0 hs2 v2 k2 le - ⟨v0,rfl,rfl,rfl⟩ -;refine uI (hs':=hsF) (List.append_nil _) ?_;have hle:=hle.trans le;refine zY [] [(4,.bool (decide (y ≥ 0)))]<|zE<|yJ ?_;obtain rfl:=zD hM;exact yQ ⟨_,_,(.tmp rfl ResV.nil),(fun _ h=>h),⟨_,rfl,rfl,rfl⟩⟩
def zBX (r:Bool):KT:=fun kk imm' hs' v=>
  ∃ v0,hs'=[]∧v=tupV [v0]∧v0=.bool r
def mF (n0:Int):Option (Bool):=do
 let y←xT n0 (-99) 99
 pure (id y)
theorem zC7:∀ (n0:Int) r,mF n0=some r→∀ {imm:Imm} ,Ret Tryz.prog 134 [vI n0] imm [] (zBX  r):=by
 intro n0 r hM imm;unfold mF at hM;refine yF (fn:=Tryz.f134) (c:=(bodyOf Tryz.f134)) Tryz.func134 rfl rfl ?_;rintro B - -;have hle:=iS imm;refine zF<|zB<|zY [] []<|zE<|zF<|zB<|yK 1 [] [(3,vI n0)] ?_;obtain ⟨y,hy,hM⟩:=zC hM;refine yR (wH n0 (-99) 99 _ hy ) ?_;rintro imm0 hs2 v2 k2 le - ⟨v0,rfl,rfl,rfl⟩ -;have hle:=hle.trans le;refine zY [] [(2,.bool y)]<|zE<|yJ ?_;obtain rfl:=zD hM;exact yQ ⟨_,_,(.tmp rfl ResV.nil),zV,⟨_,rfl,rfl,rfl⟩⟩
def gS (r:Bool):KT:=fun kk imm' hs' v=>
  ∃ v0,hs'=[]∧v=tupV [v0]∧v0=.bool r
def uQ (c:Int):Option (Bool):=do
 let y←xT c (-9) 9
 pure (!y)
theorem fU:∀ (c:Int) r,uQ c=some r→∀ {imm:Imm} ,Ret Tryz.prog 135 [vI c] imm [] (gS  r):=by
 intro c r hM imm;unfold uQ at hM;refine yF (fn:=Tryz.f135) (c:=(bodyOf Tryz.f135)) Tryz.func135 rfl rfl ?_;rintro B - -;have hle:=iS imm;refine zF<|zB<|zY [] []<|zE<|zF<|zB<|yK 1 [] [(3,vI c)] ?_;obtain ⟨y,hy,hM⟩:=zC hM;refine yR (wH c (-9) 9 _ hy ) ?_;rintro imm0 hs2 v2 k2 le - ⟨v0,rfl,rfl,rfl⟩ -;have hle:=hle.trans le;refine zY [] [(2,.bool (!y))]<|zE<|yJ ?_;obtain rfl:=zD hM;exact yQ ⟨_,_,(.tmp rfl ResV.nil),zV,⟨_,rfl,rfl,rfl⟩⟩
def fV (r:Bool):KT:=fun kk imm' hs' v=>
  ∃ v0,hs'=[]∧v=tupV [v0]∧v0=.bool r
def tS (a0:zA):Option (Bool):=do
 let t2←(do
   if ((a0.Coefs.length:Int) == 4) then
    let y←mF a0.Const
    if y then
     let y1←xD a0.Coefs uQ
     pure (!y1)
    else
     pure false
   else
    pure false
     : Option Bool)
 pure (id t2)
theorem qA:∀ (a0:zA) r,tS a0=some r→∀ {imm:Imm}{p c},(S4 imm p a0.Coefs c)→Ret Tryz.prog 70 [vA (cAff a0 p c)] imm [] (fV  r):=by
 intro a0 r hM imm p c h;unfold tS at hM;refine yF (fn:=Tryz.f70) (c:=(bodyOf Tryz.f70)) Tryz.func70 rfl rfl ?_;rintro B - -;have hle:=iS imm;refine zF<|zB<|sD (cAff a0 p c) ?_;intro b hb;refine zY [] []<|zE<|zF ?_;obtain ⟨o0,ho0,hMc⟩:=zC hM;refine yT (fun imm' hs' m'=>∃ (t2:Bool),o0=t2∧imm.le imm'∧hs'=[]∧m'=[(2,.bool t2)]) ?_ ?_
 · have hle0:=hle;have hle:=iS imm;refine zB<|yK 5 [0] [(7,.bool ((a0.Coefs.length:Int) == 4))] ?_;cases hc:((a0.Coefs.length:Int) == 4) with
   | true =>
    have hM0:=zU hc ho0
    try rw [hc]
    refine yK 7 [0] [(9,vI a0.Const)] ?_;obtain ⟨y,hy,hM⟩:=zC hM0;refine yR (zC7 a0.Const _ hy ) ?_;rintro imm01 hs2 v2 k2 le - ⟨v0,rfl,rfl,rfl⟩ -;have h:=h.mono le;have hle:=hle.trans le;refine yK 10 [] [(12,.bool y)] ?_;cases hc1:y with
    | true =>
     have hM01:=zU hc1 hM
     try rw [hc1]
     refine yK 12 [0] [(14,vS p a0.Coefs c)] ?_;have hf0:FV1 Tryz.prog imm01 [] (.func (.func 135) ⟨[]⟩ ⟨[]⟩) uQ:=by
       refine FV1.intro ?_;intro imm1 le1 x0 r u0 hF k0;obtain rfl:=k0;exact (fU x0 r hF ).mono (by rintro k i hs u ⟨v0,rfl,rfl,h⟩; exact ⟨rfl,h⟩)
     obtain ⟨y1,hy1,hM⟩:=zC hM01;refine yR (tA a0.Coefs uQ _ hy1 h hf0) ?_;rintro imm02 hs2 v2 k2 le1 - ⟨v01,rfl,rfl,rfl⟩ -;have h:=h.mono le1;have hle:=hle.trans le1;exact zY [] [(2,.bool (!y1))]<|wE (zL [] rfl (by decide))<|yU [(2,.bool (!y1))]<|yA ⟨_,(zD hM).symm,hle,rfl,rfl⟩
    | false =>
     have hM02:=zS hc1 hM
     try rw [hc1]
     exact zY [] [(2,.bool false)]<|wE (zL [] rfl (by decide))<|yU [(2,.bool false)]<|yA ⟨_,(zD hM02).symm,hle,rfl,rfl⟩
   | false =>
    have hM03:=zS hc ho0
    try rw [hc]
    exact zY [] [(2,.bool false)]<|wE (zL [] rfl (by decide))<|yU [(2,.bool false)]<|yA ⟨_,(zD hM03).symm,hle,rfl,rfl⟩
 rintro imm0 hs2 m2 ⟨t2,heq,le2,rfl,rfl⟩;subst o0;have hle:=hle.trans le2;refine zE<|yJ ?_;obtain rfl:=zD hMc;exact yQ ⟨_,_,(.tmp rfl ResV.nil),zV,⟨_,rfl,rfl,rfl⟩⟩
def fI (r:Int):KT:=fun kk imm' hs' v=>
  ∃ v0,hs'=[]∧v=tupV [v0]∧v0=.int .i64 r
def vW (a0:zA) (n0:Int):Option (Int):=do
 let t17←(do
   if (decide (n0 > 0)) then
    let x←idx a0.Coefs (W (n0 - 1))
    pure (x == 0)
   else
    pure false
     : Option Bool)
 if t17 then
  vW a0 (W (n0 - 1))
 else
  pure (id n0)
 partial_fixpoint
theorem gT (a0:zA):∀ (n0:Int) (o:Int),vW a0 n0=some o→∀ {B}{imm0 imm:Imm}{Q p c}{b:Nat},imm0.le imm→(S4 imm p a0.Coefs c)→(∀ l a w,¬Q (.goto l) a w)→(∀ a w,¬Q .outgrown a w)→(∀ (imm':Imm) (n01:Int),o=n01→imm0.le imm'→T 21 B Q (.exit 0) imm' [] [(3,vI n01)])→J Tryz.prog 21 B (nav (bodyOf Tryz.f120) [1,1,0,0]) Q imm [hB b (cAff a0 p c)] [(1,vP b 0),(3,vI n0)]:=by
 refine vW.partial_correctness a0 _ ?_;intro self ih n0 o hM B imm0 imm Q p c b hle h hg ho hx;refine xF hg ho<|zF<|zF ?_;obtain ⟨o0,ho0,hMc⟩:=zC hM;refine yT (fun imm' hs' m'=>∃ (t17:Bool),o0=t17∧imm.le imm'∧hs'=[hB b (cAff a0 p c)]∧m'=[(1,vP b 0),(3,vI n0),(17,.bool t17)]) ?_ ?_
 · have hle0:=hle;have hle:=iS imm;refine zB<|yK 3 [] [(9,.bool (decide (n0 > 0)))] ?_;cases hc:(decide (n0 > 0)) with
   | true =>
    have hM0:=zU hc ho0
    try rw [hc]
    refine yK 7 [0] [(11,vS p a0.Coefs c),(13,vI (W (n0 - 1)))] ?_;obtain ⟨x,hy,hM⟩:=zC hM0;refine wJ rfl rfl h hy ?_;intro ad ccs hat hrep;obtain rfl:=hrep;exact xX 0 hat [vI x] (vI x) rfl<|zY [] [(17,.bool (x == 0))]<|yU [(1,vP b 0),(3,vI n0),(17,.bool (x == 0))]<|yA ⟨_,(zD hM).symm,hle,rfl,rfl⟩
   | false =>
    have hM01:=zS hc ho0
    try rw [hc]
    exact zY [] [(17,.bool false)]<|yU [(1,vP b 0),(3,vI n0),(17,.bool false)]<|yA ⟨_,(zD hM01).symm,hle,rfl,rfl⟩
 rintro imm0 hs2 m2 ⟨t17,heq,le,rfl,rfl⟩;subst o0;have h:=h.mono le;have hle:=hle.trans le;refine zE<|yP hMc ?_ ?_
 · intro hc1 hM;exact yD<|zE<|yB<|zB<|zY [] [(3,vI (W (n0 - 1)))]<|zW<|xG<|uA [(1,vP b 0),(3,vI (W (n0 - 1)))]<|ih (W (n0 - 1)) _ hM hle h hg ho hx
 intro hc1 hM;exact xB<|zT<|zT<|wE (zL [] rfl (by decide))<|yU [(3,vI n0)]<|hx _ _ (zD hM).symm hle
def tG (a0:zA):Option (Int):=do
 let n01←vW a0 (a0.Coefs.length:Int)
 pure (id n01)
theorem nD:∀ (a0:zA) r,tG a0=some r→∀ {imm:Imm}{p c},(S4 imm p a0.Coefs c)→Ret Tryz.prog 120 [vA (cAff a0 p c)] imm [] (fI  r):=by
 intro a0 r hM imm p c h;unfold tG at hM;refine yF (fn:=Tryz.f120) (c:=(bodyOf Tryz.f120)) Tryz.func120 rfl rfl ?_;rintro B - -;have hle:=iS imm;refine zF<|zB<|sD (cAff a0 p c) ?_;intro b hb;refine zY [] []<|zE<|zF<|zB<|zY [0] [(3,vI (a0.Coefs.length:Int))]<|zE<|zF<|yB<|uA [(1,vP b 0),(3,vI (a0.Coefs.length:Int))] ?_;obtain ⟨o01,ho01,hMl⟩:=zC hM;refine gT a0 (a0.Coefs.length:Int) o01 ho01 iR h (fun _ _ _ h=>h) (fun _ _ h=>h) ?_;intro imm01 n01 heq1 le1;subst o01;have hle:=hle.trans le1;refine yC<|zE<|zF<|zB<|zY [] [(2,vI n01)]<|zE<|yJ ?_;obtain rfl:=zD hMl;exact yQ ⟨_,_,(.tmp rfl ResV.nil),zV,⟨_,rfl,rfl,rfl⟩⟩
def dB (r:Bool):KT:=fun kk imm' hs' v=>
  ∃ v0,hs'=[]∧v=tupV [v0]∧v0=.bool r
def tK (a0:zA) (x:Int):Option (Bool):=do
 let t3←(do
   let y←tS a0
   if (!y) then
    pure true
   else
    let y1←tG a0
    pure (decide (y1 > x))
     : Option Bool)
 pure (id t3)
theorem zAb:∀ (a0:zA) (x:Int) r,tK a0 x=some r→∀ {imm:Imm}{p c}{ad:Addr},(S4 imm p a0.Coefs c)→(At imm ad [vI x])→Ret Tryz.prog 164 [vA (cAff a0 p c),.pointer (some ad)] imm [] (dB  r):=by
 intro a0 x r hM imm p c ad h hat;unfold tK at hM;refine yF (fn:=Tryz.f164) (c:=(bodyOf Tryz.f164)) Tryz.func164 rfl rfl ?_;rintro B - -;have hle:=iS imm;refine zF<|zB<|sD (cAff a0 p c) ?_;intro b hb;refine zY [] []<|zE<|zF ?_;obtain ⟨o0,ho0,hMc⟩:=zC hM;refine yT (fun imm' hs' m'=>∃ (t3:Bool),o0=t3∧imm.le imm'∧hs'=[]∧m'=[(3,.bool t3)]) ?_ ?_
 · have hle0:=hle;have hle:=iS imm;obtain ⟨y,hy,hM⟩:=zC ho0;cases hc:(!y) with
   | true =>
    have hM0:=zU hc hM;refine vZ [.p (vA (cAff a0 p c)) [0],.q (.bool y),.q (.bool true),.q (.bool true),.p undef [],.p undef [],.p undef [],.p undef [],.p (.bool true) []] [[],[(0,false)],[(1,false)],[(2,false)],[(3,false)],[(3,false),(4,false)],[(3,false)],[(3,false),(5,false),(6,false)],[(3,false),(7,false)]] [hB b (cAff a0 p c)] [] [(8,false)] (zL [0] rfl (by decide)) ?_ ?_
    · refine Op<|Oq ?_<|Oq ?_<|Oq ?_<|Op<|Op<|Op<|Op<|Op<|On
      · intro imm1 hf le1;refine zG ?_;rintro _ _ ⟨rfl,rfl⟩;refine zN<|yG [(4,vA (cAff a0 p c))] ?_;have hle:=iS imm1;have h:=h.mono le1;refine yR (qA a0 _ hy h) ?_;rintro imm01 hs2 v2 k2 le - ⟨v0,rfl,rfl,rfl⟩ -;have h:=h.mono le;have hle:=hle.trans le;exact zX (hx:=[]) rfl hle rfl (zM rfl) ⟨rfl,rfl⟩
      · intro imm1 hf le1;refine zG ?_;rintro _ _ ⟨rfl,rfl⟩;refine zN<|yG [(5,.bool y)] ?_;have hle:=iS imm1;refine qQ 3 [(6,.bool (!y))] ?_;rw [hc];exact zX (hx:=[]) rfl hle rfl (zM rfl) ⟨rfl,rfl⟩
      intro imm1 hf le1;refine zG ?_;rintro _ _ ⟨rfl,rfl⟩;refine zN<|yG [(6,.bool true)] ?_;have hle:=iS imm1;exact qQ 4 [(7,.bool true)]<|zX (hx:=[]) rfl hle rfl (zM rfl) ⟨rfl,rfl⟩
    intro imm02 le1;refine zG ?_;rintro _ _ ⟨rfl,rfl⟩;refine zN<|yG [(12,.bool true)] ?_;have h:=h.mono le1;have hle:=hle.trans le1;exact zY [] [(3,.bool true)]<|wE (zL [] rfl (by decide))<|yU [(3,.bool true)]<|yA ⟨_,(zD hM0).symm,hle,rfl,rfl⟩
   | false =>
    have hM01:=zS hc hM;obtain ⟨y1,hy1,hM⟩:=zC hM01;refine vZ [.p (vA (cAff a0 p c)) [0],.q (.bool y),.q (.bool false),.q (.bool false),.p (vA (cAff a0 p c)) [0],.q (vI y1),.q (vI x),.p (.bool (decide (y1 > x))) [],.p (.bool (decide (y1 > x))) []] [[],[(0,false)],[(1,false)],[(2,false)],[(3,false)],[(3,false),(4,false)],[(3,false)],[(3,false),(5,false),(6,false)],[(3,false),(7,false)]] [hB b (cAff a0 p c)] [] [(8,false)] (zL [0] rfl (by decide)) ?_ ?_
    · refine Op<|Oq ?_<|Oq ?_<|Oq ?_<|Op<|Oq ?_<|Oq ?_<|Op<|Op<|On
      · intro imm1 hf le1;refine zG ?_;rintro _ _ ⟨rfl,rfl⟩;refine zN<|yG [(4,vA (cAff a0 p c))] ?_;have hle:=iS imm1;have h:=h.mono le1;refine yR (qA a0 _ hy h) ?_;rintro imm01 hs2 v2 k2 le - ⟨v0,rfl,rfl,rfl⟩ -;have h:=h.mono le;have hle:=hle.trans le;exact zX (hx:=[]) rfl hle rfl (zM rfl) ⟨rfl,rfl⟩
      · intro imm1 hf le1;refine zG ?_;rintro _ _ ⟨rfl,rfl⟩;refine zN<|yG [(5,.bool y)] ?_;have hle:=iS imm1;refine qQ 3 [(6,.bool (!y))] ?_;rw [hc];exact zX (hx:=[]) rfl hle rfl (zM rfl) ⟨rfl,rfl⟩
      · intro imm1 hf le1;refine zG ?_;rintro _ _ ⟨rfl,rfl⟩;refine zN<|yG [(6,.bool false)] ?_;have hle:=iS imm1;exact qQ 4 [(7,.bool false)]<|zX (hx:=[]) rfl hle rfl (zM rfl) ⟨rfl,rfl⟩
      · intro imm1 hf le1;refine zG ?_;rintro _ _ ⟨rfl,rfl⟩;refine zG ?_;rintro _ _ ⟨rfl,rfl⟩;refine zN<|yG [(7,.bool false),(8,vA (cAff a0 p c))] ?_;have hle:=iS imm1;have h:=h.mono le1;refine yR (nD a0 _ hy1 h) ?_;rintro imm03 hs2 v2 k2 le2 - ⟨v01,rfl,rfl,rfl⟩ -;have h:=h.mono le2;have hle:=hle.trans le2;exact zX (hx:=[]) rfl hle rfl (zM rfl) ⟨rfl,rfl⟩
      intro imm1 hf le1;refine zG ?_;rintro _ _ ⟨rfl,rfl⟩;refine zN<|yG [(1,.pointer (some ad)),(7,.bool false)] ?_;have hle:=iS imm1;have hat:=hat.mono le1;exact xX 0 hat [vI x] (vI x) rfl<|zX (hx:=[]) rfl hle rfl (zM rfl) ⟨rfl,rfl⟩
    intro imm04 le3;refine zG ?_;rintro _ _ ⟨rfl,rfl⟩;refine zN<|yG [(12,.bool (decide (y1 > x)))] ?_;have h:=h.mono le3;have hle:=hle.trans le3;exact zY [] [(3,.bool (decide (y1 > x)))]<|wE (zL [] rfl (by decide))<|yU [(3,.bool (decide (y1 > x)))]<|yA ⟨_,(zD hM).symm,hle,rfl,rfl⟩
 rintro imm0 hs2 m2 ⟨t3,heq,le4,rfl,rfl⟩;subst o0;have hle:=hle.trans le4;refine zE<|yJ ?_;obtain rfl:=zD hMc;exact yQ ⟨_,_,(.tmp rfl ResV.nil),zV,⟨_,rfl,rfl,rfl⟩⟩
def zAc (r:Bool):KT:=fun kk imm' hs' v=>
  ∃ v0,hs'=[]∧v=tupV [v0]∧v0=.bool r
def qX (list:(List zA)) (depth:Int):Option (Bool):=do
 let t4←(do
   let y←xT (list.length:Int) 1 2
   if y then
    let y1←xA list (fun x0=>tK x0 depth)
    pure (!y1)
   else
    pure false
     : Option Bool)
 pure (id t4)
theorem gU:∀ (list:(List zA)) (depth:Int) r,qX list depth=some r→∀ {imm:Imm}{p c},(S4 imm p list c)→Ret Tryz.prog 114 [vS p list c,vI depth] imm [] (zAc  r):=by
 intro list depth r hM imm p c h;unfold qX at hM;refine yF (fn:=Tryz.f114) (c:=(bodyOf Tryz.f114)) Tryz.func114 rfl rfl ?_;rintro B - -;have hle:=iS imm;refine zF<|zB<|sD [vI depth] ?_;intro b hb;refine yL 0 rfl ?_;intro imm0 le hl0;have hat:At imm0 ⟨b,0,none⟩ [vI depth]:=At.of_blk hl0;have h:=h.mono le;have hle:=hle.trans le;refine zY [] []<|zE<|zF ?_;obtain ⟨o0,ho0,hMc⟩:=zC hM;refine yT (fun imm' hs' m'=>∃ (t4:Bool),o0=t4∧imm0.le imm'∧hs'=[]∧m'=[(4,.bool t4)]) ?_ ?_
 · have hle0:=hle;have hle:=iS imm0;refine zB<|yK 2 [] [(6,vI (list.length:Int))] ?_;obtain ⟨y,hy,hM⟩:=zC ho0;refine yR (wH (list.length:Int) 1 2 _ hy ) ?_;rintro imm02 hs2 v2 k2 le1 - ⟨v0,rfl,rfl,rfl⟩ -;have h:=h.mono le1;have hat:=hat.mono le1;have hle:=hle.trans le1;refine yK 4 [] [(8,.bool y)] ?_;cases hc:y with
   | true =>
    have hM0:=zU hc hM
    try rw [hc]
    refine yK 6 [] [(9,vS p list c),(10,.func (.func 164) ⟨[]⟩ ⟨[vP b 0]⟩)] ?_;have hf0:FV1 Tryz.prog imm02 [] (.func (.func 164) ⟨[]⟩ ⟨[vP b 0]⟩) (fun x0=>tK x0 depth):=by
      refine FV1.intro ?_;intro imm1 le1 x0 r u0 hF k0;obtain ⟨_,rfl,k0⟩:=k0;obtain ⟨v01,rfl,h2⟩:=yM k0;obtain ⟨p1,c1,rfl⟩:=h2.form;exact (zAb x0 depth r hF h2 (hat.mono le1)).mono (by rintro k i hs u ⟨v0,rfl,rfl,h⟩; exact ⟨rfl,h⟩)
    obtain ⟨y1,hy1,hM⟩:=zC hM0;refine yR (tN list (fun x0=>tK x0 depth) _ hy1 h hf0) ?_;rintro imm03 hs2 v2 k2 le2 - ⟨v02,rfl,rfl,rfl⟩ -;have hle:=hle.trans le2;exact zY [] [(4,.bool (!y1))]<|yU [(4,.bool (!y1))]<|yA ⟨_,(zD hM).symm,hle,rfl,rfl⟩
   | false =>
    have hM01:=zS hc hM
    try rw [hc]
    exact zY [] [(4,.bool false)]<|yU [(4,.bool false)]<|yA ⟨_,(zD hM01).symm,hle,rfl,rfl⟩
 rintro imm01 hs2 m2 ⟨t4,heq,le3,rfl,rfl⟩;subst o0;have hle:=hle.trans le3;refine zE<|yJ ?_;obtain rfl:=zD hMc;exact yQ ⟨_,_,(.tmp rfl ResV.nil),zV,⟨_,rfl,rfl,rfl⟩⟩
def kO (r:Bool):KT:=fun kk imm' hs' v=>
  ∃ v0,hs'=[]∧v=tupV [v0]∧v0=.bool r
def tH (nest:(List zI)) (t7:Int):Option (Out Unit (Bool)):=do
 if (decide (t7 < (nest.length:Int))) then
  let x←idx nest t7
  let t23←(do
    let y←qX x.Lo t7
    if (!y) then
     pure true
    else
     let y1←qX x.Hi t7
     pure (!y1)
      : Option Bool)
  if t23 then
   pure (.ret false)
  else
   tH nest (W (t7 + 1))
 else
  pure (.done ())
 partial_fixpoint
theorem dC (nest:(List zI)):∀ (t7:Int) (o:Out Unit (Bool)),tH nest t7=some o→∀ {B}{imm0 imm:Imm}{Q p c},imm0.le imm→(S4 imm p nest c)→(∀ l a w,¬Q (.goto l) a w)→(∀ a w,¬Q .outgrown a w)→(∀ (imm':Imm) ,o=(.done ())→imm0.le imm'→T 28 B Q (.exit 0) imm' [] [(0,vS p nest c)])→(∀ r imm' hs' m',o=(.ret r)→imm0.le imm'→RS Tryz.prog Tryz.f53 B (kO  r) imm' hs' m'→T 28 B Q .ret imm' hs' m')→J Tryz.prog 28 B (nav (bodyOf Tryz.f53) [1,0,1,0]) Q imm [] [(0,vS p nest c),(5,vS p nest c),(6,vI (nest.length:Int)),(7,vI t7)]:=by
 refine tH.partial_correctness nest _ ?_;intro self ih t7 o hM B imm0 imm Q p c hle h hg ho hx hr;refine xF hg ho<|zF<|zB<|zY [] [(8,.bool (decide (t7 < (nest.length:Int))))]<|zE<|zF<|yP hM ?_ ?_
 · intro hc hM;refine yD<|zE<|zF<|yB<|zF<|zB<|yK 1 [] [(9,vI t7)] ?_;obtain ⟨x,hy,hM⟩:=zC hM;refine wJ rfl rfl h hy ?_;intro ad ccs hat hrep;obtain ⟨v0,v01,rfl,h1,h2⟩:=uB hrep;obtain ⟨p1,c1,rfl⟩:=h1.form;obtain ⟨p2,c2,rfl⟩:=h2.form;refine xX 0 hat (cLoop x p1 c1 p2 c2) (vA (cLoop x p1 c1 p2 c2)) rfl<|uJ zTwo ?_;intro b hb;refine yK 5 [] [(3,vI t7)]<|xI 0 (cLoop x p1 c1 p2 c2) [hB b (cLoop x p1 c1 p2 c2)] rfl rfl rfl rfl<|yN rfl<|zE<|zF ?_;obtain ⟨o0,ho0,hMc⟩:=zC hM;refine yT (fun imm' hs' m'=>∃ (t23:Bool),o0=t23∧imm.le imm'∧hs'=[]∧m'=[(0,vS p nest c),(5,vS p nest c),(6,vI (nest.length:Int)),(7,vI t7),(23,.bool t23)]) ?_ ?_
   · have hle0:=hle;have hle:=iS imm;refine zB<|yK 3 [0] [(13,vS p1 x.Lo c1),(14,vI t7)] ?_;obtain ⟨y,hy1,hM⟩:=zC ho0;refine yR (gU x.Lo t7 _ hy1 h1) ?_;rintro imm01 hs2 v2 k2 le - ⟨v02,rfl,rfl,rfl⟩ -;have h:=h.mono le;have h1:=h1.mono le;have h2:=h2.mono le;have hle:=hle.trans le;refine yK 6 [] [(17,.bool (!y))] ?_;cases hc1:(!y) with
     | true =>
      have hM0:=zU hc1 hM
      try rw [hc1]
      exact zY [] [(23,.bool true)]<|wE (zL [] rfl (by decide))<|yU [(0,vS p nest c),(5,vS p nest c),(6,vI (nest.length:Int)),(7,vI t7),(23,.bool true)]<|yA ⟨_,(zD hM0).symm,hle,rfl,rfl⟩
     | false =>
      have hM01:=zS hc1 hM
      try rw [hc1]
      refine yK 9 [0] [(19,vS p2 x.Hi c2),(20,vI t7)] ?_;obtain ⟨y1,hy2,hM⟩:=zC hM01;refine yR (gU x.Hi t7 _ hy2 h2) ?_;rintro imm02 hs2 v2 k2 le1 - ⟨v03,rfl,rfl,rfl⟩ -;have h:=h.mono le1;have h1:=h1.mono le1;have h2:=h2.mono le1;have hle:=hle.trans le1;exact zY [] [(23,.bool (!y1))]<|wE (zL [] rfl (by decide))<|yU [(0,vS p nest c),(5,vS p nest c),(6,vI (nest.length:Int)),(7,vI t7),(23,.bool (!y1))]<|yA ⟨_,(zD hM).symm,hle,rfl,rfl⟩
   rintro imm0 hs2 m2 ⟨t23,heq,le2,rfl,rfl⟩;subst o0;have h:=h.mono le2;have hle:=hle.trans le2;refine zE<|yP hMc ?_ ?_
   · intro hc2 hM;exact zF<|zB<|zY [] [(2,.bool false)]<|zE<|yJ<|yE<|zQ<|zQ<|hr _ _ _ _ (zD hM).symm hle ⟨_,_,(.tmp rfl ResV.nil),zV,⟨_,rfl,rfl,rfl⟩⟩
   intro hc2 hM;exact yD<|zW<|zE<|zB<|zY [] [(7,vI (W (t7 + 1)))]<|xG<|uA [(0,vS p nest c),(5,vS p nest c),(6,vI (nest.length:Int)),(7,vI (W (t7 + 1)))]<|ih (W (t7 + 1)) _ hM hle h hg ho hx hr
 intro hc hM;exact xB<|zT<|zT<|yU [(0,vS p nest c)]<|hx _  (zD hM).symm hle
def pX (nest:(List zI)):Option (Bool):=do
 match←tH nest 0 with
 | .ret r0=>pure r0
 | .done _ =>
  pure (decide ((nest.length:Int) ≤ 4))
theorem zBY:∀ (nest:(List zI)) r,pX nest=some r→∀ {imm:Imm}{p c},(S4 imm p nest c)→Ret Tryz.prog 53 [vS p nest c] imm [] (kO  r):=by
 intro nest r hM imm p c h;unfold pX at hM;refine yF (fn:=Tryz.f53) (c:=(bodyOf Tryz.f53)) Tryz.func53 rfl rfl ?_;rintro B - -;have hle:=iS imm;refine zF<|zB<|zY [] []<|zE<|zF<|zF<|zB<|zY [] [(5,vS p nest c),(6,vI (nest.length:Int)),(7,vI 0)]<|zE<|yB<|uA [(0,vS p nest c),(5,vS p nest c),(6,vI (nest.length:Int)),(7,vI 0)] ?_;obtain ⟨o01,ho01,hMl⟩:=zC hM;refine dC nest 0 o01 ho01 iR h (fun _ _ _ h=>h) (fun _ _ h=>h) ?_ ?_
 · intro imm03  heq1 le3;subst o01;have h:=h.mono le3;have hle:=hle.trans le3;refine yC<|zE<|zF<|zB<|zY [] [(2,.bool (decide ((nest.length:Int) ≤ 4)))]<|zE<|yJ ?_;obtain rfl:=zD hMl;exact yQ ⟨_,_,(.tmp rfl ResV.nil),zV,⟨_,rfl,rfl,rfl⟩⟩
 intro r0 imm9 hs9 m9 heq9 le9 hrs9;subst heq9;refine yE<|zQ ?_;obtain rfl:=zD hMl;exact yQ hrs9
def fW (r:Int):KT:=fun kk imm' hs' v=>
  ∃ v0,hs'=[]∧v=tupV [v0]∧v0=.int .i64 r
def uL (a0:zA) (point:(List Int)) (sum:Int) (t12:Int):Option (Int):=do
 if (decide (t12 < (point.length:Int))) then
  let x←idx point t12
  let x1←idx a0.Coefs t12
  uL a0 point (W (sum + (W (x1 * x)))) (W (t12 + 1))
 else
  pure (id sum)
 partial_fixpoint
theorem fJ (a0:zA) (point:(List Int)):∀ (sum:Int) (t12:Int) (o:Int),uL a0 point sum t12=some o→∀ {B}{imm0 imm:Imm}{Q p c p1 c1}{b:Nat},imm0.le imm→(S4 imm p1 point c1)→(S4 imm p a0.Coefs c)→(∀ l a w,¬Q (.goto l) a w)→(∀ a w,¬Q .outgrown a w)→(∀ (imm':Imm) (sum1:Int),o=sum1→imm0.le imm'→T 28 B Q (.exit 0) imm' [] [(5,vI sum1)])→J Tryz.prog 28 B (nav (bodyOf Tryz.f122) [1,1,0,1,0]) Q imm [hB b (cAff a0 p c)] [(2,vP b 0),(5,vI sum),(10,vS p1 point c1),(11,vI (point.length:Int)),(12,vI t12)]:=by
 refine uL.partial_correctness a0 point _ ?_;intro self ih sum t12 o hM B imm0 imm Q p c p1 c1 b hle h1 h hg ho hx;refine xF hg ho<|zF<|zB<|zY [] [(13,.bool (decide (t12 < (point.length:Int))))]<|zE<|zF<|yP hM ?_ ?_
 · intro hc hM;refine yD<|zE<|zF<|yB<|zF<|zB<|yK 1 [] [(14,vI t12)] ?_;obtain ⟨x,hy,hM⟩:=zC hM;refine wJ rfl rfl h1 hy ?_;intro ad ccs hat hrep;obtain rfl:=hrep;refine xX 0 hat [vI x] (vI x) rfl<|zY [] [(6,vI t12),(7,vI x)]<|zE<|zB<|yK 4 [0] [(17,vI sum),(19,vS p a0.Coefs c),(20,vI t12)] ?_;obtain ⟨x1,hy1,hM⟩:=zC hM;refine wJ rfl rfl h hy1 ?_;intro ad1 ccs1 hat1 hrep1;obtain rfl:=hrep1;exact xX 0 hat1 [vI x1] (vI x1) rfl<|zY [] [(5,vI (W (sum + (W (x1 * x)))))]<|zW<|zE<|zB<|zY [] [(12,vI (W (t12 + 1)))]<|xG<|uA [(2,vP b 0),(5,vI (W (sum + (W (x1 * x))))),(10,vS p1 point c1),(11,vI (point.length:Int)),(12,vI (W (t12 + 1)))]<|ih (W (sum + (W (x1 * x)))) (W (t12 + 1)) _ hM hle h1 h hg ho hx
 intro hc hM;exact xB<|zT<|zT<|wE (zL [] rfl (by decide))<|yU [(5,vI sum)]<|hx _ _ (zD hM).symm hle
def vX (a0:zA) (point:(List Int)):Option (Int):=do
 let sum1←uL a0 point a0.Const 0
 pure (id sum1)
theorem qB:∀ (a0:zA) (point:(List Int)) r,vX a0 point=some r→∀ {imm:Imm}{p c p1 c1},(S4 imm p a0.Coefs c)→(S4 imm p1 point c1)→Ret Tryz.prog 122 [vA (cAff a0 p c),vS p1 point c1] imm [] (fW  r):=by
 intro a0 point r hM imm p c p1 c1 h h1;unfold vX at hM;refine yF (fn:=Tryz.f122) (c:=(bodyOf Tryz.f122)) Tryz.func122 rfl rfl ?_;rintro B - -;have hle:=iS imm;refine zF<|zB<|sD (cAff a0 p c) ?_;intro b hb;refine zY [] []<|zE<|zF<|zB<|zY [0] [(5,vI a0.Const)]<|zE<|zF<|zF<|zB<|zY [] [(10,vS p1 point c1),(11,vI (point.length:Int)),(12,vI 0)]<|zE<|yB<|uA [(2,vP b 0),(5,vI a0.Const),(10,vS p1 point c1),(11,vI (point.length:Int)),(12,vI 0)] ?_;obtain ⟨o0,ho0,hMl⟩:=zC hM;refine fJ a0 point a0.Const 0 o0 ho0 iR h1 h (fun _ _ _ h=>h) (fun _ _ h=>h) ?_;intro imm0 sum1 heq le;subst o0;have hle:=hle.trans le;refine yC<|zE<|zF<|zB<|zY [] [(4,vI sum1)]<|zE<|yJ ?_;obtain rfl:=zD hMl;exact yQ ⟨_,_,(.tmp rfl ResV.nil),zV,⟨_,rfl,rfl,rfl⟩⟩
def zAE (r:Int×Int):KT:=fun kk imm' hs' v=>
  ∃ v0 v1,hs'=[]∧v=tupV [v0,v1]∧v0=.int .i64 r.1∧v1=.int .i64 r.2
def tI (l:zI) (point:(List Int)) (lo:Int) (t27:Int):Option (Int):=do
 if (decide (t27 < (l.Lo.length:Int))) then
  let x2←idx l.Lo t27
  let y2←vX x2 point
  tI l point (if y2 > lo then y2 else lo) (W (t27 + 1))
 else
  pure (id lo)
 partial_fixpoint
theorem dD (l:zI) (point:(List Int)):∀ (lo:Int) (t27:Int) (o:Int),tI l point lo t27=some o→∀ {B}{imm0 imm:Imm}{Q}{y1:Int}{p c p1 c1 p2 c2}{b:Nat},imm0.le imm→(S4 imm p2 point c2)→(S4 imm p l.Lo c)→(S4 imm p1 l.Hi c1)→(∀ l a w,¬Q (.goto l) a w)→(∀ a w,¬Q .outgrown a w)→(∀ (imm':Imm) (lo1:Int),o=lo1→imm0.le imm'→T 52 B Q (.exit 0) imm' [hB b (cLoop l p c p1 c1)] [(1,vS p2 point c2),(2,vP b 0),(6,vI lo1),(7,vI y1)])→J Tryz.prog 52 B (nav (bodyOf Tryz.f84) [1,1,0,1,0]) Q imm [hB b (cLoop l p c p1 c1)] [(1,vS p2 point c2),(2,vP b 0),(6,vI lo),(7,vI y1),(25,vS p l.Lo c),(26,vI (l.Lo.length:Int)),(27,vI t27)]:=by
 refine tI.partial_correctness l point _ ?_;intro self ih lo t27 o hM B imm0 imm Q y1 p c p1 c1 p2 c2 b hle h2 h h1 hg ho hx;refine xF hg ho<|zF<|zB<|zY [] [(28,.bool (decide (t27 < (l.Lo.length:Int))))]<|zE<|zF<|yP hM ?_ ?_
 · intro hc hM;refine yD<|zE<|zF<|yB<|zF<|zB ?_;obtain ⟨x2,hy4,hM⟩:=zC hM;refine wJ rfl rfl h hy4 ?_;intro ad2 ccs2 hat2 hrep2;obtain ⟨v04,rfl,h7⟩:=yM hrep2;obtain ⟨p5,c5,rfl⟩:=h7.form;refine xX 0 hat2 (cAff x2 p5 c5) (vA (cAff x2 p5 c5)) rfl<|uJ [z0,vI 0] ?_;intro b1 hb1;refine xI 0 (cAff x2 p5 c5) [hB b1 (cAff x2 p5 c5),hB b (cLoop l p c p1 c1)] rfl rfl rfl rfl<|yN rfl<|zE<|zB<|yK 3 [0] [(31,vI lo),(32,vA (cAff x2 p5 c5)),(33,vS p2 point c2)] ?_;obtain ⟨y2,hy5,hM⟩:=zC hM;refine yR (qB x2 point _ hy5 h7 h2) ?_;rintro imm03 hs2 v2 k2 le3 - ⟨v05,rfl,rfl,rfl⟩ -;have h2:=h2.mono le3;have h:=h.mono le3;have h7:=h7.mono le3;have h1:=h1.mono le3;have hle:=hle.trans le3;exact zY [] [(6,vI (if y2 > lo then y2 else lo))]<|zW<|zE<|zB<|zY [] [(27,vI (W (t27 + 1)))]<|xG<|qR (zL [1] rfl (by decide))<|uA [(1,vS p2 point c2),(2,vP b 0),(6,vI (if y2 > lo then y2 else lo)),(7,vI y1),(25,vS p l.Lo c),(26,vI (l.Lo.length:Int)),(27,vI (W (t27 + 1)))]<|ih (if y2 > lo then y2 else lo) (W (t27 + 1)) _ hM hle h2 h h1 hg ho hx
 intro hc hM;exact xB<|zT<|zT<|yU [(1,vS p2 point c2),(2,vP b 0),(6,vI lo),(7,vI y1)]<|hx _ _ (zD hM).symm hle
def tJ (l:zI) (point:(List Int)) (hi:Int) (t40:Int):Option (Int):=do
 if (decide (t40 < (l.Hi.length:Int))) then
  let x3←idx l.Hi t40
  let y3←vX x3 point
  tJ l point (if y3 < hi then y3 else hi) (W (t40 + 1))
 else
  pure (id hi)
 partial_fixpoint
theorem dE (l:zI) (point:(List Int)):∀ (hi:Int) (t40:Int) (o:Int),tJ l point hi t40=some o→∀ {B}{imm0 imm:Imm}{Q}{lo1:Int}{p1 c1 p2 c2},imm0.le imm→(S4 imm p2 point c2)→(S4 imm p1 l.Hi c1)→(∀ l a w,¬Q (.goto l) a w)→(∀ a w,¬Q .outgrown a w)→(∀ (imm':Imm) (hi1:Int),o=hi1→imm0.le imm'→T 52 B Q (.exit 2) imm' [] [(6,vI lo1),(7,vI hi1)])→J Tryz.prog 52 B (nav (bodyOf Tryz.f84) [1,1,1,0,1,0]) Q imm [] [(1,vS p2 point c2),(6,vI lo1),(7,vI hi),(38,vS p1 l.Hi c1),(39,vI (l.Hi.length:Int)),(40,vI t40)]:=by
 refine tJ.partial_correctness l point _ ?_;intro self ih hi t40 o hM B imm0 imm Q lo1 p1 c1 p2 c2 hle h2 h1 hg ho hx;refine xF hg ho<|zF<|zB<|zY [] [(41,.bool (decide (t40 < (l.Hi.length:Int))))]<|zE<|zF<|yP hM ?_ ?_
 · intro hc1 hM;refine yD<|zE<|zF<|yB<|zF<|zB ?_;obtain ⟨x3,hy6,hM⟩:=zC hM;refine wJ rfl rfl h1 hy6 ?_;intro ad3 ccs3 hat3 hrep3;obtain ⟨v06,rfl,h9⟩:=yM hrep3;obtain ⟨p6,c6,rfl⟩:=h9.form;refine xX 0 hat3 (cAff x3 p6 c6) (vA (cAff x3 p6 c6)) rfl<|uJ [z0,vI 0] ?_;intro b2 hb2;refine xI 0 (cAff x3 p6 c6) [hB b2 (cAff x3 p6 c6)] rfl rfl rfl rfl<|yN rfl<|zE<|zB<|yK 3 [0] [(44,vI hi),(45,vA (cAff x3 p6 c6)),(46,vS p2 point c2)] ?_;obtain ⟨y3,hy7,hM⟩:=zC hM;refine yR (qB x3 point _ hy7 h9 h2) ?_;rintro imm05 hs2 v2 k2 le5 - ⟨v07,rfl,rfl,rfl⟩ -;have h2:=h2.mono le5;have h1:=h1.mono le5;have h9:=h9.mono le5;have hle:=hle.trans le5;exact zY [] [(7,vI (if y3 < hi then y3 else hi))]<|zW<|zE<|zB<|zY [] [(40,vI (W (t40 + 1)))]<|xG<|qR (zL [] rfl (by decide))<|uA [(1,vS p2 point c2),(6,vI lo1),(7,vI (if y3 < hi then y3 else hi)),(38,vS p1 l.Hi c1),(39,vI (l.Hi.length:Int)),(40,vI (W (t40 + 1)))]<|ih (if y3 < hi then y3 else hi) (W (t40 + 1)) _ hM hle h2 h1 hg ho hx
 intro hc1 hM;exact xB<|zT<|zT<|yU [(6,vI lo1),(7,vI hi)]<|hx _ _ (zD hM).symm hle
def pY (l:zI) (point:(List Int)):Option (Int×Int):=do
 let x←idx l.Lo 0
 let y←vX x point
 let x1←idx l.Hi 0
 let y1←vX x1 point
 let lo1←tI l point y 0
 let hi1←tJ l point y1 0
 pure (lo1,hi1)
theorem zBZ:∀ (l:zI) (point:(List Int)) r,pY l point=some r→∀ {imm:Imm}{p c p1 c1 p2 c2},(S4 imm p l.Lo c)→(S4 imm p1 l.Hi c1)→(S4 imm p2 point c2)→Ret Tryz.prog 84 [vA (cLoop l p c p1 c1),vS p2 point c2] imm [] (zAE  r):=by
 intro l point r hM imm p c p1 c1 p2 c2 h h1 h2;unfold pY at hM;refine yF (fn:=Tryz.f84) (c:=(bodyOf Tryz.f84)) Tryz.func84 rfl rfl ?_;rintro B - -;have hle:=iS imm;refine zF<|zB<|sD (cLoop l p c p1 c1) ?_;intro b hb;refine zY [] []<|zE<|zF ?_;obtain ⟨x,hy,hM⟩:=zC hM;obtain ⟨y,hy1,hM⟩:=zC hM;obtain ⟨x1,hy2,hM⟩:=zC hM;obtain ⟨y1,hy3,hM⟩:=zC hM;refine vZ [.p (vP b 0) [],.p (vS p l.Lo c) [0],.x (fun imm' v hx=>∃ ad p3 c3,v=.pointer (some ad)∧hx=[]∧(At imm' ad (cAff x p3 c3))∧(S4 imm' p3 x.Coefs c3)),.x (fun imm' v hx=>∃ p31 c31,v=vA (cAff x p31 c31)∧hx=[]∧(S4 imm' p31 x.Coefs c31)),.p (vS p2 point c2) [],.q (vI y),.p (vP b 1) [],.p (vS p1 l.Hi c1) [0],.x (fun imm' v hx=>∃ ad1 p4 c4,v=.pointer (some ad1)∧hx=[]∧(At imm' ad1 (cAff x1 p4 c4))∧(S4 imm' p4 x1.Coefs c4)),.x (fun imm' v hx=>∃ p41 c41,v=vA (cAff x1 p41 c41)∧hx=[]∧(S4 imm' p41 x1.Coefs c41)),.p (vS p2 point c2) [],.q (vI y1),.p (vI y) []] [[],[(0,false)],[(1,false)],[(2,false)],[],[(3,false),(4,false)],[],[(6,false)],[(7,false)],[(8,false)],[],[(9,false),(10,false)],[(5,false)]] [hB b (cLoop l p c p1 c1)] [] [(11,false),(12,false)] (zL [0] rfl (by decide)) ?_ ?_
 · refine Op<|Op<|Ox ?_<|Ox ?_<|Op<|Oq ?_<|Op<|Op<|Ox ?_<|Ox ?_<|Op<|Oq ?_<|Op<|On
   · intro imm1 hf le1;refine zG ?_;rintro _ _ ⟨rfl,rfl⟩;refine zN<|yG [(13,vS p l.Lo c)] ?_;have hle:=iS imm1;have h:=h.mono le1;refine wJ rfl rfl h hy ?_;intro ad ccs hat hrep;obtain ⟨v0,rfl,h3⟩:=yM hrep;obtain ⟨p3,c3,rfl⟩:=h3.form;exact zX (hx:=[]) rfl hle rfl (zM rfl) ⟨_,_,_,rfl,rfl,hat,h3⟩
   · intro imm1 hf le1;refine zG ?_;rintro _ _ ⟨ad,p3,c3,rfl,rfl,hat,h3⟩;refine zN<|yG [(14,.pointer (some ad))] ?_;have hle:=iS imm1;exact xX 0 hat (cAff x p3 c3) (vA (cAff x p3 c3)) rfl<|zX (hx:=[]) rfl hle rfl (zM rfl) ⟨_,_,rfl,rfl,h3⟩
   · intro imm1 hf le1;refine zG ?_;rintro _ _ ⟨p31,c31,rfl,rfl,h31⟩;refine zG ?_;rintro _ _ ⟨rfl,rfl⟩;refine zN<|yG [(15,vA (cAff x p31 c31)),(16,vS p2 point c2)] ?_;have hle:=iS imm1;have h2:=h2.mono le1;have h:=h.mono le1;have h1:=h1.mono le1;refine yR (qB x point _ hy1 h31 h2) ?_;rintro imm0 hs2 v2 k2 le - ⟨v01,rfl,rfl,rfl⟩ -;have h31:=h31.mono le;have h2:=h2.mono le;have h:=h.mono le;have h1:=h1.mono le;have hle:=hle.trans le;exact zX (hx:=[]) rfl hle rfl (zM rfl) ⟨rfl,rfl⟩
   · intro imm1 hf le1;refine zG ?_;rintro _ _ ⟨rfl,rfl⟩;refine zN<|yG [(19,vS p1 l.Hi c1)] ?_;have hle:=iS imm1;have h1:=h1.mono le1;refine wJ rfl rfl h1 hy2 ?_;intro ad1 ccs1 hat1 hrep1;obtain ⟨v02,rfl,h5⟩:=yM hrep1;obtain ⟨p4,c4,rfl⟩:=h5.form;exact zX (hx:=[]) rfl hle rfl (zM rfl) ⟨_,_,_,rfl,rfl,hat1,h5⟩
   · intro imm1 hf le1;refine zG ?_;rintro _ _ ⟨ad1,p4,c4,rfl,rfl,hat1,h5⟩;refine zN<|yG [(20,.pointer (some ad1))] ?_;have hle:=iS imm1;exact xX 0 hat1 (cAff x1 p4 c4) (vA (cAff x1 p4 c4)) rfl<|zX (hx:=[]) rfl hle rfl (zM rfl) ⟨_,_,rfl,rfl,h5⟩
   intro imm1 hf le1;refine zG ?_;rintro _ _ ⟨p41,c41,rfl,rfl,h51⟩;refine zG ?_;rintro _ _ ⟨rfl,rfl⟩;refine zN<|yG [(21,vA (cAff x1 p41 c41)),(22,vS p2 point c2)] ?_;have hle:=iS imm1;have h2:=h2.mono le1;have h:=h.mono le1;have h1:=h1.mono le1;refine yR (qB x1 point _ hy3 h51 h2) ?_;rintro imm01 hs2 v2 k2 le1 - ⟨v03,rfl,rfl,rfl⟩ -;have h51:=h51.mono le1;have h2:=h2.mono le1;have h:=h.mono le1;have h1:=h1.mono le1;have hle:=hle.trans le1;exact zX (hx:=[]) rfl hle rfl (zM rfl) ⟨rfl,rfl⟩
 intro imm02 le2;refine zG ?_;rintro _ _ ⟨rfl,rfl⟩;refine zG ?_;rintro _ _ ⟨rfl,rfl⟩;refine zN<|yG [(1,vS p2 point c2),(2,vP b 0),(6,vI y),(23,vI y1)] ?_;have h2:=h2.mono le2;have h:=h.mono le2;have h1:=h1.mono le2;have hle:=hle.trans le2;refine zY [] [(7,vI y1)]<|zE<|zF<|zF<|zB<|zY [0] [(25,vS p l.Lo c),(26,vI (l.Lo.length:Int)),(27,vI 0)]<|zE<|yB<|uA [(1,vS p2 point c2),(2,vP b 0),(6,vI y),(7,vI y1),(25,vS p l.Lo c),(26,vI (l.Lo.length:Int)),(27,vI 0)] ?_;obtain ⟨o0,ho0,hMl⟩:=zC hM;refine dD l point y 0 o0 ho0 iR h2 h h1 (fun _ _ _ h=>h) (fun _ _ h=>h) ?_;intro imm04 lo1 heq le4;subst o0;have h2:=h2.mono le4;have h:=h.mono le4;have h1:=h1.mono le4;have hle:=hle.trans le4;refine yC<|zE<|zF<|zF<|zB<|zY [0] [(38,vS p1 l.Hi c1),(39,vI (l.Hi.length:Int)),(40,vI 0)]<|zE<|yB<|qR (zL [] (hs':=[]) rfl (by decide))<|uA [(1,vS p2 point c2),(6,vI lo1),(7,vI y1),(38,vS p1 l.Hi c1),(39,vI (l.Hi.length:Int)),(40,vI 0)] ?_;obtain ⟨o01,ho01,hMl1⟩:=zC hMl;refine dE l point y1 0 o01 ho01 iR h2 h1 (fun _ _ _ h=>h) (fun _ _ h=>h) ?_;intro imm06 hi1 heq1 le6;subst o01;have hle:=hle.trans le6;refine yC<|zE<|zF<|zB<|zY [] [(4,vI lo1),(5,vI hi1)]<|zE<|yJ ?_;obtain rfl:=zD hMl1;exact yQ ⟨_,_,(.tmp rfl (.tmp rfl ResV.nil)),zV,⟨_,_,rfl,rfl,rfl,rfl⟩⟩
def jG (r:List Int):KT:=fun kk imm' hs' v=>
  ∃ a0 c0 s0,hs'=[.osl (.slice a0 r.length c0) (Rp.sz Int) s0]∧v=tupV [(.slice a0 r.length c0)]∧RepL (Rp.rep imm') (Rp.sz Int) s0 r
def tB (s:List Int):Option (List Int):=app 8 ([]:List Int) s
theorem pZ:∀ (s:List Int) r,tB s=some r→∀ {imm:Imm}{p c},SL imm (vS p s c) s→Ret Tryz.prog 110 [vS p s c] imm [] (jG r):=by
 intro s r hM imm p c h;unfold tB at hM;obtain ⟨ccs,k0,k01⟩:=h;refine yF (fn:=Tryz.f110) (c:=(bodyOf Tryz.f110)) Tryz.func110 rfl rfl ?_;rintro B - -;cases p with
 | none =>
  have hs:s=[]:=by
    rcases k0 with ⟨hv,rfl⟩ | ⟨b0,off,len,cap,cc,hv,k2⟩
    · cases s with
      | nil=>rfl
      | cons _ _=>simp at hv
    simp at hv
  subst hs;obtain ⟨_,rfl⟩:=gD hM;refine zF<|zB<|zY [] [(0,vS none ([]:List Int) c),(2,z0)]<|zE<|zF<|zF<|zB<|yK 1 [] [(3,vS none ([]:List Int) c)]<|zIT true rfl rfl ?_ rfl;exact zY [] [(4,.bool true)]<|zE<|eC rfl<|zF<|zB<|zY [] [(2,z0)]<|zE<|yJ<|zQ<|wE (tD (Rp.sz Int))<|yQ ⟨_,_,(.tmp rfl ResV.nil),(zL [0] rfl (by decide)),⟨none,0,[],rfl,rfl,rfl⟩⟩
 | some ad =>
  refine zF<|zB<|zY [] [(0,vS (some ad) s c),(2,z0)]<|zE<|zF<|zF<|zB<|yK 1 [] [(3,vS (some ad) s c)]<|zIT false rfl rfl ?_ rfl;refine zY [] [(0,vS (some ad) s c),(4,.bool false)]<|zE<|kP rfl<|yD<|zE<|zF<|zB<|xY [] Int ?_;intro b2 hb2;have h1:RL imm [] ([]:List Int):=rfl;refine yK 2 [] [(6,vS (some ad) s c)]<|qS 3 1 0 rfl rfl rfl h1 (.inl k0) k01 hM ?_;intro p1 c1 cs h2;exact zY [] [(2,vS p1 r c1)]<|zE<|yJ<|yQ ⟨_,_,(.tmp rfl ResV.nil),(zL [0] rfl (by decide)),⟨_,_,_,rfl,rfl,h2⟩⟩
end Go.LN
