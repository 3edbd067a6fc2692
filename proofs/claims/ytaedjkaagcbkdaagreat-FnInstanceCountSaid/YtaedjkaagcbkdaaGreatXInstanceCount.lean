/- Helper of the proof (see the last text). -/
import Derived.Test.YtaedjkaagcbkdaaGreatLnA
import Derived.Test.YtaedjkaagcbkdaaGreatLnB
import Derived.Test.YtaedjkaagcbkdaaGreatLnC
import Derived.Test.YtaedjkaagcbkdaaGreatLnD
import Derived.Test.YtaedjkaagcbkdaaGreatLnE
import Derived.Test.YtaedjkaagcbkdaaGreatLnF
import Derived.Test.YtaedjkaagcbkdaaGreatLnG
import Derived.Test.YtaedjkaagcbkdaaGreatLnH
import Derived.Test.YtaedjkaagcbkdaaGreatLnI
import Derived.Test.YtaedjkaagcbkdaaGreatLnJ
import Derived.Test.YtaedjkaagcbkdaaGreatLnK
import Derived.Test.YtaedjkaagcbkdaaGreatLnL
import Derived.Test.YtaedjkaagcbkdaaGreatLnM
import Derived.Test.YtaedjkaagcbkdaaGreatLnN
import Derived.Test.YtaedjkaagcbkdaaGreatLnO
import Derived.Test.YtaedjkaagcbkdaaGreatLnP
import Derived.Test.YtaedjkaagcbkdaaGreatLnQ
import Derived.Test.YtaedjkaagcbkdaaGreatLnTZ
import Derived.Test.YtaedjkaagcbkdaaGreatLnUZ
import Derived.Test.YtaedjkaagcbkdaaGreatLnV
import Derived.Test.YtaedjkaagcbkdaaGreatLnSZ
import Derived.Test.YtaedjkaagcbkdaaGreatLnW
import Derived.Test.YtaedjkaagcbkdaaGreatLnX
import Derived.Test.YtaedjkaagcbkdaaGreatLnY
import Derived.Test.YtaedjkaagcbkdaaGreatTryzShelf
import Derived.Test.YtaedjkaagcbkdaaGreatHM1
import Derived.Test.YtaedjkaagcbkdaaGreatHM2
import Derived.Test.YtaedjkaagcbkdaaGreatHM3
import Derived.Test.YtaedjkaagcbkdaaGreatHM4
import Derived.Test.YtaedjkaagcbkdaaGreatHM5
import Derived.Test.YtaedjkaagcbkdaaGreatHM6
import Derived.Test.YtaedjkaagcbkdaaGreatHM7
import Derived.Test.YtaedjkaagcbkdaaGreatQT
import Derived.Test.YtaedjkaagcbkdaaGreatQZ
import Derived.Test.YtaedjkaagcbkdaaGreatVB1
import Derived.Test.YtaedjkaagcbkdaaGreatVB2
import Derived.Test.YtaedjkaagcbkdaaGreatVB3
import Derived.Test.YtaedjkaagcbkdaaGreatVB4
import Derived.Test.YtaedjkaagcbkdaaGreatVB5
import Derived.Test.YtaedjkaagcbkdaaGreatVB6
import Derived.Test.YtaedjkaagcbkdaaGreatVB7
import Derived.Test.YtaedjkaagcbkdaaGreatVB8
import Derived.Test.YtaedjkaagcbkdaaGreatVC1
import Derived.Test.YtaedjkaagcbkdaaGreatVC2
import Derived.Test.YtaedjkaagcbkdaaGreatVC3
import Derived.Test.YtaedjkaagcbkdaaGreatLnR
namespace Go.LN
set_option linter.unusedVariables false
set_option linter.unusedSimpArgs false
open Go.Proofs
set_option maxRecDepth 20000
def spec_DrawProgramValid_post (r:zZ):KT:=fun kk imm' hs' v=>
  ∃ v0,hs'=[]∧v=tupV [v0]∧(∃ cs,v0=.agg ⟨cs⟩∧Rp.rep imm' cs r)
def M.spec_DrawProgramValid (code:(List UInt8)):Option (zZ):=do
 let y←nW code
 let (y2,y3)←mW y
 let (y5,y6)←rV y3 y2
 pure (id y5)
theorem spec_DrawProgramValid_ok:∀ (code:(List UInt8)) r,M.spec_DrawProgramValid code=some r→∀ {imm:Imm}{p c},(S4 imm p code c)→Ret Tryz.prog 49 [vS p code c] imm [] (spec_DrawProgramValid_post  r):=by
 intro code r hM imm p c h;unfold M.spec_DrawProgramValid at hM;refine yF (fn:=Tryz.f49) (c:=(bodyOf Tryz.f49)) Tryz.func49 rfl rfl ?_;rintro B - -;have hle:=iS imm;refine zF<|zB<|uJ zTwo ?_;intro b hb;refine yN rfl<|zE<|zF<|zB<|yK 1 [] [(4,vS p code c)] ?_;obtain ⟨y,hy,hM⟩:=zC hM;refine yR (zGV code _ hy h) ?_;rintro imm0 hs2 v2 k2 le - ⟨b1,p1,c1,rfl,rfl,h1⟩ -;have hle:=hle.trans le;refine zY [] [(3,vP b1 0)]<|zE<|zF<|zB<|yK 2 [] [(6,vP b1 0),(7,vP b1 0)] ?_;obtain ⟨⟨y2,y3⟩,hy1,hM⟩:=zC hM;refine tX [hB b1 (cRd y p1 c1)] [hB b zTwo] (zGp y _ hy1 h1) ?_;rintro imm01 hs2 v2 k2 le1 - ⟨v0,kk,rfl,rfl,⟨cs,rfl,h2⟩,h3⟩ -;have hle:=hle.trans le1;obtain ⟨v01,v02,rfl,h4,h5⟩:=zFp h2;obtain ⟨p2,c2,rfl⟩:=h4.form;obtain ⟨p3,c3,rfl⟩:=h5.form;obtain ⟨v03,rfl,h6⟩:=yH h3;obtain ⟨p4,c4,rfl⟩:=h6.form;obtain ⟨⟨y5,y6⟩,hy2,hM⟩:=zC hM;refine tX [hB b1 (cRd y3 p4 c4)] [hB b zTwo] (zGJ y3 y2 _ hy2 h6 h4 h5) ?_;rintro imm02 hs2 v2 k2 le2 - ⟨v04,kk1,rfl,rfl,⟨cs1,rfl,h7⟩,h8⟩ -;have hle:=hle.trans le2;obtain ⟨v05,v06,rfl,h9,h10⟩:=zFp h7;obtain ⟨p5,c5,rfl⟩:=h9.form;obtain ⟨p6,c6,rfl⟩:=h10.form;obtain ⟨v07,rfl,h11⟩:=yH h8;obtain ⟨p7,c7,rfl⟩:=h11.form;refine xI 1 (cProg y5 p5 c5 p6 c6) [hB b1 (cRd y6 p7 c7),hB b (cProg y5 p5 c5 p6 c6)] rfl rfl rfl rfl<|yN rfl<|zE<|yJ ?_;obtain rfl:=zD hM;exact yQ ⟨_,_,(.cell 1 rfl rfl (by kernel_rfl) ResV.nil),zV,⟨_,rfl,rfl,⟨_,rfl,(oU ⟨_,_,rfl,h9,h10⟩)⟩⟩⟩
def spec_DrawProgramInstances_post (r:zZ):KT:=fun kk imm' hs' v=>
  ∃ v0,hs'=[]∧v=tupV [v0]∧(∃ cs,v0=.agg ⟨cs⟩∧Rp.rep imm' cs r)
def M.spec_DrawProgramInstances (code:(List UInt8)):Option (zZ):=do
 let y←M.spec_DrawProgramValid code
 pure (id y)
theorem spec_DrawProgramInstances_ok:∀ (code:(List UInt8)) r,M.spec_DrawProgramInstances code=some r→∀ {imm:Imm}{p c},(S4 imm p code c)→Ret Tryz.prog 15 [vS p code c] imm [] (spec_DrawProgramInstances_post  r):=by
 intro code r hM imm p c h;unfold M.spec_DrawProgramInstances at hM;refine yF (fn:=Tryz.f15) (c:=(bodyOf Tryz.f15)) Tryz.func15 rfl rfl ?_;rintro B - -;have hle:=iS imm;refine zF<|zB<|uJ zTwo ?_;intro b hb;refine yN rfl<|zE<|zF<|zB<|yK 1 [] [(3,vS p code c)] ?_;obtain ⟨y,hy,hM⟩:=zC hM;refine yR (spec_DrawProgramValid_ok code _ hy h) ?_;rintro imm0 hs2 v2 k2 le - ⟨v0,rfl,rfl,⟨cs,rfl,h1⟩⟩ -;have hle:=hle.trans le;obtain ⟨v01,v02,rfl,h2,h3⟩:=zFp h1;obtain ⟨p1,c1,rfl⟩:=h2.form;obtain ⟨p2,c2,rfl⟩:=h3.form;refine xI 0 (cProg y p1 c1 p2 c2) [hB b (cProg y p1 c1 p2 c2)] rfl rfl rfl rfl<|yN rfl<|zE<|yJ ?_;obtain rfl:=zD hM;exact yQ ⟨_,_,(.cell 0 rfl rfl (by kernel_rfl) ResV.nil),zV,⟨_,rfl,rfl,⟨_,rfl,(oU ⟨_,_,rfl,h2,h3⟩)⟩⟩⟩
end Go.LN
namespace Go.LN
open Go.Proofs
set_option maxRecDepth 20000
def impl_ProgramInstances_post (r:(List yI)):KT:=fun kk imm' hs' v=>
  ∃ v0,hs'=[]∧v=tupV [v0]∧SL imm' v0 r
def M.impl_ProgramInstances (p:zZ):Option ((List yI)):=do
 let (y1,y2)←rQ p
 if (!y2) then
  pure ([]:List yI)
 else
  pure (id y1)
theorem impl_ProgramInstances_ok:∀ (p:zZ) r,M.impl_ProgramInstances p=some r→∀ {imm:Imm}{p1 c p2 c1},(S4 imm p1 p.Arrays c)→(S4 imm p2 p.Parts c1)→Ret Tryz.prog 16 [vA (cProg p p1 c p2 c1)] imm [] (impl_ProgramInstances_post  r):=by
 intro p r hM imm p1 c p2 c1 h h1;unfold M.impl_ProgramInstances at hM;refine yF (fn:=Tryz.f16) (c:=(bodyOf Tryz.f16)) Tryz.func16 rfl rfl ?_;rintro B - -;have hle:=iS imm;refine zF<|zB<|sD (cProg p p1 c p2 c1) ?_;intro b hb;refine zY [] []<|zE<|zF<|zB<|yK 1 [0] [(6,vA (cProg p p1 c p2 c1))] ?_;obtain ⟨⟨y1,y2⟩,hy,hM⟩:=zC hM;refine yR (zDc p _ hy h h1) ?_;rintro imm0 hs2 v2 k2 le - ⟨v0,v01,rfl,rfl,h2,rfl⟩ -;have h:=h.mono le;have h1:=h1.mono le;have hle:=hle.trans le;obtain ⟨p3,c2,rfl⟩:=h2.form;refine zY [] [(3,vS p3 y1 c2),(4,.bool y2)]<|zE<|zF<|zF<|zB<|zY [] [(11,.bool (!y2))]<|zE<|yP hM ?_ ?_
 · intro hc hM;refine zF<|zB<|zY [] [(2,z0)]<|zE<|yJ<|zQ ?_;obtain rfl:=zD hM;exact yQ ⟨_,_,(.tmp rfl ResV.nil),zV,⟨_,rfl,rfl,(SL.nil _)⟩⟩
 intro hc hM;refine yD<|zE<|zF<|zB<|zY [] [(2,vS p3 y1 c2)]<|zE<|yJ ?_;obtain rfl:=zD hM;exact yQ ⟨_,_,(.tmp rfl ResV.nil),zV,⟨_,rfl,rfl,h2⟩⟩
def spec_l4Instances_post (r:(List yI)):KT:=fun kk imm' hs' v=>
  ∃ v0,hs'=[]∧v=tupV [v0]∧SL imm' v0 r
def M.spec_l4Instances_l3 (p:zZ) (i:Int) (y:(List (List Int))) (k0:Int) (out4:List yI) (s:Int):Option (List yI):=do
 let x1←idx p.Parts i
 if (decide (s < (x1.Body.length:Int))) then
  let x2←idx y k0
  let l←app 8 ([]:List Int) x2
  let out6←app 40 out4 ([(yI.mk i s l)]:List yI)
  M.spec_l4Instances_l3 p i y k0 out6 (W (s + 1))
 else
  pure (id out4)
 partial_fixpoint
theorem spec_l4Instances_l3_ok (p:zZ) (i:Int) (y:(List (List Int))) (k0:Int):∀ (out4:List yI) (s:Int) (o:List yI),M.spec_l4Instances_l3 p i y k0 out4 s=some o→∀ {B}{imm0 imm:Imm}{Q p1 c p2 c1}{b:Nat}{p7 c6 cs2 p10 c9 cs5},imm0.le imm→(RL imm cs2 y)→(S4 imm p1 p.Arrays c)→(S4 imm p2 p.Parts c1)→(RL imm cs5 out4)→(∀ l a w,¬Q (.goto l) a w)→(∀ a w,¬Q .outgrown a w)→(∀ (imm':Imm) (out5:List yI) (p11:Option Addr) (c10:Nat) (cs6:List Value),o=out5→imm0.le imm'→(RL imm' cs6 out5)→T 54 B Q (.exit 4) imm' [hO (List Int) (vS p7 y c6) cs2,hO yI (vS p11 out5 c10) cs6,hB b (cProg p p1 c p2 c1)] [(1,vP b 0),(3,vS p11 out5 c10),(4,vI i),(5,vS p7 y c6),(6,vI k0)])→J Tryz.prog 54 B (nav (bodyOf Tryz.f52) [1,1,0,1,0,0,1,0,0,1,1,0,0,1,0,0,1,0]) Q imm [hO (List Int) (vS p7 y c6) cs2,hO yI (vS p10 out4 c9) cs5,hB b (cProg p p1 c p2 c1)] [(1,vP b 0),(3,vS p10 out4 c9),(4,vI i),(5,vS p7 y c6),(6,vI k0),(7,vI s)]:=by
 refine M.spec_l4Instances_l3.partial_correctness p i y k0 _ ?_;intro self ih out4 s o hM B imm0 imm Q p1 c p2 c1 b p7 c6 cs2 p10 c9 cs5 hle h8 h h1 h11 hg ho hx;refine xF hg ho<|zF<|zF<|zB<|yK 4 [2] [(30,vI s),(32,vS p2 p.Parts c1),(33,vI i)] ?_;obtain ⟨x1,hy2,hM⟩:=zC hM;refine wJ rfl rfl h1 hy2 ?_;intro ad1 ccs1 hat1 hrep1;obtain ⟨v02,v03,rfl,h13,h14⟩:=uM hrep1;obtain ⟨p12,c11,rfl⟩:=h13.form;obtain ⟨p13,c12,rfl⟩:=h14.form;refine yK 6 [] [(35,.pointer (some (ad1.add 1)))]<|xX 1 hat1 [vS p13 x1.Body c12] (vS p13 x1.Body c12) rfl<|zY [] [(38,.bool (decide (s < (x1.Body.length:Int))))]<|zE<|yP hM ?_ ?_
 · intro hc2 hM;refine yD<|zE<|zF<|yB<|zB<|yK 3 [] [(41,vS p10 out4 c9),(42,vI i),(43,vI s)]<|xY [] Int ?_;intro b3 hb3;have h15:RL imm [] ([]:List Int):=rfl;refine yK 6 [] [(45,vS p7 y c6),(46,vI k0)] ?_;obtain ⟨x2,hy3,hM⟩:=zC hM;refine nH 1 rfl rfl rfl h8 hy3 ?_;intro ad2 ccs2 hat2 hcc hrep2;obtain ⟨v04,rfl,h16⟩:=hrep2;obtain ⟨p14,c13,rfl⟩:=h16.form;refine zCz 1 0 hat2 hcc [vS p14 x2 c13] (vS p14 x2 c13) rfl rfl ?_;obtain ⟨ccs3,k01,k02⟩:=h16;have h16:SL imm (vS p14 x2 c13) x2:=⟨_,k01,k02⟩;obtain ⟨l,hy4,hM⟩:=zC hM;refine qS 3 1 0 rfl rfl rfl h15 (.inl k01) k02 hy4 ?_;intro p15 c14 cs7 h17;refine qC (zL [0,1,2,3] (hs':=[hO Int (vS p15 l c14) cs7,hO (List Int) (vS p7 y c6) cs2,hO yI (vS p10 out4 c9) cs5,hB b (cProg p p1 c p2 c1)]) rfl (by decide))<|yK 10 [] [(50,vA [vI i,vI s,vS p15 l c14])]<|yL 0 rfl ?_;intro imm01 le1 hl0;have h18:=SL.of_frozen hl0 le1 h17;have h8:=iM le1 h8;have h11:=iM le1 h11;have h:=h.mono le1;have h1:=h1.mono le1;have hle:=hle.trans le1;refine xY [vI i,vI s,vS p15 l c14] yI ?_;intro b4 hb4;have h19:RL imm01 [vI i,vI s,vS p15 l c14] ([(yI.mk i s l)]:List yI):=⟨[vI i,vI s,vS p15 l c14],_,rfl,rfl,(zAT ⟨_,rfl,h18⟩),rfl⟩;obtain ⟨out6,hy5,hM⟩:=zC hM;refine qS 59 3 2 rfl rfl rfl h11 (.inr ⟨0,rfl⟩) h19 hy5 ?_;intro p16 c15 cs8 h20;exact qC (zL [1,2,3] (hs':=[hO (List Int) (vS p7 y c6) cs2,hO yI (vS p16 out6 c15) cs8,hB b (cProg p p1 c p2 c1)]) rfl (by decide))<|zY [] [(3,vS p16 out6 c15)]<|zW<|zE<|zB<|zY [] [(7,vI (W (s + 1)))]<|xG<|uA [(1,vP b 0),(3,vS p16 out6 c15),(4,vI i),(5,vS p7 y c6),(6,vI k0),(7,vI (W (s + 1)))]<|ih out6 (W (s + 1)) _ hM hle h8 h h1 h20 hg ho hx
 intro hc2 hM;exact xB<|zT<|zT<|yU [(1,vP b 0),(3,vS p10 out4 c9),(4,vI i),(5,vS p7 y c6),(6,vI k0)]<|hx _ _ _ _ _ (zD hM).symm hle h11
def M.spec_l4Instances_l2 (p:zZ) (i:Int) (y:(List (List Int))) (out2:List yI) (k0:Int):Option (List yI):=do
 if (decide (k0 < (y.length:Int))) then
  let out5←M.spec_l4Instances_l3 p i y k0 out2 0
  M.spec_l4Instances_l2 p i y out5 (W (k0 + 1))
 else
  pure (id out2)
 partial_fixpoint
theorem spec_l4Instances_l2_ok (p:zZ) (i:Int) (y:(List (List Int))):∀ (out2:List yI) (k0:Int) (o:List yI),M.spec_l4Instances_l2 p i y out2 k0=some o→∀ {B}{imm0 imm:Imm}{Q p1 c p2 c1}{b:Nat}{p7 c6 cs2 p8 c7 cs3},imm0.le imm→(RL imm cs2 y)→(S4 imm p1 p.Arrays c)→(S4 imm p2 p.Parts c1)→(RL imm cs3 out2)→(∀ l a w,¬Q (.goto l) a w)→(∀ a w,¬Q .outgrown a w)→(∀ (imm':Imm) (out3:List yI) (p9:Option Addr) (c8:Nat) (cs4:List Value),o=out3→imm0.le imm'→(RL imm' cs4 out3)→T 54 B Q (.exit 2) imm' [hO yI (vS p9 out3 c8) cs4,hB b (cProg p p1 c p2 c1)] [(1,vP b 0),(3,vS p9 out3 c8),(4,vI i)])→J Tryz.prog 54 B (nav (bodyOf Tryz.f52) [1,1,0,1,0,0,1,0,0,1,1,0]) Q imm [hO (List Int) (vS p7 y c6) cs2,hO yI (vS p8 out2 c7) cs3,hB b (cProg p p1 c p2 c1)] [(1,vP b 0),(3,vS p8 out2 c7),(4,vI i),(5,vS p7 y c6),(6,vI k0)]:=by
 refine M.spec_l4Instances_l2.partial_correctness p i y _ ?_;intro self ih out2 k0 o hM B imm0 imm Q p1 c p2 c1 b p7 c6 cs2 p8 c7 cs3 hle h8 h h1 h9 hg ho hx;refine xF hg ho<|zF<|zF<|zB<|zY [] [(27,.bool (decide (k0 < (y.length:Int))))]<|zE<|yP hM ?_ ?_
 · intro hc1 hM;refine yD<|zE<|zF<|yB<|zF<|zB<|zY [] [(7,vI 0)]<|zE<|yB<|uA [(1,vP b 0),(3,vS p8 out2 c7),(4,vI i),(5,vS p7 y c6),(6,vI k0),(7,vI 0)] ?_;obtain ⟨o0,ho0,hMl⟩:=zC hM;refine spec_l4Instances_l3_ok p i y k0 out2 0 o0 ho0 iR h8 h h1 h9 (fun _ _ _ h=>hg _ _ _ h) (fun _ _ h=>ho _ _ h) ?_;intro imm02 out5 p11 c10 cs6 heq le2 h12;subst o0;have h8:=iM le2 h8;have h:=h.mono le2;have h1:=h1.mono le2;have hle:=hle.trans le2;exact yC<|zW<|zE<|zB<|zY [] [(6,vI (W (k0 + 1)))]<|xG<|uA [(1,vP b 0),(3,vS p11 out5 c10),(4,vI i),(5,vS p7 y c6),(6,vI (W (k0 + 1)))]<|ih out5 (W (k0 + 1)) _ hMl hle h8 h h1 h12 hg ho hx
 intro hc1 hM;exact xB<|zT<|zT<|wE (zL [1,2] rfl (by decide))<|yU [(1,vP b 0),(3,vS p8 out2 c7),(4,vI i)]<|hx _ _ _ _ _ (zD hM).symm hle h9
def M.spec_l4Instances_l1 (p:zZ) (out:List yI) (i:Int):Option (List yI):=do
 if (decide (i < (p.Parts.length:Int))) then
  let x←idx p.Parts i
  let y←wX ([]:List (List Int)) x.Nest ([]:List Int)
  let out3←M.spec_l4Instances_l2 p i y out 0
  M.spec_l4Instances_l1 p out3 (W (i + 1))
 else
  pure (id out)
 partial_fixpoint
theorem spec_l4Instances_l1_ok (p:zZ):∀ (out:List yI) (i:Int) (o:List yI),M.spec_l4Instances_l1 p out i=some o→∀ {B}{imm0 imm:Imm}{Q p1 c p2 c1}{b:Nat}{p3 c2 cs},imm0.le imm→(S4 imm p1 p.Arrays c)→(S4 imm p2 p.Parts c1)→(RL imm cs out)→(∀ l a w,¬Q (.goto l) a w)→(∀ a w,¬Q .outgrown a w)→(∀ (imm':Imm) (out1:List yI) (p4:Option Addr) (c3:Nat) (cs1:List Value),o=out1→imm0.le imm'→(RL imm' cs1 out1)→T 54 B Q (.exit 0) imm' [hO yI (vS p4 out1 c3) cs1] [(3,vS p4 out1 c3)])→J Tryz.prog 54 B (nav (bodyOf Tryz.f52) [1,1,0,1,0]) Q imm [hO yI (vS p3 out c2) cs,hB b (cProg p p1 c p2 c1)] [(1,vP b 0),(3,vS p3 out c2),(4,vI i)]:=by
 refine M.spec_l4Instances_l1.partial_correctness p _ ?_;intro self ih out i o hM B imm0 imm Q p1 c p2 c1 b p3 c2 cs hle h h1 h3 hg ho hx;refine xF hg ho<|zF<|zF<|zB<|zY [1] [(13,.bool (decide (i < (p.Parts.length:Int))))]<|zE<|yP hM ?_ ?_
 · intro hc hM;refine yD<|zE<|zF<|yB<|zF<|zB<|xY [] (List Int) ?_;intro b2 hb2;have h5:RL imm [] ([]:List (List Int)):=rfl;refine yK 4 [2] [(18,vS p2 p.Parts c1),(19,vI i)] ?_;obtain ⟨x,hy,hM⟩:=zC hM;refine wJ rfl rfl h1 hy ?_;intro ad ccs hat hrep;obtain ⟨v0,v01,rfl,h6,h7⟩:=uM hrep;obtain ⟨p5,c4,rfl⟩:=h6.form;obtain ⟨p6,c5,rfl⟩:=h7.form;refine yK 6 [] [(21,.pointer (some ad))]<|xX 0 hat [vS p5 x.Nest c4] (vS p5 x.Nest c4) rfl ?_;obtain ⟨y,hy1,hM⟩:=zC hM;refine tX [hO (List Int) (vS (some ⟨b2,0,none⟩) ([]:List (List Int)) 0) []] [hO yI (vS p3 out c2) cs,hB b (cProg p p1 c p2 c1)] (zBt ([]:List (List Int)) x.Nest ([]:List Int) _ hy1 h5 h6 (SL.nil _)) ?_;rintro imm0 hs2 v2 k2 le - ⟨p7,c6,cs2,rfl,rfl,h8⟩ -;have h3:=iM le h3;have h:=h.mono le;have h1:=h1.mono le;have hle:=hle.trans le;refine zY [] [(5,vS p7 y c6)]<|zE<|zF<|zB<|zY [] [(6,vI 0)]<|zE<|yB<|uA [(1,vP b 0),(3,vS p3 out c2),(4,vI i),(5,vS p7 y c6),(6,vI 0)] ?_;obtain ⟨o01,ho01,hMl1⟩:=zC hM;refine spec_l4Instances_l2_ok p i y out 0 o01 ho01 iR h8 h h1 h3 (fun _ _ _ h=>hg _ _ _ h) (fun _ _ h=>ho _ _ h) ?_;intro imm03 out3 p9 c8 cs4 heq1 le3 h10;subst o01;have h:=h.mono le3;have h1:=h1.mono le3;have hle:=hle.trans le3;exact yC<|zW<|zE<|zB<|zY [] [(4,vI (W (i + 1)))]<|xG<|uA [(1,vP b 0),(3,vS p9 out3 c8),(4,vI (W (i + 1)))]<|ih out3 (W (i + 1)) _ hMl1 hle h h1 h10 hg ho hx
 intro hc hM;exact xB<|zT<|zT<|wE (zL [0] rfl (by decide))<|yU [(3,vS p3 out c2)]<|hx _ _ _ _ _ (zD hM).symm hle h3
def M.spec_l4Instances (p:zZ):Option ((List yI)):=do
 let out1←M.spec_l4Instances_l1 p ([]:List yI) 0
 pure (id out1)
theorem spec_l4Instances_ok:∀ (p:zZ) r,M.spec_l4Instances p=some r→∀ {imm:Imm}{p1 c p2 c1},(S4 imm p1 p.Arrays c)→(S4 imm p2 p.Parts c1)→Ret Tryz.prog 52 [vA (cProg p p1 c p2 c1)] imm [] (spec_l4Instances_post  r):=by
 intro p r hM imm p1 c p2 c1 h h1;unfold M.spec_l4Instances at hM;refine yF (fn:=Tryz.f52) (c:=(bodyOf Tryz.f52)) Tryz.func52 rfl rfl ?_;rintro B - -;have hle:=iS imm;refine zF<|zB<|sD (cProg p p1 c p2 c1) ?_;intro b hb;refine zY [] []<|zE<|zF<|zB<|xY [] yI ?_;intro b1 hb1;have h2:RL imm [] ([]:List yI):=rfl;refine zY [] [(3,vS (some ⟨b1,0,none⟩) ([]:List yI) 0)]<|zE<|zF<|zF<|zB<|zY [] [(4,vI 0)]<|zE<|yB<|uA [(1,vP b 0),(3,vS (some ⟨b1,0,none⟩) ([]:List yI) 0),(4,vI 0)] ?_;obtain ⟨o02,ho02,hMl2⟩:=zC hM;refine spec_l4Instances_l1_ok p ([]:List yI) 0 o02 ho02 iR h h1 h2 (fun _ _ _ h=>h) (fun _ _ h=>h) ?_;intro imm04 out1 p4 c3 cs1 heq2 le4 h4;subst o02;have hle:=hle.trans le4;refine yC<|zE<|zF<|zB<|zY [] [(2,vS p4 out1 c3)]<|zE<|yJ<|xL 0 rfl ?_;intro imm05 le5 hl01;have h21:=SL.of_frozen hl01 le5 h4;have hle:=hle.trans le5;obtain rfl:=zD hMl2;exact yQ ⟨_,_,(.tmp rfl ResV.nil),zV,⟨_,rfl,rfl,h21⟩⟩
def spec_ProgramInstances_post (r:(List yI)):KT:=fun kk imm' hs' v=>
  ∃ v0,hs'=[]∧v=tupV [v0]∧SL imm' v0 r
def M.spec_ProgramInstances (p:zZ):Option ((List yI)):=do
 let y←tE p
 if (!y) then
  pure ([]:List yI)
 else
  let y1←M.spec_l4Instances p
  pure (id y1)
theorem spec_ProgramInstances_ok:∀ (p:zZ) r,M.spec_ProgramInstances p=some r→∀ {imm:Imm}{p1 c p2 c1},(S4 imm p1 p.Arrays c)→(S4 imm p2 p.Parts c1)→Ret Tryz.prog 17 [vA (cProg p p1 c p2 c1)] imm [] (spec_ProgramInstances_post  r):=by
 intro p r hM imm p1 c p2 c1 h h1;unfold M.spec_ProgramInstances at hM;refine yF (fn:=Tryz.f17) (c:=(bodyOf Tryz.f17)) Tryz.func17 rfl rfl ?_;rintro B - -;have hle:=iS imm;refine zF<|zB<|sD (cProg p p1 c p2 c1) ?_;intro b hb;refine zY [] []<|zE<|zF<|zF<|zB<|yK 1 [0] [(3,vA (cProg p p1 c p2 c1))] ?_;obtain ⟨y,hy,hM⟩:=zC hM;refine yR (eU p _ hy h h1) ?_;rintro imm0 hs2 v2 k2 le - ⟨v0,rfl,rfl,rfl⟩ -;have h:=h.mono le;have h1:=h1.mono le;have hle:=hle.trans le;refine zY [] [(5,.bool (!y))]<|zE<|yP hM ?_ ?_
 · intro hc hM;refine zF<|zB<|xY [] yI ?_;intro b1 hb1;have h3:RL imm0 [] ([]:List yI):=rfl;refine zY [] [(2,vS (some ⟨b1,0,none⟩) ([]:List yI) 0)]<|zE<|yJ<|zQ<|xL 0 rfl ?_;intro imm01 le1 hl0;have h4:=SL.of_frozen hl0 le1 h3;have h:=h.mono le1;have h1:=h1.mono le1;have hle:=hle.trans le1;obtain rfl:=zD hM;exact yQ ⟨_,_,(.tmp rfl ResV.nil),zV,⟨_,rfl,rfl,h4⟩⟩
 intro hc hM;refine yD<|zE<|zF<|zB<|yK 1 [0] [(7,vA (cProg p p1 c p2 c1))] ?_;obtain ⟨y1,hy1,hM⟩:=zC hM;refine yR (spec_l4Instances_ok p _ hy1 h h1) ?_;rintro imm02 hs2 v2 k2 le2 - ⟨v01,rfl,rfl,h5⟩ -;have h:=h.mono le2;have h1:=h1.mono le2;have hle:=hle.trans le2;obtain ⟨p3,c2,rfl⟩:=h5.form;refine zY [] [(2,vS p3 y1 c2)]<|zE<|yJ ?_;obtain rfl:=zD hM;exact yQ ⟨_,_,(.tmp rfl ResV.nil),zV,⟨_,rfl,rfl,h5⟩⟩
def impl_ProgramValid_post (r:Bool):KT:=fun kk imm' hs' v=>
  ∃ v0,hs'=[]∧v=tupV [v0]∧v0=.bool r
def M.impl_ProgramValid (p:zZ):Option (Bool):=do
 let (y1,y2)←rQ p
 pure (id y2)
theorem impl_ProgramValid_ok:∀ (p:zZ) r,M.impl_ProgramValid p=some r→∀ {imm:Imm}{p1 c p2 c1},(S4 imm p1 p.Arrays c)→(S4 imm p2 p.Parts c1)→Ret Tryz.prog 18 [vA (cProg p p1 c p2 c1)] imm [] (impl_ProgramValid_post  r):=by
 intro p r hM imm p1 c p2 c1 h h1;unfold M.impl_ProgramValid at hM;refine yF (fn:=Tryz.f18) (c:=(bodyOf Tryz.f18)) Tryz.func18 rfl rfl ?_;rintro B - -;have hle:=iS imm;refine zF<|zB<|sD (cProg p p1 c p2 c1) ?_;intro b hb;refine zY [] []<|zE<|zF<|zB<|yK 1 [0] [(6,vA (cProg p p1 c p2 c1))] ?_;obtain ⟨⟨y1,y2⟩,hy,hM⟩:=zC hM;refine yR (zDc p _ hy h h1) ?_;rintro imm0 hs2 v2 k2 le - ⟨v0,v01,rfl,rfl,h2,rfl⟩ -;have h:=h.mono le;have h1:=h1.mono le;have hle:=hle.trans le;obtain ⟨p3,c2,rfl⟩:=h2.form;refine zY [] [(4,.bool y2)]<|zE<|zF<|zB<|zY [] [(2,.bool y2)]<|zE<|yJ ?_;obtain rfl:=zD hM;exact yQ ⟨_,_,(.tmp rfl ResV.nil),zV,⟨_,rfl,rfl,rfl⟩⟩
def laws_FnInstanceCount_post (r:Bool):KT:=fun kk imm' hs' v=>
  ∃ v0,hs'=[]∧v=tupV [v0]∧v0=.bool r
def M.laws_FnInstanceCount_l1 (y:zZ) (n0:Int) (i:Int):Option (Out Int (Bool)):=do
 if (decide (i < (y.Parts.length:Int))) then
  let x←idx y.Parts i
  let (y6,y7)←pG x.Nest
  if (!y7) then
   pure (.ret false)
  else
   let x1←idx y.Parts i
   M.laws_FnInstanceCount_l1 y (W (n0 + (W ((y6.length:Int) * (x1.Body.length:Int))))) (W (i + 1))
 else
  pure (.done n0)
 partial_fixpoint
theorem laws_FnInstanceCount_l1_ok (y:zZ):∀ (n0:Int) (i:Int) (o:Out Int (Bool)),M.laws_FnInstanceCount_l1 y n0 i=some o→∀ {B}{imm0 imm:Imm}{Q}{y1:(List yI)}{p1 c1 p2 c2}{b:Nat}{p3 c3},imm0.le imm→(S4 imm p3 y1 c3)→(S4 imm p1 y.Arrays c1)→(S4 imm p2 y.Parts c2)→(∀ l a w,¬Q (.goto l) a w)→(∀ a w,¬Q .outgrown a w)→(∀ (imm':Imm) (n01:Int),o=(.done n01)→imm0.le imm'→T 68 B Q (.exit 0) imm' [] [(4,vS p3 y1 c3),(5,vI n01)])→(∀ r imm' hs' m',o=(.ret r)→imm0.le imm'→RS Tryz.prog Tryz.f3 B (laws_FnInstanceCount_post  r) imm' hs' m'→T 68 B Q .ret imm' hs' m')→J Tryz.prog 68 B (nav (bodyOf Tryz.f3) [1,1,1,1,1,1,0,1,0]) Q imm [hB b (cProg y p1 c1 p2 c2)] [(3,vP b 0),(4,vS p3 y1 c3),(5,vI n0),(6,vI i)]:=by
 refine M.laws_FnInstanceCount_l1.partial_correctness y _ ?_;intro self ih n0 i o hM B imm0 imm Q y1 p1 c1 p2 c2 b p3 c3 hle h4 h2 h3 hg ho hx hr;refine xF hg ho<|zF<|zF<|zB<|zY [0] [(37,.bool (decide (i < (y.Parts.length:Int))))]<|zE<|yP hM ?_ ?_
 · intro hc3 hM;refine yD<|zE<|zF<|yB<|zF<|zB<|yK 3 [0] [(42,vS p2 y.Parts c2),(43,vI i)] ?_;obtain ⟨x,hy5,hM⟩:=zC hM;refine wJ rfl rfl h3 hy5 ?_;intro ad ccs hat hrep;obtain ⟨v07,v08,rfl,h8,h9⟩:=uM hrep;obtain ⟨p6,c6,rfl⟩:=h8.form;obtain ⟨p7,c7,rfl⟩:=h9.form;refine yK 5 [] [(45,.pointer (some ad))]<|xX 0 hat [vS p6 x.Nest c6] (vS p6 x.Nest c6) rfl ?_;obtain ⟨⟨y6,y7⟩,hy6,hM⟩:=zC hM;refine yR (zAd x.Nest _ hy6 h8) ?_;rintro imm06 hs2 v2 k2 le6 - ⟨v09,v010,rfl,rfl,h10,rfl⟩ -;have h4:=h4.mono le6;have h2:=h2.mono le6;have h3:=h3.mono le6;have hle:=hle.trans le6;obtain ⟨p8,c8,rfl⟩:=h10.form;refine zY [] [(7,vS p8 y6 c8),(8,.bool y7)]<|zE<|zF<|zF<|zB<|zY [] [(51,.bool (!y7))]<|zE<|yP hM ?_ ?_
   · intro hc4 hM;exact zF<|zB<|zY [] [(2,.bool false)]<|zE<|yJ<|zQ<|yE<|zQ<|zQ<|hr _ _ _ _ (zD hM).symm hle ⟨_,_,(.tmp rfl ResV.nil),zV,⟨_,rfl,rfl,rfl⟩⟩
   intro hc4 hM;refine yD<|zE<|zB<|yK 6 [0] [(52,vI n0),(54,vI (y6.length:Int)),(56,vS p2 y.Parts c2),(57,vI i)] ?_;obtain ⟨x1,hy7,hM⟩:=zC hM;refine wJ rfl rfl h3 hy7 ?_;intro ad1 ccs1 hat1 hrep1;obtain ⟨v011,v012,rfl,h12,h13⟩:=uM hrep1;obtain ⟨p9,c9,rfl⟩:=h12.form;obtain ⟨p10,c10,rfl⟩:=h13.form;exact yK 8 [] [(59,.pointer (some (ad1.add 1)))]<|xX 1 hat1 [vS p10 x1.Body c10] (vS p10 x1.Body c10) rfl<|zY [] [(5,vI (W (n0 + (W ((y6.length:Int) * (x1.Body.length:Int))))))]<|zW<|zE<|zB<|zY [] [(6,vI (W (i + 1)))]<|xG<|uA [(3,vP b 0),(4,vS p3 y1 c3),(5,vI (W (n0 + (W ((y6.length:Int) * (x1.Body.length:Int)))))),(6,vI (W (i + 1)))]<|ih (W (n0 + (W ((y6.length:Int) * (x1.Body.length:Int))))) (W (i + 1)) _ hM hle h4 h2 h3 hg ho hx hr
 intro hc3 hM;exact xB<|zT<|zT<|wE (zL [] rfl (by decide))<|yU [(4,vS p3 y1 c3),(5,vI n0)]<|hx _ _ (zD hM).symm hle
def M.laws_FnInstanceCount (code:(List UInt8)):Option (Bool):=do
 if (decide ((code.length:Int) > 1048576)) then
  pure true
 else
  let y←M.spec_DrawProgramInstances code
  let y1←M.impl_ProgramInstances y
  let t26←(do
    let y2←M.spec_ProgramInstances y
    if ((y1.length:Int) != (y2.length:Int)) then
     pure true
    else
     let y3←M.impl_ProgramValid y
     pure (!y3)
      : Option Bool)
  if t26 then
   let y4←M.spec_ProgramInstances y
   pure ((y1.length:Int) == (y4.length:Int))
  else
   match←M.laws_FnInstanceCount_l1 y 0 0 with
   | .ret r0=>pure r0
   | .done n01 =>
    pure (n01 == (y1.length:Int))
theorem laws_FnInstanceCount_ok:∀ (code:(List UInt8)) r,M.laws_FnInstanceCount code=some r→∀ {imm:Imm}{p c},(S4 imm p code c)→Ret Tryz.prog 3 [vS p code c] imm [] (laws_FnInstanceCount_post  r):=by
 intro code r hM imm p c h;unfold M.laws_FnInstanceCount at hM;refine yF (fn:=Tryz.f3) (c:=(bodyOf Tryz.f3)) Tryz.func3 rfl rfl ?_;rintro B - -;have hle:=iS imm;refine zF<|zB<|zY [] []<|zE<|zF<|zF<|zB<|zY [] [(11,.bool (decide ((code.length:Int) > 1048576)))]<|zE<|yP hM ?_ ?_
 · intro hc hM;refine zF<|zB<|zY [] [(2,.bool true)]<|zE<|yJ<|zQ ?_;obtain rfl:=zD hM;exact yQ ⟨_,_,(.tmp rfl ResV.nil),zV,⟨_,rfl,rfl,rfl⟩⟩
 intro hc hM;refine yD<|zE<|zF<|zB<|yK 1 [] [(12,vS p code c)] ?_;obtain ⟨y,hy,hM⟩:=zC hM;refine yR (spec_DrawProgramInstances_ok code _ hy h) ?_;rintro imm0 hs2 v2 k2 le - ⟨v0,rfl,rfl,⟨cs,rfl,h1⟩⟩ -;have hle:=hle.trans le;obtain ⟨v01,v02,rfl,h2,h3⟩:=zFp h1;obtain ⟨p1,c1,rfl⟩:=h2.form;obtain ⟨p2,c2,rfl⟩:=h3.form;refine uJ zTwo ?_;intro b hb;refine xI 0 (cProg y p1 c1 p2 c2) [hB b (cProg y p1 c1 p2 c2)] rfl rfl rfl rfl<|yN rfl<|zE<|zF<|zB<|yK 1 [0] [(14,vA (cProg y p1 c1 p2 c2))] ?_;obtain ⟨y1,hy1,hM⟩:=zC hM;refine yR (impl_ProgramInstances_ok y _ hy1 h2 h3) ?_;rintro imm01 hs2 v2 k2 le1 - ⟨v03,rfl,rfl,h4⟩ -;have h2:=h2.mono le1;have h3:=h3.mono le1;have hle:=hle.trans le1;obtain ⟨p3,c3,rfl⟩:=h4.form;refine zY [] [(4,vS p3 y1 c3)]<|zE<|zF<|zF ?_;obtain ⟨o0,ho0,hMc⟩:=zC hM;refine yT (fun imm' hs' m'=>∃ (t26:Bool),o0=t26∧imm01.le imm'∧hs'=[hB b (cProg y p1 c1 p2 c2)]∧m'=[(3,vP b 0),(4,vS p3 y1 c3),(26,.bool t26)]) ?_ ?_
 · have hle0:=hle;have hle:=iS imm01;refine zB<|yK 3 [0] [(17,vI (y1.length:Int)),(18,vA (cProg y p1 c1 p2 c2))] ?_;obtain ⟨y2,hy2,hM⟩:=zC ho0;refine yR (spec_ProgramInstances_ok y _ hy2 h2 h3) ?_;rintro imm03 hs2 v2 k2 le2 - ⟨v04,rfl,rfl,h5⟩ -;have h4:=h4.mono le2;have h2:=h2.mono le2;have h3:=h3.mono le2;have hle:=hle.trans le2;obtain ⟨p4,c4,rfl⟩:=h5.form;refine yK 7 [] [(22,.bool ((y1.length:Int) != (y2.length:Int)))] ?_;cases hc1:((y1.length:Int) != (y2.length:Int)) with
   | true =>
    have hM0:=zU hc1 hM
    try rw [hc1]
    exact zY [] [(26,.bool true)]<|yU [(3,vP b 0),(4,vS p3 y1 c3),(26,.bool true)]<|yA ⟨_,(zD hM0).symm,hle,rfl,rfl⟩
   | false =>
    have hM01:=zS hc1 hM
    try rw [hc1]
    refine yK 8 [0] [(23,vA (cProg y p1 c1 p2 c2))] ?_;obtain ⟨y3,hy3,hM⟩:=zC hM01;refine yR (impl_ProgramValid_ok y _ hy3 h2 h3) ?_;rintro imm04 hs2 v2 k2 le3 - ⟨v05,rfl,rfl,rfl⟩ -;have h4:=h4.mono le3;have h2:=h2.mono le3;have h3:=h3.mono le3;have hle:=hle.trans le3;exact zY [] [(26,.bool (!y3))]<|yU [(3,vP b 0),(4,vS p3 y1 c3),(26,.bool (!y3))]<|yA ⟨_,(zD hM).symm,hle,rfl,rfl⟩
 rintro imm02 hs2 m2 ⟨t26,heq,le4,rfl,rfl⟩;subst o0;have h4:=h4.mono le4;have h2:=h2.mono le4;have h3:=h3.mono le4;have hle:=hle.trans le4;refine zE<|yP hMc ?_ ?_
 · intro hc2 hM;refine zF<|zB<|yK 3 [0] [(28,vI (y1.length:Int)),(29,vA (cProg y p1 c1 p2 c2))] ?_;obtain ⟨y4,hy4,hM⟩:=zC hM;refine yR (spec_ProgramInstances_ok y _ hy4 h2 h3) ?_;rintro imm05 hs2 v2 k2 le5 - ⟨v06,rfl,rfl,h7⟩ -;have h2:=h2.mono le5;have h3:=h3.mono le5;have hle:=hle.trans le5;obtain ⟨p5,c5,rfl⟩:=h7.form;refine zY [] [(2,.bool ((y1.length:Int) == (y4.length:Int)))]<|zE<|yJ<|zQ ?_;obtain rfl:=zD hM;exact yQ ⟨_,_,(.tmp rfl ResV.nil),zV,⟨_,rfl,rfl,rfl⟩⟩
 intro hc2 hM;refine yD<|zE<|zF<|zB<|zY [] [(5,vI 0)]<|zE<|zF<|zF<|zB<|zY [] [(6,vI 0)]<|zE<|yB<|uA [(3,vP b 0),(4,vS p3 y1 c3),(5,vI 0),(6,vI 0)] ?_;obtain ⟨o01,ho01,hMl⟩:=zC hM;refine laws_FnInstanceCount_l1_ok y 0 0 o01 ho01 iR h4 h2 h3 (fun _ _ _ h=>h) (fun _ _ h=>h) ?_ ?_
 · intro imm07 n01 heq1 le7;subst o01;have h4:=h4.mono le7;have hle:=hle.trans le7;refine yC<|zE<|zF<|zB<|zY [] [(2,.bool (n01 == (y1.length:Int)))]<|zE<|yJ ?_;obtain rfl:=zD hMl;exact yQ ⟨_,_,(.tmp rfl ResV.nil),zV,⟨_,rfl,rfl,rfl⟩⟩
 intro r0 imm9 hs9 m9 heq9 le9 hrs9;subst heq9;refine yE<|zQ ?_;obtain rfl:=zD hMl;exact yQ hrs9
end Go.LN
namespace Go.LN
theorem l4Instances_l3_aux (p : zZ) (i : Int) (y : List (List Int)) (k0 : Int) (q : zP) (b : Nat) (h0 : VP q) (h1 : 0 ≤ i) (h2 : i < (p.Parts.length : Int)) (h3 : p.Parts[i.toNat]? = some q) (h4 : y.length ≤ 121) (h5 : ∀ q ∈ y, q.length ≤ 4) (h6 : 0 ≤ k0) (h7 : k0 < (y.length : Int)) : ∀ (k : Nat) (out : List yI) (s : Int), Tot (M.spec_l4Instances_l3 p i y k0 out s) ((q.Body.length : Int) - s < (k : Int) ∧ 0 < (k : Int) ∧ 0 ≤ s ∧ s ≤ (q.Body.length : Int) ∧ (out.length : Int) ≤ b + s ∧ b ≤ 100000 ∧ (∀ x ∈ out, InI p x)) (fun φ => ∀ r, r.length ≤ b + 4 → (∀ x ∈ r, InI p x) → φ r) := by
  obtain ⟨h01, h02, h03⟩ := h0
  intro k
  induction k with
  | zero => intro out s; exact ⟨fun h => absurd h.2.1 (by omega)⟩
  | succ k ih =>
    intro out s; refine ⟨?_⟩; rintro ⟨v0, v1, v2, v3, v4, v5, v6⟩ φ hk; unfold M.spec_l4Instances_l3
    refine Ok.idx_known h3 h1 ?_
    refine Ok.ite_dec (fun hs => ?_) fun hs => ?_
    · refine Ok.idx (by omega) (by omega) fun x hx _ => ?_
      have hx4 := h5 x hx
      refine Ok.app S ?_
      refine Ok.app (by simp only [List.length_append, List.length_cons, List.length_nil]; omega) ?_
      have hI : InI p (yI.mk i s ([] ++ x)) := InI.mk h1 h2 h3 v2 (by omega)
      have hW : W (s + 1) = s + 1 := sR (by omega) (by omega)
      rw [hW]
      exact Ok.go
    · exact Ok.go
theorem l4Instances_l3_tot (p : zZ) (i : Int) (y : List (List Int)) (k0 : Int) (q : zP) (b : Nat) (out : List yI) (s : Int) : Tot (M.spec_l4Instances_l3 p i y k0 out s) (VP q ∧ 0 ≤ i ∧ i < (p.Parts.length : Int) ∧ p.Parts[i.toNat]? = some q ∧ y.length ≤ 121 ∧ (∀ q ∈ y, q.length ≤ 4) ∧ 0 ≤ k0 ∧ k0 < (y.length : Int) ∧ 0 ≤ s ∧ s ≤ (q.Body.length : Int) ∧ (out.length : Int) ≤ b + s ∧ b ≤ 100000 ∧ (∀ x ∈ out, InI p x)) (fun φ => ∀ r, r.length ≤ b + 4 → (∀ x ∈ r, InI p x) → φ r) := ⟨by
  rintro ⟨h0, h1, h2, h3, h4, h5, h6, h7, v0, v1, v2, v3, v4⟩ φ hk
  exact (l4Instances_l3_aux p i y k0 q b h0 h1 h2 h3 h4 h5 h6 h7 (((q.Body.length : Int) - s).toNat + 1) out s).ok ⟨by omega, by omega, v0, v1, v2, v3, v4⟩ φ hk⟩
theorem l4Instances_l2_aux (p : zZ) (i : Int) (y : List (List Int)) (q : zP) (b : Nat) (h0 : VP q) (h1 : 0 ≤ i) (h2 : i < (p.Parts.length : Int)) (h3 : p.Parts[i.toNat]? = some q) (h4 : y.length ≤ 121) (h5 : ∀ q ∈ y, q.length ≤ 4) : ∀ (k : Nat) (out : List yI) (k0 : Int), Tot (M.spec_l4Instances_l2 p i y out k0) ((y.length : Int) - k0 < (k : Int) ∧ 0 < (k : Int) ∧ 0 ≤ k0 ∧ k0 ≤ (y.length : Int) ∧ (out.length : Int) ≤ b + 4 * k0 ∧ b ≤ 10000 ∧ (∀ x ∈ out, InI p x)) (fun φ => ∀ r, r.length ≤ b + 484 → (∀ x ∈ r, InI p x) → φ r) := by
  intro k
  induction k with
  | zero => intro out k0; exact ⟨fun h => absurd h.2.1 (by omega)⟩
  | succ k ih =>
    intro out k0; refine ⟨?_⟩; rintro ⟨v0, v1, v2, v3, v4, v5, v6⟩ φ hk; unfold M.spec_l4Instances_l2
    have tl := fun o kk => l4Instances_l3_tot p i y kk q o.length o 0
    exact Ok.go
theorem l4Instances_l2_tot (p : zZ) (i : Int) (y : List (List Int)) (q : zP) (b : Nat) (out : List yI) (k0 : Int) : Tot (M.spec_l4Instances_l2 p i y out k0) (VP q ∧ 0 ≤ i ∧ i < (p.Parts.length : Int) ∧ p.Parts[i.toNat]? = some q ∧ y.length ≤ 121 ∧ (∀ q ∈ y, q.length ≤ 4) ∧ 0 ≤ k0 ∧ k0 ≤ (y.length : Int) ∧ (out.length : Int) ≤ b + 4 * k0 ∧ b ≤ 10000 ∧ (∀ x ∈ out, InI p x)) (fun φ => ∀ r, r.length ≤ b + 484 → (∀ x ∈ r, InI p x) → φ r) := ⟨by
  rintro ⟨h0, h1, h2, h3, h4, h5, v0, v1, v2, v3, v4⟩ φ hk
  exact (l4Instances_l2_aux p i y q b h0 h1 h2 h3 h4 h5 (((y.length : Int) - k0).toNat + 1) out k0).ok ⟨by omega, by omega, v0, v1, v2, v3, v4⟩ φ hk⟩
theorem l4Instances_l1_aux (p : zZ) (h0 : SG 1000 p) (h1 : VG p) : ∀ (k : Nat) (out : List yI) (i : Int), Tot (M.spec_l4Instances_l1 p out i) ((p.Parts.length : Int) - i < (k : Int) ∧ 0 < (k : Int) ∧ 0 ≤ i ∧ i ≤ (p.Parts.length : Int) ∧ (out.length : Int) ≤ 484 * i ∧ (∀ x ∈ out, InI p x)) (fun φ => ∀ r, r.length ≤ 2000 → (∀ x ∈ r, InI p x) → φ r) := by
  obtain ⟨⟨h00, h01⟩, h02, h03⟩ := id h0; obtain ⟨h10, h11, h12⟩ := id h1
  intro k
  induction k with
  | zero => intro out i; exact ⟨fun h => absurd h.2.1 (by omega)⟩
  | succ k ih =>
    intro out i; refine ⟨?_⟩; rintro ⟨v0, v1, v2, v3, v4, v5⟩ φ hk; unfold M.spec_l4Instances_l1
    refine Ok.ite_dec (fun hs => ?_) fun hs => ?_
    · refine Ok.idx (by omega) (by omega) fun q hq hqi => ?_
      have tl := fun y o => l4Instances_l2_tot p i y q o.length o 0
      have s1 := (h03 q hq).1
      obtain ⟨s2, s3, s4⟩ := h12 q hq
      have s5 : VP q := ⟨s2, s3, s4⟩
      exact Ok.go
    · exact Ok.go
instance l4Instances_l1_tot (p : zZ) (out : List yI) (i : Int) : Tot (M.spec_l4Instances_l1 p out i) (SG 1000 p ∧ VG p ∧ 0 ≤ i ∧ i ≤ (p.Parts.length : Int) ∧ (out.length : Int) ≤ 484 * i ∧ (∀ x ∈ out, InI p x)) (fun φ => ∀ r, r.length ≤ 2000 → (∀ x ∈ r, InI p x) → φ r) := ⟨by
  rintro ⟨h0, h1, v0, v1, v2, v3⟩ φ hk
  exact (l4Instances_l1_aux p h0 h1 (((p.Parts.length : Int) - i).toNat + 1) out i).ok ⟨by omega, by omega, v0, v1, v2, v3⟩ φ hk⟩
instance l4Instances_tot (p : zZ) : Tot (M.spec_l4Instances p) (SG 1000 p ∧ VG p) (fun φ => ∀ r, r.length ≤ 2000 → (∀ x ∈ r, InI p x) → φ r) := ⟨by
  rintro ⟨h0, h1⟩ φ hk
  unfold M.spec_l4Instances
  exact Ok.go⟩
end Go.LN
namespace Go.LN
theorem implValidP (P : zZ) (h : BG P) : M.impl_ProgramValid P = some (validP P) := by
  unfold M.impl_ProgramValid validP
  rw [implInstances P h]
  cases progB P <;> rfl
theorem implInstP (P : zZ) (h : BG P) : M.impl_ProgramInstances P = some (if validP P then progI P else []) := by
  unfold M.impl_ProgramInstances validP
  rw [implInstances P h]
  cases progB P with
  | false => rfl
  | true => cases hd : decide ((progI P).length ≤ 120) <;> simp [hd]
end Go.LN
namespace Go.LN
theorem drawProg (code : List UInt8) : Ok (M.spec_DrawProgramValid code) (fun y => BG y ∧ AR y.Arrays) := by
  unfold M.spec_DrawProgramValid
  refine Ok.call (zHm code) trivial fun s hs => Ok.call (zIJ s) ⟨by omega, by omega⟩ fun a t g1 g2 g3 => ?_
  refine Ok.bind (mut4 t a g1.dp (by omega) (by omega)) fun p hp => ?_
  obtain ⟨p1, p2⟩ := p
  exact Ok.pure hp.1
end Go.LN
