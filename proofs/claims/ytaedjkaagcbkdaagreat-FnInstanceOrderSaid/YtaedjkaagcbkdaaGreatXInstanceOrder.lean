/- Helper of the proof (see the last text). -/
import Derived.Test.YtaedjkaagcbkdaaGreatLnA
import Derived.Test.YtaedjkaagcbkdaaGreatLnB
import Derived.Test.YtaedjkaagcbkdaaGreatLnC
import Derived.Test.YtaedjkaagcbkdaaGreatLnD
import Derived.Test.YtaedjkaagcbkdaaGreatLnE
import Derived.Test.YtaedjkaagcbkdaaGreatLnF
import Derived.Test.YtaedjkaagcbkdaaGreatLnG
import Derived.Test.YtaedjkaagcbkdaaGreatLnH
import Derived.Test.YtaedjkaagcbkdaaGreatLnI
import Derived.Test.YtaedjkaagcbkdaaGreatLnJ
import Derived.Test.YtaedjkaagcbkdaaGreatLnK
import Derived.Test.YtaedjkaagcbkdaaGreatLnL
import Derived.Test.YtaedjkaagcbkdaaGreatLnM
import Derived.Test.YtaedjkaagcbkdaaGreatLnN
import Derived.Test.YtaedjkaagcbkdaaGreatLnO
import Derived.Test.YtaedjkaagcbkdaaGreatLnP
import Derived.Test.YtaedjkaagcbkdaaGreatLnQ
import Derived.Test.YtaedjkaagcbkdaaGreatLnTZ
import Derived.Test.YtaedjkaagcbkdaaGreatLnUZ
import Derived.Test.YtaedjkaagcbkdaaGreatLnV
import Derived.Test.YtaedjkaagcbkdaaGreatLnSZ
import Derived.Test.YtaedjkaagcbkdaaGreatLnW
import Derived.Test.YtaedjkaagcbkdaaGreatLnX
import Derived.Test.YtaedjkaagcbkdaaGreatLnY
import Derived.Test.YtaedjkaagcbkdaaGreatTryzShelf
import Derived.Test.YtaedjkaagcbkdaaGreatHM1
import Derived.Test.YtaedjkaagcbkdaaGreatHM2
import Derived.Test.YtaedjkaagcbkdaaGreatHM3
import Derived.Test.YtaedjkaagcbkdaaGreatHM4
import Derived.Test.YtaedjkaagcbkdaaGreatHM5
import Derived.Test.YtaedjkaagcbkdaaGreatHM6
import Derived.Test.YtaedjkaagcbkdaaGreatHM7
import Derived.Test.YtaedjkaagcbkdaaGreatQT
import Derived.Test.YtaedjkaagcbkdaaGreatQZ
import Derived.Test.YtaedjkaagcbkdaaGreatVB1
import Derived.Test.YtaedjkaagcbkdaaGreatVB2
import Derived.Test.YtaedjkaagcbkdaaGreatVB3
import Derived.Test.YtaedjkaagcbkdaaGreatVB4
import Derived.Test.YtaedjkaagcbkdaaGreatVB5
import Derived.Test.YtaedjkaagcbkdaaGreatVB6
import Derived.Test.YtaedjkaagcbkdaaGreatVB7
import Derived.Test.YtaedjkaagcbkdaaGreatVB8
import Derived.Test.YtaedjkaagcbkdaaGreatVC1
import Derived.Test.YtaedjkaagcbkdaaGreatVC2
import Derived.Test.YtaedjkaagcbkdaaGreatVC3
import Derived.Test.YtaedjkaagcbkdaaGreatLnR
namespace Go.LN
set_option linter.unusedVariables false
set_option linter.unusedSimpArgs false
theorem impl_Instance_open {i : Imm} {cs : List Value} {s : yI} (h : Rp.rep i cs s) : ∃ v0 : Value, cs = [.int .i64 s.Part, .int .i64 s.Stmt, v0] ∧ SL i v0 s.Point := h
end Go.LN
namespace Go.LN
section
variable {P : Program} {n : Nat} {B : Base} {ops : List Oper} {Q : Exit → Act → World → Prop} {pc : Nat} {imm : Imm} {hs : List HA} {m : FM} {d : Nat}
  {ty : TypeId} {pos : String} {after : Array Edge} {g : Option (Nat × Bool)}
end
abbrev cInst (x : yI) (p0 : Option Addr) (c0 : Nat) : List Value := [vI x.Part, vI x.Stmt, vS p0 x.Point c0]
end Go.LN
namespace Go.LN
open Go.Proofs
set_option maxRecDepth 20000
def spec_DrawProgramValid_post (r:zZ):KT:=fun kk imm' hs' v=>
  ∃ v0,hs'=[]∧v=tupV [v0]∧(∃ cs,v0=.agg ⟨cs⟩∧Rp.rep imm' cs r)
def M.spec_DrawProgramValid (code:(List UInt8)):Option (zZ):=do
 let y←nW code
 let (y2,y3)←mW y
 let (y5,y6)←rV y3 y2
 pure (id y5)
theorem spec_DrawProgramValid_ok:∀ (code:(List UInt8)) r,M.spec_DrawProgramValid code=some r→∀ {imm:Imm}{p c},(S4 imm p code c)→Ret Tryz.prog 49 [vS p code c] imm [] (spec_DrawProgramValid_post  r):=by
 intro code r hM imm p c h;unfold M.spec_DrawProgramValid at hM;refine yF (fn:=Tryz.f49) (c:=(bodyOf Tryz.f49)) Tryz.func49 rfl rfl ?_;rintro B - -;have hle:=iS imm;refine zF<|zB<|uJ zTwo ?_;intro b hb;refine yN rfl<|zE<|zF<|zB<|yK 1 [] [(4,vS p code c)] ?_;obtain ⟨y,hy,hM⟩:=zC hM;refine yR (zGV code _ hy h) ?_;rintro imm0 hs2 v2 k2 le - ⟨b1,p1,c1,rfl,rfl,h1⟩ -;have hle:=hle.trans le;refine zY [] [(3,vP b1 0)]<|zE<|zF<|zB<|yK 2 [] [(6,vP b1 0),(7,vP b1 0)] ?_;obtain ⟨⟨y2,y3⟩,hy1,hM⟩:=zC hM;refine tX [hB b1 (cRd y p1 c1)] [hB b zTwo] (zGp y _ hy1 h1) ?_;rintro imm01 hs2 v2 k2 le1 - ⟨v0,kk,rfl,rfl,⟨cs,rfl,h2⟩,h3⟩ -;have hle:=hle.trans le1;obtain ⟨v01,v02,rfl,h4,h5⟩:=zFp h2;obtain ⟨p2,c2,rfl⟩:=h4.form;obtain ⟨p3,c3,rfl⟩:=h5.form;obtain ⟨v03,rfl,h6⟩:=yH h3;obtain ⟨p4,c4,rfl⟩:=h6.form;obtain ⟨⟨y5,y6⟩,hy2,hM⟩:=zC hM;refine tX [hB b1 (cRd y3 p4 c4)] [hB b zTwo] (zGJ y3 y2 _ hy2 h6 h4 h5) ?_;rintro imm02 hs2 v2 k2 le2 - ⟨v04,kk1,rfl,rfl,⟨cs1,rfl,h7⟩,h8⟩ -;have hle:=hle.trans le2;obtain ⟨v05,v06,rfl,h9,h10⟩:=zFp h7;obtain ⟨p5,c5,rfl⟩:=h9.form;obtain ⟨p6,c6,rfl⟩:=h10.form;obtain ⟨v07,rfl,h11⟩:=yH h8;obtain ⟨p7,c7,rfl⟩:=h11.form;refine xI 1 (cProg y5 p5 c5 p6 c6) [hB b1 (cRd y6 p7 c7),hB b (cProg y5 p5 c5 p6 c6)] rfl rfl rfl rfl<|yN rfl<|zE<|yJ ?_;obtain rfl:=zD hM;exact yQ ⟨_,_,(.cell 1 rfl rfl (by kernel_rfl) ResV.nil),zV,⟨_,rfl,rfl,⟨_,rfl,(oU ⟨_,_,rfl,h9,h10⟩)⟩⟩⟩
def spec_DrawProgramInstances_post (r:zZ):KT:=fun kk imm' hs' v=>
  ∃ v0,hs'=[]∧v=tupV [v0]∧(∃ cs,v0=.agg ⟨cs⟩∧Rp.rep imm' cs r)
def M.spec_DrawProgramInstances (code:(List UInt8)):Option (zZ):=do
 let y←M.spec_DrawProgramValid code
 pure (id y)
theorem spec_DrawProgramInstances_ok:∀ (code:(List UInt8)) r,M.spec_DrawProgramInstances code=some r→∀ {imm:Imm}{p c},(S4 imm p code c)→Ret Tryz.prog 15 [vS p code c] imm [] (spec_DrawProgramInstances_post  r):=by
 intro code r hM imm p c h;unfold M.spec_DrawProgramInstances at hM;refine yF (fn:=Tryz.f15) (c:=(bodyOf Tryz.f15)) Tryz.func15 rfl rfl ?_;rintro B - -;have hle:=iS imm;refine zF<|zB<|uJ zTwo ?_;intro b hb;refine yN rfl<|zE<|zF<|zB<|yK 1 [] [(3,vS p code c)] ?_;obtain ⟨y,hy,hM⟩:=zC hM;refine yR (spec_DrawProgramValid_ok code _ hy h) ?_;rintro imm0 hs2 v2 k2 le - ⟨v0,rfl,rfl,⟨cs,rfl,h1⟩⟩ -;have hle:=hle.trans le;obtain ⟨v01,v02,rfl,h2,h3⟩:=zFp h1;obtain ⟨p1,c1,rfl⟩:=h2.form;obtain ⟨p2,c2,rfl⟩:=h3.form;refine xI 0 (cProg y p1 c1 p2 c2) [hB b (cProg y p1 c1 p2 c2)] rfl rfl rfl rfl<|yN rfl<|zE<|yJ ?_;obtain rfl:=zD hM;exact yQ ⟨_,_,(.cell 0 rfl rfl (by kernel_rfl) ResV.nil),zV,⟨_,rfl,rfl,⟨_,rfl,(oU ⟨_,_,rfl,h2,h3⟩)⟩⟩⟩
end Go.LN
namespace Go.LN
open Go.Proofs
set_option maxRecDepth 20000
def impl_ProgramInstances_post (r:(List yI)):KT:=fun kk imm' hs' v=>
  ∃ v0,hs'=[]∧v=tupV [v0]∧SL imm' v0 r
def M.impl_ProgramInstances (p:zZ):Option ((List yI)):=do
 let (y1,y2)←rQ p
 if (!y2) then
  pure ([]:List yI)
 else
  pure (id y1)
theorem impl_ProgramInstances_ok:∀ (p:zZ) r,M.impl_ProgramInstances p=some r→∀ {imm:Imm}{p1 c p2 c1},(S4 imm p1 p.Arrays c)→(S4 imm p2 p.Parts c1)→Ret Tryz.prog 16 [vA (cProg p p1 c p2 c1)] imm [] (impl_ProgramInstances_post  r):=by
 intro p r hM imm p1 c p2 c1 h h1;unfold M.impl_ProgramInstances at hM;refine yF (fn:=Tryz.f16) (c:=(bodyOf Tryz.f16)) Tryz.func16 rfl rfl ?_;rintro B - -;have hle:=iS imm;refine zF<|zB<|sD (cProg p p1 c p2 c1) ?_;intro b hb;refine zY [] []<|zE<|zF<|zB<|yK 1 [0] [(6,vA (cProg p p1 c p2 c1))] ?_;obtain ⟨⟨y1,y2⟩,hy,hM⟩:=zC hM;refine yR (zDc p _ hy h h1) ?_;rintro imm0 hs2 v2 k2 le - ⟨v0,v01,rfl,rfl,h2,rfl⟩ -;have h:=h.mono le;have h1:=h1.mono le;have hle:=hle.trans le;obtain ⟨p3,c2,rfl⟩:=h2.form;refine zY [] [(3,vS p3 y1 c2),(4,.bool y2)]<|zE<|zF<|zF<|zB<|zY [] [(11,.bool (!y2))]<|zE<|yP hM ?_ ?_
 · intro hc hM;refine zF<|zB<|zY [] [(2,z0)]<|zE<|yJ<|zQ ?_;obtain rfl:=zD hM;exact yQ ⟨_,_,(.tmp rfl ResV.nil),zV,⟨_,rfl,rfl,(SL.nil _)⟩⟩
 intro hc hM;refine yD<|zE<|zF<|zB<|zY [] [(2,vS p3 y1 c2)]<|zE<|yJ ?_;obtain rfl:=zD hM;exact yQ ⟨_,_,(.tmp rfl ResV.nil),zV,⟨_,rfl,rfl,h2⟩⟩
def spec_l4Instances_post (r:(List yI)):KT:=fun kk imm' hs' v=>
  ∃ v0,hs'=[]∧v=tupV [v0]∧SL imm' v0 r
def M.spec_l4Instances_l3 (p:zZ) (i:Int) (y:(List (List Int))) (k0:Int) (out4:List yI) (s:Int):Option (List yI):=do
 let x1←idx p.Parts i
 if (decide (s < (x1.Body.length:Int))) then
  let x2←idx y k0
  let l←app 8 ([]:List Int) x2
  let out6←app 40 out4 ([(yI.mk i s l)]:List yI)
  M.spec_l4Instances_l3 p i y k0 out6 (W (s + 1))
 else
  pure (id out4)
 partial_fixpoint
theorem spec_l4Instances_l3_ok (p:zZ) (i:Int) (y:(List (List Int))) (k0:Int):∀ (out4:List yI) (s:Int) (o:List yI),M.spec_l4Instances_l3 p i y k0 out4 s=some o→∀ {B}{imm0 imm:Imm}{Q p1 c p2 c1}{b:Nat}{p7 c6 cs2 p10 c9 cs5},imm0.le imm→(RL imm cs2 y)→(S4 imm p1 p.Arrays c)→(S4 imm p2 p.Parts c1)→(RL imm cs5 out4)→(∀ l a w,¬Q (.goto l) a w)→(∀ a w,¬Q .outgrown a w)→(∀ (imm':Imm) (out5:List yI) (p11:Option Addr) (c10:Nat) (cs6:List Value),o=out5→imm0.le imm'→(RL imm' cs6 out5)→T 54 B Q (.exit 4) imm' [hO (List Int) (vS p7 y c6) cs2,hO yI (vS p11 out5 c10) cs6,hB b (cProg p p1 c p2 c1)] [(1,vP b 0),(3,vS p11 out5 c10),(4,vI i),(5,vS p7 y c6),(6,vI k0)])→J Tryz.prog 54 B (nav (bodyOf Tryz.f52) [1,1,0,1,0,0,1,0,0,1,1,0,0,1,0,0,1,0]) Q imm [hO (List Int) (vS p7 y c6) cs2,hO yI (vS p10 out4 c9) cs5,hB b (cProg p p1 c p2 c1)] [(1,vP b 0),(3,vS p10 out4 c9),(4,vI i),(5,vS p7 y c6),(6,vI k0),(7,vI s)]:=by
 refine M.spec_l4Instances_l3.partial_correctness p i y k0 _ ?_;intro self ih out4 s o hM B imm0 imm Q p1 c p2 c1 b p7 c6 cs2 p10 c9 cs5 hle h8 h h1 h11 hg ho hx;refine xF hg ho<|zF<|zF<|zB<|yK 4 [2] [(30,vI s),(32,vS p2 p.Parts c1),(33,vI i)] ?_;obtain ⟨x1,hy2,hM⟩:=zC hM;refine wJ rfl rfl h1 hy2 ?_;intro ad1 ccs1 hat1 hrep1;obtain ⟨v02,v03,rfl,h13,h14⟩:=uM hrep1;obtain ⟨p12,c11,rfl⟩:=h13.form;obtain ⟨p13,c12,rfl⟩:=h14.form;refine yK 6 [] [(35,.pointer (some (ad1.add 1)))]<|xX 1 hat1 [vS p13 x1.Body c12] (vS p13 x1.Body c12) rfl<|zY [] [(38,.bool (decide (s < (x1.Body.length:Int))))]<|zE<|yP hM ?_ ?_
 · intro hc2 hM;refine yD<|zE<|zF<|yB<|zB<|yK 3 [] [(41,vS p10 out4 c9),(42,vI i),(43,vI s)]<|xY [] Int ?_;intro b3 hb3;have h15:RL imm [] ([]:List Int):=rfl;refine yK 6 [] [(45,vS p7 y c6),(46,vI k0)] ?_;obtain ⟨x2,hy3,hM⟩:=zC hM;refine nH 1 rfl rfl rfl h8 hy3 ?_;intro ad2 ccs2 hat2 hcc hrep2;obtain ⟨v04,rfl,h16⟩:=hrep2;obtain ⟨p14,c13,rfl⟩:=h16.form;refine zCz 1 0 hat2 hcc [vS p14 x2 c13] (vS p14 x2 c13) rfl rfl ?_;obtain ⟨ccs3,k01,k02⟩:=h16;have h16:SL imm (vS p14 x2 c13) x2:=⟨_,k01,k02⟩;obtain ⟨l,hy4,hM⟩:=zC hM;refine qS 3 1 0 rfl rfl rfl h15 (.inl k01) k02 hy4 ?_;intro p15 c14 cs7 h17;refine qC (zL [0,1,2,3] (hs':=[hO Int (vS p15 l c14) cs7,hO (List Int) (vS p7 y c6) cs2,hO yI (vS p10 out4 c9) cs5,hB b (cProg p p1 c p2 c1)]) rfl (by decide))<|yK 10 [] [(50,vA [vI i,vI s,vS p15 l c14])]<|yL 0 rfl ?_;intro imm01 le1 hl0;have h18:=SL.of_frozen hl0 le1 h17;have h8:=iM le1 h8;have h11:=iM le1 h11;have h:=h.mono le1;have h1:=h1.mono le1;have hle:=hle.trans le1;refine xY [vI i,vI s,vS p15 l c14] yI ?_;intro b4 hb4;have h19:RL imm01 [vI i,vI s,vS p15 l c14] ([(yI.mk i s l)]:List yI):=⟨[vI i,vI s,vS p15 l c14],_,rfl,rfl,(zAT ⟨_,rfl,h18⟩),rfl⟩;obtain ⟨out6,hy5,hM⟩:=zC hM;refine qS 59 3 2 rfl rfl rfl h11 (.inr ⟨0,rfl⟩) h19 hy5 ?_;intro p16 c15 cs8 h20;exact qC (zL [1,2,3] (hs':=[hO (List Int) (vS p7 y c6) cs2,hO yI (vS p16 out6 c15) cs8,hB b (cProg p p1 c p2 c1)]) rfl (by decide))<|zY [] [(3,vS p16 out6 c15)]<|zW<|zE<|zB<|zY [] [(7,vI (W (s + 1)))]<|xG<|uA [(1,vP b 0),(3,vS p16 out6 c15),(4,vI i),(5,vS p7 y c6),(6,vI k0),(7,vI (W (s + 1)))]<|ih out6 (W (s + 1)) _ hM hle h8 h h1 h20 hg ho hx
 intro hc2 hM;exact xB<|zT<|zT<|yU [(1,vP b 0),(3,vS p10 out4 c9),(4,vI i),(5,vS p7 y c6),(6,vI k0)]<|hx _ _ _ _ _ (zD hM).symm hle h11
def M.spec_l4Instances_l2 (p:zZ) (i:Int) (y:(List (List Int))) (out2:List yI) (k0:Int):Option (List yI):=do
 if (decide (k0 < (y.length:Int))) then
  let out5←M.spec_l4Instances_l3 p i y k0 out2 0
  M.spec_l4Instances_l2 p i y out5 (W (k0 + 1))
 else
  pure (id out2)
 partial_fixpoint
theorem spec_l4Instances_l2_ok (p:zZ) (i:Int) (y:(List (List Int))):∀ (out2:List yI) (k0:Int) (o:List yI),M.spec_l4Instances_l2 p i y out2 k0=some o→∀ {B}{imm0 imm:Imm}{Q p1 c p2 c1}{b:Nat}{p7 c6 cs2 p8 c7 cs3},imm0.le imm→(RL imm cs2 y)→(S4 imm p1 p.Arrays c)→(S4 imm p2 p.Parts c1)→(RL imm cs3 out2)→(∀ l a w,¬Q (.goto l) a w)→(∀ a w,¬Q .outgrown a w)→(∀ (imm':Imm) (out3:List yI) (p9:Option Addr) (c8:Nat) (cs4:List Value),o=out3→imm0.le imm'→(RL imm' cs4 out3)→T 54 B Q (.exit 2) imm' [hO yI (vS p9 out3 c8) cs4,hB b (cProg p p1 c p2 c1)] [(1,vP b 0),(3,vS p9 out3 c8),(4,vI i)])→J Tryz.prog 54 B (nav (bodyOf Tryz.f52) [1,1,0,1,0,0,1,0,0,1,1,0]) Q imm [hO (List Int) (vS p7 y c6) cs2,hO yI (vS p8 out2 c7) cs3,hB b (cProg p p1 c p2 c1)] [(1,vP b 0),(3,vS p8 out2 c7),(4,vI i),(5,vS p7 y c6),(6,vI k0)]:=by
 refine M.spec_l4Instances_l2.partial_correctness p i y _ ?_;intro self ih out2 k0 o hM B imm0 imm Q p1 c p2 c1 b p7 c6 cs2 p8 c7 cs3 hle h8 h h1 h9 hg ho hx;refine xF hg ho<|zF<|zF<|zB<|zY [] [(27,.bool (decide (k0 < (y.length:Int))))]<|zE<|yP hM ?_ ?_
 · intro hc1 hM;refine yD<|zE<|zF<|yB<|zF<|zB<|zY [] [(7,vI 0)]<|zE<|yB<|uA [(1,vP b 0),(3,vS p8 out2 c7),(4,vI i),(5,vS p7 y c6),(6,vI k0),(7,vI 0)] ?_;obtain ⟨o0,ho0,hMl⟩:=zC hM;refine spec_l4Instances_l3_ok p i y k0 out2 0 o0 ho0 iR h8 h h1 h9 (fun _ _ _ h=>hg _ _ _ h) (fun _ _ h=>ho _ _ h) ?_;intro imm02 out5 p11 c10 cs6 heq le2 h12;subst o0;have h8:=iM le2 h8;have h:=h.mono le2;have h1:=h1.mono le2;have hle:=hle.trans le2;exact yC<|zW<|zE<|zB<|zY [] [(6,vI (W (k0 + 1)))]<|xG<|uA [(1,vP b 0),(3,vS p11 out5 c10),(4,vI i),(5,vS p7 y c6),(6,vI (W (k0 + 1)))]<|ih out5 (W (k0 + 1)) _ hMl hle h8 h h1 h12 hg ho hx
 intro hc1 hM;exact xB<|zT<|zT<|wE (zL [1,2] rfl (by decide))<|yU [(1,vP b 0),(3,vS p8 out2 c7),(4,vI i)]<|hx _ _ _ _ _ (zD hM).symm hle h9
def M.spec_l4Instances_l1 (p:zZ) (out:List yI) (i:Int):Option (List yI):=do
 if (decide (i < (p.Parts.length:Int))) then
  let x←idx p.Parts i
  let y←wX ([]:List (List Int)) x.Nest ([]:List Int)
  let out3←M.spec_l4Instances_l2 p i y out 0
  M.spec_l4Instances_l1 p out3 (W (i + 1))
 else
  pure (id out)
 partial_fixpoint
theorem spec_l4Instances_l1_ok (p:zZ):∀ (out:List yI) (i:Int) (o:List yI),M.spec_l4Instances_l1 p out i=some o→∀ {B}{imm0 imm:Imm}{Q p1 c p2 c1}{b:Nat}{p3 c2 cs},imm0.le imm→(S4 imm p1 p.Arrays c)→(S4 imm p2 p.Parts c1)→(RL imm cs out)→(∀ l a w,¬Q (.goto l) a w)→(∀ a w,¬Q .outgrown a w)→(∀ (imm':Imm) (out1:List yI) (p4:Option Addr) (c3:Nat) (cs1:List Value),o=out1→imm0.le imm'→(RL imm' cs1 out1)→T 54 B Q (.exit 0) imm' [hO yI (vS p4 out1 c3) cs1] [(3,vS p4 out1 c3)])→J Tryz.prog 54 B (nav (bodyOf Tryz.f52) [1,1,0,1,0]) Q imm [hO yI (vS p3 out c2) cs,hB b (cProg p p1 c p2 c1)] [(1,vP b 0),(3,vS p3 out c2),(4,vI i)]:=by
 refine M.spec_l4Instances_l1.partial_correctness p _ ?_;intro self ih out i o hM B imm0 imm Q p1 c p2 c1 b p3 c2 cs hle h h1 h3 hg ho hx;refine xF hg ho<|zF<|zF<|zB<|zY [1] [(13,.bool (decide (i < (p.Parts.length:Int))))]<|zE<|yP hM ?_ ?_
 · intro hc hM;refine yD<|zE<|zF<|yB<|zF<|zB<|xY [] (List Int) ?_;intro b2 hb2;have h5:RL imm [] ([]:List (List Int)):=rfl;refine yK 4 [2] [(18,vS p2 p.Parts c1),(19,vI i)] ?_;obtain ⟨x,hy,hM⟩:=zC hM;refine wJ rfl rfl h1 hy ?_;intro ad ccs hat hrep;obtain ⟨v0,v01,rfl,h6,h7⟩:=uM hrep;obtain ⟨p5,c4,rfl⟩:=h6.form;obtain ⟨p6,c5,rfl⟩:=h7.form;refine yK 6 [] [(21,.pointer (some ad))]<|xX 0 hat [vS p5 x.Nest c4] (vS p5 x.Nest c4) rfl ?_;obtain ⟨y,hy1,hM⟩:=zC hM;refine tX [hO (List Int) (vS (some ⟨b2,0,none⟩) ([]:List (List Int)) 0) []] [hO yI (vS p3 out c2) cs,hB b (cProg p p1 c p2 c1)] (zBt ([]:List (List Int)) x.Nest ([]:List Int) _ hy1 h5 h6 (SL.nil _)) ?_;rintro imm0 hs2 v2 k2 le - ⟨p7,c6,cs2,rfl,rfl,h8⟩ -;have h3:=iM le h3;have h:=h.mono le;have h1:=h1.mono le;have hle:=hle.trans le;refine zY [] [(5,vS p7 y c6)]<|zE<|zF<|zB<|zY [] [(6,vI 0)]<|zE<|yB<|uA [(1,vP b 0),(3,vS p3 out c2),(4,vI i),(5,vS p7 y c6),(6,vI 0)] ?_;obtain ⟨o01,ho01,hMl1⟩:=zC hM;refine spec_l4Instances_l2_ok p i y out 0 o01 ho01 iR h8 h h1 h3 (fun _ _ _ h=>hg _ _ _ h) (fun _ _ h=>ho _ _ h) ?_;intro imm03 out3 p9 c8 cs4 heq1 le3 h10;subst o01;have h:=h.mono le3;have h1:=h1.mono le3;have hle:=hle.trans le3;exact yC<|zW<|zE<|zB<|zY [] [(4,vI (W (i + 1)))]<|xG<|uA [(1,vP b 0),(3,vS p9 out3 c8),(4,vI (W (i + 1)))]<|ih out3 (W (i + 1)) _ hMl1 hle h h1 h10 hg ho hx
 intro hc hM;exact xB<|zT<|zT<|wE (zL [0] rfl (by decide))<|yU [(3,vS p3 out c2)]<|hx _ _ _ _ _ (zD hM).symm hle h3
def M.spec_l4Instances (p:zZ):Option ((List yI)):=do
 let out1←M.spec_l4Instances_l1 p ([]:List yI) 0
 pure (id out1)
theorem spec_l4Instances_ok:∀ (p:zZ) r,M.spec_l4Instances p=some r→∀ {imm:Imm}{p1 c p2 c1},(S4 imm p1 p.Arrays c)→(S4 imm p2 p.Parts c1)→Ret Tryz.prog 52 [vA (cProg p p1 c p2 c1)] imm [] (spec_l4Instances_post  r):=by
 intro p r hM imm p1 c p2 c1 h h1;unfold M.spec_l4Instances at hM;refine yF (fn:=Tryz.f52) (c:=(bodyOf Tryz.f52)) Tryz.func52 rfl rfl ?_;rintro B - -;have hle:=iS imm;refine zF<|zB<|sD (cProg p p1 c p2 c1) ?_;intro b hb;refine zY [] []<|zE<|zF<|zB<|xY [] yI ?_;intro b1 hb1;have h2:RL imm [] ([]:List yI):=rfl;refine zY [] [(3,vS (some ⟨b1,0,none⟩) ([]:List yI) 0)]<|zE<|zF<|zF<|zB<|zY [] [(4,vI 0)]<|zE<|yB<|uA [(1,vP b 0),(3,vS (some ⟨b1,0,none⟩) ([]:List yI) 0),(4,vI 0)] ?_;obtain ⟨o02,ho02,hMl2⟩:=zC hM;refine spec_l4Instances_l1_ok p ([]:List yI) 0 o02 ho02 iR h h1 h2 (fun _ _ _ h=>h) (fun _ _ h=>h) ?_;intro imm04 out1 p4 c3 cs1 heq2 le4 h4;subst o02;have hle:=hle.trans le4;refine yC<|zE<|zF<|zB<|zY [] [(2,vS p4 out1 c3)]<|zE<|yJ<|xL 0 rfl ?_;intro imm05 le5 hl01;have h21:=SL.of_frozen hl01 le5 h4;have hle:=hle.trans le5;obtain rfl:=zD hMl2;exact yQ ⟨_,_,(.tmp rfl ResV.nil),zV,⟨_,rfl,rfl,h21⟩⟩
def spec_ProgramInstances_post (r:(List yI)):KT:=fun kk imm' hs' v=>
  ∃ v0,hs'=[]∧v=tupV [v0]∧SL imm' v0 r
def M.spec_ProgramInstances (p:zZ):Option ((List yI)):=do
 let y←tE p
 if (!y) then
  pure ([]:List yI)
 else
  let y1←M.spec_l4Instances p
  pure (id y1)
theorem spec_ProgramInstances_ok:∀ (p:zZ) r,M.spec_ProgramInstances p=some r→∀ {imm:Imm}{p1 c p2 c1},(S4 imm p1 p.Arrays c)→(S4 imm p2 p.Parts c1)→Ret Tryz.prog 17 [vA (cProg p p1 c p2 c1)] imm [] (spec_ProgramInstances_post  r):=by
 intro p r hM imm p1 c p2 c1 h h1;unfold M.spec_ProgramInstances at hM;refine yF (fn:=Tryz.f17) (c:=(bodyOf Tryz.f17)) Tryz.func17 rfl rfl ?_;rintro B - -;have hle:=iS imm;refine zF<|zB<|sD (cProg p p1 c p2 c1) ?_;intro b hb;refine zY [] []<|zE<|zF<|zF<|zB<|yK 1 [0] [(3,vA (cProg p p1 c p2 c1))] ?_;obtain ⟨y,hy,hM⟩:=zC hM;refine yR (eU p _ hy h h1) ?_;rintro imm0 hs2 v2 k2 le - ⟨v0,rfl,rfl,rfl⟩ -;have h:=h.mono le;have h1:=h1.mono le;have hle:=hle.trans le;refine zY [] [(5,.bool (!y))]<|zE<|yP hM ?_ ?_
 · intro hc hM;refine zF<|zB<|xY [] yI ?_;intro b1 hb1;have h3:RL imm0 [] ([]:List yI):=rfl;refine zY [] [(2,vS (some ⟨b1,0,none⟩) ([]:List yI) 0)]<|zE<|yJ<|zQ<|xL 0 rfl ?_;intro imm01 le1 hl0;have h4:=SL.of_frozen hl0 le1 h3;have h:=h.mono le1;have h1:=h1.mono le1;have hle:=hle.trans le1;obtain rfl:=zD hM;exact yQ ⟨_,_,(.tmp rfl ResV.nil),zV,⟨_,rfl,rfl,h4⟩⟩
 intro hc hM;refine yD<|zE<|zF<|zB<|yK 1 [0] [(7,vA (cProg p p1 c p2 c1))] ?_;obtain ⟨y1,hy1,hM⟩:=zC hM;refine yR (spec_l4Instances_ok p _ hy1 h h1) ?_;rintro imm02 hs2 v2 k2 le2 - ⟨v01,rfl,rfl,h5⟩ -;have h:=h.mono le2;have h1:=h1.mono le2;have hle:=hle.trans le2;obtain ⟨p3,c2,rfl⟩:=h5.form;refine zY [] [(2,vS p3 y1 c2)]<|zE<|yJ ?_;obtain rfl:=zD hM;exact yQ ⟨_,_,(.tmp rfl ResV.nil),zV,⟨_,rfl,rfl,h5⟩⟩
end Go.LN
namespace Go.LN
open Go.Proofs
set_option maxRecDepth 20000
def laws_lnInts_post (r:Bool):KT:=fun kk imm' hs' v=>
  ∃ v0,hs'=[]∧v=tupV [v0]∧v0=.bool r
def M.laws_lnInts_l1 (a0:(List Int)) (b:(List Int)) (i:Int):Option (Out Unit (Bool)):=do
 if (decide (i < (a0.length:Int))) then
  let x←idx a0 i
  let x1←idx b i
  if (x != x1) then
   pure (.ret false)
  else
   M.laws_lnInts_l1 a0 b (W (i + 1))
 else
  pure (.done ())
 partial_fixpoint
theorem laws_lnInts_l1_ok (a0:(List Int)) (b:(List Int)):∀ (i:Int) (o:Out Unit (Bool)),M.laws_lnInts_l1 a0 b i=some o→∀ {B}{imm0 imm:Imm}{Q p c p1 c1},imm0.le imm→(S4 imm p a0 c)→(S4 imm p1 b c1)→(∀ l a w,¬Q (.goto l) a w)→(∀ a w,¬Q .outgrown a w)→(∀ (imm':Imm) ,o=(.done ())→imm0.le imm'→T 26 B Q (.exit 0) imm' [] [])→(∀ r imm' hs' m',o=(.ret r)→imm0.le imm'→RS Tryz.prog Tryz.f35 B (laws_lnInts_post  r) imm' hs' m'→T 26 B Q .ret imm' hs' m')→J Tryz.prog 26 B (nav (bodyOf Tryz.f35) [1,1,0,1,0]) Q imm [] [(0,vS p a0 c),(1,vS p1 b c1),(5,vI i)]:=by
 refine M.laws_lnInts_l1.partial_correctness a0 b _ ?_;intro self ih i o hM B imm0 imm Q p c p1 c1 hle h h1 hg ho hx hr;refine xF hg ho<|zF<|zF<|zB<|zY [] [(14,.bool (decide (i < (a0.length:Int))))]<|zE<|yP hM ?_ ?_
 · intro hc1 hM;refine yD<|zE<|zF<|yB<|zF<|kT (by kernel_rfl) (by kernel_rfl)<|fQ 2 [] [(17,vS p a0 c),(18,vI i)] ?_;obtain ⟨x,hy,hM⟩:=zC hM;refine zCy rfl rfl h hy ?_;intro ad ccs hat hrep;obtain rfl:=hrep;refine zCx 0 hat [vI x] (vI x) rfl<|fQ 6 [] [(21,vS p1 b c1),(22,vI i)] ?_;obtain ⟨x1,hy1,hM⟩:=zC hM;refine zCy rfl rfl h1 hy1 ?_;intro ad1 ccs1 hat1 hrep1;obtain rfl:=hrep1;refine zCx 0 hat1 [vI x1] (vI x1) rfl<|zCS [] [(25,.bool (x != x1))]<|zE<|yP hM ?_ ?_
   · intro hc2 hM;exact zF<|zB<|zY [] [(4,.bool false)]<|zE<|yJ<|yE<|zQ<|zQ<|hr _ _ _ _ (zD hM).symm hle ⟨_,_,(.tmp rfl ResV.nil),zV,⟨_,rfl,rfl,rfl⟩⟩
   intro hc2 hM;exact yD<|zW<|zE<|zB<|zY [] [(5,vI (W (i + 1)))]<|xG<|uA [(0,vS p a0 c),(1,vS p1 b c1),(5,vI (W (i + 1)))]<|ih (W (i + 1)) _ hM hle h h1 hg ho hx hr
 intro hc1 hM;exact xB<|zT<|zT<|yU []<|hx _  (zD hM).symm hle
def M.laws_lnInts (a0:(List Int)) (b:(List Int)):Option (Bool):=do
 if ((a0.length:Int) != (b.length:Int)) then
  pure false
 else
  match←M.laws_lnInts_l1 a0 b 0 with
  | .ret r0=>pure r0
  | .done _ =>
   pure true
theorem laws_lnInts_ok:∀ (a0:(List Int)) (b:(List Int)) r,M.laws_lnInts a0 b=some r→∀ {imm:Imm}{p c p1 c1},(S4 imm p a0 c)→(S4 imm p1 b c1)→Ret Tryz.prog 35 [vS p a0 c,vS p1 b c1] imm [] (laws_lnInts_post  r):=by
 intro a0 b r hM imm p c p1 c1 h h1;unfold M.laws_lnInts at hM;refine yF (fn:=Tryz.f35) (c:=(bodyOf Tryz.f35)) Tryz.func35 rfl rfl ?_;rintro B - -;have hle:=iS imm;refine zF<|zB<|zY [] []<|zE<|zF<|zF<|zB<|zY [] [(10,.bool ((a0.length:Int) != (b.length:Int)))]<|zE<|yP hM ?_ ?_
 · intro hc hM;refine zF<|zB<|zY [] [(4,.bool false)]<|zE<|yJ<|zQ ?_;obtain rfl:=zD hM;exact yQ ⟨_,_,(.tmp rfl ResV.nil),zV,⟨_,rfl,rfl,rfl⟩⟩
 intro hc hM;refine yD<|zE<|zF<|zF<|zB<|zY [] [(5,vI 0)]<|zE<|yB<|uA [(0,vS p a0 c),(1,vS p1 b c1),(5,vI 0)] ?_;obtain ⟨o0,ho0,hMl⟩:=zC hM;refine laws_lnInts_l1_ok a0 b 0 o0 ho0 iR h h1 (fun _ _ _ h=>h) (fun _ _ h=>h) ?_ ?_
 · intro imm0  heq le;subst o0;have hle:=hle.trans le;refine yC<|zE<|zF<|zB<|zY [] [(4,.bool true)]<|zE<|yJ ?_;obtain rfl:=zD hMl;exact yQ ⟨_,_,(.tmp rfl ResV.nil),zV,⟨_,rfl,rfl,rfl⟩⟩
 intro r0 imm9 hs9 m9 heq9 le9 hrs9;subst heq9;refine yE<|zQ ?_;obtain rfl:=zD hMl;exact yQ hrs9
def laws_lnInstances_post (r:Bool):KT:=fun kk imm' hs' v=>
  ∃ v0,hs'=[]∧v=tupV [v0]∧v0=.bool r
def M.laws_lnInstances_l1 (a0:(List yI)) (b:(List yI)) (i:Int):Option (Out Unit (Bool)):=do
 if (decide (i < (a0.length:Int))) then
  let t54←(do
    let x←idx a0 i
    let x1←idx b i
    if (x.Part != x1.Part) then
     pure true
    else
     let x2←idx a0 i
     let x3←idx b i
     if (x2.Stmt != x3.Stmt) then
      pure true
     else
      let x4←idx a0 i
      let x5←idx b i
      let y←M.laws_lnInts x4.Point x5.Point
      pure (!y)
      : Option Bool)
  if t54 then
   pure (.ret false)
  else
   M.laws_lnInstances_l1 a0 b (W (i + 1))
 else
  pure (.done ())
 partial_fixpoint
theorem laws_lnInstances_l1_ok (a0:(List yI)) (b:(List yI)):∀ (i:Int) (o:Out Unit (Bool)),M.laws_lnInstances_l1 a0 b i=some o→∀ {B}{imm0 imm:Imm}{Q p c p1 c1},imm0.le imm→(S4 imm p a0 c)→(S4 imm p1 b c1)→(∀ l a w,¬Q (.goto l) a w)→(∀ a w,¬Q .outgrown a w)→(∀ (imm':Imm) ,o=(.done ())→imm0.le imm'→T 55 B Q (.exit 0) imm' [] [])→(∀ r imm' hs' m',o=(.ret r)→imm0.le imm'→RS Tryz.prog Tryz.f24 B (laws_lnInstances_post  r) imm' hs' m'→T 55 B Q .ret imm' hs' m')→J Tryz.prog 55 B (nav (bodyOf Tryz.f24) [1,1,0,1,0]) Q imm [] [(0,vS p a0 c),(1,vS p1 b c1),(5,vI i)]:=by
 refine M.laws_lnInstances_l1.partial_correctness a0 b _ ?_;intro self ih i o hM B imm0 imm Q p c p1 c1 hle h h1 hg ho hx hr;refine xF hg ho<|zF<|zF<|zB<|zY [] [(14,.bool (decide (i < (a0.length:Int))))]<|zE<|yP hM ?_ ?_
 · intro hc1 hM;refine yD<|zE<|zF<|yB<|zF ?_;obtain ⟨o0,ho0,hMc⟩:=zC hM;refine yT (fun imm' hs' m'=>∃ (t54:Bool),o0=t54∧imm.le imm'∧hs'=[]∧m'=[(0,vS p a0 c),(1,vS p1 b c1),(5,vI i),(54,.bool t54)]) ?_ ?_
   · have hle0:=hle;have hle:=iS imm;obtain ⟨x,hy,hM⟩:=zC ho0;obtain ⟨x1,hy1,hM⟩:=zC hM;cases hc2:(x.Part != x1.Part) with
     | true =>
      have hM0:=zU hc2 hM;refine vZ [.p (vS p a0 c) [],.p (vI i) [],.x (fun imm' v hx=>∃ ad p2 c2,v=.pointer (some ad)∧hx=[]∧(At imm' ad (cInst x p2 c2))∧(S4 imm' p2 x.Point c2)),.x (fun imm' v hx=>∃ ad1 p21 c21,v=.pointer (some ad1)∧hx=[]∧(At imm' ad1 (cInst x p21 c21))∧(S4 imm' p21 x.Point c21)),.q (vI x.Part),.p (vS p1 b c1) [],.p (vI i) [],.x (fun imm' v hx=>∃ ad2 p3 c3,v=.pointer (some ad2)∧hx=[]∧(At imm' ad2 (cInst x1 p3 c3))∧(S4 imm' p3 x1.Point c3)),.x (fun imm' v hx=>∃ ad21 p31 c31,v=.pointer (some ad21)∧hx=[]∧(At imm' ad21 (cInst x1 p31 c31))∧(S4 imm' p31 x1.Point c31)),.q (vI x1.Part),.q (.bool true),.q (.bool true),.p undef [],.p undef [],.p undef [],.p undef [],.p undef [],.p undef [],.p undef [],.p undef [],.p undef [],.p undef [],.p undef [],.p (.bool true) [],.p (.bool true) [],.p undef [],.p undef [],.p undef [],.p undef [],.p undef [],.p undef [],.p undef [],.p undef [],.p undef [],.p undef [],.p undef [],.p undef [],.p (.bool true) []] [[],[],[(0,false),(1,false)],[(2,false)],[(3,false)],[],[],[(5,false),(6,false)],[(7,false)],[(8,false)],[(4,false),(9,false)],[(10,false)],[(11,false)],[(11,false)],[(11,false),(12,false),(13,false)],[(11,false),(14,false)],[(11,false),(15,false)],[(11,false)],[(11,false)],[(11,false),(17,false),(18,false)],[(11,false),(19,false)],[(11,false),(20,false)],[(11,false),(16,false),(21,false)],[(11,false),(22,false)],[(23,false)],[(24,false)],[(24,false)],[(24,false),(25,false),(26,false)],[(24,false),(27,false)],[(24,false),(28,false)],[(24,false)],[(24,false)],[(24,false),(30,false),(31,false)],[(24,false),(32,false)],[(24,false),(33,false)],[(24,false),(29,false),(34,false)],[(24,false),(35,false)],[(24,false),(36,false)]] [] [] [(37,false)] (zL [] rfl (by decide)) ?_ ?_
      · refine Op<|Op<|Ox ?_<|Ox ?_<|Oq ?_<|Op<|Op<|Ox ?_<|Ox ?_<|Oq ?_<|Oq ?_<|Oq ?_<|Op<|Op<|Op<|Op<|Op<|Op<|Op<|Op<|Op<|Op<|Op<|Op<|Op<|Op<|Op<|Op<|Op<|Op<|Op<|Op<|Op<|Op<|Op<|Op<|Op<|Op<|On
        · intro imm1 hf le1;refine zG ?_;rintro _ _ ⟨rfl,rfl⟩;refine zG ?_;rintro _ _ ⟨rfl,rfl⟩;refine zN<|yG [(17,vS p a0 c),(18,vI i)] ?_;have hle:=iS imm1;have h:=h.mono le1;refine wJ rfl rfl h hy ?_;intro ad ccs hat hrep;obtain ⟨v0,rfl,h2⟩:=impl_Instance_open hrep;obtain ⟨p2,c2,rfl⟩:=h2.form;exact zX (hx:=[]) rfl hle rfl (zM rfl) ⟨_,_,_,rfl,rfl,hat,h2⟩
        · intro imm1 hf le1;refine zG ?_;rintro _ _ ⟨ad,p2,c2,rfl,rfl,hat,h2⟩;refine zN<|yG [(19,.pointer (some ad))] ?_;have hle:=iS imm1;exact qQ 4 [(20,.pointer (some ad))]<|zX (hx:=[]) rfl hle rfl (zM rfl) ⟨_,_,_,rfl,rfl,hat,h2⟩
        · intro imm1 hf le1;refine zG ?_;rintro _ _ ⟨ad1,p21,c21,rfl,rfl,hat1,h21⟩;refine zN<|yG [(20,.pointer (some ad1))] ?_;have hle:=iS imm1;exact xX 0 hat1 [vI x.Part] (vI x.Part) rfl<|zX (hx:=[]) rfl hle rfl (zM rfl) ⟨rfl,rfl⟩
        · intro imm1 hf le1;refine zG ?_;rintro _ _ ⟨rfl,rfl⟩;refine zG ?_;rintro _ _ ⟨rfl,rfl⟩;refine zN<|yG [(22,vS p1 b c1),(23,vI i)] ?_;have hle:=iS imm1;have h1:=h1.mono le1;refine wJ rfl rfl h1 hy1 ?_;intro ad2 ccs1 hat2 hrep1;obtain ⟨v01,rfl,h3⟩:=impl_Instance_open hrep1;obtain ⟨p3,c3,rfl⟩:=h3.form;exact zX (hx:=[]) rfl hle rfl (zM rfl) ⟨_,_,_,rfl,rfl,hat2,h3⟩
        · intro imm1 hf le1;refine zG ?_;rintro _ _ ⟨ad2,p3,c3,rfl,rfl,hat2,h3⟩;refine zN<|yG [(24,.pointer (some ad2))] ?_;have hle:=iS imm1;exact qQ 9 [(25,.pointer (some ad2))]<|zX (hx:=[]) rfl hle rfl (zM rfl) ⟨_,_,_,rfl,rfl,hat2,h3⟩
        · intro imm1 hf le1;refine zG ?_;rintro _ _ ⟨ad21,p31,c31,rfl,rfl,hat21,h31⟩;refine zN<|yG [(25,.pointer (some ad21))] ?_;have hle:=iS imm1;exact xX 0 hat21 [vI x1.Part] (vI x1.Part) rfl<|zX (hx:=[]) rfl hle rfl (zM rfl) ⟨rfl,rfl⟩
        · intro imm1 hf le1;refine zG ?_;rintro _ _ ⟨rfl,rfl⟩;refine zG ?_;rintro _ _ ⟨rfl,rfl⟩;refine zN<|yG [(21,vI x.Part),(26,vI x1.Part)] ?_;have hle:=iS imm1;refine qQ 11 [(27,.bool (x.Part != x1.Part))] ?_;rw [hc2];exact zX (hx:=[]) rfl hle rfl (zM rfl) ⟨rfl,rfl⟩
        intro imm1 hf le1;refine zG ?_;rintro _ _ ⟨rfl,rfl⟩;refine zN<|yG [(27,.bool true)] ?_;have hle:=iS imm1;exact qQ 12 [(28,.bool true)]<|zX (hx:=[]) rfl hle rfl (zM rfl) ⟨rfl,rfl⟩
      intro imm01 le;refine zG ?_;rintro _ _ ⟨rfl,rfl⟩;refine zN<|yG [(0,vS p a0 c),(1,vS p1 b c1),(5,vI i),(54,.bool true)] ?_;have h:=h.mono le;have h1:=h1.mono le;have hle:=hle.trans le;exact yN rfl<|yU [(0,vS p a0 c),(1,vS p1 b c1),(5,vI i),(54,.bool true)]<|yA ⟨_,(zD hM0).symm,hle,rfl,rfl⟩
     | false =>
      have hM01:=zS hc2 hM;obtain ⟨x2,hy2,hM⟩:=zC hM01;obtain ⟨x3,hy3,hM⟩:=zC hM;cases hc3:(x2.Stmt != x3.Stmt) with
      | true =>
       have hM02:=zU hc3 hM;refine vZ [.p (vS p a0 c) [],.p (vI i) [],.x (fun imm' v hx=>∃ ad p2 c2,v=.pointer (some ad)∧hx=[]∧(At imm' ad (cInst x p2 c2))∧(S4 imm' p2 x.Point c2)),.x (fun imm' v hx=>∃ ad1 p21 c21,v=.pointer (some ad1)∧hx=[]∧(At imm' ad1 (cInst x p21 c21))∧(S4 imm' p21 x.Point c21)),.q (vI x.Part),.p (vS p1 b c1) [],.p (vI i) [],.x (fun imm' v hx=>∃ ad2 p3 c3,v=.pointer (some ad2)∧hx=[]∧(At imm' ad2 (cInst x1 p3 c3))∧(S4 imm' p3 x1.Point c3)),.x (fun imm' v hx=>∃ ad21 p31 c31,v=.pointer (some ad21)∧hx=[]∧(At imm' ad21 (cInst x1 p31 c31))∧(S4 imm' p31 x1.Point c31)),.q (vI x1.Part),.q (.bool false),.q (.bool false),.p (vS p a0 c) [],.p (vI i) [],.x (fun imm' v hx=>∃ ad3 p4 c4,v=.pointer (some ad3)∧hx=[]∧(At imm' ad3 (cInst x2 p4 c4))∧(S4 imm' p4 x2.Point c4)),.x (fun imm' v hx=>∃ ad31 p41 c41,v=.pointer (some (ad31.add 1))∧hx=[]∧(At imm' ad31 (cInst x2 p41 c41))∧(S4 imm' p41 x2.Point c41)),.q (vI x2.Stmt),.p (vS p1 b c1) [],.p (vI i) [],.x (fun imm' v hx=>∃ ad4 p5 c5,v=.pointer (some ad4)∧hx=[]∧(At imm' ad4 (cInst x3 p5 c5))∧(S4 imm' p5 x3.Point c5)),.x (fun imm' v hx=>∃ ad41 p51 c51,v=.pointer (some (ad41.add 1))∧hx=[]∧(At imm' ad41 (cInst x3 p51 c51))∧(S4 imm' p51 x3.Point c51)),.q (vI x3.Stmt),.q (.bool true),.q (.bool true),.q (.bool true),.p undef [],.p undef [],.p undef [],.p undef [],.p undef [],.p undef [],.p undef [],.p undef [],.p undef [],.p undef [],.p undef [],.p undef [],.p (.bool true) []] [[],[],[(0,false),(1,false)],[(2,false)],[(3,false)],[],[],[(5,false),(6,false)],[(7,false)],[(8,false)],[(4,false),(9,false)],[(10,false)],[(11,false)],[(11,false)],[(11,false),(12,false),(13,false)],[(11,false),(14,false)],[(11,false),(15,false)],[(11,false)],[(11,false)],[(11,false),(17,false),(18,false)],[(11,false),(19,false)],[(11,false),(20,false)],[(11,false),(16,false),(21,false)],[(11,false),(22,false)],[(23,false)],[(24,false)],[(24,false)],[(24,false),(25,false),(26,false)],[(24,false),(27,false)],[(24,false),(28,false)],[(24,false)],[(24,false)],[(24,false),(30,false),(31,false)],[(24,false),(32,false)],[(24,false),(33,false)],[(24,false),(29,false),(34,false)],[(24,false),(35,false)],[(24,false),(36,false)]] [] [] [(37,false)] (zL [] rfl (by decide)) ?_ ?_
       · refine Op<|Op<|Ox ?_<|Ox ?_<|Oq ?_<|Op<|Op<|Ox ?_<|Ox ?_<|Oq ?_<|Oq ?_<|Oq ?_<|Op<|Op<|Ox ?_<|Ox ?_<|Oq ?_<|Op<|Op<|Ox ?_<|Ox ?_<|Oq ?_<|Oq ?_<|Oq ?_<|Oq ?_<|Op<|Op<|Op<|Op<|Op<|Op<|Op<|Op<|Op<|Op<|Op<|Op<|Op<|On
         · intro imm1 hf le1;refine zG ?_;rintro _ _ ⟨rfl,rfl⟩;refine zG ?_;rintro _ _ ⟨rfl,rfl⟩;refine zN<|yG [(17,vS p a0 c),(18,vI i)] ?_;have hle:=iS imm1;have h:=h.mono le1;refine wJ rfl rfl h hy ?_;intro ad ccs hat hrep;obtain ⟨v0,rfl,h2⟩:=impl_Instance_open hrep;obtain ⟨p2,c2,rfl⟩:=h2.form;exact zX (hx:=[]) rfl hle rfl (zM rfl) ⟨_,_,_,rfl,rfl,hat,h2⟩
         · intro imm1 hf le1;refine zG ?_;rintro _ _ ⟨ad,p2,c2,rfl,rfl,hat,h2⟩;refine zN<|yG [(19,.pointer (some ad))] ?_;have hle:=iS imm1;exact qQ 4 [(20,.pointer (some ad))]<|zX (hx:=[]) rfl hle rfl (zM rfl) ⟨_,_,_,rfl,rfl,hat,h2⟩
         · intro imm1 hf le1;refine zG ?_;rintro _ _ ⟨ad1,p21,c21,rfl,rfl,hat1,h21⟩;refine zN<|yG [(20,.pointer (some ad1))] ?_;have hle:=iS imm1;exact xX 0 hat1 [vI x.Part] (vI x.Part) rfl<|zX (hx:=[]) rfl hle rfl (zM rfl) ⟨rfl,rfl⟩
         · intro imm1 hf le1;refine zG ?_;rintro _ _ ⟨rfl,rfl⟩;refine zG ?_;rintro _ _ ⟨rfl,rfl⟩;refine zN<|yG [(22,vS p1 b c1),(23,vI i)] ?_;have hle:=iS imm1;have h1:=h1.mono le1;refine wJ rfl rfl h1 hy1 ?_;intro ad2 ccs1 hat2 hrep1;obtain ⟨v01,rfl,h3⟩:=impl_Instance_open hrep1;obtain ⟨p3,c3,rfl⟩:=h3.form;exact zX (hx:=[]) rfl hle rfl (zM rfl) ⟨_,_,_,rfl,rfl,hat2,h3⟩
         · intro imm1 hf le1;refine zG ?_;rintro _ _ ⟨ad2,p3,c3,rfl,rfl,hat2,h3⟩;refine zN<|yG [(24,.pointer (some ad2))] ?_;have hle:=iS imm1;exact qQ 9 [(25,.pointer (some ad2))]<|zX (hx:=[]) rfl hle rfl (zM rfl) ⟨_,_,_,rfl,rfl,hat2,h3⟩
         · intro imm1 hf le1;refine zG ?_;rintro _ _ ⟨ad21,p31,c31,rfl,rfl,hat21,h31⟩;refine zN<|yG [(25,.pointer (some ad21))] ?_;have hle:=iS imm1;exact xX 0 hat21 [vI x1.Part] (vI x1.Part) rfl<|zX (hx:=[]) rfl hle rfl (zM rfl) ⟨rfl,rfl⟩
         · intro imm1 hf le1;refine zG ?_;rintro _ _ ⟨rfl,rfl⟩;refine zG ?_;rintro _ _ ⟨rfl,rfl⟩;refine zN<|yG [(21,vI x.Part),(26,vI x1.Part)] ?_;have hle:=iS imm1;refine qQ 11 [(27,.bool (x.Part != x1.Part))] ?_;rw [hc2];exact zX (hx:=[]) rfl hle rfl (zM rfl) ⟨rfl,rfl⟩
         · intro imm1 hf le1;refine zG ?_;rintro _ _ ⟨rfl,rfl⟩;refine zN<|yG [(27,.bool false)] ?_;have hle:=iS imm1;exact qQ 12 [(28,.bool false)]<|zX (hx:=[]) rfl hle rfl (zM rfl) ⟨rfl,rfl⟩
         · intro imm1 hf le1;refine zG ?_;rintro _ _ ⟨rfl,rfl⟩;refine zG ?_;rintro _ _ ⟨rfl,rfl⟩;refine zG ?_;rintro _ _ ⟨rfl,rfl⟩;refine zN<|yG [(28,.bool false),(29,vS p a0 c),(30,vI i)] ?_;have hle:=iS imm1;have h:=h.mono le1;refine wJ rfl rfl h hy2 ?_;intro ad3 ccs2 hat3 hrep2;obtain ⟨v02,rfl,h4⟩:=impl_Instance_open hrep2;obtain ⟨p4,c4,rfl⟩:=h4.form;exact zX (hx:=[]) rfl hle rfl (zM rfl) ⟨_,_,_,rfl,rfl,hat3,h4⟩
         · intro imm1 hf le1;refine zG ?_;rintro _ _ ⟨rfl,rfl⟩;refine zG ?_;rintro _ _ ⟨ad3,p4,c4,rfl,rfl,hat3,h4⟩;refine zN<|yG [(28,.bool false),(31,.pointer (some ad3))] ?_;have hle:=iS imm1;exact qQ 16 [(32,.pointer (some (ad3.add 1)))]<|zX (hx:=[]) rfl hle rfl (zM rfl) ⟨_,_,_,rfl,rfl,hat3,h4⟩
         · intro imm1 hf le1;refine zG ?_;rintro _ _ ⟨rfl,rfl⟩;refine zG ?_;rintro _ _ ⟨ad31,p41,c41,rfl,rfl,hat31,h41⟩;refine zN<|yG [(28,.bool false),(32,.pointer (some (ad31.add 1)))] ?_;have hle:=iS imm1;exact xX 1 hat31 [vI x2.Stmt] (vI x2.Stmt) rfl<|zX (hx:=[]) rfl hle rfl (zM rfl) ⟨rfl,rfl⟩
         · intro imm1 hf le1;refine zG ?_;rintro _ _ ⟨rfl,rfl⟩;refine zG ?_;rintro _ _ ⟨rfl,rfl⟩;refine zG ?_;rintro _ _ ⟨rfl,rfl⟩;refine zN<|yG [(28,.bool false),(34,vS p1 b c1),(35,vI i)] ?_;have hle:=iS imm1;have h1:=h1.mono le1;refine wJ rfl rfl h1 hy3 ?_;intro ad4 ccs3 hat4 hrep3;obtain ⟨v03,rfl,h5⟩:=impl_Instance_open hrep3;obtain ⟨p5,c5,rfl⟩:=h5.form;exact zX (hx:=[]) rfl hle rfl (zM rfl) ⟨_,_,_,rfl,rfl,hat4,h5⟩
         · intro imm1 hf le1;refine zG ?_;rintro _ _ ⟨rfl,rfl⟩;refine zG ?_;rintro _ _ ⟨ad4,p5,c5,rfl,rfl,hat4,h5⟩;refine zN<|yG [(28,.bool false),(36,.pointer (some ad4))] ?_;have hle:=iS imm1;exact qQ 21 [(37,.pointer (some (ad4.add 1)))]<|zX (hx:=[]) rfl hle rfl (zM rfl) ⟨_,_,_,rfl,rfl,hat4,h5⟩
         · intro imm1 hf le1;refine zG ?_;rintro _ _ ⟨rfl,rfl⟩;refine zG ?_;rintro _ _ ⟨ad41,p51,c51,rfl,rfl,hat41,h51⟩;refine zN<|yG [(28,.bool false),(37,.pointer (some (ad41.add 1)))] ?_;have hle:=iS imm1;exact xX 1 hat41 [vI x3.Stmt] (vI x3.Stmt) rfl<|zX (hx:=[]) rfl hle rfl (zM rfl) ⟨rfl,rfl⟩
         · intro imm1 hf le1;refine zG ?_;rintro _ _ ⟨rfl,rfl⟩;refine zG ?_;rintro _ _ ⟨rfl,rfl⟩;refine zG ?_;rintro _ _ ⟨rfl,rfl⟩;refine zN<|yG [(28,.bool false),(33,vI x2.Stmt),(38,vI x3.Stmt)] ?_;have hle:=iS imm1;refine qQ 23 [(39,.bool (x2.Stmt != x3.Stmt))] ?_;rw [hc3];exact zX (hx:=[]) rfl hle rfl (zM rfl) ⟨rfl,rfl⟩
         · intro imm1 hf le1;refine zG ?_;rintro _ _ ⟨rfl,rfl⟩;refine zG ?_;rintro _ _ ⟨rfl,rfl⟩;refine zN<|yG [(28,.bool false),(39,.bool true)] ?_;have hle:=iS imm1;exact qQ 24 [(40,.bool true)]<|zX (hx:=[]) rfl hle rfl (zM rfl) ⟨rfl,rfl⟩
         intro imm1 hf le1;refine zG ?_;rintro _ _ ⟨rfl,rfl⟩;refine zN<|yG [(40,.bool true)] ?_;have hle:=iS imm1;exact qQ 25 [(41,.bool true)]<|zX (hx:=[]) rfl hle rfl (zM rfl) ⟨rfl,rfl⟩
       intro imm02 le1;refine zG ?_;rintro _ _ ⟨rfl,rfl⟩;refine zN<|yG [(0,vS p a0 c),(1,vS p1 b c1),(5,vI i),(54,.bool true)] ?_;have h:=h.mono le1;have h1:=h1.mono le1;have hle:=hle.trans le1;exact yN rfl<|yU [(0,vS p a0 c),(1,vS p1 b c1),(5,vI i),(54,.bool true)]<|yA ⟨_,(zD hM02).symm,hle,rfl,rfl⟩
      | false =>
       have hM03:=zS hc3 hM;obtain ⟨x4,hy4,hM⟩:=zC hM03;obtain ⟨x5,hy5,hM⟩:=zC hM;obtain ⟨y,hy6,hM⟩:=zC hM;refine vZ [.p (vS p a0 c) [],.p (vI i) [],.x (fun imm' v hx=>∃ ad p2 c2,v=.pointer (some ad)∧hx=[]∧(At imm' ad (cInst x p2 c2))∧(S4 imm' p2 x.Point c2)),.x (fun imm' v hx=>∃ ad1 p21 c21,v=.pointer (some ad1)∧hx=[]∧(At imm' ad1 (cInst x p21 c21))∧(S4 imm' p21 x.Point c21)),.q (vI x.Part),.p (vS p1 b c1) [],.p (vI i) [],.x (fun imm' v hx=>∃ ad2 p3 c3,v=.pointer (some ad2)∧hx=[]∧(At imm' ad2 (cInst x1 p3 c3))∧(S4 imm' p3 x1.Point c3)),.x (fun imm' v hx=>∃ ad21 p31 c31,v=.pointer (some ad21)∧hx=[]∧(At imm' ad21 (cInst x1 p31 c31))∧(S4 imm' p31 x1.Point c31)),.q (vI x1.Part),.q (.bool false),.q (.bool false),.p (vS p a0 c) [],.p (vI i) [],.x (fun imm' v hx=>∃ ad3 p4 c4,v=.pointer (some ad3)∧hx=[]∧(At imm' ad3 (cInst x2 p4 c4))∧(S4 imm' p4 x2.Point c4)),.x (fun imm' v hx=>∃ ad31 p41 c41,v=.pointer (some (ad31.add 1))∧hx=[]∧(At imm' ad31 (cInst x2 p41 c41))∧(S4 imm' p41 x2.Point c41)),.q (vI x2.Stmt),.p (vS p1 b c1) [],.p (vI i) [],.x (fun imm' v hx=>∃ ad4 p5 c5,v=.pointer (some ad4)∧hx=[]∧(At imm' ad4 (cInst x3 p5 c5))∧(S4 imm' p5 x3.Point c5)),.x (fun imm' v hx=>∃ ad41 p51 c51,v=.pointer (some (ad41.add 1))∧hx=[]∧(At imm' ad41 (cInst x3 p51 c51))∧(S4 imm' p51 x3.Point c51)),.q (vI x3.Stmt),.q (.bool false),.q (.bool false),.q (.bool false),.p (vS p a0 c) [],.p (vI i) [],.x (fun imm' v hx=>∃ ad5 p6 c6,v=.pointer (some ad5)∧hx=[]∧(At imm' ad5 (cInst x4 p6 c6))∧(S4 imm' p6 x4.Point c6)),.x (fun imm' v hx=>∃ ad51 p61 c61,v=.pointer (some (ad51.add 2))∧hx=[]∧(At imm' ad51 (cInst x4 p61 c61))∧(S4 imm' p61 x4.Point c61)),.x (fun imm' v hx=>∃ p611 c611,v=vS p611 x4.Point c611∧hx=[]∧(S4 imm' p611 x4.Point c611)),.p (vS p1 b c1) [],.p (vI i) [],.x (fun imm' v hx=>∃ ad6 p7 c7,v=.pointer (some ad6)∧hx=[]∧(At imm' ad6 (cInst x5 p7 c7))∧(S4 imm' p7 x5.Point c7)),.x (fun imm' v hx=>∃ ad61 p71 c71,v=.pointer (some (ad61.add 2))∧hx=[]∧(At imm' ad61 (cInst x5 p71 c71))∧(S4 imm' p71 x5.Point c71)),.x (fun imm' v hx=>∃ p711 c711,v=vS p711 x5.Point c711∧hx=[]∧(S4 imm' p711 x5.Point c711)),.q (.bool y),.p (.bool (!y)) [],.p (.bool (!y)) []] [[],[],[(0,false),(1,false)],[(2,false)],[(3,false)],[],[],[(5,false),(6,false)],[(7,false)],[(8,false)],[(4,false),(9,false)],[(10,false)],[(11,false)],[(11,false)],[(11,false),(12,false),(13,false)],[(11,false),(14,false)],[(11,false),(15,false)],[(11,false)],[(11,false)],[(11,false),(17,false),(18,false)],[(11,false),(19,false)],[(11,false),(20,false)],[(11,false),(16,false),(21,false)],[(11,false),(22,false)],[(23,false)],[(24,false)],[(24,false)],[(24,false),(25,false),(26,false)],[(24,false),(27,false)],[(24,false),(28,false)],[(24,false)],[(24,false)],[(24,false),(30,false),(31,false)],[(24,false),(32,false)],[(24,false),(33,false)],[(24,false),(29,false),(34,false)],[(24,false),(35,false)],[(24,false),(36,false)]] [] [] [(37,false)] (zL [] rfl (by decide)) ?_ ?_
       · refine Op<|Op<|Ox ?_<|Ox ?_<|Oq ?_<|Op<|Op<|Ox ?_<|Ox ?_<|Oq ?_<|Oq ?_<|Oq ?_<|Op<|Op<|Ox ?_<|Ox ?_<|Oq ?_<|Op<|Op<|Ox ?_<|Ox ?_<|Oq ?_<|Oq ?_<|Oq ?_<|Oq ?_<|Op<|Op<|Ox ?_<|Ox ?_<|Ox ?_<|Op<|Op<|Ox ?_<|Ox ?_<|Ox ?_<|Oq ?_<|Op<|Op<|On
         · intro imm1 hf le1;refine zG ?_;rintro _ _ ⟨rfl,rfl⟩;refine zG ?_;rintro _ _ ⟨rfl,rfl⟩;refine zN<|yG [(17,vS p a0 c),(18,vI i)] ?_;have hle:=iS imm1;have h:=h.mono le1;refine wJ rfl rfl h hy ?_;intro ad ccs hat hrep;obtain ⟨v0,rfl,h2⟩:=impl_Instance_open hrep;obtain ⟨p2,c2,rfl⟩:=h2.form;exact zX (hx:=[]) rfl hle rfl (zM rfl) ⟨_,_,_,rfl,rfl,hat,h2⟩
         · intro imm1 hf le1;refine zG ?_;rintro _ _ ⟨ad,p2,c2,rfl,rfl,hat,h2⟩;refine zN<|yG [(19,.pointer (some ad))] ?_;have hle:=iS imm1;exact qQ 4 [(20,.pointer (some ad))]<|zX (hx:=[]) rfl hle rfl (zM rfl) ⟨_,_,_,rfl,rfl,hat,h2⟩
         · intro imm1 hf le1;refine zG ?_;rintro _ _ ⟨ad1,p21,c21,rfl,rfl,hat1,h21⟩;refine zN<|yG [(20,.pointer (some ad1))] ?_;have hle:=iS imm1;exact xX 0 hat1 [vI x.Part] (vI x.Part) rfl<|zX (hx:=[]) rfl hle rfl (zM rfl) ⟨rfl,rfl⟩
         · intro imm1 hf le1;refine zG ?_;rintro _ _ ⟨rfl,rfl⟩;refine zG ?_;rintro _ _ ⟨rfl,rfl⟩;refine zN<|yG [(22,vS p1 b c1),(23,vI i)] ?_;have hle:=iS imm1;have h1:=h1.mono le1;refine wJ rfl rfl h1 hy1 ?_;intro ad2 ccs1 hat2 hrep1;obtain ⟨v01,rfl,h3⟩:=impl_Instance_open hrep1;obtain ⟨p3,c3,rfl⟩:=h3.form;exact zX (hx:=[]) rfl hle rfl (zM rfl) ⟨_,_,_,rfl,rfl,hat2,h3⟩
         · intro imm1 hf le1;refine zG ?_;rintro _ _ ⟨ad2,p3,c3,rfl,rfl,hat2,h3⟩;refine zN<|yG [(24,.pointer (some ad2))] ?_;have hle:=iS imm1;exact qQ 9 [(25,.pointer (some ad2))]<|zX (hx:=[]) rfl hle rfl (zM rfl) ⟨_,_,_,rfl,rfl,hat2,h3⟩
         · intro imm1 hf le1;refine zG ?_;rintro _ _ ⟨ad21,p31,c31,rfl,rfl,hat21,h31⟩;refine zN<|yG [(25,.pointer (some ad21))] ?_;have hle:=iS imm1;exact xX 0 hat21 [vI x1.Part] (vI x1.Part) rfl<|zX (hx:=[]) rfl hle rfl (zM rfl) ⟨rfl,rfl⟩
         · intro imm1 hf le1;refine zG ?_;rintro _ _ ⟨rfl,rfl⟩;refine zG ?_;rintro _ _ ⟨rfl,rfl⟩;refine zN<|yG [(21,vI x.Part),(26,vI x1.Part)] ?_;have hle:=iS imm1;refine qQ 11 [(27,.bool (x.Part != x1.Part))] ?_;rw [hc2];exact zX (hx:=[]) rfl hle rfl (zM rfl) ⟨rfl,rfl⟩
         · intro imm1 hf le1;refine zG ?_;rintro _ _ ⟨rfl,rfl⟩;refine zN<|yG [(27,.bool false)] ?_;have hle:=iS imm1;exact qQ 12 [(28,.bool false)]<|zX (hx:=[]) rfl hle rfl (zM rfl) ⟨rfl,rfl⟩
         · intro imm1 hf le1;refine zG ?_;rintro _ _ ⟨rfl,rfl⟩;refine zG ?_;rintro _ _ ⟨rfl,rfl⟩;refine zG ?_;rintro _ _ ⟨rfl,rfl⟩;refine zN<|yG [(28,.bool false),(29,vS p a0 c),(30,vI i)] ?_;have hle:=iS imm1;have h:=h.mono le1;refine wJ rfl rfl h hy2 ?_;intro ad3 ccs2 hat3 hrep2;obtain ⟨v02,rfl,h4⟩:=impl_Instance_open hrep2;obtain ⟨p4,c4,rfl⟩:=h4.form;exact zX (hx:=[]) rfl hle rfl (zM rfl) ⟨_,_,_,rfl,rfl,hat3,h4⟩
         · intro imm1 hf le1;refine zG ?_;rintro _ _ ⟨rfl,rfl⟩;refine zG ?_;rintro _ _ ⟨ad3,p4,c4,rfl,rfl,hat3,h4⟩;refine zN<|yG [(28,.bool false),(31,.pointer (some ad3))] ?_;have hle:=iS imm1;exact qQ 16 [(32,.pointer (some (ad3.add 1)))]<|zX (hx:=[]) rfl hle rfl (zM rfl) ⟨_,_,_,rfl,rfl,hat3,h4⟩
         · intro imm1 hf le1;refine zG ?_;rintro _ _ ⟨rfl,rfl⟩;refine zG ?_;rintro _ _ ⟨ad31,p41,c41,rfl,rfl,hat31,h41⟩;refine zN<|yG [(28,.bool false),(32,.pointer (some (ad31.add 1)))] ?_;have hle:=iS imm1;exact xX 1 hat31 [vI x2.Stmt] (vI x2.Stmt) rfl<|zX (hx:=[]) rfl hle rfl (zM rfl) ⟨rfl,rfl⟩
         · intro imm1 hf le1;refine zG ?_;rintro _ _ ⟨rfl,rfl⟩;refine zG ?_;rintro _ _ ⟨rfl,rfl⟩;refine zG ?_;rintro _ _ ⟨rfl,rfl⟩;refine zN<|yG [(28,.bool false),(34,vS p1 b c1),(35,vI i)] ?_;have hle:=iS imm1;have h1:=h1.mono le1;refine wJ rfl rfl h1 hy3 ?_;intro ad4 ccs3 hat4 hrep3;obtain ⟨v03,rfl,h5⟩:=impl_Instance_open hrep3;obtain ⟨p5,c5,rfl⟩:=h5.form;exact zX (hx:=[]) rfl hle rfl (zM rfl) ⟨_,_,_,rfl,rfl,hat4,h5⟩
         · intro imm1 hf le1;refine zG ?_;rintro _ _ ⟨rfl,rfl⟩;refine zG ?_;rintro _ _ ⟨ad4,p5,c5,rfl,rfl,hat4,h5⟩;refine zN<|yG [(28,.bool false),(36,.pointer (some ad4))] ?_;have hle:=iS imm1;exact qQ 21 [(37,.pointer (some (ad4.add 1)))]<|zX (hx:=[]) rfl hle rfl (zM rfl) ⟨_,_,_,rfl,rfl,hat4,h5⟩
         · intro imm1 hf le1;refine zG ?_;rintro _ _ ⟨rfl,rfl⟩;refine zG ?_;rintro _ _ ⟨ad41,p51,c51,rfl,rfl,hat41,h51⟩;refine zN<|yG [(28,.bool false),(37,.pointer (some (ad41.add 1)))] ?_;have hle:=iS imm1;exact xX 1 hat41 [vI x3.Stmt] (vI x3.Stmt) rfl<|zX (hx:=[]) rfl hle rfl (zM rfl) ⟨rfl,rfl⟩
         · intro imm1 hf le1;refine zG ?_;rintro _ _ ⟨rfl,rfl⟩;refine zG ?_;rintro _ _ ⟨rfl,rfl⟩;refine zG ?_;rintro _ _ ⟨rfl,rfl⟩;refine zN<|yG [(28,.bool false),(33,vI x2.Stmt),(38,vI x3.Stmt)] ?_;have hle:=iS imm1;refine qQ 23 [(39,.bool (x2.Stmt != x3.Stmt))] ?_;rw [hc3];exact zX (hx:=[]) rfl hle rfl (zM rfl) ⟨rfl,rfl⟩
         · intro imm1 hf le1;refine zG ?_;rintro _ _ ⟨rfl,rfl⟩;refine zG ?_;rintro _ _ ⟨rfl,rfl⟩;refine zN<|yG [(28,.bool false),(39,.bool false)] ?_;have hle:=iS imm1;exact qQ 24 [(40,.bool false)]<|zX (hx:=[]) rfl hle rfl (zM rfl) ⟨rfl,rfl⟩
         · intro imm1 hf le1;refine zG ?_;rintro _ _ ⟨rfl,rfl⟩;refine zN<|yG [(40,.bool false)] ?_;have hle:=iS imm1;exact qQ 25 [(41,.bool false)]<|zX (hx:=[]) rfl hle rfl (zM rfl) ⟨rfl,rfl⟩
         · intro imm1 hf le1;refine zG ?_;rintro _ _ ⟨rfl,rfl⟩;refine zG ?_;rintro _ _ ⟨rfl,rfl⟩;refine zG ?_;rintro _ _ ⟨rfl,rfl⟩;refine zN<|yG [(41,.bool false),(42,vS p a0 c),(43,vI i)] ?_;have hle:=iS imm1;have h:=h.mono le1;refine wJ rfl rfl h hy4 ?_;intro ad5 ccs4 hat5 hrep4;obtain ⟨v04,rfl,h6⟩:=impl_Instance_open hrep4;obtain ⟨p6,c6,rfl⟩:=h6.form;exact zX (hx:=[]) rfl hle rfl (zM rfl) ⟨_,_,_,rfl,rfl,hat5,h6⟩
         · intro imm1 hf le1;refine zG ?_;rintro _ _ ⟨rfl,rfl⟩;refine zG ?_;rintro _ _ ⟨ad5,p6,c6,rfl,rfl,hat5,h6⟩;refine zN<|yG [(41,.bool false),(44,.pointer (some ad5))] ?_;have hle:=iS imm1;exact qQ 29 [(45,.pointer (some (ad5.add 2)))]<|zX (hx:=[]) rfl hle rfl (zM rfl) ⟨_,_,_,rfl,rfl,hat5,h6⟩
         · intro imm1 hf le1;refine zG ?_;rintro _ _ ⟨rfl,rfl⟩;refine zG ?_;rintro _ _ ⟨ad51,p61,c61,rfl,rfl,hat51,h61⟩;refine zN<|yG [(41,.bool false),(45,.pointer (some (ad51.add 2)))] ?_;have hle:=iS imm1;exact xX 2 hat51 [vS p61 x4.Point c61] (vS p61 x4.Point c61) rfl<|zX (hx:=[]) rfl hle rfl (zM rfl) ⟨_,_,rfl,rfl,h61⟩
         · intro imm1 hf le1;refine zG ?_;rintro _ _ ⟨rfl,rfl⟩;refine zG ?_;rintro _ _ ⟨rfl,rfl⟩;refine zG ?_;rintro _ _ ⟨rfl,rfl⟩;refine zN<|yG [(41,.bool false),(47,vS p1 b c1),(48,vI i)] ?_;have hle:=iS imm1;have h1:=h1.mono le1;refine wJ rfl rfl h1 hy5 ?_;intro ad6 ccs5 hat6 hrep5;obtain ⟨v05,rfl,h7⟩:=impl_Instance_open hrep5;obtain ⟨p7,c7,rfl⟩:=h7.form;exact zX (hx:=[]) rfl hle rfl (zM rfl) ⟨_,_,_,rfl,rfl,hat6,h7⟩
         · intro imm1 hf le1;refine zG ?_;rintro _ _ ⟨rfl,rfl⟩;refine zG ?_;rintro _ _ ⟨ad6,p7,c7,rfl,rfl,hat6,h7⟩;refine zN<|yG [(41,.bool false),(49,.pointer (some ad6))] ?_;have hle:=iS imm1;exact qQ 34 [(50,.pointer (some (ad6.add 2)))]<|zX (hx:=[]) rfl hle rfl (zM rfl) ⟨_,_,_,rfl,rfl,hat6,h7⟩
         · intro imm1 hf le1;refine zG ?_;rintro _ _ ⟨rfl,rfl⟩;refine zG ?_;rintro _ _ ⟨ad61,p71,c71,rfl,rfl,hat61,h71⟩;refine zN<|yG [(41,.bool false),(50,.pointer (some (ad61.add 2)))] ?_;have hle:=iS imm1;exact xX 2 hat61 [vS p71 x5.Point c71] (vS p71 x5.Point c71) rfl<|zX (hx:=[]) rfl hle rfl (zM rfl) ⟨_,_,rfl,rfl,h71⟩
         intro imm1 hf le1;refine zG ?_;rintro _ _ ⟨rfl,rfl⟩;refine zG ?_;rintro _ _ ⟨p611,c611,rfl,rfl,h611⟩;refine zG ?_;rintro _ _ ⟨p711,c711,rfl,rfl,h711⟩;refine zN<|yG [(41,.bool false),(46,vS p611 x4.Point c611),(51,vS p711 x5.Point c711)] ?_;have hle:=iS imm1;refine yR (laws_lnInts_ok x4.Point x5.Point _ hy6 h611 h711) ?_;rintro imm03 hs2 v2 k2 le2 - ⟨v06,rfl,rfl,rfl⟩ -;have h611:=h611.mono le2;have h711:=h711.mono le2;have hle:=hle.trans le2;exact zX (hx:=[]) rfl hle rfl (zM rfl) ⟨rfl,rfl⟩
       intro imm04 le3;refine zG ?_;rintro _ _ ⟨rfl,rfl⟩;refine zN<|yG [(0,vS p a0 c),(1,vS p1 b c1),(5,vI i),(54,.bool (!y))] ?_;have h:=h.mono le3;have h1:=h1.mono le3;have hle:=hle.trans le3;exact yN rfl<|yU [(0,vS p a0 c),(1,vS p1 b c1),(5,vI i),(54,.bool (!y))]<|yA ⟨_,(zD hM).symm,hle,rfl,rfl⟩
   rintro imm0 hs2 m2 ⟨t54,heq,le4,rfl,rfl⟩;subst o0;have h:=h.mono le4;have h1:=h1.mono le4;have hle:=hle.trans le4;refine zE<|yP hMc ?_ ?_
   · intro hc4 hM;exact zF<|zB<|zY [] [(4,.bool false)]<|zE<|yJ<|yE<|zQ<|zQ<|hr _ _ _ _ (zD hM).symm hle ⟨_,_,(.tmp rfl ResV.nil),zV,⟨_,rfl,rfl,rfl⟩⟩
   intro hc4 hM;exact yD<|zW<|zE<|zB<|zY [] [(5,vI (W (i + 1)))]<|xG<|uA [(0,vS p a0 c),(1,vS p1 b c1),(5,vI (W (i + 1)))]<|ih (W (i + 1)) _ hM hle h h1 hg ho hx hr
 intro hc1 hM;exact xB<|zT<|zT<|yU []<|hx _  (zD hM).symm hle
def M.laws_lnInstances (a0:(List yI)) (b:(List yI)):Option (Bool):=do
 if ((a0.length:Int) != (b.length:Int)) then
  pure false
 else
  match←M.laws_lnInstances_l1 a0 b 0 with
  | .ret r0=>pure r0
  | .done _ =>
   pure true
theorem laws_lnInstances_ok:∀ (a0:(List yI)) (b:(List yI)) r,M.laws_lnInstances a0 b=some r→∀ {imm:Imm}{p c p1 c1},(S4 imm p a0 c)→(S4 imm p1 b c1)→Ret Tryz.prog 24 [vS p a0 c,vS p1 b c1] imm [] (laws_lnInstances_post  r):=by
 intro a0 b r hM imm p c p1 c1 h h1;unfold M.laws_lnInstances at hM;refine yF (fn:=Tryz.f24) (c:=(bodyOf Tryz.f24)) Tryz.func24 rfl rfl ?_;rintro B - -;have hle:=iS imm;refine zF<|zB<|zY [] []<|zE<|zF<|zF<|zB<|zY [] [(10,.bool ((a0.length:Int) != (b.length:Int)))]<|zE<|yP hM ?_ ?_
 · intro hc hM;refine zF<|zB<|zY [] [(4,.bool false)]<|zE<|yJ<|zQ ?_;obtain rfl:=zD hM;exact yQ ⟨_,_,(.tmp rfl ResV.nil),zV,⟨_,rfl,rfl,rfl⟩⟩
 intro hc hM;refine yD<|zE<|zF<|zF<|zB<|zY [] [(5,vI 0)]<|zE<|yB<|uA [(0,vS p a0 c),(1,vS p1 b c1),(5,vI 0)] ?_;obtain ⟨o01,ho01,hMl⟩:=zC hM;refine laws_lnInstances_l1_ok a0 b 0 o01 ho01 iR h h1 (fun _ _ _ h=>h) (fun _ _ h=>h) ?_ ?_
 · intro imm05  heq1 le5;subst o01;have hle:=hle.trans le5;refine yC<|zE<|zF<|zB<|zY [] [(4,.bool true)]<|zE<|yJ ?_;obtain rfl:=zD hMl;exact yQ ⟨_,_,(.tmp rfl ResV.nil),zV,⟨_,rfl,rfl,rfl⟩⟩
 intro r0 imm9 hs9 m9 heq9 le9 hrs9;subst heq9;refine yE<|zQ ?_;obtain rfl:=zD hMl;exact yQ hrs9
end Go.LN
namespace Go.LN
open Go.Proofs
set_option maxRecDepth 20000
def cmp_isNaN_int_post (r:Bool):KT:=fun kk imm' hs' v=>
  ∃ v0,hs'=[]∧v=tupV [v0]∧v0=.bool r
def M.cmp_isNaN_int (x:Int):Option (Bool):=do
 pure (x != x)
theorem cmp_isNaN_int_ok:∀ (x:Int) r,M.cmp_isNaN_int x=some r→∀ {imm:Imm} ,Ret Tryz.prog 172 [vI x] imm [] (cmp_isNaN_int_post  r):=by
 intro x r hM imm;unfold M.cmp_isNaN_int at hM;refine yF (fn:=Tryz.f172) (c:=(bodyOf Tryz.f172)) Tryz.func172 rfl rfl ?_;rintro B - -;have hle:=iS imm;refine zF<|zB<|zY [] []<|zE<|zF<|zB<|zY [] [(2,.bool (x != x))]<|zE<|yJ ?_;obtain rfl:=zD hM;exact yQ ⟨_,_,(.tmp rfl ResV.nil),zV,⟨_,rfl,rfl,rfl⟩⟩
def cmp_Compare_int_post (r:Int):KT:=fun kk imm' hs' v=>
  ∃ v0,hs'=[]∧v=tupV [v0]∧v0=.int .i64 r
def M.cmp_Compare_int (x:Int) (y:Int):Option (Int):=do
 let y1←M.cmp_isNaN_int x
 let y2←M.cmp_isNaN_int y
 if y1 then
  if y2 then
   pure (id 0)
  else
   pure (-1)
 else
  if y2 then
   pure (id 1)
  else
   if (decide (x < y)) then
    pure (-1)
   else
    if (decide (x > y)) then
     pure (id 1)
    else
     pure (id 0)
theorem cmp_Compare_int_ok:∀ (x:Int) (y:Int) r,M.cmp_Compare_int x y=some r→∀ {imm:Imm} ,Ret Tryz.prog 138 [vI x,vI y] imm [] (cmp_Compare_int_post  r):=by
 intro x y r hM imm;unfold M.cmp_Compare_int at hM;refine yF (fn:=Tryz.f138) (c:=(bodyOf Tryz.f138)) Tryz.func138 rfl rfl ?_;rintro B - -;have hle:=iS imm;refine zF<|zB<|zY [] []<|zE<|zF<|zB<|yK 1 [] [(7,vI x)] ?_;obtain ⟨y1,hy,hM⟩:=zC hM;refine yR (cmp_isNaN_int_ok x _ hy ) ?_;rintro imm0 hs2 v2 k2 le - ⟨v0,rfl,rfl,rfl⟩ -;have hle:=hle.trans le;refine zY [] [(5,.bool y1)]<|zE<|zF<|zB<|yK 1 [] [(9,vI y)] ?_;obtain ⟨y2,hy1,hM⟩:=zC hM;refine yR (cmp_isNaN_int_ok y _ hy1 ) ?_;rintro imm01 hs2 v2 k2 le1 - ⟨v01,rfl,rfl,rfl⟩ -;have hle:=hle.trans le1;refine zY [] [(6,.bool y2)]<|zE<|zF<|zF<|zB<|zY [] [(11,.bool y1)]<|zE<|yP hM ?_ ?_
 · intro hc hM;refine zF<|zF<|zB<|zY [] [(12,.bool y2)]<|zE<|yP hM ?_ ?_
   · intro hc1 hM;refine zF<|zB<|zY [] [(4,vI 0)]<|zE<|yJ<|zQ<|zQ ?_;obtain rfl:=zD hM;exact yQ ⟨_,_,(.tmp rfl ResV.nil),zV,⟨_,rfl,rfl,rfl⟩⟩
   intro hc1 hM;refine yD<|zE<|zF<|zB<|zY [] [(4,vI (-1))]<|zE<|yJ<|zQ ?_;obtain rfl:=zD hM;exact yQ ⟨_,_,(.tmp rfl ResV.nil),zV,⟨_,rfl,rfl,rfl⟩⟩
 intro hc hM;refine yD<|zE<|zF<|zF<|zB<|zY [] [(13,.bool y2)]<|zE<|yP hM ?_ ?_
 · intro hc2 hM;refine zF<|zB<|zY [] [(4,vI 1)]<|zE<|yJ<|zQ ?_;obtain rfl:=zD hM;exact yQ ⟨_,_,(.tmp rfl ResV.nil),zV,⟨_,rfl,rfl,rfl⟩⟩
 intro hc2 hM;refine yD<|zE<|zF<|zF<|zB<|zY [] [(16,.bool (decide (x < y)))]<|zE<|yP hM ?_ ?_
 · intro hc3 hM;refine zF<|zB<|zY [] [(4,vI (-1))]<|zE<|yJ<|zQ ?_;obtain rfl:=zD hM;exact yQ ⟨_,_,(.tmp rfl ResV.nil),zV,⟨_,rfl,rfl,rfl⟩⟩
 intro hc3 hM;refine yD<|zE<|zF<|zF<|zB<|zY [] [(19,.bool (decide (x > y)))]<|zE<|yP hM ?_ ?_
 · intro hc4 hM;refine zF<|zB<|zY [] [(4,vI 1)]<|zE<|yJ<|zQ ?_;obtain rfl:=zD hM;exact yQ ⟨_,_,(.tmp rfl ResV.nil),zV,⟨_,rfl,rfl,rfl⟩⟩
 intro hc4 hM;refine yD<|zE<|zF<|zB<|zY [] [(4,vI 0)]<|zE<|yJ ?_;obtain rfl:=zD hM;exact yQ ⟨_,_,(.tmp rfl ResV.nil),zV,⟨_,rfl,rfl,rfl⟩⟩
def slices_Compare_int_int_post (r:Int):KT:=fun kk imm' hs' v=>
  ∃ v0,hs'=[]∧v=tupV [v0]∧v0=.int .i64 r
def M.slices_Compare_int_int_l1 (s1:(List Int)) (s2:(List Int)) (t11:Int):Option (Out Unit (Int)):=do
 if (decide (t11 < (s1.length:Int))) then
  let x←idx s1 t11
  if (decide (t11 ≥ (s2.length:Int))) then
   pure (.ret 1)
  else
   let x1←idx s2 t11
   let y←M.cmp_Compare_int x x1
   if (y != 0) then
    pure (.ret y)
   else
    M.slices_Compare_int_int_l1 s1 s2 (W (t11 + 1))
 else
  pure (.done ())
 partial_fixpoint
theorem slices_Compare_int_int_l1_ok (s1:(List Int)) (s2:(List Int)):∀ (t11:Int) (o:Out Unit (Int)),M.slices_Compare_int_int_l1 s1 s2 t11=some o→∀ {B}{imm0 imm:Imm}{Q p c p1 c1},imm0.le imm→(S4 imm p s1 c)→(S4 imm p1 s2 c1)→(∀ l a w,¬Q (.goto l) a w)→(∀ a w,¬Q .outgrown a w)→(∀ (imm':Imm) ,o=(.done ())→imm0.le imm'→T 36 B Q (.exit 0) imm' [] [(0,vS p s1 c),(1,vS p1 s2 c1)])→(∀ r imm' hs' m',o=(.ret r)→imm0.le imm'→RS Tryz.prog Tryz.f81 B (slices_Compare_int_int_post  r) imm' hs' m'→T 36 B Q .ret imm' hs' m')→J Tryz.prog 36 B (nav (bodyOf Tryz.f81) [1,0,1,0]) Q imm [] [(0,vS p s1 c),(1,vS p1 s2 c1),(9,vS p s1 c),(10,vI (s1.length:Int)),(11,vI t11)]:=by
 refine M.slices_Compare_int_int_l1.partial_correctness s1 s2 _ ?_;intro self ih t11 o hM B imm0 imm Q p c p1 c1 hle h h1 hg ho hx hr;refine xF hg ho<|zF<|zB<|zY [] [(12,.bool (decide (t11 < (s1.length:Int))))]<|zE<|zF<|yP hM ?_ ?_
 · intro hc hM;refine yD<|zE<|zF<|yB<|zF<|zB<|yK 1 [] [(13,vI t11)] ?_;obtain ⟨x,hy,hM⟩:=zC hM;refine wJ rfl rfl h hy ?_;intro ad ccs hat hrep;obtain rfl:=hrep;refine xX 0 hat [vI x] (vI x) rfl<|zY [] [(5,vI t11),(6,vI x)]<|zE<|zF<|zF<|zB<|zY [] [(19,.bool (decide (t11 ≥ (s2.length:Int))))]<|zE<|yP hM ?_ ?_
   · intro hc1 hM;exact zF<|zB<|zY [] [(4,vI 1)]<|zE<|yJ<|zQ<|yE<|zQ<|zQ<|hr _ _ _ _ (zD hM).symm hle ⟨_,_,(.tmp rfl ResV.nil),zV,⟨_,rfl,rfl,rfl⟩⟩
   intro hc1 hM;refine yD<|zE<|zF<|zB<|yK 2 [] [(20,vS p1 s2 c1),(21,vI t11)] ?_;obtain ⟨x1,hy1,hM⟩:=zC hM;refine wJ rfl rfl h1 hy1 ?_;intro ad1 ccs1 hat1 hrep1;obtain rfl:=hrep1;refine xX 0 hat1 [vI x1] (vI x1) rfl<|zY [] [(7,vI x1)]<|zE<|zF<|zB<|yK 2 [] [(24,vI x),(25,vI x1)] ?_;obtain ⟨y,hy2,hM⟩:=zC hM;refine yR (cmp_Compare_int_ok x x1 _ hy2 ) ?_;rintro imm0 hs2 v2 k2 le - ⟨v0,rfl,rfl,rfl⟩ -;have h:=h.mono le;have h1:=h1.mono le;have hle:=hle.trans le;refine zY [] [(8,vI y)]<|zE<|zF<|zB<|zY [] [(28,.bool (y != 0))]<|zE<|yP hM ?_ ?_
   · intro hc2 hM;exact zF<|zB<|zY [] [(4,vI y)]<|zE<|yJ<|yE<|zQ<|zQ<|hr _ _ _ _ (zD hM).symm hle ⟨_,_,(.tmp rfl ResV.nil),zV,⟨_,rfl,rfl,rfl⟩⟩
   intro hc2 hM;exact yD<|zW<|zE<|zB<|zY [] [(11,vI (W (t11 + 1)))]<|xG<|uA [(0,vS p s1 c),(1,vS p1 s2 c1),(9,vS p s1 c),(10,vI (s1.length:Int)),(11,vI (W (t11 + 1)))]<|ih (W (t11 + 1)) _ hM hle h h1 hg ho hx hr
 intro hc hM;exact xB<|zT<|zT<|yU [(0,vS p s1 c),(1,vS p1 s2 c1)]<|hx _  (zD hM).symm hle
def M.slices_Compare_int_int (s1:(List Int)) (s2:(List Int)):Option (Int):=do
 match←M.slices_Compare_int_int_l1 s1 s2 0 with
 | .ret r0=>pure r0
 | .done _ =>
  if (decide ((s1.length:Int) < (s2.length:Int))) then
   pure (-1)
  else
   pure (id 0)
theorem slices_Compare_int_int_ok:∀ (s1:(List Int)) (s2:(List Int)) r,M.slices_Compare_int_int s1 s2=some r→∀ {imm:Imm}{p c p1 c1},(S4 imm p s1 c)→(S4 imm p1 s2 c1)→Ret Tryz.prog 81 [vS p s1 c,vS p1 s2 c1] imm [] (slices_Compare_int_int_post  r):=by
 intro s1 s2 r hM imm p c p1 c1 h h1;unfold M.slices_Compare_int_int at hM;refine yF (fn:=Tryz.f81) (c:=(bodyOf Tryz.f81)) Tryz.func81 rfl rfl ?_;rintro B - -;have hle:=iS imm;refine zF<|zB<|zY [] []<|zE<|zF<|zF<|zB<|zY [] [(9,vS p s1 c),(10,vI (s1.length:Int)),(11,vI 0)]<|zE<|yB<|uA [(0,vS p s1 c),(1,vS p1 s2 c1),(9,vS p s1 c),(10,vI (s1.length:Int)),(11,vI 0)] ?_;obtain ⟨o0,ho0,hMl⟩:=zC hM;refine slices_Compare_int_int_l1_ok s1 s2 0 o0 ho0 iR h h1 (fun _ _ _ h=>h) (fun _ _ h=>h) ?_ ?_
 · intro imm01  heq le1;subst o0;have h:=h.mono le1;have h1:=h1.mono le1;have hle:=hle.trans le1;refine yC<|zE<|zF<|zF<|zB<|zY [] [(35,.bool (decide ((s1.length:Int) < (s2.length:Int))))]<|zE<|yP hMl ?_ ?_
   · intro hc3 hM;refine zF<|zB<|zY [] [(4,vI (-1))]<|zE<|yJ<|zQ ?_;obtain rfl:=zD hM;exact yQ ⟨_,_,(.tmp rfl ResV.nil),zV,⟨_,rfl,rfl,rfl⟩⟩
   intro hc3 hM;refine yD<|zE<|zF<|zB<|zY [] [(4,vI 0)]<|zE<|yJ ?_;obtain rfl:=zD hM;exact yQ ⟨_,_,(.tmp rfl ResV.nil),zV,⟨_,rfl,rfl,rfl⟩⟩
 intro r0 imm9 hs9 m9 heq9 le9 hrs9;subst heq9;refine yE<|zQ ?_;obtain rfl:=zD hMl;exact yQ hrs9
def impl_LexLess_post (r:Bool):KT:=fun kk imm' hs' v=>
  ∃ v0,hs'=[]∧v=tupV [v0]∧v0=.bool r
def M.impl_LexLess (p:(List Int)) (q:(List Int)):Option (Bool):=do
 let y←M.slices_Compare_int_int p q
 pure (decide (y < 0))
theorem impl_LexLess_ok:∀ (p:(List Int)) (q:(List Int)) r,M.impl_LexLess p q=some r→∀ {imm:Imm}{p1 c p2 c1},(S4 imm p1 p c)→(S4 imm p2 q c1)→Ret Tryz.prog 34 [vS p1 p c,vS p2 q c1] imm [] (impl_LexLess_post  r):=by
 intro p q r hM imm p1 c p2 c1 h h1;unfold M.impl_LexLess at hM;refine yF (fn:=Tryz.f34) (c:=(bodyOf Tryz.f34)) Tryz.func34 rfl rfl ?_;rintro B - -;have hle:=iS imm;refine zF<|zB<|zY [] []<|zE<|zF<|zB<|yK 2 [] [(5,vS p1 p c),(6,vS p2 q c1)] ?_;obtain ⟨y,hy,hM⟩:=zC hM;refine yR (slices_Compare_int_int_ok p q _ hy h h1) ?_;rintro imm0 hs2 v2 k2 le - ⟨v0,rfl,rfl,rfl⟩ -;have hle:=hle.trans le;refine zY [] [(4,.bool (decide (y < 0)))]<|zE<|yJ ?_;obtain rfl:=zD hM;exact yQ ⟨_,_,(.tmp rfl ResV.nil),zV,⟨_,rfl,rfl,rfl⟩⟩
def laws_FnInstanceOrder_post (r:Bool):KT:=fun kk imm' hs' v=>
  ∃ v0,hs'=[]∧v=tupV [v0]∧v0=.bool r
def M.laws_FnInstanceOrder_l1 (y1:(List yI)) (i:Int):Option (Out Unit (Bool)):=do
 if (decide (i < (y1.length:Int))) then
  let x←idx y1 (W (i - 1))
  let x1←idx y1 i
  let t75←(do
    if (decide (x.Part > x1.Part)) then
     pure true
    else
     if (x.Part == x1.Part) then
      let y4←M.impl_LexLess x1.Point x.Point
      if y4 then
       pure true
      else
       if (x.Part == x1.Part) then
        let y5←M.laws_lnInts x.Point x1.Point
        if y5 then
         pure ((W (x.Stmt + 1)) != x1.Stmt)
        else
         pure false
       else
        pure false
     else
      if (x.Part == x1.Part) then
       let y6←M.laws_lnInts x.Point x1.Point
       if y6 then
        pure ((W (x.Stmt + 1)) != x1.Stmt)
       else
        pure false
      else
       pure false
      : Option Bool)
  if t75 then
   pure (.ret false)
  else
   M.laws_FnInstanceOrder_l1 y1 (W (i + 1))
 else
  pure (.done ())
 partial_fixpoint
theorem laws_FnInstanceOrder_l1_ok (y1:(List yI)):∀ (i:Int) (o:Out Unit (Bool)),M.laws_FnInstanceOrder_l1 y1 i=some o→∀ {B}{imm0 imm:Imm}{Q p3 c3},imm0.le imm→(S4 imm p3 y1 c3)→(∀ l a w,¬Q (.goto l) a w)→(∀ a w,¬Q .outgrown a w)→(∀ (imm':Imm) ,o=(.done ())→imm0.le imm'→T 76 B Q (.exit 0) imm' [] [])→(∀ r imm' hs' m',o=(.ret r)→imm0.le imm'→RS Tryz.prog Tryz.f10 B (laws_FnInstanceOrder_post  r) imm' hs' m'→T 76 B Q .ret imm' hs' m')→J Tryz.prog 76 B (nav (bodyOf Tryz.f10) [1,1,1,1,1,0,1,0]) Q imm [] [(4,vS p3 y1 c3),(5,vI i)]:=by
 refine M.laws_FnInstanceOrder_l1.partial_correctness y1 _ ?_;intro self ih i o hM B imm0 imm Q p3 c3 hle h4 hg ho hx hr;refine xF hg ho<|zF<|zF<|zB<|zY [] [(23,.bool (decide (i < (y1.length:Int))))]<|zE<|yP hM ?_ ?_
 · intro hc2 hM;refine yD<|zE<|zF<|yB<|zF<|zB<|yK 3 [] [(26,vS p3 y1 c3),(28,vI (W (i - 1)))] ?_;obtain ⟨x,hy4,hM⟩:=zC hM;refine wJ rfl rfl h4 hy4 ?_;intro ad ccs hat hrep;obtain ⟨v06,rfl,h7⟩:=impl_Instance_open hrep;obtain ⟨p5,c5,rfl⟩:=h7.form;refine xX 0 hat (cInst x p5 c5) (vA (cInst x p5 c5)) rfl<|uJ [vI 0,vI 0,z0] ?_;intro b1 hb1;refine xI 0 (cInst x p5 c5) [hB b1 (cInst x p5 c5)] rfl rfl rfl rfl<|yN rfl<|zE<|zF<|zB<|yK 2 [] [(31,vS p3 y1 c3),(32,vI i)] ?_;obtain ⟨x1,hy5,hM⟩:=zC hM;refine wJ rfl rfl h4 hy5 ?_;intro ad1 ccs1 hat1 hrep1;obtain ⟨v07,rfl,h8⟩:=impl_Instance_open hrep1;obtain ⟨p6,c6,rfl⟩:=h8.form;refine xX 0 hat1 (cInst x1 p6 c6) (vA (cInst x1 p6 c6)) rfl<|uJ [vI 0,vI 0,z0] ?_;intro b2 hb2;refine xI 0 (cInst x1 p6 c6) [hB b2 (cInst x1 p6 c6),hB b1 (cInst x p5 c5)] rfl rfl rfl rfl<|yN rfl<|zE<|zF ?_;obtain ⟨o0,ho0,hMc⟩:=zC hM;refine yT (fun imm' hs' m'=>∃ (t75:Bool),o0=t75∧imm.le imm'∧hs'=[]∧m'=[(4,vS p3 y1 c3),(5,vI i),(75,.bool t75)]) ?_ ?_
   · have hle0:=hle;have hle:=iS imm;refine zB<|yK 6 [1,0] [(40,.bool (decide (x.Part > x1.Part)))] ?_;cases hc3:(decide (x.Part > x1.Part)) with
     | true =>
      have hM0:=zU hc3 ho0
      try rw [hc3]
      exact zY [] [(75,.bool true)]<|wE (zL [] rfl (by decide))<|yU [(4,vS p3 y1 c3),(5,vI i),(75,.bool true)]<|yA ⟨_,(zD hM0).symm,hle,rfl,rfl⟩
     | false =>
      have hM01:=zS hc3 ho0
      try rw [hc3]
      refine yK 12 [1,0] [(46,.bool (x.Part == x1.Part))] ?_;cases hc4:(x.Part == x1.Part) with
      | true =>
       have hM02:=zU hc4 hM01
       try rw [hc4]
       refine yK 16 [0,1] [(48,vS p6 x1.Point c6),(50,vS p5 x.Point c5)] ?_;obtain ⟨y4,hy6,hM⟩:=zC hM02;refine yR (impl_LexLess_ok x1.Point x.Point _ hy6 h8 h7) ?_;rintro imm05 hs2 v2 k2 le4 - ⟨v08,rfl,rfl,rfl⟩ -;have h4:=h4.mono le4;have h8:=h8.mono le4;have h7:=h7.mono le4;have hle:=hle.trans le4;refine yK 20 [] [(54,.bool y4)] ?_;cases hc5:y4 with
       | true =>
        have hM03:=zU hc5 hM
        try rw [hc5]
        exact zY [] [(75,.bool true)]<|wE (zL [] rfl (by decide))<|yU [(4,vS p3 y1 c3),(5,vI i),(75,.bool true)]<|yA ⟨_,(zD hM03).symm,hle,rfl,rfl⟩
       | false =>
        have hM04:=zS hc5 hM
        try rw [hc5]
        refine yK 26 [1,0] [(60,.bool (x.Part == x1.Part))] ?_;cases hc6:(x.Part == x1.Part) with
        | true =>
         have hM05:=zU hc6 hM04
         try rw [hc6]
         refine yK 30 [1,0] [(62,vS p5 x.Point c5),(64,vS p6 x1.Point c6)] ?_;obtain ⟨y5,hy7,hM⟩:=zC hM05;refine yR (laws_lnInts_ok x.Point x1.Point _ hy7 h7 h8) ?_;rintro imm06 hs2 v2 k2 le5 - ⟨v09,rfl,rfl,rfl⟩ -;have h4:=h4.mono le5;have h8:=h8.mono le5;have h7:=h7.mono le5;have hle:=hle.trans le5;refine yK 33 [] [(67,.bool y5)] ?_;cases hc7:y5 with
         | true =>
          have hM06:=zU hc7 hM
          try rw [hc7]
          exact zY [1,0] [(75,.bool ((W (x.Stmt + 1)) != x1.Stmt))]<|wE (zL [] rfl (by decide))<|yU [(4,vS p3 y1 c3),(5,vI i),(75,.bool ((W (x.Stmt + 1)) != x1.Stmt))]<|yA ⟨_,(zD hM06).symm,hle,rfl,rfl⟩
         | false =>
          have hM07:=zS hc7 hM
          try rw [hc7]
          exact zY [] [(75,.bool false)]<|wE (zL [] rfl (by decide))<|yU [(4,vS p3 y1 c3),(5,vI i),(75,.bool false)]<|yA ⟨_,(zD hM07).symm,hle,rfl,rfl⟩
        | false =>
         have hM08:=zS hc6 hM04
         try rw [hc6]
         exact zY [] [(75,.bool false)]<|wE (zL [] rfl (by decide))<|yU [(4,vS p3 y1 c3),(5,vI i),(75,.bool false)]<|yA ⟨_,(zD hM08).symm,hle,rfl,rfl⟩
      | false =>
       have hM09:=zS hc4 hM01
       try rw [hc4]
       refine yK 26 [1,0] [(54,.bool false),(60,.bool (x.Part == x1.Part))] ?_;cases hc8:(x.Part == x1.Part) with
       | true =>
        have hM010:=zU hc8 hM09
        try rw [hc8]
        refine yK 30 [1,0] [(62,vS p5 x.Point c5),(64,vS p6 x1.Point c6)] ?_;obtain ⟨y6,hy8,hM⟩:=zC hM010;refine yR (laws_lnInts_ok x.Point x1.Point _ hy8 h7 h8) ?_;rintro imm07 hs2 v2 k2 le6 - ⟨v010,rfl,rfl,rfl⟩ -;have h4:=h4.mono le6;have h8:=h8.mono le6;have h7:=h7.mono le6;have hle:=hle.trans le6;refine yK 33 [] [(67,.bool y6)] ?_;cases hc9:y6 with
        | true =>
         have hM011:=zU hc9 hM
         try rw [hc9]
         exact zY [1,0] [(75,.bool ((W (x.Stmt + 1)) != x1.Stmt))]<|wE (zL [] rfl (by decide))<|yU [(4,vS p3 y1 c3),(5,vI i),(75,.bool ((W (x.Stmt + 1)) != x1.Stmt))]<|yA ⟨_,(zD hM011).symm,hle,rfl,rfl⟩
        | false =>
         have hM012:=zS hc9 hM
         try rw [hc9]
         exact zY [] [(75,.bool false)]<|wE (zL [] rfl (by decide))<|yU [(4,vS p3 y1 c3),(5,vI i),(75,.bool false)]<|yA ⟨_,(zD hM012).symm,hle,rfl,rfl⟩
       | false =>
        have hM013:=zS hc8 hM09
        try rw [hc8]
        exact zY [] [(75,.bool false)]<|wE (zL [] rfl (by decide))<|yU [(4,vS p3 y1 c3),(5,vI i),(75,.bool false)]<|yA ⟨_,(zD hM013).symm,hle,rfl,rfl⟩
   rintro imm04 hs2 m2 ⟨t75,heq,le7,rfl,rfl⟩;subst o0;have h4:=h4.mono le7;have hle:=hle.trans le7;refine zE<|yP hMc ?_ ?_
   · intro hc10 hM;exact zF<|zB<|zY [] [(2,.bool false)]<|zE<|yJ<|yE<|zQ<|zQ<|hr _ _ _ _ (zD hM).symm hle ⟨_,_,(.tmp rfl ResV.nil),zV,⟨_,rfl,rfl,rfl⟩⟩
   intro hc10 hM;exact yD<|zW<|zE<|zB<|zY [] [(5,vI (W (i + 1)))]<|xG<|uA [(4,vS p3 y1 c3),(5,vI (W (i + 1)))]<|ih (W (i + 1)) _ hM hle h4 hg ho hx hr
 intro hc2 hM;exact xB<|zT<|zT<|yU []<|hx _  (zD hM).symm hle
def M.laws_FnInstanceOrder (code:(List UInt8)):Option (Bool):=do
 if (decide ((code.length:Int) > 1048576)) then
  pure true
 else
  let y←M.spec_DrawProgramInstances code
  let y1←M.impl_ProgramInstances y
  let y2←M.spec_ProgramInstances y
  let y3←M.laws_lnInstances y1 y2
  if (!y3) then
   pure false
  else
   match←M.laws_FnInstanceOrder_l1 y1 1 with
   | .ret r0=>pure r0
   | .done _ =>
    pure true
theorem laws_FnInstanceOrder_ok:∀ (code:(List UInt8)) r,M.laws_FnInstanceOrder code=some r→∀ {imm:Imm}{p c},(S4 imm p code c)→Ret Tryz.prog 10 [vS p code c] imm [] (laws_FnInstanceOrder_post  r):=by
 intro code r hM imm p c h;unfold M.laws_FnInstanceOrder at hM;refine yF (fn:=Tryz.f10) (c:=(bodyOf Tryz.f10)) Tryz.func10 rfl rfl ?_;rintro B - -;have hle:=iS imm;refine zF<|zB<|zY [] []<|zE<|zF<|zF<|zB<|zY [] [(10,.bool (decide ((code.length:Int) > 1048576)))]<|zE<|yP hM ?_ ?_
 · intro hc hM;refine zF<|zB<|zY [] [(2,.bool true)]<|zE<|yJ<|zQ ?_;obtain rfl:=zD hM;exact yQ ⟨_,_,(.tmp rfl ResV.nil),zV,⟨_,rfl,rfl,rfl⟩⟩
 intro hc hM;refine yD<|zE<|zF<|zB<|yK 1 [] [(11,vS p code c)] ?_;obtain ⟨y,hy,hM⟩:=zC hM;refine yR (spec_DrawProgramInstances_ok code _ hy h) ?_;rintro imm0 hs2 v2 k2 le - ⟨v0,rfl,rfl,⟨cs,rfl,h1⟩⟩ -;have hle:=hle.trans le;obtain ⟨v01,v02,rfl,h2,h3⟩:=zFp h1;obtain ⟨p1,c1,rfl⟩:=h2.form;obtain ⟨p2,c2,rfl⟩:=h3.form;refine uJ zTwo ?_;intro b hb;refine xI 0 (cProg y p1 c1 p2 c2) [hB b (cProg y p1 c1 p2 c2)] rfl rfl rfl rfl<|yN rfl<|zE<|zF<|zB<|yK 1 [0] [(13,vA (cProg y p1 c1 p2 c2))] ?_;obtain ⟨y1,hy1,hM⟩:=zC hM;refine yR (impl_ProgramInstances_ok y _ hy1 h2 h3) ?_;rintro imm01 hs2 v2 k2 le1 - ⟨v03,rfl,rfl,h4⟩ -;have h2:=h2.mono le1;have h3:=h3.mono le1;have hle:=hle.trans le1;obtain ⟨p3,c3,rfl⟩:=h4.form;refine zY [] [(4,vS p3 y1 c3)]<|zE<|zF<|zF<|zB<|yK 2 [0] [(15,vS p3 y1 c3),(16,vA (cProg y p1 c1 p2 c2))] ?_;obtain ⟨y2,hy2,hM⟩:=zC hM;refine yR (spec_ProgramInstances_ok y _ hy2 h2 h3) ?_;rintro imm02 hs2 v2 k2 le2 - ⟨v04,rfl,rfl,h5⟩ -;have h4:=h4.mono le2;have h2:=h2.mono le2;have h3:=h3.mono le2;have hle:=hle.trans le2;obtain ⟨p4,c4,rfl⟩:=h5.form;obtain ⟨y3,hy3,hM⟩:=zC hM;refine yR (laws_lnInstances_ok y1 y2 _ hy3 h4 h5) ?_;rintro imm03 hs2 v2 k2 le3 - ⟨v05,rfl,rfl,rfl⟩ -;have h4:=h4.mono le3;have h2:=h2.mono le3;have h3:=h3.mono le3;have hle:=hle.trans le3;refine zY [] [(19,.bool (!y3))]<|zE<|yP hM ?_ ?_
 · intro hc1 hM;refine zF<|zB<|zY [] [(2,.bool false)]<|zE<|yJ<|zQ ?_;obtain rfl:=zD hM;exact yQ ⟨_,_,(.tmp rfl ResV.nil),zV,⟨_,rfl,rfl,rfl⟩⟩
 intro hc1 hM;refine yD<|zE<|zF<|zF<|zB<|zY [] [(5,vI 1)]<|zE<|yB<|qR (zL [] (hs':=[]) rfl (by decide))<|uA [(4,vS p3 y1 c3),(5,vI 1)] ?_;obtain ⟨o01,ho01,hMl⟩:=zC hM;refine laws_FnInstanceOrder_l1_ok y1 1 o01 ho01 iR h4 (fun _ _ _ h=>h) (fun _ _ h=>h) ?_ ?_
 · intro imm08  heq1 le8;subst o01;have hle:=hle.trans le8;refine yC<|zE<|zF<|zB<|zY [] [(2,.bool true)]<|zE<|yJ ?_;obtain rfl:=zD hMl;exact yQ ⟨_,_,(.tmp rfl ResV.nil),zV,⟨_,rfl,rfl,rfl⟩⟩
 intro r0 imm9 hs9 m9 heq9 le9 hrs9;subst heq9;refine yE<|zQ ?_;obtain rfl:=zD hMl;exact yQ hrs9
end Go.LN
namespace Go.LN
theorem l4Instances_l3_aux (p : zZ) (i : Int) (y : List (List Int)) (k0 : Int) (q : zP) (b : Nat) (h0 : VP q) (h1 : 0 ≤ i) (h2 : i < (p.Parts.length : Int)) (h3 : p.Parts[i.toNat]? = some q) (h4 : y.length ≤ 121) (h5 : ∀ q ∈ y, q.length ≤ 4) (h6 : 0 ≤ k0) (h7 : k0 < (y.length : Int)) : ∀ (k : Nat) (out : List yI) (s : Int), Tot (M.spec_l4Instances_l3 p i y k0 out s) ((q.Body.length : Int) - s < (k : Int) ∧ 0 < (k : Int) ∧ 0 ≤ s ∧ s ≤ (q.Body.length : Int) ∧ (out.length : Int) ≤ b + s ∧ b ≤ 100000 ∧ (∀ x ∈ out, InI p x)) (fun φ => ∀ r, r.length ≤ b + 4 → (∀ x ∈ r, InI p x) → φ r) := by
  obtain ⟨h01, h02, h03⟩ := h0
  intro k
  induction k with
  | zero => intro out s; exact ⟨fun h => absurd h.2.1 (by omega)⟩
  | succ k ih =>
    intro out s; refine ⟨?_⟩; rintro ⟨v0, v1, v2, v3, v4, v5, v6⟩ φ hk; unfold M.spec_l4Instances_l3
    refine Ok.idx_known h3 h1 ?_
    refine Ok.ite_dec (fun hs => ?_) fun hs => ?_
    · refine Ok.idx (by omega) (by omega) fun x hx _ => ?_
      have hx4 := h5 x hx
      refine Ok.app S ?_
      refine Ok.app (by simp only [List.length_append, List.length_cons, List.length_nil]; omega) ?_
      have hI : InI p (yI.mk i s ([] ++ x)) := InI.mk h1 h2 h3 v2 (by omega)
      have hW : W (s + 1) = s + 1 := sR (by omega) (by omega)
      rw [hW]
      exact Ok.go
    · exact Ok.go
theorem l4Instances_l3_tot (p : zZ) (i : Int) (y : List (List Int)) (k0 : Int) (q : zP) (b : Nat) (out : List yI) (s : Int) : Tot (M.spec_l4Instances_l3 p i y k0 out s) (VP q ∧ 0 ≤ i ∧ i < (p.Parts.length : Int) ∧ p.Parts[i.toNat]? = some q ∧ y.length ≤ 121 ∧ (∀ q ∈ y, q.length ≤ 4) ∧ 0 ≤ k0 ∧ k0 < (y.length : Int) ∧ 0 ≤ s ∧ s ≤ (q.Body.length : Int) ∧ (out.length : Int) ≤ b + s ∧ b ≤ 100000 ∧ (∀ x ∈ out, InI p x)) (fun φ => ∀ r, r.length ≤ b + 4 → (∀ x ∈ r, InI p x) → φ r) := ⟨by
  rintro ⟨h0, h1, h2, h3, h4, h5, h6, h7, v0, v1, v2, v3, v4⟩ φ hk
  exact (l4Instances_l3_aux p i y k0 q b h0 h1 h2 h3 h4 h5 h6 h7 (((q.Body.length : Int) - s).toNat + 1) out s).ok ⟨by omega, by omega, v0, v1, v2, v3, v4⟩ φ hk⟩
theorem l4Instances_l2_aux (p : zZ) (i : Int) (y : List (List Int)) (q : zP) (b : Nat) (h0 : VP q) (h1 : 0 ≤ i) (h2 : i < (p.Parts.length : Int)) (h3 : p.Parts[i.toNat]? = some q) (h4 : y.length ≤ 121) (h5 : ∀ q ∈ y, q.length ≤ 4) : ∀ (k : Nat) (out : List yI) (k0 : Int), Tot (M.spec_l4Instances_l2 p i y out k0) ((y.length : Int) - k0 < (k : Int) ∧ 0 < (k : Int) ∧ 0 ≤ k0 ∧ k0 ≤ (y.length : Int) ∧ (out.length : Int) ≤ b + 4 * k0 ∧ b ≤ 10000 ∧ (∀ x ∈ out, InI p x)) (fun φ => ∀ r, r.length ≤ b + 484 → (∀ x ∈ r, InI p x) → φ r) := by
  intro k
  induction k with
  | zero => intro out k0; exact ⟨fun h => absurd h.2.1 (by omega)⟩
  | succ k ih =>
    intro out k0; refine ⟨?_⟩; rintro ⟨v0, v1, v2, v3, v4, v5, v6⟩ φ hk; unfold M.spec_l4Instances_l2
    have tl := fun o kk => l4Instances_l3_tot p i y kk q o.length o 0
    exact Ok.go
theorem l4Instances_l2_tot (p : zZ) (i : Int) (y : List (List Int)) (q : zP) (b : Nat) (out : List yI) (k0 : Int) : Tot (M.spec_l4Instances_l2 p i y out k0) (VP q ∧ 0 ≤ i ∧ i < (p.Parts.length : Int) ∧ p.Parts[i.toNat]? = some q ∧ y.length ≤ 121 ∧ (∀ q ∈ y, q.length ≤ 4) ∧ 0 ≤ k0 ∧ k0 ≤ (y.length : Int) ∧ (out.length : Int) ≤ b + 4 * k0 ∧ b ≤ 10000 ∧ (∀ x ∈ out, InI p x)) (fun φ => ∀ r, r.length ≤ b + 484 → (∀ x ∈ r, InI p x) → φ r) := ⟨by
  rintro ⟨h0, h1, h2, h3, h4, h5, v0, v1, v2, v3, v4⟩ φ hk
  exact (l4Instances_l2_aux p i y q b h0 h1 h2 h3 h4 h5 (((y.length : Int) - k0).toNat + 1) out k0).ok ⟨by omega, by omega, v0, v1, v2, v3, v4⟩ φ hk⟩
theorem l4Instances_l1_aux (p : zZ) (h0 : SG 1000 p) (h1 : VG p) : ∀ (k : Nat) (out : List yI) (i : Int), Tot (M.spec_l4Instances_l1 p out i) ((p.Parts.length : Int) - i < (k : Int) ∧ 0 < (k : Int) ∧ 0 ≤ i ∧ i ≤ (p.Parts.length : Int) ∧ (out.length : Int) ≤ 484 * i ∧ (∀ x ∈ out, InI p x)) (fun φ => ∀ r, r.length ≤ 2000 → (∀ x ∈ r, InI p x) → φ r) := by
  obtain ⟨⟨h00, h01⟩, h02, h03⟩ := id h0; obtain ⟨h10, h11, h12⟩ := id h1
  intro k
  induction k with
  | zero => intro out i; exact ⟨fun h => absurd h.2.1 (by omega)⟩
  | succ k ih =>
    intro out i; refine ⟨?_⟩; rintro ⟨v0, v1, v2, v3, v4, v5⟩ φ hk; unfold M.spec_l4Instances_l1
    refine Ok.ite_dec (fun hs => ?_) fun hs => ?_
    · refine Ok.idx (by omega) (by omega) fun q hq hqi => ?_
      have tl := fun y o => l4Instances_l2_tot p i y q o.length o 0
      have s1 := (h03 q hq).1
      obtain ⟨s2, s3, s4⟩ := h12 q hq
      have s5 : VP q := ⟨s2, s3, s4⟩
      exact Ok.go
    · exact Ok.go
instance l4Instances_l1_tot (p : zZ) (out : List yI) (i : Int) : Tot (M.spec_l4Instances_l1 p out i) (SG 1000 p ∧ VG p ∧ 0 ≤ i ∧ i ≤ (p.Parts.length : Int) ∧ (out.length : Int) ≤ 484 * i ∧ (∀ x ∈ out, InI p x)) (fun φ => ∀ r, r.length ≤ 2000 → (∀ x ∈ r, InI p x) → φ r) := ⟨by
  rintro ⟨h0, h1, v0, v1, v2, v3⟩ φ hk
  exact (l4Instances_l1_aux p h0 h1 (((p.Parts.length : Int) - i).toNat + 1) out i).ok ⟨by omega, by omega, v0, v1, v2, v3⟩ φ hk⟩
instance l4Instances_tot (p : zZ) : Tot (M.spec_l4Instances p) (SG 1000 p ∧ VG p) (fun φ => ∀ r, r.length ≤ 2000 → (∀ x ∈ r, InI p x) → φ r) := ⟨by
  rintro ⟨h0, h1⟩ φ hk
  unfold M.spec_l4Instances
  exact Ok.go⟩
end Go.LN
namespace Go.LN
theorem implInstP (P : zZ) (h : BG P) : M.impl_ProgramInstances P = some (if validP P then progI P else []) := by
  unfold M.impl_ProgramInstances validP
  rw [implInstances P h]
  cases progB P with
  | false => rfl
  | true => cases hd : decide ((progI P).length ≤ 120) <;> simp [hd]
end Go.LN
namespace Go.LN
theorem drawProg (code : List UInt8) : Ok (M.spec_DrawProgramValid code) (fun y => BG y ∧ AR y.Arrays) := by
  unfold M.spec_DrawProgramValid
  refine Ok.call (zHm code) trivial fun s hs => Ok.call (zIJ s) ⟨by omega, by omega⟩ fun a t g1 g2 g3 => ?_
  refine Ok.bind (mut4 t a g1.dp (by omega) (by omega)) fun p hp => ?_
  obtain ⟨p1, p2⟩ := p
  exact Ok.pure hp.1
end Go.LN
