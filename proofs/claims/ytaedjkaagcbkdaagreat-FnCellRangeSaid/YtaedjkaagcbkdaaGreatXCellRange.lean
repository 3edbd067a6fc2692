/- Helper of the proof (see the last text). -/
import Derived.Test.YtaedjkaagcbkdaaGreatLnA
import Derived.Test.YtaedjkaagcbkdaaGreatLnB
import Derived.Test.YtaedjkaagcbkdaaGreatLnC
import Derived.Test.YtaedjkaagcbkdaaGreatLnD
import Derived.Test.YtaedjkaagcbkdaaGreatLnE
import Derived.Test.YtaedjkaagcbkdaaGreatLnF
import Derived.Test.YtaedjkaagcbkdaaGreatLnG
import Derived.Test.YtaedjkaagcbkdaaGreatLnH
import Derived.Test.YtaedjkaagcbkdaaGreatLnI
import Derived.Test.YtaedjkaagcbkdaaGreatLnJ
import Derived.Test.YtaedjkaagcbkdaaGreatLnK
import Derived.Test.YtaedjkaagcbkdaaGreatLnL
import Derived.Test.YtaedjkaagcbkdaaGreatLnM
import Derived.Test.YtaedjkaagcbkdaaGreatLnN
import Derived.Test.YtaedjkaagcbkdaaGreatLnO
import Derived.Test.YtaedjkaagcbkdaaGreatLnP
import Derived.Test.YtaedjkaagcbkdaaGreatLnQ
import Derived.Test.YtaedjkaagcbkdaaGreatLnTZ
import Derived.Test.YtaedjkaagcbkdaaGreatLnUZ
import Derived.Test.YtaedjkaagcbkdaaGreatLnV
import Derived.Test.YtaedjkaagcbkdaaGreatLnSZ
import Derived.Test.YtaedjkaagcbkdaaGreatLnW
import Derived.Test.YtaedjkaagcbkdaaGreatLnX
import Derived.Test.YtaedjkaagcbkdaaGreatLnY
import Derived.Test.YtaedjkaagcbkdaaGreatTryzShelf
import Derived.Test.YtaedjkaagcbkdaaGreatHM1
import Derived.Test.YtaedjkaagcbkdaaGreatHM2
import Derived.Test.YtaedjkaagcbkdaaGreatHM3
import Derived.Test.YtaedjkaagcbkdaaGreatHM4
import Derived.Test.YtaedjkaagcbkdaaGreatHM5
import Derived.Test.YtaedjkaagcbkdaaGreatHM6
import Derived.Test.YtaedjkaagcbkdaaGreatHM7
import Derived.Test.YtaedjkaagcbkdaaGreatQT
import Derived.Test.YtaedjkaagcbkdaaGreatQZ
import Derived.Test.YtaedjkaagcbkdaaGreatVB1
import Derived.Test.YtaedjkaagcbkdaaGreatVB2
import Derived.Test.YtaedjkaagcbkdaaGreatVB3
import Derived.Test.YtaedjkaagcbkdaaGreatVB4
import Derived.Test.YtaedjkaagcbkdaaGreatVB5
import Derived.Test.YtaedjkaagcbkdaaGreatVB6
import Derived.Test.YtaedjkaagcbkdaaGreatVB7
import Derived.Test.YtaedjkaagcbkdaaGreatVB8
import Derived.Test.YtaedjkaagcbkdaaGreatVC1
import Derived.Test.YtaedjkaagcbkdaaGreatVC2
import Derived.Test.YtaedjkaagcbkdaaGreatVC3
import Derived.Test.YtaedjkaagcbkdaaGreatLnR
namespace Go.LN
set_option linter.unusedVariables false
set_option linter.unusedSimpArgs false
section
variable {P : Program} {n : Nat} {B : Base} {Q : Exit → Act → World → Prop} {imm : Imm} {hs : List HA} {m : FM} {ops : List Oper} {pc d : Nat}
section
variable {ty : TypeId} {pos : String} {after : Array Edge} {g : Option (Nat × Bool)}
theorem R_quo {t t2 : TypeId} {x y : Operand} {a b c : Int} (ho : ops[pc]? = some ⟨some d, .binOp .quo t x y t2, ty, pos, after, g⟩) (hg : guardB ops m g = some true) (hn : Nat.blt d n = true)
    (hx : val m x = some (.int .i64 a)) (hy : val m y = some (.int .i64 b)) (h : quo a b = some c) (next : R P n B ops Q (pc + 1) imm hs ((d, .int .i64 c) :: m)) : R P n B ops Q pc imm hs m := zCf ho hg rfl hn (zHr hx hy h) next
end
end
end Go.LN
namespace Go.LN
section
variable {P : Program} {n : Nat} {B : Base} {Q : Exit → Act → World → Prop} {imm : Imm} {hs : List HA} {m : FM} {ops : List Oper} {pc d : Nat} {ty : TypeId} {pos : String} {after : Array Edge} {g : Option (Nat × Bool)}
theorem R_qu {t t2 : TypeId} {x y : Operand} {a b c : Int} (ho : ops[pc]? = some ⟨some d, .binOp .quo t x y t2, ty, pos, after, g⟩) (h : quo a b = some c) (next : R P n B ops Q (pc + 1) imm hs ((d, .int .i64 c) :: m)) (hg : guardB ops m g = some true := by kernel_rfl) (hn : Nat.blt d n = true := by kernel_rfl) (hx : val m x = some (.int .i64 a) := by kernel_rfl) (hy : val m y = some (.int .i64 b) := by kernel_rfl) : R P n B ops Q pc imm hs m :=
  R_quo ho hg hn hx hy h next
end
end Go.LN
namespace Go.LN
open Go.Proofs
set_option maxRecDepth 20000
def spec_DrawProgramValid_post (r:zZ):KT:=fun kk imm' hs' v=>
  ∃ v0,hs'=[]∧v=tupV [v0]∧(∃ cs,v0=.agg ⟨cs⟩∧Rp.rep imm' cs r)
def M.spec_DrawProgramValid (code:(List UInt8)):Option (zZ):=do
 let y←nW code
 let (y2,y3)←mW y
 let (y5,y6)←rV y3 y2
 pure (id y5)
theorem spec_DrawProgramValid_ok:∀ (code:(List UInt8)) r,M.spec_DrawProgramValid code=some r→∀ {imm:Imm}{p c},(S4 imm p code c)→Ret Tryz.prog 49 [vS p code c] imm [] (spec_DrawProgramValid_post  r):=by
 intro code r hM imm p c h;unfold M.spec_DrawProgramValid at hM;refine yF (fn:=Tryz.f49) (c:=(bodyOf Tryz.f49)) Tryz.func49 rfl rfl ?_;rintro B - -;have hle:=iS imm;refine zF<|zB<|uJ zTwo ?_;intro b hb;refine yN rfl<|zE<|zF<|zB<|yK 1 [] [(4,vS p code c)] ?_;obtain ⟨y,hy,hM⟩:=zC hM;refine yR (zGV code _ hy h) ?_;rintro imm0 hs2 v2 k2 le - ⟨b1,p1,c1,rfl,rfl,h1⟩ -;have hle:=hle.trans le;refine zY [] [(3,vP b1 0)]<|zE<|zF<|zB<|yK 2 [] [(6,vP b1 0),(7,vP b1 0)] ?_;obtain ⟨⟨y2,y3⟩,hy1,hM⟩:=zC hM;refine tX [hB b1 (cRd y p1 c1)] [hB b zTwo] (zGp y _ hy1 h1) ?_;rintro imm01 hs2 v2 k2 le1 - ⟨v0,kk,rfl,rfl,⟨cs,rfl,h2⟩,h3⟩ -;have hle:=hle.trans le1;obtain ⟨v01,v02,rfl,h4,h5⟩:=zFp h2;obtain ⟨p2,c2,rfl⟩:=h4.form;obtain ⟨p3,c3,rfl⟩:=h5.form;obtain ⟨v03,rfl,h6⟩:=yH h3;obtain ⟨p4,c4,rfl⟩:=h6.form;obtain ⟨⟨y5,y6⟩,hy2,hM⟩:=zC hM;refine tX [hB b1 (cRd y3 p4 c4)] [hB b zTwo] (zGJ y3 y2 _ hy2 h6 h4 h5) ?_;rintro imm02 hs2 v2 k2 le2 - ⟨v04,kk1,rfl,rfl,⟨cs1,rfl,h7⟩,h8⟩ -;have hle:=hle.trans le2;obtain ⟨v05,v06,rfl,h9,h10⟩:=zFp h7;obtain ⟨p5,c5,rfl⟩:=h9.form;obtain ⟨p6,c6,rfl⟩:=h10.form;obtain ⟨v07,rfl,h11⟩:=yH h8;obtain ⟨p7,c7,rfl⟩:=h11.form;refine xI 1 (cProg y5 p5 c5 p6 c6) [hB b1 (cRd y6 p7 c7),hB b (cProg y5 p5 c5 p6 c6)] rfl rfl rfl rfl<|yN rfl<|zE<|yJ ?_;obtain rfl:=zD hM;exact yQ ⟨_,_,(.cell 1 rfl rfl (by kernel_rfl) ResV.nil),zV,⟨_,rfl,rfl,⟨_,rfl,(oU ⟨_,_,rfl,h9,h10⟩)⟩⟩⟩
end Go.LN
namespace Go.LN
open Go.Proofs
set_option maxRecDepth 20000
def impl_ProgramValid_post (r:Bool):KT:=fun kk imm' hs' v=>
  ∃ v0,hs'=[]∧v=tupV [v0]∧v0=.bool r
def M.impl_ProgramValid (p:zZ):Option (Bool):=do
 let (y1,y2)←rQ p
 pure (id y2)
theorem impl_ProgramValid_ok:∀ (p:zZ) r,M.impl_ProgramValid p=some r→∀ {imm:Imm}{p1 c p2 c1},(S4 imm p1 p.Arrays c)→(S4 imm p2 p.Parts c1)→Ret Tryz.prog 18 [vA (cProg p p1 c p2 c1)] imm [] (impl_ProgramValid_post  r):=by
 intro p r hM imm p1 c p2 c1 h h1;unfold M.impl_ProgramValid at hM;refine yF (fn:=Tryz.f18) (c:=(bodyOf Tryz.f18)) Tryz.func18 rfl rfl ?_;rintro B - -;have hle:=iS imm;refine zF<|zB<|sD (cProg p p1 c p2 c1) ?_;intro b hb;refine zY [] []<|zE<|zF<|zB<|yK 1 [0] [(6,vA (cProg p p1 c p2 c1))] ?_;obtain ⟨⟨y1,y2⟩,hy,hM⟩:=zC hM;refine yR (zDc p _ hy h h1) ?_;rintro imm0 hs2 v2 k2 le - ⟨v0,v01,rfl,rfl,h2,rfl⟩ -;have h:=h.mono le;have h1:=h1.mono le;have hle:=hle.trans le;obtain ⟨p3,c2,rfl⟩:=h2.form;refine zY [] [(4,.bool y2)]<|zE<|zF<|zB<|zY [] [(2,.bool y2)]<|zE<|yJ ?_;obtain rfl:=zD hM;exact yQ ⟨_,_,(.tmp rfl ResV.nil),zV,⟨_,rfl,rfl,rfl⟩⟩
def spec_DrawCountCells_post (r:zZ):KT:=fun kk imm' hs' v=>
  ∃ v0,hs'=[]∧v=tupV [v0]∧(∃ cs,v0=.agg ⟨cs⟩∧Rp.rep imm' cs r)
def M.spec_DrawCountCells (code:(List UInt8)):Option (zZ):=do
 let y←M.spec_DrawProgramValid code
 pure (id y)
theorem spec_DrawCountCells_ok:∀ (code:(List UInt8)) r,M.spec_DrawCountCells code=some r→∀ {imm:Imm}{p c},(S4 imm p code c)→Ret Tryz.prog 20 [vS p code c] imm [] (spec_DrawCountCells_post  r):=by
 intro code r hM imm p c h;unfold M.spec_DrawCountCells at hM;refine yF (fn:=Tryz.f20) (c:=(bodyOf Tryz.f20)) Tryz.func20 rfl rfl ?_;rintro B - -;have hle:=iS imm;refine zF<|zB<|uJ zTwo ?_;intro b hb;refine yN rfl<|zE<|zF<|zB<|yK 1 [] [(3,vS p code c)] ?_;obtain ⟨y,hy,hM⟩:=zC hM;refine yR (spec_DrawProgramValid_ok code _ hy h) ?_;rintro imm0 hs2 v2 k2 le - ⟨v0,rfl,rfl,⟨cs,rfl,h1⟩⟩ -;have hle:=hle.trans le;obtain ⟨v01,v02,rfl,h2,h3⟩:=zFp h1;obtain ⟨p1,c1,rfl⟩:=h2.form;obtain ⟨p2,c2,rfl⟩:=h3.form;refine xI 0 (cProg y p1 c1 p2 c2) [hB b (cProg y p1 c1 p2 c2)] rfl rfl rfl rfl<|yN rfl<|zE<|yJ ?_;obtain rfl:=zD hM;exact yQ ⟨_,_,(.cell 0 rfl rfl (by kernel_rfl) ResV.nil),zV,⟨_,rfl,rfl,⟨_,rfl,(oU ⟨_,_,rfl,h2,h3⟩)⟩⟩⟩
def impl_Program_cells_post (r:Int):KT:=fun kk imm' hs' v=>
  ∃ v0,hs'=[]∧v=tupV [v0]∧v0=.int .i64 r
def M.impl_Program_cells_l1 (p:zZ) (n0:Int) (t9:Int):Option (Int):=do
 if (decide (t9 < (p.Arrays.length:Int))) then
  let x←idx p.Arrays t9
  let y←pH x
  M.impl_Program_cells_l1 p (W (n0 + y)) (W (t9 + 1))
 else
  pure (id n0)
 partial_fixpoint
theorem impl_Program_cells_l1_ok (p:zZ):∀ (n0:Int) (t9:Int) (o:Int),M.impl_Program_cells_l1 p n0 t9=some o→∀ {B}{imm0 imm:Imm}{Q p1 c},imm0.le imm→(S4 imm p1 p.Arrays c)→(∀ l a w,¬Q (.goto l) a w)→(∀ a w,¬Q .outgrown a w)→(∀ (imm':Imm) (n01:Int),o=n01→imm0.le imm'→T 19 B Q (.exit 0) imm' [] [(3,vI n01)])→J Tryz.prog 19 B (nav (bodyOf Tryz.f55) [1,1,0,1,0]) Q imm [] [(3,vI n0),(7,vS p1 p.Arrays c),(8,vI (p.Arrays.length:Int)),(9,vI t9)]:=by
 refine M.impl_Program_cells_l1.partial_correctness p _ ?_;intro self ih n0 t9 o hM B imm0 imm Q p1 c hle h hg ho hx;refine xF hg ho<|zF<|zB<|zY [] [(10,.bool (decide (t9 < (p.Arrays.length:Int))))]<|zE<|zF<|yP hM ?_ ?_
 · intro hc hM;refine yD<|zE<|zF<|yB<|zF<|zB ?_;obtain ⟨x,hy,hM⟩:=zC hM;refine wJ rfl rfl h hy ?_;intro ad ccs hat hrep;obtain ⟨v0,rfl,h2⟩:=xU hrep;obtain ⟨p3,c2,rfl⟩:=h2.form;refine xX 0 hat (cArr x p3 c2) (vA (cArr x p3 c2)) rfl<|uJ [vT ([]),z0] ?_;intro b1 hb1;refine xI 0 (cArr x p3 c2) [hB b1 (cArr x p3 c2)] rfl rfl rfl rfl<|yN rfl<|zE<|zB<|yK 2 [0] [(13,vI n0),(14,vA (cArr x p3 c2))] ?_;obtain ⟨y,hy1,hM⟩:=zC hM;refine yR (zAi x _ hy1 h2) ?_;rintro imm0 hs2 v2 k2 le - ⟨v01,rfl,rfl,rfl⟩ -;have h:=h.mono le;have h2:=h2.mono le;have hle:=hle.trans le;exact zY [] [(3,vI (W (n0 + y)))]<|zW<|zE<|zB<|zY [] [(9,vI (W (t9 + 1)))]<|xG<|qR (zL [] rfl (by decide))<|uA [(3,vI (W (n0 + y))),(7,vS p1 p.Arrays c),(8,vI (p.Arrays.length:Int)),(9,vI (W (t9 + 1)))]<|ih (W (n0 + y)) (W (t9 + 1)) _ hM hle h hg ho hx
 intro hc hM;exact xB<|zT<|zT<|yU [(3,vI n0)]<|hx _ _ (zD hM).symm hle
def M.impl_Program_cells (p:zZ):Option (Int):=do
 let n01←M.impl_Program_cells_l1 p 0 0
 pure (id n01)
theorem impl_Program_cells_ok:∀ (p:zZ) r,M.impl_Program_cells p=some r→∀ {imm:Imm}{p1 c p2 c1},(S4 imm p1 p.Arrays c)→(S4 imm p2 p.Parts c1)→Ret Tryz.prog 55 [vA (cProg p p1 c p2 c1)] imm [] (impl_Program_cells_post  r):=by
 intro p r hM imm p1 c p2 c1 h h1;unfold M.impl_Program_cells at hM;refine yF (fn:=Tryz.f55) (c:=(bodyOf Tryz.f55)) Tryz.func55 rfl rfl ?_;rintro B - -;have hle:=iS imm;refine zF<|zB<|sD (cProg p p1 c p2 c1) ?_;intro b hb;refine zY [] []<|zE<|zF<|zB<|zY [] [(3,vI 0)]<|zE<|zF<|zF<|zB<|zY [0] [(7,vS p1 p.Arrays c),(8,vI (p.Arrays.length:Int)),(9,vI 0)]<|zE<|yB<|qR (zL [] (hs':=[]) rfl (by decide))<|uA [(3,vI 0),(7,vS p1 p.Arrays c),(8,vI (p.Arrays.length:Int)),(9,vI 0)] ?_;obtain ⟨o0,ho0,hMl⟩:=zC hM;refine impl_Program_cells_l1_ok p 0 0 o0 ho0 iR h (fun _ _ _ h=>h) (fun _ _ h=>h) ?_;intro imm01 n01 heq le1;subst o0;have hle:=hle.trans le1;refine yC<|zE<|zF<|zB<|zY [] [(2,vI n01)]<|zE<|yJ ?_;obtain rfl:=zD hMl;exact yQ ⟨_,_,(.tmp rfl ResV.nil),zV,⟨_,rfl,rfl,rfl⟩⟩
def impl_CountCells_post (r:Int):KT:=fun kk imm' hs' v=>
  ∃ v0,hs'=[]∧v=tupV [v0]∧v0=.int .i64 r
def M.impl_CountCells (p:zZ):Option (Int):=do
 let y←M.impl_ProgramValid p
 if (!y) then
  pure (id 0)
 else
  let y1←M.impl_Program_cells p
  pure (id y1)
theorem impl_CountCells_ok:∀ (p:zZ) r,M.impl_CountCells p=some r→∀ {imm:Imm}{p1 c p2 c1},(S4 imm p1 p.Arrays c)→(S4 imm p2 p.Parts c1)→Ret Tryz.prog 21 [vA (cProg p p1 c p2 c1)] imm [] (impl_CountCells_post  r):=by
 intro p r hM imm p1 c p2 c1 h h1;unfold M.impl_CountCells at hM;refine yF (fn:=Tryz.f21) (c:=(bodyOf Tryz.f21)) Tryz.func21 rfl rfl ?_;rintro B - -;have hle:=iS imm;refine zF<|zB<|sD (cProg p p1 c p2 c1) ?_;intro b hb;refine zY [] []<|zE<|zF<|zF<|zB<|yK 1 [0] [(3,vA (cProg p p1 c p2 c1))] ?_;obtain ⟨y,hy,hM⟩:=zC hM;refine yR (impl_ProgramValid_ok p _ hy h h1) ?_;rintro imm0 hs2 v2 k2 le - ⟨v0,rfl,rfl,rfl⟩ -;have h:=h.mono le;have h1:=h1.mono le;have hle:=hle.trans le;refine zY [] [(5,.bool (!y))]<|zE<|yP hM ?_ ?_
 · intro hc hM;refine zF<|zB<|zY [] [(2,vI 0)]<|zE<|yJ<|zQ ?_;obtain rfl:=zD hM;exact yQ ⟨_,_,(.tmp rfl ResV.nil),zV,⟨_,rfl,rfl,rfl⟩⟩
 intro hc hM;refine yD<|zE<|zF<|zB<|yK 1 [0] [(6,vA (cProg p p1 c p2 c1))] ?_;obtain ⟨y1,hy1,hM⟩:=zC hM;refine yR (impl_Program_cells_ok p _ hy1 h h1) ?_;rintro imm01 hs2 v2 k2 le1 - ⟨v01,rfl,rfl,rfl⟩ -;have h:=h.mono le1;have h1:=h1.mono le1;have hle:=hle.trans le1;refine zY [] [(2,vI y1)]<|zE<|yJ ?_;obtain rfl:=zD hM;exact yQ ⟨_,_,(.tmp rfl ResV.nil),zV,⟨_,rfl,rfl,rfl⟩⟩
def spec_l4Total_post (r:Int):KT:=fun kk imm' hs' v=>
  ∃ v0,hs'=[]∧v=tupV [v0]∧v0=.int .i64 r
def M.spec_l4Total_l1 (p:zZ) (n0:Int) (i:Int):Option (Int):=do
 if (decide (i < (p.Arrays.length:Int))) then
  let x←idx p.Arrays i
  let y←pK x
  M.spec_l4Total_l1 p (W (n0 + y)) (W (i + 1))
 else
  pure (id n0)
 partial_fixpoint
theorem spec_l4Total_l1_ok (p:zZ):∀ (n0:Int) (i:Int) (o:Int),M.spec_l4Total_l1 p n0 i=some o→∀ {B}{imm0 imm:Imm}{Q p1 c p2 c1}{b:Nat},imm0.le imm→(S4 imm p1 p.Arrays c)→(S4 imm p2 p.Parts c1)→(∀ l a w,¬Q (.goto l) a w)→(∀ a w,¬Q .outgrown a w)→(∀ (imm':Imm) (n01:Int),o=n01→imm0.le imm'→T 21 B Q (.exit 0) imm' [] [(3,vI n01)])→J Tryz.prog 21 B (nav (bodyOf Tryz.f56) [1,1,0,1,0]) Q imm [hB b (cProg p p1 c p2 c1)] [(1,vP b 0),(3,vI n0),(4,vI i)]:=by
 refine M.spec_l4Total_l1.partial_correctness p _ ?_;intro self ih n0 i o hM B imm0 imm Q p1 c p2 c1 b hle h h1 hg ho hx;refine xF hg ho<|zF<|zF<|zB<|zY [0] [(9,.bool (decide (i < (p.Arrays.length:Int))))]<|zE<|yP hM ?_ ?_
 · intro hc hM;refine yD<|zE<|zF<|yB<|zB<|yK 4 [0] [(12,vI n0),(14,vS p1 p.Arrays c),(15,vI i)] ?_;obtain ⟨x,hy,hM⟩:=zC hM;refine wJ rfl rfl h hy ?_;intro ad ccs hat hrep;obtain ⟨v0,rfl,h2⟩:=xU hrep;obtain ⟨p3,c2,rfl⟩:=h2.form;refine xX 0 hat (cArr x p3 c2) (vA (cArr x p3 c2)) rfl ?_;obtain ⟨y,hy1,hM⟩:=zC hM;refine yR (zDD x _ hy1 h2) ?_;rintro imm0 hs2 v2 k2 le - ⟨v01,rfl,rfl,rfl⟩ -;have h:=h.mono le;have h1:=h1.mono le;have hle:=hle.trans le;exact zY [] [(3,vI (W (n0 + y)))]<|zW<|zE<|zB<|zY [] [(4,vI (W (i + 1)))]<|xG<|uA [(1,vP b 0),(3,vI (W (n0 + y))),(4,vI (W (i + 1)))]<|ih (W (n0 + y)) (W (i + 1)) _ hM hle h h1 hg ho hx
 intro hc hM;exact xB<|zT<|zT<|wE (zL [] rfl (by decide))<|yU [(3,vI n0)]<|hx _ _ (zD hM).symm hle
def M.spec_l4Total (p:zZ):Option (Int):=do
 let n01←M.spec_l4Total_l1 p 0 0
 pure (id n01)
theorem spec_l4Total_ok:∀ (p:zZ) r,M.spec_l4Total p=some r→∀ {imm:Imm}{p1 c p2 c1},(S4 imm p1 p.Arrays c)→(S4 imm p2 p.Parts c1)→Ret Tryz.prog 56 [vA (cProg p p1 c p2 c1)] imm [] (spec_l4Total_post  r):=by
 intro p r hM imm p1 c p2 c1 h h1;unfold M.spec_l4Total at hM;refine yF (fn:=Tryz.f56) (c:=(bodyOf Tryz.f56)) Tryz.func56 rfl rfl ?_;rintro B - -;have hle:=iS imm;refine zF<|zB<|sD (cProg p p1 c p2 c1) ?_;intro b hb;refine zY [] []<|zE<|zF<|zB<|zY [] [(3,vI 0)]<|zE<|zF<|zF<|zB<|zY [] [(4,vI 0)]<|zE<|yB<|uA [(1,vP b 0),(3,vI 0),(4,vI 0)] ?_;obtain ⟨o0,ho0,hMl⟩:=zC hM;refine spec_l4Total_l1_ok p 0 0 o0 ho0 iR h h1 (fun _ _ _ h=>h) (fun _ _ h=>h) ?_;intro imm01 n01 heq le1;subst o0;have hle:=hle.trans le1;refine yC<|zE<|zF<|zB<|zY [] [(2,vI n01)]<|zE<|yJ ?_;obtain rfl:=zD hMl;exact yQ ⟨_,_,(.tmp rfl ResV.nil),zV,⟨_,rfl,rfl,rfl⟩⟩
end Go.LN
namespace Go.LN
open Go.Proofs
set_option maxRecDepth 20000
def spec_CountCells_post (r:Int):KT:=fun kk imm' hs' v=>
  ∃ v0,hs'=[]∧v=tupV [v0]∧v0=.int .i64 r
def M.spec_CountCells (p:zZ):Option (Int):=do
 let y←tE p
 if (!y) then
  pure (id 0)
 else
  let y1←M.spec_l4Total p
  pure (id y1)
theorem spec_CountCells_ok:∀ (p:zZ) r,M.spec_CountCells p=some r→∀ {imm:Imm}{p1 c p2 c1},(S4 imm p1 p.Arrays c)→(S4 imm p2 p.Parts c1)→Ret Tryz.prog 22 [vA (cProg p p1 c p2 c1)] imm [] (spec_CountCells_post  r):=by
 intro p r hM imm p1 c p2 c1 h h1;unfold M.spec_CountCells at hM;refine yF (fn:=Tryz.f22) (c:=(bodyOf Tryz.f22)) Tryz.func22 rfl rfl ?_;rintro B - -;have hle:=iS imm;refine zF<|zB<|sD (cProg p p1 c p2 c1) ?_;intro b hb;refine zY [] []<|zE<|zF<|zF<|zB<|yK 1 [0] [(3,vA (cProg p p1 c p2 c1))] ?_;obtain ⟨y,hy,hM⟩:=zC hM;refine yR (eU p _ hy h h1) ?_;rintro imm0 hs2 v2 k2 le - ⟨v0,rfl,rfl,rfl⟩ -;have h:=h.mono le;have h1:=h1.mono le;have hle:=hle.trans le;refine zY [] [(5,.bool (!y))]<|zE<|yP hM ?_ ?_
 · intro hc hM;refine zF<|zB<|zY [] [(2,vI 0)]<|zE<|yJ<|zQ ?_;obtain rfl:=zD hM;exact yQ ⟨_,_,(.tmp rfl ResV.nil),zV,⟨_,rfl,rfl,rfl⟩⟩
 intro hc hM;refine yD<|zE<|zF<|zB<|yK 1 [0] [(6,vA (cProg p p1 c p2 c1))] ?_;obtain ⟨y1,hy1,hM⟩:=zC hM;refine yR (spec_l4Total_ok p _ hy1 h h1) ?_;rintro imm01 hs2 v2 k2 le1 - ⟨v01,rfl,rfl,rfl⟩ -;have h:=h.mono le1;have h1:=h1.mono le1;have hle:=hle.trans le1;refine zY [] [(2,vI y1)]<|zE<|yJ ?_;obtain rfl:=zD hM;exact yQ ⟨_,_,(.tmp rfl ResV.nil),zV,⟨_,rfl,rfl,rfl⟩⟩
def impl_CellOf_post (r:Int):KT:=fun kk imm' hs' v=>
  ∃ v0,hs'=[]∧v=tupV [v0]∧v0=.int .i64 r
def M.impl_CellOf (p:zZ) (a0:zK) (point:(List Int)):Option (Int):=do
 let t19←(do
   let y←M.impl_ProgramValid p
   if (!y) then
    pure true
   else
    let y1←qY a0 4
    if (!y1) then
     pure true
    else
     let y2←nE point
     pure (!y2)
     : Option Bool)
 if t19 then
  pure (-1)
 else
  let y3←sQ p a0 point
  pure (id y3)
theorem impl_CellOf_ok:∀ (p:zZ) (a0:zK) (point:(List Int)) r,M.impl_CellOf p a0 point=some r→∀ {imm:Imm}{p1 c p2 c1 p3 c2 p4 c3},(S4 imm p1 p.Arrays c)→(S4 imm p2 p.Parts c1)→(S4 imm p3 a0.Subs c2)→(S4 imm p4 point c3)→Ret Tryz.prog 23 [vA (cProg p p1 c p2 c1),vA (cAccess a0 p3 c2),vS p4 point c3] imm [] (impl_CellOf_post  r):=by
 intro p a0 point r hM imm p1 c p2 c1 p3 c2 p4 c3 h h1 h2 h3;unfold M.impl_CellOf at hM;refine yF (fn:=Tryz.f23) (c:=(bodyOf Tryz.f23)) Tryz.func23 rfl rfl ?_;rintro B - -;have hle:=iS imm;refine zF<|zB<|sD (cProg p p1 c p2 c1) ?_;intro b hb;refine sD (cAccess a0 p3 c2) ?_;intro b1 hb1;refine zY [] []<|zE<|zF<|zF ?_;obtain ⟨o0,ho0,hMc⟩:=zC hM;refine yT (fun imm' hs' m'=>∃ (t19:Bool),o0=t19∧imm.le imm'∧hs'=[hB b1 (cAccess a0 p3 c2),hB b (cProg p p1 c p2 c1)]∧m'=[(2,vS p4 point c3),(3,vP b 0),(4,vP b1 0),(19,.bool t19)]) ?_ ?_
 · have hle0:=hle;have hle:=iS imm;refine zB<|yK 1 [1] [(7,vA (cProg p p1 c p2 c1))] ?_;obtain ⟨y,hy,hM⟩:=zC ho0;refine yR (impl_ProgramValid_ok p _ hy h h1) ?_;rintro imm01 hs2 v2 k2 le - ⟨v0,rfl,rfl,rfl⟩ -;have h3:=h3.mono le;have h2:=h2.mono le;have h:=h.mono le;have h1:=h1.mono le;have hle:=hle.trans le;refine yK 4 [] [(10,.bool (!y))] ?_;cases hc:(!y) with
   | true =>
    have hM0:=zU hc hM
    try rw [hc]
    exact zY [] [(19,.bool true)]<|yU [(2,vS p4 point c3),(3,vP b 0),(4,vP b1 0),(19,.bool true)]<|yA ⟨_,(zD hM0).symm,hle,rfl,rfl⟩
   | false =>
    have hM01:=zS hc hM
    try rw [hc]
    refine yK 5 [0] [(11,vA (cAccess a0 p3 c2))] ?_;obtain ⟨y1,hy1,hM⟩:=zC hM01;refine yR (gV a0 4 _ hy1 h2) ?_;rintro imm02 hs2 v2 k2 le1 - ⟨v01,rfl,rfl,rfl⟩ -;have h3:=h3.mono le1;have h2:=h2.mono le1;have h:=h.mono le1;have h1:=h1.mono le1;have hle:=hle.trans le1;refine yK 9 [] [(15,.bool (!y1))] ?_;cases hc1:(!y1) with
    | true =>
     have hM02:=zU hc1 hM
     try rw [hc1]
     exact zY [] [(19,.bool true)]<|yU [(2,vS p4 point c3),(3,vP b 0),(4,vP b1 0),(19,.bool true)]<|yA ⟨_,(zD hM02).symm,hle,rfl,rfl⟩
    | false =>
     have hM03:=zS hc1 hM
     try rw [hc1]
     refine yK 10 [] [(16,vS p4 point c3)] ?_;obtain ⟨y2,hy2,hM⟩:=zC hM03;refine yR (zC8 point _ hy2 h3) ?_;rintro imm03 hs2 v2 k2 le2 - ⟨v02,rfl,rfl,rfl⟩ -;have h3:=h3.mono le2;have h2:=h2.mono le2;have h:=h.mono le2;have h1:=h1.mono le2;have hle:=hle.trans le2;exact zY [] [(19,.bool (!y2))]<|yU [(2,vS p4 point c3),(3,vP b 0),(4,vP b1 0),(19,.bool (!y2))]<|yA ⟨_,(zD hM).symm,hle,rfl,rfl⟩
 rintro imm0 hs2 m2 ⟨t19,heq,le3,rfl,rfl⟩;subst o0;have h3:=h3.mono le3;have h2:=h2.mono le3;have h:=h.mono le3;have h1:=h1.mono le3;have hle:=hle.trans le3;refine zE<|yP hMc ?_ ?_
 · intro hc2 hM;refine zF<|zB<|zY [] [(6,vI (-1))]<|zE<|yJ<|zQ ?_;obtain rfl:=zD hM;exact yQ ⟨_,_,(.tmp rfl ResV.nil),zV,⟨_,rfl,rfl,rfl⟩⟩
 intro hc2 hM;refine yD<|zE<|zF<|zB<|yK 3 [1,0] [(20,vA (cProg p p1 c p2 c1)),(21,vA (cAccess a0 p3 c2)),(22,vS p4 point c3)] ?_;obtain ⟨y3,hy3,hM⟩:=zC hM;refine yR (kD p a0 point _ hy3 h h1 h2 h3) ?_;rintro imm04 hs2 v2 k2 le4 - ⟨v03,rfl,rfl,rfl⟩ -;have h2:=h2.mono le4;have h:=h.mono le4;have h1:=h1.mono le4;have hle:=hle.trans le4;refine zY [] [(6,vI y3)]<|zE<|yJ ?_;obtain rfl:=zD hM;exact yQ ⟨_,_,(.tmp rfl ResV.nil),zV,⟨_,rfl,rfl,rfl⟩⟩
def laws_FnCellRange_post (r:Bool):KT:=fun kk imm' hs' v=>
  ∃ v0,hs'=[]∧v=tupV [v0]∧v0=.bool r
def M.laws_FnCellRange_l2 (y:zZ) (i:Int) (size:Int) (k0:Int):Option (Int):=do
 let x←idx y.Arrays i
 if (decide (k0 < (x.Dims.length:Int))) then
  let x1←idx y.Arrays i
  let x2←idx x1.Dims k0
  M.laws_FnCellRange_l2 y i (W (size * x2)) (W (k0 + 1))
 else
  pure (id size)
 partial_fixpoint
theorem laws_FnCellRange_l2_ok (y:zZ) (i:Int):∀ (size:Int) (k0:Int) (o:Int),M.laws_FnCellRange_l2 y i size k0=some o→∀ {B}{imm0 imm:Imm}{Q}{y1:Int}{at0:Int}{p1 c1 p2 c2}{b:Nat},imm0.le imm→(S4 imm p1 y.Arrays c1)→(S4 imm p2 y.Parts c2)→(∀ l a w,¬Q (.goto l) a w)→(∀ a w,¬Q .outgrown a w)→(∀ (imm':Imm) (size1:Int),o=size1→imm0.le imm'→T 120 B Q (.exit 2) imm' [hB b (cProg y p1 c1 p2 c2)] [(3,vP b 0),(4,vI y1),(5,vI at0),(6,vI i),(7,vI size1)])→J Tryz.prog 120 B (nav (bodyOf Tryz.f5) [1,1,1,1,1,1,0,1,0,0,1,0,0,1,0,1,0]) Q imm [hB b (cProg y p1 c1 p2 c2)] [(3,vP b 0),(4,vI y1),(5,vI at0),(6,vI i),(7,vI size),(8,vI k0)]:=by
 refine M.laws_FnCellRange_l2.partial_correctness y i _ ?_;intro self ih size k0 o hM B imm0 imm Q y1 at0 p1 c1 p2 c2 b hle h2 h3 hg ho hx;refine xF hg ho<|zF<|zF<|zB<|yK 4 [0] [(38,vI k0),(40,vS p1 y.Arrays c1),(41,vI i)] ?_;obtain ⟨x,hy5,hM⟩:=zC hM;refine wJ rfl rfl h2 hy5 ?_;intro ad ccs hat hrep;obtain ⟨v07,rfl,h8⟩:=xU hrep;obtain ⟨p3,c3,rfl⟩:=h8.form;refine yK 6 [] [(43,.pointer (some (ad.add 1)))]<|xX 1 hat [vS p3 x.Dims c3] (vS p3 x.Dims c3) rfl<|zY [] [(46,.bool (decide (k0 < (x.Dims.length:Int))))]<|zE<|yP hM ?_ ?_
 · intro hc4 hM;refine yD<|zE<|zF<|yB<|zB<|yK 4 [0] [(49,vI size),(51,vS p1 y.Arrays c1),(52,vI i)] ?_;obtain ⟨x1,hy6,hM⟩:=zC hM;refine wJ rfl rfl h2 hy6 ?_;intro ad1 ccs1 hat1 hrep1;obtain ⟨v08,rfl,h9⟩:=xU hrep1;obtain ⟨p4,c4,rfl⟩:=h9.form;refine yK 6 [] [(54,.pointer (some (ad1.add 1)))]<|xX 1 hat1 [vS p4 x1.Dims c4] (vS p4 x1.Dims c4) rfl<|yK 8 [] [(56,vI k0)] ?_;obtain ⟨x2,hy7,hM⟩:=zC hM;refine wJ rfl rfl h9 hy7 ?_;intro ad2 ccs2 hat2 hrep2;obtain rfl:=hrep2;exact xX 0 hat2 [vI x2] (vI x2) rfl<|zY [] [(7,vI (W (size * x2)))]<|zW<|zE<|zB<|zY [] [(8,vI (W (k0 + 1)))]<|xG<|uA [(3,vP b 0),(4,vI y1),(5,vI at0),(6,vI i),(7,vI (W (size * x2))),(8,vI (W (k0 + 1)))]<|ih (W (size * x2)) (W (k0 + 1)) _ hM hle h2 h3 hg ho hx
 intro hc4 hM;exact xB<|zT<|zT<|yU [(3,vP b 0),(4,vI y1),(5,vI at0),(6,vI i),(7,vI size)]<|hx _ _ (zD hM).symm hle
def M.laws_FnCellRange_l3 (y:zZ) (i:Int) (size1:Int) (at02:Int) (c5:Int):Option (Out Int (Bool)):=do
 if (decide (c5 < size1)) then
  let x3←idx y.Arrays i
  let subs←(do
    if ((x3.Dims.length:Int) == 2) then
     let x4←idx y.Arrays i
     let x5←idx x4.Dims 1
     let q←quo c5 x5
     let x6←idx y.Arrays i
     let x7←idx x6.Dims 1
     let q1←rem c5 x7
     pure ([(zA.mk ([0,0,0,0]:List Int) q),(zA.mk ([0,0,0,0]:List Int) q1)]:List zA)
    else
     pure ([(zA.mk ([0,0,0,0]:List Int) c5)]:List zA)
      : Option (List zA))
  let x8←idx y.Arrays i
  let y5←M.impl_CellOf y (zK.mk x8.Name subs) ([]:List Int)
  if (y5 != at02) then
   pure (.ret false)
  else
   M.laws_FnCellRange_l3 y i size1 (W (at02 + 1)) (W (c5 + 1))
 else
  pure (.done at02)
 partial_fixpoint
theorem laws_FnCellRange_l3_ok (y:zZ) (i:Int) (size1:Int):∀ (at02:Int) (c5:Int) (o:Out Int (Bool)),M.laws_FnCellRange_l3 y i size1 at02 c5=some o→∀ {B}{imm0 imm:Imm}{Q}{y1:Int}{p1 c1 p2 c2}{b:Nat},imm0.le imm→(S4 imm p1 y.Arrays c1)→(S4 imm p2 y.Parts c2)→(∀ l a w,¬Q (.goto l) a w)→(∀ a w,¬Q .outgrown a w)→(∀ (imm':Imm) (at03:Int),o=(.done at03)→imm0.le imm'→T 120 B Q (.exit 4) imm' [hB b (cProg y p1 c1 p2 c2)] [(3,vP b 0),(4,vI y1),(5,vI at03),(6,vI i)])→(∀ r imm' hs' m',o=(.ret r)→imm0.le imm'→RS Tryz.prog Tryz.f5 B (laws_FnCellRange_post  r) imm' hs' m'→T 120 B Q .ret imm' hs' m')→J Tryz.prog 120 B (nav (bodyOf Tryz.f5) [1,1,1,1,1,1,0,1,0,0,1,0,0,1,1,1,0]) Q imm [hB b (cProg y p1 c1 p2 c2)] [(3,vP b 0),(4,vI y1),(5,vI at02),(6,vI i),(7,vI size1),(9,vI c5)]:=by
 refine M.laws_FnCellRange_l3.partial_correctness y i size1 _ ?_;intro self ih at02 c5 o hM B imm0 imm Q y1 p1 c1 p2 c2 b hle h2 h3 hg ho hx hr;refine xF hg ho<|zF<|zF<|zB<|zY [] [(62,.bool (decide (c5 < size1)))]<|zE<|yP hM ?_ ?_
 · intro hc5 hM;refine yD<|zE<|zF<|yB<|zF<|zB<|xY [vI 0,vI 0,vI 0,vI 0] Int ?_;intro b1 hb1;have h10:RL imm [vI 0,vI 0,vI 0,vI 0] ([0,0,0,0]:List Int):=⟨[vI 0],_,rfl,rfl,rfl,⟨[vI 0],_,rfl,rfl,rfl,⟨[vI 0],_,rfl,rfl,rfl,⟨[vI 0],_,rfl,rfl,rfl,rfl⟩⟩⟩⟩;refine yK 3 [] [(67,vA [vS (some ⟨b1,0,none⟩) ([0,0,0,0]:List Int) 4,vI c5])]<|yL 0 rfl ?_;intro imm07 le7 hl0;have h11:=SL.of_frozen hl0 le7 h10;have h2:=h2.mono le7;have h3:=h3.mono le7;have hle:=hle.trans le7;refine xY [vS (some ⟨b1,0,none⟩) ([0,0,0,0]:List Int) 4,vI c5] zA ?_;intro b2 hb2;have h12:RL imm07 [vS (some ⟨b1,0,none⟩) ([0,0,0,0]:List Int) 4,vI c5] ([(zA.mk ([0,0,0,0]:List Int) c5)]:List zA):=⟨[vS (some ⟨b1,0,none⟩) ([0,0,0,0]:List Int) 4,vI c5],_,rfl,rfl,(yO ⟨_,rfl,h11⟩),rfl⟩;refine zY [] [(10,vS (some ⟨b2,0,none⟩) ([(zA.mk ([0,0,0,0]:List Int) c5)]:List zA) 1)]<|zE<|zF<|zF<|zB<|yK 3 [1] [(70,vS p1 y.Arrays c1),(71,vI i)] ?_;obtain ⟨x3,hy8,hM⟩:=zC hM;refine wJ rfl rfl h2 hy8 ?_;intro ad3 ccs3 hat3 hrep3;obtain ⟨v09,rfl,h13⟩:=xU hrep3;obtain ⟨p5,c6,rfl⟩:=h13.form;refine yK 5 [] [(73,.pointer (some (ad3.add 1)))]<|xX 1 hat3 [vS p5 x3.Dims c6] (vS p5 x3.Dims c6) rfl<|zY [] [(76,.bool ((x3.Dims.length:Int) == 2))]<|zE ?_;obtain ⟨o02,ho02,hMc1⟩:=zC hM;refine yT (fun imm' hs' m'=>∃ (subs:List zA) (p6:Option Addr) (c7:Nat) (cs1:List Value),o02=subs∧imm07.le imm'∧(RL imm' cs1 subs)∧hs'=[hO zA (vS p6 subs c7) cs1,hB b (cProg y p1 c1 p2 c2)]∧m'=[(3,vP b 0),(4,vI y1),(5,vI at02),(6,vI i),(7,vI size1),(9,vI c5),(10,vS p6 subs c7)]) ?_ ?_
   · have hle01:=hle;have hle:=iS imm07;refine yP ho02 ?_ ?_
     · intro hc6 hM;obtain ⟨x4,hy9,hM⟩:=zC hM;obtain ⟨x5,hy10,hM⟩:=zC hM;obtain ⟨q,hy11,hM⟩:=zC hM;obtain ⟨x6,hy12,hM⟩:=zC hM;obtain ⟨x7,hy13,hM⟩:=zC hM;obtain ⟨q1,hy14,hM⟩:=zC hM;refine vZ [.x (fun imm' v hx=>∃ b3,v=vS (some ⟨b3,0,none⟩) ([0,0,0,0]:List Int) 4∧hx=[]∧(SL imm' (vS (some ⟨b3,0,none⟩) ([0,0,0,0]:List Int) 4) ([0,0,0,0]:List Int))),.p (vI c5) [],.p (vP b 0) [],.p (vS p1 y.Arrays c1) [1],.p (vI i) [],.x (fun imm' v hx=>∃ ad4 p7 c8,v=.pointer (some ad4)∧hx=[]∧(At imm' ad4 (cArr x4 p7 c8))∧(S4 imm' p7 x4.Dims c8)),.x (fun imm' v hx=>∃ ad41 p71 c81,v=.pointer (some (ad41.add 1))∧hx=[]∧(At imm' ad41 (cArr x4 p71 c81))∧(S4 imm' p71 x4.Dims c81)),.x (fun imm' v hx=>∃ p711 c811,v=vS p711 x4.Dims c811∧hx=[]∧(S4 imm' p711 x4.Dims c811)),.x (fun imm' v hx=>∃ ad5,v=.pointer (some ad5)∧hx=[]∧(At imm' ad5 [vI x5])),.q (vI x5),.q (vI q),.x (fun imm' v hx=>∃ b31,v=vA [vS (some ⟨b31,0,none⟩) ([0,0,0,0]:List Int) 4,vI q]∧hx=[]∧(SL imm' (vS (some ⟨b31,0,none⟩) ([0,0,0,0]:List Int) 4) ([0,0,0,0]:List Int))),.x (fun imm' v hx=>∃ b4,v=vS (some ⟨b4,0,none⟩) ([0,0,0,0]:List Int) 4∧hx=[]∧(SL imm' (vS (some ⟨b4,0,none⟩) ([0,0,0,0]:List Int) 4) ([0,0,0,0]:List Int))),.p (vI c5) [],.p (vP b 0) [],.p (vS p1 y.Arrays c1) [1],.p (vI i) [],.x (fun imm' v hx=>∃ ad6 p8 c9,v=.pointer (some ad6)∧hx=[]∧(At imm' ad6 (cArr x6 p8 c9))∧(S4 imm' p8 x6.Dims c9)),.x (fun imm' v hx=>∃ ad61 p81 c91,v=.pointer (some (ad61.add 1))∧hx=[]∧(At imm' ad61 (cArr x6 p81 c91))∧(S4 imm' p81 x6.Dims c91)),.x (fun imm' v hx=>∃ p811 c911,v=vS p811 x6.Dims c911∧hx=[]∧(S4 imm' p811 x6.Dims c911)),.x (fun imm' v hx=>∃ ad7,v=.pointer (some ad7)∧hx=[]∧(At imm' ad7 [vI x7])),.q (vI x7),.q (vI q1),.x (fun imm' v hx=>∃ b41,v=vA [vS (some ⟨b41,0,none⟩) ([0,0,0,0]:List Int) 4,vI q1]∧hx=[]∧(SL imm' (vS (some ⟨b41,0,none⟩) ([0,0,0,0]:List Int) 4) ([0,0,0,0]:List Int))),.x (fun imm' v hx=>∃ b5 b311 b411,v=vS (some ⟨b5,0,none⟩) ([(zA.mk ([0,0,0,0]:List Int) q),(zA.mk ([0,0,0,0]:List Int) q1)]:List zA) 2∧hx=[hO zA (vS (some ⟨b5,0,none⟩) ([(zA.mk ([0,0,0,0]:List Int) q),(zA.mk ([0,0,0,0]:List Int) q1)]:List zA) 2) [vS (some ⟨b311,0,none⟩) ([0,0,0,0]:List Int) 4,vI q,vS (some ⟨b411,0,none⟩) ([0,0,0,0]:List Int) 4,vI q1]]∧(RL imm' [vS (some ⟨b311,0,none⟩) ([0,0,0,0]:List Int) 4,vI q,vS (some ⟨b411,0,none⟩) ([0,0,0,0]:List Int) 4,vI q1] ([(zA.mk ([0,0,0,0]:List Int) q),(zA.mk ([0,0,0,0]:List Int) q1)]:List zA)))] [[],[],[],[(2,false)],[],[(3,false),(4,false)],[(5,false)],[(6,false)],[(7,false)],[(8,false)],[(1,false),(9,false)],[(0,false),(10,false)],[],[],[],[(14,false)],[],[(15,false),(16,false)],[(17,false)],[(18,false)],[(19,false)],[(20,false)],[(13,false),(21,false)],[(12,false),(22,false)],[(11,false),(23,false)]] [hO zA (vS (some ⟨b2,0,none⟩) ([(zA.mk ([0,0,0,0]:List Int) c5)]:List zA) 1) [vS (some ⟨b1,0,none⟩) ([0,0,0,0]:List Int) 4,vI c5],hB b (cProg y p1 c1 p2 c2)] [] [(24,true)] (zL [0,1] rfl (by decide)) ?_ ?_
       · refine Ox ?_<|Op<|Op<|Op<|Op<|Ox ?_<|Ox ?_<|Ox ?_<|Ox ?_<|Oq ?_<|Oq ?_<|Ox ?_<|Ox ?_<|Op<|Op<|Op<|Op<|Ox ?_<|Ox ?_<|Ox ?_<|Ox ?_<|Oq ?_<|Oq ?_<|Ox ?_<|Ox ?_<|On
         · intro imm1 hf le1;refine zN<|yG [] ?_;have hle:=iS imm1;have h12:=iM le1 h12;have h2:=h2.mono le1;have h3:=h3.mono le1;refine xY [vI 0,vI 0,vI 0,vI 0] Int ?_;intro b3 hb3;have h15:RL imm1 [vI 0,vI 0,vI 0,vI 0] ([0,0,0,0]:List Int):=⟨[vI 0],_,rfl,rfl,rfl,⟨[vI 0],_,rfl,rfl,rfl,⟨[vI 0],_,rfl,rfl,rfl,⟨[vI 0],_,rfl,rfl,rfl,rfl⟩⟩⟩⟩;refine yL 0 rfl ?_;intro imm09 le8 hl01;have h16:=SL.of_frozen hl01 le8 h15;have h12:=iM le8 h12;have h2:=h2.mono le8;have h3:=h3.mono le8;have hle:=hle.trans le8;exact zX (hx:=[]) rfl hle rfl (zM rfl) ⟨_,rfl,rfl,h16⟩
         · intro imm1 hf le1;refine zG ?_;rintro _ _ ⟨rfl,rfl⟩;refine zG ?_;rintro _ _ ⟨rfl,rfl⟩;refine zN<|yG [(80,vS p1 y.Arrays c1),(81,vI i)] ?_;have hle:=iS imm1;have h2:=h2.mono le1;refine wJ rfl rfl h2 hy9 ?_;intro ad4 ccs4 hat4 hrep4;obtain ⟨v010,rfl,h17⟩:=xU hrep4;obtain ⟨p7,c8,rfl⟩:=h17.form;exact zX (hx:=[]) rfl hle rfl (zM rfl) ⟨_,_,_,rfl,rfl,hat4,h17⟩
         · intro imm1 hf le1;refine zG ?_;rintro _ _ ⟨ad4,p7,c8,rfl,rfl,hat4,h17⟩;refine zN<|yG [(82,.pointer (some ad4))] ?_;have hle:=iS imm1;exact qQ 7 [(83,.pointer (some (ad4.add 1)))]<|zX (hx:=[]) rfl hle rfl (zM rfl) ⟨_,_,_,rfl,rfl,hat4,h17⟩
         · intro imm1 hf le1;refine zG ?_;rintro _ _ ⟨ad41,p71,c81,rfl,rfl,hat41,h171⟩;refine zN<|yG [(83,.pointer (some (ad41.add 1)))] ?_;have hle:=iS imm1;exact xX 1 hat41 [vS p71 x4.Dims c81] (vS p71 x4.Dims c81) rfl<|zX (hx:=[]) rfl hle rfl (zM rfl) ⟨_,_,rfl,rfl,h171⟩
         · intro imm1 hf le1;refine zG ?_;rintro _ _ ⟨p711,c811,rfl,rfl,h1711⟩;refine zN<|yG [(84,vS p711 x4.Dims c811)] ?_;have hle:=iS imm1;refine wJ rfl rfl h1711 hy10 ?_;intro ad5 ccs5 hat5 hrep5;obtain rfl:=hrep5;exact zX (hx:=[]) rfl hle rfl (zM rfl) ⟨_,rfl,rfl,hat5⟩
         · intro imm1 hf le1;refine zG ?_;rintro _ _ ⟨ad5,rfl,rfl,hat5⟩;refine zN<|yG [(85,.pointer (some ad5))] ?_;have hle:=iS imm1;exact xX 0 hat5 [vI x5] (vI x5) rfl<|zX (hx:=[]) rfl hle rfl (zM rfl) ⟨rfl,rfl⟩
         · intro imm1 hf le1;refine zG ?_;rintro _ _ ⟨rfl,rfl⟩;refine zG ?_;rintro _ _ ⟨rfl,rfl⟩;refine zN<|yG [(78,vI c5),(86,vI x5)] ?_;have hle:=iS imm1;exact R_qu rfl hy11<|zX (hx:=[]) rfl hle rfl (zM rfl) ⟨rfl,rfl⟩
         · intro imm1 hf le1;refine zG ?_;rintro _ _ ⟨b3,rfl,rfl,h16⟩;refine zG ?_;rintro _ _ ⟨rfl,rfl⟩;refine zN<|yG [(77,vS (some ⟨b3,0,none⟩) ([0,0,0,0]:List Int) 4),(87,vI q)] ?_;have hle:=iS imm1;exact qQ 12 [(88,vA [vS (some ⟨b3,0,none⟩) ([0,0,0,0]:List Int) 4,vI q])]<|zX (hx:=[]) rfl hle rfl (zM rfl) ⟨_,rfl,rfl,h16⟩
         · intro imm1 hf le1;refine zN<|yG [] ?_;have hle:=iS imm1;have h12:=iM le1 h12;have h2:=h2.mono le1;have h3:=h3.mono le1;refine xY [vI 0,vI 0,vI 0,vI 0] Int ?_;intro b4 hb4;have h18:RL imm1 [vI 0,vI 0,vI 0,vI 0] ([0,0,0,0]:List Int):=⟨[vI 0],_,rfl,rfl,rfl,⟨[vI 0],_,rfl,rfl,rfl,⟨[vI 0],_,rfl,rfl,rfl,⟨[vI 0],_,rfl,rfl,rfl,rfl⟩⟩⟩⟩;refine yL 0 rfl ?_;intro imm010 le9 hl02;have h19:=SL.of_frozen hl02 le9 h18;have h12:=iM le9 h12;have h2:=h2.mono le9;have h3:=h3.mono le9;have hle:=hle.trans le9;exact zX (hx:=[]) rfl hle rfl (zM rfl) ⟨_,rfl,rfl,h19⟩
         · intro imm1 hf le1;refine zG ?_;rintro _ _ ⟨rfl,rfl⟩;refine zG ?_;rintro _ _ ⟨rfl,rfl⟩;refine zN<|yG [(92,vS p1 y.Arrays c1),(93,vI i)] ?_;have hle:=iS imm1;have h2:=h2.mono le1;refine wJ rfl rfl h2 hy12 ?_;intro ad6 ccs6 hat6 hrep6;obtain ⟨v011,rfl,h20⟩:=xU hrep6;obtain ⟨p8,c9,rfl⟩:=h20.form;exact zX (hx:=[]) rfl hle rfl (zM rfl) ⟨_,_,_,rfl,rfl,hat6,h20⟩
         · intro imm1 hf le1;refine zG ?_;rintro _ _ ⟨ad6,p8,c9,rfl,rfl,hat6,h20⟩;refine zN<|yG [(94,.pointer (some ad6))] ?_;have hle:=iS imm1;exact qQ 19 [(95,.pointer (some (ad6.add 1)))]<|zX (hx:=[]) rfl hle rfl (zM rfl) ⟨_,_,_,rfl,rfl,hat6,h20⟩
         · intro imm1 hf le1;refine zG ?_;rintro _ _ ⟨ad61,p81,c91,rfl,rfl,hat61,h201⟩;refine zN<|yG [(95,.pointer (some (ad61.add 1)))] ?_;have hle:=iS imm1;exact xX 1 hat61 [vS p81 x6.Dims c91] (vS p81 x6.Dims c91) rfl<|zX (hx:=[]) rfl hle rfl (zM rfl) ⟨_,_,rfl,rfl,h201⟩
         · intro imm1 hf le1;refine zG ?_;rintro _ _ ⟨p811,c911,rfl,rfl,h2011⟩;refine zN<|yG [(96,vS p811 x6.Dims c911)] ?_;have hle:=iS imm1;refine wJ rfl rfl h2011 hy13 ?_;intro ad7 ccs7 hat7 hrep7;obtain rfl:=hrep7;exact zX (hx:=[]) rfl hle rfl (zM rfl) ⟨_,rfl,rfl,hat7⟩
         · intro imm1 hf le1;refine zG ?_;rintro _ _ ⟨ad7,rfl,rfl,hat7⟩;refine zN<|yG [(97,.pointer (some ad7))] ?_;have hle:=iS imm1;exact xX 0 hat7 [vI x7] (vI x7) rfl<|zX (hx:=[]) rfl hle rfl (zM rfl) ⟨rfl,rfl⟩
         · intro imm1 hf le1;refine zG ?_;rintro _ _ ⟨rfl,rfl⟩;refine zG ?_;rintro _ _ ⟨rfl,rfl⟩;refine zN<|yG [(90,vI c5),(98,vI x7)] ?_;have hle:=iS imm1;exact zIS rfl hy14<|zX (hx:=[]) rfl hle rfl (zM rfl) ⟨rfl,rfl⟩
         · intro imm1 hf le1;refine zG ?_;rintro _ _ ⟨b4,rfl,rfl,h19⟩;refine zG ?_;rintro _ _ ⟨rfl,rfl⟩;refine zN<|yG [(89,vS (some ⟨b4,0,none⟩) ([0,0,0,0]:List Int) 4),(99,vI q1)] ?_;have hle:=iS imm1;exact qQ 24 [(100,vA [vS (some ⟨b4,0,none⟩) ([0,0,0,0]:List Int) 4,vI q1])]<|zX (hx:=[]) rfl hle rfl (zM rfl) ⟨_,rfl,rfl,h19⟩
         intro imm1 hf le1;refine zG ?_;rintro _ _ ⟨b31,rfl,rfl,h161⟩;refine zG ?_;rintro _ _ ⟨b41,rfl,rfl,h191⟩;refine zN<|yG [(88,vA [vS (some ⟨b31,0,none⟩) ([0,0,0,0]:List Int) 4,vI q]),(100,vA [vS (some ⟨b41,0,none⟩) ([0,0,0,0]:List Int) 4,vI q1])] ?_;have hle:=iS imm1;refine xY [vS (some ⟨b31,0,none⟩) ([0,0,0,0]:List Int) 4,vI q,vS (some ⟨b41,0,none⟩) ([0,0,0,0]:List Int) 4,vI q1] zA ?_;intro b5 hb5;have h21:RL imm1 [vS (some ⟨b31,0,none⟩) ([0,0,0,0]:List Int) 4,vI q,vS (some ⟨b41,0,none⟩) ([0,0,0,0]:List Int) 4,vI q1] ([(zA.mk ([0,0,0,0]:List Int) q),(zA.mk ([0,0,0,0]:List Int) q1)]:List zA):=⟨[vS (some ⟨b31,0,none⟩) ([0,0,0,0]:List Int) 4,vI q],_,rfl,rfl,(yO ⟨_,rfl,h161⟩),⟨[vS (some ⟨b41,0,none⟩) ([0,0,0,0]:List Int) 4,vI q1],_,rfl,rfl,(yO ⟨_,rfl,h191⟩),rfl⟩⟩;exact zX (hx:=[hO zA (vS (some ⟨b5,0,none⟩) ([(zA.mk ([0,0,0,0]:List Int) q),(zA.mk ([0,0,0,0]:List Int) q1)]:List zA) 2) [vS (some ⟨b31,0,none⟩) ([0,0,0,0]:List Int) 4,vI q,vS (some ⟨b41,0,none⟩) ([0,0,0,0]:List Int) 4,vI q1]]) rfl hle rfl (zM rfl) ⟨_,_,_,rfl,rfl,h21⟩
       intro imm011 le10;refine zG ?_;rintro _ _ ⟨b5,b311,b411,rfl,rfl,h21⟩;refine zN<|yG [(3,vP b 0),(4,vI y1),(5,vI at02),(6,vI i),(7,vI size1),(9,vI c5),(101,vS (some ⟨b5,0,none⟩) ([(zA.mk ([0,0,0,0]:List Int) q),(zA.mk ([0,0,0,0]:List Int) q1)]:List zA) 2)] ?_;have h12:=iM le10 h12;have h2:=h2.mono le10;have h3:=h3.mono le10;have hle:=hle.trans le10;exact zY [] [(10,vS (some ⟨b5,0,none⟩) ([(zA.mk ([0,0,0,0]:List Int) q),(zA.mk ([0,0,0,0]:List Int) q1)]:List zA) 2)]<|wE (zL [0,2] rfl (by decide))<|yU [(3,vP b 0),(4,vI y1),(5,vI at02),(6,vI i),(7,vI size1),(9,vI c5),(10,vS (some ⟨b5,0,none⟩) ([(zA.mk ([0,0,0,0]:List Int) q),(zA.mk ([0,0,0,0]:List Int) q1)]:List zA) 2)]<|yA ⟨_,_,_,_,(zD hM).symm,hle,h21,rfl,rfl⟩
     intro hc6 hM;exact yD<|yU [(3,vP b 0),(4,vI y1),(5,vI at02),(6,vI i),(7,vI size1),(9,vI c5),(10,vS (some ⟨b2,0,none⟩) ([(zA.mk ([0,0,0,0]:List Int) c5)]:List zA) 1)]<|yA ⟨_,_,_,_,(zD hM).symm,hle,h12,rfl,rfl⟩
   rintro imm08 hs2 m2 ⟨subs,p6,c7,cs1,heq2,le11,h14,rfl,rfl⟩;subst o02;have h2:=h2.mono le11;have h3:=h3.mono le11;have hle:=hle.trans le11;refine zE<|zF<|zF<|qK 0 rfl ?_;intro imm012 le12 hl03;have h22:=SL.of_frozen hl03 le12 h14;have h2:=h2.mono le12;have h3:=h3.mono le12;have hle:=hle.trans le12;obtain ⟨x8,hy15,hM⟩:=zC hMc1;obtain ⟨y5,hy16,hM⟩:=zC hM;refine vZ [.p (vA (cProg y p1 c1 p2 c2)) [0],.p (vP b 0) [],.p (vS p1 y.Arrays c1) [0],.p (vI i) [],.x (fun imm' v hx=>∃ ad8 p9 c10,v=.pointer (some ad8)∧hx=[]∧(At imm' ad8 (cArr x8 p9 c10))∧(S4 imm' p9 x8.Dims c10)),.x (fun imm' v hx=>∃ ad81 p91 c101,v=.pointer (some ad81)∧hx=[]∧(At imm' ad81 (cArr x8 p91 c101))∧(S4 imm' p91 x8.Dims c101)),.q (vT x8.Name.l),.p (vS p6 subs c7) [],.p (vA [vT x8.Name.l,vS p6 subs c7]) [],.x (fun imm' v hx=>∃ b6,v=vS (some ⟨b6,0,none⟩) ([]:List Int) 0∧hx=[]∧(SL imm' (vS (some ⟨b6,0,none⟩) ([]:List Int) 0) ([]:List Int))),.q (vI y5),.p (vI at02) [],.p (.bool (y5 != at02)) []] [[],[],[(1,false)],[],[(2,false),(3,false)],[(4,false)],[(5,false)],[],[(6,false),(7,false)],[],[(0,false),(8,false),(9,false)],[],[(10,false),(11,false)]] [hB b (cProg y p1 c1 p2 c2)] [] [(12,false)] (zL [0] rfl (by decide)) ?_ ?_
   · refine Op<|Op<|Op<|Op<|Ox ?_<|Ox ?_<|Oq ?_<|Op<|Op<|Ox ?_<|Oq ?_<|Op<|Op<|On
     · intro imm1 hf le1;refine zG ?_;rintro _ _ ⟨rfl,rfl⟩;refine zG ?_;rintro _ _ ⟨rfl,rfl⟩;refine zN<|yG [(104,vS p1 y.Arrays c1),(105,vI i)] ?_;have hle:=iS imm1;have h2:=h2.mono le1;refine wJ rfl rfl h2 hy15 ?_;intro ad8 ccs8 hat8 hrep8;obtain ⟨v012,rfl,h23⟩:=xU hrep8;obtain ⟨p9,c10,rfl⟩:=h23.form;exact zX (hx:=[]) rfl hle rfl (zM rfl) ⟨_,_,_,rfl,rfl,hat8,h23⟩
     · intro imm1 hf le1;refine zG ?_;rintro _ _ ⟨ad8,p9,c10,rfl,rfl,hat8,h23⟩;refine zN<|yG [(106,.pointer (some ad8))] ?_;have hle:=iS imm1;exact qQ 6 [(107,.pointer (some ad8))]<|zX (hx:=[]) rfl hle rfl (zM rfl) ⟨_,_,_,rfl,rfl,hat8,h23⟩
     · intro imm1 hf le1;refine zG ?_;rintro _ _ ⟨ad81,p91,c101,rfl,rfl,hat81,h231⟩;refine zN<|yG [(107,.pointer (some ad81))] ?_;have hle:=iS imm1;exact xX 0 hat81 [vT x8.Name.l] (vT x8.Name.l) rfl<|zX (hx:=[]) rfl hle rfl (zM rfl) ⟨rfl,rfl⟩
     · intro imm1 hf le1;refine zN<|yG [] ?_;have hle:=iS imm1;have h2:=h2.mono le1;have h3:=h3.mono le1;refine xY [] Int ?_;intro b6 hb6;have h24:RL imm1 [] ([]:List Int):=rfl;refine yL 0 rfl ?_;intro imm013 le13 hl04;have h25:=SL.of_frozen hl04 le13 h24;have h2:=h2.mono le13;have h3:=h3.mono le13;have hle:=hle.trans le13;exact zX (hx:=[]) rfl hle rfl (zM rfl) ⟨_,rfl,rfl,h25⟩
     intro imm1 hf le1;refine zG ?_;rintro _ _ ⟨rfl,rfl⟩;refine zG ?_;rintro _ _ ⟨rfl,rfl⟩;refine zG ?_;rintro _ _ ⟨b6,rfl,rfl,h25⟩;refine zN<|yG [(102,vA (cProg y p1 c1 p2 c2)),(110,vA [vT x8.Name.l,vS p6 subs c7]),(111,vS (some ⟨b6,0,none⟩) ([]:List Int) 0)] ?_;have hle:=iS imm1;have h22:=h22.mono le1;have h2:=h2.mono le1;have h3:=h3.mono le1;refine yR (impl_CellOf_ok y (zK.mk x8.Name subs) ([]:List Int) _ hy16 h2 h3 h22 h25) ?_;rintro imm014 hs2 v2 k2 le14 - ⟨v013,rfl,rfl,rfl⟩ -;have h2:=h2.mono le14;have h3:=h3.mono le14;have h22:=h22.mono le14;have h25:=h25.mono le14;have hle:=hle.trans le14;exact zX (hx:=[]) rfl hle rfl (zM rfl) ⟨rfl,rfl⟩
   intro imm015 le15;refine zG ?_;rintro _ _ ⟨rfl,rfl⟩;refine zN<|yG [(3,vP b 0),(4,vI y1),(5,vI at02),(6,vI i),(7,vI size1),(9,vI c5),(114,.bool (y5 != at02))] ?_;have h2:=h2.mono le15;have h3:=h3.mono le15;have hle:=hle.trans le15;refine yN rfl<|zE<|yP hM ?_ ?_
   · intro hc7 hM;exact zF<|zB<|zY [] [(2,.bool false)]<|zE<|yJ<|zQ<|yE<|zQ<|zQ<|hr _ _ _ _ (zD hM).symm hle ⟨_,_,(.tmp rfl ResV.nil),zV,⟨_,rfl,rfl,rfl⟩⟩
   intro hc7 hM;exact yD<|zE<|zB<|zY [] [(5,vI (W (at02 + 1)))]<|zW<|zE<|zB<|zY [] [(9,vI (W (c5 + 1)))]<|xG<|uA [(3,vP b 0),(4,vI y1),(5,vI (W (at02 + 1))),(6,vI i),(7,vI size1),(9,vI (W (c5 + 1)))]<|ih (W (at02 + 1)) (W (c5 + 1)) _ hM hle h2 h3 hg ho hx hr
 intro hc5 hM;exact xB<|zT<|zT<|yU [(3,vP b 0),(4,vI y1),(5,vI at02),(6,vI i)]<|hx _ _ (zD hM).symm hle
def M.laws_FnCellRange_l1 (y:zZ) (at0:Int) (i:Int):Option (Out Int (Bool)):=do
 if (decide (i < (y.Arrays.length:Int))) then
  let size1←M.laws_FnCellRange_l2 y i 1 0
  match←M.laws_FnCellRange_l3 y i size1 at0 0 with
  | .ret r0=>pure (.ret r0)
  | .done at03 =>
   M.laws_FnCellRange_l1 y at03 (W (i + 1))
 else
  pure (.done at0)
 partial_fixpoint
theorem laws_FnCellRange_l1_ok (y:zZ):∀ (at0:Int) (i:Int) (o:Out Int (Bool)),M.laws_FnCellRange_l1 y at0 i=some o→∀ {B}{imm0 imm:Imm}{Q}{y1:Int}{p1 c1 p2 c2}{b:Nat},imm0.le imm→(S4 imm p1 y.Arrays c1)→(S4 imm p2 y.Parts c2)→(∀ l a w,¬Q (.goto l) a w)→(∀ a w,¬Q .outgrown a w)→(∀ (imm':Imm) (at01:Int),o=(.done at01)→imm0.le imm'→T 120 B Q (.exit 0) imm' [] [(4,vI y1),(5,vI at01)])→(∀ r imm' hs' m',o=(.ret r)→imm0.le imm'→RS Tryz.prog Tryz.f5 B (laws_FnCellRange_post  r) imm' hs' m'→T 120 B Q .ret imm' hs' m')→J Tryz.prog 120 B (nav (bodyOf Tryz.f5) [1,1,1,1,1,1,0,1,0]) Q imm [hB b (cProg y p1 c1 p2 c2)] [(3,vP b 0),(4,vI y1),(5,vI at0),(6,vI i)]:=by
 refine M.laws_FnCellRange_l1.partial_correctness y _ ?_;intro self ih at0 i o hM B imm0 imm Q y1 p1 c1 p2 c2 b hle h2 h3 hg ho hx hr;refine xF hg ho<|zF<|zF<|zB<|zY [0] [(35,.bool (decide (i < (y.Arrays.length:Int))))]<|zE<|yP hM ?_ ?_
 · intro hc3 hM;refine yD<|zE<|zF<|yB<|zF<|zB<|zY [] [(7,vI 1)]<|zE<|zF<|zF<|zB<|zY [] [(8,vI 0)]<|zE<|yB<|uA [(3,vP b 0),(4,vI y1),(5,vI at0),(6,vI i),(7,vI 1),(8,vI 0)] ?_;obtain ⟨o01,ho01,hMl⟩:=zC hM;refine laws_FnCellRange_l2_ok y i 1 0 o01 ho01 iR h2 h3 (fun _ _ _ h=>hg _ _ _ h) (fun _ _ h=>ho _ _ h) ?_;intro imm06 size1 heq1 le6;subst o01;have h2:=h2.mono le6;have h3:=h3.mono le6;have hle:=hle.trans le6;refine yC<|zE<|zF<|zB<|zY [] [(9,vI 0)]<|zE<|yB<|uA [(3,vP b 0),(4,vI y1),(5,vI at0),(6,vI i),(7,vI size1),(9,vI 0)] ?_;obtain ⟨o03,ho03,hMl1⟩:=zC hMl;refine laws_FnCellRange_l3_ok y i size1 at0 0 o03 ho03 iR h2 h3 (fun _ _ _ h=>hg _ _ _ h) (fun _ _ h=>ho _ _ h) ?_ ?_
   · intro imm016 at03 heq3 le16;subst o03;have h2:=h2.mono le16;have h3:=h3.mono le16;have hle:=hle.trans le16;exact yC<|zW<|zE<|zB<|zY [] [(6,vI (W (i + 1)))]<|xG<|uA [(3,vP b 0),(4,vI y1),(5,vI at03),(6,vI (W (i + 1)))]<|ih at03 (W (i + 1)) _ hMl1 hle h2 h3 hg ho hx hr
   intro r0 imm9 hs9 m9 heq9 le9 hrs9;subst heq9;exact yE<|yE<|zQ<|zQ<|hr _ _ _ _ (zD hMl1).symm (hle.trans le9) hrs9
 intro hc3 hM;exact xB<|zT<|zT<|wE (zL [] rfl (by decide))<|yU [(4,vI y1),(5,vI at0)]<|hx _ _ (zD hM).symm hle
def M.laws_FnCellRange (code:(List UInt8)):Option (Bool):=do
 if (decide ((code.length:Int) > 1048576)) then
  pure true
 else
  let y←M.spec_DrawCountCells code
  let y1←M.impl_CountCells y
  let t26←(do
    let y2←M.spec_CountCells y
    if (y1 != y2) then
     pure true
    else
     let y3←M.impl_ProgramValid y
     pure (!y3)
      : Option Bool)
  if t26 then
   let y4←M.spec_CountCells y
   pure (y1 == y4)
  else
   match←M.laws_FnCellRange_l1 y 0 0 with
   | .ret r0=>pure r0
   | .done at01 =>
    pure (at01 == y1)
theorem laws_FnCellRange_ok:∀ (code:(List UInt8)) r,M.laws_FnCellRange code=some r→∀ {imm:Imm}{p c},(S4 imm p code c)→Ret Tryz.prog 5 [vS p code c] imm [] (laws_FnCellRange_post  r):=by
 intro code r hM imm p c h;unfold M.laws_FnCellRange at hM;refine yF (fn:=Tryz.f5) (c:=(bodyOf Tryz.f5)) Tryz.func5 rfl rfl ?_;rintro B - -;have hle:=iS imm;refine zF<|zB<|zY [] []<|zE<|zF<|zF<|zB<|zY [] [(13,.bool (decide ((code.length:Int) > 1048576)))]<|zE<|yP hM ?_ ?_
 · intro hc hM;refine zF<|zB<|zY [] [(2,.bool true)]<|zE<|yJ<|zQ ?_;obtain rfl:=zD hM;exact yQ ⟨_,_,(.tmp rfl ResV.nil),zV,⟨_,rfl,rfl,rfl⟩⟩
 intro hc hM;refine yD<|zE<|zF<|zB<|yK 1 [] [(14,vS p code c)] ?_;obtain ⟨y,hy,hM⟩:=zC hM;refine yR (spec_DrawCountCells_ok code _ hy h) ?_;rintro imm0 hs2 v2 k2 le - ⟨v0,rfl,rfl,⟨cs,rfl,h1⟩⟩ -;have hle:=hle.trans le;obtain ⟨v01,v02,rfl,h2,h3⟩:=zFp h1;obtain ⟨p1,c1,rfl⟩:=h2.form;obtain ⟨p2,c2,rfl⟩:=h3.form;refine uJ zTwo ?_;intro b hb;refine xI 0 (cProg y p1 c1 p2 c2) [hB b (cProg y p1 c1 p2 c2)] rfl rfl rfl rfl<|yN rfl<|zE<|zF<|zB<|yK 1 [0] [(16,vA (cProg y p1 c1 p2 c2))] ?_;obtain ⟨y1,hy1,hM⟩:=zC hM;refine yR (impl_CountCells_ok y _ hy1 h2 h3) ?_;rintro imm01 hs2 v2 k2 le1 - ⟨v03,rfl,rfl,rfl⟩ -;have h2:=h2.mono le1;have h3:=h3.mono le1;have hle:=hle.trans le1;refine zY [] [(4,vI y1)]<|zE<|zF<|zF ?_;obtain ⟨o0,ho0,hMc⟩:=zC hM;refine yT (fun imm' hs' m'=>∃ (t26:Bool),o0=t26∧imm01.le imm'∧hs'=[hB b (cProg y p1 c1 p2 c2)]∧m'=[(3,vP b 0),(4,vI y1),(26,.bool t26)]) ?_ ?_
 · have hle0:=hle;have hle:=iS imm01;refine zB<|yK 2 [0] [(18,vI y1),(19,vA (cProg y p1 c1 p2 c2))] ?_;obtain ⟨y2,hy2,hM⟩:=zC ho0;refine yR (spec_CountCells_ok y _ hy2 h2 h3) ?_;rintro imm03 hs2 v2 k2 le2 - ⟨v04,rfl,rfl,rfl⟩ -;have h2:=h2.mono le2;have h3:=h3.mono le2;have hle:=hle.trans le2;refine yK 5 [] [(22,.bool (y1 != y2))] ?_;cases hc1:(y1 != y2) with
   | true =>
    have hM0:=zU hc1 hM
    try rw [hc1]
    exact zY [] [(26,.bool true)]<|yU [(3,vP b 0),(4,vI y1),(26,.bool true)]<|yA ⟨_,(zD hM0).symm,hle,rfl,rfl⟩
   | false =>
    have hM01:=zS hc1 hM
    try rw [hc1]
    refine yK 6 [0] [(23,vA (cProg y p1 c1 p2 c2))] ?_;obtain ⟨y3,hy3,hM⟩:=zC hM01;refine yR (impl_ProgramValid_ok y _ hy3 h2 h3) ?_;rintro imm04 hs2 v2 k2 le3 - ⟨v05,rfl,rfl,rfl⟩ -;have h2:=h2.mono le3;have h3:=h3.mono le3;have hle:=hle.trans le3;exact zY [] [(26,.bool (!y3))]<|yU [(3,vP b 0),(4,vI y1),(26,.bool (!y3))]<|yA ⟨_,(zD hM).symm,hle,rfl,rfl⟩
 rintro imm02 hs2 m2 ⟨t26,heq,le4,rfl,rfl⟩;subst o0;have h2:=h2.mono le4;have h3:=h3.mono le4;have hle:=hle.trans le4;refine zE<|yP hMc ?_ ?_
 · intro hc2 hM;refine zF<|zB<|yK 2 [0] [(27,vI y1),(28,vA (cProg y p1 c1 p2 c2))] ?_;obtain ⟨y4,hy4,hM⟩:=zC hM;refine yR (spec_CountCells_ok y _ hy4 h2 h3) ?_;rintro imm05 hs2 v2 k2 le5 - ⟨v06,rfl,rfl,rfl⟩ -;have h2:=h2.mono le5;have h3:=h3.mono le5;have hle:=hle.trans le5;refine zY [] [(2,.bool (y1 == y4))]<|zE<|yJ<|zQ ?_;obtain rfl:=zD hM;exact yQ ⟨_,_,(.tmp rfl ResV.nil),zV,⟨_,rfl,rfl,rfl⟩⟩
 intro hc2 hM;refine yD<|zE<|zF<|zB<|zY [] [(5,vI 0)]<|zE<|zF<|zF<|zB<|zY [] [(6,vI 0)]<|zE<|yB<|uA [(3,vP b 0),(4,vI y1),(5,vI 0),(6,vI 0)] ?_;obtain ⟨o04,ho04,hMl2⟩:=zC hM;refine laws_FnCellRange_l1_ok y 0 0 o04 ho04 iR h2 h3 (fun _ _ _ h=>h) (fun _ _ h=>h) ?_ ?_
 · intro imm017 at01 heq4 le17;subst o04;have hle:=hle.trans le17;refine yC<|zE<|zF<|zB<|zY [] [(2,.bool (at01 == y1))]<|zE<|yJ ?_;obtain rfl:=zD hMl2;exact yQ ⟨_,_,(.tmp rfl ResV.nil),zV,⟨_,rfl,rfl,rfl⟩⟩
 intro r0 imm9 hs9 m9 heq9 le9 hrs9;subst heq9;refine yE<|zQ ?_;obtain rfl:=zD hMl2;exact yQ hrs9
end Go.LN
namespace Go.LN
theorem implValidP (P : zZ) (h : BG P) : M.impl_ProgramValid P = some (validP P) := by
  unfold M.impl_ProgramValid validP
  rw [implInstances P h]
  cases progB P <;> rfl
end Go.LN
namespace Go.LN
theorem drawProg (code : List UInt8) : Ok (M.spec_DrawProgramValid code) (fun y => BG y ∧ AR y.Arrays) := by
  unfold M.spec_DrawProgramValid
  refine Ok.call (zHm code) trivial fun s hs => Ok.call (zIJ s) ⟨by omega, by omega⟩ fun a t g1 g2 g3 => ?_
  refine Ok.bind (mut4 t a g1.dp (by omega) (by omega)) fun p hp => ?_
  obtain ⟨p1, p2⟩ := p
  exact Ok.pure hp.1
def totL : List zJ → Int → Int
  | [], n => n
  | x :: l, n => totL l (W (n + sizeF x))
theorem implCells (P : zZ) (h : BR P.Arrays) : M.impl_Program_cells P = some (totL P.Arrays 0) := by
  unfold M.impl_Program_cells
  obtain ⟨h1, h2⟩ := h
  have key : ∀ (j i : Nat) (n : Int), i + j = P.Arrays.length → M.impl_Program_cells_l1 P n (i : Int) = some (totL (P.Arrays.drop i) n) := by
    intro j
    induction j with
    | zero =>
      intro i n hi
      rw [M.impl_Program_cells_l1]
      have : ¬ ((i : Int) < (P.Arrays.length : Int)) := by omega
      simp only [this, decide_false, Bool.false_eq_true, if_false]
      rw [List.drop_eq_nil_iff.2 (by omega)]; rfl
    | succ j ih =>
      intro i n hi
      rw [M.impl_Program_cells_l1]
      have hlt : i < P.Arrays.length := by omega
      have hc : ((i : Int) < (P.Arrays.length : Int)) := by omega
      have hd := h2 _ (List.getElem_mem hlt)
      simp only [hc, decide_true, if_true, xH hlt, Option.bind_eq_bind, Option.bind_some, implSize _ (show P.Arrays[i].Dims.length ≤ 1048576 by omega)]
      rw [tV (by omega), ih (i + 1) _ (by omega), List.drop_eq_getElem_cons hlt, totL]
  have := key _ 0 0 (Nat.zero_add _)
  rw [Int.natCast_zero, List.drop_zero] at this
  rw [this]; rfl
theorem specTotal (P : zZ) (h : BR P.Arrays) : M.spec_l4Total P = some (totL P.Arrays 0) := by
  unfold M.spec_l4Total
  obtain ⟨h1, h2⟩ := h
  have key : ∀ (j i : Nat) (n : Int), i + j = P.Arrays.length → M.spec_l4Total_l1 P n (i : Int) = some (totL (P.Arrays.drop i) n) := by
    intro j
    induction j with
    | zero =>
      intro i n hi
      rw [M.spec_l4Total_l1]
      have : ¬ ((i : Int) < (P.Arrays.length : Int)) := by omega
      simp only [this, decide_false, Bool.false_eq_true, if_false]
      rw [List.drop_eq_nil_iff.2 (by omega)]; rfl
    | succ j ih =>
      intro i n hi
      rw [M.spec_l4Total_l1]
      have hlt : i < P.Arrays.length := by omega
      have hc : ((i : Int) < (P.Arrays.length : Int)) := by omega
      have hd := h2 _ (List.getElem_mem hlt)
      simp only [hc, decide_true, if_true, xH hlt, Option.bind_eq_bind, Option.bind_some, specSize _ (show P.Arrays[i].Dims.length ≤ 1048576 by omega)]
      rw [tV (by omega), ih (i + 1) _ (by omega), List.drop_eq_getElem_cons hlt, totL]
  have := key _ 0 0 (Nat.zero_add _)
  rw [Int.natCast_zero, List.drop_zero] at this
  rw [this]; rfl
theorem implCount (P : zZ) (h : BG P) : M.impl_CountCells P = some (if validP P then totL P.Arrays 0 else 0) := by
  unfold M.impl_CountCells
  rw [implValidP P h, implCells P h.1]
  cases validP P <;> rfl
theorem specCountC (P : zZ) (h : BG P) : M.spec_CountCells P = some (if validP P then totL P.Arrays 0 else 0) := by
  unfold M.spec_CountCells
  rw [specValidP P h, specTotal P h.1]
  cases validP P <;> rfl
end Go.LN
