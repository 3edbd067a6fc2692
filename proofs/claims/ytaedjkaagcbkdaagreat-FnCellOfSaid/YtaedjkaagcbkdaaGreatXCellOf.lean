/- Helper of the proof (see the last text). -/
import Derived.Test.YtaedjkaagcbkdaaGreatLnA
import Derived.Test.YtaedjkaagcbkdaaGreatLnB
import Derived.Test.YtaedjkaagcbkdaaGreatLnC
import Derived.Test.YtaedjkaagcbkdaaGreatLnD
import Derived.Test.YtaedjkaagcbkdaaGreatLnE
import Derived.Test.YtaedjkaagcbkdaaGreatLnF
import Derived.Test.YtaedjkaagcbkdaaGreatLnG
import Derived.Test.YtaedjkaagcbkdaaGreatLnH
import Derived.Test.YtaedjkaagcbkdaaGreatLnI
import Derived.Test.YtaedjkaagcbkdaaGreatLnJ
import Derived.Test.YtaedjkaagcbkdaaGreatLnK
import Derived.Test.YtaedjkaagcbkdaaGreatLnL
import Derived.Test.YtaedjkaagcbkdaaGreatLnM
import Derived.Test.YtaedjkaagcbkdaaGreatLnN
import Derived.Test.YtaedjkaagcbkdaaGreatLnO
import Derived.Test.YtaedjkaagcbkdaaGreatLnP
import Derived.Test.YtaedjkaagcbkdaaGreatLnQ
import Derived.Test.YtaedjkaagcbkdaaGreatLnTZ
import Derived.Test.YtaedjkaagcbkdaaGreatLnUZ
import Derived.Test.YtaedjkaagcbkdaaGreatLnV
import Derived.Test.YtaedjkaagcbkdaaGreatLnSZ
import Derived.Test.YtaedjkaagcbkdaaGreatLnW
import Derived.Test.YtaedjkaagcbkdaaGreatLnX
import Derived.Test.YtaedjkaagcbkdaaGreatLnY
import Derived.Test.YtaedjkaagcbkdaaGreatTryzShelf
import Derived.Test.YtaedjkaagcbkdaaGreatHM1
import Derived.Test.YtaedjkaagcbkdaaGreatHM2
import Derived.Test.YtaedjkaagcbkdaaGreatHM3
import Derived.Test.YtaedjkaagcbkdaaGreatHM4
import Derived.Test.YtaedjkaagcbkdaaGreatHM5
import Derived.Test.YtaedjkaagcbkdaaGreatHM6
import Derived.Test.YtaedjkaagcbkdaaGreatHM7
import Derived.Test.YtaedjkaagcbkdaaGreatQT
import Derived.Test.YtaedjkaagcbkdaaGreatQZ
import Derived.Test.YtaedjkaagcbkdaaGreatVB1
import Derived.Test.YtaedjkaagcbkdaaGreatVB2
import Derived.Test.YtaedjkaagcbkdaaGreatVB3
import Derived.Test.YtaedjkaagcbkdaaGreatVB4
import Derived.Test.YtaedjkaagcbkdaaGreatVB5
import Derived.Test.YtaedjkaagcbkdaaGreatVB6
import Derived.Test.YtaedjkaagcbkdaaGreatVB7
import Derived.Test.YtaedjkaagcbkdaaGreatVB8
import Derived.Test.YtaedjkaagcbkdaaGreatVC1
import Derived.Test.YtaedjkaagcbkdaaGreatVC2
import Derived.Test.YtaedjkaagcbkdaaGreatVC3
import Derived.Test.YtaedjkaagcbkdaaGreatLnR
namespace Go.LN
set_option linter.unusedVariables false
set_option linter.unusedSimpArgs false
open Go.Proofs
set_option maxRecDepth 20000
def impl_ProgramValid_post (r:Bool):KT:=fun kk imm' hs' v=>
  ∃ v0,hs'=[]∧v=tupV [v0]∧v0=.bool r
def M.impl_ProgramValid (p:zZ):Option (Bool):=do
 let (y1,y2)←rQ p
 pure (id y2)
theorem impl_ProgramValid_ok:∀ (p:zZ) r,M.impl_ProgramValid p=some r→∀ {imm:Imm}{p1 c p2 c1},(S4 imm p1 p.Arrays c)→(S4 imm p2 p.Parts c1)→Ret Tryz.prog 18 [vA (cProg p p1 c p2 c1)] imm [] (impl_ProgramValid_post  r):=by
 intro p r hM imm p1 c p2 c1 h h1;unfold M.impl_ProgramValid at hM;refine yF (fn:=Tryz.f18) (c:=(bodyOf Tryz.f18)) Tryz.func18 rfl rfl ?_;rintro B - -;have hle:=iS imm;refine zF<|zB<|sD (cProg p p1 c p2 c1) ?_;intro b hb;refine zY [] []<|zE<|zF<|zB<|yK 1 [0] [(6,vA (cProg p p1 c p2 c1))] ?_;obtain ⟨⟨y1,y2⟩,hy,hM⟩:=zC hM;refine yR (zDc p _ hy h h1) ?_;rintro imm0 hs2 v2 k2 le - ⟨v0,v01,rfl,rfl,h2,rfl⟩ -;have h:=h.mono le;have h1:=h1.mono le;have hle:=hle.trans le;obtain ⟨p3,c2,rfl⟩:=h2.form;refine zY [] [(4,.bool y2)]<|zE<|zF<|zB<|zY [] [(2,.bool y2)]<|zE<|yJ ?_;obtain rfl:=zD hM;exact yQ ⟨_,_,(.tmp rfl ResV.nil),zV,⟨_,rfl,rfl,rfl⟩⟩
def impl_Program_cells_post (r:Int):KT:=fun kk imm' hs' v=>
  ∃ v0,hs'=[]∧v=tupV [v0]∧v0=.int .i64 r
def M.impl_Program_cells_l1 (p:zZ) (n0:Int) (t9:Int):Option (Int):=do
 if (decide (t9 < (p.Arrays.length:Int))) then
  let x←idx p.Arrays t9
  let y←pH x
  M.impl_Program_cells_l1 p (W (n0 + y)) (W (t9 + 1))
 else
  pure (id n0)
 partial_fixpoint
theorem impl_Program_cells_l1_ok (p:zZ):∀ (n0:Int) (t9:Int) (o:Int),M.impl_Program_cells_l1 p n0 t9=some o→∀ {B}{imm0 imm:Imm}{Q p1 c},imm0.le imm→(S4 imm p1 p.Arrays c)→(∀ l a w,¬Q (.goto l) a w)→(∀ a w,¬Q .outgrown a w)→(∀ (imm':Imm) (n01:Int),o=n01→imm0.le imm'→T 19 B Q (.exit 0) imm' [] [(3,vI n01)])→J Tryz.prog 19 B (nav (bodyOf Tryz.f55) [1,1,0,1,0]) Q imm [] [(3,vI n0),(7,vS p1 p.Arrays c),(8,vI (p.Arrays.length:Int)),(9,vI t9)]:=by
 refine M.impl_Program_cells_l1.partial_correctness p _ ?_;intro self ih n0 t9 o hM B imm0 imm Q p1 c hle h hg ho hx;refine xF hg ho<|zF<|zB<|zY [] [(10,.bool (decide (t9 < (p.Arrays.length:Int))))]<|zE<|zF<|yP hM ?_ ?_
 · intro hc hM;refine yD<|zE<|zF<|yB<|zF<|zB ?_;obtain ⟨x,hy,hM⟩:=zC hM;refine wJ rfl rfl h hy ?_;intro ad ccs hat hrep;obtain ⟨v0,rfl,h2⟩:=xU hrep;obtain ⟨p3,c2,rfl⟩:=h2.form;refine xX 0 hat (cArr x p3 c2) (vA (cArr x p3 c2)) rfl<|uJ [vT ([]),z0] ?_;intro b1 hb1;refine xI 0 (cArr x p3 c2) [hB b1 (cArr x p3 c2)] rfl rfl rfl rfl<|yN rfl<|zE<|zB<|yK 2 [0] [(13,vI n0),(14,vA (cArr x p3 c2))] ?_;obtain ⟨y,hy1,hM⟩:=zC hM;refine yR (zAi x _ hy1 h2) ?_;rintro imm0 hs2 v2 k2 le - ⟨v01,rfl,rfl,rfl⟩ -;have h:=h.mono le;have h2:=h2.mono le;have hle:=hle.trans le;exact zY [] [(3,vI (W (n0 + y)))]<|zW<|zE<|zB<|zY [] [(9,vI (W (t9 + 1)))]<|xG<|qR (zL [] rfl (by decide))<|uA [(3,vI (W (n0 + y))),(7,vS p1 p.Arrays c),(8,vI (p.Arrays.length:Int)),(9,vI (W (t9 + 1)))]<|ih (W (n0 + y)) (W (t9 + 1)) _ hM hle h hg ho hx
 intro hc hM;exact xB<|zT<|zT<|yU [(3,vI n0)]<|hx _ _ (zD hM).symm hle
def M.impl_Program_cells (p:zZ):Option (Int):=do
 let n01←M.impl_Program_cells_l1 p 0 0
 pure (id n01)
theorem impl_Program_cells_ok:∀ (p:zZ) r,M.impl_Program_cells p=some r→∀ {imm:Imm}{p1 c p2 c1},(S4 imm p1 p.Arrays c)→(S4 imm p2 p.Parts c1)→Ret Tryz.prog 55 [vA (cProg p p1 c p2 c1)] imm [] (impl_Program_cells_post  r):=by
 intro p r hM imm p1 c p2 c1 h h1;unfold M.impl_Program_cells at hM;refine yF (fn:=Tryz.f55) (c:=(bodyOf Tryz.f55)) Tryz.func55 rfl rfl ?_;rintro B - -;have hle:=iS imm;refine zF<|zB<|sD (cProg p p1 c p2 c1) ?_;intro b hb;refine zY [] []<|zE<|zF<|zB<|zY [] [(3,vI 0)]<|zE<|zF<|zF<|zB<|zY [0] [(7,vS p1 p.Arrays c),(8,vI (p.Arrays.length:Int)),(9,vI 0)]<|zE<|yB<|qR (zL [] (hs':=[]) rfl (by decide))<|uA [(3,vI 0),(7,vS p1 p.Arrays c),(8,vI (p.Arrays.length:Int)),(9,vI 0)] ?_;obtain ⟨o0,ho0,hMl⟩:=zC hM;refine impl_Program_cells_l1_ok p 0 0 o0 ho0 iR h (fun _ _ _ h=>h) (fun _ _ h=>h) ?_;intro imm01 n01 heq le1;subst o0;have hle:=hle.trans le1;refine yC<|zE<|zF<|zB<|zY [] [(2,vI n01)]<|zE<|yJ ?_;obtain rfl:=zD hMl;exact yQ ⟨_,_,(.tmp rfl ResV.nil),zV,⟨_,rfl,rfl,rfl⟩⟩
def impl_CountCells_post (r:Int):KT:=fun kk imm' hs' v=>
  ∃ v0,hs'=[]∧v=tupV [v0]∧v0=.int .i64 r
def M.impl_CountCells (p:zZ):Option (Int):=do
 let y←M.impl_ProgramValid p
 if (!y) then
  pure (id 0)
 else
  let y1←M.impl_Program_cells p
  pure (id y1)
theorem impl_CountCells_ok:∀ (p:zZ) r,M.impl_CountCells p=some r→∀ {imm:Imm}{p1 c p2 c1},(S4 imm p1 p.Arrays c)→(S4 imm p2 p.Parts c1)→Ret Tryz.prog 21 [vA (cProg p p1 c p2 c1)] imm [] (impl_CountCells_post  r):=by
 intro p r hM imm p1 c p2 c1 h h1;unfold M.impl_CountCells at hM;refine yF (fn:=Tryz.f21) (c:=(bodyOf Tryz.f21)) Tryz.func21 rfl rfl ?_;rintro B - -;have hle:=iS imm;refine zF<|zB<|sD (cProg p p1 c p2 c1) ?_;intro b hb;refine zY [] []<|zE<|zF<|zF<|zB<|yK 1 [0] [(3,vA (cProg p p1 c p2 c1))] ?_;obtain ⟨y,hy,hM⟩:=zC hM;refine yR (impl_ProgramValid_ok p _ hy h h1) ?_;rintro imm0 hs2 v2 k2 le - ⟨v0,rfl,rfl,rfl⟩ -;have h:=h.mono le;have h1:=h1.mono le;have hle:=hle.trans le;refine zY [] [(5,.bool (!y))]<|zE<|yP hM ?_ ?_
 · intro hc hM;refine zF<|zB<|zY [] [(2,vI 0)]<|zE<|yJ<|zQ ?_;obtain rfl:=zD hM;exact yQ ⟨_,_,(.tmp rfl ResV.nil),zV,⟨_,rfl,rfl,rfl⟩⟩
 intro hc hM;refine yD<|zE<|zF<|zB<|yK 1 [0] [(6,vA (cProg p p1 c p2 c1))] ?_;obtain ⟨y1,hy1,hM⟩:=zC hM;refine yR (impl_Program_cells_ok p _ hy1 h h1) ?_;rintro imm01 hs2 v2 k2 le1 - ⟨v01,rfl,rfl,rfl⟩ -;have h:=h.mono le1;have h1:=h1.mono le1;have hle:=hle.trans le1;refine zY [] [(2,vI y1)]<|zE<|yJ ?_;obtain rfl:=zD hM;exact yQ ⟨_,_,(.tmp rfl ResV.nil),zV,⟨_,rfl,rfl,rfl⟩⟩
end Go.LN
namespace Go.LN
open Go.Proofs
set_option maxRecDepth 20000
def impl_CellOf_post (r:Int):KT:=fun kk imm' hs' v=>
  ∃ v0,hs'=[]∧v=tupV [v0]∧v0=.int .i64 r
def M.impl_CellOf (p:zZ) (a0:zK) (point:(List Int)):Option (Int):=do
 let t19←(do
   let y←M.impl_ProgramValid p
   if (!y) then
    pure true
   else
    let y1←qY a0 4
    if (!y1) then
     pure true
    else
     let y2←nE point
     pure (!y2)
     : Option Bool)
 if t19 then
  pure (-1)
 else
  let y3←sQ p a0 point
  pure (id y3)
theorem impl_CellOf_ok:∀ (p:zZ) (a0:zK) (point:(List Int)) r,M.impl_CellOf p a0 point=some r→∀ {imm:Imm}{p1 c p2 c1 p3 c2 p4 c3},(S4 imm p1 p.Arrays c)→(S4 imm p2 p.Parts c1)→(S4 imm p3 a0.Subs c2)→(S4 imm p4 point c3)→Ret Tryz.prog 23 [vA (cProg p p1 c p2 c1),vA (cAccess a0 p3 c2),vS p4 point c3] imm [] (impl_CellOf_post  r):=by
 intro p a0 point r hM imm p1 c p2 c1 p3 c2 p4 c3 h h1 h2 h3;unfold M.impl_CellOf at hM;refine yF (fn:=Tryz.f23) (c:=(bodyOf Tryz.f23)) Tryz.func23 rfl rfl ?_;rintro B - -;have hle:=iS imm;refine zF<|zB<|sD (cProg p p1 c p2 c1) ?_;intro b hb;refine sD (cAccess a0 p3 c2) ?_;intro b1 hb1;refine zY [] []<|zE<|zF<|zF ?_;obtain ⟨o0,ho0,hMc⟩:=zC hM;refine yT (fun imm' hs' m'=>∃ (t19:Bool),o0=t19∧imm.le imm'∧hs'=[hB b1 (cAccess a0 p3 c2),hB b (cProg p p1 c p2 c1)]∧m'=[(2,vS p4 point c3),(3,vP b 0),(4,vP b1 0),(19,.bool t19)]) ?_ ?_
 · have hle0:=hle;have hle:=iS imm;refine zB<|yK 1 [1] [(7,vA (cProg p p1 c p2 c1))] ?_;obtain ⟨y,hy,hM⟩:=zC ho0;refine yR (impl_ProgramValid_ok p _ hy h h1) ?_;rintro imm01 hs2 v2 k2 le - ⟨v0,rfl,rfl,rfl⟩ -;have h3:=h3.mono le;have h2:=h2.mono le;have h:=h.mono le;have h1:=h1.mono le;have hle:=hle.trans le;refine yK 4 [] [(10,.bool (!y))] ?_;cases hc:(!y) with
   | true =>
    have hM0:=zU hc hM
    try rw [hc]
    exact zY [] [(19,.bool true)]<|yU [(2,vS p4 point c3),(3,vP b 0),(4,vP b1 0),(19,.bool true)]<|yA ⟨_,(zD hM0).symm,hle,rfl,rfl⟩
   | false =>
    have hM01:=zS hc hM
    try rw [hc]
    refine yK 5 [0] [(11,vA (cAccess a0 p3 c2))] ?_;obtain ⟨y1,hy1,hM⟩:=zC hM01;refine yR (gV a0 4 _ hy1 h2) ?_;rintro imm02 hs2 v2 k2 le1 - ⟨v01,rfl,rfl,rfl⟩ -;have h3:=h3.mono le1;have h2:=h2.mono le1;have h:=h.mono le1;have h1:=h1.mono le1;have hle:=hle.trans le1;refine yK 9 [] [(15,.bool (!y1))] ?_;cases hc1:(!y1) with
    | true =>
     have hM02:=zU hc1 hM
     try rw [hc1]
     exact zY [] [(19,.bool true)]<|yU [(2,vS p4 point c3),(3,vP b 0),(4,vP b1 0),(19,.bool true)]<|yA ⟨_,(zD hM02).symm,hle,rfl,rfl⟩
    | false =>
     have hM03:=zS hc1 hM
     try rw [hc1]
     refine yK 10 [] [(16,vS p4 point c3)] ?_;obtain ⟨y2,hy2,hM⟩:=zC hM03;refine yR (zC8 point _ hy2 h3) ?_;rintro imm03 hs2 v2 k2 le2 - ⟨v02,rfl,rfl,rfl⟩ -;have h3:=h3.mono le2;have h2:=h2.mono le2;have h:=h.mono le2;have h1:=h1.mono le2;have hle:=hle.trans le2;exact zY [] [(19,.bool (!y2))]<|yU [(2,vS p4 point c3),(3,vP b 0),(4,vP b1 0),(19,.bool (!y2))]<|yA ⟨_,(zD hM).symm,hle,rfl,rfl⟩
 rintro imm0 hs2 m2 ⟨t19,heq,le3,rfl,rfl⟩;subst o0;have h3:=h3.mono le3;have h2:=h2.mono le3;have h:=h.mono le3;have h1:=h1.mono le3;have hle:=hle.trans le3;refine zE<|yP hMc ?_ ?_
 · intro hc2 hM;refine zF<|zB<|zY [] [(6,vI (-1))]<|zE<|yJ<|zQ ?_;obtain rfl:=zD hM;exact yQ ⟨_,_,(.tmp rfl ResV.nil),zV,⟨_,rfl,rfl,rfl⟩⟩
 intro hc2 hM;refine yD<|zE<|zF<|zB<|yK 3 [1,0] [(20,vA (cProg p p1 c p2 c1)),(21,vA (cAccess a0 p3 c2)),(22,vS p4 point c3)] ?_;obtain ⟨y3,hy3,hM⟩:=zC hM;refine yR (kD p a0 point _ hy3 h h1 h2 h3) ?_;rintro imm04 hs2 v2 k2 le4 - ⟨v03,rfl,rfl,rfl⟩ -;have h2:=h2.mono le4;have h:=h.mono le4;have h1:=h1.mono le4;have hle:=hle.trans le4;refine zY [] [(6,vI y3)]<|zE<|yJ ?_;obtain rfl:=zD hM;exact yQ ⟨_,_,(.tmp rfl ResV.nil),zV,⟨_,rfl,rfl,rfl⟩⟩
def spec_DrawCellOf_post (r:zZ×zK×(List Int)):KT:=fun kk imm' hs' v=>
  ∃ v0 v1 v2,hs'=[]∧v=tupV [v0,v1,v2]∧(∃ cs,v0=.agg ⟨cs⟩∧Rp.rep imm' cs r.1)∧(∃ cs,v1=.agg ⟨cs⟩∧Rp.rep imm' cs r.2.1)∧SL imm' v2 r.2.2
def M.spec_DrawCellOf (code:(List UInt8)):Option (zZ×zK×(List Int)):=do
 let y←nW code
 let (y2,y3)←mW y
 let (y5,y6)←rV y3 y2
 let (y8,y9)←pO y6 2
 let (y11,y12)←yW y9 12
 let (Array,x)←(do
   if (y11 == 0) then
    let (y14,y15)←rT y12 ([(⟨[68]⟩:Str),(⟨[69]⟩:Str),(⟨[]⟩:Str)]:List Str)
    pure (y14,y15)
   else
    pure (y8.Array,y12)
     : Option (Str×zO))
 let (y17,y18)←yV x ([0,1,2,3,(-1),9999]:List Int)
 let (y20,y21)←yV y18 ([0,1,2,4,10000]:List Int)
 pure (y5,(zK.mk Array y8.Subs),([y17,y20]:List Int))
theorem spec_DrawCellOf_ok:∀ (code:(List UInt8)) r,M.spec_DrawCellOf code=some r→∀ {imm:Imm}{p c},(S4 imm p code c)→Ret Tryz.prog 25 [vS p code c] imm [] (spec_DrawCellOf_post  r):=by
 intro code r hM imm p c h;unfold M.spec_DrawCellOf at hM;refine yF (fn:=Tryz.f25) (c:=(bodyOf Tryz.f25)) Tryz.func25 rfl rfl ?_;rintro B - -;have hle:=iS imm;refine zF<|zB<|uJ zTwo ?_;intro b hb;refine uJ [vT ([]),z0] ?_;intro b1 hb1;refine zY [] []<|zE<|zF<|zB<|yK 1 [] [(9,vS p code c)] ?_;obtain ⟨y,hy,hM⟩:=zC hM;refine yR (zGV code _ hy h) ?_;rintro imm0 hs2 v2 k2 le - ⟨b2,p1,c1,rfl,rfl,h1⟩ -;have hle:=hle.trans le;refine zY [] [(5,vP b2 0)]<|zE<|zF<|zB<|yK 2 [] [(11,vP b2 0),(12,vP b2 0)] ?_;obtain ⟨⟨y2,y3⟩,hy1,hM⟩:=zC hM;refine tX [hB b2 (cRd y p1 c1)] [hB b1 [vT ([]),z0],hB b zTwo] (zGp y _ hy1 h1) ?_;rintro imm01 hs2 v2 k2 le1 - ⟨v0,kk,rfl,rfl,⟨cs,rfl,h2⟩,h3⟩ -;have hle:=hle.trans le1;obtain ⟨v01,v02,rfl,h4,h5⟩:=zFp h2;obtain ⟨p2,c2,rfl⟩:=h4.form;obtain ⟨p3,c3,rfl⟩:=h5.form;obtain ⟨v03,rfl,h6⟩:=yH h3;obtain ⟨p4,c4,rfl⟩:=h6.form;obtain ⟨⟨y5,y6⟩,hy2,hM⟩:=zC hM;refine tX [hB b2 (cRd y3 p4 c4)] [hB b1 [vT ([]),z0],hB b zTwo] (zGJ y3 y2 _ hy2 h6 h4 h5) ?_;rintro imm02 hs2 v2 k2 le2 - ⟨v04,kk1,rfl,rfl,⟨cs1,rfl,h7⟩,h8⟩ -;have hle:=hle.trans le2;obtain ⟨v05,v06,rfl,h9,h10⟩:=zFp h7;obtain ⟨p5,c5,rfl⟩:=h9.form;obtain ⟨p6,c6,rfl⟩:=h10.form;obtain ⟨v07,rfl,h11⟩:=yH h8;obtain ⟨p7,c7,rfl⟩:=h11.form;refine uJ zTwo ?_;intro b3 hb2;refine xI 0 (cProg y5 p5 c5 p6 c6) [hB b3 (cProg y5 p5 c5 p6 c6),hB b2 (cRd y6 p7 c7),hB b1 [vT ([]),z0],hB b zTwo] rfl rfl rfl rfl<|yN rfl<|zE<|zF<|zB<|yK 1 [] [(15,vP b2 0)]<|qC (zL [1,0,2,3] (hs':=[hB b2 (cRd y6 p7 c7),hB b3 (cProg y5 p5 c5 p6 c6),hB b1 [vT ([]),z0],hB b zTwo]) rfl (by decide)) ?_;obtain ⟨⟨y8,y9⟩,hy3,hM⟩:=zC hM;refine tX [hB b2 (cRd y6 p7 c7)] [hB b3 (cProg y5 p5 c5 p6 c6),hB b1 [vT ([]),z0],hB b zTwo] (eW y6 2 _ hy3 h11) ?_;rintro imm03 hs2 v2 k2 le3 - ⟨v08,kk2,rfl,rfl,⟨cs2,rfl,h12⟩,h13⟩ -;have h9:=h9.mono le3;have h10:=h10.mono le3;have hle:=hle.trans le3;obtain ⟨v09,rfl,h14⟩:=sX h12;obtain ⟨p8,c8,rfl⟩:=h14.form;obtain ⟨v010,rfl,h15⟩:=yH h13;obtain ⟨p9,c9,rfl⟩:=h15.form;refine uJ [vT ([]),z0] ?_;intro b4 hb3;refine xI 0 (cAccess y8 p8 c8) [hB b4 (cAccess y8 p8 c8),hB b2 (cRd y9 p9 c9),hB b3 (cProg y5 p5 c5 p6 c6),hB b1 [vT ([]),z0],hB b zTwo] rfl rfl rfl rfl<|yN rfl<|zE<|zF<|zF<|zB<|yK 1 [] [(17,vP b2 0)]<|qC (zL [1,0,2,3,4] (hs':=[hB b2 (cRd y9 p9 c9),hB b4 (cAccess y8 p8 c8),hB b3 (cProg y5 p5 c5 p6 c6),hB b1 [vT ([]),z0],hB b zTwo]) rfl (by decide)) ?_;obtain ⟨⟨y11,y12⟩,hy4,hM⟩:=zC hM;refine tX [hB b2 (cRd y9 p9 c9)] [hB b4 (cAccess y8 p8 c8),hB b3 (cProg y5 p5 c5 p6 c6),hB b1 [vT ([]),z0],hB b zTwo] (xK y9 12 _ hy4 h15) ?_;rintro imm04 hs2 v2 k2 le4 - ⟨v011,kk3,rfl,rfl,rfl,h17⟩ -;have h14:=h14.mono le4;have h9:=h9.mono le4;have h10:=h10.mono le4;have hle:=hle.trans le4;obtain ⟨v012,rfl,h18⟩:=yH h17;obtain ⟨p10,c10,rfl⟩:=h18.form;refine zY [] [(19,.bool (y11 == 0))]<|zE ?_;obtain ⟨o0,ho0,hMc⟩:=zC hM;refine yT (fun imm' hs' m'=>∃ (Array:Str) (x:zO) (p11:Option Addr) (c11:Nat),o0=(Array,x)∧imm04.le imm'∧(S4 imm' p11 x.b c11)∧hs'=[hB b2 (cRd x p11 c11),hB b4 [vT Array.l,vS p8 y8.Subs c8],hB b3 (cProg y5 p5 c5 p6 c6),hB b1 [vT ([]),z0],hB b zTwo]∧m'=[(2,vP b 0),(3,vP b1 0),(5,vP b2 0),(6,vP b3 0),(7,vP b4 0)]) ?_ ?_
 · have hle0:=hle;have hle:=iS imm04;refine yP ho0 ?_ ?_
   · intro hc hM;refine zB<|yK 1 [] [(20,vP b2 0)]<|xY [vT ([68]),vT ([69]),vT ([])] Str ?_;intro b5 hb4;have h20:RL imm04 [vT ([68]),vT ([69]),vT ([])] ([(⟨[68]⟩:Str),(⟨[69]⟩:Str),(⟨[]⟩:Str)]:List Str):=⟨[vT ([68])],_,rfl,rfl,rfl,⟨[vT ([69])],_,rfl,rfl,rfl,⟨[vT ([])],_,rfl,rfl,rfl,rfl⟩⟩⟩;refine yL 0 rfl ?_;intro imm06 le5 hl0;have h21:=SL.of_frozen hl0 le5 h20;have h18:=h18.mono le5;have h14:=h14.mono le5;have h9:=h9.mono le5;have h10:=h10.mono le5;have hle:=hle.trans le5;obtain ⟨⟨y14,y15⟩,hy5,hM⟩:=zC hM;refine tX [hB b2 (cRd y12 p10 c10)] [hB b4 (cAccess y8 p8 c8),hB b3 (cProg y5 p5 c5 p6 c6),hB b1 [vT ([]),z0],hB b zTwo] (mK y12 ([(⟨[68]⟩:Str),(⟨[69]⟩:Str),(⟨[]⟩:Str)]:List Str) _ hy5 h18 h21) ?_;rintro imm07 hs2 v2 k2 le6 - ⟨v013,kk4,rfl,rfl,rfl,h23⟩ -;have h14:=h14.mono le6;have h9:=h9.mono le6;have h10:=h10.mono le6;have hle:=hle.trans le6;obtain ⟨v014,rfl,h24⟩:=yH h23;obtain ⟨p12,c12,rfl⟩:=h24.form;exact yK 4 [] [(23,vP b4 0)]<|xI 1 [vT y14.l,vS p8 y8.Subs c8] [hB b2 (cRd y15 p12 c12),hB b4 [vT y14.l,vS p8 y8.Subs c8],hB b3 (cProg y5 p5 c5 p6 c6),hB b1 [vT ([]),z0],hB b zTwo] rfl rfl rfl rfl<|yN rfl<|yU [(2,vP b 0),(3,vP b1 0),(5,vP b2 0),(6,vP b3 0),(7,vP b4 0)]<|yA ⟨_,_,_,_,(zD hM).symm,hle,h24,rfl,rfl⟩
   intro hc hM;exact yD<|yU [(2,vP b 0),(3,vP b1 0),(5,vP b2 0),(6,vP b3 0),(7,vP b4 0)]<|yA ⟨_,_,_,_,(zD hM).symm,hle,h18,rfl,rfl⟩
 rintro imm05 hs2 m2 ⟨Array,x,p11,c11,heq,le7,h19,rfl,rfl⟩;subst o0;have h14:=h14.mono le7;have h9:=h9.mono le7;have h10:=h10.mono le7;have hle:=hle.trans le7;refine zE<|zF<|zB<|yK 1 [] [(24,vP b2 0)]<|xY [vI 0,vI 1,vI 2,vI 3,vI (-1),vI 9999] Int ?_;intro b6 hb5;have h25:RL imm05 [vI 0,vI 1,vI 2,vI 3,vI (-1),vI 9999] ([0,1,2,3,(-1),9999]:List Int):=⟨[vI 0],_,rfl,rfl,rfl,⟨[vI 1],_,rfl,rfl,rfl,⟨[vI 2],_,rfl,rfl,rfl,⟨[vI 3],_,rfl,rfl,rfl,⟨[vI (-1)],_,rfl,rfl,rfl,⟨[vI 9999],_,rfl,rfl,rfl,rfl⟩⟩⟩⟩⟩⟩;refine yL 0 rfl ?_;intro imm08 le8 hl01;have h26:=SL.of_frozen hl01 le8 h25;have h19:=h19.mono le8;have h14:=h14.mono le8;have h9:=h9.mono le8;have h10:=h10.mono le8;have hle:=hle.trans le8;obtain ⟨⟨y17,y18⟩,hy6,hM⟩:=zC hMc;refine tX [hB b2 (cRd x p11 c11)] [hB b4 [vT Array.l,vS p8 y8.Subs c8],hB b3 (cProg y5 p5 c5 p6 c6),hB b1 [vT ([]),z0],hB b zTwo] (xC x ([0,1,2,3,(-1),9999]:List Int) _ hy6 h19 h26) ?_;rintro imm09 hs2 v2 k2 le9 - ⟨v015,kk5,rfl,rfl,rfl,h28⟩ -;have h14:=h14.mono le9;have h9:=h9.mono le9;have h10:=h10.mono le9;have hle:=hle.trans le9;obtain ⟨v016,rfl,h29⟩:=yH h28;obtain ⟨p13,c13,rfl⟩:=h29.form;refine yK 4 [] [(27,vP b2 0)]<|xY [vI 0,vI 1,vI 2,vI 4,vI 10000] Int ?_;intro b7 hb6;have h30:RL imm09 [vI 0,vI 1,vI 2,vI 4,vI 10000] ([0,1,2,4,10000]:List Int):=⟨[vI 0],_,rfl,rfl,rfl,⟨[vI 1],_,rfl,rfl,rfl,⟨[vI 2],_,rfl,rfl,rfl,⟨[vI 4],_,rfl,rfl,rfl,⟨[vI 10000],_,rfl,rfl,rfl,rfl⟩⟩⟩⟩⟩;refine yL 0 rfl ?_;intro imm010 le10 hl02;have h31:=SL.of_frozen hl02 le10 h30;have h29:=h29.mono le10;have h14:=h14.mono le10;have h9:=h9.mono le10;have h10:=h10.mono le10;have hle:=hle.trans le10;obtain ⟨⟨y20,y21⟩,hy7,hM⟩:=zC hM;refine tX [hB b2 (cRd y18 p13 c13)] [hB b4 [vT Array.l,vS p8 y8.Subs c8],hB b3 (cProg y5 p5 c5 p6 c6),hB b1 [vT ([]),z0],hB b zTwo] (xC y18 ([0,1,2,4,10000]:List Int) _ hy7 h29 h31) ?_;rintro imm011 hs2 v2 k2 le11 - ⟨v017,kk6,rfl,rfl,rfl,h33⟩ -;have h14:=h14.mono le11;have h9:=h9.mono le11;have h10:=h10.mono le11;have hle:=hle.trans le11;obtain ⟨v018,rfl,h34⟩:=yH h33;obtain ⟨p14,c14,rfl⟩:=h34.form;refine xY [vI y17,vI y20] Int ?_;intro b8 hb7;have h35:RL imm011 [vI y17,vI y20] ([y17,y20]:List Int):=⟨[vI y17],_,rfl,rfl,rfl,⟨[vI y20],_,rfl,rfl,rfl,rfl⟩⟩;refine zY [] [(8,vS (some ⟨b8,0,none⟩) ([y17,y20]:List Int) 2)]<|zE<|zF<|vZ [.p (vA (cProg y5 p5 c5 p6 c6)) [3],.p (vA [vT Array.l,vS p8 y8.Subs c8]) [2],.p (vS (some ⟨b8,0,none⟩) ([y17,y20]:List Int) 2) [],.x (fun imm' v hx=>hx=[hB b (cProg y5 p5 c5 p6 c6)]),.x (fun imm' v hx=>hx=[hB b1 [vT Array.l,vS p8 y8.Subs c8]])] [[],[],[],[(0,false),(6,true)],[(1,false),(7,true)]] [hO Int (vS (some ⟨b8,0,none⟩) ([y17,y20]:List Int) 2) [vI y17,vI y20],hB b2 (cRd y21 p14 c14),hB b4 [vT Array.l,vS p8 y8.Subs c8],hB b3 (cProg y5 p5 c5 p6 c6)] [[hB b zTwo],[hB b1 [vT ([]),z0]]] [(2,false),(3,true),(4,true)] (zL [0,1,2,3,5,4] rfl (by decide)) ?_ ?_
 · refine Op<|Op<|Op<|Ox ?_<|Ox ?_<|On
   · intro imm1 hf le1;refine zG ?_;rintro _ _ ⟨rfl,rfl⟩;refine zG ?_;rintro _ _ rfl;refine zN<|yG [(2,vP b 0),(31,vA (cProg y5 p5 c5 p6 c6))] ?_;have hle:=iS imm1;have h9:=h9.mono le1;have h10:=h10.mono le1;exact xI 0 (cProg y5 p5 c5 p6 c6) (hB b (cProg y5 p5 c5 p6 c6)::hO Int (vS (some ⟨b8,0,none⟩) ([y17,y20]:List Int) 2) [vI y17,vI y20]::hB b2 (cRd y21 p14 c14)::hB b4 [vT Array.l,vS p8 y8.Subs c8]::hB b3 (cProg y5 p5 c5 p6 c6)::hf) rfl rfl rfl rfl<|zX (hx:=[hB b (cProg y5 p5 c5 p6 c6)]) rfl hle rfl (zGb (v:=undef)) rfl
   intro imm1 hf le1;refine zG ?_;rintro _ _ ⟨rfl,rfl⟩;refine zG ?_;rintro _ _ rfl;refine zN<|yG [(3,vP b1 0),(32,vA [vT Array.l,vS p8 y8.Subs c8])] ?_;have hle:=iS imm1;have h14:=h14.mono le1;exact xI 0 [vT Array.l,vS p8 y8.Subs c8] (hB b1 [vT Array.l,vS p8 y8.Subs c8]::hO Int (vS (some ⟨b8,0,none⟩) ([y17,y20]:List Int) 2) [vI y17,vI y20]::hB b2 (cRd y21 p14 c14)::hB b4 [vT Array.l,vS p8 y8.Subs c8]::hB b3 (cProg y5 p5 c5 p6 c6)::hf) rfl rfl rfl rfl<|zX (hx:=[hB b1 [vT Array.l,vS p8 y8.Subs c8]]) rfl hle rfl (zGb (v:=undef)) rfl
 intro imm012 le12;refine zG ?_;rintro _ _ ⟨rfl,rfl⟩;refine zG ?_;rintro _ _ rfl;refine zG ?_;rintro _ _ rfl;refine zN<|yG [(2,vP b 0),(3,vP b1 0),(33,vS (some ⟨b8,0,none⟩) ([y17,y20]:List Int) 2)] ?_;have h35:=iM le12 h35;have h14:=h14.mono le12;have h9:=h9.mono le12;have h10:=h10.mono le12;have h34:=h34.mono le12;have hle:=hle.trans le12;refine zY [] [(4,vS (some ⟨b8,0,none⟩) ([y17,y20]:List Int) 2)]<|zE<|yJ<|xL 2 rfl ?_;intro imm013 le13 hl03;have h36:=SL.of_frozen hl03 le13 h35;have h14:=h14.mono le13;have h9:=h9.mono le13;have h10:=h10.mono le13;have h34:=h34.mono le13;have hle:=hle.trans le13;obtain rfl:=zD hM;exact yQ ⟨_,_,(.cell 1 rfl rfl (by kernel_rfl) (.cell 0 rfl rfl (by kernel_rfl) (.tmp rfl ResV.nil))),zV,⟨_,_,_,rfl,rfl,⟨_,rfl,(oU ⟨_,_,rfl,h9,h10⟩)⟩,⟨_,rfl,(qH ⟨_,rfl,h14⟩)⟩,h36⟩⟩
def spec_CellOf_post (r:Int):KT:=fun kk imm' hs' v=>
  ∃ v0,hs'=[]∧v=tupV [v0]∧v0=.int .i64 r
def M.spec_CellOf (p:zZ) (a0:zK) (point:(List Int)):Option (Int):=do
 let t19←(do
   let y←tE p
   if (!y) then
    pure true
   else
    let y1←sS a0 4
    if (!y1) then
     pure true
    else
     let y2←qN point
     pure (!y2)
     : Option Bool)
 if t19 then
  pure (-1)
 else
  let y3←qF p.Arrays a0 point
  pure (id y3)
theorem spec_CellOf_ok:∀ (p:zZ) (a0:zK) (point:(List Int)) r,M.spec_CellOf p a0 point=some r→∀ {imm:Imm}{p1 c p2 c1 p3 c2 p4 c3},(S4 imm p1 p.Arrays c)→(S4 imm p2 p.Parts c1)→(S4 imm p3 a0.Subs c2)→(S4 imm p4 point c3)→Ret Tryz.prog 26 [vA (cProg p p1 c p2 c1),vA (cAccess a0 p3 c2),vS p4 point c3] imm [] (spec_CellOf_post  r):=by
 intro p a0 point r hM imm p1 c p2 c1 p3 c2 p4 c3 h h1 h2 h3;unfold M.spec_CellOf at hM;refine yF (fn:=Tryz.f26) (c:=(bodyOf Tryz.f26)) Tryz.func26 rfl rfl ?_;rintro B - -;have hle:=iS imm;refine zF<|zB<|sD (cProg p p1 c p2 c1) ?_;intro b hb;refine sD (cAccess a0 p3 c2) ?_;intro b1 hb1;refine zY [] []<|zE<|zF<|zF ?_;obtain ⟨o0,ho0,hMc⟩:=zC hM;refine yT (fun imm' hs' m'=>∃ (t19:Bool),o0=t19∧imm.le imm'∧hs'=[hB b1 (cAccess a0 p3 c2),hB b (cProg p p1 c p2 c1)]∧m'=[(2,vS p4 point c3),(3,vP b 0),(4,vP b1 0),(19,.bool t19)]) ?_ ?_
 · have hle0:=hle;have hle:=iS imm;refine zB<|yK 1 [1] [(7,vA (cProg p p1 c p2 c1))] ?_;obtain ⟨y,hy,hM⟩:=zC ho0;refine yR (eU p _ hy h h1) ?_;rintro imm01 hs2 v2 k2 le - ⟨v0,rfl,rfl,rfl⟩ -;have h3:=h3.mono le;have h2:=h2.mono le;have h:=h.mono le;have h1:=h1.mono le;have hle:=hle.trans le;refine yK 4 [] [(10,.bool (!y))] ?_;cases hc:(!y) with
   | true =>
    have hM0:=zU hc hM
    try rw [hc]
    exact zY [] [(19,.bool true)]<|yU [(2,vS p4 point c3),(3,vP b 0),(4,vP b1 0),(19,.bool true)]<|yA ⟨_,(zD hM0).symm,hle,rfl,rfl⟩
   | false =>
    have hM01:=zS hc hM
    try rw [hc]
    refine yK 5 [0] [(11,vA (cAccess a0 p3 c2))] ?_;obtain ⟨y1,hy1,hM⟩:=zC hM01;refine yR (gI a0 4 _ hy1 h2) ?_;rintro imm02 hs2 v2 k2 le1 - ⟨v01,rfl,rfl,rfl⟩ -;have h3:=h3.mono le1;have h2:=h2.mono le1;have h:=h.mono le1;have h1:=h1.mono le1;have hle:=hle.trans le1;refine yK 9 [] [(15,.bool (!y1))] ?_;cases hc1:(!y1) with
    | true =>
     have hM02:=zU hc1 hM
     try rw [hc1]
     exact zY [] [(19,.bool true)]<|yU [(2,vS p4 point c3),(3,vP b 0),(4,vP b1 0),(19,.bool true)]<|yA ⟨_,(zD hM02).symm,hle,rfl,rfl⟩
    | false =>
     have hM03:=zS hc1 hM
     try rw [hc1]
     refine yK 10 [] [(16,vS p4 point c3)] ?_;obtain ⟨y2,hy2,hM⟩:=zC hM03;refine yR (zCW point _ hy2 h3) ?_;rintro imm03 hs2 v2 k2 le2 - ⟨v02,rfl,rfl,rfl⟩ -;have h3:=h3.mono le2;have h2:=h2.mono le2;have h:=h.mono le2;have h1:=h1.mono le2;have hle:=hle.trans le2;exact zY [] [(19,.bool (!y2))]<|yU [(2,vS p4 point c3),(3,vP b 0),(4,vP b1 0),(19,.bool (!y2))]<|yA ⟨_,(zD hM).symm,hle,rfl,rfl⟩
 rintro imm0 hs2 m2 ⟨t19,heq,le3,rfl,rfl⟩;subst o0;have h3:=h3.mono le3;have h2:=h2.mono le3;have h:=h.mono le3;have h1:=h1.mono le3;have hle:=hle.trans le3;refine zE<|yP hMc ?_ ?_
 · intro hc2 hM;refine zF<|zB<|zY [] [(6,vI (-1))]<|zE<|yJ<|zQ ?_;obtain rfl:=zD hM;exact yQ ⟨_,_,(.tmp rfl ResV.nil),zV,⟨_,rfl,rfl,rfl⟩⟩
 intro hc2 hM;refine yD<|zE<|zF<|zB<|yK 4 [1,0] [(21,vS p1 p.Arrays c),(22,vA (cAccess a0 p3 c2)),(23,vS p4 point c3)] ?_;obtain ⟨y3,hy3,hM⟩:=zC hM;refine yR (eM p.Arrays a0 point _ hy3 h h2 h3) ?_;rintro imm04 hs2 v2 k2 le4 - ⟨v03,rfl,rfl,rfl⟩ -;have h2:=h2.mono le4;have h:=h.mono le4;have h1:=h1.mono le4;have hle:=hle.trans le4;refine zY [] [(6,vI y3)]<|zE<|yJ ?_;obtain rfl:=zD hM;exact yQ ⟨_,_,(.tmp rfl ResV.nil),zV,⟨_,rfl,rfl,rfl⟩⟩
def impl_checked_post (r:zA×Bool):KT:=fun kk imm' hs' v=>
  ∃ v0 v1,hs'=[]∧v=tupV [v0,v1]∧(∃ cs,v0=.agg ⟨cs⟩∧Rp.rep imm' cs r.1)∧v1=.bool r.2
def M.impl_checked (a0:zA):Option (zA×Bool):=do
 let y←tS a0
 if (!y) then
  pure ((zA.mk ([]:List Int) 0),false)
 else
  pure (a0,true)
theorem impl_checked_ok:∀ (a0:zA) r,M.impl_checked a0=some r→∀ {imm:Imm}{p c},(S4 imm p a0.Coefs c)→Ret Tryz.prog 71 [vA (cAff a0 p c)] imm [] (impl_checked_post  r):=by
 intro a0 r hM imm p c h;unfold M.impl_checked at hM;refine yF (fn:=Tryz.f71) (c:=(bodyOf Tryz.f71)) Tryz.func71 rfl rfl ?_;rintro B - -;have hle:=iS imm;refine zF<|zB<|sD (cAff a0 p c) ?_;intro b hb;refine uJ [z0,vI 0] ?_;intro b1 hb1;refine zY [] []<|zE<|zF<|zF<|zB<|yK 1 [1] [(4,vA (cAff a0 p c))] ?_;obtain ⟨y,hy,hM⟩:=zC hM;refine yR (qA a0 _ hy h) ?_;rintro imm0 hs2 v2 k2 le - ⟨v0,rfl,rfl,rfl⟩ -;have h:=h.mono le;have hle:=hle.trans le;refine zY [] [(6,.bool (!y))]<|zE<|yP hM ?_ ?_
 · intro hc hM;refine zF<|zB<|yK 1 [] [(7,vA [z0,vI 0])]<|xI 0 [z0,vI 0] [hB b1 [z0,vI 0],hB b (cAff a0 p c)] rfl rfl rfl rfl<|zY [] [(3,.bool false)]<|zE<|yJ<|zQ ?_;obtain rfl:=zD hM;exact yQ ⟨_,_,(.cell 0 rfl rfl (by kernel_rfl) (.tmp rfl ResV.nil)),zV,⟨_,_,rfl,rfl,⟨_,rfl,(yO ⟨_,rfl,(SL.nil _)⟩)⟩,rfl⟩⟩
 intro hc hM;refine yD<|zE<|zF<|zB<|yK 1 [1] [(8,vA (cAff a0 p c))]<|xI 0 (cAff a0 p c) [hB b1 (cAff a0 p c),hB b (cAff a0 p c)] rfl rfl rfl rfl<|zY [] [(3,.bool true)]<|zE<|yJ ?_;obtain rfl:=zD hM;exact yQ ⟨_,_,(.cell 0 rfl rfl (by kernel_rfl) (.tmp rfl ResV.nil)),zV,⟨_,_,rfl,rfl,⟨_,rfl,(yO ⟨_,rfl,h⟩)⟩,rfl⟩⟩
def impl_ownAffine_post (r:zA):KT:=fun kk imm' hs' v=>
  ∃ a0_0 c0_0 s0_0,hs'=[.osl (.slice a0_0 r.Coefs.length c0_0) (Rp.sz Int) s0_0]∧v=tupV [(.agg ⟨[.slice a0_0 r.Coefs.length c0_0,.int .i64 r.Const]⟩)]∧RepL (Rp.rep imm') (Rp.sz Int) s0_0 r.Coefs
def M.impl_ownAffine (a0:zA):Option (zA):=do
 let y←tB a0.Coefs
 pure (zA.mk y a0.Const)
theorem impl_ownAffine_ok:∀ (a0:zA) r,M.impl_ownAffine a0=some r→∀ {imm:Imm}{p c},(S4 imm p a0.Coefs c)→Ret Tryz.prog 136 [vA (cAff a0 p c)] imm [] (impl_ownAffine_post  r):=by
 intro a0 r hM imm p c h;unfold M.impl_ownAffine at hM;refine yF (fn:=Tryz.f136) (c:=(bodyOf Tryz.f136)) Tryz.func136 rfl rfl ?_;rintro B - -;have hle:=iS imm;refine zF<|zB<|sD (cAff a0 p c) ?_;intro b hb;refine uJ [z0,vI 0] ?_;intro b1 hb1;refine yN rfl<|zE<|zF ?_;obtain ⟨y,hy,hM⟩:=zC hM;refine vZ [.p (vP b 0) [],.p (vS p a0.Coefs c) [1],.x (fun imm' v hx=>∃ p1 c1 cs,v=vS p1 y c1∧hx=[hO Int (vS p1 y c1) cs]∧(RL imm' cs y)),.p (vP b 1) [],.p (vI a0.Const) [1],.x (fun imm' v hx=>∃ p11 c11 cs1,v=vA [vS p11 y c11,vI a0.Const]∧hx=[hO Int (vS p11 y c11) cs1]∧(RL imm' cs1 y))] [[],[(0,false)],[(1,false)],[],[(3,false)],[(2,true),(4,false)]] [hB b1 [z0,vI 0],hB b (cAff a0 p c)] [] [(5,true)] (zL [0,1] rfl (by decide)) ?_ ?_
 · refine Op<|Op<|Ox ?_<|Op<|Op<|Ox ?_<|On
   · intro imm1 hf le1;refine zG ?_;rintro _ _ ⟨rfl,rfl⟩;refine zN<|yG [(4,vS p a0.Coefs c)] ?_;have hle:=iS imm1;have h:=h.mono le1;refine yR (pZ a0.Coefs _ hy h) ?_;rintro imm0 hs2 v2 k2 le - ⟨p1,c1,cs,rfl,rfl,h1⟩ -;have h:=h.mono le;have hle:=hle.trans le;exact zX (hx:=[hO Int (vS p1 y c1) cs]) rfl hle rfl (zM rfl) ⟨_,_,_,rfl,rfl,h1⟩
   intro imm1 hf le1;refine zG ?_;rintro _ _ ⟨p1,c1,cs,rfl,rfl,h1⟩;refine zG ?_;rintro _ _ ⟨rfl,rfl⟩;refine zN<|yG [(5,vS p1 y c1),(7,vI a0.Const)] ?_;have hle:=iS imm1;exact qQ 6 [(8,vA [vS p1 y c1,vI a0.Const])]<|zX (hx:=[hO Int (vS p1 y c1) cs]) rfl hle rfl (zM rfl) ⟨_,_,_,rfl,rfl,h1⟩
 intro imm01 le1;refine zG ?_;rintro _ _ ⟨p11,c11,cs1,rfl,rfl,h11⟩;refine zN<|yG [(2,vP b1 0),(8,vA [vS p11 y c11,vI a0.Const])] ?_;have h:=h.mono le1;have hle:=hle.trans le1;refine xI 1 [vS p11 y c11,vI a0.Const] [hO Int (vS p11 y c11) cs1,hB b1 [vS p11 y c11,vI a0.Const],hB b (cAff a0 p c)] rfl rfl rfl rfl<|yN rfl<|zE<|yJ ?_;obtain rfl:=zD hM;exact yQ ⟨_,_,(.cell 1 rfl rfl (by kernel_rfl) ResV.nil),(zL [0] rfl (by decide)),⟨_,_,_,rfl,rfl,h11⟩⟩
def impl_sum_post (r:zA):KT:=fun kk imm' hs' v=>
  ∃ v0,hs'=[]∧v=tupV [v0]∧(∃ cs,v0=.agg ⟨cs⟩∧Rp.rep imm' cs r)
def M.impl_sum_l1 (k0:Int) (b:zA) (t15:Int) (Coefs:List Int):Option (List Int):=do
 if (decide (t15 < (b.Coefs.length:Int))) then
  let x←idx b.Coefs t15
  let x1←idx Coefs t15
  let x2←idx Coefs t15
  let l←pure (Coefs.set t15.toNat (W (x1 + (W (k0 * x)))))
  M.impl_sum_l1 k0 b (W (t15 + 1)) l
 else
  pure (id Coefs)
 partial_fixpoint
theorem impl_sum_l1_ok (k0:Int) (b:zA):∀ (t15:Int) (Coefs:List Int) (o:List Int),M.impl_sum_l1 k0 b t15 Coefs=some o→∀ {B}{imm0 imm:Imm}{Q}{y:zA}{p1 c1}{b2:Nat}{b3:Nat}{b4:Nat}{p3 c3 cs1},imm0.le imm→(S4 imm p1 b.Coefs c1)→(RL imm cs1 Coefs)→(∀ l a w,¬Q (.goto l) a w)→(∀ a w,¬Q .outgrown a w)→(∀ (imm':Imm) (Coefs1:List Int) (p4:Option Addr) (c4:Nat) (cs2:List Value),o=Coefs1→imm0.le imm'→(RL imm' cs2 Coefs1)→T 40 B Q (.exit 0) imm' [hB b4 [vS p4 Coefs1 c4,vI y.Const],hO Int (vS p4 Coefs1 c4) cs2,hB b3 [z0,vI 0],hB b2 (cAff b p1 c1)] [(1,vI k0),(5,vP b2 0),(6,vP b3 0),(7,vP b4 0)])→J Tryz.prog 40 B (nav (bodyOf Tryz.f72) [1,1,0,1,0]) Q imm [hB b4 [vS p3 Coefs c3,vI y.Const],hO Int (vS p3 Coefs c3) cs1,hB b3 [z0,vI 0],hB b2 (cAff b p1 c1)] [(1,vI k0),(5,vP b2 0),(6,vP b3 0),(7,vP b4 0),(13,vS p1 b.Coefs c1),(14,vI (b.Coefs.length:Int)),(15,vI t15)]:=by
 refine M.impl_sum_l1.partial_correctness k0 b _ ?_;intro self ih t15 Coefs o hM B imm0 imm Q y p1 c1 b2 b3 b4 p3 c3 cs1 hle h1 h3 hg ho hx;refine xF hg ho<|zF<|zB<|zY [] [(16,.bool (decide (t15 < (b.Coefs.length:Int))))]<|zE<|zF<|yP hM ?_ ?_
 · intro hc hM;refine yD<|zE<|zF<|yB<|zF<|zB<|yK 1 [] [(17,vI t15)] ?_;obtain ⟨x,hy1,hM⟩:=zC hM;refine wJ rfl rfl h1 hy1 ?_;intro ad ccs hat hrep;obtain rfl:=hrep;refine xX 0 hat [vI x] (vI x) rfl<|zY [] [(8,vI t15),(9,vI x)]<|zE<|zB<|yK 3 [0] [(21,vS p3 Coefs c3),(22,vI t15)] ?_;obtain ⟨x1,hy2,hM⟩:=zC hM;refine nH 1 rfl rfl rfl h3 hy2 ?_;intro ad1 ccs1 hat1 hcc hrep1;obtain rfl:=hrep1;refine zCz 1 0 hat1 hcc [vI x1] (vI x1) rfl rfl<|yK 9 [] [(28,vI (W (x1 + (W (k0 * x)))))] ?_;obtain ⟨x2,hy3,hM⟩:=zC hM;refine nH 1 rfl rfl rfl h3 hy3 ?_;intro ad2 ccs2 hat2 hcc1 hrep2;obtain rfl:=hrep2;obtain ⟨l,hy4,hM⟩:=zC hM;refine qL (c:=[vI (W (x1 + (W (k0 * x))))]) (x':=(W (x1 + (W (k0 * x))))) 1 0 rfl rfl rfl hat2 rfl rfl hcc1 (by kernel_rfl) (by kernel_rfl) (by kernel_rfl) h3 hy3 (by kernel_rfl) rfl ?_;rw [show Coefs.set t15.toNat (W (x1 + (W (k0 * x))))=l from zD hy4];intro cs3 h5 hl0;exact mX (m':=[(1,vI k0),(5,vP b2 0),(6,vP b3 0),(7,vP b4 0),(13,vS p1 b.Coefs c1),(14,vI (b.Coefs.length:Int)),(15,vI t15),(21,vS p3 Coefs c3),(22,vI t15),(28,vI (W (x1 + (W (k0 * x)))))]) ⟨rfl,rfl,rfl,rfl,rfl,rfl,rfl,rfl,rfl,rfl,trivial⟩<|zBd (hs':=[hB b4 [vS p3 l c3,vI y.Const],hO Int (vS p3 l c3) cs3,hB b3 [z0,vI 0],hB b2 (cAff b p1 c1)]) (m':=[(1,vI k0),(5,vP b2 0),(6,vP b3 0),(7,vP b4 0),(13,vS p1 b.Coefs c1),(14,vI (b.Coefs.length:Int)),(15,vI t15),(21,vS p3 l c3),(22,vI t15),(28,vI (W (x1 + (W (k0 * x)))))]) (by first | rfl | simp only [vS,hl0,List.nil_append,List.cons_append,List.set_cons_zero,List.set_cons_succ,List.eraseIdx_cons_zero,List.eraseIdx_cons_succ]) (by first | rfl | simp only [vS,hl0])<|yN rfl<|zW<|zE<|zB<|zY [] [(15,vI (W (t15 + 1)))]<|xG<|uA [(1,vI k0),(5,vP b2 0),(6,vP b3 0),(7,vP b4 0),(13,vS p1 b.Coefs c1),(14,vI (b.Coefs.length:Int)),(15,vI (W (t15 + 1)))]<|ih (W (t15 + 1)) l _ hM hle h1 h5 hg ho hx
 intro hc hM;exact xB<|zT<|zT<|yU [(1,vI k0),(5,vP b2 0),(6,vP b3 0),(7,vP b4 0)]<|hx _ _ _ _ _ (zD hM).symm hle h3
def M.impl_sum (a0:zA) (k0:Int) (b:zA):Option (zA):=do
 let y←M.impl_ownAffine a0
 let Coefs1←M.impl_sum_l1 k0 b 0 y.Coefs
 pure (zA.mk Coefs1 (W (y.Const + (W (k0 * b.Const)))))
theorem impl_sum_ok:∀ (a0:zA) (k0:Int) (b:zA) r,M.impl_sum a0 k0 b=some r→∀ {imm:Imm}{p c p1 c1},(S4 imm p a0.Coefs c)→(S4 imm p1 b.Coefs c1)→Ret Tryz.prog 72 [vA (cAff a0 p c),vI k0,vA (cAff b p1 c1)] imm [] (impl_sum_post  r):=by
 intro a0 k0 b r hM imm p c p1 c1 h h1;unfold M.impl_sum at hM;refine yF (fn:=Tryz.f72) (c:=(bodyOf Tryz.f72)) Tryz.func72 rfl rfl ?_;rintro B - -;have hle:=iS imm;refine zF<|zB<|sD (cAff a0 p c) ?_;intro b1 hb;refine sD (cAff b p1 c1) ?_;intro b2 hb1;refine uJ [z0,vI 0] ?_;intro b3 hb2;refine yN rfl<|zE<|zF<|zB<|yK 1 [2] [(10,vA (cAff a0 p c))] ?_;obtain ⟨y,hy,hM⟩:=zC hM;refine yR (impl_ownAffine_ok a0 _ hy h) ?_;rintro imm0 hs2 v2 k2 le - ⟨p2,c2,cs,rfl,rfl,h2⟩ -;have h1:=h1.mono le;have h:=h.mono le;have hle:=hle.trans le;refine uJ [z0,vI 0] ?_;intro b4 hb3;refine xI 0 (cAff y p2 c2) [hB b4 (cAff y p2 c2),hO Int (vS p2 y.Coefs c2) cs,hB b3 [z0,vI 0],hB b2 (cAff b p1 c1),hB b1 (cAff a0 p c)] rfl rfl rfl rfl<|yN rfl<|zE<|zF<|zF<|zB<|zY [3] [(13,vS p1 b.Coefs c1),(14,vI (b.Coefs.length:Int)),(15,vI 0)]<|zE<|yB<|qR (zL [0,1,2,3] (hs':=[hB b4 (cAff y p2 c2),hO Int (vS p2 y.Coefs c2) cs,hB b3 [z0,vI 0],hB b2 (cAff b p1 c1)]) rfl (by decide))<|uA [(1,vI k0),(5,vP b2 0),(6,vP b3 0),(7,vP b4 0),(13,vS p1 b.Coefs c1),(14,vI (b.Coefs.length:Int)),(15,vI 0)] ?_;obtain ⟨o0,ho0,hMl⟩:=zC hM;refine impl_sum_l1_ok k0 b 0 y.Coefs o0 ho0 iR h1 h2 (fun _ _ _ h=>h) (fun _ _ h=>h) ?_;intro imm01 Coefs1 p4 c4 cs2 heq le1 h4;subst o0;have h1:=h1.mono le1;have hle:=hle.trans le1;refine yC<|zE<|zF<|zB<|yK 8 [0,3] [(37,vI (W (y.Const + (W (k0 * b.Const))))),(38,vP b4 1)]<|xI 0 [vS p4 Coefs1 c4,vI (W (y.Const + (W (k0 * b.Const))))] [hB b4 [vS p4 Coefs1 c4,vI (W (y.Const + (W (k0 * b.Const))))],hO Int (vS p4 Coefs1 c4) cs2,hB b3 [z0,vI 0],hB b2 (cAff b p1 c1)] rfl rfl rfl rfl<|yN rfl<|zE<|zF<|zB<|yK 1 [0] [(39,vA [vS p4 Coefs1 c4,vI (W (y.Const + (W (k0 * b.Const))))])]<|xI 2 [vS p4 Coefs1 c4,vI (W (y.Const + (W (k0 * b.Const))))] [hB b4 [vS p4 Coefs1 c4,vI (W (y.Const + (W (k0 * b.Const))))],hO Int (vS p4 Coefs1 c4) cs2,hB b3 [vS p4 Coefs1 c4,vI (W (y.Const + (W (k0 * b.Const))))],hB b2 (cAff b p1 c1)] rfl rfl rfl rfl<|yN rfl<|zE<|yJ<|xL 1 rfl ?_;intro imm02 le2 hl01;have h6:=SL.of_frozen hl01 le2 h4;have h1:=h1.mono le2;have hle:=hle.trans le2;obtain rfl:=zD hMl;exact yQ ⟨_,_,(.cell 1 rfl rfl (by kernel_rfl) ResV.nil),zV,⟨_,rfl,rfl,⟨_,rfl,(yO ⟨_,rfl,h6⟩)⟩⟩⟩
def impl_AddAffine_post (r:zA×Bool):KT:=fun kk imm' hs' v=>
  ∃ v0 v1,hs'=[]∧v=tupV [v0,v1]∧(∃ cs,v0=.agg ⟨cs⟩∧Rp.rep imm' cs r.1)∧v1=.bool r.2
def M.impl_AddAffine (a0:zA) (b:zA):Option (zA×Bool):=do
 let t13←(do
   let y←tS a0
   if (!y) then
    pure true
   else
    let y1←tS b
    pure (!y1)
     : Option Bool)
 if t13 then
  pure ((zA.mk ([]:List Int) 0),false)
 else
  let y2←M.impl_sum a0 1 b
  let (y4,y5)←M.impl_checked y2
  pure (y4,y5)
theorem impl_AddAffine_ok:∀ (a0:zA) (b:zA) r,M.impl_AddAffine a0 b=some r→∀ {imm:Imm}{p c p1 c1},(S4 imm p a0.Coefs c)→(S4 imm p1 b.Coefs c1)→Ret Tryz.prog 27 [vA (cAff a0 p c),vA (cAff b p1 c1)] imm [] (impl_AddAffine_post  r):=by
 intro a0 b r hM imm p c p1 c1 h h1;unfold M.impl_AddAffine at hM;refine yF (fn:=Tryz.f27) (c:=(bodyOf Tryz.f27)) Tryz.func27 rfl rfl ?_;rintro B - -;have hle:=iS imm;refine zF<|zB<|sD (cAff a0 p c) ?_;intro b1 hb;refine sD (cAff b p1 c1) ?_;intro b2 hb1;refine uJ [z0,vI 0] ?_;intro b3 hb2;refine zY [] []<|zE<|zF<|zF ?_;obtain ⟨o0,ho0,hMc⟩:=zC hM;refine yT (fun imm' hs' m'=>∃ (t13:Bool),o0=t13∧imm.le imm'∧hs'=[hB b3 [z0,vI 0],hB b2 (cAff b p1 c1),hB b1 (cAff a0 p c)]∧m'=[(2,vP b1 0),(3,vP b2 0),(4,vP b3 0),(13,.bool t13)]) ?_ ?_
 · have hle0:=hle;have hle:=iS imm;refine zB<|yK 1 [2] [(6,vA (cAff a0 p c))] ?_;obtain ⟨y,hy,hM⟩:=zC ho0;refine yR (qA a0 _ hy h) ?_;rintro imm01 hs2 v2 k2 le - ⟨v0,rfl,rfl,rfl⟩ -;have h1:=h1.mono le;have h:=h.mono le;have hle:=hle.trans le;refine yK 4 [] [(9,.bool (!y))] ?_;cases hc:(!y) with
   | true =>
    have hM0:=zU hc hM
    try rw [hc]
    exact zY [] [(13,.bool true)]<|yU [(2,vP b1 0),(3,vP b2 0),(4,vP b3 0),(13,.bool true)]<|yA ⟨_,(zD hM0).symm,hle,rfl,rfl⟩
   | false =>
    have hM01:=zS hc hM
    try rw [hc]
    refine yK 5 [1] [(10,vA (cAff b p1 c1))] ?_;obtain ⟨y1,hy1,hM⟩:=zC hM01;refine yR (qA b _ hy1 h1) ?_;rintro imm02 hs2 v2 k2 le1 - ⟨v01,rfl,rfl,rfl⟩ -;have h1:=h1.mono le1;have h:=h.mono le1;have hle:=hle.trans le1;exact zY [] [(13,.bool (!y1))]<|yU [(2,vP b1 0),(3,vP b2 0),(4,vP b3 0),(13,.bool (!y1))]<|yA ⟨_,(zD hM).symm,hle,rfl,rfl⟩
 rintro imm0 hs2 m2 ⟨t13,heq,le2,rfl,rfl⟩;subst o0;have h1:=h1.mono le2;have h:=h.mono le2;have hle:=hle.trans le2;refine zE<|yP hMc ?_ ?_
 · intro hc1 hM;refine zF<|zB<|yK 1 [] [(14,vA [z0,vI 0])]<|xI 0 [z0,vI 0] [hB b3 [z0,vI 0],hB b2 (cAff b p1 c1),hB b1 (cAff a0 p c)] rfl rfl rfl rfl<|zY [] [(5,.bool false)]<|zE<|yJ<|zQ ?_;obtain rfl:=zD hM;exact yQ ⟨_,_,(.cell 0 rfl rfl (by kernel_rfl) (.tmp rfl ResV.nil)),zV,⟨_,_,rfl,rfl,⟨_,rfl,(yO ⟨_,rfl,(SL.nil _)⟩)⟩,rfl⟩⟩
 intro hc1 hM;refine yD<|zE<|zF<|zB<|yK 2 [2,1] [(15,vA (cAff a0 p c)),(16,vA (cAff b p1 c1))] ?_;obtain ⟨y2,hy2,hM⟩:=zC hM;refine yR (impl_sum_ok a0 1 b _ hy2 h h1) ?_;rintro imm03 hs2 v2 k2 le3 - ⟨v02,rfl,rfl,⟨cs,rfl,h4⟩⟩ -;have h1:=h1.mono le3;have h:=h.mono le3;have hle:=hle.trans le3;obtain ⟨v03,rfl,h5⟩:=yM h4;obtain ⟨p2,c2,rfl⟩:=h5.form;obtain ⟨⟨y4,y5⟩,hy3,hM⟩:=zC hM;refine yR (impl_checked_ok y2 _ hy3 h5) ?_;rintro imm04 hs2 v2 k2 le4 - ⟨v04,v05,rfl,rfl,⟨cs1,rfl,h6⟩,rfl⟩ -;have h1:=h1.mono le4;have h:=h.mono le4;have hle:=hle.trans le4;obtain ⟨v06,rfl,h8⟩:=yM h6;obtain ⟨p3,c3,rfl⟩:=h8.form;refine yK 6 [] [(19,vA (cAff y4 p3 c3)),(20,.bool y5)]<|xI 0 (cAff y4 p3 c3) [hB b3 (cAff y4 p3 c3),hB b2 (cAff b p1 c1),hB b1 (cAff a0 p c)] rfl rfl rfl rfl<|zY [] [(5,.bool y5)]<|zE<|yJ ?_;obtain rfl:=zD hM;exact yQ ⟨_,_,(.cell 0 rfl rfl (by kernel_rfl) (.tmp rfl ResV.nil)),zV,⟨_,_,rfl,rfl,⟨_,rfl,(yO ⟨_,rfl,h8⟩)⟩,rfl⟩⟩
def laws_FnCellOf_post (r:Bool):KT:=fun kk imm' hs' v=>
  ∃ v0,hs'=[]∧v=tupV [v0]∧v0=.bool r
def M.laws_FnCellOf (code:(List UInt8)) (more:(List UInt8)):Option (Bool):=do
 let t21←(do
   if (decide ((code.length:Int) > 1048576)) then
    pure true
   else
    pure (decide ((more.length:Int) > 1048576))
     : Option Bool)
 if t21 then
  pure true
 else
  let (y1,y2,y3)←M.spec_DrawCellOf code
  let y4←M.impl_CellOf y1 y2 y3
  let t41←(do
    let y5←M.spec_CellOf y1 y2 y3
    if (y4 != y5) then
     pure true
    else
     pure (decide (y4 < 0))
      : Option Bool)
  if t41 then
   let t4←(do
     let y6←M.spec_CellOf y1 y2 y3
     if (y4 == y6) then
      pure (decide (y4 ≥ (-1)))
     else
      pure false
       : Option Bool)
   pure (id t4)
  else
   let l←app 32 ([]:List zA) y2.Subs
   let q←rem (more.length:Int) (l.length:Int)
   let x←idx l q
   let (y8,y9)←M.impl_AddAffine x (zA.mk ([0,0,0,0]:List Int) 1)
   let x1←idx l q
   let l1←pure (l.set q.toNat y8)
   let y10←M.impl_CellOf y1 (zK.mk y2.Array l1) y3
   let t42←(do
     let y11←M.impl_CountCells y1
     if (decide (y4 < y11)) then
      if (!y9) then
       pure true
      else
       if (y10 == (-1)) then
        pure true
       else
        pure (y10 != y4)
     else
      pure false
       : Option Bool)
   pure (id t42)
theorem laws_FnCellOf_ok:∀ (code:(List UInt8)) (more:(List UInt8)) r,M.laws_FnCellOf code more=some r→∀ {imm:Imm}{p c p1 c1},(S4 imm p code c)→(S4 imm p1 more c1)→Ret Tryz.prog 7 [vS p code c,vS p1 more c1] imm [] (laws_FnCellOf_post  r):=by
 intro code more r hM imm p c p1 c1 h h1;unfold M.laws_FnCellOf at hM;refine yF (fn:=Tryz.f7) (c:=(bodyOf Tryz.f7)) Tryz.func7 rfl rfl ?_;rintro B - -;have hle:=iS imm;refine zF<|zB<|zY [] []<|zE<|zF<|zF ?_;obtain ⟨o0,ho0,hMc⟩:=zC hM;refine yT (fun imm' hs' m'=>∃ (t21:Bool),o0=t21∧imm.le imm'∧hs'=[]∧m'=[(0,vS p code c),(1,vS p1 more c1),(21,.bool t21)]) ?_ ?_
 · have hle0:=hle;have hle:=iS imm;refine zB<|yK 4 [] [(17,.bool (decide ((code.length:Int) > 1048576)))] ?_;cases hc:(decide ((code.length:Int) > 1048576)) with
   | true =>
    have hM0:=zU hc ho0
    try rw [hc]
    exact zY [] [(21,.bool true)]<|yU [(0,vS p code c),(1,vS p1 more c1),(21,.bool true)]<|yA ⟨_,(zD hM0).symm,hle,rfl,rfl⟩
   | false =>
    have hM01:=zS hc ho0
    try rw [hc]
    exact zY [] [(21,.bool (decide ((more.length:Int) > 1048576)))]<|yU [(0,vS p code c),(1,vS p1 more c1),(21,.bool (decide ((more.length:Int) > 1048576)))]<|yA ⟨_,(zD hM01).symm,hle,rfl,rfl⟩
 rintro imm0 hs2 m2 ⟨t21,heq,le,rfl,rfl⟩;subst o0;have h:=h.mono le;have h1:=h1.mono le;have hle:=hle.trans le;refine zE<|yP hMc ?_ ?_
 · intro hc1 hM;refine zF<|zB<|zY [] [(4,.bool true)]<|zE<|yJ<|zQ ?_;obtain rfl:=zD hM;exact yQ ⟨_,_,(.tmp rfl ResV.nil),zV,⟨_,rfl,rfl,rfl⟩⟩
 intro hc1 hM;refine yD<|zE<|zF<|zB<|yK 1 [] [(23,vS p code c)] ?_;obtain ⟨⟨y1,y2,y3⟩,hy,hM⟩:=zC hM;refine yR (spec_DrawCellOf_ok code _ hy h) ?_;rintro imm01 hs2 v2 k2 le1 - ⟨v0,v01,v02,rfl,rfl,⟨cs,rfl,h2⟩,⟨cs1,rfl,h3⟩,h4⟩ -;have h1:=h1.mono le1;have hle:=hle.trans le1;obtain ⟨v03,v04,rfl,h5,h6⟩:=zFp h2;obtain ⟨p2,c2,rfl⟩:=h5.form;obtain ⟨p3,c3,rfl⟩:=h6.form;obtain ⟨v05,rfl,h7⟩:=sX h3;obtain ⟨p4,c4,rfl⟩:=h7.form;obtain ⟨p5,c5,rfl⟩:=h4.form;refine yK 6 [] [(25,vA (cProg y1 p2 c2 p3 c3)),(26,vA (cAccess y2 p4 c4)),(27,vS p5 y3 c5)]<|uJ zTwo ?_;intro b hb;refine uJ [vT ([]),z0] ?_;intro b1 hb1;refine xI 1 (cProg y1 p2 c2 p3 c3) [hB b1 [vT ([]),z0],hB b (cProg y1 p2 c2 p3 c3)] rfl rfl rfl rfl<|xI 0 (cAccess y2 p4 c4) [hB b1 (cAccess y2 p4 c4),hB b (cProg y1 p2 c2 p3 c3)] rfl rfl rfl rfl<|zY [] [(7,vS p5 y3 c5)]<|zE<|zF<|zB<|yK 3 [1,0] [(28,vA (cProg y1 p2 c2 p3 c3)),(29,vA (cAccess y2 p4 c4)),(30,vS p5 y3 c5)] ?_;obtain ⟨y4,hy1,hM⟩:=zC hM;refine yR (impl_CellOf_ok y1 y2 y3 _ hy1 h5 h6 h7 h4) ?_;rintro imm02 hs2 v2 k2 le2 - ⟨v06,rfl,rfl,rfl⟩ -;have h1:=h1.mono le2;have h4:=h4.mono le2;have h7:=h7.mono le2;have h5:=h5.mono le2;have h6:=h6.mono le2;have hle:=hle.trans le2;refine zY [] [(8,vI y4)]<|zE<|zF<|zF ?_;obtain ⟨o01,ho01,hMc1⟩:=zC hM;refine yT (fun imm' hs' m'=>∃ (t41:Bool),o01=t41∧imm02.le imm'∧hs'=[hB b1 (cAccess y2 p4 c4),hB b (cProg y1 p2 c2 p3 c3)]∧m'=[(1,vS p1 more c1),(5,vP b 0),(6,vP b1 0),(7,vS p5 y3 c5),(8,vI y4),(41,.bool t41)]) ?_ ?_
 · have hle01:=hle;have hle:=iS imm02;refine zB<|yK 4 [1,0] [(32,vI y4),(33,vA (cProg y1 p2 c2 p3 c3)),(34,vA (cAccess y2 p4 c4)),(35,vS p5 y3 c5)] ?_;obtain ⟨y5,hy2,hM⟩:=zC ho01;refine yR (spec_CellOf_ok y1 y2 y3 _ hy2 h5 h6 h7 h4) ?_;rintro imm04 hs2 v2 k2 le3 - ⟨v07,rfl,rfl,rfl⟩ -;have h1:=h1.mono le3;have h4:=h4.mono le3;have h7:=h7.mono le3;have h5:=h5.mono le3;have h6:=h6.mono le3;have hle:=hle.trans le3;refine yK 7 [] [(38,.bool (y4 != y5))] ?_;cases hc2:(y4 != y5) with
   | true =>
    have hM02:=zU hc2 hM
    try rw [hc2]
    exact zY [] [(41,.bool true)]<|yU [(1,vS p1 more c1),(5,vP b 0),(6,vP b1 0),(7,vS p5 y3 c5),(8,vI y4),(41,.bool true)]<|yA ⟨_,(zD hM02).symm,hle,rfl,rfl⟩
   | false =>
    have hM03:=zS hc2 hM
    try rw [hc2]
    exact zY [] [(41,.bool (decide (y4 < 0)))]<|yU [(1,vS p1 more c1),(5,vP b 0),(6,vP b1 0),(7,vS p5 y3 c5),(8,vI y4),(41,.bool (decide (y4 < 0)))]<|yA ⟨_,(zD hM03).symm,hle,rfl,rfl⟩
 rintro imm03 hs2 m2 ⟨t41,heq1,le4,rfl,rfl⟩;subst o01;have h1:=h1.mono le4;have h4:=h4.mono le4;have h7:=h7.mono le4;have h5:=h5.mono le4;have h6:=h6.mono le4;have hle:=hle.trans le4;refine zE<|yP hMc1 ?_ ?_
 · intro hc3 hM;refine zF ?_;obtain ⟨o02,ho02,hMc2⟩:=zC hM;refine yT (fun imm' hs' m'=>∃ (t4:Bool),o02=t4∧imm03.le imm'∧hs'=[]∧m'=[(4,.bool t4)]) ?_ ?_
   · have hle02:=hle;have hle:=iS imm03;refine zB<|yK 4 [1,0] [(42,vI y4),(43,vA (cProg y1 p2 c2 p3 c3)),(44,vA (cAccess y2 p4 c4)),(45,vS p5 y3 c5)] ?_;obtain ⟨y6,hy3,hM⟩:=zC ho02;refine yR (spec_CellOf_ok y1 y2 y3 _ hy3 h5 h6 h7 h4) ?_;rintro imm06 hs2 v2 k2 le5 - ⟨v08,rfl,rfl,rfl⟩ -;have h7:=h7.mono le5;have h5:=h5.mono le5;have h6:=h6.mono le5;have hle:=hle.trans le5;refine yK 7 [] [(48,.bool (y4 == y6))] ?_;cases hc4:(y4 == y6) with
     | true =>
      have hM04:=zU hc4 hM
      try rw [hc4]
      exact zY [] [(4,.bool (decide (y4 ≥ (-1))))]<|wE (zL [] rfl (by decide))<|yU [(4,.bool (decide (y4 ≥ (-1))))]<|yA ⟨_,(zD hM04).symm,hle,rfl,rfl⟩
     | false =>
      have hM05:=zS hc4 hM
      try rw [hc4]
      exact zY [] [(4,.bool false)]<|wE (zL [] rfl (by decide))<|yU [(4,.bool false)]<|yA ⟨_,(zD hM05).symm,hle,rfl,rfl⟩
   rintro imm05 hs2 m2 ⟨t4,heq2,le6,rfl,rfl⟩;subst o02;have hle:=hle.trans le6;refine zE<|yJ<|zQ ?_;obtain rfl:=zD hMc2;exact yQ ⟨_,_,(.tmp rfl ResV.nil),zV,⟨_,rfl,rfl,rfl⟩⟩
 intro hc3 hM;refine yD<|zE<|zF ?_;obtain ⟨l,hy4,hM⟩:=zC hM;refine vZ [.p (vP b1 0) [],.p (vT y2.Array.l) [0],.x (fun imm' v hx=>∃ b2,v=vS (some ⟨b2,0,none⟩) ([]:List zA) 0∧hx=[hO zA (vS (some ⟨b2,0,none⟩) ([]:List zA) 0) []]∧(RL imm' [] ([]:List zA))),.p (vP b1 1) [],.p (vS p4 y2.Subs c4) [0],.x (fun imm' v hx=>∃ p6 c6 cs2,v=vS p6 l c6∧hx=[hO zA (vS p6 l c6) cs2]∧(RL imm' cs2 l)),.x (fun imm' v hx=>∃ p61 c61 cs21,v=vA [vT y2.Array.l,vS p61 l c61]∧hx=[hO zA (vS p61 l c61) cs21]∧(RL imm' cs21 l)),.x (fun imm' v hx=>∃ b3,v=vP b3 0∧hx=[hB b3 [vT ([]),z0]])] [[],[(0,false)],[],[],[(3,false)],[(2,true),(4,false)],[(1,false),(5,true)],[]] [hB b1 (cAccess y2 p4 c4),hB b (cProg y1 p2 c2 p3 c3)] [] [(6,true),(7,true)] (zL [0,1] rfl (by decide)) ?_ ?_
 · refine Op<|Op<|Ox ?_<|Op<|Op<|Ox ?_<|Ox ?_<|Ox ?_<|On
   · intro imm1 hf le1;refine zN<|yG [] ?_;have hle:=iS imm1;refine xY [] zA ?_;intro b2 hb2;have h11:RL imm1 [] ([]:List zA):=rfl;exact zX (hx:=[hO zA (vS (some ⟨b2,0,none⟩) ([]:List zA) 0) []]) rfl hle rfl (zM rfl) ⟨_,rfl,rfl,h11⟩
   · intro imm1 hf le1;refine zG ?_;rintro _ _ ⟨b2,rfl,rfl,h11⟩;refine zG ?_;rintro _ _ ⟨rfl,rfl⟩;refine zN<|yG [(54,vS (some ⟨b2,0,none⟩) ([]:List zA) 0),(56,vS p4 y2.Subs c4)] ?_;have hle:=iS imm1;have h7:=h7.mono le1;obtain ⟨ccs,k0,k01⟩:=h7;have h7:SL imm1 (vS p4 y2.Subs c4) y2.Subs:=⟨_,k0,k01⟩;refine qS 45 2 0 rfl rfl rfl h11 (.inl k0) k01 hy4 ?_;intro p6 c6 cs2 h12;exact uI (hs':=(hO zA (vS p6 l c6) cs2::hB b1 (cAccess y2 p4 c4)::hB b (cProg y1 p2 c2 p3 c3)::hf)) rfl<|zX (hx:=[hO zA (vS p6 l c6) cs2]) rfl hle rfl (zM rfl) ⟨_,_,_,rfl,rfl,h12⟩
   · intro imm1 hf le1;refine zG ?_;rintro _ _ ⟨rfl,rfl⟩;refine zG ?_;rintro _ _ ⟨p6,c6,cs2,rfl,rfl,h12⟩;refine zN<|yG [(53,vT y2.Array.l),(57,vS p6 l c6)] ?_;have hle:=iS imm1;exact qQ 7 [(58,vA [vT y2.Array.l,vS p6 l c6])]<|zX (hx:=[hO zA (vS p6 l c6) cs2]) rfl hle rfl (zM rfl) ⟨_,_,_,rfl,rfl,h12⟩
   intro imm1 hf le1;refine zN<|yG [] ?_;have hle:=iS imm1;refine uJ [vT ([]),z0] ?_;intro b3 hb3;exact zX (hx:=[hB b3 [vT ([]),z0]]) rfl hle rfl (zM rfl) ⟨_,rfl,rfl⟩
 intro imm07 le7;refine zG ?_;rintro _ _ ⟨p61,c61,cs21,rfl,rfl,h121⟩;refine zG ?_;rintro _ _ ⟨b3,rfl,rfl⟩;refine zN<|yG [(1,vS p1 more c1),(5,vP b 0),(7,vS p5 y3 c5),(8,vI y4),(9,vP b3 0),(58,vA [vT y2.Array.l,vS p61 l c61])] ?_;have h1:=h1.mono le7;have h4:=h4.mono le7;have h7:=h7.mono le7;have h5:=h5.mono le7;have h6:=h6.mono le7;have hle:=hle.trans le7;refine xI 0 [vT y2.Array.l,vS p61 l c61] [hB b3 [vT y2.Array.l,vS p61 l c61],hO zA (vS p61 l c61) cs21,hB b1 (cAccess y2 p4 c4),hB b (cProg y1 p2 c2 p3 c3)] rfl rfl rfl rfl<|yN rfl<|zE<|zF<|zB<|yK 5 [0] [(60,vI (more.length:Int)),(63,vI (l.length:Int))] ?_;obtain ⟨q,hy5,hM⟩:=zC hM;refine zIS rfl hy5<|zY [] [(10,vI q)]<|zE<|zF<|zB<|yK 3 [0] [(67,vS p61 l c61),(68,vI q)] ?_;obtain ⟨x,hy6,hM⟩:=zC hM;refine nH 1 rfl rfl rfl h121 hy6 ?_;intro ad ccs1 hat hcc hrep;obtain ⟨v09,rfl,h13⟩:=yM hrep;obtain ⟨p7,c7,rfl⟩:=h13.form;refine zCz 1 0 hat hcc (cAff x p7 c7) (vA (cAff x p7 c7)) rfl rfl<|xY [vI 0,vI 0,vI 0,vI 0] Int ?_;intro b4 hb4;have h14:RL imm07 [vI 0,vI 0,vI 0,vI 0] ([0,0,0,0]:List Int):=⟨[vI 0],_,rfl,rfl,rfl,⟨[vI 0],_,rfl,rfl,rfl,⟨[vI 0],_,rfl,rfl,rfl,⟨[vI 0],_,rfl,rfl,rfl,rfl⟩⟩⟩⟩;refine yK 7 [] [(72,vA [vS (some ⟨b4,0,none⟩) ([0,0,0,0]:List Int) 4,vI 1])]<|yL 0 rfl ?_;intro imm08 le8 hl0;have h15:=SL.of_frozen hl0 le8 h14;have h4:=h4.mono le8;have h13:=h13.mono le8;have h121:=iM le8 h121;have h7:=h7.mono le8;have h5:=h5.mono le8;have h6:=h6.mono le8;have hle:=hle.trans le8;obtain ⟨⟨y8,y9⟩,hy7,hM⟩:=zC hM;refine yR (impl_AddAffine_ok x (zA.mk ([0,0,0,0]:List Int) 1) _ hy7 h13 h15) ?_;rintro imm09 hs2 v2 k2 le9 - ⟨v010,v011,rfl,rfl,⟨cs3,rfl,h16⟩,rfl⟩ -;have h4:=h4.mono le9;have h121:=iM le9 h121;have h7:=h7.mono le9;have h5:=h5.mono le9;have h6:=h6.mono le9;have hle:=hle.trans le9;obtain ⟨v012,rfl,h18⟩:=yM h16;obtain ⟨p8,c8,rfl⟩:=h18.form;refine yK 11 [] [(74,vA (cAff y8 p8 c8)),(75,.bool y9)]<|uJ [z0,vI 0] ?_;intro b5 hb5;refine xI 0 (cAff y8 p8 c8) [hB b5 (cAff y8 p8 c8),hB b3 [vT y2.Array.l,vS p61 l c61],hO zA (vS p61 l c61) cs21,hB b1 (cAccess y2 p4 c4),hB b (cProg y1 p2 c2 p3 c3)] rfl rfl rfl rfl<|zY [] [(12,.bool y9)]<|zE<|zF<|zB<|yK 4 [1,0] [(77,vS p61 l c61),(78,vI q),(79,vA (cAff y8 p8 c8))] ?_;obtain ⟨x1,hy8,hM⟩:=zC hM;refine nH 2 rfl rfl rfl h121 hy8 ?_;intro ad1 ccs2 hat1 hcc1 hrep1;obtain ⟨v013,rfl,h19⟩:=yM hrep1;obtain ⟨p9,c9,rfl⟩:=h19.form;obtain ⟨l1,hy9,hM⟩:=zC hM;refine qL (c:=(cAff y8 p8 c8)) (x':=y8) 2 0 rfl rfl rfl hat1 rfl rfl hcc1 (by kernel_rfl) (by kernel_rfl) (by kernel_rfl) h121 hy8 (by kernel_rfl) (yO ⟨_,rfl,h18⟩) ?_;rw [show l.set q.toNat y8=l1 from zD hy9];intro cs4 h20 hl01;refine mX (m':=[(5,vP b 0),(7,vS p5 y3 c5),(8,vI y4),(9,vP b3 0),(12,.bool y9),(77,vS p61 l c61),(78,vI q),(79,vA (cAff y8 p8 c8))]) ⟨rfl,rfl,rfl,rfl,rfl,rfl,rfl,rfl,trivial⟩<|zBd (hs':=[hB b5 (cAff y8 p8 c8),hB b3 [vT y2.Array.l,vS p61 l1 c61],hO zA (vS p61 l1 c61) cs4,hB b1 (cAccess y2 p4 c4),hB b (cProg y1 p2 c2 p3 c3)]) (m':=[(5,vP b 0),(7,vS p5 y3 c5),(8,vI y4),(9,vP b3 0),(12,.bool y9),(77,vS p61 l1 c61),(78,vI q),(79,vA (cAff y8 p8 c8))]) (by first | rfl | simp only [vS,hl01,List.nil_append,List.cons_append,List.set_cons_zero,List.set_cons_succ,List.eraseIdx_cons_zero,List.eraseIdx_cons_succ]) (by first | rfl | simp only [vS,hl01])<|yN rfl<|zE<|zF<|zB<|yK 3 [4,1] [(81,vA (cProg y1 p2 c2 p3 c3)),(82,vA [vT y2.Array.l,vS p61 l1 c61]),(83,vS p5 y3 c5)]<|yL 2 rfl ?_;intro imm010 le10 hl02;have h21:=SL.of_frozen hl02 le10 h20;have h5:=h5.mono le10;have h6:=h6.mono le10;have h4:=h4.mono le10;have h18:=h18.mono le10;have h7:=h7.mono le10;have hle:=hle.trans le10;obtain ⟨y10,hy10,hM⟩:=zC hM;refine yR (impl_CellOf_ok y1 (zK.mk y2.Array l1) y3 _ hy10 h5 h6 h21 h4) ?_;rintro imm011 hs2 v2 k2 le11 - ⟨v014,rfl,rfl,rfl⟩ -;have h18:=h18.mono le11;have h21:=h21.mono le11;have h7:=h7.mono le11;have h5:=h5.mono le11;have h6:=h6.mono le11;have hle:=hle.trans le11;refine zY [] [(13,vI y10)]<|zE<|zF ?_;obtain ⟨o03,ho03,hMc3⟩:=zC hM;refine yT (fun imm' hs' m'=>∃ (t42:Bool),o03=t42∧imm011.le imm'∧hs'=[]∧m'=[(4,.bool t42)]) ?_ ?_
 · have hle03:=hle;have hle:=iS imm011;refine zB<|yK 2 [3] [(85,vI y4),(86,vA (cProg y1 p2 c2 p3 c3))] ?_;obtain ⟨y11,hy11,hM⟩:=zC ho03;refine yR (impl_CountCells_ok y1 _ hy11 h5 h6) ?_;rintro imm013 hs2 v2 k2 le12 - ⟨v015,rfl,rfl,rfl⟩ -;have h18:=h18.mono le12;have h21:=h21.mono le12;have h7:=h7.mono le12;have h5:=h5.mono le12;have h6:=h6.mono le12;have hle:=hle.trans le12;refine yK 5 [] [(89,.bool (decide (y4 < y11)))] ?_;cases hc5:(decide (y4 < y11)) with
   | true =>
    have hM06:=zU hc5 hM
    try rw [hc5]
    refine yK 8 [] [(92,.bool (!y9))] ?_;cases hc6:(!y9) with
    | true =>
     have hM07:=zU hc6 hM06
     try rw [hc6]
     exact zY [] [(4,.bool true)]<|wE (zL [] rfl (by decide))<|yU [(4,.bool true)]<|yA ⟨_,(zD hM07).symm,hle,rfl,rfl⟩
    | false =>
     have hM08:=zS hc6 hM06
     try rw [hc6]
     refine yK 12 [] [(96,.bool (y10 == (-1)))] ?_;cases hc7:(y10 == (-1)) with
     | true =>
      have hM09:=zU hc7 hM08
      try rw [hc7]
      exact zY [] [(4,.bool true)]<|wE (zL [] rfl (by decide))<|yU [(4,.bool true)]<|yA ⟨_,(zD hM09).symm,hle,rfl,rfl⟩
     | false =>
      have hM010:=zS hc7 hM08
      try rw [hc7]
      exact zY [] [(4,.bool (y10 != y4))]<|wE (zL [] rfl (by decide))<|yU [(4,.bool (y10 != y4))]<|yA ⟨_,(zD hM010).symm,hle,rfl,rfl⟩
   | false =>
    have hM011:=zS hc5 hM
    try rw [hc5]
    exact zY [] [(4,.bool false)]<|wE (zL [] rfl (by decide))<|yU [(4,.bool false)]<|yA ⟨_,(zD hM011).symm,hle,rfl,rfl⟩
 rintro imm012 hs2 m2 ⟨t42,heq3,le13,rfl,rfl⟩;subst o03;have hle:=hle.trans le13;refine zE<|yJ ?_;obtain rfl:=zD hMc3;exact yQ ⟨_,_,(.tmp rfl ResV.nil),zV,⟨_,rfl,rfl,rfl⟩⟩
end Go.LN
namespace Go.LN
theorem implValidP (P : zZ) (h : BG P) : M.impl_ProgramValid P = some (validP P) := by
  unfold M.impl_ProgramValid validP
  rw [implInstances P h]
  cases progB P <;> rfl
end Go.LN
namespace Go.LN
def totL : List zJ → Int → Int
  | [], n => n
  | x :: l, n => totL l (W (n + sizeF x))
theorem implCells (P : zZ) (h : BR P.Arrays) : M.impl_Program_cells P = some (totL P.Arrays 0) := by
  unfold M.impl_Program_cells
  obtain ⟨h1, h2⟩ := h
  have key : ∀ (j i : Nat) (n : Int), i + j = P.Arrays.length → M.impl_Program_cells_l1 P n (i : Int) = some (totL (P.Arrays.drop i) n) := by
    intro j
    induction j with
    | zero =>
      intro i n hi
      rw [M.impl_Program_cells_l1]
      have : ¬ ((i : Int) < (P.Arrays.length : Int)) := by omega
      simp only [this, decide_false, Bool.false_eq_true, if_false]
      rw [List.drop_eq_nil_iff.2 (by omega)]; rfl
    | succ j ih =>
      intro i n hi
      rw [M.impl_Program_cells_l1]
      have hlt : i < P.Arrays.length := by omega
      have hc : ((i : Int) < (P.Arrays.length : Int)) := by omega
      have hd := h2 _ (List.getElem_mem hlt)
      simp only [hc, decide_true, if_true, xH hlt, Option.bind_eq_bind, Option.bind_some, implSize _ (show P.Arrays[i].Dims.length ≤ 1048576 by omega)]
      rw [tV (by omega), ih (i + 1) _ (by omega), List.drop_eq_getElem_cons hlt, totL]
  have := key _ 0 0 (Nat.zero_add _)
  rw [Int.natCast_zero, List.drop_zero] at this
  rw [this]; rfl
theorem implCount (P : zZ) (h : BG P) : M.impl_CountCells P = some (if validP P then totL P.Arrays 0 else 0) := by
  unfold M.impl_CountCells
  rw [implValidP P h, implCells P h.1]
  cases validP P <;> rfl
end Go.LN
