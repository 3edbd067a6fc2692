/- Helper of the proof (see the last text). -/
import Derived.Test.YtaedjkaagcbkdaaGreatLnA
import Derived.Test.YtaedjkaagcbkdaaGreatLnI
import Derived.Test.YtaedjkaagcbkdaaGreatLnQ
import Derived.Test.YtaedjkaagcbkdaaGreatTryzShelf
import Derived.Test.YtaedjkaagcbkdaaGreatHM1
import Derived.Test.YtaedjkaagcbkdaaGreatHM2
import Derived.Test.YtaedjkaagcbkdaaGreatHM3
import Derived.Test.YtaedjkaagcbkdaaGreatHM4
import Derived.Test.YtaedjkaagcbkdaaGreatHM5
import Derived.Test.YtaedjkaagcbkdaaGreatHM6
import Derived.Test.YtaedjkaagcbkdaaGreatHM7
import Derived.Test.YtaedjkaagcbkdaaGreatHM8
import Derived.Test.YtaedjkaagcbkdaaGreatQT
import Derived.Test.YtaedjkaagcbkdaaGreatQZ
import Derived.Test.YtaedjkaagcbkdaaGreatVB1
import Derived.Test.YtaedjkaagcbkdaaGreatVB8
import Derived.Test.YtaedjkaagcbkdaaGreatLnR
set_option linter.unusedVariables false
set_option linter.unusedSimpArgs false
namespace Go.LN
open Go.Proofs
set_option maxRecDepth 20000
def spec_DrawProgramInstances_post (r:zW):KT:=fun kk imm' hs' v=>
  ∃ v0,hs'=[]∧v=tupV [v0]∧(∃ cs,v0=.agg ⟨cs⟩∧Rp.rep imm' cs r)
def M.spec_DrawProgramInstances (code:(List UInt8)):Option (zW):=do
 let y←qA code
 pure (id y)
theorem spec_DrawProgramInstances_ok:∀ (code:(List UInt8)) r,M.spec_DrawProgramInstances code=some r→∀ {imm:Imm}{p c},(S4 imm p code c)→Ret Tryz.prog 15 [vS p code c] imm [] (spec_DrawProgramInstances_post  r):=by
 intro code r hM imm p c h;unfold M.spec_DrawProgramInstances at hM;refine yH (fn:=Tryz.f15) (c:=(bodyOf Tryz.f15)) Tryz.func15 rfl rfl ?_;rintro B - -;refine zG<|zB<|uB zTwo ?_;intro b hb;refine yN rfl<|zF<|zG<|zB<|yK 1 [] [(3,vS p code c)] ?_;obtain ⟨y,hy,hM⟩:=zC hM;refine yQ (zE5 code _ hy h) ?_;rintro imm0 hs2 v2 k2 le - ⟨v0,rfl,rfl,⟨cs,rfl,h1⟩⟩ -;obtain ⟨v01,v02,rfl,h2,h3⟩:=gJ h1;obtain ⟨p1,c1,rfl⟩:=h2.form;obtain ⟨p2,c2,rfl⟩:=h3.form;refine xI 0 (cProg y p1 c1 p2 c2) [hB b (cProg y p1 c1 p2 c2)] rfl rfl rfl rfl<|yN rfl<|zF<|yI ?_;obtain rfl:=zD hM;exact yP ⟨_,_,(.cell 0 rfl rfl (by kernel_rfl) ResV.nil),zX,⟨_,rfl,rfl,⟨_,rfl,(pO ⟨_,_,rfl,h2,h3⟩)⟩⟩⟩
end Go.LN
namespace Go.LN
open Go.Proofs
set_option maxRecDepth 20000
def spec_ProgramInstances_post (r:(List zU)):KT:=fun kk imm' hs' v=>
  ∃ v0,hs'=[]∧v=tupV [v0]∧SL imm' v0 r
def M.spec_ProgramInstances (p:zW):Option ((List zU)):=do
 let y←tK p
 if (!y) then
  pure ([]:List zU)
 else
  let y1←oZ p
  pure (id y1)
theorem spec_ProgramInstances_ok:∀ (p:zW) r,M.spec_ProgramInstances p=some r→∀ {imm:Imm}{p1 c p2 c1},(S4 imm p1 p.Arrays c)→(S4 imm p2 p.Parts c1)→Ret Tryz.prog 17 [vA (cProg p p1 c p2 c1)] imm [] (spec_ProgramInstances_post  r):=by
 intro p r hM imm p1 c p2 c1 h h1;unfold M.spec_ProgramInstances at hM;refine yH (fn:=Tryz.f17) (c:=(bodyOf Tryz.f17)) Tryz.func17 rfl rfl ?_;rintro B - -;refine zG<|zB<|tA (cProg p p1 c p2 c1) ?_;intro b hb;refine yA [] []<|zF<|zG<|zG<|zB<|yK 1 [0] [(3,vA (cProg p p1 c p2 c1))] ?_;obtain ⟨y,hy,hM⟩:=zC hM;refine yQ (zAH p _ hy h h1) ?_;rintro imm0 hs2 v2 k2 le - ⟨v0,rfl,rfl,rfl⟩ -;have h:=h.mono le;have h1:=h1.mono le;refine yA [] [(5,.bool (!y))]<|zF<|yO hM ?_ ?_
 · intro hc hM;refine zG<|zB<|xV [] zU ?_;intro b1 hb1;have h3:RL imm0 [] ([]:List zU):=rfl;refine yA [] [(2,vS (some ⟨b1,0,none⟩) ([]:List zU) 0)]<|zF<|yI<|zP<|xJ 0 rfl ?_;intro imm01 le1 hl0;have h4:=SL.of_frozen hl0 le1 h3;obtain rfl:=zD hM;exact yP ⟨_,_,(.tmp rfl ResV.nil),zX,⟨_,rfl,rfl,h4⟩⟩
 intro hc hM;refine yE<|zF<|zG<|zB<|yK 1 [0] [(7,vA (cProg p p1 c p2 c1))] ?_;obtain ⟨y1,hy1,hM⟩:=zC hM;refine yQ (zGP p _ hy1 h h1) ?_;rintro imm02 hs2 v2 k2 le2 - ⟨v01,rfl,rfl,h5⟩ -;obtain ⟨p3,c2,rfl⟩:=h5.form;refine yA [] [(2,vS p3 y1 c2)]<|zF<|yI ?_;obtain rfl:=zD hM;exact yP ⟨_,_,(.tmp rfl ResV.nil),zX,⟨_,rfl,rfl,h5⟩⟩
def impl_Program_cells_post (r:Int):KT:=fun kk imm' hs' v=>
  ∃ v0,hs'=[]∧v=tupV [v0]∧v0=.int .i64 r
def M.impl_Program_cells_l1 (p:zW) (n0:Int) (t9:Int):Option (Int):=do
 if (decide (t9 < (p.Arrays.length:Int))) then
  let x←idx p.Arrays t9
  let y←pT x
  M.impl_Program_cells_l1 p (W (n0 + y)) (W (t9 + 1))
 else
  pure (id n0)
 partial_fixpoint
theorem impl_Program_cells_l1_ok (p:zW):∀ (n0:Int) (t9:Int) (o:Int),M.impl_Program_cells_l1 p n0 t9=some o→∀ {B}{imm0 imm:Imm}{Q p1 c},imm0.le imm→(S4 imm p1 p.Arrays c)→(∀ gl a w,¬Q (.goto gl) a w)→(∀ a w,¬Q .outgrown a w)→(∀ (imm':Imm) (n01:Int),o=n01→imm0.le imm'→T 19 B Q (.exit 0) imm' [] [(3,vI n01)])→J Tryz.prog 19 B (nav (bodyOf Tryz.f55) [1,1,0,1,0]) Q imm [] [(3,vI n0),(7,vS p1 p.Arrays c),(8,vI (p.Arrays.length:Int)),(9,vI t9)]:=by
 refine M.impl_Program_cells_l1.partial_correctness p _ ?_;intro self ih n0 t9 o hM B imm0 imm Q p1 c hle h hg ho hx;refine xA hg ho<|zG<|zB<|yA [] [(10,.bool (decide (t9 < (p.Arrays.length:Int))))]<|zF<|zG<|yO hM ?_ ?_
 · intro hc hM;refine yE<|zF<|zG<|yC<|zG<|zB ?_;obtain ⟨x,hy,hM⟩:=zC hM;refine wD rfl rfl h hy ?_;intro ad ccs hat hrep;obtain ⟨v0,rfl,h2⟩:=wC hrep;obtain ⟨p3,c2,rfl⟩:=h2.form;refine xQ 0 hat (cArr x p3 c2) (vA (cArr x p3 c2)) rfl<|uB [vT ([]),z0] ?_;intro b1 hb1;refine xI 0 (cArr x p3 c2) [hB b1 (cArr x p3 c2)] rfl rfl rfl rfl<|yN rfl<|zF<|zB<|yK 2 [0] [(13,vI n0),(14,vA (cArr x p3 c2))] ?_;obtain ⟨y,hy1,hM⟩:=zC hM;refine yQ (zBY x _ hy1 h2) ?_;rintro imm0 hs2 v2 k2 le - ⟨v01,rfl,rfl,rfl⟩ -;have h:=h.mono le;have hle:=hle.trans le;exact yA [] [(3,vI (W (n0 + y)))]<|zY<|zF<|zB<|yA [] [(9,vI (W (t9 + 1)))]<|xB<|qP (zL [] rfl (by decide))<|vG [(3,vI (W (n0 + y))),(7,vS p1 p.Arrays c),(8,vI (p.Arrays.length:Int)),(9,vI (W (t9 + 1)))]<|ih (W (n0 + y)) (W (t9 + 1)) _ hM hle h hg ho hx
 intro hc hM;exact yZ<|zS<|zS<|yS [(3,vI n0)]<|hx _ _ (zD hM).symm hle
def M.impl_Program_cells (p:zW):Option (Int):=do
 let n01←M.impl_Program_cells_l1 p 0 0
 pure (id n01)
theorem impl_Program_cells_ok:∀ (p:zW) r,M.impl_Program_cells p=some r→∀ {imm:Imm}{p1 c p2 c1},(S4 imm p1 p.Arrays c)→(S4 imm p2 p.Parts c1)→Ret Tryz.prog 55 [vA (cProg p p1 c p2 c1)] imm [] (impl_Program_cells_post  r):=by
 intro p r hM imm p1 c p2 c1 h h1;unfold M.impl_Program_cells at hM;refine yH (fn:=Tryz.f55) (c:=(bodyOf Tryz.f55)) Tryz.func55 rfl rfl ?_;rintro B - -;refine zG<|zB<|tA (cProg p p1 c p2 c1) ?_;intro b hb;refine yA [] []<|zF<|zG<|zB<|yA [] [(3,vI 0)]<|zF<|zG<|zG<|zB<|yA [0] [(7,vS p1 p.Arrays c),(8,vI (p.Arrays.length:Int)),(9,vI 0)]<|zF<|yC<|qP (zL [] (hs':=[]) rfl (by decide))<|vG [(3,vI 0),(7,vS p1 p.Arrays c),(8,vI (p.Arrays.length:Int)),(9,vI 0)] ?_;obtain ⟨o0,ho0,hMl⟩:=zC hM;refine impl_Program_cells_l1_ok p 0 0 o0 ho0 iR h (fun _ _ _ h=>h) (fun _ _ h=>h) ?_;intro imm01 n01 heq le1;subst o0;refine yD<|zF<|zG<|zB<|yA [] [(2,vI n01)]<|zF<|yI ?_;obtain rfl:=zD hMl;exact yP ⟨_,_,(.tmp rfl ResV.nil),zX,⟨_,rfl,rfl,rfl⟩⟩
def impl_CountCells_post (r:Int):KT:=fun kk imm' hs' v=>
  ∃ v0,hs'=[]∧v=tupV [v0]∧v0=.int .i64 r
def M.impl_CountCells (p:zW):Option (Int):=do
 let y←qK p
 if (!y) then
  pure (id 0)
 else
  let y1←M.impl_Program_cells p
  pure (id y1)
theorem impl_CountCells_ok:∀ (p:zW) r,M.impl_CountCells p=some r→∀ {imm:Imm}{p1 c p2 c1},(S4 imm p1 p.Arrays c)→(S4 imm p2 p.Parts c1)→Ret Tryz.prog 21 [vA (cProg p p1 c p2 c1)] imm [] (impl_CountCells_post  r):=by
 intro p r hM imm p1 c p2 c1 h h1;unfold M.impl_CountCells at hM;refine yH (fn:=Tryz.f21) (c:=(bodyOf Tryz.f21)) Tryz.func21 rfl rfl ?_;rintro B - -;refine zG<|zB<|tA (cProg p p1 c p2 c1) ?_;intro b hb;refine yA [] []<|zF<|zG<|zG<|zB<|yK 1 [0] [(3,vA (cProg p p1 c p2 c1))] ?_;obtain ⟨y,hy,hM⟩:=zC hM;refine yQ (zAX p _ hy h h1) ?_;rintro imm0 hs2 v2 k2 le - ⟨v0,rfl,rfl,rfl⟩ -;have h:=h.mono le;have h1:=h1.mono le;refine yA [] [(5,.bool (!y))]<|zF<|yO hM ?_ ?_
 · intro hc hM;refine zG<|zB<|yA [] [(2,vI 0)]<|zF<|yI<|zP ?_;obtain rfl:=zD hM;exact yP ⟨_,_,(.tmp rfl ResV.nil),zX,⟨_,rfl,rfl,rfl⟩⟩
 intro hc hM;refine yE<|zF<|zG<|zB<|yK 1 [0] [(6,vA (cProg p p1 c p2 c1))] ?_;obtain ⟨y1,hy1,hM⟩:=zC hM;refine yQ (impl_Program_cells_ok p _ hy1 h h1) ?_;rintro imm01 hs2 v2 k2 le1 - ⟨v01,rfl,rfl,rfl⟩ -;refine yA [] [(2,vI y1)]<|zF<|yI ?_;obtain rfl:=zD hM;exact yP ⟨_,_,(.tmp rfl ResV.nil),zX,⟨_,rfl,rfl,rfl⟩⟩
end Go.LN
namespace Go.LN
open Go.Proofs
set_option maxRecDepth 20000
def laws_lnInstances_post (r:Bool):KT:=fun kk imm' hs' v=>
  ∃ v0,hs'=[]∧v=tupV [v0]∧v0=.bool r
def M.laws_lnInstances_l1 (a0:(List zU)) (b:(List zU)) (i:Int):Option (Out Unit (Bool)):=do
 if (decide (i < (a0.length:Int))) then
  let t54←(do
    let x←idx a0 i
    let x1←idx b i
    if (x.Part != x1.Part) then
     pure true
    else
     let x2←idx a0 i
     let x3←idx b i
     if (x2.Stmt != x3.Stmt) then
      pure true
     else
      let x4←idx a0 i
      let x5←idx b i
      let y←zAv x4.Point x5.Point
      pure (!y)
      : Option Bool)
  if t54 then
   pure (.ret false)
  else
   M.laws_lnInstances_l1 a0 b (W (i + 1))
 else
  pure (.done ())
 partial_fixpoint
theorem laws_lnInstances_l1_ok (a0:(List zU)) (b:(List zU)):∀ (i:Int) (o:Out Unit (Bool)),M.laws_lnInstances_l1 a0 b i=some o→∀ {B}{imm0 imm:Imm}{Q p c p1 c1},imm0.le imm→(S4 imm p a0 c)→(S4 imm p1 b c1)→(∀ gl a w,¬Q (.goto gl) a w)→(∀ a w,¬Q .outgrown a w)→(∀ (imm':Imm) ,o=(.done ())→imm0.le imm'→T 55 B Q (.exit 0) imm' [] [])→(∀ r imm' hs' m',o=(.ret r)→imm0.le imm'→RS Tryz.prog Tryz.f24 B (laws_lnInstances_post  r) imm' hs' m'→T 55 B Q .ret imm' hs' m')→J Tryz.prog 55 B (nav (bodyOf Tryz.f24) [1,1,0,1,0]) Q imm [] [(0,vS p a0 c),(1,vS p1 b c1),(5,vI i)]:=by
 refine M.laws_lnInstances_l1.partial_correctness a0 b _ ?_;intro self ih i o hM B imm0 imm Q p c p1 c1 hle h h1 hg ho hx hr;refine xA hg ho<|zG<|zG<|zB<|yA [] [(14,.bool (decide (i < (a0.length:Int))))]<|zF<|yO hM ?_ ?_
 · intro hc1 hM;refine yE<|zF<|zG<|yC<|zG ?_;obtain ⟨o0,ho0,hMc⟩:=zC hM;refine yT (fun imm' hs' m'=>∃ (t54:Bool),o0=t54∧imm.le imm'∧hs'=[]∧m'=[(0,vS p a0 c),(1,vS p1 b c1),(5,vI i),(54,.bool t54)]) ?_ ?_
   · have hle:=iS imm;obtain ⟨x,hy,hM⟩:=zC ho0;obtain ⟨x1,hy1,hM⟩:=zC hM;cases hc2:(x.Part != x1.Part) with
     | true =>
      have hM0:=zV hc2 hM;refine vC [.p (vS p a0 c) [],.p (vI i) [],.x (fun imm' v hx=>∃ ad p2 c2,v=.pointer (some ad)∧hx=[]∧(At imm' ad (cInst x p2 c2))∧(S4 imm' p2 x.Point c2)),.x (fun imm' v hx=>∃ ad1 p21 c21,v=.pointer (some ad1)∧hx=[]∧(At imm' ad1 (cInst x p21 c21))∧(S4 imm' p21 x.Point c21)),.q (vI x.Part),.p (vS p1 b c1) [],.p (vI i) [],.x (fun imm' v hx=>∃ ad2 p3 c3,v=.pointer (some ad2)∧hx=[]∧(At imm' ad2 (cInst x1 p3 c3))∧(S4 imm' p3 x1.Point c3)),.x (fun imm' v hx=>∃ ad21 p31 c31,v=.pointer (some ad21)∧hx=[]∧(At imm' ad21 (cInst x1 p31 c31))∧(S4 imm' p31 x1.Point c31)),.q (vI x1.Part),.q (.bool true),.q (.bool true),.p undef [],.p undef [],.p undef [],.p undef [],.p undef [],.p undef [],.p undef [],.p undef [],.p undef [],.p undef [],.p undef [],.p (.bool true) [],.p (.bool true) [],.p undef [],.p undef [],.p undef [],.p undef [],.p undef [],.p undef [],.p undef [],.p undef [],.p undef [],.p undef [],.p undef [],.p undef [],.p (.bool true) []] [[],[],[(0,false),(1,false)],[(2,false)],[(3,false)],[],[],[(5,false),(6,false)],[(7,false)],[(8,false)],[(4,false),(9,false)],[(10,false)],[(11,false)],[(11,false)],[(11,false),(12,false),(13,false)],[(11,false),(14,false)],[(11,false),(15,false)],[(11,false)],[(11,false)],[(11,false),(17,false),(18,false)],[(11,false),(19,false)],[(11,false),(20,false)],[(11,false),(16,false),(21,false)],[(11,false),(22,false)],[(23,false)],[(24,false)],[(24,false)],[(24,false),(25,false),(26,false)],[(24,false),(27,false)],[(24,false),(28,false)],[(24,false)],[(24,false)],[(24,false),(30,false),(31,false)],[(24,false),(32,false)],[(24,false),(33,false)],[(24,false),(29,false),(34,false)],[(24,false),(35,false)],[(24,false),(36,false)]] [] [] [(37,false)] (zL [] rfl (by decide)) ?_ ?_
      · refine Op<|Op<|Ox ?_<|Ox ?_<|Oq ?_<|Op<|Op<|Ox ?_<|Ox ?_<|Oq ?_<|Oq ?_<|Oq ?_<|Op<|Op<|Op<|Op<|Op<|Op<|Op<|Op<|Op<|Op<|Op<|Op<|Op<|Op<|Op<|Op<|Op<|Op<|Op<|Op<|Op<|Op<|Op<|Op<|Op<|Op<|On
        · intro imm1 hf le1;refine zE ?_;rintro _ _ ⟨rfl,rfl⟩;refine zE ?_;rintro _ _ ⟨rfl,rfl⟩;refine zM<|yG [(17,vS p a0 c),(18,vI i)] ?_;have hle:=iS imm1;have h:=h.mono le1;refine wD rfl rfl h hy ?_;intro ad ccs hat hrep;obtain ⟨v0,rfl,h2⟩:=zG2 hrep;obtain ⟨p2,c2,rfl⟩:=h2.form;exact zZ (hx:=[]) rfl hle rfl (zK rfl) ⟨_,_,_,rfl,rfl,hat,h2⟩
        · intro imm1 hf le1;refine zE ?_;rintro _ _ ⟨ad,p2,c2,rfl,rfl,hat,h2⟩;refine zM<|yG [(19,.pointer (some ad))] ?_;have hle:=iS imm1;exact rW 4 [(20,.pointer (some ad))]<|zZ (hx:=[]) rfl hle rfl (zK rfl) ⟨_,_,_,rfl,rfl,hat,h2⟩
        · intro imm1 hf le1;refine zE ?_;rintro _ _ ⟨ad1,p21,c21,rfl,rfl,hat1,h21⟩;refine zM<|yG [(20,.pointer (some ad1))] ?_;have hle:=iS imm1;exact xQ 0 hat1 [vI x.Part] (vI x.Part) rfl<|zZ (hx:=[]) rfl hle rfl (zK rfl) ⟨rfl,rfl⟩
        · intro imm1 hf le1;refine zE ?_;rintro _ _ ⟨rfl,rfl⟩;refine zE ?_;rintro _ _ ⟨rfl,rfl⟩;refine zM<|yG [(22,vS p1 b c1),(23,vI i)] ?_;have hle:=iS imm1;have h1:=h1.mono le1;refine wD rfl rfl h1 hy1 ?_;intro ad2 ccs1 hat2 hrep1;obtain ⟨v01,rfl,h3⟩:=zG2 hrep1;obtain ⟨p3,c3,rfl⟩:=h3.form;exact zZ (hx:=[]) rfl hle rfl (zK rfl) ⟨_,_,_,rfl,rfl,hat2,h3⟩
        · intro imm1 hf le1;refine zE ?_;rintro _ _ ⟨ad2,p3,c3,rfl,rfl,hat2,h3⟩;refine zM<|yG [(24,.pointer (some ad2))] ?_;have hle:=iS imm1;exact rW 9 [(25,.pointer (some ad2))]<|zZ (hx:=[]) rfl hle rfl (zK rfl) ⟨_,_,_,rfl,rfl,hat2,h3⟩
        · intro imm1 hf le1;refine zE ?_;rintro _ _ ⟨ad21,p31,c31,rfl,rfl,hat21,h31⟩;refine zM<|yG [(25,.pointer (some ad21))] ?_;have hle:=iS imm1;exact xQ 0 hat21 [vI x1.Part] (vI x1.Part) rfl<|zZ (hx:=[]) rfl hle rfl (zK rfl) ⟨rfl,rfl⟩
        · intro imm1 hf le1;refine zE ?_;rintro _ _ ⟨rfl,rfl⟩;refine zE ?_;rintro _ _ ⟨rfl,rfl⟩;refine zM<|yG [(21,vI x.Part),(26,vI x1.Part)] ?_;have hle:=iS imm1;refine rW 11 [(27,.bool (x.Part != x1.Part))] ?_;rw [hc2];exact zZ (hx:=[]) rfl hle rfl (zK rfl) ⟨rfl,rfl⟩
        intro imm1 hf le1;refine zE ?_;rintro _ _ ⟨rfl,rfl⟩;refine zM<|yG [(27,.bool true)] ?_;have hle:=iS imm1;exact rW 12 [(28,.bool true)]<|zZ (hx:=[]) rfl hle rfl (zK rfl) ⟨rfl,rfl⟩
      intro imm01 le;refine zE ?_;rintro _ _ ⟨rfl,rfl⟩;refine zM<|yG [(0,vS p a0 c),(1,vS p1 b c1),(5,vI i),(54,.bool true)] ?_;have hle:=hle.trans le;exact yN rfl<|yS [(0,vS p a0 c),(1,vS p1 b c1),(5,vI i),(54,.bool true)]<|yB ⟨_,(zD hM0).symm,hle,rfl,rfl⟩
     | false =>
      have hM01:=zT hc2 hM;obtain ⟨x2,hy2,hM⟩:=zC hM01;obtain ⟨x3,hy3,hM⟩:=zC hM;cases hc3:(x2.Stmt != x3.Stmt) with
      | true =>
       have hM02:=zV hc3 hM;refine vC [.p (vS p a0 c) [],.p (vI i) [],.x (fun imm' v hx=>∃ ad p2 c2,v=.pointer (some ad)∧hx=[]∧(At imm' ad (cInst x p2 c2))∧(S4 imm' p2 x.Point c2)),.x (fun imm' v hx=>∃ ad1 p21 c21,v=.pointer (some ad1)∧hx=[]∧(At imm' ad1 (cInst x p21 c21))∧(S4 imm' p21 x.Point c21)),.q (vI x.Part),.p (vS p1 b c1) [],.p (vI i) [],.x (fun imm' v hx=>∃ ad2 p3 c3,v=.pointer (some ad2)∧hx=[]∧(At imm' ad2 (cInst x1 p3 c3))∧(S4 imm' p3 x1.Point c3)),.x (fun imm' v hx=>∃ ad21 p31 c31,v=.pointer (some ad21)∧hx=[]∧(At imm' ad21 (cInst x1 p31 c31))∧(S4 imm' p31 x1.Point c31)),.q (vI x1.Part),.q (.bool false),.q (.bool false),.p (vS p a0 c) [],.p (vI i) [],.x (fun imm' v hx=>∃ ad3 p4 c4,v=.pointer (some ad3)∧hx=[]∧(At imm' ad3 (cInst x2 p4 c4))∧(S4 imm' p4 x2.Point c4)),.x (fun imm' v hx=>∃ ad31 p41 c41,v=.pointer (some (ad31.add 1))∧hx=[]∧(At imm' ad31 (cInst x2 p41 c41))∧(S4 imm' p41 x2.Point c41)),.q (vI x2.Stmt),.p (vS p1 b c1) [],.p (vI i) [],.x (fun imm' v hx=>∃ ad4 p5 c5,v=.pointer (some ad4)∧hx=[]∧(At imm' ad4 (cInst x3 p5 c5))∧(S4 imm' p5 x3.Point c5)),.x (fun imm' v hx=>∃ ad41 p51 c51,v=.pointer (some (ad41.add 1))∧hx=[]∧(At imm' ad41 (cInst x3 p51 c51))∧(S4 imm' p51 x3.Point c51)),.q (vI x3.Stmt),.q (.bool true),.q (.bool true),.q (.bool true),.p undef [],.p undef [],.p undef [],.p undef [],.p undef [],.p undef [],.p undef [],.p undef [],.p undef [],.p undef [],.p undef [],.p undef [],.p (.bool true) []] [[],[],[(0,false),(1,false)],[(2,false)],[(3,false)],[],[],[(5,false),(6,false)],[(7,false)],[(8,false)],[(4,false),(9,false)],[(10,false)],[(11,false)],[(11,false)],[(11,false),(12,false),(13,false)],[(11,false),(14,false)],[(11,false),(15,false)],[(11,false)],[(11,false)],[(11,false),(17,false),(18,false)],[(11,false),(19,false)],[(11,false),(20,false)],[(11,false),(16,false),(21,false)],[(11,false),(22,false)],[(23,false)],[(24,false)],[(24,false)],[(24,false),(25,false),(26,false)],[(24,false),(27,false)],[(24,false),(28,false)],[(24,false)],[(24,false)],[(24,false),(30,false),(31,false)],[(24,false),(32,false)],[(24,false),(33,false)],[(24,false),(29,false),(34,false)],[(24,false),(35,false)],[(24,false),(36,false)]] [] [] [(37,false)] (zL [] rfl (by decide)) ?_ ?_
       · refine Op<|Op<|Ox ?_<|Ox ?_<|Oq ?_<|Op<|Op<|Ox ?_<|Ox ?_<|Oq ?_<|Oq ?_<|Oq ?_<|Op<|Op<|Ox ?_<|Ox ?_<|Oq ?_<|Op<|Op<|Ox ?_<|Ox ?_<|Oq ?_<|Oq ?_<|Oq ?_<|Oq ?_<|Op<|Op<|Op<|Op<|Op<|Op<|Op<|Op<|Op<|Op<|Op<|Op<|Op<|On
         · intro imm1 hf le1;refine zE ?_;rintro _ _ ⟨rfl,rfl⟩;refine zE ?_;rintro _ _ ⟨rfl,rfl⟩;refine zM<|yG [(17,vS p a0 c),(18,vI i)] ?_;have hle:=iS imm1;have h:=h.mono le1;refine wD rfl rfl h hy ?_;intro ad ccs hat hrep;obtain ⟨v0,rfl,h2⟩:=zG2 hrep;obtain ⟨p2,c2,rfl⟩:=h2.form;exact zZ (hx:=[]) rfl hle rfl (zK rfl) ⟨_,_,_,rfl,rfl,hat,h2⟩
         · intro imm1 hf le1;refine zE ?_;rintro _ _ ⟨ad,p2,c2,rfl,rfl,hat,h2⟩;refine zM<|yG [(19,.pointer (some ad))] ?_;have hle:=iS imm1;exact rW 4 [(20,.pointer (some ad))]<|zZ (hx:=[]) rfl hle rfl (zK rfl) ⟨_,_,_,rfl,rfl,hat,h2⟩
         · intro imm1 hf le1;refine zE ?_;rintro _ _ ⟨ad1,p21,c21,rfl,rfl,hat1,h21⟩;refine zM<|yG [(20,.pointer (some ad1))] ?_;have hle:=iS imm1;exact xQ 0 hat1 [vI x.Part] (vI x.Part) rfl<|zZ (hx:=[]) rfl hle rfl (zK rfl) ⟨rfl,rfl⟩
         · intro imm1 hf le1;refine zE ?_;rintro _ _ ⟨rfl,rfl⟩;refine zE ?_;rintro _ _ ⟨rfl,rfl⟩;refine zM<|yG [(22,vS p1 b c1),(23,vI i)] ?_;have hle:=iS imm1;have h1:=h1.mono le1;refine wD rfl rfl h1 hy1 ?_;intro ad2 ccs1 hat2 hrep1;obtain ⟨v01,rfl,h3⟩:=zG2 hrep1;obtain ⟨p3,c3,rfl⟩:=h3.form;exact zZ (hx:=[]) rfl hle rfl (zK rfl) ⟨_,_,_,rfl,rfl,hat2,h3⟩
         · intro imm1 hf le1;refine zE ?_;rintro _ _ ⟨ad2,p3,c3,rfl,rfl,hat2,h3⟩;refine zM<|yG [(24,.pointer (some ad2))] ?_;have hle:=iS imm1;exact rW 9 [(25,.pointer (some ad2))]<|zZ (hx:=[]) rfl hle rfl (zK rfl) ⟨_,_,_,rfl,rfl,hat2,h3⟩
         · intro imm1 hf le1;refine zE ?_;rintro _ _ ⟨ad21,p31,c31,rfl,rfl,hat21,h31⟩;refine zM<|yG [(25,.pointer (some ad21))] ?_;have hle:=iS imm1;exact xQ 0 hat21 [vI x1.Part] (vI x1.Part) rfl<|zZ (hx:=[]) rfl hle rfl (zK rfl) ⟨rfl,rfl⟩
         · intro imm1 hf le1;refine zE ?_;rintro _ _ ⟨rfl,rfl⟩;refine zE ?_;rintro _ _ ⟨rfl,rfl⟩;refine zM<|yG [(21,vI x.Part),(26,vI x1.Part)] ?_;have hle:=iS imm1;refine rW 11 [(27,.bool (x.Part != x1.Part))] ?_;rw [hc2];exact zZ (hx:=[]) rfl hle rfl (zK rfl) ⟨rfl,rfl⟩
         · intro imm1 hf le1;refine zE ?_;rintro _ _ ⟨rfl,rfl⟩;refine zM<|yG [(27,.bool false)] ?_;have hle:=iS imm1;exact rW 12 [(28,.bool false)]<|zZ (hx:=[]) rfl hle rfl (zK rfl) ⟨rfl,rfl⟩
         · intro imm1 hf le1;refine zE ?_;rintro _ _ ⟨rfl,rfl⟩;refine zE ?_;rintro _ _ ⟨rfl,rfl⟩;refine zE ?_;rintro _ _ ⟨rfl,rfl⟩;refine zM<|yG [(28,.bool false),(29,vS p a0 c),(30,vI i)] ?_;have hle:=iS imm1;have h:=h.mono le1;refine wD rfl rfl h hy2 ?_;intro ad3 ccs2 hat3 hrep2;obtain ⟨v02,rfl,h4⟩:=zG2 hrep2;obtain ⟨p4,c4,rfl⟩:=h4.form;exact zZ (hx:=[]) rfl hle rfl (zK rfl) ⟨_,_,_,rfl,rfl,hat3,h4⟩
         · intro imm1 hf le1;refine zE ?_;rintro _ _ ⟨rfl,rfl⟩;refine zE ?_;rintro _ _ ⟨ad3,p4,c4,rfl,rfl,hat3,h4⟩;refine zM<|yG [(28,.bool false),(31,.pointer (some ad3))] ?_;have hle:=iS imm1;exact rW 16 [(32,.pointer (some (ad3.add 1)))]<|zZ (hx:=[]) rfl hle rfl (zK rfl) ⟨_,_,_,rfl,rfl,hat3,h4⟩
         · intro imm1 hf le1;refine zE ?_;rintro _ _ ⟨rfl,rfl⟩;refine zE ?_;rintro _ _ ⟨ad31,p41,c41,rfl,rfl,hat31,h41⟩;refine zM<|yG [(28,.bool false),(32,.pointer (some (ad31.add 1)))] ?_;have hle:=iS imm1;exact xQ 1 hat31 [vI x2.Stmt] (vI x2.Stmt) rfl<|zZ (hx:=[]) rfl hle rfl (zK rfl) ⟨rfl,rfl⟩
         · intro imm1 hf le1;refine zE ?_;rintro _ _ ⟨rfl,rfl⟩;refine zE ?_;rintro _ _ ⟨rfl,rfl⟩;refine zE ?_;rintro _ _ ⟨rfl,rfl⟩;refine zM<|yG [(28,.bool false),(34,vS p1 b c1),(35,vI i)] ?_;have hle:=iS imm1;have h1:=h1.mono le1;refine wD rfl rfl h1 hy3 ?_;intro ad4 ccs3 hat4 hrep3;obtain ⟨v03,rfl,h5⟩:=zG2 hrep3;obtain ⟨p5,c5,rfl⟩:=h5.form;exact zZ (hx:=[]) rfl hle rfl (zK rfl) ⟨_,_,_,rfl,rfl,hat4,h5⟩
         · intro imm1 hf le1;refine zE ?_;rintro _ _ ⟨rfl,rfl⟩;refine zE ?_;rintro _ _ ⟨ad4,p5,c5,rfl,rfl,hat4,h5⟩;refine zM<|yG [(28,.bool false),(36,.pointer (some ad4))] ?_;have hle:=iS imm1;exact rW 21 [(37,.pointer (some (ad4.add 1)))]<|zZ (hx:=[]) rfl hle rfl (zK rfl) ⟨_,_,_,rfl,rfl,hat4,h5⟩
         · intro imm1 hf le1;refine zE ?_;rintro _ _ ⟨rfl,rfl⟩;refine zE ?_;rintro _ _ ⟨ad41,p51,c51,rfl,rfl,hat41,h51⟩;refine zM<|yG [(28,.bool false),(37,.pointer (some (ad41.add 1)))] ?_;have hle:=iS imm1;exact xQ 1 hat41 [vI x3.Stmt] (vI x3.Stmt) rfl<|zZ (hx:=[]) rfl hle rfl (zK rfl) ⟨rfl,rfl⟩
         · intro imm1 hf le1;refine zE ?_;rintro _ _ ⟨rfl,rfl⟩;refine zE ?_;rintro _ _ ⟨rfl,rfl⟩;refine zE ?_;rintro _ _ ⟨rfl,rfl⟩;refine zM<|yG [(28,.bool false),(33,vI x2.Stmt),(38,vI x3.Stmt)] ?_;have hle:=iS imm1;refine rW 23 [(39,.bool (x2.Stmt != x3.Stmt))] ?_;rw [hc3];exact zZ (hx:=[]) rfl hle rfl (zK rfl) ⟨rfl,rfl⟩
         · intro imm1 hf le1;refine zE ?_;rintro _ _ ⟨rfl,rfl⟩;refine zE ?_;rintro _ _ ⟨rfl,rfl⟩;refine zM<|yG [(28,.bool false),(39,.bool true)] ?_;have hle:=iS imm1;exact rW 24 [(40,.bool true)]<|zZ (hx:=[]) rfl hle rfl (zK rfl) ⟨rfl,rfl⟩
         intro imm1 hf le1;refine zE ?_;rintro _ _ ⟨rfl,rfl⟩;refine zM<|yG [(40,.bool true)] ?_;have hle:=iS imm1;exact rW 25 [(41,.bool true)]<|zZ (hx:=[]) rfl hle rfl (zK rfl) ⟨rfl,rfl⟩
       intro imm02 le1;refine zE ?_;rintro _ _ ⟨rfl,rfl⟩;refine zM<|yG [(0,vS p a0 c),(1,vS p1 b c1),(5,vI i),(54,.bool true)] ?_;have hle:=hle.trans le1;exact yN rfl<|yS [(0,vS p a0 c),(1,vS p1 b c1),(5,vI i),(54,.bool true)]<|yB ⟨_,(zD hM02).symm,hle,rfl,rfl⟩
      | false =>
       have hM03:=zT hc3 hM;obtain ⟨x4,hy4,hM⟩:=zC hM03;obtain ⟨x5,hy5,hM⟩:=zC hM;obtain ⟨y,hy6,hM⟩:=zC hM;refine vC [.p (vS p a0 c) [],.p (vI i) [],.x (fun imm' v hx=>∃ ad p2 c2,v=.pointer (some ad)∧hx=[]∧(At imm' ad (cInst x p2 c2))∧(S4 imm' p2 x.Point c2)),.x (fun imm' v hx=>∃ ad1 p21 c21,v=.pointer (some ad1)∧hx=[]∧(At imm' ad1 (cInst x p21 c21))∧(S4 imm' p21 x.Point c21)),.q (vI x.Part),.p (vS p1 b c1) [],.p (vI i) [],.x (fun imm' v hx=>∃ ad2 p3 c3,v=.pointer (some ad2)∧hx=[]∧(At imm' ad2 (cInst x1 p3 c3))∧(S4 imm' p3 x1.Point c3)),.x (fun imm' v hx=>∃ ad21 p31 c31,v=.pointer (some ad21)∧hx=[]∧(At imm' ad21 (cInst x1 p31 c31))∧(S4 imm' p31 x1.Point c31)),.q (vI x1.Part),.q (.bool false),.q (.bool false),.p (vS p a0 c) [],.p (vI i) [],.x (fun imm' v hx=>∃ ad3 p4 c4,v=.pointer (some ad3)∧hx=[]∧(At imm' ad3 (cInst x2 p4 c4))∧(S4 imm' p4 x2.Point c4)),.x (fun imm' v hx=>∃ ad31 p41 c41,v=.pointer (some (ad31.add 1))∧hx=[]∧(At imm' ad31 (cInst x2 p41 c41))∧(S4 imm' p41 x2.Point c41)),.q (vI x2.Stmt),.p (vS p1 b c1) [],.p (vI i) [],.x (fun imm' v hx=>∃ ad4 p5 c5,v=.pointer (some ad4)∧hx=[]∧(At imm' ad4 (cInst x3 p5 c5))∧(S4 imm' p5 x3.Point c5)),.x (fun imm' v hx=>∃ ad41 p51 c51,v=.pointer (some (ad41.add 1))∧hx=[]∧(At imm' ad41 (cInst x3 p51 c51))∧(S4 imm' p51 x3.Point c51)),.q (vI x3.Stmt),.q (.bool false),.q (.bool false),.q (.bool false),.p (vS p a0 c) [],.p (vI i) [],.x (fun imm' v hx=>∃ ad5 p6 c6,v=.pointer (some ad5)∧hx=[]∧(At imm' ad5 (cInst x4 p6 c6))∧(S4 imm' p6 x4.Point c6)),.x (fun imm' v hx=>∃ ad51 p61 c61,v=.pointer (some (ad51.add 2))∧hx=[]∧(At imm' ad51 (cInst x4 p61 c61))∧(S4 imm' p61 x4.Point c61)),.x (fun imm' v hx=>∃ p611 c611,v=vS p611 x4.Point c611∧hx=[]∧(S4 imm' p611 x4.Point c611)),.p (vS p1 b c1) [],.p (vI i) [],.x (fun imm' v hx=>∃ ad6 p7 c7,v=.pointer (some ad6)∧hx=[]∧(At imm' ad6 (cInst x5 p7 c7))∧(S4 imm' p7 x5.Point c7)),.x (fun imm' v hx=>∃ ad61 p71 c71,v=.pointer (some (ad61.add 2))∧hx=[]∧(At imm' ad61 (cInst x5 p71 c71))∧(S4 imm' p71 x5.Point c71)),.x (fun imm' v hx=>∃ p711 c711,v=vS p711 x5.Point c711∧hx=[]∧(S4 imm' p711 x5.Point c711)),.q (.bool y),.p (.bool (!y)) [],.p (.bool (!y)) []] [[],[],[(0,false),(1,false)],[(2,false)],[(3,false)],[],[],[(5,false),(6,false)],[(7,false)],[(8,false)],[(4,false),(9,false)],[(10,false)],[(11,false)],[(11,false)],[(11,false),(12,false),(13,false)],[(11,false),(14,false)],[(11,false),(15,false)],[(11,false)],[(11,false)],[(11,false),(17,false),(18,false)],[(11,false),(19,false)],[(11,false),(20,false)],[(11,false),(16,false),(21,false)],[(11,false),(22,false)],[(23,false)],[(24,false)],[(24,false)],[(24,false),(25,false),(26,false)],[(24,false),(27,false)],[(24,false),(28,false)],[(24,false)],[(24,false)],[(24,false),(30,false),(31,false)],[(24,false),(32,false)],[(24,false),(33,false)],[(24,false),(29,false),(34,false)],[(24,false),(35,false)],[(24,false),(36,false)]] [] [] [(37,false)] (zL [] rfl (by decide)) ?_ ?_
       · refine Op<|Op<|Ox ?_<|Ox ?_<|Oq ?_<|Op<|Op<|Ox ?_<|Ox ?_<|Oq ?_<|Oq ?_<|Oq ?_<|Op<|Op<|Ox ?_<|Ox ?_<|Oq ?_<|Op<|Op<|Ox ?_<|Ox ?_<|Oq ?_<|Oq ?_<|Oq ?_<|Oq ?_<|Op<|Op<|Ox ?_<|Ox ?_<|Ox ?_<|Op<|Op<|Ox ?_<|Ox ?_<|Ox ?_<|Oq ?_<|Op<|Op<|On
         · intro imm1 hf le1;refine zE ?_;rintro _ _ ⟨rfl,rfl⟩;refine zE ?_;rintro _ _ ⟨rfl,rfl⟩;refine zM<|yG [(17,vS p a0 c),(18,vI i)] ?_;have hle:=iS imm1;have h:=h.mono le1;refine wD rfl rfl h hy ?_;intro ad ccs hat hrep;obtain ⟨v0,rfl,h2⟩:=zG2 hrep;obtain ⟨p2,c2,rfl⟩:=h2.form;exact zZ (hx:=[]) rfl hle rfl (zK rfl) ⟨_,_,_,rfl,rfl,hat,h2⟩
         · intro imm1 hf le1;refine zE ?_;rintro _ _ ⟨ad,p2,c2,rfl,rfl,hat,h2⟩;refine zM<|yG [(19,.pointer (some ad))] ?_;have hle:=iS imm1;exact rW 4 [(20,.pointer (some ad))]<|zZ (hx:=[]) rfl hle rfl (zK rfl) ⟨_,_,_,rfl,rfl,hat,h2⟩
         · intro imm1 hf le1;refine zE ?_;rintro _ _ ⟨ad1,p21,c21,rfl,rfl,hat1,h21⟩;refine zM<|yG [(20,.pointer (some ad1))] ?_;have hle:=iS imm1;exact xQ 0 hat1 [vI x.Part] (vI x.Part) rfl<|zZ (hx:=[]) rfl hle rfl (zK rfl) ⟨rfl,rfl⟩
         · intro imm1 hf le1;refine zE ?_;rintro _ _ ⟨rfl,rfl⟩;refine zE ?_;rintro _ _ ⟨rfl,rfl⟩;refine zM<|yG [(22,vS p1 b c1),(23,vI i)] ?_;have hle:=iS imm1;have h1:=h1.mono le1;refine wD rfl rfl h1 hy1 ?_;intro ad2 ccs1 hat2 hrep1;obtain ⟨v01,rfl,h3⟩:=zG2 hrep1;obtain ⟨p3,c3,rfl⟩:=h3.form;exact zZ (hx:=[]) rfl hle rfl (zK rfl) ⟨_,_,_,rfl,rfl,hat2,h3⟩
         · intro imm1 hf le1;refine zE ?_;rintro _ _ ⟨ad2,p3,c3,rfl,rfl,hat2,h3⟩;refine zM<|yG [(24,.pointer (some ad2))] ?_;have hle:=iS imm1;exact rW 9 [(25,.pointer (some ad2))]<|zZ (hx:=[]) rfl hle rfl (zK rfl) ⟨_,_,_,rfl,rfl,hat2,h3⟩
         · intro imm1 hf le1;refine zE ?_;rintro _ _ ⟨ad21,p31,c31,rfl,rfl,hat21,h31⟩;refine zM<|yG [(25,.pointer (some ad21))] ?_;have hle:=iS imm1;exact xQ 0 hat21 [vI x1.Part] (vI x1.Part) rfl<|zZ (hx:=[]) rfl hle rfl (zK rfl) ⟨rfl,rfl⟩
         · intro imm1 hf le1;refine zE ?_;rintro _ _ ⟨rfl,rfl⟩;refine zE ?_;rintro _ _ ⟨rfl,rfl⟩;refine zM<|yG [(21,vI x.Part),(26,vI x1.Part)] ?_;have hle:=iS imm1;refine rW 11 [(27,.bool (x.Part != x1.Part))] ?_;rw [hc2];exact zZ (hx:=[]) rfl hle rfl (zK rfl) ⟨rfl,rfl⟩
         · intro imm1 hf le1;refine zE ?_;rintro _ _ ⟨rfl,rfl⟩;refine zM<|yG [(27,.bool false)] ?_;have hle:=iS imm1;exact rW 12 [(28,.bool false)]<|zZ (hx:=[]) rfl hle rfl (zK rfl) ⟨rfl,rfl⟩
         · intro imm1 hf le1;refine zE ?_;rintro _ _ ⟨rfl,rfl⟩;refine zE ?_;rintro _ _ ⟨rfl,rfl⟩;refine zE ?_;rintro _ _ ⟨rfl,rfl⟩;refine zM<|yG [(28,.bool false),(29,vS p a0 c),(30,vI i)] ?_;have hle:=iS imm1;have h:=h.mono le1;refine wD rfl rfl h hy2 ?_;intro ad3 ccs2 hat3 hrep2;obtain ⟨v02,rfl,h4⟩:=zG2 hrep2;obtain ⟨p4,c4,rfl⟩:=h4.form;exact zZ (hx:=[]) rfl hle rfl (zK rfl) ⟨_,_,_,rfl,rfl,hat3,h4⟩
         · intro imm1 hf le1;refine zE ?_;rintro _ _ ⟨rfl,rfl⟩;refine zE ?_;rintro _ _ ⟨ad3,p4,c4,rfl,rfl,hat3,h4⟩;refine zM<|yG [(28,.bool false),(31,.pointer (some ad3))] ?_;have hle:=iS imm1;exact rW 16 [(32,.pointer (some (ad3.add 1)))]<|zZ (hx:=[]) rfl hle rfl (zK rfl) ⟨_,_,_,rfl,rfl,hat3,h4⟩
         · intro imm1 hf le1;refine zE ?_;rintro _ _ ⟨rfl,rfl⟩;refine zE ?_;rintro _ _ ⟨ad31,p41,c41,rfl,rfl,hat31,h41⟩;refine zM<|yG [(28,.bool false),(32,.pointer (some (ad31.add 1)))] ?_;have hle:=iS imm1;exact xQ 1 hat31 [vI x2.Stmt] (vI x2.Stmt) rfl<|zZ (hx:=[]) rfl hle rfl (zK rfl) ⟨rfl,rfl⟩
         · intro imm1 hf le1;refine zE ?_;rintro _ _ ⟨rfl,rfl⟩;refine zE ?_;rintro _ _ ⟨rfl,rfl⟩;refine zE ?_;rintro _ _ ⟨rfl,rfl⟩;refine zM<|yG [(28,.bool false),(34,vS p1 b c1),(35,vI i)] ?_;have hle:=iS imm1;have h1:=h1.mono le1;refine wD rfl rfl h1 hy3 ?_;intro ad4 ccs3 hat4 hrep3;obtain ⟨v03,rfl,h5⟩:=zG2 hrep3;obtain ⟨p5,c5,rfl⟩:=h5.form;exact zZ (hx:=[]) rfl hle rfl (zK rfl) ⟨_,_,_,rfl,rfl,hat4,h5⟩
         · intro imm1 hf le1;refine zE ?_;rintro _ _ ⟨rfl,rfl⟩;refine zE ?_;rintro _ _ ⟨ad4,p5,c5,rfl,rfl,hat4,h5⟩;refine zM<|yG [(28,.bool false),(36,.pointer (some ad4))] ?_;have hle:=iS imm1;exact rW 21 [(37,.pointer (some (ad4.add 1)))]<|zZ (hx:=[]) rfl hle rfl (zK rfl) ⟨_,_,_,rfl,rfl,hat4,h5⟩
         · intro imm1 hf le1;refine zE ?_;rintro _ _ ⟨rfl,rfl⟩;refine zE ?_;rintro _ _ ⟨ad41,p51,c51,rfl,rfl,hat41,h51⟩;refine zM<|yG [(28,.bool false),(37,.pointer (some (ad41.add 1)))] ?_;have hle:=iS imm1;exact xQ 1 hat41 [vI x3.Stmt] (vI x3.Stmt) rfl<|zZ (hx:=[]) rfl hle rfl (zK rfl) ⟨rfl,rfl⟩
         · intro imm1 hf le1;refine zE ?_;rintro _ _ ⟨rfl,rfl⟩;refine zE ?_;rintro _ _ ⟨rfl,rfl⟩;refine zE ?_;rintro _ _ ⟨rfl,rfl⟩;refine zM<|yG [(28,.bool false),(33,vI x2.Stmt),(38,vI x3.Stmt)] ?_;have hle:=iS imm1;refine rW 23 [(39,.bool (x2.Stmt != x3.Stmt))] ?_;rw [hc3];exact zZ (hx:=[]) rfl hle rfl (zK rfl) ⟨rfl,rfl⟩
         · intro imm1 hf le1;refine zE ?_;rintro _ _ ⟨rfl,rfl⟩;refine zE ?_;rintro _ _ ⟨rfl,rfl⟩;refine zM<|yG [(28,.bool false),(39,.bool false)] ?_;have hle:=iS imm1;exact rW 24 [(40,.bool false)]<|zZ (hx:=[]) rfl hle rfl (zK rfl) ⟨rfl,rfl⟩
         · intro imm1 hf le1;refine zE ?_;rintro _ _ ⟨rfl,rfl⟩;refine zM<|yG [(40,.bool false)] ?_;have hle:=iS imm1;exact rW 25 [(41,.bool false)]<|zZ (hx:=[]) rfl hle rfl (zK rfl) ⟨rfl,rfl⟩
         · intro imm1 hf le1;refine zE ?_;rintro _ _ ⟨rfl,rfl⟩;refine zE ?_;rintro _ _ ⟨rfl,rfl⟩;refine zE ?_;rintro _ _ ⟨rfl,rfl⟩;refine zM<|yG [(41,.bool false),(42,vS p a0 c),(43,vI i)] ?_;have hle:=iS imm1;have h:=h.mono le1;refine wD rfl rfl h hy4 ?_;intro ad5 ccs4 hat5 hrep4;obtain ⟨v04,rfl,h6⟩:=zG2 hrep4;obtain ⟨p6,c6,rfl⟩:=h6.form;exact zZ (hx:=[]) rfl hle rfl (zK rfl) ⟨_,_,_,rfl,rfl,hat5,h6⟩
         · intro imm1 hf le1;refine zE ?_;rintro _ _ ⟨rfl,rfl⟩;refine zE ?_;rintro _ _ ⟨ad5,p6,c6,rfl,rfl,hat5,h6⟩;refine zM<|yG [(41,.bool false),(44,.pointer (some ad5))] ?_;have hle:=iS imm1;exact rW 29 [(45,.pointer (some (ad5.add 2)))]<|zZ (hx:=[]) rfl hle rfl (zK rfl) ⟨_,_,_,rfl,rfl,hat5,h6⟩
         · intro imm1 hf le1;refine zE ?_;rintro _ _ ⟨rfl,rfl⟩;refine zE ?_;rintro _ _ ⟨ad51,p61,c61,rfl,rfl,hat51,h61⟩;refine zM<|yG [(41,.bool false),(45,.pointer (some (ad51.add 2)))] ?_;have hle:=iS imm1;exact xQ 2 hat51 [vS p61 x4.Point c61] (vS p61 x4.Point c61) rfl<|zZ (hx:=[]) rfl hle rfl (zK rfl) ⟨_,_,rfl,rfl,h61⟩
         · intro imm1 hf le1;refine zE ?_;rintro _ _ ⟨rfl,rfl⟩;refine zE ?_;rintro _ _ ⟨rfl,rfl⟩;refine zE ?_;rintro _ _ ⟨rfl,rfl⟩;refine zM<|yG [(41,.bool false),(47,vS p1 b c1),(48,vI i)] ?_;have hle:=iS imm1;have h1:=h1.mono le1;refine wD rfl rfl h1 hy5 ?_;intro ad6 ccs5 hat6 hrep5;obtain ⟨v05,rfl,h7⟩:=zG2 hrep5;obtain ⟨p7,c7,rfl⟩:=h7.form;exact zZ (hx:=[]) rfl hle rfl (zK rfl) ⟨_,_,_,rfl,rfl,hat6,h7⟩
         · intro imm1 hf le1;refine zE ?_;rintro _ _ ⟨rfl,rfl⟩;refine zE ?_;rintro _ _ ⟨ad6,p7,c7,rfl,rfl,hat6,h7⟩;refine zM<|yG [(41,.bool false),(49,.pointer (some ad6))] ?_;have hle:=iS imm1;exact rW 34 [(50,.pointer (some (ad6.add 2)))]<|zZ (hx:=[]) rfl hle rfl (zK rfl) ⟨_,_,_,rfl,rfl,hat6,h7⟩
         · intro imm1 hf le1;refine zE ?_;rintro _ _ ⟨rfl,rfl⟩;refine zE ?_;rintro _ _ ⟨ad61,p71,c71,rfl,rfl,hat61,h71⟩;refine zM<|yG [(41,.bool false),(50,.pointer (some (ad61.add 2)))] ?_;have hle:=iS imm1;exact xQ 2 hat61 [vS p71 x5.Point c71] (vS p71 x5.Point c71) rfl<|zZ (hx:=[]) rfl hle rfl (zK rfl) ⟨_,_,rfl,rfl,h71⟩
         intro imm1 hf le1;refine zE ?_;rintro _ _ ⟨rfl,rfl⟩;refine zE ?_;rintro _ _ ⟨p611,c611,rfl,rfl,h611⟩;refine zE ?_;rintro _ _ ⟨p711,c711,rfl,rfl,h711⟩;refine zM<|yG [(41,.bool false),(46,vS p611 x4.Point c611),(51,vS p711 x5.Point c711)] ?_;have hle:=iS imm1;refine yQ (zHm x4.Point x5.Point _ hy6 h611 h711) ?_;rintro imm03 hs2 v2 k2 le2 - ⟨v06,rfl,rfl,rfl⟩ -;have hle:=hle.trans le2;exact zZ (hx:=[]) rfl hle rfl (zK rfl) ⟨rfl,rfl⟩
       intro imm04 le3;refine zE ?_;rintro _ _ ⟨rfl,rfl⟩;refine zM<|yG [(0,vS p a0 c),(1,vS p1 b c1),(5,vI i),(54,.bool (!y))] ?_;have hle:=hle.trans le3;exact yN rfl<|yS [(0,vS p a0 c),(1,vS p1 b c1),(5,vI i),(54,.bool (!y))]<|yB ⟨_,(zD hM).symm,hle,rfl,rfl⟩
   rintro imm0 hs2 m2 ⟨t54,heq,le4,rfl,rfl⟩;subst o0;have h:=h.mono le4;have h1:=h1.mono le4;have hle:=hle.trans le4;refine zF<|yO hMc ?_ ?_
   · intro hc4 hM;exact zG<|zB<|yA [] [(4,.bool false)]<|zF<|yI<|yF<|zP<|zP<|hr _ _ _ _ (zD hM).symm hle ⟨_,_,(.tmp rfl ResV.nil),zX,⟨_,rfl,rfl,rfl⟩⟩
   intro hc4 hM;exact yE<|zY<|zF<|zB<|yA [] [(5,vI (W (i + 1)))]<|xB<|vG [(0,vS p a0 c),(1,vS p1 b c1),(5,vI (W (i + 1)))]<|ih (W (i + 1)) _ hM hle h h1 hg ho hx hr
 intro hc1 hM;exact yZ<|zS<|zS<|yS []<|hx _  (zD hM).symm hle
def M.laws_lnInstances (a0:(List zU)) (b:(List zU)):Option (Bool):=do
 if ((a0.length:Int) != (b.length:Int)) then
  pure false
 else
  match←M.laws_lnInstances_l1 a0 b 0 with
  | .ret r0=>pure r0
  | .done _ =>
   pure true
theorem laws_lnInstances_ok:∀ (a0:(List zU)) (b:(List zU)) r,M.laws_lnInstances a0 b=some r→∀ {imm:Imm}{p c p1 c1},(S4 imm p a0 c)→(S4 imm p1 b c1)→Ret Tryz.prog 24 [vS p a0 c,vS p1 b c1] imm [] (laws_lnInstances_post  r):=by
 intro a0 b r hM imm p c p1 c1 h h1;unfold M.laws_lnInstances at hM;refine yH (fn:=Tryz.f24) (c:=(bodyOf Tryz.f24)) Tryz.func24 rfl rfl ?_;rintro B - -;refine zG<|zB<|yA [] []<|zF<|zG<|zG<|zB<|yA [] [(10,.bool ((a0.length:Int) != (b.length:Int)))]<|zF<|yO hM ?_ ?_
 · intro hc hM;refine zG<|zB<|yA [] [(4,.bool false)]<|zF<|yI<|zP ?_;obtain rfl:=zD hM;exact yP ⟨_,_,(.tmp rfl ResV.nil),zX,⟨_,rfl,rfl,rfl⟩⟩
 intro hc hM;refine yE<|zF<|zG<|zG<|zB<|yA [] [(5,vI 0)]<|zF<|yC<|vG [(0,vS p a0 c),(1,vS p1 b c1),(5,vI 0)] ?_;obtain ⟨o01,ho01,hMl⟩:=zC hM;refine laws_lnInstances_l1_ok a0 b 0 o01 ho01 iR h h1 (fun _ _ _ h=>h) (fun _ _ h=>h) ?_ ?_
 · intro imm05  heq1 le5;subst o01;refine yD<|zF<|zG<|zB<|yA [] [(4,.bool true)]<|zF<|yI ?_;obtain rfl:=zD hMl;exact yP ⟨_,_,(.tmp rfl ResV.nil),zX,⟨_,rfl,rfl,rfl⟩⟩
 intro r0 imm9 hs9 m9 heq9 le9 hrs9;subst heq9;refine yF<|zP ?_;obtain rfl:=zD hMl;exact yP hrs9
end Go.LN
namespace Go.LN
open Go.Proofs
set_option maxRecDepth 20000
def laws_FnProgramInstances_post (r:Bool):KT:=fun kk imm' hs' v=>
  ∃ v0,hs'=[]∧v=tupV [v0]∧v0=.bool r
def M.laws_FnProgramInstances_l2 (y4:Int) (y6:(List Int)) (k0:Int):Option (Out Unit (Bool)):=do
 if (decide (k0 < (y6.length:Int))) then
  let t85←(do
    let x2←idx y6 k0
    if (decide (x2 < 0)) then
     pure true
    else
     let x3←idx y6 k0
     pure (decide (x3 ≥ y4))
      : Option Bool)
  if t85 then
   pure (.ret false)
  else
   M.laws_FnProgramInstances_l2 y4 y6 (W (k0 + 1))
 else
  pure (.done ())
 partial_fixpoint
theorem laws_FnProgramInstances_l2_ok (y4:Int) (y6:(List Int)):∀ (k0:Int) (o:Out Unit (Bool)),M.laws_FnProgramInstances_l2 y4 y6 k0=some o→∀ {B}{imm0 imm:Imm}{Q}{y:zW}{y1:(List zU)}{i:Int}{p1 c1 p2 c2}{b:Nat}{p3 c3 p6 c6},imm0.le imm→(S4 imm p3 y1 c3)→(S4 imm p6 y6 c6)→(S4 imm p1 y.Arrays c1)→(S4 imm p2 y.Parts c2)→(∀ gl a w,¬Q (.goto gl) a w)→(∀ a w,¬Q .outgrown a w)→(∀ (imm':Imm) ,o=(.done ())→imm0.le imm'→T 89 B Q (.exit 2) imm' [hB b (cProg y p1 c1 p2 c2)] [(3,vP b 0),(4,vS p3 y1 c3),(5,vI y4),(6,vI i)])→(∀ r imm' hs' m',o=(.ret r)→imm0.le imm'→RS Tryz.prog Tryz.f11 B (laws_FnProgramInstances_post  r) imm' hs' m'→T 89 B Q .ret imm' hs' m')→J Tryz.prog 89 B (nav (bodyOf Tryz.f11) [1,1,1,1,1,1,0,1,0,0,1,0,0,1,1,1,1,0]) Q imm [hB b (cProg y p1 c1 p2 c2)] [(3,vP b 0),(4,vS p3 y1 c3),(5,vI y4),(6,vI i),(8,vS p6 y6 c6),(11,vI k0)]:=by
 refine M.laws_FnProgramInstances_l2.partial_correctness y4 y6 _ ?_;intro self ih k0 o hM B imm0 imm Q y y1 i p1 c1 p2 c2 b p3 c3 p6 c6 hle h4 h9 h2 h3 hg ho hx hr;refine xA hg ho<|zG<|zG<|zB<|yA [] [(70,.bool (decide (k0 < (y6.length:Int))))]<|zF<|yO hM ?_ ?_
 · intro hc7 hM;refine yE<|zF<|zG<|yC<|zG ?_;obtain ⟨o01,ho01,hMc1⟩:=zC hM;refine yT (fun imm' hs' m'=>∃ (t85:Bool),o01=t85∧imm.le imm'∧hs'=[hB b (cProg y p1 c1 p2 c2)]∧m'=[(3,vP b 0),(4,vS p3 y1 c3),(5,vI y4),(6,vI i),(8,vS p6 y6 c6),(11,vI k0),(85,.bool t85)]) ?_ ?_
   · have hle:=iS imm;refine zB<|yK 2 [] [(73,vS p6 y6 c6),(74,vI k0)] ?_;obtain ⟨x2,hy9,hM⟩:=zC ho01;refine wD rfl rfl h9 hy9 ?_;intro ad2 ccs2 hat2 hrep2;obtain rfl:=hrep2;refine xQ 0 hat2 [vI x2] (vI x2) rfl<|yK 6 [] [(78,.bool (decide (x2 < 0)))] ?_;cases hc8:(decide (x2 < 0)) with
     | true =>
      have hM06:=zV hc8 hM
      try rw [hc8]
      exact yA [] [(85,.bool true)]<|yS [(3,vP b 0),(4,vS p3 y1 c3),(5,vI y4),(6,vI i),(8,vS p6 y6 c6),(11,vI k0),(85,.bool true)]<|yB ⟨_,(zD hM06).symm,hle,rfl,rfl⟩
     | false =>
      have hM07:=zT hc8 hM
      try rw [hc8]
      refine yK 8 [] [(79,vS p6 y6 c6),(80,vI k0)] ?_;obtain ⟨x3,hy10,hM⟩:=zC hM07;refine wD rfl rfl h9 hy10 ?_;intro ad3 ccs3 hat3 hrep3;obtain rfl:=hrep3;exact xQ 0 hat3 [vI x3] (vI x3) rfl<|yA [] [(85,.bool (decide (x3 ≥ y4)))]<|yS [(3,vP b 0),(4,vS p3 y1 c3),(5,vI y4),(6,vI i),(8,vS p6 y6 c6),(11,vI k0),(85,.bool (decide (x3 ≥ y4)))]<|yB ⟨_,(zD hM).symm,hle,rfl,rfl⟩
   rintro imm012 hs2 m2 ⟨t85,heq1,le12,rfl,rfl⟩;subst o01;have h4:=h4.mono le12;have h9:=h9.mono le12;have h2:=h2.mono le12;have h3:=h3.mono le12;have hle:=hle.trans le12;refine zF<|yO hMc1 ?_ ?_
   · intro hc9 hM;exact zG<|zB<|yA [] [(2,.bool false)]<|zF<|yI<|yF<|zP<|zP<|hr _ _ _ _ (zD hM).symm hle ⟨_,_,(.tmp rfl ResV.nil),zX,⟨_,rfl,rfl,rfl⟩⟩
   intro hc9 hM;exact yE<|zY<|zF<|zB<|yA [] [(11,vI (W (k0 + 1)))]<|xB<|vG [(3,vP b 0),(4,vS p3 y1 c3),(5,vI y4),(6,vI i),(8,vS p6 y6 c6),(11,vI (W (k0 + 1)))]<|ih (W (k0 + 1)) _ hM hle h4 h9 h2 h3 hg ho hx hr
 intro hc7 hM;exact yZ<|zS<|zS<|yS [(3,vP b 0),(4,vS p3 y1 c3),(5,vI y4),(6,vI i)]<|hx _  (zD hM).symm hle
def M.laws_FnProgramInstances_l1 (y:zW) (y1:(List zU)) (y4:Int) (i:Int):Option (Out Unit (Bool)):=do
 if (decide (i < (y1.length:Int))) then
  let x←idx y1 i
  let (y6,y7,y8)←kT y x
  let t66←(do
    if (!y8) then
     pure true
    else
     if (decide (y7 < 0)) then
      pure true
     else
      if (decide (y7 ≥ y4)) then
       pure true
      else
       let x1←idx y.Parts x.Part
       let y9←gA x1.Nest x.Point
       pure (!y9)
      : Option Bool)
  if t66 then
   pure (.ret false)
  else
   match←M.laws_FnProgramInstances_l2 y4 y6 0 with
   | .ret r0=>pure (.ret r0)
   | .done _ =>
    M.laws_FnProgramInstances_l1 y y1 y4 (W (i + 1))
 else
  pure (.done ())
 partial_fixpoint
theorem laws_FnProgramInstances_l1_ok (y:zW) (y1:(List zU)) (y4:Int):∀ (i:Int) (o:Out Unit (Bool)),M.laws_FnProgramInstances_l1 y y1 y4 i=some o→∀ {B}{imm0 imm:Imm}{Q p1 c1 p2 c2}{b:Nat}{p3 c3},imm0.le imm→(S4 imm p3 y1 c3)→(S4 imm p1 y.Arrays c1)→(S4 imm p2 y.Parts c2)→(∀ gl a w,¬Q (.goto gl) a w)→(∀ a w,¬Q .outgrown a w)→(∀ (imm':Imm) ,o=(.done ())→imm0.le imm'→T 89 B Q (.exit 0) imm' [] [(4,vS p3 y1 c3)])→(∀ r imm' hs' m',o=(.ret r)→imm0.le imm'→RS Tryz.prog Tryz.f11 B (laws_FnProgramInstances_post  r) imm' hs' m'→T 89 B Q .ret imm' hs' m')→J Tryz.prog 89 B (nav (bodyOf Tryz.f11) [1,1,1,1,1,1,0,1,0]) Q imm [hB b (cProg y p1 c1 p2 c2)] [(3,vP b 0),(4,vS p3 y1 c3),(5,vI y4),(6,vI i)]:=by
 refine M.laws_FnProgramInstances_l1.partial_correctness y y1 y4 _ ?_;intro self ih i o hM B imm0 imm Q p1 c1 p2 c2 b p3 c3 hle h4 h2 h3 hg ho hx hr;refine xA hg ho<|zG<|zG<|zB<|yA [] [(29,.bool (decide (i < (y1.length:Int))))]<|zF<|yO hM ?_ ?_
 · intro hc2 hM;refine yE<|zF<|zG<|yC<|zG<|zB<|yK 2 [] [(32,vS p3 y1 c3),(33,vI i)] ?_;obtain ⟨x,hy5,hM⟩:=zC hM;refine wD rfl rfl h4 hy5 ?_;intro ad ccs hat hrep;obtain ⟨v07,rfl,h8⟩:=zG2 hrep;obtain ⟨p5,c5,rfl⟩:=h8.form;refine xQ 0 hat (cInst x p5 c5) (vA (cInst x p5 c5)) rfl<|uB [vI 0,vI 0,z0] ?_;intro b1 hb1;refine xI 0 (cInst x p5 c5) [hB b1 (cInst x p5 c5),hB b (cProg y p1 c1 p2 c2)] rfl rfl rfl rfl<|yN rfl<|zF<|zG<|zB<|yK 2 [1,0] [(37,vA (cProg y p1 c1 p2 c2)),(38,vA (cInst x p5 c5))] ?_;obtain ⟨⟨y6,y7,y8⟩,hy6,hM⟩:=zC hM;refine yQ (zF5 y x _ hy6 h2 h3 h8) ?_;rintro imm05 hs2 v2 k2 le5 - ⟨v08,v09,v010,rfl,rfl,h9,rfl,rfl⟩ -;have h4:=h4.mono le5;have h8:=h8.mono le5;have h2:=h2.mono le5;have h3:=h3.mono le5;have hle:=hle.trans le5;obtain ⟨p6,c6,rfl⟩:=h9.form;refine yA [] [(8,vS p6 y6 c6),(9,vI y7),(10,.bool y8)]<|zF<|zG<|zG ?_;obtain ⟨o0,ho0,hMc⟩:=zC hM;refine yT (fun imm' hs' m'=>∃ (t66:Bool),o0=t66∧imm05.le imm'∧hs'=[hB b (cProg y p1 c1 p2 c2)]∧m'=[(3,vP b 0),(4,vS p3 y1 c3),(5,vI y4),(6,vI i),(8,vS p6 y6 c6),(66,.bool t66)]) ?_ ?_
   · have hle:=iS imm05;cases hc3:(!y8) with
     | true =>
      have hM0:=zV hc3 ho0;refine vC [.p (.bool y8) [],.q (.bool true),.q (.bool true),.p undef [],.p undef [],.p (.bool true) [],.p (.bool true) [],.p undef [],.p undef [],.p undef [],.p (.bool true) [],.p (.bool true) [],.p undef [],.p undef [],.p undef [],.p undef [],.p undef [],.p undef [],.p undef [],.p undef [],.p undef [],.p undef [],.p undef [],.p (.bool true) []] [[],[(0,false)],[(1,false)],[(2,false)],[(2,false),(3,false)],[(2,false),(4,false)],[(5,false)],[(6,false)],[(6,false)],[(6,false),(7,false),(8,false)],[(6,false),(9,false)],[(10,false)],[(11,false)],[(11,false),(12,false)],[(11,false)],[(11,false),(14,false)],[(11,false),(13,false),(15,false)],[(11,false),(16,false)],[(11,false),(17,false)],[(11,false)],[(11,false),(19,false)],[(11,false),(18,false),(20,false)],[(11,false),(21,false)],[(11,false),(22,false)]] [hB b1 (cInst x p5 c5),hB b (cProg y p1 c1 p2 c2)] [] [(23,false)] (zL [0,1] rfl (by decide)) ?_ ?_
      · refine Op<|Oq ?_<|Oq ?_<|Op<|Op<|Op<|Op<|Op<|Op<|Op<|Op<|Op<|Op<|Op<|Op<|Op<|Op<|Op<|Op<|Op<|Op<|Op<|Op<|Op<|On
        · intro imm1 hf le1;refine zE ?_;rintro _ _ ⟨rfl,rfl⟩;refine zM<|yG [(43,.bool y8)] ?_;have hle:=iS imm1;refine rW 2 [(44,.bool (!y8))] ?_;rw [hc3];exact zZ (hx:=[]) rfl hle rfl (zK rfl) ⟨rfl,rfl⟩
        intro imm1 hf le1;refine zE ?_;rintro _ _ ⟨rfl,rfl⟩;refine zM<|yG [(44,.bool true)] ?_;have hle:=iS imm1;exact rW 3 [(45,.bool true)]<|zZ (hx:=[]) rfl hle rfl (zK rfl) ⟨rfl,rfl⟩
      intro imm07 le6;refine zE ?_;rintro _ _ ⟨rfl,rfl⟩;refine zM<|yG [(3,vP b 0),(4,vS p3 y1 c3),(5,vI y4),(6,vI i),(8,vS p6 y6 c6),(66,.bool true)] ?_;have hle:=hle.trans le6;exact yN rfl<|wB (zL [1] rfl (by decide))<|yS [(3,vP b 0),(4,vS p3 y1 c3),(5,vI y4),(6,vI i),(8,vS p6 y6 c6),(66,.bool true)]<|yB ⟨_,(zD hM0).symm,hle,rfl,rfl⟩
     | false =>
      have hM01:=zT hc3 ho0;cases hc4:(decide (y7 < 0)) with
      | true =>
       have hM02:=zV hc4 hM01;refine vC [.p (.bool y8) [],.q (.bool false),.q (.bool false),.p (vI y7) [],.q (.bool true),.q (.bool true),.q (.bool true),.p undef [],.p undef [],.p undef [],.p (.bool true) [],.p (.bool true) [],.p undef [],.p undef [],.p undef [],.p undef [],.p undef [],.p undef [],.p undef [],.p undef [],.p undef [],.p undef [],.p undef [],.p (.bool true) []] [[],[(0,false)],[(1,false)],[(2,false)],[(2,false),(3,false)],[(2,false),(4,false)],[(5,false)],[(6,false)],[(6,false)],[(6,false),(7,false),(8,false)],[(6,false),(9,false)],[(10,false)],[(11,false)],[(11,false),(12,false)],[(11,false)],[(11,false),(14,false)],[(11,false),(13,false),(15,false)],[(11,false),(16,false)],[(11,false),(17,false)],[(11,false)],[(11,false),(19,false)],[(11,false),(18,false),(20,false)],[(11,false),(21,false)],[(11,false),(22,false)]] [hB b1 (cInst x p5 c5),hB b (cProg y p1 c1 p2 c2)] [] [(23,false)] (zL [0,1] rfl (by decide)) ?_ ?_
       · refine Op<|Oq ?_<|Oq ?_<|Op<|Oq ?_<|Oq ?_<|Oq ?_<|Op<|Op<|Op<|Op<|Op<|Op<|Op<|Op<|Op<|Op<|Op<|Op<|Op<|Op<|Op<|Op<|Op<|On
         · intro imm1 hf le1;refine zE ?_;rintro _ _ ⟨rfl,rfl⟩;refine zM<|yG [(43,.bool y8)] ?_;have hle:=iS imm1;refine rW 2 [(44,.bool (!y8))] ?_;rw [hc3];exact zZ (hx:=[]) rfl hle rfl (zK rfl) ⟨rfl,rfl⟩
         · intro imm1 hf le1;refine zE ?_;rintro _ _ ⟨rfl,rfl⟩;refine zM<|yG [(44,.bool false)] ?_;have hle:=iS imm1;exact rW 3 [(45,.bool false)]<|zZ (hx:=[]) rfl hle rfl (zK rfl) ⟨rfl,rfl⟩
         · intro imm1 hf le1;refine zE ?_;rintro _ _ ⟨rfl,rfl⟩;refine zE ?_;rintro _ _ ⟨rfl,rfl⟩;refine zM<|yG [(45,.bool false),(46,vI y7)] ?_;have hle:=iS imm1;refine rW 5 [(47,.bool (decide (y7 < 0)))] ?_;rw [hc4];exact zZ (hx:=[]) rfl hle rfl (zK rfl) ⟨rfl,rfl⟩
         · intro imm1 hf le1;refine zE ?_;rintro _ _ ⟨rfl,rfl⟩;refine zE ?_;rintro _ _ ⟨rfl,rfl⟩;refine zM<|yG [(45,.bool false),(47,.bool true)] ?_;have hle:=iS imm1;exact rW 6 [(48,.bool true)]<|zZ (hx:=[]) rfl hle rfl (zK rfl) ⟨rfl,rfl⟩
         intro imm1 hf le1;refine zE ?_;rintro _ _ ⟨rfl,rfl⟩;refine zM<|yG [(48,.bool true)] ?_;have hle:=iS imm1;exact rW 7 [(49,.bool true)]<|zZ (hx:=[]) rfl hle rfl (zK rfl) ⟨rfl,rfl⟩
       intro imm08 le7;refine zE ?_;rintro _ _ ⟨rfl,rfl⟩;refine zM<|yG [(3,vP b 0),(4,vS p3 y1 c3),(5,vI y4),(6,vI i),(8,vS p6 y6 c6),(66,.bool true)] ?_;have hle:=hle.trans le7;exact yN rfl<|wB (zL [1] rfl (by decide))<|yS [(3,vP b 0),(4,vS p3 y1 c3),(5,vI y4),(6,vI i),(8,vS p6 y6 c6),(66,.bool true)]<|yB ⟨_,(zD hM02).symm,hle,rfl,rfl⟩
      | false =>
       have hM03:=zT hc4 hM01;cases hc5:(decide (y7 ≥ y4)) with
       | true =>
        have hM04:=zV hc5 hM03;refine vC [.p (.bool y8) [],.q (.bool false),.q (.bool false),.p (vI y7) [],.q (.bool false),.q (.bool false),.q (.bool false),.p (vI y7) [],.p (vI y4) [],.q (.bool true),.q (.bool true),.q (.bool true),.p undef [],.p undef [],.p undef [],.p undef [],.p undef [],.p undef [],.p undef [],.p undef [],.p undef [],.p undef [],.p undef [],.p (.bool true) []] [[],[(0,false)],[(1,false)],[(2,false)],[(2,false),(3,false)],[(2,false),(4,false)],[(5,false)],[(6,false)],[(6,false)],[(6,false),(7,false),(8,false)],[(6,false),(9,false)],[(10,false)],[(11,false)],[(11,false),(12,false)],[(11,false)],[(11,false),(14,false)],[(11,false),(13,false),(15,false)],[(11,false),(16,false)],[(11,false),(17,false)],[(11,false)],[(11,false),(19,false)],[(11,false),(18,false),(20,false)],[(11,false),(21,false)],[(11,false),(22,false)]] [hB b1 (cInst x p5 c5),hB b (cProg y p1 c1 p2 c2)] [] [(23,false)] (zL [0,1] rfl (by decide)) ?_ ?_
        · refine Op<|Oq ?_<|Oq ?_<|Op<|Oq ?_<|Oq ?_<|Oq ?_<|Op<|Op<|Oq ?_<|Oq ?_<|Oq ?_<|Op<|Op<|Op<|Op<|Op<|Op<|Op<|Op<|Op<|Op<|Op<|Op<|On
          · intro imm1 hf le1;refine zE ?_;rintro _ _ ⟨rfl,rfl⟩;refine zM<|yG [(43,.bool y8)] ?_;have hle:=iS imm1;refine rW 2 [(44,.bool (!y8))] ?_;rw [hc3];exact zZ (hx:=[]) rfl hle rfl (zK rfl) ⟨rfl,rfl⟩
          · intro imm1 hf le1;refine zE ?_;rintro _ _ ⟨rfl,rfl⟩;refine zM<|yG [(44,.bool false)] ?_;have hle:=iS imm1;exact rW 3 [(45,.bool false)]<|zZ (hx:=[]) rfl hle rfl (zK rfl) ⟨rfl,rfl⟩
          · intro imm1 hf le1;refine zE ?_;rintro _ _ ⟨rfl,rfl⟩;refine zE ?_;rintro _ _ ⟨rfl,rfl⟩;refine zM<|yG [(45,.bool false),(46,vI y7)] ?_;have hle:=iS imm1;refine rW 5 [(47,.bool (decide (y7 < 0)))] ?_;rw [hc4];exact zZ (hx:=[]) rfl hle rfl (zK rfl) ⟨rfl,rfl⟩
          · intro imm1 hf le1;refine zE ?_;rintro _ _ ⟨rfl,rfl⟩;refine zE ?_;rintro _ _ ⟨rfl,rfl⟩;refine zM<|yG [(45,.bool false),(47,.bool false)] ?_;have hle:=iS imm1;exact rW 6 [(48,.bool false)]<|zZ (hx:=[]) rfl hle rfl (zK rfl) ⟨rfl,rfl⟩
          · intro imm1 hf le1;refine zE ?_;rintro _ _ ⟨rfl,rfl⟩;refine zM<|yG [(48,.bool false)] ?_;have hle:=iS imm1;exact rW 7 [(49,.bool false)]<|zZ (hx:=[]) rfl hle rfl (zK rfl) ⟨rfl,rfl⟩
          · intro imm1 hf le1;refine zE ?_;rintro _ _ ⟨rfl,rfl⟩;refine zE ?_;rintro _ _ ⟨rfl,rfl⟩;refine zE ?_;rintro _ _ ⟨rfl,rfl⟩;refine zM<|yG [(49,.bool false),(50,vI y7),(51,vI y4)] ?_;have hle:=iS imm1;refine rW 10 [(52,.bool (decide (y7 ≥ y4)))] ?_;rw [hc5];exact zZ (hx:=[]) rfl hle rfl (zK rfl) ⟨rfl,rfl⟩
          · intro imm1 hf le1;refine zE ?_;rintro _ _ ⟨rfl,rfl⟩;refine zE ?_;rintro _ _ ⟨rfl,rfl⟩;refine zM<|yG [(49,.bool false),(52,.bool true)] ?_;have hle:=iS imm1;exact rW 11 [(53,.bool true)]<|zZ (hx:=[]) rfl hle rfl (zK rfl) ⟨rfl,rfl⟩
          intro imm1 hf le1;refine zE ?_;rintro _ _ ⟨rfl,rfl⟩;refine zM<|yG [(53,.bool true)] ?_;have hle:=iS imm1;exact rW 12 [(54,.bool true)]<|zZ (hx:=[]) rfl hle rfl (zK rfl) ⟨rfl,rfl⟩
        intro imm09 le8;refine zE ?_;rintro _ _ ⟨rfl,rfl⟩;refine zM<|yG [(3,vP b 0),(4,vS p3 y1 c3),(5,vI y4),(6,vI i),(8,vS p6 y6 c6),(66,.bool true)] ?_;have hle:=hle.trans le8;exact yN rfl<|wB (zL [1] rfl (by decide))<|yS [(3,vP b 0),(4,vS p3 y1 c3),(5,vI y4),(6,vI i),(8,vS p6 y6 c6),(66,.bool true)]<|yB ⟨_,(zD hM04).symm,hle,rfl,rfl⟩
       | false =>
        have hM05:=zT hc5 hM03;obtain ⟨x1,hy7,hM⟩:=zC hM05;obtain ⟨y9,hy8,hM⟩:=zC hM;refine vC [.p (.bool y8) [],.q (.bool false),.q (.bool false),.p (vI y7) [],.q (.bool false),.q (.bool false),.q (.bool false),.p (vI y7) [],.p (vI y4) [],.q (.bool false),.q (.bool false),.q (.bool false),.p (vP b 1) [],.p (vS p2 y.Parts c2) [1],.p (vP b1 0) [],.p (vI x.Part) [0],.x (fun imm' v hx=>∃ ad1 p7 c7 p8 c8,v=.pointer (some ad1)∧hx=[]∧(At imm' ad1 (cPart x1 p7 c7 p8 c8))∧(S4 imm' p7 x1.Nest c7)∧(S4 imm' p8 x1.Body c8)),.x (fun imm' v hx=>∃ ad11 p71 c71 p81 c81,v=.pointer (some ad11)∧hx=[]∧(At imm' ad11 (cPart x1 p71 c71 p81 c81))∧(S4 imm' p71 x1.Nest c71)∧(S4 imm' p81 x1.Body c81)),.x (fun imm' v hx=>∃ p711 c711,v=vS p711 x1.Nest c711∧hx=[]∧(S4 imm' p711 x1.Nest c711)),.p (vP b1 2) [],.p (vS p5 x.Point c5) [0],.q (.bool y9),.p (.bool (!y9)) [],.p (.bool (!y9)) []] [[],[(0,false)],[(1,false)],[(2,false)],[(2,false),(3,false)],[(2,false),(4,false)],[(5,false)],[(6,false)],[(6,false)],[(6,false),(7,false),(8,false)],[(6,false),(9,false)],[(10,false)],[(11,false)],[(11,false),(12,false)],[(11,false)],[(11,false),(14,false)],[(11,false),(13,false),(15,false)],[(11,false),(16,false)],[(11,false),(17,false)],[(11,false)],[(11,false),(19,false)],[(11,false),(18,false),(20,false)],[(11,false),(21,false)],[(11,false),(22,false)]] [hB b1 (cInst x p5 c5),hB b (cProg y p1 c1 p2 c2)] [] [(23,false)] (zL [0,1] rfl (by decide)) ?_ ?_
        · refine Op<|Oq ?_<|Oq ?_<|Op<|Oq ?_<|Oq ?_<|Oq ?_<|Op<|Op<|Oq ?_<|Oq ?_<|Oq ?_<|Op<|Op<|Op<|Op<|Ox ?_<|Ox ?_<|Ox ?_<|Op<|Op<|Oq ?_<|Op<|Op<|On
          · intro imm1 hf le1;refine zE ?_;rintro _ _ ⟨rfl,rfl⟩;refine zM<|yG [(43,.bool y8)] ?_;have hle:=iS imm1;refine rW 2 [(44,.bool (!y8))] ?_;rw [hc3];exact zZ (hx:=[]) rfl hle rfl (zK rfl) ⟨rfl,rfl⟩
          · intro imm1 hf le1;refine zE ?_;rintro _ _ ⟨rfl,rfl⟩;refine zM<|yG [(44,.bool false)] ?_;have hle:=iS imm1;exact rW 3 [(45,.bool false)]<|zZ (hx:=[]) rfl hle rfl (zK rfl) ⟨rfl,rfl⟩
          · intro imm1 hf le1;refine zE ?_;rintro _ _ ⟨rfl,rfl⟩;refine zE ?_;rintro _ _ ⟨rfl,rfl⟩;refine zM<|yG [(45,.bool false),(46,vI y7)] ?_;have hle:=iS imm1;refine rW 5 [(47,.bool (decide (y7 < 0)))] ?_;rw [hc4];exact zZ (hx:=[]) rfl hle rfl (zK rfl) ⟨rfl,rfl⟩
          · intro imm1 hf le1;refine zE ?_;rintro _ _ ⟨rfl,rfl⟩;refine zE ?_;rintro _ _ ⟨rfl,rfl⟩;refine zM<|yG [(45,.bool false),(47,.bool false)] ?_;have hle:=iS imm1;exact rW 6 [(48,.bool false)]<|zZ (hx:=[]) rfl hle rfl (zK rfl) ⟨rfl,rfl⟩
          · intro imm1 hf le1;refine zE ?_;rintro _ _ ⟨rfl,rfl⟩;refine zM<|yG [(48,.bool false)] ?_;have hle:=iS imm1;exact rW 7 [(49,.bool false)]<|zZ (hx:=[]) rfl hle rfl (zK rfl) ⟨rfl,rfl⟩
          · intro imm1 hf le1;refine zE ?_;rintro _ _ ⟨rfl,rfl⟩;refine zE ?_;rintro _ _ ⟨rfl,rfl⟩;refine zE ?_;rintro _ _ ⟨rfl,rfl⟩;refine zM<|yG [(49,.bool false),(50,vI y7),(51,vI y4)] ?_;have hle:=iS imm1;refine rW 10 [(52,.bool (decide (y7 ≥ y4)))] ?_;rw [hc5];exact zZ (hx:=[]) rfl hle rfl (zK rfl) ⟨rfl,rfl⟩
          · intro imm1 hf le1;refine zE ?_;rintro _ _ ⟨rfl,rfl⟩;refine zE ?_;rintro _ _ ⟨rfl,rfl⟩;refine zM<|yG [(49,.bool false),(52,.bool false)] ?_;have hle:=iS imm1;exact rW 11 [(53,.bool false)]<|zZ (hx:=[]) rfl hle rfl (zK rfl) ⟨rfl,rfl⟩
          · intro imm1 hf le1;refine zE ?_;rintro _ _ ⟨rfl,rfl⟩;refine zM<|yG [(53,.bool false)] ?_;have hle:=iS imm1;exact rW 12 [(54,.bool false)]<|zZ (hx:=[]) rfl hle rfl (zK rfl) ⟨rfl,rfl⟩
          · intro imm1 hf le1;refine zE ?_;rintro _ _ ⟨rfl,rfl⟩;refine zE ?_;rintro _ _ ⟨rfl,rfl⟩;refine zE ?_;rintro _ _ ⟨rfl,rfl⟩;refine zM<|yG [(54,.bool false),(56,vS p2 y.Parts c2),(58,vI x.Part)] ?_;have hle:=iS imm1;have h3:=h3.mono le1;refine wD rfl rfl h3 hy7 ?_;intro ad1 ccs1 hat1 hrep1;obtain ⟨v011,v012,rfl,h12,h13⟩:=xT hrep1;obtain ⟨p7,c7,rfl⟩:=h12.form;obtain ⟨p8,c8,rfl⟩:=h13.form;exact zZ (hx:=[]) rfl hle rfl (zK rfl) ⟨_,_,_,_,_,rfl,rfl,hat1,h12,h13⟩
          · intro imm1 hf le1;refine zE ?_;rintro _ _ ⟨rfl,rfl⟩;refine zE ?_;rintro _ _ ⟨ad1,p7,c7,p8,c8,rfl,rfl,hat1,h12,h13⟩;refine zM<|yG [(54,.bool false),(59,.pointer (some ad1))] ?_;have hle:=iS imm1;exact rW 18 [(60,.pointer (some ad1))]<|zZ (hx:=[]) rfl hle rfl (zK rfl) ⟨_,_,_,_,_,rfl,rfl,hat1,h12,h13⟩
          · intro imm1 hf le1;refine zE ?_;rintro _ _ ⟨rfl,rfl⟩;refine zE ?_;rintro _ _ ⟨ad11,p71,c71,p81,c81,rfl,rfl,hat11,h121,h131⟩;refine zM<|yG [(54,.bool false),(60,.pointer (some ad11))] ?_;have hle:=iS imm1;exact xQ 0 hat11 [vS p71 x1.Nest c71] (vS p71 x1.Nest c71) rfl<|zZ (hx:=[]) rfl hle rfl (zK rfl) ⟨_,_,rfl,rfl,h121⟩
          intro imm1 hf le1;refine zE ?_;rintro _ _ ⟨rfl,rfl⟩;refine zE ?_;rintro _ _ ⟨p711,c711,rfl,rfl,h1211⟩;refine zE ?_;rintro _ _ ⟨rfl,rfl⟩;refine zM<|yG [(54,.bool false),(61,vS p711 x1.Nest c711),(63,vS p5 x.Point c5)] ?_;have hle:=iS imm1;have h8:=h8.mono le1;refine yQ (zDY x1.Nest x.Point _ hy8 h1211 h8) ?_;rintro imm010 hs2 v2 k2 le9 - ⟨v013,rfl,rfl,rfl⟩ -;have hle:=hle.trans le9;exact zZ (hx:=[]) rfl hle rfl (zK rfl) ⟨rfl,rfl⟩
        intro imm011 le10;refine zE ?_;rintro _ _ ⟨rfl,rfl⟩;refine zM<|yG [(3,vP b 0),(4,vS p3 y1 c3),(5,vI y4),(6,vI i),(8,vS p6 y6 c6),(66,.bool (!y9))] ?_;have hle:=hle.trans le10;exact yN rfl<|wB (zL [1] rfl (by decide))<|yS [(3,vP b 0),(4,vS p3 y1 c3),(5,vI y4),(6,vI i),(8,vS p6 y6 c6),(66,.bool (!y9))]<|yB ⟨_,(zD hM).symm,hle,rfl,rfl⟩
   rintro imm06 hs2 m2 ⟨t66,heq,le11,rfl,rfl⟩;subst o0;have h4:=h4.mono le11;have h9:=h9.mono le11;have h2:=h2.mono le11;have h3:=h3.mono le11;have hle:=hle.trans le11;refine zF<|yO hMc ?_ ?_
   · intro hc6 hM;exact zG<|zB<|yA [] [(2,.bool false)]<|zF<|yI<|zP<|yF<|zP<|zP<|hr _ _ _ _ (zD hM).symm hle ⟨_,_,(.tmp rfl ResV.nil),zX,⟨_,rfl,rfl,rfl⟩⟩
   intro hc6 hM;refine yE<|zF<|zG<|zB<|yA [] [(11,vI 0)]<|zF<|yC<|vG [(3,vP b 0),(4,vS p3 y1 c3),(5,vI y4),(6,vI i),(8,vS p6 y6 c6),(11,vI 0)] ?_;obtain ⟨o02,ho02,hMl⟩:=zC hM;refine laws_FnProgramInstances_l2_ok y4 y6 0 o02 ho02 iR h4 h9 h2 h3 (fun _ _ _ h=>hg _ _ _ h) (fun _ _ h=>ho _ _ h) ?_ ?_
   · intro imm013  heq2 le13;subst o02;have h4:=h4.mono le13;have h2:=h2.mono le13;have h3:=h3.mono le13;have hle:=hle.trans le13;exact yD<|zY<|zF<|zB<|yA [] [(6,vI (W (i + 1)))]<|xB<|vG [(3,vP b 0),(4,vS p3 y1 c3),(5,vI y4),(6,vI (W (i + 1)))]<|ih (W (i + 1)) _ hMl hle h4 h2 h3 hg ho hx hr
   intro r0 imm9 hs9 m9 heq9 le9 hrs9;subst heq9;exact yF<|yF<|zP<|zP<|hr _ _ _ _ (zD hMl).symm (hle.trans le9) hrs9
 intro hc2 hM;exact yZ<|zS<|zS<|wB (zL [] rfl (by decide))<|yS [(4,vS p3 y1 c3)]<|hx _  (zD hM).symm hle
def M.laws_FnProgramInstances (code:(List UInt8)):Option (Bool):=do
 if (decide ((code.length:Int) > 1048576)) then
  pure true
 else
  let y←M.spec_DrawProgramInstances code
  let y1←qB y
  let y2←M.spec_ProgramInstances y
  let y3←M.laws_lnInstances y1 y2
  if (!y3) then
   pure false
  else
   let y4←M.impl_CountCells y
   match←M.laws_FnProgramInstances_l1 y y1 y4 0 with
   | .ret r0=>pure r0
   | .done _ =>
    pure (decide ((y1.length:Int) ≤ 120))
theorem laws_FnProgramInstances_ok:∀ (code:(List UInt8)) r,M.laws_FnProgramInstances code=some r→∀ {imm:Imm}{p c},(S4 imm p code c)→Ret Tryz.prog 11 [vS p code c] imm [] (laws_FnProgramInstances_post  r):=by
 intro code r hM imm p c h;unfold M.laws_FnProgramInstances at hM;refine yH (fn:=Tryz.f11) (c:=(bodyOf Tryz.f11)) Tryz.func11 rfl rfl ?_;rintro B - -;refine zG<|zB<|yA [] []<|zF<|zG<|zG<|zB<|yA [] [(14,.bool (decide ((code.length:Int) > 1048576)))]<|zF<|yO hM ?_ ?_
 · intro hc hM;refine zG<|zB<|yA [] [(2,.bool true)]<|zF<|yI<|zP ?_;obtain rfl:=zD hM;exact yP ⟨_,_,(.tmp rfl ResV.nil),zX,⟨_,rfl,rfl,rfl⟩⟩
 intro hc hM;refine yE<|zF<|zG<|zB<|yK 1 [] [(15,vS p code c)] ?_;obtain ⟨y,hy,hM⟩:=zC hM;refine yQ (spec_DrawProgramInstances_ok code _ hy h) ?_;rintro imm0 hs2 v2 k2 le - ⟨v0,rfl,rfl,⟨cs,rfl,h1⟩⟩ -;obtain ⟨v01,v02,rfl,h2,h3⟩:=gJ h1;obtain ⟨p1,c1,rfl⟩:=h2.form;obtain ⟨p2,c2,rfl⟩:=h3.form;refine uB zTwo ?_;intro b hb;refine xI 0 (cProg y p1 c1 p2 c2) [hB b (cProg y p1 c1 p2 c2)] rfl rfl rfl rfl<|yN rfl<|zF<|zG<|zB<|yK 1 [0] [(17,vA (cProg y p1 c1 p2 c2))] ?_;obtain ⟨y1,hy1,hM⟩:=zC hM;refine yQ (zE6 y _ hy1 h2 h3) ?_;rintro imm01 hs2 v2 k2 le1 - ⟨v03,rfl,rfl,h4⟩ -;have h2:=h2.mono le1;have h3:=h3.mono le1;obtain ⟨p3,c3,rfl⟩:=h4.form;refine yA [] [(4,vS p3 y1 c3)]<|zF<|zG<|zG<|zB<|yK 2 [0] [(19,vS p3 y1 c3),(20,vA (cProg y p1 c1 p2 c2))] ?_;obtain ⟨y2,hy2,hM⟩:=zC hM;refine yQ (spec_ProgramInstances_ok y _ hy2 h2 h3) ?_;rintro imm02 hs2 v2 k2 le2 - ⟨v04,rfl,rfl,h5⟩ -;have h4:=h4.mono le2;have h2:=h2.mono le2;have h3:=h3.mono le2;obtain ⟨p4,c4,rfl⟩:=h5.form;obtain ⟨y3,hy3,hM⟩:=zC hM;refine yQ (laws_lnInstances_ok y1 y2 _ hy3 h4 h5) ?_;rintro imm03 hs2 v2 k2 le3 - ⟨v05,rfl,rfl,rfl⟩ -;have h4:=h4.mono le3;have h2:=h2.mono le3;have h3:=h3.mono le3;refine yA [] [(23,.bool (!y3))]<|zF<|yO hM ?_ ?_
 · intro hc1 hM;refine zG<|zB<|yA [] [(2,.bool false)]<|zF<|yI<|zP ?_;obtain rfl:=zD hM;exact yP ⟨_,_,(.tmp rfl ResV.nil),zX,⟨_,rfl,rfl,rfl⟩⟩
 intro hc1 hM;refine yE<|zF<|zG<|zB<|yK 1 [0] [(24,vA (cProg y p1 c1 p2 c2))] ?_;obtain ⟨y4,hy4,hM⟩:=zC hM;refine yQ (impl_CountCells_ok y _ hy4 h2 h3) ?_;rintro imm04 hs2 v2 k2 le4 - ⟨v06,rfl,rfl,rfl⟩ -;have h4:=h4.mono le4;have h2:=h2.mono le4;have h3:=h3.mono le4;refine yA [] [(5,vI y4)]<|zF<|zG<|zG<|zB<|yA [] [(6,vI 0)]<|zF<|yC<|vG [(3,vP b 0),(4,vS p3 y1 c3),(5,vI y4),(6,vI 0)] ?_;obtain ⟨o03,ho03,hMl1⟩:=zC hM;refine laws_FnProgramInstances_l1_ok y y1 y4 0 o03 ho03 iR h4 h2 h3 (fun _ _ _ h=>h) (fun _ _ h=>h) ?_ ?_
 · intro imm014  heq3 le14;subst o03;refine yD<|zF<|zG<|zB<|yA [] [(2,.bool (decide ((y1.length:Int) ≤ 120)))]<|zF<|yI ?_;obtain rfl:=zD hMl1;exact yP ⟨_,_,(.tmp rfl ResV.nil),zX,⟨_,rfl,rfl,rfl⟩⟩
 intro r0 imm9 hs9 m9 heq9 le9 hrs9;subst heq9;refine yF<|zP ?_;obtain rfl:=zD hMl1;exact yP hrs9
end Go.LN
namespace Go.LN
def totL:List zJ→Int→Int
  | [],n=>n
  | x::l,n=>totL l (W (n + sizeF x))
theorem implCells (P:zW) (h:BR P.Arrays):M.impl_Program_cells P=some (totL P.Arrays 0):=by
  unfold M.impl_Program_cells;obtain ⟨h1,h2⟩:=h;have key:∀ (j i:Nat) (n:Int),i + j=P.Arrays.length→M.impl_Program_cells_l1 P n (i:Int)=some (totL (P.Arrays.drop i) n):=by
    intro j
    induction j with
    | zero =>
      intro i n hi;rw [M.impl_Program_cells_l1];have:¬((i:Int) < (P.Arrays.length:Int)):=by omega
      simp only [this,decide_false,Bool.false_eq_true,if_false];rw [List.drop_eq_nil_iff.2 (by omega)]; rfl
    | succ j ih =>
      intro i n hi;rw [M.impl_Program_cells_l1];have hlt:i < P.Arrays.length:=by omega
      have hc:((i:Int) < (P.Arrays.length:Int)):=by omega
      have hd:=h2 _ (List.getElem_mem hlt);simp only [hc,decide_true,if_true,xF hlt,Option.bind_eq_bind,Option.bind_some,implSize _ (show P.Arrays[i].Dims.length ≤ 1048576 by omega)];rw [tR (by omega),ih (i + 1) _ (by omega),List.drop_eq_getElem_cons hlt,totL]
  have:=key _ 0 0 (Nat.zero_add _);rw [Int.natCast_zero,List.drop_zero] at this;rw [this]; rfl
theorem implCount (P:zW) (h:BG P):M.impl_CountCells P=some (if validP P then totL P.Arrays 0 else 0):=by
  unfold M.impl_CountCells;rw [implValidP P h,implCells P h.1];cases validP P <;> rfl
end Go.LN
namespace Go.LN
theorem specInstP (P:zW) (h:BG P):M.spec_ProgramInstances P=some (if validP P then progI P else []):=by
  unfold M.spec_ProgramInstances;rw [specValidP P h];cases hv:validP P with
  | false=>rfl
  | true =>
    obtain ⟨_,v2,v3,_⟩:=zIo hv;have hl:=zIn P v2 v3 _ 0 [] (Nat.zero_add _) (by simp);rw [Int.natCast_zero,List.nil_append] at hl;simp only [Bool.not_true,Bool.false_eq_true,if_false,Option.bind_eq_bind,Option.bind_some,oZ,hl,Option.pure_def,id,if_true];rfl
theorem ints_refl (l:List Int) (h:l.length ≤ 1048576):zAv l l=some true:=by
  unfold zAv;have hl:=mX (n:=l.length) (f:=nV l l) (P:=fun _=>true) (fun i hi=>by
      rw [nV];have h1:((i:Int) < (l.length:Int)):=by omega
      simp only [h1,decide_true,if_true,xF hi,Option.bind_eq_bind,Option.bind_some,bne_self_eq_false,Bool.false_eq_true,if_false];rw [tR (by omega)]) (by rw [nV]; simp)
  rw [hl];have:((List.range l.length).all fun _=>true)=true:=by simp
  simp [this]
theorem inst_refl (l:List zU) (h:l.length ≤ 1048576) (hp:∀ x ∈ l,x.Point.length ≤ 1048576):M.laws_lnInstances l l=some true:=by
  unfold M.laws_lnInstances;have hl:=mX (n:=l.length) (f:=M.laws_lnInstances_l1 l l) (P:=fun _=>true) (fun i hi=>by
      rw [M.laws_lnInstances_l1];have h1:((i:Int) < (l.length:Int)):=by omega
      simp only [h1,decide_true,if_true,xF hi,Option.bind_eq_bind,Option.bind_some,bne_self_eq_false,Bool.false_eq_true,if_false,ints_refl _ (hp _ (List.getElem_mem hi)),Option.pure_def,Bool.not_true];rw [tR (by omega)]) (by rw [M.laws_lnInstances_l1]; simp)
  rw [hl];have:((List.range l.length).all fun _=>true)=true:=by simp
  simp [this]
theorem partI_pt {k:Int}{x:zQ}{z:zU} (h:z ∈ partI k x):z.Point.length ≤ 4:=by
  unfold partI at h;obtain ⟨q,hq,hz⟩:=List.mem_flatMap.1 h;unfold instR at hz;obtain ⟨i,_,rfl⟩:=List.mem_map.1 hz;exact (zA0 (nest:=x.Nest)).2 q hq
theorem progI_pt {P:zW}{z:zU} (h:z ∈ progI P):z.Point.length ≤ 4:=by
  unfold progI at h;obtain ⟨i,_,hz⟩:=List.mem_flatMap.1 h;exact partI_pt hz
end Go.LN
namespace Go.LN
def GA (l:List zJ):Prop:=l.length ≤ 4∧(∀ x ∈ l,DA x)∧l.Pairwise fun x y=>x.Name.l ≠ y.Name.l
def sumS:List zJ→Int
  | []=>0
  | x::l=>sizeF x + sumS l
theorem sumS_rng:∀ {l:List zJ},(∀ x ∈ l,DA x)→0 ≤ sumS l∧sumS l ≤ 36 * (l.length:Int)
  | [],_=>⟨Int.le_refl _,Int.le_refl _⟩
  | x::l,h=>by
    have h1:=(h x (List.mem_cons_self ..)).size
    have h2:=sumS_rng (l:=l) fun y hy=>h y (List.mem_cons_of_mem _ hy)
    rw [sumS,List.length_cons]; omega
theorem tot_sum:∀ {l:List zJ}{n:Int},(∀ x ∈ l,DA x)→0 ≤ n→n + 36 * (l.length:Int) ≤ 1000000→totL l n=n + sumS l
  | [],n,_,_,_=>by rw [totL,sumS]; omega
  | x::l,n,h,h0,h1=>by
    have hs:=(h x (List.mem_cons_self ..)).size
    rw [List.length_cons] at h1
    rw [totL,sD (by omega) (by omega),tot_sum (fun y hy=>h y (List.mem_cons_of_mem _ hy)) (by omega) (by omega),sumS]; omega
theorem lt_chain {n:Nat}{f:Nat→Nat} (h:∀ i,i + 1 < n→f i < f (i + 1)):∀ (d i:Nat),i + d + 1 < n→f i < f (i + d + 1)
  | 0,i,hi=>h i hi
  | d + 1,i,hi=>Nat.lt_trans (lt_chain h d i (by omega)) (h (i + d + 1) hi)
theorem name_one {l:List UInt8} (h:nameL l=true):∃ c,l=[c]:=by
  match l with
  | []=>cases h
  | [c]=>exact ⟨c,rfl⟩
  | c::d::r=>cases h
theorem arr_good {l:List zJ} (h:arrB l=true):GA l:=by
  simp only [arrB,Bool.and_eq_true,decide_eq_true_eq] at h;obtain ⟨h4,hall⟩:=h;have hi:∀ i,i < l.length→arrI l i=true:=fun i hi=>List.all_eq_true.1 hall i (List.mem_range.2 hi);refine ⟨h4,fun x hx=>?_,?_⟩
  · obtain ⟨i,hi',rfl⟩:=List.mem_iff_getElem.1 hx;have:=hi i hi';have hg:l.getD i ⟨⟨[]⟩,[]⟩=l[i]:=by simp [hi']
    simp only [arrI,hg,Bool.and_eq_true,decide_eq_true_eq] at this;obtain ⟨⟨_,h1,h2⟩,h3⟩:=this;have h3:=List.all_eq_true.1 h3
    match hd:l[i].Dims with
    | []=>rw [hd] at h1; simp at h1
    | [d] =>
      have:=h3 d (by rw [hd]; simp);simp only [dimB,Bool.and_eq_true,decide_eq_true_eq] at this;exact .inl ⟨d,hd,this⟩
    | [d,e] =>
      have k1:=h3 d (by rw [hd]; simp);have k2:=h3 e (by rw [hd]; simp);simp only [dimB,Bool.and_eq_true,decide_eq_true_eq] at k1 k2;exact .inr ⟨d,e,hd,k1,k2⟩
    | d::e::f::r=>rw [hd] at h2; simp at h2
  · have hlt:∀ i,i + 1 < l.length→nm l i < nm l (i + 1):=by
      intro i hi1;have a1:=hi i (by omega);have a2:=hi (i + 1) hi1;simp only [arrI,Bool.and_eq_true,Bool.or_eq_true,decide_eq_true_eq] at a1 a2;obtain ⟨c,hc⟩:=name_one a1.1.1.1;obtain ⟨d,hd⟩:=name_one a2.1.1.1;have hb:=a2.1.1.2;rw [show i + 1 - 1=i by omega] at hb;unfold nm;rw [hc,hd] at hb;rw [hc,hd];rcases hb with hb | hb
      · omega
      · simp only [Op.bytesLess,Bool.and_false,Bool.or_false,decide_eq_true_eq] at hb;exact hb
    refine List.pairwise_iff_getElem.2 fun i j hi1 hj1 hij e=>?_;have hk:=lt_chain (n:=l.length) (f:=nm l) hlt (j - i - 1) i (by omega);rw [show i + (j - i - 1) + 1=j by omega] at hk;have g1:l.getD i ⟨⟨[]⟩,[]⟩=l[i]:=by simp [hi1]
    have g2:l.getD j ⟨⟨[]⟩,[]⟩=l[j]:=by simp [hj1]
    unfold nm at hk;rw [g1,g2,e] at hk;exact Nat.lt_irrefl _ hk
theorem valid_good {P:zW} (h:validP P=true):GA P.Arrays:=by
  simp only [validP,progB,Bool.and_eq_true] at h;exact arr_good h.1.1.1
theorem valid_tot {P:zW} (h:validP P=true):totL P.Arrays 0=sumS P.Arrays∧0 ≤ sumS P.Arrays∧sumS P.Arrays ≤ 144:=by
  obtain ⟨h1,h2,_⟩:=valid_good h;have:=sumS_rng h2;rw [tot_sum h2 (Int.le_refl _) (by omega)];omega
theorem cellS1 {p:List Int}{d:Int}{s:zA} (h1:1 ≤ d) (h2:d ≤ 6):cellS p [d] [s] 0=if 0 ≤ evA s p∧evA s p < d then some (evA s p) else none:=by
  rw [cellS];by_cases h:0 ≤ evA s p∧evA s p < d
  · rw [if_pos h,if_pos h,cellS,Int.zero_mul,sD (x:=0) (by omega) (by omega),sD (by omega) (by omega),Int.zero_add]
  · rw [if_neg h,if_neg h]
theorem cellS2 {p:List Int}{d e:Int}{s t:zA} (h1:1 ≤ d) (h2:d ≤ 6) (h3:1 ≤ e) (h4:e ≤ 6):cellS p [d,e] [s,t] 0=if 0 ≤ evA s p∧evA s p < d then (if 0 ≤ evA t p∧evA t p < e then some (evA s p * e + evA t p) else none) else none:=by
  rw [cellS];by_cases h:0 ≤ evA s p∧evA s p < d
  · rw [if_pos h,if_pos h,cellS,Int.zero_mul,sD (x:=0) (by omega) (by omega),sD (x:=0 + evA s p) (by omega) (by omega),Int.zero_add];by_cases hk:0 ≤ evA t p∧evA t p < e
    · have hm:0 ≤ evA s p * e∧evA s p * e ≤ 36:=by
        have:evA s p=0∨evA s p=1∨evA s p=2∨evA s p=3∨evA s p=4∨evA s p=5:=by omega
        rcases this with e | e | e | e | e | e <;> rw [e] <;> omega
      rw [if_pos hk,if_pos hk,cellS,sD (x:=evA s p * e) (by omega) (by omega),sD (by omega) (by omega)]
    · rw [if_neg hk,if_neg hk]
  · rw [if_neg h,if_neg h]
theorem rows_lt {d e i j:Int} (hi:0 ≤ i∧i < d) (hd:d ≤ 6) (hj:0 ≤ j∧j < e) (he:e ≤ 6):0 ≤ i * e + j∧i * e + j < d * e:=by
  have h1:i=0∨i=1∨i=2∨i=3∨i=4∨i=5:=by omega
  have h2:d=1∨d=2∨d=3∨d=4∨d=5∨d=6:=by omega
  rcases h1 with rfl | rfl | rfl | rfl | rfl | rfl <;> rcases h2 with rfl | rfl | rfl | rfl | rfl | rfl <;> omega
theorem one_sub {l:List zA}{d:Int} (h:l.length=[d].length):∃ s,l=[s]:=by
  match l with
  | []=>cases h
  | [s]=>exact ⟨s,rfl⟩
  | a::b::r=>simp at h
theorem two_sub {l:List zA}{d e:Int} (h:l.length=[d,e].length):∃ s t,l=[s,t]:=by
  match l with
  | []=>cases h
  | [s]=>cases h
  | [s,t]=>exact ⟨s,t,rfl⟩
  | a::b::c::r=>simp at h
theorem cellS_rng {x:zJ}{subs:List zA}{p:List Int}{n:Int} (h:DA x) (hl:subs.length=x.Dims.length) (hc:cellS p x.Dims subs 0=some n):0 ≤ n∧n < sizeF x:=by
  rcases h with ⟨d,h,h1,h2⟩ | ⟨d,e,h,⟨h1,h2⟩,h3,h4⟩
  · rw [h] at hl hc;obtain ⟨s,rfl⟩:=one_sub hl;rw [zJM h h1 h2];rw [cellS1 h1 h2] at hc;split at hc
    · cases hc; assumption
    · cases hc
  · rw [h] at hl hc;obtain ⟨s,t,rfl⟩:=two_sub hl;rw [zJN h h1 h2 h3 h4];rw [cellS2 h1 h2 h3 h4] at hc;split at hc
    · split at hc
      · cases hc
        exact rows_lt ‹_› h2 ‹_› h4
      · cases hc
    · cases hc
theorem cell_rng (a:zN) (p:List Int):∀ (l:List zJ) (first:Int),(∀ x ∈ l,DA x)→0 ≤ first→first + sumS l ≤ 1000000→cellF a p l first=-1∨(first ≤ cellF a p l first∧cellF a p l first < first + sumS l)
  | [],first,_,_,_=>.inl rfl
  | x::l,first,h,h0,h1=>by
    have hx:=h x (List.mem_cons_self ..)
    have hs:=hx.size
    have hl:=sumS_rng (l:=l) fun y hy=>h y (List.mem_cons_of_mem _ hy)
    rw [sumS] at h1 ⊢
    rw [cellF]
    by_cases hn:x.Name.l=a.Array.l
    · rw [if_pos hn]
      by_cases hd:a.Subs.length=x.Dims.length
      · rw [if_pos hd]
        cases hc:cellS p x.Dims a.Subs 0 with
        | none=>exact .inl rfl
        | some n =>
          have:=cellS_rng hx hd hc
          refine .inr ?_
          dsimp only
          rw [sD (by omega) (by omega)]; omega
      · rw [if_neg hd]; exact .inl rfl
    · rw [if_neg hn,sD (by omega) (by omega)]
      rcases cell_rng a p l (first + sizeF x) (fun y hy=>h y (List.mem_cons_of_mem _ hy)) (by omega) (by omega) with k | k
      · exact .inl k
      · exact .inr (by omega)
theorem cell_lt {P:zW} (h:validP P=true) (a:zN) (p:List Int):-1 ≤ cellF a p P.Arrays 0∧cellF a p P.Arrays 0 < totL P.Arrays 0:=by
  obtain ⟨h1,h2,h3⟩:=valid_tot h;rcases cell_rng a p P.Arrays 0 (valid_good h).2.1 (Int.le_refl _) (by omega) with k | k <;> omega
end Go.LN
namespace Go.LN
def c0 (n:Int):zA:=⟨[0,0,0,0],n⟩
end Go.LN
namespace Go.LN
theorem valid_rv {P:zW} (h:BG P) (hv:validP P=true):RV P.Arrays:=by
  simp only [validP,progB,Bool.and_eq_true] at hv;exact RV.of h.1 hv.1.1.1
theorem pt_len {p:List Int} (h:ptB p=true):p.length ≤ 4:=by
  simp only [ptB,Bool.and_eq_true,decide_eq_true_eq] at h;exact h.1
/-! The cells of the arrays, one after the other. -/
end Go.LN
namespace Go.LN
end Go.LN
namespace Go.LN
theorem pointIn_l1 (q:List Int) (hq:q.length ≤ 4) (nest:List zI):∀ (ls:List zI) (n:Nat),(∀ x ∈ ls,OL x)→nest.drop n=ls→inP ls (q.take n) (q.drop n)→n ≤ nest.length→nest.length ≤ 4→nH nest q (n:Int)=some (.done ())
  | [],n,hv,hd,h,hn,h4=>by
    rw [nH]
    have:¬((n:Int) < (nest.length:Int)):=by have:=List.drop_eq_nil_iff.1 hd; omega
    simp only [this,decide_false,Bool.false_eq_true,if_false,Option.pure_def]
  | l::ls,n,hv,hd,h,hn,h4=>by
    obtain ⟨hlt,hx,hd'⟩:=zDB hd
    have hnq:n < q.length:=by
      rcases Nat.lt_or_ge n q.length with h' | h'
      · exact h'
      · rw [List.drop_eq_nil_iff.2 h'] at h; exact h.elim
    rw [List.drop_eq_getElem_cons hnq] at h
    obtain ⟨⟨k1,k2⟩,k3⟩:=h
    rw [nH]
    have hc:((n:Int) < (nest.length:Int)):=by omega
    have hsl:slc q 0 (n:Int)=some (q.take n):=by
      have:=zJ1 (s:=q) (f:=0) (i:=n) (Nat.zero_le _) (by omega)
      rw [Int.natCast_zero,List.drop_zero] at this
      exact this
    obtain ⟨o1,o2⟩:=hv l (List.mem_cons_self ..)
    have hsp:=implSpan l (q.take n) (by rw [List.length_take]; omega) o1 o2
    have e1:¬(q[n] < loF l (q.take n)):=by omega
    have e2:¬(q[n] ≥ hiF l (q.take n)):=by omega
    simp only [hc,decide_true,if_true,xF hlt,hx,hsl,hsp,xF hnq,e1,e2,decide_false,Bool.false_eq_true,if_false,Option.bind_eq_bind,Option.bind_some,Option.pure_def]
    rw [tR (by omega)]
    refine pointIn_l1 q hq nest ls (n + 1) (fun x hx=>hv x (List.mem_cons_of_mem _ hx)) hd' ?_ (by omega) h4
    rw [List.take_succ_eq_append_getElem hnq]
    exact k3
theorem implPointIn {nest:List zI} (hb:BN nest) (h:nestB nest=true) {q:List Int} (hp:ptB q=true) (hq:inP nest [] q):gA nest q=some true:=by
  have hl:=zIe hq;obtain ⟨n1,n2⟩:=zDa h;have hpl:=pointIn_l1 q (by omega) nest nest 0 n2 rfl hq (Nat.zero_le _) n1;rw [Int.natCast_zero] at hpl;unfold gA;simp only [implNest nest hb,h,implPoint q (by omega),hp,hl,hpl,Option.bind_eq_bind,Option.bind_some,Option.pure_def,Bool.not_true,Bool.false_eq_true,if_false,bne_self_eq_false]
theorem touched_l1 (P:zW) (x:zU) (ys:List zN) (hy:ys.length ≤ 1048576) (ha:∀ a ∈ ys,AV a) (hp:x.Point.length ≤ 4) (hR:RV P.Arrays):∀ (j i:Nat) (o:List Int),i + j=ys.length→o.length=i→rB P x ys o (i:Int)=some (o ++ (ys.drop i).map (cellA P.Arrays x.Point)):=by
  intro j
  induction j with
  | zero =>
    intro i o hi ho;rw [rB];have:¬((i:Int) < (ys.length:Int)):=by omega
    simp only [this,decide_false,Bool.false_eq_true,if_false,Option.pure_def,id];rw [List.drop_eq_nil_iff.2 (by omega),List.map_nil,List.append_nil]
  | succ j ih =>
    intro i o hi ho;rw [rB];have hlt:i < ys.length:=by omega
    have hc:((i:Int) < (ys.length:Int)):=by omega
    simp only [hc,decide_true,if_true,xF hlt,implCell P ys[i] x.Point (ha _ (List.getElem_mem hlt)) hp hR,Option.bind_eq_bind,Option.bind_some,oP (show (o.length + [cellF ys[i] x.Point P.Arrays 0].length) * 8 ≤ 140737488355328 by simp; omega)];rw [tR (by omega),ih (i + 1) _ (by omega) (by rw [List.length_append]; simp; omega),List.drop_eq_getElem_cons hlt,List.map_cons,List.append_assoc];rfl
theorem within_idx {i n:Nat} (h:i < n) (hn:n ≤ 1000000):xP (i:Int) 0 (W ((n:Int) - 1))=some true:=by
  rw [pL,sD (by omega) (by omega)];have h1:(0:Int) ≤ (i:Int):=by omega
  have h2:(i:Int) ≤ (n:Int) - 1:=by omega
  simp [h1,h2]
theorem implInstCells {P:zW} (hb:BG P) (h:validP P=true) {z:zU} (hz:z ∈ progI P):∃ r w,kT P z=some (r,w,true)∧(0 ≤ w∧w < totL P.Arrays 0)∧r.length ≤ 1048576∧∀ c ∈ r,0 ≤ c∧c < totL P.Arrays 0:=by
  obtain ⟨i,s,hi,hs,z1,z2,hn,hin,hpt,hst,hsb⟩:=zJP h hz;have hbp:=hb.2.2 _ (List.getElem_mem hi);have hpin:=implPointIn hbp.1 hn hpt hin;obtain ⟨s1,s2,s3⟩:=zEW hsb;have hR:=valid_rv hb h;have hp4:=pt_len hpt;have hrd:=implReads 5 P.Parts[i].Body[s].Value s2 (by omega);have hrl:=mK 5 P.Parts[i].Body[s].Value s2;have htl:=touched_l1 P z (readsF 5 P.Parts[i].Body[s].Value) (by omega) s3 hp4 hR _ 0 [] (Nat.zero_add _) rfl;rw [Int.natCast_zero,List.drop_zero,List.nil_append] at htl;have hw:=implCell P P.Parts[i].Body[s].Write z.Point s1 hp4 hR;have hst':=hst;simp only [stOk,Bool.and_eq_true,decide_eq_true_eq] at hst';refine ⟨(readsF 5 P.Parts[i].Body[s].Value).map (cellA P.Arrays z.Point),cellF P.Parts[i].Body[s].Write z.Point P.Arrays 0,?_,⟨hst'.1,(cell_lt h _ _).2⟩,by rw [List.length_map]; omega,fun c hc=>?_⟩
  · unfold kT pF nA nX;have hpl:=hb.2.1;have hbl:=hbp.2.1;simp only [implValidP P hb,h,z1,z2,within_idx hi (by omega),within_idx hs (by omega),xF hi,xF hs,hpin,hrd,htl,hw,Option.bind_eq_bind,Option.bind_some,Option.pure_def,Bool.not_true,Bool.false_eq_true,if_false,if_true,id]
  · obtain ⟨a,ha,rfl⟩:=List.mem_map.1 hc;exact ⟨of_decide_eq_true (List.all_eq_true.1 hst'.2 a ha),(cell_lt h _ _).2⟩
theorem cells_l2 (n:Int) (r:List Int) (hr:r.length ≤ 1048576) (h:∀ c ∈ r,0 ≤ c∧c < n):∀ (j k:Nat),k + j=r.length→M.laws_FnProgramInstances_l2 n r (k:Int)=some (.done ()):=by
  intro j
  induction j with
  | zero =>
    intro k hk;rw [M.laws_FnProgramInstances_l2];have:¬((k:Int) < (r.length:Int)):=by omega
    simp only [this,decide_false,Bool.false_eq_true,if_false,Option.pure_def]
  | succ j ih =>
    intro k hk;rw [M.laws_FnProgramInstances_l2];have hlt:k < r.length:=by omega
    have hc:((k:Int) < (r.length:Int)):=by omega
    have hh:=h _ (List.getElem_mem hlt);have e1:¬(r[k] < 0):=by omega
    have e2:¬(r[k] ≥ n):=by omega
    simp only [hc,decide_true,if_true,xF hlt,e1,e2,decide_false,Bool.false_eq_true,if_false,Option.bind_eq_bind,Option.bind_some,Option.pure_def];rw [tR (by omega)];exact ih (k + 1) (by omega)
theorem insts_l1 (P:zW) (hb:BG P) (h:validP P=true):∀ (j i:Nat),i + j=(progI P).length→M.laws_FnProgramInstances_l1 P (progI P) (totL P.Arrays 0) (i:Int)=some (.done ()):=by
  have hlen:=(zIo h).2.2.2;intro j
  induction j with
  | zero =>
    intro i hi;rw [M.laws_FnProgramInstances_l1];have:¬((i:Int) < ((progI P).length:Int)):=by omega
    simp only [this,decide_false,Bool.false_eq_true,if_false,Option.pure_def]
  | succ j ih =>
    intro i hi;rw [M.laws_FnProgramInstances_l1];have hlt:i < (progI P).length:=by omega
    have hc:((i:Int) < ((progI P).length:Int)):=by omega
    have hz:=List.getElem_mem hlt;obtain ⟨r,w,hrw,⟨w1,w2⟩,hrl,hr⟩:=implInstCells hb h hz;obtain ⟨i',s,hi',hs,z1,z2,hn,hin,hpt,_⟩:=zJP h hz;have hpin:=implPointIn (hb.2.2 _ (List.getElem_mem hi')).1 hn hpt hin;have hl2:=cells_l2 (totL P.Arrays 0) r hrl hr r.length 0 (Nat.zero_add _);rw [Int.natCast_zero] at hl2;have e1:¬(w < 0):=by omega
    have e2:¬(w ≥ totL P.Arrays 0):=by omega
    simp only [hc,decide_true,if_true,xF hlt,hrw,e1,e2,decide_false,Bool.false_eq_true,if_false,z1,xF hi',hpin,hl2,Option.bind_eq_bind,Option.bind_some,Option.pure_def,Bool.not_true];rw [tR (by omega)];exact ih (i + 1) (by omega)
theorem law_ProgramInstances (code:List UInt8):∃ r,M.laws_FnProgramInstances code=some r∧r=true:=by
  obtain ⟨y,hy,hb,hAR⟩:=drawProg code;unfold M.laws_FnProgramInstances;refine ⟨true,?_,rfl⟩;have hd:M.spec_DrawProgramInstances code=some y:=by unfold M.spec_DrawProgramInstances; rw [hy]; rfl
  by_cases h1:(code.length:Int) > 1048576
  · simp [h1]
  · simp only [h1,decide_false,Bool.false_eq_true,if_false,hd,implInstP y hb,specInstP y hb,implCount y hb,Option.pure_def,Option.bind_eq_bind,Option.bind_some];cases hv:validP y with
    | false =>
      have hr:=inst_refl [] (by simp) (fun _ h=>by cases h);have hl:M.laws_FnProgramInstances_l1 y [] 0 0=some (.done ()):=by rw [M.laws_FnProgramInstances_l1]; simp
      simp [hr,hl]
    | true =>
      have hlen:=(zIo hv).2.2.2;have hr:=inst_refl (progI y) (by omega) (fun x hx=>by have:=progI_pt hx; omega);have hl:=insts_l1 y hb hv _ 0 (Nat.zero_add _);rw [Int.natCast_zero] at hl;have e:(((progI y).length:Int) ≤ 120):=by omega
      simp only [if_true,hr,hl,Option.bind_some,Bool.not_true,Bool.false_eq_true,if_false,e,decide_true]
end Go.LN
