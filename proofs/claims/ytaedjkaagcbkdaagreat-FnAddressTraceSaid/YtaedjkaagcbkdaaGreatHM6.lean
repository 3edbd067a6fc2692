/- Helper of the proof (see the last text). -/
import Derived.Test.YtaedjkaagcbkdaaGreatHM5
set_option linter.unusedVariables false
set_option linter.unusedSimpArgs false
namespace Go.LN
open Go.Proofs
set_option maxRecDepth 20000
def eE (r:Bool):KT:=fun kk imm' hs' v=>
  ∃ v0,hs'=[]∧v=tupV [v0]∧v0=.bool r
def nV (a0:(List Int)) (b:(List Int)) (i:Int):Option (Out Unit (Bool)):=do
 if (decide (i < (a0.length:Int))) then
  let x←idx a0 i
  let x1←idx b i
  if (x != x1) then
   pure (.ret false)
  else
   nV a0 b (W (i + 1))
 else
  pure (.done ())
 partial_fixpoint
theorem zCQ (a0:(List Int)) (b:(List Int)):∀ (i:Int) (o:Out Unit (Bool)),nV a0 b i=some o→∀ {B}{imm0 imm:Imm}{Q p c p1 c1},imm0.le imm→(S4 imm p a0 c)→(S4 imm p1 b c1)→(∀ gl a w,¬Q (.goto gl) a w)→(∀ a w,¬Q .outgrown a w)→(∀ (imm':Imm) ,o=(.done ())→imm0.le imm'→T 26 B Q (.exit 0) imm' [] [])→(∀ r imm' hs' m',o=(.ret r)→imm0.le imm'→RS Tryz.prog Tryz.f35 B (eE  r) imm' hs' m'→T 26 B Q .ret imm' hs' m')→J Tryz.prog 26 B (nav (bodyOf Tryz.f35) [1,1,0,1,0]) Q imm [] [(0,vS p a0 c),(1,vS p1 b c1),(5,vI i)]:=by
 refine nV.partial_correctness a0 b _ ?_;intro self ih i o hM B imm0 imm Q p c p1 c1 hle h h1 hg ho hx hr;refine xA hg ho<|zG<|zG<|zB<|yA [] [(14,.bool (decide (i < (a0.length:Int))))]<|zF<|yO hM ?_ ?_
 · intro hc1 hM;refine yE<|zF<|zG<|yC<|zG<|kA (by kernel_rfl) (by kernel_rfl)<|fH 2 [] [(17,vS p a0 c),(18,vI i)] ?_;obtain ⟨x,hy,hM⟩:=zC hM;refine zBd rfl rfl h hy ?_;intro ad ccs hat hrep;obtain rfl:=hrep;refine zBc 0 hat [vI x] (vI x) rfl<|fH 6 [] [(21,vS p1 b c1),(22,vI i)] ?_;obtain ⟨x1,hy1,hM⟩:=zC hM;refine zBd rfl rfl h1 hy1 ?_;intro ad1 ccs1 hat1 hrep1;obtain rfl:=hrep1;refine zBc 0 hat1 [vI x1] (vI x1) rfl<|zC3 [] [(25,.bool (x != x1))]<|zF<|yO hM ?_ ?_
   · intro hc2 hM;exact zG<|zB<|yA [] [(4,.bool false)]<|zF<|yI<|yF<|zP<|zP<|hr _ _ _ _ (zD hM).symm hle ⟨_,_,(.tmp rfl ResV.nil),zX,⟨_,rfl,rfl,rfl⟩⟩
   intro hc2 hM;exact yE<|zY<|zF<|zB<|yA [] [(5,vI (W (i + 1)))]<|xB<|vG [(0,vS p a0 c),(1,vS p1 b c1),(5,vI (W (i + 1)))]<|ih (W (i + 1)) _ hM hle h h1 hg ho hx hr
 intro hc1 hM;exact yZ<|zS<|zS<|yS []<|hx _  (zD hM).symm hle
def zAv (a0:(List Int)) (b:(List Int)):Option (Bool):=do
 if ((a0.length:Int) != (b.length:Int)) then
  pure false
 else
  match←nV a0 b 0 with
  | .ret r0=>pure r0
  | .done _ =>
   pure true
theorem zHm:∀ (a0:(List Int)) (b:(List Int)) r,zAv a0 b=some r→∀ {imm:Imm}{p c p1 c1},(S4 imm p a0 c)→(S4 imm p1 b c1)→Ret Tryz.prog 35 [vS p a0 c,vS p1 b c1] imm [] (eE  r):=by
 intro a0 b r hM imm p c p1 c1 h h1;unfold zAv at hM;refine yH (fn:=Tryz.f35) (c:=(bodyOf Tryz.f35)) Tryz.func35 rfl rfl ?_;rintro B - -;refine zG<|zB<|yA [] []<|zF<|zG<|zG<|zB<|yA [] [(10,.bool ((a0.length:Int) != (b.length:Int)))]<|zF<|yO hM ?_ ?_
 · intro hc hM;refine zG<|zB<|yA [] [(4,.bool false)]<|zF<|yI<|zP ?_;obtain rfl:=zD hM;exact yP ⟨_,_,(.tmp rfl ResV.nil),zX,⟨_,rfl,rfl,rfl⟩⟩
 intro hc hM;refine yE<|zF<|zG<|zG<|zB<|yA [] [(5,vI 0)]<|zF<|yC<|vG [(0,vS p a0 c),(1,vS p1 b c1),(5,vI 0)] ?_;obtain ⟨o0,ho0,hMl⟩:=zC hM;refine zCQ a0 b 0 o0 ho0 iR h h1 (fun _ _ _ h=>h) (fun _ _ h=>h) ?_ ?_
 · intro imm0  heq le;subst o0;refine yD<|zF<|zG<|zB<|yA [] [(4,.bool true)]<|zF<|yI ?_;obtain rfl:=zD hMl;exact yP ⟨_,_,(.tmp rfl ResV.nil),zX,⟨_,rfl,rfl,rfl⟩⟩
 intro r0 imm9 hs9 m9 heq9 le9 hrs9;subst heq9;refine yF<|zP ?_;obtain rfl:=zD hMl;exact yP hrs9
end Go.LN
