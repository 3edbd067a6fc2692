/- Helper of the proof (see the last text). -/
import Derived.Test.YtaedjkaagcbkdaaGreatLnA
import Derived.Test.YtaedjkaagcbkdaaGreatLnB
import Derived.Test.YtaedjkaagcbkdaaGreatLnC
import Derived.Test.YtaedjkaagcbkdaaGreatLnD
import Derived.Test.YtaedjkaagcbkdaaGreatLnE
import Derived.Test.YtaedjkaagcbkdaaGreatLnF
import Derived.Test.YtaedjkaagcbkdaaGreatLnG
import Derived.Test.YtaedjkaagcbkdaaGreatLnH
import Derived.Test.YtaedjkaagcbkdaaGreatLnI
import Derived.Test.YtaedjkaagcbkdaaGreatLnJ
import Derived.Test.YtaedjkaagcbkdaaGreatLnK
import Derived.Test.YtaedjkaagcbkdaaGreatLnL
import Derived.Test.YtaedjkaagcbkdaaGreatLnM
import Derived.Test.YtaedjkaagcbkdaaGreatLnN
import Derived.Test.YtaedjkaagcbkdaaGreatLnO
import Derived.Test.YtaedjkaagcbkdaaGreatLnP
import Derived.Test.YtaedjkaagcbkdaaGreatLnQ
import Derived.Test.YtaedjkaagcbkdaaGreatLnTZ
import Derived.Test.YtaedjkaagcbkdaaGreatLnUZ
import Derived.Test.YtaedjkaagcbkdaaGreatLnV
import Derived.Test.YtaedjkaagcbkdaaGreatLnSZ
import Derived.Test.YtaedjkaagcbkdaaGreatLnW
import Derived.Test.YtaedjkaagcbkdaaGreatLnX
import Derived.Test.YtaedjkaagcbkdaaGreatLnY
import Derived.Test.YtaedjkaagcbkdaaGreatTryzShelf
import Derived.Test.YtaedjkaagcbkdaaGreatHM1
import Derived.Test.YtaedjkaagcbkdaaGreatHM2
import Derived.Test.YtaedjkaagcbkdaaGreatHM3
import Derived.Test.YtaedjkaagcbkdaaGreatHM4
import Derived.Test.YtaedjkaagcbkdaaGreatHM5
import Derived.Test.YtaedjkaagcbkdaaGreatHM6
import Derived.Test.YtaedjkaagcbkdaaGreatHM7
import Derived.Test.YtaedjkaagcbkdaaGreatQT
import Derived.Test.YtaedjkaagcbkdaaGreatQZ
import Derived.Test.YtaedjkaagcbkdaaGreatVB1
import Derived.Test.YtaedjkaagcbkdaaGreatVB2
import Derived.Test.YtaedjkaagcbkdaaGreatVB3
import Derived.Test.YtaedjkaagcbkdaaGreatVB4
import Derived.Test.YtaedjkaagcbkdaaGreatVB5
import Derived.Test.YtaedjkaagcbkdaaGreatVB6
import Derived.Test.YtaedjkaagcbkdaaGreatVB7
import Derived.Test.YtaedjkaagcbkdaaGreatVB8
import Derived.Test.YtaedjkaagcbkdaaGreatVC1
import Derived.Test.YtaedjkaagcbkdaaGreatVC2
import Derived.Test.YtaedjkaagcbkdaaGreatVC3
import Derived.Test.YtaedjkaagcbkdaaGreatLnR
namespace Go.LN
set_option linter.unusedVariables false
set_option linter.unusedSimpArgs false
def Imm.del (i : Imm) (b : Nat) : Imm := fun x => if x = b then none else i x
section
variable {B : Base} {imm : Imm} {hs : List HA} {w : World}
theorem Good.lend {A : HA} (h : Good B imm (A :: hs) w) (hpl : A.plain = true) : ∃ imm1, imm.le imm1 ∧ Lent imm1 A ∧ Good ⟨w, imm1, hs.flatMap HA.fp⟩ imm1 hs w ∧
    ∀ imm2 hs' w', Good ⟨w, imm1, hs.flatMap HA.fp⟩ imm2 hs' w' → ∃ imm3, imm.le imm3 ∧ imm3.le imm2 ∧ (∀ b c, imm2 b = some c → w.heap.size ≤ b → imm3 b = some c) ∧ Good ⟨w, imm, (A :: hs).flatMap HA.fp⟩ imm3 (A :: hs') w' := by
  have hA := h.own _ (List.mem_cons_self ..)
  have hnd := h.nodup
  rw [List.flatMap_cons] at hnd
  obtain ⟨_, hnd2, hdis⟩ := List.nodup_append.1 hnd
  rcases hA.cells hpl with ⟨hfp, hL⟩ | ⟨b, c, ty, hfp, hc, hL⟩
  · refine ⟨imm, Imm.le.refl _, hL _, h.tail.enter (fun _ h => h) hnd2, fun imm2 hs' w' h' => ⟨imm2, fun _ _ e => (h'.frm.imm _ (h.lt_imm e) (h.tail.nio e)).trans e, Imm.le.refl _, fun _ _ e _ => e, ?_⟩⟩
    have hA0 : ∀ (B : Base) (i : Imm) (w : World), A.ok B i w := fun B' i w' => hA.same (by simp [hfp]) (by simp [hfp]) (by simp [hfp])
    refine ⟨h'.inv, fun A' hA' => ?_, by rw [List.flatMap_cons, hfp]; exact h'.nodup, by rw [List.flatMap_cons, hfp]; exact h'.frm⟩
    rcases List.mem_cons.1 hA' with rfl | hA'
    · exact hA0 _ _ _
    · refine (h'.own A' hA').same (fun b' _ hp => ?_) (fun _ _ => rfl) (fun _ _ => rfl)
      rw [List.flatMap_cons, hfp]; exact hp
  · have hb : b ∈ A.fp := by simp [hfp]
    obtain ⟨h1, h2, h3⟩ := hA.lt hb
    have hbn : b ∉ hs.flatMap HA.fp := fun hb' => hdis b hb b hb' rfl
    have hle : imm.le (imm.add b c) := Imm.le_add c h3
    refine ⟨imm.add b c, hle, hL _ (Imm.add_self ..), ⟨fun b' c' e => ?_, fun A' hA' => ?_, hnd2, ⟨rfl, rfl, rfl, Nat.le_refl _, fun _ _ _ => rfl, fun _ _ _ => rfl⟩⟩, fun imm2 hs' w' h' => ?_⟩
    · unfold Imm.add at e
      split at e
      · rename_i hx; subst hx; cases e; exact ⟨ty, _, hc⟩
      · exact h.inv b' c' e
    · refine (h.own A' (List.mem_cons_of_mem _ hA')).same (fun b' hb' _ => .inr (List.mem_flatMap.2 ⟨A', hA', hb'⟩)) (fun b' hb' => ?_) (fun _ _ => rfl)
      have : b' ≠ b := by intro e; subst e; exact hbn (List.mem_flatMap.2 ⟨A', hA', hb'⟩)
      simp [Imm.add, this]
    · have hdel : ∀ b', b' ≠ b → (imm2.del b) b' = imm2 b' := fun b' hne => by simp [Imm.del, hne]
      have hself : (imm2.del b) b = none := by simp [Imm.del]
      have hnew : ∀ b' ∈ hs'.flatMap HA.fp, b' ≠ b := fun b' hb' e => by
        subst e
        rcases (h'.mem_lt hb').2.1 with hp | hp
        · have : w.heap.size ≤ b' := hp
          omega
        · exact hbn hp
      refine ⟨imm2.del b, fun b' c' e => ?_, fun b' c' e => ?_, fun b' c' e hlt => ?_, ⟨fun b' c' e => ?_, fun A' hA' => ?_, ?_, ⟨h'.frm.os, h'.frm.tape, h'.frm.output, h'.frm.size, fun b' hlt hio => ?_, fun b' hlt hio => ?_⟩⟩⟩
      · have hne : b' ≠ b := by intro e'; subst e'; rw [h3] at e; cases e
        rw [hdel _ hne]
        exact (h'.frm.imm b' (h.lt_imm e) (h.tail.nio e)).trans (hle _ _ e)
      · by_cases hne : b' = b
        · subst hne; rw [hself] at e; cases e
        · rwa [hdel _ hne] at e
      · rw [hdel _ (by omega)]; exact e
      · by_cases hne : b' = b
        · subst hne; rw [hself] at e; cases e
        · rw [hdel _ hne] at e; exact h'.inv b' c' e
      · rcases List.mem_cons.1 hA' with rfl | hA'
        · refine hA.same (fun b' hb' _ => .inr (by rw [List.flatMap_cons]; exact List.mem_append_left _ hb')) (fun b' hb' => ?_) (fun b' hb' => ?_)
          · rw [hfp] at hb'; simp at hb'; subst hb'; rw [hself, h3]
          · rw [hfp] at hb'; simp at hb'; subst hb'; exact h'.frm.heap _ h1 hbn
        · refine (h'.own A' hA').same (fun b' _ hp => ?_) (fun b' hb' => hdel _ (hnew b' (List.mem_flatMap.2 ⟨A', hA', hb'⟩))) (fun _ _ => rfl)
          rcases hp with hp | hp
          · exact .inl hp
          · exact .inr (by rw [List.flatMap_cons]; exact List.mem_append_right _ hp)
      · rw [List.flatMap_cons]
        refine List.nodup_append.2 ⟨by rw [hfp]; simp, h'.nodup, fun x hx y hy e => ?_⟩
        subst e
        rw [hfp] at hx; simp at hx
        exact hnew x hy hx
      · exact h'.frm.heap b' hlt (fun hb' => hio (by rw [List.flatMap_cons]; exact List.mem_append_right _ hb'))
      · by_cases hne : b' = b
        · subst hne; rw [hself]; exact h3.symm
        · rw [hdel _ hne]
          refine (h'.frm.imm b' hlt (fun hb' => hio (by rw [List.flatMap_cons]; exact List.mem_append_right _ hb'))).trans ?_
          simp [Imm.add, hne]
end
end Go.LN
namespace Go.LN
section
variable {P : Program} {n : Nat} {B : Base} {Q : Exit → Act → World → Prop} {imm : Imm} {hs : List HA} {m : FM} {ops : List Oper} {pc d : Nat}
theorem Good.lendL : ∀ (L : List HA) {B : Base} {imm : Imm} {hs : List HA} {w : World}, Good B imm (L ++ hs) w → L.all HA.plain = true → ∃ imm1, imm.le imm1 ∧ (∀ A ∈ L, Lent imm1 A) ∧ Good ⟨w, imm1, hs.flatMap HA.fp⟩ imm1 hs w ∧
    ∀ imm2 hs' w', Good ⟨w, imm1, hs.flatMap HA.fp⟩ imm2 hs' w' → ∃ imm3, imm.le imm3 ∧ imm3.le imm2 ∧ (∀ b c, imm2 b = some c → w.heap.size ≤ b → imm3 b = some c) ∧ Good ⟨w, imm, (L ++ hs).flatMap HA.fp⟩ imm3 (L ++ hs') w'
  | [], B, imm, hs, w, h, _ => by
    refine ⟨imm, Imm.le.refl _, by simp, h.enter (fun _ h => h) h.nodup, fun imm2 hs' w' h' => ⟨imm2, fun _ _ e => (h'.frm.imm _ (h.lt_imm e) (h.nio e)).trans e, Imm.le.refl _, fun _ _ e _ => e, h'⟩⟩
  | A :: L, B, imm, hs, w, h, hpl => by
    rw [List.all_cons, Bool.and_eq_true] at hpl
    obtain ⟨i1, h1, h2, h3, h4⟩ := Good.lend (A := A) (hs := L ++ hs) h hpl.1
    obtain ⟨i2, k1, k2, k3, k4⟩ := Good.lendL L h3 hpl.2
    refine ⟨i2, h1.trans k1, fun A' hA' => ?_, k3, fun imm2 hs' w' h' => ?_⟩
    · rcases List.mem_cons.1 hA' with rfl | hA'
      · exact h2.mono k1
      · exact k2 _ hA'
    · obtain ⟨i3, l1, l2, l3, l4⟩ := k4 imm2 hs' w' h'
      obtain ⟨i4, m1, m2, m3, m4⟩ := h4 i3 (L ++ hs') w' l4
      exact ⟨i4, m1, m2.trans l2, fun b c e hb => m3 b c (l3 b c e hb) hb, m4⟩
theorem R_call_lend {f : FuncId} {x : Operand} {xs : Array Operand} {ts : Array TypeId} {ty : TypeId} {pos : String} {after : Array Edge} {g : Option (Nat × Bool)} {vs : List Value} {L hs1 rest : List HA} {post : Nat → Imm → List HA → Value → Prop}
    (ho : ops[pc]? = some ⟨some d, .call { callee := .value x, args := xs, argTypes := ts }, ty, pos, after, g⟩) (hg : guardB ops m g = some true) (hn : Nat.blt d n = true) (hx : val m x = some (.func (.func f) #[] #[])) (hf : callable P f = true)
    (hvs : vals m xs.toList = some vs) (hh : hs = (L ++ hs1) ++ rest) (hc : ∀ imm1, imm.le imm1 → (∀ A ∈ L, Lent imm1 A) → Ret P f vs imm1 hs1 post)
    (next : ∀ imm2 imm3 hs' v k, imm.le imm3 → imm3.le imm2 → B.w0.heap.size ≤ k → (∀ b c, imm2 b = some c → k ≤ b → imm3 b = some c) → post k imm2 hs' v → (∀ b ∈ (L ++ hs').flatMap HA.fp, b ∈ (L ++ hs1).flatMap HA.fp ∨ B.w0.heap.size ≤ b) →
      R P n B ops Q (pc + 1) imm3 ((L ++ hs') ++ rest) ((d, v) :: m)) (hpl : L.all HA.plain = true := by rfl) : R P n B ops Q pc imm hs m :=
  zEU ho hg fun a w fr gd => by
    subst hh
    have hargs : xs.map a.eval = vs.toArray := by apply Array.ext'; rw [Array.toList_map, fr.evals hvs]
    have hnd := gd.nodup
    rw [List.flatMap_append] at hnd
    have hg1 := gd.sub (hs' := L ++ hs1) (fun A hA => List.mem_append_left _ hA) (List.nodup_append.1 hnd).1
    obtain ⟨imm1, h1, h2, h3, h4⟩ := Good.lendL L hg1 hpl
    unfold Oper.wp
    simp only [execOp, resolve, Deferred.ofValue, fr.eval hx, hargs, Sem.run_bind, Sem.run_pure, Result.andThen_ok, invoke, Array.empty_append, Array.append_empty, zAo hf, Oper.upon]
    refine (hc imm1 h1 h2 w h3).mono fun e w' he => ?_
    cases e with
    | returned v =>
      obtain ⟨imm2, hs', hp, hgood⟩ := he
      obtain ⟨imm3, k1, k2, k3, k4⟩ := h4 imm2 hs' w' hgood
      obtain ⟨g2, hle, hfp⟩ := gd.leave k4
      exact next imm2 imm3 hs' v w.heap.size hle k2 gd.frm.size k3 hp hfp _ w' (fr.put d v (by simpa using hn)) g2
    | panicked c => exact he.elim
    | outgrown => exact he.elim
end
end Go.LN
namespace Go.LN
open Go.Proofs
set_option maxRecDepth 20000
def impl_ProgramValid_post (r:Bool):KT:=fun kk imm' hs' v=>
  ∃ v0,hs'=[]∧v=tupV [v0]∧v0=.bool r
def M.impl_ProgramValid (p:zZ):Option (Bool):=do
 let (y1,y2)←rQ p
 pure (id y2)
theorem impl_ProgramValid_ok:∀ (p:zZ) r,M.impl_ProgramValid p=some r→∀ {imm:Imm}{p1 c p2 c1},(S4 imm p1 p.Arrays c)→(S4 imm p2 p.Parts c1)→Ret Tryz.prog 18 [vA (cProg p p1 c p2 c1)] imm [] (impl_ProgramValid_post  r):=by
 intro p r hM imm p1 c p2 c1 h h1;unfold M.impl_ProgramValid at hM;refine yF (fn:=Tryz.f18) (c:=(bodyOf Tryz.f18)) Tryz.func18 rfl rfl ?_;rintro B - -;have hle:=iS imm;refine zF<|zB<|sD (cProg p p1 c p2 c1) ?_;intro b hb;refine zY [] []<|zE<|zF<|zB<|yK 1 [0] [(6,vA (cProg p p1 c p2 c1))] ?_;obtain ⟨⟨y1,y2⟩,hy,hM⟩:=zC hM;refine yR (zDc p _ hy h h1) ?_;rintro imm0 hs2 v2 k2 le - ⟨v0,v01,rfl,rfl,h2,rfl⟩ -;have h:=h.mono le;have h1:=h1.mono le;have hle:=hle.trans le;obtain ⟨p3,c2,rfl⟩:=h2.form;refine zY [] [(4,.bool y2)]<|zE<|zF<|zB<|zY [] [(2,.bool y2)]<|zE<|yJ ?_;obtain rfl:=zD hM;exact yQ ⟨_,_,(.tmp rfl ResV.nil),zV,⟨_,rfl,rfl,rfl⟩⟩
def impl_Program_cells_post (r:Int):KT:=fun kk imm' hs' v=>
  ∃ v0,hs'=[]∧v=tupV [v0]∧v0=.int .i64 r
def M.impl_Program_cells_l1 (p:zZ) (n0:Int) (t9:Int):Option (Int):=do
 if (decide (t9 < (p.Arrays.length:Int))) then
  let x←idx p.Arrays t9
  let y←pH x
  M.impl_Program_cells_l1 p (W (n0 + y)) (W (t9 + 1))
 else
  pure (id n0)
 partial_fixpoint
theorem impl_Program_cells_l1_ok (p:zZ):∀ (n0:Int) (t9:Int) (o:Int),M.impl_Program_cells_l1 p n0 t9=some o→∀ {B}{imm0 imm:Imm}{Q p1 c},imm0.le imm→(S4 imm p1 p.Arrays c)→(∀ l a w,¬Q (.goto l) a w)→(∀ a w,¬Q .outgrown a w)→(∀ (imm':Imm) (n01:Int),o=n01→imm0.le imm'→T 19 B Q (.exit 0) imm' [] [(3,vI n01)])→J Tryz.prog 19 B (nav (bodyOf Tryz.f55) [1,1,0,1,0]) Q imm [] [(3,vI n0),(7,vS p1 p.Arrays c),(8,vI (p.Arrays.length:Int)),(9,vI t9)]:=by
 refine M.impl_Program_cells_l1.partial_correctness p _ ?_;intro self ih n0 t9 o hM B imm0 imm Q p1 c hle h hg ho hx;refine xF hg ho<|zF<|zB<|zY [] [(10,.bool (decide (t9 < (p.Arrays.length:Int))))]<|zE<|zF<|yP hM ?_ ?_
 · intro hc hM;refine yD<|zE<|zF<|yB<|zF<|zB ?_;obtain ⟨x,hy,hM⟩:=zC hM;refine wJ rfl rfl h hy ?_;intro ad ccs hat hrep;obtain ⟨v0,rfl,h2⟩:=xU hrep;obtain ⟨p3,c2,rfl⟩:=h2.form;refine xX 0 hat (cArr x p3 c2) (vA (cArr x p3 c2)) rfl<|uJ [vT ([]),z0] ?_;intro b1 hb1;refine xI 0 (cArr x p3 c2) [hB b1 (cArr x p3 c2)] rfl rfl rfl rfl<|yN rfl<|zE<|zB<|yK 2 [0] [(13,vI n0),(14,vA (cArr x p3 c2))] ?_;obtain ⟨y,hy1,hM⟩:=zC hM;refine yR (zAi x _ hy1 h2) ?_;rintro imm0 hs2 v2 k2 le - ⟨v01,rfl,rfl,rfl⟩ -;have h:=h.mono le;have h2:=h2.mono le;have hle:=hle.trans le;exact zY [] [(3,vI (W (n0 + y)))]<|zW<|zE<|zB<|zY [] [(9,vI (W (t9 + 1)))]<|xG<|qR (zL [] rfl (by decide))<|uA [(3,vI (W (n0 + y))),(7,vS p1 p.Arrays c),(8,vI (p.Arrays.length:Int)),(9,vI (W (t9 + 1)))]<|ih (W (n0 + y)) (W (t9 + 1)) _ hM hle h hg ho hx
 intro hc hM;exact xB<|zT<|zT<|yU [(3,vI n0)]<|hx _ _ (zD hM).symm hle
def M.impl_Program_cells (p:zZ):Option (Int):=do
 let n01←M.impl_Program_cells_l1 p 0 0
 pure (id n01)
theorem impl_Program_cells_ok:∀ (p:zZ) r,M.impl_Program_cells p=some r→∀ {imm:Imm}{p1 c p2 c1},(S4 imm p1 p.Arrays c)→(S4 imm p2 p.Parts c1)→Ret Tryz.prog 55 [vA (cProg p p1 c p2 c1)] imm [] (impl_Program_cells_post  r):=by
 intro p r hM imm p1 c p2 c1 h h1;unfold M.impl_Program_cells at hM;refine yF (fn:=Tryz.f55) (c:=(bodyOf Tryz.f55)) Tryz.func55 rfl rfl ?_;rintro B - -;have hle:=iS imm;refine zF<|zB<|sD (cProg p p1 c p2 c1) ?_;intro b hb;refine zY [] []<|zE<|zF<|zB<|zY [] [(3,vI 0)]<|zE<|zF<|zF<|zB<|zY [0] [(7,vS p1 p.Arrays c),(8,vI (p.Arrays.length:Int)),(9,vI 0)]<|zE<|yB<|qR (zL [] (hs':=[]) rfl (by decide))<|uA [(3,vI 0),(7,vS p1 p.Arrays c),(8,vI (p.Arrays.length:Int)),(9,vI 0)] ?_;obtain ⟨o0,ho0,hMl⟩:=zC hM;refine impl_Program_cells_l1_ok p 0 0 o0 ho0 iR h (fun _ _ _ h=>h) (fun _ _ h=>h) ?_;intro imm01 n01 heq le1;subst o0;have hle:=hle.trans le1;refine yC<|zE<|zF<|zB<|zY [] [(2,vI n01)]<|zE<|yJ ?_;obtain rfl:=zD hMl;exact yQ ⟨_,_,(.tmp rfl ResV.nil),zV,⟨_,rfl,rfl,rfl⟩⟩
def impl_CountCells_post (r:Int):KT:=fun kk imm' hs' v=>
  ∃ v0,hs'=[]∧v=tupV [v0]∧v0=.int .i64 r
def M.impl_CountCells (p:zZ):Option (Int):=do
 let y←M.impl_ProgramValid p
 if (!y) then
  pure (id 0)
 else
  let y1←M.impl_Program_cells p
  pure (id y1)
theorem impl_CountCells_ok:∀ (p:zZ) r,M.impl_CountCells p=some r→∀ {imm:Imm}{p1 c p2 c1},(S4 imm p1 p.Arrays c)→(S4 imm p2 p.Parts c1)→Ret Tryz.prog 21 [vA (cProg p p1 c p2 c1)] imm [] (impl_CountCells_post  r):=by
 intro p r hM imm p1 c p2 c1 h h1;unfold M.impl_CountCells at hM;refine yF (fn:=Tryz.f21) (c:=(bodyOf Tryz.f21)) Tryz.func21 rfl rfl ?_;rintro B - -;have hle:=iS imm;refine zF<|zB<|sD (cProg p p1 c p2 c1) ?_;intro b hb;refine zY [] []<|zE<|zF<|zF<|zB<|yK 1 [0] [(3,vA (cProg p p1 c p2 c1))] ?_;obtain ⟨y,hy,hM⟩:=zC hM;refine yR (impl_ProgramValid_ok p _ hy h h1) ?_;rintro imm0 hs2 v2 k2 le - ⟨v0,rfl,rfl,rfl⟩ -;have h:=h.mono le;have h1:=h1.mono le;have hle:=hle.trans le;refine zY [] [(5,.bool (!y))]<|zE<|yP hM ?_ ?_
 · intro hc hM;refine zF<|zB<|zY [] [(2,vI 0)]<|zE<|yJ<|zQ ?_;obtain rfl:=zD hM;exact yQ ⟨_,_,(.tmp rfl ResV.nil),zV,⟨_,rfl,rfl,rfl⟩⟩
 intro hc hM;refine yD<|zE<|zF<|zB<|yK 1 [0] [(6,vA (cProg p p1 c p2 c1))] ?_;obtain ⟨y1,hy1,hM⟩:=zC hM;refine yR (impl_Program_cells_ok p _ hy1 h h1) ?_;rintro imm01 hs2 v2 k2 le1 - ⟨v01,rfl,rfl,rfl⟩ -;have h:=h.mono le1;have h1:=h1.mono le1;have hle:=hle.trans le1;refine zY [] [(2,vI y1)]<|zE<|yJ ?_;obtain rfl:=zD hM;exact yQ ⟨_,_,(.tmp rfl ResV.nil),zV,⟨_,rfl,rfl,rfl⟩⟩
def spec_l4Total_post (r:Int):KT:=fun kk imm' hs' v=>
  ∃ v0,hs'=[]∧v=tupV [v0]∧v0=.int .i64 r
def M.spec_l4Total_l1 (p:zZ) (n0:Int) (i:Int):Option (Int):=do
 if (decide (i < (p.Arrays.length:Int))) then
  let x←idx p.Arrays i
  let y←pK x
  M.spec_l4Total_l1 p (W (n0 + y)) (W (i + 1))
 else
  pure (id n0)
 partial_fixpoint
theorem spec_l4Total_l1_ok (p:zZ):∀ (n0:Int) (i:Int) (o:Int),M.spec_l4Total_l1 p n0 i=some o→∀ {B}{imm0 imm:Imm}{Q p1 c p2 c1}{b:Nat},imm0.le imm→(S4 imm p1 p.Arrays c)→(S4 imm p2 p.Parts c1)→(∀ l a w,¬Q (.goto l) a w)→(∀ a w,¬Q .outgrown a w)→(∀ (imm':Imm) (n01:Int),o=n01→imm0.le imm'→T 21 B Q (.exit 0) imm' [] [(3,vI n01)])→J Tryz.prog 21 B (nav (bodyOf Tryz.f56) [1,1,0,1,0]) Q imm [hB b (cProg p p1 c p2 c1)] [(1,vP b 0),(3,vI n0),(4,vI i)]:=by
 refine M.spec_l4Total_l1.partial_correctness p _ ?_;intro self ih n0 i o hM B imm0 imm Q p1 c p2 c1 b hle h h1 hg ho hx;refine xF hg ho<|zF<|zF<|zB<|zY [0] [(9,.bool (decide (i < (p.Arrays.length:Int))))]<|zE<|yP hM ?_ ?_
 · intro hc hM;refine yD<|zE<|zF<|yB<|zB<|yK 4 [0] [(12,vI n0),(14,vS p1 p.Arrays c),(15,vI i)] ?_;obtain ⟨x,hy,hM⟩:=zC hM;refine wJ rfl rfl h hy ?_;intro ad ccs hat hrep;obtain ⟨v0,rfl,h2⟩:=xU hrep;obtain ⟨p3,c2,rfl⟩:=h2.form;refine xX 0 hat (cArr x p3 c2) (vA (cArr x p3 c2)) rfl ?_;obtain ⟨y,hy1,hM⟩:=zC hM;refine yR (zDD x _ hy1 h2) ?_;rintro imm0 hs2 v2 k2 le - ⟨v01,rfl,rfl,rfl⟩ -;have h:=h.mono le;have h1:=h1.mono le;have hle:=hle.trans le;exact zY [] [(3,vI (W (n0 + y)))]<|zW<|zE<|zB<|zY [] [(4,vI (W (i + 1)))]<|xG<|uA [(1,vP b 0),(3,vI (W (n0 + y))),(4,vI (W (i + 1)))]<|ih (W (n0 + y)) (W (i + 1)) _ hM hle h h1 hg ho hx
 intro hc hM;exact xB<|zT<|zT<|wE (zL [] rfl (by decide))<|yU [(3,vI n0)]<|hx _ _ (zD hM).symm hle
def M.spec_l4Total (p:zZ):Option (Int):=do
 let n01←M.spec_l4Total_l1 p 0 0
 pure (id n01)
theorem spec_l4Total_ok:∀ (p:zZ) r,M.spec_l4Total p=some r→∀ {imm:Imm}{p1 c p2 c1},(S4 imm p1 p.Arrays c)→(S4 imm p2 p.Parts c1)→Ret Tryz.prog 56 [vA (cProg p p1 c p2 c1)] imm [] (spec_l4Total_post  r):=by
 intro p r hM imm p1 c p2 c1 h h1;unfold M.spec_l4Total at hM;refine yF (fn:=Tryz.f56) (c:=(bodyOf Tryz.f56)) Tryz.func56 rfl rfl ?_;rintro B - -;have hle:=iS imm;refine zF<|zB<|sD (cProg p p1 c p2 c1) ?_;intro b hb;refine zY [] []<|zE<|zF<|zB<|zY [] [(3,vI 0)]<|zE<|zF<|zF<|zB<|zY [] [(4,vI 0)]<|zE<|yB<|uA [(1,vP b 0),(3,vI 0),(4,vI 0)] ?_;obtain ⟨o0,ho0,hMl⟩:=zC hM;refine spec_l4Total_l1_ok p 0 0 o0 ho0 iR h h1 (fun _ _ _ h=>h) (fun _ _ h=>h) ?_;intro imm01 n01 heq le1;subst o0;have hle:=hle.trans le1;refine yC<|zE<|zF<|zB<|zY [] [(2,vI n01)]<|zE<|yJ ?_;obtain rfl:=zD hMl;exact yQ ⟨_,_,(.tmp rfl ResV.nil),zV,⟨_,rfl,rfl,rfl⟩⟩
end Go.LN
namespace Go.LN
open Go.Proofs
set_option maxRecDepth 20000
def spec_CountCells_post (r:Int):KT:=fun kk imm' hs' v=>
  ∃ v0,hs'=[]∧v=tupV [v0]∧v0=.int .i64 r
def M.spec_CountCells (p:zZ):Option (Int):=do
 let y←tE p
 if (!y) then
  pure (id 0)
 else
  let y1←M.spec_l4Total p
  pure (id y1)
theorem spec_CountCells_ok:∀ (p:zZ) r,M.spec_CountCells p=some r→∀ {imm:Imm}{p1 c p2 c1},(S4 imm p1 p.Arrays c)→(S4 imm p2 p.Parts c1)→Ret Tryz.prog 22 [vA (cProg p p1 c p2 c1)] imm [] (spec_CountCells_post  r):=by
 intro p r hM imm p1 c p2 c1 h h1;unfold M.spec_CountCells at hM;refine yF (fn:=Tryz.f22) (c:=(bodyOf Tryz.f22)) Tryz.func22 rfl rfl ?_;rintro B - -;have hle:=iS imm;refine zF<|zB<|sD (cProg p p1 c p2 c1) ?_;intro b hb;refine zY [] []<|zE<|zF<|zF<|zB<|yK 1 [0] [(3,vA (cProg p p1 c p2 c1))] ?_;obtain ⟨y,hy,hM⟩:=zC hM;refine yR (eU p _ hy h h1) ?_;rintro imm0 hs2 v2 k2 le - ⟨v0,rfl,rfl,rfl⟩ -;have h:=h.mono le;have h1:=h1.mono le;have hle:=hle.trans le;refine zY [] [(5,.bool (!y))]<|zE<|yP hM ?_ ?_
 · intro hc hM;refine zF<|zB<|zY [] [(2,vI 0)]<|zE<|yJ<|zQ ?_;obtain rfl:=zD hM;exact yQ ⟨_,_,(.tmp rfl ResV.nil),zV,⟨_,rfl,rfl,rfl⟩⟩
 intro hc hM;refine yD<|zE<|zF<|zB<|yK 1 [0] [(6,vA (cProg p p1 c p2 c1))] ?_;obtain ⟨y1,hy1,hM⟩:=zC hM;refine yR (spec_l4Total_ok p _ hy1 h h1) ?_;rintro imm01 hs2 v2 k2 le1 - ⟨v01,rfl,rfl,rfl⟩ -;have h:=h.mono le1;have h1:=h1.mono le1;have hle:=hle.trans le1;refine zY [] [(2,vI y1)]<|zE<|yJ ?_;obtain rfl:=zD hM;exact yQ ⟨_,_,(.tmp rfl ResV.nil),zV,⟨_,rfl,rfl,rfl⟩⟩
def spec_l5Bend_post (b0:Nat) (r:(List Int)×zO):KT:=fun kk imm' hs' v=>
  ∃ v0 k0,hs'=[.blk b0 ⟨k0⟩]∧v=tupV [v0]∧SL imm' v0 r.1∧Rp.rep imm' k0 r.2
def M.spec_l5Bend (r0:zO) (m0:(List Int)):Option ((List Int)×zO):=do
 let out←app 8 ([]:List Int) m0
 let (y1,y2)←yW r0 40
 let (out1,x)←(do
   if (y1 == 0) then
    let out2←app 8 out ([0]:List Int)
    pure (out2,y2)
   else
    let (out3,x1)←(do
      if (y1 == 1) then
       let (out4,x2)←(do
         if (decide ((out.length:Int) > 0)) then
          let (y4,y5)←yW y2 (out.length:Int)
          let (y7,y8)←yV y5 ([1000,(-1),9223372036854775807]:List Int)
          let x3←idx out y4
          let l←pure (out.set y4.toNat y7)
          pure (l,y8)
         else
          pure (out,y2)
           : Option (List Int×zO))
       pure (out4,x2)
      else
       pure (out,y2)
        : Option (List Int×zO))
    pure (out3,x1)
     : Option (List Int×zO))
 pure (out1,x)
theorem spec_l5Bend_ok:∀ (r0:zO) (m0:(List Int)) r,M.spec_l5Bend r0 m0=some r→∀ {imm:Imm}{r01:Nat}{p c p1 c1},(S4 imm p r0.b c)→(S4 imm p1 m0 c1)→Ret Tryz.prog 73 [vP r01 0,vS p1 m0 c1] imm [hB r01 (cRd r0 p c)] (spec_l5Bend_post r01 r):=by
 intro r0 m0 r hM imm r01 p c p1 c1 h h1;unfold M.spec_l5Bend at hM;refine yF (fn:=Tryz.f73) (c:=(bodyOf Tryz.f73)) Tryz.func73 rfl rfl ?_;rintro B - -;have hle:=iS imm;refine zF<|zB<|zY [] []<|zE<|zF<|zB<|xY [] Int ?_;intro b hb;have h2:RL imm [] ([]:List Int):=rfl;refine yK 2 [] [(7,vS p1 m0 c1)] ?_;obtain ⟨ccs,k0,k01⟩:=h1;have h1:SL imm (vS p1 m0 c1) m0:=⟨_,k0,k01⟩;obtain ⟨out,hy,hM⟩:=zC hM;refine qS 3 1 0 rfl rfl rfl h2 (.inl k0) k01 hy ?_;intro p2 c2 cs h3;refine qC (zL [0,1] (hs':=[hO Int (vS p2 out c2) cs,hB r01 (cRd r0 p c)]) rfl (by decide))<|zY [] [(5,vS p2 out c2)]<|zE<|zF<|zF<|zB<|yK 1 [] [(9,vP r01 0)]<|qC (zL [1,0] (hs':=[hB r01 (cRd r0 p c),hO Int (vS p2 out c2) cs]) rfl (by decide)) ?_;obtain ⟨⟨y1,y2⟩,hy1,hM⟩:=zC hM;refine tX [hB r01 (cRd r0 p c)] [hO Int (vS p2 out c2) cs] (xK r0 40 _ hy1 h) ?_;rintro imm0 hs2 v2 k2 le - ⟨v0,kk,rfl,rfl,rfl,h5⟩ -;have h3:=iM le h3;have hle:=hle.trans le;obtain ⟨v01,rfl,h6⟩:=yH h5;obtain ⟨p3,c3,rfl⟩:=h6.form;refine yN rfl<|zE<|yB<|zF<|zB<|zY [] [(11,.bool (y1 == 0))]<|zE ?_;obtain ⟨o0,ho0,hMc⟩:=zC hM;refine yT (fun imm' hs' m'=>∃ (out1:List Int) (x:zO) (p4:Option Addr) (c4:Nat) (cs1:List Value) (p5:Option Addr) (c5:Nat),o0=(out1,x)∧imm0.le imm'∧(RL imm' cs1 out1)∧(S4 imm' p5 x.b c5)∧hs'=[hB r01 (cRd x p5 c5),hO Int (vS p4 out1 c4) cs1]∧m'=[(5,vS p4 out1 c4)]) ?_ ?_
 · have hle0:=hle;have hle:=iS imm0;refine yP ho0 ?_ ?_
   · intro hc hM;refine zB<|yK 1 [] [(13,vS p2 out c2)]<|xY [vI 0] Int ?_;intro b1 hb1;have h9:RL imm0 [vI 0] ([0]:List Int):=⟨[vI 0],_,rfl,rfl,rfl,rfl⟩;obtain ⟨out2,hy2,hM⟩:=zC hM;refine qS 3 1 2 rfl rfl rfl h3 (.inr ⟨0,rfl⟩) h9 hy2 ?_;intro p6 c6 cs2 h10;exact qC (zL [1,2] (hs':=[hB r01 (cRd y2 p3 c3),hO Int (vS p6 out2 c6) cs2]) rfl (by decide))<|zY [] [(5,vS p6 out2 c6)]<|yU [(5,vS p6 out2 c6)]<|yA ⟨_,_,_,_,_,_,_,(zD hM).symm,hle,h10,h6,rfl,rfl⟩
   intro hc hM;refine zF<|zB<|zY [] [(16,.bool (y1 == 1))]<|zE ?_;obtain ⟨o01,ho01,hMc1⟩:=zC hM;refine yT (fun imm' hs' m'=>∃ (out3:List Int) (x1:zO) (p7:Option Addr) (c7:Nat) (cs3:List Value) (p8:Option Addr) (c8:Nat),o01=(out3,x1)∧imm0.le imm'∧(RL imm' cs3 out3)∧(S4 imm' p8 x1.b c8)∧hs'=[hB r01 (cRd x1 p8 c8),hO Int (vS p7 out3 c7) cs3]∧m'=[(5,vS p7 out3 c7)]) ?_ ?_
   · have hle01:=hle;have hle:=iS imm0;refine yP ho01 ?_ ?_
     · intro hc1 hM;refine zF<|zB<|zY [] [(20,.bool (decide ((out.length:Int) > 0)))]<|zE ?_;obtain ⟨o02,ho02,hMc2⟩:=zC hM;refine yT (fun imm' hs' m'=>∃ (out4:List Int) (x2:zO) (p9:Option Addr) (c9:Nat) (cs4:List Value) (p10:Option Addr) (c10:Nat),o02=(out4,x2)∧imm0.le imm'∧(RL imm' cs4 out4)∧(S4 imm' p10 x2.b c10)∧hs'=[hB r01 (cRd x2 p10 c10),hO Int (vS p9 out4 c9) cs4]∧m'=[(5,vS p9 out4 c9)]) ?_ ?_
       · have hle02:=hle;have hle:=iS imm0;refine yP ho02 ?_ ?_
         · intro hc2 hM;refine zB<|yK 4 [] [(21,vS p2 out c2),(22,vP r01 0),(24,vI (out.length:Int))] ?_;obtain ⟨⟨y4,y5⟩,hy3,hM⟩:=zC hM;refine tX [hB r01 (cRd y2 p3 c3)] [hO Int (vS p2 out c2) cs] (xK y2 (out.length:Int) _ hy3 h6) ?_;rintro imm04 hs2 v2 k2 le1 - ⟨v02,kk1,rfl,rfl,rfl,h16⟩ -;have h3:=iM le1 h3;have hle:=hle.trans le1;obtain ⟨v03,rfl,h17⟩:=yH h16;obtain ⟨p11,c11,rfl⟩:=h17.form;refine yK 6 [] [(26,vP r01 0)]<|xY [vI 1000,vI (-1),vI 9223372036854775807] Int ?_;intro b2 hb2;have h18:RL imm04 [vI 1000,vI (-1),vI 9223372036854775807] ([1000,(-1),9223372036854775807]:List Int):=⟨[vI 1000],_,rfl,rfl,rfl,⟨[vI (-1)],_,rfl,rfl,rfl,⟨[vI 9223372036854775807],_,rfl,rfl,rfl,rfl⟩⟩⟩;refine yL 0 rfl ?_;intro imm05 le2 hl0;have h19:=SL.of_frozen hl0 le2 h18;have h3:=iM le2 h3;have h17:=h17.mono le2;have hle:=hle.trans le2;obtain ⟨⟨y7,y8⟩,hy4,hM⟩:=zC hM;refine tX [hB r01 (cRd y5 p11 c11)] [hO Int (vS p2 out c2) cs] (xC y5 ([1000,(-1),9223372036854775807]:List Int) _ hy4 h17 h19) ?_;rintro imm06 hs2 v2 k2 le3 - ⟨v04,kk2,rfl,rfl,rfl,h21⟩ -;have h3:=iM le3 h3;have hle:=hle.trans le3;obtain ⟨v05,rfl,h22⟩:=yH h21;obtain ⟨p12,c12,rfl⟩:=h22.form;obtain ⟨x3,hy5,hM⟩:=zC hM;refine nH 1 rfl rfl rfl h3 hy5 ?_;intro ad ccs1 hat hcc hrep;obtain rfl:=hrep;obtain ⟨l,hy6,hM⟩:=zC hM;refine qL (c:=[vI y7]) (x':=y7) 1 0 rfl rfl rfl hat rfl rfl hcc (by kernel_rfl) (by kernel_rfl) (by kernel_rfl) h3 hy5 (by kernel_rfl) rfl ?_;rw [show out.set y4.toNat y7=l from zD hy6];intro cs5 h23 hl01;exact mX (m':=[(5,vS p2 out c2),(21,vS p2 out c2),(25,vI y4),(28,vI y7)]) ⟨rfl,rfl,rfl,rfl,trivial⟩<|zBd (hs':=[hB r01 (cRd y8 p12 c12),hO Int (vS p2 l c2) cs5]) (m':=[(5,vS p2 l c2),(21,vS p2 l c2),(25,vI y4),(28,vI y7)]) (by first | rfl | simp only [vS,hl01,List.nil_append,List.cons_append,List.set_cons_zero,List.set_cons_succ,List.eraseIdx_cons_zero,List.eraseIdx_cons_succ]) (by first | rfl | simp only [vS,hl01])<|yN rfl<|yU [(5,vS p2 l c2)]<|yA ⟨_,_,_,_,_,_,_,(zD hM).symm,hle,h23,h22,rfl,rfl⟩
         intro hc2 hM;exact yD<|yU [(5,vS p2 out c2)]<|yA ⟨_,_,_,_,_,_,_,(zD hM).symm,hle,h3,h6,rfl,rfl⟩
       rintro imm03 hs2 m2 ⟨out4,x2,p9,c9,cs4,p10,c10,heq,le4,h13,h14,rfl,rfl⟩;subst o02;have hle:=hle.trans le4;exact yU [(5,vS p9 out4 c9)]<|yA ⟨_,_,_,_,_,_,_,(zD hMc2).symm,hle,h13,h14,rfl,rfl⟩
     intro hc1 hM;exact yD<|yU [(5,vS p2 out c2)]<|yA ⟨_,_,_,_,_,_,_,(zD hM).symm,hle,h3,h6,rfl,rfl⟩
   rintro imm02 hs2 m2 ⟨out3,x1,p7,c7,cs3,p8,c8,heq1,le5,h11,h12,rfl,rfl⟩;subst o01;have hle:=hle.trans le5;exact yU [(5,vS p7 out3 c7)]<|yA ⟨_,_,_,_,_,_,_,(zD hMc1).symm,hle,h11,h12,rfl,rfl⟩
 rintro imm01 hs2 m2 ⟨out1,x,p4,c4,cs1,p5,c5,heq2,le6,h7,h8,rfl,rfl⟩;subst o0;have hle:=hle.trans le6;refine zW<|zE<|zF<|zB<|zY [] [(4,vS p4 out1 c4)]<|zE<|yJ<|xL 1 rfl ?_;intro imm07 le7 hl02;have h24:=SL.of_frozen hl02 le7 h7;have h8:=h8.mono le7;have hle:=hle.trans le7;obtain rfl:=zD hMc;exact yQ ⟨_,_,(.tmp rfl ResV.nil),(zL [0] rfl (by decide)),⟨_,_,rfl,rfl,h24,(yS ⟨_,rfl,h8⟩)⟩⟩
def spec_l5Memory_post (b0:Nat) (r:(List Int)×zO):KT:=fun kk imm' hs' v=>
  ∃ v0 k0,hs'=[.blk b0 ⟨k0⟩]∧v=tupV [v0]∧SL imm' v0 r.1∧Rp.rep imm' k0 r.2
def M.spec_l5Memory_l1 (out:List Int) (i:Int) (x:zO):Option ((List Int×zO)):=do
 if (decide (i > 0)) then
  let (y2,y3)←yV x ([1,2,5,0,7,999,10]:List Int)
  let out2←app 8 out ([y2]:List Int)
  M.spec_l5Memory_l1 out2 (W (i - 1)) y3
 else
  pure (out,x)
 partial_fixpoint
theorem spec_l5Memory_l1_ok :∀ (out:List Int) (i:Int) (x:zO) (o:(List Int×zO)),M.spec_l5Memory_l1 out i x=some o→∀ {B}{imm0 imm:Imm}{Q}  {r01:Nat}{p4 c3 cs p5 c4},imm0.le imm→(RL imm cs out)→(S4 imm p5 x.b c4)→(∀ l a w,¬Q (.goto l) a w)→(∀ a w,¬Q .outgrown a w)→(∀ (imm':Imm) (out1:List Int) (x1:zO) (p6:Option Addr) (c5:Nat) (cs1:List Value) (p7:Option Addr) (c6:Nat),o=(out1,x1)→imm0.le imm'→(RL imm' cs1 out1)→(S4 imm' p7 x1.b c6)→T 21 B Q (.exit 0) imm' [hO Int (vS p6 out1 c5) cs1,hB r01 (cRd x1 p7 c6)] [(5,vS p6 out1 c5)])→J Tryz.prog 21 B (nav (bodyOf Tryz.f74) [1,1,0,1,0]) Q imm [hO Int (vS p4 out c3) cs,hB r01 (cRd x p5 c4)] [(0,vP r01 0),(5,vS p4 out c3),(6,vI i)]:=by
 refine M.spec_l5Memory_l1.partial_correctness  _ ?_;intro self ih out i x o hM B imm0 imm Q r01 p4 c3 cs p5 c4 hle h5 h6 hg ho hx;refine xF hg ho<|zF<|zF<|zB<|zY [] [(11,.bool (decide (i > 0)))]<|zE<|yP hM ?_ ?_
 · intro hc hM;refine yD<|zE<|zF<|yB<|zB<|yK 2 [] [(14,vS p4 out c3),(15,vP r01 0)]<|xY [vI 1,vI 2,vI 5,vI 0,vI 7,vI 999,vI 10] Int ?_;intro b2 hb2;have h9:RL imm [vI 1,vI 2,vI 5,vI 0,vI 7,vI 999,vI 10] ([1,2,5,0,7,999,10]:List Int):=⟨[vI 1],_,rfl,rfl,rfl,⟨[vI 2],_,rfl,rfl,rfl,⟨[vI 5],_,rfl,rfl,rfl,⟨[vI 0],_,rfl,rfl,rfl,⟨[vI 7],_,rfl,rfl,rfl,⟨[vI 999],_,rfl,rfl,rfl,⟨[vI 10],_,rfl,rfl,rfl,rfl⟩⟩⟩⟩⟩⟩⟩;refine yL 0 rfl ?_;intro imm01 le1 hl0;have h10:=SL.of_frozen hl0 le1 h9;have h5:=iM le1 h5;have h6:=h6.mono le1;have hle:=hle.trans le1;refine qC (zL [1,0] (hs':=[hB r01 (cRd x p5 c4),hO Int (vS p4 out c3) cs]) rfl (by decide)) ?_;obtain ⟨⟨y2,y3⟩,hy1,hM⟩:=zC hM;refine tX [hB r01 (cRd x p5 c4)] [hO Int (vS p4 out c3) cs] (xC x ([1,2,5,0,7,999,10]:List Int) _ hy1 h6 h10) ?_;rintro imm02 hs2 v2 k2 le2 - ⟨v01,kk,rfl,rfl,rfl,h12⟩ -;have h5:=iM le2 h5;have hle:=hle.trans le2;obtain ⟨v02,rfl,h13⟩:=yH h12;obtain ⟨p8,c7,rfl⟩:=h13.form;refine xY [vI y2] Int ?_;intro b3 hb3;have h14:RL imm02 [vI y2] ([y2]:List Int):=⟨[vI y2],_,rfl,rfl,rfl,rfl⟩;obtain ⟨out2,hy2,hM⟩:=zC hM;refine qS 3 1 2 rfl rfl rfl h5 (.inr ⟨0,rfl⟩) h14 hy2 ?_;intro p9 c8 cs2 h15;exact qC (zL [1,2] (hs':=[hB r01 (cRd y3 p8 c7),hO Int (vS p9 out2 c8) cs2]) rfl (by decide))<|zY [] [(5,vS p9 out2 c8)]<|zW<|zE<|zB<|zY [] [(6,vI (W (i - 1)))]<|xG<|qR (zL [1,0] rfl (by decide))<|uA [(0,vP r01 0),(5,vS p9 out2 c8),(6,vI (W (i - 1)))]<|ih out2 (W (i - 1)) y3 _ hM hle h15 h13 hg ho hx
 intro hc hM;exact xB<|zT<|zT<|yU [(5,vS p4 out c3)]<|hx _ _ _ _ _ _ _ _ (zD hM).symm hle h5 h6
def M.spec_l5Memory (r0:zO) (p1:zZ):Option ((List Int)×zO):=do
 let y←M.spec_CountCells p1
 let (out1,x1)←M.spec_l5Memory_l1 ([]:List Int) y r0
 pure (out1,x1)
theorem spec_l5Memory_ok:∀ (r0:zO) (p1:zZ) r,M.spec_l5Memory r0 p1=some r→∀ {imm:Imm}{r01:Nat}{p c p2 c1 p3 c2},(S4 imm p r0.b c)→(S4 imm p2 p1.Arrays c1)→(S4 imm p3 p1.Parts c2)→Ret Tryz.prog 74 [vP r01 0,vA (cProg p1 p2 c1 p3 c2)] imm [hB r01 (cRd r0 p c)] (spec_l5Memory_post r01 r):=by
 intro r0 p1 r hM imm r01 p c p2 c1 p3 c2 h h1 h2;unfold M.spec_l5Memory at hM;refine yF (fn:=Tryz.f74) (c:=(bodyOf Tryz.f74)) Tryz.func74 rfl rfl ?_;rintro B - -;have hle:=iS imm;refine zF<|zB<|sD (cProg p1 p2 c1 p3 c2) ?_;intro b hb;refine zY [] []<|zE<|zF<|zB<|xY [] Int ?_;intro b1 hb1;have h3:RL imm [] ([]:List Int):=rfl;refine zY [] [(5,vS (some ⟨b1,0,none⟩) ([]:List Int) 0)]<|zE<|zF<|zF<|zB<|yK 1 [1] [(8,vA (cProg p1 p2 c1 p3 c2))] ?_;obtain ⟨y,hy,hM⟩:=zC hM;refine yR (spec_CountCells_ok p1 _ hy h1 h2) ?_;rintro imm0 hs2 v2 k2 le - ⟨v0,rfl,rfl,rfl⟩ -;have h3:=iM le h3;have h1:=h1.mono le;have h2:=h2.mono le;have h:=h.mono le;have hle:=hle.trans le;refine zY [] [(6,vI y)]<|zE<|yB<|qR (zL [0,2] (hs':=[hO Int (vS (some ⟨b1,0,none⟩) ([]:List Int) 0) [],hB r01 (cRd r0 p c)]) rfl (by decide))<|uA [(0,vP r01 0),(5,vS (some ⟨b1,0,none⟩) ([]:List Int) 0),(6,vI y)] ?_;obtain ⟨o0,ho0,hMl⟩:=zC hM;refine spec_l5Memory_l1_ok ([]:List Int) y r0 o0 ho0 iR h3 h (fun _ _ _ h=>h) (fun _ _ h=>h) ?_;intro imm03 out1 x1 p6 c5 cs1 p7 c6 heq le3 h7 h8;subst o0;have hle:=hle.trans le3;refine yC<|zE<|zF<|zB<|zY [] [(4,vS p6 out1 c5)]<|zE<|yJ<|xL 0 rfl ?_;intro imm04 le4 hl01;have h16:=SL.of_frozen hl01 le4 h7;have h8:=h8.mono le4;have hle:=hle.trans le4;obtain rfl:=zD hMl;exact yQ ⟨_,_,(.tmp rfl ResV.nil),(zL [0] rfl (by decide)),⟨_,_,rfl,rfl,h16,(yS ⟨_,rfl,h8⟩)⟩⟩
def spec_DrawMemoryValid_post (r:zZ×(List Int)):KT:=fun kk imm' hs' v=>
  ∃ v0 v1,hs'=[]∧v=tupV [v0,v1]∧(∃ cs,v0=.agg ⟨cs⟩∧Rp.rep imm' cs r.1)∧SL imm' v1 r.2
def M.spec_DrawMemoryValid (code:(List UInt8)):Option (zZ×(List Int)):=do
 let y←nW code
 let (y2,y3)←mW y
 let (y5,y6)←rV y3 y2
 let (y8,y9)←M.spec_l5Memory y6 y5
 let (y11,y12)←M.spec_l5Bend y9 y8
 pure (y5,y11)
theorem spec_DrawMemoryValid_ok:∀ (code:(List UInt8)) r,M.spec_DrawMemoryValid code=some r→∀ {imm:Imm}{p c},(S4 imm p code c)→Ret Tryz.prog 28 [vS p code c] imm [] (spec_DrawMemoryValid_post  r):=by
 intro code r hM imm p c h;unfold M.spec_DrawMemoryValid at hM;refine yF (fn:=Tryz.f28) (c:=(bodyOf Tryz.f28)) Tryz.func28 rfl rfl ?_;rintro B - -;have hle:=iS imm;refine zF<|zB<|uJ zTwo ?_;intro b hb;refine zY [] []<|zE<|zF<|zB<|yK 1 [] [(6,vS p code c)] ?_;obtain ⟨y,hy,hM⟩:=zC hM;refine yR (zGV code _ hy h) ?_;rintro imm0 hs2 v2 k2 le - ⟨b1,p1,c1,rfl,rfl,h1⟩ -;have hle:=hle.trans le;refine zY [] [(4,vP b1 0)]<|zE<|zF<|zB<|yK 2 [] [(8,vP b1 0),(9,vP b1 0)] ?_;obtain ⟨⟨y2,y3⟩,hy1,hM⟩:=zC hM;refine tX [hB b1 (cRd y p1 c1)] [hB b zTwo] (zGp y _ hy1 h1) ?_;rintro imm01 hs2 v2 k2 le1 - ⟨v0,kk,rfl,rfl,⟨cs,rfl,h2⟩,h3⟩ -;have hle:=hle.trans le1;obtain ⟨v01,v02,rfl,h4,h5⟩:=zFp h2;obtain ⟨p2,c2,rfl⟩:=h4.form;obtain ⟨p3,c3,rfl⟩:=h5.form;obtain ⟨v03,rfl,h6⟩:=yH h3;obtain ⟨p4,c4,rfl⟩:=h6.form;obtain ⟨⟨y5,y6⟩,hy2,hM⟩:=zC hM;refine tX [hB b1 (cRd y3 p4 c4)] [hB b zTwo] (zGJ y3 y2 _ hy2 h6 h4 h5) ?_;rintro imm02 hs2 v2 k2 le2 - ⟨v04,kk1,rfl,rfl,⟨cs1,rfl,h7⟩,h8⟩ -;have hle:=hle.trans le2;obtain ⟨v05,v06,rfl,h9,h10⟩:=zFp h7;obtain ⟨p5,c5,rfl⟩:=h9.form;obtain ⟨p6,c6,rfl⟩:=h10.form;obtain ⟨v07,rfl,h11⟩:=yH h8;obtain ⟨p7,c7,rfl⟩:=h11.form;refine uJ zTwo ?_;intro b2 hb1;refine xI 0 (cProg y5 p5 c5 p6 c6) [hB b2 (cProg y5 p5 c5 p6 c6),hB b1 (cRd y6 p7 c7),hB b zTwo] rfl rfl rfl rfl<|yN rfl<|zE<|zF ?_;obtain ⟨⟨y8,y9⟩,hy3,hM⟩:=zC hM;obtain ⟨⟨y11,y12⟩,hy4,hM⟩:=zC hM;refine vZ [.p (vA (cProg y5 p5 c5 p6 c6)) [0],.p (vP b1 0) [],.p (vP b1 0) [],.p (vA (cProg y5 p5 c5 p6 c6)) [0],.x (fun imm' v hx=>∃ p8 c8 p9 c9,v=vS p8 y8 c8∧hx=[hB b1 (cRd y9 p9 c9)]∧(S4 imm' p8 y8 c8)∧(S4 imm' p9 y9.b c9)),.x (fun imm' v hx=>∃ p10 c10 p11 c11,v=vS p10 y11 c10∧hx=[hB b1 (cRd y12 p11 c11)]∧(S4 imm' p10 y11 c10)∧(S4 imm' p11 y12.b c11)),.x (fun imm' v hx=>hx=[hB b (cProg y5 p5 c5 p6 c6)])] [[],[],[],[],[(2,false),(3,false),(8,true)],[(1,false),(4,true)],[(0,false),(9,true)]] [hB b2 (cProg y5 p5 c5 p6 c6)] [[hB b1 (cRd y6 p7 c7)],[hB b zTwo]] [(5,true),(6,true)] (zL [0,1,2] rfl (by decide)) ?_ ?_
 · refine Op<|Op<|Op<|Op<|Ox ?_<|Ox ?_<|Ox ?_<|On
   · intro imm1 hf le1;refine zG ?_;rintro _ _ ⟨rfl,rfl⟩;refine zG ?_;rintro _ _ ⟨rfl,rfl⟩;refine zG ?_;rintro _ _ rfl;refine zN<|yG [(14,vP b1 0),(15,vA (cProg y5 p5 c5 p6 c6))] ?_;have hle:=iS imm1;have h9:=h9.mono le1;have h10:=h10.mono le1;have h11:=h11.mono le1;refine tX [hB b1 (cRd y6 p7 c7)] (hB b2 (cProg y5 p5 c5 p6 c6)::hf) (spec_l5Memory_ok y6 y5 _ hy3 h11 h9 h10) ?_;rintro imm03 hs2 v2 k2 le3 - ⟨v08,kk2,rfl,rfl,h12,h13⟩ -;have h9:=h9.mono le3;have h10:=h10.mono le3;have hle:=hle.trans le3;obtain ⟨p8,c8,rfl⟩:=h12.form;obtain ⟨v09,rfl,h14⟩:=yH h13;obtain ⟨p9,c9,rfl⟩:=h14.form;exact zX (hx:=[hB b1 (cRd y9 p9 c9)]) rfl hle rfl (zM rfl) ⟨_,_,_,_,rfl,rfl,h12,h14⟩
   · intro imm1 hf le1;refine zG ?_;rintro _ _ ⟨rfl,rfl⟩;refine zG ?_;rintro _ _ ⟨p8,c8,p9,c9,rfl,rfl,h12,h14⟩;refine zN<|yG [(13,vP b1 0),(16,vS p8 y8 c8)] ?_;have hle:=iS imm1;have h9:=h9.mono le1;have h10:=h10.mono le1;refine tX [hB b1 (cRd y9 p9 c9)] (hB b2 (cProg y5 p5 c5 p6 c6)::hf) (spec_l5Bend_ok y9 y8 _ hy4 h14 h12) ?_;rintro imm04 hs2 v2 k2 le4 - ⟨v010,kk3,rfl,rfl,h15,h16⟩ -;have h12:=h12.mono le4;have h9:=h9.mono le4;have h10:=h10.mono le4;have hle:=hle.trans le4;obtain ⟨p10,c10,rfl⟩:=h15.form;obtain ⟨v011,rfl,h17⟩:=yH h16;obtain ⟨p11,c11,rfl⟩:=h17.form;exact zX (hx:=[hB b1 (cRd y12 p11 c11)]) rfl hle rfl (zM rfl) ⟨_,_,_,_,rfl,rfl,h15,h17⟩
   intro imm1 hf le1;refine zG ?_;rintro _ _ ⟨rfl,rfl⟩;refine zG ?_;rintro _ _ rfl;refine zN<|yG [(2,vP b 0),(12,vA (cProg y5 p5 c5 p6 c6))] ?_;have hle:=iS imm1;have h9:=h9.mono le1;have h10:=h10.mono le1;exact xI 0 (cProg y5 p5 c5 p6 c6) (hB b (cProg y5 p5 c5 p6 c6)::hB b2 (cProg y5 p5 c5 p6 c6)::hf) rfl rfl rfl rfl<|zX (hx:=[hB b (cProg y5 p5 c5 p6 c6)]) rfl hle rfl (zGb (v:=undef)) rfl
 intro imm05 le5;refine zG ?_;rintro _ _ ⟨p10,c10,p11,c11,rfl,rfl,h15,h17⟩;refine zG ?_;rintro _ _ rfl;refine zN<|yG [(2,vP b 0),(17,vS p10 y11 c10)] ?_;have h9:=h9.mono le5;have h10:=h10.mono le5;have hle:=hle.trans le5;refine zY [] [(3,vS p10 y11 c10)]<|zE<|yJ ?_;obtain rfl:=zD hM;exact yQ ⟨_,_,(.cell 0 rfl rfl (by kernel_rfl) (.tmp rfl ResV.nil)),zV,⟨_,_,rfl,rfl,⟨_,rfl,(oU ⟨_,_,rfl,h9,h10⟩)⟩,h15⟩⟩
def impl_MemoryValid_1_post (r:Bool):KT:=fun kk imm' hs' v=>
  ∃ v0,hs'=[]∧v=tupV [v0]∧v0=.bool r
def M.impl_MemoryValid_1 (n0:Int):Option (Bool):=do
 let y←xT n0 0 999
 pure (!y)
theorem impl_MemoryValid_1_ok:∀ (n0:Int) r,M.impl_MemoryValid_1 n0=some r→∀ {imm:Imm} ,Ret Tryz.prog 76 [vI n0] imm [] (impl_MemoryValid_1_post  r):=by
 intro n0 r hM imm;unfold M.impl_MemoryValid_1 at hM;refine yF (fn:=Tryz.f76) (c:=(bodyOf Tryz.f76)) Tryz.func76 rfl rfl ?_;rintro B - -;have hle:=iS imm;refine zF<|zB<|zY [] []<|zE<|zF<|zB<|yK 1 [] [(3,vI n0)] ?_;obtain ⟨y,hy,hM⟩:=zC hM;refine yR (wH n0 0 999 _ hy ) ?_;rintro imm0 hs2 v2 k2 le - ⟨v0,rfl,rfl,rfl⟩ -;have hle:=hle.trans le;refine zY [] [(2,.bool (!y))]<|zE<|yJ ?_;obtain rfl:=zD hM;exact yQ ⟨_,_,(.tmp rfl ResV.nil),zV,⟨_,rfl,rfl,rfl⟩⟩
def impl_MemoryValid_post (r:Bool):KT:=fun kk imm' hs' v=>
  ∃ v0,hs'=[]∧v=tupV [v0]∧v0=.bool r
def M.impl_MemoryValid (p:zZ) (m0:(List Int)):Option (Bool):=do
 let t4←(do
   let y←M.impl_ProgramValid p
   if y then
    let y1←M.impl_Program_cells p
    if ((m0.length:Int) == y1) then
     let y2←xD m0 M.impl_MemoryValid_1
     pure (!y2)
    else
     pure false
   else
    pure false
     : Option Bool)
 pure (id t4)
theorem impl_MemoryValid_ok:∀ (p:zZ) (m0:(List Int)) r,M.impl_MemoryValid p m0=some r→∀ {imm:Imm}{p1 c p2 c1 p3 c2},(S4 imm p1 p.Arrays c)→(S4 imm p2 p.Parts c1)→(S4 imm p3 m0 c2)→Ret Tryz.prog 29 [vA (cProg p p1 c p2 c1),vS p3 m0 c2] imm [] (impl_MemoryValid_post  r):=by
 intro p m0 r hM imm p1 c p2 c1 p3 c2 h h1 h2;unfold M.impl_MemoryValid at hM;refine yF (fn:=Tryz.f29) (c:=(bodyOf Tryz.f29)) Tryz.func29 rfl rfl ?_;rintro B - -;have hle:=iS imm;refine zF<|zB<|sD (cProg p p1 c p2 c1) ?_;intro b hb;refine zY [] []<|zE<|zF ?_;obtain ⟨o0,ho0,hMc⟩:=zC hM;refine yT (fun imm' hs' m'=>∃ (t4:Bool),o0=t4∧imm.le imm'∧hs'=[]∧m'=[(4,.bool t4)]) ?_ ?_
 · have hle0:=hle;have hle:=iS imm;refine zB<|yK 1 [0] [(5,vA (cProg p p1 c p2 c1))] ?_;obtain ⟨y,hy,hM⟩:=zC ho0;refine yR (impl_ProgramValid_ok p _ hy h h1) ?_;rintro imm01 hs2 v2 k2 le - ⟨v0,rfl,rfl,rfl⟩ -;have h2:=h2.mono le;have h:=h.mono le;have h1:=h1.mono le;have hle:=hle.trans le;refine yK 3 [] [(7,.bool y)] ?_;cases hc:y with
   | true =>
    have hM0:=zU hc hM
    try rw [hc]
    refine yK 6 [0] [(9,vI (m0.length:Int)),(10,vA (cProg p p1 c p2 c1))] ?_;obtain ⟨y1,hy1,hM⟩:=zC hM0;refine yR (impl_Program_cells_ok p _ hy1 h h1) ?_;rintro imm02 hs2 v2 k2 le1 - ⟨v01,rfl,rfl,rfl⟩ -;have h2:=h2.mono le1;have h:=h.mono le1;have h1:=h1.mono le1;have hle:=hle.trans le1;refine yK 10 [] [(14,.bool ((m0.length:Int) == y1))] ?_;cases hc1:((m0.length:Int) == y1) with
    | true =>
     have hM01:=zU hc1 hM
     try rw [hc1]
     refine yK 11 [] [(15,vS p3 m0 c2)] ?_;have hf0:FV1 Tryz.prog imm02 [] (.func (.func 76) ⟨[]⟩ ⟨[]⟩) M.impl_MemoryValid_1:=by
       refine FV1.intro ?_;intro imm1 le1 x0 r u0 hF k0;obtain rfl:=k0;exact (impl_MemoryValid_1_ok x0 r hF ).mono (by rintro k i hs u ⟨v0,rfl,rfl,h⟩; exact ⟨rfl,h⟩)
     obtain ⟨y2,hy2,hM⟩:=zC hM01;refine yR (tA m0 M.impl_MemoryValid_1 _ hy2 h2 hf0) ?_;rintro imm03 hs2 v2 k2 le2 - ⟨v02,rfl,rfl,rfl⟩ -;have h:=h.mono le2;have h1:=h1.mono le2;have hle:=hle.trans le2;exact zY [] [(4,.bool (!y2))]<|wE (zL [] rfl (by decide))<|yU [(4,.bool (!y2))]<|yA ⟨_,(zD hM).symm,hle,rfl,rfl⟩
    | false =>
     have hM02:=zS hc1 hM
     try rw [hc1]
     exact zY [] [(4,.bool false)]<|wE (zL [] rfl (by decide))<|yU [(4,.bool false)]<|yA ⟨_,(zD hM02).symm,hle,rfl,rfl⟩
   | false =>
    have hM03:=zS hc hM
    try rw [hc]
    exact zY [] [(4,.bool false)]<|wE (zL [] rfl (by decide))<|yU [(4,.bool false)]<|yA ⟨_,(zD hM03).symm,hle,rfl,rfl⟩
 rintro imm0 hs2 m2 ⟨t4,heq,le3,rfl,rfl⟩;subst o0;have hle:=hle.trans le3;refine zE<|yJ ?_;obtain rfl:=zD hMc;exact yQ ⟨_,_,(.tmp rfl ResV.nil),zV,⟨_,rfl,rfl,rfl⟩⟩
def spec_MemoryValid_post (r:Bool):KT:=fun kk imm' hs' v=>
  ∃ v0,hs'=[]∧v=tupV [v0]∧v0=.bool r
def M.spec_MemoryValid_l1 (m0:(List Int)) (i:Int):Option (Out Unit (Bool)):=do
 if (decide (i < (m0.length:Int))) then
  let t23←(do
    let x←idx m0 i
    if (decide (x < 0)) then
     pure true
    else
     let x1←idx m0 i
     pure (decide (x1 > 999))
      : Option Bool)
  if t23 then
   pure (.ret false)
  else
   M.spec_MemoryValid_l1 m0 (W (i + 1))
 else
  pure (.done ())
 partial_fixpoint
theorem spec_MemoryValid_l1_ok (m0:(List Int)):∀ (i:Int) (o:Out Unit (Bool)),M.spec_MemoryValid_l1 m0 i=some o→∀ {B}{imm0 imm:Imm}{Q}{p:zZ}{p1 c p2 c1 p3 c2}{b:Nat},imm0.le imm→(S4 imm p3 m0 c2)→(S4 imm p1 p.Arrays c)→(S4 imm p2 p.Parts c1)→(∀ l a w,¬Q (.goto l) a w)→(∀ a w,¬Q .outgrown a w)→(∀ (imm':Imm) ,o=(.done ())→imm0.le imm'→T 33 B Q (.exit 0) imm' [hB b (cProg p p1 c p2 c1)] [(1,vS p3 m0 c2),(2,vP b 0)])→(∀ r imm' hs' m',o=(.ret r)→imm0.le imm'→RS Tryz.prog Tryz.f30 B (spec_MemoryValid_post  r) imm' hs' m'→T 33 B Q .ret imm' hs' m')→J Tryz.prog 33 B (nav (bodyOf Tryz.f30) [1,0,1,0]) Q imm [hB b (cProg p p1 c p2 c1)] [(1,vS p3 m0 c2),(2,vP b 0),(5,vI i)]:=by
 refine M.spec_MemoryValid_l1.partial_correctness m0 _ ?_;intro self ih i o hM B imm0 imm Q p p1 c p2 c1 p3 c2 b hle h2 h h1 hg ho hx hr;refine xF hg ho<|zF<|zF<|zB<|zY [] [(9,.bool (decide (i < (m0.length:Int))))]<|zE<|yP hM ?_ ?_
 · intro hc hM;refine yD<|zE<|zF<|yB<|zF ?_;obtain ⟨o0,ho0,hMc⟩:=zC hM;refine yT (fun imm' hs' m'=>∃ (t23:Bool),o0=t23∧imm.le imm'∧hs'=[hB b (cProg p p1 c p2 c1)]∧m'=[(1,vS p3 m0 c2),(2,vP b 0),(5,vI i),(23,.bool t23)]) ?_ ?_
   · have hle0:=hle;have hle:=iS imm;refine zB<|yK 2 [] [(12,vS p3 m0 c2),(13,vI i)] ?_;obtain ⟨x,hy,hM⟩:=zC ho0;refine wJ rfl rfl h2 hy ?_;intro ad ccs hat hrep;obtain rfl:=hrep;refine xX 0 hat [vI x] (vI x) rfl<|yK 6 [] [(17,.bool (decide (x < 0)))] ?_;cases hc1:(decide (x < 0)) with
     | true =>
      have hM0:=zU hc1 hM
      try rw [hc1]
      exact zY [] [(23,.bool true)]<|yU [(1,vS p3 m0 c2),(2,vP b 0),(5,vI i),(23,.bool true)]<|yA ⟨_,(zD hM0).symm,hle,rfl,rfl⟩
     | false =>
      have hM01:=zS hc1 hM
      try rw [hc1]
      refine yK 8 [] [(18,vS p3 m0 c2),(19,vI i)] ?_;obtain ⟨x1,hy1,hM⟩:=zC hM01;refine wJ rfl rfl h2 hy1 ?_;intro ad1 ccs1 hat1 hrep1;obtain rfl:=hrep1;exact xX 0 hat1 [vI x1] (vI x1) rfl<|zY [] [(23,.bool (decide (x1 > 999)))]<|yU [(1,vS p3 m0 c2),(2,vP b 0),(5,vI i),(23,.bool (decide (x1 > 999)))]<|yA ⟨_,(zD hM).symm,hle,rfl,rfl⟩
   rintro imm0 hs2 m2 ⟨t23,heq,le,rfl,rfl⟩;subst o0;have h2:=h2.mono le;have h:=h.mono le;have h1:=h1.mono le;have hle:=hle.trans le;refine zE<|yP hMc ?_ ?_
   · intro hc2 hM;exact zF<|zB<|zY [] [(4,.bool false)]<|zE<|yJ<|yE<|zQ<|zQ<|hr _ _ _ _ (zD hM).symm hle ⟨_,_,(.tmp rfl ResV.nil),zV,⟨_,rfl,rfl,rfl⟩⟩
   intro hc2 hM;exact yD<|zW<|zE<|zB<|zY [] [(5,vI (W (i + 1)))]<|xG<|uA [(1,vS p3 m0 c2),(2,vP b 0),(5,vI (W (i + 1)))]<|ih (W (i + 1)) _ hM hle h2 h h1 hg ho hx hr
 intro hc hM;exact xB<|zT<|zT<|yU [(1,vS p3 m0 c2),(2,vP b 0)]<|hx _  (zD hM).symm hle
def M.spec_MemoryValid (p:zZ) (m0:(List Int)):Option (Bool):=do
 match←M.spec_MemoryValid_l1 m0 0 with
 | .ret r0=>pure r0
 | .done _ =>
  let t4←(do
    let y←tE p
    if y then
     let y1←M.spec_l4Total p
     pure ((m0.length:Int) == y1)
    else
     pure false
      : Option Bool)
  pure (id t4)
theorem spec_MemoryValid_ok:∀ (p:zZ) (m0:(List Int)) r,M.spec_MemoryValid p m0=some r→∀ {imm:Imm}{p1 c p2 c1 p3 c2},(S4 imm p1 p.Arrays c)→(S4 imm p2 p.Parts c1)→(S4 imm p3 m0 c2)→Ret Tryz.prog 30 [vA (cProg p p1 c p2 c1),vS p3 m0 c2] imm [] (spec_MemoryValid_post  r):=by
 intro p m0 r hM imm p1 c p2 c1 p3 c2 h h1 h2;unfold M.spec_MemoryValid at hM;refine yF (fn:=Tryz.f30) (c:=(bodyOf Tryz.f30)) Tryz.func30 rfl rfl ?_;rintro B - -;have hle:=iS imm;refine zF<|zB<|sD (cProg p p1 c p2 c1) ?_;intro b hb;refine zY [] []<|zE<|zF<|zF<|zB<|zY [] [(5,vI 0)]<|zE<|yB<|uA [(1,vS p3 m0 c2),(2,vP b 0),(5,vI 0)] ?_;obtain ⟨o01,ho01,hMl⟩:=zC hM;refine spec_MemoryValid_l1_ok m0 0 o01 ho01 iR h2 h h1 (fun _ _ _ h=>h) (fun _ _ h=>h) ?_ ?_
 · intro imm01  heq1 le1;subst o01;have h2:=h2.mono le1;have h:=h.mono le1;have h1:=h1.mono le1;have hle:=hle.trans le1;refine yC<|zE<|zF ?_;obtain ⟨o02,ho02,hMc1⟩:=zC hMl;refine yT (fun imm' hs' m'=>∃ (t4:Bool),o02=t4∧imm01.le imm'∧hs'=[]∧m'=[(4,.bool t4)]) ?_ ?_
   · have hle01:=hle;have hle:=iS imm01;refine zB<|yK 1 [0] [(24,vA (cProg p p1 c p2 c1))] ?_;obtain ⟨y,hy2,hM⟩:=zC ho02;refine yR (eU p _ hy2 h h1) ?_;rintro imm03 hs2 v2 k2 le2 - ⟨v0,rfl,rfl,rfl⟩ -;have h2:=h2.mono le2;have h:=h.mono le2;have h1:=h1.mono le2;have hle:=hle.trans le2;refine yK 3 [] [(26,.bool y)] ?_;cases hc3:y with
     | true =>
      have hM02:=zU hc3 hM
      try rw [hc3]
      refine yK 6 [0] [(28,vI (m0.length:Int)),(29,vA (cProg p p1 c p2 c1))] ?_;obtain ⟨y1,hy3,hM⟩:=zC hM02;refine yR (spec_l4Total_ok p _ hy3 h h1) ?_;rintro imm04 hs2 v2 k2 le3 - ⟨v01,rfl,rfl,rfl⟩ -;have h:=h.mono le3;have h1:=h1.mono le3;have hle:=hle.trans le3;exact zY [] [(4,.bool ((m0.length:Int) == y1))]<|wE (zL [] rfl (by decide))<|yU [(4,.bool ((m0.length:Int) == y1))]<|yA ⟨_,(zD hM).symm,hle,rfl,rfl⟩
     | false =>
      have hM03:=zS hc3 hM
      try rw [hc3]
      exact zY [] [(4,.bool false)]<|wE (zL [] rfl (by decide))<|yU [(4,.bool false)]<|yA ⟨_,(zD hM03).symm,hle,rfl,rfl⟩
   rintro imm02 hs2 m2 ⟨t4,heq2,le4,rfl,rfl⟩;subst o02;have hle:=hle.trans le4;refine zE<|yJ ?_;obtain rfl:=zD hMc1;exact yQ ⟨_,_,(.tmp rfl ResV.nil),zV,⟨_,rfl,rfl,rfl⟩⟩
 intro r0 imm9 hs9 m9 heq9 le9 hrs9;subst heq9;refine yE<|zQ ?_;obtain rfl:=zD hMl;exact yQ hrs9
end Go.LN
namespace Go.LN
open Go.Proofs
set_option maxRecDepth 20000
def laws_FnMemoryValid_post (r:Bool):KT:=fun kk imm' hs' v=>
  ∃ v0,hs'=[]∧v=tupV [v0]∧v0=.bool r
def M.laws_FnMemoryValid (code:(List UInt8)) (more:(List UInt8)):Option (Bool):=do
 let t18←(do
   if (decide ((code.length:Int) > 1048576)) then
    pure true
   else
    pure (decide ((more.length:Int) > 1048576))
     : Option Bool)
 if t18 then
  pure true
 else
  let (y1,y2)←M.spec_DrawMemoryValid code
  let y3←M.impl_MemoryValid y1 y2
  let t40←(do
    let y4←M.spec_MemoryValid y1 y2
    if (!(y3 == y4)) then
     pure true
    else
     if (!y3) then
      pure true
     else
      pure ((y2.length:Int) == 0)
      : Option Bool)
  if t40 then
   let y5←M.spec_MemoryValid y1 y2
   pure (y3 == y5)
  else
   let x←app 8 ([]:List Int) y2
   let q←rem (more.length:Int) (x.length:Int)
   let x1←idx x q
   let l←pure (x.set q.toNat 999)
   let y6←app 8 ([]:List Int) y2
   let x2←idx y6 q
   let l1←pure (y6.set q.toNat 1000)
   let t4←(do
     let y7←M.impl_MemoryValid y1 l
     if y7 then
      let y8←M.impl_MemoryValid y1 l1
      if (!y8) then
       let l2←slc y2 1 (y2.length:Int)
       let y9←M.impl_MemoryValid y1 l2
       if (!y9) then
        let y10←M.impl_CountCells y1
        pure ((y2.length:Int) == y10)
       else
        pure false
      else
       pure false
     else
      pure false
       : Option Bool)
   pure (id t4)
theorem laws_FnMemoryValid_ok:∀ (code:(List UInt8)) (more:(List UInt8)) r,M.laws_FnMemoryValid code more=some r→∀ {imm:Imm}{p c p1 c1},(S4 imm p code c)→(S4 imm p1 more c1)→Ret Tryz.prog 8 [vS p code c,vS p1 more c1] imm [] (laws_FnMemoryValid_post  r):=by
 intro code more r hM imm p c p1 c1 h h1;unfold M.laws_FnMemoryValid at hM;refine yF (fn:=Tryz.f8) (c:=(bodyOf Tryz.f8)) Tryz.func8 rfl rfl ?_;rintro B - -;have hle:=iS imm;refine zF<|zB<|zY [] []<|zE<|zF<|zF ?_;obtain ⟨o0,ho0,hMc⟩:=zC hM;refine yT (fun imm' hs' m'=>∃ (t18:Bool),o0=t18∧imm.le imm'∧hs'=[]∧m'=[(0,vS p code c),(1,vS p1 more c1),(18,.bool t18)]) ?_ ?_
 · have hle0:=hle;have hle:=iS imm;refine zB<|yK 4 [] [(14,.bool (decide ((code.length:Int) > 1048576)))] ?_;cases hc:(decide ((code.length:Int) > 1048576)) with
   | true =>
    have hM0:=zU hc ho0
    try rw [hc]
    exact zY [] [(18,.bool true)]<|yU [(0,vS p code c),(1,vS p1 more c1),(18,.bool true)]<|yA ⟨_,(zD hM0).symm,hle,rfl,rfl⟩
   | false =>
    have hM01:=zS hc ho0
    try rw [hc]
    exact zY [] [(18,.bool (decide ((more.length:Int) > 1048576)))]<|yU [(0,vS p code c),(1,vS p1 more c1),(18,.bool (decide ((more.length:Int) > 1048576)))]<|yA ⟨_,(zD hM01).symm,hle,rfl,rfl⟩
 rintro imm0 hs2 m2 ⟨t18,heq,le,rfl,rfl⟩;subst o0;have h:=h.mono le;have h1:=h1.mono le;have hle:=hle.trans le;refine zE<|yP hMc ?_ ?_
 · intro hc1 hM;refine zF<|zB<|zY [] [(4,.bool true)]<|zE<|yJ<|zQ ?_;obtain rfl:=zD hM;exact yQ ⟨_,_,(.tmp rfl ResV.nil),zV,⟨_,rfl,rfl,rfl⟩⟩
 intro hc1 hM;refine yD<|zE<|zF<|zB<|yK 1 [] [(20,vS p code c)] ?_;obtain ⟨⟨y1,y2⟩,hy,hM⟩:=zC hM;refine yR (spec_DrawMemoryValid_ok code _ hy h) ?_;rintro imm01 hs2 v2 k2 le1 - ⟨v0,v01,rfl,rfl,⟨cs,rfl,h2⟩,h3⟩ -;have h1:=h1.mono le1;have hle:=hle.trans le1;obtain ⟨v02,v03,rfl,h4,h5⟩:=zFp h2;obtain ⟨p2,c2,rfl⟩:=h4.form;obtain ⟨p3,c3,rfl⟩:=h5.form;obtain ⟨p4,c4,rfl⟩:=h3.form;refine yK 5 [] [(22,vA (cProg y1 p2 c2 p3 c3)),(23,vS p4 y2 c4)]<|uJ zTwo ?_;intro b hb;refine xI 0 (cProg y1 p2 c2 p3 c3) [hB b (cProg y1 p2 c2 p3 c3)] rfl rfl rfl rfl<|zY [] [(6,vS p4 y2 c4)]<|zE<|zF<|zB<|yK 2 [0] [(24,vA (cProg y1 p2 c2 p3 c3)),(25,vS p4 y2 c4)] ?_;obtain ⟨y3,hy1,hM⟩:=zC hM;refine yR (impl_MemoryValid_ok y1 y2 _ hy1 h4 h5 h3) ?_;rintro imm02 hs2 v2 k2 le2 - ⟨v04,rfl,rfl,rfl⟩ -;have h1:=h1.mono le2;have h3:=h3.mono le2;have h4:=h4.mono le2;have h5:=h5.mono le2;have hle:=hle.trans le2;refine zY [] [(7,.bool y3)]<|zE<|zF<|zF ?_;obtain ⟨o01,ho01,hMc1⟩:=zC hM;refine yT (fun imm' hs' m'=>∃ (t40:Bool),o01=t40∧imm02.le imm'∧hs'=[hB b (cProg y1 p2 c2 p3 c3)]∧m'=[(1,vS p1 more c1),(5,vP b 0),(6,vS p4 y2 c4),(7,.bool y3),(40,.bool t40)]) ?_ ?_
 · have hle01:=hle;have hle:=iS imm02;refine zB<|yK 3 [0] [(27,.bool y3),(28,vA (cProg y1 p2 c2 p3 c3)),(29,vS p4 y2 c4)] ?_;obtain ⟨y4,hy2,hM⟩:=zC ho01;refine yR (spec_MemoryValid_ok y1 y2 _ hy2 h4 h5 h3) ?_;rintro imm04 hs2 v2 k2 le3 - ⟨v05,rfl,rfl,rfl⟩ -;have h1:=h1.mono le3;have h3:=h3.mono le3;have h4:=h4.mono le3;have h5:=h5.mono le3;have hle:=hle.trans le3;refine yK 6 [] [(32,.bool (!(y3 == y4)))] ?_;cases hc2:(!(y3 == y4)) with
   | true =>
    have hM02:=zU hc2 hM
    try rw [hc2]
    exact zY [] [(40,.bool true)]<|yU [(1,vS p1 more c1),(5,vP b 0),(6,vS p4 y2 c4),(7,.bool y3),(40,.bool true)]<|yA ⟨_,(zD hM02).symm,hle,rfl,rfl⟩
   | false =>
    have hM03:=zS hc2 hM
    try rw [hc2]
    refine yK 10 [] [(36,.bool (!y3))] ?_;cases hc3:(!y3) with
    | true =>
     have hM04:=zU hc3 hM03
     try rw [hc3]
     exact zY [] [(40,.bool true)]<|yU [(1,vS p1 more c1),(5,vP b 0),(6,vS p4 y2 c4),(7,.bool y3),(40,.bool true)]<|yA ⟨_,(zD hM04).symm,hle,rfl,rfl⟩
    | false =>
     have hM05:=zS hc3 hM03
     try rw [hc3]
     exact zY [] [(40,.bool ((y2.length:Int) == 0))]<|yU [(1,vS p1 more c1),(5,vP b 0),(6,vS p4 y2 c4),(7,.bool y3),(40,.bool ((y2.length:Int) == 0))]<|yA ⟨_,(zD hM05).symm,hle,rfl,rfl⟩
 rintro imm03 hs2 m2 ⟨t40,heq1,le4,rfl,rfl⟩;subst o01;have h1:=h1.mono le4;have h3:=h3.mono le4;have h4:=h4.mono le4;have h5:=h5.mono le4;have hle:=hle.trans le4;refine zE<|yP hMc1 ?_ ?_
 · intro hc4 hM;refine zF<|zB<|yK 3 [0] [(41,.bool y3),(42,vA (cProg y1 p2 c2 p3 c3)),(43,vS p4 y2 c4)] ?_;obtain ⟨y5,hy3,hM⟩:=zC hM;refine yR (spec_MemoryValid_ok y1 y2 _ hy3 h4 h5 h3) ?_;rintro imm05 hs2 v2 k2 le5 - ⟨v06,rfl,rfl,rfl⟩ -;have h4:=h4.mono le5;have h5:=h5.mono le5;have hle:=hle.trans le5;refine zY [] [(4,.bool (y3 == y5))]<|zE<|yJ<|zQ ?_;obtain rfl:=zD hM;exact yQ ⟨_,_,(.tmp rfl ResV.nil),zV,⟨_,rfl,rfl,rfl⟩⟩
 intro hc4 hM;refine yD<|zE<|zF<|zB<|xY [] Int ?_;intro b1 hb1;have h9:RL imm03 [] ([]:List Int):=rfl;refine yK 2 [] [(47,vS p4 y2 c4)] ?_;obtain ⟨ccs,k0,k01⟩:=h3;have h3:SL imm03 (vS p4 y2 c4) y2:=⟨_,k0,k01⟩;obtain ⟨x,hy4,hM⟩:=zC hM;refine qS 3 1 0 rfl rfl rfl h9 (.inl k0) k01 hy4 ?_;intro p5 c5 cs1 h10;refine qC (zL [0,1] (hs':=[hO Int (vS p5 x c5) cs1,hB b (cProg y1 p2 c2 p3 c3)]) rfl (by decide))<|zY [] [(8,vS p5 x c5)]<|zE<|zF<|zB<|yK 4 [] [(50,vI (more.length:Int)),(52,vI (x.length:Int))] ?_;obtain ⟨q,hy5,hM⟩:=zC hM;refine zIS rfl hy5<|zY [] [(9,vI q)]<|zE<|zF<|zB<|yK 2 [] [(54,vS p5 x c5),(55,vI q)] ?_;obtain ⟨x1,hy6,hM⟩:=zC hM;refine nH 0 rfl rfl rfl h10 hy6 ?_;intro ad ccs1 hat hcc hrep;obtain rfl:=hrep;obtain ⟨l,hy7,hM⟩:=zC hM;refine qL (c:=[vI 999]) (x':=999) 0 0 rfl rfl rfl hat rfl rfl hcc (by kernel_rfl) (by kernel_rfl) (by kernel_rfl) h10 hy6 (by kernel_rfl) rfl ?_;rw [show x.set q.toNat 999=l from zD hy7];intro cs2 h11 hl0;refine mX (m':=[(5,vP b 0),(6,vS p4 y2 c4),(8,vS p5 x c5),(9,vI q),(54,vS p5 x c5),(55,vI q)]) ⟨rfl,rfl,rfl,rfl,rfl,rfl,trivial⟩<|zBd (hs':=[hO Int (vS p5 l c5) cs2,hB b (cProg y1 p2 c2 p3 c3)]) (m':=[(5,vP b 0),(6,vS p4 y2 c4),(8,vS p5 l c5),(9,vI q),(54,vS p5 l c5),(55,vI q)]) (by first | rfl | simp only [vS,hl0,List.nil_append,List.cons_append,List.set_cons_zero,List.set_cons_succ,List.eraseIdx_cons_zero,List.eraseIdx_cons_succ]) (by first | rfl | simp only [vS,hl0])<|yN rfl<|zE<|zF<|zB<|xY [] Int ?_;intro b2 hb2;have h12:RL imm03 [] ([]:List Int):=rfl;refine yK 2 [] [(58,vS p4 y2 c4)] ?_;obtain ⟨ccs2,k02,k03⟩:=h3;have h3:SL imm03 (vS p4 y2 c4) y2:=⟨_,k02,k03⟩;obtain ⟨y6,hy8,hM⟩:=zC hM;refine qS 3 1 0 rfl rfl rfl h12 (.inl k02) k03 hy8 ?_;intro p6 c6 cs3 h13;refine qC (zL [0,1,2] (hs':=[hO Int (vS p6 y6 c6) cs3,hO Int (vS p5 l c5) cs2,hB b (cProg y1 p2 c2 p3 c3)]) rfl (by decide))<|zY [] [(10,vS p6 y6 c6)]<|zE<|zF<|zB<|yK 2 [] [(60,vS p6 y6 c6),(61,vI q)] ?_;obtain ⟨x2,hy9,hM⟩:=zC hM;refine nH 0 rfl rfl rfl h13 hy9 ?_;intro ad1 ccs3 hat1 hcc1 hrep1;obtain rfl:=hrep1;obtain ⟨l1,hy10,hM⟩:=zC hM;refine qL (c:=[vI 1000]) (x':=1000) 0 0 rfl rfl rfl hat1 rfl rfl hcc1 (by kernel_rfl) (by kernel_rfl) (by kernel_rfl) h13 hy9 (by kernel_rfl) rfl ?_;rw [show y6.set q.toNat 1000=l1 from zD hy10];intro cs4 h14 hl01;refine mX (m':=[(5,vP b 0),(6,vS p4 y2 c4),(8,vS p5 l c5),(10,vS p6 y6 c6),(60,vS p6 y6 c6),(61,vI q)]) ⟨rfl,rfl,rfl,rfl,rfl,rfl,trivial⟩<|zBd (hs':=[hO Int (vS p6 l1 c6) cs4,hO Int (vS p5 l c5) cs2,hB b (cProg y1 p2 c2 p3 c3)]) (m':=[(5,vP b 0),(6,vS p4 y2 c4),(8,vS p5 l c5),(10,vS p6 l1 c6),(60,vS p6 l1 c6),(61,vI q)]) (by first | rfl | simp only [vS,hl01,List.nil_append,List.cons_append,List.set_cons_zero,List.set_cons_succ,List.eraseIdx_cons_zero,List.eraseIdx_cons_succ]) (by first | rfl | simp only [vS,hl01])<|yN rfl<|zE<|zF ?_;obtain ⟨o02,ho02,hMc2⟩:=zC hM;refine yT (fun imm' hs' m'=>∃ (t4:Bool),o02=t4∧imm03.le imm'∧hs'=[]∧m'=[(4,.bool t4)]) ?_ ?_
 · have hle02:=hle;have hle:=iS imm03;obtain ⟨y7,hy11,hM⟩:=zC ho02;cases hc5:y7 with
   | true =>
    have hM06:=zU hc5 hM;obtain ⟨y8,hy12,hM⟩:=zC hM06;cases hc6:(!y8) with
    | true =>
     have hM07:=zU hc6 hM;obtain ⟨l2,hy13,hM⟩:=zC hM07;obtain ⟨y9,hy14,hM⟩:=zC hM;cases hc7:(!y9) with
     | true =>
      have hM08:=zU hc7 hM;obtain ⟨y10,hy15,hM⟩:=zC hM08;refine vZ [.p (vA (cProg y1 p2 c2 p3 c3)) [0],.p (vS p5 l c5) [],.x (fun imm' v hx=>v=.bool true∧hx=[hO Int (vS p5 l c5) cs2]),.q (.bool true),.p (vA (cProg y1 p2 c2 p3 c3)) [0],.p (vS p6 l1 c6) [],.x (fun imm' v hx=>v=.bool y8∧hx=[hO Int (vS p6 l1 c6) cs4]),.q (.bool true),.q (.bool true),.q (.bool true),.p (vA (cProg y1 p2 c2 p3 c3)) [0],.p (vS p4 y2 c4) [],.x (fun imm' v hx=>∃ p7 c7,v=vS p7 l2 c7∧hx=[]∧(S4 imm' p7 l2 c7)),.q (.bool y9),.q (.bool true),.q (.bool true),.q (.bool true),.p (vS p4 y2 c4) [],.p (vI (y2.length:Int)) [],.p (vA (cProg y1 p2 c2 p3 c3)) [0],.q (vI y10),.p (.bool ((y2.length:Int) == y10)) [],.p (.bool ((y2.length:Int) == y10)) []] [[],[],[(0,false),(1,false),(24,true)],[(2,false)],[(3,false)],[(3,false)],[(3,false),(4,false),(5,false),(25,true)],[(3,false),(6,false)],[(3,false),(7,false)],[(8,false)],[(9,false)],[(9,false)],[(9,false),(11,false)],[(9,false),(10,false),(12,false)],[(9,false),(13,false)],[(9,false),(14,false)],[(15,false)],[(16,false)],[(16,false),(17,false)],[(16,false)],[(16,false),(19,false)],[(16,false),(18,false),(20,false)],[(16,false),(21,false)]] [hB b (cProg y1 p2 c2 p3 c3)] [[hO Int (vS p5 l c5) cs2],[hO Int (vS p6 l1 c6) cs4]] [(2,true),(6,true),(22,false)] (zL [2,1,0] rfl (by decide)) ?_ ?_
      · refine Op<|Op<|Ox ?_<|Oq ?_<|Op<|Op<|Ox ?_<|Oq ?_<|Oq ?_<|Oq ?_<|Op<|Op<|Ox ?_<|Oq ?_<|Oq ?_<|Oq ?_<|Oq ?_<|Op<|Op<|Op<|Oq ?_<|Op<|Op<|On
        · intro imm1 hf le1;refine zG ?_;rintro _ _ ⟨rfl,rfl⟩;refine zG ?_;rintro _ _ ⟨rfl,rfl⟩;refine zG ?_;rintro _ _ rfl;refine zN<|yG [(63,vA (cProg y1 p2 c2 p3 c3)),(64,vS p5 l c5)] ?_;have hle:=iS imm1;have h11:=iM le1 h11;have h4:=h4.mono le1;have h5:=h5.mono le1;refine R_call_lend (L:=[hO Int (vS p5 l c5) cs2]) (hs1:=[]) (rest:=(hB b (cProg y1 p2 c2 p3 c3)::hf)) rfl rfl rfl rfl (by kernel_rfl) rfl rfl (fun i1 le1 hl1=>impl_MemoryValid_ok y1 l _ hy11 (h4.mono le1) (h5.mono le1) ⟨_,hl1 (hO Int (vS p5 l c5) cs2) (by simp),iM le1 h11⟩) ?_;rintro - imm07 hs2 v2 k2 le6 - - - ⟨v07,rfl,rfl,rfl⟩ -;have h4:=h4.mono le6;have h5:=h5.mono le6;have h11:=iM le6 h11;have hle:=hle.trans le6;rw [hc5];exact zX (hx:=[hO Int (vS p5 l c5) cs2]) rfl hle rfl (zM rfl) ⟨rfl,rfl⟩
        · intro imm1 hf le1;refine zG ?_;rintro _ _ ⟨rfl,rfl⟩;refine zN<|yG [(65,.bool true)] ?_;have hle:=iS imm1;exact qQ 4 [(66,.bool true)]<|zX (hx:=[]) rfl hle rfl (zM rfl) ⟨rfl,rfl⟩
        · intro imm1 hf le1;refine zG ?_;rintro _ _ ⟨rfl,rfl⟩;refine zG ?_;rintro _ _ ⟨rfl,rfl⟩;refine zG ?_;rintro _ _ ⟨rfl,rfl⟩;refine zG ?_;rintro _ _ rfl;refine zN<|yG [(66,.bool true),(67,vA (cProg y1 p2 c2 p3 c3)),(68,vS p6 l1 c6)] ?_;have hle:=iS imm1;have h14:=iM le1 h14;have h4:=h4.mono le1;have h5:=h5.mono le1;refine R_call_lend (L:=[hO Int (vS p6 l1 c6) cs4]) (hs1:=[]) (rest:=(hB b (cProg y1 p2 c2 p3 c3)::hf)) rfl rfl rfl rfl (by kernel_rfl) rfl rfl (fun i1 le1 hl1=>impl_MemoryValid_ok y1 l1 _ hy12 (h4.mono le1) (h5.mono le1) ⟨_,hl1 (hO Int (vS p6 l1 c6) cs4) (by simp),iM le1 h14⟩) ?_;rintro - imm08 hs2 v2 k2 le7 - - - ⟨v08,rfl,rfl,rfl⟩ -;have h4:=h4.mono le7;have h5:=h5.mono le7;have h14:=iM le7 h14;have hle:=hle.trans le7;exact zX (hx:=[hO Int (vS p6 l1 c6) cs4]) rfl hle rfl (zM rfl) ⟨rfl,rfl⟩
        · intro imm1 hf le1;refine zG ?_;rintro _ _ ⟨rfl,rfl⟩;refine zG ?_;rintro _ _ ⟨rfl,rfl⟩;refine zN<|yG [(66,.bool true),(69,.bool y8)] ?_;have hle:=iS imm1;refine qQ 8 [(70,.bool (!y8))] ?_;rw [hc6];exact zX (hx:=[]) rfl hle rfl (zM rfl) ⟨rfl,rfl⟩
        · intro imm1 hf le1;refine zG ?_;rintro _ _ ⟨rfl,rfl⟩;refine zG ?_;rintro _ _ ⟨rfl,rfl⟩;refine zN<|yG [(66,.bool true),(70,.bool true)] ?_;have hle:=iS imm1;exact qQ 9 [(71,.bool true)]<|zX (hx:=[]) rfl hle rfl (zM rfl) ⟨rfl,rfl⟩
        · intro imm1 hf le1;refine zG ?_;rintro _ _ ⟨rfl,rfl⟩;refine zN<|yG [(71,.bool true)] ?_;have hle:=iS imm1;exact qQ 10 [(72,.bool true)]<|zX (hx:=[]) rfl hle rfl (zM rfl) ⟨rfl,rfl⟩
        · intro imm1 hf le1;refine zG ?_;rintro _ _ ⟨rfl,rfl⟩;refine zG ?_;rintro _ _ ⟨rfl,rfl⟩;refine zN<|yG [(72,.bool true),(74,vS p4 y2 c4)] ?_;have hle:=iS imm1;have h3:=h3.mono le1;refine zIQ rfl h3 hy13 ?_;intro v09 h17;obtain ⟨p7,c7,rfl⟩:=h17.form;exact zX (hx:=[]) rfl hle rfl (zM rfl) ⟨_,_,rfl,rfl,h17⟩
        · intro imm1 hf le1;refine zG ?_;rintro _ _ ⟨rfl,rfl⟩;refine zG ?_;rintro _ _ ⟨rfl,rfl⟩;refine zG ?_;rintro _ _ ⟨p7,c7,rfl,rfl,h17⟩;refine zN<|yG [(72,.bool true),(73,vA (cProg y1 p2 c2 p3 c3)),(75,vS p7 l2 c7)] ?_;have hle:=iS imm1;have h4:=h4.mono le1;have h5:=h5.mono le1;refine yR (impl_MemoryValid_ok y1 l2 _ hy14 h4 h5 h17) ?_;rintro imm09 hs2 v2 k2 le8 - ⟨v010,rfl,rfl,rfl⟩ -;have h4:=h4.mono le8;have h5:=h5.mono le8;have h17:=h17.mono le8;have hle:=hle.trans le8;exact zX (hx:=[]) rfl hle rfl (zM rfl) ⟨rfl,rfl⟩
        · intro imm1 hf le1;refine zG ?_;rintro _ _ ⟨rfl,rfl⟩;refine zG ?_;rintro _ _ ⟨rfl,rfl⟩;refine zN<|yG [(72,.bool true),(76,.bool y9)] ?_;have hle:=iS imm1;refine qQ 15 [(77,.bool (!y9))] ?_;rw [hc7];exact zX (hx:=[]) rfl hle rfl (zM rfl) ⟨rfl,rfl⟩
        · intro imm1 hf le1;refine zG ?_;rintro _ _ ⟨rfl,rfl⟩;refine zG ?_;rintro _ _ ⟨rfl,rfl⟩;refine zN<|yG [(72,.bool true),(77,.bool true)] ?_;have hle:=iS imm1;exact qQ 16 [(78,.bool true)]<|zX (hx:=[]) rfl hle rfl (zM rfl) ⟨rfl,rfl⟩
        · intro imm1 hf le1;refine zG ?_;rintro _ _ ⟨rfl,rfl⟩;refine zN<|yG [(78,.bool true)] ?_;have hle:=iS imm1;exact qQ 17 [(79,.bool true)]<|zX (hx:=[]) rfl hle rfl (zM rfl) ⟨rfl,rfl⟩
        intro imm1 hf le1;refine zG ?_;rintro _ _ ⟨rfl,rfl⟩;refine zG ?_;rintro _ _ ⟨rfl,rfl⟩;refine zN<|yG [(79,.bool true),(82,vA (cProg y1 p2 c2 p3 c3))] ?_;have hle:=iS imm1;have h4:=h4.mono le1;have h5:=h5.mono le1;refine yR (impl_CountCells_ok y1 _ hy15 h4 h5) ?_;rintro imm010 hs2 v2 k2 le9 - ⟨v011,rfl,rfl,rfl⟩ -;have h4:=h4.mono le9;have h5:=h5.mono le9;have hle:=hle.trans le9;exact zX (hx:=[]) rfl hle rfl (zM rfl) ⟨rfl,rfl⟩
      intro imm011 le10;refine zG ?_;rintro _ _ ⟨rfl,rfl⟩;refine zG ?_;rintro _ _ ⟨rfl,rfl⟩;refine zG ?_;rintro _ _ ⟨rfl,rfl⟩;refine zN<|yG [(85,.bool ((y2.length:Int) == y10))] ?_;have h14:=iM le10 h14;have h11:=iM le10 h11;have h4:=h4.mono le10;have h5:=h5.mono le10;have hle:=hle.trans le10;exact zY [] [(4,.bool ((y2.length:Int) == y10))]<|wE (zL [] rfl (by decide))<|yU [(4,.bool ((y2.length:Int) == y10))]<|yA ⟨_,(zD hM).symm,hle,rfl,rfl⟩
     | false =>
      have hM09:=zS hc7 hM;refine vZ [.p (vA (cProg y1 p2 c2 p3 c3)) [0],.p (vS p5 l c5) [],.x (fun imm' v hx=>v=.bool true∧hx=[hO Int (vS p5 l c5) cs2]),.q (.bool true),.p (vA (cProg y1 p2 c2 p3 c3)) [0],.p (vS p6 l1 c6) [],.x (fun imm' v hx=>v=.bool y8∧hx=[hO Int (vS p6 l1 c6) cs4]),.q (.bool true),.q (.bool true),.q (.bool true),.p (vA (cProg y1 p2 c2 p3 c3)) [0],.p (vS p4 y2 c4) [],.x (fun imm' v hx=>∃ p7 c7,v=vS p7 l2 c7∧hx=[]∧(S4 imm' p7 l2 c7)),.q (.bool y9),.q (.bool false),.q (.bool false),.q (.bool false),.p undef [],.p undef [],.p undef [],.p undef [],.p undef [],.p (.bool false) []] [[],[],[(0,false),(1,false),(24,true)],[(2,false)],[(3,false)],[(3,false)],[(3,false),(4,false),(5,false),(25,true)],[(3,false),(6,false)],[(3,false),(7,false)],[(8,false)],[(9,false)],[(9,false)],[(9,false),(11,false)],[(9,false),(10,false),(12,false)],[(9,false),(13,false)],[(9,false),(14,false)],[(15,false)],[(16,false)],[(16,false),(17,false)],[(16,false)],[(16,false),(19,false)],[(16,false),(18,false),(20,false)],[(16,false),(21,false)]] [hB b (cProg y1 p2 c2 p3 c3)] [[hO Int (vS p5 l c5) cs2],[hO Int (vS p6 l1 c6) cs4]] [(2,true),(6,true),(22,false)] (zL [2,1,0] rfl (by decide)) ?_ ?_
      · refine Op<|Op<|Ox ?_<|Oq ?_<|Op<|Op<|Ox ?_<|Oq ?_<|Oq ?_<|Oq ?_<|Op<|Op<|Ox ?_<|Oq ?_<|Oq ?_<|Oq ?_<|Oq ?_<|Op<|Op<|Op<|Op<|Op<|Op<|On
        · intro imm1 hf le1;refine zG ?_;rintro _ _ ⟨rfl,rfl⟩;refine zG ?_;rintro _ _ ⟨rfl,rfl⟩;refine zG ?_;rintro _ _ rfl;refine zN<|yG [(63,vA (cProg y1 p2 c2 p3 c3)),(64,vS p5 l c5)] ?_;have hle:=iS imm1;have h11:=iM le1 h11;have h4:=h4.mono le1;have h5:=h5.mono le1;refine R_call_lend (L:=[hO Int (vS p5 l c5) cs2]) (hs1:=[]) (rest:=(hB b (cProg y1 p2 c2 p3 c3)::hf)) rfl rfl rfl rfl (by kernel_rfl) rfl rfl (fun i1 le1 hl1=>impl_MemoryValid_ok y1 l _ hy11 (h4.mono le1) (h5.mono le1) ⟨_,hl1 (hO Int (vS p5 l c5) cs2) (by simp),iM le1 h11⟩) ?_;rintro - imm07 hs2 v2 k2 le6 - - - ⟨v07,rfl,rfl,rfl⟩ -;have h4:=h4.mono le6;have h5:=h5.mono le6;have h11:=iM le6 h11;have hle:=hle.trans le6;rw [hc5];exact zX (hx:=[hO Int (vS p5 l c5) cs2]) rfl hle rfl (zM rfl) ⟨rfl,rfl⟩
        · intro imm1 hf le1;refine zG ?_;rintro _ _ ⟨rfl,rfl⟩;refine zN<|yG [(65,.bool true)] ?_;have hle:=iS imm1;exact qQ 4 [(66,.bool true)]<|zX (hx:=[]) rfl hle rfl (zM rfl) ⟨rfl,rfl⟩
        · intro imm1 hf le1;refine zG ?_;rintro _ _ ⟨rfl,rfl⟩;refine zG ?_;rintro _ _ ⟨rfl,rfl⟩;refine zG ?_;rintro _ _ ⟨rfl,rfl⟩;refine zG ?_;rintro _ _ rfl;refine zN<|yG [(66,.bool true),(67,vA (cProg y1 p2 c2 p3 c3)),(68,vS p6 l1 c6)] ?_;have hle:=iS imm1;have h14:=iM le1 h14;have h4:=h4.mono le1;have h5:=h5.mono le1;refine R_call_lend (L:=[hO Int (vS p6 l1 c6) cs4]) (hs1:=[]) (rest:=(hB b (cProg y1 p2 c2 p3 c3)::hf)) rfl rfl rfl rfl (by kernel_rfl) rfl rfl (fun i1 le1 hl1=>impl_MemoryValid_ok y1 l1 _ hy12 (h4.mono le1) (h5.mono le1) ⟨_,hl1 (hO Int (vS p6 l1 c6) cs4) (by simp),iM le1 h14⟩) ?_;rintro - imm08 hs2 v2 k2 le7 - - - ⟨v08,rfl,rfl,rfl⟩ -;have h4:=h4.mono le7;have h5:=h5.mono le7;have h14:=iM le7 h14;have hle:=hle.trans le7;exact zX (hx:=[hO Int (vS p6 l1 c6) cs4]) rfl hle rfl (zM rfl) ⟨rfl,rfl⟩
        · intro imm1 hf le1;refine zG ?_;rintro _ _ ⟨rfl,rfl⟩;refine zG ?_;rintro _ _ ⟨rfl,rfl⟩;refine zN<|yG [(66,.bool true),(69,.bool y8)] ?_;have hle:=iS imm1;refine qQ 8 [(70,.bool (!y8))] ?_;rw [hc6];exact zX (hx:=[]) rfl hle rfl (zM rfl) ⟨rfl,rfl⟩
        · intro imm1 hf le1;refine zG ?_;rintro _ _ ⟨rfl,rfl⟩;refine zG ?_;rintro _ _ ⟨rfl,rfl⟩;refine zN<|yG [(66,.bool true),(70,.bool true)] ?_;have hle:=iS imm1;exact qQ 9 [(71,.bool true)]<|zX (hx:=[]) rfl hle rfl (zM rfl) ⟨rfl,rfl⟩
        · intro imm1 hf le1;refine zG ?_;rintro _ _ ⟨rfl,rfl⟩;refine zN<|yG [(71,.bool true)] ?_;have hle:=iS imm1;exact qQ 10 [(72,.bool true)]<|zX (hx:=[]) rfl hle rfl (zM rfl) ⟨rfl,rfl⟩
        · intro imm1 hf le1;refine zG ?_;rintro _ _ ⟨rfl,rfl⟩;refine zG ?_;rintro _ _ ⟨rfl,rfl⟩;refine zN<|yG [(72,.bool true),(74,vS p4 y2 c4)] ?_;have hle:=iS imm1;have h3:=h3.mono le1;refine zIQ rfl h3 hy13 ?_;intro v09 h17;obtain ⟨p7,c7,rfl⟩:=h17.form;exact zX (hx:=[]) rfl hle rfl (zM rfl) ⟨_,_,rfl,rfl,h17⟩
        · intro imm1 hf le1;refine zG ?_;rintro _ _ ⟨rfl,rfl⟩;refine zG ?_;rintro _ _ ⟨rfl,rfl⟩;refine zG ?_;rintro _ _ ⟨p7,c7,rfl,rfl,h17⟩;refine zN<|yG [(72,.bool true),(73,vA (cProg y1 p2 c2 p3 c3)),(75,vS p7 l2 c7)] ?_;have hle:=iS imm1;have h4:=h4.mono le1;have h5:=h5.mono le1;refine yR (impl_MemoryValid_ok y1 l2 _ hy14 h4 h5 h17) ?_;rintro imm09 hs2 v2 k2 le8 - ⟨v010,rfl,rfl,rfl⟩ -;have h4:=h4.mono le8;have h5:=h5.mono le8;have h17:=h17.mono le8;have hle:=hle.trans le8;exact zX (hx:=[]) rfl hle rfl (zM rfl) ⟨rfl,rfl⟩
        · intro imm1 hf le1;refine zG ?_;rintro _ _ ⟨rfl,rfl⟩;refine zG ?_;rintro _ _ ⟨rfl,rfl⟩;refine zN<|yG [(72,.bool true),(76,.bool y9)] ?_;have hle:=iS imm1;refine qQ 15 [(77,.bool (!y9))] ?_;rw [hc7];exact zX (hx:=[]) rfl hle rfl (zM rfl) ⟨rfl,rfl⟩
        · intro imm1 hf le1;refine zG ?_;rintro _ _ ⟨rfl,rfl⟩;refine zG ?_;rintro _ _ ⟨rfl,rfl⟩;refine zN<|yG [(72,.bool true),(77,.bool false)] ?_;have hle:=iS imm1;exact qQ 16 [(78,.bool false)]<|zX (hx:=[]) rfl hle rfl (zM rfl) ⟨rfl,rfl⟩
        intro imm1 hf le1;refine zG ?_;rintro _ _ ⟨rfl,rfl⟩;refine zN<|yG [(78,.bool false)] ?_;have hle:=iS imm1;exact qQ 17 [(79,.bool false)]<|zX (hx:=[]) rfl hle rfl (zM rfl) ⟨rfl,rfl⟩
      intro imm012 le11;refine zG ?_;rintro _ _ ⟨rfl,rfl⟩;refine zG ?_;rintro _ _ ⟨rfl,rfl⟩;refine zG ?_;rintro _ _ ⟨rfl,rfl⟩;refine zN<|yG [(85,.bool false)] ?_;have h14:=iM le11 h14;have h11:=iM le11 h11;have h4:=h4.mono le11;have h5:=h5.mono le11;have hle:=hle.trans le11;exact zY [] [(4,.bool false)]<|wE (zL [] rfl (by decide))<|yU [(4,.bool false)]<|yA ⟨_,(zD hM09).symm,hle,rfl,rfl⟩
    | false =>
     have hM010:=zS hc6 hM;refine vZ [.p (vA (cProg y1 p2 c2 p3 c3)) [0],.p (vS p5 l c5) [],.x (fun imm' v hx=>v=.bool true∧hx=[hO Int (vS p5 l c5) cs2]),.q (.bool true),.p (vA (cProg y1 p2 c2 p3 c3)) [0],.p (vS p6 l1 c6) [],.x (fun imm' v hx=>v=.bool y8∧hx=[hO Int (vS p6 l1 c6) cs4]),.q (.bool false),.q (.bool false),.q (.bool false),.p undef [],.p undef [],.p undef [],.p undef [],.p undef [],.p (.bool false) [],.p (.bool false) [],.p undef [],.p undef [],.p undef [],.p undef [],.p undef [],.p (.bool false) []] [[],[],[(0,false),(1,false),(24,true)],[(2,false)],[(3,false)],[(3,false)],[(3,false),(4,false),(5,false),(25,true)],[(3,false),(6,false)],[(3,false),(7,false)],[(8,false)],[(9,false)],[(9,false)],[(9,false),(11,false)],[(9,false),(10,false),(12,false)],[(9,false),(13,false)],[(9,false),(14,false)],[(15,false)],[(16,false)],[(16,false),(17,false)],[(16,false)],[(16,false),(19,false)],[(16,false),(18,false),(20,false)],[(16,false),(21,false)]] [hB b (cProg y1 p2 c2 p3 c3)] [[hO Int (vS p5 l c5) cs2],[hO Int (vS p6 l1 c6) cs4]] [(2,true),(6,true),(22,false)] (zL [2,1,0] rfl (by decide)) ?_ ?_
     · refine Op<|Op<|Ox ?_<|Oq ?_<|Op<|Op<|Ox ?_<|Oq ?_<|Oq ?_<|Oq ?_<|Op<|Op<|Op<|Op<|Op<|Op<|Op<|Op<|Op<|Op<|Op<|Op<|Op<|On
       · intro imm1 hf le1;refine zG ?_;rintro _ _ ⟨rfl,rfl⟩;refine zG ?_;rintro _ _ ⟨rfl,rfl⟩;refine zG ?_;rintro _ _ rfl;refine zN<|yG [(63,vA (cProg y1 p2 c2 p3 c3)),(64,vS p5 l c5)] ?_;have hle:=iS imm1;have h11:=iM le1 h11;have h4:=h4.mono le1;have h5:=h5.mono le1;refine R_call_lend (L:=[hO Int (vS p5 l c5) cs2]) (hs1:=[]) (rest:=(hB b (cProg y1 p2 c2 p3 c3)::hf)) rfl rfl rfl rfl (by kernel_rfl) rfl rfl (fun i1 le1 hl1=>impl_MemoryValid_ok y1 l _ hy11 (h4.mono le1) (h5.mono le1) ⟨_,hl1 (hO Int (vS p5 l c5) cs2) (by simp),iM le1 h11⟩) ?_;rintro - imm07 hs2 v2 k2 le6 - - - ⟨v07,rfl,rfl,rfl⟩ -;have h4:=h4.mono le6;have h5:=h5.mono le6;have h11:=iM le6 h11;have hle:=hle.trans le6;rw [hc5];exact zX (hx:=[hO Int (vS p5 l c5) cs2]) rfl hle rfl (zM rfl) ⟨rfl,rfl⟩
       · intro imm1 hf le1;refine zG ?_;rintro _ _ ⟨rfl,rfl⟩;refine zN<|yG [(65,.bool true)] ?_;have hle:=iS imm1;exact qQ 4 [(66,.bool true)]<|zX (hx:=[]) rfl hle rfl (zM rfl) ⟨rfl,rfl⟩
       · intro imm1 hf le1;refine zG ?_;rintro _ _ ⟨rfl,rfl⟩;refine zG ?_;rintro _ _ ⟨rfl,rfl⟩;refine zG ?_;rintro _ _ ⟨rfl,rfl⟩;refine zG ?_;rintro _ _ rfl;refine zN<|yG [(66,.bool true),(67,vA (cProg y1 p2 c2 p3 c3)),(68,vS p6 l1 c6)] ?_;have hle:=iS imm1;have h14:=iM le1 h14;have h4:=h4.mono le1;have h5:=h5.mono le1;refine R_call_lend (L:=[hO Int (vS p6 l1 c6) cs4]) (hs1:=[]) (rest:=(hB b (cProg y1 p2 c2 p3 c3)::hf)) rfl rfl rfl rfl (by kernel_rfl) rfl rfl (fun i1 le1 hl1=>impl_MemoryValid_ok y1 l1 _ hy12 (h4.mono le1) (h5.mono le1) ⟨_,hl1 (hO Int (vS p6 l1 c6) cs4) (by simp),iM le1 h14⟩) ?_;rintro - imm08 hs2 v2 k2 le7 - - - ⟨v08,rfl,rfl,rfl⟩ -;have h4:=h4.mono le7;have h5:=h5.mono le7;have h14:=iM le7 h14;have hle:=hle.trans le7;exact zX (hx:=[hO Int (vS p6 l1 c6) cs4]) rfl hle rfl (zM rfl) ⟨rfl,rfl⟩
       · intro imm1 hf le1;refine zG ?_;rintro _ _ ⟨rfl,rfl⟩;refine zG ?_;rintro _ _ ⟨rfl,rfl⟩;refine zN<|yG [(66,.bool true),(69,.bool y8)] ?_;have hle:=iS imm1;refine qQ 8 [(70,.bool (!y8))] ?_;rw [hc6];exact zX (hx:=[]) rfl hle rfl (zM rfl) ⟨rfl,rfl⟩
       · intro imm1 hf le1;refine zG ?_;rintro _ _ ⟨rfl,rfl⟩;refine zG ?_;rintro _ _ ⟨rfl,rfl⟩;refine zN<|yG [(66,.bool true),(70,.bool false)] ?_;have hle:=iS imm1;exact qQ 9 [(71,.bool false)]<|zX (hx:=[]) rfl hle rfl (zM rfl) ⟨rfl,rfl⟩
       intro imm1 hf le1;refine zG ?_;rintro _ _ ⟨rfl,rfl⟩;refine zN<|yG [(71,.bool false)] ?_;have hle:=iS imm1;exact qQ 10 [(72,.bool false)]<|zX (hx:=[]) rfl hle rfl (zM rfl) ⟨rfl,rfl⟩
     intro imm013 le12;refine zG ?_;rintro _ _ ⟨rfl,rfl⟩;refine zG ?_;rintro _ _ ⟨rfl,rfl⟩;refine zG ?_;rintro _ _ ⟨rfl,rfl⟩;refine zN<|yG [(85,.bool false)] ?_;have h14:=iM le12 h14;have h11:=iM le12 h11;have h4:=h4.mono le12;have h5:=h5.mono le12;have hle:=hle.trans le12;exact zY [] [(4,.bool false)]<|wE (zL [] rfl (by decide))<|yU [(4,.bool false)]<|yA ⟨_,(zD hM010).symm,hle,rfl,rfl⟩
   | false =>
    have hM011:=zS hc5 hM;refine vZ [.p (vA (cProg y1 p2 c2 p3 c3)) [1],.p (vS p5 l c5) [],.x (fun imm' v hx=>v=.bool false∧hx=[hO Int (vS p5 l c5) cs2]),.q (.bool false),.p undef [],.p undef [],.p undef [],.p undef [],.p (.bool false) [],.p (.bool false) [],.p undef [],.p undef [],.p undef [],.p undef [],.p undef [],.p (.bool false) [],.p (.bool false) [],.p undef [],.p undef [],.p undef [],.p undef [],.p undef [],.p (.bool false) []] [[],[],[(0,false),(1,false),(24,true)],[(2,false)],[(3,false)],[(3,false)],[(3,false),(4,false),(5,false)],[(3,false),(6,false)],[(3,false),(7,false)],[(8,false)],[(9,false)],[(9,false)],[(9,false),(11,false)],[(9,false),(10,false),(12,false)],[(9,false),(13,false)],[(9,false),(14,false)],[(15,false)],[(16,false)],[(16,false),(17,false)],[(16,false)],[(16,false),(19,false)],[(16,false),(18,false),(20,false)],[(16,false),(21,false)]] [hO Int (vS p6 l1 c6) cs4,hB b (cProg y1 p2 c2 p3 c3)] [[hO Int (vS p5 l c5) cs2]] [(2,true),(22,false)] (zL [0,2,1] rfl (by decide)) ?_ ?_
    · refine Op<|Op<|Ox ?_<|Oq ?_<|Op<|Op<|Op<|Op<|Op<|Op<|Op<|Op<|Op<|Op<|Op<|Op<|Op<|Op<|Op<|Op<|Op<|Op<|Op<|On
      · intro imm1 hf le1;refine zG ?_;rintro _ _ ⟨rfl,rfl⟩;refine zG ?_;rintro _ _ ⟨rfl,rfl⟩;refine zG ?_;rintro _ _ rfl;refine zN<|yG [(63,vA (cProg y1 p2 c2 p3 c3)),(64,vS p5 l c5)] ?_;have hle:=iS imm1;have h11:=iM le1 h11;have h14:=iM le1 h14;have h4:=h4.mono le1;have h5:=h5.mono le1;refine R_call_lend (L:=[hO Int (vS p5 l c5) cs2]) (hs1:=[]) (rest:=(hO Int (vS p6 l1 c6) cs4::hB b (cProg y1 p2 c2 p3 c3)::hf)) rfl rfl rfl rfl (by kernel_rfl) rfl rfl (fun i1 le1 hl1=>impl_MemoryValid_ok y1 l _ hy11 (h4.mono le1) (h5.mono le1) ⟨_,hl1 (hO Int (vS p5 l c5) cs2) (by simp),iM le1 h11⟩) ?_;rintro - imm07 hs2 v2 k2 le6 - - - ⟨v07,rfl,rfl,rfl⟩ -;have h4:=h4.mono le6;have h5:=h5.mono le6;have h11:=iM le6 h11;have h14:=iM le6 h14;have hle:=hle.trans le6;rw [hc5];exact zX (hx:=[hO Int (vS p5 l c5) cs2]) rfl hle rfl (zM rfl) ⟨rfl,rfl⟩
      intro imm1 hf le1;refine zG ?_;rintro _ _ ⟨rfl,rfl⟩;refine zN<|yG [(65,.bool false)] ?_;have hle:=iS imm1;exact qQ 4 [(66,.bool false)]<|zX (hx:=[]) rfl hle rfl (zM rfl) ⟨rfl,rfl⟩
    intro imm014 le13;refine zG ?_;rintro _ _ ⟨rfl,rfl⟩;refine zG ?_;rintro _ _ ⟨rfl,rfl⟩;refine zN<|yG [(85,.bool false)] ?_;have h11:=iM le13 h11;have h14:=iM le13 h14;have h4:=h4.mono le13;have h5:=h5.mono le13;have hle:=hle.trans le13;exact zY [] [(4,.bool false)]<|wE (zL [] rfl (by decide))<|yU [(4,.bool false)]<|yA ⟨_,(zD hM011).symm,hle,rfl,rfl⟩
 rintro imm06 hs2 m2 ⟨t4,heq2,le14,rfl,rfl⟩;subst o02;have hle:=hle.trans le14;refine zE<|yJ ?_;obtain rfl:=zD hMc2;exact yQ ⟨_,_,(.tmp rfl ResV.nil),zV,⟨_,rfl,rfl,rfl⟩⟩
end Go.LN
namespace Go.LN
theorem slc_eq {α : Type} {s : List α} {f i : Nat} (hf : f ≤ i) (hi : i ≤ s.length) : slc s (f : Int) (i : Int) = some ((s.take i).drop f) := by
  unfold slc
  rw [if_pos (by omega)]
  simp
end Go.LN
namespace Go.LN
theorem implValidP (P : zZ) (h : BG P) : M.impl_ProgramValid P = some (validP P) := by
  unfold M.impl_ProgramValid validP
  rw [implInstances P h]
  cases progB P <;> rfl
end Go.LN
namespace Go.LN
def totL : List zJ → Int → Int
  | [], n => n
  | x :: l, n => totL l (W (n + sizeF x))
theorem implCells (P : zZ) (h : BR P.Arrays) : M.impl_Program_cells P = some (totL P.Arrays 0) := by
  unfold M.impl_Program_cells
  obtain ⟨h1, h2⟩ := h
  have key : ∀ (j i : Nat) (n : Int), i + j = P.Arrays.length → M.impl_Program_cells_l1 P n (i : Int) = some (totL (P.Arrays.drop i) n) := by
    intro j
    induction j with
    | zero =>
      intro i n hi
      rw [M.impl_Program_cells_l1]
      have : ¬ ((i : Int) < (P.Arrays.length : Int)) := by omega
      simp only [this, decide_false, Bool.false_eq_true, if_false]
      rw [List.drop_eq_nil_iff.2 (by omega)]; rfl
    | succ j ih =>
      intro i n hi
      rw [M.impl_Program_cells_l1]
      have hlt : i < P.Arrays.length := by omega
      have hc : ((i : Int) < (P.Arrays.length : Int)) := by omega
      have hd := h2 _ (List.getElem_mem hlt)
      simp only [hc, decide_true, if_true, xH hlt, Option.bind_eq_bind, Option.bind_some, implSize _ (show P.Arrays[i].Dims.length ≤ 1048576 by omega)]
      rw [tV (by omega), ih (i + 1) _ (by omega), List.drop_eq_getElem_cons hlt, totL]
  have := key _ 0 0 (Nat.zero_add _)
  rw [Int.natCast_zero, List.drop_zero] at this
  rw [this]; rfl
theorem specTotal (P : zZ) (h : BR P.Arrays) : M.spec_l4Total P = some (totL P.Arrays 0) := by
  unfold M.spec_l4Total
  obtain ⟨h1, h2⟩ := h
  have key : ∀ (j i : Nat) (n : Int), i + j = P.Arrays.length → M.spec_l4Total_l1 P n (i : Int) = some (totL (P.Arrays.drop i) n) := by
    intro j
    induction j with
    | zero =>
      intro i n hi
      rw [M.spec_l4Total_l1]
      have : ¬ ((i : Int) < (P.Arrays.length : Int)) := by omega
      simp only [this, decide_false, Bool.false_eq_true, if_false]
      rw [List.drop_eq_nil_iff.2 (by omega)]; rfl
    | succ j ih =>
      intro i n hi
      rw [M.spec_l4Total_l1]
      have hlt : i < P.Arrays.length := by omega
      have hc : ((i : Int) < (P.Arrays.length : Int)) := by omega
      have hd := h2 _ (List.getElem_mem hlt)
      simp only [hc, decide_true, if_true, xH hlt, Option.bind_eq_bind, Option.bind_some, specSize _ (show P.Arrays[i].Dims.length ≤ 1048576 by omega)]
      rw [tV (by omega), ih (i + 1) _ (by omega), List.drop_eq_getElem_cons hlt, totL]
  have := key _ 0 0 (Nat.zero_add _)
  rw [Int.natCast_zero, List.drop_zero] at this
  rw [this]; rfl
theorem implCount (P : zZ) (h : BG P) : M.impl_CountCells P = some (if validP P then totL P.Arrays 0 else 0) := by
  unfold M.impl_CountCells
  rw [implValidP P h, implCells P h.1]
  cases validP P <;> rfl
theorem specCountC (P : zZ) (h : BG P) : M.spec_CountCells P = some (if validP P then totL P.Arrays 0 else 0) := by
  unfold M.spec_CountCells
  rw [specValidP P h, specTotal P h.1]
  cases validP P <;> rfl
end Go.LN
