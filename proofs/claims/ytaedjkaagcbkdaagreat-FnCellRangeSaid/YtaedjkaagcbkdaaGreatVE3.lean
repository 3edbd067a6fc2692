/- Values: the cell of an access; the laws of cells. -/
import Derived.Test.YtaedjkaagcbkdaaGreatXCellRange
import Derived.Test.YtaedjkaagcbkdaaGreatVE2
namespace Go.LN
set_option linter.unusedVariables false
set_option linter.unusedSimpArgs false
def cellO (P : zZ) (a : zK) (p : List Int) : Int := if (validP P && (accB a 4 && ptB p)) = true then cellF a p P.Arrays 0 else -1
theorem valid_rv {P : zZ} (h : BG P) (hv : validP P = true) : RV P.Arrays := by
  simp only [validP, progB, Bool.and_eq_true] at hv
  exact RV.of h.1 hv.1.1.1
theorem pt_len {p : List Int} (h : ptB p = true) : p.length ≤ 4 := by
  simp only [ptB, Bool.and_eq_true, decide_eq_true_eq] at h
  exact h.1
theorem implCellOf (P : zZ) (h : BG P) (a : zK) (ha : BL a.Subs) (p : List Int) (hp : p.length ≤ 1048576) : M.impl_CellOf P a p = some (cellO P a p) := by
  unfold M.impl_CellOf cellO
  rw [implValidP P h, implAccess a ha, implPoint p hp]
  cases hv : validP P with
  | false => rfl
  | true =>
    cases hA : accB a 4 with
    | false => rfl
    | true =>
      cases hP : ptB p with
      | false => rfl
      | true =>
        have := implCell P a p (AV.of hA) (pt_len hP) (valid_rv h hv)
        simp [this]
/-! The cells of the arrays, one after the other. -/
theorem range_l2 (P : zZ) (i : Nat) (hi : i < P.Arrays.length) (hd : P.Arrays[i].Dims.length ≤ 1000) : ∀ (j k : Nat) (n : Int), k + j = P.Arrays[i].Dims.length → M.laws_FnCellRange_l2 P (i : Int) n (k : Int) = some (szL (P.Arrays[i].Dims.drop k) n) := by
  intro j
  induction j with
  | zero =>
    intro k n hk
    rw [M.laws_FnCellRange_l2]
    have : ¬ ((k : Int) < (P.Arrays[i].Dims.length : Int)) := by omega
    simp only [xH hi, this, decide_false, Bool.false_eq_true, if_false, Option.bind_eq_bind, Option.bind_some, Option.pure_def, id]
    rw [List.drop_eq_nil_iff.2 (by omega)]; rfl
  | succ j ih =>
    intro k n hk
    rw [M.laws_FnCellRange_l2]
    have hlt : k < P.Arrays[i].Dims.length := by omega
    have hc : ((k : Int) < (P.Arrays[i].Dims.length : Int)) := by omega
    simp only [xH hi, hc, decide_true, if_true, xH hlt, Option.bind_eq_bind, Option.bind_some]
    rw [tV (by omega), ih (k + 1) _ (by omega), List.drop_eq_getElem_cons hlt, szL]
theorem c0_ba (n : Int) : BA (c0 n) := by unfold BA c0; simp
theorem range_l3 (P : zZ) (h : BG P) (hv : validP P = true) (i : Nat) (hi : i < P.Arrays.length) : ∀ (j c : Nat), ((c : Int) + (j : Int)) = sizeF P.Arrays[i] → M.laws_FnCellRange_l3 P (i : Int) (sizeF P.Arrays[i]) (sumS (P.Arrays.take i) + (c : Int)) (c : Int) = some (.done (sumS (P.Arrays.take i) + sizeF P.Arrays[i])) := by
  have hx := (valid_good hv).2.1 _ (List.getElem_mem hi)
  have hsz := hx.size
  have hda : ∀ y ∈ P.Arrays.take i, DA y := fun y hy => (valid_good hv).2.1 y (List.mem_of_mem_take hy)
  have hs := sumS_rng hda
  have hln := (valid_good hv).1
  have hlen : (P.Arrays.take i).length ≤ 4 := by rw [List.length_take]; omega
  intro j
  induction j with
  | zero =>
    intro c hc
    rw [M.laws_FnCellRange_l3]
    have : ¬ ((c : Int) < sizeF P.Arrays[i]) := by omega
    simp only [this, decide_false, Bool.false_eq_true, if_false, Option.pure_def]
    rw [show (c : Int) = sizeF P.Arrays[i] by omega]
  | succ j ih =>
    intro c hc
    rw [M.laws_FnCellRange_l3]
    have hlt : ((c : Int) < sizeF P.Arrays[i]) := by omega
    have hnx : W (sumS (P.Arrays.take i) + (c : Int) + 1) = sumS (P.Arrays.take i) + ((c + 1 : Nat) : Int) := by rw [sR (by omega) (by omega)]; omega
    have hih := ih (c + 1) (by omega)
    rcases hx with ⟨d, hd, _⟩ | ⟨d, e, hd, _⟩
    · obtain ⟨r1, r2⟩ := range_1 hv hi hd (Int.natCast_nonneg c) hlt
      have hcell := implCellOf P h ⟨P.Arrays[i].Name, [c0 (c : Int)]⟩ ⟨by simp, fun a ha => by rw [List.mem_singleton.1 ha]; exact c0_ba _⟩ [] (by simp)
      rw [cellO, hv, r1, show ptB [] = true from rfl, Bool.and_self, Bool.and_self, if_pos rfl, r2] at hcell
      unfold c0 at hcell
      simp only [hlt, decide_true, if_true, xH hi, Option.bind_eq_bind, Option.bind_some, hd, List.length_cons, List.length_nil, show (((0 + 1 : Nat) : Int) == 2) = false from rfl, Bool.false_eq_true, if_false, Option.pure_def, hcell, bne_self_eq_false]
      rw [tV (by omega), hnx]; exact hih
    · obtain ⟨r0, r3, r1, r2⟩ := range_2 hv hi hd (Int.natCast_nonneg c) hlt
      have hcell := implCellOf P h ⟨P.Arrays[i].Name, [c0 ((c : Int).tdiv e), c0 ((c : Int).tmod e)]⟩ ⟨by simp, fun a ha => by
        rcases List.mem_cons.1 ha with ha | ha
        · rw [ha]; exact c0_ba _
        · rw [List.mem_singleton.1 ha]; exact c0_ba _⟩ [] (by simp)
      rw [cellO, hv, r1, show ptB [] = true from rfl, Bool.and_self, Bool.and_self, if_pos rfl, r2] at hcell
      unfold c0 at hcell
      have hq : quo (c : Int) e = some ((c : Int).tdiv e) := by
        unfold quo
        rw [if_neg r0]
        have := sR (x := (c : Int).tdiv e) (by omega) (by omega)
        unfold W at this
        rw [this]
      have hr : rem (c : Int) e = some ((c : Int).tmod e) := by unfold rem; rw [if_neg r0]
      have hi1 : idx [d, e] 1 = some e := rfl
      simp only [hlt, decide_true, if_true, xH hi, Option.bind_eq_bind, Option.bind_some, hd, List.length_cons, List.length_nil, show (((0 + 1 + 1 : Nat) : Int) == 2) = true from rfl, hi1, hq, hr, Option.pure_def, hcell, bne_self_eq_false, Bool.false_eq_true, if_false]
      rw [tV (by omega), hnx]; exact hih
theorem sumS_take {l : List zJ} {i : Nat} (hi : i < l.length) : sumS (l.take (i + 1)) = sumS (l.take i) + sizeF l[i] := by
  rw [List.take_succ_eq_append_getElem hi, sumS_app, sumS, sumS, Int.add_zero]
theorem range_l1 (P : zZ) (h : BG P) (hv : validP P = true) : ∀ (j i : Nat), i + j = P.Arrays.length → M.laws_FnCellRange_l1 P (sumS (P.Arrays.take i)) (i : Int) = some (.done (sumS P.Arrays)) := by
  intro j
  induction j with
  | zero =>
    intro i hi
    rw [M.laws_FnCellRange_l1]
    have : ¬ ((i : Int) < (P.Arrays.length : Int)) := by omega
    simp only [this, decide_false, Bool.false_eq_true, if_false, Option.pure_def]
    rw [List.take_of_length_le (by omega)]
  | succ j ih =>
    intro i hi
    rw [M.laws_FnCellRange_l1]
    have hlt : i < P.Arrays.length := by omega
    have hc : ((i : Int) < (P.Arrays.length : Int)) := by omega
    have hsz := ((valid_good hv).2.1 _ (List.getElem_mem hlt)).size
    have hln := (valid_good hv).1
    have h2 := range_l2 P i hlt (h.1.2 _ (List.getElem_mem hlt)) _ 0 1 (Nat.zero_add _)
    rw [Int.natCast_zero, List.drop_zero] at h2
    have h3 := range_l3 P h hv i hlt (sizeF P.Arrays[i]).toNat 0 (by omega)
    rw [Int.natCast_zero, Int.add_zero] at h3
    have h2' : M.laws_FnCellRange_l2 P (i : Int) 1 0 = some (sizeF P.Arrays[i]) := h2
    simp only [hc, decide_true, if_true, Option.bind_eq_bind, Option.bind_some, h2', h3]
    rw [tV (by omega), ← sumS_take hlt]
    exact ih (i + 1) (by omega)
theorem law_CellRange (code : List UInt8) : ∃ r, M.laws_FnCellRange code = some r ∧ r = true := by
  obtain ⟨y, hy, hb, hAR⟩ := drawProg code
  unfold M.laws_FnCellRange
  refine ⟨true, ?_, rfl⟩
  have hd : M.spec_DrawCountCells code = some y := by unfold M.spec_DrawCountCells; rw [hy]; rfl
  by_cases h1 : (code.length : Int) > 1048576
  · simp [h1]
  · simp only [h1, decide_false, Bool.false_eq_true, if_false, hd, implCount y hb, specCountC y hb, implValidP y hb, Option.pure_def, Option.bind_eq_bind, Option.bind_some, bne_self_eq_false]
    cases hv : validP y with
    | false => simp
    | true =>
      have hl := range_l1 y hb hv _ 0 (Nat.zero_add _)
      rw [Int.natCast_zero, List.take_zero, sumS] at hl
      simp only [Bool.not_true, Bool.false_eq_true, if_false, if_true, Option.bind_some, hl, (valid_tot hv).1, beq_self_eq_true]
end Go.LN
