/- Values: the cell of an access; the laws of cells. -/
import Derived.Test.YtaedjkaagcbkdaaGreatXCellOf
import Derived.Test.YtaedjkaagcbkdaaGreatVE2
namespace Go.LN
set_option linter.unusedVariables false
set_option linter.unusedSimpArgs false
def cellO (P : zZ) (a : zK) (p : List Int) : Int := if (validP P && (accB a 4 && ptB p)) = true then cellF a p P.Arrays 0 else -1
theorem valid_rv {P : zZ} (h : BG P) (hv : validP P = true) : RV P.Arrays := by
  simp only [validP, progB, Bool.and_eq_true] at hv
  exact RV.of h.1 hv.1.1.1
theorem pt_len {p : List Int} (h : ptB p = true) : p.length ≤ 4 := by
  simp only [ptB, Bool.and_eq_true, decide_eq_true_eq] at h
  exact h.1
theorem implCellOf (P : zZ) (h : BG P) (a : zK) (ha : BL a.Subs) (p : List Int) (hp : p.length ≤ 1048576) : M.impl_CellOf P a p = some (cellO P a p) := by
  unfold M.impl_CellOf cellO
  rw [implValidP P h, implAccess a ha, implPoint p hp]
  cases hv : validP P with
  | false => rfl
  | true =>
    cases hA : accB a 4 with
    | false => rfl
    | true =>
      cases hP : ptB p with
      | false => rfl
      | true =>
        have := implCell P a p (AV.of hA) (pt_len hP) (valid_rv h hv)
        simp [this]
theorem specCellOf (P : zZ) (h : BG P) (a : zK) (ha : BL a.Subs) (p : List Int) (hp : p.length ≤ 1048576) : M.spec_CellOf P a p = some (cellO P a p) := by
  unfold M.spec_CellOf cellO
  rw [specValidP P h, specAccess a ha, specPoint p hp]
  cases hv : validP P with
  | false => rfl
  | true =>
    cases hA : accB a 4 with
    | false => rfl
    | true =>
      cases hP : ptB p with
      | false => rfl
      | true =>
        have := specCell P.Arrays a p (AV.of hA) (pt_len hP) (valid_rv h hv)
        simp [this]
theorem cellO_ge (P : zZ) (a : zK) (p : List Int) : -1 ≤ cellO P a p := by
  unfold cellO
  split
  · rename_i h
    rw [Bool.and_eq_true] at h
    exact (cell_lt h.1 a p).1
  · exact Int.le_refl _
/-! The cells of the arrays, one after the other. -/
end Go.LN
