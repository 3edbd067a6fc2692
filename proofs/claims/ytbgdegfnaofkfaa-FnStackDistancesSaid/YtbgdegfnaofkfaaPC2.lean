/- What the functions on caches compute, second part, and that the laws answer true. -/
import Derived.Test.YtbgdegfnaofkfaaPC
namespace Go.LN
set_option linter.unusedVariables false
set_option linter.unusedSimpArgs false
open Pb
theorem sdv_len (t : List Int) : (SDv t).length ≤ t.length := by
  unfold SDv
  split
  · rw [sds_len]; exact Nat.le_refl _
  · simp
/-! ### The cache that drops the cell used latest -/
end Go.LN
