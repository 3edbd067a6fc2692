/- Values: good arrays; cells are within, and distinct. -/
import Derived.Test.YtaedjkaagcbkdaaGreatXOrderValid
import Derived.Test.YtaedjkaagcbkdaaGreatVC3
namespace Go.LN
set_option linter.unusedVariables false
set_option linter.unusedSimpArgs false
def DA (x : zJ) : Prop := (∃ d, x.Dims = [d] ∧ 1 ≤ d ∧ d ≤ 6) ∨ ∃ d e, x.Dims = [d, e] ∧ (1 ≤ d ∧ d ≤ 6) ∧ 1 ≤ e ∧ e ≤ 6
theorem mul36 {d e : Int} (h1 : 1 ≤ d) (h2 : d ≤ 6) (h3 : 1 ≤ e) (h4 : e ≤ 6) : 1 ≤ d * e ∧ d * e ≤ 36 := by
  have : d = 1 ∨ d = 2 ∨ d = 3 ∨ d = 4 ∨ d = 5 ∨ d = 6 := by omega
  rcases this with rfl | rfl | rfl | rfl | rfl | rfl <;> omega
theorem size_1 {x : zJ} {d : Int} (h : x.Dims = [d]) (h1 : 1 ≤ d) (h2 : d ≤ 6) : sizeF x = d := by
  unfold sizeF
  rw [h, szL, szL, Int.one_mul, sR (by omega) (by omega)]
theorem size_2 {x : zJ} {d e : Int} (h : x.Dims = [d, e]) (h1 : 1 ≤ d) (h2 : d ≤ 6) (h3 : 1 ≤ e) (h4 : e ≤ 6) : sizeF x = d * e := by
  unfold sizeF
  have := mul36 h1 h2 h3 h4
  rw [h, szL, szL, szL, Int.one_mul, sR (x := d) (by omega) (by omega), sR (by omega) (by omega)]
theorem DA.size {x : zJ} (h : DA x) : 1 ≤ sizeF x ∧ sizeF x ≤ 36 := by
  rcases h with ⟨d, h, h1, h2⟩ | ⟨d, e, h, ⟨h1, h2⟩, h3, h4⟩
  · rw [size_1 h h1 h2]; omega
  · rw [size_2 h h1 h2 h3 h4]; exact mul36 h1 h2 h3 h4
def nm (l : List zJ) (i : Nat) : Nat := match (l.getD i ⟨⟨[]⟩, []⟩).Name.l with | c :: _ => c.toNat | [] => 0
/-! Cells. -/
/-! A subscript one greater leads elsewhere. -/
end Go.LN
