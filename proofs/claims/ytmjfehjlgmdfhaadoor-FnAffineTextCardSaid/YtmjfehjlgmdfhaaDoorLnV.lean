/- Plain laws of the words that the models are made of. -/
import Derived.Test.YtmjfehjlgmdfhaaDoorLnQ
namespace Go.LN
set_option linter.unusedVariables false
set_option linter.unusedSimpArgs false
theorem W_id {x : Int} (h0 : -9223372036854775808 ≤ x) (h1 : x ≤ 9223372036854775807) : W x = x := by
  show IntKind.i64.wrap x = x
  rw [IntKind.wrap_i64]; omega
theorem idx_nat {α : Type} (l : List α) (k : Nat) : idx l (k : Int) = l[k]? := by
  unfold idx
  simp
theorem idx_eq {α : Type} {l : List α} {i : Int} (h : 0 ≤ i) : idx l i = l[i.toNat]? := by
  unfold idx
  simp [h]
theorem cat_eq {a b : Str} (h : a.l.length + b.l.length ≤ 9223372036854775807) : cat a b = some ⟨a.l ++ b.l⟩ := by
  unfold cat; rw [if_pos h]
theorem W_succ {k : Nat} (h : k < 9223372036854775807) : W ((k : Int) + 1) = ((k + 1 : Nat) : Int) := by
  rw [W_id (by omega) (by omega)]; omega
end Go.LN
