/- What comes in, read as data: everything that lies in memory at the start is never written again. -/
import Derived.Test.YtbgdegfnaofkfaaDoorPLnV
import Derived.Deep.Slices
import Derived.Below
import Derived.WideShapes
namespace Go.LN
set_option linter.unusedVariables false
set_option linter.unusedSimpArgs false
open Go.ChangeShapes Go.WideShapes Go.Deep
def imm0 (w : World) : Imm := fun b => match w.heap[b]? with | some (.cells c _ _) => some c | _ => none
theorem imm0_some {w : World} {b : Nat} {c : Array Value} {ty : TypeId} {fr : Nat × Nat} (h : w.heap[b]? = some (.cells c ty fr)) : imm0 w b = some c := by simp [imm0, h]
theorem good0 (w : World) : Good ⟨w, imm0 w, []⟩ (imm0 w) [] w :=
  ⟨(fun b c e => by
    unfold imm0 at e
    split at e
    · rename_i c' ty fr h
      cases e; exact ⟨ty, fr, h⟩
    · cases e), by simp, by simp, ⟨rfl, rfl, rfl, Nat.le_refl _, fun _ _ _ => rfl, fun _ _ _ => rfl⟩⟩
end Go.LN
