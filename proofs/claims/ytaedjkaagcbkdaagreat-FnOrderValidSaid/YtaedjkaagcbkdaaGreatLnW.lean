/- Contracts of strings.Split and strconv.Atoi, out of the library's own. -/
import Derived.Test.YtaedjkaagcbkdaaGreatLnQ
import Derived.Lib.AtoiErrMem
import Derived.Lib.AtoiTie
import Derived.Lib.SplitLaws
import Derived.Lib.AtoiAll
namespace Go.LN
set_option linter.unusedVariables false
set_option linter.unusedSimpArgs false
open Go.RowKit
theorem Good.below {imm : Imm} {w w' : World} (h : Good ⟨w, imm, []⟩ imm [] w) (b : Below w.heap.size w w') : Good ⟨w, imm, []⟩ imm [] w' := by
  refine ⟨fun k c e => ?_, by simp, by simp, ⟨b.os, b.tape, b.output, b.size, fun k hk _ => b.block k hk, fun _ _ _ => rfl⟩⟩
  obtain ⟨ty, fr, e'⟩ := h.inv k c e
  exact ⟨ty, fr, (b.block k (h.lt_imm e)).trans e'⟩
theorem Good.cell {B : Base} {imm : Imm} {hs : List HA} {w : World} (h : Good B imm hs w) {g : Nat} {v : Value} (e : imm g = some #[v]) : w.cell? ⟨g, 0, none⟩ = some v := by
  obtain ⟨ty, fr, e'⟩ := h.inv _ _ e
  simp only [World.cell?, e']
  simp
theorem zGI {P : Program} {f : FuncId} {args : List Value} {imm : Imm} {v : Value} {post : Nat → Imm → List HA → Value → Prop}
    (h : ∀ w, Good ⟨w, imm, []⟩ imm [] w → Calls P f args.toArray w fun e w' => e = .returned v ∧ Below w.heap.size w w') (hp : ∀ k, post k imm [] v) : Ret P f args imm [] post := fun w g =>
  (h w g).mono fun e w' ⟨he, hb⟩ => by
    subst he
    exact ⟨imm, [], hp _, g.below hb⟩
theorem At.of_blk {imm : Imm} {b : Nat} {cs : List Value} (h : imm b = some ⟨cs⟩) : At imm ⟨b, 0, none⟩ cs := ⟨b, 0, _, rfl, h, by simp, by simp⟩
/-! Arrays of integers that lie in a block. -/
section
variable {P : Program} {n : Nat} {B : Base} {ops : List Oper} {Q : Exit → Act → World → Prop} {pc : Nat} {imm : Imm} {hs : List HA} {m : FM} {d : Nat}
  {ty : TypeId} {pos : String} {after : Array Edge} {g : Option (Nat × Bool)}
end
end Go.LN
