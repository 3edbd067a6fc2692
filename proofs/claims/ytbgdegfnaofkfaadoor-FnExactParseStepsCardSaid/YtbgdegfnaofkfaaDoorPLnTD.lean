/- The structures of the program and how they lie in cells. Printed by gentypes.py. -/
import Derived.Test.YtbgdegfnaofkfaaDoorPLnQ
namespace Go.LN
set_option linter.unusedVariables false
set_option linter.unusedSimpArgs false
theorem one_int {k : IntKind} {n : Int} : (Value.int k n).oneCell' = true := rfl
theorem one_str {s : ByteArray} : (Value.string s).oneCell' = true := rfl
theorem SL.one {α : Type} [Rp α] {i : Imm} {v : Value} {l : List α} (h : SL i v l) : v.oneCell' = true := by
  obtain ⟨ccs, hs, _⟩ := h
  rcases hs with ⟨rfl, _⟩ | ⟨b, off, len, cap, c, rfl, _⟩ <;> rfl
structure impl_Step where
  Kind : Int
  Part : Int
  A : Int
  B : Int
instance : Rp impl_Step where
  sz := 4
  pos := by decide
  rep i cs s := cs = [.int .i64 s.Kind, .int .i64 s.Part, .int .i64 s.A, .int .i64 s.B]
  len h := by obtain rfl := h; rfl
  mono _ h := h
  one h := by obtain rfl := h; simp [one_int]
theorem impl_Step_open {i : Imm} {cs : List Value} {s : impl_Step} (h : Rp.rep i cs s) : cs = [.int .i64 s.Kind, .int .i64 s.Part, .int .i64 s.A, .int .i64 s.B] := h
theorem impl_Step_shut {i : Imm} {cs : List Value} {s : impl_Step} (h : cs = [.int .i64 s.Kind, .int .i64 s.Part, .int .i64 s.A, .int .i64 s.B]) : Rp.rep i cs s := h
instance : Vr impl_Step := ⟨fun i v a => ∃ cs, v = .agg ⟨cs⟩ ∧ Rp.rep i cs a, fun hl ⟨cs, e, h⟩ => ⟨cs, e, Rp.mono hl h⟩⟩
end Go.LN
