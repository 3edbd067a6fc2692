/- The structures of the program and how they lie in cells. Printed by gentypes.py. -/
import Derived.Test.YtmjfehjlgmdfhaaDoorLnQ
namespace Go.LN
set_option linter.unusedVariables false
set_option linter.unusedSimpArgs false
theorem one_int {k : IntKind} {n : Int} : (Value.int k n).oneCell' = true := rfl
theorem SL.one {α : Type} [Rp α] {i : Imm} {v : Value} {l : List α} (h : SL i v l) : v.oneCell' = true := by
  obtain ⟨ccs, hs, _⟩ := h
  rcases hs with ⟨rfl, _⟩ | ⟨b, off, len, cap, c, rfl, _⟩ <;> rfl
structure impl_Affine where
  Coefs : List Int
  Const : Int
instance : Rp impl_Affine where
  sz := 2
  pos := by decide
  rep i cs s := ∃ v0 : Value, cs = [v0, .int .i64 s.Const] ∧ SL i v0 s.Coefs
  len h := by obtain ⟨v0, rfl, h0⟩ := h; rfl
  mono hm h := by obtain ⟨v0, e, h0⟩ := h; exact ⟨v0, e, h0.mono hm⟩
  one h := by obtain ⟨v0, rfl, h0⟩ := h; simp [one_int, h0.one]
theorem impl_Affine_open {i : Imm} {cs : List Value} {s : impl_Affine} (h : Rp.rep i cs s) : ∃ v0 : Value, cs = [v0, .int .i64 s.Const] ∧ SL i v0 s.Coefs := h
theorem impl_Affine_shut {i : Imm} {cs : List Value} {s : impl_Affine} (h : ∃ v0 : Value, cs = [v0, .int .i64 s.Const] ∧ SL i v0 s.Coefs) : Rp.rep i cs s := h
instance : Vr impl_Affine := ⟨fun i v a => ∃ cs, v = .agg ⟨cs⟩ ∧ Rp.rep i cs a, fun hl ⟨cs, e, h⟩ => ⟨cs, e, Rp.mono hl h⟩⟩
structure spec_l16Rd where
  b : List UInt8
  p : Int
instance : Rp spec_l16Rd where
  sz := 2
  pos := by decide
  rep i cs s := ∃ v0 : Value, cs = [v0, .int .i64 s.p] ∧ SL i v0 s.b
  len h := by obtain ⟨v0, rfl, h0⟩ := h; rfl
  mono hm h := by obtain ⟨v0, e, h0⟩ := h; exact ⟨v0, e, h0.mono hm⟩
  one h := by obtain ⟨v0, rfl, h0⟩ := h; simp [one_int, h0.one]
theorem spec_l16Rd_open {i : Imm} {cs : List Value} {s : spec_l16Rd} (h : Rp.rep i cs s) : ∃ v0 : Value, cs = [v0, .int .i64 s.p] ∧ SL i v0 s.b := h
theorem spec_l16Rd_shut {i : Imm} {cs : List Value} {s : spec_l16Rd} (h : ∃ v0 : Value, cs = [v0, .int .i64 s.p] ∧ SL i v0 s.b) : Rp.rep i cs s := h
instance : Vr spec_l16Rd := ⟨fun i v a => ∃ cs, v = .agg ⟨cs⟩ ∧ Rp.rep i cs a, fun hl ⟨cs, e, h⟩ => ⟨cs, e, Rp.mono hl h⟩⟩
end Go.LN
