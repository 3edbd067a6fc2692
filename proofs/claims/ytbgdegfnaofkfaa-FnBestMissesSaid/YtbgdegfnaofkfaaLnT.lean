/- The structures of the program and how they lie in cells. Printed by gentypes.py. -/
import Derived.Test.YtbgdegfnaofkfaaLnQ
namespace Go.LN
set_option linter.unusedVariables false
set_option linter.unusedSimpArgs false
theorem one_int {k : IntKind} {n : Int} : (Value.int k n).oneCell' = true := rfl
theorem one_str {s : ByteArray} : (Value.string s).oneCell' = true := rfl
theorem SL.one {α : Type} [Rp α] {i : Imm} {v : Value} {l : List α} (h : SL i v l) : v.oneCell' = true := by
  obtain ⟨ccs, hs, _⟩ := h
  rcases hs with ⟨rfl, _⟩ | ⟨b, off, len, cap, c, rfl, _⟩ <;> rfl
structure impl_Array where
  Name : Str
  Dims : List Int
instance : Rp impl_Array where
  sz := 2
  pos := by decide
  rep i cs s := ∃ v0 : Value, cs = [.string ⟨⟨s.Name.l⟩⟩, v0] ∧ SL i v0 s.Dims
  len h := by obtain ⟨v0, rfl, h0⟩ := h; rfl
  mono hm h := by obtain ⟨v0, e, h0⟩ := h; exact ⟨v0, e, h0.mono hm⟩
  one h := by obtain ⟨v0, rfl, h0⟩ := h; simp [one_str, h0.one]
theorem impl_Array_open {i : Imm} {cs : List Value} {s : impl_Array} (h : Rp.rep i cs s) : ∃ v0 : Value, cs = [.string ⟨⟨s.Name.l⟩⟩, v0] ∧ SL i v0 s.Dims := h
theorem impl_Array_shut {i : Imm} {cs : List Value} {s : impl_Array} (h : ∃ v0 : Value, cs = [.string ⟨⟨s.Name.l⟩⟩, v0] ∧ SL i v0 s.Dims) : Rp.rep i cs s := h
instance : Vr impl_Array := ⟨fun i v a => ∃ cs, v = .agg ⟨cs⟩ ∧ Rp.rep i cs a, fun hl ⟨cs, e, h⟩ => ⟨cs, e, Rp.mono hl h⟩⟩
structure impl_Affine where
  Coefs : List Int
  Const : Int
instance : Rp impl_Affine where
  sz := 2
  pos := by decide
  rep i cs s := ∃ v0 : Value, cs = [v0, .int .i64 s.Const] ∧ SL i v0 s.Coefs
  len h := by obtain ⟨v0, rfl, h0⟩ := h; rfl
  mono hm h := by obtain ⟨v0, e, h0⟩ := h; exact ⟨v0, e, h0.mono hm⟩
  one h := by obtain ⟨v0, rfl, h0⟩ := h; simp [one_int, h0.one]
theorem impl_Affine_open {i : Imm} {cs : List Value} {s : impl_Affine} (h : Rp.rep i cs s) : ∃ v0 : Value, cs = [v0, .int .i64 s.Const] ∧ SL i v0 s.Coefs := h
theorem impl_Affine_shut {i : Imm} {cs : List Value} {s : impl_Affine} (h : ∃ v0 : Value, cs = [v0, .int .i64 s.Const] ∧ SL i v0 s.Coefs) : Rp.rep i cs s := h
instance : Vr impl_Affine := ⟨fun i v a => ∃ cs, v = .agg ⟨cs⟩ ∧ Rp.rep i cs a, fun hl ⟨cs, e, h⟩ => ⟨cs, e, Rp.mono hl h⟩⟩
structure impl_Loop where
  Lo : List impl_Affine
  Hi : List impl_Affine
instance : Rp impl_Loop where
  sz := 2
  pos := by decide
  rep i cs s := ∃ v0 v1 : Value, cs = [v0, v1] ∧ SL i v0 s.Lo ∧ SL i v1 s.Hi
  len h := by obtain ⟨v0, v1, rfl, h0, h1⟩ := h; rfl
  mono hm h := by obtain ⟨v0, v1, e, h0, h1⟩ := h; exact ⟨v0, v1, e, h0.mono hm, h1.mono hm⟩
  one h := by obtain ⟨v0, v1, rfl, h0, h1⟩ := h; simp [h0.one, h1.one]
theorem impl_Loop_open {i : Imm} {cs : List Value} {s : impl_Loop} (h : Rp.rep i cs s) : ∃ v0 v1 : Value, cs = [v0, v1] ∧ SL i v0 s.Lo ∧ SL i v1 s.Hi := h
theorem impl_Loop_shut {i : Imm} {cs : List Value} {s : impl_Loop} (h : ∃ v0 v1 : Value, cs = [v0, v1] ∧ SL i v0 s.Lo ∧ SL i v1 s.Hi) : Rp.rep i cs s := h
instance : Vr impl_Loop := ⟨fun i v a => ∃ cs, v = .agg ⟨cs⟩ ∧ Rp.rep i cs a, fun hl ⟨cs, e, h⟩ => ⟨cs, e, Rp.mono hl h⟩⟩
structure impl_Access where
  Array : Str
  Subs : List impl_Affine
instance : Rp impl_Access where
  sz := 2
  pos := by decide
  rep i cs s := ∃ v0 : Value, cs = [.string ⟨⟨s.Array.l⟩⟩, v0] ∧ SL i v0 s.Subs
  len h := by obtain ⟨v0, rfl, h0⟩ := h; rfl
  mono hm h := by obtain ⟨v0, e, h0⟩ := h; exact ⟨v0, e, h0.mono hm⟩
  one h := by obtain ⟨v0, rfl, h0⟩ := h; simp [one_str, h0.one]
theorem impl_Access_open {i : Imm} {cs : List Value} {s : impl_Access} (h : Rp.rep i cs s) : ∃ v0 : Value, cs = [.string ⟨⟨s.Array.l⟩⟩, v0] ∧ SL i v0 s.Subs := h
theorem impl_Access_shut {i : Imm} {cs : List Value} {s : impl_Access} (h : ∃ v0 : Value, cs = [.string ⟨⟨s.Array.l⟩⟩, v0] ∧ SL i v0 s.Subs) : Rp.rep i cs s := h
instance : Vr impl_Access := ⟨fun i v a => ∃ cs, v = .agg ⟨cs⟩ ∧ Rp.rep i cs a, fun hl ⟨cs, e, h⟩ => ⟨cs, e, Rp.mono hl h⟩⟩
inductive impl_Expr where
  | mk (Kind : Int) (Num : Int) (Index : impl_Affine) (Read : impl_Access) (Kids : List impl_Expr)
def impl_Expr.Kind : impl_Expr → Int | .mk x _ _ _ _ => x
def impl_Expr.Num : impl_Expr → Int | .mk _ x _ _ _ => x
def impl_Expr.Index : impl_Expr → impl_Affine | .mk _ _ x _ _ => x
def impl_Expr.Read : impl_Expr → impl_Access | .mk _ _ _ x _ => x
def impl_Expr.Kids : impl_Expr → (List impl_Expr) | .mk _ _ _ _ x => x
mutual
def impl_Expr.repE (i : Imm) : impl_Expr → List Value → Prop
  | .mk Kind Num Index Read Kids, cs => ∃ (v0 v1 v2 : Value) (ccs : List Value), cs = [.int .i64 Kind, .int .i64 Num, v0, .int .i64 Index.Const, .string ⟨⟨Read.Array.l⟩⟩, v1, v2] ∧ SL i v0 Index.Coefs ∧ SL i v1 Read.Subs ∧ SliceAt i v2 7 ccs ∧ impl_Expr.reps i Kids ccs
def impl_Expr.reps (i : Imm) : List impl_Expr → List Value → Prop
  | [], cs => cs = []
  | e :: es, cs => ∃ c1 c2, cs = c1 ++ c2 ∧ c1.length = 7 ∧ impl_Expr.repE i e c1 ∧ impl_Expr.reps i es c2
end
mutual
theorem impl_Expr_repE_len {i : Imm} : ∀ {e : impl_Expr} {cs : List Value}, impl_Expr.repE i e cs → cs.length = 7
  | .mk .., cs, h => by simp only [impl_Expr.repE] at h; obtain ⟨v0, v1, v2, ccs, rfl, _⟩ := h; rfl
end
mutual
theorem impl_Expr_repE_mono {i j : Imm} (hm : i.le j) : ∀ {e : impl_Expr} {cs : List Value}, impl_Expr.repE i e cs → impl_Expr.repE j e cs
  | .mk .., cs, h => by
    simp only [impl_Expr.repE] at h ⊢
    obtain ⟨v0, v1, v2, ccs, e, k0, k1, ha, hb⟩ := h
    exact ⟨v0, v1, v2, ccs, e, k0.mono hm, k1.mono hm, ha.mono hm, impl_Expr_reps_mono hm hb⟩
theorem impl_Expr_reps_mono {i j : Imm} (hm : i.le j) : ∀ {es : List impl_Expr} {cs : List Value}, impl_Expr.reps i es cs → impl_Expr.reps j es cs
  | [], cs, h => by simpa [impl_Expr.reps] using h
  | e :: es, cs, h => by
    simp only [impl_Expr.reps] at h ⊢
    obtain ⟨c1, c2, h1, h2, h3, h4⟩ := h
    exact ⟨c1, c2, h1, h2, impl_Expr_repE_mono hm h3, impl_Expr_reps_mono hm h4⟩
end
theorem impl_Expr_reps_iff {i : Imm} : ∀ {es : List impl_Expr} {cs : List Value}, impl_Expr.reps i es cs ↔ RepL (fun c e => impl_Expr.repE i e c) 7 cs es
  | [], cs => by simp [impl_Expr.reps, RepL]
  | e :: es, cs => by
    simp only [impl_Expr.reps, RepL]
    constructor
    · rintro ⟨c1, c2, h1, h2, h3, h4⟩; exact ⟨c1, c2, h1, h2, h3, impl_Expr_reps_iff.1 h4⟩
    · rintro ⟨c1, c2, h1, h2, h3, h4⟩; exact ⟨c1, c2, h1, h2, h3, impl_Expr_reps_iff.2 h4⟩
theorem SliceAt.one {i : Imm} {v : Value} {sz : Nat} {cs : List Value} (hs : SliceAt i v sz cs) : v.oneCell' = true := by
  rcases hs with ⟨rfl, _⟩ | ⟨b, off, len, cap, c, rfl, _⟩ <;> rfl
theorem impl_Expr_repE_one {i : Imm} : ∀ {e : impl_Expr} {cs : List Value}, impl_Expr.repE i e cs → ∀ v ∈ cs, v.oneCell' = true
  | .mk .., cs, h => by
    simp only [impl_Expr.repE] at h
    obtain ⟨v0, v1, v2, ccs, rfl, k0, k1, ha, _⟩ := h
    simp [one_int, one_str, k0.one, k1.one, ha.one]
instance : Rp impl_Expr where
  sz := 7
  pos := by decide
  rep i cs e := impl_Expr.repE i e cs
  len h := impl_Expr_repE_len h
  mono hm h := impl_Expr_repE_mono hm h
  one h := impl_Expr_repE_one h
theorem impl_Expr_open {i : Imm} {cs : List Value} {s : impl_Expr} (h : Rp.rep i cs s) : ∃ v0 v1 v2 : Value, cs = [.int .i64 s.Kind, .int .i64 s.Num, v0, .int .i64 s.Index.Const, .string ⟨⟨s.Read.Array.l⟩⟩, v1, v2] ∧ SL i v0 s.Index.Coefs ∧ SL i v1 s.Read.Subs ∧ SL i v2 s.Kids := by
  obtain ⟨Kind, Num, Index, Read, Kids⟩ := s
  have h : impl_Expr.repE i _ cs := h
  simp only [impl_Expr.repE] at h
  obtain ⟨v0, v1, v2, ccs, e, k0, k1, ha, hb⟩ := h
  exact ⟨v0, v1, v2, e, k0, k1, ⟨ccs, ha, impl_Expr_reps_iff.1 hb⟩⟩
theorem impl_Expr_shut {i : Imm} {cs : List Value} {s : impl_Expr} (h : ∃ v0 v1 v2 : Value, cs = [.int .i64 s.Kind, .int .i64 s.Num, v0, .int .i64 s.Index.Const, .string ⟨⟨s.Read.Array.l⟩⟩, v1, v2] ∧ SL i v0 s.Index.Coefs ∧ SL i v1 s.Read.Subs ∧ SL i v2 s.Kids) : Rp.rep i cs s := by
  obtain ⟨Kind, Num, Index, Read, Kids⟩ := s
  show impl_Expr.repE i _ cs
  simp only [impl_Expr.repE]
  obtain ⟨v0, v1, v2, e, k0, k1, ⟨ccs, ha, hb⟩⟩ := h
  exact ⟨v0, v1, v2, ccs, e, k0, k1, ha, impl_Expr_reps_iff.2 hb⟩
instance : Vr impl_Expr := ⟨fun i v a => ∃ cs, v = .agg ⟨cs⟩ ∧ Rp.rep i cs a, fun hl ⟨cs, e, h⟩ => ⟨cs, e, Rp.mono hl h⟩⟩
structure impl_Stmt where
  Write : impl_Access
  Value : impl_Expr
instance : Rp impl_Stmt where
  sz := 9
  pos := by decide
  rep i cs s := ∃ v0 v1 v2 v3 : Value, cs = [.string ⟨⟨s.Write.Array.l⟩⟩, v0, .int .i64 s.Value.Kind, .int .i64 s.Value.Num, v1, .int .i64 s.Value.Index.Const, .string ⟨⟨s.Value.Read.Array.l⟩⟩, v2, v3] ∧ SL i v0 s.Write.Subs ∧ SL i v1 s.Value.Index.Coefs ∧ SL i v2 s.Value.Read.Subs ∧ SL i v3 s.Value.Kids
  len h := by obtain ⟨v0, v1, v2, v3, rfl, h0, h1, h2, h3⟩ := h; rfl
  mono hm h := by obtain ⟨v0, v1, v2, v3, e, h0, h1, h2, h3⟩ := h; exact ⟨v0, v1, v2, v3, e, h0.mono hm, h1.mono hm, h2.mono hm, h3.mono hm⟩
  one h := by obtain ⟨v0, v1, v2, v3, rfl, h0, h1, h2, h3⟩ := h; simp [one_str, one_int, h0.one, h1.one, h2.one, h3.one]
theorem impl_Stmt_open {i : Imm} {cs : List Value} {s : impl_Stmt} (h : Rp.rep i cs s) : ∃ v0 v1 v2 v3 : Value, cs = [.string ⟨⟨s.Write.Array.l⟩⟩, v0, .int .i64 s.Value.Kind, .int .i64 s.Value.Num, v1, .int .i64 s.Value.Index.Const, .string ⟨⟨s.Value.Read.Array.l⟩⟩, v2, v3] ∧ SL i v0 s.Write.Subs ∧ SL i v1 s.Value.Index.Coefs ∧ SL i v2 s.Value.Read.Subs ∧ SL i v3 s.Value.Kids := h
theorem impl_Stmt_shut {i : Imm} {cs : List Value} {s : impl_Stmt} (h : ∃ v0 v1 v2 v3 : Value, cs = [.string ⟨⟨s.Write.Array.l⟩⟩, v0, .int .i64 s.Value.Kind, .int .i64 s.Value.Num, v1, .int .i64 s.Value.Index.Const, .string ⟨⟨s.Value.Read.Array.l⟩⟩, v2, v3] ∧ SL i v0 s.Write.Subs ∧ SL i v1 s.Value.Index.Coefs ∧ SL i v2 s.Value.Read.Subs ∧ SL i v3 s.Value.Kids) : Rp.rep i cs s := h
instance : Vr impl_Stmt := ⟨fun i v a => ∃ cs, v = .agg ⟨cs⟩ ∧ Rp.rep i cs a, fun hl ⟨cs, e, h⟩ => ⟨cs, e, Rp.mono hl h⟩⟩
structure impl_Part where
  Nest : List impl_Loop
  Body : List impl_Stmt
instance : Rp impl_Part where
  sz := 2
  pos := by decide
  rep i cs s := ∃ v0 v1 : Value, cs = [v0, v1] ∧ SL i v0 s.Nest ∧ SL i v1 s.Body
  len h := by obtain ⟨v0, v1, rfl, h0, h1⟩ := h; rfl
  mono hm h := by obtain ⟨v0, v1, e, h0, h1⟩ := h; exact ⟨v0, v1, e, h0.mono hm, h1.mono hm⟩
  one h := by obtain ⟨v0, v1, rfl, h0, h1⟩ := h; simp [h0.one, h1.one]
theorem impl_Part_open {i : Imm} {cs : List Value} {s : impl_Part} (h : Rp.rep i cs s) : ∃ v0 v1 : Value, cs = [v0, v1] ∧ SL i v0 s.Nest ∧ SL i v1 s.Body := h
theorem impl_Part_shut {i : Imm} {cs : List Value} {s : impl_Part} (h : ∃ v0 v1 : Value, cs = [v0, v1] ∧ SL i v0 s.Nest ∧ SL i v1 s.Body) : Rp.rep i cs s := h
instance : Vr impl_Part := ⟨fun i v a => ∃ cs, v = .agg ⟨cs⟩ ∧ Rp.rep i cs a, fun hl ⟨cs, e, h⟩ => ⟨cs, e, Rp.mono hl h⟩⟩
structure impl_Program where
  Arrays : List impl_Array
  Parts : List impl_Part
instance : Rp impl_Program where
  sz := 2
  pos := by decide
  rep i cs s := ∃ v0 v1 : Value, cs = [v0, v1] ∧ SL i v0 s.Arrays ∧ SL i v1 s.Parts
  len h := by obtain ⟨v0, v1, rfl, h0, h1⟩ := h; rfl
  mono hm h := by obtain ⟨v0, v1, e, h0, h1⟩ := h; exact ⟨v0, v1, e, h0.mono hm, h1.mono hm⟩
  one h := by obtain ⟨v0, v1, rfl, h0, h1⟩ := h; simp [h0.one, h1.one]
theorem impl_Program_open {i : Imm} {cs : List Value} {s : impl_Program} (h : Rp.rep i cs s) : ∃ v0 v1 : Value, cs = [v0, v1] ∧ SL i v0 s.Arrays ∧ SL i v1 s.Parts := h
theorem impl_Program_shut {i : Imm} {cs : List Value} {s : impl_Program} (h : ∃ v0 v1 : Value, cs = [v0, v1] ∧ SL i v0 s.Arrays ∧ SL i v1 s.Parts) : Rp.rep i cs s := h
instance : Vr impl_Program := ⟨fun i v a => ∃ cs, v = .agg ⟨cs⟩ ∧ Rp.rep i cs a, fun hl ⟨cs, e, h⟩ => ⟨cs, e, Rp.mono hl h⟩⟩
structure spec_l16Rd where
  b : List UInt8
  p : Int
instance : Rp spec_l16Rd where
  sz := 2
  pos := by decide
  rep i cs s := ∃ v0 : Value, cs = [v0, .int .i64 s.p] ∧ SL i v0 s.b
  len h := by obtain ⟨v0, rfl, h0⟩ := h; rfl
  mono hm h := by obtain ⟨v0, e, h0⟩ := h; exact ⟨v0, e, h0.mono hm⟩
  one h := by obtain ⟨v0, rfl, h0⟩ := h; simp [one_int, h0.one]
theorem spec_l16Rd_open {i : Imm} {cs : List Value} {s : spec_l16Rd} (h : Rp.rep i cs s) : ∃ v0 : Value, cs = [v0, .int .i64 s.p] ∧ SL i v0 s.b := h
theorem spec_l16Rd_shut {i : Imm} {cs : List Value} {s : spec_l16Rd} (h : ∃ v0 : Value, cs = [v0, .int .i64 s.p] ∧ SL i v0 s.b) : Rp.rep i cs s := h
instance : Vr spec_l16Rd := ⟨fun i v a => ∃ cs, v = .agg ⟨cs⟩ ∧ Rp.rep i cs a, fun hl ⟨cs, e, h⟩ => ⟨cs, e, Rp.mono hl h⟩⟩
structure spec_l6Use where
  reads : List Int
  write : Int
instance : Rp spec_l6Use where
  sz := 2
  pos := by decide
  rep i cs s := ∃ v0 : Value, cs = [v0, .int .i64 s.write] ∧ SL i v0 s.reads
  len h := by obtain ⟨v0, rfl, h0⟩ := h; rfl
  mono hm h := by obtain ⟨v0, e, h0⟩ := h; exact ⟨v0, e, h0.mono hm⟩
  one h := by obtain ⟨v0, rfl, h0⟩ := h; simp [one_int, h0.one]
theorem spec_l6Use_open {i : Imm} {cs : List Value} {s : spec_l6Use} (h : Rp.rep i cs s) : ∃ v0 : Value, cs = [v0, .int .i64 s.write] ∧ SL i v0 s.reads := h
theorem spec_l6Use_shut {i : Imm} {cs : List Value} {s : spec_l6Use} (h : ∃ v0 : Value, cs = [v0, .int .i64 s.write] ∧ SL i v0 s.reads) : Rp.rep i cs s := h
instance : Vr spec_l6Use := ⟨fun i v a => ∃ cs, v = .agg ⟨cs⟩ ∧ Rp.rep i cs a, fun hl ⟨cs, e, h⟩ => ⟨cs, e, Rp.mono hl h⟩⟩
structure impl_Instance where
  Part : Int
  Stmt : Int
  Point : List Int
instance : Rp impl_Instance where
  sz := 3
  pos := by decide
  rep i cs s := ∃ v0 : Value, cs = [.int .i64 s.Part, .int .i64 s.Stmt, v0] ∧ SL i v0 s.Point
  len h := by obtain ⟨v0, rfl, h0⟩ := h; rfl
  mono hm h := by obtain ⟨v0, e, h0⟩ := h; exact ⟨v0, e, h0.mono hm⟩
  one h := by obtain ⟨v0, rfl, h0⟩ := h; simp [one_int, h0.one]
theorem impl_Instance_open {i : Imm} {cs : List Value} {s : impl_Instance} (h : Rp.rep i cs s) : ∃ v0 : Value, cs = [.int .i64 s.Part, .int .i64 s.Stmt, v0] ∧ SL i v0 s.Point := h
theorem impl_Instance_shut {i : Imm} {cs : List Value} {s : impl_Instance} (h : ∃ v0 : Value, cs = [.int .i64 s.Part, .int .i64 s.Stmt, v0] ∧ SL i v0 s.Point) : Rp.rep i cs s := h
instance : Vr impl_Instance := ⟨fun i v a => ∃ cs, v = .agg ⟨cs⟩ ∧ Rp.rep i cs a, fun hl ⟨cs, e, h⟩ => ⟨cs, e, Rp.mono hl h⟩⟩
end Go.LN
