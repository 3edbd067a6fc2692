/- The structures of the program and how they lie in cells. Printed by gentypes.py. -/
import Derived.Test.YtaedjkaagcbkdaaGreatLnQ
namespace Go.LN
set_option linter.unusedVariables false
set_option linter.unusedSimpArgs false
theorem dQ {k : IntKind} {n : Int} : (Value.int k n).oneCell' = true := rfl
theorem zCh {s : ByteArray} : (Value.string s).oneCell' = true := rfl
theorem SL.one {α : Type} [Rp α] {i : Imm} {v : Value} {l : List α} (h : SL i v l) : v.oneCell' = true := by
  obtain ⟨ccs, hs, _⟩ := h
  rcases hs with ⟨rfl, _⟩ | ⟨b, off, len, cap, c, rfl, _⟩ <;> rfl
structure zJ where
  Name : Str
  Dims : List Int
instance : Rp zJ where
  sz := 2
  pos := by decide
  rep i cs s := ∃ v0 : Value, cs = [.string ⟨⟨s.Name.l⟩⟩, v0] ∧ SL i v0 s.Dims
  len h := by obtain ⟨v0, rfl, h0⟩ := h; rfl
  mono hm h := by obtain ⟨v0, e, h0⟩ := h; exact ⟨v0, e, h0.mono hm⟩
  one h := by obtain ⟨v0, rfl, h0⟩ := h; simp [zCh, h0.one]
theorem xU {i : Imm} {cs : List Value} {s : zJ} (h : Rp.rep i cs s) : ∃ v0 : Value, cs = [.string ⟨⟨s.Name.l⟩⟩, v0] ∧ SL i v0 s.Dims := h
theorem qV {i : Imm} {cs : List Value} {s : zJ} (h : ∃ v0 : Value, cs = [.string ⟨⟨s.Name.l⟩⟩, v0] ∧ SL i v0 s.Dims) : Rp.rep i cs s := h
instance : Vr zJ := ⟨fun i v a => ∃ cs, v = .agg ⟨cs⟩ ∧ Rp.rep i cs a, fun hl ⟨cs, e, h⟩ => ⟨cs, e, Rp.mono hl h⟩⟩
structure zA where
  Coefs : List Int
  Const : Int
instance : Rp zA where
  sz := 2
  pos := by decide
  rep i cs s := ∃ v0 : Value, cs = [v0, .int .i64 s.Const] ∧ SL i v0 s.Coefs
  len h := by obtain ⟨v0, rfl, h0⟩ := h; rfl
  mono hm h := by obtain ⟨v0, e, h0⟩ := h; exact ⟨v0, e, h0.mono hm⟩
  one h := by obtain ⟨v0, rfl, h0⟩ := h; simp [dQ, h0.one]
theorem yM {i : Imm} {cs : List Value} {s : zA} (h : Rp.rep i cs s) : ∃ v0 : Value, cs = [v0, .int .i64 s.Const] ∧ SL i v0 s.Coefs := h
theorem yO {i : Imm} {cs : List Value} {s : zA} (h : ∃ v0 : Value, cs = [v0, .int .i64 s.Const] ∧ SL i v0 s.Coefs) : Rp.rep i cs s := h
instance : Vr zA := ⟨fun i v a => ∃ cs, v = .agg ⟨cs⟩ ∧ Rp.rep i cs a, fun hl ⟨cs, e, h⟩ => ⟨cs, e, Rp.mono hl h⟩⟩
structure zI where
  Lo : List zA
  Hi : List zA
instance : Rp zI where
  sz := 2
  pos := by decide
  rep i cs s := ∃ v0 v1 : Value, cs = [v0, v1] ∧ SL i v0 s.Lo ∧ SL i v1 s.Hi
  len h := by obtain ⟨v0, v1, rfl, h0, h1⟩ := h; rfl
  mono hm h := by obtain ⟨v0, v1, e, h0, h1⟩ := h; exact ⟨v0, v1, e, h0.mono hm, h1.mono hm⟩
  one h := by obtain ⟨v0, v1, rfl, h0, h1⟩ := h; simp [h0.one, h1.one]
theorem uB {i : Imm} {cs : List Value} {s : zI} (h : Rp.rep i cs s) : ∃ v0 v1 : Value, cs = [v0, v1] ∧ SL i v0 s.Lo ∧ SL i v1 s.Hi := h
theorem qM {i : Imm} {cs : List Value} {s : zI} (h : ∃ v0 v1 : Value, cs = [v0, v1] ∧ SL i v0 s.Lo ∧ SL i v1 s.Hi) : Rp.rep i cs s := h
instance : Vr zI := ⟨fun i v a => ∃ cs, v = .agg ⟨cs⟩ ∧ Rp.rep i cs a, fun hl ⟨cs, e, h⟩ => ⟨cs, e, Rp.mono hl h⟩⟩
structure zK where
  Array : Str
  Subs : List zA
instance : Rp zK where
  sz := 2
  pos := by decide
  rep i cs s := ∃ v0 : Value, cs = [.string ⟨⟨s.Array.l⟩⟩, v0] ∧ SL i v0 s.Subs
  len h := by obtain ⟨v0, rfl, h0⟩ := h; rfl
  mono hm h := by obtain ⟨v0, e, h0⟩ := h; exact ⟨v0, e, h0.mono hm⟩
  one h := by obtain ⟨v0, rfl, h0⟩ := h; simp [zCh, h0.one]
theorem sX {i : Imm} {cs : List Value} {s : zK} (h : Rp.rep i cs s) : ∃ v0 : Value, cs = [.string ⟨⟨s.Array.l⟩⟩, v0] ∧ SL i v0 s.Subs := h
theorem qH {i : Imm} {cs : List Value} {s : zK} (h : ∃ v0 : Value, cs = [.string ⟨⟨s.Array.l⟩⟩, v0] ∧ SL i v0 s.Subs) : Rp.rep i cs s := h
instance : Vr zK := ⟨fun i v a => ∃ cs, v = .agg ⟨cs⟩ ∧ Rp.rep i cs a, fun hl ⟨cs, e, h⟩ => ⟨cs, e, Rp.mono hl h⟩⟩
inductive zH where
  | mk (Kind : Int) (Num : Int) (Index : zA) (Read : zK) (Kids : List zH)
def zH.Kind : zH → Int | .mk x _ _ _ _ => x
def zH.Num : zH → Int | .mk _ x _ _ _ => x
def zH.Index : zH → zA | .mk _ _ x _ _ => x
def zH.Read : zH → zK | .mk _ _ _ x _ => x
def zH.Kids : zH → (List zH) | .mk _ _ _ _ x => x
mutual
def zH.repE (i : Imm) : zH → List Value → Prop
  | .mk Kind Num Index Read Kids, cs => ∃ (v0 v1 v2 : Value) (ccs : List Value), cs = [.int .i64 Kind, .int .i64 Num, v0, .int .i64 Index.Const, .string ⟨⟨Read.Array.l⟩⟩, v1, v2] ∧ SL i v0 Index.Coefs ∧ SL i v1 Read.Subs ∧ SliceAt i v2 7 ccs ∧ zH.reps i Kids ccs
def zH.reps (i : Imm) : List zH → List Value → Prop
  | [], cs => cs = []
  | e :: es, cs => ∃ c1 c2, cs = c1 ++ c2 ∧ c1.length = 7 ∧ zH.repE i e c1 ∧ zH.reps i es c2
end
mutual
theorem zAR {i : Imm} : ∀ {e : zH} {cs : List Value}, zH.repE i e cs → cs.length = 7
  | .mk .., cs, h => by simp only [zH.repE] at h; obtain ⟨v0, v1, v2, ccs, rfl, _⟩ := h; rfl
end
mutual
theorem kK {i j : Imm} (hm : i.le j) : ∀ {e : zH} {cs : List Value}, zH.repE i e cs → zH.repE j e cs
  | .mk .., cs, h => by
    simp only [zH.repE] at h ⊢
    obtain ⟨v0, v1, v2, ccs, e, k0, k1, ha, hb⟩ := h
    exact ⟨v0, v1, v2, ccs, e, k0.mono hm, k1.mono hm, ha.mono hm, kL hm hb⟩
theorem kL {i j : Imm} (hm : i.le j) : ∀ {es : List zH} {cs : List Value}, zH.reps i es cs → zH.reps j es cs
  | [], cs, h => by simpa [zH.reps] using h
  | e :: es, cs, h => by
    simp only [zH.reps] at h ⊢
    obtain ⟨c1, c2, h1, h2, h3, h4⟩ := h
    exact ⟨c1, c2, h1, h2, kK hm h3, kL hm h4⟩
end
theorem oG {i : Imm} : ∀ {es : List zH} {cs : List Value}, zH.reps i es cs ↔ RepL (fun c e => zH.repE i e c) 7 cs es
  | [], cs => by simp [zH.reps, RepL]
  | e :: es, cs => by
    simp only [zH.reps, RepL]
    constructor
    · rintro ⟨c1, c2, h1, h2, h3, h4⟩; exact ⟨c1, c2, h1, h2, h3, oG.1 h4⟩
    · rintro ⟨c1, c2, h1, h2, h3, h4⟩; exact ⟨c1, c2, h1, h2, h3, oG.2 h4⟩
theorem SliceAt.one {i : Imm} {v : Value} {sz : Nat} {cs : List Value} (hs : SliceAt i v sz cs) : v.oneCell' = true := by
  rcases hs with ⟨rfl, _⟩ | ⟨b, off, len, cap, c, rfl, _⟩ <;> rfl
theorem zAS {i : Imm} : ∀ {e : zH} {cs : List Value}, zH.repE i e cs → ∀ v ∈ cs, v.oneCell' = true
  | .mk .., cs, h => by
    simp only [zH.repE] at h
    obtain ⟨v0, v1, v2, ccs, rfl, k0, k1, ha, _⟩ := h
    simp [dQ, zCh, k0.one, k1.one, ha.one]
instance : Rp zH where
  sz := 7
  pos := by decide
  rep i cs e := zH.repE i e cs
  len h := zAR h
  mono hm h := kK hm h
  one h := zAS h
theorem wF {i : Imm} {cs : List Value} {s : zH} (h : Rp.rep i cs s) : ∃ v0 v1 v2 : Value, cs = [.int .i64 s.Kind, .int .i64 s.Num, v0, .int .i64 s.Index.Const, .string ⟨⟨s.Read.Array.l⟩⟩, v1, v2] ∧ SL i v0 s.Index.Coefs ∧ SL i v1 s.Read.Subs ∧ SL i v2 s.Kids := by
  obtain ⟨Kind, Num, Index, Read, Kids⟩ := s
  have h : zH.repE i _ cs := h
  simp only [zH.repE] at h
  obtain ⟨v0, v1, v2, ccs, e, k0, k1, ha, hb⟩ := h
  exact ⟨v0, v1, v2, e, k0, k1, ⟨ccs, ha, oG.1 hb⟩⟩
theorem xM {i : Imm} {cs : List Value} {s : zH} (h : ∃ v0 v1 v2 : Value, cs = [.int .i64 s.Kind, .int .i64 s.Num, v0, .int .i64 s.Index.Const, .string ⟨⟨s.Read.Array.l⟩⟩, v1, v2] ∧ SL i v0 s.Index.Coefs ∧ SL i v1 s.Read.Subs ∧ SL i v2 s.Kids) : Rp.rep i cs s := by
  obtain ⟨Kind, Num, Index, Read, Kids⟩ := s
  show zH.repE i _ cs
  simp only [zH.repE]
  obtain ⟨v0, v1, v2, e, k0, k1, ⟨ccs, ha, hb⟩⟩ := h
  exact ⟨v0, v1, v2, ccs, e, k0, k1, ha, oG.2 hb⟩
instance : Vr zH := ⟨fun i v a => ∃ cs, v = .agg ⟨cs⟩ ∧ Rp.rep i cs a, fun hl ⟨cs, e, h⟩ => ⟨cs, e, Rp.mono hl h⟩⟩
structure zR where
  Write : zK
  Value : zH
instance : Rp zR where
  sz := 9
  pos := by decide
  rep i cs s := ∃ v0 v1 v2 v3 : Value, cs = [.string ⟨⟨s.Write.Array.l⟩⟩, v0, .int .i64 s.Value.Kind, .int .i64 s.Value.Num, v1, .int .i64 s.Value.Index.Const, .string ⟨⟨s.Value.Read.Array.l⟩⟩, v2, v3] ∧ SL i v0 s.Write.Subs ∧ SL i v1 s.Value.Index.Coefs ∧ SL i v2 s.Value.Read.Subs ∧ SL i v3 s.Value.Kids
  len h := by obtain ⟨v0, v1, v2, v3, rfl, h0, h1, h2, h3⟩ := h; rfl
  mono hm h := by obtain ⟨v0, v1, v2, v3, e, h0, h1, h2, h3⟩ := h; exact ⟨v0, v1, v2, v3, e, h0.mono hm, h1.mono hm, h2.mono hm, h3.mono hm⟩
  one h := by obtain ⟨v0, v1, v2, v3, rfl, h0, h1, h2, h3⟩ := h; simp [zCh, dQ, h0.one, h1.one, h2.one, h3.one]
theorem wL {i : Imm} {cs : List Value} {s : zR} (h : Rp.rep i cs s) : ∃ v0 v1 v2 v3 : Value, cs = [.string ⟨⟨s.Write.Array.l⟩⟩, v0, .int .i64 s.Value.Kind, .int .i64 s.Value.Num, v1, .int .i64 s.Value.Index.Const, .string ⟨⟨s.Value.Read.Array.l⟩⟩, v2, v3] ∧ SL i v0 s.Write.Subs ∧ SL i v1 s.Value.Index.Coefs ∧ SL i v2 s.Value.Read.Subs ∧ SL i v3 s.Value.Kids := h
theorem wM {i : Imm} {cs : List Value} {s : zR} (h : ∃ v0 v1 v2 v3 : Value, cs = [.string ⟨⟨s.Write.Array.l⟩⟩, v0, .int .i64 s.Value.Kind, .int .i64 s.Value.Num, v1, .int .i64 s.Value.Index.Const, .string ⟨⟨s.Value.Read.Array.l⟩⟩, v2, v3] ∧ SL i v0 s.Write.Subs ∧ SL i v1 s.Value.Index.Coefs ∧ SL i v2 s.Value.Read.Subs ∧ SL i v3 s.Value.Kids) : Rp.rep i cs s := h
instance : Vr zR := ⟨fun i v a => ∃ cs, v = .agg ⟨cs⟩ ∧ Rp.rep i cs a, fun hl ⟨cs, e, h⟩ => ⟨cs, e, Rp.mono hl h⟩⟩
structure zP where
  Nest : List zI
  Body : List zR
instance : Rp zP where
  sz := 2
  pos := by decide
  rep i cs s := ∃ v0 v1 : Value, cs = [v0, v1] ∧ SL i v0 s.Nest ∧ SL i v1 s.Body
  len h := by obtain ⟨v0, v1, rfl, h0, h1⟩ := h; rfl
  mono hm h := by obtain ⟨v0, v1, e, h0, h1⟩ := h; exact ⟨v0, v1, e, h0.mono hm, h1.mono hm⟩
  one h := by obtain ⟨v0, v1, rfl, h0, h1⟩ := h; simp [h0.one, h1.one]
theorem uM {i : Imm} {cs : List Value} {s : zP} (h : Rp.rep i cs s) : ∃ v0 v1 : Value, cs = [v0, v1] ∧ SL i v0 s.Nest ∧ SL i v1 s.Body := h
theorem sC {i : Imm} {cs : List Value} {s : zP} (h : ∃ v0 v1 : Value, cs = [v0, v1] ∧ SL i v0 s.Nest ∧ SL i v1 s.Body) : Rp.rep i cs s := h
instance : Vr zP := ⟨fun i v a => ∃ cs, v = .agg ⟨cs⟩ ∧ Rp.rep i cs a, fun hl ⟨cs, e, h⟩ => ⟨cs, e, Rp.mono hl h⟩⟩
structure zZ where
  Arrays : List zJ
  Parts : List zP
instance : Rp zZ where
  sz := 2
  pos := by decide
  rep i cs s := ∃ v0 v1 : Value, cs = [v0, v1] ∧ SL i v0 s.Arrays ∧ SL i v1 s.Parts
  len h := by obtain ⟨v0, v1, rfl, h0, h1⟩ := h; rfl
  mono hm h := by obtain ⟨v0, v1, e, h0, h1⟩ := h; exact ⟨v0, v1, e, h0.mono hm, h1.mono hm⟩
  one h := by obtain ⟨v0, v1, rfl, h0, h1⟩ := h; simp [h0.one, h1.one]
theorem zFp {i : Imm} {cs : List Value} {s : zZ} (h : Rp.rep i cs s) : ∃ v0 v1 : Value, cs = [v0, v1] ∧ SL i v0 s.Arrays ∧ SL i v1 s.Parts := h
theorem oU {i : Imm} {cs : List Value} {s : zZ} (h : ∃ v0 v1 : Value, cs = [v0, v1] ∧ SL i v0 s.Arrays ∧ SL i v1 s.Parts) : Rp.rep i cs s := h
instance : Vr zZ := ⟨fun i v a => ∃ cs, v = .agg ⟨cs⟩ ∧ Rp.rep i cs a, fun hl ⟨cs, e, h⟩ => ⟨cs, e, Rp.mono hl h⟩⟩
structure yI where
  Part : Int
  Stmt : Int
  Point : List Int
instance : Rp yI where
  sz := 3
  pos := by decide
  rep i cs s := ∃ v0 : Value, cs = [.int .i64 s.Part, .int .i64 s.Stmt, v0] ∧ SL i v0 s.Point
  len h := by obtain ⟨v0, rfl, h0⟩ := h; rfl
  mono hm h := by obtain ⟨v0, e, h0⟩ := h; exact ⟨v0, e, h0.mono hm⟩
  one h := by obtain ⟨v0, rfl, h0⟩ := h; simp [dQ, h0.one]
theorem zAT {i : Imm} {cs : List Value} {s : yI} (h : ∃ v0 : Value, cs = [.int .i64 s.Part, .int .i64 s.Stmt, v0] ∧ SL i v0 s.Point) : Rp.rep i cs s := h
instance : Vr yI := ⟨fun i v a => ∃ cs, v = .agg ⟨cs⟩ ∧ Rp.rep i cs a, fun hl ⟨cs, e, h⟩ => ⟨cs, e, Rp.mono hl h⟩⟩
structure vU where
  nest : List zI
  steps : Int
  out : List (List Int)
instance : Rp vU where
  sz := 3
  pos := by decide
  rep i cs s := ∃ v0 v1 : Value, cs = [v0, .int .i64 s.steps, v1] ∧ SL i v0 s.nest ∧ SL i v1 s.out
  len h := by obtain ⟨v0, v1, rfl, h0, h1⟩ := h; rfl
  mono hm h := by obtain ⟨v0, v1, e, h0, h1⟩ := h; exact ⟨v0, v1, e, h0.mono hm, h1.mono hm⟩
  one h := by obtain ⟨v0, v1, rfl, h0, h1⟩ := h; simp [dQ, h0.one, h1.one]
instance : Vr vU := ⟨fun i v a => ∃ cs, v = .agg ⟨cs⟩ ∧ Rp.rep i cs a, fun hl ⟨cs, e, h⟩ => ⟨cs, e, Rp.mono hl h⟩⟩
structure zO where
  b : List UInt8
  p : Int
instance : Rp zO where
  sz := 2
  pos := by decide
  rep i cs s := ∃ v0 : Value, cs = [v0, .int .i64 s.p] ∧ SL i v0 s.b
  len h := by obtain ⟨v0, rfl, h0⟩ := h; rfl
  mono hm h := by obtain ⟨v0, e, h0⟩ := h; exact ⟨v0, e, h0.mono hm⟩
  one h := by obtain ⟨v0, rfl, h0⟩ := h; simp [dQ, h0.one]
theorem yH {i : Imm} {cs : List Value} {s : zO} (h : Rp.rep i cs s) : ∃ v0 : Value, cs = [v0, .int .i64 s.p] ∧ SL i v0 s.b := h
theorem yS {i : Imm} {cs : List Value} {s : zO} (h : ∃ v0 : Value, cs = [v0, .int .i64 s.p] ∧ SL i v0 s.b) : Rp.rep i cs s := h
instance : Vr zO := ⟨fun i v a => ∃ cs, v = .agg ⟨cs⟩ ∧ Rp.rep i cs a, fun hl ⟨cs, e, h⟩ => ⟨cs, e, Rp.mono hl h⟩⟩
end Go.LN
