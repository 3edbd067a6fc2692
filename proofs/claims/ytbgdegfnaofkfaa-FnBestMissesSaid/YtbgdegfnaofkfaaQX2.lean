/- Models that are total, fifth part. Printed by tg5.py. -/
import Derived.Test.YtbgdegfnaofkfaaQX1
namespace Go.LN
set_option linter.unusedVariables false
set_option linter.unusedSimpArgs false
theorem l16Cut_l1_aux (s : Str) (c : UInt8) (h0 : s.l.length ≤ 1000000) : ∀ (k : Nat) (out : List Str) (f : Int) (i : Int), Tot (M.spec_l16Cut_l1 s c out f i) ((s.l.length : Int) + 1 - i < (k : Int) ∧ 0 < (k : Int) ∧ 0 ≤ f ∧ f ≤ i ∧ i ≤ (s.l.length : Int) + 1 ∧ (out.length : Int) ≤ i ∧ (∀ x ∈ out, x.l.length ≤ s.l.length)) (fun φ => ∀ r, r.length ≤ s.l.length + 1 → (∀ x ∈ r, x.l.length ≤ s.l.length) → φ r) := by
  intro k
  induction k with
  | zero => intro out f i; exact ⟨fun h => absurd h.2.1 (by omega)⟩
  | succ k ih =>
    intro out f i; refine ⟨?_⟩; rintro ⟨v0, v1, v2, v3, v4, v5, v6⟩ φ hk; unfold M.spec_l16Cut_l1
    exact Ok.go
instance l16Cut_l1_tot (s : Str) (c : UInt8) (out : List Str) (f : Int) (i : Int) : Tot (M.spec_l16Cut_l1 s c out f i) (s.l.length ≤ 1000000 ∧ 0 ≤ f ∧ f ≤ i ∧ i ≤ (s.l.length : Int) + 1 ∧ (out.length : Int) ≤ i ∧ (∀ x ∈ out, x.l.length ≤ s.l.length)) (fun φ => ∀ r, r.length ≤ s.l.length + 1 → (∀ x ∈ r, x.l.length ≤ s.l.length) → φ r) := ⟨by
  rintro ⟨h0, v0, v1, v2, v3, v4⟩ φ hk
  exact (l16Cut_l1_aux s c h0 (((s.l.length : Int) + 1 - i).toNat + 1) out f i).ok ⟨by omega, by omega, v0, v1, v2, v3, v4⟩ φ hk⟩
instance l16Cut_tot (s : Str) (c : UInt8) : Tot (M.spec_l16Cut s c) (s.l.length ≤ 1000000) (fun φ => ∀ r, r.length ≤ s.l.length + 1 → (∀ x ∈ r, x.l.length ≤ s.l.length) → φ r) := ⟨by
  rintro h0 φ hk
  unfold M.spec_l16Cut
  exact Ok.go⟩
theorem l16Words_l1_aux (y : List Str) (b : Nat) (h0 : y.length ≤ 1000001) (h1 : ∀ x ∈ y, x.l.length ≤ b) : ∀ (k : Nat) (out : List Str) (i : Int), Tot (M.spec_l16Words_l1 y out i) ((y.length : Int) - i < (k : Int) ∧ 0 < (k : Int) ∧ 0 ≤ i ∧ i ≤ (y.length : Int) ∧ (out.length : Int) ≤ i ∧ (∀ x ∈ out, x.l.length ≤ b)) (fun φ => ∀ r, r.length ≤ y.length → (∀ x ∈ r, x.l.length ≤ b) → φ r) := by
  intro k
  induction k with
  | zero => intro out i; exact ⟨fun h => absurd h.2.1 (by omega)⟩
  | succ k ih =>
    intro out i; refine ⟨?_⟩; rintro ⟨v0, v1, v2, v3, v4, v5⟩ φ hk; unfold M.spec_l16Words_l1
    exact Ok.go
theorem l16Words_l1_tot (y : List Str) (b : Nat) (out : List Str) (i : Int) : Tot (M.spec_l16Words_l1 y out i) (y.length ≤ 1000001 ∧ (∀ x ∈ y, x.l.length ≤ b) ∧ 0 ≤ i ∧ i ≤ (y.length : Int) ∧ (out.length : Int) ≤ i ∧ (∀ x ∈ out, x.l.length ≤ b)) (fun φ => ∀ r, r.length ≤ y.length → (∀ x ∈ r, x.l.length ≤ b) → φ r) := ⟨by
  rintro ⟨h0, h1, v0, v1, v2, v3⟩ φ hk
  exact (l16Words_l1_aux y b h0 h1 (((y.length : Int) - i).toNat + 1) out i).ok ⟨by omega, by omega, v0, v1, v2, v3⟩ φ hk⟩
instance l16Words_tot (s : Str) : Tot (M.spec_l16Words s) (s.l.length ≤ 1000000) (fun φ => ∀ r, r.length ≤ s.l.length + 1 → (∀ x ∈ r, x.l.length ≤ s.l.length) → φ r) := ⟨by
  rintro h0 φ hk
  unfold M.spec_l16Words
  have tl := fun y => l16Words_l1_tot y s.l.length
  exact Ok.go⟩
theorem l16Num_l1_aux (s : Str) (h0 : s.l.length ≤ 1000000) : ∀ (k : Nat) (n : Int) (i : Int), Tot (M.spec_l16Num_l1 s n i) ((s.l.length : Int) - i < (k : Int) ∧ 0 < (k : Int) ∧ I64 n ∧ 0 ≤ i) (fun φ => (∀ n, I64 n → φ (.done n)) ∧ (φ (.ret (0, false)))) := by
  intro k
  induction k with
  | zero => intro n i; exact ⟨fun h => absurd h.2.1 (by omega)⟩
  | succ k ih =>
    intro n i; refine ⟨?_⟩; rintro ⟨v0, v1, v2, v3⟩ φ ⟨hd, hr⟩; unfold M.spec_l16Num_l1
    exact Ok.go
instance l16Num_l1_tot (s : Str) (n : Int) (i : Int) : Tot (M.spec_l16Num_l1 s n i) (s.l.length ≤ 1000000 ∧ I64 n ∧ 0 ≤ i) (fun φ => (∀ n, I64 n → φ (.done n)) ∧ (φ (.ret (0, false)))) := ⟨by
  rintro ⟨h0, v0, v1⟩ φ hk
  exact (l16Num_l1_aux s h0 (((s.l.length : Int) - i).toNat + 1) n i).ok ⟨by omega, by omega, v0, v1⟩ φ hk⟩
instance l16Num_tot (s : Str) : Tot (M.spec_l16Num s) (s.l.length ≤ 1000000) (fun φ => ∀ n b, I64 n → φ (n, b)) := ⟨by
  rintro h0 φ hk
  unfold M.spec_l16Num
  exact Ok.go⟩
theorem l4Array_l1_aux (w : List Str) (b : Nat) (h0 : w.length ≤ 1000001) (h1 : ∀ x ∈ w, x.l.length ≤ b) (h2 : b ≤ 1000000) : ∀ (k : Nat) (i : Int) (Name : Str) (Dims : List Int), Tot (M.spec_l4Array_l1 w i Name Dims) (5 - i < (k : Int) ∧ 0 < (k : Int) ∧ 1 ≤ i ∧ Name.l.length ≤ b ∧ (Dims.length : Int) ≤ i ∧ i ≤ 5) (fun φ => ∀ a d, a.l.length ≤ b → d.length ≤ 6 → φ (a, d)) := by
  intro k
  induction k with
  | zero => intro i Name Dims; exact ⟨fun h => absurd h.2.1 (by omega)⟩
  | succ k ih =>
    intro i Name Dims; refine ⟨?_⟩; rintro ⟨v0, v1, v2, v3, v4, v5⟩ φ hk; unfold M.spec_l4Array_l1
    have h3 : ∀ x ∈ w, x.l.length ≤ 1000000 := fun x hx => Nat.le_trans (h1 x hx) h2
    exact Ok.go
theorem l4Array_l1_tot (w : List Str) (b : Nat) (i : Int) (Name : Str) (Dims : List Int) : Tot (M.spec_l4Array_l1 w i Name Dims) (w.length ≤ 1000001 ∧ (∀ x ∈ w, x.l.length ≤ b) ∧ b ≤ 1000000 ∧ 1 ≤ i ∧ Name.l.length ≤ b ∧ (Dims.length : Int) ≤ i ∧ i ≤ 5) (fun φ => ∀ a d, a.l.length ≤ b → d.length ≤ 6 → φ (a, d)) := ⟨by
  rintro ⟨h0, h1, h2, v0, v1, v2, v3⟩ φ hk
  exact (l4Array_l1_aux w b h0 h1 h2 ((5 - i).toNat + 1) i Name Dims).ok ⟨by omega, by omega, v0, v1, v2, v3⟩ φ hk⟩
instance l4Array_tot (w : List Str) : Tot (M.spec_l4Array w) (w.length ≤ 1000001 ∧ (∀ x ∈ w, x.l.length ≤ 1000000)) (fun φ => ∀ r, SR r → φ r) := ⟨by
  rintro ⟨h0, h1⟩ φ hk
  unfold M.spec_l4Array
  have tl := l4Array_l1_tot w 1000000
  exact Ok.go⟩
instance l1Zero_tot : Tot M.spec_l1Zero True (fun φ => φ (impl_Affine.mk [0, 0, 0, 0] 0)) := ⟨fun _ _ h => Ok.pure h⟩
instance l4Some_tot : Tot M.spec_l4Some True (fun φ => ∀ r, SRs 1000 r → φ r) := ⟨fun _ φ h => Ok.pure (h _ ⟨by decide, by simp [SR]⟩)⟩
instance l1Const_tot (n : Int) : Tot (M.spec_l1Const n) True (fun φ => φ (impl_Affine.mk [0, 0, 0, 0] n)) := ⟨fun _ _ h => by unfold M.spec_l1Const; exact Ok.call l1Zero_tot trivial (Ok.pure h)⟩
theorem l1Digits_l1_aux (s : Str) (a : Int) (h0 : s.l.length ≤ 1000000) (h1 : 0 ≤ a) (h2 : a ≤ (s.l.length : Int)) : ∀ (k : Nat) (e : Int), Tot (M.spec_l1Digits_l1 s a e) ((s.l.length : Int) - e < (k : Int) ∧ 0 < (k : Int) ∧ a ≤ e ∧ e ≤ a + 2 ∧ e ≤ (s.l.length : Int)) (fun φ => ∀ r, a ≤ r → r ≤ a + 2 → r ≤ (s.l.length : Int) → φ r) := by
  intro k
  induction k with
  | zero => intro e; exact ⟨fun h => absurd h.2.1 (by omega)⟩
  | succ k ih =>
    intro e; refine ⟨?_⟩; rintro ⟨v0, v1, v2, v3, v4⟩ φ hk; unfold M.spec_l1Digits_l1
    exact Ok.go
instance l1Digits_l1_tot (s : Str) (a : Int) (e : Int) : Tot (M.spec_l1Digits_l1 s a e) (s.l.length ≤ 1000000 ∧ 0 ≤ a ∧ a ≤ (s.l.length : Int) ∧ a ≤ e ∧ e ≤ a + 2 ∧ e ≤ (s.l.length : Int)) (fun φ => ∀ r, a ≤ r → r ≤ a + 2 → r ≤ (s.l.length : Int) → φ r) := ⟨by
  rintro ⟨h0, h1, h2, v0, v1, v2⟩ φ hk
  exact (l1Digits_l1_aux s a h0 h1 h2 (((s.l.length : Int) - e).toNat + 1) e).ok ⟨by omega, by omega, v0, v1, v2⟩ φ hk⟩
instance l1Digits_tot (s : Str) (a : Int) : Tot (M.spec_l1Digits s a) (s.l.length ≤ 1000000 ∧ 0 ≤ a ∧ a ≤ (s.l.length : Int)) (fun φ => ∀ n e, I64 n → a ≤ e → e ≤ (s.l.length : Int) → φ (n, e)) := ⟨by
  rintro ⟨h0, h1, h2⟩ φ hk
  unfold M.spec_l1Digits
  exact Ok.go⟩
instance l1Name_tot (s : Str) (a : Int) : Tot (M.spec_l1Name s a) (s.l.length ≤ 1000000 ∧ 0 ≤ a) (fun φ => ∀ r, -1 ≤ r → r ≤ 3 → (0 ≤ r → a < (s.l.length : Int)) → φ r) := ⟨by
  rintro ⟨h0, h1⟩ φ hk
  unfold M.spec_l1Name
  exact Ok.go⟩
theorem VA.set {l : List Int} {c : Int} (h : l.length = 4) (hl : ∀ x ∈ l, I64 x) (hc : I64 c) (i : Nat) (x : Int) : VA (impl_Affine.mk (([] ++ l).set i (W x)) c) := by
  refine ⟨by simp [h], ?_, hc⟩
  intro y hy
  rcases List.mem_or_eq_of_mem_set hy with hy | hy
  · exact hl y hy
  · exact hy ▸ W_rng x
theorem VA.con {l : List Int} (h : l.length = 4) (hl : ∀ x ∈ l, I64 x) (x : Int) : VA (impl_Affine.mk ([] ++ l) (W x)) := ⟨h, hl, W_rng x⟩
instance l1Parse_tot (a : impl_Affine) (s : Str) (n : Int) : Tot (M.spec_l1Parse a s n) (VA a ∧ s.l.length ≤ 1000000 ∧ 0 ≤ n ∧ n < (s.l.length : Int)) (fun φ => ∀ r e, VA r → (e = -1 ∨ n < e) → e ≤ (s.l.length : Int) → φ (r, e)) := ⟨by
  rintro ⟨h0, h1, h2, h3⟩ φ hk
  have hv := h0; obtain ⟨h00, h01, h02⟩ := h0; have t1 := VA.set h00 h01 h02; have t2 := VA.con h00 h01
  unfold M.spec_l1Parse
  refine Ok.sidx h2 h3 fun b2 _ _ => ?_
  refine Ok.bind (φ := fun _ => True) Ok.go fun sign _ => ?_
  refine Ok.bind (φ := fun _ => True) Ok.go fun t27 _ => ?_
  refine Ok.bind (φ := fun m => n ≤ m ∧ m ≤ n + 1) Ok.go fun m hm => ?_
  refine Ok.call (l1Digits_tot s m) ⟨h1, by omega, by omega⟩ fun y1 y2 g1 g2 g3 => ?_
  refine Ok.bind (φ := fun b => b = true → y2 < (s.l.length : Int)) Ok.go fun t51 h51 => ?_
  refine Ok.bind (φ := fun x => y2 ≤ x ∧ x ≤ (s.l.length : Int)) ?_ fun star hs => ?_
  · refine Ok.ite (fun h => ?_) fun h => Ok.go
    have h51 := h51 h
    exact Ok.go
  refine Ok.call (l1Name_tot s star) ⟨h1, by omega⟩ fun y3 g4 g5 g6 => ?_
  refine Ok.app S ?_
  refine Ok.bind (φ := fun b => b = true → 0 ≤ y3) Ok.go fun t75 h75 => ?_
  refine Ok.ite (fun h => ?_) fun h => ?_
  · have h75 := h75 h
    have g6 := g6 h75
    have h4 : (([] : List Int) ++ a.Coefs).length = 4 := h00
    refine Ok.idx h75 (by omega) fun x _ hx => Ok.idx_known hx h75 (Ok.bind_pure (Ok.pure ?_))
    rw [W_id (x := star + 1) (by omega) (by omega)]
    exact hk _ _ (t1 _ _) (.inr (by omega)) (by omega)
  · refine Ok.ite_beq (fun h => Ok.pure (hk _ _ hv (.inl rfl) (by omega))) fun h => Ok.pure (hk _ _ (t2 _) (.inr (by omega)) g3)⟩
end Go.LN
