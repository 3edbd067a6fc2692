/- Models that are total: carried over. -/
import Derived.Test.YtmjfehjlgmdfhaaDoorQT
import Derived.Test.YtmjfehjlgmdfhaaDoorGA2
namespace Go.LN
set_option linter.unusedVariables false
set_option linter.unusedSimpArgs false
def I64 (x : Int) : Prop := -9223372036854775808 ≤ x ∧ x ≤ 9223372036854775807
instance (x : Int) : Decidable (I64 x) := inferInstanceAs (Decidable (_ ∧ _))
theorem W_rng (x : Int) : I64 (W x) := by
  show -9223372036854775808 ≤ IntKind.i64.wrap x ∧ IntKind.i64.wrap x ≤ 9223372036854775807
  rw [IntKind.wrap_i64]; omega
instance (x : Int) : Sd (I64 (W x)) := ⟨W_rng x⟩
def SA (a : impl_Affine) : Prop := a.Coefs.length ≤ 100 ∧ I64 a.Const
def VA (a : impl_Affine) : Prop := a.Coefs.length = 4 ∧ (∀ c ∈ a.Coefs, I64 c) ∧ I64 a.Const
def LL (l : List impl_Affine) : Prop := l.length ≤ 100 ∧ ∀ a ∈ l, SA a
instance (a : impl_Affine) : Su (SA a) (a.Coefs.length ≤ 100 ∧ I64 a.Const) := ⟨id⟩
instance (a : impl_Affine) : Su (VA a) (a.Coefs.length = 4 ∧ (∀ c ∈ a.Coefs, I64 c) ∧ I64 a.Const) := ⟨id⟩
instance (l : List impl_Affine) : Su (LL l) (l.length ≤ 100 ∧ ∀ a ∈ l, SA a) := ⟨id⟩
instance (x : Int) : Su (I64 x) (-9223372036854775808 ≤ x ∧ x ≤ 9223372036854775807) := ⟨id⟩
theorem SA.nil {c : Int} (h : I64 c) : SA (impl_Affine.mk [] c) := ⟨by simp, h⟩
theorem SA.nil0 : SA (impl_Affine.mk [] 0) := ⟨by simp, by simp [I64]⟩
instance : Sd (SA (impl_Affine.mk [] 0)) := ⟨SA.nil0⟩
instance l1Within_tot (n : Int) (most : Int) : Tot (M.spec_l1Within n most) (0 ≤ most ∧ most ≤ 1000000) (fun φ => ∀ r, (r = true → I64 n) → φ r) := ⟨by
  rintro ⟨h0, h1⟩ φ hk
  unfold M.spec_l1Within
  exact Ok.go⟩
theorem AffineValid_l1_aux (a : impl_Affine) (h0 : SA a) : ∀ (k : Nat) (i : Int), Tot (M.spec_AffineValid_l1 a i) ((a.Coefs.length : Int) - i < (k : Int) ∧ 0 < (k : Int) ∧ 0 ≤ i) (fun φ => (AF a.Coefs i I64 → φ (.done ())) ∧ (φ (.ret false))) := by
  have h01 := h0.1
  intro k
  induction k with
  | zero => intro i; exact ⟨fun h => absurd h.2.1 (by omega)⟩
  | succ k ih =>
    intro i; refine ⟨?_⟩; rintro ⟨v0, v1, v2⟩ φ ⟨hd, hr⟩; unfold M.spec_AffineValid_l1
    exact Ok.go
instance AffineValid_l1_tot (a : impl_Affine) (i : Int) : Tot (M.spec_AffineValid_l1 a i) (SA a ∧ 0 ≤ i) (fun φ => (AF a.Coefs i I64 → φ (.done ())) ∧ (φ (.ret false))) := ⟨by
  rintro ⟨h0, v0⟩ φ hk
  exact (AffineValid_l1_aux a h0 (((a.Coefs.length : Int) - i).toNat + 1) i).ok ⟨by omega, by omega, v0⟩ φ hk⟩
instance AffineValid_tot (a : impl_Affine) : Tot (M.spec_AffineValid a) (SA a) (fun φ => ∀ r, (r = true → VA a) → φ r) := ⟨by
  rintro h0 φ hk
  have h00 := h0.2
  unfold M.spec_AffineValid
  exact Ok.go⟩
theorem tmod_rng {a n : Int} (ha : 0 ≤ a) (hn : 0 < n) : 0 ≤ a.tmod n ∧ a.tmod n < n := by
  rw [Int.tmod_eq_emod_of_nonneg ha]
  exact ⟨Int.emod_nonneg _ (by omega), Int.emod_lt_of_pos _ hn⟩
theorem xor_rng {a b : Int} (ha : 0 ≤ a) (ha' : a < 4611686018427387904) (hb : 0 ≤ b) (hb' : b < 4611686018427387904) :
    0 ≤ W (((BitVec.ofInt IntKind.i64.bits a ^^^ BitVec.ofInt IntKind.i64.bits b).toNat : Nat) : Int) := by
  have e : (BitVec.ofInt IntKind.i64.bits a ^^^ BitVec.ofInt IntKind.i64.bits b).toNat < 4611686018427387904 := by
    rw [BitVec.toNat_xor]
    have h1 : (BitVec.ofInt IntKind.i64.bits a).toNat = a.toNat := by
      rw [BitVec.toNat_ofInt]; show (a % ((2 ^ 64 : Nat) : Int)).toNat = _; omega
    have h2 : (BitVec.ofInt IntKind.i64.bits b).toNat = b.toNat := by
      rw [BitVec.toNat_ofInt]; show (b % ((2 ^ 64 : Nat) : Int)).toNat = _; omega
    rw [h1, h2]
    exact Nat.xor_lt_two_pow (n := 62) (by omega) (by omega)
  rw [W_id (by omega) (by omega)]; omega
instance pick_tot (r : spec_l16Rd) (n : Int) : Tot (M.spec_l16Rd_pick r n) (0 ≤ r.p ∧ r.p ≤ 1000000000) (fun φ => ∀ y s, 0 ≤ y → (y < n ∨ y = 0) → s.p = r.p + 1 → φ (y, s)) := ⟨by
  rintro ⟨h0, h1⟩ φ hk
  unfold M.spec_l16Rd_pick
  rw [W_id (x := r.p + 1) (by omega) (by omega), W_id (x := r.p + 1 - 1) (by omega) (by omega)]
  refine Ok.bind_ite (Ok.ite_dec (fun _ => Ok.bind_pure (Ok.ite_tt (Ok.pure (hk _ _ S S rfl)))) fun hn => Ok.bind_pure (Ok.ite_beq (fun _ => Ok.pure (hk _ _ S S rfl)) fun hb => ?_))
  refine Ok.ite_dec (fun hp => Ok.idx (by omega) (by omega) fun x _ _ => ?_) fun hp => ?_
  · refine Ok.rem (by omega) (Ok.pure ?_)
    have hx := x.toNat_lt
    have := tmod_rng (a := (x.toNat : Int)) (n := n) (by omega) (by omega)
    rw [W_id (by omega) (by omega)]
    exact hk _ _ this.1 (.inl this.2) rfl
  · refine Ok.rem (by omega) ?_
    have hp := tmod_rng (a := r.p + 1 - 1) (n := (r.b.length : Int)) (by omega) (by omega)
    refine Ok.idx hp.1 hp.2 fun x1 _ _ => ?_
    rw [W_id (x := (r.p + 1 - 1) * 7) (by omega) (by omega), W_id (x := (r.p + 1 - 1) * 7 + 3) (by omega) (by omega)]
    refine Ok.rem (by omega) ?_
    have hq := tmod_rng (a := (r.p + 1 - 1) * 7 + 3) (n := (r.b.length : Int)) (by omega) (by omega)
    refine Ok.idx hq.1 hq.2 fun x2 _ _ => ?_
    refine Ok.quo (by omega) ?_
    have hd : 0 ≤ (r.p + 1 - 1).tdiv (r.b.length : Int) ∧ (r.p + 1 - 1).tdiv (r.b.length : Int) ≤ 1000000000 := by
      rw [Int.tdiv_eq_ediv_of_nonneg (by omega)]
      exact ⟨Int.ediv_nonneg (by omega) (by omega), Int.le_trans (Int.ediv_le_self _ (by omega)) (by omega)⟩
    have e1 := x1.toNat_lt
    have e2 := x2.toNat_lt
    generalize (r.p + 1 - 1).tdiv (r.b.length : Int) = q3 at hd ⊢
    simp (disch := omega) only [W_id]
    refine Ok.rem (by omega) ?_
    generalize hX : (x1.toNat : Int) * 131 + (x2.toNat : Int) * 1117 + (r.p + 1 - 1) * 29 + q3 * 53 = X
    have hX0 : 0 ≤ X := by omega
    have hX1 : X < 4611686018427387904 := by omega
    have hT : 0 ≤ X.tdiv 64 ∧ X.tdiv 64 < 4611686018427387904 := by rw [Int.tdiv_eq_ediv_of_nonneg hX0]; omega
    rw [W_id (x := X.tdiv 64) (by omega) (by omega)]
    have hw := tmod_rng (xor_rng hX0 hX1 hT.1 hT.2) (n := n) (by omega)
    exact Ok.pure (hk _ _ hw.1 (.inl hw.2) rfl)⟩
instance l16Rd_of_tot (r : spec_l16Rd) (l : List Str) : Tot (M.spec_l16Rd_of r l) (0 < l.length ∧ 0 ≤ r.p ∧ r.p ≤ 1000000000) (fun φ => ∀ y s, y ∈ l → s.p = r.p + 1 → φ (y, s)) := ⟨by
  rintro ⟨h0, h1, h2⟩ φ hk
  unfold M.spec_l16Rd_of
  exact Ok.go⟩
instance l16Rd_num_tot (r : spec_l16Rd) (l : List Int) : Tot (M.spec_l16Rd_num r l) (0 < l.length ∧ 0 ≤ r.p ∧ r.p ≤ 1000000000 ∧ (∀ x ∈ l, I64 x)) (fun φ => ∀ y s, y ∈ l → I64 y → s.p = r.p + 1 → φ (y, s)) := ⟨by
  rintro ⟨h0, h1, h2, h3⟩ φ hk
  unfold M.spec_l16Rd_num
  exact Ok.go⟩
theorem l16Num_l1_aux (s : Str) (h0 : s.l.length ≤ 1000000) : ∀ (k : Nat) (n : Int) (i : Int), Tot (M.spec_l16Num_l1 s n i) ((s.l.length : Int) - i < (k : Int) ∧ 0 < (k : Int) ∧ I64 n ∧ 0 ≤ i) (fun φ => (∀ n, I64 n → φ (.done n)) ∧ (φ (.ret (0, false)))) := by
  intro k
  induction k with
  | zero => intro n i; exact ⟨fun h => absurd h.2.1 (by omega)⟩
  | succ k ih =>
    intro n i; refine ⟨?_⟩; rintro ⟨v0, v1, v2, v3⟩ φ ⟨hd, hr⟩; unfold M.spec_l16Num_l1
    exact Ok.go
instance l16Num_l1_tot (s : Str) (n : Int) (i : Int) : Tot (M.spec_l16Num_l1 s n i) (s.l.length ≤ 1000000 ∧ I64 n ∧ 0 ≤ i) (fun φ => (∀ n, I64 n → φ (.done n)) ∧ (φ (.ret (0, false)))) := ⟨by
  rintro ⟨h0, v0, v1⟩ φ hk
  exact (l16Num_l1_aux s h0 (((s.l.length : Int) - i).toNat + 1) n i).ok ⟨by omega, by omega, v0, v1⟩ φ hk⟩
instance l16Num_tot (s : Str) : Tot (M.spec_l16Num s) (s.l.length ≤ 1000000) (fun φ => ∀ n b, I64 n → φ (n, b)) := ⟨by
  rintro h0 φ hk
  unfold M.spec_l16Num
  exact Ok.go⟩
instance l1Zero_tot : Tot M.spec_l1Zero True (fun φ => φ (impl_Affine.mk [0, 0, 0, 0] 0)) := ⟨fun _ _ h => Ok.pure h⟩
instance l1Const_tot (n : Int) : Tot (M.spec_l1Const n) True (fun φ => φ (impl_Affine.mk [0, 0, 0, 0] n)) := ⟨fun _ _ h => by unfold M.spec_l1Const; exact Ok.call l1Zero_tot trivial (Ok.pure h)⟩
theorem l1Digits_l1_aux (s : Str) (a : Int) (h0 : s.l.length ≤ 1000000) (h1 : 0 ≤ a) (h2 : a ≤ (s.l.length : Int)) : ∀ (k : Nat) (e : Int), Tot (M.spec_l1Digits_l1 s a e) ((s.l.length : Int) - e < (k : Int) ∧ 0 < (k : Int) ∧ a ≤ e ∧ e ≤ a + 2 ∧ e ≤ (s.l.length : Int)) (fun φ => ∀ r, a ≤ r → r ≤ a + 2 → r ≤ (s.l.length : Int) → φ r) := by
  intro k
  induction k with
  | zero => intro e; exact ⟨fun h => absurd h.2.1 (by omega)⟩
  | succ k ih =>
    intro e; refine ⟨?_⟩; rintro ⟨v0, v1, v2, v3, v4⟩ φ hk; unfold M.spec_l1Digits_l1
    exact Ok.go
instance l1Digits_l1_tot (s : Str) (a : Int) (e : Int) : Tot (M.spec_l1Digits_l1 s a e) (s.l.length ≤ 1000000 ∧ 0 ≤ a ∧ a ≤ (s.l.length : Int) ∧ a ≤ e ∧ e ≤ a + 2 ∧ e ≤ (s.l.length : Int)) (fun φ => ∀ r, a ≤ r → r ≤ a + 2 → r ≤ (s.l.length : Int) → φ r) := ⟨by
  rintro ⟨h0, h1, h2, v0, v1, v2⟩ φ hk
  exact (l1Digits_l1_aux s a h0 h1 h2 (((s.l.length : Int) - e).toNat + 1) e).ok ⟨by omega, by omega, v0, v1, v2⟩ φ hk⟩
instance l1Digits_tot (s : Str) (a : Int) : Tot (M.spec_l1Digits s a) (s.l.length ≤ 1000000 ∧ 0 ≤ a ∧ a ≤ (s.l.length : Int)) (fun φ => ∀ n e, I64 n → a ≤ e → e ≤ (s.l.length : Int) → φ (n, e)) := ⟨by
  rintro ⟨h0, h1, h2⟩ φ hk
  unfold M.spec_l1Digits
  exact Ok.go⟩
instance l1Name_tot (s : Str) (a : Int) : Tot (M.spec_l1Name s a) (s.l.length ≤ 1000000 ∧ 0 ≤ a) (fun φ => ∀ r, -1 ≤ r → r ≤ 3 → (0 ≤ r → a < (s.l.length : Int)) → φ r) := ⟨by
  rintro ⟨h0, h1⟩ φ hk
  unfold M.spec_l1Name
  exact Ok.go⟩
theorem VA.set {l : List Int} {c : Int} (h : l.length = 4) (hl : ∀ x ∈ l, I64 x) (hc : I64 c) (i : Nat) (x : Int) : VA (impl_Affine.mk (([] ++ l).set i (W x)) c) := by
  refine ⟨by simp [h], ?_, hc⟩
  intro y hy
  rcases List.mem_or_eq_of_mem_set hy with hy | hy
  · exact hl y hy
  · exact hy ▸ W_rng x
theorem VA.con {l : List Int} (h : l.length = 4) (hl : ∀ x ∈ l, I64 x) (x : Int) : VA (impl_Affine.mk ([] ++ l) (W x)) := ⟨h, hl, W_rng x⟩
instance l1Parse_tot (a : impl_Affine) (s : Str) (n : Int) : Tot (M.spec_l1Parse a s n) (VA a ∧ s.l.length ≤ 1000000 ∧ 0 ≤ n ∧ n < (s.l.length : Int)) (fun φ => ∀ r e, VA r → (e = -1 ∨ n < e) → e ≤ (s.l.length : Int) → φ (r, e)) := ⟨by
  rintro ⟨h0, h1, h2, h3⟩ φ hk
  have hv := h0; obtain ⟨h00, h01, h02⟩ := h0; have t1 := VA.set h00 h01 h02; have t2 := VA.con h00 h01
  unfold M.spec_l1Parse
  refine Ok.sidx h2 h3 fun b2 _ _ => ?_
  refine Ok.bind (φ := fun _ => True) Ok.go fun sign _ => ?_
  refine Ok.bind (φ := fun _ => True) Ok.go fun t27 _ => ?_
  refine Ok.bind (φ := fun m => n ≤ m ∧ m ≤ n + 1) Ok.go fun m hm => ?_
  refine Ok.call (l1Digits_tot s m) ⟨h1, by omega, by omega⟩ fun y1 y2 g1 g2 g3 => ?_
  refine Ok.bind (φ := fun b => b = true → y2 < (s.l.length : Int)) Ok.go fun t51 h51 => ?_
  refine Ok.bind (φ := fun x => y2 ≤ x ∧ x ≤ (s.l.length : Int)) ?_ fun star hs => ?_
  · refine Ok.ite (fun h => ?_) fun h => Ok.go
    have h51 := h51 h
    exact Ok.go
  refine Ok.call (l1Name_tot s star) ⟨h1, by omega⟩ fun y3 g4 g5 g6 => ?_
  refine Ok.app S ?_
  refine Ok.bind (φ := fun b => b = true → 0 ≤ y3) Ok.go fun t75 h75 => ?_
  refine Ok.ite (fun h => ?_) fun h => ?_
  · have h75 := h75 h
    have g6 := g6 h75
    have h4 : (([] : List Int) ++ a.Coefs).length = 4 := h00
    refine Ok.idx h75 (by omega) fun x _ hx => Ok.idx_known hx h75 (Ok.bind_pure (Ok.pure ?_))
    rw [W_id (x := star + 1) (by omega) (by omega)]
    exact hk _ _ (t1 _ _) (.inr (by omega)) (by omega)
  · refine Ok.ite_beq (fun h => Ok.pure (hk _ _ hv (.inl rfl) (by omega))) fun h => Ok.pure (hk _ _ (t2 _) (.inr (by omega)) g3)⟩
theorem l16Dec_l1_aux : ∀ (k : Nat) (n : Int) (o : Str), Tot (M.spec_l16Dec_l1 n o) ((0 ≤ n ∧ n ≤ 9223372036854775807 ∧ n < (2 : Int) ^ k) ∧ o.l.length + k ≤ 1000) (fun φ => ∀ a r, 0 ≤ a → a ≤ 9 → r.l.length ≤ o.l.length + k → φ (a, r)) := by
  intro k
  induction k with
  | zero => intro n o; refine ⟨?_⟩; rintro ⟨⟨a1, a4, a2⟩, a3⟩ φ hk; unfold M.spec_l16Dec_l1; rw [Int.pow_zero] at a2; exact Ok.go
  | succ k ih =>
    intro n o; refine ⟨?_⟩; rintro ⟨⟨a1, a4, a2⟩, a3⟩ φ hk; unfold M.spec_l16Dec_l1
    refine Ok.ite_dec (fun h => ?_) fun h => Ok.go
    refine Ok.cat (by simp; omega) fun s hs hl => ?_
    have ht : 0 ≤ n.tdiv 10 ∧ n.tdiv 10 < (2 : Int) ^ k ∧ n.tdiv 10 ≤ n := by
      rw [Int.tdiv_eq_ediv_of_nonneg a1]
      rw [Int.pow_succ] at a2
      omega
    rw [W_id (by omega) (by omega)]
    simp only [List.length_cons, List.length_nil] at hl
    refine Ok.last (ih _ _) ⟨⟨ht.1, by omega, ht.2.1⟩, by omega⟩ fun a r g1 g2 g3 => hk a r g1 g2 (by omega)
theorem l16Dec_pos (n : Int) : Tot (M.spec_l16Dec n) (0 ≤ n ∧ n ≤ 9223372036854775807) (fun φ => ∀ r, r.l.length ≤ 64 → 1 ≤ r.l.length → φ r) := ⟨by
  rintro ⟨h0, h1⟩ φ hk
  unfold M.spec_l16Dec
  refine Ok.ite_dec (fun h => absurd h (by omega)) fun _ => Ok.ite_dec (fun h => absurd h (by omega)) fun _ => ?_
  refine Ok.call (l16Dec_l1_aux 63 n ⟨[]⟩) ⟨⟨h0, h1, by omega⟩, by decide⟩ fun a r g1 g2 g3 => ?_
  simp only [List.length_nil] at g3
  refine Ok.cat (by simp; omega) fun s hs hl => Ok.pure ?_
  simp only [List.length_cons, List.length_nil] at hl
  exact hk _ (by dsimp only [id]; omega) (by dsimp only [id]; omega)⟩
instance l16Dec_tot (n : Int) : Tot (M.spec_l16Dec n) (I64 n) (fun φ => ∀ r, r.l.length ≤ 70 → 1 ≤ r.l.length → φ r) := ⟨by
  rintro ⟨h0, h1⟩ φ hk
  by_cases hn : 0 ≤ n
  · exact (l16Dec_pos n).ok ⟨hn, h1⟩ φ fun r g1 g2 => hk r (by omega) g2
  unfold M.spec_l16Dec
  refine Ok.ite_dec (fun h => Ok.pure (hk _ (by decide) (by decide))) fun _ => Ok.ite_dec (fun h => ?_) fun h => absurd h (by omega)
  rw [W_id (by omega) (by omega)]
  refine Ok.call (l16Dec_pos _) ⟨by omega, by omega⟩ fun r g1 g2 => ?_
  refine Ok.cat (by simp; omega) fun s hs hl => Ok.pure ?_
  simp only [List.length_cons, List.length_nil] at hl
  exact hk _ (by dsimp only [id]; omega) (by dsimp only [id]; omega)⟩
instance l1Term_tot (n : Int) (name : Str) : Tot (M.spec_l1Term n name) (I64 n ∧ name.l.length ≤ 10) (fun φ => ∀ r, r.l.length ≤ 100 → 1 ≤ r.l.length → φ r) := ⟨by
  rintro ⟨h0, h1⟩ φ hk
  have hw := W_rng (0 - n)
  unfold M.spec_l1Term
  refine Ok.bind (φ := fun o => I64 o.1 ∧ o.2.l.length = 1) ?_ ?_
  · refine Ok.ite_dec (fun _ => Ok.pure ⟨hw, rfl⟩) fun _ => Ok.pure ⟨h0, rfl⟩
  rintro ⟨m, sg⟩ ⟨g1, g2⟩
  dsimp only at g1 g2 ⊢
  exact Ok.go⟩
theorem l1Text_l1_aux (a : impl_Affine) (h0 : VA a) : ∀ (k : Nat) (o : Str) (i : Int), Tot (M.spec_l1Text_l1 a o i) ((a.Coefs.length : Int) - i < (k : Int) ∧ 0 < (k : Int) ∧ 0 ≤ i ∧ i ≤ 4 ∧ (o.l.length : Int) ≤ 100 * i) (fun φ => ∀ r, r.l.length ≤ 400 → φ r) := by
  obtain ⟨h01, h02, h03⟩ := h0
  intro k
  induction k with
  | zero => intro o i; exact ⟨fun h => absurd h.2.1 (by omega)⟩
  | succ k ih =>
    intro o i; refine ⟨?_⟩; rintro ⟨v0, v1, v2, v3, v4⟩ φ hk; unfold M.spec_l1Text_l1
    exact Ok.go
instance l1Text_l1_tot (a : impl_Affine) (o : Str) (i : Int) : Tot (M.spec_l1Text_l1 a o i) (VA a ∧ 0 ≤ i ∧ i ≤ 4 ∧ (o.l.length : Int) ≤ 100 * i) (fun φ => ∀ r, r.l.length ≤ 400 → φ r) := ⟨by
  rintro ⟨h0, v0, v1, v2⟩ φ hk
  exact (l1Text_l1_aux a h0 (((a.Coefs.length : Int) - i).toNat + 1) o i).ok ⟨by omega, by omega, v0, v1, v2⟩ φ hk⟩
instance l1Text_tot (a : impl_Affine) : Tot (M.spec_l1Text a) (VA a) (fun φ => ∀ r, r.l.length ≤ 1000 → φ r) := ⟨by
  rintro h0 φ hk
  have h00 := h0; obtain ⟨h01, h02, h03⟩ := h0
  unfold M.spec_l1Text
  refine Ok.call (l1Text_l1_tot a _ _) ⟨h00, by simp⟩ fun o ho => ?_
  refine Ok.bind (φ := fun r => r.l.length ≤ 1000) Ok.go fun r hr => ?_
  refine Ok.ite_beq (fun _ => Ok.pure (hk _ (by decide))) fun hne => ?_
  have hp : 0 < r.l.length := List.length_pos_iff.2 hne
  exact Ok.go⟩
instance FormatAffine_tot (a : impl_Affine) : Tot (M.spec_FormatAffine a) (SA a) (fun φ => ∀ r, r.l.length ≤ 1000 → φ r) := ⟨by
  rintro h0 φ hk
  unfold M.spec_FormatAffine
  refine Ok.call (AffineValid_tot a) h0 fun b hb => ?_
  refine Ok.ite_not (fun _ => Ok.go) fun hv => ?_
  have hv := hb hv
  exact Ok.go⟩
theorem ParseAffine_l1_aux (s : Str) (h0 : s.l.length ≤ 1000000) : ∀ (k : Nat) (i : Int) (x : impl_Affine), Tot (M.spec_ParseAffine_l1 s i x) (((i < 0 ∨ (s.l.length : Int) - i + 1 < (k : Int)) ∧ 0 < (k : Int) ∧ i ≤ (s.l.length : Int)) ∧ VA x) (fun φ => ∀ r, VA r → φ r) := by
  intro k
  induction k with
  | zero => intro i x; exact ⟨fun h => absurd h.1.2.1 (by omega)⟩
  | succ k ih =>
    intro i x; refine ⟨?_⟩; rintro ⟨⟨v0, v1, v2⟩, v3⟩ φ hk; unfold M.spec_ParseAffine_l1
    refine Ok.bind_ite (Ok.ite_dec (fun h1 => Ok.bind_pure ?_) fun _ => Ok.bind_pure (Ok.ite_ff Ok.go))
    refine Ok.ite_dec (fun h2 => Ok.call (l1Parse_tot x s i) ⟨v3, h0, h1, h2⟩ fun r e g1 g2 g3 => ?_) fun h2 => Ok.go
    refine Ok.last (ih e r) ⟨⟨by omega, by omega, g3⟩, g1⟩ hk
instance ParseAffine_tot (s : Str) : Tot (M.spec_ParseAffine s) (s.l.length ≤ 1000000) (fun φ => ∀ a b, SA a → φ (a, b)) := ⟨by
  rintro h0 φ hk
  unfold M.spec_ParseAffine
  refine Ok.call l1Zero_tot trivial (Ok.ite_dec (fun _ => Ok.pure (hk _ _ SA.nil0)) fun _ => ?_)
  refine Ok.call (ParseAffine_l1_aux s h0 (s.l.length + 2) 0 _) ⟨⟨by omega, by omega, by omega⟩, rfl, by simp [I64], by simp [I64]⟩ fun x hx => ?_
  have hs : SA x := ⟨by rw [hx.1]; decide, hx.2.2⟩
  exact Ok.go⟩
def TN : Nat → Nat
  | 0 => 200100
  | n + 1 => 2 * TN n + 10
theorem TN.ge : ∀ n, 200100 ≤ TN n
  | 0 => Nat.le_refl _
  | n + 1 => by have := TN.ge n; simp only [TN]; omega
theorem TN.mono (n : Nat) : TN n ≤ TN (n + 1) := by have := TN.ge n; simp only [TN]; omega
theorem all_set {α : Type} {P : α → Prop} {l : List α} {x : α} (h : ∀ y ∈ l, P y) (hx : P x) (k : Nat) : ∀ y ∈ l.set k x, P y := by
  intro y hy
  rcases List.mem_or_eq_of_mem_set hy with hy | hy
  · exact h y hy
  · exact hy ▸ hx
theorem LL.one {a : impl_Affine} (h : SA a) : LL [a] := ⟨Nat.le_of_ble_eq_true rfl, fun _ h' => List.mem_singleton.1 h' ▸ h⟩
theorem SA.c4 {y : Int} (h : I64 y) : SA (impl_Affine.mk [0, 0, 0, 0] y) := ⟨Nat.le_of_ble_eq_true rfl, h⟩
theorem l1Draw_l1_aux (depth : Int) (h0 : 0 ≤ depth) (h1 : depth ≤ 4) : ∀ (k : Nat) (i : Int) (o : List Int) (r : spec_l16Rd), Tot (M.spec_l1Draw_l1 depth i o r) (depth - i < (k : Int) ∧ 0 < (k : Int) ∧ 0 ≤ i ∧ i ≤ 4 ∧ o.length = 4 ∧ 0 ≤ r.p ∧ r.p ≤ 900000000 + i) (fun φ => ∀ a s, a.length = 4 → r.p ≤ s.p → s.p ≤ r.p + 4 - i → φ (a, s)) := by
  intro k
  induction k with
  | zero => intro i o r; exact ⟨fun h => absurd h.2.1 (by omega)⟩
  | succ k ih =>
    intro i o r; refine ⟨?_⟩; rintro ⟨v0, v1, v2, v3, v4, v5, v6⟩ φ hk; unfold M.spec_l1Draw_l1
    exact Ok.go
instance l1Draw_l1_tot (depth : Int) (i : Int) (o : List Int) (r : spec_l16Rd) : Tot (M.spec_l1Draw_l1 depth i o r) (0 ≤ depth ∧ depth ≤ 4 ∧ 0 ≤ i ∧ i ≤ 4 ∧ o.length = 4 ∧ 0 ≤ r.p ∧ r.p ≤ 900000000 + i) (fun φ => ∀ a s, a.length = 4 → r.p ≤ s.p → s.p ≤ r.p + 4 - i → φ (a, s)) := ⟨by
  rintro ⟨h0, h1, v0, v1, v2, v3, v4⟩ φ hk
  exact (l1Draw_l1_aux depth h0 h1 ((depth - i).toNat + 1) i o r).ok ⟨by omega, by omega, v0, v1, v2, v3, v4⟩ φ hk⟩
instance l1Draw_tot (r : spec_l16Rd) (depth : Int) : Tot (M.spec_l1Draw r depth) (0 ≤ r.p ∧ r.p ≤ 800000000 ∧ 0 ≤ depth ∧ depth ≤ 4) (fun φ => ∀ a s, SA a → a.Coefs.length = 4 → r.p ≤ s.p → s.p ≤ r.p + 10 → φ (a, s)) := ⟨by
  rintro ⟨h0, h1, h2, h3⟩ φ hk
  unfold M.spec_l1Draw
  exact Ok.go⟩
instance l16Open_tot (code : List UInt8) : Tot (M.spec_l16Open code) (True) (fun φ => ∀ s, s.p = 0 → φ s) := ⟨by
  rintro _ φ hk
  unfold M.spec_l16Open
  exact Ok.go⟩
end Go.LN
