/- Models that are total, sixth part. Printed by tg6.py. -/
import Derived.Test.YtbgdegfnaofkfaaQX2
namespace Go.LN
set_option linter.unusedVariables false
set_option linter.unusedSimpArgs false
theorem l16Dec_l1_aux : ∀ (k : Nat) (n : Int) (o : Str), Tot (M.spec_l16Dec_l1 n o) ((0 ≤ n ∧ n ≤ 9223372036854775807 ∧ n < (2 : Int) ^ k) ∧ o.l.length + k ≤ 1000) (fun φ => ∀ a r, 0 ≤ a → a ≤ 9 → r.l.length ≤ o.l.length + k → φ (a, r)) := by
  intro k
  induction k with
  | zero => intro n o; refine ⟨?_⟩; rintro ⟨⟨a1, a4, a2⟩, a3⟩ φ hk; unfold M.spec_l16Dec_l1; rw [Int.pow_zero] at a2; exact Ok.go
  | succ k ih =>
    intro n o; refine ⟨?_⟩; rintro ⟨⟨a1, a4, a2⟩, a3⟩ φ hk; unfold M.spec_l16Dec_l1
    refine Ok.ite_dec (fun h => ?_) fun h => Ok.go
    refine Ok.cat (by simp; omega) fun s hs hl => ?_
    have ht : 0 ≤ n.tdiv 10 ∧ n.tdiv 10 < (2 : Int) ^ k ∧ n.tdiv 10 ≤ n := by
      rw [Int.tdiv_eq_ediv_of_nonneg a1]
      rw [Int.pow_succ] at a2
      omega
    rw [W_id (by omega) (by omega)]
    simp only [List.length_cons, List.length_nil] at hl
    refine Ok.last (ih _ _) ⟨⟨ht.1, by omega, ht.2.1⟩, by omega⟩ fun a r g1 g2 g3 => hk a r g1 g2 (by omega)
theorem l16Dec_pos (n : Int) : Tot (M.spec_l16Dec n) (0 ≤ n ∧ n ≤ 9223372036854775807) (fun φ => ∀ r, r.l.length ≤ 64 → 1 ≤ r.l.length → φ r) := ⟨by
  rintro ⟨h0, h1⟩ φ hk
  unfold M.spec_l16Dec
  refine Ok.ite_dec (fun h => absurd h (by omega)) fun _ => Ok.ite_dec (fun h => absurd h (by omega)) fun _ => ?_
  refine Ok.call (l16Dec_l1_aux 63 n ⟨[]⟩) ⟨⟨h0, h1, by omega⟩, by decide⟩ fun a r g1 g2 g3 => ?_
  simp only [List.length_nil] at g3
  refine Ok.cat (by simp; omega) fun s hs hl => Ok.pure ?_
  simp only [List.length_cons, List.length_nil] at hl
  exact hk _ (by dsimp only [id]; omega) (by dsimp only [id]; omega)⟩
instance l16Dec_tot (n : Int) : Tot (M.spec_l16Dec n) (I64 n) (fun φ => ∀ r, r.l.length ≤ 70 → 1 ≤ r.l.length → φ r) := ⟨by
  rintro ⟨h0, h1⟩ φ hk
  by_cases hn : 0 ≤ n
  · exact (l16Dec_pos n).ok ⟨hn, h1⟩ φ fun r g1 g2 => hk r (by omega) g2
  unfold M.spec_l16Dec
  refine Ok.ite_dec (fun h => Ok.pure (hk _ (by decide) (by decide))) fun _ => Ok.ite_dec (fun h => ?_) fun h => absurd h (by omega)
  rw [W_id (by omega) (by omega)]
  refine Ok.call (l16Dec_pos _) ⟨by omega, by omega⟩ fun r g1 g2 => ?_
  refine Ok.cat (by simp; omega) fun s hs hl => Ok.pure ?_
  simp only [List.length_cons, List.length_nil] at hl
  exact hk _ (by dsimp only [id]; omega) (by dsimp only [id]; omega)⟩
instance l1Term_tot (n : Int) (name : Str) : Tot (M.spec_l1Term n name) (I64 n ∧ name.l.length ≤ 10) (fun φ => ∀ r, r.l.length ≤ 100 → 1 ≤ r.l.length → φ r) := ⟨by
  rintro ⟨h0, h1⟩ φ hk
  have hw := W_rng (0 - n)
  unfold M.spec_l1Term
  refine Ok.bind (φ := fun o => I64 o.1 ∧ o.2.l.length = 1) ?_ ?_
  · refine Ok.ite_dec (fun _ => Ok.pure ⟨hw, rfl⟩) fun _ => Ok.pure ⟨h0, rfl⟩
  rintro ⟨m, sg⟩ ⟨g1, g2⟩
  dsimp only at g1 g2 ⊢
  exact Ok.go⟩
theorem l1Text_l1_aux (a : impl_Affine) (h0 : VA a) : ∀ (k : Nat) (o : Str) (i : Int), Tot (M.spec_l1Text_l1 a o i) ((a.Coefs.length : Int) - i < (k : Int) ∧ 0 < (k : Int) ∧ 0 ≤ i ∧ i ≤ 4 ∧ (o.l.length : Int) ≤ 100 * i) (fun φ => ∀ r, r.l.length ≤ 400 → φ r) := by
  obtain ⟨h01, h02, h03⟩ := h0
  intro k
  induction k with
  | zero => intro o i; exact ⟨fun h => absurd h.2.1 (by omega)⟩
  | succ k ih =>
    intro o i; refine ⟨?_⟩; rintro ⟨v0, v1, v2, v3, v4⟩ φ hk; unfold M.spec_l1Text_l1
    exact Ok.go
instance l1Text_l1_tot (a : impl_Affine) (o : Str) (i : Int) : Tot (M.spec_l1Text_l1 a o i) (VA a ∧ 0 ≤ i ∧ i ≤ 4 ∧ (o.l.length : Int) ≤ 100 * i) (fun φ => ∀ r, r.l.length ≤ 400 → φ r) := ⟨by
  rintro ⟨h0, v0, v1, v2⟩ φ hk
  exact (l1Text_l1_aux a h0 (((a.Coefs.length : Int) - i).toNat + 1) o i).ok ⟨by omega, by omega, v0, v1, v2⟩ φ hk⟩
instance l1Text_tot (a : impl_Affine) : Tot (M.spec_l1Text a) (VA a) (fun φ => ∀ r, r.l.length ≤ 1000 → φ r) := ⟨by
  rintro h0 φ hk
  have h00 := h0; obtain ⟨h01, h02, h03⟩ := h0
  unfold M.spec_l1Text
  refine Ok.call (l1Text_l1_tot a _ _) ⟨h00, by simp⟩ fun o ho => ?_
  refine Ok.bind (φ := fun r => r.l.length ≤ 1000) Ok.go fun r hr => ?_
  refine Ok.ite_beq (fun _ => Ok.pure (hk _ (by decide))) fun hne => ?_
  have hp : 0 < r.l.length := List.length_pos_iff.2 hne
  exact Ok.go⟩
instance FormatAffine_tot (a : impl_Affine) : Tot (M.spec_FormatAffine a) (SA a) (fun φ => ∀ r, r.l.length ≤ 1000 → φ r) := ⟨by
  rintro h0 φ hk
  unfold M.spec_FormatAffine
  refine Ok.call (AffineValid_tot a) h0 fun b hb => ?_
  refine Ok.ite_not (fun _ => Ok.go) fun hv => ?_
  have hv := hb hv
  exact Ok.go⟩
theorem ParseAffine_l1_aux (s : Str) (h0 : s.l.length ≤ 1000000) : ∀ (k : Nat) (i : Int) (x : impl_Affine), Tot (M.spec_ParseAffine_l1 s i x) (((i < 0 ∨ (s.l.length : Int) - i + 1 < (k : Int)) ∧ 0 < (k : Int) ∧ i ≤ (s.l.length : Int)) ∧ VA x) (fun φ => ∀ r, VA r → φ r) := by
  intro k
  induction k with
  | zero => intro i x; exact ⟨fun h => absurd h.1.2.1 (by omega)⟩
  | succ k ih =>
    intro i x; refine ⟨?_⟩; rintro ⟨⟨v0, v1, v2⟩, v3⟩ φ hk; unfold M.spec_ParseAffine_l1
    refine Ok.bind_ite (Ok.ite_dec (fun h1 => Ok.bind_pure ?_) fun _ => Ok.bind_pure (Ok.ite_ff Ok.go))
    refine Ok.ite_dec (fun h2 => Ok.call (l1Parse_tot x s i) ⟨v3, h0, h1, h2⟩ fun r e g1 g2 g3 => ?_) fun h2 => Ok.go
    refine Ok.last (ih e r) ⟨⟨by omega, by omega, g3⟩, g1⟩ hk
instance ParseAffine_tot (s : Str) : Tot (M.spec_ParseAffine s) (s.l.length ≤ 1000000) (fun φ => ∀ a b, SA a → φ (a, b)) := ⟨by
  rintro h0 φ hk
  unfold M.spec_ParseAffine
  refine Ok.call l1Zero_tot trivial (Ok.ite_dec (fun _ => Ok.pure (hk _ _ SA.nil0)) fun _ => ?_)
  refine Ok.call (ParseAffine_l1_aux s h0 (s.l.length + 2) 0 _) ⟨⟨by omega, by omega, by omega⟩, rfl, by simp [I64], by simp [I64]⟩ fun x hx => ?_
  have hs : SA x := ⟨by rw [hx.1]; decide, hx.2.2⟩
  exact Ok.go⟩
theorem l2SideParse_l1_aux (y : List Str) (h0 : y.length ≤ 1000001) (h1 : ∀ x ∈ y, x.l.length ≤ 1000000) : ∀ (k : Nat) (o : List impl_Affine) (i : Int), Tot (M.spec_l2SideParse_l1 y o i) (3 - i < (k : Int) ∧ 0 < (k : Int) ∧ 0 ≤ i ∧ (o.length : Int) ≤ i ∧ i ≤ 3 ∧ (∀ a ∈ o, SA a)) (fun φ => ∀ r, LL r → r.length ≤ 100 → (∀ a ∈ r, SA a) → φ r) := by
  intro k
  induction k with
  | zero => intro o i; exact ⟨fun h => absurd h.2.1 (by omega)⟩
  | succ k ih =>
    intro o i; refine ⟨?_⟩; rintro ⟨v0, v1, v2, v3, v4, v5⟩ φ hk; unfold M.spec_l2SideParse_l1
    exact Ok.go
instance l2SideParse_l1_tot (y : List Str) (o : List impl_Affine) (i : Int) : Tot (M.spec_l2SideParse_l1 y o i) (y.length ≤ 1000001 ∧ (∀ x ∈ y, x.l.length ≤ 1000000) ∧ 0 ≤ i ∧ (o.length : Int) ≤ i ∧ i ≤ 3 ∧ (∀ a ∈ o, SA a)) (fun φ => ∀ r, LL r → r.length ≤ 100 → (∀ a ∈ r, SA a) → φ r) := ⟨by
  rintro ⟨h0, h1, v0, v1, v2, v3⟩ φ hk
  exact (l2SideParse_l1_aux y h0 h1 ((3 - i).toNat + 1) o i).ok ⟨by omega, by omega, v0, v1, v2, v3⟩ φ hk⟩
theorem up {y : List Str} {n : Nat} (h : ∀ x ∈ y, x.l.length ≤ n) (hn : n ≤ 1000000) : ∀ x ∈ y, x.l.length ≤ 1000000 := fun x hx => Nat.le_trans (h x hx) hn
instance l2SideParse_tot (s : Str) : Tot (M.spec_l2SideParse s) (s.l.length ≤ 1000000) (fun φ => ∀ r, LL r → r.length ≤ 100 → (∀ a ∈ r, SA a) → φ r) := ⟨by
  rintro h0 φ hk
  unfold M.spec_l2SideParse
  refine Ok.call (l16Cut_tot s _) h0 fun y g1 g2 => ?_
  have g3 := up g2 h0
  exact Ok.go⟩
instance l2Line_tot (s : Str) : Tot (M.spec_l2Line s) (s.l.length ≤ 1000000) (fun φ => ∀ r, SL1 r → φ r) := ⟨by
  rintro h0 φ hk
  unfold M.spec_l2Line
  refine Ok.call (l16Words_tot s) h0 fun y g1 g2 => ?_
  have g3 := up g2 h0
  exact Ok.go⟩
theorem l3Until_l1_aux (s : Str) (e : UInt8) (h0 : s.l.length ≤ 1000000) : ∀ (k : Nat) (i : Int), Tot (M.spec_l3Until_l1 s e i) ((s.l.length : Int) - i < (k : Int) ∧ 0 < (k : Int) ∧ 0 ≤ i) (fun φ => (φ (.done ())) ∧ (∀ r b, i ≤ r → r < (s.l.length : Int) → s.l[r.toNat]? = some b → (b.toNat : Int) = (e.toNat : Int) → φ (.ret r))) := by
  intro k
  induction k with
  | zero => intro i; exact ⟨fun h => absurd h.2.1 (by omega)⟩
  | succ k ih =>
    intro i; refine ⟨?_⟩; rintro ⟨v0, v1, v2⟩ φ ⟨hd, hr⟩; unfold M.spec_l3Until_l1
    refine Ok.ite_dec (fun h => Ok.sidx v2 h fun b _ hb => Ok.ite_beq (fun he => Ok.pure (hr i b (by omega) h hb he)) fun _ => ?_) fun _ => Ok.go
    rw [W_id (by omega) (by omega)]
    exact Ok.last (ih (i + 1)) ⟨by omega, by omega, by omega⟩ ⟨hd, fun r b g1 => hr r b (by omega)⟩
instance l3Until_l1_tot (s : Str) (e : UInt8) (i : Int) : Tot (M.spec_l3Until_l1 s e i) (s.l.length ≤ 1000000 ∧ 0 ≤ i) (fun φ => (φ (.done ())) ∧ (∀ r b, i ≤ r → r < (s.l.length : Int) → s.l[r.toNat]? = some b → (b.toNat : Int) = (e.toNat : Int) → φ (.ret r))) := ⟨by
  rintro ⟨h0, v0⟩ φ hk
  exact (l3Until_l1_aux s e h0 (((s.l.length : Int) - i).toNat + 1) i).ok ⟨by omega, by omega, v0⟩ φ hk⟩
instance l3Until_tot (s : Str) (i : Int) (e : UInt8) : Tot (M.spec_l3Until s i e) (s.l.length ≤ 1000000 ∧ 0 ≤ i) (fun φ => ∀ r, (r = -1 ∨ (i ≤ r ∧ r < (s.l.length : Int) ∧ ∃ b, s.l[r.toNat]? = some b ∧ (b.toNat : Int) = (e.toNat : Int))) → φ r) := ⟨by
  rintro ⟨h0, h1⟩ φ hk
  unfold M.spec_l3Until
  exact Ok.call (l3Until_l1_tot s e i) ⟨h0, h1⟩ ⟨Ok.pure (hk _ (.inl rfl)), fun r b g1 g2 g3 g4 => Ok.pure (hk _ (.inr ⟨g1, g2, b, g3, g4⟩))⟩⟩
instance l3ParseAccess_tot (s : Str) (i : Int) : Tot (M.spec_l3ParseAccess s i) (s.l.length ≤ 1000000 ∧ 0 ≤ i ∧ i ≤ 1000000) (fun φ => ∀ a n, SC a → (n = -1 ∨ i < n) → n ≤ (s.l.length : Int) → φ (a, n)) := ⟨by
  rintro ⟨h0, h1, h2⟩ φ hk
  unfold M.spec_l3ParseAccess
  exact Ok.go⟩
theorem SE.node {n : Nat} {k : Int} {a b : impl_Expr} (ha : SE n a) (hb : SE n b) : SE (n + 1) (impl_Expr.mk k 0 (impl_Affine.mk [] 0) (impl_Access.mk ⟨[]⟩ []) [a, b]) :=
  ⟨SA.nil0, SC.nil, Nat.le_of_ble_eq_true rfl, fun k hk => by
    rcases List.mem_cons.1 hk with hk | hk
    · exact hk ▸ ha
    · exact List.mem_singleton.1 hk ▸ hb⟩
theorem SE.lf {m : Nat} {k n : Int} {a : impl_Affine} {c : impl_Access} (h1 : SA a) (h2 : SC c) : SE m (impl_Expr.mk k n a c []) := SE.leaf (e := impl_Expr.mk k n a c []) h1 h2 rfl
def EX0 : impl_Expr := impl_Expr.mk 0 0 (impl_Affine.mk [] 0) (impl_Access.mk ⟨[]⟩ []) []
theorem EX0.se {n : Nat} : SE n EX0 := SE.leaf (e := EX0) SA.nil0 SC.nil rfl
theorem l3Parse_aux (s : Str) (h0 : s.l.length ≤ 1000000) : ∀ (n : Nat) (i lv : Int), Tot (M.spec_l3Parse s i lv) (lv ≤ n ∧ n ≤ 1000 ∧ I64 lv) (fun φ => ∀ e r, SE n e → (r = -1 ∨ (0 ≤ i ∧ i < r)) → r ≤ (s.l.length : Int) → φ (e, r)) := by
  intro n
  induction n with
  | zero =>
    intro i lv; refine ⟨?_⟩; rintro ⟨v0, v1, v2⟩ φ hk; unfold M.spec_l3Parse; dsimp only [same]
    refine Ok.bind_ite (Ok.ite_dec (fun h => Ok.bind_pure (Ok.ite_tt (Ok.pure (hk _ _ EX0.se (.inl rfl) (by omega))))) fun h => absurd h (by omega))
  | succ n ih =>
    have round : ∀ (i lv : Int), Tot (M.spec_l3Round s i lv) (lv ≤ n ∧ n ≤ 1000 ∧ 0 ≤ i ∧ I64 lv) (fun φ => ∀ e r, SE (n + 1) e → (r = -1 ∨ (i < r)) → r ≤ (s.l.length : Int) → φ (e, r)) := by
      intro i lv; refine ⟨?_⟩; rintro ⟨v0, v1, v2, v4⟩ φ hk; unfold M.spec_l3Round; dsimp only [same]
      have hbad : Ok (Pure.pure (EX0, (-1 : Int))) φ := Ok.pure (hk _ _ EX0.se (.inl rfl) (by omega))
      refine Ok.call (ih i lv) ⟨v0, v1, v4⟩ fun e1 r1 g1 g2 g3 => ?_
      refine Ok.bind (φ := fun b => b = false → 0 ≤ r1 ∧ r1 < (s.l.length : Int)) Ok.go fun b hb => Ok.ite (fun _ => hbad) fun hz => ?_
      obtain ⟨b1, b2⟩ := hb (by simpa using hz)
      refine Ok.sidx b1 b2 fun c _ hc => Ok.bind (φ := fun _ => True) Ok.go fun kd _ => ?_
      refine Ok.call (ih _ lv) ⟨v0, v1, v4⟩ fun e2 r2 g4 g5 g6 => ?_
      rw [W_id (by omega) (by omega)] at g5
      refine Ok.bind (φ := fun b => b = false → 0 ≤ r2 ∧ r2 < (s.l.length : Int)) Ok.go fun b hb => Ok.ite (fun _ => hbad) fun hz => ?_
      obtain ⟨b3, b4⟩ := hb (by simpa using hz)
      refine Ok.pure ?_
      rw [W_id (by omega) (by omega)]
      exact hk _ _ (SE.node g1 g4) (.inr (by omega)) (by omega)
    intro i lv; refine ⟨?_⟩; rintro ⟨v0, v1, v2⟩ φ hk; unfold M.spec_l3Parse; dsimp only [same]
    have hbad : Ok (Pure.pure (EX0, (-1 : Int))) φ := Ok.pure (hk _ _ EX0.se (.inl rfl) (by omega))
    refine Ok.bind (φ := fun b => b = false → 0 ≤ i ∧ i < (s.l.length : Int) ∧ 1 ≤ lv) Ok.go fun b hb => Ok.ite (fun _ => hbad) fun hz => ?_
    obtain ⟨b1, b2, b3⟩ := hb (by simpa using hz)
    refine Ok.sidx b1 b2 fun c _ hc => Ok.ite_beq (fun hc1 => ?_) fun _ => ?_
    · refine Ok.call (l3Until_tot s i _) ⟨h0, b1⟩ fun y hy => Ok.ite_dec (fun _ => hbad) fun hy0 => ?_
      rcases hy with hy | ⟨y1, y2, d, y3, y4⟩
      · exact absurd hy (by omega)
      have hiy : i + 1 ≤ y := by
        by_cases e : y = i
        · subst e
          rw [hc] at y3
          cases y3
          have : ((125 : UInt8).toNat : Int) = 125 := rfl
          omega
        · omega
      rw [W_id (by omega) (by omega), W_id (by omega) (by omega)]
      refine Ok.sslc (by omega) (by omega) (by omega) fun m _ hm => Ok.call (ParseAffine_tot m) (by omega) fun a b ha => Ok.pure (hk _ _ (SE.lf ha SC.nil) (.inr (by omega)) (by omega))
    · refine Ok.bind (φ := fun _ => True) Ok.go fun t52 _ => Ok.ite (fun _ => ?_) fun _ => ?_
      · refine Ok.call (l3ParseAccess_tot s i) ⟨h0, b1, by omega⟩ fun a r ha g1 g2 => Ok.pure (hk _ _ (SE.lf SA.nil0 ha) (by omega) g2)
      · refine Ok.sidx_known hc b1 (Ok.ite_beq (fun _ => ?_) fun _ => ?_)
        · obtain ⟨v3, v4⟩ := v2
          rw [W_id (x := lv - 1) (by omega) (by omega), W_id (x := i + 1) (by omega) (by omega)]
          refine Ok.call (round _ _) ⟨by omega, by omega, by omega, ⟨by omega, by omega⟩⟩ fun e r g1 g2 g3 => Ok.pure (hk _ _ g1 (by omega) g3)
        · refine Ok.call (l1Digits_tot s i) ⟨h0, b1, by omega⟩ fun n2 r g1 g2 g3 => Ok.ite_beq (fun _ => hbad) fun hne => Ok.pure (hk _ _ (SE.lf SA.nil0 SC.nil) (.inr (by omega)) g3)
instance l3Parse_tot (s : Str) (i lv : Int) : Tot (M.spec_l3Parse s i lv) (s.l.length ≤ 1000000 ∧ 0 ≤ lv ∧ lv ≤ 5) (fun φ => ∀ e r, SE 5 e → (r = -1 ∨ (0 ≤ i ∧ i < r)) → r ≤ (s.l.length : Int) → φ (e, r)) := ⟨fun ⟨h0, h1, h2⟩ => (l3Parse_aux s h0 5 i lv).ok ⟨h2, by decide, ⟨by omega, by omega⟩⟩⟩
end Go.LN
