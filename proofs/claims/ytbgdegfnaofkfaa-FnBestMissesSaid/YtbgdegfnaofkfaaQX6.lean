/- Models that are total, ninth part. Printed by tg9.py. -/
import Derived.Test.YtbgdegfnaofkfaaQX5
namespace Go.LN
set_option linter.unusedVariables false
set_option linter.unusedSimpArgs false
theorem LL.one {a : impl_Affine} (h : SA a) : LL [a] := ⟨Nat.le_of_ble_eq_true rfl, fun _ h' => List.mem_singleton.1 h' ▸ h⟩
theorem LL.two {a b : impl_Affine} (h : SA a) (h2 : SA b) : LL ([a] ++ [b]) := ⟨Nat.le_of_ble_eq_true rfl, all_app (LL.one h).2 h2⟩
theorem SA.c4 {y : Int} (h : I64 y) : SA (impl_Affine.mk [0, 0, 0, 0] y) := ⟨Nat.le_of_ble_eq_true rfl, h⟩
instance l2Loop_tot (r : spec_l16Rd) (depth : Int) : Tot (M.spec_l2Loop r depth) (0 ≤ r.p ∧ r.p ≤ 900000000 ∧ 0 ≤ depth ∧ depth ≤ 4) (fun φ => ∀ a s, SL1 a → r.p ≤ s.p → s.p ≤ r.p + 20 → φ (a, s)) := ⟨by
  rintro ⟨h0, h1, h2, h3⟩ φ hk
  unfold M.spec_l2Loop
  refine Ok.call (l16Rd_num_tot r _) ⟨by decide, h0, by omega, by decide⟩ fun y1 s1 _ g1 e1 => Ok.call (l1Const_tot _) trivial ?_
  refine Ok.call (l16Rd_num_tot s1 _) ⟨by decide, by omega, by omega, by decide⟩ fun y2 s2 _ g2 e2 => Ok.call (l1Const_tot _) trivial ?_
  have a1 := SA.c4 g1
  have a2 := SA.c4 g2
  refine Ok.bind (φ := fun o => r.p ≤ o.2.p ∧ o.2.p ≤ r.p + 3) Ok.go ?_
  rintro ⟨t, x⟩ ⟨g3, g4⟩
  dsimp only at g3 g4 ⊢
  refine Ok.bind (φ := fun o => SA o.1 ∧ SA o.2.1 ∧ r.p ≤ o.2.2.p ∧ o.2.2.p ≤ r.p + 6) (Ok.ite (fun _ => ?_) fun _ => Ok.go) ?_
  · refine Ok.call (pick_tot x _) ⟨by omega, by omega⟩ fun y s k1 k2 k3 => Ok.call (pick_tot s _) ⟨by omega, by omega⟩ fun z u k4 k5 k6 => ?_
    refine Ok.bind (φ := fun o => SA o.1 ∧ SA o.2) (Ok.ite_beq (fun _ => ?_) fun _ => ?_) ?_
    · exact Ok.call (l1Var_tot y) ⟨k1, by omega⟩ fun b c1 c2 => Ok.pure ⟨⟨by dsimp only; omega, by dsimp only; rw [c2]; decide⟩, a2⟩
    · exact Ok.call (l1Var_tot y) ⟨k1, by omega⟩ fun b c1 c2 => Ok.call (l1Const_tot _) trivial (Ok.call (l1Combine_tot b 1 _ 1) ⟨c1, rfl⟩ fun d c3 c4 => Ok.pure ⟨a1, ⟨by dsimp only; omega, c4⟩⟩)
    rintro ⟨b, c⟩ ⟨c1, c2⟩
    exact Ok.pure ⟨c1, c2, by dsimp only at *; omega, by dsimp only at *; omega⟩
  rintro ⟨b, c, u⟩ ⟨b1, b2, b3, b4⟩
  dsimp only at b1 b2 b3 b4 ⊢
  refine Ok.call (pick_tot u _) ⟨by omega, by omega⟩ fun y s k1 k2 k3 => ?_
  refine Ok.bind (φ := fun o => LL o.1 ∧ LL o.2.1 ∧ r.p ≤ o.2.2.p ∧ o.2.2.p ≤ r.p + 20) (Ok.ite_beq (fun _ => ?_) fun _ => ?_) ?_
  · refine Ok.call (l16Rd_num_tot s _) ⟨by decide, by omega, by omega, by decide⟩ fun y3 s3 _ g3 e3 => Ok.call (l1Const_tot _) trivial (Ok.app S (Ok.pure ⟨LL.one b1, LL.two b2 (SA.c4 g3), by dsimp only; omega, by dsimp only; omega⟩))
  · refine Ok.bind (φ := fun o => LL o.1 ∧ r.p ≤ o.2.p ∧ o.2.p ≤ r.p + 20) (Ok.ite_beq (fun _ => ?_) fun _ => Ok.pure ⟨LL.one b1, by dsimp only; omega, by dsimp only; omega⟩) ?_
    · refine Ok.call (l16Rd_num_tot s _) ⟨by decide, by omega, by omega, by decide⟩ fun y3 s3 _ g3 e3 => Ok.call (l1Const_tot _) trivial (Ok.app S (Ok.pure ⟨LL.two b1 (SA.c4 g3), by dsimp only; omega, by dsimp only; omega⟩))
    rintro ⟨d, w⟩ ⟨d1, d2, d3⟩
    exact Ok.pure ⟨d1, LL.one b2, d2, d3⟩
  rintro ⟨d, e, w⟩ ⟨d1, d2, d3, d4⟩
  exact Ok.pure (hk _ _ ⟨d1, d2⟩ d3 d4)⟩
theorem l2Nest_l1_aux  : ∀ (k : Nat) (o : List impl_Loop) (i : Int) (r : spec_l16Rd), Tot (M.spec_l2Nest_l1 o i r) (i < (k : Int) ∧ 0 < (k : Int) ∧ i ≤ 3 ∧ 0 ≤ i ∧ (o.length : Int) + i ≤ 4 ∧ 0 ≤ r.p ∧ r.p + 20 * i ≤ 800000100 ∧ (∀ x ∈ o, SL1 x)) (fun φ => ∀ a s, SN 1000 a → a.length ≤ 4 → r.p ≤ s.p → s.p ≤ r.p + 20 * i → φ (a, s)) := by
  intro k
  induction k with
  | zero => intro o i r; exact ⟨fun h => absurd h.2.1 (by omega)⟩
  | succ k ih =>
    intro o i r; refine ⟨?_⟩; rintro ⟨v0, v1, v2, v3, v4, v5, v6, v7⟩ φ hk; unfold M.spec_l2Nest_l1
    exact Ok.go
instance l2Nest_l1_tot  (o : List impl_Loop) (i : Int) (r : spec_l16Rd) : Tot (M.spec_l2Nest_l1 o i r) (i ≤ 3 ∧ 0 ≤ i ∧ (o.length : Int) + i ≤ 4 ∧ 0 ≤ r.p ∧ r.p + 20 * i ≤ 800000100 ∧ (∀ x ∈ o, SL1 x)) (fun φ => ∀ a s, SN 1000 a → a.length ≤ 4 → r.p ≤ s.p → s.p ≤ r.p + 20 * i → φ (a, s)) := ⟨by
  rintro ⟨v0, v1, v2, v3, v4, v5⟩ φ hk
  exact (l2Nest_l1_aux ((i).toNat + 1) o i r).ok ⟨by omega, by omega, v0, v1, v2, v3, v4, v5⟩ φ hk⟩
instance l2Nest_tot (r : spec_l16Rd) : Tot (M.spec_l2Nest r) (0 ≤ r.p ∧ r.p ≤ 800000000) (fun φ => ∀ a s, SN 1000 a → a.length ≤ 4 → r.p ≤ s.p → s.p ≤ r.p + 100 → φ (a, s)) := ⟨by
  rintro ⟨h0, h1⟩ φ hk
  unfold M.spec_l2Nest
  refine Ok.call (l16Rd_num_tot r _) ⟨by decide, h0, by omega, by decide⟩ fun y s g1 g2 g3 => ?_
  simp only [List.mem_cons, List.not_mem_nil, or_false] at g1
  exact Ok.go⟩
theorem l3Elem_l1_aux (depth : Int) (n : Int) (h0 : 0 ≤ depth) (h1 : depth ≤ 4) (h2 : n ≤ 2) : ∀ (k : Nat) (i : Int) (o : List impl_Affine) (r : spec_l16Rd), Tot (M.spec_l3Elem_l1 depth n i o r) (n - i < (k : Int) ∧ 0 < (k : Int) ∧ 0 ≤ i ∧ i ≤ 2 ∧ (o.length : Int) ≤ i ∧ 0 ≤ r.p ∧ r.p ≤ 900000000 + 10 * i ∧ (∀ x ∈ o, SA x)) (fun φ => ∀ a s, a.length ≤ 100 → (∀ x ∈ a, SA x) → r.p ≤ s.p → s.p ≤ r.p + 20 - 10 * i → φ (a, s)) := by
  intro k
  induction k with
  | zero => intro i o r; exact ⟨fun h => absurd h.2.1 (by omega)⟩
  | succ k ih =>
    intro i o r; refine ⟨?_⟩; rintro ⟨v0, v1, v2, v3, v4, v5, v6, v7⟩ φ hk; unfold M.spec_l3Elem_l1
    exact Ok.go
instance l3Elem_l1_tot (depth : Int) (n : Int) (i : Int) (o : List impl_Affine) (r : spec_l16Rd) : Tot (M.spec_l3Elem_l1 depth n i o r) (0 ≤ depth ∧ depth ≤ 4 ∧ n ≤ 2 ∧ 0 ≤ i ∧ i ≤ 2 ∧ (o.length : Int) ≤ i ∧ 0 ≤ r.p ∧ r.p ≤ 900000000 + 10 * i ∧ (∀ x ∈ o, SA x)) (fun φ => ∀ a s, a.length ≤ 100 → (∀ x ∈ a, SA x) → r.p ≤ s.p → s.p ≤ r.p + 20 - 10 * i → φ (a, s)) := ⟨by
  rintro ⟨h0, h1, h2, v0, v1, v2, v3, v4, v5⟩ φ hk
  exact (l3Elem_l1_aux depth n h0 h1 h2 ((n - i).toNat + 1) i o r).ok ⟨by omega, by omega, v0, v1, v2, v3, v4, v5⟩ φ hk⟩
instance l3Elem_tot (r : spec_l16Rd) (depth : Int) : Tot (M.spec_l3Elem r depth) (0 ≤ r.p ∧ r.p ≤ 800000000 ∧ 0 ≤ depth ∧ depth ≤ 4) (fun φ => ∀ a s, SC a → r.p ≤ s.p → s.p ≤ r.p + 30 → φ (a, s)) := ⟨by
  rintro ⟨h0, h1, h2, h3⟩ φ hk
  unfold M.spec_l3Elem
  refine Ok.call (l16Rd_of_tot r _) ⟨by decide, h0, by omega⟩ fun y s g1 g2 => ?_
  have hy : y.l.length ≤ 1 := by
    simp only [List.mem_cons, List.not_mem_nil, or_false] at g1
    rcases g1 with rfl | rfl | rfl | rfl <;> decide
  exact Ok.go⟩
theorem l1Draw_l1_aux (depth : Int) (h0 : 0 ≤ depth) (h1 : depth ≤ 4) : ∀ (k : Nat) (i : Int) (o : List Int) (r : spec_l16Rd), Tot (M.spec_l1Draw_l1 depth i o r) (depth - i < (k : Int) ∧ 0 < (k : Int) ∧ 0 ≤ i ∧ i ≤ 4 ∧ o.length = 4 ∧ 0 ≤ r.p ∧ r.p ≤ 900000000 + i) (fun φ => ∀ a s, a.length = 4 → r.p ≤ s.p → s.p ≤ r.p + 4 - i → φ (a, s)) := by
  intro k
  induction k with
  | zero => intro i o r; exact ⟨fun h => absurd h.2.1 (by omega)⟩
  | succ k ih =>
    intro i o r; refine ⟨?_⟩; rintro ⟨v0, v1, v2, v3, v4, v5, v6⟩ φ hk; unfold M.spec_l1Draw_l1
    exact Ok.go
instance l1Draw_l1_tot (depth : Int) (i : Int) (o : List Int) (r : spec_l16Rd) : Tot (M.spec_l1Draw_l1 depth i o r) (0 ≤ depth ∧ depth ≤ 4 ∧ 0 ≤ i ∧ i ≤ 4 ∧ o.length = 4 ∧ 0 ≤ r.p ∧ r.p ≤ 900000000 + i) (fun φ => ∀ a s, a.length = 4 → r.p ≤ s.p → s.p ≤ r.p + 4 - i → φ (a, s)) := ⟨by
  rintro ⟨h0, h1, v0, v1, v2, v3, v4⟩ φ hk
  exact (l1Draw_l1_aux depth h0 h1 ((depth - i).toNat + 1) i o r).ok ⟨by omega, by omega, v0, v1, v2, v3, v4⟩ φ hk⟩
instance l1Draw_tot (r : spec_l16Rd) (depth : Int) : Tot (M.spec_l1Draw r depth) (0 ≤ r.p ∧ r.p ≤ 800000000 ∧ 0 ≤ depth ∧ depth ≤ 4) (fun φ => ∀ a s, SA a → a.Coefs.length = 4 → r.p ≤ s.p → s.p ≤ r.p + 10 → φ (a, s)) := ⟨by
  rintro ⟨h0, h1, h2, h3⟩ φ hk
  unfold M.spec_l1Draw
  exact Ok.go⟩
end Go.LN
