/- Models that are total, eleventh part. Printed by tgb.py. -/
import Derived.Test.YtbgdegfnaofkfaaQX7
namespace Go.LN
set_option linter.unusedVariables false
set_option linter.unusedSimpArgs false
theorem SP.one {y : List impl_Loop} {a : impl_Stmt} (h : SN 1000 y) (ha : SS a) : SP 1000 (impl_Part.mk y [a]) := ⟨h, Nat.le_of_ble_eq_true rfl, fun _ h => List.mem_singleton.1 h ▸ ha⟩
theorem l4Body_l3_aux (y : List impl_Loop) (h0 : SN 1000 y) (h1 : y.length ≤ 4) : ∀ (k : Nat) (o : List impl_Stmt) (n : Int) (r : spec_l16Rd), Tot (M.spec_l4Body_l3 y o n r) (5 - n < (k : Int) ∧ 0 < (k : Int) ∧ 0 ≤ n ∧ n ≤ 5 ∧ o.length ≤ 100 ∧ (∀ x ∈ o, SS x) ∧ 0 ≤ r.p ∧ r.p + 6000 * (5 - n) ≤ 500000000) (fun φ => ∀ a s, a.length ≤ o.length + 1 → (∀ x ∈ a, SS x) → r.p ≤ s.p → s.p ≤ r.p + 6000 * (5 - n) → φ (a, s)) := by
  intro k
  induction k with
  | zero => intro o n r; exact ⟨fun h => absurd h.2.1 (by omega)⟩
  | succ k ih =>
    intro o n r; refine ⟨?_⟩; rintro ⟨v0, v1, v2, v3, v4, v5, v6, v7⟩ φ hk; unfold M.spec_l4Body_l3
    refine Ok.ite_dec (fun h => ?_) fun _ => Ok.go
    refine Ok.call (l3Stmt_tot r _) ⟨by omega, by omega, by omega, by omega⟩ fun a s g1 g2 g3 => Ok.call l4Some_tot trivial fun l hl => ?_
    refine Ok.call (l4Part_tot l _) ⟨hl, SP.one h0 g1⟩ fun m b _ => ?_
    dsimp only
    exact Ok.go
instance l4Body_l3_tot (y : List impl_Loop) (o : List impl_Stmt) (n : Int) (r : spec_l16Rd) : Tot (M.spec_l4Body_l3 y o n r) (SN 1000 y ∧ y.length ≤ 4 ∧ 0 ≤ n ∧ n ≤ 5 ∧ o.length ≤ 100 ∧ (∀ x ∈ o, SS x) ∧ 0 ≤ r.p ∧ r.p + 6000 * (5 - n) ≤ 500000000) (fun φ => ∀ a s, a.length ≤ o.length + 1 → (∀ x ∈ a, SS x) → r.p ≤ s.p → s.p ≤ r.p + 6000 * (5 - n) → φ (a, s)) := ⟨by
  rintro ⟨h0, h1, v0, v1, v2, v3, v4, v5⟩ φ hk
  exact (l4Body_l3_aux y h0 h1 ((5 - n).toNat + 1) o n r).ok ⟨by omega, by omega, v0, v1, v2, v3, v4, v5⟩ φ hk⟩
theorem l4Body_l2_aux (y : List impl_Loop) (h0 : SN 1000 y) (h1 : y.length ≤ 4) : ∀ (k : Nat) (k0 : Int) (o : List impl_Stmt) (r : spec_l16Rd), Tot (M.spec_l4Body_l2 y k0 o r) (k0 < (k : Int) ∧ 0 < (k : Int) ∧ 0 ≤ k0 ∧ (o.length : Int) + k0 ≤ 10 ∧ (∀ x ∈ o, SS x) ∧ 0 ≤ r.p ∧ r.p + 30000 * k0 ≤ 400000000) (fun φ => ∀ a s, a.length ≤ 100 → (∀ x ∈ a, SS x) → r.p ≤ s.p → s.p ≤ r.p + 30000 * k0 → φ (a, s)) := by
  intro k
  induction k with
  | zero => intro k0 o r; exact ⟨fun h => absurd h.2.1 (by omega)⟩
  | succ k ih =>
    intro k0 o r; refine ⟨?_⟩; rintro ⟨v0, v1, v2, v3, v4, v5, v6⟩ φ hk; unfold M.spec_l4Body_l2
    exact Ok.go
instance l4Body_l2_tot (y : List impl_Loop) (k0 : Int) (o : List impl_Stmt) (r : spec_l16Rd) : Tot (M.spec_l4Body_l2 y k0 o r) (SN 1000 y ∧ y.length ≤ 4 ∧ 0 ≤ k0 ∧ (o.length : Int) + k0 ≤ 10 ∧ (∀ x ∈ o, SS x) ∧ 0 ≤ r.p ∧ r.p + 30000 * k0 ≤ 400000000) (fun φ => ∀ a s, a.length ≤ 100 → (∀ x ∈ a, SS x) → r.p ≤ s.p → s.p ≤ r.p + 30000 * k0 → φ (a, s)) := ⟨by
  rintro ⟨h0, h1, v0, v1, v2, v3, v4⟩ φ hk
  exact (l4Body_l2_aux y h0 h1 ((k0).toNat + 1) k0 o r).ok ⟨by omega, by omega, v0, v1, v2, v3, v4⟩ φ hk⟩
theorem l4Body_l1_aux (x : impl_Part) : ∀ (k : Nat) (i : Int) (r : spec_l16Rd), Tot (M.spec_l4Body_l1 x i r) (4 - i < (k : Int) ∧ 0 < (k : Int) ∧ 0 ≤ i ∧ i ≤ 4 ∧ 0 ≤ r.p ∧ r.p + 100000 * (4 - i) ≤ 300000000) (fun φ => (∀ s, r.p ≤ s.p → s.p ≤ r.p + 100000 * (4 - i) → φ (.done (x, s))) ∧ (∀ a s, SP 1000 a → r.p ≤ s.p → s.p ≤ r.p + 100000 * (4 - i) → φ (.ret (a, s)))) := by
  intro k
  induction k with
  | zero => intro i r; exact ⟨fun h => absurd h.2.1 (by omega)⟩
  | succ k ih =>
    intro i r; refine ⟨?_⟩; rintro ⟨v0, v1, v2, v3, v4, v5⟩ φ ⟨hd, hr⟩; unfold M.spec_l4Body_l1
    refine Ok.ite_dec (fun h => ?_) fun _ => Ok.go
    refine Ok.call (l2Nest_tot r) ⟨v4, by omega⟩ fun y s g1 g2 g3 g4 => ?_
    refine Ok.call (l16Rd_num_tot s _) ⟨by decide, by omega, by omega, by decide⟩ fun n t g5 _ e3 => ?_
    simp only [List.mem_cons, List.not_mem_nil, or_false] at g5
    refine Ok.call (l4Body_l2_tot y n [] t) ⟨g1, g2, by omega, by simp; omega, fun _ h => absurd h List.not_mem_nil, by omega, by omega⟩ fun b u g6 g7 g8 g9 => Ok.call l4Some_tot trivial fun l hl => ?_
    have hs : SP 1000 (impl_Part.mk y b) := ⟨g1, Nat.le_trans g6 (by decide), g7⟩
    refine Ok.call (l4Part_tot l _) ⟨hl, hs⟩ fun m c _ => ?_
    dsimp only
    refine Ok.bind (φ := fun _ => True) Ok.go fun z _ => Ok.ite (fun _ => Ok.pure (hr _ _ hs (by omega) (by omega))) fun _ => ?_
    rw [W_id (by omega) (by omega)]
    exact Ok.last (ih _ u) ⟨by omega, by omega, by omega, by omega, by omega, by omega⟩ ⟨fun s h1 h2 => hd s (by omega) (by omega), fun a s h0 h1 h2 => hr a s h0 (by omega) (by omega)⟩
instance l4Body_l1_tot (x : impl_Part) (i : Int) (r : spec_l16Rd) : Tot (M.spec_l4Body_l1 x i r) (0 ≤ i ∧ i ≤ 4 ∧ 0 ≤ r.p ∧ r.p + 100000 * (4 - i) ≤ 300000000) (fun φ => (∀ s, r.p ≤ s.p → s.p ≤ r.p + 100000 * (4 - i) → φ (.done (x, s))) ∧ (∀ a s, SP 1000 a → r.p ≤ s.p → s.p ≤ r.p + 100000 * (4 - i) → φ (.ret (a, s)))) := ⟨by
  rintro ⟨v0, v1, v2, v3⟩ φ hk
  exact (l4Body_l1_aux x ((4 - i).toNat + 1) i r).ok ⟨by omega, by omega, v0, v1, v2, v3⟩ φ hk⟩
instance l4Body_tot (r : spec_l16Rd) : Tot (M.spec_l4Body r) (0 ≤ r.p ∧ r.p ≤ 200000000) (fun φ => ∀ a s, SP 1000 a → r.p ≤ s.p → s.p ≤ r.p + 400000 → φ (a, s)) := ⟨by
  rintro ⟨h0, h1⟩ φ hk
  unfold M.spec_l4Body
  refine Ok.call (l4Body_l1_tot _ 0 r) ⟨by decide, by decide, h0, by omega⟩ ⟨fun s g1 g2 => ?_, fun a s g1 g2 g3 => Ok.pure (hk _ _ g1 (by omega) (by omega))⟩
  refine Ok.call (ParseStmt_tot _) (by decide) fun a b g3 => Ok.call (BoxNest_tot _) trivial fun n c g4 => Ok.pure (hk _ _ (SP.one g4 g3) (by omega) (by omega))⟩
theorem l4Draw_l1_aux  : ∀ (k : Nat) (i : Int) (o : List impl_Part) (r : spec_l16Rd), Tot (M.spec_l4Draw_l1 i o r) (i < (k : Int) ∧ 0 < (k : Int) ∧ 0 ≤ i ∧ (o.length : Int) + i ≤ 10 ∧ (∀ x ∈ o, SP 1000 x) ∧ 0 ≤ r.p ∧ r.p + 400000 * i ≤ 100000000) (fun φ => ∀ a s, (a.length : Int) = o.length + i → (∀ x ∈ a, SP 1000 x) → r.p ≤ s.p → s.p ≤ r.p + 400000 * i → φ (a, s)) := by
  intro k
  induction k with
  | zero => intro i o r; exact ⟨fun h => absurd h.2.1 (by omega)⟩
  | succ k ih =>
    intro i o r; refine ⟨?_⟩; rintro ⟨v0, v1, v2, v3, v4, v5, v6⟩ φ hk; unfold M.spec_l4Draw_l1
    exact Ok.go
instance l4Draw_l1_tot  (i : Int) (o : List impl_Part) (r : spec_l16Rd) : Tot (M.spec_l4Draw_l1 i o r) (0 ≤ i ∧ (o.length : Int) + i ≤ 10 ∧ (∀ x ∈ o, SP 1000 x) ∧ 0 ≤ r.p ∧ r.p + 400000 * i ≤ 100000000) (fun φ => ∀ a s, (a.length : Int) = o.length + i → (∀ x ∈ a, SP 1000 x) → r.p ≤ s.p → s.p ≤ r.p + 400000 * i → φ (a, s)) := ⟨by
  rintro ⟨v0, v1, v2, v3, v4⟩ φ hk
  exact (l4Draw_l1_aux ((i).toNat + 1) i o r).ok ⟨by omega, by omega, v0, v1, v2, v3, v4⟩ φ hk⟩
instance l4Draw_tot (r : spec_l16Rd) : Tot (M.spec_l4Draw r) (0 ≤ r.p ∧ r.p ≤ 50000000) (fun φ => ∀ a s, SG 1000 a → r.p ≤ s.p → s.p ≤ r.p + 2000000 → φ (a, s)) := ⟨by
  rintro ⟨h0, h1⟩ φ hk
  unfold M.spec_l4Draw
  refine Ok.call l4Some_tot trivial fun l hl => Ok.call (l16Rd_num_tot r _) ⟨by decide, h0, by omega, by decide⟩ fun n t g5 _ e3 => ?_
  simp only [List.mem_cons, List.not_mem_nil, or_false] at g5
  refine Ok.call (l4Draw_l1_tot n [] t) ⟨by omega, by simp; omega, fun _ h => absurd h List.not_mem_nil, by omega, by omega⟩ fun a s g1 g2 g3 g4 => ?_
  simp only [List.length_nil] at g1
  have hp : SG 1000 (impl_Program.mk l a) := ⟨hl, by dsimp only; omega, g2⟩
  refine Ok.call (ProgramValid_tot _) hp fun b _ => Ok.ite (fun _ => Ok.pure (hk _ _ hp (by omega) (by omega))) fun _ => Ok.call l4Some_tot trivial fun l2 hl2 => ?_
  refine Ok.slc (by omega) (by omega) (by omega) fun m hm hml => Ok.pure (hk _ _ ⟨hl2, by dsimp only; omega, fun x hx => g2 x ?_⟩ (by omega) (by omega))
  subst hm
  exact List.mem_of_mem_take (List.mem_of_mem_drop hx)⟩
instance l8Draw_tot (r : spec_l16Rd) : Tot (M.spec_l8Draw r) (0 ≤ r.p ∧ r.p ≤ 40000000) (fun φ => ∀ a s, SG 1000 a → r.p ≤ s.p → s.p ≤ r.p + 3000000 → φ (a, s)) := ⟨by
  rintro ⟨h0, h1⟩ φ hk
  unfold M.spec_l8Draw
  refine Ok.call (l16Rd_of_tot r _) ⟨by decide, h0, by omega⟩ fun y s g1 g2 => ?_
  have hy : y.l.length ≤ 1000 := by
    revert g1 y
    decide
  refine Ok.cat (by simp; omega) fun t _ ht => ?_
  simp only [List.length_cons, List.length_nil] at ht
  refine Ok.call (ParseProgram_tot t) (by omega) fun p b hp => ?_
  refine Ok.bind (φ := fun o => r.p ≤ o.2.p ∧ o.2.p ≤ r.p + 2) ?_ ?_
  · exact Ok.ite (fun _ => Ok.call (pick_tot s 3) ⟨by omega, by omega⟩ fun y u k1 k2 k3 => Ok.pure ⟨by dsimp only; omega, by dsimp only; omega⟩) fun _ => Ok.pure ⟨by dsimp only; omega, by dsimp only; omega⟩
  rintro ⟨z, u⟩ ⟨g3, g4⟩
  dsimp only at g3 g4 ⊢
  refine Ok.ite (fun _ => Ok.pure (hk _ _ hp g3 (by omega))) fun _ => Ok.call (l4Draw_tot u) ⟨by omega, by omega⟩ fun a v g5 g6 g7 => Ok.pure (hk _ v g5 (by omega) (by omega))⟩
theorem l10Trace_l1_aux  : ∀ (k : Nat) (o : List Int) (i : Int) (r : spec_l16Rd), Tot (M.spec_l10Trace_l1 o i r) (i < (k : Int) ∧ 0 < (k : Int) ∧ 0 ≤ i ∧ i ≤ 50 ∧ (o.length : Int) + i ≤ 50 ∧ 0 ≤ r.p ∧ r.p + i ≤ 50000000) (fun φ => ∀ a s, a.length ≤ 50 → r.p ≤ s.p → s.p ≤ r.p + i → φ (a, s)) := by
  intro k
  induction k with
  | zero => intro o i r; exact ⟨fun h => absurd h.2.1 (by omega)⟩
  | succ k ih =>
    intro o i r; refine ⟨?_⟩; rintro ⟨v0, v1, v2, v3, v4, v5, v6⟩ φ hk; unfold M.spec_l10Trace_l1
    exact Ok.go
instance l10Trace_l1_tot  (o : List Int) (i : Int) (r : spec_l16Rd) : Tot (M.spec_l10Trace_l1 o i r) (0 ≤ i ∧ i ≤ 50 ∧ (o.length : Int) + i ≤ 50 ∧ 0 ≤ r.p ∧ r.p + i ≤ 50000000) (fun φ => ∀ a s, a.length ≤ 50 → r.p ≤ s.p → s.p ≤ r.p + i → φ (a, s)) := ⟨by
  rintro ⟨v0, v1, v2, v3, v4⟩ φ hk
  exact (l10Trace_l1_aux ((i).toNat + 1) o i r).ok ⟨by omega, by omega, v0, v1, v2, v3, v4⟩ φ hk⟩
theorem l10Trace_l2_aux  : ∀ (k : Nat) (o : List Int) (r : spec_l16Rd), Tot (M.spec_l10Trace_l2 o r) (601 - (o.length : Int) < (k : Int) ∧ 0 < (k : Int) ∧ (o.length : Int) ≤ 601 ∧ 0 ≤ r.p ∧ r.p + 601 - (o.length : Int) ≤ 60000000) (fun φ => ∀ a s, a.length ≤ 601 → r.p ≤ s.p → s.p ≤ r.p + 601 - (o.length : Int) → φ (a, s)) := by
  intro k
  induction k with
  | zero => intro o r; exact ⟨fun h => absurd h.2.1 (by omega)⟩
  | succ k ih =>
    intro o r; refine ⟨?_⟩; rintro ⟨v0, v1, v2, v3, v4⟩ φ hk; unfold M.spec_l10Trace_l2
    exact Ok.go
instance l10Trace_l2_tot  (o : List Int) (r : spec_l16Rd) : Tot (M.spec_l10Trace_l2 o r) ((o.length : Int) ≤ 601 ∧ 0 ≤ r.p ∧ r.p + 601 - (o.length : Int) ≤ 60000000) (fun φ => ∀ a s, a.length ≤ 601 → r.p ≤ s.p → s.p ≤ r.p + 601 - (o.length : Int) → φ (a, s)) := ⟨by
  rintro ⟨v0, v1, v2⟩ φ hk
  exact (l10Trace_l2_aux ((601 - (o.length : Int)).toNat + 1) o r).ok ⟨by omega, by omega, v0, v1, v2⟩ φ hk⟩
instance l10Trace_tot (r : spec_l16Rd) : Tot (M.spec_l10Trace r) (0 ≤ r.p ∧ r.p ≤ 30000000) (fun φ => ∀ a s, a.length ≤ 601 → r.p ≤ s.p → s.p ≤ r.p + 4000000 → φ (a, s)) := ⟨by
  rintro ⟨h0, h1⟩ φ hk
  unfold M.spec_l10Trace
  refine Ok.call (pick_tot r 3) ⟨h0, by omega⟩ fun y s k1 k2 k3 => Ok.ite_beq (fun _ => ?_) fun _ => ?_
  · exact Ok.call (l8Draw_tot s) ⟨by omega, by omega⟩ fun p u g1 g2 g3 => Ok.call (AddressTrace_tot p) g1 fun t ht => Ok.pure (hk _ _ (by omega) (by omega) (by omega))
  refine Ok.call (l16Rd_num_tot s _) ⟨by decide, by omega, by omega, by decide⟩ fun n t g5 _ e3 => ?_
  simp only [List.mem_cons, List.not_mem_nil, or_false] at g5
  refine Ok.call (l10Trace_l1_tot [] n t) ⟨by omega, by omega, by simp; omega, by omega, by omega⟩ fun a u g1 g2 g3 => Ok.call (pick_tot u 40) ⟨by omega, by omega⟩ fun z w k4 k5 k6 => ?_
  refine Ok.bind (φ := fun o => o.1.length ≤ 601 ∧ r.p ≤ o.2.p ∧ o.2.p ≤ r.p + 4000000) (Ok.ite_beq (fun _ => ?_) fun _ => Ok.pure ⟨by dsimp only; omega, by dsimp only; omega, by dsimp only; omega⟩) ?_
  · exact Ok.call (l10Trace_l2_tot a w) ⟨by omega, by omega, by omega⟩ fun b v g4 g6 g7 => Ok.pure ⟨by dsimp only; omega, by dsimp only; omega, by dsimp only; omega⟩
  rintro ⟨b, v⟩ ⟨g4, g6, g7⟩
  exact Ok.pure (hk _ _ g4 g6 g7)⟩
instance l16Open_tot (code : List UInt8) : Tot (M.spec_l16Open code) (True) (fun φ => ∀ s, s.p = 0 → φ s) := ⟨by
  rintro _ φ hk
  unfold M.spec_l16Open
  exact Ok.go⟩
instance DrawLruMisses_tot (code : List UInt8) : Tot (M.spec_DrawLruMisses code) (True) (fun φ => ∀ a n, a.length ≤ 601 → -1 ≤ n → n ≤ 41 → φ (a, n)) := ⟨by
  rintro _ φ hk
  unfold M.spec_DrawLruMisses
  refine Ok.call (l16Open_tot code) trivial fun s hs => Ok.call (l10Trace_tot s) ⟨by omega, by omega⟩ fun a u g1 g2 g3 => ?_
  refine Ok.call (l16Rd_num_tot u _) ⟨by decide, by omega, by omega, by decide⟩ fun n t g5 _ e3 => ?_
  simp only [List.mem_cons, List.not_mem_nil, or_false] at g5
  exact Ok.pure (hk _ _ g1 (by omega) (by omega))⟩
instance DrawBestMisses_tot (code : List UInt8) : Tot (M.spec_DrawBestMisses code) (True) (fun φ => ∀ a n, a.length ≤ 601 → -1 ≤ n → n ≤ 41 → φ (a, n)) := ⟨by
  rintro _ φ hk
  unfold M.spec_DrawBestMisses
  exact Ok.go⟩
end Go.LN
