/- Models that are total, tenth part. Printed by tga.py. -/
import Derived.Test.YtbgdegfnaofkfaaQX6
namespace Go.LN
set_option linter.unusedVariables false
set_option linter.unusedSimpArgs false
def PN : Nat → Nat
  | 0 => 50
  | n + 1 => 2 * PN n + 50
theorem SE.kids {n : Nat} {k : Int} {l : List impl_Expr} (h : l.length ≤ 10) (hl : ∀ x ∈ l, SE n x) : SE (n + 1) (impl_Expr.mk k 0 (impl_Affine.mk [] 0) (impl_Access.mk ⟨[]⟩ []) l) := ⟨SA.nil0, SC.nil, h, hl⟩
theorem l3Value_aux (depth : Int) (hd0 : 0 ≤ depth) (hd1 : depth ≤ 4) : ∀ (n : Nat) (r : spec_l16Rd) (lv : Int), Tot (M.spec_l3Value r depth lv) (lv ≤ n + 1 ∧ 0 ≤ lv ∧ n ≤ 10 ∧ 0 ≤ r.p ∧ r.p + PN n ≤ 800000000) (fun φ => ∀ e s, SE n e → r.p ≤ s.p → s.p ≤ r.p + PN n → φ (e, s)) := by
  intro n
  have leaf : ∀ (m : Nat) (x : spec_l16Rd), Tot (do
      let (y4, y5) ← M.spec_l16Rd_pick x 4
      if (y4 == 0) then
        let (y7, y8) ← M.spec_l16Rd_num y5 ([1, 2, 0, 99, 3] : List Int)
        pure ((impl_Expr.mk 1 y7 (impl_Affine.mk ([] : List Int) 0) (impl_Access.mk (⟨[]⟩ : Str) ([] : List impl_Affine)) ([] : List impl_Expr)), y8)
      else
        if (y4 == 1) then
          let (y10, y11) ← M.spec_l1Draw y5 depth
          pure ((impl_Expr.mk 2 0 y10 (impl_Access.mk (⟨[]⟩ : Str) ([] : List impl_Affine)) ([] : List impl_Expr)), y11)
        else
          let (y13, y14) ← M.spec_l3Elem y5 depth
          pure ((impl_Expr.mk 3 0 (impl_Affine.mk ([] : List Int) 0) y13 ([] : List impl_Expr)), y14)) (0 ≤ x.p ∧ x.p ≤ 799999999) (fun φ => ∀ e s, SE m e → x.p ≤ s.p → s.p ≤ x.p + 40 → φ (e, s)) := by
    intro m x
    refine ⟨?_⟩
    rintro ⟨h0, h1⟩ φ hk
    refine Ok.call (pick_tot x 4) ⟨h0, by omega⟩ fun y s k1 k2 k3 => ?_
    refine Ok.ite_beq (fun _ => ?_) fun _ => Ok.ite_beq (fun _ => ?_) fun _ => ?_
    · exact Ok.call (l16Rd_num_tot s _) ⟨by decide, by omega, by omega, by decide⟩ fun y3 s3 _ g3 e3 => Ok.pure (hk _ _ (SE.lf SA.nil0 SC.nil) (by omega) (by omega))
    · exact Ok.call (l1Draw_tot s depth) ⟨by omega, by omega, hd0, hd1⟩ fun a s3 g3 _ e3 e4 => Ok.pure (hk _ _ (SE.lf g3 SC.nil) (by omega) (by omega))
    · exact Ok.call (l3Elem_tot s depth) ⟨by omega, by omega, hd0, hd1⟩ fun a s3 g3 e3 e4 => Ok.pure (hk _ _ (SE.lf SA.nil0 g3) (by omega) (by omega))
  induction n with
  | zero =>
    intro r lv; refine ⟨?_⟩; rintro ⟨v0, v1, v2, v3, v4⟩ φ hk; unfold M.spec_l3Value; dsimp only [same]
    have hp : PN 0 = 50 := rfl
    refine Ok.bind_ite (Ok.ite_dec (fun _ => Ok.bind_pure (Ok.ite_tt ?_)) fun h => absurd h (by omega))
    exact (leaf 0 r).ok ⟨v3, by omega⟩ φ fun e s g1 g2 g3 => hk e s g1 g2 (by omega)
  | succ n ih =>
    intro r lv; refine ⟨?_⟩; rintro ⟨v0, v1, v2, v3, v4⟩ φ hk; unfold M.spec_l3Value; dsimp only [same]
    have hp : PN (n + 1) = 2 * PN n + 50 := rfl
    refine Ok.bind (φ := fun o => (o.1 = false → 2 ≤ lv) ∧ r.p ≤ o.2.p ∧ o.2.p ≤ r.p + 1) ?_ ?_
    · refine Ok.ite_dec (fun _ => Ok.pure ⟨fun h => (by cases h), by dsimp only; omega, by dsimp only; omega⟩) fun h => Ok.call (pick_tot r 4) ⟨v3, by omega⟩ fun y s k1 k2 k3 => Ok.pure ⟨fun _ => by omega, by dsimp only; omega, by dsimp only; omega⟩
    rintro ⟨t, x⟩ ⟨g1, g2, g3⟩
    dsimp only at g1 g2 g3 ⊢
    refine Ok.ite (fun _ => ?_) fun hz => ?_
    · exact (leaf (n + 1) x).ok ⟨by omega, by omega⟩ φ fun e s g1 g2 g3 => hk e s g1 (by omega) (by omega)
    have g1 := g1 (by simpa using hz)
    refine Ok.call (l16Rd_num_tot x _) ⟨by decide, by omega, by omega, by decide⟩ fun y3 s3 _ _ e3 => ?_
    have hl : ∀ (k : Nat) (i : Int) (o : List impl_Expr) (x1 : spec_l16Rd), Tot (M.spec_l3Value_l1 depth lv i o x1) ((2 - i ≤ k ∧ 0 ≤ i ∧ i ≤ 2 ∧ k ≤ 2 ∧ (o.length : Int) = i ∧ 0 ≤ x1.p ∧ x1.p + k * PN n ≤ 800000000) ∧ ∀ x ∈ o, SE n x) (fun φ => ∀ a s, a.length ≤ 10 → (∀ x ∈ a, SE n x) → x1.p ≤ s.p → s.p ≤ x1.p + k * PN n → φ (a, s)) := by
      intro k
      induction k with
      | zero => intro i o x1; refine ⟨?_⟩; rintro ⟨⟨a1, a2, a3, a4, a5, a6, a7⟩, a8⟩ φ hk; unfold M.spec_l3Value_l1; dsimp only [same]; exact Ok.ite_dec (fun h => absurd h (by omega)) fun _ => Ok.pure (hk _ _ (by omega) a8 (by omega) (by omega))
      | succ k ik =>
        intro i o x1; refine ⟨?_⟩; rintro ⟨⟨a1, a2, a3, a4, a5, a6, a7⟩, a8⟩ φ hk; unfold M.spec_l3Value_l1; dsimp only [same]
        have e1 : ((k + 1 : Nat) : Int) * PN n = k * PN n + PN n := by rw [Int.natCast_add, Int.add_mul]; simp
        rw [e1] at a7 hk
        have hkn : 0 ≤ (k : Int) * PN n := Int.mul_nonneg (by omega) (by omega)
        refine Ok.ite_dec (fun h => ?_) fun _ => Ok.pure (hk _ _ (by omega) a8 (by omega) (by omega))
        rw [W_id (by omega) (by omega)]
        refine Ok.call (ih x1 _) ⟨by omega, by omega, by omega, by omega, by omega⟩ fun e s g1 g2 g3 => Ok.app S ?_
        rw [W_id (by omega) (by omega)]
        exact Ok.last (ik _ _ s) ⟨⟨by omega, by omega, by omega, by omega, by simp; omega, by omega, by omega⟩, all_app a8 g1⟩ fun a u h1 h2 h3 h4 => hk a u h1 h2 (by omega) (by omega)
    refine Ok.call (hl 2 0 [] s3) ⟨⟨by omega, by omega, by omega, by omega, rfl, by omega, by omega⟩, fun _ h => absurd h List.not_mem_nil⟩ fun a u h1 h2 h3 h4 => by
      dsimp only
      exact Ok.pure (hk _ u (SE.kids h1 h2) (by omega) (by omega))
instance l3Value_tot (r : spec_l16Rd) (depth lv : Int) : Tot (M.spec_l3Value r depth lv) (0 ≤ r.p ∧ r.p ≤ 700000000 ∧ 0 ≤ depth ∧ depth ≤ 4 ∧ 0 ≤ lv ∧ lv ≤ 6) (fun φ => ∀ e s, SE 5 e → r.p ≤ s.p → s.p ≤ r.p + 5000 → φ (e, s)) := ⟨fun ⟨h0, h1, h2, h3, h4, h5⟩ φ hk => by
  have hp : PN 5 = 3150 := rfl
  exact (l3Value_aux depth h2 h3 5 r lv).ok ⟨by omega, h4, by omega, h0, by omega⟩ φ fun e s g1 g2 g3 => hk e s g1 g2 (by omega)⟩
instance l3Stmt_tot (r : spec_l16Rd) (depth : Int) : Tot (M.spec_l3Stmt r depth) (0 ≤ r.p ∧ r.p ≤ 600000000 ∧ 0 ≤ depth ∧ depth ≤ 4) (fun φ => ∀ a s, SS a → r.p ≤ s.p → s.p ≤ r.p + 6000 → φ (a, s)) := ⟨by
  rintro ⟨h0, h1, h2, h3⟩ φ hk
  unfold M.spec_l3Stmt
  refine Ok.call (l3Elem_tot r depth) ⟨h0, by omega, h2, h3⟩ fun a s g1 g2 g3 => ?_
  refine Ok.call (l16Rd_num_tot s _) ⟨by decide, by omega, by omega, by decide⟩ fun y3 s3 g4 _ e3 => ?_
  simp only [List.mem_cons, List.not_mem_nil, or_false] at g4
  refine Ok.call (l3Value_tot s3 depth y3) ⟨by omega, by omega, h2, h3, by omega, by omega⟩ fun e u g5 g6 g7 => ?_
  have hs : SS (impl_Stmt.mk a e) := ⟨g1, g5⟩
  refine Ok.call (StmtValid_tot _ depth) hs fun b _ => Ok.ite (fun _ => Ok.pure (hk _ _ hs (by omega) (by omega))) fun _ => Ok.call l1Zero_tot trivial (Ok.pure (hk _ _ ⟨⟨by decide, by decide, fun _ h => List.mem_singleton.1 h ▸ SA.c4 (by decide)⟩, SE.lf SA.nil0 SC.nil⟩ (by omega) (by omega)))⟩
theorem BoxNest_l1_aux (z : List Int) (h0 : z.length ≤ 4) : ∀ (k : Nat) (o : List impl_Loop) (i : Int), Tot (M.spec_BoxNest_l1 z o i) ((z.length : Int) - i < (k : Int) ∧ 0 < (k : Int) ∧ 0 ≤ i ∧ (o.length : Int) = i ∧ i ≤ 4 ∧ (∀ x ∈ o, SL1 x)) (fun φ => (∀ o, SN 1000 o → φ (.done o)) ∧ (φ (.ret ([], false)))) := by
  intro k
  induction k with
  | zero => intro o i; exact ⟨fun h => absurd h.2.1 (by omega)⟩
  | succ k ih =>
    intro o i; refine ⟨?_⟩; rintro ⟨v0, v1, v2, v3, v4, v5⟩ φ ⟨hd, hr⟩; unfold M.spec_BoxNest_l1
    refine Ok.ite_dec (fun h => ?_) fun _ => Ok.go
    refine Ok.bind (φ := fun b => b = false → ∀ x, z[i.toNat]? = some x → 0 ≤ x ∧ x ≤ 99) ?_ ?_
    · refine Ok.idx v2 h fun x _ hx => Ok.ite_dec (fun _ => Ok.pure fun h => by cases h) fun g => Ok.idx_known hx v2 (Ok.pure fun hb y hy => ?_)
      rw [hx] at hy
      cases hy
      have := of_decide_eq_false hb
      omega
    intro b hb
    refine Ok.ite (fun _ => Ok.pure hr) fun hz => Ok.call l1Zero_tot trivial (Ok.idx v2 h fun x _ hx => Ok.call (l1Const_tot x) trivial (Ok.app S ?_))
    obtain ⟨b1, b2⟩ := hb (by simpa using hz) x hx
    have hx : SL1 (impl_Loop.mk [impl_Affine.mk [0, 0, 0, 0] 0] [impl_Affine.mk [0, 0, 0, 0] x]) := ⟨LL.one (SA.c4 (by decide)), LL.one (SA.c4 ⟨by omega, by omega⟩)⟩
    exact Ok.go
instance BoxNest_l1_tot (z : List Int) (o : List impl_Loop) (i : Int) : Tot (M.spec_BoxNest_l1 z o i) (z.length ≤ 4 ∧ 0 ≤ i ∧ (o.length : Int) = i ∧ i ≤ 4 ∧ (∀ x ∈ o, SL1 x)) (fun φ => (∀ o, SN 1000 o → φ (.done o)) ∧ (φ (.ret ([], false)))) := ⟨by
  rintro ⟨h0, v0, v1, v2, v3⟩ φ hk
  exact (BoxNest_l1_aux z h0 (((z.length : Int) - i).toNat + 1) o i).ok ⟨by omega, by omega, v0, v1, v2, v3⟩ φ hk⟩
instance BoxNest_tot (z : List Int) : Tot (M.spec_BoxNest z) (True) (fun φ => ∀ o b, SN 1000 o → φ (o, b)) := ⟨by
  rintro _ φ hk
  unfold M.spec_BoxNest
  exact Ok.go⟩
end Go.LN
