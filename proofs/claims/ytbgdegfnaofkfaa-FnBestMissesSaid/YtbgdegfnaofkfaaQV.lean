/- Models that are total, second part. Printed by tg2.py. -/
import Derived.Test.YtbgdegfnaofkfaaQU
namespace Go.LN
set_option linter.unusedVariables false
set_option linter.unusedSimpArgs false
def RN : Nat → Nat
  | 0 => 1
  | n + 1 => 10 * RN n + 1
theorem l3Reads_aux : ∀ (n : Nat) (out : List impl_Access) (e : impl_Expr), Tot (M.spec_l3Reads out e) (SE n e ∧ out.length + RN n ≤ 10000000 ∧ ∀ s ∈ out, SC s) (fun φ => ∀ r, r.length ≤ out.length + RN n → (∀ s ∈ r, SC s) → φ r) := by
  intro n
  induction n with
  | zero =>
    intro out e
    refine ⟨?_⟩
    rintro ⟨⟨h1, h2, h3⟩, ho, hs⟩ φ hk
    unfold M.spec_l3Reads
    dsimp only [same]
    simp only [RN] at ho hk
    have hl : ∀ o : List impl_Access, Tot (M.spec_l3Reads_l1 e o 0) True (fun φ => φ o) := by
      intro o
      refine ⟨?_⟩
      rintro - φ hk
      unfold M.spec_l3Reads_l1
      rw [h3]
      exact Ok.pure hk
    exact Ok.go
  | succ n ih =>
    intro out e
    refine ⟨?_⟩
    rintro ⟨⟨h1, h2, h3, h4⟩, ho, hs⟩ φ hk
    unfold M.spec_l3Reads
    dsimp only [same]
    simp only [RN] at ho hk
    have hl : ∀ (k : Nat) (i : Int) (o : List impl_Access), Tot (M.spec_l3Reads_l1 e o i) (((e.Kids.length : Int) - i ≤ k ∧ 0 ≤ i ∧ k ≤ 10) ∧ o.length + k * RN n ≤ 10000000 ∧ ∀ s ∈ o, SC s) (fun φ => ∀ r, r.length ≤ o.length + k * RN n → (∀ s ∈ r, SC s) → φ r) := by
      intro k
      induction k with
      | zero =>
        intro i o; refine ⟨?_⟩; rintro ⟨⟨a1, a2, a3⟩, a4, a5⟩ φ hk; unfold M.spec_l3Reads_l1; dsimp only [same]
        exact Ok.go
      | succ k ik =>
        intro i o; refine ⟨?_⟩; rintro ⟨⟨a1, a2, a3⟩, a4, a5⟩ φ hk; unfold M.spec_l3Reads_l1; dsimp only [same]
        have e1 : (k + 1) * RN n = k * RN n + RN n := by rw [Nat.add_mul, Nat.one_mul]
        rw [e1] at a4 hk
        exact Ok.go
    have hl := hl 10 0
    exact Ok.go
instance l3Reads_tot (e : impl_Expr) : Tot (M.spec_l3Reads [] e) (SE 5 e) (fun φ => ∀ r, r.length ≤ 111111 → (∀ s ∈ r, SC s) → φ r) := ⟨fun h φ hk => (l3Reads_aux 5 [] e).ok ⟨h, by decide, S⟩ φ fun r h1 h2 => hk r (by simp [RN] at h1; omega) h2⟩
theorem l4Size_l1_aux (a : impl_Array) (h0 : SR a) : ∀ (k : Nat) (n : Int) (i : Int), Tot (M.spec_l4Size_l1 a n i) ((a.Dims.length : Int) - i < (k : Int) ∧ 0 < (k : Int) ∧ 0 ≤ i) (fun φ => ∀ r, φ r) := by
  have h0 := h0.2
  intro k
  induction k with
  | zero => intro n i; exact ⟨fun h => absurd h.2.1 (by omega)⟩
  | succ k ih =>
    intro n i; refine ⟨?_⟩; rintro ⟨v0, v1, v2⟩ φ hk; unfold M.spec_l4Size_l1
    exact Ok.go
instance l4Size_l1_tot (a : impl_Array) (n : Int) (i : Int) : Tot (M.spec_l4Size_l1 a n i) (SR a ∧ 0 ≤ i) (fun φ => ∀ r, φ r) := ⟨by
  rintro ⟨h0, v0⟩ φ hk
  exact (l4Size_l1_aux a h0 (((a.Dims.length : Int) - i).toNat + 1) n i).ok ⟨by omega, by omega, v0⟩ φ hk⟩
instance l4Size_tot (a : impl_Array) : Tot (M.spec_l4Size a) (SR a) (fun φ => ∀ r, φ r) := ⟨by
  rintro h0 φ hk
  unfold M.spec_l4Size
  exact Ok.go⟩
theorem l1Eval_l1_aux (a : impl_Affine) (point : List Int) (h0 : SA a) : ∀ (k : Nat) (n : Int) (i : Int), Tot (M.spec_l1Eval_l1 a point n i) ((a.Coefs.length : Int) - i < (k : Int) ∧ 0 < (k : Int) ∧ I64 n ∧ 0 ≤ i) (fun φ => ∀ r, I64 r → φ r) := by
  have h0 := h0.1
  intro k
  induction k with
  | zero => intro n i; exact ⟨fun h => absurd h.2.1 (by omega)⟩
  | succ k ih =>
    intro n i; refine ⟨?_⟩; rintro ⟨v0, v1, v2, v3⟩ φ hk; unfold M.spec_l1Eval_l1
    exact Ok.go
instance l1Eval_l1_tot (a : impl_Affine) (point : List Int) (n : Int) (i : Int) : Tot (M.spec_l1Eval_l1 a point n i) (SA a ∧ I64 n ∧ 0 ≤ i) (fun φ => ∀ r, I64 r → φ r) := ⟨by
  rintro ⟨h0, v0, v1⟩ φ hk
  exact (l1Eval_l1_aux a point h0 (((a.Coefs.length : Int) - i).toNat + 1) n i).ok ⟨by omega, by omega, v0, v1⟩ φ hk⟩
instance l1Eval_tot (a : impl_Affine) (point : List Int) : Tot (M.spec_l1Eval a point) (SA a) (fun φ => ∀ r, I64 r → φ r) := ⟨by
  rintro h0 φ hk
  have h1 := h0.2
  unfold M.spec_l1Eval
  exact Ok.go⟩
theorem l4Cell_l2_aux (list : List impl_Array) (a : impl_Access) (point : List Int) (i : Int) (h0 : SC a) (h1 : 0 ≤ i) (h2 : i < (list.length : Int)) : ∀ (k : Nat) (n : Int) (k0 : Int), Tot (M.spec_l4Cell_l2 list a point i n k0) ((a.Subs.length : Int) - k0 < (k : Int) ∧ 0 < (k : Int) ∧ 0 ≤ k0) (fun φ => (∀ r, φ (.done r)) ∧ (∀ r, φ (.ret r))) := by
  obtain ⟨h01, h02, h03⟩ := h0
  intro k
  induction k with
  | zero => intro n k0; exact ⟨fun h => absurd h.2.1 (by omega)⟩
  | succ k ih =>
    intro n k0; refine ⟨?_⟩; rintro ⟨v0, v1, v2⟩ φ ⟨hd, hr⟩; unfold M.spec_l4Cell_l2
    exact Ok.go
instance l4Cell_l2_tot (list : List impl_Array) (a : impl_Access) (point : List Int) (i : Int) (n : Int) (k0 : Int) : Tot (M.spec_l4Cell_l2 list a point i n k0) (SC a ∧ 0 ≤ i ∧ i < (list.length : Int) ∧ 0 ≤ k0) (fun φ => (∀ r, φ (.done r)) ∧ (∀ r, φ (.ret r))) := ⟨by
  rintro ⟨h0, h1, h2, v0⟩ φ hk
  exact (l4Cell_l2_aux list a point i h0 h1 h2 (((a.Subs.length : Int) - k0).toNat + 1) n k0).ok ⟨by omega, by omega, v0⟩ φ hk⟩
theorem l4Cell_l1_aux (list : List impl_Array) (a : impl_Access) (point : List Int) (h0 : SC a) (h1 : SRs 1000 list) : ∀ (k : Nat) (base : Int) (i : Int), Tot (M.spec_l4Cell_l1 list a point base i) ((list.length : Int) - i < (k : Int) ∧ 0 < (k : Int) ∧ 0 ≤ i) (fun φ => (φ (.done ())) ∧ (∀ r, φ (.ret r))) := by
  obtain ⟨h10, h11⟩ := h1
  intro k
  induction k with
  | zero => intro base i; exact ⟨fun h => absurd h.2.1 (by omega)⟩
  | succ k ih =>
    intro base i; refine ⟨?_⟩; rintro ⟨v0, v1, v2⟩ φ ⟨hd, hr⟩; unfold M.spec_l4Cell_l1
    exact Ok.go
instance l4Cell_l1_tot (list : List impl_Array) (a : impl_Access) (point : List Int) (base : Int) (i : Int) : Tot (M.spec_l4Cell_l1 list a point base i) (SC a ∧ SRs 1000 list ∧ 0 ≤ i) (fun φ => (φ (.done ())) ∧ (∀ r, φ (.ret r))) := ⟨by
  rintro ⟨h0, h1, v0⟩ φ hk
  exact (l4Cell_l1_aux list a point h0 h1 (((list.length : Int) - i).toNat + 1) base i).ok ⟨by omega, by omega, v0⟩ φ hk⟩
instance l4Cell_tot (list : List impl_Array) (a : impl_Access) (point : List Int) : Tot (M.spec_l4Cell list a point) (SC a ∧ SRs 1000 list) (fun φ => ∀ r, φ r) := ⟨by
  rintro ⟨h0, h1⟩ φ hk
  unfold M.spec_l4Cell
  exact Ok.go⟩
theorem l4Cells_l1_aux (list : List impl_Array) (point : List Int) (y : List impl_Access) (h0 : y.length ≤ 111111) (h1 : ∀ s ∈ y, SC s) (h2 : SRs 1000 list) : ∀ (k : Nat) (out : List Int) (i : Int), Tot (M.spec_l4Cells_l1 list point y out i) ((y.length : Int) - i < (k : Int) ∧ 0 < (k : Int) ∧ 0 ≤ i ∧ (out.length : Int) = i ∧ i ≤ (y.length : Int)) (fun φ => (∀ o, o.length ≤ 111111 → φ (.done o)) ∧ (φ (.ret ([], 0, false)))) := by
  intro k
  induction k with
  | zero => intro out i; exact ⟨fun h => absurd h.2.1 (by omega)⟩
  | succ k ih =>
    intro out i; refine ⟨?_⟩; rintro ⟨v0, v1, v2, v3, v4⟩ φ ⟨hd, hr⟩; unfold M.spec_l4Cells_l1
    exact Ok.go
instance l4Cells_l1_tot (list : List impl_Array) (point : List Int) (y : List impl_Access) (out : List Int) (i : Int) : Tot (M.spec_l4Cells_l1 list point y out i) (y.length ≤ 111111 ∧ (∀ s ∈ y, SC s) ∧ SRs 1000 list ∧ 0 ≤ i ∧ (out.length : Int) = i ∧ i ≤ (y.length : Int)) (fun φ => (∀ o, o.length ≤ 111111 → φ (.done o)) ∧ (φ (.ret ([], 0, false)))) := ⟨by
  rintro ⟨h0, h1, h2, v0, v1, v2⟩ φ hk
  exact (l4Cells_l1_aux list point y h0 h1 h2 (((y.length : Int) - i).toNat + 1) out i).ok ⟨by omega, by omega, v0, v1, v2⟩ φ hk⟩
instance l4Cells_tot (list : List impl_Array) (s : impl_Stmt) (point : List Int) : Tot (M.spec_l4Cells list s point) (SS s ∧ SRs 1000 list) (fun φ => ∀ a b c, a.length ≤ 111111 → φ (a, b, c)) := ⟨by
  rintro ⟨h0, h1⟩ φ hk
  obtain ⟨h00, h01⟩ := h0
  unfold M.spec_l4Cells
  exact Ok.go⟩
theorem l2Range_l1_aux (loop : impl_Loop) (p2 : List Int) (h0 : LL loop.Lo) : ∀ (k : Nat) (lo : Int) (i : Int), Tot (M.spec_l2Range_l1 loop p2 lo i) ((loop.Lo.length : Int) - i < (k : Int) ∧ 0 < (k : Int) ∧ I64 lo ∧ 0 ≤ i) (fun φ => ∀ r, I64 r → φ r) := by
  obtain ⟨h00, h01⟩ := h0
  intro k
  induction k with
  | zero => intro lo i; exact ⟨fun h => absurd h.2.1 (by omega)⟩
  | succ k ih =>
    intro lo i; refine ⟨?_⟩; rintro ⟨v0, v1, v2, v3⟩ φ hk; unfold M.spec_l2Range_l1
    exact Ok.go
instance l2Range_l1_tot (loop : impl_Loop) (p2 : List Int) (lo : Int) (i : Int) : Tot (M.spec_l2Range_l1 loop p2 lo i) (LL loop.Lo ∧ I64 lo ∧ 0 ≤ i) (fun φ => ∀ r, I64 r → φ r) := ⟨by
  rintro ⟨h0, v0, v1⟩ φ hk
  exact (l2Range_l1_aux loop p2 h0 (((loop.Lo.length : Int) - i).toNat + 1) lo i).ok ⟨by omega, by omega, v0, v1⟩ φ hk⟩
theorem l2Range_l2_aux (loop : impl_Loop) (p2 : List Int) (h0 : LL loop.Hi) : ∀ (k : Nat) (hi : Int) (i : Int), Tot (M.spec_l2Range_l2 loop p2 hi i) ((loop.Hi.length : Int) - i < (k : Int) ∧ 0 < (k : Int) ∧ I64 hi ∧ 0 ≤ i) (fun φ => ∀ r, I64 r → φ r) := by
  obtain ⟨h00, h01⟩ := h0
  intro k
  induction k with
  | zero => intro hi i; exact ⟨fun h => absurd h.2.1 (by omega)⟩
  | succ k ih =>
    intro hi i; refine ⟨?_⟩; rintro ⟨v0, v1, v2, v3⟩ φ hk; unfold M.spec_l2Range_l2
    exact Ok.go
instance l2Range_l2_tot (loop : impl_Loop) (p2 : List Int) (hi : Int) (i : Int) : Tot (M.spec_l2Range_l2 loop p2 hi i) (LL loop.Hi ∧ I64 hi ∧ 0 ≤ i) (fun φ => ∀ r, I64 r → φ r) := ⟨by
  rintro ⟨h0, v0, v1⟩ φ hk
  exact (l2Range_l2_aux loop p2 h0 (((loop.Hi.length : Int) - i).toNat + 1) hi i).ok ⟨by omega, by omega, v0, v1⟩ φ hk⟩
instance l2Range_tot (loop : impl_Loop) (p2 : List Int) : Tot (M.spec_l2Range loop p2) (SL1 loop ∧ 1 ≤ loop.Lo.length ∧ 1 ≤ loop.Hi.length) (fun φ => ∀ a b, I64 a → I64 b → φ (a, b)) := ⟨by
  rintro ⟨h0, h1, h2⟩ φ hk
  have h00 := h0; obtain ⟨⟨h01, h02⟩, ⟨h03, h04⟩⟩ := h0
  unfold M.spec_l2Range
  exact Ok.go⟩
instance l1Within_tot (n : Int) (most : Int) : Tot (M.spec_l1Within n most) (0 ≤ most ∧ most ≤ 1000000) (fun φ => ∀ r, (r = true → I64 n) → φ r) := ⟨by
  rintro ⟨h0, h1⟩ φ hk
  unfold M.spec_l1Within
  exact Ok.go⟩
theorem AffineValid_l1_aux (a : impl_Affine) (h0 : SA a) : ∀ (k : Nat) (i : Int), Tot (M.spec_AffineValid_l1 a i) ((a.Coefs.length : Int) - i < (k : Int) ∧ 0 < (k : Int) ∧ 0 ≤ i) (fun φ => (AF a.Coefs i I64 → φ (.done ())) ∧ (φ (.ret false))) := by
  have h01 := h0.1
  intro k
  induction k with
  | zero => intro i; exact ⟨fun h => absurd h.2.1 (by omega)⟩
  | succ k ih =>
    intro i; refine ⟨?_⟩; rintro ⟨v0, v1, v2⟩ φ ⟨hd, hr⟩; unfold M.spec_AffineValid_l1
    exact Ok.go
instance AffineValid_l1_tot (a : impl_Affine) (i : Int) : Tot (M.spec_AffineValid_l1 a i) (SA a ∧ 0 ≤ i) (fun φ => (AF a.Coefs i I64 → φ (.done ())) ∧ (φ (.ret false))) := ⟨by
  rintro ⟨h0, v0⟩ φ hk
  exact (AffineValid_l1_aux a h0 (((a.Coefs.length : Int) - i).toNat + 1) i).ok ⟨by omega, by omega, v0⟩ φ hk⟩
instance AffineValid_tot (a : impl_Affine) : Tot (M.spec_AffineValid a) (SA a) (fun φ => ∀ r, (r = true → VA a) → φ r) := ⟨by
  rintro h0 φ hk
  have h00 := h0.2
  unfold M.spec_AffineValid
  exact Ok.go⟩
theorem l1Depth_l1_aux (a : impl_Affine) (h0 : SA a) : ∀ (k : Nat) (n : Int) (i : Int), Tot (M.spec_l1Depth_l1 a n i) ((a.Coefs.length : Int) - i < (k : Int) ∧ 0 < (k : Int) ∧ 0 ≤ i) (fun φ => ∀ r, φ r) := by
  have h01 := h0.1
  intro k
  induction k with
  | zero => intro n i; exact ⟨fun h => absurd h.2.1 (by omega)⟩
  | succ k ih =>
    intro n i; refine ⟨?_⟩; rintro ⟨v0, v1, v2⟩ φ hk; unfold M.spec_l1Depth_l1
    exact Ok.go
instance l1Depth_l1_tot (a : impl_Affine) (n : Int) (i : Int) : Tot (M.spec_l1Depth_l1 a n i) (SA a ∧ 0 ≤ i) (fun φ => ∀ r, φ r) := ⟨by
  rintro ⟨h0, v0⟩ φ hk
  exact (l1Depth_l1_aux a h0 (((a.Coefs.length : Int) - i).toNat + 1) n i).ok ⟨by omega, by omega, v0⟩ φ hk⟩
instance l1Depth_tot (a : impl_Affine) : Tot (M.spec_l1Depth a) (SA a) (fun φ => ∀ r, φ r) := ⟨by
  rintro h0 φ hk
  unfold M.spec_l1Depth
  exact Ok.go⟩
theorem l2Side_l1_aux (list : List impl_Affine) (depth : Int) (h0 : LL list) : ∀ (k : Nat) (i : Int), Tot (M.spec_l2Side_l1 list depth i) ((list.length : Int) - i < (k : Int) ∧ 0 < (k : Int) ∧ 0 ≤ i) (fun φ => (AF list i VA → φ (.done ())) ∧ (φ (.ret false))) := by
  obtain ⟨h01, h02⟩ := h0
  intro k
  induction k with
  | zero => intro i; exact ⟨fun h => absurd h.2.1 (by omega)⟩
  | succ k ih =>
    intro i; refine ⟨?_⟩; rintro ⟨v0, v1, v2⟩ φ ⟨hd, hr⟩; unfold M.spec_l2Side_l1
    exact Ok.go
instance l2Side_l1_tot (list : List impl_Affine) (depth : Int) (i : Int) : Tot (M.spec_l2Side_l1 list depth i) (LL list ∧ 0 ≤ i) (fun φ => (AF list i VA → φ (.done ())) ∧ (φ (.ret false))) := ⟨by
  rintro ⟨h0, v0⟩ φ hk
  exact (l2Side_l1_aux list depth h0 (((list.length : Int) - i).toNat + 1) i).ok ⟨by omega, by omega, v0⟩ φ hk⟩
instance l2Side_tot (list : List impl_Affine) (depth : Int) : Tot (M.spec_l2Side list depth) (LL list) (fun φ => ∀ r, (r = true → VL list) → φ r) := ⟨by
  rintro h0 φ hk
  unfold M.spec_l2Side
  exact Ok.go⟩
theorem NestValid_l1_aux (nest : List impl_Loop) (h0 : SN 1000 nest) : ∀ (k : Nat) (i : Int), Tot (M.spec_NestValid_l1 nest i) ((nest.length : Int) - i < (k : Int) ∧ 0 < (k : Int) ∧ 0 ≤ i) (fun φ => (((nest.length : Int) ≤ 4 → AF nest i VL1) → φ (.done ())) ∧ (φ (.ret false))) := by
  obtain ⟨h00, h01⟩ := h0
  intro k
  induction k with
  | zero => intro i; exact ⟨fun h => absurd h.2.1 (by omega)⟩
  | succ k ih =>
    intro i; refine ⟨?_⟩; rintro ⟨v0, v1, v2⟩ φ ⟨hd, hr⟩; unfold M.spec_NestValid_l1
    exact Ok.go
instance NestValid_l1_tot (nest : List impl_Loop) (i : Int) : Tot (M.spec_NestValid_l1 nest i) (SN 1000 nest ∧ 0 ≤ i) (fun φ => (((nest.length : Int) ≤ 4 → AF nest i VL1) → φ (.done ())) ∧ (φ (.ret false))) := ⟨by
  rintro ⟨h0, v0⟩ φ hk
  exact (NestValid_l1_aux nest h0 (((nest.length : Int) - i).toNat + 1) i).ok ⟨by omega, by omega, v0⟩ φ hk⟩
instance NestValid_tot (nest : List impl_Loop) : Tot (M.spec_NestValid nest) (SN 1000 nest) (fun φ => ∀ r, (r = true → VN nest) → φ r) := ⟨by
  rintro h0 φ hk
  unfold M.spec_NestValid
  exact Ok.go⟩
end Go.LN
