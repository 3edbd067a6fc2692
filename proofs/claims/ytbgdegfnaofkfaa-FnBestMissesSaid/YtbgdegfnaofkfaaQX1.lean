/- Models that are total, fourth part. Printed by tg4.py. -/
import Derived.Test.YtbgdegfnaofkfaaQW
namespace Go.LN
set_option linter.unusedVariables false
set_option linter.unusedSimpArgs false
def InI (p : impl_Program) (x : impl_Instance) : Prop := (0 ≤ x.Part ∧ x.Part < (p.Parts.length : Int)) ∧ ∀ q, p.Parts[x.Part.toNat]? = some q → 0 ≤ x.Stmt ∧ x.Stmt < (q.Body.length : Int)
theorem InI.mk {p : impl_Program} {x : impl_Instance} {q : impl_Part} (h0 : 0 ≤ x.Part) (h1 : x.Part < (p.Parts.length : Int)) (hq : p.Parts[x.Part.toNat]? = some q) (h2 : 0 ≤ x.Stmt) (h3 : x.Stmt < (q.Body.length : Int)) : InI p x :=
  ⟨⟨h0, h1⟩, fun q' h => by rw [hq] at h; cases h; exact ⟨h2, h3⟩⟩
theorem l4Instances_l3_aux (p : impl_Program) (i : Int) (y : List (List Int)) (k0 : Int) (q : impl_Part) (b : Nat) (h0 : VP q) (h1 : 0 ≤ i) (h2 : i < (p.Parts.length : Int)) (h3 : p.Parts[i.toNat]? = some q) (h4 : y.length ≤ 121) (h5 : ∀ q ∈ y, q.length ≤ 4) (h6 : 0 ≤ k0) (h7 : k0 < (y.length : Int)) : ∀ (k : Nat) (out : List impl_Instance) (s : Int), Tot (M.spec_l4Instances_l3 p i y k0 out s) ((q.Body.length : Int) - s < (k : Int) ∧ 0 < (k : Int) ∧ 0 ≤ s ∧ s ≤ (q.Body.length : Int) ∧ (out.length : Int) ≤ b + s ∧ b ≤ 100000 ∧ (∀ x ∈ out, InI p x)) (fun φ => ∀ r, r.length ≤ b + 4 → (∀ x ∈ r, InI p x) → φ r) := by
  obtain ⟨h01, h02, h03⟩ := h0
  intro k
  induction k with
  | zero => intro out s; exact ⟨fun h => absurd h.2.1 (by omega)⟩
  | succ k ih =>
    intro out s; refine ⟨?_⟩; rintro ⟨v0, v1, v2, v3, v4, v5, v6⟩ φ hk; unfold M.spec_l4Instances_l3
    refine Ok.idx_known h3 h1 ?_
    refine Ok.ite_dec (fun hs => ?_) fun hs => ?_
    · refine Ok.idx (by omega) (by omega) fun x hx _ => ?_
      have hx4 := h5 x hx
      refine Ok.app S ?_
      refine Ok.app (by simp only [List.length_append, List.length_cons, List.length_nil]; omega) ?_
      have hI : InI p (impl_Instance.mk i s ([] ++ x)) := InI.mk h1 h2 h3 v2 (by omega)
      have hW : W (s + 1) = s + 1 := W_id (by omega) (by omega)
      rw [hW]
      exact Ok.go
    · exact Ok.go
theorem l4Instances_l3_tot (p : impl_Program) (i : Int) (y : List (List Int)) (k0 : Int) (q : impl_Part) (b : Nat) (out : List impl_Instance) (s : Int) : Tot (M.spec_l4Instances_l3 p i y k0 out s) (VP q ∧ 0 ≤ i ∧ i < (p.Parts.length : Int) ∧ p.Parts[i.toNat]? = some q ∧ y.length ≤ 121 ∧ (∀ q ∈ y, q.length ≤ 4) ∧ 0 ≤ k0 ∧ k0 < (y.length : Int) ∧ 0 ≤ s ∧ s ≤ (q.Body.length : Int) ∧ (out.length : Int) ≤ b + s ∧ b ≤ 100000 ∧ (∀ x ∈ out, InI p x)) (fun φ => ∀ r, r.length ≤ b + 4 → (∀ x ∈ r, InI p x) → φ r) := ⟨by
  rintro ⟨h0, h1, h2, h3, h4, h5, h6, h7, v0, v1, v2, v3, v4⟩ φ hk
  exact (l4Instances_l3_aux p i y k0 q b h0 h1 h2 h3 h4 h5 h6 h7 (((q.Body.length : Int) - s).toNat + 1) out s).ok ⟨by omega, by omega, v0, v1, v2, v3, v4⟩ φ hk⟩
theorem l4Instances_l2_aux (p : impl_Program) (i : Int) (y : List (List Int)) (q : impl_Part) (b : Nat) (h0 : VP q) (h1 : 0 ≤ i) (h2 : i < (p.Parts.length : Int)) (h3 : p.Parts[i.toNat]? = some q) (h4 : y.length ≤ 121) (h5 : ∀ q ∈ y, q.length ≤ 4) : ∀ (k : Nat) (out : List impl_Instance) (k0 : Int), Tot (M.spec_l4Instances_l2 p i y out k0) ((y.length : Int) - k0 < (k : Int) ∧ 0 < (k : Int) ∧ 0 ≤ k0 ∧ k0 ≤ (y.length : Int) ∧ (out.length : Int) ≤ b + 4 * k0 ∧ b ≤ 10000 ∧ (∀ x ∈ out, InI p x)) (fun φ => ∀ r, r.length ≤ b + 484 → (∀ x ∈ r, InI p x) → φ r) := by
  intro k
  induction k with
  | zero => intro out k0; exact ⟨fun h => absurd h.2.1 (by omega)⟩
  | succ k ih =>
    intro out k0; refine ⟨?_⟩; rintro ⟨v0, v1, v2, v3, v4, v5, v6⟩ φ hk; unfold M.spec_l4Instances_l2
    have tl := fun o kk => l4Instances_l3_tot p i y kk q o.length o 0
    exact Ok.go
theorem l4Instances_l2_tot (p : impl_Program) (i : Int) (y : List (List Int)) (q : impl_Part) (b : Nat) (out : List impl_Instance) (k0 : Int) : Tot (M.spec_l4Instances_l2 p i y out k0) (VP q ∧ 0 ≤ i ∧ i < (p.Parts.length : Int) ∧ p.Parts[i.toNat]? = some q ∧ y.length ≤ 121 ∧ (∀ q ∈ y, q.length ≤ 4) ∧ 0 ≤ k0 ∧ k0 ≤ (y.length : Int) ∧ (out.length : Int) ≤ b + 4 * k0 ∧ b ≤ 10000 ∧ (∀ x ∈ out, InI p x)) (fun φ => ∀ r, r.length ≤ b + 484 → (∀ x ∈ r, InI p x) → φ r) := ⟨by
  rintro ⟨h0, h1, h2, h3, h4, h5, v0, v1, v2, v3, v4⟩ φ hk
  exact (l4Instances_l2_aux p i y q b h0 h1 h2 h3 h4 h5 (((y.length : Int) - k0).toNat + 1) out k0).ok ⟨by omega, by omega, v0, v1, v2, v3, v4⟩ φ hk⟩
theorem l4Instances_l1_aux (p : impl_Program) (h0 : SG 1000 p) (h1 : VG p) : ∀ (k : Nat) (out : List impl_Instance) (i : Int), Tot (M.spec_l4Instances_l1 p out i) ((p.Parts.length : Int) - i < (k : Int) ∧ 0 < (k : Int) ∧ 0 ≤ i ∧ i ≤ (p.Parts.length : Int) ∧ (out.length : Int) ≤ 484 * i ∧ (∀ x ∈ out, InI p x)) (fun φ => ∀ r, r.length ≤ 2000 → (∀ x ∈ r, InI p x) → φ r) := by
  obtain ⟨⟨h00, h01⟩, h02, h03⟩ := id h0; obtain ⟨h10, h11, h12⟩ := id h1
  intro k
  induction k with
  | zero => intro out i; exact ⟨fun h => absurd h.2.1 (by omega)⟩
  | succ k ih =>
    intro out i; refine ⟨?_⟩; rintro ⟨v0, v1, v2, v3, v4, v5⟩ φ hk; unfold M.spec_l4Instances_l1
    refine Ok.ite_dec (fun hs => ?_) fun hs => ?_
    · refine Ok.idx (by omega) (by omega) fun q hq hqi => ?_
      have tl := fun y o => l4Instances_l2_tot p i y q o.length o 0
      have s1 := (h03 q hq).1
      obtain ⟨s2, s3, s4⟩ := h12 q hq
      have s5 : VP q := ⟨s2, s3, s4⟩
      exact Ok.go
    · exact Ok.go
instance l4Instances_l1_tot (p : impl_Program) (out : List impl_Instance) (i : Int) : Tot (M.spec_l4Instances_l1 p out i) (SG 1000 p ∧ VG p ∧ 0 ≤ i ∧ i ≤ (p.Parts.length : Int) ∧ (out.length : Int) ≤ 484 * i ∧ (∀ x ∈ out, InI p x)) (fun φ => ∀ r, r.length ≤ 2000 → (∀ x ∈ r, InI p x) → φ r) := ⟨by
  rintro ⟨h0, h1, v0, v1, v2, v3⟩ φ hk
  exact (l4Instances_l1_aux p h0 h1 (((p.Parts.length : Int) - i).toNat + 1) out i).ok ⟨by omega, by omega, v0, v1, v2, v3⟩ φ hk⟩
instance l4Instances_tot (p : impl_Program) : Tot (M.spec_l4Instances p) (SG 1000 p ∧ VG p) (fun φ => ∀ r, r.length ≤ 2000 → (∀ x ∈ r, InI p x) → φ r) := ⟨by
  rintro ⟨h0, h1⟩ φ hk
  unfold M.spec_l4Instances
  exact Ok.go⟩
theorem l6Uses_l1_aux (p : impl_Program) (y : List impl_Instance) (h0 : SG 1000 p) (h1 : VG p) (h2 : y.length ≤ 2000) (h3 : ∀ x ∈ y, InI p x) : ∀ (k : Nat) (out : List spec_l6Use) (i : Int), Tot (M.spec_l6Uses_l1 p y out i) ((y.length : Int) - i < (k : Int) ∧ 0 < (k : Int) ∧ 0 ≤ i ∧ i ≤ (y.length : Int) ∧ (out.length : Int) = i ∧ (∀ u ∈ out, u.reads.length ≤ 111111)) (fun φ => ∀ r, r.length ≤ 2000 → (∀ u ∈ r, u.reads.length ≤ 111111) → φ r) := by
  obtain ⟨⟨h00, h01⟩, h02, h03⟩ := id h0; obtain ⟨h10, h11, h12⟩ := id h1
  intro k
  induction k with
  | zero => intro out i; exact ⟨fun h => absurd h.2.1 (by omega)⟩
  | succ k ih =>
    intro out i; refine ⟨?_⟩; rintro ⟨v0, v1, v2, v3, v4, v5⟩ φ hk; unfold M.spec_l6Uses_l1
    refine Ok.ite_dec (fun hs => ?_) fun hs => ?_
    · refine Ok.idx (by omega) (by omega) fun x hx hxi => ?_
      obtain ⟨⟨g0, g1⟩, g2⟩ := h3 x hx
      refine Ok.idx g0 g1 fun q hq hqi => ?_
      obtain ⟨g3, g4⟩ := g2 q hqi
      refine Ok.idx_known hxi v2 (Ok.idx g3 g4 fun s hs _ => ?_)
      have s1 := (h03 q hq).2.2 s hs
      exact Ok.go
    · exact Ok.go
instance l6Uses_l1_tot (p : impl_Program) (y : List impl_Instance) (out : List spec_l6Use) (i : Int) : Tot (M.spec_l6Uses_l1 p y out i) (SG 1000 p ∧ VG p ∧ y.length ≤ 2000 ∧ (∀ x ∈ y, InI p x) ∧ 0 ≤ i ∧ i ≤ (y.length : Int) ∧ (out.length : Int) = i ∧ (∀ u ∈ out, u.reads.length ≤ 111111)) (fun φ => ∀ r, r.length ≤ 2000 → (∀ u ∈ r, u.reads.length ≤ 111111) → φ r) := ⟨by
  rintro ⟨h0, h1, h2, h3, v0, v1, v2, v3⟩ φ hk
  exact (l6Uses_l1_aux p y h0 h1 h2 h3 (((y.length : Int) - i).toNat + 1) out i).ok ⟨by omega, by omega, v0, v1, v2, v3⟩ φ hk⟩
instance l6Uses_tot (p : impl_Program) : Tot (M.spec_l6Uses p) (SG 1000 p ∧ VG p) (fun φ => ∀ r, r.length ≤ 2000 → (∀ u ∈ r, u.reads.length ≤ 111111) → φ r) := ⟨by
  rintro ⟨h0, h1⟩ φ hk
  unfold M.spec_l6Uses
  exact Ok.go⟩
theorem AddressTrace_l1_aux (y : List spec_l6Use) (h0 : y.length ≤ 2000) (h1 : ∀ u ∈ y, u.reads.length ≤ 111111) : ∀ (k : Nat) (out : List Int) (i : Int), Tot (M.spec_AddressTrace_l1 y out i) ((y.length : Int) - i < (k : Int) ∧ 0 < (k : Int) ∧ 0 ≤ i ∧ out.length ≤ 600) (fun φ => (∀ o, o.length ≤ 600 → φ (.done o)) ∧ (∀ o, o.length ≤ 600 → φ (.ret o))) := by
  intro k
  induction k with
  | zero => intro out i; exact ⟨fun h => absurd h.2.1 (by omega)⟩
  | succ k ih =>
    intro out i; refine ⟨?_⟩; rintro ⟨v0, v1, v2, v3⟩ φ ⟨hd, hr⟩; unfold M.spec_AddressTrace_l1
    refine Ok.ite_dec (fun hs => ?_) fun hs => ?_
    · refine Ok.idx (by omega) (by omega) fun x hx hxi => ?_
      have hx5 := h1 x hx
      exact Ok.go
    · exact Ok.go
instance AddressTrace_l1_tot (y : List spec_l6Use) (out : List Int) (i : Int) : Tot (M.spec_AddressTrace_l1 y out i) (y.length ≤ 2000 ∧ (∀ u ∈ y, u.reads.length ≤ 111111) ∧ 0 ≤ i ∧ out.length ≤ 600) (fun φ => (∀ o, o.length ≤ 600 → φ (.done o)) ∧ (∀ o, o.length ≤ 600 → φ (.ret o))) := ⟨by
  rintro ⟨h0, h1, v0, v1⟩ φ hk
  exact (AddressTrace_l1_aux y h0 h1 (((y.length : Int) - i).toNat + 1) out i).ok ⟨by omega, by omega, v0, v1⟩ φ hk⟩
instance AddressTrace_tot (p : impl_Program) : Tot (M.spec_AddressTrace p) (SG 1000 p) (fun φ => ∀ r, r.length ≤ 600 → φ r) := ⟨by
  rintro h0 φ hk
  unfold M.spec_AddressTrace
  exact Ok.go⟩
theorem tmod_rng {a n : Int} (ha : 0 ≤ a) (hn : 0 < n) : 0 ≤ a.tmod n ∧ a.tmod n < n := by
  rw [Int.tmod_eq_emod_of_nonneg ha]
  exact ⟨Int.emod_nonneg _ (by omega), Int.emod_lt_of_pos _ hn⟩
theorem xor_rng {a b : Int} (ha : 0 ≤ a) (ha' : a < 4611686018427387904) (hb : 0 ≤ b) (hb' : b < 4611686018427387904) :
    0 ≤ W (((BitVec.ofInt IntKind.i64.bits a ^^^ BitVec.ofInt IntKind.i64.bits b).toNat : Nat) : Int) := by
  have e : (BitVec.ofInt IntKind.i64.bits a ^^^ BitVec.ofInt IntKind.i64.bits b).toNat < 4611686018427387904 := by
    rw [BitVec.toNat_xor]
    have h1 : (BitVec.ofInt IntKind.i64.bits a).toNat = a.toNat := by
      rw [BitVec.toNat_ofInt]; show (a % ((2 ^ 64 : Nat) : Int)).toNat = _; omega
    have h2 : (BitVec.ofInt IntKind.i64.bits b).toNat = b.toNat := by
      rw [BitVec.toNat_ofInt]; show (b % ((2 ^ 64 : Nat) : Int)).toNat = _; omega
    rw [h1, h2]
    exact Nat.xor_lt_two_pow (n := 62) (by omega) (by omega)
  rw [W_id (by omega) (by omega)]; omega
instance pick_tot (r : spec_l16Rd) (n : Int) : Tot (M.spec_l16Rd_pick r n) (0 ≤ r.p ∧ r.p ≤ 1000000000) (fun φ => ∀ y s, 0 ≤ y → (y < n ∨ y = 0) → s.p = r.p + 1 → φ (y, s)) := ⟨by
  rintro ⟨h0, h1⟩ φ hk
  unfold M.spec_l16Rd_pick
  rw [W_id (x := r.p + 1) (by omega) (by omega), W_id (x := r.p + 1 - 1) (by omega) (by omega)]
  refine Ok.bind_ite (Ok.ite_dec (fun _ => Ok.bind_pure (Ok.ite_tt (Ok.pure (hk _ _ S S rfl)))) fun hn => Ok.bind_pure (Ok.ite_beq (fun _ => Ok.pure (hk _ _ S S rfl)) fun hb => ?_))
  refine Ok.ite_dec (fun hp => Ok.idx (by omega) (by omega) fun x _ _ => ?_) fun hp => ?_
  · refine Ok.rem (by omega) (Ok.pure ?_)
    have hx := x.toNat_lt
    have := tmod_rng (a := (x.toNat : Int)) (n := n) (by omega) (by omega)
    rw [W_id (by omega) (by omega)]
    exact hk _ _ this.1 (.inl this.2) rfl
  · refine Ok.rem (by omega) ?_
    have hp := tmod_rng (a := r.p + 1 - 1) (n := (r.b.length : Int)) (by omega) (by omega)
    refine Ok.idx hp.1 hp.2 fun x1 _ _ => ?_
    rw [W_id (x := (r.p + 1 - 1) * 7) (by omega) (by omega), W_id (x := (r.p + 1 - 1) * 7 + 3) (by omega) (by omega)]
    refine Ok.rem (by omega) ?_
    have hq := tmod_rng (a := (r.p + 1 - 1) * 7 + 3) (n := (r.b.length : Int)) (by omega) (by omega)
    refine Ok.idx hq.1 hq.2 fun x2 _ _ => ?_
    refine Ok.quo (by omega) ?_
    have hd : 0 ≤ (r.p + 1 - 1).tdiv (r.b.length : Int) ∧ (r.p + 1 - 1).tdiv (r.b.length : Int) ≤ 1000000000 := by
      rw [Int.tdiv_eq_ediv_of_nonneg (by omega)]
      exact ⟨Int.ediv_nonneg (by omega) (by omega), Int.le_trans (Int.ediv_le_self _ (by omega)) (by omega)⟩
    have e1 := x1.toNat_lt
    have e2 := x2.toNat_lt
    generalize (r.p + 1 - 1).tdiv (r.b.length : Int) = q3 at hd ⊢
    simp (disch := omega) only [W_id]
    refine Ok.rem (by omega) ?_
    generalize hX : (x1.toNat : Int) * 131 + (x2.toNat : Int) * 1117 + (r.p + 1 - 1) * 29 + q3 * 53 = X
    have hX0 : 0 ≤ X := by omega
    have hX1 : X < 4611686018427387904 := by omega
    have hT : 0 ≤ X.tdiv 64 ∧ X.tdiv 64 < 4611686018427387904 := by rw [Int.tdiv_eq_ediv_of_nonneg hX0]; omega
    rw [W_id (x := X.tdiv 64) (by omega) (by omega)]
    have hw := tmod_rng (xor_rng hX0 hX1 hT.1 hT.2) (n := n) (by omega)
    exact Ok.pure (hk _ _ hw.1 (.inl hw.2) rfl)⟩
instance l16Rd_of_tot (r : spec_l16Rd) (l : List Str) : Tot (M.spec_l16Rd_of r l) (0 < l.length ∧ 0 ≤ r.p ∧ r.p ≤ 1000000000) (fun φ => ∀ y s, y ∈ l → s.p = r.p + 1 → φ (y, s)) := ⟨by
  rintro ⟨h0, h1, h2⟩ φ hk
  unfold M.spec_l16Rd_of
  exact Ok.go⟩
instance l16Rd_num_tot (r : spec_l16Rd) (l : List Int) : Tot (M.spec_l16Rd_num r l) (0 < l.length ∧ 0 ≤ r.p ∧ r.p ≤ 1000000000 ∧ (∀ x ∈ l, I64 x)) (fun φ => ∀ y s, y ∈ l → I64 y → s.p = r.p + 1 → φ (y, s)) := ⟨by
  rintro ⟨h0, h1, h2, h3⟩ φ hk
  unfold M.spec_l16Rd_num
  exact Ok.go⟩
end Go.LN
