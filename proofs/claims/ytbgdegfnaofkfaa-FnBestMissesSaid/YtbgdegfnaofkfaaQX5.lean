/- Models that are total, eighth part. Printed by tg8.py. -/
import Derived.Test.YtbgdegfnaofkfaaQX4
namespace Go.LN
set_option linter.unusedVariables false
set_option linter.unusedSimpArgs false
theorem all_mono {α : Type} {P Q : α → Prop} {l : List α} (h : ∀ x ∈ l, P x) (hm : ∀ x, P x → Q x) : ∀ x ∈ l, Q x := fun x hx => hm x (h x hx)
theorem SN.mono {b : Nat} {l : List impl_Loop} (h : SN b l) : SN (b + 1) l := ⟨by have := h.1; omega, h.2⟩
theorem SP.mono {b : Nat} {p : impl_Part} (h : SP b p) : SP (b + 1) p := ⟨h.1.mono, by have := h.2.1; omega, h.2.2⟩
theorem SRs.mono {b : Nat} {l : List impl_Array} (h : SRs b l) : SRs (b + 1) l := ⟨by have := h.1; omega, h.2⟩
theorem SG.mono {b : Nat} {p : impl_Program} (h : SG b p) : SG (b + 1) p := ⟨h.1.mono, by have := h.2.1; omega, all_mono h.2.2 fun _ => SP.mono⟩
theorem SG.up {b : Nat} : ∀ {c : Nat} {p : impl_Program}, SG b p → SG (b + c) p
  | 0, _, h => h
  | c + 1, _, h => (SG.up (c := c) h).mono
theorem all_set {α : Type} {P : α → Prop} {l : List α} {x : α} (h : ∀ y ∈ l, P y) (hx : P x) (k : Nat) : ∀ y ∈ l.set k x, P y := by
  intro y hy
  rcases List.mem_or_eq_of_mem_set hy with hy | hy
  · exact h y hy
  · exact hy ▸ hx
theorem len_app {α : Type} {l : List α} {a : α} {b : Nat} (h : l.length ≤ b) : (l ++ [a]).length ≤ b + 1 := by simp; omega
theorem SG.addA {b : Nat} {p : impl_Program} {a : impl_Array} (h : SG b p) (ha : SR a) : SG (b + 1) (impl_Program.mk (p.Arrays ++ [a]) p.Parts) :=
  ⟨⟨len_app h.1.1, all_app h.1.2 ha⟩, Nat.le_succ_of_le h.2.1, all_mono h.2.2 fun _ => SP.mono⟩
theorem SG.addP {b : Nat} {p : impl_Program} {a : impl_Part} (h : SG b p) (ha : SP (b + 1) a) : SG (b + 1) (impl_Program.mk p.Arrays (p.Parts ++ [a])) :=
  ⟨h.1.mono, len_app h.2.1, all_app (all_mono h.2.2 fun _ => SP.mono) ha⟩
theorem SG.setP {b : Nat} {p : impl_Program} {a : impl_Part} (h : SG b p) (ha : SP (b + 1) a) (k : Nat) : SG (b + 1) (impl_Program.mk p.Arrays (p.Parts.set k a)) :=
  ⟨h.1.mono, Nat.le_succ_of_le (Nat.le_trans (Nat.le_of_eq List.length_set) h.2.1), all_set (all_mono h.2.2 fun _ => SP.mono) ha k⟩
theorem SP.addN {b : Nat} {q : impl_Part} {x : impl_Loop} (h : SP b q) (hx : SL1 x) : SP (b + 1) (impl_Part.mk (q.Nest ++ [x]) q.Body) :=
  ⟨⟨len_app h.1.1, all_app h.1.2 hx⟩, Nat.le_succ_of_le h.2.1, h.2.2⟩
theorem SP.addB {b : Nat} {q : impl_Part} {x : impl_Stmt} (h : SP b q) (hx : SS x) : SP (b + 1) (impl_Part.mk q.Nest (q.Body ++ [x])) :=
  ⟨h.1.mono, len_app h.2.1, all_app h.2.2 hx⟩
theorem SP.nil {b : Nat} : SP b (impl_Part.mk [] []) := ⟨⟨Nat.zero_le _, fun _ h => absurd h List.not_mem_nil⟩, Nat.zero_le _, fun _ h => absurd h List.not_mem_nil⟩
theorem l4Line_tot (b : Nat) (p : impl_Program) (s : Str) : Tot (M.spec_l4Line p s) ((SG b p ∧ b ≤ 900) ∧ s.l.length ≤ 1000000) (fun φ => ∀ r, SG (b + 1) r → φ r) := ⟨by
  rintro ⟨⟨h0, h1⟩, h2⟩ φ hk
  obtain ⟨⟨h3, h4⟩, h5, h6⟩ := id h0
  unfold M.spec_l4Line
  refine Ok.call (l16Words_tot s) h2 fun y g1 g2 => ?_
  have g3 := up g2 h2
  refine Ok.bind (φ := fun _ => True) Ok.go fun t _ => Ok.ite (fun _ => ?_) fun _ => Ok.ite_beq (fun _ => ?_) fun _ => ?_
  · exact Ok.call (l4Array_tot y) ⟨by omega, g3⟩ fun a ha => Ok.app S (Ok.pure (hk _ (h0.addA ha)))
  · exact Ok.app S (Ok.pure (hk _ (h0.addP SP.nil)))
  rw [W_id (x := (p.Parts.length : Int) - 1) (by omega) (by omega)]
  refine Ok.bind (φ := fun b => b = true → 1 ≤ p.Parts.length) Ok.go fun t ht => Ok.ite (fun hz => ?_) fun _ => Ok.ite_dec (fun hz => ?_) fun _ => Ok.pure (hk _ h0.mono)
  · have hz := ht hz
    refine Ok.idx (by omega) (by omega) fun q hq _ => ?_
    have hq := h6 q hq
    have q1 := hq.1.1
    exact Ok.call (l2Line_tot s) h2 fun x hx => Ok.app S (Ok.pure (hk _ (h0.setP (hq.addN hx) _)))
  · refine Ok.idx (by omega) (by omega) fun q hq _ => ?_
    have hq := h6 q hq
    have q1 := hq.2.1
    exact Ok.call (ParseStmt_tot s) h2 fun x c hx => Ok.app S (Ok.pure (hk _ (h0.setP (hq.addB hx) _)))⟩
theorem ParseProgram_l1_aux (y : List Str) (h0 : y.length ≤ 100) (h1 : ∀ x ∈ y, x.l.length ≤ 1000000) : ∀ (k : Nat) (b : Nat) (p : impl_Program) (i : Int), ((y.length : Int) - i < (k : Int) ∧ 0 < (k : Int) ∧ 0 ≤ i ∧ (b : Int) ≤ i ∧ i ≤ 100) → SG b p → ∀ φ : impl_Program → Prop, (∀ r, SG 1000 r → φ r) → Ok (M.spec_ParseProgram_l1 y p i) φ := by
  intro k
  induction k with
  | zero => intro b p i h; exact absurd h.2.1 (by omega)
  | succ k ih =>
    rintro b p i ⟨v0, v1, v2, v3, v5⟩ v4 φ hk
    unfold M.spec_ParseProgram_l1
    rw [W_id (by omega) (by omega)]
    refine Ok.ite_dec (fun h => Ok.idx v2 (by omega) fun x hx _ => ?_) fun h => ?_
    · refine Ok.call (l4Line_tot b p x) ⟨⟨v4, by omega⟩, h1 x hx⟩ fun r hr => ?_
      exact ih (b + 1) r _ ⟨by omega, by omega, by omega, by omega, by omega⟩ hr φ hk
    · have := SG.up (c := 1000 - b) v4
      rw [show b + (1000 - b) = 1000 by omega] at this
      exact Ok.pure (hk _ this)
theorem SG.nil : SG 1000 (impl_Program.mk [] []) := ⟨⟨by simp, by simp⟩, by simp, by simp⟩
instance ParseProgram_tot (s : Str) : Tot (M.spec_ParseProgram s) (s.l.length ≤ 1000000) (fun φ => ∀ p b, SG 1000 p → φ (p, b)) := ⟨by
  rintro h0 φ hk
  unfold M.spec_ParseProgram
  refine Ok.call (l16Cut_tot s _) h0 fun y g1 g2 => Ok.ite_dec (fun _ => Ok.pure (hk _ _ SG.nil)) fun hy => ?_
  refine Ok.bind (φ := fun p => SG 1000 p) (ParseProgram_l1_aux y (by omega) (up g2 h0) (y.length + 2) 0 _ 1 ⟨by omega, by omega, by omega, by omega, by omega⟩ ⟨⟨by simp, by simp⟩, by simp, by simp⟩ _ fun _ h => h) fun p hp => ?_
  refine Ok.bind (φ := fun _ => True) Ok.go fun t _ => Ok.ite (fun _ => Ok.pure (hk _ _ SG.nil)) fun _ => Ok.pure (hk _ _ hp)⟩
instance l1Var_tot (v : Int) : Tot (M.spec_l1Var v) (0 ≤ v ∧ v < 4) (fun φ => ∀ r, r.Coefs.length = 4 → r.Const = 0 → φ r) := ⟨by
  rintro ⟨h0, h1⟩ φ hk
  unfold M.spec_l1Var
  refine Ok.call l1Zero_tot trivial (Ok.idx h0 (by simp; omega) fun x _ _ => Ok.bind_pure (Ok.pure (hk _ (by simp) rfl)))⟩
theorem l1Combine_l1_aux (a : impl_Affine) (x : Int) (b : impl_Affine) (y : Int) (h0 : a.Coefs.length = 4) (h1 : b.Coefs.length = 4) : ∀ (k : Nat) (i : Int) (o : List Int), Tot (M.spec_l1Combine_l1 a x b y i o) (4 - i < (k : Int) ∧ 0 < (k : Int) ∧ 0 ≤ i ∧ i ≤ 4 ∧ (o.length : Int) = i) (fun φ => ∀ r, r.length = 4 → φ r) := by
  intro k
  induction k with
  | zero => intro i o; exact ⟨fun h => absurd h.2.1 (by omega)⟩
  | succ k ih =>
    intro i o; refine ⟨?_⟩; rintro ⟨v0, v1, v2, v3, v4⟩ φ hk; unfold M.spec_l1Combine_l1
    exact Ok.go
instance l1Combine_l1_tot (a : impl_Affine) (x : Int) (b : impl_Affine) (y : Int) (i : Int) (o : List Int) : Tot (M.spec_l1Combine_l1 a x b y i o) (a.Coefs.length = 4 ∧ b.Coefs.length = 4 ∧ 0 ≤ i ∧ i ≤ 4 ∧ (o.length : Int) = i) (fun φ => ∀ r, r.length = 4 → φ r) := ⟨by
  rintro ⟨h0, h1, v0, v1, v2⟩ φ hk
  exact (l1Combine_l1_aux a x b y h0 h1 ((4 - i).toNat + 1) i o).ok ⟨by omega, by omega, v0, v1, v2⟩ φ hk⟩
instance l1Combine_tot (a : impl_Affine) (x : Int) (b : impl_Affine) (y : Int) : Tot (M.spec_l1Combine a x b y) (a.Coefs.length = 4 ∧ b.Coefs.length = 4) (fun φ => ∀ r, r.Coefs.length = 4 → I64 r.Const → φ r) := ⟨by
  rintro ⟨h0, h1⟩ φ hk
  unfold M.spec_l1Combine
  exact Ok.go⟩
end Go.LN
