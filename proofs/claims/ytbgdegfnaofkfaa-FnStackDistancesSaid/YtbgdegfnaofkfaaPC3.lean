/- The laws on caches answer true. -/
import Derived.Test.YtbgdegfnaofkfaaPC2
namespace Go.LN
set_option linter.unusedVariables false
set_option linter.unusedSimpArgs false
open Pb
theorem slawL1 (y : List Int) (hy : y.length ≤ 1000) (b : Int) (hb : ∀ d ∈ y, -1 ≤ d ∧ d < b) : ∀ (s : List Int) (i m : Nat), y.drop i = s → m ≤ i → ∀ φ : Out Int Bool → Prop, φ (.done ((m + s.countP (fun d => decide (d < 0)) : Nat) : Int)) → Ok (M.laws_FnStackDistances_l1 y b m i) φ
  | [], i, m, h, hm, φ, hk => by
    unfold M.laws_FnStackDistances_l1
    exact Ok.ite_dec (fun h' => absurd h' (drop_nil h)) fun _ => Ok.pure hk
  | d :: s, i, m, h, hm, φ, hk => by
    obtain ⟨h1, h2, h3, h4⟩ := drop_cons h
    have hd := hb d h4
    unfold M.laws_FnStackDistances_l1
    refine Ok.ite_dec (fun _ => Ok.idx_known h2 (by omega) ?_) fun h' => absurd h1 h'
    rw [W_succ (k := i) (by omega), W_succ (k := m) (by omega)]
    refine Ok.bind (φ := fun o => o = ((m + if d < 0 then 1 else 0 : Nat) : Int)) (Ok.ite_dec (fun h => Ok.pure (by rw [if_pos h])) fun h => Ok.pure (by rw [if_neg h]; rfl)) ?_
    rintro _ rfl
    refine Ok.bind (φ := fun o => o = false) (Ok.idx_known h2 (by omega) (Ok.ite_dec (fun h => absurd h (by omega)) fun _ => Ok.idx_known h2 (by omega) (Ok.pure (decide_eq_false (by omega))))) ?_
    rintro _ rfl
    refine Ok.ite_ff (slawL1 y hy b hb s (i + 1) _ h3 (by split <;> omega) φ ?_)
    simp only [List.countP_cons] at hk
    by_cases hd0 : d < 0
    · simp only [hd0, decide_true, if_true] at hk ⊢
      rwa [show m + 1 + s.countP (fun d => decide (d < 0)) = m + (s.countP (fun d => decide (d < 0)) + 1) by omega]
    · simp only [hd0, decide_false, if_false] at hk ⊢
      simpa using hk
theorem slawL2 (more : List UInt8) (y : List Int) (hy : y.length ≤ 1000) (z : Nat) (hz : (more.length : Int).tmod 10 = z) : ∀ (s : List Int) (i m : Nat), y.drop i = s → m ≤ i → ∀ φ : Int → Prop, φ ((m + s.countP (fun d => decide (d < 0 ∨ d ≥ (z : Int))) : Nat) : Int) → Ok (M.laws_FnStackDistances_l2 more y m i) φ
  | [], i, m, h, hm, φ, hk => by
    unfold M.laws_FnStackDistances_l2
    exact Ok.ite_dec (fun h' => absurd h' (drop_nil h)) fun _ => Ok.pure hk
  | d :: s, i, m, h, hm, φ, hk => by
    obtain ⟨h1, h2, h3, h4⟩ := drop_cons h
    unfold M.laws_FnStackDistances_l2
    rw [hz]
    refine Ok.ite_dec (fun _ => ?_) fun h' => absurd h1 h'
    rw [W_succ (k := i) (by omega), W_succ (k := m) (by omega)]
    refine Ok.bind (φ := fun o => o = decide (d < 0 ∨ d ≥ (z : Int))) (Ok.idx_known h2 (by omega) (Ok.ite_dec (fun h => Ok.pure (by rw [decide_eq_true (.inl h)])) fun h => Ok.idx_known h2 (by omega) (Ok.pure (by rw [decide_eq_decide]; omega)))) ?_
    rintro _ rfl
    refine Ok.bind (φ := fun o => o = ((m + if d < 0 ∨ d ≥ (z : Int) then 1 else 0 : Nat) : Int)) (Ok.ite_dec (fun h => Ok.pure (by rw [if_pos h])) fun h => Ok.pure (by rw [if_neg h]; rfl)) ?_
    rintro _ rfl
    refine slawL2 more y hy z hz s (i + 1) _ h3 (by split <;> omega) φ ?_
    simp only [List.countP_cons] at hk
    by_cases hd0 : d < 0 ∨ d ≥ (z : Int)
    · rw [decide_eq_true hd0, if_pos rfl] at hk
      rw [if_pos hd0]
      rwa [show m + 1 + s.countP (fun d => decide (d < 0 ∨ d ≥ (z : Int))) = m + (s.countP (fun d => decide (d < 0 ∨ d ≥ (z : Int))) + 1) by omega]
    · rw [decide_eq_false hd0, if_neg (by simp)] at hk
      rw [if_neg hd0]
      simpa using hk
theorem law_StackDistances (code more : List UInt8) : Ok (M.laws_FnStackDistances code more) (fun b => b = true) := by
  unfold M.laws_FnStackDistances
  refine Ok.bind (φ := fun _ => True) Ok.go fun t0 _ => Ok.ite (fun _ => Ok.pure rfl) fun _ => ?_
  refine Ok.call (DrawStackDistances_tot code) trivial fun t h1 => ?_
  refine Ok.bind (impl_sd t (by omega) (fun o => o = SDv t) rfl) ?_
  rintro _ rfl
  have hlen := sdv_len t
  refine Ok.bind (φ := fun b => b = decide ((t.length : Int) > 600)) (Ok.bind (spec_sd t (by omega) (fun o => o = SDv t) rfl) ?_) ?_
  · rintro _ rfl
    refine Ok.bind (lnInts_ok _ (by omega) (fun b => b = true) rfl) ?_
    rintro _ rfl
    exact Ok.ite_ff (Ok.pure rfl)
  rintro _ rfl
  refine Ok.ite_dec (fun _ => Ok.bind (spec_sd t (by omega) (fun o => o = SDv t) rfl) ?_) fun g => ?_
  · rintro _ rfl
    refine Ok.bind (lnInts_ok _ (by omega) (fun b => b = true) rfl) ?_
    rintro _ rfl
    exact Ok.pure rfl
  have g1 : t.length ≤ 600 := by omega
  have hsd : SDv t = sds [] t := if_pos g1
  rw [hsd] at hlen ⊢
  refine Ok.bind (distinct_ok t g1 (fun o => o = (cells t : Int)) rfl) ?_
  rintro _ rfl
  have hb : ∀ d ∈ sds [] t, -1 ≤ d ∧ d < (cells t : Int) := fun d hd => by
    have := dist_lt hd
    simpa using this
  refine Ok.bind (slawL1 (sds [] t) (by omega) _ hb _ 0 0 rfl (by omega) (fun o => o = .done (cells t : Int)) (by rw [Nat.zero_add, List.drop_zero, cold_count, ← cells_dcs])) ?_
  rintro _ rfl
  have hz : ∃ z : Nat, (more.length : Int).tmod 10 = z ∧ z ≤ 40 := by
    have := tmod_rng (a := (more.length : Int)) (n := 10) (by omega) (by omega)
    exact ⟨((more.length : Int).tmod 10).toNat, by omega, by omega⟩
  obtain ⟨z, hz, hz2⟩ := hz
  refine Ok.bind (slawL2 more (sds [] t) (by omega) z hz _ 0 0 rfl (by omega) (fun o => o = (lru z [] t : Int)) (by rw [Nat.zero_add, List.drop_zero, lru_count])) ?_
  rintro _ rfl
  rw [hz]
  refine Ok.bind (φ := fun b => b = true) (Ok.ite_beq (fun _ => Ok.ite_beq (fun _ => Ok.bind (lru_ok t g1 z hz2 (fun o => o = (lru z [] t : Int)) rfl) ?_) fun e => absurd rfl e) fun e => absurd (by rw [sds_len]) e) ?_
  · rintro _ rfl
    exact Ok.pure (by simp)
  rintro _ rfl
  exact Ok.pure rfl
end Go.LN
