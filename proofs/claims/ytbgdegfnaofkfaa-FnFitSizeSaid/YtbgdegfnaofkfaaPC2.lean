/- What the functions on caches compute, second part, and that the laws answer true. -/
import Derived.Test.YtbgdegfnaofkfaaPC
namespace Go.LN
set_option linter.unusedVariables false
set_option linter.unusedSimpArgs false
open Pb
theorem sd_rng {t : List Int} {d : Int} (ht : t.length ≤ 1000) (h : d ∈ SDv t) : -1 ≤ d ∧ d < 1000 := by
  unfold SDv at h
  split at h
  · have h1 := dist_lt h
    simp at h1
    have h2 : cells t ≤ t.length := nodup_sub (adds_nodup List.nodup_nil) fun y hy => (mem_adds.1 hy).resolve_left List.not_mem_nil
    omega
  · exact absurd h List.not_mem_nil
theorem sdv_len (t : List Int) : (SDv t).length ≤ t.length := by
  unfold SDv
  split
  · rw [sds_len]; exact Nat.le_refl _
  · simp
theorem ifitL (y : List Int) (hy : y.length ≤ 1000) (hb : ∀ d ∈ y, -1 ≤ d ∧ d < 1000) : ∀ (s : List Int) (i : Nat) (n : Int), y.drop i = s → ∀ φ : Int → Prop, φ (fit n s) → Ok (M.impl_FitSize_l1 y n i) φ
  | [], i, n, h, φ, hk => by
    unfold M.impl_FitSize_l1
    exact Ok.ite_dec (fun h' => absurd h' (drop_nil h)) fun _ => Ok.pure hk
  | d :: s, i, n, h, φ, hk => by
    obtain ⟨h1, h2, h3, h4⟩ := drop_cons h
    have hd := hb d h4
    unfold M.impl_FitSize_l1
    refine Ok.ite_dec (fun _ => Ok.idx_known h2 (by omega) ?_) fun h' => absurd h1 h'
    rw [W_succ (k := i) (by omega), W_id (x := d + 1) (by omega) (by omega)]
    exact ifitL y hy hb s (i + 1) _ h3 φ hk
theorem sfitL (y : List Int) (hy : y.length ≤ 1000) (hb : ∀ d ∈ y, -1 ≤ d ∧ d < 1000) : ∀ (s : List Int) (i : Nat) (n : Int), y.drop i = s → ∀ φ : Int → Prop, φ (fit n s) → Ok (M.spec_FitSize_l1 y n i) φ
  | [], i, n, h, φ, hk => by
    unfold M.spec_FitSize_l1
    exact Ok.ite_dec (fun h' => absurd h' (drop_nil h)) fun _ => Ok.pure hk
  | d :: s, i, n, h, φ, hk => by
    obtain ⟨h1, h2, h3, h4⟩ := drop_cons h
    have hd := hb d h4
    unfold M.spec_FitSize_l1
    refine Ok.ite_dec (fun _ => Ok.idx_known h2 (by omega) ?_) fun h' => absurd h1 h'
    rw [W_succ (k := i) (by omega), W_id (x := d + 1) (by omega) (by omega)]
    refine Ok.bind (φ := fun o => o = if d + 1 > n then d + 1 else n) ?_ ?_
    · refine Ok.ite_dec (fun h' => Ok.idx_known h2 (by omega) (Ok.pure ?_)) fun h' => Ok.pure ?_
      · rw [if_pos h', W_id (by omega) (by omega)]
      · rw [if_neg h']; rfl
    rintro _ rfl
    exact sfitL y hy hb s (i + 1) _ h3 φ hk
theorem ifit_ok (t : List Int) (ht : t.length ≤ 1000) (φ : Int → Prop) (hk : φ (fit 0 (SDv t))) : Ok (M.impl_FitSize t) φ := by
  unfold M.impl_FitSize
  refine Ok.bind (impl_sd t ht (fun o => o = SDv t) rfl) ?_
  rintro _ rfl
  refine Ok.bind (ifitL _ (Nat.le_trans (sdv_len t) ht) (fun d hd => sd_rng ht hd) _ 0 0 rfl (fun o => o = fit 0 (SDv t)) rfl) ?_
  rintro _ rfl
  exact Ok.pure hk
theorem sfit_ok (t : List Int) (ht : t.length ≤ 1000) (φ : Int → Prop) (hk : φ (fit 0 (SDv t))) : Ok (M.spec_FitSize t) φ := by
  unfold M.spec_FitSize
  refine Ok.bind (spec_sd t ht (fun o => o = SDv t) rfl) ?_
  rintro _ rfl
  refine Ok.bind (sfitL _ (Nat.le_trans (sdv_len t) ht) (fun d hd => sd_rng ht hd) _ 0 0 rfl (fun o => o = fit 0 (SDv t)) rfl) ?_
  rintro _ rfl
  exact Ok.pure hk
/-! ### The cache that drops the cell used latest -/
end Go.LN
