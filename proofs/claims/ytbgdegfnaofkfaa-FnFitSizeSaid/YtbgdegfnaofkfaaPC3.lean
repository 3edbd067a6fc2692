/- The laws on caches answer true. -/
import Derived.Test.YtbgdegfnaofkfaaPC2
namespace Go.LN
set_option linter.unusedVariables false
set_option linter.unusedSimpArgs false
open Pb
theorem law_FitSize (code : List UInt8) : Ok (M.laws_FnFitSize code) (fun b => b = true) := by
  unfold M.laws_FnFitSize
  refine Ok.ite_dec (fun _ => Ok.pure rfl) fun _ => ?_
  refine Ok.call (DrawFitSize_tot code) trivial fun t h1 => ?_
  refine Ok.bind (ifit_ok t (by omega) (fun o => o = fit 0 (SDv t)) rfl) ?_
  rintro _ rfl
  have hsp : ∀ {β : Type} {f : Int → Option β} {ψ : β → Prop}, Ok (f (fit 0 (SDv t))) ψ → Ok (M.spec_FitSize t >>= f) ψ := fun h => Ok.bind (sfit_ok t (by omega) (fun o => o = fit 0 (SDv t)) rfl) fun r' hr' => by rw [hr']; exact h
  refine Ok.bind (φ := fun b => b = false → t.length ≤ 600 ∧ fit 0 (SDv t) ≤ 40) (hsp (Ok.ite_bne (fun e => absurd rfl e) fun _ => Ok.ite_dec (fun _ => Ok.pure fun h => by cases h) fun g => Ok.pure fun h => ?_)) ?_
  · have := of_decide_eq_false h
    omega
  intro b hb
  refine Ok.ite (fun _ => hsp (Ok.pure (by simp))) fun h0 => ?_
  obtain ⟨g1, g2⟩ := hb (by simpa using h0)
  have hsd : SDv t = sds [] t := if_pos g1
  rw [hsd] at g2 ⊢
  obtain ⟨f1, f2⟩ := fit_ge (sds [] t) 0
  have f3 := fit_mem (sds [] t) 0
  generalize fit 0 (sds [] t) = n at *
  have hdc : n ≤ (cells t : Int) := by
    rcases f3 with h | ⟨d, hd, h⟩
    · omega
    · have := (dist_lt hd).2
      simp at this
      omega
  have hc : lru n.toNat [] t = cells t := lru_cells fun d hd => by have := f2 d hd; omega
  refine Ok.bind (distinct_ok t g1 (fun o => o = (cells t : Int)) rfl) ?_
  rintro _ rfl
  refine Ok.bind (φ := fun b => b = true) ?_ ?_
  · have hl := lru_ok t g1 n.toNat (by omega) (fun o => o = (cells t : Int)) (by rw [hc])
    rw [show ((n.toNat : Nat) : Int) = n by omega] at hl
    refine Ok.bind hl ?_
    rintro _ rfl
    refine Ok.ite_beq (fun _ => Ok.ite_beq (fun _ => Ok.pure (decide_eq_true hdc)) fun hn => ?_) fun e => absurd rfl e
    rw [W_id (x := n - 1) (by omega) (by omega)]
    have hl2 := lru_ok t g1 (n - 1).toNat (by omega) (fun o => o = (lru (n - 1).toNat [] t : Int)) rfl
    rw [show (((n - 1).toNat : Nat) : Int) = n - 1 by omega] at hl2
    refine Ok.bind hl2 ?_
    rintro _ rfl
    have : cells t < lru (n - 1).toNat [] t := by
      refine lru_more ?_
      rcases f3 with h | ⟨d, hd, h⟩
      · omega
      · rwa [show (((n - 1).toNat : Nat) : Int) = d by omega]
    exact Ok.ite_dec (fun _ => Ok.pure (decide_eq_true hdc)) fun h => absurd (by omega) h
  rintro _ rfl
  exact Ok.pure rfl
end Go.LN
