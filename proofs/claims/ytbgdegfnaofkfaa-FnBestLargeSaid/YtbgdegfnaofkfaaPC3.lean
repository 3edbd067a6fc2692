/- The laws on caches answer true. -/
import Derived.Test.YtbgdegfnaofkfaaPC2
namespace Go.LN
set_option linter.unusedVariables false
set_option linter.unusedSimpArgs false
open Pb
theorem law_BestLarge (code : List UInt8) : Ok (M.laws_FnBestLarge code) (fun b => b = true) := by
  unfold M.laws_FnBestLarge
  refine Ok.ite_dec (fun _ => Ok.pure rfl) fun _ => ?_
  refine Ok.call (DrawBestMisses_tot code) trivial fun t size h1 h2 h3 => ?_
  refine Ok.bind (ibest_ok t size) fun r hr => ?_
  have hsp : ∀ {β : Type} {f : Int → Option β} {ψ : β → Prop}, Ok (f r) ψ → Ok (M.spec_BestMisses t size >>= f) ψ := fun h => Ok.bind (sbest_ok t size) fun r' hr' => by rw [← bst_eq hr hr']; exact h
  refine Ok.bind (φ := fun b => b = decide (r < 0)) (hsp (Ok.ite_bne (fun e => absurd rfl e) fun _ => Ok.pure rfl)) ?_
  rintro _ rfl
  refine Ok.ite (fun _ => hsp (Ok.pure (by simp))) fun h0 => ?_
  have h0 : ¬ r < 0 := by simpa using h0
  rcases hr with ⟨⟨g1, g2, g3⟩, n, g4, g5⟩ | ⟨_, g⟩
  · refine Ok.bind (distinct_ok t g1 (fun o => o = (cells t : Int)) rfl) ?_
    rintro _ rfl
    refine Ok.bind (φ := fun b => b = true) (Ok.ite_dec (fun _ => Ok.pure rfl) fun hc => ?_) ?_
    · have hf : cells t ≤ size.toNat := by omega
      have h5 := best_cells g4
      have h6 := best_le_lru g4
      have h7 := lru_fits hf
      have hl := lru_ok t g1 size.toNat (by omega) (fun o => o = (lru size.toNat [] t : Int)) rfl
      rw [show ((size.toNat : Nat) : Int) = size by omega] at hl
      refine Ok.ite_beq (fun _ => Ok.bind hl ?_) fun e => absurd (by omega) e
      rintro _ rfl
      rw [h7]
      exact Ok.pure (by simp)
    rintro _ rfl
    exact Ok.pure rfl
  · omega
end Go.LN
