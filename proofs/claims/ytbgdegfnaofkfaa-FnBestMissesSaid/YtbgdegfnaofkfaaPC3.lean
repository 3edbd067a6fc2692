/- The laws on caches answer true. -/
import Derived.Test.YtbgdegfnaofkfaaPC2
namespace Go.LN
set_option linter.unusedVariables false
set_option linter.unusedSimpArgs false
open Pb
theorem law_BestMisses (code : List UInt8) : Ok (M.laws_FnBestMisses code) (fun b => b = true) := by
  unfold M.laws_FnBestMisses
  refine Ok.ite_dec (fun _ => Ok.pure rfl) fun _ => ?_
  refine Ok.call (DrawBestMisses_tot code) trivial fun t size h1 h2 h3 => ?_
  refine Ok.bind (ibest_ok t size) fun r hr => ?_
  have hsp : ∀ {β : Type} {f : Int → Option β} {ψ : β → Prop}, Ok (f r) ψ → Ok (M.spec_BestMisses t size >>= f) ψ := fun h => Ok.bind (sbest_ok t size) fun r' hr' => by rw [← bst_eq hr hr']; exact h
  refine Ok.bind (φ := fun b => b = decide (r < 0)) (hsp (Ok.ite_bne (fun e => absurd rfl e) fun _ => Ok.pure rfl)) ?_
  rintro _ rfl
  refine Ok.ite (fun _ => hsp (Ok.pure (by simp))) fun h0 => ?_
  have h0 : ¬ r < 0 := by simpa using h0
  rcases hr with ⟨⟨g1, g2, g3⟩, n, g4, g5⟩ | ⟨_, g⟩
  · rw [W_id (x := size + 1) (by omega) (by omega)]
    refine Ok.bind (ibest_ok t (size + 1)) fun r2 hr2 => ?_
    have h5 := best_cells g4
    have h6 := best_le_lru g4
    have hl := lru_ok t g1 size.toNat (by omega) (fun o => o = (lru size.toNat [] t : Int)) rfl
    rw [show ((size.toNat : Nat) : Int) = size by omega] at hl
    refine Ok.bind (φ := fun b => b = true) (Ok.bind hl ?_) ?_
    · rintro _ rfl
      refine Ok.ite_dec (fun _ => Ok.bind (distinct_ok t g1 (fun o => o = (cells t : Int)) rfl) ?_) fun h => absurd (by omega) h
      rintro _ rfl
      refine Ok.ite_dec (fun _ => Ok.ite_beq (fun _ => Ok.pure rfl) fun hne => Ok.pure (decide_eq_true ?_)) fun h => absurd (by omega) h
      rcases hr2 with ⟨_, m, g6, g7⟩ | ⟨g6, _⟩
      · rw [show (size + 1).toNat = size.toNat + 1 by omega] at g6
        have := best_mono g4 g6
        omega
      · exact absurd ⟨g1, by omega, by omega⟩ g6
    rintro _ rfl
    exact Ok.pure rfl
  · omega
end Go.LN
