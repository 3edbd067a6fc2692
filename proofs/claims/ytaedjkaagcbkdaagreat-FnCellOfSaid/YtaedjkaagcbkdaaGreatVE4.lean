/- Values: the law of distinct cells. -/
import Derived.Test.YtaedjkaagcbkdaaGreatXCellOf
import Derived.Test.YtaedjkaagcbkdaaGreatVE3
namespace Go.LN
set_option linter.unusedVariables false
set_option linter.unusedSimpArgs false
theorem SC.bl {a : zK} (h : SC a) : BL a.Subs := ⟨by have := h.2.1; omega, fun s hs => by have := (h.2.2 s hs).1; unfold BA; omega⟩
theorem drawCell (code : List UInt8) : Ok (M.spec_DrawCellOf code) (fun y => BG y.1 ∧ BL y.2.1.Subs ∧ y.2.2.length = 2) := by
  unfold M.spec_DrawCellOf
  refine Ok.call (zHm code) trivial fun s hs => Ok.call (zIJ s) ⟨by omega, by omega⟩ fun a t g1 g2 g3 => ?_
  refine Ok.bind (mut4 t a g1.dp (by omega) (by omega)) fun p hp => ?_
  obtain ⟨P, r⟩ := p
  obtain ⟨hp1, hp2, hp3⟩ := hp
  dsimp only at hp2 hp3
  refine Ok.call (zD1 r 2) ⟨hp2, by omega, by decide, by decide⟩ fun b s2 k1 k2 k3 => Ok.call (mG s2 12) ⟨by omega, by omega⟩ fun y u c1 c2 c3 => ?_
  refine Ok.bind (φ := fun z : Str × zO => 0 ≤ z.2.p ∧ z.2.p ≤ 900000000) (Ok.ite_beq (fun _ => Ok.call (fL u _) ⟨by decide, by omega, by omega⟩ fun z t _ k3 => Ok.pure ⟨by dsimp only; omega, by dsimp only; omega⟩) fun _ => Ok.pure ⟨by dsimp only; omega, by dsimp only; omega⟩) fun z hz => ?_
  obtain ⟨nm, v⟩ := z
  obtain ⟨hz1, hz2⟩ := hz
  dsimp only at hz1 hz2
  exact Ok.call (vR v _) ⟨by decide, hz1, by omega, by decide⟩ fun z t _ _ e3 => Ok.call (vR t _) ⟨by decide, by omega, by omega, by decide⟩ fun z2 t2 _ _ _ => Ok.pure ⟨hp1.1, k1.bl, rfl⟩
def addF (a : zA) : zA := ⟨a.Coefs, W (a.Const + 1)⟩
theorem sum_l1 (C : List Int) (h4 : C.length = 4) (hc : ∀ c ∈ C, -9 ≤ c ∧ c ≤ 9) : ∀ (j k : Nat), k + j = 4 → M.impl_sum_l1 1 (c0 1) (k : Int) C = some C := by
  intro j
  induction j with
  | zero =>
    intro k hk
    rw [M.impl_sum_l1]
    have : ¬ ((k : Int) < ((c0 1).Coefs.length : Int)) := by show ¬ ((k : Int) < 4); omega
    simp only [this, decide_false, Bool.false_eq_true, if_false, Option.pure_def, id]
  | succ j ih =>
    intro k hk
    rw [M.impl_sum_l1]
    have hkc : k < (c0 1).Coefs.length := by show k < 4; omega
    have hlt : ((k : Int) < ((c0 1).Coefs.length : Int)) := by omega
    have hC : k < C.length := by omega
    have hz : (c0 1).Coefs[k] = 0 := by
      have : k = 0 ∨ k = 1 ∨ k = 2 ∨ k = 3 := by omega
      rcases this with rfl | rfl | rfl | rfl <;> rfl
    have hb := hc _ (List.getElem_mem hC)
    have hW : W (C[k] + W (1 * 0)) = C[k] := by
      rw [show W (1 * 0) = 0 from rfl, Int.add_zero, sR (by omega) (by omega)]
    simp only [hlt, decide_true, if_true, xH hkc, xH hC, Option.bind_eq_bind, Option.bind_some, Option.pure_def, hz, hW, Int.toNat_natCast, List.set_getElem_self]
    rw [tV (by omega)]
    exact ih (k + 1) (by omega)
theorem validB_parts {a : zA} (h : validB a = true) : a.Coefs.length = 4 ∧ (-99 ≤ a.Const ∧ a.Const ≤ 99) ∧ ∀ c ∈ a.Coefs, -9 ≤ c ∧ c ≤ 9 := by
  simp only [validB, constB, Bool.and_eq_true, decide_eq_true_eq] at h
  refine ⟨h.1.1, h.1.2, fun c hc => ?_⟩
  have := List.all_eq_true.1 h.2 c hc
  simpa only [coefB, Bool.and_eq_true, decide_eq_true_eq] using this
theorem implAdd1 (a : zA) (h : validB a = true) : M.impl_AddAffine a (c0 1) = some (if validB (addF a) then (addF a, true) else (⟨[], 0⟩, false)) := by
  obtain ⟨h4, hk, hc⟩ := validB_parts h
  have hl := sum_l1 a.Coefs h4 hc 4 0 rfl
  rw [Int.natCast_zero] at hl
  have hs : M.impl_sum a 1 (c0 1) = some (addF a) := by
    unfold M.impl_sum M.impl_ownAffine
    simp only [zD3 a.Coefs (by omega), hl, Option.bind_eq_bind, Option.bind_some, Option.pure_def]
    rfl
  unfold M.impl_AddAffine M.impl_checked
  have hva := implValid (addF a) (show a.Coefs.length ≤ 1048576 by omega)
  simp only [implValid a (by omega), h, implValid (c0 1) (by decide), show validB (c0 1) = true by decide, hs, hva, Option.bind_eq_bind, Option.bind_some, Option.pure_def, Bool.not_true, Bool.false_eq_true, if_false]
  cases validB (addF a) <;> rfl
theorem law_CellOf (code more : List UInt8) : ∃ r, M.laws_FnCellOf code more = some r ∧ r = true := by
  obtain ⟨⟨P, a, p⟩, hy, hb, ha, hp⟩ := drawCell code
  dsimp only at hb ha hp
  unfold M.laws_FnCellOf
  refine ⟨true, ?_, rfl⟩
  have htop : ∀ x : Option Bool, x = some true → (do
      let t21 ← (do
        if (decide ((code.length : Int) > 1048576)) then
         pure true
        else
         pure (decide ((more.length : Int) > 1048576))
          : Option Bool)
      if t21 then pure true else x : Option Bool) = some true := by
    intro x hx
    rw [hx]
    by_cases h1 : (code.length : Int) > 1048576 <;> by_cases h2 : (more.length : Int) > 1048576 <;> simp [h1, h2]
  refine htop _ ?_
  have hge := cellO_ge P a p
  simp only [hy, implCellOf P hb a ha p (by omega), specCellOf P hb a ha p (by omega), Option.pure_def, Option.bind_eq_bind, Option.bind_some, bne_self_eq_false, beq_self_eq_true, Bool.false_eq_true, if_false, if_true]
  by_cases hc : cellO P a p < 0
  · have : cellO P a p ≥ -1 := hge
    simp [hc, this]
  · have hok : (validP P && (accB a 4 && ptB p)) = true := by
      cases h : (validP P && (accB a 4 && ptB p)) with
      | true => rfl
      | false =>
        unfold cellO at hc
        rw [h] at hc
        exact absurd (show (-1 : Int) < 0 by decide) hc
    have hcF : cellO P a p = cellF a p P.Arrays 0 := by unfold cellO; rw [if_pos hok]
    rw [Bool.and_eq_true, Bool.and_eq_true] at hok
    obtain ⟨hv, hA, hP⟩ := hok
    have hA' := hA
    simp only [accB, Bool.and_eq_true, decide_eq_true_eq] at hA'
    obtain ⟨⟨_, l1, l2⟩, hall⟩ := hA'
    obtain ⟨k, hk, hrem⟩ : ∃ k : Nat, k < a.Subs.length ∧ rem (more.length : Int) (a.Subs.length : Int) = some (k : Int) := by
      refine ⟨more.length % a.Subs.length, Nat.mod_lt _ (by omega), ?_⟩
      unfold rem
      rw [if_neg (by omega), Int.tmod_eq_emod_of_nonneg (by omega)]
      congr 1
    have hva : validB a.Subs[k] = true := by
      have := List.all_eq_true.1 hall _ (List.getElem_mem hk)
      simp only [okA, Bool.and_eq_true] at this
      exact this.1
    have hadd := implAdd1 a.Subs[k] hva
    unfold c0 at hadd
    have happ : app 32 ([] : List zA) a.Subs = some a.Subs := by rw [oN (by simp; omega)]; rfl
    have hlt := (cell_lt hv a p).2
    rw [← hcF] at hlt
    simp only [hc, decide_false, Bool.false_eq_true, if_false, happ, Option.bind_some, hrem, xH hk, hadd, Int.toNat_natCast, implCount P hb, hv, if_true, hlt, decide_true]
    cases hn : validB (addF a.Subs[k]) with
    | false =>
      have hq := implCellOf P hb ⟨a.Array, a.Subs.set k ⟨[], 0⟩⟩ ⟨by rw [List.length_set]; exact ha.1, zCj ha.2 (show BA ⟨[], 0⟩ by unfold BA; simp) _⟩ p (by omega)
      simp [hq]
    | true =>
      have hba0 : BA a.Subs[k] := ha.2 _ (List.getElem_mem hk)
      have hba : BA (addF a.Subs[k]) := hba0
      have hq := implCellOf P hb ⟨a.Array, a.Subs.set k (addF a.Subs[k])⟩ ⟨by rw [List.length_set]; exact ha.1, zCj ha.2 hba _⟩ p (by omega)
      simp only [if_true, hq, Option.bind_some, Bool.not_true, Bool.false_eq_true, if_false]
      have hev : evA (addF a.Subs[k]) p = W (evA a.Subs[k] p + 1) := evC_succ _ _ _
      obtain ⟨g1, g2, _⟩ := valid_good hv
      have hne := cell_ne (a := a) (b := ⟨a.Array, a.Subs.set k (addF a.Subs[k])⟩) (p := p) hk rfl hev rfl rfl P.Arrays 0 g2 (Int.le_refl _) (by omega) (by rw [← hcF]; omega)
      rw [← hcF] at hne
      have hd : cellO P ⟨a.Array, a.Subs.set k (addF a.Subs[k])⟩ p = -1 ∨ cellO P ⟨a.Array, a.Subs.set k (addF a.Subs[k])⟩ p ≠ cellO P a p := by
        conv => lhs; unfold cellO
        conv => rhs; lhs; unfold cellO
        split
        · exact hne
        · exact .inl rfl
      by_cases hm : cellO P ⟨a.Array, a.Subs.set k (addF a.Subs[k])⟩ p = -1
      · simp [hm]
      · have := hd.resolve_left hm
        simp [hm, this]
end Go.LN
