/- Values: memories; the law of memories. -/
import Derived.Test.YtaedjkaagcbkdaaGreatXMemoryValid
import Derived.Test.YtaedjkaagcbkdaaGreatVE1
namespace Go.LN
set_option linter.unusedVariables false
set_option linter.unusedSimpArgs false
def valB (n : Int) : Bool := decide (0 ≤ n) && decide (n ≤ 999)
def memB (P : zZ) (m : List Int) : Bool := validP P && (decide ((m.length : Int) = totL P.Arrays 0) && m.all valB)
theorem implMem (P : zZ) (h : BG P) (m : List Int) (hm : m.length ≤ 1048576) : M.impl_MemoryValid P m = some (memB P m) := by
  unfold M.impl_MemoryValid memB
  have hc := dK (f := M.impl_MemoryValid_1) (p := fun n => !(valB n)) m (fun x _ => by unfold M.impl_MemoryValid_1; rw [pA]; rfl) (by omega)
  rw [implValidP P h, implCells P h.1, hc]
  cases validP P with
  | false => rfl
  | true =>
    by_cases e : (m.length : Int) = totL P.Arrays 0
    · simp [e, List.all_eq_not_any_not]
    · simp [e]
theorem specMem (P : zZ) (h : BG P) (m : List Int) (hm : m.length ≤ 1048576) : M.spec_MemoryValid P m = some (memB P m) := by
  unfold M.spec_MemoryValid memB
  have hl := mH (n := m.length) (f := M.spec_MemoryValid_l1 m) (P := fun i => valB (m.getD i 0)) (fun i hi => by
      rw [M.spec_MemoryValid_l1]
      have h1 : ((i : Int) < (m.length : Int)) := by omega
      have hg : m.getD i 0 = m[i] := by simp [hi]
      simp only [h1, decide_true, if_true, xH hi, Option.bind_eq_bind, Option.bind_some, Option.pure_def, hg, valB]
      by_cases h2 : m[i] < 0
      · have h3 : ¬ (0 ≤ m[i]) := by omega
        simp [h2, h3]
      · have h3 : 0 ≤ m[i] := by omega
        by_cases h4 : m[i] > 999
        · have h5 : ¬ (m[i] ≤ 999) := by omega
          simp [h2, h3, h4, h5]
        · have h5 : m[i] ≤ 999 := by omega
          simp only [h2, h3, h4, h5, decide_true, decide_false, Bool.false_eq_true, if_false, Option.bind_some, Bool.and_self, if_true]
          rw [tV (by omega)]) (by rw [M.spec_MemoryValid_l1]; simp)
  rw [mT m valB 0] at hl
  rw [hl]
  cases hv : m.all valB with
  | false => simp
  | true =>
    simp only [Option.bind_eq_bind, Option.bind_some, if_true, specValidP P h, specTotal P h.1, Bool.and_true]
    cases validP P with
    | false => rfl
    | true =>
      by_cases e : (m.length : Int) = totL P.Arrays 0
      · simp [e]
      · simp [e]
/-! Drawn memories. -/
theorem memory_l1 : ∀ (n : Nat) (out : List Int) (x : zO), 0 ≤ x.p → x.p + (n : Int) ≤ 900000000 → out.length + n ≤ 1000000 → Ok (M.spec_l5Memory_l1 out (n : Int) x) (fun y => y.1.length = out.length + n ∧ 0 ≤ y.2.p ∧ y.2.p ≤ x.p + (n : Int))
  | 0, out, x, h0, h1, ho => by
    rw [M.spec_l5Memory_l1]
    exact ⟨(out, x), rfl, rfl, h0, by dsimp only; omega⟩
  | n + 1, out, x, h0, h1, ho => by
    rw [M.spec_l5Memory_l1]
    refine Ok.ite_dec (fun hc => ?_) fun hc => absurd hc (by omega)
    refine Ok.call (vR x _) ⟨by decide, h0, by omega, by decide⟩ fun y s _ _ g3 => Ok.app (by simp; omega) ?_
    rw [show W (((n + 1 : Nat) : Int) - 1) = (n : Int) by rw [sR (by omega) (by omega)]; omega]
    refine Ok.mono (memory_l1 n _ s (by omega) (by omega) (by rw [List.length_append]; simp; omega)) fun r hr => ⟨by rw [hr.1, List.length_append]; simp; omega, hr.2.1, by have := hr.2.2; omega⟩
theorem drawMem1 (r : zO) (P : zZ) (h : BG P) (hr : RD r) : Ok (M.spec_l5Memory r P) (fun y => y.1.length ≤ 144 ∧ 0 ≤ y.2.p ∧ y.2.p ≤ 800000000) := by
  obtain ⟨h0, h1⟩ := hr
  unfold M.spec_l5Memory
  rw [specCountC P h]
  obtain ⟨n, hn, hn2⟩ : ∃ n : Nat, (if validP P then totL P.Arrays 0 else 0) = (n : Int) ∧ n ≤ 144 := by
    cases hv : validP P with
    | false => exact ⟨0, rfl, by omega⟩
    | true =>
      obtain ⟨t1, t2, t3⟩ := valid_tot hv
      refine ⟨(sumS P.Arrays).toNat, ?_, by omega⟩
      simp only [if_true]
      rw [t1]; omega
  rw [hn]
  refine Ok.bind_some (Ok.bind (memory_l1 n [] r h0 (by omega) (by simp; omega)) fun z hz => ?_)
  obtain ⟨o, s⟩ := z
  obtain ⟨z1, z2, z3⟩ := hz
  exact Ok.pure ⟨by dsimp only at z1 ⊢; simp at z1; omega, z2, by dsimp only at z3 ⊢; omega⟩
theorem bend_ok (r : zO) (m : List Int) (hm : m.length ≤ 144) (h0 : 0 ≤ r.p) (h1 : r.p ≤ 800000000) : Ok (M.spec_l5Bend r m) (fun y => y.1.length ≤ 145) := by
  unfold M.spec_l5Bend
  rw [jW m (by omega)]
  refine Ok.bind_some (Ok.call (mG r _) ⟨h0, by omega⟩ fun y s k1 k2 k3 => ?_)
  refine Ok.bind (φ := fun z : List Int × zO => z.1.length ≤ 145) ?_ fun z hz => by
    obtain ⟨o, t⟩ := z
    exact Ok.pure hz
  refine Ok.ite_beq (fun _ => Ok.app (by simp; omega) (Ok.pure (by show (_ ++ _ : List Int).length ≤ _; rw [List.length_append]; simp; omega))) fun _ => ?_
  refine Ok.bind (φ := fun z : List Int × zO => z.1.length ≤ 145) ?_ fun z hz => by
    obtain ⟨o, t⟩ := z
    exact Ok.pure hz
  refine Ok.ite_beq (fun _ => ?_) fun _ => Ok.pure (by dsimp only; omega)
  refine Ok.bind (φ := fun z : List Int × zO => z.1.length ≤ 145) ?_ fun z hz => by
    obtain ⟨o, t⟩ := z
    exact Ok.pure hz
  refine Ok.ite_dec (fun hc => ?_) fun _ => Ok.pure (by dsimp only; omega)
  exact Ok.call (mG s _) ⟨by omega, by omega⟩ fun z t g1 g2 g3 => Ok.call (vR t _) ⟨by decide, by omega, by omega, by decide⟩ fun z2 t2 _ _ _ => Ok.idx (by omega) (by omega) fun x _ _ => Ok.bind_pure (Ok.pure (by show (List.set _ _ _).length ≤ _; rw [List.length_set]; omega))
theorem drawMem (code : List UInt8) : Ok (M.spec_DrawMemoryValid code) (fun y => BG y.1 ∧ y.2.length ≤ 145) := by
  unfold M.spec_DrawMemoryValid
  refine Ok.call (zHm code) trivial fun s hs => Ok.call (zIJ s) ⟨by omega, by omega⟩ fun a t g1 g2 g3 => ?_
  refine Ok.bind (mut4 t a g1.dp (by omega) (by omega)) fun p hp => ?_
  obtain ⟨P, r⟩ := p
  refine Ok.bind (drawMem1 r P hp.1.1 hp.2) fun q hq => ?_
  obtain ⟨l, r2⟩ := q
  refine Ok.bind (bend_ok r2 l hq.1 hq.2.1 hq.2.2) fun w hw => ?_
  obtain ⟨l2, r3⟩ := w
  exact Ok.pure ⟨hp.1.1, hw⟩
theorem all_set_val {m : List Int} (h : m.all valB = true) (k : Nat) {v : Int} (hv : valB v = true) : (m.set k v).all valB = true := by
  rw [List.all_eq_true] at h ⊢
  intro x hx
  rcases List.mem_or_eq_of_mem_set hx with hx | hx
  · exact h x hx
  · rw [hx]; exact hv
theorem law_MemoryValid (code more : List UInt8) : ∃ r, M.laws_FnMemoryValid code more = some r ∧ r = true := by
  obtain ⟨⟨P, m⟩, hy, hb, hl⟩ := drawMem code
  dsimp only at hb hl
  unfold M.laws_FnMemoryValid
  refine ⟨true, ?_, rfl⟩
  have htop : ∀ x : Option Bool, x = some true → (do
      let t21 ← (do
        if (decide ((code.length : Int) > 1048576)) then
         pure true
        else
         pure (decide ((more.length : Int) > 1048576))
          : Option Bool)
      if t21 then pure true else x : Option Bool) = some true := by
    intro x hx
    rw [hx]
    by_cases h1 : (code.length : Int) > 1048576 <;> by_cases h2 : (more.length : Int) > 1048576 <;> simp [h1, h2]
  refine htop _ ?_
  simp only [hy, implMem P hb m (by omega), specMem P hb m (by omega), Option.pure_def, Option.bind_eq_bind, Option.bind_some, beq_self_eq_true, Bool.not_true, Bool.false_eq_true, if_false]
  cases hv : memB P m with
  | false => simp
  | true =>
    simp only [Bool.not_true, Bool.false_eq_true, if_false, Option.bind_some]
    have hv' := hv
    simp only [memB, Bool.and_eq_true, decide_eq_true_eq] at hv'
    obtain ⟨hv1, hv2, hv3⟩ := hv'
    by_cases h2 : m.length = 0
    · simp [h2]
    · have hne : ((m.length : Int) == 0) = false := by rw [beq_eq_false_iff_ne]; omega
      obtain ⟨k, hk, hrem⟩ : ∃ k : Nat, k < m.length ∧ rem (more.length : Int) (m.length : Int) = some (k : Int) := by
        refine ⟨more.length % m.length, Nat.mod_lt _ (by omega), ?_⟩
        unfold rem
        rw [if_neg (by omega), Int.tmod_eq_emod_of_nonneg (by omega)]
        congr 1
      have q1 := implMem P hb (m.set k 999) (by rw [List.length_set]; omega)
      have q2 := implMem P hb (m.set k 1000) (by rw [List.length_set]; omega)
      have q3 := implMem P hb (m.drop 1) (by rw [List.length_drop]; omega)
      have e1 : memB P (m.set k 999) = true := by
        simp only [memB, Bool.and_eq_true, decide_eq_true_eq, List.length_set]
        exact ⟨hv1, hv2, all_set_val hv3 k (by decide)⟩
      have e2 : memB P (m.set k 1000) = false := by
        cases h : memB P (m.set k 1000) with
        | false => rfl
        | true =>
          simp only [memB, Bool.and_eq_true, decide_eq_true_eq] at h
          have := List.all_eq_true.1 h.2.2 1000 (List.mem_iff_getElem.2 ⟨k, by rw [List.length_set]; exact hk, List.getElem_set_self _⟩)
          exact absurd this (by decide)
      have e3 : memB P (m.drop 1) = false := by
        cases h : memB P (m.drop 1) with
        | false => rfl
        | true =>
          simp only [memB, Bool.and_eq_true, decide_eq_true_eq, List.length_drop] at h
          have := h.2.1
          omega
      have hf : ((m.length : Int) == totL P.Arrays 0) = true := by rw [hv2]; simp
      rw [e1] at q1; rw [e2] at q2; rw [e3] at q3
      have hsl : slc m 1 (m.length : Int) = some (m.drop 1) := by
        have := slc_eq (s := m) (f := 1) (i := m.length) (by omega) (Nat.le_refl _)
        rw [List.take_length] at this
        exact this
      simp only [hne, Bool.false_eq_true, if_false, jW m (show m.length * 8 ≤ 140737488355328 by omega), Option.bind_some, hrem, xH hk, Int.toNat_natCast, q1, q2, q3, hsl, Bool.not_false, if_true, implCount P hb, hv1, hf, id]
end Go.LN
