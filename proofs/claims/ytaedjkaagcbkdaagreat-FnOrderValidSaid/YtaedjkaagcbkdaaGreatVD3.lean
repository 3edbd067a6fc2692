/- Values: valid orders; the law of orders. -/
import Derived.Test.YtaedjkaagcbkdaaGreatXOrderValid
import Derived.Test.YtaedjkaagcbkdaaGreatVD1
import Derived.Test.YtaedjkaagcbkdaaGreatVD2
namespace Go.LN
set_option linter.unusedVariables false
set_option linter.unusedSimpArgs false
theorem isOrder_l1 (n : Nat) (hn : n ≤ 1000000) (l : List Int) (hl : l.length ≤ 1048576) : ∀ (j i : Nat) (seen : List Bool), i + j = l.length → seen.length = n → M.impl_isOrder_l1 l (n : Int) seen (i : Int) = some (if permL n (l.drop i) seen = true then .done () else .ret false) := by
  intro j
  induction j with
  | zero =>
    intro i seen hi hs
    rw [M.impl_isOrder_l1]
    have : ¬ ((i : Int) < (l.length : Int)) := by omega
    simp only [this, decide_false, Bool.false_eq_true, if_false]
    rw [List.drop_eq_nil_iff.2 (by omega)]; rfl
  | succ j ih =>
    intro i seen hi hs
    rw [M.impl_isOrder_l1]
    have hlt : i < l.length := by omega
    have hc : ((i : Int) < (l.length : Int)) := by omega
    rw [List.drop_eq_getElem_cons hlt, permL]
    have hW : W ((n : Int) - 1) = (n : Int) - 1 := sR (by omega) (by omega)
    simp only [hc, decide_true, if_true, xH hlt, Option.bind_eq_bind, Option.bind_some, pA, hW]
    by_cases hr : 0 ≤ l[i] ∧ l[i] < (n : Int)
    · obtain ⟨k, hk⟩ : ∃ k : Nat, l[i] = (k : Int) := ⟨l[i].toNat, by omega⟩
      have hks : k < seen.length := by omega
      have hg : seen.getD k true = seen[k] := by simp [hks]
      have h1 : (0 : Int) ≤ (k : Int) := by omega
      have h2 : (k : Int) ≤ (n : Int) - 1 := by omega
      have h3 : (k : Int) < (n : Int) := by omega
      rw [hk]
      simp only [h1, h2, h3, decide_true, Bool.and_self, Bool.not_true, Bool.false_eq_true, if_false, xH hks, Option.pure_def, Option.bind_some, id, Int.toNat_natCast, hg, true_and]
      cases hb : seen[k] with
      | true => simp
      | false =>
        simp only [Bool.false_eq_true, if_false, if_true]
        rw [tV (by omega), ih (i + 1) _ (by omega) (by rw [List.length_set]; exact hs)]
    · have h4 : (!(decide (0 ≤ l[i]) && decide (l[i] ≤ (n : Int) - 1))) = true := by
        simp; omega
      have h5 : ¬ (0 ≤ l[i] ∧ l[i] < (n : Int) ∧ seen.getD l[i].toNat true = false) := fun h => hr ⟨h.1, h.2.1⟩
      simp only [h4, if_true, if_neg h5, Option.pure_def, Option.bind_some, Bool.false_eq_true, if_false]
theorem perm_l1 (n : Nat) (hn : n ≤ 1000000) (l : List Int) (hl : l.length ≤ 1048576) : ∀ (j i : Nat) (seen : List Bool), i + j = l.length → seen.length = n → M.spec_l5Perm_l1 l (n : Int) seen (i : Int) = some (if permL n (l.drop i) seen = true then .done () else .ret false) := by
  intro j
  induction j with
  | zero =>
    intro i seen hi hs
    rw [M.spec_l5Perm_l1]
    have : ¬ ((i : Int) < (l.length : Int)) := by omega
    simp only [this, decide_false, Bool.false_eq_true, if_false]
    rw [List.drop_eq_nil_iff.2 (by omega)]; rfl
  | succ j ih =>
    intro i seen hi hs
    rw [M.spec_l5Perm_l1]
    have hlt : i < l.length := by omega
    have hc : ((i : Int) < (l.length : Int)) := by omega
    rw [List.drop_eq_getElem_cons hlt, permL]
    simp only [hc, decide_true, if_true, xH hlt, Option.bind_eq_bind, Option.bind_some]
    by_cases hr : 0 ≤ l[i] ∧ l[i] < (n : Int)
    · obtain ⟨k, hk⟩ : ∃ k : Nat, l[i] = (k : Int) := ⟨l[i].toNat, by omega⟩
      have hks : k < seen.length := by omega
      have hg : seen.getD k true = seen[k] := by simp [hks]
      have h1 : (0 : Int) ≤ (k : Int) := by omega
      have h2 : ¬ ((k : Int) < 0) := by omega
      have h3 : (k : Int) < (n : Int) := by omega
      have h4 : ¬ ((k : Int) ≥ (n : Int)) := by omega
      rw [hk]
      simp only [h1, h2, h3, h4, decide_true, decide_false, Bool.false_eq_true, if_false, xH hks, Option.pure_def, Option.bind_some, id, Int.toNat_natCast, hg, true_and]
      cases hb : seen[k] with
      | true => simp
      | false =>
        simp only [Bool.false_eq_true, if_false, if_true]
        rw [tV (by omega), ih (i + 1) _ (by omega) (by rw [List.length_set]; exact hs)]
    · have h5 : ¬ (0 ≤ l[i] ∧ l[i] < (n : Int) ∧ seen.getD l[i].toNat true = false) := fun h => hr ⟨h.1, h.2.1⟩
      rw [if_neg h5]
      by_cases h6 : l[i] < 0
      · simp [h6]
      · have h7 : l[i] ≥ (n : Int) := by omega
        simp [h6, h7]
theorem mk_row (n : Nat) (hn : n ≤ 1000000) : mkrow 1 (n : Int) (false : Bool) = some (List.replicate n false) := by
  unfold mkrow
  rw [if_pos ⟨by omega, by omega⟩, Int.toNat_natCast]
theorem implPerm (n : Nat) (hn : n ≤ 1000000) (l : List Int) (hl : l.length ≤ 1048576) : M.impl_isOrder l (n : Int) = some (permB n l) := by
  unfold M.impl_isOrder permB
  have h := isOrder_l1 n hn l hl l.length 0 (List.replicate n false) (Nat.zero_add _) (List.length_replicate ..)
  rw [Int.natCast_zero, List.drop_zero] at h
  simp only [mk_row n hn, h, Option.bind_eq_bind, Option.bind_some]
  cases permL n l (List.replicate n false)
  · rfl
  · simp
    by_cases e : l.length = n
    · simp [e]
    · have : ¬ ((l.length : Int) = (n : Int)) := by omega
      simp [e, this]
theorem specPerm (n : Nat) (hn : n ≤ 1000000) (l : List Int) (hl : l.length ≤ 1048576) : M.spec_l5Perm l (n : Int) = some (permB n l) := by
  unfold M.spec_l5Perm permB
  have h := perm_l1 n hn l hl l.length 0 (List.replicate n false) (Nat.zero_add _) (List.length_replicate ..)
  rw [Int.natCast_zero, List.drop_zero] at h
  simp only [mk_row n hn, h, Option.bind_eq_bind, Option.bind_some]
  cases permL n l (List.replicate n false)
  · rfl
  · simp
    by_cases e : l.length = n
    · simp [e]
    · have : ¬ ((l.length : Int) = (n : Int)) := by omega
      simp [e, this]
theorem specInsts (P : zZ) (hv : validP P = true) : M.spec_l4Instances P = some (progI P) := by
  obtain ⟨_, v2, v3, _⟩ := valid_parts hv
  have hl := specInst_l1 P v2 v3 _ 0 [] (Nat.zero_add _) (by simp)
  rw [Int.natCast_zero, List.nil_append] at hl
  simp only [Option.bind_eq_bind, Option.bind_some, M.spec_l4Instances, hl, Option.pure_def, id]
  rfl
theorem implOrd (P : zZ) (h : BG P) (l : List Int) (hl : l.length ≤ 1048576) : M.impl_OrderValid P l = some (validP P && permB (progI P).length l) := by
  unfold M.impl_OrderValid
  rw [implInstances P h]
  unfold validP
  cases progB P with
  | false => rfl
  | true =>
    by_cases hk : (progI P).length ≤ 120
    · simp [hk, implPerm (progI P).length (by omega) l hl]
    · simp [hk]
theorem specOrd (P : zZ) (h : BG P) (l : List Int) (hl : l.length ≤ 1048576) : M.spec_OrderValid P l = some (validP P && permB (progI P).length l) := by
  unfold M.spec_OrderValid
  rw [specValidP P h]
  cases hv : validP P with
  | false => rfl
  | true =>
    have := (valid_parts hv).2.2.2
    simp [specInsts P hv, specPerm (progI P).length (by omega) l hl]
/-! Drawn orders. -/
theorem order_l1 (P : zZ) (h : BG P) : ∀ (j i : Nat) (out : List Int), out.length = i → i + j = (if validP P then progI P else []).length → ∃ o, M.spec_l5Order_l1 P out (i : Int) = some o ∧ o.length ≤ 120 := by
  have hlen : (if validP P then progI P else []).length ≤ 120 := by
    cases hv : validP P with
    | false => simp
    | true => have := (valid_parts hv).2.2.2; simpa using this
  generalize hL : (if validP P then progI P else []) = L at hlen
  intro j
  induction j with
  | zero =>
    intro i out ho hi
    rw [M.spec_l5Order_l1, specInstP P h, hL]
    have : ¬ ((i : Int) < (L.length : Int)) := by omega
    refine ⟨out, by simp only [this, decide_false, Bool.false_eq_true, if_false, Option.bind_eq_bind, Option.bind_some, Option.pure_def, id], by omega⟩
  | succ j ih =>
    intro i out ho hi
    rw [M.spec_l5Order_l1, specInstP P h, hL]
    have hc : ((i : Int) < (L.length : Int)) := by omega
    simp only [hc, decide_true, if_true, Option.bind_eq_bind, Option.bind_some, oN (show (out.length + [(i : Int)].length) * 8 ≤ 140737488355328 by simp; omega)]
    rw [tV (by omega)]
    exact ih (i + 1) _ (by rw [List.length_append]; simp; omega) (by omega)
theorem order_l2 : ∀ (m : Nat) (out : List Int) (x : zO), 0 ≤ x.p → x.p + 2 * (m : Int) ≤ 900000000 → out.length ≤ 120 → Ok (M.spec_l5Order_l2 out (m : Int) x) (fun y => y.1.length ≤ 120 ∧ 0 ≤ y.2.p ∧ y.2.p ≤ x.p + 2 * (m : Int))
  | 0, out, x, h0, h1, ho => by
    rw [M.spec_l5Order_l2]
    exact ⟨(out, x), rfl, ho, h0, by dsimp only; omega⟩
  | m + 1, out, x, h0, h1, ho => by
    rw [M.spec_l5Order_l2]
    refine Ok.bind (φ := fun b => b = true → 1 < out.length) (Ok.ite_dec (fun h => Ok.pure fun hd => by have := of_decide_eq_true hd; omega) fun _ => Ok.pure fun h => by cases h) fun b hb => Ok.ite (fun hc => ?_) fun _ => Ok.pure ⟨ho, h0, by dsimp only; omega⟩
    have h2 := hb hc
    refine Ok.call (mG x _) ⟨by omega, by omega⟩ fun y s k1 k2 k3 => Ok.call (mG s _) ⟨by omega, by omega⟩ fun z u g1 g2 g3 => Ok.idx (by omega) (by omega) fun x2 _ _ => Ok.idx (by omega) (by omega) fun x3 _ _ => Ok.idx (by omega) (by omega) fun x4 _ _ => Ok.bind_pure (Ok.idx (by omega) (by rw [List.length_set]; omega) fun x5 _ _ => Ok.bind_pure ?_)
    rw [show W (((m + 1 : Nat) : Int) - 1) = (m : Int) by rw [sR (by omega) (by omega)]; omega]
    refine Ok.mono (order_l2 m _ u (by omega) (by omega) (by rw [List.length_set, List.length_set]; exact ho)) fun r hr => ⟨hr.1, hr.2.1, by have := hr.2.2; omega⟩
theorem drawOrd1 (r : zO) (P : zZ) (h : BG P) (hr : RD r) : Ok (M.spec_l5Order r P) (fun y => y.1.length ≤ 120) := by
  obtain ⟨h0, h1⟩ := hr
  unfold M.spec_l5Order
  obtain ⟨o, ho, hlen⟩ := order_l1 P h _ 0 [] rfl (Nat.zero_add _)
  rw [Int.natCast_zero] at ho
  rw [ho]
  refine Ok.bind_some (Ok.call (vR r _) ⟨by decide, h0, by omega, by decide⟩ fun y s g1 g2 g3 => ?_)
  obtain ⟨m, hm⟩ : ∃ m : Nat, y = (m : Int) ∧ m ≤ 8 := by
    simp only [List.mem_cons, List.mem_nil_iff, or_false] at g1
    exact ⟨y.toNat, by omega, by omega⟩
  rw [hm.1]
  refine Ok.bind (order_l2 m o s (by omega) (by omega) hlen) fun z hz => ?_
  obtain ⟨out, t⟩ := z
  obtain ⟨z1, z2, z3⟩ := hz
  dsimp only at z1 z2 z3
  refine Ok.bind (φ := fun z : Bool × zO => (z.1 = true → 0 < out.length) ∧ 0 ≤ z.2.p ∧ z.2.p ≤ 900000000) (Ok.ite_dec (fun hc => Ok.call (mG t _) ⟨z2, by omega⟩ fun y s k1 k2 k3 => Ok.pure ⟨fun _ => by omega, by dsimp only; omega, by dsimp only; omega⟩) fun _ => Ok.pure ⟨fun h => (by cases h), z2, by dsimp only; omega⟩) fun z hz => ?_
  obtain ⟨b, t2⟩ := z
  obtain ⟨w1, w2, w3⟩ := hz
  refine Ok.bind (φ := fun z : List Int × zO => z.1.length ≤ 120) (Ok.ite (fun hc => ?_) fun _ => Ok.pure z1) fun z hz => by
    obtain ⟨o3, t3⟩ := z
    exact Ok.pure hz
  have := w1 hc
  exact Ok.call (vR t2 _) ⟨by decide, w2, by dsimp only at w3; omega, by decide⟩ fun y s _ _ _ => Ok.idx (by omega) (by omega) fun x _ _ => Ok.bind_pure (Ok.pure (by show (List.set _ _ _).length ≤ _; rw [List.length_set]; exact z1))
theorem drawOrd (code : List UInt8) : Ok (M.spec_DrawOrderValid code) (fun y => BG y.1 ∧ y.2.length ≤ 120) := by
  unfold M.spec_DrawOrderValid
  refine Ok.call (zHm code) trivial fun s hs => Ok.call (zIJ s) ⟨by omega, by omega⟩ fun a t g1 g2 g3 => ?_
  refine Ok.bind (mut4 t a g1.dp (by omega) (by omega)) fun p hp => ?_
  obtain ⟨P, r⟩ := p
  refine Ok.bind (drawOrd1 r P hp.1.1 hp.2) fun q hq => ?_
  obtain ⟨l, r2⟩ := q
  exact Ok.pure ⟨hp.1.1, hq⟩
theorem law_OrderValid (code more : List UInt8) : ∃ r, M.laws_FnOrderValid code more = some r ∧ r = true := by
  obtain ⟨⟨P, l⟩, hy, hb, hl⟩ := drawOrd code
  dsimp only at hb hl
  unfold M.laws_FnOrderValid
  refine ⟨true, ?_, rfl⟩
  have htop : ∀ x : Option Bool, x = some true → (do
      let t21 ← (do
        if (decide ((code.length : Int) > 1048576)) then
         pure true
        else
         pure (decide ((more.length : Int) > 1048576))
          : Option Bool)
      if t21 then pure true else x : Option Bool) = some true := by
    intro x hx
    rw [hx]
    by_cases h1 : (code.length : Int) > 1048576 <;> by_cases h2 : (more.length : Int) > 1048576 <;> simp [h1, h2]
  refine htop _ ?_
  simp only [hy, implOrd P hb l (by omega), specOrd P hb l (by omega), Option.pure_def, Option.bind_eq_bind, Option.bind_some, beq_self_eq_true, Bool.not_true, Bool.false_eq_true, if_false]
  cases hv : (validP P && permB (progI P).length l) with
  | false => simp
  | true =>
    rw [Bool.and_eq_true] at hv
    obtain ⟨hv1, hv2⟩ := hv
    simp only [Bool.not_true, Bool.false_eq_true, if_false, Option.bind_some]
    by_cases h2 : (l.length : Int) < 2
    · simp [h2]
    · have hk : ∃ k : Nat, k + 1 < l.length ∧ rem (more.length : Int) (W ((l.length : Int) - 1)) = some (k : Int) := by
        have hm := Nat.mod_lt more.length (show l.length - 1 > 0 by omega)
        refine ⟨more.length % (l.length - 1), by omega, ?_⟩
        rw [show W ((l.length : Int) - 1) = ((l.length - 1 : Nat) : Int) by rw [sR (by omega) (by omega)]; omega]
        unfold rem
        rw [if_neg (by omega), Int.tmod_eq_emod_of_nonneg (by omega)]
        congr 1
      obtain ⟨k, hk, hrem⟩ := hk
      have hk0 : k < l.length := by omega
      have hk2 : k + 1 < (l.set k l[k + 1]).length := by rw [List.length_set]; exact hk
      have e1 := perm_swap hk hv2
      have e2 : permB (progI P).length (l.set k l[k + 1]) = false := perm_dup hk
      unfold swp at e1
      have hlen : l.length = (progI P).length := ((permB_iff _ _).1 hv2).2
      have q1 := implOrd P hb ((l.set k l[k + 1]).set (k + 1) l[k]) (by rw [List.length_set, List.length_set]; omega)
      have q2 := implOrd P hb (l.set k l[k + 1]) (by rw [List.length_set]; omega)
      have hf : ((l.length : Int) == ((progI P).length : Int)) = true := by rw [hlen]; simp
      rw [e1, hv1] at q1
      rw [e2, hv1] at q2
      simp only [h2, decide_false, Bool.false_eq_true, if_false, hrem, Option.bind_some, jW l (show l.length * 8 ≤ 140737488355328 by omega), tV (show k < 9223372036854775807 by omega), xH hk, xH hk0, Int.toNat_natCast, xH hk2, q1, q2, implInstP P hb, hv1, if_true, Bool.and_self, Bool.and_false, Bool.not_false, hf, id]
end Go.LN
