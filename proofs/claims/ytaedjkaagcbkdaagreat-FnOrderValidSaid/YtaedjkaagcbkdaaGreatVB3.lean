/- Values: the points of a nest, the work. -/
import Derived.Test.YtaedjkaagcbkdaaGreatVB2
namespace Go.LN
set_option linter.unusedVariables false
set_option linter.unusedSimpArgs false
def rngK : Nat → Int → List Int
  | 0, _ => []
  | k + 1, v => v :: rngK k (v + 1)
def rng (lo hi : Int) : List Int := rngK (hi - lo).toNat lo
def wrk : List zI → List Int → Nat
  | [], _ => 1
  | l :: ls, p => 1 + ((rng (loF l p) (hiF l p)).map fun v => wrk ls (p ++ [v])).sum
def pts : List zI → List Int → List (List Int)
  | [], p => [p]
  | l :: ls, p => (rng (loF l p) (hiF l p)).flatMap fun v => pts ls (p ++ [v])
def OL (x : zI) : Prop := OV x.Lo ∧ OV x.Hi
theorem zH8 : ∀ (ls : List zI) (p : List Int), 1 ≤ wrk ls p
  | [], _ => Nat.le_refl _
  | _ :: _, _ => Nat.le_add_right ..
theorem jW {b : Nat} (p : List Int) (h : p.length * b ≤ 140737488355328) : app b ([] : List Int) p = some p := by
  rw [oN (by simpa using h)]; rfl
theorem zCN {α : Type} {nest : List α} {n : Nat} {l : α} {ls : List α} (h : nest.drop n = l :: ls) : ∃ hn : n < nest.length, nest[n] = l ∧ nest.drop (n + 1) = ls := by
  have hn : n < nest.length := by
    rcases Nat.lt_or_ge n nest.length with h' | h'
    · exact h'
    · rw [List.drop_eq_nil_iff.2 h'] at h; cases h
  rw [List.drop_eq_getElem_cons hn] at h
  injection h with h1 h2
  exact ⟨hn, h1, h2⟩
theorem specWork : ∀ (ls nest : List zI) (p : List Int) (m : Nat), (∀ x ∈ ls, OL x) → nest.drop p.length = ls → p.length + ls.length = nest.length → nest.length ≤ 4 → m ≤ 1200 → uT nest p (m : Int) = some ((min (wrk ls p) (m + 1) : Nat) : Int)
  | [], nest, p, m, hv, hd, hl, h4, hm => by
    rw [uT]
    have : ((p.length : Int) == (nest.length : Int)) = true := by simp at hl; simp; omega
    simp only [this, if_true, wrk, id, Option.pure_def]
    rw [show min 1 (m + 1) = 1 by omega]; rfl
  | l :: ls, nest, p, m, hv, hd, hl, h4, hm => by
    rw [uT]
    obtain ⟨hn, hnl, hd'⟩ := zCN hd
    have hne : ((p.length : Int) == (nest.length : Int)) = false := by simp; omega
    have hp4 : p.length ≤ 4 := by omega
    obtain ⟨o1, o2⟩ := hv l (List.mem_cons_self ..)
    simp only [hne, Bool.false_eq_true, if_false, xH hn, hnl, Option.bind_eq_bind, Option.bind_some, specSpan l p hp4 o1 o2, same, Option.pure_def]
    have hlo := zEd p o1
    have hhi := zEe p o2
    have key : ∀ (k : Nat) (n : Nat) (v : Int), (hiF l p - v).toNat = k → J64 v → n ≤ m + 1 → uZ nest p (m : Int) (hiF l p) (n : Int) v = some ((min (n + ((rngK k v).map fun v => wrk ls (p ++ [v])).sum) (m + 1) : Nat) : Int) := by
      intro k
      induction k with
      | zero =>
        intro n v hk hv' hn'
        rw [uZ]
        have : ¬ (v < hiF l p) := by omega
        simp only [this, decide_false, Bool.false_eq_true, if_false, Option.pure_def, Option.bind_eq_bind, Option.bind_some, rngK, List.map_nil, List.sum_nil, id]
        congr 1; omega
      | succ k ih =>
        intro n v hk hv' hn'
        rw [uZ]
        have hlt : v < hiF l p := by omega
        have hlen : (p ++ [v]).length = p.length + 1 := by simp
        by_cases hle : n ≤ m
        · have h1 : ((n : Int) ≤ (m : Int)) := by omega
          have e1 : W ((m : Int) - (n : Int)) = ((m - n : Nat) : Int) := by rw [sR (by omega) (by omega)]; omega
          have hw := specWork ls nest (p ++ [v]) (m - n) (fun x hx => hv x (List.mem_cons_of_mem _ hx)) (by rw [hlen]; exact hd') (by rw [hlen]; simp only [List.length_cons] at hl; omega) h4 (by omega)
          have hpp : app 8 p [v] = some (p ++ [v]) := oN (by simp; omega)
          have hpn : app 8 ([] : List Int) p = some p := jW p (by omega)
          simp only [hlt, h1, decide_true, if_true, Option.pure_def, Option.bind_eq_bind, Option.bind_some, hpn, hpp, same, e1, hw]
          generalize hww : wrk ls (p ++ [v]) = w at hw ⊢
          have e2 : W ((n : Int) + ((min w (m - n + 1) : Nat) : Int)) = ((n + min w (m - n + 1) : Nat) : Int) := by rw [sR (by omega) (by omega)]; omega
          have e3 : W (v + 1) = v + 1 := sR (by unfold J64 at hv'; omega) (by unfold J64 at hhi; omega)
          rw [e2, e3, ih _ _ (by omega) (by unfold J64 at hv' hhi ⊢; omega) (by omega), rngK, List.map_cons, List.sum_cons, hww]
          rw [show min (n + min w (m - n + 1) + ((rngK k (v + 1)).map fun v => wrk ls (p ++ [v])).sum) (m + 1) = min (n + (w + ((rngK k (v + 1)).map fun v => wrk ls (p ++ [v])).sum)) (m + 1) by omega]
        · have h1 : ¬ ((n : Int) ≤ (m : Int)) := by omega
          simp only [hlt, h1, decide_true, decide_false, Bool.false_eq_true, if_false, if_true, Option.pure_def, Option.bind_eq_bind, Option.bind_some, id]
          congr 1; omega
    have := key _ 1 (loF l p) rfl hlo (by omega)
    rw [Int.natCast_one] at this
    rw [this]
    rfl
theorem zGQ (a b : List (List Int)) (n : Nat) : ((a.take n) ++ b).take n = (a ++ b).take n := by
  rw [List.take_append, List.take_append, List.take_take, Nat.min_self, List.length_take]
  rcases Nat.le_total a.length n with h | h
  · rw [Nat.min_eq_right h]
  · rw [Nat.min_eq_left h, Nat.sub_self, show n - a.length = 0 by omega]
theorem specPts : ∀ (ls nest : List zI) (p : List Int) (out : List (List Int)), (∀ x ∈ ls, OL x) → nest.drop p.length = ls → p.length + ls.length = nest.length → nest.length ≤ 4 → out.length ≤ 120 → wX out nest p = some ((out ++ pts ls p).take 121)
  | [], nest, p, out, hv, hd, hl, h4, ho => by
    rw [wX]
    have : ((p.length : Int) == (nest.length : Int)) = true := by simp at hl; simp; omega
    have hp4 : p.length ≤ 4 := by simp at hl; omega
    have happ : app 24 out [p] = some (out ++ [p]) := oN (by simp; omega)
    have hpn : app 8 ([] : List Int) p = some p := jW p (by omega)
    simp only [this, if_true, pts, id, Option.pure_def, Option.bind_eq_bind, Option.bind_some, hpn, happ]
    rw [List.take_of_length_le (by simp; omega)]
  | l :: ls, nest, p, out, hv, hd, hl, h4, ho => by
    rw [wX]
    obtain ⟨hn, hnl, hd'⟩ := zCN hd
    have hne : ((p.length : Int) == (nest.length : Int)) = false := by simp; omega
    have hp4 : p.length ≤ 4 := by omega
    obtain ⟨o1, o2⟩ := hv l (List.mem_cons_self ..)
    simp only [hne, Bool.false_eq_true, if_false, xH hn, hnl, Option.bind_eq_bind, Option.bind_some, specSpan l p hp4 o1 o2, same, Option.pure_def]
    have hlo := zEd p o1
    have hhi := zEe p o2
    have key : ∀ (k : Nat) (out : List (List Int)) (v : Int), (hiF l p - v).toNat = k → J64 v → out.length ≤ 121 → vV nest p (hiF l p) out v = some ((out ++ (rngK k v).flatMap fun v => pts ls (p ++ [v])).take 121) := by
      intro k
      induction k with
      | zero =>
        intro out v hk hv' ho'
        rw [vV]
        have : ¬ (v < hiF l p) := by omega
        simp only [this, decide_false, Bool.false_eq_true, if_false, Option.pure_def, Option.bind_eq_bind, Option.bind_some, rngK, List.flatMap_nil, List.append_nil, id]
        rw [List.take_of_length_le ho']
      | succ k ih =>
        intro out v hk hv' ho'
        rw [vV]
        have hlt : v < hiF l p := by omega
        have hlen : (p ++ [v]).length = p.length + 1 := by simp
        by_cases hle : out.length ≤ 120
        · have h1 : ((out.length : Int) ≤ 120) := by omega
          have hw := specPts ls nest (p ++ [v]) out (fun x hx => hv x (List.mem_cons_of_mem _ hx)) (by rw [hlen]; exact hd') (by rw [hlen]; simp only [List.length_cons] at hl; omega) h4 hle
          have hpp : app 8 p [v] = some (p ++ [v]) := oN (by simp; omega)
          have e3 : W (v + 1) = v + 1 := sR (by unfold J64 at hv'; omega) (by unfold J64 at hhi; omega)
          have hpn : app 8 ([] : List Int) p = some p := jW p (by omega)
          simp only [hlt, h1, decide_true, if_true, Option.pure_def, Option.bind_eq_bind, Option.bind_some, hpn, hpp, same, hw, e3]
          rw [ih _ _ (by omega) (by unfold J64 at hv' hhi ⊢; omega) (by rw [List.length_take]; omega), zGQ, rngK, List.flatMap_cons, List.append_assoc]
        · have h1 : ¬ ((out.length : Int) ≤ 120) := by omega
          simp only [hlt, h1, decide_true, decide_false, Bool.false_eq_true, if_false, if_true, Option.pure_def, Option.bind_eq_bind, Option.bind_some, id]
          rw [List.take_left' (by omega)]
    have := key _ out (loF l p) rfl hlo (by omega)
    rw [this]
    rfl
theorem zD3 (p : List Int) (h : p.length ≤ 1048576) : tB p = some p := jW p (by omega)
theorem implWalk : ∀ (ls nest : List zI) (p : List Int) (steps : Nat) (out : List (List Int)), (∀ x ∈ ls, OL x) → nest.drop p.length = ls → p.length + ls.length = nest.length → nest.length ≤ 4 → steps ≤ 1199 → out.length ≤ 120 →
    ∃ r w, uH ⟨nest, (steps : Int), out⟩ p = some (r, w) ∧ (steps + wrk ls p ≤ 1200 ∧ out.length + (pts ls p).length ≤ 120 → r = true ∧ w = ⟨nest, ((steps + wrk ls p - 1 : Nat) : Int), out ++ pts ls p⟩) ∧ (¬ (steps + wrk ls p ≤ 1200 ∧ out.length + (pts ls p).length ≤ 120) → r = false)
  | [], nest, p, steps, out, hv, hd, hl, h4, hs, ho => by
    rw [uH]
    have : ((p.length : Int) == (nest.length : Int)) = true := by simp at hl; simp; omega
    have hp4 : p.length ≤ 4 := by simp at hl; omega
    have happ : app 24 out [p] = some (out ++ [p]) := oN (by simp; omega)
    simp only [this, if_true, Option.pure_def, Option.bind_eq_bind, Option.bind_some, zD3 p (by omega), happ]
    refine ⟨_, _, rfl, fun h => ?_, fun h => ?_⟩
    · simp only [wrk, pts, List.length_singleton] at h ⊢
      refine ⟨by simp; omega, ?_⟩
      rw [show steps + 1 - 1 = steps by omega]
    · simp only [wrk, pts, List.length_singleton] at h
      simp; omega
  | l :: ls, nest, p, steps, out, hv, hd, hl, h4, hs, ho => by
    rw [uH]
    obtain ⟨hn, hnl, hd'⟩ := zCN hd
    have hne : ((p.length : Int) == (nest.length : Int)) = false := by simp; omega
    have hp4 : p.length ≤ 4 := by omega
    obtain ⟨o1, o2⟩ := hv l (List.mem_cons_self ..)
    simp only [hne, Bool.false_eq_true, if_false, xH hn, hnl, Option.bind_eq_bind, Option.bind_some, implSpan l p hp4 o1 o2, same, Option.pure_def]
    have hlo := zEd p o1
    have hhi := zEe p o2
    have key : ∀ (k : Nat) (steps : Nat) (out : List (List Int)) (v : Int), (hiF l p - v).toNat = k → J64 v → steps ≤ 1199 → out.length ≤ 120 →
        ∃ o, tC p (hiF l p) v nest (steps : Int) out = some o ∧ (steps + ((rngK k v).map fun v => wrk ls (p ++ [v])).sum ≤ 1199 ∧ out.length + ((rngK k v).flatMap fun v => pts ls (p ++ [v])).length ≤ 120 →
          o = .done (nest, ((steps + ((rngK k v).map fun v => wrk ls (p ++ [v])).sum : Nat) : Int), out ++ (rngK k v).flatMap fun v => pts ls (p ++ [v]))) ∧ (¬ (steps + ((rngK k v).map fun v => wrk ls (p ++ [v])).sum ≤ 1199 ∧ out.length + ((rngK k v).flatMap fun v => pts ls (p ++ [v])).length ≤ 120) → ∃ w, o = .ret (false, w)) := by
      intro k
      induction k with
      | zero =>
        intro steps out v hk hv' hs' ho'
        rw [tC]
        have : ¬ (v < hiF l p) := by omega
        simp only [this, decide_false, Bool.false_eq_true, if_false, Option.pure_def]
        simp only [rngK, List.map_nil, List.sum_nil, List.flatMap_nil, List.append_nil, List.length_nil, Nat.add_zero]
        exact ⟨_, rfl, fun _ => rfl, fun h => absurd ⟨hs', ho'⟩ h⟩
      | succ k ih =>
        intro steps out v hk hv' hs' ho'
        rw [tC]
        have hlt : v < hiF l p := by omega
        have hlen : (p ++ [v]).length = p.length + 1 := by simp
        have e1 : W ((steps : Int) + 1) = ((steps + 1 : Nat) : Int) := tV (by omega)
        have e2 : W (((steps + 1 : Nat) : Int) + 1) = ((steps + 2 : Nat) : Int) := tV (by omega)
        have e3 : W (v + 1) = v + 1 := sR (by unfold J64 at hv'; omega) (by unfold J64 at hhi; omega)
        have hpos := zH8 ls (p ++ [v])
        simp only [rngK, List.map_cons, List.sum_cons, List.flatMap_cons, List.length_append]
        by_cases hle : steps + 2 > 1200
        · have h1 : (((steps + 2 : Nat) : Int) > 1200) := by omega
          simp only [hlt, e1, e2, h1, decide_true, if_true, Option.pure_def, Option.bind_eq_bind, Option.bind_some]
          exact ⟨_, rfl, fun h => absurd h.1 (by omega), fun _ => ⟨_, rfl⟩⟩
        · have h1 : ¬ (((steps + 2 : Nat) : Int) > 1200) := by omega
          have hpp : app 8 p [v] = some (p ++ [v]) := oN (by simp; omega)
          obtain ⟨r, w, hw, hc⟩ := implWalk ls nest (p ++ [v]) (steps + 1) out (fun x hx => hv x (List.mem_cons_of_mem _ hx)) (by rw [hlen]; exact hd') (by rw [hlen]; simp only [List.length_cons] at hl; omega) h4 (by omega) ho'
          simp only [hlt, e1, e2, h1, decide_true, decide_false, Bool.false_eq_true, if_false, if_true, Option.pure_def, Option.bind_eq_bind, Option.bind_some, zD3 p (by omega), hpp, same, hw, e3]
          generalize hW : wrk ls (p ++ [v]) = wv at hc hpos ⊢
          generalize hP : pts ls (p ++ [v]) = pv at hc ⊢
          by_cases hcc : steps + 1 + wv ≤ 1200 ∧ out.length + pv.length ≤ 120
          · obtain ⟨rfl, rfl⟩ := hc.1 hcc
            simp only [Bool.not_true, Bool.false_eq_true, if_false]
            rw [show steps + 1 + wv - 1 = steps + wv by omega]
            obtain ⟨o, ho1, ho2⟩ := ih (steps + wv) (out ++ pv) (v + 1) (by omega) (by unfold J64 at hv' hhi ⊢; omega) (by omega) (by rw [List.length_append]; omega)
            refine ⟨o, ho1, ?_⟩
            rw [List.length_append, Nat.add_assoc, Nat.add_assoc, List.append_assoc] at ho2
            exact ho2
          · obtain rfl := hc.2 hcc
            simp only [Bool.not_false, if_true]
            exact ⟨_, rfl, fun h => absurd h (by omega), fun _ => ⟨_, rfl⟩⟩
    obtain ⟨o, ho1, ho2⟩ := key _ steps out (loF l p) rfl hlo (by omega) ho
    rw [ho1]
    simp only [wrk, pts, rng]
    by_cases hc : steps + ((rngK (hiF l p - loF l p).toNat (loF l p)).map fun v => wrk ls (p ++ [v])).sum ≤ 1199 ∧ out.length + ((rngK (hiF l p - loF l p).toNat (loF l p)).flatMap fun v => pts ls (p ++ [v])).length ≤ 120
    · obtain rfl := ho2.1 hc
      refine ⟨_, _, rfl, fun _ => ⟨rfl, ?_⟩, fun h => absurd ⟨by omega, hc.2⟩ h⟩
      rw [show steps + (1 + ((rngK (hiF l p - loF l p).toNat (loF l p)).map fun v => wrk ls (p ++ [v])).sum) - 1 = steps + ((rngK (hiF l p - loF l p).toNat (loF l p)).map fun v => wrk ls (p ++ [v])).sum by omega]
    · obtain ⟨w, rfl⟩ := ho2.2 hc
      exact ⟨_, _, rfl, fun h => absurd ⟨by omega, h.2⟩ hc, fun _ => rfl⟩
def nestPts (nest : List zI) : List (List Int) × Bool := if nestB nest = true ∧ wrk nest [] ≤ 1200 ∧ (pts nest []).length ≤ 120 then (pts nest [], true) else ([], false)
theorem zFw {l : List zA} {d : Int} (h : sideB l d = true) : OV l := by
  simp only [sideB, Bool.and_eq_true, decide_eq_true_eq] at h
  obtain ⟨⟨h1, h2⟩, h3⟩ := h
  refine ⟨by rintro rfl; simp at h1, by omega, fun a ha => ?_⟩
  have := List.all_eq_true.1 h3 a ha
  simp only [okA, validB, constB, Bool.and_eq_true, decide_eq_true_eq] at this
  exact ⟨this.1.1.1, by unfold J64; omega⟩
theorem zEf {nest : List zI} (h : nestB nest = true) : nest.length ≤ 4 ∧ ∀ x ∈ nest, OL x := by
  simp only [nestB, Bool.and_eq_true, decide_eq_true_eq] at h
  refine ⟨h.1, fun x hx => ?_⟩
  obtain ⟨i, hi, rfl⟩ := List.mem_iff_getElem.1 hx
  have := List.all_eq_true.1 h.2 i (List.mem_range.2 hi)
  rw [Bool.and_eq_true] at this
  have hg : nest.getD i ⟨[], []⟩ = nest[i] := by simp [hi]
  rw [hg] at this
  exact ⟨zFw this.1, zFw this.2⟩
theorem implPoints (nest : List zI) (h : BN nest) : pG nest = some (nestPts nest) := by
  unfold pG nestPts
  rw [implNest nest h]
  cases hb : nestB nest with
  | false => simp
  | true =>
    obtain ⟨h4, hv⟩ := zEf hb
    obtain ⟨r, w, hw, hc⟩ := implWalk nest nest [] 0 [] hv rfl (by simp) h4 (by omega) (by simp)
    rw [Int.natCast_zero] at hw
    simp only [Bool.not_true, Bool.false_eq_true, if_false, Option.bind_eq_bind, Option.bind_some, hw, true_and]
    simp only [Nat.zero_add, List.length_nil, List.nil_append] at hc
    by_cases hcc : wrk nest [] ≤ 1200 ∧ (pts nest []).length ≤ 120
    · obtain ⟨rfl, rfl⟩ := hc.1 hcc
      rw [if_pos hcc]; rfl
    · obtain rfl := hc.2 hcc
      rw [if_neg hcc]; rfl
theorem specPoints (nest : List zI) (h : BN nest) : sH nest = some (nestPts nest) := by
  unfold sH nestPts
  rw [specNest nest h]
  cases hb : nestB nest with
  | false => simp
  | true =>
    obtain ⟨h4, hv⟩ := zEf hb
    have hw := specWork nest nest [] 1200 hv rfl (by simp) h4 (by omega)
    have hp := specPts nest nest [] [] hv rfl (by simp) h4 (by simp)
    rw [show ((1200 : Nat) : Int) = 1200 from rfl] at hw
    simp only [Bool.not_true, Bool.false_eq_true, if_false, Option.bind_eq_bind, Option.bind_some, hw, hp, true_and, Option.pure_def, List.nil_append]
    generalize wrk nest [] = w
    generalize pts nest [] = P
    by_cases h1 : w ≤ 1200
    · have e : ¬ (((min w (1200 + 1) : Nat) : Int) > 1200) := by omega
      simp only [e, decide_false, Bool.false_eq_true, if_false, h1, true_and, List.length_take]
      by_cases h2 : P.length ≤ 120
      · have e2 : ¬ (((min 121 P.length : Nat) : Int) > 120) := by omega
        simp only [e2, h2, decide_false, Bool.false_eq_true, if_false, if_true]
        rw [List.take_of_length_le (by omega)]
      · have e2 : (((min 121 P.length : Nat) : Int) > 120) := by omega
        simp only [e2, h2, decide_true, if_true, if_false]
    · have e : (((min w (1200 + 1) : Nat) : Int) > 1200) := by omega
      simp only [e, decide_true, if_true, h1, false_and, if_false]
end Go.LN
