/- Values: the law of the order of instances. -/
import Derived.Test.YtaedjkaagcbkdaaGreatXInstanceOrder
import Derived.Test.YtaedjkaagcbkdaaGreatVD1
import Derived.Test.YtaedjkaagcbkdaaGreatVF2
namespace Go.LN
set_option linter.unusedVariables false
set_option linter.unusedSimpArgs false
theorem cmpInt (x y : Int) : M.cmp_Compare_int x y = some (if x < y then -1 else if x > y then 1 else 0) := by
  unfold M.cmp_Compare_int M.cmp_isNaN_int
  by_cases h : x < y
  · simp [h]
  · by_cases h2 : x > y
    · simp [h, h2]
    · simp [h, h2]
theorem cmp_l1 (b a : List Int) (hb : b.length ≤ 1048576) : ∀ (j i : Nat), i + j = b.length → (lexlt (a.drop i) (b.drop i) → M.slices_Compare_int_int_l1 b a (i : Int) = some (.ret 1)) ∧ (a.drop i = b.drop i → M.slices_Compare_int_int_l1 b a (i : Int) = some (.done ())) := by
  intro j
  induction j with
  | zero =>
    intro i hi
    have hd : b.drop i = [] := List.drop_eq_nil_iff.2 (by omega)
    rw [hd]
    refine ⟨fun h => ?_, fun _ => ?_⟩
    · revert h; cases a.drop i <;> exact fun h => (show False from h).elim
    · rw [M.slices_Compare_int_int_l1]
      have : ¬ ((i : Int) < (b.length : Int)) := by omega
      simp only [this, decide_false, Bool.false_eq_true, if_false, Option.pure_def]
  | succ j ih =>
    intro i hi
    have hlt : i < b.length := by omega
    have hc : ((i : Int) < (b.length : Int)) := by omega
    by_cases ha : i < a.length
    · have hc2 : ¬ ((i : Int) ≥ (a.length : Int)) := by omega
      rw [M.slices_Compare_int_int_l1, List.drop_eq_getElem_cons ha, List.drop_eq_getElem_cons hlt]
      simp only [hc, hc2, decide_true, decide_false, if_true, Bool.false_eq_true, if_false, xH hlt, xH ha, Option.bind_eq_bind, Option.bind_some, Option.pure_def, cmpInt]
      rw [tV (by omega)]
      obtain ⟨h1, h2⟩ := ih (i + 1) (by omega)
      refine ⟨fun h => ?_, fun h => ?_⟩
      · rcases h with h | ⟨h, h'⟩
        · have e1 : ¬ (b[i] < a[i]) := by omega
          have e2 : b[i] > a[i] := by omega
          simp [e1, e2]
        · have e1 : ¬ (b[i] < a[i]) := by omega
          have e2 : ¬ (b[i] > a[i]) := by omega
          simp only [e1, e2, if_false, bne_self_eq_false, Bool.false_eq_true]
          exact h1 h'
      · injection h with h h'
        have e1 : ¬ (b[i] < a[i]) := by omega
        have e2 : ¬ (b[i] > a[i]) := by omega
        simp only [e1, e2, if_false, bne_self_eq_false, Bool.false_eq_true]
        exact h2 h'
    · have hd : a.drop i = [] := List.drop_eq_nil_iff.2 (by omega)
      rw [hd, List.drop_eq_getElem_cons hlt]
      exact ⟨fun h => h.elim, fun h => by cases h⟩
theorem lexLess_no (b a : List Int) (hb : b.length ≤ 1048576) (h : lexlt a b ∨ a = b) : M.impl_LexLess b a = some false := by
  obtain ⟨h1, h2⟩ := cmp_l1 b a hb b.length 0 (Nat.zero_add _)
  rw [Int.natCast_zero, List.drop_zero, List.drop_zero] at h1 h2
  unfold M.impl_LexLess M.slices_Compare_int_int
  rcases h with h | h
  · simp [h1 h]
  · subst h
    simp [h2 rfl]
theorem lexlt_ne : ∀ {a : List Int}, ¬ lexlt a a
  | [], h => h.elim
  | x :: a, h => by
    rcases h with h | ⟨_, h⟩
    · omega
    · exact lexlt_ne h
theorem intsV (a b : List Int) (h : a.length ≤ 1048576) : M.laws_lnInts a b = some (decide (a = b)) := by
  unfold M.laws_lnInts
  by_cases hl : a.length = b.length
  · have hf := mH (n := a.length) (f := M.laws_lnInts_l1 a b) (P := fun i => a.getD i 0 == b.getD i 0) (fun i hi => by
      rw [M.laws_lnInts_l1]
      have h1 : ((i : Int) < (a.length : Int)) := by omega
      have hib : i < b.length := by omega
      have g1 : a.getD i 0 = a[i] := by simp [hi]
      have g2 : b.getD i 0 = b[i] := by simp [hib]
      simp only [h1, decide_true, if_true, xH hi, xH hib, Option.bind_eq_bind, Option.bind_some, Option.pure_def, g1, g2]
      by_cases e : a[i] = b[i]
      · simp only [e, bne_self_eq_false, Bool.false_eq_true, if_false, beq_self_eq_true, if_true]
        rw [tV (by omega)]
      · simp [e]) (by rw [M.laws_lnInts_l1]; simp)
    rw [hf]
    have hlb : ((a.length : Int) != (b.length : Int)) = false := by simp [hl]
    simp only [hlb, Bool.false_eq_true, if_false, Option.bind_eq_bind, Option.bind_some]
    by_cases e : a = b
    · subst e; simp
    · have : ((List.range a.length).all fun i => a.getD i 0 == b.getD i 0) = false := by
        cases hq : ((List.range a.length).all fun i => a.getD i 0 == b.getD i 0) with
        | false => rfl
        | true =>
          refine absurd (List.ext_getElem hl fun i h1 h2 => ?_) e
          have := List.all_eq_true.1 hq i (List.mem_range.2 h1)
          simpa [h1, h2] using this
      simp only [this, Bool.false_eq_true, if_false, e, decide_false, Option.pure_def]
  · have hlb : ((a.length : Int) != (b.length : Int)) = true := by simp; omega
    have e : a ≠ b := fun e => hl (by rw [e])
    simp [hlb, e]
def okI (z : yI) : Prop := z.Point.length ≤ 4 ∧ 0 ≤ z.Stmt ∧ z.Stmt ≤ 100000
theorem order_loop (l : List yI) (hl : l.length ≤ 1048576) (hch : Ch nxt l) (hok : ∀ z ∈ l, okI z) : ∀ (j i : Nat), 1 ≤ i → l.length ≤ i + j → M.laws_FnInstanceOrder_l1 l (i : Int) = some (.done ()) := by
  have done : ∀ i : Nat, l.length ≤ i → M.laws_FnInstanceOrder_l1 l (i : Int) = some (.done ()) := by
    intro i hi
    rw [M.laws_FnInstanceOrder_l1]
    have : ¬ ((i : Int) < (l.length : Int)) := by omega
    simp only [this, decide_false, Bool.false_eq_true, if_false, Option.pure_def]
  intro j
  induction j with
  | zero => intro i _ hi; exact done i hi
  | succ j ih =>
    intro i h1 hi
    by_cases hlt : i < l.length
    · obtain ⟨k, rfl⟩ : ∃ k, i = k + 1 := ⟨i - 1, by omega⟩
      rw [M.laws_FnInstanceOrder_l1]
      have hc : (((k + 1 : Nat) : Int) < (l.length : Int)) := by omega
      have hk : k < l.length := by omega
      have hn := Ch.get k hlt hch
      obtain ⟨p1, p2, p3⟩ := hok _ (List.getElem_mem hk)
      obtain ⟨q1, q2, q3⟩ := hok _ (List.getElem_mem hlt)
      rw [show W (((k + 1 : Nat) : Int) - 1) = (k : Int) by rw [sR (by omega) (by omega)]; omega]
      simp only [hc, decide_true, if_true, xH hk, xH hlt, Option.bind_eq_bind, Option.bind_some, Option.pure_def]
      rw [tV (by omega)]
      have hnext := ih (k + 1 + 1) (by omega) (by omega)
      rcases hn with hn | ⟨hn, hm⟩
      · have e1 : ¬ (l[k].Part > l[k + 1].Part) := by omega
        have e2 : (l[k].Part == l[k + 1].Part) = false := by simp; omega
        simp only [e1, e2, decide_false, Bool.false_eq_true, if_false, Option.bind_some]
        exact hnext
      · have e1 : ¬ (l[k].Part > l[k + 1].Part) := by omega
        have e2 : (l[k].Part == l[k + 1].Part) = true := by simp [hn]
        have e3 := lexLess_no l[k + 1].Point l[k].Point (by omega) (hm.imp id And.left)
        have e4 := intsV l[k].Point l[k + 1].Point (by omega)
        simp only [e1, e2, e3, e4, decide_false, Bool.false_eq_true, if_false, if_true, Option.bind_some]
        rcases hm with hm | ⟨hm, hm2⟩
        · have e5 : ¬ (l[k].Point = l[k + 1].Point) := fun e => by rw [e] at hm; exact lexlt_ne hm
          simp only [e5, decide_false, Bool.false_eq_true, if_false, Option.bind_some]
          exact hnext
        · have e6 : (W (l[k].Stmt + 1) != l[k + 1].Stmt) = false := by
            rw [sR (by omega) (by omega), hm2, bne_self_eq_false]
          simp only [hm, decide_true, if_true, e6, Bool.false_eq_true, if_false, Option.bind_some]
          exact hnext
    · exact done i (by omega)
theorem progI_ok {P : zZ} (hb : BG P) (h : validP P = true) : ∀ z ∈ progI P, okI z := by
  intro z hz
  obtain ⟨i, s, hi, hs, z1, z2, _⟩ := progI_mem h hz
  have := (hb.2.2 _ (List.getElem_mem hi)).2.1
  exact ⟨progI_pt hz, by omega, by omega⟩
theorem law_InstanceOrder (code : List UInt8) : ∃ r, M.laws_FnInstanceOrder code = some r ∧ r = true := by
  obtain ⟨y, hy, hb, hAR⟩ := drawProg code
  unfold M.laws_FnInstanceOrder
  refine ⟨true, ?_, rfl⟩
  have hd : M.spec_DrawProgramInstances code = some y := by unfold M.spec_DrawProgramInstances; rw [hy]; rfl
  by_cases h1 : (code.length : Int) > 1048576
  · simp [h1]
  · simp only [h1, decide_false, Bool.false_eq_true, if_false, hd, implInstP y hb, specInstP y hb, Option.pure_def, Option.bind_eq_bind, Option.bind_some]
    cases hv : validP y with
    | false =>
      have hr := inst_refl [] (by simp) (fun _ h => by cases h)
      have hl := order_loop [] (by simp) trivial (fun _ h => by cases h) 0 1 (Nat.le_refl _) (by simp)
      rw [show ((1 : Nat) : Int) = 1 from rfl] at hl
      simp [hr, hl]
    | true =>
      have hlen := (valid_parts hv).2.2.2
      have hr := inst_refl (progI y) (by omega) (fun x hx => by have := progI_pt hx; omega)
      have hl := order_loop (progI y) (by omega) (progI_ch y) (progI_ok hb hv) (progI y).length 1 (Nat.le_refl _) (by omega)
      rw [show ((1 : Nat) : Int) = 1 from rfl] at hl
      simp only [if_true, hr, hl, Option.bind_some, Bool.not_true, Bool.false_eq_true, if_false]
end Go.LN
