/- Values: cells, reads. -/
import Derived.Test.YtaedjkaagcbkdaaGreatVB5
namespace Go.LN
set_option linter.unusedVariables false
set_option linter.unusedSimpArgs false
/-! Sizes. -/
def szL : List Int → Int → Int
  | [], n => n
  | d :: l, n => szL l (W (n * d))
def sizeF (a : zJ) : Int := szL a.Dims 1
theorem zFN (a : zJ) (h : a.Dims.length ≤ 1048576) : ∀ (j i : Nat) (n : Int), i + j = a.Dims.length → uR a n (i : Int) = some (szL (a.Dims.drop i) n) := by
  intro j
  induction j with
  | zero =>
    intro i n hi
    rw [uR]
    have : ¬ ((i : Int) < (a.Dims.length : Int)) := by omega
    simp only [this, decide_false, Bool.false_eq_true, if_false]
    rw [List.drop_eq_nil_iff.2 (by omega)]; rfl
  | succ j ih =>
    intro i n hi
    rw [uR]
    have hlt : i < a.Dims.length := by omega
    have h1 : ((i : Int) < (a.Dims.length : Int)) := by omega
    simp only [h1, decide_true, if_true, xH hlt, Option.bind_eq_bind, Option.bind_some]
    rw [tV (by omega), ih (i + 1) _ (by omega), List.drop_eq_getElem_cons hlt, szL]
theorem implSize (a : zJ) (h : a.Dims.length ≤ 1048576) : pH a = some (sizeF a) := by
  unfold pH sizeF
  have := zFN a h _ 0 1 (Nat.zero_add _)
  rw [Int.natCast_zero, List.drop_zero] at this
  rw [this]; rfl
theorem zFO (a : zJ) (h : a.Dims.length ≤ 1048576) : ∀ (j i : Nat) (n : Int), i + j = a.Dims.length → uD a n (i : Int) = some (szL (a.Dims.drop i) n) := by
  intro j
  induction j with
  | zero =>
    intro i n hi
    rw [uD]
    have : ¬ ((i : Int) < (a.Dims.length : Int)) := by omega
    simp only [this, decide_false, Bool.false_eq_true, if_false]
    rw [List.drop_eq_nil_iff.2 (by omega)]; rfl
  | succ j ih =>
    intro i n hi
    rw [uD]
    have hlt : i < a.Dims.length := by omega
    have h1 : ((i : Int) < (a.Dims.length : Int)) := by omega
    simp only [h1, decide_true, if_true, xH hlt, Option.bind_eq_bind, Option.bind_some]
    rw [tV (by omega), ih (i + 1) _ (by omega), List.drop_eq_getElem_cons hlt, szL]
theorem specSize (a : zJ) (h : a.Dims.length ≤ 1048576) : pK a = some (sizeF a) := by
  unfold pK sizeF
  have := zFO a h _ 0 1 (Nat.zero_add _)
  rw [Int.natCast_zero, List.drop_zero] at this
  rw [this]; rfl
/-! Cells. -/
def cellS (p : List Int) : List Int → List zA → Int → Option Int
  | _, [], n => some n
  | [], _ :: _, _ => none
  | d :: ds, s :: ss, n => if 0 ≤ evA s p ∧ evA s p < d then cellS p ds ss (W (W (n * d) + evA s p)) else none
def cellF (a : zK) (p : List Int) : List zJ → Int → Int
  | [], _ => -1
  | x :: l, first => if x.Name.l = a.Array.l then (if a.Subs.length = x.Dims.length then (match cellS p x.Dims a.Subs 0 with | none => -1 | some n => W (first + n)) else -1) else cellF a p l (W (first + sizeF x))
def AV (a : zK) : Prop := a.Subs ≠ [] ∧ a.Subs.length ≤ 2 ∧ ∀ s ∈ a.Subs, s.Coefs.length = 4
def RV (l : List zJ) : Prop := l.length ≤ 100000 ∧ ∀ x ∈ l, x.Dims.length ≤ 1000 ∧ ∀ d ∈ x.Dims, dimB d = true
theorem AV.of {a : zK} {d : Int} (h : accB a d = true) : AV a := by
  simp only [accB, Bool.and_eq_true, decide_eq_true_eq] at h
  obtain ⟨⟨h1, h2, h3⟩, h4⟩ := h
  refine ⟨by intro e; rw [e] at h2; simp at h2, h3, fun s hs => ?_⟩
  have := List.all_eq_true.1 h4 s hs
  simp only [okA, validB, Bool.and_eq_true, decide_eq_true_eq] at this
  exact this.1.1.1
theorem RV.of {l : List zJ} (h : BR l) (hb : arrB l = true) : RV l := by
  refine ⟨h.1, fun x hx => ⟨h.2 x hx, ?_⟩⟩
  simp only [arrB, Bool.and_eq_true] at hb
  obtain ⟨i, hi, rfl⟩ := List.mem_iff_getElem.1 hx
  have := List.all_eq_true.1 hb.2 i (List.mem_range.2 hi)
  have hg : l.getD i ⟨⟨[]⟩, []⟩ = l[i] := by simp [hi]
  simp only [arrI, hg, Bool.and_eq_true] at this
  exact List.all_eq_true.1 this.2
theorem zFP (a : zK) (p : List Int) (x : zJ) (ha : AV a) (hp : p.length ≤ 4) (hx : x.Dims.length ≤ 1000 ∧ ∀ d ∈ x.Dims, dimB d = true) (hl : a.Subs.length = x.Dims.length) :
    ∀ (j i : Nat) (n : Int), i + j = a.Subs.length → vY a p x n (i : Int) = some (match cellS p (x.Dims.drop i) (a.Subs.drop i) n with | none => .ret (-1) | some m => .done m) := by
  obtain ⟨a1, a2, a3⟩ := ha
  intro j
  induction j with
  | zero =>
    intro i n hi
    rw [vY]
    have : ¬ ((i : Int) < (a.Subs.length : Int)) := by omega
    simp only [this, decide_false, Bool.false_eq_true, if_false]
    rw [show a.Subs.drop i = [] from List.drop_eq_nil_iff.2 (by omega), cellS]; rfl
  | succ j ih =>
    intro i n hi
    rw [vY]
    have hlt : i < a.Subs.length := by omega
    have hlt2 : i < x.Dims.length := by omega
    have h1 : ((i : Int) < (a.Subs.length : Int)) := by omega
    have hc := a3 _ (List.getElem_mem hlt)
    have hd := hx.2 _ (List.getElem_mem hlt2)
    simp only [dimB, Bool.and_eq_true, decide_eq_true_eq] at hd
    have hW : W (x.Dims[i] - 1) = x.Dims[i] - 1 := sR (by omega) (by omega)
    simp only [h1, decide_true, if_true, xH hlt, xH hlt2, Option.bind_eq_bind, Option.bind_some, implEval _ _ (show p.length ≤ a.Subs[i].Coefs.length by omega) (by omega), hW, pA]
    rw [tV (by omega), List.drop_eq_getElem_cons hlt, List.drop_eq_getElem_cons hlt2, cellS]
    by_cases hv : 0 ≤ evA a.Subs[i] p ∧ evA a.Subs[i] p < x.Dims[i]
    · have e1 : (decide (0 ≤ evA a.Subs[i] p) && decide (evA a.Subs[i] p ≤ x.Dims[i] - 1)) = true := by
        rw [Bool.and_eq_true, decide_eq_true_eq, decide_eq_true_eq]; omega
      simp only [e1, Bool.not_true, Bool.false_eq_true, if_false]
      rw [if_pos hv]
      exact ih (i + 1) _ (by omega)
    · have e1 : (decide (0 ≤ evA a.Subs[i] p) && decide (evA a.Subs[i] p ≤ x.Dims[i] - 1)) = false := by
        rw [Bool.and_eq_false_iff, decide_eq_false_iff_not, decide_eq_false_iff_not]; omega
      simp only [e1, Bool.not_false, if_true]
      rw [if_neg hv]; rfl
theorem zFQ (P : zZ) (a : zK) (p : List Int) (ha : AV a) (hp : p.length ≤ 4) (hR : RV P.Arrays) : ∀ (j i : Nat) (first : Int), i + j = P.Arrays.length →
    (match wR P a p first (i : Int) with | none => none | some (.ret r) => some r | some (.done _) => some (-1)) = some (cellF a p (P.Arrays.drop i) first) := by
  obtain ⟨r1, r2⟩ := hR
  intro j
  induction j with
  | zero =>
    intro i first hi
    rw [wR]
    have : ¬ ((i : Int) < (P.Arrays.length : Int)) := by omega
    simp only [this, decide_false, Bool.false_eq_true, if_false]
    rw [List.drop_eq_nil_iff.2 (by omega)]; rfl
  | succ j ih =>
    intro i first hi
    rw [wR]
    have hlt : i < P.Arrays.length := by omega
    have h1 : ((i : Int) < (P.Arrays.length : Int)) := by omega
    have hx := r2 _ (List.getElem_mem hlt)
    simp only [h1, decide_true, if_true, xH hlt, Option.bind_eq_bind, Option.bind_some, implSize _ (show P.Arrays[i].Dims.length ≤ 1048576 by omega)]
    rw [tV (by omega), List.drop_eq_getElem_cons hlt, cellF]
    by_cases hn : P.Arrays[i].Name.l = a.Array.l
    · have hb : (P.Arrays[i].Name.l == a.Array.l) = true := by simpa using hn
      rw [if_pos hn]
      simp only [hb, Bool.not_true, Bool.false_eq_true, if_false]
      clear hb hn
      by_cases hl : a.Subs.length = P.Arrays[i].Dims.length
      · have hl' : ((a.Subs.length : Int) != (P.Arrays[i].Dims.length : Int)) = false := by simp [hl]
        have h2 := zFP a p P.Arrays[i] ha hp hx hl _ 0 0 (Nat.zero_add _)
        rw [Int.natCast_zero, List.drop_zero, List.drop_zero] at h2
        rw [if_pos hl]
        simp only [hl', Bool.false_eq_true, if_false, h2, Option.bind_some]
        cases cellS p P.Arrays[i].Dims a.Subs 0 <;> rfl
      · have hl' : ((a.Subs.length : Int) != (P.Arrays[i].Dims.length : Int)) = true := by simp; omega
        rw [if_neg hl]
        simp only [hl', if_true]
        rfl
    · have hb : (P.Arrays[i].Name.l == a.Array.l) = false := by simpa using hn
      rw [if_neg hn]
      simp only [hb, Bool.not_false, if_true]
      exact ih (i + 1) _ (by omega)
theorem implCell (P : zZ) (a : zK) (p : List Int) (ha : AV a) (hp : p.length ≤ 4) (hR : RV P.Arrays) : sQ P a p = some (cellF a p P.Arrays 0) := by
  unfold sQ
  have := zFQ P a p ha hp hR _ 0 0 (Nat.zero_add _)
  rw [Int.natCast_zero, List.drop_zero] at this
  cases h : wR P a p 0 0 with
  | none => rw [h] at this; cases this
  | some o =>
    rw [h] at this
    cases o with
    | ret r => exact this
    | done u => exact this
theorem zFR (l : List zJ) (a : zK) (p : List Int) (q : Nat) (hq : q < l.length) (ha : AV a) (hp : p.length ≤ 4) (hx : l[q].Dims.length ≤ 1000 ∧ ∀ d ∈ l[q].Dims, dimB d = true) (hl : a.Subs.length = l[q].Dims.length) :
    ∀ (j i : Nat) (n : Int), i + j = a.Subs.length → vD l a p (q : Int) n (i : Int) = some (match cellS p (l[q].Dims.drop i) (a.Subs.drop i) n with | none => .ret (-1) | some m => .done m) := by
  obtain ⟨a1, a2, a3⟩ := ha
  intro j
  induction j with
  | zero =>
    intro i n hi
    rw [vD]
    have : ¬ ((i : Int) < (a.Subs.length : Int)) := by omega
    simp only [this, decide_false, Bool.false_eq_true, if_false]
    rw [show a.Subs.drop i = [] from List.drop_eq_nil_iff.2 (by omega), cellS]; rfl
  | succ j ih =>
    intro i n hi
    rw [vD]
    have hlt : i < a.Subs.length := by omega
    have hlt2 : i < l[q].Dims.length := by omega
    have h1 : ((i : Int) < (a.Subs.length : Int)) := by omega
    have hc := a3 _ (List.getElem_mem hlt)
    have hl' : ((a.Subs.length : Int) != (l[q].Dims.length : Int)) = false := by simp [hl]
    simp only [h1, decide_true, if_true, xH hlt, xH hq, xH hlt2, hl', Bool.false_eq_true, if_false, Option.bind_eq_bind, Option.bind_some, specEval _ _ (show p.length ≤ a.Subs[i].Coefs.length by omega) (by omega), Option.pure_def]
    rw [tV (by omega), List.drop_eq_getElem_cons hlt, List.drop_eq_getElem_cons hlt2, cellS]
    by_cases h0 : 0 ≤ evA a.Subs[i] p
    · have h0' : ¬ (evA a.Subs[i] p < 0) := by omega
      by_cases hd : evA a.Subs[i] p < l[q].Dims[i]
      · have hd' : ¬ (evA a.Subs[i] p ≥ l[q].Dims[i]) := by omega
        simp only [h0, h0', hd, hd', decide_false, Bool.false_eq_true, if_false, Option.bind_some, and_self, if_true]
        exact ih (i + 1) _ (by omega)
      · have hd' : (evA a.Subs[i] p ≥ l[q].Dims[i]) := by omega
        simp only [h0, h0', hd, hd', decide_false, decide_true, Bool.false_eq_true, if_false, Option.bind_some, and_false, if_true]
    · have h0' : (evA a.Subs[i] p < 0) := by omega
      simp only [h0, h0', decide_true, if_true, Option.bind_some, false_and, if_false]
theorem zFS (l : List zJ) (a : zK) (p : List Int) (ha : AV a) (hp : p.length ≤ 4) (hR : RV l) : ∀ (j i : Nat) (first : Int), i + j = l.length →
    (match vE l a p first (i : Int) with | none => none | some (.ret r) => some r | some (.done _) => some (-1)) = some (cellF a p (l.drop i) first) := by
  obtain ⟨r1, r2⟩ := hR
  intro j
  induction j with
  | zero =>
    intro i first hi
    rw [vE]
    have : ¬ ((i : Int) < (l.length : Int)) := by omega
    simp only [this, decide_false, Bool.false_eq_true, if_false]
    rw [List.drop_eq_nil_iff.2 (by omega)]; rfl
  | succ j ih =>
    intro i first hi
    rw [vE]
    have hlt : i < l.length := by omega
    have h1 : ((i : Int) < (l.length : Int)) := by omega
    have hx := r2 _ (List.getElem_mem hlt)
    simp only [h1, decide_true, if_true, xH hlt, Option.bind_eq_bind, Option.bind_some, specSize _ (show l[i].Dims.length ≤ 1048576 by omega)]
    rw [tV (by omega), List.drop_eq_getElem_cons hlt, cellF]
    by_cases hn : l[i].Name.l = a.Array.l
    · have hb : (l[i].Name.l == a.Array.l) = true := by simpa using hn
      rw [if_pos hn]
      simp only [hb, Bool.not_true, Bool.false_eq_true, if_false]
      clear hb hn
      by_cases hl : a.Subs.length = l[i].Dims.length
      · have h2 := zFR l a p i hlt ha hp hx hl _ 0 0 (Nat.zero_add _)
        rw [Int.natCast_zero, List.drop_zero, List.drop_zero] at h2
        rw [if_pos hl]
        simp only [h2, Option.bind_some]
        cases cellS p l[i].Dims a.Subs 0 <;> rfl
      · have hl' : ((a.Subs.length : Int) != (l[i].Dims.length : Int)) = true := by simp; omega
        have hpos : ((0 : Int) < (a.Subs.length : Int)) := by
          have := List.length_pos_iff.2 ha.1; omega
        rw [vD]
        rw [if_neg hl]
        simp only [hpos, decide_true, if_true, xH hlt, Option.bind_eq_bind, Option.bind_some, hl']
        rfl
    · have hb : (l[i].Name.l == a.Array.l) = false := by simpa using hn
      rw [if_neg hn]
      simp only [hb, Bool.not_false, if_true]
      exact ih (i + 1) _ (by omega)
theorem specCell (l : List zJ) (a : zK) (p : List Int) (ha : AV a) (hp : p.length ≤ 4) (hR : RV l) : qF l a p = some (cellF a p l 0) := by
  unfold qF
  have := zFS l a p ha hp hR _ 0 0 (Nat.zero_add _)
  rw [Int.natCast_zero, List.drop_zero] at this
  cases h : vE l a p 0 0 with
  | none => rw [h] at this; cases this
  | some o =>
    rw [h] at this
    cases o with
    | ret r => exact this
    | done u => exact this
end Go.LN
