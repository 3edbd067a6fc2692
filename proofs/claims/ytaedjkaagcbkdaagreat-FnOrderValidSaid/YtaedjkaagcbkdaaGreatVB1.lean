/- Values: affine expressions, bounds, nests. -/
import Derived.Test.YtaedjkaagcbkdaaGreatQT
import Derived.Test.YtaedjkaagcbkdaaGreatHM7
namespace Go.LN
set_option linter.unusedVariables false
set_option linter.unusedSimpArgs false
/-! Small laws of the words. -/
theorem oN {α : Type} {b : Nat} {l k : List α} (h : (l.length + k.length) * b ≤ 140737488355328) : app b l k = some (l ++ k) := by
  unfold app; rw [if_pos h]
theorem zGz {f : Int → Option Bool} {p : Int → Bool} (s : List Int) (hf : ∀ x ∈ s, f x = some (p x)) (hs : s.length ≤ 9223372036854775806) : ∀ j k, k + j = s.length →
    xQ s f (k : Int) = some (match (s.drop k).findIdx? p with | some i => .ret (((k + i : Nat)) : Int) | none => .done ()) := by
  intro j
  induction j with
  | zero =>
    intro k hk
    rw [xQ]
    have : ¬ ((k : Int) < (s.length : Int)) := by omega
    simp [this, List.drop_eq_nil_iff.2 (show s.length ≤ k by omega)]
  | succ j ih =>
    intro k hk
    rw [xQ]
    have hlt : k < s.length := by omega
    have : ((k : Int) < (s.length : Int)) := by omega
    simp only [this, decide_true, if_true, dR, List.getElem?_eq_getElem hlt, Option.bind_eq_bind, Option.bind_some, hf _ (List.getElem_mem hlt)]
    rw [List.drop_eq_getElem_cons hlt, List.findIdx?_cons]
    cases hp : p s[k] with
    | true => simp
    | false =>
      simp only [Bool.false_eq_true, if_false]
      rw [zDA (by omega), ih (k + 1) (by omega)]
      cases hx : List.findIdx? p (List.drop (k + 1) s) with
      | none => simp
      | some i => simp; omega
theorem dK {f : Int → Option Bool} {p : Int → Bool} (s : List Int) (hf : ∀ x ∈ s, f x = some (p x)) (hs : s.length ≤ 9223372036854775806) : xD s f = some (s.any p) := by
  unfold xD sM
  have := zGz s hf hs s.length 0 (by omega)
  rw [List.drop_zero] at this
  simp only [Int.natCast_zero, Option.bind_eq_bind] at this ⊢
  rw [this]
  cases h : List.findIdx? p s with
  | none =>
    have : s.any p = false := by simpa using List.findIdx?_eq_none_iff.1 h
    simp [this]
  | some i =>
    have : s.any p = true := by
      obtain ⟨h1, h2⟩ := List.findIdx?_eq_some_iff_getElem.1 h
      exact List.any_eq_true.2 ⟨s[i], List.getElem_mem h1, h2.1⟩
    simp [this]
/-! Validity. -/
def coefB (c : Int) : Bool := decide (-9 ≤ c) && decide (c ≤ 9)
def constB (c : Int) : Bool := decide (-99 ≤ c) && decide (c ≤ 99)
def validB (a : zA) : Bool := decide (a.Coefs.length = 4) && constB a.Const && a.Coefs.all coefB
theorem pA (n lo hi : Int) : xT n lo hi = some (decide (lo ≤ n) && decide (n ≤ hi)) := by
  unfold xT
  by_cases h : lo ≤ n <;> simp [h]
theorem implValid (a : zA) (h : a.Coefs.length ≤ 1048576) : tS a = some (validB a) := by
  unfold tS validB mF
  have e : ((a.Coefs.length : Int) == 4) = decide (a.Coefs.length = 4) := by
    by_cases h4 : a.Coefs.length = 4
    · simp [h4]
    · have : ¬ (a.Coefs.length : Int) = 4 := by omega
      simp [h4, this]
  rw [pA, e]
  by_cases h4 : a.Coefs.length = 4
  · have hc : xD a.Coefs uQ = some (a.Coefs.any fun c => !coefB c) := by
      refine dK _ (fun x _ => ?_) (by omega)
      unfold uQ
      rw [pA]
      rfl
    simp only [h4, decide_true, if_true, Option.bind_eq_bind, Option.bind_some, Option.pure_def, id, hc, Bool.true_and]
    rw [show (decide (-99 ≤ a.Const) && decide (a.Const ≤ 99)) = constB a.Const from rfl]
    cases hk : constB a.Const with
    | false => simp
    | true =>
      simp only [if_true, Option.bind_eq_bind, Option.bind_some, Bool.true_and]
      rw [List.not_any_eq_all_not]
      simp
  · simp [h4]
theorem specWithin (n : Int) (k : Nat) (hk : k ≤ 1000) : wK n (k : Int) = some (decide (-(k : Int) ≤ n) && decide (n ≤ k)) := by
  unfold wK
  rw [sR (by omega) (by omega)]
  by_cases h : (-(k : Int)) ≤ n
  · have : n ≥ 0 - (k : Int) := by omega
    simp [h, this]
  · have : ¬ n ≥ 0 - (k : Int) := by omega
    simp [h, this]
theorem zE5 (a : zA) (h : a.Coefs.length ≤ 1048576) : ∀ j k, k + j = a.Coefs.length → xS a (k : Int) = some (if (a.Coefs.drop k).all coefB then .done () else .ret false) := by
  intro j
  induction j with
  | zero =>
    intro k hk
    rw [xS]
    have : ¬ ((k : Int) < (a.Coefs.length : Int)) := by omega
    simp [this, List.drop_eq_nil_iff.2 (show a.Coefs.length ≤ k by omega)]
  | succ j ih =>
    intro k hk
    rw [xS]
    have hlt : k < a.Coefs.length := by omega
    have h1 : ((k : Int) < (a.Coefs.length : Int)) := by omega
    have hw : wK a.Coefs[k] 9 = some (coefB a.Coefs[k]) := specWithin _ 9 (by omega)
    simp only [h1, decide_true, if_true, dR, List.getElem?_eq_getElem hlt, Option.bind_eq_bind, Option.bind_some, hw]
    rw [List.drop_eq_getElem_cons hlt, List.all_cons]
    cases hp : coefB a.Coefs[k] with
    | false => simp
    | true =>
      simp only [Bool.not_true, Bool.false_eq_true, if_false, Bool.true_and]
      rw [zDA (by omega), ih (k + 1) (by omega)]
theorem specValid (a : zA) (h : a.Coefs.length ≤ 1048576) : wT a = some (validB a) := by
  unfold wT validB
  have e : ((a.Coefs.length : Int) == 4) = decide (a.Coefs.length = 4) := by
    by_cases h4 : a.Coefs.length = 4
    · simp [h4]
    · have : ¬ (a.Coefs.length : Int) = 4 := by omega
      simp [h4, this]
  have hl := zE5 a h _ 0 (Nat.zero_add _)
  have hw : wK a.Const 99 = some (constB a.Const) := specWithin _ 99 (by omega)
  rw [List.drop_zero, Int.natCast_zero] at hl
  rw [hl, e, hw]
  by_cases hall : a.Coefs.all coefB = true
  · simp only [hall, if_true, Option.bind_eq_bind, Option.bind_some]
    by_cases h4 : a.Coefs.length = 4 <;> simp [h4]
  · simp only [hall, if_false, Option.bind_eq_bind, Option.bind_some]
    simp
theorem zE6 {f : zA → Option Bool} {p : zA → Bool} (s : List zA) (hf : ∀ x ∈ s, f x = some (p x)) (hs : s.length ≤ 9223372036854775806) : ∀ j k, k + j = s.length →
    yX s f (k : Int) = some (match (s.drop k).findIdx? p with | some i => .ret (((k + i : Nat)) : Int) | none => .done ()) := by
  intro j
  induction j with
  | zero =>
    intro k hk
    rw [yX]
    have : ¬ ((k : Int) < (s.length : Int)) := by omega
    simp [this, List.drop_eq_nil_iff.2 (show s.length ≤ k by omega)]
  | succ j ih =>
    intro k hk
    rw [yX]
    have hlt : k < s.length := by omega
    have : ((k : Int) < (s.length : Int)) := by omega
    simp only [this, decide_true, if_true, dR, List.getElem?_eq_getElem hlt, Option.bind_eq_bind, Option.bind_some, hf _ (List.getElem_mem hlt)]
    rw [List.drop_eq_getElem_cons hlt, List.findIdx?_cons]
    cases hp : p s[k] with
    | true => simp
    | false =>
      simp only [Bool.false_eq_true, if_false]
      rw [zDA (by omega), ih (k + 1) (by omega)]
      cases hx : List.findIdx? p (List.drop (k + 1) s) with
      | none => simp
      | some i => simp; omega
theorem zB7 {f : zA → Option Bool} {p : zA → Bool} (s : List zA) (hf : ∀ x ∈ s, f x = some (p x)) (hs : s.length ≤ 9223372036854775806) : xA s f = some (s.any p) := by
  unfold xA xZ
  have := zE6 s hf hs s.length 0 (by omega)
  rw [List.drop_zero] at this
  simp only [Int.natCast_zero, Option.bind_eq_bind] at this ⊢
  rw [this]
  cases h : List.findIdx? p s with
  | none =>
    have : s.any p = false := by simpa using List.findIdx?_eq_none_iff.1 h
    simp [this]
  | some i =>
    have : s.any p = true := by
      obtain ⟨h1, h2⟩ := List.findIdx?_eq_some_iff_getElem.1 h
      exact List.any_eq_true.2 ⟨s[i], List.getElem_mem h1, h2.1⟩
    simp [this]
theorem zE7 {f : zR → Option Bool} {p : zR → Bool} (s : List zR) (hf : ∀ x ∈ s, f x = some (p x)) (hs : s.length ≤ 9223372036854775806) : ∀ j k, k + j = s.length →
    yZ s f (k : Int) = some (match (s.drop k).findIdx? p with | some i => .ret (((k + i : Nat)) : Int) | none => .done ()) := by
  intro j
  induction j with
  | zero =>
    intro k hk
    rw [yZ]
    have : ¬ ((k : Int) < (s.length : Int)) := by omega
    simp [this, List.drop_eq_nil_iff.2 (show s.length ≤ k by omega)]
  | succ j ih =>
    intro k hk
    rw [yZ]
    have hlt : k < s.length := by omega
    have : ((k : Int) < (s.length : Int)) := by omega
    simp only [this, decide_true, if_true, dR, List.getElem?_eq_getElem hlt, Option.bind_eq_bind, Option.bind_some, hf _ (List.getElem_mem hlt)]
    rw [List.drop_eq_getElem_cons hlt, List.findIdx?_cons]
    cases hp : p s[k] with
    | true => simp
    | false =>
      simp only [Bool.false_eq_true, if_false]
      rw [zDA (by omega), ih (k + 1) (by omega)]
      cases hx : List.findIdx? p (List.drop (k + 1) s) with
      | none => simp
      | some i => simp; omega
theorem zE8 {f : zR → Option Bool} {p : zR → Bool} (s : List zR) (hf : ∀ x ∈ s, f x = some (p x)) (hs : s.length ≤ 9223372036854775806) : xN s f = some (s.any p) := by
  unfold xN wQ
  have := zE7 s hf hs s.length 0 (by omega)
  rw [List.drop_zero] at this
  simp only [Int.natCast_zero, Option.bind_eq_bind] at this ⊢
  rw [this]
  cases h : List.findIdx? p s with
  | none =>
    have : s.any p = false := by simpa using List.findIdx?_eq_none_iff.1 h
    simp [this]
  | some i =>
    have : s.any p = true := by
      obtain ⟨h1, h2⟩ := List.findIdx?_eq_some_iff_getElem.1 h
      exact List.any_eq_true.2 ⟨s[i], List.getElem_mem h1, h2.1⟩
    simp [this]
theorem zE9 {f : zK → Option Bool} {p : zK → Bool} (s : List zK) (hf : ∀ x ∈ s, f x = some (p x)) (hs : s.length ≤ 9223372036854775806) : ∀ j k, k + j = s.length →
    yY s f (k : Int) = some (match (s.drop k).findIdx? p with | some i => .ret (((k + i : Nat)) : Int) | none => .done ()) := by
  intro j
  induction j with
  | zero =>
    intro k hk
    rw [yY]
    have : ¬ ((k : Int) < (s.length : Int)) := by omega
    simp [this, List.drop_eq_nil_iff.2 (show s.length ≤ k by omega)]
  | succ j ih =>
    intro k hk
    rw [yY]
    have hlt : k < s.length := by omega
    have : ((k : Int) < (s.length : Int)) := by omega
    simp only [this, decide_true, if_true, dR, List.getElem?_eq_getElem hlt, Option.bind_eq_bind, Option.bind_some, hf _ (List.getElem_mem hlt)]
    rw [List.drop_eq_getElem_cons hlt, List.findIdx?_cons]
    cases hp : p s[k] with
    | true => simp
    | false =>
      simp only [Bool.false_eq_true, if_false]
      rw [zDA (by omega), ih (k + 1) (by omega)]
      cases hx : List.findIdx? p (List.drop (k + 1) s) with
      | none => simp
      | some i => simp; omega
theorem zEa {f : zK → Option Bool} {p : zK → Bool} (s : List zK) (hf : ∀ x ∈ s, f x = some (p x)) (hs : s.length ≤ 9223372036854775806) : xJ s f = some (s.any p) := by
  unfold xJ wA
  have := zE9 s hf hs s.length 0 (by omega)
  rw [List.drop_zero] at this
  simp only [Int.natCast_zero, Option.bind_eq_bind] at this ⊢
  rw [this]
  cases h : List.findIdx? p s with
  | none =>
    have : s.any p = false := by simpa using List.findIdx?_eq_none_iff.1 h
    simp [this]
  | some i =>
    have : s.any p = true := by
      obtain ⟨h1, h2⟩ := List.findIdx?_eq_some_iff_getElem.1 h
      exact List.any_eq_true.2 ⟨s[i], List.getElem_mem h1, h2.1⟩
    simp [this]
/-! Loops. -/
theorem mH {n : Nat} {f : Int → Option (Out Unit Bool)} {P : Nat → Bool} (step : ∀ i, i < n → f (i : Int) = if P i then f ((i + 1 : Nat) : Int) else some (.ret false)) (fin : f (n : Int) = some (.done ())) : f 0 = some (if (List.range n).all P then .done () else .ret false) := by
  have key : ∀ j i, i + j = n → f (i : Int) = some (if (List.range' i j).all P then .done () else .ret false) := by
    intro j
    induction j with
    | zero => intro i hi; rw [show i = n by omega, fin]; rfl
    | succ j ih =>
      intro i hi
      rw [step i (by omega), List.range'_succ, List.all_cons]
      cases hP : P i with
      | false => simp
      | true => simp only [if_true, Bool.true_and]; exact ih (i + 1) (by omega)
  have := key n 0 (by omega)
  rw [List.range_eq_range']
  exact this
theorem mT {α : Type} (l : List α) (P : α → Bool) (d : α) : (List.range l.length).all (fun i => P (l.getD i d)) = l.all P := by
  rw [Bool.eq_iff_iff, List.all_eq_true, List.all_eq_true]
  constructor
  · intro h x hx
    obtain ⟨i, hi, rfl⟩ := List.mem_iff_getElem.1 hx
    have := h i (List.mem_range.2 hi)
    simpa [hi] using this
  · intro h i hi
    have hi := List.mem_range.1 hi
    simp only [List.getD_eq_getElem?_getD, List.getElem?_eq_getElem hi, Option.getD_some]
    exact h _ (List.getElem_mem hi)
theorem xH {α : Type} {l : List α} {i : Nat} (h : i < l.length) : idx l (i : Int) = some l[i] := by rw [dR, List.getElem?_eq_getElem h]
theorem tV {i : Nat} (h : i < 9223372036854775807) : W ((i : Int) + 1) = ((i + 1 : Nat) : Int) := by rw [sR (by omega) (by omega)]; omega
/-! Depth. -/
def depL : List Int → Nat → Nat → Nat
  | [], _, n => n
  | c :: C, i, n => depL C (i + 1) (if c = 0 then n else i + 1)
def depF (a : zA) : Nat := depL a.Coefs 0 0
theorem zEb (a : zA) (h : a.Coefs.length ≤ 1048576) : ∀ (j i n : Nat), i + j = a.Coefs.length → vL a (n : Int) (i : Int) = some ((depL (a.Coefs.drop i) i n : Nat) : Int) := by
  intro j
  induction j with
  | zero =>
    intro i n hi
    rw [vL]
    have : ¬ ((i : Int) < (a.Coefs.length : Int)) := by omega
    simp only [this, decide_false, Bool.false_eq_true, if_false]
    rw [List.drop_eq_nil_iff.2 (by omega)]
    rfl
  | succ j ih =>
    intro i n hi
    rw [vL]
    have hlt : i < a.Coefs.length := by omega
    have h1 : ((i : Int) < (a.Coefs.length : Int)) := by omega
    simp only [h1, decide_true, if_true, xH hlt, Option.bind_eq_bind, Option.bind_some]
    rw [List.drop_eq_getElem_cons hlt, depL, tV (by omega)]
    by_cases h0 : a.Coefs[i] = 0
    · simp only [h0, bne_self_eq_false, Bool.false_eq_true, if_false, if_true, Option.pure_def, Option.bind_some, id]
      exact ih (i + 1) n (by omega)
    · have hb : (a.Coefs[i] != 0) = true := by simpa using h0
      simp only [hb, if_true, h0, if_false, Option.pure_def, Option.bind_some]
      exact ih (i + 1) (i + 1) (by omega)
theorem specDepth (a : zA) (h : a.Coefs.length ≤ 1048576) : sF a = some ((depF a : Nat) : Int) := by
  unfold sF depF
  have := zEb a h _ 0 0 (Nat.zero_add _)
  rw [Int.natCast_zero, List.drop_zero] at this
  rw [this]; rfl
theorem zFG : ∀ (C D : List Int) (i n : Nat), depL (C ++ D) i n = depL D (i + C.length) (depL C i n)
  | [], D, i, n => rfl
  | c :: C, D, i, n => by rw [List.cons_append, depL, depL, zFG C D, List.length_cons, show i + 1 + C.length = i + (C.length + 1) by omega]
theorem zEc (a : zA) (h : a.Coefs.length ≤ 1048576) : ∀ n, n ≤ a.Coefs.length → depL (a.Coefs.drop n) n n = n → ∀ m : Nat, (∀ k, depL (a.Coefs.drop n) n k = k) → vW a (n : Int) = some ((depL (a.Coefs.take n) 0 0 : Nat) : Int) := by
  intro n
  induction n with
  | zero =>
    intro _ _ _ _
    rw [vW]
    rfl
  | succ n ih =>
    intro hn h1 m hk
    rw [vW]
    have h0 : (((n + 1 : Nat) : Int) > 0) := by omega
    have hlt : n < a.Coefs.length := by omega
    have hW : W (((n + 1 : Nat) : Int) - 1) = (n : Int) := by rw [sR (by omega) (by omega)]; omega
    simp only [h0, decide_true, if_true, hW, xH hlt, Option.bind_eq_bind, Option.bind_some, Option.pure_def]
    rw [List.take_add_one, List.getElem?_eq_getElem hlt, Option.toList_some, zFG]
    by_cases hc : a.Coefs[n] = 0
    · simp only [hc, BEq.rfl, if_true, depL]
      have hk' : ∀ k, depL (a.Coefs.drop n) n k = k := fun k => by rw [List.drop_eq_getElem_cons hlt, depL, hc, if_pos rfl]; exact hk k
      exact ih (by omega) (hk' n) 0 hk'
    · have hb : (a.Coefs[n] == 0) = false := by simpa using hc
      simp only [hb, Bool.false_eq_true, if_false, depL, hc, id, List.length_take]
      rw [show 0 + min n a.Coefs.length + 1 = n + 1 by omega]
theorem implDepth (a : zA) (h : a.Coefs.length ≤ 1048576) : tG a = some ((depF a : Nat) : Int) := by
  unfold tG depF
  have hd : ∀ k, depL (a.Coefs.drop a.Coefs.length) a.Coefs.length k = k := fun k => by rw [List.drop_length]; rfl
  have := zEc a h a.Coefs.length (Nat.le_refl _) (hd _) 0 hd
  rw [List.take_length] at this
  rw [this]; rfl
/-! Bounds. -/
def BA (a : zA) : Prop := a.Coefs.length ≤ 1000
def BL (l : List zA) : Prop := l.length ≤ 1000 ∧ ∀ a ∈ l, BA a
def okA (depth : Int) (a : zA) : Bool := validB a && decide ((depF a : Int) ≤ depth)
def sideB (l : List zA) (depth : Int) : Bool := (decide (1 ≤ l.length) && decide (l.length ≤ 2)) && l.all (okA depth)
theorem implBound (a : zA) (h : BA a) (d : Int) : tK a d = some (!(okA d a)) := by
  unfold tK okA
  have h' : a.Coefs.length ≤ 1048576 := by unfold BA at h; omega
  rw [implValid a h', implDepth a h']
  cases validB a with
  | false => rfl
  | true =>
    by_cases hd : (depF a : Int) ≤ d
    · have : ¬ ((depF a : Int) > d) := by omega
      simp [hd, this]
    · have : ((depF a : Int) > d) := by omega
      simp [hd, this]
theorem implSide (l : List zA) (h : BL l) (d : Int) : qX l d = some (sideB l d) := by
  unfold qX sideB
  rw [pA]
  have e1 : decide ((1 : Int) ≤ (l.length : Int)) = decide (1 ≤ l.length) := by simp; omega
  have e2 : decide ((l.length : Int) ≤ 2) = decide (l.length ≤ 2) := by simp; omega
  rw [e1, e2]
  have hc := zB7 (f := fun x0 => tK x0 d) (p := fun x => !(okA d x)) l (fun x hx => implBound x (h.2 x hx) d) (by have := h.1; omega)
  cases hb : (decide (1 ≤ l.length) && decide (l.length ≤ 2)) with
  | false => rfl
  | true =>
    simp only [Option.bind_eq_bind, Option.bind_some, if_true, hc, Option.pure_def, id, Bool.true_and]
    rw [List.not_any_eq_all_not]
    simp
theorem specSide (l : List zA) (h : BL l) (d : Int) : qG l d = some (sideB l d) := by
  unfold qG sideB
  have hlen := h.1
  have hl := mH (n := l.length) (f := uF l d) (P := fun i => okA d (l.getD i ⟨[], 0⟩)) (fun i hi => by
      rw [uF]
      have h1 : ((i : Int) < (l.length : Int)) := by omega
      have ha : l[i].Coefs.length ≤ 1048576 := by have := h.2 _ (List.getElem_mem hi); unfold BA at this; omega
      have hg : l.getD i ⟨[], 0⟩ = l[i] := by simp [hi]
      simp only [h1, decide_true, if_true, xH hi, Option.bind_eq_bind, Option.bind_some, specValid _ ha, specDepth _ ha, hg, okA]
      rw [tV (by omega)]
      cases validB l[i] with
      | false => rfl
      | true =>
        by_cases hd : (depF l[i] : Int) ≤ d
        · have : ¬ ((depF l[i] : Int) > d) := by omega
          simp [hd, this]
        · have : ((depF l[i] : Int) > d) := by omega
          simp [hd, this]) (by
      rw [uF]; simp)
  rw [hl, mT l (okA d)]
  cases hb : l.all (okA d) with
  | false => simp
  | true =>
    simp only [if_true, Option.bind_eq_bind, Option.bind_some, Bool.and_true]
    by_cases e1 : 1 ≤ l.length
    · have : ((l.length : Int) ≥ 1) := by omega
      have e2 : decide ((l.length : Int) ≤ 2) = decide (l.length ≤ 2) := by simp; omega
      simp [this, e1, e2]
    · have : ¬ ((l.length : Int) ≥ 1) := by omega
      simp [this, e1]
/-! Nests. -/
def BN (nest : List zI) : Prop := nest.length ≤ 100000 ∧ ∀ x ∈ nest, BL x.Lo ∧ BL x.Hi
def nestB (nest : List zI) : Bool := decide (nest.length ≤ 4) && (List.range nest.length).all fun i => sideB (nest.getD i ⟨[], []⟩).Lo i && sideB (nest.getD i ⟨[], []⟩).Hi i
theorem implNest (nest : List zI) (h : BN nest) : pX nest = some (nestB nest) := by
  unfold pX nestB
  have hlen := h.1
  have hl := mH (n := nest.length) (f := tH nest) (P := fun i => sideB (nest.getD i ⟨[], []⟩).Lo i && sideB (nest.getD i ⟨[], []⟩).Hi i) (fun i hi => by
      rw [tH]
      have h1 : ((i : Int) < (nest.length : Int)) := by omega
      have ha := h.2 _ (List.getElem_mem hi)
      have hg : nest.getD i ⟨[], []⟩ = nest[i] := by simp [hi]
      simp only [h1, decide_true, if_true, xH hi, Option.bind_eq_bind, Option.bind_some, implSide _ ha.1, implSide _ ha.2, hg]
      rw [tV (by omega)]
      cases sideB nest[i].Lo i with
      | false => rfl
      | true => cases sideB nest[i].Hi i <;> rfl) (by
      rw [tH]; simp)
  rw [hl]
  have e2 : decide ((nest.length : Int) ≤ 4) = decide (nest.length ≤ 4) := by simp; omega
  cases hb : (List.range nest.length).all fun i => sideB (nest.getD i ⟨[], []⟩).Lo i && sideB (nest.getD i ⟨[], []⟩).Hi i with
  | false => simp
  | true => simp [e2]
theorem specNest (nest : List zI) (h : BN nest) : sY nest = some (nestB nest) := by
  unfold sY nestB
  have hlen := h.1
  have e2 : decide ((nest.length : Int) ≤ 4) = decide (nest.length ≤ 4) := by simp; omega
  by_cases h4 : nest.length ≤ 4
  · have hl := mH (n := nest.length) (f := xW nest) (P := fun i => sideB (nest.getD i ⟨[], []⟩).Lo i && sideB (nest.getD i ⟨[], []⟩).Hi i) (fun i hi => by
        rw [xW]
        have h1 : ((i : Int) < (nest.length : Int)) := by omega
        have ha := h.2 _ (List.getElem_mem hi)
        have hg : nest.getD i ⟨[], []⟩ = nest[i] := by simp [hi]
        simp only [h1, e2, h4, decide_true, if_true, xH hi, Option.pure_def, Option.bind_eq_bind, Option.bind_some, specSide _ ha.1, specSide _ ha.2, hg]
        rw [tV (by omega)]
        cases sideB nest[i].Lo i with
        | false => rfl
        | true => cases sideB nest[i].Hi i <;> rfl) (by
        rw [xW]; simp)
    rw [hl, e2]
    cases hb : (List.range nest.length).all fun i => sideB (nest.getD i ⟨[], []⟩).Lo i && sideB (nest.getD i ⟨[], []⟩).Hi i with
    | false => simp
    | true => simp
  · rw [xW]
    by_cases h0 : (0 : Int) < (nest.length : Int) <;> simp [h0, e2, h4]
end Go.LN
