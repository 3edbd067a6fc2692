/- Values: the points of a nest. -/
import Derived.Test.YtaedjkaagcbkdaaGreatVB1
namespace Go.LN
set_option linter.unusedVariables false
set_option linter.unusedSimpArgs false
def J64 (x : Int) : Prop := -9223372036854775808 ≤ x ∧ x ≤ 9223372036854775807
theorem zIW (x : Int) : J64 (W x) := by
  show -9223372036854775808 ≤ IntKind.i64.wrap x ∧ IntKind.i64.wrap x ≤ 9223372036854775807
  rw [IntKind.wrap_i64]; omega
def evC : List Int → List Int → Int → Int
  | c :: C, x :: p, n => evC C p (W (n + W (c * x)))
  | _, _, n => n
def evA (a : zA) (p : List Int) : Int := evC a.Coefs p a.Const
theorem zFt (C : List Int) (n : Int) : evC C [] n = n := by cases C <;> rfl
theorem zHA (p : List Int) (n : Int) : evC [] p n = n := by cases p <;> rfl
theorem zB8 : ∀ (C p : List Int) (n : Int), J64 n → J64 (evC C p n)
  | [], p, n, h => by rw [zHA]; exact h
  | c :: C, [], n, h => h
  | c :: C, x :: p, n, h => zB8 C p _ (zIW _)
theorem zFH (a : zA) (p : List Int) (h : p.length ≤ a.Coefs.length) (hp : p.length ≤ 1048576) : ∀ j i n, i + j = p.length → uL a p n (i : Int) = some (evC (a.Coefs.drop i) (p.drop i) n) := by
  intro j
  induction j with
  | zero =>
    intro i n hi
    rw [uL]
    have : ¬ ((i : Int) < (p.length : Int)) := by omega
    simp only [this, decide_false, Bool.false_eq_true, if_false]
    rw [show p.drop i = [] from List.drop_eq_nil_iff.2 (by omega), zFt]
    rfl
  | succ j ih =>
    intro i n hi
    rw [uL]
    have hlt : i < p.length := by omega
    have hlt2 : i < a.Coefs.length := by omega
    have h1 : ((i : Int) < (p.length : Int)) := by omega
    simp only [h1, decide_true, if_true, xH hlt, xH hlt2, Option.bind_eq_bind, Option.bind_some]
    rw [tV (by omega), ih (i + 1) _ (by omega), List.drop_eq_getElem_cons hlt, List.drop_eq_getElem_cons hlt2, evC]
theorem implEval (a : zA) (p : List Int) (h : p.length ≤ a.Coefs.length) (hp : p.length ≤ 1048576) : vX a p = some (evA a p) := by
  unfold vX evA
  have := zFH a p h hp _ 0 a.Const (Nat.zero_add _)
  rw [Int.natCast_zero, List.drop_zero, List.drop_zero] at this
  rw [this]; rfl
theorem zFI (a : zA) (p : List Int) (h : p.length ≤ a.Coefs.length) (hp : p.length ≤ 1048576) : ∀ j i n, i + j = p.length → uE a p n (i : Int) = some (evC (a.Coefs.drop i) (p.drop i) n) := by
  intro j
  induction j with
  | zero =>
    intro i n hi
    rw [uE]
    have : ¬ ((i : Int) < (p.length : Int)) := by omega
    simp only [this, decide_false, Bool.false_eq_true, if_false, Option.pure_def, Option.bind_eq_bind, Option.bind_some]
    rw [show p.drop i = [] from List.drop_eq_nil_iff.2 (by omega), zFt]
    rfl
  | succ j ih =>
    intro i n hi
    rw [uE]
    have hlt : i < p.length := by omega
    have hlt2 : i < a.Coefs.length := by omega
    have h1 : ((i : Int) < (p.length : Int)) := by omega
    have h2 : ((i : Int) < (a.Coefs.length : Int)) := by omega
    simp only [h1, h2, decide_true, if_true, xH hlt, xH hlt2, Option.pure_def, Option.bind_eq_bind, Option.bind_some]
    rw [tV (by omega), ih (i + 1) _ (by omega), List.drop_eq_getElem_cons hlt, List.drop_eq_getElem_cons hlt2, evC]
theorem specEval (a : zA) (p : List Int) (h : p.length ≤ a.Coefs.length) (hp : p.length ≤ 1048576) : tM a p = some (evA a p) := by
  unfold tM evA
  have := zFI a p h hp _ 0 a.Const (Nat.zero_add _)
  rw [Int.natCast_zero, List.drop_zero, List.drop_zero] at this
  rw [this]; rfl
/-! The span of a loop. -/
def mxF (p : List Int) : List zA → Int → Int
  | [], n => n
  | a :: l, n => mxF p l (if evA a p > n then evA a p else n)
def mnF (p : List Int) : List zA → Int → Int
  | [], n => n
  | a :: l, n => mnF p l (if evA a p < n then evA a p else n)
def loF (l : zI) (p : List Int) : Int := match l.Lo with | [] => 0 | a :: r => mxF p r (evA a p)
def hiF (l : zI) (p : List Int) : Int := match l.Hi with | [] => 0 | a :: r => mnF p r (evA a p)
def OV (l : List zA) : Prop := l ≠ [] ∧ l.length ≤ 1000 ∧ ∀ a ∈ l, a.Coefs.length = 4 ∧ J64 a.Const
theorem zFu (p : List Int) : ∀ (l : List zA) (n : Int), J64 n → (∀ a ∈ l, J64 a.Const) → J64 (mxF p l n)
  | [], n, h, _ => h
  | a :: l, n, h, hl => by
    refine zFu p l _ ?_ (fun x hx => hl x (List.mem_cons_of_mem _ hx))
    split
    · exact zB8 _ _ _ (hl a (List.mem_cons_self ..))
    · exact h
theorem zFv (p : List Int) : ∀ (l : List zA) (n : Int), J64 n → (∀ a ∈ l, J64 a.Const) → J64 (mnF p l n)
  | [], n, h, _ => h
  | a :: l, n, h, hl => by
    refine zFv p l _ ?_ (fun x hx => hl x (List.mem_cons_of_mem _ hx))
    split
    · exact zB8 _ _ _ (hl a (List.mem_cons_self ..))
    · exact h
theorem zEd {l : zI} (p : List Int) (h : OV l.Lo) : J64 (loF l p) := by
  unfold loF
  obtain ⟨h1, _, h2⟩ := h
  cases hl : l.Lo with
  | nil => exact absurd hl h1
  | cons a r =>
    rw [hl] at h2
    exact zFu _ _ _ (zB8 _ _ _ (h2 a (List.mem_cons_self ..)).2) fun x hx => (h2 x (List.mem_cons_of_mem _ hx)).2
theorem zEe {l : zI} (p : List Int) (h : OV l.Hi) : J64 (hiF l p) := by
  unfold hiF
  obtain ⟨h1, _, h2⟩ := h
  cases hl : l.Hi with
  | nil => exact absurd hl h1
  | cons a r =>
    rw [hl] at h2
    exact zFv _ _ _ (zB8 _ _ _ (h2 a (List.mem_cons_self ..)).2) fun x hx => (h2 x (List.mem_cons_of_mem _ hx)).2
theorem zFJ (l : zI) (p : List Int) (hp : p.length ≤ 4) (h : OV l.Lo) : ∀ j i n, i + j = l.Lo.length → tI l p n (i : Int) = some (mxF p (l.Lo.drop i) n) := by
  obtain ⟨_, hl, h2⟩ := h
  intro j
  induction j with
  | zero =>
    intro i n hi
    rw [tI]
    have : ¬ ((i : Int) < (l.Lo.length : Int)) := by omega
    simp only [this, decide_false, Bool.false_eq_true, if_false]
    rw [List.drop_eq_nil_iff.2 (by omega)]; rfl
  | succ j ih =>
    intro i n hi
    rw [tI]
    have hlt : i < l.Lo.length := by omega
    have h1 : ((i : Int) < (l.Lo.length : Int)) := by omega
    have ha := (h2 _ (List.getElem_mem hlt)).1
    simp only [h1, decide_true, if_true, xH hlt, Option.bind_eq_bind, Option.bind_some, implEval _ _ (show p.length ≤ l.Lo[i].Coefs.length by omega) (by omega)]
    rw [tV (by omega), ih (i + 1) _ (by omega), List.drop_eq_getElem_cons hlt, mxF]
theorem zFK (l : zI) (p : List Int) (hp : p.length ≤ 4) (h : OV l.Hi) : ∀ j i n, i + j = l.Hi.length → tJ l p n (i : Int) = some (mnF p (l.Hi.drop i) n) := by
  obtain ⟨_, hl, h2⟩ := h
  intro j
  induction j with
  | zero =>
    intro i n hi
    rw [tJ]
    have : ¬ ((i : Int) < (l.Hi.length : Int)) := by omega
    simp only [this, decide_false, Bool.false_eq_true, if_false]
    rw [List.drop_eq_nil_iff.2 (by omega)]; rfl
  | succ j ih =>
    intro i n hi
    rw [tJ]
    have hlt : i < l.Hi.length := by omega
    have h1 : ((i : Int) < (l.Hi.length : Int)) := by omega
    have ha := (h2 _ (List.getElem_mem hlt)).1
    simp only [h1, decide_true, if_true, xH hlt, Option.bind_eq_bind, Option.bind_some, implEval _ _ (show p.length ≤ l.Hi[i].Coefs.length by omega) (by omega)]
    rw [tV (by omega), ih (i + 1) _ (by omega), List.drop_eq_getElem_cons hlt, mnF]
theorem zFL (l : zI) (p : List Int) (hp : p.length ≤ 4) (h : OV l.Lo) : ∀ j i n, i + j = l.Lo.length → vM l p n (i : Int) = some (mxF p (l.Lo.drop i) n) := by
  obtain ⟨_, hl, h2⟩ := h
  intro j
  induction j with
  | zero =>
    intro i n hi
    rw [vM]
    have : ¬ ((i : Int) < (l.Lo.length : Int)) := by omega
    simp only [this, decide_false, Bool.false_eq_true, if_false]
    rw [List.drop_eq_nil_iff.2 (by omega)]; rfl
  | succ j ih =>
    intro i n hi
    rw [vM]
    have hlt : i < l.Lo.length := by omega
    have h1 : ((i : Int) < (l.Lo.length : Int)) := by omega
    have ha := (h2 _ (List.getElem_mem hlt)).1
    simp only [h1, decide_true, if_true, xH hlt, Option.bind_eq_bind, Option.bind_some, specEval _ _ (show p.length ≤ l.Lo[i].Coefs.length by omega) (by omega)]
    rw [tV (by omega), List.drop_eq_getElem_cons hlt, mxF]
    by_cases hc : evA l.Lo[i] p > n
    · simp only [hc, decide_true, if_true, Option.pure_def, Option.bind_some, id]
      exact ih (i + 1) _ (by omega)
    · simp only [hc, decide_false, Bool.false_eq_true, if_false, Option.pure_def, Option.bind_some, id]
      exact ih (i + 1) _ (by omega)
theorem zFM (l : zI) (p : List Int) (hp : p.length ≤ 4) (h : OV l.Hi) : ∀ j i n, i + j = l.Hi.length → vO l p n (i : Int) = some (mnF p (l.Hi.drop i) n) := by
  obtain ⟨_, hl, h2⟩ := h
  intro j
  induction j with
  | zero =>
    intro i n hi
    rw [vO]
    have : ¬ ((i : Int) < (l.Hi.length : Int)) := by omega
    simp only [this, decide_false, Bool.false_eq_true, if_false]
    rw [List.drop_eq_nil_iff.2 (by omega)]; rfl
  | succ j ih =>
    intro i n hi
    rw [vO]
    have hlt : i < l.Hi.length := by omega
    have h1 : ((i : Int) < (l.Hi.length : Int)) := by omega
    have ha := (h2 _ (List.getElem_mem hlt)).1
    simp only [h1, decide_true, if_true, xH hlt, Option.bind_eq_bind, Option.bind_some, specEval _ _ (show p.length ≤ l.Hi[i].Coefs.length by omega) (by omega)]
    rw [tV (by omega), List.drop_eq_getElem_cons hlt, mnF]
    by_cases hc : evA l.Hi[i] p < n
    · simp only [hc, decide_true, if_true, Option.pure_def, Option.bind_some, id]
      exact ih (i + 1) _ (by omega)
    · simp only [hc, decide_false, Bool.false_eq_true, if_false, Option.pure_def, Option.bind_some, id]
      exact ih (i + 1) _ (by omega)
theorem implSpan (l : zI) (p : List Int) (hp : p.length ≤ 4) (hlo : OV l.Lo) (hhi : OV l.Hi) : pY l p = some (loF l p, hiF l p) := by
  unfold pY loF hiF
  have h1 := zFJ l p hp hlo
  have h2 := zFK l p hp hhi
  obtain ⟨n1, _, q1⟩ := hlo
  obtain ⟨n2, _, q2⟩ := hhi
  cases hl : l.Lo with
  | nil => exact absurd hl n1
  | cons a r =>
    cases hh : l.Hi with
    | nil => exact absurd hh n2
    | cons b s =>
      rw [hl] at q1; rw [hh] at q2
      have ha := (q1 a (List.mem_cons_self ..)).1
      have hb := (q2 b (List.mem_cons_self ..)).1
      have i1 : idx (a :: r) 0 = some a := rfl
      have i2 : idx (b :: s) 0 = some b := rfl
      have k1 := h1 _ 0 (evA a p) (Nat.zero_add _)
      have k2 := h2 _ 0 (evA b p) (Nat.zero_add _)
      rw [Int.natCast_zero, List.drop_zero, hl, mxF] at k1
      rw [Int.natCast_zero, List.drop_zero, hh, mnF] at k2
      simp only [i1, i2, Option.bind_eq_bind, Option.bind_some, implEval _ _ (show p.length ≤ a.Coefs.length by omega) (by omega), implEval _ _ (show p.length ≤ b.Coefs.length by omega) (by omega), k1, k2, Option.pure_def]
      simp
theorem specSpan (l : zI) (p : List Int) (hp : p.length ≤ 4) (hlo : OV l.Lo) (hhi : OV l.Hi) : rR l p = some (loF l p, hiF l p) := by
  unfold rR loF hiF
  have h1 := zFL l p hp hlo
  have h2 := zFM l p hp hhi
  obtain ⟨n1, _, q1⟩ := hlo
  obtain ⟨n2, _, q2⟩ := hhi
  cases hl : l.Lo with
  | nil => exact absurd hl n1
  | cons a r =>
    cases hh : l.Hi with
    | nil => exact absurd hh n2
    | cons b s =>
      rw [hl] at q1; rw [hh] at q2
      have ha := (q1 a (List.mem_cons_self ..)).1
      have hb := (q2 b (List.mem_cons_self ..)).1
      have i1 : idx (a :: r) 0 = some a := rfl
      have i2 : idx (b :: s) 0 = some b := rfl
      have k1 := h1 r.length 1 (evA a p) (by rw [hl, List.length_cons]; omega)
      have k2 := h2 s.length 1 (evA b p) (by rw [hh, List.length_cons]; omega)
      rw [hl, List.drop_one, List.tail_cons] at k1
      rw [hh, List.drop_one, List.tail_cons] at k2
      simp only [i1, i2, Option.bind_eq_bind, Option.bind_some, specEval _ _ (show p.length ≤ a.Coefs.length by omega) (by omega), specEval _ _ (show p.length ≤ b.Coefs.length by omega) (by omega), Option.pure_def]
      erw [k1]
      simp only [Option.bind_some]
      erw [k2]
      rfl
end Go.LN
