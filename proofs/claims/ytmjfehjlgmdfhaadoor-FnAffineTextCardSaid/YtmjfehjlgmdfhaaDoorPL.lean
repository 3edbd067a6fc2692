/- Parsing of affine expressions: the reference's. -/
import Derived.Test.YtmjfehjlgmdfhaaDoorPK2
namespace Go.LN
set_option linter.unusedVariables false
set_option linter.unusedSimpArgs false
open Lib (itoa decDigits)
/-! Numbers. -/
def digs : List UInt8 → Int → Option Int
  | [], n => some n
  | b :: l, n => if (decide ((b.toNat : Int) < 48) || decide ((b.toNat : Int) > 57)) then none else digs l (W ((W (n * 10)) + (W (IntKind.u8.wrap ((b.toNat : Int) - 48)))))
theorem digs_l1 (s : Str) (hs : s.l.length ≤ 1048576) : ∀ j i n, i + j = s.l.length →
    M.spec_l16Num_l1 s n (i : Int) = some (match digs (s.l.drop i) n with | none => .ret (0, false) | some v => .done v) := by
  intro j
  induction j with
  | zero =>
    intro i n hi
    rw [M.spec_l16Num_l1]
    have : ¬ ((i : Int) < (s.l.length : Int)) := by omega
    simp only [this, decide_false, Bool.false_eq_true, if_false]
    rw [List.drop_eq_nil_iff.2 (by omega)]
    rfl
  | succ j ih =>
    intro i n hi
    rw [M.spec_l16Num_l1]
    have hlt : i < s.l.length := by omega
    have h1 : ((i : Int) < (s.l.length : Int)) := by omega
    simp only [h1, decide_true, if_true, sidx, idx_nat, List.getElem?_eq_getElem hlt, Option.pure_def, Option.bind_eq_bind, Option.bind_some]
    rw [List.drop_eq_getElem_cons hlt, digs]
    by_cases ha : (s.l[i].toNat : Int) < 48
    · simp [ha]
    · by_cases hb : (s.l[i].toNat : Int) > 57
      · simp [ha, hb]
      · simp only [ha, hb, decide_false, Bool.false_eq_true, if_false, Option.bind_some, Bool.or_self]
        rw [W_succ (by omega), ih (i + 1) _ (by omega)]
def numU (s : List UInt8) : Int × Bool :=
  if s.length = 0 ∨ s.length > 17 then (0, false)
  else if (match s with | [] => false | b :: t => decide (b = 48) && decide (t.length > 0)) then (0, false)
  else match digs s 0 with
    | none => (0, false)
    | some n => (n, true)
theorem num_eq (s : Str) (hs : s.l.length ≤ 1048576) (hn : s.l.head? ≠ some 45) : M.spec_l16Num s = some (numU s.l) := by
  obtain ⟨s⟩ := s
  simp only at hs hn
  unfold M.spec_l16Num numU
  cases s with
  | nil => rfl
  | cons b t =>
    have h45 : b ≠ 45 := by simpa using hn
    have k45 : ((b.toNat : Int) == 45) = decide (b = 45) := u8_int_eq' b 45 (by omega)
    have k48 : ((b.toNat : Int) == 48) = decide (b = 48) := u8_int_eq' b 48 (by omega)
    have h0 : (((b :: t).length : Nat) : Int) > 0 := by simp
    have hl : (((b :: t).length : Int) == 0) = false := by simp; omega
    have i0 : sidx (⟨b :: t⟩ : Str) 0 = some b := rfl
    simp only [h0, decide_true, if_true, i0, k45, h45, decide_false, Bool.false_eq_true, if_false, id, hl, Option.pure_def, Option.bind_eq_bind, Option.bind_some]
    by_cases h17 : (b :: t).length > 17
    · have : (((b :: t).length : Nat) : Int) > 17 := by omega
      rw [if_pos (Or.inr h17)]
      simp only [this, decide_true, if_true, Option.bind_some]
    · have : ¬ (((b :: t).length : Nat) : Int) > 17 := by omega
      have hor : ¬ ((b :: t).length = 0 ∨ (b :: t).length > 17) := by simp only [List.length_cons] at h17 ⊢; omega
      rw [if_neg hor]
      have hd := digs_l1 ⟨b :: t⟩ hs _ 0 0 (Nat.zero_add _)
      rw [List.drop_zero, Int.natCast_zero] at hd
      simp only [this, decide_false, Bool.false_eq_true, if_false, k48, Option.bind_some]
      by_cases h48 : b = 48
      · subst h48
        by_cases ht : t.length > 0
        · have e1 : (((((48 : UInt8) :: t).length : Nat) : Int) > 1) := by simp only [List.length_cons]; omega
          simp only [e1, ht, decide_true, if_true, Bool.true_and, Option.bind_some]
        · have e1 : ¬ (((((48 : UInt8) :: t).length : Nat) : Int) > 1) := by simp only [List.length_cons]; omega
          simp only [e1, ht, decide_true, decide_false, if_true, Bool.false_eq_true, if_false, Bool.true_and, Option.bind_some]
          rw [hd]
          cases digs (48 :: t) 0 <;> rfl
      · simp only [h48, decide_false, Bool.false_eq_true, if_false, Bool.false_and, Option.bind_some]
        rw [hd]
        cases digs (b :: t) 0 <;> rfl
def isDg (b : UInt8) : Bool := decide (48 ≤ b.toNat) && decide (b.toNat ≤ 57)
def run : List UInt8 → Nat → Nat
  | _, 0 => 0
  | [], _ + 1 => 0
  | b :: u, n + 1 => if isDg b then 1 + run u n else 0
theorem run_le : ∀ (u : List UInt8) (n : Nat), run u n ≤ n ∧ run u n ≤ u.length
  | u, 0 => by cases u <;> simp [run]
  | [], n + 1 => by simp [run]
  | b :: u, n + 1 => by
    have := run_le u n
    rw [run]
    split
    · simp; omega
    · simp
theorem dig_l1 (s : Str) (p : Nat) (hs : s.l.length ≤ 1048576) (hp : p ≤ s.l.length) : ∀ j i, i + j = 2 → p + i ≤ s.l.length → M.spec_l1Digits_l1 s (p : Int) ((p + i : Nat) : Int) = some ((p + i + run (s.l.drop (p + i)) j : Nat) : Int) := by
  intro j
  induction j with
  | zero =>
    intro i hi hl
    rw [M.spec_l1Digits_l1]
    have h2 : ¬ (((p + i : Nat) : Int) < W ((p : Int) + 2)) := by rw [W_id (by omega) (by omega)]; omega
    have hr : run (s.l.drop (p + i)) 0 = 0 := by cases s.l.drop (p + i) <;> rfl
    rw [hr]
    by_cases h1 : ((p + i : Nat) : Int) < (s.l.length : Int)
    · simp only [h1, h2, decide_true, decide_false, if_true, Bool.false_eq_true, if_false, Option.pure_def, Option.bind_eq_bind, Option.bind_some, id]; rfl
    · simp only [h1, decide_false, Bool.false_eq_true, if_false, Option.pure_def, Option.bind_eq_bind, Option.bind_some, id]; rfl
  | succ j ih =>
    intro i hi hl
    rw [M.spec_l1Digits_l1]
    have h2 : (((p + i : Nat) : Int) < W ((p : Int) + 2)) := by rw [W_id (by omega) (by omega)]; omega
    by_cases h1 : p + i < s.l.length
    · have h1' : ((p + i : Nat) : Int) < (s.l.length : Int) := by omega
      simp only [h1', h2, decide_true, if_true, sidx, idx_nat, List.getElem?_eq_getElem h1, Option.pure_def, Option.bind_eq_bind, Option.bind_some]
      rw [List.drop_eq_getElem_cons h1, run]
      unfold isDg
      by_cases ha : (48 : Nat) ≤ s.l[p + i].toNat
      · have ha' : ((s.l[p + i].toNat : Int) ≥ 48) := by omega
        by_cases hb : s.l[p + i].toNat ≤ 57
        · have hb' : ((s.l[p + i].toNat : Int) ≤ 57) := by omega
          simp only [ha, ha', hb, hb', decide_true, if_true, Option.bind_some, Bool.and_self]
          rw [W_succ (by omega)]
          have := ih (i + 1) (by omega) (by omega)
          rw [show p + (i + 1) = p + i + 1 by omega] at this
          rw [this]
          congr 2
          omega
        · have hb' : ¬ ((s.l[p + i].toNat : Int) ≤ 57) := by omega
          simp only [ha, ha', hb, hb', decide_true, decide_false, if_true, Bool.false_eq_true, if_false, Option.bind_some, Bool.and_false, id]; rfl
      · have ha' : ¬ ((s.l[p + i].toNat : Int) ≥ 48) := by omega
        simp only [ha, ha', decide_false, Bool.false_eq_true, if_false, Option.bind_some, Bool.false_and, id]; rfl
    · have h1' : ¬ ((p + i : Nat) : Int) < (s.l.length : Int) := by omega
      rw [List.drop_eq_nil_iff.2 (by omega), run]
      simp only [h1', decide_false, Bool.false_eq_true, if_false, Option.pure_def, Option.bind_eq_bind, Option.bind_some, id]; rfl
theorem run_all : ∀ (u : List UInt8) (n : Nat), (u.take (run u n)).all isDg = true
  | u, 0 => by cases u <;> simp [run]
  | [], n + 1 => by simp [run]
  | b :: u, n + 1 => by
    rw [run]
    split
    · rename_i h
      rw [Nat.add_comm, List.take_succ_cons, List.all_cons, h, run_all u n]; rfl
    · simp
theorem head_dig {l : List UInt8} (h : l.all isDg = true) : l.head? ≠ some 45 := by
  cases l with
  | nil => simp
  | cons b l =>
    rw [List.all_cons, Bool.and_eq_true] at h
    rintro e
    simp only [List.head?_cons, Option.some.injEq] at e
    subst e
    exact absurd h.1 (by decide)
theorem digits_eq (s : Str) (p : Nat) (hs : s.l.length ≤ 1048576) (hp : p ≤ s.l.length) :
    M.spec_l1Digits s (p : Int) = some (if (numU ((s.l.drop p).take (run (s.l.drop p) 2))).2 then ((numU ((s.l.drop p).take (run (s.l.drop p) 2))).1, ((p + run (s.l.drop p) 2 : Nat) : Int)) else (1, (p : Int))) := by
  unfold M.spec_l1Digits
  have h := dig_l1 s p hs hp 2 0 rfl (by omega)
  simp only [Nat.add_zero] at h
  have hr := run_le (s.l.drop p) 2
  rw [List.length_drop] at hr
  have hsl : sslc s (p : Int) ((p + run (s.l.drop p) 2 : Nat) : Int) = some ⟨(s.l.drop p).take (run (s.l.drop p) 2)⟩ := by
    rw [sslc_eq (by omega) (by omega), List.take_drop]
  have hnum := num_eq ⟨(s.l.drop p).take (run (s.l.drop p) 2)⟩ (by show (List.take _ _).length ≤ _; rw [List.length_take, List.length_drop]; omega) (head_dig (run_all _ _))
  rw [h]
  simp only [Option.bind_eq_bind, Option.bind_some, hsl, hnum]
  cases (numU ((s.l.drop p).take (run (s.l.drop p) 2))).2 <;> rfl
def nmOf (u : List UInt8) : Int := match u with | [] => -1 | b :: _ => if b.toNat < 105 ∨ b.toNat > 108 then -1 else (b.toNat : Int) - 105
theorem name_eq (s : Str) (p : Nat) (hp : p ≤ s.l.length) : M.spec_l1Name s (p : Int) = some (nmOf (s.l.drop p)) := by
  unfold M.spec_l1Name
  by_cases h : p = s.l.length
  · have h1 : ((p : Int) ≥ (s.l.length : Int)) := by omega
    simp only [h1, decide_true, if_true, Option.pure_def, Option.bind_eq_bind, Option.bind_some]
    rw [List.drop_eq_nil_iff.2 (by omega)]
    rfl
  · have h1 : ¬ ((p : Int) ≥ (s.l.length : Int)) := by omega
    have hlt : p < s.l.length := by omega
    simp only [h1, decide_false, Bool.false_eq_true, if_false, sidx, idx_nat, List.getElem?_eq_getElem hlt, Option.pure_def, Option.bind_eq_bind, Option.bind_some]
    rw [List.drop_eq_getElem_cons hlt, nmOf]
    have hb := s.l[p].toNat_lt
    by_cases ha : s.l[p].toNat < 105
    · have : ((s.l[p].toNat : Int) < 105) := by omega
      simp [ha, this]
    · have ha' : ¬ ((s.l[p].toNat : Int) < 105) := by omega
      by_cases hc : s.l[p].toNat > 108
      · have : ((s.l[p].toNat : Int) > 108) := by omega
        simp [ha', hc, this]
      · have hc' : ¬ ((s.l[p].toNat : Int) > 108) := by omega
        simp only [ha', hc', ha, hc, decide_false, Bool.false_eq_true, if_false, Option.bind_some, or_self]
        rw [W_id (x := (s.l[p].toNat : Int)) (by omega) (by omega), W_id (by omega) (by omega)]
def dgt (u : List UInt8) : Int × Nat := if (numU (u.take (run u 2))).2 then ((numU (u.take (run u 2))).1, run u 2) else (1, 0)
def star (u : List UInt8) : Nat := if 0 < (dgt u).2 ∧ (u.drop (dgt u).2).head? = some 42 then (dgt u).2 + 1 else (dgt u).2
theorem dgt_le (u : List UInt8) : (dgt u).2 ≤ u.length := by
  have := run_le u 2
  unfold dgt; split
  · exact this.2
  · exact Nat.zero_le _
theorem star_le (u : List UInt8) : star u ≤ u.length := by
  have := dgt_le u
  unfold star
  split
  · rename_i h
    have : (u.drop (dgt u).2).length > 0 := by
      cases hd : u.drop (dgt u).2 with
      | nil => rw [hd] at h; cases h.2
      | cons b r => simp
    rw [List.length_drop] at this
    omega
  · exact this
def sgo (u : List UInt8) : Nat := match u with | [] => 0 | b :: _ => if isSg b then 1 else 0
theorem l1Parse_tail (a : impl_Affine) (s : Str) (hs : s.l.length ≤ 1048576) (hC : a.Coefs.length = 4) (sg : Int) (q : Nat) (ho : q ≤ s.l.length) :
    (do
 let (y1, y2) ← M.spec_l1Digits s (q : Int)
 let t51 ← (do
   if (decide (y2 > (q : Int))) then
    if (decide (y2 < (s.l.length : Int))) then
     let b5 ← idx s.l y2
     pure ((b5.toNat : Int) == 42)
    else
     pure false
   else
    pure false
     : Option Bool)
 let star ← (do
   if t51 then
    pure (W (y2 + 1))
   else
    pure (id y2)
     : Option Int)
 let y3 ← M.spec_l1Name s star
 let l ← app 8 ([] : List Int) a.Coefs
 let t75 ← (do
   if (decide (y3 ≥ 0)) then
    if (decide (star > y2)) then
     pure true
    else
     pure (y2 == (q : Int))
   else
    pure false
     : Option Bool)
 if t75 then
  let x ← idx l y3
  let x1 ← idx l y3
  let l1 ← pure (l.set y3.toNat (W (x + (W (sg * y1)))))
  pure ((impl_Affine.mk l1 a.Const), (W (star + 1)))
 else
  if (y2 == (q : Int)) then
   pure (a, (-1))
  else
   pure ((impl_Affine.mk l (W (a.Const + (W (sg * y1))))), y2) : Option (impl_Affine × Int)) = some (let u := s.l.drop q
      if 0 ≤ nmOf (u.drop (star u)) ∧ ((dgt u).2 < star u ∨ (dgt u).2 = 0) then
        (⟨a.Coefs.set (nmOf (u.drop (star u))).toNat (W (a.Coefs.getD (nmOf (u.drop (star u))).toNat 0 + W (sg * (dgt u).1))), a.Const⟩, ((q + star u + 1 : Nat) : Int))
      else if (dgt u).2 = 0 then (a, -1) else (⟨a.Coefs, W (a.Const + W (sg * (dgt u).1))⟩, ((q + (dgt u).2 : Nat) : Int))) := by
  rw [digits_eq s q hs ho]
  have hdl := dgt_le (s.l.drop q)
  have hstl := star_le (s.l.drop q)
  rw [List.length_drop] at hdl hstl
  have hdig : (if (numU ((s.l.drop q).take (run (s.l.drop q) 2))).2 = true then ((numU ((s.l.drop q).take (run (s.l.drop q) 2))).1, ((q + run (s.l.drop q) 2 : Nat) : Int)) else (1, (q : Int))) = ((dgt (s.l.drop q)).1, ((q + (dgt (s.l.drop q)).2 : Nat) : Int)) := by
    unfold dgt
    split <;> rfl
  rw [hdig]
  simp only [Option.pure_def, Option.bind_eq_bind, Option.bind_some]
  have hstar : ∀ (f : Int → Option (impl_Affine × Int)), (Option.bind (if (decide (((q + (dgt (s.l.drop q)).2 : Nat) : Int) > (q : Int))) = true then
        (if (decide (((q + (dgt (s.l.drop q)).2 : Nat) : Int) < (s.l.length : Int))) = true then
          Option.bind (idx s.l ((q + (dgt (s.l.drop q)).2 : Nat) : Int)) fun b5 => some ((b5.toNat : Int) == 42)
        else some false) else some false) fun t51 => Option.bind (if t51 = true then some (W (((q + (dgt (s.l.drop q)).2 : Nat) : Int) + 1)) else some (id ((q + (dgt (s.l.drop q)).2 : Nat) : Int))) f) = f ((q + star (s.l.drop q) : Nat) : Int) := by
    intro f
    unfold star
    rw [List.drop_drop, idx_nat]
    by_cases h0 : 0 < (dgt (s.l.drop q)).2
    · have h0' : (((q + (dgt (s.l.drop q)).2 : Nat) : Int) > (q : Int)) := by omega
      by_cases h1 : q + (dgt (s.l.drop q)).2 < s.l.length
      · have h1' : (((q + (dgt (s.l.drop q)).2 : Nat) : Int) < (s.l.length : Int)) := by omega
        have k42 : ((s.l[q + (dgt (s.l.drop q)).2].toNat : Int) == 42) = decide (s.l[q + (dgt (s.l.drop q)).2] = 42) := u8_int_eq' _ 42 (by omega)
        have hhd : (s.l.drop (q + (dgt (s.l.drop q)).2)).head? = some (s.l[q + (dgt (s.l.drop q)).2]) := by rw [List.drop_eq_getElem_cons h1]; rfl
        simp only [h0', h1', decide_true, if_true, List.getElem?_eq_getElem h1, Option.bind_some, k42, h0, true_and, hhd, Option.some.injEq]
        by_cases h42 : s.l[q + (dgt (s.l.drop q)).2] = 42
        · simp only [h42, decide_true, if_true, Option.bind_some]
          rw [W_succ (by omega)]; rfl
        · simp only [h42, decide_false, Bool.false_eq_true, if_false, Option.bind_some, id]
      · have h1' : ¬ (((q + (dgt (s.l.drop q)).2 : Nat) : Int) < (s.l.length : Int)) := by omega
        have hhd : (s.l.drop (q + (dgt (s.l.drop q)).2)).head? = none := by
          rw [show s.l.drop (q + (dgt (s.l.drop q)).2) = [] from List.drop_eq_nil_iff.2 (by omega)]; rfl
        simp only [h0', h1', decide_true, decide_false, if_true, Bool.false_eq_true, if_false, Option.bind_some, hhd, reduceCtorEq, and_false, id]
    · have h0' : ¬ (((q + (dgt (s.l.drop q)).2 : Nat) : Int) > (q : Int)) := by omega
      simp only [h0', h0, decide_false, Bool.false_eq_true, if_false, Option.bind_some, false_and, id]
  refine (hstar _).trans ?_
  rw [name_eq s _ (by omega), app_eq (by simp; omega), ← List.drop_drop]
  simp only [Option.bind_some, List.nil_append]
  generalize hu : s.l.drop q = u at hdl hstl ⊢
  have hnm : nmOf (u.drop (star u)) < 4 := by
    unfold nmOf
    split
    · omega
    · split <;> omega
  generalize nmOf (u.drop (star u)) = v at hnm ⊢
  by_cases hv : 0 ≤ v
  · have hv' : v ≥ 0 := hv
    have hx : idx a.Coefs v = some (a.Coefs.getD v.toNat 0) := by
      rw [idx_eq hv, List.getD_eq_getElem?_getD, List.getElem?_eq_getElem (by omega)]
      rfl
    by_cases h1 : (dgt u).2 < star u
    · have h1' : (((q + star u : Nat) : Int) > ((q + (dgt u).2 : Nat) : Int)) := by omega
      simp only [hv, hv', h1, h1', decide_true, if_true, Option.bind_some, hx, true_or, and_self]
      rw [W_succ (by omega)]
    · have h1' : ¬ (((q + star u : Nat) : Int) > ((q + (dgt u).2 : Nat) : Int)) := by omega
      by_cases h2 : (dgt u).2 = 0
      · have h2' : (((q + (dgt u).2 : Nat) : Int) == (q : Int)) = true := by simp; omega
        simp only [hv, hv', h1, h1', h2', decide_true, decide_false, if_true, Bool.false_eq_true, if_false, Option.bind_some, hx]
        rw [if_pos ⟨trivial, .inr h2⟩, W_succ (by omega)]
      · have h2' : (((q + (dgt u).2 : Nat) : Int) == (q : Int)) = false := by simp; omega
        simp only [hv, hv', h1, h1', h2', h2, decide_true, decide_false, if_true, Bool.false_eq_true, if_false, Option.bind_some, or_self, and_false]
  · have hv' : ¬ v ≥ 0 := hv
    simp only [hv, hv', decide_false, Bool.false_eq_true, if_false, Option.bind_some, false_and]
    by_cases h2 : (dgt u).2 = 0
    · have h2' : (((q + (dgt u).2 : Nat) : Int) == (q : Int)) = true := by simp; omega
      rw [if_pos h2', if_pos h2]
    · have h2' : (((q + (dgt u).2 : Nat) : Int) == (q : Int)) = false := by simp; omega
      rw [if_neg (by rw [h2']; simp), if_neg h2]
theorem l1Parse_eq (a : impl_Affine) (s : Str) (p : Nat) (hs : s.l.length ≤ 1048576) (hp : p < s.l.length) (hC : a.Coefs.length = 4) :
    M.spec_l1Parse a s (p : Int) = some (let u0 := s.l.drop p; let o := sgo u0; let u := s.l.drop (p + o)
      if 0 ≤ nmOf (u.drop (star u)) ∧ ((dgt u).2 < star u ∨ (dgt u).2 = 0) then
        (⟨a.Coefs.set (nmOf (u.drop (star u))).toNat (W (a.Coefs.getD (nmOf (u.drop (star u))).toNat 0 + W (signOf u0 * (dgt u).1))), a.Const⟩, ((p + o + star u + 1 : Nat) : Int))
      else if (dgt u).2 = 0 then (a, -1) else (⟨a.Coefs, W (a.Const + W (signOf u0 * (dgt u).1))⟩, ((p + o + (dgt u).2 : Nat) : Int))) := by
  unfold M.spec_l1Parse
  have hd0 := List.drop_eq_getElem_cons hp
  have k43 : ((s.l[p].toNat : Int) == 43) = decide (s.l[p] = 43) := u8_int_eq' _ 43 (by omega)
  have k45 : ((s.l[p].toNat : Int) == 45) = decide (s.l[p] = 45) := u8_int_eq' _ 45 (by omega)
  simp only [sidx, idx_nat, List.getElem?_eq_getElem hp, k43, k45, Option.pure_def, Option.bind_eq_bind, Option.bind_some]
  rw [hd0]
  simp only [sgo, signOf]
  have hs1 : (if (decide (s.l[p] = 45)) = true then some (-1 : Int) else some (id 1)) = some (if s.l[p] = 45 then -1 else 1) := by
    by_cases h : s.l[p] = 45 <;> simp [h]
  have hs2 : (if (decide (s.l[p] = 45)) = true then some true else some (decide (s.l[p] = 43))) = some (isSg s.l[p]) := by
    unfold isSg
    by_cases h : s.l[p] = 45 <;> by_cases h' : s.l[p] = 43 <;> simp [h, h']
  rw [hs1]
  simp only [Option.bind_some]
  rw [hs2]
  simp only [Option.bind_some]
  have hat : (if isSg s.l[p] = true then some (W ((p : Int) + 1)) else some (id (p : Int))) = some ((p + (if isSg s.l[p] = true then 1 else 0) : Nat) : Int) := by
    split
    · rw [W_succ (by omega)]
    · rfl
  rw [hat]
  simp only [Option.bind_some]
  have ho : p + (if isSg s.l[p] = true then 1 else 0) ≤ s.l.length := by split <;> omega
  exact l1Parse_tail a s hs hC _ _ ho
end Go.LN
