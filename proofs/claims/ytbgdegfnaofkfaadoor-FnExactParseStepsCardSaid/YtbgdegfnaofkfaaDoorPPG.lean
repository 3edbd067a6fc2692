/- Texts cut at a byte: the program's and the library's cutting are one; numbers and words. -/
import Derived.Test.YtbgdegfnaofkfaaDoorPPF2
import Derived.Lib.SplitLaws
namespace Go.LN
set_option linter.unusedVariables false
set_option linter.unusedSimpArgs false
open Lib (itoa decDigits)
def pre (p : List UInt8) : List (List UInt8) → List (List UInt8)
  | [] => [p]
  | h :: t => (p ++ h) :: t
def cutS (c : UInt8) : List UInt8 → List (List UInt8)
  | [] => [[]]
  | b :: l => if b = c then [] :: cutS c l else pre [b] (cutS c l)
theorem pre_pre (p q : List UInt8) (X : List (List UInt8)) : pre p (pre q X) = pre (p ++ q) X := by
  cases X <;> simp [pre]
theorem pre_ne (p : List UInt8) (X : List (List UInt8)) : pre p X ≠ [] := by
  cases X <;> simp [pre]
theorem cut_ne (c : UInt8) : ∀ l, cutS c l ≠ []
  | [] => by simp [cutS]
  | b :: l => by
    unfold cutS
    split
    · simp
    · exact pre_ne _ _
theorem pre_nil {X : List (List UInt8)} (h : X ≠ []) : pre [] X = X := by
  cases X with
  | nil => exact absurd rfl h
  | cons => simp [pre]
theorem pre_len (p : List UInt8) (X : List (List UInt8)) (h : X ≠ []) : (pre p X).length = X.length := by
  cases X with
  | nil => exact absurd rfl h
  | cons => simp [pre]
theorem cut_len (c : UInt8) : ∀ l, (cutS c l).length ≤ l.length + 1
  | [] => by simp [cutS]
  | b :: l => by
    have := cut_len c l
    unfold cutS
    split
    · simp; omega
    · rw [pre_len _ _ (cut_ne c l)]; simp; omega
theorem take_drop_snoc {α : Type} (s : List α) {f i : Nat} (hf : f ≤ i) (hi : i < s.length) : (s.take (i + 1)).drop f = (s.take i).drop f ++ [s[i]] := by
  rw [List.take_add_one, List.getElem?_eq_getElem hi, List.drop_append_of_le_length (by rw [List.length_take]; omega)]
  rfl
theorem sslc_eq {s : Str} {f i : Nat} (hf : f ≤ i) (hi : i ≤ s.l.length) : sslc s (f : Int) (i : Int) = some ⟨(s.l.take i).drop f⟩ := by
  unfold sslc slc
  rw [if_pos (by omega)]
  simp
theorem slc_eq {α : Type} {s : List α} {f i : Nat} (hf : f ≤ i) (hi : i ≤ s.length) : slc s (f : Int) (i : Int) = some ((s.take i).drop f) := by
  unfold slc
  rw [if_pos (by omega)]
  simp
theorem app_eq {α : Type} {b : Nat} {l k : List α} (h : (l.length + k.length) * b ≤ 140737488355328) : app b l k = some (l ++ k) := by
  unfold app; rw [if_pos h]
theorem u8_int_eq (a b : UInt8) : ((a.toNat : Int) == (b.toNat : Int)) = decide (a = b) := by
  by_cases h : a = b
  · subst h; simp
  · rw [decide_eq_false h]
    exact beq_false_of_ne (fun e => h (UInt8.toNat_inj.1 (by omega)))
theorem cut_l1 (s : Str) (c : UInt8) (hs : s.l.length ≤ 1048576) : ∀ j i f (out : List Str), i + j = s.l.length → f ≤ i → out.length ≤ i →
    M.spec_l16Cut_l1 s c out (f : Int) (i : Int) = some (out ++ (pre ((s.l.take i).drop f) (cutS c (s.l.drop i))).map Str.mk) := by
  intro j
  induction j with
  | zero =>
    intro i f out hi hf ho
    rw [M.spec_l16Cut_l1]
    have h1 : ((i : Int) ≤ (s.l.length : Int)) := by omega
    have h2 : ((i : Int) == (s.l.length : Int)) = true := by simp; omega
    simp only [h1, h2, decide_true, if_true, Option.pure_def, Option.bind_eq_bind, Option.bind_some, sslc_eq hf (by omega : i ≤ s.l.length)]
    rw [app_eq (by simp; omega)]
    simp only [Option.bind_some]
    rw [W_succ (by omega), M.spec_l16Cut_l1]
    have h3 : ¬ (((i + 1 : Nat) : Int) ≤ (s.l.length : Int)) := by omega
    simp only [h3, decide_false, Bool.false_eq_true, if_false]
    rw [show s.l.drop i = [] from List.drop_eq_nil_iff.2 (by omega)]
    simp [cutS, pre]
  | succ j ih =>
    intro i f out hi hf ho
    rw [M.spec_l16Cut_l1]
    have hlt : i < s.l.length := by omega
    have h1 : ((i : Int) ≤ (s.l.length : Int)) := by omega
    have h2 : ((i : Int) == (s.l.length : Int)) = false := by simp; omega
    simp only [h1, h2, decide_true, if_true, Bool.false_eq_true, if_false, sidx, idx_nat, List.getElem?_eq_getElem hlt, Option.pure_def, Option.bind_eq_bind, Option.bind_some, u8_int_eq]
    rw [List.drop_eq_getElem_cons hlt]
    by_cases hc : s.l[i] = c
    · simp only [hc, decide_true, if_true, sslc_eq hf (by omega : i ≤ s.l.length), Option.bind_some]
      rw [app_eq (by simp; omega)]
      simp only [Option.bind_some]
      rw [W_succ (by omega), ih (i + 1) (i + 1) _ (by omega) (by omega) (by simp; omega)]
      rw [List.drop_eq_nil_iff.2 (show (s.l.take (i + 1)).length ≤ i + 1 by rw [List.length_take]; omega), pre_nil (cut_ne _ _)]
      simp [cutS, pre]
    · simp only [hc, decide_false, Bool.false_eq_true, if_false, Option.bind_some]
      rw [W_succ (by omega), ih (i + 1) f out (by omega) (by omega) (by omega)]
      rw [take_drop_snoc _ hf hlt]
      conv => rhs; unfold cutS
      rw [if_neg hc, pre_pre]
theorem l16Cut_eq (s : Str) (c : UInt8) (hs : s.l.length ≤ 1048576) : M.spec_l16Cut s c = some ((cutS c s.l).map Str.mk) := by
  unfold M.spec_l16Cut
  have := cut_l1 s c hs s.l.length 0 0 [] (by omega) (by omega) (by simp)
  simp only [Int.natCast_zero] at this
  rw [this]
  simp [pre_nil (cut_ne _ _)]
theorem split_eq (c : UInt8) : ∀ s : List UInt8, Lib.split s [c] = cutS c s
  | [] => by rw [Lib.split, Lib.count_miss (by simp [Lib.index])]; rfl
  | b :: l => by
    have ih := split_eq c l
    unfold Lib.split at ih ⊢
    unfold cutS
    by_cases h : b = c
    · subst h
      rw [if_pos rfl, Lib.count_cons_eq, ← ih, Nat.add_comm 1]
      have hix : Lib.index (b :: l) [b] = 0 := by rw [Lib.index]; simp [List.isPrefixOf]
      rw [Lib.splitK, hix]
      simp
    · rw [if_neg h, Lib.count_cons_ne b c l h, ← ih]
      have hp : ([c] : List UInt8).isPrefixOf (b :: l) = false := by simp [List.isPrefixOf, Ne.symm h]
      have hix : Lib.index (b :: l) [c] = if Lib.index l [c] == -1 then -1 else Lib.index l [c] + 1 := by rw [Lib.index, hp]; simp
      cases Lib.count l [c] with
      | zero => rfl
      | succ k =>
        rw [Lib.splitK, Lib.splitK, hix]
        by_cases hm : Lib.index l [c] = -1
        · simp [hm, pre]
        · have hge := Lib.index_ge l [c]
          obtain ⟨j, hj⟩ : ∃ j : Nat, Lib.index l [c] = j := ⟨(Lib.index l [c]).toNat, by omega⟩
          have e1 : ¬ (Lib.index l [c] == -1) = true := by simp [hm]
          rw [if_neg e1, if_neg e1, hj]
          have e2 : ¬ (((j : Int) + 1 == -1) = true) := by simp; omega
          rw [if_neg e2]
          have e3 : ((j : Int) + 1).toNat = j + 1 := by omega
          simp [pre, e3]
theorem Split_eq (s : Str) (c : UInt8) (hs : s.l.length ≤ 1048576) : M.strings_Split s ⟨[c]⟩ = some ((cutS c s.l).map Str.mk) := by
  unfold M.strings_Split splitM
  rw [if_pos ⟨by omega, by simp⟩, split_eq]
theorem cut_none {c : UInt8} : ∀ {w : List UInt8}, c ∉ w → cutS c w = [w]
  | [], _ => rfl
  | b :: w, h => by
    rw [cutS, if_neg (fun e => h (by rw [e]; exact List.mem_cons_self ..)), cut_none (fun e => h (List.mem_cons_of_mem _ e))]
    rfl
theorem cut_app {c : UInt8} {r : List UInt8} : ∀ {w : List UInt8}, c ∉ w → cutS c (w ++ c :: r) = w :: cutS c r
  | [], _ => by simp [cutS]
  | b :: w, h => by
    rw [List.cons_append, cutS, if_neg (fun e => h (by rw [e]; exact List.mem_cons_self ..)), cut_app (fun e => h (List.mem_cons_of_mem _ e))]
    rfl
def joinS (c : UInt8) : List (List UInt8) → List UInt8
  | [] => []
  | [x] => x
  | x :: y :: t => x ++ c :: joinS c (y :: t)
theorem join_pre (c : UInt8) (p : List UInt8) : ∀ X, X ≠ [] → joinS c (pre p X) = p ++ joinS c X
  | [], h => absurd rfl h
  | [x], _ => rfl
  | x :: y :: t, _ => by simp [pre, joinS]
theorem join_cut (c : UInt8) : ∀ s, joinS c (cutS c s) = s
  | [] => rfl
  | b :: l => by
    have ih := join_cut c l
    unfold cutS
    split
    · rename_i h
      subst h
      cases hx : cutS b l with
      | nil => exact absurd hx (cut_ne _ _)
      | cons x t => rw [hx] at ih; simp [joinS, ih]
    · rw [join_pre _ _ _ (cut_ne _ _), ih]; rfl
theorem cut_mem {c : UInt8} : ∀ {s x}, x ∈ cutS c s → x.length ≤ s.length
  | [], x, h => by simp [cutS] at h; simp [h]
  | b :: l, x, h => by
    have ih : ∀ y ∈ cutS c l, y.length ≤ l.length := fun y hy => cut_mem hy
    unfold cutS at h
    split at h
    · rcases List.mem_cons.1 h with rfl | h
      · simp
      · have := ih _ h; simp; omega
    · cases hx : cutS c l with
      | nil => exact absurd hx (cut_ne _ _)
      | cons y t =>
        rw [hx] at h ih
        rcases List.mem_cons.1 h with rfl | h
        · have := ih y (List.mem_cons_self ..); simp; omega
        · have := ih x (List.mem_cons_of_mem _ h); simp; omega
/-! Words that are not empty. -/
def full (X : List (List UInt8)) : List (List UInt8) := X.filter fun x => !(x == [])
theorem words_l1 (y : List Str) (hy : y.length ≤ 1048577) : ∀ j i (out : List Str), i + j = y.length → out.length ≤ i →
    M.spec_l16Words_l1 y out (i : Int) = some (out ++ (y.drop i).filter fun x => !(x.l == [])) := by
  intro j
  induction j with
  | zero =>
    intro i out hi ho
    rw [M.spec_l16Words_l1]
    have : ¬ ((i : Int) < (y.length : Int)) := by omega
    simp only [this, decide_false, Bool.false_eq_true, if_false]
    rw [List.drop_eq_nil_iff.2 (by omega)]
    simp
  | succ j ih =>
    intro i out hi ho
    rw [M.spec_l16Words_l1]
    have hlt : i < y.length := by omega
    have h1 : ((i : Int) < (y.length : Int)) := by omega
    simp only [h1, decide_true, if_true, idx_nat, List.getElem?_eq_getElem hlt, Option.pure_def, Option.bind_eq_bind, Option.bind_some]
    rw [List.drop_eq_getElem_cons hlt, List.filter_cons]
    cases he : y[i].l == [] with
    | true =>
      simp only [Bool.not_true, Bool.false_eq_true, if_false, Option.bind_some, id]
      rw [W_succ (by omega), ih (i + 1) _ (by omega) (by omega)]
    | false =>
      simp only [Bool.not_false, if_true]
      rw [app_eq (by simp; omega)]
      simp only [Option.bind_some, id]
      rw [W_succ (by omega), ih (i + 1) _ (by omega) (by simp; omega)]
      simp
theorem filter_mk (X : List (List UInt8)) : (X.map Str.mk).filter (fun x => !(x.l == [])) = (full X).map Str.mk := by
  unfold full
  rw [List.filter_map]
  rfl
theorem l16Words_eq (s : Str) (hs : s.l.length ≤ 1048576) : M.spec_l16Words s = some ((full (cutS 32 s.l)).map Str.mk) := by
  unfold M.spec_l16Words
  rw [l16Cut_eq s 32 hs]
  have hl := cut_len 32 s.l
  have := words_l1 ((cutS 32 s.l).map Str.mk) (by rw [List.length_map]; omega) _ 0 [] (Nat.zero_add _) (by simp)
  simp only [Int.natCast_zero] at this
  simp only [Option.bind_eq_bind, Option.bind_some, this, id]
  simp only [List.drop_zero, List.nil_append, filter_mk, Option.pure_def]
/-! Numbers. -/
def digs : List UInt8 → Int → Option Int
  | [], n => some n
  | b :: l, n => if (decide ((b.toNat : Int) < 48) || decide ((b.toNat : Int) > 57)) then none else digs l (W ((W (n * 10)) + (W (IntKind.u8.wrap ((b.toNat : Int) - 48)))))
theorem digs_l1 (s : Str) (hs : s.l.length ≤ 1048576) : ∀ j i n, i + j = s.l.length →
    M.spec_l16Num_l1 s n (i : Int) = some (match digs (s.l.drop i) n with | none => .ret (0, false) | some v => .done v) := by
  intro j
  induction j with
  | zero =>
    intro i n hi
    rw [M.spec_l16Num_l1]
    have : ¬ ((i : Int) < (s.l.length : Int)) := by omega
    simp only [this, decide_false, Bool.false_eq_true, if_false]
    rw [List.drop_eq_nil_iff.2 (by omega)]
    rfl
  | succ j ih =>
    intro i n hi
    rw [M.spec_l16Num_l1]
    have hlt : i < s.l.length := by omega
    have h1 : ((i : Int) < (s.l.length : Int)) := by omega
    simp only [h1, decide_true, if_true, sidx, idx_nat, List.getElem?_eq_getElem hlt, Option.pure_def, Option.bind_eq_bind, Option.bind_some]
    rw [List.drop_eq_getElem_cons hlt, digs]
    by_cases ha : (s.l[i].toNat : Int) < 48
    · simp [ha]
    · by_cases hb : (s.l[i].toNat : Int) > 57
      · simp [ha, hb]
      · simp only [ha, hb, decide_false, Bool.false_eq_true, if_false, Option.bind_some, Bool.or_self]
        rw [W_succ (by omega), ih (i + 1) _ (by omega)]
def numP (s : List UInt8) : Int × Bool :=
  let neg := match s with | [] => false | b :: _ => decide (b = 45)
  let s1 := if neg then s.drop 1 else s
  if s1.length = 0 ∨ s1.length > 17 then (0, false)
  else if (match s1 with | [] => false | b :: t => decide (b = 48) && (decide (t.length > 0) || neg)) then (0, false)
  else match digs s1 0 with
    | none => (0, false)
    | some n => (if neg then W (0 - n) else n, true)
theorem num_eq (s : Str) (hs : s.l.length ≤ 1048576) : M.spec_l16Num s = some (numP s.l) := by
  obtain ⟨s⟩ := s
  simp only at hs
  have k45 : ∀ b : UInt8, ((b.toNat : Int) == 45) = decide (b = 45) := fun b => u8_int_eq b 45
  have k48 : ∀ b : UInt8, ((b.toNat : Int) == 48) = decide (b = 48) := fun b => u8_int_eq b 48
  have fin : ∀ (neg : Bool) (s1 : List UInt8), s1.length ≤ 1048576 → (do
     let t38 ← (do
       if ((s1.length : Int) == 0) then
        pure true
       else
        if (decide ((s1.length : Int) > 17)) then
         pure true
        else
         let b1 ← sidx ⟨s1⟩ 0
         if ((b1.toNat : Int) == 48) then
          if (decide ((s1.length : Int) > 1)) then
           pure true
          else
           pure (id neg)
         else
          pure false
         : Option Bool)
     if t38 then
      pure (0, false)
     else
      match ← M.spec_l16Num_l1 ⟨s1⟩ 0 0 with
      | .ret r0 => pure r0
      | .done n01 =>
       let n02 ← (do
         if neg then
          pure (W (0 - n01))
         else
          pure (id n01)
           : Option Int)
       pure (n02, true) : Option (Int × Bool)) = some (if s1.length = 0 ∨ s1.length > 17 then (0, false)
      else if (match s1 with | [] => false | b :: t => decide (b = 48) && (decide (t.length > 0) || neg)) then (0, false)
      else match digs s1 0 with
        | none => (0, false)
        | some n => (if neg then W (0 - n) else n, true)) := by
    intro neg s1 h1
    cases s1 with
    | nil => simp
    | cons b t =>
      have hl : ¬ (((b :: t).length : Int) == 0) = true := by simp; omega
      rw [if_neg hl]
      by_cases h17 : (b :: t).length > 17
      · have : (((b :: t).length : Nat) : Int) > 17 := by omega
        simp only [this, decide_true, if_true, Option.pure_def, Option.bind_eq_bind, Option.bind_some]
        rw [if_pos (Or.inr h17)]
      · have : ¬ (((b :: t).length : Nat) : Int) > 17 := by omega
        have hor : ¬ ((b :: t).length = 0 ∨ (b :: t).length > 17) := by simp only [List.length_cons] at h17 ⊢; omega
        rw [if_neg hor]
        simp only [this, decide_false, Bool.false_eq_true, if_false, sidx, idx, Option.pure_def, Option.bind_eq_bind, Option.bind_some, k48]
        simp only [Int.le_refl, if_true, Int.toNat_zero, List.getElem?_cons_zero, Option.bind_some]
        have hd := digs_l1 ⟨b :: t⟩ h1 _ 0 0 (Nat.zero_add _)
        rw [List.drop_zero, Int.natCast_zero] at hd
        have tail : (Option.bind (M.spec_l16Num_l1 ⟨b :: t⟩ 0 0) fun o => match o with
            | .ret r0 => some r0
            | .done n01 => Option.bind (if neg then some (W (0 - n01)) else some (id n01)) fun n02 => some (n02, true)) = some (match digs (b :: t) 0 with
            | none => (0, false)
            | some n => (if neg then W (0 - n) else n, true)) := by
          rw [hd]
          cases digs (b :: t) 0 with
          | none => rfl
          | some n => cases neg <;> rfl
        by_cases h48 : b = 48
        · subst h48
          by_cases ht : t.length > 0
          · have e1 : (((((48 : UInt8) :: t).length : Nat) : Int) > 1) := by simp only [List.length_cons]; omega
            simp only [e1, ht, decide_true, if_true, Bool.true_and, Bool.true_or, Option.bind_some]
          · have e1 : ¬ (((((48 : UInt8) :: t).length : Nat) : Int) > 1) := by simp only [List.length_cons]; omega
            simp only [e1, ht, decide_true, decide_false, if_true, Bool.false_eq_true, if_false, Bool.true_and, Bool.false_or, Option.bind_some, id]
            cases neg with
            | true => simp only [if_true]
            | false => simp only [Bool.false_eq_true, if_false]; exact tail
        · simp only [h48, decide_false, Bool.false_eq_true, if_false, Bool.false_and, Option.bind_some]
          exact tail
  cases s with
  | nil => rfl
  | cons b l =>
    have h0 : (((b :: l).length : Nat) : Int) > 0 := by simp
    unfold M.spec_l16Num numP
    simp only [h0, decide_true, if_true, sidx, idx, Option.pure_def, Option.bind_eq_bind, Option.bind_some, k45, Int.le_refl, Int.toNat_zero, List.getElem?_cons_zero]
    by_cases h45 : b = 45
    · have hsl : sslc ⟨b :: l⟩ 1 (((b :: l).length : Nat) : Int) = some ⟨l⟩ := by
        have := sslc_eq (s := ⟨b :: l⟩) (f := 1) (i := (b :: l).length) (by simp) (by simp)
        exact this.trans (by simp)
      simp only [h45, decide_true, if_true]
      subst h45
      rw [hsl]
      simp only [Option.bind_some, id, List.drop_succ_cons, List.drop_zero]
      exact fin true l (by simp at hs; omega)
    · simp only [h45, decide_false, Bool.false_eq_true, if_false, Option.bind_some, id]
      exact fin false (b :: l) hs
def numberP (s : List UInt8) : Int := if decide (s.length > 1) && s.head? == some 45 then W (0 - (numP (s.drop 1)).1) else (numP s).1
theorem number_eq (s : Str) (hs : s.l.length ≤ 1048576) : M.spec_l14Number s = some (numberP s.l) := by
  obtain ⟨s⟩ := s
  simp only at hs
  unfold M.spec_l14Number numberP
  cases s with
  | nil =>
    rw [num_eq ⟨[]⟩ (by simp)]
    rfl
  | cons b l =>
    have k45 : ((b.toNat : Int) == 45) = decide (b = 45) := u8_int_eq b 45
    by_cases h1 : (b :: l).length > 1
    · have h1' : (((b :: l).length : Nat) : Int) > 1 := by omega
      simp only [h1, h1', decide_true, if_true, sidx, idx, Option.pure_def, Option.bind_eq_bind, Option.bind_some, k45, Int.le_refl, Int.toNat_zero, List.getElem?_cons_zero, Bool.true_and, List.head?_cons]
      by_cases h45 : b = 45
      · have hsl : sslc ⟨b :: l⟩ 1 (((b :: l).length : Nat) : Int) = some ⟨l⟩ := by
          have := sslc_eq (s := ⟨b :: l⟩) (f := 1) (i := (b :: l).length) (by simp) (by simp)
          exact this.trans (by simp)
        subst h45
        simp only [decide_true, if_true]
        rw [hsl]
        simp only [Option.bind_some]
        rw [num_eq ⟨l⟩ (by simp at hs; simp; omega)]
        simp
      · simp only [h45, decide_false, Bool.false_eq_true, if_false]
        rw [num_eq ⟨b :: l⟩ hs]
        have : ¬ (some b == some (45 : UInt8)) = true := by simpa using h45
        rw [if_neg this]
        rfl
    · have h1' : ¬ (((b :: l).length : Nat) : Int) > 1 := by omega
      simp only [h1, h1', decide_false, Bool.false_eq_true, if_false, Option.pure_def, Option.bind_eq_bind, Option.bind_some, Bool.false_and]
      rw [num_eq ⟨b :: l⟩ hs]
      rfl
/-! Small numbers' texts. -/
def dtx (n : Nat) : List UInt8 := if n < 10 then [UInt8.ofNat (48 + n)] else [UInt8.ofNat (48 + n / 10), UInt8.ofNat (48 + n % 10)]
def itx (n : Int) : List UInt8 := if n < 0 then 45 :: dtx n.natAbs else dtx n.toNat
theorem dtx_eq {n : Nat} (h : n ≤ 99) : decDigits n = dtx n := by
  unfold dtx
  by_cases h1 : n < 10
  · rw [if_pos h1, decDigits_lt h1]
  · rw [if_neg h1, decDigits_ge h1, decDigits_lt (by omega)]; rfl
theorem itx_eq {n : Int} (h : smallN n = true) : itoa n = itx n := by
  simp only [smallN, Bool.and_eq_true, decide_eq_true_eq] at h
  unfold itoa itx
  split
  · rw [dtx_eq (by omega)]
  · rw [dtx_eq (by omega)]
def NumEnd.isOk (e : Lib.NumEnd Int) (n : Int) : Bool := match e with | .ok v => decide (v = n) | _ => false
theorem itx_all : ∀ k : Fin 199, numberP (itx ((k.val : Int) - 99)) = (k.val : Int) - 99 ∧ NumEnd.isOk (Lib.atoiAll (itx ((k.val : Int) - 99))) ((k.val : Int) - 99) = true ∧ (itx ((k.val : Int) - 99)).contains 32 = false ∧ (itx ((k.val : Int) - 99)).contains 10 = false ∧ (itx ((k.val : Int) - 99) == []) = false := by decide +kernel
theorem itoa_all {n : Int} (h : smallN n = true) : numberP (itoa n) = n ∧ atoiM ⟨itoa n⟩ = (n, false) ∧ 32 ∉ itoa n ∧ 10 ∉ itoa n ∧ (itoa n == []) = false := by
  rw [itx_eq h]
  simp only [smallN, Bool.and_eq_true, decide_eq_true_eq] at h
  have := itx_all ⟨(n + 99).toNat, by omega⟩
  have e : (((n + 99).toNat : Nat) : Int) - 99 = n := by omega
  simp only [e] at this
  obtain ⟨h1, h2, h3, h4, h5⟩ := this
  refine ⟨h1, ?_, by simpa using h3, by simpa using h4, h5⟩
  unfold atoiM
  show (match Lib.atoiAll (itx n) with | .ok v => (v, false) | .range => (_, true) | _ => (0, true)) = _
  cases ha : Lib.atoiAll (itx n)
  · rename_i v
    rw [ha] at h2; simp only [NumEnd.isOk, decide_eq_true_eq] at h2; rw [h2]
  · rw [ha] at h2; cases h2
  · rw [ha] at h2; cases h2
end Go.LN
