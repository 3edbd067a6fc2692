/- Affine expressions and their texts, in plain words: validity and formatting. -/
import Derived.Test.YtmjfehjlgmdfhaaDoorQA
namespace Go.LN
set_option linter.unusedVariables false
set_option linter.unusedSimpArgs false
open Lib (itoa decDigits)
/-! Small laws of the words. -/
theorem sslc_eq {s : Str} {f i : Nat} (hf : f ≤ i) (hi : i ≤ s.l.length) : sslc s (f : Int) (i : Int) = some ⟨(s.l.take i).drop f⟩ := by
  unfold sslc slc
  rw [if_pos (by omega)]
  simp
theorem app_eq {α : Type} {b : Nat} {l k : List α} (h : (l.length + k.length) * b ≤ 140737488355328) : app b l k = some (l ++ k) := by
  unfold app; rw [if_pos h]
theorem u8_int_eq (a b : UInt8) : ((a.toNat : Int) == (b.toNat : Int)) = decide (a = b) := by
  by_cases h : a = b
  · subst h; simp
  · rw [decide_eq_false h]
    exact beq_false_of_ne (fun e => h (UInt8.toNat_inj.1 (by omega)))
theorem u8_int_eq' (a : UInt8) (n : Nat) (hn : n < 256) : ((a.toNat : Int) == (n : Int)) = decide (a = UInt8.ofNat n) := by
  have := u8_int_eq a (UInt8.ofNat n)
  rwa [UInt8.toNat_ofNat_of_lt' (by exact hn)] at this
theorem index_l1 {f : Int → Option Bool} {p : Int → Bool} (s : List Int) (hf : ∀ x ∈ s, f x = some (p x)) (hs : s.length ≤ 9223372036854775806) : ∀ j k, k + j = s.length →
    M.slices_IndexFunc_int_int_l1 s f (k : Int) = some (match (s.drop k).findIdx? p with | some i => .ret (((k + i : Nat)) : Int) | none => .done ()) := by
  intro j
  induction j with
  | zero =>
    intro k hk
    rw [M.slices_IndexFunc_int_int_l1]
    have : ¬ ((k : Int) < (s.length : Int)) := by omega
    simp [this, List.drop_eq_nil_iff.2 (show s.length ≤ k by omega)]
  | succ j ih =>
    intro k hk
    rw [M.slices_IndexFunc_int_int_l1]
    have hlt : k < s.length := by omega
    have : ((k : Int) < (s.length : Int)) := by omega
    simp only [this, decide_true, if_true, idx_nat, List.getElem?_eq_getElem hlt, Option.bind_eq_bind, Option.bind_some, hf _ (List.getElem_mem hlt)]
    rw [List.drop_eq_getElem_cons hlt, List.findIdx?_cons]
    cases hp : p s[k] with
    | true => simp
    | false =>
      simp only [Bool.false_eq_true, if_false]
      rw [W_succ (by omega), ih (k + 1) (by omega)]
      cases hx : List.findIdx? p (List.drop (k + 1) s) with
      | none => simp
      | some i => simp; omega
theorem contains_eq {f : Int → Option Bool} {p : Int → Bool} (s : List Int) (hf : ∀ x ∈ s, f x = some (p x)) (hs : s.length ≤ 9223372036854775806) : M.slices_ContainsFunc_int_int s f = some (s.any p) := by
  unfold M.slices_ContainsFunc_int_int M.slices_IndexFunc_int_int
  have := index_l1 s hf hs s.length 0 (by omega)
  rw [List.drop_zero] at this
  simp only [Int.natCast_zero, Option.bind_eq_bind] at this ⊢
  rw [this]
  cases h : List.findIdx? p s with
  | none =>
    have : s.any p = false := by simpa using List.findIdx?_eq_none_iff.1 h
    simp [this]
  | some i =>
    have : s.any p = true := by
      obtain ⟨h1, h2⟩ := List.findIdx?_eq_some_iff_getElem.1 h
      exact List.any_eq_true.2 ⟨s[i], List.getElem_mem h1, h2.1⟩
    simp [this]
/-! Validity. -/
def coefB (c : Int) : Bool := decide (-9 ≤ c) && decide (c ≤ 9)
def constB (c : Int) : Bool := decide (-99 ≤ c) && decide (c ≤ 99)
def validB (a : impl_Affine) : Bool := decide (a.Coefs.length = 4) && constB a.Const && a.Coefs.all coefB
theorem within_eq (n lo hi : Int) : M.impl_within n lo hi = some (decide (lo ≤ n) && decide (n ≤ hi)) := by
  unfold M.impl_within
  by_cases h : lo ≤ n <;> simp [h]
theorem implValid (a : impl_Affine) (h : a.Coefs.length ≤ 1048576) : M.impl_AffineValid a = some (validB a) := by
  unfold M.impl_AffineValid validB M.impl_isConst
  have e : ((a.Coefs.length : Int) == 4) = decide (a.Coefs.length = 4) := by
    by_cases h4 : a.Coefs.length = 4
    · simp [h4]
    · have : ¬ (a.Coefs.length : Int) = 4 := by omega
      simp [h4, this]
  rw [within_eq, e]
  by_cases h4 : a.Coefs.length = 4
  · have hc : M.slices_ContainsFunc_int_int a.Coefs M.impl_AffineValid_1 = some (a.Coefs.any fun c => !coefB c) := by
      refine contains_eq _ (fun x _ => ?_) (by omega)
      unfold M.impl_AffineValid_1
      rw [within_eq]
      rfl
    simp only [h4, decide_true, if_true, Option.bind_eq_bind, Option.bind_some, Option.pure_def, id, hc, Bool.true_and]
    rw [show (decide (-99 ≤ a.Const) && decide (a.Const ≤ 99)) = constB a.Const from rfl]
    cases hk : constB a.Const with
    | false => simp
    | true =>
      simp only [if_true, Option.bind_eq_bind, Option.bind_some, Bool.true_and]
      rw [List.not_any_eq_all_not]
      simp
  · simp [h4]
theorem specWithin (n : Int) (k : Nat) (hk : k ≤ 1000) : M.spec_l1Within n (k : Int) = some (decide (-(k : Int) ≤ n) && decide (n ≤ k)) := by
  unfold M.spec_l1Within
  rw [W_id (by omega) (by omega)]
  by_cases h : (-(k : Int)) ≤ n
  · have : n ≥ 0 - (k : Int) := by omega
    simp [h, this]
  · have : ¬ n ≥ 0 - (k : Int) := by omega
    simp [h, this]
theorem specValid_l1 (a : impl_Affine) (h : a.Coefs.length ≤ 1048576) : ∀ j k, k + j = a.Coefs.length → M.spec_AffineValid_l1 a (k : Int) = some (if (a.Coefs.drop k).all coefB then .done () else .ret false) := by
  intro j
  induction j with
  | zero =>
    intro k hk
    rw [M.spec_AffineValid_l1]
    have : ¬ ((k : Int) < (a.Coefs.length : Int)) := by omega
    simp [this, List.drop_eq_nil_iff.2 (show a.Coefs.length ≤ k by omega)]
  | succ j ih =>
    intro k hk
    rw [M.spec_AffineValid_l1]
    have hlt : k < a.Coefs.length := by omega
    have h1 : ((k : Int) < (a.Coefs.length : Int)) := by omega
    have hw : M.spec_l1Within a.Coefs[k] 9 = some (coefB a.Coefs[k]) := specWithin _ 9 (by omega)
    simp only [h1, decide_true, if_true, idx_nat, List.getElem?_eq_getElem hlt, Option.bind_eq_bind, Option.bind_some, hw]
    rw [List.drop_eq_getElem_cons hlt, List.all_cons]
    cases hp : coefB a.Coefs[k] with
    | false => simp
    | true =>
      simp only [Bool.not_true, Bool.false_eq_true, if_false, Bool.true_and]
      rw [W_succ (by omega), ih (k + 1) (by omega)]
theorem specValid (a : impl_Affine) (h : a.Coefs.length ≤ 1048576) : M.spec_AffineValid a = some (validB a) := by
  unfold M.spec_AffineValid validB
  have e : ((a.Coefs.length : Int) == 4) = decide (a.Coefs.length = 4) := by
    by_cases h4 : a.Coefs.length = 4
    · simp [h4]
    · have : ¬ (a.Coefs.length : Int) = 4 := by omega
      simp [h4, this]
  have hl := specValid_l1 a h _ 0 (Nat.zero_add _)
  have hw : M.spec_l1Within a.Const 99 = some (constB a.Const) := specWithin _ 99 (by omega)
  rw [List.drop_zero, Int.natCast_zero] at hl
  rw [hl, e, hw]
  by_cases hall : a.Coefs.all coefB = true
  · simp only [hall, if_true, Option.bind_eq_bind, Option.bind_some]
    by_cases h4 : a.Coefs.length = 4 <;> simp [h4]
  · simp only [hall, if_false, Option.bind_eq_bind, Option.bind_some]
    simp
/-! Texts. -/
theorem decDigits_lt {u : Nat} (h : u < 10) : decDigits u = [UInt8.ofNat (48 + u)] := by rw [decDigits]; simp [h]
theorem decDigits_ge {u : Nat} (h : ¬ u < 10) : decDigits u = decDigits (u / 10) ++ [UInt8.ofNat (48 + u % 10)] := by rw [decDigits]; simp [h]
theorem u8_digit (d : Nat) (h : d < 10) : u8 (W (48 + (d : Int))) = UInt8.ofNat (48 + d) := by
  rw [W_id (by omega) (by omega)]
  unfold u8
  rw [wraps_u8 _ (by omega) (by omega)]
  congr 1
def dtx (n : Nat) : List UInt8 := if n < 10 then [UInt8.ofNat (48 + n)] else [UInt8.ofNat (48 + n / 10), UInt8.ofNat (48 + n % 10)]
theorem dtx_eq {n : Nat} (h : n ≤ 99) : decDigits n = dtx n := by
  unfold dtx
  by_cases h1 : n < 10
  · rw [if_pos h1, decDigits_lt h1]
  · rw [if_neg h1, decDigits_ge h1, decDigits_lt (by omega)]; rfl
theorem dtx_len (n : Nat) : 1 ≤ (dtx n).length ∧ (dtx n).length ≤ 2 := by unfold dtx; split <;> simp
theorem spec_dec (n : Nat) (h : n ≤ 99) : M.spec_l16Dec (n : Int) = some ⟨dtx n⟩ := by
  rw [M.spec_l16Dec]
  have h1 : ¬ ((n : Int) < -9223372036854775807) := by omega
  have h2 : ¬ ((n : Int) < 0) := by omega
  simp only [h1, h2, decide_false, Bool.false_eq_true, if_false]
  rw [M.spec_l16Dec_l1]
  by_cases h10 : n < 10
  · have : ¬ ((n : Int) > 9) := by omega
    simp only [this, decide_false, Bool.false_eq_true, if_false, Option.bind_eq_bind, Option.bind_some, Option.pure_def]
    rw [u8_digit _ h10, cat_eq (by simp)]
    simp [dtx, h10]
  · have h9 : ((n : Int) > 9) := by omega
    have hm : ((n : Int).tmod 10) = ((n % 10 : Nat) : Int) := by rw [Int.tmod_eq_emod_of_nonneg (by omega)]; omega
    have hd : ((n : Int).tdiv 10) = ((n / 10 : Nat) : Int) := by rw [Int.tdiv_eq_ediv_of_nonneg (by omega)]; omega
    simp only [h9, decide_true, if_true, hm, hd]
    rw [u8_digit _ (Nat.mod_lt _ (by omega)), W_id (by omega) (by omega), cat_eq (by simp)]
    simp only [Option.bind_eq_bind, Option.bind_some]
    rw [M.spec_l16Dec_l1]
    have : ¬ (((n / 10 : Nat) : Int) > 9) := by omega
    simp only [this, decide_false, Bool.false_eq_true, if_false, Option.bind_some, Option.pure_def]
    rw [u8_digit _ (by omega), cat_eq (by simp)]
    simp [dtx, h10]
theorem impl_itoa (n : Nat) (h : n ≤ 99) : M.strconv_Itoa (n : Int) = some ⟨dtx n⟩ := by
  unfold M.strconv_Itoa
  rw [if_pos (by omega), Lib.itoa_nonneg, dtx_eq h]
def sgn (c : Int) : UInt8 := if c < 0 then 45 else 43
def bodyV (k : Nat) (i : Nat) : List UInt8 := if k = 1 then [UInt8.ofNat (105 + i)] else dtx k ++ [42, UInt8.ofNat (105 + i)]
def T0 : List Int → Nat → List UInt8
  | [], _ => []
  | c :: cs, i => (if c = 0 then [] else sgn c :: bodyV c.natAbs i) ++ T0 cs (i + 1)
def TK (c : Int) : List UInt8 := if c = 0 then [] else sgn c :: dtx c.natAbs
def raw (a : impl_Affine) : List UInt8 := T0 a.Coefs 0 ++ TK a.Const
def strip (l : List UInt8) : List UInt8 := match l with | [] => [] | b :: r => if b = 43 then r else b :: r
def tx (a : impl_Affine) : List UInt8 := if raw a = [] then [48] else strip (raw a)
theorem bodyV_len (k i : Nat) : 1 ≤ (bodyV k i).length ∧ (bodyV k i).length ≤ 4 := by
  have := dtx_len k
  unfold bodyV; split <;> simp <;> omega
theorem T0_len : ∀ (cs : List Int) (i : Nat), (T0 cs i).length ≤ 5 * cs.length
  | [], _ => by simp [T0]
  | c :: cs, i => by
    have h1 := bodyV_len c.natAbs i
    have h2 := T0_len cs (i + 1)
    unfold T0
    by_cases h : c = 0 <;> simp [h] <;> omega
theorem TK_len (c : Int) : (TK c).length ≤ 3 := by
  have := dtx_len c.natAbs
  unfold TK; split <;> simp; omega
theorem name_slice (i : Nat) (hi : i < 4) : sslc (⟨[105, 106, 107, 108]⟩ : Str) (i : Int) ((i + 1 : Nat) : Int) = some ⟨[UInt8.ofNat (105 + i)]⟩ := by
  rw [sslc_eq (by omega) (by simp; omega)]
  match i, hi with
  | 0, _ | 1, _ | 2, _ | 3, _ => rfl
theorem spec_term (c : Int) (hc : c ≠ 0) (h : constB c = true) : M.spec_l1Term c ⟨[]⟩ = some ⟨sgn c :: dtx c.natAbs⟩ := by
  simp only [constB, Bool.and_eq_true, decide_eq_true_eq] at h
  unfold M.spec_l1Term sgn
  have hl := dtx_len c.natAbs
  by_cases h0 : c < 0
  · have e : W (0 - c) = ((c.natAbs : Nat) : Int) := by rw [W_id (by omega) (by omega)]; omega
    simp only [h0, decide_true, if_true, Option.bind_eq_bind, Option.bind_some, Option.pure_def, e, spec_dec _ (show c.natAbs ≤ 99 by omega)]
    simp only [BEq.rfl, if_true]
    rw [cat_eq (by simp; omega)]
    rfl
  · have e : c = ((c.natAbs : Nat) : Int) := by omega
    simp only [h0, decide_false, Bool.false_eq_true, if_false, Option.bind_eq_bind, Option.bind_some, Option.pure_def]
    have := spec_dec c.natAbs (by omega)
    rw [← e] at this
    simp only [BEq.rfl, if_true, this, Option.bind_some]
    rw [cat_eq (by simp; omega)]
    rfl
theorem spec_term_v (c : Int) (hc : c ≠ 0) (h : coefB c = true) (i : Nat) : M.spec_l1Term c ⟨[UInt8.ofNat (105 + i)]⟩ = some ⟨sgn c :: bodyV c.natAbs i⟩ := by
  simp only [coefB, Bool.and_eq_true, decide_eq_true_eq] at h
  unfold M.spec_l1Term sgn bodyV
  have hl := dtx_len c.natAbs
  have key : ∀ (n : Nat) (sg : UInt8), 1 ≤ n → n ≤ 9 → (if (([UInt8.ofNat (105 + i)] : List UInt8) == []) = true then (do
        let y ← M.spec_l16Dec (n : Int)
        let s ← cat ⟨[sg]⟩ y
        pure (id s))
      else if ((n : Int) == 1) = true then (do
        let s1 ← cat ⟨[sg]⟩ ⟨[UInt8.ofNat (105 + i)]⟩
        pure (id s1))
      else (do
        let y1 ← M.spec_l16Dec (n : Int)
        let s2 ← cat ⟨[sg]⟩ y1
        let s3 ← cat s2 ⟨[42]⟩
        let s4 ← cat s3 ⟨[UInt8.ofNat (105 + i)]⟩
        pure (id s4)) : Option Str) = some ⟨sg :: (if n = 1 then [UInt8.ofNat (105 + i)] else dtx n ++ [42, UInt8.ofNat (105 + i)])⟩ := by
    intro n sg h1 h9
    have hl := dtx_len n
    have hne : (([UInt8.ofNat (105 + i)] : List UInt8) == []) = false := rfl
    rw [hne]
    simp only [Bool.false_eq_true, if_false]
    by_cases hn : n = 1
    · subst hn
      simp only [Int.natCast_one, BEq.rfl, if_true, Option.bind_eq_bind, Option.bind_some, Option.pure_def]
      rw [cat_eq (by simp)]
      rfl
    · have : ((n : Int) == 1) = false := by simp; omega
      simp only [this, Bool.false_eq_true, if_false, hn, spec_dec n (by omega), Option.bind_eq_bind, Option.bind_some, Option.pure_def]
      rw [cat_eq (by simp; omega)]
      simp only [Option.bind_some]
      rw [cat_eq (by simp; omega)]
      simp only [Option.bind_some]
      rw [cat_eq (by simp; omega)]
      simp
  by_cases h0 : c < 0
  · have e : W (0 - c) = ((c.natAbs : Nat) : Int) := by rw [W_id (by omega) (by omega)]; omega
    simp only [h0, decide_true, if_true, e]
    exact key c.natAbs 45 (by omega) (by omega)
  · have e : c = ((c.natAbs : Nat) : Int) := by omega
    simp only [h0, decide_false, Bool.false_eq_true, if_false]
    have := key c.natAbs 43 (by omega) (by omega)
    rw [← e] at this
    exact this
theorem spec_text_l1 (a : impl_Affine) (ha : validB a = true) : ∀ j k (out : Str), k + j = 4 → out.l.length ≤ 100 * k → M.spec_l1Text_l1 a out (k : Int) = some ⟨out.l ++ T0 (a.Coefs.drop k) k⟩ := by
  simp only [validB, Bool.and_eq_true, decide_eq_true_eq] at ha
  obtain ⟨⟨h4, hk⟩, hall⟩ := ha
  intro j
  induction j with
  | zero =>
    intro k out hk ho
    rw [M.spec_l1Text_l1]
    have : ¬ ((k : Int) < (a.Coefs.length : Int)) := by omega
    simp [this, List.drop_eq_nil_iff.2 (show a.Coefs.length ≤ k by omega), T0]
  | succ j ih =>
    intro k out hk ho
    rw [M.spec_l1Text_l1]
    have hlt : k < a.Coefs.length := by omega
    have h1 : ((k : Int) < (a.Coefs.length : Int)) := by omega
    have hc := List.all_eq_true.1 hall _ (List.getElem_mem hlt)
    simp only [h1, decide_true, if_true, idx_nat, List.getElem?_eq_getElem hlt, Option.bind_eq_bind, Option.bind_some]
    rw [W_succ (by omega), name_slice k (by omega), List.drop_eq_getElem_cons hlt, T0]
    generalize a.Coefs[k] = c at hc
    by_cases h0 : c = 0
    · subst h0
      simp only [bne_self_eq_false, Bool.false_eq_true, if_false, Option.pure_def, Option.bind_some, id, if_true, List.nil_append]
      exact ih (k + 1) out (by omega) (by omega)
    · have hb : (c != 0) = true := by simpa using h0
      have hl := bodyV_len c.natAbs k
      simp only [hb, if_true, Option.bind_some, spec_term_v c h0 hc k, h0, if_false]
      rw [cat_eq (by simp; omega)]
      simp only [Option.bind_some, Option.pure_def, id]
      rw [ih (k + 1) _ (by omega) (by simp; omega)]
      simp
theorem T0_head : ∀ (cs : List Int) (i : Nat), T0 cs i = [] ∨ ∃ s r, T0 cs i = s :: r ∧ (s = 43 ∨ s = 45) ∧ r ≠ []
  | [], _ => .inl rfl
  | c :: cs, i => by
    unfold T0
    by_cases h : c = 0
    · simp only [h, if_true, List.nil_append]; exact T0_head cs (i + 1)
    · refine .inr ⟨sgn c, bodyV c.natAbs i ++ T0 cs (i + 1), by simp [h], ?_, ?_⟩
      · unfold sgn; split
        · exact .inr rfl
        · exact .inl rfl
      · have := bodyV_len c.natAbs i
        intro e
        rw [List.append_eq_nil_iff] at e
        rw [e.1] at this
        simp at this
theorem TK_head (c : Int) : TK c = [] ∨ ∃ s r, TK c = s :: r ∧ (s = 43 ∨ s = 45) ∧ r ≠ [] := by
  unfold TK
  by_cases h : c = 0
  · exact .inl (by simp [h])
  · refine .inr ⟨sgn c, dtx c.natAbs, by simp [h], ?_, ?_⟩
    · unfold sgn; split
      · exact .inr rfl
      · exact .inl rfl
    · have := dtx_len c.natAbs
      intro e; rw [e] at this; simp at this
theorem spec_text (a : impl_Affine) (ha : validB a = true) : M.spec_l1Text a = some ⟨tx a⟩ := by
  have hv := ha
  simp only [validB, Bool.and_eq_true, decide_eq_true_eq] at hv
  obtain ⟨⟨h4, hk⟩, hall⟩ := hv
  unfold M.spec_l1Text tx
  have h1 := spec_text_l1 a ha 4 0 ⟨[]⟩ (by omega) (by simp)
  rw [Int.natCast_zero, List.drop_zero, List.nil_append] at h1
  rw [h1]
  have ht := T0_len a.Coefs 0
  have hl2 := TK_len a.Const
  have e : (do
     if (a.Const != 0) then
      let y1 ← M.spec_l1Term a.Const (⟨[]⟩ : Str)
      let s2 ← cat ⟨T0 a.Coefs 0⟩ y1
      pure (id s2)
     else
      pure (id ⟨T0 a.Coefs 0⟩) : Option Str) = some ⟨raw a⟩ := by
    unfold raw TK
    by_cases h0 : a.Const = 0
    · simp [h0]
    · have hb : (a.Const != 0) = true := by simpa using h0
      have hd := dtx_len a.Const.natAbs
      simp only [hb, if_true, Option.bind_eq_bind, Option.bind_some, spec_term _ h0 hk, h0, if_false]
      rw [cat_eq (by simp; omega)]
      rfl
  simp only [Option.bind_eq_bind, Option.bind_some] at e ⊢
  rw [e]
  simp only [Option.bind_some]
  have hraw : (raw a).length ≤ 100 := by unfold raw; rw [List.length_append]; omega
  cases hr : raw a with
  | nil => simp
  | cons b r =>
    have hne : ((b :: r : List UInt8) == []) = false := rfl
    rw [hr] at hraw
    have hsl : sslc ⟨b :: r⟩ 0 1 = some ⟨[b]⟩ := by
      have := sslc_eq (s := ⟨b :: r⟩) (f := 0) (i := 1) (by omega) (by simp)
      exact this.trans (by simp)
    have hsl2 : sslc ⟨b :: r⟩ 1 (((b :: r).length : Nat) : Int) = some ⟨r⟩ := by
      have := sslc_eq (s := ⟨b :: r⟩) (f := 1) (i := (b :: r).length) (by simp) (by simp)
      exact this.trans (by simp)
    simp only [hne, Bool.false_eq_true, if_false, hsl, hsl2, Option.bind_some, reduceCtorEq, strip]
    by_cases hb : b = 43
    · subst hb; simp
    · have : (([b] : List UInt8) == [43]) = false := by simpa using hb
      simp [this, hb]
theorem impl_sign (c : Int) (x : Str) (hx : x.l.length ≤ 1000) : M.impl_affineText_1 c x = some ⟨x.l ++ (if c < 0 then [45] else if x.l = [] then [] else [43])⟩ := by
  unfold M.impl_affineText_1
  by_cases h : c < 0
  · simp only [h, decide_true, if_true, Option.bind_eq_bind, Option.bind_some, Option.pure_def]
    rw [cat_eq (by simp; omega)]
    rfl
  · simp only [h, decide_false, Bool.false_eq_true, if_false, Option.bind_eq_bind, Option.bind_some, Option.pure_def]
    cases hx0 : x.l with
    | nil => obtain ⟨l⟩ := x; simp only at hx0; subst hx0; simp
    | cons b r =>
      have hne : ((b :: r : List UInt8) == []) = false := rfl
      rw [hne]
      simp only [Bool.not_false, if_true]
      rw [cat_eq (by rw [hx0] at hx ⊢; simp at hx ⊢; omega)]
      simp [hx0]
theorem max_abs (c : Int) (h : -100 ≤ c ∧ c ≤ 100) : (if (W (0 - c)) > c then (W (0 - c)) else c) = ((c.natAbs : Nat) : Int) := by
  rw [W_id (by omega) (by omega)]
  split <;> omega
theorem strip_app {A t : List UInt8} (h : A ≠ []) : strip (A ++ t) = strip A ++ t := by
  cases A with
  | nil => exact absurd rfl h
  | cons b r => simp only [List.cons_append, strip]; split <;> rfl
theorem strip_step (A : List UInt8) (hA : A = [] ∨ strip A ≠ []) (c : Int) (body : List UInt8) : strip (A ++ sgn c :: body) = strip A ++ (if c < 0 then [45] else if strip A = [] then [] else [43]) ++ body := by
  by_cases h : A = []
  · subst h
    unfold sgn
    by_cases hc : c < 0 <;> simp [hc, strip]
  · have hs := hA.resolve_left h
    rw [strip_app h]
    unfold sgn
    by_cases hc : c < 0 <;> simp [hc, hs]
theorem T0_snoc : ∀ (cs : List Int) (c : Int) (i : Nat), T0 (cs ++ [c]) i = T0 cs i ++ (if c = 0 then [] else sgn c :: bodyV c.natAbs (i + cs.length))
  | [], c, i => by simp [T0]
  | d :: cs, c, i => by
    rw [List.cons_append, T0, T0_snoc cs c (i + 1), T0, List.append_assoc, List.length_cons, show i + 1 + cs.length = i + (cs.length + 1) by omega]
theorem T0_strip (cs : List Int) (i : Nat) : T0 cs i = [] ∨ strip (T0 cs i) ≠ [] := by
  rcases T0_head cs i with h | ⟨s, r, h, _, hr⟩
  · exact .inl h
  · right
    rw [h, strip]
    split
    · exact hr
    · simp
theorem strip_len (l : List UInt8) : (strip l).length ≤ l.length := by
  unfold strip
  split
  · simp
  · split <;> simp
theorem impl_text_l1 (a : impl_Affine) (ha : validB a = true) : ∀ (j k : Nat), k + j = 4 → M.impl_affineText_l1 a (k : Int) ⟨strip (T0 (a.Coefs.take k) 0)⟩ = some ⟨strip (T0 a.Coefs 0)⟩ := by
  simp only [validB, Bool.and_eq_true, decide_eq_true_eq] at ha
  obtain ⟨⟨h4, hk⟩, hall⟩ := ha
  intro j
  induction j with
  | zero =>
    intro k hk
    rw [M.impl_affineText_l1]
    have : ¬ ((k : Int) < (a.Coefs.length : Int)) := by omega
    simp [this, List.take_of_length_le (show a.Coefs.length ≤ k by omega)]
  | succ j ih =>
    intro k hk
    rw [M.impl_affineText_l1]
    have hlt : k < a.Coefs.length := by omega
    have h1 : ((k : Int) < (a.Coefs.length : Int)) := by omega
    have hc := List.all_eq_true.1 hall _ (List.getElem_mem hlt)
    have hih := ih (k + 1) (by omega)
    rw [List.take_add_one, List.getElem?_eq_getElem hlt] at hih
    simp only [Option.toList_some] at hih
    rw [T0_snoc] at hih
    simp only [h1, decide_true, if_true, idx_nat, List.getElem?_eq_getElem hlt, Option.bind_eq_bind, Option.bind_some]
    have hlen : (a.Coefs.take k).length = k := by rw [List.length_take]; omega
    rw [hlen, Nat.zero_add] at hih
    have hst := T0_strip (a.Coefs.take k) 0
    have hT := T0_len (a.Coefs.take k) 0
    rw [hlen] at hT
    have hsl := strip_len (T0 (a.Coefs.take k) 0)
    generalize T0 (a.Coefs.take k) 0 = A at hst hT hsl hih ⊢
    generalize a.Coefs[k] = c at hc hih ⊢
    by_cases h0 : c = 0
    · subst h0
      simp only [BEq.rfl, if_true]
      rw [W_succ (by omega)]
      simpa using hih
    · have hb : (c == 0) = false := by simpa using h0
      simp only [coefB, Bool.and_eq_true, decide_eq_true_eq] at hc
      simp only [h0, if_false] at hih
      rw [strip_step A hst] at hih
      have hlb := bodyV_len c.natAbs k
      have hds := dtx_len c.natAbs
      simp only [hb, Bool.false_eq_true, if_false]
      rw [impl_sign c _ (by show (strip A).length ≤ 1000; omega)]
      simp only [Option.bind_some]
      rw [W_succ (by omega), name_slice k (by omega), max_abs c (by omega)]
      generalize hX : strip A ++ (if c < 0 then [45] else if strip A = [] then [] else [43]) = X at hih ⊢
      have hXl : X.length ≤ 101 := by
        rw [← hX, List.length_append]
        split
        · simp; omega
        · split <;> simp <;> omega
      by_cases hn : c.natAbs = 1
      · have h9 : ¬ (((c.natAbs : Nat) : Int) > 1) := by omega
        simp only [h9, decide_false, Bool.false_eq_true, if_false, Option.pure_def, Option.bind_some, id]
        rw [cat_eq (by simp; omega)]
        simp only [Option.bind_some]
        rw [bodyV, if_pos hn] at hih
        exact hih
      · have h9 : (((c.natAbs : Nat) : Int) > 1) := by omega
        simp only [h9, decide_true, if_true, impl_itoa _ (show c.natAbs ≤ 99 by omega), Option.bind_some]
        rw [cat_eq (by simp; omega)]
        simp only [Option.bind_some]
        rw [cat_eq (by simp; omega)]
        simp only [Option.pure_def, Option.bind_some, id]
        rw [cat_eq (by simp; omega)]
        simp only [Option.bind_some]
        rw [bodyV, if_neg hn] at hih
        simpa using hih
theorem impl_text (a : impl_Affine) (ha : validB a = true) : M.impl_affineText a = some ⟨tx a⟩ := by
  have hv := ha
  simp only [validB, Bool.and_eq_true, decide_eq_true_eq] at hv
  obtain ⟨⟨h4, hk⟩, hall⟩ := hv
  unfold M.impl_affineText tx
  have h1 := impl_text_l1 a ha 4 0 (by omega)
  rw [Int.natCast_zero, List.take_zero] at h1
  rw [show (⟨[]⟩ : Str) = ⟨strip (T0 [] 0)⟩ from rfl, h1]
  have hT := T0_len a.Coefs 0
  have hst := T0_strip a.Coefs 0
  have hsl := strip_len (T0 a.Coefs 0)
  simp only [Option.bind_eq_bind, Option.bind_some]
  unfold raw
  generalize T0 a.Coefs 0 = A at hT hst hsl ⊢
  by_cases h0 : a.Const = 0
  · have hb : (a.Const != 0) = false := by simp [h0]
    simp only [hb, Bool.false_eq_true, if_false, Option.pure_def, Option.bind_some, id]
    rw [TK, if_pos h0, List.append_nil]
    by_cases hA : A = []
    · subst hA; rfl
    · have hs := hst.resolve_left hA
      have : (strip A == ([] : List UInt8)) = false := by simpa using hs
      simp only [this, Bool.false_eq_true, if_false, hA]
  · have hb : (a.Const != 0) = true := by simpa using h0
    simp only [constB, Bool.and_eq_true, decide_eq_true_eq] at hk
    have hds := dtx_len a.Const.natAbs
    simp only [hb, if_true]
    rw [impl_sign a.Const _ (by show (strip A).length ≤ 1000; omega), max_abs a.Const (by omega)]
    simp only [Option.bind_some, impl_itoa _ (show a.Const.natAbs ≤ 99 by omega)]
    have hss := strip_step A hst a.Const (dtx a.Const.natAbs)
    generalize hX : strip A ++ (if a.Const < 0 then [45] else if strip A = [] then [] else [43]) = X at hss ⊢
    have hXl : X.length ≤ 101 := by
      rw [← hX, List.length_append]
      split
      · simp; omega
      · split <;> simp <;> omega
    rw [cat_eq (by simp; omega)]
    simp only [Option.pure_def, Option.bind_some, id]
    have hne : (X ++ dtx a.Const.natAbs == ([] : List UInt8)) = false := by
      have : X ++ dtx a.Const.natAbs ≠ [] := by
        intro e
        rw [List.append_eq_nil_iff] at e
        rw [e.2] at hds
        simp at hds
      simpa using this
    simp only [hne, Bool.false_eq_true, if_false]
    rw [TK, if_neg h0, if_neg (by simp), hss]
end Go.LN
