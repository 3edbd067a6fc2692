/- The program's ParseSteps answers as the reference's: plain law. -/
import Derived.Test.YtbgdegfnaofkfaaDoorPPH
namespace Go.LN
set_option linter.unusedVariables false
set_option linter.unusedSimpArgs false
open Lib (itoa decDigits)
theorem set_take_succ {α : Type} (l : List α) (k : Nat) (v : α) (h : k < l.length) : (l.set k v).take (k + 1) = l.take k ++ [v] := by
  rw [List.take_add_one, List.take_set_of_le (Nat.le_refl _)]
  simp [h]
/-! slices.Index over texts. -/
theorem sindex_l1 (s : List Str) (v : Str) (hs : s.length ≤ 1048576) : ∀ j k, k + j = s.length →
    M.slices_Index_string_string_l1 s v (k : Int) = some (match (s.drop k).findIdx? (fun x => v.l == x.l) with | some i => .ret (((k + i : Nat)) : Int) | none => .done ()) := by
  intro j
  induction j with
  | zero =>
    intro k hk
    rw [M.slices_Index_string_string_l1]
    have : ¬ ((k : Int) < (s.length : Int)) := by omega
    simp [this, List.drop_eq_nil_iff.2 (show s.length ≤ k by omega)]
  | succ j ih =>
    intro k hk
    rw [M.slices_Index_string_string_l1]
    have hlt : k < s.length := by omega
    have : ((k : Int) < (s.length : Int)) := by omega
    simp only [this, decide_true, if_true, idx_nat, List.getElem?_eq_getElem hlt, Option.bind_eq_bind, Option.bind_some]
    rw [List.drop_eq_getElem_cons hlt, List.findIdx?_cons]
    cases hp : v.l == s[k].l with
    | true => simp
    | false =>
      simp only [Bool.false_eq_true, if_false]
      rw [W_succ (by omega), ih (k + 1) (by omega)]
      cases hx : List.findIdx? (fun x => v.l == x.l) (List.drop (k + 1) s) with
      | none => simp
      | some i => simp; omega
def sind (X : List (List UInt8)) (v : List UInt8) : Int := match X.findIdx? (fun x => v == x) with | some i => (i : Int) | none => -1
theorem sindex_eq (X : List (List UInt8)) (v : List UInt8) (hs : X.length ≤ 1048576) : M.slices_Index_string_string (X.map Str.mk) ⟨v⟩ = some (sind X v) := by
  unfold M.slices_Index_string_string sind
  have := sindex_l1 (X.map Str.mk) ⟨v⟩ (by simpa using hs) _ 0 (Nat.zero_add _)
  rw [List.drop_zero, Int.natCast_zero, List.findIdx?_map] at this
  have e : ((fun x : Str => (⟨v⟩ : Str).l == x.l) ∘ Str.mk) = fun x => v == x := rfl
  rw [e] at this
  rw [this]
  cases List.findIdx? (fun x => v == x) X with
  | none => simp
  | some i => simp
theorem sind_range (X : List (List UInt8)) (v : List UInt8) : -1 ≤ sind X v ∧ sind X v < X.length := by
  unfold sind
  cases h : List.findIdx? (fun x => v == x) X with
  | none => exact ⟨Int.le_refl _, by show (-1 : Int) < _; omega⟩
  | some i =>
    obtain ⟨h1, _⟩ := List.findIdx?_eq_some_iff_getElem.1 h
    exact ⟨by show (-1 : Int) ≤ (i : Int); omega, by show (i : Int) < _; omega⟩
/-! The numbers of a line. -/
def nums : List (List UInt8) → Option (List Int)
  | [] => some []
  | x :: l => if (atoiM ⟨x⟩).2 then none else (nums l).map ((atoiM ⟨x⟩).1 :: ·)
theorem read_l1 (l : List Str) (st : impl_Step) (hl : l.length ≤ 3) (hm : ∀ x ∈ l, x.l.length ≤ 1048576) : ∀ j k (n : List Int), k + j = l.length → n.length = 3 →
    M.impl_readStep_l1 l st n (k : Int) = some (match nums ((l.drop k).map Str.l) with | none => .ret (⟨0, 0, 0, 0⟩, false) | some v => .done (n.take k ++ v ++ n.drop l.length, st)) := by
  intro j
  induction j with
  | zero =>
    intro k n hk hn
    rw [M.impl_readStep_l1]
    have : ¬ ((k : Int) < (l.length : Int)) := by omega
    simp only [this, decide_false, Bool.false_eq_true, if_false]
    rw [show l.drop k = [] from List.drop_eq_nil_iff.2 (by omega), show l.length = k by omega]
    simp [nums]
  | succ j ih =>
    intro k n hk hn
    rw [M.impl_readStep_l1]
    have hlt : k < l.length := by omega
    have h1 : ((k : Int) < (l.length : Int)) := by omega
    have hat : M.strconv_Atoi l[k] = some (atoiM l[k]) := by
      unfold M.strconv_Atoi
      have := hm _ (List.getElem_mem hlt)
      rw [if_pos (by omega)]
    simp only [h1, decide_true, if_true, idx_nat, List.getElem?_eq_getElem hlt, Option.pure_def, Option.bind_eq_bind, Option.bind_some, hat]
    rw [List.drop_eq_getElem_cons hlt, List.map_cons, nums]
    show (if (atoiM l[k]).2 = true then _ else _) = _
    cases ha : (atoiM l[k]).2 with
    | true => simp [ha]
    | false =>
      have hlt2 : k < n.length := by omega
      simp only [Bool.false_eq_true, if_false, List.getElem?_eq_getElem hlt2, Option.bind_some, Int.toNat_natCast, ha]
      rw [W_succ (by omega), ih (k + 1) _ (by omega) (by simpa using hn), set_take_succ _ _ _ hlt2]
      cases nums ((l.drop (k + 1)).map Str.l) with
      | none => rfl
      | some v =>
        simp only [Option.map_some, List.append_assoc, List.singleton_append]
        rw [List.drop_set_of_lt (by omega)]
theorem nums_fmt : ∀ {l : List Int}, (∀ x ∈ l, smallN x = true) → nums (l.map itoa) = some l
  | [], _ => rfl
  | x :: l, h => by
    rw [List.map_cons, nums, (itoa_all (h x (List.mem_cons_self ..))).2.1, nums_fmt fun y hy => h y (List.mem_cons_of_mem _ hy)]
    rfl
theorem nums_len : ∀ {X : List (List UInt8)} {v}, nums X = some v → v.length = X.length
  | [], v, h => by cases h; rfl
  | x :: l, v, h => by
    rw [nums] at h
    split at h
    · cases h
    · cases hn : nums l with
      | none => rw [hn] at h; cases h
      | some w => rw [hn] at h; cases h; simp [nums_len hn]
def readP (x : List UInt8) : impl_Step × Bool :=
  let X := cutS 32 x
  let k := 1 + sind (wl.drop 1) (X.getD 0 [])
  if k < 1 ∨ (X.length : Int) - 1 ≠ (nfOf k : Int) then (⟨0, 0, 0, 0⟩, false)
  else match nums (X.drop 1) with
    | none => (⟨0, 0, 0, 0⟩, false)
    | some v =>
      let s : impl_Step := ⟨k, (v ++ [0, 0, 0]).getD 0 0, (v ++ [0, 0, 0]).getD 1 0, (v ++ [0, 0, 0]).getD 2 0⟩
      (s, goodB s && fmtS s == x)
theorem read_eq (x : List UInt8) (hx : x.length ≤ 1048576) : M.impl_readStep ⟨x⟩ = some (readP x) := by
  unfold M.impl_readStep readP
  rw [Split_eq ⟨x⟩ 32 hx]
  have hl := cut_len 32 x
  have hm : ∀ y ∈ cutS 32 x, y.length ≤ 1048576 := fun y hy => Nat.le_trans (cut_mem hy) hx
  have hne := cut_ne 32 x
  simp only
  generalize cutS 32 x = X at hl hm hne ⊢
  obtain ⟨y, X, rfl⟩ : ∃ y X', X = y :: X' := by cases X with | nil => exact absurd rfl hne | cons y X => exact ⟨y, X, rfl⟩
  have i0 : idx ((y :: X).map Str.mk) 0 = some ⟨y⟩ := rfl
  simp only [Option.bind_eq_bind, Option.bind_some, words_impl, i0, sindex_eq (wl.drop 1) y (by decide), Option.pure_def, List.getD_cons_zero]
  have hr := sind_range (wl.drop 1) y
  generalize sind (wl.drop 1) y = q at hr ⊢
  have hr2 : q < 11 := hr.2
  rw [W_id (by omega) (by omega)]
  have hW2 : W ((((y :: X).map Str.mk).length : Int) - 1) = ((y :: X).length : Int) - 1 := by rw [List.length_map]; exact W_id (by simp) (by simp at hl ⊢; omega)
  rw [hW2]
  by_cases hq : 1 + q < 1
  · simp only [hq, decide_true, if_true, Option.bind_some, true_or]
  · simp only [hq, decide_false, Bool.false_eq_true, if_false, Option.bind_some, implFields_val, if_pos (show 1 ≤ 1 + q ∧ 1 + q ≤ 11 by omega), false_or]
    have h3 := nf_le (1 + q)
    by_cases hn : ((y :: X).length : Int) - 1 = (nfOf (1 + q) : Int)
    · have hb : (((y :: X).length : Int) - 1 != (nfOf (1 + q) : Int)) = false := by simp only [hn, bne_self_eq_false]
      simp only [hn, bne_self_eq_false, Bool.false_eq_true, if_false, ne_eq, not_true_eq_false, List.drop_succ_cons, List.drop_zero]
      have hXl : X.length = nfOf (1 + q) := by simp only [List.length_cons] at hn; omega
      have hsl : slc ((y :: X).map Str.mk) 1 (((y :: X).map Str.mk).length : Int) = some (X.map Str.mk) := by
        have := slc_eq (s := (y :: X).map Str.mk) (f := 1) (i := ((y :: X).map Str.mk).length) (by simp) (Nat.le_refl _)
        refine this.trans ?_
        rw [List.take_length]; rfl
      rw [hsl]
      simp only [Option.bind_some]
      have hrd := read_l1 (X.map Str.mk) ⟨0, 0, 0, 0⟩ (by simp; omega) (by intro z hz; obtain ⟨w, hw, rfl⟩ := List.mem_map.1 hz; exact hm w (List.mem_cons_of_mem _ hw)) _ 0 [0, 0, 0] (Nat.zero_add _) rfl
      rw [List.drop_zero, Int.natCast_zero, List.map_map, show Str.l ∘ Str.mk = id from rfl, List.map_id, List.length_map] at hrd
      rw [hrd]
      cases hv : nums X with
      | none => rfl
      | some v =>
        have hvl := nums_len hv
        have hv3 : v.length ≤ 3 := by omega
        have key : ∀ a b c : Int, ([] : List Int) ++ v ++ ([0, 0, 0] : List Int).drop X.length = [a, b, c] → (v ++ [0, 0, 0]).getD 0 0 = a ∧ (v ++ [0, 0, 0]).getD 1 0 = b ∧ (v ++ [0, 0, 0]).getD 2 0 = c := by
          rw [← hvl]
          intro a b c h
          match v, hv3 with
          | [], _ => simp at h; obtain ⟨h1, h2, h3⟩ := h; subst h1 h2 h3; simp
          | [a], _ => simp at h; obtain ⟨h1, h2, h3⟩ := h; subst h1 h2 h3; simp
          | [a, b], _ => simp at h; obtain ⟨h1, h2, h3⟩ := h; subst h1 h2 h3; simp
          | [a, b, c], _ => simp at h; obtain ⟨h1, h2, h3⟩ := h; subst h1 h2 h3; simp
        obtain ⟨a, b, c, he⟩ : ∃ a b c : Int, ([] : List Int) ++ v ++ ([0, 0, 0] : List Int).drop X.length = [a, b, c] := by
          refine three ?_
          simp; omega
        obtain ⟨ka, kb, kc⟩ := key a b c he
        simp only [ka, kb, kc, Option.bind_some, List.take_zero, he]
        have j0 : idx [a, b, c] 0 = some a := rfl
        have j1 : idx [a, b, c] 1 = some b := rfl
        have j2 : idx [a, b, c] 2 = some c := rfl
        simp only [j0, j1, j2, Option.bind_some, hasText_val]
        cases hg : goodB ⟨1 + q, a, b, c⟩ with
        | false => simp
        | true => simp [stepText_val hg]
    · have hb : (((y :: X).length : Int) - 1 != (nfOf (1 + q) : Int)) = true := by simpa using hn
      simp only [hb, if_true, hn, ne_eq, not_false_eq_true]
theorem read_good {x : List UInt8} (h : (readP x).2 = true) : goodB (readP x).1 = true ∧ fmtS (readP x).1 = x := by
  unfold readP at h ⊢
  simp only at h ⊢
  split at h
  · cases h
  · rename_i hk
    rw [if_neg hk]
    split at h
    · cases h
    · rename_i v hv
      simp only [Bool.and_eq_true, beq_iff_eq] at h
      exact h
theorem sind_all : ∀ k : Fin 12, 1 ≤ k.val → sind (wl.drop 1) (wl.getD k.val []) = (k.val : Int) - 1 := by decide
theorem read_fmt {s : impl_Step} (h : goodB s = true) : readP (fmtS s) = (s, true) := by
  have hk := good_kind h
  unfold readP
  rw [cut_fmt h]
  have hlk : sind (wl.drop 1) (wordOf s.Kind) = s.Kind - 1 := by
    have := sind_all ⟨s.Kind.toNat, by omega⟩ (by show 1 ≤ s.Kind.toNat; omega)
    rw [wordOf, this]
    show ((s.Kind.toNat : Nat) : Int) - 1 = s.Kind - 1
    omega
  have hK : 1 + (s.Kind - 1) = s.Kind := by omega
  have h3 := nf_le s.Kind
  simp only [List.getD_cons_zero, hlk, hK]
  have hlen : (((wordOf s.Kind :: ([s.Part, s.A, s.B].take (nfOf s.Kind)).map itoa).length : Nat) : Int) - 1 = (nfOf s.Kind : Int) := by
    simp only [List.length_cons, List.length_map, List.length_take, List.length_nil]; omega
  rw [if_neg (by omega), List.drop_succ_cons, List.drop_zero, nums_fmt fun x hx => good_mem h x (List.mem_of_mem_take hx)]
  have hr : rightB s = true := by have := h; simp only [goodB, Bool.and_eq_true] at this; exact this.1
  simp only [rightB, Bool.and_eq_true] at hr
  have hz := hr.2
  have e : ∀ v, v = [s.Part, s.A, s.B].take (nfOf s.Kind) → (⟨s.Kind, (v ++ [0, 0, 0]).getD 0 0, (v ++ [0, 0, 0]).getD 1 0, (v ++ [0, 0, 0]).getD 2 0⟩ : impl_Step) = s := by
    rintro v rfl
    obtain ⟨k, p, a, b⟩ := s
    simp only at *
    generalize nfOf k = n at h3 hz
    match n, h3 with
    | 0, _ => simp at hz; simp [hz]
    | 1, _ => simp at hz; simp [hz]
    | 2, _ => simp at hz; simp [hz]
    | 3, _ => simp
  simp only [e _ rfl, h, Bool.true_and, beq_self_eq_true]
/-! Texts of steps. -/
def FL : List impl_Step → List UInt8
  | [] => []
  | s :: o => fmtS s ++ 10 :: FL o
theorem FL_len : ∀ {o : List impl_Step}, (∀ s ∈ o, goodB s = true) → (FL o).length ≤ 24 * o.length
  | [], _ => by simp [FL]
  | s :: o, h => by
    have h1 := fmt_len (h s (List.mem_cons_self ..))
    have h2 := FL_len (o := o) fun y hy => h y (List.mem_cons_of_mem _ hy)
    simp [FL]; omega
theorem cut_FL : ∀ {o : List impl_Step}, (∀ s ∈ o, goodB s = true) → cutS 10 (FL o) = o.map fmtS ++ [[]]
  | [], _ => rfl
  | s :: o, h => by
    rw [FL, cut_app (fmt_nl (h s (List.mem_cons_self ..))), cut_FL fun y hy => h y (List.mem_cons_of_mem _ hy)]
    rfl
theorem join_FL : ∀ o : List impl_Step, joinS 10 (o.map fmtS ++ [[]]) = FL o
  | [] => rfl
  | s :: o => by
    have ih := join_FL o
    rw [List.map_cons, List.cons_append]
    cases hx : o.map fmtS ++ [[]] with
    | nil => simp at hx
    | cons y t => rw [hx] at ih; rw [joinS, ih, FL]
theorem format_l1 (o : List impl_Step) (ho : o.length ≤ 12) : ∀ j k (out : Str), k + j = o.length → out.l.length ≤ 100 * k →
    M.spec_FormatSteps_l1 o out (k : Int) = some (if (o.drop k).all goodB then .done ⟨out.l ++ FL (o.drop k)⟩ else .ret ⟨[]⟩) := by
  intro j
  induction j with
  | zero =>
    intro k out hk hout
    rw [M.spec_FormatSteps_l1]
    have : ¬ ((k : Int) < (o.length : Int)) := by omega
    simp [this, List.drop_eq_nil_iff.2 (show o.length ≤ k by omega), FL]
  | succ j ih =>
    intro k out hk hout
    rw [M.spec_FormatSteps_l1]
    have hlt : k < o.length := by omega
    have h1 : ((k : Int) < (o.length : Int)) := by omega
    have hi := List.getElem?_eq_getElem hlt
    rw [List.drop_eq_getElem_cons hlt]
    generalize hs : o[k] = s at hi ⊢
    have hr := (right_val s).1
    have hm := small_eq s
    have h12 : ¬ ((o.length : Int) > 12) := by omega
    simp only [h1, decide_true, if_true, idx_nat, hi, Option.bind_eq_bind, Option.bind_some, Option.pure_def, hr, hm, h12, decide_false, List.all_cons]
    have hgd : goodB s = (rightB s && (smallN s.Part && smallN s.A && smallN s.B)) := rfl
    rcases Bool.eq_false_or_eq_true (goodB s) with hg | hg
    · simp only [hg]
      have hg2 := hg
      rw [hgd, Bool.and_eq_true] at hg2
      rw [hg2.1, hg2.2]
      obtain ⟨ws, w, n, e1, e2, e3, e4, e5, e6⟩ := step_text s (good_kind hg).1 (good_kind hg).2 (good_mem hg)
      rw [stepText_val hg] at e6
      have e7 : fmtS s = w ++ ft ([s.Part, s.A, s.B].take n) := congrArg Str.l (Option.some.inj e6)
      have hfl := fmt_len hg
      rw [e7, List.length_append] at hfl
      have hl2 := format_l2 o k s hi n e3 e4 (good_mem hg) n 0 ⟨out.l ++ w⟩ (by omega) (by simp; omega)
      rw [List.drop_zero] at hl2
      simp only [Bool.not_true, Bool.false_eq_true, if_false, Bool.true_and, e1, e2, Option.bind_some]
      rw [cat_eq (by simp; omega)]
      simp only [Option.bind_some]
      rw [show (0 : Int) = ((0 : Nat) : Int) from rfl, hl2]
      simp only [Option.bind_some]
      rw [cat_eq (by simp; omega)]
      simp only [Option.bind_some]
      rw [W_succ (by omega), ih (k + 1) _ (by omega) (by simp; omega)]
      rw [FL, e7]
      simp
    · simp only [hg]
      rw [hgd] at hg
      cases hrr : rightB s with
      | false => simp
      | true =>
        rw [hrr, Bool.true_and] at hg
        rw [hg]
        simp
theorem format_val (o : List impl_Step) (ho : o.length ≤ 12) : M.spec_FormatSteps o = some ⟨if o.all goodB then FL o else []⟩ := by
  unfold M.spec_FormatSteps
  have := format_l1 o ho _ 0 ⟨[]⟩ (Nat.zero_add _) (by simp)
  rw [List.drop_zero, Int.natCast_zero] at this
  rw [this]
  cases h : o.all goodB <;> simp
def Res (s : List UInt8) (r : List impl_Step × Bool) : Prop :=
  (r.2 = true ∧ r.1.length ≤ 12 ∧ (∀ x ∈ r.1, goodB x = true) ∧ s = FL r.1) ∨ (r.2 = false ∧ r.1 = [] ∧ ∀ o : List impl_Step, o.length ≤ 12 → (∀ x ∈ o, goodB x = true) → s ≠ FL o)
theorem FL_inj {o p : List impl_Step} (ho : ∀ x ∈ o, goodB x = true) (hp : ∀ x ∈ p, goodB x = true) (h : FL o = FL p) : o = p := by
  have := congrArg (cutS 10) h
  rw [cut_FL ho, cut_FL hp, List.append_cancel_right_eq] at this
  have h2 := congrArg (List.map lineP) this
  rw [List.map_map, List.map_map] at h2
  have key : ∀ q : List impl_Step, (∀ x ∈ q, goodB x = true) → q.map (lineP ∘ fmtS) = q := fun q hq => by
    conv => rhs; rw [← List.map_id q]
    exact List.map_congr_left fun x hx => line_fmt (hq x hx)
  rwa [key o ho, key p hp] at h2
theorem Res_inj {s : List UInt8} {a b : List impl_Step × Bool} (ha : Res s a) (hb : Res s b) : a = b := by
  obtain ⟨a1, a2⟩ := a
  obtain ⟨b1, b2⟩ := b
  rcases ha with ⟨h1, h2, h3, h4⟩ | ⟨h1, h2, h3⟩ <;> rcases hb with ⟨k1, k2, k3, k4⟩ | ⟨k1, k2, k3⟩ <;> simp only at *
  · subst h1 k1
    rw [FL_inj h3 k3 (h4.symm.trans k4)]
  · exact absurd h4 (k3 _ h2 h3)
  · exact absurd k4 (h3 _ k2 k3)
  · subst h1 k1 h2 k2; rfl
theorem ne_last {X : List (List UInt8)} (h : X ≠ []) : ∃ xs x, X = xs ++ [x] := ⟨X.dropLast, X.getLast h, (List.dropLast_concat_getLast h).symm⟩
theorem specParse_l1 (X : List (List UInt8)) (hX : X.length ≤ 13) (hm : ∀ x ∈ X, x.length ≤ 1048576) : ∀ j k (out : List impl_Step), k + 1 + j = X.length → out.length ≤ k →
    M.spec_ParseSteps_l1 (X.map Str.mk) out (k : Int) = some (out ++ ((X.take (X.length - 1)).drop k).map lineP) := by
  intro j
  induction j with
  | zero =>
    intro k out hk ho
    rw [M.spec_ParseSteps_l1, W_succ (by omega)]
    have : ¬ (((k + 1 : Nat) : Int) < ((X.map Str.mk).length : Int)) := by rw [List.length_map]; omega
    simp only [this, decide_false, Bool.false_eq_true, if_false]
    rw [show (X.take (X.length - 1)).drop k = [] from List.drop_eq_nil_iff.2 (by rw [List.length_take]; omega)]
    simp
  | succ j ih =>
    intro k out hk ho
    rw [M.spec_ParseSteps_l1, W_succ (by omega)]
    have hlt : k < X.length := by omega
    have h1 : (((k + 1 : Nat) : Int) < ((X.map Str.mk).length : Int)) := by rw [List.length_map]; omega
    have hg : (X.map Str.mk)[k]? = some ⟨X[k]⟩ := by rw [List.getElem?_map, List.getElem?_eq_getElem hlt]; rfl
    simp only [h1, decide_true, if_true, idx_nat, hg, Option.bind_eq_bind, Option.bind_some]
    rw [line_eq ⟨X[k]⟩ (hm _ (List.getElem_mem hlt))]
    simp only [Option.bind_some]
    rw [app_eq (by simp; omega)]
    simp only [Option.bind_some]
    rw [ih (k + 1) _ (by omega) (by simp; omega)]
    have hlt2 : k < (X.take (X.length - 1)).length := by rw [List.length_take]; omega
    rw [List.drop_eq_getElem_cons hlt2, List.getElem_take, List.map_cons]
    simp
theorem specParse (s : Str) (hs : s.l.length ≤ 1048576) : ∃ r, M.spec_ParseSteps s = some r ∧ Res s.l r := by
  obtain ⟨s⟩ := s
  simp only at hs
  unfold M.spec_ParseSteps
  rw [l16Cut_eq ⟨s⟩ 10 hs]
  have hl := cut_len 10 s
  have hm : ∀ x ∈ cutS 10 s, x.length ≤ 1048576 := fun x hx => Nat.le_trans (cut_mem hx) hs
  have hj := join_cut 10 s
  have hne := cut_ne 10 s
  have hbig : ∀ o : List impl_Step, o.length ≤ 12 → (∀ x ∈ o, goodB x = true) → s = FL o → (cutS 10 s).length ≤ 13 ∧ s.length ≤ 1000 ∧ cutS 10 s = o.map fmtS ++ [[]] := by
    rintro o h1 h2 rfl
    have h3 := FL_len h2
    have h4 := cut_FL h2
    refine ⟨by rw [h4]; simp; omega, by omega, h4⟩
  simp only [Option.bind_eq_bind, Option.bind_some, List.length_map, Option.pure_def]
  by_cases h13 : (cutS 10 s).length > 13
  · have : (((cutS 10 s).length : Nat) : Int) > 13 := by omega
    simp only [this, decide_true, if_true, Option.bind_some]
    exact ⟨_, rfl, .inr ⟨rfl, rfl, fun o h1 h2 h3 => by have := (hbig o h1 h2 h3).1; omega⟩⟩
  · have : ¬ (((cutS 10 s).length : Nat) : Int) > 13 := by omega
    simp only [this, decide_false, Bool.false_eq_true, if_false, Option.bind_some]
    by_cases h1000 : s.length > 1000
    · have : ((s.length : Nat) : Int) > 1000 := by omega
      simp only [this, decide_true, if_true]
      exact ⟨_, rfl, .inr ⟨rfl, rfl, fun o h1 h2 h3 => by have := (hbig o h1 h2 h3).2.1; omega⟩⟩
    · have : ¬ ((s.length : Nat) : Int) > 1000 := by omega
      simp only [this, decide_false, Bool.false_eq_true, if_false]
      obtain ⟨xs, x, hX⟩ := ne_last hne
      have hp := specParse_l1 (cutS 10 s) (by omega) hm ((cutS 10 s).length - 1) 0 [] (by rw [hX]; simp; omega) (by simp)
      rw [Int.natCast_zero] at hp
      rw [hp]
      have ht : (cutS 10 s).take ((cutS 10 s).length - 1) = xs := by rw [hX]; simp
      rw [ht]
      simp only [List.drop_zero, List.nil_append, Option.bind_some]
      have hxl : xs.length ≤ 12 := by rw [hX] at h13; simp at h13; omega
      rw [format_val _ (by simpa using hxl)]
      simp only [Option.bind_some]
      cases he : (if (xs.map lineP).all goodB = true then FL (xs.map lineP) else []) == s with
      | true =>
        simp only [Bool.not_true, Bool.false_eq_true, if_false]
        have he := beq_iff_eq.1 he
        refine ⟨_, rfl, .inl ⟨rfl, by simpa using hxl, ?_⟩⟩
        by_cases hall : (xs.map lineP).all goodB = true
        · rw [if_pos hall] at he
          exact ⟨fun y hy => List.all_eq_true.1 hall y hy, he.symm⟩
        · rw [if_neg hall] at he
          rw [← he] at hX
          have hx0 : xs = [] := by
            have := congrArg List.length hX
            simp [cutS] at this
            exact this
          subst hx0
          simp at hall
      | false =>
        simp only [Bool.not_false, if_true]
        refine ⟨_, rfl, .inr ⟨rfl, rfl, fun o h1 h2 h3 => ?_⟩⟩
        have hc := (hbig o h1 h2 h3).2.2
        rw [hX] at hc
        have hxs : xs = o.map fmtS := (List.append_inj' hc rfl).1
        have : xs.map lineP = o := by
          rw [hxs, List.map_map]
          conv => rhs; rw [← List.map_id o]
          exact List.map_congr_left fun x hx => line_fmt (h2 x hx)
        rw [this, if_pos (List.all_eq_true.2 h2), ← h3] at he
        simp at he
theorem implParse_l1 (l : List (List UInt8)) (hl : l.length ≤ 12) (hm : ∀ x ∈ l, x.length ≤ 1048576) : ∀ j k (out : List impl_Step), k + j = l.length → out.length = k →
    M.impl_ParseSteps_l1 (l.map Str.mk) out (k : Int) = some (if (l.drop k).all (fun x => (readP x).2) then .done (out ++ (l.drop k).map fun x => (readP x).1) else .ret ([], false)) := by
  intro j
  induction j with
  | zero =>
    intro k out hk ho
    rw [M.impl_ParseSteps_l1]
    have : ¬ ((k : Int) < ((l.map Str.mk).length : Int)) := by rw [List.length_map]; omega
    simp only [this, decide_false, Bool.false_eq_true, if_false]
    rw [show l.drop k = [] from List.drop_eq_nil_iff.2 (by omega)]
    simp
  | succ j ih =>
    intro k out hk ho
    rw [M.impl_ParseSteps_l1]
    have hlt : k < l.length := by omega
    have h1 : ((k : Int) < ((l.map Str.mk).length : Int)) := by rw [List.length_map]; omega
    have hg : (l.map Str.mk)[k]? = some ⟨l[k]⟩ := by rw [List.getElem?_map, List.getElem?_eq_getElem hlt]; rfl
    simp only [h1, decide_true, if_true, idx_nat, hg, Option.pure_def, Option.bind_eq_bind, Option.bind_some]
    rw [read_eq _ (hm _ (List.getElem_mem hlt)), List.drop_eq_getElem_cons hlt]
    simp only [Option.bind_some, List.all_cons, List.map_cons]
    cases hr : (readP l[k]).2 with
    | false => simp
    | true =>
      simp only [Bool.not_true, Bool.false_eq_true, if_false, Bool.true_and]
      rw [app_eq (by simp; omega)]
      simp only [Option.bind_some]
      rw [W_succ (by omega), ih (k + 1) _ (by omega) (by simp; omega)]
      simp
theorem implParse (s : Str) (hs : s.l.length ≤ 1048576) : ∃ r, M.impl_ParseSteps s = some r ∧ Res s.l r := by
  obtain ⟨s⟩ := s
  simp only at hs
  unfold M.impl_ParseSteps
  rw [Split_eq ⟨s⟩ 10 hs]
  have hl := cut_len 10 s
  have hm : ∀ x ∈ cutS 10 s, x.length ≤ 1048576 := fun x hx => Nat.le_trans (cut_mem hx) hs
  have hj := join_cut 10 s
  obtain ⟨xs, x, hX⟩ := ne_last (cut_ne 10 s)
  simp only
  rw [hX] at hl hm hj ⊢
  have hbig : ∀ o : List impl_Step, o.length ≤ 12 → (∀ x ∈ o, goodB x = true) → s = FL o → xs = o.map fmtS ∧ x = [] := by
    rintro o h1 h2 rfl
    have h4 := cut_FL h2
    rw [hX] at h4
    have := List.append_inj' h4 rfl
    exact ⟨this.1, by simpa using this.2⟩
  have hW : W ((((xs ++ [x]).map Str.mk).length : Int) - 1) = (xs.length : Int) := by
    rw [List.length_map, List.length_append]
    rw [W_id (by simp) (by simp at hl ⊢; omega)]
    simp
  have hi : idx ((xs ++ [x]).map Str.mk) (xs.length : Int) = some ⟨x⟩ := by rw [idx_nat]; simp
  simp only [Option.bind_eq_bind, Option.bind_some, hW, hi, Option.pure_def]
  cases hx : x == [] with
  | false =>
    simp only [Bool.not_false, if_true, Option.bind_some]
    refine ⟨_, rfl, .inr ⟨rfl, rfl, fun o h1 h2 h3 => ?_⟩⟩
    rw [(hbig o h1 h2 h3).2] at hx
    cases hx
  | true =>
    have hx := beq_iff_eq.1 hx
    subst hx
    simp only [Bool.not_true, Bool.false_eq_true, if_false, Option.bind_some]
    by_cases h12 : xs.length > 12
    · have : ((xs.length : Nat) : Int) > 12 := by omega
      simp only [this, decide_true, if_true]
      refine ⟨_, rfl, .inr ⟨rfl, rfl, fun o h1 h2 h3 => ?_⟩⟩
      rw [(hbig o h1 h2 h3).1] at h12
      simp at h12; omega
    · have : ¬ ((xs.length : Nat) : Int) > 12 := by omega
      simp only [this, decide_false, Bool.false_eq_true, if_false]
      have hsl : slc ((xs ++ [[]]).map Str.mk) 0 (xs.length : Int) = some (xs.map Str.mk) := by
        have := slc_eq (s := (xs ++ [[]]).map Str.mk) (f := 0) (i := xs.length) (by simp) (by simp)
        refine this.trans ?_
        simp
      rw [hsl]
      simp only [Option.bind_some]
      have hp := implParse_l1 xs (by omega) (fun y hy => hm y (List.mem_append_left _ hy)) _ 0 [] (Nat.zero_add _) rfl
      rw [Int.natCast_zero, List.drop_zero, List.nil_append] at hp
      rw [hp]
      by_cases hall : xs.all (fun x => (readP x).2) = true
      · rw [if_pos hall]
        simp only [Option.bind_some]
        refine ⟨_, rfl, .inl ⟨rfl, by simp; omega, ?_, ?_⟩⟩
        · intro y hy
          obtain ⟨z, hz, rfl⟩ := List.mem_map.1 hy
          exact (read_good (List.all_eq_true.1 hall z hz)).1
        · rw [← hj, ← join_FL, List.map_map]
          congr 2
          conv => lhs; rw [← List.map_id xs]
          exact List.map_congr_left fun z hz => ((read_good (List.all_eq_true.1 hall z hz)).2).symm
      · rw [if_neg hall]
        simp only [Option.bind_some]
        refine ⟨_, rfl, .inr ⟨rfl, rfl, fun o h1 h2 h3 => hall ?_⟩⟩
        rw [(hbig o h1 h2 h3).1]
        refine List.all_eq_true.2 fun z hz => ?_
        obtain ⟨t, ht, rfl⟩ := List.mem_map.1 hz
        rw [read_fmt (h2 t ht)]
/-! Marks. -/
def mkN : Nat → Int → List impl_Step
  | 0, _ => []
  | n + 1, k => ⟨k, k + 1, k + 2, k + 3⟩ :: mkN n (k + 4)
theorem mkN_len : ∀ n k, (mkN n k).length = n
  | 0, _ => rfl
  | n + 1, k => by simp [mkN, mkN_len n]
theorem mark_l1 : ∀ j i (a : List impl_Step) (k : Int), i + j = a.length → a.length ≤ 12 → 0 ≤ k → k ≤ 100000 - 4 * j →
    M.laws_markStepS_l1 a k (i : Int) = some (a.take i ++ mkN j k, k + 4 * j) := by
  intro j
  induction j with
  | zero =>
    intro i a k hi ha h0 h1
    rw [M.laws_markStepS_l1]
    have : ¬ ((i : Int) < (a.length : Int)) := by omega
    simp [this, mkN, List.take_of_length_le (show a.length ≤ i by omega)]
  | succ j ih =>
    intro i a k hi ha h0 h1
    rw [M.laws_markStepS_l1]
    have hlt : i < a.length := by omega
    have h2 : ((i : Int) < (a.length : Int)) := by omega
    have w1 : W (k + 1) = k + 1 := W_id (by omega) (by omega)
    have w2 : W (k + 1 + 1) = k + 1 + 1 := W_id (by omega) (by omega)
    have w3 : W (k + 1 + 1 + 1) = k + 1 + 1 + 1 := W_id (by omega) (by omega)
    have w4 : W (k + 1 + 1 + 1 + 1) = k + 1 + 1 + 1 + 1 := W_id (by omega) (by omega)
    simp only [h2, decide_true, if_true, idx_nat, List.getElem?_eq_getElem hlt, Option.pure_def, Option.bind_eq_bind, Option.bind_some, Int.toNat_natCast, w1, w2, w3, w4, List.getElem?_set_self hlt, List.length_set, List.set_set]
    rw [W_succ (by omega), ih (i + 1) _ _ (by simp; omega) (by simpa using ha) (by omega) (by omega), set_take_succ _ _ _ hlt]
    congr 2
    · rw [mkN, List.append_assoc, show k + 1 + 1 + 1 + 1 = k + 4 by omega, show k + 1 + 1 + 1 = k + 3 by omega, show k + 1 + 1 = k + 2 by omega]
      rfl
    · omega
theorem mark_eq (a : List impl_Step) (ha : a.length ≤ 12) : M.laws_markStepS a 1 = some (1 + 4 * (a.length : Int), mkN a.length 1) := by
  unfold M.laws_markStepS
  have := mark_l1 a.length 0 a 1 (by omega) ha (by omega) (by omega)
  rw [Int.natCast_zero] at this
  rw [this]
  simp
theorem held_l1 : ∀ j i (a : List impl_Step) (k : Int), i + j = a.length → a.length ≤ 12 → 0 ≤ k → k ≤ 100000 - 4 * j → a.drop i = mkN j k →
    M.laws_heldStepS_l1 a k (i : Int) = some (.done (k + 4 * j)) := by
  intro j
  induction j with
  | zero =>
    intro i a k hi ha h0 h1 hd
    rw [M.laws_heldStepS_l1]
    have : ¬ ((i : Int) < (a.length : Int)) := by omega
    simp [this]
  | succ j ih =>
    intro i a k hi ha h0 h1 hd
    rw [M.laws_heldStepS_l1]
    have hlt : i < a.length := by omega
    have h2 : ((i : Int) < (a.length : Int)) := by omega
    have w1 : W (k + 1) = k + 1 := W_id (by omega) (by omega)
    have w2 : W (k + 1 + 1) = k + 2 := by rw [W_id (by omega) (by omega)]; omega
    have w3 : W (k + 2 + 1) = k + 3 := by rw [W_id (by omega) (by omega)]; omega
    have w4 : W (k + 3 + 1) = k + 4 := by rw [W_id (by omega) (by omega)]; omega
    rw [List.drop_eq_getElem_cons hlt, mkN, List.cons.injEq] at hd
    simp only [h2, decide_true, if_true, idx_nat, List.getElem?_eq_getElem hlt, hd.1, Option.pure_def, Option.bind_eq_bind, Option.bind_some, w1, w2, w3, w4, bne_self_eq_false, Bool.false_eq_true, if_false]
    rw [W_succ (by omega), ih (i + 1) a _ (by omega) ha (by omega) (by omega) hd.2]
    congr 2
    omega
theorem held_eq (n : Nat) (hn : n ≤ 12) : M.laws_heldStepS (mkN n 1) 1 = some (1 + 4 * (n : Int)) := by
  unfold M.laws_heldStepS
  have := held_l1 n 0 (mkN n 1) 1 (by rw [mkN_len]; omega) (by rw [mkN_len]; exact hn) (by omega) (by omega) rfl
  rw [Int.natCast_zero] at this
  rw [this]
  rfl
theorem parseSteps_law (s : Str) : M.laws_FnExactParseSteps s = some true := by
  unfold M.laws_FnExactParseSteps
  by_cases h : (s.l.length : Int) > 1048576
  · simp [h]
  · obtain ⟨r, h1, h2⟩ := specParse s (by omega)
    obtain ⟨q, h3, h4⟩ := implParse s (by omega)
    obtain rfl := Res_inj h2 h4
    obtain ⟨o, b⟩ := r
    have ho : o.length ≤ 12 := by
      rcases h2 with ⟨_, h, _⟩ | ⟨_, h, _⟩
      · exact h
      · simp only at h; subst h; simp
    simp only [h, decide_false, Bool.false_eq_true, if_false, h1, h3, Option.bind_eq_bind, Option.bind_some, Option.pure_def, eqStepS_refl o (by omega), Bool.not_true, beq_self_eq_true, mark_eq o ho, held_eq o.length ho, bne_self_eq_false]
    have : ¬ (1 + 4 * (o.length : Int) < 0) := by omega
    simp only [this, decide_false, Bool.false_eq_true, if_false]
end Go.LN
