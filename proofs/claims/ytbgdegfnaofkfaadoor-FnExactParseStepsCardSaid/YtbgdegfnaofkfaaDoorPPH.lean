/- Steps and their texts: parsing is inverse to formatting, for the program's readStep and for the reference's l14Line. -/
import Derived.Test.YtbgdegfnaofkfaaDoorPPG
namespace Go.LN
set_option linter.unusedVariables false
set_option linter.unusedSimpArgs false
open Lib (itoa decDigits)
def wl : List (List UInt8) := [[], [105, 110, 116, 101, 114, 99, 104, 97, 110, 103, 101], [114, 101, 118, 101, 114, 115, 101], [115, 107, 101, 119], [115, 104, 105, 102, 116], [115, 116, 114, 105, 112], [102, 117, 115, 101], [100, 105, 115, 116, 114, 105, 98, 117, 116, 101], [115, 112, 108, 105, 116], [115, 119, 97, 112], [100, 114, 111, 112], [102, 111, 108, 100]]
def wordOf (k : Int) : List UInt8 := wl.getD k.toNat []
def nfOf (k : Int) : Nat := ([0, 2, 2, 3, 3, 3, 1, 2, 2, 1, 1, 0] : List Nat).getD k.toNat 0
theorem words_spec : M.spec_l14Words = some (wl.map Str.mk) := rfl
theorem words_impl : M.impl_stepWords = some ((wl.drop 1).map Str.mk) := rfl
def rightB (s : impl_Step) : Bool := decide (1 ≤ s.Kind) && decide (s.Kind ≤ 11) && ([s.Part, s.A, s.B].drop (nfOf s.Kind)).all fun x => x == 0
def smallB (s : impl_Step) : Bool := smallN s.Part && smallN s.A && smallN s.B
def goodB (s : impl_Step) : Bool := rightB s && smallB s
def fmtS (s : impl_Step) : List UInt8 := wordOf s.Kind ++ ft ([s.Part, s.A, s.B].take (nfOf s.Kind))
theorem nf_le (k : Int) : nfOf k ≤ 3 := by
  unfold nfOf
  match k.toNat with
  | 0 | 1 | 2 | 3 | 4 | 5 | 6 | 7 | 8 | 9 | 10 | 11 => simp
  | n + 12 => simp
theorem right_val (s : impl_Step) : M.spec_l14Right s = some (rightB s) ∧ M.impl_isRight s = some (rightB s) := by
  obtain ⟨k, p, a, b⟩ := s
  have key : ∀ (l : List Int), l.length ≤ 3 → M.slices_ContainsFunc_int_int l M.impl_isRight_1 = some (l.any fun x => x != 0) := fun l hl => contains_eq l (fun x _ => rfl) (by omega)
  rcases kinds k with h | h
  · rcases h with rfl | rfl | rfl | rfl | rfl | rfl | rfl | rfl | rfl | rfl | rfl
    all_goals
      simp only [M.spec_l14Right, M.impl_isRight, M.spec_l14Fields, M.impl_fields, M.impl_Step_list, slc, rightB, nfOf]
      simp
      try rw [key _ (by simp)]
      simp
      try (by_cases h1 : p = 0 <;> by_cases h2 : a = 0 <;> by_cases h3 : b = 0 <;> simp [h1, h2, h3, bne])
      try rfl
  · obtain ⟨h1, h2, h3, h4, h5, h6, h7, h8, h9, h10, h11⟩ := h
    have hr : rightB ⟨k, p, a, b⟩ = false := by
      unfold rightB
      have : ¬ (1 ≤ k ∧ k ≤ 11) := by omega
      by_cases hk : 1 ≤ k
      · have : ¬ k ≤ 11 := by omega
        simp [this]
      · simp [hk]
    rw [hr]
    refine ⟨?_, ?_⟩
    · simp only [M.spec_l14Right, M.spec_l14Fields]
      simp [h1, h2, h3, h4, h5, h6, h7, h8, h9, h10, h11]
      omega
    · simp only [M.impl_isRight, M.impl_fields]
      simp [h1, h2, h3, h4, h5, h6, h7, h8, h9, h10, h11]
theorem hasText_val (s : impl_Step) : M.impl_hasText s = some (goodB s) := by
  rw [hasText_eq (right_val s).2]
  rfl
theorem good_kind {s : impl_Step} (h : goodB s = true) : 1 ≤ s.Kind ∧ s.Kind ≤ 11 := by
  simp only [goodB, rightB, Bool.and_eq_true, decide_eq_true_eq] at h
  exact ⟨h.1.1.1, h.1.1.2⟩
theorem good_small {s : impl_Step} (h : goodB s = true) : smallN s.Part = true ∧ smallN s.A = true ∧ smallN s.B = true := by
  simp only [goodB, smallB, Bool.and_eq_true] at h
  exact ⟨h.2.1.1, h.2.1.2, h.2.2⟩
theorem good_mem {s : impl_Step} (h : goodB s = true) : ∀ x ∈ [s.Part, s.A, s.B], smallN x = true := by
  obtain ⟨h1, h2, h3⟩ := good_small h
  intro x hx
  simp only [List.mem_cons, List.not_mem_nil, or_false] at hx
  rcases hx with rfl | rfl | rfl <;> assumption
theorem specFields_val (k : Int) : M.spec_l14Fields k = some ((if 1 ≤ k ∧ k ≤ 11 then nfOf k else 0 : Nat) : Int) := by
  rcases kinds k with h | h
  · rcases h with rfl | rfl | rfl | rfl | rfl | rfl | rfl | rfl | rfl | rfl | rfl <;> rfl
  · have : ¬ (1 ≤ k ∧ k ≤ 11) := by omega
    obtain ⟨h1, h2, h3, h4, h5, h6, h7, h8, h9, h10, h11⟩ := h
    rw [if_neg this]
    simp only [M.spec_l14Fields]
    simp [h1, h2, h3, h4, h5, h6, h7, h8, h9, h10, h11]
theorem implFields_val (k : Int) : M.impl_fields k = some (if 1 ≤ k ∧ k ≤ 11 then (nfOf k : Int) else -1) := by
  rcases kinds k with h | h
  · rcases h with rfl | rfl | rfl | rfl | rfl | rfl | rfl | rfl | rfl | rfl | rfl <;> rfl
  · have : ¬ (1 ≤ k ∧ k ≤ 11) := by omega
    obtain ⟨h1, h2, h3, h4, h5, h6, h7, h8, h9, h10, h11⟩ := h
    rw [if_neg this]
    simp only [M.impl_fields]
    simp [h1, h2, h3, h4, h5, h6, h7, h8, h9, h10, h11]
theorem stepText_val {s : impl_Step} (h : goodB s = true) : M.impl_stepText s = some ⟨fmtS s⟩ := by
  obtain ⟨ws, w, n, e1, e2, e3, e4, e5, e6⟩ := step_text s (good_kind h).1 (good_kind h).2 (good_mem h)
  rw [e6]
  have hk := good_kind h
  have hn : n = nfOf s.Kind := by
    rw [specFields_val, if_pos hk] at e3
    have := Option.some.inj e3
    omega
  have hw : w = wordOf s.Kind := by
    obtain rfl := Option.some.inj (words_spec.symm.trans e1)
    obtain ⟨k, p, a, b⟩ := s
    simp only at e2 hk ⊢
    rcases kinds k with h | h
    · rcases h with rfl | rfl | rfl | rfl | rfl | rfl | rfl | rfl | rfl | rfl | rfl <;> (cases e2; rfl)
    · omega
  rw [hn, hw, fmtS]
theorem fmt_len {s : impl_Step} (h : goodB s = true) : (fmtS s).length ≤ 23 := by
  obtain ⟨ws, w, n, e1, e2, e3, e4, e5, e6⟩ := step_text s (good_kind h).1 (good_kind h).2 (good_mem h)
  rw [stepText_val h] at e6
  obtain e := congrArg Str.l (Option.some.inj e6)
  rw [show (fmtS s) = _ from e, List.length_append]
  have := ft_len (l := [s.Part, s.A, s.B].take n) fun x hx => good_mem h x (List.mem_of_mem_take hx)
  have h3 : ([s.Part, s.A, s.B].take n).length ≤ 3 := by rw [List.length_take]; exact Nat.min_le_right _ _
  omega
theorem word_all : ∀ k : Fin 12, (wl.getD k.val []).contains 32 = false ∧ (wl.getD k.val []).contains 10 = false ∧ (1 ≤ k.val → (wl.getD k.val [] == []) = false) := by decide
theorem word_facts {k : Int} (h : 1 ≤ k ∧ k ≤ 11) : 32 ∉ wordOf k ∧ 10 ∉ wordOf k ∧ (wordOf k == []) = false := by
  have := word_all ⟨k.toNat, by omega⟩
  exact ⟨by simpa [wordOf] using this.1, by simpa [wordOf] using this.2.1, this.2.2 (by show 1 ≤ k.toNat; omega)⟩
theorem cut_ft : ∀ {l : List Int} {w : List UInt8}, 32 ∉ w → (∀ x ∈ l, smallN x = true) → cutS 32 (w ++ ft l) = w :: l.map itoa
  | [], w, hw, _ => by simp [ft, cut_none hw]
  | x :: l, w, hw, h => by
    rw [ft, cut_app hw, cut_ft (itoa_all (h x (List.mem_cons_self ..))).2.2.1 fun y hy => h y (List.mem_cons_of_mem _ hy)]
    rfl
theorem cut_fmt {s : impl_Step} (h : goodB s = true) : cutS 32 (fmtS s) = wordOf s.Kind :: ([s.Part, s.A, s.B].take (nfOf s.Kind)).map itoa :=
  cut_ft (word_facts (good_kind h)).1 fun x hx => good_mem h x (List.mem_of_mem_take hx)
theorem ft_nl : ∀ {l : List Int}, (∀ x ∈ l, smallN x = true) → 10 ∉ ft l
  | [], _ => by simp [ft]
  | x :: l, h => by
    have h1 := (itoa_all (h x (List.mem_cons_self ..))).2.2.2.1
    have h2 := ft_nl (l := l) fun y hy => h y (List.mem_cons_of_mem _ hy)
    simp [ft, h1, h2]
theorem fmt_nl {s : impl_Step} (h : goodB s = true) : 10 ∉ fmtS s := by
  unfold fmtS
  rw [List.mem_append]
  rintro (hx | hx)
  · exact (word_facts (good_kind h)).2.1 hx
  · exact ft_nl (fun x hx => good_mem h x (List.mem_of_mem_take hx)) hx
/-! The reference's line. -/
def lk (x : List UInt8) : List (List UInt8) → Nat → Int → Int
  | [], _, r => r
  | y :: l, k, r => lk x l (k + 1) (if y == x then (k : Int) else r)
theorem line_l1 (w : List Str) (x : List UInt8) (hx : w[0]? = some ⟨x⟩) (X : List (List UInt8)) (hX : X.length ≤ 100) : ∀ j k r, k + j = X.length →
    M.spec_l14Line_l1 w (X.map Str.mk) (k : Int) r = some (lk x (X.drop k) k r) := by
  intro j
  have hx0 : idx w 0 = some ⟨x⟩ := by have := idx_nat w 0; simpa [hx] using this
  induction j with
  | zero =>
    intro k r hk
    rw [M.spec_l14Line_l1]
    have : ¬ ((k : Int) < ((X.map Str.mk).length : Int)) := by rw [List.length_map]; omega
    simp only [this, decide_false, Bool.false_eq_true, if_false]
    rw [List.drop_eq_nil_iff.2 (by omega)]
    rfl
  | succ j ih =>
    intro k r hk
    rw [M.spec_l14Line_l1]
    have hlt : k < X.length := by omega
    have h1 : ((k : Int) < ((X.map Str.mk).length : Int)) := by rw [List.length_map]; omega
    have hg : (X.map Str.mk)[k]? = some ⟨X[k]⟩ := by rw [List.getElem?_map, List.getElem?_eq_getElem hlt]; rfl
    simp only [h1, decide_true, if_true, idx_nat, hg, hx0, Option.pure_def, Option.bind_eq_bind, Option.bind_some, id]
    rw [List.drop_eq_getElem_cons hlt, lk]
    cases he : X[k] == x with
    | true =>
      simp only [if_true, Option.bind_some]
      rw [W_succ (by omega), ih (k + 1) _ (by omega)]
    | false =>
      simp only [Bool.false_eq_true, if_false, Option.bind_some]
      rw [W_succ (by omega), ih (k + 1) _ (by omega)]
def nfZ (k : Int) : Nat := if 1 ≤ k ∧ k ≤ 11 then nfOf k else 0
def lineP (s : List UInt8) : impl_Step :=
  let w := full (cutS 32 s) ++ [[], [], [], []]
  let k := lk (w.getD 0 []) (wl.drop 1) 1 0
  ⟨k, if nfZ k > 0 then numberP (w.getD 1 []) else 0, if nfZ k > 1 then numberP (w.getD 2 []) else 0, if nfZ k > 2 then numberP (w.getD 3 []) else 0⟩
theorem full_mem {X : List (List UInt8)} {x : List UInt8} (h : x ∈ full X) : x ∈ X := (List.mem_filter.1 h).1
theorem line_eq (s : Str) (hs : s.l.length ≤ 1048576) : M.spec_l14Line s = some (lineP s.l) := by
  unfold M.spec_l14Line lineP
  rw [l16Words_eq s hs]
  have hl := cut_len 32 s.l
  have hf : (full (cutS 32 s.l)).length ≤ (cutS 32 s.l).length := List.length_filter_le ..
  have hm : ∀ x ∈ full (cutS 32 s.l), x.length ≤ 1048576 := fun x hx => Nat.le_trans (cut_mem (full_mem hx)) hs
  generalize full (cutS 32 s.l) = X at hf hm ⊢
  simp only [Option.bind_eq_bind, Option.bind_some]
  rw [app_eq (by simp; omega)]
  simp only [Option.bind_some]
  have hY : X.map Str.mk ++ [(⟨[]⟩ : Str), ⟨[]⟩, ⟨[]⟩, ⟨[]⟩] = (X ++ [[], [], [], []]).map Str.mk := by simp
  rw [hY]
  have hm2 : ∀ x ∈ X ++ [[], [], [], []], x.length ≤ 1048576 := by
    intro x hx
    rcases List.mem_append.1 hx with h | h
    · exact hm x h
    · simp only [List.mem_cons, List.not_mem_nil, or_false, or_self] at h
      simp [h]
  have hlen : 4 ≤ (X ++ [[], [], [], []]).length := by simp
  generalize X ++ [[], [], [], []] = Y at hm2 hlen ⊢
  obtain ⟨y0, y1, y2, y3, Z, rfl⟩ : ∃ y0 y1 y2 y3 Z, Y = y0 :: y1 :: y2 :: y3 :: Z := by
    match Y, hlen with
    | y0 :: y1 :: y2 :: y3 :: Z, _ => exact ⟨_, _, _, _, _, rfl⟩
  have g1 := line_l1 ((y0 :: y1 :: y2 :: y3 :: Z).map Str.mk) y0 rfl wl (by decide) 11 1 0 rfl
  simp only [words_spec, Option.bind_some]
  rw [show ((1 : Nat) : Int) = 1 from rfl] at g1
  rw [g1]
  simp only [Option.bind_some, specFields_val]
  have i1 : idx ((y0 :: y1 :: y2 :: y3 :: Z).map Str.mk) 1 = some ⟨y1⟩ := rfl
  have i2 : idx ((y0 :: y1 :: y2 :: y3 :: Z).map Str.mk) 2 = some ⟨y2⟩ := rfl
  have i3 : idx ((y0 :: y1 :: y2 :: y3 :: Z).map Str.mk) 3 = some ⟨y3⟩ := rfl
  have n1 := number_eq ⟨y1⟩ (hm2 y1 (by simp))
  have n2 := number_eq ⟨y2⟩ (hm2 y2 (by simp))
  have n3 := number_eq ⟨y3⟩ (hm2 y3 (by simp))
  rw [i1, i2, i3]
  simp only [Option.bind_some, n1, n2, n3, id, Option.pure_def]
  have gd : ∀ (i : Nat) y, (y0 :: y1 :: y2 :: y3 :: Z)[i]? = some y → (y0 :: y1 :: y2 :: y3 :: Z).getD i [] = y := by
    intro i y h
    rw [List.getD_eq_getElem?_getD, h]; rfl
  rw [gd 0 y0 rfl, gd 1 y1 rfl, gd 2 y2 rfl, gd 3 y3 rfl]
  show _ = some (impl_Step.mk (lk y0 (List.drop 1 wl) 1 0) _ _ _)
  unfold nfZ
  generalize lk y0 (List.drop 1 wl) 1 0 = K
  generalize (if 1 ≤ K ∧ K ≤ 11 then nfOf K else 0) = n
  have c0 : ((n : Int) > 0) = (n > 0) := by simp
  have c1 : ((n : Int) > 1) = (n > 1) := by apply propext; omega
  have c2 : ((n : Int) > 2) = (n > 2) := by apply propext; omega
  simp only [c0, c1, c2]
  by_cases h0 : n > 0 <;> by_cases h1 : n > 1 <;> by_cases h2 : n > 2 <;> simp [h0, h1, h2]
theorem full_id : ∀ {X : List (List UInt8)}, (∀ x ∈ X, (x == []) = false) → full X = X := by
  intro X h
  unfold full
  exact List.filter_eq_self.2 fun x hx => by rw [h x hx]; rfl
theorem lk_all : ∀ k : Fin 12, 1 ≤ k.val → lk (wl.getD k.val []) (wl.drop 1) 1 0 = (k.val : Int) := by decide
theorem line_fmt {s : impl_Step} (h : goodB s = true) : lineP (fmtS s) = s := by
  have hk := good_kind h
  have hw := word_facts hk
  have hf : full (cutS 32 (fmtS s)) = wordOf s.Kind :: ([s.Part, s.A, s.B].take (nfOf s.Kind)).map itoa := by
    rw [cut_fmt h]
    refine full_id fun x hx => ?_
    rcases List.mem_cons.1 hx with rfl | hx
    · exact hw.2.2
    · obtain ⟨n, hn, rfl⟩ := List.mem_map.1 hx
      exact (itoa_all (good_mem h n (List.mem_of_mem_take hn))).2.2.2.2
  unfold lineP
  rw [hf]
  have hlk : lk (wordOf s.Kind) (wl.drop 1) 1 0 = s.Kind := by
    have := lk_all ⟨s.Kind.toNat, by omega⟩ (by show 1 ≤ s.Kind.toNat; omega)
    rw [wordOf, this]
    show ((s.Kind.toNat : Nat) : Int) = s.Kind
    omega
  simp only [List.cons_append, List.getD_cons_zero, hlk, nfZ, if_pos hk]
  have hr : rightB s = true := by simp only [goodB, Bool.and_eq_true] at h; exact h.1
  obtain ⟨s1, s2, s3⟩ := good_small h
  have m1 := (itoa_all s1).1
  have m2 := (itoa_all s2).1
  have m3 := (itoa_all s3).1
  simp only [rightB, Bool.and_eq_true] at hr
  have hz := hr.2
  obtain ⟨k, p, a, b⟩ := s
  have h3 := nf_le k
  simp only at *
  generalize nfOf k = n at h3 hz
  match n, h3 with
  | 0, _ => simp at hz; simp [hz]
  | 1, _ => simp at hz; simp [hz, m1]
  | 2, _ => simp at hz; simp [hz, m1, m2]
  | 3, _ => simp [m1, m2, m3]
end Go.LN
