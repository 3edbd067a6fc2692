/- FormatSteps of the program and of the reference agree: plain laws. -/
import Derived.Test.YtbgdegfnaofkfaaDoorPGD
import Derived.Test.YtbgdegfnaofkfaaDoorPLnV
namespace Go.LN
set_option linter.unusedVariables false
set_option linter.unusedSimpArgs false
open Lib (itoa decDigits)
theorem decDigits_lt {u : Nat} (h : u < 10) : decDigits u = [UInt8.ofNat (48 + u)] := by rw [decDigits]; simp [h]
theorem decDigits_ge {u : Nat} (h : ¬ u < 10) : decDigits u = decDigits (u / 10) ++ [UInt8.ofNat (48 + u % 10)] := by rw [decDigits]; simp [h]
theorem u8_digit (d : Nat) (h : d < 10) : u8 (W (48 + (d : Int))) = UInt8.ofNat (48 + d) := by
  rw [W_id (by omega) (by omega)]
  unfold u8
  rw [wraps_u8 _ (by omega) (by omega)]
  congr 1
theorem dec_l1 : ∀ (n : Nat) (out : Str), n + out.l.length ≤ 9223372036854775807 → ∃ (d : Nat) (t : List UInt8), d < 10 ∧ M.spec_l16Dec_l1 (n : Int) out = some ((d : Int), ⟨t ++ out.l⟩) ∧ decDigits n = UInt8.ofNat (48 + d) :: t := by
  intro n
  induction n using Nat.strongRecOn with
  | _ n ih =>
    intro out hb
    rw [M.spec_l16Dec_l1]
    by_cases h : n < 10
    · have : ¬ ((n : Int) > 9) := by omega
      refine ⟨n, [], h, by simp [this], decDigits_lt h⟩
    · have h9 : ((n : Int) > 9) := by omega
      have hm : ((n : Int).tmod 10) = ((n % 10 : Nat) : Int) := by rw [Int.tmod_eq_emod_of_nonneg (by omega)]; omega
      have hd : ((n : Int).tdiv 10) = ((n / 10 : Nat) : Int) := by rw [Int.tdiv_eq_ediv_of_nonneg (by omega)]; omega
      simp only [h9, decide_true, if_true, hm, hd]
      rw [u8_digit _ (Nat.mod_lt _ (by omega)), W_id (by omega) (by omega)]
      rw [cat_eq (by show ([_] : List UInt8).length + _ ≤ _; simp only [List.length_cons, List.length_nil]; omega)]
      simp only [Option.bind_eq_bind, Option.bind_some]
      obtain ⟨d, t, h1, h2, h3⟩ := ih (n / 10) (by omega) ⟨[UInt8.ofNat (48 + n % 10)] ++ out.l⟩ (by simp only [List.length_append, List.length_cons, List.length_nil]; omega)
      refine ⟨d, t ++ [UInt8.ofNat (48 + n % 10)], h1, ?_, ?_⟩
      · rw [h2]; simp
      · rw [decDigits_ge h, h3]; simp
theorem dec_nat (n : Nat) (h : n ≤ 9223372036854775807) : M.spec_l16Dec (n : Int) = some ⟨decDigits n⟩ := by
  rw [M.spec_l16Dec]
  have h1 : ¬ ((n : Int) < -9223372036854775807) := by omega
  have h2 : ¬ ((n : Int) < 0) := by omega
  simp only [h1, h2, decide_false, Bool.false_eq_true, if_false]
  obtain ⟨d, t, k1, k2, k3⟩ := dec_l1 n ⟨[]⟩ (by simpa using h)
  rw [k2]
  simp only [Option.bind_eq_bind, Option.bind_some]
  have hl : t.length + 1 ≤ 9223372036854775807 := by
    have : ∀ n, 1 ≤ n → (decDigits n).length ≤ n := by
      intro n
      induction n using Nat.strongRecOn with
      | _ n ih =>
        intro h1
        by_cases h : n < 10
        · rw [decDigits_lt h]; simpa using h1
        · rw [decDigits_ge h]; have := ih (n / 10) (by omega) (by omega); simp; omega
    rcases Nat.eq_zero_or_pos n with rfl | h0
    · rw [decDigits_lt (by omega)] at k3
      rw [List.cons.injEq] at k3
      rw [← k3.2]; simp
    · have := this n h0
      rw [k3] at this
      simp only [List.length_cons] at this
      omega
  rw [u8_digit _ k1, cat_eq (by simp only [List.length_append, List.length_cons, List.length_nil]; omega)]
  simp [k3]
theorem signed_eq (n : Int) (h0 : -99 ≤ n) (h1 : n ≤ 99) : M.spec_l14Signed n = some ⟨itoa n⟩ := by
  unfold M.spec_l14Signed itoa
  by_cases h : n < 0
  · have e : W (0 - n) = ((n.natAbs : Nat) : Int) := by rw [W_id (by omega) (by omega)]; omega
    simp only [h, decide_true, if_true, e]
    rw [dec_nat _ (by omega)]
    have hl : (decDigits n.natAbs).length ≤ 2 := by
      by_cases h : n.natAbs < 10
      · rw [decDigits_lt h]; simp
      · rw [decDigits_ge h, decDigits_lt (by omega)]; simp
    simp only [Option.bind_eq_bind, Option.bind_some]
    rw [cat_eq (by simp; omega)]
    simp
  · obtain ⟨k, rfl⟩ : ∃ k : Nat, n = (k : Int) := ⟨n.toNat, by omega⟩
    simp only [h, decide_false, Bool.false_eq_true, if_false]
    rw [dec_nat _ (by omega)]
    simp
theorem itoa_short (n : Int) (h0 : -99 ≤ n) (h1 : n ≤ 99) : (itoa n).length ≤ 3 := by
  have hl : ∀ m, m ≤ 99 → (decDigits m).length ≤ 2 := by
    intro m hm
    by_cases h : m < 10
    · rw [decDigits_lt h]; simp
    · rw [decDigits_ge h, decDigits_lt (by omega)]; simp
  unfold itoa
  split
  · have := hl n.natAbs (by omega); simp; omega
  · have := hl n.toNat (by omega); omega
/-! Searches. -/
theorem index_l1 {f : Int → Option Bool} {p : Int → Bool} (s : List Int) (hf : ∀ x ∈ s, f x = some (p x)) (hs : s.length ≤ 9223372036854775806) : ∀ j k, k + j = s.length →
    M.slices_IndexFunc_int_int_l1 s f (k : Int) = some (match (s.drop k).findIdx? p with | some i => .ret (((k + i : Nat)) : Int) | none => .done ()) := by
  intro j
  induction j with
  | zero =>
    intro k hk
    rw [M.slices_IndexFunc_int_int_l1]
    have : ¬ ((k : Int) < (s.length : Int)) := by omega
    simp [this, List.drop_eq_nil_iff.2 (show s.length ≤ k by omega)]
  | succ j ih =>
    intro k hk
    rw [M.slices_IndexFunc_int_int_l1]
    have hlt : k < s.length := by omega
    have : ((k : Int) < (s.length : Int)) := by omega
    simp only [this, decide_true, if_true, idx_nat, List.getElem?_eq_getElem hlt, Option.bind_eq_bind, Option.bind_some, hf _ (List.getElem_mem hlt)]
    rw [List.drop_eq_getElem_cons hlt, List.findIdx?_cons]
    cases hp : p s[k] with
    | true => simp
    | false =>
      simp only [Bool.false_eq_true, if_false]
      rw [W_succ (by omega), ih (k + 1) (by omega)]
      cases hx : List.findIdx? p (List.drop (k + 1) s) with
      | none => simp
      | some i => simp; omega
theorem contains_eq {f : Int → Option Bool} {p : Int → Bool} (s : List Int) (hf : ∀ x ∈ s, f x = some (p x)) (hs : s.length ≤ 9223372036854775806) : M.slices_ContainsFunc_int_int s f = some (s.any p) := by
  unfold M.slices_ContainsFunc_int_int M.slices_IndexFunc_int_int
  have := index_l1 s hf hs s.length 0 (by omega)
  rw [List.drop_zero] at this
  simp only [Int.natCast_zero, Option.bind_eq_bind] at this ⊢
  rw [this]
  cases h : List.findIdx? p s with
  | none =>
    have : s.any p = false := by simpa using List.findIdx?_eq_none_iff.1 h
    simp [this]
  | some i =>
    have : s.any p = true := by
      obtain ⟨h1, h2⟩ := List.findIdx?_eq_some_iff_getElem.1 h
      exact List.any_eq_true.2 ⟨s[i], List.getElem_mem h1, h2.1⟩
    simp [this]
/-! Steps. -/
theorem kinds (k : Int) : (k = 1 ∨ k = 2 ∨ k = 3 ∨ k = 4 ∨ k = 5 ∨ k = 6 ∨ k = 7 ∨ k = 8 ∨ k = 9 ∨ k = 10 ∨ k = 11) ∨ (k ≠ 1 ∧ k ≠ 2 ∧ k ≠ 3 ∧ k ≠ 4 ∧ k ≠ 5 ∧ k ≠ 6 ∧ k ≠ 7 ∧ k ≠ 8 ∧ k ≠ 9 ∧ k ≠ 10 ∧ k ≠ 11) := by omega
def smallN (n : Int) : Bool := decide (-99 ≤ n) && decide (n ≤ 99)
theorem isConst_eq (n : Int) : M.impl_hasText_1 n = some (!smallN n) := by
  unfold M.impl_hasText_1 M.impl_isConst M.impl_within smallN
  by_cases h : (-99 : Int) ≤ n <;> simp [h]
theorem small_eq (s : impl_Step) : M.spec_l14Small s = some (smallN s.Part && smallN s.A && smallN s.B) := by
  have key : ∀ n, M.spec_l1Within n 99 = some (smallN n) := by
    intro n
    unfold M.spec_l1Within smallN
    rw [W_id (by decide) (by decide)]
    by_cases h : (-99 : Int) ≤ n <;> simp [h]
  unfold M.spec_l14Small
  simp only [key, Option.bind_eq_bind, Option.bind_some]
  cases smallN s.Part <;> cases smallN s.A <;> simp
theorem hasText_eq {s : impl_Step} {r : Bool} (hr : M.impl_isRight s = some r) : M.impl_hasText s = some (r && (smallN s.Part && smallN s.A && smallN s.B)) := by
  unfold M.impl_hasText M.impl_Step_list
  rw [hr]
  have := contains_eq (p := fun x => !smallN x) [s.Part, s.A, s.B] (fun x _ => isConst_eq x) (by simp)
  simp only [Option.bind_eq_bind, Option.bind_some, Option.pure_def, this]
  cases r <;> simp [Bool.and_assoc]
def ft : List Int → List UInt8
  | [] => []
  | x :: l => 32 :: (itoa x ++ ft l)
theorem ft_len : ∀ {l : List Int}, (∀ x ∈ l, smallN x = true) → (ft l).length ≤ 4 * l.length
  | [], _ => by simp [ft]
  | x :: l, h => by
    have h1 := h x (List.mem_cons_self ..)
    simp only [smallN, Bool.and_eq_true, decide_eq_true_eq] at h1
    have := itoa_short x h1.1 h1.2
    have := ft_len (l := l) fun y hy => h y (List.mem_cons_of_mem _ hy)
    simp [ft]; omega
theorem stepText_l1 (l : List Int) (hs : ∀ x ∈ l, smallN x = true) (hl : l.length ≤ 3) : ∀ j k (out : Str), k + j = l.length → out.l.length + 4 * j ≤ 100000 → M.impl_stepText_l1 l out (k : Int) = some ⟨out.l ++ ft (l.drop k)⟩ := by
  intro j
  induction j with
  | zero =>
    intro k out hk ho
    rw [M.impl_stepText_l1]
    have : ¬ ((k : Int) < (l.length : Int)) := by omega
    simp [this, List.drop_eq_nil_iff.2 (show l.length ≤ k by omega), ft]
  | succ j ih =>
    intro k out hk ho
    rw [M.impl_stepText_l1]
    have hlt : k < l.length := by omega
    have : ((k : Int) < (l.length : Int)) := by omega
    have hx := hs _ (List.getElem_mem hlt)
    simp only [smallN, Bool.and_eq_true, decide_eq_true_eq] at hx
    have hi := itoa_short _ hx.1 hx.2
    simp only [this, decide_true, if_true, idx_nat, List.getElem?_eq_getElem hlt, Option.bind_eq_bind, Option.bind_some, M.strconv_Itoa]
    rw [if_pos (by omega)]
    simp only [Option.bind_some]
    rw [cat_eq (by simp; omega)]
    simp only [Option.bind_some]
    rw [cat_eq (by simp; omega)]
    simp only [Option.bind_some]
    rw [W_succ (by omega), ih (k + 1) _ (by omega) (by simp; omega), List.drop_eq_getElem_cons hlt]
    simp [ft]
theorem format_l2 (list : List impl_Step) (i : Nat) (s : impl_Step) (hi : list[i]? = some s) (n : Nat) (hn : M.spec_l14Fields s.Kind = some (n : Int)) (hn3 : n ≤ 3) (hs : ∀ x ∈ [s.Part, s.A, s.B], smallN x = true) :
    ∀ j k (out : Str), k + j = n → out.l.length + 4 * j ≤ 100000 → M.spec_FormatSteps_l2 list (i : Int) s s s out (k : Int) = some ⟨out.l ++ ft (([s.Part, s.A, s.B].take n).drop k)⟩ := by
  intro j
  induction j with
  | zero =>
    intro k out hk ho
    rw [M.spec_FormatSteps_l2]
    have : ¬ ((k : Int) < (n : Int)) := by omega
    simp only [idx_nat, hi, hn, this, Option.bind_eq_bind, Option.bind_some, decide_false, Bool.false_eq_true, if_false]
    rw [List.drop_eq_nil_iff.2 (by rw [List.length_take]; omega)]
    simp [ft]
  | succ j ih =>
    intro k out hk ho
    rw [M.spec_FormatSteps_l2]
    have : ((k : Int) < (n : Int)) := by omega
    have hlt : k < [s.Part, s.A, s.B].length := by show k < 3; omega
    have hx := hs _ (List.getElem_mem hlt)
    simp only [smallN, Bool.and_eq_true, decide_eq_true_eq] at hx
    have hsh := itoa_short _ hx.1 hx.2
    simp only [idx_nat, hi, hn, this, Option.bind_eq_bind, Option.bind_some, decide_true, if_true]
    rw [cat_eq (by simp; omega)]
    simp only [Option.bind_some, List.getElem?_eq_getElem hlt]
    rw [signed_eq _ hx.1 hx.2]
    simp only [Option.bind_some]
    rw [cat_eq (by simp only [List.length_append]; simp only [List.length_cons, List.length_nil] at *; omega)]
    simp only [Option.bind_some]
    have hlt2 : k < ([s.Part, s.A, s.B].take n).length := by rw [List.length_take]; simp only [List.length_cons, List.length_nil] at *; omega
    rw [W_succ (by omega), ih (k + 1) _ (by omega) (by simp only [List.length_append, List.length_cons, List.length_nil] at *; omega), List.drop_eq_getElem_cons hlt2, List.getElem_take]
    simp [ft]
theorem step_text (s : impl_Step) (h0 : 1 ≤ s.Kind) (h1 : s.Kind ≤ 11) (hs : ∀ x ∈ [s.Part, s.A, s.B], smallN x = true) :
    ∃ (ws : List Str) (w : List UInt8) (n : Nat), M.spec_l14Words = some ws ∧ idx ws s.Kind = some ⟨w⟩ ∧ M.spec_l14Fields s.Kind = some (n : Int) ∧ n ≤ 3 ∧ w.length ≤ 11 ∧ M.impl_stepText s = some ⟨w ++ ft ([s.Part, s.A, s.B].take n)⟩ := by
  obtain ⟨k, p, a, b⟩ := s
  simp only at h0 h1 hs
  have key : ∀ (w : Str) (l : List Int), w.l.length ≤ 11 → l.length ≤ 3 → (∀ x ∈ l, smallN x = true) → M.impl_stepText_l1 l w 0 = some ⟨w.l ++ ft l⟩ := fun w l hw hl hx => by
    have := stepText_l1 l hx hl l.length 0 w (by omega) (by omega)
    simpa using this
  have hp := hs p (by simp); have ha := hs a (by simp); have hb := hs b (by simp)
  rcases kinds k with h | h
  · rcases h with rfl | rfl | rfl | rfl | rfl | rfl | rfl | rfl | rfl | rfl | rfl
    all_goals
      first
        | refine ⟨_, _, 0, rfl, rfl, rfl, by omega, by decide, ?_⟩
          simp only [M.impl_stepText, M.impl_stepWords, M.impl_Step_list, M.impl_fields]
          rw [W_id (by omega) (by omega)]
          simp only [Option.pure_def, Option.bind_eq_bind, Option.bind_some]
          exact (congrArg (fun z => Option.bind z fun x => some (id x)) (key _ [] (by decide) (by simp) (by simp))).trans rfl
        | refine ⟨_, _, 1, rfl, rfl, rfl, by omega, by decide, ?_⟩
          simp only [M.impl_stepText, M.impl_stepWords, M.impl_Step_list, M.impl_fields]
          rw [W_id (by omega) (by omega)]
          simp only [Option.pure_def, Option.bind_eq_bind, Option.bind_some]
          exact (congrArg (fun z => Option.bind z fun x => some (id x)) (key _ [p] (by decide) (by simp) (by simpa using hp))).trans rfl
        | refine ⟨_, _, 2, rfl, rfl, rfl, by omega, by decide, ?_⟩
          simp only [M.impl_stepText, M.impl_stepWords, M.impl_Step_list, M.impl_fields]
          rw [W_id (by omega) (by omega)]
          simp only [Option.pure_def, Option.bind_eq_bind, Option.bind_some]
          exact (congrArg (fun z => Option.bind z fun x => some (id x)) (key _ [p, a] (by decide) (by simp) (by simp [hp, ha]))).trans rfl
        | refine ⟨_, _, 3, rfl, rfl, rfl, by omega, by decide, ?_⟩
          simp only [M.impl_stepText, M.impl_stepWords, M.impl_Step_list, M.impl_fields]
          rw [W_id (by omega) (by omega)]
          simp only [Option.pure_def, Option.bind_eq_bind, Option.bind_some]
          exact (congrArg (fun z => Option.bind z fun x => some (id x)) (key _ [p, a, b] (by decide) (by simp) (by simp [hp, ha, hb]))).trans rfl
  · omega
theorem eqStep_refl (s : impl_Step) : M.laws_eqStep s s = some true := by simp [M.laws_eqStep]
theorem eqStepS_l1 (a : List impl_Step) (ha : a.length ≤ 1048576) : ∀ j k, k + j = a.length → M.laws_eqStepS_l1 a a (k : Int) = some (.done ()) := by
  intro j
  induction j with
  | zero =>
    intro k hk
    rw [M.laws_eqStepS_l1]
    have : ¬ ((k : Int) < (a.length : Int)) := by omega
    simp [this]
  | succ j ih =>
    intro k hk
    rw [M.laws_eqStepS_l1]
    have hlt : k < a.length := by omega
    have h1 : ((k : Int) < (a.length : Int)) := by omega
    simp only [h1, decide_true, if_true, idx_nat, List.getElem?_eq_getElem hlt, Option.bind_eq_bind, Option.bind_some, eqStep_refl]
    rw [W_succ (by omega)]
    simpa using ih (k + 1) (by omega)
theorem eqStepS_refl (a : List impl_Step) (ha : a.length ≤ 1048576) : M.laws_eqStepS a a = some true := by
  unfold M.laws_eqStepS
  have := eqStepS_l1 a ha a.length 0 (by omega)
  simp only [Int.natCast_zero] at this
  simp [this]
end Go.LN
