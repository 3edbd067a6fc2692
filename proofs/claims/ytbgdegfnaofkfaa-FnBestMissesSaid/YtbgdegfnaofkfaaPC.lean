/- What the functions on caches compute, in plain words. -/
import Derived.Test.YtbgdegfnaofkfaaQX8
import Derived.Test.YtbgdegfnaofkfaaPB2
namespace Go.LN
set_option linter.unusedVariables false
set_option linter.unusedSimpArgs false
open Pb
theorem drop_cons {l s : List Int} {i : Nat} {c : Int} (h : l.drop i = c :: s) : (i : Int) < (l.length : Int) ∧ l[(i : Int).toNat]? = some c ∧ l.drop (i + 1) = s ∧ c ∈ l := by
  have h1 : i < l.length := by
    apply Decidable.byContradiction
    intro hn
    rw [List.drop_eq_nil_of_le (by omega)] at h
    cases h
  have h2 : l[i]? = some c := by
    have : (l.drop i)[0]? = some c := by rw [h]; rfl
    simpa using this
  refine ⟨by omega, by simpa using h2, ?_, List.mem_iff_getElem?.2 ⟨i, h2⟩⟩
  have : (l.drop i).drop 1 = s := by rw [h]; rfl
  rwa [List.drop_drop] at this
theorem drop_nil {l : List Int} {i : Nat} (h : l.drop i = []) : ¬ (i : Int) < (l.length : Int) := by
  have := congrArg List.length h
  simp at this
  omega
theorem nx_le : ∀ (t : List Int) (c : Int), nx t c ≤ t.length
  | [], _ => Nat.le_refl _
  | x :: t, c => by
    have := nx_le t c
    simp only [nx, List.length_cons]
    split <;> omega
theorem nx_not : ∀ {t : List Int} {c : Int}, c ∉ t → nx t c = t.length
  | [], _, _ => rfl
  | x :: t, c, h => by
    rw [List.mem_cons, not_or] at h
    simp [nx, h.1, nx_not h.2]
theorem nx_lt : ∀ {t : List Int} {c : Int}, c ∈ t → nx t c < t.length
  | x :: t, c, h => by
    simp only [nx, List.length_cons]
    split
    · omega
    · have := nx_lt (t := t) ((List.mem_cons.1 h).resolve_left ‹_›)
      omega
section scans
variable (l : List Int) (c : Int) (hl : l.length ≤ 10000)
include hl
theorem hasL : ∀ (suf : List Int) (i : Nat), l.drop i = suf → ∀ φ : Out Unit Bool → Prop, φ (if c ∈ suf then .ret true else .done ()) → Ok (M.spec_l6Has_l1 l c i) φ
  | [], i, h, φ, hk => by
    unfold M.spec_l6Has_l1
    exact Ok.ite_dec (fun h' => absurd h' (drop_nil h)) fun _ => Ok.pure hk
  | d :: suf, i, h, φ, hk => by
    obtain ⟨h1, h2, h3, h4⟩ := drop_cons h
    unfold M.spec_l6Has_l1
    refine Ok.ite_dec (fun _ => Ok.idx_known h2 (by omega) ?_) fun h' => absurd h1 h'
    refine Ok.ite_beq (fun e => ?_) fun e => ?_
    · subst e
      rw [if_pos List.mem_cons_self] at hk
      exact Ok.pure hk
    · rw [W_succ (by omega)]
      refine hasL suf (i + 1) h3 φ ?_
      have : c ∈ d :: suf ↔ c ∈ suf := ⟨fun h => (List.mem_cons.1 h).resolve_left fun h => e h.symm, List.mem_cons_of_mem _⟩
      simpa only [this] using hk
theorem has_ok (φ : Bool → Prop) (hk : φ (decide (c ∈ l))) : Ok (M.spec_l6Has l c) φ := by
  unfold M.spec_l6Has
  by_cases h : c ∈ l
  · refine Ok.bind (hasL l c hl l 0 rfl (fun o => o = .ret true) (if_pos h)) ?_
    rintro _ rfl
    rw [decide_eq_true h] at hk
    exact Ok.pure hk
  · refine Ok.bind (hasL l c hl l 0 rfl (fun o => o = .done ()) (if_neg h)) ?_
    rintro _ rfl
    rw [decide_eq_false h] at hk
    exact Ok.pure hk
theorem nextL : ∀ (suf : List Int) (i : Nat), l.drop i = suf → ∀ φ : Out Unit Int → Prop, φ (if c ∈ suf then .ret (((i + nx suf c : Nat)) : Int) else .done ()) → Ok (M.spec_l10Next_l1 l c i) φ
  | [], i, h, φ, hk => by
    unfold M.spec_l10Next_l1
    exact Ok.ite_dec (fun h' => absurd h' (drop_nil h)) fun _ => Ok.pure hk
  | d :: suf, i, h, φ, hk => by
    obtain ⟨h1, h2, h3, h4⟩ := drop_cons h
    unfold M.spec_l10Next_l1
    refine Ok.ite_dec (fun _ => Ok.idx_known h2 (by omega) ?_) fun h' => absurd h1 h'
    refine Ok.ite_beq (fun e => ?_) fun e => ?_
    · subst e
      rw [if_pos List.mem_cons_self] at hk
      simp only [nx, if_true, Nat.add_zero] at hk
      exact Ok.pure hk
    · rw [W_succ (by omega)]
      refine nextL suf (i + 1) h3 φ ?_
      have e' : ¬ c = d := fun h => e h.symm
      have : c ∈ d :: suf ↔ c ∈ suf := ⟨fun h => (List.mem_cons.1 h).resolve_left e', List.mem_cons_of_mem _⟩
      simp only [this, nx, if_neg e'] at hk
      rw [show i + 1 + nx suf c = i + (nx suf c + 1) by omega]
      exact hk
theorem next_ok (i : Nat) (hi : i ≤ l.length) (φ : Int → Prop) (hk : φ ((i + nx (l.drop i) c : Nat) : Int)) : Ok (M.spec_l10Next l i c) φ := by
  unfold M.spec_l10Next
  by_cases h : c ∈ l.drop i
  · refine Ok.bind (nextL l c hl _ i rfl (fun o => o = .ret ((i + nx (l.drop i) c : Nat) : Int)) (if_pos h)) ?_
    rintro _ rfl
    exact Ok.pure hk
  · refine Ok.bind (nextL l c hl _ i rfl (fun o => o = .done ()) (if_neg h)) ?_
    rintro _ rfl
    rw [nx_not h, List.length_drop, show i + (l.length - i) = l.length by omega] at hk
    exact Ok.pure hk
theorem indexL : ∀ (suf : List Int) (i : Nat), l.drop i = suf → ∀ φ : Out Unit Int → Prop, φ (if c ∈ suf then .ret (((i + nx suf c : Nat)) : Int) else .done ()) → Ok (M.slices_Index_int_int_l1 l c i) φ
  | [], i, h, φ, hk => by
    unfold M.slices_Index_int_int_l1
    exact Ok.ite_dec (fun h' => absurd h' (drop_nil h)) fun _ => Ok.pure hk
  | d :: suf, i, h, φ, hk => by
    obtain ⟨h1, h2, h3, h4⟩ := drop_cons h
    unfold M.slices_Index_int_int_l1
    refine Ok.ite_dec (fun _ => Ok.idx_known h2 (by omega) ?_) fun h' => absurd h1 h'
    refine Ok.ite_beq (fun e => ?_) fun e => ?_
    · subst e
      rw [if_pos List.mem_cons_self] at hk
      simp only [nx, if_true, Nat.add_zero] at hk
      exact Ok.pure hk
    · rw [W_succ (by omega)]
      refine indexL suf (i + 1) h3 φ ?_
      have : c ∈ d :: suf ↔ c ∈ suf := ⟨fun h => (List.mem_cons.1 h).resolve_left e, List.mem_cons_of_mem _⟩
      simp only [this, nx, if_neg e] at hk
      rw [show i + 1 + nx suf c = i + (nx suf c + 1) by omega]
      exact hk
theorem index_ok (φ : Int → Prop) (hk : φ (if c ∈ l then (nx l c : Int) else -1)) : Ok (M.slices_Index_int_int l c) φ := by
  unfold M.slices_Index_int_int
  by_cases h : c ∈ l
  · refine Ok.bind (indexL l c hl l 0 rfl (fun o => o = .ret ((0 + nx l c : Nat) : Int)) (if_pos h)) ?_
    rintro _ rfl
    rw [if_pos h] at hk
    rw [Nat.zero_add]
    exact Ok.pure hk
  · refine Ok.bind (indexL l c hl l 0 rfl (fun o => o = .done ()) (if_neg h)) ?_
    rintro _ rfl
    rw [if_neg h] at hk
    exact Ok.pure hk
theorem contains_ok (φ : Bool → Prop) (hk : φ (decide (c ∈ l))) : Ok (M.slices_Contains_int_int l c) φ := by
  unfold M.slices_Contains_int_int
  refine Ok.bind (index_ok l c hl (fun r => r = if c ∈ l then (nx l c : Int) else -1) rfl) ?_
  rintro _ rfl
  refine Ok.pure ?_
  by_cases h : c ∈ l
  · rw [if_pos h]
    rw [decide_eq_true h] at hk
    rw [decide_eq_true (show (nx l c : Int) ≥ 0 by omega)]
    exact hk
  · rw [if_neg h]
    rw [decide_eq_false h] at hk
    exact hk
end scans
theorem rs_len (l : List Int) (c : Int) : (rs l c).length ≤ l.length := List.length_filter_le _ _
theorem stk_len : ∀ (rp : List Int), (stk rp).length ≤ rp.length
  | [] => Nat.le_refl _
  | c :: rp => by have := stk_len rp; have := rs_len (stk rp) c; simp only [stk, List.length_cons]; omega
/-! ### Stack distances of the reference -/
/-! ### Stack distances of the program -/
theorem dcL (tr : List Int) (ht : tr.length ≤ 1000) : ∀ (t : List Int) (i : Nat) (mp : List Int), tr.drop i = t → ∀ φ : List Int → Prop, φ (adds mp t) → Ok (M.impl_DistinctCells_l1 tr i mp) φ
  | [], i, mp, h, φ, hk => by
    unfold M.impl_DistinctCells_l1
    exact Ok.ite_dec (fun h' => absurd h' (drop_nil h)) fun _ => Ok.pure hk
  | c :: t, i, mp, h, φ, hk => by
    obtain ⟨h1, h2, h3, h4⟩ := drop_cons h
    unfold M.impl_DistinctCells_l1
    refine Ok.ite_dec (fun _ => Ok.idx_known h2 (by omega) (Ok.bind_pure ?_)) fun h' => absurd h1 h'
    rw [W_succ (by omega)]
    exact dcL tr ht t (i + 1) _ h3 φ hk
theorem distinct_ok (t : List Int) (ht : t.length ≤ 600) (φ : Int → Prop) (hk : φ (cells t)) : Ok (M.impl_DistinctCells t) φ := by
  unfold M.impl_DistinctCells M.impl_isTrace
  refine Ok.bind_pure ?_
  rw [decide_eq_true (by omega)]
  refine Ok.ite_ff (Ok.bind (dcL t (by omega) t 0 [] rfl (fun o => o = adds [] t) rfl) ?_)
  rintro _ rfl
  exact Ok.pure hk
/-! ### The cache that drops the cell used least recently -/
theorem del_rs : ∀ {h : List Int} {x : Int}, h.Nodup → x ∈ h → h.take (nx h x) ++ h.drop (nx h x + 1) = rs h x
  | a :: h, x, hn, hx => by
    rw [List.nodup_cons] at hn
    by_cases e : x = a
    · subst e
      have : rs (x :: h) x = rs h x := by simp [rs]
      rw [this, rs_not hn.1]
      simp [nx]
    · have h1 := del_rs (h := h) hn.2 ((List.mem_cons.1 hx).resolve_left e)
      have h2 : rs (a :: h) x = a :: rs h x := by
        have e' : ¬ a = x := fun h => e h.symm
        simp [rs, e']
      have h3 : nx (a :: h) x = nx h x + 1 := by simp [nx, e]
      rw [h2, h3, ← h1]
      simp
theorem rs_rev (l : List Int) (x : Int) : rs l.reverse x = (rs l x).reverse := by simp [rs, List.filter_reverse]
theorem rs_take {x : Int} : ∀ {s : List Int} {n : Nat}, s.Nodup → x ∈ s.take (n + 1) → rs (s.take (n + 1)) x = (rs s x).take n
  | [], n, _, h => by simp at h
  | a :: s, n, hn, h => by
    rw [List.nodup_cons] at hn
    rw [List.take_succ_cons] at h ⊢
    by_cases e : a = x
    · subst e
      have h1 : rs (a :: s.take n) a = rs (s.take n) a := by simp [rs]
      have h2 : rs (a :: s) a = rs s a := by simp [rs]
      rw [h1, h2, rs_not hn.1, rs_not fun h => hn.1 (List.mem_of_mem_take h)]
    · have h1 : rs (a :: s.take n) x = a :: rs (s.take n) x := by simp [rs, e]
      have h2 : rs (a :: s) x = a :: rs s x := by simp [rs, e]
      have h3 : x ∈ s.take n := (List.mem_cons.1 h).resolve_left fun h => e h.symm
      cases n with
      | zero => simp at h3
      | succ n => rw [h1, h2, List.take_succ_cons, rs_take hn.2 h3]
theorem rs_take' {x : Int} : ∀ {s : List Int} {n : Nat}, x ∉ s.take n → (rs s x).take n = s.take n
  | [], n, _ => by simp [rs]
  | a :: s, 0, _ => by simp
  | a :: s, n + 1, h => by
    rw [List.take_succ_cons, List.mem_cons, not_or] at h
    have h2 : rs (a :: s) x = a :: rs s x := by
      have e' : ¬ a = x := fun h' => h.1 h'.symm
      simp [rs, e']
    rw [h2, List.take_succ_cons, List.take_succ_cons, rs_take' h.2]
theorem lruL (tr : List Int) (ht : tr.length ≤ 1000) (size : Nat) (hsz : size ≤ 1000) : ∀ (t rp : List Int) (i : Nat) (m : Nat), tr.drop i = t → rp.length = i → m ≤ i → ∀ φ : Int → Prop, φ ((m + lru size rp t : Nat) : Int) → Ok (M.impl_LruMisses_l1 tr size m ((stk rp).take size).reverse i) φ
  | [], rp, i, m, h, hr, hm, φ, hk => by
    unfold M.impl_LruMisses_l1
    exact Ok.ite_dec (fun h' => absurd h' (drop_nil h)) fun _ => Ok.pure hk
  | c :: t, rp, i, m, h, hr, hm, φ, hk => by
    obtain ⟨h1, h2, h3, h4⟩ := drop_cons h
    have hs := stk_len rp
    have hnd := stk_nodup rp
    have hlen : ((stk rp).take size).reverse.length ≤ size ∧ ((stk rp).take size).reverse.length ≤ 1000 := by simp; omega
    have hndr : ((stk rp).take size).reverse.Nodup := List.pairwise_reverse.2 (((List.take_sublist _ _).nodup hnd).imp fun h => h.symm)
    have hmem : c ∈ ((stk rp).take size).reverse ↔ c ∈ (stk rp).take size := List.mem_reverse
    unfold M.impl_LruMisses_l1
    refine Ok.ite_dec (fun _ => Ok.idx_known h2 (by omega) ?_) fun h' => absurd h1 h'
    refine Ok.bind (index_ok _ c (by omega) (fun r => r = if c ∈ ((stk rp).take size).reverse then (nx ((stk rp).take size).reverse c : Int) else -1) rfl) ?_
    rintro _ rfl
    by_cases hc : c ∈ (stk rp).take size
    · have hc' := hmem.2 hc
      have hlt := nx_lt hc'
      rw [if_pos hc']
      have e1 : b2 (c ∉ (stk rp).take size) = 0 := if_neg fun h => h hc
      simp only [lru, e1, Nat.zero_add] at hk
      obtain ⟨n, rfl⟩ : ∃ n, size = n + 1 := by
        cases size with
        | zero => simp at hc
        | succ n => exact ⟨n, rfl⟩
      have hdel : M.slices_Delete_int_int ((stk rp).take (n + 1)).reverse (nx ((stk rp).take (n + 1)).reverse c : Int) (W ((nx ((stk rp).take (n + 1)).reverse c : Int) + 1)) = some ((rs (stk rp) c).take n).reverse := by
        rw [W_succ (by omega)]
        unfold M.slices_Delete_int_int delI
        rw [if_pos ⟨by omega, by omega, by omega, by omega⟩]
        simp only [Int.toNat_natCast]
        rw [del_rs hndr hc', rs_rev, rs_take hnd hc]
      refine Ok.bind_ite (Ok.ite_dec (fun _ => ?_) fun h' => absurd (by omega) h')
      rw [hdel]
      refine Ok.bind_bind (Ok.bind_some (Ok.bind_pure ?_))
      dsimp only
      refine Ok.app (by have := rs_len (stk rp) c; simp; omega) ?_
      have e2 : ((rs (stk rp) c).take n).reverse ++ [c] = ((stk (c :: rp)).take (n + 1)).reverse := by simp [stk]
      rw [e2]
      refine Ok.bind (φ := fun o => o = ((stk (c :: rp)).take (n + 1)).reverse) (Ok.ite_dec (fun h' => absurd h' (by simp; omega)) fun _ => Ok.pure rfl) ?_
      rintro _ rfl
      rw [W_succ (by omega)]
      exact lruL tr ht (n + 1) hsz t (c :: rp) (i + 1) m h3 (by simp; omega) (by omega) φ hk
    · have hc' : c ∉ ((stk rp).take size).reverse := fun h => hc (hmem.1 h)
      rw [if_neg hc']
      have e1 : b2 (c ∉ (stk rp).take size) = 1 := if_pos hc
      simp only [lru, e1] at hk
      refine Ok.bind_ite (Ok.ite_dec (fun h' => absurd h' (by omega)) fun _ => Ok.bind_pure ?_)
      dsimp only
      refine Ok.app (by simp; omega) ?_
      refine Ok.bind (φ := fun o => o = ((stk (c :: rp)).take size).reverse) ?_ ?_
      · have e2 : ((stk rp).take size).reverse ++ [c] = (c :: (stk rp).take size).reverse := by simp
        rw [e2]
        refine Ok.ite_dec (fun h' => ?_) fun h' => Ok.pure ?_
        · have hsl : size ≤ (stk rp).length := by
            simp at h'
            omega
          refine Ok.slc (by omega) (by simp; omega) (by omega) fun l hl hll => Ok.pure ?_
          subst hl
          show _ = _
          simp only [id, Int.toNat_natCast, List.take_length]
          cases size with
          | zero => simp
          | succ n =>
            rw [show (stk (c :: rp)) = c :: rs (stk rp) c from rfl, List.take_succ_cons, rs_take' fun h => hc ((List.take_sublist_take_left (Nat.le_succ n)).subset h)]
            rw [show Int.toNat 1 = 1 from rfl, List.drop_one, List.tail_reverse]
            congr 1
            cases hst : stk rp with
            | nil => rw [hst] at hsl; simp at hsl
            | cons a s =>
              rw [hst] at hsl
              rw [List.dropLast_cons_of_ne_nil (by simp)]
              congr 1
              rw [List.dropLast_eq_take, List.length_take, List.take_take]
              congr 1
              simp at hsl ⊢
              omega
        · show _ = _
          have hsl : (stk rp).length < size := by
            simp at h'
            omega
          rw [List.take_of_length_le (by omega)] at hc ⊢
          rw [show (stk (c :: rp)) = c :: rs (stk rp) c from rfl, rs_not hc, List.take_of_length_le (by simp; omega)]
          rfl
      rintro _ rfl
      rw [W_succ (by omega), W_succ (by omega)]
      refine lruL tr ht size hsz t (c :: rp) (i + 1) (m + 1) h3 (by simp; omega) (by omega) φ ?_
      rw [show m + 1 + lru size (c :: rp) t = m + (1 + lru size (c :: rp) t) by omega]
      exact hk
theorem isCache_ok (t : List Int) (size : Int) (φ : Bool → Prop) (hk : φ (decide (t.length ≤ 600 ∧ 0 ≤ size ∧ size ≤ 40))) : Ok (M.impl_isCache t size) φ := by
  unfold M.impl_isCache M.impl_isTrace M.impl_within
  refine Ok.bind (φ := fun b => b = decide (t.length ≤ 600 ∧ 0 ≤ size ∧ size ≤ 40)) (Ok.bind_pure ?_) ?_
  · by_cases h : t.length ≤ 600
    · rw [decide_eq_true (show (t.length : Int) ≤ 600 by omega)]
      refine Ok.ite_tt (Ok.bind_bind (Ok.bind_ite (Ok.ite_dec (fun h1 => Ok.bind_pure (Ok.bind_pure_id (Ok.pure ?_))) fun h1 => Ok.bind_pure (Ok.bind_pure_id (Ok.pure ?_)))))
      · show _ = _
        simp only [id]
        rw [decide_eq_decide]
        omega
      · show _ = _
        simp only [id]
        rw [eq_comm, decide_eq_false_iff_not]
        omega
    · rw [decide_eq_false (show ¬ (t.length : Int) ≤ 600 by omega)]
      refine Ok.ite_ff (Ok.pure ?_)
      rw [eq_comm, decide_eq_false_iff_not]
      omega
  rintro _ rfl
  exact Ok.pure hk
theorem fits_ok (t : List Int) (size : Int) (φ : Bool → Prop) (hk : φ (decide (t.length ≤ 600 ∧ 0 ≤ size ∧ size ≤ 40))) : Ok (M.spec_l10Fits t size) φ := by
  unfold M.spec_l10Fits
  refine Ok.bind (φ := fun b => b = decide (t.length ≤ 600 ∧ 0 ≤ size ∧ size ≤ 40)) ?_ ?_
  · refine Ok.ite_dec (fun h => Ok.ite_dec (fun h1 => Ok.pure ?_) fun h1 => Ok.pure ?_) fun h => Ok.pure ?_
    · rw [decide_eq_decide]; omega
    · rw [eq_comm, decide_eq_false_iff_not]; omega
    · rw [eq_comm, decide_eq_false_iff_not]; omega
  rintro _ rfl
  exact Ok.pure hk
theorem lru_ok (t : List Int) (ht : t.length ≤ 600) (size : Nat) (hs : size ≤ 40) (φ : Int → Prop) (hk : φ (lru size [] t)) : Ok (M.impl_LruMisses t size) φ := by
  unfold M.impl_LruMisses
  refine Ok.bind (isCache_ok t size (fun b => b = true) (decide_eq_true ⟨ht, by omega, by omega⟩)) ?_
  rintro _ rfl
  have h0 := lruL t (by omega) size (by omega) t [] 0 0 rfl rfl (by omega) (fun o => o = (lru size [] t : Int)) (by simp)
  rw [show ((stk []).take size).reverse = [] by simp [stk]] at h0
  refine Ok.ite_ff (Ok.bind h0 ?_)
  rintro _ rfl
  exact Ok.pure hk
end Go.LN
