/- What the functions on caches compute, second part, and that the laws answer true. -/
import Derived.Test.YtbgdegfnaofkfaaPC
namespace Go.LN
set_option linter.unusedVariables false
set_option linter.unusedSimpArgs false
open Pb
/-! ### The cache that drops the cell used latest -/
def Wst (h t : List Int) (w : Int) : Prop := ∃ c, 0 ≤ w ∧ h[w.toNat]? = some c ∧ ∀ y ∈ h, nx t y ≤ nx t c
theorem ibL (tr : List Int) (i : Nat) (hi : i < tr.length) (ht : tr.length ≤ 1000) (h : List Int) (hh : h.length ≤ 1000) : ∀ (s : List Int) (k : Nat) (w l : Int), h.drop k = s → 0 < h.length → (∀ y ∈ h.take k, (nx (tr.drop (i + 1)) y : Int) ≤ l) → ((k = 0 ∧ w = 0 ∧ l = -1) ∨ ∃ c, 0 ≤ w ∧ h[w.toNat]? = some c ∧ l = nx (tr.drop (i + 1)) c) → ∀ φ : Int → Prop, (∀ w, Wst h (tr.drop (i + 1)) w → φ w) → Ok (M.impl_BestMisses_l2 tr i h w l k) φ
  | [], k, w, l, hs, hp, ha, hb, φ, hk => by
    unfold M.impl_BestMisses_l2
    have hkl := drop_nil hs
    refine Ok.ite_dec (fun h' => absurd h' hkl) fun _ => Ok.pure (hk _ ?_)
    rcases hb with ⟨h0, _, _⟩ | ⟨c, h1, h2, h3⟩
    · omega
    · refine ⟨c, h1, h2, fun y hy => ?_⟩
      rw [List.take_of_length_le (by omega)] at ha
      have := ha y hy
      omega
  | d :: s, k, w, l, hs, hp, ha, hb, φ, hk => by
    obtain ⟨h1, h2, h3, h4⟩ := drop_cons hs
    have hnl := nx_le (tr.drop (i + 1)) d
    have hdl : (tr.drop (i + 1)).length = tr.length - (i + 1) := List.length_drop
    unfold M.impl_BestMisses_l2
    refine Ok.ite_dec (fun _ => Ok.idx_known h2 (by omega) ?_) fun h' => absurd h1 h'
    rw [W_succ (k := i) (by omega), W_succ (k := k) (by omega)]
    refine Ok.slc (by omega) (by omega) (by omega) fun m hm hml => ?_
    have hm' : m = tr.drop (i + 1) := by rw [hm]; simp
    subst hm'
    refine Ok.bind (index_ok _ d (by omega) (fun r => r = if d ∈ tr.drop (i + 1) then (nx (tr.drop (i + 1)) d : Int) else -1) rfl) ?_
    rintro _ rfl
    by_cases hd : d ∈ tr.drop (i + 1)
    · rw [if_pos hd]
      refine Ok.ite_dec (fun h' => absurd h' (by omega)) fun _ => ?_
      have htk : ∀ y ∈ h.take (k + 1), y ∈ h.take k ∨ y = d := by
        intro y hy
        rw [List.take_add_one, show h[k]? = some d by simpa using h2] at hy
        simpa using hy
      refine Ok.bind_ite (Ok.ite_dec (fun h' => Ok.bind_pure ?_) fun h' => Ok.bind_pure ?_)
      · dsimp only
        refine ibL tr i hi ht h hh s (k + 1) _ _ h3 hp ?_ (.inr ⟨d, by omega, h2, rfl⟩) φ hk
        intro y hy
        rcases htk y hy with e | e
        · have := ha y e; omega
        · subst e; omega
      · dsimp only
        refine ibL tr i hi ht h hh s (k + 1) _ _ h3 hp ?_ (.inr ?_) φ hk
        · intro y hy
          rcases htk y hy with e | e
          · exact ha y e
          · subst e; omega
        · rcases hb with ⟨_, _, h0⟩ | hb
          · omega
          · exact hb
    · rw [if_neg hd]
      refine Ok.ite_dec (fun _ => Ok.pure (hk _ ⟨d, by simp only [id]; omega, h2, fun y _ => ?_⟩)) fun h' => absurd (by omega) h'
      rw [nx_not hd]
      exact nx_le _ _
theorem sbL (tr : List Int) (i : Nat) (hi : i < tr.length) (ht : tr.length ≤ 1000) (h : List Int) (hh : h.length ≤ 1000) : ∀ (s : List Int) (k : Nat) (w : Int) (c : Int), h.drop k = s → 0 ≤ w → h[w.toNat]? = some c → (∀ y ∈ h.take k, nx (tr.drop (i + 1)) y ≤ nx (tr.drop (i + 1)) c) → ∀ φ : Int → Prop, (∀ w, Wst h (tr.drop (i + 1)) w → φ w) → Ok (M.spec_BestMisses_l2 tr i h w k) φ
  | [], k, w, c, hs, hw, hc, ha, φ, hk => by
    unfold M.spec_BestMisses_l2
    have hkl := drop_nil hs
    refine Ok.ite_dec (fun h' => absurd h' hkl) fun _ => Ok.pure (hk _ ⟨c, hw, hc, fun y hy => ?_⟩)
    rw [List.take_of_length_le (by omega)] at ha
    exact ha y hy
  | d :: s, k, w, c, hs, hw, hc, ha, φ, hk => by
    obtain ⟨h1, h2, h3, h4⟩ := drop_cons hs
    unfold M.spec_BestMisses_l2
    refine Ok.ite_dec (fun _ => Ok.idx_known h2 (by omega) ?_) fun h' => absurd h1 h'
    rw [W_succ (k := i) (by omega), W_succ (k := k) (by omega)]
    refine Ok.bind (next_ok tr d (by omega) (i + 1) (by omega) (fun r => r = ((i + 1 + nx (tr.drop (i + 1)) d : Nat) : Int)) rfl) ?_
    rintro _ rfl
    refine Ok.idx_known hc hw (Ok.bind (next_ok tr c (by omega) (i + 1) (by omega) (fun r => r = ((i + 1 + nx (tr.drop (i + 1)) c : Nat) : Int)) rfl) ?_)
    rintro _ rfl
    have htk : ∀ y ∈ h.take (k + 1), y ∈ h.take k ∨ y = d := by
      intro y hy
      rw [List.take_add_one, show h[k]? = some d by simpa using h2] at hy
      simpa using hy
    refine Ok.bind_ite (Ok.ite_dec (fun h' => Ok.bind_pure_id ?_) fun h' => Ok.bind_pure_id ?_)
    · refine sbL tr i hi ht h hh s (k + 1) _ d h3 (by omega) h2 ?_ φ hk
      intro y hy
      rcases htk y hy with e | e
      · have := ha y e; omega
      · subst e; omega
    · refine sbL tr i hi ht h hh s (k + 1) _ c h3 hw hc ?_ φ hk
      intro y hy
      rcases htk y hy with e | e
      · exact ha y e
      · subst e; omega
theorem wst_lt {h t : List Int} {w : Int} (hw : Wst h t w) : 0 ≤ w ∧ w < (h.length : Int) := by
  obtain ⟨c, h0, h1, _⟩ := hw
  have := (List.getElem?_eq_some_iff.1 h1).1
  omega
theorem ibest (tr : List Int) (ht : tr.length ≤ 1000) (size : Nat) (hsz : size ≤ 1000) : ∀ (t h : List Int) (i m : Nat), tr.drop i = t → h.length ≤ i → m ≤ i → ∀ φ : Int → Prop, (∀ n, Bel size h t n → φ ((m + n : Nat) : Int)) → Ok (M.impl_BestMisses_l1 tr size m h i) φ
  | [], h, i, m, hd, hh, hm, φ, hk => by
    unfold M.impl_BestMisses_l1
    exact Ok.ite_dec (fun h' => absurd h' (drop_nil hd)) fun _ => Ok.pure (hk 0 (.nil h))
  | c :: t, h, i, m, hd, hh, hm, φ, hk => by
    obtain ⟨h1, h2, h3, h4⟩ := drop_cons hd
    unfold M.impl_BestMisses_l1
    refine Ok.ite_dec (fun _ => Ok.idx_known h2 (by omega) ?_) fun h' => absurd h1 h'
    refine Ok.bind (contains_ok h c (by omega) (fun b => b = decide (c ∈ h)) rfl) ?_
    rintro _ rfl
    by_cases hc : c ∈ h
    · rw [decide_eq_true hc]
      refine Ok.ite_tt ?_
      rw [W_succ (by omega)]
      exact ibest tr ht size hsz t h (i + 1) m h3 (by omega) (by omega) φ fun n hn => hk n (.hit _ _ _ _ hc hn)
    · rw [decide_eq_false hc]
      refine Ok.ite_ff (Ok.app (by simp; omega) ?_)
      rw [W_succ (k := i) (by omega), W_succ (k := m) (by omega)]
      refine Ok.ite_dec (fun hf => ?_) fun hf => ?_
      · refine ibest tr ht size hsz t _ (i + 1) (m + 1) h3 (by simp; omega) (by omega) φ fun n hn => ?_
        have := hk (n + 1) (.fits _ _ _ _ hc (by omega) hn)
        rwa [show m + (n + 1) = m + 1 + n by omega] at this
      · refine Ok.bind (ibL tr i (by omega) ht (h ++ [c]) (by simp; omega) _ 0 0 (-1) rfl (by simp) (by simp) (.inl ⟨rfl, rfl, rfl⟩) (fun w => Wst (h ++ [c]) (tr.drop (i + 1)) w) fun _ h => h) ?_
        intro w hw
        have hwl := wst_lt hw
        obtain ⟨x, g1, g2, g3⟩ := hw
        have hlen : (h ++ [c]).length = h.length + 1 := by simp
        have hdel : M.slices_Delete_int_int (h ++ [c]) w (W (w + 1)) = some ((h ++ [c]).eraseIdx w.toNat) := by
          rw [W_id (by omega) (by omega)]
          unfold M.slices_Delete_int_int delI
          rw [if_pos ⟨by omega, by omega, by omega, by omega⟩, List.eraseIdx_eq_take_drop_succ, show (w + 1).toNat = w.toNat + 1 by omega]
        rw [hdel]
        refine Ok.bind_some ?_
        have hel : ((h ++ [c]).eraseIdx w.toNat).length = (h ++ [c]).length - 1 := by
          rw [List.length_eraseIdx, if_pos (by omega)]
        refine ibest tr ht size hsz t _ (i + 1) (m + 1) h3 (by omega) (by omega) φ fun n hn => ?_
        rw [h3] at g3
        have := hk (n + 1) (.drop _ _ _ _ _ x hc (by omega) g2 g3 hn)
        rwa [show m + (n + 1) = m + 1 + n by omega] at this
theorem sbest (tr : List Int) (ht : tr.length ≤ 1000) (size : Nat) (hsz : size ≤ 1000) : ∀ (t h : List Int) (i m : Nat), tr.drop i = t → h.length ≤ i → m ≤ i → ∀ φ : Int → Prop, (∀ n, Bel size h t n → φ ((m + n : Nat) : Int)) → Ok (M.spec_BestMisses_l1 tr size m h i) φ
  | [], h, i, m, hd, hh, hm, φ, hk => by
    unfold M.spec_BestMisses_l1
    exact Ok.ite_dec (fun h' => absurd h' (drop_nil hd)) fun _ => Ok.pure (hk 0 (.nil h))
  | c :: t, h, i, m, hd, hh, hm, φ, hk => by
    obtain ⟨h1, h2, h3, h4⟩ := drop_cons hd
    unfold M.spec_BestMisses_l1
    refine Ok.ite_dec (fun _ => Ok.idx_known h2 (by omega) ?_) fun h' => absurd h1 h'
    refine Ok.bind (has_ok h c (by omega) (fun b => b = decide (c ∈ h)) rfl) ?_
    rintro _ rfl
    by_cases hc : c ∈ h
    · rw [decide_eq_true hc]
      refine Ok.ite_tt ?_
      rw [W_succ (by omega)]
      exact sbest tr ht size hsz t h (i + 1) m h3 (by omega) (by omega) φ fun n hn => hk n (.hit _ _ _ _ hc hn)
    · rw [decide_eq_false hc]
      refine Ok.ite_ff (Ok.idx_known h2 (by omega) (Ok.app (by simp; omega) ?_))
      rw [W_succ (k := i) (by omega), W_succ (k := m) (by omega)]
      refine Ok.ite_dec (fun hf => ?_) fun hf => ?_
      · refine sbest tr ht size hsz t _ (i + 1) (m + 1) h3 (by simp; omega) (by omega) φ fun n hn => ?_
        have := hk (n + 1) (.fits _ _ _ _ hc (by omega) hn)
        rwa [show m + (n + 1) = m + 1 + n by omega] at this
      · have hlen : (h ++ [c]).length = h.length + 1 := by simp
        obtain ⟨a, b, hab⟩ : ∃ a b, h ++ [c] = a :: b := by
          cases h with
          | nil => exact ⟨c, [], rfl⟩
          | cons a b => exact ⟨a, b ++ [c], rfl⟩
        have ha0 : (h ++ [c])[(0 : Int).toNat]? = some a := by rw [hab]; rfl
        have hb0 : ∀ y ∈ (h ++ [c]).take 1, nx (tr.drop (i + 1)) y ≤ nx (tr.drop (i + 1)) a := by
          rw [hab]
          intro y hy
          simp at hy
          subst hy
          exact Nat.le_refl _
        refine Ok.bind (sbL tr i (by omega) ht (h ++ [c]) (by simp; omega) _ 1 0 a rfl (by omega) ha0 hb0 (fun w => Wst (h ++ [c]) (tr.drop (i + 1)) w) fun _ h => h) ?_
        intro w hw
        have hwl := wst_lt hw
        obtain ⟨x, g1, g2, g3⟩ := hw
        rw [W_id (x := w + 1) (by omega) (by omega)]
        refine Ok.slc (by omega) (by omega) (by omega) fun l hl hll => Ok.app (by simp; omega) (Ok.slc (by omega) (by omega) (by omega) fun l2 hl2 hll2 => Ok.app (by simp; omega) ?_)
        have he : [] ++ l ++ l2 = (h ++ [c]).eraseIdx w.toNat := by
          rw [List.eraseIdx_eq_take_drop_succ, hl, hl2, show (w + 1).toNat = w.toNat + 1 by omega]
          simp only [Int.toNat_natCast, List.take_length, List.nil_append]
          rfl
        rw [he]
        have hel : ((h ++ [c]).eraseIdx w.toNat).length = (h ++ [c]).length - 1 := by
          rw [List.length_eraseIdx, if_pos (by omega)]
        refine sbest tr ht size hsz t _ (i + 1) (m + 1) h3 (by omega) (by omega) φ fun n hn => ?_
        rw [h3] at g3
        have := hk (n + 1) (.drop _ _ _ _ _ x hc (by omega) g2 g3 hn)
        rwa [show m + (n + 1) = m + 1 + n by omega] at this
def Bst (t : List Int) (size r : Int) : Prop := ((t.length ≤ 600 ∧ 0 ≤ size ∧ size ≤ 40) ∧ ∃ n, Bel size.toNat [] t n ∧ r = (n : Int)) ∨ (¬ (t.length ≤ 600 ∧ 0 ≤ size ∧ size ≤ 40) ∧ r = -1)
theorem bst_eq {t : List Int} {size r r' : Int} (h : Bst t size r) (h' : Bst t size r') : r = r' := by
  rcases h with ⟨h1, n, h2, h3⟩ | ⟨h1, h2⟩ <;> rcases h' with ⟨h4, m, h5, h6⟩ | ⟨h4, h5⟩
  · rw [h3, h6, best_eq h2 h5]
  · exact absurd h1 h4
  · exact absurd h4 h1
  · rw [h2, h5]
theorem ibest_ok (t : List Int) (size : Int) : Ok (M.impl_BestMisses t size) (Bst t size) := by
  unfold M.impl_BestMisses
  refine Ok.bind (isCache_ok t size (fun b => b = decide (t.length ≤ 600 ∧ 0 ≤ size ∧ size ≤ 40)) rfl) ?_
  rintro _ rfl
  by_cases h : t.length ≤ 600 ∧ 0 ≤ size ∧ size ≤ 40
  · rw [decide_eq_true h]
    have h0 := ibest t (by omega) size.toNat (by omega) t [] 0 0 rfl (by simp) (by omega) (fun r => ∃ n, Bel size.toNat [] t n ∧ r = (n : Int)) fun n hn => ⟨n, hn, by omega⟩
    rw [show ((size.toNat : Nat) : Int) = size by omega] at h0
    exact Ok.ite_ff (Ok.bind h0 fun r hr => Ok.pure (.inl ⟨h, hr⟩))
  · rw [decide_eq_false h]
    exact Ok.ite_tt (Ok.pure (.inr ⟨h, rfl⟩))
theorem sbest_ok (t : List Int) (size : Int) : Ok (M.spec_BestMisses t size) (Bst t size) := by
  unfold M.spec_BestMisses
  refine Ok.bind (fits_ok t size (fun b => b = decide (t.length ≤ 600 ∧ 0 ≤ size ∧ size ≤ 40)) rfl) ?_
  rintro _ rfl
  by_cases h : t.length ≤ 600 ∧ 0 ≤ size ∧ size ≤ 40
  · rw [decide_eq_true h]
    have h0 := sbest t (by omega) size.toNat (by omega) t [] 0 0 rfl (by simp) (by omega) (fun r => ∃ n, Bel size.toNat [] t n ∧ r = (n : Int)) fun n hn => ⟨n, hn, by omega⟩
    rw [show ((size.toNat : Nat) : Int) = size by omega] at h0
    exact Ok.ite_ff (Ok.bind h0 fun r hr => Ok.pure (.inl ⟨h, hr⟩))
  · rw [decide_eq_false h]
    exact Ok.ite_tt (Ok.pure (.inr ⟨h, rfl⟩))
end Go.LN
