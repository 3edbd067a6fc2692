/- Caches in plain words: stacks, distances, misses. -/
import Derived.Test.YtbgdegfnaofkfaaPB
import Derived.Test.YtbgdegfnaofkfaaLnV
namespace Go.LN.Pb
set_option linter.unusedVariables false
set_option linter.unusedSimpArgs false
def stk : List Int → List Int
  | [] => []
  | c :: rp => c :: rs (stk rp) c
def tw (c : Int) (l : List Int) : List Int := l.takeWhile (fun y => decide (y ≠ c))
theorem mem_rs {l : List Int} {x y : Int} : y ∈ rs l x ↔ y ∈ l ∧ y ≠ x := by
  simp [rs]
theorem mem_stk {x : Int} : ∀ {rp : List Int}, x ∈ stk rp ↔ x ∈ rp
  | [] => Iff.rfl
  | c :: rp => by
    simp only [stk, List.mem_cons, mem_rs, mem_stk (rp := rp)]
    by_cases h : x = c <;> simp [h]
theorem stk_nodup : ∀ (rp : List Int), (stk rp).Nodup
  | [] => List.nodup_nil
  | c :: rp => List.nodup_cons.2 ⟨by simp [mem_rs], (stk_nodup rp).filter _⟩
def dist (rp : List Int) (c : Int) : Int := if c ∈ rp then ((tw c (stk rp)).length : Int) else -1
def sds : List Int → List Int → List Int
  | _, [] => []
  | rp, c :: t => dist rp c :: sds (c :: rp) t
def adds (m l : List Int) : List Int := l.foldl mins m
theorem mem_mins {m : List Int} {x y : Int} : y ∈ mins m x ↔ y = x ∨ y ∈ m := by
  unfold mins
  split
  · rename_i h
    exact ⟨.inr, fun h' => h'.elim (fun e => e ▸ h) id⟩
  · rw [List.mem_append, List.mem_singleton]; exact Or.comm
theorem mem_adds {y : Int} : ∀ {l m : List Int}, y ∈ adds m l ↔ y ∈ m ∨ y ∈ l
  | [], m => by simp [adds]
  | x :: l, m => by
    show y ∈ adds (mins m x) l ↔ _
    rw [mem_adds, mem_mins, List.mem_cons]
    constructor
    · rintro ((h | h) | h)
      · exact .inr (.inl h)
      · exact .inl h
      · exact .inr (.inr h)
    · rintro (h | h | h)
      · exact .inl (.inr h)
      · exact .inl (.inl h)
      · exact .inr h
theorem dcs_congr : ∀ {t s s' : List Int}, (∀ y, y ∈ s ↔ y ∈ s') → dcs s t = dcs s' t
  | [], _, _, _ => rfl
  | x :: t, s, s', h => by
    simp only [dcs, h x]
    rw [dcs_congr (t := t) (s := x :: s) (s' := x :: s') fun y => by simp [h y]]
theorem adds_dcs : ∀ (t m : List Int), (adds m t).length = m.length + dcs m t
  | [], m => rfl
  | x :: t, m => by
    show (adds (mins m x) t).length = _
    rw [adds_dcs t, dcs_congr (s' := x :: m) fun y => by rw [mem_mins, List.mem_cons]]
    simp only [dcs, mins]
    by_cases h : x ∈ m
    · rw [if_pos h, show b2 (x ∉ m) = 0 from if_neg (fun e => e h)]; omega
    · rw [if_neg h, show b2 (x ∉ m) = 1 from if_pos h]; simp; omega
def cells (t : List Int) : Nat := (adds [] t).length
theorem cells_dcs (t : List Int) : cells t = dcs [] t := by simp [cells, adds_dcs]
theorem cold_count : ∀ (rp t : List Int), (sds rp t).countP (fun d => decide (d < 0)) = dcs rp t
  | _, [] => rfl
  | rp, c :: t => by
    simp only [sds, List.countP_cons, cold_count (c :: rp) t, dcs, dist]
    by_cases h : c ∈ rp
    · rw [if_pos h, show b2 (c ∉ rp) = 0 from if_neg (fun e => e h)]
      have : ¬ ((tw c (stk rp)).length : Int) < 0 := by omega
      simp [this]
    · rw [if_neg h, show b2 (c ∉ rp) = 1 from if_pos h]
      simp; omega
theorem tw_len {c : Int} : ∀ {l : List Int}, c ∈ l → (tw c l).length < l.length
  | a :: l, h => by
    by_cases e : a = c
    · subst e; simp [tw]
    · have h1 : tw c (a :: l) = a :: tw c l := by simp [tw, e]
      have := tw_len (l := l) ((List.mem_cons.1 h).resolve_left fun h => e h.symm)
      rw [h1]
      simp only [List.length_cons]
      omega
theorem dist_lt : ∀ {t rp : List Int} {d : Int}, d ∈ sds rp t → -1 ≤ d ∧ d < (cells (rp.reverse ++ t) : Int) + (if t = [] then 0 else 0)
  | [], _, _, h => absurd h List.not_mem_nil
  | c :: t, rp, d, h => by
    have hc : 0 ≤ (cells (rp.reverse ++ c :: t) : Int) := by omega
    simp only [sds, List.mem_cons] at h
    rcases h with h | h
    · subst h
      unfold dist
      split
      · rename_i hm
        refine ⟨by omega, ?_⟩
        have h1 := tw_len (mem_stk.2 hm)
        have h2 : (stk rp).length ≤ cells (rp.reverse ++ c :: t) := nodup_sub (stk_nodup rp) fun y hy => mem_adds.2 (.inr (by simp [mem_stk.1 hy]))
        simp
        omega
      · refine ⟨by omega, ?_⟩
        simp
        omega
    · have := dist_lt (t := t) (rp := c :: rp) h
      simp only [List.reverse_cons, List.append_assoc, List.singleton_append] at this
      simp at this ⊢
      exact this
def lru (size : Nat) : List Int → List Int → Nat
  | _, [] => 0
  | rp, c :: t => b2 (c ∉ (stk rp).take size) + lru size (c :: rp) t
theorem mem_take {c : Int} : ∀ {l : List Int} {n : Nat}, c ∈ l.take n ↔ c ∈ l ∧ (tw c l).length < n
  | [], n => by simp
  | a :: l, 0 => by simp
  | a :: l, n + 1 => by
    rw [List.take_succ_cons, List.mem_cons, mem_take (l := l)]
    by_cases e : a = c
    · subst e; simp [tw]
    · have h1 : tw c (a :: l) = a :: tw c l := by simp [tw, e]
      have h2 : ¬ c = a := fun h => e h.symm
      rw [h1]
      simp [h2]
theorem take_rs {x : Int} : ∀ {l : List Int} {n : Nat} {y : Int}, l.Nodup → y ∈ (rs l x).take n → y ∈ l.take (n + 1) ∧ y ≠ x
  | [], n, y, _, h => by simp [rs] at h
  | a :: l, 0, y, _, h => by simp at h
  | a :: l, n + 1, y, hn, h => by
    rw [List.nodup_cons] at hn
    by_cases e : a = x
    · subst e
      have h1 : rs (a :: l) a = rs l a := by simp [rs]
      rw [h1, rs_not hn.1] at h
      refine ⟨?_, fun e => hn.1 (e ▸ List.mem_of_mem_take h)⟩
      rw [List.take_succ_cons]
      exact List.mem_cons_of_mem _ h
    · have h1 : rs (a :: l) x = a :: rs l x := by simp [rs, e]
      rw [h1, List.take_succ_cons, List.mem_cons] at h
      rw [List.take_succ_cons]
      rcases h with h | h
      · exact ⟨h ▸ List.mem_cons_self, h ▸ e⟩
      · have h2 := take_rs (l := l) (n := n) hn.2 h
        exact ⟨List.mem_cons_of_mem _ h2.1, h2.2⟩
theorem lru_pol (size : Nat) : ∀ (t rp : List Int), Pol size ((stk rp).take size) t (lru size rp t)
  | [], rp => .nil _
  | c :: t, rp => by
    refine Pol.cons _ ((stk (c :: rp)).take size) c t _ ((List.take_sublist _ _).nodup (stk_nodup _)) (by simp; omega) (fun y hy => ?_) (lru_pol size t (c :: rp))
    cases size with
    | zero => simp at hy
    | succ n =>
      simp only [stk, List.take_succ_cons, List.mem_cons] at hy
      exact hy.imp id fun h => (take_rs (stk_nodup rp) h).1
theorem lru_count (size : Nat) : ∀ (rp t : List Int), (sds rp t).countP (fun d => decide (d < 0 ∨ d ≥ (size : Int))) = lru size rp t
  | _, [] => rfl
  | rp, c :: t => by
    simp only [sds, List.countP_cons, lru_count size (c :: rp) t, lru, dist]
    by_cases h : c ∈ (stk rp).take size
    · have h1 := mem_take.1 h
      rw [if_pos (mem_stk.1 h1.1), show b2 (c ∉ (stk rp).take size) = 0 from if_neg (fun e => e h)]
      have : ¬ (((tw c (stk rp)).length : Int) < 0 ∨ ((tw c (stk rp)).length : Int) ≥ (size : Int)) := by omega
      simp only [this, decide_false]
      simp
    · rw [show b2 (c ∉ (stk rp).take size) = 1 from if_pos h]
      have : (if c ∈ rp then ((tw c (stk rp)).length : Int) else -1) < 0 ∨ (if c ∈ rp then ((tw c (stk rp)).length : Int) else -1) ≥ (size : Int) := by
        split
        · rename_i hm
          have h2 : ¬ (tw c (stk rp)).length < size := fun h2 => h (mem_take.2 ⟨mem_stk.2 hm, h2⟩)
          omega
        · omega
      simp only [this, decide_true]
      simp; omega
theorem best_le_lru {size : Nat} {t : List Int} {n : Nat} (h : Bel size [] t n) : n ≤ lru size [] t := by
  have := bel_le (Nat.le_refl size) (d := 0) h (lru_pol size t []) List.nodup_nil (by simp [stk]) (by simp) (fun τ => by simp [stk, cnt])
  omega
theorem best_eq {size : Nat} {t : List Int} {n m : Nat} (h : Bel size [] t n) (h' : Bel size [] t m) : n = m := by
  have h1 := bel_le (Nat.le_refl size) (d := 0) h (bel_pol h' List.nodup_nil (by simp)) List.nodup_nil List.nodup_nil (by simp) (fun τ => by omega)
  have h2 := bel_le (Nat.le_refl size) (d := 0) h' (bel_pol h List.nodup_nil (by simp)) List.nodup_nil List.nodup_nil (by simp) (fun τ => by omega)
  omega
theorem best_cells {size : Nat} {t : List Int} {n : Nat} (h : Bel size [] t n) : cells t ≤ n := by
  rw [cells_dcs]
  exact pol_dcs (bel_pol h List.nodup_nil (by simp)) (fun _ h => h)
theorem lru_cells {size : Nat} {t : List Int} (h : ∀ d ∈ sds [] t, d < (size : Int)) : lru size [] t = cells t := by
  rw [cells_dcs, ← cold_count, ← lru_count]
  refine List.countP_congr fun d hd => ?_
  have := h d hd
  simp; omega
theorem lru_fits {size : Nat} {t : List Int} (h : cells t ≤ size) : lru size [] t = cells t := by
  refine lru_cells fun d hd => ?_
  have := (dist_lt hd).2
  simp at this
  omega
end Go.LN.Pb
