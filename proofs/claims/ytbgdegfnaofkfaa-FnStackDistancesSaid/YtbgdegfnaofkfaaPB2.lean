/- Caches in plain words: stacks, distances, misses. -/
import Derived.Test.YtbgdegfnaofkfaaPB
import Derived.Test.YtbgdegfnaofkfaaLnV
namespace Go.LN.Pb
set_option linter.unusedVariables false
set_option linter.unusedSimpArgs false
def stk : List Int → List Int
  | [] => []
  | c :: rp => c :: rs (stk rp) c
def tw (c : Int) (l : List Int) : List Int := l.takeWhile (fun y => decide (y ≠ c))
theorem mem_rs {l : List Int} {x y : Int} : y ∈ rs l x ↔ y ∈ l ∧ y ≠ x := by
  simp [rs]
theorem mem_stk {x : Int} : ∀ {rp : List Int}, x ∈ stk rp ↔ x ∈ rp
  | [] => Iff.rfl
  | c :: rp => by
    simp only [stk, List.mem_cons, mem_rs, mem_stk (rp := rp)]
    by_cases h : x = c <;> simp [h]
theorem stk_nodup : ∀ (rp : List Int), (stk rp).Nodup
  | [] => List.nodup_nil
  | c :: rp => List.nodup_cons.2 ⟨by simp [mem_rs], (stk_nodup rp).filter _⟩
theorem tw_rs {c d : Int} (h : d ≠ c) : ∀ (l : List Int), tw c (rs l d) = rs (tw c l) d
  | [] => rfl
  | a :: l => by
    have ih := tw_rs h l
    by_cases h1 : a = d
    · subst h1
      simp only [rs, tw, ne_eq, decide_not, List.filter_cons, List.takeWhile_cons] at ih ⊢
      simp [h, ih]
    · by_cases h2 : a = c
      · subst h2
        simp [rs, tw, h1]
      · simp only [rs, tw, ne_eq, decide_not, List.filter_cons, List.takeWhile_cons] at ih ⊢
        simp [h1, h2, ih]
theorem tw_stk (c : Int) : ∀ (rp : List Int), tw c (stk rp) = stk (tw c rp)
  | [] => rfl
  | a :: rp => by
    have ih := tw_stk c rp
    by_cases h : a = c
    · subst h
      simp [stk, tw]
    · have h1 : tw c (stk (a :: rp)) = a :: tw c (rs (stk rp) a) := by
        simp [stk, tw, h]
      have h2 : tw c (a :: rp) = a :: tw c rp := by simp [tw, h]
      rw [h1, h2, tw_rs h, ih]
      rfl
def dist (rp : List Int) (c : Int) : Int := if c ∈ rp then ((tw c (stk rp)).length : Int) else -1
def sds : List Int → List Int → List Int
  | _, [] => []
  | rp, c :: t => dist rp c :: sds (c :: rp) t
theorem sds_len : ∀ (rp t : List Int), (sds rp t).length = t.length
  | _, [] => rfl
  | rp, c :: t => by simp [sds, sds_len]
def adds (m l : List Int) : List Int := l.foldl mins m
theorem mem_mins {m : List Int} {x y : Int} : y ∈ mins m x ↔ y = x ∨ y ∈ m := by
  unfold mins
  split
  · rename_i h
    exact ⟨.inr, fun h' => h'.elim (fun e => e ▸ h) id⟩
  · rw [List.mem_append, List.mem_singleton]; exact Or.comm
theorem mins_nodup {m : List Int} {x : Int} (h : m.Nodup) : (mins m x).Nodup := by
  unfold mins
  split
  · exact h
  · exact nodup_snoc h ‹_›
theorem mem_adds {y : Int} : ∀ {l m : List Int}, y ∈ adds m l ↔ y ∈ m ∨ y ∈ l
  | [], m => by simp [adds]
  | x :: l, m => by
    show y ∈ adds (mins m x) l ↔ _
    rw [mem_adds, mem_mins, List.mem_cons]
    constructor
    · rintro ((h | h) | h)
      · exact .inr (.inl h)
      · exact .inl h
      · exact .inr (.inr h)
    · rintro (h | h | h)
      · exact .inl (.inr h)
      · exact .inl (.inl h)
      · exact .inr h
theorem adds_nodup : ∀ {l m : List Int}, m.Nodup → (adds m l).Nodup
  | [], _, h => h
  | _ :: l, _, h => adds_nodup (l := l) (mins_nodup h)
theorem adds_len (l : List Int) : (adds [] l).length = (stk l).length := by
  refine Nat.le_antisymm (nodup_sub (adds_nodup List.nodup_nil) fun y hy => ?_) (nodup_sub (stk_nodup l) fun y hy => ?_)
  · exact mem_stk.2 ((mem_adds.1 hy).resolve_left List.not_mem_nil)
  · exact mem_adds.2 (.inr (mem_stk.1 hy))
theorem dcs_congr : ∀ {t s s' : List Int}, (∀ y, y ∈ s ↔ y ∈ s') → dcs s t = dcs s' t
  | [], _, _, _ => rfl
  | x :: t, s, s', h => by
    simp only [dcs, h x]
    rw [dcs_congr (t := t) (s := x :: s) (s' := x :: s') fun y => by simp [h y]]
theorem adds_dcs : ∀ (t m : List Int), (adds m t).length = m.length + dcs m t
  | [], m => rfl
  | x :: t, m => by
    show (adds (mins m x) t).length = _
    rw [adds_dcs t, dcs_congr (s' := x :: m) fun y => by rw [mem_mins, List.mem_cons]]
    simp only [dcs, mins]
    by_cases h : x ∈ m
    · rw [if_pos h, show b2 (x ∉ m) = 0 from if_neg (fun e => e h)]; omega
    · rw [if_neg h, show b2 (x ∉ m) = 1 from if_pos h]; simp; omega
def cells (t : List Int) : Nat := (adds [] t).length
theorem cells_dcs (t : List Int) : cells t = dcs [] t := by simp [cells, adds_dcs]
theorem cold_count : ∀ (rp t : List Int), (sds rp t).countP (fun d => decide (d < 0)) = dcs rp t
  | _, [] => rfl
  | rp, c :: t => by
    simp only [sds, List.countP_cons, cold_count (c :: rp) t, dcs, dist]
    by_cases h : c ∈ rp
    · rw [if_pos h, show b2 (c ∉ rp) = 0 from if_neg (fun e => e h)]
      have : ¬ ((tw c (stk rp)).length : Int) < 0 := by omega
      simp [this]
    · rw [if_neg h, show b2 (c ∉ rp) = 1 from if_pos h]
      simp; omega
theorem tw_len {c : Int} : ∀ {l : List Int}, c ∈ l → (tw c l).length < l.length
  | a :: l, h => by
    by_cases e : a = c
    · subst e; simp [tw]
    · have h1 : tw c (a :: l) = a :: tw c l := by simp [tw, e]
      have := tw_len (l := l) ((List.mem_cons.1 h).resolve_left fun h => e h.symm)
      rw [h1]
      simp only [List.length_cons]
      omega
theorem dist_lt : ∀ {t rp : List Int} {d : Int}, d ∈ sds rp t → -1 ≤ d ∧ d < (cells (rp.reverse ++ t) : Int) + (if t = [] then 0 else 0)
  | [], _, _, h => absurd h List.not_mem_nil
  | c :: t, rp, d, h => by
    have hc : 0 ≤ (cells (rp.reverse ++ c :: t) : Int) := by omega
    simp only [sds, List.mem_cons] at h
    rcases h with h | h
    · subst h
      unfold dist
      split
      · rename_i hm
        refine ⟨by omega, ?_⟩
        have h1 := tw_len (mem_stk.2 hm)
        have h2 : (stk rp).length ≤ cells (rp.reverse ++ c :: t) := nodup_sub (stk_nodup rp) fun y hy => mem_adds.2 (.inr (by simp [mem_stk.1 hy]))
        simp
        omega
      · refine ⟨by omega, ?_⟩
        simp
        omega
    · have := dist_lt (t := t) (rp := c :: rp) h
      simp only [List.reverse_cons, List.append_assoc, List.singleton_append] at this
      simp at this ⊢
      exact this
def lru (size : Nat) : List Int → List Int → Nat
  | _, [] => 0
  | rp, c :: t => b2 (c ∉ (stk rp).take size) + lru size (c :: rp) t
theorem mem_take {c : Int} : ∀ {l : List Int} {n : Nat}, c ∈ l.take n ↔ c ∈ l ∧ (tw c l).length < n
  | [], n => by simp
  | a :: l, 0 => by simp
  | a :: l, n + 1 => by
    rw [List.take_succ_cons, List.mem_cons, mem_take (l := l)]
    by_cases e : a = c
    · subst e; simp [tw]
    · have h1 : tw c (a :: l) = a :: tw c l := by simp [tw, e]
      have h2 : ¬ c = a := fun h => e h.symm
      rw [h1]
      simp [h2]
theorem lru_count (size : Nat) : ∀ (rp t : List Int), (sds rp t).countP (fun d => decide (d < 0 ∨ d ≥ (size : Int))) = lru size rp t
  | _, [] => rfl
  | rp, c :: t => by
    simp only [sds, List.countP_cons, lru_count size (c :: rp) t, lru, dist]
    by_cases h : c ∈ (stk rp).take size
    · have h1 := mem_take.1 h
      rw [if_pos (mem_stk.1 h1.1), show b2 (c ∉ (stk rp).take size) = 0 from if_neg (fun e => e h)]
      have : ¬ (((tw c (stk rp)).length : Int) < 0 ∨ ((tw c (stk rp)).length : Int) ≥ (size : Int)) := by omega
      simp only [this, decide_false]
      simp
    · rw [show b2 (c ∉ (stk rp).take size) = 1 from if_pos h]
      have : (if c ∈ rp then ((tw c (stk rp)).length : Int) else -1) < 0 ∨ (if c ∈ rp then ((tw c (stk rp)).length : Int) else -1) ≥ (size : Int) := by
        split
        · rename_i hm
          have h2 : ¬ (tw c (stk rp)).length < size := fun h2 => h (mem_take.2 ⟨mem_stk.2 hm, h2⟩)
          omega
        · omega
      simp only [this, decide_true]
      simp; omega
end Go.LN.Pb
