/- Caches in plain words: stacks, distances, misses. -/
import Derived.Test.YtbgdegfnaofkfaaPB
import Derived.Test.YtbgdegfnaofkfaaLnV
namespace Go.LN.Pb
set_option linter.unusedVariables false
set_option linter.unusedSimpArgs false
def stk : List Int → List Int
  | [] => []
  | c :: rp => c :: rs (stk rp) c
theorem mem_rs {l : List Int} {x y : Int} : y ∈ rs l x ↔ y ∈ l ∧ y ≠ x := by
  simp [rs]
theorem stk_nodup : ∀ (rp : List Int), (stk rp).Nodup
  | [] => List.nodup_nil
  | c :: rp => List.nodup_cons.2 ⟨by simp [mem_rs], (stk_nodup rp).filter _⟩
def adds (m l : List Int) : List Int := l.foldl mins m
theorem mem_mins {m : List Int} {x y : Int} : y ∈ mins m x ↔ y = x ∨ y ∈ m := by
  unfold mins
  split
  · rename_i h
    exact ⟨.inr, fun h' => h'.elim (fun e => e ▸ h) id⟩
  · rw [List.mem_append, List.mem_singleton]; exact Or.comm
theorem dcs_congr : ∀ {t s s' : List Int}, (∀ y, y ∈ s ↔ y ∈ s') → dcs s t = dcs s' t
  | [], _, _, _ => rfl
  | x :: t, s, s', h => by
    simp only [dcs, h x]
    rw [dcs_congr (t := t) (s := x :: s) (s' := x :: s') fun y => by simp [h y]]
theorem adds_dcs : ∀ (t m : List Int), (adds m t).length = m.length + dcs m t
  | [], m => rfl
  | x :: t, m => by
    show (adds (mins m x) t).length = _
    rw [adds_dcs t, dcs_congr (s' := x :: m) fun y => by rw [mem_mins, List.mem_cons]]
    simp only [dcs, mins]
    by_cases h : x ∈ m
    · rw [if_pos h, show b2 (x ∉ m) = 0 from if_neg (fun e => e h)]; omega
    · rw [if_neg h, show b2 (x ∉ m) = 1 from if_pos h]; simp; omega
def cells (t : List Int) : Nat := (adds [] t).length
theorem cells_dcs (t : List Int) : cells t = dcs [] t := by simp [cells, adds_dcs]
def lru (size : Nat) : List Int → List Int → Nat
  | _, [] => 0
  | rp, c :: t => b2 (c ∉ (stk rp).take size) + lru size (c :: rp) t
theorem take_rs {x : Int} : ∀ {l : List Int} {n : Nat} {y : Int}, l.Nodup → y ∈ (rs l x).take n → y ∈ l.take (n + 1) ∧ y ≠ x
  | [], n, y, _, h => by simp [rs] at h
  | a :: l, 0, y, _, h => by simp at h
  | a :: l, n + 1, y, hn, h => by
    rw [List.nodup_cons] at hn
    by_cases e : a = x
    · subst e
      have h1 : rs (a :: l) a = rs l a := by simp [rs]
      rw [h1, rs_not hn.1] at h
      refine ⟨?_, fun e => hn.1 (e ▸ List.mem_of_mem_take h)⟩
      rw [List.take_succ_cons]
      exact List.mem_cons_of_mem _ h
    · have h1 : rs (a :: l) x = a :: rs l x := by simp [rs, e]
      rw [h1, List.take_succ_cons, List.mem_cons] at h
      rw [List.take_succ_cons]
      rcases h with h | h
      · exact ⟨h ▸ List.mem_cons_self, h ▸ e⟩
      · have h2 := take_rs (l := l) (n := n) hn.2 h
        exact ⟨List.mem_cons_of_mem _ h2.1, h2.2⟩
theorem lru_pol (size : Nat) : ∀ (t rp : List Int), Pol size ((stk rp).take size) t (lru size rp t)
  | [], rp => .nil _
  | c :: t, rp => by
    refine Pol.cons _ ((stk (c :: rp)).take size) c t _ ((List.take_sublist _ _).nodup (stk_nodup _)) (by simp; omega) (fun y hy => ?_) (lru_pol size t (c :: rp))
    cases size with
    | zero => simp at hy
    | succ n =>
      simp only [stk, List.take_succ_cons, List.mem_cons] at hy
      exact hy.imp id fun h => (take_rs (stk_nodup rp) h).1
theorem best_le_lru {size : Nat} {t : List Int} {n : Nat} (h : Bel size [] t n) : n ≤ lru size [] t := by
  have := bel_le (Nat.le_refl size) (d := 0) h (lru_pol size t []) List.nodup_nil (by simp [stk]) (by simp) (fun τ => by simp [stk, cnt])
  omega
theorem best_eq {size : Nat} {t : List Int} {n m : Nat} (h : Bel size [] t n) (h' : Bel size [] t m) : n = m := by
  have h1 := bel_le (Nat.le_refl size) (d := 0) h (bel_pol h' List.nodup_nil (by simp)) List.nodup_nil List.nodup_nil (by simp) (fun τ => by omega)
  have h2 := bel_le (Nat.le_refl size) (d := 0) h' (bel_pol h List.nodup_nil (by simp)) List.nodup_nil List.nodup_nil (by simp) (fun τ => by omega)
  omega
theorem best_mono {size : Nat} {t : List Int} {n m : Nat} (h : Bel size [] t n) (h' : Bel (size + 1) [] t m) : m ≤ n := by
  have := bel_le (Nat.le_succ size) (d := 0) h' (bel_pol h List.nodup_nil (by simp)) List.nodup_nil List.nodup_nil (by simp) (fun τ => by omega)
  omega
theorem best_cells {size : Nat} {t : List Int} {n : Nat} (h : Bel size [] t n) : cells t ≤ n := by
  rw [cells_dcs]
  exact pol_dcs (bel_pol h List.nodup_nil (by simp)) (fun _ h => h)
end Go.LN.Pb
