/- Values: orders are permutations (the plain part). -/
import Derived.Test.YtaedjkaagcbkdaaGreatXOrderValid
import Derived.Test.YtaedjkaagcbkdaaGreatVE1
namespace Go.LN
set_option linter.unusedVariables false
set_option linter.unusedSimpArgs false
def permL (n : Nat) : List Int → List Bool → Bool
  | [], _ => true
  | x :: l, seen => if 0 ≤ x ∧ x < (n : Int) ∧ seen.getD x.toNat true = false then permL n l (seen.set x.toNat true) else false
theorem getD_self (s : List Bool) (i : Nat) : (s.set i true).getD i true = true := by
  rw [List.getD_eq_getElem?_getD, List.getElem?_set]
  by_cases h : i < s.length <;> simp [h]
theorem getD_other (s : List Bool) {i j : Nat} (h : i ≠ j) : (s.set i true).getD j true = s.getD j true := by
  rw [List.getD_eq_getElem?_getD, List.getElem?_set, if_neg h, ← List.getD_eq_getElem?_getD]
theorem perm_iff (n : Nat) : ∀ (l : List Int) (seen : List Bool), permL n l seen = true ↔ (∀ x ∈ l, 0 ≤ x ∧ x < (n : Int) ∧ seen.getD x.toNat true = false) ∧ l.Nodup
  | [], seen => by simp [permL]
  | x :: l, seen => by
    rw [permL]
    by_cases hx : 0 ≤ x ∧ x < (n : Int) ∧ seen.getD x.toNat true = false
    · rw [if_pos hx, perm_iff n l _, List.nodup_cons]
      constructor
      · rintro ⟨h1, h2⟩
        refine ⟨fun y hy => ?_, fun hm => ?_, h2⟩
        · rcases List.mem_cons.1 hy with e | hy
          · rw [e]; exact hx
          · obtain ⟨k1, k2, k3⟩ := h1 y hy
            refine ⟨k1, k2, ?_⟩
            by_cases e : x.toNat = y.toNat
            · rw [e, getD_self] at k3; cases k3
            · rwa [getD_other _ e] at k3
        · have := (h1 x hm).2.2
          rw [getD_self] at this; cases this
      · rintro ⟨h1, h2, h3⟩
        refine ⟨fun y hy => ?_, h3⟩
        obtain ⟨k1, k2, k3⟩ := h1 y (List.mem_cons_of_mem _ hy)
        refine ⟨k1, k2, ?_⟩
        have e : x.toNat ≠ y.toNat := fun e => by
          have : x = y := by have := hx.1; omega
          exact h2 (this ▸ hy)
        rw [getD_other _ e]; exact k3
    · rw [if_neg hx]
      constructor
      · intro h; cases h
      · rintro ⟨h1, _⟩
        exact absurd (h1 x (List.mem_cons_self ..)) hx
def permB (n : Nat) (l : List Int) : Bool := permL n l (List.replicate n false) && decide (l.length = n)
theorem permB_iff (n : Nat) (l : List Int) : permB n l = true ↔ ((∀ x ∈ l, 0 ≤ x ∧ x < (n : Int)) ∧ l.Nodup) ∧ l.length = n := by
  unfold permB
  rw [Bool.and_eq_true, perm_iff, decide_eq_true_eq]
  constructor
  · rintro ⟨⟨h1, h2⟩, h3⟩
    exact ⟨⟨fun x hx => ⟨(h1 x hx).1, (h1 x hx).2.1⟩, h2⟩, h3⟩
  · rintro ⟨⟨h1, h2⟩, h3⟩
    refine ⟨⟨fun x hx => ⟨(h1 x hx).1, (h1 x hx).2, ?_⟩, h2⟩, h3⟩
    have := h1 x hx
    have hlt : x.toNat < n := by omega
    rw [List.getD_eq_getElem?_getD, List.getElem?_replicate, if_pos hlt]; rfl
theorem nodup_get {l : List Int} (h : l.Nodup) {i j : Nat} (hi : i < l.length) (hj : j < l.length) (e : l[i] = l[j]) : i = j := by
  have h := List.pairwise_iff_getElem.1 h
  rcases Nat.lt_trichotomy i j with k | k | k
  · exact absurd e (h i j hi hj k)
  · exact k
  · exact absurd e.symm (h j i hj hi k)
def swp (l : List Int) (k : Nat) (a b : Int) : List Int := (l.set k b).set (k + 1) a
theorem swp_get {l : List Int} {k : Nat} (h : k + 1 < l.length) {i : Nat} (hi : i < l.length) : ∃ j, ∃ hj : j < l.length, (swp l k l[k] l[k + 1])[i]? = some l[j] ∧ j = (if i = k then k + 1 else if i = k + 1 then k else i) := by
  unfold swp
  by_cases h1 : i = k
  · subst h1
    refine ⟨i + 1, h, ?_, by simp⟩
    rw [List.getElem?_set, if_neg (by omega), List.getElem?_set, if_pos rfl, if_pos hi]
  · by_cases h2 : i = k + 1
    · subst h2
      refine ⟨k, by omega, ?_, by simp⟩
      rw [List.getElem?_set, if_pos rfl, if_pos (by rw [List.length_set]; exact hi)]
    · refine ⟨i, hi, ?_, by simp [h1, h2]⟩
      rw [List.getElem?_set, if_neg (by omega), List.getElem?_set, if_neg (by omega), List.getElem?_eq_getElem hi]
theorem perm_swap {n : Nat} {l : List Int} {k : Nat} (h : k + 1 < l.length) (hp : permB n l = true) : permB n (swp l k l[k] l[k + 1]) = true := by
  rw [permB_iff] at hp ⊢
  obtain ⟨⟨h1, h2⟩, h3⟩ := hp
  have hlen : (swp l k l[k] l[k + 1]).length = l.length := by unfold swp; rw [List.length_set, List.length_set]
  refine ⟨⟨fun x hx => ?_, ?_⟩, by rw [hlen]; exact h3⟩
  · obtain ⟨i, hi, rfl⟩ := List.mem_iff_getElem.1 hx
    obtain ⟨j, hj, e, _⟩ := swp_get h (i := i) (by omega)
    rw [List.getElem?_eq_getElem hi] at e
    rw [Option.some.inj e]
    exact h1 _ (List.getElem_mem hj)
  · refine List.pairwise_iff_getElem.2 fun i j hi hj hij e => ?_
    obtain ⟨a, ha, e1, a1⟩ := swp_get h (i := i) (by omega)
    obtain ⟨b, hb, e2, b1⟩ := swp_get h (i := j) (by omega)
    rw [List.getElem?_eq_getElem hi] at e1
    rw [List.getElem?_eq_getElem hj] at e2
    have := nodup_get h2 ha hb (by rw [← Option.some.inj e1, ← Option.some.inj e2]; exact e)
    rw [a1, b1] at this
    split at this <;> split at this <;> (try split at this) <;> (try split at this) <;> omega
theorem perm_dup {n : Nat} {l : List Int} {k : Nat} (h : k + 1 < l.length) : permB n (l.set k l[k + 1]) = false := by
  cases hb : permB n (l.set k l[k + 1]) with
  | false => rfl
  | true =>
    rw [permB_iff] at hb
    have := nodup_get hb.1.2 (i := k) (j := k + 1) (by rw [List.length_set]; omega) (by rw [List.length_set]; omega) (by rw [List.getElem_set_self, List.getElem_set_ne (by omega)])
    omega
end Go.LN
