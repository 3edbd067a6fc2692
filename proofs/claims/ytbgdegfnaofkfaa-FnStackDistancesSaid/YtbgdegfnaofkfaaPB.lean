/- Caches in plain words: the policy that drops the cell used latest misses no more than any other policy. -/
namespace Go.LN.Pb
set_option linter.unusedVariables false
set_option linter.unusedSimpArgs false
def nx : List Int → Int → Nat
  | [], _ => 0
  | x :: t, c => if c = x then 0 else nx t c + 1
def b2 (p : Prop) [Decidable p] : Nat := if p then 1 else 0
theorem nodup_sub {l : List Int} : ∀ {m : List Int}, l.Nodup → (∀ y ∈ l, y ∈ m) → l.length ≤ m.length := by
  induction l with
  | nil => intro m _ _; simp
  | cons a l ih =>
    intro m hn hs
    rw [List.nodup_cons] at hn
    have ha : a ∈ m := hs a List.mem_cons_self
    have h1 : l.length ≤ (m.erase a).length := ih hn.2 fun y hy => by
      have hya : y ≠ a := fun e => hn.1 (e ▸ hy)
      exact (List.mem_erase_of_ne hya).2 (hs y (List.mem_cons_of_mem _ hy))
    have h2 : (m.erase a).length = m.length - 1 := List.length_erase_of_mem ha
    have h3 : 0 < m.length := List.length_pos_of_mem ha
    simp only [List.length_cons]
    omega
def rs (h : List Int) (x : Int) : List Int := h.filter (fun y => decide (y ≠ x))
theorem nodup_snoc {h : List Int} {x : Int} (hn : h.Nodup) (hx : x ∉ h) : (h ++ [x]).Nodup := by
  rw [List.nodup_append]
  refine ⟨hn, by simp, ?_⟩
  intro a ha b hb e
  rw [List.mem_singleton] at hb
  exact hx (hb ▸ e ▸ ha)
theorem rs_not {h : List Int} {x : Int} (hx : x ∉ h) : rs h x = h := by
  unfold rs
  rw [List.filter_eq_self]
  intro y hy
  simp only [ne_eq, decide_not, Bool.not_eq_eq_eq_not, Bool.not_true, decide_eq_false_iff_not]
  exact fun e => hx (e ▸ hy)
def dcs : List Int → List Int → Nat
  | _, [] => 0
  | seen, x :: t => b2 (x ∉ seen) + dcs (x :: seen) t
end Go.LN.Pb
