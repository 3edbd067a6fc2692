/- Values: good arrays; cells are within, and distinct. -/
import Derived.Test.YtaedjkaagcbkdaaGreatXMemoryValid
import Derived.Test.YtaedjkaagcbkdaaGreatVC3
namespace Go.LN
set_option linter.unusedVariables false
set_option linter.unusedSimpArgs false
def DA (x : zJ) : Prop := (∃ d, x.Dims = [d] ∧ 1 ≤ d ∧ d ≤ 6) ∨ ∃ d e, x.Dims = [d, e] ∧ (1 ≤ d ∧ d ≤ 6) ∧ 1 ≤ e ∧ e ≤ 6
def GA (l : List zJ) : Prop := l.length ≤ 4 ∧ (∀ x ∈ l, DA x) ∧ l.Pairwise fun x y => x.Name.l ≠ y.Name.l
theorem mul36 {d e : Int} (h1 : 1 ≤ d) (h2 : d ≤ 6) (h3 : 1 ≤ e) (h4 : e ≤ 6) : 1 ≤ d * e ∧ d * e ≤ 36 := by
  have : d = 1 ∨ d = 2 ∨ d = 3 ∨ d = 4 ∨ d = 5 ∨ d = 6 := by omega
  rcases this with rfl | rfl | rfl | rfl | rfl | rfl <;> omega
theorem size_1 {x : zJ} {d : Int} (h : x.Dims = [d]) (h1 : 1 ≤ d) (h2 : d ≤ 6) : sizeF x = d := by
  unfold sizeF
  rw [h, szL, szL, Int.one_mul, sR (by omega) (by omega)]
theorem size_2 {x : zJ} {d e : Int} (h : x.Dims = [d, e]) (h1 : 1 ≤ d) (h2 : d ≤ 6) (h3 : 1 ≤ e) (h4 : e ≤ 6) : sizeF x = d * e := by
  unfold sizeF
  have := mul36 h1 h2 h3 h4
  rw [h, szL, szL, szL, Int.one_mul, sR (x := d) (by omega) (by omega), sR (by omega) (by omega)]
theorem DA.size {x : zJ} (h : DA x) : 1 ≤ sizeF x ∧ sizeF x ≤ 36 := by
  rcases h with ⟨d, h, h1, h2⟩ | ⟨d, e, h, ⟨h1, h2⟩, h3, h4⟩
  · rw [size_1 h h1 h2]; omega
  · rw [size_2 h h1 h2 h3 h4]; exact mul36 h1 h2 h3 h4
def sumS : List zJ → Int
  | [] => 0
  | x :: l => sizeF x + sumS l
theorem sumS_rng : ∀ {l : List zJ}, (∀ x ∈ l, DA x) → 0 ≤ sumS l ∧ sumS l ≤ 36 * (l.length : Int)
  | [], _ => ⟨Int.le_refl _, Int.le_refl _⟩
  | x :: l, h => by
    have h1 := (h x (List.mem_cons_self ..)).size
    have h2 := sumS_rng (l := l) fun y hy => h y (List.mem_cons_of_mem _ hy)
    rw [sumS, List.length_cons]; omega
theorem tot_sum : ∀ {l : List zJ} {n : Int}, (∀ x ∈ l, DA x) → 0 ≤ n → n + 36 * (l.length : Int) ≤ 1000000 → totL l n = n + sumS l
  | [], n, _, _, _ => by rw [totL, sumS]; omega
  | x :: l, n, h, h0, h1 => by
    have hs := (h x (List.mem_cons_self ..)).size
    rw [List.length_cons] at h1
    rw [totL, sR (by omega) (by omega), tot_sum (fun y hy => h y (List.mem_cons_of_mem _ hy)) (by omega) (by omega), sumS]; omega
theorem lt_chain {n : Nat} {f : Nat → Nat} (h : ∀ i, i + 1 < n → f i < f (i + 1)) : ∀ (d i : Nat), i + d + 1 < n → f i < f (i + d + 1)
  | 0, i, hi => h i hi
  | d + 1, i, hi => Nat.lt_trans (lt_chain h d i (by omega)) (h (i + d + 1) hi)
theorem name_one {l : List UInt8} (h : nameL l = true) : ∃ c, l = [c] := by
  match l with
  | [] => cases h
  | [c] => exact ⟨c, rfl⟩
  | c :: d :: r => cases h
def nm (l : List zJ) (i : Nat) : Nat := match (l.getD i ⟨⟨[]⟩, []⟩).Name.l with | c :: _ => c.toNat | [] => 0
theorem arr_good {l : List zJ} (h : arrB l = true) : GA l := by
  simp only [arrB, Bool.and_eq_true, decide_eq_true_eq] at h
  obtain ⟨h4, hall⟩ := h
  have hi : ∀ i, i < l.length → arrI l i = true := fun i hi => List.all_eq_true.1 hall i (List.mem_range.2 hi)
  refine ⟨h4, fun x hx => ?_, ?_⟩
  · obtain ⟨i, hi', rfl⟩ := List.mem_iff_getElem.1 hx
    have := hi i hi'
    have hg : l.getD i ⟨⟨[]⟩, []⟩ = l[i] := by simp [hi']
    simp only [arrI, hg, Bool.and_eq_true, decide_eq_true_eq] at this
    obtain ⟨⟨_, h1, h2⟩, h3⟩ := this
    have h3 := List.all_eq_true.1 h3
    match hd : l[i].Dims with
    | [] => rw [hd] at h1; simp at h1
    | [d] =>
      have := h3 d (by rw [hd]; simp)
      simp only [dimB, Bool.and_eq_true, decide_eq_true_eq] at this
      exact .inl ⟨d, hd, this⟩
    | [d, e] =>
      have k1 := h3 d (by rw [hd]; simp)
      have k2 := h3 e (by rw [hd]; simp)
      simp only [dimB, Bool.and_eq_true, decide_eq_true_eq] at k1 k2
      exact .inr ⟨d, e, hd, k1, k2⟩
    | d :: e :: f :: r => rw [hd] at h2; simp at h2
  · have hlt : ∀ i, i + 1 < l.length → nm l i < nm l (i + 1) := by
      intro i hi1
      have a1 := hi i (by omega)
      have a2 := hi (i + 1) hi1
      simp only [arrI, Bool.and_eq_true, Bool.or_eq_true, decide_eq_true_eq] at a1 a2
      obtain ⟨c, hc⟩ := name_one a1.1.1.1
      obtain ⟨d, hd⟩ := name_one a2.1.1.1
      have hb := a2.1.1.2
      rw [show i + 1 - 1 = i by omega] at hb
      unfold nm
      rw [hc, hd] at hb
      rw [hc, hd]
      rcases hb with hb | hb
      · omega
      · simp only [Op.bytesLess, Bool.and_false, Bool.or_false, decide_eq_true_eq] at hb
        exact hb
    refine List.pairwise_iff_getElem.2 fun i j hi1 hj1 hij e => ?_
    have hk := lt_chain (n := l.length) (f := nm l) hlt (j - i - 1) i (by omega)
    rw [show i + (j - i - 1) + 1 = j by omega] at hk
    have g1 : l.getD i ⟨⟨[]⟩, []⟩ = l[i] := by simp [hi1]
    have g2 : l.getD j ⟨⟨[]⟩, []⟩ = l[j] := by simp [hj1]
    unfold nm at hk
    rw [g1, g2, e] at hk
    exact Nat.lt_irrefl _ hk
theorem valid_good {P : zZ} (h : validP P = true) : GA P.Arrays := by
  simp only [validP, progB, Bool.and_eq_true] at h
  exact arr_good h.1.1.1
theorem valid_tot {P : zZ} (h : validP P = true) : totL P.Arrays 0 = sumS P.Arrays ∧ 0 ≤ sumS P.Arrays ∧ sumS P.Arrays ≤ 144 := by
  obtain ⟨h1, h2, _⟩ := valid_good h
  have := sumS_rng h2
  rw [tot_sum h2 (Int.le_refl _) (by omega)]
  omega
/-! Cells. -/
/-! A subscript one greater leads elsewhere. -/
end Go.LN
