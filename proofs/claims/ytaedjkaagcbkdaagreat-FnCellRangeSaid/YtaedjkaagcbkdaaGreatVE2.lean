/- Values: the cells of an array one after the other. -/
import Derived.Test.YtaedjkaagcbkdaaGreatXCellRange
import Derived.Test.YtaedjkaagcbkdaaGreatVE1
namespace Go.LN
set_option linter.unusedVariables false
set_option linter.unusedSimpArgs false
def c0 (n : Int) : zA := ⟨[0, 0, 0, 0], n⟩
theorem ok_c0 {n : Int} (h1 : 0 ≤ n) (h2 : n ≤ 99) : okA 4 (c0 n) = true := by
  have h3 : (-99 : Int) ≤ n := by omega
  simp [okA, validB, constB, coefB, depF, depL, c0, h2, h3]
theorem ev_c0 (n : Int) : evA (c0 n) [] = n := rfl
theorem sumS_app : ∀ (l m : List zJ), sumS (l ++ m) = sumS l + sumS m
  | [], m => by rw [List.nil_append, sumS, Int.zero_add]
  | x :: l, m => by rw [List.cons_append, sumS, sumS, sumS_app l m, Int.add_assoc]
theorem valid_name {P : zZ} (h : validP P = true) : ∀ x ∈ P.Arrays, nameL x.Name.l = true := by
  simp only [validP, progB, Bool.and_eq_true] at h
  have h := h.1.1.1
  simp only [arrB, Bool.and_eq_true, decide_eq_true_eq] at h
  intro x hx
  obtain ⟨i, hi, rfl⟩ := List.mem_iff_getElem.1 hx
  have := List.all_eq_true.1 h.2 i (List.mem_range.2 hi)
  have hg : P.Arrays.getD i ⟨⟨[]⟩, []⟩ = P.Arrays[i] := by simp [hi]
  simp only [arrI, hg, Bool.and_eq_true] at this
  exact this.1.1.1
theorem at_cell {P : zZ} (hv : validP P = true) {i : Nat} (hi : i < P.Arrays.length) {subs : List zA} {n : Int} (hl : subs.length = P.Arrays[i].Dims.length) (hc : cellS [] P.Arrays[i].Dims subs 0 = some n) (h0 : 0 ≤ n) (h1 : n < 36) : cellF ⟨P.Arrays[i].Name, subs⟩ [] P.Arrays 0 = sumS (P.Arrays.take i) + n := by
  obtain ⟨g1, g2, g3⟩ := valid_good hv
  have hsp : P.Arrays = P.Arrays.take i ++ P.Arrays[i] :: P.Arrays.drop (i + 1) := by
    rw [← List.drop_eq_getElem_cons hi, List.take_append_drop]
  have hda : ∀ y ∈ P.Arrays.take i, DA y := fun y hy => g2 y (List.mem_of_mem_take hy)
  have hne : ∀ y ∈ P.Arrays.take i, y.Name.l ≠ P.Arrays[i].Name.l := by
    intro y hy
    obtain ⟨j, hj, rfl⟩ := List.mem_iff_getElem.1 hy
    rw [List.getElem_take]
    rw [List.length_take] at hj
    exact List.pairwise_iff_getElem.1 g3 j i (by omega) hi (by omega)
  have hlen : (P.Arrays.take i).length ≤ 4 := by rw [List.length_take]; omega
  have hs := sumS_rng hda
  have := cell_at ⟨P.Arrays[i].Name, subs⟩ [] P.Arrays[i] (P.Arrays.drop (i + 1)) (P.Arrays.take i) 0 hda hne (Int.le_refl _) (by omega) rfl hl
  rw [← hsp, hc] at this
  dsimp only at this
  rw [this, Int.zero_add, sR (by omega) (by omega)]
theorem range_1 {P : zZ} (hv : validP P = true) {i : Nat} (hi : i < P.Arrays.length) {d c : Int} (hd : P.Arrays[i].Dims = [d]) (h0 : 0 ≤ c) (h1 : c < sizeF P.Arrays[i]) : accB ⟨P.Arrays[i].Name, [c0 c]⟩ 4 = true ∧ cellF ⟨P.Arrays[i].Name, [c0 c]⟩ [] P.Arrays 0 = sumS (P.Arrays.take i) + c := by
  have hx := (valid_good hv).2.1 _ (List.getElem_mem hi)
  have hn := valid_name hv _ (List.getElem_mem hi)
  have hsz := hx.size
  refine ⟨by simp [accB, hn, ok_c0 h0 (show c ≤ 99 by omega)], at_cell hv hi (by rw [hd]; rfl) ?_ h0 (by omega)⟩
  rcases hx with ⟨d', h, k1, k2⟩ | ⟨d', e, h, _⟩
  · rw [hd] at h; injection h with h; subst h
    rw [size_1 hd k1 k2] at h1
    rw [hd, cellS1 k1 k2, ev_c0, if_pos ⟨h0, h1⟩]
  · rw [hd] at h; cases h
theorem div_rows {c d e : Int} (h0 : 0 ≤ c) (h1 : c < d * e) (hd : 1 ≤ d) (hd2 : d ≤ 6) (he : 1 ≤ e) (he2 : e ≤ 6) : (0 ≤ c.tdiv e ∧ c.tdiv e < d) ∧ (0 ≤ c.tmod e ∧ c.tmod e < e) ∧ c.tdiv e * e + c.tmod e = c := by
  rw [Int.tdiv_eq_ediv_of_nonneg h0, Int.tmod_eq_emod_of_nonneg h0]
  have : e = 1 ∨ e = 2 ∨ e = 3 ∨ e = 4 ∨ e = 5 ∨ e = 6 := by omega
  rcases this with rfl | rfl | rfl | rfl | rfl | rfl <;> omega
theorem range_2 {P : zZ} (hv : validP P = true) {i : Nat} (hi : i < P.Arrays.length) {d e c : Int} (hd : P.Arrays[i].Dims = [d, e]) (h0 : 0 ≤ c) (h1 : c < sizeF P.Arrays[i]) : e ≠ 0 ∧ (0 ≤ c.tdiv e ∧ c.tdiv e ≤ 6) ∧ accB ⟨P.Arrays[i].Name, [c0 (c.tdiv e), c0 (c.tmod e)]⟩ 4 = true ∧ cellF ⟨P.Arrays[i].Name, [c0 (c.tdiv e), c0 (c.tmod e)]⟩ [] P.Arrays 0 = sumS (P.Arrays.take i) + c := by
  have hx := (valid_good hv).2.1 _ (List.getElem_mem hi)
  have hn := valid_name hv _ (List.getElem_mem hi)
  have hsz := hx.size
  rcases hx with ⟨d', h, _⟩ | ⟨d', e', h, ⟨k1, k2⟩, k3, k4⟩
  · rw [hd] at h; cases h
  · rw [hd] at h; injection h with h h'; injection h' with h'; subst h; subst h'
    rw [size_2 hd k1 k2 k3 k4] at h1
    obtain ⟨m1, m2, m3⟩ := div_rows h0 h1 k1 k2 k3 k4
    have hm36 := mul36 k1 k2 k3 k4
    refine ⟨by omega, by omega, by simp [accB, hn, ok_c0 m1.1 (show c.tdiv e ≤ 99 by omega), ok_c0 m2.1 (show c.tmod e ≤ 99 by omega)], at_cell hv hi (by rw [hd]; rfl) ?_ h0 (by omega)⟩
    rw [hd, cellS2 k1 k2 k3 k4, ev_c0, ev_c0, if_pos m1, if_pos m2, m3]
end Go.LN
