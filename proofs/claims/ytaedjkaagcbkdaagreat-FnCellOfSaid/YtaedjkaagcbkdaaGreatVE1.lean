/- Values: good arrays; cells are within, and distinct. -/
import Derived.Test.YtaedjkaagcbkdaaGreatXCellOf
import Derived.Test.YtaedjkaagcbkdaaGreatVC3
namespace Go.LN
set_option linter.unusedVariables false
set_option linter.unusedSimpArgs false
def DA (x : zJ) : Prop := (∃ d, x.Dims = [d] ∧ 1 ≤ d ∧ d ≤ 6) ∨ ∃ d e, x.Dims = [d, e] ∧ (1 ≤ d ∧ d ≤ 6) ∧ 1 ≤ e ∧ e ≤ 6
def GA (l : List zJ) : Prop := l.length ≤ 4 ∧ (∀ x ∈ l, DA x) ∧ l.Pairwise fun x y => x.Name.l ≠ y.Name.l
theorem mul36 {d e : Int} (h1 : 1 ≤ d) (h2 : d ≤ 6) (h3 : 1 ≤ e) (h4 : e ≤ 6) : 1 ≤ d * e ∧ d * e ≤ 36 := by
  have : d = 1 ∨ d = 2 ∨ d = 3 ∨ d = 4 ∨ d = 5 ∨ d = 6 := by omega
  rcases this with rfl | rfl | rfl | rfl | rfl | rfl <;> omega
theorem size_1 {x : zJ} {d : Int} (h : x.Dims = [d]) (h1 : 1 ≤ d) (h2 : d ≤ 6) : sizeF x = d := by
  unfold sizeF
  rw [h, szL, szL, Int.one_mul, sR (by omega) (by omega)]
theorem size_2 {x : zJ} {d e : Int} (h : x.Dims = [d, e]) (h1 : 1 ≤ d) (h2 : d ≤ 6) (h3 : 1 ≤ e) (h4 : e ≤ 6) : sizeF x = d * e := by
  unfold sizeF
  have := mul36 h1 h2 h3 h4
  rw [h, szL, szL, szL, Int.one_mul, sR (x := d) (by omega) (by omega), sR (by omega) (by omega)]
theorem DA.size {x : zJ} (h : DA x) : 1 ≤ sizeF x ∧ sizeF x ≤ 36 := by
  rcases h with ⟨d, h, h1, h2⟩ | ⟨d, e, h, ⟨h1, h2⟩, h3, h4⟩
  · rw [size_1 h h1 h2]; omega
  · rw [size_2 h h1 h2 h3 h4]; exact mul36 h1 h2 h3 h4
def sumS : List zJ → Int
  | [] => 0
  | x :: l => sizeF x + sumS l
theorem sumS_rng : ∀ {l : List zJ}, (∀ x ∈ l, DA x) → 0 ≤ sumS l ∧ sumS l ≤ 36 * (l.length : Int)
  | [], _ => ⟨Int.le_refl _, Int.le_refl _⟩
  | x :: l, h => by
    have h1 := (h x (List.mem_cons_self ..)).size
    have h2 := sumS_rng (l := l) fun y hy => h y (List.mem_cons_of_mem _ hy)
    rw [sumS, List.length_cons]; omega
theorem tot_sum : ∀ {l : List zJ} {n : Int}, (∀ x ∈ l, DA x) → 0 ≤ n → n + 36 * (l.length : Int) ≤ 1000000 → totL l n = n + sumS l
  | [], n, _, _, _ => by rw [totL, sumS]; omega
  | x :: l, n, h, h0, h1 => by
    have hs := (h x (List.mem_cons_self ..)).size
    rw [List.length_cons] at h1
    rw [totL, sR (by omega) (by omega), tot_sum (fun y hy => h y (List.mem_cons_of_mem _ hy)) (by omega) (by omega), sumS]; omega
theorem lt_chain {n : Nat} {f : Nat → Nat} (h : ∀ i, i + 1 < n → f i < f (i + 1)) : ∀ (d i : Nat), i + d + 1 < n → f i < f (i + d + 1)
  | 0, i, hi => h i hi
  | d + 1, i, hi => Nat.lt_trans (lt_chain h d i (by omega)) (h (i + d + 1) hi)
theorem name_one {l : List UInt8} (h : nameL l = true) : ∃ c, l = [c] := by
  match l with
  | [] => cases h
  | [c] => exact ⟨c, rfl⟩
  | c :: d :: r => cases h
def nm (l : List zJ) (i : Nat) : Nat := match (l.getD i ⟨⟨[]⟩, []⟩).Name.l with | c :: _ => c.toNat | [] => 0
theorem arr_good {l : List zJ} (h : arrB l = true) : GA l := by
  simp only [arrB, Bool.and_eq_true, decide_eq_true_eq] at h
  obtain ⟨h4, hall⟩ := h
  have hi : ∀ i, i < l.length → arrI l i = true := fun i hi => List.all_eq_true.1 hall i (List.mem_range.2 hi)
  refine ⟨h4, fun x hx => ?_, ?_⟩
  · obtain ⟨i, hi', rfl⟩ := List.mem_iff_getElem.1 hx
    have := hi i hi'
    have hg : l.getD i ⟨⟨[]⟩, []⟩ = l[i] := by simp [hi']
    simp only [arrI, hg, Bool.and_eq_true, decide_eq_true_eq] at this
    obtain ⟨⟨_, h1, h2⟩, h3⟩ := this
    have h3 := List.all_eq_true.1 h3
    match hd : l[i].Dims with
    | [] => rw [hd] at h1; simp at h1
    | [d] =>
      have := h3 d (by rw [hd]; simp)
      simp only [dimB, Bool.and_eq_true, decide_eq_true_eq] at this
      exact .inl ⟨d, hd, this⟩
    | [d, e] =>
      have k1 := h3 d (by rw [hd]; simp)
      have k2 := h3 e (by rw [hd]; simp)
      simp only [dimB, Bool.and_eq_true, decide_eq_true_eq] at k1 k2
      exact .inr ⟨d, e, hd, k1, k2⟩
    | d :: e :: f :: r => rw [hd] at h2; simp at h2
  · have hlt : ∀ i, i + 1 < l.length → nm l i < nm l (i + 1) := by
      intro i hi1
      have a1 := hi i (by omega)
      have a2 := hi (i + 1) hi1
      simp only [arrI, Bool.and_eq_true, Bool.or_eq_true, decide_eq_true_eq] at a1 a2
      obtain ⟨c, hc⟩ := name_one a1.1.1.1
      obtain ⟨d, hd⟩ := name_one a2.1.1.1
      have hb := a2.1.1.2
      rw [show i + 1 - 1 = i by omega] at hb
      unfold nm
      rw [hc, hd] at hb
      rw [hc, hd]
      rcases hb with hb | hb
      · omega
      · simp only [Op.bytesLess, Bool.and_false, Bool.or_false, decide_eq_true_eq] at hb
        exact hb
    refine List.pairwise_iff_getElem.2 fun i j hi1 hj1 hij e => ?_
    have hk := lt_chain (n := l.length) (f := nm l) hlt (j - i - 1) i (by omega)
    rw [show i + (j - i - 1) + 1 = j by omega] at hk
    have g1 : l.getD i ⟨⟨[]⟩, []⟩ = l[i] := by simp [hi1]
    have g2 : l.getD j ⟨⟨[]⟩, []⟩ = l[j] := by simp [hj1]
    unfold nm at hk
    rw [g1, g2, e] at hk
    exact Nat.lt_irrefl _ hk
theorem valid_good {P : zZ} (h : validP P = true) : GA P.Arrays := by
  simp only [validP, progB, Bool.and_eq_true] at h
  exact arr_good h.1.1.1
theorem valid_tot {P : zZ} (h : validP P = true) : totL P.Arrays 0 = sumS P.Arrays ∧ 0 ≤ sumS P.Arrays ∧ sumS P.Arrays ≤ 144 := by
  obtain ⟨h1, h2, _⟩ := valid_good h
  have := sumS_rng h2
  rw [tot_sum h2 (Int.le_refl _) (by omega)]
  omega
/-! Cells. -/
theorem cellS1 {p : List Int} {d : Int} {s : zA} (h1 : 1 ≤ d) (h2 : d ≤ 6) : cellS p [d] [s] 0 = if 0 ≤ evA s p ∧ evA s p < d then some (evA s p) else none := by
  rw [cellS]
  by_cases h : 0 ≤ evA s p ∧ evA s p < d
  · rw [if_pos h, if_pos h, cellS, Int.zero_mul, sR (x := 0) (by omega) (by omega), sR (by omega) (by omega), Int.zero_add]
  · rw [if_neg h, if_neg h]
theorem cellS2 {p : List Int} {d e : Int} {s t : zA} (h1 : 1 ≤ d) (h2 : d ≤ 6) (h3 : 1 ≤ e) (h4 : e ≤ 6) : cellS p [d, e] [s, t] 0 = if 0 ≤ evA s p ∧ evA s p < d then (if 0 ≤ evA t p ∧ evA t p < e then some (evA s p * e + evA t p) else none) else none := by
  rw [cellS]
  by_cases h : 0 ≤ evA s p ∧ evA s p < d
  · rw [if_pos h, if_pos h, cellS, Int.zero_mul, sR (x := 0) (by omega) (by omega), sR (x := 0 + evA s p) (by omega) (by omega), Int.zero_add]
    by_cases hk : 0 ≤ evA t p ∧ evA t p < e
    · have hm : 0 ≤ evA s p * e ∧ evA s p * e ≤ 36 := by
        have : evA s p = 0 ∨ evA s p = 1 ∨ evA s p = 2 ∨ evA s p = 3 ∨ evA s p = 4 ∨ evA s p = 5 := by omega
        rcases this with e | e | e | e | e | e <;> rw [e] <;> omega
      rw [if_pos hk, if_pos hk, cellS, sR (x := evA s p * e) (by omega) (by omega), sR (by omega) (by omega)]
    · rw [if_neg hk, if_neg hk]
  · rw [if_neg h, if_neg h]
theorem cellS1_some {p : List Int} {d n : Int} {s : zA} (h1 : 1 ≤ d) (h2 : d ≤ 6) (h : cellS p [d] [s] 0 = some n) : (0 ≤ evA s p ∧ evA s p < d) ∧ n = evA s p := by
  rw [cellS1 h1 h2] at h
  by_cases k : 0 ≤ evA s p ∧ evA s p < d
  · rw [if_pos k] at h; exact ⟨k, (Option.some.inj h).symm⟩
  · rw [if_neg k] at h; cases h
theorem cellS2_some {p : List Int} {d e n : Int} {s t : zA} (h1 : 1 ≤ d) (h2 : d ≤ 6) (h3 : 1 ≤ e) (h4 : e ≤ 6) (h : cellS p [d, e] [s, t] 0 = some n) : (0 ≤ evA s p ∧ evA s p < d) ∧ (0 ≤ evA t p ∧ evA t p < e) ∧ n = evA s p * e + evA t p := by
  rw [cellS2 h1 h2 h3 h4] at h
  by_cases k : 0 ≤ evA s p ∧ evA s p < d
  · rw [if_pos k] at h
    by_cases l : 0 ≤ evA t p ∧ evA t p < e
    · rw [if_pos l] at h; exact ⟨k, l, (Option.some.inj h).symm⟩
    · rw [if_neg l] at h; cases h
  · rw [if_neg k] at h; cases h
theorem rows_lt {d e i j : Int} (hi : 0 ≤ i ∧ i < d) (hd : d ≤ 6) (hj : 0 ≤ j ∧ j < e) (he : e ≤ 6) : 0 ≤ i * e + j ∧ i * e + j < d * e := by
  have h1 : i = 0 ∨ i = 1 ∨ i = 2 ∨ i = 3 ∨ i = 4 ∨ i = 5 := by omega
  have h2 : d = 1 ∨ d = 2 ∨ d = 3 ∨ d = 4 ∨ d = 5 ∨ d = 6 := by omega
  rcases h1 with rfl | rfl | rfl | rfl | rfl | rfl <;> rcases h2 with rfl | rfl | rfl | rfl | rfl | rfl <;> omega
theorem one_sub {l : List zA} {d : Int} (h : l.length = [d].length) : ∃ s, l = [s] := by
  match l with
  | [] => cases h
  | [s] => exact ⟨s, rfl⟩
  | a :: b :: r => simp at h
theorem two_sub {l : List zA} {d e : Int} (h : l.length = [d, e].length) : ∃ s t, l = [s, t] := by
  match l with
  | [] => cases h
  | [s] => cases h
  | [s, t] => exact ⟨s, t, rfl⟩
  | a :: b :: c :: r => simp at h
theorem cellS_rng {x : zJ} {subs : List zA} {p : List Int} {n : Int} (h : DA x) (hl : subs.length = x.Dims.length) (hc : cellS p x.Dims subs 0 = some n) : 0 ≤ n ∧ n < sizeF x := by
  rcases h with ⟨d, h, h1, h2⟩ | ⟨d, e, h, ⟨h1, h2⟩, h3, h4⟩
  · rw [h] at hl hc
    obtain ⟨s, rfl⟩ := one_sub hl
    rw [size_1 h h1 h2]
    rw [cellS1 h1 h2] at hc
    split at hc
    · cases hc; assumption
    · cases hc
  · rw [h] at hl hc
    obtain ⟨s, t, rfl⟩ := two_sub hl
    rw [size_2 h h1 h2 h3 h4]
    rw [cellS2 h1 h2 h3 h4] at hc
    split at hc
    · split at hc
      · cases hc
        exact rows_lt ‹_› h2 ‹_› h4
      · cases hc
    · cases hc
theorem cell_rng (a : zK) (p : List Int) : ∀ (l : List zJ) (first : Int), (∀ x ∈ l, DA x) → 0 ≤ first → first + sumS l ≤ 1000000 → cellF a p l first = -1 ∨ (first ≤ cellF a p l first ∧ cellF a p l first < first + sumS l)
  | [], first, _, _, _ => .inl rfl
  | x :: l, first, h, h0, h1 => by
    have hx := h x (List.mem_cons_self ..)
    have hs := hx.size
    have hl := sumS_rng (l := l) fun y hy => h y (List.mem_cons_of_mem _ hy)
    rw [sumS] at h1 ⊢
    rw [cellF]
    by_cases hn : x.Name.l = a.Array.l
    · rw [if_pos hn]
      by_cases hd : a.Subs.length = x.Dims.length
      · rw [if_pos hd]
        cases hc : cellS p x.Dims a.Subs 0 with
        | none => exact .inl rfl
        | some n =>
          have := cellS_rng hx hd hc
          refine .inr ?_
          dsimp only
          rw [sR (by omega) (by omega)]; omega
      · rw [if_neg hd]; exact .inl rfl
    · rw [if_neg hn, sR (by omega) (by omega)]
      rcases cell_rng a p l (first + sizeF x) (fun y hy => h y (List.mem_cons_of_mem _ hy)) (by omega) (by omega) with k | k
      · exact .inl k
      · exact .inr (by omega)
theorem cell_lt {P : zZ} (h : validP P = true) (a : zK) (p : List Int) : -1 ≤ cellF a p P.Arrays 0 ∧ cellF a p P.Arrays 0 < totL P.Arrays 0 := by
  obtain ⟨h1, h2, h3⟩ := valid_tot h
  rcases cell_rng a p P.Arrays 0 (valid_good h).2.1 (Int.le_refl _) (by omega) with k | k <;> omega
/-! A subscript one greater leads elsewhere. -/
theorem W_add (a b : Int) : W (W a + b) = W (a + b) := by
  show IntKind.i64.wrap (IntKind.i64.wrap a + b) = IntKind.i64.wrap (a + b)
  rw [IntKind.wrap_i64, IntKind.wrap_i64, IntKind.wrap_i64]; omega
theorem evC_succ : ∀ (C p : List Int) (n : Int), evC C p (W (n + 1)) = W (evC C p n + 1)
  | [], p, n => by rw [zHA, zHA]
  | c :: C, [], n => rfl
  | c :: C, x :: p, n => by
    rw [evC, evC, W_add, show n + 1 + W (c * x) = (n + W (c * x)) + 1 by omega, ← evC_succ C p (W (n + W (c * x))), W_add]
theorem cell_ne {a b : zK} {p : List Int} {k : Nat} {s t : zA} (hk : k < a.Subs.length) (hs : a.Subs[k] = s) (ht : evA t p = W (evA s p + 1)) (hb : b.Array = a.Array) (hb2 : b.Subs = a.Subs.set k t) : ∀ (l : List zJ) (first : Int), (∀ x ∈ l, DA x) → 0 ≤ first → first + 36 * (l.length : Int) ≤ 1000000 → 0 ≤ cellF a p l first → cellF b p l first = -1 ∨ cellF b p l first ≠ cellF a p l first
  | [], first, _, _, _, _ => .inl rfl
  | x :: l, first, h, h0, h1, hc => by
    have hx := h x (List.mem_cons_self ..)
    have hsz := hx.size
    rw [List.length_cons] at h1
    rw [cellF] at hc
    rw [cellF, cellF]
    by_cases hn : x.Name.l = a.Array.l
    · rw [if_pos hn] at hc
      rw [if_pos (by rw [hb]; exact hn), if_pos hn]
      by_cases hd : a.Subs.length = x.Dims.length
      · have hd' : b.Subs.length = x.Dims.length := by rw [hb2, List.length_set]; exact hd
        rw [if_pos hd] at hc
        rw [if_pos hd', if_pos hd]
        cases q2 : cellS p x.Dims b.Subs 0 with
        | none => exact .inl rfl
        | some m =>
          cases q1 : cellS p x.Dims a.Subs 0 with
          | none => rw [q1] at hc; dsimp only at hc; omega
          | some n =>
            have r1 := cellS_rng hx hd q1
            have r2 := cellS_rng hx hd' q2
            refine .inr ?_
            dsimp only
            rw [sR (by omega) (by omega), sR (by omega) (by omega)]
            have hmn : m ≠ n := by
              rw [hb2] at q2
              clear hc hb2 hd' h r1 r2
              rcases hx with ⟨d, hd0, d1, d2⟩ | ⟨d, e, hd0, ⟨d1, d2⟩, e1, e2⟩
              · rw [hd0] at hd q1 q2
                obtain ⟨u, hu⟩ := one_sub hd
                obtain ⟨A, S⟩ := a
                dsimp only at hu
                subst hu
                have hk0 : k = 0 := by simp at hk; omega
                subst hk0
                dsimp only [List.getElem_cons_zero] at hs
                subst hs
                rw [List.set_cons_zero] at q2
                have c1 := cellS1_some d1 d2 q1
                have c2 := cellS1_some d1 d2 q2
                rw [c1.2, c2.2, ht, sR (by omega) (by omega)]; omega
              · rw [hd0] at hd q1 q2
                obtain ⟨u, v, hu⟩ := two_sub hd
                obtain ⟨A, S⟩ := a
                dsimp only at hu
                subst hu
                have hk0 : k = 0 ∨ k = 1 := by simp at hk; omega
                rcases hk0 with hk0 | hk0
                · subst hk0
                  dsimp only [List.getElem_cons_zero] at hs
                  subst hs
                  rw [List.set_cons_zero] at q2
                  have c1 := cellS2_some d1 d2 e1 e2 q1
                  have c2 := cellS2_some d1 d2 e1 e2 q2
                  rw [c1.2.2, c2.2.2, ht, sR (by omega) (by omega), Int.add_mul, Int.one_mul]; omega
                · subst hk0
                  dsimp only [List.getElem_cons_succ, List.getElem_cons_zero] at hs
                  subst hs
                  rw [List.set_cons_succ, List.set_cons_zero] at q2
                  have c1 := cellS2_some d1 d2 e1 e2 q1
                  have c2 := cellS2_some d1 d2 e1 e2 q2
                  rw [c1.2.2, c2.2.2, ht, sR (by omega) (by omega)]; omega
            omega
      · rw [if_neg hd] at hc; exact absurd hc (by decide)
    · rw [if_neg hn] at hc
      rw [if_neg (by rw [hb]; exact hn), if_neg hn]
      rw [sR (by omega) (by omega)] at hc ⊢
      exact cell_ne hk hs ht hb hb2 l _ (fun y hy => h y (List.mem_cons_of_mem _ hy)) (by omega) (by omega) hc
end Go.LN
