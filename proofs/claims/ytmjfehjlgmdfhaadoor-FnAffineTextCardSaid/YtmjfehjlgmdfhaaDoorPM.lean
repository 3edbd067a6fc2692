/- The law of affine texts holds. -/
import Derived.Test.YtmjfehjlgmdfhaaDoorPL2
namespace Go.LN
set_option linter.unusedVariables false
set_option linter.unusedSimpArgs false
def CB (l : List Int) : Prop := ∀ c ∈ l, coefB c = true
theorem CB.set {l : List Int} {y : Int} {m : List Int} (h : CB l) (hy : y ∈ m) (hm : m.all coefB = true) (k : Nat) : CB (l.set k y) := all_set h (List.all_eq_true.1 hm y hy) k
theorem drawB_aux (depth : Int) (h0 : 0 ≤ depth) (h1 : depth ≤ 4) : ∀ (k : Nat) (i : Int) (o : List Int) (r : spec_l16Rd), Tot (M.spec_l1Draw_l1 depth i o r) (depth - i < (k : Int) ∧ 0 < (k : Int) ∧ 0 ≤ i ∧ i ≤ 4 ∧ o.length = 4 ∧ CB o ∧ 0 ≤ r.p ∧ r.p ≤ 900000000 + i) (fun φ => ∀ a s, a.length = 4 → CB a → r.p ≤ s.p → s.p ≤ r.p + 4 - i → φ (a, s)) := by
  intro k
  induction k with
  | zero => intro i o r; exact ⟨fun h => absurd h.2.1 (by omega)⟩
  | succ k ih =>
    intro i o r; refine ⟨?_⟩; rintro ⟨v0, v1, v2, v3, v4, vb, v5, v6⟩ φ hk; unfold M.spec_l1Draw_l1
    refine Ok.ite_dec (fun h => ?_) fun h => Ok.pure (hk _ _ v4 vb (by omega) (by omega))
    refine Ok.call (l16Rd_num_tot _ _) ⟨by decide, v5, by omega, by decide⟩ fun y s g1 g2 g3 => ?_
    refine Ok.idx v2 (by omega) fun x _ _ => Ok.bind_pure ?_
    rw [W_id (by omega) (by omega)]
    refine Ok.last (ih _ _ _) ⟨by omega, by omega, by omega, by omega, by rw [List.length_set]; exact v4, vb.set g1 (by decide) _, by omega, by omega⟩ fun a s g4 g5 g6 g7 => hk a s g4 g5 (by omega) (by omega)
theorem drawB (r : spec_l16Rd) (depth : Int) : Tot (M.spec_l1Draw r depth) (0 ≤ r.p ∧ r.p ≤ 800000000 ∧ 0 ≤ depth ∧ depth ≤ 4) (fun φ => ∀ a s, validB a = true → r.p ≤ s.p → s.p ≤ r.p + 10 → φ (a, s)) := ⟨by
  rintro ⟨h0, h1, h2, h3⟩ φ hk
  unfold M.spec_l1Draw
  refine Ok.call (l16Rd_num_tot _ _) ⟨by decide, h0, by omega, by decide⟩ fun y s g1 g2 g3 => ?_
  refine Ok.call (l1Const_tot y) trivial ?_
  refine Ok.call (drawB_aux depth h2 h3 ((depth - 0).toNat + 1) 0 [0, 0, 0, 0] s) ⟨by omega, by omega, by omega, by omega, rfl, by unfold CB; decide, by omega, by omega⟩ fun a s' g4 g5 g6 g7 => Ok.pure (hk _ _ ?_ (by omega) (by omega))
  have hy : constB y = true := List.all_eq_true.1 (show ([0, 1, (-1), 2, 0, 5, (-9), 99] : List Int).all constB = true by decide) y g1
  unfold validB
  simp only [Bool.and_eq_true, decide_eq_true_eq]
  exact ⟨⟨g4, hy⟩, List.all_eq_true.2 g5⟩⟩
theorem valid_len {a : impl_Affine} (h : validB a = true) : a.Coefs.length = 4 := by
  simp only [validB, Bool.and_eq_true, decide_eq_true_eq] at h
  exact h.1.1
theorem mutate_tot (r : spec_l16Rd) (a : impl_Affine) (h0 : 0 ≤ r.p) (h1 : r.p ≤ 800000000) (h2 : a.Coefs.length = 4) : Ok (M.spec_l1Mutate r a) (fun y => y.1.Coefs.length ≤ 100) := by
  unfold M.spec_l1Mutate
  refine Ok.app (by simp; omega) ?_
  rw [List.nil_append]
  refine Ok.call (pick_tot r 40) ⟨h0, by omega⟩ fun y s g1 g2 g3 => ?_
  have key : ∀ (x : Option (Out (List Int × Int × impl_Affine × spec_l16Rd) (impl_Affine × spec_l16Rd))), Ok x (fun o => match o with | .ret r0 => r0.1.Coefs.length ≤ 100 | .done d => d.1.length ≤ 100) →
      Ok (do
        match ← x with
        | .ret r0 => pure r0
        | .done (Coefs, Const, x, x1) => pure ((impl_Affine.mk Coefs Const), x1) : Option (impl_Affine × spec_l16Rd)) (fun y => y.1.Coefs.length ≤ 100) := by
    intro x hx
    refine Ok.bind hx fun o ho => ?_
    cases o with
    | ret r0 => exact Ok.pure ho
    | done d => obtain ⟨d1, d2, d3, d4⟩ := d; exact Ok.pure ho
  refine key _ ?_
  refine Ok.ite_beq (fun _ => ?_) fun _ => ?_
  · refine Ok.call (l16Rd_num_tot _ _) ⟨by decide, by omega, by omega, by decide⟩ fun y s g1 g2 g3 => Ok.pure (by show a.Coefs.length ≤ 100; omega)
  have key2 : ∀ (x : Option (Out (impl_Affine × List Int × spec_l16Rd) (impl_Affine × spec_l16Rd))), Ok x (fun o => match o with | .ret r0 => r0.1.Coefs.length ≤ 100 | .done d => d.2.1.length ≤ 100) →
      Ok (do
        match ← x with
        | .ret r0 => pure (.ret r0)
        | .done (x2, Coefs1, x3) => pure (.done (Coefs1, a.Const, x2, x3)) : Option (Out (List Int × Int × impl_Affine × spec_l16Rd) (impl_Affine × spec_l16Rd))) (fun o => match o with | .ret r0 => r0.1.Coefs.length ≤ 100 | .done d => d.1.length ≤ 100) := by
    intro x hx
    refine Ok.bind hx fun o ho => ?_
    cases o with
    | ret r0 => exact Ok.pure ho
    | done d => obtain ⟨d1, d2, d3⟩ := d; exact Ok.pure ho
  refine key2 _ ?_
  refine Ok.ite_beq (fun _ => ?_) fun _ => ?_
  · exact Ok.app (by simp; omega) (Ok.pure (by show (a.Coefs ++ [0]).length ≤ 100; simp; omega))
  have key3 : ∀ (x : Option (Out (impl_Affine × List Int × spec_l16Rd) (impl_Affine × spec_l16Rd))), Ok x (fun o => match o with | .ret r0 => r0.1.Coefs.length ≤ 100 | .done d => d.2.1.length ≤ 100) →
      Ok (do
        match ← x with
        | .ret r0 => pure (.ret r0)
        | .done (x4, Coefs2, x5) => pure (.done (x4, Coefs2, x5)) : Option (Out (impl_Affine × List Int × spec_l16Rd) (impl_Affine × spec_l16Rd))) (fun o => match o with | .ret r0 => r0.1.Coefs.length ≤ 100 | .done d => d.2.1.length ≤ 100) := by
    intro x hx
    refine Ok.bind hx fun o ho => ?_
    cases o with
    | ret r0 => exact Ok.pure ho
    | done d => obtain ⟨d1, d2, d3⟩ := d; exact Ok.pure ho
  refine key3 _ ?_
  refine Ok.ite_beq (fun _ => ?_) fun _ => ?_
  · refine Ok.bind (φ := fun p : List Int × spec_l16Rd => p.1.length ≤ 100) ?_ fun p hp => ?_
    · refine Ok.ite_dec (fun h => ?_) fun h => Ok.pure (by show a.Coefs.length ≤ 100; omega)
      refine Ok.call (l16Rd_num_tot _ _) ⟨by decide, by omega, by omega, by decide⟩ fun y s g1 g2 g3 => ?_
      refine Ok.idx (by omega) (by omega) fun x _ _ => Ok.bind_pure (Ok.pure (by show (List.set _ _ _).length ≤ 100; rw [List.length_set]; omega))
    · obtain ⟨p1, p2⟩ := p
      exact Ok.pure hp
  · refine Ok.ite_beq (fun _ => Ok.pure (by show ([] : List Int).length ≤ 100; simp)) fun _ => Ok.pure (by show a.Coefs.length ≤ 100; omega)
theorem drawFormat (code : List UInt8) : Ok (M.spec_DrawFormatAffine code) (fun y => y.Coefs.length ≤ 100) := by
  unfold M.spec_DrawFormatAffine M.spec_DrawAffineValid
  refine Ok.bind (φ := fun y => y.Coefs.length ≤ 100) ?_ fun y hy => Ok.pure hy
  refine Ok.call (l16Open_tot code) trivial fun s hs => ?_
  refine Ok.call (pick_tot s 5) ⟨by omega, by omega⟩ fun y s1 g1 g2 g3 => ?_
  refine Ok.call (drawB s1 y) ⟨by omega, by omega, by omega, by omega⟩ fun a s2 g4 g5 g6 => ?_
  refine Ok.bind (mutate_tot s2 a (by omega) (by omega) (valid_len g4)) fun p hp => ?_
  obtain ⟨p1, p2⟩ := p
  exact Ok.pure hp
theorem asc_take {l : List UInt8} (h : asc l = true) (n : Nat) : asc (l.take n) = true := by
  rw [← List.take_append_drop n l] at h
  exact (asc_app h).1
theorem asc_dropn {l : List UInt8} (h : asc l = true) (n : Nat) : asc (l.drop n) = true := by
  rw [← List.take_append_drop n l] at h
  exact (asc_app h).2
def bits8 : List Str := [(⟨[]⟩ : Str), (⟨[43]⟩ : Str), (⟨[45]⟩ : Str), (⟨[105]⟩ : Str), (⟨[48]⟩ : Str), (⟨[42]⟩ : Str), (⟨[49]⟩ : Str), (⟨[107]⟩ : Str)]
theorem bits8_ok : ∀ x ∈ bits8, asc x.l = true ∧ x.l.length ≤ 1 := by decide
theorem bend_tot (r : spec_l16Rd) (s : Str) (h0 : 0 ≤ r.p) (h1 : r.p ≤ 800000000) (hs : asc s.l = true) (hl : s.l.length ≤ 1000) : Ok (M.spec_l1Bend r s bits8) (fun y => asc y.1.l = true ∧ y.1.l.length ≤ 10000) := by
  unfold M.spec_l1Bend
  refine Ok.bind (φ := fun p : Bool × spec_l16Rd => (p.1 = false → 0 < s.l.length) ∧ 0 ≤ p.2.p ∧ p.2.p ≤ 800000010) ?_ fun p hp => ?_
  · refine Ok.ite_beq (fun _ => Ok.pure ⟨fun h => (by cases h), h0, (by show r.p ≤ _; omega)⟩) fun h => ?_
    refine Ok.call (pick_tot r 2) ⟨h0, by omega⟩ fun y s1 g1 g2 g3 => Ok.pure ⟨fun _ => by omega, by show 0 ≤ s1.p; omega, by show s1.p ≤ _; omega⟩
  · obtain ⟨b, r1⟩ := p
    simp only at hp
    cases b with
    | true => exact Ok.ite_tt (Ok.pure ⟨hs, by show s.l.length ≤ 10000; omega⟩)
    | false =>
      have hpos := hp.1 rfl
      refine Ok.ite_ff ?_
      refine Ok.call (pick_tot r1 _) ⟨hp.2.1, by omega⟩ fun y s1 g1 g2 g3 => ?_
      have hy : y < (s.l.length : Int) := by rcases g2 with h | h <;> omega
      refine Ok.sslc (by omega) (by omega) (by omega) fun m1 e1 l1 => ?_
      refine Ok.call (l16Rd_of_tot s1 bits8) ⟨by decide, by omega, by omega⟩ fun y7 s2 g4 g5 => ?_
      obtain ⟨a7, l7⟩ := bits8_ok y7 g4
      refine Ok.cat (by omega) fun m2 e2 l2 => ?_
      refine Ok.call (pick_tot s2 2) ⟨by omega, by omega⟩ fun y10 s3 g6 g7 g8 => ?_
      dsimp only
      rw [W_id (by omega) (by omega)]
      refine Ok.sslc (by omega) (by omega) (by omega) fun m3 e3 l3 => ?_
      refine Ok.cat (by omega) fun m4 e4 l4 => Ok.pure ⟨?_, by show m4.l.length ≤ _; omega⟩
      show asc m4.l = true
      rw [e4, e2, e1, e3]
      exact asc_join (asc_join (asc_dropn (asc_take hs _) _) a7) (asc_dropn (asc_take hs _) _)
theorem drawParse (code : List UInt8) : Ok (M.spec_DrawParseAffine code) (fun y => asc y.l = true ∧ y.l.length ≤ 10000) := by
  unfold M.spec_DrawParseAffine
  refine Ok.call (l16Open_tot code) trivial fun s hs => ?_
  refine Ok.call (pick_tot s 5) ⟨by omega, by omega⟩ fun y s1 g1 g2 g3 => ?_
  refine Ok.call (drawB s1 y) ⟨by omega, by omega, by omega, by omega⟩ fun a s2 g4 g5 g6 => ?_
  dsimp only
  rw [spec_text a g4]
  refine Ok.bind_some ?_
  have hl := tx_len g4
  refine Ok.bind (bend_tot s2 ⟨tx a⟩ (by omega) (by omega) (tx_asc g4) (by show (tx a).length ≤ _; omega)) fun p hp => ?_
  obtain ⟨p1, p2⟩ := p
  exact Ok.pure hp
theorem equal_l1 (s : List Int) (hs : s.length ≤ 1048576) : ∀ j k, k + j = s.length → M.slices_Equal_int_int_l1 s s (k : Int) = some (.done ()) := by
  intro j
  induction j with
  | zero =>
    intro k hk
    rw [M.slices_Equal_int_int_l1]
    have : ¬ ((k : Int) < (s.length : Int)) := by omega
    simp [this]
  | succ j ih =>
    intro k hk
    rw [M.slices_Equal_int_int_l1]
    have hlt : k < s.length := by omega
    have h1 : ((k : Int) < (s.length : Int)) := by omega
    simp only [h1, decide_true, if_true, idx_nat, List.getElem?_eq_getElem hlt, Option.bind_eq_bind, Option.bind_some, bne_self_eq_false, Bool.false_eq_true, if_false]
    rw [W_succ (by omega)]
    exact ih (k + 1) (by omega)
theorem same_refl (a : impl_Affine) (h : a.Coefs.length ≤ 1048576) : M.impl_AffineSame a a = some true := by
  unfold M.impl_AffineSame M.slices_Equal_int_int
  have := equal_l1 a.Coefs h _ 0 (Nat.zero_add _)
  rw [Int.natCast_zero] at this
  rw [this]
  simp
theorem ResA.uniq {t : List UInt8} {r r' : impl_Affine × Bool} (h : ResA t r) (h' : ResA t r') : r = r' := by
  obtain ⟨a, b⟩ := r
  obtain ⟨a', b'⟩ := r'
  rcases h with ⟨h1, h2, h3⟩ | ⟨h1, h2, h3⟩ <;> rcases h' with ⟨k1, k2, k3⟩ | ⟨k1, k2, k3⟩ <;> simp only at h1 h2 h3 k1 k2 k3
  · subst h1 k1
    rw [tx_inj h2 k2 (h3.symm.trans k3)]
  · exact absurd h3 (k3 _ h2)
  · exact absurd k3 (h3 _ k2)
  · rw [h1, h2, k1, k2]
theorem law_AffineText (code more : List UInt8) : ∃ r, M.laws_FnAffineText code more = some r ∧ r = true := by
  obtain ⟨y, hy, hyl⟩ := drawFormat code
  obtain ⟨t, ht, hta, htl⟩ := drawParse more
  have hf := implFormat y (by omega)
  have hg := specFormat y (by omega)
  obtain ⟨r, hr, hres⟩ := implParse (if validB y then ⟨tx y⟩ else ⟨[]⟩) (by
      cases hv : validB y with
      | true => exact tx_asc hv
      | false => rfl) (by
      cases hv : validB y with
      | true => have := tx_len hv; show (tx y).length ≤ _; omega
      | false => show ([] : List UInt8).length ≤ _; simp)
  obtain ⟨p, hp, hpres⟩ := implParse t hta (by omega)
  obtain ⟨q, hq, hqres⟩ := specParse t (by omega)
  have hpq := hpres.uniq hqres
  subst hpq
  obtain ⟨r1, r2⟩ := r
  obtain ⟨p1, p2⟩ := p
  unfold M.laws_FnAffineText
  refine ⟨true, ?_, rfl⟩
  have htop : ∀ x : Option Bool, x = some true → (do
      let t21 ← (do
        if (decide ((code.length : Int) > 1048576)) then
         pure true
        else
         pure (decide ((more.length : Int) > 1048576))
          : Option Bool)
      if t21 then pure true else x : Option Bool) = some true := by
    intro x hx
    rw [hx]
    by_cases h1 : (code.length : Int) > 1048576 <;> by_cases h2 : (more.length : Int) > 1048576 <;> simp [h1, h2]
  refine htop _ ?_
  simp only [hy, hf, hg, hr, ht, hp, hq, implValid y (by omega), specValid y (by omega), Option.pure_def, Option.bind_eq_bind, Option.bind_some]
  have h56 : r2 = validB y ∧ (validB y = true → r1 = y) := by
    cases hv : validB y with
    | true =>
      rw [hv] at hres
      rcases hres with ⟨h1, h2, h3⟩ | ⟨h1, h2, h3⟩
      · exact ⟨h1, fun _ => (tx_inj hv h2 h3).symm⟩
      · exact absurd rfl (h3 y hv)
    | false =>
      rw [hv] at hres
      rcases hres with ⟨h1, h2, h3⟩ | ⟨h1, h2, h3⟩
      · exact absurd h3.symm (tx_ne _ h2)
      · exact ⟨h1, fun h => by cases h⟩
  obtain ⟨e2, e1⟩ := h56
  have ht56 : (if (!(if validB y = true then (⟨tx y⟩ : Str) else ⟨[]⟩).l == (if validB y = true then (⟨tx y⟩ : Str) else ⟨[]⟩).l) = true then some true
      else if (!validB y == validB y) = true then some true else if (!r2 == validB y) = true then some true
      else if r2 = true then Option.bind (M.impl_AffineSame r1 y) fun y9 => some (!y9) else some false) = some false := by
    rw [e2]
    cases hv : validB y with
    | true => rw [e1 hv]; simp [same_refl y (by omega)]
    | false => simp
  have hlast : (if (p2 == p2) = true then Option.bind (M.impl_AffineSame p1 p1) fun y17 => if y17 = true then (if (!p2) = true then some true else Option.bind (M.impl_FormatAffine p1) fun y18 => some (y18.l == t.l)) else some false else some false) = some true := by
    rcases hpres with ⟨h1, h2, h3⟩ | ⟨h1, h2, h3⟩ <;> simp only at h1 h2 h3
    · have hl := valid_len h2
      rw [same_refl p1 (by omega), implFormat p1 (by omega), h1, h2, h3]
      simp
    · rw [h1, h2, same_refl _ (by simp)]
      rfl
  refine Eq.trans (congrArg (fun o : Option Bool => o.bind fun t56 => if t56 = true then some false else _) ht56) ?_
  exact congrArg (fun o : Option Bool => o.bind fun t4 => some (id t4)) hlast
end Go.LN
