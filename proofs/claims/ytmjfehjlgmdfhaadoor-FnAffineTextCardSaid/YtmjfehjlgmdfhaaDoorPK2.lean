/- The program's ParseAffine answers with the expression of a text, or refuses. -/
import Derived.Test.YtmjfehjlgmdfhaaDoorPK
namespace Go.LN
set_option linter.unusedVariables false
set_option linter.unusedSimpArgs false
open Lib (itoa decDigits)
theorem bodyV_all : ∀ (k : Fin 10) (i : Fin 4), 1 ≤ k.val → numOf (bodyV k.val i.val) = some (k.val : Int) ∧ nameOf (bodyV k.val i.val) = [UInt8.ofNat (105 + i.val)] ∧ Lib.index ijkl [UInt8.ofNat (105 + i.val)] = (i.val : Int) ∧ (bodyV k.val i.val).all nsg = true ∧ asc (bodyV k.val i.val) = true := by decide +kernel
theorem dtx_all : ∀ (k : Fin 100), numOf (dtx k.val) = some (k.val : Int) ∧ nameOf (dtx k.val) = [] ∧ (dtx k.val).all nsg = true ∧ asc (dtx k.val) = true := by decide +kernel
def Hd (t : List UInt8) : Prop := t = [] ∨ ∃ s r, t = s :: r ∧ (s = 43 ∨ s = 45)
theorem take_body {body t : List UInt8} (hb : body.all nsg = true) (ht : Hd t) : (body ++ t).takeWhile nsg = body ∧ (body ++ t).dropWhile nsg = t := by
  induction body with
  | nil =>
    rcases ht with rfl | ⟨s, r, rfl, hs⟩
    · exact ⟨rfl, rfl⟩
    · have : nsg s = false := by rcases hs with rfl | rfl <;> rfl
      simp [this]
  | cons b body ih =>
    rw [List.all_cons, Bool.and_eq_true] at hb
    obtain ⟨i1, i2⟩ := ih hb.2
    rw [List.cons_append, List.takeWhile_cons, List.dropWhile_cons, hb.1]
    simp [i1, i2]
theorem Hd_T0 (cs : List Int) (i : Nat) (k : Int) : Hd (T0 cs i ++ TK k) := by
  rcases T0_head cs i with h | ⟨s, r, h, hs, _⟩
  · rw [h, List.nil_append]
    rcases TK_head k with h | ⟨s, r, h, hs, _⟩
    · exact .inl h
    · exact .inr ⟨s, r, h, hs⟩
  · exact .inr ⟨s, r ++ TK k, by rw [h]; rfl, hs⟩
theorem asc_T0 : ∀ (cs : List Int) (i : Nat), (∀ c ∈ cs, coefB c = true) → i + cs.length ≤ 4 → asc (T0 cs i) = true
  | [], _, _, _ => rfl
  | c :: cs, i, h, hi => by
    have h1 := h c (List.mem_cons_self ..)
    simp only [coefB, Bool.and_eq_true, decide_eq_true_eq] at h1
    simp only [List.length_cons] at hi
    have ih := asc_T0 cs (i + 1) (fun x hx => h x (List.mem_cons_of_mem _ hx)) (by omega)
    unfold T0
    by_cases h0 : c = 0
    · simpa [h0] using ih
    · have hb := (bodyV_all ⟨c.natAbs, by omega⟩ ⟨i, by omega⟩ (by show 1 ≤ c.natAbs; omega)).2.2.2.2
      have hsg : asc [sgn c] = true := by unfold sgn; split <;> rfl
      simp only [h0, if_false]
      unfold asc at hb ih hsg ⊢
      simp only [List.all_append, List.all_cons, List.all_nil, Bool.and_true] at hsg ⊢
      simp only at hb
      rw [hsg, hb, ih]; rfl
theorem asc_TK (k : Int) (h : constB k = true) : asc (TK k) = true := by
  simp only [constB, Bool.and_eq_true, decide_eq_true_eq] at h
  unfold TK
  split
  · rfl
  · have hb := (dtx_all ⟨k.natAbs, by omega⟩).2.2.2
    have hsg : asc [sgn k] = true := by unfold sgn; split <;> rfl
    unfold asc at hb hsg ⊢
    simp only [List.all_cons, List.all_nil, Bool.and_true] at hsg ⊢
    simp only at hb
    rw [hsg, hb]; rfl
theorem asc_join {a b : List UInt8} (h1 : asc a = true) (h2 : asc b = true) : asc (a ++ b) = true := by
  unfold asc at *
  rw [List.all_append, h1, h2]; rfl
theorem asc_strip {l : List UInt8} (h : asc l = true) : asc (strip l) = true := by
  unfold strip
  split
  · rfl
  · split
    · have : asc ([_] ++ _) = true := h
      exact (asc_app this).2
    · exact h
theorem tx_asc {a : impl_Affine} (ha : validB a = true) : asc (tx a) = true := by
  simp only [validB, Bool.and_eq_true, decide_eq_true_eq] at ha
  obtain ⟨⟨h4, hk⟩, hall⟩ := ha
  unfold tx
  split
  · rfl
  · exact asc_strip (asc_join (asc_T0 _ 0 (fun c hc => List.all_eq_true.1 hall c hc) (by omega)) (asc_TK _ hk))
theorem tx_len {a : impl_Affine} (ha : validB a = true) : (tx a).length ≤ 23 := by
  simp only [validB, Bool.and_eq_true, decide_eq_true_eq] at ha
  have h1 := T0_len a.Coefs 0
  have h2 := TK_len a.Const
  have h3 := strip_len (raw a)
  unfold tx
  split
  · simp
  · unfold raw at h3 ⊢
    rw [List.length_append] at h3
    omega
theorem unsign_sgn (c : Int) (u : List UInt8) : unsign (sgn c :: u) = u ∧ signOf (sgn c :: u) = if c < 0 then -1 else 1 := by
  unfold sgn
  by_cases h : c < 0 <;> simp [h, unsign, signOf, isSg]
theorem sign_mul (c : Int) (h : -100 ≤ c ∧ c ≤ 100) : W (0 + W ((if c < 0 then -1 else 1) * ((c.natAbs : Nat) : Int))) = c := by
  by_cases h0 : c < 0
  · simp only [h0, if_true]
    rw [W_id (x := (-1) * ((c.natAbs : Nat) : Int)) (by omega) (by omega), W_id (by omega) (by omega)]; omega
  · simp only [h0, if_false]
    rw [W_id (x := 1 * ((c.natAbs : Nat) : Int)) (by omega) (by omega), W_id (by omega) (by omega)]; omega
theorem impl_l1_nil (x : impl_Affine) (C : List Int) (K : Int) : M.impl_ParseAffine_l1 ⟨[]⟩ x C K = some (.done (x, C, K)) := by
  rw [M.impl_ParseAffine_l1]; rfl
theorem impl_l1_val (x : impl_Affine) (k : Int) (hk : constB k = true) : ∀ (cs pre : List Int), (∀ c ∈ cs, coefB c = true) → pre.length + cs.length = 4 →
    M.impl_ParseAffine_l1 ⟨T0 cs pre.length ++ TK k⟩ x (pre ++ List.replicate cs.length 0) 0 = some (.done (x, pre ++ cs, k)) := by
  intro cs
  induction cs with
  | nil =>
    intro pre hc hl
    simp only [T0, List.nil_append, List.length_nil, List.replicate_zero, List.append_nil] at hl ⊢
    have hka := asc_TK k hk
    have hkl := TK_len k
    simp only [constB, Bool.and_eq_true, decide_eq_true_eq] at hk
    by_cases h0 : k = 0
    · subst h0
      exact impl_l1_nil _ _ _
    · have e : TK k = sgn k :: (dtx k.natAbs ++ []) := by rw [TK, if_neg h0, List.append_nil]
      obtain ⟨f1, f2, f3, f4⟩ := dtx_all ⟨k.natAbs, by omega⟩
      simp only at f1 f2 f3 f4
      obtain ⟨t1, t2⟩ := take_body f3 (t := []) (.inl rfl)
      rw [gstep (TK k) (by rw [e]; simp) hka (by omega) _ _ _ (by omega), e]
      rw [(unsign_sgn k _).1, (unsign_sgn k _).2, t1, t2, f1]
      simp only [f2, if_true]
      rw [impl_l1_nil, sign_mul k (by omega)]
  | cons c cs ih =>
    intro pre hc hl
    have hc1 := hc c (List.mem_cons_self ..)
    have hc2 : ∀ y ∈ cs, coefB y = true := fun y hy => hc y (List.mem_cons_of_mem _ hy)
    have hasc := asc_join (asc_T0 (c :: cs) pre.length hc (by omega)) (asc_TK k hk)
    have hlen1 := T0_len (c :: cs) pre.length
    have hlen2 := TK_len k
    simp only [coefB, Bool.and_eq_true, decide_eq_true_eq] at hc1
    simp only [List.length_cons] at hl hlen1
    have ih' := ih (pre ++ [c]) hc2 (by simp; omega)
    rw [List.length_append, List.length_singleton, List.append_assoc, List.append_assoc] at ih'
    by_cases h0 : c = 0
    · subst h0
      simpa [T0, List.replicate_succ] using ih'
    · have e : T0 (c :: cs) pre.length ++ TK k = sgn c :: (bodyV c.natAbs pre.length ++ (T0 cs (pre.length + 1) ++ TK k)) := by
        rw [T0, if_neg h0, List.append_assoc, List.cons_append]
      obtain ⟨f1, f2, f3, f4, f5⟩ := bodyV_all ⟨c.natAbs, by omega⟩ ⟨pre.length, by omega⟩ (by show 1 ≤ c.natAbs; omega)
      simp only at f1 f2 f3 f4
      obtain ⟨t1, t2⟩ := take_body f4 (Hd_T0 cs (pre.length + 1) k)
      rw [gstep (T0 (c :: cs) pre.length ++ TK k) (by rw [e]; simp) hasc (by rw [List.length_append]; omega) _ _ _ (by simp; omega), e]
      rw [(unsign_sgn c _).1, (unsign_sgn c _).2, t1, t2, f1]
      simp only [f2, f3]
      rw [if_neg (by simp), if_pos ⟨by simp, by omega⟩, Int.toNat_natCast]
      have hg : (pre ++ List.replicate (cs.length + 1) (0 : Int)).getD pre.length 0 = 0 := by
        rw [List.getD_eq_getElem?_getD, List.getElem?_append_right (Nat.le_refl _), Nat.sub_self, List.replicate_succ]; rfl
      have hset : (pre ++ List.replicate (cs.length + 1) (0 : Int)).set pre.length c = pre ++ ([c] ++ List.replicate cs.length 0) := by
        rw [List.set_append_right _ _ (Nat.le_refl _), Nat.sub_self, List.replicate_succ]; rfl
      rw [List.length_cons, hg, sign_mul c (by omega), hset]
      exact ih'
theorem unplus (u : List UInt8) (hu : u ≠ []) (hh : unsign u = u) (hs : signOf u = 1) (ha : asc u = true) (hl : u.length ≤ 900) (x : impl_Affine) (C : List Int) (K : Int) (hC : C.length = 4) :
    M.impl_ParseAffine_l1 ⟨u⟩ x C K = M.impl_ParseAffine_l1 ⟨43 :: u⟩ x C K := by
  have h43 : asc (43 :: u) = true := asc_join (a := [43]) rfl ha
  rw [gstep u hu ha (by omega) C K x hC, gstep (43 :: u) (by simp) h43 (by simp; omega) C K x hC]
  have e1 : unsign (43 :: u) = u := rfl
  have e2 : signOf (43 :: u) = 1 := rfl
  rw [e1, e2, hh, hs]
theorem head_body (k : Nat) (b : List UInt8) (hb : b.all nsg = true) (hn : b ≠ []) (t : List UInt8) : unsign (b ++ t) = b ++ t ∧ signOf (b ++ t) = 1 := by
  cases b with
  | nil => exact absurd rfl hn
  | cons c r =>
    rw [List.all_cons, Bool.and_eq_true] at hb
    have h1 : isSg c = false := by have := hb.1; unfold nsg at this; simpa using this
    have h2 : c ≠ 45 := by rintro rfl; cases h1
    simp [unsign, signOf, h1, h2]
theorem raw_shape (a : impl_Affine) (ha : validB a = true) : raw a = [] ∨ ∃ (c : Int) (b t : List UInt8), raw a = sgn c :: (b ++ t) ∧ b.all nsg = true ∧ b ≠ [] := by
  simp only [validB, Bool.and_eq_true, decide_eq_true_eq] at ha
  obtain ⟨⟨h4, hk⟩, hall⟩ := ha
  have key : ∀ (cs : List Int) (i : Nat), (∀ c ∈ cs, coefB c = true) → i + cs.length = 4 → T0 cs i ++ TK a.Const = [] ∨ ∃ (c : Int) (b t : List UInt8), T0 cs i ++ TK a.Const = sgn c :: (b ++ t) ∧ b.all nsg = true ∧ b ≠ [] := by
    intro cs
    induction cs with
    | nil =>
      intro i _ _
      simp only [constB, Bool.and_eq_true, decide_eq_true_eq] at hk
      simp only [T0, List.nil_append]
      by_cases h0 : a.Const = 0
      · left; simp [TK, h0]
      · obtain ⟨f1, f2, f3, f4⟩ := dtx_all ⟨a.Const.natAbs, by omega⟩
        have := dtx_len a.Const.natAbs
        exact .inr ⟨a.Const, dtx a.Const.natAbs, [], by rw [TK, if_neg h0, List.append_nil], f3, by intro e; rw [e] at this; simp at this⟩
    | cons c cs ih =>
      intro i hc hi
      have hc1 := hc c (List.mem_cons_self ..)
      simp only [coefB, Bool.and_eq_true, decide_eq_true_eq] at hc1
      simp only [List.length_cons] at hi
      by_cases h0 : c = 0
      · rw [T0, if_pos h0, List.nil_append]
        exact ih (i + 1) (fun y hy => hc y (List.mem_cons_of_mem _ hy)) (by omega)
      · obtain ⟨f1, f2, f3, f4, f5⟩ := bodyV_all ⟨c.natAbs, by omega⟩ ⟨i, by omega⟩ (by show 1 ≤ c.natAbs; omega)
        have := bodyV_len c.natAbs i
        exact .inr ⟨c, bodyV c.natAbs i, T0 cs (i + 1) ++ TK a.Const, by rw [T0, if_neg h0, List.append_assoc, List.cons_append], f4, by intro e; rw [e] at this; simp at this⟩
  exact key a.Coefs 0 (fun c hc => List.all_eq_true.1 hall c hc) (by omega)
theorem impl_loop_tx (a : impl_Affine) (ha : validB a = true) (x : impl_Affine) : M.impl_ParseAffine_l1 ⟨tx a⟩ x [0, 0, 0, 0] 0 = some (.done (x, a.Coefs, a.Const)) := by
  have hv := ha
  simp only [validB, Bool.and_eq_true, decide_eq_true_eq] at hv
  obtain ⟨⟨h4, hk⟩, hall⟩ := hv
  have hval := impl_l1_val x a.Const hk a.Coefs [] (fun c hc => List.all_eq_true.1 hall c hc) (by simp [h4])
  simp only [List.length_nil, List.nil_append, h4] at hval
  have hrep : List.replicate 4 (0 : Int) = [0, 0, 0, 0] := rfl
  rw [hrep] at hval
  change M.impl_ParseAffine_l1 ⟨raw a⟩ x [0, 0, 0, 0] 0 = _ at hval
  have hta := tx_asc ha
  have htl := tx_len ha
  unfold tx at hta htl ⊢
  rcases raw_shape a ha with h | ⟨c, b, t, h, hb, hn⟩
  · rw [h, impl_l1_nil] at hval
    rw [if_pos h]
    have hg := gstep [48] (by simp) rfl (by simp) [0, 0, 0, 0] 0 x rfl
    have f1 : numOf ((unsign [48]).takeWhile nsg) = some 0 := by decide +kernel
    have f2 : nameOf ((unsign [48]).takeWhile nsg) = [] := by decide +kernel
    have f3 : (unsign [48]).dropWhile nsg = [] := by decide +kernel
    rw [hg, f1, f3]
    simp only [f2, if_true]
    rw [impl_l1_nil]
    rw [← hval]
    rfl
  · have hne : raw a ≠ [] := by rw [h]; simp
    rw [if_neg hne] at hta htl ⊢
    rw [h] at hval hta htl ⊢
    unfold strip at hta htl ⊢
    by_cases hc : c < 0
    · have e : sgn c = 45 := by unfold sgn; rw [if_pos hc]
      rw [e] at hval hta htl ⊢
      exact hval
    · have e : sgn c = 43 := by unfold sgn; rw [if_neg hc]
      rw [e] at hval hta htl ⊢
      simp only [if_true] at hta htl ⊢
      obtain ⟨g1, g2⟩ := head_body 0 b hb hn t
      rw [unplus (b ++ t) (by simp [hn]) g1 g2 hta (by omega) _ _ _ rfl]
      exact hval
theorem drop_lt (rest : List UInt8) (h : rest ≠ []) : ((unsign rest).dropWhile nsg).length < rest.length := by
  cases rest with
  | nil => exact absurd rfl h
  | cons b r =>
    have hd : ∀ l : List UInt8, (l.dropWhile nsg).length ≤ l.length := fun l => (List.dropWhile_sublist _).length_le
    by_cases hb : isSg b = true
    · simp only [unsign, hb, if_true, List.length_cons]
      have := hd r; omega
    · have hn : nsg b = true := by simp [nsg, hb]
      have hb' : isSg b = false := by simpa using hb
      simp only [unsign, hb', Bool.false_eq_true, if_false, List.dropWhile_cons, hn, if_true, List.length_cons]
      have := hd r; omega
theorem asc_drop {l : List UInt8} (h : asc l = true) : asc (l.dropWhile nsg) = true := by
  have := List.takeWhile_append_dropWhile (p := nsg) (l := l)
  rw [← this] at h
  exact (asc_app h).2
theorem impl_loop_tot : ∀ (n : Nat) (rest : List UInt8) (x : impl_Affine) (C : List Int) (K : Int), rest.length < n → asc rest = true → rest.length ≤ 1000 → C.length = 4 →
    (M.impl_ParseAffine_l1 ⟨rest⟩ x C K = some (.ret (⟨[], 0⟩, false))) ∨ ∃ C' K', C'.length = 4 ∧ M.impl_ParseAffine_l1 ⟨rest⟩ x C K = some (.done (x, C', K')) := by
  intro n
  induction n with
  | zero => intro rest x C K h; omega
  | succ n ih =>
    intro rest x C K hn ha hl hC
    by_cases hne : rest = []
    · subst hne
      exact .inr ⟨C, K, hC, impl_l1_nil _ _ _⟩
    · have hlt := drop_lt rest hne
      have had := asc_drop (asc_unsign ha)
      rw [gstep rest hne ha hl C K x hC]
      cases numOf ((unsign rest).takeWhile nsg) with
      | none => exact .inl rfl
      | some v =>
        simp only
        split
        · exact ih _ _ _ _ (by omega) had (by omega) hC
        · split
          · exact ih _ _ _ _ (by omega) had (by omega) (by rw [List.length_set]; exact hC)
          · exact .inl rfl
def ResA (t : List UInt8) (r : impl_Affine × Bool) : Prop := (r.2 = true ∧ validB r.1 = true ∧ t = tx r.1) ∨ (r.2 = false ∧ r.1 = ⟨[], 0⟩ ∧ ∀ a, validB a = true → t ≠ tx a)
theorem implParse (t : Str) (ha : asc t.l = true) (hl : t.l.length ≤ 1048576) : ∃ r, M.impl_ParseAffine t = some r ∧ ResA t.l r := by
  obtain ⟨t⟩ := t
  simp only at ha hl
  unfold M.impl_ParseAffine
  have hcn : M.impl_constant 0 = some ⟨[0, 0, 0, 0], 0⟩ := rfl
  simp only [hcn, Option.bind_eq_bind, Option.bind_some, Option.pure_def]
  by_cases h100 : t.length > 100
  · have : ((t.length : Nat) : Int) > 100 := by omega
    simp only [this, decide_true, if_true]
    exact ⟨_, rfl, .inr ⟨rfl, rfl, fun a hv e => by have := tx_len hv; rw [← e] at this; omega⟩⟩
  · have : ¬ ((t.length : Nat) : Int) > 100 := by omega
    simp only [this, decide_false, Bool.false_eq_true, if_false]
    have hval : ∀ a, validB a = true → t = tx a → M.impl_ParseAffine_l1 ⟨t⟩ ⟨[], 0⟩ [0, 0, 0, 0] 0 = some (.done (⟨[], 0⟩, a.Coefs, a.Const)) := by
      rintro a hv rfl
      exact impl_loop_tx a hv _
    rcases impl_loop_tot (t.length + 1) t ⟨[], 0⟩ [0, 0, 0, 0] 0 (by omega) ha (by omega) rfl with h | ⟨C, K, hC, h⟩
    · rw [h]
      simp only [Option.bind_some]
      exact ⟨_, rfl, .inr ⟨rfl, rfl, fun a hv e => by have := hval a hv e; rw [h] at this; cases this⟩⟩
    · rw [h]
      have hvl := implValid ⟨C, K⟩ (by show C.length ≤ _; omega)
      simp only [Option.bind_some, hvl]
      have hne : ∀ a, validB a = true → t = tx a → a = ⟨C, K⟩ := by
        intro a hv e
        have := hval a hv e
        rw [h] at this
        obtain ⟨c, k⟩ := a
        simp only [Option.some.injEq, Out.done.injEq, Prod.mk.injEq, true_and] at this
        rw [this.1, this.2]
      cases hv : validB ⟨C, K⟩ with
      | false =>
        simp only [Bool.not_false, if_true, Option.bind_some]
        exact ⟨_, rfl, .inr ⟨rfl, rfl, fun a hva e => by rw [hne a hva e, hv] at hva; cases hva⟩⟩
      | true =>
        simp only [Bool.not_true, Bool.false_eq_true, if_false, impl_text _ hv, Option.bind_some]
        cases he : tx ⟨C, K⟩ == t with
        | true =>
          simp only [Bool.not_true, Bool.false_eq_true, if_false]
          exact ⟨_, rfl, .inl ⟨rfl, hv, (beq_iff_eq.1 he).symm⟩⟩
        | false =>
          simp only [Bool.not_false, if_true]
          exact ⟨_, rfl, .inr ⟨rfl, rfl, fun a hva e => by rw [hne a hva e] at e; rw [e] at he; simp at he⟩⟩
end Go.LN
