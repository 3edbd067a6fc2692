/- The reference's ParseAffine answers with the expression of a text, or refuses; FormatAffine of both. -/
import Derived.Test.YtmjfehjlgmdfhaaDoorPL
namespace Go.LN
set_option linter.unusedVariables false
set_option linter.unusedSimpArgs false
open Lib (itoa decDigits)
def Sg (f : List UInt8) (sg : Int) : Prop := (f = [] ∧ sg = 1) ∨ (f = [43] ∧ sg = 1) ∨ (f = [45] ∧ sg = -1)
theorem nsg_ne {b : UInt8} (h : isSg b = false) : b ≠ 45 := by rintro rfl; cases h
theorem bodyU (k i : Nat) (hk : 1 ≤ k ∧ k ≤ 9) (hi : i < 4) (t : List UInt8) :
    dgt (bodyV k i ++ t) = ((k : Int), if k = 1 then 0 else 1) ∧ star (bodyV k i ++ t) = (if k = 1 then 0 else 2) ∧ nmOf ((bodyV k i ++ t).drop (if k = 1 then 0 else 2)) = (i : Int) ∧ (bodyV k i).length = (if k = 1 then 1 else 3) ∧ isSg ((bodyV k i ++ t).headD 0) = false ∧ (bodyV k i ++ t).headD 0 ≠ 45 ∧ bodyV k i ≠ [] := by
  obtain ⟨h1, h2⟩ := hk
  have c1 : k = 1 ∨ k = 2 ∨ k = 3 ∨ k = 4 ∨ k = 5 ∨ k = 6 ∨ k = 7 ∨ k = 8 ∨ k = 9 := by omega
  have c2 : i = 0 ∨ i = 1 ∨ i = 2 ∨ i = 3 := by omega
  rcases c1 with rfl | rfl | rfl | rfl | rfl | rfl | rfl | rfl | rfl <;> rcases c2 with rfl | rfl | rfl | rfl <;> exact ⟨rfl, rfl, rfl, rfl, rfl, nsg_ne rfl, by simp [bodyV, dtx]⟩
theorem dtxU : ∀ (k : Fin 100), dgt (dtx k.val) = ((k.val : Int), (dtx k.val).length) ∧ star (dtx k.val) = (dtx k.val).length ∧ isSg ((dtx k.val).headD 0) = false ∧ (dtx k.val).headD 0 ≠ 45 ∧ dtx k.val ≠ [] := by decide +kernel
theorem sg_drop {f : List UInt8} {sg : Int} (hf : Sg f sg) {u : List UInt8} (hne : u ≠ []) (hu : isSg (u.headD 0) = false) (hn : u.headD 0 ≠ 45) : sgo (f ++ u) = f.length ∧ signOf (f ++ u) = sg ∧ f ++ u ≠ [] := by
  rcases hf with ⟨rfl, rfl⟩ | ⟨rfl, rfl⟩ | ⟨rfl, rfl⟩
  · cases u with
    | nil => exact absurd rfl hne
    | cons b r =>
      simp only [List.headD_cons] at hu hn
      simp [sgo, signOf, hu, hn]
  · exact ⟨rfl, rfl, by simp⟩
  · exact ⟨rfl, rfl, by simp⟩
theorem stepV (T : Str) (hT : T.l.length ≤ 1048576) (p : Nat) (f : List UInt8) (sg : Int) (hf : Sg f sg) (k i : Nat) (hk : 1 ≤ k ∧ k ≤ 9) (hi : i < 4) (t : List UInt8)
    (hd : T.l.drop p = f ++ (bodyV k i ++ t)) (C : List Int) (K : Int) (hC : C.length = 4) :
    ∃ q : Nat, M.spec_l1Parse ⟨C, K⟩ T (p : Int) = some (⟨C.set i (W (C.getD i 0 + W (sg * (k : Int)))), K⟩, (q : Int)) ∧ T.l.drop q = t ∧ p < T.l.length ∧ q ≤ T.l.length := by
  obtain ⟨b1, b2, b3, b4, b5, b6, b7⟩ := bodyU k i hk hi t
  obtain ⟨s1, s2, s3⟩ := sg_drop hf (u := bodyV k i ++ t) (by simp [b7]) b5 b6
  have hp : p < T.l.length := by
    rcases Nat.lt_or_ge p T.l.length with h | h
    · exact h
    · rw [List.drop_eq_nil_iff.2 h] at hd; exact absurd hd.symm s3
  have hlen := congrArg List.length hd
  rw [List.length_drop, List.length_append, List.length_append, b4] at hlen
  have hu : T.l.drop (p + f.length) = bodyV k i ++ t := by
    rw [← List.drop_drop, hd, List.drop_left]
  refine ⟨p + f.length + (if k = 1 then 0 else 2) + 1, ?_, ?_, hp, ?_⟩
  · rw [l1Parse_eq _ T p hT hp hC]
    simp only [hd, s1, hu, s2, b1, b2, b3, Int.toNat_natCast]
    rw [if_pos]
    refine ⟨by omega, ?_⟩
    by_cases h : k = 1
    · right; simp [h]
    · left; simp [h]
  · have : p + f.length + (if k = 1 then 0 else 2) + 1 = p + f.length + (bodyV k i).length := by rw [b4]; split <;> omega
    rw [this, ← List.drop_drop, hu, List.drop_left]
  · split at hlen <;> rename_i h <;> simp only [h, if_true, if_false] <;> omega
theorem stepK (T : Str) (hT : T.l.length ≤ 1048576) (p : Nat) (f : List UInt8) (sg : Int) (hf : Sg f sg) (k : Nat) (hk : k ≤ 99)
    (hd : T.l.drop p = f ++ dtx k) (C : List Int) (K : Int) (hC : C.length = 4) :
    M.spec_l1Parse ⟨C, K⟩ T (p : Int) = some (⟨C, W (K + W (sg * (k : Int)))⟩, (T.l.length : Int)) ∧ p < T.l.length := by
  obtain ⟨b1, b2, b5, b6, b7⟩ := dtxU ⟨k, by omega⟩
  simp only at b1 b2 b5 b6 b7
  obtain ⟨s1, s2, s3⟩ := sg_drop hf (u := dtx k) b7 b5 b6
  have hp : p < T.l.length := by
    rcases Nat.lt_or_ge p T.l.length with h | h
    · exact h
    · rw [List.drop_eq_nil_iff.2 h] at hd; exact absurd hd.symm s3
  have hlen := congrArg List.length hd
  rw [List.length_drop, List.length_append] at hlen
  have hu : T.l.drop (p + f.length) = dtx k := by
    rw [← List.drop_drop, hd, List.drop_left]
  have hdl := dtx_len k
  refine ⟨?_, hp⟩
  rw [l1Parse_eq _ T p hT hp hC]
  have hnm : nmOf ([] : List UInt8) = -1 := rfl
  simp only [hd, s1, hu, s2, b1, b2, List.drop_length, hnm]
  rw [if_neg (by omega), if_neg (by omega)]
  congr 3
  omega
theorem spec_end (T : Str) (p : Nat) (hp : T.l.length ≤ p) (x : impl_Affine) : M.spec_ParseAffine_l1 T (p : Int) x = some x := by
  rw [M.spec_ParseAffine_l1]
  have h1 : ((p : Int) ≥ 0) := by omega
  have h2 : ¬ ((p : Int) < (T.l.length : Int)) := by omega
  simp [h1, h2]
theorem spec_on (T : Str) (p : Nat) (hp : p < T.l.length) (x y : impl_Affine) (q : Int) (h : M.spec_l1Parse x T (p : Int) = some (y, q)) : M.spec_ParseAffine_l1 T (p : Int) x = M.spec_ParseAffine_l1 T q y := by
  conv => lhs; rw [M.spec_ParseAffine_l1]
  have h1 : ((p : Int) ≥ 0) := by omega
  have h2 : ((p : Int) < (T.l.length : Int)) := by omega
  simp only [h1, h2, decide_true, if_true, Option.pure_def, Option.bind_eq_bind, Option.bind_some, h]
def st (f : Bool) (l : List UInt8) : List UInt8 := if f then strip l else l
theorem st_sgn (f : Bool) (c : Int) (u : List UInt8) : ∃ g, st f (sgn c :: u) = g ++ u ∧ Sg g (if c < 0 then -1 else 1) := by
  unfold st strip sgn
  by_cases hc : c < 0
  · exact ⟨[45], by simp [hc], by simp [Sg, hc]⟩
  · cases f with
    | true => exact ⟨[], by simp [hc], by simp [Sg, hc]⟩
    | false => exact ⟨[43], by simp [hc], by simp [Sg, hc]⟩
theorem spec_val (T : Str) (hT : T.l.length ≤ 1048576) (k : Int) (hk : constB k = true) : ∀ (cs pre : List Int) (f : Bool) (p : Nat), (∀ c ∈ cs, coefB c = true) → pre.length + cs.length = 4 → p ≤ T.l.length →
    T.l.drop p = st f (T0 cs pre.length ++ TK k) → M.spec_ParseAffine_l1 T (p : Int) ⟨pre ++ List.replicate cs.length 0, 0⟩ = some ⟨pre ++ cs, k⟩ := by
  intro cs
  induction cs with
  | nil =>
    intro pre f p hc hl hp hd
    simp only [T0, List.nil_append, List.length_nil, List.replicate_zero, List.append_nil] at hl hd ⊢
    simp only [constB, Bool.and_eq_true, decide_eq_true_eq] at hk
    by_cases h0 : k = 0
    · subst h0
      have : T.l.length ≤ p := by
        rw [TK, if_pos rfl] at hd
        have : st f [] = [] := by cases f <;> rfl
        rw [this] at hd
        exact List.drop_eq_nil_iff.1 hd
      exact spec_end T p this _
    · rw [TK, if_neg h0] at hd
      obtain ⟨g, hg, hs⟩ := st_sgn f k (dtx k.natAbs)
      rw [hg] at hd
      obtain ⟨e1, e2⟩ := stepK T hT p g _ hs k.natAbs (by omega) hd pre 0 hl
      rw [spec_on T p e2 _ _ _ e1, sign_mul k (by omega)]
      exact spec_end T _ (Nat.le_refl _) _
  | cons c cs ih =>
    intro pre f p hc hl hp hd
    have hc1 := hc c (List.mem_cons_self ..)
    have hc2 : ∀ y ∈ cs, coefB y = true := fun y hy => hc y (List.mem_cons_of_mem _ hy)
    simp only [coefB, Bool.and_eq_true, decide_eq_true_eq] at hc1
    simp only [List.length_cons] at hl
    have ih' := fun g q => ih (pre ++ [c]) g q hc2 (by simp; omega)
    simp only [List.length_append, List.length_singleton, List.append_assoc] at ih'
    by_cases h0 : c = 0
    · subst h0
      rw [T0, if_pos rfl, List.nil_append] at hd
      simpa [List.replicate_succ] using ih' f p hp hd
    · rw [T0, if_neg h0, List.append_assoc, List.cons_append] at hd
      obtain ⟨g, hg, hs⟩ := st_sgn f c (bodyV c.natAbs pre.length ++ (T0 cs (pre.length + 1) ++ TK k))
      rw [hg] at hd
      obtain ⟨q, e1, e2, e3, e4⟩ := stepV T hT p g _ hs c.natAbs pre.length (by omega) (by omega) _ hd (pre ++ List.replicate (cs.length + 1) 0) 0 (by simp; omega)
      have hgd : (pre ++ List.replicate (cs.length + 1) (0 : Int)).getD pre.length 0 = 0 := by
        rw [List.getD_eq_getElem?_getD, List.getElem?_append_right (Nat.le_refl _), Nat.sub_self, List.replicate_succ]; rfl
      have hset : (pre ++ List.replicate (cs.length + 1) (0 : Int)).set pre.length c = pre ++ ([c] ++ List.replicate cs.length 0) := by
        rw [List.set_append_right _ _ (Nat.le_refl _), Nat.sub_self, List.replicate_succ]; rfl
      rw [List.length_cons, spec_on T p e3 _ _ _ e1, hgd, sign_mul c (by omega), hset]
      exact ih' false q e4 e2
theorem spec_loop_tx (a : impl_Affine) (ha : validB a = true) : M.spec_ParseAffine_l1 ⟨tx a⟩ 0 ⟨[0, 0, 0, 0], 0⟩ = some a := by
  have hv := ha
  simp only [validB, Bool.and_eq_true, decide_eq_true_eq] at hv
  obtain ⟨⟨h4, hk⟩, hall⟩ := hv
  have htl := tx_len ha
  have hrep : List.replicate 4 (0 : Int) = [0, 0, 0, 0] := rfl
  have hcs := fun c hc => List.all_eq_true.1 hall c hc
  by_cases hr : raw a = []
  · have key := spec_val ⟨[]⟩ (by simp) a.Const hk a.Coefs [] false 0 hcs (by simp [h4]) (by simp) (by rw [List.length_nil]; exact hr.symm)
    rw [List.nil_append, List.nil_append, h4, hrep] at key
    have hend := spec_end ⟨[]⟩ 0 (by simp) ⟨[0, 0, 0, 0], 0⟩
    rw [hend] at key
    have ea : (⟨[0, 0, 0, 0], 0⟩ : impl_Affine) = a := by
      simp only [Option.some.injEq] at key; exact key
    unfold tx
    rw [if_pos hr]
    obtain ⟨e1, e2⟩ := stepK ⟨[48]⟩ (by simp) 0 [] 1 (.inl ⟨rfl, rfl⟩) 0 (by omega) rfl [0, 0, 0, 0] 0 rfl
    have := spec_on ⟨[48]⟩ 0 e2 _ _ _ e1
    rw [Int.natCast_zero] at this
    rw [this, spec_end _ _ (Nat.le_refl _), ← ea]
    rfl
  · unfold tx at htl ⊢
    rw [if_neg hr] at htl ⊢
    have key := spec_val ⟨strip (raw a)⟩ (by simp only; omega) a.Const hk a.Coefs [] true 0 hcs (by simp [h4]) (by simp) (by rw [List.length_nil]; rfl)
    rw [List.nil_append, List.nil_append, h4, hrep] at key
    exact key
theorem implFormat (a : impl_Affine) (h : a.Coefs.length ≤ 1048576) : M.impl_FormatAffine a = some (if validB a then ⟨tx a⟩ else ⟨[]⟩) := by
  unfold M.impl_FormatAffine
  rw [implValid a h]
  cases hv : validB a with
  | false => rfl
  | true => simp [impl_text a hv]
theorem specFormat (a : impl_Affine) (h : a.Coefs.length ≤ 1048576) : M.spec_FormatAffine a = some (if validB a then ⟨tx a⟩ else ⟨[]⟩) := by
  unfold M.spec_FormatAffine
  rw [specValid a h]
  cases hv : validB a with
  | false => rfl
  | true => simp [spec_text a hv]
theorem tx_ne (a : impl_Affine) (ha : validB a = true) : tx a ≠ [] := by
  unfold tx
  split
  · simp
  · rename_i h
    rcases raw_shape a ha with h' | ⟨c, b, t, h', hb, hn⟩
    · exact absurd h' h
    · rw [h', strip]
      split
      · simp [hn]
      · simp
theorem tx_inj {a b : impl_Affine} (ha : validB a = true) (hb : validB b = true) (h : tx a = tx b) : a = b := by
  have e1 := spec_loop_tx a ha
  rw [h, spec_loop_tx b hb, Option.some.injEq] at e1
  exact e1.symm
theorem spec_loop_tot (s : Str) (h0 : s.l.length ≤ 1000000) : ∃ x, M.spec_ParseAffine_l1 s 0 ⟨[0, 0, 0, 0], 0⟩ = some x ∧ VA x := by
  have := (ParseAffine_l1_aux s h0 (s.l.length + 2) 0 ⟨[0, 0, 0, 0], 0⟩).ok ⟨⟨by omega, by omega, by omega⟩, rfl, by simp [I64], by simp [I64]⟩ (fun x => VA x) (fun x hx => hx)
  exact this
theorem specParse (t : Str) (hl : t.l.length ≤ 1000000) : ∃ r, M.spec_ParseAffine t = some r ∧ ResA t.l r := by
  obtain ⟨t⟩ := t
  simp only at hl
  unfold M.spec_ParseAffine
  have hz : M.spec_l1Zero = some ⟨[0, 0, 0, 0], 0⟩ := rfl
  simp only [hz, Option.bind_eq_bind, Option.bind_some, Option.pure_def]
  by_cases h40 : t.length > 40
  · have : ((t.length : Nat) : Int) > 40 := by omega
    simp only [this, decide_true, if_true]
    exact ⟨_, rfl, .inr ⟨rfl, rfl, fun a hv e => by have := tx_len hv; rw [← e] at this; omega⟩⟩
  · have : ¬ ((t.length : Nat) : Int) > 40 := by omega
    simp only [this, decide_false, Bool.false_eq_true, if_false]
    obtain ⟨x, hx, hvx⟩ := spec_loop_tot ⟨t⟩ hl
    rw [hx]
    simp only [Option.bind_some]
    rw [specFormat x (by rw [hvx.1]; decide)]
    simp only [Option.bind_some]
    have hval : ∀ a, validB a = true → t = tx a → a = x := by
      rintro a hv rfl
      rw [spec_loop_tx a hv, Option.some.injEq] at hx
      exact hx
    cases hv : validB x with
    | false =>
      simp only [Bool.false_eq_true, if_false]
      have hno : ∀ a, validB a = true → t ≠ tx a := fun a hva e => by rw [hval a hva e, hv] at hva; cases hva
      by_cases ht : t = []
      · exact absurd ht (by
          intro ht
          subst ht
          have := spec_end ⟨[]⟩ 0 (by simp) ⟨[0, 0, 0, 0], 0⟩
          rw [Int.natCast_zero, hx, Option.some.injEq] at this
          subst this
          exact absurd hv (by decide))
      · have : (([] : List UInt8) == t) = false := by simpa using ht
        simp only [this, Bool.not_false, if_true]
        exact ⟨_, rfl, .inr ⟨rfl, rfl, hno⟩⟩
    | true =>
      simp only [if_true]
      cases he : tx x == t with
      | true =>
        simp only [Bool.not_true, Bool.false_eq_true, if_false]
        exact ⟨_, rfl, .inl ⟨rfl, hv, (beq_iff_eq.1 he).symm⟩⟩
      | false =>
        simp only [Bool.not_false, if_true]
        exact ⟨_, rfl, .inr ⟨rfl, rfl, fun a hva e => by rw [hval a hva e] at e; rw [e] at he; simp at he⟩⟩
end Go.LN
