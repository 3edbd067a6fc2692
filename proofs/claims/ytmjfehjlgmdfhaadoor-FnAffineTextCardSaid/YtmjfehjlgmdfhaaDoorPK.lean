/- Parsing of affine expressions: the program's. -/
import Derived.Test.YtmjfehjlgmdfhaaDoorPJ
namespace Go.LN
set_option linter.unusedVariables false
set_option linter.unusedSimpArgs false
open Lib (itoa decDigits)
def isSg (b : UInt8) : Bool := b == 43 || b == 45
def nsg (b : UInt8) : Bool := !(isSg b)
def digs11 : List UInt8 := [48, 49, 50, 51, 52, 53, 54, 55, 56, 57, 42]
def ijkl : List UInt8 := [105, 106, 107, 108]
def cutEnd (s suf : List UInt8) : List UInt8 := if suf.length ≤ s.length ∧ s.drop (s.length - suf.length) = suf then s.take (s.length - suf.length) else s
theorem trimSuffix_eq (s suf : Str) (h : s.l.length ≤ 1048576) : M.strings_TrimSuffix s suf = some ⟨cutEnd s.l suf.l⟩ := by
  obtain ⟨s⟩ := s
  obtain ⟨u⟩ := suf
  simp only at h
  unfold M.strings_TrimSuffix M.internal_stringslite_TrimSuffix M.internal_stringslite_HasSuffix cutEnd
  by_cases hl : u.length ≤ s.length
  · have h1 : ((s.length : Int) ≥ (u.length : Int)) := by omega
    have hW : W ((s.length : Int) - (u.length : Int)) = ((s.length - u.length : Nat) : Int) := by rw [W_id (by omega) (by omega)]; omega
    have h2 : sslc ⟨s⟩ ((s.length - u.length : Nat) : Int) (s.length : Int) = some ⟨s.drop (s.length - u.length)⟩ := by
      have := sslc_eq (s := ⟨s⟩) (f := s.length - u.length) (i := s.length) (by omega) (by simp)
      exact this.trans (by simp)
    have h3 : sslc ⟨s⟩ 0 ((s.length - u.length : Nat) : Int) = some ⟨s.take (s.length - u.length)⟩ := by
      have := sslc_eq (s := ⟨s⟩) (f := 0) (i := s.length - u.length) (by omega) (by simp)
      exact this.trans (by simp)
    simp only [h1, decide_true, if_true, hW, h2, h3, Option.bind_eq_bind, Option.bind_some, Option.pure_def, id, hl, true_and]
    by_cases he : s.drop (s.length - u.length) = u
    · simp [he]
    · have : (s.drop (s.length - u.length) == u) = false := by simpa using he
      simp only [this, he, Bool.false_eq_true, if_false]
      rfl
  · have h1 : ¬ ((s.length : Int) ≥ (u.length : Int)) := by omega
    simp [h1, hl]
theorem indexAny_take : ∀ l : List UInt8, (Lib.indexAny l [43, 45] = -1 ∧ l.takeWhile nsg = l ∧ l.dropWhile nsg = []) ∨ (Lib.indexAny l [43, 45] = ((l.takeWhile nsg).length : Int) ∧ l.dropWhile nsg ≠ [])
  | [] => .inl ⟨rfl, rfl, rfl⟩
  | b :: l => by
    rw [Lib.indexAny, List.takeWhile_cons, List.dropWhile_cons]
    have hc : ([43, 45] : List UInt8).contains b = isSg b := by
      by_cases h1 : b = 43 <;> by_cases h2 : b = 45 <;> simp [isSg, h1, h2]
    rw [hc]
    cases hb : isSg b with
    | true => right; simp [nsg, hb]
    | false =>
      have hn : nsg b = true := by simp [nsg, hb]
      simp only [Bool.false_eq_true, if_false, hn, if_true]
      rcases indexAny_take l with ⟨h1, h2, h3⟩ | ⟨h1, h2⟩
      · left; rw [h1, h2]; exact ⟨by simp, rfl, h3⟩
      · right
        rw [h1]
        have : ¬ (((l.takeWhile nsg).length : Int) == -1) = true := by simp
        rw [if_neg this]
        exact ⟨by simp, h2⟩
def nameOf (body : List UInt8) : List UInt8 := Lib.trimLeftS body digs11
def digOf (body : List UInt8) : List UInt8 := cutEnd (cutEnd body (nameOf body)) [42]
def numOf (body : List UInt8) : Option Int := if digOf body = [] then some 1 else if (atoiM ⟨digOf body⟩).2 || decide ((atoiM ⟨digOf body⟩).1 > 1000) then none else some (atoiM ⟨digOf body⟩).1
def signOf (rest : List UInt8) : Int := match rest with | [] => 1 | b :: _ => if b = 45 then -1 else 1
def unsign (rest : List UInt8) : List UInt8 := match rest with | [] => [] | b :: r => if isSg b then r else b :: r
theorem asc_app {a b : List UInt8} (h : asc (a ++ b) = true) : asc a = true ∧ asc b = true := by
  unfold asc at h ⊢
  rw [List.all_append, Bool.and_eq_true] at h
  exact h
theorem asc_unsign {r : List UInt8} (h : asc r = true) : asc (unsign r) = true := by
  unfold unsign
  split
  · rfl
  · split
    · have : asc ([_] ++ _) = true := h
      exact (asc_app this).2
    · exact h
theorem unsign_len (r : List UInt8) : (unsign r).length ≤ r.length := by
  unfold unsign; split
  · simp
  · split <;> simp
theorem index_lt (b : UInt8) : Lib.index ijkl [b] ≤ 3 := by
  by_cases h1 : b = 105
  · subst h1; decide
  by_cases h2 : b = 106
  · subst h2; decide
  by_cases h3 : b = 107
  · subst h3; decide
  by_cases h4 : b = 108
  · subst h4; decide
  simp [ijkl, Lib.index, List.isPrefixOf, h1, h2, h3, h4]
theorem index_nonneg_lt (nm : List UInt8) (h : nm.length = 1) : Lib.index ijkl nm ≤ 3 := by
  match nm, h with
  | [b], _ => exact index_lt b
theorem gstep (rest : List UInt8) (hne : rest ≠ []) (ha : asc rest = true) (hl : rest.length ≤ 1000) (C : List Int) (K : Int) (x : impl_Affine) (hC : C.length = 4) :
    M.impl_ParseAffine_l1 ⟨rest⟩ x C K = (match numOf ((unsign rest).takeWhile nsg) with
      | none => some (.ret (⟨[], 0⟩, false))
      | some n =>
        let nm := nameOf ((unsign rest).takeWhile nsg)
        if nm = [] then M.impl_ParseAffine_l1 ⟨(unsign rest).dropWhile nsg⟩ x C (W (K + W (signOf rest * n)))
        else if nm.length = 1 ∧ 0 ≤ Lib.index ijkl nm then M.impl_ParseAffine_l1 ⟨(unsign rest).dropWhile nsg⟩ x (C.set (Lib.index ijkl nm).toNat (W (C.getD (Lib.index ijkl nm).toNat 0 + W (signOf rest * n)))) K
        else some (.ret (⟨[], 0⟩, false))) := by
  obtain ⟨b, r, rfl⟩ : ∃ b r, rest = b :: r := by cases rest with | nil => exact absurd rfl hne | cons b r => exact ⟨b, r, rfl⟩
  have hub : ∀ s : List UInt8, M.strings_TrimLeft ⟨s⟩ ⟨[48, 49, 50, 51, 52, 53, 54, 55, 56, 57, 42]⟩ = some ⟨Lib.trimLeftS s digs11⟩ := fun s => by
    unfold M.strings_TrimLeft
    rw [if_pos ⟨by simp, by decide⟩]
    rfl
  conv => lhs; rw [M.impl_ParseAffine_l1]
  have h0 : ((b :: r : List UInt8) == []) = false := rfl
  have i0 : sidx (⟨b :: r⟩ : Str) 0 = some b := rfl
  have k43 : ((b.toNat : Int) == 43) = decide (b = 43) := u8_int_eq' b 43 (by omega)
  have k45 : ((b.toNat : Int) == 45) = decide (b = 45) := u8_int_eq' b 45 (by omega)
  have hs1 : sslc ⟨b :: r⟩ 1 (((b :: r).length : Nat) : Int) = some ⟨r⟩ := by
    have := sslc_eq (s := ⟨b :: r⟩) (f := 1) (i := (b :: r).length) (by simp) (by simp)
    exact this.trans (by simp)
  simp only [h0, Bool.not_false, if_true, i0, k43, k45, Option.bind_eq_bind, Option.bind_some, Option.pure_def, hs1]
  -- the sign
  have hsg : ∀ (f : Str × Int → Option (Out (impl_Affine × List Int × Int) (impl_Affine × Bool))),
      (Option.bind (if (decide (b = 43)) = true then some true else some (decide (b = 45))) fun t30 =>
        Option.bind (if t30 = true then Option.bind (if (decide (b = 45)) = true then some (-1) else some (id 1)) fun by01 => some ((⟨r⟩ : Str), by01) else some ((⟨b :: r⟩ : Str), (1 : Int))) f)
      = f (⟨unsign (b :: r)⟩, signOf (b :: r)) := by
    intro f
    by_cases h43 : b = 43
    · subst h43; rfl
    · by_cases h45 : b = 45
      · subst h45; rfl
      · have : isSg b = false := by simp [isSg, h43, h45]
        simp [h43, h45, unsign, signOf, this]
  have hul := unsign_len (b :: r)
  have hua := asc_unsign ha
  rw [show (fun (t30 : Bool) => _) = _ from rfl]
  refine (hsg _).trans ?_
  generalize unsign (b :: r) = u at hul hua ⊢
  generalize signOf (b :: r) = sg
  have hix : M.strings_IndexAny ⟨u⟩ ⟨[43, 45]⟩ = some (Lib.indexAny u [43, 45]) := by
    unfold M.strings_IndexAny
    rw [if_pos ⟨⟨by show u.length < _; omega, by simp⟩, hua, by decide⟩]
  have htd : u.takeWhile nsg ++ u.dropWhile nsg = u := List.takeWhile_append_dropWhile
  have hend : (if (decide (Lib.indexAny u [43, 45] < 0)) = true then some (u.length : Int) else some (id (Lib.indexAny u [43, 45]))) = some (((u.takeWhile nsg).length : Nat) : Int) := by
    rcases indexAny_take u with ⟨h1, h2, h3⟩ | ⟨h1, h2⟩
    · rw [h1, h2]; rfl
    · rw [h1]
      have : ¬ (((u.takeWhile nsg).length : Int) < 0) := by omega
      simp only [this, decide_false, Bool.false_eq_true, if_false, id]
  have hbl : (u.takeWhile nsg).length ≤ u.length := by
    have := congrArg List.length htd
    rw [List.length_append] at this; omega
  have hc1 : sslc ⟨u⟩ 0 (((u.takeWhile nsg).length : Nat) : Int) = some ⟨u.takeWhile nsg⟩ := by
    have := sslc_eq (s := ⟨u⟩) (f := 0) (i := (u.takeWhile nsg).length) (by omega) hbl
    refine this.trans ?_
    rw [List.drop_zero]
    conv => lhs; arg 1; arg 1; arg 2; rw [show (⟨u⟩ : Str).l = u from rfl, ← htd]
    rw [List.take_left' rfl]
  have hc2 : sslc ⟨u⟩ (((u.takeWhile nsg).length : Nat) : Int) (u.length : Int) = some ⟨u.dropWhile nsg⟩ := by
    have := sslc_eq (s := ⟨u⟩) (f := (u.takeWhile nsg).length) (i := u.length) hbl (Nat.le_refl _)
    refine this.trans ?_
    rw [show (⟨u⟩ : Str).l = u from rfl, List.take_length]
    conv => lhs; arg 1; arg 1; arg 2; rw [← htd]
    rw [List.drop_left' rfl]
  simp only [hix, Option.bind_some, hend, hc1, hc2, hub]
  have hbl2 : (u.takeWhile nsg).length ≤ 1048576 := by omega
  generalize u.takeWhile nsg = body at hbl2 ⊢
  generalize u.dropWhile nsg = tail
  rw [trimSuffix_eq ⟨body⟩ _ hbl2]
  have hce : ∀ (s v : List UInt8), (cutEnd s v).length ≤ s.length := fun s v => by unfold cutEnd; split <;> simp
  have hdl1 := hce body (nameOf body)
  have hdl2 := hce (cutEnd body (nameOf body)) [42]
  simp only [Option.bind_some]
  rw [trimSuffix_eq _ _ (by show (cutEnd body (Lib.trimLeftS body digs11)).length ≤ _; exact Nat.le_trans hdl1 hbl2)]
  simp only [Option.bind_some]
  have hdd : cutEnd (cutEnd body (Lib.trimLeftS body digs11)) [42] = digOf body := rfl
  have hnn : Lib.trimLeftS body digs11 = nameOf body := rfl
  rw [hdd, hnn]
  have hdl : (digOf body).length ≤ 1048576 := by show (cutEnd (cutEnd body (nameOf body)) [42]).length ≤ _; omega
  have hat : M.strconv_Atoi ⟨digOf body⟩ = some (atoiM ⟨digOf body⟩) := by
    unfold M.strconv_Atoi
    rw [if_pos (by show (digOf body).length ≤ _; omega)]
  have hi2 : M.strings_Index ⟨[105, 106, 107, 108]⟩ ⟨nameOf body⟩ = some (Lib.index ijkl (nameOf body)) := by
    unfold M.strings_Index
    rw [if_pos (by simp)]
    rfl
  -- the number
  have rest_eq : ∀ n : Int, (Option.bind (M.strings_Index ⟨[105, 106, 107, 108]⟩ ⟨nameOf body⟩) fun y8 =>
      Option.bind (if (nameOf body == ([] : List UInt8)) = true then some (Out.done (x, C, W (K + W (sg * n))))
        else Option.bind (if (((nameOf body).length : Int) == 1) = true then some (decide (y8 ≥ 0)) else some false) fun t82 =>
          if t82 = true then Option.bind (idx C y8) fun x4 => Option.bind (idx C y8) fun x5 => Option.bind (some (C.set y8.toNat (W (x4 + W (sg * n))))) fun l => some (Out.done (x, l, K))
          else some (Out.ret ((⟨[], 0⟩ : impl_Affine), false)) : Option (Out (impl_Affine × List Int × Int) (impl_Affine × Bool))) fun o => match o with
        | .ret r0 => some (Out.ret r0)
        | .done (x3, Coefs2, Const2) => M.impl_ParseAffine_l1 ⟨tail⟩ x3 Coefs2 Const2) =
      (if nameOf body = [] then M.impl_ParseAffine_l1 ⟨tail⟩ x C (W (K + W (sg * n)))
        else if (nameOf body).length = 1 ∧ 0 ≤ Lib.index ijkl (nameOf body) then M.impl_ParseAffine_l1 ⟨tail⟩ x (C.set (Lib.index ijkl (nameOf body)).toNat (W (C.getD (Lib.index ijkl (nameOf body)).toNat 0 + W (sg * n)))) K
        else some (.ret (⟨[], 0⟩, false))) := by
    intro n
    rw [hi2]
    simp only [Option.bind_some]
    by_cases hnm : nameOf body = []
    · have : (nameOf body == ([] : List UInt8)) = true := by simp [hnm]
      rw [if_pos hnm]
      simp only [this, if_true, Option.bind_some]
    · have : (nameOf body == ([] : List UInt8)) = false := by simpa using hnm
      rw [if_neg hnm]
      simp only [this, Bool.false_eq_true, if_false]
      by_cases hln : (nameOf body).length = 1
      · have e1 : (((nameOf body).length : Int) == 1) = true := by simp [hln]
        simp only [e1, if_true, Option.bind_some]
        by_cases hge : Lib.index ijkl (nameOf body) ≥ 0
        · have hlt := index_nonneg_lt _ hln
          have hge' : 0 ≤ Lib.index ijkl (nameOf body) := hge
          have hx : idx C (Lib.index ijkl (nameOf body)) = some (C.getD (Lib.index ijkl (nameOf body)).toNat 0) := by
            rw [idx_eq hge', List.getD_eq_getElem?_getD, List.getElem?_eq_getElem (by omega)]
            rfl
          have hcond : (nameOf body).length = 1 ∧ 0 ≤ Lib.index ijkl (nameOf body) := ⟨hln, hge'⟩
          rw [if_pos hcond]
          simp only [hge, decide_true, if_true, hx, Option.bind_some]
        · have hge' : ¬ 0 ≤ Lib.index ijkl (nameOf body) := hge
          have hcond : ¬ ((nameOf body).length = 1 ∧ 0 ≤ Lib.index ijkl (nameOf body)) := fun h => hge' h.2
          rw [if_neg hcond]
          simp only [hge, decide_false, Bool.false_eq_true, if_false, Option.bind_some]
      · have e1 : (((nameOf body).length : Int) == 1) = false := by simp; omega
        have hcond : ¬ ((nameOf body).length = 1 ∧ 0 ≤ Lib.index ijkl (nameOf body)) := fun h => hln h.1
        rw [if_neg hcond]
        simp only [e1, Bool.false_eq_true, if_false, Option.bind_some]
  unfold numOf
  by_cases hd0 : digOf body = []
  · have : (digOf body == ([] : List UInt8)) = true := by simp [hd0]
    simp only [this, Bool.not_true, Bool.false_eq_true, if_false, Option.bind_some, hd0, if_true]
    exact rest_eq 1
  · have : (digOf body == ([] : List UInt8)) = false := by simpa using hd0
    simp only [this, Bool.not_false, if_true, hat, Option.bind_some, hd0, if_false]
    cases he : (atoiM ⟨digOf body⟩).2 with
    | true => simp
    | false =>
      simp only [Bool.false_eq_true, if_false, Option.bind_some, Bool.false_or]
      by_cases h1000 : (atoiM ⟨digOf body⟩).1 > 1000
      · simp [h1000]
      · simp only [h1000, decide_false, Bool.false_eq_true, if_false, Option.bind_some]
        exact rest_eq _
end Go.LN
