/- Values: arrays, accesses, expressions, statements. -/
import Derived.Test.YtaedjkaagcbkdaaGreatVB3
namespace Go.LN
set_option linter.unusedVariables false
set_option linter.unusedSimpArgs false
/-! Names. -/
def nameL : List UInt8 → Bool
  | [c] => decide (65 ≤ c.toNat) && decide (c.toNat ≤ 68)
  | _ => false
theorem zHB {P : UInt8 → Prop} (h : ∀ n : Fin 256, P (UInt8.ofNat n.val)) (c : UInt8) : P c := by
  have := h ⟨c.toNat, c.toNat_lt⟩
  simpa using this
theorem zH9 (c : UInt8) : decide (0 ≤ Lib.indexByte [65, 66, 67, 68] c) = nameL [c] :=
  zHB (P := fun c => decide (0 ≤ Lib.indexByte [65, 66, 67, 68] c) = nameL [c]) (by decide +kernel) c
theorem zHa (c : UInt8) : (!(Op.bytesLess [c] [65]) && (Op.bytesLess [c] [68] || [c] == [68])) = nameL [c] :=
  zHB (P := fun c => (!(Op.bytesLess [c] [65]) && (Op.bytesLess [c] [68] || [c] == [68])) = nameL [c]) (by decide +kernel) c
theorem implIsArray (s : Str) : oA s = some (nameL s.l) := by
  obtain ⟨l⟩ := s
  unfold oA
  match l with
  | [] => rfl
  | [c] =>
    have : oI ⟨[65, 66, 67, 68]⟩ ⟨[c]⟩ = some (decide (0 ≤ Lib.indexByte [65, 66, 67, 68] c)) := rfl
    simp only [this, zH9]
    rfl
  | c :: d :: r =>
    have : (((c :: d :: r).length : Int) == 1) = false := by simp; omega
    simp only [this, Bool.false_eq_true, if_false]
    rfl
/-! Arrays. -/
def BR (l : List zJ) : Prop := l.length ≤ 100000 ∧ ∀ a ∈ l, a.Dims.length ≤ 1000
def dimB (n : Int) : Bool := decide (1 ≤ n) && decide (n ≤ 6)
def arrI (l : List zJ) (i : Nat) : Bool :=
  nameL (l.getD i ⟨⟨[]⟩, []⟩).Name.l && (decide (i = 0) || Op.bytesLess (l.getD (i - 1) ⟨⟨[]⟩, []⟩).Name.l (l.getD i ⟨⟨[]⟩, []⟩).Name.l) && (decide (1 ≤ (l.getD i ⟨⟨[]⟩, []⟩).Dims.length) && decide ((l.getD i ⟨⟨[]⟩, []⟩).Dims.length ≤ 2)) && (l.getD i ⟨⟨[]⟩, []⟩).Dims.all dimB
def arrB (l : List zJ) : Bool := decide (l.length ≤ 4) && (List.range l.length).all (arrI l)
theorem implDims (d : List Int) (h : d.length ≤ 1000) : xD d vQ = some (!(d.all dimB)) := by
  rw [dK (p := fun x => !(dimB x)) d (fun x _ => by unfold vQ; rw [pA]; rfl) (by omega)]
  congr 1
  rw [Bool.eq_iff_iff]
  simp
theorem len12 (n : Nat) : (decide ((1 : Int) ≤ (n : Int)) && decide ((n : Int) ≤ 2)) = (decide (1 ≤ n) && decide (n ≤ 2)) := by
  have e1 : decide ((1 : Int) ≤ (n : Int)) = decide (1 ≤ n) := by simp; omega
  have e2 : decide ((n : Int) ≤ 2) = decide (n ≤ 2) := by simp; omega
  rw [e1, e2]
theorem implArrays (l : List zJ) (h : BR l) : oO l = some (arrB l) := by
  unfold oO arrB
  have hlen := h.1
  have hl := mH (n := l.length) (f := tT l) (P := arrI l) (fun i hi => by
      rw [tT]
      have h1 : ((i : Int) < (l.length : Int)) := by omega
      have ha := h.2 _ (List.getElem_mem hi)
      have hg : l.getD i ⟨⟨[]⟩, []⟩ = l[i] := by simp [hi]
      simp only [h1, decide_true, if_true, xH hi, Option.bind_eq_bind, Option.bind_some, implIsArray, arrI, hg]
      rw [tV (by omega)]
      cases hn : nameL l[i].Name.l with
      | false => simp
      | true =>
        have hwd : xT (l[i].Dims.length : Int) 1 2 = some (decide (1 ≤ l[i].Dims.length) && decide (l[i].Dims.length ≤ 2)) := by rw [pA, len12]
        by_cases h0 : i = 0
        · subst h0
          have hz : ¬ (((0 : Nat) : Int) > 0) := by omega
          simp only [hz, decide_false, decide_true, Bool.false_eq_true, if_false, Bool.not_true, hwd, Option.bind_some, Bool.true_or, Bool.true_and, Option.pure_def, implDims _ ha, id]
          cases (decide (1 ≤ l[0].Dims.length) && decide (l[0].Dims.length ≤ 2)) with
          | false => simp
          | true => cases l[0].Dims.all dimB <;> simp
        · have hz : ((i : Int) > 0) := by omega
          have hW : W ((i : Int) - 1) = ((i - 1 : Nat) : Int) := by rw [sR (by omega) (by omega)]; omega
          have hi1 : i - 1 < l.length := by omega
          have hg1 : l.getD (i - 1) ⟨⟨[]⟩, []⟩ = l[i - 1] := by simp [hi1]
          simp only [hz, h0, hW, xH hi1, hg1, decide_false, decide_true, Bool.false_eq_true, if_false, if_true, Bool.not_true, hwd, Option.bind_some, Bool.false_or, Bool.true_and, Option.pure_def, implDims _ ha, id]
          cases Op.bytesLess l[i - 1].Name.l l[i].Name.l with
          | false => simp
          | true =>
            cases (decide (1 ≤ l[i].Dims.length) && decide (l[i].Dims.length ≤ 2)) with
            | false => simp
            | true => cases l[i].Dims.all dimB <;> simp) (by
      rw [tT]; simp)
  rw [hl]
  have e2 : decide ((l.length : Int) ≤ 4) = decide (l.length ≤ 4) := by simp; omega
  cases hb : (List.range l.length).all (arrI l) with
  | false => simp
  | true => simp [e2]
theorem specDims (x : zJ) (h : x.Dims.length ≤ 1000) : wG x 0 = some (if x.Dims.all dimB then .done () else .ret false) := by
  have hl := mH (n := x.Dims.length) (f := wG x) (P := fun i => dimB (x.Dims.getD i 0)) (fun i hi => by
      rw [wG]
      have h1 : ((i : Int) < (x.Dims.length : Int)) := by omega
      have hg : x.Dims.getD i 0 = x.Dims[i] := by simp [hi]
      simp only [h1, decide_true, if_true, xH hi, Option.bind_eq_bind, Option.bind_some, hg, dimB]
      rw [tV (by omega)]
      by_cases k1 : x.Dims[i] < 1
      · have : ¬ (1 ≤ x.Dims[i]) := by omega
        simp [k1, this]
      · have : (1 ≤ x.Dims[i]) := by omega
        by_cases k2 : x.Dims[i] > 6
        · have : ¬ (x.Dims[i] ≤ 6) := by omega
          simp [k1, k2, this]
        · have k3 : (x.Dims[i] ≤ 6) := by omega
          simp [k1, k2, this, k3]) (by
      rw [wG]; simp)
  rw [hl, mT x.Dims dimB]
theorem zGR (n : Nat) : (if decide ((n : Int) < 1) = true then some true else some (decide ((n : Int) > 2))) = some (!(decide (1 ≤ n) && decide (n ≤ 2))) := by
  by_cases h1 : n < 1
  · have k1 : ((n : Int) < 1) := by omega
    have k2 : ¬ (1 ≤ n) := by omega
    simp [k1, k2]
  · have k1 : ¬ ((n : Int) < 1) := by omega
    have k2 : (1 ≤ n) := by omega
    by_cases h2 : n ≤ 2
    · have k3 : ¬ ((n : Int) > 2) := by omega
      simp [k1, k2, k3, h2]
    · have k3 : ((n : Int) > 2) := by omega
      simp [k1, k2, k3, h2]
theorem zCQ (l : List UInt8) : (nameL l = false ∧ ((l.length : Int) != 1) = true) ∨ (((l.length : Int) != 1) = false ∧ nameL l = (!(Op.bytesLess l [65]) && (Op.bytesLess l [68] || l == [68]))) := by
  match l with
  | [] => exact .inl ⟨rfl, rfl⟩
  | [c] => exact .inr ⟨rfl, (zHa c).symm⟩
  | c :: d :: r => exact .inl ⟨rfl, by simp; omega⟩
theorem specArrays (l : List zJ) (h : BR l) : rW l = some (arrB l) := by
  unfold rW arrB
  have hlen := h.1
  have hl := mH (n := l.length) (f := wS l) (P := arrI l) (fun i hi => by
      rw [wS]
      have h1 : ((i : Int) < (l.length : Int)) := by omega
      have ha := h.2 _ (List.getElem_mem hi)
      have hg : l.getD i ⟨⟨[]⟩, []⟩ = l[i] := by simp [hi]
      simp only [h1, decide_true, if_true, xH hi, Option.bind_eq_bind, Option.bind_some, arrI, hg, Option.pure_def, zGR, specDims _ ha]
      rw [tV (by omega)]
      rcases zCQ l[i].Name.l with ⟨n1, n2⟩ | ⟨n1, n2⟩
      · simp [n1, n2]
      · simp only [n1, n2, Bool.false_eq_true, if_false]
        cases k1 : Op.bytesLess l[i].Name.l [65] with
        | true => simp
        | false =>
          cases k2 : (Op.bytesLess l[i].Name.l [68] || l[i].Name.l == [68]) with
          | false => simp
          | true =>
            by_cases h0 : i = 0
            · subst h0
              have hz : ¬ (((0 : Nat) : Int) > 0) := by omega
              simp only [hz, decide_false, decide_true, Bool.false_eq_true, if_false, Bool.not_true, Bool.not_false, Option.bind_some, Bool.true_or, Bool.true_and, Bool.and_self]
              cases (decide (1 ≤ l[0].Dims.length) && decide (l[0].Dims.length ≤ 2)) with
              | false => simp
              | true => cases l[0].Dims.all dimB <;> simp
            · have hz : ((i : Int) > 0) := by omega
              have hW : W ((i : Int) - 1) = ((i - 1 : Nat) : Int) := by rw [sR (by omega) (by omega)]; omega
              have hi1 : i - 1 < l.length := by omega
              have hg1 : l.getD (i - 1) ⟨⟨[]⟩, []⟩ = l[i - 1] := by simp [hi1]
              simp only [hz, h0, hW, xH hi1, hg1, decide_false, decide_true, Bool.false_eq_true, if_false, if_true, Bool.not_true, Bool.not_false, Option.bind_some, Bool.false_or, Bool.true_and, Bool.and_self]
              cases Op.bytesLess l[i - 1].Name.l l[i].Name.l with
              | false => simp
              | true =>
                cases (decide (1 ≤ l[i].Dims.length) && decide (l[i].Dims.length ≤ 2)) with
                | false => simp
                | true => cases l[i].Dims.all dimB <;> simp) (by
      rw [wS]; simp)
  rw [hl]
  have e2 : decide ((l.length : Int) ≤ 4) = decide (l.length ≤ 4) := by simp; omega
  cases hb : (List.range l.length).all (arrI l) with
  | false => simp
  | true => simp [e2]
/-! Accesses. -/
def accB (a : zK) (d : Int) : Bool := nameL a.Array.l && (decide (1 ≤ a.Subs.length) && decide (a.Subs.length ≤ 2)) && a.Subs.all (okA d)
theorem implAcc1 (a : zA) (h : BA a) (d : Int) : sO a d = some (!(okA d a)) := implBound a h d
theorem implAccess (a : zK) (h : BL a.Subs) (d : Int) : qY a d = some (accB a d) := by
  unfold qY accB
  rw [implIsArray, pA, len12]
  have hc := zB7 (f := fun x0 => sO x0 d) (p := fun x => !(okA d x)) a.Subs (fun x hx => implAcc1 x (h.2 x hx) d) (by have := h.1; omega)
  cases nameL a.Array.l with
  | false => rfl
  | true =>
    cases hb : (decide (1 ≤ a.Subs.length) && decide (a.Subs.length ≤ 2)) with
    | false => rfl
    | true =>
      simp only [Option.bind_eq_bind, Option.bind_some, if_true, hc, Option.pure_def, id, Bool.true_and]
      rw [List.not_any_eq_all_not]
      simp
theorem specAccess (a : zK) (h : BL a.Subs) (d : Int) : sS a d = some (accB a d) := by
  unfold sS accB
  have hlen := h.1
  have hl := mH (n := a.Subs.length) (f := wU a d) (P := fun i => okA d (a.Subs.getD i ⟨[], 0⟩)) (fun i hi => by
      rw [wU]
      have h1 : ((i : Int) < (a.Subs.length : Int)) := by omega
      have ha : a.Subs[i].Coefs.length ≤ 1048576 := by have := h.2 _ (List.getElem_mem hi); unfold BA at this; omega
      have hg : a.Subs.getD i ⟨[], 0⟩ = a.Subs[i] := by simp [hi]
      simp only [h1, decide_true, if_true, xH hi, Option.bind_eq_bind, Option.bind_some, specValid _ ha, specDepth _ ha, hg, okA]
      rw [tV (by omega)]
      cases validB a.Subs[i] with
      | false => rfl
      | true =>
        by_cases hd : (depF a.Subs[i] : Int) ≤ d
        · have : ¬ ((depF a.Subs[i] : Int) > d) := by omega
          simp [hd, this]
        · have : ((depF a.Subs[i] : Int) > d) := by omega
          simp [hd, this]) (by
      rw [wU]; simp)
  rw [hl, mT a.Subs (okA d)]
  cases hb : a.Subs.all (okA d) with
  | false => simp
  | true =>
    simp only [if_true, Option.bind_eq_bind, Option.bind_some, Bool.and_true]
    rcases zCQ a.Array.l with ⟨n1, n2⟩ | ⟨n1, n2⟩
    · have : ((a.Array.l.length : Int) == 1) = false := by simpa [bne] using n2
      simp [n1, this]
    · have : ((a.Array.l.length : Int) == 1) = true := by simpa [bne] using n1
      simp only [this, if_true, n2]
      cases Op.bytesLess a.Array.l [65] with
      | true => simp
      | false =>
        cases (Op.bytesLess a.Array.l [68] || a.Array.l == [68]) with
        | false => simp
        | true =>
          by_cases e1 : 1 ≤ a.Subs.length
          · have : ((a.Subs.length : Int) ≥ 1) := by omega
            have e2 : decide ((a.Subs.length : Int) ≤ 2) = decide (a.Subs.length ≤ 2) := by simp; omega
            simp [this, e1, e2]
          · have : ¬ ((a.Subs.length : Int) ≥ 1) := by omega
            simp [this, e1]
end Go.LN
