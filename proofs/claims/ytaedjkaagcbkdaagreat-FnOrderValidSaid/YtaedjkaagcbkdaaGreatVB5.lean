/- Values: expressions, statements. -/
import Derived.Test.YtaedjkaagcbkdaaGreatVB4
namespace Go.LN
set_option linter.unusedVariables false
set_option linter.unusedSimpArgs false
def noA (a : zA) : Bool := decide (a.Coefs.length = 0) && (a.Const == 0)
def noC (a : zK) : Bool := (a.Array.l == []) && decide (a.Subs.length = 0)
theorem len0 (n : Nat) : ((n : Int) == 0) = decide (n = 0) := by
  by_cases h : n = 0
  · simp [h]
  · have : ¬ (n : Int) = 0 := by omega
    simp [h]
theorem implNoA (a : zA) : qZ a = some (noA a) := by
  unfold qZ noA
  rw [len0]
  by_cases h : a.Coefs.length = 0 <;> simp [h]
theorem specNoA (a : zA) : rO a = some (noA a) := by
  unfold rO noA
  rw [len0]
  by_cases h : a.Coefs.length = 0 <;> simp [h]
theorem implNoC (a : zK) : sU a = some (noC a) := by
  unfold sU noC
  rw [len0]
  cases h : (a.Array.l == []) <;> simp
theorem specNoC (a : zK) : sG a = some (noC a) := by
  unfold sG noC
  rw [len0]
  cases h : (a.Array.l == []) <;> simp
def BE : Nat → zH → Prop
  | 0, e => BA e.Index ∧ BL e.Read.Subs ∧ e.Kids = []
  | n + 1, e => BA e.Index ∧ BL e.Read.Subs ∧ e.Kids.length ≤ 1000 ∧ ∀ k ∈ e.Kids, BE n k
theorem BE.own {n : Nat} {e : zH} (h : BE n e) : BA e.Index ∧ BL e.Read.Subs ∧ e.Kids.length ≤ 1000 := by
  cases n with
  | zero => obtain ⟨h1, h2, h3⟩ := h; exact ⟨h1, h2, by simp [h3]⟩
  | succ n => exact ⟨h.1, h.2.1, h.2.2.1⟩
theorem BE.kid {n : Nat} {e k : zH} (h : BE n e) (hk : k ∈ e.Kids) : ∃ m, n = m + 1 ∧ BE m k := by
  cases n with
  | zero => obtain ⟨_, _, h3⟩ := h; rw [h3] at hk; cases hk
  | succ n => exact ⟨n, rfl, h.2.2.2 k hk⟩
def kidsN (k : Int) : Int := if k = 1 ∨ k = 2 ∨ k = 3 then 0 else if k = 4 ∨ k = 5 ∨ k = 6 then 2 else -1
def ownB (e : zH) (d : Int) : Bool :=
  if e.Kind = 2 then (e.Num == 0) && noC e.Read && okA d e.Index
  else if e.Kind = 3 then (e.Num == 0) && noA e.Index && accB e.Read d
  else if e.Kind = 1 then (decide (0 ≤ e.Num) && decide (e.Num ≤ 99)) && noA e.Index && noC e.Read
  else (e.Num == 0) && noA e.Index && noC e.Read
theorem specKids (k : Int) : pL k = some (kidsN k) := by
  unfold pL kidsN
  by_cases h1 : k = 1
  · subst h1; rfl
  · by_cases h2 : k = 2
    · subst h2; rfl
    · by_cases h3 : k = 3
      · subst h3; rfl
      · by_cases h4 : k = 4
        · subst h4; rfl
        · by_cases h5 : k = 5
          · subst h5; rfl
          · by_cases h6 : k = 6
            · subst h6; rfl
            · simp [h1, h2, h3, h4, h5, h6]
theorem zHC (a : zA) (d : Int) : okA d a = (validB a && decide ((depF a : Int) ≤ d)) := rfl
theorem specOwn (e : zH) (d : Int) (h1 : BA e.Index) (h2 : BL e.Read.Subs) : oH e d = some (ownB e d) := by
  unfold oH ownB
  have h' : e.Index.Coefs.length ≤ 1048576 := by unfold BA at h1; omega
  simp only [specNoC, specNoA, specValid _ h', specDepth _ h', specAccess _ h2, Option.bind_eq_bind, Option.bind_some, Option.pure_def, id]
  by_cases k2 : e.Kind = 2
  · have : (e.Kind == 2) = true := by simpa using k2
    simp only [this, if_true, k2]
    cases (e.Num == 0) with
    | false => simp
    | true =>
      cases noC e.Read with
      | false => simp
      | true => rw [zHC]; cases validB e.Index <;> simp
  · have q2 : (e.Kind == 2) = false := by simpa using k2
    by_cases k3 : e.Kind = 3
    · have : (e.Kind == 3) = true := by simpa using k3
      simp only [q2, k2, this, if_true, k3, Bool.false_eq_true, if_false]
      cases (e.Num == 0) with
      | false => simp
      | true => cases noA e.Index <;> simp
    · have q3 : (e.Kind == 3) = false := by simpa using k3
      by_cases k1 : e.Kind = 1
      · have : (e.Kind == 1) = true := by simpa using k1
        simp only [q2, k2, q3, k3, this, if_true, k1, Bool.false_eq_true, if_false]
        by_cases n0 : 0 ≤ e.Num
        · have n0' : e.Num ≥ 0 := n0
          by_cases n9 : e.Num ≤ 99
          · simp only [n0, n0', n9, decide_true, if_true, Bool.true_and]
            cases noA e.Index <;> simp
          · simp [n0, n0', n9]
        · have n0' : ¬ e.Num ≥ 0 := n0
          simp [n0, n0']
      · have q1 : (e.Kind == 1) = false := by simpa using k1
        simp only [q2, k2, q3, k3, q1, k1, Bool.false_eq_true, if_false]
        cases (e.Num == 0) with
        | false => simp
        | true => cases noA e.Index <;> simp
def shapeB (d : Int) : Nat → zH → Bool
  | 0, _ => false
  | n + 1, e => (kidsN e.Kind == (e.Kids.length : Int)) && ownB e d && e.Kids.all (shapeB d n)
def cnt : Nat → zH → Nat
  | 0, _ => 1
  | n + 1, e => 1 + (e.Kids.map (cnt n)).sum
theorem specShape (d : Int) : ∀ (n m : Nat) (e : zH), n ≤ 100 → BE m e → uC e d (n : Int) = some (shapeB d n e)
  | 0, m, e, hn, hb => by
    rw [uC]
    rfl
  | n + 1, m, e, hn, hb => by
    rw [uC]
    obtain ⟨b1, b2, b3⟩ := hb.own
    have h1 : ¬ (((n + 1 : Nat) : Int) < 1) := by omega
    have hW : W (((n + 1 : Nat) : Int) - 1) = (n : Int) := by rw [sR (by omega) (by omega)]; omega
    have hl := mH (n := e.Kids.length) (f := wO e d ((n + 1 : Nat) : Int)) (P := fun i => shapeB d n (e.Kids.getD i e)) (fun i hi => by
        rw [wO]
        have k1 : ((i : Int) < (e.Kids.length : Int)) := by omega
        have hg : e.Kids.getD i e = e.Kids[i] := by simp [hi]
        obtain ⟨m', _, hm'⟩ := hb.kid (List.getElem_mem hi)
        simp only [k1, decide_true, if_true, xH hi, Option.bind_eq_bind, Option.bind_some, same, hW, specShape d n m' _ (by omega) hm', hg]
        rw [tV (by omega)]
        cases shapeB d n e.Kids[i] <;> rfl) (by
        rw [wO]; simp)
    simp only [h1, decide_false, Bool.false_eq_true, if_false, Option.bind_eq_bind, Option.bind_some, specKids, specOwn e d b1 b2, shapeB, same, hl, mT e.Kids (shapeB d n)]
    cases hk : (kidsN e.Kind == (e.Kids.length : Int)) with
    | false =>
      have : (kidsN e.Kind != (e.Kids.length : Int)) = true := by simp [bne, hk]
      simp [this]
    | true =>
      have : (kidsN e.Kind != (e.Kids.length : Int)) = false := by simp [bne, hk]
      simp only [this, Bool.false_eq_true, if_false, Option.pure_def, Option.bind_some, Bool.true_and]
      cases ownB e d with
      | false => simp
      | true => cases e.Kids.all (shapeB d n) <;> simp
theorem mU {d : Int} {n : Nat} {e : zH} (h : shapeB d (n + 1) e = true) : (e.Kids = [] ∨ ∃ a b, e.Kids = [a, b]) ∧ ∀ k ∈ e.Kids, shapeB d n k = true := by
  simp only [shapeB, Bool.and_eq_true] at h
  refine ⟨?_, List.all_eq_true.1 h.2⟩
  have := eq_of_beq h.1.1
  unfold kidsN at this
  match hk : e.Kids with
  | [] => exact .inl rfl
  | [a] => rw [hk] at this; simp at this; split at this <;> (try split at this) <;> omega
  | [a, b] => exact .inr ⟨a, b, rfl⟩
  | a :: b :: c :: r => rw [hk] at this; simp at this; split at this <;> (try split at this) <;> omega
theorem zFi {d : Int} : ∀ (n : Nat) (e : zH), shapeB d n e = true → cnt n e + 1 ≤ 2 ^ n
  | 0, e, h => by cases h
  | n + 1, e, h => by
    obtain ⟨h1, h2⟩ := mU h
    rw [cnt, Nat.pow_succ]
    rcases h1 with hk | ⟨a, b, hk⟩
    · rw [hk]
      have := Nat.one_le_two_pow (n := n)
      simp; omega
    · rw [hk] at h2 ⊢
      have ha := zFi n a (h2 a (by simp))
      have hb := zFi n b (h2 b (by simp))
      simp only [List.map_cons, List.map_nil, List.sum_cons, List.sum_nil]
      omega
theorem specCount (d : Int) : ∀ (n m : Nat) (e : zH), shapeB d n e = true → n ≤ m → n ≤ 10 → m ≤ 100 → uO e (m : Int) = some ((cnt n e : Nat) : Int)
  | 0, m, e, h, _, _, _ => by cases h
  | n + 1, m, e, h, hm, h10, h100 => by
    have hc := zFi (n + 1) e h
    have hpw : 2 ^ (n + 1) ≤ 2 ^ 10 := Nat.pow_le_pow_right (by omega) h10
    obtain ⟨h1, h2⟩ := mU h
    have hpos : ((m : Int) > 0) := by omega
    have hW : W ((m : Int) - 1) = ((m - 1 : Nat) : Int) := by rw [sR (by omega) (by omega)]; omega
    rw [uO]
    simp only [same, cnt] at hc ⊢
    rcases h1 with hk | ⟨a, b, hk⟩
    · rw [wP]
      simp [hk]
    · rw [hk] at h2 hc ⊢
      have ha := specCount d n (m - 1) a (h2 a (by simp)) (by omega) (by omega) (by omega)
      have hb := specCount d n (m - 1) b (h2 b (by simp)) (by omega) (by omega) (by omega)
      simp only [List.map_cons, List.map_nil, List.sum_cons, List.sum_nil] at hc ⊢
      have l0 : ((0 : Int) < (e.Kids.length : Int)) := by rw [hk]; simp
      have l1 : ((1 : Int) < (e.Kids.length : Int)) := by rw [hk]; simp
      have l2 : ¬ ((2 : Int) < (e.Kids.length : Int)) := by rw [hk]; simp
      have i0 : idx e.Kids 0 = some a := by rw [hk]; rfl
      have i1 : idx e.Kids 1 = some b := by rw [hk]; rfl
      have w0 : W ((0 : Int) + 1) = 1 := by rw [sR (by omega) (by omega)]; rfl
      have w1 : W ((1 : Int) + 1) = 2 := by rw [sR (by omega) (by omega)]; rfl
      rw [wP]
      simp only [l0, hpos, decide_true, if_true, Option.pure_def, Option.bind_eq_bind, Option.bind_some, i0, same, hW, ha, w0]
      rw [wP]
      simp only [l1, hpos, decide_true, if_true, Option.pure_def, Option.bind_eq_bind, Option.bind_some, i1, same, hW, hb, w1]
      rw [wP]
      simp only [l2, decide_false, Bool.false_eq_true, if_false, Option.pure_def, Option.bind_eq_bind, Option.bind_some, id]
      generalize cnt n a = x at hc ⊢
      generalize cnt n b = y at hc ⊢
      have e1 : W ((1 : Int) + (x : Int)) = ((1 + x : Nat) : Int) := by rw [sR (by omega) (by omega)]; omega
      have e2 : W (((1 + x : Nat) : Int) + (y : Int)) = ((1 + x + y : Nat) : Int) := by rw [sR (by omega) (by omega)]; omega
      rw [e1, e2]
      congr 2
      omega
/-! The program's scan. -/
def headB (e : zH) (d : Int) : Bool := (kidsN e.Kind == (e.Kids.length : Int)) && ownB e d
theorem zGS (e : zH) (d deep c : Int) (h1 : BA e.Index) (h2 : BL e.Read.Subs) (hc : ¬ (W (c + 1) > 12)) (hd : ¬ (deep > 5)) :
    wY e d deep c = if headB e d = true then (if e.Kids.length = 0 then some (true, W (c + 1)) else (do
       let x1 ← idx e.Kids 0
       let (y12, y13) ← wY x1 d (W (deep + 1)) (W (c + 1))
       if y12 then
        let x2 ← idx e.Kids 1
        let (y15, y16) ← wY x2 d (W (deep + 1)) y13
        pure (y15, y16)
       else
        pure (false, y13))) else some (false, W (c + 1)) := by
  have h' : e.Index.Coefs.length ≤ 1048576 := by unfold BA at h1; omega
  have hop : kA e.Kind = some (decide (4 ≤ e.Kind) && decide (e.Kind ≤ 6)) := by unfold kA; rw [pA]; rfl
  rw [wY]
  simp only [hc, hd, decide_false, Bool.false_eq_true, if_false, Option.pure_def, Option.bind_eq_bind, Option.bind_some, implNoA, implNoC, implValid _ h', implDepth _ h', implAccess _ h2, hop, pA, len0, same, headB, ownB]
  by_cases k1 : e.Kind = 1
  · have hk : kidsN e.Kind = 0 := by rw [k1]; rfl
    have b1 : (e.Kind != 1) = false := by simp [k1]
    have b1' : (e.Kind == 1) = true := by simp [k1]
    have b2 : (e.Kind != 2) = true := by simp [k1]
    have b3 : (e.Kind != 3) = true := by simp [k1]
    have n2 : ¬ e.Kind = 2 := by omega
    have n3 : ¬ e.Kind = 3 := by omega
    have hz : ((0 : Int) == (e.Kids.length : Int)) = decide (e.Kids.length = 0) := by rw [← len0]; exact Bool.beq_comm
    simp only [b1, b1', b2, b3, hk, hz, n2, n3, k1, show kidsN 1 = 0 from rfl, if_true, if_false, Bool.false_eq_true]
    cases noA e.Index <;> cases noC e.Read <;> cases (decide (0 ≤ e.Num) && decide (e.Num ≤ 99)) <;> by_cases hl : e.Kids.length = 0 <;> simp [hl]
  · have b1 : (e.Kind != 1) = true := by simp [k1]
    have b1' : (e.Kind == 1) = false := by simp [k1]
    by_cases k2 : e.Kind = 2
    · have hk : kidsN e.Kind = 0 := by rw [k2]; rfl
      have b2 : (e.Kind != 2) = false := by simp [k2]
      have b2' : (e.Kind == 2) = true := by simp [k2]
      have b3 : (e.Kind != 3) = true := by simp [k2]
      have hz : ((0 : Int) == (e.Kids.length : Int)) = decide (e.Kids.length = 0) := by rw [← len0]; exact Bool.beq_comm
      simp only [b1, b1', b2, b2', b3, hk, hz, k2, show kidsN 2 = 0 from rfl, if_true, if_false, Bool.false_eq_true, zHC, bne]
      cases (e.Num == 0) <;> cases noC e.Read <;> cases validB e.Index <;> by_cases hdd : (depF e.Index : Int) ≤ d <;> by_cases hl : e.Kids.length = 0 <;> simp [hl, hdd]
    · have b2 : (e.Kind != 2) = true := by simp [k2]
      have b2' : (e.Kind == 2) = false := by simp [k2]
      by_cases k3 : e.Kind = 3
      · have hk : kidsN e.Kind = 0 := by rw [k3]; rfl
        have b3 : (e.Kind != 3) = false := by simp [k3]
        have b3' : (e.Kind == 3) = true := by simp [k3]
        have hz : ((0 : Int) == (e.Kids.length : Int)) = decide (e.Kids.length = 0) := by rw [← len0]; exact Bool.beq_comm
        simp only [b1, b1', b2, b2', b3, b3', hk, hz, k3, k2, show kidsN 3 = 0 from rfl, if_true, if_false, Bool.false_eq_true, bne]
        cases (e.Num == 0) <;> cases noA e.Index <;> cases accB e.Read d <;> by_cases hl : e.Kids.length = 0 <;> simp [hl]
      · have b3 : (e.Kind != 3) = true := by simp [k3]
        have b3' : (e.Kind == 3) = false := by simp [k3]
        simp only [b1, b1', b2, b2', b3, b3', k1, k2, k3, if_true, if_false, Bool.false_eq_true, bne]
        by_cases ho : 4 ≤ e.Kind ∧ e.Kind ≤ 6
        · have hk : kidsN e.Kind = 2 := by unfold kidsN; rw [if_neg (by omega), if_pos (by omega)]
          have hz : ((2 : Int) == (e.Kids.length : Int)) = decide (e.Kids.length = 2) := by
            by_cases hl : e.Kids.length = 2
            · simp [hl]
            · have : ¬ (2 : Int) = (e.Kids.length : Int) := by omega
              simp [hl, this]
          have hz' : ((e.Kids.length : Int) == 2) = decide (e.Kids.length = 2) := by rw [← hz]; exact Bool.beq_comm
          simp only [hk, hz, hz', ho.1, ho.2, decide_true, Bool.true_and]
          have eta : ∀ (o : Option (Bool × Int)), (o.bind fun x => some (x.fst, x.snd)) = o := by rintro (_ | ⟨a, b⟩) <;> rfl
          cases (e.Num == 0) <;> cases noA e.Index <;> cases noC e.Read <;> by_cases hl : e.Kids.length = 2 <;> first | (simp [hl]; done) | (simp [hl]; exact eta _)
        · have hk : kidsN e.Kind = -1 := by unfold kidsN; rw [if_neg (by omega), if_neg (by omega)]
          have hz : ((-1 : Int) == (e.Kids.length : Int)) = false := beq_false_of_ne (by omega)
          have ho' : (decide (4 ≤ e.Kind) && decide (e.Kind ≤ 6)) = false := by
            rw [Bool.and_eq_false_iff]; simp; omega
          simp only [hk, hz, ho']
          cases (e.Num == 0) <;> cases noA e.Index <;> cases noC e.Read <;> simp
theorem implScan (d : Int) : ∀ (L m : Nat) (e : zH) (c : Nat), L ≤ 5 → BE m e → c ≤ 12 → ∃ r c', wY e d (6 - (L : Int)) (c : Int) = some (r, c') ∧ (shapeB d L e = true ∧ c + cnt L e ≤ 12 → r = true ∧ c' = ((c + cnt L e : Nat) : Int)) ∧ (¬ (shapeB d L e = true ∧ c + cnt L e ≤ 12) → r = false)
  | 0, m, e, c, hL, hb, hc => by
    have hw : W ((c : Int) + 1) = ((c + 1 : Nat) : Int) := tV (by omega)
    rw [wY]
    have hd : ((6 : Int) - ((0 : Nat) : Int) > 5) := by omega
    simp only [hd, decide_true, Option.pure_def]
    refine ⟨false, W ((c : Int) + 1), ?_, ⟨fun h => (by cases h.1), fun _ => rfl⟩⟩
    by_cases h : W ((c : Int) + 1) > 12 <;> simp [h]
  | L + 1, m, e, c, hL, hb, hc => by
    have hw : W ((c : Int) + 1) = ((c + 1 : Nat) : Int) := tV (by omega)
    obtain ⟨b1, b2, b3⟩ := hb.own
    have hd : ¬ ((6 : Int) - ((L + 1 : Nat) : Int) > 5) := by omega
    have hdw : W ((6 : Int) - ((L + 1 : Nat) : Int) + 1) = 6 - (L : Int) := by rw [sR (by omega) (by omega)]; omega
    have hcp : 1 ≤ cnt (L + 1) e := by rw [cnt]; omega
    by_cases hc12 : c + 1 > 12
    · rw [wY]
      have h12 : (W ((c : Int) + 1) > 12) := by rw [hw]; omega
      simp only [h12, decide_true, if_true, Option.pure_def, Option.bind_eq_bind, Option.bind_some]
      exact ⟨false, _, rfl, fun h => absurd h.2 (by omega), fun _ => rfl⟩
    · have h12 : ¬ (W ((c : Int) + 1) > 12) := by rw [hw]; omega
      rw [zGS e d _ _ b1 b2 h12 hd]
      by_cases hh : headB e d = true
      · rw [if_pos hh]
        have hsh : shapeB d (L + 1) e = e.Kids.all (shapeB d L) := by
          unfold headB at hh
          rw [shapeB, hh, Bool.true_and]
        by_cases hl : e.Kids.length = 0
        · rw [if_pos hl]
          have hn : e.Kids = [] := List.length_eq_zero_iff.1 hl
          refine ⟨true, _, rfl, fun _ => ⟨rfl, ?_⟩, fun h => absurd ⟨by rw [hsh, hn]; rfl, by rw [cnt, hn]; simp; omega⟩ h⟩
          rw [hw, cnt, hn]; rfl
        · rw [if_neg hl]
          have hkn : ∃ a b, e.Kids = [a, b] := by
            simp only [headB, Bool.and_eq_true] at hh
            have := eq_of_beq hh.1
            unfold kidsN at this
            match hk : e.Kids with
            | [] => rw [hk] at hl; simp at hl
            | [a] => rw [hk] at this; simp at this; split at this <;> (try split at this) <;> omega
            | [a, b] => exact ⟨a, b, rfl⟩
            | a :: b :: c :: r => rw [hk] at this; simp at this; split at this <;> (try split at this) <;> omega
          obtain ⟨a, b, hk⟩ := hkn
          obtain ⟨m1, _, hba⟩ := hb.kid (k := a) (by rw [hk]; simp)
          obtain ⟨m2, _, hbb⟩ := hb.kid (k := b) (by rw [hk]; simp)
          have i0 : idx e.Kids 0 = some a := by rw [hk]; rfl
          have i1 : idx e.Kids 1 = some b := by rw [hk]; rfl
          have hcnt : cnt (L + 1) e = 1 + (cnt L a + cnt L b) := by rw [cnt, hk]; simp
          have hsh2 : shapeB d (L + 1) e = (shapeB d L a && shapeB d L b) := by rw [hsh, hk]; simp
          rw [hdw, hw]
          obtain ⟨r1, c1, e1, k1, k2⟩ := implScan d L m1 a (c + 1) (by omega) hba (by omega)
          simp only [i0, i1, e1, Option.bind_eq_bind, Option.bind_some, Option.pure_def]
          by_cases q1 : shapeB d L a = true ∧ c + 1 + cnt L a ≤ 12
          · obtain ⟨rfl, rfl⟩ := k1 q1
            obtain ⟨r2, c2, e2, k3, k4⟩ := implScan d L m2 b (c + 1 + cnt L a) (by omega) hbb q1.2
            simp only [if_true, e2, Option.bind_some]
            refine ⟨r2, c2, rfl, fun h => ?_, fun h => ?_⟩
            · rw [hsh2, hcnt, Bool.and_eq_true] at h
              obtain ⟨rfl, rfl⟩ := k3 ⟨h.1.2, by omega⟩
              refine ⟨rfl, ?_⟩
              rw [hcnt]; congr 1; omega
            · refine k4 fun h' => h ⟨by rw [hsh2, q1.1, h'.1]; rfl, by rw [hcnt]; omega⟩
          · obtain rfl := k2 q1
            simp only [Bool.false_eq_true, if_false]
            refine ⟨false, c1, rfl, fun h => ?_, fun _ => rfl⟩
            rw [hsh2, hcnt, Bool.and_eq_true] at h
            exact absurd ⟨h.1.1, by omega⟩ q1
      · rw [if_neg hh]
        refine ⟨false, _, rfl, fun h => ?_, fun _ => rfl⟩
        have := h.1
        unfold headB at hh
        rw [shapeB, Bool.and_eq_true] at this
        exact absurd this.1 hh
/-! Statements. -/
def BS (s : zR) : Prop := BL s.Write.Subs ∧ ∃ m, BE m s.Value
def stmtB (s : zR) (d : Int) : Bool := (decide (0 ≤ d) && decide (d ≤ 4)) && accB s.Write d && (shapeB d 5 s.Value && decide (cnt 5 s.Value ≤ 12))
theorem implStmt (s : zR) (d : Int) (h : BS s) : oC s d = some (stmtB s d) := by
  obtain ⟨h1, m, h2⟩ := h
  unfold oC stmtB
  rw [pA, implAccess _ h1]
  obtain ⟨r, c', e1, k1, k2⟩ := implScan d 5 m s.Value 0 (by omega) h2 (by omega)
  rw [show (6 : Int) - ((5 : Nat) : Int) = 1 by omega, Int.natCast_zero] at e1
  rw [e1]
  simp only [Nat.zero_add] at k1 k2
  have hr : r = (shapeB d 5 s.Value && decide (cnt 5 s.Value ≤ 12)) := by
    by_cases q : shapeB d 5 s.Value = true ∧ cnt 5 s.Value ≤ 12
    · rw [(k1 q).1, q.1]; simp [q.2]
    · rw [k2 q]
      cases hs : shapeB d 5 s.Value with
      | false => rfl
      | true =>
        have : ¬ cnt 5 s.Value ≤ 12 := fun h => q ⟨hs, h⟩
        simp [this]
  rw [hr]
  cases (decide (0 ≤ d) && decide (d ≤ 4)) <;> cases accB s.Write d <;> simp
theorem specStmt (s : zR) (d : Int) (h : BS s) : uY s d = some (stmtB s d) := by
  obtain ⟨h1, m, h2⟩ := h
  unfold uY stmtB
  have hs := specShape d 5 m s.Value (by omega) h2
  rw [show ((5 : Nat) : Int) = 5 from rfl] at hs
  rw [specAccess _ h1, hs]
  by_cases d0 : 0 ≤ d
  · have d0' : ¬ d < 0 := by omega
    by_cases d4 : d ≤ 4
    · have d4' : ¬ d > 4 := by omega
      cases accB s.Write d with
      | false => simp [d0, d0', d4, d4']
      | true =>
        cases hsh : shapeB d 5 s.Value with
        | false => simp [d0, d0', d4, d4']
        | true =>
          have hc := specCount d 5 5 s.Value hsh (by omega) (by omega) (by omega)
          rw [show ((5 : Nat) : Int) = 5 from rfl] at hc
          have e : decide (((cnt 5 s.Value : Nat) : Int) ≤ 12) = decide (cnt 5 s.Value ≤ 12) := by simp; omega
          simp [d0, d0', d4, d4', hc, e]
    · have d4' : d > 4 := by omega
      simp [d0, d0', d4, d4']
  · have d0' : d < 0 := by omega
    simp [d0, d0']
end Go.LN
