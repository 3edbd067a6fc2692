/- Values: reads, the cells of a statement, points. -/
import Derived.Test.YtaedjkaagcbkdaaGreatVB6
namespace Go.LN
set_option linter.unusedVariables false
set_option linter.unusedSimpArgs false
theorem specCopyAff (a : zA) (h : BA a) : uG a = some a := by
  obtain ⟨C, k⟩ := a
  unfold uG BA at *
  simp only [len0] at h ⊢
  by_cases h0 : C.length = 0
  · have : C = [] := List.length_eq_zero_iff.1 h0
    subst this; rfl
  · have hpn : app 8 ([] : List Int) C = some C := jW C (by omega)
    simp only [h0, decide_false, Bool.false_eq_true, if_false, hpn, Option.bind_eq_bind, Option.bind_some]
    rfl
theorem zD4 (a : zK) (h : BL a.Subs) : ∀ (j i : Nat) (o : List zA), i + j = a.Subs.length → o.length = i → xO a (i : Int) o = some (o ++ a.Subs.drop i) := by
  obtain ⟨h1, h2⟩ := h
  intro j
  induction j with
  | zero =>
    intro i o hi ho
    rw [xO]
    have : ¬ ((i : Int) < (a.Subs.length : Int)) := by omega
    simp only [this, decide_false, Bool.false_eq_true, if_false]
    rw [show a.Subs.drop i = [] from List.drop_eq_nil_iff.2 (by omega), List.append_nil]; rfl
  | succ j ih =>
    intro i o hi ho
    rw [xO]
    have hlt : i < a.Subs.length := by omega
    have hc : ((i : Int) < (a.Subs.length : Int)) := by omega
    have happ : app 32 o [a.Subs[i]] = some (o ++ [a.Subs[i]]) := oN (by simp; omega)
    simp only [hc, decide_true, if_true, xH hlt, Option.bind_eq_bind, Option.bind_some, specCopyAff _ (h2 _ (List.getElem_mem hlt)), happ]
    rw [tV (by omega), ih (i + 1) _ (by omega) (by simp [ho]), List.append_assoc, List.singleton_append, ← List.drop_eq_getElem_cons hlt]
theorem specCopyAcc (a : zK) (h : BL a.Subs) : wV a = some a := by
  unfold wV
  have := zD4 a h _ 0 [] (Nat.zero_add _) rfl
  rw [Int.natCast_zero, List.drop_zero, List.nil_append] at this
  rw [this]; rfl
def readsF : Nat → zH → List zK
  | 0, _ => []
  | n + 1, e => if e.Kind = 3 then [e.Read] else e.Kids.flatMap (readsF n)
theorem zD5 {d : Int} {n : Nat} {e : zH} (h : shapeB d (n + 1) e = true) (h3 : e.Kind = 3) : e.Kids = [] ∧ accB e.Read d = true := by
  simp only [shapeB, Bool.and_eq_true] at h
  have hk := eq_of_beq h.1.1
  rw [h3, show kidsN 3 = 0 from rfl] at hk
  refine ⟨List.length_eq_zero_iff.1 (by omega), ?_⟩
  have ho := h.1.2
  simp only [ownB, h3, show ¬ (3 : Int) = 2 by decide, if_false, if_true, Bool.and_eq_true] at ho
  exact ho.2
theorem zD6 {d : Int} : ∀ (n : Nat) (e : zH), shapeB d n e = true → ∀ a ∈ readsF n e, accB a d = true
  | 0, e, h, a, ha => by cases ha
  | n + 1, e, h, a, ha => by
    rw [readsF] at ha
    by_cases h3 : e.Kind = 3
    · rw [if_pos h3] at ha
      rw [List.mem_singleton.1 ha]
      exact (zD5 h h3).2
    · rw [if_neg h3] at ha
      obtain ⟨k, hk, hk'⟩ := List.mem_flatMap.1 ha
      exact zD6 n k ((mU h).2 k hk) a hk'
theorem nT {d : Int} : ∀ (n : Nat) (e : zH), shapeB d n e = true → (readsF n e).length ≤ 2 ^ n
  | 0, e, h => by cases h
  | n + 1, e, h => by
    have hp := Nat.one_le_two_pow (n := n)
    rw [readsF, Nat.pow_succ]
    by_cases h3 : e.Kind = 3
    · rw [if_pos h3]; simp; omega
    · rw [if_neg h3]
      obtain ⟨h1, h2⟩ := mU h
      rcases h1 with hk | ⟨a, b, hk⟩
      · rw [hk]; simp
      · rw [hk] at h2 ⊢
        have ha := nT n a (h2 a (by simp))
        have hb := nT n b (h2 b (by simp))
        simp only [List.flatMap_cons, List.flatMap_nil, List.append_nil, List.length_append]
        omega
theorem implReads {d : Int} : ∀ (n : Nat) (e : zH), shapeB d n e = true → n ≤ 10 → oM e = some (readsF n e)
  | 0, e, h, _ => by cases h
  | n + 1, e, h, hn => by
    have hpw : 2 ^ n ≤ 2 ^ 10 := Nat.pow_le_pow_right (by omega) (by omega)
    rw [oM, readsF]
    by_cases h3 : e.Kind = 3
    · have : (e.Kind == 3) = true := by simpa using h3
      rw [if_pos h3, if_pos this]; rfl
    · have : (e.Kind == 3) = false := by simpa using h3
      rw [if_neg h3]
      simp only [this, Bool.false_eq_true, if_false, same]
      obtain ⟨h1, h2⟩ := mU h
      rcases h1 with hk | ⟨a, b, hk⟩
      · rw [rY]
        simp [hk]
      · rw [hk] at h2 ⊢
        have ra := implReads n a (h2 a (by simp)) (by omega)
        have rb := implReads n b (h2 b (by simp)) (by omega)
        have la := nT n a (h2 a (by simp))
        have lb := nT n b (h2 b (by simp))
        have l0 : ((0 : Int) < (e.Kids.length : Int)) := by rw [hk]; simp
        have l1 : ((1 : Int) < (e.Kids.length : Int)) := by rw [hk]; simp
        have l2 : ¬ ((2 : Int) < (e.Kids.length : Int)) := by rw [hk]; simp
        have i0 : idx e.Kids 0 = some a := by rw [hk]; rfl
        have i1 : idx e.Kids 1 = some b := by rw [hk]; rfl
        have w0 : W ((0 : Int) + 1) = 1 := by rw [sR (by omega) (by omega)]; rfl
        have w1 : W ((1 : Int) + 1) = 2 := by rw [sR (by omega) (by omega)]; rfl
        have p0 : app 40 ([] : List zK) (readsF n a) = some (readsF n a) := by rw [oN (by simp; omega)]; rfl
        have p1 : app 40 (readsF n a) (readsF n b) = some (readsF n a ++ readsF n b) := oN (by omega)
        rw [rY]
        simp only [l0, decide_true, if_true, Option.bind_eq_bind, Option.bind_some, i0, same, ra, p0, w0]
        rw [rY]
        simp only [l1, decide_true, if_true, Option.bind_eq_bind, Option.bind_some, i1, same, rb, p1, w1]
        rw [rY]
        simp only [l2, decide_false, Bool.false_eq_true, if_false, Option.pure_def, Option.bind_some, id, List.flatMap_cons, List.flatMap_nil, List.append_nil]
theorem specReads {d : Int} : ∀ (n m : Nat) (e : zH) (out : List zK), shapeB d n e = true → BE m e → n ≤ 10 → out.length ≤ 1000000 - 2 ^ n → uN out e = some (out ++ readsF n e)
  | 0, m, e, out, h, _, _, _ => by cases h
  | n + 1, m, e, out, h, hb, hn, ho => by
    have hpw : 2 ^ n ≤ 2 ^ 10 := Nat.pow_le_pow_right (by omega) (by omega)
    have hps : 2 ^ (n + 1) = 2 ^ n * 2 := Nat.pow_succ ..
    have hp := Nat.one_le_two_pow (n := n)
    rw [uN, readsF]
    by_cases h3 : e.Kind = 3
    · have : (e.Kind == 3) = true := by simpa using h3
      obtain ⟨hk, _⟩ := zD5 h h3
      have hpa : app 40 out [e.Read] = some (out ++ [e.Read]) := oN (by simp; omega)
      rw [if_pos h3]
      simp only [this, if_true, Option.bind_eq_bind, Option.bind_some, specCopyAcc _ hb.own.2.1, hpa, Option.pure_def, id, same]
      rw [xR]
      simp [hk]
    · have : (e.Kind == 3) = false := by simpa using h3
      rw [if_neg h3]
      simp only [this, Bool.false_eq_true, if_false, Option.bind_eq_bind, Option.bind_some, Option.pure_def, id, same]
      obtain ⟨h1, h2⟩ := mU h
      rcases h1 with hk | ⟨a, b, hk⟩
      · rw [xR]
        simp [hk]
      · obtain ⟨m1, _, hba⟩ := hb.kid (k := a) (by rw [hk]; simp)
        obtain ⟨m2, _, hbb⟩ := hb.kid (k := b) (by rw [hk]; simp)
        rw [hk] at h2 ⊢
        have la := nT n a (h2 a (by simp))
        have ra := specReads n m1 a out (h2 a (by simp)) hba (by omega) (by omega)
        have rb := specReads n m2 b (out ++ readsF n a) (h2 b (by simp)) hbb (by omega) (by rw [List.length_append]; omega)
        have l0 : ((0 : Int) < (e.Kids.length : Int)) := by rw [hk]; simp
        have l1 : ((1 : Int) < (e.Kids.length : Int)) := by rw [hk]; simp
        have l2 : ¬ ((2 : Int) < (e.Kids.length : Int)) := by rw [hk]; simp
        have i0 : idx e.Kids 0 = some a := by rw [hk]; rfl
        have i1 : idx e.Kids 1 = some b := by rw [hk]; rfl
        have w0 : W ((0 : Int) + 1) = 1 := by rw [sR (by omega) (by omega)]; rfl
        have w1 : W ((1 : Int) + 1) = 2 := by rw [sR (by omega) (by omega)]; rfl
        rw [xR]
        simp only [l0, decide_true, if_true, Option.bind_eq_bind, Option.bind_some, i0, same, ra, w0]
        rw [xR]
        simp only [l1, decide_true, if_true, Option.bind_eq_bind, Option.bind_some, i1, same, rb, w1]
        rw [xR]
        simp only [l2, decide_false, Bool.false_eq_true, if_false, Option.pure_def, Option.bind_some, id, List.flatMap_cons, List.flatMap_nil, List.append_nil, List.append_assoc]
/-! The cells of a statement. -/
def cellA (A : List zJ) (p : List Int) (a : zK) : Int := cellF a p A 0
def stOk (A : List zJ) (s : zR) (p : List Int) : Bool := decide (0 ≤ cellA A p s.Write) && (readsF 5 s.Value).all fun a => decide (0 ≤ cellA A p a)
theorem zD7 {s : zR} {d : Int} (h : stmtB s d = true) : AV s.Write ∧ shapeB d 5 s.Value = true ∧ ∀ a ∈ readsF 5 s.Value, AV a := by
  simp only [stmtB, Bool.and_eq_true] at h
  exact ⟨AV.of h.1.2, h.2.1, fun a ha => AV.of (zD6 5 _ h.2.1 a ha)⟩
theorem implStmtOk (P : zZ) (s : zR) (p : List Int) {d : Int} (h : stmtB s d = true) (hp : p.length ≤ 4) (hR : RV P.Arrays) : sV P s p = some (stOk P.Arrays s p) := by
  obtain ⟨h1, h2, h3⟩ := zD7 h
  have hl := nT 5 _ h2
  unfold sV stOk
  have hc := zEa (f := fun x0 => vH x0 P p) (p := fun a => !(decide (0 ≤ cellA P.Arrays p a))) (readsF 5 s.Value) (fun a ha => by
      unfold vH
      rw [implCell P a p (h3 a ha) hp hR]
      simp only [Option.bind_eq_bind, Option.bind_some, Option.pure_def, cellA]
      by_cases q : 0 ≤ cellF a p P.Arrays 0
      · have : ¬ cellF a p P.Arrays 0 < 0 := by omega
        simp [q, this]
      · have : cellF a p P.Arrays 0 < 0 := by omega
        simp [q, this]) (by omega)
  rw [implCell P s.Write p h1 hp hR, implReads 5 s.Value h2 (by omega)]
  simp only [Option.bind_eq_bind, Option.bind_some, hc, Option.pure_def, cellA]
  by_cases q : 0 ≤ cellF s.Write p P.Arrays 0
  · have : cellF s.Write p P.Arrays 0 ≥ 0 := q
    simp only [this, q, decide_true, if_true, Option.bind_some, id, Bool.true_and]
    rw [List.not_any_eq_all_not]
    simp
  · have : ¬ cellF s.Write p P.Arrays 0 ≥ 0 := q
    simp [this, q]
theorem zEg (l : List zJ) (p : List Int) (ys : List zK) (hy : ys.length ≤ 1048576) (ha : ∀ a ∈ ys, AV a) (hp : p.length ≤ 4) (hR : RV l) : ∀ (j i : Nat) (o : List Int), i + j = ys.length → o.length = i →
    vK l p ys o (i : Int) = some (if (ys.drop i).all (fun a => decide (0 ≤ cellA l p a)) then .done (o ++ (ys.drop i).map (cellA l p)) else .ret ([], 0, false)) := by
  intro j
  induction j with
  | zero =>
    intro i o hi ho
    rw [vK]
    have : ¬ ((i : Int) < (ys.length : Int)) := by omega
    simp only [this, decide_false, Bool.false_eq_true, if_false]
    rw [show ys.drop i = [] from List.drop_eq_nil_iff.2 (by omega)]
    simp
  | succ j ih =>
    intro i o hi ho
    rw [vK]
    have hlt : i < ys.length := by omega
    have hc : ((i : Int) < (ys.length : Int)) := by omega
    have happ : ∀ v : Int, app 8 o [v] = some (o ++ [v]) := fun v => oN (by simp; omega)
    simp only [hc, decide_true, if_true, xH hlt, Option.bind_eq_bind, Option.bind_some, specCell l _ p (ha _ (List.getElem_mem hlt)) hp hR, happ]
    rw [tV (by omega), List.drop_eq_getElem_cons hlt, List.all_cons, List.map_cons]
    by_cases q : 0 ≤ cellA l p ys[i]
    · have : ¬ cellF ys[i] p l 0 < 0 := by unfold cellA at q; omega
      simp only [this, q, decide_false, decide_true, Bool.false_eq_true, if_false, Bool.true_and]
      rw [ih (i + 1) _ (by omega) (by simp [ho]), List.append_assoc, List.singleton_append]
      rfl
    · have : cellF ys[i] p l 0 < 0 := by unfold cellA at q; omega
      simp only [this, q, decide_false, decide_true, if_true, Bool.false_and, Bool.false_eq_true, if_false]
      rfl
theorem specCells (l : List zJ) (s : zR) (p : List Int) {d : Int} (h : stmtB s d = true) (hs : BS s) (hp : p.length ≤ 4) (hR : RV l) : qO l s p = some (if stOk l s p then ((readsF 5 s.Value).map (cellA l p), cellA l p s.Write, true) else ([], 0, false)) := by
  obtain ⟨h1, h2, h3⟩ := zD7 h
  obtain ⟨_, m, hb⟩ := hs
  have hl := nT 5 _ h2
  unfold qO stOk
  have hr := specReads 5 m s.Value [] h2 hb (by omega) (by simp)
  rw [List.nil_append] at hr
  have hc := zEg l p (readsF 5 s.Value) (by omega) h3 hp hR _ 0 [] (Nat.zero_add _) rfl
  rw [Int.natCast_zero, List.drop_zero, List.nil_append] at hc
  rw [hr]
  simp only [Option.bind_eq_bind, Option.bind_some, hc]
  cases hA : (readsF 5 s.Value).all fun a => decide (0 ≤ cellA l p a) with
  | false => simp
  | true =>
    simp only [if_true, Option.bind_some, specCell l s.Write p h1 hp hR, Bool.and_true, Option.pure_def]
    by_cases q : 0 ≤ cellA l p s.Write
    · have : ¬ cellF s.Write p l 0 < 0 := by unfold cellA at q; omega
      have q' : 0 ≤ cellF s.Write p l 0 := q
      simp [this, q', cellA]
    · have : cellF s.Write p l 0 < 0 := by unfold cellA at q; omega
      simp [this, q]
/-! Points. -/
def ptB (p : List Int) : Bool := decide (p.length ≤ 4) && p.all fun n => decide (-9999 ≤ n) && decide (n ≤ 9999)
theorem implPoint (p : List Int) (h : p.length ≤ 1048576) : nE p = some (ptB p) := by
  unfold nE ptB
  have hc := dK (f := rL) (p := fun n => !(decide (-9999 ≤ n) && decide (n ≤ 9999))) p (fun x _ => by unfold rL; rw [pA]; rfl) (by omega)
  have e : decide ((p.length : Int) ≤ 4) = decide (p.length ≤ 4) := by simp; omega
  rw [e]
  by_cases h4 : p.length ≤ 4
  · simp only [h4, decide_true, if_true, hc, Option.bind_eq_bind, Option.bind_some, Option.pure_def, id, Bool.true_and]
    rw [List.not_any_eq_all_not]
    simp
  · simp [h4]
theorem specPoint (p : List Int) (h : p.length ≤ 1048576) : qN p = some (ptB p) := by
  unfold qN ptB
  have hl := mH (n := p.length) (f := vJ p) (P := fun i => decide (-9999 ≤ p.getD i 0) && decide (p.getD i 0 ≤ 9999)) (fun i hi => by
      rw [vJ]
      have h1 : ((i : Int) < (p.length : Int)) := by omega
      have hg : p.getD i 0 = p[i] := by simp [hi]
      have hw : wK p[i] 9999 = some (decide (-9999 ≤ p[i]) && decide (p[i] ≤ 9999)) := by
        unfold wK
        rw [show W (0 - 9999) = -9999 by rw [sR (by omega) (by omega)]; rfl]
        by_cases q : -9999 ≤ p[i]
        · have : p[i] ≥ -9999 := q
          simp [q, this]
        · have : ¬ p[i] ≥ -9999 := q
          simp [q, this]
      simp only [h1, decide_true, if_true, xH hi, Option.bind_eq_bind, Option.bind_some, hg, hw]
      rw [tV (by omega)]
      cases (decide (-9999 ≤ p[i]) && decide (p[i] ≤ 9999)) <;> rfl) (by
      rw [vJ]; simp)
  rw [hl, mT p (fun n => decide (-9999 ≤ n) && decide (n ≤ 9999))]
  have e : decide ((p.length : Int) ≤ 4) = decide (p.length ≤ 4) := by simp; omega
  cases p.all fun n => decide (-9999 ≤ n) && decide (n ≤ 9999) with
  | false => simp
  | true => simp [e]
theorem zFx : ∀ (ls : List zI) (p q : List Int), q ∈ pts ls p → q.length = p.length + ls.length
  | [], p, q, h => by rw [pts, List.mem_singleton] at h; subst h; rfl
  | l :: ls, p, q, h => by
    rw [pts] at h
    obtain ⟨v, _, hv⟩ := List.mem_flatMap.1 h
    have := zFx ls (p ++ [v]) q hv
    rw [this]; simp; omega
theorem dL {nest : List zI} : (nestPts nest).1.length ≤ 120 ∧ ∀ q ∈ (nestPts nest).1, q.length ≤ 4 := by
  unfold nestPts
  split
  · rename_i h
    refine ⟨h.2.2, fun q hq => ?_⟩
    have := zFx nest [] q hq
    have := (zEf h.1).1
    simp at *; omega
  · exact ⟨by simp, fun q hq => by cases hq⟩
end Go.LN
