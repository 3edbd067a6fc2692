/- Values: parts, instances, validity of programs. -/
import Derived.Test.YtaedjkaagcbkdaaGreatVB7
namespace Go.LN
set_option linter.unusedVariables false
set_option linter.unusedSimpArgs false
def BP (x : zP) : Prop := BN x.Nest ∧ x.Body.length ≤ 100000 ∧ ∀ s ∈ x.Body, BS s
def bodyB (x : zP) : Bool := (decide (1 ≤ x.Body.length) && decide (x.Body.length ≤ 4)) && x.Body.all fun s => stmtB s (x.Nest.length : Int)
def partB (A : List zJ) (x : zP) : Bool := (nestPts x.Nest).2 && bodyB x && (nestPts x.Nest).1.all fun q => ptB q && x.Body.all fun s => stOk A s q
def instR (k : Int) (q : List Int) (i j : Nat) : List yI := (List.range' i j).map fun (i : Nat) => ⟨k, (i : Int), q⟩
theorem zEO (k : Int) (q : List Int) (i j : Nat) : (instR k q i j).length = j := by simp [instR]
theorem len14 (n : Nat) : (decide ((1 : Int) ≤ (n : Int)) && decide ((n : Int) ≤ 4)) = (decide (1 ≤ n) && decide (n ≤ 4)) := by
  have e1 : decide ((1 : Int) ≤ (n : Int)) = decide (1 ≤ n) := by simp; omega
  have e2 : decide ((n : Int) ≤ 4) = decide (n ≤ 4) := by simp; omega
  rw [e1, e2]
theorem zHb (P : zZ) (k : Int) (x : zP) (q : List Int) (hq : q.length ≤ 4) (hb : x.Body.length ≤ 4) (hs : ∀ s ∈ x.Body, stmtB s (x.Nest.length : Int) = true) (hR : RV P.Arrays) :
    ∀ (j i : Nat) (o : List yI), i + j = x.Body.length → o.length + j ≤ 1000000 → wB P k x q o (i : Int) = some (if (x.Body.drop i).all (fun s => stOk P.Arrays s q) then .done (o ++ instR k q i j) else .ret ([], false)) := by
  intro j
  induction j with
  | zero =>
    intro i o hi ho
    rw [wB]
    have : ¬ ((i : Int) < (x.Body.length : Int)) := by omega
    simp only [this, decide_false, Bool.false_eq_true, if_false]
    rw [show x.Body.drop i = [] from List.drop_eq_nil_iff.2 (by omega)]
    simp [instR]
  | succ j ih =>
    intro i o hi ho
    rw [wB]
    have hlt : i < x.Body.length := by omega
    have hc : ((i : Int) < (x.Body.length : Int)) := by omega
    have happ : app 40 o [(⟨k, (i : Int), q⟩ : yI)] = some (o ++ [⟨k, (i : Int), q⟩]) := oN (by simp; omega)
    simp only [hc, decide_true, if_true, xH hlt, Option.bind_eq_bind, Option.bind_some, implStmtOk P _ q (hs _ (List.getElem_mem hlt)) hq hR, zD3 q (by omega), happ]
    rw [tV (by omega), List.drop_eq_getElem_cons hlt, List.all_cons]
    cases stOk P.Arrays x.Body[i] q with
    | false => rfl
    | true =>
      simp only [Bool.not_true, Bool.false_eq_true, if_false, Bool.true_and]
      rw [ih (i + 1) _ (by omega) (by simp; omega), List.append_assoc]
      simp only [instR, List.range'_succ, List.map_cons, List.singleton_append]
def ptOk (A : List zJ) (x : zP) (q : List Int) : Bool := ptB q && x.Body.all fun s => stOk A s q
theorem zHc (P : zZ) (k : Int) (x : zP) (qs : List (List Int)) (hq : ∀ q ∈ qs, q.length ≤ 4) (hql : qs.length ≤ 120) (hb : x.Body.length ≤ 4) (hs : ∀ s ∈ x.Body, stmtB s (x.Nest.length : Int) = true) (hR : RV P.Arrays) :
    ∀ (j i : Nat) (o : List yI), i + j = qs.length → o.length + 4 * j ≤ 1000000 → wC P k x qs o (i : Int) = some (if (qs.drop i).all (ptOk P.Arrays x) then .done (o ++ (qs.drop i).flatMap fun q => instR k q 0 x.Body.length) else .ret ([], false)) := by
  intro j
  induction j with
  | zero =>
    intro i o hi ho
    rw [wC]
    have : ¬ ((i : Int) < (qs.length : Int)) := by omega
    simp only [this, decide_false, Bool.false_eq_true, if_false]
    rw [show qs.drop i = [] from List.drop_eq_nil_iff.2 (by omega)]
    simp
  | succ j ih =>
    intro i o hi ho
    rw [wC]
    have hlt : i < qs.length := by omega
    have hc : ((i : Int) < (qs.length : Int)) := by omega
    have hq4 := hq _ (List.getElem_mem hlt)
    have h3 := zHb P k x qs[i] hq4 hb hs hR x.Body.length 0 o (Nat.zero_add _) (by omega)
    rw [Int.natCast_zero, List.drop_zero] at h3
    simp only [hc, decide_true, if_true, xH hlt, Option.bind_eq_bind, Option.bind_some, implPoint _ (show qs[i].length ≤ 1048576 by omega), h3]
    rw [tV (by omega), List.drop_eq_getElem_cons hlt, List.all_cons, List.flatMap_cons, ptOk]
    cases ptB qs[i] with
    | false => rfl
    | true =>
      simp only [Bool.not_true, Bool.false_eq_true, if_false, Bool.true_and]
      cases x.Body.all fun s => stOk P.Arrays s qs[i] with
      | false => rfl
      | true =>
        simp only [if_true, Option.bind_some, Bool.true_and]
        rw [ih (i + 1) _ (by omega) (by rw [List.length_append, zEO]; omega), List.append_assoc]
def partI (k : Int) (x : zP) : List yI := (nestPts x.Nest).1.flatMap fun q => instR k q 0 x.Body.length
theorem zFT (k : Int) (b : Nat) : ∀ qs : List (List Int), (qs.flatMap fun q => instR k q 0 b).length = qs.length * b
  | [] => by simp
  | q :: qs => by rw [List.flatMap_cons, List.length_append, zEO, zFT k b qs, List.length_cons, Nat.succ_mul]; omega
theorem zEP (k : Int) (x : zP) : (partI k x).length = (nestPts x.Nest).1.length * x.Body.length := zFT _ _ _
theorem zD8 {x : zP} (h : bodyB x = true) : 1 ≤ x.Body.length ∧ x.Body.length ≤ 4 ∧ ∀ s ∈ x.Body, stmtB s (x.Nest.length : Int) = true := by
  simp only [bodyB, Bool.and_eq_true, decide_eq_true_eq] at h
  exact ⟨h.1.1, h.1.2, List.all_eq_true.1 h.2⟩
theorem zFU (k : Int) {A : List zJ} {x : zP} (h : partB A x = true) : (partI k x).length ≤ 480 := by
  simp only [partB, Bool.and_eq_true] at h
  obtain ⟨h1, h2, _⟩ := zD8 h.1.2
  have := (dL (nest := x.Nest)).1
  rw [zEP]
  exact Nat.mul_le_mul this h2
def gP (P : zZ) (i : Nat) : zP := P.Parts.getD i ⟨[], []⟩
theorem zHd (P : zZ) (hP : P.Parts.length ≤ 4) (hb : ∀ x ∈ P.Parts, BP x) (hR : RV P.Arrays) :
    ∀ (j i : Nat) (o : List yI), i + j = P.Parts.length → o.length ≤ 480 * i → wD P o (i : Int) = some (if (List.range' i j).all (fun i => partB P.Arrays (gP P i)) then .done (o ++ (List.range' i j).flatMap fun (i : Nat) => partI (i : Int) (gP P i)) else .ret ([], false)) := by
  intro j
  induction j with
  | zero =>
    intro i o hi ho
    rw [wD]
    have : ¬ ((i : Int) < (P.Parts.length : Int)) := by omega
    simp only [this, decide_false, Bool.false_eq_true, if_false]
    simp
  | succ j ih =>
    intro i o hi ho
    rw [wD]
    have hlt : i < P.Parts.length := by omega
    have hc : ((i : Int) < (P.Parts.length : Int)) := by omega
    obtain ⟨b1, b2, b3⟩ := hb _ (List.getElem_mem hlt)
    have hg : gP P i = P.Parts[i] := by simp [gP, hlt]
    have hcs := zE8 (f := fun x0 => wI x0 P.Parts[i]) (p := fun s => !(stmtB s (P.Parts[i].Nest.length : Int))) P.Parts[i].Body (fun s hs => by
        unfold wI
        rw [implStmt s _ (b3 s hs)]; rfl) (by omega)
    simp only [hc, decide_true, if_true, xH hlt, Option.bind_eq_bind, Option.bind_some, implPoints _ b1, pA, len14, hcs, Option.pure_def, id]
    rw [tV (by omega), List.range'_succ, List.all_cons, List.flatMap_cons, hg]
    have hnl := dL (nest := P.Parts[i].Nest)
    cases hn : (nestPts P.Parts[i].Nest).2 with
    | false => simp [partB, hn]
    | true =>
      cases hb4 : (decide (1 ≤ P.Parts[i].Body.length) && decide (P.Parts[i].Body.length ≤ 4)) with
      | false => simp [partB, bodyB, hb4]
      | true =>
        have hany : (P.Parts[i].Body.any fun s => !(stmtB s (P.Parts[i].Nest.length : Int))) = !(P.Parts[i].Body.all fun s => stmtB s (P.Parts[i].Nest.length : Int)) := by
          rw [Bool.eq_iff_iff]; simp
        simp only [Bool.not_true, Bool.false_eq_true, if_false, Option.bind_some, hany]
        cases hall : P.Parts[i].Body.all fun s => stmtB s (P.Parts[i].Nest.length : Int) with
        | false => simp [partB, bodyB, hall]
        | true =>
          have hbb : bodyB P.Parts[i] = true := by rw [bodyB, hb4, hall]; rfl
          obtain ⟨q1, q2, q3⟩ := zD8 hbb
          have h2 := zHc P (i : Int) P.Parts[i] (nestPts P.Parts[i].Nest).1 hnl.2 hnl.1 q2 q3 hR _ 0 o (Nat.zero_add _) (by have := hnl.1; omega)
          rw [Int.natCast_zero, List.drop_zero] at h2
          simp only [Bool.not_true, Bool.false_eq_true, if_false, h2]
          have hpB : partB P.Arrays P.Parts[i] = (nestPts P.Parts[i].Nest).1.all (ptOk P.Arrays P.Parts[i]) := by rw [partB, hn, hbb]; rfl
          rw [hpB]
          cases hpt : (nestPts P.Parts[i].Nest).1.all (ptOk P.Arrays P.Parts[i]) with
          | false => simp
          | true =>
            have hle := zFU (i : Int) (A := P.Arrays) (x := P.Parts[i]) (by rw [hpB, hpt])
            simp only [if_true, Option.bind_some, Bool.true_and]
            rw [show (o ++ (nestPts P.Parts[i].Nest).1.flatMap fun q => instR (i : Int) q 0 P.Parts[i].Body.length) = o ++ partI (i : Int) P.Parts[i] from rfl]
            rw [ih (i + 1) _ (by omega) (by rw [List.length_append]; omega), List.append_assoc]
def BG (P : zZ) : Prop := BR P.Arrays ∧ P.Parts.length ≤ 100000 ∧ ∀ x ∈ P.Parts, BP x
def progB (P : zZ) : Bool := arrB P.Arrays && decide (P.Parts.length ≤ 4) && (List.range' 0 P.Parts.length).all fun i => partB P.Arrays (gP P i)
def progI (P : zZ) : List yI := (List.range' 0 P.Parts.length).flatMap fun (i : Nat) => partI (i : Int) (gP P i)
def validP (P : zZ) : Bool := progB P && decide ((progI P).length ≤ 120)
theorem implInstances (P : zZ) (h : BG P) : rQ P = some (if progB P then (progI P, decide ((progI P).length ≤ 120)) else ([], false)) := by
  obtain ⟨h1, h2, h3⟩ := h
  unfold rQ progB
  rw [implArrays _ h1]
  cases ha : arrB P.Arrays with
  | false => simp
  | true =>
    by_cases h4 : P.Parts.length ≤ 4
    · have e : ¬ ((P.Parts.length : Int) > 4) := by omega
      have hl := zHd P h4 h3 (RV.of h1 ha) _ 0 [] (Nat.zero_add _) (by simp)
      rw [Int.natCast_zero, List.nil_append] at hl
      simp only [Bool.not_true, Bool.false_eq_true, if_false, e, decide_false, Option.pure_def, Option.bind_eq_bind, Option.bind_some, hl, h4, decide_true, Bool.true_and]
      cases hA : (List.range' 0 P.Parts.length).all fun i => partB P.Arrays (gP P i) with
      | false => simp
      | true =>
        simp only [if_true, progI]
        congr 2
        simp; omega
    · have e : ((P.Parts.length : Int) > 4) := by omega
      simp [e, h4]
/-! The reference. -/
theorem zEQ {R : Type} {r0 : R} {n : Nat} {f : Int → Option (Out Unit R)} {P : Nat → Bool} (step : ∀ i, i < n → f (i : Int) = if P i then f ((i + 1 : Nat) : Int) else some (.ret r0)) (fin : f (n : Int) = some (.done ())) : f 0 = some (if (List.range n).all P then .done () else .ret r0) := by
  have key : ∀ j i, i + j = n → f (i : Int) = some (if (List.range' i j).all P then .done () else .ret r0) := by
    intro j
    induction j with
    | zero => intro i hi; rw [show i = n by omega, fin]; rfl
    | succ j ih =>
      intro i hi
      rw [step i (by omega), List.range'_succ, List.all_cons]
      cases hP : P i with
      | false => simp
      | true => simp only [if_true, Bool.true_and]; exact ih (i + 1) (by omega)
  have := key n 0 (by omega)
  rw [List.range_eq_range']
  exact this
theorem zFV (A : List zJ) (x : zP) (qs : List (List Int)) (hq : ∀ q ∈ qs, q.length ≤ 4) (hql : qs.length ≤ 120) (i : Nat) (hi : i < x.Body.length) (hs : stmtB x.Body[i] (x.Nest.length : Int) = true) (hbs : BS x.Body[i]) (hR : RV A) :
    vF A x qs (i : Int) 0 = some (if qs.all (fun q => stOk A x.Body[i] q && ptB q) then .done () else .ret (0, false)) := by
  have hl := zEQ (r0 := ((0 : Int), false)) (n := qs.length) (f := vF A x qs (i : Int)) (P := fun k => stOk A x.Body[i] (qs.getD k []) && ptB (qs.getD k [])) (fun k hk => by
      rw [vF]
      have h1 : ((k : Int) < (qs.length : Int)) := by omega
      have hg : qs.getD k [] = qs[k] := by simp [hk]
      have hk4 := hq _ (List.getElem_mem hk)
      simp only [h1, decide_true, if_true, xH hi, xH hk, Option.bind_eq_bind, Option.bind_some, specCells A _ qs[k] hs hbs hk4 hR, specPoint _ (show qs[k].length ≤ 1048576 by omega), hg]
      rw [tV (by omega)]
      cases stOk A x.Body[i] qs[k] with
      | false => simp
      | true => cases ptB qs[k] <;> simp) (by
      rw [vF]; simp)
  rw [hl, mT qs (fun q => stOk A x.Body[i] q && ptB q)]
def EXz : zH := zH.mk 0 0 (zA.mk [] 0) (zK.mk ⟨[]⟩ []) []
theorem zFW (A : List zJ) (x : zP) (hx : BP x) (qs : List (List Int)) (hq : ∀ q ∈ qs, q.length ≤ 4) (hql : qs.length ≤ 120) (hR : RV A) :
    vG A x qs 0 = some (if x.Body.all (fun s => stmtB s (x.Nest.length : Int) && qs.all (fun q => stOk A s q && ptB q)) then .done () else .ret (0, false)) := by
  obtain ⟨b1, b2, b3⟩ := hx
  have hl := zEQ (r0 := ((0 : Int), false)) (n := x.Body.length) (f := vG A x qs) (P := fun i => (fun s => stmtB s (x.Nest.length : Int) && qs.all (fun q => stOk A s q && ptB q)) (x.Body.getD i ⟨⟨⟨[]⟩, []⟩, EXz⟩)) (fun i hi => by
      rw [vG]
      have h1 : ((i : Int) < (x.Body.length : Int)) := by omega
      have hg : x.Body.getD i ⟨⟨⟨[]⟩, []⟩, EXz⟩ = x.Body[i] := by simp [hi]
      have hbs := b3 _ (List.getElem_mem hi)
      simp only [h1, decide_true, if_true, xH hi, Option.bind_eq_bind, Option.bind_some, specStmt _ _ hbs, hg]
      rw [tV (by omega)]
      cases hst : stmtB x.Body[i] (x.Nest.length : Int) with
      | false => simp
      | true =>
        simp only [Bool.not_true, Bool.false_eq_true, if_false, zFV A x qs hq hql i hi hst hbs hR, Bool.true_and]
        cases qs.all (fun q => stOk A x.Body[i] q && ptB q) <;> simp) (by
      rw [vG]; simp)
  rw [hl, mT x.Body (fun s => stmtB s (x.Nest.length : Int) && qs.all (fun q => stOk A s q && ptB q))]
theorem zHD {A : List zJ} {x : zP} {qs : List (List Int)} (h1 : 1 ≤ x.Body.length) :
    (x.Body.all (fun s => stmtB s (x.Nest.length : Int) && qs.all (fun q => stOk A s q && ptB q))) = ((x.Body.all fun s => stmtB s (x.Nest.length : Int)) && qs.all (ptOk A x)) := by
  rw [Bool.eq_iff_iff, Bool.and_eq_true, List.all_eq_true, List.all_eq_true, List.all_eq_true]
  constructor
  · intro h
    refine ⟨fun s hs => ((Bool.and_eq_true _ _).mp (h s hs)).1, fun q hq => ?_⟩
    have hall : ∀ s ∈ x.Body, stOk A s q = true ∧ ptB q = true := fun s hs => by
      have := ((Bool.and_eq_true _ _).mp (h s hs)).2
      have := List.all_eq_true.1 this q hq
      rwa [Bool.and_eq_true] at this
    rw [ptOk, Bool.and_eq_true, List.all_eq_true]
    exact ⟨(hall x.Body[0] (List.getElem_mem (by omega))).2, fun s hs => (hall s hs).1⟩
  · rintro ⟨h2, h3⟩ s hs
    rw [Bool.and_eq_true, List.all_eq_true]
    refine ⟨h2 s hs, fun q hq => ?_⟩
    have := h3 q hq
    rw [ptOk, Bool.and_eq_true, List.all_eq_true] at this
    rw [Bool.and_eq_true]
    exact ⟨this.2 s hs, this.1⟩
theorem specPart (A : List zJ) (x : zP) (hx : BP x) (hR : RV A) : rP A x = some (if partB A x then (((nestPts x.Nest).1.length * x.Body.length : Nat) : Int) else 0, partB A x) := by
  have hnl := dL (nest := x.Nest)
  have hl := zFW A x hx (nestPts x.Nest).1 hnl.2 hnl.1 hR
  obtain ⟨b1, b2, b3⟩ := hx
  unfold rP partB
  rw [specPoints _ b1]
  cases hn : (nestPts x.Nest).2 with
  | false => simp [hn]
  | true =>
    by_cases q1 : 1 ≤ x.Body.length
    · have q1' : ¬ ((x.Body.length : Int) < 1) := by omega
      by_cases q2 : x.Body.length ≤ 4
      · have q2' : ¬ ((x.Body.length : Int) > 4) := by omega
        have hm : (nestPts x.Nest).1.length * x.Body.length ≤ 120 * 4 := Nat.mul_le_mul hnl.1 q2
        have hW : W (((nestPts x.Nest).1.length : Int) * (x.Body.length : Int)) = (((nestPts x.Nest).1.length * x.Body.length : Nat) : Int) := by
          rw [← Int.natCast_mul]; exact sR (by omega) (by omega)
        have hb : bodyB x = x.Body.all fun s => stmtB s (x.Nest.length : Int) := by simp [bodyB, q1, q2]
        have hsw := zHD (A := A) (qs := (nestPts x.Nest).1) q1
        rw [hsw] at hl
        have hpt : ((nestPts x.Nest).1.all fun q => ptB q && x.Body.all fun s => stOk A s q) = (nestPts x.Nest).1.all (ptOk A x) := rfl
        simp only [hn, Bool.not_true, Bool.false_eq_true, if_false, q1', q2', decide_false, Option.pure_def, Option.bind_eq_bind, Option.bind_some, hl, hb, hpt, hW, Bool.true_and]
        cases ((x.Body.all fun s => stmtB s (x.Nest.length : Int)) && (nestPts x.Nest).1.all (ptOk A x)) <;> simp
      · have q2' : ((x.Body.length : Int) > 4) := by omega
        have hb : bodyB x = false := by simp [bodyB, q2]
        simp [hn, q1', q2', hb]
    · have q1' : ((x.Body.length : Int) < 1) := by omega
      have hb : bodyB x = false := by simp [bodyB, q1]
      simp [hn, q1', hb]
theorem zD9 (P : zZ) (hP : P.Parts.length ≤ 4) (hb : ∀ x ∈ P.Parts, BP x) (hR : RV P.Arrays) :
    ∀ (j i t : Nat), i + j = P.Parts.length → t ≤ 480 * i → xP P (t : Int) (i : Int) = some (if (List.range' i j).all (fun i => partB P.Arrays (gP P i)) then .done (((t + ((List.range' i j).flatMap fun (i : Nat) => partI (i : Int) (gP P i)).length : Nat)) : Int) else .ret false) := by
  intro j
  induction j with
  | zero =>
    intro i t hi ht
    rw [xP]
    have : ¬ ((i : Int) < (P.Parts.length : Int)) := by omega
    simp only [this, decide_false, Bool.false_eq_true, if_false]
    simp
  | succ j ih =>
    intro i t hi ht
    rw [xP]
    have hlt : i < P.Parts.length := by omega
    have hc : ((i : Int) < (P.Parts.length : Int)) := by omega
    have hg : gP P i = P.Parts[i] := by simp [gP, hlt]
    simp only [hc, decide_true, if_true, xH hlt, Option.bind_eq_bind, Option.bind_some, specPart P.Arrays _ (hb _ (List.getElem_mem hlt)) hR]
    rw [tV (by omega), List.range'_succ, List.all_cons, List.flatMap_cons, hg]
    cases hp : partB P.Arrays P.Parts[i] with
    | false => simp
    | true =>
      have hle := zFU (i : Int) hp
      have hpl := zEP (i : Int) P.Parts[i]
      rw [hpl] at hle
      have hW : W ((t : Int) + (((nestPts P.Parts[i].Nest).1.length * P.Parts[i].Body.length : Nat) : Int)) = ((t + (nestPts P.Parts[i].Nest).1.length * P.Parts[i].Body.length : Nat) : Int) := by
        rw [sR (by omega) (by omega)]; omega
      simp only [if_true, Bool.not_true, Bool.false_eq_true, if_false, Bool.true_and, hW]
      rw [ih (i + 1) _ (by omega) (by omega), List.length_append, hpl, Nat.add_assoc]
theorem specValidP (P : zZ) (h : BG P) : tE P = some (validP P) := by
  obtain ⟨h1, h2, h3⟩ := h
  unfold tE validP progB
  rw [specArrays _ h1]
  cases ha : arrB P.Arrays with
  | false => simp
  | true =>
    by_cases h4 : P.Parts.length ≤ 4
    · have e : ¬ ((P.Parts.length : Int) > 4) := by omega
      have hl := zD9 P h4 h3 (RV.of h1 ha) _ 0 0 (Nat.zero_add _) (by simp)
      rw [Int.natCast_zero, Nat.zero_add] at hl
      simp only [Bool.not_true, Bool.false_eq_true, if_false, e, decide_false, Option.pure_def, Option.bind_eq_bind, Option.bind_some, hl, h4, decide_true, Bool.true_and]
      cases hA : (List.range' 0 P.Parts.length).all fun i => partB P.Arrays (gP P i) with
      | false => simp
      | true =>
        simp only [if_true, progI, Bool.true_and]
        congr 1
        simp; omega
    · have e : ((P.Parts.length : Int) > 4) := by omega
      simp [e, h4]
end Go.LN
