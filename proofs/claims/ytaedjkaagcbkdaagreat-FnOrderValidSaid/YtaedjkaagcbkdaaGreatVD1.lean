/- Values: the reference's instances; the laws of instances. -/
import Derived.Test.YtaedjkaagcbkdaaGreatXOrderValid
import Derived.Test.YtaedjkaagcbkdaaGreatVC3
namespace Go.LN
set_option linter.unusedVariables false
set_option linter.unusedSimpArgs false
theorem part_pts {A : List zJ} {x : zP} (h : partB A x = true) : (nestPts x.Nest).1 = pts x.Nest [] ∧ nestB x.Nest = true ∧ (pts x.Nest []).length ≤ 120 := by
  simp only [partB, Bool.and_eq_true] at h
  have h1 := h.1.1
  unfold nestPts at h1 ⊢
  split at h1
  · rename_i hc
    rw [if_pos hc]
    exact ⟨rfl, hc.1, hc.2.2⟩
  · cases h1
theorem specInst_l3 (P : zZ) (i : Nat) (hi : i < P.Parts.length) (y : List (List Int)) (k : Nat) (hk : k < y.length) (hq : y[k].length ≤ 4) (hb : P.Parts[i].Body.length ≤ 4) :
    ∀ (j s : Nat) (o : List yI), s + j = P.Parts[i].Body.length → o.length + j ≤ 1000000 → M.spec_l4Instances_l3 P (i : Int) y (k : Int) o (s : Int) = some (o ++ instR (i : Int) y[k] s j) := by
  intro j
  induction j with
  | zero =>
    intro s o hs ho
    rw [M.spec_l4Instances_l3]
    have : ¬ ((s : Int) < (P.Parts[i].Body.length : Int)) := by omega
    simp only [xH hi, this, decide_false, Bool.false_eq_true, if_false, Option.bind_eq_bind, Option.bind_some, Option.pure_def]
    simp [instR]
  | succ j ih =>
    intro s o hs ho
    rw [M.spec_l4Instances_l3]
    have hc : ((s : Int) < (P.Parts[i].Body.length : Int)) := by omega
    have hpn : app 8 ([] : List Int) y[k] = some y[k] := jW _ (by omega)
    have happ : app 40 o [(⟨(i : Int), (s : Int), y[k]⟩ : yI)] = some (o ++ [⟨(i : Int), (s : Int), y[k]⟩]) := oN (by simp; omega)
    simp only [xH hi, hc, decide_true, if_true, xH hk, Option.bind_eq_bind, Option.bind_some, hpn, happ]
    rw [tV (by omega), ih (s + 1) _ (by omega) (by simp; omega), List.append_assoc]
    simp only [instR, List.range'_succ, List.map_cons, List.singleton_append]
theorem specInst_l2 (P : zZ) (i : Nat) (hi : i < P.Parts.length) (y : List (List Int)) (hy : y.length ≤ 120) (hq : ∀ q ∈ y, q.length ≤ 4) (hb : P.Parts[i].Body.length ≤ 4) :
    ∀ (j k : Nat) (o : List yI), k + j = y.length → o.length + 4 * j ≤ 1000000 → M.spec_l4Instances_l2 P (i : Int) y o (k : Int) = some (o ++ (y.drop k).flatMap fun q => instR (i : Int) q 0 P.Parts[i].Body.length) := by
  intro j
  induction j with
  | zero =>
    intro k o hk ho
    rw [M.spec_l4Instances_l2]
    have : ¬ ((k : Int) < (y.length : Int)) := by omega
    simp only [this, decide_false, Bool.false_eq_true, if_false]
    rw [show y.drop k = [] from List.drop_eq_nil_iff.2 (by omega)]
    simp
  | succ j ih =>
    intro k o hk ho
    rw [M.spec_l4Instances_l2]
    have hlt : k < y.length := by omega
    have hc : ((k : Int) < (y.length : Int)) := by omega
    have h3 := specInst_l3 P i hi y k hlt (hq _ (List.getElem_mem hlt)) hb P.Parts[i].Body.length 0 o (Nat.zero_add _) (by omega)
    rw [Int.natCast_zero] at h3
    simp only [hc, decide_true, if_true, Option.bind_eq_bind, Option.bind_some, h3]
    rw [tV (by omega), ih (k + 1) _ (by omega) (by rw [List.length_append, zEO]; omega), List.drop_eq_getElem_cons hlt, List.flatMap_cons, List.append_assoc]
theorem specInst_l1 (P : zZ) (hP : P.Parts.length ≤ 4) (hb : ∀ i, i < P.Parts.length → partB P.Arrays (gP P i) = true) :
    ∀ (j i : Nat) (o : List yI), i + j = P.Parts.length → o.length ≤ 480 * i → M.spec_l4Instances_l1 P o (i : Int) = some (o ++ (List.range' i j).flatMap fun (i : Nat) => partI (i : Int) (gP P i)) := by
  intro j
  induction j with
  | zero =>
    intro i o hi ho
    rw [M.spec_l4Instances_l1]
    have : ¬ ((i : Int) < (P.Parts.length : Int)) := by omega
    simp [this]
  | succ j ih =>
    intro i o hi ho
    rw [M.spec_l4Instances_l1]
    have hlt : i < P.Parts.length := by omega
    have hc : ((i : Int) < (P.Parts.length : Int)) := by omega
    have hg : gP P i = P.Parts[i] := by simp [gP, hlt]
    have hp := hb i hlt
    rw [hg] at hp
    obtain ⟨p1, p2, p3⟩ := part_pts hp
    obtain ⟨n1, n2⟩ := zEf p2
    have hpp := hp
    simp only [partB, Bool.and_eq_true] at hpp
    obtain ⟨_, q2, _⟩ := zD8 hpp.1.2
    have hpts := specPts P.Parts[i].Nest P.Parts[i].Nest [] [] n2 rfl (by simp) n1 (by simp)
    rw [List.nil_append, List.take_of_length_le (by omega)] at hpts
    have h2 := specInst_l2 P i hlt (pts P.Parts[i].Nest []) p3 (fun q hq => by have := zFx _ _ q hq; simp at this; omega) q2 _ 0 o (Nat.zero_add _) (by omega)
    rw [Int.natCast_zero, List.drop_zero] at h2
    simp only [hc, decide_true, if_true, xH hlt, Option.bind_eq_bind, Option.bind_some, hpts, h2]
    have hI : ((pts P.Parts[i].Nest []).flatMap fun q => instR (i : Int) q 0 P.Parts[i].Body.length) = partI (i : Int) P.Parts[i] := by rw [partI, p1]
    have hle := zFU (i : Int) hp
    rw [hI, tV (by omega), ih (i + 1) _ (by omega) (by rw [List.length_append]; omega), List.range'_succ, List.flatMap_cons, hg, List.append_assoc]
theorem valid_parts {P : zZ} (h : validP P = true) : arrB P.Arrays = true ∧ P.Parts.length ≤ 4 ∧ (∀ i, i < P.Parts.length → partB P.Arrays (gP P i) = true) ∧ (progI P).length ≤ 120 := by
  simp only [validP, progB, Bool.and_eq_true, decide_eq_true_eq] at h
  obtain ⟨⟨⟨h1, h2⟩, h3⟩, h4⟩ := h
  exact ⟨h1, h2, fun i hi => List.all_eq_true.1 h3 i (List.mem_range'_1.2 ⟨Nat.zero_le _, by omega⟩), h4⟩
theorem specInstP (P : zZ) (h : BG P) : M.spec_ProgramInstances P = some (if validP P then progI P else []) := by
  unfold M.spec_ProgramInstances
  rw [specValidP P h]
  cases hv : validP P with
  | false => rfl
  | true =>
    obtain ⟨_, v2, v3, _⟩ := valid_parts hv
    have hl := specInst_l1 P v2 v3 _ 0 [] (Nat.zero_add _) (by simp)
    rw [Int.natCast_zero, List.nil_append] at hl
    simp only [Bool.not_true, Bool.false_eq_true, if_false, Option.bind_eq_bind, Option.bind_some, M.spec_l4Instances, hl, Option.pure_def, id, if_true]
    rfl
/-! FnInstanceCount. -/
/-! FnProgramPrefix. -/
end Go.LN
