/- Values: an instance of a valid program. -/
import Derived.Test.YtaedjkaagcbkdaaGreatXInstanceOrder
import Derived.Test.YtaedjkaagcbkdaaGreatVF1
namespace Go.LN
set_option linter.unusedVariables false
set_option linter.unusedSimpArgs false
theorem valid_part {P : zZ} (h : validP P = true) {i : Nat} (hi : i < P.Parts.length) : partB P.Arrays P.Parts[i] = true := by
  simp only [validP, progB, Bool.and_eq_true, decide_eq_true_eq] at h
  have := List.all_eq_true.1 h.1.2 i (List.mem_range'_1.2 ⟨Nat.zero_le _, by omega⟩)
  have hg : gP P i = P.Parts[i] := by simp [gP, hi]
  rwa [hg] at this
theorem nest_in {nest : List zI} {q : List Int} (h : q ∈ (nestPts nest).1) : nestB nest = true ∧ inP nest [] q := by
  unfold nestPts at h
  split at h
  · rename_i hc
    obtain ⟨r, e, hr⟩ := mem_pts h
    rw [List.nil_append] at e
    exact ⟨hc.1, e ▸ hr⟩
  · cases h
theorem progI_mem {P : zZ} (h : validP P = true) {z : yI} (hz : z ∈ progI P) : ∃ (i s : Nat) (hi : i < P.Parts.length) (hs : s < P.Parts[i].Body.length), z.Part = (i : Int) ∧ z.Stmt = (s : Int) ∧ nestB P.Parts[i].Nest = true ∧ inP P.Parts[i].Nest [] z.Point ∧ ptB z.Point = true ∧ stOk P.Arrays P.Parts[i].Body[s] z.Point = true ∧ stmtB P.Parts[i].Body[s] (P.Parts[i].Nest.length : Int) = true := by
  unfold progI at hz
  obtain ⟨i, hi, hz⟩ := List.mem_flatMap.1 hz
  have hi : i < P.Parts.length := by have := (List.mem_range'_1.1 hi).2; omega
  have hg : gP P i = P.Parts[i] := by simp [gP, hi]
  rw [hg] at hz
  have hp := valid_part h hi
  unfold partI at hz
  obtain ⟨q, hq, hz⟩ := List.mem_flatMap.1 hz
  obtain ⟨z1, z2, s, z3, hs⟩ := instR_mem hz
  have hs : s < P.Parts[i].Body.length := by omega
  obtain ⟨n1, n2⟩ := nest_in hq
  simp only [partB, Bool.and_eq_true] at hp
  have hq2 := List.all_eq_true.1 hp.2 q hq
  rw [Bool.and_eq_true] at hq2
  refine ⟨i, s, hi, hs, z1, z3, n1, ?_, ?_, ?_, ?_⟩
  · rw [z2]; exact n2
  · rw [z2]; exact hq2.1
  · rw [z2]; exact List.all_eq_true.1 hq2.2 _ (List.getElem_mem hs)
  · exact (zD8 hp.1.2).2.2 _ (List.getElem_mem hs)
end Go.LN
