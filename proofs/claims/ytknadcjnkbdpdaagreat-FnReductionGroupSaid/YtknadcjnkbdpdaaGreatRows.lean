/-
  No cell of these rows narrows 'for every input' (looked for: loops, veiled, ifaces, maps, wideKeys, modest, calm, conditions, laid).
  DERIVED. THE GIVEN ROWS OF THIS SEAT. 6 by the template 'for every input the law returns true; each argument reads behind the call as it read before'; 0 by the template 'total and deterministic' (their statements: YtknadcjnkbdpdaaGreatTotals.lean).
  GIVEN WITH THE SEED: the statements are not yours to turn. If you find one false, say at which input.
  Laid BY PROGRAM, IN A SANDBOX (cutbox-rows.mjs): the forced cells as the released guide's own fill.sh prints them over the translation e8504987a15c6266… (all of the seat's roots in one cut). By AI agents, Wed Nov 11 2026. No macro, syntax, notation, axiom, sorry.
-/
import Derived.Test.YtknadcjnkbdpdaaGreatChecked
import GoSem.Claim
import GoSem.ClaimJoined
import GoSem.ClaimMapViews
import Derived.JoinedTies
import Derived.KernelRfl
namespace Go.Proofs.YtknadcjnkbdpdaaGreat
/- THE CELL 'sum', in the pinned program and in every row, IS THE sha256 OF THE DUMP (.gsa) THAT YtknadcjnkbdpdaaGreatProg.lean LOADS. Nothing in Lean hashes anything: it is a label: what it is worth is what the hold of that sum in a sandbox is worth. -/
noncomputable def Tryz.pinned : Pinned := { name := "ytknadcjnkbdpdaagreat", sum := "e8504987a15c626602713fac7840fa5e9e38407deec7d386ee626097f240e6fe", checked := Tryz.checked }
namespace Rows
def none {H : Type} : Left H := { results := [], args := [] }

/-- 'laws.FnInstanceReads': WHATEVER THE INPUT: true; the input reads as it did. -/
def fnInstanceReadsSpec : ChangeSpec := { name := "fnInstanceReads", fn := fun _ => fun
  | [d1, d2] => { results := [.lit (.bool true)], args := [d1, d2] }
  | _ => none }
def fnInstanceReadsRow : OpenClaim := { program := "ytknadcjnkbdpdaagreat", sum := "e8504987a15c626602713fac7840fa5e9e38407deec7d386ee626097f240e6fe", func := "loop.example/loopnests/laws.FnInstanceReads", spec := "fnInstanceReads", inPlace := ["internal/bytealg.IndexByteString", "internal/bytealg.IndexString"], unfollowed := true, recurses := true, named := ["internal/bytealg.MaxLen"], apart := false }
def FnInstanceReadsSaid : Prop := fnInstanceReadsRow.holds Tryz.pinned (OpenSpec.ofChange fnInstanceReadsSpec)

/-- ITS FALSE NEIGHBOUR: 'it returns false'. Refute it at one input. -/
def fnInstanceReadsWrong : ChangeSpec := { name := "fnInstanceReads", fn := fun _ => fun
  | [d1, d2] => { results := [.lit (.bool false)], args := [d1, d2] }
  | _ => none }
def FnInstanceReadsWrongFalsely : Prop := fnInstanceReadsRow.holds Tryz.pinned (OpenSpec.ofChange fnInstanceReadsWrong)

/-- 'laws.FnInstanceCells': WHATEVER THE INPUT: true; the input reads as it did. -/
def fnInstanceCellsSpec : ChangeSpec := { name := "fnInstanceCells", fn := fun _ => fun
  | [d] => { results := [.lit (.bool true)], args := [d] }
  | _ => none }
def fnInstanceCellsRow : OpenClaim := { program := "ytknadcjnkbdpdaagreat", sum := "e8504987a15c626602713fac7840fa5e9e38407deec7d386ee626097f240e6fe", func := "loop.example/loopnests/laws.FnInstanceCells", spec := "fnInstanceCells", inPlace := ["internal/bytealg.IndexByteString", "internal/bytealg.IndexString"], unfollowed := true, recurses := true, named := ["internal/bytealg.MaxLen"], apart := false }
def FnInstanceCellsSaid : Prop := fnInstanceCellsRow.holds Tryz.pinned (OpenSpec.ofChange fnInstanceCellsSpec)

/-- ITS FALSE NEIGHBOUR: 'it returns false'. Refute it at one input. -/
def fnInstanceCellsWrong : ChangeSpec := { name := "fnInstanceCells", fn := fun _ => fun
  | [d] => { results := [.lit (.bool false)], args := [d] }
  | _ => none }
def FnInstanceCellsWrongFalsely : Prop := fnInstanceCellsRow.holds Tryz.pinned (OpenSpec.ofChange fnInstanceCellsWrong)

/-- 'laws.FnPointValue': WHATEVER THE INPUT: true; the input reads as it did. -/
def fnPointValueSpec : ChangeSpec := { name := "fnPointValue", fn := fun _ => fun
  | [d] => { results := [.lit (.bool true)], args := [d] }
  | _ => none }
def fnPointValueRow : OpenClaim := { program := "ytknadcjnkbdpdaagreat", sum := "e8504987a15c626602713fac7840fa5e9e38407deec7d386ee626097f240e6fe", func := "loop.example/loopnests/laws.FnPointValue", spec := "fnPointValue", inPlace := ["internal/bytealg.IndexByteString", "internal/bytealg.IndexString"], unfollowed := true, recurses := true, named := ["internal/bytealg.MaxLen"], apart := false }
def FnPointValueSaid : Prop := fnPointValueRow.holds Tryz.pinned (OpenSpec.ofChange fnPointValueSpec)

/-- ITS FALSE NEIGHBOUR: 'it returns false'. Refute it at one input. -/
def fnPointValueWrong : ChangeSpec := { name := "fnPointValue", fn := fun _ => fun
  | [d] => { results := [.lit (.bool false)], args := [d] }
  | _ => none }
def FnPointValueWrongFalsely : Prop := fnPointValueRow.holds Tryz.pinned (OpenSpec.ofChange fnPointValueWrong)

/-- 'laws.FnReductionGroup': WHATEVER THE INPUT: true; the input reads as it did. -/
def fnReductionGroupSpec : ChangeSpec := { name := "fnReductionGroup", fn := fun _ => fun
  | [d] => { results := [.lit (.bool true)], args := [d] }
  | _ => none }
def fnReductionGroupRow : OpenClaim := { program := "ytknadcjnkbdpdaagreat", sum := "e8504987a15c626602713fac7840fa5e9e38407deec7d386ee626097f240e6fe", func := "loop.example/loopnests/laws.FnReductionGroup", spec := "fnReductionGroup", inPlace := ["internal/bytealg.IndexByteString", "internal/bytealg.IndexString"], unfollowed := true, recurses := true, named := ["internal/bytealg.MaxLen"], apart := false }
def FnReductionGroupSaid : Prop := fnReductionGroupRow.holds Tryz.pinned (OpenSpec.ofChange fnReductionGroupSpec)

/-- ITS FALSE NEIGHBOUR: 'it returns false'. Refute it at one input. -/
def fnReductionGroupWrong : ChangeSpec := { name := "fnReductionGroup", fn := fun _ => fun
  | [d] => { results := [.lit (.bool false)], args := [d] }
  | _ => none }
def FnReductionGroupWrongFalsely : Prop := fnReductionGroupRow.holds Tryz.pinned (OpenSpec.ofChange fnReductionGroupWrong)

/-- 'laws.FnPartsIndependent': WHATEVER THE INPUT: true; the input reads as it did. -/
def fnPartsIndependentSpec : ChangeSpec := { name := "fnPartsIndependent", fn := fun _ => fun
  | [d] => { results := [.lit (.bool true)], args := [d] }
  | _ => none }
def fnPartsIndependentRow : OpenClaim := { program := "ytknadcjnkbdpdaagreat", sum := "e8504987a15c626602713fac7840fa5e9e38407deec7d386ee626097f240e6fe", func := "loop.example/loopnests/laws.FnPartsIndependent", spec := "fnPartsIndependent", inPlace := ["internal/bytealg.IndexByteString", "internal/bytealg.IndexString"], unfollowed := true, recurses := true, named := ["internal/bytealg.MaxLen"], apart := false }
def FnPartsIndependentSaid : Prop := fnPartsIndependentRow.holds Tryz.pinned (OpenSpec.ofChange fnPartsIndependentSpec)

/-- ITS FALSE NEIGHBOUR: 'it returns false'. Refute it at one input. -/
def fnPartsIndependentWrong : ChangeSpec := { name := "fnPartsIndependent", fn := fun _ => fun
  | [d] => { results := [.lit (.bool false)], args := [d] }
  | _ => none }
def FnPartsIndependentWrongFalsely : Prop := fnPartsIndependentRow.holds Tryz.pinned (OpenSpec.ofChange fnPartsIndependentWrong)

/-- 'laws.FnPartCells': WHATEVER THE INPUT: true; the input reads as it did. -/
def fnPartCellsSpec : ChangeSpec := { name := "fnPartCells", fn := fun _ => fun
  | [d] => { results := [.lit (.bool true)], args := [d] }
  | _ => none }
def fnPartCellsRow : OpenClaim := { program := "ytknadcjnkbdpdaagreat", sum := "e8504987a15c626602713fac7840fa5e9e38407deec7d386ee626097f240e6fe", func := "loop.example/loopnests/laws.FnPartCells", spec := "fnPartCells", inPlace := ["internal/bytealg.IndexByteString", "internal/bytealg.IndexString"], unfollowed := true, recurses := true, named := ["internal/bytealg.MaxLen"], apart := false }
def FnPartCellsSaid : Prop := fnPartCellsRow.holds Tryz.pinned (OpenSpec.ofChange fnPartCellsSpec)

/-- ITS FALSE NEIGHBOUR: 'it returns false'. Refute it at one input. -/
def fnPartCellsWrong : ChangeSpec := { name := "fnPartCells", fn := fun _ => fun
  | [d] => { results := [.lit (.bool false)], args := [d] }
  | _ => none }
def FnPartCellsWrongFalsely : Prop := fnPartCellsRow.holds Tryz.pinned (OpenSpec.ofChange fnPartCellsWrong)

/- THE SECOND FORM. 'bulk': how many values and letters a reading holds, each counted each time it is reached (what is shared counts as often as it is met; a slice's spare places count too). A statement '..UptoSaid' is the law's where the arguments, and the package variables that the reading takes, are together of bulk at most 1048576: NARROWER than '..Said'. Prove '..Said' where nothing that the law and all that it calls make is longer than what came in: it says more and counts as full. Else prove '..UptoSaid'. A law counts once. -/
mutual
def uptoBulk {H : Type} : DataW H → Nat
  | .lit (.string bytes) => bytes.length + 1
  | .lit _ => 1
  | .nil => 1
  | .ptr d => uptoBulk d + 1
  | .slice elems spare => uptoBulkAll elems + uptoBulkAll spare + 1
  | .agg parts => uptoBulkAll parts + 1
  | .iface _ d => uptoBulk d + 1
  | .map entries => uptoBulkEntries entries + 1
  | .held _ => 1
def uptoBulkAll {H : Type} : List (DataW H) → Nat
  | [] => 0
  | d :: r => uptoBulk d + uptoBulkAll r
def uptoBulkEntries {H : Type} : List (Lit × DataW H) → Nat
  | [] => 0
  | x :: r => uptoBulkEntry x + uptoBulkEntries r
def uptoBulkEntry {H : Type} : Lit × DataW H → Nat
  | (.string bytes, d) => bytes.length + uptoBulk d + 1
  | (_, d) => uptoBulk d + 1
 end
def uptoSmall : (H : Type) → List (DataW H) → Bool := fun _ ds => decide (uptoBulkAll ds ≤ 1048576)
def OpenSpec.upto (s : _root_.Go.ChangeSpec) : _root_.Go.OpenSpec := { _root_.Go.OpenSpec.ofChange s with cond := some uptoSmall }

/-- 'laws.FnInstanceReads', WHERE WHAT IT READS IS OF BULK AT MOST 1048576: true; the input reads as it did. -/
def fnInstanceReadsUptoRow : OpenClaim := { program := "ytknadcjnkbdpdaagreat", sum := "e8504987a15c626602713fac7840fa5e9e38407deec7d386ee626097f240e6fe", func := "loop.example/loopnests/laws.FnInstanceReads", spec := "fnInstanceReads", inPlace := ["internal/bytealg.IndexByteString", "internal/bytealg.IndexString"], unfollowed := true, recurses := true, named := ["internal/bytealg.MaxLen"], apart := false, narrowed := true }
def FnInstanceReadsUptoSaid : Prop := fnInstanceReadsUptoRow.holds Tryz.pinned (OpenSpec.upto fnInstanceReadsSpec)

/-- 'laws.FnInstanceCells', WHERE WHAT IT READS IS OF BULK AT MOST 1048576: true; the input reads as it did. -/
def fnInstanceCellsUptoRow : OpenClaim := { program := "ytknadcjnkbdpdaagreat", sum := "e8504987a15c626602713fac7840fa5e9e38407deec7d386ee626097f240e6fe", func := "loop.example/loopnests/laws.FnInstanceCells", spec := "fnInstanceCells", inPlace := ["internal/bytealg.IndexByteString", "internal/bytealg.IndexString"], unfollowed := true, recurses := true, named := ["internal/bytealg.MaxLen"], apart := false, narrowed := true }
def FnInstanceCellsUptoSaid : Prop := fnInstanceCellsUptoRow.holds Tryz.pinned (OpenSpec.upto fnInstanceCellsSpec)

/-- 'laws.FnPointValue', WHERE WHAT IT READS IS OF BULK AT MOST 1048576: true; the input reads as it did. -/
def fnPointValueUptoRow : OpenClaim := { program := "ytknadcjnkbdpdaagreat", sum := "e8504987a15c626602713fac7840fa5e9e38407deec7d386ee626097f240e6fe", func := "loop.example/loopnests/laws.FnPointValue", spec := "fnPointValue", inPlace := ["internal/bytealg.IndexByteString", "internal/bytealg.IndexString"], unfollowed := true, recurses := true, named := ["internal/bytealg.MaxLen"], apart := false, narrowed := true }
def FnPointValueUptoSaid : Prop := fnPointValueUptoRow.holds Tryz.pinned (OpenSpec.upto fnPointValueSpec)

/-- 'laws.FnReductionGroup', WHERE WHAT IT READS IS OF BULK AT MOST 1048576: true; the input reads as it did. -/
def fnReductionGroupUptoRow : OpenClaim := { program := "ytknadcjnkbdpdaagreat", sum := "e8504987a15c626602713fac7840fa5e9e38407deec7d386ee626097f240e6fe", func := "loop.example/loopnests/laws.FnReductionGroup", spec := "fnReductionGroup", inPlace := ["internal/bytealg.IndexByteString", "internal/bytealg.IndexString"], unfollowed := true, recurses := true, named := ["internal/bytealg.MaxLen"], apart := false, narrowed := true }
def FnReductionGroupUptoSaid : Prop := fnReductionGroupUptoRow.holds Tryz.pinned (OpenSpec.upto fnReductionGroupSpec)

/-- 'laws.FnPartsIndependent', WHERE WHAT IT READS IS OF BULK AT MOST 1048576: true; the input reads as it did. -/
def fnPartsIndependentUptoRow : OpenClaim := { program := "ytknadcjnkbdpdaagreat", sum := "e8504987a15c626602713fac7840fa5e9e38407deec7d386ee626097f240e6fe", func := "loop.example/loopnests/laws.FnPartsIndependent", spec := "fnPartsIndependent", inPlace := ["internal/bytealg.IndexByteString", "internal/bytealg.IndexString"], unfollowed := true, recurses := true, named := ["internal/bytealg.MaxLen"], apart := false, narrowed := true }
def FnPartsIndependentUptoSaid : Prop := fnPartsIndependentUptoRow.holds Tryz.pinned (OpenSpec.upto fnPartsIndependentSpec)

/-- 'laws.FnPartCells', WHERE WHAT IT READS IS OF BULK AT MOST 1048576: true; the input reads as it did. -/
def fnPartCellsUptoRow : OpenClaim := { program := "ytknadcjnkbdpdaagreat", sum := "e8504987a15c626602713fac7840fa5e9e38407deec7d386ee626097f240e6fe", func := "loop.example/loopnests/laws.FnPartCells", spec := "fnPartCells", inPlace := ["internal/bytealg.IndexByteString", "internal/bytealg.IndexString"], unfollowed := true, recurses := true, named := ["internal/bytealg.MaxLen"], apart := false, narrowed := true }
def FnPartCellsUptoSaid : Prop := fnPartCellsUptoRow.holds Tryz.pinned (OpenSpec.upto fnPartCellsSpec)

end Rows
end Go.Proofs.YtknadcjnkbdpdaaGreat
