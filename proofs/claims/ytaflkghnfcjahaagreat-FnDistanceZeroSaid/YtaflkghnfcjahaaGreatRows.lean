/-
  No cell of these rows narrows 'for every input' (looked for: loops, veiled, ifaces, maps, wideKeys, modest, calm, conditions, laid).
  DERIVED. THE GIVEN ROWS OF THIS SEAT. 8 by the template 'for every input the law returns true; each argument reads behind the call as it read before'; 0 by the template 'total and deterministic' (their statements: YtaflkghnfcjahaaGreatTotals.lean).
  GIVEN WITH THE SEED: the statements are not yours to turn. If you find one false, say at which input.
  Laid BY PROGRAM, IN A SANDBOX (cutbox-rows.mjs): the forced cells as the released guide's own fill.sh prints them over the translation bf066e6091e2458d… (all of the seat's roots in one cut). By AI agents, Wed Nov 11 2026. No macro, syntax, notation, axiom, sorry.
-/
import Derived.Test.YtaflkghnfcjahaaGreatChecked
import GoSem.Claim
import GoSem.ClaimJoined
import GoSem.ClaimMapViews
import Derived.JoinedTies
import Derived.KernelRfl
namespace Go.Proofs.YtaflkghnfcjahaaGreat
/- THE CELL 'sum', in the pinned program and in every row, IS THE sha256 OF THE DUMP (.gsa) THAT YtaflkghnfcjahaaGreatProg.lean LOADS. Nothing in Lean hashes anything: it is a label: what it is worth is what the hold of that sum in a sandbox is worth. -/
noncomputable def Tryz.pinned : Pinned := { name := "ytaflkghnfcjahaagreat", sum := "bf066e6091e2458dec762549bdf228fe2dcf6bf8e97a39f84c5b6753d2f6f439", checked := Tryz.checked }
namespace Rows
def none {H : Type} : Left H := { results := [], args := [] }

/-- 'laws.FnReductionGroup': WHATEVER THE INPUT: true; the input reads as it did. -/
def fnReductionGroupSpec : ChangeSpec := { name := "fnReductionGroup", fn := fun _ => fun
  | [d] => { results := [.lit (.bool true)], args := [d] }
  | _ => none }
def fnReductionGroupRow : OpenClaim := { program := "ytaflkghnfcjahaagreat", sum := "bf066e6091e2458dec762549bdf228fe2dcf6bf8e97a39f84c5b6753d2f6f439", func := "loop.example/loopnests/laws.FnReductionGroup", spec := "fnReductionGroup", inPlace := ["internal/bytealg.IndexByteString", "internal/bytealg.IndexString"], unfollowed := true, recurses := true, named := ["internal/bytealg.MaxLen"], apart := false }
def FnReductionGroupSaid : Prop := fnReductionGroupRow.holds Tryz.pinned (OpenSpec.ofChange fnReductionGroupSpec)

/-- ITS FALSE NEIGHBOUR: 'it returns false'. Refute it at one input. -/
def fnReductionGroupWrong : ChangeSpec := { name := "fnReductionGroup", fn := fun _ => fun
  | [d] => { results := [.lit (.bool false)], args := [d] }
  | _ => none }
def FnReductionGroupWrongFalsely : Prop := fnReductionGroupRow.holds Tryz.pinned (OpenSpec.ofChange fnReductionGroupWrong)

/-- 'laws.FnParallelFirst': WHATEVER THE INPUT: true; the input reads as it did. -/
def fnParallelFirstSpec : ChangeSpec := { name := "fnParallelFirst", fn := fun _ => fun
  | [d] => { results := [.lit (.bool true)], args := [d] }
  | _ => none }
def fnParallelFirstRow : OpenClaim := { program := "ytaflkghnfcjahaagreat", sum := "bf066e6091e2458dec762549bdf228fe2dcf6bf8e97a39f84c5b6753d2f6f439", func := "loop.example/loopnests/laws.FnParallelFirst", spec := "fnParallelFirst", inPlace := ["internal/bytealg.IndexByteString", "internal/bytealg.IndexString"], unfollowed := true, recurses := true, named := ["internal/bytealg.MaxLen"], apart := false }
def FnParallelFirstSaid : Prop := fnParallelFirstRow.holds Tryz.pinned (OpenSpec.ofChange fnParallelFirstSpec)

/-- ITS FALSE NEIGHBOUR: 'it returns false'. Refute it at one input. -/
def fnParallelFirstWrong : ChangeSpec := { name := "fnParallelFirst", fn := fun _ => fun
  | [d] => { results := [.lit (.bool false)], args := [d] }
  | _ => none }
def FnParallelFirstWrongFalsely : Prop := fnParallelFirstRow.holds Tryz.pinned (OpenSpec.ofChange fnParallelFirstWrong)

/-- 'laws.FnLevelOrder': WHATEVER THE INPUT: true; the input reads as it did. -/
def fnLevelOrderSpec : ChangeSpec := { name := "fnLevelOrder", fn := fun _ => fun
  | [d1, d2] => { results := [.lit (.bool true)], args := [d1, d2] }
  | _ => none }
def fnLevelOrderRow : OpenClaim := { program := "ytaflkghnfcjahaagreat", sum := "bf066e6091e2458dec762549bdf228fe2dcf6bf8e97a39f84c5b6753d2f6f439", func := "loop.example/loopnests/laws.FnLevelOrder", spec := "fnLevelOrder", inPlace := ["internal/bytealg.IndexByteString", "internal/bytealg.IndexString"], unfollowed := true, recurses := true, named := ["internal/bytealg.MaxLen"], apart := false }
def FnLevelOrderSaid : Prop := fnLevelOrderRow.holds Tryz.pinned (OpenSpec.ofChange fnLevelOrderSpec)

/-- ITS FALSE NEIGHBOUR: 'it returns false'. Refute it at one input. -/
def fnLevelOrderWrong : ChangeSpec := { name := "fnLevelOrder", fn := fun _ => fun
  | [d1, d2] => { results := [.lit (.bool false)], args := [d1, d2] }
  | _ => none }
def FnLevelOrderWrongFalsely : Prop := fnLevelOrderRow.holds Tryz.pinned (OpenSpec.ofChange fnLevelOrderWrong)

/-- 'laws.FnStrictDeps': WHATEVER THE INPUT: true; the input reads as it did. -/
def fnStrictDepsSpec : ChangeSpec := { name := "fnStrictDeps", fn := fun _ => fun
  | [d] => { results := [.lit (.bool true)], args := [d] }
  | _ => none }
def fnStrictDepsRow : OpenClaim := { program := "ytaflkghnfcjahaagreat", sum := "bf066e6091e2458dec762549bdf228fe2dcf6bf8e97a39f84c5b6753d2f6f439", func := "loop.example/loopnests/laws.FnStrictDeps", spec := "fnStrictDeps", inPlace := ["internal/bytealg.IndexByteString", "internal/bytealg.IndexString"], unfollowed := true, recurses := true, named := ["internal/bytealg.MaxLen"], apart := false }
def FnStrictDepsSaid : Prop := fnStrictDepsRow.holds Tryz.pinned (OpenSpec.ofChange fnStrictDepsSpec)

/-- ITS FALSE NEIGHBOUR: 'it returns false'. Refute it at one input. -/
def fnStrictDepsWrong : ChangeSpec := { name := "fnStrictDeps", fn := fun _ => fun
  | [d] => { results := [.lit (.bool false)], args := [d] }
  | _ => none }
def FnStrictDepsWrongFalsely : Prop := fnStrictDepsRow.holds Tryz.pinned (OpenSpec.ofChange fnStrictDepsWrong)

/-- 'laws.FnReducedLevels': WHATEVER THE INPUT: true; the input reads as it did. -/
def fnReducedLevelsSpec : ChangeSpec := { name := "fnReducedLevels", fn := fun _ => fun
  | [d] => { results := [.lit (.bool true)], args := [d] }
  | _ => none }
def fnReducedLevelsRow : OpenClaim := { program := "ytaflkghnfcjahaagreat", sum := "bf066e6091e2458dec762549bdf228fe2dcf6bf8e97a39f84c5b6753d2f6f439", func := "loop.example/loopnests/laws.FnReducedLevels", spec := "fnReducedLevels", inPlace := ["internal/bytealg.IndexByteString", "internal/bytealg.IndexString"], unfollowed := true, recurses := true, named := ["internal/bytealg.MaxLen"], apart := false }
def FnReducedLevelsSaid : Prop := fnReducedLevelsRow.holds Tryz.pinned (OpenSpec.ofChange fnReducedLevelsSpec)

/-- ITS FALSE NEIGHBOUR: 'it returns false'. Refute it at one input. -/
def fnReducedLevelsWrong : ChangeSpec := { name := "fnReducedLevels", fn := fun _ => fun
  | [d] => { results := [.lit (.bool false)], args := [d] }
  | _ => none }
def FnReducedLevelsWrongFalsely : Prop := fnReducedLevelsRow.holds Tryz.pinned (OpenSpec.ofChange fnReducedLevelsWrong)

/-- 'laws.FnDistanceZero': WHATEVER THE INPUT: true; the input reads as it did. -/
def fnDistanceZeroSpec : ChangeSpec := { name := "fnDistanceZero", fn := fun _ => fun
  | [d] => { results := [.lit (.bool true)], args := [d] }
  | _ => none }
def fnDistanceZeroRow : OpenClaim := { program := "ytaflkghnfcjahaagreat", sum := "bf066e6091e2458dec762549bdf228fe2dcf6bf8e97a39f84c5b6753d2f6f439", func := "loop.example/loopnests/laws.FnDistanceZero", spec := "fnDistanceZero", inPlace := ["internal/bytealg.IndexByteString", "internal/bytealg.IndexString"], unfollowed := true, recurses := true, named := ["internal/bytealg.MaxLen"], apart := false }
def FnDistanceZeroSaid : Prop := fnDistanceZeroRow.holds Tryz.pinned (OpenSpec.ofChange fnDistanceZeroSpec)

/-- ITS FALSE NEIGHBOUR: 'it returns false'. Refute it at one input. -/
def fnDistanceZeroWrong : ChangeSpec := { name := "fnDistanceZero", fn := fun _ => fun
  | [d] => { results := [.lit (.bool false)], args := [d] }
  | _ => none }
def FnDistanceZeroWrongFalsely : Prop := fnDistanceZeroRow.holds Tryz.pinned (OpenSpec.ofChange fnDistanceZeroWrong)

/-- 'laws.FnDistances': WHATEVER THE INPUT: true; the input reads as it did. -/
def fnDistancesSpec : ChangeSpec := { name := "fnDistances", fn := fun _ => fun
  | [d] => { results := [.lit (.bool true)], args := [d] }
  | _ => none }
def fnDistancesRow : OpenClaim := { program := "ytaflkghnfcjahaagreat", sum := "bf066e6091e2458dec762549bdf228fe2dcf6bf8e97a39f84c5b6753d2f6f439", func := "loop.example/loopnests/laws.FnDistances", spec := "fnDistances", inPlace := ["internal/bytealg.IndexByteString", "internal/bytealg.IndexString"], unfollowed := true, recurses := true, named := ["internal/bytealg.MaxLen"], apart := false }
def FnDistancesSaid : Prop := fnDistancesRow.holds Tryz.pinned (OpenSpec.ofChange fnDistancesSpec)

/-- ITS FALSE NEIGHBOUR: 'it returns false'. Refute it at one input. -/
def fnDistancesWrong : ChangeSpec := { name := "fnDistances", fn := fun _ => fun
  | [d] => { results := [.lit (.bool false)], args := [d] }
  | _ => none }
def FnDistancesWrongFalsely : Prop := fnDistancesRow.holds Tryz.pinned (OpenSpec.ofChange fnDistancesWrong)

/-- 'laws.FnReducedOrder': WHATEVER THE INPUT: true; the input reads as it did. -/
def fnReducedOrderSpec : ChangeSpec := { name := "fnReducedOrder", fn := fun _ => fun
  | [d] => { results := [.lit (.bool true)], args := [d] }
  | _ => none }
def fnReducedOrderRow : OpenClaim := { program := "ytaflkghnfcjahaagreat", sum := "bf066e6091e2458dec762549bdf228fe2dcf6bf8e97a39f84c5b6753d2f6f439", func := "loop.example/loopnests/laws.FnReducedOrder", spec := "fnReducedOrder", inPlace := ["internal/bytealg.IndexByteString", "internal/bytealg.IndexString"], unfollowed := true, recurses := true, named := ["internal/bytealg.MaxLen"], apart := false }
def FnReducedOrderSaid : Prop := fnReducedOrderRow.holds Tryz.pinned (OpenSpec.ofChange fnReducedOrderSpec)

/-- ITS FALSE NEIGHBOUR: 'it returns false'. Refute it at one input. -/
def fnReducedOrderWrong : ChangeSpec := { name := "fnReducedOrder", fn := fun _ => fun
  | [d] => { results := [.lit (.bool false)], args := [d] }
  | _ => none }
def FnReducedOrderWrongFalsely : Prop := fnReducedOrderRow.holds Tryz.pinned (OpenSpec.ofChange fnReducedOrderWrong)

/- THE SECOND FORM. 'bulk': how many values and letters a reading holds, each counted each time it is reached (what is shared counts as often as it is met; a slice's spare places count too). A statement '..UptoSaid' is the law's where the arguments, and the package variables that the reading takes, are together of bulk at most 1048576: NARROWER than '..Said'. Prove '..Said' where nothing that the law and all that it calls make is longer than what came in: it says more and counts as full. Else prove '..UptoSaid'. A law counts once. -/
mutual
def uptoBulk {H : Type} : DataW H → Nat
  | .lit (.string bytes) => bytes.length + 1
  | .lit _ => 1
  | .nil => 1
  | .ptr d => uptoBulk d + 1
  | .slice elems spare => uptoBulkAll elems + uptoBulkAll spare + 1
  | .agg parts => uptoBulkAll parts + 1
  | .iface _ d => uptoBulk d + 1
  | .map entries => uptoBulkEntries entries + 1
  | .held _ => 1
def uptoBulkAll {H : Type} : List (DataW H) → Nat
  | [] => 0
  | d :: r => uptoBulk d + uptoBulkAll r
def uptoBulkEntries {H : Type} : List (Lit × DataW H) → Nat
  | [] => 0
  | x :: r => uptoBulkEntry x + uptoBulkEntries r
def uptoBulkEntry {H : Type} : Lit × DataW H → Nat
  | (.string bytes, d) => bytes.length + uptoBulk d + 1
  | (_, d) => uptoBulk d + 1
 end
def uptoSmall : (H : Type) → List (DataW H) → Bool := fun _ ds => decide (uptoBulkAll ds ≤ 1048576)
def OpenSpec.upto (s : _root_.Go.ChangeSpec) : _root_.Go.OpenSpec := { _root_.Go.OpenSpec.ofChange s with cond := some uptoSmall }

/-- 'laws.FnReductionGroup', WHERE WHAT IT READS IS OF BULK AT MOST 1048576: true; the input reads as it did. -/
def fnReductionGroupUptoRow : OpenClaim := { program := "ytaflkghnfcjahaagreat", sum := "bf066e6091e2458dec762549bdf228fe2dcf6bf8e97a39f84c5b6753d2f6f439", func := "loop.example/loopnests/laws.FnReductionGroup", spec := "fnReductionGroup", inPlace := ["internal/bytealg.IndexByteString", "internal/bytealg.IndexString"], unfollowed := true, recurses := true, named := ["internal/bytealg.MaxLen"], apart := false, narrowed := true }
def FnReductionGroupUptoSaid : Prop := fnReductionGroupUptoRow.holds Tryz.pinned (OpenSpec.upto fnReductionGroupSpec)

/-- 'laws.FnParallelFirst', WHERE WHAT IT READS IS OF BULK AT MOST 1048576: true; the input reads as it did. -/
def fnParallelFirstUptoRow : OpenClaim := { program := "ytaflkghnfcjahaagreat", sum := "bf066e6091e2458dec762549bdf228fe2dcf6bf8e97a39f84c5b6753d2f6f439", func := "loop.example/loopnests/laws.FnParallelFirst", spec := "fnParallelFirst", inPlace := ["internal/bytealg.IndexByteString", "internal/bytealg.IndexString"], unfollowed := true, recurses := true, named := ["internal/bytealg.MaxLen"], apart := false, narrowed := true }
def FnParallelFirstUptoSaid : Prop := fnParallelFirstUptoRow.holds Tryz.pinned (OpenSpec.upto fnParallelFirstSpec)

/-- 'laws.FnLevelOrder', WHERE WHAT IT READS IS OF BULK AT MOST 1048576: true; the input reads as it did. -/
def fnLevelOrderUptoRow : OpenClaim := { program := "ytaflkghnfcjahaagreat", sum := "bf066e6091e2458dec762549bdf228fe2dcf6bf8e97a39f84c5b6753d2f6f439", func := "loop.example/loopnests/laws.FnLevelOrder", spec := "fnLevelOrder", inPlace := ["internal/bytealg.IndexByteString", "internal/bytealg.IndexString"], unfollowed := true, recurses := true, named := ["internal/bytealg.MaxLen"], apart := false, narrowed := true }
def FnLevelOrderUptoSaid : Prop := fnLevelOrderUptoRow.holds Tryz.pinned (OpenSpec.upto fnLevelOrderSpec)

/-- 'laws.FnStrictDeps', WHERE WHAT IT READS IS OF BULK AT MOST 1048576: true; the input reads as it did. -/
def fnStrictDepsUptoRow : OpenClaim := { program := "ytaflkghnfcjahaagreat", sum := "bf066e6091e2458dec762549bdf228fe2dcf6bf8e97a39f84c5b6753d2f6f439", func := "loop.example/loopnests/laws.FnStrictDeps", spec := "fnStrictDeps", inPlace := ["internal/bytealg.IndexByteString", "internal/bytealg.IndexString"], unfollowed := true, recurses := true, named := ["internal/bytealg.MaxLen"], apart := false, narrowed := true }
def FnStrictDepsUptoSaid : Prop := fnStrictDepsUptoRow.holds Tryz.pinned (OpenSpec.upto fnStrictDepsSpec)

/-- 'laws.FnReducedLevels', WHERE WHAT IT READS IS OF BULK AT MOST 1048576: true; the input reads as it did. -/
def fnReducedLevelsUptoRow : OpenClaim := { program := "ytaflkghnfcjahaagreat", sum := "bf066e6091e2458dec762549bdf228fe2dcf6bf8e97a39f84c5b6753d2f6f439", func := "loop.example/loopnests/laws.FnReducedLevels", spec := "fnReducedLevels", inPlace := ["internal/bytealg.IndexByteString", "internal/bytealg.IndexString"], unfollowed := true, recurses := true, named := ["internal/bytealg.MaxLen"], apart := false, narrowed := true }
def FnReducedLevelsUptoSaid : Prop := fnReducedLevelsUptoRow.holds Tryz.pinned (OpenSpec.upto fnReducedLevelsSpec)

/-- 'laws.FnDistanceZero', WHERE WHAT IT READS IS OF BULK AT MOST 1048576: true; the input reads as it did. -/
def fnDistanceZeroUptoRow : OpenClaim := { program := "ytaflkghnfcjahaagreat", sum := "bf066e6091e2458dec762549bdf228fe2dcf6bf8e97a39f84c5b6753d2f6f439", func := "loop.example/loopnests/laws.FnDistanceZero", spec := "fnDistanceZero", inPlace := ["internal/bytealg.IndexByteString", "internal/bytealg.IndexString"], unfollowed := true, recurses := true, named := ["internal/bytealg.MaxLen"], apart := false, narrowed := true }
def FnDistanceZeroUptoSaid : Prop := fnDistanceZeroUptoRow.holds Tryz.pinned (OpenSpec.upto fnDistanceZeroSpec)

/-- 'laws.FnDistances', WHERE WHAT IT READS IS OF BULK AT MOST 1048576: true; the input reads as it did. -/
def fnDistancesUptoRow : OpenClaim := { program := "ytaflkghnfcjahaagreat", sum := "bf066e6091e2458dec762549bdf228fe2dcf6bf8e97a39f84c5b6753d2f6f439", func := "loop.example/loopnests/laws.FnDistances", spec := "fnDistances", inPlace := ["internal/bytealg.IndexByteString", "internal/bytealg.IndexString"], unfollowed := true, recurses := true, named := ["internal/bytealg.MaxLen"], apart := false, narrowed := true }
def FnDistancesUptoSaid : Prop := fnDistancesUptoRow.holds Tryz.pinned (OpenSpec.upto fnDistancesSpec)

/-- 'laws.FnReducedOrder', WHERE WHAT IT READS IS OF BULK AT MOST 1048576: true; the input reads as it did. -/
def fnReducedOrderUptoRow : OpenClaim := { program := "ytaflkghnfcjahaagreat", sum := "bf066e6091e2458dec762549bdf228fe2dcf6bf8e97a39f84c5b6753d2f6f439", func := "loop.example/loopnests/laws.FnReducedOrder", spec := "fnReducedOrder", inPlace := ["internal/bytealg.IndexByteString", "internal/bytealg.IndexString"], unfollowed := true, recurses := true, named := ["internal/bytealg.MaxLen"], apart := false, narrowed := true }
def FnReducedOrderUptoSaid : Prop := fnReducedOrderUptoRow.holds Tryz.pinned (OpenSpec.upto fnReducedOrderSpec)

end Rows
end Go.Proofs.YtaflkghnfcjahaaGreat
