/-
  No cell of these rows narrows 'for every input' (looked for: loops, veiled, ifaces, maps, wideKeys, modest, calm, conditions, laid).
  DERIVED. THE GIVEN ROWS OF THIS SEAT. 12 by the template 'for every input the law returns true; each argument reads behind the call as it read before'; 0 by the template 'total and deterministic' (their statements: YtaedjkaagcbkdaaGreatTotals.lean).
  GIVEN WITH THE SEED: the statements are not yours to turn. If you find one false, say at which input.
  Laid BY PROGRAM, IN A SANDBOX (cutbox-rows.mjs): the forced cells as the released guide's own fill.sh prints them over the translation c147d8d8a10ce7bf… (all of the seat's roots in one cut). By AI agents, Wed Nov 11 2026. No macro, syntax, notation, axiom, sorry.
-/
import Derived.Test.YtaedjkaagcbkdaaGreatChecked
import GoSem.Claim
import GoSem.ClaimJoined
import GoSem.ClaimMapViews
import Derived.JoinedTies
import Derived.KernelRfl
namespace Go.Proofs.YtaedjkaagcbkdaaGreat
/- THE CELL 'sum', in the pinned program and in every row, IS THE sha256 OF THE DUMP (.gsa) THAT YtaedjkaagcbkdaaGreatProg.lean LOADS. Nothing in Lean hashes anything: it is a label: what it is worth is what the hold of that sum in a sandbox is worth. -/
noncomputable def Tryz.pinned : Pinned := { name := "ytaedjkaagcbkdaagreat", sum := "c147d8d8a10ce7bf862dd0669942c7ba1935fb9ee1ccd76deb48d0a7bab97557", checked := Tryz.checked }
namespace Rows
def none {H : Type} : Left H := { results := [], args := [] }

/-- 'laws.FnInstanceCount': WHATEVER THE INPUT: true; the input reads as it did. -/
def fnInstanceCountSpec : ChangeSpec := { name := "fnInstanceCount", fn := fun _ => fun
  | [d] => { results := [.lit (.bool true)], args := [d] }
  | _ => none }
def fnInstanceCountRow : OpenClaim := { program := "ytaedjkaagcbkdaagreat", sum := "c147d8d8a10ce7bf862dd0669942c7ba1935fb9ee1ccd76deb48d0a7bab97557", func := "loop.example/loopnests/laws.FnInstanceCount", spec := "fnInstanceCount", inPlace := ["internal/bytealg.IndexByteString", "internal/bytealg.IndexString"], unfollowed := true, recurses := true, named := ["internal/bytealg.MaxLen"], apart := false }
def FnInstanceCountSaid : Prop := fnInstanceCountRow.holds Tryz.pinned (OpenSpec.ofChange fnInstanceCountSpec)

/-- ITS FALSE NEIGHBOUR: 'it returns false'. Refute it at one input. -/
def fnInstanceCountWrong : ChangeSpec := { name := "fnInstanceCount", fn := fun _ => fun
  | [d] => { results := [.lit (.bool false)], args := [d] }
  | _ => none }
def FnInstanceCountWrongFalsely : Prop := fnInstanceCountRow.holds Tryz.pinned (OpenSpec.ofChange fnInstanceCountWrong)

/-- 'laws.FnCountCells': WHATEVER THE INPUT: true; the input reads as it did. -/
def fnCountCellsSpec : ChangeSpec := { name := "fnCountCells", fn := fun _ => fun
  | [d1, d2] => { results := [.lit (.bool true)], args := [d1, d2] }
  | _ => none }
def fnCountCellsRow : OpenClaim := { program := "ytaedjkaagcbkdaagreat", sum := "c147d8d8a10ce7bf862dd0669942c7ba1935fb9ee1ccd76deb48d0a7bab97557", func := "loop.example/loopnests/laws.FnCountCells", spec := "fnCountCells", inPlace := ["internal/bytealg.IndexByteString", "internal/bytealg.IndexString"], unfollowed := true, recurses := true, named := ["internal/bytealg.MaxLen"], apart := false }
def FnCountCellsSaid : Prop := fnCountCellsRow.holds Tryz.pinned (OpenSpec.ofChange fnCountCellsSpec)

/-- ITS FALSE NEIGHBOUR: 'it returns false'. Refute it at one input. -/
def fnCountCellsWrong : ChangeSpec := { name := "fnCountCells", fn := fun _ => fun
  | [d1, d2] => { results := [.lit (.bool false)], args := [d1, d2] }
  | _ => none }
def FnCountCellsWrongFalsely : Prop := fnCountCellsRow.holds Tryz.pinned (OpenSpec.ofChange fnCountCellsWrong)

/-- 'laws.FnCellRange': WHATEVER THE INPUT: true; the input reads as it did. -/
def fnCellRangeSpec : ChangeSpec := { name := "fnCellRange", fn := fun _ => fun
  | [d] => { results := [.lit (.bool true)], args := [d] }
  | _ => none }
def fnCellRangeRow : OpenClaim := { program := "ytaedjkaagcbkdaagreat", sum := "c147d8d8a10ce7bf862dd0669942c7ba1935fb9ee1ccd76deb48d0a7bab97557", func := "loop.example/loopnests/laws.FnCellRange", spec := "fnCellRange", inPlace := ["internal/bytealg.IndexByteString", "internal/bytealg.IndexString"], unfollowed := true, recurses := true, named := ["internal/bytealg.MaxLen"], apart := false }
def FnCellRangeSaid : Prop := fnCellRangeRow.holds Tryz.pinned (OpenSpec.ofChange fnCellRangeSpec)

/-- ITS FALSE NEIGHBOUR: 'it returns false'. Refute it at one input. -/
def fnCellRangeWrong : ChangeSpec := { name := "fnCellRange", fn := fun _ => fun
  | [d] => { results := [.lit (.bool false)], args := [d] }
  | _ => none }
def FnCellRangeWrongFalsely : Prop := fnCellRangeRow.holds Tryz.pinned (OpenSpec.ofChange fnCellRangeWrong)

/-- 'laws.FnProgramPrefix': WHATEVER THE INPUT: true; the input reads as it did. -/
def fnProgramPrefixSpec : ChangeSpec := { name := "fnProgramPrefix", fn := fun _ => fun
  | [d1, d2] => { results := [.lit (.bool true)], args := [d1, d2] }
  | _ => none }
def fnProgramPrefixRow : OpenClaim := { program := "ytaedjkaagcbkdaagreat", sum := "c147d8d8a10ce7bf862dd0669942c7ba1935fb9ee1ccd76deb48d0a7bab97557", func := "loop.example/loopnests/laws.FnProgramPrefix", spec := "fnProgramPrefix", inPlace := ["internal/bytealg.IndexByteString", "internal/bytealg.IndexString"], unfollowed := true, recurses := true, named := ["internal/bytealg.MaxLen"], apart := false }
def FnProgramPrefixSaid : Prop := fnProgramPrefixRow.holds Tryz.pinned (OpenSpec.ofChange fnProgramPrefixSpec)

/-- ITS FALSE NEIGHBOUR: 'it returns false'. Refute it at one input. -/
def fnProgramPrefixWrong : ChangeSpec := { name := "fnProgramPrefix", fn := fun _ => fun
  | [d1, d2] => { results := [.lit (.bool false)], args := [d1, d2] }
  | _ => none }
def FnProgramPrefixWrongFalsely : Prop := fnProgramPrefixRow.holds Tryz.pinned (OpenSpec.ofChange fnProgramPrefixWrong)

/-- 'laws.FnCellOf': WHATEVER THE INPUT: true; the input reads as it did. -/
def fnCellOfSpec : ChangeSpec := { name := "fnCellOf", fn := fun _ => fun
  | [d1, d2] => { results := [.lit (.bool true)], args := [d1, d2] }
  | _ => none }
def fnCellOfRow : OpenClaim := { program := "ytaedjkaagcbkdaagreat", sum := "c147d8d8a10ce7bf862dd0669942c7ba1935fb9ee1ccd76deb48d0a7bab97557", func := "loop.example/loopnests/laws.FnCellOf", spec := "fnCellOf", inPlace := ["internal/bytealg.IndexByteString", "internal/bytealg.IndexString"], unfollowed := true, recurses := true, named := ["internal/bytealg.MaxLen"], apart := false }
def FnCellOfSaid : Prop := fnCellOfRow.holds Tryz.pinned (OpenSpec.ofChange fnCellOfSpec)

/-- ITS FALSE NEIGHBOUR: 'it returns false'. Refute it at one input. -/
def fnCellOfWrong : ChangeSpec := { name := "fnCellOf", fn := fun _ => fun
  | [d1, d2] => { results := [.lit (.bool false)], args := [d1, d2] }
  | _ => none }
def FnCellOfWrongFalsely : Prop := fnCellOfRow.holds Tryz.pinned (OpenSpec.ofChange fnCellOfWrong)

/-- 'laws.FnMemoryValid': WHATEVER THE INPUT: true; the input reads as it did. -/
def fnMemoryValidSpec : ChangeSpec := { name := "fnMemoryValid", fn := fun _ => fun
  | [d1, d2] => { results := [.lit (.bool true)], args := [d1, d2] }
  | _ => none }
def fnMemoryValidRow : OpenClaim := { program := "ytaedjkaagcbkdaagreat", sum := "c147d8d8a10ce7bf862dd0669942c7ba1935fb9ee1ccd76deb48d0a7bab97557", func := "loop.example/loopnests/laws.FnMemoryValid", spec := "fnMemoryValid", inPlace := ["internal/bytealg.IndexByteString", "internal/bytealg.IndexString"], unfollowed := true, recurses := true, named := ["internal/bytealg.MaxLen"], apart := false }
def FnMemoryValidSaid : Prop := fnMemoryValidRow.holds Tryz.pinned (OpenSpec.ofChange fnMemoryValidSpec)

/-- ITS FALSE NEIGHBOUR: 'it returns false'. Refute it at one input. -/
def fnMemoryValidWrong : ChangeSpec := { name := "fnMemoryValid", fn := fun _ => fun
  | [d1, d2] => { results := [.lit (.bool false)], args := [d1, d2] }
  | _ => none }
def FnMemoryValidWrongFalsely : Prop := fnMemoryValidRow.holds Tryz.pinned (OpenSpec.ofChange fnMemoryValidWrong)

/-- 'laws.FnOrderValid': WHATEVER THE INPUT: true; the input reads as it did. -/
def fnOrderValidSpec : ChangeSpec := { name := "fnOrderValid", fn := fun _ => fun
  | [d1, d2] => { results := [.lit (.bool true)], args := [d1, d2] }
  | _ => none }
def fnOrderValidRow : OpenClaim := { program := "ytaedjkaagcbkdaagreat", sum := "c147d8d8a10ce7bf862dd0669942c7ba1935fb9ee1ccd76deb48d0a7bab97557", func := "loop.example/loopnests/laws.FnOrderValid", spec := "fnOrderValid", inPlace := ["internal/bytealg.IndexByteString", "internal/bytealg.IndexString"], unfollowed := true, recurses := true, named := ["internal/bytealg.MaxLen"], apart := false }
def FnOrderValidSaid : Prop := fnOrderValidRow.holds Tryz.pinned (OpenSpec.ofChange fnOrderValidSpec)

/-- ITS FALSE NEIGHBOUR: 'it returns false'. Refute it at one input. -/
def fnOrderValidWrong : ChangeSpec := { name := "fnOrderValid", fn := fun _ => fun
  | [d1, d2] => { results := [.lit (.bool false)], args := [d1, d2] }
  | _ => none }
def FnOrderValidWrongFalsely : Prop := fnOrderValidRow.holds Tryz.pinned (OpenSpec.ofChange fnOrderValidWrong)

/-- 'laws.FnInstanceOrder': WHATEVER THE INPUT: true; the input reads as it did. -/
def fnInstanceOrderSpec : ChangeSpec := { name := "fnInstanceOrder", fn := fun _ => fun
  | [d] => { results := [.lit (.bool true)], args := [d] }
  | _ => none }
def fnInstanceOrderRow : OpenClaim := { program := "ytaedjkaagcbkdaagreat", sum := "c147d8d8a10ce7bf862dd0669942c7ba1935fb9ee1ccd76deb48d0a7bab97557", func := "loop.example/loopnests/laws.FnInstanceOrder", spec := "fnInstanceOrder", inPlace := ["internal/bytealg.IndexByteString", "internal/bytealg.IndexString"], unfollowed := true, recurses := true, named := ["internal/bytealg.MaxLen"], apart := false }
def FnInstanceOrderSaid : Prop := fnInstanceOrderRow.holds Tryz.pinned (OpenSpec.ofChange fnInstanceOrderSpec)

/-- ITS FALSE NEIGHBOUR: 'it returns false'. Refute it at one input. -/
def fnInstanceOrderWrong : ChangeSpec := { name := "fnInstanceOrder", fn := fun _ => fun
  | [d] => { results := [.lit (.bool false)], args := [d] }
  | _ => none }
def FnInstanceOrderWrongFalsely : Prop := fnInstanceOrderRow.holds Tryz.pinned (OpenSpec.ofChange fnInstanceOrderWrong)

/-- 'laws.FnProgramInstances': WHATEVER THE INPUT: true; the input reads as it did. -/
def fnProgramInstancesSpec : ChangeSpec := { name := "fnProgramInstances", fn := fun _ => fun
  | [d] => { results := [.lit (.bool true)], args := [d] }
  | _ => none }
def fnProgramInstancesRow : OpenClaim := { program := "ytaedjkaagcbkdaagreat", sum := "c147d8d8a10ce7bf862dd0669942c7ba1935fb9ee1ccd76deb48d0a7bab97557", func := "loop.example/loopnests/laws.FnProgramInstances", spec := "fnProgramInstances", inPlace := ["internal/bytealg.IndexByteString", "internal/bytealg.IndexString"], unfollowed := true, recurses := true, named := ["internal/bytealg.MaxLen"], apart := false }
def FnProgramInstancesSaid : Prop := fnProgramInstancesRow.holds Tryz.pinned (OpenSpec.ofChange fnProgramInstancesSpec)

/-- ITS FALSE NEIGHBOUR: 'it returns false'. Refute it at one input. -/
def fnProgramInstancesWrong : ChangeSpec := { name := "fnProgramInstances", fn := fun _ => fun
  | [d] => { results := [.lit (.bool false)], args := [d] }
  | _ => none }
def FnProgramInstancesWrongFalsely : Prop := fnProgramInstancesRow.holds Tryz.pinned (OpenSpec.ofChange fnProgramInstancesWrong)

/-- 'laws.FnAddressTrace': WHATEVER THE INPUT: true; the input reads as it did. -/
def fnAddressTraceSpec : ChangeSpec := { name := "fnAddressTrace", fn := fun _ => fun
  | [d] => { results := [.lit (.bool true)], args := [d] }
  | _ => none }
def fnAddressTraceRow : OpenClaim := { program := "ytaedjkaagcbkdaagreat", sum := "c147d8d8a10ce7bf862dd0669942c7ba1935fb9ee1ccd76deb48d0a7bab97557", func := "loop.example/loopnests/laws.FnAddressTrace", spec := "fnAddressTrace", inPlace := ["internal/bytealg.IndexByteString", "internal/bytealg.IndexString"], unfollowed := true, recurses := true, named := ["internal/bytealg.MaxLen"], apart := false }
def FnAddressTraceSaid : Prop := fnAddressTraceRow.holds Tryz.pinned (OpenSpec.ofChange fnAddressTraceSpec)

/-- ITS FALSE NEIGHBOUR: 'it returns false'. Refute it at one input. -/
def fnAddressTraceWrong : ChangeSpec := { name := "fnAddressTrace", fn := fun _ => fun
  | [d] => { results := [.lit (.bool false)], args := [d] }
  | _ => none }
def FnAddressTraceWrongFalsely : Prop := fnAddressTraceRow.holds Tryz.pinned (OpenSpec.ofChange fnAddressTraceWrong)

/-- 'laws.FnInstanceCells': WHATEVER THE INPUT: true; the input reads as it did. -/
def fnInstanceCellsSpec : ChangeSpec := { name := "fnInstanceCells", fn := fun _ => fun
  | [d] => { results := [.lit (.bool true)], args := [d] }
  | _ => none }
def fnInstanceCellsRow : OpenClaim := { program := "ytaedjkaagcbkdaagreat", sum := "c147d8d8a10ce7bf862dd0669942c7ba1935fb9ee1ccd76deb48d0a7bab97557", func := "loop.example/loopnests/laws.FnInstanceCells", spec := "fnInstanceCells", inPlace := ["internal/bytealg.IndexByteString", "internal/bytealg.IndexString"], unfollowed := true, recurses := true, named := ["internal/bytealg.MaxLen"], apart := false }
def FnInstanceCellsSaid : Prop := fnInstanceCellsRow.holds Tryz.pinned (OpenSpec.ofChange fnInstanceCellsSpec)

/-- ITS FALSE NEIGHBOUR: 'it returns false'. Refute it at one input. -/
def fnInstanceCellsWrong : ChangeSpec := { name := "fnInstanceCells", fn := fun _ => fun
  | [d] => { results := [.lit (.bool false)], args := [d] }
  | _ => none }
def FnInstanceCellsWrongFalsely : Prop := fnInstanceCellsRow.holds Tryz.pinned (OpenSpec.ofChange fnInstanceCellsWrong)

/-- 'laws.FnReductionOf': WHATEVER THE INPUT: true; the input reads as it did. -/
def fnReductionOfSpec : ChangeSpec := { name := "fnReductionOf", fn := fun _ => fun
  | [d1, d2] => { results := [.lit (.bool true)], args := [d1, d2] }
  | _ => none }
def fnReductionOfRow : OpenClaim := { program := "ytaedjkaagcbkdaagreat", sum := "c147d8d8a10ce7bf862dd0669942c7ba1935fb9ee1ccd76deb48d0a7bab97557", func := "loop.example/loopnests/laws.FnReductionOf", spec := "fnReductionOf", inPlace := ["internal/bytealg.IndexByteString", "internal/bytealg.IndexString"], unfollowed := true, recurses := true, named := ["internal/bytealg.MaxLen"], apart := false }
def FnReductionOfSaid : Prop := fnReductionOfRow.holds Tryz.pinned (OpenSpec.ofChange fnReductionOfSpec)

/-- ITS FALSE NEIGHBOUR: 'it returns false'. Refute it at one input. -/
def fnReductionOfWrong : ChangeSpec := { name := "fnReductionOf", fn := fun _ => fun
  | [d1, d2] => { results := [.lit (.bool false)], args := [d1, d2] }
  | _ => none }
def FnReductionOfWrongFalsely : Prop := fnReductionOfRow.holds Tryz.pinned (OpenSpec.ofChange fnReductionOfWrong)

/- THE SECOND FORM. 'bulk': how many values and letters a reading holds, each counted each time it is reached (what is shared counts as often as it is met; a slice's spare places count too). A statement '..UptoSaid' is the law's where the arguments, and the package variables that the reading takes, are together of bulk at most 1048576: NARROWER than '..Said'. Prove '..Said' where nothing that the law and all that it calls make is longer than what came in: it says more and counts as full. Else prove '..UptoSaid'. A law counts once. -/
mutual
def uptoBulk {H : Type} : DataW H → Nat
  | .lit (.string bytes) => bytes.length + 1
  | .lit _ => 1
  | .nil => 1
  | .ptr d => uptoBulk d + 1
  | .slice elems spare => uptoBulkAll elems + uptoBulkAll spare + 1
  | .agg parts => uptoBulkAll parts + 1
  | .iface _ d => uptoBulk d + 1
  | .map entries => uptoBulkEntries entries + 1
  | .held _ => 1
def uptoBulkAll {H : Type} : List (DataW H) → Nat
  | [] => 0
  | d :: r => uptoBulk d + uptoBulkAll r
def uptoBulkEntries {H : Type} : List (Lit × DataW H) → Nat
  | [] => 0
  | x :: r => uptoBulkEntry x + uptoBulkEntries r
def uptoBulkEntry {H : Type} : Lit × DataW H → Nat
  | (.string bytes, d) => bytes.length + uptoBulk d + 1
  | (_, d) => uptoBulk d + 1
 end
def uptoSmall : (H : Type) → List (DataW H) → Bool := fun _ ds => decide (uptoBulkAll ds ≤ 1048576)
def OpenSpec.upto (s : _root_.Go.ChangeSpec) : _root_.Go.OpenSpec := { _root_.Go.OpenSpec.ofChange s with cond := some uptoSmall }

/-- 'laws.FnInstanceCount', WHERE WHAT IT READS IS OF BULK AT MOST 1048576: true; the input reads as it did. -/
def fnInstanceCountUptoRow : OpenClaim := { program := "ytaedjkaagcbkdaagreat", sum := "c147d8d8a10ce7bf862dd0669942c7ba1935fb9ee1ccd76deb48d0a7bab97557", func := "loop.example/loopnests/laws.FnInstanceCount", spec := "fnInstanceCount", inPlace := ["internal/bytealg.IndexByteString", "internal/bytealg.IndexString"], unfollowed := true, recurses := true, named := ["internal/bytealg.MaxLen"], apart := false, narrowed := true }
def FnInstanceCountUptoSaid : Prop := fnInstanceCountUptoRow.holds Tryz.pinned (OpenSpec.upto fnInstanceCountSpec)

/-- 'laws.FnCountCells', WHERE WHAT IT READS IS OF BULK AT MOST 1048576: true; the input reads as it did. -/
def fnCountCellsUptoRow : OpenClaim := { program := "ytaedjkaagcbkdaagreat", sum := "c147d8d8a10ce7bf862dd0669942c7ba1935fb9ee1ccd76deb48d0a7bab97557", func := "loop.example/loopnests/laws.FnCountCells", spec := "fnCountCells", inPlace := ["internal/bytealg.IndexByteString", "internal/bytealg.IndexString"], unfollowed := true, recurses := true, named := ["internal/bytealg.MaxLen"], apart := false, narrowed := true }
def FnCountCellsUptoSaid : Prop := fnCountCellsUptoRow.holds Tryz.pinned (OpenSpec.upto fnCountCellsSpec)

/-- 'laws.FnCellRange', WHERE WHAT IT READS IS OF BULK AT MOST 1048576: true; the input reads as it did. -/
def fnCellRangeUptoRow : OpenClaim := { program := "ytaedjkaagcbkdaagreat", sum := "c147d8d8a10ce7bf862dd0669942c7ba1935fb9ee1ccd76deb48d0a7bab97557", func := "loop.example/loopnests/laws.FnCellRange", spec := "fnCellRange", inPlace := ["internal/bytealg.IndexByteString", "internal/bytealg.IndexString"], unfollowed := true, recurses := true, named := ["internal/bytealg.MaxLen"], apart := false, narrowed := true }
def FnCellRangeUptoSaid : Prop := fnCellRangeUptoRow.holds Tryz.pinned (OpenSpec.upto fnCellRangeSpec)

/-- 'laws.FnProgramPrefix', WHERE WHAT IT READS IS OF BULK AT MOST 1048576: true; the input reads as it did. -/
def fnProgramPrefixUptoRow : OpenClaim := { program := "ytaedjkaagcbkdaagreat", sum := "c147d8d8a10ce7bf862dd0669942c7ba1935fb9ee1ccd76deb48d0a7bab97557", func := "loop.example/loopnests/laws.FnProgramPrefix", spec := "fnProgramPrefix", inPlace := ["internal/bytealg.IndexByteString", "internal/bytealg.IndexString"], unfollowed := true, recurses := true, named := ["internal/bytealg.MaxLen"], apart := false, narrowed := true }
def FnProgramPrefixUptoSaid : Prop := fnProgramPrefixUptoRow.holds Tryz.pinned (OpenSpec.upto fnProgramPrefixSpec)

/-- 'laws.FnCellOf', WHERE WHAT IT READS IS OF BULK AT MOST 1048576: true; the input reads as it did. -/
def fnCellOfUptoRow : OpenClaim := { program := "ytaedjkaagcbkdaagreat", sum := "c147d8d8a10ce7bf862dd0669942c7ba1935fb9ee1ccd76deb48d0a7bab97557", func := "loop.example/loopnests/laws.FnCellOf", spec := "fnCellOf", inPlace := ["internal/bytealg.IndexByteString", "internal/bytealg.IndexString"], unfollowed := true, recurses := true, named := ["internal/bytealg.MaxLen"], apart := false, narrowed := true }
def FnCellOfUptoSaid : Prop := fnCellOfUptoRow.holds Tryz.pinned (OpenSpec.upto fnCellOfSpec)

/-- 'laws.FnMemoryValid', WHERE WHAT IT READS IS OF BULK AT MOST 1048576: true; the input reads as it did. -/
def fnMemoryValidUptoRow : OpenClaim := { program := "ytaedjkaagcbkdaagreat", sum := "c147d8d8a10ce7bf862dd0669942c7ba1935fb9ee1ccd76deb48d0a7bab97557", func := "loop.example/loopnests/laws.FnMemoryValid", spec := "fnMemoryValid", inPlace := ["internal/bytealg.IndexByteString", "internal/bytealg.IndexString"], unfollowed := true, recurses := true, named := ["internal/bytealg.MaxLen"], apart := false, narrowed := true }
def FnMemoryValidUptoSaid : Prop := fnMemoryValidUptoRow.holds Tryz.pinned (OpenSpec.upto fnMemoryValidSpec)

/-- 'laws.FnOrderValid', WHERE WHAT IT READS IS OF BULK AT MOST 1048576: true; the input reads as it did. -/
def fnOrderValidUptoRow : OpenClaim := { program := "ytaedjkaagcbkdaagreat", sum := "c147d8d8a10ce7bf862dd0669942c7ba1935fb9ee1ccd76deb48d0a7bab97557", func := "loop.example/loopnests/laws.FnOrderValid", spec := "fnOrderValid", inPlace := ["internal/bytealg.IndexByteString", "internal/bytealg.IndexString"], unfollowed := true, recurses := true, named := ["internal/bytealg.MaxLen"], apart := false, narrowed := true }
def FnOrderValidUptoSaid : Prop := fnOrderValidUptoRow.holds Tryz.pinned (OpenSpec.upto fnOrderValidSpec)

/-- 'laws.FnInstanceOrder', WHERE WHAT IT READS IS OF BULK AT MOST 1048576: true; the input reads as it did. -/
def fnInstanceOrderUptoRow : OpenClaim := { program := "ytaedjkaagcbkdaagreat", sum := "c147d8d8a10ce7bf862dd0669942c7ba1935fb9ee1ccd76deb48d0a7bab97557", func := "loop.example/loopnests/laws.FnInstanceOrder", spec := "fnInstanceOrder", inPlace := ["internal/bytealg.IndexByteString", "internal/bytealg.IndexString"], unfollowed := true, recurses := true, named := ["internal/bytealg.MaxLen"], apart := false, narrowed := true }
def FnInstanceOrderUptoSaid : Prop := fnInstanceOrderUptoRow.holds Tryz.pinned (OpenSpec.upto fnInstanceOrderSpec)

/-- 'laws.FnProgramInstances', WHERE WHAT IT READS IS OF BULK AT MOST 1048576: true; the input reads as it did. -/
def fnProgramInstancesUptoRow : OpenClaim := { program := "ytaedjkaagcbkdaagreat", sum := "c147d8d8a10ce7bf862dd0669942c7ba1935fb9ee1ccd76deb48d0a7bab97557", func := "loop.example/loopnests/laws.FnProgramInstances", spec := "fnProgramInstances", inPlace := ["internal/bytealg.IndexByteString", "internal/bytealg.IndexString"], unfollowed := true, recurses := true, named := ["internal/bytealg.MaxLen"], apart := false, narrowed := true }
def FnProgramInstancesUptoSaid : Prop := fnProgramInstancesUptoRow.holds Tryz.pinned (OpenSpec.upto fnProgramInstancesSpec)

/-- 'laws.FnAddressTrace', WHERE WHAT IT READS IS OF BULK AT MOST 1048576: true; the input reads as it did. -/
def fnAddressTraceUptoRow : OpenClaim := { program := "ytaedjkaagcbkdaagreat", sum := "c147d8d8a10ce7bf862dd0669942c7ba1935fb9ee1ccd76deb48d0a7bab97557", func := "loop.example/loopnests/laws.FnAddressTrace", spec := "fnAddressTrace", inPlace := ["internal/bytealg.IndexByteString", "internal/bytealg.IndexString"], unfollowed := true, recurses := true, named := ["internal/bytealg.MaxLen"], apart := false, narrowed := true }
def FnAddressTraceUptoSaid : Prop := fnAddressTraceUptoRow.holds Tryz.pinned (OpenSpec.upto fnAddressTraceSpec)

/-- 'laws.FnInstanceCells', WHERE WHAT IT READS IS OF BULK AT MOST 1048576: true; the input reads as it did. -/
def fnInstanceCellsUptoRow : OpenClaim := { program := "ytaedjkaagcbkdaagreat", sum := "c147d8d8a10ce7bf862dd0669942c7ba1935fb9ee1ccd76deb48d0a7bab97557", func := "loop.example/loopnests/laws.FnInstanceCells", spec := "fnInstanceCells", inPlace := ["internal/bytealg.IndexByteString", "internal/bytealg.IndexString"], unfollowed := true, recurses := true, named := ["internal/bytealg.MaxLen"], apart := false, narrowed := true }
def FnInstanceCellsUptoSaid : Prop := fnInstanceCellsUptoRow.holds Tryz.pinned (OpenSpec.upto fnInstanceCellsSpec)

/-- 'laws.FnReductionOf', WHERE WHAT IT READS IS OF BULK AT MOST 1048576: true; the input reads as it did. -/
def fnReductionOfUptoRow : OpenClaim := { program := "ytaedjkaagcbkdaagreat", sum := "c147d8d8a10ce7bf862dd0669942c7ba1935fb9ee1ccd76deb48d0a7bab97557", func := "loop.example/loopnests/laws.FnReductionOf", spec := "fnReductionOf", inPlace := ["internal/bytealg.IndexByteString", "internal/bytealg.IndexString"], unfollowed := true, recurses := true, named := ["internal/bytealg.MaxLen"], apart := false, narrowed := true }
def FnReductionOfUptoSaid : Prop := fnReductionOfUptoRow.holds Tryz.pinned (OpenSpec.upto fnReductionOfSpec)

end Rows
end Go.Proofs.YtaedjkaagcbkdaaGreat
