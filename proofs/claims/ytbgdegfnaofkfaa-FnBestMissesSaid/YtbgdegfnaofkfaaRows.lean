/-
  No cell of these rows narrows 'for every input' (looked for: loops, veiled, ifaces, maps, wideKeys, modest, calm, conditions, laid).
  DERIVED. THE GIVEN ROWS OF THIS SEAT. 4 by the template 'for every input the law returns true; each argument reads behind the call as it read before'; 0 by the template 'total and deterministic' (their statements: YtbgdegfnaofkfaaTotals.lean).
  GIVEN WITH THE SEED: the statements are not yours to turn. If you find one false, say at which input.
  Laid BY PROGRAM, IN A SANDBOX (cutbox-rows.mjs): the forced cells as the released guide's own fill.sh prints them over the translation 40a690f9afca199c… (all of the seat's roots in one cut). By AI agents, Wed Nov 11 2026. No macro, syntax, notation, axiom, sorry.
-/
import Derived.Test.YtbgdegfnaofkfaaChecked
import GoSem.Claim
import GoSem.ClaimJoined
import GoSem.ClaimMapViews
import Derived.JoinedTies
import Derived.KernelRfl
namespace Go.Proofs.Ytbgdegfnaofkfaa
/- THE CELL 'sum', in the pinned program and in every row, IS THE sha256 OF THE DUMP (.gsa) THAT YtbgdegfnaofkfaaProg.lean LOADS. Nothing in Lean hashes anything: it is a label: what it is worth is what the hold of that sum in a sandbox is worth. -/
noncomputable def Try.pinned : Pinned := { name := "ytbgdegfnaofkfaa", sum := "40a690f9afca199c4a79d977040b7bf6419609febb97e99e5b05eb736019c1f3", checked := Try.checked }
namespace Rows
def none {H : Type} : Left H := { results := [], args := [] }

/-- 'laws.FnStackDistances': WHATEVER THE INPUT: true; the input reads as it did. -/
def fnStackDistancesSpec : ChangeSpec := { name := "fnStackDistances", fn := fun _ => fun
  | [d1, d2] => { results := [.lit (.bool true)], args := [d1, d2] }
  | _ => none }
def fnStackDistancesRow : OpenClaim := { program := "ytbgdegfnaofkfaa", sum := "40a690f9afca199c4a79d977040b7bf6419609febb97e99e5b05eb736019c1f3", func := "loop.example/loopnests/laws.FnStackDistances", spec := "fnStackDistances", recurses := true, apart := false }
def FnStackDistancesSaid : Prop := fnStackDistancesRow.holds Try.pinned (OpenSpec.ofChange fnStackDistancesSpec)

/-- ITS FALSE NEIGHBOUR: 'it returns false'. Refute it at one input. -/
def fnStackDistancesWrong : ChangeSpec := { name := "fnStackDistances", fn := fun _ => fun
  | [d1, d2] => { results := [.lit (.bool false)], args := [d1, d2] }
  | _ => none }
def FnStackDistancesWrongFalsely : Prop := fnStackDistancesRow.holds Try.pinned (OpenSpec.ofChange fnStackDistancesWrong)

/-- 'laws.FnFitSize': WHATEVER THE INPUT: true; the input reads as it did. -/
def fnFitSizeSpec : ChangeSpec := { name := "fnFitSize", fn := fun _ => fun
  | [d] => { results := [.lit (.bool true)], args := [d] }
  | _ => none }
def fnFitSizeRow : OpenClaim := { program := "ytbgdegfnaofkfaa", sum := "40a690f9afca199c4a79d977040b7bf6419609febb97e99e5b05eb736019c1f3", func := "loop.example/loopnests/laws.FnFitSize", spec := "fnFitSize", recurses := true, apart := false }
def FnFitSizeSaid : Prop := fnFitSizeRow.holds Try.pinned (OpenSpec.ofChange fnFitSizeSpec)

/-- ITS FALSE NEIGHBOUR: 'it returns false'. Refute it at one input. -/
def fnFitSizeWrong : ChangeSpec := { name := "fnFitSize", fn := fun _ => fun
  | [d] => { results := [.lit (.bool false)], args := [d] }
  | _ => none }
def FnFitSizeWrongFalsely : Prop := fnFitSizeRow.holds Try.pinned (OpenSpec.ofChange fnFitSizeWrong)

/-- 'laws.FnBestLarge': WHATEVER THE INPUT: true; the input reads as it did. -/
def fnBestLargeSpec : ChangeSpec := { name := "fnBestLarge", fn := fun _ => fun
  | [d] => { results := [.lit (.bool true)], args := [d] }
  | _ => none }
def fnBestLargeRow : OpenClaim := { program := "ytbgdegfnaofkfaa", sum := "40a690f9afca199c4a79d977040b7bf6419609febb97e99e5b05eb736019c1f3", func := "loop.example/loopnests/laws.FnBestLarge", spec := "fnBestLarge", recurses := true, apart := false }
def FnBestLargeSaid : Prop := fnBestLargeRow.holds Try.pinned (OpenSpec.ofChange fnBestLargeSpec)

/-- ITS FALSE NEIGHBOUR: 'it returns false'. Refute it at one input. -/
def fnBestLargeWrong : ChangeSpec := { name := "fnBestLarge", fn := fun _ => fun
  | [d] => { results := [.lit (.bool false)], args := [d] }
  | _ => none }
def FnBestLargeWrongFalsely : Prop := fnBestLargeRow.holds Try.pinned (OpenSpec.ofChange fnBestLargeWrong)

/-- 'laws.FnBestMisses': WHATEVER THE INPUT: true; the input reads as it did. -/
def fnBestMissesSpec : ChangeSpec := { name := "fnBestMisses", fn := fun _ => fun
  | [d] => { results := [.lit (.bool true)], args := [d] }
  | _ => none }
def fnBestMissesRow : OpenClaim := { program := "ytbgdegfnaofkfaa", sum := "40a690f9afca199c4a79d977040b7bf6419609febb97e99e5b05eb736019c1f3", func := "loop.example/loopnests/laws.FnBestMisses", spec := "fnBestMisses", recurses := true, apart := false }
def FnBestMissesSaid : Prop := fnBestMissesRow.holds Try.pinned (OpenSpec.ofChange fnBestMissesSpec)

/-- ITS FALSE NEIGHBOUR: 'it returns false'. Refute it at one input. -/
def fnBestMissesWrong : ChangeSpec := { name := "fnBestMisses", fn := fun _ => fun
  | [d] => { results := [.lit (.bool false)], args := [d] }
  | _ => none }
def FnBestMissesWrongFalsely : Prop := fnBestMissesRow.holds Try.pinned (OpenSpec.ofChange fnBestMissesWrong)

/- THE SECOND FORM. 'bulk': how many values and letters a reading holds, each counted each time it is reached (what is shared counts as often as it is met; a slice's spare places count too). A statement '..UptoSaid' is the law's where the arguments, and the package variables that the reading takes, are together of bulk at most 1048576: NARROWER than '..Said'. Prove '..Said' where nothing that the law and all that it calls make is longer than what came in: it says more and counts as full. Else prove '..UptoSaid'. A law counts once. -/
mutual
def uptoBulk {H : Type} : DataW H → Nat
  | .lit (.string bytes) => bytes.length + 1
  | .lit _ => 1
  | .nil => 1
  | .ptr d => uptoBulk d + 1
  | .slice elems spare => uptoBulkAll elems + uptoBulkAll spare + 1
  | .agg parts => uptoBulkAll parts + 1
  | .iface _ d => uptoBulk d + 1
  | .map entries => uptoBulkEntries entries + 1
  | .held _ => 1
def uptoBulkAll {H : Type} : List (DataW H) → Nat
  | [] => 0
  | d :: r => uptoBulk d + uptoBulkAll r
def uptoBulkEntries {H : Type} : List (Lit × DataW H) → Nat
  | [] => 0
  | x :: r => uptoBulkEntry x + uptoBulkEntries r
def uptoBulkEntry {H : Type} : Lit × DataW H → Nat
  | (.string bytes, d) => bytes.length + uptoBulk d + 1
  | (_, d) => uptoBulk d + 1
 end
def uptoSmall : (H : Type) → List (DataW H) → Bool := fun _ ds => decide (uptoBulkAll ds ≤ 1048576)
def OpenSpec.upto (s : _root_.Go.ChangeSpec) : _root_.Go.OpenSpec := { _root_.Go.OpenSpec.ofChange s with cond := some uptoSmall }

/-- 'laws.FnStackDistances', WHERE WHAT IT READS IS OF BULK AT MOST 1048576: true; the input reads as it did. -/
def fnStackDistancesUptoRow : OpenClaim := { program := "ytbgdegfnaofkfaa", sum := "40a690f9afca199c4a79d977040b7bf6419609febb97e99e5b05eb736019c1f3", func := "loop.example/loopnests/laws.FnStackDistances", spec := "fnStackDistances", recurses := true, apart := false, narrowed := true }
def FnStackDistancesUptoSaid : Prop := fnStackDistancesUptoRow.holds Try.pinned (OpenSpec.upto fnStackDistancesSpec)

/-- 'laws.FnFitSize', WHERE WHAT IT READS IS OF BULK AT MOST 1048576: true; the input reads as it did. -/
def fnFitSizeUptoRow : OpenClaim := { program := "ytbgdegfnaofkfaa", sum := "40a690f9afca199c4a79d977040b7bf6419609febb97e99e5b05eb736019c1f3", func := "loop.example/loopnests/laws.FnFitSize", spec := "fnFitSize", recurses := true, apart := false, narrowed := true }
def FnFitSizeUptoSaid : Prop := fnFitSizeUptoRow.holds Try.pinned (OpenSpec.upto fnFitSizeSpec)

/-- 'laws.FnBestLarge', WHERE WHAT IT READS IS OF BULK AT MOST 1048576: true; the input reads as it did. -/
def fnBestLargeUptoRow : OpenClaim := { program := "ytbgdegfnaofkfaa", sum := "40a690f9afca199c4a79d977040b7bf6419609febb97e99e5b05eb736019c1f3", func := "loop.example/loopnests/laws.FnBestLarge", spec := "fnBestLarge", recurses := true, apart := false, narrowed := true }
def FnBestLargeUptoSaid : Prop := fnBestLargeUptoRow.holds Try.pinned (OpenSpec.upto fnBestLargeSpec)

/-- 'laws.FnBestMisses', WHERE WHAT IT READS IS OF BULK AT MOST 1048576: true; the input reads as it did. -/
def fnBestMissesUptoRow : OpenClaim := { program := "ytbgdegfnaofkfaa", sum := "40a690f9afca199c4a79d977040b7bf6419609febb97e99e5b05eb736019c1f3", func := "loop.example/loopnests/laws.FnBestMisses", spec := "fnBestMisses", recurses := true, apart := false, narrowed := true }
def FnBestMissesUptoSaid : Prop := fnBestMissesUptoRow.holds Try.pinned (OpenSpec.upto fnBestMissesSpec)

end Rows
end Go.Proofs.Ytbgdegfnaofkfaa
