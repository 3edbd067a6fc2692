/-
  No cell of these rows narrows 'for every input' (looked for: loops, veiled, ifaces, maps, wideKeys, modest, calm, conditions, laid).
  DERIVED. THE GIVEN ROWS OF THIS SEAT. 5 by the template 'for every input the law returns true; each argument reads behind the call as it read before'; 0 by the template 'total and deterministic' (their statements: YtpacccdphbhfbaaGreatTotals.lean).
  GIVEN WITH THE SEED: the statements are not yours to turn. If you find one false, say at which input.
  Laid BY PROGRAM, IN A SANDBOX (cutbox-rows.mjs): the forced cells as the released guide's own fill.sh prints them over the translation e7d89747fe499229… (all of the seat's roots in one cut). By AI agents, Wed Nov 11 2026. No macro, syntax, notation, axiom, sorry.
-/
import Derived.Test.YtpacccdphbhfbaaGreatChecked
import GoSem.Claim
import GoSem.ClaimJoined
import GoSem.ClaimMapViews
import Derived.JoinedTies
import Derived.KernelRfl
namespace Go.Proofs.YtpacccdphbhfbaaGreat
/- THE CELL 'sum', in the pinned program and in every row, IS THE sha256 OF THE DUMP (.gsa) THAT YtpacccdphbhfbaaGreatProg.lean LOADS. Nothing in Lean hashes anything: it is a label: what it is worth is what the hold of that sum in a sandbox is worth. -/
noncomputable def Tryz.pinned : Pinned := { name := "ytpacccdphbhfbaagreat", sum := "e7d89747fe4992290be41cb4003de146ee04b9aaa16ec8c43eedc3b7cc0874b6", checked := Tryz.checked }
namespace Rows
def none {H : Type} : Left H := { results := [], args := [] }

/-- 'laws.FnParallelLoops': WHATEVER THE INPUT: true; the input reads as it did. -/
def fnParallelLoopsSpec : ChangeSpec := { name := "fnParallelLoops", fn := fun _ => fun
  | [d] => { results := [.lit (.bool true)], args := [d] }
  | _ => none }
def fnParallelLoopsRow : OpenClaim := { program := "ytpacccdphbhfbaagreat", sum := "e7d89747fe4992290be41cb4003de146ee04b9aaa16ec8c43eedc3b7cc0874b6", func := "loop.example/loopnests/laws.FnParallelLoops", spec := "fnParallelLoops", inPlace := ["internal/bytealg.IndexByteString", "internal/bytealg.IndexString"], unfollowed := true, recurses := true, named := ["internal/bytealg.MaxLen"], apart := false }
def FnParallelLoopsSaid : Prop := fnParallelLoopsRow.holds Tryz.pinned (OpenSpec.ofChange fnParallelLoopsSpec)

/-- ITS FALSE NEIGHBOUR: 'it returns false'. Refute it at one input. -/
def fnParallelLoopsWrong : ChangeSpec := { name := "fnParallelLoops", fn := fun _ => fun
  | [d] => { results := [.lit (.bool false)], args := [d] }
  | _ => none }
def FnParallelLoopsWrongFalsely : Prop := fnParallelLoopsRow.holds Tryz.pinned (OpenSpec.ofChange fnParallelLoopsWrong)

/-- 'laws.FnReductionOf': WHATEVER THE INPUT: true; the input reads as it did. -/
def fnReductionOfSpec : ChangeSpec := { name := "fnReductionOf", fn := fun _ => fun
  | [d1, d2] => { results := [.lit (.bool true)], args := [d1, d2] }
  | _ => none }
def fnReductionOfRow : OpenClaim := { program := "ytpacccdphbhfbaagreat", sum := "e7d89747fe4992290be41cb4003de146ee04b9aaa16ec8c43eedc3b7cc0874b6", func := "loop.example/loopnests/laws.FnReductionOf", spec := "fnReductionOf", inPlace := ["internal/bytealg.IndexByteString", "internal/bytealg.IndexString"], unfollowed := true, recurses := true, named := ["internal/bytealg.MaxLen"], apart := false }
def FnReductionOfSaid : Prop := fnReductionOfRow.holds Tryz.pinned (OpenSpec.ofChange fnReductionOfSpec)

/-- ITS FALSE NEIGHBOUR: 'it returns false'. Refute it at one input. -/
def fnReductionOfWrong : ChangeSpec := { name := "fnReductionOf", fn := fun _ => fun
  | [d1, d2] => { results := [.lit (.bool false)], args := [d1, d2] }
  | _ => none }
def FnReductionOfWrongFalsely : Prop := fnReductionOfRow.holds Tryz.pinned (OpenSpec.ofChange fnReductionOfWrong)

/-- 'laws.FnPointValue': WHATEVER THE INPUT: true; the input reads as it did. -/
def fnPointValueSpec : ChangeSpec := { name := "fnPointValue", fn := fun _ => fun
  | [d] => { results := [.lit (.bool true)], args := [d] }
  | _ => none }
def fnPointValueRow : OpenClaim := { program := "ytpacccdphbhfbaagreat", sum := "e7d89747fe4992290be41cb4003de146ee04b9aaa16ec8c43eedc3b7cc0874b6", func := "loop.example/loopnests/laws.FnPointValue", spec := "fnPointValue", inPlace := ["internal/bytealg.IndexByteString", "internal/bytealg.IndexString"], unfollowed := true, recurses := true, named := ["internal/bytealg.MaxLen"], apart := false }
def FnPointValueSaid : Prop := fnPointValueRow.holds Tryz.pinned (OpenSpec.ofChange fnPointValueSpec)

/-- ITS FALSE NEIGHBOUR: 'it returns false'. Refute it at one input. -/
def fnPointValueWrong : ChangeSpec := { name := "fnPointValue", fn := fun _ => fun
  | [d] => { results := [.lit (.bool false)], args := [d] }
  | _ => none }
def FnPointValueWrongFalsely : Prop := fnPointValueRow.holds Tryz.pinned (OpenSpec.ofChange fnPointValueWrong)

/-- 'laws.FnOuterParallel': WHATEVER THE INPUT: true; the input reads as it did. -/
def fnOuterParallelSpec : ChangeSpec := { name := "fnOuterParallel", fn := fun _ => fun
  | [d] => { results := [.lit (.bool true)], args := [d] }
  | _ => none }
def fnOuterParallelRow : OpenClaim := { program := "ytpacccdphbhfbaagreat", sum := "e7d89747fe4992290be41cb4003de146ee04b9aaa16ec8c43eedc3b7cc0874b6", func := "loop.example/loopnests/laws.FnOuterParallel", spec := "fnOuterParallel", inPlace := ["internal/bytealg.IndexByteString", "internal/bytealg.IndexString"], unfollowed := true, recurses := true, named := ["internal/bytealg.MaxLen"], apart := false }
def FnOuterParallelSaid : Prop := fnOuterParallelRow.holds Tryz.pinned (OpenSpec.ofChange fnOuterParallelSpec)

/-- ITS FALSE NEIGHBOUR: 'it returns false'. Refute it at one input. -/
def fnOuterParallelWrong : ChangeSpec := { name := "fnOuterParallel", fn := fun _ => fun
  | [d] => { results := [.lit (.bool false)], args := [d] }
  | _ => none }
def FnOuterParallelWrongFalsely : Prop := fnOuterParallelRow.holds Tryz.pinned (OpenSpec.ofChange fnOuterParallelWrong)

/-- 'laws.FnLoopParallel': WHATEVER THE INPUT: true; the input reads as it did. -/
def fnLoopParallelSpec : ChangeSpec := { name := "fnLoopParallel", fn := fun _ => fun
  | [d] => { results := [.lit (.bool true)], args := [d] }
  | _ => none }
def fnLoopParallelRow : OpenClaim := { program := "ytpacccdphbhfbaagreat", sum := "e7d89747fe4992290be41cb4003de146ee04b9aaa16ec8c43eedc3b7cc0874b6", func := "loop.example/loopnests/laws.FnLoopParallel", spec := "fnLoopParallel", inPlace := ["internal/bytealg.IndexByteString", "internal/bytealg.IndexString"], unfollowed := true, recurses := true, named := ["internal/bytealg.MaxLen"], apart := false }
def FnLoopParallelSaid : Prop := fnLoopParallelRow.holds Tryz.pinned (OpenSpec.ofChange fnLoopParallelSpec)

/-- ITS FALSE NEIGHBOUR: 'it returns false'. Refute it at one input. -/
def fnLoopParallelWrong : ChangeSpec := { name := "fnLoopParallel", fn := fun _ => fun
  | [d] => { results := [.lit (.bool false)], args := [d] }
  | _ => none }
def FnLoopParallelWrongFalsely : Prop := fnLoopParallelRow.holds Tryz.pinned (OpenSpec.ofChange fnLoopParallelWrong)

/- THE SECOND FORM. 'bulk': how many values and letters a reading holds, each counted each time it is reached (what is shared counts as often as it is met; a slice's spare places count too). A statement '..UptoSaid' is the law's where the arguments, and the package variables that the reading takes, are together of bulk at most 1048576: NARROWER than '..Said'. Prove '..Said' where nothing that the law and all that it calls make is longer than what came in: it says more and counts as full. Else prove '..UptoSaid'. A law counts once. -/
mutual
def uptoBulk {H : Type} : DataW H → Nat
  | .lit (.string bytes) => bytes.length + 1
  | .lit _ => 1
  | .nil => 1
  | .ptr d => uptoBulk d + 1
  | .slice elems spare => uptoBulkAll elems + uptoBulkAll spare + 1
  | .agg parts => uptoBulkAll parts + 1
  | .iface _ d => uptoBulk d + 1
  | .map entries => uptoBulkEntries entries + 1
  | .held _ => 1
def uptoBulkAll {H : Type} : List (DataW H) → Nat
  | [] => 0
  | d :: r => uptoBulk d + uptoBulkAll r
def uptoBulkEntries {H : Type} : List (Lit × DataW H) → Nat
  | [] => 0
  | x :: r => uptoBulkEntry x + uptoBulkEntries r
def uptoBulkEntry {H : Type} : Lit × DataW H → Nat
  | (.string bytes, d) => bytes.length + uptoBulk d + 1
  | (_, d) => uptoBulk d + 1
 end
def uptoSmall : (H : Type) → List (DataW H) → Bool := fun _ ds => decide (uptoBulkAll ds ≤ 1048576)
def OpenSpec.upto (s : _root_.Go.ChangeSpec) : _root_.Go.OpenSpec := { _root_.Go.OpenSpec.ofChange s with cond := some uptoSmall }

/-- 'laws.FnParallelLoops', WHERE WHAT IT READS IS OF BULK AT MOST 1048576: true; the input reads as it did. -/
def fnParallelLoopsUptoRow : OpenClaim := { program := "ytpacccdphbhfbaagreat", sum := "e7d89747fe4992290be41cb4003de146ee04b9aaa16ec8c43eedc3b7cc0874b6", func := "loop.example/loopnests/laws.FnParallelLoops", spec := "fnParallelLoops", inPlace := ["internal/bytealg.IndexByteString", "internal/bytealg.IndexString"], unfollowed := true, recurses := true, named := ["internal/bytealg.MaxLen"], apart := false, narrowed := true }
def FnParallelLoopsUptoSaid : Prop := fnParallelLoopsUptoRow.holds Tryz.pinned (OpenSpec.upto fnParallelLoopsSpec)

/-- 'laws.FnReductionOf', WHERE WHAT IT READS IS OF BULK AT MOST 1048576: true; the input reads as it did. -/
def fnReductionOfUptoRow : OpenClaim := { program := "ytpacccdphbhfbaagreat", sum := "e7d89747fe4992290be41cb4003de146ee04b9aaa16ec8c43eedc3b7cc0874b6", func := "loop.example/loopnests/laws.FnReductionOf", spec := "fnReductionOf", inPlace := ["internal/bytealg.IndexByteString", "internal/bytealg.IndexString"], unfollowed := true, recurses := true, named := ["internal/bytealg.MaxLen"], apart := false, narrowed := true }
def FnReductionOfUptoSaid : Prop := fnReductionOfUptoRow.holds Tryz.pinned (OpenSpec.upto fnReductionOfSpec)

/-- 'laws.FnPointValue', WHERE WHAT IT READS IS OF BULK AT MOST 1048576: true; the input reads as it did. -/
def fnPointValueUptoRow : OpenClaim := { program := "ytpacccdphbhfbaagreat", sum := "e7d89747fe4992290be41cb4003de146ee04b9aaa16ec8c43eedc3b7cc0874b6", func := "loop.example/loopnests/laws.FnPointValue", spec := "fnPointValue", inPlace := ["internal/bytealg.IndexByteString", "internal/bytealg.IndexString"], unfollowed := true, recurses := true, named := ["internal/bytealg.MaxLen"], apart := false, narrowed := true }
def FnPointValueUptoSaid : Prop := fnPointValueUptoRow.holds Tryz.pinned (OpenSpec.upto fnPointValueSpec)

/-- 'laws.FnOuterParallel', WHERE WHAT IT READS IS OF BULK AT MOST 1048576: true; the input reads as it did. -/
def fnOuterParallelUptoRow : OpenClaim := { program := "ytpacccdphbhfbaagreat", sum := "e7d89747fe4992290be41cb4003de146ee04b9aaa16ec8c43eedc3b7cc0874b6", func := "loop.example/loopnests/laws.FnOuterParallel", spec := "fnOuterParallel", inPlace := ["internal/bytealg.IndexByteString", "internal/bytealg.IndexString"], unfollowed := true, recurses := true, named := ["internal/bytealg.MaxLen"], apart := false, narrowed := true }
def FnOuterParallelUptoSaid : Prop := fnOuterParallelUptoRow.holds Tryz.pinned (OpenSpec.upto fnOuterParallelSpec)

/-- 'laws.FnLoopParallel', WHERE WHAT IT READS IS OF BULK AT MOST 1048576: true; the input reads as it did. -/
def fnLoopParallelUptoRow : OpenClaim := { program := "ytpacccdphbhfbaagreat", sum := "e7d89747fe4992290be41cb4003de146ee04b9aaa16ec8c43eedc3b7cc0874b6", func := "loop.example/loopnests/laws.FnLoopParallel", spec := "fnLoopParallel", inPlace := ["internal/bytealg.IndexByteString", "internal/bytealg.IndexString"], unfollowed := true, recurses := true, named := ["internal/bytealg.MaxLen"], apart := false, narrowed := true }
def FnLoopParallelUptoSaid : Prop := fnLoopParallelUptoRow.holds Tryz.pinned (OpenSpec.upto fnLoopParallelSpec)

end Rows
end Go.Proofs.YtpacccdphbhfbaaGreat
