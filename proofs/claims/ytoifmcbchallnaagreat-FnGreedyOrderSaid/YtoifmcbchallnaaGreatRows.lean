/-
  No cell of these rows narrows 'for every input' (looked for: loops, veiled, ifaces, maps, wideKeys, modest, calm, conditions, laid).
  DERIVED. THE GIVEN ROWS OF THIS SEAT. 8 by the template 'for every input the law returns true; each argument reads behind the call as it read before'; 0 by the template 'total and deterministic' (their statements: YtoifmcbchallnaaGreatTotals.lean).
  GIVEN WITH THE SEED: the statements are not yours to turn. If you find one false, say at which input.
  Laid BY PROGRAM, IN A SANDBOX (cutbox-rows.mjs): the forced cells as the released guide's own fill.sh prints them over the translation ffbdf051de76d4c1… (all of the seat's roots in one cut). By AI agents, Wed Nov 11 2026. No macro, syntax, notation, axiom, sorry.
-/
import Derived.Test.YtoifmcbchallnaaGreatChecked
import GoSem.Claim
import GoSem.ClaimJoined
import GoSem.ClaimMapViews
import Derived.JoinedTies
import Derived.KernelRfl
namespace Go.Proofs.YtoifmcbchallnaaGreat
/- THE CELL 'sum', in the pinned program and in every row, IS THE sha256 OF THE DUMP (.gsa) THAT YtoifmcbchallnaaGreatProg.lean LOADS. Nothing in Lean hashes anything: it is a label: what it is worth is what the hold of that sum in a sandbox is worth. -/
noncomputable def Tryz.pinned : Pinned := { name := "ytoifmcbchallnaagreat", sum := "ffbdf051de76d4c1ab29ab098c2e6b23113d1611002fdae6281a006cca09141c", checked := Tryz.checked }
namespace Rows
def none {H : Type} : Left H := { results := [], args := [] }

/-- 'laws.FnLevelsOf': WHATEVER THE INPUT: true; the input reads as it did. -/
def fnLevelsOfSpec : ChangeSpec := { name := "fnLevelsOf", fn := fun _ => fun
  | [d] => { results := [.lit (.bool true)], args := [d] }
  | _ => none }
def fnLevelsOfRow : OpenClaim := { program := "ytoifmcbchallnaagreat", sum := "ffbdf051de76d4c1ab29ab098c2e6b23113d1611002fdae6281a006cca09141c", func := "loop.example/loopnests/laws.FnLevelsOf", spec := "fnLevelsOf", inPlace := ["internal/bytealg.IndexByteString", "internal/bytealg.IndexString"], unfollowed := true, recurses := true, named := ["internal/bytealg.MaxLen"], apart := false }
def FnLevelsOfSaid : Prop := fnLevelsOfRow.holds Tryz.pinned (OpenSpec.ofChange fnLevelsOfSpec)

/-- ITS FALSE NEIGHBOUR: 'it returns false'. Refute it at one input. -/
def fnLevelsOfWrong : ChangeSpec := { name := "fnLevelsOf", fn := fun _ => fun
  | [d] => { results := [.lit (.bool false)], args := [d] }
  | _ => none }
def FnLevelsOfWrongFalsely : Prop := fnLevelsOfRow.holds Tryz.pinned (OpenSpec.ofChange fnLevelsOfWrong)

/-- 'laws.FnCriticalLength': WHATEVER THE INPUT: true; the input reads as it did. -/
def fnCriticalLengthSpec : ChangeSpec := { name := "fnCriticalLength", fn := fun _ => fun
  | [d] => { results := [.lit (.bool true)], args := [d] }
  | _ => none }
def fnCriticalLengthRow : OpenClaim := { program := "ytoifmcbchallnaagreat", sum := "ffbdf051de76d4c1ab29ab098c2e6b23113d1611002fdae6281a006cca09141c", func := "loop.example/loopnests/laws.FnCriticalLength", spec := "fnCriticalLength", inPlace := ["internal/bytealg.IndexByteString", "internal/bytealg.IndexString"], unfollowed := true, recurses := true, named := ["internal/bytealg.MaxLen"], apart := false }
def FnCriticalLengthSaid : Prop := fnCriticalLengthRow.holds Tryz.pinned (OpenSpec.ofChange fnCriticalLengthSpec)

/-- ITS FALSE NEIGHBOUR: 'it returns false'. Refute it at one input. -/
def fnCriticalLengthWrong : ChangeSpec := { name := "fnCriticalLength", fn := fun _ => fun
  | [d] => { results := [.lit (.bool false)], args := [d] }
  | _ => none }
def FnCriticalLengthWrongFalsely : Prop := fnCriticalLengthRow.holds Tryz.pinned (OpenSpec.ofChange fnCriticalLengthWrong)

/-- 'laws.FnLevelBound': WHATEVER THE INPUT: true; the input reads as it did. -/
def fnLevelBoundSpec : ChangeSpec := { name := "fnLevelBound", fn := fun _ => fun
  | [d] => { results := [.lit (.bool true)], args := [d] }
  | _ => none }
def fnLevelBoundRow : OpenClaim := { program := "ytoifmcbchallnaagreat", sum := "ffbdf051de76d4c1ab29ab098c2e6b23113d1611002fdae6281a006cca09141c", func := "loop.example/loopnests/laws.FnLevelBound", spec := "fnLevelBound", inPlace := ["internal/bytealg.IndexByteString", "internal/bytealg.IndexString"], unfollowed := true, recurses := true, named := ["internal/bytealg.MaxLen"], apart := false }
def FnLevelBoundSaid : Prop := fnLevelBoundRow.holds Tryz.pinned (OpenSpec.ofChange fnLevelBoundSpec)

/-- ITS FALSE NEIGHBOUR: 'it returns false'. Refute it at one input. -/
def fnLevelBoundWrong : ChangeSpec := { name := "fnLevelBound", fn := fun _ => fun
  | [d] => { results := [.lit (.bool false)], args := [d] }
  | _ => none }
def FnLevelBoundWrongFalsely : Prop := fnLevelBoundRow.holds Tryz.pinned (OpenSpec.ofChange fnLevelBoundWrong)

/-- 'laws.FnLatestLevels': WHATEVER THE INPUT: true; the input reads as it did. -/
def fnLatestLevelsSpec : ChangeSpec := { name := "fnLatestLevels", fn := fun _ => fun
  | [d] => { results := [.lit (.bool true)], args := [d] }
  | _ => none }
def fnLatestLevelsRow : OpenClaim := { program := "ytoifmcbchallnaagreat", sum := "ffbdf051de76d4c1ab29ab098c2e6b23113d1611002fdae6281a006cca09141c", func := "loop.example/loopnests/laws.FnLatestLevels", spec := "fnLatestLevels", inPlace := ["internal/bytealg.IndexByteString", "internal/bytealg.IndexString"], unfollowed := true, recurses := true, named := ["internal/bytealg.MaxLen"], apart := false }
def FnLatestLevelsSaid : Prop := fnLatestLevelsRow.holds Tryz.pinned (OpenSpec.ofChange fnLatestLevelsSpec)

/-- ITS FALSE NEIGHBOUR: 'it returns false'. Refute it at one input. -/
def fnLatestLevelsWrong : ChangeSpec := { name := "fnLatestLevels", fn := fun _ => fun
  | [d] => { results := [.lit (.bool false)], args := [d] }
  | _ => none }
def FnLatestLevelsWrongFalsely : Prop := fnLatestLevelsRow.holds Tryz.pinned (OpenSpec.ofChange fnLatestLevelsWrong)

/-- 'laws.FnConnectedParts': WHATEVER THE INPUT: true; the input reads as it did. -/
def fnConnectedPartsSpec : ChangeSpec := { name := "fnConnectedParts", fn := fun _ => fun
  | [d] => { results := [.lit (.bool true)], args := [d] }
  | _ => none }
def fnConnectedPartsRow : OpenClaim := { program := "ytoifmcbchallnaagreat", sum := "ffbdf051de76d4c1ab29ab098c2e6b23113d1611002fdae6281a006cca09141c", func := "loop.example/loopnests/laws.FnConnectedParts", spec := "fnConnectedParts", inPlace := ["internal/bytealg.IndexByteString", "internal/bytealg.IndexString"], unfollowed := true, recurses := true, named := ["internal/bytealg.MaxLen"], apart := false }
def FnConnectedPartsSaid : Prop := fnConnectedPartsRow.holds Tryz.pinned (OpenSpec.ofChange fnConnectedPartsSpec)

/-- ITS FALSE NEIGHBOUR: 'it returns false'. Refute it at one input. -/
def fnConnectedPartsWrong : ChangeSpec := { name := "fnConnectedParts", fn := fun _ => fun
  | [d] => { results := [.lit (.bool false)], args := [d] }
  | _ => none }
def FnConnectedPartsWrongFalsely : Prop := fnConnectedPartsRow.holds Tryz.pinned (OpenSpec.ofChange fnConnectedPartsWrong)

/-- 'laws.FnOrderBroken': WHATEVER THE INPUT: true; the input reads as it did. -/
def fnOrderBrokenSpec : ChangeSpec := { name := "fnOrderBroken", fn := fun _ => fun
  | [d] => { results := [.lit (.bool true)], args := [d] }
  | _ => none }
def fnOrderBrokenRow : OpenClaim := { program := "ytoifmcbchallnaagreat", sum := "ffbdf051de76d4c1ab29ab098c2e6b23113d1611002fdae6281a006cca09141c", func := "loop.example/loopnests/laws.FnOrderBroken", spec := "fnOrderBroken", inPlace := ["internal/bytealg.IndexByteString", "internal/bytealg.IndexString"], unfollowed := true, recurses := true, named := ["internal/bytealg.MaxLen"], apart := false }
def FnOrderBrokenSaid : Prop := fnOrderBrokenRow.holds Tryz.pinned (OpenSpec.ofChange fnOrderBrokenSpec)

/-- ITS FALSE NEIGHBOUR: 'it returns false'. Refute it at one input. -/
def fnOrderBrokenWrong : ChangeSpec := { name := "fnOrderBroken", fn := fun _ => fun
  | [d] => { results := [.lit (.bool false)], args := [d] }
  | _ => none }
def FnOrderBrokenWrongFalsely : Prop := fnOrderBrokenRow.holds Tryz.pinned (OpenSpec.ofChange fnOrderBrokenWrong)

/-- 'laws.FnGreedyOrder': WHATEVER THE INPUT: true; the input reads as it did. -/
def fnGreedyOrderSpec : ChangeSpec := { name := "fnGreedyOrder", fn := fun _ => fun
  | [d] => { results := [.lit (.bool true)], args := [d] }
  | _ => none }
def fnGreedyOrderRow : OpenClaim := { program := "ytoifmcbchallnaagreat", sum := "ffbdf051de76d4c1ab29ab098c2e6b23113d1611002fdae6281a006cca09141c", func := "loop.example/loopnests/laws.FnGreedyOrder", spec := "fnGreedyOrder", inPlace := ["internal/bytealg.IndexByteString", "internal/bytealg.IndexString"], unfollowed := true, recurses := true, named := ["internal/bytealg.MaxLen"], apart := false }
def FnGreedyOrderSaid : Prop := fnGreedyOrderRow.holds Tryz.pinned (OpenSpec.ofChange fnGreedyOrderSpec)

/-- ITS FALSE NEIGHBOUR: 'it returns false'. Refute it at one input. -/
def fnGreedyOrderWrong : ChangeSpec := { name := "fnGreedyOrder", fn := fun _ => fun
  | [d] => { results := [.lit (.bool false)], args := [d] }
  | _ => none }
def FnGreedyOrderWrongFalsely : Prop := fnGreedyOrderRow.holds Tryz.pinned (OpenSpec.ofChange fnGreedyOrderWrong)

/-- 'laws.FnLatestOrder': WHATEVER THE INPUT: true; the input reads as it did. -/
def fnLatestOrderSpec : ChangeSpec := { name := "fnLatestOrder", fn := fun _ => fun
  | [d] => { results := [.lit (.bool true)], args := [d] }
  | _ => none }
def fnLatestOrderRow : OpenClaim := { program := "ytoifmcbchallnaagreat", sum := "ffbdf051de76d4c1ab29ab098c2e6b23113d1611002fdae6281a006cca09141c", func := "loop.example/loopnests/laws.FnLatestOrder", spec := "fnLatestOrder", inPlace := ["internal/bytealg.IndexByteString", "internal/bytealg.IndexString"], unfollowed := true, recurses := true, named := ["internal/bytealg.MaxLen"], apart := false }
def FnLatestOrderSaid : Prop := fnLatestOrderRow.holds Tryz.pinned (OpenSpec.ofChange fnLatestOrderSpec)

/-- ITS FALSE NEIGHBOUR: 'it returns false'. Refute it at one input. -/
def fnLatestOrderWrong : ChangeSpec := { name := "fnLatestOrder", fn := fun _ => fun
  | [d] => { results := [.lit (.bool false)], args := [d] }
  | _ => none }
def FnLatestOrderWrongFalsely : Prop := fnLatestOrderRow.holds Tryz.pinned (OpenSpec.ofChange fnLatestOrderWrong)

/- THE SECOND FORM. 'bulk': how many values and letters a reading holds, each counted each time it is reached (what is shared counts as often as it is met; a slice's spare places count too). A statement '..UptoSaid' is the law's where the arguments, and the package variables that the reading takes, are together of bulk at most 1048576: NARROWER than '..Said'. Prove '..Said' where nothing that the law and all that it calls make is longer than what came in: it says more and counts as full. Else prove '..UptoSaid'. A law counts once. -/
mutual
def uptoBulk {H : Type} : DataW H → Nat
  | .lit (.string bytes) => bytes.length + 1
  | .lit _ => 1
  | .nil => 1
  | .ptr d => uptoBulk d + 1
  | .slice elems spare => uptoBulkAll elems + uptoBulkAll spare + 1
  | .agg parts => uptoBulkAll parts + 1
  | .iface _ d => uptoBulk d + 1
  | .map entries => uptoBulkEntries entries + 1
  | .held _ => 1
def uptoBulkAll {H : Type} : List (DataW H) → Nat
  | [] => 0
  | d :: r => uptoBulk d + uptoBulkAll r
def uptoBulkEntries {H : Type} : List (Lit × DataW H) → Nat
  | [] => 0
  | x :: r => uptoBulkEntry x + uptoBulkEntries r
def uptoBulkEntry {H : Type} : Lit × DataW H → Nat
  | (.string bytes, d) => bytes.length + uptoBulk d + 1
  | (_, d) => uptoBulk d + 1
 end
def uptoSmall : (H : Type) → List (DataW H) → Bool := fun _ ds => decide (uptoBulkAll ds ≤ 1048576)
def OpenSpec.upto (s : _root_.Go.ChangeSpec) : _root_.Go.OpenSpec := { _root_.Go.OpenSpec.ofChange s with cond := some uptoSmall }

/-- 'laws.FnLevelsOf', WHERE WHAT IT READS IS OF BULK AT MOST 1048576: true; the input reads as it did. -/
def fnLevelsOfUptoRow : OpenClaim := { program := "ytoifmcbchallnaagreat", sum := "ffbdf051de76d4c1ab29ab098c2e6b23113d1611002fdae6281a006cca09141c", func := "loop.example/loopnests/laws.FnLevelsOf", spec := "fnLevelsOf", inPlace := ["internal/bytealg.IndexByteString", "internal/bytealg.IndexString"], unfollowed := true, recurses := true, named := ["internal/bytealg.MaxLen"], apart := false, narrowed := true }
def FnLevelsOfUptoSaid : Prop := fnLevelsOfUptoRow.holds Tryz.pinned (OpenSpec.upto fnLevelsOfSpec)

/-- 'laws.FnCriticalLength', WHERE WHAT IT READS IS OF BULK AT MOST 1048576: true; the input reads as it did. -/
def fnCriticalLengthUptoRow : OpenClaim := { program := "ytoifmcbchallnaagreat", sum := "ffbdf051de76d4c1ab29ab098c2e6b23113d1611002fdae6281a006cca09141c", func := "loop.example/loopnests/laws.FnCriticalLength", spec := "fnCriticalLength", inPlace := ["internal/bytealg.IndexByteString", "internal/bytealg.IndexString"], unfollowed := true, recurses := true, named := ["internal/bytealg.MaxLen"], apart := false, narrowed := true }
def FnCriticalLengthUptoSaid : Prop := fnCriticalLengthUptoRow.holds Tryz.pinned (OpenSpec.upto fnCriticalLengthSpec)

/-- 'laws.FnLevelBound', WHERE WHAT IT READS IS OF BULK AT MOST 1048576: true; the input reads as it did. -/
def fnLevelBoundUptoRow : OpenClaim := { program := "ytoifmcbchallnaagreat", sum := "ffbdf051de76d4c1ab29ab098c2e6b23113d1611002fdae6281a006cca09141c", func := "loop.example/loopnests/laws.FnLevelBound", spec := "fnLevelBound", inPlace := ["internal/bytealg.IndexByteString", "internal/bytealg.IndexString"], unfollowed := true, recurses := true, named := ["internal/bytealg.MaxLen"], apart := false, narrowed := true }
def FnLevelBoundUptoSaid : Prop := fnLevelBoundUptoRow.holds Tryz.pinned (OpenSpec.upto fnLevelBoundSpec)

/-- 'laws.FnLatestLevels', WHERE WHAT IT READS IS OF BULK AT MOST 1048576: true; the input reads as it did. -/
def fnLatestLevelsUptoRow : OpenClaim := { program := "ytoifmcbchallnaagreat", sum := "ffbdf051de76d4c1ab29ab098c2e6b23113d1611002fdae6281a006cca09141c", func := "loop.example/loopnests/laws.FnLatestLevels", spec := "fnLatestLevels", inPlace := ["internal/bytealg.IndexByteString", "internal/bytealg.IndexString"], unfollowed := true, recurses := true, named := ["internal/bytealg.MaxLen"], apart := false, narrowed := true }
def FnLatestLevelsUptoSaid : Prop := fnLatestLevelsUptoRow.holds Tryz.pinned (OpenSpec.upto fnLatestLevelsSpec)

/-- 'laws.FnConnectedParts', WHERE WHAT IT READS IS OF BULK AT MOST 1048576: true; the input reads as it did. -/
def fnConnectedPartsUptoRow : OpenClaim := { program := "ytoifmcbchallnaagreat", sum := "ffbdf051de76d4c1ab29ab098c2e6b23113d1611002fdae6281a006cca09141c", func := "loop.example/loopnests/laws.FnConnectedParts", spec := "fnConnectedParts", inPlace := ["internal/bytealg.IndexByteString", "internal/bytealg.IndexString"], unfollowed := true, recurses := true, named := ["internal/bytealg.MaxLen"], apart := false, narrowed := true }
def FnConnectedPartsUptoSaid : Prop := fnConnectedPartsUptoRow.holds Tryz.pinned (OpenSpec.upto fnConnectedPartsSpec)

/-- 'laws.FnOrderBroken', WHERE WHAT IT READS IS OF BULK AT MOST 1048576: true; the input reads as it did. -/
def fnOrderBrokenUptoRow : OpenClaim := { program := "ytoifmcbchallnaagreat", sum := "ffbdf051de76d4c1ab29ab098c2e6b23113d1611002fdae6281a006cca09141c", func := "loop.example/loopnests/laws.FnOrderBroken", spec := "fnOrderBroken", inPlace := ["internal/bytealg.IndexByteString", "internal/bytealg.IndexString"], unfollowed := true, recurses := true, named := ["internal/bytealg.MaxLen"], apart := false, narrowed := true }
def FnOrderBrokenUptoSaid : Prop := fnOrderBrokenUptoRow.holds Tryz.pinned (OpenSpec.upto fnOrderBrokenSpec)

/-- 'laws.FnGreedyOrder', WHERE WHAT IT READS IS OF BULK AT MOST 1048576: true; the input reads as it did. -/
def fnGreedyOrderUptoRow : OpenClaim := { program := "ytoifmcbchallnaagreat", sum := "ffbdf051de76d4c1ab29ab098c2e6b23113d1611002fdae6281a006cca09141c", func := "loop.example/loopnests/laws.FnGreedyOrder", spec := "fnGreedyOrder", inPlace := ["internal/bytealg.IndexByteString", "internal/bytealg.IndexString"], unfollowed := true, recurses := true, named := ["internal/bytealg.MaxLen"], apart := false, narrowed := true }
def FnGreedyOrderUptoSaid : Prop := fnGreedyOrderUptoRow.holds Tryz.pinned (OpenSpec.upto fnGreedyOrderSpec)

/-- 'laws.FnLatestOrder', WHERE WHAT IT READS IS OF BULK AT MOST 1048576: true; the input reads as it did. -/
def fnLatestOrderUptoRow : OpenClaim := { program := "ytoifmcbchallnaagreat", sum := "ffbdf051de76d4c1ab29ab098c2e6b23113d1611002fdae6281a006cca09141c", func := "loop.example/loopnests/laws.FnLatestOrder", spec := "fnLatestOrder", inPlace := ["internal/bytealg.IndexByteString", "internal/bytealg.IndexString"], unfollowed := true, recurses := true, named := ["internal/bytealg.MaxLen"], apart := false, narrowed := true }
def FnLatestOrderUptoSaid : Prop := fnLatestOrderUptoRow.holds Tryz.pinned (OpenSpec.upto fnLatestOrderSpec)

end Rows
end Go.Proofs.YtoifmcbchallnaaGreat
