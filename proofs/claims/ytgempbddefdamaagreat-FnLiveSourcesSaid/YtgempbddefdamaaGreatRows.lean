/-
  No cell of these rows narrows 'for every input' (looked for: loops, veiled, ifaces, maps, wideKeys, modest, calm, conditions, laid).
  DERIVED. THE GIVEN ROWS OF THIS SEAT. 7 by the template 'for every input the law returns true; each argument reads behind the call as it read before'; 0 by the template 'total and deterministic' (their statements: YtgempbddefdamaaGreatTotals.lean).
  GIVEN WITH THE SEED: the statements are not yours to turn. If you find one false, say at which input.
  Laid BY PROGRAM, IN A SANDBOX (cutbox-rows.mjs): the forced cells as the released guide's own fill.sh prints them over the translation 240ec73e3c7c0a37… (all of the seat's roots in one cut). By AI agents, Wed Nov 11 2026. No macro, syntax, notation, axiom, sorry.
-/
import Derived.Test.YtgempbddefdamaaGreatChecked
import GoSem.Claim
import GoSem.ClaimJoined
import GoSem.ClaimMapViews
import Derived.JoinedTies
import Derived.KernelRfl
namespace Go.Proofs.YtgempbddefdamaaGreat
/- THE CELL 'sum', in the pinned program and in every row, IS THE sha256 OF THE DUMP (.gsa) THAT YtgempbddefdamaaGreatProg.lean LOADS. Nothing in Lean hashes anything: it is a label: what it is worth is what the hold of that sum in a sandbox is worth. -/
noncomputable def Tryz.pinned : Pinned := { name := "ytgempbddefdamaagreat", sum := "240ec73e3c7c0a37ed5a8ac538c2d0eea0f47b9aecd5d2add753246438f13128", checked := Tryz.checked }
namespace Rows
def none {H : Type} : Left H := { results := [], args := [] }

/-- 'laws.FnPartUnion': WHATEVER THE INPUT: true; the input reads as it did. -/
def fnPartUnionSpec : ChangeSpec := { name := "fnPartUnion", fn := fun _ => fun
  | [d] => { results := [.lit (.bool true)], args := [d] }
  | _ => none }
def fnPartUnionRow : OpenClaim := { program := "ytgempbddefdamaagreat", sum := "240ec73e3c7c0a37ed5a8ac538c2d0eea0f47b9aecd5d2add753246438f13128", func := "loop.example/loopnests/laws.FnPartUnion", spec := "fnPartUnion", inPlace := ["internal/bytealg.IndexByteString", "internal/bytealg.IndexString"], unfollowed := true, recurses := true, named := ["internal/bytealg.MaxLen"], apart := false }
def FnPartUnionSaid : Prop := fnPartUnionRow.holds Tryz.pinned (OpenSpec.ofChange fnPartUnionSpec)

/-- ITS FALSE NEIGHBOUR: 'it returns false'. Refute it at one input. -/
def fnPartUnionWrong : ChangeSpec := { name := "fnPartUnion", fn := fun _ => fun
  | [d] => { results := [.lit (.bool false)], args := [d] }
  | _ => none }
def FnPartUnionWrongFalsely : Prop := fnPartUnionRow.holds Tryz.pinned (OpenSpec.ofChange fnPartUnionWrong)

/-- 'laws.FnFlowDep': WHATEVER THE INPUT: true; the input reads as it did. -/
def fnFlowDepSpec : ChangeSpec := { name := "fnFlowDep", fn := fun _ => fun
  | [d] => { results := [.lit (.bool true)], args := [d] }
  | _ => none }
def fnFlowDepRow : OpenClaim := { program := "ytgempbddefdamaagreat", sum := "240ec73e3c7c0a37ed5a8ac538c2d0eea0f47b9aecd5d2add753246438f13128", func := "loop.example/loopnests/laws.FnFlowDep", spec := "fnFlowDep", inPlace := ["internal/bytealg.IndexByteString", "internal/bytealg.IndexString"], unfollowed := true, recurses := true, named := ["internal/bytealg.MaxLen"], apart := false }
def FnFlowDepSaid : Prop := fnFlowDepRow.holds Tryz.pinned (OpenSpec.ofChange fnFlowDepSpec)

/-- ITS FALSE NEIGHBOUR: 'it returns false'. Refute it at one input. -/
def fnFlowDepWrong : ChangeSpec := { name := "fnFlowDep", fn := fun _ => fun
  | [d] => { results := [.lit (.bool false)], args := [d] }
  | _ => none }
def FnFlowDepWrongFalsely : Prop := fnFlowDepRow.holds Tryz.pinned (OpenSpec.ofChange fnFlowDepWrong)

/-- 'laws.FnInputReads': WHATEVER THE INPUT: true; the input reads as it did. -/
def fnInputReadsSpec : ChangeSpec := { name := "fnInputReads", fn := fun _ => fun
  | [d] => { results := [.lit (.bool true)], args := [d] }
  | _ => none }
def fnInputReadsRow : OpenClaim := { program := "ytgempbddefdamaagreat", sum := "240ec73e3c7c0a37ed5a8ac538c2d0eea0f47b9aecd5d2add753246438f13128", func := "loop.example/loopnests/laws.FnInputReads", spec := "fnInputReads", inPlace := ["internal/bytealg.IndexByteString", "internal/bytealg.IndexString"], unfollowed := true, recurses := true, named := ["internal/bytealg.MaxLen"], apart := false }
def FnInputReadsSaid : Prop := fnInputReadsRow.holds Tryz.pinned (OpenSpec.ofChange fnInputReadsSpec)

/-- ITS FALSE NEIGHBOUR: 'it returns false'. Refute it at one input. -/
def fnInputReadsWrong : ChangeSpec := { name := "fnInputReads", fn := fun _ => fun
  | [d] => { results := [.lit (.bool false)], args := [d] }
  | _ => none }
def FnInputReadsWrongFalsely : Prop := fnInputReadsRow.holds Tryz.pinned (OpenSpec.ofChange fnInputReadsWrong)

/-- 'laws.FnFlowSources': WHATEVER THE INPUT: true; the input reads as it did. -/
def fnFlowSourcesSpec : ChangeSpec := { name := "fnFlowSources", fn := fun _ => fun
  | [d] => { results := [.lit (.bool true)], args := [d] }
  | _ => none }
def fnFlowSourcesRow : OpenClaim := { program := "ytgempbddefdamaagreat", sum := "240ec73e3c7c0a37ed5a8ac538c2d0eea0f47b9aecd5d2add753246438f13128", func := "loop.example/loopnests/laws.FnFlowSources", spec := "fnFlowSources", inPlace := ["internal/bytealg.IndexByteString", "internal/bytealg.IndexString"], unfollowed := true, recurses := true, named := ["internal/bytealg.MaxLen"], apart := false }
def FnFlowSourcesSaid : Prop := fnFlowSourcesRow.holds Tryz.pinned (OpenSpec.ofChange fnFlowSourcesSpec)

/-- ITS FALSE NEIGHBOUR: 'it returns false'. Refute it at one input. -/
def fnFlowSourcesWrong : ChangeSpec := { name := "fnFlowSources", fn := fun _ => fun
  | [d] => { results := [.lit (.bool false)], args := [d] }
  | _ => none }
def FnFlowSourcesWrongFalsely : Prop := fnFlowSourcesRow.holds Tryz.pinned (OpenSpec.ofChange fnFlowSourcesWrong)

/-- 'laws.FnDependences': WHATEVER THE INPUT: true; the input reads as it did. -/
def fnDependencesSpec : ChangeSpec := { name := "fnDependences", fn := fun _ => fun
  | [d] => { results := [.lit (.bool true)], args := [d] }
  | _ => none }
def fnDependencesRow : OpenClaim := { program := "ytgempbddefdamaagreat", sum := "240ec73e3c7c0a37ed5a8ac538c2d0eea0f47b9aecd5d2add753246438f13128", func := "loop.example/loopnests/laws.FnDependences", spec := "fnDependences", inPlace := ["internal/bytealg.IndexByteString", "internal/bytealg.IndexString"], unfollowed := true, recurses := true, named := ["internal/bytealg.MaxLen"], apart := false }
def FnDependencesSaid : Prop := fnDependencesRow.holds Tryz.pinned (OpenSpec.ofChange fnDependencesSpec)

/-- ITS FALSE NEIGHBOUR: 'it returns false'. Refute it at one input. -/
def fnDependencesWrong : ChangeSpec := { name := "fnDependences", fn := fun _ => fun
  | [d] => { results := [.lit (.bool false)], args := [d] }
  | _ => none }
def FnDependencesWrongFalsely : Prop := fnDependencesRow.holds Tryz.pinned (OpenSpec.ofChange fnDependencesWrong)

/-- 'laws.FnDepKinds': WHATEVER THE INPUT: true; the input reads as it did. -/
def fnDepKindsSpec : ChangeSpec := { name := "fnDepKinds", fn := fun _ => fun
  | [d] => { results := [.lit (.bool true)], args := [d] }
  | _ => none }
def fnDepKindsRow : OpenClaim := { program := "ytgempbddefdamaagreat", sum := "240ec73e3c7c0a37ed5a8ac538c2d0eea0f47b9aecd5d2add753246438f13128", func := "loop.example/loopnests/laws.FnDepKinds", spec := "fnDepKinds", inPlace := ["internal/bytealg.IndexByteString", "internal/bytealg.IndexString"], unfollowed := true, recurses := true, named := ["internal/bytealg.MaxLen"], apart := false }
def FnDepKindsSaid : Prop := fnDepKindsRow.holds Tryz.pinned (OpenSpec.ofChange fnDepKindsSpec)

/-- ITS FALSE NEIGHBOUR: 'it returns false'. Refute it at one input. -/
def fnDepKindsWrong : ChangeSpec := { name := "fnDepKinds", fn := fun _ => fun
  | [d] => { results := [.lit (.bool false)], args := [d] }
  | _ => none }
def FnDepKindsWrongFalsely : Prop := fnDepKindsRow.holds Tryz.pinned (OpenSpec.ofChange fnDepKindsWrong)

/-- 'laws.FnLiveSources': WHATEVER THE INPUT: true; the input reads as it did. -/
def fnLiveSourcesSpec : ChangeSpec := { name := "fnLiveSources", fn := fun _ => fun
  | [d] => { results := [.lit (.bool true)], args := [d] }
  | _ => none }
def fnLiveSourcesRow : OpenClaim := { program := "ytgempbddefdamaagreat", sum := "240ec73e3c7c0a37ed5a8ac538c2d0eea0f47b9aecd5d2add753246438f13128", func := "loop.example/loopnests/laws.FnLiveSources", spec := "fnLiveSources", inPlace := ["internal/bytealg.IndexByteString", "internal/bytealg.IndexString"], unfollowed := true, recurses := true, named := ["internal/bytealg.MaxLen"], apart := false }
def FnLiveSourcesSaid : Prop := fnLiveSourcesRow.holds Tryz.pinned (OpenSpec.ofChange fnLiveSourcesSpec)

/-- ITS FALSE NEIGHBOUR: 'it returns false'. Refute it at one input. -/
def fnLiveSourcesWrong : ChangeSpec := { name := "fnLiveSources", fn := fun _ => fun
  | [d] => { results := [.lit (.bool false)], args := [d] }
  | _ => none }
def FnLiveSourcesWrongFalsely : Prop := fnLiveSourcesRow.holds Tryz.pinned (OpenSpec.ofChange fnLiveSourcesWrong)

/- THE SECOND FORM. 'bulk': how many values and letters a reading holds, each counted each time it is reached (what is shared counts as often as it is met; a slice's spare places count too). A statement '..UptoSaid' is the law's where the arguments, and the package variables that the reading takes, are together of bulk at most 1048576: NARROWER than '..Said'. Prove '..Said' where nothing that the law and all that it calls make is longer than what came in: it says more and counts as full. Else prove '..UptoSaid'. A law counts once. -/
mutual
def uptoBulk {H : Type} : DataW H → Nat
  | .lit (.string bytes) => bytes.length + 1
  | .lit _ => 1
  | .nil => 1
  | .ptr d => uptoBulk d + 1
  | .slice elems spare => uptoBulkAll elems + uptoBulkAll spare + 1
  | .agg parts => uptoBulkAll parts + 1
  | .iface _ d => uptoBulk d + 1
  | .map entries => uptoBulkEntries entries + 1
  | .held _ => 1
def uptoBulkAll {H : Type} : List (DataW H) → Nat
  | [] => 0
  | d :: r => uptoBulk d + uptoBulkAll r
def uptoBulkEntries {H : Type} : List (Lit × DataW H) → Nat
  | [] => 0
  | x :: r => uptoBulkEntry x + uptoBulkEntries r
def uptoBulkEntry {H : Type} : Lit × DataW H → Nat
  | (.string bytes, d) => bytes.length + uptoBulk d + 1
  | (_, d) => uptoBulk d + 1
 end
def uptoSmall : (H : Type) → List (DataW H) → Bool := fun _ ds => decide (uptoBulkAll ds ≤ 1048576)
def OpenSpec.upto (s : _root_.Go.ChangeSpec) : _root_.Go.OpenSpec := { _root_.Go.OpenSpec.ofChange s with cond := some uptoSmall }

/-- 'laws.FnPartUnion', WHERE WHAT IT READS IS OF BULK AT MOST 1048576: true; the input reads as it did. -/
def fnPartUnionUptoRow : OpenClaim := { program := "ytgempbddefdamaagreat", sum := "240ec73e3c7c0a37ed5a8ac538c2d0eea0f47b9aecd5d2add753246438f13128", func := "loop.example/loopnests/laws.FnPartUnion", spec := "fnPartUnion", inPlace := ["internal/bytealg.IndexByteString", "internal/bytealg.IndexString"], unfollowed := true, recurses := true, named := ["internal/bytealg.MaxLen"], apart := false, narrowed := true }
def FnPartUnionUptoSaid : Prop := fnPartUnionUptoRow.holds Tryz.pinned (OpenSpec.upto fnPartUnionSpec)

/-- 'laws.FnFlowDep', WHERE WHAT IT READS IS OF BULK AT MOST 1048576: true; the input reads as it did. -/
def fnFlowDepUptoRow : OpenClaim := { program := "ytgempbddefdamaagreat", sum := "240ec73e3c7c0a37ed5a8ac538c2d0eea0f47b9aecd5d2add753246438f13128", func := "loop.example/loopnests/laws.FnFlowDep", spec := "fnFlowDep", inPlace := ["internal/bytealg.IndexByteString", "internal/bytealg.IndexString"], unfollowed := true, recurses := true, named := ["internal/bytealg.MaxLen"], apart := false, narrowed := true }
def FnFlowDepUptoSaid : Prop := fnFlowDepUptoRow.holds Tryz.pinned (OpenSpec.upto fnFlowDepSpec)

/-- 'laws.FnInputReads', WHERE WHAT IT READS IS OF BULK AT MOST 1048576: true; the input reads as it did. -/
def fnInputReadsUptoRow : OpenClaim := { program := "ytgempbddefdamaagreat", sum := "240ec73e3c7c0a37ed5a8ac538c2d0eea0f47b9aecd5d2add753246438f13128", func := "loop.example/loopnests/laws.FnInputReads", spec := "fnInputReads", inPlace := ["internal/bytealg.IndexByteString", "internal/bytealg.IndexString"], unfollowed := true, recurses := true, named := ["internal/bytealg.MaxLen"], apart := false, narrowed := true }
def FnInputReadsUptoSaid : Prop := fnInputReadsUptoRow.holds Tryz.pinned (OpenSpec.upto fnInputReadsSpec)

/-- 'laws.FnFlowSources', WHERE WHAT IT READS IS OF BULK AT MOST 1048576: true; the input reads as it did. -/
def fnFlowSourcesUptoRow : OpenClaim := { program := "ytgempbddefdamaagreat", sum := "240ec73e3c7c0a37ed5a8ac538c2d0eea0f47b9aecd5d2add753246438f13128", func := "loop.example/loopnests/laws.FnFlowSources", spec := "fnFlowSources", inPlace := ["internal/bytealg.IndexByteString", "internal/bytealg.IndexString"], unfollowed := true, recurses := true, named := ["internal/bytealg.MaxLen"], apart := false, narrowed := true }
def FnFlowSourcesUptoSaid : Prop := fnFlowSourcesUptoRow.holds Tryz.pinned (OpenSpec.upto fnFlowSourcesSpec)

/-- 'laws.FnDependences', WHERE WHAT IT READS IS OF BULK AT MOST 1048576: true; the input reads as it did. -/
def fnDependencesUptoRow : OpenClaim := { program := "ytgempbddefdamaagreat", sum := "240ec73e3c7c0a37ed5a8ac538c2d0eea0f47b9aecd5d2add753246438f13128", func := "loop.example/loopnests/laws.FnDependences", spec := "fnDependences", inPlace := ["internal/bytealg.IndexByteString", "internal/bytealg.IndexString"], unfollowed := true, recurses := true, named := ["internal/bytealg.MaxLen"], apart := false, narrowed := true }
def FnDependencesUptoSaid : Prop := fnDependencesUptoRow.holds Tryz.pinned (OpenSpec.upto fnDependencesSpec)

/-- 'laws.FnDepKinds', WHERE WHAT IT READS IS OF BULK AT MOST 1048576: true; the input reads as it did. -/
def fnDepKindsUptoRow : OpenClaim := { program := "ytgempbddefdamaagreat", sum := "240ec73e3c7c0a37ed5a8ac538c2d0eea0f47b9aecd5d2add753246438f13128", func := "loop.example/loopnests/laws.FnDepKinds", spec := "fnDepKinds", inPlace := ["internal/bytealg.IndexByteString", "internal/bytealg.IndexString"], unfollowed := true, recurses := true, named := ["internal/bytealg.MaxLen"], apart := false, narrowed := true }
def FnDepKindsUptoSaid : Prop := fnDepKindsUptoRow.holds Tryz.pinned (OpenSpec.upto fnDepKindsSpec)

/-- 'laws.FnLiveSources', WHERE WHAT IT READS IS OF BULK AT MOST 1048576: true; the input reads as it did. -/
def fnLiveSourcesUptoRow : OpenClaim := { program := "ytgempbddefdamaagreat", sum := "240ec73e3c7c0a37ed5a8ac538c2d0eea0f47b9aecd5d2add753246438f13128", func := "loop.example/loopnests/laws.FnLiveSources", spec := "fnLiveSources", inPlace := ["internal/bytealg.IndexByteString", "internal/bytealg.IndexString"], unfollowed := true, recurses := true, named := ["internal/bytealg.MaxLen"], apart := false, narrowed := true }
def FnLiveSourcesUptoSaid : Prop := fnLiveSourcesUptoRow.holds Tryz.pinned (OpenSpec.upto fnLiveSourcesSpec)

end Rows
end Go.Proofs.YtgempbddefdamaaGreat
