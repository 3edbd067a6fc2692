/-
  No cell of these rows narrows 'for every input' (looked for: loops, veiled, ifaces, maps, wideKeys, modest, calm, conditions, laid).
  DERIVED. THE GIVEN ROWS OF THIS SEAT. 4 by the template 'for every input the law returns true; each argument reads behind the call as it read before'; 0 by the template 'total and deterministic' (their statements: YtmlnffbepjijhaaGreatTotals.lean).
  GIVEN WITH THE SEED: the statements are not yours to turn. If you find one false, say at which input.
  Laid BY PROGRAM, IN A SANDBOX (cutbox-rows.mjs): the forced cells as the released guide's own fill.sh prints them over the translation 3603b61f68d4dfeb… (all of the seat's roots in one cut). By AI agents, Wed Nov 11 2026. No macro, syntax, notation, axiom, sorry.
-/
import Derived.Test.YtmlnffbepjijhaaGreatChecked
import GoSem.Claim
import GoSem.ClaimJoined
import GoSem.ClaimMapViews
import Derived.JoinedTies
import Derived.KernelRfl
namespace Go.Proofs.YtmlnffbepjijhaaGreat
/- THE CELL 'sum', in the pinned program and in every row, IS THE sha256 OF THE DUMP (.gsa) THAT YtmlnffbepjijhaaGreatProg.lean LOADS. Nothing in Lean hashes anything: it is a label: what it is worth is what the hold of that sum in a sandbox is worth. -/
noncomputable def Tryz.pinned : Pinned := { name := "ytmlnffbepjijhaagreat", sum := "3603b61f68d4dfeb1e11e43ab22b6a19136ccf658bd78cdb331f5185a285b6cb", checked := Tryz.checked }
namespace Rows
def none {H : Type} : Left H := { results := [], args := [] }

/-- 'laws.FnShrinkOrder': WHATEVER THE INPUT: true; the input reads as it did. -/
def fnShrinkOrderSpec : ChangeSpec := { name := "fnShrinkOrder", fn := fun _ => fun
  | [d1, d2] => { results := [.lit (.bool true)], args := [d1, d2] }
  | _ => none }
def fnShrinkOrderRow : OpenClaim := { program := "ytmlnffbepjijhaagreat", sum := "3603b61f68d4dfeb1e11e43ab22b6a19136ccf658bd78cdb331f5185a285b6cb", func := "loop.example/loopnests/laws.FnShrinkOrder", spec := "fnShrinkOrder", inPlace := ["internal/bytealg.IndexByteString", "internal/bytealg.IndexString"], unfollowed := true, recurses := true, named := ["internal/bytealg.MaxLen"], apart := false }
def FnShrinkOrderSaid : Prop := fnShrinkOrderRow.holds Tryz.pinned (OpenSpec.ofChange fnShrinkOrderSpec)

/-- ITS FALSE NEIGHBOUR: 'it returns false'. Refute it at one input. -/
def fnShrinkOrderWrong : ChangeSpec := { name := "fnShrinkOrder", fn := fun _ => fun
  | [d1, d2] => { results := [.lit (.bool false)], args := [d1, d2] }
  | _ => none }
def FnShrinkOrderWrongFalsely : Prop := fnShrinkOrderRow.holds Tryz.pinned (OpenSpec.ofChange fnShrinkOrderWrong)

/-- 'laws.FnShrinkArray': WHATEVER THE INPUT: true; the input reads as it did. -/
def fnShrinkArraySpec : ChangeSpec := { name := "fnShrinkArray", fn := fun _ => fun
  | [d] => { results := [.lit (.bool true)], args := [d] }
  | _ => none }
def fnShrinkArrayRow : OpenClaim := { program := "ytmlnffbepjijhaagreat", sum := "3603b61f68d4dfeb1e11e43ab22b6a19136ccf658bd78cdb331f5185a285b6cb", func := "loop.example/loopnests/laws.FnShrinkArray", spec := "fnShrinkArray", inPlace := ["internal/bytealg.IndexByteString", "internal/bytealg.IndexString"], unfollowed := true, recurses := true, named := ["internal/bytealg.MaxLen"], apart := false }
def FnShrinkArraySaid : Prop := fnShrinkArrayRow.holds Tryz.pinned (OpenSpec.ofChange fnShrinkArraySpec)

/-- ITS FALSE NEIGHBOUR: 'it returns false'. Refute it at one input. -/
def fnShrinkArrayWrong : ChangeSpec := { name := "fnShrinkArray", fn := fun _ => fun
  | [d] => { results := [.lit (.bool false)], args := [d] }
  | _ => none }
def FnShrinkArrayWrongFalsely : Prop := fnShrinkArrayRow.holds Tryz.pinned (OpenSpec.ofChange fnShrinkArrayWrong)

/-- 'laws.FnShrinkValues': WHATEVER THE INPUT: true; the input reads as it did. -/
def fnShrinkValuesSpec : ChangeSpec := { name := "fnShrinkValues", fn := fun _ => fun
  | [d1, d2] => { results := [.lit (.bool true)], args := [d1, d2] }
  | _ => none }
def fnShrinkValuesRow : OpenClaim := { program := "ytmlnffbepjijhaagreat", sum := "3603b61f68d4dfeb1e11e43ab22b6a19136ccf658bd78cdb331f5185a285b6cb", func := "loop.example/loopnests/laws.FnShrinkValues", spec := "fnShrinkValues", inPlace := ["internal/bytealg.IndexByteString", "internal/bytealg.IndexString"], unfollowed := true, recurses := true, named := ["internal/bytealg.MaxLen"], apart := false }
def FnShrinkValuesSaid : Prop := fnShrinkValuesRow.holds Tryz.pinned (OpenSpec.ofChange fnShrinkValuesSpec)

/-- ITS FALSE NEIGHBOUR: 'it returns false'. Refute it at one input. -/
def fnShrinkValuesWrong : ChangeSpec := { name := "fnShrinkValues", fn := fun _ => fun
  | [d1, d2] => { results := [.lit (.bool false)], args := [d1, d2] }
  | _ => none }
def FnShrinkValuesWrongFalsely : Prop := fnShrinkValuesRow.holds Tryz.pinned (OpenSpec.ofChange fnShrinkValuesWrong)

/-- 'laws.FnFoldDeps': WHATEVER THE INPUT: true; the input reads as it did. -/
def fnFoldDepsSpec : ChangeSpec := { name := "fnFoldDeps", fn := fun _ => fun
  | [d] => { results := [.lit (.bool true)], args := [d] }
  | _ => none }
def fnFoldDepsRow : OpenClaim := { program := "ytmlnffbepjijhaagreat", sum := "3603b61f68d4dfeb1e11e43ab22b6a19136ccf658bd78cdb331f5185a285b6cb", func := "loop.example/loopnests/laws.FnFoldDeps", spec := "fnFoldDeps", inPlace := ["internal/bytealg.IndexByteString", "internal/bytealg.IndexString"], unfollowed := true, recurses := true, named := ["internal/bytealg.MaxLen"], apart := false }
def FnFoldDepsSaid : Prop := fnFoldDepsRow.holds Tryz.pinned (OpenSpec.ofChange fnFoldDepsSpec)

/-- ITS FALSE NEIGHBOUR: 'it returns false'. Refute it at one input. -/
def fnFoldDepsWrong : ChangeSpec := { name := "fnFoldDeps", fn := fun _ => fun
  | [d] => { results := [.lit (.bool false)], args := [d] }
  | _ => none }
def FnFoldDepsWrongFalsely : Prop := fnFoldDepsRow.holds Tryz.pinned (OpenSpec.ofChange fnFoldDepsWrong)

/- THE SECOND FORM. 'bulk': how many values and letters a reading holds, each counted each time it is reached (what is shared counts as often as it is met; a slice's spare places count too). A statement '..UptoSaid' is the law's where the arguments, and the package variables that the reading takes, are together of bulk at most 1048576: NARROWER than '..Said'. Prove '..Said' where nothing that the law and all that it calls make is longer than what came in: it says more and counts as full. Else prove '..UptoSaid'. A law counts once. -/
mutual
def uptoBulk {H : Type} : DataW H → Nat
  | .lit (.string bytes) => bytes.length + 1
  | .lit _ => 1
  | .nil => 1
  | .ptr d => uptoBulk d + 1
  | .slice elems spare => uptoBulkAll elems + uptoBulkAll spare + 1
  | .agg parts => uptoBulkAll parts + 1
  | .iface _ d => uptoBulk d + 1
  | .map entries => uptoBulkEntries entries + 1
  | .held _ => 1
def uptoBulkAll {H : Type} : List (DataW H) → Nat
  | [] => 0
  | d :: r => uptoBulk d + uptoBulkAll r
def uptoBulkEntries {H : Type} : List (Lit × DataW H) → Nat
  | [] => 0
  | x :: r => uptoBulkEntry x + uptoBulkEntries r
def uptoBulkEntry {H : Type} : Lit × DataW H → Nat
  | (.string bytes, d) => bytes.length + uptoBulk d + 1
  | (_, d) => uptoBulk d + 1
 end
def uptoSmall : (H : Type) → List (DataW H) → Bool := fun _ ds => decide (uptoBulkAll ds ≤ 1048576)
def OpenSpec.upto (s : _root_.Go.ChangeSpec) : _root_.Go.OpenSpec := { _root_.Go.OpenSpec.ofChange s with cond := some uptoSmall }

/-- 'laws.FnShrinkOrder', WHERE WHAT IT READS IS OF BULK AT MOST 1048576: true; the input reads as it did. -/
def fnShrinkOrderUptoRow : OpenClaim := { program := "ytmlnffbepjijhaagreat", sum := "3603b61f68d4dfeb1e11e43ab22b6a19136ccf658bd78cdb331f5185a285b6cb", func := "loop.example/loopnests/laws.FnShrinkOrder", spec := "fnShrinkOrder", inPlace := ["internal/bytealg.IndexByteString", "internal/bytealg.IndexString"], unfollowed := true, recurses := true, named := ["internal/bytealg.MaxLen"], apart := false, narrowed := true }
def FnShrinkOrderUptoSaid : Prop := fnShrinkOrderUptoRow.holds Tryz.pinned (OpenSpec.upto fnShrinkOrderSpec)

/-- 'laws.FnShrinkArray', WHERE WHAT IT READS IS OF BULK AT MOST 1048576: true; the input reads as it did. -/
def fnShrinkArrayUptoRow : OpenClaim := { program := "ytmlnffbepjijhaagreat", sum := "3603b61f68d4dfeb1e11e43ab22b6a19136ccf658bd78cdb331f5185a285b6cb", func := "loop.example/loopnests/laws.FnShrinkArray", spec := "fnShrinkArray", inPlace := ["internal/bytealg.IndexByteString", "internal/bytealg.IndexString"], unfollowed := true, recurses := true, named := ["internal/bytealg.MaxLen"], apart := false, narrowed := true }
def FnShrinkArrayUptoSaid : Prop := fnShrinkArrayUptoRow.holds Tryz.pinned (OpenSpec.upto fnShrinkArraySpec)

/-- 'laws.FnShrinkValues', WHERE WHAT IT READS IS OF BULK AT MOST 1048576: true; the input reads as it did. -/
def fnShrinkValuesUptoRow : OpenClaim := { program := "ytmlnffbepjijhaagreat", sum := "3603b61f68d4dfeb1e11e43ab22b6a19136ccf658bd78cdb331f5185a285b6cb", func := "loop.example/loopnests/laws.FnShrinkValues", spec := "fnShrinkValues", inPlace := ["internal/bytealg.IndexByteString", "internal/bytealg.IndexString"], unfollowed := true, recurses := true, named := ["internal/bytealg.MaxLen"], apart := false, narrowed := true }
def FnShrinkValuesUptoSaid : Prop := fnShrinkValuesUptoRow.holds Tryz.pinned (OpenSpec.upto fnShrinkValuesSpec)

/-- 'laws.FnFoldDeps', WHERE WHAT IT READS IS OF BULK AT MOST 1048576: true; the input reads as it did. -/
def fnFoldDepsUptoRow : OpenClaim := { program := "ytmlnffbepjijhaagreat", sum := "3603b61f68d4dfeb1e11e43ab22b6a19136ccf658bd78cdb331f5185a285b6cb", func := "loop.example/loopnests/laws.FnFoldDeps", spec := "fnFoldDeps", inPlace := ["internal/bytealg.IndexByteString", "internal/bytealg.IndexString"], unfollowed := true, recurses := true, named := ["internal/bytealg.MaxLen"], apart := false, narrowed := true }
def FnFoldDepsUptoSaid : Prop := fnFoldDepsUptoRow.holds Tryz.pinned (OpenSpec.upto fnFoldDepsSpec)

end Rows
end Go.Proofs.YtmlnffbepjijhaaGreat
