/-
  No cell of these rows narrows 'for every input' (looked for: loops, veiled, ifaces, maps, wideKeys, modest, calm, conditions, laid).
  DERIVED. THE GIVEN ROWS OF THIS SEAT. 6 by the template 'for every input the law returns true; each argument reads behind the call as it read before'; 0 by the template 'total and deterministic' (their statements: YtcmjkmdecmabaaaGreatTotals.lean).
  GIVEN WITH THE SEED: the statements are not yours to turn. If you find one false, say at which input.
  Laid BY PROGRAM, IN A SANDBOX (cutbox-rows.mjs): the forced cells as the released guide's own fill.sh prints them over the translation 03d992738886fab0… (all of the seat's roots in one cut). By AI agents, Wed Nov 11 2026. No macro, syntax, notation, axiom, sorry.
-/
import Derived.Test.YtcmjkmdecmabaaaGreatChecked
import GoSem.Claim
import GoSem.ClaimJoined
import GoSem.ClaimMapViews
import Derived.JoinedTies
import Derived.KernelRfl
namespace Go.Proofs.YtcmjkmdecmabaaaGreat
/- THE CELL 'sum', in the pinned program and in every row, IS THE sha256 OF THE DUMP (.gsa) THAT YtcmjkmdecmabaaaGreatProg.lean LOADS. Nothing in Lean hashes anything: it is a label: what it is worth is what the hold of that sum in a sandbox is worth. -/
noncomputable def Tryz.pinned : Pinned := { name := "ytcmjkmdecmabaaagreat", sum := "03d992738886fab003f6634bab64f76035a0c16b26dc7155d44efa3eb86417f4", checked := Tryz.checked }
namespace Rows
def none {H : Type} : Left H := { results := [], args := [] }

/-- 'laws.FnParallelOrder': WHATEVER THE INPUT: true; the input reads as it did. -/
def fnParallelOrderSpec : ChangeSpec := { name := "fnParallelOrder", fn := fun _ => fun
  | [d] => { results := [.lit (.bool true)], args := [d] }
  | _ => none }
def fnParallelOrderRow : OpenClaim := { program := "ytcmjkmdecmabaaagreat", sum := "03d992738886fab003f6634bab64f76035a0c16b26dc7155d44efa3eb86417f4", func := "loop.example/loopnests/laws.FnParallelOrder", spec := "fnParallelOrder", inPlace := ["internal/bytealg.IndexByteString", "internal/bytealg.IndexString"], unfollowed := true, recurses := true, named := ["internal/bytealg.MaxLen"], apart := false }
def FnParallelOrderSaid : Prop := fnParallelOrderRow.holds Tryz.pinned (OpenSpec.ofChange fnParallelOrderSpec)

/-- ITS FALSE NEIGHBOUR: 'it returns false'. Refute it at one input. -/
def fnParallelOrderWrong : ChangeSpec := { name := "fnParallelOrder", fn := fun _ => fun
  | [d] => { results := [.lit (.bool false)], args := [d] }
  | _ => none }
def FnParallelOrderWrongFalsely : Prop := fnParallelOrderRow.holds Tryz.pinned (OpenSpec.ofChange fnParallelOrderWrong)

/-- 'laws.FnParallelFirst': WHATEVER THE INPUT: true; the input reads as it did. -/
def fnParallelFirstSpec : ChangeSpec := { name := "fnParallelFirst", fn := fun _ => fun
  | [d] => { results := [.lit (.bool true)], args := [d] }
  | _ => none }
def fnParallelFirstRow : OpenClaim := { program := "ytcmjkmdecmabaaagreat", sum := "03d992738886fab003f6634bab64f76035a0c16b26dc7155d44efa3eb86417f4", func := "loop.example/loopnests/laws.FnParallelFirst", spec := "fnParallelFirst", inPlace := ["internal/bytealg.IndexByteString", "internal/bytealg.IndexString"], unfollowed := true, recurses := true, named := ["internal/bytealg.MaxLen"], apart := false }
def FnParallelFirstSaid : Prop := fnParallelFirstRow.holds Tryz.pinned (OpenSpec.ofChange fnParallelFirstSpec)

/-- ITS FALSE NEIGHBOUR: 'it returns false'. Refute it at one input. -/
def fnParallelFirstWrong : ChangeSpec := { name := "fnParallelFirst", fn := fun _ => fun
  | [d] => { results := [.lit (.bool false)], args := [d] }
  | _ => none }
def FnParallelFirstWrongFalsely : Prop := fnParallelFirstRow.holds Tryz.pinned (OpenSpec.ofChange fnParallelFirstWrong)

/-- 'laws.FnDistributeBack': WHATEVER THE INPUT: true; the input reads as it did. -/
def fnDistributeBackSpec : ChangeSpec := { name := "fnDistributeBack", fn := fun _ => fun
  | [d] => { results := [.lit (.bool true)], args := [d] }
  | _ => none }
def fnDistributeBackRow : OpenClaim := { program := "ytcmjkmdecmabaaagreat", sum := "03d992738886fab003f6634bab64f76035a0c16b26dc7155d44efa3eb86417f4", func := "loop.example/loopnests/laws.FnDistributeBack", spec := "fnDistributeBack", inPlace := ["internal/bytealg.IndexByteString", "internal/bytealg.IndexString", "slices.overlaps[loop.example/loopnests/impl.Part]"], unfollowed := true, recurses := true, named := ["internal/bytealg.MaxLen"], apart := false }
def FnDistributeBackSaid : Prop := fnDistributeBackRow.holds Tryz.pinned (OpenSpec.ofChange fnDistributeBackSpec)

/-- ITS FALSE NEIGHBOUR: 'it returns false'. Refute it at one input. -/
def fnDistributeBackWrong : ChangeSpec := { name := "fnDistributeBack", fn := fun _ => fun
  | [d] => { results := [.lit (.bool false)], args := [d] }
  | _ => none }
def FnDistributeBackWrongFalsely : Prop := fnDistributeBackRow.holds Tryz.pinned (OpenSpec.ofChange fnDistributeBackWrong)

/-- 'laws.FnFuseBack': WHATEVER THE INPUT: true; the input reads as it did. -/
def fnFuseBackSpec : ChangeSpec := { name := "fnFuseBack", fn := fun _ => fun
  | [d] => { results := [.lit (.bool true)], args := [d] }
  | _ => none }
def fnFuseBackRow : OpenClaim := { program := "ytcmjkmdecmabaaagreat", sum := "03d992738886fab003f6634bab64f76035a0c16b26dc7155d44efa3eb86417f4", func := "loop.example/loopnests/laws.FnFuseBack", spec := "fnFuseBack", inPlace := ["internal/bytealg.IndexByteString", "internal/bytealg.IndexString", "slices.overlaps[loop.example/loopnests/impl.Part]"], unfollowed := true, recurses := true, named := ["internal/bytealg.MaxLen"], apart := false }
def FnFuseBackSaid : Prop := fnFuseBackRow.holds Tryz.pinned (OpenSpec.ofChange fnFuseBackSpec)

/-- ITS FALSE NEIGHBOUR: 'it returns false'. Refute it at one input. -/
def fnFuseBackWrong : ChangeSpec := { name := "fnFuseBack", fn := fun _ => fun
  | [d] => { results := [.lit (.bool false)], args := [d] }
  | _ => none }
def FnFuseBackWrongFalsely : Prop := fnFuseBackRow.holds Tryz.pinned (OpenSpec.ofChange fnFuseBackWrong)

/-- 'laws.FnFuseCount': WHATEVER THE INPUT: true; the input reads as it did. -/
def fnFuseCountSpec : ChangeSpec := { name := "fnFuseCount", fn := fun _ => fun
  | [d] => { results := [.lit (.bool true)], args := [d] }
  | _ => none }
def fnFuseCountRow : OpenClaim := { program := "ytcmjkmdecmabaaagreat", sum := "03d992738886fab003f6634bab64f76035a0c16b26dc7155d44efa3eb86417f4", func := "loop.example/loopnests/laws.FnFuseCount", spec := "fnFuseCount", inPlace := ["internal/bytealg.IndexByteString", "internal/bytealg.IndexString", "slices.overlaps[loop.example/loopnests/impl.Part]"], unfollowed := true, recurses := true, named := ["internal/bytealg.MaxLen"], apart := false }
def FnFuseCountSaid : Prop := fnFuseCountRow.holds Tryz.pinned (OpenSpec.ofChange fnFuseCountSpec)

/-- ITS FALSE NEIGHBOUR: 'it returns false'. Refute it at one input. -/
def fnFuseCountWrong : ChangeSpec := { name := "fnFuseCount", fn := fun _ => fun
  | [d] => { results := [.lit (.bool false)], args := [d] }
  | _ => none }
def FnFuseCountWrongFalsely : Prop := fnFuseCountRow.holds Tryz.pinned (OpenSpec.ofChange fnFuseCountWrong)

/-- 'laws.FnWaveOrder': WHATEVER THE INPUT: true; the input reads as it did. -/
def fnWaveOrderSpec : ChangeSpec := { name := "fnWaveOrder", fn := fun _ => fun
  | [d] => { results := [.lit (.bool true)], args := [d] }
  | _ => none }
def fnWaveOrderRow : OpenClaim := { program := "ytcmjkmdecmabaaagreat", sum := "03d992738886fab003f6634bab64f76035a0c16b26dc7155d44efa3eb86417f4", func := "loop.example/loopnests/laws.FnWaveOrder", spec := "fnWaveOrder", inPlace := ["internal/bytealg.IndexByteString", "internal/bytealg.IndexString"], unfollowed := true, recurses := true, named := ["internal/bytealg.MaxLen"], apart := false }
def FnWaveOrderSaid : Prop := fnWaveOrderRow.holds Tryz.pinned (OpenSpec.ofChange fnWaveOrderSpec)

/-- ITS FALSE NEIGHBOUR: 'it returns false'. Refute it at one input. -/
def fnWaveOrderWrong : ChangeSpec := { name := "fnWaveOrder", fn := fun _ => fun
  | [d] => { results := [.lit (.bool false)], args := [d] }
  | _ => none }
def FnWaveOrderWrongFalsely : Prop := fnWaveOrderRow.holds Tryz.pinned (OpenSpec.ofChange fnWaveOrderWrong)

/- THE SECOND FORM. 'bulk': how many values and letters a reading holds, each counted each time it is reached (what is shared counts as often as it is met; a slice's spare places count too). A statement '..UptoSaid' is the law's where the arguments, and the package variables that the reading takes, are together of bulk at most 1048576: NARROWER than '..Said'. Prove '..Said' where nothing that the law and all that it calls make is longer than what came in: it says more and counts as full. Else prove '..UptoSaid'. A law counts once. -/
mutual
def uptoBulk {H : Type} : DataW H → Nat
  | .lit (.string bytes) => bytes.length + 1
  | .lit _ => 1
  | .nil => 1
  | .ptr d => uptoBulk d + 1
  | .slice elems spare => uptoBulkAll elems + uptoBulkAll spare + 1
  | .agg parts => uptoBulkAll parts + 1
  | .iface _ d => uptoBulk d + 1
  | .map entries => uptoBulkEntries entries + 1
  | .held _ => 1
def uptoBulkAll {H : Type} : List (DataW H) → Nat
  | [] => 0
  | d :: r => uptoBulk d + uptoBulkAll r
def uptoBulkEntries {H : Type} : List (Lit × DataW H) → Nat
  | [] => 0
  | x :: r => uptoBulkEntry x + uptoBulkEntries r
def uptoBulkEntry {H : Type} : Lit × DataW H → Nat
  | (.string bytes, d) => bytes.length + uptoBulk d + 1
  | (_, d) => uptoBulk d + 1
 end
def uptoSmall : (H : Type) → List (DataW H) → Bool := fun _ ds => decide (uptoBulkAll ds ≤ 1048576)
def OpenSpec.upto (s : _root_.Go.ChangeSpec) : _root_.Go.OpenSpec := { _root_.Go.OpenSpec.ofChange s with cond := some uptoSmall }

/-- 'laws.FnParallelOrder', WHERE WHAT IT READS IS OF BULK AT MOST 1048576: true; the input reads as it did. -/
def fnParallelOrderUptoRow : OpenClaim := { program := "ytcmjkmdecmabaaagreat", sum := "03d992738886fab003f6634bab64f76035a0c16b26dc7155d44efa3eb86417f4", func := "loop.example/loopnests/laws.FnParallelOrder", spec := "fnParallelOrder", inPlace := ["internal/bytealg.IndexByteString", "internal/bytealg.IndexString"], unfollowed := true, recurses := true, named := ["internal/bytealg.MaxLen"], apart := false, narrowed := true }
def FnParallelOrderUptoSaid : Prop := fnParallelOrderUptoRow.holds Tryz.pinned (OpenSpec.upto fnParallelOrderSpec)

/-- 'laws.FnParallelFirst', WHERE WHAT IT READS IS OF BULK AT MOST 1048576: true; the input reads as it did. -/
def fnParallelFirstUptoRow : OpenClaim := { program := "ytcmjkmdecmabaaagreat", sum := "03d992738886fab003f6634bab64f76035a0c16b26dc7155d44efa3eb86417f4", func := "loop.example/loopnests/laws.FnParallelFirst", spec := "fnParallelFirst", inPlace := ["internal/bytealg.IndexByteString", "internal/bytealg.IndexString"], unfollowed := true, recurses := true, named := ["internal/bytealg.MaxLen"], apart := false, narrowed := true }
def FnParallelFirstUptoSaid : Prop := fnParallelFirstUptoRow.holds Tryz.pinned (OpenSpec.upto fnParallelFirstSpec)

/-- 'laws.FnDistributeBack', WHERE WHAT IT READS IS OF BULK AT MOST 1048576: true; the input reads as it did. -/
def fnDistributeBackUptoRow : OpenClaim := { program := "ytcmjkmdecmabaaagreat", sum := "03d992738886fab003f6634bab64f76035a0c16b26dc7155d44efa3eb86417f4", func := "loop.example/loopnests/laws.FnDistributeBack", spec := "fnDistributeBack", inPlace := ["internal/bytealg.IndexByteString", "internal/bytealg.IndexString", "slices.overlaps[loop.example/loopnests/impl.Part]"], unfollowed := true, recurses := true, named := ["internal/bytealg.MaxLen"], apart := false, narrowed := true }
def FnDistributeBackUptoSaid : Prop := fnDistributeBackUptoRow.holds Tryz.pinned (OpenSpec.upto fnDistributeBackSpec)

/-- 'laws.FnFuseBack', WHERE WHAT IT READS IS OF BULK AT MOST 1048576: true; the input reads as it did. -/
def fnFuseBackUptoRow : OpenClaim := { program := "ytcmjkmdecmabaaagreat", sum := "03d992738886fab003f6634bab64f76035a0c16b26dc7155d44efa3eb86417f4", func := "loop.example/loopnests/laws.FnFuseBack", spec := "fnFuseBack", inPlace := ["internal/bytealg.IndexByteString", "internal/bytealg.IndexString", "slices.overlaps[loop.example/loopnests/impl.Part]"], unfollowed := true, recurses := true, named := ["internal/bytealg.MaxLen"], apart := false, narrowed := true }
def FnFuseBackUptoSaid : Prop := fnFuseBackUptoRow.holds Tryz.pinned (OpenSpec.upto fnFuseBackSpec)

/-- 'laws.FnFuseCount', WHERE WHAT IT READS IS OF BULK AT MOST 1048576: true; the input reads as it did. -/
def fnFuseCountUptoRow : OpenClaim := { program := "ytcmjkmdecmabaaagreat", sum := "03d992738886fab003f6634bab64f76035a0c16b26dc7155d44efa3eb86417f4", func := "loop.example/loopnests/laws.FnFuseCount", spec := "fnFuseCount", inPlace := ["internal/bytealg.IndexByteString", "internal/bytealg.IndexString", "slices.overlaps[loop.example/loopnests/impl.Part]"], unfollowed := true, recurses := true, named := ["internal/bytealg.MaxLen"], apart := false, narrowed := true }
def FnFuseCountUptoSaid : Prop := fnFuseCountUptoRow.holds Tryz.pinned (OpenSpec.upto fnFuseCountSpec)

/-- 'laws.FnWaveOrder', WHERE WHAT IT READS IS OF BULK AT MOST 1048576: true; the input reads as it did. -/
def fnWaveOrderUptoRow : OpenClaim := { program := "ytcmjkmdecmabaaagreat", sum := "03d992738886fab003f6634bab64f76035a0c16b26dc7155d44efa3eb86417f4", func := "loop.example/loopnests/laws.FnWaveOrder", spec := "fnWaveOrder", inPlace := ["internal/bytealg.IndexByteString", "internal/bytealg.IndexString"], unfollowed := true, recurses := true, named := ["internal/bytealg.MaxLen"], apart := false, narrowed := true }
def FnWaveOrderUptoSaid : Prop := fnWaveOrderUptoRow.holds Tryz.pinned (OpenSpec.upto fnWaveOrderSpec)

end Rows
end Go.Proofs.YtcmjkmdecmabaaaGreat
