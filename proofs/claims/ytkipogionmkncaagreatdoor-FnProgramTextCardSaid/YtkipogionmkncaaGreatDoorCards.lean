/-
  DERIVED. GIVEN WITH THE SEED: THE CARDS: each row of YtkipogionmkncaaGreatDoorRows.lean that lists a variable, with what it lists TIED to the program's text (the seventh form; the later family's looks); each row that meets fmt, with fmt's text TOLD by the authors' own Lean function (tested against real Go, not proved from fmt's source: count such statements apart). THE CARD IS WHAT COUNTS. Prove the row's statement (the work); the ties are given (YtkipogionmkncaaGreatDoorTie.lean); close each card by the builder's one call (the guide's Derived/Test/ToyasCard.lean, 'card_holds'). Laid BY PROGRAM, IN A SANDBOX (cutbox-door.mjs). By AI agents, Wed Nov 11 2026. No macro, syntax, notation, axiom, sorry.
-/
import Derived.Test.YtkipogionmkncaaGreatDoorRows
import GoSem.ClaimSeven
namespace Go.Proofs.YtkipogionmkncaaGreatDoor
namespace Rows

/-- THE TIED CARD OF 'laws.FnProgramText'. -/
def fnProgramTextCard : Claim7 := { stood := { row := fnProgramTextRow, standIns := [], harness := (true, "85fca9a9565f2c8ce9707dea2544983004654c35dd5d753f3264e839a365c51c"), looks := true }, kinds := [], alts := [], laidByText := true, laidKinds := [.data, .data, .data, .data, .sentinel, .sentinel, .pinned], laidTests := true, laidLooks := .later }
def FnProgramTextCardSaid : Prop := Claim7.holds Tryz.pinned (.plain (OpenSpec.ofChange fnProgramTextSpec)) fnProgramTextCard

/-- THE TIED CARD OF 'laws.FnNestText'. -/
def fnNestTextCard : Claim7 := { stood := { row := fnNestTextRow, standIns := [], harness := (true, "85fca9a9565f2c8ce9707dea2544983004654c35dd5d753f3264e839a365c51c"), looks := true }, kinds := [], alts := [], laidByText := true, laidKinds := [.data, .data, .data, .data, .sentinel, .sentinel, .pinned], laidTests := true, laidLooks := .later }
def FnNestTextCardSaid : Prop := Claim7.holds Tryz.pinned (.plain (OpenSpec.ofChange fnNestTextSpec)) fnNestTextCard

/-- THE TIED CARD OF 'laws.FnProgramSame'. -/
def fnProgramSameCard : Claim7 := { stood := { row := fnProgramSameRow, standIns := [], harness := (true, "85fca9a9565f2c8ce9707dea2544983004654c35dd5d753f3264e839a365c51c"), looks := true }, kinds := [], alts := [], laidByText := true, laidKinds := [.data, .data, .data], laidTests := true, laidLooks := .later }
def FnProgramSameCardSaid : Prop := Claim7.holds Tryz.pinned (.plain (OpenSpec.ofChange fnProgramSameSpec)) fnProgramSameCard

/-- THE TIED CARD OF 'laws.FnStmtText'. -/
def fnStmtTextCard : Claim7 := { stood := { row := fnStmtTextRow, standIns := [], harness := (true, "85fca9a9565f2c8ce9707dea2544983004654c35dd5d753f3264e839a365c51c"), looks := true }, kinds := [], alts := [], laidByText := true, laidKinds := [.data, .data, .data, .data, .sentinel, .sentinel, .pinned], laidTests := true, laidLooks := .later }
def FnStmtTextCardSaid : Prop := Claim7.holds Tryz.pinned (.plain (OpenSpec.ofChange fnStmtTextSpec)) fnStmtTextCard

/-- THE SECOND FORM's CARD OF 'laws.FnProgramText'. -/
def fnProgramTextUptoCard : Claim7 := { stood := { row := fnProgramTextUptoRow, standIns := [], harness := (true, "85fca9a9565f2c8ce9707dea2544983004654c35dd5d753f3264e839a365c51c"), looks := true }, kinds := [], alts := [], laidByText := true, laidKinds := [.data, .data, .data, .data, .sentinel, .sentinel, .pinned], laidTests := true, laidLooks := .later }
def FnProgramTextUptoCardSaid : Prop := Claim7.holds Tryz.pinned (.plain (OpenSpec.upto fnProgramTextSpec)) fnProgramTextUptoCard

/-- THE SECOND FORM's CARD OF 'laws.FnNestText'. -/
def fnNestTextUptoCard : Claim7 := { stood := { row := fnNestTextUptoRow, standIns := [], harness := (true, "85fca9a9565f2c8ce9707dea2544983004654c35dd5d753f3264e839a365c51c"), looks := true }, kinds := [], alts := [], laidByText := true, laidKinds := [.data, .data, .data, .data, .sentinel, .sentinel, .pinned], laidTests := true, laidLooks := .later }
def FnNestTextUptoCardSaid : Prop := Claim7.holds Tryz.pinned (.plain (OpenSpec.upto fnNestTextSpec)) fnNestTextUptoCard

/-- THE SECOND FORM's CARD OF 'laws.FnProgramSame'. -/
def fnProgramSameUptoCard : Claim7 := { stood := { row := fnProgramSameUptoRow, standIns := [], harness := (true, "85fca9a9565f2c8ce9707dea2544983004654c35dd5d753f3264e839a365c51c"), looks := true }, kinds := [], alts := [], laidByText := true, laidKinds := [.data, .data, .data], laidTests := true, laidLooks := .later }
def FnProgramSameUptoCardSaid : Prop := Claim7.holds Tryz.pinned (.plain (OpenSpec.upto fnProgramSameSpec)) fnProgramSameUptoCard

/-- THE SECOND FORM's CARD OF 'laws.FnStmtText'. -/
def fnStmtTextUptoCard : Claim7 := { stood := { row := fnStmtTextUptoRow, standIns := [], harness := (true, "85fca9a9565f2c8ce9707dea2544983004654c35dd5d753f3264e839a365c51c"), looks := true }, kinds := [], alts := [], laidByText := true, laidKinds := [.data, .data, .data, .data, .sentinel, .sentinel, .pinned], laidTests := true, laidLooks := .later }
def FnStmtTextUptoCardSaid : Prop := Claim7.holds Tryz.pinned (.plain (OpenSpec.upto fnStmtTextSpec)) fnStmtTextUptoCard
end Rows
end Go.Proofs.YtkipogionmkncaaGreatDoor
