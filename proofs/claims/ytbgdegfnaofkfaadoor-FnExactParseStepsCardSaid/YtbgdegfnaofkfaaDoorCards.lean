/-
  DERIVED. GIVEN WITH THE SEED: THE CARDS: each row of YtbgdegfnaofkfaaDoorRows.lean that lists a variable, with what it lists TIED to the program's text (the seventh form; the later family's looks); each row that meets fmt, with fmt's text TOLD by the authors' own Lean function (tested against real Go, not proved from fmt's source: count such statements apart). THE CARD IS WHAT COUNTS. Prove the row's statement (the work); the ties are given (YtbgdegfnaofkfaaDoorTie.lean); close each card by the builder's one call (the guide's Derived/Test/ToyasCard.lean, 'card_holds'). Laid BY PROGRAM, IN A SANDBOX (cutbox-door.mjs). By AI agents, Wed Nov 11 2026. No macro, syntax, notation, axiom, sorry.
-/
import Derived.Test.YtbgdegfnaofkfaaDoorRows
import GoSem.ClaimSeven
namespace Go.Proofs.YtbgdegfnaofkfaaDoor
namespace Rows

/-- THE TIED CARD OF 'laws.FnExactFormatSteps'. -/
def fnExactFormatStepsCard : Claim7 := { stood := { row := fnExactFormatStepsRow, standIns := [], harness := (true, "73708358a33c757e73ec626805a66b0307d663a3a374ebcd3c28ea68a5223ee4"), looks := true }, kinds := [], alts := [], laidByText := true, laidKinds := [.data, .data, .data], laidTests := true, laidLooks := .later }
def FnExactFormatStepsCardSaid : Prop := Claim7.holds Tryd.pinned (.plain (OpenSpec.ofChange fnExactFormatStepsSpec)) fnExactFormatStepsCard

/-- THE TIED CARD OF 'laws.FnExactParseSteps'. -/
def fnExactParseStepsCard : Claim7 := { stood := { row := fnExactParseStepsRow, standIns := [], harness := (true, "73708358a33c757e73ec626805a66b0307d663a3a374ebcd3c28ea68a5223ee4"), looks := true }, kinds := [], alts := [], laidByText := true, laidKinds := [.data, .data, .data, .data, .sentinel, .sentinel, .pinned], laidTests := true, laidLooks := .later }
def FnExactParseStepsCardSaid : Prop := Claim7.holds Tryd.pinned (.plain (OpenSpec.ofChange fnExactParseStepsSpec)) fnExactParseStepsCard

/-- THE SECOND FORM's CARD OF 'laws.FnExactFormatSteps'. -/
def fnExactFormatStepsUptoCard : Claim7 := { stood := { row := fnExactFormatStepsUptoRow, standIns := [], harness := (true, "73708358a33c757e73ec626805a66b0307d663a3a374ebcd3c28ea68a5223ee4"), looks := true }, kinds := [], alts := [], laidByText := true, laidKinds := [.data, .data, .data], laidTests := true, laidLooks := .later }
def FnExactFormatStepsUptoCardSaid : Prop := Claim7.holds Tryd.pinned (.plain (OpenSpec.upto fnExactFormatStepsSpec)) fnExactFormatStepsUptoCard

/-- THE SECOND FORM's CARD OF 'laws.FnExactParseSteps'. -/
def fnExactParseStepsUptoCard : Claim7 := { stood := { row := fnExactParseStepsUptoRow, standIns := [], harness := (true, "73708358a33c757e73ec626805a66b0307d663a3a374ebcd3c28ea68a5223ee4"), looks := true }, kinds := [], alts := [], laidByText := true, laidKinds := [.data, .data, .data, .data, .sentinel, .sentinel, .pinned], laidTests := true, laidLooks := .later }
def FnExactParseStepsUptoCardSaid : Prop := Claim7.holds Tryd.pinned (.plain (OpenSpec.upto fnExactParseStepsSpec)) fnExactParseStepsUptoCard
end Rows
end Go.Proofs.YtbgdegfnaofkfaaDoor
