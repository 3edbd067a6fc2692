/-
  DERIVED. GIVEN WITH THE SEED: THE CARDS: each row of YtmjfehjlgmdfhaaDoorRows.lean that lists a variable, with what it lists TIED to the program's text (the seventh form; the later family's looks); each row that meets fmt, with fmt's text TOLD by the authors' own Lean function (tested against real Go, not proved from fmt's source: count such statements apart). THE CARD IS WHAT COUNTS. Prove the row's statement (the work); the ties are given (YtmjfehjlgmdfhaaDoorTie.lean); close each card by the builder's one call (the guide's Derived/Test/ToyasCard.lean, 'card_holds'). Laid BY PROGRAM, IN A SANDBOX (cutbox-door.mjs). By AI agents, Wed Nov 11 2026. No macro, syntax, notation, axiom, sorry.
-/
import Derived.Test.YtmjfehjlgmdfhaaDoorRows
import GoSem.ClaimSeven
namespace Go.Proofs.YtmjfehjlgmdfhaaDoor
namespace Rows

/-- THE TIED CARD OF 'laws.FnAffineText'. -/
def fnAffineTextCard : Claim7 := { stood := { row := fnAffineTextRow, standIns := [], harness := (true, "f8ca0a07807ed9b0c7f375dc7e066bc96d9944bf77f37a773096b11fb0332d32"), looks := true }, kinds := [], alts := [], laidByText := true, laidKinds := [.data, .data, .data, .data, .sentinel, .sentinel, .pinned], laidTests := true, laidLooks := .later }
def FnAffineTextCardSaid : Prop := Claim7.holds Tryd.pinned (.plain (OpenSpec.ofChange fnAffineTextSpec)) fnAffineTextCard

/-- THE SECOND FORM's CARD OF 'laws.FnAffineText'. -/
def fnAffineTextUptoCard : Claim7 := { stood := { row := fnAffineTextUptoRow, standIns := [], harness := (true, "f8ca0a07807ed9b0c7f375dc7e066bc96d9944bf77f37a773096b11fb0332d32"), looks := true }, kinds := [], alts := [], laidByText := true, laidKinds := [.data, .data, .data, .data, .sentinel, .sentinel, .pinned], laidTests := true, laidLooks := .later }
def FnAffineTextUptoCardSaid : Prop := Claim7.holds Tryd.pinned (.plain (OpenSpec.upto fnAffineTextSpec)) fnAffineTextUptoCard
end Rows
end Go.Proofs.YtmjfehjlgmdfhaaDoor
