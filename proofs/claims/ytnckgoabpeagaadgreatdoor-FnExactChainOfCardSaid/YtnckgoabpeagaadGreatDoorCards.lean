/-
  DERIVED. GIVEN WITH THE SEED: THE CARDS: each row of YtnckgoabpeagaadGreatDoorRows.lean that lists a variable, with what it lists TIED to the program's text (the seventh form; the later family's looks); each row that meets fmt, with fmt's text TOLD by the authors' own Lean function (tested against real Go, not proved from fmt's source: count such statements apart). THE CARD IS WHAT COUNTS. Prove the row's statement (the work); the ties are given (YtnckgoabpeagaadGreatDoorTie.lean); close each card by the builder's one call (the guide's Derived/Test/ToyasCard.lean, 'card_holds'). Laid BY PROGRAM, IN A SANDBOX (cutbox-door.mjs). By AI agents, Wed Nov 11 2026. No macro, syntax, notation, axiom, sorry.
-/
import Derived.Test.YtnckgoabpeagaadGreatDoorRows
import GoSem.ClaimSeven
namespace Go.Proofs.YtnckgoabpeagaadGreatDoor
namespace Rows

/-- THE TIED CARD OF 'laws.FnExactChainOf'. -/
def fnExactChainOfCard : Claim7 := { stood := { row := fnExactChainOfRow, standIns := [], harness := (true, "4b8406242917178e7eeae33c6e9d226783a01d9aa9f1b008fec2ed99c2931345"), looks := false }, kinds := [], alts := [], laidByText := true, laidKinds := [.data, .pinned], laidTests := true, laidLooks := .later }
def FnExactChainOfCardSaid : Prop := Claim7.holds Tryz.pinned (.plain (OpenSpec.ofChange fnExactChainOfSpec)) fnExactChainOfCard

/-- THE SECOND FORM's CARD OF 'laws.FnExactChainOf'. -/
def fnExactChainOfUptoCard : Claim7 := { stood := { row := fnExactChainOfUptoRow, standIns := [], harness := (true, "4b8406242917178e7eeae33c6e9d226783a01d9aa9f1b008fec2ed99c2931345"), looks := false }, kinds := [], alts := [], laidByText := true, laidKinds := [.data, .pinned], laidTests := true, laidLooks := .later }
def FnExactChainOfUptoCardSaid : Prop := Claim7.holds Tryz.pinned (.plain (OpenSpec.upto fnExactChainOfSpec)) fnExactChainOfUptoCard
end Rows
end Go.Proofs.YtnckgoabpeagaadGreatDoor
