/-
  DERIVED. GIVEN WITH THE SEED: THE CARDS: each row of YtnbhfmhlpncjmacDoorRows.lean that lists a variable, with what it lists TIED to the program's text (the seventh form; the later family's looks); each row that meets fmt, with fmt's text TOLD by the authors' own Lean function (tested against real Go, not proved from fmt's source: count such statements apart). THE CARD IS WHAT COUNTS. Prove the row's statement (the work); the ties are given (YtnbhfmhlpncjmacDoorTie.lean); close each card by the builder's one call (the guide's Derived/Test/ToyasCard.lean, 'card_holds'). Laid BY PROGRAM, IN A SANDBOX (cutbox-door.mjs). By AI agents, Wed Nov 11 2026. No macro, syntax, notation, axiom, sorry.
-/
import Derived.Test.YtnbhfmhlpncjmacDoorRows
import GoSem.ClaimSeven
namespace Go.Proofs.YtnbhfmhlpncjmacDoor
namespace Rows

/-- THE TIED CARD OF 'laws.FnExactAllowedBy'. -/
def fnExactAllowedByCard : Claim7 := { stood := { row := fnExactAllowedByRow, standIns := [], harness := (true, "81b05bec1973ae00caa77a72b737d545ec85cb69c085edeb247990a50185e325"), looks := false }, kinds := [], alts := [], laidByText := true, laidKinds := [.data, .pinned], laidTests := true, laidLooks := .later }
def FnExactAllowedByCardSaid : Prop := Claim7.holds Tryd.pinned (.plain (OpenSpec.ofChange fnExactAllowedBySpec)) fnExactAllowedByCard

/-- THE SECOND FORM's CARD OF 'laws.FnExactAllowedBy'. -/
def fnExactAllowedByUptoCard : Claim7 := { stood := { row := fnExactAllowedByUptoRow, standIns := [], harness := (true, "81b05bec1973ae00caa77a72b737d545ec85cb69c085edeb247990a50185e325"), looks := false }, kinds := [], alts := [], laidByText := true, laidKinds := [.data, .pinned], laidTests := true, laidLooks := .later }
def FnExactAllowedByUptoCardSaid : Prop := Claim7.holds Tryd.pinned (.plain (OpenSpec.upto fnExactAllowedBySpec)) fnExactAllowedByUptoCard
end Rows
end Go.Proofs.YtnbhfmhlpncjmacDoor
