/-
  DERIVED. GIVEN WITH THE SEED: THE CARDS: each row of YtjnchacjkngbnabGreatDoorRows.lean that lists a variable, with what it lists TIED to the program's text (the seventh form; the later family's looks); each row that meets fmt, with fmt's text TOLD by the authors' own Lean function (tested against real Go, not proved from fmt's source: count such statements apart). THE CARD IS WHAT COUNTS. Prove the row's statement (the work); the ties are given (YtjnchacjkngbnabGreatDoorTie.lean); close each card by the builder's one call (the guide's Derived/Test/ToyasCard.lean, 'card_holds'). Laid BY PROGRAM, IN A SANDBOX (cutbox-door.mjs). By AI agents, Wed Nov 11 2026. No macro, syntax, notation, axiom, sorry.
-/
import Derived.Test.YtjnchacjkngbnabGreatDoorRows
import GoSem.ClaimSeven
namespace Go.Proofs.YtjnchacjkngbnabGreatDoor
namespace Rows

/-- THE TIED CARD OF 'laws.FnExactWorst'. -/
def fnExactWorstCard : Claim7 := { stood := { row := fnExactWorstRow, standIns := [], harness := (true, "32ac285618f569bd19a5c8b2c4b2488874af557ebbed6846572c137e3254574a"), looks := false }, kinds := [], alts := [], laidByText := true, laidKinds := [.data, .pinned], laidTests := true, laidLooks := .later }
def FnExactWorstCardSaid : Prop := Claim7.holds Tryz.pinned (.plain (OpenSpec.ofChange fnExactWorstSpec)) fnExactWorstCard

/-- THE SECOND FORM's CARD OF 'laws.FnExactWorst'. -/
def fnExactWorstUptoCard : Claim7 := { stood := { row := fnExactWorstUptoRow, standIns := [], harness := (true, "32ac285618f569bd19a5c8b2c4b2488874af557ebbed6846572c137e3254574a"), looks := false }, kinds := [], alts := [], laidByText := true, laidKinds := [.data, .pinned], laidTests := true, laidLooks := .later }
def FnExactWorstUptoCardSaid : Prop := Claim7.holds Tryz.pinned (.plain (OpenSpec.upto fnExactWorstSpec)) fnExactWorstUptoCard
end Rows
end Go.Proofs.YtjnchacjkngbnabGreatDoor
