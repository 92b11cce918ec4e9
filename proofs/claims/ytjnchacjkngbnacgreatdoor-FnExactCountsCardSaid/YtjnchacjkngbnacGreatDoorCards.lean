/-
  DERIVED. GIVEN WITH THE SEED: THE CARDS: each row of YtjnchacjkngbnacGreatDoorRows.lean that lists a variable, with what it lists TIED to the program's text (the seventh form; the later family's looks); each row that meets fmt, with fmt's text TOLD by the authors' own Lean function (tested against real Go, not proved from fmt's source: count such statements apart). THE CARD IS WHAT COUNTS. Prove the row's statement (the work); the ties are given (YtjnchacjkngbnacGreatDoorTie.lean); close each card by the builder's one call (the guide's Derived/Test/ToyasCard.lean, 'card_holds'). Laid BY PROGRAM, IN A SANDBOX (cutbox-door.mjs). By AI agents, Wed Nov 11 2026. No macro, syntax, notation, axiom, sorry.
-/
import Derived.Test.YtjnchacjkngbnacGreatDoorRows
import GoSem.ClaimSeven
namespace Go.Proofs.YtjnchacjkngbnacGreatDoor
namespace Rows

/-- THE TIED CARD OF 'laws.FnExactCounts'. -/
def fnExactCountsCard : Claim7 := { stood := { row := fnExactCountsRow, standIns := [], harness := (true, "71652d935cd1ac0eafcc5ecf718b00c0c18bf11c424d918344ee9265dbb78b03"), looks := false }, kinds := [], alts := [], laidByText := true, laidKinds := [.data, .pinned], laidTests := true, laidLooks := .later }
def FnExactCountsCardSaid : Prop := Claim7.holds Tryz.pinned (.plain (OpenSpec.ofChange fnExactCountsSpec)) fnExactCountsCard

/-- THE SECOND FORM's CARD OF 'laws.FnExactCounts'. -/
def fnExactCountsUptoCard : Claim7 := { stood := { row := fnExactCountsUptoRow, standIns := [], harness := (true, "71652d935cd1ac0eafcc5ecf718b00c0c18bf11c424d918344ee9265dbb78b03"), looks := false }, kinds := [], alts := [], laidByText := true, laidKinds := [.data, .pinned], laidTests := true, laidLooks := .later }
def FnExactCountsUptoCardSaid : Prop := Claim7.holds Tryz.pinned (.plain (OpenSpec.upto fnExactCountsSpec)) fnExactCountsUptoCard
end Rows
end Go.Proofs.YtjnchacjkngbnacGreatDoor
