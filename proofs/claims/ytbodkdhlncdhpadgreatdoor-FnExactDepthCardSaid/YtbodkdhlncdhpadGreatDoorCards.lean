/-
  DERIVED. GIVEN WITH THE SEED: THE CARDS: each row of YtbodkdhlncdhpadGreatDoorRows.lean that lists a variable, with what it lists TIED to the program's text (the seventh form; the later family's looks); each row that meets fmt, with fmt's text TOLD by the authors' own Lean function (tested against real Go, not proved from fmt's source: count such statements apart). THE CARD IS WHAT COUNTS. Prove the row's statement (the work); the ties are given (YtbodkdhlncdhpadGreatDoorTie.lean); close each card by the builder's one call (the guide's Derived/Test/ToyasCard.lean, 'card_holds'). Laid BY PROGRAM, IN A SANDBOX (cutbox-door.mjs). By AI agents, Wed Nov 11 2026. No macro, syntax, notation, axiom, sorry.
-/
import Derived.Test.YtbodkdhlncdhpadGreatDoorRows
import GoSem.ClaimSeven
namespace Go.Proofs.YtbodkdhlncdhpadGreatDoor
namespace Rows

/-- THE TIED CARD OF 'laws.FnExactDepth'. -/
def fnExactDepthCard : Claim7 := { stood := { row := fnExactDepthRow, standIns := [], harness := (true, "32d8f957d953068f14e5b9feb6f57981e1db345f2aa7e4f1085f9253a1318b71"), looks := false }, kinds := [], alts := [], laidByText := true, laidKinds := [.data, .pinned], laidTests := true, laidLooks := .later }
def FnExactDepthCardSaid : Prop := Claim7.holds Tryz.pinned (.plain (OpenSpec.ofChange fnExactDepthSpec)) fnExactDepthCard

/-- THE SECOND FORM's CARD OF 'laws.FnExactDepth'. -/
def fnExactDepthUptoCard : Claim7 := { stood := { row := fnExactDepthUptoRow, standIns := [], harness := (true, "32d8f957d953068f14e5b9feb6f57981e1db345f2aa7e4f1085f9253a1318b71"), looks := false }, kinds := [], alts := [], laidByText := true, laidKinds := [.data, .pinned], laidTests := true, laidLooks := .later }
def FnExactDepthUptoCardSaid : Prop := Claim7.holds Tryz.pinned (.plain (OpenSpec.upto fnExactDepthSpec)) fnExactDepthUptoCard
end Rows
end Go.Proofs.YtbodkdhlncdhpadGreatDoor
