/-
  DERIVED. GIVEN WITH THE SEED: THE CARDS: each row of YtcoojdgfpdajiadGreatDoorRows.lean that lists a variable, with what it lists TIED to the program's text (the seventh form; the later family's looks); each row that meets fmt, with fmt's text TOLD by the authors' own Lean function (tested against real Go, not proved from fmt's source: count such statements apart). THE CARD IS WHAT COUNTS. Prove the row's statement (the work); the ties are given (YtcoojdgfpdajiadGreatDoorTie.lean); close each card by the builder's one call (the guide's Derived/Test/ToyasCard.lean, 'card_holds'). Laid BY PROGRAM, IN A SANDBOX (cutbox-door.mjs). By AI agents, Wed Nov 11 2026. No macro, syntax, notation, axiom, sorry.
-/
import Derived.Test.YtcoojdgfpdajiadGreatDoorRows
import GoSem.ClaimSeven
namespace Go.Proofs.YtcoojdgfpdajiadGreatDoor
namespace Rows

/-- THE TIED CARD OF 'laws.FnExactCertOk'. -/
def fnExactCertOkCard : Claim7 := { stood := { row := fnExactCertOkRow, standIns := [], harness := (true, "63ec51ff1408671d61a3a077b8f241c6bcbc1a9468f7731715373845d0a85324"), looks := false }, kinds := [], alts := [], laidByText := true, laidKinds := [.data, .pinned], laidTests := true, laidLooks := .later }
def FnExactCertOkCardSaid : Prop := Claim7.holds Tryz.pinned (.plain (OpenSpec.ofChange fnExactCertOkSpec)) fnExactCertOkCard

/-- THE SECOND FORM's CARD OF 'laws.FnExactCertOk'. -/
def fnExactCertOkUptoCard : Claim7 := { stood := { row := fnExactCertOkUptoRow, standIns := [], harness := (true, "63ec51ff1408671d61a3a077b8f241c6bcbc1a9468f7731715373845d0a85324"), looks := false }, kinds := [], alts := [], laidByText := true, laidKinds := [.data, .pinned], laidTests := true, laidLooks := .later }
def FnExactCertOkUptoCardSaid : Prop := Claim7.holds Tryz.pinned (.plain (OpenSpec.upto fnExactCertOkSpec)) fnExactCertOkUptoCard
end Rows
end Go.Proofs.YtcoojdgfpdajiadGreatDoor
