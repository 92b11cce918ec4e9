/-
  DERIVED. GIVEN WITH THE SEED: THE CARDS: each row of YtbodkdhlncdhpacGreatDoorRows.lean that lists a variable, with what it lists TIED to the program's text (the seventh form; the later family's looks); each row that meets fmt, with fmt's text TOLD by the authors' own Lean function (tested against real Go, not proved from fmt's source: count such statements apart). THE CARD IS WHAT COUNTS. Prove the row's statement (the work); the ties are given (YtbodkdhlncdhpacGreatDoorTie.lean); close each card by the builder's one call (the guide's Derived/Test/ToyasCard.lean, 'card_holds'). Laid BY PROGRAM, IN A SANDBOX (cutbox-door.mjs). By AI agents, Wed Nov 11 2026. No macro, syntax, notation, axiom, sorry.
-/
import Derived.Test.YtbodkdhlncdhpacGreatDoorRows
import GoSem.ClaimSeven
namespace Go.Proofs.YtbodkdhlncdhpacGreatDoor
namespace Rows

/-- THE TIED CARD OF 'laws.FnExactOwnIssuer'. -/
def fnExactOwnIssuerCard : Claim7 := { stood := { row := fnExactOwnIssuerRow, standIns := [], harness := (true, "99fe6ee95a1725fd57c8bc9271d3f03eafb5b23b927c8ab24253dac2ec43c556"), looks := false }, kinds := [], alts := [], laidByText := true, laidKinds := [.data, .pinned], laidTests := true, laidLooks := .later }
def FnExactOwnIssuerCardSaid : Prop := Claim7.holds Tryz.pinned (.plain (OpenSpec.ofChange fnExactOwnIssuerSpec)) fnExactOwnIssuerCard

/-- THE SECOND FORM's CARD OF 'laws.FnExactOwnIssuer'. -/
def fnExactOwnIssuerUptoCard : Claim7 := { stood := { row := fnExactOwnIssuerUptoRow, standIns := [], harness := (true, "99fe6ee95a1725fd57c8bc9271d3f03eafb5b23b927c8ab24253dac2ec43c556"), looks := false }, kinds := [], alts := [], laidByText := true, laidKinds := [.data, .pinned], laidTests := true, laidLooks := .later }
def FnExactOwnIssuerUptoCardSaid : Prop := Claim7.holds Tryz.pinned (.plain (OpenSpec.upto fnExactOwnIssuerSpec)) fnExactOwnIssuerUptoCard
end Rows
end Go.Proofs.YtbodkdhlncdhpacGreatDoor
