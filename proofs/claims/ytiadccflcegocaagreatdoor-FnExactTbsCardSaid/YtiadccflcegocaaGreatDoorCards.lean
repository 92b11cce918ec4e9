/-
  DERIVED. GIVEN WITH THE SEED: THE CARDS: each row of YtiadccflcegocaaGreatDoorRows.lean that lists a variable, with what it lists TIED to the program's text (the seventh form; the later family's looks); each row that meets fmt, with fmt's text TOLD by the authors' own Lean function (tested against real Go, not proved from fmt's source: count such statements apart). THE CARD IS WHAT COUNTS. Prove the row's statement (the work); the ties are given (YtiadccflcegocaaGreatDoorTie.lean); close each card by the builder's one call (the guide's Derived/Test/ToyasCard.lean, 'card_holds'). Laid BY PROGRAM, IN A SANDBOX (cutbox-door.mjs). By AI agents, Wed Nov 11 2026. No macro, syntax, notation, axiom, sorry.
-/
import Derived.Test.YtiadccflcegocaaGreatDoorRows
import GoSem.ClaimSeven
namespace Go.Proofs.YtiadccflcegocaaGreatDoor
namespace Rows

/-- THE TIED CARD OF 'laws.FnExactTbs'. -/
def fnExactTbsCard : Claim7 := { stood := { row := fnExactTbsRow, standIns := [], harness := (true, "552ffe6033c82804d73d9348538a3cd99f42c8bc78433e553c8c3a8ac9c100a5"), looks := false }, kinds := [], alts := [], laidByText := true, laidKinds := [.data, .pinned], laidTests := true, laidLooks := .later }
def FnExactTbsCardSaid : Prop := Claim7.holds Tryz.pinned (.plain (OpenSpec.ofChange fnExactTbsSpec)) fnExactTbsCard

/-- THE SECOND FORM's CARD OF 'laws.FnExactTbs'. -/
def fnExactTbsUptoCard : Claim7 := { stood := { row := fnExactTbsUptoRow, standIns := [], harness := (true, "552ffe6033c82804d73d9348538a3cd99f42c8bc78433e553c8c3a8ac9c100a5"), looks := false }, kinds := [], alts := [], laidByText := true, laidKinds := [.data, .pinned], laidTests := true, laidLooks := .later }
def FnExactTbsUptoCardSaid : Prop := Claim7.holds Tryz.pinned (.plain (OpenSpec.upto fnExactTbsSpec)) fnExactTbsUptoCard
end Rows
end Go.Proofs.YtiadccflcegocaaGreatDoor
