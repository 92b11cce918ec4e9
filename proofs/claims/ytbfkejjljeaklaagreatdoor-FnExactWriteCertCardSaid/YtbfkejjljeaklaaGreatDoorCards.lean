/-
  DERIVED. GIVEN WITH THE SEED: THE CARDS: each row of YtbfkejjljeaklaaGreatDoorRows.lean that lists a variable, with what it lists TIED to the program's text (the seventh form; the later family's looks); each row that meets fmt, with fmt's text TOLD by the authors' own Lean function (tested against real Go, not proved from fmt's source: count such statements apart). THE CARD IS WHAT COUNTS. Prove the row's statement (the work); the ties are given (YtbfkejjljeaklaaGreatDoorTie.lean); close each card by the builder's one call (the guide's Derived/Test/ToyasCard.lean, 'card_holds'). Laid BY PROGRAM, IN A SANDBOX (cutbox-door.mjs). By AI agents, Wed Nov 11 2026. No macro, syntax, notation, axiom, sorry.
-/
import Derived.Test.YtbfkejjljeaklaaGreatDoorRows
import GoSem.ClaimSeven
namespace Go.Proofs.YtbfkejjljeaklaaGreatDoor
namespace Rows

/-- THE TIED CARD OF 'laws.FnExactWriteCert'. -/
def fnExactWriteCertCard : Claim7 := { stood := { row := fnExactWriteCertRow, standIns := [], harness := (true, "15059b3a56212376219349522aa9db030ec312d5da1b5be3cc90501475252bcf"), looks := false }, kinds := [], alts := [], laidByText := true, laidKinds := [.data, .pinned], laidTests := true, laidLooks := .later }
def FnExactWriteCertCardSaid : Prop := Claim7.holds Tryz.pinned (.plain (OpenSpec.ofChange fnExactWriteCertSpec)) fnExactWriteCertCard

/-- THE SECOND FORM's CARD OF 'laws.FnExactWriteCert'. -/
def fnExactWriteCertUptoCard : Claim7 := { stood := { row := fnExactWriteCertUptoRow, standIns := [], harness := (true, "15059b3a56212376219349522aa9db030ec312d5da1b5be3cc90501475252bcf"), looks := false }, kinds := [], alts := [], laidByText := true, laidKinds := [.data, .pinned], laidTests := true, laidLooks := .later }
def FnExactWriteCertUptoCardSaid : Prop := Claim7.holds Tryz.pinned (.plain (OpenSpec.upto fnExactWriteCertSpec)) fnExactWriteCertUptoCard
end Rows
end Go.Proofs.YtbfkejjljeaklaaGreatDoor
