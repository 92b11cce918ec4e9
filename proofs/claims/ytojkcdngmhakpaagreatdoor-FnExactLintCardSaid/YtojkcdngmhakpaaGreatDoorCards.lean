/-
  DERIVED. GIVEN WITH THE SEED: THE CARDS: each row of YtojkcdngmhakpaaGreatDoorRows.lean that lists a variable, with what it lists TIED to the program's text (the seventh form; the later family's looks); each row that meets fmt, with fmt's text TOLD by the authors' own Lean function (tested against real Go, not proved from fmt's source: count such statements apart). THE CARD IS WHAT COUNTS. Prove the row's statement (the work); the ties are given (YtojkcdngmhakpaaGreatDoorTie.lean); close each card by the builder's one call (the guide's Derived/Test/ToyasCard.lean, 'card_holds'). Laid BY PROGRAM, IN A SANDBOX (cutbox-door.mjs). By AI agents, Wed Nov 11 2026. No macro, syntax, notation, axiom, sorry.
-/
import Derived.Test.YtojkcdngmhakpaaGreatDoorRows
import GoSem.ClaimSeven
namespace Go.Proofs.YtojkcdngmhakpaaGreatDoor
namespace Rows

/-- THE TIED CARD OF 'laws.FnExactLint'. -/
def fnExactLintCard : Claim7 := { stood := { row := fnExactLintRow, standIns := [], harness := (true, "1ba0aa80537b668246d0ee1037de9006a25781f8bbffe7623df0945238a46f0f"), looks := false }, kinds := [], alts := [], laidByText := true, laidKinds := [.data, .pinned], laidTests := true, laidLooks := .later }
def FnExactLintCardSaid : Prop := Claim7.holds Tryz.pinned (.plain (OpenSpec.ofChange fnExactLintSpec)) fnExactLintCard

/-- THE SECOND FORM's CARD OF 'laws.FnExactLint'. -/
def fnExactLintUptoCard : Claim7 := { stood := { row := fnExactLintUptoRow, standIns := [], harness := (true, "1ba0aa80537b668246d0ee1037de9006a25781f8bbffe7623df0945238a46f0f"), looks := false }, kinds := [], alts := [], laidByText := true, laidKinds := [.data, .pinned], laidTests := true, laidLooks := .later }
def FnExactLintUptoCardSaid : Prop := Claim7.holds Tryz.pinned (.plain (OpenSpec.upto fnExactLintSpec)) fnExactLintUptoCard
end Rows
end Go.Proofs.YtojkcdngmhakpaaGreatDoor
