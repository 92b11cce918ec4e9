/- For every argument the law NameSame returns true, and its arguments read behind the call as they did before. No condition. -/
import Derived.Test.YtnbdaleakpchoaaRows
import Derived.Test.YtnbdaleakpchoaaWalk1
set_option linter.unusedVariables false
set_option linter.unusedSimpArgs false
namespace Go.Proofs.Ytnbdaleakpchoaa
open Go Go.AM Go.Proofs.W

noncomputable def cT9 : Codec Try.prog 9 (ByteArray) := Codec.string Try.underlying9 (by kernel_rfl)
noncomputable def cT22 : Codec Try.prog 22 (List (ByteArray)) := Codec.slice cT9 Try.underlying22 (by kernel_rfl)
abbrev LawArgs := (List (ByteArray)) × (List (ByteArray)) × Unit
noncomputable def lawArgs : Args Try.prog [22, 22] LawArgs := (Args.cons cT22 (by kernel_rfl) (fun _ => rfl) (Args.cons cT22 (by kernel_rfl) (fun _ => rfl) Args.nil))

theorem law_ok (x : LawArgs) (h : lawArgs.ok x) : Holds Try.prog 3 (lawArgs.dat x) [] (.v (.bool true)) [] := by
  obtain ⟨a, b, ⟨⟩⟩ := x
  obtain ⟨⟨h1, h2⟩, ⟨h3, h4⟩, _⟩ := h
  exact lawNameSame (Checked.mixed Try.checked) a b h1 h2 h3 h4

theorem own : ownKnob Try.prog.godebug = none := by kernel_rfl
set_option maxRecDepth 100000 in
theorem lifted (os : Os) (started : os.Started) (H : Type) (enc : TypeId × Value → H) :
    ReturnsInHanded {} Try.checked os 3 .any (Rows.fnExactNameSameSpec.pre6 enc Try.prog Try.f3 Rows.fnExactNameSameRow.domain false) (Rows.fnExactNameSameSpec.post enc Try.prog Try.f3 false true false false) := by
  refine returnsInHanded_of_change_sized (C := Try.checked) own started (by kernel_rfl) Try.func3
    (ChangeSpec.witness6 (enc := enc) (C := Try.checked) false ⟨#[], #[.slice none 0 0, .slice none 0 0], []⟩ 8 (by kernel_rfl) (by kernel_rfl) (by kernel_rfl) (by kernel_rfl)) ?_
  intro W base args ds gs before hval hW _ _ _
  exact law_calls (P := Try.prog) (s := Rows.fnExactNameSameSpec) (fn := Try.f3) (by kernel_rfl) lawArgs law_ok (by kernel_rfl) (tb := 4) rfl Try.underlying4 rfl
    (fun ds h => match ds, h with | [_, _], _ => ⟨rfl, rfl, rfl⟩) hval hW

theorem fnExactNameSame_holds : Rows.FnExactNameSameSaid :=
  OpenClaim.holds_of_wide 3 Try.f3 rfl rfl rfl rfl rfl rfl rfl ⟨rfl, rfl, rfl, rfl, rfl⟩ rfl rfl rfl rfl rfl (by kernel_rfl) Try.func3 (by kernel_rfl)
    (of_decide_eq_true (by kernel_rfl)) (by unfold Func.isWrapper; first | (rw [if_pos (by decide +kernel)]; kernel_rfl) | (rw [if_neg (by decide +kernel)]; exact ⟨rfl, rfl⟩))
    (fun os started H enc _ => lifted os started H enc)
#print axioms fnExactNameSame_holds
end Go.Proofs.Ytnbdaleakpchoaa
