/- For every argument the law KeysBack returns true, and its arguments read behind the call as they did before. No condition. -/
import Derived.Test.YtopckcfadimpoabGreatRows
import Derived.Test.YtopckcfadimpoabGreatWalk2
set_option linter.unusedVariables false
set_option linter.unusedSimpArgs false
namespace Go.Proofs.YtopckcfadimpoabGreat
open Go Go.AM Go.Proofs.W
noncomputable def cT5 : Codec Tryz.prog 5 (Int) := Codec.int Tryz.underlying5 (by kernel_rfl)
noncomputable def cT22 : Codec Tryz.prog 22 (List (Int)) := Codec.slice cT5 Tryz.underlying22 (by kernel_rfl)
abbrev LawArgs := (List (Int)) × Unit
noncomputable def lawArgs : Args Tryz.prog [22] LawArgs := (Args.cons cT22 (by kernel_rfl) (fun _ => rfl) Args.nil)
theorem law_ok (x : LawArgs) (h : lawArgs.ok x) : Holds Tryz.prog 3 (lawArgs.dat x) [] (.v (.bool true)) [] := by
 obtain ⟨b, ⟨⟩⟩ := x
 obtain ⟨⟨h0, h1⟩, _⟩ := h
 exact lawKeysBack (Checked.mixed Tryz.checked) b h0 (fun n hn => by have h2 : IntKind.u8.min ≤ n ∧ n ≤ IntKind.u8.max := h1 n hn; have e1 : IntKind.u8.min = 0 := (by decide); have e2 : IntKind.u8.max = 255 := (by decide); omega)
theorem own : ownKnob Tryz.prog.godebug = none := by kernel_rfl
set_option maxRecDepth 100000 in
theorem lifted (os : Os) (started : os.Started) (H : Type) (enc : TypeId × Value → H) :
  ReturnsInHanded {} Tryz.checked os 3 .any (Rows.fnKeysBackSpec.pre6 enc Tryz.prog Tryz.f3 Rows.fnKeysBackRow.domain false) (Rows.fnKeysBackSpec.post enc Tryz.prog Tryz.f3 false true false false) := by
 refine returnsInHanded_of_change_sized (C := Tryz.checked) own started (by kernel_rfl) Tryz.func3
  (ChangeSpec.witness6 (enc := enc) (C := Tryz.checked) false ⟨#[], #[.slice none 0 0], []⟩ 8 (by kernel_rfl) (by kernel_rfl) (by kernel_rfl) (by kernel_rfl)) ?_
 intro W base args ds gs before hval hW _ _ _
 exact law_calls (P := Tryz.prog) (s := Rows.fnKeysBackSpec) (fn := Tryz.f3) (by kernel_rfl) lawArgs law_ok (by kernel_rfl) (tb := 4) rfl Tryz.underlying4 rfl
  (fun ds h => match ds, h with | [_], _ => ⟨rfl, rfl, rfl⟩) hval hW
theorem fnKeysBack_holds : Rows.FnKeysBackSaid :=
 OpenClaim.holds_of_wide 3 Tryz.f3 rfl rfl rfl rfl rfl rfl rfl ⟨rfl, rfl, rfl, rfl, rfl⟩ rfl rfl rfl rfl rfl (by kernel_rfl) Tryz.func3 (by kernel_rfl)
  (of_decide_eq_true (by kernel_rfl)) (by unfold Func.isWrapper; first | (rw [if_pos (by decide +kernel)]; kernel_rfl) | (rw [if_neg (by decide +kernel)]; exact ⟨rfl, rfl⟩))
  (fun os started H enc _ => lifted os started H enc)
#print axioms fnKeysBack_holds
end Go.Proofs.YtopckcfadimpoabGreat
