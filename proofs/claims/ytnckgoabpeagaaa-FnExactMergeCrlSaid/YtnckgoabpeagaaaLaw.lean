/- For every argument the law MergeCrl returns true, and its arguments read behind the call as they did before. No condition. -/
import Derived.Test.YtnckgoabpeagaaaRows
import Derived.Test.YtnckgoabpeagaaaWalk1
set_option linter.unusedVariables false
set_option linter.unusedSimpArgs false
namespace Go.Proofs.Ytnckgoabpeagaaa
open Go Go.AM Go.Proofs.W
noncomputable def cT9 : Codec Try.prog 9 (ByteArray) := Codec.string Try.underlying9 (by kernel_rfl)
noncomputable def cT22 : Codec Try.prog 22 (List (ByteArray)) := Codec.slice cT9 Try.underlying22 (by kernel_rfl)
noncomputable def cT3 : Codec Try.prog 3 (Int) := Codec.int Try.underlying3 (by kernel_rfl)
noncomputable def cT23 : Codec Try.prog 23 (List (Int)) := Codec.slice cT3 Try.underlying23 (by kernel_rfl)
noncomputable def cT5 : Codec Try.prog 5 (Int) := Codec.int Try.underlying5 (by kernel_rfl)
noncomputable def cT24 : Codec Try.prog 24 (List (Int)) := Codec.slice cT5 Try.underlying24 (by kernel_rfl)
noncomputable def cT26 : Codec Try.prog 26 ((List (ByteArray)) × (Int) × (Int) × (Int) × (List (Int)) × (List (Int)) × Unit) := Codec.struct (fs := #[{ name := "Issuer", type := 22, offset := 0, embedded := false, tag := "", pkgPath := "", byteOffset := 0 },
   {name := "From", type := 3, offset := 1, embedded := false, tag := "", pkgPath := "", byteOffset := 24 },
   {name := "To", type := 3, offset := 2, embedded := false, tag := "", pkgPath := "", byteOffset := 32 },
   {name := "Alg", type := 3, offset := 3, embedded := false, tag := "", pkgPath := "", byteOffset := 40 },
   {name := "Serials", type := 23, offset := 4, embedded := false, tag := "", pkgPath := "", byteOffset := 48 },
   {name := "Sig", type := 24, offset := 5, embedded := false, tag := "", pkgPath := "", byteOffset := 72 }])
  (Fields.cons cT22 (Fields.cons cT3 (Fields.cons cT3 (Fields.cons cT3 (Fields.cons cT23 (Fields.cons cT24 Fields.nil rfl) rfl) rfl) rfl) rfl) rfl) Try.underlying26 (by kernel_rfl) (by decide)
abbrev LawArgs := ((List (ByteArray)) × (Int) × (Int) × (Int) × (List (Int)) × (List (Int)) × Unit) × ((List (ByteArray)) × (Int) × (Int) × (Int) × (List (Int)) × (List (Int)) × Unit) × Unit
noncomputable def lawArgs : Args Try.prog [26, 26] LawArgs := (Args.consS cT26 Try.underlying26 (fun _ => rfl) (Args.consS cT26 Try.underlying26 (fun _ => rfl) Args.nil))
theorem law_ok (x : LawArgs) (h : lawArgs.ok x) : Holds Try.prog 3 (lawArgs.dat x) [] (.v (.bool true)) [] := by
 obtain ⟨⟨I, f, t, a, S, G, ⟨⟩⟩, ⟨I', f', t', a', S', G', ⟨⟩⟩, ⟨⟩⟩ := x
 obtain ⟨⟨⟨h1, h2⟩, _, _, _, ⟨h3, _⟩, ⟨h4, _⟩, _⟩, ⟨⟨k1, k2⟩, _, _, _, ⟨k3, _⟩, ⟨k4, _⟩, _⟩, _⟩ := h
 exact lawMerge (Checked.mixed Try.checked) I f t a S G I' f' t' a' S' G' h1 h2 h3 h4 k1 k2 k3 k4
theorem own : ownKnob Try.prog.godebug = none := by kernel_rfl
set_option maxRecDepth 100000 in
theorem lifted (os : Os) (started : os.Started) (H : Type) (enc : TypeId × Value → H) :
  ReturnsInHanded {} Try.checked os 3 .any (Rows.fnExactMergeCrlSpec.pre6 enc Try.prog Try.f3 Rows.fnExactMergeCrlRow.domain false) (Rows.fnExactMergeCrlSpec.post enc Try.prog Try.f3 false true false false) := by
 refine returnsInHanded_of_change_sized (C := Try.checked) own started (by kernel_rfl) Try.func3
  (ChangeSpec.witness6 (enc := enc) (C := Try.checked) false ⟨#[], #[.agg #[.slice none 0 0, .int .i64 0, .int .i64 0, .int .i64 0, .slice none 0 0, .slice none 0 0], .agg #[.slice none 0 0, .int .i64 0, .int .i64 0, .int .i64 0, .slice none 0 0, .slice none 0 0]], []⟩ 8 (by kernel_rfl) (by kernel_rfl) (by kernel_rfl) (by kernel_rfl)) ?_
 intro W base args ds gs before hval hW _ _ _
 exact law_calls (P := Try.prog) (s := Rows.fnExactMergeCrlSpec) (fn := Try.f3) (by kernel_rfl) lawArgs law_ok (by kernel_rfl) (tb := 4) rfl Try.underlying4 rfl
  (fun ds h => match ds, h with | [_, _], _ => ⟨rfl, rfl, rfl⟩) hval hW
theorem fnExactMergeCrl_holds : Rows.FnExactMergeCrlSaid :=
 OpenClaim.holds_of_wide 3 Try.f3 rfl rfl rfl rfl rfl rfl rfl ⟨rfl, rfl, rfl, rfl, rfl⟩ rfl rfl rfl rfl rfl (by kernel_rfl) Try.func3 (by kernel_rfl)
  (of_decide_eq_true (by kernel_rfl)) (by unfold Func.isWrapper; first | (rw [if_pos (by decide +kernel)]; kernel_rfl) | (rw [if_neg (by decide +kernel)]; exact ⟨rfl, rfl⟩))
  (fun os started H enc _ => lifted os started H enc)
#print axioms fnExactMergeCrl_holds
end Go.Proofs.Ytnckgoabpeagaaa
