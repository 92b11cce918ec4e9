/- For every argument the law KeyTree returns true, and its arguments read behind the call as they did before. No condition. -/
import Derived.Test.YtbodkdhlncdhpaaRows
import Derived.Test.YtbodkdhlncdhpaaWalk2
set_option linter.unusedVariables false
set_option linter.unusedSimpArgs false
namespace Go.Proofs.Ytbodkdhlncdhpaa
open Go Go.AM Go.Proofs.W Go.Proofs.G

noncomputable def cT3 : Codec Try.prog 3 (Int) := Codec.int Try.underlying3 (by kernel_rfl)
noncomputable def cT22 : Codec Try.prog 22 (List (Int)) := Codec.slice cT3 Try.underlying22 (by kernel_rfl)
noncomputable def cT24 : Codec Try.prog 24 ((Int) × (Int) × (Int) × (Int) × (Int) × (Int) × Unit) := Codec.struct (fs := #[{ name := "P", type := 3, offset := 0, embedded := false, tag := "", pkgPath := "", byteOffset := 0 },
      { name := "A", type := 3, offset := 1, embedded := false, tag := "", pkgPath := "", byteOffset := 8 },
      { name := "B", type := 3, offset := 2, embedded := false, tag := "", pkgPath := "", byteOffset := 16 },
      { name := "N", type := 3, offset := 3, embedded := false, tag := "", pkgPath := "", byteOffset := 24 },
      { name := "GX", type := 3, offset := 4, embedded := false, tag := "", pkgPath := "", byteOffset := 32 },
      { name := "GY", type := 3, offset := 5, embedded := false, tag := "", pkgPath := "", byteOffset := 40 }])
    (Fields.cons cT3 (Fields.cons cT3 (Fields.cons cT3 (Fields.cons cT3 (Fields.cons cT3 (Fields.cons cT3 Fields.nil rfl) rfl) rfl) rfl) rfl) rfl) Try.underlying24 (by kernel_rfl) (by decide)
noncomputable def cT4 : Codec Try.prog 4 (Bool) := Codec.bool Try.underlying4 (by kernel_rfl)
noncomputable def cT26 : Codec Try.prog 26 ((Int) × (Int) × (Bool) × Unit) := Codec.struct (fs := #[{ name := "X", type := 3, offset := 0, embedded := false, tag := "", pkgPath := "", byteOffset := 0 },
      { name := "Y", type := 3, offset := 1, embedded := false, tag := "", pkgPath := "", byteOffset := 8 },
      { name := "Far", type := 4, offset := 2, embedded := false, tag := "", pkgPath := "", byteOffset := 16 }])
    (Fields.cons cT3 (Fields.cons cT3 (Fields.cons cT4 Fields.nil rfl) rfl) rfl) Try.underlying26 (by kernel_rfl) (by decide)
noncomputable def cT28 : Codec Try.prog 28 ((Int) × (Int) × (Int) × (Int) × (Int) × Unit) := Codec.struct (fs := #[{ name := "P", type := 3, offset := 0, embedded := false, tag := "", pkgPath := "", byteOffset := 0 },
      { name := "D", type := 3, offset := 1, embedded := false, tag := "", pkgPath := "", byteOffset := 8 },
      { name := "L", type := 3, offset := 2, embedded := false, tag := "", pkgPath := "", byteOffset := 16 },
      { name := "BX", type := 3, offset := 3, embedded := false, tag := "", pkgPath := "", byteOffset := 24 },
      { name := "BY", type := 3, offset := 4, embedded := false, tag := "", pkgPath := "", byteOffset := 32 }])
    (Fields.cons cT3 (Fields.cons cT3 (Fields.cons cT3 (Fields.cons cT3 (Fields.cons cT3 Fields.nil rfl) rfl) rfl) rfl) rfl) Try.underlying28 (by kernel_rfl) (by decide)
noncomputable def cT30 : Codec Try.prog 30 ((Int) × (Int) × Unit) := Codec.struct (fs := #[{ name := "X", type := 3, offset := 0, embedded := false, tag := "", pkgPath := "", byteOffset := 0 },
      { name := "Y", type := 3, offset := 1, embedded := false, tag := "", pkgPath := "", byteOffset := 8 }])
    (Fields.cons cT3 (Fields.cons cT3 Fields.nil rfl) rfl) Try.underlying30 (by kernel_rfl) (by decide)
noncomputable def cT32 : Codec Try.prog 32 ((Int) × (List (Int)) × (Int) × ((Int) × (Int) × (Int) × (Int) × (Int) × (Int) × Unit) × ((Int) × (Int) × (Bool) × Unit) × ((Int) × (Int) × (Int) × (Int) × (Int) × Unit) × ((Int) × (Int) × Unit) × Unit) := Codec.struct (fs := #[{ name := "Kind", type := 3, offset := 0, embedded := false, tag := "", pkgPath := "", byteOffset := 0 },
      { name := "N", type := 22, offset := 1, embedded := false, tag := "", pkgPath := "", byteOffset := 8 },
      { name := "E", type := 3, offset := 2, embedded := false, tag := "", pkgPath := "", byteOffset := 32 },
      { name := "Curve", type := 24, offset := 3, embedded := false, tag := "", pkgPath := "", byteOffset := 40 },
      { name := "Q", type := 26, offset := 9, embedded := false, tag := "", pkgPath := "", byteOffset := 88 },
      { name := "Ed", type := 28, offset := 12, embedded := false, tag := "", pkgPath := "", byteOffset := 112 },
      { name := "A", type := 30, offset := 17, embedded := false, tag := "", pkgPath := "", byteOffset := 152 }])
    (Fields.cons cT3 (Fields.cons cT22 (Fields.cons cT3 (Fields.cons cT24 (Fields.cons cT26 (Fields.cons cT28 (Fields.cons cT30 Fields.nil rfl) rfl) rfl) rfl) rfl) rfl) rfl) Try.underlying32 (by kernel_rfl) (by decide)
abbrev LawArgs := ((Int) × (List (Int)) × (Int) × ((Int) × (Int) × (Int) × (Int) × (Int) × (Int) × Unit) × ((Int) × (Int) × (Bool) × Unit) × ((Int) × (Int) × (Int) × (Int) × (Int) × Unit) × ((Int) × (Int) × Unit) × Unit) × Unit
noncomputable def lawArgs : Args Try.prog [32] LawArgs := (Args.consS cT32 Try.underlying32 (fun _ => rfl) Args.nil)

theorem law_ok (x : LawArgs) (h : lawArgs.ok x) : Holds Try.prog 3 (lawArgs.dat x) [] (.v (.bool true)) [] := by
  obtain ⟨⟨kind, N, e, ⟨p, a, b, n, gx, gy, ⟨⟩⟩, ⟨x, y, far, ⟨⟩⟩, ⟨ep, ed, el, ebx, eby, ⟨⟩⟩, ⟨p1, p2, ⟨⟩⟩, ⟨⟩⟩, ⟨⟩⟩ := x
  obtain ⟨⟨_, ⟨k1, _⟩, _⟩, _⟩ := h
  exact lawKeyTree (Checked.mixed Try.checked) ⟨kind, N, e, ⟨p, a, b, n, gx, gy⟩, ⟨x, y, far⟩, ⟨ep, ed, el, ebx, eby⟩, (p1, p2)⟩ k1

theorem own : ownKnob Try.prog.godebug = none := by kernel_rfl
set_option maxRecDepth 100000 in
theorem lifted (os : Os) (started : os.Started) (H : Type) (enc : TypeId × Value → H) :
    ReturnsInHanded {} Try.checked os 3 .any (Rows.fnExactKeyTreeSpec.pre6 enc Try.prog Try.f3 Rows.fnExactKeyTreeRow.domain false) (Rows.fnExactKeyTreeSpec.post enc Try.prog Try.f3 false true false false) := by
  refine returnsInHanded_of_change_sized (C := Try.checked) own started (by kernel_rfl) Try.func3
    (ChangeSpec.witness6 (enc := enc) (C := Try.checked) false ⟨#[], #[.agg #[.int .i64 0, .slice none 0 0, .int .i64 0, .int .i64 0, .int .i64 0, .int .i64 0, .int .i64 0, .int .i64 0, .int .i64 0, .int .i64 0, .int .i64 0, .bool false, .int .i64 0, .int .i64 0, .int .i64 0, .int .i64 0, .int .i64 0, .int .i64 0, .int .i64 0]], []⟩ 8 (by kernel_rfl) (by kernel_rfl) (by kernel_rfl) (by kernel_rfl)) ?_
  intro W base args ds gs before hval hW _ _ _
  exact law_calls (P := Try.prog) (s := Rows.fnExactKeyTreeSpec) (fn := Try.f3) (by kernel_rfl) lawArgs law_ok (by kernel_rfl) (tb := 4) rfl Try.underlying4 rfl
    (fun ds h => match ds, h with | [_], _ => ⟨rfl, rfl, rfl⟩) hval hW

theorem fnExactKeyTree_holds : Rows.FnExactKeyTreeSaid :=
  OpenClaim.holds_of_wide 3 Try.f3 rfl rfl rfl rfl rfl rfl rfl ⟨rfl, rfl, rfl, rfl, rfl⟩ rfl rfl rfl rfl rfl (by kernel_rfl) Try.func3 (by kernel_rfl)
    (of_decide_eq_true (by kernel_rfl)) (by unfold Func.isWrapper; first | (rw [if_pos (by decide +kernel)]; kernel_rfl) | (rw [if_neg (by decide +kernel)]; exact ⟨rfl, rfl⟩))
    (fun os started H enc _ => lifted os started H enc)
#print axioms fnExactKeyTree_holds
end Go.Proofs.Ytbodkdhlncdhpaa
