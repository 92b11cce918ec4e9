/- For every argument the law ReadKeyTree returns true, and its arguments read behind the call as they did before. No condition. -/
import Derived.Test.YtedaabanlhbknabGreatRows
import Derived.Test.YtedaabanlhbknabGreatWalk3
set_option linter.unusedVariables false
set_option linter.unusedSimpArgs false
namespace Go.Proofs.YtedaabanlhbknabGreat
open Go Go.AM Go.Proofs.W
noncomputable def cT3 : Codec Tryz.prog 3 (Int) := Codec.int Tryz.underlying3 (by kernel_rfl)
noncomputable def cT5 : Codec Tryz.prog 5 (Int) := Codec.int Tryz.underlying5 (by kernel_rfl)
noncomputable def cT45 : Codec Tryz.prog 45 (List (Int)) := Codec.slice cT5 Tryz.underlying45 (by kernel_rfl)
noncomputable def cT47 : Codec Tryz.prog 47 ((Int) × (List (Int)) × (Int) × Unit) := Codec.struct (fs := #[{ name := "Tag", type := 3, offset := 0, embedded := false, tag := "", pkgPath := "", byteOffset := 0 },
   {name := "Body", type := 45, offset := 1, embedded := false, tag := "", pkgPath := "", byteOffset := 8 },
   {name := "Kids", type := 3, offset := 2, embedded := false, tag := "", pkgPath := "", byteOffset := 32 }])
  (Fields.cons cT3 (Fields.cons cT45 (Fields.cons cT3 Fields.nil rfl) rfl) rfl) Tryz.underlying47 (by kernel_rfl) (by decide)
noncomputable def cT22 : Codec Tryz.prog 22 (List ((Int) × (List (Int)) × (Int) × Unit)) := Codec.slice cT47 Tryz.underlying22 (by kernel_rfl)
abbrev LawArgs := (List ((Int) × (List (Int)) × (Int) × Unit)) × Unit
noncomputable def lawArgs : Args Tryz.prog [22] LawArgs := (Args.cons cT22 (by kernel_rfl) (fun _ => rfl) Args.nil)
def gI : ((Int) × (List (Int)) × (Int) × Unit) → It
 | ⟨tag, body, kids, ⟨⟩⟩ => ⟨tag, body, kids⟩
theorem gI_elem (t : ((Int) × (List (Int)) × (Int) × Unit)) : cT47.elem t = itemS (gI t) := rfl
theorem gI_ok (t : ((Int) × (List (Int)) × (Int) × Unit)) (h : cT47.ok t) : BytesOk (gI t).body ∧ (gI t).body.length ≤ 9223372036854775807 := by
 obtain ⟨tag, body, kids, ⟨⟩⟩ := t
 obtain ⟨_, ⟨h1, h2⟩, _⟩ := h
 refine ⟨fun n hn => ?_, h1⟩
 have h3 : IntKind.u8.min ≤ n ∧ n ≤ IntKind.u8.max := h2 n hn
 have e1 : IntKind.u8.min = 0 := by decide
 have e2 : IntKind.u8.max = 255 := by decide
 omega
theorem law_ok (x : LawArgs) (h : lawArgs.ok x) : Holds Tryz.prog 3 (lawArgs.dat x) [] (.v (.bool true)) [] := by
 obtain ⟨L, ⟨⟩⟩ := x
 obtain ⟨⟨h1, h2⟩, _⟩ := h
 have := lawReadKeyTree (Checked.mixed Tryz.checked) (L.map gI) (by rw [List.length_map]; exact h1) (fun c hc => by
  obtain ⟨t, ht, rfl⟩ := List.mem_map.1 hc
  exact gI_ok t (h2 t ht))
 rw [List.map_map] at this
 exact this
theorem own : ownKnob Tryz.prog.godebug = none := by kernel_rfl
set_option maxRecDepth 100000 in
theorem lifted (os : Os) (started : os.Started) (H : Type) (enc : TypeId × Value → H) :
  ReturnsInHanded {} Tryz.checked os 3 .any (Rows.fnExactReadKeyTreeSpec.pre6 enc Tryz.prog Tryz.f3 Rows.fnExactReadKeyTreeRow.domain false) (Rows.fnExactReadKeyTreeSpec.post enc Tryz.prog Tryz.f3 false true false false) := by
 refine returnsInHanded_of_change_sized (C := Tryz.checked) own started (by kernel_rfl) Tryz.func3
  (ChangeSpec.witness6 (enc := enc) (C := Tryz.checked) false ⟨#[], #[.slice none 0 0], []⟩ 8 (by kernel_rfl) (by kernel_rfl) (by kernel_rfl) (by kernel_rfl)) ?_
 intro W base args ds gs before hval hW _ _ _
 exact law_calls (P := Tryz.prog) (s := Rows.fnExactReadKeyTreeSpec) (fn := Tryz.f3) (by kernel_rfl) lawArgs law_ok (by kernel_rfl) (tb := 4) rfl Tryz.underlying4 rfl
  (fun ds h => match ds, h with | [_], _ => ⟨rfl, rfl, rfl⟩) hval hW
theorem fnExactReadKeyTree_holds : Rows.FnExactReadKeyTreeSaid :=
 OpenClaim.holds_of_wide 3 Tryz.f3 rfl rfl rfl rfl rfl rfl rfl ⟨rfl, rfl, rfl, rfl, rfl⟩ rfl rfl rfl rfl rfl (by kernel_rfl) Tryz.func3 (by kernel_rfl)
  (of_decide_eq_true (by kernel_rfl)) (by unfold Func.isWrapper; first | (rw [if_pos (by decide +kernel)]; kernel_rfl) | (rw [if_neg (by decide +kernel)]; exact ⟨rfl, rfl⟩))
  (fun os started H enc _ => lifted os started H enc)
#print axioms fnExactReadKeyTree_holds
end Go.Proofs.YtedaabanlhbknabGreat
