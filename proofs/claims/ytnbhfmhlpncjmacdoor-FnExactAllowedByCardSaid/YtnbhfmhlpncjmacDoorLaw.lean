/- For every argument the law AllowedBy returns true, and its arguments read behind the call as they did before. No condition. -/
import Derived.LaidMore
import Derived.Lay
import Derived.Stop.Joined
import Derived.SevenTiedAt
import Derived.Test.YtnbhfmhlpncjmacDoorRows
import Derived.Test.YtnbhfmhlpncjmacDoorCards
import Derived.Test.YtnbhfmhlpncjmacDoorTie
import Derived.Test.YtnbhfmhlpncjmacDoorWalk1
set_option linter.unusedVariables false
set_option linter.unusedSimpArgs false
namespace Go.Proofs.YtnbhfmhlpncjmacDoor
open Go Go.AM Go.Proofs.W Go.ChangeAt Go.WideMaps Go.WideElems Go.RowKit Go.WideShapes Go.ChangeShapes

noncomputable def cT9 : Codec Tryd.prog 9 (ByteArray) := Codec.string Tryd.underlying9 (by kernel_rfl)
noncomputable def cT4 : Codec Tryd.prog 4 (Bool) := Codec.bool Tryd.underlying4 (by kernel_rfl)
noncomputable def cT3 : Codec Tryd.prog 3 (Int) := Codec.int Tryd.underlying3 (by kernel_rfl)
noncomputable def cT22 : Codec Tryd.prog 22 (List (ByteArray)) := Codec.slice cT9 Tryd.underlying22 (by kernel_rfl)
noncomputable def cT24 : Codec Tryd.prog 24 (List (Int)) := Codec.slice cT3 Tryd.underlying24 (by kernel_rfl)
noncomputable def cT23 : Codec Tryd.prog 23 (List (List (Int))) := Codec.slice cT24 Tryd.underlying23 (by kernel_rfl)
noncomputable def cT26 : Codec Tryd.prog 26 ((Bool) × (Int) × (Int) × (List (ByteArray)) × (List (List (Int))) × (List (ByteArray)) × (List (ByteArray)) × (List (Int)) × Unit) := Codec.struct (fs := #[{ name := "Ca", type := 4, offset := 0, embedded := false, tag := "", pkgPath := "", byteOffset := 0 },
      { name := "Path", type := 3, offset := 1, embedded := false, tag := "", pkgPath := "", byteOffset := 8 },
      { name := "Usage", type := 3, offset := 2, embedded := false, tag := "", pkgPath := "", byteOffset := 16 },
      { name := "Hosts", type := 22, offset := 3, embedded := false, tag := "", pkgPath := "", byteOffset := 24 },
      { name := "Nets", type := 23, offset := 4, embedded := false, tag := "", pkgPath := "", byteOffset := 48 },
      { name := "Allow", type := 22, offset := 5, embedded := false, tag := "", pkgPath := "", byteOffset := 72 },
      { name := "Deny", type := 22, offset := 6, embedded := false, tag := "", pkgPath := "", byteOffset := 96 },
      { name := "Purposes", type := 24, offset := 7, embedded := false, tag := "", pkgPath := "", byteOffset := 120 }])
    (Fields.cons cT4 (Fields.cons cT3 (Fields.cons cT3 (Fields.cons cT22 (Fields.cons cT23 (Fields.cons cT22 (Fields.cons cT22 (Fields.cons cT24 Fields.nil rfl) rfl) rfl) rfl) rfl) rfl) rfl) rfl) Tryd.underlying26 (by kernel_rfl) (by decide)
abbrev LawArgs := ((Bool) × (Int) × (Int) × (List (ByteArray)) × (List (List (Int))) × (List (ByteArray)) × (List (ByteArray)) × (List (Int)) × Unit) × (ByteArray) × Unit
noncomputable def lawArgs : Args Tryd.prog [26, 9] LawArgs := (Args.consS cT26 Tryd.underlying26 (fun _ => rfl) (Args.cons cT9 (by kernel_rfl) (fun _ => rfl) Args.nil))

theorem law_ok (x : LawArgs) (h : lawArgs.ok x) : Holds Tryd.prog 3 (lawArgs.dat x) [] (.v (.bool true)) [] := by
  obtain ⟨⟨ca, path, usage, ho, ne, al, de, pu, ⟨⟩⟩, s, ⟨⟩⟩ := x
  obtain ⟨⟨_, _, _, ⟨h1, h2⟩, ⟨h3, h4⟩, ⟨h5, h6⟩, ⟨h7, h8⟩, ⟨h9, _⟩, _⟩, _⟩ := h
  exact lawAllowedBy (Checked.mixed Tryd.checked) ca path usage ho ne al de pu s h1 h2 h3 (fun r hr => (h4 r hr).1) h5 h6 h7 h8 h9

theorem own : ownKnob Tryd.prog.godebug = none := by kernel_rfl
set_option maxRecDepth 100000 in
theorem door_met (os : Os) (args : Array Value) : laidMetH Tryd.prog Rows.fnExactAllowedByRow.laid ((World.laidAll Tryd.prog os Rows.fnExactAllowedByRow.laid).forCall (fun _ _ => 0) ⟨#[], args, []⟩).memory :=
  by rw [MakeChecks.laidMetH_plain _ _ _ (by kernel_rfl)]; exact laidMet_laidAll _ (by kernel_rfl) (by kernel_rfl)
set_option maxRecDepth 100000 in
theorem lifted (os : Os) (started : os.Started) (H : Type) (enc : TypeId × Value → H) :
    ReturnsInHanded {} Tryd.checked os 3 .any (fun w args => (Rows.fnExactAllowedBySpec.pre enc Tryd.prog Tryd.f3 [] false w args ∧ laidMetH Tryd.prog Rows.fnExactAllowedByRow.laid w) ∧ sizedMet enc Tryd.prog Tryd.f3 (OpenSpec.ofChange Rows.fnExactAllowedBySpec) false w args)
      (Rows.fnExactAllowedBySpec.post enc Tryd.prog Tryd.f3 false true false false) := by
  refine returnsInHanded_of_change_and (C := Tryd.checked) (X := fun w _ => laidMetH Tryd.prog Rows.fnExactAllowedByRow.laid w) (fun _ _ _ hh h => h.of_heap hh) own started (by kernel_rfl) Tryd.func3
    (ChangeSpec.witness_shaped (enc := enc) (C := Tryd.checked) (os := os) (X := fun w _ => laidMetH Tryd.prog Rows.fnExactAllowedByRow.laid w) false (World.laidAll Tryd.prog os Rows.fnExactAllowedByRow.laid) #[.agg #[.bool false, .int .i64 0, .int .i64 0, .slice none 0 0, .slice none 0 0, .slice none 0 0, .slice none 0 0, .slice none 0 0], .string ⟨#[]⟩] 8 (World.laidAll_os _ _ _) (World.shaped_of_ZipB (by kernel_rfl) (by kernel_rfl)) (by kernel_rfl) (by kernel_rfl) (by kernel_rfl) (door_met os _)) ?_
  intro W base args ds gs before hval hW _ _ _ _
  exact law_calls (P := Tryd.prog) (s := Rows.fnExactAllowedBySpec) (fn := Tryd.f3) (by kernel_rfl) lawArgs law_ok (by kernel_rfl) (tb := 4) rfl Tryd.underlying4 rfl
    (fun ds h => match ds, h with | [_, _], _ => ⟨rfl, rfl, rfl⟩) hval hW

theorem row_holds : Rows.FnExactAllowedBySaid :=
  OpenClaim.holds_of_wide 3 Tryd.f3 rfl rfl rfl rfl rfl rfl rfl ⟨rfl, rfl, rfl, rfl, rfl⟩ rfl rfl rfl rfl rfl (by kernel_rfl) Tryd.func3 (by kernel_rfl)
    (of_decide_eq_true (by kernel_rfl)) (by unfold Func.isWrapper; first | (rw [if_pos (by decide +kernel)]; kernel_rfl) | (rw [if_neg (by decide +kernel)]; exact ⟨rfl, rfl⟩))
    (fun os started H enc _ => lifted os started H enc)
theorem fnExactAllowedBy_holds : Rows.FnExactAllowedByCardSaid :=
  Claim7.holds_tied_plain_at .later [] [.data, .pinned] true (true, "81b05bec1973ae00caa77a72b737d545ec85cb69c085edeb247990a50185e325") false
    row_holds (fun _ h => by cases h) (by kernel_rfl) (fun _ h => by cases h) fnExactAllowedBy_row_tie rfl ⟨rfl, rfl⟩ (by kernel_rfl) rfl
    (fun f fn hf hfn => by
      obtain rfl : f = 3 := Option.some.inj ((show Tryd.prog.funcNamed "loop.example/g00148/laws.FnExactAllowedBy" = some 3 by kernel_rfl).symm.trans hf) |>.symm
      obtain rfl : fn = Tryd.f3 := (Option.some.inj (Tryd.func3.symm.trans hfn)).symm
      exact ⟨by kernel_rfl, fun j t ht => by
        have hp : Tryd.f3.params = #[26, 9] := by kernel_rfl
        rw [hp] at ht
        have hm : t ∈ [26, 9] := by simpa using Array.mem_of_getElem? ht
        have hall : ([26, 9].all fun u => !Tryd.prog.wantsStandIn u) = true := by kernel_rfl
        exact (show Tryd.prog.wantsStandIn t = false by simpa using List.all_eq_true.1 hall t hm)⟩)
    (by kernel_rfl)
#print axioms fnExactAllowedBy_holds
end Go.Proofs.YtnbhfmhlpncjmacDoor
