/- For every argument the law Counts returns true, and its arguments read behind the call as they did before. No condition. -/
import Derived.LaidMore
import Derived.Lay
import Derived.Stop.Joined
import Derived.SevenTiedAt
import Derived.Test.YtjnchacjkngbnacGreatDoorRows
import Derived.Test.YtjnchacjkngbnacGreatDoorCards
import Derived.Test.YtjnchacjkngbnacGreatDoorTie
import Derived.Test.YtjnchacjkngbnacGreatDoorWalk4
set_option linter.unusedVariables false
set_option linter.unusedSimpArgs false
namespace Go.Proofs.YtjnchacjkngbnacGreatDoor
open Go Go.AM Go.Proofs.W Go.ChangeAt Go.WideMaps Go.WideElems Go.RowKit Go.WideShapes Go.ChangeShapes
noncomputable def cT3 : Codec Tryz.prog 3 (Int) := Codec.int Tryz.underlying3 (by kernel_rfl)
noncomputable def cT9 : Codec Tryz.prog 9 (ByteArray) := Codec.string Tryz.underlying9 (by kernel_rfl)
noncomputable def cT35 : Codec Tryz.prog 35 (List (ByteArray)) := Codec.slice cT9 Tryz.underlying35 (by kernel_rfl)
noncomputable def cT24 : Codec Tryz.prog 24 (List (Int)) := Codec.slice cT3 Tryz.underlying24 (by kernel_rfl)
noncomputable def cT37 : Codec Tryz.prog 37 ((Int) × (Int) × (Int) × (Int) × (Int) × (Int) × Unit) := Codec.struct (fs := #[{ name := "P", type := 3, offset := 0, embedded := false, tag := "", pkgPath := "", byteOffset := 0 },
   {name := "A", type := 3, offset := 1, embedded := false, tag := "", pkgPath := "", byteOffset := 8 },
   {name := "B", type := 3, offset := 2, embedded := false, tag := "", pkgPath := "", byteOffset := 16 },
   {name := "N", type := 3, offset := 3, embedded := false, tag := "", pkgPath := "", byteOffset := 24 },
   {name := "GX", type := 3, offset := 4, embedded := false, tag := "", pkgPath := "", byteOffset := 32 },
   {name := "GY", type := 3, offset := 5, embedded := false, tag := "", pkgPath := "", byteOffset := 40 }])
  (Fields.cons cT3 (Fields.cons cT3 (Fields.cons cT3 (Fields.cons cT3 (Fields.cons cT3 (Fields.cons cT3 Fields.nil rfl) rfl) rfl) rfl) rfl) rfl) Tryz.underlying37 (by kernel_rfl) (by decide)
noncomputable def cT4 : Codec Tryz.prog 4 (Bool) := Codec.bool Tryz.underlying4 (by kernel_rfl)
noncomputable def cT39 : Codec Tryz.prog 39 ((Int) × (Int) × (Bool) × Unit) := Codec.struct (fs := #[{ name := "X", type := 3, offset := 0, embedded := false, tag := "", pkgPath := "", byteOffset := 0 },
   {name := "Y", type := 3, offset := 1, embedded := false, tag := "", pkgPath := "", byteOffset := 8 },
   {name := "Far", type := 4, offset := 2, embedded := false, tag := "", pkgPath := "", byteOffset := 16 }])
  (Fields.cons cT3 (Fields.cons cT3 (Fields.cons cT4 Fields.nil rfl) rfl) rfl) Tryz.underlying39 (by kernel_rfl) (by decide)
noncomputable def cT41 : Codec Tryz.prog 41 ((Int) × (Int) × (Int) × (Int) × (Int) × Unit) := Codec.struct (fs := #[{ name := "P", type := 3, offset := 0, embedded := false, tag := "", pkgPath := "", byteOffset := 0 },
   {name := "D", type := 3, offset := 1, embedded := false, tag := "", pkgPath := "", byteOffset := 8 },
   {name := "L", type := 3, offset := 2, embedded := false, tag := "", pkgPath := "", byteOffset := 16 },
   {name := "BX", type := 3, offset := 3, embedded := false, tag := "", pkgPath := "", byteOffset := 24 },
   {name := "BY", type := 3, offset := 4, embedded := false, tag := "", pkgPath := "", byteOffset := 32 }])
  (Fields.cons cT3 (Fields.cons cT3 (Fields.cons cT3 (Fields.cons cT3 (Fields.cons cT3 Fields.nil rfl) rfl) rfl) rfl) rfl) Tryz.underlying41 (by kernel_rfl) (by decide)
noncomputable def cT43 : Codec Tryz.prog 43 ((Int) × (Int) × Unit) := Codec.struct (fs := #[{ name := "X", type := 3, offset := 0, embedded := false, tag := "", pkgPath := "", byteOffset := 0 },
   {name := "Y", type := 3, offset := 1, embedded := false, tag := "", pkgPath := "", byteOffset := 8 }])
  (Fields.cons cT3 (Fields.cons cT3 Fields.nil rfl) rfl) Tryz.underlying43 (by kernel_rfl) (by decide)
noncomputable def cT45 : Codec Tryz.prog 45 ((Int) × (List (Int)) × (Int) × ((Int) × (Int) × (Int) × (Int) × (Int) × (Int) × Unit) × ((Int) × (Int) × (Bool) × Unit) × ((Int) × (Int) × (Int) × (Int) × (Int) × Unit) × ((Int) × (Int) × Unit) × Unit) := Codec.struct (fs := #[{ name := "Kind", type := 3, offset := 0, embedded := false, tag := "", pkgPath := "", byteOffset := 0 },
   {name := "N", type := 24, offset := 1, embedded := false, tag := "", pkgPath := "", byteOffset := 8 },
   {name := "E", type := 3, offset := 2, embedded := false, tag := "", pkgPath := "", byteOffset := 32 },
   {name := "Curve", type := 37, offset := 3, embedded := false, tag := "", pkgPath := "", byteOffset := 40 },
   {name := "Q", type := 39, offset := 9, embedded := false, tag := "", pkgPath := "", byteOffset := 88 },
   {name := "Ed", type := 41, offset := 12, embedded := false, tag := "", pkgPath := "", byteOffset := 112 },
   {name := "A", type := 43, offset := 17, embedded := false, tag := "", pkgPath := "", byteOffset := 152 }])
  (Fields.cons cT3 (Fields.cons cT24 (Fields.cons cT3 (Fields.cons cT37 (Fields.cons cT39 (Fields.cons cT41 (Fields.cons cT43 Fields.nil rfl) rfl) rfl) rfl) rfl) rfl) rfl) Tryz.underlying45 (by kernel_rfl) (by decide)
noncomputable def cT46 : Codec Tryz.prog 46 (List (List (Int))) := Codec.slice cT24 Tryz.underlying46 (by kernel_rfl)
noncomputable def cT48 : Codec Tryz.prog 48 ((Bool) × (Int) × (Int) × (List (ByteArray)) × (List (List (Int))) × (List (ByteArray)) × (List (ByteArray)) × (List (Int)) × Unit) := Codec.struct (fs := #[{ name := "Ca", type := 4, offset := 0, embedded := false, tag := "", pkgPath := "", byteOffset := 0 },
   {name := "Path", type := 3, offset := 1, embedded := false, tag := "", pkgPath := "", byteOffset := 8 },
   {name := "Usage", type := 3, offset := 2, embedded := false, tag := "", pkgPath := "", byteOffset := 16 },
   {name := "Hosts", type := 35, offset := 3, embedded := false, tag := "", pkgPath := "", byteOffset := 24 },
   {name := "Nets", type := 46, offset := 4, embedded := false, tag := "", pkgPath := "", byteOffset := 48 },
   {name := "Allow", type := 35, offset := 5, embedded := false, tag := "", pkgPath := "", byteOffset := 72 },
   {name := "Deny", type := 35, offset := 6, embedded := false, tag := "", pkgPath := "", byteOffset := 96 },
   {name := "Purposes", type := 24, offset := 7, embedded := false, tag := "", pkgPath := "", byteOffset := 120 }])
  (Fields.cons cT4 (Fields.cons cT3 (Fields.cons cT3 (Fields.cons cT35 (Fields.cons cT46 (Fields.cons cT35 (Fields.cons cT35 (Fields.cons cT24 Fields.nil rfl) rfl) rfl) rfl) rfl) rfl) rfl) rfl) Tryz.underlying48 (by kernel_rfl) (by decide)
noncomputable def cT5 : Codec Tryz.prog 5 (Int) := Codec.int Tryz.underlying5 (by kernel_rfl)
noncomputable def cT49 : Codec Tryz.prog 49 (List (Int)) := Codec.slice cT5 Tryz.underlying49 (by kernel_rfl)
noncomputable def cT51 : Codec Tryz.prog 51 ((Int) × (List (ByteArray)) × (List (ByteArray)) × (Int) × (Int) × ((Int) × (List (Int)) × (Int) × ((Int) × (Int) × (Int) × (Int) × (Int) × (Int) × Unit) × ((Int) × (Int) × (Bool) × Unit) × ((Int) × (Int) × (Int) × (Int) × (Int) × Unit) × ((Int) × (Int) × Unit) × Unit) × (Int) × ((Bool) × (Int) × (Int) × (List (ByteArray)) × (List (List (Int))) × (List (ByteArray)) × (List (ByteArray)) × (List (Int)) × Unit) × (List (Int)) × Unit) := Codec.struct (fs := #[{ name := "Serial", type := 3, offset := 0, embedded := false, tag := "", pkgPath := "", byteOffset := 0 },
   {name := "Issuer", type := 35, offset := 1, embedded := false, tag := "", pkgPath := "", byteOffset := 8 },
   {name := "Subject", type := 35, offset := 2, embedded := false, tag := "", pkgPath := "", byteOffset := 32 },
   {name := "From", type := 3, offset := 3, embedded := false, tag := "", pkgPath := "", byteOffset := 56 },
   {name := "To", type := 3, offset := 4, embedded := false, tag := "", pkgPath := "", byteOffset := 64 },
   {name := "Key", type := 45, offset := 5, embedded := false, tag := "", pkgPath := "", byteOffset := 72 },
   {name := "Alg", type := 3, offset := 24, embedded := false, tag := "", pkgPath := "", byteOffset := 240 },
   {name := "Exts", type := 48, offset := 25, embedded := false, tag := "", pkgPath := "", byteOffset := 248 },
   {name := "Sig", type := 49, offset := 33, embedded := false, tag := "", pkgPath := "", byteOffset := 392 }])
  (Fields.cons cT3 (Fields.cons cT35 (Fields.cons cT35 (Fields.cons cT3 (Fields.cons cT3 (Fields.cons cT45 (Fields.cons cT3 (Fields.cons cT48 (Fields.cons cT49 Fields.nil rfl) rfl) rfl) rfl) rfl) rfl) rfl) rfl) rfl) Tryz.underlying51 (by kernel_rfl) (by decide)
noncomputable def cT22 : Codec Tryz.prog 22 (List ((Int) × (List (ByteArray)) × (List (ByteArray)) × (Int) × (Int) × ((Int) × (List (Int)) × (Int) × ((Int) × (Int) × (Int) × (Int) × (Int) × (Int) × Unit) × ((Int) × (Int) × (Bool) × Unit) × ((Int) × (Int) × (Int) × (Int) × (Int) × Unit) × ((Int) × (Int) × Unit) × Unit) × (Int) × ((Bool) × (Int) × (Int) × (List (ByteArray)) × (List (List (Int))) × (List (ByteArray)) × (List (ByteArray)) × (List (Int)) × Unit) × (List (Int)) × Unit)) := Codec.slice cT51 Tryz.underlying22 (by kernel_rfl)
abbrev LawArgs := (List ((Int) × (List (ByteArray)) × (List (ByteArray)) × (Int) × (Int) × ((Int) × (List (Int)) × (Int) × ((Int) × (Int) × (Int) × (Int) × (Int) × (Int) × Unit) × ((Int) × (Int) × (Bool) × Unit) × ((Int) × (Int) × (Int) × (Int) × (Int) × Unit) × ((Int) × (Int) × Unit) × Unit) × (Int) × ((Bool) × (Int) × (Int) × (List (ByteArray)) × (List (List (Int))) × (List (ByteArray)) × (List (ByteArray)) × (List (Int)) × Unit) × (List (Int)) × Unit)) × Unit
noncomputable def lawArgs : Args Tryz.prog [22] LawArgs := (Args.cons cT22 (by kernel_rfl) (fun _ => rfl) Args.nil)
def gC : ((Int) × (List (ByteArray)) × (List (ByteArray)) × (Int) × (Int) × ((Int) × (List (Int)) × (Int) × ((Int) × (Int) × (Int) × (Int) × (Int) × (Int) × Unit) × ((Int) × (Int) × (Bool) × Unit) × ((Int) × (Int) × (Int) × (Int) × (Int) × Unit) × ((Int) × (Int) × Unit) × Unit) × (Int) × ((Bool) × (Int) × (Int) × (List (ByteArray)) × (List (List (Int))) × (List (ByteArray)) × (List (ByteArray)) × (List (Int)) × Unit) × (List (Int)) × Unit) → GCert
 | ⟨serial, issuer, subject, fr, tu, ⟨kind, N, e, ⟨p, a, b, n, gx, gy, ⟨⟩⟩, ⟨x, y, far, ⟨⟩⟩, ⟨ep, ed, el, ebx, eby, ⟨⟩⟩, ⟨p1, p2, ⟨⟩⟩, ⟨⟩⟩, alg, ⟨ca, path, usage, ho, ne, al, de, pu, ⟨⟩⟩, sig, ⟨⟩⟩ =>
  ⟨serial, issuer, subject, fr, tu, ⟨kind, N, e, ⟨p, a, b, n, gx, gy⟩, ⟨x, y, far⟩, ⟨ep, ed, el, ebx, eby⟩, (p1, p2)⟩, alg, ca, path, usage, ho, ne, al, de, pu, sig⟩
theorem gC_elem (t : ((Int) × (List (ByteArray)) × (List (ByteArray)) × (Int) × (Int) × ((Int) × (List (Int)) × (Int) × ((Int) × (Int) × (Int) × (Int) × (Int) × (Int) × Unit) × ((Int) × (Int) × (Bool) × Unit) × ((Int) × (Int) × (Int) × (Int) × (Int) × Unit) × ((Int) × (Int) × Unit) × Unit) × (Int) × ((Bool) × (Int) × (Int) × (List (ByteArray)) × (List (List (Int))) × (List (ByteArray)) × (List (ByteArray)) × (List (Int)) × Unit) × (List (Int)) × Unit)) : cT51.elem t = certA (gC t) := rfl
theorem gC_ok (t : ((Int) × (List (ByteArray)) × (List (ByteArray)) × (Int) × (Int) × ((Int) × (List (Int)) × (Int) × ((Int) × (Int) × (Int) × (Int) × (Int) × (Int) × Unit) × ((Int) × (Int) × (Bool) × Unit) × ((Int) × (Int) × (Int) × (Int) × (Int) × Unit) × ((Int) × (Int) × Unit) × Unit) × (Int) × ((Bool) × (Int) × (Int) × (List (ByteArray)) × (List (List (Int))) × (List (ByteArray)) × (List (ByteArray)) × (List (Int)) × Unit) × (List (Int)) × Unit)) (h : cT51.ok t) : CertIn (gC t) := by
 obtain ⟨serial, issuer, subject, fr, tu, ⟨kind, N, e, ⟨p, a, b, n, gx, gy, ⟨⟩⟩, ⟨x, y, far, ⟨⟩⟩, ⟨ep, ed, el, ebx, eby, ⟨⟩⟩, ⟨p1, p2, ⟨⟩⟩, ⟨⟩⟩, alg, ⟨ca, path, usage, ho, ne, al, de, pu, ⟨⟩⟩, sig, ⟨⟩⟩ := t
 obtain ⟨_, ⟨i1, i2⟩, ⟨j1, j2⟩, _, _, ⟨_, ⟨k1, _⟩, _⟩, _, ⟨_, _, _, ⟨h1, h2⟩, ⟨h3, h4⟩, ⟨h5, h6⟩, ⟨h7, h8⟩, ⟨h9, _⟩, _⟩, ⟨g1, _⟩, _⟩ := h
 exact ⟨⟨i1, i2⟩, ⟨j1, j2⟩, k1, ⟨h1, h2⟩, ⟨h3, fun r hr => (h4 r hr).1⟩, ⟨h5, h6⟩, ⟨h7, h8⟩, h9, g1⟩
theorem law_ok (x : LawArgs) (h : lawArgs.ok x) : Holds Tryz.prog 3 (lawArgs.dat x) [] (.v (.bool true)) [] := by
 obtain ⟨L, ⟨⟩⟩ := x
 obtain ⟨⟨h1, h2⟩, _⟩ := h
 have := lawCounts (Checked.mixed Tryz.checked) (L.map gC) (by rw [List.length_map]; exact h1) (fun c hc => by
  obtain ⟨t, ht, rfl⟩ := List.mem_map.1 hc
  exact gC_ok t (h2 t ht))
 rw [List.map_map] at this
 exact this
theorem own : ownKnob Tryz.prog.godebug = none := by kernel_rfl
set_option maxRecDepth 100000 in
theorem door_met (os : Os) (args : Array Value) : laidMetH Tryz.prog Rows.fnExactCountsRow.laid ((World.laidAll Tryz.prog os Rows.fnExactCountsRow.laid).forCall (fun _ _ => 0) ⟨#[], args, []⟩).memory :=
 by rw [MakeChecks.laidMetH_plain _ _ _ (by kernel_rfl)]; exact laidMet_laidAll _ (by kernel_rfl) (by kernel_rfl)
set_option maxRecDepth 100000 in
theorem lifted (os : Os) (started : os.Started) (H : Type) (enc : TypeId × Value → H) :
  ReturnsInHanded {} Tryz.checked os 3 .any (fun w args => (Rows.fnExactCountsSpec.pre enc Tryz.prog Tryz.f3 [] false w args ∧ laidMetH Tryz.prog Rows.fnExactCountsRow.laid w) ∧ sizedMet enc Tryz.prog Tryz.f3 (OpenSpec.ofChange Rows.fnExactCountsSpec) false w args)
   (Rows.fnExactCountsSpec.post enc Tryz.prog Tryz.f3 false true false false) := by
 refine returnsInHanded_of_change_and (C := Tryz.checked) (X := fun w _ => laidMetH Tryz.prog Rows.fnExactCountsRow.laid w) (fun _ _ _ hh h => h.of_heap hh) own started (by kernel_rfl) Tryz.func3
  (ChangeSpec.witness_shaped (enc := enc) (C := Tryz.checked) (os := os) (X := fun w _ => laidMetH Tryz.prog Rows.fnExactCountsRow.laid w) false (World.laidAll Tryz.prog os Rows.fnExactCountsRow.laid) #[.slice none 0 0] 8 (World.laidAll_os _ _ _) (World.shaped_of_ZipB (by kernel_rfl) (by kernel_rfl)) (by kernel_rfl) (by kernel_rfl) (by kernel_rfl) (door_met os _)) ?_
 intro W base args ds gs before hval hW _ _ _ _
 exact law_calls (P := Tryz.prog) (s := Rows.fnExactCountsSpec) (fn := Tryz.f3) (by kernel_rfl) lawArgs law_ok (by kernel_rfl) (tb := 4) rfl Tryz.underlying4 rfl
  (fun ds h => match ds, h with | [_], _ => ⟨rfl, rfl, rfl⟩) hval hW
theorem row_holds : Rows.FnExactCountsSaid :=
 OpenClaim.holds_of_wide 3 Tryz.f3 rfl rfl rfl rfl rfl rfl rfl ⟨rfl, rfl, rfl, rfl, rfl⟩ rfl rfl rfl rfl rfl (by kernel_rfl) Tryz.func3 (by kernel_rfl)
  (of_decide_eq_true (by kernel_rfl)) (by unfold Func.isWrapper; first | (rw [if_pos (by decide +kernel)]; kernel_rfl) | (rw [if_neg (by decide +kernel)]; exact ⟨rfl, rfl⟩))
  (fun os started H enc _ => lifted os started H enc)
theorem fnExactCounts_holds : Rows.FnExactCountsCardSaid :=
 Claim7.holds_tied_plain_at .later [] [.data, .pinned] true (true, "71652d935cd1ac0eafcc5ecf718b00c0c18bf11c424d918344ee9265dbb78b03") false
  row_holds (fun _ h => by cases h) (by kernel_rfl) (fun _ h => by cases h) fnExactCounts_row_tie rfl ⟨rfl, rfl⟩ (by kernel_rfl) rfl
  (fun f fn hf hfn => by
   obtain rfl : f = 3 := Option.some.inj ((show Tryz.prog.funcNamed "loop.example/g00148/laws.FnExactCounts" = some 3 by kernel_rfl).symm.trans hf) |>.symm
   obtain rfl : fn = Tryz.f3 := (Option.some.inj (Tryz.func3.symm.trans hfn)).symm
   exact ⟨by kernel_rfl, fun j t ht => by
    have hp : Tryz.f3.params = #[22] := by kernel_rfl
    rw [hp] at ht
    have hm : t ∈ [22] := by simpa using Array.mem_of_getElem? ht
    have hall : ([22].all fun u => !Tryz.prog.wantsStandIn u) = true := by kernel_rfl
    exact (show Tryz.prog.wantsStandIn t = false by simpa using List.all_eq_true.1 hall t hm)⟩)
  (by kernel_rfl)
#print axioms fnExactCounts_holds
end Go.Proofs.YtjnchacjkngbnacGreatDoor
