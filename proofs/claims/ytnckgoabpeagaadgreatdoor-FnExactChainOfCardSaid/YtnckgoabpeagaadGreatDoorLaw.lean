/- For every argument the law ChainOf returns true, and its arguments read behind the call as they did before. No condition. -/
import Derived.LaidMore
import Derived.Lay
import Derived.Stop.Joined
import Derived.SevenTiedAt
import Derived.Test.YtnckgoabpeagaadGreatDoorRows
import Derived.Test.YtnckgoabpeagaadGreatDoorCards
import Derived.Test.YtnckgoabpeagaadGreatDoorTie
import Derived.Test.YtnckgoabpeagaadGreatDoorWalk3
set_option linter.unusedVariables false
set_option linter.unusedSimpArgs false
namespace Go.Proofs.YtnckgoabpeagaadGreatDoor
open Go Go.AM Go.Proofs.W Go.ChangeAt Go.WideMaps Go.WideElems Go.RowKit Go.WideShapes Go.ChangeShapes
noncomputable def cT3 : Codec Tryz.prog 3 (Int) := Codec.int Tryz.underlying3 (by kernel_rfl)
noncomputable def cT23 : Codec Tryz.prog 23 (List (Int)) := Codec.slice cT3 Tryz.underlying23 (by kernel_rfl)
noncomputable def cT9 : Codec Tryz.prog 9 (ByteArray) := Codec.string Tryz.underlying9 (by kernel_rfl)
noncomputable def cT22 : Codec Tryz.prog 22 (List (ByteArray)) := Codec.slice cT9 Tryz.underlying22 (by kernel_rfl)
noncomputable def cT25 : Codec Tryz.prog 25 ((Int) × (Int) × (Int) × (Int) × (Int) × (Int) × Unit) := Codec.struct (fs := #[{ name := "P", type := 3, offset := 0, embedded := false, tag := "", pkgPath := "", byteOffset := 0 },
   {name := "A", type := 3, offset := 1, embedded := false, tag := "", pkgPath := "", byteOffset := 8 },
   {name := "B", type := 3, offset := 2, embedded := false, tag := "", pkgPath := "", byteOffset := 16 },
   {name := "N", type := 3, offset := 3, embedded := false, tag := "", pkgPath := "", byteOffset := 24 },
   {name := "GX", type := 3, offset := 4, embedded := false, tag := "", pkgPath := "", byteOffset := 32 },
   {name := "GY", type := 3, offset := 5, embedded := false, tag := "", pkgPath := "", byteOffset := 40 }])
  (Fields.cons cT3 (Fields.cons cT3 (Fields.cons cT3 (Fields.cons cT3 (Fields.cons cT3 (Fields.cons cT3 Fields.nil rfl) rfl) rfl) rfl) rfl) rfl) Tryz.underlying25 (by kernel_rfl) (by decide)
noncomputable def cT4 : Codec Tryz.prog 4 (Bool) := Codec.bool Tryz.underlying4 (by kernel_rfl)
noncomputable def cT27 : Codec Tryz.prog 27 ((Int) × (Int) × (Bool) × Unit) := Codec.struct (fs := #[{ name := "X", type := 3, offset := 0, embedded := false, tag := "", pkgPath := "", byteOffset := 0 },
   {name := "Y", type := 3, offset := 1, embedded := false, tag := "", pkgPath := "", byteOffset := 8 },
   {name := "Far", type := 4, offset := 2, embedded := false, tag := "", pkgPath := "", byteOffset := 16 }])
  (Fields.cons cT3 (Fields.cons cT3 (Fields.cons cT4 Fields.nil rfl) rfl) rfl) Tryz.underlying27 (by kernel_rfl) (by decide)
noncomputable def cT29 : Codec Tryz.prog 29 ((Int) × (Int) × (Int) × (Int) × (Int) × Unit) := Codec.struct (fs := #[{ name := "P", type := 3, offset := 0, embedded := false, tag := "", pkgPath := "", byteOffset := 0 },
   {name := "D", type := 3, offset := 1, embedded := false, tag := "", pkgPath := "", byteOffset := 8 },
   {name := "L", type := 3, offset := 2, embedded := false, tag := "", pkgPath := "", byteOffset := 16 },
   {name := "BX", type := 3, offset := 3, embedded := false, tag := "", pkgPath := "", byteOffset := 24 },
   {name := "BY", type := 3, offset := 4, embedded := false, tag := "", pkgPath := "", byteOffset := 32 }])
  (Fields.cons cT3 (Fields.cons cT3 (Fields.cons cT3 (Fields.cons cT3 (Fields.cons cT3 Fields.nil rfl) rfl) rfl) rfl) rfl) Tryz.underlying29 (by kernel_rfl) (by decide)
noncomputable def cT31 : Codec Tryz.prog 31 ((Int) × (Int) × Unit) := Codec.struct (fs := #[{ name := "X", type := 3, offset := 0, embedded := false, tag := "", pkgPath := "", byteOffset := 0 },
   {name := "Y", type := 3, offset := 1, embedded := false, tag := "", pkgPath := "", byteOffset := 8 }])
  (Fields.cons cT3 (Fields.cons cT3 Fields.nil rfl) rfl) Tryz.underlying31 (by kernel_rfl) (by decide)
noncomputable def cT33 : Codec Tryz.prog 33 ((Int) × (List (Int)) × (Int) × ((Int) × (Int) × (Int) × (Int) × (Int) × (Int) × Unit) × ((Int) × (Int) × (Bool) × Unit) × ((Int) × (Int) × (Int) × (Int) × (Int) × Unit) × ((Int) × (Int) × Unit) × Unit) := Codec.struct (fs := #[{ name := "Kind", type := 3, offset := 0, embedded := false, tag := "", pkgPath := "", byteOffset := 0 },
   {name := "N", type := 23, offset := 1, embedded := false, tag := "", pkgPath := "", byteOffset := 8 },
   {name := "E", type := 3, offset := 2, embedded := false, tag := "", pkgPath := "", byteOffset := 32 },
   {name := "Curve", type := 25, offset := 3, embedded := false, tag := "", pkgPath := "", byteOffset := 40 },
   {name := "Q", type := 27, offset := 9, embedded := false, tag := "", pkgPath := "", byteOffset := 88 },
   {name := "Ed", type := 29, offset := 12, embedded := false, tag := "", pkgPath := "", byteOffset := 112 },
   {name := "A", type := 31, offset := 17, embedded := false, tag := "", pkgPath := "", byteOffset := 152 }])
  (Fields.cons cT3 (Fields.cons cT23 (Fields.cons cT3 (Fields.cons cT25 (Fields.cons cT27 (Fields.cons cT29 (Fields.cons cT31 Fields.nil rfl) rfl) rfl) rfl) rfl) rfl) rfl) Tryz.underlying33 (by kernel_rfl) (by decide)
noncomputable def cT34 : Codec Tryz.prog 34 (List (List (Int))) := Codec.slice cT23 Tryz.underlying34 (by kernel_rfl)
noncomputable def cT36 : Codec Tryz.prog 36 ((Bool) × (Int) × (Int) × (List (ByteArray)) × (List (List (Int))) × (List (ByteArray)) × (List (ByteArray)) × (List (Int)) × Unit) := Codec.struct (fs := #[{ name := "Ca", type := 4, offset := 0, embedded := false, tag := "", pkgPath := "", byteOffset := 0 },
   {name := "Path", type := 3, offset := 1, embedded := false, tag := "", pkgPath := "", byteOffset := 8 },
   {name := "Usage", type := 3, offset := 2, embedded := false, tag := "", pkgPath := "", byteOffset := 16 },
   {name := "Hosts", type := 22, offset := 3, embedded := false, tag := "", pkgPath := "", byteOffset := 24 },
   {name := "Nets", type := 34, offset := 4, embedded := false, tag := "", pkgPath := "", byteOffset := 48 },
   {name := "Allow", type := 22, offset := 5, embedded := false, tag := "", pkgPath := "", byteOffset := 72 },
   {name := "Deny", type := 22, offset := 6, embedded := false, tag := "", pkgPath := "", byteOffset := 96 },
   {name := "Purposes", type := 23, offset := 7, embedded := false, tag := "", pkgPath := "", byteOffset := 120 }])
  (Fields.cons cT4 (Fields.cons cT3 (Fields.cons cT3 (Fields.cons cT22 (Fields.cons cT34 (Fields.cons cT22 (Fields.cons cT22 (Fields.cons cT23 Fields.nil rfl) rfl) rfl) rfl) rfl) rfl) rfl) rfl) Tryz.underlying36 (by kernel_rfl) (by decide)
noncomputable def cT5 : Codec Tryz.prog 5 (Int) := Codec.int Tryz.underlying5 (by kernel_rfl)
noncomputable def cT37 : Codec Tryz.prog 37 (List (Int)) := Codec.slice cT5 Tryz.underlying37 (by kernel_rfl)
noncomputable def cT39 : Codec Tryz.prog 39 ((Int) × (List (ByteArray)) × (List (ByteArray)) × (Int) × (Int) × ((Int) × (List (Int)) × (Int) × ((Int) × (Int) × (Int) × (Int) × (Int) × (Int) × Unit) × ((Int) × (Int) × (Bool) × Unit) × ((Int) × (Int) × (Int) × (Int) × (Int) × Unit) × ((Int) × (Int) × Unit) × Unit) × (Int) × ((Bool) × (Int) × (Int) × (List (ByteArray)) × (List (List (Int))) × (List (ByteArray)) × (List (ByteArray)) × (List (Int)) × Unit) × (List (Int)) × Unit) := Codec.struct (fs := #[{ name := "Serial", type := 3, offset := 0, embedded := false, tag := "", pkgPath := "", byteOffset := 0 },
   {name := "Issuer", type := 22, offset := 1, embedded := false, tag := "", pkgPath := "", byteOffset := 8 },
   {name := "Subject", type := 22, offset := 2, embedded := false, tag := "", pkgPath := "", byteOffset := 32 },
   {name := "From", type := 3, offset := 3, embedded := false, tag := "", pkgPath := "", byteOffset := 56 },
   {name := "To", type := 3, offset := 4, embedded := false, tag := "", pkgPath := "", byteOffset := 64 },
   {name := "Key", type := 33, offset := 5, embedded := false, tag := "", pkgPath := "", byteOffset := 72 },
   {name := "Alg", type := 3, offset := 24, embedded := false, tag := "", pkgPath := "", byteOffset := 240 },
   {name := "Exts", type := 36, offset := 25, embedded := false, tag := "", pkgPath := "", byteOffset := 248 },
   {name := "Sig", type := 37, offset := 33, embedded := false, tag := "", pkgPath := "", byteOffset := 392 }])
  (Fields.cons cT3 (Fields.cons cT22 (Fields.cons cT22 (Fields.cons cT3 (Fields.cons cT3 (Fields.cons cT33 (Fields.cons cT3 (Fields.cons cT36 (Fields.cons cT37 Fields.nil rfl) rfl) rfl) rfl) rfl) rfl) rfl) rfl) rfl) Tryz.underlying39 (by kernel_rfl) (by decide)
noncomputable def cT40 : Codec Tryz.prog 40 (List ((Int) × (List (ByteArray)) × (List (ByteArray)) × (Int) × (Int) × ((Int) × (List (Int)) × (Int) × ((Int) × (Int) × (Int) × (Int) × (Int) × (Int) × Unit) × ((Int) × (Int) × (Bool) × Unit) × ((Int) × (Int) × (Int) × (Int) × (Int) × Unit) × ((Int) × (Int) × Unit) × Unit) × (Int) × ((Bool) × (Int) × (Int) × (List (ByteArray)) × (List (List (Int))) × (List (ByteArray)) × (List (ByteArray)) × (List (Int)) × Unit) × (List (Int)) × Unit)) := Codec.slice cT39 Tryz.underlying40 (by kernel_rfl)
abbrev LawArgs := ((Int) × (List (ByteArray)) × (List (ByteArray)) × (Int) × (Int) × ((Int) × (List (Int)) × (Int) × ((Int) × (Int) × (Int) × (Int) × (Int) × (Int) × Unit) × ((Int) × (Int) × (Bool) × Unit) × ((Int) × (Int) × (Int) × (Int) × (Int) × Unit) × ((Int) × (Int) × Unit) × Unit) × (Int) × ((Bool) × (Int) × (Int) × (List (ByteArray)) × (List (List (Int))) × (List (ByteArray)) × (List (ByteArray)) × (List (Int)) × Unit) × (List (Int)) × Unit) × (List ((Int) × (List (ByteArray)) × (List (ByteArray)) × (Int) × (Int) × ((Int) × (List (Int)) × (Int) × ((Int) × (Int) × (Int) × (Int) × (Int) × (Int) × Unit) × ((Int) × (Int) × (Bool) × Unit) × ((Int) × (Int) × (Int) × (Int) × (Int) × Unit) × ((Int) × (Int) × Unit) × Unit) × (Int) × ((Bool) × (Int) × (Int) × (List (ByteArray)) × (List (List (Int))) × (List (ByteArray)) × (List (ByteArray)) × (List (Int)) × Unit) × (List (Int)) × Unit)) × (List ((Int) × (List (ByteArray)) × (List (ByteArray)) × (Int) × (Int) × ((Int) × (List (Int)) × (Int) × ((Int) × (Int) × (Int) × (Int) × (Int) × (Int) × Unit) × ((Int) × (Int) × (Bool) × Unit) × ((Int) × (Int) × (Int) × (Int) × (Int) × Unit) × ((Int) × (Int) × Unit) × Unit) × (Int) × ((Bool) × (Int) × (Int) × (List (ByteArray)) × (List (List (Int))) × (List (ByteArray)) × (List (ByteArray)) × (List (Int)) × Unit) × (List (Int)) × Unit)) × (List (Int)) × Unit
noncomputable def lawArgs : Args Tryz.prog [39, 40, 40, 23] LawArgs := (Args.consS cT39 Tryz.underlying39 (fun _ => rfl) (Args.cons cT40 (by kernel_rfl) (fun _ => rfl) (Args.cons cT40 (by kernel_rfl) (fun _ => rfl) (Args.cons cT23 (by kernel_rfl) (fun _ => rfl) Args.nil))))
def gC : ((Int) × (List (ByteArray)) × (List (ByteArray)) × (Int) × (Int) × ((Int) × (List (Int)) × (Int) × ((Int) × (Int) × (Int) × (Int) × (Int) × (Int) × Unit) × ((Int) × (Int) × (Bool) × Unit) × ((Int) × (Int) × (Int) × (Int) × (Int) × Unit) × ((Int) × (Int) × Unit) × Unit) × (Int) × ((Bool) × (Int) × (Int) × (List (ByteArray)) × (List (List (Int))) × (List (ByteArray)) × (List (ByteArray)) × (List (Int)) × Unit) × (List (Int)) × Unit) → GCert
 | ⟨serial, issuer, subject, fr, tu, ⟨kind, N, e, ⟨p, a, b, n, gx, gy, ⟨⟩⟩, ⟨x, y, far, ⟨⟩⟩, ⟨ep, ed, el, ebx, eby, ⟨⟩⟩, ⟨p1, p2, ⟨⟩⟩, ⟨⟩⟩, alg, ⟨ca, path, usage, ho, ne, al, de, pu, ⟨⟩⟩, sig, ⟨⟩⟩ =>
  ⟨serial, issuer, subject, fr, tu, ⟨kind, N, e, ⟨p, a, b, n, gx, gy⟩, ⟨x, y, far⟩, ⟨ep, ed, el, ebx, eby⟩, (p1, p2)⟩, alg, ca, path, usage, ho, ne, al, de, pu, sig⟩
theorem gC_elem (t : ((Int) × (List (ByteArray)) × (List (ByteArray)) × (Int) × (Int) × ((Int) × (List (Int)) × (Int) × ((Int) × (Int) × (Int) × (Int) × (Int) × (Int) × Unit) × ((Int) × (Int) × (Bool) × Unit) × ((Int) × (Int) × (Int) × (Int) × (Int) × Unit) × ((Int) × (Int) × Unit) × Unit) × (Int) × ((Bool) × (Int) × (Int) × (List (ByteArray)) × (List (List (Int))) × (List (ByteArray)) × (List (ByteArray)) × (List (Int)) × Unit) × (List (Int)) × Unit)) : cT39.elem t = certA (gC t) := rfl
theorem gC_ok (t : ((Int) × (List (ByteArray)) × (List (ByteArray)) × (Int) × (Int) × ((Int) × (List (Int)) × (Int) × ((Int) × (Int) × (Int) × (Int) × (Int) × (Int) × Unit) × ((Int) × (Int) × (Bool) × Unit) × ((Int) × (Int) × (Int) × (Int) × (Int) × Unit) × ((Int) × (Int) × Unit) × Unit) × (Int) × ((Bool) × (Int) × (Int) × (List (ByteArray)) × (List (List (Int))) × (List (ByteArray)) × (List (ByteArray)) × (List (Int)) × Unit) × (List (Int)) × Unit)) (h : cT39.ok t) : CertIn (gC t) := by
 obtain ⟨serial, issuer, subject, fr, tu, ⟨kind, N, e, ⟨p, a, b, n, gx, gy, ⟨⟩⟩, ⟨x, y, far, ⟨⟩⟩, ⟨ep, ed, el, ebx, eby, ⟨⟩⟩, ⟨p1, p2, ⟨⟩⟩, ⟨⟩⟩, alg, ⟨ca, path, usage, ho, ne, al, de, pu, ⟨⟩⟩, sig, ⟨⟩⟩ := t
 obtain ⟨_, ⟨i1, i2⟩, ⟨j1, j2⟩, _, _, ⟨_, ⟨k1, _⟩, _⟩, _, ⟨_, _, _, ⟨h1, h2⟩, ⟨h3, h4⟩, ⟨h5, h6⟩, ⟨h7, h8⟩, ⟨h9, _⟩, _⟩, ⟨g1, _⟩, _⟩ := h
 exact ⟨⟨i1, i2⟩, ⟨j1, j2⟩, k1, ⟨h1, h2⟩, ⟨h3, fun r hr => (h4 r hr).1⟩, ⟨h5, h6⟩, ⟨h7, h8⟩, h9, g1⟩
theorem law_ok (x : LawArgs) (h : lawArgs.ok x) : Holds Tryz.prog 3 (lawArgs.dat x) [] (.v (.bool true)) [] := by
 obtain ⟨lf, po, an, P, ⟨⟩⟩ := x
 obtain ⟨h0, ⟨h1, h2⟩, ⟨h3, h4⟩, ⟨h5, _⟩, _⟩ := h
 have hok : ∀ (L : List ((Int) × (List (ByteArray)) × (List (ByteArray)) × (Int) × (Int) × ((Int) × (List (Int)) × (Int) × ((Int) × (Int) × (Int) × (Int) × (Int) × (Int) × Unit) × ((Int) × (Int) × (Bool) × Unit) × ((Int) × (Int) × (Int) × (Int) × (Int) × Unit) × ((Int) × (Int) × Unit) × Unit) × (Int) × ((Bool) × (Int) × (Int) × (List (ByteArray)) × (List (List (Int))) × (List (ByteArray)) × (List (ByteArray)) × (List (Int)) × Unit) × (List (Int)) × Unit)), (∀ t ∈ L, cT39.ok t) → ∀ c ∈ L.map gC, CertIn c := fun L hL c hc => by
  obtain ⟨t, ht, rfl⟩ := List.mem_map.1 hc
  exact gC_ok t (hL t ht)
 have := lawChainOf (Checked.mixed Tryz.checked) (gC lf) (po.map gC) (an.map gC) P (gC_ok lf h0) (by rw [List.length_map]; exact h1) (hok po h2) (by rw [List.length_map]; exact h3) (hok an h4) h5
 rw [List.map_map, List.map_map] at this
 exact this
theorem own : ownKnob Tryz.prog.godebug = none := by kernel_rfl
set_option maxRecDepth 100000 in
theorem door_met (os : Os) (args : Array Value) : laidMetH Tryz.prog Rows.fnExactChainOfRow.laid ((World.laidAll Tryz.prog os Rows.fnExactChainOfRow.laid).forCall (fun _ _ => 0) ⟨#[], args, []⟩).memory :=
 by rw [MakeChecks.laidMetH_plain _ _ _ (by kernel_rfl)]; exact laidMet_laidAll _ (by kernel_rfl) (by kernel_rfl)
set_option maxRecDepth 100000 in
theorem lifted (os : Os) (started : os.Started) (H : Type) (enc : TypeId × Value → H) :
  ReturnsInHanded {} Tryz.checked os 3 .any (fun w args => (Rows.fnExactChainOfSpec.pre enc Tryz.prog Tryz.f3 [] false w args ∧ laidMetH Tryz.prog Rows.fnExactChainOfRow.laid w) ∧ sizedMet enc Tryz.prog Tryz.f3 (OpenSpec.ofChange Rows.fnExactChainOfSpec) false w args)
   (Rows.fnExactChainOfSpec.post enc Tryz.prog Tryz.f3 false true false false) := by
 refine returnsInHanded_of_change_and (C := Tryz.checked) (X := fun w _ => laidMetH Tryz.prog Rows.fnExactChainOfRow.laid w) (fun _ _ _ hh h => h.of_heap hh) own started (by kernel_rfl) Tryz.func3
  (ChangeSpec.witness_shaped (enc := enc) (C := Tryz.checked) (os := os) (X := fun w _ => laidMetH Tryz.prog Rows.fnExactChainOfRow.laid w) false (World.laidAll Tryz.prog os Rows.fnExactChainOfRow.laid) #[.agg #[.int .i64 0, .slice none 0 0, .slice none 0 0, .int .i64 0, .int .i64 0, .int .i64 0, .slice none 0 0, .int .i64 0, .int .i64 0, .int .i64 0, .int .i64 0, .int .i64 0, .int .i64 0, .int .i64 0, .int .i64 0, .int .i64 0, .bool false, .int .i64 0, .int .i64 0, .int .i64 0, .int .i64 0, .int .i64 0, .int .i64 0, .int .i64 0, .int .i64 0, .bool false, .int .i64 0, .int .i64 0, .slice none 0 0, .slice none 0 0, .slice none 0 0, .slice none 0 0, .slice none 0 0, .slice none 0 0], .slice none 0 0, .slice none 0 0, .slice none 0 0] 8 (World.laidAll_os _ _ _) (World.shaped_of_ZipB (by kernel_rfl) (by kernel_rfl)) (by kernel_rfl) (by kernel_rfl) (by kernel_rfl) (door_met os _)) ?_
 intro W base args ds gs before hval hW _ _ _ _
 exact law_calls (P := Tryz.prog) (s := Rows.fnExactChainOfSpec) (fn := Tryz.f3) (by kernel_rfl) lawArgs law_ok (by kernel_rfl) (tb := 4) rfl Tryz.underlying4 rfl
  (fun ds h => match ds, h with | [_, _, _, _], _ => ⟨rfl, rfl, rfl⟩) hval hW
theorem row_holds : Rows.FnExactChainOfSaid :=
 OpenClaim.holds_of_wide 3 Tryz.f3 rfl rfl rfl rfl rfl rfl rfl ⟨rfl, rfl, rfl, rfl, rfl⟩ rfl rfl rfl rfl rfl (by kernel_rfl) Tryz.func3 (by kernel_rfl)
  (of_decide_eq_true (by kernel_rfl)) (by unfold Func.isWrapper; first | (rw [if_pos (by decide +kernel)]; kernel_rfl) | (rw [if_neg (by decide +kernel)]; exact ⟨rfl, rfl⟩))
  (fun os started H enc _ => lifted os started H enc)
theorem fnExactChainOf_holds : Rows.FnExactChainOfCardSaid :=
 Claim7.holds_tied_plain_at .later [] [.data, .pinned] true (true, "4b8406242917178e7eeae33c6e9d226783a01d9aa9f1b008fec2ed99c2931345") false
  row_holds (fun _ h => by cases h) (by kernel_rfl) (fun _ h => by cases h) fnExactChainOf_row_tie rfl ⟨rfl, rfl⟩ (by kernel_rfl) rfl
  (fun f fn hf hfn => by
   obtain rfl : f = 3 := Option.some.inj ((show Tryz.prog.funcNamed "loop.example/g00148/laws.FnExactChainOf" = some 3 by kernel_rfl).symm.trans hf) |>.symm
   obtain rfl : fn = Tryz.f3 := (Option.some.inj (Tryz.func3.symm.trans hfn)).symm
   exact ⟨by kernel_rfl, fun j t ht => by
    have hp : Tryz.f3.params = #[39, 40, 40, 23] := by kernel_rfl
    rw [hp] at ht
    have hm : t ∈ [39, 40, 40, 23] := by simpa using Array.mem_of_getElem? ht
    have hall : ([39, 40, 40, 23].all fun u => !Tryz.prog.wantsStandIn u) = true := by kernel_rfl
    exact (show Tryz.prog.wantsStandIn t = false by simpa using List.all_eq_true.1 hall t hm)⟩)
  (by kernel_rfl)
#print axioms fnExactChainOf_holds
end Go.Proofs.YtnckgoabpeagaadGreatDoor
