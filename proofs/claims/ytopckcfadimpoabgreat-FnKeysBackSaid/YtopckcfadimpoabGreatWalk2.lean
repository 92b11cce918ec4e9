import Derived.Lib.Strings
import Derived.Test.YtopckcfadimpoabGreatWalk1
set_option linter.unusedVariables false
set_option linter.unusedSimpArgs false
namespace Go.Proofs.W
open Go Go.AM
set_option maxRecDepth 10000
variable (hm : Tryz.prog.follows .mixedOrders = true)
def txB (l : List Int) : ByteArray := ⟨((l.map u8A).map AM.byteOf).toArray⟩
theorem txB_list (l : List Int) : (txB l).data.toList = l.map fun n => UInt8.ofNat n.toNat := by
 unfold txB
 rw [List.map_map]
 rfl
theorem all_bytes {l : List Int} (h : BytesOk l) : (l.map u8A).all isByte = true := by
 rw [List.all_map, List.all_eq_true]
 intro x hx
 simpa [u8A, isByte] using h x hx
theorem bytesI_txB {l : List Int} (h : BytesOk l) : bytesI (txB l) = l := by
 rw [bytesI, txB_list, List.map_map]
 refine (List.map_congr_left (g := id) ?_).trans (List.map_id _)
 intro x hx
 have := h x hx
 simp only [Function.comp_apply, id_eq, UInt8.toNat_ofNat']
 omega
theorem same_tx {A B : List Int} (hA : BytesOk A) (hB : BytesOk B) : ((txB A).toList == (txB B).toList) = decide (A = B) := by
 by_cases h : A = B
 ·subst h; simp
 ·have : ¬ (txB A).toList = (txB B).toList := by
   rw [Lib.toList_data, Lib.toList_data]
   intro e
   apply h
   rw [← bytesI_txB hA, ← bytesI_txB hB, bytesI, bytesI, e]
  simp [h, this]
theorem txB_eq (l : List Int) : (⟨((l.map u8A).map AM.byteOf).toArray⟩ : ByteArray) = txB l := rfl
include hm in
theorem bytesEqual (A B : List Int) (hA : BytesOk A) (hB : BytesOk B) : Holds Tryz.prog 65 [.sl .sh (A.map u8A), .sl .sh (B.map u8A)] [] (.v (.bool (decide (A = B)))) [] := by
 have a1 := all_bytes hA
 have a2 := all_bytes hB
 rw [← same_tx hA hB]
 refine holds_of (ann := []) tabOk hm Tryz.func65 (by kernel_rfl) rfl ?_
 simp +decide (maxSteps := 9^7) only [↓reduceIte, Tryz.f65, a1, a2, txB_eq, go_sem]
 exact Runs.ret_refl
def kidsN : Nd → List Nd
 | .mk _ _ ks => ks
def bodyN : Nd → List Int
 | .mk _ b _ => b
def tagN : Nd → Int
 | .mk t _ _ => t
def kidAt (n : Nd) (i : Nat) : Nd := (kidsN n).getD i (.mk 0 [] [])
set_option maxHeartbeats 4000000 in
include hm in
theorem kid (n : Nd) (i : Nat) (hi : i ≤ 1000) (hk : (kidsN n).length ≤ 1000000) : Holds Tryz.prog 54 [nodeS n, .v (.int .i64 i)] [] (nodeS (kidAt n i)) [] := by
 obtain ⟨t, b, ks⟩ := n
 simp only [kidsN] at hk
 have hl := nodesS_length ks
 have d1 : decide ((i : Int) < 0) = false := by simp
 simp only [nodeS]
 refine holds_of (ann := []) tabOk hm Tryz.func54 (by kernel_rfl) rfl ?_
 by_cases h : i < ks.length
 ·have d2 : decide ((i : Int) ≥ (ks.length : Int)) = false := by simp; omega
  have d3 : decide (0 ≤ (i : Int) ∧ (i : Int) < (ks.length : Int)) = true := by simp; omega
  have e : kidAt (.mk t b ks) i = ks[i] := by simp [kidAt, kidsN, List.getD, h]
  have hg := nodesS_get h
  rw [e]
  generalize ks[i] = x at *
  obtain ⟨t', b', k'⟩ := x
  simp only [nodeS] at hg ⊢
  simp +decide (maxSteps := 9^7) only [↓reduceIte, Tryz.f54, d1, d2, d3, hl, hg, Int.toNat_natCast, go_sem]
  exact Runs.ret_refl
 ·have d2 : decide ((i : Int) ≥ (ks.length : Int)) = true := by simp; omega
  have e : kidAt (.mk t b ks) i = .mk 0 [] [] := by simp [kidAt, kidsN, List.getD, h]
  rw [e]
  simp +decide (maxSteps := 9^7) only [↓reduceIte, Tryz.f54, d1, d2, hl, go_sem]
  exact Runs.ret (.agg (.same _ (.nils _ (.nils _ .nil))) .nil) rfl
set_option maxHeartbeats 4000000 in
include hm in
theorem behind (n : Nd) (hk : (bodyN n).length ≤ 1048576) : Holds Tryz.prog 60 [nodeS n] [] (.sl (.ow 1) (((bodyN n).drop 1).map u8A)) [] := by
 obtain ⟨t, b, ks⟩ := n
 simp only [bodyN] at hk ⊢
 have hb : (b.map u8A).length = b.length := List.length_map _
 have cb := cloneB hm (b.drop 1) (by simp; omega)
 have ha : decide ((0 : Int) ≤ (if (b.length : Int) < 1 then (b.length : Int) else 1) ∧ (if (b.length : Int) < 1 then (b.length : Int) else 1) ≤ b.length ∧ (b.length : Int) ≤ b.length) = true := by
  rw [decide_eq_true_eq]; split <;> omega
 have hb2 : (b.map u8A).drop (if (b.length : Int) < 1 then (b.length : Int) else 1).toNat = (b.drop 1).map u8A := by
  rw [List.map_drop]
  split
  ·have : b = [] := List.length_eq_zero_iff.mp (by omega)
   subst this; rfl
  ·rfl
 rw [nodeS]
 refine holds_of (ann := []) tabOk hm Tryz.func60 (by kernel_rfl) rfl ?_
 simp +decide (maxSteps := 9^7) only [Tryz.f60, hb, ha, hb2, go_sem]
 refine Runs.call cb ?_
 simp +decide (maxSteps := 9^7) only [go_sem]
 exact Runs.ret_refl
end Go.Proofs.W

namespace Go.Proofs.W
open Go Go.AM
variable (hm : Tryz.prog.follows .mixedOrders = true)
def sx (x : Int) : Int := if 127 < x then x - 256 else x
def foldK (b : List Int) : Nat → Int
 | 0 => sx (bt b 0)
 | k + 1 => foldK b k * 256 + bt b (k + 1)
def intRd (b : List Int) : Int × Bool := if 1 ≤ b.length ∧ b.length ≤ 8 then (if intB (foldK b (b.length - 1)) = b then (foldK b (b.length - 1), true) else (0, false)) else (0, false)
theorem foldK_in {b : List Int} (hb : BytesOk b) : ∀ k, -(128 * 256 ^ k) ≤ foldK b k ∧ foldK b k < 128 * 256 ^ k
 | 0 => by
  have := bt_rng hb 0
  simp only [foldK, sx]
  split <;> simp <;> omega
 | k + 1 => by
  have h1 := foldK_in hb k
  have h2 := bt_rng hb (k + 1)
  have e : (256 : Int) ^ (k + 1) = 256 ^ k * 256 := Int.pow_succ _ _
  rw [foldK, e]
  generalize (256 : Int) ^ k = q at *
  omega
theorem pow256_le : ∀ k : Nat, k ≤ 7 → (256 : Int) ^ k ≤ 72057594037927936
 | 0, _ => by decide
 | 1, _ => by decide
 | 2, _ => by decide
 | 3, _ => by decide
 | 4, _ => by decide
 | 5, _ => by decide
 | 6, _ => by decide
 | 7, _ => by decide
 | k + 8, h => by omega
theorem foldK_64 {b : List Int} (hb : BytesOk b) {k : Nat} (hk : k ≤ 7) : -9223372036854775808 ≤ foldK b k ∧ foldK b k < 9223372036854775808 := by
 have h1 := foldK_in hb k
 have h2 := pow256_le k hk
 omega
theorem or64 {m x : Int} (h1 : -9223372036854775808 ≤ m * 256) (h2 : m * 256 < 9223372036854775808) (h3 : 0 ≤ x) (h4 : x < 256) : orI .i64 (m * 256) x = m * 256 + x := by
 show IntKind.i64.wrap ((BitVec.ofInt 64 (m * 256) ||| BitVec.ofInt 64 x).toNat : Int) = m * 256 + x
 obtain ⟨y, rfl⟩ := Int.eq_ofNat_of_zero_le h3
 obtain ⟨q, hq⟩ : ∃ q : Nat, (q : Int) = m % 72057594037927936 := ⟨(m % 72057594037927936).toNat, by omega⟩
 have e1 : (BitVec.ofInt 64 (m * 256)).toNat = q * 256 := by
  rw [BitVec.toNat_ofInt]
  show ((m * 256) % 18446744073709551616).toNat = q * 256
  omega
 have e2 : (BitVec.ofInt 64 (y : Int)).toNat = y := by
  rw [BitVec.ofInt_natCast, BitVec.toNat_ofNat, Nat.mod_eq_of_lt (by omega)]
 rw [BitVec.toNat_or, e1, e2]
 have := Nat.shiftLeft_add_eq_or_of_lt (a := q) (b := y) (i := 8) (by omega)
 rw [Nat.shiftLeft_eq] at this
 rw [show q * 256 = q * 2 ^ 8 from rfl, ← this]
 show (if (true && decide (((q * 2 ^ 8 + y : Nat) : Int) % 18446744073709551616 ≥ 9223372036854775808)) = true then ((q * 2 ^ 8 + y : Nat) : Int) % 18446744073709551616 - 18446744073709551616 else ((q * 2 ^ 8 + y : Nat) : Int) % 18446744073709551616) = _
 simp only [Bool.true_and, decide_eq_true_eq]
 split <;> omega
theorem ib_mod (x : Int) : ib x = x % 256 := by
 show (if (false && decide (x % 256 ≥ 128)) = true then x % 256 - 256 else x % 256) = x % 256
 simp
theorem tailB_bt (n : Int) : ∀ (k j : Nat), j ≤ k → bt (tailB n k) j = ib (n / 256 ^ (k - j))
 | 0, j, h => by
  have : j = 0 := by omega
  subst this; rfl
 | k + 1, 0, h => by rw [tailB_succ]; rfl
 | k + 1, j + 1, h => by
  rw [tailB_succ]
  have e : k + 1 - (j + 1) = k - j := by omega
  rw [e, ← tailB_bt n k j (by omega)]
  rfl
theorem foldK_tail (n : Int) (k : Nat) (hs : smallK n k = true) : ∀ j, j ≤ k → foldK (tailB n k) j = n / 256 ^ (k - j)
 | 0, _ => by
  simp only [smallK, Bool.and_eq_true, decide_eq_true_eq] at hs
  rw [foldK, tailB_bt n k 0 (by omega), ib_mod, sx, Nat.sub_zero]
  split <;> omega
 | j + 1, h => by
  rw [foldK, foldK_tail n k hs j (by omega), tailB_bt n k (j + 1) h, ib_mod]
  have e : k - j = (k - (j + 1)) + 1 := by omega
  rw [e, ← div256]
  omega
theorem firstK_small (n : Int) : ∀ f k, smallK n (k + f) = true → smallK n (firstK n f k) = true
 | 0, k, h => h
 | f + 1, k, h => by
  rw [firstK]
  split
  ·assumption
  ·exact firstK_small n f (k + 1) (by rw [show k + 1 + f = k + (f + 1) by omega]; exact h)
theorem intB_fold {n : Int} (h1 : -9223372036854775808 ≤ n) (h2 : n < 9223372036854775808) : foldK (intB n) ((intB n).length - 1) = n := by
 have hs := firstK_small n 7 0 (small7 h1 h2)
 rw [intB, tailB_length, show kB n + 1 - 1 = kB n from rfl, foldK_tail n (kB n) hs (kB n) (Nat.le_refl _), Nat.sub_self]
 simp
theorem intRd_intB {n : Int} (h1 : -9223372036854775808 ≤ n) (h2 : n < 9223372036854775808) : intRd (intB n) = (n, true) := by
 have hl : (intB n).length = kB n + 1 := tailB_length _ _
 have hk := kB_le n
 rw [intRd, if_pos (by omega), intB_fold h1 h2, if_pos rfl]
theorem intB_ok (n : Int) : BytesOk (intB n) := by
 intro x hx
 simp only [intB, tailB, List.mem_map] at hx
 obtain ⟨i, _, rfl⟩ := hx
 rw [ib_mod]; omega
end Go.Proofs.W

namespace Go.Proofs.W
open Go Go.AM
variable (hm : Tryz.prog.follows .mixedOrders = true)
theorem wsh (x : Int) (h1 : -9223372036854775808 ≤ x * 256) (h2 : x * 256 < 9223372036854775808) : IntKind.i64.wrap (x * 2 ^ 8) = x * 256 := wrap_i64 h1 h2
theorem mn8 : min (Int.toNat 8) 64 = 8 := rfl
theorem foldK_256 {b : List Int} (hb : BytesOk b) {k : Nat} (hk : k ≤ 6) : -9223372036854775808 ≤ foldK b k * 256 ∧ foldK b k * 256 < 9223372036854775808 := by
 have h1 := foldK_in hb k
 have h2 : (256 : Int) ^ k ≤ 281474976710656 := by
  have e : (256 : Int) ^ (k + 1) = 256 ^ k * 256 := Int.pow_succ _ _
  have := pow256_le (k + 1) (by omega)
  omega
 omega
def iRiAnn : Ann := [(0, [0, 4, 17, 18, 19])]
def iRiSt (b : List Int) (k : Nat) : St := ⟨[.sl .sh (b.map u8A), .any, .any, .any, .v (.int .i64 (foldK b k)), .any, .any, .any, .any, .any, .any, .any, .any, .any, .any, .any, .any, .sl .sh ((b.drop 1).map u8A), .v (.int .i64 ((b.length - 1 : Nat) : Int)), .v (.int .i64 k), .any, .any, .any, .any, .any, .any, .any, .any, .any, .any, .any, .any, .any, .any, .any], [], []⟩
set_option maxRecDepth 10000 in
set_option maxHeartbeats 4000000 in
include hm in
theorem iReadInt (b : List Int) (hb : BytesOk b) (hl : b.length ≤ 1073741824) : Holds Tryz.prog 94 [.sl .sh (b.map u8A)] [] (.tup [.v (.int .i64 (intRd b).1), .v (.bool (intRd b).2)]) [] := by
 have hlen : (b.map u8A).length = b.length := List.length_map _
 have ci := within hm b.length 1 8
 refine holds_of (ann := iRiAnn) tabOk hm Tryz.func94 (by kernel_rfl) rfl ?_
 simp +decide (maxSteps := 9^7) only [↓reduceIte, Tryz.f94, hlen, go_sem]
 refine Runs.call ci ?_
 cases hi : inB b.length 1 8
 ·have h : ¬ (1 ≤ b.length ∧ b.length ≤ 8) := by simp [inB] at hi; omega
  simp +decide (maxSteps := 9^7) only [↓reduceIte, go_sem]
  exact Runs.ret_eq (by rw [intRd, if_neg h])
 have h : 1 ≤ b.length ∧ b.length ≤ 8 := by simp [inB] at hi; omega
 have g0 := bt_get (b := b) (i := 0) (by omega)
 have x0 := bt_rng hb 0
 have tz : Int.toNat 0 = 0 := rfl
 have t1 : Int.toNat 1 = 1 := rfl
 have r0 : decide ((0 : Int) < (b.length : Int)) = true := by simp; omega
 have r1 : decide ((1 : Int) ≤ (b.length : Int) ∧ (b.length : Int) ≤ (b.length : Int)) = true := by simp; omega
 have kz : IntKind.i64.wrap (IntKind.i8.wrap (bt b 0)) = foldK b 0 := by
  have e : IntKind.i8.wrap (bt b 0) = sx (bt b 0) := by
   show (if (true && decide (bt b 0 % 256 ≥ 128)) = true then bt b 0 % 256 - 256 else bt b 0 % 256) = sx (bt b 0)
   simp only [Bool.true_and, decide_eq_true_eq, sx]
   split <;> split <;> omega
  rw [e, foldK]
  exact wrap_i64 (by unfold sx; split <;> omega) (by unfold sx; split <;> omega)
 have hd : (b.map u8A).drop 1 = (b.drop 1).map u8A := (List.map_drop).symm
 have hld : ((b.drop 1).map u8A).length = b.length - 1 := by simp
 have hB := h
 clear hi h
 simp +decide (maxSteps := 9^7) only [↓reduceIte, hlen, tz, t1, g0, r0, r1, kz, hd, hld, go_sem]
 refine Runs.while (α := Nat) (iRiSt b) (fun k => b.length - k) (fun k => k + 1 ≤ b.length) 0 (by omega) ?_ ?_
 ·simp [go_sem, iRiAnn, iRiSt, hd]; try omega
 ·intro k hk ih
  have hf := foldK_64 hb (k := k) (by omega)
  simp +decide (maxSteps := 9^7) only [↓reduceIte, iRiSt, hlen, hld, go_sem]
  refine Runs.split (fun h => ?_) (fun h => ?_)
  ·have hlt : k + 1 < b.length := by simp at h; omega
   have g := (show ((b.drop 1).map u8A).getD k .any = .v (.int .u8 (bt b (k + 1))) by rw [← hd]; have := bt_get (b := b) (i := k + 1) (by omega); rw [← this]; simp [List.getD, Nat.add_comm])
   have x := bt_rng hb (k + 1)
   have kx : IntKind.i64.wrap (bt b (k + 1)) = bt b (k + 1) := wrap_i64 (by omega) (by omega)
   have hq := foldK_256 hb (k := k) (by omega)
   have hw := wsh (foldK b k) hq.1 hq.2
   have ho : orI .i64 (foldK b k * 256) (bt b (k + 1)) = foldK b (k + 1) := or64 hq.1 hq.2 x.1 x.2
   have r := (show decide (0 ≤ (k : Int) ∧ (k : Int) < ((b.length - 1 : Nat) : Int)) = true by simp; omega)
   have wi := (show IntKind.i64.wrap ((k : Int) + 1) = ((k + 1 : Nat) : Int) by rw [wrap_i64 (by omega) (by omega)]; rfl)
   simp +decide (maxSteps := 9^7) only [↓reduceIte, hlen, g, kx, mn8, hw, ho, r, wi, hld, Int.toNat_natCast, go_sem]
   refine ih (k + 1) _ (by omega) (by omega) ?_
   simp [go_sem, iRiAnn, iRiSt]
  ·have hge : b.length - 1 = k := by simp at h; omega
   have c1 := iIntBytes hm (foldK b k) hf.1 hf.2
   have c2 := bytesEqual hm (intB (foldK b k)) b (intB_ok _) hb
   have hr : intRd b = if intB (foldK b k) = b then (foldK b k, true) else (0, false) := by rw [intRd, if_pos hB, hge]
   rw [hr]
   simp +decide (maxSteps := 9^7) only [↓reduceIte, go_sem]
   refine Runs.call c1 ?_
   simp +decide (maxSteps := 9^7) only [↓reduceIte, dn_u8A, go_sem]
   refine Runs.call c2 ?_
   by_cases he : intB (foldK b k) = b
   ·have d : decide (intB (foldK b k) = b) = true := by simpa using he
    rw [if_pos he]
    simp +decide (maxSteps := 9^7) only [↓reduceIte, d, go_sem]
    exact Runs.ret_refl
   ·have d : decide (intB (foldK b k) = b) = false := by simpa using he
    rw [if_neg he]
    simp +decide (maxSteps := 9^7) only [↓reduceIte, d, go_sem]
    exact Runs.ret_refl
def numOf (b : List Int) : Int := (intRd b).1
set_option maxRecDepth 10000 in
include hm in
theorem intNode (n : Nd) (hb : BytesOk (bodyN n)) (hl : (bodyN n).length ≤ 1073741824) : Holds Tryz.prog 55 [nodeS n] [] (.v (.int .i64 (numOf (bodyN n)))) [] := by
 obtain ⟨t, b, ks⟩ := n
 simp only [bodyN] at hb hl ⊢
 have c := iReadInt hm b hb hl
 rw [nodeS]
 refine holds_of (ann := []) tabOk hm Tryz.func55 (by kernel_rfl) rfl ?_
 simp +decide (maxSteps := 9^7) only [↓reduceIte, Tryz.f55, go_sem]
 refine Runs.call c ?_
 simp +decide (maxSteps := 9^7) only [↓reduceIte, go_sem]
 exact Runs.ret_refl
end Go.Proofs.W

namespace Go.Proofs.W
open Go Go.AM Go.Proofs.G
set_option maxRecDepth 10000
variable (hm : Tryz.prog.follows .mixedOrders = true)
def nbAt (N : List Int) (size j : Nat) : Int := IntKind.u8.wrap ((N.getD ((size - 1 - j) / 2) 0).fdiv (2 ^ (8 * ((size - 1 - j) % 2))))
def natBy (N : List Int) (size : Nat) : List Int := (List.range size).map (nbAt N size)
theorem natBy_length (N : List Int) (size : Nat) : (natBy N size).length = size := by simp [natBy]
include hm in
theorem l1Digit (N : List Int) (i : Nat) (h3 : N.length ≤ 9223372036854775807) : Holds Tryz.prog 116 [.sl .sh (N.map intA), .v (.int .i64 i)] [] (.v (.int .i64 (N.getD i 0))) [] := by
 refine holds_of (ann := []) tabOk hm Tryz.func116 (by kernel_rfl) rfl ?_
 have hl : (N.map intA).length = N.length := List.length_map _
 simp +decide only [Tryz.f116, hl, go_sem]
 refine Runs.split (fun h => ?_) (fun h => ?_)
 ·have hlt : i < N.length := by simpa using h
  have hg := getIntA hlt
  simp +decide (disch := first | omega | (simp only [ll]; omega)) only [hl, hg, if_pos, go_sem]
  exact Runs.ret_v
 ·have hge : N.length ≤ i := by simpa using h
  simp +decide only [go_sem]
  exact Runs.ret_eq (by simp [List.getD, List.getElem?_eq_none hge])
def nbPre (N : List Int) (size j : Nat) : List A := ((List.range j).map (nbAt N size)).map u8A
theorem nbPre_length (N : List Int) (size j : Nat) : (nbPre N size j).length = j := by simp [nbPre]
theorem nbPre_succ (N : List Int) (size j : Nat) : nbPre N size j ++ [u8A (nbAt N size j)] = nbPre N size (j + 1) := by simp [nbPre, List.range_succ]
def snbAnn : Ann := [(0, [0, 6, 7])]
def snbSt (N : List Int) (size : Nat) (j : Nat) : St := ⟨[.sl .sh (N.map intA), .any, .any, .any, .any, .any, .ms (.l 0) 0 j j, .v (.int .i64 ((size : Int) - 1 - j)), .any, .any, .any, .any, .any, .any, .any, .any, .any, .any, .any, .any, .any, .any, .any, .any, .any, .any, .any, .any, .any, .any, .any, .any, .any, .any, .any, .any, .any, .any, .any, .any, .any, .any, .any, .any], [(0, ⟨true, 1, false, nbPre N size j⟩)], []⟩
set_option maxHeartbeats 4000000 in
include hm in
theorem sNatBytes (N : List Int) (size : Nat) (hN : natB N = true) (h1 : size ≤ 128) (h2 : bitsZ N ≤ 8 * (size : Int)) :
  Holds Tryz.prog 112 [.sl .sh (N.map intA), .v (.int .i64 size)] [] (.tup [.sl (.ow 1) ((natBy N size).map u8A), .v (.bool true)]) [] := by
 have hl64 : N.length ≤ 64 := by
  simp only [natB, Bool.and_eq_true, decide_eq_true_eq] at hN
  omega
 have hok := sNatOk hm N (by omega)
 rw [hN] at hok
 have hin : inB (size : Int) 0 128 = true := by simp [inB]; omega
 have hw := l1In hm (size : Int) 0 128
 rw [hin] at hw
 have hd : decide (bitsZ N > 8 * (size : Int)) = false := by simp; omega
 refine holds_of (ann := snbAnn) tabOk hm Tryz.func112 (by kernel_rfl) rfl ?_
 simp +decide only [Tryz.f112, go_sem]
 refine Runs.call hok ?_
 simp +decide only [go_sem]
 refine Runs.call hw ?_
 simp +decide only [go_sem]
 refine Runs.call (l1Bits hm N hN) ?_
 simp +decide (disch := first | omega | (simp only [ll]; omega)) only [hd, if_pos, go_sem]
 refine Runs.while (α := Nat) (snbSt N size) (fun j => size - j) (fun j => j ≤ size) 0 (by omega) ?_ ?_
 ·simp [go_sem, snbAnn, snbSt, nbPre]
 ·intro j hj ih
  have hlen := nbPre_length N size j
  simp +decide only [snbSt, hlen, go_sem]
  refine Runs.split (fun h => ?_) (fun h => ?_)
  ·have hlt : j < size := by simp at h; omega
   have e1 : (size : Int) - 1 - j = ((size - 1 - j : Nat) : Int) := by omega
   have e2 : ((size : Int) - 1 - j).tdiv 2 = (((size - 1 - j) / 2 : Nat) : Int) := by rw [e1]; rfl
   have e3 : ((size : Int) - 1 - j).tmod 2 = (((size - 1 - j) % 2 : Nat) : Int) := by rw [e1]; rfl
   have hdg := l1Digit hm N ((size - 1 - j) / 2) (by omega)
   have e4 : min (8 * (((size - 1 - j) % 2 : Nat) : Int)).toNat 64 = 8 * ((size - 1 - j) % 2) := by omega
   have e5 : decide (0 ≤ 8 * (((size - 1 - j) % 2 : Nat) : Int)) = true := by simp; omega
   have hs := nbPre_succ N size j
   simp only [u8A, nbAt] at hs
   simp +decide (disch := first | omega | (simp only [ll]; omega)) only [hlen, e2, e3, if_pos, go_sem]
   refine Runs.call hdg ?_
   simp +decide (disch := first | omega | (simp only [ll]; omega)) only [hlen, e2, e3, e4, e5, IntKind.bits, hs, if_pos, go_sem]
   refine ih (j + 1) _ (by omega) hlt ?_
   simp [go_sem, snbAnn, snbSt]
   omega
  ·have hge : j = size := by simp at h; omega
   subst hge
   have ht : List.take j (nbPre N j j) = (natBy N j).map u8A := List.take_of_length_le (by rw [hlen]; exact Nat.le_refl _)
   simp +decide only [hlen, ht, go_sem]
   exact Runs.ret_refl
def nbI (N : List Int) (size i : Nat) : List A := (List.range size).map fun j => if size ≤ j + 2 * i then u8A (nbAt N size j) else u8A 0
theorem nbI_length (N : List Int) (size i : Nat) : (nbI N size i).length = size := by simp [nbI]
theorem nbI_zero (N : List Int) (size : Nat) : nbI N size 0 = List.replicate size (.v (.int .u8 0)) := by
 apply List.ext_getElem
 ·simp [nbI]
 ·intro j h1 h2
  simp [nbI] at h1
  simp [nbI, u8A, show ¬ size ≤ j by omega]
theorem nbI_get (N : List Int) (size i k : Nat) (h : k < size) (h2 : k + 2 * i < size) : (nbI N size i).getD k .any = .v (.int .u8 0) := by
 simp [nbI, List.getD, h, show ¬ size ≤ k + 2 * i by omega, u8A]
theorem nbI_one (N : List Int) (size i : Nat) (h : size = 2 * i + 1) : (nbI N size i).set 0 (u8A (nbAt N size 0)) = nbI N size (i + 1) := by
 apply List.ext_getElem
 ·simp [nbI]
 ·intro j h1 h2
  simp [nbI] at h1 h2
  simp only [List.getElem_set, nbI, List.getElem_map, List.getElem_range]
  by_cases hj : 0 = j
  ·subst hj; rw [if_pos rfl, if_pos (by omega)]
  ·rw [if_neg hj, if_pos (by omega), if_pos (by omega)]
theorem nbI_two (N : List Int) (size i K : Nat) (h : K + 2 + 2 * i = size) : ((nbI N size i).set (K + 1) (u8A (nbAt N size (K + 1)))).set K (u8A (nbAt N size K)) = nbI N size (i + 1) := by
 apply List.ext_getElem
 ·simp [nbI]
 ·intro j h1 h2
  simp [nbI] at h1 h2
  simp only [List.getElem_set, nbI, List.getElem_map, List.getElem_range]
  by_cases hj : K = j
  ·subst hj; rw [if_pos rfl, if_pos (by omega)]
  ·rw [if_neg hj]
   by_cases hk : K + 1 = j
   ·subst hk; rw [if_pos rfl, if_pos (by omega)]
   ·rw [if_neg hk]
    by_cases h3 : size ≤ j + 2 * i
    ·rw [if_pos h3, if_pos (by omega)]
    ·rw [if_neg h3, if_neg (by omega)]
theorem nbAt_lo (N : List Int) (size i K : Nat) (h : K + 1 + 2 * i = size) : nbAt N size K = IntKind.u8.wrap (N.getD i 0) := by
 rw [nbAt, show (size - 1 - K) / 2 = i by omega, show (size - 1 - K) % 2 = 0 by omega]
 simp
theorem nbAt_hi (N : List Int) (size i K : Nat) (h : K + 2 + 2 * i = size) : nbAt N size K = IntKind.u8.wrap ((N.getD i 0).fdiv (2 ^ 8)) := by
 rw [nbAt, show (size - 1 - K) / 2 = i by omega, show (size - 1 - K) % 2 = 1 by omega]
theorem nbI_all (N : List Int) (size : Nat) : nbI N size N.length = (natBy N size).map u8A := by
 apply List.ext_getElem
 ·simp [nbI, natBy]
 ·intro j h1 h2
  simp [nbI] at h1
  simp only [nbI, natBy, List.getElem_map, List.getElem_range]
  split
  ·rfl
  ·rename_i h
   have e : N.getD ((size - 1 - j) / 2) 0 = 0 := by
    rw [List.getD, List.getElem?_eq_none (by omega)]; rfl
   rw [nbAt, e, Int.zero_fdiv]
   rfl
theorem nat_fits {N : List Int} {size : Nat} (hN : natB N = true) (h2 : bitsZ N ≤ 8 * (size : Int)) : 2 * N.length ≤ size + 1 := by
 by_cases h0 : N.length = 0
 ·omega
 ·obtain ⟨t1, t2, t3⟩ := nat_top hN h0
  have : 1 ≤ blen (topD N).toNat := by
   unfold blen
   rw [dif_neg (by omega)]
   omega
  rw [bitsZ, if_neg h0] at h2
  omega
def inbAnn : Ann := [(0, [1, 6, 27, 28, 29])]
def inbSt (N : List Int) (size : Nat) (i : Nat) : St := ⟨[.any, .v (.int .i64 size), .any, .any, .any, .any, .ms (.l 0) 0 size size, .any, .any, .any, .any, .any, .any, .any, .any, .any, .any, .any, .any, .any, .any, .any, .any, .any, .any, .any, .any, .sl .sh (N.map intA), .v (.int .i64 N.length), .v (.int .i64 i), .any, .any, .any, .any, .any, .any, .any, .any, .any, .any, .any, .any, .any, .any, .any, .any, .any, .any, .any, .any, .any, .any, .any, .any, .any, .any, .any, .any], [(0, ⟨true, 1, false, nbI N size i⟩)], []⟩
set_option maxHeartbeats 4000000 in
include hm in
theorem iNatBytes (N : List Int) (size : Nat) (hN : natB N = true) (h1 : size ≤ 128) (h2 : bitsZ N ≤ 8 * (size : Int)) :
  Holds Tryz.prog 92 [.sl .sh (N.map intA), .v (.int .i64 size)] [] (.tup [.sl (.ow 1) ((natBy N size).map u8A), .v (.bool true)]) [] := by
 have hl64 : N.length ≤ 64 := by
  simp only [natB, Bool.and_eq_true, decide_eq_true_eq] at hN
  omega
 have hf := nat_fits hN h2
 have hok := iNatOk hm N (by omega)
 rw [hN] at hok
 have hin : inB (size : Int) 0 128 = true := by simp [inB]; omega
 have hw := within hm (size : Int) 0 128
 rw [hin] at hw
 have hd : decide (bitsZ N > 8 * (size : Int)) = false := by simp; omega
 have hl : (N.map intA).length = N.length := List.length_map _
 refine holds_of (ann := inbAnn) tabOk hm Tryz.func92 (by kernel_rfl) rfl ?_
 simp +decide only [Tryz.f92, go_sem]
 refine Runs.call hok ?_
 simp +decide only [go_sem]
 refine Runs.call hw ?_
 simp +decide only [go_sem]
 refine Runs.call (natBits hm N hN) ?_
 simp +decide (disch := first | omega | (simp only [ll]; omega)) only [hd, hl, if_pos, go_sem]
 refine Runs.while (α := Nat) (inbSt N size) (fun i => N.length - i) (fun i => i ≤ N.length) 0 (by omega) ?_ ?_
 ·simp [go_sem, inbAnn, inbSt, nbI_zero]
 ·clear hok hw hin hd hN h2
  intro i hi ih
  have hlen := nbI_length N size i
  simp +decide only [inbSt, hlen, hl, go_sem]
  refine Runs.split (fun h => ?_) (fun h => ?_)
  ·have hlt : i < N.length := by simpa using h
   have hg := getIntA hlt
   have wr : ∀ n : Int, -1000000 ≤ n → n ≤ 1000000 → IntKind.i64.wrap n = n := fun n h1 h2 => wrap_i64 (by omega) (by omega)
   have w1 := wr ((size : Int) - 1) (by omega) (by omega)
   have w2 := wr (2 * (i : Int)) (by omega) (by omega)
   have w3 := wr ((size : Int) - 1 - 2 * i) (by omega) (by omega)
   have w4 := wr ((size : Int) - 2) (by omega) (by omega)
   have w5 := wr ((size : Int) - 2 - 2 * i) (by omega) (by omega)
   have w6 := wr ((i : Int) + 1) (by omega) (by omega)
   have d1 : decide (0 ≤ (i : Int) ∧ (i : Int) < N.length) = true := by simp; omega
   have d2 : decide (0 ≤ (size : Int) - 1 - 2 * i ∧ (size : Int) - 1 - 2 * i < size) = true := by simp; omega
   by_cases h3 : 2 * i + 2 ≤ size
   ·obtain ⟨K, hK⟩ : ∃ K, K + 2 + 2 * i = size := ⟨size - 2 - 2 * i, by omega⟩
    have hx1 := nbAt_lo N size i (K + 1) (by omega)
    have hx2 := nbAt_hi N size i K hK
    have k1 : ((size : Int) - 1 - 2 * i).toNat = K + 1 := by omega
    have k2 : ((size : Int) - 2 - 2 * i).toNat = K := by omega
    have g1 := nbI_get N size i (K + 1) (by omega) (by omega)
    have hs := nbI_two N size i K hK
    rw [hx1, hx2] at hs
    simp only [u8A] at hs
    have hd2 : decide ((size : Int) - 2 - 2 * i ≥ 0) = true := by simp; omega
    have g2 := nbI_get N size i K (by omega) (by omega)
    have g3 : ((nbI N size i).set (K + 1) (.v (.int .u8 (IntKind.u8.wrap (N.getD i 0))))).getD K .any = .v (.int .u8 0) := by
     rw [List.getD, List.getElem?_set_ne (by omega)]; exact g2
    have d3 : decide (0 ≤ (size : Int) - 2 - 2 * i ∧ (size : Int) - 2 - 2 * i < size) = true := by simp; omega
    simp +decide (maxSteps := 9^7) only [hlen, hl, hg, Int.toNat_natCast, w1, w2, w3, w4, w5, w6, d1, d2, d3, k1, g1, hd2, k2, g3, s8, List.length_set, hs, go_sem]
    refine ih (i + 1) _ (by omega) (by omega) ?_
    simp [go_sem, inbAnn, inbSt]
   ·have e0 : size = 2 * i + 1 := by omega
    have hx1 := nbAt_lo N size i 0 (by omega)
    have k1 : ((size : Int) - 1 - 2 * i).toNat = 0 := by omega
    have g1 := nbI_get N size i 0 (by omega) (by omega)
    have hs := nbI_one N size i e0
    rw [hx1] at hs
    simp only [u8A] at hs
    have hd2 : decide ((size : Int) - 2 - 2 * i ≥ 0) = false := by simp; omega
    simp +decide (maxSteps := 9^7) only [hlen, hl, hg, Int.toNat_natCast, w1, w2, w3, w4, w5, w6, d1, d2, k1, g1, hd2, hs, go_sem]
    refine ih (i + 1) _ (by omega) (by omega) ?_
    simp [go_sem, inbAnn, inbSt]
  ·have hge : i = N.length := by simp at h; omega
   subst hge
   have ht : List.take size (nbI N size N.length) = (natBy N size).map u8A := by rw [List.take_of_length_le (by rw [hlen]; exact Nat.le_refl _), nbI_all]
   simp +decide only [hlen, ht, go_sem]
   exact Runs.ret_refl
end Go.Proofs.W

namespace Go.Proofs.W
open Go Go.AM
variable (hm : Tryz.prog.follows .mixedOrders = true)
set_option maxRecDepth 10000 in
include hm in
theorem bitsOf (B : List Int) (h : B.length ≤ 1073741823) : Holds Tryz.prog 50 [.sl .sh (B.map u8A)] [] (nodeO (.mk 3 (0 :: B) [])) [] := by
 refine holds_ref (ann := []) tabOk hm (byL [] [90]) Tryz.func50 (by kernel_rfl) rfl ?_
 simp +decide (disch := first | omega | (simp only [ll]; omega)) only [Tryz.f50, if_pos, go_sem]
 refine Runs.call' (as' := [.v (.int .i64 3), .sl (.ow 1) ((0 :: B).map u8A)]) (by simp [u8A]) (leaf hm 3 (0 :: B)) ?_
 simp +decide only [nodeO, nodesO, go_sem]
 exact Runs.ret_refl
end Go.Proofs.W

namespace Go.Proofs.W
open Go Go.AM Go.Proofs.G
set_option maxRecDepth 10000
variable (hm : Tryz.prog.follows .mixedOrders = true)
attribute [local go_sem] keyA edA prA cvA ptA
def natSz (N : List Int) : Nat := ((bitsZ N + 7) / 8).toNat
def padB : List Int → List Int
 | [] => [0]
 | x :: r => if x > 127 then 0 :: x :: r else x :: r
theorem padB_length (b : List Int) : (padB b).length ≤ b.length + 1 := by
 cases b with
 | nil => simp [padB]
 | cons x r => simp only [padB]; split <;> simp
theorem natSz_in {N : List Int} (h : inB (bitsZ N) 128 512 = true) : 16 ≤ natSz N ∧ natSz N ≤ 64 ∧ (bitsZ N + 7).tdiv 8 = natSz N ∧ bitsZ N ≤ 8 * (natSz N : Int) := by
 have := inB_t h
 unfold natSz
 refine ⟨by omega, by omega, ?_, by omega⟩
 rw [Int.tdiv_eq_ediv_of_nonneg (by omega)]
 omega
def natBB (N : List Int) : List Int := padB (natBy N (natSz N))
theorem natBB_le {N : List Int} (h : inB (bitsZ N) 128 512 = true) : (natBB N).length ≤ 65 := by
 have := padB_length (natBy N (natSz N))
 have := (natSz_in h).2.1
 rw [natBy_length] at *
 unfold natBB
 omega
theorem padU (x : Int) (r : List Int) : (if x > 127 then 0 :: x :: r else x :: r) = padB (x :: r) := rfl
set_option maxHeartbeats 1000000 in
include hm in
theorem l10Nat (N : List Int) (hN : natB N = true) (hb : inB (bitsZ N) 128 512 = true) : Holds Tryz.prog 81 [.sl .sh (N.map intA)] [] (.sl (.ow 3) [itemO ⟨2, natBB N, 0⟩]) [] := by
 obtain ⟨s1, s2, s3, s4⟩ := natSz_in hb
 have b1 := inB_t hb
 have hc := sNatBytes hm N (natSz N) hN (by omega) s4
 have hl := natBy_length N (natSz N)
 rw [natBB]
 generalize natBy N (natSz N) = B at *
 refine holds_ref (ann := []) tabOk hm (byL [] [84]) Tryz.func81 (by kernel_rfl) rfl ?_
 simp +decide only [Tryz.f81, go_sem]
 refine Runs.call (l1Bits hm N hN) ?_
 simp +decide (disch := first | omega | (simp only [ll]; omega)) only [s3, if_pos, go_sem]
 refine Runs.call hc ?_
 cases B with
 | nil => simp at hl; omega
 | cons x r =>
  simp only [List.map_cons, List.length_cons] at hl ⊢
  have hd : decide (((r.length + 1 : Nat) : Int) = 0) = false := by simp; omega
  have hd2 : decide ((0 : Int) < ((r.length + 1 : Nat) : Int)) = true := by simp
  by_cases g : x > 127
  ·have gd : decide (x > 127) = true := by simpa using g
   have hi := l10Item hm 2 (0 :: x :: r)
   have e : padB (x :: r) = 0 :: x :: r := by rw [padB, if_pos g]
   simp only [List.map_cons, u8A] at hi
   rw [e]
   simp +decide (disch := first | omega | (simp only [ll]; omega)) only [List.length_cons, List.length_map, hd, hd2, Int.toNat_zero, List.getD_cons_zero, gd, if_pos, go_sem]
   refine Runs.call hi ?_
   simp +decide (disch := first | omega | (simp only [ll]; omega)) only [itemO, if_pos, go_sem]
   exact Runs.ret_refl
  ·have gd : decide (x > 127) = false := by simpa using g
   have hi := l10Item hm 2 (x :: r)
   have e : padB (x :: r) = x :: r := by rw [padB, if_neg g]
   simp only [List.map_cons, u8A] at hi
   rw [e]
   simp +decide (disch := first | omega | (simp only [ll]; omega)) only [List.length_cons, List.length_map, hd, hd2, Int.toNat_zero, List.getD_cons_zero, gd, if_pos, go_sem]
   refine Runs.call hi ?_
   simp +decide (disch := first | omega | (simp only [ll]; omega)) only [itemO, if_pos, go_sem]
   exact Runs.ret_refl
set_option maxHeartbeats 1000000 in
include hm in
theorem natural (N : List Int) (hN : natB N = true) (hb : inB (bitsZ N) 128 512 = true) : Holds Tryz.prog 48 [.sl .sh (N.map intA)] [] (nodeO (.mk 2 (natBB N) [])) [] := by
 obtain ⟨s1, s2, s3, s4⟩ := natSz_in hb
 have b1 := inB_t hb
 have hc := iNatBytes hm N (natSz N) hN (by omega) s4
 have hl := natBy_length N (natSz N)
 rw [natBB]
 generalize natBy N (natSz N) = B at *
 refine holds_ref (ann := []) tabOk hm (byL [] [90]) Tryz.func48 (by kernel_rfl) rfl ?_
 simp +decide only [Tryz.f48, go_sem]
 refine Runs.call (natBits hm N hN) ?_
 simp +decide (disch := first | omega | (simp only [ll]; omega)) only [s3, if_pos, go_sem]
 refine Runs.call hc ?_
 cases B with
 | nil => simp at hl; omega
 | cons x r =>
  simp only [List.map_cons, List.length_cons] at hl ⊢
  have hd : decide (((r.length + 1 : Nat) : Int) = 0) = false := by simp; omega
  have hd2 : decide ((0 : Int) < ((r.length + 1 : Nat) : Int)) = true := by simp
  by_cases g : x > 127
  ·have gd : decide (x > 127) = true := by simpa using g
   have hi := leaf hm 2 (0 :: x :: r)
   have e : padB (x :: r) = 0 :: x :: r := by rw [padB, if_pos g]
   simp only [List.map_cons, u8A] at hi
   rw [e]
   simp +decide (disch := first | omega | (simp only [ll]; omega)) only [List.length_cons, List.length_map, hd, hd2, Int.toNat_zero, List.getD_cons_zero, gd, if_pos, go_sem]
   refine Runs.call hi ?_
   simp +decide (disch := first | omega | (simp only [ll]; omega)) only [nodeO, nodesO, if_pos, go_sem]
   exact Runs.ret_refl
  ·have gd : decide (x > 127) = false := by simpa using g
   have hi := leaf hm 2 (x :: r)
   have e : padB (x :: r) = x :: r := by rw [padB, if_neg g]
   simp only [List.map_cons, u8A] at hi
   rw [e]
   simp +decide (disch := first | omega | (simp only [ll]; omega)) only [List.length_cons, List.length_map, hd, hd2, Int.toNat_zero, List.getD_cons_zero, gd, if_pos, go_sem]
   refine Runs.call hi ?_
   simp +decide (disch := first | omega | (simp only [ll]; omega)) only [nodeO, nodesO, if_pos, go_sem]
   exact Runs.ret_refl
def threeB (x : Int) : List Int := [IntKind.u8.wrap (x.fdiv (2 ^ 16)), IntKind.u8.wrap (x.fdiv (2 ^ 8)), IntKind.u8.wrap x]
theorem s16' : min (16 : Int).toNat 64 = 16 := by decide
include hm in
theorem sThree (x : Int) : Holds Tryz.prog 113 [.v (.int .i64 x)] [] (.sl (.ow 1) ((threeB x).map u8A)) [] := by
 refine holds_of (ann := []) tabOk hm Tryz.func113 (by kernel_rfl) rfl ?_
 simp +decide only [Tryz.f113, s8, s16', IntKind.bits, threeB, List.map_cons, List.map_nil, go_sem]
 exact Runs.ret_refl
include hm in
theorem iThree (x : Int) : Holds Tryz.prog 93 [.v (.int .i64 x)] [] (.sl (.ow 1) ((threeB x).map u8A)) [] := by
 refine holds_of (ann := []) tabOk hm Tryz.func93 (by kernel_rfl) rfl ?_
 simp +decide only [Tryz.f93, s8, s16', IntKind.bits, threeB, List.map_cons, List.map_nil, go_sem]
 exact Runs.ret_refl
def ptBy (q : GPt) : List Int := 4 :: (threeB q.x ++ threeB q.y)
def spbS : Sched := .take 1 (.take 5 (.ld 2 (.ld 6 (.alt 0 (.alt 3 (.alt 4 (.alt 7 (.alt 8 (.take 9 (.take 10 .fin)) .nil) .nil) .nil) .nil) (.alt 3 (.alt 0 (.alt 4 (.alt 7 (.alt 8 (.take 9 (.take 10 .fin)) .nil) .nil) .nil) .nil) .nil)))))
attribute [local go_sem] spbS
set_option maxHeartbeats 1000000 in
include hm in
theorem sPointBytes (k : GCv) (q : GPt) (h : (curveB k && onZ k.p k.a k.b q) = true) (hf : q.far = false) :
  Holds Tryz.prog 82 [cvA k, ptA q, .v (.bool false)] [] (.tup [.sl (.ow 1) ((ptBy q).map u8A), .v (.bool true)]) [] := by
 have hc := sPointOk hm k q
 rw [h] at hc
 have h1 := sThree hm q.x
 have h2 := sThree hm q.y
 rw [threeB] at h1 h2
 simp only [List.map_cons, List.map_nil] at h1 h2
 refine holds_ref (ann := []) tabOk hm (byL [] [1000003, 1000004]) Tryz.func82 (by kernel_rfl) rfl ?_
 simp +decide only [Tryz.f82, hf, go_sem]
 rw [cvA, ptA, hf] at hc
 refine Runs.call hc ?_
 simp +decide only [hf, go_sem]
 refine Runs.draw (st1 := ?s1) (draws_ref (ann := []) tabOk (byL [] [1000003, 1000004]) spbS (by kernel_rfl) ?p1) ?q1
 case p1 =>
  intro K r X hK
  simp +decide (disch := first | omega | (simp only [ll]; omega)) only [if_pos, go_sem]
  repeat' apply And.intro
  all_goals
   refine Runs.call h1 ?_
   simp +decide (disch := first | omega | (simp only [ll]; omega)) only [if_pos, go_sem]
   refine Runs.call h2 ?_
   simp +decide (disch := first | omega | (simp only [ll]; omega)) only [if_pos, go_sem]
   exact hK
 case q1 =>
  simp +decide (disch := first | omega | (simp only [ll]; omega)) only [ptBy, threeB, List.map_cons, List.map_append, List.map_nil, if_pos, go_sem]
  exact Runs.ret_refl
def ipbS : Sched := .take 1 (.take 5 (.ld 2 (.ld 6 (.alt 0 (.alt 3 (.alt 4 (.alt 7 (.alt 8 (.take 9 .fin) .nil) .nil) .nil) .nil) (.alt 3 (.alt 0 (.alt 4 (.alt 7 (.alt 8 (.take 9 .fin) .nil) .nil) .nil) .nil) .nil)))))
attribute [local go_sem] ipbS
set_option maxHeartbeats 1000000 in
include hm in
theorem iPointBytes (q : GPt) (hf : q.far = false) : Holds Tryz.prog 51 [ptA q, .v (.bool false)] [] (.sl (.ow 1) ((ptBy q).map u8A)) [] := by
 have h1 := iThree hm q.x
 have h2 := iThree hm q.y
 rw [threeB] at h1 h2
 simp only [List.map_cons, List.map_nil] at h1 h2
 refine holds_ref (ann := []) tabOk hm (byL [] [1000002]) Tryz.func51 (by kernel_rfl) rfl ?_
 simp +decide only [Tryz.f51, hf, go_sem]
 refine Runs.draw (st1 := ?s1) (draws_ref (ann := []) tabOk (byL [] [1000002]) ipbS (by kernel_rfl) ?p1) ?q1
 case p1 =>
  intro K r X hK
  simp +decide (disch := first | omega | (simp only [ll]; omega)) only [if_pos, go_sem]
  repeat' apply And.intro
  all_goals
   refine Runs.call h1 ?_
   simp +decide (disch := first | omega | (simp only [ll]; omega)) only [if_pos, go_sem]
   refine Runs.call h2 ?_
   simp +decide (disch := first | omega | (simp only [ll]; omega)) only [if_pos, go_sem]
   exact hK
 case q1 =>
  simp +decide (disch := first | omega | (simp only [ll]; omega)) only [ptBy, threeB, List.map_cons, List.map_append, List.map_nil, if_pos, go_sem]
  exact Runs.ret_refl
def edBy (a : GPr) : List Int := [IntKind.u8.wrap a.2, IntKind.u8.wrap (a.2.fdiv (2 ^ 8)), IntKind.u8.wrap (a.2.fdiv (2 ^ 16) + 128 * a.1.tmod 2)]
theorem or128 : ∀ n : Fin 128, IntKind.i64.wrap ((BitVec.ofInt 64 (n.1 : Int) ||| BitVec.ofInt 64 128).toNat) = (n.1 : Int) + 128 ∧ IntKind.i64.wrap ((BitVec.ofInt 64 (n.1 : Int) ||| BitVec.ofInt 64 0).toNat) = (n.1 : Int) := by decide
set_option maxHeartbeats 1000000 in
include hm in
theorem sEdBytes (k : GEd) (a : GPr) (h : (edB k && eonZ k.p k.d a) = true) : Holds Tryz.prog 85 [edA k, prA a] [] (.tup [.sl (.ow 1) ((edBy a).map u8A), .v (.bool true)]) [] := by
 have hc := sPairOk hm k a
 rw [h, edA, prA] at hc
 simp only [Bool.and_eq_true] at h
 have hi := eonZ_in h.2
 have hp := ed_in h.1
 obtain ⟨⟨i1, i2⟩, i3, i4⟩ := hi
 obtain ⟨p1, p2, _⟩ := hp
 have m1 : 0 ≤ a.1.tmod 2 ∧ a.1.tmod 2 ≤ 1 := by rw [Int.tmod_eq_emod_of_nonneg (by omega)]; omega
 have f1 : 0 ≤ a.2.fdiv (2 ^ 16) ∧ a.2.fdiv (2 ^ 16) ≤ 100 := by rw [Int.fdiv_eq_ediv_of_nonneg _ (by omega)]; omega
 have w1 : IntKind.i64.wrap (128 * a.1.tmod 2) = 128 * a.1.tmod 2 := wrap_i64 (by omega) (by omega)
 have w2 : IntKind.i64.wrap (a.2.fdiv (2 ^ 16) + 128 * a.1.tmod 2) = a.2.fdiv (2 ^ 16) + 128 * a.1.tmod 2 := wrap_i64 (by omega) (by omega)
 refine holds_ref (ann := []) tabOk hm (byL [] [1000002, 1000003]) Tryz.func85 (by kernel_rfl) rfl ?_
 simp +decide only [Tryz.f85, go_sem]
 refine Runs.call hc ?_
 simp +decide only [s8, s16', IntKind.bits, w1, w2, edBy, List.map_cons, List.map_nil, go_sem]
 exact Runs.ret_refl
set_option maxHeartbeats 1000000 in
include hm in
theorem iEdBytes (k : GEd) (a : GPr) (h : (edB k && eonZ k.p k.d a) = true) : Holds Tryz.prog 52 [prA a] [] (.sl (.ow 1) ((edBy a).map u8A)) [] := by
 simp only [Bool.and_eq_true] at h
 have hi := eonZ_in h.2
 have hp := ed_in h.1
 obtain ⟨⟨i1, i2⟩, i3, i4⟩ := hi
 obtain ⟨p1, p2, _⟩ := hp
 have m1 : a.1.tmod 2 = 0 ∨ a.1.tmod 2 = 1 := by rw [Int.tmod_eq_emod_of_nonneg (by omega)]; omega
 have f1 : 0 ≤ a.2.fdiv (2 ^ 16) ∧ a.2.fdiv (2 ^ 16) < 128 := by rw [Int.fdiv_eq_ediv_of_nonneg _ (by omega)]; omega
 have s7 : min (7 : Int).toNat 64 = 7 := by decide
 have w1 : IntKind.i64.wrap (a.1.tmod 2 * 2 ^ 7) = 128 * a.1.tmod 2 := by rw [wrap_i64 (by omega) (by omega)]; omega
 have w2 : IntKind.i64.wrap ((BitVec.ofInt 64 (a.2.fdiv (2 ^ 16)) ||| BitVec.ofInt 64 (128 * a.1.tmod 2)).toNat) = a.2.fdiv (2 ^ 16) + 128 * a.1.tmod 2 := by
  have := or128 ⟨(a.2.fdiv (2 ^ 16)).toNat, by omega⟩
  simp only [Int.toNat_of_nonneg f1.1] at this
  rcases m1 with m | m <;> rw [m]
  ·rw [show (128 : Int) * 0 = 0 from rfl, this.2]; omega
  ·rw [show (128 : Int) * 1 = 128 from rfl, this.1]
 refine holds_ref (ann := []) tabOk hm (byL [] [1000001]) Tryz.func52 (by kernel_rfl) rfl ?_
 have w3 : orI .i64 (a.2.fdiv (2 ^ 16)) (128 * a.1.tmod 2) = a.2.fdiv (2 ^ 16) + 128 * a.1.tmod 2 := w2
 simp +decide only [Tryz.f52, s7, s8, s16', IntKind.bits, w1, w3, edBy, List.map_cons, List.map_nil, go_sem]
 exact Runs.ret_refl
def keyInts (k : GKey) : List Int := if k.kind = 2 then [2, k.cv.p, k.cv.a, k.cv.b, k.cv.n, k.cv.gx, k.cv.gy] else [3, k.ed.p, k.ed.d, k.ed.l, k.ed.bx, k.ed.by']
def keyPt (k : GKey) : List Int := if k.kind = 2 then ptBy k.q else edBy k.a
def keyT (k : GKey) : List It :=
 if k.kind = 1 then [⟨48, [], 3⟩, intI 1, ⟨2, natBB k.N, 0⟩, intI k.e]
 else ⟨48, [], ((keyInts k).length + 1 : Nat)⟩ :: ((keyInts k).map intI ++ [⟨3, 0 :: keyPt k, 0⟩])
def keyNd (k : GKey) : Nd :=
 if k.kind = 1 then .mk 48 [] [intN 1, .mk 2 (natBB k.N) [], intN k.e]
 else .mk 48 [] ((keyInts k).map intN ++ [.mk 3 (0 :: keyPt k) []])
theorem keyInts_in {k : GKey} (h : keyB k = true) (h1 : k.kind ≠ 1) : ∀ n ∈ keyInts k, -9223372036854775808 ≤ n ∧ n < 9223372036854775808 := by
 unfold keyB at h
 rw [if_neg h1] at h
 unfold keyInts
 split at h
 ·rename_i h2
  rw [if_pos h2]
  simp only [Bool.and_eq_true] at h
  have hc := curve_in h.2.2.1.1
  have h3 := h.2.2.1.1
  simp only [curveB, Bool.and_eq_true] at h3
  obtain ⟨⟨⟨⟨⟨⟨⟨⟨⟨c1, _⟩, _⟩, c4⟩, c5⟩, c6⟩, _⟩, _⟩, c9⟩, _⟩ := h3
  have := inB_t c1
  have := inB_t c4
  have := inB_t c5
  have := inB_t c6
  have hp := onZ_in (by omega) c9
  obtain ⟨⟨_, _⟩, _, _⟩ := hp
  simp only at *
  intro n hn
  simp only [List.mem_cons, List.not_mem_nil, or_false] at hn
  omega
 ·split at h
  ·rename_i h2 h3
   rw [if_neg h2]
   simp only [Bool.and_eq_true] at h
   have h3 := h.2.2.1
   simp only [edB, Bool.and_eq_true] at h3
   obtain ⟨⟨⟨⟨⟨⟨⟨⟨⟨c1, _⟩, _⟩, c4⟩, _⟩, c6⟩, _⟩, c8⟩, _⟩, _⟩ := h3
   have := inB_t c1
   have := inB_t c4
   have := inB_t c6
   have hp := eonZ_in c8
   obtain ⟨⟨_, _⟩, _, _⟩ := hp
   simp only at *
   intro n hn
   simp only [List.mem_cons, List.not_mem_nil, or_false] at hn
   omega
  ·simp at h
theorem keyInts_len (k : GKey) : (keyInts k).length ≤ 7 := by unfold keyInts; split <;> simp
theorem keyPt_len (k : GKey) : (keyPt k).length ≤ 7 := by unfold keyPt; split <;> simp [ptBy, threeB, edBy]
def lkS : Sched := .take 1 (.take 5 (.ld 2 (.ld 6 (.alt 0 (.alt 3 (.alt 4 (.alt 7 (.alt 8 (.alt 9 (.take 10 .fin) .nil) .nil) .nil) .nil) .nil) .nil))))
attribute [local go_sem] lkS
set_option maxHeartbeats 4000000 in
include hm in
theorem l10Key (k : GKey) (h : keyB k = true) : Holds Tryz.prog 41 [keyA k] [] (.sl (.ow 3) ((keyT k).map itemO)) [] := by
 have hi := keyInts_in h
 unfold keyB at h
 refine holds_ref (ann := []) tabOk hm (byL [] [79, 84, 1000001]) Tryz.func41 (by kernel_rfl) rfl ?_
 simp +decide (maxSteps := 9^7) only [Tryz.f41, go_sem]
 refine Runs.split (fun k1 => ?_) (fun k1 => ?_)
 ·have k1' : k.kind = 1 := by simpa using k1
  rw [if_pos k1'] at h
  simp only [Bool.and_eq_true] at h
  obtain ⟨_, _, hN, hb, _, he, _⟩ := h
  have he := inB_t he
  have c1 := l10Int hm 1 (by omega) (by omega)
  have c2 := l10Nat hm k.N hN hb
  have c3 := l10Int hm k.e (by omega) (by omega)
  have c4 := l10Made hm 48 3 [intI 1, ⟨2, natBB k.N, 0⟩, intI k.e] (by simp)
  clear hi
  have e : keyT k = ⟨48, [], 3⟩ :: [intI 1, ⟨2, natBB k.N, 0⟩, intI k.e] := by rw [keyT, if_pos k1']
  rw [e]
  simp +decide (maxSteps := 9^7) only [go_sem]
  refine Runs.draw (st1 := ?s1) (draws_ref (ann := []) tabOk (byL [] [79, 84, 1000001]) lkS (by kernel_rfl) ?p1) ?q1
  case p1 =>
   intro K r X hK
   simp +decide (maxSteps := 9^7) only [go_sem]
   repeat' apply And.intro
   all_goals
    refine Runs.call c1 ?_
    simp +decide (maxSteps := 9^7) (disch := first | omega | (simp only [ll]; omega)) only [if_pos, go_sem]
    refine Runs.call c2 ?_
    simp +decide (maxSteps := 9^7) (disch := first | omega | (simp only [ll]; omega)) only [if_pos, go_sem]
    refine Runs.call c3 ?_
    simp +decide (maxSteps := 9^7) (disch := first | omega | (simp only [ll]; omega)) only [if_pos, go_sem]
    refine Runs.call' (as' := [.v (.int .i64 48), .v (.int .i64 3), .sl (.ow 3) ([intI 1, ⟨2, natBB k.N, 0⟩, intI k.e].map itemO)]) (by simp [intI, mdL, md1_itemO]) c4 ?_
    simp +decide (maxSteps := 9^7) (disch := first | omega | (simp only [ll]; omega)) only [if_pos, go_sem]
    exact hK
  case q1 =>
   simp +decide (maxSteps := 9^7) (disch := first | omega | (simp only [ll]; omega)) only [if_pos, go_sem]
   exact Runs.ret_refl
 ·have k1' : k.kind ≠ 1 := by simpa using k1
  rw [if_neg k1'] at h
  have hi := hi k1'
  have c2 := l10Ints hm (keyInts k) (by have := keyInts_len k; omega) hi
  have e : keyT k = ⟨48, [], ((keyInts k).length + 1 : Nat)⟩ :: ((keyInts k).map intI ++ [⟨3, 0 :: keyPt k, 0⟩]) := by rw [keyT, if_neg k1']
  rw [e]
  simp +decide (maxSteps := 9^7) only [go_sem]
  refine Runs.split (fun k2 => ?_) (fun k2 => ?_)
  ·have k2' : k.kind = 2 := by simpa using k2
   rw [if_pos k2'] at h
   simp only [Bool.and_eq_true] at h
   obtain ⟨_, _, hP, hf, _⟩ := h
   have hf : k.q.far = false := by simpa using hf
   have c1 := sPointBytes hm k.cv k.q (by simpa [Bool.and_eq_true] using hP) hf
   have ek : (keyInts k).map intA = [.v (.int .i64 2), .v (.int .i64 k.cv.p), .v (.int .i64 k.cv.a), .v (.int .i64 k.cv.b), .v (.int .i64 k.cv.n), .v (.int .i64 k.cv.gx), .v (.int .i64 k.cv.gy)] := by
    rw [keyInts, if_pos k2']; rfl
   have el : (keyInts k).length = 7 := by rw [keyInts, if_pos k2']; rfl
   have ep : keyPt k = ptBy k.q := by rw [keyPt, if_pos k2']
   rw [ek] at c2
   rw [cvA, ptA, hf] at c1
   rw [el, ep]
   have hJ : ((keyInts k).map intI).length = 7 := by rw [List.length_map, el]
   have hB : (ptBy k.q).length = 7 := rfl
   clear hi ek e
   generalize (keyInts k).map intI = J at *
   generalize ptBy k.q = B at *
   have c3 := l10Item hm 3 (0 :: B)
   have c4 := l10Made hm 48 8 (J ++ [⟨3, 0 :: B, 0⟩]) (by simp; omega)
   have hJ2 : (J.map itemO).length = 7 := by rw [List.length_map, hJ]
   have hB2 : (B.map u8A).length = 7 := by rw [List.length_map, hB]
   have hJt : List.take 7 (J.map itemO) = J.map itemO := List.take_of_length_le (by omega)
   have hBt : List.take 7 (B.map u8A) = B.map u8A := List.take_of_length_le (by omega)
   simp +decide (maxSteps := 9^7) (disch := first | omega | (simp only [ll]; omega)) only [hf, if_pos, go_sem]
   refine Runs.call c1 ?_
   simp +decide (maxSteps := 9^7) (disch := first | omega | (simp only [ll]; omega)) only [hf, hB2, hBt, if_pos, go_sem]
   refine Runs.call c2 ?_
   simp +decide (maxSteps := 9^7) (disch := first | omega | (simp only [ll]; omega)) only [hf, hB2, hBt, hJ2, hJt, if_pos, go_sem]
   refine Runs.call' (as' := [.v (.int .i64 3), .sl (.ow 1) ((0 :: B).map u8A)]) (by simp [u8A, mdL, A.md, md_u8A]) c3 ?_
   simp +decide (maxSteps := 9^7) (disch := first | omega | (simp only [ll]; omega)) only [hf, hB2, hBt, hJ2, hJt, List.length_append, if_pos, go_sem]
   refine Runs.call' (as' := [.v (.int .i64 48), .v (.int .i64 8), .sl (.ow 3) ((J ++ ([⟨3, 0 :: B, 0⟩] : List It)).map itemO)]) (by simp [mdL_append, md_itemO, mdL, md1_itemO, -List.map_map]) c4 ?_
   simp +decide (maxSteps := 9^7) (disch := first | omega | (simp only [ll]; omega)) only [if_pos, go_sem]
   exact Runs.ret_refl
  ·have k2' : k.kind ≠ 2 := by simpa using k2
   rw [if_neg k2'] at h
   split at h
   case isFalse => simp at h
   simp only [Bool.and_eq_true] at h
   obtain ⟨_, _, hP⟩ := h
   have c1 := sEdBytes hm k.ed k.a (by simpa [Bool.and_eq_true] using hP)
   have ek : (keyInts k).map intA = [.v (.int .i64 3), .v (.int .i64 k.ed.p), .v (.int .i64 k.ed.d), .v (.int .i64 k.ed.l), .v (.int .i64 k.ed.bx), .v (.int .i64 k.ed.by')] := by
    rw [keyInts, if_neg k2']; rfl
   have el : (keyInts k).length = 6 := by rw [keyInts, if_neg k2']; rfl
   have ep : keyPt k = edBy k.a := by rw [keyPt, if_neg k2']
   rw [ek] at c2
   rw [edA, prA] at c1
   rw [el, ep]
   have hJ : ((keyInts k).map intI).length = 6 := by rw [List.length_map, el]
   have hB : (edBy k.a).length = 3 := rfl
   clear hi ek e
   generalize (keyInts k).map intI = J at *
   generalize edBy k.a = B at *
   have c3 := l10Item hm 3 (0 :: B)
   have c4 := l10Made hm 48 7 (J ++ [⟨3, 0 :: B, 0⟩]) (by simp; omega)
   have hJ2 : (J.map itemO).length = 6 := by rw [List.length_map, hJ]
   have hB2 : (B.map u8A).length = 3 := by rw [List.length_map, hB]
   have hJt : List.take 6 (J.map itemO) = J.map itemO := List.take_of_length_le (by omega)
   have hBt : List.take 3 (B.map u8A) = B.map u8A := List.take_of_length_le (by omega)
   simp +decide (maxSteps := 9^7) (disch := first | omega | (simp only [ll]; omega)) only [if_pos, go_sem]
   refine Runs.call c1 ?_
   simp +decide (maxSteps := 9^7) (disch := first | omega | (simp only [ll]; omega)) only [hB2, hBt, if_pos, go_sem]
   refine Runs.call c2 ?_
   simp +decide (maxSteps := 9^7) (disch := first | omega | (simp only [ll]; omega)) only [hB2, hBt, hJ2, hJt, if_pos, go_sem]
   refine Runs.call' (as' := [.v (.int .i64 3), .sl (.ow 1) ((0 :: B).map u8A)]) (by simp [u8A, mdL, A.md, md_u8A]) c3 ?_
   simp +decide (maxSteps := 9^7) (disch := first | omega | (simp only [ll]; omega)) only [hB2, hBt, hJ2, hJt, List.length_append, if_pos, go_sem]
   refine Runs.call' (as' := [.v (.int .i64 48), .v (.int .i64 7), .sl (.ow 3) ((J ++ ([⟨3, 0 :: B, 0⟩] : List It)).map itemO)]) (by simp [mdL_append, md_itemO, mdL, md1_itemO, -List.map_map]) c4 ?_
   simp +decide (maxSteps := 9^7) (disch := first | omega | (simp only [ll]; omega)) only [if_pos, go_sem]
   exact Runs.ret_refl
end Go.Proofs.W

namespace Go.Proofs.W
open Go Go.AM Go.Proofs.G
variable (hm : Tryz.prog.follows .mixedOrders = true)
attribute [local go_sem] keyA edA prA cvA ptA
def knS3 : Sched := .take 1 (.take 4 (.ld 2 (.ld 5 (.alt 0 (.alt 3 (.alt 6 (.alt 7 (.alt 8 (.alt 9 .fin .nil) .nil) .nil) .nil) .nil) .nil))))
def knS6 : Sched := .take 0 (.take 2 (.take 4 (.take 6 (.take 8 (.take 10 (.take 14 (.lds 192 [1, 3, 5, 7, 9, 11] (.ld 15 (.alt 12 (.alt 13 (.alt 16 (.alt 17 (.alt 18 (.alt 19 (.alt 20 (.alt 21 .fin .nil) .nil) .nil) .nil) .nil) .nil) .nil) .nil)))))))))
def knS8 : Sched := .take 0 (.take 2 (.take 4 (.take 6 (.take 8 (.take 12 (.lds 256 [1, 3, 5, 7, 9] (.ld 13 (.alt 10 (.alt 11 (.alt 14 (.alt 15 (.alt 16 (.alt 17 (.alt 18 (.alt 19 .fin .nil) .nil) .nil) .nil) .nil) .nil) .nil) .nil))))))))
attribute [local go_sem] knS3 knS6 knS8
theorem nodesO_app (l : List Nd) (n : Nd) : nodesO (l ++ [n]) = nodesO l ++ [nodeO n] := by rw [nodesO_eq, nodesO_eq, List.map_append]; rfl
set_option maxHeartbeats 4000000 in
set_option maxRecDepth 10000 in
include hm in
theorem keyNode (k : GKey) (h : keyB k = true) : Holds Tryz.prog 16 [keyA k] [] (nodeO (keyNd k)) [] := by
 have hi := keyInts_in h
 unfold keyB at h
 refine holds_ref (ann := []) tabOk hm (byL [] [46, 1000001]) Tryz.func16 (by kernel_rfl) rfl ?_
 simp +decide (maxSteps := 9^7) only [Tryz.f16, go_sem]
 refine Runs.split (fun k1 => ?_) (fun k1 => ?_)
 ·have k1' : k.kind = 1 := by simpa using k1
  rw [if_pos k1'] at h
  simp only [Bool.and_eq_true] at h
  obtain ⟨_, _, hN, hb, _, he, _⟩ := h
  have he := inB_t he
  have c1 := integer hm 1 (by omega) (by omega)
  have c2 := natural hm k.N hN hb
  have c3 := integer hm k.e (by omega) (by omega)
  have c4 := listN hm 48 [intN 1, .mk 2 (natBB k.N) [], intN k.e]
  clear hi
  have e : keyNd k = .mk 48 [] [intN 1, .mk 2 (natBB k.N) [], intN k.e] := by rw [keyNd, if_pos k1']
  rw [e]
  simp +decide (maxSteps := 9^7) only [go_sem]
  refine Runs.draw (st1 := ?s1) (draws_ref (ann := []) tabOk (byL [] [46, 1000001]) knS3 (by kernel_rfl) ?p1) ?q1
  case p1 =>
   intro K r X hK
   simp +decide (maxSteps := 9^7) only [go_sem]
   repeat' apply And.intro
   all_goals
    refine Runs.call c1 ?_
    simp +decide (maxSteps := 9^7) (disch := first | omega | (simp only [ll]; omega)) only [nodeO, nodesO, if_pos, go_sem]
    refine Runs.call c2 ?_
    simp +decide (maxSteps := 9^7) (disch := first | omega | (simp only [ll]; omega)) only [nodeO, nodesO, if_pos, go_sem]
    refine Runs.call c3 ?_
    simp +decide (maxSteps := 9^7) (disch := first | omega | (simp only [ll]; omega)) only [nodeO, nodesO, if_pos, go_sem]
    refine Runs.call' (as' := [.v (.int .i64 48), .sl (.ow 3) (nodesO [intN 1, .mk 2 (natBB k.N) [], intN k.e])]) (by simp [nodeO, nodesO, intN, mdL, A.md, md_u8A]) c4 ?_
    simp +decide (maxSteps := 9^7) (disch := first | omega | (simp only [ll]; omega)) only [nodeO, nodesO, if_pos, go_sem]
    exact hK
  case q1 =>
   simp +decide (maxSteps := 9^7) (disch := first | omega | (simp only [ll]; omega)) only [nodeO, nodesO, intN, if_pos, go_sem]
   exact Runs.ret_refl
 ·have k1' : k.kind ≠ 1 := by simpa using k1
  rw [if_neg k1'] at h
  have hi := hi k1'
  have c2 := integers hm (keyInts k) (by have := keyInts_len k; omega) hi
  have e : keyNd k = .mk 48 [] ((keyInts k).map intN ++ [.mk 3 (0 :: keyPt k) []]) := by rw [keyNd, if_neg k1']
  rw [e]
  simp +decide (maxSteps := 9^7) only [go_sem]
  refine Runs.split (fun k2 => ?_) (fun k2 => ?_)
  ·have k2' : k.kind = 2 := by simpa using k2
   rw [if_pos k2'] at h
   simp only [Bool.and_eq_true] at h
   obtain ⟨_, _, hP, hf, _⟩ := h
   have hf : k.q.far = false := by simpa using hf
   have c1 := iPointBytes hm k.q hf
   have ek : (keyInts k).map intA = [.v (.int .i64 2), .v (.int .i64 k.cv.p), .v (.int .i64 k.cv.a), .v (.int .i64 k.cv.b), .v (.int .i64 k.cv.n), .v (.int .i64 k.cv.gx), .v (.int .i64 k.cv.gy)] := by
    rw [keyInts, if_pos k2']; rfl
   have el : (keyInts k).length = 7 := by rw [keyInts, if_pos k2']; rfl
   have ep : keyPt k = ptBy k.q := by rw [keyPt, if_pos k2']
   rw [ek] at c2
   rw [ptA, hf] at c1
   rw [ep]
   have hJ : ((keyInts k).map intN).length = 7 := by rw [List.length_map, el]
   have hB : (ptBy k.q).length = 7 := rfl
   clear hi ek e
   generalize (keyInts k).map intN = J at *
   generalize ptBy k.q = B at *
   have c3 := bitsOf hm B (by omega)
   have c4 := listN hm 48 (J ++ [.mk 3 (0 :: B) []])
   have htk : List.take (J ++ ([.mk 3 (0 :: B) []] : List Nd)).length (nodesO (J ++ ([.mk 3 (0 :: B) []] : List Nd))) = nodesO (J ++ ([.mk 3 (0 :: B) []] : List Nd)) := List.take_of_length_le (by rw [nodesO_length]; exact Nat.le_refl _)
   have hJ2 : (nodesO J).length = 7 := by rw [nodesO_length, hJ]
   have hB2 : (B.map u8A).length = 7 := by rw [List.length_map, hB]
   have hJt : List.take 7 (nodesO J) = nodesO J := List.take_of_length_le (by omega)
   have hBt : List.take 7 (B.map u8A) = B.map u8A := List.take_of_length_le (by omega)
   simp +decide (maxSteps := 9^7) (disch := first | omega | (simp only [ll]; omega)) only [hf, if_pos, go_sem]
   refine Runs.draw (st1 := ?s2) (draws_ref (ann := []) tabOk (byL [] [46, 1000001]) knS6 (by kernel_rfl) ?p2) ?q2
   case p2 =>
    intro K r X hK
    simp +decide (maxSteps := 9^7) (disch := first | omega | (simp only [ll]; omega)) only [hf, if_pos, go_sem]
    repeat' apply And.intro
    all_goals
     refine Runs.call c2 ?_
     simp +decide (maxSteps := 9^7) (disch := first | omega | (simp only [ll]; omega)) only [hf, hB2, hBt, hJ2, hJt, if_pos, go_sem]
     refine Runs.call c1 ?_
     simp +decide (maxSteps := 9^7) (disch := first | omega | (simp only [ll]; omega)) only [hf, hB2, hBt, hJ2, hJt, if_pos, go_sem]
     refine Runs.call c3 ?_
     simp +decide (maxSteps := 9^7) (disch := first | omega | (simp only [ll]; omega)) only [hf, hB2, hBt, hJ2, hJt, nodeO, nodesO, List.length_append, if_pos, go_sem]
     refine Runs.call' (as' := [.v (.int .i64 48), .sl (.ow 3) (nodesO (J ++ ([.mk 3 (0 :: B) []] : List Nd)))]) (by simp [nodesO_app, mdL_append, md_nodesO, mdL, nodeO, nodesO, A.md, md_u8A, u8A]) c4 ?_
     simp +decide (maxSteps := 9^7) (disch := first | omega | (simp only [ll]; omega)) only [nodeO, nodesO, if_pos, go_sem]
     exact hK
   case q2 =>
    simp +decide (maxSteps := 9^7) (disch := first | omega | (simp only [ll]; omega)) only [nodeO, nodesO, htk, if_pos, go_sem]
    exact Runs.ret_refl
  ·have k2' : k.kind ≠ 2 := by simpa using k2
   rw [if_neg k2'] at h
   split at h
   case isFalse => simp at h
   simp only [Bool.and_eq_true] at h
   obtain ⟨_, _, hP⟩ := h
   have c1 := iEdBytes hm k.ed k.a (by simpa [Bool.and_eq_true] using hP)
   have ek : (keyInts k).map intA = [.v (.int .i64 3), .v (.int .i64 k.ed.p), .v (.int .i64 k.ed.d), .v (.int .i64 k.ed.l), .v (.int .i64 k.ed.bx), .v (.int .i64 k.ed.by')] := by
    rw [keyInts, if_neg k2']; rfl
   have el : (keyInts k).length = 6 := by rw [keyInts, if_neg k2']; rfl
   have ep : keyPt k = edBy k.a := by rw [keyPt, if_neg k2']
   rw [ek] at c2
   rw [prA] at c1
   rw [ep]
   have hJ : ((keyInts k).map intN).length = 6 := by rw [List.length_map, el]
   have hB : (edBy k.a).length = 3 := rfl
   clear hi ek e
   generalize (keyInts k).map intN = J at *
   generalize edBy k.a = B at *
   have c3 := bitsOf hm B (by omega)
   have c4 := listN hm 48 (J ++ [.mk 3 (0 :: B) []])
   have htk : List.take (J ++ ([.mk 3 (0 :: B) []] : List Nd)).length (nodesO (J ++ ([.mk 3 (0 :: B) []] : List Nd))) = nodesO (J ++ ([.mk 3 (0 :: B) []] : List Nd)) := List.take_of_length_le (by rw [nodesO_length]; exact Nat.le_refl _)
   have hJ2 : (nodesO J).length = 6 := by rw [nodesO_length, hJ]
   have hB2 : (B.map u8A).length = 3 := by rw [List.length_map, hB]
   have hJt : List.take 6 (nodesO J) = nodesO J := List.take_of_length_le (by omega)
   have hBt : List.take 3 (B.map u8A) = B.map u8A := List.take_of_length_le (by omega)
   simp +decide (maxSteps := 9^7) (disch := first | omega | (simp only [ll]; omega)) only [if_pos, go_sem]
   refine Runs.draw (st1 := ?s3) (draws_ref (ann := []) tabOk (byL [] [46, 1000001]) knS8 (by kernel_rfl) ?p3) ?q3
   case p3 =>
    intro K r X hK
    simp +decide (maxSteps := 9^7) (disch := first | omega | (simp only [ll]; omega)) only [if_pos, go_sem]
    repeat' apply And.intro
    all_goals
     refine Runs.call c2 ?_
     simp +decide (maxSteps := 9^7) (disch := first | omega | (simp only [ll]; omega)) only [hB2, hBt, hJ2, hJt, if_pos, go_sem]
     refine Runs.call c1 ?_
     simp +decide (maxSteps := 9^7) (disch := first | omega | (simp only [ll]; omega)) only [hB2, hBt, hJ2, hJt, if_pos, go_sem]
     refine Runs.call c3 ?_
     simp +decide (maxSteps := 9^7) (disch := first | omega | (simp only [ll]; omega)) only [hB2, hBt, hJ2, hJt, nodeO, nodesO, List.length_append, if_pos, go_sem]
     refine Runs.call' (as' := [.v (.int .i64 48), .sl (.ow 3) (nodesO (J ++ ([.mk 3 (0 :: B) []] : List Nd)))]) (by simp [nodesO_app, mdL_append, md_nodesO, mdL, nodeO, nodesO, A.md, md_u8A, u8A]) c4 ?_
     simp +decide (maxSteps := 9^7) (disch := first | omega | (simp only [ll]; omega)) only [nodeO, nodesO, if_pos, go_sem]
     exact hK
   case q3 =>
    simp +decide (maxSteps := 9^7) (disch := first | omega | (simp only [ll]; omega)) only [nodeO, nodesO, htk, if_pos, go_sem]
    exact Runs.ret_refl
end Go.Proofs.W

namespace Go.Proofs.W
open Go Go.AM
variable (hm : Tryz.prog.follows .mixedOrders = true)
def mkFill (v : Nat → A) (es : List A) (i : Nat) : List A := (List.range i).map v ++ es.drop i
def mkAnn : Ann := [(0, [0, 1, 5])]
def mkInt (k : Int) (i : Nat) : A := intA (k + i)
def mkByte (k : Int) (i : Nat) : A := u8A (IntKind.u8.wrap (k + i))
attribute [local go_sem] mkInt mkByte
def markGo : Nat → Nat → ByteArray → ByteArray
 | 0, _, out => out
 | f + 1, n, out => if n = 0 then out else markGo f (n / 10) (⟨#[UInt8.ofNat (48 + n % 10)]⟩ ++ out)
def markT (k : Int) : ByteArray := if k ≤ 0 then ⟨#[109, 48]⟩ else ⟨#[109]⟩ ++ markGo (k.toNat + 1) k.toNat ⟨#[]⟩
def mkStr (k : Int) (i : Nat) : A := strA (markT (k + i))
attribute [local go_sem] mkStr
end Go.Proofs.W

namespace Go.Proofs.W
open Go Go.AM
variable (hm : Tryz.prog.follows .mixedOrders = true)
def mkIt (k : Int) (x : It) : It := ⟨k, (List.range x.body.length).map (fun i : Nat => IntKind.u8.wrap (k + 1 + i)), k + 1 + x.body.length⟩
def mkIts : Int → List It → List It
 | _, [] => []
 | k, x :: r => mkIt k x :: mkIts (k + x.body.length + 2) r
def cntI : List It → Nat
 | [] => 0
 | x :: r => x.body.length + 2 + cntI r
def curI (k : Int) (L : List It) (i : Nat) : List It := mkIts k (L.take i) ++ L.drop i
def subI (x : It) : Blk := ⟨true, 1, false, x.body.map u8A⟩
def xItA (j : Nat) (x : It) : A := .agg [.v (.int .i64 x.tag), .ms (.x j) 0 x.body.length x.body.length, .v (.int .i64 x.kids)]
def xpIt : Nat → List It → List A
 | _, [] => []
 | j, x :: r => xItA j x :: xpIt (j + 1) r
end Go.Proofs.W

namespace Go.Proofs.W
open Go Go.AM Go.Proofs.G
variable (hm : Tryz.prog.follows .mixedOrders = true)
attribute [local go_sem] keyA keyO edA prA cvA ptA
theorem itemsN_intN (n : Int) : itemsN (intN n) = [intI n] := by simp [intN, itemsN_mk, itemsNL, intI]
theorem itemsNL_ints (L : List Int) : itemsNL (L.map intN) = L.map intI := by
 induction L with
 | nil => simp [itemsNL]
 | cons a l ih => simp only [List.map_cons, itemsNL, itemsN_intN, ih, List.singleton_append]
theorem items_key (k : GKey) : itemsN (keyNd k) = keyT k := by
 unfold keyNd keyT
 split
 ·rw [itemsN_mk]
  simp only [itemsNL, itemsN_intN, itemsN_mk, List.length_cons, List.length_nil, List.append_nil, List.singleton_append, List.cons_append, List.nil_append]
  rfl
 ·rw [itemsN_mk, itemsNL_app, itemsNL_ints]
  simp only [itemsNL, itemsN_mk, List.length_append, List.length_map, List.length_cons, List.length_nil, List.append_nil]
  rfl
theorem keyT_len (k : GKey) : (keyT k).length ≤ 9 := by
 unfold keyT
 split
 ·simp
 ·have := keyInts_len k
  simp; omega
theorem intB_len (n : Int) : (intB n).length ≤ 8 := by
 have := kB_le n
 simp only [intB, tailB_length]
 omega
theorem keyB_rsa {k : GKey} (h : keyB k = true) (h1 : k.kind = 1) : (natBB k.N).length ≤ 65 := by
 unfold keyB at h
 rw [if_pos h1] at h
 simp only [Bool.and_eq_true] at h
 exact natBB_le h.2.2.2.1
theorem bodies_ints (m : Nat) (h : 8 ≤ m) : ∀ L : List Int, bodiesLeL m (L.map intN)
 | [] => trivial
 | n :: L => ⟨⟨by have := intB_len n; omega, trivial⟩, bodies_ints m h L⟩
theorem bodies_app (m : Nat) : ∀ l n : List Nd, bodiesLeL m l → bodiesLeL m n → bodiesLeL m (l ++ n)
 | [], n, _, h => h
 | a :: l, n, h1, h2 => ⟨h1.1, bodies_app m l n h1.2 h2⟩
theorem kids_ints (m : Nat) : ∀ L : List Int, kidsLeL m (L.map intN)
 | [] => trivial
 | n :: L => ⟨⟨Nat.zero_le _, trivial⟩, kids_ints m L⟩
theorem kids_app (m : Nat) : ∀ l n : List Nd, kidsLeL m l → kidsLeL m n → kidsLeL m (l ++ n)
 | [], n, _, h => h
 | a :: l, n, h1, h2 => ⟨h1.1, kids_app m l n h1.2 h2⟩
theorem key_bodies {k : GKey} (h : keyB k = true) (m : Nat) (hm : 100 ≤ m) : bodiesLe m (keyNd k) := by
 unfold keyNd
 split
 ·have hb := keyB_rsa h (by assumption)
  have b1 := intB_len 1
  have b2 := intB_len k.e
  exact ⟨Nat.zero_le _, ⟨by omega, trivial⟩, ⟨by omega, trivial⟩, ⟨by omega, trivial⟩, trivial⟩
 ·have := keyPt_len k
  exact ⟨Nat.zero_le _, bodies_app m _ _ (bodies_ints m (by omega) _) ⟨⟨by simp only [List.length_cons]; omega, trivial⟩, trivial⟩⟩
theorem key_kids (k : GKey) (m : Nat) (hm : 100 ≤ m) : kidsLe m (keyNd k) := by
 unfold keyNd
 split
 ·exact ⟨by simp; omega, ⟨Nat.zero_le _, trivial⟩, ⟨Nat.zero_le _, trivial⟩, ⟨Nat.zero_le _, trivial⟩, trivial⟩
 ·have := keyInts_len k
  exact ⟨by simp; omega, kids_app m _ _ (kids_ints m _) ⟨⟨Nat.zero_le _, trivial⟩, trivial⟩⟩
noncomputable def treeK (k : GKey) : List It := if keyB k = true then keyT k else []
theorem treeK_len (k : GKey) : (treeK k).length ≤ 9 := by
 unfold treeK
 split
 ·exact keyT_len k
 ·simp
noncomputable def treeKA (k : GKey) : A := .tup [.sl (.ow 3) ((treeK k).map itemO), .v (.bool (keyB k))]
set_option maxHeartbeats 1000000 in
set_option maxRecDepth 10000 in
include hm in
theorem iKeyTree (k : GKey) (h3 : k.N.length ≤ 9223372036854775807) : Holds Tryz.prog 6 [keyA k] [] (treeKA k) [] := by
 refine holds_ref (ann := []) tabOk hm (byL [] [1000001]) Tryz.func6 (by kernel_rfl) rfl ?_
 have hc := iKeyOk hm k h3
 rw [keyA] at hc
 simp +decide (maxSteps := 9^7) only [Tryz.f6, go_sem]
 refine Runs.call hc ?_
 cases h : keyB k
 ·simp +decide (maxSteps := 9^7) only [go_sem]
  refine Runs.ret ?_ rfl
  simp only [treeKA, treeK, h]
  exact .tup (.nils _ (.same _ .nil)) .nil
 ·have hl := keyNode hm k h
  have hi := items hm _ (keyNd k) (Nat.le_refl _) (by rw [items_key]; have := keyT_len k; omega) (key_bodies h _ (by omega)) (key_kids k _ (by omega))
  rw [items_key] at hi
  rw [keyA] at hl
  simp +decide (maxSteps := 9^7) only [go_sem]
  refine Runs.call hl ?_
  have ht : List.take (keyT k).length ((keyT k).map itemO) = (keyT k).map itemO := take_map_len
  rw [treeKA, treeK, if_pos h]
  generalize keyNd k = n at *
  cases n with
  | mk t b ks =>
  rw [nodeS] at hi
  have hk : List.take ks.length (nodesO ks) = nodesO ks := List.take_of_length_le (by simp [nodesO_length])
  have hn : (nodesO ks).length = ks.length := nodesO_length ks
  simp +decide (maxSteps := 9^7) only [nodeO, hk, hn, List.length_map, go_sem]
  refine Runs.call hi ?_
  simp +decide (maxSteps := 9^7) only [ht, List.length_map, h, go_sem]
  exact Runs.ret_refl
end Go.Proofs.W

namespace Go.Proofs.W
open Go Go.AM Go.Proofs.G
variable (hm : Tryz.prog.follows .mixedOrders = true)
def dgA (b : List Int) (i : Nat) : Int := bt b (b.length - 1 - 2 * i) + if 1 ≤ b.length - 1 - 2 * i then 256 * bt b (b.length - 2 - 2 * i) else 0
def dgs (b : List Int) (k : Nat) : List Int := (List.range k).map (dgA b)
def nmK (L : List Int) : Nat → Nat
 | 0 => 0
 | n + 1 => if L.getD n 0 = 0 then nmK L n else n + 1
def nmL (L : List Int) : List Int := L.take (nmK L L.length)
def natRd (b : List Int) : List Int := nmL (dgs b ((b.length + 1) / 2))
theorem nmK_le (L : List Int) : ∀ n, nmK L n ≤ n
 | 0 => Nat.le_refl _
 | n + 1 => by
  have := nmK_le L n
  rw [nmK]
  split <;> omega
theorem dgs_succ (b : List Int) (k : Nat) : (dgs b (k + 1)).map intA = (dgs b k).map intA ++ [.v (.int .i64 (dgA b k))] := by simp [dgs, List.range_succ, intA]
theorem dgs_len (b : List Int) (k : Nat) : ((dgs b k).map intA).length = k := by simp [dgs]
theorem natRd_len (b : List Int) : (natRd b).length ≤ (b.length + 1) / 2 := by
 rw [natRd, nmL, List.length_take]
 have := nmK_le (dgs b ((b.length + 1) / 2)) (dgs b ((b.length + 1) / 2)).length
 have e : (dgs b ((b.length + 1) / 2)).length = (b.length + 1) / 2 := by simp [dgs]
 omega
theorem getI (L : List Int) {i : Nat} (h : i < L.length) : (L.map intA).getD i .any = .v (.int .i64 (L.getD i 0)) := by simp [List.getD, h, intA]
def tmAnn : Ann := [(0, [0, 3])]
def tmSt (L : List Int) (n : Nat) : St := ⟨[.ms (.l 0) 0 L.length L.length, .any, .any, .v (.int .i64 n), .any, .any, .any, .any, .any, .any, .any, .any, .any, .any, .any, .any, .any, .any, .any, .any, .any], [(0, ⟨true, 1, false, L.map intA⟩)], []⟩
set_option maxRecDepth 10000 in
include hm in
theorem trimmed (L : List Int) (hl : L.length ≤ 1000000) : Holds Tryz.prog 95 [.sl (.ow 1) (L.map intA)] [] (.sl (.ow 1) ((nmL L).map intA)) [] := by
 have hlen : (L.map intA).length = L.length := List.length_map _
 refine holds_of (ann := tmAnn) tabOk hm Tryz.func95 (by kernel_rfl) rfl ?_
 simp +decide (maxSteps := 9^7) only [↓reduceIte, Tryz.f95, hlen, go_sem]
 refine Runs.while (α := Nat) (tmSt L) (fun n => n) (fun n => n ≤ L.length ∧ nmK L n = nmK L L.length) L.length ⟨Nat.le_refl _, rfl⟩ ?_ ?_
 ·simp [go_sem, tmAnn, tmSt]
 intro n ⟨h1, h2⟩ ih
 have fin : ∀ (n : Nat), n ≤ L.length → nmK L L.length = n → List.take n (L.map intA) = (nmL L).map intA := fun n _ h => by rw [nmL, h, List.map_take]
 have hd : mdL ((nmL L).map intA) = (nmL L).map intA := by rw [mdL_eq, List.map_map]; rfl
 cases n with
 | zero =>
  have e := fin 0 (by omega) h2.symm
  have dc : decide (((0 : Nat) : Int) ≤ (L.length : Int)) = true := decide_eq_true (by omega)
  have hz : (nmL L).length = 0 := by rw [nmL, ← h2]; rfl
  have e2 : (nmL L).map intA = [] := by rw [List.length_eq_zero_iff.mp hz]; rfl
  rw [e2]
  simp +decide (maxSteps := 9^7) only [↓reduceIte, tmSt, hlen, dc, Int.toNat_zero, List.take_zero, List.drop_zero, Int.toNat_natCast, go_sem]
  exact Runs.ret_refl
 | succ n =>
  have hg := getI L (show n < L.length by omega)
  have w1 : IntKind.i64.wrap (((n + 1 : Nat) : Int) - 1) = (n : Int) := by rw [wrap_i64 (by omega) (by omega)]; omega
  have d1 : decide (((n + 1 : Nat) : Int) > 0) = true := decide_eq_true (by omega)
  have d2 : decide (0 ≤ (n : Int) ∧ (n : Int) < (L.length : Int)) = true := decide_eq_true (by omega)
  rw [nmK] at h2
  by_cases hz : L.getD n 0 = 0
  ·rw [if_pos hz] at h2
   rw [hz] at hg
   simp +decide (maxSteps := 9^7) only [↓reduceIte, tmSt, hlen, w1, d1, d2, hg, Int.toNat_natCast, go_sem]
   refine ih n _ (by omega) ⟨by omega, h2⟩ ?_
   simp [go_sem, tmAnn, tmSt]
  ·rw [if_neg hz] at h2
   have e := fin (n + 1) h1 h2.symm
   have dz : decide (L.getD n 0 = 0) = false := by simpa using hz
   have dc : decide (0 ≤ ((n + 1 : Nat) : Int) ∧ ((n + 1 : Nat) : Int) ≤ (L.length : Int) ∧ ((n + 1 : Nat) : Int) ≤ ((n + 1 : Nat) : Int) ∧ ((n + 1 : Nat) : Int) ≤ (L.length : Int)) = true := decide_eq_true (by omega)
   have dk : n + 1 ≤ L.length := h1
   simp +decide (maxSteps := 9^7) only [↓reduceIte, tmSt, hlen, w1, d1, d2, hg, Int.toNat_natCast, dz, dc, Int.toNat_zero, List.drop_zero, Nat.sub_zero, dk, e, hd, go_sem]
   exact Runs.ret_refl
def inrAnn : Ann := [(0, [0, 3, 4])]
def inrSt (b : List Int) (k : Nat) : St := ⟨[.sl .sh (b.map u8A), .any, .any, .ms (.l 0) 0 k k, .v (.int .i64 ((b.length : Int) - 1 - 2 * k)), .any, .any, .any, .any, .any, .any, .any, .any, .any, .any, .any, .any, .any, .any, .any, .any, .any, .any, .any, .any, .any, .any, .any, .any, .any, .any, .any, .any, .any, .any, .any], [(0, ⟨true, 1, false, (dgs b k).map intA⟩)], []⟩
set_option maxRecDepth 10000 in
set_option maxHeartbeats 2000000 in
include hm in
theorem inr (b : List Int) (hb : BytesOk b) (hl : b.length ≤ 128) : Holds Tryz.prog 57 [.sl .sh (b.map u8A)] [] (.sl (.ow 1) ((natRd b).map intA)) [] := by
 have hlen : (b.map u8A).length = b.length := List.length_map _
 have dl := hlen
 refine holds_ref (ann := inrAnn) tabOk hm (byL [] [95]) Tryz.func57 (by kernel_rfl) rfl ?_
 have w0 : IntKind.i64.wrap ((b.length : Int) - 1) = (b.length : Int) - 1 := wrap_i64 (by omega) (by omega)
 simp +decide (maxSteps := 9^7) only [↓reduceIte, Tryz.f57, hlen, w0, dl, go_sem]
 refine Runs.while (α := Nat) (inrSt b) (fun k => b.length + 1 - 2 * k) (fun k => 2 * k ≤ b.length + 1) 0 (by omega) ?_ ?_
 ·simp [go_sem, inrAnn, inrSt, dgs]
 intro k hk ih
 by_cases hlt : 2 * k < b.length
 ·have d0 : decide ((b.length : Int) - 1 - 2 * k ≥ 0) = true := decide_eq_true (by omega)
  have g1 := bt_get (b := b) (i := b.length - 1 - 2 * k) (by omega)
  have x1 := bt_rng hb (b.length - 1 - 2 * k)
  have e1 : ((b.length : Int) - 1 - 2 * k).toNat = b.length - 1 - 2 * k := by omega
  have r1 : decide (0 ≤ (b.length : Int) - 1 - 2 * k ∧ (b.length : Int) - 1 - 2 * k < (b.length : Int)) = true := decide_eq_true (by omega)
  have k1 : IntKind.i64.wrap (bt b (b.length - 1 - 2 * k)) = bt b (b.length - 1 - 2 * k) := wrap_i64 (by omega) (by omega)
  have w2 : IntKind.i64.wrap ((b.length : Int) - 1 - 2 * k - 2) = (b.length : Int) - 1 - 2 * ((k + 1 : Nat) : Int) := by rw [wrap_i64 (by omega) (by omega)]; omega
  have ll := dgs_len b k
  have rs := dgs_succ b k
  have dk : decide (k + 1 ≤ 1073741824) = true := decide_eq_true (by omega)
  by_cases h1 : 1 ≤ b.length - 1 - 2 * k
  ·have dg : dgA b k = bt b (b.length - 1 - 2 * k) + 256 * bt b (b.length - 2 - 2 * k) := by rw [dgA, if_pos h1]
   have g2 := bt_get (b := b) (i := b.length - 2 - 2 * k) (by omega)
   have x2 := bt_rng hb (b.length - 2 - 2 * k)
   have d1 : decide ((b.length : Int) - 1 - 2 * k > 0) = true := decide_eq_true (by omega)
   have w3 : IntKind.i64.wrap ((b.length : Int) - 1 - 2 * k - 1) = (b.length : Int) - 2 - 2 * k := by rw [wrap_i64 (by omega) (by omega)]; omega
   have e2 : ((b.length : Int) - 2 - 2 * k).toNat = b.length - 2 - 2 * k := by omega
   have r2 : decide (0 ≤ (b.length : Int) - 2 - 2 * k ∧ (b.length : Int) - 2 - 2 * k < (b.length : Int)) = true := decide_eq_true (by omega)
   have k2 : IntKind.i64.wrap (bt b (b.length - 2 - 2 * k)) = bt b (b.length - 2 - 2 * k) := wrap_i64 (by omega) (by omega)
   have m2 : IntKind.i64.wrap (256 * bt b (b.length - 2 - 2 * k)) = 256 * bt b (b.length - 2 - 2 * k) := wrap_i64 (by omega) (by omega)
   have m3 : IntKind.i64.wrap (bt b (b.length - 2 - 2 * k) * 2 ^ 8) = 256 * bt b (b.length - 2 - 2 * k) := by rw [wrap_i64 (by omega) (by omega)]; omega
   have m4 : IntKind.i64.wrap (bt b (b.length - 2 - 2 * k) * 256) = 256 * bt b (b.length - 2 - 2 * k) := by rw [wrap_i64 (by omega) (by omega)]; omega
   have s2 : IntKind.i64.wrap (bt b (b.length - 1 - 2 * k) + 256 * bt b (b.length - 2 - 2 * k)) = dgA b k := by rw [wrap_i64 (by omega) (by omega), dg]
   generalize dgA b k = dd at *
   simp +decide (maxSteps := 9^7) only [↓reduceIte, inrSt, hlen, d0, g1, e1, r1, k1, d1, w3, g2, e2, r2, k2, m2, m3, m4, s2, ll, dk, w2, ← rs, go_sem]
   refine ih (k + 1) _ (by omega) (by omega) ?_
   simp [go_sem, inrAnn, inrSt, m4, s2, rs]
  ·have dg : dgA b k = bt b (b.length - 1 - 2 * k) := by rw [dgA, if_neg h1, Int.add_zero]
   have d1 : decide ((b.length : Int) - 1 - 2 * k > 0) = false := decide_eq_false (by omega)
   rw [dg] at rs
   simp +decide (maxSteps := 9^7) only [↓reduceIte, inrSt, hlen, d0, g1, e1, r1, k1, d1, ll, dk, w2, ← rs, go_sem]
   refine ih (k + 1) _ (by omega) (by omega) ?_
   simp [go_sem, inrAnn, inrSt]
 ·have d0 : decide ((b.length : Int) - 1 - 2 * k ≥ 0) = false := decide_eq_false (by omega)
  have ek : k = (b.length + 1) / 2 := by omega
  have tk : List.take k ((dgs b k).map intA) = (dgs b k).map intA := List.take_of_length_le (by simp [dgs])
  have cn := trimmed hm (dgs b k) (by simp [dgs]; omega)
  have er : natRd b = nmL (dgs b k) := by rw [natRd, ← ek]
  rw [er]
  simp +decide (maxSteps := 9^7) only [↓reduceIte, inrSt, d0, tk, dgs_len, go_sem]
  refine Runs.call cn ?_
  simp +decide (maxSteps := 9^7) only [↓reduceIte, go_sem]
  exact Runs.ret_refl
end Go.Proofs.W

namespace Go.Proofs.W
open Go Go.AM Go.Proofs.G
set_option maxRecDepth 10000
variable (hm : Tryz.prog.follows .mixedOrders = true)
theorem orI_add {x y k : Nat} (hy : y < 2 ^ k) (hx : 2 ^ k * x + y < 2 ^ 63) : orI .i64 ((2 ^ k * x : Nat) : Int) (y : Int) = ((2 ^ k * x + y : Nat) : Int) := by
 have h1 : 2 ^ k * x < 2 ^ 63 := by omega
 have h2 : y < 2 ^ 63 := by omega
 show IntKind.i64.wrap (((BitVec.ofInt 64 ((2 ^ k * x : Nat) : Int) ||| BitVec.ofInt 64 (y : Int)).toNat : Nat) : Int) = _
 rw [BitVec.ofInt_natCast, BitVec.ofInt_natCast, BitVec.toNat_or, BitVec.toNat_ofNat, BitVec.toNat_ofNat, Nat.mod_eq_of_lt (by omega), Nat.mod_eq_of_lt (by omega), ← Nat.two_pow_add_eq_or_of_lt hy x]
 exact wrap_i64 (by omega) (by omega)
theorem or3 {c0 c1 c2 : Int} (h0 : 0 ≤ c0 ∧ c0 < 256) (h1 : 0 ≤ c1 ∧ c1 < 256) (h2 : 0 ≤ c2 ∧ c2 < 256) : orI .i64 (c0 * 65536) (c1 * 256) = c0 * 65536 + c1 * 256 ∧ orI .i64 (c0 * 65536 + c1 * 256) c2 = c0 * 65536 + c1 * 256 + c2 := by
 obtain ⟨a, rfl⟩ := Int.eq_ofNat_of_zero_le h0.1
 obtain ⟨b, rfl⟩ := Int.eq_ofNat_of_zero_le h1.1
 obtain ⟨c, rfl⟩ := Int.eq_ofNat_of_zero_le h2.1
 have e1 := orI_add (x := a) (y := b * 256) (k := 16) (by omega) (by omega)
 have e2 := orI_add (x := a * 256 + b) (y := c) (k := 8) (by omega) (by omega)
 have q1 : ((2 ^ 16 * a : Nat) : Int) = (a : Int) * 65536 := by omega
 have q2 : ((b * 256 : Nat) : Int) = (b : Int) * 256 := by omega
 have q3 : ((2 ^ 16 * a + b * 256 : Nat) : Int) = (a : Int) * 65536 + (b : Int) * 256 := by omega
 have q4 : ((2 ^ 8 * (a * 256 + b) : Nat) : Int) = (a : Int) * 65536 + (b : Int) * 256 := by omega
 have q5 : ((2 ^ 8 * (a * 256 + b) + c : Nat) : Int) = (a : Int) * 65536 + (b : Int) * 256 + (c : Int) := by omega
 rw [q1, q2, q3] at e1
 rw [q4, q5] at e2
 exact ⟨e1, e2⟩
def rd3 (b : List Int) : Int := bt b 0 * 65536 + bt b 1 * 256 + bt b 2
theorem bt_get3 {b : List Int} (h : 3 ≤ b.length) : (b.map u8A).getD 0 .any = .v (.int .u8 (bt b 0)) ∧ (b.map u8A).getD 1 .any = .v (.int .u8 (bt b 1)) ∧ (b.map u8A).getD 2 .any = .v (.int .u8 (bt b 2)) := ⟨bt_get (by omega), bt_get (by omega), bt_get (by omega)⟩
def otS : Sched := .take 0 (.take 1 (.take 5 (.take 6 (.take 11 (.take 12 (.ld 2 (.cv 3 (.take 4 (.ld 7 (.cv 8 (.take 9 (.take 10 (.ld 13 (.cv 14 (.take 15 (.take 16 .fin))))))))))))))))
attribute [local go_sem] otS
include hm in
theorem ofThree (b : List Int) (hb : BytesOk b) (h : 3 ≤ b.length) : Holds Tryz.prog 98 [.sl .sh (b.map u8A)] [] (.v (.int .i64 (rd3 b))) [] := by
 have hlen : (b.map u8A).length = b.length := List.length_map _
 obtain ⟨g0, g1, g2⟩ := bt_get3 h
 have x0 := bt_rng hb 0
 have x1 := bt_rng hb 1
 have x2 := bt_rng hb 2
 have r0 : decide ((0 : Int) < (b.length : Int)) = true := decide_eq_true (by omega)
 have r1 : decide ((1 : Int) < (b.length : Int)) = true := decide_eq_true (by omega)
 have r2 : decide ((2 : Int) < (b.length : Int)) = true := decide_eq_true (by omega)
 have k0 : IntKind.i64.wrap (bt b 0) = bt b 0 := wrap_i64 (by omega) (by omega)
 have k1 : IntKind.i64.wrap (bt b 1) = bt b 1 := wrap_i64 (by omega) (by omega)
 have k2 : IntKind.i64.wrap (bt b 2) = bt b 2 := wrap_i64 (by omega) (by omega)
 have m0 : IntKind.i64.wrap (bt b 0 * 65536) = bt b 0 * 65536 := wrap_i64 (by omega) (by omega)
 have m1 : IntKind.i64.wrap (bt b 1 * 256) = bt b 1 * 256 := wrap_i64 (by omega) (by omega)
 obtain ⟨s1, s2⟩ := or3 x0 x1 x2
 have s3 : bt b 0 * 65536 + bt b 1 * 256 + bt b 2 = rd3 b := rfl
 rw [s3] at s2
 have p16 : (2 : Int) ^ 16 = 65536 := by decide
 have p8 : (2 : Int) ^ 8 = 256 := by decide
 have t2 : Int.toNat 2 = 2 := rfl
 refine holds_of (ann := []) tabOk hm Tryz.func98 (by kernel_rfl) rfl ?_
 simp +decide (maxSteps := 9^7) only [↓reduceIte, Tryz.f98, hlen, go_sem]
 refine Runs.draw (st1 := ?s1) (draws_ref (ann := []) tabOk noBy otS (by kernel_rfl) ?p1) ?q1
 case p1 =>
  intro K r X hK
  simp +decide (maxSteps := 9^7) only [↓reduceIte, hlen, g0, g1, g2, r0, r1, r2, k0, k1, k2, m0, m1, s1, s2, p16, p8, s8, s16', IntKind.bits, Int.toNat_zero, Int.toNat_one, t2, go_sem]
  exact hK
 case q1 =>
  simp +decide (maxSteps := 9^7) only [↓reduceIte, go_sem]
  exact Runs.ret_refl
def riAnn : Ann := [(0, [0, 1, 18, 19])]
def riSt (a : Int) (p : Nat) (i : Nat) : St := ⟨[.v (.int .i64 a), .v (.int .i64 p), .any, .any, .any, .any, .any, .any, .any, .any, .any, .any, .any, .any, .any, .any, .any, .any, .v (.int .i64 p), .v (.int .i64 i), .any, .any, .any, .any, .any, .any, .any, .any, .any, .any, .any], [], []⟩
set_option maxHeartbeats 1000000 in
include hm in
theorem rootInt (a : Int) (p : Nat) (h0 : 0 ≤ a) (h1 : 3 ≤ p) (h2 : p ≤ 1048576) : Holds Tryz.prog 99 [.v (.int .i64 a), .v (.int .i64 p)] [] (.tup [.v (.int .i64 (rootI a p).1), .v (.bool (rootI a p).2)]) [] := by
 have cp := powInt hm a p ((p - 1) / 2) h0 (by omega) (by omega) (by omega)
 have w1 : IntKind.i64.wrap ((p : Int) - 1) = (p : Int) - 1 := wrap_i64 (by omega) (by omega)
 have w2 : IntKind.i64.wrap (((p : Int) - 1).tdiv 2) = (((p - 1) / 2 : Nat) : Int) := by rw [Int.tdiv_eq_ediv_of_nonneg (by omega), wrap_i64 (by omega) (by omega)]; omega
 have er : rootI a p = if a ≠ 0 ∧ powZ a ((p - 1) / 2) p ≠ 1 then (0, false) else rootGo a p p 0 := by rw [rootI, Int.toNat_natCast]
 have bad : a ≠ 0 → powZ a ((p - 1) / 2) p ≠ 1 → Holds Tryz.prog 99 [.v (.int .i64 a), .v (.int .i64 p)] [] (.tup [.v (.int .i64 (rootI a p).1), .v (.bool (rootI a p).2)]) [] := by
  intro ha hp
  rw [er, if_pos ⟨ha, hp⟩]
  have d0 : decide (a = 0) = false := by simpa using ha
  have d1 : decide (powZ a ((p - 1) / 2) p = 1) = false := by simpa using hp
  refine holds_of (ann := riAnn) tabOk hm Tryz.func99 (by kernel_rfl) rfl ?_
  simp +decide (maxSteps := 9^7) only [↓reduceIte, Tryz.f99, d0, w1, w2, go_sem]
  refine Runs.call cp ?_
  simp +decide (maxSteps := 9^7) only [↓reduceIte, d1, go_sem]
  exact Runs.ret_refl
 have good : (a = 0 ∨ powZ a ((p - 1) / 2) p = 1) → Holds Tryz.prog 99 [.v (.int .i64 a), .v (.int .i64 p)] [] (.tup [.v (.int .i64 (rootI a p).1), .v (.bool (rootI a p).2)]) [] := by
  intro hg
  rw [er, if_neg (by rintro ⟨x, y⟩; exact hg.elim x y)]
  refine holds_of (ann := riAnn) tabOk hm Tryz.func99 (by kernel_rfl) rfl ?_
  by_cases ha : a = 0
  case' pos =>
   have d0 : decide (a = 0) = true := by simpa using ha
   simp +decide (maxSteps := 9^7) only [↓reduceIte, Tryz.f99, d0, go_sem]
  case' neg =>
   have d0 : decide (a = 0) = false := by simpa using ha
   have d1 : decide (powZ a ((p - 1) / 2) p = 1) = true := by simpa using hg.resolve_left ha
   simp +decide (maxSteps := 9^7) only [↓reduceIte, Tryz.f99, d0, w1, w2, go_sem]
   refine Runs.call cp ?_
   simp +decide (maxSteps := 9^7) only [↓reduceIte, d1, go_sem]
  all_goals
   refine Runs.while (α := Nat) (riSt a p) (fun i => p - i) (fun i => i ≤ p ∧ rootGo a p (p - i) i = rootGo a p p 0) 0 ⟨by omega, rfl⟩ ?_ ?_
   ·simp [go_sem, riAnn, riSt]
   intro i ⟨hi, hr⟩ ih
   by_cases hlt : i < p
   ·have d2 : decide ((i : Int) < (p : Int)) = true := decide_eq_true (by omega)
    have hb := mul_bd (a := i) (b := i) (m := p) ⟨by omega, by omega⟩ ⟨by omega, by omega⟩ (by omega)
    have w3 : IntKind.i64.wrap ((i : Int) * i) = (i : Int) * i := wrap_i64 (by omega) (by omega)
    have m3 : ((i : Int) * i).tmod p = (i : Int) * i % p := Int.tmod_eq_emod_of_nonneg hb.1
    have w4 : IntKind.i64.wrap ((i : Int) + 1) = ((i + 1 : Nat) : Int) := by rw [wrap_i64 (by omega) (by omega)]; rfl
    have dp : decide (¬ (p : Int) = 0) = true := decide_eq_true (by omega)
    have e : p - i = (p - (i + 1)) + 1 := by omega
    rw [e, rootGo] at hr
    by_cases hq : (i : Int) * i % p = a
    ·have d3 : decide ((i : Int) * i % p = a) = true := by simpa using hq
     rw [if_pos hq] at hr
     rw [← hr]
     simp +decide (maxSteps := 9^7) only [↓reduceIte, riSt, d2, w3, m3, dp, d3, go_sem]
     exact Runs.ret_refl
    ·have d3 : decide ((i : Int) * i % p = a) = false := by simpa using hq
     rw [if_neg hq] at hr
     simp +decide (maxSteps := 9^7) only [↓reduceIte, riSt, d2, w3, m3, dp, d3, w4, go_sem]
     refine ih (i + 1) _ (by omega) ⟨by omega, hr⟩ ?_
     simp [go_sem, riAnn, riSt]
   ·have d2 : decide ((i : Int) < (p : Int)) = false := decide_eq_false (by omega)
    have e : p - i = 0 := by omega
    rw [e, rootGo] at hr
    rw [← hr]
    simp +decide (maxSteps := 9^7) only [↓reduceIte, riSt, d2, go_sem]
    exact Runs.ret_refl
 by_cases ha : a = 0
 ·exact good (.inl ha)
 ·by_cases hp : powZ a ((p - 1) / 2) p = 1
  ·exact good (.inr hp)
  ·exact bad ha hp
def ptByS (q : GPt) (short : Bool) : List Int := if q.far = true then [0] else if short = true then IntKind.u8.wrap (2 + q.y.tmod 2) :: threeB q.x else ptBy q
def ipbT : Sched := .take 0 (.take 6 (.ld 1 (.take 2 (.take 3 (.ld 7 (.alt 4 (.alt 5 (.alt 8 (.alt 9 (.take 10 .fin) .nil) .nil) (.alt 8 (.alt 5 (.alt 9 (.take 10 .fin) .nil) .nil) .nil)) (.alt 8 (.alt 4 (.alt 5 (.alt 9 (.take 10 .fin) .nil) .nil) .nil) .nil)))))))
attribute [local go_sem] ipbT
set_option maxHeartbeats 1000000 in
include hm in
theorem iPtBy (q : GPt) (short : Bool) (hy : 0 ≤ q.y ∧ q.y ≤ 1048576) : Holds Tryz.prog 51 [ptA q, .v (.bool short)] [] (.sl (.ow 1) ((ptByS q short).map u8A)) [] := by
 have mk : short = false → q.far = false → Holds Tryz.prog 51 [ptA q, .v (.bool short)] [] (.sl (.ow 1) ((ptByS q short).map u8A)) [] := by
  intro h1 h2
  have e : ptByS q short = ptBy q := by rw [ptByS, if_neg (by simp [h2]), if_neg (by simp [h1])]
  rw [e, h1]
  exact iPointBytes hm q h2
 by_cases hf : q.far = true
 ·rw [ptByS, if_pos hf]
  refine holds_ref (ann := []) tabOk hm (byL [] [1000002]) Tryz.func51 (by kernel_rfl) rfl ?_
  simp +decide (maxSteps := 9^7) only [↓reduceIte, Tryz.f51, ptA, hf, go_sem]
  exact Runs.ret_refl
 have hf' : q.far = false := by simpa using hf
 cases short with
 | false => exact mk rfl hf'
 | true =>
  have h1 := iThree hm q.x
  rw [threeB] at h1
  simp only [List.map_cons, List.map_nil] at h1
  have m1 : IntKind.i64.wrap (2 + q.y.tmod 2) = 2 + q.y.tmod 2 := by rw [Int.tmod_eq_emod_of_nonneg hy.1]; exact wrap_i64 (by omega) (by omega)
  rw [ptByS, if_neg hf, if_pos rfl]
  refine holds_ref (ann := []) tabOk hm (byL [] [1000002]) Tryz.func51 (by kernel_rfl) rfl ?_
  simp +decide (maxSteps := 9^7) only [↓reduceIte, Tryz.f51, ptA, hf', go_sem]
  refine Runs.draw (st1 := ?s1) (draws_ref (ann := []) tabOk (byL [] [1000002]) ipbT (by kernel_rfl) ?p1) ?q1
  case p1 =>
   intro K r X hK
   simp +decide (maxSteps := 9^7) only [↓reduceIte, m1, go_sem]
   repeat' (first
    | apply And.intro
    | exact hK
    | (refine Runs.call h1 ?_; simp +decide (maxSteps := 9^7) only [↓reduceIte, m1, go_sem])
    | fail)
  case q1 =>
   simp +decide (maxSteps := 9^7) only [↓reduceIte, threeB, List.map_cons, List.map_nil, go_sem]
   exact Runs.ret_refl
end Go.Proofs.W

namespace Go.Proofs.W
open Go Go.AM Go.Proofs.G
variable (hm : Tryz.prog.follows .mixedOrders = true)
theorem wrap_u8_mod (n : Int) : IntKind.u8.wrap n = n % 256 := by
 unfold IntKind.wrap
 simp only [IntKind.bits, IntKind.signed]
 simp
theorem threeB_eq {x : Int} : threeB x = [x / 65536 % 256, x / 256 % 256, x % 256] := by
 simp only [threeB, wrap_u8_mod, Int.fdiv_eq_ediv_of_nonneg _ (show (0 : Int) ≤ 2 ^ 16 by omega), Int.fdiv_eq_ediv_of_nonneg _ (show (0 : Int) ≤ 2 ^ 8 by omega)]
 rfl
theorem rd3_three {x : Int} (h : 0 ≤ x ∧ x ≤ 1048576) (r : List Int) : rd3 (threeB x ++ r) = x := by
 rw [threeB_eq]
 show x / 65536 % 256 * 65536 + x / 256 % 256 * 256 + x % 256 = x
 omega
theorem rd3_in {b : List Int} (hb : BytesOk b) : 0 ≤ rd3 b ∧ rd3 b < 16777216 := by
 have x0 := bt_rng hb 0
 have x1 := bt_rng hb 1
 have x2 := bt_rng hb 2
 unfold rd3; omega
theorem ptBy_len (q : GPt) : (ptBy q).length = 7 := by simp [ptBy, threeB]
theorem ptBy_rd {q : GPt} (hx : 0 ≤ q.x ∧ q.x ≤ 1048576) (hy : 0 ≤ q.y ∧ q.y ≤ 1048576) : bt (ptBy q) 0 = 4 ∧ rd3 (((ptBy q).take 4).drop 1) = q.x ∧ rd3 (((ptBy q).take 7).drop 4) = q.y ∧ rd3 ((ptBy q).drop 1) = q.x ∧ rd3 ((ptBy q).drop 4) = q.y := by
 have e1 := rd3_three hx []
 have e2 := rd3_three hy []
 have e3 := rd3_three hx (threeB q.y)
 rw [List.append_nil] at e1 e2
 exact ⟨rfl, e1, e2, e3, e2⟩
theorem BytesOk.sub {b : List Int} (h : BytesOk b) (i j : Nat) : BytesOk ((b.take j).drop i) := fun x hx => h x (List.mem_of_mem_take (List.mem_of_mem_drop hx))
theorem BytesOk.dr {b : List Int} (h : BytesOk b) (i : Nat) : BytesOk (b.drop i) := fun x hx => h x (List.mem_of_mem_drop hx)
def pt0A : A := .agg [.v (.int .i64 0), .v (.int .i64 0), .v (.bool false)]
end Go.Proofs.W

namespace Go.Proofs.W
open Go Go.AM Go.Proofs.G
variable (hm : Tryz.prog.follows .mixedOrders = true)
def pdA (p : Nat) (a c : Int) (b : List Int) : Option GPt :=
 if b.length = 1 then some ⟨0, 0, true⟩ else if b.length = 7 then some ⟨rd3 (b.drop 1), rd3 (b.drop 4), false⟩
 else if b.length = 4 then
  if rd3 (b.drop 1) ≥ p then none
  else if (rootI (((rd3 (b.drop 1) * rd3 (b.drop 1) + a) % p * rd3 (b.drop 1) + c) % p) p).2 = false then none
  else some ⟨rd3 (b.drop 1), if (rootI (((rd3 (b.drop 1) * rd3 (b.drop 1) + a) % p * rd3 (b.drop 1) + c) % p) p).1 % 2 = bt b 0 % 2 then (rootI (((rd3 (b.drop 1) * rd3 (b.drop 1) + a) % p * rd3 (b.drop 1) + c) % p) p).1 else (p - (rootI (((rd3 (b.drop 1) * rd3 (b.drop 1) + a) % p * rd3 (b.drop 1) + c) % p) p).1) % p, false⟩
 else some ⟨0, 0, false⟩
def pdR (p : Nat) (a c : Int) (b : List Int) : GPt × Bool := match pdA p a c b with
 | none => (⟨0, 0, false⟩, false)
 | some q => if onZ p a c q = true ∧ ptByS q (decide (b.length = 4)) = b then (q, true) else (⟨0, 0, false⟩, false)
theorem threeB_ok (x : Int) : BytesOk (threeB x) := by
 rw [threeB_eq]
 intro y hy
 simp only [List.mem_cons, List.not_mem_nil, or_false] at hy
 omega
theorem BytesOk.app' {l m : List Int} (h1 : BytesOk l) (h2 : BytesOk m) : BytesOk (l ++ m) := fun x hx => (List.mem_append.mp hx).elim (h1 x) (h2 x)
theorem BytesOk.cons' {x : Int} {l : List Int} (h1 : 0 ≤ x ∧ x < 256) (h2 : BytesOk l) : BytesOk (x :: l) := fun y hy => (List.mem_cons.mp hy).elim (fun e => e ▸ h1) (h2 y)
theorem ptByS_ok (q : GPt) (s : Bool) : BytesOk (ptByS q s) := by
 unfold ptByS
 split
 ·exact .cons' (by omega) (fun x hx => by simp at hx)
 split
 ·exact .cons' (by rw [wrap_u8_mod]; omega) (threeB_ok _)
 ·exact .cons' (by omega) (.app' (threeB_ok _) (threeB_ok _))
theorem pdR_of {p : Nat} {a c : Int} (hp : 5 ≤ p ∧ p ≤ 1048576) {q : GPt} (hf : q.far = false) (h : onZ p a c q = true) : pdR p a c (ptBy q) = (q, true) := by
 obtain ⟨i1, i2⟩ := onZ_in (show (0 : Int) < p by omega) h
 obtain ⟨_, _, _, h3, h4⟩ := ptBy_rd (q := q) (by omega) (by omega)
 have hl := ptBy_len q
 have e : pdA p a c (ptBy q) = some q := by
  rw [pdA, if_neg (by omega), if_pos hl, h3, h4]
  obtain ⟨x, y, f⟩ := q
  simp only at hf ⊢
  rw [hf]
 rw [pdR, e]
 simp only
 rw [if_pos ⟨h, by rw [ptByS, if_neg (by simp [hf]), if_neg (by simp [hl])]⟩]
def pdS5 : Sched := .take 0 (.take 3 (.alt 1 (.alt 2 (.take 6 (.alt 4 (.alt 5 (.alt 7 (.take 8 (.alt 9 .fin .nil)) .nil) .nil) .nil)) (.alt 4 (.alt 2 (.take 6 (.alt 5 (.alt 7 (.take 8 (.alt 9 .fin .nil)) .nil) .nil)) .nil) .nil)) (.alt 4 (.alt 1 (.alt 2 (.take 6 (.alt 5 (.alt 7 (.take 8 (.alt 9 .fin .nil)) .nil) .nil)) .nil) .nil) .nil)))
def pdS10 : Sched := .take 0 (.take 2 (.take 5 (.take 8 (.take 11 (.take 14 (.take 17 (.take 20 (.ld 6 (.ld 9 (.ld 15 (.ld 18 (.ld 21 (.alt 1 (.alt 3 (.take 4 (.take 7 (.take 10 (.alt 12 (.take 13 (.take 16 (.take 19 (.alt 22 (.take 23 (.take 24 (.take 25 (.take 26 (.take 27 .fin))))) .nil)))) .nil)))) (.alt 12 (.alt 3 (.take 4 (.take 7 (.take 10 (.take 13 (.take 16 (.take 19 (.alt 22 (.take 23 (.take 24 (.take 25 (.take 26 (.take 27 .fin))))) .nil))))))) .nil) .nil)) (.alt 3 (.alt 1 (.take 4 (.take 7 (.take 10 (.alt 12 (.take 13 (.take 16 (.take 19 (.alt 22 (.take 23 (.take 24 (.take 25 (.take 26 (.take 27 .fin))))) .nil)))) .nil)))) (.alt 12 (.alt 1 (.take 4 (.take 7 (.take 10 (.take 13 (.take 16 (.take 19 (.alt 22 (.take 23 (.take 24 (.take 25 (.take 26 (.take 27 .fin))))) .nil))))))) .nil) .nil)) (.alt 12 (.alt 1 (.alt 3 (.take 4 (.take 7 (.take 10 (.take 13 (.take 16 (.take 19 (.alt 22 (.take 23 (.take 24 (.take 25 (.take 26 (.take 27 .fin))))) .nil))))))) .nil) (.alt 3 (.alt 1 (.take 4 (.take 7 (.take 10 (.take 13 (.take 16 (.take 19 (.alt 22 (.take 23 (.take 24 (.take 25 (.take 26 (.take 27 .fin))))) .nil))))))) .nil) .nil)) .nil)))))))))))))))
attribute [local go_sem] pdS5 pdS10
def pdK : List Nat := [1, 2, 4, 6]
def pdBy : Nat → AM.Mode := byJ [(16, pdK)] (byL [] [1000002])
attribute [local go_sem] pdBy pdK
def pdSt (k : GCv) (b : List Int) (q : GPt) : St := ⟨[.any, .sl .sh (b.map u8A), .ptr [cvA k] 0 0, .any, .ref (.l 0) 0 0 1, .any, .ref (.l 1) 0 0 1, .any, .any, .any, .any, .any, .any, .any, .any, .any, .any, .any, .any, .any, .any, .any, .any, .any, .any, .any, .any, .any, .any, .any, .any, .any, .any, .any, .any, .any, .any, .any, .any, .any, .any, .any, .any, .any, .any, .any, .any, .any, .any, .any, .any, .any, .any, .any, .any, .any, .any, .any, .any, .any, .any, .any, .any, .any, .any, .any, .any, .any, .any, .any, .any, .any, .any, .any, .any, .any, .any, .any, .any, .any, .any, .any, .any, .any, .any, .any, .any, .any, .any, .any, .any, .any, .any, .any, .any, .any, .any, .any, .any, .any, .any, .any, .any, .any], [(0, ⟨true, 3, true, [pt0A]⟩), (1, ⟨true, 3, true, [ptA q]⟩)], []⟩
set_option maxRecDepth 10000 in
set_option maxHeartbeats 4000000 in
include hm in
theorem pointRead (k : GCv) (p : Nat) (hkp : k.p = p) (b : List Int) (hk : CvIn k) (hb : BytesOk b) (hl : b.length ≤ 1073741824) : Holds Tryz.prog 59 [cvA k, .sl .sh (b.map u8A)] [] (.tup [ptA (pdR p k.a k.b b).1, .v (.bool (pdR p k.a k.b b).2)]) [] := by
 have hlen : (b.map u8A).length = b.length := List.length_map _
 obtain ⟨p', a, c, n, gx, gy⟩ := k
 simp only at hkp
 subst hkp
 obtain ⟨hp1, hp2, ha, hc⟩ := hk
 simp only at hp1 hp2 ha hc ⊢
 refine holds_ref (ann := []) tabOk hm pdBy Tryz.func59 (by kernel_rfl) rfl ?_
 simp +decide (maxSteps := 9^7) only [↓reduceIte, Tryz.f59, cvA, hlen, go_sem]
 refine Runs.meet (α := { q : GPt // pdA p a c b = some q }) (keep := pdK) (kj := ?kj) (fun q => pdSt ⟨p, a, c, n, gx, gy⟩ b q.1) ?tail ?h1 ?h2
 case h1 =>
  intro J e
  have l1 : b.length = 1 := by simp at e; omega
  simp +decide (maxSteps := 9^7) only [↓reduceIte, go_sem]
  refine J ⟨⟨0, 0, true⟩, by rw [pdA, if_pos l1]⟩ _ ?_
  simp [go_sem, pdSt, pdK, pt0A, cvA, ptA]
 case h2 =>
  intro J e
  have l1 : b.length ≠ 1 := by simp at e; omega
  have d1 : decide ((b.length : Int) = 1) = false := decide_eq_false (by omega)
  by_cases l7 : b.length = 7
  ·have d7 : decide ((b.length : Int) = 7) = true := decide_eq_true (by omega)
   have c1 := ofThree hm (b.drop 1) (hb.dr _) (by simp; omega)
   have c2 := ofThree hm (b.drop 4) (hb.dr _) (by simp; omega)
   have e1 : List.drop 1 (b.map u8A) = (b.drop 1).map u8A := List.map_drop.symm
   have e2 : List.drop 4 (b.map u8A) = (b.drop 4).map u8A := List.map_drop.symm
   have s1 : decide ((1 : Int) ≤ (b.length : Int) ∧ (b.length : Int) ≤ (b.length : Int)) = true := decide_eq_true (by omega)
   have s2 : decide ((4 : Int) ≤ (b.length : Int) ∧ (b.length : Int) ≤ (b.length : Int)) = true := decide_eq_true (by omega)
   have s4 : decide ((4 : Int) ≤ (b.length : Int)) = true := decide_eq_true (by omega)
   have s5 : decide ((1 : Int) ≤ (b.length : Int)) = true := decide_eq_true (by omega)
   have t4 : Int.toNat 4 = 4 := rfl
   simp +decide (maxSteps := 9^7) only [↓reduceIte, hlen, d7, go_sem]
   apply Runs.draw
   ·apply draws_ref (ann := []) tabOk pdBy pdS5 (by kernel_rfl)
    intro K r X' hK
    simp +decide (maxSteps := 9^7) only [↓reduceIte, hlen, e1, e2, s1, s2, s4, s5, Int.toNat_one, t4, go_sem]
    repeat' (first
     | apply And.intro
     | exact hK
     | (refine Runs.call c1 ?_; simp +decide (maxSteps := 9^7) only [↓reduceIte, hlen, e1, e2, s1, s2, s4, s5, Int.toNat_one, t4, go_sem])
     | (refine Runs.call c2 ?_; simp +decide (maxSteps := 9^7) only [↓reduceIte, hlen, e1, e2, s1, s2, s4, s5, Int.toNat_one, t4, go_sem])
     | fail)
   ·simp +decide (maxSteps := 9^7) only [↓reduceIte, go_sem]
    refine J ⟨⟨rd3 (b.drop 1), rd3 (b.drop 4), false⟩, by rw [pdA, if_neg l1, if_pos l7]⟩ _ ?_
    simp [go_sem, pdSt, pdK, pt0A, cvA, ptA]
  have d7 : decide ((b.length : Int) = 7) = false := decide_eq_false (by omega)
  by_cases l4 : b.length = 4
  rotate_left 1
  ·have d4 : decide ((b.length : Int) = 4) = false := decide_eq_false (by omega)
   simp +decide (maxSteps := 9^7) only [↓reduceIte, hlen, d7, d4, go_sem]
   refine J ⟨⟨0, 0, false⟩, by rw [pdA, if_neg l1, if_neg l7, if_neg l4]⟩ _ ?_
   simp [go_sem, pdSt, pdK, pt0A, cvA, ptA]
  have d4 : decide ((b.length : Int) = 4) = true := decide_eq_true (by omega)
  have c1 := ofThree hm (b.drop 1) (hb.dr _) (by simp; omega)
  have e1 : List.drop 1 (b.map u8A) = (b.drop 1).map u8A := List.map_drop.symm
  have s1 : decide ((1 : Int) ≤ (b.length : Int) ∧ (b.length : Int) ≤ (b.length : Int)) = true := decide_eq_true (by omega)
  have s5 : decide ((1 : Int) ≤ (b.length : Int)) = true := decide_eq_true (by omega)
  have xr := rd3_in (hb.dr 1)
  have hpd : pdA p a c b = if rd3 (b.drop 1) ≥ p then none
   else if (rootI (((rd3 (b.drop 1) * rd3 (b.drop 1) + a) % p * rd3 (b.drop 1) + c) % p) p).2 = false then none
   else some ⟨rd3 (b.drop 1), if (rootI (((rd3 (b.drop 1) * rd3 (b.drop 1) + a) % p * rd3 (b.drop 1) + c) % p) p).1 % 2 = bt b 0 % 2 then (rootI (((rd3 (b.drop 1) * rd3 (b.drop 1) + a) % p * rd3 (b.drop 1) + c) % p) p).1 else (p - (rootI (((rd3 (b.drop 1) * rd3 (b.drop 1) + a) % p * rd3 (b.drop 1) + c) % p) p).1) % p, false⟩ := by rw [pdA, if_neg l1, if_neg l7, if_pos l4]
  simp +decide (maxSteps := 9^7) only [↓reduceIte, hlen, d7, d4, e1, s1, s5, Int.toNat_one, go_sem]
  refine Runs.call c1 ?_
  generalize rd3 (b.drop 1) = x at *
  by_cases hx : x ≥ p
  ·have dx : decide (x ≥ (p : Int)) = true := decide_eq_true hx
   have hr : pdR p a c b = (⟨0, 0, false⟩, false) := by rw [pdR, hpd, if_pos hx]
   rw [hr]
   simp +decide (maxSteps := 9^7) only [↓reduceIte, dx, ptA, go_sem]
   exact Runs.ret_refl
  have dx : decide (x ≥ (p : Int)) = false := decide_eq_false hx
  rw [if_neg hx] at hpd
  have b1 := mul_bd (a := x) (b := x) (m := p) ⟨by omega, by omega⟩ ⟨by omega, by omega⟩ (by omega)
  have hmi := fun n => mod_in' (show (0 : Int) < p by omega) n
  have w1 : IntKind.i64.wrap (x * x) = x * x := wrap_i64 (by omega) (by omega)
  have w2 : IntKind.i64.wrap (x * x + a) = x * x + a := wrap_i64 (by omega) (by omega)
  have m2 : (x * x + a).tmod p = (x * x + a) % p := Int.tmod_eq_emod_of_nonneg (by omega)
  have h2 := hmi (x * x + a)
  have b2 := mul_bd (a := (x * x + a) % p) (b := x) (m := 2097152) ⟨by omega, by omega⟩ ⟨by omega, by omega⟩ (by omega)
  have w3 : IntKind.i64.wrap ((x * x + a) % p * x) = (x * x + a) % p * x := wrap_i64 (by omega) (by omega)
  have w4 : IntKind.i64.wrap ((x * x + a) % p * x + c) = (x * x + a) % p * x + c := wrap_i64 (by omega) (by omega)
  have m4 : ((x * x + a) % p * x + c).tmod p = ((x * x + a) % p * x + c) % p := Int.tmod_eq_emod_of_nonneg (by omega)
  have h4 := hmi ((x * x + a) % p * x + c)
  have dp : decide (¬ (p : Int) = 0) = true := decide_eq_true (by omega)
  have cr := rootInt hm (((x * x + a) % p * x + c) % p) p h4.1 (by omega) (by omega)
  have rr : 0 ≤ (rootI (((x * x + a) % p * x + c) % p) p).1 ∧ (rootI (((x * x + a) % p * x + c) % p) p).1 ≤ p := by
   unfold rootI
   rw [Int.toNat_natCast]
   split
   ·simp
   ·have := rootGo_in (a := ((x * x + a) % p * x + c) % p) (p := p) p 0 (by omega)
    omega
  generalize rootI (((x * x + a) % p * x + c) % p) p = ro at *
  obtain ⟨r, ok⟩ := ro
  simp only at hpd cr rr
  simp +decide (maxSteps := 9^7) only [↓reduceIte, dx, go_sem]
  apply Runs.draw
  ·apply draws_ref (ann := []) tabOk pdBy pdS10 (by kernel_rfl)
   intro K r' X' hK
   simp +decide (maxSteps := 9^7) only [↓reduceIte, w1, w2, m2, w3, w4, m4, dp, go_sem]
   repeat' (first
    | apply And.intro
    | exact hK
    | (refine Runs.call cr ?_; simp +decide (maxSteps := 9^7) only [↓reduceIte, go_sem])
    | fail)
  cases ok with
  | false =>
   have hr : pdR p a c b = (⟨0, 0, false⟩, false) := by rw [pdR, hpd, if_pos rfl]
   rw [hr]
   simp +decide (maxSteps := 9^7) only [↓reduceIte, ptA, go_sem]
   exact Runs.ret_refl
  | true =>
   rw [if_neg (by simp)] at hpd
   have x0 := bt_rng hb 0
   have g0 := bt_get (b := b) (i := 0) (by omega)
   have r0 : decide ((0 : Int) < (b.length : Int)) = true := decide_eq_true (by omega)
   have k0 : IntKind.i64.wrap (bt b 0) = bt b 0 := wrap_i64 (by omega) (by omega)
   have m5 : (bt b 0).tmod 2 = bt b 0 % 2 := Int.tmod_eq_emod_of_nonneg x0.1
   have m6 : r.tmod 2 = r % 2 := Int.tmod_eq_emod_of_nonneg rr.1
   have w7 : IntKind.i64.wrap ((p : Int) - r) = p - r := wrap_i64 (by omega) (by omega)
   have m7 : ((p : Int) - r).tmod p = (p - r) % p := Int.tmod_eq_emod_of_nonneg (by omega)
   by_cases hq : r % 2 = bt b 0 % 2
   ·have dq : decide (r % 2 = bt b 0 % 2) = true := decide_eq_true hq
    rw [if_pos hq] at hpd
    simp +decide (maxSteps := 9^7) only [↓reduceIte, hlen, g0, r0, k0, m5, m6, dq, Int.toNat_zero, go_sem]
    refine J ⟨⟨x, r, false⟩, hpd⟩ _ ?_
    simp [go_sem, pdSt, pdK, pt0A, cvA, ptA]
   ·have dq : decide (r % 2 = bt b 0 % 2) = false := decide_eq_false hq
    rw [if_neg hq] at hpd
    simp +decide (maxSteps := 9^7) only [↓reduceIte, hlen, g0, r0, k0, m5, m6, dq, Int.toNat_zero, w7, m7, dp, go_sem]
    refine J ⟨⟨x, (p - r) % p, false⟩, hpd⟩ _ ?_
    simp [go_sem, pdSt, pdK, pt0A, cvA, ptA]
 case tail =>
  intro ⟨q, hq⟩
  have co := isPoint hm ⟨p, a, c, n, gx, gy⟩ q ⟨hp1, hp2, ha, hc⟩
  rw [cvA, ptA] at co
  simp only at co
  have hr : pdR p a c b = if onZ p a c q = true ∧ ptByS q (decide (b.length = 4)) = b then (q, true) else (⟨0, 0, false⟩, false) := by rw [pdR, hq]
  rw [hr]
  clear hr
  obtain ⟨R, hR⟩ : ∃ R, R = if onZ p a c q = true ∧ ptByS q (decide (b.length = 4)) = b then (q, true) else (⟨0, 0, false⟩, false) := ⟨_, rfl⟩
  rw [← hR]
  simp +decide (maxSteps := 9^7) only [↓reduceIte, pdSt, pt0A, cvA, ptA, go_sem]
  refine Runs.call co ?_
  by_cases ho : onZ p a c q = true
  ·obtain ⟨i1, i2⟩ := onZ_in (show (0 : Int) < p by omega) ho
   have cb := iPtBy hm q (decide (b.length = 4)) (by omega)
   have ce := bytesEqual hm (ptByS q (decide (b.length = 4))) b (ptByS_ok _ _) hb
   have dl : decide ((b.length : Int) = 4) = decide (b.length = 4) := by rw [decide_eq_decide]; omega
   have tk : ∀ l : List Int, List.take l.length (l.map u8A) = l.map u8A := fun l => take_map_len
   rw [ptA] at cb
   simp +decide (maxSteps := 9^7) only [↓reduceIte, ho, hlen, dl, go_sem]
   refine Runs.call cb ?_
   simp +decide (maxSteps := 9^7) only [↓reduceIte, hlen, tk, go_sem]
   refine Runs.call ce ?_
   by_cases hh : ptByS q (decide (b.length = 4)) = b
   ·rw [if_pos ⟨ho, hh⟩] at hR
    subst hR
    simp +decide (maxSteps := 9^7) only [↓reduceIte, hh, ptA, go_sem]
    exact Runs.ret_refl
   ·rw [if_neg (fun h => hh h.2)] at hR
    subst hR
    simp +decide (maxSteps := 9^7) only [↓reduceIte, hh, ptA, go_sem]
    exact Runs.ret_refl
  ·rw [if_neg (fun h => ho h.1)] at hR
   subst hR
   simp +decide (maxSteps := 9^7) only [↓reduceIte, ho, ptA, go_sem]
   exact Runs.ret_refl
end Go.Proofs.W

namespace Go.Proofs.W
open Go Go.AM Go.Proofs.G
variable (hm : Tryz.prog.follows .mixedOrders = true)
def pr0A : A := .agg [.v (.int .i64 0), .v (.int .i64 0)]
end Go.Proofs.W

namespace Go.Proofs.W
open Go Go.AM Go.Proofs.G
variable (hm : Tryz.prog.follows .mixedOrders = true)
theorem orI_comm (k : IntKind) (a b : Int) : orI k a b = orI k b a := by
 unfold orI
 rw [BitVec.or_comm]
theorem and127N : ∀ n : Fin 256, andI .u8 (n.val : Int) 127 = (n.val : Int) % 128 := by decide +kernel
theorem orY {c0 c1 c2 : Int} (h0 : 0 ≤ c0 ∧ c0 < 256) (h1 : 0 ≤ c1 ∧ c1 < 256) (h2 : 0 ≤ c2 ∧ c2 < 128) : orI .i64 c0 (c1 * 256) = c0 + c1 * 256 ∧ orI .i64 (c0 + c1 * 256) (c2 * 65536) = c0 + c1 * 256 + c2 * 65536 := by
 obtain ⟨a, rfl⟩ := Int.eq_ofNat_of_zero_le h0.1
 obtain ⟨b, rfl⟩ := Int.eq_ofNat_of_zero_le h1.1
 obtain ⟨c, rfl⟩ := Int.eq_ofNat_of_zero_le h2.1
 have e1 := orI_add (x := b) (y := a) (k := 8) (by omega) (by omega)
 have e2 := orI_add (x := c) (y := a + b * 256) (k := 16) (by omega) (by omega)
 have q1 : ((2 ^ 8 * b : Nat) : Int) = (b : Int) * 256 := by omega
 have q2 : ((a + b * 256 : Nat) : Int) = (a : Int) + (b : Int) * 256 := by omega
 have q3 : ((2 ^ 8 * b + a : Nat) : Int) = (a : Int) + (b : Int) * 256 := by omega
 have q4 : ((2 ^ 16 * c : Nat) : Int) = (c : Int) * 65536 := by omega
 have q5 : ((2 ^ 16 * c + (a + b * 256) : Nat) : Int) = (a : Int) + (b : Int) * 256 + (c : Int) * 65536 := by omega
 rw [q1, q3, orI_comm] at e1
 rw [q4, q2, q5, orI_comm] at e2
 exact ⟨e1, e2⟩
theorem and127 {c : Int} (h : 0 ≤ c ∧ c < 256) : andI .u8 c 127 = c % 128 := by
 obtain ⟨n, rfl⟩ := Int.eq_ofNat_of_zero_le h.1
 have := and127N ⟨n, by omega⟩
 exact this
theorem eon_in {p : Nat} {d x y : Int} (h : eonZ p d (x, y) = true) : (0 ≤ x ∧ x < p) ∧ (0 ≤ y ∧ y < p) := by
 unfold eonZ at h
 simp only [Bool.and_eq_true, decide_eq_true_eq] at h
 omega
theorem edBy_eq {p : Nat} {d x y : Int} (hp : (p : Int) ≤ 1048576) (h : eonZ p d (x, y) = true) : edBy (x, y) = edB3 (x, y) := by
 obtain ⟨h1, h2⟩ := eon_in h
 have e1 : x.tmod 2 = x % 2 := Int.tmod_eq_emod_of_nonneg h1.1
 have e2 : y.fdiv (2 ^ 8) = y / 256 := Int.fdiv_eq_ediv_of_nonneg _ (by omega)
 have e3 : y.fdiv (2 ^ 16) = y / 65536 := Int.fdiv_eq_ediv_of_nonneg _ (by omega)
 have e4 : (y / 65536 + 128 * (x % 2)) % 256 = y / 65536 + 128 * (x % 2) := by omega
 simp only [edBy, edB3, wrap_u8_mod, e1, e2, e3, e4]
theorem edB3_ok {p : Nat} {d x y : Int} (hp : (p : Int) ≤ 1048576) (h : eonZ p d (x, y) = true) : BytesOk (edB3 (x, y)) := by
 obtain ⟨h1, h2⟩ := eon_in h
 intro z hz
 simp only [edB3, List.mem_cons, List.not_mem_nil, or_false] at hz
 omega
def idS3 : Sched := .take 0 (.take 1 (.take 4 (.take 5 (.take 10 (.take 11 (.ld 2 (.cv 3 (.ld 6 (.cv 7 (.take 8 (.take 9 (.ld 12 (.take 13 (.cv 14 (.take 15 (.take 16 (.take 17 .fin)))))))))))))))))
def idS8 : Sched := .take 0 (.take 1 (.take 2 (.take 5 (.take 7 (.take 10 (.ld 3 (.ld 8 (.ld 11 (.alt 4 (.take 6 (.take 9 (.alt 12 (.take 13 (.take 14 (.take 15 (.take 16 (.take 17 .fin))))) .nil))) .nil)))))))))
attribute [local go_sem] idS3 idS8
def idK : List Nat := [1, 2, 4, 6, 10]
def idBy : Nat → AM.Mode := byJ [(13, idK)] (byL [] [1000002])
attribute [local go_sem] idBy idK
def idSt (k : GEd) (b : List Int) (y x : Int) : St := ⟨[.any, .sl .sh (b.map u8A), .ptr [edA k] 0 0, .any, .ref (.l 0) 0 0 1, .any, .v (.int .i64 y), .any, .any, .any, .v (.int .i64 x), .any, .any, .any, .any, .any, .any, .any, .any, .any, .any, .any, .any, .any, .any, .any, .any, .any, .any, .any, .any, .any, .any, .any, .any, .any, .any, .any, .any, .any, .any, .any, .any, .any, .any, .any, .any, .any, .any, .any, .any, .any, .any, .any, .any, .any, .any, .any, .any, .any, .any, .any, .any, .any, .any, .any, .any, .any, .any, .any, .any, .any, .any, .any, .any, .any, .any, .any, .any, .any, .any, .any, .any, .any, .any, .any, .any, .any, .any, .any, .any, .any, .any, .any, .any, .any, .any, .any, .any, .any, .any, .any, .any, .any, .any, .any], [(0, ⟨true, 2, true, [pr0A]⟩)], []⟩
set_option maxRecDepth 10000 in
set_option maxHeartbeats 4000000 in
include hm in
theorem edRead (k : GEd) (p : Nat) (hkp : k.p = p) (b : List Int) (hB : edB k = true) (hb : BytesOk b) (hl : b.length ≤ 1073741824) : Holds Tryz.prog 62 [edA k, .sl .sh (b.map u8A)] [] (.tup [prA (edRdI p k.d b).1, .v (.bool (edRdI p k.d b).2)]) [] := by
 have hk := ed_in hB
 obtain ⟨p', d, l, bx, by'⟩ := k
 simp only at hkp
 subst hkp
 obtain ⟨hp1, hp2, hd⟩ := hk
 simp only at hp1 hp2 hd ⊢
 by_cases l3 : b.length = 3
 rotate_left 1
 ·have hlen : (b.map u8A).length = b.length := List.length_map _
  have d3 : decide ((b.length : Int) = 3) = false := decide_eq_false (by omega)
  have hr : edRdI p d b = ((0, 0), false) := by
   match b, l3 with
   | [], _ => rfl
   | [_], _ => rfl
   | [_, _], _ => rfl
   | [_, _, _], h => exact absurd rfl h
   | _ :: _ :: _ :: _ :: _, _ => rfl
  rw [hr]
  refine holds_ref (ann := []) tabOk hm idBy Tryz.func62 (by kernel_rfl) rfl ?_
  simp +decide (maxSteps := 9^7) only [↓reduceIte, Tryz.f62, edA, hlen, d3, prA, go_sem]
  exact Runs.ret_refl
 obtain ⟨c0, c1, c2, rfl⟩ : ∃ c0 c1 c2, b = [c0, c1, c2] := by
  match b, l3 with
  | [x, y, z], _ => exact ⟨x, y, z, rfl⟩
 have x0 := hb c0 (by simp)
 have x1 := hb c1 (by simp)
 have x2 := hb c2 (by simp)
 have k0 : IntKind.i64.wrap c0 = c0 := wrap_i64 (by omega) (by omega)
 have k1 : IntKind.i64.wrap c1 = c1 := wrap_i64 (by omega) (by omega)
 have k2 : IntKind.i64.wrap c2 = c2 := wrap_i64 (by omega) (by omega)
 have m2 : c2.tmod 128 = c2 % 128 := Int.tmod_eq_emod_of_nonneg x2.1
 have k3 : IntKind.i64.wrap (c2 % 128) = c2 % 128 := wrap_i64 (by omega) (by omega)
 have k4 : IntKind.i64.wrap (c1 * 256) = c1 * 256 := wrap_i64 (by omega) (by omega)
 have k5 : IntKind.i64.wrap (c2 % 128 * 65536) = c2 % 128 * 65536 := wrap_i64 (by omega) (by omega)
 have k6 : IntKind.i64.wrap (c0 + c1 * 256) = c0 + c1 * 256 := wrap_i64 (by omega) (by omega)
 obtain ⟨o1, o2⟩ := orY x0 x1 (show 0 ≤ c2 % 128 ∧ c2 % 128 < 128 by omega)
 have oY : c0 + c1 * 256 + c2 % 128 * 65536 = edY c0 c1 c2 := rfl
 rw [oY] at o2
 have a7 := and127 x2
 have f7 : c2.fdiv (2 ^ 7) = c2 / 128 := Int.fdiv_eq_ediv_of_nonneg _ (by omega)
 have ko : IntKind.i64.wrap (c2 / 128) = c2 / 128 := wrap_i64 (by omega) (by omega)
 have kp : IntKind.u8.wrap (c2 / 128) = c2 / 128 := by rw [wrap_u8_mod]; omega
 have s7 : min (7 : Int).toNat 8 = 7 := by decide
 have yr : 0 ≤ edY c0 c1 c2 ∧ edY c0 c1 c2 ≤ 8388608 := by unfold edY; omega
 have p16 : (2 : Int) ^ 16 = 65536 := by decide
 have p8 : (2 : Int) ^ 8 = 256 := by decide
 have t2 : Int.toNat 2 = 2 := rfl
 have hr : edRdI p d [c0, c1, c2] = if edY c0 c1 c2 ≥ p then ((0, 0), false) else
  if (rootI (edW p d (edY c0 c1 c2)) p).2 = false then ((0, 0), false) else
  if eonZ p d (pickI (rootI (edW p d (edY c0 c1 c2)) p).1 (c2 / 128) p, edY c0 c1 c2) = true ∧ edB3 (pickI (rootI (edW p d (edY c0 c1 c2)) p).1 (c2 / 128) p, edY c0 c1 c2) = [c0, c1, c2]
  then ((pickI (rootI (edW p d (edY c0 c1 c2)) p).1 (c2 / 128) p, edY c0 c1 c2), true)
  else ((0, 0), false) := rfl
 rw [hr]
 clear hr
 have dp : decide (¬ (p : Int) = 0) = true := decide_eq_true (by omega)
 have hmi := fun n => mod_in' (show (0 : Int) < p by omega) n
 generalize edY c0 c1 c2 = y at *
 have or' : 0 ≤ c2 / 128 ∧ c2 / 128 ≤ 1 := by omega
 generalize c2 / 128 = o at *
 refine holds_ref (ann := []) tabOk hm idBy Tryz.func62 (by kernel_rfl) rfl ?_
 simp +decide (maxSteps := 9^7) only [↓reduceIte, Tryz.f62, edA, List.map_cons, List.map_nil, go_sem]
 apply Runs.draw
 ·apply draws_ref (ann := []) tabOk idBy idS3 (by kernel_rfl)
  intro K r X hK
  simp +decide (maxSteps := 9^7) only [↓reduceIte, k0, k1, k2, a7, k3, k4, k5, o1, o2, p16, p8, s8, s16', IntKind.bits, Int.toNat_zero, Int.toNat_one, t2, go_sem]
  exact hK
 by_cases hy : y ≥ p
 ·have dy : decide (y ≥ (p : Int)) = true := decide_eq_true hy
  rw [if_pos hy]
  simp +decide (maxSteps := 9^7) only [↓reduceIte, t2, k2, dy, prA, go_sem]
  exact Runs.ret_refl
 have dy : decide (y ≥ (p : Int)) = false := decide_eq_false hy
 rw [if_neg hy]
 have b1 := mul_bd (a := y) (b := y) (m := p) ⟨by omega, by omega⟩ ⟨by omega, by omega⟩ (by omega)
 have w1 : IntKind.i64.wrap (y * y) = y * y := wrap_i64 (by omega) (by omega)
 have m1 : (y * y).tmod p = y * y % p := Int.tmod_eq_emod_of_nonneg b1.1
 have h2 := hmi (y * y)
 have hW : edW p d y = (y * y % p - 1) % p * invI (d * (y * y % p) + 1) p % p := by rw [edW, Int.add_comm 1]
 have hWi : 0 ≤ edW p d y ∧ edW p d y < p := hmi _
 have cl := rest hm (y * y % p - 1) p (by omega) (by omega)
 have ci := invInt hm (d * (y * y % p) + 1) p (by omega) (by omega)
 have ir := invI_range (a := d * (y * y % p) + 1) (show (0 : Int) < p by omega)
 have w2 : IntKind.i64.wrap (y * y % p - 1) = y * y % p - 1 := wrap_i64 (by omega) (by omega)
 have b3 := mul_bd (a := d) (b := y * y % p) (m := p) ⟨by omega, by omega⟩ h2 (by omega)
 have w3 : IntKind.i64.wrap (d * (y * y % p)) = d * (y * y % p) := wrap_i64 (by omega) (by omega)
 have w4 : IntKind.i64.wrap (d * (y * y % p) + 1) = d * (y * y % p) + 1 := wrap_i64 (by omega) (by omega)
 have b5 := mul_bd (a := (y * y % p - 1) % p) (b := invI (d * (y * y % p) + 1) p) (m := p) (hmi _) ir (by omega)
 have w5 : IntKind.i64.wrap ((y * y % p - 1) % p * invI (d * (y * y % p) + 1) p) = (y * y % p - 1) % p * invI (d * (y * y % p) + 1) p := wrap_i64 (by omega) (by omega)
 have m5 : ((y * y % p - 1) % p * invI (d * (y * y % p) + 1) p).tmod p = edW p d y := by rw [hW]; exact Int.tmod_eq_emod_of_nonneg b5.1
 have cr := rootInt hm (edW p d y) p hWi.1 (by omega) (by omega)
 have rr : 0 ≤ (rootI (edW p d y) p).1 ∧ (rootI (edW p d y) p).1 ≤ p := by
  unfold rootI
  rw [Int.toNat_natCast]
  split
  ·simp
  ·have := rootGo_in (a := edW p d y) (p := p) p 0 (by omega)
   omega
 generalize invI (d * (y * y % p) + 1) p = iv at *
 generalize edW p d y = w at *
 generalize rootI w p = ro at *
 obtain ⟨r, ok⟩ := ro
 simp only at cr rr ⊢
 simp +decide (maxSteps := 9^7) only [↓reduceIte, dy, w1, m1, dp, w3, w4, go_sem]
 refine Runs.call ci ?_
 simp +decide (maxSteps := 9^7) only [↓reduceIte, go_sem]
 apply Runs.draw
 ·apply draws_ref (ann := []) tabOk idBy idS8 (by kernel_rfl)
  intro K r' X' hK
  simp +decide (maxSteps := 9^7) only [↓reduceIte, w2, go_sem]
  repeat' (first
   | apply And.intro
   | exact hK
   | (refine Runs.call cl ?_; simp +decide (maxSteps := 9^7) only [↓reduceIte, w5, m5, dp, go_sem])
   | (refine Runs.call cr ?_; simp +decide (maxSteps := 9^7) only [↓reduceIte, go_sem])
   | fail)
 cases ok with
 | false =>
  rw [if_pos rfl]
  simp +decide (maxSteps := 9^7) only [↓reduceIte, prA, go_sem]
  exact Runs.ret_refl
 | true =>
  rw [if_neg (by simp)]
  have m6 : r.tmod 2 = r % 2 := Int.tmod_eq_emod_of_nonneg rr.1
  have w7 : IntKind.i64.wrap ((p : Int) - r) = p - r := wrap_i64 (by omega) (by omega)
  have m7 : ((p : Int) - r).tmod p = (p - r) % p := Int.tmod_eq_emod_of_nonneg (by omega)
  have pr : 0 ≤ pickI r o p ∧ pickI r o p ≤ p := by
   unfold pickI
   split
   ·exact rr
   ·have := hmi (p - r); omega
  simp +decide (maxSteps := 9^7) only [↓reduceIte, m6, t2, f7, kp, ko, s7, IntKind.bits, Int.toNat_natCast, go_sem]
  refine Runs.meet (α := Unit) (keep := idK) (kj := ?kj1) (fun _ => idSt ⟨p, d, l, bx, by'⟩ [c0, c1, c2] y (pickI r o p)) ?tail1 ?h1 ?h2
  case h1 =>
   intro J e
   have e' : ¬ r % 2 = o := by simpa using e
   have hq : pickI r o p = (p - r) % p := by rw [pickI, if_neg e']
   simp +decide (maxSteps := 9^7) only [↓reduceIte, w7, m7, dp, go_sem]
   refine J () _ ?_
   simp [go_sem, idSt, idK, pr0A, edA, hq]
  case h2 =>
   intro J e
   have e' : r % 2 = o := by simpa using e
   have hq : pickI r o p = r := by rw [pickI, if_pos e']
   simp +decide (maxSteps := 9^7) only [↓reduceIte, go_sem]
   refine J () _ ?_
   simp [go_sem, idSt, idK, pr0A, edA, hq]
  case tail1 =>
  intro _
  generalize pickI r o p = z at *
  have co := isPair hm ⟨p, d, l, bx, by'⟩ (z, y) ⟨hp1, hp2, hd⟩
  rw [edA, prA] at co
  simp only at co
  obtain ⟨R, hR⟩ : ∃ R, R = if eonZ p d (z, y) = true ∧ edB3 (z, y) = [c0, c1, c2] then ((z, y), true) else ((0, 0), false) := ⟨_, rfl⟩
  rw [← hR]
  simp +decide (maxSteps := 9^7) only [↓reduceIte, idSt, pr0A, edA, go_sem]
  refine Runs.call co ?_
  by_cases ho : eonZ p d (z, y) = true
  ·have cb := iEdBytes hm ⟨p, d, l, bx, by'⟩ (z, y) (by rw [hB, ho]; rfl)
   have eb := edBy_eq (p := p) (d := d) hp2 ho
   rw [eb, prA] at cb
   have ce := bytesEqual hm (edB3 (z, y)) [c0, c1, c2] (edB3_ok (p := p) (d := d) hp2 ho) hb
   have hel : (edB3 (z, y)).length = 3 := rfl
   have tk : List.take 3 ((edB3 (z, y)).map u8A) = (edB3 (z, y)).map u8A := rfl
   simp only [List.map_cons, List.map_nil] at ce
   generalize edB3 (z, y) = e3 at *
   simp +decide (maxSteps := 9^7) only [↓reduceIte, ho, go_sem]
   refine Runs.call cb ?_
   simp +decide (maxSteps := 9^7) only [↓reduceIte, hel, tk, List.map_cons, List.map_nil, go_sem]
   refine Runs.call ce ?_
   by_cases hh : e3 = [c0, c1, c2]
   ·rw [if_pos ⟨ho, hh⟩] at hR
    subst hR
    simp +decide (maxSteps := 9^7) only [↓reduceIte, hh, prA, go_sem]
    exact Runs.ret_refl
   ·rw [if_neg (fun h => hh h.2)] at hR
    subst hR
    simp +decide (maxSteps := 9^7) only [↓reduceIte, hh, prA, go_sem]
    exact Runs.ret_refl
  ·rw [if_neg (fun h => ho h.1)] at hR
   subst hR
   simp +decide (maxSteps := 9^7) only [↓reduceIte, ho, prA, go_sem]
   exact Runs.ret_refl
end Go.Proofs.W

namespace Go.AM
open Go
theorem Holds.dnT {P : Program} {f : Nat} {bs cs : List A} (hp : plainL bs = true) (h : Holds P f bs [] (.tup cs) []) : Holds P f bs [] (.tup (dnL cs)) [] where
 fn := h.fn
 calls C w xs fx fa h1 h2 h3 h4 h5 h6 h7 h8 := by
  refine Calls.mono (h.calls C w xs fx fa h1 h2 h3 h4 h5 h6 h7 h8) ?_
  intro e w' hh
  cases e with
  | returned v =>
   obtain ⟨D, fr, fx', a1, a2, a3, a4, a5, a6, a7, a8, a9, a10, a11, a12⟩ := hh
   have hfa := plain_cnt h8 hp
   have hfx : ∀ b, fx b = 0 := by cases h5; assumption
   refine ⟨{ D with I := fun b => D.I b ∨ 1 ≤ fr b }, fun _ => 0, fx', a1, a2, a3, fun b hb => .inl (a4 b hb), fun b hb => ?_, fun b hb => ?_, a7, a8, ?_, ?_, fun b => (by have := a11 b; show fx' b + 0 ≤ 1; omega), fun b hb => ?_⟩
   ·rcases hb with hb | hb
    ·exact a5 b hb
    ·have := (a12 b (by omega)).2.1
     have := hfa b; have := hfx b
     right; omega
   ·rcases hb with hb | hb
    ·exact a6 b hb
    ·exact (a12 b (by omega)).2.2
   ·cases a9; constructor; assumption
   ·unfold Rep1 at a10 ⊢
    cases a10 with
    | tup hf h1 h2 => exact .tup (f1 := fun _ => 0) (f2 := fun _ => 0) (fun _ => rfl) (RepL.dn h1 (fun b hb => hb.imp id (fun h => by have := hf b; omega))) (.nil fun _ => rfl)
   ·have hb' : 1 ≤ fx' b + 0 := hb
    have h := a12 b (by omega)
    refine ⟨fun hi => hi.elim h.1 (fun h2 => ?_), h.2⟩
    have := a11 b
    omega
  | _ => exact hh
theorem Holds.dn1 {P : Program} {f : Nat} {bs : List A} {r : A} (hp : plainL bs = true) (h : Holds P f bs [] r []) : Holds P f bs [] r.dn [] where
 fn := h.fn
 calls C w xs fx fa h1 h2 h3 h4 h5 h6 h7 h8 := by
  refine Calls.mono (h.calls C w xs fx fa h1 h2 h3 h4 h5 h6 h7 h8) ?_
  intro e w' hh
  cases e with
  | returned v =>
   obtain ⟨D, fr, fx', a1, a2, a3, a4, a5, a6, a7, a8, a9, a10, a11, a12⟩ := hh
   have hfa := plain_cnt h8 hp
   have hfx : ∀ b, fx b = 0 := by cases h5; assumption
   refine ⟨{ D with I := fun b => D.I b ∨ 1 ≤ fr b }, fun _ => 0, fx', a1, a2, a3, fun b hb => .inl (a4 b hb), fun b hb => ?_, fun b hb => ?_, a7, a8, ?_, ?_, fun b => (by have := a11 b; show fx' b + 0 ≤ 1; omega), fun b hb => ?_⟩
   ·rcases hb with hb | hb
    ·exact a5 b hb
    ·have := (a12 b (by omega)).2.1
     have := hfa b; have := hfx b
     right; omega
   ·rcases hb with hb | hb
    ·exact a6 b hb
    ·exact (a12 b (by omega)).2.2
   ·cases a9; constructor; assumption
   ·unfold Rep1 at a10 ⊢
    exact RepL.dn a10 (fun b hb => hb.imp id id)
   ·have hb' : 1 ≤ fx' b + 0 := hb
    have h := a12 b (by omega)
    refine ⟨fun hi => hi.elim h.1 (fun h2 => ?_), h.2⟩
    have := a11 b
    omega
  | _ => exact hh
theorem Holds.dnIn {P : Program} {f k : Nat} {bs es : List A} (hp : plainL bs = true) (h : Holds P f bs [] (.sl (.ow k) es) []) : Holds P f bs [] (.sl (.ow k) (dnL es)) [] where
 fn := h.fn
 calls C w xs fx fa h1 h2 h3 h4 h5 h6 h7 h8 := by
  refine Calls.mono (h.calls C w xs fx fa h1 h2 h3 h4 h5 h6 h7 h8) ?_
  intro e w' hh
  cases e with
  | returned v =>
   obtain ⟨D, fr, fx', a1, a2, a3, a4, a5, a6, a7, a8, a9, a10, a11, a12⟩ := hh
   have hfa := plain_cnt h8 hp
   have hfx : ∀ b, fx b = 0 := by cases h5; assumption
   unfold Rep1 at a10
   cases a10 with
   | nils h0 => exact ⟨D, fr, fx', a1, a2, a3, a4, a5, a6, a7, a8, a9, .nils h0, a11, a12⟩
   | sl hrow hsp hk hcap hsz hI hs ho hf h1 h0 => exact hs.elim (fun h => nomatch h) (fun h => nomatch h.1)
   | @ow _ _ _ _ a cap c e fz _ _ _ f1 f2 hrow hsp hk hcap hsz hF hfz ho hf h1 h0 =>
    refine ⟨{ D with I := fun b => D.I b ∨ 1 ≤ f1 b }, fun b => if b = a.block then 1 else 0, fx', a1, a2, a3, fun b hb => .inl (a4 b hb), fun b hb => ?_, fun b hb => ?_, a7, a8, ?_, ?_, fun b => ?_, fun b hb => ?_⟩
    ·rcases hb with hb | hb
     ·exact a5 b hb
     ·have := (a12 b (by rw [hf]; omega)).2.1
      have := hfa b; have := hfx b
      right; omega
    ·rcases hb with hb | hb
     ·exact a6 b hb
     ·exact (a12 b (by rw [hf]; omega)).2.2
    ·cases a9; constructor; assumption
    ·have hd := RepL.dn (D := { D with I := fun b => D.I b ∨ 1 ≤ f1 b }.bare) h1 (fun b hb => hb.imp id id)
     rw [← flat_dn] at hd
     rw [← dn_length] at hcap ho hd ⊢
     exact .ow hrow hsp (dn_k hk) hcap hsz hF hfz ho (fun b => rfl) hd (.nil fun _ => rfl)
    ·have := a11 b
     rw [hf] at this
     simp only
     omega
    ·have hb' : 1 ≤ fx' b + (if b = a.block then 1 else 0) := hb
     have h := a12 b (by rw [hf]; omega)
     refine ⟨fun hi => hi.elim h.1 (fun h2 => ?_), h.2⟩
     have := a11 b
     rw [hf] at this
     have h2' : 1 ≤ f1 b := h2
     omega
  | _ => exact hh
end Go.AM

namespace Go.Proofs.W
open Go Go.AM Go.Proofs.G
variable (hm : Tryz.prog.follows .mixedOrders = true)
mutual
def bdN (m : Nat) : Nd → Prop
 | .mk _ b ks => BytesOk b ∧ b.length ≤ m ∧ ks.length ≤ 1000 ∧ bdL m ks
def bdL (m : Nat) : List Nd → Prop
 | [] => True
 | n :: r => bdN m n ∧ bdL m r
end
def ItIn (m : Nat) (x : It) : Prop := BytesOk x.body ∧ x.body.length ≤ m ∧ x.kids ≤ 1000
theorem bd0 (m : Nat) : bdN m (.mk 0 [] []) := ⟨fun x hx => by simp at hx, by simp, by simp, trivial⟩
theorem iterN_bd {m : Nat} {f : Nat → Nd × Nat} (hf : ∀ i, bdN m (f i).1) : ∀ k i, bdL m (iterN f k i).1 ∧ (iterN f k i).1.length = k
 | 0, i => ⟨trivial, rfl⟩
 | k + 1, i => by
  have := iterN_bd hf k (f i).2
  simp only [iterN]
  exact ⟨⟨hf i, this.1⟩, by rw [List.length_cons, this.2]⟩
theorem nestP_bd {m : Nat} {L : List It} (h : ∀ x ∈ L, ItIn m x) : ∀ d i, bdN m (nestP L d i).1
 | 0, i => bd0 m
 | d + 1, i => by
  rw [nestP]
  split
  ·rename_i x hx
   have hm := h x (List.mem_of_getElem? hx)
   have := iterN_bd (nestP_bd h d) x.kids.toNat (i + 1)
   exact ⟨hm.1, hm.2.1, by rw [this.2]; have := hm.2.2; omega, this.1⟩
  ·exact bd0 m
theorem bdL_get {m : Nat} : ∀ {ks : List Nd} {k : Nat} (h : k < ks.length), bdL m ks → bdN m ks[k]
 | n :: r, 0, _, hg => hg.1
 | n :: r, k + 1, h, hg => bdL_get (ks := r) (by simpa using h) hg.2
theorem bdN_kid {m : Nat} {n : Nd} {i : Nat} (h : bdN m n) : bdN m (kidAt n i) := by
 obtain ⟨t, b, ks⟩ := n
 by_cases hi : i < ks.length
 ·have : kidAt (.mk t b ks) i = ks[i] := by simp [kidAt, kidsN, List.getD, hi]
  rw [this]; exact bdL_get hi h.2.2.2
 ·have : kidAt (.mk t b ks) i = .mk 0 [] [] := by simp [kidAt, kidsN, List.getD, hi]
  rw [this]; exact bd0 m
theorem bdN_body {m : Nat} {n : Nd} (h : bdN m n) : BytesOk (bodyN n) ∧ (bodyN n).length ≤ m ∧ (kidsN n).length ≤ 1000 := by
 obtain ⟨t, b, ks⟩ := n
 exact ⟨h.1, h.2.1, h.2.2.1⟩
def nb (n : Nd) (i : Nat) : Int := numOf (bodyN (kidAt n i))
noncomputable def readI (n : Nd) : GKey :=
 if nb n 0 = 1 then ⟨1, if (bodyN (kidAt n 1)).length ≤ 128 then natRd (bodyN (kidAt n 1)) else [], nb n 2, cv0, pt0, ed0, pr0⟩
 else if nb n 0 = 2 then ⟨2, [], 0, ⟨nb n 1, nb n 2, nb n 3, nb n 4, nb n 5, nb n 6⟩, if curveB ⟨nb n 1, nb n 2, nb n 3, nb n 4, nb n 5, nb n 6⟩ = true then (pdR (nb n 1).toNat (nb n 2) (nb n 3) ((bodyN (kidAt n 7)).drop 1)).1 else pt0, ed0, pr0⟩
 else if nb n 0 = 3 then ⟨3, [], 0, cv0, pt0, ⟨nb n 1, nb n 2, nb n 3, nb n 4, nb n 5⟩, if edB ⟨nb n 1, nb n 2, nb n 3, nb n 4, nb n 5⟩ = true then (edRdI (nb n 1).toNat (nb n 2) ((bodyN (kidAt n 6)).drop 1)).1 else pr0⟩
 else ⟨nb n 0, [], 0, cv0, pt0, ed0, pr0⟩
set_option maxRecDepth 10000 in
include hm in
theorem readKeyF (n : Nd) (i : Nat) (hi : i ≤ 1000) (hn : bdN 1048576 n) : Holds Tryz.prog 56 [.v (.int .i64 i), .ptr [nodeS n] 0 0] [] (.v (.int .i64 (nb n i))) [] := by
 have hb := bdN_body hn
 have hk := bdN_body (bdN_kid (i := i) hn)
 have c1 := kid hm n i hi (by omega)
 have c2 := intNode hm (kidAt n i) hk.1 (by omega)
 have e : numOf (bodyN (kidAt n i)) = nb n i := rfl
 rw [e] at c2
 generalize nb n i = v at *
 generalize kidAt n i = x at *
 obtain ⟨t, b, ks⟩ := n
 obtain ⟨t', b', ks'⟩ := x
 simp only [nodeS] at c1 c2 ⊢
 refine holds_of (ann := []) tabOk hm Tryz.func56 (by kernel_rfl) rfl ?_
 simp +decide (maxSteps := 9^7) only [↓reduceIte, Tryz.f56, go_sem]
 refine Runs.call c1 ?_
 simp +decide (maxSteps := 9^7) only [↓reduceIte, go_sem]
 refine Runs.call c2 ?_
 simp +decide (maxSteps := 9^7) only [↓reduceIte, go_sem]
 exact Runs.ret_refl
def rkS11 : Sched := .take 0 (.ld 2 (.alt 1 (.alt 3 (.alt 4 (.alt 5 (.take 6 (.take 7 (.take 8 (.take 9 (.alt 10 .fin .nil))))) .nil) .nil) .nil) (.alt 3 (.alt 1 (.alt 4 (.alt 5 (.take 6 (.take 7 (.take 8 (.take 9 (.alt 10 .fin .nil))))) .nil) .nil) (.alt 4 (.alt 1 (.alt 5 (.take 6 (.take 7 (.take 8 (.take 9 (.alt 10 .fin .nil))))) .nil) .nil) .nil)) .nil)))
def rkS15 : Sched := .take 0 (.ld 2 (.alt 1 (.alt 3 (.alt 4 (.alt 5 (.take 6 (.take 7 (.take 8 (.take 9 (.alt 10 .fin .nil))))) .nil) .nil) .nil) (.alt 3 (.alt 1 (.alt 4 (.alt 5 (.take 6 (.take 7 (.take 8 (.take 9 (.alt 10 .fin .nil))))) .nil) .nil) (.alt 4 (.alt 1 (.alt 5 (.take 6 (.take 7 (.take 8 (.take 9 (.alt 10 .fin .nil))))) .nil) .nil) .nil)) .nil)))
attribute [local go_sem] rkS11 rkS15
set_option maxRecDepth 10000 in
set_option maxHeartbeats 4000000 in
include hm in
theorem readKey (n : Nd) (hn : bdN 1048576 n) : Holds Tryz.prog 19 [nodeS n] [] (keyO (readI n)) [] := by
 have hb := bdN_body hn
 have cf := fun i (hi : i ≤ 1000) => readKeyF hm n i hi hn
 have ck := fun i (hi : i ≤ 1000) => kid hm n i hi (by omega)
 have hk := fun i => bdN_body (bdN_kid (i := i) hn)
 have c0 := intNode hm (kidAt n 0) (hk 0).1 (by have := hk 0; omega)
 have e0 : numOf (bodyN (kidAt n 0)) = nb n 0 := rfl
 rw [e0] at c0
 rw [readI]
 have k0 := ck 0 (by omega)
 by_cases h1 : nb n 0 = 1
 ·rw [if_pos h1]
  have k1 := ck 1 (by omega)
  have f2 := cf 2 (by omega)
  have cr := fun h => inr hm (bodyN (kidAt n 1)) (hk 1).1 h
  rw [h1] at c0
  by_cases hl : (bodyN (kidAt n 1)).length ≤ 128
  case' pos =>
   rw [if_pos hl]
   have cr := cr hl
  case' neg => rw [if_neg hl]
  all_goals
   generalize nb n 2 = v2 at *
   generalize kidAt n 0 = x0 at *
   generalize kidAt n 1 = x1 at *
   obtain ⟨t, b, ks⟩ := n
   obtain ⟨t0, b0, ks0⟩ := x0
   obtain ⟨t1, b1, ks1⟩ := x1
   simp only [nodeS, bodyN] at *
   have hlen : (b1.map u8A).length = b1.length := List.length_map _
   refine holds_ref (ann := []) tabOk hm (byL [] [1000001]) Tryz.func19 (by kernel_rfl) rfl ?_
   simp +decide (maxSteps := 9^7) only [↓reduceIte, Tryz.f19, go_sem]
   refine Runs.call k0 ?_
   simp +decide (maxSteps := 9^7) only [↓reduceIte, go_sem]
   refine Runs.call c0 ?_
   simp +decide (maxSteps := 9^7) only [↓reduceIte, go_sem]
   refine Runs.call k1 ?_
  rotate_left 1
  ·have dl : decide ((b1.length : Int) ≤ 128) = true := decide_eq_true (by omega)
   simp +decide (maxSteps := 9^7) only [↓reduceIte, hlen, dl, go_sem]
   refine Runs.call k1 ?_
   simp +decide (maxSteps := 9^7) only [↓reduceIte, go_sem]
   refine Runs.call cr ?_
   simp +decide (maxSteps := 9^7) only [↓reduceIte, go_sem]
   refine Runs.call f2 ?_
   simp +decide (maxSteps := 9^7) only [↓reduceIte, keyO, cv0, pt0, ed0, pr0, go_sem]
   exact Runs.ret_refl
  ·have dl : decide ((b1.length : Int) ≤ 128) = false := decide_eq_false (by omega)
   simp +decide (maxSteps := 9^7) only [↓reduceIte, hlen, dl, go_sem]
   refine Runs.call f2 ?_
   simp +decide (maxSteps := 9^7) only [↓reduceIte, keyO, cv0, pt0, ed0, pr0, List.map_nil, go_sem]
   exact Runs.ret (.agg (.same _ (.nils _ (LeD.refl _))) .nil) rfl
 rw [if_neg h1]
 have d1 : decide (nb n 0 = 1) = false := decide_eq_false h1
 by_cases h2 : nb n 0 = 2
 ·rw [if_pos h2]
  have f1 := cf 1 (by omega)
  have f2 := cf 2 (by omega)
  have f3 := cf 3 (by omega)
  have f4 := cf 4 (by omega)
  have f5 := cf 5 (by omega)
  have f6 := cf 6 (by omega)
  have k7 := ck 7 (by omega)
  have hb7 := hk 7
  have cb := behind hm (kidAt n 7) (by have := hb7.2; omega)
  rw [h2] at c0
  have cc := iCurveOk hm ⟨nb n 1, nb n 2, nb n 3, nb n 4, nb n 5, nb n 6⟩
  have cp := fun (h : curveB ⟨nb n 1, nb n 2, nb n 3, nb n 4, nb n 5, nb n 6⟩ = true) => pointRead hm ⟨nb n 1, nb n 2, nb n 3, nb n 4, nb n 5, nb n 6⟩ (nb n 1).toNat (by have := (curve_in h).1; simp only at this ⊢; omega) ((bodyN (kidAt n 7)).drop 1) (curve_in h) (hb7.1.dr 1) (by simp; omega)
  by_cases hl : curveB ⟨nb n 1, nb n 2, nb n 3, nb n 4, nb n 5, nb n 6⟩ = true
  case' pos =>
   rw [if_pos hl]
   have cp := cp hl
   rw [hl] at cc
   rw [cvA, ptA] at cp
  case' neg =>
   have hl' : curveB ⟨nb n 1, nb n 2, nb n 3, nb n 4, nb n 5, nb n 6⟩ = false := by simpa using hl
   rw [if_neg hl]
   rw [hl'] at cc
  all_goals
   have tk : List.take ((bodyN (kidAt n 7)).drop 1).length (((bodyN (kidAt n 7)).drop 1).map u8A) = ((bodyN (kidAt n 7)).drop 1).map u8A := take_map_len
   simp only [cvA] at cc cp
   generalize (pdR (nb n 1).toNat (nb n 2) (nb n 3) ((bodyN (kidAt n 7)).drop 1)) = Q at *
   generalize (bodyN (kidAt n 7)).drop 1 = B at *
   generalize nb n 1 = v1 at *
   generalize nb n 2 = v2 at *
   generalize nb n 3 = v3 at *
   generalize nb n 4 = v4 at *
   generalize nb n 5 = v5 at *
   generalize nb n 6 = v6 at *
   clear hk ck cf hb7 hb
   generalize kidAt n 0 = x0 at *
   generalize kidAt n 7 = x1 at *
   obtain ⟨t, b, ks⟩ := n
   obtain ⟨t0, b0, ks0⟩ := x0
   obtain ⟨t1, b1, ks1⟩ := x1
   simp only [nodeS] at *
   refine holds_ref (ann := []) tabOk hm (byL [] [1000001]) Tryz.func19 (by kernel_rfl) rfl ?_
   simp +decide (maxSteps := 9^7) only [↓reduceIte, Tryz.f19, go_sem]
   refine Runs.call k0 ?_
   simp +decide (maxSteps := 9^7) only [↓reduceIte, go_sem]
   refine Runs.call c0 ?_
   simp +decide (maxSteps := 9^7) only [↓reduceIte, go_sem]
   refine Runs.call f1 ?_
   simp +decide (maxSteps := 9^7) only [↓reduceIte, go_sem]
   refine Runs.call f2 ?_
   simp +decide (maxSteps := 9^7) only [↓reduceIte, go_sem]
   refine Runs.call f3 ?_
   simp +decide (maxSteps := 9^7) only [↓reduceIte, go_sem]
   refine Runs.call f4 ?_
   simp +decide (maxSteps := 9^7) only [↓reduceIte, go_sem]
   refine Runs.call f5 ?_
   simp +decide (maxSteps := 9^7) only [↓reduceIte, go_sem]
   refine Runs.call f6 ?_
   simp +decide (maxSteps := 9^7) only [↓reduceIte, go_sem]
   refine Runs.call cc ?_
  rotate_left 1
  ·simp +decide (maxSteps := 9^7) only [↓reduceIte, go_sem]
   apply Runs.draw
   ·apply draws_ref (ann := []) tabOk (byL [] [1000001]) rkS11 (by kernel_rfl)
    intro K r X' hK
    simp +decide (maxSteps := 9^7) only [↓reduceIte, go_sem]
    repeat' (first
     | apply And.intro
     | exact hK
     | (refine Runs.call k7 ?_; simp +decide (maxSteps := 9^7) only [↓reduceIte, go_sem])
     | (refine Runs.call cb ?_; simp +decide (maxSteps := 9^7) only [↓reduceIte, tk, go_sem])
     | (refine Runs.call cp ?_; simp +decide (maxSteps := 9^7) only [↓reduceIte, go_sem])
     | fail)
   simp +decide (maxSteps := 9^7) only [↓reduceIte, keyO, cv0, pt0, ed0, pr0, List.map_nil, go_sem]
   exact Runs.ret (.agg (.same _ (.nils _ (LeD.refl _))) .nil) rfl
  ·simp +decide (maxSteps := 9^7) only [↓reduceIte, keyO, cv0, pt0, ed0, pr0, List.map_nil, go_sem]
   exact Runs.ret (.agg (.same _ (.nils _ (LeD.refl _))) .nil) rfl
 rw [if_neg h2]
 have d2 : decide (nb n 0 = 2) = false := decide_eq_false h2
 by_cases h3 : nb n 0 = 3
 ·rw [if_pos h3]
  have f1 := cf 1 (by omega)
  have f2 := cf 2 (by omega)
  have f3 := cf 3 (by omega)
  have f4 := cf 4 (by omega)
  have f5 := cf 5 (by omega)
  have k6 := ck 6 (by omega)
  have hb6 := hk 6
  have cb := behind hm (kidAt n 6) (by have := hb6.2; omega)
  rw [h3] at c0
  have cc := iEdOk hm ⟨nb n 1, nb n 2, nb n 3, nb n 4, nb n 5⟩
  have cp := fun (h : edB ⟨nb n 1, nb n 2, nb n 3, nb n 4, nb n 5⟩ = true) => edRead hm ⟨nb n 1, nb n 2, nb n 3, nb n 4, nb n 5⟩ (nb n 1).toNat (by have := (ed_in h).1; simp only at this ⊢; omega) ((bodyN (kidAt n 6)).drop 1) h (hb6.1.dr 1) (by simp; omega)
  by_cases hl : edB ⟨nb n 1, nb n 2, nb n 3, nb n 4, nb n 5⟩ = true
  case' pos =>
   rw [if_pos hl]
   have cp := cp hl
   rw [hl] at cc
   rw [edA, prA] at cp
  case' neg =>
   have hl' : edB ⟨nb n 1, nb n 2, nb n 3, nb n 4, nb n 5⟩ = false := by simpa using hl
   rw [if_neg hl]
   rw [hl'] at cc
  all_goals
   have tk : List.take ((bodyN (kidAt n 6)).drop 1).length (((bodyN (kidAt n 6)).drop 1).map u8A) = ((bodyN (kidAt n 6)).drop 1).map u8A := take_map_len
   simp only [edA] at cc cp
   generalize (edRdI (nb n 1).toNat (nb n 2) ((bodyN (kidAt n 6)).drop 1)) = Q at *
   generalize (bodyN (kidAt n 6)).drop 1 = B at *
   generalize nb n 1 = v1 at *
   generalize nb n 2 = v2 at *
   generalize nb n 3 = v3 at *
   generalize nb n 4 = v4 at *
   generalize nb n 5 = v5 at *
   clear hk ck cf hb6 hb
   generalize kidAt n 0 = x0 at *
   generalize kidAt n 6 = x1 at *
   obtain ⟨t, b, ks⟩ := n
   obtain ⟨t0, b0, ks0⟩ := x0
   obtain ⟨t1, b1, ks1⟩ := x1
   simp only [nodeS] at *
   refine holds_ref (ann := []) tabOk hm (byL [] [1000001]) Tryz.func19 (by kernel_rfl) rfl ?_
   simp +decide (maxSteps := 9^7) only [↓reduceIte, Tryz.f19, go_sem]
   refine Runs.call k0 ?_
   simp +decide (maxSteps := 9^7) only [↓reduceIte, go_sem]
   refine Runs.call c0 ?_
   simp +decide (maxSteps := 9^7) only [↓reduceIte, go_sem]
   refine Runs.call f1 ?_
   simp +decide (maxSteps := 9^7) only [↓reduceIte, go_sem]
   refine Runs.call f2 ?_
   simp +decide (maxSteps := 9^7) only [↓reduceIte, go_sem]
   refine Runs.call f3 ?_
   simp +decide (maxSteps := 9^7) only [↓reduceIte, go_sem]
   refine Runs.call f4 ?_
   simp +decide (maxSteps := 9^7) only [↓reduceIte, go_sem]
   refine Runs.call f5 ?_
   simp +decide (maxSteps := 9^7) only [↓reduceIte, go_sem]
   refine Runs.call cc ?_
  rotate_left 1
  ·simp +decide (maxSteps := 9^7) only [↓reduceIte, go_sem]
   apply Runs.draw
   ·apply draws_ref (ann := []) tabOk (byL [] [1000001]) rkS15 (by kernel_rfl)
    intro K r X' hK
    simp +decide (maxSteps := 9^7) only [↓reduceIte, go_sem]
    repeat' (first
     | apply And.intro
     | exact hK
     | (refine Runs.call k6 ?_; simp +decide (maxSteps := 9^7) only [↓reduceIte, go_sem])
     | (refine Runs.call cb ?_; simp +decide (maxSteps := 9^7) only [↓reduceIte, tk, go_sem])
     | (refine Runs.call cp ?_; simp +decide (maxSteps := 9^7) only [↓reduceIte, go_sem])
     | fail)
   simp +decide (maxSteps := 9^7) only [↓reduceIte, keyO, cv0, pt0, ed0, pr0, List.map_nil, go_sem]
   exact Runs.ret (.agg (.same _ (.nils _ (LeD.refl _))) .nil) rfl
  ·simp +decide (maxSteps := 9^7) only [↓reduceIte, keyO, cv0, pt0, ed0, pr0, List.map_nil, go_sem]
   exact Runs.ret (.agg (.same _ (.nils _ (LeD.refl _))) .nil) rfl
 rw [if_neg h3]
 have d3 : decide (nb n 0 = 3) = false := decide_eq_false h3
 generalize nb n 0 = v0 at *
 clear hk ck cf hb
 generalize kidAt n 0 = x0 at *
 obtain ⟨t, b, ks⟩ := n
 obtain ⟨t0, b0, ks0⟩ := x0
 simp only [nodeS] at *
 refine holds_ref (ann := []) tabOk hm (byL [] [1000001]) Tryz.func19 (by kernel_rfl) rfl ?_
 simp +decide (maxSteps := 9^7) only [↓reduceIte, Tryz.f19, go_sem]
 refine Runs.call k0 ?_
 simp +decide (maxSteps := 9^7) only [↓reduceIte, go_sem]
 refine Runs.call c0 ?_
 simp +decide (maxSteps := 9^7) only [↓reduceIte, d1, d2, d3, keyO, cv0, pt0, ed0, pr0, List.map_nil, go_sem]
 exact Runs.ret (.agg (.same _ (.nils _ (LeD.refl _))) .nil) rfl
end Go.Proofs.W

namespace Go.Proofs.W
open Go Go.AM Go.Proofs.G
set_option maxRecDepth 10000
variable (hm : Tryz.prog.follows .mixedOrders = true)
def sameIt (x y : It) : Bool := decide (x.tag = y.tag) && decide (x.kids = y.kids) && decide (x.body = y.body)
def sameIs : List It → List It → Bool
 | [], [] => true
 | x :: r, y :: s => sameIt x y && sameIs r s
 | _, _ => false
theorem sameIt_iff {x y : It} : sameIt x y = true ↔ x = y := by
 obtain ⟨a, b, c⟩ := x
 obtain ⟨d, e, f⟩ := y
 simp only [sameIt, Bool.and_eq_true, decide_eq_true_eq, It.mk.injEq]
 exact ⟨fun h => ⟨h.1.1, h.2, h.1.2⟩, fun h => ⟨⟨h.1, h.2.2⟩, h.2.1⟩⟩
theorem sameIs_iff : ∀ {l m : List It}, sameIs l m = true ↔ l = m
 | [], [] => by simp [sameIs]
 | [], _ :: _ => by simp [sameIs]
 | _ :: _, [] => by simp [sameIs]
 | x :: r, y :: s => by rw [sameIs, Bool.and_eq_true, sameIt_iff, sameIs_iff, List.cons.injEq]
theorem sameIs_len {l m : List It} (h : l.length ≠ m.length) : sameIs l m = false := by
 cases e : sameIs l m with
 | false => rfl
 | true => exact absurd (congrArg List.length (sameIs_iff.mp e)) h
theorem sameIs_step {l m : List It} {i : Nat} (h1 : i < l.length) (h2 : i < m.length) : sameIs (l.drop i) (m.drop i) = (sameIt l[i] m[i] && sameIs (l.drop (i + 1)) (m.drop (i + 1))) := by
 rw [List.drop_eq_getElem_cons h1, List.drop_eq_getElem_cons h2, sameIs]
theorem item_get {L : List It} {i : Nat} (h : i < L.length) : (L.map itemS).getD i .any = .agg [.v (.int .i64 L[i].tag), .sl .sh (L[i].body.map u8A), .v (.int .i64 L[i].kids)] := by simp [List.getD, h, itemS]
include hm in
theorem sameItF (x y : It) (hx : BytesOk x.body) (hy : BytesOk y.body) : Holds Tryz.prog 64 [itemS x, itemS y] [] (.v (.bool (sameIt x y))) [] := by
 have cs := bytesEqual hm x.body y.body hx hy
 have key : ∀ (a b c : Bool), decide (x.tag = y.tag) = a → decide (x.kids = y.kids) = b → decide (x.body = y.body) = c → sameIt x y = (a && b && c) := by
  rintro a b c rfl rfl rfl
  rfl
 obtain ⟨t1, b1, k1⟩ := x
 obtain ⟨t2, b2, k2⟩ := y
 simp only at cs key
 rw [itemS, itemS]
 refine holds_ref (ann := []) tabOk hm (byL [] [1000002, 1000003]) Tryz.func64 (by kernel_rfl) rfl ?_
 by_cases e1 : t1 = t2
 rotate_left 1
 ·have q1 : decide (t1 = t2) = false := decide_eq_false e1
  rw [key _ _ _ q1 rfl rfl]
  simp +decide (maxSteps := 9^7) only [↓reduceIte, Tryz.f64, q1, go_sem]
  exact Runs.ret_v
 have q1 : decide (t1 = t2) = true := decide_eq_true e1
 by_cases e2 : k1 = k2
 rotate_left 1
 ·have q2 : decide (k1 = k2) = false := decide_eq_false e2
  rw [key _ _ _ q1 q2 rfl]
  simp +decide (maxSteps := 9^7) only [↓reduceIte, Tryz.f64, q1, q2, go_sem]
  exact Runs.ret_v
 have q2 : decide (k1 = k2) = true := decide_eq_true e2
 rw [key _ _ _ q1 q2 rfl]
 simp +decide (maxSteps := 9^7) only [↓reduceIte, Tryz.f64, q1, q2, go_sem]
 refine Runs.call cs ?_
 simp +decide (maxSteps := 9^7) only [↓reduceIte, go_sem]
 exact Runs.ret_v
def efAnn : Ann := [(0, [1, 2, 15, 16, 17])]
def efSt (L M : List It) (i : Nat) : St := ⟨[.any, .sl .sh (M.map itemS), .v (.func (.func 64) #[] #[]), .any, .any, .any, .any, .any, .any, .any, .any, .any, .any, .any, .any, .sl .sh (L.map itemS), .v (.int .i64 L.length), .v (.int .i64 i), .any, .any, .any, .any, .any, .any, .any, .any, .any, .any, .any, .any, .any, .any], [], []⟩
set_option maxHeartbeats 4000000 in
include hm in
theorem equalFuncI (L M : List It) (hl : L.length ≤ 1048576) (hml : M.length ≤ 1048576) (hL : ∀ x ∈ L, BytesOk x.body) (hM : ∀ x ∈ M, BytesOk x.body) : Holds Tryz.prog 63 [.sl .sh (L.map itemS), .sl .sh (M.map itemS), .v (.func (.func 64) #[] #[])] [] (.v (.bool (sameIs L M))) [] := by
 have h1 : (L.map itemS).length = L.length := List.length_map _
 have h2 : (M.map itemS).length = M.length := List.length_map _
 refine holds_of (ann := efAnn) tabOk hm Tryz.func63 (by kernel_rfl) rfl ?_
 by_cases hlen : L.length = M.length
 rotate_left 1
 ·have dl : decide ((L.length : Int) = (M.length : Int)) = false := decide_eq_false (by omega)
  rw [sameIs_len hlen]
  simp +decide (maxSteps := 9^7) only [↓reduceIte, Tryz.f63, h1, h2, dl, go_sem]
  exact Runs.ret_v
 have dl : decide ((L.length : Int) = (M.length : Int)) = true := decide_eq_true (by omega)
 simp +decide (maxSteps := 9^7) only [↓reduceIte, Tryz.f63, h1, h2, dl, go_sem]
 refine Runs.while (α := Nat) (efSt L M) (fun i => L.length - i) (fun i => i ≤ L.length ∧ sameIs (L.drop i) (M.drop i) = sameIs L M) 0 ⟨by omega, rfl⟩ ?_ ?_
 ·simp [go_sem, efAnn, efSt]
 intro i ⟨hi, he⟩ ih
 by_cases hlt : i < L.length
 rotate_left 1
 ·have d0 : decide ((i : Int) < (L.length : Int)) = false := decide_eq_false (by omega)
  have hr : sameIs L M = true := by rw [← he, List.drop_of_length_le (by omega), List.drop_of_length_le (by omega)]; rfl
  rw [hr]
  simp +decide (maxSteps := 9^7) only [↓reduceIte, efSt, d0, go_sem]
  exact Runs.ret_v
 have hlt2 : i < M.length := by omega
 have d0 : decide ((i : Int) < (L.length : Int)) = true := decide_eq_true (by omega)
 have r1 : decide (0 ≤ (i : Int) ∧ (i : Int) < (L.length : Int)) = true := decide_eq_true (by omega)
 have r2 : decide (0 ≤ (i : Int) ∧ (i : Int) < (M.length : Int)) = true := decide_eq_true (by omega)
 have g1 := item_get hlt
 have g2 := item_get hlt2
 rw [sameIs_step hlt hlt2] at he
 have cs := sameItF hm L[i] M[i] (hL _ (List.getElem_mem hlt)) (hM _ (List.getElem_mem hlt2))
 have w1 : IntKind.i64.wrap ((i : Int) + 1) = ((i + 1 : Nat) : Int) := by rw [wrap_i64 (by omega) (by omega)]; rfl
 obtain ⟨rest, hrest⟩ : ∃ r, r = sameIs (L.drop (i + 1)) (M.drop (i + 1)) := ⟨_, rfl⟩
 rw [← hrest] at he
 rw [← he]
 rw [← he] at ih
 rw [itemS, itemS] at cs
 generalize sameIt L[i] M[i] = q at *
 simp +decide (maxSteps := 9^7) only [↓reduceIte, efSt, d0, h1, h2, r1, r2, g1, g2, Int.toNat_natCast, go_sem]
 refine Runs.call cs ?_
 cases q with
 | false =>
  simp +decide (maxSteps := 9^7) only [↓reduceIte, go_sem]
  exact Runs.ret_v
 | true =>
  simp +decide (maxSteps := 9^7) only [↓reduceIte, w1, go_sem]
  refine ih (i + 1) _ (by omega) ⟨by omega, by simp [hrest]⟩ ?_
  simp [go_sem, efAnn, efSt]
include hm in
theorem sameItems (L M : List It) (hl : L.length ≤ 1048576) (hml : M.length ≤ 1048576) (hL : ∀ x ∈ L, BytesOk x.body) (hM : ∀ x ∈ M, BytesOk x.body) : Holds Tryz.prog 20 [.sl .sh (L.map itemS), .sl .sh (M.map itemS)] [] (.v (.bool (sameIs L M))) [] := by
 refine holds_of (ann := []) tabOk hm Tryz.func20 (by kernel_rfl) rfl ?_
 simp +decide (maxSteps := 9^7) only [↓reduceIte, Tryz.f20, go_sem]
 refine Runs.call (equalFuncI hm L M hl hml hL hM) ?_
 simp +decide (maxSteps := 9^7) only [↓reduceIte, go_sem]
 exact Runs.ret_v
end Go.Proofs.W

namespace Go.Proofs.W
open Go Go.AM
variable (hm : Tryz.prog.follows .mixedOrders = true)
def sumY : Nat → Nat
 | 0 => 0
 | k + 1 => sumY k + yl (1950 + k)
def sumM (y : Nat) : Nat → Nat
 | 0 => 0
 | k + 1 => sumM y k + ml y (k + 1)
def timeM (y m d s : Nat) : Int × Bool := if (1950 ≤ y ∧ y ≤ 2099) ∧ (1 ≤ m ∧ m ≤ 12) ∧ (1 ≤ d ∧ d ≤ ml y m) ∧ s ≤ 86399 then ((-7305 + sumY (y - 1950) + sumM y (m - 1) + d - 1) * 86400 + s, true) else (0, false)
end Go.Proofs.W

namespace Go.Proofs.W
open Go Go.AM
variable (hm : Tryz.prog.follows .mixedOrders = true)
def dgC (b : UInt8) : Bool := inB b.toNat 48 57
def cg (s : ByteArray) (i : Nat) : UInt8 := s.data.toList.getD i 0
def dg (s : ByteArray) (i : Nat) : Nat := (cg s i).toNat - 48
def vA (s : ByteArray) (i : Nat) : Nat := 10 * dg s (2 * i) + dg s (2 * i + 1)
def okD (s : ByteArray) : Bool := s.data.toList.all dgC
def yearV (s : ByteArray) : Nat := if s.size = 15 then 100 * vA s 0 + vA s 1 else if vA s 0 < 50 then 2000 + vA s 0 else 1900 + vA s 0
def offV (s : ByteArray) : Nat := if s.size = 15 then 1 else 0
def rdTime (s : ByteArray) : Int × Bool :=
 if (s.size = 13 ∨ s.size = 15) ∧ cg s (s.size - 1) = 90 ∧ okD (s.extract 0 (s.size - 1)) = true then
  (if 23 < vA s (3 + offV s) ∨ 59 < vA s (4 + offV s) ∨ 59 < vA s (5 + offV s) then (0, false)
  else timeM (yearV s) (vA s (1 + offV s)) (vA s (2 + offV s)) (3600 * vA s (3 + offV s) + 60 * vA s (4 + offV s) + vA s (5 + offV s)))
 else (0, false)
def rowV (s : ByteArray) (k : Nat) : List A := (List.range k).map fun i => .v (.int .i64 (vA s i))
end Go.Proofs.W

namespace Go.Proofs.W
open Go Go.AM
variable (hm : Tryz.prog.follows .mixedOrders = true)
end Go.Proofs.W

namespace Go.Proofs.W
open Go Go.AM
variable (hm : Tryz.prog.follows .mixedOrders = true)
end Go.Proofs.W

namespace Go.Proofs.W
open Go Go.AM
mutual
def depN : Nd → Nat
 | .mk _ _ ks => depL ks + 1
def depL : List Nd → Nat
 | [] => 0
 | n :: r => max (depN n) (depL r)
end
mutual
def goodN : Nd → Prop
 | .mk t b ks => 0 ≤ t ∧ t < 256 ∧ BytesOk b ∧ b.length ≤ 65536 ∧ goodL ks
def goodL : List Nd → Prop
 | [] => True
 | n :: r => goodN n ∧ goodL r
end
theorem depL_app (l m : List Nd) : depL (l ++ m) = max (depL l) (depL m) := by
 induction l with
 | nil => simp [depL]
 | cons a l ih => simp only [List.cons_append, depL, ih]; omega
def AtP (L : List It) (p : Nat) (n : Nd) : Prop := ∃ pre post, L = pre ++ itemsN n ++ post ∧ pre.length = p
def AtL (L : List It) (p : Nat) (ks : List Nd) : Prop := ∃ pre post, L = pre ++ itemsNL ks ++ post ∧ pre.length = p
theorem AtP.head {L : List It} {p : Nat} {t : Int} {b : List Int} {ks : List Nd} (h : AtP L p (.mk t b ks)) : L[p]? = some ⟨t, b, ks.length⟩ ∧ AtL L (p + 1) ks := by
 obtain ⟨pre, post, h1, h2⟩ := h
 rw [itemsN_mk] at h1
 subst h2
 refine ⟨by rw [h1]; simp, pre ++ [⟨t, b, ks.length⟩], post, by rw [h1]; simp, by simp⟩
theorem AtL.head {L : List It} {p : Nat} {n : Nd} {ks : List Nd} (h : AtL L p (n :: ks)) : AtP L p n ∧ AtL L (p + (itemsN n).length) ks := by
 obtain ⟨pre, post, h1, h2⟩ := h
 have e : itemsNL (n :: ks) = itemsN n ++ itemsNL ks := rfl
 rw [e] at h1
 subst h2
 exact ⟨⟨pre, itemsNL ks ++ post, by rw [h1]; simp, rfl⟩, pre ++ itemsN n, post, by rw [h1]; simp, by simp⟩
theorem iterO_at {L : List It} {d : Nat} (hd : ∀ p n, AtP L p n → depN n ≤ d → endP L d p = some (p + (itemsN n).length)) : ∀ (ks : List Nd) (q : Nat), AtL L q ks → depL ks ≤ d → iterO (endP L d) ks.length q = some (q + (itemsNL ks).length)
 | [], q, _, _ => by simp [iterO, itemsNL]
 | n :: ks, q, h, hk => by
  obtain ⟨h1, h2⟩ := h.head
  simp only [depL] at hk
  rw [List.length_cons, iterO, hd q n h1 (by omega)]
  show iterO (endP L d) ks.length (q + (itemsN n).length) = _
  rw [iterO_at hd ks _ h2 (by omega)]
  have e : itemsNL (n :: ks) = itemsN n ++ itemsNL ks := rfl
  rw [e, List.length_append, Nat.add_assoc]
theorem endP_at {L : List It} : ∀ d p n, AtP L p n → depN n ≤ d → endP L d p = some (p + (itemsN n).length)
 | 0, p, .mk t b ks, h, hd => by rw [depN] at hd; omega
 | d + 1, p, .mk t b ks, h, hd => by
  obtain ⟨h1, h2⟩ := h.head
  rw [depN] at hd
  rw [endP, h1]
  show iterO (endP L d) (ks.length : Int).toNat (p + 1) = _
  rw [Int.toNat_natCast, iterO_at (endP_at d) ks (p + 1) h2 (by omega), itemsN_mk, List.length_cons]
  congr 1; omega
theorem iterN_at {L : List It} {d : Nat} (hd : ∀ p n, AtP L p n → depN n ≤ d → nestP L d p = (n, p + (itemsN n).length)) : ∀ (ks : List Nd) (q : Nat), AtL L q ks → depL ks ≤ d → iterN (nestP L d) ks.length q = (ks, q + (itemsNL ks).length)
 | [], q, _, _ => by simp [iterN, itemsNL]
 | n :: ks, q, h, hk => by
  obtain ⟨h1, h2⟩ := h.head
  simp only [depL] at hk
  have e : itemsNL (n :: ks) = itemsN n ++ itemsNL ks := rfl
  rw [List.length_cons, iterN, hd q n h1 (by omega)]
  simp only
  rw [iterN_at hd ks _ h2 (by omega), e, List.length_append, Nat.add_assoc]
theorem nestP_at {L : List It} : ∀ d p n, AtP L p n → depN n ≤ d → nestP L d p = (n, p + (itemsN n).length)
 | 0, p, .mk t b ks, h, hd => by rw [depN] at hd; omega
 | d + 1, p, .mk t b ks, h, hd => by
  obtain ⟨h1, h2⟩ := h.head
  rw [depN] at hd
  have hl : p < L.length := by
   rcases Nat.lt_or_ge p L.length with h | h
   ·exact h
   ·rw [List.getElem?_eq_none h] at h1; simp at h1
  have hx : L[p] = ⟨t, b, ks.length⟩ := by rw [List.getElem?_eq_getElem hl] at h1; simpa using h1
  rw [nestP_get hl, hx]
  simp only [Int.toNat_natCast]
  rw [iterN_at (nestP_at d) ks (p + 1) h2 (by omega), itemsN_mk, List.length_cons]
  simp only [Prod.mk.injEq, true_and]
  omega
def posL : Nat → List Nd → List Nat
 | _, [] => []
 | q, n :: r => q :: posL (q + (itemsN n).length) r
end Go.Proofs.W

namespace Go.Proofs.W
open Go Go.AM Go.Proofs.G
theorem natB_dig {N : List Int} (h : natB N = true) (i : Nat) : 0 ≤ N.getD i 0 ∧ N.getD i 0 ≤ 65535 := by
 simp only [natB, Bool.and_eq_true, List.all_eq_true] at h
 by_cases hi : i < N.length
 ·have e : N.getD i 0 = N[i] := by simp [List.getD, hi]
  rw [e]
  exact inB_t (h.1 _ (List.getElem_mem hi))
 ·have e : N.getD i 0 = 0 := by simp [List.getD, hi]
  rw [e]; omega
theorem nbAt_even {N : List Int} (h : natB N = true) {sz i : Nat} (hi : 2 * i < sz) : nbAt N sz (sz - 1 - 2 * i) = N.getD i 0 % 256 := by
 have e : sz - 1 - (sz - 1 - 2 * i) = 2 * i := by omega
 have := natB_dig h i
 rw [nbAt, e, show 2 * i / 2 = i by omega, show 8 * (2 * i % 2) = 0 by omega, wrap_u8_mod, Int.fdiv_eq_ediv_of_nonneg _ (by decide)]
 omega
theorem nbAt_odd {N : List Int} (h : natB N = true) {sz i : Nat} (hi : 2 * i + 1 < sz) : nbAt N sz (sz - 2 - 2 * i) = N.getD i 0 / 256 := by
 have e : sz - 1 - (sz - 2 - 2 * i) = 2 * i + 1 := by omega
 have := natB_dig h i
 rw [nbAt, e, show (2 * i + 1) / 2 = i by omega, show 8 * ((2 * i + 1) % 2) = 8 by omega, wrap_u8_mod, Int.fdiv_eq_ediv_of_nonneg _ (by decide)]
 omega
theorem natBy_get (N : List Int) {sz j : Nat} (h : j < sz) : bt (natBy N sz) j = nbAt N sz j := by simp [bt, natBy, List.getD, h]
theorem nmK_all {L : List Int} {n : Nat} (h : n = 0 ∨ L.getD (n - 1) 0 ≠ 0) : nmK L n = n := by
 cases n with
 | zero => rfl
 | succ n =>
  rw [nmK, if_neg]
  rcases h with h | h
  ·omega
  ·exact h
theorem range_getD (N : List Int) : (List.range N.length).map (fun i => N.getD i 0) = N := by
 apply List.ext_getElem (by simp)
 intro i h1 h2
 simp [List.getD, h2]
theorem natRd_back {N : List Int} (h : natB N = true) (hb : inB (bitsZ N) 128 512 = true) : natRd (natBB N) = N := by
 obtain ⟨s1, s2, s3, s4⟩ := natSz_in hb
 have hbi := inB_t hb
 have hm : 0 < N.length := by
  rcases Nat.eq_zero_or_pos N.length with h0 | h0
  ·rw [bitsZ, if_pos h0] at hbi; omega
  ·exact h0
 have hbz : bitsZ N = 16 * ((N.length : Int) - 1) + blen (topD N).toNat := by rw [bitsZ, if_neg (by omega)]
 have htop : topD N ≠ 0 ∧ topD N = N.getD (N.length - 1) 0 := by
  have h' := h
  simp only [natB, Bool.and_eq_true, Bool.or_eq_true, decide_eq_true_eq, Bool.not_eq_true', decide_eq_false_iff_not] at h'
  refine ⟨?_, rfl⟩
  rcases h'.2.2 with h0 | h0
  ·omega
  ·exact h0
 have htd := natB_dig h (N.length - 1)
 rw [← htop.2] at htd
 have hl16 : blen (topD N).toNat ≤ 16 := blen_le (by omega)
 have hl1 : 1 ≤ blen (topD N).toNat := by
  have := blen_lt (n := (topD N).toNat)
  rcases Nat.eq_zero_or_pos (blen (topD N).toNat) with h0 | h0
  ·rw [h0] at this; omega
  ·exact h0
 have hsz : natSz N = ((bitsZ N + 7) / 8).toNat := rfl
 have small : natSz N = 2 * N.length - 1 → topD N < 256 := by
  intro he
  have : blen (topD N).toNat ≤ 8 := by omega
  have h2 := blen_lt (n := (topD N).toNat)
  have h3 : 2 ^ blen (topD N).toNat ≤ 2 ^ 8 := Nat.pow_le_pow_right (by omega) this
  omega
 have hsz2 : natSz N = 2 * N.length - 1 ∨ natSz N = 2 * N.length := by omega
 generalize hs : natSz N = sz at *
 have hlen : (natBy N sz).length = sz := natBy_length _ _
 have main : ∀ (b : List Int) (n : Nat), b.length = n → (n = sz ∨ n = sz + 1) → (∀ t, t < sz → bt b (n - 1 - t) = nbAt N sz (sz - 1 - t)) → (n = sz + 1 → bt b 0 = 0) → natRd b = N := by
  intro b n hn hc hby h0
  have dg : ∀ i, i < (n + 1) / 2 → dgA b i = N.getD i 0 := by
   intro i hi
   have hd := natB_dig h i
   unfold dgA
   rw [hn]
   by_cases h2 : 2 * i < sz
   ·have e1 := hby (2 * i) h2
    rw [e1, nbAt_even h h2]
    by_cases h3 : 2 * i + 1 < sz
    ·have e2 := hby (2 * i + 1) h3
     rw [show n - 1 - (2 * i + 1) = n - 2 - 2 * i by omega, show sz - 1 - (2 * i + 1) = sz - 2 - 2 * i by omega, nbAt_odd h h3] at e2
     rw [if_pos (by omega), e2]; omega
    ·have hi2 : i = N.length - 1 := by omega
     have hsm := small (by omega)
     rw [htop.2, ← hi2] at hsm
     by_cases h4 : 1 ≤ n - 1 - 2 * i
     ·rw [if_pos h4]
      have e3 := h0 (by omega)
      rw [show n - 2 - 2 * i = 0 by omega, e3]; omega
     ·rw [if_neg h4]; omega
   ·have hi2 : i = N.length := by omega
    have e : N.getD i 0 = 0 := by subst hi2; simp [List.getD]
    rw [e, if_neg (by omega), show n - 1 - 2 * i = 0 by omega, h0 (by omega)]; rfl
  have hd2 : dgs b ((n + 1) / 2) = (List.range ((n + 1) / 2)).map (fun i => N.getD i 0) := List.map_congr_left (fun i hi => dg i (List.mem_range.mp hi))
  rw [natRd, hn, hd2]
  have hcnt : (n + 1) / 2 = N.length ∨ (n + 1) / 2 = N.length + 1 := by omega
  have ht0 : N.getD (N.length - 1) 0 ≠ 0 := by rw [← htop.2]; exact htop.1
  rcases hcnt with hc | hc
  ·rw [hc, range_getD, nmL, nmK_all (.inr ht0), List.take_length]
  ·rw [hc, List.range_succ, List.map_append, range_getD]
   have e : (N ++ List.map (fun i => N.getD i 0) [N.length]) = N ++ [0] := by simp [List.getD]
   rw [e, nmL, List.length_append, List.length_singleton, nmK, if_pos (by simp [List.getD])]
   have e2 : nmK (N ++ [0]) N.length = N.length := by
    apply nmK_all
    right
    have : (N ++ [0]).getD (N.length - 1) 0 = N.getD (N.length - 1) 0 := by
     simp only [List.getD]
     rw [List.getElem?_append_left (by omega)]
    rw [this]; exact ht0
   rw [e2, List.take_left']
   rfl
 rw [natBB, hs]
 cases e : natBy N sz with
 | nil => rw [e] at hlen; simp at hlen; omega
 | cons x r =>
  rw [padB]
  split
  ·refine main _ (sz + 1) (by rw [List.length_cons, ← e, hlen]) (.inr rfl) (fun t ht => ?_) (fun _ => rfl)
   rw [← natBy_get N (by omega), e]
   show bt (0 :: x :: r) _ = _
   rw [show sz + 1 - 1 - t = (sz - 1 - t) + 1 by omega]
   rfl
  ·refine main _ sz (by rw [← e, hlen]) (.inl rfl) (fun t ht => ?_) (fun h => by omega)
   rw [← natBy_get N (by omega), e]
theorem eqCv_eq {a b : GCv} (h : eqCv a b = true) : a = b := by
 obtain ⟨a1, a2, a3, a4, a5, a6⟩ := a
 obtain ⟨b1, b2, b3, b4, b5, b6⟩ := b
 simp only [eqCv, Bool.and_eq_true, decide_eq_true_eq] at h
 simp only [GCv.mk.injEq]
 exact ⟨h.1, h.2.1, h.2.2.1, h.2.2.2.1, h.2.2.2.2.1, h.2.2.2.2.2⟩
theorem eqPt_eq {a b : GPt} (h : eqPt a b = true) : a = b := by
 obtain ⟨a1, a2, a3⟩ := a
 obtain ⟨b1, b2, b3⟩ := b
 simp only [eqPt, Bool.and_eq_true, decide_eq_true_eq, beq_iff_eq] at h
 simp only [GPt.mk.injEq]
 exact ⟨h.1, h.2.1, h.2.2⟩
theorem eqEd_eq {a b : GEd} (h : eqEd a b = true) : a = b := by
 obtain ⟨a1, a2, a3, a4, a5⟩ := a
 obtain ⟨b1, b2, b3, b4, b5⟩ := b
 simp only [eqEd, Bool.and_eq_true, decide_eq_true_eq] at h
 simp only [GEd.mk.injEq]
 exact ⟨h.1, h.2.1, h.2.2.1, h.2.2.2.1, h.2.2.2.2⟩
theorem eqPr_eq {a b : GPr} (h : eqPr a b = true) : a = b := by
 simp only [eqPr, Bool.and_eq_true, decide_eq_true_eq] at h
 exact Prod.ext h.1 h.2
theorem key_shape {k : GKey} (h : keyB k = true) :
  (k = ⟨1, k.N, k.e, cv0, pt0, ed0, pr0⟩ ∧ natB k.N = true ∧ inB (bitsZ k.N) 128 512 = true ∧ inB k.e 3 65537 = true) ∨
  (k = ⟨2, [], 0, k.cv, k.q, ed0, pr0⟩ ∧ curveB k.cv = true ∧ onZ k.cv.p k.cv.a k.cv.b k.q = true ∧ k.q.far = false) ∨
  (k = ⟨3, [], 0, cv0, pt0, k.ed, k.a⟩ ∧ edB k.ed = true ∧ eonZ k.ed.p k.ed.d k.a = true) := by
 have hN : ∀ N : List Int, decide (N.length = 0) = true → N = [] := fun N h => List.length_eq_zero_iff.mp (by simpa using h)
 unfold keyB at h
 split at h
 ·rename_i hk
  left
  simp only [Bool.and_eq_true, noCurve, noEd] at h
  obtain ⟨⟨h1, h2⟩, ⟨h3, h4⟩, h5, h6, _, h7, _⟩ := h
  obtain ⟨kind, N, e, cv, q, ed, a⟩ := k
  simp only at hk h1 h2 h3 h4 h5 h6 h7 ⊢
  rw [hk, eqCv_eq h1, eqPt_eq h2, eqEd_eq h3, eqPr_eq h4]
  exact ⟨rfl, h5, h6, h7⟩
 split at h
 ·rename_i hk
  right; left
  simp only [Bool.and_eq_true, noRsa, noEd, Bool.not_eq_true'] at h
  obtain ⟨⟨h1, h2⟩, ⟨h3, h4⟩, ⟨h5, h6⟩, h7, _⟩ := h
  obtain ⟨kind, N, e, cv, q, ed, a⟩ := k
  simp only at hk h1 h2 h3 h4 h5 h6 h7 ⊢
  rw [hk, hN _ h1, of_decide_eq_true h2, eqEd_eq h3, eqPr_eq h4]
  exact ⟨rfl, h5, h6, h7⟩
 split at h
 ·rename_i hk
  right; right
  simp only [Bool.and_eq_true, noRsa, noCurve] at h
  obtain ⟨⟨h1, h2⟩, ⟨h3, h4⟩, h5, h6⟩ := h
  obtain ⟨kind, N, e, cv, q, ed, a⟩ := k
  simp only at hk h1 h2 h3 h4 h5 h6 ⊢
  rw [hk, hN _ h1, of_decide_eq_true h2, eqCv_eq h3, eqPt_eq h4]
  exact ⟨rfl, h5, h6⟩
 ·exact absurd h (by simp)
theorem numOf_int {n : Int} (h1 : -9223372036854775808 ≤ n) (h2 : n < 9223372036854775808) : numOf (intB n) = n := by
 rw [numOf, intRd_intB h1 h2]
theorem edRd_back {k : GEd} (h : edB k = true) {a : GPr} (ha : eonZ k.p k.d a = true) : edRdI k.p.toNat k.d (edBy a) = (a, true) ∧ edRdS k.p.toNat k.d (edBy a) = (a, true) := by
 have hi := ed_in h
 simp only [edB, Bool.and_eq_true, decide_eq_true_eq] at h
 obtain ⟨⟨⟨⟨⟨⟨⟨⟨⟨c1, c2⟩, c3⟩, c4⟩, c5⟩, _⟩, _⟩, _⟩, _⟩, _⟩ := h
 obtain ⟨kp, kd, kl, kx, ky⟩ := k
 obtain ⟨p1, p2, p3⟩ := hi
 simp only at *
 have c4 := inB_t c4
 have hp := (primeZ_of c3).2.2
 rw [Int.tmod_eq_emod_of_nonneg (by omega)] at c2
 obtain ⟨p, rfl⟩ : ∃ p : Nat, kp = p := ⟨kp.toNat, (Int.toNat_of_nonneg (by omega)).symm⟩
 rw [Int.toNat_natCast] at *
 haveI : NeZero p := ⟨by omega⟩
 have T := (dOk (D := kd) hp (by omega) (by omega)).2 c5
 obtain ⟨x, y⟩ := a
 rw [edBy_eq (p := p) p2 ha]
 exact ⟨edRdI_of hp (by omega) (by omega) T ha, edRdS_of hp (by omega) (by omega) T ha⟩
theorem readI_back {k : GKey} (h : keyB k = true) : readI (keyNd k) = k := by
 have hin := keyInts_in h
 rcases key_shape h with ⟨e, h1, h2, h3⟩ | ⟨e, h1, h2, h3⟩ | ⟨e, h1, h2⟩
 ·have h3 := inB_t h3
  have hl := keyB_rsa h (by rw [e])
  obtain ⟨kind, N, ex, cv, q, ed, a⟩ := k
  simp only at *
  rw [e]
  have n0 : nb (keyNd ⟨1, N, ex, cv0, pt0, ed0, pr0⟩) 0 = 1 := numOf_int (n := 1) (by omega) (by omega)
  have n2 : nb (keyNd ⟨1, N, ex, cv0, pt0, ed0, pr0⟩) 2 = ex := numOf_int (n := ex) (by omega) (by omega)
  have b1 : bodyN (kidAt (keyNd ⟨1, N, ex, cv0, pt0, ed0, pr0⟩) 1) = natBB N := rfl
  rw [readI, if_pos n0, n2, b1, if_pos (by omega), natRd_back h1 h2]
 ·obtain ⟨kind, N, ex, cv, q, ed, a⟩ := k
  simp only at *
  have hk2 : kind = 2 := (GKey.mk.inj e).1
  have hin := hin (by omega)
  rw [hk2] at hin
  rw [e]
  have hin : ∀ n ∈ [2, cv.p, cv.a, cv.b, cv.n, cv.gx, cv.gy], -9223372036854775808 ≤ n ∧ n < 9223372036854775808 := hin
  have g := fun n (hn : n ∈ [2, cv.p, cv.a, cv.b, cv.n, cv.gx, cv.gy]) => numOf_int (hin n hn).1 (hin n hn).2
  have n0 : nb (keyNd ⟨2, [], 0, cv, q, ed0, pr0⟩) 0 = 2 := g 2 (by simp)
  have n1 : nb (keyNd ⟨2, [], 0, cv, q, ed0, pr0⟩) 1 = cv.p := g _ (by simp)
  have n2 : nb (keyNd ⟨2, [], 0, cv, q, ed0, pr0⟩) 2 = cv.a := g _ (by simp)
  have n3 : nb (keyNd ⟨2, [], 0, cv, q, ed0, pr0⟩) 3 = cv.b := g _ (by simp)
  have n4 : nb (keyNd ⟨2, [], 0, cv, q, ed0, pr0⟩) 4 = cv.n := g _ (by simp)
  have n5 : nb (keyNd ⟨2, [], 0, cv, q, ed0, pr0⟩) 5 = cv.gx := g _ (by simp)
  have n6 : nb (keyNd ⟨2, [], 0, cv, q, ed0, pr0⟩) 6 = cv.gy := g _ (by simp)
  have b7 : (bodyN (kidAt (keyNd ⟨2, [], 0, cv, q, ed0, pr0⟩) 7)).drop 1 = ptBy q := rfl
  have hci := curve_in h1
  have hpc : (cv.p.toNat : Int) = cv.p := Int.toNat_of_nonneg (by have := hci.1; omega)
  rw [readI, if_neg (by rw [n0]; decide), if_pos n0, n1, n2, n3, n4, n5, n6, b7, if_pos h1, pdR_of (by have := hci.1; have := hci.2.1; omega) h3 (by rw [hpc]; exact h2)]
 ·obtain ⟨kind, N, ex, cv, q, ed, a⟩ := k
  simp only at *
  have hk2 : kind = 3 := (GKey.mk.inj e).1
  have hin := hin (by omega)
  rw [hk2] at hin
  rw [e]
  have hin : ∀ n ∈ [3, ed.p, ed.d, ed.l, ed.bx, ed.by'], -9223372036854775808 ≤ n ∧ n < 9223372036854775808 := hin
  have g := fun n (hn : n ∈ [3, ed.p, ed.d, ed.l, ed.bx, ed.by']) => numOf_int (hin n hn).1 (hin n hn).2
  have n0 : nb (keyNd ⟨3, [], 0, cv0, pt0, ed, a⟩) 0 = 3 := g 3 (by simp)
  have n1 : nb (keyNd ⟨3, [], 0, cv0, pt0, ed, a⟩) 1 = ed.p := g _ (by simp)
  have n2 : nb (keyNd ⟨3, [], 0, cv0, pt0, ed, a⟩) 2 = ed.d := g _ (by simp)
  have n3 : nb (keyNd ⟨3, [], 0, cv0, pt0, ed, a⟩) 3 = ed.l := g _ (by simp)
  have n4 : nb (keyNd ⟨3, [], 0, cv0, pt0, ed, a⟩) 4 = ed.bx := g _ (by simp)
  have n5 : nb (keyNd ⟨3, [], 0, cv0, pt0, ed, a⟩) 5 = ed.by' := g _ (by simp)
  have b6 : (bodyN (kidAt (keyNd ⟨3, [], 0, cv0, pt0, ed, a⟩) 6)).drop 1 = edBy a := rfl
  rw [readI, if_neg (by rw [n0]; decide), if_neg (by rw [n0]; decide), if_pos n0, n1, n2, n3, n4, n5, b6, if_pos h1, (edRd_back h1 h2).1]
theorem dep_ints : ∀ L : List Int, depL (L.map intN) ≤ 1
 | [] => by simp [depL]
 | n :: r => by
  have := dep_ints r
  simp only [List.map_cons, depL, intN, depN]; omega
theorem dep_key (k : GKey) : depN (keyNd k) ≤ 13 := by
 unfold keyNd
 split
 ·simp [depN, depL, intN]
 ·simp only [depN, depL_app, depL]
  have := dep_ints (keyInts k)
  omega
theorem keyT_ok {k : GKey} (h : keyB k = true) : treeOk (keyT k) = true := by
 have hl := keyT_len k
 have hA : AtP (keyT k) 0 (keyNd k) := ⟨[], [], by simp [items_key], rfl⟩
 have he := endP_at 13 0 _ hA (dep_key k)
 rw [items_key, Nat.zero_add] at he
 have hp : 1 ≤ (keyT k).length := by
  unfold keyT
  split <;> simp
 have hit : (keyT k).all itOk = true := by
  have hint : ∀ n, itOk (intI n) = true := fun n => by
   simp [itOk, intI, inB, made]
  unfold keyT
  split
  ·simp only [List.all_cons, List.all_nil, hint, Bool.and_true, Bool.true_and]
   simp [itOk, inB, made]
  ·simp only [List.all_cons, List.all_append, List.all_map, List.all_nil, Bool.and_true]
   have e : (keyInts k).all (itOk ∘ intI) = true := by
    rw [List.all_eq_true]
    intro n _
    exact hint n
   have hkl : (keyInts k).length ≤ 7 := by unfold keyInts; split <;> simp
   rw [e]
   simp [itOk, inB, made]
   omega
 simp only [treeOk, Bool.and_eq_true, hit, and_true, true_and]
 rw [he]
 simp [inB, endI]
 omega
theorem keyT_der (k : GKey) : (nestP (keyT k) 13 0).1 = keyNd k := by
 have hA : AtP (keyT k) 0 (keyNd k) := ⟨[], [], by simp [items_key], rfl⟩
 rw [nestP_at 13 0 _ hA (dep_key k)]
end Go.Proofs.W

namespace Go.Proofs.W
open Go Go.AM Go.Proofs.G
variable (hm : Tryz.prog.follows .mixedOrders = true)
def k00 : GKey := ⟨0, [], 0, cv0, pt0, ed0, pr0⟩
def ansK (r : Option GKey) : A := match r with
 | some k => .tup [keyO k, .v (.bool true)]
 | none => .tup [keyO k00, .v (.bool false)]
noncomputable def standK (L : List It) (k : GKey) : Option GKey := if (keyB k && sameIs (keyT k) L) = true then some k else none
noncomputable def rkI (L : List It) : Option GKey := if treeOk L = true then standK L (readI (nestP L 13 0).1) else none
theorem treeOk_its {L : List It} (h : treeOk L = true) : L.length ≤ 300 ∧ 1 ≤ L.length ∧ endP L 13 0 = some L.length ∧ ∀ x ∈ L, 0 ≤ x.kids ∧ x.kids ≤ 300 := by
 simp only [treeOk, Bool.and_eq_true, decide_eq_true_eq] at h
 obtain ⟨⟨h1, h2⟩, h3⟩ := h
 have h1 := inB_iff.mp h1
 refine ⟨by omega, by omega, ?_, ?_⟩
 ·cases e : endP L 13 0 with
  | none => rw [e, endI] at h3; omega
  | some n => rw [e, endI] at h3; congr 1; omega
 ·intro x hx
  have := List.all_eq_true.mp h2 x hx
  simp only [itOk, Bool.and_eq_true] at this
  have := inB_iff.mp this.1.2
  omega
theorem readI_len (n : Nd) : (readI n).N.length ≤ 64 := by
 unfold readI
 split
 ·split
  ·have := natRd_len (bodyN (kidAt n 1)); simp only; omega
  ·simp
 split
 ·simp
 split <;> simp
theorem keyT_bytes {k : GKey} (h : keyB k = true) : ∀ x ∈ keyT k, BytesOk x.body := by
 have nil : BytesOk [] := fun x hx => by simp at hx
 have hp : BytesOk (padB (natBy k.N (natSz k.N))) := by
  have h0 : BytesOk (natBy k.N (natSz k.N)) := by
   intro y hy
   simp only [natBy, List.mem_map] at hy
   obtain ⟨j, _, rfl⟩ := hy
   rw [nbAt, wrap_u8_mod]
   omega
  generalize natBy k.N (natSz k.N) = l at *
  cases l with
  | nil => exact .cons' (by omega) nil
  | cons x r =>
   rw [padB]
   split
   ·exact .cons' (by omega) h0
   ·exact h0
 intro x hx
 rcases key_shape h with ⟨e, _⟩ | ⟨e, _⟩ | ⟨e, _⟩
 all_goals
  have hk := congrArg GKey.kind e
  simp only at hk
  rw [keyT, hk] at hx
 ·rw [if_pos rfl] at hx
  simp only [List.mem_cons, List.not_mem_nil, or_false] at hx
  rcases hx with rfl | rfl | rfl | rfl
  ·exact nil
  ·exact intB_ok _
  ·exact hp
  ·exact intB_ok _
 ·rw [if_neg (by decide)] at hx
  simp only [List.mem_cons, List.mem_append, List.mem_map, List.not_mem_nil, or_false] at hx
  rcases hx with rfl | ⟨n, _, rfl⟩ | rfl
  ·exact nil
  ·exact intB_ok _
  ·rw [keyPt, hk, if_pos rfl]
   exact .cons' (by omega) (.cons' (by omega) (.app' (threeB_ok _) (threeB_ok _)))
 ·rw [if_neg (by decide)] at hx
  simp only [List.mem_cons, List.mem_append, List.mem_map, List.not_mem_nil, or_false] at hx
  rcases hx with rfl | ⟨n, _, rfl⟩ | rfl
  ·exact nil
  ·exact intB_ok _
  ·rw [keyPt, hk, if_neg (by decide)]
   refine .cons' (by omega) ?_
   intro y hy
   simp only [edBy, wrap_u8_mod, List.mem_cons, List.not_mem_nil, or_false] at hy
   omega
theorem treeK_bytes (k : GKey) : ∀ x ∈ treeK k, BytesOk x.body := by
 unfold treeK
 split
 ·exact keyT_bytes (by assumption)
 ·intro x hx; simp at hx
set_option maxRecDepth 10000 in
set_option maxHeartbeats 4000000 in
include hm in
theorem implReadKeyTree (L : List It) (hl : L.length ≤ 1048576) (hL : ∀ x ∈ L, BytesOk x.body ∧ x.body.length ≤ 1048576) : Holds Tryz.prog 7 [.sl .sh (L.map itemS)] [] (ansK (rkI L)) [] := by
 have ct := implTreeOk hm L hl
 cases ht : treeOk L with
 | false =>
  have hr : rkI L = none := by rw [rkI, if_neg (by simp [ht])]
  rw [hr, ansK]
  rw [ht] at ct
  refine holds_of (ann := []) tabOk hm Tryz.func7 (by kernel_rfl) rfl ?_
  simp +decide (maxSteps := 9^7) only [↓reduceIte, Tryz.f7, go_sem]
  refine Runs.call ct ?_
  simp +decide (maxSteps := 9^7) only [↓reduceIte, keyO, k00, cv0, pt0, ed0, pr0, List.map_nil, go_sem]
  exact Runs.ret (.tup (.agg (.same _ (.nils _ (LeD.refl _))) (.same _ .nil)) .nil) rfl
 | true =>
  have hr : rkI L = standK L (readI (nestP L 13 0).1) := by rw [rkI, if_pos ht]
  rw [hr]
  rw [ht] at ct
  obtain ⟨i1, i2, i3, i4⟩ := treeOk_its ht
  have hk : kidsOk L := fun x hx => by have := i4 x hx; omega
  have cn := nested hm L hk (by omega) 13 0 _ i3
  have cn' := Holds.dnT (by simp [plainL, A.plain, Sh.own, plainL_map, itemS, u8A]) cn
  simp only [dnL, A.dn, dn_nodeM] at cn'
  have hbd := nestP_bd (m := 1048576) (L := L) (fun x hx => ⟨(hL x hx).1, (hL x hx).2, by have := i4 x hx; omega⟩) 13 0
  have crd := readKey hm (nestP L 13 0).1 hbd
  have hN := readI_len (nestP L 13 0).1
  generalize (nestP L 13 0).2 = q at *
  generalize (nestP L 13 0).1 = n at *
  have ck := iKeyTree hm (readI n) (by omega)
  generalize readI n = k at *
  have cs := sameItems hm (treeK k) L (by have := treeK_len k; omega) hl (treeK_bytes k) (fun x hx => (hL x hx).1)
  have tkN : List.take k.N.length (k.N.map intA) = k.N.map intA := take_map_len
  have tkT : List.take (treeK k).length ((treeK k).map itemO) = (treeK k).map itemO := take_map_len
  rw [treeKA, keyA] at ck
  rw [keyO] at crd
  obtain ⟨t, b, ks⟩ := n
  simp only [nodeS] at cn' crd
  refine holds_of (ann := []) tabOk hm Tryz.func7 (by kernel_rfl) rfl ?_
  simp +decide (maxSteps := 9^7) only [↓reduceIte, Tryz.f7, go_sem]
  refine Runs.call ct ?_
  simp +decide (maxSteps := 9^7) only [↓reduceIte, go_sem]
  refine Runs.call cn' ?_
  simp +decide (maxSteps := 9^7) only [↓reduceIte, go_sem]
  refine Runs.call crd ?_
  simp +decide (maxSteps := 9^7) only [↓reduceIte, tkN, List.length_map, go_sem]
  refine Runs.call ck ?_
  cases hB : keyB k with
  | false =>
   have hs : standK L k = none := by rw [standK, if_neg (by simp [hB])]
   rw [hs, ansK]
   simp +decide (maxSteps := 9^7) only [↓reduceIte, keyO, k00, cv0, pt0, ed0, pr0, List.map_nil, go_sem]
   exact Runs.ret (.tup (.agg (.same _ (.nils _ (LeD.refl _))) (.same _ .nil)) .nil) rfl
  | true =>
   have hT : treeK k = keyT k := by rw [treeK, if_pos hB]
   simp +decide (maxSteps := 9^7) only [↓reduceIte, tkT, List.length_map, go_sem]
   refine Runs.call cs ?_
   cases hS : sameIs (treeK k) L with
   | true =>
    have he := sameIs_iff.mp hS
    have hs : standK L k = some k := by rw [standK, if_pos (by rw [← hT, hB, hS]; rfl)]
    rw [hs, ansK]
    simp +decide (maxSteps := 9^7) only [↓reduceIte, tkN, List.length_map, keyO, go_sem]
    exact Runs.ret_refl
   | false =>
    have hs : standK L k = none := by rw [standK, if_neg (by rw [← hT, hB, hS]; simp)]
    rw [hs, ansK]
    simp +decide (maxSteps := 9^7) only [↓reduceIte, keyO, k00, cv0, pt0, ed0, pr0, List.map_nil, go_sem]
    exact Runs.ret (.tup (.agg (.same _ (.nils _ (LeD.refl _))) (.same _ .nil)) .nil) rfl
end Go.Proofs.W

namespace Go.Proofs.W
open Go Go.AM Go.Proofs.G
set_option maxRecDepth 10000
variable (hm : Tryz.prog.follows .mixedOrders = true)
theorem prime_ck (n : Nat) (h : (decide (2 ≤ n) && decide (n < 1000000) && (List.range 1000).all fun d => decide (d < 2) || decide (n < d * d) || !decide (n % d = 0)) = true) : primeZ n = true := by
 simp only [Bool.and_eq_true, decide_eq_true_eq, List.all_eq_true, List.mem_range, Bool.or_eq_true, Bool.not_eq_true', decide_eq_false_iff_not] at h
 obtain ⟨⟨h1, h2⟩, h3⟩ := h
 have hp : PrimeN n := by
  refine ⟨h1, fun d hd hq hv => ?_⟩
  have hd2 : d < 1000 := by
   rcases Nat.lt_or_ge d 1000 with h | h
   ·exact h
   ·have := Nat.mul_le_mul h h; omega
  rcases h3 d hd2 with (h | h) | h
  ·omega
  ·omega
  ·exact h (Nat.mod_eq_zero_of_dvd hv)
 unfold primeZ
 simp only [Bool.and_eq_true, decide_eq_true_eq, Int.toNat_natCast]
 exact ⟨⟨by omega, by omega⟩, hp⟩
def cvD : Nat → GCv
 | 0 => ⟨103, 2, 11, 97, 1, 23⟩
 | 1 => ⟨1019, 11, 6, 997, 2, 6⟩
 | _ => ⟨10007, 3, 6, 10039, 0, 1973⟩
def edD : Nat → GEd
 | 0 => ⟨101, 12, 11, 76, 22⟩
 | 1 => ⟨1021, 6, 263, 87, 232⟩
 | _ => ⟨10037, 3, 1279, 8662, 1422⟩
def cqD (i x : Nat) : GPt := mulL (addZ (cvD i).p (cvD i).a) x farP ⟨(cvD i).gx, (cvD i).gy, false⟩
def eqD (i x : Nat) : GPr := mulL (eaddZ (edD i).p (edD i).d) x (0, 1) ((edD i).bx, (edD i).by')
def kD : Nat → GKey
 | 0 => ⟨1, [3265, 2312, 40086, 24113, 55692, 53939, 28988, 14756, 38989, 64649, 41766, 56312], 3, cv0, pt0, ed0, pr0⟩
 | 1 => ⟨1, [47383, 20581, 9044, 26245, 56677, 65417, 38765, 31419, 23443, 28075, 19560, 40408], 3, cv0, pt0, ed0, pr0⟩
 | 2 => ⟨2, [], 0, cvD 1, cqD 1 89, ed0, pr0⟩
 | 3 => ⟨2, [], 0, cvD 2, cqD 2 130, ed0, pr0⟩
 | 4 => ⟨3, [], 0, cv0, pt0, edD 1, eqD 1 121⟩
 | _ => ⟨3, [], 0, cv0, pt0, edD 2, eqD 2 150⟩
def dD : Nat → List Int
 | 0 => [19627, 62708, 19442, 8623, 8001, 20486, 63015, 31682, 4147, 64945, 49689, 37541]
 | 1 => [60427, 22070, 48620, 42209, 12531, 62322, 25842, 20946, 37474, 62407, 56730, 26938]
 | _ => []
def xD : Nat → Int
 | 0 => 0
 | 1 => 0
 | 2 => 89
 | 3 => 130
 | 4 => 121
 | _ => 150
theorem kD_len : ∀ n, (kD n).N.length ≤ 12
 | 0 | 1 | 2 | 3 | 4 | _ + 5 => by simp [kD]
set_option maxRecDepth 100000 in
theorem kD_ok (n : Nat) (h : n ≤ 5) : keyB (kD n) = true := by
 have a1 : primeZ 1019 = true := prime_ck 1019 (by decide +kernel)
 have a2 : primeZ 997 = true := prime_ck 997 (by decide +kernel)
 have a3 : primeZ 10007 = true := prime_ck 10007 (by decide +kernel)
 have a4 : primeZ 10039 = true := prime_ck 10039 (by decide +kernel)
 have a5 : primeZ 1021 = true := prime_ck 1021 (by decide +kernel)
 have a6 : primeZ 263 = true := prime_ck 263 (by decide +kernel)
 have a7 : primeZ 10037 = true := prime_ck 10037 (by decide +kernel)
 have a8 : primeZ 1279 = true := prime_ck 1279 (by decide +kernel)
 match n, h with
 | 0, _ => unfold keyB; rw [kD, if_pos rfl]; decide +kernel
 | 1, _ => unfold keyB; rw [kD, if_pos rfl]; decide +kernel
 | 2, _ => unfold keyB curveB; simp only [kD, cvD, a1, a2]; decide +kernel
 | 3, _ => unfold keyB curveB; simp only [kD, cvD, a3, a4]; decide +kernel
 | 4, _ => unfold keyB edB; simp only [kD, edD, a5, a6]; decide +kernel
 | 5, _ => unfold keyB edB; simp only [kD, edD, a7, a8]; decide +kernel
def secO (n : Nat) : A := .agg [.v (.int .i64 (kD n).kind), .sl (.ow 1) ((kD n).N.map intA), .v (.int .i64 (kD n).e), .v (.int .i64 (kD n).cv.p), .v (.int .i64 (kD n).cv.a), .v (.int .i64 (kD n).cv.b), .v (.int .i64 (kD n).cv.n), .v (.int .i64 (kD n).cv.gx), .v (.int .i64 (kD n).cv.gy),
 .v (.int .i64 (kD n).q.x), .v (.int .i64 (kD n).q.y), .v (.bool (kD n).q.far), .v (.int .i64 (kD n).ed.p), .v (.int .i64 (kD n).ed.d), .v (.int .i64 (kD n).ed.l), .v (.int .i64 (kD n).ed.bx), .v (.int .i64 (kD n).ed.by'), .v (.int .i64 (kD n).a.1), .v (.int .i64 (kD n).a.2),
 .sl (.ow 1) ((dD n).map intA), .v (.int .i64 (xD n))]
set_option maxHeartbeats 2000000 in
include hm in
theorem l3Curves : Holds Tryz.prog 86 [] [] (.sl (.ow 6) [cvA (cvD 0), cvA (cvD 1), cvA (cvD 2)]) [] := by
 refine holds_of (ann := []) tabOk hm Tryz.func86 (by kernel_rfl) rfl ?_
 simp +decide (maxSteps := 9^7) only [↓reduceIte, Tryz.f86, cvA, cvD, go_sem]
 exact Runs.ret_refl
set_option maxHeartbeats 2000000 in
include hm in
theorem l4Bases : Holds Tryz.prog 87 [] [] (.sl (.ow 5) [edA (edD 0), edA (edD 1), edA (edD 2)]) [] := by
 refine holds_of (ann := []) tabOk hm Tryz.func87 (by kernel_rfl) rfl ?_
 simp +decide (maxSteps := 9^7) only [↓reduceIte, Tryz.f87, edA, edD, go_sem]
 exact Runs.ret_refl
def lkD10 : Sched := .take 2 (.take 3 (.take 5 (.take 10 (.lds 192 [0, 1, 4, 6] (.alt 7 (.alt 8 (.alt 9 (.alt 11 (.alt 12 .fin .nil) .nil) .nil) .nil) .nil)))))
def lkD13 : Sched := .take 2 (.take 3 (.take 5 (.take 10 (.lds 320 [0, 1, 4, 6] (.alt 7 (.alt 8 (.alt 9 (.alt 11 (.alt 12 .fin .nil) .nil) .nil) .nil) .nil)))))
attribute [local go_sem] lkD10 lkD13
set_option maxHeartbeats 4000000 in
include hm in
theorem l6Keys (n : Nat) (h : n ≤ 5) : Holds Tryz.prog 42 [.v (.int .i64 n)] [] (secO n) [] := by
 have c3 := l3Curves hm
 have c4 := l4Bases hm
 match n, h with
 | 0, _ =>
  show Holds Tryz.prog 42 [.v (.int .i64 0)] [] _ []
  refine holds_of (ann := []) tabOk hm Tryz.func42 (by kernel_rfl) rfl ?_
  simp +decide (maxSteps := 9^7) only [↓reduceIte, Tryz.f42, go_sem]
  simp only [secO, kD, dD, xD, cv0, pt0, ed0, pr0, List.map_cons, List.map_nil, intA]
  exact Runs.ret_refl
 | 1, _ =>
  show Holds Tryz.prog 42 [.v (.int .i64 1)] [] _ []
  refine holds_of (ann := []) tabOk hm Tryz.func42 (by kernel_rfl) rfl ?_
  simp +decide (maxSteps := 9^7) only [↓reduceIte, Tryz.f42, go_sem]
  simp only [secO, kD, dD, xD, cv0, pt0, ed0, pr0, List.map_cons, List.map_nil, intA]
  exact Runs.ret_refl
 | 2, _ =>
  show Holds Tryz.prog 42 [.v (.int .i64 2)] [] _ []
  have cm := l3Mul hm (cvD 1) 89 ⟨2, 6, false⟩ (by unfold CvIn; decide) (by unfold PtIn; decide) (by decide)
  rw [show mulL (addZ (cvD 1).p (cvD 1).a) 89 farP ⟨2, 6, false⟩ = cqD 1 89 from rfl] at cm
  have q1 : ((2 : Int) - 1).toNat = 1 := rfl
  have q2 : IntKind.i64.wrap ((41 : Int) * 2) = 82 := by decide
  have q3 : IntKind.i64.wrap ((82 : Int) + 7) = 89 := by decide
  simp only [secO, kD, dD, xD, List.map_nil]
  rw [show ((89 : Nat) : Int) = 89 from rfl] at cm
  generalize cqD 1 89 = Q at *
  simp only [cvA, ptA, cvD] at c3 cm
  refine holds_of (ann := []) tabOk hm Tryz.func42 (by kernel_rfl) rfl ?_
  simp +decide (maxSteps := 9^7) only [↓reduceIte, Tryz.f42, q1, q2, q3, go_sem]
  refine Runs.call c3 ?_
  simp +decide (maxSteps := 9^7) only [↓reduceIte, q1, q2, q3, go_sem]
  apply Runs.draw
  ·apply draws_ref (ann := []) tabOk noBy lkD10 (by kernel_rfl)
   intro K r X hK
   simp +decide (maxSteps := 9^7) only [↓reduceIte, q1, q2, q3, go_sem]
   repeat' apply And.intro
   all_goals
    refine Runs.call cm ?_
    simp +decide (maxSteps := 9^7) only [↓reduceIte, q1, q2, q3, go_sem]
    exact hK
  simp +decide (maxSteps := 9^7) only [↓reduceIte, cvD, edD, cv0, pt0, ed0, pr0, go_sem]
  exact Runs.ret (LeD.agg (.same _ (.nils _ (.same _ (.same _ (.same _ (.same _ (.same _ (.same _ (.same _ (.same _ (.same _ (.same _ (.same _ (.same _ (.same _ (.same _ (.same _ (.same _ (.same _ (.nils _ (LeD.refl _))))))))))))))))))))) .nil) rfl
 | 3, _ =>
  show Holds Tryz.prog 42 [.v (.int .i64 3)] [] _ []
  have cm := l3Mul hm (cvD 2) 130 ⟨0, 1973, false⟩ (by unfold CvIn; decide) (by unfold PtIn; decide) (by decide)
  rw [show mulL (addZ (cvD 2).p (cvD 2).a) 130 farP ⟨0, 1973, false⟩ = cqD 2 130 from rfl] at cm
  have q1 : ((3 : Int) - 1).toNat = 2 := rfl
  have q2 : IntKind.i64.wrap ((41 : Int) * 3) = 123 := by decide
  have q3 : IntKind.i64.wrap ((123 : Int) + 7) = 130 := by decide
  simp only [secO, kD, dD, xD, List.map_nil]
  rw [show ((130 : Nat) : Int) = 130 from rfl] at cm
  generalize cqD 2 130 = Q at *
  simp only [cvA, ptA, cvD] at c3 cm
  refine holds_of (ann := []) tabOk hm Tryz.func42 (by kernel_rfl) rfl ?_
  simp +decide (maxSteps := 9^7) only [↓reduceIte, Tryz.f42, q1, q2, q3, go_sem]
  refine Runs.call c3 ?_
  simp +decide (maxSteps := 9^7) only [↓reduceIte, q1, q2, q3, go_sem]
  apply Runs.draw
  ·apply draws_ref (ann := []) tabOk noBy lkD10 (by kernel_rfl)
   intro K r X hK
   simp +decide (maxSteps := 9^7) only [↓reduceIte, q1, q2, q3, go_sem]
   repeat' apply And.intro
   all_goals
    refine Runs.call cm ?_
    simp +decide (maxSteps := 9^7) only [↓reduceIte, q1, q2, q3, go_sem]
    exact hK
  simp +decide (maxSteps := 9^7) only [↓reduceIte, cvD, edD, cv0, pt0, ed0, pr0, go_sem]
  exact Runs.ret (LeD.agg (.same _ (.nils _ (.same _ (.same _ (.same _ (.same _ (.same _ (.same _ (.same _ (.same _ (.same _ (.same _ (.same _ (.same _ (.same _ (.same _ (.same _ (.same _ (.same _ (.nils _ (LeD.refl _))))))))))))))))))))) .nil) rfl
 | 4, _ =>
  show Holds Tryz.prog 42 [.v (.int .i64 4)] [] _ []
  have cm := l4Mul hm (edD 1) 121 (87, 232) (by unfold EdIn; decide) (by unfold PrIn; decide) (by decide)
  rw [show mulL (eaddZ (edD 1).p (edD 1).d) 121 (0, 1) (87, 232) = eqD 1 121 from rfl] at cm
  have q1 : ((4 : Int) - 3).toNat = 1 := rfl
  have q2 : IntKind.i64.wrap ((29 : Int) * 4) = 116 := by decide
  have q3 : IntKind.i64.wrap ((116 : Int) + 5) = 121 := by decide
  simp only [secO, kD, dD, xD, List.map_nil]
  rw [show ((121 : Nat) : Int) = 121 from rfl] at cm
  generalize eqD 1 121 = Q at *
  simp only [edA, prA, edD] at c4 cm
  refine holds_of (ann := []) tabOk hm Tryz.func42 (by kernel_rfl) rfl ?_
  simp +decide (maxSteps := 9^7) only [↓reduceIte, Tryz.f42, q1, q2, q3, go_sem]
  refine Runs.call c4 ?_
  simp +decide (maxSteps := 9^7) only [↓reduceIte, q1, q2, q3, go_sem]
  apply Runs.draw
  ·apply draws_ref (ann := []) tabOk noBy lkD13 (by kernel_rfl)
   intro K r X hK
   simp +decide (maxSteps := 9^7) only [↓reduceIte, q1, q2, q3, go_sem]
   repeat' apply And.intro
   all_goals
    refine Runs.call cm ?_
    simp +decide (maxSteps := 9^7) only [↓reduceIte, q1, q2, q3, go_sem]
    exact hK
  simp +decide (maxSteps := 9^7) only [↓reduceIte, cvD, edD, cv0, pt0, ed0, pr0, go_sem]
  exact Runs.ret (LeD.agg (.same _ (.nils _ (.same _ (.same _ (.same _ (.same _ (.same _ (.same _ (.same _ (.same _ (.same _ (.same _ (.same _ (.same _ (.same _ (.same _ (.same _ (.same _ (.same _ (.nils _ (LeD.refl _))))))))))))))))))))) .nil) rfl
 | 5, _ =>
  show Holds Tryz.prog 42 [.v (.int .i64 5)] [] _ []
  have cm := l4Mul hm (edD 2) 150 (8662, 1422) (by unfold EdIn; decide) (by unfold PrIn; decide) (by decide)
  rw [show mulL (eaddZ (edD 2).p (edD 2).d) 150 (0, 1) (8662, 1422) = eqD 2 150 from rfl] at cm
  have q1 : ((5 : Int) - 3).toNat = 2 := rfl
  have q2 : IntKind.i64.wrap ((29 : Int) * 5) = 145 := by decide
  have q3 : IntKind.i64.wrap ((145 : Int) + 5) = 150 := by decide
  simp only [secO, kD, dD, xD, List.map_nil]
  rw [show ((150 : Nat) : Int) = 150 from rfl] at cm
  generalize eqD 2 150 = Q at *
  simp only [edA, prA, edD] at c4 cm
  refine holds_of (ann := []) tabOk hm Tryz.func42 (by kernel_rfl) rfl ?_
  simp +decide (maxSteps := 9^7) only [↓reduceIte, Tryz.f42, q1, q2, q3, go_sem]
  refine Runs.call c4 ?_
  simp +decide (maxSteps := 9^7) only [↓reduceIte, q1, q2, q3, go_sem]
  apply Runs.draw
  ·apply draws_ref (ann := []) tabOk noBy lkD13 (by kernel_rfl)
   intro K r X hK
   simp +decide (maxSteps := 9^7) only [↓reduceIte, q1, q2, q3, go_sem]
   repeat' apply And.intro
   all_goals
    refine Runs.call cm ?_
    simp +decide (maxSteps := 9^7) only [↓reduceIte, q1, q2, q3, go_sem]
    exact hK
  simp +decide (maxSteps := 9^7) only [↓reduceIte, cvD, edD, cv0, pt0, ed0, pr0, go_sem]
  exact Runs.ret (LeD.agg (.same _ (.nils _ (.same _ (.same _ (.same _ (.same _ (.same _ (.same _ (.same _ (.same _ (.same _ (.same _ (.same _ (.same _ (.same _ (.same _ (.same _ (.same _ (.same _ (.nils _ (LeD.refl _))))))))))))))))))))) .nil) rfl
end Go.Proofs.W

namespace Go.Proofs.W
open Go Go.AM Go.Proofs.G
variable (hm : Tryz.prog.follows .mixedOrders = true)
theorem intA_map (l : List Int) : l.map intA = l.map (fun n => .v (.int .i64 n)) := rfl
def dkS : Sched := .take 0 (.take 2 (.alt 1 (.alt 3 (.take 4 (.alt 5 (.take 6 (.take 7 (.alt 8 .fin .nil))) .nil)) .nil) (.alt 3 (.take 4 (.alt 1 (.alt 5 (.take 6 (.take 7 (.alt 8 .fin .nil))) .nil) (.alt 5 (.take 6 (.alt 1 (.take 7 (.alt 8 .fin .nil)) .nil)) .nil))) .nil)))
attribute [local go_sem] dkS
set_option maxRecDepth 10000 in
set_option maxHeartbeats 4000000 in
include hm in
theorem l6DrawKey (b : List Int) (hb : BytesOk b) (hl : b.length ≤ 1048576) (i : Nat) (h : Int) (hi : i ≤ b.length) : ∃ k i' h', Holds Tryz.prog 14 [.ref (.x 0) 0 0 1] [curB b i h] (keyO k) [curB b i' h'] ∧ i' ≤ b.length ∧ k.N.length ≤ 64 := by
 obtain ⟨n, i1, h1, c1, q1, r1⟩ := l1Below hm b hb hl i h hi 6 (by omega) (by omega)
 have ck := l6Keys hm n (by omega)
 obtain ⟨m, i2, h2, c2, q2, r2⟩ := l1Below hm b hb hl i1 h1 q1 25 (by omega) (by omega)
 have hN := kD_len n
 rw [secO] at ck
 generalize hd : (dD n).map intA = d at *
 generalize xD n = x at *
 clear hd
 generalize kD n = k at *
 have tkN : List.take k.N.length (k.N.map intA) = k.N.map intA := take_map_len
 rw [show ((6 : Nat) : Int) = 6 from rfl] at c1
 rw [show ((25 : Nat) : Int) = 25 from rfl] at c2
 simp only [curB] at c1 c2 ⊢
 rcases (show m = 0 ∨ m = 1 ∨ m = 2 ∨ m = 3 ∨ m = 4 ∨ m = 5 ∨ 6 ≤ m by omega) with rfl | rfl | rfl | rfl | rfl | rfl | m6
 ·obtain ⟨v, i3, h3, c3, q3, _⟩ := l1PickInt hm b hb hl i2 h2 q2 [0, 1, 2, 3, 4] (by decide) (by decide)
  simp only [curB, List.map_cons, List.map_nil, intA] at c3
  refine ⟨⟨v, k.N, k.e, k.cv, k.q, k.ed, k.a⟩, i3, h3, ?_, q3, by simp only; omega⟩
  refine holds_ref (ann := []) tabOk hm (byL [43, 44] [1000013, 1000019, 1000044]) Tryz.func14 (by kernel_rfl) rfl ?_
  simp +decide (maxSteps := 9^7) only [↓reduceIte, Tryz.f14, go_sem]
  refine Runs.call c1 ?_
  simp +decide (maxSteps := 9^7) only [↓reduceIte, go_sem]
  refine Runs.call ck ?_
  simp +decide (maxSteps := 9^7) only [↓reduceIte, tkN, go_sem]
  refine Runs.call c2 ?_
  simp +decide (maxSteps := 9^7) only [↓reduceIte, tkN, go_sem]
  refine Runs.call c3 ?_
  simp +decide (maxSteps := 9^7) only [↓reduceIte, tkN, go_sem]
  exact Runs.ret_refl
 ·obtain ⟨v, i3, h3, c3, q3, _⟩ := l1PickInt hm b hb hl i2 h2 q2 [1, 2, 3, 65537, 65539] (by decide) (by decide)
  simp only [curB, List.map_cons, List.map_nil, intA] at c3
  refine ⟨⟨k.kind, k.N, v, k.cv, k.q, k.ed, k.a⟩, i3, h3, ?_, q3, by simp only; omega⟩
  refine holds_ref (ann := []) tabOk hm (byL [43, 44] [1000013, 1000019, 1000044]) Tryz.func14 (by kernel_rfl) rfl ?_
  simp +decide (maxSteps := 9^7) only [↓reduceIte, Tryz.f14, go_sem]
  refine Runs.call c1 ?_
  simp +decide (maxSteps := 9^7) only [↓reduceIte, go_sem]
  refine Runs.call ck ?_
  simp +decide (maxSteps := 9^7) only [↓reduceIte, tkN, go_sem]
  refine Runs.call c2 ?_
  simp +decide (maxSteps := 9^7) only [↓reduceIte, tkN, go_sem]
  refine Runs.call c3 ?_
  simp +decide (maxSteps := 9^7) only [↓reduceIte, tkN, go_sem]
  exact Runs.ret_refl
 ·obtain ⟨kind, N, e, cv, q, ed, a⟩ := k
  simp only at *
  cases N with
  | nil =>
   refine ⟨⟨kind, [], e, cv, q, ed, a⟩, i2, h2, ?_, q2, by simp⟩
   refine holds_ref (ann := []) tabOk hm (byL [43, 44] [1000013, 1000019, 1000044]) Tryz.func14 (by kernel_rfl) rfl ?_
   simp +decide (maxSteps := 9^7) only [↓reduceIte, Tryz.f14, go_sem]
   refine Runs.call c1 ?_
   simp +decide (maxSteps := 9^7) only [↓reduceIte, go_sem]
   refine Runs.call ck ?_
   simp +decide (maxSteps := 9^7) only [↓reduceIte, List.map_nil, go_sem]
   refine Runs.call c2 ?_
   simp +decide (maxSteps := 9^7) only [↓reduceIte, List.map_nil, go_sem]
   exact Runs.ret_refl
  | cons y N =>
   refine ⟨⟨kind, xorI .i64 y 1 :: N, e, cv, q, ed, a⟩, i2, h2, ?_, q2, by simp only [List.length_cons] at *; omega⟩
   have d1 : decide (((N.length + 1 : Nat) : Int) > 0) = true := decide_eq_true (by omega)
   refine holds_ref (ann := []) tabOk hm (byL [43, 44] [1000013, 1000019, 1000044]) Tryz.func14 (by kernel_rfl) rfl ?_
   simp +decide (maxSteps := 9^7) only [↓reduceIte, Tryz.f14, go_sem]
   refine Runs.call c1 ?_
   simp +decide (maxSteps := 9^7) only [↓reduceIte, go_sem]
   refine Runs.call ck ?_
   simp +decide (maxSteps := 9^7) only [↓reduceIte, tkN, go_sem]
   refine Runs.call c2 ?_
   have d2 : decide (N.length + 1 ≤ 1073741824) = true := decide_eq_true (by simp only [List.length_cons] at hN; omega)
   simp +decide (maxSteps := 9^7) only [↓reduceIte, tkN, d1, d2, go_sem]
   have q0 : (0 : Int).toNat = 0 := rfl
   have d3 : decide (0 ≤ (0 : Int) ∧ (0 : Int) < ((N.length + 1 : Nat) : Int)) = true := decide_eq_true (by omega)
   apply Runs.draw
   ·apply draws_ref (ann := []) tabOk (byL [43, 44] [1000013, 1000019, 1000044]) dkS (by kernel_rfl)
    intro K r X hK
    simp +decide (maxSteps := 9^7) only [↓reduceIte, tkN, d1, d2, d3, q0, List.getD_cons_zero, List.set_cons_zero, go_sem]
    repeat' apply And.intro
    all_goals exact hK
   simp +decide (maxSteps := 9^7) only [↓reduceIte, tkN, go_sem]
   exact Runs.ret_refl
 ·obtain ⟨v, i3, h3, c3, q3, _⟩ := l1PickInt hm b hb hl i2 h2 q2 [32767, 32768] (by decide) (by decide)
  simp only [curB, List.map_cons, List.map_nil, intA] at c3
  refine ⟨⟨k.kind, [1, 2, 3, 4, 5, 6, 7, v], k.e, k.cv, k.q, k.ed, k.a⟩, i3, h3, ?_, q3, by simp⟩
  refine holds_ref (ann := []) tabOk hm (byL [43, 44] [1000013, 1000019, 1000044]) Tryz.func14 (by kernel_rfl) rfl ?_
  simp +decide (maxSteps := 9^7) only [↓reduceIte, Tryz.f14, go_sem]
  refine Runs.call c1 ?_
  simp +decide (maxSteps := 9^7) only [↓reduceIte, go_sem]
  refine Runs.call ck ?_
  simp +decide (maxSteps := 9^7) only [↓reduceIte, tkN, go_sem]
  refine Runs.call c2 ?_
  simp +decide (maxSteps := 9^7) only [↓reduceIte, tkN, go_sem]
  refine Runs.call c3 ?_
  simp +decide (maxSteps := 9^7) only [↓reduceIte, tkN, go_sem]
  exact Runs.ret_refl
 ·refine ⟨⟨k.kind, k.N, k.e, k.cv, ⟨0, 0, true⟩, k.ed, k.a⟩, i2, h2, ?_, q2, by simp only; omega⟩
  refine holds_ref (ann := []) tabOk hm (byL [43, 44] [1000013, 1000019, 1000044]) Tryz.func14 (by kernel_rfl) rfl ?_
  simp +decide (maxSteps := 9^7) only [↓reduceIte, Tryz.f14, go_sem]
  refine Runs.call c1 ?_
  simp +decide (maxSteps := 9^7) only [↓reduceIte, go_sem]
  refine Runs.call ck ?_
  simp +decide (maxSteps := 9^7) only [↓reduceIte, tkN, go_sem]
  refine Runs.call c2 ?_
  simp +decide (maxSteps := 9^7) only [↓reduceIte, tkN, go_sem]
  exact Runs.ret_refl
 ·refine ⟨⟨k.kind, k.N, k.e, k.cv, k.q, k.ed, (IntKind.i64.wrap (k.a.1 + 1), k.a.2)⟩, i2, h2, ?_, q2, by simp only; omega⟩
  refine holds_ref (ann := []) tabOk hm (byL [43, 44] [1000013, 1000019, 1000044]) Tryz.func14 (by kernel_rfl) rfl ?_
  simp +decide (maxSteps := 9^7) only [↓reduceIte, Tryz.f14, go_sem]
  refine Runs.call c1 ?_
  simp +decide (maxSteps := 9^7) only [↓reduceIte, go_sem]
  refine Runs.call ck ?_
  simp +decide (maxSteps := 9^7) only [↓reduceIte, tkN, go_sem]
  refine Runs.call c2 ?_
  simp +decide (maxSteps := 9^7) only [↓reduceIte, tkN, go_sem]
  exact Runs.ret_refl
 ·refine ⟨k, i2, h2, ?_, q2, by omega⟩
  have e0 : decide ((m : Int) = 0) = false := decide_eq_false (by omega)
  have e1 : decide ((m : Int) = 1) = false := decide_eq_false (by omega)
  have e2 : decide ((m : Int) = 2) = false := decide_eq_false (by omega)
  have e3 : decide ((m : Int) = 3) = false := decide_eq_false (by omega)
  have e4 : decide ((m : Int) = 4) = false := decide_eq_false (by omega)
  have e5 : decide ((m : Int) = 5) = false := decide_eq_false (by omega)
  refine holds_ref (ann := []) tabOk hm (byL [43, 44] [1000013, 1000019, 1000044]) Tryz.func14 (by kernel_rfl) rfl ?_
  simp +decide (maxSteps := 9^7) only [↓reduceIte, Tryz.f14, go_sem]
  refine Runs.call c1 ?_
  simp +decide (maxSteps := 9^7) only [↓reduceIte, go_sem]
  refine Runs.call ck ?_
  simp +decide (maxSteps := 9^7) only [↓reduceIte, tkN, go_sem]
  refine Runs.call c2 ?_
  simp +decide (maxSteps := 9^7) only [↓reduceIte, tkN, e0, e1, e2, e3, e4, e5, go_sem]
  exact Runs.ret_refl
end Go.Proofs.W

namespace Go.Proofs.W
open Go Go.AM Go.Proofs.G
variable (hm : Tryz.prog.follows .mixedOrders = true)
set_option maxRecDepth 10000 in
set_option maxHeartbeats 4000000 in
include hm in
theorem drawKeyTree (b : List Int) (hb : BytesOk b) (hl : b.length ≤ 1048576) : ∃ k : GKey, Holds Tryz.prog 5 [.sl .sh (b.map u8A)] [] (keyO k) [] ∧ k.N.length ≤ 64 := by
 obtain ⟨k, i', h', c, q1, q2⟩ := l6DrawKey hm b hb hl 0 (nwK b (nwN b)) (Nat.zero_le _)
 have cn := l1New hm b hb hl
 have tkN : List.take k.N.length (k.N.map intA) = k.N.map intA := take_map_len
 have hlen : (b.map u8A).length = b.length := List.length_map _
 rw [nwA] at cn
 simp only [curB, keyO] at c ⊢
 rw [show ((0 : Nat) : Int) = 0 from rfl] at c
 refine ⟨k, ?_, q2⟩
 refine holds_ref (ann := []) tabOk hm (byL [14] []) Tryz.func5 (by kernel_rfl) rfl ?_
 simp +decide (maxSteps := 9^7) only [↓reduceIte, Tryz.f5, go_sem]
 refine Runs.call cn ?_
 simp +decide (maxSteps := 9^7) only [↓reduceIte, hlen, go_sem]
 refine Runs.call c ?_
 simp +decide (maxSteps := 9^7) only [↓reduceIte, tkN, go_sem]
 exact Runs.ret_refl
end Go.Proofs.W

namespace Go.Proofs.W
open Go Go.AM Go.Proofs.G
set_option maxRecDepth 10000
variable (hm : Tryz.prog.follows .mixedOrders = true)
include hm in
theorem bigL (b : List Int) (hl : b.length ≤ 9223372036854775807) : Holds Tryz.prog 4 [.sl .sh (b.map u8A)] [] (.v (.bool (decide (1048576 < b.length)))) [] := by
 have hlen : (b.map u8A).length = b.length := List.length_map _
 have e : decide ((1048576 : Int) < (b.length : Int)) = decide (1048576 < b.length) := decide_eq_decide.mpr (by omega)
 refine holds_of (ann := []) tabOk hm Tryz.func4 (by kernel_rfl) rfl ?_
 simp +decide (maxSteps := 9^7) only [↓reduceIte, Tryz.f4, hlen, e, go_sem]
 exact Runs.ret_refl
set_option maxHeartbeats 2000000 in
include hm in
theorem iSameKey (k k' : GKey) (h3 : k.N.length ≤ 9223372036854775807) (h4 : k'.N.length ≤ 9223372036854775807) : Holds Tryz.prog 10 [keyA k, keyA k'] [] (.v (.bool (keySame k k' && keyB k))) [] := by
 have c1 := sameK hm k k' h3 h4
 have c2 := iKeyOk hm k h3
 rw [keyA, keyA] at *
 generalize keySame k k' = p at *
 generalize keyB k = q at *
 refine holds_ref (ann := []) tabOk hm (byL [] [1000002, 1000003]) Tryz.func10 (by kernel_rfl) rfl ?_
 simp +decide (maxSteps := 9^7) only [↓reduceIte, Tryz.f10, go_sem]
 refine Runs.call c1 ?_
 cases p with
 | false =>
  simp +decide (maxSteps := 9^7) only [↓reduceIte, go_sem]
  exact Runs.ret_v
 | true =>
  simp +decide (maxSteps := 9^7) only [↓reduceIte, go_sem]
  refine Runs.call c2 ?_
  simp +decide (maxSteps := 9^7) only [↓reduceIte, go_sem]
  exact Runs.ret_v
def tsS6 : Sched := .take 0 (.take 1 (.take 2 (.take 3 (.take 5 (.take 6 (.take 7 (.take 8 (.ld 4 (.ld 9 (.take 10 (.take 11 (.take 12 (.take 13 (.take 14 (.take 15 (.take 17 (.take 18 (.take 19 (.take 20 (.ld 16 (.ld 21 (.take 22 (.take 23 (.take 24 (.take 25 (.take 26 (.take 27 (.take 28 (.take 31 (.take 32 (.take 33 (.take 34 (.ld 29 (.ld 35 (.alt 30 (.alt 36 (.take 37 (.take 38 .fin)) .nil) (.alt 36 (.alt 30 (.take 37 (.take 38 .fin)) .nil) .nil))))))))))))))))))))))))))))))))))))
attribute [local go_sem] tsS6
def tsAnn : Ann := [(0, [0, 1, 5])]
def tsSt (L M : List It) (i : Nat) : St := ⟨[.sl .sh (L.map itemS), .sl .sh (M.map itemS), .any, .any, .any, .v (.int .i64 i), .any, .any, .any, .any, .any, .any, .any, .any, .any, .any, .any, .any, .any, .any, .any, .any, .any, .any, .any, .any, .any, .any, .any, .any, .any, .any, .any, .any, .any, .any, .any, .any, .any, .any, .any, .any, .any, .any, .any, .any, .any, .any, .any, .any, .any, .any, .any, .any, .any, .any], [], []⟩
set_option maxHeartbeats 4000000 in
include hm in
theorem sameTree (L M : List It) (hl : L.length ≤ 1048576) (hml : M.length ≤ 1048576) (hL : ∀ x ∈ L, BytesOk x.body) (hM : ∀ x ∈ M, BytesOk x.body) : Holds Tryz.prog 13 [.sl .sh (L.map itemS), .sl .sh (M.map itemS)] [] (.v (.bool (sameIs L M))) [] := by
 have h1 : (L.map itemS).length = L.length := List.length_map _
 have h2 : (M.map itemS).length = M.length := List.length_map _
 refine holds_of (ann := tsAnn) tabOk hm Tryz.func13 (by kernel_rfl) rfl ?_
 by_cases hlen : L.length = M.length
 rotate_left 1
 ·have dl : decide ((L.length : Int) = (M.length : Int)) = false := decide_eq_false (by omega)
  rw [sameIs_len hlen]
  simp +decide (maxSteps := 9^7) only [↓reduceIte, Tryz.f13, h1, h2, dl, go_sem]
  exact Runs.ret_v
 have dl : decide ((L.length : Int) = (M.length : Int)) = true := decide_eq_true (by omega)
 simp +decide (maxSteps := 9^7) only [↓reduceIte, Tryz.f13, h1, h2, dl, go_sem]
 refine Runs.while (α := Nat) (tsSt L M) (fun i => L.length - i) (fun i => i ≤ L.length ∧ sameIs (L.drop i) (M.drop i) = sameIs L M) 0 ⟨by omega, rfl⟩ ?_ ?_
 ·simp [go_sem, tsAnn, tsSt]
 intro i ⟨hi, he⟩ ih
 by_cases hlt : i < L.length
 rotate_left 1
 ·have d0 : decide ((i : Int) < (L.length : Int)) = false := decide_eq_false (by omega)
  have hr : sameIs L M = true := by rw [← he, List.drop_of_length_le (by omega), List.drop_of_length_le (by omega)]; rfl
  rw [hr]
  simp +decide (maxSteps := 9^7) only [↓reduceIte, tsSt, h1, h2, dl, d0, go_sem]
  exact Runs.ret_v
 have hlt2 : i < M.length := by omega
 have d0 : decide ((i : Int) < (L.length : Int)) = true := decide_eq_true (by omega)
 have r1 : decide (0 ≤ (i : Int) ∧ (i : Int) < (L.length : Int)) = true := decide_eq_true (by omega)
 have r2 : decide (0 ≤ (i : Int) ∧ (i : Int) < (M.length : Int)) = true := decide_eq_true (by omega)
 have g1 := item_get hlt
 have g2 := item_get hlt2
 rw [sameIs_step hlt hlt2] at he
 have a1 := all_bytes (hL _ (List.getElem_mem hlt))
 have a2 := all_bytes (hM _ (List.getElem_mem hlt2))
 have cs := same_tx (hL _ (List.getElem_mem hlt)) (hM _ (List.getElem_mem hlt2))
 have w1 : IntKind.i64.wrap ((i : Int) + 1) = ((i + 1 : Nat) : Int) := by rw [wrap_i64 (by omega) (by omega)]; rfl
 rw [← he]
 rw [← he] at ih
 obtain ⟨rest, hrest⟩ : ∃ r, r = sameIs (L.drop (i + 1)) (M.drop (i + 1)) := ⟨_, rfl⟩
 rw [← hrest]
 rw [← hrest] at ih
 have key : ∀ (a b c : Bool), decide (L[i].tag = M[i].tag) = a → decide (L[i].kids = M[i].kids) = b → decide (L[i].body = M[i].body) = c → sameIt L[i] M[i] = (a && b && c) := by
  rintro a b c rfl rfl rfl
  rfl
 generalize L[i] = x at *
 generalize M[i] = y at *
 obtain ⟨t1, b1, k1⟩ := x
 obtain ⟨t2, b2, k2⟩ := y
 simp only at g1 g2 cs key a1 a2
 by_cases e1 : t1 = t2
 rotate_left 1
 ·have q1 : decide (t1 = t2) = false := decide_eq_false e1
  have hk := key _ _ _ q1 rfl rfl
  rw [hk]
  simp +decide (maxSteps := 9^7) only [↓reduceIte, tsSt, h1, h2, dl, d0, go_sem]
  apply Runs.draw
  ·apply draws_ref (ann := tsAnn) tabOk noBy tsS6 (by kernel_rfl)
   intro K r X hK
   simp +decide (maxSteps := 9^7) only [↓reduceIte, h1, h2, r1, r2, g1, g2, q1, Int.toNat_natCast, go_sem]
   exact hK
  simp +decide (maxSteps := 9^7) only [↓reduceIte, go_sem]
  exact Runs.ret_v
 have q1 : decide (t1 = t2) = true := decide_eq_true e1
 by_cases e2 : k1 = k2
 rotate_left 1
 ·have q2 : decide (k1 = k2) = false := decide_eq_false e2
  have hk := key _ _ _ q1 q2 rfl
  rw [hk]
  simp +decide (maxSteps := 9^7) only [↓reduceIte, tsSt, h1, h2, dl, d0, go_sem]
  apply Runs.draw
  ·apply draws_ref (ann := tsAnn) tabOk noBy tsS6 (by kernel_rfl)
   intro K r X hK
   simp +decide (maxSteps := 9^7) only [↓reduceIte, h1, h2, r1, r2, g1, g2, q1, q2, Int.toNat_natCast, go_sem]
   exact hK
  simp +decide (maxSteps := 9^7) only [↓reduceIte, go_sem]
  exact Runs.ret_v
 have q2 : decide (k1 = k2) = true := decide_eq_true e2
 by_cases e3 : b1 = b2
 case' pos => have q3 : decide (b1 = b2) = true := decide_eq_true e3
 case' neg => have q3 : decide (b1 = b2) = false := decide_eq_false e3
 all_goals
  have hk := key _ _ _ q1 q2 q3
  rw [hk] at ih ⊢
  rw [q3] at cs
  simp +decide (maxSteps := 9^7) only [↓reduceIte, tsSt, h1, h2, dl, d0, go_sem]
  apply Runs.draw
  ·apply draws_ref (ann := tsAnn) tabOk noBy tsS6 (by kernel_rfl)
   intro K r X hK
   simp +decide (maxSteps := 9^7) only [↓reduceIte, h1, h2, r1, r2, g1, g2, q1, q2, a1, a2, txB_eq, cs, Int.toNat_natCast, go_sem]
   repeat' apply And.intro
   all_goals exact hK
  simp +decide (maxSteps := 9^7) only [↓reduceIte, w1, go_sem]
 ·exact Runs.ret_v
 ·refine ih (i + 1) _ (by omega) ⟨by omega, by simp [hrest]⟩ ?_
  simp [go_sem, tsAnn, tsSt]
end Go.Proofs.W

namespace Go.Proofs.W
open Go Go.AM Go.Proofs.G
variable (hm : Tryz.prog.follows .mixedOrders = true)
theorem keyT_len3 {k : GKey} (h : keyB k = true) : (k.kind = 1 ∧ (keyT k).length = 4) ∨ (k.kind = 2 ∧ (keyT k).length = 9) ∨ (k.kind = 3 ∧ (keyT k).length = 8) := by
 rcases key_shape h with ⟨e, _⟩ | ⟨e, _⟩ | ⟨e, _⟩
 all_goals
  have hk := congrArg GKey.kind e
  simp only at hk
 ·left; exact ⟨hk, by rw [keyT, hk]; rfl⟩
 ·right; left; exact ⟨hk, by rw [keyT, if_neg (by rw [hk]; decide), keyInts, if_pos hk]; rfl⟩
 ·right; right; exact ⟨hk, by rw [keyT, if_neg (by rw [hk]; decide), keyInts, if_neg (by rw [hk]; decide)]; rfl⟩
end Go.Proofs.W

namespace Go.Proofs.W
open Go Go.AM Go.Proofs.G
variable (hm : Tryz.prog.follows .mixedOrders = true)
theorem dn_itsM {T : List It} : List.map A.dn (T.map itemS) = T.map itemS := by rw [← dnL_eq, dn_itemS]
theorem keyT_short {k : GKey} (h : keyB k = true) : ∀ x ∈ keyT k, x.body.length ≤ 1000 := by
 intro x hx
 by_cases h1 : k.kind = 1
 ·have := keyB_rsa h h1
  rw [keyT, if_pos h1] at hx
  simp only [List.mem_cons, List.not_mem_nil, or_false] at hx
  rcases hx with rfl | rfl | rfl | rfl
  ·simp
  ·have := intB_len 1; simp only [intI]; omega
  ·simp only; omega
  ·have := intB_len k.e; simp only [intI]; omega
 ·have := keyPt_len k
  rw [keyT, if_neg h1] at hx
  simp only [List.mem_cons, List.mem_append, List.mem_map, List.not_mem_nil, or_false] at hx
  rcases hx with rfl | ⟨n, _, rfl⟩ | rfl
  ·simp
  ·have := intB_len n; simp only [intI]; omega
  ·simp only [List.length_cons]; omega
set_option maxRecDepth 10000 in
set_option maxHeartbeats 4000000 in
include hm in
theorem drawReadKeyTree0 (b : List Int) (hb : BytesOk b) (hl : b.length ≤ 1048576) : ∃ (L : List It) (es : List A), Holds Tryz.prog 12 [.sl .sh (b.map u8A)] [] (.sl (.ow 3) es) [] ∧ dnL es = L.map itemS ∧ L.length ≤ 9 ∧ ∀ x ∈ L, BytesOk x.body ∧ x.body.length ≤ 1048576 := by
 have cn := l1New hm b hb hl
 obtain ⟨n, i1, h1, c1, q1, r1⟩ := l1Below hm b hb hl 0 (nwK b (nwN b)) (Nat.zero_le _) 6 (by omega) (by omega)
 have ck := l6Keys hm n (by omega)
 rw [secO] at ck
 have ck := Holds.dn1 (by simp [plainL, A.plain]) ck
 have di : ∀ l : List Int, dnL (l.map intA) = l.map intA := fun l => by rw [dnL_eq, List.map_map]; rfl
 simp only [A.dn, dnL, di] at ck
 have hN := kD_len n
 have hB := kD_ok n (by omega)
 generalize hd : (dD n).map intA = d at *
 generalize xD n = x at *
 clear hd
 generalize kD n = k at *
 have cl := Holds.dnIn (by simp [plainL, A.plain, keyA, Sh.own, plainL_map, intA]) (l10Key hm k hB)
 rw [dn_itemO] at cl
 have hb1 := keyT_bytes hB
 have hl1 : 2 ≤ (keyT k).length ∧ (keyT k).length ≤ 9 := by
  have := keyT_len3 hB
  omega
 have hb2 := keyT_short hB
 rw [keyA] at cl
 generalize keyT k = T at *
 obtain ⟨j, i2, h2, c2, q2, r2⟩ := l1Below hm b hb hl i1 h1 q1 T.length (by omega) (by omega)
 obtain ⟨m, i3, h3, c3, q3, r3⟩ := l1Below hm b hb hl i2 h2 q2 6 (by omega) (by omega)
 have tkN : List.take k.N.length (k.N.map intA) = k.N.map intA := take_map_len
 have hlen : (b.map u8A).length = b.length := List.length_map _
 have hT : (T.map itemS).length = T.length := List.length_map _
 have tkT : List.take T.length (T.map itemS) = T.map itemS := take_map_len
 rw [nwA] at cn
 rw [show ((6 : Nat) : Int) = 6 from rfl] at c1 c3
 simp only [curB] at c1 c2 c3
 rw [show ((0 : Nat) : Int) = 0 from rfl] at c1
 have rj : decide (0 ≤ (j : Int) ∧ (j : Int) < (T.length : Int)) = true := decide_eq_true (by omega)
 have gj : (T.map itemS).getD j .any = .agg [.v (.int .i64 T[j].tag), .sl .sh (T[j].body.map u8A), .v (.int .i64 T[j].kids)] := by simp [List.getD, r2, itemS]
 have rj1 : decide (0 ≤ (1 : Int) ∧ (1 : Int) < (T.length : Int)) = true := decide_eq_true (by omega)
 have g1 : (T.map itemS).getD 1 .any = .agg [.v (.int .i64 (T[1]'(by omega)).tag), .sl .sh ((T[1]'(by omega)).body.map u8A), .v (.int .i64 (T[1]'(by omega)).kids)] := by simp [List.getD, show 1 < T.length by omega, itemS]
 have hsL : ∀ (i : Nat) (a : A), ((T.map itemS).set i a).length = T.length := fun i a => by rw [List.length_set, hT]
 have hsT : ∀ (i : Nat) (a : A), List.take T.length ((T.map itemS).set i a) = (T.map itemS).set i a := fun i a => List.take_of_length_le (by rw [hsL]; exact Nat.le_refl _)
 have lt1 : decide ((1 : Int) < (T.length : Int)) = true := decide_eq_true (by omega)
 have t1 : (1 : Int).toNat = 1 := rfl
 have j0 : j - (0 : Int).toNat = j := Nat.sub_zero _
 have ck1 : decide (0 ≤ (j : Int) ∧ (j : Int) ≤ (T.length : Int) ∧ (j : Int) ≤ (j : Int) ∧ (j : Int) ≤ (T.length : Int)) = true := decide_eq_true (by omega)
 have ck2 : j ≤ T.length := by omega
 have ck3 : (List.take j (T.map itemS)).length = j := by rw [List.length_take, hT]; omega
 rcases (show m = 0 ∨ m = 1 ∨ m = 2 ∨ m = 3 ∨ 4 ≤ m by omega) with rfl | rfl | rfl | rfl | m6
 ·obtain ⟨v, i4, h4, c4, q4, _⟩ := l1PickInt hm b hb hl i3 h3 q3 [2, 3, 48] (by decide) (by decide)
  simp only [curB, List.map_cons, List.map_nil, intA] at c4
  refine ⟨T.set j ⟨v, T[j].body, T[j].kids⟩, (T.map itemS).set j (.agg [.v (.int .i64 v), .sl .sh (T[j].body.map u8A), .v (.int .i64 T[j].kids)]), ?_, by rw [dnL_eq, List.map_set, List.map_set, dn_itsM]; simp [itemS, A.dn, dnL, dn_u8A, u8A], by rw [List.length_set]; omega, ?_⟩
  rotate_left 1
  ·intro x hx
   have hj := List.getElem_mem r2
   rcases List.mem_or_eq_of_mem_set hx with hx | rfl
   ·exact ⟨hb1 x hx, by have := hb2 x hx; omega⟩
   ·exact ⟨hb1 T[j] hj, by have := hb2 T[j] hj; simp only; omega⟩
  refine holds_ref (ann := []) tabOk hm (byL [43, 44] [1000024]) Tryz.func12 (by kernel_rfl) rfl ?_
  simp +decide (maxSteps := 9^7) only [↓reduceIte, Tryz.f12, go_sem]
  refine Runs.call cn ?_
  simp +decide (maxSteps := 9^7) only [↓reduceIte, go_sem]
  refine Runs.call c1 ?_
  simp +decide (maxSteps := 9^7) only [↓reduceIte, go_sem]
  refine Runs.call ck ?_
  simp +decide (maxSteps := 9^7) only [↓reduceIte, tkN, go_sem]
  refine Runs.call cl ?_
  simp +decide (maxSteps := 9^7) only [↓reduceIte, hT, tkT, go_sem]
  refine Runs.call c2 ?_
  simp +decide (maxSteps := 9^7) only [↓reduceIte, hT, tkT, go_sem]
  refine Runs.call c3 ?_
  simp +decide (maxSteps := 9^7) only [↓reduceIte, hT, tkT, gj, rj, Int.toNat_natCast, go_sem]
  refine Runs.call c4 ?_
  simp +decide (maxSteps := 9^7) only [↓reduceIte, hT, tkT, gj, rj, Int.toNat_natCast, hsL, hsT, go_sem]
  exact Runs.ret_refl
 ·have cb := l1Bytes hm T[j].body (by have := hb2 _ (List.getElem_mem r2); omega)
  have cbk : decide (T[j].body.length + 1 ≤ 1073741824) = true := decide_eq_true (by have := hb2 _ (List.getElem_mem r2); omega)
  have cbt : List.take T[j].body.length (T[j].body.map u8A) = T[j].body.map u8A := take_map_len
  refine ⟨T.set j ⟨T[j].tag, T[j].body ++ [1], T[j].kids⟩, (T.map itemS).set j (.agg [.v (.int .i64 T[j].tag), .sl (.ow 1) (T[j].body.map u8A ++ [.v (.int .u8 1)]), .v (.int .i64 T[j].kids)]), ?_, by rw [dnL_eq, List.map_set, List.map_set, dn_itsM]; simp [itemS, A.dn, dnL, dnL_append, u8A, dn_u8A], by rw [List.length_set]; omega, ?_⟩
  rotate_left 1
  ·intro x hx
   have hj := List.getElem_mem r2
   rcases List.mem_or_eq_of_mem_set hx with hx | rfl
   ·exact ⟨hb1 x hx, by have := hb2 x hx; omega⟩
   ·exact ⟨.app' (hb1 _ hj) (.cons' (by omega) (fun _ h => by simp at h)), by have := hb2 _ hj; simp only [List.length_append, List.length_singleton]; omega⟩
  refine holds_ref (ann := []) tabOk hm (byL [43, 44] [1000024]) Tryz.func12 (by kernel_rfl) rfl ?_
  simp +decide (maxSteps := 9^7) only [↓reduceIte, Tryz.f12, go_sem]
  refine Runs.call cn ?_
  simp +decide (maxSteps := 9^7) only [↓reduceIte, go_sem]
  refine Runs.call c1 ?_
  simp +decide (maxSteps := 9^7) only [↓reduceIte, go_sem]
  refine Runs.call ck ?_
  simp +decide (maxSteps := 9^7) only [↓reduceIte, tkN, go_sem]
  refine Runs.call cl ?_
  simp +decide (maxSteps := 9^7) only [↓reduceIte, hT, tkT, go_sem]
  refine Runs.call c2 ?_
  simp +decide (maxSteps := 9^7) only [↓reduceIte, hT, tkT, go_sem]
  refine Runs.call c3 ?_
  simp +decide (maxSteps := 9^7) only [↓reduceIte, hT, tkT, gj, rj, Int.toNat_natCast, go_sem]
  refine Runs.call cb ?_
  simp +decide (maxSteps := 9^7) only [↓reduceIte, hT, tkT, gj, rj, Int.toNat_natCast, hsL, hsT, List.length_map, List.length_append, cbk, cbt, go_sem]
  exact Runs.ret_refl
 ·refine ⟨T.take j, List.take j (T.map itemS), ?_, by rw [← List.map_take, dn_itemS _], by rw [List.length_take]; omega, fun x hx => ?_⟩
  rotate_left 1
  ·have hx := List.mem_of_mem_take hx
   exact ⟨hb1 x hx, by have := hb2 x hx; omega⟩
  refine holds_ref (ann := []) tabOk hm (byL [43, 44] [1000024]) Tryz.func12 (by kernel_rfl) rfl ?_
  simp +decide (maxSteps := 9^7) only [↓reduceIte, Tryz.f12, go_sem]
  refine Runs.call cn ?_
  simp +decide (maxSteps := 9^7) only [↓reduceIte, go_sem]
  refine Runs.call c1 ?_
  simp +decide (maxSteps := 9^7) only [↓reduceIte, go_sem]
  refine Runs.call ck ?_
  simp +decide (maxSteps := 9^7) only [↓reduceIte, tkN, go_sem]
  refine Runs.call cl ?_
  simp +decide (maxSteps := 9^7) only [↓reduceIte, hT, tkT, go_sem]
  refine Runs.call c2 ?_
  simp +decide (maxSteps := 9^7) only [↓reduceIte, hT, tkT, go_sem]
  refine Runs.call c3 ?_
  simp +decide (maxSteps := 9^7) only [↓reduceIte, hT, tkT, Int.toNat_natCast, ck1, j0, ck2, ck3, go_sem]
  exact Runs.ret_refl
 ·obtain ⟨v, i4, h4, c4, q4, r4⟩ := l1Below hm b hb hl i3 h3 q3 5 (by omega) (by omega)
  rw [show ((5 : Nat) : Int) = 5 from rfl] at c4
  simp only [curB] at c4
  have wv : IntKind.u8.wrap (v : Int) = v := by rw [wrap_u8_mod]; omega
  have hj1 : 1 < T.length := by omega
  refine ⟨T.set 1 ⟨T[1].tag, [(v : Int)], T[1].kids⟩, (T.map itemS).set 1 (.agg [.v (.int .i64 T[1].tag), .sl (.ow 1) [.v (.int .u8 v)], .v (.int .i64 T[1].kids)]), ?_, by rw [dnL_eq, List.map_set, List.map_set, dn_itsM]; simp [itemS, A.dn, dnL, dn_u8A, u8A], by rw [List.length_set]; omega, ?_⟩
  rotate_left 1
  ·intro x hx
   rcases List.mem_or_eq_of_mem_set hx with hx | rfl
   ·exact ⟨hb1 x hx, by have := hb2 x hx; omega⟩
   ·exact ⟨.cons' (by omega) (fun _ h => by simp at h), by simp⟩
  refine holds_ref (ann := []) tabOk hm (byL [43, 44] [1000024]) Tryz.func12 (by kernel_rfl) rfl ?_
  simp +decide (maxSteps := 9^7) only [↓reduceIte, Tryz.f12, go_sem]
  refine Runs.call cn ?_
  simp +decide (maxSteps := 9^7) only [↓reduceIte, go_sem]
  refine Runs.call c1 ?_
  simp +decide (maxSteps := 9^7) only [↓reduceIte, go_sem]
  refine Runs.call ck ?_
  simp +decide (maxSteps := 9^7) only [↓reduceIte, tkN, go_sem]
  refine Runs.call cl ?_
  simp +decide (maxSteps := 9^7) only [↓reduceIte, hT, tkT, go_sem]
  refine Runs.call c2 ?_
  simp +decide (maxSteps := 9^7) only [↓reduceIte, hT, tkT, go_sem]
  refine Runs.call c3 ?_
  simp +decide (maxSteps := 9^7) only [↓reduceIte, hT, tkT, go_sem]
  refine Runs.call c4 ?_
  simp +decide (maxSteps := 9^7) only [↓reduceIte, hT, tkT, wv, g1, rj1, lt1, t1, hsL, hsT, go_sem]
  exact Runs.ret_refl
 ·have e0 : decide ((m : Int) = 0) = false := decide_eq_false (by omega)
  have e1 : decide ((m : Int) = 1) = false := decide_eq_false (by omega)
  have e2 : decide ((m : Int) = 2) = false := decide_eq_false (by omega)
  have e3 : decide ((m : Int) = 3) = false := decide_eq_false (by omega)
  refine ⟨T, T.map itemS, ?_, dn_itemS _, hl1.2, fun x hx => ⟨hb1 x hx, by have := hb2 x hx; omega⟩⟩
  refine holds_ref (ann := []) tabOk hm (byL [43, 44] [1000024]) Tryz.func12 (by kernel_rfl) rfl ?_
  simp +decide (maxSteps := 9^7) only [↓reduceIte, Tryz.f12, go_sem]
  refine Runs.call cn ?_
  simp +decide (maxSteps := 9^7) only [↓reduceIte, go_sem]
  refine Runs.call c1 ?_
  simp +decide (maxSteps := 9^7) only [↓reduceIte, go_sem]
  refine Runs.call ck ?_
  simp +decide (maxSteps := 9^7) only [↓reduceIte, tkN, go_sem]
  refine Runs.call cl ?_
  simp +decide (maxSteps := 9^7) only [↓reduceIte, hT, tkT, go_sem]
  refine Runs.call c2 ?_
  simp +decide (maxSteps := 9^7) only [↓reduceIte, hT, tkT, go_sem]
  refine Runs.call c3 ?_
  simp +decide (maxSteps := 9^7) only [↓reduceIte, hT, tkT, e0, e1, e2, e3, go_sem]
  exact Runs.ret_refl
set_option maxRecDepth 10000 in
include hm in
theorem drawReadKeyTree (b : List Int) (hb : BytesOk b) (hl : b.length ≤ 1048576) : ∃ L : List It, Holds Tryz.prog 12 [.sl .sh (b.map u8A)] [] (.sl .sh (L.map itemS)) [] ∧ L.length ≤ 9 ∧ ∀ x ∈ L, BytesOk x.body ∧ x.body.length ≤ 1048576 := by
 obtain ⟨L, es, c, he, h1, h2⟩ := drawReadKeyTree0 hm b hb hl
 have cd := Holds.dn1 (by simp [plainL, A.plain, Sh.own, plainL_map, u8A]) c
 simp only [A.dn, he] at cd
 exact ⟨L, cd, h1, h2⟩
end Go.Proofs.W

namespace Go.Proofs.W
open Go Go.AM Go.Proofs.G
variable (hm : Tryz.prog.follows .mixedOrders = true)
theorem rkI_some {L : List It} {k : GKey} (h : rkI L = some k) : keyB k = true ∧ keyT k = L ∧ k.N.length ≤ 64 := by
 rw [rkI] at h
 split at h
 ·unfold standK at h
  split at h
  ·rename_i h1
   simp only [Option.some.injEq] at h
   simp only [Bool.and_eq_true] at h1
   rw [← h]
   exact ⟨h1.1, sameIs_iff.mp h1.2, readI_len _⟩
  ·simp at h
 ·simp at h
theorem rkI_back {k : GKey} (h : keyB k = true) : rkI (keyT k) = some k := by
 rw [rkI, if_pos (keyT_ok h), keyT_der, readI_back h, standK, if_pos (by rw [h, sameIs_iff.mpr rfl]; rfl)]
theorem keySame_me (k : GKey) : keySame k k = true := by
 simp [keySame, eqCv, eqPt, eqEd, eqPr]
set_option maxRecDepth 10000 in
set_option maxHeartbeats 4000000 in
include hm in
theorem lawKeysBack (b : List Int) (hlen : b.length ≤ 9223372036854775807) (hb : BytesOk b) : Holds Tryz.prog 3 [.sl .sh (b.map u8A)] [] (.v (.bool true)) [] := by
 have c0 := bigL hm b hlen
 refine holds_of (ann := []) tabOk hm Tryz.func3 (by kernel_rfl) rfl ?_
 by_cases hl : 1048576 < b.length
 ·rw [decide_eq_true hl] at c0
  simp +decide (maxSteps := 9^7) only [↓reduceIte, Tryz.f3, go_sem]
  refine Runs.call c0 ?_
  simp +decide (maxSteps := 9^7) only [↓reduceIte, go_sem]
  exact Runs.ret_v
 rw [decide_eq_false hl] at c0
 have hl : b.length ≤ 1048576 := by omega
 obtain ⟨k, c1, hN⟩ := drawKeyTree hm b hb hl
 obtain ⟨L, c2, hL1, hL2⟩ := drawReadKeyTree hm b hb hl
 have cr2 := implReadKeyTree hm L (by omega) hL2
 have ct := iKeyTree hm k (by omega)
 have cs := sKeyOk hm k (by omega)
 have ci := iKeyOk hm k (by omega)
 have tkN : List.take k.N.length (k.N.map intA) = k.N.map intA := take_map_len
 have hN' : (k.N.map intA).length = k.N.length := List.length_map _
 obtain ⟨k1, ok1, e1, n1, f1⟩ : ∃ k1 ok1, ansK (rkI (treeK k)) = .tup [keyO k1, .v (.bool ok1)] ∧ k1.N.length ≤ 64 ∧ (keyB k = true → ok1 = true ∧ k1 = k) := by
  cases h : keyB k with
  | true =>
   rw [treeK, if_pos h, rkI_back h]
   exact ⟨k, true, rfl, hN, fun _ => ⟨rfl, rfl⟩⟩
  | false =>
   cases h1 : rkI (treeK k) with
   | none => exact ⟨k00, false, rfl, by simp [k00], fun h => nomatch h⟩
   | some k1 => exact ⟨k1, true, rfl, (rkI_some h1).2.2, fun h => nomatch h⟩
 have hTb : ∀ x ∈ treeK k, BytesOk x.body ∧ x.body.length ≤ 1048576 := by
  intro x hx
  refine ⟨treeK_bytes k x hx, ?_⟩
  unfold treeK at hx
  split at hx
  ·have := keyT_short (by assumption) x hx; omega
  ·simp at hx
 have hTl := treeK_len k
 have cr1 := implReadKeyTree hm (treeK k) (by omega) hTb
 rw [e1] at cr1
 have cto := implTreeOk hm (treeK k) (by omega)
 have cm := iSameKey hm k k (by omega) (by omega)
 have fT : keyB k = true → treeOk (treeK k) = true := fun h => by rw [treeK, if_pos h]; exact keyT_ok h
 rw [keySame_me] at cm
 obtain ⟨k2, ok2, e2, n2, f2⟩ : ∃ k2 ok2, ansK (rkI L) = .tup [keyO k2, .v (.bool ok2)] ∧ k2.N.length ≤ 64 ∧ ((ok2 = false ∧ k2.kind = 0) ∨ (ok2 = true ∧ keyB k2 = true ∧ treeK k2 = L)) := by
  cases h1 : rkI L with
  | none => exact ⟨k00, false, rfl, by simp [k00], .inl ⟨rfl, rfl⟩⟩
  | some k1 =>
   obtain ⟨q1, q2, q3⟩ := rkI_some h1
   exact ⟨k1, true, rfl, q3, .inr ⟨rfl, q1, by rw [treeK, if_pos q1, q2]⟩⟩
 rw [e2] at cr2
 have ct2 := iKeyTree hm k2 (by omega)
 have cst := sameTree hm L L (by omega) (by omega) (fun x hx => (hL2 x hx).1) (fun x hx => (hL2 x hx).1)
 rw [sameIs_iff.mpr rfl] at cst
 rw [treeKA, keyA] at ct ct2
 rw [keyA] at cs ci cm
 rw [keyO] at c1 cr1 cr2
 clear e1 e2
 generalize treeK k = T at *
 have tkT : List.take T.length (T.map itemO) = T.map itemO := take_map_len
 have hT : (T.map itemO).length = T.length := List.length_map _
 have tk1 : List.take k1.N.length (k1.N.map intA) = k1.N.map intA := take_map_len
 have hk1 : (k1.N.map intA).length = k1.N.length := List.length_map _
 have tk2 : List.take k2.N.length (k2.N.map intA) = k2.N.map intA := take_map_len
 have hk2 : (k2.N.map intA).length = k2.N.length := List.length_map _
 have tkL : List.take L.length (L.map itemO) = L.map itemO := take_map_len
 have hL : (L.map itemO).length = L.length := List.length_map _
 simp +decide (maxSteps := 9^7) only [↓reduceIte, Tryz.f3, go_sem]
 refine Runs.call c0 ?_
 simp +decide (maxSteps := 9^7) only [↓reduceIte, tkN, hN', tkT, hT, tk1, hk1, tk2, hk2, tkL, hL, dn_itemO, go_sem]
 refine Runs.call c1 ?_
 simp +decide (maxSteps := 9^7) only [↓reduceIte, tkN, hN', tkT, hT, tk1, hk1, tk2, hk2, tkL, hL, dn_itemO, go_sem]
 refine Runs.call ct ?_
 simp +decide (maxSteps := 9^7) only [↓reduceIte, tkN, hN', tkT, hT, tk1, hk1, tk2, hk2, tkL, hL, dn_itemO, go_sem]
 refine Runs.call cr1 ?_
 simp +decide (maxSteps := 9^7) only [↓reduceIte, tkN, hN', tkT, hT, tk1, hk1, tk2, hk2, tkL, hL, dn_itemO, go_sem]
 cases hB : keyB k with
 | true =>
  obtain ⟨rfl, rfl⟩ := f1 hB
  rw [hB] at cs ci cm
  rw [fT hB] at cto
  refine Runs.call cs ?_
  simp +decide (maxSteps := 9^7) only [↓reduceIte, tkN, hN', tkT, hT, tk1, hk1, tk2, hk2, tkL, hL, dn_itemO, go_sem]
  refine Runs.call ci ?_
  simp +decide (maxSteps := 9^7) only [↓reduceIte, tkN, hN', tkT, hT, tk1, hk1, tk2, hk2, tkL, hL, dn_itemO, go_sem]
  refine Runs.call cm ?_
  simp +decide (maxSteps := 9^7) only [↓reduceIte, tkN, hN', tkT, hT, tk1, hk1, tk2, hk2, tkL, hL, dn_itemO, go_sem]
  refine Runs.call cto ?_
  simp +decide (maxSteps := 9^7) only [↓reduceIte, tkN, hN', tkT, hT, tk1, hk1, tk2, hk2, tkL, hL, dn_itemO, go_sem]
  refine Runs.call c2 ?_
  simp +decide (maxSteps := 9^7) only [↓reduceIte, tkN, hN', tkT, hT, tk1, hk1, tk2, hk2, tkL, hL, dn_itemO, go_sem]
  refine Runs.call cr2 ?_
  simp +decide (maxSteps := 9^7) only [↓reduceIte, tkN, hN', tkT, hT, tk1, hk1, tk2, hk2, tkL, hL, dn_itemO, go_sem]
  rcases f2 with ⟨rfl, f2⟩ | ⟨rfl, q1, q2⟩
  ·simp +decide (maxSteps := 9^7) only [↓reduceIte, tkN, hN', tkT, hT, tk1, hk1, tk2, hk2, tkL, hL, dn_itemO, go_sem]
   rw [decide_eq_true f2]
   exact Runs.ret_v
  ·rw [q1, q2] at ct2
   simp +decide (maxSteps := 9^7) only [↓reduceIte, tkN, hN', tkT, hT, tk1, hk1, tk2, hk2, tkL, hL, dn_itemO, go_sem]
   refine Runs.call ct2 ?_
   simp +decide (maxSteps := 9^7) only [↓reduceIte, tkN, hN', tkT, hT, tk1, hk1, tk2, hk2, tkL, hL, dn_itemO, go_sem]
   refine Runs.call cst ?_
   simp +decide (maxSteps := 9^7) only [↓reduceIte, tkN, hN', tkT, hT, tk1, hk1, tk2, hk2, tkL, hL, dn_itemO, go_sem]
   exact Runs.ret_v
 | false =>
  rw [hB] at cs ci
  refine Runs.call cs ?_
  simp +decide (maxSteps := 9^7) only [↓reduceIte, tkN, hN', tkT, hT, tk1, hk1, tk2, hk2, tkL, hL, dn_itemO, go_sem]
  refine Runs.call ci ?_
  simp +decide (maxSteps := 9^7) only [↓reduceIte, tkN, hN', tkT, hT, tk1, hk1, tk2, hk2, tkL, hL, dn_itemO, go_sem]
  refine Runs.call c2 ?_
  simp +decide (maxSteps := 9^7) only [↓reduceIte, tkN, hN', tkT, hT, tk1, hk1, tk2, hk2, tkL, hL, dn_itemO, go_sem]
  refine Runs.call cr2 ?_
  simp +decide (maxSteps := 9^7) only [↓reduceIte, tkN, hN', tkT, hT, tk1, hk1, tk2, hk2, tkL, hL, dn_itemO, go_sem]
  rcases f2 with ⟨rfl, f2⟩ | ⟨rfl, q1, q2⟩
  ·simp +decide (maxSteps := 9^7) only [↓reduceIte, tkN, hN', tkT, hT, tk1, hk1, tk2, hk2, tkL, hL, dn_itemO, go_sem]
   rw [decide_eq_true f2]
   exact Runs.ret_v
  ·rw [q1, q2] at ct2
   simp +decide (maxSteps := 9^7) only [↓reduceIte, tkN, hN', tkT, hT, tk1, hk1, tk2, hk2, tkL, hL, dn_itemO, go_sem]
   refine Runs.call ct2 ?_
   simp +decide (maxSteps := 9^7) only [↓reduceIte, tkN, hN', tkT, hT, tk1, hk1, tk2, hk2, tkL, hL, dn_itemO, go_sem]
   refine Runs.call cst ?_
   simp +decide (maxSteps := 9^7) only [↓reduceIte, tkN, hN', tkT, hT, tk1, hk1, tk2, hk2, tkL, hL, dn_itemO, go_sem]
   exact Runs.ret_v
end Go.Proofs.W
