import Derived.Test.YtnckgoabpeagaadGreatDoorWalk2
set_option linter.unusedVariables false
set_option linter.unusedSimpArgs false
namespace Go.Proofs.W
open Go Go.AM Go.Proofs.G
variable (hm : Tryz.prog.follows .mixedOrders = true)
attribute [local go_sem] rowS_plain rowS_dn rowO_dn rowO_md
def mkTx (k : Int) (n : Nat) : List ByteArray := (List.range n).map fun i : Nat => markT (k + i)
def mkIn (k : Int) (n : Nat) : List Int := (List.range n).map fun i : Nat => k + i
def mkBy (k : Int) (n : Nat) : List Int := (List.range n).map fun i : Nat => IntKind.u8.wrap (k + i)
theorem mkTx_len (k : Int) (n : Nat) : (mkTx k n).length = n := by simp [mkTx]
theorem mkIn_len (k : Int) (n : Nat) : (mkIn k n).length = n := by simp [mkIn]
theorem mkBy_len (k : Int) (n : Nat) : (mkBy k n).length = n := by simp [mkBy]
theorem mkTx_map (k : Int) (n : Nat) : (mkTx k n).map strA = (List.range n).map (mkStr k) := by rw [mkTx, List.map_map]; rfl
theorem mkIn_map (k : Int) (n : Nat) : (mkIn k n).map intA = (List.range n).map (mkInt k) := by rw [mkIn, List.map_map]; rfl
theorem mkBy_map (k : Int) (n : Nat) : (mkBy k n).map u8A = (List.range n).map (mkByte k) := by rw [mkBy, List.map_map]; rfl
def mc1 (k : Int) (c : GCert) : Int := k + 1 + (c.issuer.length : Int)
def mc2 (k : Int) (c : GCert) : Int := mc1 k c + (c.subject.length : Int)
def mc3 (k : Int) (c : GCert) : Int := mc2 k c + 1 + 1 + 1 + (c.key.N.length : Int)
def mc4 (k : Int) (c : GCert) : Int := mc3 k c + 1 + 1 + 1 + 1 + 1 + 1 + 1 + 1 + 1 + 1 + 1 + 1 + 1 + 1 + 1 + 1 + 1 + 1 + 1 + 1 + 1 + (c.ho.length : Int)
def mc5 (k : Int) (c : GCert) : Int := mc4 k c + (cntR c.ne : Int)
def mc6 (k : Int) (c : GCert) : Int := mc5 k c + (c.al.length : Int)
def mc7 (k : Int) (c : GCert) : Int := mc6 k c + (c.de.length : Int)
def mc8 (k : Int) (c : GCert) : Int := mc7 k c + (c.pu.length : Int)
def mc9 (k : Int) (c : GCert) : Int := mc8 k c + (c.sig.length : Int)
def mkC (k : Int) (c : GCert) : GCert := ⟨k, mkTx (k + 1) c.issuer.length, mkTx (mc1 k c) c.subject.length, mc2 k c, mc2 k c + 1, ⟨mc2 k c + 1 + 1, mkIn (mc2 k c + 1 + 1 + 1) c.key.N.length, mc3 k c, ⟨mc3 k c + 1, mc3 k c + 1 + 1, mc3 k c + 1 + 1 + 1, mc3 k c + 1 + 1 + 1 + 1, mc3 k c + 1 + 1 + 1 + 1 + 1, mc3 k c + 1 + 1 + 1 + 1 + 1 + 1⟩, ⟨mc3 k c + 1 + 1 + 1 + 1 + 1 + 1 + 1, mc3 k c + 1 + 1 + 1 + 1 + 1 + 1 + 1 + 1, decide ((mc3 k c + 1 + 1 + 1 + 1 + 1 + 1 + 1 + 1 + 1).tmod 3 = 0)⟩, ⟨mc3 k c + 1 + 1 + 1 + 1 + 1 + 1 + 1 + 1 + 1 + 1, mc3 k c + 1 + 1 + 1 + 1 + 1 + 1 + 1 + 1 + 1 + 1 + 1, mc3 k c + 1 + 1 + 1 + 1 + 1 + 1 + 1 + 1 + 1 + 1 + 1 + 1, mc3 k c + 1 + 1 + 1 + 1 + 1 + 1 + 1 + 1 + 1 + 1 + 1 + 1 + 1, mc3 k c + 1 + 1 + 1 + 1 + 1 + 1 + 1 + 1 + 1 + 1 + 1 + 1 + 1 + 1⟩, (mc3 k c + 1 + 1 + 1 + 1 + 1 + 1 + 1 + 1 + 1 + 1 + 1 + 1 + 1 + 1 + 1, mc3 k c + 1 + 1 + 1 + 1 + 1 + 1 + 1 + 1 + 1 + 1 + 1 + 1 + 1 + 1 + 1 + 1)⟩, mc3 k c + 1 + 1 + 1 + 1 + 1 + 1 + 1 + 1 + 1 + 1 + 1 + 1 + 1 + 1 + 1 + 1 + 1, decide ((mc3 k c + 1 + 1 + 1 + 1 + 1 + 1 + 1 + 1 + 1 + 1 + 1 + 1 + 1 + 1 + 1 + 1 + 1 + 1).tmod 3 = 0), mc3 k c + 1 + 1 + 1 + 1 + 1 + 1 + 1 + 1 + 1 + 1 + 1 + 1 + 1 + 1 + 1 + 1 + 1 + 1 + 1, mc3 k c + 1 + 1 + 1 + 1 + 1 + 1 + 1 + 1 + 1 + 1 + 1 + 1 + 1 + 1 + 1 + 1 + 1 + 1 + 1 + 1, mkTx (mc3 k c + 1 + 1 + 1 + 1 + 1 + 1 + 1 + 1 + 1 + 1 + 1 + 1 + 1 + 1 + 1 + 1 + 1 + 1 + 1 + 1 + 1) c.ho.length, mkRows (mc4 k c) c.ne, mkTx (mc5 k c) c.al.length, mkTx (mc6 k c) c.de.length, mkIn (mc7 k c) c.pu.length, mkBy (mc8 k c) c.sig.length⟩
def cntC (c : GCert) : Nat := 25 + c.issuer.length + c.subject.length + c.key.N.length + c.ho.length + cntR c.ne + c.al.length + c.de.length + c.pu.length + c.sig.length
theorem mc9_cnt (k : Int) (c : GCert) : mc9 k c = k + cntC c := by
 simp only [mc1, mc2, mc3, mc4, mc5, mc6, mc7, mc8, mc9, cntC]
 push_cast
 omega
def mkCs : Int → List GCert → List GCert
 | _, [] => []
 | k, c :: r => mkC k c :: mkCs (k + cntC c) r
def cntCs : List GCert → Nat
 | [] => 0
 | c :: r => cntC c + cntCs r
theorem cntCs_append : ∀ l m : List GCert, cntCs (l ++ m) = cntCs l + cntCs m
 | [], m => by simp [cntCs]
 | x :: l, m => by simp only [List.cons_append, cntCs, cntCs_append l m]; omega
theorem mkCs_append : ∀ (l m : List GCert) (k : Int), mkCs k (l ++ m) = mkCs k l ++ mkCs (k + cntCs l) m
 | [], m, k => by simp [mkCs, cntCs]
 | x :: l, m, k => by
  simp only [List.cons_append, mkCs, cntCs, mkCs_append l m]
  congr 3
  omega
theorem mkCs_length : ∀ (l : List GCert) (k : Int), (mkCs k l).length = l.length
 | [], k => rfl
 | x :: l, k => by simp [mkCs, mkCs_length l]
def curC (k : Int) (L : List GCert) (i : Nat) : List GCert := mkCs k (L.take i) ++ L.drop i
theorem curC_length (k : Int) (L : List GCert) (i : Nat) (h : i ≤ L.length) : (curC k L i).length = L.length := by simp [curC, mkCs_length]; omega
theorem curC_zero (k : Int) (L : List GCert) : curC k L 0 = L := by simp [curC, mkCs]
theorem curC_all (k : Int) (L : List GCert) : curC k L L.length = mkCs k L := by simp [curC]
theorem curC_get (k : Int) (L : List GCert) (i : Nat) (h : i < L.length) : (curC k L i)[i]? = some L[i] := by
 unfold curC
 rw [List.getElem?_append_right (by simp [mkCs_length]; omega)]
 simp [mkCs_length, h, Nat.min_eq_left (Nat.le_of_lt h)]
theorem cntCs_succ (L : List GCert) (i : Nat) (h : i < L.length) : cntCs (L.take (i + 1)) = cntCs (L.take i) + cntC L[i] := by
 rw [List.take_succ_eq_append_getElem h, cntCs_append]
 simp [cntCs]
theorem cntCs_take_le (L : List GCert) (i : Nat) : cntCs (L.take i) ≤ cntCs L := by
 have := cntCs_append (L.take i) (L.drop i)
 rw [List.take_append_drop] at this
 omega
theorem curC_set (k : Int) (L : List GCert) (i : Nat) (h : i < L.length) : (curC k L i).set i (mkC (k + cntCs (L.take i)) L[i]) = curC k L (i + 1) := by
 unfold curC
 have hl : (mkCs k (L.take i)).length = i := by simp [mkCs_length]; omega
 rw [List.set_append_right _ _ (by omega), hl, Nat.sub_self, List.drop_eq_getElem_cons h, List.set_cons_zero, List.take_succ_eq_append_getElem h, mkCs_append, List.append_assoc]
 rfl
def xC (m : Nat) (c : GCert) : A := .agg [.v (.int .i64 c.serial), .ms (.x (m + 1)) 0 c.issuer.length c.issuer.length, .ms (.x (m + 1 + 1)) 0 c.subject.length c.subject.length, .v (.int .i64 c.from'), .v (.int .i64 c.tu), .v (.int .i64 c.key.kind), .ms (.x (m + 2 + 1)) 0 c.key.N.length c.key.N.length, .v (.int .i64 c.key.e), .v (.int .i64 c.key.cv.p), .v (.int .i64 c.key.cv.a), .v (.int .i64 c.key.cv.b), .v (.int .i64 c.key.cv.n), .v (.int .i64 c.key.cv.gx), .v (.int .i64 c.key.cv.gy), .v (.int .i64 c.key.q.x), .v (.int .i64 c.key.q.y), .v (.bool c.key.q.far), .v (.int .i64 c.key.ed.p), .v (.int .i64 c.key.ed.d), .v (.int .i64 c.key.ed.l), .v (.int .i64 c.key.ed.bx), .v (.int .i64 c.key.ed.by'), .v (.int .i64 c.key.a.1), .v (.int .i64 c.key.a.2), .v (.int .i64 c.alg), .v (.bool c.ca), .v (.int .i64 c.path), .v (.int .i64 c.usage), .ms (.x (m + 3 + 1)) 0 c.ho.length c.ho.length, .ms (.x (m + 4 + 1)) 0 c.ne.length c.ne.length, .ms (.x (m + 5 + 1)) 0 c.al.length c.al.length, .ms (.x (m + 6 + 1)) 0 c.de.length c.de.length, .ms (.x (m + 7 + 1)) 0 c.pu.length c.pu.length, .ms (.x (m + 8 + 1)) 0 c.sig.length c.sig.length]
def xCs : Nat → List GCert → List A
 | _, [] => []
 | m, c :: r => xC m c :: xCs (m + 9) r
theorem xpA_cert (c : GCert) (m : Nat) : xpA (m + 1) (certO c) = (xC m c, certBs c) := by
 simp [xpA, certO, xpCs, xpC, xC, certBs, strK, intK, bytK, rowK, Nat.add_assoc]
theorem xpL_certs : ∀ (L : List GCert) (m : Nat), xpL (m + 1) (L.map certO) = (xCs m L, L.flatMap certBs)
 | [], m => rfl
 | c :: r, m => by
  have h9 : (certBs c).length = 9 := rfl
  simp only [List.map_cons, xpL, xpA_cert, h9, show m + 1 + 9 = (m + 9) + 1 by omega, xpL_certs r, xCs, List.flatMap_cons]
theorem xpOk_certs (L : List GCert) : xpOk (L.map certO) = true := by
 unfold xpOk flat
 rw [List.all_flatMap, List.all_map]
 simp [certO, A.cells, xpOkC]
theorem xCs_length : ∀ (L : List GCert) (m : Nat), (xCs m L).length = L.length
 | [], m => rfl
 | x :: r, m => by simp [xCs, xCs_length r]
theorem xCs_get : ∀ (L : List GCert) (m i : Nat) (x : GCert), L[i]? = some x → (xCs m L).getD i .any = xC (m + 9 * i) x
 | [], m, i, x, h => by simp at h
 | y :: r, m, 0, x, h => by simp at h; subst h; rfl
 | y :: r, m, i + 1, x, h => by
  simp only [List.getElem?_cons_succ] at h
  have := xCs_get r (m + 9) i x h
  rw [show m + 9 * (i + 1) = m + 9 + 9 * i by omega, ← this]
  rfl
theorem xCs_set : ∀ (L : List GCert) (m i : Nat) (y : GCert), (xCs m L).set i (xC (m + 9 * i) y) = xCs m (L.set i y)
 | [], m, i, y => by simp [xCs]
 | x :: r, m, 0, y => rfl
 | x :: r, m, i + 1, y => by
  have := xCs_set r (m + 9) i y
  rw [show m + 9 * (i + 1) = m + 9 + 9 * i by omega]
  simp only [xCs, List.set_cons_succ, this]
theorem xCs_ok : ∀ (L : List GCert) (m : Nat), okIL isXp (xCs m L) = true
 | [], m => rfl
 | x :: r, m => by simp [xCs, okIL, xC, A.okI, isXp, xCs_ok r]
theorem subC_all (L : List GCert) : (L.flatMap certBs).all isXB = true := by
 rw [List.all_flatMap]
 simp [certBs, strK, intK, bytK, rowK, isXB]
theorem nine_get : ∀ (L : List GCert) (i q : Nat) (c : GCert), L[i]? = some c → q < 9 → (L.flatMap certBs)[9 * i + q]? = (certBs c)[q]?
 | [], i, q, c, h, _ => by simp at h
 | x :: r, 0, q, c, h, hq => by
  simp at h
  subst h
  rw [List.flatMap_cons, Nat.mul_zero, Nat.zero_add, List.getElem?_append_left (by show q < 9; exact hq)]
 | x :: r, i + 1, q, c, h, hq => by
  simp only [List.getElem?_cons_succ] at h
  have := nine_get r i q c h hq
  rw [List.flatMap_cons, List.getElem?_append_right (by show 9 ≤ _; omega), show 9 * (i + 1) + q - (certBs x).length = 9 * i + q by show 9 * (i + 1) + q - 9 = _; omega, this]
theorem set_app {α : Type} {A r : List α} {n : Nat} {b : α} (h : A.length = 9) : (A ++ r).set (9 + n) b = A ++ r.set n b := by
 rw [List.set_append_right _ _ (by omega), h, Nat.add_sub_cancel_left]
theorem nine_set : ∀ (L : List GCert) (i : Nat) (y : GCert) (b0 b1 b2 b3 b4 b5 b6 b7 b8 : Blk), i < L.length → certBs y = [b0, b1, b2, b3, b4, b5, b6, b7, b8] →
  (((((((((L.flatMap certBs).set (9 * i) b0).set (9 * i + 1) b1).set (9 * i + 2) b2).set (9 * i + 3) b3).set (9 * i + 4) b4).set (9 * i + 5) b5).set (9 * i + 6) b6).set (9 * i + 7) b7).set (9 * i + 8) b8 = (L.set i y).flatMap certBs
 | [], i, y, b0, b1, b2, b3, b4, b5, b6, b7, b8, h, _ => by simp at h
 | x :: r, 0, y, b0, b1, b2, b3, b4, b5, b6, b7, b8, h, hy => by
  rw [List.set_cons_zero, List.flatMap_cons, List.flatMap_cons, hy]
  rfl
 | x :: r, i + 1, y, b0, b1, b2, b3, b4, b5, b6, b7, b8, h, hy => by
  have := nine_set r i y b0 b1 b2 b3 b4 b5 b6 b7 b8 (by simpa using h) hy
  have h9 : (certBs x).length = 9 := rfl
  rw [List.set_cons_succ, List.flatMap_cons, List.flatMap_cons, ← this]
  have e : ∀ q, 9 * (i + 1) + q = 9 + (9 * i + q) := fun q => by omega
  rw [show 9 * (i + 1) = 9 + 9 * i by omega]
  simp only [Nat.add_assoc 9 (9 * i), set_app h9]
theorem up1 {x y t : Int} {n : Nat} (h : y = x + 1) (hs : 0 ≤ x ∧ x + ((n + 1 : Nat) : Int) + t ≤ 4611686018427387904) : 0 ≤ y ∧ y + (n : Int) + t ≤ 4611686018427387904 := by omega
theorem upw {x y t : Int} {n : Nat} (h : y = x + 1) (ht : 0 ≤ t) (hs : 0 ≤ x ∧ x + ((n + 1 : Nat) : Int) + t ≤ 4611686018427387904) : IntKind.i64.wrap (x + 1) = y := by rw [h]; exact wrap_i64 (by omega) (by omega)
theorem up0 {x t : Int} (hs : 0 ≤ x ∧ x + ((0 : Nat) : Int) + t ≤ 4611686018427387904) : x + t ≤ 4611686018427387904 := by omega
def mcsAnn : Ann := [(0, [0, 1, 5])]
def mcsSt (L : List GCert) (k : Int) (i : Nat) : St := ⟨[.ms (.x 0) 0 L.length L.length, .v (.int .i64 (k + cntCs (L.take i))), .any, .any, .any, .v (.int .i64 i), .any, .any, .any, .any, .any, .any, .any, .any, .any, .any, .any, .any, .any, .any, .any, .any, .any, .any, .any, .any, .any, .any, .any, .any, .any, .any, .any, .any, .any, .any, .any, .any, .any, .any, .any, .any, .any, .any, .any, .any, .any, .any, .any, .any, .any, .any, .any, .any, .any, .any, .any, .any, .any, .any, .any, .any, .any, .any, .any, .any, .any, .any, .any, .any, .any, .any, .any, .any, .any, .any, .any, .any, .any, .any, .any, .any, .any, .any, .any, .any, .any, .any, .any, .any, .any, .any, .any, .any, .any, .any, .any, .any, .any, .any, .any, .any, .any, .any, .any, .any, .any, .any, .any, .any, .any, .any, .any, .any, .any, .any, .any, .any, .any, .any, .any, .any, .any, .any, .any, .any, .any, .any, .any, .any, .any, .any, .any, .any, .any, .any, .any, .any, .any, .any, .any, .any, .any, .any, .any, .any, .any, .any, .any, .any, .any, .any, .any, .any, .any, .any, .any, .any, .any, .any, .any, .any, .any, .any, .any, .any, .any, .any, .any, .any, .any, .any, .any, .any, .any, .any, .any, .any, .any, .any, .any, .any, .any, .any, .any, .any, .any, .any, .any, .any, .any, .any, .any, .any, .any, .any, .any, .any, .any, .any, .any, .any, .any, .any, .any, .any, .any, .any, .any, .any, .any, .any, .any, .any, .any, .any, .any, .any, .any, .any, .any, .any, .any, .any, .any, .any, .any, .any, .any, .any, .any, .any, .any, .any, .any, .any, .any, .any, .any, .any, .any, .any, .any, .any, .any, .any, .any, .any, .any, .any, .any, .any, .any, .any, .any, .any, .any, .any, .any, .any, .any, .any, .any, .any, .any, .any, .any, .any, .any, .any, .any, .any, .any, .any, .any, .any, .any, .any, .any, .any, .any, .any, .any, .any, .any, .any, .any, .any, .any, .any, .any, .any, .any, .any, .any, .any, .any, .any], [], ⟨true, 34, true, xCs 0 (curC k L i)⟩ :: (curC k L i).flatMap certBs⟩
set_option maxHeartbeats 16000000 in
set_option maxRecDepth 10000 in
include hm in
theorem markCertX (L : List GCert) (k : Int) (h0 : L.length ≤ 1048576) (hn : ∀ c ∈ L, c.ne.length ≤ 1048576) (h1 : 0 ≤ k) (h2 : k + cntCs L ≤ 4611686018427387904) :
  Holds Tryz.prog 15 [.ms (.x 0) 0 L.length L.length, .v (.int .i64 k)] (⟨true, 34, true, xCs 0 L⟩ :: L.flatMap certBs) (.v (.int .i64 (k + cntCs L))) (⟨true, 34, true, xCs 0 (mkCs k L)⟩ :: (mkCs k L).flatMap certBs) := by
 refine holds_ref (ann := mcsAnn) tabOk hm (byL [37, 16, 41, 40] []) Tryz.func15 (by kernel_rfl) rfl ?_
 simp +decide (maxSteps := 9^7) only [Tryz.f15, go_sem]
 refine Runs.while (α := Nat) (mcsSt L k) (fun i => L.length - i) (fun i => i ≤ L.length) 0 (by omega) ?_ ?_
 ·refine (only_x rfl ?_).trans ?_
  ·rw [List.all_cons, subC_all]; simp [isXB, xCs_ok]
  ·simp [go_sem, mcsAnn, mcsSt, curC_zero, cntCs]
 ·intro i hi ih
  have hlen : (xCs 0 (curC k L i)).length = L.length := by rw [xCs_length, curC_length k L i hi]
  simp +decide (maxSteps := 9^7) only [mcsSt, hlen, go_sem]
  refine Runs.split (fun h => ?_) (fun h => ?_)
  ·have hlt : i < L.length := by simpa using h
   have hc := cntCs_take_le L (i + 1)
   have hcs := cntCs_succ L i hlt
   have hget := curC_get k L i hlt
   have hx := xCs_get _ 0 i _ hget
   have hx2 := xCs_set (curC k L i) 0 i (mkC (k + cntCs (L.take i)) L[i])
   have hb2 := nine_set (curC k L i) i (mkC (k + cntCs (L.take i)) L[i]) _ _ _ _ _ _ _ _ _ (by rw [curC_length k L i hi]; exact hlt) rfl
   rw [curC_set k L i hlt] at hx2 hb2
   have hbq := fun q (hq : q < 9) => nine_get (curC k L i) i q L[i] hget hq
   have hne := hn L[i] (List.getElem_mem hlt)
   have hlen2 : (xCs 0 (curC k L (i + 1))).length = L.length := by rw [xCs_length, curC_length k L (i + 1) hlt]
   have hk9 := mc9_cnt (k + cntCs (L.take i)) L[i]
   have hkk : 0 ≤ k + cntCs (L.take i) := by omega
   have hke : k + cntCs (L.take (i + 1)) ≤ 4611686018427387904 := by omega
   have hks : k + (cntCs (L.take (i + 1)) : Int) = mc9 (k + cntCs (L.take i)) L[i] := by rw [hk9, hcs]; push_cast; omega
   generalize xCs 0 (curC k L i) = xs at *
   generalize (curC k L i).flatMap certBs = bl at *
   generalize hkv : k + ↑(cntCs (L.take i)) = kk at *
   generalize hcv : L[i] = c at *
   have hgs : ∀ a, (xs.set i a).getD i .any = a := fun a => by rw [List.getD, List.getElem?_set_self (by omega)]; rfl
   have hls : ∀ a, (xs.set i a).length = L.length := fun a => by rw [List.length_set, hlen]
   simp only [Nat.zero_add] at hx hx2
   rw [xC] at hx hx2
   simp only [mkC, mkTx_len, mkIn_len, mkBy_len, mkRows_length] at hx2
   simp only [mkC, strK, intK, bytK, rowK, mkTx_map, mkIn_map, mkBy_map] at hb2
   have hke : mc9 kk c ≤ 4611686018427387904 := by rw [← hks]; exact hke
   have q1 : mc1 kk c = kk + 1 + (c.issuer.length : Int) := rfl
   have q2 : mc2 kk c = mc1 kk c + (c.subject.length : Int) := rfl
   have q3 : mc3 kk c = mc2 kk c + 1 + 1 + 1 + (c.key.N.length : Int) := rfl
   have q4 : mc4 kk c = mc3 kk c + 1 + 1 + 1 + 1 + 1 + 1 + 1 + 1 + 1 + 1 + 1 + 1 + 1 + 1 + 1 + 1 + 1 + 1 + 1 + 1 + 1 + (c.ho.length : Int) := rfl
   have q5 : mc5 kk c = mc4 kk c + (cntR c.ne : Int) := rfl
   have q6 : mc6 kk c = mc5 kk c + (c.al.length : Int) := rfl
   have q7 : mc7 kk c = mc6 kk c + (c.de.length : Int) := rfl
   have q8 : mc8 kk c = mc7 kk c + (c.pu.length : Int) := rfl
   have q9 : mc9 kk c = mc8 kk c + (c.sig.length : Int) := rfl
   have u0 : 0 ≤ kk ∧ kk + ((1 : Nat) : Int) + (c.issuer.length : Int) ≤ 4611686018427387904 := by omega
   have u1 : 0 ≤ mc1 kk c ∧ mc1 kk c + ((0 : Nat) : Int) + (c.subject.length : Int) ≤ 4611686018427387904 := by omega
   have u2 : 0 ≤ mc2 kk c ∧ mc2 kk c + ((3 : Nat) : Int) + (c.key.N.length : Int) ≤ 4611686018427387904 := by omega
   have u3 : 0 ≤ mc3 kk c ∧ mc3 kk c + ((21 : Nat) : Int) + (c.ho.length : Int) ≤ 4611686018427387904 := by omega
   have u4 : 0 ≤ mc4 kk c ∧ mc4 kk c + ((0 : Nat) : Int) + (cntR c.ne : Int) ≤ 4611686018427387904 := by omega
   have u5 : 0 ≤ mc5 kk c ∧ mc5 kk c + ((0 : Nat) : Int) + (c.al.length : Int) ≤ 4611686018427387904 := by omega
   have u6 : 0 ≤ mc6 kk c ∧ mc6 kk c + ((0 : Nat) : Int) + (c.de.length : Int) ≤ 4611686018427387904 := by omega
   have u7 : 0 ≤ mc7 kk c ∧ mc7 kk c + ((0 : Nat) : Int) + (c.pu.length : Int) ≤ 4611686018427387904 := by omega
   have u8 : 0 ≤ mc8 kk c ∧ mc8 kk c + ((0 : Nat) : Int) + (c.sig.length : Int) ≤ 4611686018427387904 := by omega
   obtain ⟨p0_1, hp0_1⟩ : ∃ x : Int, x = kk + 1 := ⟨_, rfl⟩
   have w0_0 := upw hp0_1 (Int.natCast_nonneg _) u0
   replace u0 := up1 hp0_1 u0
   obtain ⟨p2_1, hp2_1⟩ : ∃ x : Int, x = mc2 kk c + 1 := ⟨_, rfl⟩
   have w2_0 := upw hp2_1 (Int.natCast_nonneg _) u2
   replace u2 := up1 hp2_1 u2
   obtain ⟨p2_2, hp2_2⟩ : ∃ x : Int, x = p2_1 + 1 := ⟨_, rfl⟩
   have w2_1 := upw hp2_2 (Int.natCast_nonneg _) u2
   replace u2 := up1 hp2_2 u2
   obtain ⟨p2_3, hp2_3⟩ : ∃ x : Int, x = p2_2 + 1 := ⟨_, rfl⟩
   have w2_2 := upw hp2_3 (Int.natCast_nonneg _) u2
   replace u2 := up1 hp2_3 u2
   obtain ⟨p3_1, hp3_1⟩ : ∃ x : Int, x = mc3 kk c + 1 := ⟨_, rfl⟩
   have w3_0 := upw hp3_1 (Int.natCast_nonneg _) u3
   replace u3 := up1 hp3_1 u3
   obtain ⟨p3_2, hp3_2⟩ : ∃ x : Int, x = p3_1 + 1 := ⟨_, rfl⟩
   have w3_1 := upw hp3_2 (Int.natCast_nonneg _) u3
   replace u3 := up1 hp3_2 u3
   obtain ⟨p3_3, hp3_3⟩ : ∃ x : Int, x = p3_2 + 1 := ⟨_, rfl⟩
   have w3_2 := upw hp3_3 (Int.natCast_nonneg _) u3
   replace u3 := up1 hp3_3 u3
   obtain ⟨p3_4, hp3_4⟩ : ∃ x : Int, x = p3_3 + 1 := ⟨_, rfl⟩
   have w3_3 := upw hp3_4 (Int.natCast_nonneg _) u3
   replace u3 := up1 hp3_4 u3
   obtain ⟨p3_5, hp3_5⟩ : ∃ x : Int, x = p3_4 + 1 := ⟨_, rfl⟩
   have w3_4 := upw hp3_5 (Int.natCast_nonneg _) u3
   replace u3 := up1 hp3_5 u3
   obtain ⟨p3_6, hp3_6⟩ : ∃ x : Int, x = p3_5 + 1 := ⟨_, rfl⟩
   have w3_5 := upw hp3_6 (Int.natCast_nonneg _) u3
   replace u3 := up1 hp3_6 u3
   obtain ⟨p3_7, hp3_7⟩ : ∃ x : Int, x = p3_6 + 1 := ⟨_, rfl⟩
   have w3_6 := upw hp3_7 (Int.natCast_nonneg _) u3
   replace u3 := up1 hp3_7 u3
   obtain ⟨p3_8, hp3_8⟩ : ∃ x : Int, x = p3_7 + 1 := ⟨_, rfl⟩
   have w3_7 := upw hp3_8 (Int.natCast_nonneg _) u3
   replace u3 := up1 hp3_8 u3
   obtain ⟨p3_9, hp3_9⟩ : ∃ x : Int, x = p3_8 + 1 := ⟨_, rfl⟩
   have w3_8 := upw hp3_9 (Int.natCast_nonneg _) u3
   replace u3 := up1 hp3_9 u3
   obtain ⟨p3_10, hp3_10⟩ : ∃ x : Int, x = p3_9 + 1 := ⟨_, rfl⟩
   have w3_9 := upw hp3_10 (Int.natCast_nonneg _) u3
   replace u3 := up1 hp3_10 u3
   obtain ⟨p3_11, hp3_11⟩ : ∃ x : Int, x = p3_10 + 1 := ⟨_, rfl⟩
   have w3_10 := upw hp3_11 (Int.natCast_nonneg _) u3
   replace u3 := up1 hp3_11 u3
   obtain ⟨p3_12, hp3_12⟩ : ∃ x : Int, x = p3_11 + 1 := ⟨_, rfl⟩
   have w3_11 := upw hp3_12 (Int.natCast_nonneg _) u3
   replace u3 := up1 hp3_12 u3
   obtain ⟨p3_13, hp3_13⟩ : ∃ x : Int, x = p3_12 + 1 := ⟨_, rfl⟩
   have w3_12 := upw hp3_13 (Int.natCast_nonneg _) u3
   replace u3 := up1 hp3_13 u3
   obtain ⟨p3_14, hp3_14⟩ : ∃ x : Int, x = p3_13 + 1 := ⟨_, rfl⟩
   have w3_13 := upw hp3_14 (Int.natCast_nonneg _) u3
   replace u3 := up1 hp3_14 u3
   obtain ⟨p3_15, hp3_15⟩ : ∃ x : Int, x = p3_14 + 1 := ⟨_, rfl⟩
   have w3_14 := upw hp3_15 (Int.natCast_nonneg _) u3
   replace u3 := up1 hp3_15 u3
   obtain ⟨p3_16, hp3_16⟩ : ∃ x : Int, x = p3_15 + 1 := ⟨_, rfl⟩
   have w3_15 := upw hp3_16 (Int.natCast_nonneg _) u3
   replace u3 := up1 hp3_16 u3
   obtain ⟨p3_17, hp3_17⟩ : ∃ x : Int, x = p3_16 + 1 := ⟨_, rfl⟩
   have w3_16 := upw hp3_17 (Int.natCast_nonneg _) u3
   replace u3 := up1 hp3_17 u3
   obtain ⟨p3_18, hp3_18⟩ : ∃ x : Int, x = p3_17 + 1 := ⟨_, rfl⟩
   have w3_17 := upw hp3_18 (Int.natCast_nonneg _) u3
   replace u3 := up1 hp3_18 u3
   obtain ⟨p3_19, hp3_19⟩ : ∃ x : Int, x = p3_18 + 1 := ⟨_, rfl⟩
   have w3_18 := upw hp3_19 (Int.natCast_nonneg _) u3
   replace u3 := up1 hp3_19 u3
   obtain ⟨p3_20, hp3_20⟩ : ∃ x : Int, x = p3_19 + 1 := ⟨_, rfl⟩
   have w3_19 := upw hp3_20 (Int.natCast_nonneg _) u3
   replace u3 := up1 hp3_20 u3
   obtain ⟨p3_21, hp3_21⟩ : ∃ x : Int, x = p3_20 + 1 := ⟨_, rfl⟩
   have w3_20 := upw hp3_21 (Int.natCast_nonneg _) u3
   replace u3 := up1 hp3_21 u3
   simp only [← hp0_1, ← hp2_1, ← hp2_2, ← hp2_3, ← hp3_1, ← hp3_2, ← hp3_3, ← hp3_4, ← hp3_5, ← hp3_6, ← hp3_7, ← hp3_8, ← hp3_9, ← hp3_10, ← hp3_11, ← hp3_12, ← hp3_13, ← hp3_14, ← hp3_15, ← hp3_16, ← hp3_17, ← hp3_18, ← hp3_19, ← hp3_20, ← hp3_21] at q1 q3 q4
   simp only [← hp0_1, ← hp2_1, ← hp2_2, ← hp2_3, ← hp3_1, ← hp3_2, ← hp3_3, ← hp3_4, ← hp3_5, ← hp3_6, ← hp3_7, ← hp3_8, ← hp3_9, ← hp3_10, ← hp3_11, ← hp3_12, ← hp3_13, ← hp3_14, ← hp3_15, ← hp3_16, ← hp3_17, ← hp3_18, ← hp3_19, ← hp3_20, ← hp3_21] at hx2 hb2
   have hr := rd_rows c.ne
   have d1 : decide (0 ≤ (i : Int) ∧ (i : Int) < L.length) = true := by simp; omega
   have w9 : IntKind.i64.wrap ((i : Int) + 1) = i + 1 := wrap_i64 (by omega) (by omega)
   have hq0 : ∀ p, 0 ≤ p → p < 9 → bl[9 * i + p]? = (certBs c)[p]? := fun p _ h => hbq p h
   have b0 := hq0 0 (Nat.le_refl _) (by omega)
   simp only [certBs, strK, intK, bytK, rowK, List.getElem?_cons_zero, List.getElem?_cons_succ, Nat.add_zero] at b0
   have m0 := markStringS hm c.issuer (p0_1) u0.1 (up0 u0)
   rw [← q1] at m0
   simp +decide (maxSteps := 9^7) only [↓reduceIte, hlen, hls, hgs, hx, d1, Int.toNat_natCast, w0_0, List.set_set, List.getElem?_cons_succ, List.set_cons_succ, b0, hr, List.not_mem_nil, List.mem_cons, true_or, if_false, if_true, idxOf, List.getD_cons_zero, List.length_map, List.length_range, go_sem]
   refine Runs.call m0 ?_
   obtain ⟨bl1, e0⟩ : ∃ x, bl.set (9 * i) ⟨true, 1, false, (List.range c.issuer.length).map (mkStr (p0_1))⟩ = x := ⟨_, rfl⟩
   have hq1 : ∀ p, 1 ≤ p → p < 9 → bl1[9 * i + p]? = (certBs c)[p]? := fun p h1 h2 => by rw [← e0, List.getElem?_set_ne (by omega)]; exact hq0 p (by omega) h2
   rw [e0] at hb2
   have b1 := hq1 1 (Nat.le_refl _) (by omega)
   simp only [certBs, strK, intK, bytK, rowK, List.getElem?_cons_zero, List.getElem?_cons_succ, Nat.add_zero] at b1
   have m1 := markStringS hm c.subject (mc1 kk c) u1.1 (up0 u1)
   rw [← q2] at m1
   simp +decide (maxSteps := 9^7) only [↓reduceIte, hlen, hls, hgs, hx, d1, Int.toNat_natCast, List.set_set, List.getElem?_cons_succ, List.set_cons_succ, b1, hr, e0, List.not_mem_nil, List.mem_cons, true_or, if_false, if_true, idxOf, List.getD_cons_zero, List.length_map, List.length_range, go_sem]
   refine Runs.call m1 ?_
   obtain ⟨bl2, e1⟩ : ∃ x, bl1.set (9 * i + 1) ⟨true, 1, false, (List.range c.subject.length).map (mkStr (mc1 kk c))⟩ = x := ⟨_, rfl⟩
   have hq2 : ∀ p, 2 ≤ p → p < 9 → bl2[9 * i + p]? = (certBs c)[p]? := fun p h1 h2 => by rw [← e1, List.getElem?_set_ne (by omega)]; exact hq1 p (by omega) h2
   rw [e1] at hb2
   have b2 := hq2 2 (Nat.le_refl _) (by omega)
   simp only [certBs, strK, intK, bytK, rowK, List.getElem?_cons_zero, List.getElem?_cons_succ, Nat.add_zero] at b2
   have m2 := markIntS hm c.key.N (p2_3) u2.1 (up0 u2)
   rw [← q3] at m2
   simp +decide (maxSteps := 9^7) only [↓reduceIte, hlen, hls, hgs, hx, d1, Int.toNat_natCast, w2_0, w2_1, w2_2, List.set_set, List.getElem?_cons_succ, List.set_cons_succ, b2, hr, e1, List.not_mem_nil, List.mem_cons, true_or, if_false, if_true, idxOf, List.getD_cons_zero, List.length_map, List.length_range, go_sem]
   refine Runs.call m2 ?_
   obtain ⟨bl3, e2⟩ : ∃ x, bl2.set (9 * i + 2) ⟨true, 1, false, (List.range c.key.N.length).map (mkInt (p2_3))⟩ = x := ⟨_, rfl⟩
   have hq3 : ∀ p, 3 ≤ p → p < 9 → bl3[9 * i + p]? = (certBs c)[p]? := fun p h1 h2 => by rw [← e2, List.getElem?_set_ne (by omega)]; exact hq2 p (by omega) h2
   rw [e2] at hb2
   have b3 := hq3 3 (Nat.le_refl _) (by omega)
   simp only [certBs, strK, intK, bytK, rowK, List.getElem?_cons_zero, List.getElem?_cons_succ, Nat.add_zero] at b3
   have m3 := markStringS hm c.ho (p3_21) u3.1 (up0 u3)
   rw [← q4] at m3
   simp +decide (maxSteps := 9^7) only [↓reduceIte, hlen, hls, hgs, hx, d1, Int.toNat_natCast, w3_0, w3_1, w3_2, w3_3, w3_4, w3_5, w3_6, w3_7, w3_8, w3_9, w3_10, w3_11, w3_12, w3_13, w3_14, w3_15, w3_16, w3_17, w3_18, w3_19, w3_20, List.set_set, List.getElem?_cons_succ, List.set_cons_succ, b3, hr, e2, List.not_mem_nil, List.mem_cons, true_or, if_false, if_true, idxOf, List.getD_cons_zero, List.length_map, List.length_range, go_sem]
   refine Runs.call m3 ?_
   obtain ⟨bl4, e3⟩ : ∃ x, bl3.set (9 * i + 3) ⟨true, 1, false, (List.range c.ho.length).map (mkStr (p3_21))⟩ = x := ⟨_, rfl⟩
   have hq4 : ∀ p, 4 ≤ p → p < 9 → bl4[9 * i + p]? = (certBs c)[p]? := fun p h1 h2 => by rw [← e3, List.getElem?_set_ne (by omega)]; exact hq3 p (by omega) h2
   rw [e3] at hb2
   have b4 := hq4 4 (Nat.le_refl _) (by omega)
   simp only [certBs, strK, intK, bytK, rowK, List.getElem?_cons_zero, List.getElem?_cons_succ, Nat.add_zero] at b4
   have m4 := markIntSS hm c.ne (mc4 kk c) hne u4.1 (up0 u4)
   rw [← q5] at m4
   simp +decide (maxSteps := 9^7) only [↓reduceIte, hlen, hls, hgs, hx, d1, Int.toNat_natCast, List.set_set, List.getElem?_cons_succ, List.set_cons_succ, b4, hr, e3, List.not_mem_nil, List.mem_cons, true_or, if_false, if_true, idxOf, List.getD_cons_zero, List.length_map, List.length_range, go_sem]
   refine Runs.call m4 ?_
   obtain ⟨bl5, e4⟩ : ∃ x, bl4.set (9 * i + 4) ⟨true, 1, false, (mkRows (mc4 kk c) c.ne).map rowO⟩ = x := ⟨_, rfl⟩
   have hq5 : ∀ p, 5 ≤ p → p < 9 → bl5[9 * i + p]? = (certBs c)[p]? := fun p h1 h2 => by rw [← e4, List.getElem?_set_ne (by omega)]; exact hq4 p (by omega) h2
   rw [e4] at hb2
   have b5 := hq5 5 (Nat.le_refl _) (by omega)
   simp only [certBs, strK, intK, bytK, rowK, List.getElem?_cons_zero, List.getElem?_cons_succ, Nat.add_zero] at b5
   have m5 := markStringS hm c.al (mc5 kk c) u5.1 (up0 u5)
   rw [← q6] at m5
   simp +decide (maxSteps := 9^7) only [↓reduceIte, hlen, hls, hgs, hx, d1, Int.toNat_natCast, List.set_set, List.getElem?_cons_succ, List.set_cons_succ, b5, hr, e4, List.not_mem_nil, List.mem_cons, true_or, if_false, if_true, idxOf, List.getD_cons_zero, List.length_map, List.length_range, go_sem]
   refine Runs.call m5 ?_
   obtain ⟨bl6, e5⟩ : ∃ x, bl5.set (9 * i + 5) ⟨true, 1, false, (List.range c.al.length).map (mkStr (mc5 kk c))⟩ = x := ⟨_, rfl⟩
   have hq6 : ∀ p, 6 ≤ p → p < 9 → bl6[9 * i + p]? = (certBs c)[p]? := fun p h1 h2 => by rw [← e5, List.getElem?_set_ne (by omega)]; exact hq5 p (by omega) h2
   rw [e5] at hb2
   have b6 := hq6 6 (Nat.le_refl _) (by omega)
   simp only [certBs, strK, intK, bytK, rowK, List.getElem?_cons_zero, List.getElem?_cons_succ, Nat.add_zero] at b6
   have m6 := markStringS hm c.de (mc6 kk c) u6.1 (up0 u6)
   rw [← q7] at m6
   simp +decide (maxSteps := 9^7) only [↓reduceIte, hlen, hls, hgs, hx, d1, Int.toNat_natCast, List.set_set, List.getElem?_cons_succ, List.set_cons_succ, b6, hr, e5, List.not_mem_nil, List.mem_cons, true_or, if_false, if_true, idxOf, List.getD_cons_zero, List.length_map, List.length_range, go_sem]
   refine Runs.call m6 ?_
   obtain ⟨bl7, e6⟩ : ∃ x, bl6.set (9 * i + 6) ⟨true, 1, false, (List.range c.de.length).map (mkStr (mc6 kk c))⟩ = x := ⟨_, rfl⟩
   have hq7 : ∀ p, 7 ≤ p → p < 9 → bl7[9 * i + p]? = (certBs c)[p]? := fun p h1 h2 => by rw [← e6, List.getElem?_set_ne (by omega)]; exact hq6 p (by omega) h2
   rw [e6] at hb2
   have b7 := hq7 7 (Nat.le_refl _) (by omega)
   simp only [certBs, strK, intK, bytK, rowK, List.getElem?_cons_zero, List.getElem?_cons_succ, Nat.add_zero] at b7
   have m7 := markIntS hm c.pu (mc7 kk c) u7.1 (up0 u7)
   rw [← q8] at m7
   simp +decide (maxSteps := 9^7) only [↓reduceIte, hlen, hls, hgs, hx, d1, Int.toNat_natCast, List.set_set, List.getElem?_cons_succ, List.set_cons_succ, b7, hr, e6, List.not_mem_nil, List.mem_cons, true_or, if_false, if_true, idxOf, List.getD_cons_zero, List.length_map, List.length_range, go_sem]
   refine Runs.call m7 ?_
   obtain ⟨bl8, e7⟩ : ∃ x, bl7.set (9 * i + 7) ⟨true, 1, false, (List.range c.pu.length).map (mkInt (mc7 kk c))⟩ = x := ⟨_, rfl⟩
   have hq8 : ∀ p, 8 ≤ p → p < 9 → bl8[9 * i + p]? = (certBs c)[p]? := fun p h1 h2 => by rw [← e7, List.getElem?_set_ne (by omega)]; exact hq7 p (by omega) h2
   rw [e7] at hb2
   have b8 := hq8 8 (Nat.le_refl _) (by omega)
   simp only [certBs, strK, intK, bytK, rowK, List.getElem?_cons_zero, List.getElem?_cons_succ, Nat.add_zero] at b8
   have m8 := markByteS hm c.sig (mc8 kk c) u8.1 (up0 u8)
   rw [← q9] at m8
   simp +decide (maxSteps := 9^7) only [↓reduceIte, hlen, hls, hgs, hx, d1, Int.toNat_natCast, List.set_set, List.getElem?_cons_succ, List.set_cons_succ, b8, hr, e7, List.not_mem_nil, List.mem_cons, true_or, if_false, if_true, idxOf, List.getD_cons_zero, List.length_map, List.length_range, go_sem]
   refine Runs.call m8 ?_
   obtain ⟨bl9, e8⟩ : ∃ x, bl8.set (9 * i + 8) ⟨true, 1, false, (List.range c.sig.length).map (mkByte (mc8 kk c))⟩ = x := ⟨_, rfl⟩
   have hq9 : ∀ p, 9 ≤ p → p < 9 → bl9[9 * i + p]? = (certBs c)[p]? := fun p h1 h2 => by rw [← e8, List.getElem?_set_ne (by omega)]; exact hq8 p (by omega) h2
   rw [e8] at hb2
   simp +decide (maxSteps := 9^7) only [↓reduceIte, hlen, hls, hgs, hx2, hlen2, w9, d1, Int.toNat_natCast, List.set_set, List.getElem?_cons_succ, List.set_cons_succ, e8, hb2, hr, List.getD_cons_zero, List.length_map, go_sem]
   refine ih (i + 1) _ (by omega) hlt ?_
   refine (only_x rfl ?_).trans ?_
   ·rw [List.all_cons, subC_all]; simp [isXB, xCs_ok]
   ·simp [go_sem, mcsAnn, mcsSt, hks]
  ·have hge : i = L.length := by simp at h; omega
   subst hge
   simp +decide (maxSteps := 9^7) only [hlen, curC_all, List.take_length, isXB, xCs_ok, subC_all, go_sem]
   exact Runs.ret_refl
include hm in
theorem markCertS (L : List GCert) (k : Int) (h0 : L.length ≤ 1048576) (hn : ∀ c ∈ L, c.ne.length ≤ 1048576) (h1 : 0 ≤ k) (h2 : k + cntCs L ≤ 4611686018427387904) :
  Holds Tryz.prog 15 [.ms (.x 0) 0 L.length L.length, .v (.int .i64 k)] [⟨true, 34, false, L.map certO⟩] (.v (.int .i64 (k + cntCs L))) [⟨true, 34, false, (mkCs k L).map certO⟩] := by
 refine holds_explode (xpOk_certs L) (xpOk_certs _) ?_
 have e1 := xpL_certs L 0
 have e2 := xpL_certs (mkCs k L) 0
 rw [Nat.zero_add] at e1 e2
 rw [e1, e2]
 exact markCertX hm L k h0 hn h1 h2
theorem cntC_le {c : GCert} (fit : CertFit c) : cntC c ≤ 2199023255552 := by
 obtain ⟨⟨f1, _⟩, ⟨f2, _⟩, f3, ⟨f4, f5, f6, f7, f8, f9⟩, _, _, _, f10⟩ := fit
 have := cntR_four c.ne f6
 simp only [cntC]
 omega
theorem cntCs_le : ∀ {L : List GCert}, (∀ c ∈ L, CertFit c) → cntCs L ≤ L.length * 2199023255552
 | [], _ => by simp [cntCs]
 | c :: r, h => by
  have h1 := cntC_le (h c (List.mem_cons_self ..))
  have h2 := cntCs_le (L := r) fun y hy => h y (List.mem_cons_of_mem _ hy)
  simp only [cntCs, List.length_cons, Nat.succ_mul]
  omega
theorem rd_certs (L : List GCert) : (if plainL (L.map certO) = true then L.map certA else L.map certO) = L.map certO := by
 cases L with
 | nil => rfl
 | cons x r => simp [plainL, certO, A.plain, Sh.own]
end Go.Proofs.W

namespace Go.Proofs.W
open Go Go.AM Go.Proofs.G
variable (hm : Tryz.prog.follows .mixedOrders = true)
attribute [local go_sem] rowS_plain rowS_dn rowO_dn rowO_md
theorem mks_dn (k : Int) (n : Nat) : dnL ((List.range n).map (mkStr k)) = (List.range n).map (mkStr k) := by rw [dnL_map]; rfl
theorem mkCs_get (k : Int) (L : List GCert) (i : Nat) (h : i < L.length) : (mkCs k L)[i]? = some (mkC (k + cntCs (L.take i)) L[i]) := by
 have e : L = L.take i ++ L[i] :: L.drop (i + 1) := by rw [← List.drop_eq_getElem_cons h, List.take_append_drop]
 have := mkCs_append (L.take i) (L[i] :: L.drop (i + 1)) k
 rw [← e] at this
 rw [this, List.getElem?_append_right (by simp [mkCs_length]; omega)]
 simp [mkCs_length, Nat.min_eq_left (Nat.le_of_lt h), mkCs]
theorem neg_no {x : Int} (h : 0 ≤ x) : decide (x < 0) = false := by simp; omega
def hcsAnn : Ann := [(0, [0, 1, 5])]
def hcsSt (L : List GCert) (k : Int) (i : Nat) : St := ⟨[.sl .sh ((mkCs k L).map certA), .v (.int .i64 (k + cntCs (L.take i))), .any, .any, .any, .v (.int .i64 i), .any, .any, .any, .any, .any, .any, .any, .any, .any, .any, .any, .any, .any, .any, .any, .any, .any, .any, .any, .any, .any, .any, .any, .any, .any, .any, .any, .any, .any, .any, .any, .any, .any, .any, .any, .any, .any, .any, .any, .any, .any, .any, .any, .any, .any, .any, .any, .any, .any, .any, .any, .any, .any, .any, .any, .any, .any, .any, .any, .any, .any, .any, .any, .any, .any, .any, .any, .any, .any, .any, .any, .any, .any, .any, .any, .any, .any, .any, .any, .any, .any, .any, .any, .any, .any, .any, .any, .any, .any, .any, .any, .any, .any, .any, .any, .any, .any, .any, .any, .any, .any, .any, .any, .any, .any, .any, .any, .any, .any, .any, .any, .any, .any, .any, .any, .any, .any, .any, .any, .any, .any, .any, .any, .any, .any, .any, .any, .any, .any, .any, .any, .any, .any, .any, .any, .any, .any, .any, .any, .any, .any, .any, .any, .any, .any, .any, .any, .any, .any, .any, .any, .any, .any, .any, .any, .any, .any, .any, .any, .any, .any, .any, .any, .any, .any, .any, .any, .any, .any, .any, .any, .any, .any, .any, .any, .any, .any, .any, .any, .any, .any, .any, .any, .any, .any, .any, .any, .any, .any, .any, .any, .any, .any, .any, .any, .any, .any, .any, .any, .any, .any, .any, .any, .any, .any, .any, .any, .any, .any, .any, .any, .any, .any, .any, .any, .any, .any, .any, .any, .any, .any, .any, .any, .any, .any, .any, .any, .any, .any, .any, .any, .any, .any, .any, .any, .any, .any, .any, .any, .any, .any, .any, .any, .any, .any, .any, .any, .any, .any, .any, .any, .any, .any, .any, .any, .any, .any, .any, .any, .any, .any, .any, .any, .any, .any, .any, .any, .any, .any, .any, .any, .any, .any, .any, .any, .any, .any, .any, .any, .any, .any, .any, .any, .any, .any, .any, .any, .any, .any, .any, .any, .any, .any, .any, .any, .any, .any, .any, .any, .any, .any, .any, .any, .any, .any, .any, .any, .any, .any, .any, .any, .any, .any, .any, .any, .any, .any, .any, .any, .any, .any, .any, .any, .any, .any, .any, .any, .any, .any, .any, .any, .any, .any, .any, .any, .any, .any, .any, .any, .any, .any, .any, .any, .any, .any, .any, .any, .any, .any, .any, .any, .any, .any, .any, .any, .any, .any, .any, .any, .any], [], []⟩
set_option maxHeartbeats 16000000 in
set_option maxRecDepth 10000 in
include hm in
theorem heldCertS (L : List GCert) (k : Int) (h0 : L.length ≤ 1048576) (hn : ∀ c ∈ L, c.ne.length ≤ 1048576) (h1 : 0 ≤ k) (h2 : k + cntCs L ≤ 4611686018427387904) :
  Holds Tryz.prog 17 [.sl .sh ((mkCs k L).map certA), .v (.int .i64 k)] [] (.v (.int .i64 (k + cntCs L))) [] := by
 refine holds_of (ann := hcsAnn) tabOk hm Tryz.func17 (by kernel_rfl) rfl ?_
 have hlen : ((mkCs k L).map certA).length = L.length := by rw [List.length_map, mkCs_length]
 simp +decide (maxSteps := 9^7) only [Tryz.f17, hlen, go_sem]
 refine Runs.while (α := Nat) (hcsSt L k) (fun i => L.length - i) (fun i => i ≤ L.length) 0 (by omega) ?_ ?_
 ·simp [go_sem, hcsAnn, hcsSt, cntCs]
 ·intro i hi ih
  simp +decide (maxSteps := 9^7) only [hcsSt, hlen, go_sem]
  refine Runs.split (fun h => ?_) (fun h => ?_)
  ·have hlt : i < L.length := by simpa using h
   have hc := cntCs_take_le L (i + 1)
   have hcs := cntCs_succ L i hlt
   have hg : ((mkCs k L).map certA).getD i .any = certA (mkC (k + cntCs (L.take i)) L[i]) := by rw [List.getD, List.getElem?_map, mkCs_get k L i hlt]; rfl
   have hne := hn L[i] (List.getElem_mem hlt)
   have hk9 := mc9_cnt (k + cntCs (L.take i)) L[i]
   have hkk : 0 ≤ k + cntCs (L.take i) := by omega
   have hke : k + cntCs (L.take (i + 1)) ≤ 4611686018427387904 := by omega
   have hks : k + (cntCs (L.take (i + 1)) : Int) = mc9 (k + cntCs (L.take i)) L[i] := by rw [hk9, hcs]; push_cast; omega
   generalize hxs : (mkCs k L).map certA = xs at *
   generalize hkv : k + ↑(cntCs (L.take i)) = kk at *
   generalize hcv : L[i] = c at *
   rw [certA] at hg
   simp only [mkC, mkTx_map, mkIn_map, mkBy_map] at hg
   have hke : mc9 kk c ≤ 4611686018427387904 := by rw [← hks]; exact hke
   have q1 : mc1 kk c = kk + 1 + (c.issuer.length : Int) := rfl
   have q2 : mc2 kk c = mc1 kk c + (c.subject.length : Int) := rfl
   have q3 : mc3 kk c = mc2 kk c + 1 + 1 + 1 + (c.key.N.length : Int) := rfl
   have q4 : mc4 kk c = mc3 kk c + 1 + 1 + 1 + 1 + 1 + 1 + 1 + 1 + 1 + 1 + 1 + 1 + 1 + 1 + 1 + 1 + 1 + 1 + 1 + 1 + 1 + (c.ho.length : Int) := rfl
   have q5 : mc5 kk c = mc4 kk c + (cntR c.ne : Int) := rfl
   have q6 : mc6 kk c = mc5 kk c + (c.al.length : Int) := rfl
   have q7 : mc7 kk c = mc6 kk c + (c.de.length : Int) := rfl
   have q8 : mc8 kk c = mc7 kk c + (c.pu.length : Int) := rfl
   have q9 : mc9 kk c = mc8 kk c + (c.sig.length : Int) := rfl
   have u0 : 0 ≤ kk ∧ kk + ((1 : Nat) : Int) + (c.issuer.length : Int) ≤ 4611686018427387904 := by omega
   have u1 : 0 ≤ mc1 kk c ∧ mc1 kk c + ((0 : Nat) : Int) + (c.subject.length : Int) ≤ 4611686018427387904 := by omega
   have u2 : 0 ≤ mc2 kk c ∧ mc2 kk c + ((3 : Nat) : Int) + (c.key.N.length : Int) ≤ 4611686018427387904 := by omega
   have u3 : 0 ≤ mc3 kk c ∧ mc3 kk c + ((21 : Nat) : Int) + (c.ho.length : Int) ≤ 4611686018427387904 := by omega
   have u4 : 0 ≤ mc4 kk c ∧ mc4 kk c + ((0 : Nat) : Int) + (cntR c.ne : Int) ≤ 4611686018427387904 := by omega
   have u5 : 0 ≤ mc5 kk c ∧ mc5 kk c + ((0 : Nat) : Int) + (c.al.length : Int) ≤ 4611686018427387904 := by omega
   have u6 : 0 ≤ mc6 kk c ∧ mc6 kk c + ((0 : Nat) : Int) + (c.de.length : Int) ≤ 4611686018427387904 := by omega
   have u7 : 0 ≤ mc7 kk c ∧ mc7 kk c + ((0 : Nat) : Int) + (c.pu.length : Int) ≤ 4611686018427387904 := by omega
   have u8 : 0 ≤ mc8 kk c ∧ mc8 kk c + ((0 : Nat) : Int) + (c.sig.length : Int) ≤ 4611686018427387904 := by omega
   have z1 := neg_no u1.1
   have z2 := neg_no u2.1
   have z3 := neg_no u3.1
   have z4 := neg_no u4.1
   have z5 := neg_no u5.1
   have z6 := neg_no u6.1
   have z7 := neg_no u7.1
   have z8 := neg_no u8.1
   have z9 : decide (mc9 kk c < 0) = false := neg_no (by omega)
   obtain ⟨p0_1, hp0_1⟩ : ∃ x : Int, x = kk + 1 := ⟨_, rfl⟩
   have w0_0 := upw hp0_1 (Int.natCast_nonneg _) u0
   replace u0 := up1 hp0_1 u0
   obtain ⟨p2_1, hp2_1⟩ : ∃ x : Int, x = mc2 kk c + 1 := ⟨_, rfl⟩
   have w2_0 := upw hp2_1 (Int.natCast_nonneg _) u2
   replace u2 := up1 hp2_1 u2
   obtain ⟨p2_2, hp2_2⟩ : ∃ x : Int, x = p2_1 + 1 := ⟨_, rfl⟩
   have w2_1 := upw hp2_2 (Int.natCast_nonneg _) u2
   replace u2 := up1 hp2_2 u2
   obtain ⟨p2_3, hp2_3⟩ : ∃ x : Int, x = p2_2 + 1 := ⟨_, rfl⟩
   have w2_2 := upw hp2_3 (Int.natCast_nonneg _) u2
   replace u2 := up1 hp2_3 u2
   obtain ⟨p3_1, hp3_1⟩ : ∃ x : Int, x = mc3 kk c + 1 := ⟨_, rfl⟩
   have w3_0 := upw hp3_1 (Int.natCast_nonneg _) u3
   replace u3 := up1 hp3_1 u3
   obtain ⟨p3_2, hp3_2⟩ : ∃ x : Int, x = p3_1 + 1 := ⟨_, rfl⟩
   have w3_1 := upw hp3_2 (Int.natCast_nonneg _) u3
   replace u3 := up1 hp3_2 u3
   obtain ⟨p3_3, hp3_3⟩ : ∃ x : Int, x = p3_2 + 1 := ⟨_, rfl⟩
   have w3_2 := upw hp3_3 (Int.natCast_nonneg _) u3
   replace u3 := up1 hp3_3 u3
   obtain ⟨p3_4, hp3_4⟩ : ∃ x : Int, x = p3_3 + 1 := ⟨_, rfl⟩
   have w3_3 := upw hp3_4 (Int.natCast_nonneg _) u3
   replace u3 := up1 hp3_4 u3
   obtain ⟨p3_5, hp3_5⟩ : ∃ x : Int, x = p3_4 + 1 := ⟨_, rfl⟩
   have w3_4 := upw hp3_5 (Int.natCast_nonneg _) u3
   replace u3 := up1 hp3_5 u3
   obtain ⟨p3_6, hp3_6⟩ : ∃ x : Int, x = p3_5 + 1 := ⟨_, rfl⟩
   have w3_5 := upw hp3_6 (Int.natCast_nonneg _) u3
   replace u3 := up1 hp3_6 u3
   obtain ⟨p3_7, hp3_7⟩ : ∃ x : Int, x = p3_6 + 1 := ⟨_, rfl⟩
   have w3_6 := upw hp3_7 (Int.natCast_nonneg _) u3
   replace u3 := up1 hp3_7 u3
   obtain ⟨p3_8, hp3_8⟩ : ∃ x : Int, x = p3_7 + 1 := ⟨_, rfl⟩
   have w3_7 := upw hp3_8 (Int.natCast_nonneg _) u3
   replace u3 := up1 hp3_8 u3
   obtain ⟨p3_9, hp3_9⟩ : ∃ x : Int, x = p3_8 + 1 := ⟨_, rfl⟩
   have w3_8 := upw hp3_9 (Int.natCast_nonneg _) u3
   replace u3 := up1 hp3_9 u3
   obtain ⟨p3_10, hp3_10⟩ : ∃ x : Int, x = p3_9 + 1 := ⟨_, rfl⟩
   have w3_9 := upw hp3_10 (Int.natCast_nonneg _) u3
   replace u3 := up1 hp3_10 u3
   obtain ⟨p3_11, hp3_11⟩ : ∃ x : Int, x = p3_10 + 1 := ⟨_, rfl⟩
   have w3_10 := upw hp3_11 (Int.natCast_nonneg _) u3
   replace u3 := up1 hp3_11 u3
   obtain ⟨p3_12, hp3_12⟩ : ∃ x : Int, x = p3_11 + 1 := ⟨_, rfl⟩
   have w3_11 := upw hp3_12 (Int.natCast_nonneg _) u3
   replace u3 := up1 hp3_12 u3
   obtain ⟨p3_13, hp3_13⟩ : ∃ x : Int, x = p3_12 + 1 := ⟨_, rfl⟩
   have w3_12 := upw hp3_13 (Int.natCast_nonneg _) u3
   replace u3 := up1 hp3_13 u3
   obtain ⟨p3_14, hp3_14⟩ : ∃ x : Int, x = p3_13 + 1 := ⟨_, rfl⟩
   have w3_13 := upw hp3_14 (Int.natCast_nonneg _) u3
   replace u3 := up1 hp3_14 u3
   obtain ⟨p3_15, hp3_15⟩ : ∃ x : Int, x = p3_14 + 1 := ⟨_, rfl⟩
   have w3_14 := upw hp3_15 (Int.natCast_nonneg _) u3
   replace u3 := up1 hp3_15 u3
   obtain ⟨p3_16, hp3_16⟩ : ∃ x : Int, x = p3_15 + 1 := ⟨_, rfl⟩
   have w3_15 := upw hp3_16 (Int.natCast_nonneg _) u3
   replace u3 := up1 hp3_16 u3
   obtain ⟨p3_17, hp3_17⟩ : ∃ x : Int, x = p3_16 + 1 := ⟨_, rfl⟩
   have w3_16 := upw hp3_17 (Int.natCast_nonneg _) u3
   replace u3 := up1 hp3_17 u3
   obtain ⟨p3_18, hp3_18⟩ : ∃ x : Int, x = p3_17 + 1 := ⟨_, rfl⟩
   have w3_17 := upw hp3_18 (Int.natCast_nonneg _) u3
   replace u3 := up1 hp3_18 u3
   obtain ⟨p3_19, hp3_19⟩ : ∃ x : Int, x = p3_18 + 1 := ⟨_, rfl⟩
   have w3_18 := upw hp3_19 (Int.natCast_nonneg _) u3
   replace u3 := up1 hp3_19 u3
   obtain ⟨p3_20, hp3_20⟩ : ∃ x : Int, x = p3_19 + 1 := ⟨_, rfl⟩
   have w3_19 := upw hp3_20 (Int.natCast_nonneg _) u3
   replace u3 := up1 hp3_20 u3
   obtain ⟨p3_21, hp3_21⟩ : ∃ x : Int, x = p3_20 + 1 := ⟨_, rfl⟩
   have w3_20 := upw hp3_21 (Int.natCast_nonneg _) u3
   replace u3 := up1 hp3_21 u3
   simp only [← hp0_1, ← hp2_1, ← hp2_2, ← hp2_3, ← hp3_1, ← hp3_2, ← hp3_3, ← hp3_4, ← hp3_5, ← hp3_6, ← hp3_7, ← hp3_8, ← hp3_9, ← hp3_10, ← hp3_11, ← hp3_12, ← hp3_13, ← hp3_14, ← hp3_15, ← hp3_16, ← hp3_17, ← hp3_18, ← hp3_19, ← hp3_20, ← hp3_21] at q1 q3 q4
   simp only [← hp0_1, ← hp2_1, ← hp2_2, ← hp2_3, ← hp3_1, ← hp3_2, ← hp3_3, ← hp3_4, ← hp3_5, ← hp3_6, ← hp3_7, ← hp3_8, ← hp3_9, ← hp3_10, ← hp3_11, ← hp3_12, ← hp3_13, ← hp3_14, ← hp3_15, ← hp3_16, ← hp3_17, ← hp3_18, ← hp3_19, ← hp3_20, ← hp3_21] at hg
   have d1 : decide (0 ≤ (i : Int) ∧ (i : Int) < L.length) = true := by simp; omega
   have w9 : IntKind.i64.wrap ((i : Int) + 1) = i + 1 := wrap_i64 (by omega) (by omega)
   have m0 := heldStringS hm c.issuer.length (p0_1) u0.1 (up0 u0)
   rw [← q1] at m0
   simp +decide (maxSteps := 9^7) only [↓reduceIte, hlen, hg, d1, Int.toNat_natCast, w0_0, mks_dn, mki_plain, mkb_plain, rowS_dn, List.length_map, List.length_range, go_sem]
   refine Runs.call m0 ?_
   have m1 := heldStringS hm c.subject.length (mc1 kk c) u1.1 (up0 u1)
   rw [← q2] at m1
   simp +decide (maxSteps := 9^7) only [↓reduceIte, hlen, hg, d1, Int.toNat_natCast, z1, mks_dn, mki_plain, mkb_plain, rowS_dn, List.length_map, List.length_range, go_sem]
   refine Runs.call m1 ?_
   have m2 := heldIntS hm c.key.N.length (p2_3) u2.1 (up0 u2)
   rw [← q3] at m2
   simp +decide (maxSteps := 9^7) only [↓reduceIte, hlen, hg, d1, Int.toNat_natCast, w2_0, w2_1, w2_2, z2, mks_dn, mki_plain, mkb_plain, rowS_dn, List.length_map, List.length_range, go_sem]
   refine Runs.call m2 ?_
   have m3 := heldStringS hm c.ho.length (p3_21) u3.1 (up0 u3)
   rw [← q4] at m3
   simp +decide (maxSteps := 9^7) only [↓reduceIte, hlen, hg, d1, Int.toNat_natCast, w3_0, w3_1, w3_2, w3_3, w3_4, w3_5, w3_6, w3_7, w3_8, w3_9, w3_10, w3_11, w3_12, w3_13, w3_14, w3_15, w3_16, w3_17, w3_18, w3_19, w3_20, z3, mks_dn, mki_plain, mkb_plain, rowS_dn, List.length_map, List.length_range, go_sem]
   refine Runs.call m3 ?_
   have m4 := heldIntSS hm c.ne (mc4 kk c) hne u4.1 (up0 u4)
   rw [← q5] at m4
   simp +decide (maxSteps := 9^7) only [↓reduceIte, hlen, hg, d1, Int.toNat_natCast, z4, mks_dn, mki_plain, mkb_plain, rowS_dn, List.length_map, List.length_range, go_sem]
   refine Runs.call m4 ?_
   have m5 := heldStringS hm c.al.length (mc5 kk c) u5.1 (up0 u5)
   rw [← q6] at m5
   simp +decide (maxSteps := 9^7) only [↓reduceIte, hlen, hg, d1, Int.toNat_natCast, z5, mks_dn, mki_plain, mkb_plain, rowS_dn, List.length_map, List.length_range, go_sem]
   refine Runs.call m5 ?_
   have m6 := heldStringS hm c.de.length (mc6 kk c) u6.1 (up0 u6)
   rw [← q7] at m6
   simp +decide (maxSteps := 9^7) only [↓reduceIte, hlen, hg, d1, Int.toNat_natCast, z6, mks_dn, mki_plain, mkb_plain, rowS_dn, List.length_map, List.length_range, go_sem]
   refine Runs.call m6 ?_
   have m7 := heldIntS hm c.pu.length (mc7 kk c) u7.1 (up0 u7)
   rw [← q8] at m7
   simp +decide (maxSteps := 9^7) only [↓reduceIte, hlen, hg, d1, Int.toNat_natCast, z7, mks_dn, mki_plain, mkb_plain, rowS_dn, List.length_map, List.length_range, go_sem]
   refine Runs.call m7 ?_
   have m8 := heldByteS hm c.sig.length (mc8 kk c) u8.1 (up0 u8)
   rw [← q9] at m8
   simp +decide (maxSteps := 9^7) only [↓reduceIte, hlen, hg, d1, Int.toNat_natCast, z8, mks_dn, mki_plain, mkb_plain, rowS_dn, List.length_map, List.length_range, go_sem]
   refine Runs.call m8 ?_
   simp +decide (maxSteps := 9^7) only [↓reduceIte, hlen, w9, z9, Int.toNat_natCast, List.length_map, go_sem]
   refine ih (i + 1) _ (by omega) hlt ?_
   simp [go_sem, hcsAnn, hcsSt, hks, hxs]
  ·have hge : i = L.length := by simp at h; omega
   subst hge
   simp +decide (maxSteps := 9^7) only [List.take_length, go_sem]
   exact Runs.ret_v
end Go.Proofs.W

namespace Go.Proofs.W
open Go Go.AM Go.Proofs.G
variable (hm : Tryz.prog.follows .mixedOrders = true)
attribute [local go_sem] keyA keyO exS exO rowS_plain rowS_dn rowO_dn certsA_dn certsO_dn certsO_md rowO_md rd_rows
theorem certsO_fr (L : List GCert) : freeL (L.map certO) = true := by
 induction L with
 | nil => rfl
 | cons c r ih =>
  have h : (certO c).free = true := by simp [certO, A.free, freeL, fr_strA, rowO_fr, fr_intA, fr_u8A]
  rw [List.map_cons, freeL, h, ih]; rfl
theorem certK_small {c : GCert} (fit : CertFit c) : certK c 1 ≤ 2199023255552 ∧ 1 ≤ certK c 1 := by
 obtain ⟨⟨f1, _⟩, ⟨f2, _⟩, f3, ⟨f4, f5, f6, f7, f8, f9⟩, _, _, _, f10⟩ := fit
 have := cntR_four c.ne f6
 simp only [certK, exK, certK0]
 omega
theorem szCSV_len {L : List GCert} {l : Int} (h : 0 ≤ l) (h2 : l ≤ 1048576) (e : ¬ szCSV L l < 0) : szCSV L l ≤ l - L.length := by
 unfold szCSV at e ⊢
 split at e
 ·omega
 ·rename_i e1
  rw [if_neg e1]
  exact (szCG_le L (l - L.length) (by omega) (by omega)).1
theorem chV_len {lf : GCert} {po an : List GCert} {P : List Int} : (chV lf po an P).length ≤ 6 := by
 unfold chV
 split
 ·rename_i h
  simp only [chOk, pathB, inB, Bool.and_eq_true, decide_eq_true_eq] at h
  rw [chL_len]
  have := h.2.1.2
  omega
 ·simp
theorem chV_fit {lf : GCert} {po an : List GCert} {P : List Int} (h1 : CertFit lf) (h2 : ∀ c ∈ po, CertFit c) (h3 : ∀ c ∈ an, CertFit c) : ∀ c ∈ chV lf po an P, CertFit c := by
 unfold chV
 split
 ·exact chL_fit h1 h2 h3
 ·simp
def lclC : Sched := .alt 0 (.alt 1 (.alt 2 (.alt 3 (.take 4 .fin) .nil) .nil) .nil) (.alt 1 (.alt 0 (.alt 2 (.alt 3 (.take 4 .fin) .nil) .nil) (.alt 2 (.alt 0 (.alt 3 (.take 4 .fin) .nil) .nil) .nil)) .nil)
attribute [local go_sem] lclC
set_option maxHeartbeats 16000000 in
set_option maxRecDepth 10000 in
include hm in
theorem lawChainOf (lf : GCert) (po an : List GCert) (P : List Int) (h0 : CertIn lf) (h1 : po.length ≤ 9223372036854775807) (h2 : ∀ c ∈ po, CertIn c) (h3 : an.length ≤ 9223372036854775807) (h4 : ∀ c ∈ an, CertIn c) (h5 : P.length ≤ 9223372036854775807) :
  Holds Tryz.prog 3 [certA lf, .sl .sh (po.map certA), .sl .sh (an.map certA), .sl .sh (P.map intA)] [] (.v (.bool true)) [] := by
 refine holds_ref (ann := []) tabOk hm (byL [14, 15, 16] [1000004]) Tryz.func3 (by kernel_rfl) rfl ?_
 have z1 := szCert hm lf 1048576 (by omega) (by omega) h0
 have hPl : (P.map intA).length = P.length := List.length_map _
 rw [certA] at z1 ⊢
 simp +decide (maxSteps := 9^7) only [Tryz.f3, hPl, go_sem]
 refine Runs.split (fun e => by simp +decide (maxSteps := 9^7) only [go_sem]; exact Runs.ret_v) (fun e0 => ?_)
 have hP : P.length ≤ 1048576 := by simp at e0; omega
 simp +decide (maxSteps := 9^7) only [go_sem]
 refine Runs.call z1 ?_
 simp +decide (maxSteps := 9^7) only [go_sem]
 refine Runs.split (fun e => by simp +decide (maxSteps := 9^7) only [go_sem]; exact Runs.ret_v) (fun e => ?_)
 simp only [decide_eq_false_iff_not] at e
 have fl := szCertV_fit lf 1048576 (by omega) (by omega) e
 have b1 := szCertV_le lf 1048576 (by omega) (by omega)
 have z2 := szCertS hm po (szCertV lf 1048576) (by omega) b1.1 h1 h2
 simp +decide (maxSteps := 9^7) only [go_sem]
 refine Runs.call z2 ?_
 simp +decide (maxSteps := 9^7) only [go_sem]
 refine Runs.split (fun e => by simp +decide (maxSteps := 9^7) only [go_sem]; exact Runs.ret_v) (fun e2 => ?_)
 simp only [decide_eq_false_iff_not] at e2
 obtain ⟨hpo, fpo⟩ := (szCSV_le po (szCertV lf 1048576) (by omega) b1.1).2.2 e2
 have b2 := szCSV_len (by omega) b1.1 e2
 have z3 := szCertS hm an (szCSV po (szCertV lf 1048576)) (by omega) (by omega) h3 h4
 simp +decide (maxSteps := 9^7) only [go_sem]
 refine Runs.call z3 ?_
 simp +decide (maxSteps := 9^7) only [go_sem]
 refine Runs.split (fun e => by simp +decide (maxSteps := 9^7) only [go_sem]; exact Runs.ret_v) (fun e3 => ?_)
 simp only [decide_eq_false_iff_not] at e3
 obtain ⟨han, fan⟩ := (szCSV_le an (szCSV po (szCertV lf 1048576)) (by omega) (by omega)).2.2 e3
 have b3 := szCSV_len (by omega) (by omega) e3
 have hln : po.length + an.length ≤ 1048576 := by omega
 have tl := toCert hm lf fl
 have tp := toCertS hm po hpo fpo
 have ta := toCertS hm an han fan
 have tP := toIntS hm P hP
 have ql := eqCert hm lf fl
 have qp := eqCertS hm po hpo fpo
 have qa := eqCertS hm an han fan
 have qP := eqIntS hm P (by omega)
 have cs := sChainOf hm lf po an P fl hpo fpo han fan hP
 have ci := iChainOf hm lf po an P fl hpo fpo han fan hP
 have hV6 := chV_len (lf := lf) (po := po) (an := an) (P := P)
 have hVf := chV_fit (P := P) fl fpo fan
 generalize chV lf po an P = V at cs ci hV6 hVf
 generalize chOk lf po an P = ok at cs ci
 have qV := eqCertS hm V (by omega) hVf
 have k1 := certK_small fl
 have n1 := cntCs_le fpo
 have n2 := cntCs_le fan
 have n3 := cntCs_le hVf
 have ml := markCert hm lf 1 fl.2.2.2.1.2.1 (by omega) (by omega)
 rw [certX, certBs] at ml
 simp only [strK, intK, bytK, rowK, certMs, exMs, strM, intM, bytM, List.cons_append, List.nil_append] at ml
 have mp := markCertS hm po (certK lf 1) hpo (fun c hc => (fpo c hc).2.2.2.1.2.1) (by omega) (by omega)
 have ma := markCertS hm an (certK lf 1 + cntCs po) han (fun c hc => (fan c hc).2.2.2.1.2.1) (by omega) (by omega)
 have mP := markIntS hm P (certK lf 1 + cntCs po + cntCs an) (by omega) (by omega)
 have mV := markCertS hm V 1 (by omega) (fun c hc => (hVf c hc).2.2.2.1.2.1) (by omega) (by omega)
 have hV := heldCertS hm V 1 (by omega) (fun c hc => (hVf c hc).2.2.2.1.2.1) (by omega) (by omega)
 have hd : decide (certK lf 1 + (cntCs po : Int) + (cntCs an : Int) + (P.length : Int) < 0) = false := by simp; omega
 have hd2 : decide ((1 : Int) + (cntCs V : Int) < 0) = false := by simp; omega
 have hbb : (ok != ok) = false := by cases ok <;> rfl
 have rp := rd_certs po
 have ra := rd_certs an
 have rV := rd_certs V
 have frV := certsO_fr V
 have tkp : List.take po.length (po.map certO) = po.map certO := take_map_len
 have tka : List.take an.length (an.map certO) = an.map certO := take_map_len
 have tkV : List.take V.length (V.map certO) = V.map certO := take_map_len
 have tkP : List.take P.length (P.map intA) = P.map intA := take_map_len
 have lM : ((mkCs 1 V).map certO).length = V.length := by rw [List.length_map, mkCs_length]
 have tkM : List.take V.length ((mkCs 1 V).map certO) = (mkCs 1 V).map certO := by rw [← lM, List.take_length]
 have dM := certsO_dn (mkCs 1 V)
 rw [certA, certO] at tl
 rw [certA] at ql cs ci
 generalize certK lf 1 + (cntCs po : Int) + (cntCs an : Int) + (P.length : Int) = kq at mP hd
 generalize certK lf 1 + (cntCs po : Int) + (cntCs an : Int) = k3 at ma mP
 generalize certK lf 1 + (cntCs po : Int) = k2 at mp ma
 generalize certK lf 1 = k1' at ml mp
 generalize (1 : Int) + (cntCs V : Int) = kV at mV hV hd2
 generalize (mkCs 1 V).map certO = M at mV lM tkM dM
 generalize (mkCs 1 V).map certA = M2 at hV dM
 simp +decide (maxSteps := 9^7) only [hPl, go_sem]
 refine Runs.call tl ?_
 simp +decide (maxSteps := 9^7) only [hPl, go_sem]
 refine Runs.call tp ?_
 simp +decide (maxSteps := 9^7) only [hPl, go_sem]
 refine Runs.call ta ?_
 simp +decide (maxSteps := 9^7) only [hPl, go_sem]
 refine Runs.call tP ?_
 simp +decide (maxSteps := 9^7) only [hPl, tkp, tka, tkP, List.length_map, go_sem]
 refine Runs.call cs ?_
 simp +decide (maxSteps := 9^7) only [hPl, frV, go_sem]
 refine Runs.call tl ?_
 simp +decide (maxSteps := 9^7) only [hPl, go_sem]
 refine Runs.call tp ?_
 simp +decide (maxSteps := 9^7) only [hPl, go_sem]
 refine Runs.call ta ?_
 simp +decide (maxSteps := 9^7) only [hPl, go_sem]
 refine Runs.call tP ?_
 simp +decide (maxSteps := 9^7) only [hPl, tkp, tka, tkP, List.length_map, go_sem]
 refine Runs.call ci ?_
 simp +decide (maxSteps := 9^7) only [hPl, frV, tkV, List.length_map, go_sem]
 refine Runs.call qV ?_
 simp +decide (maxSteps := 9^7) only [hbb, go_sem]
 refine Runs.draw (st1 := ?s1) (draws_ref (ann := []) tabOk (byL [14, 15, 16] [1000004]) lclC (by kernel_rfl) ?p1) ?q1
 case p1 =>
  intro K r X hK
  simp +decide (maxSteps := 9^7) only [go_sem]
  repeat' (first | exact hK | apply And.intro | (refine Runs.call tl ?_; simp +decide (maxSteps := 9^7) only [go_sem]) | (refine Runs.call ql ?_; simp +decide (maxSteps := 9^7) only [go_sem]))
 case q1 =>
  simp +decide (maxSteps := 9^7) only [hPl, tkp, tka, tkP, List.length_map, go_sem]
  refine Runs.call tp ?_
  simp +decide (maxSteps := 9^7) only [hPl, tkp, tka, tkP, List.length_map, go_sem]
  refine Runs.call qp ?_
  simp +decide (maxSteps := 9^7) only [hPl, tkp, tka, tkP, List.length_map, go_sem]
  refine Runs.call ta ?_
  simp +decide (maxSteps := 9^7) only [hPl, tkp, tka, tkP, List.length_map, go_sem]
  refine Runs.call qa ?_
  simp +decide (maxSteps := 9^7) only [hPl, tkp, tka, tkP, List.length_map, go_sem]
  refine Runs.call tP ?_
  simp +decide (maxSteps := 9^7) only [hPl, tkp, tka, tkP, List.length_map, go_sem]
  refine Runs.call qP ?_
  simp +decide (maxSteps := 9^7) only [hPl, tkp, tka, tkP, List.length_map, go_sem]
  refine Runs.call ml ?_
  simp +decide (maxSteps := 9^7) only [hPl, rp, ra, List.length_map, go_sem]
  refine Runs.call mp ?_
  simp +decide (maxSteps := 9^7) only [hPl, rp, ra, List.length_map, go_sem]
  refine Runs.call ma ?_
  simp +decide (maxSteps := 9^7) only [hPl, rp, ra, List.length_map, go_sem]
  refine Runs.call mP ?_
  simp +decide (maxSteps := 9^7) only [hPl, hd, tkV, List.length_map, go_sem]
  refine Runs.call qV ?_
  simp +decide (maxSteps := 9^7) only [hPl, hbb, rV, List.length_map, go_sem]
  refine Runs.call mV ?_
  simp +decide (maxSteps := 9^7) only [hPl, lM, tkM, dM, List.length_map, go_sem]
  refine Runs.call hV ?_
  simp +decide (maxSteps := 9^7) only [hPl, hd2, lM, tkM, dM, List.length_map, go_sem]
  refine Runs.call tl ?_
  simp +decide (maxSteps := 9^7) only [hPl, go_sem]
  refine Runs.call tp ?_
  simp +decide (maxSteps := 9^7) only [hPl, go_sem]
  refine Runs.call ta ?_
  simp +decide (maxSteps := 9^7) only [hPl, go_sem]
  refine Runs.call tP ?_
  simp +decide (maxSteps := 9^7) only [hPl, tkp, tka, tkP, List.length_map, go_sem]
  refine Runs.call ci ?_
  simp +decide (maxSteps := 9^7) only [hPl, frV, tkV, List.length_map, go_sem]
  refine Runs.call qV ?_
  simp +decide (maxSteps := 9^7) only [hbb, lM, tkM, dM, List.length_map, go_sem]
  refine Runs.call hV ?_
  simp +decide (maxSteps := 9^7) only [hPl, hd2, lM, tkM, dM, List.length_map, go_sem]
  exact Runs.ret_v
end Go.Proofs.W
