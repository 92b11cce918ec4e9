import Derived.Test.YtedaabanlhbknaaGreatWalk2
set_option linter.unusedVariables false
set_option linter.unusedSimpArgs false
namespace Go.Proofs.W
open Go Go.AM
set_option maxRecDepth 10000
variable (hm : Tryz.prog.follows .mixedOrders = true)
def mkFill (v : Nat → A) (es : List A) (i : Nat) : List A := (List.range i).map v ++ es.drop i
theorem mkFill_length (v : Nat → A) (es : List A) (i : Nat) (h : i ≤ es.length) : (mkFill v es i).length = es.length := by simp [mkFill]; omega
theorem mkFill_zero (v : Nat → A) (es : List A) : mkFill v es 0 = es := by simp [mkFill]
theorem mkFill_all (v : Nat → A) (es : List A) {n : Nat} (h : es.length = n) : mkFill v es n = (List.range n).map v := by subst h; simp [mkFill]
theorem mkFill_get (v : Nat → A) (es : List A) (i : Nat) (h : i < es.length) : (mkFill v es i).getD i .any = es[i] := by
 unfold mkFill
 rw [List.getD, List.getElem?_append_right (by simp)]
 simp [h]
theorem mkFill_set (v : Nat → A) (es : List A) (i : Nat) (h : i < es.length) : (mkFill v es i).set i (v i) = mkFill v es (i + 1) := by
 unfold mkFill
 rw [List.set_append_right _ _ (by simp), List.length_map, List.length_range, Nat.sub_self, List.drop_eq_getElem_cons h, List.set_cons_zero, List.range_succ, List.map_append, List.append_assoc]
 rfl
def mkAnn : Ann := [(0, [0, 1, 5])]
def mkInt (k : Int) (i : Nat) : A := intA (k + i)
def mkByte (k : Int) (i : Nat) : A := u8A (IntKind.u8.wrap (k + i))
attribute [local go_sem] mkInt mkByte
def markGo : Nat → Nat → ByteArray → ByteArray
 | 0, _, out => out
 | f + 1, n, out => if n = 0 then out else markGo f (n / 10) (⟨#[UInt8.ofNat (48 + n % 10)]⟩ ++ out)
def markT (k : Int) : ByteArray := if k ≤ 0 then ⟨#[109, 48]⟩ else ⟨#[109]⟩ ++ markGo (k.toNat + 1) k.toNat ⟨#[]⟩
def mkStr (k : Int) (i : Nat) : A := strA (markT (k + i))
attribute [local go_sem] mkStr
def markIntSt (L : List Int) (k : Int) (i : Nat) : St := ⟨[.ms (.x 0) 0 L.length L.length, .v (.int .i64 (k + i)), .any, .any, .any, .v (.int .i64 i), .any, .any, .any, .any, .any, .any, .any, .any, .any, .any, .any, .any, .any], [], [⟨true, 1, false, mkFill (mkInt k) (L.map intA) i⟩]⟩
include hm in
theorem markIntS (L : List Int) (k : Int) (h1 : 0 ≤ k) (h2 : k + L.length ≤ 4611686018427387904) :
  Holds Tryz.prog 32 [.ms (.x 0) 0 L.length L.length, .v (.int .i64 k)] [⟨true, 1, false, L.map intA⟩] (.v (.int .i64 (k + L.length))) [⟨true, 1, false, (List.range L.length).map (mkInt k)⟩] := by
 refine holds_of (ann := mkAnn) tabOk hm Tryz.func32 (by kernel_rfl) rfl ?_
 simp +decide only [Tryz.f32, go_sem]
 refine Runs.while (α := Nat) (markIntSt L k) (fun i => L.length - i) (fun i => i ≤ L.length) 0 (by omega) ?_ ?_
 ·simp [go_sem, mkAnn, markIntSt, mkFill_zero]
 ·intro i hi ih
  have hlen := mkFill_length (mkInt k) (L.map intA) i (by simpa using hi)
  rw [List.length_map] at hlen
  simp +decide only [markIntSt, hlen, go_sem]
  refine Runs.split (fun h => ?_) (fun h => ?_)
  ·have hlt : i < L.length := by simpa using h
   have hg := mkFill_get (mkInt k) (L.map intA) i (by simpa using hlt)
   have hs := mkFill_set (mkInt k) (L.map intA) i (by simpa using hlt)
   simp only [List.getElem_map, intA] at hg
   simp only [mkInt, intA] at hs
   simp +decide (disch := first | omega | (simp only [ll]; omega)) only [hlen, hg, hs, if_pos, go_sem]
   refine ih (i + 1) _ (by omega) (by omega) ?_
   simp [go_sem, mkAnn, markIntSt, Int.add_assoc]
  ·have hge : i = L.length := by simp at h; omega
   subst hge
   simp +decide only [hlen, mkFill_all _ _ (List.length_map _), go_sem]
   exact Runs.ret_refl
def heldIntSt (n : Nat) (k : Int) (i : Nat) : St := ⟨[.sl .sh ((List.range n).map (mkInt k)), .v (.int .i64 (k + i)), .any, .any, .any, .v (.int .i64 i), .any, .any, .any, .any, .any, .any, .any, .any, .any, .any, .any, .any, .any, .any, .any], [], []⟩
include hm in
theorem heldIntS (n : Nat) (k : Int) (h1 : 0 ≤ k) (h2 : k + n ≤ 4611686018427387904) :
  Holds Tryz.prog 34 [.sl .sh ((List.range n).map (mkInt k)), .v (.int .i64 k)] [] (.v (.int .i64 (k + n))) [] := by
 refine holds_of (ann := mkAnn) tabOk hm Tryz.func34 (by kernel_rfl) rfl ?_
 simp +decide only [Tryz.f34, go_sem]
 refine Runs.while (α := Nat) (heldIntSt n k) (fun i => n - i) (fun i => i ≤ n) 0 (by omega) ?_ ?_
 ·simp [go_sem, mkAnn, heldIntSt]
 ·intro i hi ih
  simp +decide only [heldIntSt, List.length_range, go_sem]
  refine Runs.split (fun h => ?_) (fun h => ?_)
  ·have hlt : i < n := by simpa using h
   have hg : ((List.range n).map (mkInt k)).getD i .any = mkInt k i := by simp [List.getD, hlt]
   simp +decide (disch := first | omega | (simp only [ll]; omega)) only [hg, List.length_range, if_pos, go_sem]
   refine ih (i + 1) _ (by omega) (by omega) ?_
   simp [go_sem, mkAnn, heldIntSt, Int.add_assoc]
  ·have hge : i = n := by simp at h; omega
   subst hge
   simp +decide only [go_sem]
   exact Runs.ret_refl
def markByteSt (L : List Int) (k : Int) (i : Nat) : St := ⟨[.ms (.x 0) 0 L.length L.length, .v (.int .i64 (k + i)), .any, .any, .any, .v (.int .i64 i), .any, .any, .any, .any, .any, .any, .any, .any, .any, .any, .any, .any, .any, .any], [], [⟨true, 1, false, mkFill (mkByte k) (L.map u8A) i⟩]⟩
include hm in
theorem markByteS (L : List Int) (k : Int) (h1 : 0 ≤ k) (h2 : k + L.length ≤ 4611686018427387904) :
  Holds Tryz.prog 9 [.ms (.x 0) 0 L.length L.length, .v (.int .i64 k)] [⟨true, 1, false, L.map u8A⟩] (.v (.int .i64 (k + L.length))) [⟨true, 1, false, (List.range L.length).map (mkByte k)⟩] := by
 refine holds_of (ann := mkAnn) tabOk hm Tryz.func9 (by kernel_rfl) rfl ?_
 simp +decide only [Tryz.f9, go_sem]
 refine Runs.while (α := Nat) (markByteSt L k) (fun i => L.length - i) (fun i => i ≤ L.length) 0 (by omega) ?_ ?_
 ·simp [go_sem, mkAnn, markByteSt, mkFill_zero]
 ·intro i hi ih
  have hlen := mkFill_length (mkByte k) (L.map u8A) i (by simpa using hi)
  rw [List.length_map] at hlen
  simp +decide only [markByteSt, hlen, go_sem]
  refine Runs.split (fun h => ?_) (fun h => ?_)
  ·have hlt : i < L.length := by simpa using h
   have hg := mkFill_get (mkByte k) (L.map u8A) i (by simpa using hlt)
   have hs := mkFill_set (mkByte k) (L.map u8A) i (by simpa using hlt)
   simp only [List.getElem_map, u8A] at hg
   simp only [mkByte, u8A] at hs
   simp +decide (disch := first | omega | (simp only [ll]; omega)) only [hlen, hg, hs, if_pos, go_sem]
   refine ih (i + 1) _ (by omega) (by omega) ?_
   simp [go_sem, mkAnn, markByteSt, Int.add_assoc]
  ·have hge : i = L.length := by simp at h; omega
   subst hge
   simp +decide only [hlen, mkFill_all _ _ (List.length_map _), go_sem]
   exact Runs.ret_refl
def heldByteSt (n : Nat) (k : Int) (i : Nat) : St := ⟨[.sl .sh ((List.range n).map (mkByte k)), .v (.int .i64 (k + i)), .any, .any, .any, .v (.int .i64 i), .any, .any, .any, .any, .any, .any, .any, .any, .any, .any, .any, .any, .any, .any, .any, .any], [], []⟩
include hm in
theorem heldByteS (n : Nat) (k : Int) (h1 : 0 ≤ k) (h2 : k + n ≤ 4611686018427387904) :
  Holds Tryz.prog 35 [.sl .sh ((List.range n).map (mkByte k)), .v (.int .i64 k)] [] (.v (.int .i64 (k + n))) [] := by
 refine holds_of (ann := mkAnn) tabOk hm Tryz.func35 (by kernel_rfl) rfl ?_
 simp +decide only [Tryz.f35, go_sem]
 refine Runs.while (α := Nat) (heldByteSt n k) (fun i => n - i) (fun i => i ≤ n) 0 (by omega) ?_ ?_
 ·simp [go_sem, mkAnn, heldByteSt]
 ·intro i hi ih
  simp +decide only [heldByteSt, List.length_range, go_sem]
  refine Runs.split (fun h => ?_) (fun h => ?_)
  ·have hlt : i < n := by simpa using h
   have hg : ((List.range n).map (mkByte k)).getD i .any = mkByte k i := by simp [List.getD, hlt]
   simp +decide (disch := first | omega | (simp only [ll]; omega)) only [hg, List.length_range, if_pos, go_sem]
   refine ih (i + 1) _ (by omega) (by omega) ?_
   simp [go_sem, mkAnn, heldByteSt, Int.add_assoc]
  ·have hge : i = n := by simp at h; omega
   subst hge
   simp +decide only [go_sem]
   exact Runs.ret_refl
def markTxAnn : Ann := [(0, [0, 3])]
def markTxSt (p : Nat × ByteArray) : St := ⟨[.v (.int .i64 p.1), .any, .any, .v (.string p.2), .any, .any, .any, .any, .any, .any, .any, .any, .any, .any, .any, .any, .any, .any, .any, .any], [], []⟩
theorem markGo_fuel : ∀ (f g n : Nat) (out : ByteArray), n < f → n < g → markGo f n out = markGo g n out
 | f + 1, g + 1, n, out, h1, h2 => by
  simp only [markGo]
  split
  ·rfl
  ·rename_i hn
   exact markGo_fuel f g (n / 10) _ (by omega) (by omega)
theorem markGo_size {n s n0 : Nat} (h : n * 10 ^ s ≤ n0) (hn : 0 < n) (h0 : n0 ≤ 4611686018427387904) : s ≤ 30 := by
 rcases Nat.lt_or_ge 30 s with h1 | h1
 ·have h2 : 10 ^ 31 ≤ 10 ^ s := Nat.pow_le_pow_right (by omega) h1
  have h3 : 1 * 10 ^ s ≤ n * 10 ^ s := Nat.mul_le_mul_right _ hn
  have h4 : (10 : Nat) ^ 31 = 10000000000000000000000000000000 := rfl
  omega
 ·exact h1
include hm in
theorem markText (k : Int) (h1 : 0 ≤ k) (h2 : k ≤ 4611686018427387904) : Holds Tryz.prog 56 [.v (.int .i64 k)] [] (.v (.string (markT k))) [] := by
 refine holds_of (ann := markTxAnn) tabOk hm Tryz.func56 (by kernel_rfl) rfl ?_
 simp +decide only [Tryz.f56, go_sem]
 refine Runs.split (fun h => ?_) (fun h => ?_)
 ·simp only [decide_eq_true_eq] at h
  simp +decide only [markT, if_pos h, go_sem]
  exact Runs.ret_v
 ·simp only [decide_eq_false_iff_not] at h
  simp +decide only [go_sem]
  obtain ⟨n0, rfl⟩ : ∃ n0 : Nat, k = n0 := ⟨k.toNat, by omega⟩
  refine Runs.while (α := Nat × ByteArray) markTxSt (fun p => p.1) (fun p => p.1 ≤ n0 ∧ p.1 * 10 ^ p.2.size ≤ n0 ∧ p.2.size ≤ 31 ∧ markGo (p.1 + 1) p.1 p.2 = markGo (n0 + 1) n0 ⟨#[]⟩) (n0, ⟨#[]⟩) ⟨by simp, Nat.le_of_eq (by show n0 * 10 ^ 0 = n0; omega), by show 0 ≤ 31; omega, rfl⟩ ?_ ?_
  ·simp [go_sem, markTxAnn, markTxSt]
  ·rintro ⟨n, out⟩ ⟨hn, hp, hs, hr⟩ ih
   simp only at hn hp hs hr
   simp +decide only [markTxSt, go_sem]
   refine Runs.split (fun h => ?_) (fun h => ?_)
   ·have hn0 : 0 < n := by simp at h; omega
    have hs' := markGo_size hp hn0 (by omega)
    have ht : (n : Int).tmod 10 = ((n % 10 : Nat) : Int) := by rw [Int.tmod_eq_emod_of_nonneg (by omega)]; omega
    have hq : (n : Int).tdiv 10 = ((n / 10 : Nat) : Int) := by rw [Int.tdiv_eq_ediv_of_nonneg (by omega)]; omega
    have hw : IntKind.i64.wrap (48 + ((n % 10 : Nat) : Int)) = ((48 + n % 10 : Nat) : Int) := by rw [wrap_i64 (by omega) (by omega)]; omega
    have hw2 : IntKind.u8.wrap ((48 + n % 10 : Nat) : Int) = ((48 + n % 10 : Nat) : Int) := wrap_u8 (by omega) (by omega)
    have hw3 : IntKind.i64.wrap ((n / 10 : Nat) : Int) = ((n / 10 : Nat) : Int) := wrap_i64 (by omega) (by omega)
    have hb : (0 ≤ ((48 + n % 10 : Nat) : Int) ∧ ((48 + n % 10 : Nat) : Int) < 256) := by omega
    simp +decide only [ht, hq, hw, hw2, hw3, hb, go_sem]
    refine Runs.chk (by simp; show 1 + out.size ≤ _; omega) ?_
    simp +decide only [go_sem]
    refine ih (n / 10, ⟨#[UInt8.ofNat (48 + n % 10)]⟩ ++ out) _ (by simp only; omega) ⟨by simp only; omega, ?_, ?_, ?_⟩ ?_
    ·simp only
     rw [ByteArray.size_append]
     show n / 10 * 10 ^ (1 + out.size) ≤ n0
     rw [Nat.pow_add, ← Nat.mul_assoc]
     exact Nat.le_trans (Nat.mul_le_mul_right _ (by omega)) hp
    ·simp only
     rw [ByteArray.size_append]
     show 1 + out.size ≤ 31
     omega
    ·simp only
     rw [← hr]
     conv => rhs; unfold markGo
     rw [if_neg (by omega)]
     exact markGo_fuel _ _ _ _ (by omega) (by omega)
    ·simp [go_sem, markTxAnn, markTxSt]
   ·have hn0 : n = 0 := by simp at h; omega
    subst hn0
    simp only [markGo, if_true] at hr
    simp +decide only [go_sem]
    refine Runs.chk (by simp; show 1 + out.size ≤ _; omega) ?_
    refine Runs.ret_eq ?_
    rw [markT, if_neg ‹¬ ((n0 : Int) ≤ 0)›, hr]
    rfl
def markStringSt (L : List ByteArray) (k : Int) (i : Nat) : St := ⟨[.ms (.x 0) 0 L.length L.length, .v (.int .i64 (k + i)), .any, .any, .any, .v (.int .i64 i), .any, .any, .any, .any, .any, .any, .any, .any, .any, .any, .any, .any, .any, .any], [], [⟨true, 1, false, mkFill (mkStr k) (L.map strA) i⟩]⟩
include hm in
theorem markStringS (L : List ByteArray) (k : Int) (h1 : 0 ≤ k) (h2 : k + L.length ≤ 4611686018427387904) :
  Holds Tryz.prog 31 [.ms (.x 0) 0 L.length L.length, .v (.int .i64 k)] [⟨true, 1, false, L.map strA⟩] (.v (.int .i64 (k + L.length))) [⟨true, 1, false, (List.range L.length).map (mkStr k)⟩] := by
 refine holds_of (ann := mkAnn) tabOk hm Tryz.func31 (by kernel_rfl) rfl ?_
 simp +decide only [Tryz.f31, go_sem]
 refine Runs.while (α := Nat) (markStringSt L k) (fun i => L.length - i) (fun i => i ≤ L.length) 0 (by omega) ?_ ?_
 ·simp [go_sem, mkAnn, markStringSt, mkFill_zero]
 ·intro i hi ih
  have hlen := mkFill_length (mkStr k) (L.map strA) i (by simpa using hi)
  rw [List.length_map] at hlen
  simp +decide only [markStringSt, hlen, go_sem]
  refine Runs.split (fun h => ?_) (fun h => ?_)
  ·have hlt : i < L.length := by simpa using h
   have hg := mkFill_get (mkStr k) (L.map strA) i (by simpa using hlt)
   have hs := mkFill_set (mkStr k) (L.map strA) i (by simpa using hlt)
   simp only [List.getElem_map, strA] at hg
   simp only [mkStr, strA] at hs
   simp +decide (disch := first | omega | (simp only [ll]; omega)) only [hlen, hg, if_pos, go_sem]
   refine Runs.call (markText hm (k + i) (by omega) (by omega)) ?_
   simp +decide (disch := first | omega | (simp only [ll]; omega)) only [hlen, hg, hs, if_pos, go_sem]
   refine ih (i + 1) _ (by omega) (by omega) ?_
   simp [go_sem, mkAnn, markStringSt, Int.add_assoc]
  ·have hge : i = L.length := by simp at h; omega
   subst hge
   simp +decide only [hlen, mkFill_all _ _ (List.length_map _), go_sem]
   exact Runs.ret_refl
def hssS : Sched := .take 0 (.take 1 (.take 2 (.take 4 (.alt 3 (.alt 5 (.take 6 .fin) .nil) (.alt 5 (.alt 3 (.take 6 .fin) .nil) .nil)))))
attribute [local go_sem] hssS
def heldStringSt (n : Nat) (k : Int) (i : Nat) : St := ⟨[.sl .sh ((List.range n).map (mkStr k)), .v (.int .i64 (k + i)), .any, .any, .any, .v (.int .i64 i), .any, .any, .any, .any, .any, .any, .any, .any, .any, .any, .any, .any, .any, .any, .any, .any], [], []⟩
include hm in
theorem heldStringS (n : Nat) (k : Int) (h1 : 0 ≤ k) (h2 : k + n ≤ 4611686018427387904) :
  Holds Tryz.prog 33 [.sl .sh ((List.range n).map (mkStr k)), .v (.int .i64 k)] [] (.v (.int .i64 (k + n))) [] := by
 refine holds_of (ann := mkAnn) tabOk hm Tryz.func33 (by kernel_rfl) rfl ?_
 simp +decide only [Tryz.f33, go_sem]
 refine Runs.while (α := Nat) (heldStringSt n k) (fun i => n - i) (fun i => i ≤ n) 0 (by omega) ?_ ?_
 ·simp [go_sem, mkAnn, heldStringSt]
 ·intro i hi ih
  simp +decide only [heldStringSt, List.length_range, go_sem]
  refine Runs.split (fun h => ?_) (fun h => ?_)
  ·have hlt : i < n := by simpa using h
   have hg : ((List.range n).map (mkStr k)).getD i .any = mkStr k i := by simp [List.getD, hlt]
   have ht := markText hm (k + i) (by omega) (by omega)
   simp +decide only [go_sem]
   refine Runs.draw (st1 := ?s1) (draws_by (ann := mkAnn) tabOk hssS (by kernel_rfl) ?p1) ?q1
   case p1 =>
    intro K r X hK
    simp +decide (maxSteps := 9^7) (disch := first | omega | (simp only [ll]; omega)) only [hg, List.length_range, if_pos, go_sem]
    repeat' (first | exact hK | apply And.intro | (refine Runs.call ht ?_; simp +decide (maxSteps := 9^7) (disch := first | omega | (simp only [ll]; omega)) only [hg, List.length_range, if_pos, go_sem]))
   case q1 =>
    simp +decide (disch := first | omega | (simp only [ll]; omega)) only [hg, List.length_range, if_pos, go_sem]
    refine ih (i + 1) _ (by omega) (by omega) ?_
    simp [go_sem, mkAnn, heldStringSt, Int.add_assoc]
  ·have hge : i = n := by simp at h; omega
   subst hge
   simp +decide only [go_sem]
   exact Runs.ret_refl
end Go.Proofs.W

namespace Go.Proofs.W
open Go Go.AM
variable (hm : Tryz.prog.follows .mixedOrders = true)
attribute [local go_sem] crlA crlO
theorem mk_plain (k : Int) (n : Nat) : dnL ((List.range n).map (mkByte k)) = (List.range n).map (mkByte k) := by rw [dnL_map]; rfl
theorem tk_mk (k : Int) (n : Nat) : List.take n ((List.range n).map (mkByte k)) = (List.range n).map (mkByte k) := List.take_of_length_le (by simp)
set_option maxRecDepth 10000 in
include hm in
theorem markCrl (I : List ByteArray) (f t a : Int) (S G : List Int) (k : Int) (h1 : 0 ≤ k) (h2 : k + I.length + S.length + G.length ≤ 4611686018427387904) :
  Holds Tryz.prog 10 [.agg [.ms (.x 0) 0 I.length I.length, .v (.int .i64 f), .v (.int .i64 t), .v (.int .i64 a), .ms (.x 1) 0 S.length S.length, .ms (.x 2) 0 G.length G.length], .v (.int .i64 k)]
   [⟨true, 1, false, I.map strA⟩, ⟨true, 1, false, S.map intA⟩, ⟨true, 1, false, G.map u8A⟩] (.v (.int .i64 (k + I.length + S.length + G.length)))
   [⟨true, 1, false, (List.range I.length).map (mkStr k)⟩, ⟨true, 1, false, (List.range S.length).map (mkInt (k + I.length))⟩, ⟨true, 1, false, (List.range G.length).map (mkByte (k + I.length + S.length))⟩] := by
 refine holds_ref (ann := []) tabOk hm (byL [31, 32, 9] []) Tryz.func10 (by kernel_rfl) rfl ?_
 simp +decide only [Tryz.f10, go_sem]
 refine Runs.call (markStringS hm I k h1 (by omega)) ?_
 simp +decide only [go_sem]
 refine Runs.call (markIntS hm S (k + I.length) (by omega) (by omega)) ?_
 simp +decide only [go_sem]
 refine Runs.call (markByteS hm G (k + I.length + S.length) (by omega) (by omega)) ?_
 simp +decide only [go_sem]
 exact Runs.ret_refl
end Go.Proofs.W

namespace Go.Proofs.W
open Go Go.AM
variable (hm : Tryz.prog.follows .mixedOrders = true)
theorem mkI_plR (k : Int) (n : Nat) : dnL ((List.range n).map (mkInt k)) = (List.range n).map (mkInt k) := by rw [dnL_map]; rfl
theorem tk_mkI (k : Int) (n : Nat) : List.take n ((List.range n).map (mkInt k)) = (List.range n).map (mkInt k) := List.take_of_length_le (by simp)
theorem mkS_plR (k : Int) (n : Nat) : dnL ((List.range n).map (mkStr k)) = (List.range n).map (mkStr k) := by rw [dnL_map]; rfl
theorem tk_mkS (k : Int) (n : Nat) : List.take n ((List.range n).map (mkStr k)) = (List.range n).map (mkStr k) := List.take_of_length_le (by simp)
theorem ans_some (b : List Int) : ∃ c ok, ansA (rdImpl b) = .tup [crO c, .v (.bool ok)] ∧ c.I.length ≤ 1000 ∧ c.S.length ≤ 1000 ∧ c.G.length ≤ 1000 := by
 unfold rdImpl
 split
 ·exact ⟨⟨[], 0, 0, 0, [], []⟩, false, rfl, by simp, by simp, by simp⟩
 split
 ·rename_i h
  have hc : crlOk (implP (derN (derM b).1)).I (implP (derN (derM b).1)).f (implP (derN (derM b).1)).t (implP (derN (derM b).1)).a (implP (derN (derM b).1)).S (implP (derN (derM b).1)).G = true := by
   have := h.1
   rw [wOk, Bool.and_eq_true] at this
   exact this.1
  obtain ⟨l1, l2, l3, l4, l5, l6⟩ := crl_len hc
  have := crl_sig hc
  exact ⟨implP (derN (derM b).1), true, rfl, by omega, by omega, by omega⟩
 ·exact ⟨⟨[], 0, 0, 0, [], []⟩, false, rfl, by simp, by simp, by simp⟩
set_option maxRecDepth 10000 in
include hm in
theorem heldCrl (n m l : Nat) (f t a : Int) (k : Int) (h1 : 0 ≤ k) (h2 : k + n + m + l ≤ 4611686018427387904) :
  Holds Tryz.prog 11 [.agg [.sl .sh ((List.range n).map (mkStr k)), .v (.int .i64 f), .v (.int .i64 t), .v (.int .i64 a), .sl .sh ((List.range m).map (mkInt (k + n))), .sl .sh ((List.range l).map (mkByte (k + n + m)))], .v (.int .i64 k)] [] (.v (.int .i64 (k + n + m + l))) [] := by
 have d1 : decide (k + (n : Int) < 0) = false := by simp; omega
 have d2 : decide (k + (n : Int) + m < 0) = false := by simp; omega
 have d3 : decide (k + (n : Int) + m + l < 0) = false := by simp; omega
 refine holds_of (ann := []) tabOk hm Tryz.func11 (by kernel_rfl) rfl ?_
 simp +decide (maxSteps := 9^7) only [↓reduceIte, Tryz.f11, mk_plain, mkI_plR, mkS_plR, go_sem]
 refine Runs.call (heldStringS hm n k h1 (by omega)) ?_
 simp +decide (maxSteps := 9^7) only [↓reduceIte, d1, mk_plain, mkI_plR, mkS_plR, go_sem]
 refine Runs.call (heldIntS hm m (k + n) (by omega) (by omega)) ?_
 simp +decide (maxSteps := 9^7) only [↓reduceIte, d2, mk_plain, mkI_plR, mkS_plR, go_sem]
 refine Runs.call (heldByteS hm l (k + n + m) (by omega) (by omega)) ?_
 simp +decide (maxSteps := 9^7) only [↓reduceIte, d3, go_sem]
 exact Runs.ret_refl
set_option maxRecDepth 10000 in
set_option maxHeartbeats 4000000 in
include hm in
theorem lawReadCrl (b : List Int) (hb : BytesOk b) : Holds Tryz.prog 3 [.sl .sh (b.map u8A)] [] (.v (.bool true)) [] := by
 have hbl : (b.map u8A).length = b.length := List.length_map _
 have hbt : List.take b.length (b.map u8A) = b.map u8A := take_map_len
 refine holds_ref (ann := []) tabOk hm (byL [10, 9] []) Tryz.func3 (by kernel_rfl) rfl ?_
 simp +decide (maxSteps := 9^7) only [↓reduceIte, Tryz.f3, hbl, go_sem]
 refine Runs.split (fun e => by simp +decide (maxSteps := 9^7) only [↓reduceIte, go_sem]; exact Runs.ret_v) (fun e => ?_)
 have hl : b.length ≤ 1048576 := by simp at e; omega
 have hto := toByteS hm b hl
 have hS := specReadCrl hm b hb hl
 have hT := implReadCrl hm b hb hl
 rw [rd_same b] at hS
 obtain ⟨c, ok, ec, n1, n2, n3⟩ := ans_some b
 rw [ec] at hS hT
 clear ec
 obtain ⟨I, f, t, a, S, G⟩ := c
 simp only [crO, crlO] at hS hT n1 n2 n3
 have heq := eqCrl hm I f t a S G (by omega) (by omega) (by omega)
 rw [crlA] at heq
 have heb := eqByteS hm b (by omega)
 have hmb := markByteS hm b 1 (by omega) (by omega)
 have hmk := markCrl hm I f t a S G 1 (by omega) (by omega)
 have hH := heldCrl hm I.length S.length G.length f t a 1 (by omega) (by omega)
 have hbb : (ok != ok) = false := by cases ok <;> rfl
 have d1 : decide ((1 : Int) + b.length < 0) = false := by simp; omega
 have d2 : decide ((1 : Int) + I.length + S.length + G.length < 0) = false := by simp; omega
 generalize (1 : Int) + I.length + S.length + G.length = kk at hmk hH d2
 simp +decide (maxSteps := 9^7) only [↓reduceIte, hbl, go_sem]
 refine Runs.call hto ?_
 simp +decide (maxSteps := 9^7) only [↓reduceIte, hbl, hbt, go_sem]
 refine Runs.call hS ?_
 simp +decide (maxSteps := 9^7) only [↓reduceIte, hbl, hbt, go_sem]
 refine Runs.call hto ?_
 simp +decide (maxSteps := 9^7) only [↓reduceIte, hbl, hbt, go_sem]
 refine Runs.call hT ?_
 simp +decide (maxSteps := 9^7) only [↓reduceIte, hbl, hbt, go_sem]
 refine Runs.call heq ?_
 simp +decide (maxSteps := 9^7) only [↓reduceIte, hbl, hbt, hbb, go_sem]
 refine Runs.call hto ?_
 simp +decide (maxSteps := 9^7) only [↓reduceIte, hbl, hbt, go_sem]
 refine Runs.call heb ?_
 simp +decide (maxSteps := 9^7) only [↓reduceIte, hbl, hbt, go_sem]
 refine Runs.call hmb ?_
 simp +decide (maxSteps := 9^7) only [↓reduceIte, hbl, hbt, d1, go_sem]
 refine Runs.call heq ?_
 simp +decide (maxSteps := 9^7) only [↓reduceIte, hbl, hbt, hbb, go_sem]
 refine Runs.call hmk ?_
 simp +decide (maxSteps := 9^7) only [↓reduceIte, hbl, hbt, List.length_range, mk_plain, tk_mk, mkI_plR, tk_mkI, mkS_plR, tk_mkS, go_sem]
 refine Runs.call hH ?_
 simp +decide (maxSteps := 9^7) only [↓reduceIte, hbl, hbt, d2, go_sem]
 refine Runs.call hto ?_
 simp +decide (maxSteps := 9^7) only [↓reduceIte, hbl, hbt, go_sem]
 refine Runs.call hT ?_
 simp +decide (maxSteps := 9^7) only [↓reduceIte, hbl, hbt, go_sem]
 refine Runs.call heq ?_
 simp +decide (maxSteps := 9^7) only [↓reduceIte, hbl, hbt, hbb, List.length_range, mk_plain, tk_mk, mkI_plR, tk_mkI, mkS_plR, tk_mkS, go_sem]
 refine Runs.call hH ?_
 simp +decide (maxSteps := 9^7) only [↓reduceIte, hbl, hbt, d2, go_sem]
 exact Runs.ret_v
end Go.Proofs.W
