import Derived.Test.YtjnchacjkngbnacGreatDoorWalk2
set_option linter.unusedVariables false
set_option linter.unusedSimpArgs false
namespace Go.Proofs.W
open Go Go.AM
set_option maxRecDepth 10000
variable (hm : Tryz.prog.follows .mixedOrders = true)
def xorI (k : IntKind) (a b : Int) : Int := k.wrap (BitVec.ofInt k.bits a ^^^ BitVec.ofInt k.bits b).toNat
theorem intBin_xor {kd : IntKind} {a b : Int} : intBin .xor kd a b = some (.int kd (xorI kd a b)) := Eq.trans rfl rfl
attribute [local go_sem] intBin_xor
theorem xor_zero {a b : Nat} : a ^^^ b = 0 ↔ a = b := by
 refine ⟨fun h => ?_, fun h => by rw [h, Nat.xor_self]⟩
 have : b = a ^^^ (a ^^^ b) := by rw [← Nat.xor_assoc, Nat.xor_self, Nat.zero_xor]
 rw [this, h, Nat.xor_zero]
theorem xor_nat {x y : Int} (hx : 0 ≤ x ∧ x < 4294967296) (hy : 0 ≤ y ∧ y < 4294967296) : xorI .i64 x y = ((x.toNat ^^^ y.toNat : Nat) : Int) := by
 obtain ⟨xn, rfl⟩ := Int.eq_ofNat_of_zero_le hx.1
 obtain ⟨yn, rfl⟩ := Int.eq_ofNat_of_zero_le hy.1
 show IntKind.i64.wrap ((BitVec.ofInt 64 xn ^^^ BitVec.ofInt 64 yn).toNat : Int) = _
 rw [BitVec.toNat_xor, BitVec.toNat_ofInt, BitVec.toNat_ofInt]
 have m1 : ((xn : Int) % ((2 ^ 64 : Nat) : Int)).toNat = xn := by omega
 have m2 : ((yn : Int) % ((2 ^ 64 : Nat) : Int)).toNat = yn := by omega
 have hl : xn ^^^ yn < 2 ^ 32 := Nat.xor_lt_two_pow (by omega) (by omega)
 rw [m1, m2]
 simp only [Int.toNat_natCast]
 exact wrap_i64 (by omega) (by omega)
theorem xor_fdiv {x y : Int} (hx : 0 ≤ x ∧ x < 4294967296) (hy : 0 ≤ y ∧ y < 4294967296) (m : Nat) : ((xorI .i64 x y).fdiv (2 ^ m) == 0) = decide (x.fdiv (2 ^ m) = y.fdiv (2 ^ m)) := by
 rw [xor_nat hx hy]
 obtain ⟨xn, rfl⟩ := Int.eq_ofNat_of_zero_le hx.1
 obtain ⟨yn, rfl⟩ := Int.eq_ofNat_of_zero_le hy.1
 simp only [Int.toNat_natCast]
 have hp : (0 : Int) ≤ 2 ^ m := Int.le_of_lt (Int.pow_pos (by omega))
 rw [Int.fdiv_eq_ediv_of_nonneg _ hp, Int.fdiv_eq_ediv_of_nonneg _ hp, Int.fdiv_eq_ediv_of_nonneg _ hp]
 have e : ∀ n : Nat, ((n : Int) / 2 ^ m) = ((n / 2 ^ m : Nat) : Int) := fun n => by push_cast; rfl
 rw [e, e, e, Nat.xor_div_two_pow, int_beq, decide_eq_decide]
 constructor
 ·intro h; have := xor_zero.1 (by exact_mod_cast h); exact_mod_cast this
 ·intro h; have := xor_zero.2 (show xn / 2 ^ m = yn / 2 ^ m by exact_mod_cast h); exact_mod_cast this
def inNet (net a : List Int) (m : Nat) : Bool := decide ((numV net).fdiv (2 ^ m) = (numV a).fdiv (2 ^ m))
def inS : Sched := .take 0 (.take 2 (.take 3 (.take 5 (.take 7 (.take 8 (.alt 1 (.take 4 (.alt 6 (.take 9 (.take 10 (.take 11 .fin))) .nil)) .nil))))))
attribute [local go_sem] inS
include hm in
theorem specInNet (net a : List Int) (b : Int) (m : Nat) (hn : addrB net = true) (ha : addrB a = true) (hb : inB b 0 32 = true) (hm1 : IntKind.i64.wrap (32 - b) = m) (hm2 : min m 64 = m) :
  Holds Tryz.prog 53 [.sl .sh (net.map intA), .v (.int .i64 b), .sl .sh (a.map intA)] [] (.v (.bool (inNet net a m))) [] := by
 have l1 : net.length ≤ 1048576 := by obtain ⟨_, _, _, _, rfl, _⟩ := addr_four hn; simp
 have l2 : a.length ≤ 1048576 := by obtain ⟨_, _, _, _, rfl, _⟩ := addr_four ha; simp
 refine holds_of (ann := []) tabOk hm Tryz.func53 (by kernel_rfl) rfl ?_
 have c1 := l8Four hm net l1
 have c2 := l8Four hm a l2
 have c3 := l1In hm b 0 32
 rw [hn] at c1
 rw [ha] at c2
 rw [hb] at c3
 have d0 : decide (0 ≤ (m : Int)) = true := by simp
 simp +decide only [Tryz.f53, go_sem]
 refine Runs.call c1 ?_
 simp +decide only [go_sem]
 refine Runs.call c2 ?_
 simp +decide only [go_sem]
 refine Runs.call c3 ?_
 simp +decide only [go_sem]
 refine Runs.draw (st1 := ?s1) (draws_by (ann := []) tabOk inS (by kernel_rfl) ?p1) ?q1
 case p1 =>
  intro K r X hK
  simp +decide only [go_sem]
  repeat' (first
   | apply And.intro
   | exact hK
   | (refine Runs.call (l8Whole hm net hn) ?_; simp +decide only [hm1, hm2, d0, Int.toNat_natCast, go_sem])
   | (refine Runs.call (l8Whole hm a ha) ?_; simp +decide only [hm1, hm2, d0, Int.toNat_natCast, go_sem]))
 case q1 =>
  simp +decide only [go_sem]
  exact Runs.ret_eq (by rw [inNet])
include hm in
theorem implInNet (net a : List Int) (b : Int) (m : Nat) (hn : addrB net = true) (ha : addrB a = true) (hb : inB b 0 32 = true) (hm1 : IntKind.i64.wrap (32 - b) = m) (hm2 : min m 64 = m) :
  Holds Tryz.prog 117 [.sl .sh (net.map intA), .v (.int .i64 b), .sl .sh (a.map intA)] [] (.v (.bool (inNet net a m))) [] := by
 have l1 : net.length ≤ 1048576 := by obtain ⟨_, _, _, _, rfl, _⟩ := addr_four hn; simp
 have l2 : a.length ≤ 1048576 := by obtain ⟨_, _, _, _, rfl, _⟩ := addr_four ha; simp
 refine holds_of (ann := []) tabOk hm Tryz.func117 (by kernel_rfl) rfl ?_
 have c1 := isAddress hm net l1
 have c2 := isAddress hm a l2
 have c3 := within hm b 0 32
 rw [hn] at c1
 rw [ha] at c2
 rw [hb] at c3
 have d0 : decide (0 ≤ (m : Int)) = true := by simp
 have xf := xor_fdiv (numV_in hn) (numV_in ha) m
 simp +decide only [Tryz.f117, go_sem]
 refine Runs.call c1 ?_
 simp +decide only [go_sem]
 refine Runs.call c2 ?_
 simp +decide only [go_sem]
 refine Runs.call c3 ?_
 simp +decide only [go_sem]
 refine Runs.call (number hm net hn) ?_
 simp +decide only [go_sem]
 refine Runs.call (number hm a ha) ?_
 simp +decide only [hm1, hm2, d0, Int.toNat_natCast, xf, go_sem]
 exact Runs.ret_v
def innerB (a : List Int) : Bool := inNet [10, 0, 0, 0] a 24 || inNet [192, 168, 0, 0] a 16
theorem net10 : addrB [10, 0, 0, 0] = true := by decide
theorem net192 : addrB [192, 168, 0, 0] = true := by decide
include hm in
theorem isInner (a : List Int) (ha : addrB a = true) : Holds Tryz.prog 78 [.sl .sh (a.map intA)] [] (.v (.bool (innerB a))) [] := by
 refine holds_of (ann := []) tabOk hm Tryz.func78 (by kernel_rfl) rfl ?_
 have c1 := implInNet hm [10, 0, 0, 0] a 8 24 net10 ha (by decide) rfl rfl
 have c2 := implInNet hm [192, 168, 0, 0] a 16 16 net192 ha (by decide) rfl rfl
 simp only [List.map_cons, List.map_nil, intA] at c1 c2
 simp +decide only [Tryz.f78, go_sem]
 refine Runs.call c1 ?_
 cases h : inNet [10, 0, 0, 0] a 24
 ·simp +decide only [go_sem]
  refine Runs.call c2 ?_
  simp +decide only [go_sem]
  exact Runs.ret_eq (by simp [innerB, h])
 ·simp +decide only [go_sem]
  exact Runs.ret_eq (by simp [innerB, h])
theorem str_eq (a b : ByteArray) : (a.toList == b.toList) = decide (a = b) := by
 rw [Lib.toList_data, Lib.toList_data]
 by_cases h : a = b
 ·rw [decide_eq_true h, h]; simp
 ·rw [decide_eq_false h, beq_eq_false_iff_ne]
  intro hh
  exact h (ByteArray.ext (Array.toList_inj.1 hh))
def xnP : ByteArray := ⟨#[120, 110, 45, 45]⟩
def xnB (s : ByteArray) : Bool := decide (4 ≤ s.size) && ((s.extract 0 4).toList == xnP.toList)
def xnBad (s : ByteArray) : Bool := xnB s && !(preadS (bz (s.extract 4 s.size))).isSome
def strangeB (s : ByteArray) : Bool := (partsB s).any xnBad
include hm in
theorem cutXn (s : ByteArray) (h : s.size ≤ 1048576) : Holds Tryz.prog 113 [.v (.string s), .v (.string xnP)] [] (.tup [.v (.string (if xnB s = true then s.extract 4 s.size else s)), .v (.bool (xnB s))]) [] := by
 have hs2 : ((xnP.size : Nat) : Int) = 4 := rfl
 have t0 : Int.toNat 0 = 0 := rfl
 have t2 : Int.toNat 4 = 4 := rfl
 have c1 : Holds Tryz.prog 143 [.v (.string s), .v (.string xnP)] [] (.v (.bool (xnB s))) [] := by
  refine holds_of (ann := []) tabOk hm Tryz.func143 (by kernel_rfl) rfl ?_
  simp +decide only [Tryz.f143, hs2, go_sem]
  cases h2 : decide ((s.size : Int) ≥ 4)
  ·have e2 : decide (4 ≤ s.size) = false := by simp at h2; simp; omega
   simp +decide only [go_sem]
   exact Runs.ret_eq (by rw [xnB, e2, Bool.false_and])
  ·have e2 : decide (4 ≤ s.size) = true := by simp at h2; simp; omega
   have b1 : decide ((0 : Int) ≤ 0 ∧ (0 : Int) ≤ 4 ∧ (4 : Int) ≤ s.size) = true := by simp at h2; simp; omega
   have b3 : decide ((4 : Int) ≤ s.size) = true := by simp at h2; simp; omega
   simp +decide (disch := first | omega | (simp only [ll]; omega)) only [hs2, b1, b3, t0, t2, if_pos, go_sem]
   exact Runs.ret_eq (by rw [xnB, e2, Bool.true_and])
 have c2 : Holds Tryz.prog 151 [.v (.string s), .v (.string xnP)] [] (.tup [.v (.string (if xnB s = true then s.extract 4 s.size else s)), .v (.bool (xnB s))]) [] := by
  refine holds_of (ann := []) tabOk hm Tryz.func151 (by kernel_rfl) rfl ?_
  simp +decide only [Tryz.f151, go_sem]
  refine Runs.call c1 ?_
  cases h2 : xnB s
  ·simp +decide only [go_sem]
   exact Runs.ret_refl
  ·have hsz : 4 ≤ s.size := by simp only [xnB, Bool.and_eq_true, decide_eq_true_eq] at h2; omega
   have b1 : decide ((0 : Int) ≤ 4 ∧ (4 : Int) ≤ s.size ∧ (s.size : Int) ≤ s.size) = true := by simp; omega
   have b2 : decide ((4 : Int) ≤ s.size ∧ (s.size : Int) ≤ s.size) = true := by simp; omega
   simp +decide (disch := first | omega | (simp only [ll]; omega)) only [hs2, b1, b2, t2, if_pos, go_sem]
   exact Runs.ret_refl
 refine holds_of (ann := []) tabOk hm Tryz.func113 (by kernel_rfl) rfl ?_
 simp +decide only [Tryz.f113, go_sem]
 refine Runs.call c2 ?_
 simp +decide only [go_sem]
 exact Runs.ret_refl
theorem any_take {α : Type} {L : List α} {f : α → Bool} {i : Nat} (h : i < L.length) (h1 : ∀ c ∈ L.take i, f c = false) (h2 : f L[i] = false) : ∀ c ∈ L.take (i + 1), f c = false := by
 intro c hc
 rw [List.take_succ_eq_append_getElem h, List.mem_append] at hc
 rcases hc with hc | hc
 ·exact h1 c hc
 ·simp only [List.mem_cons, List.not_mem_nil, or_false] at hc; subst hc; exact h2
theorem any_false {α : Type} {L : List α} {f : α → Bool} (h : ∀ c ∈ L, f c = false) : L.any f = false := by
 rw [List.any_eq_false]; intro c hc; simp [h c hc]
theorem any_true {α : Type} {L : List α} {f : α → Bool} {i : Nat} (h : i < L.length) (h2 : f L[i] = true) : L.any f = true := by
 rw [List.any_eq_true]; exact ⟨L[i], List.getElem_mem h, h2⟩
def isgAnn : Ann := [(0, [10, 11, 12])]
def isgSt (s : ByteArray) (i : Nat) : St := ⟨[.any, .any, .any, .any, .any, .any, .any, .any, .any, .any, .ms (.l 0) 0 (partsB s).length (partsB s).length, .v (.int .i64 (partsB s).length), .v (.int .i64 i), .any, .any, .any, .any, .any, .any, .any, .any, .any, .any, .any, .any, .any, .any, .any, .any, .any], [(0, ⟨true, 1, false, (partsB s).map strA⟩)], []⟩
set_option maxHeartbeats 1000000 in
include hm in
theorem isStrange (s : ByteArray) (h : s.size ≤ 1048576) : Holds Tryz.prog 75 [.v (.string s)] [] (.v (.bool (strangeB s))) [] := by
 refine holds_of (ann := isgAnn) tabOk hm Tryz.func75 (by kernel_rfl) rfl ?_
 have hP : ((partsB s).map strA).length = (partsB s).length := List.length_map _
 have hPt : List.take (partsB s).length ((partsB s).map strA) = (partsB s).map strA := take_map_len
 have hpl := partsB_le s
 simp +decide only [Tryz.f75, go_sem]
 refine Runs.call (split1 hm s h) ?_
 simp +decide only [hP, hPt, go_sem]
 refine Runs.while (α := Nat) (isgSt s) (fun i => (partsB s).length - i) (fun i => i ≤ (partsB s).length ∧ ∀ c ∈ (partsB s).take i, xnBad c = false) 0 ⟨by omega, by simp⟩ ?_ ?_
 ·simp [go_sem, isgAnn, isgSt]
 ·rintro i ⟨hi, ha⟩ ih
  simp +decide only [isgSt, hP, go_sem]
  refine Runs.split (fun h => ?_) (fun h => ?_)
  ·have hlt : i < (partsB s).length := by simpa using h
   have hg : ((partsB s).map strA).getD i .any = .v (.string (partsB s)[i]) := by simp [List.getD, hlt, strA]
   have hz := partsB_sz s _ (List.getElem_mem hlt)
   have cut := cutXn hm (partsB s)[i] (by omega)
   rw [xnP] at cut
   have d1 : decide (0 ≤ (i : Int) ∧ (i : Int) < (partsB s).length) = true := by simp; omega
   have w1 : IntKind.i64.wrap ((i : Int) + 1) = i + 1 := wrap_i64 (by omega) (by omega)
   simp +decide only [hP, d1, Int.toNat_natCast, hg, go_sem]
   refine Runs.call cut ?_
   cases hx : xnB (partsB s)[i]
   ·have hb : xnBad (partsB s)[i] = false := by rw [xnBad, hx, Bool.false_and]
    simp +decide only [w1, go_sem]
    refine ih (i + 1) _ (by omega) ⟨by omega, any_take hlt ha hb⟩ ?_
    simp [go_sem, isgAnn, isgSt]
   ·have rp := implReadPuny hm ((partsB s)[i].extract 4 (partsB s)[i].size) (by rw [ByteArray.size_extract]; omega)
    rw [rdA] at rp
    simp +decide only [go_sem]
    refine Runs.call rp ?_
    cases hs : (preadS (bz ((partsB s)[i].extract 4 (partsB s)[i].size))).isSome
    ·have hb : xnBad (partsB s)[i] = true := by rw [xnBad, hx, hs]; rfl
     simp +decide only [go_sem]
     exact Runs.ret_eq (by rw [strangeB, any_true hlt hb])
    ·have hb : xnBad (partsB s)[i] = false := by rw [xnBad, hx, hs]; rfl
     simp +decide only [w1, go_sem]
     refine ih (i + 1) _ (by omega) ⟨by omega, any_take hlt ha hb⟩ ?_
     simp [go_sem, isgAnn, isgSt]
  ·have hge : i = (partsB s).length := by simp at h; omega
   subst hge
   rw [List.take_length] at ha
   simp +decide only [go_sem]
   exact Runs.ret_eq (by rw [strangeB, any_false ha])
def lpuAnn : Ann := [(0, [0, 3]), (2, [0, 3, 4, 5])]
def lpuSt0 (L : List ByteArray) (i : Nat) : St := ⟨[.sl .sh (L.map strA), .any, .any, .v (.int .i64 i), .any, .any, .any, .any, .any, .any, .any, .any, .any, .any, .any, .any, .any, .any, .any, .any, .any, .any, .any, .any, .any, .any, .any, .any, .any, .any, .any, .any, .any, .any, .any, .any, .any, .any, .any, .any, .any, .any, .any, .any, .any, .any, .any, .any, .any, .any], [], []⟩
def lpuSt2 (L : List ByteArray) (i : Nat) (P : List ByteArray) (k : Nat) : St := ⟨[.sl .sh (L.map strA), .any, .any, .v (.int .i64 i), .ms (.l 0) 0 P.length P.length, .v (.int .i64 k), .any, .any, .any, .any, .any, .any, .any, .any, .any, .any, .any, .any, .any, .any, .any, .any, .any, .any, .any, .any, .any, .any, .any, .any, .any, .any, .any, .any, .any, .any, .any, .any, .any, .any, .any, .any, .any, .any, .any, .any, .any, .any, .any, .any], [(0, ⟨true, 1, false, P.map strA⟩)], []⟩
set_option maxHeartbeats 1000000 in
include hm in
theorem l14Puny (L : List ByteArray) (h : L.length ≤ 1048576) (hs : ∀ s ∈ L, s.size ≤ 1048576) : Holds Tryz.prog 51 [.sl .sh (L.map strA)] [] (.v (.bool (L.any strangeB))) [] := by
 refine holds_of (ann := lpuAnn) tabOk hm Tryz.func51 (by kernel_rfl) rfl ?_
 simp +decide only [Tryz.f51, go_sem]
 refine Runs.while (α := Nat) (lpuSt0 L) (fun i => L.length - i) (fun i => i ≤ L.length ∧ ∀ c ∈ L.take i, strangeB c = false) 0 ⟨by omega, by simp⟩ ?_ ?_
 ·simp [go_sem, lpuAnn, lpuSt0]
 ·rintro i ⟨hi, ha⟩ ih
  simp +decide only [lpuSt0, go_sem]
  refine Runs.split (fun h => ?_) (fun h => ?_)
  ·have hlt : i < L.length := by simpa using h
   have hg : (L.map strA).getD i .any = .v (.string L[i]) := by simp [List.getD, hlt, strA]
   have hz := hs L[i] (List.getElem_mem hlt)
   have d1 : decide (0 ≤ (i : Int) ∧ (i : Int) < L.length) = true := by simp; omega
   have w1 : IntKind.i64.wrap ((i : Int) + 1) = i + 1 := wrap_i64 (by omega) (by omega)
   simp +decide only [d1, Int.toNat_natCast, hg, List.length_map, go_sem]
   refine Runs.call (l8Parts hm L[i] hz) ?_
   obtain ⟨P, hPe⟩ : ∃ P, P = partsB L[i] := ⟨_, rfl⟩
   have hpl := partsB_le L[i]
   have hpz := partsB_sz L[i]
   have hst : strangeB L[i] = P.any xnBad := by rw [hPe]; rfl
   rw [← hPe] at hpl hpz ⊢
   have hP : (P.map strA).length = P.length := List.length_map _
   have hPt : List.take P.length (P.map strA) = P.map strA := take_map_len
   simp +decide only [hP, hPt, go_sem]
   refine Runs.while (α := Nat) (lpuSt2 L i P) (fun k => P.length - k) (fun k => k ≤ P.length ∧ ∀ c ∈ P.take k, xnBad c = false) 0 ⟨by omega, by simp⟩ ?_ ?_
   ·simp [go_sem, lpuAnn, lpuSt2]
   ·rintro k ⟨hk, hka⟩ ihk
    simp +decide only [lpuSt2, hP, go_sem]
    refine Runs.split (fun h => ?_) (fun h => ?_)
    ·have hkt : k < P.length := by simpa using h
     have hgk : (P.map strA).getD k .any = .v (.string P[k]) := by simp [List.getD, hkt, strA]
     have hzk := hpz P[k] (List.getElem_mem hkt)
     have d2 : decide (0 ≤ (k : Int) ∧ (k : Int) < P.length) = true := by simp; omega
     have w2 : IntKind.i64.wrap ((k : Int) + 1) = k + 1 := wrap_i64 (by omega) (by omega)
     have t0 : Int.toNat 0 = 0 := rfl
     have t4 : Int.toNat 4 = 4 := rfl
     cases h4 : decide (4 ≤ P[k].size)
     ·have e4 : decide ((P[k].size : Int) ≥ 4) = false := by simp at h4; simp; omega
      have hb : xnBad P[k] = false := by simp only [xnBad, xnB, h4, Bool.false_and]
      simp +decide only [hP, d2, Int.toNat_natCast, hgk, e4, w2, go_sem]
      refine ihk (k + 1) _ (by omega) ⟨by omega, any_take hkt hka hb⟩ ?_
      simp [go_sem, lpuAnn, lpuSt2]
     ·have h4' : 4 ≤ P[k].size := by simpa using h4
      have e4 : decide ((P[k].size : Int) ≥ 4) = true := by simp; omega
      have b1 : decide ((0 : Int) ≤ 0 ∧ (0 : Int) ≤ 4 ∧ (4 : Int) ≤ P[k].size) = true := by simp; omega
      have b2 : decide ((4 : Int) ≤ P[k].size) = true := by simp; omega
      have b3 : decide ((0 : Int) ≤ 4 ∧ (4 : Int) ≤ P[k].size ∧ (P[k].size : Int) ≤ P[k].size) = true := by simp; omega
      have b4 : decide ((4 : Int) ≤ P[k].size ∧ (P[k].size : Int) ≤ P[k].size) = true := by simp; omega
      cases hx : ((P[k].extract 0 4).toList == xnP.toList)
      ·have hb : xnBad P[k] = false := by simp only [xnBad, xnB, hx, Bool.and_false, Bool.false_and]
       rw [xnP] at hx
       simp +decide only [hP, d2, Int.toNat_natCast, hgk, e4, b1, b2, t0, t4, hx, w2, go_sem]
       refine ihk (k + 1) _ (by omega) ⟨by omega, any_take hkt hka hb⟩ ?_
       simp [go_sem, lpuAnn, lpuSt2]
      ·have hx2 : xnB P[k] = true := by simp only [xnB, h4, hx, Bool.and_true]
       have rp := specReadPuny hm (P[k].extract 4 P[k].size) (by rw [ByteArray.size_extract]; omega)
       rw [rdA] at rp
       rw [xnP] at hx
       simp +decide only [hP, d2, Int.toNat_natCast, hgk, e4, b1, b2, b3, b4, t0, t4, hx, go_sem]
       refine Runs.call rp ?_
       cases hs4 : (preadS (bz (P[k].extract 4 P[k].size))).isSome
       ·have hb : xnBad P[k] = true := by rw [xnBad, hx2, hs4]; rfl
        simp +decide only [go_sem]
        exact Runs.ret_eq (by rw [any_true hlt (by rw [hst]; exact any_true hkt hb)])
       ·have hb : xnBad P[k] = false := by rw [xnBad, hx2, hs4]; rfl
        simp +decide only [w2, go_sem]
        refine ihk (k + 1) _ (by omega) ⟨by omega, any_take hkt hka hb⟩ ?_
        simp [go_sem, lpuAnn, lpuSt2]
    ·have hge : k = P.length := by simp at h; omega
     subst hge
     rw [List.take_length] at hka
     simp +decide only [w1, go_sem]
     refine ih (i + 1) _ (by omega) ⟨by omega, any_take hlt ha (by rw [hst]; exact any_false hka)⟩ ?_
     simp [go_sem, lpuAnn, lpuSt0]
  ·have hge : i = L.length := by simp at h; omega
   subst hge
   rw [List.take_length] at ha
   simp +decide only [go_sem]
   exact Runs.ret_eq (by rw [any_false ha])
def nearB (s : ByteArray) : Bool := starB s && decide ((partsB s).length < 4)
include hm in
theorem isNear (s : ByteArray) (h : s.size ≤ 1048576) : Holds Tryz.prog 69 [.v (.string s)] [] (.v (.bool (nearB s))) [] := by
 have hs2 : ((starP.size : Nat) : Int) = 2 := rfl
 have t0 : Int.toNat 0 = 0 := rfl
 have t2 : Int.toNat 2 = 2 := rfl
 have c1 : Holds Tryz.prog 143 [.v (.string s), .v (.string starP)] [] (.v (.bool (starB s))) [] := by
  refine holds_of (ann := []) tabOk hm Tryz.func143 (by kernel_rfl) rfl ?_
  simp +decide only [Tryz.f143, hs2, go_sem]
  cases h2 : decide ((s.size : Int) ≥ 2)
  ·have e2 : decide (s.size ≥ 2) = false := by simp at h2; simp; omega
   simp +decide only [go_sem]
   exact Runs.ret_eq (by rw [starB, e2, Bool.false_and])
  ·have e2 : decide (s.size ≥ 2) = true := by simp at h2; simp; omega
   have b1 : decide ((0 : Int) ≤ 0 ∧ (0 : Int) ≤ 2 ∧ (2 : Int) ≤ s.size) = true := by simp at h2; simp; omega
   have b3 : decide ((2 : Int) ≤ s.size) = true := by simp at h2; simp; omega
   simp +decide (disch := first | omega | (simp only [ll]; omega)) only [hs2, b1, b3, t0, t2, if_pos, go_sem]
   exact Runs.ret_eq (by rw [starB, e2, Bool.true_and])
 have c2 : Holds Tryz.prog 109 [.v (.string s), .v (.string starP)] [] (.v (.bool (starB s))) [] := by
  refine holds_of (ann := []) tabOk hm Tryz.func109 (by kernel_rfl) rfl ?_
  simp +decide only [Tryz.f109, go_sem]
  refine Runs.call c1 ?_
  simp +decide only [go_sem]
  exact Runs.ret_v
 rw [starP] at c2
 have hc := countH s 46
 have hl := partsB_len s
 have e0 : (Lib.countByte s.data.toList 46 : Int) = ((partsB s).length : Int) - 1 := by rw [hl, Lib.countByte]; omega
 refine holds_of (ann := []) tabOk hm Tryz.func69 (by kernel_rfl) rfl ?_
 simp +decide only [Tryz.f69, go_sem]
 refine Runs.call c2 ?_
 cases h2 : starB s
 ·simp +decide only [go_sem]
  exact Runs.ret_eq (by rw [nearB, h2, Bool.false_and])
 ·simp +decide only [go_sem]
  refine Runs.call hc ?_
  simp +decide only [go_sem]
  refine Runs.ret_eq ?_
  rw [nearB, h2, Bool.true_and, e0]
  congr 2
  rw [decide_eq_decide]
  omega
theorem nodup_take {α : Type} {L : List α} {i : Nat} (h : i < L.length) (h1 : (L.take i).Nodup) (h2 : ∀ c ∈ L.take i, c ≠ L[i]) : (L.take (i + 1)).Nodup := by
 rw [List.take_succ_eq_append_getElem h, List.nodup_append]
 refine ⟨h1, by simp, fun a ha b hb => ?_⟩
 simp only [List.mem_cons, List.not_mem_nil, or_false] at hb
 subst hb
 exact h2 a ha
theorem ne_take {α : Type} {L : List α} {x : α} {k : Nat} (h : k < L.length) (h1 : ∀ c ∈ L.take k, c ≠ x) (h2 : L[k] ≠ x) : ∀ c ∈ L.take (k + 1), c ≠ x := by
 intro c hc
 rw [List.take_succ_eq_append_getElem h, List.mem_append] at hc
 rcases hc with hc | hc
 ·exact h1 c hc
 ·simp only [List.mem_cons, List.not_mem_nil, or_false] at hc; subst hc; exact h2
theorem not_nodup {α : Type} {L : List α} {i k : Nat} (h : i < L.length) (hk : k < i) (e : L[k] = L[i]) : ¬ L.Nodup := by
 intro hn
 have := (List.nodup_iff_pairwise_ne.1 hn)
 rw [List.pairwise_iff_getElem] at this
 exact this k i (by omega) h hk e
end Go.Proofs.W

namespace Go.Proofs.W
open Go Go.AM
set_option maxRecDepth 10000
variable (hm : Tryz.prog.follows .mixedOrders = true)
include hm in
theorem broken1 (a b : ByteArray) : Holds Tryz.prog 71 [.v (.string a), .v (.string b)] [] (.v (.bool (decide (a = b)))) [] := by
 refine holds_of (ann := []) tabOk hm Tryz.func71 (by kernel_rfl) rfl ?_
 simp +decide only [Tryz.f71, go_sem]
 exact Runs.ret_eq (by rw [str_eq])
def itsAnn : Ann := [(0, [0, 1, 9, 10, 11]), (2, [0, 1, 6, 9, 10, 11, 18, 19, 20])]
def itsSt0 (L : List ByteArray) (g : A) (i : Nat) : St := ⟨[.sl .sh (L.map strA), g, .any, .any, .any, .any, .any, .any, .any, .sl .sh (L.map strA), .v (.int .i64 L.length), .v (.int .i64 i), .any, .any, .any, .any, .any, .any, .any, .any, .any, .any, .any, .any, .any, .any, .any, .any, .any, .any], [], []⟩
def itsSt2 (L : List ByteArray) (g x : A) (i k : Nat) : St := ⟨[.sl .sh (L.map strA), g, .any, .any, .any, .any, x, .any, .any, .sl .sh (L.map strA), .v (.int .i64 L.length), .v (.int .i64 i), .any, .any, .any, .any, .any, .any, .sl .sh ((L.take i).map strA), .v (.int .i64 i), .v (.int .i64 k), .any, .any, .any, .any, .any, .any, .any, .any, .any], [], []⟩
set_option maxHeartbeats 1000000 in
include hm in
theorem isTwiceS (L : List ByteArray) (h : L.length ≤ 1048576) : Holds Tryz.prog 70 [.sl .sh (L.map strA), .v (.func (.func 71) #[] #[])] [] (.v (.bool (decide (¬ L.Nodup)))) [] := by
 refine holds_of (ann := itsAnn) tabOk hm Tryz.func70 (by kernel_rfl) rfl ?_
 simp +decide only [Tryz.f70, go_sem]
 refine Runs.while (α := Nat) (itsSt0 L (.v (.func (.func 71) #[] #[]))) (fun i => L.length - i) (fun i => i ≤ L.length ∧ (L.take i).Nodup) 0 ⟨by omega, by simp⟩ ?_ ?_
 ·simp [go_sem, itsAnn, itsSt0]
 ·rintro i ⟨hi, hn⟩ ih
  simp +decide only [itsSt0, go_sem]
  refine Runs.split (fun h => ?_) (fun h => ?_)
  ·have hlt : i < L.length := by simpa using h
   have hg : (L.map strA).getD i .any = strA L[i] := by simp [List.getD, hlt]
   have d1 : decide (0 ≤ (i : Int) ∧ (i : Int) < L.length) = true := by simp; omega
   have d2 : decide (0 ≤ (i : Int) ∧ (i : Int) ≤ L.length ∧ (i : Int) ≤ (i : Int) ∧ (i : Int) ≤ L.length) = true := by simp; omega
   have hall : ((L.map strA).all fun a => a.cells.length == 1) = true := by simp [strA, A.cells]
   have w1 : IntKind.i64.wrap ((i : Int) + 1) = i + 1 := wrap_i64 (by omega) (by omega)
   have t0 : Int.toNat 0 = 0 := rfl
   have hT : List.drop 0 (List.take i (L.map strA)) = (L.take i).map strA := by rw [List.map_take]; rfl
   have hTl : ((L.take i).map strA).length = i := by simp; omega
   simp only [strA] at hg
   simp +decide only [d1, d2, Int.toNat_natCast, hg, List.length_map, t0, hT, hTl, hall, go_sem]
   refine Runs.while (α := Nat) (itsSt2 L (.v (.func (.func 71) #[] #[])) (strA L[i]) i) (fun k => i - k) (fun k => k ≤ i ∧ ∀ c ∈ L.take k, c ≠ L[i]) 0 ⟨by omega, by simp⟩ ?_ ?_
   ·simp [go_sem, itsAnn, itsSt2, strA]
   ·rintro k ⟨hk, hka⟩ ihk
    simp +decide only [itsSt2, hTl, strA, go_sem]
    refine Runs.split (fun h => ?_) (fun h => ?_)
    ·have hkt : k < i := by simpa using h
     have hgk : ((L.take i).map strA).getD k .any = strA L[k] := by simp [List.getD, hkt, show k < L.length by omega]
     have d3 : decide (0 ≤ (k : Int) ∧ (k : Int) < i) = true := by simp; omega
     have w2 : IntKind.i64.wrap ((k : Int) + 1) = k + 1 := wrap_i64 (by omega) (by omega)
     simp only [strA] at hgk
     have cc := broken1 hm L[i] L[k]
     simp +decide only [d3, Int.toNat_natCast, hgk, hTl, go_sem]
     refine Runs.call cc ?_
     by_cases e : L[i] = L[k]
     ·have hnn := not_nodup hlt hkt e.symm
      rw [decide_eq_true e]
      simp +decide only [go_sem]
      exact Runs.ret_eq (by simp [hnn])
     ·rw [decide_eq_false e]
      simp +decide only [w2, go_sem]
      refine ihk (k + 1) _ (by omega) ⟨by omega, ne_take (by omega) hka (fun hh => e hh.symm)⟩ ?_
      simp [go_sem, itsAnn, itsSt2, strA]
    ·have hge : k = i := by simp at h; omega
     subst hge
     simp +decide only [w1, go_sem]
     refine ih (k + 1) _ (by omega) ⟨by omega, nodup_take hlt hn hka⟩ ?_
     simp [go_sem, itsAnn, itsSt0]
  ·have hge : i = L.length := by simp at h; omega
   subst hge
   rw [List.take_length] at hn
   simp +decide only [go_sem]
   exact Runs.ret_eq (by simp [hn])
def itiAnn : Ann := [(0, [0, 1, 9, 10, 11]), (2, [0, 1, 6, 9, 10, 11, 18, 19, 20])]
def itiSt0 (L : List (List Int)) (g : A) (i : Nat) : St := ⟨[.sl .sh (L.map rowS), g, .any, .any, .any, .any, .any, .any, .any, .sl .sh (L.map rowS), .v (.int .i64 L.length), .v (.int .i64 i), .any, .any, .any, .any, .any, .any, .any, .any, .any, .any, .any, .any, .any, .any, .any, .any, .any, .any], [], []⟩
def itiSt2 (L : List (List Int)) (g x : A) (i k : Nat) : St := ⟨[.sl .sh (L.map rowS), g, .any, .any, .any, .any, x, .any, .any, .sl .sh (L.map rowS), .v (.int .i64 L.length), .v (.int .i64 i), .any, .any, .any, .any, .any, .any, .sl .sh ((L.take i).map rowS), .v (.int .i64 i), .v (.int .i64 k), .any, .any, .any, .any, .any, .any, .any, .any, .any], [], []⟩
set_option maxHeartbeats 1000000 in
include hm in
theorem isTwiceI (L : List (List Int)) (h : L.length ≤ 1048576) (hz : ∀ r ∈ L, r.length ≤ 1048576) : Holds Tryz.prog 72 [.sl .sh (L.map rowS), .v (.func (.func 73) #[] #[])] [] (.v (.bool (decide (¬ L.Nodup)))) [] := by
 refine holds_of (ann := itiAnn) tabOk hm Tryz.func72 (by kernel_rfl) rfl ?_
 simp +decide only [Tryz.f72, go_sem]
 refine Runs.while (α := Nat) (itiSt0 L (.v (.func (.func 73) #[] #[]))) (fun i => L.length - i) (fun i => i ≤ L.length ∧ (L.take i).Nodup) 0 ⟨by omega, by simp⟩ ?_ ?_
 ·simp [go_sem, itiAnn, itiSt0]
 ·rintro i ⟨hi, hn⟩ ih
  simp +decide only [itiSt0, go_sem]
  refine Runs.split (fun h => ?_) (fun h => ?_)
  ·have hlt : i < L.length := by simpa using h
   have hg : (L.map rowS).getD i .any = rowS L[i] := by simp [List.getD, hlt]
   have d1 : decide (0 ≤ (i : Int) ∧ (i : Int) < L.length) = true := by simp; omega
   have d2 : decide (0 ≤ (i : Int) ∧ (i : Int) ≤ L.length ∧ (i : Int) ≤ (i : Int) ∧ (i : Int) ≤ L.length) = true := by simp; omega
   have hall : ((L.map rowS).all fun a => a.cells.length == 1) = true := by simp [rowS, A.cells]
   have w1 : IntKind.i64.wrap ((i : Int) + 1) = i + 1 := wrap_i64 (by omega) (by omega)
   have t0 : Int.toNat 0 = 0 := rfl
   have hT : List.drop 0 (List.take i (L.map rowS)) = (L.take i).map rowS := by rw [List.map_take]; rfl
   have hTl : ((L.take i).map rowS).length = i := by simp; omega
   simp only [rowS] at hg
   simp +decide only [d1, d2, Int.toNat_natCast, hg, List.length_map, t0, hT, hTl, hall, go_sem]
   refine Runs.while (α := Nat) (itiSt2 L (.v (.func (.func 73) #[] #[])) (rowS L[i]) i) (fun k => i - k) (fun k => k ≤ i ∧ ∀ c ∈ L.take k, c ≠ L[i]) 0 ⟨by omega, by simp⟩ ?_ ?_
   ·simp [go_sem, itiAnn, itiSt2, rowS]
   ·rintro k ⟨hk, hka⟩ ihk
    simp +decide only [itiSt2, hTl, rowS, go_sem]
    refine Runs.split (fun h => ?_) (fun h => ?_)
    ·have hkt : k < i := by simpa using h
     have hgk : ((L.take i).map rowS).getD k .any = rowS L[k] := by simp [List.getD, hkt, show k < L.length by omega]
     have d3 : decide (0 ≤ (k : Int) ∧ (k : Int) < i) = true := by simp; omega
     have w2 : IntKind.i64.wrap ((k : Int) + 1) = k + 1 := wrap_i64 (by omega) (by omega)
     simp only [rowS] at hgk
     have cc := equalInt hm L[i] L[k] (by have := hz L[i] (List.getElem_mem hlt); omega) (by have := hz L[k] (List.getElem_mem (by omega)); omega)
     simp +decide only [d3, Int.toNat_natCast, hgk, hTl, go_sem]
     refine Runs.call cc ?_
     by_cases e : L[i] = L[k]
     ·have hnn := not_nodup hlt hkt e.symm
      rw [decide_eq_true e]
      simp +decide only [go_sem]
      exact Runs.ret_eq (by simp [hnn])
     ·rw [decide_eq_false e]
      simp +decide only [w2, go_sem]
      refine ihk (k + 1) _ (by omega) ⟨by omega, ne_take (by omega) hka (fun hh => e hh.symm)⟩ ?_
      simp [go_sem, itiAnn, itiSt2, rowS]
    ·have hge : k = i := by simp at h; omega
     subst hge
     simp +decide only [w1, go_sem]
     refine ih (k + 1) _ (by omega) ⟨by omega, nodup_take hlt hn hka⟩ ?_
     simp [go_sem, itiAnn, itiSt0]
  ·have hge : i = L.length := by simp at h; omega
   subst hge
   rw [List.take_length] at hn
   simp +decide only [go_sem]
   exact Runs.ret_eq (by simp [hn])
def l4tAnn : Ann := [(0, [1, 3]), (2, [1, 3, 4]), (4, [1, 5]), (6, [1, 5, 6])]
def l4tSt (a : A) (i : Nat) : St := ⟨[.any, .ptr [a] 0 0, .any, .v (.int .i64 i), .any, .any, .any, .any, .any, .any, .any, .any, .any, .any, .any, .any, .any, .any, .any, .any, .any, .any, .any, .any, .any, .any, .any, .any, .any, .any, .any, .any, .any, .any, .any, .any, .any, .any, .any, .any, .any, .any, .any, .any, .any, .any, .any, .any, .any, .any, .any, .any, .any, .any, .any], [], []⟩
def l4tSt2 (a : A) (i k : Nat) : St := ⟨[.any, .ptr [a] 0 0, .any, .v (.int .i64 i), .v (.int .i64 k), .any, .any, .any, .any, .any, .any, .any, .any, .any, .any, .any, .any, .any, .any, .any, .any, .any, .any, .any, .any, .any, .any, .any, .any, .any, .any, .any, .any, .any, .any, .any, .any, .any, .any, .any, .any, .any, .any, .any, .any, .any, .any, .any, .any, .any, .any, .any, .any, .any, .any], [], []⟩
def l4tSt4 (a : A) (i : Nat) : St := ⟨[.any, .ptr [a] 0 0, .any, .any, .any, .v (.int .i64 i), .any, .any, .any, .any, .any, .any, .any, .any, .any, .any, .any, .any, .any, .any, .any, .any, .any, .any, .any, .any, .any, .any, .any, .any, .any, .any, .any, .any, .any, .any, .any, .any, .any, .any, .any, .any, .any, .any, .any, .any, .any, .any, .any, .any, .any, .any, .any, .any, .any], [], []⟩
def l4tSt6 (a : A) (i k : Nat) : St := ⟨[.any, .ptr [a] 0 0, .any, .any, .any, .v (.int .i64 i), .v (.int .i64 k), .any, .any, .any, .any, .any, .any, .any, .any, .any, .any, .any, .any, .any, .any, .any, .any, .any, .any, .any, .any, .any, .any, .any, .any, .any, .any, .any, .any, .any, .any, .any, .any, .any, .any, .any, .any, .any, .any, .any, .any, .any, .any, .any, .any, .any, .any, .any, .any], [], []⟩
def l4tS7 : Sched := .take 0 (.take 2 (.take 5 (.take 7 (.ld 1 (.take 3 (.ld 4 (.ld 6 (.take 8 (.ld 9 (.take 10 .fin))))))))))
def l4tS15 : Sched := .take 0 (.take 2 (.take 6 (.take 8 (.ld 1 (.take 3 (.ld 4 (.ld 7 (.take 9 (.ld 10 (.alt 5 (.alt 11 (.take 12 .fin) .nil) .nil))))))))))
attribute [local go_sem] l4tS7 l4tS15 exS rowS_plain rowS_dn
set_option maxHeartbeats 2000000 in
include hm in
theorem l14Twice (ca : Bool) (path usage : Int) (ho : List ByteArray) (ne : List (List Int)) (al de : List ByteArray) (pu : List Int) (h1 : ho.length ≤ 1048576) (h2 : ne.length ≤ 1048576) (h3 : ∀ a ∈ ne, addrB a = true) :
  Holds Tryz.prog 49 [exS ca path usage ho ne al de pu] [] (.v (.bool (decide (¬ ho.Nodup) || decide (¬ ne.Nodup)))) [] := by
 refine holds_ref (ann := l4tAnn) tabOk hm (byL [] [1000001]) Tryz.func49 (by kernel_rfl) rfl ?_
 simp +decide (maxSteps := 9^7) only [Tryz.f49, go_sem]
 refine Runs.while (α := Nat) (l4tSt (exS ca path usage ho ne al de pu)) (fun i => ho.length - i) (fun i => i ≤ ho.length ∧ (ho.take i).Nodup) 0 ⟨by omega, by simp⟩ ?_ ?_
 ·simp [go_sem, l4tAnn, l4tSt]
 ·rintro i ⟨hi, hn⟩ ih
  simp +decide (maxSteps := 9^7) only [l4tSt, List.length_map, go_sem]
  refine Runs.split (fun h => ?_) (fun h => ?_)
  ·have hlt : i < ho.length := by simpa using h
   have hg : (ho.map strA).getD i .any = .v (.string ho[i]) := by simp [List.getD, hlt, strA]
   have d1 : decide (0 ≤ (i : Int) ∧ (i : Int) < ho.length) = true := by simp; omega
   have w1 : IntKind.i64.wrap ((i : Int) + 1) = i + 1 := wrap_i64 (by omega) (by omega)
   simp +decide (maxSteps := 9^7) only [go_sem]
   refine Runs.while (α := Nat) (l4tSt2 (exS ca path usage ho ne al de pu) i) (fun k => i - k) (fun k => k ≤ i ∧ ∀ c ∈ ho.take k, c ≠ ho[i]) 0 ⟨by omega, by simp⟩ ?_ ?_
   ·simp [go_sem, l4tAnn, l4tSt2]
   ·rintro k ⟨hk, hka⟩ ihk
    simp +decide (maxSteps := 9^7) only [l4tSt2, go_sem]
    refine Runs.split (fun h => ?_) (fun h => ?_)
    ·have hkt : k < i := by simpa using h
     have hgk : (ho.map strA).getD k .any = .v (.string ho[k]) := by simp [List.getD, strA, show k < ho.length by omega]
     have d2 : decide (0 ≤ (k : Int) ∧ (k : Int) < ho.length) = true := by simp; omega
     have w2 : IntKind.i64.wrap ((k : Int) + 1) = k + 1 := wrap_i64 (by omega) (by omega)
     have se := str_eq ho[k] ho[i]
     simp +decide (maxSteps := 9^7) only [go_sem]
     refine Runs.draw (st1 := ?s7) (draws_ref (ann := l4tAnn) tabOk (byL [] [1000001]) l4tS7 (by kernel_rfl) ?p7) ?q7
     case p7 =>
      intro K r X hK
      simp +decide (maxSteps := 9^7) only [d1, d2, Int.toNat_natCast, hg, hgk, List.length_map, se, go_sem]
      exact hK
     case q7 =>
      by_cases e : ho[k] = ho[i]
      ·have hnn := not_nodup hlt hkt e
       simp +decide (maxSteps := 9^7) only [e, go_sem]
       exact Runs.ret_eq (by simp [hnn])
      ·simp +decide (maxSteps := 9^7) only [e, w2, go_sem]
       refine ihk (k + 1) _ (by omega) ⟨by omega, ne_take (by omega) hka e⟩ ?_
       simp [go_sem, l4tAnn, l4tSt2]
    ·have hge : k = i := by simp at h; omega
     subst hge
     simp +decide (maxSteps := 9^7) only [w1, go_sem]
     refine ih (k + 1) _ (by omega) ⟨by omega, nodup_take hlt hn hka⟩ ?_
     simp [go_sem, l4tAnn, l4tSt]
  ·have hge : i = ho.length := by simp at h; omega
   subst hge
   rw [List.take_length] at hn
   have e1 : (decide (¬ ho.Nodup) || decide (¬ ne.Nodup)) = decide (¬ ne.Nodup) := by simp [hn]
   rw [e1]
   simp +decide (maxSteps := 9^7) only [go_sem]
   refine Runs.while (α := Nat) (l4tSt4 (exS ca path usage ho ne al de pu)) (fun i => ne.length - i) (fun i => i ≤ ne.length ∧ (ne.take i).Nodup) 0 ⟨by omega, by simp⟩ ?_ ?_
   ·simp [go_sem, l4tAnn, l4tSt4]
   ·rintro i ⟨hi, hn⟩ ih
    simp +decide (maxSteps := 9^7) only [l4tSt4, List.length_map, go_sem]
    refine Runs.split (fun h => ?_) (fun h => ?_)
    ·have hlt : i < ne.length := by simpa using h
     have hg : (ne.map rowS).getD i .any = .sl .sh (ne[i].map intA) := by simp [List.getD, hlt, rowS]
     have d1 : decide (0 ≤ (i : Int) ∧ (i : Int) < ne.length) = true := by simp; omega
     have w1 : IntKind.i64.wrap ((i : Int) + 1) = i + 1 := wrap_i64 (by omega) (by omega)
     have ai := h3 ne[i] (List.getElem_mem hlt)
     have ci := l8Whole hm ne[i] ai
     simp +decide (maxSteps := 9^7) only [go_sem]
     refine Runs.while (α := Nat) (l4tSt6 (exS ca path usage ho ne al de pu) i) (fun k => i - k) (fun k => k ≤ i ∧ ∀ c ∈ ne.take k, c ≠ ne[i]) 0 ⟨by omega, by simp⟩ ?_ ?_
     ·simp [go_sem, l4tAnn, l4tSt6]
     ·rintro k ⟨hk, hka⟩ ihk
      simp +decide (maxSteps := 9^7) only [l4tSt6, go_sem]
      refine Runs.split (fun h => ?_) (fun h => ?_)
      ·have hkt : k < i := by simpa using h
       have hgk : (ne.map rowS).getD k .any = .sl .sh (ne[k].map intA) := by simp [List.getD, rowS, show k < ne.length by omega]
       have d2 : decide (0 ≤ (k : Int) ∧ (k : Int) < ne.length) = true := by simp; omega
       have w2 : IntKind.i64.wrap ((k : Int) + 1) = k + 1 := wrap_i64 (by omega) (by omega)
       have ak := h3 ne[k] (List.getElem_mem (by omega))
       have ck := l8Whole hm ne[k] ak
       have se : (numV ne[k] == numV ne[i]) = decide (ne[k] = ne[i]) := by rw [int_beq, decide_eq_decide]; exact numV_inj ak ai
       simp +decide (maxSteps := 9^7) only [go_sem]
       refine Runs.draw (st1 := ?s15) (draws_ref (ann := l4tAnn) tabOk (byL [] [1000001]) l4tS15 (by kernel_rfl) ?p15) ?q15
       case p15 =>
        intro K r X hK
        simp +decide (maxSteps := 9^7) only [d1, d2, Int.toNat_natCast, hg, hgk, List.length_map, go_sem]
        repeat' (first
         | apply And.intro
         | exact hK
         | (refine Runs.call ck ?_; simp +decide (maxSteps := 9^7) only [d1, d2, Int.toNat_natCast, hg, hgk, List.length_map, se, go_sem])
         | (refine Runs.call ci ?_; simp +decide (maxSteps := 9^7) only [d1, d2, Int.toNat_natCast, hg, hgk, List.length_map, se, go_sem]))
       case q15 =>
        by_cases e : ne[k] = ne[i]
        ·have hnn := not_nodup hlt hkt e
         simp +decide (maxSteps := 9^7) only [e, se, go_sem]
         exact Runs.ret_eq (by simp [hnn])
        ·simp +decide (maxSteps := 9^7) only [e, se, w2, go_sem]
         refine ihk (k + 1) _ (by omega) ⟨by omega, ne_take (by omega) hka e⟩ ?_
         simp [go_sem, l4tAnn, l4tSt6]
      ·have hge : k = i := by simp at h; omega
       subst hge
       simp +decide (maxSteps := 9^7) only [w1, go_sem]
       refine ih (k + 1) _ (by omega) ⟨by omega, nodup_take hlt hn hka⟩ ?_
       simp [go_sem, l4tAnn, l4tSt4]
    ·have hge : i = ne.length := by simp at h; omega
     subst hge
     rw [List.take_length] at hn
     simp +decide (maxSteps := 9^7) only [go_sem]
     exact Runs.ret_eq (by simp [hn])
end Go.Proofs.W

namespace Go.Proofs.W
open Go Go.AM Go.Proofs.G
variable (hm : Tryz.prog.follows .mixedOrders = true)
attribute [local go_sem] edA prA cvA ptA keyA
theorem bits_pos {N : List Int} (h : inB (bitsZ N) 128 512 = true) : 0 < N.length := by
 rcases Nat.eq_zero_or_pos N.length with h0 | h0
 ·have := inB_t h
  simp [bitsZ, h0] at this
 ·exact h0
theorem curve_n {k : GCv} (h : curveB k = true) : 0 ≤ k.n ∧ k.n ≤ 2097152 := by
 simp only [curveB, Bool.and_eq_true] at h
 obtain ⟨⟨⟨⟨⟨⟨⟨⟨⟨_, _⟩, _⟩, _⟩, _⟩, c6⟩, _⟩, _⟩, _⟩, _⟩ := h
 have := inB_t c6
 omega
theorem curve_p {k : GCv} (h : curveB k = true) : PrimeN k.p.toNat := by
 simp only [curveB, Bool.and_eq_true] at h
 obtain ⟨⟨⟨⟨⟨⟨⟨⟨⟨_, _⟩, c3⟩, _⟩, _⟩, _⟩, _⟩, _⟩, _⟩, _⟩ := h
 exact (primeZ_of c3).2.2
theorem curve_d {k : GCv} (h : curveB k = true) : (4 * (k.a * k.a % k.p) * k.a + 27 * (k.b * k.b % k.p)) % k.p ≠ 0 := by
 simp only [curveB, Bool.and_eq_true] at h
 obtain ⟨⟨⟨⟨⟨⟨⟨⟨⟨_, _⟩, _⟩, _⟩, _⟩, _⟩, _⟩, c8⟩, _⟩, _⟩ := h
 simpa using c8
theorem same_rsa (k : GKey) : keySame k ⟨1, k.N, k.e, cv0, pt0, ed0, pr0⟩ = (decide (k.kind = 1) && (noCurve k && noEd k)) := by
 simp only [keySame, noCurve, noEd, decide_true, Bool.true_and, Bool.and_assoc]
theorem same_curve (k : GKey) : keySame k ⟨2, [], 0, k.cv, k.q, ed0, pr0⟩ = (decide (k.kind = 2) && (noRsa k && noEd k)) := by
 have e1 : eqCv k.cv k.cv = true := by simp [eqCv]
 have e2 : eqPt k.q k.q = true := by simp [eqPt]
 have e3 : decide (k.N = []) = decide (k.N.length = 0) := by simp
 simp only [keySame, noRsa, noEd, e1, e2, e3, Bool.true_and, Bool.and_assoc]
theorem same_ed (k : GKey) : keySame k ⟨3, [], 0, cv0, pt0, k.ed, k.a⟩ = (decide (k.kind = 3) && (noRsa k && noCurve k)) := by
 have e1 : eqEd k.ed k.ed = true := by simp [eqEd]
 have e2 : eqPr k.a k.a = true := by simp [eqPr]
 have e3 : decide (k.N = []) = decide (k.N.length = 0) := by simp
 simp only [keySame, noRsa, noCurve, e1, e2, e3, Bool.and_true, Bool.and_assoc]
set_option maxRecDepth 10000 in
set_option maxHeartbeats 8000000 in
include hm in
theorem sKeyOk (k : GKey) (h3 : k.N.length ≤ 9223372036854775807) : Holds Tryz.prog 43 [keyA k] [] (.v (.bool (keyB k))) [] := by
 refine holds_ref (ann := []) tabOk hm (byL [] [1000001]) Tryz.func43 (by kernel_rfl) rfl ?_
 have n1 := noCurveS hm k
 have n2 := noEdS hm k
 have n3 := noRsaS hm k
 have nN := sNatOk hm k.N h3
 have nP := sPointOk hm k.cv k.q
 have nE := sPairOk hm k.ed k.a
 simp +decide (maxSteps := 9^7) only [Tryz.f43, go_sem]
 refine Runs.split (fun k1 => ?_) (fun k1 => ?_)
 ·have k1' : k.kind = 1 := by simpa using k1
  simp +decide (maxSteps := 9^7) only [go_sem]
  refine Runs.call n1 ?_
  simp +decide (maxSteps := 9^7) only [go_sem]
  refine Runs.split (fun c1 => ?_) (fun c1 => ?_)
  case _ =>
   simp +decide (maxSteps := 9^7) only [go_sem]
   refine Runs.call n2 ?_
   simp +decide (maxSteps := 9^7) only [go_sem]
   refine Runs.split (fun c2 => ?_) (fun c2 => ?_)
   case _ =>
    simp +decide (maxSteps := 9^7) only [go_sem]
    refine Runs.call nN ?_
    simp +decide (maxSteps := 9^7) only [go_sem]
    refine Runs.split (fun c3 => ?_) (fun c3 => ?_)
    case _ =>
     simp +decide (maxSteps := 9^7) only [go_sem]
     refine Runs.call (l1Bits hm k.N c3) ?_
     simp +decide (maxSteps := 9^7) only [go_sem]
     refine Runs.call (l1In hm (bitsZ k.N) 128 512) ?_
     simp +decide (maxSteps := 9^7) only [go_sem]
     refine Runs.split (fun c4 => ?_) (fun c4 => ?_)
     case _ =>
      have hpos := bits_pos c4
      have hlow : lowD k.N = k.N[0] := by simp [lowD, List.getD, hpos]
      have hg := getIntA (N := k.N) (i := 0) hpos
      have hb : decide ((0 : Int) ≤ 0 ∧ (0 : Int) < k.N.length) = true := by simp; omega
      simp +decide (maxSteps := 9^7) (disch := first | omega | (simp only [ll]; omega)) only [hg, hb, if_pos, go_sem]
      refine Runs.split (fun c5 => ?_) (fun c5 => ?_)
      case _ =>
       have c5' : (lowD k.N).tmod 2 = 1 := by rw [hlow]; simpa using c5
       simp +decide (maxSteps := 9^7) only [go_sem]
       refine Runs.call (l1In hm k.e 3 65537) ?_
       simp +decide (maxSteps := 9^7) only [go_sem]
       refine Runs.split (fun c6 => ?_) (fun c6 => ?_)
       case _ =>
        simp +decide (maxSteps := 9^7) only [go_sem]
        exact Runs.ret_eq (by simp [keyB, k1', c1, c2, c3, c4, c5', c6])
       simp +decide (maxSteps := 9^7) only [go_sem]
       exact Runs.ret_eq (by rw [show keyB k = false by simp [keyB, k1', c6]])
      have : ¬ (lowD k.N).tmod 2 = 1 := by rw [hlow]; simpa using c5
      simp +decide (maxSteps := 9^7) only [go_sem]
      exact Runs.ret_eq (by rw [show keyB k = false by simp [keyB, k1', this]])
     simp +decide (maxSteps := 9^7) only [go_sem]
     exact Runs.ret_eq (by rw [show keyB k = false by simp [keyB, k1', c4]])
    simp +decide (maxSteps := 9^7) only [go_sem]
    exact Runs.ret_eq (by rw [show keyB k = false by simp [keyB, k1', c3]])
   simp +decide (maxSteps := 9^7) only [go_sem]
   exact Runs.ret_eq (by rw [show keyB k = false by simp [keyB, k1', c2]])
  simp +decide (maxSteps := 9^7) only [go_sem]
  exact Runs.ret_eq (by rw [show keyB k = false by simp [keyB, k1', c1]])
 ·have k1' : ¬ k.kind = 1 := by simpa using k1
  simp +decide (maxSteps := 9^7) only [go_sem]
  refine Runs.split (fun k2 => ?_) (fun k2 => ?_)
  ·have k2' : k.kind = 2 := by simpa using k2
   simp +decide (maxSteps := 9^7) only [go_sem]
   refine Runs.call n3 ?_
   simp +decide (maxSteps := 9^7) only [go_sem]
   refine Runs.split (fun c1 => ?_) (fun c1 => ?_)
   case _ =>
    simp +decide (maxSteps := 9^7) only [go_sem]
    refine Runs.call n2 ?_
    simp +decide (maxSteps := 9^7) only [go_sem]
    refine Runs.split (fun c2 => ?_) (fun c2 => ?_)
    case _ =>
     simp +decide (maxSteps := 9^7) only [go_sem]
     refine Runs.call nP ?_
     simp +decide (maxSteps := 9^7) only [go_sem]
     refine Runs.split (fun c3 => ?_) (fun c3 => ?_)
     case _ =>
      have c3' : curveB k.cv = true ∧ onZ k.cv.p k.cv.a k.cv.b k.q = true := by simpa using c3
      simp +decide (maxSteps := 9^7) only [go_sem]
      refine Runs.split (fun c4 => ?_) (fun c4 => ?_)
      case _ =>
       have c4' : k.q.far = false := by simpa using c4
       have kin := curve_in c3'.1
       have hp : 0 < k.cv.p := by have := kin.1; omega
       have hn : ((k.cv.n.toNat : Nat) : Int) = k.cv.n := Int.toNat_of_nonneg (curve_n c3'.1).1
       have hM := l3Mul hm k.cv k.cv.n.toNat k.q kin (onZ_in hp c3'.2) (by have := (curve_n c3'.1).2; omega)
       rw [hn] at hM
       simp +decide (maxSteps := 9^7) only [go_sem]
       refine Runs.call hM ?_
       simp +decide (maxSteps := 9^7) only [go_sem]
       exact Runs.ret_eq (by simp [keyB, k2', c1, c2, c3', c4'])
      have c4' : k.q.far = true := by simpa using c4
      simp +decide (maxSteps := 9^7) only [go_sem]
      exact Runs.ret_eq (by rw [show keyB k = false by simp [keyB, k2', c4']])
     have : (curveB k.cv && onZ k.cv.p k.cv.a k.cv.b k.q) = false := c3
     simp +decide (maxSteps := 9^7) only [go_sem]
     exact Runs.ret_eq (by rw [show keyB k = false by simp only [keyB, k2', this]; simp])
    simp +decide (maxSteps := 9^7) only [go_sem]
    exact Runs.ret_eq (by rw [show keyB k = false by simp [keyB, k2', c2]])
   simp +decide (maxSteps := 9^7) only [go_sem]
   exact Runs.ret_eq (by rw [show keyB k = false by simp [keyB, k2', c1]])
  ·have k2' : ¬ k.kind = 2 := by simpa using k2
   simp +decide (maxSteps := 9^7) only [go_sem]
   refine Runs.split (fun k3 => ?_) (fun k3 => ?_)
   ·have k3' : k.kind = 3 := by simpa using k3
    simp +decide (maxSteps := 9^7) only [go_sem]
    refine Runs.call n3 ?_
    simp +decide (maxSteps := 9^7) only [go_sem]
    refine Runs.split (fun c1 => ?_) (fun c1 => ?_)
    case _ =>
     simp +decide (maxSteps := 9^7) only [go_sem]
     refine Runs.call n1 ?_
     simp +decide (maxSteps := 9^7) only [go_sem]
     refine Runs.split (fun c2 => ?_) (fun c2 => ?_)
     case _ =>
      simp +decide (maxSteps := 9^7) only [go_sem]
      refine Runs.call nE ?_
      simp +decide (maxSteps := 9^7) only [go_sem]
      exact Runs.ret_eq (by simp [keyB, k3', c1, c2])
     simp +decide (maxSteps := 9^7) only [go_sem]
     exact Runs.ret_eq (by rw [show keyB k = false by simp [keyB, k3', c2]])
    simp +decide (maxSteps := 9^7) only [go_sem]
    exact Runs.ret_eq (by rw [show keyB k = false by simp [keyB, k3', c1]])
   ·have k3' : ¬ k.kind = 3 := by simpa using k3
    simp +decide (maxSteps := 9^7) only [go_sem]
    exact Runs.ret_eq (by simp [keyB, k1', k2', k3'])
set_option maxRecDepth 10000 in
set_option maxHeartbeats 8000000 in
include hm in
theorem iKeyOk (k : GKey) (h3 : k.N.length ≤ 9223372036854775807) : Holds Tryz.prog 65 [keyA k] [] (.v (.bool (keyB k))) [] := by
 refine holds_ref (ann := []) tabOk hm (byL [] [1000001]) Tryz.func65 (by kernel_rfl) rfl ?_
 have s1 := sameK hm k ⟨1, k.N, k.e, cv0, pt0, ed0, pr0⟩ h3 h3
 have s2 := sameK hm k ⟨2, [], 0, k.cv, k.q, ed0, pr0⟩ h3 (by simp)
 have s3 := sameK hm k ⟨3, [], 0, cv0, pt0, k.ed, k.a⟩ h3 (by simp)
 rw [same_rsa] at s1
 rw [same_curve] at s2
 rw [same_ed] at s3
 have nN := iNatOk hm k.N h3
 have nP := iPointOk hm k.cv k.q
 have nE := iPairOk hm k.ed k.a
 simp +decide (maxSteps := 9^7) only [Tryz.f65, go_sem]
 refine Runs.split (fun k1 => ?_) (fun k1 => ?_)
 ·have k1' : k.kind = 1 := by simpa using k1
  simp only [k1', decide_true, Bool.true_and] at s1
  simp +decide (maxSteps := 9^7) only [go_sem]
  refine Runs.call (Holds.le s1 (by simp only [keyA, k1', cv0, pt0, ed0, pr0, List.map_nil]; exact LeD.refl _)) ?_
  simp +decide (maxSteps := 9^7) only [go_sem]
  refine Runs.split (fun c1 => ?_) (fun c1 => ?_)
  case _ =>
   have : (noCurve k && noEd k) = false := by first | exact c1 | (rw [Bool.not_eq_true'] at c1; exact c1)
   simp +decide (maxSteps := 9^7) only [go_sem]
   exact Runs.ret_eq (by rw [show keyB k = false by (have t := this; simp only [Bool.and_eq_false_iff] at t; rcases t with t | t <;> simp [keyB, k1', t])])
  have c1' : noCurve k = true ∧ noEd k = true := by simpa using c1
  simp +decide (maxSteps := 9^7) only [go_sem]
  refine Runs.call nN ?_
  simp +decide (maxSteps := 9^7) only [go_sem]
  refine Runs.split (fun c3 => ?_) (fun c3 => ?_)
  case _ =>
   have c3' : natB k.N = false := by simpa using c3
   simp +decide (maxSteps := 9^7) only [go_sem]
   exact Runs.ret_eq (by rw [show keyB k = false by simp [keyB, k1', c3']])
  have c3' : natB k.N = true := by simpa using c3
  simp +decide (maxSteps := 9^7) only [go_sem]
  refine Runs.call (natBits hm k.N c3') ?_
  simp +decide (maxSteps := 9^7) only [go_sem]
  refine Runs.call (within hm (bitsZ k.N) 128 512) ?_
  simp +decide (maxSteps := 9^7) only [go_sem]
  refine Runs.split (fun c4 => ?_) (fun c4 => ?_)
  case _ =>
   have c4' : inB (bitsZ k.N) 128 512 = false := by simpa using c4
   simp +decide (maxSteps := 9^7) only [go_sem]
   exact Runs.ret_eq (by rw [show keyB k = false by simp [keyB, k1', c4']])
  have c4' : inB (bitsZ k.N) 128 512 = true := by simpa using c4
  have hpos := bits_pos c4'
  have hlow : lowD k.N = k.N[0] := by simp [lowD, List.getD, hpos]
  have hg := getIntA (N := k.N) (i := 0) hpos
  have hb : decide ((0 : Int) ≤ 0 ∧ (0 : Int) < k.N.length) = true := by simp; omega
  simp +decide (maxSteps := 9^7) (disch := first | omega | (simp only [ll]; omega)) only [hg, hb, if_pos, go_sem]
  refine Runs.split (fun c5 => ?_) (fun c5 => ?_)
  case _ =>
   have c5' : (lowD k.N).tmod 2 = 1 := by rw [hlow]; simpa using c5
   simp +decide (maxSteps := 9^7) only [go_sem]
   refine Runs.call (within hm k.e 3 65537) ?_
   simp +decide (maxSteps := 9^7) only [go_sem]
   refine Runs.split (fun c6 => ?_) (fun c6 => ?_)
   case _ =>
    simp +decide (maxSteps := 9^7) only [go_sem]
    exact Runs.ret_eq (by simp [keyB, k1', c1', c3', c4', c5', c6])
   simp +decide (maxSteps := 9^7) only [go_sem]
   exact Runs.ret_eq (by rw [show keyB k = false by simp [keyB, k1', c6]])
  have : ¬ (lowD k.N).tmod 2 = 1 := by rw [hlow]; simpa using c5
  simp +decide (maxSteps := 9^7) only [go_sem]
  exact Runs.ret_eq (by rw [show keyB k = false by simp [keyB, k1', this]])
 ·have k1' : ¬ k.kind = 1 := by simpa using k1
  simp +decide (maxSteps := 9^7) only [go_sem]
  refine Runs.split (fun k2 => ?_) (fun k2 => ?_)
  ·have k2' : k.kind = 2 := by simpa using k2
   simp only [k2', decide_true, Bool.true_and] at s2
   simp +decide (maxSteps := 9^7) only [go_sem]
   refine Runs.call (Holds.le s2 (by simp only [keyA, k2', cv0, pt0, ed0, pr0, List.map_nil]; exact .same _ (.agg (.same _ (.nils _ (LeD.refl _))) .nil))) ?_
   simp +decide (maxSteps := 9^7) only [go_sem]
   refine Runs.split (fun c1 => ?_) (fun c1 => ?_)
   case _ =>
    have c1' : noRsa k = true ∧ noEd k = true := by simpa using c1
    simp +decide (maxSteps := 9^7) only [go_sem]
    refine Runs.call nP ?_
    simp +decide (maxSteps := 9^7) only [go_sem]
    refine Runs.split (fun c3 => ?_) (fun c3 => ?_)
    case _ =>
     have c3' : curveB k.cv = true ∧ onZ k.cv.p k.cv.a k.cv.b k.q = true := by simpa using c3
     simp +decide (maxSteps := 9^7) only [go_sem]
     refine Runs.split (fun c4 => ?_) (fun c4 => ?_)
     case _ =>
      have c4' : k.q.far = false := by simpa using c4
      have kin := curve_in c3'.1
      have hp : 0 < k.cv.p := by have := kin.1; omega
      have hn : ((k.cv.n.toNat : Nat) : Int) = k.cv.n := Int.toNat_of_nonneg (curve_n c3'.1).1
      have hM := timesC hm k.cv k.cv.n.toNat k.q kin (onZ_in hp c3'.2) (by have := (curve_n c3'.1).2; omega)
      rw [hn, times_same (by have := kin.1; omega) (curve_p c3'.1) (curve_d c3'.1) c3'.2 k.cv.n.toNat] at hM
      simp +decide (maxSteps := 9^7) only [go_sem]
      refine Runs.call hM ?_
      simp +decide (maxSteps := 9^7) only [go_sem]
      exact Runs.ret_eq (by simp [keyB, k2', c1', c3', c4'])
     have c4' : k.q.far = true := by simpa using c4
     simp +decide (maxSteps := 9^7) only [go_sem]
     exact Runs.ret_eq (by rw [show keyB k = false by simp [keyB, k2', c4']])
    have : (curveB k.cv && onZ k.cv.p k.cv.a k.cv.b k.q) = false := c3
    simp +decide (maxSteps := 9^7) only [go_sem]
    exact Runs.ret_eq (by rw [show keyB k = false by simp only [keyB, k2', this]; simp])
   have : (noRsa k && noEd k) = false := by first | exact c1 | (rw [Bool.not_eq_true'] at c1; exact c1)
   simp +decide (maxSteps := 9^7) only [go_sem]
   exact Runs.ret_eq (by rw [show keyB k = false by (have t := this; simp only [Bool.and_eq_false_iff] at t; rcases t with t | t <;> simp [keyB, k2', t])])
  ·have k2' : ¬ k.kind = 2 := by simpa using k2
   simp +decide (maxSteps := 9^7) only [go_sem]
   refine Runs.split (fun k3 => ?_) (fun k3 => ?_)
   ·have k3' : k.kind = 3 := by simpa using k3
    simp only [k3', decide_true, Bool.true_and] at s3
    simp +decide (maxSteps := 9^7) only [go_sem]
    refine Runs.call (Holds.le s3 (by simp only [keyA, k3', cv0, pt0, ed0, pr0, List.map_nil]; exact .same _ (.agg (.same _ (.nils _ (LeD.refl _))) .nil))) ?_
    simp +decide (maxSteps := 9^7) only [go_sem]
    refine Runs.split (fun c1 => ?_) (fun c1 => ?_)
    case _ =>
     have c1' : noRsa k = true ∧ noCurve k = true := by simpa using c1
     simp +decide (maxSteps := 9^7) only [go_sem]
     refine Runs.call nE ?_
     simp +decide (maxSteps := 9^7) only [go_sem]
     exact Runs.ret_eq (by simp [keyB, k3', c1'])
    have : (noRsa k && noCurve k) = false := by first | exact c1 | (rw [Bool.not_eq_true'] at c1; exact c1)
    simp +decide (maxSteps := 9^7) only [go_sem]
    exact Runs.ret_eq (by rw [show keyB k = false by (have t := this; simp only [Bool.and_eq_false_iff] at t; rcases t with t | t <;> simp [keyB, k3', t])])
   ·have k3' : ¬ k.kind = 3 := by simpa using k3
    simp +decide (maxSteps := 9^7) only [go_sem]
    exact Runs.ret_eq (by simp [keyB, k1', k2', k3'])
end Go.Proofs.W

namespace Go.Proofs.W
open Go Go.AM Go.Proofs.G
set_option maxRecDepth 10000
variable (hm : Tryz.prog.follows .mixedOrders = true)
attribute [local go_sem] edA prA cvA ptA keyA
def keyO (k : GKey) : A := .agg [.v (.int .i64 k.kind), .sl (.ow 1) (k.N.map intA), .v (.int .i64 k.e), .v (.int .i64 k.cv.p), .v (.int .i64 k.cv.a), .v (.int .i64 k.cv.b), .v (.int .i64 k.cv.n), .v (.int .i64 k.cv.gx), .v (.int .i64 k.cv.gy),
 .v (.int .i64 k.q.x), .v (.int .i64 k.q.y), .v (.bool k.q.far), .v (.int .i64 k.ed.p), .v (.int .i64 k.ed.d), .v (.int .i64 k.ed.l), .v (.int .i64 k.ed.bx), .v (.int .i64 k.ed.by'), .v (.int .i64 k.a.1), .v (.int .i64 k.a.2)]
attribute [local go_sem] keyO
include hm in
theorem toCurve (k : GCv) : Holds Tryz.prog 55 [cvA k] [] (cvA k) [] := by
 refine holds_ref (ann := []) tabOk hm (byL [] [1000001]) Tryz.func55 (by kernel_rfl) rfl ?_
 simp +decide only [Tryz.f55, go_sem]
 exact Runs.ret_refl
include hm in
theorem eqLCurve (k : GCv) : Holds Tryz.prog 79 [cvA k, cvA k] [] (.v (.bool true)) [] := by
 refine holds_ref (ann := []) tabOk hm (byL [] [1000002, 1000003]) Tryz.func79 (by kernel_rfl) rfl ?_
 simp +decide only [Tryz.f79, go_sem]
 exact Runs.ret_v
include hm in
theorem toPoint (k : GPt) : Holds Tryz.prog 56 [ptA k] [] (ptA k) [] := by
 refine holds_ref (ann := []) tabOk hm (byL [] [1000001]) Tryz.func56 (by kernel_rfl) rfl ?_
 simp +decide only [Tryz.f56, go_sem]
 exact Runs.ret_refl
include hm in
theorem eqLPoint (k : GPt) : Holds Tryz.prog 80 [ptA k, ptA k] [] (.v (.bool true)) [] := by
 refine holds_ref (ann := []) tabOk hm (byL [] [1000002, 1000003]) Tryz.func80 (by kernel_rfl) rfl ?_
 simp +decide only [Tryz.f80, go_sem]
 exact Runs.ret_v
include hm in
theorem toEd (k : GEd) : Holds Tryz.prog 57 [edA k] [] (edA k) [] := by
 refine holds_ref (ann := []) tabOk hm (byL [] [1000001]) Tryz.func57 (by kernel_rfl) rfl ?_
 simp +decide only [Tryz.f57, go_sem]
 exact Runs.ret_refl
include hm in
theorem eqLEd (k : GEd) : Holds Tryz.prog 81 [edA k, edA k] [] (.v (.bool true)) [] := by
 refine holds_ref (ann := []) tabOk hm (byL [] [1000002, 1000003]) Tryz.func81 (by kernel_rfl) rfl ?_
 simp +decide only [Tryz.f81, go_sem]
 exact Runs.ret_v
include hm in
theorem toPair (k : GPr) : Holds Tryz.prog 58 [prA k] [] (prA k) [] := by
 refine holds_ref (ann := []) tabOk hm (byL [] [1000001]) Tryz.func58 (by kernel_rfl) rfl ?_
 simp +decide only [Tryz.f58, go_sem]
 exact Runs.ret_refl
include hm in
theorem eqLPair (k : GPr) : Holds Tryz.prog 82 [prA k, prA k] [] (.v (.bool true)) [] := by
 refine holds_ref (ann := []) tabOk hm (byL [] [1000002, 1000003]) Tryz.func82 (by kernel_rfl) rfl ?_
 simp +decide only [Tryz.f82, go_sem]
 exact Runs.ret_v
include hm in
theorem szKey (k : GKey) (left : Int) (l1 : 0 ≤ left) (l2 : left ≤ 1048576) (h3 : k.N.length ≤ 9223372036854775807) : Holds Tryz.prog 22 [keyA k, .v (.int .i64 left)] [] (.v (.int .i64 (szI k.N.length left))) [] := by
 refine holds_ref (ann := []) tabOk hm (byL [] [1000002]) Tryz.func22 (by kernel_rfl) rfl ?_
 simp +decide only [Tryz.f22, go_sem]
 refine Runs.call (szIntS hm (k.N.map intA) left l1 l2 (by simpa using h3)) ?_
 simp +decide only [List.length_map, go_sem]
 have b := szI_le k.N.length left l1
 refine Runs.split (fun e => ?_) (fun e => ?_)
 ·simp only [decide_eq_true_eq] at e
  have e3 : szI k.N.length left = -1 := by omega
  simp +decide only [e3, go_sem]
  exact Runs.ret_v
 ·simp +decide only [go_sem]
  exact Runs.ret_v
set_option maxHeartbeats 4000000 in
include hm in
theorem toKey (k : GKey) (h3 : k.N.length ≤ 1048576) : Holds Tryz.prog 28 [keyA k] [] (keyO k) [] := by
 refine holds_ref (ann := []) tabOk hm (byL [] [1000001]) Tryz.func28 (by kernel_rfl) rfl ?_
 have c1 := toCurve hm k.cv
 have c2 := toPoint hm k.q
 have c3 := toEd hm k.ed
 have c4 := toPair hm k.a
 simp only [cvA, ptA, edA, prA] at c1 c2 c3 c4
 simp +decide only [Tryz.f28, go_sem]
 refine Runs.call (toIntS hm k.N h3) ?_
 simp +decide only [go_sem]
 refine Runs.call c1 ?_
 simp +decide only [go_sem]
 refine Runs.call c2 ?_
 simp +decide only [go_sem]
 refine Runs.call c3 ?_
 simp +decide only [go_sem]
 refine Runs.call c4 ?_
 simp +decide only [go_sem]
 exact Runs.ret_refl
set_option maxHeartbeats 4000000 in
include hm in
theorem eqKey (k : GKey) (h3 : k.N.length ≤ 1048576) : Holds Tryz.prog 34 [keyA k, keyA k] [] (.v (.bool true)) [] := by
 refine holds_ref (ann := []) tabOk hm (byL [] [1000002, 1000003]) Tryz.func34 (by kernel_rfl) rfl ?_
 have c1 := eqLCurve hm k.cv
 have c2 := eqLPoint hm k.q
 have c3 := eqLEd hm k.ed
 have c4 := eqLPair hm k.a
 simp only [cvA, ptA, edA, prA] at c1 c2 c3 c4
 simp +decide only [Tryz.f34, go_sem]
 refine Runs.call (eqIntS hm k.N (by omega)) ?_
 simp +decide only [go_sem]
 refine Runs.call c1 ?_
 simp +decide only [go_sem]
 refine Runs.call c2 ?_
 simp +decide only [go_sem]
 refine Runs.call c3 ?_
 simp +decide only [go_sem]
 refine Runs.call c4 ?_
 simp +decide only [go_sem]
 exact Runs.ret_v
end Go.Proofs.W

namespace Go.Proofs.W
open Go Go.AM Go.Proofs.G
set_option maxRecDepth 10000
variable (hm : Tryz.prog.follows .mixedOrders = true)
attribute [local go_sem] keyA keyO exS exO rowS_plain rowS_dn rowO_dn
structure GCert where
 serial : Int
 issuer : List ByteArray
 subject : List ByteArray
 from' : Int
 tu : Int
 key : GKey
 alg : Int
 ca : Bool
 path : Int
 usage : Int
 ho : List ByteArray
 ne : List (List Int)
 al : List ByteArray
 de : List ByteArray
 pu : List Int
 sig : List Int
def certA (c : GCert) : A := .agg [.v (.int .i64 c.serial), .sl .sh (c.issuer.map strA), .sl .sh (c.subject.map strA), .v (.int .i64 c.from'), .v (.int .i64 c.tu), .v (.int .i64 c.key.kind), .sl .sh (c.key.N.map intA), .v (.int .i64 c.key.e), .v (.int .i64 c.key.cv.p), .v (.int .i64 c.key.cv.a), .v (.int .i64 c.key.cv.b), .v (.int .i64 c.key.cv.n), .v (.int .i64 c.key.cv.gx), .v (.int .i64 c.key.cv.gy), .v (.int .i64 c.key.q.x), .v (.int .i64 c.key.q.y), .v (.bool c.key.q.far), .v (.int .i64 c.key.ed.p), .v (.int .i64 c.key.ed.d), .v (.int .i64 c.key.ed.l), .v (.int .i64 c.key.ed.bx), .v (.int .i64 c.key.ed.by'), .v (.int .i64 c.key.a.1), .v (.int .i64 c.key.a.2), .v (.int .i64 c.alg), .v (.bool c.ca), .v (.int .i64 c.path), .v (.int .i64 c.usage), .sl .sh (c.ho.map strA), .sl .sh (c.ne.map rowS), .sl .sh (c.al.map strA), .sl .sh (c.de.map strA), .sl .sh (c.pu.map intA), .sl .sh (c.sig.map u8A)]
def certO (c : GCert) : A := .agg [.v (.int .i64 c.serial), .sl (.ow 1) (c.issuer.map strA), .sl (.ow 1) (c.subject.map strA), .v (.int .i64 c.from'), .v (.int .i64 c.tu), .v (.int .i64 c.key.kind), .sl (.ow 1) (c.key.N.map intA), .v (.int .i64 c.key.e), .v (.int .i64 c.key.cv.p), .v (.int .i64 c.key.cv.a), .v (.int .i64 c.key.cv.b), .v (.int .i64 c.key.cv.n), .v (.int .i64 c.key.cv.gx), .v (.int .i64 c.key.cv.gy), .v (.int .i64 c.key.q.x), .v (.int .i64 c.key.q.y), .v (.bool c.key.q.far), .v (.int .i64 c.key.ed.p), .v (.int .i64 c.key.ed.d), .v (.int .i64 c.key.ed.l), .v (.int .i64 c.key.ed.bx), .v (.int .i64 c.key.ed.by'), .v (.int .i64 c.key.a.1), .v (.int .i64 c.key.a.2), .v (.int .i64 c.alg), .v (.bool c.ca), .v (.int .i64 c.path), .v (.int .i64 c.usage), .sl (.ow 1) (c.ho.map strA), .sl (.ow 1) (c.ne.map rowO), .sl (.ow 1) (c.al.map strA), .sl (.ow 1) (c.de.map strA), .sl (.ow 1) (c.pu.map intA), .sl (.ow 1) (c.sig.map u8A)]
attribute [local go_sem] certA certO
noncomputable def certB (c : GCert) : Bool := inB c.serial 1 1000000000000000 && nameOk c.issuer && nameOk c.subject && inB c.from' (-631152000) 4102444799 && inB c.tu (-631152000) 4102444799 && decide (c.from' ≤ c.tu) && keyB c.key && inB c.alg 1 4 && exB c.ca c.path c.usage c.ho c.ne c.al c.de c.pu && inB c.sig.length 1 64
def CertIn (c : GCert) : Prop :=
 (c.issuer.length ≤ 9223372036854775807 ∧ ∀ s ∈ c.issuer, s.size ≤ 9223372036854775807) ∧ (c.subject.length ≤ 9223372036854775807 ∧ ∀ s ∈ c.subject, s.size ≤ 9223372036854775807) ∧ c.key.N.length ≤ 9223372036854775807 ∧
 (c.ho.length ≤ 9223372036854775807 ∧ ∀ s ∈ c.ho, s.size ≤ 9223372036854775807) ∧ (c.ne.length ≤ 9223372036854775807 ∧ ∀ s ∈ c.ne, s.length ≤ 9223372036854775807) ∧ (c.al.length ≤ 9223372036854775807 ∧ ∀ s ∈ c.al, s.size ≤ 9223372036854775807) ∧
 (c.de.length ≤ 9223372036854775807 ∧ ∀ s ∈ c.de, s.size ≤ 9223372036854775807) ∧ c.pu.length ≤ 9223372036854775807 ∧ c.sig.length ≤ 9223372036854775807
def CertFit (c : GCert) : Prop :=
 (c.issuer.length ≤ 1048576 ∧ ∀ s ∈ c.issuer, s.size ≤ 1048576) ∧ (c.subject.length ≤ 1048576 ∧ ∀ s ∈ c.subject, s.size ≤ 1048576) ∧ c.key.N.length ≤ 1048576 ∧ ExFit c.ho c.ne c.al c.de c.pu ∧
 (∀ s ∈ c.ho, s.size ≤ 1048576) ∧ (∀ s ∈ c.al, s.size ≤ 1048576) ∧ (∀ s ∈ c.de, s.size ≤ 1048576) ∧ c.sig.length ≤ 1048576
theorem szGo_sz (L : List ByteArray) (l : Int) (h : 0 ≤ l) (h2 : 0 ≤ szGo L l) : ∀ s ∈ L, (s.size : Int) ≤ l := by
 induction L generalizing l with
 | nil => simp
 | cons a r ih =>
  simp only [szGo] at h2
  split at h2
  ·omega
  ·intro s hs
   rcases List.mem_cons.mp hs with e | e
   ·subst e; omega
   ·have := ih (l - a.size) (by omega) h2 s e; omega
theorem szS_sz (L : List ByteArray) (l : Int) (h : 0 ≤ l) (hl : l ≤ 1048576) (h2 : ¬ szS L l < 0) : ∀ s ∈ L, s.size ≤ 1048576 := by
 unfold szS at h2
 split at h2
 ·exact absurd (by omega) h2
 ·intro s hs
  have := szGo_sz L (l - L.length) (by omega) (by omega) s hs
  omega
theorem szExV_sz (ho : List ByteArray) (ne : List (List Int)) (al de : List ByteArray) (pu : List Int) (left : Int) (h : 0 ≤ left) (h2 : left ≤ 1048576) (h3 : ¬ szExV ho ne al de pu left < 0) :
  (∀ s ∈ ho, s.size ≤ 1048576) ∧ (∀ s ∈ al, s.size ≤ 1048576) ∧ (∀ s ∈ de, s.size ≤ 1048576) := by
 have b1 := szS_le ho left h
 unfold szExV at h3
 split at h3
 ·omega
 rename_i e1
 have b2 := szSS_le ne (szS ho left) (by omega)
 split at h3
 ·omega
 rename_i e2
 have b3 := szS_le al (szSS ne (szS ho left)) (by omega)
 split at h3
 ·omega
 rename_i e3
 split at h3
 ·omega
 rename_i e4
 exact ⟨szS_sz ho left h h2 e1, szS_sz al _ (by omega) (by omega) e3, szS_sz de _ (by omega) (by omega) e4⟩
def szCertV (c : GCert) (left : Int) : Int :=
 if szS c.issuer left < 0 then -1 else if szS c.subject (szS c.issuer left) < 0 then -1 else if szI c.key.N.length (szS c.subject (szS c.issuer left)) < 0 then -1 else
 if szExV c.ho c.ne c.al c.de c.pu (szI c.key.N.length (szS c.subject (szS c.issuer left))) < 0 then -1 else szI c.sig.length (szExV c.ho c.ne c.al c.de c.pu (szI c.key.N.length (szS c.subject (szS c.issuer left))))
theorem szCertV_fit (c : GCert) (left : Int) (h : 0 ≤ left) (h2 : left ≤ 1048576) (h3 : ¬ szCertV c left < 0) : CertFit c := by
 have b1 := szS_le c.issuer left h
 unfold szCertV at h3
 split at h3
 ·omega
 rename_i e1
 have b2 := szS_le c.subject (szS c.issuer left) (by omega)
 split at h3
 ·omega
 rename_i e2
 have b3 := szI_le c.key.N.length (szS c.subject (szS c.issuer left)) (by omega)
 split at h3
 ·omega
 rename_i e3
 have b4 := szExV_le c.ho c.ne c.al c.de c.pu (szI c.key.N.length (szS c.subject (szS c.issuer left))) (by omega) (by omega)
 split at h3
 ·omega
 rename_i e4
 have k4 := szExV_sz c.ho c.ne c.al c.de c.pu _ (by omega) (by omega) e4
 exact ⟨⟨szS_len _ _ e1 (by omega), szS_sz _ _ (by omega) (by omega) e1⟩, ⟨szS_len _ _ e2 (by omega), szS_sz _ _ (by omega) (by omega) e2⟩, szI_len _ _ e3 (by omega), b4.2.2 e4, k4.1, k4.2.1, k4.2.2, szI_len _ _ h3 (by omega)⟩
set_option maxHeartbeats 4000000 in
include hm in
theorem szCert (c : GCert) (left : Int) (l1 : 0 ≤ left) (l2 : left ≤ 1048576) (h : CertIn c) : Holds Tryz.prog 13 [certA c, .v (.int .i64 left)] [] (.v (.int .i64 (szCertV c left))) [] := by
 obtain ⟨⟨i1, i2⟩, ⟨j1, j2⟩, kn, ⟨o1, o2⟩, ⟨n1, n2⟩, ⟨a1, a2⟩, ⟨d1, d2⟩, p1, g1⟩ := h
 have b1 := szS_le c.issuer left l1
 refine holds_ref (ann := []) tabOk hm (byL [] [1000002]) Tryz.func13 (by kernel_rfl) rfl ?_
 simp +decide only [Tryz.f13, go_sem]
 refine Runs.call (szStringS hm c.issuer left l1 l2 i1 i2) ?_
 simp +decide only [go_sem]
 refine Runs.split (fun e => ?_) (fun e => ?_)
 ·simp only [decide_eq_true_eq] at e
  simp +decide only [szCertV, if_pos e, go_sem]
  exact Runs.ret_v
 simp only [decide_eq_false_iff_not] at e
 have b2 := szS_le c.subject (szS c.issuer left) (by omega)
 simp +decide only [go_sem]
 refine Runs.call (szStringS hm c.subject _ (by omega) (by omega) j1 j2) ?_
 simp +decide only [go_sem]
 refine Runs.split (fun e2 => ?_) (fun e2 => ?_)
 ·simp only [decide_eq_true_eq] at e2
  simp +decide only [szCertV, if_neg e, if_pos e2, go_sem]
  exact Runs.ret_v
 simp only [decide_eq_false_iff_not] at e2
 have b3 := szI_le c.key.N.length (szS c.subject (szS c.issuer left)) (by omega)
 have ck := szKey hm c.key (szS c.subject (szS c.issuer left)) (by omega) (by omega) kn
 rw [keyA] at ck
 simp +decide only [go_sem]
 refine Runs.call ck ?_
 simp +decide only [go_sem]
 refine Runs.split (fun e3 => ?_) (fun e3 => ?_)
 ·simp only [decide_eq_true_eq] at e3
  simp +decide only [szCertV, if_neg e, if_neg e2, if_pos e3, go_sem]
  exact Runs.ret_v
 simp only [decide_eq_false_iff_not] at e3
 have b4 := szExV_le c.ho c.ne c.al c.de c.pu (szI c.key.N.length (szS c.subject (szS c.issuer left))) (by omega) (by omega)
 have cx := szExts hm c.ca c.path c.usage c.ho c.ne c.al c.de c.pu (szI c.key.N.length (szS c.subject (szS c.issuer left))) (by omega) (by omega) o1 o2 n1 n2 a1 a2 d1 d2 p1
 rw [exS] at cx
 simp +decide only [go_sem]
 refine Runs.call cx ?_
 simp +decide only [go_sem]
 refine Runs.split (fun e4 => ?_) (fun e4 => ?_)
 ·simp only [decide_eq_true_eq] at e4
  simp +decide only [szCertV, if_neg e, if_neg e2, if_neg e3, if_pos e4, go_sem]
  exact Runs.ret_v
 simp only [decide_eq_false_iff_not] at e4
 have b5 := szI_le c.sig.length (szExV c.ho c.ne c.al c.de c.pu (szI c.key.N.length (szS c.subject (szS c.issuer left)))) (by omega)
 simp +decide only [go_sem]
 refine Runs.call (szByteS hm (c.sig.map u8A) _ (by omega) (by omega) (by simpa using g1)) ?_
 simp +decide only [List.length_map, go_sem]
 refine Runs.split (fun e5 => ?_) (fun e5 => ?_)
 ·simp only [decide_eq_true_eq] at e5
  refine Runs.ret_eq ?_ |> fun h => by simp +decide only [go_sem]; exact h
  have e6 : szI c.sig.length (szExV c.ho c.ne c.al c.de c.pu (szI c.key.N.length (szS c.subject (szS c.issuer left)))) = -1 := by omega
  rw [szCertV, if_neg e, if_neg e2, if_neg e3, if_neg e4, e6]
 simp +decide only [szCertV, if_neg e, if_neg e2, if_neg e3, if_neg e4, go_sem]
 exact Runs.ret_v
set_option maxHeartbeats 4000000 in
include hm in
theorem toCert (c : GCert) (h : CertFit c) : Holds Tryz.prog 15 [certA c] [] (certO c) [] := by
 obtain ⟨⟨i1, i2⟩, ⟨j1, j2⟩, kn, hx, s1, s2, s3, g1⟩ := h
 refine holds_ref (ann := []) tabOk hm (byL [] [1000001]) Tryz.func15 (by kernel_rfl) rfl ?_
 have ck := toKey hm c.key kn
 rw [keyA, keyO] at ck
 have cx := toExts hm c.ca c.path c.usage c.ho c.ne c.al c.de c.pu hx
 rw [exS, exO] at cx
 simp +decide only [Tryz.f15, go_sem]
 refine Runs.call (toStringS hm c.issuer i1) ?_
 simp +decide only [go_sem]
 refine Runs.call (toStringS hm c.subject j1) ?_
 simp +decide only [go_sem]
 refine Runs.call ck ?_
 simp +decide only [go_sem]
 refine Runs.call cx ?_
 simp +decide only [go_sem]
 refine Runs.call (toByteS hm c.sig g1) ?_
 simp +decide only [go_sem]
 exact Runs.ret_refl
set_option maxHeartbeats 4000000 in
include hm in
theorem eqCert (c : GCert) (h : CertFit c) : Holds Tryz.prog 17 [certA c, certA c] [] (.v (.bool true)) [] := by
 obtain ⟨⟨i1, i2⟩, ⟨j1, j2⟩, kn, hx, s1, s2, s3, g1⟩ := h
 refine holds_ref (ann := []) tabOk hm (byL [] [1000002, 1000003]) Tryz.func17 (by kernel_rfl) rfl ?_
 have ck := eqKey hm c.key kn
 rw [keyA] at ck
 have cx := eqExts hm c.ca c.path c.usage c.ho c.ne c.al c.de c.pu hx
 rw [exS] at cx
 simp +decide only [Tryz.f17, go_sem]
 refine Runs.call (eqStringS hm c.issuer (by omega)) ?_
 simp +decide only [go_sem]
 refine Runs.call (eqStringS hm c.subject (by omega)) ?_
 simp +decide only [go_sem]
 refine Runs.call ck ?_
 simp +decide only [go_sem]
 refine Runs.call cx ?_
 simp +decide only [go_sem]
 refine Runs.call (eqByteS hm c.sig (by omega)) ?_
 simp +decide only [go_sem]
 exact Runs.ret_v
set_option maxHeartbeats 4000000 in
include hm in
theorem sCertOk (c : GCert) (h : CertFit c) : Holds Tryz.prog 25 [certA c] [] (.v (.bool (certB c))) [] := by
 obtain ⟨⟨i1, i2⟩, ⟨j1, j2⟩, kn, hx, s1, s2, s3, g1⟩ := h
 refine holds_ref (ann := []) tabOk hm (byL [] [1000001]) Tryz.func25 (by kernel_rfl) rfl ?_
 have ck := sKeyOk hm c.key (by omega)
 rw [keyA] at ck
 have cx := l10Exts hm c.ca c.path c.usage c.ho c.ne c.al c.de c.pu hx s1 s2 s3
 rw [exS] at cx
 have hl : (c.sig.map u8A).length = c.sig.length := List.length_map _
 simp +decide only [Tryz.f25, go_sem]
 refine Runs.call (l1In hm c.serial 1 1000000000000000) ?_
 cases c1 : inB c.serial 1 1000000000000000
 ·simp +decide only [go_sem]
  exact Runs.ret_eq (by simp only [certB, c1, Bool.false_and])
 simp +decide only [go_sem]
 refine Runs.call (l10Name hm c.issuer (by omega) (fun s hs => by have := i2 s hs; omega)) ?_
 cases c2 : nameOk c.issuer
 ·simp +decide only [go_sem]
  exact Runs.ret_eq (by simp only [certB, c2, Bool.and_false, Bool.false_and])
 simp +decide only [go_sem]
 refine Runs.call (l10Name hm c.subject (by omega) (fun s hs => by have := j2 s hs; omega)) ?_
 cases c3 : nameOk c.subject
 ·simp +decide only [go_sem]
  exact Runs.ret_eq (by simp only [certB, c3, Bool.and_false, Bool.false_and])
 simp +decide only [go_sem]
 refine Runs.call (l9Ok hm c.from') ?_
 cases c4 : inB c.from' (-631152000) 4102444799
 ·simp +decide only [go_sem]
  exact Runs.ret_eq (by simp only [certB, c4, Bool.and_false, Bool.false_and])
 simp +decide only [go_sem]
 refine Runs.call (l9Ok hm c.tu) ?_
 cases c5 : inB c.tu (-631152000) 4102444799
 ·simp +decide only [go_sem]
  exact Runs.ret_eq (by simp only [certB, c5, Bool.and_false, Bool.false_and])
 simp +decide only [go_sem]
 cases c6 : decide (c.from' ≤ c.tu)
 ·simp +decide only [go_sem]
  exact Runs.ret_eq (by simp only [certB, c6, Bool.and_false, Bool.false_and])
 simp +decide only [go_sem]
 refine Runs.call ck ?_
 cases c7 : keyB c.key
 ·simp +decide only [go_sem]
  exact Runs.ret_eq (by simp only [certB, c7, Bool.and_false, Bool.false_and])
 simp +decide only [hl, go_sem]
 refine Runs.call (l1In hm c.alg 1 4) ?_
 cases c8 : inB c.alg 1 4
 ·simp +decide only [go_sem]
  exact Runs.ret_eq (by simp only [certB, c8, Bool.and_false, Bool.false_and])
 simp +decide only [hl, go_sem]
 refine Runs.call cx ?_
 cases c9 : exB c.ca c.path c.usage c.ho c.ne c.al c.de c.pu
 ·simp +decide only [go_sem]
  exact Runs.ret_eq (by simp only [certB, c9, Bool.and_false, Bool.false_and])
 simp +decide only [hl, go_sem]
 refine Runs.call (l1In hm _ 1 64) ?_
 cases c10 : inB c.sig.length 1 64
 ·simp +decide only [go_sem]
  exact Runs.ret_eq (by simp only [certB, c10, Bool.and_false, Bool.false_and])
 simp +decide only [hl, go_sem]
 exact Runs.ret_eq (by simp only [certB, c1, c2, c3, c4, c5, c6, c7, c8, c9, c10, Bool.true_and])
set_option maxHeartbeats 4000000 in
include hm in
theorem iCertOk (c : GCert) (h : CertFit c) : Holds Tryz.prog 31 [certA c] [] (.v (.bool (certB c))) [] := by
 obtain ⟨⟨i1, i2⟩, ⟨j1, j2⟩, kn, hx, s1, s2, s3, g1⟩ := h
 refine holds_ref (ann := []) tabOk hm (byL [] [1000001]) Tryz.func31 (by kernel_rfl) rfl ?_
 have ck := iKeyOk hm c.key (by omega)
 rw [keyA] at ck
 have cx := extsOk hm c.ca c.path c.usage c.ho c.ne c.al c.de c.pu hx s1 s2 s3
 rw [exS] at cx
 have hl : (c.sig.map u8A).length = c.sig.length := List.length_map _
 simp +decide only [Tryz.f31, go_sem]
 refine Runs.call (within hm c.serial 1 1000000000000000) ?_
 cases c1 : inB c.serial 1 1000000000000000
 ·simp +decide only [go_sem]
  exact Runs.ret_eq (by simp only [certB, c1, Bool.false_and])
 simp +decide only [go_sem]
 refine Runs.call (isName hm c.issuer (by omega) (fun s hs => by have := i2 s hs; omega)) ?_
 cases c2 : nameOk c.issuer
 ·simp +decide only [go_sem]
  exact Runs.ret_eq (by simp only [certB, c2, Bool.and_false, Bool.false_and])
 simp +decide only [go_sem]
 refine Runs.call (isName hm c.subject (by omega) (fun s hs => by have := j2 s hs; omega)) ?_
 cases c3 : nameOk c.subject
 ·simp +decide only [go_sem]
  exact Runs.ret_eq (by simp only [certB, c3, Bool.and_false, Bool.false_and])
 simp +decide only [go_sem]
 refine Runs.call (isTime hm c.from') ?_
 cases c4 : inB c.from' (-631152000) 4102444799
 ·simp +decide only [go_sem]
  exact Runs.ret_eq (by simp only [certB, c4, Bool.and_false, Bool.false_and])
 simp +decide only [go_sem]
 refine Runs.call (isTime hm c.tu) ?_
 cases c5 : inB c.tu (-631152000) 4102444799
 ·simp +decide only [go_sem]
  exact Runs.ret_eq (by simp only [certB, c5, Bool.and_false, Bool.false_and])
 simp +decide only [go_sem]
 cases c6 : decide (c.from' ≤ c.tu)
 ·simp +decide only [go_sem]
  exact Runs.ret_eq (by simp only [certB, c6, Bool.and_false, Bool.false_and])
 simp +decide only [go_sem]
 refine Runs.call (within hm c.alg 1 4) ?_
 cases c8 : inB c.alg 1 4
 ·simp +decide only [go_sem]
  exact Runs.ret_eq (by simp only [certB, c8, Bool.and_false, Bool.false_and])
 simp +decide only [hl, go_sem]
 refine Runs.call cx ?_
 cases c9 : exB c.ca c.path c.usage c.ho c.ne c.al c.de c.pu
 ·simp +decide only [go_sem]
  exact Runs.ret_eq (by simp only [certB, c9, Bool.and_false, Bool.false_and])
 simp +decide only [hl, go_sem]
 refine Runs.call (by have q := isSig hm (c.sig.map u8A); rw [hl] at q; exact q) ?_
 cases c10 : inB c.sig.length 1 64
 ·simp +decide only [go_sem]
  exact Runs.ret_eq (by simp only [certB, c10, Bool.and_false, Bool.false_and])
 simp +decide only [hl, go_sem]
 refine Runs.call ck ?_
 cases c7 : keyB c.key
 ·simp +decide only [go_sem]
  exact Runs.ret_eq (by simp only [certB, c7, Bool.and_false, Bool.false_and])
 simp +decide only [hl, go_sem]
 exact Runs.ret_eq (by simp only [certB, c1, c2, c3, c4, c5, c6, c7, c8, c9, c10, Bool.true_and])
end Go.Proofs.W

namespace Go.Proofs.W
open Go Go.AM
variable (hm : Tryz.prog.follows .mixedOrders = true)
def lowU (b : UInt8) : UInt8 := if 65 ≤ b.toNat ∧ b.toNat ≤ 90 then UInt8.ofNat (b.toNat + 32) else b
def lowerB (s : ByteArray) : ByteArray := mkS (s.data.toList.map lowU)
theorem lowU_nat (b : UInt8) : ((lowU b).toNat : Int) = if 65 ≤ (b.toNat : Int) ∧ (b.toNat : Int) ≤ 90 then (b.toNat : Int) + 32 else b.toNat := by
 unfold lowU
 have := UInt8.toNat_lt b
 by_cases h : 65 ≤ b.toNat ∧ b.toNat ≤ 90
 ·rw [if_pos h, if_pos (by omega)]
  rw [UInt8.toNat_ofNat_of_lt' (by show _ < 256; omega)]; omega
 ·rw [if_neg h, if_neg (by omega)]
theorem bytes_all (l : List UInt8) : (l.map byteA).all isByte = true := by
 rw [List.all_map, List.all_eq_true]
 intro b _
 have := UInt8.toNat_lt b
 simp [byteA, isByte]; omega
theorem bytes_back (l : List UInt8) : (l.map byteA).map AM.byteOf = l := by
 rw [List.map_map]
 conv => rhs; rw [← List.map_id l]
 refine List.map_congr_left fun b _ => ?_
 simp [byteA, AM.byteOf]
def lowRow (s : ByteArray) (i : Nat) : List A := ((s.data.toList.take i).map lowU).map byteA
theorem lowRow_zero (s : ByteArray) : lowRow s 0 = [] := by simp [lowRow]
theorem lowRow_all (s : ByteArray) : lowRow s s.size = (s.data.toList.map lowU).map byteA := by rw [lowRow, List.take_of_length_le (by rw [list_size]; exact Nat.le_refl _)]
def slAnn : Ann := [(0, [0, 3, 4])]
def slSt (s : ByteArray) (i : Nat) : St := ⟨[.v (.string s), .any, .any, .ms (.l 0) 0 i i, .v (.int .i64 i), .any, .any, .any, .any, .any, .any, .any, .any, .any, .any, .any, .any, .any, .any, .any, .any, .any, .any, .any, .any, .any, .any, .any, .any, .any, .any], [(0, ⟨true, 1, false, lowRow s i⟩)], []⟩
set_option maxHeartbeats 1000000 in
set_option maxRecDepth 10000 in
include hm in
theorem sLower (s : ByteArray) (h : s.size ≤ 1073741823) : Holds Tryz.prog 167 [.v (.string s)] [] (.v (.string (lowerB s))) [] := by
 refine holds_of (ann := slAnn) tabOk hm Tryz.func167 (by kernel_rfl) rfl ?_
 simp +decide only [Tryz.f167, go_sem]
 have hz := list_size s
 refine Runs.while (α := Nat) (slSt s) (fun i => s.size - i) (fun i => i ≤ s.size) 0 (by omega) ?_ ?_
 ·simp [go_sem, slAnn, slSt, lowRow_zero]
 ·intro i hi ih
  have hlen : (lowRow s i).length = i := by simp [lowRow]; omega
  simp +decide only [slSt, hlen, go_sem]
  refine Runs.split (fun h => ?_) (fun h => ?_)
  ·have hlt : i < s.data.toList.length := by simp at h; omega
   obtain ⟨c, hc⟩ : ∃ c, s.data.toList[i] = c := ⟨_, rfl⟩
   have hg : s.data.toList.getD i 0 = c := (getD_lt hlt).trans hc
   have hb := UInt8.toNat_lt c
   have hn := lowU_nat c
   have hnext : lowRow s i ++ [.v (.int .u8 ((lowU c).toNat : Int))] = lowRow s (i + 1) := by
    rw [lowRow, lowRow, List.take_succ_eq_append_getElem hlt, hc]; simp [byteA]
   simp +decide (disch := first | omega | (simp only [ll]; omega)) only [hg, hlen, if_pos, go_sem]
   cases h1 : decide ((c.toNat : Int) ≥ 65)
   ·have e : ((lowU c).toNat : Int) = c.toNat := by rw [hn, if_neg (by simp only [decide_eq_false_iff_not] at h1; omega)]
    rw [e] at hnext
    simp +decide (disch := first | omega | (simp only [ll]; omega)) only [hlen, if_pos, go_sem]
    refine ih (i + 1) _ (by omega) (by omega) ?_
    simp [go_sem, slAnn, slSt, hnext]
   ·simp +decide (disch := first | omega | (simp only [ll]; omega)) only [if_pos, go_sem]
    cases h2 : decide ((c.toNat : Int) ≤ 90)
    ·have e : ((lowU c).toNat : Int) = c.toNat := by rw [hn, if_neg (by simp only [decide_eq_false_iff_not] at h2; omega)]
     rw [e] at hnext
     simp +decide (disch := first | omega | (simp only [ll]; omega)) only [hlen, if_pos, go_sem]
     refine ih (i + 1) _ (by omega) (by omega) ?_
     simp [go_sem, slAnn, slSt, hnext]
    ·have e : ((lowU c).toNat : Int) = (c.toNat : Int) + 97 - 65 := by rw [hn, if_pos (by simp only [decide_eq_true_eq] at h1 h2; omega)]; omega
     rw [e] at hnext
     have w1 : IntKind.u8.wrap ((c.toNat : Int) + 97) = (c.toNat : Int) + 97 := by
      simp only [decide_eq_true_eq] at h1 h2; unfold IntKind.wrap; simp [IntKind.bits, IntKind.signed]; omega
     have w2 : IntKind.u8.wrap ((c.toNat : Int) + 97 - 65) = (c.toNat : Int) + 97 - 65 := by
      simp only [decide_eq_true_eq] at h1 h2; unfold IntKind.wrap; simp [IntKind.bits, IntKind.signed]; omega
     simp +decide (disch := first | omega | (simp only [ll]; omega)) only [hlen, w1, w2, if_pos, go_sem]
     refine ih (i + 1) _ (by omega) (by omega) ?_
     simp [go_sem, slAnn, slSt, hnext]
  ·have hge : i = s.size := by simp at h; omega
   subst hge
   have htk : List.take s.size (lowRow s s.size) = lowRow s s.size := List.take_of_length_le (by rw [hlen]; exact Nat.le_refl _)
   have ha : (lowRow s s.size).all isByte = true := by rw [lowRow_all]; exact bytes_all _
   have hbk : (lowRow s s.size).map AM.byteOf = s.data.toList.map lowU := by rw [lowRow_all]; exact bytes_back _
   have t0 : Int.toNat 0 = 0 := rfl
   simp +decide (disch := first | omega | (simp only [ll]; omega)) only [hlen, htk, ha, hbk, List.drop_zero, if_pos, go_sem]
   exact Runs.ret_eq rfl
def mixRow (s : ByteArray) (i : Nat) : List A := ((s.data.toList.take i).map lowU ++ s.data.toList.drop i).map byteA
theorem mixRow_zero (s : ByteArray) : mixRow s 0 = s.data.toList.map byteA := by simp [mixRow]
theorem mixRow_len {s : ByteArray} {i : Nat} (h : i ≤ s.size) : (mixRow s i).length = s.size := by simp only [mixRow, List.length_map, List.length_append, List.length_take, List.length_drop]; have := list_size s; omega
theorem mixRow_all (s : ByteArray) : mixRow s s.size = (s.data.toList.map lowU).map byteA := by
 rw [mixRow, List.take_of_length_le (by rw [list_size]; exact Nat.le_refl _), List.drop_of_length_le (by rw [list_size]; exact Nat.le_refl _), List.append_nil]
theorem mixRow_get {s : ByteArray} {i : Nat} (h : i < s.data.toList.length) : (mixRow s i).getD i .any = .v (.int .u8 (s.data.toList[i].toNat : Int)) := by
 have hl : ((s.data.toList.take i).map lowU).length = i := by rw [List.length_map, List.length_take]; omega
 rw [mixRow, List.getD, List.getElem?_map, List.getElem?_append_right (by omega), hl, Nat.sub_self, List.getElem?_drop, Nat.add_zero, List.getElem?_eq_getElem h]
 rfl
theorem mixRow_same {s : ByteArray} {i : Nat} (h : i < s.data.toList.length) (e : lowU s.data.toList[i] = s.data.toList[i]) : mixRow s i = mixRow s (i + 1) := by
 rw [mixRow, mixRow, List.drop_eq_getElem_cons h, List.take_succ_eq_append_getElem h]
 simp only [List.map_append, List.map_cons, List.map_nil, e, List.append_assoc, List.cons_append, List.nil_append]
theorem mixRow_set {s : ByteArray} {i : Nat} (h : i < s.data.toList.length) : (mixRow s i).set i (.v (.int .u8 ((lowU s.data.toList[i]).toNat : Int))) = mixRow s (i + 1) := by
 have hl : (((s.data.toList.take i).map lowU).map byteA).length = i := by rw [List.length_map, List.length_map, List.length_take]; omega
 rw [mixRow, mixRow, List.map_append, List.set_append_right _ _ (by omega), hl, Nat.sub_self, List.drop_eq_getElem_cons h, List.map_cons, List.set_cons_zero, List.take_succ_eq_append_getElem h]
 simp [byteA]
def ilwAnn : Ann := [(0, [0, 3, 8, 9, 10])]
def ilwSt (s : ByteArray) (i : Nat) : St := ⟨[.v (.string s), .any, .any, .ms (.l 0) 0 s.size s.size, .any, .any, .any, .any, .ms (.l 0) 0 s.size s.size, .v (.int .i64 s.size), .v (.int .i64 i), .any, .any, .any, .any, .any, .any, .any, .any, .any, .any, .any, .any, .any, .any, .any, .any, .any, .any, .any], [(0, ⟨true, 1, false, mixRow s i⟩)], []⟩
set_option maxHeartbeats 1000000 in
set_option maxRecDepth 10000 in
include hm in
theorem iLower (s : ByteArray) (h : s.size ≤ 1073741823) : Holds Tryz.prog 189 [.v (.string s)] [] (.v (.string (lowerB s))) [] := by
 refine holds_of (ann := ilwAnn) tabOk hm Tryz.func189 (by kernel_rfl) rfl ?_
 have hz := list_size s
 have hlz : (s.data.toList.map byteA).length = s.size := by rw [List.length_map, hz]
 simp +decide (disch := first | omega | (simp only [ll]; omega)) only [Tryz.f189, hlz, if_pos, go_sem]
 refine Runs.while (α := Nat) (ilwSt s) (fun i => s.size - i) (fun i => i ≤ s.size) 0 (by omega) ?_ ?_
 ·simp [go_sem, ilwAnn, ilwSt, mixRow_zero]
 ·intro i hi ih
  have hlen := mixRow_len hi
  simp +decide only [ilwSt, hlen, go_sem]
  refine Runs.split (fun h => ?_) (fun h => ?_)
  ·have hlt : i < s.data.toList.length := by simp at h; omega
   have hgt := mixRow_get hlt
   have hst := mixRow_set hlt
   have hsm := mixRow_same hlt
   have hn := lowU_nat s.data.toList[i]
   obtain ⟨c, hc⟩ : ∃ c, s.data.toList[i] = c := ⟨_, rfl⟩
   rw [hc] at hgt hst hsm hn
   have hb := UInt8.toNat_lt c
   simp +decide (disch := first | omega | (simp only [ll]; omega)) only [hlen, hgt, if_pos, go_sem]
   cases h1 : decide ((c.toNat : Int) ≥ 65)
   ·have e : lowU c = c := by unfold lowU; rw [if_neg (by simp only [decide_eq_false_iff_not] at h1; omega)]
    simp +decide (disch := first | omega | (simp only [ll]; omega)) only [hlen, if_pos, go_sem]
    refine ih (i + 1) _ (by omega) (by omega) ?_
    simp [go_sem, ilwAnn, ilwSt, hsm e]
   ·simp +decide (disch := first | omega | (simp only [ll]; omega)) only [if_pos, go_sem]
    cases h2 : decide ((c.toNat : Int) ≤ 90)
    ·have e : lowU c = c := by unfold lowU; rw [if_neg (by simp only [decide_eq_false_iff_not] at h2; omega)]
     simp +decide (disch := first | omega | (simp only [ll]; omega)) only [hlen, if_pos, go_sem]
     refine ih (i + 1) _ (by omega) (by omega) ?_
     simp [go_sem, ilwAnn, ilwSt, hsm e]
    ·have e : ((lowU c).toNat : Int) = (c.toNat : Int) + 97 - 65 := by rw [hn, if_pos (by simp only [decide_eq_true_eq] at h1 h2; omega)]; omega
     rw [e] at hst
     have w1 : IntKind.u8.wrap ((c.toNat : Int) + 97) = (c.toNat : Int) + 97 := by
      simp only [decide_eq_true_eq] at h1 h2; unfold IntKind.wrap; simp [IntKind.bits, IntKind.signed]; omega
     have w2 : IntKind.u8.wrap ((c.toNat : Int) + 97 - 65) = (c.toNat : Int) + 97 - 65 := by
      simp only [decide_eq_true_eq] at h1 h2; unfold IntKind.wrap; simp [IntKind.bits, IntKind.signed]; omega
     simp +decide (disch := first | omega | (simp only [ll]; omega)) only [hlen, hgt, hst, w1, w2, if_pos, go_sem]
     refine ih (i + 1) _ (by omega) (by omega) ?_
     simp [go_sem, ilwAnn, ilwSt, hst]
  ·have hge : i = s.size := by simp at h; omega
   subst hge
   have htk : List.take s.size (mixRow s s.size) = mixRow s s.size := List.take_of_length_le (by rw [hlen]; exact Nat.le_refl _)
   have ha : (mixRow s s.size).all isByte = true := by rw [mixRow_all]; exact bytes_all _
   have hbk : (mixRow s s.size).map AM.byteOf = s.data.toList.map lowU := by rw [mixRow_all]; exact bytes_back _
   simp +decide (disch := first | omega | (simp only [ll]; omega)) only [hlen, htk, ha, hbk, List.drop_zero, if_pos, go_sem]
   exact Runs.ret_eq rfl
end Go.Proofs.W

namespace Go.Proofs.W
open Go Go.AM Go.RowKit Go.Shelf
variable (hm : Tryz.prog.follows .mixedOrders = true)
def joinB (ss : List ByteArray) (sep : ByteArray) : ByteArray := ⟨(Lib.join (ss.map (·.data.toList)) sep.data.toList).toArray⟩
set_option maxRecDepth 100000 in
theorem lay156X : Builder.Extra Tryz.prog lay156_ren where
 sizeBuilder := by kernel_rfl
 liesBuilder := by kernel_rfl
 t5 := Tryz.underlying5
 a5 := Tryz.isAgg5
 z5 := Tryz.sizeOf5
 v5 := Tryz.zeroValue5
 infoByte := by kernel_rfl
 cellsByte := by kernel_rfl
 sizeByte := by kernel_rfl
 neB5 := by decide
theorem joinH (ss : List ByteArray) (sep : ByteArray) (hN : ss.length ≤ 140737488355328) (hlen : (Lib.join (ss.map (·.data.toList)) sep.data.toList).length ≤ 140737488355328) :
  Holds Tryz.prog 191 [.sl .sh (ss.map strA), .v (.string sep)] [] (.v (.string (joinB ss sep))) [] where
 fn := ⟨_, _, Tryz.func191, by kernel_rfl, rfl⟩
 calls := by
  intro C w xs fx fa hF hB hI hX hM hle hno hR
  have hx : ∀ b, fx b = 0 := by
   have hM : MemR C w [] fx := hM
   cases hM with | nil h => exact h
  have main : Calls Tryz.prog 191 xs.toArray w fun e w' => e = .returned (.string (joinB ss sep)) ∧ Below w.heap.size w w' := by
   generalize hes : ss.map strA = es at hR
   cases hR with
   | nils h =>
    cases h with
    | v h =>
     cases h with
     | nil h =>
      have : ss = [] := List.map_eq_nil_iff.mp hes
      subst this
      exact (Any.strings_Join_none lay156 lay156X _ _ sep w).mono fun e w' ⟨he, hw⟩ => ⟨he, hw ▸ Below.refl _ _⟩
   | sl hrow hsp hk hcap hsz hI' hs ho hf h1 h =>
    rename_i a cap k c e fz r1 f1
    cases h with
    | v h =>
     cases h with
     | nil h =>
      subst hes
      rw [flat_strA] at h1
      have hk1 : (ss.map strA).length * k = ss.length := by
       rw [List.length_map]
       cases ss with
       | nil => simp
       | cons s l =>
        have := hk (strA s) (by simp)
        have : k = 1 := by rw [← this]; rfl
        rw [this, Nat.mul_one]
      rw [hk1] at h1
      obtain ⟨e1, _⟩ := repL_vs h1
      have hcells : ∀ (j : Nat) x, ss[j]? = some x → w.cell? ⟨a.block, a.off + j, none⟩ = some (.string x) := by
       intro j x hj
       have e2 : ((c.toList.drop a.off).take ss.length)[j]? = some (.string x) := by rw [e1, List.getElem?_map, hj]; rfl
       have hjl := (List.getElem?_eq_some_iff.mp hj).1
       rw [List.getElem?_take_of_lt hjl, List.getElem?_drop, Array.getElem?_toList] at e2
       simp only [World.cell?, hrow]
       exact e2
      have ha : a = ⟨a.block, a.off, none⟩ := by cases a; simp at hsp; rw [hsp]
      have hbk : a.block < w.heap.size := (Array.getElem?_eq_some_iff.mp hrow).1
      rw [ha, List.length_map]
      rw [List.length_map] at hcap
      exact Any.strings_Join lay156 lay156X a.block a.off cap ss sep w hcells hbk hN hcap hlen
  refine main.mono ?_
  rintro e w' ⟨rfl, hb⟩
  exact ⟨C, fun _ => 0, fun _ => 0, Ctx.ToX.refl C, rfl, hB, fun _ h => h, fun _ h => .inl h, fun b h => Nat.lt_of_lt_of_le (hI b h) hb.size, hX, ⟨hb.os, hb.tape, hb.output, hb.size, fun b h _ => hb.block b h⟩, .nil fun _ => rfl, .v (.nil fun _ => rfl), fun _ => Nat.zero_le _, fun b hb => absurd hb (by simp)⟩
end Go.Proofs.W

namespace Go.Proofs.W
open Go Go.AM
variable (hm : Tryz.prog.follows .mixedOrders = true)
def colStep (out : List UInt8) (prev b : UInt8) : List UInt8 := if b = 32 then out else (if out ≠ [] ∧ prev = 32 then out ++ [32] else out) ++ [b]
def colG : List UInt8 → UInt8 → List UInt8 → List UInt8
 | out, _, [] => out
 | out, prev, b :: r => colG (colStep out prev b) b r
theorem colStep_nil (p q b : UInt8) : colStep [] p b = colStep [] q b := by simp [colStep]
theorem colG_nil (p q : UInt8) (l : List UInt8) : colG [] p l = colG [] q l := by
 cases l with
 | nil => rfl
 | cons b r => rw [colG, colG, colStep_nil p q]
def plainB (s : ByteArray) : ByteArray := lowerB (mkS (colG [] 0 s.data.toList))
def lplAnn : Ann := [(0, [0, 3, 4])]
def lplSt (s : ByteArray) (p : Nat × List UInt8) : St := ⟨[.v (.string s), .any, .any, .ms (.l 0) 0 p.2.length p.2.length, .v (.int .i64 p.1), .any, .any, .any, .any, .any, .any, .any, .any, .any, .any, .any, .any, .any, .any, .any, .any, .any, .any, .any, .any, .any, .any, .any, .any, .any, .any, .any, .any, .any, .any, .any, .any, .any], [(0, ⟨true, 1, false, p.2.map byteA⟩)], []⟩
set_option maxHeartbeats 1000000 in
set_option maxRecDepth 10000 in
include hm in
theorem l10Plain (s : ByteArray) (h : s.size ≤ 1048576) : Holds Tryz.prog 125 [.v (.string s)] [] (.v (.string (plainB s))) [] := by
 refine holds_of (ann := lplAnn) tabOk hm Tryz.func125 (by kernel_rfl) rfl ?_
 simp +decide only [Tryz.f125, go_sem]
 have hz := list_size s
 refine Runs.while (α := Nat × List UInt8) (lplSt s) (fun p => s.size - p.1) (fun p => p.1 ≤ s.size ∧ p.2.length ≤ 2 * p.1 ∧ (p.1 = 0 → p.2 = []) ∧ colG p.2 (s.data.toList.getD (p.1 - 1) 0) (s.data.toList.drop p.1) = colG [] 0 s.data.toList) (0, []) ⟨Nat.zero_le _, Nat.zero_le _, fun _ => rfl, by simp only [List.drop_zero]; exact colG_nil _ _ _⟩ ?_ ?_
 ·simp [go_sem, lplAnn, lplSt]
 ·rintro ⟨i, out⟩ ⟨hi, ho, h0, hr⟩ ih
  simp only at hi ho h0 hr
  have hlen : (out.map byteA).length = out.length := List.length_map _
  simp +decide only [lplSt, hlen, go_sem]
  refine Runs.split (fun h => ?_) (fun h => ?_)
  ·have hlt : i < s.data.toList.length := by simp at h; omega
   obtain ⟨c, hc⟩ : ∃ c, s.data.toList[i] = c := ⟨_, rfl⟩
   have hg : s.data.toList.getD i 0 = c := (getD_lt hlt).trans hc
   rw [List.drop_eq_getElem_cons hlt, hc, colG] at hr
   have hb := UInt8.toNat_lt c
   have hprev : s.data.toList.getD (i + 1 - 1) 0 = c := by rw [Nat.add_sub_cancel]; exact hg
   have go : ∀ out2 : List UInt8, colStep out (s.data.toList.getD (i - 1) 0) c = out2 → colG out2 (s.data.toList.getD (i + 1 - 1) 0) (s.data.toList.drop (i + 1)) = colG [] 0 s.data.toList := by
    intro out2 e; rw [hprev, ← e]; exact hr
   simp +decide (disch := first | omega | (simp only [ll]; omega)) only [hg, hlen, if_pos, go_sem]
   cases h1 : decide ((c.toNat : Int) = 32)
   ·have hc32 : c ≠ 32 := by intro e; subst e; simp at h1
    simp +decide (disch := first | omega | (simp only [ll]; omega)) only [hlen, if_pos, go_sem]
    cases h2 : decide ((out.length : Int) > 0)
    ·have hnil : out = [] := by
      have : out.length = 0 := by simp only [decide_eq_false_iff_not] at h2; omega
      exact List.length_eq_zero_iff.mp this
     subst hnil
     simp +decide (disch := first | omega | (simp only [ll]; omega)) only [hg, hlen, List.length_nil, List.map_nil, if_pos, go_sem]
     refine ih (i + 1, [c]) _ (by simp only; omega) ⟨by simp only; omega, by simp only [List.length_cons, List.length_nil]; omega, by simp, go [c] (by simp [colStep, hc32])⟩ ?_
     simp [go_sem, lplAnn, lplSt, byteA]
    ·have hne : out ≠ [] := by intro e; subst e; simp at h2
     have hi1 : 1 ≤ i := by
      rcases Nat.eq_zero_or_pos i with e | e
      ·exact absurd (h0 e) hne
      ·exact e
     have ht : ((i : Int) - 1).toNat = i - 1 := by omega
     have hb1 : decide (0 ≤ (i : Int) - 1 ∧ (i : Int) - 1 < s.size) = true := by simp; omega
     obtain ⟨p, hp⟩ : ∃ p, s.data.toList.getD (i - 1) 0 = p := ⟨_, rfl⟩
     rw [hp] at go
     simp +decide (disch := first | omega | (simp only [ll]; omega)) only [ht, hb1, hp, if_pos, go_sem]
     cases h3 : decide ((p.toNat : Int) = 32)
     ·have hp32 : p ≠ 32 := by intro e; subst e; simp at h3
      simp +decide (disch := first | omega | (simp only [ll]; omega)) only [hg, hlen, if_pos, go_sem]
      refine ih (i + 1, out ++ [c]) _ (by simp only; omega) ⟨by simp only; omega, by simp only [List.length_append, List.length_cons, List.length_nil]; omega, by simp, go _ (by simp [colStep, hc32, hp32])⟩ ?_
      simp [go_sem, lplAnn, lplSt, byteA]
     ·have hp32 : p = 32 := by
       simp only [decide_eq_true_eq] at h3
       exact UInt8.toNat_inj.mp (Int.ofNat.inj h3)
      have hl2 : (out.map byteA ++ [A.v (.int .u8 32)]).length = out.length + 1 := by simp
      simp +decide (disch := first | omega | (simp only [ll]; omega)) only [hg, hlen, hl2, if_pos, go_sem]
      refine ih (i + 1, out ++ [32] ++ [c]) _ (by simp only; omega) ⟨by simp only; omega, by simp only [List.length_append, List.length_cons, List.length_nil]; omega, by simp, go _ (by simp [colStep, hc32, hp32, hne])⟩ ?_
      simp [go_sem, lplAnn, lplSt, byteA]
   ·have hc32 : c = 32 := by
     simp only [decide_eq_true_eq] at h1
     exact UInt8.toNat_inj.mp (Int.ofNat.inj h1)
    simp +decide (disch := first | omega | (simp only [ll]; omega)) only [hlen, if_pos, go_sem]
    refine ih (i + 1, out) _ (by simp only; omega) ⟨by simp only; omega, by simp only; omega, by simp, go out (by simp [colStep, hc32])⟩ ?_
    simp [go_sem, lplAnn, lplSt]
  ·have hge : i = s.size := by simp at h; omega
   rw [hge, List.drop_of_length_le (by omega), colG] at hr
   have htk : List.take out.length (out.map byteA) = out.map byteA := List.take_of_length_le (by rw [hlen]; exact Nat.le_refl _)
   have ha := bytes_all out
   have hbk := bytes_back out
   simp +decide (disch := first | omega | (simp only [ll]; omega)) only [hlen, htk, ha, hbk, List.drop_zero, if_pos, go_sem]
   have c := sLower hm (mkS out) (by rw [mkS_size]; omega)
   rw [mkS] at c
   refine Runs.call c ?_
   simp +decide only [go_sem]
   exact Runs.ret_eq (by rw [plainB, ← hr]; rfl)
end Go.Proofs.W

namespace Go.Proofs.W
open Go Go.AM
variable (hm : Tryz.prog.follows .mixedOrders = true)
theorem lowerB_size (s : ByteArray) : (lowerB s).size = s.size := by rw [lowerB, mkS_size, List.length_map, list_size]
theorem colG_len : ∀ (l out : List UInt8) (p : UInt8), (colG out p l).length ≤ out.length + 2 * l.length
 | [], out, p => by simp [colG]
 | b :: r, out, p => by
  have := colG_len r (colStep out p b) b
  rw [colG]
  have h2 : (colStep out p b).length ≤ out.length + 2 := by
   unfold colStep
   split
   ·omega
   ·split <;> simp
  simp only [List.length_cons]; omega
theorem plainB_size (s : ByteArray) : (plainB s).size ≤ 2 * s.size := by
 rw [plainB, lowerB_size, mkS_size]
 have := colG_len s.data.toList [] 0
 rw [list_size] at this
 simpa using this
def PlainLaw : Prop := ∀ s : ByteArray, joinB (Lib.goFieldsP spP (lowerB s)) ⟨#[32]⟩ = plainB s
theorem fields_len (s : ByteArray) (hl : PlainLaw) : (Lib.join ((Lib.goFieldsP spP (lowerB s)).map (·.data.toList)) [32]).length = (plainB s).size := by
 rw [← hl s, joinB]; simp [ByteArray.size]
set_option maxRecDepth 10000 in
include hm in
theorem iPlain (hl : PlainLaw) (s : ByteArray) (h : s.size ≤ 1048576) (hf : (Lib.goFieldsP spP (lowerB s)).length ≤ 140737488355328) : Holds Tryz.prog 149 [.v (.string s)] [] (.v (.string (plainB s))) [] := by
 refine holds_of (ann := []) tabOk hm Tryz.func149 (by kernel_rfl) rfl ?_
 simp +decide only [Tryz.f149, go_sem]
 refine Runs.call (iLower hm s (by omega)) ?_
 simp +decide only [go_sem]
 refine Runs.call (fieldsH (lowerB s) (by rw [lowerB_size]; exact h)) ?_
 simp +decide only [go_sem]
 have hp := plainB_size s
 refine Runs.call (joinH (Lib.goFieldsP spP (lowerB s)) ⟨#[32]⟩ hf (by have := fields_len s hl; show (Lib.join _ [32]).length ≤ _; rw [this]; omega)) ?_
 simp +decide only [go_sem]
 exact Runs.ret_eq (by rw [hl s])
end Go.Proofs.W

namespace Go.Proofs.W
open Go Go.AM
theorem get_list {s : ByteArray} {i : Nat} (hi : i < s.size) : s.get! i = s.data.toList.getD i 0 := by
 have h2 : i < s.data.toList.length := by rw [list_size]; exact hi
 rw [getD_lt h2, Array.getElem_toList]
 show s.data[i]! = _
 rw [getElem!_pos s.data i (by simpa using h2)]
theorem dec_space {s : ByteArray} {i : Nat} (hi : i < s.size) (h : (s.data.toList.getD i 0).toNat = 32) : Utf8.decode s i = (32, 1) := by
 have e : (s.get! i).toNat = 32 := by rw [get_list hi]; exact h
 unfold Utf8.decode
 simp [e]
theorem dec_other {s : ByteArray} {i : Nat} (hi : i < s.size) (h : (s.data.toList.getD i 0).toNat ≠ 32) :
  (Utf8.decode s i).1 ≠ 32 ∧ 1 ≤ (Utf8.decode s i).2 ∧ i + (Utf8.decode s i).2 ≤ s.size ∧ ∀ k, k < (Utf8.decode s i).2 → (s.data.toList.getD (i + k) 0).toNat ≠ 32 := by
 have e : (s.get! (i + 0)).toNat ≠ 32 := by rw [Nat.add_zero, get_list hi]; exact h
 have one : ∀ k, k < 1 → (s.data.toList.getD (i + k) 0).toNat ≠ 32 := fun k hk => by
  have : k = 0 := by omega
  subst this; exact h
 have more : ∀ k, (decide (i + k < s.size) && (s.get! (i + k)).toNat / 64 == 2) = true → i + k < s.size ∧ (s.data.toList.getD (i + k) 0).toNat ≠ 32 := by
  intro k hk
  simp only [Bool.and_eq_true, decide_eq_true_eq, beq_iff_eq] at hk
  refine ⟨hk.1, ?_⟩
  rw [← get_list hk.1]; omega
 unfold Utf8.decode
 simp only
 split
 ·exact ⟨e, Nat.le_refl _, by omega, one⟩
 split
 ·rename_i h2
  rw [Bool.and_eq_true] at h2
  have m1 := more 1 h2.2
  split
  ·refine ⟨by simp only; omega, by simp, by simp only; omega, fun k hk => ?_⟩
   simp only at hk
   rcases (show k = 0 ∨ k = 1 by omega) with rfl | rfl
   ·exact h
   ·exact m1.2
  ·exact ⟨by decide, Nat.le_refl _, by simp only; omega, one⟩
 split
 ·rename_i h2
  simp only [Bool.and_eq_true] at h2
  have m1 := more 1 (by simp only [Bool.and_eq_true]; exact h2.1.2)
  have m2 := more 2 (by simp only [Bool.and_eq_true]; exact h2.2)
  split
  ·rename_i h3
   simp only [Bool.and_eq_true, decide_eq_true_eq] at h3
   refine ⟨by simp only; omega, by simp, by simp only; omega, fun k hk => ?_⟩
   simp only at hk
   rcases (show k = 0 ∨ k = 1 ∨ k = 2 by omega) with rfl | rfl | rfl
   ·exact h
   ·exact m1.2
   ·exact m2.2
  ·exact ⟨by decide, Nat.le_refl _, by simp only; omega, one⟩
 split
 ·rename_i h2
  simp only [Bool.and_eq_true] at h2
  have m1 := more 1 (by simp only [Bool.and_eq_true]; exact h2.1.1.2)
  have m2 := more 2 (by simp only [Bool.and_eq_true]; exact h2.1.2)
  have m3 := more 3 (by simp only [Bool.and_eq_true]; exact h2.2)
  split
  ·rename_i h3
   simp only [Bool.and_eq_true, decide_eq_true_eq] at h3
   refine ⟨by simp only; omega, by simp, by simp only; omega, fun k hk => ?_⟩
   simp only at hk
   rcases (show k = 0 ∨ k = 1 ∨ k = 2 ∨ k = 3 by omega) with rfl | rfl | rfl | rfl
   ·exact h
   ·exact m1.2
   ·exact m2.2
   ·exact m3.2
  ·exact ⟨by decide, Nat.le_refl _, by simp only; omega, one⟩
 ·exact ⟨by decide, Nat.le_refl _, by simp only; omega, one⟩
theorem lowU_32 (b : UInt8) : lowU b = 32 ↔ b = 32 := by
 have h := lowU_nat b
 constructor
 ·intro e
  rw [e] at h
  have h2 : (b.toNat : Int) = 32 := by
   split at h
   ·have : ((32 : UInt8).toNat : Int) = 32 := rfl
    omega
   ·exact h.symm
  exact UInt8.toNat_inj.mp (Int.ofNat.inj h2)
 ·intro e; subst e; rfl
theorem colG_low : ∀ (l out : List UInt8) (p : UInt8), (colG out p l).map lowU = colG (out.map lowU) (lowU p) (l.map lowU)
 | [], out, p => rfl
 | b :: r, out, p => by
  rw [colG, List.map_cons, colG, colG_low r]
  congr 1
  unfold colStep
  by_cases hb : b = 32
  ·rw [if_pos hb, if_pos ((lowU_32 b).mpr hb)]
  ·rw [if_neg hb, if_neg (fun e => hb ((lowU_32 b).mp e))]
   by_cases hp : out ≠ [] ∧ p = 32
   ·rw [if_pos hp, if_pos ⟨by simpa using hp.1, (lowU_32 p).mpr hp.2⟩]
    simp; rfl
   ·rw [if_neg hp, if_neg (fun e => hp ⟨by simpa using e.1, (lowU_32 p).mp e.2⟩)]
    simp
theorem colG_run : ∀ (r out rest : List UInt8) (p : UInt8), out ≠ [] → p ≠ 32 → (∀ b ∈ r, b ≠ 32) → colG out p (r ++ rest) = colG (out ++ r) ((p :: r).getLast (by simp)) rest
 | [], out, rest, p, _, _, _ => by simp
 | b :: r, out, rest, p, h1, h2, h3 => by
  have hb := h3 b (by simp)
  rw [List.cons_append, colG]
  have e : colStep out p b = out ++ [b] := by simp [colStep, hb, h2]
  rw [e, colG_run r (out ++ [b]) rest b (by simp) hb (fun x hx => h3 x (by simp [hx]))]
  simp
def joinL (A : List (List UInt8)) : List UInt8 := Lib.join A [32]
theorem joinL_snoc (A : List (List UInt8)) (x : List UInt8) : joinL (A ++ [x]) = if A = [] then x else joinL A ++ [32] ++ x := by
 induction A with
 | nil => simp [joinL, Lib.join, List.intercalate]
 | cons a A ih =>
  rw [if_neg (by simp)]
  cases A with
  | nil => simp [joinL, Lib.join, List.intercalate]
  | cons b B =>
   rw [if_neg (by simp)] at ih
   have e : ∀ C : List (List UInt8), joinL (a :: b :: C) = a ++ [32] ++ joinL (b :: C) := by intro C; simp [joinL, Lib.join, List.intercalate]
   rw [List.cons_append, List.cons_append, e, ← List.cons_append, ih, e]
   simp
def pcs (s : ByteArray) (acc : List (Nat × Nat)) : List (List UInt8) := acc.map fun x => (s.extract x.1 x.2).data.toList
theorem pcs_snoc (s : ByteArray) (acc : List (Nat × Nat)) (a b : Nat) : pcs s (acc ++ [(a, b)]) = pcs s acc ++ [(s.data.toList.drop a).take (b - a)] := by
 simp only [pcs, List.map_append, List.map_cons, List.map_nil, ext_list]
def Stand (s : ByteArray) (pos : Nat) (st : Option Nat) (acc : List (Nat × Nat)) (out : List UInt8) (prev : UInt8) : Prop :=
 match st with
 | none => out = joinL (pcs s acc) ∧ (pcs s acc ≠ [] → out ≠ [] ∧ prev = 32)
 | some a => a < pos ∧ out = joinL (pcs s acc ++ [(s.data.toList.drop a).take (pos - a)]) ∧ out ≠ [] ∧ prev ≠ 32
theorem sp_succ (p : Nat → Bool) (s : ByteArray) (f pos : Nat) (st : Option Nat) (acc : List (Nat × Nat)) : Lib.spansFromP p s (f + 1) pos st acc =
  if pos < s.size then (if p (Utf8.decode s pos).1 = true then Lib.spansFromP p s f (pos + (Utf8.decode s pos).2) none (match st with | some a => acc ++ [(a, pos)] | none => acc)
   else Lib.spansFromP p s f (pos + (Utf8.decode s pos).2) (match st with | some a => some a | none => some pos) acc) else (acc, st) := by
 cases st <;> rfl
theorem colStep_32 (out : List UInt8) (p : UInt8) : colStep out p 32 = out := by simp [colStep]
theorem fields_go (s : ByteArray) : ∀ (f pos : Nat) (st : Option Nat) (acc : List (Nat × Nat)) (out : List UInt8) (prev : UInt8), s.size - pos ≤ f → pos ≤ s.size → Stand s pos st acc out prev →
  joinL (pcs s (Lib.closeSpans s (Lib.spansFromP spP s f pos st acc))) = colG out prev (s.data.toList.drop pos) := by
 have hz := list_size s
 have fin : ∀ (pos : Nat) (st : Option Nat) (acc : List (Nat × Nat)) (out : List UInt8) (prev : UInt8), pos = s.size → Stand s pos st acc out prev → joinL (pcs s (Lib.closeSpans s (acc, st))) = colG out prev (s.data.toList.drop pos) := by
  intro pos st acc out prev hp h
  rw [List.drop_of_length_le (by omega), colG]
  cases st with
  | none => exact h.1.symm
  | some a => simp only [Lib.closeSpans]; rw [pcs_snoc, ← hp]; exact h.2.1.symm
 intro f
 induction f with
 | zero =>
  intro pos st acc out prev hf hp h
  show joinL (pcs s (Lib.closeSpans s (acc, st))) = _
  exact fin pos st acc out prev (by omega) h
 | succ f ih =>
  intro pos st acc out prev hf hp h
  rw [sp_succ]
  by_cases hlt : pos < s.size
  ·rw [if_pos hlt]
   have hl : pos < s.data.toList.length := by omega
   have hg := getD_lt hl
   by_cases h32 : (s.data.toList.getD pos 0).toNat = 32
   ·rw [dec_space hlt h32, if_pos (by simp [spP])]
    have hb : s.data.toList[pos] = 32 := by rw [← hg]; exact UInt8.toNat_inj.mp h32
    rw [List.drop_eq_getElem_cons hl, hb, colG, colStep_32]
    cases st with
    | none => exact ih (pos + 1) none acc out 32 (by omega) (by omega) ⟨h.1, fun hne => ⟨(h.2 hne).1, rfl⟩⟩
    | some a => exact ih (pos + 1) none (acc ++ [(a, pos)]) out 32 (by omega) (by omega) ⟨by rw [pcs_snoc]; exact h.2.1, fun _ => ⟨h.2.2.1, rfl⟩⟩
   ·obtain ⟨d1, d2, d3, d4⟩ := dec_other hlt h32
    generalize hw : (Utf8.decode s pos).2 = w at *
    rw [if_neg (by simpa [spP] using d1)]
    have hsplit : s.data.toList.drop pos = (s.data.toList.drop pos).take w ++ s.data.toList.drop (pos + w) := by
     rw [← List.drop_drop, List.take_append_drop]
    have hr : ∀ b ∈ (s.data.toList.drop pos).take w, b ≠ 32 := by
     intro b hb e
     obtain ⟨k, hk, e2⟩ := List.getElem_of_mem hb
     simp only [List.length_take, List.length_drop] at hk
     have := d4 k (by omega)
     rw [getD_lt (by omega)] at this
     rw [List.getElem_take, List.getElem_drop] at e2
     rw [e2, e] at this
     exact this rfl
    have hlast : ∀ p : UInt8, p ≠ 32 → (p :: (s.data.toList.drop pos).take w).getLast (by simp) ≠ 32 := by
     intro p hp e
     rcases List.mem_cons.mp (List.getLast_mem (l := p :: (s.data.toList.drop pos).take w) (by simp)) with h1 | h1
     ·exact hp (h1.symm.trans e)
     ·exact hr _ h1 e
    cases st with
    | some a =>
     obtain ⟨h1, h2, h3, h4⟩ := h
     rw [hsplit, colG_run _ out _ prev h3 h4 hr]
     refine ih (pos + w) (some a) acc _ _ (by omega) (by omega) ⟨by omega, ?_, by simp [h3], hlast prev h4⟩
     have e : (s.data.toList.drop a).take (pos + w - a) = (s.data.toList.drop a).take (pos - a) ++ (s.data.toList.drop pos).take w := by
      rw [show pos + w - a = (pos - a) + w by omega, List.take_add, List.drop_drop, show a + (pos - a) = pos by omega]
     rw [h2, e, joinL_snoc, joinL_snoc]
     split <;> simp
    | none =>
     obtain ⟨h1, h2⟩ := h
     have hc : s.data.toList[pos] ≠ 32 := by rw [← hg]; intro e; exact h32 (by rw [e]; rfl)
     obtain ⟨r, hr2⟩ : ∃ r, (s.data.toList.drop pos).take w = s.data.toList[pos] :: r := by
      rw [List.drop_eq_getElem_cons hl]
      obtain ⟨w', rfl⟩ : ∃ w', w = w' + 1 := ⟨w - 1, by omega⟩
      exact ⟨_, rfl⟩
     have key : colStep out prev s.data.toList[pos] = (if pcs s acc = [] then [] else joinL (pcs s acc) ++ [32]) ++ [s.data.toList[pos]] := by
      unfold colStep
      rw [if_neg hc]
      by_cases hA : pcs s acc = []
      ·have ho : out = [] := by rw [h1, hA]; rfl
       rw [if_pos hA, if_neg (by simp [ho]), ho]
      ·obtain ⟨q1, q2⟩ := h2 hA
       rw [if_neg hA, if_pos ⟨q1, q2⟩, h1]
     rw [hsplit, hr2, List.cons_append, colG, key]
     rw [colG_run r _ _ _ (by simp) hc (fun b hb => hr b (by rw [hr2]; simp [hb]))]
     refine ih (pos + w) (some pos) acc _ _ (by omega) (by omega) ⟨by omega, ?_, by simp, ?_⟩
     ·rw [show pos + w - pos = w by omega, hr2, joinL_snoc]
      split <;> simp
     ·intro e
      rcases List.mem_cons.mp (List.getLast_mem (l := s.data.toList[pos] :: r) (by simp)) with h1 | h1
      ·exact hc (h1.symm.trans e)
      ·exact hr _ (by rw [hr2]; simp [h1]) e
  ·rw [if_neg hlt]
   exact fin pos st acc out prev (by omega) h
theorem plainLaw : PlainLaw := by
 intro s
 have h := fields_go (lowerB s) (lowerB s).size 0 none [] [] 0 (by omega) (Nat.zero_le _) ⟨rfl, fun h => absurd rfl h⟩
 have e : joinB (Lib.goFieldsP spP (lowerB s)) ⟨#[32]⟩ = mkS (joinL (pcs (lowerB s) (Lib.closeSpans (lowerB s) (Lib.spansFromP spP (lowerB s) (lowerB s).size 0 none [])))) := by
  unfold joinB Lib.goFieldsP Lib.spansOfP pcs joinL mkS
  rw [List.map_map]; rfl
 have e2 : (lowerB s).data.toList = s.data.toList.map lowU := by rw [lowerB, mkS_data]
 have e3 : plainB s = mkS ((colG [] 0 s.data.toList).map lowU) := by rw [plainB]; conv => lhs; rw [lowerB, mkS_data]
 rw [List.drop_zero, e2] at h
 rw [e, h, e3, colG_low]
 first | done | (congr 1; exact colG_nil _ _ _) | rfl
end Go.Proofs.W

namespace Go.Proofs.W
open Go Go.AM
set_option maxRecDepth 10000
variable (hm : Tryz.prog.follows .mixedOrders = true)
theorem sp_len (p : Nat → Bool) (s : ByteArray) : ∀ (f pos : Nat) (st : Option Nat) (acc : List (Nat × Nat)), (Lib.closeSpans s (Lib.spansFromP p s f pos st acc)).length ≤ acc.length + f + 1 := by
 have fin : ∀ (st : Option Nat) (acc : List (Nat × Nat)), (Lib.closeSpans s (acc, st)).length ≤ acc.length + 1 := by
  intro st acc; cases st <;> simp [Lib.closeSpans]
 intro f
 induction f with
 | zero => intro pos st acc; exact fin st acc
 | succ f ih =>
  intro pos st acc
  rw [sp_succ]
  split
  ·split
   ·refine Nat.le_trans (ih _ _ _) ?_
    cases st <;> simp <;> omega
   ·refine Nat.le_trans (ih _ _ _) ?_
    omega
  ·have := fin st acc; omega
theorem fields_le (s : ByteArray) : (Lib.goFieldsP spP s).length ≤ s.size + 1 := by
 rw [Lib.goFieldsP, List.length_map, Lib.spansOfP]
 have := sp_len spP s s.size 0 none []
 simpa using this
include hm in
theorem iPlain' (s : ByteArray) (h : s.size ≤ 1048576) : Holds Tryz.prog 149 [.v (.string s)] [] (.v (.string (plainB s))) [] :=
 iPlain hm plainLaw s h (by have := fields_le (lowerB s); rw [lowerB_size] at this; omega)
include hm in
theorem nameSame1 (a b : ByteArray) (ha : a.size ≤ 1048576) (hb : b.size ≤ 1048576) : Holds Tryz.prog 148 [.v (.string a), .v (.string b)] [] (.v (.bool ((plainB a).toList == (plainB b).toList))) [] := by
 refine holds_of (ann := []) tabOk hm Tryz.func148 (by kernel_rfl) rfl ?_
 simp +decide only [Tryz.f148, go_sem]
 refine Runs.call (iPlain' hm a ha) ?_
 simp +decide only [go_sem]
 refine Runs.call (iPlain' hm b hb) ?_
 simp +decide only [go_sem]
 exact Runs.ret_v
def sameB (a b : List ByteArray) : Bool := decide (a.length = b.length) && (List.range a.length).all fun i => (plainB (a.getD i ⟨#[]⟩)).toList == (plainB (b.getD i ⟨#[]⟩)).toList
def sameFrom (a b : List ByteArray) (i : Nat) : Bool := (List.range' i (a.length - i)).all fun i => (plainB (a.getD i ⟨#[]⟩)).toList == (plainB (b.getD i ⟨#[]⟩)).toList
theorem sameFrom_succ {a b : List ByteArray} {i : Nat} (h : i < a.length) : sameFrom a b i = (((plainB (a.getD i ⟨#[]⟩)).toList == (plainB (b.getD i ⟨#[]⟩)).toList) && sameFrom a b (i + 1)) := by
 unfold sameFrom
 obtain ⟨k, hk⟩ : ∃ k, a.length - i = k + 1 := ⟨a.length - i - 1, by omega⟩
 rw [hk, List.range'_succ, List.all_cons, show a.length - (i + 1) = k by omega]
theorem sameFrom_end {a b : List ByteArray} : sameFrom a b a.length = true := by unfold sameFrom; rw [Nat.sub_self]; rfl
theorem sameFrom_zero {a b : List ByteArray} (h : a.length = b.length) : sameB a b = sameFrom a b 0 := by
 rw [sameB, decide_eq_true h, Bool.true_and, sameFrom, List.range_eq_range', Nat.sub_zero]
def nmAnn : Ann := [(0, [0, 1, 5])]
def nmSt (a b : List ByteArray) (i : Nat) : St := ⟨[.sl .sh (a.map strA), .sl .sh (b.map strA), .any, .any, .any, .v (.int .i64 i), .any, .any, .any, .any, .any, .any, .any, .any, .any, .any, .any, .any, .any, .any, .any, .any, .any, .any, .any, .any, .any, .any, .any, .any, .any, .any, .any, .any, .any], [], []⟩
def nmS : Sched := .take 0 (.take 1 (.take 2 (.take 5 (.take 6 (.take 7 (.ld 3 (.ld 8 (.alt 4 (.alt 9 (.take 10 .fin) .nil) .nil))))))))
attribute [local go_sem] nmS
set_option maxHeartbeats 1000000 in
include hm in
theorem sNameSame (a b : List ByteArray) (ha : a.length ≤ 1048576) (hb : b.length ≤ 1048576) (h1 : ∀ s ∈ a, s.size ≤ 1048576) (h2 : ∀ s ∈ b, s.size ≤ 1048576) : Holds Tryz.prog 94 [.sl .sh (a.map strA), .sl .sh (b.map strA)] [] (.v (.bool (sameB a b))) [] := by
 refine holds_of (ann := nmAnn) tabOk hm Tryz.func94 (by kernel_rfl) rfl ?_
 simp +decide only [Tryz.f94, go_sem]
 have la : (a.map strA).length = a.length := List.length_map _
 have lb : (b.map strA).length = b.length := List.length_map _
 refine Runs.while (α := Nat) (nmSt a b) (fun i => a.length - i) (fun i => i ≤ a.length ∧ (i ≠ 0 → a.length = b.length) ∧ sameFrom a b i = sameFrom a b 0) 0 ⟨Nat.zero_le _, fun h => absurd rfl h, rfl⟩ ?_ ?_
 ·simp [go_sem, nmAnn, nmSt]
 ·rintro i ⟨hi, h0, hr⟩ ih
  simp +decide only [nmSt, la, lb, go_sem]
  cases g1 : decide ((i : Int) < (a.length : Int))
  ·have hge : i = a.length := by simp at g1; omega
   simp +decide only [la, lb, go_sem]
   rw [hge, sameFrom_end] at hr
   refine Runs.ret_eq ?_
   by_cases e : a.length = b.length
   ·rw [sameFrom_zero e, ← hr]; simp [e]
   ·rw [sameB, decide_eq_false e]; simp; omega
  ·have hlt : i < a.length := by simpa using g1
   cases g2 : decide ((a.length : Int) = (b.length : Int))
   ·simp +decide only [la, lb, g2, go_sem]
    have e : ¬ a.length = b.length := by simp at g2; omega
    exact Runs.ret_eq (by simp [sameB, e])
   ·have e : a.length = b.length := by simp at g2; omega
    have hlb : i < b.length := by omega
    have ga : (a.map strA).getD i .any = .v (.string a[i]) := by simp [List.getD, hlt, strA]
    have gb : (b.map strA).getD i .any = .v (.string b[i]) := by simp [List.getD, hlb, strA]
    have qa : a.getD i ⟨#[]⟩ = a[i] := by simp [List.getD, hlt]
    have qb : b.getD i ⟨#[]⟩ = b[i] := by simp [List.getD, hlb]
    rw [sameFrom_succ hlt, qa, qb] at hr
    have ca := l10Plain hm a[i] (h1 _ (List.getElem_mem hlt))
    have cb := l10Plain hm b[i] (h2 _ (List.getElem_mem hlb))
    simp +decide only [la, lb, g2, go_sem]
    refine Runs.draw (st1 := ?s1) (draws_by (ann := nmAnn) tabOk nmS (by kernel_rfl) ?p1) ?q1
    case p1 =>
     intro K r X hK
     simp +decide (maxSteps := 9^7) (disch := first | omega | (simp only [ll]; omega)) only [la, lb, ga, gb, if_pos, go_sem]
     repeat' apply And.intro
     all_goals
      refine Runs.call ca ?_
      simp +decide (maxSteps := 9^7) (disch := first | omega | (simp only [ll]; omega)) only [la, lb, ga, gb, if_pos, go_sem]
      refine Runs.call cb ?_
      simp +decide (maxSteps := 9^7) (disch := first | omega | (simp only [ll]; omega)) only [if_pos, go_sem]
      exact hK
    case q1 =>
     simp +decide (disch := first | omega | (simp only [ll]; omega)) only [if_pos, go_sem]
     cases g3 : ((plainB a[i]).toList == (plainB b[i]).toList)
     ·simp +decide (disch := first | omega | (simp only [ll]; omega)) only [g3, if_pos, go_sem]
      refine Runs.ret_eq ?_
      rw [g3, Bool.false_and] at hr
      rw [sameFrom_zero e, ← hr]
     ·rw [g3, Bool.true_and] at hr
      simp +decide (disch := first | omega | (simp only [ll]; omega)) only [g3, if_pos, go_sem]
      refine ih (i + 1) _ (by omega) ⟨by omega, fun _ => e, hr⟩ ?_
      simp [go_sem, nmAnn, nmSt]
def efAnn : Ann := [(0, [0, 1, 2, 15, 16, 17])]
def efSt (g : Nat) (a b : List ByteArray) (i : Nat) : St := ⟨[.sl .sh (a.map strA), .sl .sh (b.map strA), .v (.func (.func g) #[] #[]), .any, .any, .any, .any, .any, .any, .any, .any, .any, .any, .any, .any, .sl .sh (a.map strA), .v (.int .i64 a.length), .v (.int .i64 i), .any, .any, .any, .any, .any, .any, .any, .any, .any, .any, .any, .any, .any, .any], [], []⟩
include hm in
theorem equalFunc (a b : List ByteArray) (ha : a.length ≤ 1048576) (hb : b.length ≤ 1048576) (h1 : ∀ s ∈ a, s.size ≤ 1048576) (h2 : ∀ s ∈ b, s.size ≤ 1048576) :
  Holds Tryz.prog 147 [.sl .sh (a.map strA), .sl .sh (b.map strA), .v (.func (.func 148) #[] #[])] [] (.v (.bool (sameB a b))) [] := by
 refine holds_of (ann := efAnn) tabOk hm Tryz.func147 (by kernel_rfl) rfl ?_
 have la : (a.map strA).length = a.length := List.length_map _
 have lb : (b.map strA).length = b.length := List.length_map _
 simp +decide only [Tryz.f147, la, lb, go_sem]
 cases g2 : decide ((a.length : Int) = (b.length : Int))
 ·simp +decide only [g2, go_sem]
  have e : ¬ a.length = b.length := by simp at g2; omega
  exact Runs.ret_eq (by simp [sameB, e])
 ·have e : a.length = b.length := by simp at g2; omega
  simp +decide only [g2, la, lb, go_sem]
  refine Runs.while (α := Nat) (efSt 148 a b) (fun i => a.length - i) (fun i => i ≤ a.length ∧ sameFrom a b i = sameFrom a b 0) 0 ⟨Nat.zero_le _, rfl⟩ ?_ ?_
  ·simp [go_sem, efAnn, efSt]
  ·rintro i ⟨hi, hr⟩ ih
   simp +decide only [efSt, la, lb, go_sem]
   refine Runs.split (fun h => ?_) (fun h => ?_)
   ·have hlt : i < a.length := by simpa using h
    have hlb : i < b.length := by omega
    have ga : (a.map strA).getD i .any = .v (.string a[i]) := by simp [List.getD, hlt, strA]
    have gb : (b.map strA).getD i .any = .v (.string b[i]) := by simp [List.getD, hlb, strA]
    have qa : a.getD i ⟨#[]⟩ = a[i] := by simp [List.getD, hlt]
    have qb : b.getD i ⟨#[]⟩ = b[i] := by simp [List.getD, hlb]
    rw [sameFrom_succ hlt, qa, qb] at hr
    simp +decide (disch := first | omega | (simp only [ll]; omega)) only [la, lb, ga, gb, if_pos, go_sem]
    refine Runs.call (nameSame1 hm a[i] b[i] (h1 _ (List.getElem_mem hlt)) (h2 _ (List.getElem_mem hlb))) ?_
    cases g3 : ((plainB a[i]).toList == (plainB b[i]).toList)
    ·simp +decide (disch := first | omega | (simp only [ll]; omega)) only [if_pos, go_sem]
     rw [g3, Bool.false_and] at hr
     exact Runs.ret_eq (by rw [sameFrom_zero e, ← hr])
    ·rw [g3, Bool.true_and] at hr
     simp +decide (disch := first | omega | (simp only [ll]; omega)) only [if_pos, go_sem]
     refine ih (i + 1) _ (by omega) ⟨by omega, hr⟩ ?_
     simp [go_sem, efAnn, efSt]
   ·have hge : i = a.length := by simp at h; omega
    rw [hge, sameFrom_end] at hr
    simp +decide only [go_sem]
    exact Runs.ret_eq (by rw [sameFrom_zero e, ← hr])
include hm in
theorem iNameSame (a b : List ByteArray) (ha : a.length ≤ 1048576) (hb : b.length ≤ 1048576) (h1 : ∀ s ∈ a, s.size ≤ 1048576) (h2 : ∀ s ∈ b, s.size ≤ 1048576) :
  Holds Tryz.prog 111 [.sl .sh (a.map strA), .sl .sh (b.map strA)] [] (.v (.bool (sameB a b))) [] := by
 refine holds_of (ann := []) tabOk hm Tryz.func111 (by kernel_rfl) rfl ?_
 simp +decide only [Tryz.f111, go_sem]
 refine Runs.call (equalFunc hm a b ha hb h1 h2) ?_
 simp +decide only [go_sem]
 exact Runs.ret_v
end Go.Proofs.W

namespace Go.Proofs.W
open Go Go.AM Go.Proofs.G
variable (hm : Tryz.prog.follows .mixedOrders = true)
attribute [local go_sem] keyA keyO exS exO rowS_plain rowS_dn rowO_dn certA certO
def ownB (c : GCert) : Bool := sameB c.issuer c.subject
set_option maxHeartbeats 4000000 in
set_option maxRecDepth 10000 in
include hm in
theorem sOwn (c : GCert) (h : CertFit c) : Holds Tryz.prog 50 [certA c] [] (.v (.bool (ownB c))) [] := by
 obtain ⟨⟨i1, i2⟩, ⟨j1, j2⟩, _⟩ := h
 refine holds_ref (ann := []) tabOk hm (byL [] [1000001]) Tryz.func50 (by kernel_rfl) rfl ?_
 simp +decide only [Tryz.f50, go_sem]
 refine Runs.call (sNameSame hm c.issuer c.subject i1 j1 i2 j2) ?_
 simp +decide only [go_sem]
 exact Runs.ret_v
set_option maxHeartbeats 4000000 in
set_option maxRecDepth 10000 in
include hm in
theorem iOwn (c : GCert) (h : CertFit c) : Holds Tryz.prog 74 [certA c] [] (.v (.bool (ownB c))) [] := by
 obtain ⟨⟨i1, i2⟩, ⟨j1, j2⟩, _⟩ := h
 refine holds_ref (ann := []) tabOk hm (byL [] [1000001]) Tryz.func74 (by kernel_rfl) rfl ?_
 simp +decide only [Tryz.f74, go_sem]
 refine Runs.call (iNameSame hm c.issuer c.subject i1 j1 i2 j2) ?_
 simp +decide only [go_sem]
 exact Runs.ret_v
end Go.Proofs.W

namespace Go.Proofs.W
open Go Go.AM Go.Proofs.G
set_option maxRecDepth 10000
variable (hm : Tryz.prog.follows .mixedOrders = true)
attribute [local go_sem] keyA keyO exS exO rowS_plain rowS_dn rowO_dn certA certO
def hostd (c : GCert) : Bool := decide ((c.ho.length : Int) + c.ne.length > 0)
def limd (c : GCert) : Bool := decide ((c.al.length : Int) + c.de.length > 0)
def rsaB (c : GCert) : Bool := decide (c.key.kind = 1)
def noBit (c : GCert) : Bool := decide ((c.usage.tdiv 2).tmod 2 = 0)
def lintR (c : GCert) : List Bool :=
 [!c.ca && !hostd c, c.ca && hostd c, !c.ca && decide (spanV c.from' c.tu > 398), c.ca && noBit c, !c.ca && !noBit c, rsaB c && decide (c.key.e < 65537), rsaB c && decide (bitsZ c.key.N < 192), c.ho.any nearB,
  decide (¬ c.ho.Nodup) || decide (¬ c.ne.Nodup), !c.ca && limd c, decide (c.serial < 64), !c.ca && ownB c, c.ho.any strangeB, !c.ca && decide ((c.pu.length : Int) > 0) && !decide ((1 : Int) ∈ c.pu), c.ne.any innerB]
structure LintW (c : GCert) : Prop where
 usage : 0 ≤ c.usage ∧ c.usage ≤ 7
 hon : c.ho.length ≤ 6
 nen : c.ne.length ≤ 6
 aln : c.al.length ≤ 6
 den : c.de.length ≤ 6
 pun : c.pu.length ≤ 6
 pat : ∀ s ∈ c.ho, patB s = true
 adr : ∀ a ∈ c.ne, addrB a = true
 nat : c.key.kind = 1 → natB c.key.N = true
theorem lint_w {c : GCert} (h : certB c = true) : LintW c := by
 simp only [certB, Bool.and_eq_true] at h
 obtain ⟨⟨⟨⟨⟨⟨⟨⟨⟨h1, h2⟩, h3⟩, h4⟩, h5⟩, h6⟩, h7⟩, h8⟩, h9⟩, h10⟩ := h
 simp only [exB, hostsB, risE, Bool.and_eq_true, List.all_eq_true, decide_eq_true_eq] at h9
 obtain ⟨⟨⟨⟨⟨⟨⟨⟨⟨x1, _⟩, x2⟩, x3⟩, x4⟩, x5⟩, x6⟩, x7⟩, x8⟩, x9⟩ := h9
 refine ⟨inB_t x2, by have := x3.2; omega, by omega, by have := x4.2; omega, by have := x5.2; omega, by omega, x3.1, x8, fun hk => ?_⟩
 unfold keyB at h7
 rw [if_pos hk] at h7
 simp only [Bool.and_eq_true] at h7
 exact h7.2.2.1
theorem near_star {s : ByteArray} (h : patB s = true) : (decide (s.size > 2) && starB s) = starB s := by
 cases hs : starB s
 ·simp
 ·by_cases h2 : s.size > 2
  ·simp [h2]
  ·exfalso
   have h3 : 2 ≤ s.size := by simp only [starB, Bool.and_eq_true, decide_eq_true_eq] at hs; omega
   have h4 : s.size = 2 := by omega
   rw [patB, if_pos hs, Bool.and_eq_true] at h
   have e : s.extract 2 s.size = ⟨#[]⟩ := by
    apply ByteArray.ext
    rw [← Array.toList_inj, ext_list, h4]
    simp
   rw [e, host_nil] at h
   exact absurd h.1 (by simp)
theorem usage_cases {u : Int} (h : 0 ≤ u ∧ u ≤ 7) : u = 0 ∨ u = 1 ∨ u = 2 ∨ u = 3 ∨ u = 4 ∨ u = 5 ∨ u = 6 ∨ u = 7 := by omega
theorem usage_one {u : Int} (h : 0 ≤ u ∧ u ≤ 7) : decide ((u.tdiv 2).tmod 2 = 1) = !decide ((u.tdiv 2).tmod 2 = 0) := by
 rcases usage_cases h with rfl | rfl | rfl | rfl | rfl | rfl | rfl | rfl <;> decide
theorem usage_and {u : Int} (h : 0 ≤ u ∧ u ≤ 7) : decide (andI .i64 u 2 = 0) = decide ((u.tdiv 2).tmod 2 = 0) := by
 rcases usage_cases h with rfl | rfl | rfl | rfl | rfl | rfl | rfl | rfl <;> decide
theorem usage_wrap {u : Int} (h : 0 ≤ u ∧ u ≤ 7) : IntKind.i64.wrap (u.tdiv 2) = u.tdiv 2 := by
 rcases usage_cases h with rfl | rfl | rfl | rfl | rfl | rfl | rfl | rfl <;> decide
def l4bAnn : Ann := [(1, [5, 8]), (3, [5, 9])]
def l4bSt8 (c : GCert) (i : Nat) : St := ⟨[.any, .any, .any, .any, .any, .ref (.l 0) 0 0 1, .any, .any, .v (.int .i64 i), .any, .any, .any, .any, .any, .any, .any, .any, .any, .any, .any, .any, .any, .any, .any, .any, .any, .any, .any, .any, .any, .any, .any, .any, .any, .any, .any, .any, .any, .any, .any, .any, .any, .any, .any, .any, .any, .any, .any, .any, .any, .any, .any, .any, .any, .any, .any, .any, .any, .any, .any, .any, .any, .any, .any, .any, .any, .any, .any, .any, .any, .any, .any, .any, .any, .any, .any, .any, .any, .any, .any, .any, .any, .any, .any, .any, .any, .any, .any, .any, .any, .any, .any, .any, .any, .any, .any, .any, .any, .any, .any, .any, .any, .any, .any, .any, .any, .any, .any, .any, .any, .any, .any, .any, .any, .any, .any, .any, .any, .any, .any, .any, .any, .any, .any, .any, .any, .any, .any, .any, .any, .any, .any, .any, .any, .any, .any, .any, .any, .any, .any, .any, .any, .any, .any, .any, .any, .any, .any, .any, .any, .any, .any, .any, .any, .any, .any, .any, .any, .any, .any, .any, .any, .any, .any, .any, .any, .any, .any, .any, .any, .any, .any, .any, .any, .any, .any, .any, .any, .any, .any, .any, .any, .any, .any, .any, .any, .any, .any, .any, .any, .any, .any, .any, .any, .any, .any, .any, .any, .any], [(0, ⟨true, 8, true, [(.agg [.v (.bool c.ca), .v (.int .i64 c.path), .v (.int .i64 c.usage), .sl .sh (c.ho.map strA), .sl .sh (c.ne.map rowS), .sl .sh (c.al.map strA), .sl .sh (c.de.map strA), .sl .sh (c.pu.map intA)])]⟩)], []⟩
def l4bSt15 (c : GCert) (i : Nat) : St := ⟨[.any, .any, .any, .any, .any, .ref (.l 0) 0 0 1, .any, .any, .any, .v (.int .i64 i), .any, .any, .any, .any, .any, .any, .any, .any, .any, .any, .any, .any, .any, .any, .any, .any, .any, .any, .any, .any, .any, .any, .any, .any, .any, .any, .any, .any, .any, .any, .any, .any, .any, .any, .any, .any, .any, .any, .any, .any, .any, .any, .any, .any, .any, .any, .any, .any, .any, .any, .any, .any, .any, .any, .any, .any, .any, .any, .any, .any, .any, .any, .any, .any, .any, .any, .any, .any, .any, .any, .any, .any, .any, .any, .any, .any, .any, .any, .any, .any, .any, .any, .any, .any, .any, .any, .any, .any, .any, .any, .any, .any, .any, .any, .any, .any, .any, .any, .any, .any, .any, .any, .any, .any, .any, .any, .any, .any, .any, .any, .any, .any, .any, .any, .any, .any, .any, .any, .any, .any, .any, .any, .any, .any, .any, .any, .any, .any, .any, .any, .any, .any, .any, .any, .any, .any, .any, .any, .any, .any, .any, .any, .any, .any, .any, .any, .any, .any, .any, .any, .any, .any, .any, .any, .any, .any, .any, .any, .any, .any, .any, .any, .any, .any, .any, .any, .any, .any, .any, .any, .any, .any, .any, .any, .any, .any, .any, .any, .any, .any, .any, .any, .any, .any, .any, .any, .any, .any, .any], [(0, ⟨true, 8, true, [(.agg [.v (.bool c.ca), .v (.int .i64 c.path), .v (.int .i64 c.usage), .sl .sh (c.ho.map strA), .sl .sh (c.ne.map rowS), .sl .sh (c.al.map strA), .sl .sh (c.de.map strA), .sl .sh (c.pu.map intA)])]⟩)], []⟩
set_option maxHeartbeats 2000000 in
include hm in
theorem sBr1 (c : GCert) (fit : CertFit c) (w : LintW c) : Holds Tryz.prog 26 [certA c, .v (.int .i64 1)] [] (.v (.bool ((lintR c).getD 0 false))) [] := by
 refine holds_ref (ann := l4bAnn) tabOk hm (byL [] [1000002]) Tryz.func26 (by kernel_rfl) rfl ?_
 have hH : decide ((c.ho.length : Int) + c.ne.length > 0) = hostd c := rfl
 have hK : decide (c.key.kind = 1) = rsaB c := rfl
 have hon := w.hon
 have nen := w.nen
 have wl : IntKind.i64.wrap ((c.ho.length : Int) + c.ne.length) = c.ho.length + c.ne.length := wrap_i64 (by omega) (by omega)
 show Runs _ _ _ _ _ (.v (.bool (!c.ca && !hostd c))) []
 simp +decide (maxSteps := 9^7) only [Tryz.f26, List.length_map, wl, hH, hK, go_sem]
 cases hca : c.ca
 ·simp +decide (maxSteps := 9^7) only [go_sem]
  exact Runs.ret_eq (by simp)
 ·simp +decide (maxSteps := 9^7) only [go_sem]
  exact Runs.ret_eq (by simp)
set_option maxHeartbeats 2000000 in
include hm in
theorem sBr2 (c : GCert) (fit : CertFit c) (w : LintW c) : Holds Tryz.prog 26 [certA c, .v (.int .i64 2)] [] (.v (.bool ((lintR c).getD 1 false))) [] := by
 refine holds_ref (ann := l4bAnn) tabOk hm (byL [] [1000002]) Tryz.func26 (by kernel_rfl) rfl ?_
 have hH : decide ((c.ho.length : Int) + c.ne.length > 0) = hostd c := rfl
 have hK : decide (c.key.kind = 1) = rsaB c := rfl
 have hon := w.hon
 have nen := w.nen
 have wl : IntKind.i64.wrap ((c.ho.length : Int) + c.ne.length) = c.ho.length + c.ne.length := wrap_i64 (by omega) (by omega)
 show Runs _ _ _ _ _ (.v (.bool (c.ca && hostd c))) []
 simp +decide (maxSteps := 9^7) only [Tryz.f26, List.length_map, wl, hH, hK, go_sem]
 cases hca : c.ca
 ·simp +decide (maxSteps := 9^7) only [go_sem]
  exact Runs.ret_eq (by simp)
 ·simp +decide (maxSteps := 9^7) only [go_sem]
  exact Runs.ret_eq (by simp)
set_option maxHeartbeats 2000000 in
include hm in
theorem sBr3 (c : GCert) (fit : CertFit c) (w : LintW c) : Holds Tryz.prog 26 [certA c, .v (.int .i64 3)] [] (.v (.bool ((lintR c).getD 2 false))) [] := by
 refine holds_ref (ann := l4bAnn) tabOk hm (byL [] [1000002]) Tryz.func26 (by kernel_rfl) rfl ?_
 have hH : decide ((c.ho.length : Int) + c.ne.length > 0) = hostd c := rfl
 have hK : decide (c.key.kind = 1) = rsaB c := rfl
 have hon := w.hon
 have nen := w.nen
 have wl : IntKind.i64.wrap ((c.ho.length : Int) + c.ne.length) = c.ho.length + c.ne.length := wrap_i64 (by omega) (by omega)
 show Runs _ _ _ _ _ (.v (.bool (!c.ca && decide (spanV c.from' c.tu > 398)))) []
 simp +decide (maxSteps := 9^7) only [Tryz.f26, List.length_map, wl, hH, hK, go_sem]
 cases hca : c.ca
 ·simp +decide (maxSteps := 9^7) only [go_sem]
  refine Runs.call (specSpan hm c.from' c.tu) ?_
  simp +decide (maxSteps := 9^7) only [go_sem]
  exact Runs.ret_eq (by simp)
 ·simp +decide (maxSteps := 9^7) only [go_sem]
  exact Runs.ret_eq (by simp)
set_option maxHeartbeats 2000000 in
include hm in
theorem sBr4 (c : GCert) (fit : CertFit c) (w : LintW c) : Holds Tryz.prog 26 [certA c, .v (.int .i64 4)] [] (.v (.bool ((lintR c).getD 3 false))) [] := by
 refine holds_ref (ann := l4bAnn) tabOk hm (byL [] [1000002]) Tryz.func26 (by kernel_rfl) rfl ?_
 have hH : decide ((c.ho.length : Int) + c.ne.length > 0) = hostd c := rfl
 have hK : decide (c.key.kind = 1) = rsaB c := rfl
 have hon := w.hon
 have nen := w.nen
 have wl : IntKind.i64.wrap ((c.ho.length : Int) + c.ne.length) = c.ho.length + c.ne.length := wrap_i64 (by omega) (by omega)
 show Runs _ _ _ _ _ (.v (.bool (c.ca && noBit c))) []
 simp +decide (maxSteps := 9^7) only [Tryz.f26, List.length_map, wl, hH, hK, go_sem]
 cases hca : c.ca
 ·simp +decide (maxSteps := 9^7) only [go_sem]
  exact Runs.ret_eq (by simp)
 ·have hu := usage_wrap w.usage
  simp +decide (maxSteps := 9^7) only [hu, go_sem]
  exact Runs.ret_eq (by simp [noBit])
set_option maxHeartbeats 2000000 in
include hm in
theorem sBr5 (c : GCert) (fit : CertFit c) (w : LintW c) : Holds Tryz.prog 26 [certA c, .v (.int .i64 5)] [] (.v (.bool ((lintR c).getD 4 false))) [] := by
 refine holds_ref (ann := l4bAnn) tabOk hm (byL [] [1000002]) Tryz.func26 (by kernel_rfl) rfl ?_
 have hH : decide ((c.ho.length : Int) + c.ne.length > 0) = hostd c := rfl
 have hK : decide (c.key.kind = 1) = rsaB c := rfl
 have hon := w.hon
 have nen := w.nen
 have wl : IntKind.i64.wrap ((c.ho.length : Int) + c.ne.length) = c.ho.length + c.ne.length := wrap_i64 (by omega) (by omega)
 show Runs _ _ _ _ _ (.v (.bool (!c.ca && !noBit c))) []
 simp +decide (maxSteps := 9^7) only [Tryz.f26, List.length_map, wl, hH, hK, go_sem]
 cases hca : c.ca
 ·have hu := usage_wrap w.usage
  have h1 := usage_one w.usage
  simp +decide (maxSteps := 9^7) only [hu, h1, go_sem]
  exact Runs.ret_eq (by simp [noBit])
 ·simp +decide (maxSteps := 9^7) only [go_sem]
  exact Runs.ret_eq (by simp)
set_option maxHeartbeats 2000000 in
include hm in
theorem sBr6 (c : GCert) (fit : CertFit c) (w : LintW c) : Holds Tryz.prog 26 [certA c, .v (.int .i64 6)] [] (.v (.bool ((lintR c).getD 5 false))) [] := by
 refine holds_ref (ann := l4bAnn) tabOk hm (byL [] [1000002]) Tryz.func26 (by kernel_rfl) rfl ?_
 have hH : decide ((c.ho.length : Int) + c.ne.length > 0) = hostd c := rfl
 have hK : decide (c.key.kind = 1) = rsaB c := rfl
 have hon := w.hon
 have nen := w.nen
 have wl : IntKind.i64.wrap ((c.ho.length : Int) + c.ne.length) = c.ho.length + c.ne.length := wrap_i64 (by omega) (by omega)
 show Runs _ _ _ _ _ (.v (.bool (rsaB c && decide (c.key.e < 65537)))) []
 simp +decide (maxSteps := 9^7) only [Tryz.f26, List.length_map, wl, hH, hK, go_sem]
 cases hr : rsaB c
 ·simp +decide (maxSteps := 9^7) only [go_sem]
  exact Runs.ret_eq (by simp)
 ·simp +decide (maxSteps := 9^7) only [go_sem]
  exact Runs.ret_eq (by simp)
set_option maxHeartbeats 2000000 in
include hm in
theorem sBr7 (c : GCert) (fit : CertFit c) (w : LintW c) : Holds Tryz.prog 26 [certA c, .v (.int .i64 7)] [] (.v (.bool ((lintR c).getD 6 false))) [] := by
 refine holds_ref (ann := l4bAnn) tabOk hm (byL [] [1000002]) Tryz.func26 (by kernel_rfl) rfl ?_
 have hH : decide ((c.ho.length : Int) + c.ne.length > 0) = hostd c := rfl
 have hK : decide (c.key.kind = 1) = rsaB c := rfl
 have hon := w.hon
 have nen := w.nen
 have wl : IntKind.i64.wrap ((c.ho.length : Int) + c.ne.length) = c.ho.length + c.ne.length := wrap_i64 (by omega) (by omega)
 show Runs _ _ _ _ _ (.v (.bool (rsaB c && decide (bitsZ c.key.N < 192)))) []
 simp +decide (maxSteps := 9^7) only [Tryz.f26, List.length_map, wl, hH, hK, go_sem]
 cases hr : rsaB c
 ·simp +decide (maxSteps := 9^7) only [go_sem]
  exact Runs.ret_eq (by simp)
 ·have hn := w.nat (by simpa [rsaB] using hr)
  simp +decide (maxSteps := 9^7) only [go_sem]
  refine Runs.call (l1Bits hm c.key.N hn) ?_
  simp +decide (maxSteps := 9^7) only [go_sem]
  exact Runs.ret_eq (by simp)
set_option maxHeartbeats 2000000 in
include hm in
theorem sBr8 (c : GCert) (fit : CertFit c) (w : LintW c) : Holds Tryz.prog 26 [certA c, .v (.int .i64 8)] [] (.v (.bool ((lintR c).getD 7 false))) [] := by
 refine holds_ref (ann := l4bAnn) tabOk hm (byL [] [1000002]) Tryz.func26 (by kernel_rfl) rfl ?_
 have hH : decide ((c.ho.length : Int) + c.ne.length > 0) = hostd c := rfl
 have hK : decide (c.key.kind = 1) = rsaB c := rfl
 have hon := w.hon
 have nen := w.nen
 have wl : IntKind.i64.wrap ((c.ho.length : Int) + c.ne.length) = c.ho.length + c.ne.length := wrap_i64 (by omega) (by omega)
 show Runs _ _ _ _ _ (.v (.bool (c.ho.any nearB))) []
 simp +decide (maxSteps := 9^7) only [Tryz.f26, List.length_map, wl, hH, hK, go_sem]
 refine Runs.while (α := Nat) (l4bSt8 c) (fun i => c.ho.length - i) (fun i => i ≤ c.ho.length ∧ ∀ s ∈ c.ho.take i, nearB s = false) 0 ⟨by omega, by simp⟩ ?_ ?_
 ·simp [go_sem, l4bAnn, l4bSt8]
 ·rintro i ⟨hi, ha⟩ ih
  simp +decide (maxSteps := 9^7) only [l4bSt8, List.length_map, go_sem]
  refine Runs.split (fun h => ?_) (fun h => ?_)
  ·have hlt : i < c.ho.length := by simpa using h
   have hg : (c.ho.map strA).getD i .any = .v (.string c.ho[i]) := by simp [List.getD, hlt, strA]
   have hz := fit.2.2.2.2.1 c.ho[i] (List.getElem_mem hlt)
   have d1 : decide (0 ≤ (i : Int) ∧ (i : Int) < c.ho.length) = true := by simp; omega
   have w1 : IntKind.i64.wrap ((i : Int) + 1) = i + 1 := wrap_i64 (by omega) (by omega)
   have cs := l8Star hm c.ho[i] hz
   rw [near_star (w.pat c.ho[i] (List.getElem_mem hlt))] at cs
   have cp := l8Parts hm c.ho[i] hz
   simp +decide (maxSteps := 9^7) only [d1, Int.toNat_natCast, hg, List.length_map, go_sem]
   refine Runs.call cs ?_
   cases hs : starB c.ho[i]
   ·have hb : nearB c.ho[i] = false := by rw [nearB, hs, Bool.false_and]
    simp +decide (maxSteps := 9^7) only [w1, go_sem]
    refine ih (i + 1) _ (by omega) ⟨by omega, any_take hlt ha hb⟩ ?_
    simp [go_sem, l4bAnn, l4bSt8]
   ·have hPl : ((partsB c.ho[i]).map strA).length = (partsB c.ho[i]).length := List.length_map _
    have hPt : List.take (partsB c.ho[i]).length ((partsB c.ho[i]).map strA) = (partsB c.ho[i]).map strA := take_map_len
    simp +decide (maxSteps := 9^7) only [d1, Int.toNat_natCast, hg, List.length_map, go_sem]
    refine Runs.call cp ?_
    simp +decide (maxSteps := 9^7) only [hPl, hPt, go_sem]
    refine Runs.split (fun e => ?_) (fun e => ?_)
    ·have hb : nearB c.ho[i] = true := by simp at e; simp [nearB, hs]; omega
     simp +decide (maxSteps := 9^7) only [go_sem]
     exact Runs.ret_eq (by rw [any_true hlt hb])
    ·have hb : nearB c.ho[i] = false := by simp at e; simp [nearB]; intro _; omega
     simp +decide (maxSteps := 9^7) only [w1, go_sem]
     refine ih (i + 1) _ (by omega) ⟨by omega, any_take hlt ha hb⟩ ?_
     simp [go_sem, l4bAnn, l4bSt8]
  ·have hge : i = c.ho.length := by simp at h; omega
   subst hge
   rw [List.take_length] at ha
   simp +decide (maxSteps := 9^7) only [go_sem]
   exact Runs.ret_eq (by rw [any_false ha])
set_option maxHeartbeats 2000000 in
include hm in
theorem sBr9 (c : GCert) (fit : CertFit c) (w : LintW c) : Holds Tryz.prog 26 [certA c, .v (.int .i64 9)] [] (.v (.bool ((lintR c).getD 8 false))) [] := by
 refine holds_ref (ann := l4bAnn) tabOk hm (byL [] [1000002]) Tryz.func26 (by kernel_rfl) rfl ?_
 have hH : decide ((c.ho.length : Int) + c.ne.length > 0) = hostd c := rfl
 have hK : decide (c.key.kind = 1) = rsaB c := rfl
 have hon := w.hon
 have nen := w.nen
 have wl : IntKind.i64.wrap ((c.ho.length : Int) + c.ne.length) = c.ho.length + c.ne.length := wrap_i64 (by omega) (by omega)
 show Runs _ _ _ _ _ (.v (.bool (decide (¬ c.ho.Nodup) || decide (¬ c.ne.Nodup)))) []
 simp +decide (maxSteps := 9^7) only [Tryz.f26, List.length_map, wl, hH, hK, go_sem]
 have ct := l14Twice hm c.ca c.path c.usage c.ho c.ne c.al c.de c.pu (by omega) (by omega) w.adr
 rw [exS] at ct
 refine Runs.call ct ?_
 simp +decide (maxSteps := 9^7) only [go_sem]
 exact Runs.ret_v
set_option maxHeartbeats 2000000 in
include hm in
theorem sBr10 (c : GCert) (fit : CertFit c) (w : LintW c) : Holds Tryz.prog 26 [certA c, .v (.int .i64 10)] [] (.v (.bool ((lintR c).getD 9 false))) [] := by
 refine holds_ref (ann := l4bAnn) tabOk hm (byL [] [1000002]) Tryz.func26 (by kernel_rfl) rfl ?_
 have hH : decide ((c.ho.length : Int) + c.ne.length > 0) = hostd c := rfl
 have hK : decide (c.key.kind = 1) = rsaB c := rfl
 have hon := w.hon
 have nen := w.nen
 have wl : IntKind.i64.wrap ((c.ho.length : Int) + c.ne.length) = c.ho.length + c.ne.length := wrap_i64 (by omega) (by omega)
 show Runs _ _ _ _ _ (.v (.bool (!c.ca && limd c))) []
 simp +decide (maxSteps := 9^7) only [Tryz.f26, List.length_map, wl, hH, hK, go_sem]
 have aln := w.aln
 have den := w.den
 have wl2 : IntKind.i64.wrap ((c.al.length : Int) + c.de.length) = c.al.length + c.de.length := wrap_i64 (by omega) (by omega)
 cases hca : c.ca
 ·simp +decide (maxSteps := 9^7) only [List.length_map, wl2, go_sem]
  exact Runs.ret_eq (by simp [limd])
 ·simp +decide (maxSteps := 9^7) only [go_sem]
  exact Runs.ret_eq (by simp)
set_option maxHeartbeats 2000000 in
include hm in
theorem sBr11 (c : GCert) (fit : CertFit c) (w : LintW c) : Holds Tryz.prog 26 [certA c, .v (.int .i64 11)] [] (.v (.bool ((lintR c).getD 10 false))) [] := by
 refine holds_ref (ann := l4bAnn) tabOk hm (byL [] [1000002]) Tryz.func26 (by kernel_rfl) rfl ?_
 have hH : decide ((c.ho.length : Int) + c.ne.length > 0) = hostd c := rfl
 have hK : decide (c.key.kind = 1) = rsaB c := rfl
 have hon := w.hon
 have nen := w.nen
 have wl : IntKind.i64.wrap ((c.ho.length : Int) + c.ne.length) = c.ho.length + c.ne.length := wrap_i64 (by omega) (by omega)
 show Runs _ _ _ _ _ (.v (.bool (decide (c.serial < 64)))) []
 simp +decide (maxSteps := 9^7) only [Tryz.f26, List.length_map, wl, hH, hK, go_sem]
 exact Runs.ret_v
set_option maxHeartbeats 2000000 in
include hm in
theorem sBr12 (c : GCert) (fit : CertFit c) (w : LintW c) : Holds Tryz.prog 26 [certA c, .v (.int .i64 12)] [] (.v (.bool ((lintR c).getD 11 false))) [] := by
 refine holds_ref (ann := l4bAnn) tabOk hm (byL [] [1000002]) Tryz.func26 (by kernel_rfl) rfl ?_
 have hH : decide ((c.ho.length : Int) + c.ne.length > 0) = hostd c := rfl
 have hK : decide (c.key.kind = 1) = rsaB c := rfl
 have hon := w.hon
 have nen := w.nen
 have wl : IntKind.i64.wrap ((c.ho.length : Int) + c.ne.length) = c.ho.length + c.ne.length := wrap_i64 (by omega) (by omega)
 show Runs _ _ _ _ _ (.v (.bool (!c.ca && ownB c))) []
 simp +decide (maxSteps := 9^7) only [Tryz.f26, List.length_map, wl, hH, hK, go_sem]
 have co := sOwn hm c fit
 rw [certA] at co
 cases hca : c.ca
 ·rw [hca] at co
  simp +decide (maxSteps := 9^7) only [go_sem]
  refine Runs.call co ?_
  simp +decide (maxSteps := 9^7) only [go_sem]
  exact Runs.ret_eq (by simp)
 ·simp +decide (maxSteps := 9^7) only [go_sem]
  exact Runs.ret_eq (by simp)
set_option maxHeartbeats 2000000 in
include hm in
theorem sBr13 (c : GCert) (fit : CertFit c) (w : LintW c) : Holds Tryz.prog 26 [certA c, .v (.int .i64 13)] [] (.v (.bool ((lintR c).getD 12 false))) [] := by
 refine holds_ref (ann := l4bAnn) tabOk hm (byL [] [1000002]) Tryz.func26 (by kernel_rfl) rfl ?_
 have hH : decide ((c.ho.length : Int) + c.ne.length > 0) = hostd c := rfl
 have hK : decide (c.key.kind = 1) = rsaB c := rfl
 have hon := w.hon
 have nen := w.nen
 have wl : IntKind.i64.wrap ((c.ho.length : Int) + c.ne.length) = c.ho.length + c.ne.length := wrap_i64 (by omega) (by omega)
 show Runs _ _ _ _ _ (.v (.bool (c.ho.any strangeB))) []
 simp +decide (maxSteps := 9^7) only [Tryz.f26, List.length_map, wl, hH, hK, go_sem]
 refine Runs.call (l14Puny hm c.ho (by omega) fit.2.2.2.2.1) ?_
 simp +decide (maxSteps := 9^7) only [go_sem]
 exact Runs.ret_v
set_option maxHeartbeats 2000000 in
include hm in
theorem sBr14 (c : GCert) (fit : CertFit c) (w : LintW c) : Holds Tryz.prog 26 [certA c, .v (.int .i64 14)] [] (.v (.bool ((lintR c).getD 13 false))) [] := by
 refine holds_ref (ann := l4bAnn) tabOk hm (byL [] [1000002]) Tryz.func26 (by kernel_rfl) rfl ?_
 have hH : decide ((c.ho.length : Int) + c.ne.length > 0) = hostd c := rfl
 have hK : decide (c.key.kind = 1) = rsaB c := rfl
 have hon := w.hon
 have nen := w.nen
 have wl : IntKind.i64.wrap ((c.ho.length : Int) + c.ne.length) = c.ho.length + c.ne.length := wrap_i64 (by omega) (by omega)
 show Runs _ _ _ _ _ (.v (.bool (!c.ca && decide ((c.pu.length : Int) > 0) && !decide ((1 : Int) ∈ c.pu)))) []
 simp +decide (maxSteps := 9^7) only [Tryz.f26, List.length_map, wl, hH, hK, go_sem]
 have pun := w.pun
 cases hca : c.ca
 ·simp +decide (maxSteps := 9^7) only [List.length_map, go_sem]
  cases hp : decide ((c.pu.length : Int) > 0)
  ·simp +decide (maxSteps := 9^7) only [go_sem]
   exact Runs.ret_eq (by simp)
  ·simp +decide (maxSteps := 9^7) only [go_sem]
   refine Runs.call (l11Has hm c.pu 1 (by omega)) ?_
   simp +decide (maxSteps := 9^7) only [go_sem]
   exact Runs.ret_eq (by simp)
 ·simp +decide (maxSteps := 9^7) only [go_sem]
  exact Runs.ret_eq (by simp)
set_option maxHeartbeats 2000000 in
include hm in
theorem sBr15 (c : GCert) (fit : CertFit c) (w : LintW c) : Holds Tryz.prog 26 [certA c, .v (.int .i64 15)] [] (.v (.bool ((lintR c).getD 14 false))) [] := by
 refine holds_ref (ann := l4bAnn) tabOk hm (byL [] [1000002]) Tryz.func26 (by kernel_rfl) rfl ?_
 have hH : decide ((c.ho.length : Int) + c.ne.length > 0) = hostd c := rfl
 have hK : decide (c.key.kind = 1) = rsaB c := rfl
 have hon := w.hon
 have nen := w.nen
 have wl : IntKind.i64.wrap ((c.ho.length : Int) + c.ne.length) = c.ho.length + c.ne.length := wrap_i64 (by omega) (by omega)
 show Runs _ _ _ _ _ (.v (.bool (c.ne.any innerB))) []
 simp +decide (maxSteps := 9^7) only [Tryz.f26, List.length_map, wl, hH, hK, go_sem]
 refine Runs.while (α := Nat) (l4bSt15 c) (fun i => c.ne.length - i) (fun i => i ≤ c.ne.length ∧ ∀ s ∈ c.ne.take i, innerB s = false) 0 ⟨by omega, by simp⟩ ?_ ?_
 ·simp [go_sem, l4bAnn, l4bSt15]
 ·rintro i ⟨hi, ha⟩ ih
  simp +decide (maxSteps := 9^7) only [l4bSt15, List.length_map, go_sem]
  refine Runs.split (fun h => ?_) (fun h => ?_)
  ·have hlt : i < c.ne.length := by simpa using h
   have hg : (c.ne.map rowS).getD i .any = .sl .sh (c.ne[i].map intA) := by simp [List.getD, hlt, rowS]
   have ad := w.adr c.ne[i] (List.getElem_mem hlt)
   have d1 : decide (0 ≤ (i : Int) ∧ (i : Int) < c.ne.length) = true := by simp; omega
   have w1 : IntKind.i64.wrap ((i : Int) + 1) = i + 1 := wrap_i64 (by omega) (by omega)
   have c1 := specInNet hm [10, 0, 0, 0] c.ne[i] 8 24 net10 ad (by decide) rfl rfl
   have c2 := specInNet hm [192, 168, 0, 0] c.ne[i] 16 16 net192 ad (by decide) rfl rfl
   rw [List.map_cons, List.map_cons, List.map_cons, List.map_cons, List.map_nil] at c1 c2
   simp only [intA] at c1 c2
   simp +decide (maxSteps := 9^7) only [d1, Int.toNat_natCast, hg, List.length_map, go_sem]
   refine Runs.call c1 ?_
   cases h1 : inNet [10, 0, 0, 0] c.ne[i] 24
   ·simp +decide (maxSteps := 9^7) only [d1, Int.toNat_natCast, hg, List.length_map, go_sem]
    refine Runs.call c2 ?_
    cases h2 : inNet [192, 168, 0, 0] c.ne[i] 16
    ·have hb : innerB c.ne[i] = false := by rw [innerB, h1, h2]; rfl
     simp +decide (maxSteps := 9^7) only [w1, go_sem]
     refine ih (i + 1) _ (by omega) ⟨by omega, any_take hlt ha hb⟩ ?_
     simp [go_sem, l4bAnn, l4bSt15]
    ·have hb : innerB c.ne[i] = true := by rw [innerB, h1, h2]; rfl
     simp +decide (maxSteps := 9^7) only [go_sem]
     exact Runs.ret_eq (by rw [any_true hlt hb])
   ·have hb : innerB c.ne[i] = true := by rw [innerB, h1]; rfl
    simp +decide (maxSteps := 9^7) only [go_sem]
    exact Runs.ret_eq (by rw [any_true hlt hb])
  ·have hge : i = c.ne.length := by simp at h; omega
   subst hge
   rw [List.take_length] at ha
   simp +decide (maxSteps := 9^7) only [go_sem]
   exact Runs.ret_eq (by rw [any_false ha])
end Go.Proofs.W

namespace Go.Proofs.W
open Go Go.AM Go.Proofs.G
variable (hm : Tryz.prog.follows .mixedOrders = true)
attribute [local go_sem] keyA keyO exS exO rowS_plain rowS_dn rowO_dn certA certO
def bkS1 : Sched := .take 0 (.take 2 (.take 3 (.ld 1 (.ld 4 (.take 5 (.alf 6 7 (.take 8 .fin)))))))
def bkS3 : Sched := .take 0 (.ld 1 (.take 2 (.take 3 (.take 4 (.take 5 (.take 6 (.jn [1, 2, 3, 4, 5, 26] (.take 7 (.ld 8 (.take 9 (.take 10 (.take 11 (.jn [1, 2, 3, 4, 26, 31] (.take 12 (.ld 13 (.take 14 (.take 15 (.take 16 (.ld 17 (.take 18 (.ld 19 (.take 23 (.ld 24 (.take 31 (.ld 32 (.take 33 (.take 40 (.take 47 (.take 55 (.ld 56 (.take 58 (.ld 59 (.take 66 (.ld 67 (.take 68 (.take 69 (.ld 70 (.take 71 (.take 72 (.take 73 (.take 79 (.ld 80 (.take 81 (.ld 82 (.take 89 (.ld 90 (.take 92 (.ld 93 (.take 94 (.take 95 (.take 107 (.ld 108 (.alt 20 (.take 21 (.take 22 (.jn [1, 2, 3, 26, 31, 42, 44, 53, 60, 67, 76, 79, 93, 101, 102, 110, 115, 128] (.take 25 (.take 26 (.ld 27 (.take 28 (.take 29 (.take 30 (.jn [1, 2, 3, 26, 31, 42, 50, 53, 60, 67, 76, 79, 93, 101, 102, 110, 115, 128] (.take 34 (.take 35 (.ld 36 (.take 37 (.take 38 (.take 39 (.jn [1, 2, 3, 26, 31, 42, 50, 59, 60, 67, 76, 79, 93, 101, 102, 110, 115, 128] (.take 41 (.take 42 (.take 43 (.ld 44 (.take 45 (.take 46 (.jn [1, 2, 3, 26, 31, 42, 50, 59, 66, 67, 76, 79, 93, 101, 102, 110, 115, 128] (.take 48 (.take 49 (.take 50 (.ld 51 (.alt 52 (.take 53 (.take 54 (.jn [2, 3, 26, 31, 42, 50, 59, 66, 74, 76, 79, 93, 101, 102, 110, 115, 128] (.alt 57 (.alt 60 (.take 61 (.take 62 (.ld 63 (.alt 64 (.take 65 (.jn [2, 3, 26, 31, 42, 50, 59, 66, 74, 77, 85, 93, 101, 102, 110, 115, 128] (.take 74 (.take 75 (.ld 76 (.take 77 (.take 78 (.jn [2, 3, 26, 31, 42, 50, 59, 66, 74, 77, 85, 98, 101, 102, 110, 115, 128] (.alt 83 (.take 84 (.take 85 (.ld 86 (.take 87 (.take 88 (.jn [2, 3, 26, 31, 42, 50, 59, 66, 74, 77, 85, 98, 101, 108, 110, 115, 128] (.alt 91 (.take 96 (.take 97 (.ld 98 (.alt 99 (.take 100 (.take 101 (.jn [2, 3, 26, 31, 42, 50, 59, 66, 74, 77, 85, 98, 101, 108, 111, 121, 128] (.take 102 (.take 103 (.ld 104 (.take 105 (.take 106 (.jn [2, 26, 31, 42, 50, 59, 66, 74, 77, 85, 98, 101, 108, 111, 126, 128] (.alt 109 (.alt 110 (.alt 111 .fin .nil) .nil) .nil)))))))))) .nil)))) .nil))))))) .nil))))))))) .nil)))) .nil) .nil)))) .nil))))))))))))))))))))))))))))) .nil)))))))))))))))))))))))))))))))))))))))))))))))))))))
theorem opsApp_nil (l : List Oper) : List.append [] l = l := Eq.trans rfl rfl
theorem opsApp_cons (a : Oper) (l m : List Oper) : List.append (a :: l) m = a :: List.append l m := Eq.trans rfl rfl
attribute [local go_sem] bkS1 bkS3 opsApp_nil opsApp_cons
set_option maxHeartbeats 8000000 in
set_option maxRecDepth 10000 in
include hm in
theorem broken (c : GCert) (fit : CertFit c) (w : LintW c) : Holds Tryz.prog 32 [certA c] [] (.agg ((lintR c).map boolA)) [] := by
 have hon := w.hon
 have nen := w.nen
 have aln := w.aln
 have den := w.den
 have pun := w.pun
 have wl : IntKind.i64.wrap ((c.ho.length : Int) + c.ne.length) = c.ho.length + c.ne.length := wrap_i64 (by omega) (by omega)
 have wl2 : IntKind.i64.wrap ((c.al.length : Int) + c.de.length) = c.al.length + c.de.length := wrap_i64 (by omega) (by omega)
 have hH : decide ((c.ho.length : Int) + c.ne.length > 0) = hostd c := rfl
 have hL : decide ((c.al.length : Int) + c.de.length > 0) = limd c := rfl
 have hK : decide (c.key.kind = 1) = rsaB c := rfl
 have hu := usage_and w.usage
 have cS := implSpan hm c.from' c.tu
 have cN := contFunc0 hm 69 c.ho nearB (by omega) (fun s hs => isNear hm s (fit.2.2.2.2.1 s hs))
 have cT := isTwiceS hm c.ho (by omega)
 have cI := isTwiceI hm c.ne (by omega) (fun r hr => by obtain ⟨_, _, _, _, rfl, _⟩ := addr_four (w.adr r hr); simp)
 have cO := iOwn hm c fit
 have cX := contFunc0 hm 75 c.ho strangeB (by omega) (fun s hs => isStrange hm s (fit.2.2.2.2.1 s hs))
 have cC := containsInt hm c.pu 1 (by omega)
 have cJ := contFuncI hm 78 c.ne innerB (by omega) (fun s hs => isInner hm s (w.adr s hs))
 refine holds_ref (ann := []) tabOk hm (byL [] [1000001]) Tryz.func32 (by kernel_rfl) rfl ?_
 simp +decide (maxSteps := 9^7) only [Tryz.f32, go_sem]
 refine Runs.draw (st1 := ?s1) (draws_ref (ann := []) tabOk (byL [] [1000001]) bkS1 (by kernel_rfl) ?p1) ?q1
 case p1 =>
  intro K r X hK
  simp +decide (maxSteps := 9^7) only [go_sem]
  exact hK
 case q1 =>
  simp +decide (maxSteps := 9^7) only [List.length_map, wl, hH, hK, go_sem]
  refine Runs.draw (st1 := ?s3) (draws_ref (ann := []) tabOk (byL [] [1000001]) bkS3 (by kernel_rfl) ?p3) ?q3
  case p3 =>
   intro K r X hK3
   simp +decide (maxSteps := 9^7) only [go_sem]
   refine Runs.meetA (keep := ?kp1) (kj := ?kj1) (base := ?b1) (x := ?x1) 26 ?tail1 ?h1 ?g1
   case h1 =>
    intro J e
    simp +decide (maxSteps := 9^7) only [hH, hL, hK, hu, wl, wl2, List.length_map, go_sem]
    refine J _ ?_ ?_
    ·conv => lhs; simp [go_sem]
    ·exact rfl
   case g1 =>
    intro J e
    simp +decide (maxSteps := 9^7) only [hH, hL, hK, hu, wl, wl2, List.length_map, go_sem]
    refine J _ ?_
    simp [go_sem]
   case tail1 =>
    simp +decide (maxSteps := 9^7) only [hH, hL, hK, hu, wl, wl2, List.length_map, go_sem]
    refine Runs.meetA (keep := ?kp2) (kj := ?kj2) (base := ?b2) (x := ?x2) 31 ?tail2 ?h2 ?g2
    case h2 =>
     intro J e
     simp +decide (maxSteps := 9^7) only [hH, hL, hK, hu, wl, wl2, List.length_map, go_sem]
     refine J _ ?_ ?_
     ·conv => lhs; simp [go_sem]
     ·exact rfl
    case g2 =>
     intro J e
     simp +decide (maxSteps := 9^7) only [hH, hL, hK, hu, wl, wl2, List.length_map, go_sem]
     refine J _ ?_
     simp [go_sem]
    case tail2 =>
     simp +decide (maxSteps := 9^7) only [hH, hL, hK, hu, wl, wl2, List.length_map, go_sem]
     refine Runs.meetA (keep := ?kp3) (kj := ?kj3) (base := ?b3) (x := ?x3) 42 ?tail3 ?h3 ?g3
     case h3 =>
      intro J e
      simp +decide (maxSteps := 9^7) only [hH, hL, hK, hu, wl, wl2, List.length_map, go_sem]
      refine Runs.call cS ?_
      simp +decide (maxSteps := 9^7) only [hH, hL, hK, hu, wl, wl2, List.length_map, go_sem]
      refine J _ ?_ ?_
      ·conv => lhs; simp [go_sem]
      ·exact rfl
     case g3 =>
      intro J e
      simp +decide (maxSteps := 9^7) only [hH, hL, hK, hu, wl, wl2, List.length_map, go_sem]
      refine J _ ?_
      simp [go_sem]
     case tail3 =>
      simp +decide (maxSteps := 9^7) only [hH, hL, hK, hu, wl, wl2, List.length_map, go_sem]
      refine Runs.meetA (keep := ?kp4) (kj := ?kj4) (base := ?b4) (x := ?x4) 50 ?tail4 ?h4 ?g4
      case h4 =>
       intro J e
       simp +decide (maxSteps := 9^7) only [hH, hL, hK, hu, wl, wl2, List.length_map, go_sem]
       refine J _ ?_ ?_
       ·conv => lhs; simp [go_sem]
       ·exact rfl
      case g4 =>
       intro J e
       simp +decide (maxSteps := 9^7) only [hH, hL, hK, hu, wl, wl2, List.length_map, go_sem]
       refine J _ ?_
       simp [go_sem]
      case tail4 =>
       simp +decide (maxSteps := 9^7) only [hH, hL, hK, hu, wl, wl2, List.length_map, go_sem]
       refine Runs.meetA (keep := ?kp5) (kj := ?kj5) (base := ?b5) (x := ?x5) 59 ?tail5 ?h5 ?g5
       case h5 =>
        intro J e
        simp +decide (maxSteps := 9^7) only [hH, hL, hK, hu, wl, wl2, List.length_map, go_sem]
        refine J _ ?_ ?_
        ·conv => lhs; simp [go_sem]
        ·exact rfl
       case g5 =>
        intro J e
        simp +decide (maxSteps := 9^7) only [hH, hL, hK, hu, wl, wl2, List.length_map, go_sem]
        refine J _ ?_
        simp [go_sem]
       case tail5 =>
        simp +decide (maxSteps := 9^7) only [hH, hL, hK, hu, wl, wl2, List.length_map, go_sem]
        refine Runs.meetA (keep := ?kp6) (kj := ?kj6) (base := ?b6) (x := ?x6) 66 ?tail6 ?h6 ?g6
        case h6 =>
         intro J e
         simp +decide (maxSteps := 9^7) only [hH, hL, hK, hu, wl, wl2, List.length_map, go_sem]
         refine J _ ?_ ?_
         ·conv => lhs; simp [go_sem]
         ·exact rfl
        case g6 =>
         intro J e
         simp +decide (maxSteps := 9^7) only [hH, hL, hK, hu, wl, wl2, List.length_map, go_sem]
         refine J _ ?_
         simp [go_sem]
        case tail6 =>
         simp +decide (maxSteps := 9^7) only [hH, hL, hK, hu, wl, wl2, List.length_map, go_sem]
         refine Runs.meetA (keep := ?kp7) (kj := ?kj7) (base := ?b7) (x := ?x7) 74 ?tail7 ?h7 ?g7
         case h7 =>
          intro J e
          have cB := natBits hm c.key.N (w.nat (by simpa [rsaB] using e))
          simp +decide (maxSteps := 9^7) only [hH, hL, hK, hu, wl, wl2, List.length_map, go_sem]
          refine Runs.call cB ?_
          simp +decide (maxSteps := 9^7) only [hH, hL, hK, hu, wl, wl2, List.length_map, go_sem]
          refine J _ ?_ ?_
          ·conv => lhs; simp [go_sem]
          ·exact rfl
         case g7 =>
          intro J e
          simp +decide (maxSteps := 9^7) only [hH, hL, hK, hu, wl, wl2, List.length_map, go_sem]
          refine J _ ?_
          simp [go_sem]
         case tail7 =>
          simp +decide (maxSteps := 9^7) only [hH, hL, hK, hu, wl, wl2, List.length_map, go_sem]
          refine Runs.call cN ?_
          simp +decide (maxSteps := 9^7) only [hH, hL, hK, hu, wl, wl2, List.length_map, go_sem]
          refine Runs.call cT ?_
          simp +decide (maxSteps := 9^7) only [hH, hL, hK, hu, wl, wl2, List.length_map, go_sem]
          refine Runs.meetO (keep := ?kp8) (kj := ?kj8) (base := ?b8) (x := ?x8) 85 ?tail8 ?h8 ?g8
          case h8 =>
           intro J e
           simp +decide (maxSteps := 9^7) only [hH, hL, hK, hu, wl, wl2, List.length_map, go_sem]
           refine Runs.call cI ?_
           simp +decide (maxSteps := 9^7) only [hH, hL, hK, hu, wl, wl2, List.length_map, go_sem]
           refine J _ ?_ ?_
           ·conv => lhs; simp [go_sem]
           ·exact rfl
          case g8 =>
           intro J e
           simp +decide (maxSteps := 9^7) only [hH, hL, hK, hu, wl, wl2, List.length_map, go_sem]
           refine J _ ?_
           simp [go_sem]
          case tail8 =>
           simp +decide (maxSteps := 9^7) only [hH, hL, hK, hu, wl, wl2, List.length_map, go_sem]
           refine Runs.meetA (keep := ?kp9) (kj := ?kj9) (base := ?b9) (x := ?x9) 98 ?tail9 ?h9 ?g9
           case h9 =>
            intro J e
            simp +decide (maxSteps := 9^7) only [hH, hL, hK, hu, wl, wl2, List.length_map, go_sem]
            refine J _ ?_ ?_
            ·conv => lhs; simp [go_sem]
            ·exact rfl
           case g9 =>
            intro J e
            simp +decide (maxSteps := 9^7) only [hH, hL, hK, hu, wl, wl2, List.length_map, go_sem]
            refine J _ ?_
            simp [go_sem]
           case tail9 =>
            simp +decide (maxSteps := 9^7) only [hH, hL, hK, hu, wl, wl2, List.length_map, go_sem]
            refine Runs.call cO ?_
            simp +decide (maxSteps := 9^7) only [hH, hL, hK, hu, wl, wl2, List.length_map, go_sem]
            refine Runs.meetA (keep := ?kp10) (kj := ?kj10) (base := ?b10) (x := ?x10) 108 ?tail10 ?h10 ?g10
            case h10 =>
             intro J e
             simp +decide (maxSteps := 9^7) only [hH, hL, hK, hu, wl, wl2, List.length_map, go_sem]
             refine J _ ?_ ?_
             ·conv => lhs; simp [go_sem]
             ·exact rfl
            case g10 =>
             intro J e
             simp +decide (maxSteps := 9^7) only [hH, hL, hK, hu, wl, wl2, List.length_map, go_sem]
             refine J _ ?_
             simp [go_sem]
            case tail10 =>
             simp +decide (maxSteps := 9^7) only [hH, hL, hK, hu, wl, wl2, List.length_map, go_sem]
             refine Runs.call cX ?_
             simp +decide (maxSteps := 9^7) only [hH, hL, hK, hu, wl, wl2, List.length_map, go_sem]
             refine Runs.meetA (keep := ?kp11) (kj := ?kj11) (base := ?b11) (x := ?x11) 121 ?tail11 ?h11 ?g11
             case h11 =>
              intro J e
              simp +decide (maxSteps := 9^7) only [hH, hL, hK, hu, wl, wl2, List.length_map, go_sem]
              refine Runs.call cC ?_
              simp +decide (maxSteps := 9^7) only [hH, hL, hK, hu, wl, wl2, List.length_map, go_sem]
              refine J _ ?_ ?_
              ·conv => lhs; simp [go_sem]
              ·exact rfl
             case g11 =>
              intro J e
              simp +decide (maxSteps := 9^7) only [hH, hL, hK, hu, wl, wl2, List.length_map, go_sem]
              refine J _ ?_
              simp [go_sem]
             case tail11 =>
              simp +decide (maxSteps := 9^7) only [hH, hL, hK, hu, wl, wl2, List.length_map, go_sem]
              refine Runs.meetA (keep := ?kp12) (kj := ?kj12) (base := ?b12) (x := ?x12) 126 ?tail12 ?h12 ?g12
              case h12 =>
               intro J e
               simp +decide (maxSteps := 9^7) only [hH, hL, hK, hu, wl, wl2, List.length_map, go_sem]
               refine J _ ?_ ?_
               ·conv => lhs; simp [go_sem]
               ·exact rfl
              case g12 =>
               intro J e
               simp +decide (maxSteps := 9^7) only [hH, hL, hK, hu, wl, wl2, List.length_map, go_sem]
               refine J _ ?_
               simp [go_sem]
              case tail12 =>
               simp +decide (maxSteps := 9^7) only [hH, hL, hK, hu, wl, wl2, List.length_map, go_sem]
               refine Runs.call cJ ?_
               simp +decide (maxSteps := 9^7) only [hH, hL, hK, hu, wl, wl2, List.length_map, List.range_zero, go_sem]
               exact hK3
  case q3 =>
   simp +decide (maxSteps := 9^7) only [go_sem]
   exact Runs.ret_eq (by simp [lintR, boolA, noBit, Bool.and_comm, Bool.and_left_comm, Bool.and_assoc])
end Go.Proofs.W

namespace Go.Proofs.W
open Go Go.AM Go.Proofs.G
variable (hm : Tryz.prog.follows .mixedOrders = true)
attribute [local go_sem] keyA keyO exS exO rowS_plain rowS_dn rowO_dn certA certO
def lintL : List Bool → Nat → List Int
 | [], _ => []
 | b :: r, k => if b = true then ((k : Int) + 1) :: lintL r (k + 1) else lintL r (k + 1)
theorem lintL_app : ∀ (L M : List Bool) (k : Nat), lintL (L ++ M) k = lintL L k ++ lintL M (k + L.length)
 | [], M, k => rfl
 | b :: L, M, k => by
  have := lintL_app L M (k + 1)
  simp only [List.cons_append, lintL, List.length_cons]
  rw [show k + (L.length + 1) = k + 1 + L.length by omega]
  cases b <;> simp [this]
def lintP (L : List Bool) (i : Nat) : List Int := lintL (L.take i) 0
theorem lintP_succ {L : List Bool} {i : Nat} (h : i < L.length) : lintP L (i + 1) = lintP L i ++ (if L.getD i false = true then [((i : Int) + 1)] else []) := by
 unfold lintP
 rw [List.take_succ_eq_append_getElem h, lintL_app]
 simp only [List.length_take, Nat.min_eq_left (Nat.le_of_lt h), Nat.zero_add, lintL, List.getD, List.getElem?_eq_getElem h, Option.getD_some]
theorem lintL_len : ∀ (L : List Bool) (k : Nat), (lintL L k).length ≤ L.length
 | [], _ => Nat.le_refl _
 | b :: L, k => by
  have := lintL_len L (k + 1)
  simp only [lintL, List.length_cons]
  cases b <;> simp <;> omega
theorem lintP_len (L : List Bool) (i : Nat) : (lintP L i).length ≤ i := by
 have := lintL_len (L.take i) 0
 simp only [List.length_take] at this
 unfold lintP
 omega
theorem lintP_all (L : List Bool) : lintP L L.length = lintL L 0 := by rw [lintP, List.take_length]
theorem lintR_len (c : GCert) : (lintR c).length = 15 := rfl
noncomputable def lintC (c : GCert) : List Int := if certB c = true then lintL (lintR c) 0 else []
include hm in
theorem sBr (c : GCert) (fit : CertFit c) (w : LintW c) (i : Nat) (h : i < 15) : Holds Tryz.prog 26 [certA c, .v (.int .i64 ((i : Int) + 1))] [] (.v (.bool ((lintR c).getD i false))) [] := by
 match i, h with
 | 0, _ => exact sBr1 hm c fit w
 | 1, _ => exact sBr2 hm c fit w
 | 2, _ => exact sBr3 hm c fit w
 | 3, _ => exact sBr4 hm c fit w
 | 4, _ => exact sBr5 hm c fit w
 | 5, _ => exact sBr6 hm c fit w
 | 6, _ => exact sBr7 hm c fit w
 | 7, _ => exact sBr8 hm c fit w
 | 8, _ => exact sBr9 hm c fit w
 | 9, _ => exact sBr10 hm c fit w
 | 10, _ => exact sBr11 hm c fit w
 | 11, _ => exact sBr12 hm c fit w
 | 12, _ => exact sBr13 hm c fit w
 | 13, _ => exact sBr14 hm c fit w
 | 14, _ => exact sBr15 hm c fit w
def slnAnn : Ann := [(0, [1, 4, 5])]
def slnSt (c : GCert) (i : Nat) : St := ⟨[.any, .ptr [certA c] 0 0, .any, .any, .ms (.l 0) 0 (lintP (lintR c) i).length (lintP (lintR c) i).length, .v (.int .i64 ((i : Int) + 1)), .any, .any, .any, .any, .any, .any, .any, .any, .any, .any, .any, .any, .any, .any, .any, .any, .any], [(0, ⟨true, 1, false, (lintP (lintR c) i).map intA⟩)], []⟩
set_option maxHeartbeats 4000000 in
set_option maxRecDepth 10000 in
include hm in
theorem sLint (c : GCert) (fit : CertFit c) : Holds Tryz.prog 14 [certA c] [] (.tup [.sl (.ow 1) ((lintC c).map intA), .v (.bool (certB c))]) [] := by
 refine holds_ref (ann := slnAnn) tabOk hm (byL [] [1000001]) Tryz.func14 (by kernel_rfl) rfl ?_
 have c1 := sCertOk hm c fit
 rw [certA] at c1
 simp +decide (maxSteps := 9^7) only [Tryz.f14, go_sem]
 refine Runs.call c1 ?_
 cases g : certB c
 ·simp +decide (maxSteps := 9^7) only [go_sem]
  exact Runs.ret_eq (by simp [lintC, g])
 ·have w := lint_w g
  simp +decide (maxSteps := 9^7) only [go_sem]
  refine Runs.while (α := Nat) (slnSt c) (fun i => 15 - i) (fun i => i ≤ 15) 0 (by omega) ?_ ?_
  ·simp [go_sem, slnAnn, slnSt, lintP, lintL]
  ·intro i hi ih
   have hP := lintP_len (lintR c) i
   simp +decide (maxSteps := 9^7) only [slnSt, go_sem]
   refine Runs.split (fun h => ?_) (fun h => ?_)
   ·have hlt : i < 15 := by simp at h; omega
    have cb := sBr hm c fit w i hlt
    rw [certA] at cb
    have w1 : IntKind.i64.wrap ((i : Int) + 1 + 1) = (i : Int) + 1 + 1 := wrap_i64 (by omega) (by omega)
    have hS := lintP_succ (L := lintR c) (i := i) (by rw [lintR_len]; omega)
    simp +decide (maxSteps := 9^7) only [go_sem]
    refine Runs.call cb ?_
    cases hb : (lintR c).getD i false
    ·rw [hb] at hS
     simp +decide (maxSteps := 9^7) only [w1, go_sem]
     refine ih (i + 1) _ (by omega) (by omega) ?_
     simp [go_sem, slnAnn, slnSt, hS]
    ·rw [hb] at hS
     have hn : decide ((lintP (lintR c) i).length + 1 ≤ 1073741824) = true := by simp; omega
     simp +decide (maxSteps := 9^7) (disch := first | omega | (simp only [ll]; omega)) only [w1, hn, List.length_map, if_pos, go_sem]
     refine ih (i + 1) _ (by omega) (by omega) ?_
     simp [go_sem, slnAnn, slnSt, hS]
   ·have hge : i = 15 := by simp at h; omega
    subst hge
    have hA := lintP_all (lintR c)
    rw [lintR_len] at hA
    simp +decide (maxSteps := 9^7) only [hA, go_sem]
    exact Runs.ret_eq (by simp [lintC, g])
theorem bit15 (b : Nat → Bool) (i : Nat) (h : i < 15) : ([.v (.bool (b 0)), .v (.bool (b 1)), .v (.bool (b 2)), .v (.bool (b 3)), .v (.bool (b 4)), .v (.bool (b 5)), .v (.bool (b 6)), .v (.bool (b 7)), .v (.bool (b 8)), .v (.bool (b 9)), .v (.bool (b 10)), .v (.bool (b 11)), .v (.bool (b 12)), .v (.bool (b 13)), .v (.bool (b 14))] : List A).getD i .any = .v (.bool (b i)) := by
 match i, h with
 | 0, _ => rfl
 | 1, _ => rfl
 | 2, _ => rfl
 | 3, _ => rfl
 | 4, _ => rfl
 | 5, _ => rfl
 | 6, _ => rfl
 | 7, _ => rfl
 | 8, _ => rfl
 | 9, _ => rfl
 | 10, _ => rfl
 | 11, _ => rfl
 | 12, _ => rfl
 | 13, _ => rfl
 | 14, _ => rfl
def ilnAnn : Ann := [(0, [1, 4, 12, 13])]
def ilnSt (c : GCert) (b : Nat → Bool) (i : Nat) : St := ⟨[.any, .ptr [certA c] 0 0, .any, .any, .ms (.l 0) 0 (lintP (lintR c) i).length (lintP (lintR c) i).length, .any, .any, .any, .any, .any, .any, .any, .agg [.v (.bool (b 0)), .v (.bool (b 1)), .v (.bool (b 2)), .v (.bool (b 3)), .v (.bool (b 4)), .v (.bool (b 5)), .v (.bool (b 6)), .v (.bool (b 7)), .v (.bool (b 8)), .v (.bool (b 9)), .v (.bool (b 10)), .v (.bool (b 11)), .v (.bool (b 12)), .v (.bool (b 13)), .v (.bool (b 14))], .v (.int .i64 i), .any, .any, .any, .any, .any, .any, .any, .any, .any, .any, .any], [(0, ⟨true, 1, false, (lintP (lintR c) i).map intA⟩)], []⟩
set_option maxHeartbeats 4000000 in
set_option maxRecDepth 10000 in
include hm in
theorem iLint (c : GCert) (fit : CertFit c) : Holds Tryz.prog 16 [certA c] [] (.tup [.sl (.ow 1) ((lintC c).map intA), .v (.bool (certB c))]) [] := by
 refine holds_ref (ann := ilnAnn) tabOk hm (byL [] [1000001]) Tryz.func16 (by kernel_rfl) rfl ?_
 have c1 := iCertOk hm c fit
 rw [certA] at c1
 simp +decide (maxSteps := 9^7) only [Tryz.f16, go_sem]
 refine Runs.call c1 ?_
 cases g : certB c
 ·simp +decide (maxSteps := 9^7) only [go_sem]
  have e : (lintC c).map intA = [] := by simp [lintC, g]
  rw [e]
  exact Runs.ret (.tup (.nils _ (.same _ .nil)) .nil) rfl
 ·have w := lint_w g
  have c2 := broken hm c fit w
  obtain ⟨b, hb0⟩ : ∃ b : Nat → Bool, b = fun k => (lintR c).getD k false := ⟨_, rfl⟩
  have hR : (lintR c).map boolA = [.v (.bool (b 0)), .v (.bool (b 1)), .v (.bool (b 2)), .v (.bool (b 3)), .v (.bool (b 4)), .v (.bool (b 5)), .v (.bool (b 6)), .v (.bool (b 7)), .v (.bool (b 8)), .v (.bool (b 9)), .v (.bool (b 10)), .v (.bool (b 11)), .v (.bool (b 12)), .v (.bool (b 13)), .v (.bool (b 14))] := by rw [hb0]; rfl
  rw [hR] at c2
  rw [certA] at c2
  simp +decide (maxSteps := 9^7) only [go_sem]
  refine Runs.call c2 ?_
  simp +decide (maxSteps := 9^7) only [go_sem]
  refine Runs.while (α := Nat) (ilnSt c b) (fun i => 15 - i) (fun i => i ≤ 15) 0 (by omega) ?_ ?_
  ·simp [go_sem, ilnAnn, ilnSt, lintP, lintL]
  ·intro i hi ih
   have hP := lintP_len (lintR c) i
   simp +decide (maxSteps := 9^7) only [ilnSt, go_sem]
   refine Runs.split (fun h => ?_) (fun h => ?_)
   ·have hlt : i < 15 := by simp at h; omega
    have w1 : IntKind.i64.wrap ((i : Int) + 1) = (i : Int) + 1 := wrap_i64 (by omega) (by omega)
    have hS := lintP_succ (L := lintR c) (i := i) (by rw [lintR_len]; omega)
    have d1 : decide (0 ≤ (i : Int) ∧ (i : Int) < ((15 : Nat) : Int)) = true := by simp; omega
    have hg := bit15 b i hlt
    have hbi : b i = (lintR c).getD i false := by rw [hb0]
    simp +decide (maxSteps := 9^7) only [d1, hg, w1, Int.toNat_natCast, go_sem]
    cases hb : b i
    ·rw [← hbi, hb] at hS
     simp +decide (maxSteps := 9^7) only [w1, go_sem]
     refine ih (i + 1) _ (by omega) (by omega) ?_
     simp [go_sem, ilnAnn, ilnSt, hS]
    ·rw [← hbi, hb] at hS
     have hn : decide ((lintP (lintR c) i).length + 1 ≤ 1073741824) = true := by simp; omega
     simp +decide (maxSteps := 9^7) (disch := first | omega | (simp only [ll]; omega)) only [w1, hn, List.length_map, if_pos, go_sem]
     refine ih (i + 1) _ (by omega) (by omega) ?_
     simp [go_sem, ilnAnn, ilnSt, hS]
   ·have hge : i = 15 := by simp at h; omega
    subst hge
    have hA := lintP_all (lintR c)
    rw [lintR_len] at hA
    simp +decide (maxSteps := 9^7) only [hA, go_sem]
    exact Runs.ret_eq (by simp [lintC, g])
end Go.Proofs.W

namespace Go.Proofs.W
open Go Go.AM Go.Proofs.G
set_option maxRecDepth 10000
variable (hm : Tryz.prog.follows .mixedOrders = true)
attribute [local go_sem] rowS_plain rowS_dn rowO_dn
def certZ : A := .agg [.v (.int .i64 0), .v (.slice none 0 0), .v (.slice none 0 0), .v (.int .i64 0), .v (.int .i64 0), .v (.int .i64 0), .v (.slice none 0 0), .v (.int .i64 0), .v (.int .i64 0), .v (.int .i64 0), .v (.int .i64 0), .v (.int .i64 0), .v (.int .i64 0), .v (.int .i64 0), .v (.int .i64 0), .v (.int .i64 0), .v (.bool false), .v (.int .i64 0), .v (.int .i64 0), .v (.int .i64 0), .v (.int .i64 0), .v (.int .i64 0), .v (.int .i64 0), .v (.int .i64 0), .v (.int .i64 0), .v (.bool false), .v (.int .i64 0), .v (.int .i64 0), .v (.slice none 0 0), .v (.slice none 0 0), .v (.slice none 0 0), .v (.slice none 0 0), .v (.slice none 0 0), .v (.slice none 0 0)]
theorem rowO_md (ne : List (List Int)) : mdL (ne.map rowO) = ne.map rowO := by
 rw [mdL_eq, List.map_map]
 congr 1
 funext l
 simp [rowO, A.md, md_intA]
theorem certA_dn (c : GCert) : (certA c).dn = certA c := by simp [certA, A.dn, dnL, dn_strA, rowS_dn, dn_intA, dn_u8A]
theorem certO_dn (c : GCert) : (certO c).dn = certA c := by simp [certA, certO, A.dn, dnL, dn_strA, rowO_dn, dn_intA, dn_u8A]
theorem certO_md (c : GCert) : (certO c).md = certO c := by simp [certO, A.md, mdL, md_strA, rowO_md, md_intA, md_u8A]
theorem certA_len (c : GCert) : (certA c).cells.length = 34 := rfl
theorem certO_len (c : GCert) : (certO c).cells.length = 34 := rfl
theorem certsA_dn (L : List GCert) : dnL (L.map certA) = L.map certA := by rw [dnL_map]; simp only [certA_dn]
theorem certsO_dn (L : List GCert) : dnL (L.map certO) = L.map certA := by rw [dnL_map]; simp only [certO_dn]
theorem certsO_md (L : List GCert) : mdL (L.map certO) = L.map certO := by rw [mdL_eq, List.map_map]; congr 1; funext c; exact certO_md c
attribute [local go_sem] certsA_dn certsO_dn certsO_md rowO_md
theorem szCertV_le (c : GCert) (l : Int) (h : 0 ≤ l) (h2 : l ≤ 1048576) : szCertV c l ≤ l ∧ -1 ≤ szCertV c l := by
 have b1 := szS_le c.issuer l h
 unfold szCertV
 split
 ·omega
 have b2 := szS_le c.subject (szS c.issuer l) (by omega)
 split
 ·omega
 have b3 := szI_le c.key.N.length (szS c.subject (szS c.issuer l)) (by omega)
 split
 ·omega
 have b4 := szExV_le c.ho c.ne c.al c.de c.pu (szI c.key.N.length (szS c.subject (szS c.issuer l))) (by omega) (by omega)
 split
 ·omega
 have b5 := szI_le c.sig.length (szExV c.ho c.ne c.al c.de c.pu (szI c.key.N.length (szS c.subject (szS c.issuer l)))) (by omega)
 omega
def szCG : List GCert → Int → Int
 | [], l => l
 | c :: r, l => if szCertV c l < 0 then -1 else szCG r (szCertV c l)
def szCSV (L : List GCert) (left : Int) : Int := if left - L.length < 0 then -1 else szCG L (left - L.length)
theorem szCG_le (L : List GCert) (l : Int) (h : 0 ≤ l) (h2 : l ≤ 1048576) : szCG L l ≤ l ∧ -1 ≤ szCG L l ∧ (¬ szCG L l < 0 → ∀ c ∈ L, CertFit c) := by
 induction L generalizing l with
 | nil => simp [szCG]; omega
 | cons c r ih =>
  simp only [szCG]
  have hs := szCertV_le c l h h2
  split
  ·exact ⟨by omega, by omega, fun h => absurd (by omega) h⟩
  ·rename_i h3
   have := ih (szCertV c l) (by omega) (by omega)
   refine ⟨by omega, by omega, fun h4 x hx => ?_⟩
   rcases List.mem_cons.mp hx with e | e
   ·subst e; exact szCertV_fit x l h h2 h3
   ·exact this.2.2 h4 x e
theorem szCSV_le (L : List GCert) (l : Int) (h : 0 ≤ l) (h2 : l ≤ 1048576) : szCSV L l ≤ l ∧ -1 ≤ szCSV L l ∧ (¬ szCSV L l < 0 → L.length ≤ 1048576 ∧ ∀ c ∈ L, CertFit c) := by
 unfold szCSV
 split
 ·exact ⟨by omega, by omega, fun h => absurd (by omega) h⟩
 ·have := szCG_le L (l - L.length) (by omega) (by omega)
  exact ⟨by omega, by omega, fun h3 => ⟨by omega, this.2.2 h3⟩⟩
def csAnn : Ann := [(0, [0, 1, 5])]
def csSt (L : List GCert) (p : Nat × Int) : St := ⟨[.sl .sh (L.map certA), .v (.int .i64 p.2), .any, .any, .any, .v (.int .i64 p.1), .any, .any, .any, .any, .any, .any, .any, .any, .any, .any, .any, .any, .any, .any, .any, .any, .any, .any, .any, .any, .any], [], []⟩
set_option maxHeartbeats 2000000 in
include hm in
theorem szCertS (L : List GCert) (left : Int) (h1 : 0 ≤ left) (h2 : left ≤ 1048576) (h3 : L.length ≤ 9223372036854775807) (h4 : ∀ c ∈ L, CertIn c) :
  Holds Tryz.prog 4 [.sl .sh (L.map certA), .v (.int .i64 left)] [] (.v (.int .i64 (szCSV L left))) [] := by
 refine holds_of (ann := csAnn) tabOk hm Tryz.func4 (by kernel_rfl) rfl ?_
 have hlen : (L.map certA).length = L.length := List.length_map _
 simp +decide (disch := first | omega | (simp only [ll]; omega)) only [Tryz.f4, hlen, if_pos, go_sem]
 refine Runs.split (fun h => ?_) (fun h => ?_)
 ·simp only [decide_eq_true_eq] at h
  simp +decide only [szCSV, if_pos h, go_sem]
  exact Runs.ret_v
 ·simp only [decide_eq_false_iff_not] at h
  simp +decide only [go_sem]
  refine Runs.while (α := Nat × Int) (csSt L) (fun p => L.length - p.1) (fun p => p.1 ≤ L.length ∧ 0 ≤ p.2 ∧ p.2 ≤ 1048576 ∧ szCG (L.drop p.1) p.2 = szCSV L left) (0, left - L.length) ⟨by simp, by simp; omega, by simp; omega, by simp [szCSV, h]⟩ ?_ ?_
  ·simp [go_sem, csAnn, csSt]
  ·rintro ⟨i, l⟩ ⟨hi, hl1, hl2, hr⟩ ih
   simp only at hi hl1 hl2 hr
   simp +decide only [csSt, hlen, go_sem]
   refine Runs.split (fun h => ?_) (fun h => ?_)
   ·have hlt : i < L.length := by simpa using h
    have hg : (L.map certA).getD i .any = certA L[i] := by simp [List.getD, hlt]
    rw [List.drop_eq_getElem_cons hlt] at hr
    simp only [szCG] at hr
    have hb := szCertV_le L[i] l hl1 hl2
    have hc := szCert hm L[i] l hl1 hl2 (h4 _ (List.getElem_mem hlt))
    rw [certA] at hg hc
    simp +decide (disch := first | omega | (simp only [ll]; omega)) only [hlen, hg, if_pos, go_sem]
    refine Runs.call hc ?_
    simp +decide only [go_sem]
    refine Runs.split (fun h => ?_) (fun h => ?_)
    ·simp only [decide_eq_true_eq] at h
     rw [if_pos h] at hr
     simp +decide only [← hr, go_sem]
     exact Runs.ret_v
    ·simp only [decide_eq_false_iff_not] at h
     rw [if_neg h] at hr
     simp +decide (disch := first | omega | (simp only [ll]; omega)) only [if_pos, go_sem]
     refine ih (i + 1, szCertV L[i] l) _ (by simp only; omega) ⟨hlt, by simp only; omega, by simp only; omega, hr⟩ ?_
     simp [go_sem, csAnn, csSt]
   ·have hge : i = L.length := by simp at h; omega
    subst hge
    simp only [List.drop_length, szCG] at hr
    simp +decide only [← hr, go_sem]
    exact Runs.ret_v
def tcsSt (L : List GCert) (i : Nat) : St := ⟨[.sl .sh (L.map certA), .any, .any, .ms (.l 0) 0 L.length L.length, .v (.int .i64 i), .any, .any, .any, .any, .any, .any, .any, .any, .any, .any, .any, .any, .any, .any, .any, .any, .any, .any], [(0, ⟨true, 34, false, fillS certO L certZ i⟩)], []⟩
set_option maxHeartbeats 4000000 in
include hm in
theorem toCertS (L : List GCert) (h3 : L.length ≤ 1048576) (h4 : ∀ c ∈ L, CertFit c) : Holds Tryz.prog 6 [.sl .sh (L.map certA)] [] (.sl (.ow 34) (L.map certO)) [] := by
 refine holds_of (ann := toAnn) tabOk hm Tryz.func6 (by kernel_rfl) rfl ?_
 have hl0 : (L.map certA).length = L.length := List.length_map _
 simp +decide (disch := first | omega | (simp only [ll]; omega)) only [Tryz.f6, hl0, if_pos, go_sem]
 refine Runs.while (α := Nat) (tcsSt L) (fun i => L.length - i) (fun i => i ≤ L.length) 0 (by omega) ?_ ?_
 ·simp [go_sem, toAnn, tcsSt, fillS_zero, certZ]
 ·intro i hi ih
  have hlen := fillS_length certO L certZ i hi
  simp +decide only [tcsSt, hlen, hl0, go_sem]
  refine Runs.split (fun h => ?_) (fun h => ?_)
  ·have hlt : i < L.length := by simpa using h
   have hg := fillS_get certO L certZ i hlt
   have hg2 : (L.map certA).getD i .any = certA L[i] := by simp [List.getD, hlt]
   have hs : (fillS certO L certZ i).set i (certO L[i]) = _ := fillS_set certO L certZ i hlt
   have hc := toCert hm L[i] (h4 _ (List.getElem_mem hlt))
   have hg := hg.trans (show certZ = _ from by rw [certZ])
   rw [certO] at hs hc
   rw [certA] at hg2 hc
   simp +decide (disch := first | omega | (simp only [ll]; omega)) only [hlen, hl0, hg, hg2, if_pos, go_sem]
   refine Runs.call hc ?_
   simp +decide (maxSteps := 9^7) (disch := first | omega | (simp only [ll]; omega)) only [hlen, hl0, hg, hs, Nat.mul_one, Nat.zero_add, Nat.add_zero, if_pos, go_sem]
   refine ih (i + 1) _ (by omega) hlt ?_
   simp [go_sem, toAnn, tcsSt]
  ·have hge : i = L.length := by simp at h; omega
   subst hge
   simp +decide only [hlen, fillS_all, go_sem]
   exact Runs.ret_refl
def ecsS : Sched := .take 0 (.take 1 (.take 2 (.take 4 (.take 5 (.take 6 (.alt 3 (.alt 7 (.alt 8 (.take 9 .fin) .nil) .nil) (.alt 7 (.alt 3 (.alt 8 (.take 9 .fin) .nil) .nil) .nil)))))))
attribute [local go_sem] ecsS
def ecsSt (L : List GCert) (i : Nat) : St := ⟨[.sl .sh (L.map certA), .sl .sh (L.map certA), .any, .any, .any, .v (.int .i64 i), .any, .any, .any, .any, .any, .any, .any, .any, .any, .any, .any, .any, .any, .any, .any, .any, .any, .any, .any, .any, .any], [], []⟩
set_option maxHeartbeats 4000000 in
include hm in
theorem eqCertS (L : List GCert) (h3 : L.length ≤ 1048576) (h4 : ∀ c ∈ L, CertFit c) : Holds Tryz.prog 9 [.sl .sh (L.map certA), .sl .sh (L.map certA)] [] (.v (.bool true)) [] := by
 refine holds_of (ann := csAnn) tabOk hm Tryz.func9 (by kernel_rfl) rfl ?_
 have hl0 : (L.map certA).length = L.length := List.length_map _
 simp +decide only [Tryz.f9, hl0, go_sem]
 refine Runs.while (α := Nat) (ecsSt L) (fun i => L.length - i) (fun i => i ≤ L.length) 0 (by omega) ?_ ?_
 ·simp [go_sem, csAnn, ecsSt]
 ·intro i hi ih
  simp +decide only [ecsSt, hl0, go_sem]
  refine Runs.split (fun h => ?_) (fun h => ?_)
  ·have hlt : i < L.length := by simpa using h
   have hg : (L.map certA).getD i .any = certA L[i] := by simp [List.getD, hlt]
   have hc := eqCert hm L[i] (h4 _ (List.getElem_mem hlt))
   rw [certA] at hg hc
   simp +decide only [go_sem]
   refine Runs.draw (st1 := ?s1) (draws_by (ann := csAnn) tabOk ecsS (by kernel_rfl) ?p1) ?q1
   case p1 =>
    intro K r X hK
    simp +decide (maxSteps := 9^7) (disch := first | omega | (simp only [ll]; omega)) only [hg, hl0, if_pos, go_sem]
    repeat' apply And.intro
    all_goals
     refine Runs.call hc ?_
     simp +decide (maxSteps := 9^7) (disch := first | omega | (simp only [ll]; omega)) only [if_pos, go_sem]
     exact hK
   case q1 =>
    simp +decide (disch := first | omega | (simp only [ll]; omega)) only [hg, hl0, if_pos, go_sem]
    refine ih (i + 1) _ (by omega) hlt ?_
    simp [go_sem, csAnn, ecsSt]
  ·simp +decide only [go_sem]
   exact Runs.ret_v
end Go.Proofs.W

namespace Go.Proofs.W
open Go Go.AM Go.Proofs.G
variable (hm : Tryz.prog.follows .mixedOrders = true)
attribute [local go_sem] rowS_plain rowS_dn rowO_dn certsA_dn certsO_dn certsO_md rowO_md
def bumpR (v : List Int) (n : Int) : List Int := v.set (n - 1).toNat (v.getD (n - 1).toNat 0 + 1)
theorem bumpR_at (v : List Int) (m : Nat) : bumpR v ((m : Int) + 1) = v.set m (v.getD m 0 + 1) := by
 unfold bumpR
 rw [show ((m : Int) + 1 - 1).toNat = m by omega]
def VOk (b : Nat) (v : List Int) : Prop := v.length = 15 ∧ ∀ x ∈ v, 0 ≤ x ∧ x ≤ (b : Int)
theorem VOk.mono {a b : Nat} {v : List Int} (h : VOk a v) (hab : a ≤ b) : VOk b v := ⟨h.1, fun x hx => by have := h.2 x hx; omega⟩
theorem VOk.get {a m : Nat} {v : List Int} (h : VOk a v) : 0 ≤ v.getD m 0 ∧ v.getD m 0 ≤ (a : Int) := by
 by_cases hl : m < v.length
 ·have := h.2 v[m] (List.getElem_mem hl)
  simpa [List.getD, hl] using this
 ·simp [List.getD, hl]
theorem bumpR_ok {a : Nat} {v : List Int} (h : VOk a v) (n : Int) : VOk (a + 1) (bumpR v n) := by
 refine ⟨by rw [bumpR, List.length_set]; exact h.1, fun x hx => ?_⟩
 rcases List.mem_or_eq_of_mem_set hx with hx | rfl
 ·have := h.2 x hx; omega
 ·have := h.get (m := (n - 1).toNat); omega
def bumps (v B : List Int) : List Int := B.foldl bumpR v
theorem bumps_ok : ∀ (B v : List Int) (a : Nat), VOk a v → VOk (a + B.length) (bumps v B)
 | [], v, a, h => h
 | n :: B, v, a, h => by
  have := bumps_ok B (bumpR v n) (a + 1) (bumpR_ok h n)
  rw [List.length_cons, show a + (B.length + 1) = a + 1 + B.length by omega]
  exact this
theorem bumps_succ {B : List Int} {k : Nat} (v : List Int) (h : k < B.length) : bumps v (B.take (k + 1)) = bumpR (bumps v (B.take k)) B[k] := by
 rw [List.take_succ_eq_append_getElem h, bumps, List.foldl_append]; rfl
theorem lintL_rng : ∀ (L : List Bool) (k : Nat) (n : Int), n ∈ lintL L k → (k : Int) < n ∧ n ≤ k + L.length
 | [], _, n, h => by simp [lintL] at h
 | b :: L, k, n, h => by
  unfold lintL at h
  rw [List.length_cons]
  split at h
  ·rcases List.mem_cons.1 h with rfl | h
   ·omega
   ·have := lintL_rng L _ n h; omega
  ·have := lintL_rng L _ n h; omega
theorem lintC_rng {c : GCert} {n : Int} (h : n ∈ lintC c) : 1 ≤ n ∧ n ≤ 15 := by
 unfold lintC at h
 split at h
 ·have := lintL_rng _ _ _ h
  rw [lintR_len] at this
  omega
 ·simp at h
theorem lintC_len15 (c : GCert) : (lintC c).length ≤ 15 := by
 unfold lintC
 split
 ·have := lintL_len (lintR c) 0
  rw [lintR_len] at this
  omega
 ·simp
noncomputable def cnts (L : List GCert) (i : Nat) : List Int := (L.take i).foldl (fun v c => bumps v (lintC c)) (List.replicate 15 0)
theorem cnts_zero (L : List GCert) : cnts L 0 = List.replicate 15 0 := rfl
theorem cnts_succ {L : List GCert} {i : Nat} (h : i < L.length) : cnts L (i + 1) = bumps (cnts L i) (lintC L[i]) := by
 rw [cnts, List.take_succ_eq_append_getElem h, List.foldl_append]; rfl
theorem cnts_ok (L : List GCert) : ∀ i, i ≤ L.length → VOk (15 * i) (cnts L i)
 | 0, _ => ⟨by rw [cnts_zero]; rfl, fun x hx => by rw [cnts_zero] at hx; have := (List.mem_replicate.1 hx).2; omega⟩
 | i + 1, h => by
  rw [cnts_succ (show i < L.length by omega)]
  refine (bumps_ok _ _ _ (cnts_ok L i (by omega))).mono ?_
  have := lintC_len15 L[i]
  omega
noncomputable def countsB (L : List GCert) : Bool := decide (L.length ≤ 20) && L.all certB
noncomputable def countsV (L : List GCert) : List Int := if countsB L = true then cnts L L.length else []
theorem counts_no {L : List GCert} (h : countsB L = false) : countsV L = [] := by rw [countsV, h]; rfl
theorem counts_bad {L : List GCert} {i : Nat} (h : i < L.length) (hb : certB L[i] = false) : countsB L = false := by
 have : L.all certB = false := by
  rw [Bool.eq_false_iff]
  intro h2
  rw [List.all_eq_true] at h2
  rw [h2 L[i] (List.getElem_mem h)] at hb
  exact Bool.noConfusion hb
 rw [countsB, this, Bool.and_false]
theorem all_take_succ {L : List GCert} {i : Nat} (h : i < L.length) (ha : (L.take i).all certB = true) (hb : certB L[i] = true) : (L.take (i + 1)).all certB = true := by
 rw [List.take_succ_eq_append_getElem h, List.all_append, ha]
 simp [hb]
theorem countsV_len (L : List GCert) : (countsV L).length ≤ 15 := by
 unfold countsV
 split
 ·rw [(cnts_ok L L.length (Nat.le_refl _)).1]; omega
 ·simp
def scoAnn : Ann := [(0, [0, 4, 5, 6]), (2, [0, 4, 5, 6, 7, 9])]
def scoSt (L : List GCert) (v : List Int) (i : Nat) : St := ⟨[.sl .sh (L.map certA), .any, .any, .any, .ms (.l 0) 0 0 0, .ms (.l 1) 0 15 15, .v (.int .i64 i), .any, .any, .any, .any, .any, .any, .any, .any, .any, .any, .any, .any, .any, .any, .any, .any, .any, .any, .any, .any, .any, .any, .any, .any, .any, .any, .any, .any, .any, .any, .any, .any, .any, .any, .any, .any, .any, .any, .any, .any, .any, .any, .any, .any, .any, .any, .any, .any, .any], [(0, ⟨true, 1, false, []⟩), (1, ⟨true, 1, false, v.map intA⟩)], []⟩
def scoIn (L : List GCert) (B : List Int) (i : Nat) (v : List Int) (k : Nat) : St := ⟨[.sl .sh (L.map certA), .any, .any, .any, .ms (.l 0) 0 0 0, .ms (.l 1) 0 15 15, .v (.int .i64 i), .ms (.l 2) 0 B.length B.length, .any, .v (.int .i64 k), .any, .any, .any, .any, .any, .any, .any, .any, .any, .any, .any, .any, .any, .any, .any, .any, .any, .any, .any, .any, .any, .any, .any, .any, .any, .any, .any, .any, .any, .any, .any, .any, .any, .any, .any, .any, .any, .any, .any, .any, .any, .any, .any, .any, .any, .any], [(0, ⟨true, 1, false, []⟩), (1, ⟨true, 1, false, v.map intA⟩), (2, ⟨true, 1, false, B.map intA⟩)], []⟩
def scoS : Sched := .take 0 (.take 1 (.take 2 (.take 3 (.take 6 (.take 7 (.take 8 (.take 9 (.alt 4 (.take 5 (.alt 10 (.take 11 (.take 12 (.alt 13 (.take 14 (.take 15 (.alt 16 .fin .nil))) .nil))) .nil)) (.alt 10 (.take 11 (.take 12 (.alt 4 (.take 5 (.alt 13 (.take 14 (.take 15 (.alt 16 .fin .nil))) .nil)) (.alt 13 (.take 14 (.alt 4 (.take 5 (.take 15 (.alt 16 .fin .nil))) .nil)) .nil)))) .nil)))))))))
attribute [local go_sem] scoS
set_option maxHeartbeats 4000000 in
set_option maxRecDepth 10000 in
include hm in
theorem sCounts (L : List GCert) (hL : L.length ≤ 1048576) (fit : ∀ c ∈ L, CertFit c) : Holds Tryz.prog 5 [.sl .sh (L.map certA)] [] (.tup [.sl (.ow 1) ((countsV L).map intA), .v (.bool (countsB L))]) [] := by
 refine holds_of (ann := scoAnn) tabOk hm Tryz.func5 (by kernel_rfl) rfl ?_
 have ha : (L.map certA).length = L.length := List.length_map _
 simp +decide (maxSteps := 9^7) only [Tryz.f5, ha, go_sem]
 refine Runs.split (fun h => ?_) (fun h => ?_)
 ·have hb : countsB L = false := by simp at h; simp [countsB]; omega
  simp +decide (maxSteps := 9^7) only [go_sem]
  exact Runs.ret_eq (by rw [counts_no hb, hb]; rfl)
 have h20 : L.length ≤ 20 := by simp at h; omega
 simp +decide (maxSteps := 9^7) only [ha, go_sem]
 refine Runs.while (α := Nat) (fun i => scoSt L (cnts L i) i) (fun i => L.length - i) (fun i => i ≤ L.length ∧ (L.take i).all certB = true) 0 ⟨by omega, rfl⟩ ?_ ?_
 ·simp [go_sem, scoAnn, scoSt, cnts_zero]
 ·rintro i ⟨hi, hall⟩ ih
  have hv := (cnts_ok L i hi)
  have hvl : ((cnts L i).map intA).length = 15 := by rw [List.length_map]; exact hv.1
  simp +decide (maxSteps := 9^7) only [scoSt, ha, hvl, go_sem]
  refine Runs.split (fun h => ?_) (fun h => ?_)
  ·have hlt : i < L.length := by simpa using h
   have hg : (L.map certA).getD i .any = certA L[i] := by simp [List.getD, hlt]
   have cl := sLint hm L[i] (fit _ (List.getElem_mem hlt))
   have hs := cnts_succ hlt
   have w1 : IntKind.i64.wrap ((i : Int) + 1) = i + 1 := wrap_i64 (by omega) (by omega)
   have d1 : decide (0 ≤ (i : Int) ∧ (i : Int) < L.length) = true := by simp; omega
   have hr : ∀ n ∈ lintC L[i], 1 ≤ n ∧ n ≤ 15 := fun n hn => lintC_rng hn
   have h15 := lintC_len15 L[i]
   rw [certA] at hg cl
   generalize hB : lintC L[i] = B at cl hs hr h15
   simp +decide (maxSteps := 9^7) only [ha, hvl, d1, Int.toNat_natCast, hg, go_sem]
   refine Runs.call cl ?_
   cases hc : certB L[i]
   ·have hb := counts_bad hlt hc
    simp +decide (maxSteps := 9^7) only [go_sem]
    exact Runs.ret_eq (by rw [counts_no hb, hb]; rfl)
   ·have hall2 := all_take_succ hlt hall hc
    simp +decide (maxSteps := 9^7) only [ha, hvl, go_sem]
    generalize cnts L i = V at hs hv ⊢
    have hBl : (B.map intA).length = B.length := List.length_map _
    refine Runs.while (α := Nat) (fun k => scoIn L B i (bumps V (B.take k)) k) (fun k => B.length - k) (fun k => k ≤ B.length) 0 (by omega) ?_ ?_
    ·simp [go_sem, scoAnn, scoIn, bumps]
    ·intro k hk ih2
     have hw := bumps_ok (B.take k) V _ hv
     have hwl : ((bumps V (B.take k)).map intA).length = 15 := by rw [List.length_map]; exact hw.1
     simp +decide (maxSteps := 9^7) only [scoIn, ha, hwl, hBl, go_sem]
     refine Runs.split (fun h => ?_) (fun h => ?_)
     ·have hlk : k < B.length := by simpa using h
      obtain ⟨m, hm1, hm2⟩ : ∃ m : Nat, B[k] = (m : Int) + 1 ∧ m < 15 := ⟨(B[k] - 1).toNat, by have := hr _ (List.getElem_mem hlk); omega, by have := hr _ (List.getElem_mem hlk); omega⟩
      have hgB : (B.map intA).getD k .any = .v (.int .i64 ((m : Int) + 1)) := by rw [← hm1]; simp [List.getD, hlk, intA]
      have hsu := bumps_succ V hlk
      rw [hm1, bumpR_at] at hsu
      have hkl : (B.take k).length ≤ 15 := by rw [List.length_take]; omega
      have hx := hw.get (m := m)
      generalize bumps V (B.take k) = W at hw hwl hsu hx ⊢
      have hW : W.length = 15 := hw.1
      have hgW : (W.map intA).getD m .any = .v (.int .i64 (W.getD m 0)) := by simp [List.getD, show m < W.length by omega, intA]
      have hsW : (W.map intA).set m (.v (.int .i64 (W.getD m 0 + 1))) = (W.set m (W.getD m 0 + 1)).map intA := by rw [List.map_set]; rfl
      have hsl : ((W.set m (W.getD m 0 + 1)).map intA).length = 15 := by rw [List.length_map, List.length_set]; exact hW
      have w2 : IntKind.i64.wrap ((k : Int) + 1) = k + 1 := wrap_i64 (by omega) (by omega)
      have w3 : IntKind.i64.wrap ((m : Int) + 1 - 1) = m := by rw [wrap_i64 (by omega) (by omega)]; omega
      have w4 : IntKind.i64.wrap (W.getD m 0 + 1) = W.getD m 0 + 1 := wrap_i64 (by omega) (by omega)
      have d2 : decide (0 ≤ (k : Int) ∧ (k : Int) < B.length) = true := by simp; omega
      have d3 : decide (0 ≤ (m : Int) ∧ (m : Int) < ((15 : Nat) : Int)) = true := by simp; omega
      generalize hX : W.getD m 0 = X at *
      simp +decide (maxSteps := 9^7) only [go_sem]
      refine Runs.draw (st1 := ?s1) (draws_by (ann := scoAnn) tabOk scoS (by kernel_rfl) ?p1) ?q1
      case p1 =>
       intro K r X hK
       simp +decide (maxSteps := 9^7) only [ha, hwl, hBl, hgB, hgW, hsW, w3, w4, d2, d3, Int.toNat_natCast, go_sem]
       repeat' (first | exact hK | apply And.intro)
      case q1 =>
       simp +decide (maxSteps := 9^7) only [w2, go_sem]
       refine ih2 (k + 1) _ (by omega) (by omega) ?_
       simp [go_sem, scoAnn, scoIn, hsu]
     ·have hge : k = B.length := by simp at h; omega
      subst hge
      rw [List.take_length, ← hs]
      simp +decide (maxSteps := 9^7) only [w1, go_sem]
      refine ih (i + 1) _ (by omega) ⟨by omega, hall2⟩ ?_
      simp [go_sem, scoAnn, scoSt]
  ·have hge : i = L.length := by simp at h; omega
   subst hge
   rw [List.take_length] at hall
   have hb : countsB L = true := by simp only [countsB, hall, decide_eq_true h20, Bool.and_self]
   simp +decide (maxSteps := 9^7) only [hvl, go_sem]
   refine Runs.ret_eq ?_
   rw [countsV, hb]
   simp
def icoAnn : Ann := [(0, [4, 15, 16, 17]), (2, [4, 15, 16, 17, 28, 29, 30])]
def icoSt (L : List GCert) (v : List Int) (i : Nat) : St := ⟨[.any, .any, .any, .any, .ms (.l 0) 0 15 15, .any, .any, .any, .any, .any, .any, .any, .any, .any, .any, .sl .sh (L.map certA), .v (.int .i64 L.length), .v (.int .i64 i), .any, .any, .any, .any, .any, .any, .any, .any, .any, .any, .any, .any, .any, .any, .any, .any, .any, .any, .any, .any, .any, .any, .any, .any, .any, .any], [(0, ⟨true, 1, false, v.map intA⟩)], []⟩
def icoIn (L : List GCert) (B : List Int) (i : Nat) (v : List Int) (k : Nat) : St := ⟨[.any, .any, .any, .any, .ms (.l 0) 0 15 15, .any, .any, .any, .any, .any, .any, .any, .any, .any, .any, .sl .sh (L.map certA), .v (.int .i64 L.length), .v (.int .i64 i), .any, .any, .any, .any, .any, .any, .any, .any, .any, .any, .ms (.l 1) 0 B.length B.length, .v (.int .i64 B.length), .v (.int .i64 k), .any, .any, .any, .any, .any, .any, .any, .any, .any, .any, .any, .any, .any], [(0, ⟨true, 1, false, v.map intA⟩), (1, ⟨true, 1, false, B.map intA⟩)], []⟩
set_option maxHeartbeats 4000000 in
set_option maxRecDepth 10000 in
include hm in
theorem iCounts (L : List GCert) (hL : L.length ≤ 1048576) (fit : ∀ c ∈ L, CertFit c) : Holds Tryz.prog 7 [.sl .sh (L.map certA)] [] (.tup [.sl (.ow 1) ((countsV L).map intA), .v (.bool (countsB L))]) [] := by
 refine holds_of (ann := icoAnn) tabOk hm Tryz.func7 (by kernel_rfl) rfl ?_
 have ha : (L.map certA).length = L.length := List.length_map _
 simp +decide (maxSteps := 9^7) only [Tryz.f7, ha, go_sem]
 have no : ∀ {T : Tab} {b : Nat → AM.Mode} {a : Ann} {Φ : Known}, countsB L = false → Runs T b a Φ (.ret (.tup [.v (.slice none 0 0), .v (.bool false)]) []) (.tup [.sl (.ow 1) ((countsV L).map intA), .v (.bool (countsB L))]) [] := by
  intro T b a Φ hb
  rw [counts_no hb, hb]
  exact Runs.ret (.tup (.nils _ (.same _ .nil)) .nil) rfl
 refine Runs.split (fun h => ?_) (fun h => ?_)
 ·have hb : countsB L = false := by simp at h; simp [countsB]; omega
  simp +decide (maxSteps := 9^7) only [go_sem]
  exact no hb
 have h20 : L.length ≤ 20 := by simp at h; omega
 simp +decide (maxSteps := 9^7) only [ha, go_sem]
 refine Runs.while (α := Nat) (fun i => icoSt L (cnts L i) i) (fun i => L.length - i) (fun i => i ≤ L.length ∧ (L.take i).all certB = true) 0 ⟨by omega, rfl⟩ ?_ ?_
 ·simp [go_sem, icoAnn, icoSt, cnts_zero]
 ·rintro i ⟨hi, hall⟩ ih
  have hv := (cnts_ok L i hi)
  have hvl : ((cnts L i).map intA).length = 15 := by rw [List.length_map]; exact hv.1
  simp +decide (maxSteps := 9^7) only [icoSt, ha, hvl, go_sem]
  refine Runs.split (fun h => ?_) (fun h => ?_)
  ·have hlt : i < L.length := by simpa using h
   have hg : (L.map certA).getD i .any = certA L[i] := by simp [List.getD, hlt]
   have cl := iLint hm L[i] (fit _ (List.getElem_mem hlt))
   have hs := cnts_succ hlt
   have w1 : IntKind.i64.wrap ((i : Int) + 1) = i + 1 := wrap_i64 (by omega) (by omega)
   have d1 : decide (0 ≤ (i : Int) ∧ (i : Int) < L.length) = true := by simp; omega
   have hr : ∀ n ∈ lintC L[i], 1 ≤ n ∧ n ≤ 15 := fun n hn => lintC_rng hn
   have h15 := lintC_len15 L[i]
   rw [certA] at hg cl
   generalize hB : lintC L[i] = B at cl hs hr h15
   simp +decide (maxSteps := 9^7) only [ha, hvl, d1, Int.toNat_natCast, hg, go_sem]
   refine Runs.call cl ?_
   cases hc : certB L[i]
   ·have hb := counts_bad hlt hc
    simp +decide (maxSteps := 9^7) only [go_sem]
    exact no hb
   ·have hall2 := all_take_succ hlt hall hc
    simp +decide (maxSteps := 9^7) only [ha, hvl, go_sem]
    generalize cnts L i = V at hs hv ⊢
    have hBl : (B.map intA).length = B.length := List.length_map _
    refine Runs.while (α := Nat) (fun k => icoIn L B i (bumps V (B.take k)) k) (fun k => B.length - k) (fun k => k ≤ B.length) 0 (by omega) ?_ ?_
    ·simp [go_sem, icoAnn, icoIn, bumps]
    ·intro k hk ih2
     have hw := bumps_ok (B.take k) V _ hv
     have hwl : ((bumps V (B.take k)).map intA).length = 15 := by rw [List.length_map]; exact hw.1
     simp +decide (maxSteps := 9^7) only [icoIn, ha, hwl, hBl, go_sem]
     refine Runs.split (fun h => ?_) (fun h => ?_)
     ·have hlk : k < B.length := by simpa using h
      obtain ⟨m, hm1, hm2⟩ : ∃ m : Nat, B[k] = (m : Int) + 1 ∧ m < 15 := ⟨(B[k] - 1).toNat, by have := hr _ (List.getElem_mem hlk); omega, by have := hr _ (List.getElem_mem hlk); omega⟩
      have hgB : (B.map intA).getD k .any = .v (.int .i64 ((m : Int) + 1)) := by rw [← hm1]; simp [List.getD, hlk, intA]
      have hsu := bumps_succ V hlk
      rw [hm1, bumpR_at] at hsu
      have hkl : (B.take k).length ≤ 15 := by rw [List.length_take]; omega
      have hx := hw.get (m := m)
      generalize bumps V (B.take k) = W at hw hwl hsu hx ⊢
      have hW : W.length = 15 := hw.1
      have hgW : (W.map intA).getD m .any = .v (.int .i64 (W.getD m 0)) := by simp [List.getD, show m < W.length by omega, intA]
      have hsW : (W.map intA).set m (.v (.int .i64 (W.getD m 0 + 1))) = (W.set m (W.getD m 0 + 1)).map intA := by rw [List.map_set]; rfl
      have hsl : ((W.set m (W.getD m 0 + 1)).map intA).length = 15 := by rw [List.length_map, List.length_set]; exact hW
      have w2 : IntKind.i64.wrap ((k : Int) + 1) = k + 1 := wrap_i64 (by omega) (by omega)
      have w3 : IntKind.i64.wrap ((m : Int) + 1 - 1) = m := by rw [wrap_i64 (by omega) (by omega)]; omega
      have w4 : IntKind.i64.wrap (W.getD m 0 + 1) = W.getD m 0 + 1 := wrap_i64 (by omega) (by omega)
      have d2 : decide (0 ≤ (k : Int) ∧ (k : Int) < B.length) = true := by simp; omega
      have d3 : decide (0 ≤ (m : Int) ∧ (m : Int) < ((15 : Nat) : Int)) = true := by simp; omega
      generalize hX : W.getD m 0 = X at *
      simp +decide (maxSteps := 9^7) only [ha, hwl, hBl, hgB, hgW, hsW, w2, w3, w4, d2, d3, Int.toNat_natCast, go_sem]
      refine ih2 (k + 1) _ (by omega) (by omega) ?_
      simp [go_sem, icoAnn, icoIn, hsu]
     ·have hge : k = B.length := by simp at h; omega
      subst hge
      rw [List.take_length, ← hs]
      simp +decide (maxSteps := 9^7) only [w1, go_sem]
      refine ih (i + 1) _ (by omega) ⟨by omega, hall2⟩ ?_
      simp [go_sem, icoAnn, icoSt]
  ·have hge : i = L.length := by simp at h; omega
   subst hge
   rw [List.take_length] at hall
   have hb : countsB L = true := by simp only [countsB, hall, decide_eq_true h20, Bool.and_self]
   simp +decide (maxSteps := 9^7) only [hvl, go_sem]
   refine Runs.ret_eq ?_
   rw [countsV, hb]
   simp
end Go.Proofs.W

namespace Go.Proofs.W
open Go Go.AM
set_option maxRecDepth 10000
variable (hm : Tryz.prog.follows .mixedOrders = true)
def mkFill (v : Nat → A) (es : List A) (i : Nat) : List A := (List.range i).map v ++ es.drop i
theorem mkFill_length (v : Nat → A) (es : List A) (i : Nat) (h : i ≤ es.length) : (mkFill v es i).length = es.length := by simp [mkFill]; omega
theorem mkFill_zero (v : Nat → A) (es : List A) : mkFill v es 0 = es := by simp [mkFill]
theorem mkFill_all (v : Nat → A) (es : List A) {n : Nat} (h : es.length = n) : mkFill v es n = (List.range n).map v := by subst h; simp [mkFill]
theorem mkFill_get (v : Nat → A) (es : List A) (i : Nat) (h : i < es.length) : (mkFill v es i).getD i .any = es[i] := by
 unfold mkFill
 rw [List.getD, List.getElem?_append_right (by simp)]
 simp [h]
theorem mkFill_set (v : Nat → A) (es : List A) (i : Nat) (h : i < es.length) : (mkFill v es i).set i (v i) = mkFill v es (i + 1) := by
 unfold mkFill
 rw [List.set_append_right _ _ (by simp), List.length_map, List.length_range, Nat.sub_self, List.drop_eq_getElem_cons h, List.set_cons_zero, List.range_succ, List.map_append, List.append_assoc]
 rfl
def mkAnn : Ann := [(0, [0, 1, 5])]
def mkInt (k : Int) (i : Nat) : A := intA (k + i)
def mkByte (k : Int) (i : Nat) : A := u8A (IntKind.u8.wrap (k + i))
attribute [local go_sem] mkInt mkByte
def markGo : Nat → Nat → ByteArray → ByteArray
 | 0, _, out => out
 | f + 1, n, out => if n = 0 then out else markGo f (n / 10) (⟨#[UInt8.ofNat (48 + n % 10)]⟩ ++ out)
def markT (k : Int) : ByteArray := if k ≤ 0 then ⟨#[109, 48]⟩ else ⟨#[109]⟩ ++ markGo (k.toNat + 1) k.toNat ⟨#[]⟩
def mkStr (k : Int) (i : Nat) : A := strA (markT (k + i))
attribute [local go_sem] mkStr
def markIntSt (L : List Int) (k : Int) (i : Nat) : St := ⟨[.ms (.x 0) 0 L.length L.length, .v (.int .i64 (k + i)), .any, .any, .any, .v (.int .i64 i), .any, .any, .any, .any, .any, .any, .any, .any, .any, .any, .any, .any, .any], [], [⟨true, 1, false, mkFill (mkInt k) (L.map intA) i⟩]⟩
include hm in
theorem markIntS (L : List Int) (k : Int) (h1 : 0 ≤ k) (h2 : k + L.length ≤ 4611686018427387904) :
  Holds Tryz.prog 11 [.ms (.x 0) 0 L.length L.length, .v (.int .i64 k)] [⟨true, 1, false, L.map intA⟩] (.v (.int .i64 (k + L.length))) [⟨true, 1, false, (List.range L.length).map (mkInt k)⟩] := by
 refine holds_of (ann := mkAnn) tabOk hm Tryz.func11 (by kernel_rfl) rfl ?_
 simp +decide only [Tryz.f11, go_sem]
 refine Runs.while (α := Nat) (markIntSt L k) (fun i => L.length - i) (fun i => i ≤ L.length) 0 (by omega) ?_ ?_
 ·simp [go_sem, mkAnn, markIntSt, mkFill_zero]
 ·intro i hi ih
  have hlen := mkFill_length (mkInt k) (L.map intA) i (by simpa using hi)
  rw [List.length_map] at hlen
  simp +decide only [markIntSt, hlen, go_sem]
  refine Runs.split (fun h => ?_) (fun h => ?_)
  ·have hlt : i < L.length := by simpa using h
   have hg := mkFill_get (mkInt k) (L.map intA) i (by simpa using hlt)
   have hs := mkFill_set (mkInt k) (L.map intA) i (by simpa using hlt)
   simp only [List.getElem_map, intA] at hg
   simp only [mkInt, intA] at hs
   simp +decide (disch := first | omega | (simp only [ll]; omega)) only [hlen, hg, hs, if_pos, go_sem]
   refine ih (i + 1) _ (by omega) (by omega) ?_
   simp [go_sem, mkAnn, markIntSt, Int.add_assoc]
  ·have hge : i = L.length := by simp at h; omega
   subst hge
   simp +decide only [hlen, mkFill_all _ _ (List.length_map _), go_sem]
   exact Runs.ret_refl
def heldIntSt (n : Nat) (k : Int) (i : Nat) : St := ⟨[.sl .sh ((List.range n).map (mkInt k)), .v (.int .i64 (k + i)), .any, .any, .any, .v (.int .i64 i), .any, .any, .any, .any, .any, .any, .any, .any, .any, .any, .any, .any, .any, .any, .any], [], []⟩
include hm in
theorem heldIntS (n : Nat) (k : Int) (h1 : 0 ≤ k) (h2 : k + n ≤ 4611686018427387904) :
  Holds Tryz.prog 12 [.sl .sh ((List.range n).map (mkInt k)), .v (.int .i64 k)] [] (.v (.int .i64 (k + n))) [] := by
 refine holds_of (ann := mkAnn) tabOk hm Tryz.func12 (by kernel_rfl) rfl ?_
 simp +decide only [Tryz.f12, go_sem]
 refine Runs.while (α := Nat) (heldIntSt n k) (fun i => n - i) (fun i => i ≤ n) 0 (by omega) ?_ ?_
 ·simp [go_sem, mkAnn, heldIntSt]
 ·intro i hi ih
  simp +decide only [heldIntSt, List.length_range, go_sem]
  refine Runs.split (fun h => ?_) (fun h => ?_)
  ·have hlt : i < n := by simpa using h
   have hg : ((List.range n).map (mkInt k)).getD i .any = mkInt k i := by simp [List.getD, hlt]
   simp +decide (disch := first | omega | (simp only [ll]; omega)) only [hg, List.length_range, if_pos, go_sem]
   refine ih (i + 1) _ (by omega) (by omega) ?_
   simp [go_sem, mkAnn, heldIntSt, Int.add_assoc]
  ·have hge : i = n := by simp at h; omega
   subst hge
   simp +decide only [go_sem]
   exact Runs.ret_refl
def markByteSt (L : List Int) (k : Int) (i : Nat) : St := ⟨[.ms (.x 0) 0 L.length L.length, .v (.int .i64 (k + i)), .any, .any, .any, .v (.int .i64 i), .any, .any, .any, .any, .any, .any, .any, .any, .any, .any, .any, .any, .any, .any], [], [⟨true, 1, false, mkFill (mkByte k) (L.map u8A) i⟩]⟩
include hm in
theorem markByteS (L : List Int) (k : Int) (h1 : 0 ≤ k) (h2 : k + L.length ≤ 4611686018427387904) :
  Holds Tryz.prog 20 [.ms (.x 0) 0 L.length L.length, .v (.int .i64 k)] [⟨true, 1, false, L.map u8A⟩] (.v (.int .i64 (k + L.length))) [⟨true, 1, false, (List.range L.length).map (mkByte k)⟩] := by
 refine holds_of (ann := mkAnn) tabOk hm Tryz.func20 (by kernel_rfl) rfl ?_
 simp +decide only [Tryz.f20, go_sem]
 refine Runs.while (α := Nat) (markByteSt L k) (fun i => L.length - i) (fun i => i ≤ L.length) 0 (by omega) ?_ ?_
 ·simp [go_sem, mkAnn, markByteSt, mkFill_zero]
 ·intro i hi ih
  have hlen := mkFill_length (mkByte k) (L.map u8A) i (by simpa using hi)
  rw [List.length_map] at hlen
  simp +decide only [markByteSt, hlen, go_sem]
  refine Runs.split (fun h => ?_) (fun h => ?_)
  ·have hlt : i < L.length := by simpa using h
   have hg := mkFill_get (mkByte k) (L.map u8A) i (by simpa using hlt)
   have hs := mkFill_set (mkByte k) (L.map u8A) i (by simpa using hlt)
   simp only [List.getElem_map, u8A] at hg
   simp only [mkByte, u8A] at hs
   simp +decide (disch := first | omega | (simp only [ll]; omega)) only [hlen, hg, hs, if_pos, go_sem]
   refine ih (i + 1) _ (by omega) (by omega) ?_
   simp [go_sem, mkAnn, markByteSt, Int.add_assoc]
  ·have hge : i = L.length := by simp at h; omega
   subst hge
   simp +decide only [hlen, mkFill_all _ _ (List.length_map _), go_sem]
   exact Runs.ret_refl
def markTxAnn : Ann := [(0, [0, 3])]
def markTxSt (p : Nat × ByteArray) : St := ⟨[.v (.int .i64 p.1), .any, .any, .v (.string p.2), .any, .any, .any, .any, .any, .any, .any, .any, .any, .any, .any, .any, .any, .any, .any, .any], [], []⟩
theorem markGo_fuel : ∀ (f g n : Nat) (out : ByteArray), n < f → n < g → markGo f n out = markGo g n out
 | f + 1, g + 1, n, out, h1, h2 => by
  simp only [markGo]
  split
  ·rfl
  ·rename_i hn
   exact markGo_fuel f g (n / 10) _ (by omega) (by omega)
theorem markGo_size {n s n0 : Nat} (h : n * 10 ^ s ≤ n0) (hn : 0 < n) (h0 : n0 ≤ 4611686018427387904) : s ≤ 30 := by
 rcases Nat.lt_or_ge 30 s with h1 | h1
 ·have h2 : 10 ^ 31 ≤ 10 ^ s := Nat.pow_le_pow_right (by omega) h1
  have h3 : 1 * 10 ^ s ≤ n * 10 ^ s := Nat.mul_le_mul_right _ hn
  have h4 : (10 : Nat) ^ 31 = 10000000000000000000000000000000 := rfl
  omega
 ·exact h1
include hm in
theorem markText (k : Int) (h1 : 0 ≤ k) (h2 : k ≤ 4611686018427387904) : Holds Tryz.prog 37 [.v (.int .i64 k)] [] (.v (.string (markT k))) [] := by
 refine holds_of (ann := markTxAnn) tabOk hm Tryz.func37 (by kernel_rfl) rfl ?_
 simp +decide only [Tryz.f37, go_sem]
 refine Runs.split (fun h => ?_) (fun h => ?_)
 ·simp only [decide_eq_true_eq] at h
  simp +decide only [markT, if_pos h, go_sem]
  exact Runs.ret_v
 ·simp only [decide_eq_false_iff_not] at h
  simp +decide only [go_sem]
  obtain ⟨n0, rfl⟩ : ∃ n0 : Nat, k = n0 := ⟨k.toNat, by omega⟩
  refine Runs.while (α := Nat × ByteArray) markTxSt (fun p => p.1) (fun p => p.1 ≤ n0 ∧ p.1 * 10 ^ p.2.size ≤ n0 ∧ p.2.size ≤ 31 ∧ markGo (p.1 + 1) p.1 p.2 = markGo (n0 + 1) n0 ⟨#[]⟩) (n0, ⟨#[]⟩) ⟨by simp, Nat.le_of_eq (by show n0 * 10 ^ 0 = n0; omega), by show 0 ≤ 31; omega, rfl⟩ ?_ ?_
  ·simp [go_sem, markTxAnn, markTxSt]
  ·rintro ⟨n, out⟩ ⟨hn, hp, hs, hr⟩ ih
   simp only at hn hp hs hr
   simp +decide only [markTxSt, go_sem]
   refine Runs.split (fun h => ?_) (fun h => ?_)
   ·have hn0 : 0 < n := by simp at h; omega
    have hs' := markGo_size hp hn0 (by omega)
    have ht : (n : Int).tmod 10 = ((n % 10 : Nat) : Int) := by rw [Int.tmod_eq_emod_of_nonneg (by omega)]; omega
    have hq : (n : Int).tdiv 10 = ((n / 10 : Nat) : Int) := by rw [Int.tdiv_eq_ediv_of_nonneg (by omega)]; omega
    have hw : IntKind.i64.wrap (48 + ((n % 10 : Nat) : Int)) = ((48 + n % 10 : Nat) : Int) := by rw [wrap_i64 (by omega) (by omega)]; omega
    have hw2 : IntKind.u8.wrap ((48 + n % 10 : Nat) : Int) = ((48 + n % 10 : Nat) : Int) := wrap_u8 (by omega) (by omega)
    have hw3 : IntKind.i64.wrap ((n / 10 : Nat) : Int) = ((n / 10 : Nat) : Int) := wrap_i64 (by omega) (by omega)
    have hb : (0 ≤ ((48 + n % 10 : Nat) : Int) ∧ ((48 + n % 10 : Nat) : Int) < 256) := by omega
    simp +decide only [ht, hq, hw, hw2, hw3, hb, go_sem]
    refine Runs.chk (by simp; show 1 + out.size ≤ _; omega) ?_
    simp +decide only [go_sem]
    refine ih (n / 10, ⟨#[UInt8.ofNat (48 + n % 10)]⟩ ++ out) _ (by simp only; omega) ⟨by simp only; omega, ?_, ?_, ?_⟩ ?_
    ·simp only
     rw [ByteArray.size_append]
     show n / 10 * 10 ^ (1 + out.size) ≤ n0
     rw [Nat.pow_add, ← Nat.mul_assoc]
     exact Nat.le_trans (Nat.mul_le_mul_right _ (by omega)) hp
    ·simp only
     rw [ByteArray.size_append]
     show 1 + out.size ≤ 31
     omega
    ·simp only
     rw [← hr]
     conv => rhs; unfold markGo
     rw [if_neg (by omega)]
     exact markGo_fuel _ _ _ _ (by omega) (by omega)
    ·simp [go_sem, markTxAnn, markTxSt]
   ·have hn0 : n = 0 := by simp at h; omega
    subst hn0
    simp only [markGo, if_true] at hr
    simp +decide only [go_sem]
    refine Runs.chk (by simp; show 1 + out.size ≤ _; omega) ?_
    refine Runs.ret_eq ?_
    rw [markT, if_neg ‹¬ ((n0 : Int) ≤ 0)›, hr]
    rfl
def markStringSt (L : List ByteArray) (k : Int) (i : Nat) : St := ⟨[.ms (.x 0) 0 L.length L.length, .v (.int .i64 (k + i)), .any, .any, .any, .v (.int .i64 i), .any, .any, .any, .any, .any, .any, .any, .any, .any, .any, .any, .any, .any, .any], [], [⟨true, 1, false, mkFill (mkStr k) (L.map strA) i⟩]⟩
include hm in
theorem markStringS (L : List ByteArray) (k : Int) (h1 : 0 ≤ k) (h2 : k + L.length ≤ 4611686018427387904) :
  Holds Tryz.prog 18 [.ms (.x 0) 0 L.length L.length, .v (.int .i64 k)] [⟨true, 1, false, L.map strA⟩] (.v (.int .i64 (k + L.length))) [⟨true, 1, false, (List.range L.length).map (mkStr k)⟩] := by
 refine holds_of (ann := mkAnn) tabOk hm Tryz.func18 (by kernel_rfl) rfl ?_
 simp +decide only [Tryz.f18, go_sem]
 refine Runs.while (α := Nat) (markStringSt L k) (fun i => L.length - i) (fun i => i ≤ L.length) 0 (by omega) ?_ ?_
 ·simp [go_sem, mkAnn, markStringSt, mkFill_zero]
 ·intro i hi ih
  have hlen := mkFill_length (mkStr k) (L.map strA) i (by simpa using hi)
  rw [List.length_map] at hlen
  simp +decide only [markStringSt, hlen, go_sem]
  refine Runs.split (fun h => ?_) (fun h => ?_)
  ·have hlt : i < L.length := by simpa using h
   have hg := mkFill_get (mkStr k) (L.map strA) i (by simpa using hlt)
   have hs := mkFill_set (mkStr k) (L.map strA) i (by simpa using hlt)
   simp only [List.getElem_map, strA] at hg
   simp only [mkStr, strA] at hs
   simp +decide (disch := first | omega | (simp only [ll]; omega)) only [hlen, hg, if_pos, go_sem]
   refine Runs.call (markText hm (k + i) (by omega) (by omega)) ?_
   simp +decide (disch := first | omega | (simp only [ll]; omega)) only [hlen, hg, hs, if_pos, go_sem]
   refine ih (i + 1) _ (by omega) (by omega) ?_
   simp [go_sem, mkAnn, markStringSt, Int.add_assoc]
  ·have hge : i = L.length := by simp at h; omega
   subst hge
   simp +decide only [hlen, mkFill_all _ _ (List.length_map _), go_sem]
   exact Runs.ret_refl
end Go.Proofs.W

namespace Go.Proofs.W
open Go Go.AM Go.Proofs.G
variable (hm : Tryz.prog.follows .mixedOrders = true)
attribute [local go_sem] rowS_plain rowS_dn rowO_dn rowO_md
def mkRow (k : Int) (l : List Int) : List Int := (List.range l.length).map fun i : Nat => k + i
def mkRows : Int → List (List Int) → List (List Int)
 | _, [] => []
 | k, l :: r => mkRow k l :: mkRows (k + l.length) r
def cntR : List (List Int) → Nat
 | [] => 0
 | l :: r => l.length + cntR r
theorem mkRow_map (k : Int) (l : List Int) : (mkRow k l).map intA = (List.range l.length).map (mkInt k) := by
 rw [mkRow, List.map_map]; rfl
theorem mkRow_length (k : Int) (l : List Int) : (mkRow k l).length = l.length := by simp [mkRow]
theorem cntR_append : ∀ l m : List (List Int), cntR (l ++ m) = cntR l + cntR m
 | [], m => by simp [cntR]
 | x :: l, m => by simp only [List.cons_append, cntR, cntR_append l m]; omega
theorem mkRows_append : ∀ (l m : List (List Int)) (k : Int), mkRows k (l ++ m) = mkRows k l ++ mkRows (k + cntR l) m
 | [], m, k => by simp [mkRows, cntR]
 | x :: l, m, k => by
  simp only [List.cons_append, mkRows, cntR, mkRows_append l m]
  congr 3
  omega
theorem mkRows_length : ∀ (l : List (List Int)) (k : Int), (mkRows k l).length = l.length
 | [], k => rfl
 | x :: l, k => by simp [mkRows, mkRows_length l]
def curR (k : Int) (L : List (List Int)) (i : Nat) : List (List Int) := mkRows k (L.take i) ++ L.drop i
theorem curR_zero (k : Int) (L : List (List Int)) : curR k L 0 = L := by simp [curR, mkRows]
theorem curR_all (k : Int) (L : List (List Int)) : curR k L L.length = mkRows k L := by simp [curR]
theorem curR_get (k : Int) (L : List (List Int)) (i : Nat) (h : i < L.length) : (curR k L i)[i]? = some L[i] := by
 unfold curR
 rw [List.getElem?_append_right (by simp [mkRows_length]; omega)]
 simp [mkRows_length, h, Nat.min_eq_left (Nat.le_of_lt h)]
theorem cntR_succ (L : List (List Int)) (i : Nat) (h : i < L.length) : cntR (L.take (i + 1)) = cntR (L.take i) + L[i].length := by
 rw [List.take_succ_eq_append_getElem h, cntR_append]
 simp [cntR]
theorem cntR_take_le (L : List (List Int)) (i : Nat) : cntR (L.take i) ≤ cntR L := by
 have := cntR_append (L.take i) (L.drop i)
 rw [List.take_append_drop] at this
 omega
theorem curR_set (k : Int) (L : List (List Int)) (i : Nat) (h : i < L.length) : (curR k L i).set i (mkRow (k + cntR (L.take i)) L[i]) = curR k L (i + 1) := by
 unfold curR
 have hl : (mkRows k (L.take i)).length = i := by simp [mkRows_length]; omega
 rw [List.set_append_right _ _ (by omega), hl, Nat.sub_self, List.drop_eq_getElem_cons h, List.set_cons_zero, List.take_succ_eq_append_getElem h, mkRows_append, List.append_assoc]
 rfl
def subR (l : List Int) : Blk := ⟨true, 1, false, l.map intA⟩
def xpR : Nat → List (List Int) → List A
 | _, [] => []
 | j, l :: r => .ms (.x j) 0 l.length l.length :: xpR (j + 1) r
theorem xpL_rows : ∀ (L : List (List Int)) (j : Nat), xpL j (L.map rowO) = (xpR j L, L.map subR)
 | [], j => rfl
 | x :: r, j => by
  have e : xpA j (rowO x) = (.ms (.x j) 0 x.length x.length, [subR x]) := by simp [xpA, rowO, xpC, subR]
  simp only [List.map_cons, xpL, e, xpL_rows r, xpR, List.length_cons, List.length_nil, Nat.zero_add, List.singleton_append]
theorem xpOk_rows (L : List (List Int)) : xpOk (L.map rowO) = true := by
 unfold xpOk flat
 rw [List.all_flatMap, List.all_map]
 simp [rowO, A.cells, xpOkC]
theorem xpR_length : ∀ (L : List (List Int)) (j : Nat), (xpR j L).length = L.length
 | [], j => rfl
 | x :: r, j => by simp [xpR, xpR_length r]
theorem xpR_get : ∀ (L : List (List Int)) (j i : Nat) (x : List Int), L[i]? = some x → (xpR j L).getD i .any = .ms (.x (j + i)) 0 x.length x.length
 | [], j, i, x, h => by simp at h
 | y :: r, j, 0, x, h => by simp at h; subst h; rfl
 | y :: r, j, i + 1, x, h => by
  simp only [List.getElem?_cons_succ] at h
  have := xpR_get r (j + 1) i x h
  rw [show j + (i + 1) = j + 1 + i by omega, ← this]
  rfl
theorem xpR_congr : ∀ (L M : List (List Int)) (j : Nat), L.map List.length = M.map List.length → xpR j L = xpR j M
 | [], [], j, _ => rfl
 | [], y :: M, j, h => by simp at h
 | x :: L, [], j, h => by simp at h
 | x :: L, y :: M, j, h => by
  simp only [List.map_cons, List.cons.injEq] at h
  rw [xpR, xpR, h.1, xpR_congr L M (j + 1) h.2]
theorem mkRows_lens : ∀ (L : List (List Int)) (k : Int), (mkRows k L).map List.length = L.map List.length
 | [], k => rfl
 | x :: L, k => by simp only [mkRows, List.map_cons, mkRow_length, mkRows_lens L]
theorem xpR_mk (L : List (List Int)) (k : Int) (j : Nat) : xpR j (mkRows k L) = xpR j L := xpR_congr _ _ j (mkRows_lens L k)
theorem xpR_ok : ∀ (L : List (List Int)) (j : Nat), okIL isXp (xpR j L) = true
 | [], j => rfl
 | x :: r, j => by simp [xpR, okIL, A.okI, isXp, xpR_ok r]
theorem subR_all (L : List (List Int)) : (L.map subR).all isXB = true := by simp [subR, isXB]
theorem rd_rows (L : List (List Int)) : (if plainL (L.map rowO) = true then L.map rowS else L.map rowO) = L.map rowO := by
 cases L with
 | nil => rfl
 | cons x r => simp [plainL, rowO, A.plain, Sh.own]
def mrSt (L : List (List Int)) (k : Int) (i : Nat) : St := ⟨[.ms (.x 0) 0 L.length L.length, .v (.int .i64 (k + cntR (L.take i))), .any, .any, .any, .v (.int .i64 i), .any, .any, .any, .any, .any, .any, .any, .any, .any, .any, .any, .any, .any], [], ⟨true, 1, true, xpR 1 L⟩ :: (curR k L i).map subR⟩
set_option maxHeartbeats 1000000 in
set_option maxRecDepth 10000 in
include hm in
theorem markRowX (L : List (List Int)) (k : Int) (h0 : L.length ≤ 1048576) (h1 : 0 ≤ k) (h2 : k + cntR L ≤ 4611686018427387904) :
  Holds Tryz.prog 19 [.ms (.x 0) 0 L.length L.length, .v (.int .i64 k)] (⟨true, 1, true, xpR 1 L⟩ :: L.map subR) (.v (.int .i64 (k + cntR L))) (⟨true, 1, true, xpR 1 L⟩ :: (mkRows k L).map subR) := by
 refine holds_ref (ann := mkAnn) tabOk hm (byL [11] []) Tryz.func19 (by kernel_rfl) rfl ?_
 have hlen := xpR_length L 1
 simp +decide only [Tryz.f19, hlen, go_sem]
 refine Runs.while (α := Nat) (mrSt L k) (fun i => L.length - i) (fun i => i ≤ L.length) 0 (by omega) ?_ ?_
 ·refine (only_x rfl ?_).trans ?_
  ·rw [List.all_cons, subR_all]; simp [isXB, xpR_ok]
  ·simp [go_sem, mkAnn, mrSt, curR_zero, cntR]
 ·intro i hi ih
  simp +decide only [mrSt, hlen, go_sem]
  refine Runs.split (fun h => ?_) (fun h => ?_)
  ·have hlt : i < L.length := by simpa using h
   have hc := cntR_take_le L (i + 1)
   have hcs := cntR_succ L i hlt
   have hg := xpR_get L 1 i _ (List.getElem?_eq_getElem hlt)
   have hsub : ((curR k L i).map subR)[i]? = some ⟨true, 1, false, L[i].map intA⟩ := by rw [List.getElem?_map, curR_get k L i hlt]; rfl
   have hsub2 : ((curR k L i).map subR).set i ⟨true, 1, false, (List.range L[i].length).map (mkInt (k + cntR (L.take i)))⟩ = (curR k L (i + 1)).map subR := by
    rw [← curR_set k L i hlt, List.map_set]
    simp only [subR, mkRow_map]
   have hmb := markIntS hm L[i] (k + cntR (L.take i)) (by omega) (by omega)
   rw [show 1 + i = i + 1 by omega] at hg
   simp +decide (disch := first | omega | (simp only [ll]; omega)) only [hlen, hg, List.getElem?_cons_succ, hsub, List.not_mem_nil, List.mem_cons, true_or, if_false, if_true, idxOf, List.getD_cons_zero, List.length_map, if_pos, go_sem]
   refine Runs.call hmb ?_
   simp +decide (disch := first | omega | (simp only [ll]; omega)) only [hlen, hg, List.getElem?_cons_succ, List.set_cons_succ, hsub2, List.getD_cons_zero, List.length_map, if_pos, go_sem]
   refine ih (i + 1) _ (by omega) hlt ?_
   refine (only_x rfl ?_).trans ?_
   ·rw [List.all_cons, subR_all]; simp [isXB, xpR_ok]
   ·have e : k + ↑(cntR (List.take i L)) + L[i].length = k + ↑(cntR (List.take (i + 1) L)) := by omega
    simp [go_sem, mkAnn, mrSt, e]
  ·have hge : i = L.length := by simp at h; omega
   subst hge
   simp +decide only [hlen, curR_all, List.take_length, isXB, xpR_ok, subR_all, go_sem]
   exact Runs.ret_refl
include hm in
theorem markIntSS (L : List (List Int)) (k : Int) (h0 : L.length ≤ 1048576) (h1 : 0 ≤ k) (h2 : k + cntR L ≤ 4611686018427387904) :
  Holds Tryz.prog 19 [.ms (.x 0) 0 L.length L.length, .v (.int .i64 k)] [⟨true, 1, false, L.map rowO⟩] (.v (.int .i64 (k + cntR L))) [⟨true, 1, false, (mkRows k L).map rowO⟩] := by
 refine holds_explode (xpOk_rows L) (xpOk_rows _) ?_
 rw [xpL_rows, xpL_rows, xpR_mk]
 exact markRowX hm L k h0 h1 h2
def certX (c : GCert) : A := .agg [.v (.int .i64 c.serial), .ms (.x 0) 0 c.issuer.length c.issuer.length, .ms (.x 1) 0 c.subject.length c.subject.length, .v (.int .i64 c.from'), .v (.int .i64 c.tu), .v (.int .i64 c.key.kind), .ms (.x 2) 0 c.key.N.length c.key.N.length, .v (.int .i64 c.key.e), .v (.int .i64 c.key.cv.p), .v (.int .i64 c.key.cv.a), .v (.int .i64 c.key.cv.b), .v (.int .i64 c.key.cv.n), .v (.int .i64 c.key.cv.gx), .v (.int .i64 c.key.cv.gy), .v (.int .i64 c.key.q.x), .v (.int .i64 c.key.q.y), .v (.bool c.key.q.far), .v (.int .i64 c.key.ed.p), .v (.int .i64 c.key.ed.d), .v (.int .i64 c.key.ed.l), .v (.int .i64 c.key.ed.bx), .v (.int .i64 c.key.ed.by'), .v (.int .i64 c.key.a.1), .v (.int .i64 c.key.a.2), .v (.int .i64 c.alg), .v (.bool c.ca), .v (.int .i64 c.path), .v (.int .i64 c.usage), .ms (.x 3) 0 c.ho.length c.ho.length, .ms (.x 4) 0 c.ne.length c.ne.length, .ms (.x 5) 0 c.al.length c.al.length, .ms (.x 6) 0 c.de.length c.de.length, .ms (.x 7) 0 c.pu.length c.pu.length, .ms (.x 8) 0 c.sig.length c.sig.length]
def strK (L : List ByteArray) : Blk := ⟨true, 1, false, L.map strA⟩
def intK (L : List Int) : Blk := ⟨true, 1, false, L.map intA⟩
def bytK (L : List Int) : Blk := ⟨true, 1, false, L.map u8A⟩
def rowK (L : List (List Int)) : Blk := ⟨true, 1, false, L.map rowO⟩
def certBs (c : GCert) : List Blk := [strK c.issuer, strK c.subject, intK c.key.N, strK c.ho, rowK c.ne, strK c.al, strK c.de, intK c.pu, bytK c.sig]
def exK (c : GCert) (k : Int) : Int := k + c.ho.length + cntR c.ne + c.al.length + c.de.length + c.pu.length
def certK0 (c : GCert) (k : Int) : Int := k + c.issuer.length + c.subject.length + c.key.N.length
def certK (c : GCert) (k : Int) : Int := exK c (certK0 c k) + c.sig.length
def strM (n : Nat) (k : Int) : Blk := ⟨true, 1, false, (List.range n).map (mkStr k)⟩
def intM (n : Nat) (k : Int) : Blk := ⟨true, 1, false, (List.range n).map (mkInt k)⟩
def bytM (n : Nat) (k : Int) : Blk := ⟨true, 1, false, (List.range n).map (mkByte k)⟩
def exBs (c : GCert) : List Blk := [strK c.ho, rowK c.ne, strK c.al, strK c.de, intK c.pu]
def exMs (c : GCert) (k : Int) : List Blk := [strM c.ho.length k, rowK (mkRows (k + c.ho.length) c.ne), strM c.al.length (k + c.ho.length + cntR c.ne), strM c.de.length (k + c.ho.length + cntR c.ne + c.al.length), intM c.pu.length (k + c.ho.length + cntR c.ne + c.al.length + c.de.length)]
def certMs (c : GCert) (k : Int) : List Blk := strM c.issuer.length k :: strM c.subject.length (k + c.issuer.length) :: intM c.key.N.length (k + c.issuer.length + c.subject.length) :: (exMs c (certK0 c k) ++ [bytM c.sig.length (exK c (certK0 c k))])
end Go.Proofs.W

namespace Go.Proofs.W
open Go Go.AM Go.Proofs.G
theorem cntR_four : ∀ L : List (List Int), (∀ r ∈ L, r.length ≤ 1048576) → cntR L ≤ L.length * 1048576
 | [], _ => by simp [cntR]
 | x :: r, h => by
  have h1 := h x (List.mem_cons_self ..)
  have h2 := cntR_four r fun y hy => h y (List.mem_cons_of_mem _ hy)
  simp only [cntR, List.length_cons, Nat.succ_mul]
  omega
theorem mki_plain (k : Int) (n : Nat) : dnL ((List.range n).map (mkInt k)) = (List.range n).map (mkInt k) := by rw [dnL_map]; rfl
theorem tk_mki (k : Int) (n : Nat) : List.take n ((List.range n).map (mkInt k)) = (List.range n).map (mkInt k) := List.take_of_length_le (by simp)
end Go.Proofs.W
