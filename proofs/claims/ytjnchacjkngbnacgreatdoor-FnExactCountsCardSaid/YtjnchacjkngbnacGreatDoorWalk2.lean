import Derived.Lib.Strings
import Derived.Shelf.Lays
import Derived.Shelf.Strings.FieldsFuncAny
import Derived.Shelf.Strings.OnBuilder
import Derived.Shelf.Spec.SlicesInsertGrow
import Derived.Shelf.Lays2
import Derived.Laws.AppendOwn
import Derived.Test.YtjnchacjkngbnacGreatDoorWalk1
set_option linter.unusedVariables false
set_option linter.unusedSimpArgs false
namespace Go.Proofs.W
open Go Go.AM Go.Proofs.G
set_option maxRecDepth 10000
variable (hm : Tryz.prog.follows .mixedOrders = true)
structure GEd where
 p : Int
 d : Int
 l : Int
 bx : Int
 by' : Int
def edA (k : GEd) : A := .agg [.v (.int .i64 k.p), .v (.int .i64 k.d), .v (.int .i64 k.l), .v (.int .i64 k.bx), .v (.int .i64 k.by')]
def prA (P : GPr) : A := .agg [.v (.int .i64 P.1), .v (.int .i64 P.2)]
def EdIn (k : GEd) : Prop := 13 ≤ k.p ∧ k.p ≤ 1048576 ∧ (0 ≤ k.d ∧ k.d < k.p)
def PrIn (p : Int) (P : GPr) : Prop := (0 ≤ P.1 ∧ P.1 < p) ∧ (0 ≤ P.2 ∧ P.2 < p)
attribute [local go_sem] edA prA
theorem eadd_in {p D : Int} (h : 0 < p) (a b : GPr) : PrIn p (eaddZ p D a b) := ⟨mod_in' h _, mod_in' h _⟩
theorem esum_in {p D : Int} (h : 0 < p) (a b : GPr) : PrIn p (esumZ p D a b) := ⟨mod_in' h _, mod_in' h _⟩
def eoA : Sched := .take 0 (.take 2 (.take 5 (.take 8 (.take 10 (.take 13 (.ld 1 (.ld 3 (.take 4 (.ld 6 (.take 7 (.take 16 (.ld 9 (.ld 11 (.take 12 (.ld 14 (.take 15 (.take 17 .fin)))))))))))))))))
def eoB : Sched := .take 0 (.take 1 (.take 2 (.take 3 (.take 6 (.take 8 (.take 10 (.take 13 (.take 16 (.ld 4 (.ld 7 (.take 9 (.ld 11 (.take 12 (.take 14 (.take 15 (.ld 17 (.take 18 (.alt 5 (.take 19 (.take 20 .fin)) .nil))))))))))))))))))
attribute [local go_sem] eoA eoB
set_option maxHeartbeats 4000000 in
include hm in
theorem l4On (k : GEd) (P : GPr) (hk : EdIn k) : Holds Tryz.prog 122 [edA k, prA P] [] (.v (.bool (eonZ k.p k.d P))) [] := by
 refine holds_ref (ann := []) tabOk hm (byL [] [1000002, 1000003]) Tryz.func122 (by kernel_rfl) rfl ?_
 obtain ⟨p, d, l, bx, by'⟩ := k
 obtain ⟨x, y⟩ := P
 obtain ⟨h1, h2, h3⟩ := hk
 simp only at h1 h2 h3
 simp +decide (disch := first | omega | (simp only [ll]; omega)) only [Tryz.f122, if_pos, go_sem]
 refine Runs.call (l1In hm x 0 (p - 1)) ?_
 simp +decide only [go_sem]
 refine Runs.split (fun h => ?_) (fun h => ?_)
 ·have e : eonZ p d (x, y) = false := by simp [inB] at h; simp [eonZ]; omega
  simp +decide only [e, go_sem]
  exact Runs.ret_v
 ·have hx : 0 ≤ x ∧ x < p := by simp [inB] at h; omega
  simp +decide (disch := first | omega | (simp only [ll]; omega)) only [if_pos, go_sem]
  refine Runs.call (l1In hm y 0 (p - 1)) ?_
  simp +decide only [go_sem]
  refine Runs.split (fun h => ?_) (fun h => ?_)
  ·have e : eonZ p d (x, y) = false := by simp [inB] at h; simp [eonZ]; omega
   simp +decide only [e, go_sem]
   exact Runs.ret_v
  ·have hy : 0 ≤ y ∧ y < p := by simp [inB] at h; omega
   have b1 := mul_in hy hy (by omega)
   have b2 := mul_in hx hx (by omega)
   have m1 := mod_in' (show 0 < p by omega) (x * x)
   have m2 := mod_in' (show 0 < p by omega) (y * y)
   have b3 := mul_in h3 m1 (by omega)
   have m3 := mod_in' (show 0 < p by omega) (d * (x * x % p))
   have b4 := mul_in m3 m2 (by omega)
   simp +decide only [go_sem]
   refine Runs.draw (st1 := ?s1) (draws_ref (ann := []) tabOk (byL [] [1000002, 1000003]) eoA (by kernel_rfl) ?p1) ?q1
   case p1 =>
    intro K r X hK
    simp +decide (maxSteps := 9^7) (disch := first | omega | (simp only [ll]; omega)) only [Int.tmod_eq_emod_of_nonneg, if_pos, go_sem]
    exact hK
   case q1 =>
    simp +decide only [go_sem]
    refine Runs.draw (st1 := ?s2) (draws_ref (ann := []) tabOk (byL [] [1000002, 1000003]) eoB (by kernel_rfl) ?p2) ?q2
    case p2 =>
     intro K r X hK
     simp +decide (maxSteps := 9^7) (disch := first | omega | (simp only [ll]; omega)) only [Int.tmod_eq_emod_of_nonneg, if_pos, go_sem]
     refine Runs.call (l2Left hm (y * y % p - x * x % p) p (by omega) (by omega)) ?_
     simp +decide (maxSteps := 9^7) (disch := first | omega | (simp only [ll]; omega)) only [Int.tmod_eq_emod_of_nonneg, if_pos, go_sem]
     exact hK
    case q2 =>
     simp +decide only [go_sem]
     exact Runs.ret_eq (by simp [eonZ, hx, hy]; omega)
def eoC : Sched := .take 0 (.take 2 (.take 5 (.take 8 (.take 10 (.take 13 (.ld 1 (.ld 3 (.take 4 (.ld 6 (.take 7 (.take 16 (.ld 9 (.ld 11 (.take 12 (.ld 14 (.take 15 (.take 17 .fin)))))))))))))))))
def eoD : Sched := .take 0 (.take 1 (.take 2 (.take 3 (.take 6 (.take 8 (.take 10 (.take 13 (.take 16 (.ld 4 (.ld 7 (.take 9 (.ld 11 (.take 12 (.take 14 (.take 15 (.ld 17 (.take 18 (.alt 5 (.take 19 (.take 20 .fin)) .nil))))))))))))))))))
attribute [local go_sem] eoC eoD
set_option maxHeartbeats 4000000 in
include hm in
theorem isPair (k : GEd) (P : GPr) (hk : EdIn k) : Holds Tryz.prog 140 [edA k, prA P] [] (.v (.bool (eonZ k.p k.d P))) [] := by
 refine holds_ref (ann := []) tabOk hm (byL [] [1000002, 1000003]) Tryz.func140 (by kernel_rfl) rfl ?_
 obtain ⟨p, d, l, bx, by'⟩ := k
 obtain ⟨x, y⟩ := P
 obtain ⟨h1, h2, h3⟩ := hk
 simp only at h1 h2 h3
 simp +decide (disch := first | omega | (simp only [ll]; omega)) only [Tryz.f140, if_pos, go_sem]
 refine Runs.call (within hm x 0 (p - 1)) ?_
 simp +decide only [go_sem]
 refine Runs.split (fun h => ?_) (fun h => ?_)
 ·have e : eonZ p d (x, y) = false := by simp [inB] at h; simp [eonZ]; omega
  simp +decide only [e, go_sem]
  exact Runs.ret_v
 ·have hx : 0 ≤ x ∧ x < p := by simp [inB] at h; omega
  simp +decide (disch := first | omega | (simp only [ll]; omega)) only [if_pos, go_sem]
  refine Runs.call (within hm y 0 (p - 1)) ?_
  simp +decide only [go_sem]
  refine Runs.split (fun h => ?_) (fun h => ?_)
  ·have e : eonZ p d (x, y) = false := by simp [inB] at h; simp [eonZ]; omega
   simp +decide only [e, go_sem]
   exact Runs.ret_v
  ·have hy : 0 ≤ y ∧ y < p := by simp [inB] at h; omega
   have b1 := mul_in hy hy (by omega)
   have b2 := mul_in hx hx (by omega)
   have m1 := mod_in' (show 0 < p by omega) (x * x)
   have m2 := mod_in' (show 0 < p by omega) (y * y)
   have b3 := mul_in h3 m1 (by omega)
   have m3 := mod_in' (show 0 < p by omega) (d * (x * x % p))
   have b4 := mul_in m3 m2 (by omega)
   simp +decide only [go_sem]
   refine Runs.draw (st1 := ?s1) (draws_ref (ann := []) tabOk (byL [] [1000002, 1000003]) eoC (by kernel_rfl) ?p1) ?q1
   case p1 =>
    intro K r X hK
    simp +decide (maxSteps := 9^7) (disch := first | omega | (simp only [ll]; omega)) only [Int.tmod_eq_emod_of_nonneg, if_pos, go_sem]
    exact hK
   case q1 =>
    simp +decide only [go_sem]
    refine Runs.draw (st1 := ?s2) (draws_ref (ann := []) tabOk (byL [] [1000002, 1000003]) eoD (by kernel_rfl) ?p2) ?q2
    case p2 =>
     intro K r X hK
     simp +decide (maxSteps := 9^7) (disch := first | omega | (simp only [ll]; omega)) only [Int.tmod_eq_emod_of_nonneg, if_pos, go_sem]
     refine Runs.call (rest hm (y * y % p - x * x % p) p (by omega) (by omega)) ?_
     simp +decide (maxSteps := 9^7) (disch := first | omega | (simp only [ll]; omega)) only [Int.tmod_eq_emod_of_nonneg, if_pos, go_sem]
     exact hK
    case q2 =>
     simp +decide only [go_sem]
     exact Runs.ret_eq (by simp [eonZ, hx, hy]; omega)
include hm in
theorem baseE (k : GEd) : Holds Tryz.prog 185 [edA k] [] (prA (k.bx, k.by')) [] := by
 refine holds_ref (ann := []) tabOk hm (byL [] [1000001]) Tryz.func185 (by kernel_rfl) rfl ?_
 simp +decide only [Tryz.f185, go_sem]
 exact Runs.ret_refl
def eaA : Sched := .take 0 (.take 2 (.take 5 (.take 8 (.take 10 (.take 13 (.ld 1 (.ld 3 (.take 4 (.ld 6 (.take 7 (.take 16 (.ld 9 (.ld 11 (.take 12 (.ld 14 (.take 15 (.take 17 .fin)))))))))))))))))
def eaB : Sched := .take 0 (.take 2 (.take 4 (.take 7 (.take 9 (.ld 1 (.take 3 (.ld 5 (.take 6 (.take 8 (.ld 10 (.take 11 (.take 12 .fin))))))))))))
def eaC : Sched := .take 0 (.take 1 (.take 2 (.take 3 (.take 7 (.take 10 (.take 11 (.take 12 (.take 13 (.take 16 (.take 17 (.take 18 (.take 22 (.ld 4 (.ld 8 (.ld 14 (.take 15 (.ld 19 (.ld 23 (.alt 5 (.take 6 (.take 9 (.alt 20 (.take 21 (.take 24 (.alt 25 (.alt 26 .fin .nil) .nil))) .nil))) .nil)))))))))))))))))))
attribute [local go_sem] eaA eaB eaC
set_option maxHeartbeats 4000000 in
include hm in
theorem l4Add (k : GEd) (P Q : GPr) (hk : EdIn k) (hP : PrIn k.p P) (hQ : PrIn k.p Q) : Holds Tryz.prog 197 [edA k, prA P, prA Q] [] (prA (eaddZ k.p k.d P Q)) [] := by
 refine holds_ref (ann := []) tabOk hm (byL [] [1000003, 1000004, 1000005]) Tryz.func197 (by kernel_rfl) rfl ?_
 obtain ⟨p, d, l, bx, by'⟩ := k
 obtain ⟨x, y⟩ := P
 obtain ⟨u, v⟩ := Q
 obtain ⟨h1, h2, h3⟩ := hk
 obtain ⟨hx, hy⟩ := hP
 obtain ⟨hu, hv⟩ := hQ
 simp only at h1 h2 h3 hx hy hu hv
 have hp : 0 < p := by omega
 have b1 := mul_in hx hu (by omega)
 have b2 := mul_in hy hv (by omega)
 have b3 := mul_in hx hv (by omega)
 have b4 := mul_in hy hu (by omega)
 have m1 := mod_in' hp (x * u)
 have m2 := mod_in' hp (y * v)
 have b5 := mul_in h3 m1 (by omega)
 have m3 := mod_in' hp (d * (x * u % p))
 have b6 := mul_in m3 m2 (by omega)
 have m4 := mod_in' hp (d * (x * u % p) % p * (y * v % p))
 have m5 := mod_in' hp (x * v + y * u)
 have m6 := mod_in' hp (y * v % p + x * u % p)
 have i1 := invI_range (a := 1 + d * (x * u % p) % p * (y * v % p) % p) (m := p) hp
 have i2 := invI_range (a := 1 - d * (x * u % p) % p * (y * v % p) % p) (m := p) hp
 have b7 := mul_in m5 i1 (by omega)
 have b8 := mul_in m6 i2 (by omega)
 simp +decide only [Tryz.f197, go_sem]
 refine Runs.draw (st1 := ?s1) (draws_ref (ann := []) tabOk (byL [] [1000003, 1000004, 1000005]) eaA (by kernel_rfl) ?p1) ?q1
 case p1 =>
  intro K r X hK
  simp +decide (maxSteps := 9^7) (disch := first | omega | (simp only [ll]; omega)) only [Int.tmod_eq_emod_of_nonneg, if_pos, go_sem]
  exact hK
 case q1 =>
  simp +decide only [go_sem]
  refine Runs.draw (st1 := ?s2) (draws_ref (ann := []) tabOk (byL [] [1000003, 1000004, 1000005]) eaB (by kernel_rfl) ?p2) ?q2
  case p2 =>
   intro K r X hK
   simp +decide (maxSteps := 9^7) (disch := first | omega | (simp only [ll]; omega)) only [Int.tmod_eq_emod_of_nonneg, if_pos, go_sem]
   exact hK
  case q2 =>
   simp +decide (maxSteps := 9^7) (disch := first | omega | (simp only [ll]; omega)) only [Int.tmod_eq_emod_of_nonneg, if_pos, go_sem]
   refine Runs.draw (st1 := ?s3) (draws_ref (ann := []) tabOk (byL [] [1000003, 1000004, 1000005]) eaC (by kernel_rfl) ?p3) ?q3
   case p3 =>
    intro K r X hK
    simp +decide (maxSteps := 9^7) (disch := first | omega | (simp only [ll]; omega)) only [Int.tmod_eq_emod_of_nonneg, if_pos, go_sem]
    refine Runs.call (l2Inv hm (1 + d * (x * u % p) % p * (y * v % p) % p) p (by omega) (by omega)) ?_
    simp +decide (maxSteps := 9^7) (disch := first | omega | (simp only [ll]; omega)) only [Int.tmod_eq_emod_of_nonneg, if_pos, go_sem]
    refine Runs.call (l2Inv hm (1 - d * (x * u % p) % p * (y * v % p) % p) p (by omega) (by omega)) ?_
    simp +decide (maxSteps := 9^7) (disch := first | omega | (simp only [ll]; omega)) only [Int.tmod_eq_emod_of_nonneg, if_pos, go_sem]
    exact hK
   case q3 =>
    simp +decide only [go_sem]
    exact Runs.ret_eq (by simp [prA, eaddZ])
def esA : Sched := .take 0 (.take 2 (.take 5 (.take 8 (.take 11 (.take 14 (.take 17 (.take 20 (.take 23 (.ld 1 (.ld 3 (.take 4 (.ld 6 (.take 7 (.ld 9 (.take 10 (.ld 12 (.take 13 (.ld 15 (.take 16 (.ld 18 (.take 19 (.ld 21 (.take 22 (.ld 24 (.take 25 (.take 26 .fin))))))))))))))))))))))))))
def esB : Sched := .take 0 (.take 2 (.take 5 (.take 7 (.take 11 (.take 14 (.take 16 (.take 19 (.take 21 (.take 24 (.take 26 (.take 30 (.take 33 (.take 35 (.ld 1 (.ld 3 (.take 4 (.ld 6 (.ld 8 (.take 9 (.take 10 (.ld 12 (.take 13 (.take 15 (.ld 17 (.take 18 (.ld 20 (.ld 22 (.take 23 (.ld 25 (.ld 27 (.take 28 (.take 29 (.ld 31 (.take 32 (.take 34 (.ld 36 (.take 37 (.alt 38 (.alt 39 .fin .nil) .nil))))))))))))))))))))))))))))))))))))))
attribute [local go_sem] esA esB
set_option maxHeartbeats 4000000 in
include hm in
theorem sumE (k : GEd) (P Q : GPr) (hk : EdIn k) (hP : PrIn k.p P) (hQ : PrIn k.p Q) : Holds Tryz.prog 202 [edA k, prA P, prA Q] [] (prA (esumZ k.p k.d P Q)) [] := by
 refine holds_ref (ann := []) tabOk hm (byL [] [1000003, 1000004, 1000005]) Tryz.func202 (by kernel_rfl) rfl ?_
 obtain ⟨p, d, l, bx, by'⟩ := k
 obtain ⟨x, y⟩ := P
 obtain ⟨u, v⟩ := Q
 obtain ⟨h1, h2, h3⟩ := hk
 obtain ⟨hx, hy⟩ := hP
 obtain ⟨hu, hv⟩ := hQ
 simp only at h1 h2 h3 hx hy hu hv
 have hp : 0 < p := by omega
 have b1 := mul_in hx hu (by omega)
 have b2 := mul_in hy hv (by omega)
 have b3 := mul_in hx hv (by omega)
 have b4 := mul_in hy hu (by omega)
 have c1 := mul_in h3 hx (by omega)
 have n1 := mod_in' hp (d * x)
 have c2 := mul_in n1 hu (by omega)
 have n2 := mod_in' hp (d * x % p * u)
 have c3 := mul_in n2 hy (by omega)
 have n3 := mod_in' hp (d * x % p * u % p * y)
 have c4 := mul_in n3 hv (by omega)
 have n4 := mod_in' hp (d * x % p * u % p * y % p * v)
 have m5 := mod_in' hp (x * v + y * u)
 have m6 := mod_in' hp (y * v + x * u)
 have i1 := invI_range (a := 1 + d * x % p * u % p * y % p * v % p) (m := p) hp
 have i2 := invI_range (a := 1 - d * x % p * u % p * y % p * v % p) (m := p) hp
 have b7 := mul_in m5 i1 (by omega)
 have b8 := mul_in m6 i2 (by omega)
 simp +decide only [Tryz.f202, go_sem]
 refine Runs.draw (st1 := ?s1) (draws_ref (ann := []) tabOk (byL [] [1000003, 1000004, 1000005]) esA (by kernel_rfl) ?p1) ?q1
 case p1 =>
  intro K r X hK
  simp +decide (maxSteps := 9^7) (disch := first | omega | (simp only [ll]; omega)) only [Int.tmod_eq_emod_of_nonneg, if_pos, go_sem]
  exact hK
 case q1 =>
  simp +decide (disch := first | omega | (simp only [ll]; omega)) only [if_pos, go_sem]
  refine Runs.call (invInt hm (1 + d * x % p * u % p * y % p * v % p) p (by omega) (by omega)) ?_
  simp +decide (maxSteps := 9^7) (disch := first | omega | (simp only [ll]; omega)) only [if_pos, go_sem]
  refine Runs.call (invInt hm (1 - d * x % p * u % p * y % p * v % p) p (by omega) (by omega)) ?_
  simp +decide (maxSteps := 9^7) (disch := first | omega | (simp only [ll]; omega)) only [if_pos, go_sem]
  refine Runs.draw (st1 := ?s2) (draws_ref (ann := []) tabOk (byL [] [1000003, 1000004, 1000005]) esB (by kernel_rfl) ?p2) ?q2
  case p2 =>
   intro K r X hK
   simp +decide (maxSteps := 9^7) (disch := first | omega | (simp only [ll]; omega)) only [Int.tmod_eq_emod_of_nonneg, if_pos, go_sem]
   exact hK
  case q2 =>
   simp +decide only [go_sem]
   exact Runs.ret_eq (by simp [prA, esumZ])
end Go.Proofs.W

namespace Go.Proofs.W
open Go Go.AM Go.Proofs.G
variable (hm : Tryz.prog.follows .mixedOrders = true)
attribute [local go_sem] edA prA
def zPr : A := .agg [.v (.int .i64 0), .v (.int .i64 0)]
theorem one_in {p : Int} (h : 13 ≤ p) : PrIn p (0, 1) := ⟨⟨by show (0 : Int) ≤ 0; omega, by show (0 : Int) < p; omega⟩, ⟨by show (0 : Int) ≤ 1; omega, by show (1 : Int) < p; omega⟩⟩
def leAnn : Ann := [(0, [1, 3, 5, 6, 7])]
def leSt (k : GEd) (p : Nat × GPr × GPr) : St := ⟨[.any, .v (.int .i64 p.1), .any, .ptr [edA k] 0 0, .any, .ref (.l 0) 0 0 1, .ref (.l 1) 0 0 1, .ref (.l 2) 0 0 1, .any, .any, .any, .any, .any, .any, .any, .any, .any, .any, .any, .any, .any, .any, .any, .any, .any], [(0, ⟨true, 2, true, [prA p.2.2]⟩), (1, ⟨true, 2, true, [zPr]⟩), (2, ⟨true, 2, true, [prA p.2.1]⟩)], []⟩
set_option maxRecDepth 10000 in
set_option maxHeartbeats 4000000 in
include hm in
theorem l4Mul (k : GEd) (n : Nat) (P : GPr) (hk : EdIn k) (hP : PrIn k.p P) (hn : n ≤ 9223372036854775807) : Holds Tryz.prog 164 [edA k, .v (.int .i64 n), prA P] [] (prA (mulL (eaddZ k.p k.d) n (0, 1) P)) [] := by
 refine holds_ref (ann := leAnn) tabOk hm (byL [] [1000003]) Tryz.func164 (by kernel_rfl) rfl ?_
 have hp : 0 < k.p := by have := hk.1; omega
 simp +decide only [Tryz.f164, go_sem]
 refine Runs.while (α := Nat × GPr × GPr) (leSt k) (fun p => p.1) (fun p => p.1 ≤ n ∧ PrIn k.p p.2.1 ∧ PrIn k.p p.2.2 ∧ mulL (eaddZ k.p k.d) p.1 p.2.1 p.2.2 = mulL (eaddZ k.p k.d) n (0, 1) P) (n, (0, 1), P) ⟨Nat.le_refl _, one_in hk.1, hP, rfl⟩ ?_ ?_
 ·simp [go_sem, leAnn, leSt, zPr]
 ·rintro ⟨i, out, a⟩ ⟨hi, ho, ha, hg⟩ ih
  simp only at hi ho ha hg
  have e3 := tmod_nat i 2
  have e4 := tdiv_nat i 2
  have w3 : IntKind.i64.wrap ((i / 2 : Nat) : Int) = ((i / 2 : Nat) : Int) := wrap_i64 (by omega) (by omega)
  have c1 := l4Add hm k out a hk ho ha
  have c2 := l4Add hm k a a hk ha ha
  have o1 := eadd_in (D := k.d) hp out a
  have o2 := eadd_in (D := k.d) hp a a
  simp +decide only [leSt, zPr, go_sem]
  refine Runs.split (fun h => ?_) (fun h => ?_)
  ·have hs : i ≠ 0 := by simp at h; omega
   rw [mulL_step _ _ _ _ hs] at hg
   simp +decide (disch := first | omega | (simp only [ll]; omega)) only [if_pos, go_sem]
   rw [show (2 : Int) = ((2 : Nat) : Int) from rfl, e3]
   refine Runs.split (fun h => ?_) (fun h => ?_)
   ·have hbit : i % 2 = 1 := by simp at h; omega
    rw [if_pos hbit] at hg
    simp +decide (disch := first | omega | (simp only [ll]; omega)) only [if_pos, go_sem]
    refine Runs.call c1 ?_
    simp +decide (disch := first | omega | (simp only [ll]; omega)) only [if_pos, go_sem]
    refine Runs.call c2 ?_
    simp +decide (disch := first | omega | (simp only [ll]; omega)) only [e4, w3, if_pos, go_sem]
    refine ih (i / 2, eaddZ k.p k.d out a, eaddZ k.p k.d a a) _ (by simp only; omega) ⟨by simp only; omega, o1, o2, hg⟩ ?_
    simp [go_sem, leAnn, leSt, zPr]
   ·have hbit : ¬ i % 2 = 1 := by simp at h; omega
    rw [if_neg hbit] at hg
    simp +decide (disch := first | omega | (simp only [ll]; omega)) only [if_pos, go_sem]
    refine Runs.call c2 ?_
    simp +decide (disch := first | omega | (simp only [ll]; omega)) only [e4, w3, if_pos, go_sem]
    refine ih (i / 2, out, eaddZ k.p k.d a a) _ (by simp only; omega) ⟨by simp only; omega, ho, o2, hg⟩ ?_
    simp [go_sem, leAnn, leSt, zPr]
  ·have hs : i = 0 := by simp at h; omega
   subst hs
   rw [mulL_zero] at hg
   simp +decide only [go_sem]
   exact Runs.ret_eq (by rw [← hg])
def teAnn : Ann := [(0, [1, 3, 5, 6, 7, 8])]
def teSt (k : GEd) (n : Nat) (P : GPr) (p : Int × GPr) : St := ⟨[.any, .v (.int .i64 n), .any, .ptr [edA k] 0 0, .any, .ptr [prA P] 0 0, .ref (.l 0) 0 0 1, .ref (.l 1) 0 0 1, .v (.int .i64 p.1), .any, .any, .any, .any, .any, .any, .any, .any, .any, .any, .any, .any, .any, .any, .any, .any, .any, .any, .any, .any, .any, .any, .any], [(0, ⟨true, 2, true, [zPr]⟩), (1, ⟨true, 2, true, [prA p.2]⟩)], []⟩
set_option maxRecDepth 10000 in
set_option maxHeartbeats 4000000 in
include hm in
theorem timesE (k : GEd) (n : Nat) (P : GPr) (hk : EdIn k) (hP : PrIn k.p P) (hn : n ≤ 9223372036854775807) : Holds Tryz.prog 186 [edA k, .v (.int .i64 n), prA P] [] (prA (mulM (esumZ k.p k.d) (0, 1) n P)) [] := by
 refine holds_ref (ann := teAnn) tabOk hm (byL [] [1000003, 1000005]) Tryz.func186 (by kernel_rfl) rfl ?_
 have hp : 0 < k.p := by have := hk.1; omega
 have hl : blen n ≤ 63 := blen_le (by omega)
 simp +decide (disch := first | omega | (simp only [ll]; omega)) only [Tryz.f186, if_pos, go_sem]
 refine Runs.call (bitsLen hm n (by omega)) ?_
 simp +decide (disch := first | omega | (simp only [ll]; omega)) only [if_pos, go_sem]
 refine Runs.while (α := Int × GPr) (teSt k n P) (fun p => (p.1 + 1).toNat) (fun p => -1 ≤ p.1 ∧ p.1 ≤ 62 ∧ PrIn k.p p.2 ∧ (p.1 = -1 ∨ 2 ^ p.1.toNat ≤ n) ∧ p.2 = mulM (esumZ k.p k.d) (0, 1) (n / 2 ^ (p.1 + 1).toNat) P) ((blen n : Int) - 1, (0, 1)) ⟨by simp only; omega, by simp only; omega, one_in hk.1, ?_, ?_⟩ ?_ ?_
 ·simp only
  by_cases hz : n = 0
  ·left; subst hz; rw [blen_zero]; rfl
  ·right
   have := blen_ge hz
   have hp := blen_pos hz
   have e : ((blen n : Int) - 1).toNat = blen n - 1 := by omega
   rw [e]
   exact this
 ·simp only
  have e : ((blen n : Int) - 1 + 1).toNat = blen n := by omega
  rw [e, Nat.div_eq_of_lt blen_lt, mulM_zero]
 ·simp [go_sem, teAnn, teSt, zPr]
 ·rintro ⟨i, out⟩ ⟨hi1, hi2, ho, hi3, hg⟩ ih
  simp only at hi1 hi2 ho hi3 hg
  simp +decide only [teSt, zPr, go_sem]
  refine Runs.split (fun h => ?_) (fun h => ?_)
  ·have hs : 0 ≤ i := by simpa using h
   obtain ⟨j, rfl⟩ := nat_of hs
   have hk' : 2 ^ j ≤ n := by
    rcases hi3 with h | h
    ·omega
    ·simpa using h
   have ek : ((j : Int) + 1).toNat = j + 1 := by omega
   rw [ek] at hg
   have hst := mulM_step (esumZ k.p k.d) (0, 1) n j P hk'
   rw [← hg] at hst
   have c1 := sumE hm k out out hk ho ho
   have o1 := esum_in (D := k.d) hp out out
   have c2 := sumE hm k (esumZ k.p k.d out out) P hk o1 hP
   have o2 := esum_in (D := k.d) hp (esumZ k.p k.d out out) P
   have hq := Nat.div_le_self n (2 ^ j)
   have ea := andI_one (n / 2 ^ j) (by omega)
   have em : min j 64 = j := by omega
   have es := shr_nat n j
   have hpow : j = 0 ∨ 2 ^ (j - 1) ≤ n := by
    rcases Nat.eq_zero_or_pos j with h | h
    ·exact .inl h
    ·right; exact Nat.le_trans (Nat.pow_le_pow_right (by omega) (by omega)) hk'
   simp +decide (disch := first | omega | (simp only [ll]; omega)) only [if_pos, go_sem]
   refine Runs.call c1 ?_
   simp +decide (disch := first | omega | (simp only [ll]; omega)) only [em, es, ea, if_pos, go_sem]
   refine Runs.split (fun h => ?_) (fun h => ?_)
   ·have hbit : n / 2 ^ j % 2 = 1 := by simp only [decide_eq_true_eq] at h; omega
    rw [if_pos hbit] at hst
    simp +decide (disch := first | omega | (simp only [ll]; omega)) only [if_pos, go_sem]
    refine Runs.call c2 ?_
    simp +decide (disch := first | omega | (simp only [ll]; omega)) only [if_pos, go_sem]
    refine ih ((j : Int) - 1, esumZ k.p k.d (esumZ k.p k.d out out) P) _ (by simp only; omega) ⟨by simp only; omega, by simp only; omega, o2, ?_, ?_⟩ ?_
    ·simp only
     rcases hpow with h | h
     ·left; omega
     ·right
      have e : ((j : Int) - 1).toNat = j - 1 := by omega
      rw [e]; exact h
    ·simp only
     have e : ((j : Int) - 1 + 1).toNat = j := by omega
     rw [e, hst]
    ·simp [go_sem, teAnn, teSt, zPr]
   ·have hbit : ¬ n / 2 ^ j % 2 = 1 := by simp only [decide_eq_false_iff_not] at h; omega
    rw [if_neg hbit] at hst
    simp +decide (disch := first | omega | (simp only [ll]; omega)) only [if_pos, go_sem]
    refine ih ((j : Int) - 1, esumZ k.p k.d out out) _ (by simp only; omega) ⟨by simp only; omega, by simp only; omega, o1, ?_, ?_⟩ ?_
    ·simp only
     rcases hpow with h | h
     ·left; omega
     ·right
      have e : ((j : Int) - 1).toNat = j - 1 := by omega
      rw [e]; exact h
    ·simp only
     have e : ((j : Int) - 1 + 1).toNat = j := by omega
     rw [e, hst]
    ·simp [go_sem, teAnn, teSt, zPr]
  ·have hs : i = -1 := by simp at h; omega
   subst hs
   simp at hg
   simp +decide only [go_sem]
   exact Runs.ret_eq (by rw [← hg])
end Go.Proofs.W

namespace Go.Proofs.W
open Go Go.AM Go.Proofs.G
set_option maxRecDepth 10000
variable (hm : Tryz.prog.follows .mixedOrders = true)
attribute [local go_sem] edA prA
noncomputable def edB (k : GEd) : Bool :=
 inB k.p 13 1048576 && decide (k.p.tmod 8 = 5) && primeZ k.p && inB k.d 2 (k.p - 1) && decide (powZ k.d ((k.p.toNat - 1) / 2) k.p = k.p - 1) && inB k.l 5 2097152 && primeZ k.l &&
 eonZ k.p k.d (k.bx, k.by') && !(decide (k.bx = 0) && decide (k.by' = 1)) && (decide ((mulL (eaddZ k.p k.d) k.l.toNat (0, 1) (k.bx, k.by')).1 = 0) && decide ((mulL (eaddZ k.p k.d) k.l.toNat (0, 1) (k.bx, k.by')).2 = 1))
theorem eonZ_in {p D : Int} {P : GPr} (h : eonZ p D P = true) : PrIn p P := by
 unfold eonZ at h
 simp only [Bool.and_eq_true, decide_eq_true_eq] at h
 exact ⟨by omega, by omega⟩
theorem ed_in {k : GEd} (h : edB k = true) : EdIn k := by
 simp only [edB, Bool.and_eq_true] at h
 obtain ⟨⟨⟨⟨⟨⟨⟨⟨⟨c1, _⟩, _⟩, c4⟩, _⟩, _⟩, _⟩, _⟩, _⟩, _⟩ := h
 have := inB_t c1
 have := inB_t c4
 exact ⟨by omega, by omega, by omega⟩
theorem half_p {p : Int} (h : 1 ≤ p) : (p - 1).tdiv 2 = ((p.toNat - 1) / 2 : Nat) := by
 rw [Int.tdiv_eq_ediv_of_nonneg (by omega)]
 omega
def seS : Sched := .take 0 (.ld 1 (.alt 2 (.take 3 (.take 4 (.take 5 (.ld 6 (.take 7 (.take 8 (.take 9 (.take 10 (.take 11 (.ld 12 (.alt 13 (.take 14 (.take 15 (.take 16 (.take 17 (.take 19 (.ld 18 (.ld 20 (.take 21 (.alt 22 (.take 23 (.take 24 (.take 25 (.take 26 (.take 28 (.take 32 (.take 35 (.ld 27 (.ld 29 (.take 30 (.take 31 (.ld 33 (.ld 36 (.take 37 (.alt 34 (.take 38 (.take 39 (.take 40 (.take 41 (.ld 42 (.alt 43 (.take 44 (.take 45 (.take 46 (.take 47 (.ld 48 (.alt 49 (.take 50 (.take 51 .fin)) .nil)))))) .nil)))))) .nil))))))))))))))) .nil))))))))) .nil))))))))))) .nil))
attribute [local go_sem] seS
set_option maxHeartbeats 8000000 in
include hm in
theorem sEdOk (k : GEd) : Holds Tryz.prog 121 [edA k] [] (.v (.bool (edB k))) [] := by
 refine holds_ref (ann := []) tabOk hm (byL [] [1000001]) Tryz.func121 (by kernel_rfl) rfl ?_
 obtain ⟨p, d, l, bx, by'⟩ := k
 have hc1 := l1In hm p 13 1048576
 have hc3 := sPrime hm p
 have hc4 := l1In hm d 2 (p - 1)
 have hc6 := l1In hm l 5 2097152
 have hc7 := sPrime hm l
 simp +decide only [Tryz.f121, go_sem]
 cases e1 : inB p 13 1048576 with
 | false =>
  rw [e1] at hc1
  have e : edB ⟨p, d, l, bx, by'⟩ = false := by simp [edB, e1]
  refine Runs.draw (st1 := ?s1) (draws_ref (ann := []) tabOk (byL [] [1000001]) seS (by kernel_rfl) ?p1) ?q1
  case p1 =>
   intro K r X hK
   simp +decide (maxSteps := 9^7) (disch := first | omega | (simp only [ll]; omega)) only [if_pos, go_sem]
   refine Runs.call hc1 ?_
   simp +decide (maxSteps := 9^7) (disch := first | omega | (simp only [ll]; omega)) only [if_pos, go_sem]
   exact hK
  case q1 =>
   simp +decide (maxSteps := 9^7) only [e, go_sem]
   exact Runs.ret_v
 | true =>
  rw [e1] at hc1
  have ip := inB_t e1
  have hh := half_p (p := p) (by omega)
  by_cases e2 : p.tmod 8 = 5
  case neg =>
   have e : edB ⟨p, d, l, bx, by'⟩ = false := by simp [edB, e2]
   refine Runs.draw (st1 := ?s2) (draws_ref (ann := []) tabOk (byL [] [1000001]) seS (by kernel_rfl) ?p2) ?q2
   case p2 =>
    intro K r X hK
    simp +decide (maxSteps := 9^7) (disch := first | omega | (simp only [ll]; omega)) only [if_pos, go_sem]
    refine Runs.call hc1 ?_
    simp +decide (maxSteps := 9^7) (disch := first | omega | (simp only [ll]; omega)) only [e2, if_pos, go_sem]
    exact hK
   case q2 =>
    simp +decide (maxSteps := 9^7) only [e, go_sem]
    exact Runs.ret_v
  case pos =>
  cases e3 : primeZ p with
  | false =>
   rw [e3] at hc3
   have e : edB ⟨p, d, l, bx, by'⟩ = false := by simp [edB, e3]
   refine Runs.draw (st1 := ?s3) (draws_ref (ann := []) tabOk (byL [] [1000001]) seS (by kernel_rfl) ?p3) ?q3
   case p3 =>
    intro K r X hK
    simp +decide (maxSteps := 9^7) (disch := first | omega | (simp only [ll]; omega)) only [if_pos, go_sem]
    refine Runs.call hc1 ?_
    simp +decide (maxSteps := 9^7) (disch := first | omega | (simp only [ll]; omega)) only [e2, if_pos, go_sem]
    refine Runs.call hc3 ?_
    simp +decide (maxSteps := 9^7) (disch := first | omega | (simp only [ll]; omega)) only [if_pos, go_sem]
    exact hK
   case q3 =>
    simp +decide (maxSteps := 9^7) only [e, go_sem]
    exact Runs.ret_v
  | true =>
   rw [e3] at hc3
   cases e4 : inB d 2 (p - 1) with
   | false =>
    rw [e4] at hc4
    have e : edB ⟨p, d, l, bx, by'⟩ = false := by simp [edB, e4]
    refine Runs.draw (st1 := ?s4) (draws_ref (ann := []) tabOk (byL [] [1000001]) seS (by kernel_rfl) ?p4) ?q4
    case p4 =>
     intro K r X hK
     simp +decide (maxSteps := 9^7) (disch := first | omega | (simp only [ll]; omega)) only [if_pos, go_sem]
     refine Runs.call hc1 ?_
     simp +decide (maxSteps := 9^7) (disch := first | omega | (simp only [ll]; omega)) only [e2, if_pos, go_sem]
     refine Runs.call hc3 ?_
     simp +decide (maxSteps := 9^7) (disch := first | omega | (simp only [ll]; omega)) only [if_pos, go_sem]
     refine Runs.call hc4 ?_
     simp +decide (maxSteps := 9^7) (disch := first | omega | (simp only [ll]; omega)) only [if_pos, go_sem]
     exact hK
    case q4 =>
     simp +decide (maxSteps := 9^7) only [e, go_sem]
     exact Runs.ret_v
   | true =>
    rw [e4] at hc4
    have id := inB_t e4
    have hc5 := l2Pow hm d p ((p.toNat - 1) / 2) (by omega) (by omega) (by omega) (by omega)
    by_cases e5 : powZ d ((p.toNat - 1) / 2) p = p - 1
    case neg =>
     have e : edB ⟨p, d, l, bx, by'⟩ = false := by simp [edB, e5]
     refine Runs.draw (st1 := ?s5) (draws_ref (ann := []) tabOk (byL [] [1000001]) seS (by kernel_rfl) ?p5) ?q5
     case p5 =>
      intro K r X hK
      simp +decide (maxSteps := 9^7) (disch := first | omega | (simp only [ll]; omega)) only [if_pos, go_sem]
      refine Runs.call hc1 ?_
      simp +decide (maxSteps := 9^7) (disch := first | omega | (simp only [ll]; omega)) only [e2, if_pos, go_sem]
      refine Runs.call hc3 ?_
      simp +decide (maxSteps := 9^7) (disch := first | omega | (simp only [ll]; omega)) only [if_pos, go_sem]
      refine Runs.call hc4 ?_
      simp +decide (maxSteps := 9^7) (disch := first | omega | (simp only [ll]; omega)) only [hh, if_pos, go_sem]
      refine Runs.call hc5 ?_
      simp +decide (maxSteps := 9^7) (disch := first | omega | (simp only [ll]; omega)) only [e5, if_pos, go_sem]
      exact hK
     case q5 =>
      simp +decide (maxSteps := 9^7) only [e, go_sem]
      exact Runs.ret_v
    case pos =>
    cases e6 : inB l 5 2097152 with
    | false =>
     rw [e6] at hc6
     have e : edB ⟨p, d, l, bx, by'⟩ = false := by simp [edB, e6]
     refine Runs.draw (st1 := ?s6) (draws_ref (ann := []) tabOk (byL [] [1000001]) seS (by kernel_rfl) ?p6) ?q6
     case p6 =>
      intro K r X hK
      simp +decide (maxSteps := 9^7) (disch := first | omega | (simp only [ll]; omega)) only [if_pos, go_sem]
      refine Runs.call hc1 ?_
      simp +decide (maxSteps := 9^7) (disch := first | omega | (simp only [ll]; omega)) only [e2, if_pos, go_sem]
      refine Runs.call hc3 ?_
      simp +decide (maxSteps := 9^7) (disch := first | omega | (simp only [ll]; omega)) only [if_pos, go_sem]
      refine Runs.call hc4 ?_
      simp +decide (maxSteps := 9^7) (disch := first | omega | (simp only [ll]; omega)) only [hh, if_pos, go_sem]
      refine Runs.call hc5 ?_
      simp +decide (maxSteps := 9^7) (disch := first | omega | (simp only [ll]; omega)) only [e5, if_pos, go_sem]
      refine Runs.call hc6 ?_
      simp +decide (maxSteps := 9^7) (disch := first | omega | (simp only [ll]; omega)) only [if_pos, go_sem]
      exact hK
     case q6 =>
      simp +decide (maxSteps := 9^7) only [e, go_sem]
      exact Runs.ret_v
    | true =>
     rw [e6] at hc6
     cases e7 : primeZ l with
     | false =>
      rw [e7] at hc7
      have e : edB ⟨p, d, l, bx, by'⟩ = false := by simp [edB, e7]
      refine Runs.draw (st1 := ?s7) (draws_ref (ann := []) tabOk (byL [] [1000001]) seS (by kernel_rfl) ?p7) ?q7
      case p7 =>
       intro K r X hK
       simp +decide (maxSteps := 9^7) (disch := first | omega | (simp only [ll]; omega)) only [if_pos, go_sem]
       refine Runs.call hc1 ?_
       simp +decide (maxSteps := 9^7) (disch := first | omega | (simp only [ll]; omega)) only [e2, if_pos, go_sem]
       refine Runs.call hc3 ?_
       simp +decide (maxSteps := 9^7) (disch := first | omega | (simp only [ll]; omega)) only [if_pos, go_sem]
       refine Runs.call hc4 ?_
       simp +decide (maxSteps := 9^7) (disch := first | omega | (simp only [ll]; omega)) only [hh, if_pos, go_sem]
       refine Runs.call hc5 ?_
       simp +decide (maxSteps := 9^7) (disch := first | omega | (simp only [ll]; omega)) only [e5, if_pos, go_sem]
       refine Runs.call hc6 ?_
       simp +decide (maxSteps := 9^7) (disch := first | omega | (simp only [ll]; omega)) only [if_pos, go_sem]
       refine Runs.call hc7 ?_
       simp +decide (maxSteps := 9^7) (disch := first | omega | (simp only [ll]; omega)) only [if_pos, go_sem]
       exact hK
      case q7 =>
       simp +decide (maxSteps := 9^7) only [e, go_sem]
       exact Runs.ret_v
     | true =>
      rw [e7] at hc7
      have il := inB_t e6
      have hl : ((l.toNat : Nat) : Int) = l := Int.toNat_of_nonneg (by omega)
      have kin : EdIn ⟨p, d, l, bx, by'⟩ := ⟨by simp only; omega, by simp only; omega, by simp only; omega⟩
      refine Runs.draw (st1 := ?s8) (draws_ref (ann := []) tabOk (byL [] [1000001]) seS (by kernel_rfl) ?p8) ?q8
      case p8 =>
       intro K r X hK
       simp +decide (maxSteps := 9^7) (disch := first | omega | (simp only [ll]; omega)) only [if_pos, go_sem]
       refine Runs.call hc1 ?_
       simp +decide (maxSteps := 9^7) (disch := first | omega | (simp only [ll]; omega)) only [e2, if_pos, go_sem]
       refine Runs.call hc3 ?_
       simp +decide (maxSteps := 9^7) (disch := first | omega | (simp only [ll]; omega)) only [if_pos, go_sem]
       refine Runs.call hc4 ?_
       simp +decide (maxSteps := 9^7) (disch := first | omega | (simp only [ll]; omega)) only [hh, if_pos, go_sem]
       refine Runs.call hc5 ?_
       simp +decide (maxSteps := 9^7) (disch := first | omega | (simp only [ll]; omega)) only [e5, if_pos, go_sem]
       refine Runs.call hc6 ?_
       simp +decide (maxSteps := 9^7) (disch := first | omega | (simp only [ll]; omega)) only [if_pos, go_sem]
       refine Runs.call hc7 ?_
       simp +decide (maxSteps := 9^7) (disch := first | omega | (simp only [ll]; omega)) only [if_pos, go_sem]
       exact hK
      case q8 =>
       simp +decide (maxSteps := 9^7) only [go_sem]
       refine Runs.call (l4On hm ⟨p, d, l, bx, by'⟩ (bx, by') kin) ?_
       simp +decide (maxSteps := 9^7) only [go_sem]
       refine Runs.split (fun c9 => ?_) (fun c9 => ?_)
       ·have gin := eonZ_in c9
        have hM := l4Mul hm ⟨p, d, l, bx, by'⟩ l.toNat (bx, by') kin gin (by omega)
        simp only at hM
        rw [hl] at hM
        simp +decide (maxSteps := 9^7) only [go_sem]
        refine Runs.split (fun c10 => ?_) (fun c10 => ?_)
        ·simp +decide (maxSteps := 9^7) only [go_sem]
         refine Runs.call hM ?_
         simp +decide (maxSteps := 9^7) only [go_sem]
         exact Runs.ret_eq (by simp at c10; simp [edB, e1, e2, e3, e4, e5, e6, e7, c9]; exact fun _ _ => c10)
        ·have e : edB ⟨p, d, l, bx, by'⟩ = false := by simp at c10; simp [edB, c10]
         simp +decide (maxSteps := 9^7) only [e, go_sem]
         exact Runs.ret_v
       ·have e : edB ⟨p, d, l, bx, by'⟩ = false := by simp [edB, c9]
        simp +decide (maxSteps := 9^7) only [e, go_sem]
        exact Runs.ret_v
def ieS : Sched := .take 0 (.take 2 (.take 6 (.ld 1 (.ld 3 (.take 4 (.take 5 (.ld 7 (.alt 8 (.take 9 (.take 10 (.ld 11 (.ld 12 (.alt 13 (.alt 14 (.take 15 (.take 16 (.take 17 (.ld 18 (.alt 19 (.alt 20 (.take 21 (.take 22 .fin)) .nil) (.alt 20 (.alt 19 (.take 21 (.take 22 .fin)) .nil) .nil)))))) .nil) .nil))))) .nil))))))))
def ieT : Sched := .take 1 (.ld 0 (.ld 2 (.ld 3 (.alt 4 (.alt 5 (.alt 6 (.take 7 (.take 8 .fin)) .nil) (.alt 6 (.alt 5 (.take 7 (.take 8 .fin)) .nil) .nil)) (.alt 6 (.alt 4 (.alt 5 (.take 7 (.take 8 .fin)) .nil) .nil) .nil)))))
attribute [local go_sem] ieS ieT
set_option maxHeartbeats 8000000 in
include hm in
theorem iEdOk (k : GEd) : Holds Tryz.prog 139 [edA k] [] (.v (.bool (edB k))) [] := by
 refine holds_ref (ann := []) tabOk hm (byL [] [1000001]) Tryz.func139 (by kernel_rfl) rfl ?_
 obtain ⟨p, d, l, bx, by'⟩ := k
 simp +decide only [Tryz.f139, go_sem]
 refine Runs.call (within hm p 13 1048576) ?_
 simp +decide (maxSteps := 9^7) only [go_sem]
 refine Runs.split (fun e1 => ?_) (fun e1 => ?_)
 ·have e : edB ⟨p, d, l, bx, by'⟩ = false := by simp only [Bool.not_eq_true'] at e1; simp [edB, e1]
  simp +decide (maxSteps := 9^7) only [e, go_sem]
  exact Runs.ret_v
 simp only [Bool.not_eq_false'] at e1
 have ip := inB_t e1
 simp +decide (maxSteps := 9^7) (disch := first | omega | (simp only [ll]; omega)) only [if_pos, go_sem]
 refine Runs.split (fun c2 => ?_) (fun c2 => ?_)
 ·have e : edB ⟨p, d, l, bx, by'⟩ = false := by
   have : ¬ p.tmod 8 = 5 := by simpa using c2
   simp [edB, this]
  simp +decide (maxSteps := 9^7) only [e, go_sem]
  exact Runs.ret_v
 have e2 : p.tmod 8 = 5 := by simpa using c2
 simp +decide (maxSteps := 9^7) (disch := first | omega | (simp only [ll]; omega)) only [if_pos, go_sem]
 refine Runs.call (within hm d 2 (p - 1)) ?_
 simp +decide (maxSteps := 9^7) only [go_sem]
 refine Runs.split (fun e4 => ?_) (fun e4 => ?_)
 ·have e : edB ⟨p, d, l, bx, by'⟩ = false := by simp only [Bool.not_eq_true'] at e4; simp [edB, e4]
  simp +decide (maxSteps := 9^7) only [e, go_sem]
  exact Runs.ret_v
 simp only [Bool.not_eq_false'] at e4
 have id := inB_t e4
 simp +decide (maxSteps := 9^7) (disch := first | omega | (simp only [ll]; omega)) only [if_pos, go_sem]
 refine Runs.call (within hm l 5 2097152) ?_
 simp +decide (maxSteps := 9^7) only [go_sem]
 refine Runs.split (fun e6 => ?_) (fun e6 => ?_)
 ·have e : edB ⟨p, d, l, bx, by'⟩ = false := by simp only [Bool.not_eq_true'] at e6; simp [edB, e6]
  simp +decide (maxSteps := 9^7) only [e, go_sem]
  exact Runs.ret_v
 simp only [Bool.not_eq_false'] at e6
 have il := inB_t e6
 simp +decide (maxSteps := 9^7) (disch := first | omega | (simp only [ll]; omega)) only [if_pos, go_sem]
 refine Runs.call (iPrime hm p) ?_
 simp +decide (maxSteps := 9^7) only [go_sem]
 refine Runs.split (fun e3 => ?_) (fun e3 => ?_)
 ·have e : edB ⟨p, d, l, bx, by'⟩ = false := by simp only [Bool.not_eq_true'] at e3; simp [edB, e3]
  simp +decide (maxSteps := 9^7) only [e, go_sem]
  exact Runs.ret_v
 simp only [Bool.not_eq_false'] at e3
 have ep := (primeZ_of e3).2.2
 simp +decide (maxSteps := 9^7) (disch := first | omega | (simp only [ll]; omega)) only [if_pos, go_sem]
 refine Runs.call (iPrime hm l) ?_
 simp +decide (maxSteps := 9^7) only [go_sem]
 refine Runs.split (fun e7 => ?_) (fun e7 => ?_)
 ·have e : edB ⟨p, d, l, bx, by'⟩ = false := by simp only [Bool.not_eq_true'] at e7; simp [edB, e7]
  simp +decide (maxSteps := 9^7) only [e, go_sem]
  exact Runs.ret_v
 simp only [Bool.not_eq_false'] at e7
 skip
 simp +decide (maxSteps := 9^7) (disch := first | omega | (simp only [ll]; omega)) only [if_pos, go_sem]
 have hl : ((l.toNat : Nat) : Int) = l := Int.toNat_of_nonneg (by omega)
 have kin : EdIn ⟨p, d, l, bx, by'⟩ := ⟨by simp only; omega, by simp only; omega, by simp only; omega⟩
 have hh := half_p (p := p) (by omega)
 have e8 : p % 8 = 5 := by rw [Int.tmod_eq_emod_of_nonneg (by omega)] at e2; exact e2
 have hd := d_same (D := d) (by omega) ep e8 (by omega)
 have hc5 := powInt hm d p ((p.toNat - 1) / 2) (by omega) (by omega) (by omega) (by omega)
 have hB := baseE hm ⟨p, d, l, bx, by'⟩
 have hP := isPair hm ⟨p, d, l, bx, by'⟩ (bx, by') kin
 simp only at hB hP
 by_cases e5 : powZ d ((p.toNat - 1) / 2) p = 1
 ·have e : edB ⟨p, d, l, bx, by'⟩ = false := by
   have : ¬ powZ d ((p.toNat - 1) / 2) p = p - 1 := fun h => hd.mp h e5
   simp [edB, this]
  rw [e5] at hc5
  refine Runs.draw (st1 := ?s1) (draws_ref (ann := []) tabOk (byL [] [1000001]) ieS (by kernel_rfl) ?p1) ?q1
  case p1 =>
   intro K r X hK
   simp +decide (maxSteps := 9^7) (disch := first | omega | (simp only [ll]; omega)) only [hh, if_pos, go_sem]
   refine Runs.call hc5 ?_
   simp +decide (maxSteps := 9^7) (disch := first | omega | (simp only [ll]; omega)) only [if_pos, go_sem]
   exact hK
  case q1 =>
   simp +decide (maxSteps := 9^7) only [e, go_sem]
   exact Runs.ret_v
 ·have e5' := hd.mpr e5
  cases e9 : eonZ p d (bx, by') with
  | false =>
   have e : edB ⟨p, d, l, bx, by'⟩ = false := by simp [edB, e9]
   rw [e9] at hP
   refine Runs.draw (st1 := ?s2) (draws_ref (ann := []) tabOk (byL [] [1000001]) ieS (by kernel_rfl) ?p2) ?q2
   case p2 =>
    intro K r X hK
    simp +decide (maxSteps := 9^7) (disch := first | omega | (simp only [ll]; omega)) only [hh, if_pos, go_sem]
    refine Runs.call hc5 ?_
    simp +decide (maxSteps := 9^7) (disch := first | omega | (simp only [ll]; omega)) only [e5, if_pos, go_sem]
    refine Runs.call hB ?_
    simp +decide (maxSteps := 9^7) (disch := first | omega | (simp only [ll]; omega)) only [if_pos, go_sem]
    refine Runs.call hP ?_
    simp +decide (maxSteps := 9^7) (disch := first | omega | (simp only [ll]; omega)) only [if_pos, go_sem]
    exact hK
   case q2 =>
    simp +decide (maxSteps := 9^7) only [e, go_sem]
    exact Runs.ret_v
  | true =>
   rw [e9] at hP
   by_cases e10 : bx = 0 ∧ by' = 1
   ·obtain ⟨rfl, rfl⟩ := e10
    have e : edB ⟨p, d, l, 0, 1⟩ = false := by simp [edB]
    refine Runs.draw (st1 := ?s3) (draws_ref (ann := []) tabOk (byL [] [1000001]) ieS (by kernel_rfl) ?p3) ?q3
    case p3 =>
     intro K r X hK
     simp +decide (maxSteps := 9^7) (disch := first | omega | (simp only [ll]; omega)) only [hh, if_pos, go_sem]
     refine Runs.call hc5 ?_
     simp +decide (maxSteps := 9^7) (disch := first | omega | (simp only [ll]; omega)) only [e5, if_pos, go_sem]
     refine Runs.call hB ?_
     simp +decide (maxSteps := 9^7) (disch := first | omega | (simp only [ll]; omega)) only [if_pos, go_sem]
     refine Runs.call hP ?_
     simp +decide (maxSteps := 9^7) (disch := first | omega | (simp only [ll]; omega)) only [if_pos, go_sem]
     repeat' apply And.intro
     all_goals
      refine Runs.call hB ?_
      simp +decide (maxSteps := 9^7) (disch := first | omega | (simp only [ll]; omega)) only [if_pos, go_sem]
      exact hK
    case q3 =>
     simp +decide (maxSteps := 9^7) only [e, go_sem]
     exact Runs.ret_v
   ·have e10' : (decide (bx = 0) && decide (by' = 1)) = false := by simp; omega
    have gin := eonZ_in e9
    have hM := timesE hm ⟨p, d, l, bx, by'⟩ l.toNat (bx, by') kin gin (by omega)
    simp only at hM
    rw [hl, etimes_same (by omega) ep e8 (by omega) e5' e9 l.toNat] at hM
    refine Runs.draw (st1 := ?s4) (draws_ref (ann := []) tabOk (byL [] [1000001]) ieS (by kernel_rfl) ?p4) ?q4
    case p4 =>
     intro K r X hK
     simp +decide (maxSteps := 9^7) (disch := first | omega | (simp only [ll]; omega)) only [hh, if_pos, go_sem]
     refine Runs.call hc5 ?_
     simp +decide (maxSteps := 9^7) (disch := first | omega | (simp only [ll]; omega)) only [e5, if_pos, go_sem]
     refine Runs.call hB ?_
     simp +decide (maxSteps := 9^7) (disch := first | omega | (simp only [ll]; omega)) only [if_pos, go_sem]
     refine Runs.call hP ?_
     simp +decide (maxSteps := 9^7) (disch := first | omega | (simp only [ll]; omega)) only [if_pos, go_sem]
     repeat' apply And.intro
     all_goals
      refine Runs.call hB ?_
      simp +decide (maxSteps := 9^7) (disch := first | omega | (simp only [ll]; omega)) only [e10', if_pos, go_sem]
      exact hK
    case q4 =>
     simp +decide (maxSteps := 9^7) only [e10', go_sem]
     refine Runs.draw (st1 := ?s5) (draws_ref (ann := []) tabOk (byL [] [1000001]) ieT (by kernel_rfl) ?p5) ?q5
     case p5 =>
      intro K r X hK
      simp +decide (maxSteps := 9^7) (disch := first | omega | (simp only [ll]; omega)) only [if_pos, go_sem]
      repeat' apply And.intro
      all_goals
       refine Runs.call hB ?_
       simp +decide (maxSteps := 9^7) (disch := first | omega | (simp only [ll]; omega)) only [if_pos, go_sem]
       repeat' apply And.intro
       all_goals
        refine Runs.call hM ?_
        simp +decide (maxSteps := 9^7) (disch := first | omega | (simp only [ll]; omega)) only [if_pos, go_sem]
        exact hK
     case q5 =>
      simp +decide (maxSteps := 9^7) only [go_sem]
      exact Runs.ret_eq (by simp [edB, e1, e2, e3, e4, e5', e6, e7, e9, e10'])
include hm in
theorem sPairOk (k : GEd) (P : GPr) : Holds Tryz.prog 90 [edA k, prA P] [] (.v (.bool (edB k && eonZ k.p k.d P))) [] := by
 refine holds_ref (ann := []) tabOk hm (byL [] [1000002, 1000003]) Tryz.func90 (by kernel_rfl) rfl ?_
 simp +decide only [Tryz.f90, go_sem]
 refine Runs.call (sEdOk hm k) ?_
 simp +decide only [go_sem]
 refine Runs.split (fun c => ?_) (fun c => ?_)
 ·simp +decide only [go_sem]
  refine Runs.call (l4On hm k P (ed_in c)) ?_
  simp +decide only [c, go_sem]
  exact Runs.ret_eq (by simp)
 ·simp +decide only [c, go_sem]
  exact Runs.ret_eq (by simp)
include hm in
theorem iPairOk (k : GEd) (P : GPr) : Holds Tryz.prog 106 [edA k, prA P] [] (.v (.bool (edB k && eonZ k.p k.d P))) [] := by
 refine holds_ref (ann := []) tabOk hm (byL [] [1000002, 1000003]) Tryz.func106 (by kernel_rfl) rfl ?_
 simp +decide only [Tryz.f106, go_sem]
 refine Runs.call (iEdOk hm k) ?_
 simp +decide only [go_sem]
 refine Runs.split (fun c => ?_) (fun c => ?_)
 ·simp +decide only [go_sem]
  refine Runs.call (isPair hm k P (ed_in c)) ?_
  simp +decide only [c, go_sem]
  exact Runs.ret_eq (by simp)
 ·simp +decide only [c, go_sem]
  exact Runs.ret_eq (by simp)
end Go.Proofs.W

namespace Go.Proofs.W
open Go Go.AM Go.Proofs.G
set_option maxRecDepth 10000
variable (hm : Tryz.prog.follows .mixedOrders = true)
attribute [local go_sem] edA prA cvA ptA
structure GKey where
 kind : Int
 N : List Int
 e : Int
 cv : GCv
 q : GPt
 ed : GEd
 a : GPr
def keyA (k : GKey) : A := .agg [.v (.int .i64 k.kind), .sl .sh (k.N.map intA), .v (.int .i64 k.e), .v (.int .i64 k.cv.p), .v (.int .i64 k.cv.a), .v (.int .i64 k.cv.b), .v (.int .i64 k.cv.n), .v (.int .i64 k.cv.gx), .v (.int .i64 k.cv.gy),
 .v (.int .i64 k.q.x), .v (.int .i64 k.q.y), .v (.bool k.q.far), .v (.int .i64 k.ed.p), .v (.int .i64 k.ed.d), .v (.int .i64 k.ed.l), .v (.int .i64 k.ed.bx), .v (.int .i64 k.ed.by'), .v (.int .i64 k.a.1), .v (.int .i64 k.a.2)]
attribute [local go_sem] keyA
def eqCv (k k' : GCv) : Bool := decide (k.p = k'.p) && (decide (k.a = k'.a) && (decide (k.b = k'.b) && (decide (k.n = k'.n) && (decide (k.gx = k'.gx) && decide (k.gy = k'.gy)))))
def eqPt (k k' : GPt) : Bool := decide (k.x = k'.x) && (decide (k.y = k'.y) && (k.far == k'.far))
def eqEd (k k' : GEd) : Bool := decide (k.p = k'.p) && (decide (k.d = k'.d) && (decide (k.l = k'.l) && (decide (k.bx = k'.bx) && decide (k.by' = k'.by'))))
def eqPr (k k' : GPr) : Bool := decide (k.1 = k'.1) && decide (k.2 = k'.2)
def cv0 : GCv := ⟨0, 0, 0, 0, 0, 0⟩
def pt0 : GPt := ⟨0, 0, false⟩
def ed0 : GEd := ⟨0, 0, 0, 0, 0⟩
def pr0 : GPr := (0, 0)
def noCurve (k : GKey) : Bool := eqCv k.cv cv0 && eqPt k.q pt0
def noEd (k : GKey) : Bool := eqEd k.ed ed0 && eqPr k.a pr0
def noRsa (k : GKey) : Bool := decide (k.N.length = 0) && decide (k.e = 0)
def lowD (N : List Int) : Int := N.getD 0 0
def topD (N : List Int) : Int := N.getD (N.length - 1) 0
def natB (N : List Int) : Bool := (N.all fun n => inB n 0 65535) && (decide (N.length ≤ 64) && (decide (N.length = 0) || !decide (topD N = 0)))
def bitsZ (N : List Int) : Int := if N.length = 0 then 0 else 16 * ((N.length : Int) - 1) + blen (topD N).toNat
noncomputable def keyB (k : GKey) : Bool :=
 if k.kind = 1 then noCurve k && (noEd k && (natB k.N && (inB (bitsZ k.N) 128 512 && (decide ((lowD k.N).tmod 2 = 1) && (inB k.e 3 65537 && decide (k.e.tmod 2 = 1))))))
 else if k.kind = 2 then noRsa k && (noEd k && ((curveB k.cv && onZ k.cv.p k.cv.a k.cv.b k.q) && (!k.q.far && (mulL (addZ k.cv.p k.cv.a) k.cv.n.toNat farP k.q).far)))
 else if k.kind = 3 then noRsa k && (noCurve k && (edB k.ed && eonZ k.ed.p k.ed.d k.a))
 else false
theorem getIntA {N : List Int} {i : Nat} (h : i < N.length) : (N.map intA).getD i .any = .v (.int .i64 (N.getD i 0)) := by simp [List.getD, h, intA]
theorem nat_top {N : List Int} (h : natB N = true) (h0 : N.length ≠ 0) : N.length ≤ 64 ∧ 0 < topD N ∧ topD N ≤ 65535 := by
 simp only [natB, Bool.and_eq_true, decide_eq_true_eq, Bool.or_eq_true, List.all_eq_true, Bool.not_eq_true', decide_eq_false_iff_not] at h
 obtain ⟨h1, h2, h3⟩ := h
 have hm := h1 (topD N) (by
  have : topD N = N[N.length - 1] := by simp [topD, List.getD, show N.length - 1 < N.length by omega]
  rw [this]
  exact List.getElem_mem _)
 have := inB_t hm
 omega
def snAnn : Ann := [(0, [0, 3])]
def snSt (L : List Int) (i : Nat) : St := ⟨[.sl .sh (L.map intA), .any, .any, .v (.int .i64 i), .any, .any, .any, .any, .any, .any, .any, .any, .any, .any, .any, .any, .any, .any, .any, .any, .any, .any, .any, .any, .any, .any, .any, .any, .any, .any, .any, .any, .any], [], []⟩
include hm in
theorem sNatOk (L : List Int) (h3 : L.length ≤ 9223372036854775807) : Holds Tryz.prog 86 [.sl .sh (L.map intA)] [] (.v (.bool (natB L))) [] := by
 refine holds_of (ann := snAnn) tabOk hm Tryz.func86 (by kernel_rfl) rfl ?_
 simp +decide only [Tryz.f86, go_sem]
 refine Runs.while (α := Nat) (snSt L) (fun i => L.length - i) (fun i => i ≤ L.length ∧ ((L.drop i).all fun n => inB n 0 65535) = L.all fun n => inB n 0 65535) 0 ⟨by omega, by simp⟩ ?_ ?_
 ·simp [go_sem, snAnn, snSt]
 ·rintro i ⟨hi1, hr⟩ ih
  simp +decide only [snSt, go_sem]
  refine Runs.split (fun h => ?_) (fun h => ?_)
  ·have hlt : i < L.length := by simpa using h
   rw [List.drop_eq_getElem_cons hlt, List.all_cons] at hr
   simp +decide (disch := first | omega | (simp only [ll]; omega)) only [if_pos, go_sem]
   refine Runs.call (l1In hm L[i] 0 65535) ?_
   simp +decide only [go_sem]
   refine Runs.split (fun h => ?_) (fun h => ?_)
   ·simp only [Bool.not_eq_true'] at h
    have e : natB L = false := by rw [natB, ← hr, h]; rfl
    simp +decide only [e, go_sem]
    exact Runs.ret_v
   ·simp only [Bool.not_eq_false'] at h
    rw [h, Bool.true_and] at hr
    simp +decide (disch := first | omega | (simp only [ll]; omega)) only [if_pos, go_sem]
    refine ih (i + 1) _ (by omega) ⟨by omega, hr⟩ ?_
    simp [go_sem, snAnn, snSt]
  ·have hge : i = L.length := by simp at h; omega
   subst hge
   rw [List.drop_length, List.all_nil] at hr
   simp +decide only [go_sem]
   refine Runs.split (fun h => ?_) (fun h => ?_)
   ·have hle : L.length ≤ 64 := by simp at h; omega
    simp +decide only [go_sem]
    refine Runs.split (fun h => ?_) (fun h => ?_)
    ·have h0 : L.length = 0 := by simp at h; exact List.length_eq_zero_iff.mpr h
     simp +decide only [go_sem]
     exact Runs.ret_eq (by simp [natB, ← hr, hle, h0])
    ·have h0 : L.length ≠ 0 := by simp at h; intro e; exact h (List.length_eq_zero_iff.mp e)
     have ht : ((L.length : Int) - 1).toNat = L.length - 1 := by omega
     have hg := getIntA (N := L) (i := L.length - 1) (by omega)
     have hb : decide (0 ≤ (L.length : Int) - 1 ∧ (L.length : Int) - 1 < L.length) = true := by simp; omega
     simp +decide (disch := first | omega | (simp only [ll]; omega)) only [ht, hg, hb, if_pos, go_sem]
     exact Runs.ret_eq (by simp [natB, ← hr, hle, h0, topD])
   ·have hle : ¬ L.length ≤ 64 := by simp at h; omega
    simp +decide only [go_sem]
    exact Runs.ret_eq (by simp [natB, hle])
include hm in
theorem iNatOk (L : List Int) (h3 : L.length ≤ 9223372036854775807) : Holds Tryz.prog 103 [.sl .sh (L.map intA)] [] (.v (.bool (natB L))) [] := by
 refine holds_of (ann := []) tabOk hm Tryz.func103 (by kernel_rfl) rfl ?_
 simp +decide only [Tryz.f103, go_sem]
 refine Runs.split (fun h => ?_) (fun h => ?_)
 ·have hle : L.length ≤ 64 := by simp at h; omega
  simp +decide only [go_sem]
  refine Runs.call (allWithin hm L 0 65535 h3) ?_
  simp +decide only [go_sem]
  refine Runs.split (fun ha => ?_) (fun ha => ?_)
  ·simp +decide only [go_sem]
   refine Runs.split (fun h => ?_) (fun h => ?_)
   ·have h0 : L.length = 0 := by simp at h; exact List.length_eq_zero_iff.mpr h
    simp +decide only [go_sem]
    exact Runs.ret_eq (by simp only [natB, ha, hle, h0]; simp)
   ·have h0 : L.length ≠ 0 := by simp at h; intro e; exact h (List.length_eq_zero_iff.mp e)
    have ht : ((L.length : Int) - 1).toNat = L.length - 1 := by omega
    have hg := getIntA (N := L) (i := L.length - 1) (by omega)
    have hb : decide (0 ≤ (L.length : Int) - 1 ∧ (L.length : Int) - 1 < L.length) = true := by simp; omega
    simp +decide (disch := first | omega | (simp only [ll]; omega)) only [ht, hg, hb, if_pos, go_sem]
    exact Runs.ret_eq (by simp only [natB, ha, hle, h0, topD]; simp)
  ·simp +decide only [go_sem]
   exact Runs.ret_eq (by simp only [natB, ha]; rfl)
 ·have hle : ¬ L.length ≤ 64 := by simp at h; omega
  simp +decide only [go_sem]
  exact Runs.ret_eq (by simp [natB, hle])
def lbAnn : Ann := [(0, [3, 4])]
def lbSt (p : Nat × Int) : St := ⟨[.any, .any, .any, .v (.int .i64 p.2), .v (.int .i64 p.1), .any, .any, .any, .any, .any, .any, .any, .any, .any, .any, .any, .any, .any, .any, .any, .any, .any, .any, .any, .any], [], []⟩
include hm in
theorem l1Bits (L : List Int) (h : natB L = true) : Holds Tryz.prog 46 [.sl .sh (L.map intA)] [] (.v (.int .i64 (bitsZ L))) [] := by
 refine holds_of (ann := lbAnn) tabOk hm Tryz.func46 (by kernel_rfl) rfl ?_
 by_cases h0 : L.length = 0
 ·simp +decide only [Tryz.f46, h0, go_sem]
  exact Runs.ret_eq (by simp [bitsZ, h0])
 ·obtain ⟨l1, l2, l3⟩ := nat_top h h0
  have ht : ((L.length : Int) - 1).toNat = L.length - 1 := by omega
  have hg := getIntA (N := L) (i := L.length - 1) (by omega)
  have hb : decide (0 ≤ (L.length : Int) - 1 ∧ (L.length : Int) - 1 < L.length) = true := by simp; omega
  have hz : decide ((L.length : Int) = 0) = false := by simp; intro e; exact h0 (by simp [e])
  rw [show L.getD (L.length - 1) 0 = topD L from rfl] at hg
  obtain ⟨x0, hx0⟩ := nat_of (show 0 ≤ topD L by omega)
  have hbits : bitsZ L = 16 * ((L.length : Int) - 1) + blen x0 := by simp [bitsZ, h0, hx0]
  have hl : blen x0 ≤ 16 := blen_le (by omega)
  rw [hbits]
  simp +decide (disch := first | omega | (simp only [ll]; omega)) only [Tryz.f46, ht, hg, hb, hz, hx0, if_pos, go_sem]
  refine Runs.while (α := Nat × Int) lbSt (fun p => p.1) (fun p => p.1 ≤ x0 ∧ 0 ≤ p.2 ∧ p.2 + blen p.1 = 16 * ((L.length : Int) - 1) + blen x0) (x0, 16 * ((L.length : Int) - 1)) ⟨Nat.le_refl _, by simp only; omega, rfl⟩ ?_ ?_
  ·simp [go_sem, lbAnn, lbSt]
  ·rintro ⟨x, r⟩ ⟨hx, hr0, hr⟩ ih
   simp only at hx hr0 hr
   simp +decide only [lbSt, go_sem]
   refine Runs.split (fun h => ?_) (fun h => ?_)
   ·have hs : x ≠ 0 := by simp at h; omega
    rw [blen_pos hs] at hr
    have e4 := tdiv_nat x 2
    have w3 : IntKind.i64.wrap ((x / 2 : Nat) : Int) = ((x / 2 : Nat) : Int) := wrap_i64 (by omega) (by omega)
    simp +decide (disch := first | omega | (simp only [ll]; omega)) only [e4, w3, if_pos, go_sem]
    refine ih (x / 2, r + 1) _ (by simp only; omega) ⟨by simp only; omega, by simp only; omega, by simp only; omega⟩ ?_
    have w4 : IntKind.i64.wrap ((x : Int) / 2) = (x : Int) / 2 := w3
    simp [go_sem, lbAnn, lbSt, w4]
   ·have hs : x = 0 := by simp at h; omega
    subst hs
    rw [blen_zero] at hr
    simp +decide only [go_sem]
    exact Runs.ret_eq (by rw [← hr]; simp)
include hm in
theorem natBits (L : List Int) (h : natB L = true) : Holds Tryz.prog 67 [.sl .sh (L.map intA)] [] (.v (.int .i64 (bitsZ L))) [] := by
 refine holds_of (ann := []) tabOk hm Tryz.func67 (by kernel_rfl) rfl ?_
 by_cases h0 : L.length = 0
 ·simp +decide only [Tryz.f67, h0, go_sem]
  exact Runs.ret_eq (by simp [bitsZ, h0])
 ·obtain ⟨l1, l2, l3⟩ := nat_top h h0
  have ht : ((L.length : Int) - 1).toNat = L.length - 1 := by omega
  have hg := getIntA (N := L) (i := L.length - 1) (by omega)
  have hb : decide (0 ≤ (L.length : Int) - 1 ∧ (L.length : Int) - 1 < L.length) = true := by simp; omega
  have hz : decide ((L.length : Int) = 0) = false := by simp; intro e; exact h0 (by simp [e])
  rw [show L.getD (L.length - 1) 0 = topD L from rfl] at hg
  obtain ⟨x0, hx0⟩ := nat_of (show 0 ≤ topD L by omega)
  have hbits : bitsZ L = 16 * ((L.length : Int) - 1) + blen x0 := by simp [bitsZ, h0, hx0]
  have hl : blen x0 ≤ 16 := blen_le (by omega)
  rw [hbits]
  simp +decide (disch := first | omega | (simp only [ll]; omega)) only [Tryz.f67, ht, hg, hb, hz, hx0, if_pos, go_sem]
  refine Runs.call (bitsLen hm x0 (by omega)) ?_
  simp +decide (disch := first | omega | (simp only [ll]; omega)) only [if_pos, go_sem]
  exact Runs.ret_v
def seqAnn : Ann := [(0, [0, 1, 11, 12, 13])]
def seqSt (L M : List Int) (n i : Nat) : St := ⟨[.sl .sh (L.map intA), .sl .sh (M.map intA), .any, .any, .any, .any, .any, .any, .any, .any, .any, .sl .sh (L.map intA), .v (.int .i64 n), .v (.int .i64 i), .any, .any, .any, .any, .any, .any, .any, .any, .any, .any, .any, .any], [], []⟩
def seqS : Sched := .take 0 (.take 1 (.take 2 (.take 4 (.take 5 (.take 6 (.ld 3 (.ld 7 (.take 8 .fin))))))))
attribute [local go_sem] seqS
include hm in
theorem equalInt (L M : List Int) (h3 : L.length ≤ 9223372036854775807) (h4 : M.length ≤ 9223372036854775807) : Holds Tryz.prog 73 [.sl .sh (L.map intA), .sl .sh (M.map intA)] [] (.v (.bool (decide (L = M)))) [] := by
 refine holds_of (ann := seqAnn) tabOk hm Tryz.func73 (by kernel_rfl) rfl ?_
 simp +decide only [Tryz.f73, go_sem]
 refine Runs.split (fun h => ?_) (fun h => ?_)
 ·have hne : L ≠ M := by intro e; subst e; simp at h
  simp +decide only [go_sem]
  exact Runs.ret_eq (by simp [hne])
 ·have hlen : L.length = M.length := by simp at h; omega
  simp +decide only [go_sem]
  refine Runs.while (α := Nat) (seqSt L M L.length) (fun i => L.length - i) (fun i => i ≤ L.length ∧ L.take i = M.take i) 0 ⟨by omega, by simp⟩ ?_ ?_
  ·simp [go_sem, seqAnn, seqSt]
  ·rintro i ⟨hi, he⟩ ih
   simp +decide only [seqSt, go_sem]
   refine Runs.split (fun h => ?_) (fun h => ?_)
   ·have hlt : i < L.length := by simpa using h
    have hlt' : i < M.length := by omega
    simp +decide only [go_sem]
    refine Runs.draw (st1 := ?s1) (draws_by (ann := []) tabOk seqS (by kernel_rfl) ?p1) ?q1
    case p1 =>
     intro K r X hK
     simp +decide (disch := first | omega | (simp only [ll]; omega)) only [if_pos, go_sem]
     exact hK
    case q1 =>
     simp +decide only [go_sem]
     refine Runs.split (fun h => ?_) (fun h => ?_)
     ·have hne : L ≠ M := by
       intro e
       subst e
       simp at h
      simp +decide only [go_sem]
      exact Runs.ret_eq (by simp [hne])
     ·have hx : L[i] = M[i] := by simpa using h
      simp +decide (disch := first | omega | (simp only [ll]; omega)) only [if_pos, go_sem]
      refine ih (i + 1) _ (by omega) ⟨by omega, by rw [List.take_succ_eq_append_getElem hlt, List.take_succ_eq_append_getElem hlt', he, hx]⟩ ?_
      simp [go_sem, seqAnn, seqSt]
   ·have hge : i = L.length := by simp at h; omega
    subst hge
    rw [List.take_length, List.take_of_length_le (by omega)] at he
    simp +decide only [go_sem]
    exact Runs.ret_eq (by simp [he])
theorem bv {a b : Bool} (h : a = true ↔ b = true) : A.v (.bool a) = A.v (.bool b) := by
 have : a = b := by cases a <;> cases b <;> simp_all
 rw [this]
include hm in
theorem noCurveS (k : GKey) : Holds Tryz.prog 84 [keyA k] [] (.v (.bool (noCurve k))) [] := by
 refine holds_ref (ann := []) tabOk hm (byL [] [1000001]) Tryz.func84 (by kernel_rfl) rfl ?_
 simp +decide (maxSteps := 9^7) only [Tryz.f84, go_sem]
 refine Runs.split (fun h => ?_) (fun h => ?_)
 ·simp +decide (maxSteps := 9^7) only [go_sem]
  exact Runs.ret_eq (bv (by simp [noCurve, eqCv, eqPt, cv0, pt0] at h ⊢; grind))
 ·simp +decide (maxSteps := 9^7) only [go_sem]
  exact Runs.ret_eq (bv (by simp [noCurve, eqCv, eqPt, cv0, pt0] at h ⊢; grind))
include hm in
theorem noEdS (k : GKey) : Holds Tryz.prog 85 [keyA k] [] (.v (.bool (noEd k))) [] := by
 refine holds_ref (ann := []) tabOk hm (byL [] [1000001]) Tryz.func85 (by kernel_rfl) rfl ?_
 simp +decide (maxSteps := 9^7) only [Tryz.f85, go_sem]
 refine Runs.split (fun h => ?_) (fun h => ?_)
 ·simp +decide (maxSteps := 9^7) only [go_sem]
  exact Runs.ret_eq (bv (by simp [noEd, eqEd, eqPr, ed0, pr0] at h ⊢; grind))
 ·simp +decide (maxSteps := 9^7) only [go_sem]
  exact Runs.ret_eq (bv (by simp [noEd, eqEd, eqPr, ed0, pr0] at h ⊢; grind))
include hm in
theorem noRsaS (k : GKey) : Holds Tryz.prog 87 [keyA k] [] (.v (.bool (noRsa k))) [] := by
 refine holds_ref (ann := []) tabOk hm (byL [] [1000001]) Tryz.func87 (by kernel_rfl) rfl ?_
 simp +decide (maxSteps := 9^7) only [Tryz.f87, go_sem]
 refine Runs.split (fun h => ?_) (fun h => ?_)
 ·simp +decide (maxSteps := 9^7) only [go_sem]
  exact Runs.ret_eq (bv (by simp [noRsa] at h ⊢; simp [h]))
 ·simp +decide (maxSteps := 9^7) only [go_sem]
  exact Runs.ret_eq (bv (by simp [noRsa] at h ⊢; grind))
def keySame (k k' : GKey) : Bool := decide (k.kind = k'.kind) && (decide (k.N = k'.N) && (decide (k.e = k'.e) && (eqCv k.cv k'.cv && (eqPt k.q k'.q && (eqEd k.ed k'.ed && eqPr k.a k'.a)))))
set_option maxHeartbeats 4000000 in
include hm in
theorem sameK (k k' : GKey) (h3 : k.N.length ≤ 9223372036854775807) (h4 : k'.N.length ≤ 9223372036854775807) : Holds Tryz.prog 102 [keyA k, keyA k'] [] (.v (.bool (keySame k k'))) [] := by
 refine holds_ref (ann := []) tabOk hm (byL [] [1000002, 1000003]) Tryz.func102 (by kernel_rfl) rfl ?_
 have hE := equalInt hm k.N k'.N h3 h4
 simp +decide (maxSteps := 9^7) only [Tryz.f102, go_sem]
 refine Runs.split (fun c1 => ?_) (fun c1 => ?_)
 case _ =>
  simp +decide (maxSteps := 9^7) only [go_sem]
  refine Runs.call hE ?_
  simp +decide (maxSteps := 9^7) only [go_sem]
  refine Runs.split (fun c2 => ?_) (fun c2 => ?_)
  case _ =>
   simp +decide (maxSteps := 9^7) only [go_sem]
   refine Runs.split (fun c3 => ?_) (fun c3 => ?_)
   case _ =>
    simp +decide (maxSteps := 9^7) only [go_sem]
    refine Runs.split (fun c4 => ?_) (fun c4 => ?_)
    case _ =>
     simp +decide (maxSteps := 9^7) only [go_sem]
     refine Runs.split (fun c5 => ?_) (fun c5 => ?_)
     case _ =>
      simp +decide (maxSteps := 9^7) only [go_sem]
      refine Runs.split (fun c6 => ?_) (fun c6 => ?_)
      case _ =>
       simp +decide (maxSteps := 9^7) only [go_sem]
       exact Runs.ret_eq (bv (by simp [keySame, eqCv, eqPt, eqEd, eqPr] at c1 c2 c3 c4 c5 c6 ⊢; simp [c1, c2, c3, c4, c5, c6]))
      simp +decide (maxSteps := 9^7) only [go_sem]
      exact Runs.ret_eq (bv (by simp [keySame, eqCv, eqPt, eqEd, eqPr] at c6 ⊢; grind))
     simp +decide (maxSteps := 9^7) only [go_sem]
     exact Runs.ret_eq (bv (by simp [keySame, eqCv, eqPt, eqEd, eqPr] at c5 ⊢; grind))
    simp +decide (maxSteps := 9^7) only [go_sem]
    exact Runs.ret_eq (bv (by simp [keySame, eqCv, eqPt, eqEd, eqPr] at c4 ⊢; grind))
   simp +decide (maxSteps := 9^7) only [go_sem]
   exact Runs.ret_eq (bv (by simp [keySame, eqCv, eqPt, eqEd, eqPr] at c3 ⊢; grind))
  simp +decide (maxSteps := 9^7) only [go_sem]
  exact Runs.ret_eq (bv (by simp [keySame, eqCv, eqPt, eqEd, eqPr] at c2 ⊢; grind))
 simp +decide (maxSteps := 9^7) only [go_sem]
 exact Runs.ret_eq (bv (by simp [keySame] at c1 ⊢; grind))
end Go.Proofs.W

namespace Go.Proofs.W
open Go Go.AM
set_option maxRecDepth 10000
variable (hm : Tryz.prog.follows .mixedOrders = true)
def timB (n : Int) : Bool := inB n (-631152000) 4102444799
def spanV (f t : Int) : Int := if timB f = true ∧ timB t = true ∧ f ≤ t then (t - f + 86399).tdiv 86400 else -1
theorem timB_in {n : Int} (h : timB n = true) : -631152000 ≤ n ∧ n ≤ 4102444799 := inB_t h
include hm in
theorem specSpan (f t : Int) : Holds Tryz.prog 45 [.v (.int .i64 f), .v (.int .i64 t)] [] (.v (.int .i64 (spanV f t))) [] := by
 refine holds_of (ann := []) tabOk hm Tryz.func45 (by kernel_rfl) rfl ?_
 have c1 := l9Ok hm f
 have c2 := l9Ok hm t
 rw [← timB] at c1 c2
 simp +decide only [Tryz.f45, go_sem]
 refine Runs.call c1 ?_
 cases h1 : timB f
 ·simp +decide only [go_sem]
  exact Runs.ret_eq (by simp [spanV, h1])
 ·simp +decide only [go_sem]
  refine Runs.call c2 ?_
  cases h2 : timB t
  ·simp +decide only [go_sem]
   exact Runs.ret_eq (by simp [spanV, h2])
  ·have i1 := timB_in h1
   have i2 := timB_in h2
   by_cases h3 : t < f
   ·simp +decide only [h3, go_sem]
    exact Runs.ret_eq (by rw [spanV, if_neg (by omega)])
   ·have w1 : IntKind.i64.wrap (t - f) = t - f := wrap_i64 (by omega) (by omega)
    have w2 : IntKind.i64.wrap (t - f + 86399) = t - f + 86399 := wrap_i64 (by omega) (by omega)
    have e : (t - f + 86399).tdiv 86400 = (t - f + 86399) / 86400 := Int.tdiv_eq_ediv_of_nonneg (by omega)
    have w3 : IntKind.i64.wrap ((t - f + 86399).tdiv 86400) = (t - f + 86399).tdiv 86400 := wrap_i64 (by omega) (by omega)
    simp +decide only [h3, w1, w2, w3, go_sem]
    exact Runs.ret_eq (by rw [spanV, if_pos ⟨h1, h2, by omega⟩])
include hm in
theorem implSpan (f t : Int) : Holds Tryz.prog 66 [.v (.int .i64 f), .v (.int .i64 t)] [] (.v (.int .i64 (spanV f t))) [] := by
 refine holds_of (ann := []) tabOk hm Tryz.func66 (by kernel_rfl) rfl ?_
 have c1 := isTime hm f
 have c2 := isTime hm t
 rw [← timB] at c1 c2
 simp +decide only [Tryz.f66, go_sem]
 refine Runs.call c1 ?_
 cases h1 : timB f
 ·simp +decide only [go_sem]
  exact Runs.ret_eq (by simp [spanV, h1])
 ·simp +decide only [go_sem]
  refine Runs.call c2 ?_
  cases h2 : timB t
  ·simp +decide only [go_sem]
   exact Runs.ret_eq (by simp [spanV, h2])
  ·have i1 := timB_in h1
   have i2 := timB_in h2
   by_cases h3 : t < f
   ·simp +decide only [h3, go_sem]
    exact Runs.ret_eq (by rw [spanV, if_neg (by omega)])
   ·have w1 : IntKind.i64.wrap (t - f) = t - f := wrap_i64 (by omega) (by omega)
    have w2 : IntKind.i64.wrap (t - f + 86400) = t - f + 86400 := wrap_i64 (by omega) (by omega)
    have w4 : IntKind.i64.wrap (t - f + 86400 - 1) = t - f + 86399 := by rw [wrap_i64 (by omega) (by omega)]; omega
    have e : (t - f + 86399).tdiv 86400 = (t - f + 86399) / 86400 := Int.tdiv_eq_ediv_of_nonneg (by omega)
    have w3 : IntKind.i64.wrap ((t - f + 86399).tdiv 86400) = (t - f + 86399).tdiv 86400 := wrap_i64 (by omega) (by omega)
    simp +decide only [h3, w1, w2, w4, w3, go_sem]
    exact Runs.ret_eq (by rw [spanV, if_pos ⟨h1, h2, by omega⟩])
theorem mem_drop_step {L : List Int} {i : Nat} {x : Int} (h : i < L.length) (hx : ¬ L[i] = x) : (x ∈ L.drop (i + 1)) ↔ x ∈ L.drop i := by
 rw [List.drop_eq_getElem_cons h, List.mem_cons]
 exact ⟨fun h => .inr h, fun hh => hh.elim (fun e => absurd e.symm hx) id⟩
def haAnn : Ann := [(0, [0, 1, 5])]
def haSt (L : List Int) (x : Int) (i : Nat) : St := ⟨[.sl .sh (L.map intA), .v (.int .i64 x), .any, .any, .any, .v (.int .i64 i), .any, .any, .any, .any, .any, .any, .any, .any, .any, .any, .any, .any], [], []⟩
include hm in
theorem l11Has (L : List Int) (x : Int) (h : L.length ≤ 1073741824) : Holds Tryz.prog 52 [.sl .sh (L.map intA), .v (.int .i64 x)] [] (.v (.bool (decide (x ∈ L)))) [] := by
 refine holds_of (ann := haAnn) tabOk hm Tryz.func52 (by kernel_rfl) rfl ?_
 simp +decide only [Tryz.f52, go_sem]
 refine Runs.while (α := Nat) (haSt L x) (fun i => L.length - i) (fun i => i ≤ L.length ∧ (x ∈ L.drop i ↔ x ∈ L)) 0 ⟨by omega, by simp⟩ ?_ ?_
 ·simp [go_sem, haAnn, haSt]
 ·rintro i ⟨hi, hx⟩ ih
  simp +decide only [haSt, go_sem]
  refine Runs.split (fun h => ?_) (fun h => ?_)
  ·have hlt : i < L.length := by simpa using h
   have hg : (L.map intA).getD i .any = .v (.int .i64 L[i]) := by simp [List.getD, hlt, intA]
   simp +decide (disch := first | omega | (simp only [ll]; omega)) only [hg, if_pos, go_sem]
   by_cases e : L[i] = x
   ·have : x ∈ L := e ▸ List.getElem_mem hlt
    simp +decide (disch := first | omega | (simp only [ll]; omega)) only [e, if_pos, go_sem]
    exact Runs.ret_eq (by simp [this])
   ·simp +decide (disch := first | omega | (simp only [ll]; omega)) only [e, if_pos, go_sem]
    refine ih (i + 1) _ (by omega) ⟨by omega, (mem_drop_step hlt e).trans hx⟩ ?_
    simp [go_sem, haAnn, haSt]
  ·have hge : i = L.length := by simp at h; omega
   subst hge
   have : ¬ x ∈ L := by rw [← hx]; simp
   simp +decide only [go_sem]
   exact Runs.ret_eq (by simp [this])
def idxF (x : Int) : List Int → Int → Int
 | [], _ => -1
 | c :: r, i => if x = c then i else idxF x r (i + 1)
theorem idxF_mem {x : Int} : ∀ {L : List Int} {i : Int}, 0 ≤ i → (0 ≤ idxF x L i ↔ x ∈ L)
 | [], i, h => by simp [idxF]
 | c :: r, i, h => by
  rw [idxF, List.mem_cons]
  split
  ·rename_i e; simp [e, h]
  ·rename_i e; rw [idxF_mem (by omega)]; simp [e]
def idxAnn : Ann := [(0, [0, 1, 7, 8])]
def idxSt (L : List Int) (x : Int) (i : Nat) : St := ⟨[.sl .sh (L.map intA), .v (.int .i64 x), .any, .any, .any, .any, .any, .v (.int .i64 L.length), .v (.int .i64 i), .any, .any, .any, .any, .any, .any, .any, .any, .any, .any], [], []⟩
include hm in
theorem indexInt (L : List Int) (x : Int) (h : L.length ≤ 1073741824) : Holds Tryz.prog 115 [.sl .sh (L.map intA), .v (.int .i64 x)] [] (.v (.int .i64 (idxF x L 0))) [] := by
 refine holds_of (ann := idxAnn) tabOk hm Tryz.func115 (by kernel_rfl) rfl ?_
 simp +decide only [Tryz.f115, go_sem]
 refine Runs.while (α := Nat) (idxSt L x) (fun i => L.length - i) (fun i => i ≤ L.length ∧ idxF x (L.drop i) i = idxF x L 0) 0 ⟨by omega, by simp⟩ ?_ ?_
 ·simp [go_sem, idxAnn, idxSt]
 ·rintro i ⟨hi, hx⟩ ih
  simp +decide only [idxSt, go_sem]
  refine Runs.split (fun h => ?_) (fun h => ?_)
  ·have hlt : i < L.length := by simpa using h
   have hg : (L.map intA).getD i .any = .v (.int .i64 L[i]) := by simp [List.getD, hlt, intA]
   rw [List.drop_eq_getElem_cons hlt, idxF] at hx
   simp +decide (disch := first | omega | (simp only [ll]; omega)) only [hg, if_pos, go_sem]
   by_cases e : x = L[i]
   ·rw [if_pos e] at hx
    have e2 : (x == L[i]) = true := by simp [e]
    simp +decide only [← e, go_sem]
    exact Runs.ret_eq (by rw [← hx])
   ·rw [if_neg e] at hx
    simp +decide (disch := first | omega | (simp only [ll]; omega)) only [e, if_pos, go_sem]
    refine ih (i + 1) _ (by omega) ⟨by omega, by simpa using hx⟩ ?_
    simp [go_sem, idxAnn, idxSt]
  ·have hge : i = L.length := by simp at h; omega
   subst hge
   rw [List.drop_length, idxF] at hx
   simp +decide only [go_sem]
   exact Runs.ret_eq (by rw [← hx])
include hm in
theorem containsInt (L : List Int) (x : Int) (h : L.length ≤ 1073741824) : Holds Tryz.prog 76 [.sl .sh (L.map intA), .v (.int .i64 x)] [] (.v (.bool (decide (x ∈ L)))) [] := by
 refine holds_of (ann := []) tabOk hm Tryz.func76 (by kernel_rfl) rfl ?_
 simp +decide only [Tryz.f76, go_sem]
 refine Runs.call (indexInt hm L x h) ?_
 simp +decide only [go_sem]
 refine Runs.ret_eq ?_
 have := idxF_mem (x := x) (L := L) (i := 0) (by omega)
 congr 2
 rw [decide_eq_decide]
 exact this
def numV (a : List Int) : Int := a.getD 0 0 * 16777216 + a.getD 1 0 * 65536 + a.getD 2 0 * 256 + a.getD 3 0
theorem addr_four {a : List Int} (h : addrB a = true) : ∃ a0 a1 a2 a3, a = [a0, a1, a2, a3] ∧ (0 ≤ a0 ∧ a0 ≤ 255) ∧ (0 ≤ a1 ∧ a1 ≤ 255) ∧ (0 ≤ a2 ∧ a2 ≤ 255) ∧ (0 ≤ a3 ∧ a3 ≤ 255) := by
 simp only [addrB, Bool.and_eq_true, decide_eq_true_eq, List.all_eq_true] at h
 obtain ⟨h1, h2⟩ := h
 match a, h1, h2 with
 | [a0, a1, a2, a3], _, h2 => exact ⟨a0, a1, a2, a3, rfl, inB_t (h2 a0 (by simp)), inB_t (h2 a1 (by simp)), inB_t (h2 a2 (by simp)), inB_t (h2 a3 (by simp))⟩
theorem numV_in {a : List Int} (h : addrB a = true) : 0 ≤ numV a ∧ numV a < 4294967296 := by
 obtain ⟨a0, a1, a2, a3, rfl, h0, h1, h2, h3⟩ := addr_four h
 simp [numV]
 omega
theorem numV_inj {a b : List Int} (ha : addrB a = true) (hb : addrB b = true) : numV a = numV b ↔ a = b := by
 obtain ⟨a0, a1, a2, a3, rfl, h0, h1, h2, h3⟩ := addr_four ha
 obtain ⟨b0, b1, b2, b3, rfl, g0, g1, g2, g3⟩ := addr_four hb
 simp [numV]
 omega
theorem or_add {p y : Int} {k : Nat} (h0 : 0 ≤ p) (h1 : 0 ≤ y) (h2 : y < 2 ^ k) (h3 : p * 2 ^ k + y < 9223372036854775808) : orI .i64 (p * 2 ^ k) y = p * 2 ^ k + y := by
 show IntKind.i64.wrap ((BitVec.ofInt 64 (p * 2 ^ k) ||| BitVec.ofInt 64 y).toNat : Int) = p * 2 ^ k + y
 obtain ⟨pn, rfl⟩ := Int.eq_ofNat_of_zero_le h0
 obtain ⟨yn, rfl⟩ := Int.eq_ofNat_of_zero_le h1
 have e1 : ((pn : Int) * 2 ^ k) = ((pn * 2 ^ k : Nat) : Int) := by push_cast; rfl
 rw [e1] at h3 ⊢
 have e2 : yn < 2 ^ k := by exact_mod_cast h2
 have b1 : pn * 2 ^ k < 18446744073709551616 := by omega
 have b2 : yn < 18446744073709551616 := by omega
 rw [BitVec.toNat_or, BitVec.toNat_ofInt, BitVec.toNat_ofInt]
 have m1 : (((pn * 2 ^ k : Nat) : Int) % ((2 ^ 64 : Nat) : Int)).toNat = pn * 2 ^ k := by omega
 have m2 : ((yn : Int) % ((2 ^ 64 : Nat) : Int)).toNat = yn := by omega
 rw [m1, m2, Nat.mul_comm pn, ← Nat.two_pow_add_eq_or_of_lt e2]
 rw [Nat.mul_comm] at h3
 rw [wrap_i64 (by omega) (by omega)]
 push_cast
 rfl
def lwS : Sched := .take 0 (.take 1 (.take 4 (.take 5 (.take 9 (.take 10 (.take 14 (.take 15 (.ld 2 (.take 3 (.ld 6 (.take 7 (.take 8 (.ld 11 (.take 12 (.take 13 (.ld 16 (.take 17 (.take 18 .fin))))))))))))))))))
attribute [local go_sem] lwS
include hm in
theorem l8Whole (a : List Int) (h : addrB a = true) : Holds Tryz.prog 93 [.sl .sh (a.map intA)] [] (.v (.int .i64 (numV a))) [] := by
 obtain ⟨a0, a1, a2, a3, rfl, h0, h1, h2, h3⟩ := addr_four h
 refine holds_of (ann := []) tabOk hm Tryz.func93 (by kernel_rfl) rfl ?_
 have p24 : (2 : Int) ^ min (Int.toNat 24) 64 = 16777216 := rfl
 have p16 : (2 : Int) ^ min (Int.toNat 16) 64 = 65536 := rfl
 have p8 : (2 : Int) ^ min (Int.toNat 8) 64 = 256 := rfl
 have w1 : IntKind.i64.wrap (a0 * 16777216) = a0 * 16777216 := wrap_i64 (by omega) (by omega)
 have w2 : IntKind.i64.wrap (a1 * 65536) = a1 * 65536 := wrap_i64 (by omega) (by omega)
 have w3 : IntKind.i64.wrap (a2 * 256) = a2 * 256 := wrap_i64 (by omega) (by omega)
 have w4 : IntKind.i64.wrap (a0 * 16777216 + a1 * 65536) = a0 * 16777216 + a1 * 65536 := wrap_i64 (by omega) (by omega)
 have w5 : IntKind.i64.wrap (a0 * 16777216 + a1 * 65536 + a2 * 256) = a0 * 16777216 + a1 * 65536 + a2 * 256 := wrap_i64 (by omega) (by omega)
 have w6 : IntKind.i64.wrap (a0 * 16777216 + a1 * 65536 + a2 * 256 + a3) = a0 * 16777216 + a1 * 65536 + a2 * 256 + a3 := wrap_i64 (by omega) (by omega)
 have t0 : Int.toNat 0 = 0 := rfl
 have t1 : Int.toNat 1 = 1 := rfl
 have t2 : Int.toNat 2 = 2 := rfl
 have t3 : Int.toNat 3 = 3 := rfl
 simp +decide only [Tryz.f93, List.map_cons, List.map_nil, intA, go_sem]
 refine Runs.draw (st1 := ?s1) (draws_by (ann := []) tabOk lwS (by kernel_rfl) ?p1) ?q1
 case p1 =>
  intro K r X hK
  simp +decide only [p24, p16, p8, w1, w2, w3, w4, w5, w6, t0, t1, t2, t3, go_sem]
  exact hK
 case q1 =>
  simp +decide only [go_sem]
  exact Runs.ret_eq (by simp [numV])
def nbS : Sched := .take 0 (.take 1 (.take 4 (.take 5 (.take 9 (.take 10 (.take 14 (.take 15 (.ld 2 (.take 3 (.ld 6 (.take 7 (.take 8 (.ld 11 (.take 12 (.take 13 (.ld 16 (.take 17 (.take 18 .fin))))))))))))))))))
attribute [local go_sem] nbS
include hm in
theorem number (a : List Int) (h : addrB a = true) : Holds Tryz.prog 159 [.sl .sh (a.map intA)] [] (.v (.int .i64 (numV a))) [] := by
 obtain ⟨a0, a1, a2, a3, rfl, h0, h1, h2, h3⟩ := addr_four h
 refine holds_of (ann := []) tabOk hm Tryz.func159 (by kernel_rfl) rfl ?_
 have p24 : (2 : Int) ^ min (Int.toNat 24) 64 = 16777216 := rfl
 have p16 : (2 : Int) ^ min (Int.toNat 16) 64 = 65536 := rfl
 have p8 : (2 : Int) ^ min (Int.toNat 8) 64 = 256 := rfl
 have w1 : IntKind.i64.wrap (a0 * 16777216) = a0 * 16777216 := wrap_i64 (by omega) (by omega)
 have w2 : IntKind.i64.wrap (a1 * 65536) = a1 * 65536 := wrap_i64 (by omega) (by omega)
 have w3 : IntKind.i64.wrap (a2 * 256) = a2 * 256 := wrap_i64 (by omega) (by omega)
 have o1 : orI .i64 (a0 * 16777216) (a1 * 65536) = a0 * 16777216 + a1 * 65536 := or_add (k := 24) h0.1 (by omega) (by omega) (by omega)
 have o2 : orI .i64 (a0 * 16777216 + a1 * 65536) (a2 * 256) = a0 * 16777216 + a1 * 65536 + a2 * 256 := by
  have := or_add (p := a0 * 256 + a1) (y := a2 * 256) (k := 16) (by omega) (by omega) (by omega) (by omega)
  rw [show (a0 * 256 + a1) * 2 ^ 16 = a0 * 16777216 + a1 * 65536 by omega] at this
  exact this
 have o3 : orI .i64 (a0 * 16777216 + a1 * 65536 + a2 * 256) (a3) = a0 * 16777216 + a1 * 65536 + a2 * 256 + a3 := by
  have := or_add (p := a0 * 65536 + a1 * 256 + a2) (y := a3) (k := 8) (by omega) (by omega) (by omega) (by omega)
  rw [show (a0 * 65536 + a1 * 256 + a2) * 2 ^ 8 = a0 * 16777216 + a1 * 65536 + a2 * 256 by omega] at this
  exact this
 have t0 : Int.toNat 0 = 0 := rfl
 have t1 : Int.toNat 1 = 1 := rfl
 have t2 : Int.toNat 2 = 2 := rfl
 have t3 : Int.toNat 3 = 3 := rfl
 simp +decide only [Tryz.f159, List.map_cons, List.map_nil, intA, go_sem]
 refine Runs.draw (st1 := ?s1) (draws_by (ann := []) tabOk nbS (by kernel_rfl) ?p1) ?q1
 case p1 =>
  intro K r X hK
  simp +decide only [p24, p16, p8, w1, w2, w3, o1, o2, o3, t0, t1, t2, t3, go_sem]
  exact hK
 case q1 =>
  simp +decide only [go_sem]
  exact Runs.ret_eq (by simp [numV])
end Go.Proofs.W

namespace Go.Proofs.W
open Go Go.AM
variable (hm : Tryz.prog.follows .mixedOrders = true)
def ib (n : Int) : Int := IntKind.u8.wrap n
def smallK (n : Int) (k : Nat) : Bool := decide (-128 ≤ n / 256 ^ k) && decide (n / 256 ^ k ≤ 127)
def firstK (n : Int) : Nat → Nat → Nat
 | 0, k => k
 | f + 1, k => if smallK n k = true then k else firstK n f (k + 1)
def kB (n : Int) : Nat := firstK n 7 0
def tailB (n : Int) (k : Nat) : List Int := (List.range (k + 1)).reverse.map fun i => ib (n / 256 ^ i)
def intB (n : Int) : List Int := tailB n (kB n)
def l7Len (n : Nat) : List Int := if n < 128 then [ib n] else if n < 256 then [129, ib n] else [130, ib (n / 256 : Nat), ib n]
end Go.Proofs.W

namespace Go.Proofs.W
def pthr (k b : Int) : Int := if k - b < 1 then 1 else if 26 < k - b then 26 else k - b
theorem pthr_in (k b : Int) : 1 ≤ pthr k b ∧ pthr k b ≤ 26 := by unfold pthr; split <;> (try split) <;> omega
theorem tdiv_lt {d c : Int} (h : 0 < d) (hc : 2 ≤ c) : (d.tdiv c).toNat < d.toNat := by
 rw [Int.tdiv_eq_ediv_of_nonneg (by omega)]
 have h1 : d / c < d := Int.ediv_lt_of_lt_mul (by omega) (by have := Int.mul_le_mul_of_nonneg_left hc (Int.le_of_lt h); omega)
 have h2 : 0 ≤ d / c := Int.ediv_nonneg (by omega) (by omega)
 omega
def padL (d k : Int) : Int × Int := if h : 455 < d then padL (d.tdiv 35) (k + 36) else (d, k)
termination_by d.toNat
decreasing_by exact tdiv_lt (by omega) (by omega)
theorem padL_step {d k : Int} (h : 455 < d) : padL d k = padL (d.tdiv 35) (k + 36) := by rw [padL, dif_pos h]
theorem padL_end {d k : Int} (h : ¬ 455 < d) : padL d k = (d, k) := by rw [padL, dif_neg h]
theorem padL_in (d k : Int) (h : 0 ≤ d) : 0 ≤ (padL d k).1 ∧ (padL d k).1 ≤ 455 ∧ k ≤ (padL d k).2 ∧ (padL d k).2 ≤ k + d := by
 induction hn : d.toNat using Nat.strongRecOn generalizing d k with
 | _ n ih =>
  by_cases h1 : 455 < d
  ·rw [padL_step h1]
   have h2 := tdiv_lt (d := d) (c := 35) (by omega) (by omega)
   have h3 : d.tdiv 35 = d / 35 := Int.tdiv_eq_ediv_of_nonneg h
   have := ih _ (hn ▸ h2) (d.tdiv 35) (k + 36) (by omega) rfl
   omega
  ·rw [padL_end h1]
   simp only
   omega
def pad0 (delta many : Int) (first : Bool) : Int := (if first then delta.tdiv 700 else delta.tdiv 2) + (if first then delta.tdiv 700 else delta.tdiv 2).tdiv many
def padapt (delta many : Int) (first : Bool) : Int := (padL (pad0 delta many first) 0).2 + (36 * (padL (pad0 delta many first) 0).1).tdiv ((padL (pad0 delta many first) 0).1 + 38)
theorem tdiv_nn {d c : Int} (h : 0 ≤ d) (hc : 1 ≤ c) : 0 ≤ d.tdiv c ∧ d.tdiv c ≤ d := by
 rw [Int.tdiv_eq_ediv_of_nonneg h]
 exact ⟨Int.ediv_nonneg h (by omega), Int.ediv_le_self _ h⟩
theorem pad0_in {delta many : Int} {first : Bool} (h : 0 ≤ delta) (hm : 1 ≤ many) : 0 ≤ pad0 delta many first ∧ pad0 delta many first ≤ 2 * delta := by
 unfold pad0
 have a := tdiv_nn (c := 700) h (by omega)
 have b := tdiv_nn (c := 2) h (by omega)
 cases first
 ·simp only [Bool.false_eq_true, if_false]
  have := tdiv_nn b.1 hm
  omega
 ·simp only [if_true]
  have := tdiv_nn a.1 hm
  omega
theorem padapt_in {delta many : Int} {first : Bool} (h : 0 ≤ delta) (hm : 1 ≤ many) : 0 ≤ padapt delta many first ∧ padapt delta many first ≤ 2 * delta + 16380 := by
 have h0 := pad0_in (first := first) h hm
 have h1 := padL_in _ 0 h0.1
 unfold padapt
 generalize padL (pad0 delta many first) 0 = p at *
 have := tdiv_nn (d := 36 * p.1) (c := p.1 + 38) (by omega) (by omega)
 omega
def pdig (n : Int) : Int := if 97 ≤ n ∧ n ≤ 122 then n - 97 else if 48 ≤ n ∧ n ≤ 57 then n - 48 + 26 else -1
theorem pdig_in (n : Int) : -1 ≤ pdig n ∧ pdig n ≤ 35 := by unfold pdig; split <;> (try split) <;> omega
def pdg (d : Int) : Int := if d < 26 then 97 + d else d + 22
def ptold (q k b : Int) : List Int := if h : pthr k b ≤ q then pdg (pthr k b + (q - pthr k b).tmod (36 - pthr k b)) :: ptold ((q - pthr k b).tdiv (36 - pthr k b)) (k + 36) b else [pdg q]
termination_by q.toNat
decreasing_by
 have := pthr_in k b
 have h1 := tdiv_nn (d := q - pthr k b) (c := 36 - pthr k b) (by omega) (by omega)
 omega
theorem ptold_step {q k b : Int} (h : pthr k b ≤ q) : ptold q k b = pdg (pthr k b + (q - pthr k b).tmod (36 - pthr k b)) :: ptold ((q - pthr k b).tdiv (36 - pthr k b)) (k + 36) b := by rw [ptold, dif_pos h]
theorem ptold_end {q k b : Int} (h : ¬ pthr k b ≤ q) : ptold q k b = [pdg q] := by rw [ptold, dif_neg h]
theorem ptold_len (q k b : Int) (h : 0 ≤ q) : ((ptold q k b).length : Int) ≤ q + 1 := by
 induction hn : q.toNat using Nat.strongRecOn generalizing q k with
 | _ n ih =>
  by_cases h1 : pthr k b ≤ q
  ·rw [ptold_step h1]
   have := pthr_in k b
   have h2 := tdiv_nn (d := q - pthr k b) (c := 36 - pthr k b) (by omega) (by omega)
   have := ih _ (by omega) ((q - pthr k b).tdiv (36 - pthr k b)) (k + 36) (by omega) rfl
   rw [List.length_cons]
   omega
  ·rw [ptold_end h1]
   simp; omega
structure PS where
 out : List Int
 delta : Int
 bias : Int
 h : Int
def pinS (basic n : Int) (s : PS) (c : Int) : PS := if c = n then ⟨s.out ++ ptold s.delta 36 s.bias, 0, padapt s.delta (s.h + 1) (decide (s.h = basic)), s.h + 1⟩ else if c < n then ⟨s.out, s.delta + 1, s.bias, s.h⟩ else s
def pmS (n m c : Int) : Int := if n ≤ c then (if c < m then c else m) else m
def pinF (basic n : Int) (l : List Int) (s : PS) : PS := l.foldl (pinS basic n) s
def pmin (n : Int) (l : List Int) : Int := l.foldl (pmS n) 1114112
def pround (basic n : Int) (l : List Int) (s : PS) : PS := pinF basic (pmin n l) l ⟨s.out, s.delta + (pmin n l - n) * (s.h + 1), s.bias, s.h⟩
def pbump (s : PS) : PS := ⟨s.out, s.delta + 1, s.bias, s.h⟩
def punL (basic : Int) (l : List Int) (n : Int) (s : PS) : List Int :=
 if h : s.h < l.length ∧ s.h < (pround basic n l s).h then punL basic l (pmin n l + 1) (pbump (pround basic n l s)) else s.out
termination_by (l.length - s.h).toNat
decreasing_by
 simp only [pbump]
 omega
def pbase (l : List Int) : List Int := l.filter fun c => decide (c < 128)
def pstart (l : List Int) : PS := ⟨pbase l ++ (if 0 < (pbase l).length then [45] else []), 0, 72, (pbase l).length⟩
def pun (l : List Int) : List Int := punL (pbase l).length l 128 (pstart l)
def cntL (n : Int) (l : List Int) : Nat := (l.filter fun c => decide (c < n)).length
theorem pinF_h (basic n : Int) : ∀ (l : List Int) (s : PS), (pinF basic n l s).h = s.h + (l.filter fun c => decide (c = n)).length
 | [], s => by simp [pinF]
 | c :: r, s => by
  have := pinF_h basic n r (pinS basic n s c)
  rw [pinF, List.foldl_cons, ← pinF, this, List.filter_cons]
  unfold pinS
  split
  ·rename_i h; simp [h]; omega
  ·rename_i h
   have : decide (c = n) = false := by simp [h]
   rw [this]
   split <;> simp
theorem pmin_in (n : Int) : ∀ (l : List Int) (m : Int), (l.foldl (pmS n) m ≤ m) ∧ (∀ c ∈ l, n ≤ c → l.foldl (pmS n) m ≤ c) ∧ (l.foldl (pmS n) m = m ∨ (l.foldl (pmS n) m ∈ l ∧ n ≤ l.foldl (pmS n) m))
 | [], m => by simp
 | c :: r, m => by
  obtain ⟨h1, h2, h3⟩ := pmin_in n r (pmS n m c)
  rw [List.foldl_cons]
  have hp : pmS n m c = m ∨ (pmS n m c = c ∧ n ≤ c ∧ c < m) := by unfold pmS; split <;> (try split) <;> first | (left; rfl) | (right; exact ⟨rfl, by assumption, by assumption⟩)
  have hq : n ≤ c → pmS n m c ≤ c := by intro h; unfold pmS; rw [if_pos h]; split <;> omega
  refine ⟨by omega, ?_, ?_⟩
  ·intro x hx hn
   rcases List.mem_cons.1 hx with rfl | hx
   ·have := hq hn; omega
   ·exact h2 x hx hn
  ·rcases h3 with h3 | ⟨h3, h4⟩
   ·rw [h3]
    rcases hp with hp | ⟨hp, h5, _⟩
    ·left; exact hp
    ·right; rw [hp]; exact ⟨List.mem_cons_self .., h5⟩
   ·right; exact ⟨List.mem_cons_of_mem _ h3, h4⟩
theorem cntL_lt {n : Int} : ∀ {l : List Int}, cntL n l < l.length → ∃ c ∈ l, n ≤ c
 | [], h => by simp [cntL] at h
 | c :: r, h => by
  by_cases hc : c < n
  ·have : cntL n r < r.length := by simp [cntL, List.filter_cons, hc] at h ⊢; omega
   obtain ⟨x, hx, hn⟩ := cntL_lt this
   exact ⟨x, List.mem_cons_of_mem _ hx, hn⟩
  ·exact ⟨c, List.mem_cons_self .., by omega⟩
theorem cntL_le (n : Int) (l : List Int) : cntL n l ≤ l.length := List.length_filter_le _ _
theorem cntL_next {n m : Int} (hnm : n ≤ m) : ∀ {l : List Int}, (∀ c ∈ l, n ≤ c → m ≤ c) → cntL (m + 1) l = cntL n l + (l.filter fun c => decide (c = m)).length
 | [], _ => rfl
 | c :: r, h => by
  have ih := cntL_next hnm (l := r) fun x hx => h x (List.mem_cons_of_mem _ hx)
  have hc := h c (List.mem_cons_self ..)
  simp only [cntL, List.filter_cons] at ih ⊢
  by_cases h1 : c < n
  ·have h2 : c < m + 1 := by omega
   have h3 : ¬ c = m := by omega
   simp [h1, h2, h3]; omega
  ·by_cases h3 : c = m
   ·subst h3
    have h2 : c < c + 1 := by omega
    simp [h1, h2]; omega
   ·have h2 : ¬ c < m + 1 := by have := hc (by omega); omega
    simp [h1, h2, h3]; omega
theorem filter_pos {m : Int} {l : List Int} (h : m ∈ l) : 0 < (l.filter fun c => decide (c = m)).length := by
 have : m ∈ l.filter fun c => decide (c = m) := by simp [h]
 exact List.length_pos_of_mem this
theorem pround_next {basic n : Int} {l : List Int} {s : PS} (hl : ∀ c ∈ l, c ≤ 1114111) (hs : s.h = cntL n l) (hlt : s.h < l.length) :
  n ≤ pmin n l ∧ pmin n l ≤ 1114111 ∧ s.h < (pround basic n l s).h ∧ (pround basic n l s).h = cntL (pmin n l + 1) l := by
 obtain ⟨c, hc, hn⟩ := cntL_lt (n := n) (l := l) (by omega)
 obtain ⟨h1, h2, h3⟩ := pmin_in n l 1114112
 have h4 := h2 c hc hn
 have h5 := hl c hc
 rw [← pmin] at h1 h2 h3 h4
 rcases h3 with h3 | ⟨h3, h6⟩
 ·omega
 ·have h7 := filter_pos h3
  have h8 := cntL_next h6 h2
  have h9 := pinF_h basic (pmin n l) l ⟨s.out, s.delta + (pmin n l - n) * (s.h + 1), s.bias, s.h⟩
  rw [pround, h9]
  simp only
  exact ⟨h6, by omega, by omega, by omega⟩
theorem punL_step {basic n : Int} {l : List Int} {s : PS} (hl : ∀ c ∈ l, c ≤ 1114111) (hs : s.h = cntL n l) (hlt : s.h < l.length) :
  punL basic l n s = punL basic l (pmin n l + 1) (pbump (pround basic n l s)) := by
 have := (pround_next (basic := basic) hl hs hlt).2.2.1
 rw [punL, dif_pos ⟨hlt, this⟩]
theorem punL_end {basic n : Int} {l : List Int} {s : PS} (h : ¬ s.h < l.length) : punL basic l n s = s.out := by
 rw [punL, dif_neg (fun hh => h hh.1)]
structure PSok (d0 : Int) (s : PS) : Prop where
 h0 : 0 ≤ s.h
 h1 : s.h ≤ 20
 d1 : 0 ≤ s.delta
 d2 : s.delta ≤ d0
 b0 : 0 ≤ s.bias
 b1 : s.bias ≤ 60000000
 o : (s.out.length : Int) ≤ 41 + s.h * 24000000
theorem pinS_ok {basic n c d0 : Int} {s : PS} (h : PSok d0 s) (hd : d0 ≤ 23000000) (hd0 : 0 ≤ d0) (hh : (pinS basic n s c).h ≤ 20) : PSok (d0 + 1) (pinS basic n s c) := by
 unfold pinS at hh ⊢
 split
 ·rename_i hc
  rw [if_pos hc] at hh
  have a := padapt_in (delta := s.delta) (many := s.h + 1) (first := decide (s.h = basic)) h.d1 (by have := h.h0; omega)
  have t := ptold_len s.delta 36 s.bias h.d1
  have := h.d2; have := h.o; have := h.h0; have := h.d1
  refine ⟨by simp only; omega, hh, by simp only; omega, by simp only; omega, a.1, by simp only; omega, ?_⟩
  simp only [List.length_append]
  omega
 ·split
  ·have := h.d2; have := h.d1
   exact ⟨h.h0, h.h1, by simp only; omega, by simp only; omega, h.b0, h.b1, h.o⟩
  ·have := h.d2
   exact ⟨h.h0, h.h1, h.d1, by omega, h.b0, h.b1, h.o⟩
theorem pinS_h (basic n c : Int) (s : PS) : s.h ≤ (pinS basic n s c).h ∧ (pinS basic n s c).h ≤ s.h + 1 := by
 unfold pinS; split
 ·simp only; omega
 ·split
  ·simp only; omega
  ·omega
theorem pinF_mono (basic n : Int) : ∀ (l : List Int) (s : PS), s.h ≤ (pinF basic n l s).h
 | [], s => by simp [pinF]
 | c :: r, s => by
  have := pinF_mono basic n r (pinS basic n s c)
  have := (pinS_h basic n c s).1
  rw [pinF, List.foldl_cons, ← pinF]
  omega
theorem pinF_take {basic n : Int} {l : List Int} {s : PS} {i : Nat} (h : i < l.length) : pinF basic n (l.take (i + 1)) s = pinS basic n (pinF basic n (l.take i) s) l[i] := by
 rw [pinF, List.take_succ_eq_append_getElem h, List.foldl_append]; rfl
theorem pmin_take {n : Int} {l : List Int} {i : Nat} (h : i < l.length) : pmin n (l.take (i + 1)) = pmS n (pmin n (l.take i)) l[i] := by
 rw [pmin, List.take_succ_eq_append_getElem h, List.foldl_append]; rfl
theorem pmin_bound (n : Int) (l : List Int) (h : n ≤ 1114112) : n ≤ pmin n l ∧ pmin n l ≤ 1114112 := by
 obtain ⟨h1, _, h3⟩ := pmin_in n l 1114112
 rw [← pmin] at h1 h3
 exact ⟨by rcases h3 with h3 | h3 <;> omega, h1⟩
theorem pinF_ok {basic n : Int} {l : List Int} {s : PS} {d0 : Int} (h : PSok d0 s) (hd0 : 0 ≤ d0) (hh : (pinF basic n l s).h ≤ 20) (hl : l.length ≤ 20) (hd : d0 ≤ 22900000) : ∀ i, i ≤ l.length → PSok (d0 + i) (pinF basic n (l.take i) s)
 | 0, _ => by simpa [pinF] using h
 | i + 1, hi => by
  have ih := pinF_ok (basic := basic) (n := n) h hd0 hh hl hd i (by omega)
  rw [pinF_take (by omega)]
  have e : pinF basic n l s = pinF basic n (l.drop (i + 1)) (pinF basic n (l.take (i + 1)) s) := by
   rw [pinF, pinF, pinF, ← List.foldl_append, List.take_append_drop]
  have := pinF_mono basic n (l.drop (i + 1)) (pinF basic n (l.take (i + 1)) s)
  rw [pinF_take (by omega)] at this e
  have := pinS_ok (basic := basic) (n := n) (c := l[i]) ih (by omega) (by omega) (by rw [e] at hh; omega)
  simpa [Int.add_assoc] using this
def pinn (b : Int) : List Int → Int → Int → Int → Option (List Int × Int)
 | [], _, _, _ => none
 | x :: r, i, w, k => if pdig x < 0 ∨ 1099511627776 < i ∨ 1099511627776 < w then none else
   if pdig x < pthr k b then some (r, i + pdig x * w) else pinn b r (i + pdig x * w) (w * (36 - pthr k b)) (k + 36)
def pins (l : List Int) (i : Nat) (n : Int) : List Int := l.take i ++ n :: l.drop i
theorem pins_len (l : List Int) (i : Nat) (n : Int) : (pins l i n).length = l.length + 1 := by
 simp [pins]; omega
structure PD where
 word : List Int
 n : Int
 i : Int
 bias : Int
def pdStep (basic : Int) (s : PD) (j : Int) : PD := ⟨pins s.word (j.tmod (s.word.length + 1)).toNat (s.n + j.tdiv (s.word.length + 1)), s.n + j.tdiv (s.word.length + 1), j.tmod (s.word.length + 1) + 1, padapt (j - s.i) (s.word.length + 1) (decide ((s.word.length : Int) = basic))⟩
def poutS (basic : Int) (rest : List Int) (s : PD) : Option (List Int) :=
 if rest = [] then some s.word else
  match pinn s.bias rest s.i 1 36 with
  | none => none
  | some (r, j) => if 1114111 < s.n + j.tdiv (s.word.length + 1) ∨ 20 < s.word.length + 1 then none else
    if r.length < rest.length then poutS basic r (pdStep basic s j) else none
termination_by rest.length
def poutI (basic : Int) (rest : List Int) (s : PD) : Option (List Int) :=
 if rest = [] ∨ 20 < s.word.length then some s.word else
  match pinn s.bias rest s.i 1 36 with
  | none => none
  | some (r, j) => if r.length < rest.length then poutI basic r (pdStep basic s j) else none
termination_by rest.length
def pwordB (l : List Int) : Bool := decide (1 ≤ l.length ∧ l.length ≤ 20) && l.all fun c => decide (0 ≤ c ∧ c ≤ 1114111)
def pbad (l : List Int) : Prop := 20 < l.length ∨ ∃ c ∈ l, 1114111 < c
theorem pbad_not {l : List Int} (h : pbad l) : pwordB l = false := by
 unfold pwordB
 rcases h with h | ⟨c, hc, h⟩
 ·have : ¬ (1 ≤ l.length ∧ l.length ≤ 20) := by omega
  simp [this]
 ·have : (l.all fun c => decide (0 ≤ c ∧ c ≤ 1114111)) = false := by
   rw [List.all_eq_false]
   exact ⟨c, hc, by simp; omega⟩
  rw [this, Bool.and_false]
theorem pbad_ins {l : List Int} {i : Nat} {n : Int} (h : pbad l ∨ 1114111 < n ∨ 20 ≤ l.length) : pbad (pins l i n) := by
 rcases h with (h | ⟨c, hc, h⟩) | h | h
 ·left; rw [pins_len]; omega
 ·right
  refine ⟨c, ?_, h⟩
  rw [← List.take_append_drop i l, List.mem_append] at hc
  simp only [pins, List.mem_append, List.mem_cons]
  rcases hc with hc | hc
  ·left; exact hc
  ·right; right; exact hc
 ·right; exact ⟨n, by simp [pins], h⟩
 ·left; rw [pins_len]; omega
theorem poutI_bad (basic : Int) (rest : List Int) (s : PD) (h : pbad s.word) : ∀ w, poutI basic rest s = some w → pbad w := by
 induction hn : rest.length using Nat.strongRecOn generalizing rest s with
 | _ n ih =>
  intro w hw
  rw [poutI] at hw
  split at hw
  ·injection hw with hw; subst hw; exact h
  ·split at hw
   ·exact absurd hw (by simp)
   ·rename_i r j hp
    split at hw
    ·rename_i hr
     exact ih _ (hn ▸ hr) r _ (pbad_ins (.inl h)) rfl w hw
    ·exact absurd hw (by simp)
def pfin (told : List Int) (o : Option (List Int)) : Option (List Int) := match o with
 | some w => if pwordB w = true ∧ pun w = told then some w else none
 | none => none
theorem pfin_bad {told w : List Int} (h : pbad w) : pfin told (some w) = none := by
 rw [pfin, if_neg (by rw [pbad_not h]; simp)]
theorem pout_same (told : List Int) (basic : Int) (rest : List Int) (s : PD) : pfin told (poutI basic rest s) = pfin told (poutS basic rest s) := by
 induction hn : rest.length using Nat.strongRecOn generalizing rest s with
 | _ n ih =>
  rw [poutI, poutS]
  by_cases h : rest = []
  ·rw [if_pos (.inl h), if_pos h]
  ·rw [if_neg h]
   by_cases h2 : 20 < s.word.length
   ·rw [if_pos (.inr h2), pfin_bad (.inl h2)]
    split
    ·rfl
    ·rw [if_pos (.inr (by omega))]; rfl
   ·rw [if_neg (by rintro (x | x) <;> contradiction)]
    split
    ·rfl
    ·rename_i r j hp
     by_cases h3 : 1114111 < s.n + j.tdiv (s.word.length + 1) ∨ 20 < s.word.length + 1
     ·rw [if_pos h3]
      split
      ·have hb : pbad (pdStep basic s j).word := pbad_ins (by rcases h3 with h3 | h3; exact .inr (.inl h3); exact .inr (.inr (by omega)))
       have := poutI_bad basic r _ hb
       cases hw : poutI basic r (pdStep basic s j) with
       | none => rfl
       | some w => rw [pfin_bad (this w hw)]; rfl
      ·rfl
     ·rw [if_neg h3]
      split
      ·rename_i hr
       exact ih _ (hn ▸ hr) r _ rfl
      ·rfl
def plast (l : List Int) : Int := (l.foldl (fun (p : Int × Int) c => (p.1 + 1, if c = 45 then p.1 else p.2)) (0, -1)).2
theorem poutS_step {basic : Int} {rest : List Int} {s : PD} (h : rest ≠ []) : poutS basic rest s = match pinn s.bias rest s.i 1 36 with
  | none => none
  | some (r, j) => if 1114111 < s.n + j.tdiv (s.word.length + 1) ∨ 20 < s.word.length + 1 then none else if r.length < rest.length then poutS basic r (pdStep basic s j) else none := by rw [poutS, if_neg h]
theorem poutI_step {basic : Int} {rest : List Int} {s : PD} (h : rest ≠ []) (h2 : ¬ 20 < s.word.length) : poutI basic rest s = match pinn s.bias rest s.i 1 36 with
  | none => none
  | some (r, j) => if r.length < rest.length then poutI basic r (pdStep basic s j) else none := by rw [poutI, if_neg (by rintro (x | x) <;> contradiction)]
def preadS (l : List Int) : Option (List Int) := if 60 < l.length then none else pfin l (poutS ((plast l).toNat : Int) (l.drop (plast l + 1).toNat) ⟨l.take (plast l).toNat, 128, 0, 72⟩)
def preadI (l : List Int) : Option (List Int) := if 60 < l.length then none else pfin l (poutI ((plast l).toNat : Int) (l.drop (plast l + 1).toNat) ⟨l.take (plast l).toNat, 128, 0, 72⟩)
theorem pread_same (l : List Int) : preadI l = preadS l := by
 unfold preadI preadS
 rw [pout_same]
def by8 (l : List Int) : Prop := ∀ x ∈ l, 0 ≤ x ∧ x < 256
theorem byL_app {l m : List Int} (h1 : by8 l) (h2 : by8 m) : by8 (l ++ m) := fun x hx => (List.mem_append.1 hx).elim (h1 x) (h2 x)
theorem pdg_by {d : Int} (h0 : 0 ≤ d) (h1 : d < 36) : 0 ≤ pdg d ∧ pdg d < 256 := by unfold pdg; split <;> omega
theorem ptold_dig {q k b : Int} (hq : 0 ≤ q) (h : pthr k b ≤ q) : 0 ≤ pthr k b + (q - pthr k b).tmod (36 - pthr k b) ∧ pthr k b + (q - pthr k b).tmod (36 - pthr k b) < 36 := by
 have := pthr_in k b
 rw [Int.tmod_eq_emod_of_nonneg (by omega)]
 have h1 := Int.emod_nonneg (q - pthr k b) (b := 36 - pthr k b) (by omega)
 have h2 := Int.emod_lt_of_pos (q - pthr k b) (b := 36 - pthr k b) (by omega)
 omega
theorem ptold_by (q k b : Int) (h : 0 ≤ q) : by8 (ptold q k b) := by
 induction hn : q.toNat using Nat.strongRecOn generalizing q k with
 | _ n ih =>
  have ht := pthr_in k b
  by_cases h1 : pthr k b ≤ q
  ·rw [ptold_step h1]
   have h2 := tdiv_nn (d := q - pthr k b) (c := 36 - pthr k b) (by omega) (by omega)
   have h3 := ih _ (by omega) ((q - pthr k b).tdiv (36 - pthr k b)) (k + 36) (by omega) rfl
   intro x hx
   rcases List.mem_cons.1 hx with rfl | hx
   ·have := ptold_dig h h1; exact pdg_by this.1 this.2
   ·exact h3 x hx
  ·rw [ptold_end h1]
   intro x hx
   simp only [List.mem_cons, List.not_mem_nil, or_false] at hx
   subst hx
   exact pdg_by h (by omega)
theorem pinS_by {basic n c : Int} {s : PS} (h : by8 s.out) (hd : 0 ≤ s.delta) : by8 (pinS basic n s c).out := by
 unfold pinS
 split
 ·exact byL_app h (ptold_by _ _ _ hd)
 ·split <;> exact h
theorem pbase_by {l : List Int} (h : ∀ c ∈ l, 0 ≤ c) : by8 (pbase l) := fun x hx => by
 simp only [pbase, List.mem_filter, decide_eq_true_eq] at hx
 exact ⟨h x hx.1, by omega⟩
theorem pbase_take {l : List Int} {i : Nat} (h : i < l.length) : pbase (l.take (i + 1)) = if l[i] < 128 then pbase (l.take i) ++ [l[i]] else pbase (l.take i) := by
 rw [pbase, List.take_succ_eq_append_getElem h, List.filter_append]
 by_cases hc : l[i] < 128 <;> simp [pbase, hc]
theorem pword_in {l : List Int} (h : pwordB l = true) : l.length ≤ 20 ∧ (∀ c ∈ l, 0 ≤ c) ∧ ∀ c ∈ l, c ≤ 1114111 := by
 simp only [pwordB, Bool.and_eq_true, decide_eq_true_eq, List.all_eq_true] at h
 exact ⟨h.1.2, fun c hc => (h.2 c hc).1, fun c hc => (h.2 c hc).2⟩
structure PRok (l : List Int) (n : Int) (s : PS) : Prop where
 ok : PSok 21 s
 by' : by8 s.out
 n0 : 0 ≤ n
 n1 : n ≤ 1114112
 h : s.h = cntL n l
theorem cntL_128 (l : List Int) : cntL 128 l = (pbase l).length := rfl
theorem pstart_ok {l : List Int} (h : pwordB l = true) : PRok l 128 (pstart l) := by
 obtain ⟨h1, h2, h3⟩ := pword_in h
 have hb : (pbase l).length ≤ l.length := List.length_filter_le _ _
 refine ⟨⟨by simp [pstart], by simp [pstart]; omega, by simp [pstart], by simp [pstart], by simp [pstart], by simp [pstart], ?_⟩, ?_, by omega, by omega, rfl⟩
 ·simp only [pstart, List.length_append]
  split <;> simp <;> omega
 ·refine byL_app (pbase_by h2) ?_
  split
  ·intro x hx; simp at hx; omega
  ·intro x hx; simp at hx
def phead (n : Int) (l : List Int) (s : PS) : PS := ⟨s.out, s.delta + (pmin n l - n) * (s.h + 1), s.bias, s.h⟩
theorem pround_eq (basic n : Int) (l : List Int) (s : PS) : pround basic n l s = pinF basic (pmin n l) l (phead n l s) := rfl
theorem phead_in {l : List Int} {n : Int} {s : PS} (h : PRok l n s) (hl : s.h < l.length) (h20 : l.length ≤ 20) : 0 ≤ (pmin n l - n) * (s.h + 1) ∧ (pmin n l - n) * (s.h + 1) ≤ 22282240 := by
 have hb := pmin_bound n l h.n1
 have := h.n0
 have h0 := h.ok.h0
 have a1 : (pmin n l - n) * (s.h + 1) ≤ (pmin n l - n) * 20 := Int.mul_le_mul_of_nonneg_left (by omega) (by omega)
 have a2 : 0 ≤ (pmin n l - n) * (s.h + 1) := Int.mul_nonneg (by omega) (by omega)
 omega
theorem phead_ok {l : List Int} {n : Int} {s : PS} (h : PRok l n s) (hl : s.h < l.length) (h20 : l.length ≤ 20) : PSok 22282261 (phead n l s) := by
 have := phead_in h hl h20
 have := h.ok.d1; have := h.ok.d2
 exact ⟨h.ok.h0, h.ok.h1, by simp only [phead]; omega, by simp only [phead]; omega, h.ok.b0, h.ok.b1, h.ok.o⟩
theorem pmid_ok {basic : Int} {l : List Int} {n : Int} {s : PS} (h : PRok l n s) (hw : pwordB l = true) (hl : s.h < l.length) : ∀ i, i ≤ l.length →
  PSok (22282261 + i) (pinF basic (pmin n l) (l.take i) (phead n l s)) ∧ by8 (pinF basic (pmin n l) (l.take i) (phead n l s)).out := by
 obtain ⟨h1, h2, h3⟩ := pword_in hw
 obtain ⟨g1, g2, g3, g4⟩ := pround_next (basic := basic) h3 h.h hl
 have hh : (pinF basic (pmin n l) l (phead n l s)).h ≤ 20 := by
  have := cntL_le (pmin n l + 1) l
  rw [← pround_eq, g4]; omega
 have key := pinF_ok (basic := basic) (n := pmin n l) (phead_ok h hl h1) (by omega) hh h1 (by omega)
 intro i
 induction i with
 | zero => intro hi; exact ⟨key 0 hi, by simpa [pinF, phead] using h.by'⟩
 | succ i ih =>
  intro hi
  have := ih (by omega)
  refine ⟨key (i + 1) hi, ?_⟩
  rw [pinF_take (by omega)]
  exact pinS_by this.2 this.1.d1
theorem pin_small {basic m : Int} : ∀ (l : List Int) (s : PS), 0 ≤ s.delta → (m ∈ l ∨ s.delta ≤ 0) → (pinF basic m l s).delta ≤ l.length
 | [], s, h, hh => by
  rcases hh with hh | hh
  ·simp at hh
  ·simpa [pinF] using hh
 | c :: r, s, h, hh => by
  rw [pinF, List.foldl_cons, ← pinF]
  have key : ∀ (l : List Int) (s : PS), (pinF basic m l s).delta ≤ s.delta + l.length ∨ (pinF basic m l s).delta ≤ l.length := by
   intro l
   induction l with
   | nil => intro s; left; simp [pinF]
   | cons c r ih =>
    intro s
    rw [pinF, List.foldl_cons, ← pinF]
    have := ih (pinS basic m s c)
    by_cases h1 : c = m
    ·have e : (pinS basic m s c).delta = 0 := by unfold pinS; rw [if_pos h1]
     rw [e] at this
     right; simp only [List.length_cons]; omega
    ·have e : (pinS basic m s c).delta ≤ s.delta + 1 := by unfold pinS; rw [if_neg h1]; split <;> (try simp only) <;> omega
     simp only [List.length_cons]
     omega
  by_cases h1 : c = m
  ·have e : (pinS basic m s c).delta = 0 := by unfold pinS; rw [if_pos h1]
   have := key r (pinS basic m s c)
   rw [e] at this
   simp only [List.length_cons]; omega
  ·by_cases h2 : m ∈ r
   ·have hd : 0 ≤ (pinS basic m s c).delta := by unfold pinS; rw [if_neg h1]; split <;> (try simp only) <;> omega
    have := pin_small (basic := basic) r (pinS basic m s c) hd (.inl h2)
    simp only [List.length_cons]; omega
   ·have h3 : s.delta ≤ 0 := by
     rcases hh with hh | hh
     ·rcases List.mem_cons.1 hh with hh | hh
      ·exact absurd hh.symm h1
      ·exact absurd hh h2
     ·exact hh
    have e : (pinS basic m s c).delta ≤ 1 := by unfold pinS; rw [if_neg h1]; split <;> (try simp only) <;> omega
    have := key r (pinS basic m s c)
    simp only [List.length_cons]; omega
theorem pnext_ok {basic : Int} {l : List Int} {n : Int} {s : PS} (h : PRok l n s) (hw : pwordB l = true) (hl : s.h < l.length) : PRok l (pmin n l + 1) (pbump (pround basic n l s)) ∧ s.h < (pround basic n l s).h ∧ (pround basic n l s).h ≤ l.length := by
 obtain ⟨h1, h2, h3⟩ := pword_in hw
 obtain ⟨g1, g2, g3, g4⟩ := pround_next (basic := basic) h3 h.h hl
 have key := pmid_ok (basic := basic) h hw hl l.length (Nat.le_refl _)
 rw [List.take_length, ← pround_eq] at key
 obtain ⟨k, b⟩ := key
 have hm : pmin n l ∈ l := by
  obtain ⟨c, hc, hn⟩ := cntL_lt (n := n) (l := l) (by have := h.h; omega)
  obtain ⟨_, q2, q3⟩ := pmin_in n l 1114112
  rw [← pmin] at q2 q3
  have := q2 c hc hn
  have := h3 c hc
  rcases q3 with q3 | q3
  ·omega
  ·exact q3.1
 have sm := pin_small (basic := basic) (m := pmin n l) l (phead n l s) (phead_ok h hl h1).d1 (.inl hm)
 rw [← pround_eq] at sm
 have := h.n0
 have hc := cntL_le (pmin n l + 1) l
 refine ⟨⟨⟨k.h0, k.h1, by have := k.d1; simp only [pbump]; omega, by simp only [pbump]; omega, k.b0, k.b1, k.o⟩, b, by omega, by omega, g4⟩, g3, by rw [g4]; omega⟩
end Go.Proofs.W

namespace Go.Proofs.W
open Go Go.AM
set_option maxRecDepth 10000
variable (hm : Tryz.prog.follows .mixedOrders = true)
theorem ite_lt_max (a b : Int) : (if b > a then b else a) = if a < b then b else a := rfl
include hm in
theorem l1Max (a b : Int) : Holds Tryz.prog 168 [.v (.int .i64 a), .v (.int .i64 b)] [] (.v (.int .i64 (if b < a then a else b))) [] := by
 refine holds_of (ann := []) tabOk hm Tryz.func168 (by kernel_rfl) rfl ?_
 simp +decide only [Tryz.f168, go_sem]
 refine Runs.split (fun h => ?_) (fun h => ?_)
 ·simp only [gt_iff_lt, decide_eq_true_eq] at h
  simp +decide only [go_sem]
  exact Runs.ret_eq (by rw [if_pos h])
 ·simp only [gt_iff_lt, decide_eq_false_iff_not] at h
  simp +decide only [go_sem]
  exact Runs.ret_eq (by rw [if_neg h])
include hm in
theorem l1Min (a b : Int) : Holds Tryz.prog 169 [.v (.int .i64 a), .v (.int .i64 b)] [] (.v (.int .i64 (if a < b then a else b))) [] := by
 refine holds_of (ann := []) tabOk hm Tryz.func169 (by kernel_rfl) rfl ?_
 simp +decide only [Tryz.f169, go_sem]
 refine Runs.split (fun h => ?_) (fun h => ?_)
 ·simp only [gt_iff_lt, decide_eq_true_eq] at h
  simp +decide only [go_sem]
  exact Runs.ret_eq (by rw [if_pos h])
 ·simp only [gt_iff_lt, decide_eq_false_iff_not] at h
  simp +decide only [go_sem]
  exact Runs.ret_eq (by rw [if_neg h])
include hm in
theorem l8Threshold (k b : Int) (h1 : 0 ≤ k) (h2 : k ≤ 4611686018427387904) (h3 : 0 ≤ b) (h4 : b ≤ 4611686018427387904) : Holds Tryz.prog 127 [.v (.int .i64 k), .v (.int .i64 b)] [] (.v (.int .i64 (pthr k b))) [] := by
 refine holds_of (ann := []) tabOk hm Tryz.func127 (by kernel_rfl) rfl ?_
 have e : (if (if (26 : Int) < k - b then 26 else k - b) < 1 then 1 else (if (26 : Int) < k - b then 26 else k - b)) = pthr k b := by
  unfold pthr; split <;> split <;> (try split) <;> omega
 simp +decide (disch := first | omega | (simp only [ll]; omega)) only [Tryz.f127, if_pos, go_sem]
 refine Runs.call (l1Min hm 26 (k - b)) ?_
 simp +decide (disch := first | omega | (simp only [ll]; omega)) only [if_pos, go_sem]
 refine Runs.call (l1Max hm 1 _) ?_
 simp +decide only [go_sem]
 exact Runs.ret_eq (by rw [← e])
include hm in
theorem threshold (k b : Int) (h1 : 0 ≤ k) (h2 : k ≤ 4611686018427387904) (h3 : 0 ≤ b) (h4 : b ≤ 4611686018427387904) : Holds Tryz.prog 154 [.v (.int .i64 k), .v (.int .i64 b)] [] (.v (.int .i64 (pthr k b))) [] := by
 refine holds_of (ann := []) tabOk hm Tryz.func154 (by kernel_rfl) rfl ?_
 have w1 : IntKind.i64.wrap (k - b) = k - b := wrap_i64 (by omega) (by omega)
 simp +decide only [Tryz.f154, w1, go_sem]
 exact Runs.ret_eq (by unfold pthr; congr 2; split <;> split <;> (try split) <;> omega)
theorem u8_sub {n c : Int} (h : c ≤ n) (h2 : n < 256) (hc : 0 ≤ c) : IntKind.u8.wrap (n - c) = n - c := wrap_u8 (by omega) (by omega)
include hm in
theorem l8PunyValue (n : Int) (h0 : 0 ≤ n) (h1 : n < 256) : Holds Tryz.prog 126 [.v (.int .u8 n)] [] (.v (.int .i64 (pdig n))) [] := by
 refine holds_of (ann := []) tabOk hm Tryz.func126 (by kernel_rfl) rfl ?_
 simp +decide only [Tryz.f126, go_sem]
 by_cases a1 : 97 ≤ n
 ·by_cases a2 : n ≤ 122
  ·have e : pdig n = n - 97 := by unfold pdig; rw [if_pos ⟨a1, a2⟩]
   have w := u8_sub a1 h1 (by omega)
   have w2 : IntKind.i64.wrap (n - 97) = n - 97 := wrap_i64 (by omega) (by omega)
   simp +decide only [a1, a2, w, w2, e, go_sem]
   exact Runs.ret_v
  ·have e : pdig n = -1 := by unfold pdig; rw [if_neg (by omega), if_neg (by omega)]
   have a3 : 48 ≤ n := by omega
   have a4 : ¬ n ≤ 57 := by omega
   simp +decide only [a1, a2, a3, a4, e, go_sem]
   exact Runs.ret_v
 ·by_cases a3 : 48 ≤ n
  ·by_cases a4 : n ≤ 57
   ·have e : pdig n = n - 48 + 26 := by unfold pdig; rw [if_neg (by omega), if_pos ⟨a3, a4⟩]
    have w := u8_sub a3 h1 (by omega)
    have w2 : IntKind.i64.wrap (n - 48) = n - 48 := wrap_i64 (by omega) (by omega)
    have w3 : IntKind.i64.wrap (n - 48 + 26) = n - 48 + 26 := wrap_i64 (by omega) (by omega)
    simp +decide only [a1, a3, a4, w, w2, w3, e, go_sem]
    exact Runs.ret_v
   ·have e : pdig n = -1 := by unfold pdig; rw [if_neg (by omega), if_neg (by omega)]
    simp +decide only [a1, a3, a4, e, go_sem]
    exact Runs.ret_v
  ·have e : pdig n = -1 := by unfold pdig; rw [if_neg (by omega), if_neg (by omega)]
   simp +decide only [a1, a3, e, go_sem]
   exact Runs.ret_v
include hm in
theorem l8PunyDigit (d : Int) (h0 : 0 ≤ d) (h1 : d < 36) : Holds Tryz.prog 171 [.v (.int .i64 d)] [] (u8A (pdg d)) [] := by
 refine holds_of (ann := []) tabOk hm Tryz.func171 (by kernel_rfl) rfl ?_
 simp +decide only [Tryz.f171, go_sem]
 refine Runs.split (fun h => ?_) (fun h => ?_)
 ·simp only [decide_eq_true_eq] at h
  have e : pdg d = 97 + d := by unfold pdg; rw [if_pos h]
  have w1 : IntKind.i64.wrap (97 + d) = 97 + d := wrap_i64 (by omega) (by omega)
  have w2 : IntKind.u8.wrap (97 + d) = 97 + d := wrap_u8 (by omega) (by omega)
  simp +decide only [w1, w2, e, u8A, go_sem]
  exact Runs.ret_v
 ·simp only [decide_eq_false_iff_not] at h
  have e : pdg d = 48 + d - 26 := by unfold pdg; rw [if_neg h]; omega
  have w1 : IntKind.i64.wrap (48 + d) = 48 + d := wrap_i64 (by omega) (by omega)
  have w2 : IntKind.i64.wrap (48 + d - 26) = 48 + d - 26 := wrap_i64 (by omega) (by omega)
  have w3 : IntKind.u8.wrap (48 + d - 26) = 48 + d - 26 := wrap_u8 (by omega) (by omega)
  simp +decide only [w1, w2, w3, e, u8A, go_sem]
  exact Runs.ret_v
def biAnn : Ann := [(0, [0, 7])]
def biSt (d k : Int) : St := ⟨[.v (.int .i64 d), .any, .any, .any, .any, .any, .any, .v (.int .i64 k), .any, .any, .any, .any, .any, .any, .any, .any, .any, .any, .any, .any, .any, .any, .any, .any, .any, .any, .any, .any, .any, .any, .any], [], []⟩
include hm in
theorem l8Bias (delta many : Int) (first : Bool) (h1 : 0 ≤ delta) (h2 : delta ≤ 1152921504606846976) (h3 : 1 ≤ many) (h4 : many ≤ 1152921504606846976) :
  Holds Tryz.prog 128 [.v (.int .i64 delta), .v (.int .i64 many), .v (.bool first)] [] (.v (.int .i64 (padapt delta many first))) [] := by
 have p0 := pad0_in (first := first) h1 h3
 have a := tdiv_nn (c := 700) h1 (by omega)
 have b := tdiv_nn (c := 2) h1 (by omega)
 have a' := tdiv_nn (c := many) a.1 h3
 have b' := tdiv_nn (c := many) b.1 h3
 obtain ⟨R, hR⟩ : ∃ R, R = padapt delta many first := ⟨_, rfl⟩
 obtain ⟨D, hD⟩ : ∃ D, D = pad0 delta many first := ⟨_, rfl⟩
 rw [← hR]
 rw [padapt, ← hD] at hR
 rw [← hD] at p0
 refine holds_of (ann := biAnn) tabOk hm Tryz.func128 (by kernel_rfl) rfl ?_
 cases first
 all_goals
  have wq1 : IntKind.i64.wrap (delta.tdiv 700) = delta.tdiv 700 := wrap_i64 (by omega) (by omega)
  have wq2 : IntKind.i64.wrap (delta.tdiv 2) = delta.tdiv 2 := wrap_i64 (by omega) (by omega)
  have wq3 : IntKind.i64.wrap ((delta.tdiv 700).tdiv many) = (delta.tdiv 700).tdiv many := wrap_i64 (by omega) (by omega)
  have wq4 : IntKind.i64.wrap ((delta.tdiv 2).tdiv many) = (delta.tdiv 2).tdiv many := wrap_i64 (by omega) (by omega)
  have wq5 : IntKind.i64.wrap (delta.tdiv 700 + (delta.tdiv 700).tdiv many) = delta.tdiv 700 + (delta.tdiv 700).tdiv many := wrap_i64 (by omega) (by omega)
  have wq6 : IntKind.i64.wrap (delta.tdiv 2 + (delta.tdiv 2).tdiv many) = delta.tdiv 2 + (delta.tdiv 2).tdiv many := wrap_i64 (by omega) (by omega)
  have dm : decide (many ≠ 0) = true := by simp; omega
  simp +decide only [Tryz.f128, wq1, wq2, wq3, wq4, wq5, wq6, dm, go_sem]
  refine Runs.while (α := Int × Int) (fun p => biSt p.1 p.2) (fun p => p.1.toNat) (fun p => 0 ≤ p.1 ∧ p.1 ≤ 2305843009213693952 ∧ 0 ≤ p.2 ∧ p.2 + p.1 ≤ 2305843009213693952 ∧ padL p.1 p.2 = padL D 0) (D, 0) ⟨p0.1, by simp only; omega, by simp, by simp only; omega, rfl⟩ ?_ ?_
  ·simp [go_sem, biAnn, biSt, hD, pad0]
  ·rintro ⟨d, k⟩ ⟨i1, i2, i3, i4, i5⟩ ih
   simp only at i1 i2 i3 i4 i5 ih
   simp +decide only [biSt, go_sem]
   refine Runs.split (fun h => ?_) (fun h => ?_)
   ·have h : 455 < d := by simpa using h
    have c := tdiv_nn (c := 35) i1 (by omega)
    have c2 := tdiv_lt (d := d) (c := 35) (by omega) (by omega)
    have c3 : d.tdiv 35 = d / 35 := Int.tdiv_eq_ediv_of_nonneg i1
    have w1 : IntKind.i64.wrap (d.tdiv 35) = d.tdiv 35 := wrap_i64 (by omega) (by omega)
    have w2 : IntKind.i64.wrap (k + 36) = k + 36 := wrap_i64 (by omega) (by omega)
    simp +decide only [w1, w2, go_sem]
    refine ih (d.tdiv 35, k + 36) _ (by simpa using c2) ⟨c.1, by simp only; omega, by simp only; omega, by simp only; omega, by rw [← i5, padL_step h]⟩ ?_
    simp [go_sem, biAnn, biSt]
   ·have h : ¬ 455 < d := by simpa using h
    rw [padL_end h] at i5
    have e : R = k + (36 * d).tdiv (d + 38) := by rw [hR, ← i5]
    have c := tdiv_nn (d := 36 * d) (c := d + 38) (by omega) (by omega)
    have w1 : IntKind.i64.wrap (36 * d) = 36 * d := wrap_i64 (by omega) (by omega)
    have w2 : IntKind.i64.wrap (d + 38) = d + 38 := wrap_i64 (by omega) (by omega)
    have w3 : IntKind.i64.wrap ((36 * d).tdiv (d + 38)) = (36 * d).tdiv (d + 38) := wrap_i64 (by omega) (by omega)
    have w4 : IntKind.i64.wrap (k + (36 * d).tdiv (d + 38)) = k + (36 * d).tdiv (d + 38) := wrap_i64 (by omega) (by omega)
    have dz : decide (d + 38 ≠ 0) = true := by simp; omega
    simp +decide only [w1, w2, w3, w4, dz, go_sem]
    exact Runs.ret_eq (by rw [e])
end Go.Proofs.W

namespace Go.Proofs.W
open Go Go.AM
variable (hm : Tryz.prog.follows .mixedOrders = true)
def strI (l : List Int) : ByteArray := ⟨(l.map fun n => UInt8.ofNat n.toNat).toArray⟩
theorem strI_of (l : List Int) : (⟨((l.map u8A).map AM.byteOf).toArray⟩ : ByteArray) = strI l := by
 unfold strI
 rw [List.map_map]
 rfl
theorem all_by {l : List Int} (h : by8 l) : (l.map u8A).all isByte = true := by
 rw [List.all_map, List.all_eq_true]
 intro x hx
 simpa [u8A, isByte] using h x hx
theorem intA_get {l : List Int} {i : Nat} (h : i < l.length) : (l.map intA).getD i .any = .v (.int .i64 l[i]) := by simp [List.getD, h, intA]
def punA (l : List Int) : ByteArray := if pwordB l = true then strI (pun l) else ⟨#[]⟩
theorem pword_take {l : List Int} {i : Nat} (h : i < l.length) (hb : ¬ (0 ≤ l[i] ∧ l[i] ≤ 1114111)) : pwordB l = false := by
 have : (l.all fun c => decide (0 ≤ c ∧ c ≤ 1114111)) = false := by
  rw [List.all_eq_false]
  exact ⟨l[i], List.getElem_mem h, by simpa using hb⟩
 rw [pwordB, this, Bool.and_false]
def wkAnn : Ann := [(0, [0, 3])]
def wkSt (l : List Int) (i : Nat) : St := ⟨[.sl .sh (l.map intA), .any, .any, .v (.int .i64 i), .any, .any, .any, .any, .any, .any, .any, .any, .any, .any, .any, .any, .any, .any, .any], [], []⟩
set_option maxRecDepth 10000 in
include hm in
theorem l8WordOk (l : List Int) (h : l.length ≤ 1073741824) : Holds Tryz.prog 170 [.sl .sh (l.map intA)] [] (.v (.bool (pwordB l))) [] := by
 refine holds_of (ann := wkAnn) tabOk hm Tryz.func170 (by kernel_rfl) rfl ?_
 simp +decide only [Tryz.f170, go_sem]
 refine Runs.while (α := Nat) (wkSt l) (fun i => l.length - i) (fun i => i ≤ l.length ∧ ∀ c ∈ l.take i, 0 ≤ c ∧ c ≤ 1114111) 0 ⟨by omega, by simp⟩ ?_ ?_
 ·simp [go_sem, wkAnn, wkSt]
 ·rintro i ⟨hi, ha⟩ ih
  simp +decide only [wkSt, go_sem]
  refine Runs.split (fun h => ?_) (fun h => ?_)
  ·have hlt : i < l.length := by simpa using h
   have hg := intA_get hlt
   simp +decide (disch := first | omega | (simp only [ll]; omega)) only [hg, if_pos, go_sem]
   refine Runs.call (l1In hm l[i] 0 1114111) ?_
   cases hb : inB l[i] 0 1114111
   ·have hb : ¬ (0 ≤ l[i] ∧ l[i] ≤ 1114111) := by simp [inB] at hb; omega
    simp +decide only [go_sem]
    exact Runs.ret_eq (by rw [pword_take hlt hb])
   ·have hb : 0 ≤ l[i] ∧ l[i] ≤ 1114111 := by simpa [inB] using hb
    simp +decide (disch := first | omega | (simp only [ll]; omega)) only [if_pos, go_sem]
    refine ih (i + 1) _ (by omega) ⟨by omega, fun c hc => ?_⟩ ?_
    ·rw [List.take_succ_eq_append_getElem hlt, List.mem_append] at hc
     rcases hc with hc | hc
     ·exact ha c hc
     ·simp only [List.mem_cons, List.not_mem_nil, or_false] at hc; subst hc; exact hb
    ·simp [go_sem, wkAnn, wkSt]
  ·have hge : i = l.length := by simp at h; omega
   subst hge
   rw [List.take_length] at ha
   have e : pwordB l = inB l.length 1 20 := by
    have : (l.all fun c => decide (0 ≤ c ∧ c ≤ 1114111)) = true := by rw [List.all_eq_true]; intro c hc; simpa using ha c hc
    rw [pwordB, this, Bool.and_true]
    by_cases h1 : 1 ≤ l.length <;> by_cases h2 : l.length ≤ 20 <;> simp [inB, h1, h2] <;> omega
   simp +decide only [go_sem]
   refine Runs.call (l1In hm l.length 1 20) ?_
   simp +decide only [go_sem]
   exact Runs.ret_eq (by rw [e])
def puAnn : Ann := [(0, [0, 4, 5]), (2, [0, 4, 6, 7, 8, 9, 10]), (4, [0, 4, 6, 7, 8, 9, 10, 11, 12]), (6, [0, 4, 6, 7, 8, 9, 10, 13]), (8, [0, 4, 6, 7, 8, 9, 10, 13, 14, 15])]
def puSt0 (l : List Int) (i : Nat) : St := ⟨[.sl .sh (l.map intA), .any, .any, .any, .ms (.l 0) 0 (pbase (l.take i)).length (pbase (l.take i)).length, .v (.int .i64 i), .any, .any, .any, .any, .any, .any, .any, .any, .any, .any, .any, .any, .any, .any, .any, .any, .any, .any, .any, .any, .any, .any, .any, .any, .any, .any, .any, .any, .any, .any, .any, .any, .any, .any, .any, .any, .any, .any, .any, .any, .any, .any, .any, .any, .any, .any, .any, .any, .any, .any, .any, .any, .any, .any, .any, .any, .any, .any, .any, .any, .any, .any, .any, .any, .any, .any, .any, .any, .any, .any, .any, .any, .any, .any, .any, .any, .any, .any, .any, .any, .any, .any, .any, .any, .any, .any, .any, .any, .any, .any, .any, .any, .any, .any, .any, .any, .any, .any, .any, .any, .any, .any, .any, .any, .any, .any, .any, .any, .any, .any, .any, .any, .any, .any, .any, .any, .any, .any, .any, .any, .any, .any, .any, .any, .any, .any, .any, .any, .any, .any, .any, .any, .any, .any, .any, .any, .any, .any, .any, .any], [(0, ⟨true, 1, false, (pbase (l.take i)).map u8A⟩)], []⟩
def puStJ (l : List Int) (o : List Int) : St := ⟨[.sl .sh (l.map intA), .any, .any, .any, .ms (.l 0) 0 o.length o.length, .any, .v (.int .i64 (pbase l).length), .any, .any, .any, .any, .any, .any, .any, .any, .any, .any, .any, .any, .any, .any, .any, .any, .any, .any, .any, .any, .any, .any, .any, .any, .any, .any, .any, .any, .any, .any, .any, .any, .any, .any, .any, .any, .any, .any, .any, .any, .any, .any, .any, .any, .any, .any, .any, .any, .any, .any, .any, .any, .any, .any, .any, .any, .any, .any, .any, .any, .any, .any, .any, .any, .any, .any, .any, .any, .any, .any, .any, .any, .any, .any, .any, .any, .any, .any, .any, .any, .any, .any, .any, .any, .any, .any, .any, .any, .any, .any, .any, .any, .any, .any, .any, .any, .any, .any, .any, .any, .any, .any, .any, .any, .any, .any, .any, .any, .any, .any, .any, .any, .any, .any, .any, .any, .any, .any, .any, .any, .any, .any, .any, .any, .any, .any, .any, .any, .any, .any, .any, .any, .any, .any, .any, .any, .any, .any, .any], [(0, ⟨true, 1, false, o.map u8A⟩)], []⟩
def puSt2 (l : List Int) (n : Int) (s : PS) : St := ⟨[.sl .sh (l.map intA), .any, .any, .any, .ms (.l 0) 0 s.out.length s.out.length, .any, .v (.int .i64 (pbase l).length), .v (.int .i64 n), .v (.int .i64 s.delta), .v (.int .i64 s.bias), .v (.int .i64 s.h), .any, .any, .any, .any, .any, .any, .any, .any, .any, .any, .any, .any, .any, .any, .any, .any, .any, .any, .any, .any, .any, .any, .any, .any, .any, .any, .any, .any, .any, .any, .any, .any, .any, .any, .any, .any, .any, .any, .any, .any, .any, .any, .any, .any, .any, .any, .any, .any, .any, .any, .any, .any, .any, .any, .any, .any, .any, .any, .any, .any, .any, .any, .any, .any, .any, .any, .any, .any, .any, .any, .any, .any, .any, .any, .any, .any, .any, .any, .any, .any, .any, .any, .any, .any, .any, .any, .any, .any, .any, .any, .any, .any, .any, .any, .any, .any, .any, .any, .any, .any, .any, .any, .any, .any, .any, .any, .any, .any, .any, .any, .any, .any, .any, .any, .any, .any, .any, .any, .any, .any, .any, .any, .any, .any, .any, .any, .any, .any, .any, .any, .any, .any, .any, .any, .any], [(0, ⟨true, 1, false, s.out.map u8A⟩)], []⟩
def puSt4 (l : List Int) (n : Int) (s : PS) (m : Int) (i : Nat) : St := ⟨[.sl .sh (l.map intA), .any, .any, .any, .ms (.l 0) 0 s.out.length s.out.length, .any, .v (.int .i64 (pbase l).length), .v (.int .i64 n), .v (.int .i64 s.delta), .v (.int .i64 s.bias), .v (.int .i64 s.h), .v (.int .i64 m), .v (.int .i64 i), .any, .any, .any, .any, .any, .any, .any, .any, .any, .any, .any, .any, .any, .any, .any, .any, .any, .any, .any, .any, .any, .any, .any, .any, .any, .any, .any, .any, .any, .any, .any, .any, .any, .any, .any, .any, .any, .any, .any, .any, .any, .any, .any, .any, .any, .any, .any, .any, .any, .any, .any, .any, .any, .any, .any, .any, .any, .any, .any, .any, .any, .any, .any, .any, .any, .any, .any, .any, .any, .any, .any, .any, .any, .any, .any, .any, .any, .any, .any, .any, .any, .any, .any, .any, .any, .any, .any, .any, .any, .any, .any, .any, .any, .any, .any, .any, .any, .any, .any, .any, .any, .any, .any, .any, .any, .any, .any, .any, .any, .any, .any, .any, .any, .any, .any, .any, .any, .any, .any, .any, .any, .any, .any, .any, .any, .any, .any, .any, .any, .any, .any, .any, .any], [(0, ⟨true, 1, false, s.out.map u8A⟩)], []⟩
def puSt6 (l : List Int) (n : Int) (s : PS) (i : Nat) : St := ⟨[.sl .sh (l.map intA), .any, .any, .any, .ms (.l 0) 0 s.out.length s.out.length, .any, .v (.int .i64 (pbase l).length), .v (.int .i64 n), .v (.int .i64 s.delta), .v (.int .i64 s.bias), .v (.int .i64 s.h), .any, .any, .v (.int .i64 i), .any, .any, .any, .any, .any, .any, .any, .any, .any, .any, .any, .any, .any, .any, .any, .any, .any, .any, .any, .any, .any, .any, .any, .any, .any, .any, .any, .any, .any, .any, .any, .any, .any, .any, .any, .any, .any, .any, .any, .any, .any, .any, .any, .any, .any, .any, .any, .any, .any, .any, .any, .any, .any, .any, .any, .any, .any, .any, .any, .any, .any, .any, .any, .any, .any, .any, .any, .any, .any, .any, .any, .any, .any, .any, .any, .any, .any, .any, .any, .any, .any, .any, .any, .any, .any, .any, .any, .any, .any, .any, .any, .any, .any, .any, .any, .any, .any, .any, .any, .any, .any, .any, .any, .any, .any, .any, .any, .any, .any, .any, .any, .any, .any, .any, .any, .any, .any, .any, .any, .any, .any, .any, .any, .any, .any, .any, .any, .any, .any, .any, .any, .any], [(0, ⟨true, 1, false, s.out.map u8A⟩)], []⟩
def puSt8 (l : List Int) (n : Int) (s : PS) (i : Nat) (o : List Int) (q k : Int) : St := ⟨[.sl .sh (l.map intA), .any, .any, .any, .ms (.l 0) 0 o.length o.length, .any, .v (.int .i64 (pbase l).length), .v (.int .i64 n), .v (.int .i64 s.delta), .v (.int .i64 s.bias), .v (.int .i64 s.h), .any, .any, .v (.int .i64 i), .v (.int .i64 q), .v (.int .i64 k), .any, .any, .any, .any, .any, .any, .any, .any, .any, .any, .any, .any, .any, .any, .any, .any, .any, .any, .any, .any, .any, .any, .any, .any, .any, .any, .any, .any, .any, .any, .any, .any, .any, .any, .any, .any, .any, .any, .any, .any, .any, .any, .any, .any, .any, .any, .any, .any, .any, .any, .any, .any, .any, .any, .any, .any, .any, .any, .any, .any, .any, .any, .any, .any, .any, .any, .any, .any, .any, .any, .any, .any, .any, .any, .any, .any, .any, .any, .any, .any, .any, .any, .any, .any, .any, .any, .any, .any, .any, .any, .any, .any, .any, .any, .any, .any, .any, .any, .any, .any, .any, .any, .any, .any, .any, .any, .any, .any, .any, .any, .any, .any, .any, .any, .any, .any, .any, .any, .any, .any, .any, .any, .any, .any, .any, .any, .any, .any, .any, .any], [(0, ⟨true, 1, false, o.map u8A⟩)], []⟩
set_option maxHeartbeats 4000000 in
set_option maxRecDepth 10000 in
include hm in
theorem specPuny (l : List Int) (h : l.length ≤ 1073741824) : Holds Tryz.prog 129 [.sl .sh (l.map intA)] [] (.tup [.v (.string (punA l)), .v (.bool (pwordB l))]) [] := by
 refine holds_ref (ann := puAnn) tabOk hm (byJ [(12, [0, 4, 6])] (byL [] [])) Tryz.func129 (by kernel_rfl) rfl ?_
 simp +decide only [Tryz.f129, go_sem]
 refine Runs.call (l8WordOk hm l h) ?_
 cases hw : pwordB l
 ·simp +decide only [go_sem]
  exact Runs.ret_eq (by simp [punA, hw])
 ·obtain ⟨h1, h2, h3⟩ := pword_in hw
  have hR : punA l = strI (pun l) := by rw [punA, if_pos hw]
  rw [hR]
  clear hR
  simp +decide (maxSteps := 9^7) only [go_sem]
  refine Runs.while (α := Nat) (puSt0 l) (fun i => l.length - i) (fun i => i ≤ l.length) 0 (by omega) ?_ ?_
  ·simp [go_sem, puAnn, puSt0, pbase]
  ·intro i hi ih
   have hbl : (pbase (l.take i)).length ≤ 20 := by have := List.length_filter_le (fun c => decide (c < 128)) (l.take i); simp only [pbase]; rw [List.length_take] at this; omega
   simp +decide (maxSteps := 9^7) only [puSt0, go_sem]
   refine Runs.split (fun h => ?_) (fun h => ?_)
   ·have hlt : i < l.length := by simpa using h
    have hg := intA_get hlt
    have hp := pbase_take hlt
    have hx := h2 _ (List.getElem_mem hlt)
    simp +decide (maxSteps := 9^7) (disch := first | omega | (simp only [ll]; omega)) only [hg, if_pos, go_sem]
    refine Runs.split (fun g => ?_) (fun g => ?_)
    ·have g : l[i] < 128 := by simpa using g
     rw [if_pos g] at hp
     have w8 : IntKind.u8.wrap l[i] = l[i] := wrap_u8 (by omega) (by omega)
     simp +decide (maxSteps := 9^7) (disch := first | omega | (simp only [ll]; omega)) only [hg, w8, List.length_map, if_pos, go_sem]
     refine ih (i + 1) _ (by omega) (by omega) ?_
     simp [go_sem, puAnn, puSt0, hp, u8A]
    ·have g : ¬ l[i] < 128 := by simpa using g
     rw [if_neg g] at hp
     simp +decide (maxSteps := 9^7) (disch := first | omega | (simp only [ll]; omega)) only [if_pos, go_sem]
     refine ih (i + 1) _ (by omega) (by omega) ?_
     simp [go_sem, puAnn, puSt0, hp]
   ·have hge : i = l.length := by simp at h; omega
    subst hge
    rw [List.take_length] at hbl ⊢
    have hso := pstart_ok hw
    obtain ⟨so, hso0⟩ : ∃ s, s = pstart l := ⟨_, rfl⟩
    have hou : (pstart l).out = pbase l ++ (if 0 < (pbase l).length then [45] else []) := rfl
    simp +decide (maxSteps := 9^7) only [go_sem]
    refine Runs.meet (α := Unit) (keep := [0, 4, 6]) (kj := ?kj12) (fun _ => puStJ l (pstart l).out) ?tail12 ?w1 ?w2
    case w1 =>
     intro J e
     have e : 0 < (pbase l).length := by simpa using e
     rw [if_pos e] at hou
     simp +decide (maxSteps := 9^7) (disch := first | omega | (simp only [ll]; omega)) only [List.length_map, if_pos, go_sem]
     refine J () _ ?_
     simp [go_sem, puStJ, hou, u8A]
    case w2 =>
     intro J e
     have e : ¬ 0 < (pbase l).length := by simpa using e
     rw [if_neg e] at hou
     simp +decide (maxSteps := 9^7) only [go_sem]
     refine J () _ ?_
     simp [go_sem, puStJ, hou]
    case tail12 =>
     intro _
     simp +decide (maxSteps := 9^7) only [puStJ, go_sem]
     refine Runs.while (α := Int × PS) (fun p => puSt2 l p.1 p.2) (fun p => (l.length - p.2.h).toNat) (fun p => PRok l p.1 p.2 ∧ p.2.h ≤ l.length ∧ punL (pbase l).length l p.1 p.2 = pun l) (128, pstart l) ⟨hso, by simp only [pstart]; have := List.length_filter_le (fun c => decide (c < 128)) l; simp only [pbase]; omega, rfl⟩ ?_ ?_
     ·simp [go_sem, puAnn, puSt2, pstart]
     ·rintro ⟨n, s⟩ ⟨ok, hle, hpu⟩ ih
      simp only at ok hle hpu ih
      simp +decide (maxSteps := 9^7) only [puSt2, go_sem]
      refine Runs.split (fun h => ?_) (fun h => ?_)
      ·have hlt : s.h < l.length := by simpa using h
       have hnx := pnext_ok (basic := ((pbase l).length : Int)) ok hw hlt
       have hst := punL_step (basic := ((pbase l).length : Int)) h3 ok.h hlt
       have hmb := pmin_bound n l ok.n1
       have hpd := phead_in ok hlt h1
       have hn0 := ok.n0
       have hd1 := ok.ok.d1
       have hd2 := ok.ok.d2
       have hh0 := ok.ok.h0
       have hh1 := ok.ok.h1
       simp +decide (maxSteps := 9^7) only [go_sem]
       refine Runs.while (α := Nat) (fun i => puSt4 l n s (pmin n (l.take i)) i) (fun i => l.length - i) (fun i => i ≤ l.length) 0 (by omega) ?_ ?_
       ·simp [go_sem, puAnn, puSt4, pmin]
       ·intro i hi ih4
        simp +decide (maxSteps := 9^7) only [puSt4, go_sem]
        refine Runs.split (fun h => ?_) (fun h => ?_)
        ·have hlt4 : i < l.length := by simpa using h
         have hg := intA_get hlt4
         have hp := pmin_take (n := n) hlt4
         simp +decide (maxSteps := 9^7) (disch := first | omega | (simp only [ll]; omega)) only [hg, if_pos, go_sem]
         refine Runs.split (fun g => ?_) (fun g => ?_)
         ·have g : n ≤ l[i] := by simpa using g
          have e : (if pmin n (l.take i) < l[i] then pmin n (l.take i) else l[i]) = pmin n (l.take (i + 1)) := by
           rw [hp, pmS, if_pos g]; split <;> split <;> omega
          simp +decide (maxSteps := 9^7) (disch := first | omega | (simp only [ll]; omega)) only [hg, if_pos, go_sem]
          refine Runs.call (l1Min hm (pmin n (l.take i)) l[i]) ?_
          rw [e]
          simp +decide (maxSteps := 9^7) (disch := first | omega | (simp only [ll]; omega)) only [if_pos, go_sem]
          refine ih4 (i + 1) _ (by omega) (by omega) ?_
          simp [go_sem, puAnn, puSt4]
         ·have g : ¬ n ≤ l[i] := by simpa using g
          have e : pmin n (l.take (i + 1)) = pmin n (l.take i) := by rw [hp, pmS, if_neg g]
          simp +decide (maxSteps := 9^7) (disch := first | omega | (simp only [ll]; omega)) only [if_pos, go_sem]
          refine ih4 (i + 1) _ (by omega) (by omega) ?_
          simp [go_sem, puAnn, puSt4, e]
        ·have hge : i = l.length := by simp at h; omega
         subst hge
         rw [List.take_length]
         have wa : IntKind.i64.wrap (pmin n l - n) = pmin n l - n := wrap_i64 (by omega) (by omega)
         have wb : IntKind.i64.wrap (s.h + 1) = s.h + 1 := wrap_i64 (by omega) (by omega)
         have wc : IntKind.i64.wrap ((pmin n l - n) * (s.h + 1)) = (pmin n l - n) * (s.h + 1) := wrap_i64 (by omega) (by omega)
         have wd : IntKind.i64.wrap (s.delta + (pmin n l - n) * (s.h + 1)) = s.delta + (pmin n l - n) * (s.h + 1) := wrap_i64 (by omega) (by omega)
         simp +decide (maxSteps := 9^7) only [wa, wb, wc, wd, go_sem]
         refine Runs.while (α := Nat) (fun i => puSt6 l (pmin n l) (pinF (pbase l).length (pmin n l) (l.take i) (phead n l s)) i) (fun i => l.length - i) (fun i => i ≤ l.length) 0 (by omega) ?_ ?_
         ·simp [go_sem, puAnn, puSt6, pinF, phead]
         ·intro i hi6 ih6
          have mid := pmid_ok (basic := ((pbase l).length : Int)) ok hw hlt i hi6
          obtain ⟨u, hu⟩ : ∃ u, u = pinF (pbase l).length (pmin n l) (l.take i) (phead n l s) := ⟨_, rfl⟩
          rw [← hu] at mid ⊢
          obtain ⟨mk, mb⟩ := mid
          obtain ⟨m1, m2, m3, m4, m5, m6, m7⟩ := mk
          simp +decide (maxSteps := 9^7) only [puSt6, go_sem]
          refine Runs.split (fun h => ?_) (fun h => ?_)
          ·have hlt6 : i < l.length := by simpa using h
           have hg := intA_get hlt6
           have hp := pinF_take (basic := ((pbase l).length : Int)) (n := pmin n l) (s := phead n l s) hlt6
           rw [← hu] at hp
           have hok := (pmid_ok (basic := ((pbase l).length : Int)) ok hw hlt (i + 1) hlt6).1
           rw [hp] at hok
           simp +decide (maxSteps := 9^7) (disch := first | omega | (simp only [ll]; omega)) only [hg, if_pos, go_sem]
           refine Runs.split (fun g => ?_) (fun g => ?_)
           ·have g : l[i] < pmin n l := by simpa using g
            have g2 : ¬ l[i] = pmin n l := by omega
            rw [pinS, if_neg g2, if_pos g] at hp
            simp +decide (maxSteps := 9^7) (disch := first | omega | (simp only [ll]; omega)) only [hg, g2, if_pos, go_sem]
            refine ih6 (i + 1) _ (by omega) (by omega) ?_
            simp [go_sem, puAnn, puSt6, hp]
           ·have g : ¬ l[i] < pmin n l := by simpa using g
            by_cases g2 : l[i] = pmin n l
            ·have hq : (pinS ((pbase l).length : Int) (pmin n l) u l[i]) = ⟨u.out ++ ptold u.delta 36 u.bias, 0, padapt u.delta (u.h + 1) (decide (u.h = ((pbase l).length : Int))), u.h + 1⟩ := by rw [pinS, if_pos g2]
             rw [hq] at hp hok
             have ho7 := hok.o
             have hh7 := hok.h1
             simp only [List.length_append] at ho7 hh7
             simp +decide (maxSteps := 9^7) (disch := first | omega | (simp only [ll]; omega)) only [hg, g2, if_pos, go_sem]
             refine Runs.while (α := List Int × Int × Int) (fun p => puSt8 l (pmin n l) u i p.1 p.2.1 p.2.2) (fun p => p.2.1.toNat) (fun p => p.1 ++ ptold p.2.1 p.2.2 u.bias = u.out ++ ptold u.delta 36 u.bias ∧ 0 ≤ p.2.1 ∧ p.2.1 ≤ u.delta ∧ 36 ≤ p.2.2 ∧ p.2.2 + 36 * p.2.1 ≤ 36 + 36 * u.delta) (u.out, u.delta, 36) ⟨rfl, m3, by simp only; omega, by simp only; omega, by simp only; omega⟩ ?_ ?_
             ·simp [go_sem, puAnn, puSt8]
             ·rintro ⟨o, q, k⟩ ⟨i1, i2, i3, i4, i5⟩ ih8
              simp only at i1 i2 i3 i4 i5 ih8
              have ht := pthr_in k u.bias
              have hol : o.length + (ptold q k u.bias).length = u.out.length + (ptold u.delta 36 u.bias).length := by rw [← List.length_append, i1, List.length_append]
              simp +decide (maxSteps := 9^7) only [puSt8, go_sem]
              refine Runs.call (l8Threshold hm k u.bias (by omega) (by omega) (by omega) (by omega)) ?_
              simp +decide (maxSteps := 9^7) only [go_sem]
              refine Runs.split (fun g8 => ?_) (fun g8 => ?_)
              ·have g8 : q < pthr k u.bias := by simpa using g8
               rw [ptold_end (by omega)] at i1 hol
               rw [← i1] at hp
               rw [List.length_cons, List.length_nil] at hol
               have wb2 : IntKind.i64.wrap (u.h + 1) = u.h + 1 := wrap_i64 (by omega) (by omega)
               have dA : decide (o.length + 1 ≤ 1073741824) = true := by simp; omega
               have eb : (u.h == ((pbase l).length : Int)) = decide (u.h = ((pbase l).length : Int)) := int_beq
               simp +decide (maxSteps := 9^7) only [go_sem]
               refine Runs.call (l8PunyDigit hm q (by omega) (by omega)) ?_
               simp +decide (maxSteps := 9^7) only [u8A, dA, List.length_map, wb2, go_sem]
               refine Runs.call (l8Bias hm u.delta (u.h + 1) _ (by omega) (by omega) (by omega) (by omega)) ?_
               simp +decide (maxSteps := 9^7) (disch := first | omega | (simp only [ll]; omega)) only [eb, if_pos, go_sem]
               refine ih6 (i + 1) _ (by omega) (by omega) ?_
               simp [go_sem, puAnn, puSt6, hp, u8A, eb]
              ·have g8 : pthr k u.bias ≤ q := by simpa using g8
               have hdg := ptold_dig i2 g8
               have hdv := tdiv_nn (d := q - pthr k u.bias) (c := 36 - pthr k u.bias) (by omega) (by omega)
               rw [ptold_step g8] at i1 hol
               rw [List.length_cons] at hol
               have wq1 : IntKind.i64.wrap (q - pthr k u.bias) = q - pthr k u.bias := wrap_i64 (by omega) (by omega)
               have wq2 : IntKind.i64.wrap (36 - pthr k u.bias) = 36 - pthr k u.bias := wrap_i64 (by omega) (by omega)
               have wq3 : IntKind.i64.wrap (pthr k u.bias + (q - pthr k u.bias).tmod (36 - pthr k u.bias)) = pthr k u.bias + (q - pthr k u.bias).tmod (36 - pthr k u.bias) := wrap_i64 (by omega) (by omega)
               have wq4 : IntKind.i64.wrap ((q - pthr k u.bias).tdiv (36 - pthr k u.bias)) = (q - pthr k u.bias).tdiv (36 - pthr k u.bias) := wrap_i64 (by omega) (by omega)
               have wq5 : IntKind.i64.wrap (k + 36) = k + 36 := wrap_i64 (by omega) (by omega)
               have dz : decide (36 - pthr k u.bias ≠ 0) = true := by simp; omega
               have dA : decide (o.length + 1 ≤ 1073741824) = true := by simp; omega
               simp +decide (maxSteps := 9^7) only [wq1, wq2, wq3, dz, go_sem]
               refine Runs.call (l8PunyDigit hm _ hdg.1 hdg.2) ?_
               simp +decide (maxSteps := 9^7) only [u8A, dA, List.length_map, wq1, wq2, wq4, wq5, dz, go_sem]
               refine ih8 (o ++ [pdg (pthr k u.bias + (q - pthr k u.bias).tmod (36 - pthr k u.bias))], (q - pthr k u.bias).tdiv (36 - pthr k u.bias), k + 36) _ (by simp only; omega) ⟨by simpa using i1, hdv.1, by simp only; omega, by simp only; omega, by simp only; omega⟩ ?_
               simp [go_sem, puAnn, puSt8, u8A]
            ·rw [pinS, if_neg g2, if_neg g] at hp
             simp +decide (maxSteps := 9^7) (disch := first | omega | (simp only [ll]; omega)) only [hg, g2, if_pos, go_sem]
             refine ih6 (i + 1) _ (by omega) (by omega) ?_
             simp [go_sem, puAnn, puSt6, hp]
          ·have hge : i = l.length := by simp at h; omega
           subst hge
           rw [List.take_length, ← pround_eq] at hu
           subst hu
           have wz1 : IntKind.i64.wrap ((pround ((pbase l).length : Int) n l s).delta + 1) = (pround ((pbase l).length : Int) n l s).delta + 1 := wrap_i64 (by omega) (by omega)
           have wz2 : IntKind.i64.wrap (pmin n l + 1) = pmin n l + 1 := wrap_i64 (by omega) (by omega)
           simp +decide (maxSteps := 9^7) only [wz1, wz2, go_sem]
           refine ih (pmin n l + 1, pbump (pround ((pbase l).length : Int) n l s)) _ (by simp only [pbump]; omega) ⟨hnx.1, hnx.2.2, by rw [← hpu, hst]⟩ ?_
           simp [go_sem, puAnn, puSt2, pbump]
      ·have hge : ¬ s.h < l.length := by simpa using h
       rw [punL_end hge] at hpu
       have hby := all_by ok.by'
       have hsi := strI_of s.out
       rw [hpu] at hsi hby
       simp +decide (maxSteps := 9^7) only [hpu, hby, hsi, List.length_map, take_map_len, List.take_length, go_sem]
       exact Runs.ret_refl
end Go.Proofs.W

namespace Go.Proofs.W
open Go Go.AM
set_option maxRecDepth 10000
variable (hm : Tryz.prog.follows .mixedOrders = true)
theorem strI_size (l : List Int) : (strI l).size = l.length := by simp [strI, ByteArray.size]
theorem strI_app (l m : List Int) : strI l ++ strI m = strI (l ++ m) := by
 apply ByteArray.ext
 simp [strI]
theorem strI_nil : strI [] = ⟨#[]⟩ := rfl
theorem strI_45 : strI [45] = ⟨#[45]⟩ := rfl
def pdgS : ByteArray := ⟨#[97, 98, 99, 100, 101, 102, 103, 104, 105, 106, 107, 108, 109, 110, 111, 112, 113, 114, 115, 116, 117, 118, 119, 120, 121, 122, 48, 49, 50, 51, 52, 53, 54, 55, 56, 57]⟩
theorem pdgS_get {d : Int} (h0 : 0 ≤ d) (h1 : d < 36) : byteA (pdgS.data.toList.getD d.toNat 0) = u8A (pdg d) := by
 obtain ⟨n, rfl⟩ := Int.eq_ofNat_of_zero_le h0
 have h2 : n < 36 := by omega
 have key : ∀ n : Fin 36, ((pdgS.data.toList.getD n.1 0).toNat : Int) = pdg (n.1 : Int) := by decide
 have := key ⟨n, h2⟩
 simp only [Int.toNat_natCast, byteA, u8A] at this ⊢
 rw [this]
theorem digC_pdig (b : UInt8) : digC b = decide (48 ≤ (b.toNat : Int) ∧ (b.toNat : Int) ≤ 57) := by
 simp [digC, inB]
def adSt (d k : Int) : St := ⟨[.v (.int .i64 d), .any, .any, .any, .any, .any, .any, .v (.int .i64 k), .any, .any, .any, .any, .any, .any, .any, .any, .any, .any, .any, .any, .any, .any, .any, .any, .any, .any, .any, .any, .any, .any, .any], [], []⟩
include hm in
theorem adapted (delta many : Int) (first : Bool) (h1 : 0 ≤ delta) (h2 : delta ≤ 1152921504606846976) (h3 : 1 ≤ many) (h4 : many ≤ 1152921504606846976) :
  Holds Tryz.prog 155 [.v (.int .i64 delta), .v (.int .i64 many), .v (.bool first)] [] (.v (.int .i64 (padapt delta many first))) [] := by
 have p0 := pad0_in (first := first) h1 h3
 have a := tdiv_nn (c := 700) h1 (by omega)
 have b := tdiv_nn (c := 2) h1 (by omega)
 have a' := tdiv_nn (c := many) a.1 h3
 have b' := tdiv_nn (c := many) b.1 h3
 obtain ⟨R, hR⟩ : ∃ R, R = padapt delta many first := ⟨_, rfl⟩
 obtain ⟨D, hD⟩ : ∃ D, D = pad0 delta many first := ⟨_, rfl⟩
 rw [← hR]
 rw [padapt, ← hD] at hR
 rw [← hD] at p0
 refine holds_of (ann := biAnn) tabOk hm Tryz.func155 (by kernel_rfl) rfl ?_
 cases first
 all_goals
  have wq1 : IntKind.i64.wrap (delta.tdiv 700) = delta.tdiv 700 := wrap_i64 (by omega) (by omega)
  have wq2 : IntKind.i64.wrap (delta.tdiv 2) = delta.tdiv 2 := wrap_i64 (by omega) (by omega)
  have wq3 : IntKind.i64.wrap ((delta.tdiv 700).tdiv many) = (delta.tdiv 700).tdiv many := wrap_i64 (by omega) (by omega)
  have wq4 : IntKind.i64.wrap ((delta.tdiv 2).tdiv many) = (delta.tdiv 2).tdiv many := wrap_i64 (by omega) (by omega)
  have wq5 : IntKind.i64.wrap (delta.tdiv 700 + (delta.tdiv 700).tdiv many) = delta.tdiv 700 + (delta.tdiv 700).tdiv many := wrap_i64 (by omega) (by omega)
  have wq6 : IntKind.i64.wrap (delta.tdiv 2 + (delta.tdiv 2).tdiv many) = delta.tdiv 2 + (delta.tdiv 2).tdiv many := wrap_i64 (by omega) (by omega)
  have dm : decide (many ≠ 0) = true := by simp; omega
  simp +decide only [Tryz.f155, wq1, wq2, wq3, wq4, wq5, wq6, dm, go_sem]
  refine Runs.while (α := Int × Int) (fun p => adSt p.1 p.2) (fun p => p.1.toNat) (fun p => 0 ≤ p.1 ∧ p.1 ≤ 2305843009213693952 ∧ 0 ≤ p.2 ∧ p.2 + p.1 ≤ 2305843009213693952 ∧ padL p.1 p.2 = padL D 0) (D, 0) ⟨p0.1, by simp only; omega, by simp, by simp only; omega, rfl⟩ ?_ ?_
  ·simp [go_sem, biAnn, adSt, hD, pad0]
  ·rintro ⟨d, k⟩ ⟨i1, i2, i3, i4, i5⟩ ih
   simp only at i1 i2 i3 i4 i5 ih
   simp +decide only [adSt, go_sem]
   refine Runs.split (fun h => ?_) (fun h => ?_)
   ·have h : 455 < d := by simpa using h
    have c := tdiv_nn (c := 35) i1 (by omega)
    have c2 := tdiv_lt (d := d) (c := 35) (by omega) (by omega)
    have c3 : d.tdiv 35 = d / 35 := Int.tdiv_eq_ediv_of_nonneg i1
    have w1 : IntKind.i64.wrap (d.tdiv 35) = d.tdiv 35 := wrap_i64 (by omega) (by omega)
    have w2 : IntKind.i64.wrap (k + 36) = k + 36 := wrap_i64 (by omega) (by omega)
    simp +decide only [w1, w2, go_sem]
    refine ih (d.tdiv 35, k + 36) _ (by simpa using c2) ⟨c.1, by simp only; omega, by simp only; omega, by simp only; omega, by rw [← i5, padL_step h]⟩ ?_
    simp [go_sem, biAnn, adSt]
   ·have h : ¬ 455 < d := by simpa using h
    rw [padL_end h] at i5
    have e : R = k + (36 * d).tdiv (d + 38) := by rw [hR, ← i5]
    have c := tdiv_nn (d := 36 * d) (c := d + 38) (by omega) (by omega)
    have w1 : IntKind.i64.wrap (36 * d) = 36 * d := wrap_i64 (by omega) (by omega)
    have w2 : IntKind.i64.wrap (d + 38) = d + 38 := wrap_i64 (by omega) (by omega)
    have w3 : IntKind.i64.wrap ((36 * d).tdiv (d + 38)) = (36 * d).tdiv (d + 38) := wrap_i64 (by omega) (by omega)
    have w4 : IntKind.i64.wrap (k + (36 * d).tdiv (d + 38)) = k + (36 * d).tdiv (d + 38) := wrap_i64 (by omega) (by omega)
    have dz : decide (d + 38 ≠ 0) = true := by simp; omega
    simp +decide only [w1, w2, w3, w4, dz, go_sem]
    exact Runs.ret_eq (by rw [e])
include hm in
theorem digitOf (b : UInt8) : Holds Tryz.prog 153 [.v (.int .u8 b.toNat)] [] (.v (.int .i64 (pdig b.toNat))) [] := by
 refine holds_of (ann := []) tabOk hm Tryz.func153 (by kernel_rfl) rfl ?_
 have hdc := digC_pdig b
 have hd := isDigit hm b
 have h1 : (b.toNat : Int) < 256 := by have := b.toNat_lt; omega
 generalize (b.toNat : Int) = n at *
 generalize digC b = dc at *
 subst hdc
 simp +decide only [Tryz.f153, go_sem]
 by_cases a1 : 97 ≤ n
 ·by_cases a2 : n ≤ 122
  ·have e : pdig n = n - 97 := by unfold pdig; rw [if_pos ⟨a1, a2⟩]
   have w := u8_sub a1 h1 (by omega)
   have w2 : IntKind.i64.wrap (n - 97) = n - 97 := wrap_i64 (by omega) (by omega)
   simp +decide only [a1, a2, w, w2, e, go_sem]
   exact Runs.ret_v
  ·have e : pdig n = -1 := by unfold pdig; rw [if_neg (by omega), if_neg (by omega)]
   have a4 : ¬ (48 ≤ n ∧ n ≤ 57) := by omega
   simp +decide only [a1, a2, e, go_sem]
   refine Runs.call hd ?_
   simp +decide only [a4, go_sem]
   exact Runs.ret_v
 ·by_cases a3 : 48 ≤ n ∧ n ≤ 57
  ·have e : pdig n = n - 48 + 26 := by unfold pdig; rw [if_neg (by omega), if_pos a3]
   have w := u8_sub a3.1 h1 (by omega)
   have w2 : IntKind.i64.wrap (n - 48) = n - 48 := wrap_i64 (by omega) (by omega)
   have w3 : IntKind.i64.wrap (n - 48 + 26) = n - 48 + 26 := wrap_i64 (by omega) (by omega)
   simp +decide only [a1, e, go_sem]
   refine Runs.call hd ?_
   simp +decide only [a3, w, w2, w3, go_sem]
   exact Runs.ret_v
  ·have e : pdig n = -1 := by unfold pdig; rw [if_neg (by omega), if_neg a3]
   simp +decide only [a1, e, go_sem]
   refine Runs.call hd ?_
   simp +decide only [a3, go_sem]
   exact Runs.ret_v
include hm in
theorem isWord (l : List Int) (h : l.length ≤ 1073741824) : Holds Tryz.prog 157 [.sl .sh (l.map intA)] [] (.v (.bool (pwordB l))) [] := by
 refine holds_of (ann := []) tabOk hm Tryz.func157 (by kernel_rfl) rfl ?_
 have e2 : (l.all fun n => inB n 0 1114111) = (l.all fun c => decide (0 ≤ c ∧ c ≤ 1114111)) := by congr 1; funext c; simp [inB]
 have e1 : inB l.length 1 20 = decide (1 ≤ l.length ∧ l.length ≤ 20) := by
  by_cases h1 : 1 ≤ l.length <;> by_cases h2 : l.length ≤ 20 <;> simp [inB, h1, h2] <;> omega
 have e : pwordB l = (inB l.length 1 20 && l.all fun n => inB n 0 1114111) := by rw [e1, e2]; rfl
 rw [e]
 simp +decide only [Tryz.f157, go_sem]
 refine Runs.call (within hm l.length 1 20) ?_
 cases inB l.length 1 20
 ·simp +decide only [go_sem]
  exact Runs.ret_v
 ·simp +decide only [go_sem]
  refine Runs.call (allWithin hm l 0 1114111 (by omega)) ?_
  simp +decide only [go_sem]
  exact Runs.ret_eq (by simp)
def tdAnn : Ann := [(0, [1, 5, 6, 7])]
def tdSt (b : Int) (o : List Int) (q k : Int) : St := ⟨[.any, .v (.int .i64 b), .any, .any, .any, .ms (.l 0) 0 o.length o.length, .v (.int .i64 q), .v (.int .i64 k), .any, .any, .any, .any, .any, .any, .any, .any, .any, .any, .any, .any, .any, .any, .any, .any, .any, .any, .any, .any, .any, .any, .any, .any, .any, .any, .any, .any, .any, .any, .any, .any, .any, .any, .any], [(0, ⟨true, 1, false, o.map u8A⟩)], []⟩
set_option maxHeartbeats 1000000 in
include hm in
theorem ptoldH (d b : Int) (h0 : 0 ≤ d) (h1 : d ≤ 23000000) (h2 : 0 ≤ b) (h3 : b ≤ 4611686018427387904) : Holds Tryz.prog 196 [.v (.int .i64 d), .v (.int .i64 b)] [] (.v (.string (strI (ptold d 36 b)))) [] := by
 refine holds_of (ann := tdAnn) tabOk hm Tryz.func196 (by kernel_rfl) rfl ?_
 have hlen := ptold_len d 36 b h0
 have hby := ptold_by d 36 b h0
 have hdg : ∀ x : Int, 0 ≤ x → x < 36 → byteA (pdgS.data.toList.getD x.toNat 0) = u8A (pdg x) := fun x => pdgS_get
 simp only [pdgS, byteA, u8A] at hdg
 have hsz : (⟨#[97, 98, 99, 100, 101, 102, 103, 104, 105, 106, 107, 108, 109, 110, 111, 112, 113, 114, 115, 116, 117, 118, 119, 120, 121, 122, 48, 49, 50, 51, 52, 53, 54, 55, 56, 57]⟩ : ByteArray).size = 36 := rfl
 simp +decide only [Tryz.f196, go_sem]
 refine Runs.while (α := List Int × Int × Int) (fun p => tdSt b p.1 p.2.1 p.2.2) (fun p => p.2.1.toNat) (fun p => p.1 ++ ptold p.2.1 p.2.2 b = ptold d 36 b ∧ 0 ≤ p.2.1 ∧ p.2.1 ≤ d ∧ 36 ≤ p.2.2 ∧ p.2.2 + 36 * p.2.1 ≤ 36 + 36 * d) ([], d, 36) ⟨rfl, h0, by simp only; omega, by simp only; omega, by simp only; omega⟩ ?_ ?_
 ·simp [go_sem, tdAnn, tdSt]
 ·rintro ⟨o, q, k⟩ ⟨i1, i2, i3, i4, i5⟩ ih
  simp only at i1 i2 i3 i4 i5 ih
  have ht := pthr_in k b
  have hol : o.length + (ptold q k b).length = (ptold d 36 b).length := by rw [← List.length_append, i1]
  simp +decide only [tdSt, go_sem]
  refine Runs.call (threshold hm k b (by omega) (by omega) h2 h3) ?_
  simp +decide only [go_sem]
  refine Runs.split (fun g8 => ?_) (fun g8 => ?_)
  ·have g8 : q < pthr k b := by simpa using g8
   rw [ptold_end (by omega)] at i1 hol
   rw [List.length_cons, List.length_nil] at hol
   have hd := hdg q i2 (by omega)
   have dA : decide (o.length + 1 ≤ 1073741824) = true := by simp; omega
   have dB : decide (0 ≤ q ∧ q < (36 : Nat)) = true := by simp; omega
   have hall := all_by hby
   have hst := strI_of (ptold d 36 b)
   rw [← i1, List.map_append, List.map_cons, List.map_nil] at hall hst
   rw [← i1]
   simp only [u8A] at hall hst
   have hL : (o.map u8A ++ [A.v (Value.int IntKind.u8 (pdg q))]).length = o.length + 1 := by simp
   have hT : List.take (o.length + 1) (o.map u8A ++ [A.v (Value.int IntKind.u8 (pdg q))]) = o.map u8A ++ [A.v (Value.int IntKind.u8 (pdg q))] := List.take_of_length_le (by omega)
   simp +decide only [hsz, dA, dB, hd, List.length_map, hL, hT, hall, hst, go_sem]
   exact Runs.ret_v
  ·have g8 : pthr k b ≤ q := by simpa using g8
   have hdd := ptold_dig i2 g8
   have hdv := tdiv_nn (d := q - pthr k b) (c := 36 - pthr k b) (by omega) (by omega)
   rw [ptold_step g8] at i1 hol
   rw [List.length_cons] at hol
   have hd := hdg _ hdd.1 hdd.2
   have wq1 : IntKind.i64.wrap (q - pthr k b) = q - pthr k b := wrap_i64 (by omega) (by omega)
   have wq2 : IntKind.i64.wrap (36 - pthr k b) = 36 - pthr k b := wrap_i64 (by omega) (by omega)
   have wq3 : IntKind.i64.wrap (pthr k b + (q - pthr k b).tmod (36 - pthr k b)) = pthr k b + (q - pthr k b).tmod (36 - pthr k b) := wrap_i64 (by omega) (by omega)
   have wq4 : IntKind.i64.wrap ((q - pthr k b).tdiv (36 - pthr k b)) = (q - pthr k b).tdiv (36 - pthr k b) := wrap_i64 (by omega) (by omega)
   have wq5 : IntKind.i64.wrap (k + 36) = k + 36 := wrap_i64 (by omega) (by omega)
   have dz : decide (36 - pthr k b ≠ 0) = true := by simp; omega
   have dA : decide (o.length + 1 ≤ 1073741824) = true := by simp; omega
   have dB : decide (0 ≤ pthr k b + (q - pthr k b).tmod (36 - pthr k b) ∧ pthr k b + (q - pthr k b).tmod (36 - pthr k b) < (36 : Nat)) = true := by simp; omega
   simp +decide only [wq1, wq2, wq3, wq4, wq5, dz, hsz, dA, dB, hd, List.length_map, go_sem]
   refine ih (o ++ [pdg (pthr k b + (q - pthr k b).tmod (36 - pthr k b))], (q - pthr k b).tdiv (36 - pthr k b), k + 36) _ (by simp only; omega) ⟨by simpa using i1, hdv.1, by simp only; omega, by simp only; omega, by simp only; omega⟩ ?_
   simp [go_sem, tdAnn, tdSt, u8A]
end Go.Proofs.W

namespace Go.Proofs.W
open Go Go.AM
variable (hm : Tryz.prog.follows .mixedOrders = true)
def pjAnn : Ann := [(0, [0, 3, 18, 19, 20]), (2, [0, 6, 7, 8, 9, 10, 11]), (4, [0, 6, 7, 8, 9, 10, 11, 12, 45, 46, 47]), (6, [0, 6, 7, 8, 9, 10, 11, 67, 68, 69])]
def pjSt0 (l : List Int) (i : Nat) : St := ⟨[.sl .sh (l.map intA), .any, .any, .ms (.l 0) 0 (pbase (l.take i)).length (pbase (l.take i)).length, .any, .any, .any, .any, .any, .any, .any, .any, .any, .any, .any, .any, .any, .any, .sl .sh (l.map intA), .v (.int .i64 l.length), .v (.int .i64 i), .any, .any, .any, .any, .any, .any, .any, .any, .any, .any, .any, .any, .any, .any, .any, .any, .any, .any, .any, .any, .any, .any, .any, .any, .any, .any, .any, .any, .any, .any, .any, .any, .any, .any, .any, .any, .any, .any, .any, .any, .any, .any, .any, .any, .any, .any, .any, .any, .any, .any, .any, .any, .any, .any, .any, .any, .any, .any, .any, .any, .any, .any, .any, .any, .any, .any, .any, .any, .any, .any, .any, .any, .any, .any, .any, .any, .any, .any, .any, .any], [(0, ⟨true, 1, false, (pbase (l.take i)).map u8A⟩)], []⟩
def pjStJ (l : List Int) (o : List Int) : St := ⟨[.sl .sh (l.map intA), .any, .any, .any, .any, .any, .v (.string (strI o)), .v (.int .i64 (pbase l).length), .any, .any, .any, .any, .any, .any, .any, .any, .any, .any, .any, .any, .any, .any, .any, .any, .any, .any, .any, .any, .any, .any, .any, .any, .any, .any, .any, .any, .any, .any, .any, .any, .any, .any, .any, .any, .any, .any, .any, .any, .any, .any, .any, .any, .any, .any, .any, .any, .any, .any, .any, .any, .any, .any, .any, .any, .any, .any, .any, .any, .any, .any, .any, .any, .any, .any, .any, .any, .any, .any, .any, .any, .any, .any, .any, .any, .any, .any, .any, .any, .any, .any, .any, .any, .any, .any, .any, .any, .any, .any, .any, .any, .any], [], []⟩
def pjSt2 (l : List Int) (n : Int) (s : PS) : St := ⟨[.sl .sh (l.map intA), .any, .any, .any, .any, .any, .v (.string (strI s.out)), .v (.int .i64 (pbase l).length), .v (.int .i64 n), .v (.int .i64 s.delta), .v (.int .i64 s.bias), .v (.int .i64 s.h), .any, .any, .any, .any, .any, .any, .any, .any, .any, .any, .any, .any, .any, .any, .any, .any, .any, .any, .any, .any, .any, .any, .any, .any, .any, .any, .any, .any, .any, .any, .any, .any, .any, .any, .any, .any, .any, .any, .any, .any, .any, .any, .any, .any, .any, .any, .any, .any, .any, .any, .any, .any, .any, .any, .any, .any, .any, .any, .any, .any, .any, .any, .any, .any, .any, .any, .any, .any, .any, .any, .any, .any, .any, .any, .any, .any, .any, .any, .any, .any, .any, .any, .any, .any, .any, .any, .any, .any, .any], [], []⟩
def pjSt4 (l : List Int) (n : Int) (s : PS) (m : Int) (i : Nat) : St := ⟨[.sl .sh (l.map intA), .any, .any, .any, .any, .any, .v (.string (strI s.out)), .v (.int .i64 (pbase l).length), .v (.int .i64 n), .v (.int .i64 s.delta), .v (.int .i64 s.bias), .v (.int .i64 s.h), .v (.int .i64 m), .any, .any, .any, .any, .any, .any, .any, .any, .any, .any, .any, .any, .any, .any, .any, .any, .any, .any, .any, .any, .any, .any, .any, .any, .any, .any, .any, .any, .any, .any, .any, .any, .sl .sh (l.map intA), .v (.int .i64 l.length), .v (.int .i64 i), .any, .any, .any, .any, .any, .any, .any, .any, .any, .any, .any, .any, .any, .any, .any, .any, .any, .any, .any, .any, .any, .any, .any, .any, .any, .any, .any, .any, .any, .any, .any, .any, .any, .any, .any, .any, .any, .any, .any, .any, .any, .any, .any, .any, .any, .any, .any, .any, .any, .any, .any, .any, .any], [], []⟩
def pjSt6 (l : List Int) (n : Int) (s : PS) (i : Nat) : St := ⟨[.sl .sh (l.map intA), .any, .any, .any, .any, .any, .v (.string (strI s.out)), .v (.int .i64 (pbase l).length), .v (.int .i64 n), .v (.int .i64 s.delta), .v (.int .i64 s.bias), .v (.int .i64 s.h), .any, .any, .any, .any, .any, .any, .any, .any, .any, .any, .any, .any, .any, .any, .any, .any, .any, .any, .any, .any, .any, .any, .any, .any, .any, .any, .any, .any, .any, .any, .any, .any, .any, .any, .any, .any, .any, .any, .any, .any, .any, .any, .any, .any, .any, .any, .any, .any, .any, .any, .any, .any, .any, .any, .any, .sl .sh (l.map intA), .v (.int .i64 l.length), .v (.int .i64 i), .any, .any, .any, .any, .any, .any, .any, .any, .any, .any, .any, .any, .any, .any, .any, .any, .any, .any, .any, .any, .any, .any, .any, .any, .any, .any, .any, .any, .any, .any, .any], [], []⟩
set_option maxHeartbeats 4000000 in
set_option maxRecDepth 10000 in
include hm in
theorem puny (l : List Int) (hw : pwordB l = true) : Holds Tryz.prog 158 [.sl .sh (l.map intA)] [] (.v (.string (strI (pun l)))) [] := by
 obtain ⟨h1, h2, h3⟩ := pword_in hw
 refine holds_ref (ann := pjAnn) tabOk hm (byJ [(11, [0, 6, 7])] (byL [] [])) Tryz.func158 (by kernel_rfl) rfl ?_
 simp +decide (maxSteps := 9^7) only [Tryz.f158, go_sem]
 refine Runs.while (α := Nat) (pjSt0 l) (fun i => l.length - i) (fun i => i ≤ l.length) 0 (by omega) ?_ ?_
 ·simp [go_sem, pjAnn, pjSt0, pbase]
 ·intro i hi ih
  have hbl : (pbase (l.take i)).length ≤ 20 := by have := List.length_filter_le (fun c => decide (c < 128)) (l.take i); simp only [pbase]; rw [List.length_take] at this; omega
  simp +decide (maxSteps := 9^7) only [pjSt0, go_sem]
  refine Runs.split (fun h => ?_) (fun h => ?_)
  ·have hlt : i < l.length := by simpa using h
   have hg := intA_get hlt
   have hp := pbase_take hlt
   have hx := h2 _ (List.getElem_mem hlt)
   simp +decide (maxSteps := 9^7) (disch := first | omega | (simp only [ll]; omega)) only [hg, if_pos, go_sem]
   refine Runs.split (fun g => ?_) (fun g => ?_)
   ·have g : l[i] < 128 := by simpa using g
    rw [if_pos g] at hp
    have w8 : IntKind.u8.wrap l[i] = l[i] := wrap_u8 (by omega) (by omega)
    simp +decide (maxSteps := 9^7) (disch := first | omega | (simp only [ll]; omega)) only [hg, w8, List.length_map, if_pos, go_sem]
    refine ih (i + 1) _ (by omega) (by omega) ?_
    simp [go_sem, pjAnn, pjSt0, hp, u8A]
   ·have g : ¬ l[i] < 128 := by simpa using g
    rw [if_neg g] at hp
    simp +decide (maxSteps := 9^7) (disch := first | omega | (simp only [ll]; omega)) only [if_pos, go_sem]
    refine ih (i + 1) _ (by omega) (by omega) ?_
    simp [go_sem, pjAnn, pjSt0, hp]
  ·have hge : i = l.length := by simp at h; omega
   subst hge
   rw [List.take_length] at hbl ⊢
   have hso := pstart_ok hw
   have hou : (pstart l).out = pbase l ++ (if 0 < (pbase l).length then [45] else []) := rfl
   have hby := all_by (pbase_by h2)
   have hsi := strI_of (pbase l)
   have hBt : List.take (pbase l).length ((pbase l).map u8A) = (pbase l).map u8A := take_map_len
   have hsz := strI_size (pbase l)
   have h45 := strI_app (pbase l) [45]
   rw [strI_45] at h45
   have hs45 : (⟨#[45]⟩ : ByteArray).size = 1 := rfl
   have dA : decide ((pbase l).length + 1 ≤ 1073741824) = true := by simp; omega
   simp +decide (maxSteps := 9^7) only [List.length_map, hBt, hby, hsi, go_sem]
   refine Runs.meet (α := Unit) (keep := [0, 6, 7]) (kj := ?kj11) (fun _ => pjStJ l (pstart l).out) ?tail11 ?w1 ?w2
   case w1 =>
    intro J e
    have e : 0 < (pbase l).length := by simpa using e
    rw [if_pos e] at hou
    simp +decide (maxSteps := 9^7) only [hsz, hs45, dA, h45, go_sem]
    refine J () _ ?_
    simp [go_sem, pjStJ, hou]
   case w2 =>
    intro J e
    have e : ¬ 0 < (pbase l).length := by simpa using e
    rw [if_neg e] at hou
    simp +decide (maxSteps := 9^7) only [go_sem]
    refine J () _ ?_
    simp [go_sem, pjStJ, hou]
   case tail11 =>
    intro _
    simp +decide (maxSteps := 9^7) only [pjStJ, go_sem]
    refine Runs.while (α := Int × PS) (fun p => pjSt2 l p.1 p.2) (fun p => (l.length - p.2.h).toNat) (fun p => PRok l p.1 p.2 ∧ p.2.h ≤ l.length ∧ punL (pbase l).length l p.1 p.2 = pun l) (128, pstart l) ⟨hso, by simp only [pstart]; have := List.length_filter_le (fun c => decide (c < 128)) l; simp only [pbase]; omega, rfl⟩ ?_ ?_
    ·simp [go_sem, pjAnn, pjSt2, pstart]
    ·rintro ⟨n, s⟩ ⟨ok, hle, hpu⟩ ih
     simp only at ok hle hpu ih
     simp +decide (maxSteps := 9^7) only [pjSt2, go_sem]
     refine Runs.split (fun h => ?_) (fun h => ?_)
     ·have hlt : s.h < l.length := by simpa using h
      have hnx := pnext_ok (basic := ((pbase l).length : Int)) ok hw hlt
      have hst := punL_step (basic := ((pbase l).length : Int)) h3 ok.h hlt
      have hmb := pmin_bound n l ok.n1
      have hpd := phead_in ok hlt h1
      have hn0 := ok.n0
      have hd1 := ok.ok.d1
      have hd2 := ok.ok.d2
      have hh0 := ok.ok.h0
      have hh1 := ok.ok.h1
      simp +decide (maxSteps := 9^7) only [go_sem]
      refine Runs.while (α := Nat) (fun i => pjSt4 l n s (pmin n (l.take i)) i) (fun i => l.length - i) (fun i => i ≤ l.length) 0 (by omega) ?_ ?_
      ·simp [go_sem, pjAnn, pjSt4, pmin]
      ·intro i hi ih4
       simp +decide (maxSteps := 9^7) only [pjSt4, go_sem]
       refine Runs.split (fun h => ?_) (fun h => ?_)
       ·have hlt4 : i < l.length := by simpa using h
        have hg := intA_get hlt4
        have hp := pmin_take (n := n) hlt4
        simp +decide (maxSteps := 9^7) (disch := first | omega | (simp only [ll]; omega)) only [hg, if_pos, go_sem]
        refine Runs.split (fun g => ?_) (fun g => ?_)
        ·have g : n ≤ l[i] := by simpa using g
         have e : (if l[i] < pmin n (l.take i) then l[i] else pmin n (l.take i)) = pmin n (l.take (i + 1)) := by rw [hp, pmS, if_pos g]
         simp +decide (maxSteps := 9^7) (disch := first | omega | (simp only [ll]; omega)) only [hg, e, if_pos, go_sem]
         refine ih4 (i + 1) _ (by omega) (by omega) ?_
         simp [go_sem, pjAnn, pjSt4]
        ·have g : ¬ n ≤ l[i] := by simpa using g
         have e : pmin n (l.take (i + 1)) = pmin n (l.take i) := by rw [hp, pmS, if_neg g]
         simp +decide (maxSteps := 9^7) (disch := first | omega | (simp only [ll]; omega)) only [if_pos, go_sem]
         refine ih4 (i + 1) _ (by omega) (by omega) ?_
         simp [go_sem, pjAnn, pjSt4, e]
       ·have hge : i = l.length := by simp at h; omega
        subst hge
        rw [List.take_length]
        have wa : IntKind.i64.wrap (pmin n l - n) = pmin n l - n := wrap_i64 (by omega) (by omega)
        have wb : IntKind.i64.wrap (s.h + 1) = s.h + 1 := wrap_i64 (by omega) (by omega)
        have wc : IntKind.i64.wrap ((pmin n l - n) * (s.h + 1)) = (pmin n l - n) * (s.h + 1) := wrap_i64 (by omega) (by omega)
        have wd : IntKind.i64.wrap (s.delta + (pmin n l - n) * (s.h + 1)) = s.delta + (pmin n l - n) * (s.h + 1) := wrap_i64 (by omega) (by omega)
        simp +decide (maxSteps := 9^7) only [wa, wb, wc, wd, go_sem]
        refine Runs.while (α := Nat) (fun i => pjSt6 l (pmin n l) (pinF (pbase l).length (pmin n l) (l.take i) (phead n l s)) i) (fun i => l.length - i) (fun i => i ≤ l.length) 0 (by omega) ?_ ?_
        ·simp [go_sem, pjAnn, pjSt6, pinF, phead]
        ·intro i hi6 ih6
         have mid := pmid_ok (basic := ((pbase l).length : Int)) ok hw hlt i hi6
         obtain ⟨u, hu⟩ : ∃ u, u = pinF (pbase l).length (pmin n l) (l.take i) (phead n l s) := ⟨_, rfl⟩
         rw [← hu] at mid ⊢
         obtain ⟨mk, mb⟩ := mid
         obtain ⟨m1, m2, m3, m4, m5, m6, m7⟩ := mk
         simp +decide (maxSteps := 9^7) only [pjSt6, go_sem]
         refine Runs.split (fun h => ?_) (fun h => ?_)
         ·have hlt6 : i < l.length := by simpa using h
          have hg := intA_get hlt6
          have hp := pinF_take (basic := ((pbase l).length : Int)) (n := pmin n l) (s := phead n l s) hlt6
          rw [← hu] at hp
          have hok := (pmid_ok (basic := ((pbase l).length : Int)) ok hw hlt (i + 1) hlt6).1
          rw [hp] at hok
          simp +decide (maxSteps := 9^7) (disch := first | omega | (simp only [ll]; omega)) only [hg, if_pos, go_sem]
          refine Runs.split (fun g => ?_) (fun g => ?_)
          ·have g : l[i] < pmin n l := by simpa using g
           have g2 : ¬ l[i] = pmin n l := by omega
           rw [pinS, if_neg g2, if_pos g] at hp
           simp +decide (maxSteps := 9^7) (disch := first | omega | (simp only [ll]; omega)) only [hg, g2, if_pos, go_sem]
           refine ih6 (i + 1) _ (by omega) (by omega) ?_
           simp [go_sem, pjAnn, pjSt6, hp]
          ·have g : ¬ l[i] < pmin n l := by simpa using g
           by_cases g2 : l[i] = pmin n l
           ·have hq : (pinS ((pbase l).length : Int) (pmin n l) u l[i]) = ⟨u.out ++ ptold u.delta 36 u.bias, 0, padapt u.delta (u.h + 1) (decide (u.h = ((pbase l).length : Int))), u.h + 1⟩ := by rw [pinS, if_pos g2]
            rw [hq] at hp hok
            have ho7 := hok.o
            have hh7 := hok.h1
            simp only [List.length_append] at ho7 hh7
            have wb2 : IntKind.i64.wrap (u.h + 1) = u.h + 1 := wrap_i64 (by omega) (by omega)
            have eb : (u.h == ((pbase l).length : Int)) = decide (u.h = ((pbase l).length : Int)) := int_beq
            have z1 := strI_size u.out
            have z2 := strI_size (ptold u.delta 36 u.bias)
            have za := strI_app u.out (ptold u.delta 36 u.bias)
            have dA2 : decide (u.out.length + (ptold u.delta 36 u.bias).length ≤ 1073741824) = true := by simp; omega
            simp +decide (maxSteps := 9^7) (disch := first | omega | (simp only [ll]; omega)) only [hg, g2, if_pos, go_sem]
            refine Runs.call (ptoldH hm u.delta u.bias (by omega) (by omega) (by omega) (by omega)) ?_
            simp +decide (maxSteps := 9^7) only [z1, z2, za, dA2, wb2, go_sem]
            refine Runs.call (adapted hm u.delta (u.h + 1) _ (by omega) (by omega) (by omega) (by omega)) ?_
            simp +decide (maxSteps := 9^7) (disch := first | omega | (simp only [ll]; omega)) only [eb, if_pos, go_sem]
            refine ih6 (i + 1) _ (by omega) (by omega) ?_
            simp [go_sem, pjAnn, pjSt6, hp, eb]
           ·rw [pinS, if_neg g2, if_neg g] at hp
            simp +decide (maxSteps := 9^7) (disch := first | omega | (simp only [ll]; omega)) only [hg, g2, if_pos, go_sem]
            refine ih6 (i + 1) _ (by omega) (by omega) ?_
            simp [go_sem, pjAnn, pjSt6, hp]
         ·have hge : i = l.length := by simp at h; omega
          subst hge
          rw [List.take_length, ← pround_eq] at hu
          subst hu
          have wz1 : IntKind.i64.wrap ((pround ((pbase l).length : Int) n l s).delta + 1) = (pround ((pbase l).length : Int) n l s).delta + 1 := wrap_i64 (by omega) (by omega)
          have wz2 : IntKind.i64.wrap (pmin n l + 1) = pmin n l + 1 := wrap_i64 (by omega) (by omega)
          simp +decide (maxSteps := 9^7) only [wz1, wz2, go_sem]
          refine ih (pmin n l + 1, pbump (pround ((pbase l).length : Int) n l s)) _ (by simp only [pbump]; omega) ⟨hnx.1, hnx.2.2, by rw [← hpu, hst]⟩ ?_
          simp [go_sem, pjAnn, pjSt2, pbump]
     ·have hge : ¬ s.h < l.length := by simpa using h
      rw [punL_end hge] at hpu
      simp +decide (maxSteps := 9^7) only [hpu, go_sem]
      exact Runs.ret_v
end Go.Proofs.W

namespace Go.Proofs.W
open Go Go.AM
variable (hm : Tryz.prog.follows .mixedOrders = true)
def bz (s : ByteArray) : List Int := s.data.toList.map fun b => (b.toNat : Int)
theorem bz_length (s : ByteArray) : (bz s).length = s.size := by rw [bz, List.length_map, Array.length_toList]; rfl
theorem bz_get {s : ByteArray} {i : Nat} (h : i < (bz s).length) : ((s.data.toList.getD i 0).toNat : Int) = (bz s)[i] := by
 have h2 : i < s.data.toList.length := by simpa [bz] using h
 have e : s.data.toList.getD i 0 = s.data.toList[i] := by simp only [List.getD, List.getElem?_eq_getElem h2, Option.getD_some]
 rw [e]
 simp only [bz, List.getElem_map]
theorem bz_in {s : ByteArray} : by8 (bz s) := fun x hx => by
 simp only [bz, List.mem_map] at hx
 obtain ⟨b, _, rfl⟩ := hx
 have := b.toNat_lt
 omega
theorem bz_eq {a : List Int} (ha : by8 a) (s : ByteArray) : ((strI a).toList == s.toList) = decide (a = bz s) := by
 rw [Lib.toList_data, Lib.toList_data]
 have key : (strI a).data.toList = s.data.toList ↔ a = bz s := by
  constructor
  ·intro h
   rw [bz, ← h]
   simp only [strI, List.map_map]
   refine (List.ext_getElem (by simp) fun i h1 h2 => ?_).symm
   have := ha a[i] (List.getElem_mem h2)
   simp only [List.getElem_map, Function.comp]
   rw [UInt8.toNat_ofNat_of_lt' (by show (a[i].toNat) < 256; omega)]
   omega
  ·intro h
   rw [h]
   simp only [strI, bz, List.map_map]
   refine List.ext_getElem (by simp) fun i h1 h2 => ?_
   simp
 by_cases h : a = bz s
 ·rw [decide_eq_true h, beq_iff_eq]; exact key.2 h
 ·rw [decide_eq_false h, beq_eq_false_iff_ne]; exact fun hh => h (key.1 hh)
def plF (p : Int × Int) (c : Int) : Int × Int := (p.1 + 1, if c = 45 then p.1 else p.2)
theorem plast_eq (l : List Int) : plast l = (l.foldl plF (0, -1)).2 := rfl
theorem plF_fst : ∀ (l : List Int) (p : Int × Int), (l.foldl plF p).1 = p.1 + l.length
 | [], p => by simp
 | c :: r, p => by rw [List.foldl_cons, plF_fst r]; simp only [plF, List.length_cons]; omega
theorem plast_take {l : List Int} {i : Nat} (h : i < l.length) : plast (l.take (i + 1)) = if l[i] = 45 then (i : Int) else plast (l.take i) := by
 have h1 := plF_fst (l.take i) (0, -1)
 rw [plast_eq, plast_eq, List.take_succ_eq_append_getElem h, List.foldl_append]
 simp only [List.foldl_cons, List.foldl_nil, plF]
 rw [h1]
 simp only [List.length_take, Nat.min_eq_left (Nat.le_of_lt h)]
 congr 1
 omega
theorem plast_in (l : List Int) : ∀ i, i ≤ l.length → -1 ≤ plast (l.take i) ∧ plast (l.take i) < i ∨ (i = 0 ∧ plast (l.take i) = -1)
 | 0, _ => by right; simp [plast_eq]
 | i + 1, h => by
  left
  have := plast_in l i (by omega)
  rw [plast_take (by omega)]
  split <;> omega
theorem plast_le (l : List Int) : -1 ≤ plast l ∧ plast l ≤ l.length - 1 ∨ plast l = -1 := by
 have := plast_in l l.length (Nat.le_refl _)
 rw [List.take_length] at this
 omega
theorem pfin_some {told w : List Int} : pfin told (some w) = if pwordB w = true ∧ pun w = told then some w else none := rfl
theorem pun_by {w : List Int} (h : pwordB w = true) : by8 (pun w) := by
 have h3 := (pword_in h).2.2
 have key : ∀ (m : Nat) (n : Int) (s : PS), m = (w.length - s.h).toNat → PRok w n s → by8 (punL (pbase w).length w n s) := by
  intro m
  induction m using Nat.strongRecOn with
  | _ m ih =>
   intro n s hm ok
   by_cases hlt : s.h < w.length
   ·rw [punL_step h3 ok.h hlt]
    have hn := pnext_ok (basic := ((pbase w).length : Int)) ok h hlt
    exact ih _ (by simp only [pbump]; omega) _ (pbump (pround ((pbase w).length : Int) n w s)) rfl hn.1
   ·rw [punL_end hlt]; exact ok.by'
 exact key _ 128 (pstart w) rfl (pstart_ok h)
theorem pins_map (l : List Int) (i : Nat) (n : Int) : (pins l i n).map intA = (l.map intA).take i ++ intA n :: (l.map intA).drop i := by
 simp [pins, List.map_take, List.map_drop]
theorem drop_cons {l : List Int} {i : Nat} (h : i < l.length) : l.drop i = l[i] :: l.drop (i + 1) := List.drop_eq_getElem_cons h
structure PDok (s : PD) : Prop where
 n0 : 0 ≤ s.n
 n1 : s.n ≤ 1114111
 i0 : 0 ≤ s.i
 i1 : s.i ≤ 100
 b0 : 0 ≤ s.bias
 b1 : s.bias ≤ 100000000000000
 w : s.word.length ≤ 60
theorem pstep_in {m j : Int} (hm : 1 ≤ m) (hj : 0 ≤ j) : 0 ≤ j.tmod m ∧ j.tmod m < m ∧ 0 ≤ j.tdiv m ∧ j.tdiv m ≤ j := by
 have h1 := tdiv_nn hj hm
 rw [Int.tmod_eq_emod_of_nonneg hj]
 exact ⟨Int.emod_nonneg _ (by omega), Int.emod_lt_of_pos _ (by omega), h1.1, h1.2⟩
def rdA (o : Option (List Int)) : A := .tup [.sl (.ow 1) ((o.getD []).map intA), .v (.bool o.isSome)]
def rpAnn : Ann := [(0, [0, 4, 5, 6, 7]), (2, [0, 4, 5, 6, 8]), (4, [0, 4, 5, 9, 10, 11, 12, 13]), (6, [0, 4, 5, 9, 10, 11, 12, 13, 14, 15, 16])]
def rpSt0 (s : ByteArray) (i : Nat) : St := ⟨[.v (.string s), .any, .any, .any, .ms (.l 0) 0 0 0, .ms (.l 1) 0 0 0, .v (.int .i64 (plast ((bz s).take i))), .v (.int .i64 i), .any, .any, .any, .any, .any, .any, .any, .any, .any, .any, .any, .any, .any, .any, .any, .any, .any, .any, .any, .any, .any, .any, .any, .any, .any, .any, .any, .any, .any, .any, .any, .any, .any, .any, .any, .any, .any, .any, .any, .any, .any, .any, .any, .any, .any, .any, .any, .any, .any, .any, .any, .any, .any, .any, .any, .any, .any, .any, .any, .any, .any, .any, .any, .any, .any, .any, .any, .any, .any, .any, .any, .any, .any, .any, .any, .any, .any, .any, .any, .any, .any, .any, .any, .any, .any, .any, .any, .any, .any, .any, .any, .any, .any, .any, .any, .any, .any, .any, .any, .any, .any, .any, .any, .any, .any, .any, .any, .any, .any, .any, .any, .any, .any, .any, .any, .any, .any, .any, .any, .any, .any, .any, .any, .any, .any, .any, .any, .any, .any, .any, .any, .any, .any, .any, .any, .any, .any, .any, .any, .any, .any, .any, .any, .any, .any, .any, .any, .any], [(0, ⟨true, 1, false, []⟩), (1, ⟨true, 1, false, []⟩)], []⟩
def rpSt2 (s : ByteArray) (i : Nat) : St := ⟨[.v (.string s), .any, .any, .any, .ms (.l 0) 0 0 0, .ms (.l 1) 0 i i, .v (.int .i64 (plast (bz s))), .any, .v (.int .i64 i), .any, .any, .any, .any, .any, .any, .any, .any, .any, .any, .any, .any, .any, .any, .any, .any, .any, .any, .any, .any, .any, .any, .any, .any, .any, .any, .any, .any, .any, .any, .any, .any, .any, .any, .any, .any, .any, .any, .any, .any, .any, .any, .any, .any, .any, .any, .any, .any, .any, .any, .any, .any, .any, .any, .any, .any, .any, .any, .any, .any, .any, .any, .any, .any, .any, .any, .any, .any, .any, .any, .any, .any, .any, .any, .any, .any, .any, .any, .any, .any, .any, .any, .any, .any, .any, .any, .any, .any, .any, .any, .any, .any, .any, .any, .any, .any, .any, .any, .any, .any, .any, .any, .any, .any, .any, .any, .any, .any, .any, .any, .any, .any, .any, .any, .any, .any, .any, .any, .any, .any, .any, .any, .any, .any, .any, .any, .any, .any, .any, .any, .any, .any, .any, .any, .any, .any, .any, .any, .any, .any, .any, .any, .any, .any, .any, .any, .any], [(0, ⟨true, 1, false, []⟩), (1, ⟨true, 1, false, ((bz s).take i).map intA⟩)], []⟩
def rpSt4 (s : ByteArray) (b : Nat) (p : PD) (at' : Nat) : St := ⟨[.v (.string s), .any, .any, .any, .ms (.l 0) 0 0 0, .ms (.l 1) 0 p.word.length p.word.length, .any, .any, .any, .v (.int .i64 b), .v (.int .i64 p.n), .v (.int .i64 p.i), .v (.int .i64 p.bias), .v (.int .i64 at'), .any, .any, .any, .any, .any, .any, .any, .any, .any, .any, .any, .any, .any, .any, .any, .any, .any, .any, .any, .any, .any, .any, .any, .any, .any, .any, .any, .any, .any, .any, .any, .any, .any, .any, .any, .any, .any, .any, .any, .any, .any, .any, .any, .any, .any, .any, .any, .any, .any, .any, .any, .any, .any, .any, .any, .any, .any, .any, .any, .any, .any, .any, .any, .any, .any, .any, .any, .any, .any, .any, .any, .any, .any, .any, .any, .any, .any, .any, .any, .any, .any, .any, .any, .any, .any, .any, .any, .any, .any, .any, .any, .any, .any, .any, .any, .any, .any, .any, .any, .any, .any, .any, .any, .any, .any, .any, .any, .any, .any, .any, .any, .any, .any, .any, .any, .any, .any, .any, .any, .any, .any, .any, .any, .any, .any, .any, .any, .any, .any, .any, .any, .any, .any, .any, .any, .any, .any, .any, .any, .any, .any, .any], [(0, ⟨true, 1, false, []⟩), (1, ⟨true, 1, false, p.word.map intA⟩)], []⟩
def rpSt6 (s : ByteArray) (b : Nat) (p : PD) (at' : Nat) (i w k : Int) : St := ⟨[.v (.string s), .any, .any, .any, .ms (.l 0) 0 0 0, .ms (.l 1) 0 p.word.length p.word.length, .any, .any, .any, .v (.int .i64 b), .v (.int .i64 p.n), .v (.int .i64 i), .v (.int .i64 p.bias), .v (.int .i64 at'), .v (.int .i64 p.i), .v (.int .i64 w), .v (.int .i64 k), .any, .any, .any, .any, .any, .any, .any, .any, .any, .any, .any, .any, .any, .any, .any, .any, .any, .any, .any, .any, .any, .any, .any, .any, .any, .any, .any, .any, .any, .any, .any, .any, .any, .any, .any, .any, .any, .any, .any, .any, .any, .any, .any, .any, .any, .any, .any, .any, .any, .any, .any, .any, .any, .any, .any, .any, .any, .any, .any, .any, .any, .any, .any, .any, .any, .any, .any, .any, .any, .any, .any, .any, .any, .any, .any, .any, .any, .any, .any, .any, .any, .any, .any, .any, .any, .any, .any, .any, .any, .any, .any, .any, .any, .any, .any, .any, .any, .any, .any, .any, .any, .any, .any, .any, .any, .any, .any, .any, .any, .any, .any, .any, .any, .any, .any, .any, .any, .any, .any, .any, .any, .any, .any, .any, .any, .any, .any, .any, .any, .any, .any, .any, .any, .any, .any, .any, .any, .any, .any], [(0, ⟨true, 1, false, []⟩), (1, ⟨true, 1, false, p.word.map intA⟩)], []⟩
set_option maxHeartbeats 4000000 in
set_option maxRecDepth 10000 in
include hm in
theorem specReadPuny (s : ByteArray) (h : s.size ≤ 1073741824) : Holds Tryz.prog 95 [.v (.string s)] [] (rdA (preadS (bz s))) [] := by
 refine holds_ref (ann := rpAnn) tabOk hm (byL [] []) Tryz.func95 (by kernel_rfl) rfl ?_
 have hsz := bz_length s
 obtain ⟨l, hl⟩ : ∃ l, l = bz s := ⟨_, rfl⟩
 obtain ⟨R, hR⟩ : ∃ R, R = preadS (bz s) := ⟨_, rfl⟩
 rw [← hR]
 simp +decide (maxSteps := 9^7) only [Tryz.f95, go_sem]
 refine Runs.split (fun g => ?_) (fun g => ?_)
 ·have g : 60 < s.size := by simp at g; omega
  rw [preadS, hsz, if_pos g] at hR
  subst hR
  simp +decide (maxSteps := 9^7) only [go_sem]
  exact Runs.ret_refl
 ·have g : ¬ 60 < s.size := by simp at g; omega
  rw [preadS, hsz, if_neg g] at hR
  simp +decide (maxSteps := 9^7) only [go_sem]
  refine Runs.while (α := Nat) (rpSt0 s) (fun i => s.size - i) (fun i => i ≤ s.size) 0 (by omega) ?_ ?_
  ·simp [go_sem, rpAnn, rpSt0, plast_eq]
  ·intro i hi ih
   simp +decide (maxSteps := 9^7) only [rpSt0, go_sem]
   refine Runs.split (fun h => ?_) (fun h => ?_)
   ·have hlt : i < s.size := by simpa using h
    have hg := bz_get (s := s) (i := i) (by omega)
    have hp := plast_take (l := bz s) (i := i) (by omega)
    have d1 : decide (0 ≤ (i : Int) ∧ (i : Int) < s.size) = true := by simp; omega
    simp +decide (maxSteps := 9^7) (disch := first | omega | (simp only [ll]; omega)) only [d1, Int.toNat_natCast, hg, if_pos, go_sem]
    refine Runs.split (fun e => ?_) (fun e => ?_)
    ·have e : (bz s)[i]'(by omega) = 45 := by simpa using e
     rw [if_pos e] at hp
     simp +decide (maxSteps := 9^7) (disch := first | omega | (simp only [ll]; omega)) only [if_pos, go_sem]
     refine ih (i + 1) _ (by omega) (by omega) ?_
     simp [go_sem, rpAnn, rpSt0, hp]
    ·have e : ¬ (bz s)[i]'(by omega) = 45 := by simpa using e
     rw [if_neg e] at hp
     simp +decide (maxSteps := 9^7) (disch := first | omega | (simp only [ll]; omega)) only [if_pos, go_sem]
     refine ih (i + 1) _ (by omega) (by omega) ?_
     simp [go_sem, rpAnn, rpSt0, hp]
   ·have hge : i = s.size := by simp at h; omega
    subst hge
    have hpl := plast_le (bz s)
    rw [show (bz s).take s.size = bz s by rw [← hsz, List.take_length]]
    simp +decide (maxSteps := 9^7) only [go_sem]
    refine Runs.while (α := Nat) (rpSt2 s) (fun i => s.size - i) (fun i => i ≤ (plast (bz s)).toNat) 0 (by omega) ?_ ?_
    ·simp [go_sem, rpAnn, rpSt2]
    ·intro i hi2 ih2
     simp +decide (maxSteps := 9^7) only [rpSt2, go_sem]
     refine Runs.split (fun h => ?_) (fun h => ?_)
     ·have hlt : (i : Int) < plast (bz s) := by simpa using h
      have hlt2 : i < s.size := by omega
      have hg := bz_get (s := s) (i := i) (by omega)
      have d1 : decide (0 ≤ (i : Int) ∧ (i : Int) < s.size) = true := by simp; omega
      have hb := bz_in (s := s) ((bz s)[i]'(by omega)) (List.getElem_mem _)
      have w1 : IntKind.i64.wrap ((bz s)[i]'(by omega)) = (bz s)[i]'(by omega) := wrap_i64 (by omega) (by omega)
      have ht : ((bz s).take (i + 1)).map intA = ((bz s).take i).map intA ++ [.v (.int .i64 ((bz s)[i]'(by omega)))] := by rw [List.take_succ_eq_append_getElem (by omega), List.map_append]; rfl
      have hL : (((bz s).take i).map intA).length = i := by simp; omega
      simp +decide (maxSteps := 9^7) (disch := first | omega | (simp only [ll]; omega)) only [d1, Int.toNat_natCast, hg, w1, hL, if_pos, go_sem]
      refine ih2 (i + 1) _ (by omega) (by omega) ?_
      simp [go_sem, rpAnn, rpSt2, ht, -List.take_append_getElem]
     ·have hge : i = (plast (bz s)).toNat := by simp at h; omega
      subst hge
      obtain ⟨B, hB⟩ : ∃ B, B = ((plast (bz s)).toNat : Nat) := ⟨_, rfl⟩
      have hwl : ((bz s).take B).length = B := by rw [List.length_take]; omega
      have hat : (plast (bz s) + 1).toNat ≤ s.size := by omega
      have hat2 : ((plast (bz s) + 1).toNat : Int) = plast (bz s) + 1 := by omega
      rw [← hB] at hR ⊢
      have wl : IntKind.i64.wrap (plast (bz s) + 1) = plast (bz s) + 1 := wrap_i64 (by omega) (by omega)
      simp +decide (maxSteps := 9^7) only [wl, hwl, go_sem]
      refine Runs.while (α := Nat × PD) (fun p => rpSt4 s B p.2 p.1) (fun p => s.size - p.1) (fun p => p.1 ≤ s.size ∧ PDok p.2 ∧ pfin (bz s) (poutS B ((bz s).drop p.1) p.2) = R) ((plast (bz s) + 1).toNat, ⟨(bz s).take B, 128, 0, 72⟩) ⟨hat, ⟨by simp, by simp, by simp, by simp, by simp, by simp, by simp only [hwl]; omega⟩, by rw [hR]⟩ ?_ ?_
      ·simp [go_sem, rpAnn, rpSt4, hwl, hat2]
      ·rintro ⟨at', p⟩ ⟨a1, ok, hf⟩ ih4
       simp only at a1 ok hf ih4
       obtain ⟨p1, p2, p3, p4, p5, p6, p7⟩ := ok
       simp +decide (maxSteps := 9^7) only [rpSt4, go_sem]
       refine Runs.split (fun h => ?_) (fun h => ?_)
       ·have hlt : at' < s.size := by simpa using h
        have hne : (bz s).drop at' ≠ [] := by intro e; have := congrArg List.length e; rw [List.length_drop, hsz] at this; simp at this; omega
        rw [poutS_step hne] at hf
        simp +decide (maxSteps := 9^7) only [go_sem]
        refine Runs.while (α := Nat × Int × Int × Int) (fun q => rpSt6 s B p q.1 q.2.1 q.2.2.1 q.2.2.2) (fun q => s.size - q.1) (fun q => at' ≤ q.1 ∧ q.1 ≤ s.size ∧ pinn p.bias ((bz s).drop q.1) q.2.1 q.2.2.1 q.2.2.2 = pinn p.bias ((bz s).drop at') p.i 1 36 ∧ p.i ≤ q.2.1 ∧ q.2.1 ≤ 39582418599936 ∧ 0 ≤ q.2.2.1 ∧ q.2.2.1 ≤ 39582418599936 ∧ q.2.2.2 = 36 + 36 * ((q.1 : Int) - at')) (at', p.i, 1, 36) ⟨Nat.le_refl _, a1, rfl, by simp, by simp only; omega, by simp, by simp, by simp⟩ ?_ ?_
        ·simp [go_sem, rpAnn, rpSt6]
        ·rintro ⟨t, i, w, k⟩ ⟨t1, t2, t3, t4, t5, t6, t7, t8⟩ ih6
         simp only at t1 t2 t3 t4 t5 t6 t7 t8 ih6
         simp +decide (maxSteps := 9^7) only [rpSt6, go_sem]
         refine Runs.split (fun h => ?_) (fun h => ?_)
         ·have e : t = s.size := by
           have : (t : Int) = s.size := by simpa [int_beq] using h
           omega
          subst e
          rw [show (bz s).drop s.size = [] by rw [← hsz, List.drop_length], pinn] at t3
          rw [← t3] at hf
          subst hf
          simp +decide (maxSteps := 9^7) only [go_sem]
          exact Runs.ret_refl
         ·have e : t < s.size := by
           have : ¬ (t : Int) = s.size := by simpa [int_beq] using h
           omega
          have hg := bz_get (s := s) (i := t) (by omega)
          have hb := bz_in (s := s) ((bz s)[t]'(by omega)) (List.getElem_mem _)
          have hdc := drop_cons (l := bz s) (i := t) (by omega)
          obtain ⟨x, hx⟩ : ∃ x, x = (bz s)[t]'(by omega) := ⟨_, rfl⟩
          rw [← hx] at hg hb hdc
          rw [hdc, pinn] at t3
          have d1 : decide (0 ≤ (t : Int) ∧ (t : Int) < s.size) = true := by simp; omega
          have hdg := pdig_in x
          have wt : IntKind.i64.wrap ((t : Int) + 1) = t + 1 := wrap_i64 (by omega) (by omega)
          simp +decide (maxSteps := 9^7) only [d1, Int.toNat_natCast, hg, go_sem]
          refine Runs.call (l8PunyValue hm x hb.1 hb.2) ?_
          by_cases c0 : pdig x < 0 ∨ 1099511627776 < i ∨ 1099511627776 < w
          ·rw [if_pos c0] at t3
           rw [← t3] at hf
           subst hf
           by_cases c1 : pdig x < 0
           ·simp +decide (maxSteps := 9^7) only [wt, c1, go_sem]
            exact Runs.ret_refl
           ·by_cases c2 : 1099511627776 < i
            ·simp +decide (maxSteps := 9^7) only [wt, c1, c2, go_sem]
             exact Runs.ret_refl
            ·have c3 : 1099511627776 < w := by omega
             simp +decide (maxSteps := 9^7) only [wt, c1, c2, c3, go_sem]
             exact Runs.ret_refl
          ·rw [if_neg c0] at t3
           have c1 : ¬ pdig x < 0 := by omega
           have c2 : ¬ 1099511627776 < i := by omega
           have c3 : ¬ 1099511627776 < w := by omega
           have m1 : 0 ≤ pdig x * w := Int.mul_nonneg (by omega) t6
           have m2 : pdig x * w ≤ 35 * w := Int.mul_le_mul_of_nonneg_right (by omega) t6
           have wm : IntKind.i64.wrap (pdig x * w) = pdig x * w := wrap_i64 (by omega) (by omega)
           have wa : IntKind.i64.wrap (i + pdig x * w) = i + pdig x * w := wrap_i64 (by omega) (by omega)
           simp +decide (maxSteps := 9^7) only [wt, c1, c2, c3, wm, wa, go_sem]
           refine Runs.call (l8Threshold hm k p.bias (by omega) (by omega) (by omega) (by omega)) ?_
           have ht := pthr_in k p.bias
           simp +decide (maxSteps := 9^7) only [go_sem]
           refine Runs.split (fun c => ?_) (fun c => ?_)
           ·have c : pdig x < pthr k p.bias := by simpa using c
            rw [if_pos c] at t3
            rw [← t3] at hf
            simp only [List.length_drop] at hf
            obtain ⟨j, hj⟩ : ∃ j, j = i + pdig x * w := ⟨_, rfl⟩
            rw [← hj] at hf ⊢
            have hm1 : (1 : Int) ≤ p.word.length + 1 := by omega
            have ps := pstep_in hm1 (j := j) (by omega)
            have bi := padapt_in (delta := j - p.i) (many := p.word.length + 1) (first := decide ((p.word.length : Int) = B)) (by omega) hm1
            have wl1 : IntKind.i64.wrap ((p.word.length : Int) + 1) = p.word.length + 1 := wrap_i64 (by omega) (by omega)
            have wj : IntKind.i64.wrap (j - p.i) = j - p.i := wrap_i64 (by omega) (by omega)
            have wq : IntKind.i64.wrap (j.tdiv (p.word.length + 1)) = j.tdiv (p.word.length + 1) := wrap_i64 (by omega) (by omega)
            have wn : IntKind.i64.wrap (p.n + j.tdiv (p.word.length + 1)) = p.n + j.tdiv (p.word.length + 1) := wrap_i64 (by omega) (by omega)
            have wr : IntKind.i64.wrap (j.tmod (p.word.length + 1) + 1) = j.tmod (p.word.length + 1) + 1 := wrap_i64 (by omega) (by omega)
            have dz : decide ((p.word.length : Int) + 1 ≠ 0) = true := by simp; omega
            have eb : ((p.word.length : Int) == (B : Int)) = decide ((p.word.length : Int) = (B : Int)) := int_beq
            simp +decide (maxSteps := 9^7) only [wl1, wj, eb, go_sem]
            refine Runs.call (l8Bias hm (j - p.i) (p.word.length + 1) _ (by omega) (by omega) (by omega) (by omega)) ?_
            by_cases f0 : 1114111 < p.n + j.tdiv (p.word.length + 1) ∨ 20 < p.word.length + 1
            ·rw [if_pos f0] at hf
             subst hf
             by_cases f1 : 1114111 < p.n + j.tdiv (p.word.length + 1)
             ·simp +decide (maxSteps := 9^7) only [wl1, wq, wn, dz, f1, go_sem]
              exact Runs.ret_refl
             ·have f2 : 20 < (p.word.length : Int) + 1 := by omega
              simp +decide (maxSteps := 9^7) only [wl1, wq, wn, dz, f1, f2, go_sem]
              exact Runs.ret_refl
            ·rw [if_neg f0, if_pos (by omega)] at hf
             have f1 : ¬ 1114111 < p.n + j.tdiv (p.word.length + 1) := by omega
             have f2 : ¬ 20 < (p.word.length : Int) + 1 := by omega
             have hpm := pins_map p.word (j.tmod (p.word.length + 1)).toNat (p.n + j.tdiv (p.word.length + 1))
             have hpl2 := pins_len p.word (j.tmod (p.word.length + 1)).toNat (p.n + j.tdiv (p.word.length + 1))
             obtain ⟨pl, hpl3⟩ : ∃ pl : Nat, j.tmod (p.word.length + 1) = pl := ⟨(j.tmod (p.word.length + 1)).toNat, by omega⟩
             have hple : pl ≤ p.word.length := by omega
             have ihh := ih4 (t + 1, pdStep B p j)
             simp only [pdStep, hpl3, Int.toNat_natCast] at ihh hf hpm hpl2 wr
             rw [hpl3] at ps
             have q1 : decide (0 ≤ (pl : Int) ∧ (pl : Int) ≤ (p.word.length : Int) ∧ (p.word.length : Int) ≤ (p.word.length : Int)) = true := by simp; omega
             have hD : List.take (p.word.length - pl) (List.drop pl (List.map intA p.word)) = (p.word.drop pl).map intA := by rw [List.map_drop]; exact List.take_of_length_le (by simp)
             have hT : List.take (pl - Int.toNat 0) (List.drop (Int.toNat 0) (List.map intA p.word)) = (p.word.take pl).map intA := by rw [List.map_take]; rfl
             have hpn : ∀ l : List Int, plainL (l.map intA) = true := fun l => by rw [plainL_map]; simp [intA, A.plain]
             have hcn : ∀ l : List Int, ((l.map intA).all fun a => a.cells.length == 1) = true := fun l => by simp [intA, A.cells]
             have hdn : (p.word.drop pl).length = p.word.length - pl := List.length_drop
             have htn : (p.word.take pl).length = pl := by rw [List.length_take]; omega
             have d2 : decide (1 + (p.word.length - pl) ≤ 1073741824) = true := by simp; omega
             have d3 : decide (pl + (1 + (p.word.length - pl)) ≤ 1073741824) = true := by simp; omega
             have hL3 : pl + (1 + (p.word.length - pl)) = p.word.length + 1 := by omega
             have hL4 : pl + (p.word.length - pl + 1) = p.word.length + 1 := by omega
             rw [← List.map_take, ← List.map_drop] at hpm
             simp +decide (maxSteps := 9^7) (disch := first | omega | (simp only [ll]; omega)) only [wl1, wq, wn, wr, dz, f1, f2, hpl3, Int.toNat_natCast, List.length_map, q1, hD, hT, hpn, hcn, hdn, htn, d2, d3, wt, List.length_append, hL3, hL4, if_pos, go_sem]
             refine ihh _ (by omega) ⟨by omega, ⟨by simp only; omega, by simp only; omega, by simp only; omega, by simp only; omega, bi.1, by simp only; omega, by simp only; rw [hpl2]; omega⟩, hf⟩ ?_
             simp [go_sem, rpAnn, rpSt4, hpm, hpl2, intA]
           ·have c : ¬ pdig x < pthr k p.bias := by simpa using c
            rw [if_neg c] at t3
            have m3 : w * (36 - pthr k p.bias) ≤ w * 35 := Int.mul_le_mul_of_nonneg_left (by omega) t6
            have m4 : 0 ≤ w * (36 - pthr k p.bias) := Int.mul_nonneg t6 (by omega)
            have w36 : IntKind.i64.wrap (36 - pthr k p.bias) = 36 - pthr k p.bias := wrap_i64 (by omega) (by omega)
            have ww : IntKind.i64.wrap (w * (36 - pthr k p.bias)) = w * (36 - pthr k p.bias) := wrap_i64 (by omega) (by omega)
            have wk : IntKind.i64.wrap (k + 36) = k + 36 := wrap_i64 (by omega) (by omega)
            simp +decide (maxSteps := 9^7) only [w36, ww, wk, go_sem]
            refine ih6 (t + 1, i + pdig x * w, w * (36 - pthr k p.bias), k + 36) _ (by simp only; omega) ⟨by simp only; omega, by simp only; omega, t3, by simp only; omega, by simp only; omega, m4, by simp only; omega, by simp only; omega⟩ ?_
            simp [go_sem, rpAnn, rpSt6]
       ·have hge : at' = s.size := by simp at h; omega
        subst hge
        rw [show (bz s).drop s.size = [] by rw [← hsz, List.drop_length]] at hf
        rw [poutS, if_pos rfl, pfin_some] at hf
        have hLn : (p.word.map intA).length = p.word.length := List.length_map _
        have hLt : List.take p.word.length (p.word.map intA) = p.word.map intA := take_map_len
        simp +decide (maxSteps := 9^7) only [hLn, hLt, go_sem]
        refine Runs.call (specPuny hm p.word (by omega)) ?_
        cases hw : pwordB p.word
        ·rw [if_neg (by rw [hw]; simp)] at hf
         subst hf
         simp +decide (maxSteps := 9^7) only [go_sem]
         exact Runs.ret_refl
        ·have hst := bz_eq (pun_by hw) s
         rw [punA, if_pos hw]
         by_cases hpe : pun p.word = bz s
         ·rw [if_pos ⟨hw, hpe⟩] at hf
          subst hf
          rw [decide_eq_true hpe] at hst
          simp +decide (maxSteps := 9^7) only [hst, hLn, hLt, go_sem]
          exact Runs.ret_refl
         ·rw [if_neg (fun hh => hpe hh.2)] at hf
          subst hf
          rw [decide_eq_false hpe] at hst
          simp +decide (maxSteps := 9^7) only [hst, go_sem]
          exact Runs.ret_refl
end Go.Proofs.W

namespace Go.Proofs.W
open Go Go.AM Go.RowKit Go.Shelf
variable (hm : Tryz.prog.follows .mixedOrders = true)
theorem repL_of_vs {C : Ctx} {w : World} (vs : List Value) : RepL C w (vs.map A.v) vs fun _ => 0 := by
 induction vs with
 | nil => exact .nil fun _ => rfl
 | cons v l ih => exact .v ih
theorem flat_strA (ss : List ByteArray) : flat (ss.map strA) = (ss.map Value.string).map A.v := by
 induction ss with
 | nil => rfl
 | cons a l ih => rw [List.map_cons, List.map_cons, List.map_cons, ← ih]; rfl
theorem holds_row {P : Program} {f : Nat} {vs : List Value} {ss : List ByteArray} {t : TypeId} (hf : ∃ fn c, P.funcs[f]? = some fn ∧ (fn.name == "runtime.NumGoroutine") = false ∧ fn.body = some c)
  (h : ∀ w, Calls P f vs.toArray w fun e w' => ∃ A, e = .returned (.slice (some ⟨A, 0, none⟩) ss.length ss.length) ∧ w.heap.size ≤ A ∧
   w'.ownsRow w.heap.size t 1 (.slice (some ⟨A, 0, none⟩) ss.length ss.length) ss.length (ss.map Value.string) ∧ Below w.heap.size w w') : Holds P f (vs.map .v) [] (.sl (.ow 1) (ss.map strA)) [] where
 fn := hf
 calls := by
  intro C w xs fx fa hF hB hI hX hM hle hno hR
  obtain ⟨rfl, h0⟩ := repL_vs hR
  have hx : ∀ b, fx b = 0 := by
   have hM : MemR C w [] fx := hM
   cases hM with | nil h => exact h
  refine (h w).mono ?_
  rintro e w' ⟨A, rfl, hA, ⟨hl, ho⟩, hb⟩
  rcases ho with ⟨ho, _⟩ | ⟨g, cap, cur, hv, hg, hrow, hn, hcm, hsz, htk⟩
  ·cases ho
  ·have e1 : g = A := by injection hv with a1; injection a1 with a2; injection a2 with a3; exact a3.symm
   have e2 : cap = ss.length := by injection hv with _ _ a3; exact a3.symm
   subst e1 e2
   have hfl := flat_strA ss
   have hrep : Rep1 C w' (.sl (.ow 1) (ss.map strA)) (.slice (some ⟨g, 0, none⟩) ss.length ss.length) fun b => if b = g then 1 else 0 := by
    have := RepL.ow (C := C) (w := w') (k := 1) (es := ss.map strA) (a := ⟨g, 0, none⟩) (cap := ss.length) (c := cur) (e := t) (fz := (0, 0)) (r := []) (xs := []) (f := fun b => if b = g then 1 else 0) (f1 := fun _ => 0) (f2 := fun _ => 0)
     hrow rfl (by intro x hx; obtain ⟨s, _, rfl⟩ := List.mem_map.mp hx; rfl) (by simp) (by simp; omega) (by unfold maxLen at hcm; unfold capM; omega) (by intro o ho; simp)
     (by
      rw [List.length_map, List.drop_zero, htk]
      intro v hv; obtain ⟨s, _, rfl⟩ := List.mem_map.mp hv; rfl)
     (by intro b; simp) (by rw [List.length_map, List.drop_zero, htk, hfl]; exact repL_of_vs _) (.nil fun _ => rfl)
    rw [List.length_map] at this
    exact this
   refine ⟨C, _, fun _ => 0, Ctx.ToX.refl C, rfl, hB, fun _ h => h, fun _ h => .inl h, fun b h => Nat.lt_of_lt_of_le (hI b h) hb.size, hX, ⟨hb.os, hb.tape, hb.output, hb.size, fun b h _ => hb.block b h⟩, .nil fun _ => rfl, hrep, fun b => ?_, fun b hb1 => ?_⟩
   ·simp only; split <;> omega
   ·have e3 : b = g := by
     simp only [Nat.zero_add] at hb1
     split at hb1
     ·assumption
     ·omega
    subst e3
    refine ⟨fun hc => ?_, .inr hA, ?_⟩
    ·have := hI b hc; omega
    ·exact (Array.getElem?_eq_some_iff.mp hrow).1
def lay229_ren : Go.Shelf.Ren :=
 {
 f := fun x =>
  match x with
  | 229 => 188
  | n => n,
 t := fun x =>
  match x with
  | 9 => 9
  | 40 => 165
  | 31 => 35
  | 152 => 176
  | 3 => 3
  | 0 => 0
  | 4 => 4
  | 21 => 21
  | 154 => 178
  | n => n,
 g := fun n => n }
set_option maxRecDepth 100000 in
theorem lay229 : Lays.n229 Tryz.prog lay229_ren :=
 {mixed := by kernel_rfl
  f229 := Eq.trans Tryz.func188 (congrArg some (by kernel_rfl))
  t0 := Tryz.underlying0
  a0 := Tryz.isAgg0
  z0 := Tryz.sizeOf0
  v0 := Tryz.zeroValue0
  t3 := Tryz.underlying3
  a3 := Tryz.isAgg3
  z3 := Tryz.sizeOf3
  v3 := Tryz.zeroValue3
  t4 := Tryz.underlying4
  a4 := Tryz.isAgg4
  z4 := Tryz.sizeOf4
  v4 := Tryz.zeroValue4
  t9 := Tryz.underlying9
  a9 := Tryz.isAgg9
  z9 := Tryz.sizeOf9
  v9 := Tryz.zeroValue9
  t21 := Tryz.underlying21
  a21 := Tryz.isAgg21
  z21 := Tryz.sizeOf21
  v21 := Tryz.zeroValue21
  t31 := Tryz.underlying35
  a31 := Tryz.isAgg35
  z31 := Tryz.sizeOf35
  v31 := Tryz.zeroValue35
  t40 := Tryz.underlying165
  a40 := Tryz.isAgg165
  z40 := Tryz.sizeOf165
  v40 := Tryz.zeroValue165
  t152 := Tryz.underlying176
  a152 := Tryz.isAgg176
  z152 := Tryz.sizeOf176
  v152 := Tryz.zeroValue176
  t154 := Tryz.underlying178
  a154 := Tryz.isAgg178
  z154 := Tryz.sizeOf178
  v154 := Tryz.zeroValue178 }
def lay156_ren : Go.Shelf.Ren :=
 {
 f := fun x =>
  match x with
  | 156 => 191
  | 165 => 207
  | 166 => 208
  | 169 => 209
  | 240 => 216
  | 241 => 217
  | 276 => 221
  | 277 => 222
  | n => n,
 t := fun x =>
  match x with
  | 31 => 35
  | 9 => 9
  | 3 => 3
  | 4 => 4
  | 0 => 0
  | 20 => 20
  | 72 => 181
  | 76 => 185
  | 70 => 179
  | 37 => 49
  | 75 => 184
  | 127 => 191
  | 164 => 197
  | 5 => 5
  | 80 => 187
  | n => n,
 g := fun n => n }
set_option maxRecDepth 100000 in
theorem lay156 : Lays.n156 Tryz.prog lay156_ren :=
 {mixed := by kernel_rfl
  f156 := Eq.trans Tryz.func191 (congrArg some (by kernel_rfl))
  f165 := Eq.trans Tryz.func207 (congrArg some (by kernel_rfl))
  f166 := Eq.trans Tryz.func208 (congrArg some (by kernel_rfl))
  f169 := Eq.trans Tryz.func209 (congrArg some (by kernel_rfl))
  f240 := Eq.trans Tryz.func216 (congrArg some (by kernel_rfl))
  f241 := Eq.trans Tryz.func217 (congrArg some (by kernel_rfl))
  f276 := Eq.trans Tryz.func221 (congrArg some (by kernel_rfl))
  f277 := Eq.trans Tryz.func222 (congrArg some (by kernel_rfl))
  t0 := Tryz.underlying0
  a0 := Tryz.isAgg0
  z0 := Tryz.sizeOf0
  v0 := Tryz.zeroValue0
  t3 := Tryz.underlying3
  a3 := Tryz.isAgg3
  z3 := Tryz.sizeOf3
  v3 := Tryz.zeroValue3
  t4 := Tryz.underlying4
  a4 := Tryz.isAgg4
  z4 := Tryz.sizeOf4
  v4 := Tryz.zeroValue4
  t9 := Tryz.underlying9
  a9 := Tryz.isAgg9
  z9 := Tryz.sizeOf9
  v9 := Tryz.zeroValue9
  t20 := Tryz.underlying20
  a20 := Tryz.isAgg20
  z20 := Tryz.sizeOf20
  v20 := Tryz.zeroValue20
  t31 := Tryz.underlying35
  a31 := Tryz.isAgg35
  z31 := Tryz.sizeOf35
  v31 := Tryz.zeroValue35
  t37 := Tryz.underlying49
  a37 := Tryz.isAgg49
  z37 := Tryz.sizeOf49
  v37 := Tryz.zeroValue49
  t70 := Tryz.underlying179
  a70 := Tryz.isAgg179
  z70 := Tryz.sizeOf179
  v70 := Tryz.zeroValue179
  t72 := Tryz.underlying181
  a72 := Tryz.isAgg181
  z72 := Tryz.sizeOf181
  v72 := Tryz.zeroValue181
  t75 := Tryz.underlying184
  a75 := Tryz.isAgg184
  z75 := Tryz.sizeOf184
  v75 := Tryz.zeroValue184
  t76 := Tryz.underlying185
  a76 := Tryz.isAgg185
  z76 := Tryz.sizeOf185
  v76 := Tryz.zeroValue185
  t127 := Tryz.underlying191
  a127 := Tryz.isAgg191
  z127 := Tryz.sizeOf191
  v127 := Tryz.zeroValue191
  t164 := Tryz.underlying197
  a164 := Tryz.isAgg197
  z164 := Tryz.sizeOf197
  v164 := Tryz.zeroValue197 }
def spP (x : Nat) : Bool := decide (x = 32)
set_option maxRecDepth 10000 in
theorem spaceC (x : Nat) (hx : x ≤ 1114111) (w : World) : Calls Tryz.prog 190 #[.int .i32 x] w fun e w' => e = .returned (.bool (spP x)) ∧ w' = w := by
 go_enter Tryz.func190, Tryz.ntmps190
 go_wp2
 go_ret
 exact ⟨by simp [spP]; omega, rfl⟩
theorem fieldsH (s : ByteArray) (h : s.size ≤ 1048576) : Holds Tryz.prog 188 [.v (.string s), .v (.func (.func 190) #[] #[])] [] (.sl (.ow 1) ((Lib.goFieldsP spP s).map strA)) [] := by
 refine holds_row (vs := [.string s, .func (.func 190) #[] #[]]) (t := lay229_ren.t 9) ⟨_, _, Tryz.func188, by kernel_rfl, rfl⟩ fun w => ?_
 exact Any.strings_FieldsFunc_runes lay229 190 #[] (enters_of Tryz.func190 (by kernel_rfl) rfl) spP s w (by omega)
  (fun W x hx hb => (spaceC x hx W).mono fun e w' ⟨he, hw⟩ => ⟨he, 0, hw⟩) (by kernel_rfl) (by kernel_rfl)
end Go.Proofs.W

namespace Go.Proofs.W
open Go Go.AM Go.RowKit Go.Shelf
variable (hm : Tryz.prog.follows .mixedOrders = true)
theorem setCells_row (b : Nat) : ∀ (vs : List Value) (o : Nat) (w : World) (c : Array Value) (e : TypeId) (fz : Nat × Nat), w.heap[b]? = some (.cells c e fz) → o + vs.length ≤ c.size →
  ∃ c', (w.setCells b o vs).heap[b]? = some (.cells c' e fz) ∧ c'.size = c.size ∧ c'.toList = c.toList.take o ++ vs ++ c.toList.drop (o + vs.length) ∧
   (w.setCells b o vs).os = w.os ∧ (w.setCells b o vs).tape = w.tape ∧ (w.setCells b o vs).output = w.output ∧ (w.setCells b o vs).heap.size = w.heap.size ∧ ∀ j, j ≠ b → (w.setCells b o vs).heap[j]? = w.heap[j]?
 | [], o, w, c, e, fz, h, _ => ⟨c, h, rfl, by simp, rfl, rfl, rfl, rfl, fun _ _ => rfl⟩
 | v :: r, o, w, c, e, fz, h, hl => by
  simp only [List.length_cons] at hl
  have hb := (Array.getElem?_eq_some_iff.mp h).1
  have h1 : (w.setCell ⟨b, o, none⟩ v).heap[b]? = some (.cells (c.setIfInBounds o v) e fz) := by
   simp [World.setCell, Array.getElem?_modify, h]
  obtain ⟨c', g1, g2, g3, g4, g5, g6, g7, g8⟩ := setCells_row b r (o + 1) (w.setCell ⟨b, o, none⟩ v) _ e fz h1 (by rw [Array.size_setIfInBounds]; omega)
  refine ⟨c', g1, by rw [g2, Array.size_setIfInBounds], ?_, g4, g5, g6, by rw [World.setCells, g7]; simp [World.setCell], fun j hj => by rw [World.setCells, g8 j hj]; simp [World.setCell, Array.getElem?_modify, Ne.symm hj]⟩
  have e1 : (c.setIfInBounds o v).toList = c.toList.set o v := by simp
  rw [g3, e1]
  have hol : o < c.toList.length := by simp; omega
  rw [List.take_succ_eq_append_getElem (by rw [List.length_set]; exact hol), List.getElem_set_self, List.take_set_of_le (Nat.le_refl _), List.drop_set_of_lt (by omega)]
  simp only [List.append_assoc, List.cons_append, List.nil_append, List.length_cons]
  congr 4
  omega
theorem flat_intA (l : List Int) : flat (l.map intA) = (l.map (Value.int .i64)).map A.v := by
 induction l with
 | nil => rfl
 | cons a l ih => rw [List.map_cons, List.map_cons, List.map_cons, ← ih]; rfl
theorem ints_one (l : List Int) : ∀ v ∈ l.map (Value.int .i64), v.oneCell' = true := by
 intro v hv; obtain ⟨n, _, rfl⟩ := List.mem_map.mp hv; rfl
theorem row_out {C : Ctx} {w w' : World} {fx fa : Nat → Nat} (hB : ∀ i, C.B i = St.raw ⟨[], [], []⟩ i) (hI : ∀ b, C.I b → b < w.heap.size) (hno : ∀ b, 1 ≤ fx b + fa b → ¬ C.I b)
  {g off cap : Nat} {l : List Int} {c : Array Value} {e : TypeId} {fz : Nat × Nat} (hrow : w'.heap[g]? = some (.cells c e fz)) (hcap : l.length ≤ cap) (hcM : cap ≤ capM) (hsz : off + cap ≤ c.size) (hfz : Free0 c fz)
  (htk : (c.toList.drop off).take l.length = l.map (Value.int .i64)) (hg : 1 ≤ fx g + fa g ∨ w.heap.size ≤ g) (hs : Same (fun b => 1 ≤ fx b + fa b) w w') :
  ∃ D fr fx', C.ToX D ∧ D.F = C.F ∧ (∀ i, D.B i = St.raw ⟨[], [], []⟩ i) ∧ (∀ b, C.I b → D.I b) ∧ (∀ b, D.I b → C.I b ∨ w.heap.size ≤ b) ∧ (∀ b, D.I b → b < w'.heap.size) ∧ (∀ b ∈ ([] : List Blk), b.on = true) ∧
   Same (fun b => 1 ≤ fx b + fa b) w w' ∧ MemR D w' (extEntries []) fx' ∧ Rep1 D w' (.sl (.ow 1) (l.map intA)) (.slice (some ⟨g, off, none⟩) l.length cap) fr ∧ (∀ b, fx' b + fr b ≤ 1) ∧
   (∀ b, 1 ≤ fx' b + fr b → ¬ D.I b ∧ (1 ≤ fx b + fa b ∨ w.heap.size ≤ b) ∧ b < w'.heap.size) := by
 have hgl := (Array.getElem?_eq_some_iff.mp hrow).1
 have hrep : Rep1 C w' (.sl (.ow 1) (l.map intA)) (.slice (some ⟨g, off, none⟩) l.length cap) fun b => if b = g then 1 else 0 := by
  have := RepL.ow (C := C) (w := w') (k := 1) (es := l.map intA) (a := ⟨g, off, none⟩) (cap := cap) (c := c) (e := e) (fz := fz) (r := []) (xs := []) (f := fun b => if b = g then 1 else 0) (f1 := fun _ => 0) (f2 := fun _ => 0)
   hrow rfl (by intro x hx; obtain ⟨s, _, rfl⟩ := List.mem_map.mp hx; rfl) (by simpa using hcap) (by simpa using hsz) hcM hfz
   (by rw [List.length_map, Nat.mul_one, htk]; exact ints_one l)
   (by intro b; simp) (by rw [List.length_map, Nat.mul_one, htk, flat_intA]; exact repL_of_vs _) (.nil fun _ => rfl)
  rw [List.length_map] at this
  exact this
 refine ⟨C, _, fun _ => 0, Ctx.ToX.refl C, rfl, hB, fun _ h => h, fun _ h => .inl h, fun b h => Nat.lt_of_lt_of_le (hI b h) hs.size, fun _ h => absurd h (by simp), hs, .nil fun _ => rfl, hrep, fun b => ?_, fun b hb1 => ?_⟩
 ·simp only; split <;> omega
 ·have e3 : b = g := by
   simp only [Nat.zero_add] at hb1
   split at hb1
   ·assumption
   ·omega
  subst e3
  refine ⟨fun hc => ?_, hg, hgl⟩
  rcases hg with hg | hg
  ·exact hno b hg hc
  ·have := hI b hc; omega
theorem cell_row {w : World} {b : Nat} {c : Array Value} {e : TypeId} {fz : Nat × Nat} (h : w.heap[b]? = some (.cells c e fz)) (o : Nat) : w.cell? ⟨b, o, none⟩ = c[o]? := by
 simp [World.cell?, h]
theorem cells_at {w : World} {b off : Nat} {c : Array Value} {e : TypeId} {fz : Nat × Nat} {cs : List Value} (h : w.heap[b]? = some (.cells c e fz)) (htk : (c.toList.drop off).take cs.length = cs) :
  ∀ j v, cs[j]? = some v → w.cell? ⟨b, off + j, none⟩ = some v := by
 intro j v hj
 have hl := (List.getElem?_eq_some_iff.mp hj).1
 have e2 : ((c.toList.drop off).take cs.length)[j]? = some v := by rw [htk]; exact hj
 rw [List.getElem?_take_of_lt hl, List.getElem?_drop, Array.getElem?_toList] at e2
 rw [cell_row h]; exact e2
theorem frozen_row {w : World} {b : Nat} {c : Array Value} {e : TypeId} {fz : Nat × Nat} (h : w.heap[b]? = some (.cells c e fz)) (hf : Free0 c fz) {o : Nat} (ho : o < c.size) : w.frozen? ⟨b, o, none⟩ = false := by
 have := hf o ho
 obtain ⟨lo, hi⟩ := fz
 simp only [World.frozen?, h]
 simpa using this
theorem pins_cons (l : List Int) (i : Nat) (n : Int) : (pins l i n).map (Value.int .i64) = (l.map (Value.int .i64)).take i ++ Value.int .i64 n :: (l.map (Value.int .i64)).drop i := by
 simp [pins, List.map_take, List.map_drop]
theorem row_in {C : Ctx} {w : World} {l : List Int} {x : Value} {r : List A} {ys : List Value} {f : Nat → Nat} (h : RepL C w (.sl (.ow 1) (l.map intA) :: r) (x :: ys) f) :
  (l = [] ∧ (∃ a, x = .slice a 0 0) ∧ RepL C w r ys f) ∨ ∃ g off cap c e fz f2, x = .slice (some ⟨g, off, none⟩) l.length cap ∧ w.heap[g]? = some (.cells c e fz) ∧ l.length ≤ cap ∧ cap ≤ capM ∧ off + cap ≤ c.size ∧ Free0 c fz ∧
   (c.toList.drop off).take l.length = l.map (Value.int .i64) ∧ (∀ b, f b = (if b = g then 1 else 0) + f2 b) ∧ RepL C w r ys f2 := by
 generalize hes : l.map intA = es at h
 cases h with
 | nils h => exact .inl ⟨List.map_eq_nil_iff.1 hes, ⟨_, rfl⟩, h⟩
 | sl hrow hsp hk hcap hsz hI hs ho hf h1 h => rcases hs with hs | hs <;> simp at hs
 | ow hrow hsp hk hcap hsz hF hfz ho hf h1 h =>
  subst hes
  rename_i a cap c e fz f1 f2
  obtain ⟨ab, ao, asp⟩ := a
  simp only at hsp hrow hsz ho h1 hf
  subst hsp
  rw [flat_intA, List.length_map, Nat.mul_one] at h1
  obtain ⟨e1, e2⟩ := repL_vs h1
  rw [List.length_map] at hcap
  rw [Nat.mul_one] at hsz
  refine .inr ⟨ab, ao, cap, c, e, fz, f2, by rw [List.length_map], hrow, hcap, hF, hsz, hfz, e1, fun b => by rw [hf, e2]; omega, h⟩
theorem htake {α : Type} {X Y : List α} {m : Nat} (h : X.length = m) : (X ++ Y).take m = X := by subst h; exact List.take_left
theorem hdrop {α : Type} {X Y : List α} {m : Nat} (h : X.length = m) : (X ++ Y).drop m = Y := by subst h; exact List.drop_left
theorem ins_list {α : Type} (A cs Z R : List α) (n : α) (i : Nat) (hi : i < cs.length) (c3 c4 : List α) (h3 : c3 = (A ++ cs ++ Z).take (A.length + (i + 1)) ++ cs.drop i ++ R)
  (h4 : c4 = c3.take (A.length + i) ++ [n] ++ c3.drop (A.length + i + 1)) : (c4.drop A.length).take (cs.length + 1) = cs.take i ++ n :: cs.drop i := by
 have e : A ++ cs ++ Z = (A ++ cs.take (i + 1)) ++ (cs.drop (i + 1) ++ Z) := by
  rw [List.append_assoc, List.append_assoc, ← List.append_assoc (cs.take (i + 1)), List.take_append_drop]
 have h3' : c3 = (A ++ cs.take i) ++ (cs[i] :: (cs.drop i ++ R)) := by
  rw [h3, e, htake (by simp; omega), List.take_succ_eq_append_getElem hi]
  simp only [List.append_assoc, List.cons_append, List.nil_append]
 have h4' : c4 = A ++ ((cs.take i ++ n :: cs.drop i) ++ R) := by
  rw [h4, h3', htake (by simp; omega), show A.length + i + 1 = (A.length + i) + 1 by omega, ← List.drop_drop, hdrop (by simp; omega)]
  simp
 rw [h4', hdrop rfl, htake (by simp; omega)]
theorem end_list {α : Type} (A cs Z : List α) (n : α) (c4 : List α) (h4 : c4 = (A ++ cs ++ Z).take (A.length + cs.length) ++ [n] ++ (A ++ cs ++ Z).drop (A.length + cs.length + 1)) :
  (c4.drop A.length).take (cs.length + 1) = cs.take cs.length ++ n :: cs.drop cs.length := by
 have h4' : c4 = A ++ ((cs ++ [n]) ++ (A ++ cs ++ Z).drop (A.length + cs.length + 1)) := by
  rw [h4, htake (by simp)]
  simp
 rw [h4', hdrop rfl, htake (by simp)]
 simp
theorem grow_list {α : Type} (cs Z R : List α) (n : α) (i : Nat) (hi : i < cs.length) (c3 c4 : List α) (h3 : c3 = (cs.take i ++ Z).take i ++ [n] ++ (cs.take i ++ Z).drop (i + 1))
  (h4 : c4 = c3.take (i + 1) ++ cs.drop i ++ R) : (c4.drop 0).take (cs.length + 1) = cs.take i ++ n :: cs.drop i := by
 have hl : (cs.take i).length = i := by rw [List.length_take]; omega
 have h4' : c4 = (cs.take i ++ n :: cs.drop i) ++ R := by
  rw [h4, h3, htake hl, htake (by simp [hl])]
  simp
 rw [h4', List.drop_zero, htake (by simp; omega)]
theorem row_fr {C : Ctx} {w : World} {n : Int} {x : Value} {f : Nat → Nat} (h : RepL C w [.sl .fr [intA n]] [x] f) :
  ∃ g off cap c e fz, x = .slice (some ⟨g, off, none⟩) 1 cap ∧ w.heap[g]? = some (.cells c e fz) ∧ off + 1 ≤ c.size ∧ fz.2 ≤ fz.1 ∧ (c.toList.drop off).take 1 = [.int .i64 n] ∧ C.I g ∧ ∀ b, f b = 0 := by
 cases h with
 | sl hrow hsp hk hcap hsz hI hs ho hf h1 h =>
  rename_i a cap k c e fz f1
  obtain ⟨ab, ao, asp⟩ := a
  simp only at hsp hrow hsz ho h1 hI
  subst hsp
  have hk1 : k = 1 := (hk (intA n) (by simp)).symm
  subst hk1
  have hfl := flat_intA [n]
  simp only [List.map_cons, List.map_nil] at hfl
  rw [hfl] at h1
  have h1 : RepL C.bare w ([Value.int .i64 n].map A.v) ((c.toList.drop ao).take 1) f1 := by simpa using h1
  obtain ⟨e1, _⟩ := repL_vs h1
  refine ⟨ab, ao, cap, c, e, fz, rfl, hrow, by simpa using hsz, ?_, e1, hI, ?_⟩
  ·rcases hs with hs | hs
   ·exact absurd hs (by simp)
   ·exact hs.2
  ·cases h with | nil h => exact h
def lay2_21_ren : Go.Shelf.Ren :=
 {
 f := fun x =>
  match x with
  | 21 => 156
  | 27 => 194
  | 28 => 195
  | 35 => 210
  | 39 => 218
  | n => n,
 t := fun x =>
  match x with
  | 22 => 24
  | 3 => 3
  | 4 => 4
  | 0 => 0
  | n => n,
 g := fun n => n }
set_option maxRecDepth 100000 in
theorem lay2_21 : Lays2.n21 Tryz.prog lay2_21_ren :=
 {mixed := by kernel_rfl
  f21 := Eq.trans Tryz.func156 (congrArg some (by kernel_rfl))
  f27 := Eq.trans Tryz.func194 (congrArg some (by kernel_rfl))
  f28 := Eq.trans Tryz.func195 (congrArg some (by kernel_rfl))
  f35 := Eq.trans Tryz.func210 (congrArg some (by kernel_rfl))
  f39 := Eq.trans Tryz.func218 (congrArg some (by kernel_rfl))
  t0 := Tryz.underlying0
  a0 := Tryz.isAgg0
  z0 := Tryz.sizeOf0
  v0 := Tryz.zeroValue0
  t3 := Tryz.underlying3
  a3 := Tryz.isAgg3
  z3 := Tryz.sizeOf3
  v3 := Tryz.zeroValue3
  t4 := Tryz.underlying4
  a4 := Tryz.isAgg4
  z4 := Tryz.sizeOf4
  v4 := Tryz.zeroValue4
  t22 := Tryz.underlying24
  a22 := Tryz.isAgg24
  z22 := Tryz.sizeOf24
  v22 := Tryz.zeroValue24
  i3 := Eq.refl (some (some (Value.int IntKind.i64 0), 1, 8)) }
theorem alloc_row (w : World) (c : Array Value) (t : TypeId) : (w.alloc (.cells c t)).heap[w.heap.size]? = some (.cells c t (0, 0)) := by
 show (w.heap.push (Obj.cells c t))[w.heap.size]? = _
 rw [Array.getElem?_push, if_pos rfl]
theorem alloc_other (w : World) (o : Obj) {j : Nat} (h : j < w.heap.size) : (w.alloc o).heap[j]? = w.heap[j]? := by
 show (w.heap.push o)[j]? = _
 rw [Array.getElem?_push, if_neg (by omega)]
theorem alloc_size (w : World) (o : Obj) : (w.alloc o).heap.size = w.heap.size + 1 := by
 show (w.heap.push o).size = _
 rw [Array.size_push]
theorem cap_le (w : World) {n o : Nat} (t : TypeId) (h : n ≤ 1000002) : grownCap w n o t ≤ capM := by
 have := grownCap_le_maxLen w n o t (by unfold maxLen; omega)
 unfold maxLen at this; unfold capM; omega
set_option maxRecDepth 100000 in
set_option maxHeartbeats 1000000 in
theorem insertH (L : List Int) (i : Nat) (n : Int) (hi : i ≤ L.length) (hL : L.length ≤ 1000000) :
  Holds Tryz.prog 156 [.sl (.ow 1) (L.map intA), .v (.int .i64 i), .sl .fr [intA n]] [] (.sl (.ow 1) ((pins L i n).map intA)) [] where
 fn := ⟨_, _, Tryz.func156, by kernel_rfl, rfl⟩
 calls := by
  intro C w xs fx fa hF hB hI hX hM hle hno hR
  have hx : ∀ b, fx b = 0 := by
   have hM : MemR C w [] fx := hM
   cases hM with | nil h => exact h
  have hlen := hR.length
  match xs, hlen with
  | [x0, x1, x2], _ =>
  have hpl := pins_len L i n
  have hpc := pins_cons L i n
  have vl : (L.map (Value.int .i64)).length = L.length := List.length_map _
  have h1v : ∀ v ∈ [Value.int .i64 n], v.oneCell' = true := by intro v hv; simp at hv; subst hv; rfl
  rcases row_in hR with ⟨rfl, ⟨a, rfl⟩, hR2⟩ | ⟨g, off, cap, c, e, fz, f2, rfl, hrow, hcap, hcM, hsz, hfz, htk, hfa, hR2⟩
  ·cases hR2 with
   | v hR2 =>
    obtain ⟨vb, voff, vc, c2, e2, fz2, rfl, hrow2, hsz2, hfz2, htk2, hI2, hz2⟩ := row_fr hR2
    have hi0 : i = 0 := by simpa using hi
    subst hi0
    refine (Any2.slices_Insert_int_end_grow lay2_21 a 0 0 vb voff 1 vc [] [.int .i64 n] w (by omega) (by omega) (by omega) (by omega) rfl rfl (fun _ => rfl) (fun _ _ j v hj => by simp at hj) (cells_at hrow2 htk2) h1v).mono ?_
    rintro e' w' ⟨rfl, rfl⟩
    have hge := grownCap_ge w (0 + 1) 0 (lay2_21_ren.t 3)
    have hcm := cap_le w (n := 0 + 1) (o := 0) (lay2_21_ren.t 3) (by omega)
    have hr := alloc_row w.drew (([] ++ [Value.int .i64 n] : List Value).toArray ++ Builtin.zeroCells (Value.int .i64 0).cells (grownCap w (0 + 1) 0 (lay2_21_ren.t 3) - (0 + 1))) (lay2_21_ren.t 3)
    have zc : (Builtin.zeroCells (Value.int .i64 0).cells (grownCap w (0 + 1) 0 (lay2_21_ren.t 3) - (0 + 1))).size = grownCap w (0 + 1) 0 (lay2_21_ren.t 3) - (0 + 1) := by simp [Builtin.zeroCells, Value.cells]
    generalize grownCap w (0 + 1) 0 (lay2_21_ren.t 3) = G at *
    have := row_out (C := C) (w := w) (fx := fx) (fa := fa) (l := pins [] 0 n) hB hI hno hr (cap := G) (off := 0) (by rw [hpl]; simpa using hge) hcm (by simp [zc]; omega) (by intro o ho; simp) (by simp [pins]) (.inr (Nat.le_refl _))
     ⟨rfl, rfl, rfl, by rw [alloc_size]; exact Nat.le_succ _, fun b hb _ => alloc_other w.drew _ hb⟩
    simpa [hpl] using this
  ·have hgE : 1 ≤ fx g + fa g := by rw [hfa, if_pos rfl]; omega
   have hgl := (Array.getElem?_eq_some_iff.mp hrow).1
   have vld : ((L.map (Value.int .i64)).drop i).length = L.length - i := by rw [List.length_drop, vl]
   cases hR2 with
   | v hR2 =>
    obtain ⟨vb, voff, vc, c2, e2, fz2, rfl, hrow2, hsz2, hfz2, htk2, hI2, hz2⟩ := row_fr hR2
    have hvb : vb ≠ g := fun h => hno g hgE (h ▸ hI2)
    have hcs := cells_at (cs := L.map (Value.int .i64)) hrow (by rw [vl]; exact htk)
    have hvs := cells_at (cs := [Value.int .i64 n]) hrow2 (by simpa using htk2)
    have h1c := ints_one L
    have hcl : c.toList.length = c.size := Array.length_toList
    have hfr2 : ∀ o, w.frozen? ⟨vb, o, none⟩ = false := fun o => by
     obtain ⟨lo, hi⟩ := fz2
     simp only [World.frozen?, hrow2]
     simp only at hfz2
     have : ¬ (lo ≤ o ∧ o < hi) := by omega
     simpa using this
    have hpl2 : ((pins L i n).map (Value.int .i64)).length = L.length + 1 := by rw [List.length_map, hpl]
    obtain ⟨A, hA⟩ : ∃ A, A = c.toList.take off := ⟨_, rfl⟩
    have hAl : A.length = off := by rw [hA, List.length_take]; omega
    obtain ⟨Z, hZ⟩ : ∃ Z, Z = c.toList.drop (off + L.length) := ⟨_, rfl⟩
    have hcL : c.toList = A ++ L.map (Value.int .i64) ++ Z := by
     rw [hA, hZ, ← htk, ← List.drop_drop, List.append_assoc, List.take_append_drop, List.take_append_drop]
    by_cases hroom : L.length + 1 ≤ cap
    ·by_cases hin : i < L.length
     ·refine (Any2.slices_Insert_int_shift lay2_21 g off L.length cap i vb voff 1 vc (L.map (Value.int .i64)) [.int .i64 n] w hin (by omega) hroom (by unfold capM at hcM; omega) hvb vl rfl hcs
       (fun j hj => by rw [cell_row hrow]; simp; omega) (fun j hj => frozen_row hrow hfz (by omega)) hvs h1c h1v e2 e c2.size c.size (by simp [World.shape?, hrow2]) (by simp [World.shape?, hrow]) (by omega)
       (hfr2 _) (hfr2 _)).mono ?_
      rintro e' w' ⟨rfl, rfl⟩
      obtain ⟨c3, r1, r2, r3, r4, r5, r6, r7, r8⟩ := setCells_row g ((L.map (Value.int .i64)).drop i) (off + (i + 1)) w.drew c e fz hrow (by rw [vld]; omega)
      obtain ⟨c4, q1, q2, q3, q4, q5, q6, q7, q8⟩ := setCells_row g [.int .i64 n] (off + i) (w.drew.setCells g (off + (i + 1)) ((L.map (Value.int .i64)).drop i)) c3 e fz r1 (by simp; omega)
      have htk4 : (c4.toList.drop off).take (pins L i n).length = (pins L i n).map (Value.int .i64) := by
       rw [hpl, hpc, ← vl, ← hAl]
       refine ins_list A (L.map (Value.int .i64)) Z (c.toList.drop (off + (i + 1) + (L.length - i))) (Value.int .i64 n) i (by rw [vl]; exact hin) c3.toList c4.toList ?_ ?_
       ·rw [r3, vld, ← hcL, hAl]
       ·rw [q3, hAl]; rfl
      have := row_out (C := C) (w := w) (fx := fx) (fa := fa) (l := pins L i n) hB hI hno q1 (cap := cap) (off := off) (by rw [hpl]; exact hroom) hcM (by omega) (by intro o ho; exact hfz o (by omega)) htk4 (.inl hgE)
       ⟨by rw [q4, r4]; rfl, by rw [q5, r5]; rfl, by rw [q6, r6]; rfl, by rw [q7, r7]; exact Nat.le_refl _, fun b hb hbE => by
        have hbg : b ≠ g := fun hh => hbE (hh ▸ hgE)
        rw [q8 b hbg, r8 b hbg]; rfl⟩
      simpa [hpl] using this
     ·have hie : i = L.length := by omega
      subst hie
      refine (Any2.slices_Insert_int_end_room lay2_21 g off L.length cap vb voff 1 vc [.int .i64 n] w (by omega) hroom (by unfold capM at hcM; omega) rfl
       (fun j hj => by rw [cell_row hrow]; simp; omega) (fun j hj => frozen_row hrow hfz (by omega)) hvs h1v).mono ?_
      rintro e' w' ⟨rfl, rfl⟩
      obtain ⟨c4, q1, q2, q3, q4, q5, q6, q7, q8⟩ := setCells_row g [.int .i64 n] (off + L.length) w c e fz hrow (by simp; omega)
      have htk4 : (c4.toList.drop off).take (pins L L.length n).length = (pins L L.length n).map (Value.int .i64) := by
       rw [hpl, hpc, ← vl, ← hAl]
       refine end_list A (L.map (Value.int .i64)) Z (Value.int .i64 n) c4.toList ?_
       rw [q3, ← hcL, hAl, vl]; rfl
      have := row_out (C := C) (w := w) (fx := fx) (fa := fa) (l := pins L L.length n) hB hI hno q1 (cap := cap) (off := off) (by rw [hpl]; exact hroom) hcM (by omega) (by intro o ho; exact hfz o (by omega)) htk4 (.inl hgE)
       ⟨q4, q5, q6, by rw [q7]; exact Nat.le_refl _, fun b hb hbE => by
        have hbg : b ≠ g := fun hh => hbE (hh ▸ hgE)
        rw [q8 b hbg]⟩
      simpa [hpl] using this
    ·have hge := grownCap_ge w (L.length + 1) cap (lay2_21_ren.t 3)
     have hcm := cap_le w (n := L.length + 1) (o := cap) (lay2_21_ren.t 3) (by omega)
     have zc : ∀ m, (Builtin.zeroCells (Value.int .i64 0).cells m).size = m := fun m => by simp [Builtin.zeroCells, Value.cells]
     by_cases hin : i < L.length
     ·refine (Any2.slices_Insert_int_grow lay2_21 g off L.length cap i vb voff 1 vc (L.map (Value.int .i64)) [.int .i64 n] w hin (by omega) hcap (by omega) (by omega) vl rfl hcs hvs h1c h1v).mono ?_
      rintro e' w' ⟨rfl, rfl⟩
      generalize grownCap w (L.length + 1) cap (lay2_21_ren.t 3) = G at *
      have hr := alloc_row w (((L.map (Value.int .i64)).take i).toArray ++ Builtin.zeroCells (Value.int .i64 0).cells (L.length + 1 - i) ++ Builtin.zeroCells (Value.int .i64 0).cells (G - (L.length + 1))) (lay2_21_ren.t 3)
      obtain ⟨cc, hcc⟩ : ∃ cc, cc = ((L.map (Value.int .i64)).take i).toArray ++ Builtin.zeroCells (Value.int .i64 0).cells (L.length + 1 - i) ++ Builtin.zeroCells (Value.int .i64 0).cells (G - (L.length + 1)) := ⟨_, rfl⟩
      have hccs : cc.size = i + (L.length + 1 - i) + (G - (L.length + 1)) := by rw [hcc]; simp [zc]; omega
      rw [← hcc] at hr ⊢
      obtain ⟨c3, r1, r2, r3, r4, r5, r6, r7, r8⟩ := setCells_row w.heap.size [.int .i64 n] i (w.alloc (.cells cc (lay2_21_ren.t 3))).drew cc _ _ hr (by simp; omega)
      obtain ⟨c4, q1, q2, q3, q4, q5, q6, q7, q8⟩ := setCells_row w.heap.size ((L.map (Value.int .i64)).drop i) (i + 1) (((w.alloc (.cells cc (lay2_21_ren.t 3))).drew.setCells w.heap.size i [.int .i64 n])).drew c3 _ _ r1 (by rw [vld]; omega)
      have htk4 : (c4.toList.drop 0).take (pins L i n).length = (pins L i n).map (Value.int .i64) := by
       rw [hpl, hpc, ← vl]
       refine grow_list (L.map (Value.int .i64)) ((Builtin.zeroCells (Value.int .i64 0).cells (L.length + 1 - i) ++ Builtin.zeroCells (Value.int .i64 0).cells (G - (L.length + 1))).toList) (c3.toList.drop (i + 1 + (L.length - i))) (Value.int .i64 n) i (by rw [vl]; exact hin) c3.toList c4.toList ?_ ?_
       ·rw [r3, hcc]; simp only [Array.toList_append, List.append_assoc]; rfl
       ·rw [q3, vld]
      have := row_out (C := C) (w := w) (fx := fx) (fa := fa) (l := pins L i n) hB hI hno q1 (cap := G) (off := 0) (by rw [hpl]; exact hge) hcm (by omega) (by intro o ho; simp) htk4 (.inr (Nat.le_refl _))
       ⟨by rw [q4]; exact r4, by rw [q5]; exact r5, by rw [q6]; exact r6, by rw [q7]; show w.heap.size ≤ (World.setCells _ _ _ _).heap.size; rw [r7]; show w.heap.size ≤ (w.alloc _).heap.size; rw [alloc_size]; exact Nat.le_succ _, fun b hb hbE => by
        have hbg : b ≠ w.heap.size := by omega
        rw [q8 b hbg]
        show (World.setCells _ _ _ _).heap[b]? = _
        rw [r8 b hbg]
        exact alloc_other w _ hb⟩
      simpa [hpl] using this
     ·have hie : i = L.length := by omega
      subst hie
      refine (Any2.slices_Insert_int_end_grow lay2_21 (some ⟨g, off, none⟩) L.length cap vb voff 1 vc (L.map (Value.int .i64)) [.int .i64 n] w (by omega) hcap (by omega) (by omega) vl rfl (fun h => by cases h)
       (fun a ha j v hj => by
        cases ha
        have := hcs j v hj
        by_cases h0 : j = 0
        ·subst h0; simpa [Addr.add] using this
        ·simpa [Addr.add, h0] using this) hvs h1v).mono ?_
      rintro e' w' ⟨rfl, rfl⟩
      generalize grownCap w (L.length + 1) cap (lay2_21_ren.t 3) = G at *
      have hr := alloc_row w.drew ((L.map (Value.int .i64) ++ [Value.int .i64 n] : List Value).toArray ++ Builtin.zeroCells (Value.int .i64 0).cells (G - (L.length + 1))) (lay2_21_ren.t 3)
      have := row_out (C := C) (w := w) (fx := fx) (fa := fa) (l := pins L L.length n) hB hI hno hr (cap := G) (off := 0) (by rw [hpl]; exact hge) hcm (by simp [zc]; omega) (by intro o ho; simp)
       (by
        rw [hpl, Array.toList_append, List.drop_zero, htake (by simp)]
        simp [pins]) (.inr (Nat.le_refl _))
       ⟨rfl, rfl, rfl, by rw [alloc_size]; exact Nat.le_succ _, fun b hb _ => alloc_other w.drew _ hb⟩
      simpa [hpl] using this
end Go.Proofs.W

namespace Go.Proofs.W
open Go Go.AM
set_option maxRecDepth 10000
variable (hm : Tryz.prog.follows .mixedOrders = true)
def lixAnn : Ann := [(0, [0, 1, 5])]
def lixSt (s : ByteArray) (j : Nat) : St := ⟨[.v (.string s), .v (.int .u8 45), .any, .any, .any, .v (.int .i64 ((j : Int) - 1)), .any, .any, .any, .any, .any, .any, .any, .any, .any, .any, .any, .any, .any], [], []⟩
include hm in
theorem lastIndexS (s : ByteArray) (h : s.size ≤ 1073741824) : Holds Tryz.prog 193 [.v (.string s), .v (.int .u8 45)] [] (.v (.int .i64 (plast (bz s)))) [] := by
 refine holds_of (ann := lixAnn) tabOk hm Tryz.func193 (by kernel_rfl) rfl ?_
 have hsz := bz_length s
 have w1 : IntKind.i64.wrap ((s.size : Int) - 1) = s.size - 1 := wrap_i64 (by omega) (by omega)
 simp +decide only [Tryz.f193, w1, go_sem]
 refine Runs.while (α := Nat) (lixSt s) (fun j => j) (fun j => j ≤ s.size ∧ plast ((bz s).take j) = plast (bz s)) s.size ⟨Nat.le_refl _, by rw [← hsz, List.take_length]⟩ ?_ ?_
 ·simp [go_sem, lixAnn, lixSt]
 ·rintro j ⟨hj, hp⟩ ih
  cases j with
  | zero =>
   rw [List.take_zero] at hp
   have e : plast (bz s) = -1 := by rw [← hp]; rfl
   have e0 : ((0 : Nat) : Int) - 1 = -1 := rfl
   simp +decide only [lixSt, e0, go_sem]
   exact Runs.ret_eq (by rw [e])
  | succ k =>
   have hk : k < (bz s).length := by omega
   have hg := bz_get hk
   rw [plast_take hk] at hp
   have e0 : ((k + 1 : Nat) : Int) - 1 = k := by omega
   have d0 : decide ((k : Int) ≥ 0) = true := by simp
   have d1 : decide (0 ≤ (k : Int) ∧ (k : Int) < s.size) = true := by simp; omega
   have w2 : IntKind.i64.wrap ((k : Int) - 1) = k - 1 := wrap_i64 (by omega) (by omega)
   simp +decide only [lixSt, e0, d0, d1, Int.toNat_natCast, hg, go_sem]
   refine Runs.split (fun e => ?_) (fun e => ?_)
   ·have e : (bz s)[k] = 45 := by simpa [int_beq] using e
    rw [if_pos e] at hp
    simp +decide only [go_sem]
    exact Runs.ret_eq (by rw [hp])
   ·have e : ¬ (bz s)[k] = 45 := by simpa [int_beq] using e
    rw [if_neg e] at hp
    simp +decide only [w2, go_sem]
    refine ih k _ (by omega) ⟨by omega, hp⟩ ?_
    simp [go_sem, lixAnn, lixSt]
include hm in
theorem lastIndex (s : ByteArray) (h : s.size ≤ 1073741824) : Holds Tryz.prog 152 [.v (.string s), .v (.int .u8 45)] [] (.v (.int .i64 (plast (bz s)))) [] := by
 refine holds_of (ann := []) tabOk hm Tryz.func152 (by kernel_rfl) rfl ?_
 simp +decide only [Tryz.f152, go_sem]
 refine Runs.call (lastIndexS hm s h) ?_
 simp +decide only [go_sem]
 exact Runs.ret_v
def restB (s : ByteArray) (k : Nat) : ByteArray := s.extract k s.size
theorem restB_size (s : ByteArray) (k : Nat) : (restB s k).size = s.size - k := by simp [restB]
theorem restB_data (s : ByteArray) (k : Nat) : (restB s k).data.toList = s.data.toList.drop k := by
 simp only [restB, ByteArray.data_extract, Array.toList_extract]
 exact List.take_of_length_le (by rw [List.length_drop, Array.length_toList]; exact Nat.le_refl _)
theorem restB_zero (s : ByteArray) : restB s 0 = s := by
 apply ByteArray.ext
 rw [← Array.toList_inj, restB_data, List.drop_zero]
theorem restB_next (s : ByteArray) (k : Nat) : (restB s k).extract 1 (restB s k).size = restB s (k + 1) := by
 apply ByteArray.ext
 rw [← Array.toList_inj]
 show (restB (restB s k) 1).data.toList = _
 rw [restB_data, restB_data, restB_data, List.drop_drop]
theorem restB_get {s : ByteArray} {k : Nat} : (restB s k).data.toList.getD 0 0 = s.data.toList.getD k 0 := by
 rw [restB_data, List.getD, List.getD, List.getElem?_drop, Nat.add_zero]
theorem restB_nil (s : ByteArray) (k : Nat) : ((restB s k).toList == (⟨#[]⟩ : ByteArray).toList) = decide (s.size ≤ k) := by
 rw [Lib.toList_data, Lib.toList_data, restB_data]
 have e : s.data.toList.length = s.size := Array.length_toList
 by_cases h : s.size ≤ k
 ·rw [decide_eq_true h, List.drop_eq_nil_of_le (by omega)]; rfl
 ·rw [decide_eq_false h, beq_eq_false_iff_ne]
  intro hh
  have := congrArg List.length hh
  rw [List.length_drop] at this
  simp at this
  omega
def iqAnn : Ann := [(0, [0, 4, 5, 30, 31]), (2, [0, 4, 5, 8, 9, 10, 11]), (4, [0, 4, 5, 8, 9, 10, 11, 12, 13, 14])]
def iqSt0 (s : ByteArray) (i : Nat) : St := ⟨[.v (.string s), .any, .any, .any, .ms (.l 0) 0 i i, .v (.string (restB s (plast (bz s) + 1).toNat)), .any, .any, .any, .any, .any, .any, .any, .any, .any, .any, .any, .any, .any, .any, .any, .any, .any, .any, .any, .any, .any, .any, .any, .any, .v (.int .i64 (plast (bz s))), .v (.int .i64 i), .any, .any, .any, .any, .any, .any, .any, .any, .any, .any, .any, .any, .any, .any, .any, .any, .any, .any, .any, .any, .any, .any, .any, .any, .any, .any, .any, .any, .any, .any, .any, .any, .any, .any, .any, .any, .any, .any, .any, .any, .any, .any, .any, .any, .any, .any, .any, .any, .any, .any, .any, .any, .any, .any, .any, .any, .any, .any, .any, .any, .any, .any, .any, .any, .any, .any, .any, .any, .any, .any, .any, .any, .any, .any, .any, .any, .any, .any, .any, .any, .any, .any, .any, .any, .any, .any, .any, .any, .any, .any, .any, .any, .any, .any, .any, .any, .any, .any], [(0, ⟨true, 1, false, ((bz s).take i).map intA⟩)], []⟩
def iqStJ (s : ByteArray) : St := ⟨[.v (.string s), .any, .any, .any, .ms (.l 0) 0 (plast (bz s)).toNat (plast (bz s)).toNat, .v (.string (restB s (plast (bz s) + 1).toNat)), .any, .any, .any, .any, .any, .any, .any, .any, .any, .any, .any, .any, .any, .any, .any, .any, .any, .any, .any, .any, .any, .any, .any, .any, .any, .any, .any, .any, .any, .any, .any, .any, .any, .any, .any, .any, .any, .any, .any, .any, .any, .any, .any, .any, .any, .any, .any, .any, .any, .any, .any, .any, .any, .any, .any, .any, .any, .any, .any, .any, .any, .any, .any, .any, .any, .any, .any, .any, .any, .any, .any, .any, .any, .any, .any, .any, .any, .any, .any, .any, .any, .any, .any, .any, .any, .any, .any, .any, .any, .any, .any, .any, .any, .any, .any, .any, .any, .any, .any, .any, .any, .any, .any, .any, .any, .any, .any, .any, .any, .any, .any, .any, .any, .any, .any, .any, .any, .any, .any, .any, .any, .any, .any, .any], [(0, ⟨true, 1, false, ((bz s).take (plast (bz s)).toNat).map intA⟩)], []⟩
def iqSt2 (s : ByteArray) (b : Nat) (p : PD) (at' : Nat) : St := ⟨[.v (.string s), .any, .any, .any, .ms (.l 0) 0 p.word.length p.word.length, .v (.string (restB s at')), .any, .any, .v (.int .i64 b), .v (.int .i64 p.n), .v (.int .i64 p.i), .v (.int .i64 p.bias), .any, .any, .any, .any, .any, .any, .any, .any, .any, .any, .any, .any, .any, .any, .any, .any, .any, .any, .any, .any, .any, .any, .any, .any, .any, .any, .any, .any, .any, .any, .any, .any, .any, .any, .any, .any, .any, .any, .any, .any, .any, .any, .any, .any, .any, .any, .any, .any, .any, .any, .any, .any, .any, .any, .any, .any, .any, .any, .any, .any, .any, .any, .any, .any, .any, .any, .any, .any, .any, .any, .any, .any, .any, .any, .any, .any, .any, .any, .any, .any, .any, .any, .any, .any, .any, .any, .any, .any, .any, .any, .any, .any, .any, .any, .any, .any, .any, .any, .any, .any, .any, .any, .any, .any, .any, .any, .any, .any, .any, .any, .any, .any, .any, .any, .any, .any, .any, .any], [(0, ⟨true, 1, false, p.word.map intA⟩)], []⟩
def iqSt4 (s : ByteArray) (b : Nat) (p : PD) (at' : Nat) (i w k : Int) : St := ⟨[.v (.string s), .any, .any, .any, .ms (.l 0) 0 p.word.length p.word.length, .v (.string (restB s at')), .any, .any, .v (.int .i64 b), .v (.int .i64 p.n), .v (.int .i64 i), .v (.int .i64 p.bias), .v (.int .i64 p.i), .v (.int .i64 w), .v (.int .i64 k), .any, .any, .any, .any, .any, .any, .any, .any, .any, .any, .any, .any, .any, .any, .any, .any, .any, .any, .any, .any, .any, .any, .any, .any, .any, .any, .any, .any, .any, .any, .any, .any, .any, .any, .any, .any, .any, .any, .any, .any, .any, .any, .any, .any, .any, .any, .any, .any, .any, .any, .any, .any, .any, .any, .any, .any, .any, .any, .any, .any, .any, .any, .any, .any, .any, .any, .any, .any, .any, .any, .any, .any, .any, .any, .any, .any, .any, .any, .any, .any, .any, .any, .any, .any, .any, .any, .any, .any, .any, .any, .any, .any, .any, .any, .any, .any, .any, .any, .any, .any, .any, .any, .any, .any, .any, .any, .any, .any, .any, .any, .any, .any, .any, .any, .any], [(0, ⟨true, 1, false, p.word.map intA⟩)], []⟩
structure PIok (s : ByteArray) (at' : Nat) (p : PD) : Prop where
 n0 : 0 ≤ p.n
 n1 : p.n ≤ 128 + 39582418599936 * at'
 i0 : 0 ≤ p.i
 i1 : p.i ≤ 100
 b0 : 0 ≤ p.bias
 b1 : p.bias ≤ 100000000000000
 w : p.word.length ≤ 60
set_option maxHeartbeats 8000000 in
include hm in
theorem implReadPuny (s : ByteArray) (h : s.size ≤ 1073741824) : Holds Tryz.prog 114 [.v (.string s)] [] (rdA (preadS (bz s))) [] := by
 refine holds_ref (ann := iqAnn) tabOk hm (byJ [(12, [0, 4, 5])] (byL [] [156, 1000116])) Tryz.func114 (by kernel_rfl) rfl ?_
 have hsz := bz_length s
 obtain ⟨R, hR⟩ : ∃ R, R = preadS (bz s) := ⟨_, rfl⟩
 rw [← hR]
 rw [← pread_same] at hR
 have nilR : LeD [.v (.slice none 0 0), .v (.bool false)] [.sl (.ow 1) [], .v (.bool false)] := .nils _ (.same _ .nil)
 simp +decide (maxSteps := 9^7) only [Tryz.f114, go_sem]
 refine Runs.split (fun g => ?_) (fun g => ?_)
 ·have g : 60 < s.size := by simp at g; omega
  rw [preadI, hsz, if_pos g] at hR
  subst hR
  simp +decide (maxSteps := 9^7) only [go_sem]
  exact Runs.ret (.tup nilR .nil) rfl
 ·have g : ¬ 60 < s.size := by simp at g; omega
  rw [preadI, hsz, if_neg g] at hR
  have hpl := plast_le (bz s)
  simp +decide (maxSteps := 9^7) only [go_sem]
  refine Runs.call (lastIndex hm s h) ?_
  simp +decide (maxSteps := 9^7) only [go_sem]
  refine Runs.meet (α := Unit) (keep := [0, 4, 5]) (kj := ?kj12) (fun _ => iqStJ s) ?tail12 ?w1 ?w2
  case w2 =>
   intro J e
   have e : plast (bz s) = -1 := by simp at e; omega
   have e1 : (plast (bz s)).toNat = 0 := by omega
   have e2 : (plast (bz s) + 1).toNat = 0 := by omega
   simp +decide (maxSteps := 9^7) only [go_sem]
   refine J () _ ?_
   simp [go_sem, iqStJ, e1, e2, restB_zero]
  case w1 =>
   intro J e
   have e : 0 ≤ plast (bz s) := by simpa using e
   have w1 : IntKind.i64.wrap (plast (bz s) + 1) = plast (bz s) + 1 := wrap_i64 (by omega) (by omega)
   have d1 : decide (0 ≤ plast (bz s) + 1 ∧ plast (bz s) + 1 ≤ (s.size : Int) ∧ (s.size : Int) ≤ (s.size : Int)) = true := by simp; omega
   have hrb : s.extract (plast (bz s) + 1).toNat s.size = restB s (plast (bz s) + 1).toNat := rfl
   simp +decide (maxSteps := 9^7) only [w1, d1, Int.toNat_natCast, hrb, go_sem]
   refine Runs.while (α := Nat) (iqSt0 s) (fun i => s.size - i) (fun i => i ≤ (plast (bz s)).toNat) 0 (by omega) ?_ ?_
   ·simp [go_sem, iqAnn, iqSt0]
   ·intro i hi ih
    simp +decide (maxSteps := 9^7) only [iqSt0, go_sem]
    refine Runs.split (fun h => ?_) (fun h => ?_)
    ·have hlt : (i : Int) < plast (bz s) := by simpa using h
     have hg := bz_get (s := s) (i := i) (by omega)
     have d2 : decide (0 ≤ (i : Int) ∧ (i : Int) < s.size) = true := by simp; omega
     have hb := bz_in (s := s) ((bz s)[i]'(by omega)) (List.getElem_mem _)
     have w2 : IntKind.i64.wrap ((bz s)[i]'(by omega)) = (bz s)[i]'(by omega) := wrap_i64 (by omega) (by omega)
     have ht : ((bz s).take (i + 1)).map intA = ((bz s).take i).map intA ++ [.v (.int .i64 ((bz s)[i]'(by omega)))] := by rw [List.take_succ_eq_append_getElem (by omega), List.map_append]; rfl
     have hL : (((bz s).take i).map intA).length = i := by simp; omega
     simp +decide (maxSteps := 9^7) (disch := first | omega | (simp only [ll]; omega)) only [d2, Int.toNat_natCast, hg, w2, hL, if_pos, go_sem]
     refine ih (i + 1) _ (by omega) (by omega) ?_
     simp [go_sem, iqAnn, iqSt0, ht, -List.take_append_getElem]
    ·have hge : i = (plast (bz s)).toNat := by simp at h; omega
     subst hge
     simp +decide (maxSteps := 9^7) only [go_sem]
     refine J () _ ?_
     simp [go_sem, iqStJ]
  case tail12 =>
   intro _
   obtain ⟨B, hB⟩ : ∃ B, B = ((plast (bz s)).toNat : Nat) := ⟨_, rfl⟩
   have hwl : ((bz s).take B).length = B := by rw [List.length_take]; omega
   have hat : (plast (bz s) + 1).toNat ≤ s.size := by omega
   simp +decide (maxSteps := 9^7) only [iqStJ, go_sem]
   rw [← hB] at hR ⊢
   simp +decide (maxSteps := 9^7) only [hwl, go_sem]
   refine Runs.while (α := Nat × PD) (fun p => iqSt2 s B p.2 p.1) (fun p => s.size - p.1) (fun p => p.1 ≤ s.size ∧ PIok s p.1 p.2 ∧ pfin (bz s) (poutI B ((bz s).drop p.1) p.2) = R) ((plast (bz s) + 1).toNat, ⟨(bz s).take B, 128, 0, 72⟩) ⟨hat, ⟨by simp, by simp only; omega, by simp, by simp, by simp, by simp, by simp only [hwl]; omega⟩, by rw [hR]⟩ ?_ ?_
   ·simp [go_sem, iqAnn, iqSt2, hwl]
   ·rintro ⟨at', p⟩ ⟨a1, ok, hf⟩ ih2
    simp only at a1 ok hf ih2
    obtain ⟨p1, p2, p3, p4, p5, p6, p7⟩ := ok
    have hnil := restB_nil s at'
    by_cases hs : at' = s.size ∨ 20 < p.word.length
    ·have hst : R = pfin (bz s) (some p.word) := by
      rw [← hf, poutI, if_pos]
      rcases hs with hh | hh
      ·left; rw [hh, ← hsz, List.drop_length]
      ·right; exact hh
     rw [pfin_some] at hst
     have hc : decide (s.size ≤ at') = true ∧ (True ∨ True) ∨ (decide (s.size ≤ at') = false ∧ ¬ (p.word.length : Int) ≤ 20) := by
      by_cases h1 : s.size ≤ at'
      ·left; exact ⟨by simpa using h1, .inl trivial⟩
      ·right; exact ⟨by simpa using h1, by omega⟩
     have hLn : (p.word.map intA).length = p.word.length := List.length_map _
     have hLt : List.take p.word.length (p.word.map intA) = p.word.map intA := take_map_len
     rcases hc with ⟨hc, hc2⟩ | ⟨hc, hc2⟩
     all_goals
      rw [hc] at hnil
      simp +decide (maxSteps := 9^7) only [iqSt2, hnil, hc2, hLn, hLt, go_sem]
      refine Runs.call (isWord hm p.word (by omega)) ?_
      cases hw : pwordB p.word
      ·rw [if_neg (by rw [hw]; simp)] at hst
       subst hst
       simp +decide (maxSteps := 9^7) only [go_sem]
       exact Runs.ret (.tup nilR .nil) rfl
      ·have hbe := bz_eq (pun_by hw) s
       simp +decide (maxSteps := 9^7) only [hLn, hLt, go_sem]
       refine Runs.call (puny hm p.word hw) ?_
       by_cases hpe : pun p.word = bz s
       ·rw [if_pos ⟨hw, hpe⟩] at hst
        subst hst
        rw [decide_eq_true hpe] at hbe
        simp +decide (maxSteps := 9^7) only [hbe, hLn, hLt, go_sem]
        exact Runs.ret_refl
       ·rw [if_neg (fun hh => hpe hh.2)] at hst
        subst hst
        rw [decide_eq_false hpe] at hbe
        simp +decide (maxSteps := 9^7) only [hbe, go_sem]
        exact Runs.ret (.tup nilR .nil) rfl
    ·have hlt : at' < s.size := by omega
     have h20 : (p.word.length : Int) ≤ 20 := by omega
     have hc : decide (s.size ≤ at') = false := by simp; omega
     rw [hc] at hnil
     have hne : (bz s).drop at' ≠ [] := by intro e; have := congrArg List.length e; rw [List.length_drop, hsz] at this; simp at this; omega
     rw [poutI_step hne (by omega)] at hf
     have hLn : (p.word.map intA).length = p.word.length := List.length_map _
     have hLt : List.take p.word.length (p.word.map intA) = p.word.map intA := take_map_len
     simp +decide (maxSteps := 9^7) only [iqSt2, hnil, h20, hLn, hLt, go_sem]
     refine Runs.while (α := Nat × Int × Int × Int) (fun q => iqSt4 s B p q.1 q.2.1 q.2.2.1 q.2.2.2) (fun q => s.size - q.1) (fun q => at' ≤ q.1 ∧ q.1 ≤ s.size ∧ pinn p.bias ((bz s).drop q.1) q.2.1 q.2.2.1 q.2.2.2 = pinn p.bias ((bz s).drop at') p.i 1 36 ∧ p.i ≤ q.2.1 ∧ q.2.1 ≤ 39582418599936 ∧ 0 ≤ q.2.2.1 ∧ q.2.2.1 ≤ 39582418599936 ∧ q.2.2.2 = 36 + 36 * ((q.1 : Int) - at')) (at', p.i, 1, 36) ⟨Nat.le_refl _, a1, rfl, by simp, by simp only; omega, by simp, by simp, by simp⟩ ?_ ?_
     ·simp [go_sem, iqAnn, iqSt4]
     ·rintro ⟨t, i, w, k⟩ ⟨t1, t2, t3, t4, t5, t6, t7, t8⟩ ih4
      simp only at t1 t2 t3 t4 t5 t6 t7 t8 ih4
      have hn4 := restB_nil s t
      by_cases e : t = s.size
      ·subst e
       rw [show (bz s).drop s.size = [] by rw [← hsz, List.drop_length], pinn] at t3
       rw [← t3] at hf
       simp only [pfin] at hf
       subst hf
       rw [decide_eq_true (Nat.le_refl _)] at hn4
       simp +decide (maxSteps := 9^7) only [iqSt4, hn4, go_sem]
       exact Runs.ret (.tup nilR .nil) rfl
      ·have e : t < s.size := by omega
       rw [decide_eq_false (by omega)] at hn4
       have hg := bz_get (s := s) (i := t) (by omega)
       have hb := bz_in (s := s) ((bz s)[t]'(by omega)) (List.getElem_mem _)
       have hdc := drop_cons (l := bz s) (i := t) (by omega)
       obtain ⟨x, hx⟩ : ∃ x, x = (bz s)[t]'(by omega) := ⟨_, rfl⟩
       rw [← hx] at hg hb hdc
       rw [hdc, pinn] at t3
       have hrs := restB_size s t
       have d1 : decide ((0 : Int) < ((s.size - t : Nat) : Int)) = true := by simp; omega
       have dq := digitOf hm ((restB s t).data.toList.getD 0 0)
       have hrg := restB_get (s := s) (k := t)
       rw [hrg, hg] at dq
       have hdg := pdig_in x
       have tz : Int.toNat 0 = 0 := rfl
       simp +decide (maxSteps := 9^7) only [iqSt4, hn4, hrs, d1, tz, hrg, hg, go_sem]
       refine Runs.call dq ?_
       by_cases c0 : pdig x < 0 ∨ 1099511627776 < i ∨ 1099511627776 < w
       ·rw [if_pos c0] at t3
        rw [← t3] at hf
        simp only [pfin] at hf
        subst hf
        by_cases c1 : pdig x < 0
        ·simp +decide (maxSteps := 9^7) only [c1, go_sem]
         exact Runs.ret (.tup nilR .nil) rfl
        ·by_cases c2 : 1099511627776 < i
         ·simp +decide (maxSteps := 9^7) only [c1, c2, go_sem]
          exact Runs.ret (.tup nilR .nil) rfl
         ·have c3 : 1099511627776 < w := by omega
          simp +decide (maxSteps := 9^7) only [c1, c2, c3, go_sem]
          exact Runs.ret (.tup nilR .nil) rfl
       ·rw [if_neg c0] at t3
        have c1 : ¬ pdig x < 0 := by omega
        have c2 : ¬ 1099511627776 < i := by omega
        have c3 : ¬ 1099511627776 < w := by omega
        have m1 : 0 ≤ pdig x * w := Int.mul_nonneg (by omega) t6
        have m2 : pdig x * w ≤ 35 * w := Int.mul_le_mul_of_nonneg_right (by omega) t6
        have wm : IntKind.i64.wrap (pdig x * w) = pdig x * w := wrap_i64 (by omega) (by omega)
        have wa : IntKind.i64.wrap (i + pdig x * w) = i + pdig x * w := wrap_i64 (by omega) (by omega)
        have ht := pthr_in k p.bias
        have d2 : decide (0 ≤ (1 : Int) ∧ (1 : Int) ≤ ((s.size - t : Nat) : Int) ∧ ((s.size - t : Nat) : Int) ≤ ((s.size - t : Nat) : Int)) = true := by simp; omega
        have d3 : decide ((1 : Int) ≤ ((s.size - t : Nat) : Int) ∧ ((s.size - t : Nat) : Int) ≤ ((s.size - t : Nat) : Int)) = true := by simp; omega
        have t1n : Int.toNat 1 = 1 := rfl
        have hnx := restB_next s t
        rw [hrs] at hnx
        simp +decide (maxSteps := 9^7) only [c1, c2, c3, hrs, d1, tz, hrg, hg, go_sem]
        refine Runs.call dq ?_
        simp +decide (maxSteps := 9^7) only [go_sem]
        refine Runs.call (threshold hm k p.bias (by omega) (by omega) (by omega) (by omega)) ?_
        simp +decide (maxSteps := 9^7) only [hrs, d2, d3, t1n, Int.toNat_natCast, hnx, wm, wa, go_sem]
        refine Runs.split (fun c => ?_) (fun c => ?_)
        ·have c : pdig x < pthr k p.bias := by simpa using c
         rw [if_pos c] at t3
         rw [← t3] at hf
         simp only [List.length_drop] at hf
         rw [if_pos (by omega)] at hf
         obtain ⟨j, hj⟩ : ∃ j, j = i + pdig x * w := ⟨_, rfl⟩
         rw [← hj] at hf ⊢
         have hm1 : (1 : Int) ≤ p.word.length + 1 := by omega
         have ps := pstep_in hm1 (j := j) (by omega)
         have bi := padapt_in (delta := j - p.i) (many := p.word.length + 1) (first := decide ((p.word.length : Int) = B)) (by omega) hm1
         have wl1 : IntKind.i64.wrap ((p.word.length : Int) + 1) = p.word.length + 1 := wrap_i64 (by omega) (by omega)
         have wj : IntKind.i64.wrap (j - p.i) = j - p.i := wrap_i64 (by omega) (by omega)
         have wq : IntKind.i64.wrap (j.tdiv (p.word.length + 1)) = j.tdiv (p.word.length + 1) := wrap_i64 (by omega) (by omega)
         have wn : IntKind.i64.wrap (p.n + j.tdiv (p.word.length + 1)) = p.n + j.tdiv (p.word.length + 1) := wrap_i64 (by omega) (by omega)
         have wr : IntKind.i64.wrap (j.tmod (p.word.length + 1) + 1) = j.tmod (p.word.length + 1) + 1 := wrap_i64 (by omega) (by omega)
         have dz : decide ((p.word.length : Int) + 1 ≠ 0) = true := by simp; omega
         have eb : ((p.word.length : Int) == (B : Int)) = decide ((p.word.length : Int) = (B : Int)) := int_beq
         obtain ⟨pl, hpl3⟩ : ∃ pl : Nat, j.tmod (p.word.length + 1) = pl := ⟨(j.tmod (p.word.length + 1)).toNat, by omega⟩
         have hple : pl ≤ p.word.length := by omega
         have hpl2 := pins_len p.word pl (p.n + j.tdiv (p.word.length + 1))
         have ci := insertH p.word pl (p.n + j.tdiv (p.word.length + 1)) hple (by omega)
         have ihh := ih2 (t + 1, pdStep B p j)
         simp only [pdStep, hpl3, Int.toNat_natCast] at ihh hf wr
         simp only [intA] at ci
         simp +decide (maxSteps := 9^7) only [hLn, hLt, wl1, wj, eb, go_sem]
         refine Runs.call (adapted hm (j - p.i) (p.word.length + 1) _ (by omega) (by omega) (by omega) (by omega)) ?_
         simp +decide (maxSteps := 9^7) only [hLn, hLt, wl1, wq, wn, dz, hpl3, go_sem]
         refine Runs.call ci ?_
         have hIn : ((pins p.word pl (p.n + j.tdiv (p.word.length + 1))).map intA).length = p.word.length + 1 := by rw [List.length_map, hpl2]
         simp +decide (maxSteps := 9^7) only [wr, hIn, go_sem]
         refine ihh _ (by omega) ⟨by omega, ⟨by simp only; omega, by simp only; omega, by simp only; omega, by simp only; omega, bi.1, by simp only; omega, by simp only; rw [hpl2]; omega⟩, hf⟩ ?_
         simp [go_sem, iqAnn, iqSt2, hpl2]
        ·have c : ¬ pdig x < pthr k p.bias := by simpa using c
         rw [if_neg c] at t3
         have m3 : w * (36 - pthr k p.bias) ≤ w * 35 := Int.mul_le_mul_of_nonneg_left (by omega) t6
         have m4 : 0 ≤ w * (36 - pthr k p.bias) := Int.mul_nonneg t6 (by omega)
         have w36 : IntKind.i64.wrap (36 - pthr k p.bias) = 36 - pthr k p.bias := wrap_i64 (by omega) (by omega)
         have ww : IntKind.i64.wrap (w * (36 - pthr k p.bias)) = w * (36 - pthr k p.bias) := wrap_i64 (by omega) (by omega)
         have wk : IntKind.i64.wrap (k + 36) = k + 36 := wrap_i64 (by omega) (by omega)
         simp +decide (maxSteps := 9^7) only [w36, ww, wk, go_sem]
         refine ih4 (t + 1, i + pdig x * w, w * (36 - pthr k p.bias), k + 36) _ (by simp only; omega) ⟨by simp only; omega, by simp only; omega, t3, by simp only; omega, by simp only; omega, m4, by simp only; omega, by simp only; omega⟩ ?_
         simp [go_sem, iqAnn, iqSt4]
end Go.Proofs.W
