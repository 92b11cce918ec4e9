import Derived.Test.YtedaabanlhbknaaGreatWalk1
set_option linter.unusedVariables false
set_option linter.unusedSimpArgs false
namespace Go.Proofs.W
open Go Go.AM
variable (hm : Tryz.prog.follows .mixedOrders = true)
def sumY : Nat → Nat
 | 0 => 0
 | k + 1 => sumY k + yl (1950 + k)
def sumM (y : Nat) : Nat → Nat
 | 0 => 0
 | k + 1 => sumM y k + ml y (k + 1)
theorem sumY_le : ∀ k, sumY k ≤ 366 * k
 | 0 => by simp [sumY]
 | k + 1 => by
  have := sumY_le k
  have h2 := feb_pos (1950 + k)
  rw [sumY, yl]; omega
theorem sumM_le (y : Nat) : ∀ k, sumM y k ≤ 31 * k
 | 0 => by simp [sumM]
 | k + 1 => by
  have := sumM_le y k
  have h2 := ml_bound y (k + 1)
  rw [sumM]; omega
def timeM (y m d s : Nat) : Int × Bool := if (1950 ≤ y ∧ y ≤ 2099) ∧ (1 ≤ m ∧ m ≤ 12) ∧ (1 ≤ d ∧ d ≤ ml y m) ∧ s ≤ 86399 then ((-7305 + sumY (y - 1950) + sumM y (m - 1) + d - 1) * 86400 + s, true) else (0, false)
def sToAnn : Ann := [(0, [0, 1, 2, 3, 10, 11]), (2, [0, 1, 2, 3, 10, 12])]
def sToSt (y m d s k : Nat) : St := ⟨[.v (.int .i64 y), .v (.int .i64 m), .v (.int .i64 d), .v (.int .i64 s), .any, .any, .any, .any, .any, .any, .v (.int .i64 ((-7305 : Int) + sumY k)), .v (.int .i64 ((1950 + k : Nat) : Int)), .any, .any, .any, .any, .any, .any, .any, .any, .any, .any, .any, .any, .any, .any, .any, .any, .any, .any, .any, .any, .any, .any, .any, .any, .any, .any, .any, .any, .any, .any, .any, .any, .any, .any, .any, .any, .any, .any, .any, .any, .any, .any, .any, .any, .any, .any, .any, .any], [], []⟩
def sToSu (y m d s k : Nat) : St := ⟨[.v (.int .i64 y), .v (.int .i64 m), .v (.int .i64 d), .v (.int .i64 s), .any, .any, .any, .any, .any, .any, .v (.int .i64 ((-7305 : Int) + sumY (y - 1950) + sumM y k)), .any, .v (.int .i64 ((k + 1 : Nat) : Int)), .any, .any, .any, .any, .any, .any, .any, .any, .any, .any, .any, .any, .any, .any, .any, .any, .any, .any, .any, .any, .any, .any, .any, .any, .any, .any, .any, .any, .any, .any, .any, .any, .any, .any, .any, .any, .any, .any, .any, .any, .any, .any, .any, .any, .any, .any, .any], [], []⟩
set_option maxRecDepth 10000 in
set_option maxHeartbeats 4000000 in
include hm in
theorem sTimeOf (y m d s : Nat) (hd : d ≤ 1000) : Holds Tryz.prog 40 [.v (.int .i64 y), .v (.int .i64 m), .v (.int .i64 d), .v (.int .i64 s)] [] (.tup [.v (.int .i64 (timeM y m d s).1), .v (.bool (timeM y m d s).2)]) [] := by
 refine holds_of (ann := sToAnn) tabOk hm Tryz.func40 (by kernel_rfl) rfl ?_
 simp +decide (maxSteps := 9^7) only [↓reduceIte, Tryz.f40, go_sem]
 refine Runs.call (l1In hm y 1950 2099) ?_
 cases h1 : inB y 1950 2099
 ·simp +decide (maxSteps := 9^7) only [↓reduceIte, go_sem]
  have hr : timeM y m d s = (0, false) := by rw [timeM, if_neg (by simp [inB] at h1; omega)]
  rw [hr]
  simp +decide (maxSteps := 9^7) only [↓reduceIte, go_sem]
  exact Runs.ret_refl
 have h1' : 1950 ≤ y ∧ y ≤ 2099 := by simp [inB] at h1; omega
 simp +decide (maxSteps := 9^7) only [↓reduceIte, go_sem]
 refine Runs.call (l1In hm m 1 12) ?_
 cases h2 : inB m 1 12
 ·simp +decide (maxSteps := 9^7) only [↓reduceIte, go_sem]
  have hr : timeM y m d s = (0, false) := by rw [timeM, if_neg (by simp [inB] at h2; omega)]
  rw [hr]
  simp +decide (maxSteps := 9^7) only [↓reduceIte, go_sem]
  exact Runs.ret_refl
 have h2' : 1 ≤ m ∧ m ≤ 12 := by simp [inB] at h2; omega
 simp +decide (maxSteps := 9^7) only [↓reduceIte, go_sem]
 refine Runs.call (l9Days hm y m h2'.1 h2'.2) ?_
 simp +decide (maxSteps := 9^7) only [↓reduceIte, go_sem]
 refine Runs.call (l1In hm d 1 (ml y m)) ?_
 cases h3 : inB d 1 (ml y m)
 ·simp +decide (maxSteps := 9^7) only [↓reduceIte, go_sem]
  have hr : timeM y m d s = (0, false) := by rw [timeM, if_neg (by simp [inB] at h3; omega)]
  rw [hr]
  simp +decide (maxSteps := 9^7) only [↓reduceIte, go_sem]
  exact Runs.ret_refl
 have h3' : 1 ≤ d ∧ d ≤ ml y m := by simp [inB] at h3; omega
 simp +decide (maxSteps := 9^7) only [↓reduceIte, go_sem]
 refine Runs.call (l1In hm s 0 86399) ?_
 cases h4 : inB s 0 86399
 ·simp +decide (maxSteps := 9^7) only [↓reduceIte, go_sem]
  have hr : timeM y m d s = (0, false) := by rw [timeM, if_neg (by simp [inB] at h4; omega)]
  rw [hr]
  simp +decide (maxSteps := 9^7) only [↓reduceIte, go_sem]
  exact Runs.ret_refl
 have h4' : s ≤ 86399 := by simp [inB] at h4; omega
 have hm31 := ml_bound y m
 have hr : timeM y m d s = (((-7305 : Int) + sumY (y - 1950) + sumM y (m - 1) + d - 1) * 86400 + s, true) := by rw [timeM, if_pos ⟨h1', h2', h3', h4'⟩]
 rw [hr]
 clear hr h1 h2 h3 h4
 have hY : ∀ k, k ≤ 150 → (0 : Int) ≤ sumY k ∧ (sumY k : Int) ≤ 54900 := fun k hk => by have := sumY_le k; omega
 have hM : ∀ k, k ≤ 12 → (0 : Int) ≤ sumM y k ∧ (sumM y k : Int) ≤ 372 := fun k hk => by have := sumM_le y k; omega
 simp +decide (maxSteps := 9^7) only [↓reduceIte, go_sem]
 refine Runs.while (α := Nat) (sToSt y m d s) (fun k => y - 1950 - k) (fun k => 1950 + k ≤ y) 0 (by omega) ?_ ?_
 ·simp [go_sem, sToAnn, sToSt, sumY]
 intro k hk ih
 have hb1 := hY k (by omega)
 have hb2 := hY (k + 1) (by omega)
 simp +decide (maxSteps := 9^7) only [↓reduceIte, sToSt, go_sem]
 refine Runs.split (fun h => ?_) (fun h => ?_)
 ·have hlt : 1950 + k < y := by simp at h; omega
  have wa : IntKind.i64.wrap ((-7305 : Int) + sumY k + (yl (1950 + k) : Int)) = (-7305 : Int) + sumY (k + 1) := by
   have e : ((sumY (k + 1) : Nat) : Int) = sumY k + yl (1950 + k) := by rw [sumY]; omega
   rw [wrap_i64 (by omega) (by omega)]; omega
  have wi : IntKind.i64.wrap (((1950 + k : Nat) : Int) + 1) = ((1950 + (k + 1) : Nat) : Int) := by rw [wrap_i64 (by omega) (by omega)]; omega
  simp +decide (maxSteps := 9^7) only [↓reduceIte, go_sem]
  refine Runs.call (l9Year hm (1950 + k)) ?_
  simp +decide (maxSteps := 9^7) only [↓reduceIte, wa, wi, go_sem]
  refine ih (k + 1) _ (by omega) (by omega) ?_
  simp [go_sem, sToAnn, sToSt]
 have hge : k = y - 1950 := by simp at h; omega
 subst hge
 have hb3 := hY (y - 1950) (by omega)
 simp +decide (maxSteps := 9^7) only [↓reduceIte, go_sem]
 refine Runs.while (α := Nat) (sToSu y m d s) (fun k => m - k) (fun k => k + 1 ≤ m) 0 (by omega) ?_ ?_
 ·simp [go_sem, sToAnn, sToSu, sumM]
 intro k hk ih
 have hc1 := hM k (by omega)
 have hc2 := hM (k + 1) (by omega)
 simp +decide (maxSteps := 9^7) only [↓reduceIte, sToSu, go_sem]
 refine Runs.split (fun h => ?_) (fun h => ?_)
 ·have hlt : k + 1 < m := by simp at h; omega
  have wa : IntKind.i64.wrap ((-7305 : Int) + sumY (y - 1950) + sumM y k + (ml y (k + 1) : Int)) = (-7305 : Int) + sumY (y - 1950) + sumM y (k + 1) := by
   have e : ((sumM y (k + 1) : Nat) : Int) = sumM y k + ml y (k + 1) := by rw [sumM]; omega
   rw [wrap_i64 (by omega) (by omega)]; omega
  have wi : IntKind.i64.wrap (((k + 1 : Nat) : Int) + 1) = ((k + 1 + 1 : Nat) : Int) := by rw [wrap_i64 (by omega) (by omega)]; omega
  simp +decide (maxSteps := 9^7) only [↓reduceIte, go_sem]
  refine Runs.call (l9Days hm y (k + 1) (by omega) (by omega)) ?_
  simp +decide (maxSteps := 9^7) only [↓reduceIte, wa, wi, go_sem]
  refine ih (k + 1) _ (by omega) (by omega) ?_
  simp [go_sem, sToAnn, sToSu]
 ·have hge : m - 1 = k := by simp at h; omega
  rw [hge]
  have tail : True := trivial
  have w1 : IntKind.i64.wrap ((-7305 : Int) + sumY (y - 1950) + sumM y k + d) = (-7305 : Int) + sumY (y - 1950) + sumM y k + d := wrap_i64 (by omega) (by omega)
  have w2 : IntKind.i64.wrap ((-7305 : Int) + sumY (y - 1950) + sumM y k + d - 1) = (-7305 : Int) + sumY (y - 1950) + sumM y k + d - 1 := wrap_i64 (by omega) (by omega)
  have w3 : IntKind.i64.wrap (((-7305 : Int) + sumY (y - 1950) + sumM y k + d - 1) * 86400) = ((-7305 : Int) + sumY (y - 1950) + sumM y k + d - 1) * 86400 := wrap_i64 (by omega) (by omega)
  have w4 : IntKind.i64.wrap (((-7305 : Int) + sumY (y - 1950) + sumM y k + d - 1) * 86400 + s) = ((-7305 : Int) + sumY (y - 1950) + sumM y k + d - 1) * 86400 + s := wrap_i64 (by omega) (by omega)
  simp +decide (maxSteps := 9^7) only [↓reduceIte, w1, w2, w3, w4, go_sem]
  exact Runs.ret_refl
def iToAnn : Ann := [(0, [0, 1, 2, 3, 10, 11]), (2, [0, 1, 2, 3, 10, 12])]
def iToSt (y m d s k : Nat) : St := ⟨[.v (.int .i64 y), .v (.int .i64 m), .v (.int .i64 d), .v (.int .i64 s), .any, .any, .any, .any, .any, .any, .v (.int .i64 (((d : Int) - 1) + sumY k)), .v (.int .i64 ((1950 + k : Nat) : Int)), .any, .any, .any, .any, .any, .any, .any, .any, .any, .any, .any, .any, .any, .any, .any, .any, .any, .any, .any, .any, .any, .any, .any, .any, .any, .any, .any, .any, .any, .any, .any, .any, .any, .any, .any, .any, .any, .any, .any, .any, .any, .any, .any, .any, .any, .any, .any, .any], [], []⟩
def iToSu (y m d s k : Nat) : St := ⟨[.v (.int .i64 y), .v (.int .i64 m), .v (.int .i64 d), .v (.int .i64 s), .any, .any, .any, .any, .any, .any, .v (.int .i64 (((d : Int) - 1) + sumY (y - 1950) + sumM y k)), .any, .v (.int .i64 ((k + 1 : Nat) : Int)), .any, .any, .any, .any, .any, .any, .any, .any, .any, .any, .any, .any, .any, .any, .any, .any, .any, .any, .any, .any, .any, .any, .any, .any, .any, .any, .any, .any, .any, .any, .any, .any, .any, .any, .any, .any, .any, .any, .any, .any, .any, .any, .any, .any, .any, .any, .any], [], []⟩
set_option maxRecDepth 10000 in
set_option maxHeartbeats 4000000 in
include hm in
theorem iTimeOf (y m d s : Nat) (hd : d ≤ 1000) : Holds Tryz.prog 77 [.v (.int .i64 y), .v (.int .i64 m), .v (.int .i64 d), .v (.int .i64 s)] [] (.tup [.v (.int .i64 (timeM y m d s).1), .v (.bool (timeM y m d s).2)]) [] := by
 have wz : IntKind.i64.wrap ((d : Int) - 1) = (d : Int) - 1 := wrap_i64 (by omega) (by omega)
 refine holds_of (ann := iToAnn) tabOk hm Tryz.func77 (by kernel_rfl) rfl ?_
 simp +decide (maxSteps := 9^7) only [↓reduceIte, Tryz.f77, go_sem]
 refine Runs.call (within hm y 1950 2099) ?_
 cases h1 : inB y 1950 2099
 ·simp +decide (maxSteps := 9^7) only [↓reduceIte, go_sem]
  have hr : timeM y m d s = (0, false) := by rw [timeM, if_neg (by simp [inB] at h1; omega)]
  rw [hr]
  simp +decide (maxSteps := 9^7) only [↓reduceIte, go_sem]
  exact Runs.ret_refl
 have h1' : 1950 ≤ y ∧ y ≤ 2099 := by simp [inB] at h1; omega
 simp +decide (maxSteps := 9^7) only [↓reduceIte, go_sem]
 refine Runs.call (within hm m 1 12) ?_
 cases h2 : inB m 1 12
 ·simp +decide (maxSteps := 9^7) only [↓reduceIte, go_sem]
  have hr : timeM y m d s = (0, false) := by rw [timeM, if_neg (by simp [inB] at h2; omega)]
  rw [hr]
  simp +decide (maxSteps := 9^7) only [↓reduceIte, go_sem]
  exact Runs.ret_refl
 have h2' : 1 ≤ m ∧ m ≤ 12 := by simp [inB] at h2; omega
 simp +decide (maxSteps := 9^7) only [↓reduceIte, go_sem]
 refine Runs.call (daysIn hm y m h2'.1 h2'.2) ?_
 simp +decide (maxSteps := 9^7) only [↓reduceIte, go_sem]
 refine Runs.call (within hm d 1 (ml y m)) ?_
 cases h3 : inB d 1 (ml y m)
 ·simp +decide (maxSteps := 9^7) only [↓reduceIte, go_sem]
  have hr : timeM y m d s = (0, false) := by rw [timeM, if_neg (by simp [inB] at h3; omega)]
  rw [hr]
  simp +decide (maxSteps := 9^7) only [↓reduceIte, go_sem]
  exact Runs.ret_refl
 have h3' : 1 ≤ d ∧ d ≤ ml y m := by simp [inB] at h3; omega
 simp +decide (maxSteps := 9^7) only [↓reduceIte, go_sem]
 refine Runs.call (within hm s 0 86399) ?_
 cases h4 : inB s 0 86399
 ·simp +decide (maxSteps := 9^7) only [↓reduceIte, go_sem]
  have hr : timeM y m d s = (0, false) := by rw [timeM, if_neg (by simp [inB] at h4; omega)]
  rw [hr]
  simp +decide (maxSteps := 9^7) only [↓reduceIte, go_sem]
  exact Runs.ret_refl
 have h4' : s ≤ 86399 := by simp [inB] at h4; omega
 have hm31 := ml_bound y m
 have hr : timeM y m d s = (((-7305 : Int) + sumY (y - 1950) + sumM y (m - 1) + d - 1) * 86400 + s, true) := by rw [timeM, if_pos ⟨h1', h2', h3', h4'⟩]
 rw [hr]
 clear hr h1 h2 h3 h4
 have hY : ∀ k, k ≤ 150 → (0 : Int) ≤ sumY k ∧ (sumY k : Int) ≤ 54900 := fun k hk => by have := sumY_le k; omega
 have hM : ∀ k, k ≤ 12 → (0 : Int) ≤ sumM y k ∧ (sumM y k : Int) ≤ 372 := fun k hk => by have := sumM_le y k; omega
 simp +decide (maxSteps := 9^7) only [↓reduceIte, wz, go_sem]
 refine Runs.while (α := Nat) (iToSt y m d s) (fun k => y - 1950 - k) (fun k => 1950 + k ≤ y) 0 (by omega) ?_ ?_
 ·simp [go_sem, iToAnn, iToSt, sumY]
 intro k hk ih
 have hb1 := hY k (by omega)
 have hb2 := hY (k + 1) (by omega)
 simp +decide (maxSteps := 9^7) only [↓reduceIte, iToSt, go_sem]
 refine Runs.split (fun h => ?_) (fun h => ?_)
 ·have hlt : 1950 + k < y := by simp at h; omega
  have wa : IntKind.i64.wrap (((d : Int) - 1) + sumY k + (yl (1950 + k) : Int)) = ((d : Int) - 1) + sumY (k + 1) := by
   have e : ((sumY (k + 1) : Nat) : Int) = sumY k + yl (1950 + k) := by rw [sumY]; omega
   rw [wrap_i64 (by omega) (by omega)]; omega
  have wi : IntKind.i64.wrap (((1950 + k : Nat) : Int) + 1) = ((1950 + (k + 1) : Nat) : Int) := by rw [wrap_i64 (by omega) (by omega)]; omega
  simp +decide (maxSteps := 9^7) only [↓reduceIte, go_sem]
  refine Runs.call (daysOf hm (1950 + k)) ?_
  simp +decide (maxSteps := 9^7) only [↓reduceIte, wa, wi, go_sem]
  refine ih (k + 1) _ (by omega) (by omega) ?_
  simp [go_sem, iToAnn, iToSt]
 have hge : k = y - 1950 := by simp at h; omega
 subst hge
 have hb3 := hY (y - 1950) (by omega)
 simp +decide (maxSteps := 9^7) only [↓reduceIte, go_sem]
 refine Runs.while (α := Nat) (iToSu y m d s) (fun k => m - k) (fun k => k + 1 ≤ m) 0 (by omega) ?_ ?_
 ·simp [go_sem, iToAnn, iToSu, sumM]
 intro k hk ih
 have hc1 := hM k (by omega)
 have hc2 := hM (k + 1) (by omega)
 simp +decide (maxSteps := 9^7) only [↓reduceIte, iToSu, go_sem]
 refine Runs.split (fun h => ?_) (fun h => ?_)
 ·have hlt : k + 1 < m := by simp at h; omega
  have wa : IntKind.i64.wrap (((d : Int) - 1) + sumY (y - 1950) + sumM y k + (ml y (k + 1) : Int)) = ((d : Int) - 1) + sumY (y - 1950) + sumM y (k + 1) := by
   have e : ((sumM y (k + 1) : Nat) : Int) = sumM y k + ml y (k + 1) := by rw [sumM]; omega
   rw [wrap_i64 (by omega) (by omega)]; omega
  have wi : IntKind.i64.wrap (((k + 1 : Nat) : Int) + 1) = ((k + 1 + 1 : Nat) : Int) := by rw [wrap_i64 (by omega) (by omega)]; omega
  simp +decide (maxSteps := 9^7) only [↓reduceIte, go_sem]
  refine Runs.call (daysIn hm y (k + 1) (by omega) (by omega)) ?_
  simp +decide (maxSteps := 9^7) only [↓reduceIte, wa, wi, go_sem]
  refine ih (k + 1) _ (by omega) (by omega) ?_
  simp [go_sem, iToAnn, iToSu]
 ·have hge : m - 1 = k := by simp at h; omega
  rw [hge]
  have tail : True := trivial
  have w1 : IntKind.i64.wrap (((d : Int) - 1 + sumY (y - 1950) + sumM y k) * 86400) = ((d : Int) - 1 + sumY (y - 1950) + sumM y k) * 86400 := wrap_i64 (by omega) (by omega)
  have w2 : IntKind.i64.wrap (-631152000 + ((d : Int) - 1 + sumY (y - 1950) + sumM y k) * 86400) = -631152000 + ((d : Int) - 1 + sumY (y - 1950) + sumM y k) * 86400 := wrap_i64 (by omega) (by omega)
  have w3 : IntKind.i64.wrap (-631152000 + ((d : Int) - 1 + sumY (y - 1950) + sumM y k) * 86400 + s) = -631152000 + ((d : Int) - 1 + sumY (y - 1950) + sumM y k) * 86400 + s := wrap_i64 (by omega) (by omega)
  have w4 := w3
  simp +decide (maxSteps := 9^7) only [↓reduceIte, w1, w2, w3, w4, go_sem]
  have e : -631152000 + ((d : Int) - 1 + sumY (y - 1950) + sumM y k) * 86400 + s = ((-7305 : Int) + sumY (y - 1950) + sumM y k + d - 1) * 86400 + s := by omega
  rw [e]
  exact Runs.ret_refl
end Go.Proofs.W

namespace Go.Proofs.W
open Go Go.AM
variable (hm : Tryz.prog.follows .mixedOrders = true)
def dgC (b : UInt8) : Bool := inB b.toNat 48 57
def cg (s : ByteArray) (i : Nat) : UInt8 := s.data.toList.getD i 0
def dg (s : ByteArray) (i : Nat) : Nat := (cg s i).toNat - 48
def vA (s : ByteArray) (i : Nat) : Nat := 10 * dg s (2 * i) + dg s (2 * i + 1)
def okD (s : ByteArray) : Bool := s.data.toList.all dgC
def yearV (s : ByteArray) : Nat := if s.size = 15 then 100 * vA s 0 + vA s 1 else if vA s 0 < 50 then 2000 + vA s 0 else 1900 + vA s 0
def offV (s : ByteArray) : Nat := if s.size = 15 then 1 else 0
def rdTime (s : ByteArray) : Int × Bool :=
 if (s.size = 13 ∨ s.size = 15) ∧ cg s (s.size - 1) = 90 ∧ okD (s.extract 0 (s.size - 1)) = true then
  (if 23 < vA s (3 + offV s) ∨ 59 < vA s (4 + offV s) ∨ 59 < vA s (5 + offV s) then (0, false)
  else timeM (yearV s) (vA s (1 + offV s)) (vA s (2 + offV s)) (3600 * vA s (3 + offV s) + 60 * vA s (4 + offV s) + vA s (5 + offV s)))
 else (0, false)
theorem ext_list (s : ByteArray) (n : Nat) : (s.extract 0 n).data.toList = s.data.toList.take n := by simp
theorem okD_get {s : ByteArray} {n i : Nat} (h : okD (s.extract 0 n) = true) (hi : i < n) (hn : n ≤ s.size) : 48 ≤ (cg s i).toNat ∧ (cg s i).toNat ≤ 57 := by
 rw [okD, ext_list, List.all_eq_true] at h
 have hl : s.data.toList.length = s.size := rfl
 have hil : i < s.data.toList.length := by omega
 have e : cg s i = s.data.toList[i] := by rw [cg, List.getD, List.getElem?_eq_getElem hil]; rfl
 have hm : s.data.toList[i] ∈ s.data.toList.take n := by
  rw [List.mem_take_iff_getElem]
  exact ⟨i, by omega, rfl⟩
 have := h _ hm
 rw [← e, dgC, inB] at this
 simp at this
 omega
def ldAnn : Ann := [(0, [0, 3])]
def ldSt (s : ByteArray) (i : Nat) : St := ⟨[.v (.string s), .any, .any, .v (.int .i64 i), .any, .any, .any, .any, .any, .any, .any, .any, .any, .any, .any, .any, .any, .any, .any], [], []⟩
set_option maxRecDepth 10000 in
include hm in
theorem digitsS (s : ByteArray) (h : s.size ≤ 1048576) : Holds Tryz.prog 39 [.v (.string s)] [] (.v (.bool (okD s && decide ((s.size : Int) > 0)))) [] := by
 have hz : s.data.toList.length = s.size := rfl
 refine holds_of (ann := ldAnn) tabOk hm Tryz.func39 (by kernel_rfl) rfl ?_
 simp +decide (maxSteps := 9^7) only [↓reduceIte, Tryz.f39, go_sem]
 refine Runs.while (α := Nat) (ldSt s) (fun i => s.size - i) (fun i => i ≤ s.size ∧ (s.data.toList.drop i).all dgC = s.data.toList.all dgC) 0 ⟨by omega, by simp⟩ ?_ ?_
 ·simp [go_sem, ldAnn, ldSt]
 ·rintro i ⟨hi, hr⟩ ih
  simp +decide (maxSteps := 9^7) only [↓reduceIte, ldSt, go_sem]
  refine Runs.split (fun h => ?_) (fun h => ?_)
  ·have hlt : i < s.data.toList.length := by simp at h; omega
   have hg : s.data.toList.getD i 0 = s.data.toList[i] := by rw [List.getD, List.getElem?_eq_getElem hlt]; rfl
   have hb := UInt8.toNat_lt s.data.toList[i]
   have r : decide (0 ≤ (i : Int) ∧ (i : Int) < (s.size : Int)) = true := by simp; omega
   have k : IntKind.i64.wrap (s.data.toList[i].toNat : Int) = s.data.toList[i].toNat := wrap_i64 (by omega) (by omega)
   have w : IntKind.i64.wrap ((i : Int) + 1) = ((i + 1 : Nat) : Int) := by rw [wrap_i64 (by omega) (by omega)]; rfl
   rw [List.drop_eq_getElem_cons hlt, List.all_cons] at hr
   simp +decide (maxSteps := 9^7) only [↓reduceIte, hg, r, k, Int.toNat_natCast, go_sem]
   refine Runs.call (l1In hm _ 48 57) ?_
   cases h2 : inB s.data.toList[i].toNat 48 57
   ·simp +decide (maxSteps := 9^7) only [↓reduceIte, go_sem]
    exact Runs.ret_eq (by rw [okD, ← hr, dgC, h2]; rfl)
   ·rw [dgC, h2, Bool.true_and] at hr
    simp +decide (maxSteps := 9^7) only [↓reduceIte, w, go_sem]
    refine ih (i + 1) _ (by omega) ⟨by omega, hr⟩ ?_
    simp [go_sem, ldAnn, ldSt]
  ·have hge : i = s.size := by simp at h; omega
   rw [List.drop_of_length_le (by omega), List.all_nil] at hr
   simp +decide (maxSteps := 9^7) only [↓reduceIte, go_sem]
   exact Runs.ret_eq (by rw [okD, ← hr]; rfl)
def rowV (s : ByteArray) (k : Nat) : List A := (List.range k).map fun i => .v (.int .i64 (vA s i))
theorem rowV_succ (s : ByteArray) (k : Nat) : rowV s (k + 1) = rowV s k ++ [.v (.int .i64 (vA s k))] := by simp [rowV, List.range_succ]
theorem rowV_len (s : ByteArray) (k : Nat) : (rowV s k).length = k := by simp [rowV]
theorem rowV_get (s : ByteArray) {k i : Nat} (h : i < k) : (rowV s k).getD i .any = .v (.int .i64 (vA s i)) := by simp [rowV, List.getD, h]
def rtAnn : Ann := [(0, [0, 4, 5, 6])]
def rtSt (s : ByteArray) (N : Int) (k : Nat) : St := ⟨[.v (.string s), .any, .any, .any, .v (.int .i64 N), .ms (.l 0) 0 k k, .v (.int .i64 ((2 * k : Nat) : Int)), .any, .any, .any, .any, .any, .any, .any, .any, .any, .any, .any, .any, .any, .any, .any, .any, .any, .any, .any, .any, .any, .any, .any, .any, .any, .any, .any, .any, .any, .any, .any, .any, .any, .any, .any, .any, .any, .any, .any, .any, .any, .any, .any, .any, .any, .any, .any, .any, .any, .any, .any, .any, .any, .any, .any, .any, .any, .any, .any, .any, .any, .any, .any, .any, .any, .any, .any, .any, .any, .any, .any, .any, .any, .any, .any, .any, .any, .any, .any, .any, .any, .any, .any, .any, .any, .any, .any, .any, .any, .any, .any, .any, .any, .any, .any, .any, .any, .any, .any, .any, .any, .any, .any, .any, .any, .any, .any, .any, .any, .any], [(0, ⟨true, 1, false, rowV s k⟩)], []⟩
def rtS8 : Sched := .take 0 (.take 1 (.take 2 (.take 3 (.take 4 (.take 7 (.take 8 (.take 9 (.take 10 (.take 11 (.alt 5 (.take 6 (.alt 12 (.take 13 (.alt 14 (.alt 15 (.take 16 .fin) .nil) .nil)) .nil)) (.alt 12 (.alt 5 (.take 6 (.take 13 (.alt 14 (.alt 15 (.take 16 .fin) .nil) .nil))) .nil) .nil)))))))))))
def rtS11 : Sched := .take 0 (.take 1 (.take 4 (.take 5 (.alt 2 (.take 3 (.alt 6 (.take 7 (.take 8 .fin)) .nil)) (.alt 6 (.alt 2 (.take 3 (.take 7 (.take 8 .fin))) .nil) .nil)))))
def rtS17 : Sched := .take 0 (.take 1 (.take 2 (.take 4 (.take 5 (.take 7 (.take 8 (.take 11 (.take 12 (.take 16 (.take 17 (.alt 3 (.alt 6 (.alt 9 (.take 10 (.alt 13 (.take 14 (.take 15 (.alt 18 (.take 19 (.alt 20 (.take 21 (.take 22 (.take 23 (.take 24 .fin)))) .nil)) .nil))) (.alt 18 (.alt 13 (.take 14 (.take 15 (.take 19 (.alt 20 (.take 21 (.take 22 (.take 23 (.take 24 .fin)))) .nil)))) .nil) .nil))) (.alt 13 (.take 14 (.alt 9 (.take 10 (.take 15 (.alt 18 (.take 19 (.alt 20 (.take 21 (.take 22 (.take 23 (.take 24 .fin)))) .nil)) .nil))) (.alt 18 (.alt 9 (.take 10 (.take 15 (.take 19 (.alt 20 (.take 21 (.take 22 (.take 23 (.take 24 .fin)))) .nil)))) .nil) .nil))) (.alt 18 (.alt 9 (.take 10 (.alt 13 (.take 14 (.take 15 (.take 19 (.alt 20 (.take 21 (.take 22 (.take 23 (.take 24 .fin)))) .nil)))) .nil)) (.alt 13 (.take 14 (.alt 9 (.take 10 (.take 15 (.take 19 (.alt 20 (.take 21 (.take 22 (.take 23 (.take 24 .fin)))) .nil)))) .nil)) .nil)) .nil))) (.alt 9 (.take 10 (.alt 6 (.alt 13 (.take 14 (.take 15 (.alt 18 (.take 19 (.alt 20 (.take 21 (.take 22 (.take 23 (.take 24 .fin)))) .nil)) .nil))) (.alt 18 (.alt 13 (.take 14 (.take 15 (.take 19 (.alt 20 (.take 21 (.take 22 (.take 23 (.take 24 .fin)))) .nil)))) .nil) .nil)) (.alt 13 (.take 14 (.take 15 (.alt 6 (.alt 18 (.take 19 (.alt 20 (.take 21 (.take 22 (.take 23 (.take 24 .fin)))) .nil)) .nil) (.alt 18 (.take 19 (.alt 6 (.alt 20 (.take 21 (.take 22 (.take 23 (.take 24 .fin)))) .nil) .nil)) .nil)))) (.alt 18 (.alt 6 (.alt 13 (.take 14 (.take 15 (.take 19 (.alt 20 (.take 21 (.take 22 (.take 23 (.take 24 .fin)))) .nil)))) .nil) (.alt 13 (.take 14 (.take 15 (.take 19 (.alt 6 (.alt 20 (.take 21 (.take 22 (.take 23 (.take 24 .fin)))) .nil) .nil)))) .nil)) .nil)))) (.alt 13 (.take 14 (.alt 6 (.alt 9 (.take 10 (.take 15 (.alt 18 (.take 19 (.alt 20 (.take 21 (.take 22 (.take 23 (.take 24 .fin)))) .nil)) .nil))) (.alt 18 (.alt 9 (.take 10 (.take 15 (.take 19 (.alt 20 (.take 21 (.take 22 (.take 23 (.take 24 .fin)))) .nil)))) .nil) .nil)) (.alt 9 (.take 10 (.take 15 (.alt 6 (.alt 18 (.take 19 (.alt 20 (.take 21 (.take 22 (.take 23 (.take 24 .fin)))) .nil)) .nil) (.alt 18 (.take 19 (.alt 6 (.alt 20 (.take 21 (.take 22 (.take 23 (.take 24 .fin)))) .nil) .nil)) .nil)))) (.alt 18 (.alt 6 (.alt 9 (.take 10 (.take 15 (.take 19 (.alt 20 (.take 21 (.take 22 (.take 23 (.take 24 .fin)))) .nil)))) .nil) (.alt 9 (.take 10 (.take 15 (.take 19 (.alt 6 (.alt 20 (.take 21 (.take 22 (.take 23 (.take 24 .fin)))) .nil) .nil)))) .nil)) .nil)))) (.alt 18 (.alt 6 (.alt 9 (.take 10 (.alt 13 (.take 14 (.take 15 (.take 19 (.alt 20 (.take 21 (.take 22 (.take 23 (.take 24 .fin)))) .nil)))) .nil)) (.alt 13 (.take 14 (.alt 9 (.take 10 (.take 15 (.take 19 (.alt 20 (.take 21 (.take 22 (.take 23 (.take 24 .fin)))) .nil)))) .nil)) .nil)) (.alt 9 (.take 10 (.alt 6 (.alt 13 (.take 14 (.take 15 (.take 19 (.alt 20 (.take 21 (.take 22 (.take 23 (.take 24 .fin)))) .nil)))) .nil) (.alt 13 (.take 14 (.take 15 (.take 19 (.alt 6 (.alt 20 (.take 21 (.take 22 (.take 23 (.take 24 .fin)))) .nil) .nil)))) .nil))) (.alt 13 (.take 14 (.alt 6 (.alt 9 (.take 10 (.take 15 (.take 19 (.alt 20 (.take 21 (.take 22 (.take 23 (.take 24 .fin)))) .nil)))) .nil) (.alt 9 (.take 10 (.take 15 (.take 19 (.alt 6 (.alt 20 (.take 21 (.take 22 (.take 23 (.take 24 .fin)))) .nil) .nil)))) .nil))) .nil))) .nil)))) (.alt 6 (.alt 3 (.alt 9 (.take 10 (.alt 13 (.take 14 (.take 15 (.alt 18 (.take 19 (.alt 20 (.take 21 (.take 22 (.take 23 (.take 24 .fin)))) .nil)) .nil))) (.alt 18 (.alt 13 (.take 14 (.take 15 (.take 19 (.alt 20 (.take 21 (.take 22 (.take 23 (.take 24 .fin)))) .nil)))) .nil) .nil))) (.alt 13 (.take 14 (.alt 9 (.take 10 (.take 15 (.alt 18 (.take 19 (.alt 20 (.take 21 (.take 22 (.take 23 (.take 24 .fin)))) .nil)) .nil))) (.alt 18 (.alt 9 (.take 10 (.take 15 (.take 19 (.alt 20 (.take 21 (.take 22 (.take 23 (.take 24 .fin)))) .nil)))) .nil) .nil))) (.alt 18 (.alt 9 (.take 10 (.alt 13 (.take 14 (.take 15 (.take 19 (.alt 20 (.take 21 (.take 22 (.take 23 (.take 24 .fin)))) .nil)))) .nil)) (.alt 13 (.take 14 (.alt 9 (.take 10 (.take 15 (.take 19 (.alt 20 (.take 21 (.take 22 (.take 23 (.take 24 .fin)))) .nil)))) .nil)) .nil)) .nil))) (.alt 9 (.take 10 (.alt 3 (.alt 13 (.take 14 (.take 15 (.alt 18 (.take 19 (.alt 20 (.take 21 (.take 22 (.take 23 (.take 24 .fin)))) .nil)) .nil))) (.alt 18 (.alt 13 (.take 14 (.take 15 (.take 19 (.alt 20 (.take 21 (.take 22 (.take 23 (.take 24 .fin)))) .nil)))) .nil) .nil)) (.alt 13 (.take 14 (.take 15 (.alt 3 (.alt 18 (.take 19 (.alt 20 (.take 21 (.take 22 (.take 23 (.take 24 .fin)))) .nil)) .nil) (.alt 18 (.take 19 (.alt 3 (.alt 20 (.take 21 (.take 22 (.take 23 (.take 24 .fin)))) .nil) .nil)) .nil)))) (.alt 18 (.alt 3 (.alt 13 (.take 14 (.take 15 (.take 19 (.alt 20 (.take 21 (.take 22 (.take 23 (.take 24 .fin)))) .nil)))) .nil) (.alt 13 (.take 14 (.take 15 (.take 19 (.alt 3 (.alt 20 (.take 21 (.take 22 (.take 23 (.take 24 .fin)))) .nil) .nil)))) .nil)) .nil)))) (.alt 13 (.take 14 (.alt 3 (.alt 9 (.take 10 (.take 15 (.alt 18 (.take 19 (.alt 20 (.take 21 (.take 22 (.take 23 (.take 24 .fin)))) .nil)) .nil))) (.alt 18 (.alt 9 (.take 10 (.take 15 (.take 19 (.alt 20 (.take 21 (.take 22 (.take 23 (.take 24 .fin)))) .nil)))) .nil) .nil)) (.alt 9 (.take 10 (.take 15 (.alt 3 (.alt 18 (.take 19 (.alt 20 (.take 21 (.take 22 (.take 23 (.take 24 .fin)))) .nil)) .nil) (.alt 18 (.take 19 (.alt 3 (.alt 20 (.take 21 (.take 22 (.take 23 (.take 24 .fin)))) .nil) .nil)) .nil)))) (.alt 18 (.alt 3 (.alt 9 (.take 10 (.take 15 (.take 19 (.alt 20 (.take 21 (.take 22 (.take 23 (.take 24 .fin)))) .nil)))) .nil) (.alt 9 (.take 10 (.take 15 (.take 19 (.alt 3 (.alt 20 (.take 21 (.take 22 (.take 23 (.take 24 .fin)))) .nil) .nil)))) .nil)) .nil)))) (.alt 18 (.alt 3 (.alt 9 (.take 10 (.alt 13 (.take 14 (.take 15 (.take 19 (.alt 20 (.take 21 (.take 22 (.take 23 (.take 24 .fin)))) .nil)))) .nil)) (.alt 13 (.take 14 (.alt 9 (.take 10 (.take 15 (.take 19 (.alt 20 (.take 21 (.take 22 (.take 23 (.take 24 .fin)))) .nil)))) .nil)) .nil)) (.alt 9 (.take 10 (.alt 3 (.alt 13 (.take 14 (.take 15 (.take 19 (.alt 20 (.take 21 (.take 22 (.take 23 (.take 24 .fin)))) .nil)))) .nil) (.alt 13 (.take 14 (.take 15 (.take 19 (.alt 3 (.alt 20 (.take 21 (.take 22 (.take 23 (.take 24 .fin)))) .nil) .nil)))) .nil))) (.alt 13 (.take 14 (.alt 3 (.alt 9 (.take 10 (.take 15 (.take 19 (.alt 20 (.take 21 (.take 22 (.take 23 (.take 24 .fin)))) .nil)))) .nil) (.alt 9 (.take 10 (.take 15 (.take 19 (.alt 3 (.alt 20 (.take 21 (.take 22 (.take 23 (.take 24 .fin)))) .nil) .nil)))) .nil))) .nil))) .nil)))) (.alt 9 (.take 10 (.alt 3 (.alt 6 (.alt 13 (.take 14 (.take 15 (.alt 18 (.take 19 (.alt 20 (.take 21 (.take 22 (.take 23 (.take 24 .fin)))) .nil)) .nil))) (.alt 18 (.alt 13 (.take 14 (.take 15 (.take 19 (.alt 20 (.take 21 (.take 22 (.take 23 (.take 24 .fin)))) .nil)))) .nil) .nil)) (.alt 13 (.take 14 (.take 15 (.alt 6 (.alt 18 (.take 19 (.alt 20 (.take 21 (.take 22 (.take 23 (.take 24 .fin)))) .nil)) .nil) (.alt 18 (.take 19 (.alt 6 (.alt 20 (.take 21 (.take 22 (.take 23 (.take 24 .fin)))) .nil) .nil)) .nil)))) (.alt 18 (.alt 6 (.alt 13 (.take 14 (.take 15 (.take 19 (.alt 20 (.take 21 (.take 22 (.take 23 (.take 24 .fin)))) .nil)))) .nil) (.alt 13 (.take 14 (.take 15 (.take 19 (.alt 6 (.alt 20 (.take 21 (.take 22 (.take 23 (.take 24 .fin)))) .nil) .nil)))) .nil)) .nil))) (.alt 6 (.alt 3 (.alt 13 (.take 14 (.take 15 (.alt 18 (.take 19 (.alt 20 (.take 21 (.take 22 (.take 23 (.take 24 .fin)))) .nil)) .nil))) (.alt 18 (.alt 13 (.take 14 (.take 15 (.take 19 (.alt 20 (.take 21 (.take 22 (.take 23 (.take 24 .fin)))) .nil)))) .nil) .nil)) (.alt 13 (.take 14 (.take 15 (.alt 3 (.alt 18 (.take 19 (.alt 20 (.take 21 (.take 22 (.take 23 (.take 24 .fin)))) .nil)) .nil) (.alt 18 (.take 19 (.alt 3 (.alt 20 (.take 21 (.take 22 (.take 23 (.take 24 .fin)))) .nil) .nil)) .nil)))) (.alt 18 (.alt 3 (.alt 13 (.take 14 (.take 15 (.take 19 (.alt 20 (.take 21 (.take 22 (.take 23 (.take 24 .fin)))) .nil)))) .nil) (.alt 13 (.take 14 (.take 15 (.take 19 (.alt 3 (.alt 20 (.take 21 (.take 22 (.take 23 (.take 24 .fin)))) .nil) .nil)))) .nil)) .nil))) (.alt 13 (.take 14 (.take 15 (.alt 3 (.alt 6 (.alt 18 (.take 19 (.alt 20 (.take 21 (.take 22 (.take 23 (.take 24 .fin)))) .nil)) .nil) (.alt 18 (.take 19 (.alt 6 (.alt 20 (.take 21 (.take 22 (.take 23 (.take 24 .fin)))) .nil) .nil)) .nil)) (.alt 6 (.alt 3 (.alt 18 (.take 19 (.alt 20 (.take 21 (.take 22 (.take 23 (.take 24 .fin)))) .nil)) .nil) (.alt 18 (.take 19 (.alt 3 (.alt 20 (.take 21 (.take 22 (.take 23 (.take 24 .fin)))) .nil) .nil)) .nil)) (.alt 18 (.take 19 (.alt 3 (.alt 6 (.alt 20 (.take 21 (.take 22 (.take 23 (.take 24 .fin)))) .nil) .nil) (.alt 6 (.alt 3 (.alt 20 (.take 21 (.take 22 (.take 23 (.take 24 .fin)))) .nil) .nil) .nil))) .nil))))) (.alt 18 (.alt 3 (.alt 6 (.alt 13 (.take 14 (.take 15 (.take 19 (.alt 20 (.take 21 (.take 22 (.take 23 (.take 24 .fin)))) .nil)))) .nil) (.alt 13 (.take 14 (.take 15 (.take 19 (.alt 6 (.alt 20 (.take 21 (.take 22 (.take 23 (.take 24 .fin)))) .nil) .nil)))) .nil)) (.alt 6 (.alt 3 (.alt 13 (.take 14 (.take 15 (.take 19 (.alt 20 (.take 21 (.take 22 (.take 23 (.take 24 .fin)))) .nil)))) .nil) (.alt 13 (.take 14 (.take 15 (.take 19 (.alt 3 (.alt 20 (.take 21 (.take 22 (.take 23 (.take 24 .fin)))) .nil) .nil)))) .nil)) (.alt 13 (.take 14 (.take 15 (.take 19 (.alt 3 (.alt 6 (.alt 20 (.take 21 (.take 22 (.take 23 (.take 24 .fin)))) .nil) .nil) (.alt 6 (.alt 3 (.alt 20 (.take 21 (.take 22 (.take 23 (.take 24 .fin)))) .nil) .nil) .nil))))) .nil))) .nil))))) (.alt 13 (.take 14 (.alt 3 (.alt 6 (.alt 9 (.take 10 (.take 15 (.alt 18 (.take 19 (.alt 20 (.take 21 (.take 22 (.take 23 (.take 24 .fin)))) .nil)) .nil))) (.alt 18 (.alt 9 (.take 10 (.take 15 (.take 19 (.alt 20 (.take 21 (.take 22 (.take 23 (.take 24 .fin)))) .nil)))) .nil) .nil)) (.alt 9 (.take 10 (.take 15 (.alt 6 (.alt 18 (.take 19 (.alt 20 (.take 21 (.take 22 (.take 23 (.take 24 .fin)))) .nil)) .nil) (.alt 18 (.take 19 (.alt 6 (.alt 20 (.take 21 (.take 22 (.take 23 (.take 24 .fin)))) .nil) .nil)) .nil)))) (.alt 18 (.alt 6 (.alt 9 (.take 10 (.take 15 (.take 19 (.alt 20 (.take 21 (.take 22 (.take 23 (.take 24 .fin)))) .nil)))) .nil) (.alt 9 (.take 10 (.take 15 (.take 19 (.alt 6 (.alt 20 (.take 21 (.take 22 (.take 23 (.take 24 .fin)))) .nil) .nil)))) .nil)) .nil))) (.alt 6 (.alt 3 (.alt 9 (.take 10 (.take 15 (.alt 18 (.take 19 (.alt 20 (.take 21 (.take 22 (.take 23 (.take 24 .fin)))) .nil)) .nil))) (.alt 18 (.alt 9 (.take 10 (.take 15 (.take 19 (.alt 20 (.take 21 (.take 22 (.take 23 (.take 24 .fin)))) .nil)))) .nil) .nil)) (.alt 9 (.take 10 (.take 15 (.alt 3 (.alt 18 (.take 19 (.alt 20 (.take 21 (.take 22 (.take 23 (.take 24 .fin)))) .nil)) .nil) (.alt 18 (.take 19 (.alt 3 (.alt 20 (.take 21 (.take 22 (.take 23 (.take 24 .fin)))) .nil) .nil)) .nil)))) (.alt 18 (.alt 3 (.alt 9 (.take 10 (.take 15 (.take 19 (.alt 20 (.take 21 (.take 22 (.take 23 (.take 24 .fin)))) .nil)))) .nil) (.alt 9 (.take 10 (.take 15 (.take 19 (.alt 3 (.alt 20 (.take 21 (.take 22 (.take 23 (.take 24 .fin)))) .nil) .nil)))) .nil)) .nil))) (.alt 9 (.take 10 (.take 15 (.alt 3 (.alt 6 (.alt 18 (.take 19 (.alt 20 (.take 21 (.take 22 (.take 23 (.take 24 .fin)))) .nil)) .nil) (.alt 18 (.take 19 (.alt 6 (.alt 20 (.take 21 (.take 22 (.take 23 (.take 24 .fin)))) .nil) .nil)) .nil)) (.alt 6 (.alt 3 (.alt 18 (.take 19 (.alt 20 (.take 21 (.take 22 (.take 23 (.take 24 .fin)))) .nil)) .nil) (.alt 18 (.take 19 (.alt 3 (.alt 20 (.take 21 (.take 22 (.take 23 (.take 24 .fin)))) .nil) .nil)) .nil)) (.alt 18 (.take 19 (.alt 3 (.alt 6 (.alt 20 (.take 21 (.take 22 (.take 23 (.take 24 .fin)))) .nil) .nil) (.alt 6 (.alt 3 (.alt 20 (.take 21 (.take 22 (.take 23 (.take 24 .fin)))) .nil) .nil) .nil))) .nil))))) (.alt 18 (.alt 3 (.alt 6 (.alt 9 (.take 10 (.take 15 (.take 19 (.alt 20 (.take 21 (.take 22 (.take 23 (.take 24 .fin)))) .nil)))) .nil) (.alt 9 (.take 10 (.take 15 (.take 19 (.alt 6 (.alt 20 (.take 21 (.take 22 (.take 23 (.take 24 .fin)))) .nil) .nil)))) .nil)) (.alt 6 (.alt 3 (.alt 9 (.take 10 (.take 15 (.take 19 (.alt 20 (.take 21 (.take 22 (.take 23 (.take 24 .fin)))) .nil)))) .nil) (.alt 9 (.take 10 (.take 15 (.take 19 (.alt 3 (.alt 20 (.take 21 (.take 22 (.take 23 (.take 24 .fin)))) .nil) .nil)))) .nil)) (.alt 9 (.take 10 (.take 15 (.take 19 (.alt 3 (.alt 6 (.alt 20 (.take 21 (.take 22 (.take 23 (.take 24 .fin)))) .nil) .nil) (.alt 6 (.alt 3 (.alt 20 (.take 21 (.take 22 (.take 23 (.take 24 .fin)))) .nil) .nil) .nil))))) .nil))) .nil))))) (.alt 18 (.alt 3 (.alt 6 (.alt 9 (.take 10 (.alt 13 (.take 14 (.take 15 (.take 19 (.alt 20 (.take 21 (.take 22 (.take 23 (.take 24 .fin)))) .nil)))) .nil)) (.alt 13 (.take 14 (.alt 9 (.take 10 (.take 15 (.take 19 (.alt 20 (.take 21 (.take 22 (.take 23 (.take 24 .fin)))) .nil)))) .nil)) .nil)) (.alt 9 (.take 10 (.alt 6 (.alt 13 (.take 14 (.take 15 (.take 19 (.alt 20 (.take 21 (.take 22 (.take 23 (.take 24 .fin)))) .nil)))) .nil) (.alt 13 (.take 14 (.take 15 (.take 19 (.alt 6 (.alt 20 (.take 21 (.take 22 (.take 23 (.take 24 .fin)))) .nil) .nil)))) .nil))) (.alt 13 (.take 14 (.alt 6 (.alt 9 (.take 10 (.take 15 (.take 19 (.alt 20 (.take 21 (.take 22 (.take 23 (.take 24 .fin)))) .nil)))) .nil) (.alt 9 (.take 10 (.take 15 (.take 19 (.alt 6 (.alt 20 (.take 21 (.take 22 (.take 23 (.take 24 .fin)))) .nil) .nil)))) .nil))) .nil))) (.alt 6 (.alt 3 (.alt 9 (.take 10 (.alt 13 (.take 14 (.take 15 (.take 19 (.alt 20 (.take 21 (.take 22 (.take 23 (.take 24 .fin)))) .nil)))) .nil)) (.alt 13 (.take 14 (.alt 9 (.take 10 (.take 15 (.take 19 (.alt 20 (.take 21 (.take 22 (.take 23 (.take 24 .fin)))) .nil)))) .nil)) .nil)) (.alt 9 (.take 10 (.alt 3 (.alt 13 (.take 14 (.take 15 (.take 19 (.alt 20 (.take 21 (.take 22 (.take 23 (.take 24 .fin)))) .nil)))) .nil) (.alt 13 (.take 14 (.take 15 (.take 19 (.alt 3 (.alt 20 (.take 21 (.take 22 (.take 23 (.take 24 .fin)))) .nil) .nil)))) .nil))) (.alt 13 (.take 14 (.alt 3 (.alt 9 (.take 10 (.take 15 (.take 19 (.alt 20 (.take 21 (.take 22 (.take 23 (.take 24 .fin)))) .nil)))) .nil) (.alt 9 (.take 10 (.take 15 (.take 19 (.alt 3 (.alt 20 (.take 21 (.take 22 (.take 23 (.take 24 .fin)))) .nil) .nil)))) .nil))) .nil))) (.alt 9 (.take 10 (.alt 3 (.alt 6 (.alt 13 (.take 14 (.take 15 (.take 19 (.alt 20 (.take 21 (.take 22 (.take 23 (.take 24 .fin)))) .nil)))) .nil) (.alt 13 (.take 14 (.take 15 (.take 19 (.alt 6 (.alt 20 (.take 21 (.take 22 (.take 23 (.take 24 .fin)))) .nil) .nil)))) .nil)) (.alt 6 (.alt 3 (.alt 13 (.take 14 (.take 15 (.take 19 (.alt 20 (.take 21 (.take 22 (.take 23 (.take 24 .fin)))) .nil)))) .nil) (.alt 13 (.take 14 (.take 15 (.take 19 (.alt 3 (.alt 20 (.take 21 (.take 22 (.take 23 (.take 24 .fin)))) .nil) .nil)))) .nil)) (.alt 13 (.take 14 (.take 15 (.take 19 (.alt 3 (.alt 6 (.alt 20 (.take 21 (.take 22 (.take 23 (.take 24 .fin)))) .nil) .nil) (.alt 6 (.alt 3 (.alt 20 (.take 21 (.take 22 (.take 23 (.take 24 .fin)))) .nil) .nil) .nil))))) .nil)))) (.alt 13 (.take 14 (.alt 3 (.alt 6 (.alt 9 (.take 10 (.take 15 (.take 19 (.alt 20 (.take 21 (.take 22 (.take 23 (.take 24 .fin)))) .nil)))) .nil) (.alt 9 (.take 10 (.take 15 (.take 19 (.alt 6 (.alt 20 (.take 21 (.take 22 (.take 23 (.take 24 .fin)))) .nil) .nil)))) .nil)) (.alt 6 (.alt 3 (.alt 9 (.take 10 (.take 15 (.take 19 (.alt 20 (.take 21 (.take 22 (.take 23 (.take 24 .fin)))) .nil)))) .nil) (.alt 9 (.take 10 (.take 15 (.take 19 (.alt 3 (.alt 20 (.take 21 (.take 22 (.take 23 (.take 24 .fin)))) .nil) .nil)))) .nil)) (.alt 9 (.take 10 (.take 15 (.take 19 (.alt 3 (.alt 6 (.alt 20 (.take 21 (.take 22 (.take 23 (.take 24 .fin)))) .nil) .nil) (.alt 6 (.alt 3 (.alt 20 (.take 21 (.take 22 (.take 23 (.take 24 .fin)))) .nil) .nil) .nil))))) .nil)))) .nil)))) .nil)))))))))))))))
attribute [local go_sem] rtS8 rtS11 rtS17
set_option maxRecDepth 10000 in
set_option maxHeartbeats 8000000 in
include hm in
theorem sReadTime (s : ByteArray) (hs : s.size ≤ 1048576) : Holds Tryz.prog 17 [.v (.string s)] [] (.tup [.v (.int .i64 (rdTime s).1), .v (.bool (rdTime s).2)]) [] := by
 refine holds_of (ann := rtAnn) tabOk hm Tryz.func17 (by kernel_rfl) rfl ?_
 by_cases hn : ¬ (s.size = 13 ∨ s.size = 15)
 ·have d1 : decide ((s.size : Int) = 13) = false := by simp; omega
  have d2 : decide ((s.size : Int) = 15) = false := by simp; omega
  simp +decide (maxSteps := 9^7) only [↓reduceIte, Tryz.f17, d1, d2, go_sem]
  exact Runs.ret_eq (by rw [rdTime, if_neg (fun h => hn h.1)])
 have hn' : s.size = 13 ∨ s.size = 15 := by omega
 have w12 : IntKind.i64.wrap (13 - 1) = 12 := rfl
 have w14 : IntKind.i64.wrap (15 - 1) = 14 := rfl
 have t12 : Int.toNat 12 = 12 := rfl
 have t14 : Int.toNat 14 = 14 := rfl
 have tz0 : Int.toNat 0 = 0 := rfl
 have tz1 : Int.toNat 1 = 1 := rfl
 have tz2 : Int.toNat 2 = 2 := rfl
 have tz3 : Int.toNat 3 = 3 := rfl
 have tz4 : Int.toNat 4 = 4 := rfl
 have tz5 : Int.toNat 5 = 5 := rfl
 have tz6 : Int.toNat 6 = 6 := rfl
 rcases hn' with hz | hz
 ·have hzi : (s.size : Int) = 13 := by omega
  have hbad : ¬ (cg s 12 = 90 ∧ okD (s.extract 0 12) = true) → rdTime s = (0, false) := fun h => by
   rw [rdTime, hz, if_neg (fun c => h c.2)]
  have hgood : cg s 12 = 90 → okD (s.extract 0 12) = true → rdTime s = if 23 < vA s 3 ∨ 59 < vA s 4 ∨ 59 < vA s 5 then (0, false) else timeM (yearV s) (vA s 1) (vA s 2) (3600 * vA s 3 + 60 * vA s 4 + vA s 5) := fun h1 h2 => by
   have e : offV s = 0 := by rw [offV, hz]; rfl
   rw [rdTime, hz, e, if_pos ⟨by omega, h1, h2⟩]
  by_cases hl : cg s 12 = 90
  rotate_left 1
  ·have dl : decide (((s.data.toList.getD 12 0).toNat : Int) = 90) = false := by
    simp only [decide_eq_false_iff_not]
    intro h
    apply hl
    rw [cg]
    apply UInt8.toNat_inj.mp
    have : (90 : UInt8).toNat = 90 := rfl
    omega
   simp +decide (maxSteps := 9^7) only [↓reduceIte, Tryz.f17, hzi, w12, t12, dl, go_sem]
   exact Runs.ret_eq (by rw [hbad (fun h => hl h.1)])
  have dl : decide (((s.data.toList.getD 12 0).toNat : Int) = 90) = true := by
   have : s.data.toList.getD 12 0 = 90 := hl
   rw [this]; rfl
  have hes : (s.extract 0 12).size = 12 := by simp; omega
  have cd := digitsS hm (s.extract 0 12) (by omega)
  have e0 : decide (((s.extract 0 12).size : Int) > 0) = true := by rw [hes]; rfl
  rw [e0, Bool.and_true] at cd
  simp +decide (maxSteps := 9^7) only [↓reduceIte, Tryz.f17, hzi, w12, t12, dl, go_sem]
  refine Runs.call cd ?_
  cases hok : okD (s.extract 0 12)
  ·simp +decide (maxSteps := 9^7) only [↓reduceIte, go_sem]
   exact Runs.ret_eq (by rw [hbad (fun h => by rw [hok] at h; exact absurd h.2 (by decide))])
  rw [hgood hl hok]
  clear hbad hgood
  have hdg : ∀ i, i < 12 → 48 ≤ (cg s i).toNat ∧ (cg s i).toNat ≤ 57 := fun i hi => okD_get hok hi (by omega)
  have hv : ∀ i, i < 6 → vA s i ≤ 99 := fun i hi => by
   have h1 := hdg (2 * i) (by omega)
   have h2 := hdg (2 * i + 1) (by omega)
   simp only [vA, dg]; omega
  simp +decide (maxSteps := 9^7) only [↓reduceIte, go_sem]
  refine Runs.while (α := Nat) (rtSt s 13) (fun k => 6 - k) (fun k => k ≤ 6) 0 (by omega) ?_ ?_
  ·simp [go_sem, rtAnn, rtSt, rowV]
  intro k hk ih
  have w1 : IntKind.i64.wrap (((2 * k : Nat) : Int) + 1) = ((2 * k + 1 : Nat) : Int) := by rw [wrap_i64 (by omega) (by omega)]; rfl
  simp +decide (maxSteps := 9^7) only [↓reduceIte, rtSt, w1, go_sem]
  refine Runs.split (fun h => ?_) (fun h => ?_)
  ·have hlt : k < 6 := by simp at h; omega
   have h1 := hdg (2 * k) (by omega)
   have h2 := hdg (2 * k + 1) (by omega)
   have hvk := hv k hlt
   have s1 : IntKind.u8.wrap (((s.data.toList.getD (2 * k) 0).toNat : Int) - 48) = (dg s (2 * k) : Int) := by
    rw [dg]; rw [cg] at h1 ⊢; rw [wrap_u8 (by omega) (by omega)]; omega
   have s2 : IntKind.u8.wrap (((s.data.toList.getD (2 * k + 1) 0).toNat : Int) - 48) = (dg s (2 * k + 1) : Int) := by
    rw [dg]; rw [cg] at h2 ⊢; rw [wrap_u8 (by omega) (by omega)]; omega
   have b1 : dg s (2 * k) ≤ 9 := by rw [dg]; omega
   have b2 : dg s (2 * k + 1) ≤ 9 := by rw [dg]; omega
   have k1 : IntKind.i64.wrap (dg s (2 * k) : Int) = dg s (2 * k) := wrap_i64 (by omega) (by omega)
   have k2 : IntKind.i64.wrap (dg s (2 * k + 1) : Int) = dg s (2 * k + 1) := wrap_i64 (by omega) (by omega)
   have m1 : IntKind.i64.wrap (10 * (dg s (2 * k) : Int)) = ((10 * dg s (2 * k) : Nat) : Int) := by rw [wrap_i64 (by omega) (by omega)]; omega
   have a1 : IntKind.i64.wrap (((10 * dg s (2 * k) : Nat) : Int) + (dg s (2 * k + 1) : Int)) = (vA s k : Int) := by rw [wrap_i64 (by omega) (by omega), vA]; omega
   have r1 : decide (0 ≤ ((2 * k : Nat) : Int) ∧ ((2 * k : Nat) : Int) < 13) = true := by simp; omega
   have r2 : decide (0 ≤ ((2 * k + 1 : Nat) : Int) ∧ ((2 * k + 1 : Nat) : Int) < 13) = true := by simp; omega
   have w2 : IntKind.i64.wrap (((2 * k : Nat) : Int) + 2) = ((2 * (k + 1) : Nat) : Int) := by rw [wrap_i64 (by omega) (by omega)]; omega
   have lk := rowV_len s k
   have dc : decide (k + 1 ≤ 1073741824) = true := by simp; omega
   have rs := rowV_succ s k
   simp +decide (maxSteps := 9^7) only [↓reduceIte, go_sem]
   refine Runs.draw (st1 := ?sA13) (draws_by (ann := rtAnn) tabOk rtS8 (by kernel_rfl) ?pA13) ?qA13
   case pA13 =>
    intro J r X hK
    simp +decide (maxSteps := 9^7) only [↓reduceIte, hzi, w1, s1, s2, k1, k2, m1, a1, r1, r2, lk, dc, Int.toNat_natCast, ← rs, go_sem]
    repeat' apply And.intro
    all_goals exact hK
   case qA13 =>
    simp +decide (maxSteps := 9^7) only [↓reduceIte, w2, rowV_len, go_sem]
    refine ih (k + 1) _ (by omega) (by omega) ?_
    simp [go_sem, rtAnn, rtSt]
  ·have hge : k = 6 := by simp at h; omega
   subst hge
   have lk := rowV_len s 6
   have g0 := rowV_get s (k := 6) (i := 0) (by omega)
   have g1 := rowV_get s (k := 6) (i := 1) (by omega)
   have g2 := rowV_get s (k := 6) (i := 2) (by omega)
   have g3 := rowV_get s (k := 6) (i := 3) (by omega)
   have g4 := rowV_get s (k := 6) (i := 4) (by omega)
   have g5 := rowV_get s (k := 6) (i := 5) (by omega)
   have g6 := g5
   have v0 := hv 0 (by omega)
   have v1 := hv 1 (by omega)
   have v2 := hv 2 (by omega)
   have v3 := hv 3 (by omega)
   have v4 := hv 4 (by omega)
   have v5 := hv 5 (by omega)
   have v6 := v5
   have y0 : IntKind.i64.wrap (2000 + (vA s 0 : Int)) = 2000 + (vA s 0 : Int) := wrap_i64 (by omega) (by omega)
   generalize rowV s 6 = W at *
   simp +decide (maxSteps := 9^7) only [↓reduceIte, lk, tz0, tz1, tz2, tz3, tz4, tz5, tz6, g0, y0, go_sem]
   have hyr : yearV s = if vA s 0 < 50 then 2000 + vA s 0 else 1900 + vA s 0 := by rw [yearV, if_neg (by omega)]
   by_cases h50 : vA s 0 < 50
   focus
    have dy : decide ((vA s 0 : Int) ≥ 50) = false := by simp; omega
    have ey : (2000 : Int) + vA s 0 = (yearV s : Int) := by rw [hyr, if_pos h50]; omega
    simp +decide (maxSteps := 9^7) only [↓reduceIte, dy, ey, go_sem]
   rotate_left 1
   focus
    have dy : decide ((vA s 0 : Int) ≥ 50) = true := by simp; omega
    have ey : IntKind.i64.wrap (1900 + (vA s 0 : Int)) = (yearV s : Int) := by rw [wrap_i64 (by omega) (by omega), hyr, if_neg h50]; omega
    simp +decide (maxSteps := 9^7) only [↓reduceIte, dy, lk, tz0, tz1, tz2, tz3, tz4, tz5, tz6, g0, g1, g2, g3, g4, g5, g6, ey, go_sem]
   all_goals
    by_cases c3 : 23 < vA s 3
    ·have d3 : decide ((vA s 3 : Int) > 23) = true := by simp; omega
     simp +decide (maxSteps := 9^7) only [↓reduceIte, lk, tz0, tz1, tz2, tz3, tz4, tz5, tz6, g0, g1, g2, g3, g4, g5, g6, d3, go_sem]
     exact Runs.ret_eq (by rw [if_pos (.inl c3)])
    have d3 : decide ((vA s 3 : Int) > 23) = false := by simp; omega
    by_cases c4 : 59 < vA s 4
    ·have d4 : decide ((vA s 4 : Int) > 59) = true := by simp; omega
     simp +decide (maxSteps := 9^7) only [↓reduceIte, lk, tz0, tz1, tz2, tz3, tz4, tz5, tz6, g0, g1, g2, g3, g4, g5, g6, d3, d4, go_sem]
     exact Runs.ret_eq (by rw [if_pos (.inr (.inl c4))])
    have d4 : decide ((vA s 4 : Int) > 59) = false := by simp; omega
    by_cases c5 : 59 < vA s 5
    ·have d5 : decide ((vA s 5 : Int) > 59) = true := by simp; omega
     simp +decide (maxSteps := 9^7) only [↓reduceIte, lk, tz0, tz1, tz2, tz3, tz4, tz5, tz6, g0, g1, g2, g3, g4, g5, g6, d3, d4, d5, go_sem]
     exact Runs.ret_eq (by rw [if_pos (.inr (.inr c5))])
    have d5 : decide ((vA s 5 : Int) > 59) = false := by simp; omega
    rw [if_neg (show ¬ (23 < vA s 3 ∨ 59 < vA s 4 ∨ 59 < vA s 5) by omega)]
    have p1 : IntKind.i64.wrap (3600 * (vA s 3 : Int)) = ((3600 * vA s 3 : Nat) : Int) := by rw [wrap_i64 (by omega) (by omega)]; omega
    have p2 : IntKind.i64.wrap (60 * (vA s 4 : Int)) = ((60 * vA s 4 : Nat) : Int) := by rw [wrap_i64 (by omega) (by omega)]; omega
    have p3 : IntKind.i64.wrap (((3600 * vA s 3 : Nat) : Int) + ((60 * vA s 4 : Nat) : Int)) = ((3600 * vA s 3 + 60 * vA s 4 : Nat) : Int) := by rw [wrap_i64 (by omega) (by omega)]; omega
    have p4 : IntKind.i64.wrap (((3600 * vA s 3 + 60 * vA s 4 : Nat) : Int) + (vA s 5 : Int)) = ((3600 * vA s 3 + 60 * vA s 4 + vA s 5 : Nat) : Int) := by rw [wrap_i64 (by omega) (by omega)]; omega
    have ct := sTimeOf hm (yearV s) (vA s 1) (vA s 2) (3600 * vA s 3 + 60 * vA s 4 + vA s 5) (by omega)
    simp +decide (maxSteps := 9^7) only [↓reduceIte, lk, tz0, tz1, tz2, tz3, tz4, tz5, tz6, g0, g1, g2, g3, g4, g5, g6, d3, d4, d5, go_sem]
    apply Runs.draw
    ·apply draws_by (ann := rtAnn) tabOk rtS17 (by kernel_rfl)
     intro J r X hK
     simp +decide (maxSteps := 9^7) only [↓reduceIte, lk, tz0, tz1, tz2, tz3, tz4, tz5, tz6, g0, g1, g2, g3, g4, g5, g6, p1, p2, p3, p4, go_sem]
     repeat' (first | exact hK | apply And.intro | (refine Runs.call ct ?_; simp +decide (maxSteps := 9^7) only [↓reduceIte, go_sem]))
    simp +decide (maxSteps := 9^7) only [↓reduceIte, go_sem]
    exact Runs.ret_refl
 ·have hzi : (s.size : Int) = 15 := by omega
  have hbad : ¬ (cg s 14 = 90 ∧ okD (s.extract 0 14) = true) → rdTime s = (0, false) := fun h => by
   rw [rdTime, hz, if_neg (fun c => h c.2)]
  have hgood : cg s 14 = 90 → okD (s.extract 0 14) = true → rdTime s = if 23 < vA s 4 ∨ 59 < vA s 5 ∨ 59 < vA s 6 then (0, false) else timeM (yearV s) (vA s 2) (vA s 3) (3600 * vA s 4 + 60 * vA s 5 + vA s 6) := fun h1 h2 => by
   have e : offV s = 1 := by rw [offV, hz]; rfl
   rw [rdTime, hz, e, if_pos ⟨by omega, h1, h2⟩]
  by_cases hl : cg s 14 = 90
  rotate_left 1
  ·have dl : decide (((s.data.toList.getD 14 0).toNat : Int) = 90) = false := by
    simp only [decide_eq_false_iff_not]
    intro h
    apply hl
    rw [cg]
    apply UInt8.toNat_inj.mp
    have : (90 : UInt8).toNat = 90 := rfl
    omega
   simp +decide (maxSteps := 9^7) only [↓reduceIte, Tryz.f17, hzi, w14, t14, dl, go_sem]
   exact Runs.ret_eq (by rw [hbad (fun h => hl h.1)])
  have dl : decide (((s.data.toList.getD 14 0).toNat : Int) = 90) = true := by
   have : s.data.toList.getD 14 0 = 90 := hl
   rw [this]; rfl
  have hes : (s.extract 0 14).size = 14 := by simp; omega
  have cd := digitsS hm (s.extract 0 14) (by omega)
  have e0 : decide (((s.extract 0 14).size : Int) > 0) = true := by rw [hes]; rfl
  rw [e0, Bool.and_true] at cd
  simp +decide (maxSteps := 9^7) only [↓reduceIte, Tryz.f17, hzi, w14, t14, dl, go_sem]
  refine Runs.call cd ?_
  cases hok : okD (s.extract 0 14)
  ·simp +decide (maxSteps := 9^7) only [↓reduceIte, go_sem]
   exact Runs.ret_eq (by rw [hbad (fun h => by rw [hok] at h; exact absurd h.2 (by decide))])
  rw [hgood hl hok]
  clear hbad hgood
  have hdg : ∀ i, i < 14 → 48 ≤ (cg s i).toNat ∧ (cg s i).toNat ≤ 57 := fun i hi => okD_get hok hi (by omega)
  have hv : ∀ i, i < 7 → vA s i ≤ 99 := fun i hi => by
   have h1 := hdg (2 * i) (by omega)
   have h2 := hdg (2 * i + 1) (by omega)
   simp only [vA, dg]; omega
  simp +decide (maxSteps := 9^7) only [↓reduceIte, go_sem]
  refine Runs.while (α := Nat) (rtSt s 15) (fun k => 7 - k) (fun k => k ≤ 7) 0 (by omega) ?_ ?_
  ·simp [go_sem, rtAnn, rtSt, rowV]
  intro k hk ih
  have w1 : IntKind.i64.wrap (((2 * k : Nat) : Int) + 1) = ((2 * k + 1 : Nat) : Int) := by rw [wrap_i64 (by omega) (by omega)]; rfl
  simp +decide (maxSteps := 9^7) only [↓reduceIte, rtSt, w1, go_sem]
  refine Runs.split (fun h => ?_) (fun h => ?_)
  ·have hlt : k < 7 := by simp at h; omega
   have h1 := hdg (2 * k) (by omega)
   have h2 := hdg (2 * k + 1) (by omega)
   have hvk := hv k hlt
   have s1 : IntKind.u8.wrap (((s.data.toList.getD (2 * k) 0).toNat : Int) - 48) = (dg s (2 * k) : Int) := by
    rw [dg]; rw [cg] at h1 ⊢; rw [wrap_u8 (by omega) (by omega)]; omega
   have s2 : IntKind.u8.wrap (((s.data.toList.getD (2 * k + 1) 0).toNat : Int) - 48) = (dg s (2 * k + 1) : Int) := by
    rw [dg]; rw [cg] at h2 ⊢; rw [wrap_u8 (by omega) (by omega)]; omega
   have b1 : dg s (2 * k) ≤ 9 := by rw [dg]; omega
   have b2 : dg s (2 * k + 1) ≤ 9 := by rw [dg]; omega
   have k1 : IntKind.i64.wrap (dg s (2 * k) : Int) = dg s (2 * k) := wrap_i64 (by omega) (by omega)
   have k2 : IntKind.i64.wrap (dg s (2 * k + 1) : Int) = dg s (2 * k + 1) := wrap_i64 (by omega) (by omega)
   have m1 : IntKind.i64.wrap (10 * (dg s (2 * k) : Int)) = ((10 * dg s (2 * k) : Nat) : Int) := by rw [wrap_i64 (by omega) (by omega)]; omega
   have a1 : IntKind.i64.wrap (((10 * dg s (2 * k) : Nat) : Int) + (dg s (2 * k + 1) : Int)) = (vA s k : Int) := by rw [wrap_i64 (by omega) (by omega), vA]; omega
   have r1 : decide (0 ≤ ((2 * k : Nat) : Int) ∧ ((2 * k : Nat) : Int) < 15) = true := by simp; omega
   have r2 : decide (0 ≤ ((2 * k + 1 : Nat) : Int) ∧ ((2 * k + 1 : Nat) : Int) < 15) = true := by simp; omega
   have w2 : IntKind.i64.wrap (((2 * k : Nat) : Int) + 2) = ((2 * (k + 1) : Nat) : Int) := by rw [wrap_i64 (by omega) (by omega)]; omega
   have lk := rowV_len s k
   have dc : decide (k + 1 ≤ 1073741824) = true := by simp; omega
   have rs := rowV_succ s k
   simp +decide (maxSteps := 9^7) only [↓reduceIte, go_sem]
   refine Runs.draw (st1 := ?sA15) (draws_by (ann := rtAnn) tabOk rtS8 (by kernel_rfl) ?pA15) ?qA15
   case pA15 =>
    intro J r X hK
    simp +decide (maxSteps := 9^7) only [↓reduceIte, hzi, w1, s1, s2, k1, k2, m1, a1, r1, r2, lk, dc, Int.toNat_natCast, ← rs, go_sem]
    repeat' apply And.intro
    all_goals exact hK
   case qA15 =>
    simp +decide (maxSteps := 9^7) only [↓reduceIte, w2, rowV_len, go_sem]
    refine ih (k + 1) _ (by omega) (by omega) ?_
    simp [go_sem, rtAnn, rtSt]
  ·have hge : k = 7 := by simp at h; omega
   subst hge
   have lk := rowV_len s 7
   have g0 := rowV_get s (k := 7) (i := 0) (by omega)
   have g1 := rowV_get s (k := 7) (i := 1) (by omega)
   have g2 := rowV_get s (k := 7) (i := 2) (by omega)
   have g3 := rowV_get s (k := 7) (i := 3) (by omega)
   have g4 := rowV_get s (k := 7) (i := 4) (by omega)
   have g5 := rowV_get s (k := 7) (i := 5) (by omega)
   have g6 := rowV_get s (k := 7) (i := 6) (by omega)
   have v0 := hv 0 (by omega)
   have v1 := hv 1 (by omega)
   have v2 := hv 2 (by omega)
   have v3 := hv 3 (by omega)
   have v4 := hv 4 (by omega)
   have v5 := hv 5 (by omega)
   have v6 := hv 6 (by omega)
   have y0 : IntKind.i64.wrap (2000 + (vA s 0 : Int)) = 2000 + (vA s 0 : Int) := wrap_i64 (by omega) (by omega)
   generalize rowV s 7 = W at *
   simp +decide (maxSteps := 9^7) only [↓reduceIte, lk, tz0, tz1, tz2, tz3, tz4, tz5, tz6, g0, y0, go_sem]
   have hyr : yearV s = 100 * vA s 0 + vA s 1 := by rw [yearV, if_pos (by omega)]
   have m0 : IntKind.i64.wrap (100 * (vA s 0 : Int)) = ((100 * vA s 0 : Nat) : Int) := by rw [wrap_i64 (by omega) (by omega)]; omega
   have a0 : IntKind.i64.wrap (((100 * vA s 0 : Nat) : Int) + (vA s 1 : Int)) = (yearV s : Int) := by rw [wrap_i64 (by omega) (by omega), hyr]; omega
   apply Runs.draw
   ·apply draws_by (ann := rtAnn) tabOk rtS11 (by kernel_rfl)
    intro J r X hK
    simp +decide (maxSteps := 9^7) only [↓reduceIte, lk, tz0, tz1, tz2, tz3, tz4, tz5, tz6, g0, g1, g2, g3, g4, g5, g6, m0, a0, go_sem]
    repeat' apply And.intro
    all_goals exact hK
   simp +decide (maxSteps := 9^7) only [↓reduceIte, lk, go_sem]
   all_goals
    by_cases c3 : 23 < vA s 4
    ·have d3 : decide ((vA s 4 : Int) > 23) = true := by simp; omega
     simp +decide (maxSteps := 9^7) only [↓reduceIte, lk, tz0, tz1, tz2, tz3, tz4, tz5, tz6, g0, g1, g2, g3, g4, g5, g6, d3, go_sem]
     exact Runs.ret_eq (by rw [if_pos (.inl c3)])
    have d3 : decide ((vA s 4 : Int) > 23) = false := by simp; omega
    by_cases c4 : 59 < vA s 5
    ·have d4 : decide ((vA s 5 : Int) > 59) = true := by simp; omega
     simp +decide (maxSteps := 9^7) only [↓reduceIte, lk, tz0, tz1, tz2, tz3, tz4, tz5, tz6, g0, g1, g2, g3, g4, g5, g6, d3, d4, go_sem]
     exact Runs.ret_eq (by rw [if_pos (.inr (.inl c4))])
    have d4 : decide ((vA s 5 : Int) > 59) = false := by simp; omega
    by_cases c5 : 59 < vA s 6
    ·have d5 : decide ((vA s 6 : Int) > 59) = true := by simp; omega
     simp +decide (maxSteps := 9^7) only [↓reduceIte, lk, tz0, tz1, tz2, tz3, tz4, tz5, tz6, g0, g1, g2, g3, g4, g5, g6, d3, d4, d5, go_sem]
     exact Runs.ret_eq (by rw [if_pos (.inr (.inr c5))])
    have d5 : decide ((vA s 6 : Int) > 59) = false := by simp; omega
    rw [if_neg (show ¬ (23 < vA s 4 ∨ 59 < vA s 5 ∨ 59 < vA s 6) by omega)]
    have p1 : IntKind.i64.wrap (3600 * (vA s 4 : Int)) = ((3600 * vA s 4 : Nat) : Int) := by rw [wrap_i64 (by omega) (by omega)]; omega
    have p2 : IntKind.i64.wrap (60 * (vA s 5 : Int)) = ((60 * vA s 5 : Nat) : Int) := by rw [wrap_i64 (by omega) (by omega)]; omega
    have p3 : IntKind.i64.wrap (((3600 * vA s 4 : Nat) : Int) + ((60 * vA s 5 : Nat) : Int)) = ((3600 * vA s 4 + 60 * vA s 5 : Nat) : Int) := by rw [wrap_i64 (by omega) (by omega)]; omega
    have p4 : IntKind.i64.wrap (((3600 * vA s 4 + 60 * vA s 5 : Nat) : Int) + (vA s 6 : Int)) = ((3600 * vA s 4 + 60 * vA s 5 + vA s 6 : Nat) : Int) := by rw [wrap_i64 (by omega) (by omega)]; omega
    have ct := sTimeOf hm (yearV s) (vA s 2) (vA s 3) (3600 * vA s 4 + 60 * vA s 5 + vA s 6) (by omega)
    simp +decide (maxSteps := 9^7) only [↓reduceIte, lk, tz0, tz1, tz2, tz3, tz4, tz5, tz6, g0, g1, g2, g3, g4, g5, g6, d3, d4, d5, go_sem]
    apply Runs.draw
    ·apply draws_by (ann := rtAnn) tabOk rtS17 (by kernel_rfl)
     intro J r X hK
     simp +decide (maxSteps := 9^7) only [↓reduceIte, lk, tz0, tz1, tz2, tz3, tz4, tz5, tz6, g0, g1, g2, g3, g4, g5, g6, p1, p2, p3, p4, go_sem]
     repeat' (first | exact hK | apply And.intro | (refine Runs.call ct ?_; simp +decide (maxSteps := 9^7) only [↓reduceIte, go_sem]))
    simp +decide (maxSteps := 9^7) only [↓reduceIte, go_sem]
    exact Runs.ret_refl
end Go.Proofs.W

namespace Go.Proofs.W
open Go Go.AM
variable (hm : Tryz.prog.follows .mixedOrders = true)
theorem okD_false {t : ByteArray} {i : Nat} (hi : i < t.size) (h : dgC (cg t i) = false) : okD t = false := by
 have hl : t.data.toList.length = t.size := rfl
 have hil : i < t.data.toList.length := by omega
 have e : cg t i = t.data.toList[i] := by rw [cg, List.getD, List.getElem?_eq_getElem hil]; rfl
 rw [okD, List.all_eq_false]
 exact ⟨_, List.getElem_mem hil, by rw [← e, h]; simp⟩
theorem okD_true {t : ByteArray} (h : ∀ i, i < t.size → dgC (cg t i) = true) : okD t = true := by
 rw [okD, List.all_eq_true]
 intro x hx
 obtain ⟨i, hi, rfl⟩ := List.getElem_of_mem hx
 have hl : t.data.toList.length = t.size := rfl
 have e : cg t i = t.data.toList[i] := by rw [cg, List.getD, List.getElem?_eq_getElem hi]; rfl
 rw [← e]
 exact h i (by omega)
theorem dgC_rng {b : UInt8} (h : dgC b = true) : 48 ≤ b.toNat ∧ b.toNat ≤ 57 := by simp [dgC, inB] at h; omega
theorem cg_ext {s : ByteArray} {n i : Nat} (h : i < n) : cg (s.extract 0 n) i = cg s i := by
 rw [cg, ext_list, cg, List.getD, List.getD, List.getElem?_take_of_lt h]
theorem vA_ext {s : ByteArray} {n i : Nat} (h : 2 * i + 1 < n) : vA (s.extract 0 n) i = vA s i := by
 rw [vA, vA, dg, dg, dg, dg, cg_ext (by omega), cg_ext (by omega)]
theorem rowV_ext {s : ByteArray} {n k : Nat} (h : 2 * k ≤ n) : rowV (s.extract 0 n) k = rowV s k := by
 rw [rowV, rowV]
 apply List.map_congr_left
 intro i hi
 have := List.mem_range.mp hi
 rw [vA_ext (by omega)]
set_option maxRecDepth 10000 in
include hm in
theorem isDig (b : UInt8) : Holds Tryz.prog 92 [.v (.int .u8 b.toNat)] [] (.v (.bool (dgC b))) [] := by
 refine holds_of (ann := []) tabOk hm Tryz.func92 (by kernel_rfl) rfl ?_
 simp +decide only [Tryz.f92, go_sem]
 refine Runs.split (fun h => ?_) (fun h => ?_)
 ·simp +decide only [go_sem]
  exact Runs.ret_eq (by simp at h; simp [dgC, inB]; omega)
 ·simp +decide only [go_sem]
  exact Runs.ret_eq (by simp at h; simp [dgC, inB]; omega)
def r2Ann : Ann := [(0, [0, 4, 5])]
def r2St (t : ByteArray) (k : Nat) : St := ⟨[.v (.string t), .any, .any, .any, .ms (.l 0) 0 k k, .v (.int .i64 ((2 * k : Nat) : Int)), .any, .any, .any, .any, .any, .any, .any, .any, .any, .any, .any, .any, .any, .any, .any, .any, .any, .any, .any, .any, .any, .any, .any, .any, .any, .any, .any, .any, .any, .any, .any, .any, .any, .any, .any, .any, .any, .any], [(0, ⟨true, 1, false, rowV t k⟩)], []⟩
def r2S7 : Sched := .take 0 (.take 1 (.take 2 (.take 3 (.take 4 (.take 7 (.take 8 (.take 9 (.take 10 (.take 11 (.alt 5 (.take 6 (.alt 12 (.take 13 (.alt 14 (.alt 15 (.take 16 .fin) .nil) .nil)) .nil)) (.alt 12 (.alt 5 (.take 6 (.take 13 (.alt 14 (.alt 15 (.take 16 .fin) .nil) .nil))) .nil) .nil)))))))))))
attribute [local go_sem] r2S7
set_option maxRecDepth 10000 in
set_option maxHeartbeats 8000000 in
include hm in
theorem readTwo (t : ByteArray) (K : Nat) (hz : t.size = 2 * K) (hK : K ≤ 100) : Holds Tryz.prog 76 [.v (.string t)] [] (.tup [.sl (.ow 1) (if okD t = true then rowV t K else []), .v (.bool (okD t))]) [] := by
 have hzi : (t.size : Int) = ((2 * K : Nat) : Int) := by omega
 refine holds_of (ann := r2Ann) tabOk hm Tryz.func76 (by kernel_rfl) rfl ?_
 simp +decide (maxSteps := 9^7) only [↓reduceIte, Tryz.f76, hzi, go_sem]
 refine Runs.while (α := Nat) (r2St t) (fun k => K - k) (fun k => k ≤ K ∧ ∀ i, i < 2 * k → dgC (cg t i) = true) 0 ⟨by omega, fun i hi => by omega⟩ ?_ ?_
 ·simp [go_sem, r2Ann, r2St, rowV]
 rintro k ⟨hk, hall⟩ ih
 have w1 : IntKind.i64.wrap (((2 * k : Nat) : Int) + 1) = ((2 * k + 1 : Nat) : Int) := by rw [wrap_i64 (by omega) (by omega)]; rfl
 simp +decide (maxSteps := 9^7) only [↓reduceIte, r2St, w1, hzi, go_sem]
 refine Runs.split (fun h => ?_) (fun h => ?_)
 ·have hlt : k < K := by simp at h; omega
  have r1 : decide (0 ≤ ((2 * k : Nat) : Int) ∧ ((2 * k : Nat) : Int) < ((2 * K : Nat) : Int)) = true := by simp; omega
  have r2 : decide (0 ≤ ((2 * k + 1 : Nat) : Int) ∧ ((2 * k + 1 : Nat) : Int) < ((2 * K : Nat) : Int)) = true := by simp; omega
  have c1 := isDig hm (t.data.toList.getD (2 * k) 0)
  have c2 := isDig hm (t.data.toList.getD (2 * k + 1) 0)
  have bad : ∀ i, i < 2 * K → dgC (cg t i) = false → okD t = false := fun i hi h => okD_false (by omega) h
  simp +decide (maxSteps := 9^7) only [↓reduceIte, hzi, r1, Int.toNat_natCast, go_sem]
  refine Runs.call c1 ?_
  cases h1 : dgC (t.data.toList.getD (2 * k) 0)
  ·rw [bad (2 * k) (by omega) h1]
   simp +decide (maxSteps := 9^7) only [↓reduceIte, go_sem]
   exact Runs.ret (.tup (.nils _ (LeD.refl _)) .nil) rfl
  simp +decide (maxSteps := 9^7) only [↓reduceIte, hzi, w1, r2, Int.toNat_natCast, go_sem]
  refine Runs.call c2 ?_
  cases h2 : dgC (t.data.toList.getD (2 * k + 1) 0)
  ·rw [bad (2 * k + 1) (by omega) h2]
   simp +decide (maxSteps := 9^7) only [↓reduceIte, go_sem]
   exact Runs.ret (.tup (.nils _ (LeD.refl _)) .nil) rfl
  have x1 := dgC_rng h1
  have x2 := dgC_rng h2
  have s1 : IntKind.u8.wrap (((t.data.toList.getD (2 * k) 0).toNat : Int) - 48) = (dg t (2 * k) : Int) := by
   rw [dg, cg]; rw [wrap_u8 (by omega) (by omega)]; omega
  have s2 : IntKind.u8.wrap (((t.data.toList.getD (2 * k + 1) 0).toNat : Int) - 48) = (dg t (2 * k + 1) : Int) := by
   rw [dg, cg]; rw [wrap_u8 (by omega) (by omega)]; omega
  have b1 : dg t (2 * k) ≤ 9 := by rw [dg, cg]; omega
  have b2 : dg t (2 * k + 1) ≤ 9 := by rw [dg, cg]; omega
  have k1 : IntKind.i64.wrap (dg t (2 * k) : Int) = dg t (2 * k) := wrap_i64 (by omega) (by omega)
  have k2 : IntKind.i64.wrap (dg t (2 * k + 1) : Int) = dg t (2 * k + 1) := wrap_i64 (by omega) (by omega)
  have m1 : IntKind.i64.wrap ((dg t (2 * k) : Int) * 10) = ((10 * dg t (2 * k) : Nat) : Int) := by rw [wrap_i64 (by omega) (by omega)]; omega
  have a1 : IntKind.i64.wrap (((10 * dg t (2 * k) : Nat) : Int) + (dg t (2 * k + 1) : Int)) = (vA t k : Int) := by rw [wrap_i64 (by omega) (by omega), vA]; omega
  have w2 : IntKind.i64.wrap (((2 * k : Nat) : Int) + 2) = ((2 * (k + 1) : Nat) : Int) := by rw [wrap_i64 (by omega) (by omega)]; omega
  have lk := rowV_len t k
  have dc : decide (k + 1 ≤ 1073741824) = true := by simp; omega
  have rs := rowV_succ t k
  simp +decide (maxSteps := 9^7) only [↓reduceIte, go_sem]
  refine Runs.draw (st1 := ?sA) (draws_by (ann := r2Ann) tabOk r2S7 (by kernel_rfl) ?pA) ?qA
  case pA =>
   intro J r X hK
   simp +decide (maxSteps := 9^7) only [↓reduceIte, hzi, w1, s1, s2, k1, k2, m1, a1, r1, r2, lk, dc, Int.toNat_natCast, ← rs, go_sem]
   repeat' apply And.intro
   all_goals exact hK
  case qA =>
   simp +decide (maxSteps := 9^7) only [↓reduceIte, w2, rowV_len, go_sem]
   refine ih (k + 1) _ (by omega) ⟨by omega, fun i hi => ?_⟩ ?_
   ·rcases (show i < 2 * k ∨ i = 2 * k ∨ i = 2 * k + 1 by omega) with h3 | rfl | rfl
    ·exact hall i h3
    ·exact h1
    ·exact h2
   ·simp [go_sem, r2Ann, r2St]
 ·have hge : k = K := by simp at h; omega
  subst hge
  have hok : okD t = true := okD_true fun i hi => hall i (by omega)
  rw [hok, if_pos rfl]
  have lk := rowV_len t k
  have md : mdL (rowV t k) = rowV t k := by rw [rowV, mdL_eq, List.map_map]; rfl
  simp +decide (maxSteps := 9^7) only [↓reduceIte, lk, md, go_sem]
  exact Runs.ret_refl
end Go.Proofs.W

namespace Go.Proofs.W
open Go Go.AM
variable (hm : Tryz.prog.follows .mixedOrders = true)
def rwS6 : Sched := .take 0 (.take 1 (.take 4 (.take 5 (.alt 2 (.take 3 (.alt 6 (.take 7 (.take 8 .fin)) .nil)) (.alt 6 (.alt 2 (.take 3 (.take 7 (.take 8 .fin))) .nil) .nil)))))
def rwS14 : Sched := .take 0 (.take 1 (.take 2 (.take 4 (.take 5 (.take 7 (.take 8 (.take 11 (.take 12 (.take 16 (.take 17 (.alt 3 (.alt 6 (.alt 9 (.take 10 (.alt 13 (.take 14 (.take 15 (.alt 18 (.take 19 (.alt 20 (.take 21 (.take 22 (.take 23 (.take 24 .fin)))) .nil)) .nil))) (.alt 18 (.alt 13 (.take 14 (.take 15 (.take 19 (.alt 20 (.take 21 (.take 22 (.take 23 (.take 24 .fin)))) .nil)))) .nil) .nil))) (.alt 13 (.take 14 (.alt 9 (.take 10 (.take 15 (.alt 18 (.take 19 (.alt 20 (.take 21 (.take 22 (.take 23 (.take 24 .fin)))) .nil)) .nil))) (.alt 18 (.alt 9 (.take 10 (.take 15 (.take 19 (.alt 20 (.take 21 (.take 22 (.take 23 (.take 24 .fin)))) .nil)))) .nil) .nil))) (.alt 18 (.alt 9 (.take 10 (.alt 13 (.take 14 (.take 15 (.take 19 (.alt 20 (.take 21 (.take 22 (.take 23 (.take 24 .fin)))) .nil)))) .nil)) (.alt 13 (.take 14 (.alt 9 (.take 10 (.take 15 (.take 19 (.alt 20 (.take 21 (.take 22 (.take 23 (.take 24 .fin)))) .nil)))) .nil)) .nil)) .nil))) (.alt 9 (.take 10 (.alt 6 (.alt 13 (.take 14 (.take 15 (.alt 18 (.take 19 (.alt 20 (.take 21 (.take 22 (.take 23 (.take 24 .fin)))) .nil)) .nil))) (.alt 18 (.alt 13 (.take 14 (.take 15 (.take 19 (.alt 20 (.take 21 (.take 22 (.take 23 (.take 24 .fin)))) .nil)))) .nil) .nil)) (.alt 13 (.take 14 (.take 15 (.alt 6 (.alt 18 (.take 19 (.alt 20 (.take 21 (.take 22 (.take 23 (.take 24 .fin)))) .nil)) .nil) (.alt 18 (.take 19 (.alt 6 (.alt 20 (.take 21 (.take 22 (.take 23 (.take 24 .fin)))) .nil) .nil)) .nil)))) (.alt 18 (.alt 6 (.alt 13 (.take 14 (.take 15 (.take 19 (.alt 20 (.take 21 (.take 22 (.take 23 (.take 24 .fin)))) .nil)))) .nil) (.alt 13 (.take 14 (.take 15 (.take 19 (.alt 6 (.alt 20 (.take 21 (.take 22 (.take 23 (.take 24 .fin)))) .nil) .nil)))) .nil)) .nil)))) (.alt 13 (.take 14 (.alt 6 (.alt 9 (.take 10 (.take 15 (.alt 18 (.take 19 (.alt 20 (.take 21 (.take 22 (.take 23 (.take 24 .fin)))) .nil)) .nil))) (.alt 18 (.alt 9 (.take 10 (.take 15 (.take 19 (.alt 20 (.take 21 (.take 22 (.take 23 (.take 24 .fin)))) .nil)))) .nil) .nil)) (.alt 9 (.take 10 (.take 15 (.alt 6 (.alt 18 (.take 19 (.alt 20 (.take 21 (.take 22 (.take 23 (.take 24 .fin)))) .nil)) .nil) (.alt 18 (.take 19 (.alt 6 (.alt 20 (.take 21 (.take 22 (.take 23 (.take 24 .fin)))) .nil) .nil)) .nil)))) (.alt 18 (.alt 6 (.alt 9 (.take 10 (.take 15 (.take 19 (.alt 20 (.take 21 (.take 22 (.take 23 (.take 24 .fin)))) .nil)))) .nil) (.alt 9 (.take 10 (.take 15 (.take 19 (.alt 6 (.alt 20 (.take 21 (.take 22 (.take 23 (.take 24 .fin)))) .nil) .nil)))) .nil)) .nil)))) (.alt 18 (.alt 6 (.alt 9 (.take 10 (.alt 13 (.take 14 (.take 15 (.take 19 (.alt 20 (.take 21 (.take 22 (.take 23 (.take 24 .fin)))) .nil)))) .nil)) (.alt 13 (.take 14 (.alt 9 (.take 10 (.take 15 (.take 19 (.alt 20 (.take 21 (.take 22 (.take 23 (.take 24 .fin)))) .nil)))) .nil)) .nil)) (.alt 9 (.take 10 (.alt 6 (.alt 13 (.take 14 (.take 15 (.take 19 (.alt 20 (.take 21 (.take 22 (.take 23 (.take 24 .fin)))) .nil)))) .nil) (.alt 13 (.take 14 (.take 15 (.take 19 (.alt 6 (.alt 20 (.take 21 (.take 22 (.take 23 (.take 24 .fin)))) .nil) .nil)))) .nil))) (.alt 13 (.take 14 (.alt 6 (.alt 9 (.take 10 (.take 15 (.take 19 (.alt 20 (.take 21 (.take 22 (.take 23 (.take 24 .fin)))) .nil)))) .nil) (.alt 9 (.take 10 (.take 15 (.take 19 (.alt 6 (.alt 20 (.take 21 (.take 22 (.take 23 (.take 24 .fin)))) .nil) .nil)))) .nil))) .nil))) .nil)))) (.alt 6 (.alt 3 (.alt 9 (.take 10 (.alt 13 (.take 14 (.take 15 (.alt 18 (.take 19 (.alt 20 (.take 21 (.take 22 (.take 23 (.take 24 .fin)))) .nil)) .nil))) (.alt 18 (.alt 13 (.take 14 (.take 15 (.take 19 (.alt 20 (.take 21 (.take 22 (.take 23 (.take 24 .fin)))) .nil)))) .nil) .nil))) (.alt 13 (.take 14 (.alt 9 (.take 10 (.take 15 (.alt 18 (.take 19 (.alt 20 (.take 21 (.take 22 (.take 23 (.take 24 .fin)))) .nil)) .nil))) (.alt 18 (.alt 9 (.take 10 (.take 15 (.take 19 (.alt 20 (.take 21 (.take 22 (.take 23 (.take 24 .fin)))) .nil)))) .nil) .nil))) (.alt 18 (.alt 9 (.take 10 (.alt 13 (.take 14 (.take 15 (.take 19 (.alt 20 (.take 21 (.take 22 (.take 23 (.take 24 .fin)))) .nil)))) .nil)) (.alt 13 (.take 14 (.alt 9 (.take 10 (.take 15 (.take 19 (.alt 20 (.take 21 (.take 22 (.take 23 (.take 24 .fin)))) .nil)))) .nil)) .nil)) .nil))) (.alt 9 (.take 10 (.alt 3 (.alt 13 (.take 14 (.take 15 (.alt 18 (.take 19 (.alt 20 (.take 21 (.take 22 (.take 23 (.take 24 .fin)))) .nil)) .nil))) (.alt 18 (.alt 13 (.take 14 (.take 15 (.take 19 (.alt 20 (.take 21 (.take 22 (.take 23 (.take 24 .fin)))) .nil)))) .nil) .nil)) (.alt 13 (.take 14 (.take 15 (.alt 3 (.alt 18 (.take 19 (.alt 20 (.take 21 (.take 22 (.take 23 (.take 24 .fin)))) .nil)) .nil) (.alt 18 (.take 19 (.alt 3 (.alt 20 (.take 21 (.take 22 (.take 23 (.take 24 .fin)))) .nil) .nil)) .nil)))) (.alt 18 (.alt 3 (.alt 13 (.take 14 (.take 15 (.take 19 (.alt 20 (.take 21 (.take 22 (.take 23 (.take 24 .fin)))) .nil)))) .nil) (.alt 13 (.take 14 (.take 15 (.take 19 (.alt 3 (.alt 20 (.take 21 (.take 22 (.take 23 (.take 24 .fin)))) .nil) .nil)))) .nil)) .nil)))) (.alt 13 (.take 14 (.alt 3 (.alt 9 (.take 10 (.take 15 (.alt 18 (.take 19 (.alt 20 (.take 21 (.take 22 (.take 23 (.take 24 .fin)))) .nil)) .nil))) (.alt 18 (.alt 9 (.take 10 (.take 15 (.take 19 (.alt 20 (.take 21 (.take 22 (.take 23 (.take 24 .fin)))) .nil)))) .nil) .nil)) (.alt 9 (.take 10 (.take 15 (.alt 3 (.alt 18 (.take 19 (.alt 20 (.take 21 (.take 22 (.take 23 (.take 24 .fin)))) .nil)) .nil) (.alt 18 (.take 19 (.alt 3 (.alt 20 (.take 21 (.take 22 (.take 23 (.take 24 .fin)))) .nil) .nil)) .nil)))) (.alt 18 (.alt 3 (.alt 9 (.take 10 (.take 15 (.take 19 (.alt 20 (.take 21 (.take 22 (.take 23 (.take 24 .fin)))) .nil)))) .nil) (.alt 9 (.take 10 (.take 15 (.take 19 (.alt 3 (.alt 20 (.take 21 (.take 22 (.take 23 (.take 24 .fin)))) .nil) .nil)))) .nil)) .nil)))) (.alt 18 (.alt 3 (.alt 9 (.take 10 (.alt 13 (.take 14 (.take 15 (.take 19 (.alt 20 (.take 21 (.take 22 (.take 23 (.take 24 .fin)))) .nil)))) .nil)) (.alt 13 (.take 14 (.alt 9 (.take 10 (.take 15 (.take 19 (.alt 20 (.take 21 (.take 22 (.take 23 (.take 24 .fin)))) .nil)))) .nil)) .nil)) (.alt 9 (.take 10 (.alt 3 (.alt 13 (.take 14 (.take 15 (.take 19 (.alt 20 (.take 21 (.take 22 (.take 23 (.take 24 .fin)))) .nil)))) .nil) (.alt 13 (.take 14 (.take 15 (.take 19 (.alt 3 (.alt 20 (.take 21 (.take 22 (.take 23 (.take 24 .fin)))) .nil) .nil)))) .nil))) (.alt 13 (.take 14 (.alt 3 (.alt 9 (.take 10 (.take 15 (.take 19 (.alt 20 (.take 21 (.take 22 (.take 23 (.take 24 .fin)))) .nil)))) .nil) (.alt 9 (.take 10 (.take 15 (.take 19 (.alt 3 (.alt 20 (.take 21 (.take 22 (.take 23 (.take 24 .fin)))) .nil) .nil)))) .nil))) .nil))) .nil)))) (.alt 9 (.take 10 (.alt 3 (.alt 6 (.alt 13 (.take 14 (.take 15 (.alt 18 (.take 19 (.alt 20 (.take 21 (.take 22 (.take 23 (.take 24 .fin)))) .nil)) .nil))) (.alt 18 (.alt 13 (.take 14 (.take 15 (.take 19 (.alt 20 (.take 21 (.take 22 (.take 23 (.take 24 .fin)))) .nil)))) .nil) .nil)) (.alt 13 (.take 14 (.take 15 (.alt 6 (.alt 18 (.take 19 (.alt 20 (.take 21 (.take 22 (.take 23 (.take 24 .fin)))) .nil)) .nil) (.alt 18 (.take 19 (.alt 6 (.alt 20 (.take 21 (.take 22 (.take 23 (.take 24 .fin)))) .nil) .nil)) .nil)))) (.alt 18 (.alt 6 (.alt 13 (.take 14 (.take 15 (.take 19 (.alt 20 (.take 21 (.take 22 (.take 23 (.take 24 .fin)))) .nil)))) .nil) (.alt 13 (.take 14 (.take 15 (.take 19 (.alt 6 (.alt 20 (.take 21 (.take 22 (.take 23 (.take 24 .fin)))) .nil) .nil)))) .nil)) .nil))) (.alt 6 (.alt 3 (.alt 13 (.take 14 (.take 15 (.alt 18 (.take 19 (.alt 20 (.take 21 (.take 22 (.take 23 (.take 24 .fin)))) .nil)) .nil))) (.alt 18 (.alt 13 (.take 14 (.take 15 (.take 19 (.alt 20 (.take 21 (.take 22 (.take 23 (.take 24 .fin)))) .nil)))) .nil) .nil)) (.alt 13 (.take 14 (.take 15 (.alt 3 (.alt 18 (.take 19 (.alt 20 (.take 21 (.take 22 (.take 23 (.take 24 .fin)))) .nil)) .nil) (.alt 18 (.take 19 (.alt 3 (.alt 20 (.take 21 (.take 22 (.take 23 (.take 24 .fin)))) .nil) .nil)) .nil)))) (.alt 18 (.alt 3 (.alt 13 (.take 14 (.take 15 (.take 19 (.alt 20 (.take 21 (.take 22 (.take 23 (.take 24 .fin)))) .nil)))) .nil) (.alt 13 (.take 14 (.take 15 (.take 19 (.alt 3 (.alt 20 (.take 21 (.take 22 (.take 23 (.take 24 .fin)))) .nil) .nil)))) .nil)) .nil))) (.alt 13 (.take 14 (.take 15 (.alt 3 (.alt 6 (.alt 18 (.take 19 (.alt 20 (.take 21 (.take 22 (.take 23 (.take 24 .fin)))) .nil)) .nil) (.alt 18 (.take 19 (.alt 6 (.alt 20 (.take 21 (.take 22 (.take 23 (.take 24 .fin)))) .nil) .nil)) .nil)) (.alt 6 (.alt 3 (.alt 18 (.take 19 (.alt 20 (.take 21 (.take 22 (.take 23 (.take 24 .fin)))) .nil)) .nil) (.alt 18 (.take 19 (.alt 3 (.alt 20 (.take 21 (.take 22 (.take 23 (.take 24 .fin)))) .nil) .nil)) .nil)) (.alt 18 (.take 19 (.alt 3 (.alt 6 (.alt 20 (.take 21 (.take 22 (.take 23 (.take 24 .fin)))) .nil) .nil) (.alt 6 (.alt 3 (.alt 20 (.take 21 (.take 22 (.take 23 (.take 24 .fin)))) .nil) .nil) .nil))) .nil))))) (.alt 18 (.alt 3 (.alt 6 (.alt 13 (.take 14 (.take 15 (.take 19 (.alt 20 (.take 21 (.take 22 (.take 23 (.take 24 .fin)))) .nil)))) .nil) (.alt 13 (.take 14 (.take 15 (.take 19 (.alt 6 (.alt 20 (.take 21 (.take 22 (.take 23 (.take 24 .fin)))) .nil) .nil)))) .nil)) (.alt 6 (.alt 3 (.alt 13 (.take 14 (.take 15 (.take 19 (.alt 20 (.take 21 (.take 22 (.take 23 (.take 24 .fin)))) .nil)))) .nil) (.alt 13 (.take 14 (.take 15 (.take 19 (.alt 3 (.alt 20 (.take 21 (.take 22 (.take 23 (.take 24 .fin)))) .nil) .nil)))) .nil)) (.alt 13 (.take 14 (.take 15 (.take 19 (.alt 3 (.alt 6 (.alt 20 (.take 21 (.take 22 (.take 23 (.take 24 .fin)))) .nil) .nil) (.alt 6 (.alt 3 (.alt 20 (.take 21 (.take 22 (.take 23 (.take 24 .fin)))) .nil) .nil) .nil))))) .nil))) .nil))))) (.alt 13 (.take 14 (.alt 3 (.alt 6 (.alt 9 (.take 10 (.take 15 (.alt 18 (.take 19 (.alt 20 (.take 21 (.take 22 (.take 23 (.take 24 .fin)))) .nil)) .nil))) (.alt 18 (.alt 9 (.take 10 (.take 15 (.take 19 (.alt 20 (.take 21 (.take 22 (.take 23 (.take 24 .fin)))) .nil)))) .nil) .nil)) (.alt 9 (.take 10 (.take 15 (.alt 6 (.alt 18 (.take 19 (.alt 20 (.take 21 (.take 22 (.take 23 (.take 24 .fin)))) .nil)) .nil) (.alt 18 (.take 19 (.alt 6 (.alt 20 (.take 21 (.take 22 (.take 23 (.take 24 .fin)))) .nil) .nil)) .nil)))) (.alt 18 (.alt 6 (.alt 9 (.take 10 (.take 15 (.take 19 (.alt 20 (.take 21 (.take 22 (.take 23 (.take 24 .fin)))) .nil)))) .nil) (.alt 9 (.take 10 (.take 15 (.take 19 (.alt 6 (.alt 20 (.take 21 (.take 22 (.take 23 (.take 24 .fin)))) .nil) .nil)))) .nil)) .nil))) (.alt 6 (.alt 3 (.alt 9 (.take 10 (.take 15 (.alt 18 (.take 19 (.alt 20 (.take 21 (.take 22 (.take 23 (.take 24 .fin)))) .nil)) .nil))) (.alt 18 (.alt 9 (.take 10 (.take 15 (.take 19 (.alt 20 (.take 21 (.take 22 (.take 23 (.take 24 .fin)))) .nil)))) .nil) .nil)) (.alt 9 (.take 10 (.take 15 (.alt 3 (.alt 18 (.take 19 (.alt 20 (.take 21 (.take 22 (.take 23 (.take 24 .fin)))) .nil)) .nil) (.alt 18 (.take 19 (.alt 3 (.alt 20 (.take 21 (.take 22 (.take 23 (.take 24 .fin)))) .nil) .nil)) .nil)))) (.alt 18 (.alt 3 (.alt 9 (.take 10 (.take 15 (.take 19 (.alt 20 (.take 21 (.take 22 (.take 23 (.take 24 .fin)))) .nil)))) .nil) (.alt 9 (.take 10 (.take 15 (.take 19 (.alt 3 (.alt 20 (.take 21 (.take 22 (.take 23 (.take 24 .fin)))) .nil) .nil)))) .nil)) .nil))) (.alt 9 (.take 10 (.take 15 (.alt 3 (.alt 6 (.alt 18 (.take 19 (.alt 20 (.take 21 (.take 22 (.take 23 (.take 24 .fin)))) .nil)) .nil) (.alt 18 (.take 19 (.alt 6 (.alt 20 (.take 21 (.take 22 (.take 23 (.take 24 .fin)))) .nil) .nil)) .nil)) (.alt 6 (.alt 3 (.alt 18 (.take 19 (.alt 20 (.take 21 (.take 22 (.take 23 (.take 24 .fin)))) .nil)) .nil) (.alt 18 (.take 19 (.alt 3 (.alt 20 (.take 21 (.take 22 (.take 23 (.take 24 .fin)))) .nil) .nil)) .nil)) (.alt 18 (.take 19 (.alt 3 (.alt 6 (.alt 20 (.take 21 (.take 22 (.take 23 (.take 24 .fin)))) .nil) .nil) (.alt 6 (.alt 3 (.alt 20 (.take 21 (.take 22 (.take 23 (.take 24 .fin)))) .nil) .nil) .nil))) .nil))))) (.alt 18 (.alt 3 (.alt 6 (.alt 9 (.take 10 (.take 15 (.take 19 (.alt 20 (.take 21 (.take 22 (.take 23 (.take 24 .fin)))) .nil)))) .nil) (.alt 9 (.take 10 (.take 15 (.take 19 (.alt 6 (.alt 20 (.take 21 (.take 22 (.take 23 (.take 24 .fin)))) .nil) .nil)))) .nil)) (.alt 6 (.alt 3 (.alt 9 (.take 10 (.take 15 (.take 19 (.alt 20 (.take 21 (.take 22 (.take 23 (.take 24 .fin)))) .nil)))) .nil) (.alt 9 (.take 10 (.take 15 (.take 19 (.alt 3 (.alt 20 (.take 21 (.take 22 (.take 23 (.take 24 .fin)))) .nil) .nil)))) .nil)) (.alt 9 (.take 10 (.take 15 (.take 19 (.alt 3 (.alt 6 (.alt 20 (.take 21 (.take 22 (.take 23 (.take 24 .fin)))) .nil) .nil) (.alt 6 (.alt 3 (.alt 20 (.take 21 (.take 22 (.take 23 (.take 24 .fin)))) .nil) .nil) .nil))))) .nil))) .nil))))) (.alt 18 (.alt 3 (.alt 6 (.alt 9 (.take 10 (.alt 13 (.take 14 (.take 15 (.take 19 (.alt 20 (.take 21 (.take 22 (.take 23 (.take 24 .fin)))) .nil)))) .nil)) (.alt 13 (.take 14 (.alt 9 (.take 10 (.take 15 (.take 19 (.alt 20 (.take 21 (.take 22 (.take 23 (.take 24 .fin)))) .nil)))) .nil)) .nil)) (.alt 9 (.take 10 (.alt 6 (.alt 13 (.take 14 (.take 15 (.take 19 (.alt 20 (.take 21 (.take 22 (.take 23 (.take 24 .fin)))) .nil)))) .nil) (.alt 13 (.take 14 (.take 15 (.take 19 (.alt 6 (.alt 20 (.take 21 (.take 22 (.take 23 (.take 24 .fin)))) .nil) .nil)))) .nil))) (.alt 13 (.take 14 (.alt 6 (.alt 9 (.take 10 (.take 15 (.take 19 (.alt 20 (.take 21 (.take 22 (.take 23 (.take 24 .fin)))) .nil)))) .nil) (.alt 9 (.take 10 (.take 15 (.take 19 (.alt 6 (.alt 20 (.take 21 (.take 22 (.take 23 (.take 24 .fin)))) .nil) .nil)))) .nil))) .nil))) (.alt 6 (.alt 3 (.alt 9 (.take 10 (.alt 13 (.take 14 (.take 15 (.take 19 (.alt 20 (.take 21 (.take 22 (.take 23 (.take 24 .fin)))) .nil)))) .nil)) (.alt 13 (.take 14 (.alt 9 (.take 10 (.take 15 (.take 19 (.alt 20 (.take 21 (.take 22 (.take 23 (.take 24 .fin)))) .nil)))) .nil)) .nil)) (.alt 9 (.take 10 (.alt 3 (.alt 13 (.take 14 (.take 15 (.take 19 (.alt 20 (.take 21 (.take 22 (.take 23 (.take 24 .fin)))) .nil)))) .nil) (.alt 13 (.take 14 (.take 15 (.take 19 (.alt 3 (.alt 20 (.take 21 (.take 22 (.take 23 (.take 24 .fin)))) .nil) .nil)))) .nil))) (.alt 13 (.take 14 (.alt 3 (.alt 9 (.take 10 (.take 15 (.take 19 (.alt 20 (.take 21 (.take 22 (.take 23 (.take 24 .fin)))) .nil)))) .nil) (.alt 9 (.take 10 (.take 15 (.take 19 (.alt 3 (.alt 20 (.take 21 (.take 22 (.take 23 (.take 24 .fin)))) .nil) .nil)))) .nil))) .nil))) (.alt 9 (.take 10 (.alt 3 (.alt 6 (.alt 13 (.take 14 (.take 15 (.take 19 (.alt 20 (.take 21 (.take 22 (.take 23 (.take 24 .fin)))) .nil)))) .nil) (.alt 13 (.take 14 (.take 15 (.take 19 (.alt 6 (.alt 20 (.take 21 (.take 22 (.take 23 (.take 24 .fin)))) .nil) .nil)))) .nil)) (.alt 6 (.alt 3 (.alt 13 (.take 14 (.take 15 (.take 19 (.alt 20 (.take 21 (.take 22 (.take 23 (.take 24 .fin)))) .nil)))) .nil) (.alt 13 (.take 14 (.take 15 (.take 19 (.alt 3 (.alt 20 (.take 21 (.take 22 (.take 23 (.take 24 .fin)))) .nil) .nil)))) .nil)) (.alt 13 (.take 14 (.take 15 (.take 19 (.alt 3 (.alt 6 (.alt 20 (.take 21 (.take 22 (.take 23 (.take 24 .fin)))) .nil) .nil) (.alt 6 (.alt 3 (.alt 20 (.take 21 (.take 22 (.take 23 (.take 24 .fin)))) .nil) .nil) .nil))))) .nil)))) (.alt 13 (.take 14 (.alt 3 (.alt 6 (.alt 9 (.take 10 (.take 15 (.take 19 (.alt 20 (.take 21 (.take 22 (.take 23 (.take 24 .fin)))) .nil)))) .nil) (.alt 9 (.take 10 (.take 15 (.take 19 (.alt 6 (.alt 20 (.take 21 (.take 22 (.take 23 (.take 24 .fin)))) .nil) .nil)))) .nil)) (.alt 6 (.alt 3 (.alt 9 (.take 10 (.take 15 (.take 19 (.alt 20 (.take 21 (.take 22 (.take 23 (.take 24 .fin)))) .nil)))) .nil) (.alt 9 (.take 10 (.take 15 (.take 19 (.alt 3 (.alt 20 (.take 21 (.take 22 (.take 23 (.take 24 .fin)))) .nil) .nil)))) .nil)) (.alt 9 (.take 10 (.take 15 (.take 19 (.alt 3 (.alt 6 (.alt 20 (.take 21 (.take 22 (.take 23 (.take 24 .fin)))) .nil) .nil) (.alt 6 (.alt 3 (.alt 20 (.take 21 (.take 22 (.take 23 (.take 24 .fin)))) .nil) .nil) .nil))))) .nil)))) .nil)))) .nil)))))))))))))))
attribute [local go_sem] rwS6 rwS14
set_option maxRecDepth 10000 in
set_option maxHeartbeats 8000000 in
include hm in
theorem iReadTime (s : ByteArray) (hs : s.size ≤ 1048576) : Holds Tryz.prog 48 [.v (.string s)] [] (.tup [.v (.int .i64 (rdTime s).1), .v (.bool (rdTime s).2)]) [] := by
 refine holds_of (ann := []) tabOk hm Tryz.func48 (by kernel_rfl) rfl ?_
 by_cases hn : ¬ (s.size = 13 ∨ s.size = 15)
 ·have d1 : decide ((s.size : Int) = 13) = false := by simp; omega
  have d2 : decide ((s.size : Int) = 15) = false := by simp; omega
  simp +decide (maxSteps := 9^7) only [↓reduceIte, Tryz.f48, d1, d2, go_sem]
  exact Runs.ret_eq (by rw [rdTime, if_neg (fun h => hn h.1)])
 have hn' : s.size = 13 ∨ s.size = 15 := by omega
 have w12 : IntKind.i64.wrap (13 - 1) = 12 := rfl
 have w14 : IntKind.i64.wrap (15 - 1) = 14 := rfl
 have t12 : Int.toNat 12 = 12 := rfl
 have t14 : Int.toNat 14 = 14 := rfl
 have tz0 : Int.toNat 0 = 0 := rfl
 have tz1 : Int.toNat 1 = 1 := rfl
 have tz2 : Int.toNat 2 = 2 := rfl
 have tz3 : Int.toNat 3 = 3 := rfl
 have tz4 : Int.toNat 4 = 4 := rfl
 have tz5 : Int.toNat 5 = 5 := rfl
 have tz6 : Int.toNat 6 = 6 := rfl
 rcases hn' with hz | hz
 ·have hzi : (s.size : Int) = 13 := by omega
  have hbad : ¬ (cg s 12 = 90 ∧ okD (s.extract 0 12) = true) → rdTime s = (0, false) := fun h => by
   rw [rdTime, hz, if_neg (fun c => h c.2)]
  have hgood : cg s 12 = 90 → okD (s.extract 0 12) = true → rdTime s = if 23 < vA s 3 ∨ 59 < vA s 4 ∨ 59 < vA s 5 then (0, false) else timeM (yearV s) (vA s 1) (vA s 2) (3600 * vA s 3 + 60 * vA s 4 + vA s 5) := fun h1 h2 => by
   have e : offV s = 0 := by rw [offV, hz]; rfl
   rw [rdTime, hz, e, if_pos ⟨by omega, h1, h2⟩]
  by_cases hl : cg s 12 = 90
  rotate_left 1
  ·have dl : decide (((s.data.toList.getD 12 0).toNat : Int) = 90) = false := by
    simp only [decide_eq_false_iff_not]
    intro h
    apply hl
    rw [cg]
    apply UInt8.toNat_inj.mp
    have : (90 : UInt8).toNat = 90 := rfl
    omega
   simp +decide (maxSteps := 9^7) only [↓reduceIte, Tryz.f48, hzi, w12, t12, dl, go_sem]
   exact Runs.ret_eq (by rw [hbad (fun h => hl h.1)])
  have dl : decide (((s.data.toList.getD 12 0).toNat : Int) = 90) = true := by
   have : s.data.toList.getD 12 0 = 90 := hl
   rw [this]; rfl
  have hes : (s.extract 0 12).size = 12 := by simp; omega
  have cd := readTwo hm (s.extract 0 12) 6 hes (by omega)
  rw [rowV_ext (by omega)] at cd
  simp +decide (maxSteps := 9^7) only [↓reduceIte, Tryz.f48, hzi, w12, t12, dl, go_sem]
  refine Runs.call cd ?_
  cases hok : okD (s.extract 0 12)
  ·simp +decide (maxSteps := 9^7) only [↓reduceIte, go_sem]
   exact Runs.ret_eq (by rw [hbad (fun h => by rw [hok] at h; exact absurd h.2 (by decide))])
  rw [hgood hl hok]
  clear hbad hgood
  ·have hdg : ∀ i, i < 12 → 48 ≤ (cg s i).toNat ∧ (cg s i).toNat ≤ 57 := fun i hi => okD_get hok hi (by omega)
   have hv : ∀ i, i < 6 → vA s i ≤ 99 := fun i hi => by
    have h1 := hdg (2 * i) (by omega)
    have h2 := hdg (2 * i + 1) (by omega)
    simp only [vA, dg]; omega
   have lk := rowV_len s 6
   have g0 := rowV_get s (k := 6) (i := 0) (by omega)
   have g1 := rowV_get s (k := 6) (i := 1) (by omega)
   have g2 := rowV_get s (k := 6) (i := 2) (by omega)
   have g3 := rowV_get s (k := 6) (i := 3) (by omega)
   have g4 := rowV_get s (k := 6) (i := 4) (by omega)
   have g5 := rowV_get s (k := 6) (i := 5) (by omega)
   have g6 := g5
   have v0 := hv 0 (by omega)
   have v1 := hv 1 (by omega)
   have v2 := hv 2 (by omega)
   have v3 := hv 3 (by omega)
   have v4 := hv 4 (by omega)
   have v5 := hv 5 (by omega)
   have v6 := v5
   generalize rowV s 6 = W at *
   have m0 : IntKind.i64.wrap ((vA s 0 : Int) * 100) = ((100 * vA s 0 : Nat) : Int) := by rw [wrap_i64 (by omega) (by omega)]; omega
   have a0 : IntKind.i64.wrap (((100 * vA s 0 : Nat) : Int) + (vA s 1 : Int)) = ((100 * vA s 0 + vA s 1 : Nat) : Int) := by rw [wrap_i64 (by omega) (by omega)]; omega
   simp +decide (maxSteps := 9^7) only [↓reduceIte, lk, go_sem]
   apply Runs.draw
   ·apply draws_by (ann := []) tabOk rwS6 (by kernel_rfl)
    intro J r X hK
    simp +decide (maxSteps := 9^7) only [↓reduceIte, lk, tz0, tz1, tz2, tz3, tz4, tz5, tz6, g0, g1, g2, g3, g4, g5, g6, m0, a0, go_sem]
    repeat' apply And.intro
    all_goals exact hK
   have hyr : yearV s = if vA s 0 < 50 then 2000 + vA s 0 else 1900 + vA s 0 := by rw [yearV, if_neg (by omega)]
   have y1 : IntKind.i64.wrap (1900 + (vA s 0 : Int)) = ((1900 + vA s 0 : Nat) : Int) := by rw [wrap_i64 (by omega) (by omega)]; omega
   simp +decide (maxSteps := 9^7) only [↓reduceIte, hzi, lk, tz0, tz1, tz2, tz3, tz4, tz5, tz6, g0, g1, g2, g3, g4, g5, g6, y1, go_sem]
   by_cases h50 : vA s 0 < 50
   focus
    have dy : decide ((vA s 0 : Int) < 50) = true := by simp; omega
    have ey : IntKind.i64.wrap (((1900 + vA s 0 : Nat) : Int) + 100) = (yearV s : Int) := by rw [wrap_i64 (by omega) (by omega), hyr, if_pos h50]; omega
    simp +decide (maxSteps := 9^7) only [↓reduceIte, dy, lk, tz0, tz1, tz2, tz3, tz4, tz5, tz6, g0, g1, g2, g3, g4, g5, g6, ey, go_sem]
   rotate_left 1
   focus
    have dy : decide ((vA s 0 : Int) < 50) = false := by simp; omega
    have ey : 1900 + vA s 0 = yearV s := by rw [hyr, if_neg h50]
    simp +decide (maxSteps := 9^7) only [↓reduceIte, dy, lk, tz0, tz1, tz2, tz3, tz4, tz5, tz6, g0, g1, g2, g3, g4, g5, g6, ey, go_sem]
   all_goals
    by_cases c3 : 23 < vA s 3
    ·have d3 : decide ((vA s 3 : Int) > 23) = true := by simp; omega
     simp +decide (maxSteps := 9^7) only [↓reduceIte, lk, tz0, tz1, tz2, tz3, tz4, tz5, tz6, g0, g1, g2, g3, g4, g5, g6, d3, go_sem]
     exact Runs.ret_eq (by rw [if_pos (.inl c3)])
    have d3 : decide ((vA s 3 : Int) > 23) = false := by simp; omega
    by_cases c4 : 59 < vA s 4
    ·have d4 : decide ((vA s 4 : Int) > 59) = true := by simp; omega
     simp +decide (maxSteps := 9^7) only [↓reduceIte, lk, tz0, tz1, tz2, tz3, tz4, tz5, tz6, g0, g1, g2, g3, g4, g5, g6, d3, d4, go_sem]
     exact Runs.ret_eq (by rw [if_pos (.inr (.inl c4))])
    have d4 : decide ((vA s 4 : Int) > 59) = false := by simp; omega
    by_cases c5 : 59 < vA s 5
    ·have d5 : decide ((vA s 5 : Int) > 59) = true := by simp; omega
     simp +decide (maxSteps := 9^7) only [↓reduceIte, lk, tz0, tz1, tz2, tz3, tz4, tz5, tz6, g0, g1, g2, g3, g4, g5, g6, d3, d4, d5, go_sem]
     exact Runs.ret_eq (by rw [if_pos (.inr (.inr c5))])
    have d5 : decide ((vA s 5 : Int) > 59) = false := by simp; omega
    rw [if_neg (show ¬ (23 < vA s 3 ∨ 59 < vA s 4 ∨ 59 < vA s 5) by omega)]
    have p1 : IntKind.i64.wrap ((vA s 3 : Int) * 3600) = ((3600 * vA s 3 : Nat) : Int) := by rw [wrap_i64 (by omega) (by omega)]; omega
    have p2 : IntKind.i64.wrap ((vA s 4 : Int) * 60) = ((60 * vA s 4 : Nat) : Int) := by rw [wrap_i64 (by omega) (by omega)]; omega
    have p3 : IntKind.i64.wrap (((3600 * vA s 3 : Nat) : Int) + ((60 * vA s 4 : Nat) : Int)) = ((3600 * vA s 3 + 60 * vA s 4 : Nat) : Int) := by rw [wrap_i64 (by omega) (by omega)]; omega
    have p4 : IntKind.i64.wrap (((3600 * vA s 3 + 60 * vA s 4 : Nat) : Int) + (vA s 5 : Int)) = ((3600 * vA s 3 + 60 * vA s 4 + vA s 5 : Nat) : Int) := by rw [wrap_i64 (by omega) (by omega)]; omega
    have ct := iTimeOf hm (yearV s) (vA s 1) (vA s 2) (3600 * vA s 3 + 60 * vA s 4 + vA s 5) (by omega)
    simp +decide (maxSteps := 9^7) only [↓reduceIte, lk, tz0, tz1, tz2, tz3, tz4, tz5, tz6, g0, g1, g2, g3, g4, g5, g6, d3, d4, d5, go_sem]
    apply Runs.draw
    ·apply draws_by (ann := []) tabOk rwS14 (by kernel_rfl)
     intro J r X hK
     simp +decide (maxSteps := 9^7) only [↓reduceIte, lk, tz0, tz1, tz2, tz3, tz4, tz5, tz6, g0, g1, g2, g3, g4, g5, g6, p1, p2, p3, p4, go_sem]
     repeat' (first | exact hK | apply And.intro | (refine Runs.call ct ?_; simp +decide (maxSteps := 9^7) only [↓reduceIte, go_sem]))
    simp +decide (maxSteps := 9^7) only [↓reduceIte, go_sem]
    exact Runs.ret_refl
 ·have hzi : (s.size : Int) = 15 := by omega
  have hbad : ¬ (cg s 14 = 90 ∧ okD (s.extract 0 14) = true) → rdTime s = (0, false) := fun h => by
   rw [rdTime, hz, if_neg (fun c => h c.2)]
  have hgood : cg s 14 = 90 → okD (s.extract 0 14) = true → rdTime s = if 23 < vA s 4 ∨ 59 < vA s 5 ∨ 59 < vA s 6 then (0, false) else timeM (yearV s) (vA s 2) (vA s 3) (3600 * vA s 4 + 60 * vA s 5 + vA s 6) := fun h1 h2 => by
   have e : offV s = 1 := by rw [offV, hz]; rfl
   rw [rdTime, hz, e, if_pos ⟨by omega, h1, h2⟩]
  by_cases hl : cg s 14 = 90
  rotate_left 1
  ·have dl : decide (((s.data.toList.getD 14 0).toNat : Int) = 90) = false := by
    simp only [decide_eq_false_iff_not]
    intro h
    apply hl
    rw [cg]
    apply UInt8.toNat_inj.mp
    have : (90 : UInt8).toNat = 90 := rfl
    omega
   simp +decide (maxSteps := 9^7) only [↓reduceIte, Tryz.f48, hzi, w14, t14, dl, go_sem]
   exact Runs.ret_eq (by rw [hbad (fun h => hl h.1)])
  have dl : decide (((s.data.toList.getD 14 0).toNat : Int) = 90) = true := by
   have : s.data.toList.getD 14 0 = 90 := hl
   rw [this]; rfl
  have hes : (s.extract 0 14).size = 14 := by simp; omega
  have cd := readTwo hm (s.extract 0 14) 7 hes (by omega)
  rw [rowV_ext (by omega)] at cd
  simp +decide (maxSteps := 9^7) only [↓reduceIte, Tryz.f48, hzi, w14, t14, dl, go_sem]
  refine Runs.call cd ?_
  cases hok : okD (s.extract 0 14)
  ·simp +decide (maxSteps := 9^7) only [↓reduceIte, go_sem]
   exact Runs.ret_eq (by rw [hbad (fun h => by rw [hok] at h; exact absurd h.2 (by decide))])
  rw [hgood hl hok]
  clear hbad hgood
  ·have hdg : ∀ i, i < 14 → 48 ≤ (cg s i).toNat ∧ (cg s i).toNat ≤ 57 := fun i hi => okD_get hok hi (by omega)
   have hv : ∀ i, i < 7 → vA s i ≤ 99 := fun i hi => by
    have h1 := hdg (2 * i) (by omega)
    have h2 := hdg (2 * i + 1) (by omega)
    simp only [vA, dg]; omega
   have lk := rowV_len s 7
   have g0 := rowV_get s (k := 7) (i := 0) (by omega)
   have g1 := rowV_get s (k := 7) (i := 1) (by omega)
   have g2 := rowV_get s (k := 7) (i := 2) (by omega)
   have g3 := rowV_get s (k := 7) (i := 3) (by omega)
   have g4 := rowV_get s (k := 7) (i := 4) (by omega)
   have g5 := rowV_get s (k := 7) (i := 5) (by omega)
   have g6 := rowV_get s (k := 7) (i := 6) (by omega)
   have v0 := hv 0 (by omega)
   have v1 := hv 1 (by omega)
   have v2 := hv 2 (by omega)
   have v3 := hv 3 (by omega)
   have v4 := hv 4 (by omega)
   have v5 := hv 5 (by omega)
   have v6 := hv 6 (by omega)
   generalize rowV s 7 = W at *
   have m0 : IntKind.i64.wrap ((vA s 0 : Int) * 100) = ((100 * vA s 0 : Nat) : Int) := by rw [wrap_i64 (by omega) (by omega)]; omega
   have a0 : IntKind.i64.wrap (((100 * vA s 0 : Nat) : Int) + (vA s 1 : Int)) = ((100 * vA s 0 + vA s 1 : Nat) : Int) := by rw [wrap_i64 (by omega) (by omega)]; omega
   simp +decide (maxSteps := 9^7) only [↓reduceIte, lk, go_sem]
   apply Runs.draw
   ·apply draws_by (ann := []) tabOk rwS6 (by kernel_rfl)
    intro J r X hK
    simp +decide (maxSteps := 9^7) only [↓reduceIte, lk, tz0, tz1, tz2, tz3, tz4, tz5, tz6, g0, g1, g2, g3, g4, g5, g6, m0, a0, go_sem]
    repeat' apply And.intro
    all_goals exact hK
   have hyr : yearV s = 100 * vA s 0 + vA s 1 := by rw [yearV, if_pos (by omega)]
   have ey : 100 * vA s 0 + vA s 1 = yearV s := hyr.symm
   simp +decide (maxSteps := 9^7) only [↓reduceIte, hzi, lk, tz0, tz1, tz2, tz3, tz4, tz5, tz6, g0, g1, g2, g3, g4, g5, g6, ey, go_sem]
   all_goals
    by_cases c3 : 23 < vA s 4
    ·have d3 : decide ((vA s 4 : Int) > 23) = true := by simp; omega
     simp +decide (maxSteps := 9^7) only [↓reduceIte, lk, tz0, tz1, tz2, tz3, tz4, tz5, tz6, g0, g1, g2, g3, g4, g5, g6, d3, go_sem]
     exact Runs.ret_eq (by rw [if_pos (.inl c3)])
    have d3 : decide ((vA s 4 : Int) > 23) = false := by simp; omega
    by_cases c4 : 59 < vA s 5
    ·have d4 : decide ((vA s 5 : Int) > 59) = true := by simp; omega
     simp +decide (maxSteps := 9^7) only [↓reduceIte, lk, tz0, tz1, tz2, tz3, tz4, tz5, tz6, g0, g1, g2, g3, g4, g5, g6, d3, d4, go_sem]
     exact Runs.ret_eq (by rw [if_pos (.inr (.inl c4))])
    have d4 : decide ((vA s 5 : Int) > 59) = false := by simp; omega
    by_cases c5 : 59 < vA s 6
    ·have d5 : decide ((vA s 6 : Int) > 59) = true := by simp; omega
     simp +decide (maxSteps := 9^7) only [↓reduceIte, lk, tz0, tz1, tz2, tz3, tz4, tz5, tz6, g0, g1, g2, g3, g4, g5, g6, d3, d4, d5, go_sem]
     exact Runs.ret_eq (by rw [if_pos (.inr (.inr c5))])
    have d5 : decide ((vA s 6 : Int) > 59) = false := by simp; omega
    rw [if_neg (show ¬ (23 < vA s 4 ∨ 59 < vA s 5 ∨ 59 < vA s 6) by omega)]
    have p1 : IntKind.i64.wrap ((vA s 4 : Int) * 3600) = ((3600 * vA s 4 : Nat) : Int) := by rw [wrap_i64 (by omega) (by omega)]; omega
    have p2 : IntKind.i64.wrap ((vA s 5 : Int) * 60) = ((60 * vA s 5 : Nat) : Int) := by rw [wrap_i64 (by omega) (by omega)]; omega
    have p3 : IntKind.i64.wrap (((3600 * vA s 4 : Nat) : Int) + ((60 * vA s 5 : Nat) : Int)) = ((3600 * vA s 4 + 60 * vA s 5 : Nat) : Int) := by rw [wrap_i64 (by omega) (by omega)]; omega
    have p4 : IntKind.i64.wrap (((3600 * vA s 4 + 60 * vA s 5 : Nat) : Int) + (vA s 6 : Int)) = ((3600 * vA s 4 + 60 * vA s 5 + vA s 6 : Nat) : Int) := by rw [wrap_i64 (by omega) (by omega)]; omega
    have ct := iTimeOf hm (yearV s) (vA s 2) (vA s 3) (3600 * vA s 4 + 60 * vA s 5 + vA s 6) (by omega)
    simp +decide (maxSteps := 9^7) only [↓reduceIte, lk, tz0, tz1, tz2, tz3, tz4, tz5, tz6, g0, g1, g2, g3, g4, g5, g6, d3, d4, d5, go_sem]
    apply Runs.draw
    ·apply draws_by (ann := []) tabOk rwS14 (by kernel_rfl)
     intro J r X hK
     simp +decide (maxSteps := 9^7) only [↓reduceIte, lk, tz0, tz1, tz2, tz3, tz4, tz5, tz6, g0, g1, g2, g3, g4, g5, g6, p1, p2, p3, p4, go_sem]
     repeat' (first | exact hK | apply And.intro | (refine Runs.call ct ?_; simp +decide (maxSteps := 9^7) only [↓reduceIte, go_sem]))
    simp +decide (maxSteps := 9^7) only [↓reduceIte, go_sem]
    exact Runs.ret_refl
end Go.Proofs.W

namespace Go.Proofs.W
open Go Go.AM
mutual
def depN : Nd → Nat
 | .mk _ _ ks => depL ks + 1
def depL : List Nd → Nat
 | [] => 0
 | n :: r => max (depN n) (depL r)
end
mutual
def goodN : Nd → Prop
 | .mk t b ks => 0 ≤ t ∧ t < 256 ∧ BytesOk b ∧ b.length ≤ 65536 ∧ goodL ks
def goodL : List Nd → Prop
 | [] => True
 | n :: r => goodN n ∧ goodL r
end
theorem goodL_app {l m : List Nd} (h1 : goodL l) (h2 : goodL m) : goodL (l ++ m) := by
 induction l with
 | nil => exact h2
 | cons a l ih => exact ⟨h1.1, ih h1.2⟩
theorem depL_app (l m : List Nd) : depL (l ++ m) = max (depL l) (depL m) := by
 induction l with
 | nil => simp [depL]
 | cons a l ih => simp only [List.cons_append, depL, ih]; omega
theorem loopM_tree {f : Nat → RR} {e d : Nat} (hf : ∀ q, (f q).code = 0 → ∃ n, (f q).items = itemsN n ∧ depN n ≤ d ∧ goodN n) : ∀ (k q j : Nat) (ks : List Nd), j = ks.length → depL ks ≤ d → goodL ks →
  (loopM f e k q j (itemsNL ks)).2.code = 0 → ∃ ks', (loopM f e k q j (itemsNL ks)).2.items = itemsNL ks' ∧ (loopM f e k q j (itemsNL ks)).1 = ks'.length ∧ depL ks' ≤ d ∧ goodL ks'
 | 0, q, j, ks, h1, h2, h3, _ => ⟨ks, rfl, h1, h2, h3⟩
 | k + 1, q, j, ks, h1, h2, h3, hc => by
  unfold loopM at hc ⊢
  by_cases hq : q < e
  ·rw [if_pos hq] at hc ⊢
   by_cases h0 : (f q).code = 0
   ·rw [if_pos h0] at hc ⊢
    obtain ⟨n, hn, hd, hg⟩ := hf q h0
    have e1 : itemsNL ks ++ (f q).items = itemsNL (ks ++ [n]) := by rw [hn, itemsNL_app]; simp [itemsNL]
    rw [e1] at hc ⊢
    exact loopM_tree hf k _ _ _ (by rw [h1]; simp) (by rw [depL_app]; simp only [depL]; omega) (goodL_app h3 ⟨hg, trivial⟩) hc
   ·rw [if_neg h0] at hc
    exact absurd hc h0
  ·rw [if_neg hq]
   exact ⟨ks, rfl, h1, h2, h3⟩
theorem sliceB_ok {b : List Int} (h : BytesOk b) (f n : Nat) : BytesOk (sliceB b f n) := fun x hx => h x (List.mem_of_mem_drop (List.mem_of_mem_take hx))
theorem rdM_tree {b : List Int} (hb : BytesOk b) : ∀ d p e, (rdM b d p e).code = 0 → ∃ n, (rdM b d p e).items = itemsN n ∧ depN n ≤ d ∧ goodN n
 | 0, p, e => by
  unfold rdM
  split
  ·rename_i c q hh
   exact fun h => absurd h (hd_bad hh).1
  ·intro h; simp at h
 | d + 1, p, e => by
  have hbt := bt_rng hb p
  unfold rdM
  split
  ·rename_i c q hh
   exact fun h => absurd h (hd_bad hh).1
  ·rename_i f n hh
   obtain ⟨_, _, _, o4, _⟩ := hd_ok hb hh
   split
   ·intro hc
    obtain ⟨ks, h1, h2, h3, h4⟩ := loopM_tree (f := fun q => rdM b d q (f + n)) (e := f + n) (d := d) (fun q hq => rdM_tree hb d q (f + n) hq) n f 0 [] rfl (by simp [depL]) trivial hc
    refine ⟨.mk (bt b p) [] ks, ?_, by rw [depN]; omega, hbt.1, hbt.2, fun x hx => by simp at hx, by simp, h4⟩
    rw [itemsN_mk, ← h1, ← h2]
    rfl
   ·intro _
    refine ⟨.mk (bt b p) (sliceB b f n) [], by rw [itemsN_mk]; rfl, by simp [depN, depL], hbt.1, hbt.2, sliceB_ok hb f n, by have := sliceB_len b f n; omega, trivial⟩
def AtP (L : List It) (p : Nat) (n : Nd) : Prop := ∃ pre post, L = pre ++ itemsN n ++ post ∧ pre.length = p
def AtL (L : List It) (p : Nat) (ks : List Nd) : Prop := ∃ pre post, L = pre ++ itemsNL ks ++ post ∧ pre.length = p
theorem AtP.head {L : List It} {p : Nat} {t : Int} {b : List Int} {ks : List Nd} (h : AtP L p (.mk t b ks)) : L[p]? = some ⟨t, b, ks.length⟩ ∧ AtL L (p + 1) ks := by
 obtain ⟨pre, post, h1, h2⟩ := h
 rw [itemsN_mk] at h1
 subst h2
 refine ⟨by rw [h1]; simp, pre ++ [⟨t, b, ks.length⟩], post, by rw [h1]; simp, by simp⟩
theorem AtL.head {L : List It} {p : Nat} {n : Nd} {ks : List Nd} (h : AtL L p (n :: ks)) : AtP L p n ∧ AtL L (p + (itemsN n).length) ks := by
 obtain ⟨pre, post, h1, h2⟩ := h
 have e : itemsNL (n :: ks) = itemsN n ++ itemsNL ks := rfl
 rw [e] at h1
 subst h2
 exact ⟨⟨pre, itemsNL ks ++ post, by rw [h1]; simp, rfl⟩, pre ++ itemsN n, post, by rw [h1]; simp, by simp⟩
theorem iterO_at {L : List It} {d : Nat} (hd : ∀ p n, AtP L p n → depN n ≤ d → endP L d p = some (p + (itemsN n).length)) : ∀ (ks : List Nd) (q : Nat), AtL L q ks → depL ks ≤ d → iterO (endP L d) ks.length q = some (q + (itemsNL ks).length)
 | [], q, _, _ => by simp [iterO, itemsNL]
 | n :: ks, q, h, hk => by
  obtain ⟨h1, h2⟩ := h.head
  simp only [depL] at hk
  rw [List.length_cons, iterO, hd q n h1 (by omega)]
  show iterO (endP L d) ks.length (q + (itemsN n).length) = _
  rw [iterO_at hd ks _ h2 (by omega)]
  have e : itemsNL (n :: ks) = itemsN n ++ itemsNL ks := rfl
  rw [e, List.length_append, Nat.add_assoc]
theorem endP_at {L : List It} : ∀ d p n, AtP L p n → depN n ≤ d → endP L d p = some (p + (itemsN n).length)
 | 0, p, .mk t b ks, h, hd => by rw [depN] at hd; omega
 | d + 1, p, .mk t b ks, h, hd => by
  obtain ⟨h1, h2⟩ := h.head
  rw [depN] at hd
  rw [endP, h1]
  show iterO (endP L d) (ks.length : Int).toNat (p + 1) = _
  rw [Int.toNat_natCast, iterO_at (endP_at d) ks (p + 1) h2 (by omega), itemsN_mk, List.length_cons]
  congr 1; omega
theorem iterN_at {L : List It} {d : Nat} (hd : ∀ p n, AtP L p n → depN n ≤ d → nestP L d p = (n, p + (itemsN n).length)) : ∀ (ks : List Nd) (q : Nat), AtL L q ks → depL ks ≤ d → iterN (nestP L d) ks.length q = (ks, q + (itemsNL ks).length)
 | [], q, _, _ => by simp [iterN, itemsNL]
 | n :: ks, q, h, hk => by
  obtain ⟨h1, h2⟩ := h.head
  simp only [depL] at hk
  have e : itemsNL (n :: ks) = itemsN n ++ itemsNL ks := rfl
  rw [List.length_cons, iterN, hd q n h1 (by omega)]
  simp only
  rw [iterN_at hd ks _ h2 (by omega), e, List.length_append, Nat.add_assoc]
theorem nestP_at {L : List It} : ∀ d p n, AtP L p n → depN n ≤ d → nestP L d p = (n, p + (itemsN n).length)
 | 0, p, .mk t b ks, h, hd => by rw [depN] at hd; omega
 | d + 1, p, .mk t b ks, h, hd => by
  obtain ⟨h1, h2⟩ := h.head
  rw [depN] at hd
  have hl : p < L.length := by
   rcases Nat.lt_or_ge p L.length with h | h
   ·exact h
   ·rw [List.getElem?_eq_none h] at h1; simp at h1
  have hx : L[p] = ⟨t, b, ks.length⟩ := by rw [List.getElem?_eq_getElem hl] at h1; simpa using h1
  rw [nestP_get hl, hx]
  simp only [Int.toNat_natCast]
  rw [iterN_at (nestP_at d) ks (p + 1) h2 (by omega), itemsN_mk, List.length_cons]
  simp only [Prod.mk.injEq, true_and]
  omega
def posL : Nat → List Nd → List Nat
 | _, [] => []
 | q, n :: r => q :: posL (q + (itemsN n).length) r
end Go.Proofs.W

namespace Go.Proofs.W
open Go Go.AM
variable (hm : Tryz.prog.follows .mixedOrders = true)
def kidP (q : Nat) (ks : List Nd) (k : Nat) : Nat := q + (itemsNL (ks.take k)).length
theorem kidP_zero (q : Nat) (ks : List Nd) : kidP q ks 0 = q := rfl
theorem kidP_succ (q : Nat) {ks : List Nd} {k : Nat} (h : k < ks.length) : kidP q ks (k + 1) = kidP q ks k + (itemsN ks[k]).length := by
 have e : ks.take (k + 1) = ks.take k ++ [ks[k]] := by rw [List.take_add_one, List.getElem?_eq_getElem h]; rfl
 have e2 : itemsNL [ks[k]] = itemsN ks[k] ++ [] := rfl
 rw [kidP, kidP, e, itemsNL_app, List.length_append, e2, List.append_nil, Nat.add_assoc]
theorem kidP_at {L : List It} {q : Nat} {ks : List Nd} (h : AtL L q ks) {k : Nat} (hk : k < ks.length) : AtP L (kidP q ks k) ks[k] := by
 obtain ⟨pre, post, h1, h2⟩ := h
 have e : ks = ks.take k ++ (ks[k] :: ks.drop (k + 1)) := by rw [← List.drop_eq_getElem_cons hk, List.take_append_drop]
 have e2 : itemsNL ks = itemsNL (ks.take k) ++ (itemsN ks[k] ++ itemsNL (ks.drop (k + 1))) := by
  conv => lhs; rw [e]
  rw [itemsNL_app]
  rfl
 refine ⟨pre ++ itemsNL (ks.take k), itemsNL (ks.drop (k + 1)) ++ post, by rw [h1, e2]; simp, by rw [List.length_append, h2, kidP]⟩
theorem AtP.lt {L : List It} {p : Nat} {n : Nd} (h : AtP L p n) : p < L.length := by
 obtain ⟨t, b, ks⟩ := n
 obtain ⟨h1, _⟩ := h.head
 rcases Nat.lt_or_ge p L.length with h | h
 ·exact h
 ·rw [List.getElem?_eq_none h] at h1; simp at h1
theorem AtP.item {L : List It} {p : Nat} {t : Int} {b : List Int} {ks : List Nd} (h : AtP L p (.mk t b ks)) : (L.map itemS).getD p .any = .agg [.v (.int .i64 t), .sl .sh (b.map u8A), .v (.int .i64 ks.length)] := by
 have h1 := h.head.1
 rw [List.getD, List.getElem?_map, h1]
 rfl
theorem depL_get : ∀ {ks : List Nd} {k : Nat} (h : k < ks.length), depN ks[k] ≤ depL ks
 | n :: r, 0, _ => by simp only [depL]; exact Nat.le_max_left _ _
 | n :: r, k + 1, h => by
  have := depL_get (ks := r) (k := k) (by simpa using h)
  simp only [depL, List.getElem_cons_succ]
  omega
def kidsR (q : Nat) (ks : List Nd) (k : Nat) : List A := (List.range k).map fun i => .v (.int .i64 (kidP q ks i))
theorem kidsR_succ (q : Nat) (ks : List Nd) (k : Nat) : kidsR q ks (k + 1) = kidsR q ks k ++ [.v (.int .i64 (kidP q ks k))] := by simp [kidsR, List.range_succ]
theorem kidsR_len (q : Nat) (ks : List Nd) (k : Nat) : (kidsR q ks k).length = k := by simp [kidsR]
theorem kidsR_get (q : Nat) (ks : List Nd) {k i : Nat} (h : i < k) : (kidsR q ks k).getD i .any = .v (.int .i64 (kidP q ks i)) := by simp [kidsR, List.getD, h]
theorem kidsR_md (q : Nat) (ks : List Nd) (k : Nat) : mdL (kidsR q ks k) = kidsR q ks k := by rw [kidsR, mdL_eq, List.map_map]; rfl
def kdAnn : Ann := [(0, [0, 1, 5, 6, 7])]
def kdSt (L : List It) (p : Nat) (ks : List Nd) (k : Nat) : St := ⟨[.sl .sh (L.map itemS), .v (.int .i64 p), .any, .any, .any, .ms (.l 0) 0 k k, .v (.int .i64 (kidP (p + 1) ks k)), .v (.int .i64 k), .any, .any, .any, .any, .any, .any, .any, .any, .any, .any, .any, .any, .any, .any, .any, .any, .any, .any, .any, .any], [(0, ⟨true, 1, false, kidsR (p + 1) ks k⟩)], []⟩
set_option maxRecDepth 10000 in
set_option maxHeartbeats 8000000 in
include hm in
theorem l7Kids (L : List It) (hk : kidsOk L) (hl : L.length ≤ 1000000) (p : Nat) (t : Int) (b : List Int) (ks : List Nd) (ha : AtP L p (.mk t b ks)) (hd : depL ks ≤ 13) :
  Holds Tryz.prog 13 [.sl .sh (L.map itemS), .v (.int .i64 p)] [] (.sl (.ow 1) (kidsR (p + 1) ks ks.length)) [] := by
 have hp := ha.lt
 have hlen : (L.map itemS).length = L.length := List.length_map _
 have hg := ha.item
 have hL := ha.head.2
 have hkl : ks.length ≤ 300 := by
  have h1 := ha.head.1
  have := hk _ (List.mem_of_getElem? h1)
  simp only at this
  omega
 have wp : IntKind.i64.wrap ((p : Int) + 1) = ((p + 1 : Nat) : Int) := by rw [wrap_i64 (by omega) (by omega)]; rfl
 have rp : decide (0 ≤ (p : Int) ∧ (p : Int) < (L.length : Int)) = true := by simp; omega
 refine holds_of (ann := kdAnn) tabOk hm Tryz.func13 (by kernel_rfl) rfl ?_
 simp +decide (maxSteps := 9^7) only [↓reduceIte, Tryz.f13, wp, go_sem]
 refine Runs.while (α := Nat) (kdSt L p ks) (fun k => ks.length - k) (fun k => k ≤ ks.length) 0 (by omega) ?_ ?_
 ·simp [go_sem, kdAnn, kdSt, kidsR, kidP_zero]
 intro k hkk ih
 simp +decide (maxSteps := 9^7) only [↓reduceIte, kdSt, hlen, rp, hg, Int.toNat_natCast, go_sem]
 refine Runs.split (fun h => ?_) (fun h => ?_)
 ·have hlt : k < ks.length := by simp at h; omega
  have hat := kidP_at hL hlt
  have hlt2 := hat.lt
  have lk := kidsR_len (p + 1) ks k
  have dc : decide (k + 1 ≤ 1073741824) = true := by simp; omega
  have rs := kidsR_succ (p + 1) ks k
  have ce := l7End hm L hk hl 13 (kidP (p + 1) ks k) 0 rfl (by omega)
  rw [endP_at 13 _ _ hat (by have := depL_get hlt; omega), endI, ← kidP_succ _ hlt] at ce
  have wk : IntKind.i64.wrap ((k : Int) + 1) = ((k + 1 : Nat) : Int) := by rw [wrap_i64 (by omega) (by omega)]; rfl
  simp +decide (maxSteps := 9^7) only [↓reduceIte, lk, dc, ← rs, go_sem]
  refine Runs.call ce ?_
  simp +decide (maxSteps := 9^7) only [↓reduceIte, wk, go_sem]
  refine ih (k + 1) _ (by omega) (by omega) ?_
  simp [go_sem, kdAnn, kdSt]
 ·have hge : k = ks.length := by simp at h; omega
  subst hge
  simp +decide (maxSteps := 9^7) only [↓reduceIte, kidsR_len, kidsR_md, go_sem]
  exact Runs.ret_refl
end Go.Proofs.W

namespace Go.Proofs.W
open Go Go.AM
variable (hm : Tryz.prog.follows .mixedOrders = true)
def txs (ks : List Nd) : List ByteArray := ks.map fun n => txB (bodyN n)
def isT (t : Int) : Nd → Bool
 | .mk t' _ _ => decide (t' = t)
theorem goodN_body {n : Nd} (h : goodN n) : BytesOk (bodyN n) ∧ (bodyN n).length ≤ 65536 := by
 obtain ⟨t, b, ks⟩ := n
 exact ⟨h.2.2.1, h.2.2.2.1⟩
theorem goodL_get : ∀ {ks : List Nd} {k : Nat} (h : k < ks.length), goodL ks → goodN ks[k]
 | n :: r, 0, _, hg => hg.1
 | n :: r, k + 1, h, hg => goodL_get (ks := r) (by simpa using h) hg.2
set_option maxRecDepth 10000 in
include hm in
theorem readTimeNode (n : Nd) (hg : goodN n) : Holds Tryz.prog 25 [nodeS n] [] (.v (.int .i64 (rdTime (txB (bodyN n))).1)) [] := by
 obtain ⟨h1, h2⟩ := goodN_body hg
 obtain ⟨t, b, ks⟩ := n
 simp only [bodyN] at h1 h2 ⊢
 have ha := all_bytes h1
 have c := iReadTime hm (txB b) (by
  have : (txB b).size = (txB b).data.toList.length := rfl
  rw [this, txB_list, List.length_map]; omega)
 rw [nodeS]
 refine holds_of (ann := []) tabOk hm Tryz.func25 (by kernel_rfl) rfl ?_
 simp +decide (maxSteps := 9^7) only [↓reduceIte, Tryz.f25, ha, txB_eq, go_sem]
 refine Runs.call c ?_
 simp +decide (maxSteps := 9^7) only [↓reduceIte, go_sem]
 exact Runs.ret_refl
def rtxAnn : Ann := [(0, [1, 5, 9, 10, 11])]
def rtxSt (ks : List Nd) (t : Int) (i : Nat) : St := ⟨[.any, .v (.int .i64 t), .any, .any, .any, .ms (.l 0) 0 (txs ((ks.take i).filter (isT t))).length (txs ((ks.take i).filter (isT t))).length, .any, .any, .any, .sl .sh (nodesS ks), .v (.int .i64 ks.length), .v (.int .i64 i), .any, .any, .any, .any, .any, .any, .any, .any, .any, .any, .any, .any, .any, .any, .any], [(0, ⟨true, 1, false, (txs ((ks.take i).filter (isT t))).map strA⟩)], []⟩
set_option maxRecDepth 10000 in
set_option maxHeartbeats 8000000 in
include hm in
theorem readTexts (ks : List Nd) (t : Int) (hg : goodL ks) (hl : ks.length ≤ 1000000) : Holds Tryz.prog 24 [.sl .sh (nodesS ks), .v (.int .i64 t)] [] (.sl (.ow 1) ((txs (ks.filter (isT t))).map strA)) [] := by
 have hlen := nodesS_length ks
 refine holds_of (ann := rtxAnn) tabOk hm Tryz.func24 (by kernel_rfl) rfl ?_
 simp +decide (maxSteps := 9^7) only [↓reduceIte, Tryz.f24, hlen, go_sem]
 refine Runs.while (α := Nat) (rtxSt ks t) (fun i => ks.length - i) (fun i => i ≤ ks.length) 0 (by omega) ?_ ?_
 ·simp [go_sem, rtxAnn, rtxSt, txs]
 intro i hi ih
 simp +decide (maxSteps := 9^7) only [↓reduceIte, rtxSt, go_sem]
 refine Runs.split (fun h => ?_) (fun h => ?_)
 ·have hlt : i < ks.length := by simp at h; omega
  have hgi := nodesS_get hlt
  obtain ⟨h1, h2⟩ := goodN_body (goodL_get hlt hg)
  have e : ks.take (i + 1) = ks.take i ++ [ks[i]] := by rw [List.take_add_one, List.getElem?_eq_getElem hlt]; rfl
  have r : decide (0 ≤ (i : Int) ∧ (i : Int) < (ks.length : Int)) = true := by simp; omega
  have wi : IntKind.i64.wrap ((i : Int) + 1) = ((i + 1 : Nat) : Int) := by rw [wrap_i64 (by omega) (by omega)]; rfl
  have hfl : (txs ((ks.take i).filter (isT t))).length ≤ i := by
   rw [txs, List.length_map]
   refine Nat.le_trans (List.length_filter_le _ _) ?_
   simp; omega
  have es : (txs ((ks.take (i + 1)).filter (isT t))).map strA = (txs ((ks.take i).filter (isT t))).map strA ++ (if isT t ks[i] = true then [.v (.string (txB (bodyN ks[i])))] else []) := by
   rw [e, List.filter_append]
   cases hc : isT t ks[i] <;> simp [hc, txs, strA]
  have el : (txs ((ks.take (i + 1)).filter (isT t))).length = (txs ((ks.take i).filter (isT t))).length + (if isT t ks[i] = true then 1 else 0) := by
   have := congrArg List.length es
   rw [List.length_append, List.length_map, List.length_map] at this
   rw [this]
   split <;> rfl
  have ls : ((txs ((ks.take i).filter (isT t))).map strA).length = (txs ((ks.take i).filter (isT t))).length := List.length_map _
  have ihn := ih (i + 1)
  simp only [rtxSt, es, el] at ihn
  clear es el
  generalize hX : ks[i] = x at *
  obtain ⟨t', b, k'⟩ := x
  simp only [isT, bodyN, decide_eq_true_eq] at ihn h1 h2
  have ha := all_bytes h1
  rw [nodeS] at hgi
  generalize (txs ((ks.take i).filter (isT t))).map strA = W at *
  generalize (txs ((ks.take i).filter (isT t))).length = w at *
  have dc : decide (w + 1 ≤ 1073741824) = true := by simp; omega
  by_cases hc : t' = t
  ·have d : decide (t' = t) = true := by simpa using hc
   simp only [if_pos hc] at ihn
   simp +decide (maxSteps := 9^7) only [↓reduceIte, hlen, r, hgi, d, ha, txB_eq, ls, dc, wi, Int.toNat_natCast, go_sem]
   refine ihn _ (by omega) (by omega) ?_
   simp [go_sem, rtxAnn]
  ·have d : decide (t' = t) = false := by simpa using hc
   simp only [if_neg hc, List.append_nil, Nat.add_zero] at ihn
   simp +decide (maxSteps := 9^7) only [↓reduceIte, hlen, r, hgi, d, wi, Int.toNat_natCast, go_sem]
   refine ihn _ (by omega) (by omega) ?_
   simp [go_sem, rtxAnn]
 ·have hge : i = ks.length := by simp at h; omega
  subst hge
  rw [List.take_length]
  have md : mdL ((txs (ks.filter (isT t))).map strA) = (txs (ks.filter (isT t))).map strA := by rw [mdL_eq, List.map_map]; rfl
  simp +decide (maxSteps := 9^7) only [↓reduceIte, md, List.length_map, go_sem]
  exact Runs.ret_refl
end Go.Proofs.W

namespace Go.Proofs.W
open Go Go.AM
variable (hm : Tryz.prog.follows .mixedOrders = true)
theorem txs_take {ks : List Nd} {k : Nat} (h : k < ks.length) : (txs (ks.take (k + 1))).map strA = (txs (ks.take k)).map strA ++ [.v (.string (txB (bodyN ks[k])))] := by
 have e : ks.take (k + 1) = ks.take k ++ [ks[k]] := by rw [List.take_add_one, List.getElem?_eq_getElem h]; rfl
 rw [e, txs, List.map_append, List.map_append]
 rfl
theorem txs_len (ks : List Nd) {k : Nat} (h : k ≤ ks.length) : ((txs (ks.take k)).map strA).length = k := by simp [txs]; omega
def ltAnn : Ann := [(0, [0, 5, 6, 7])]
def ltSt (L : List It) (q : Nat) (ks : List Nd) (k : Nat) : St := ⟨[.sl .sh (L.map itemS), .any, .any, .any, .any, .ms (.l 0) 0 k k, .ms (.l 1) 0 ks.length ks.length, .v (.int .i64 k), .any, .any, .any, .any, .any, .any, .any, .any, .any, .any, .any, .any, .any, .any, .any, .any, .any, .any, .any, .any, .any, .any, .any], [(0, ⟨true, 1, false, (txs (ks.take k)).map strA⟩), (1, ⟨true, 1, false, kidsR q ks ks.length⟩)], []⟩
set_option maxRecDepth 10000 in
set_option maxHeartbeats 8000000 in
include hm in
theorem l10ReadTexts (L : List It) (hk : kidsOk L) (hl : L.length ≤ 1000000) (p : Nat) (t : Int) (b : List Int) (ks : List Nd) (ha : AtP L p (.mk t b ks)) (hd : depL ks ≤ 13) (hg : goodL ks) :
  Holds Tryz.prog 15 [.sl .sh (L.map itemS), .v (.int .i64 p)] [] (.sl (.ow 1) ((txs ks).map strA)) [] := by
 have hp := ha.lt
 have hlen : (L.map itemS).length = L.length := List.length_map _
 have hL := ha.head.2
 have hkl : ks.length ≤ 300 := by
  have h1 := ha.head.1
  have := hk _ (List.mem_of_getElem? h1)
  simp only at this
  omega
 have ck := l7Kids hm L hk hl p t b ks ha hd
 have lr := kidsR_len (p + 1) ks ks.length
 refine holds_of (ann := ltAnn) tabOk hm Tryz.func15 (by kernel_rfl) rfl ?_
 simp +decide (maxSteps := 9^7) only [↓reduceIte, Tryz.f15, go_sem]
 refine Runs.call ck ?_
 simp +decide (maxSteps := 9^7) only [↓reduceIte, go_sem]
 refine Runs.while (α := Nat) (ltSt L (p + 1) ks) (fun k => ks.length - k) (fun k => k ≤ ks.length) 0 (by omega) ?_ ?_
 ·simp [go_sem, ltAnn, ltSt, txs, lr]
 intro k hkk ih
 have lt := txs_len ks hkk
 simp +decide (maxSteps := 9^7) only [↓reduceIte, ltSt, lr, go_sem]
 refine Runs.split (fun h => ?_) (fun h => ?_)
 ·have hlt : k < ks.length := by simp at h; omega
  have hat := kidP_at hL hlt
  have hlt2 := hat.lt
  have gk := kidsR_get (p + 1) ks hlt
  have dc : decide (k + 1 ≤ 1073741824) = true := by simp; omega
  have r1 : decide (0 ≤ (k : Int) ∧ (k : Int) < (ks.length : Int)) = true := by simp; omega
  have r2 : decide (0 ≤ (kidP (p + 1) ks k : Int) ∧ (kidP (p + 1) ks k : Int) < (L.length : Int)) = true := by simp; omega
  have rs := txs_take hlt
  have wk : IntKind.i64.wrap ((k : Int) + 1) = ((k + 1 : Nat) : Int) := by rw [wrap_i64 (by omega) (by omega)]; rfl
  obtain ⟨h1, h2⟩ := goodN_body (goodL_get hlt hg)
  have ihn := ih (k + 1)
  simp only [ltSt, rs] at ihn
  generalize ks[k] = x at *
  obtain ⟨t', b', k'⟩ := x
  have gi := hat.item
  simp only [bodyN] at h1 h2 ihn
  have hb := all_bytes h1
  simp +decide (maxSteps := 9^7) only [↓reduceIte, lt, lr, dc, r1, r2, gk, gi, hb, txB_eq, hlen, wk, Int.toNat_natCast, go_sem]
  refine ihn _ (by omega) (by omega) ?_
  simp [go_sem, ltAnn]
 ·have hge : k = ks.length := by simp at h; omega
  subst hge
  rw [List.take_length] at lt
  have md : mdL ((txs ks).map strA) = (txs ks).map strA := by rw [mdL_eq, List.map_map]; rfl
  simp +decide (maxSteps := 9^7) only [↓reduceIte, List.take_length, lt, md, go_sem]
  exact Runs.ret_refl
end Go.Proofs.W

namespace Go.Proofs.W
open Go Go.AM
def SubB (b : List Int) (p : Nat) (s : List Int) : Prop := ∃ pre post, b = pre ++ s ++ post ∧ pre.length = p
theorem SubB.bt {b s : List Int} {p : Nat} (h : SubB b p s) {i : Nat} (hi : i < s.length) : bt b (p + i) = bt s i := by
 obtain ⟨pre, post, rfl, rfl⟩ := h
 unfold Go.Proofs.W.bt
 rw [List.append_assoc, List.getD, List.getD, List.getElem?_append_right (by omega), Nat.add_sub_cancel_left, List.getElem?_append_left hi]
theorem SubB.slice {b s : List Int} {p : Nat} (h : SubB b p s) : sliceB b p s.length = s := by
 obtain ⟨pre, post, rfl, rfl⟩ := h
 unfold sliceB
 rw [List.append_assoc, List.drop_left, List.take_left]
theorem SubB.app {b s t : List Int} {p : Nat} (h : SubB b p (s ++ t)) : SubB b p s ∧ SubB b (p + s.length) t := by
 obtain ⟨pre, post, rfl, rfl⟩ := h
 exact ⟨⟨pre, t ++ post, by simp, rfl⟩, pre ++ s, post, by simp, by simp⟩
theorem SubB.le {b s : List Int} {p : Nat} (h : SubB b p s) : p + s.length ≤ b.length := by
 obtain ⟨pre, post, rfl, rfl⟩ := h
 simp only [List.length_append]; omega
theorem ib_nat {n : Nat} : ib (n : Int) = ((n % 256 : Nat) : Int) := by rw [ib_mod]; omega
theorem szP_len {b : List Int} {q e m : Nat} (hm : m < 65536) (h : SubB b q (l7Len m)) (he : q + (l7Len m).length ≤ e) : szP b q e = (m, q + (l7Len m).length, 0) := by
 unfold l7Len at h he ⊢
 split
 ·rename_i h1
  rw [if_pos h1] at h he
  have b0 : bt b q = m := by have := h.bt (i := 0) (by simp); rw [Nat.add_zero] at this; rw [this]; show ib m = m; rw [ib_nat, Nat.mod_eq_of_lt (by omega)]
  simp only [List.length_cons, List.length_nil] at he ⊢
  rw [szP, if_neg (by omega), if_pos (by omega), b0]
  simp
 split
 ·rename_i h1 h2
  rw [if_neg h1, if_pos h2] at h he
  have b0 : bt b q = 129 := by have := h.bt (i := 0) (by simp); rw [Nat.add_zero] at this; rw [this]; rfl
  have b1 : bt b (q + 1) = m := by have := h.bt (i := 1) (by simp); rw [this]; show ib m = m; rw [ib_nat, Nat.mod_eq_of_lt (by omega)]
  simp only [List.length_cons, List.length_nil] at he ⊢
  have v : szV b q = m := by rw [szV, if_neg (by omega), b1]
  have w : (bt b q - 128).toNat = 1 := by rw [b0]; rfl
  rw [szP, if_neg (by omega), if_neg (by omega), if_neg (by omega), w, if_neg (by omega), v, if_neg (by omega)]
  simp
 ·rename_i h1 h2
  rw [if_neg h1, if_neg h2] at h he
  have b0 : bt b q = 130 := by have := h.bt (i := 0) (by simp); rw [Nat.add_zero] at this; rw [this]; rfl
  have b1 : bt b (q + 1) = ((m / 256 : Nat) : Int) := by have := h.bt (i := 1) (by simp); rw [this]; show ib ((m / 256 : Nat) : Int) = _; rw [ib_nat, Nat.mod_eq_of_lt (by omega)]
  have b2 : bt b (q + 2) = ((m % 256 : Nat) : Int) := by have := h.bt (i := 2) (by simp); rw [this]; show ib (m : Int) = _; rw [ib_nat]
  simp only [List.length_cons, List.length_nil] at he ⊢
  have v : szV b q = m := by rw [szV, if_pos b0, b1, b2]; omega
  have w : (bt b q - 128).toNat = 2 := by rw [b0]; rfl
  rw [szP, if_neg (by omega), if_neg (by omega), if_neg (by omega), w, if_neg (by omega), v, if_neg (by omega)]
  simp
mutual
def rtN : Nd → Prop
 | .mk t b ks => 0 ≤ t ∧ t < 256 ∧ t % 32 ≠ 31 ∧ (if made t = true then b = [] else ks = []) ∧ (b ++ encL ks).length < 65536 ∧ rtL ks
def rtL : List Nd → Prop
 | [] => True
 | n :: r => rtN n ∧ rtL r
end
theorem enc_pos (n : Nd) : 0 < (enc n).length := by
 obtain ⟨t, b, ks⟩ := n
 simp [enc]
theorem loopM_enc {b : List Int} {d e : Nat} (hd : ∀ p n, SubB b p (enc n) → p + (enc n).length ≤ e → depN n ≤ d → rtN n → rdM b d p e = ⟨itemsN n, 0, 0, p + (enc n).length⟩) : ∀ (ks : List Nd) (k q j : Nat) (M : List It), SubB b q (encL ks) → q + (encL ks).length = e → (encL ks).length ≤ k → depL ks ≤ d → rtL ks →
  loopM (fun q => rdM b d q e) e k q j M = (j + ks.length, ⟨M ++ itemsNL ks, 0, 0, e⟩)
 | [], k, q, j, M, h1, h2, h3, h4, h5 => by
  simp only [encL, List.length_nil, Nat.add_zero] at h2
  rw [loopM_end _ _ _ _ (by omega)]
  simp [itemsNL]
 | n :: ks, k, q, j, M, h1, h2, h3, h4, h5 => by
  have hp := enc_pos n
  simp only [encL, List.length_append] at h1 h2 h3
  simp only [depL] at h4
  obtain ⟨a1, a2⟩ := h1.app
  obtain ⟨k, rfl⟩ : ∃ k', k = k' + 1 := ⟨k - 1, by omega⟩
  rw [loopM, if_pos (by omega)]
  simp only [hd q n a1 (by omega) (by omega) h5.1]
  rw [if_pos trivial, loopM_enc hd ks k _ (j + 1) _ a2 (by omega) (by omega) (by omega) h5.2]
  have e : itemsNL (n :: ks) = itemsN n ++ itemsNL ks := rfl
  rw [e, List.length_cons, List.append_assoc]
  congr 1; omega
theorem rdM_enc {b : List Int} : ∀ d e p n, SubB b p (enc n) → p + (enc n).length ≤ e → depN n ≤ d → rtN n → rdM b d p e = ⟨itemsN n, 0, 0, p + (enc n).length⟩
 | 0, e, p, .mk t B ks, _, _, h3, _ => by rw [depN] at h3; omega
 | d + 1, e, p, .mk t B ks, h1, h2, h3, h4 => by
  rw [depN] at h3
  obtain ⟨r1, r2, r3, r4, r5, r6⟩ := h4
  have he : enc (.mk t B ks) = [ib t] ++ (l7Len (B ++ encL ks).length ++ (B ++ encL ks)) := by rw [enc]; rfl
  have hl : (enc (.mk t B ks)).length = 1 + ((l7Len (B ++ encL ks).length).length + (B ++ encL ks).length) := by rw [he, List.length_append, List.length_append]; rfl
  rw [hl] at h2 ⊢
  rw [he] at h1
  obtain ⟨s1, s2⟩ := h1.app
  obtain ⟨s3, s4⟩ := s2.app
  simp only [List.length_cons, List.length_nil, Nat.zero_add] at s3 s4
  generalize hm : (B ++ encL ks).length = m at *
  have bp : bt b p = t := by have := s1.bt (i := 0) (by simp); rw [Nat.add_zero] at this; rw [this]; show ib t = t; rw [ib_mod]; omega
  have hz := szP_len (e := e) r5 s3 (by omega)
  generalize (l7Len m).length = w at *
  have hh : hdP b (d + 1) p e = .ok (p + 1 + w) m := by
   rw [hdP, if_neg (by omega), if_neg (by rw [bp]; exact r3), if_neg (by omega), hz]
   simp only
   rw [if_neg (by decide), if_neg (by decide), if_neg (by omega)]
  rw [rdM, hh]
  simp only [bp]
  by_cases hmd : made t = true
  ·rw [if_pos hmd] at r4 ⊢
   subst r4
   simp only [List.nil_append] at s4 hm
   have := loopM_enc (b := b) (d := d) (e := p + 1 + w + m) (fun q n a1 a2 a3 a4 => rdM_enc d _ q n a1 a2 a3 a4) ks m (p + 1 + w) 0 [] s4 (by omega) (by omega) (by omega) r6
   rw [this, itemsN_mk]
   simp only [List.nil_append, Nat.zero_add, RR.mk.injEq, true_and]
   omega
  ·rw [if_neg hmd] at r4 ⊢
   subst r4
   simp only [encL, List.append_nil] at s4 hm
   rw [← hm, s4.slice, itemsN_mk]
   simp only [itemsNL, List.length_nil, RR.mk.injEq, true_and]
   refine ⟨rfl, ?_⟩
   omega
end Go.Proofs.W

namespace Go.Proofs.W
open Go Go.AM
theorem sumY_mono {a b : Nat} (h : a ≤ b) : sumY a ≤ sumY b := by
 induction b with
 | zero =>
  have : a = 0 := by omega
  subst this; exact Nat.le_refl _
 | succ b ih =>
  rcases Nat.lt_or_ge b a with h1 | h1
  ·have : a = b + 1 := by omega
   subst this; exact Nat.le_refl _
  ·rw [sumY]; have := ih h1; omega
theorem sumY_150 : sumY 150 = 54787 := by decide +kernel
theorem yearGo_sum : ∀ (f k d : Nat), d < f → ∃ j, (yearGo f (1950 + k) d).1 = 1950 + j ∧ sumY j + (yearGo f (1950 + k) d).2 = sumY k + d ∧ (yearGo f (1950 + k) d).2 < yl (1950 + j)
 | f + 1, k, d, h => by
  have hy : 1 ≤ yl (1950 + k) := by unfold yl; omega
  unfold yearGo
  split
  ·obtain ⟨j, h1, h2, h3⟩ := yearGo_sum f (k + 1) (d - yl (1950 + k)) (by omega)
   refine ⟨j, h1, ?_, h3⟩
   have e : sumY (k + 1) = sumY k + yl (1950 + k) := rfl
   show sumY j + (yearGo f (1950 + (k + 1)) (d - yl (1950 + k))).2 = _
   rw [h2, e]; omega
  ·exact ⟨k, rfl, rfl, by omega⟩
theorem monthGo_sum (y : Nat) : ∀ (f k d : Nat), k < 12 → 12 ≤ k + f → d < remM y (k + 1) → ∃ j, (monthGo f y (k + 1) d).1 = j + 1 ∧ j < 12 ∧ sumM y j + (monthGo f y (k + 1) d).2 = sumM y k + d ∧ (monthGo f y (k + 1) d).2 < ml y (j + 1)
 | 0, k, d, h1, h2, _ => by omega
 | f + 1, k, d, h1, h2, h3 => by
  have hs := remM_step y (m := k + 1) (by omega) (by omega)
  unfold monthGo
  split
  ·rename_i hle
   have hk : k + 1 < 12 := by
    rcases Nat.lt_or_ge (k + 1) 12 with h | h
    ·exact h
    ·have : k = 11 := by omega
     subst this
     have e : remM y (11 + 1 + 1) = 0 := rfl
     omega
   obtain ⟨j, a1, a2, a3, a4⟩ := monthGo_sum y f (k + 1) (d - ml y (k + 1)) hk (by omega) (by omega)
   refine ⟨j, a1, a2, ?_, a4⟩
   have e : sumM y (k + 1) = sumM y k + ml y (k + 1) := rfl
   rw [a3, e]; omega
  ·exact ⟨k, rfl, h1, rfl, by omega⟩
theorem timeM_dayP {t : Int} (h : inB t (-631152000) 4102444799 = true) : timeM (dayP t).y (dayP t).m (dayP t).d (dayP t).s = (t, true) ∧ 1950 ≤ (dayP t).y ∧ (dayP t).y ≤ 2099 ∧ (dayP t).m ≤ 12 ∧ (dayP t).d ≤ 31 ∧ (dayP t).s ≤ 86399 := by
 have hr := inB_iff.mp h
 obtain ⟨n, hn⟩ : ∃ n, n = (t + 631152000).toNat := ⟨_, rfl⟩
 obtain ⟨j, y1, y2, y3⟩ := yearGo_sum (n / 86400 + 1) 0 (n / 86400) (by omega)
 obtain ⟨i, m1, m2, m3, m4⟩ := monthGo_sum (1950 + j) 12 0 (yearGo (n / 86400 + 1) 1950 (n / 86400)).2 (by omega) (by omega) y3
 have hj : j ≤ 149 := by
  rcases Nat.lt_or_ge j 150 with h | h
  ·omega
  ·have := sumY_mono h
   have z : sumY 0 = 0 := rfl
   rw [sumY_150] at this
   omega
 have hml := ml_bound (1950 + j) (i + 1)
 have e : dayP t = ⟨1950 + j, i + 1, (monthGo 12 (1950 + j) 1 (yearGo (n / 86400 + 1) 1950 (n / 86400)).2).2 + 1, n % 86400⟩ := by
  rw [dayP, if_pos h, ← hn]
  simp only [Nat.add_zero] at y1
  simp only [y1]
  simp only [Nat.zero_add] at m1
  rw [m1]
 simp only [Nat.zero_add] at m3 m4
 simp only [Nat.add_zero] at y2 y3
 have z1 : sumY 0 = 0 := rfl
 have z2 : sumM (1950 + j) 0 = 0 := rfl
 rw [e]
 simp only
 refine ⟨?_, by omega, by omega, by omega, by omega, by omega⟩
 rw [timeM, if_pos ⟨⟨by omega, by omega⟩, ⟨by omega, by omega⟩, ⟨by omega, by omega⟩, by omega⟩]
 have e1 : 1950 + j - 1950 = j := by omega
 have e2 : i + 1 - 1 = i := rfl
 rw [e1, e2]
 refine Prod.ext ?_ rfl
 show (-7305 + (sumY j : Int) + (sumM (1950 + j) i : Int) + (((monthGo 12 (1950 + j) 1 (yearGo (n / 86400 + 1) 1950 (n / 86400)).2).2 + 1 : Nat) : Int) - 1) * 86400 + ((n % 86400 : Nat) : Int) = t
 generalize (monthGo 12 (1950 + j) 1 (yearGo (n / 86400 + 1) 1950 (n / 86400)).2).2 = q at *
 generalize (yearGo (n / 86400 + 1) 1950 (n / 86400)).2 = w at *
 omega
end Go.Proofs.W

namespace Go.Proofs.W
open Go Go.AM
def ch (n : Nat) : UInt8 := UInt8.ofNat (48 + n)
theorem ch_nat {n : Nat} (h : n < 10) : (ch n).toNat = 48 + n := by
 rw [ch, UInt8.toNat_ofNat']; omega
theorem ch_dg {n : Nat} (h : n < 10) : dgC (ch n) = true := by
 rw [dgC, ch_nat h]; simp [inB]; omega
def pairs (P : List Nat) : List UInt8 := P.flatMap fun n => [ch (n / 10 % 10), ch (n % 10)]
theorem pairs_len : ∀ P, (pairs P).length = 2 * P.length
 | [] => rfl
 | n :: P => by
  have := pairs_len P
  show (ch (n / 10 % 10) :: ch (n % 10) :: pairs P).length = _
  simp only [List.length_cons, this]; omega
theorem pairs_get (tl : List UInt8) : ∀ (P : List Nat) (i : Nat) (h : i < P.length), (pairs P ++ tl).getD (2 * i) 0 = ch (P[i] / 10 % 10) ∧ (pairs P ++ tl).getD (2 * i + 1) 0 = ch (P[i] % 10)
 | n :: P, 0, _ => ⟨rfl, rfl⟩
 | n :: P, i + 1, h => by
  have := pairs_get tl P i (by simpa using h)
  have e : pairs (n :: P) ++ tl = ch (n / 10 % 10) :: ch (n % 10) :: (pairs P ++ tl) := rfl
  rw [e, show 2 * (i + 1) = 2 * i + 1 + 1 from rfl]
  exact this
theorem pairs_all : ∀ P, (pairs P).all dgC = true
 | [] => rfl
 | n :: P => by
  have e : pairs (n :: P) = ch (n / 10 % 10) :: ch (n % 10) :: pairs P := rfl
  rw [e, List.all_cons, List.all_cons, ch_dg (by omega), ch_dg (by omega), pairs_all P]; rfl
structure IsT (s : ByteArray) (P : List Nat) : Prop where
 eq : s.data.toList = pairs P ++ [90]
theorem IsT.size {s : ByteArray} {P : List Nat} (h : IsT s P) : s.size = 2 * P.length + 1 := by
 have : s.size = s.data.toList.length := rfl
 rw [this, h.eq, List.length_append, pairs_len]; rfl
theorem IsT.z {s : ByteArray} {P : List Nat} (h : IsT s P) : cg s (s.size - 1) = 90 := by
 rw [h.size, cg, h.eq, List.getD, Nat.add_sub_cancel, List.getElem?_append_right (by rw [pairs_len]; exact Nat.le_refl _), pairs_len, Nat.sub_self]
 rfl
theorem IsT.ok {s : ByteArray} {P : List Nat} (h : IsT s P) : okD (s.extract 0 (s.size - 1)) = true := by
 have e : (pairs P ++ [90]).take (2 * P.length) = pairs P := by rw [← pairs_len, List.take_left]
 rw [okD, ext_list, h.size, h.eq, Nat.add_sub_cancel, e, pairs_all]
theorem IsT.v {s : ByteArray} {P : List Nat} (h : IsT s P) {i : Nat} (hi : i < P.length) : vA s i = P[i] % 100 := by
 obtain ⟨h1, h2⟩ := pairs_get [90] P i hi
 rw [vA, dg, dg, cg, cg, h.eq, h1, h2, ch_nat (by omega), ch_nat (by omega)]
 omega
theorem restT_list (m d s : Nat) : (restT m d s).data.toList = pairs [m, d, s / 3600, s / 60 % 60, s % 60] ++ [90] := by
 simp [restT, two, pairs, ch]
theorem shortT_is {t : Int} (h : shortOk t = true) : IsT (shortT t) [(dayP t).y, (dayP t).m, (dayP t).d, (dayP t).s / 3600, (dayP t).s / 60 % 60, (dayP t).s % 60] := by
 constructor
 rw [shortT, if_pos h, ByteArray.data_append, Array.toList_append, restT_list]
 rfl
theorem longT_is {t : Int} (h : longOk t = true) : IsT (longT t) [(dayP t).y / 100, (dayP t).y, (dayP t).m, (dayP t).d, (dayP t).s / 3600, (dayP t).s / 60 % 60, (dayP t).s % 60] := by
 constructor
 rw [longT, if_pos h, ByteArray.data_append, ByteArray.data_append, Array.toList_append, Array.toList_append, restT_list]
 rfl
theorem rdTime_timeB {t : Int} (h : inB t (-631152000) 4102444799 = true) : rdTime (txB (timeB t)) = (t, true) := by
 obtain ⟨h1, h2, h3, h4, h5, h6⟩ := timeM_dayP h
 rw [timeB]
 by_cases hs : shortOk t = true
 ·rw [if_pos hs, txB_bytesI]
  have hI := shortT_is hs
  have hz := hI.size
  simp only [List.length_cons, List.length_nil] at hz
  have v0 := hI.v (i := 0) (by simp)
  have v1 := hI.v (i := 1) (by simp)
  have v2 := hI.v (i := 2) (by simp)
  have v3 := hI.v (i := 3) (by simp)
  have v4 := hI.v (i := 4) (by simp)
  have v5 := hI.v (i := 5) (by simp)
  simp only [List.getElem_cons_zero, List.getElem_cons_succ] at v0 v1 v2 v3 v4 v5
  have hy : (dayP t).y ≤ 2049 := by have := inB_iff.mp hs; omega
  have ho : offV (shortT t) = 0 := by rw [offV, if_neg (by omega)]
  have hyr : yearV (shortT t) = (dayP t).y := by
   rw [yearV, if_neg (by omega), v0]
   split <;> omega
  rw [rdTime, if_pos ⟨.inl (by omega), hI.z, hI.ok⟩, ho, hyr]
  simp only [Nat.add_zero, v1, v2, v3, v4, v5]
  rw [if_neg (by omega)]
  rw [← h1]
  congr 1 <;> omega
 ·have hl : longOk t = true := by rw [longOk]; simp; omega
  rw [if_neg hs, txB_bytesI]
  have hI := longT_is hl
  have hz := hI.size
  simp only [List.length_cons, List.length_nil] at hz
  have v0 := hI.v (i := 0) (by simp)
  have v1 := hI.v (i := 1) (by simp)
  have v2 := hI.v (i := 2) (by simp)
  have v3 := hI.v (i := 3) (by simp)
  have v4 := hI.v (i := 4) (by simp)
  have v5 := hI.v (i := 5) (by simp)
  have v6 := hI.v (i := 6) (by simp)
  simp only [List.getElem_cons_zero, List.getElem_cons_succ] at v0 v1 v2 v3 v4 v5 v6
  have ho : offV (longT t) = 1 := by rw [offV, if_pos (by omega)]
  have hyr : yearV (longT t) = (dayP t).y := by
   rw [yearV, if_pos (by omega), v0, v1]
   omega
  rw [rdTime, if_pos ⟨.inr (by omega), hI.z, hI.ok⟩, ho, hyr]
  simp only [Nat.reduceAdd, v1, v2, v3, v4, v5, v6]
  rw [if_neg (by omega)]
  rw [← h1]
  congr 1 <;> omega
end Go.Proofs.W

namespace Go.Proofs.W
open Go Go.AM
theorem itemsN_int (n : Int) : itemsN (intN n) = [intI n] := by simp [intN, itemsN_mk, itemsNL, intI]
theorem itemsN_txt (t : Int) (s : ByteArray) : itemsN (txtN t s) = [txtI t s] := by simp [txtN, itemsN_mk, itemsNL, txtI]
theorem itemsN_time (t : Int) : itemsN (timeN t) = [timeI t] := by
 unfold timeN timeI timeG timeB
 split <;> simp [itemsN_mk, itemsNL]
theorem itemsNL_map {α : Type} (f : α → Nd) (g : α → It) (h : ∀ a, itemsN (f a) = [g a]) (L : List α) : itemsNL (L.map f) = L.map g := by
 induction L with
 | nil => rfl
 | cons a l ih => simp [itemsNL, h, ih]
theorem intB_le (n : Int) : (intB n).length ≤ 8 := by
 rw [intB, tailB_length]
 have := firstK_le n 7 0
 show firstK n 7 0 + 1 ≤ 8
 omega
theorem bodiesLeL_map {α : Type} {m : Nat} (f : α → Nd) : ∀ (L : List α) (_ : ∀ a ∈ L, bodiesLe m (f a)), bodiesLeL m (L.map f)
 | [], _ => trivial
 | a :: L, h => ⟨h a (by simp), bodiesLeL_map f L fun b hb => h b (by simp [hb])⟩
theorem kidsLeL_map {α : Type} {m : Nat} (f : α → Nd) : ∀ (L : List α) (_ : ∀ a ∈ L, kidsLe m (f a)), kidsLeL m (L.map f)
 | [], _ => trivial
 | a :: L, h => ⟨h a (by simp), kidsLeL_map f L fun b hb => h b (by simp [hb])⟩
theorem timeB_le (t : Int) : (timeB t).length ≤ 100 := by
 have s1 := shortT_size t
 have s2 := longT_size t
 unfold timeB
 split <;> simpa [bytesI] using by assumption
end Go.Proofs.W

namespace Go.Proofs.W
open Go Go.AM
set_option maxRecDepth 10000
variable (hm : Tryz.prog.follows .mixedOrders = true)
def charOk (b : UInt8) : Bool := inB b.toNat 32 126
def textOk (s : ByteArray) : Bool := inB s.size 1 40 && s.data.toList.all charOk
def nameOk (L : List ByteArray) : Bool := L.all textOk && inB L.length 1 4
theorem bs_len (s : ByteArray) : s.data.toList.length = s.size := by rw [Array.length_toList]; rfl
def ann13 : Ann := [(0, [0, 3]), (2, [0, 3, 4])]
def st13 (L : List ByteArray) (i : Nat) : St := ⟨[.sl .sh (L.map strA), .any, .any, .v (.int .i64 i), .any, .any, .any, .any, .any, .any, .any, .any, .any, .any, .any, .any, .any, .any, .any, .any, .any, .any, .any, .any, .any, .any, .any, .any, .any, .any, .any, .any, .any, .any, .any, .any, .any, .any, .any], [], []⟩
def st13b (L : List ByteArray) (i k : Nat) : St := ⟨[.sl .sh (L.map strA), .any, .any, .v (.int .i64 i), .v (.int .i64 k), .any, .any, .any, .any, .any, .any, .any, .any, .any, .any, .any, .any, .any, .any, .any, .any, .any, .any, .any, .any, .any, .any, .any, .any, .any, .any, .any, .any, .any, .any, .any, .any, .any, .any], [], []⟩
include hm in
theorem l10Name (L : List ByteArray) (h3 : L.length ≤ 9223372036854775807) (h4 : ∀ s ∈ L, s.size ≤ 9223372036854775807) :
  Holds Tryz.prog 64 [.sl .sh (L.map strA)] [] (.v (.bool (nameOk L))) [] := by
 refine holds_of (ann := ann13) tabOk hm Tryz.func64 (by kernel_rfl) rfl ?_
 simp +decide only [Tryz.f64, go_sem]
 refine Runs.while (α := Nat) (st13 L) (fun i => L.length - i) (fun i => i ≤ L.length ∧ (L.drop i).all textOk = L.all textOk) 0 ⟨by omega, by simp⟩ ?_ ?_
 ·simp [go_sem, ann13, st13]
 ·rintro i ⟨hi1, hr⟩ ih
  simp +decide only [st13, go_sem]
  refine Runs.split (fun h => ?_) (fun h => ?_)
  ·have hlt : i < L.length := by simpa using h
   have hs := h4 L[i] (List.getElem_mem hlt)
   rw [List.drop_eq_getElem_cons hlt, List.all_cons] at hr
   simp +decide (disch := first | omega | (simp only [ll]; omega)) only [if_pos, go_sem]
   refine Runs.call (l1In hm L[i].size 1 40) ?_
   simp +decide only [go_sem]
   refine Runs.split (fun h => ?_) (fun h => ?_)
   ·simp only [Bool.not_eq_true'] at h
    have e : nameOk L = false := by rw [nameOk, ← hr, textOk, h]; simp
    simp +decide only [e, go_sem]
    exact Runs.ret_v
   ·simp only [Bool.not_eq_false'] at h
    simp +decide only [go_sem]
    refine Runs.while (α := Nat) (st13b L i) (fun k => L[i].size - k) (fun k => k ≤ L[i].size ∧ (L[i].data.toList.drop k).all charOk = L[i].data.toList.all charOk) 0 ⟨by omega, by simp⟩ ?_ ?_
    ·simp [go_sem, ann13, st13b]
    ·rintro k ⟨hk1, hk⟩ ihk
     simp +decide (disch := first | omega | (simp only [ll]; omega)) only [st13b, if_pos, go_sem]
     refine Runs.split (fun h => ?_) (fun h => ?_)
     ·have hltk : k < L[i].size := by simpa using h
      have hlen := bs_len L[i]
      rw [List.drop_eq_getElem_cons (by omega), List.all_cons] at hk
      have hg : L[i].data.toList.getD k 0 = L[i].data.toList[k] := by simp [List.getD, hltk]
      have hb := UInt8.toNat_lt L[i].data.toList[k]
      simp +decide (disch := first | omega | (simp only [ll]; omega)) only [hg, if_pos, go_sem]
      refine Runs.call (l1In hm _ 32 126) ?_
      simp +decide only [go_sem]
      refine Runs.split (fun h' => ?_) (fun h' => ?_)
      ·simp only [Bool.not_eq_true'] at h'
       have e : nameOk L = false := by rw [nameOk, ← hr, textOk, ← hk, charOk, h']; simp
       simp +decide only [e, go_sem]
       exact Runs.ret_v
      ·simp only [Bool.not_eq_false'] at h'
       rw [charOk, h', Bool.true_and] at hk
       simp +decide (disch := first | omega | (simp only [ll]; omega)) only [if_pos, go_sem]
       refine ihk (k + 1) _ (by omega) ⟨by omega, hk⟩ ?_
       simp [go_sem, ann13, st13b]
     ·have hge : k = L[i].size := by simp at h; omega
      have hlen := bs_len L[i]
      rw [List.drop_of_length_le (by omega), List.all_nil] at hk
      rw [textOk, ‹inB _ 1 40 = true›, ← hk, Bool.true_and, Bool.true_and] at hr
      simp +decide (disch := first | omega | (simp only [ll]; omega)) only [if_pos, go_sem]
      refine ih (i + 1) _ (by omega) ⟨by omega, hr⟩ ?_
      simp [go_sem, ann13, st13]
  ·have hge : i = L.length := by simp at h; omega
   subst hge
   rw [List.drop_length, List.all_nil] at hr
   simp +decide only [go_sem]
   refine Runs.call (l1In hm _ 1 4) ?_
   simp +decide only [nameOk, ← hr, go_sem]
   exact Runs.ret_v
def ann18 : Ann := [(0, [0, 6, 7, 8]), (2, [0, 4, 6, 7, 8, 13, 14])]
def st18 (L : List ByteArray) (i : Nat) : St := ⟨[.sl .sh (L.map strA), .any, .any, .any, .any, .any, .sl .sh (L.map strA), .v (.int .i64 L.length), .v (.int .i64 i), .any, .any, .any, .any, .any, .any, .any, .any, .any, .any, .any, .any, .any, .any, .any, .any, .any, .any, .any, .any, .any, .any, .any, .any, .any, .any, .any], [], []⟩
def st18b (L : List ByteArray) (i : Nat) (s : ByteArray) (k : Nat) : St := ⟨[.sl .sh (L.map strA), .any, .any, .any, .v (.string s), .any, .sl .sh (L.map strA), .v (.int .i64 L.length), .v (.int .i64 i), .any, .any, .any, .any, .v (.int .i64 s.size), .v (.int .i64 k), .any, .any, .any, .any, .any, .any, .any, .any, .any, .any, .any, .any, .any, .any, .any, .any, .any, .any, .any, .any, .any], [], []⟩
theorem charOk_lo {b : UInt8} (h : (b.toNat : Int) < 32) : charOk b = false := by simp [charOk, inB]; omega
theorem charOk_hi {b : UInt8} (h : ¬ (b.toNat : Int) < 32) : charOk b = !decide ((b.toNat : Int) > 126) := by
 unfold charOk inB
 rw [decide_eq_true (by omega), Bool.true_and]
 by_cases h2 : (b.toNat : Int) > 126
 ·rw [decide_eq_false (by omega), decide_eq_true h2]; rfl
 ·rw [decide_eq_true (by omega), decide_eq_false h2]; rfl
include hm in
theorem isName (L : List ByteArray) (h3 : L.length ≤ 9223372036854775807) (h4 : ∀ s ∈ L, s.size ≤ 9223372036854775807) :
  Holds Tryz.prog 78 [.sl .sh (L.map strA)] [] (.v (.bool (nameOk L))) [] := by
 refine holds_of (ann := ann18) tabOk hm Tryz.func78 (by kernel_rfl) rfl ?_
 simp +decide only [Tryz.f78, go_sem]
 refine Runs.while (α := Nat) (st18 L) (fun i => L.length - i) (fun i => i ≤ L.length ∧ (L.drop i).all textOk = L.all textOk) 0 ⟨by omega, by simp⟩ ?_ ?_
 ·simp [go_sem, ann18, st18]
 ·rintro i ⟨hi1, hr⟩ ih
  simp +decide only [st18, go_sem]
  refine Runs.split (fun h => ?_) (fun h => ?_)
  ·have hlt : i < L.length := by simpa using h
   have hs := h4 L[i] (List.getElem_mem hlt)
   rw [List.drop_eq_getElem_cons hlt, List.all_cons] at hr
   simp +decide (disch := first | omega | (simp only [ll]; omega)) only [if_pos, go_sem]
   refine Runs.while (α := Nat) (st18b L i L[i]) (fun k => L[i].size - k) (fun k => k ≤ L[i].size ∧ (L[i].data.toList.drop k).all charOk = L[i].data.toList.all charOk) 0 ⟨by omega, by simp⟩ ?_ ?_
   ·simp [go_sem, ann18, st18b]
   ·rintro k ⟨hk1, hk⟩ ihk
    simp +decide (disch := first | omega | (simp only [ll]; omega)) only [st18b, if_pos, go_sem]
    refine Runs.split (fun h => ?_) (fun h => ?_)
    ·have hltk : k < L[i].size := by simpa using h
     have hlen := bs_len L[i]
     rw [List.drop_eq_getElem_cons (by omega), List.all_cons] at hk
     have hg : L[i].data.toList.getD k 0 = L[i].data.toList[k] := by simp [List.getD, hltk]
     have hb := UInt8.toNat_lt L[i].data.toList[k]
     simp +decide (disch := first | omega | (simp only [ll]; omega)) only [hg, if_pos, go_sem]
     have stop : charOk L[i].data.toList[k] = false → nameOk L = false := fun h => by rw [nameOk, ← hr, textOk, ← hk, h]; simp
     refine Runs.split (fun h => ?_) (fun h => ?_)
     ·simp only [decide_eq_true_eq] at h
      simp +decide only [stop (charOk_lo h), go_sem]
      exact Runs.ret_v
     ·simp only [decide_eq_false_iff_not] at h
      simp +decide (disch := first | omega | (simp only [ll]; omega)) only [hg, if_pos, go_sem]
      refine Runs.split (fun h2 => ?_) (fun h2 => ?_)
      ·simp +decide only [stop (by rw [charOk_hi h, h2]; rfl), go_sem]
       exact Runs.ret_v
      ·rw [charOk_hi h, h2, Bool.not_false, Bool.true_and] at hk
       simp +decide (disch := first | omega | (simp only [ll]; omega)) only [if_pos, go_sem]
       refine ihk (k + 1) _ (by omega) ⟨by omega, hk⟩ ?_
       simp [go_sem, ann18, st18b]
    ·have hge : k = L[i].size := by simp at h; omega
     have hlen := bs_len L[i]
     rw [List.drop_of_length_le (by omega), List.all_nil] at hk
     simp +decide only [go_sem]
     refine Runs.call (within hm _ 1 40) ?_
     simp +decide only [go_sem]
     refine Runs.split (fun h' => ?_) (fun h' => ?_)
     ·simp only [Bool.not_eq_true'] at h'
      have e : nameOk L = false := by rw [nameOk, ← hr, textOk, h']; simp
      simp +decide only [e, go_sem]
      exact Runs.ret_v
     ·simp only [Bool.not_eq_false'] at h'
      rw [textOk, h', ← hk, Bool.true_and, Bool.true_and] at hr
      simp +decide (disch := first | omega | (simp only [ll]; omega)) only [if_pos, go_sem]
      refine ih (i + 1) _ (by omega) ⟨by omega, hr⟩ ?_
      simp [go_sem, ann18, st18]
  ·have hge : i = L.length := by simp at h; omega
   subst hge
   rw [List.drop_length, List.all_nil] at hr
   simp +decide only [go_sem]
   refine Runs.call (within hm _ 1 4) ?_
   simp +decide only [nameOk, ← hr, go_sem]
   exact Runs.ret_v
include hm in
theorem isSig (es : List A) : Holds Tryz.prog 81 [.sl .sh es] [] (.v (.bool (inB es.length 1 64))) [] := by
 refine holds_of (ann := []) tabOk hm Tryz.func81 (by kernel_rfl) rfl ?_
 simp +decide only [Tryz.f81, go_sem]
 refine Runs.call (within hm es.length 1 64) ?_
 simp +decide only [go_sem]
 exact Runs.ret_v
def ann21 : Ann := [(0, [0, 1, 2, 7])]
def st21 (L : List Int) (lo hi : Int) (i : Nat) : St := ⟨[.sl .sh (L.map intA), .v (.int .i64 lo), .v (.int .i64 hi), .any, .any, .any, .any, .v (.int .i64 i), .any, .any, .any, .any, .any, .any, .any, .any, .any, .any, .any, .any, .any, .any, .any, .any, .any, .any, .any, .any], [], []⟩
def sched21 : Sched := .take 0 (.take 1 (.take 2 (.take 3 (.take 5 (.take 6 (.take 7 (.alt 4 (.alt 8 (.take 9 .fin) .nil) (.alt 8 (.alt 4 (.take 9 .fin) .nil) .nil))))))))
def risesFrom (L : List Int) (i : Nat) : Bool := (List.range' i (L.length - i)).all fun j => decide (L.getD (j - 1) 0 < L.getD j 0)
theorem risesFrom_succ {L : List Int} {i : Nat} (h : i < L.length) : risesFrom L i = (decide (L.getD (i - 1) 0 < L.getD i 0) && risesFrom L (i + 1)) := by
 unfold risesFrom
 obtain ⟨k, hk⟩ : ∃ k, L.length - i = k + 1 := ⟨L.length - i - 1, by omega⟩
 rw [hk, List.range'_succ, List.all_cons, show L.length - (i + 1) = k by omega]
include hm in
theorem isRising (L : List Int) (lo hi : Int) (h3 : L.length ≤ 9223372036854775807) :
  Holds Tryz.prog 80 [.sl .sh (L.map intA), .v (.int .i64 lo), .v (.int .i64 hi)] [] (.v (.bool (risesFrom L 1 && L.all fun n => inB n lo hi))) [] := by
 refine holds_of (ann := ann21) tabOk hm Tryz.func80 (by kernel_rfl) rfl ?_
 simp +decide only [Tryz.f80, go_sem]
 refine Runs.while (α := Nat) (st21 L lo hi) (fun i => L.length - i) (fun i => 1 ≤ i ∧ i ≤ max L.length 1 ∧ risesFrom L i = risesFrom L 1) 1 ⟨by omega, by omega, rfl⟩ ?_ ?_
 ·simp [go_sem, ann21, st21]
 ·rintro i ⟨hi0, hi1, hr⟩ ih
  simp +decide only [st21, go_sem]
  refine Runs.split (fun h => ?_) (fun h => ?_)
  ·have hlt : i < L.length := by simpa using h
   rw [risesFrom_succ hlt] at hr
   have he : (L.map intA).getD i .any = .v (.int .i64 (L.getD i 0)) := by simp [List.getD, hlt, intA]
   have he1 : (L.map intA).getD (i - 1) .any = .v (.int .i64 (L.getD (i - 1) 0)) := by simp [List.getD, show i - 1 < L.length by omega, intA]
   have ht : ((i : Int) - 1).toNat = i - 1 := by omega
   have hw : IntKind.i64.wrap ((i : Int) - 1) = (i : Int) - 1 := wrap_i64 (by omega) (by omega)
   simp +decide only [go_sem]
   refine Runs.draw (st1 := ?s1) (draws_by (ann := []) tabOk sched21 (by kernel_rfl) ?h1) ?h2
   case h1 =>
    intro K r X hK
    simp +decide only [sched21, hw, ht, he, he1, go_sem]
    refine Runs.chk (by simp; omega) (Runs.chk (by simp; omega) (Runs.both (Runs.both ?_ Runs.done) (Runs.both (Runs.both ?_ Runs.done) Runs.done)))
    ·exact hK
    ·exact hK
   case h2 =>
    simp +decide only [go_sem]
    refine Runs.split (fun h => ?_) (fun h => ?_)
    ·simp only [decide_eq_true_eq] at h
     rw [decide_eq_false (by omega), Bool.false_and] at hr
     simp +decide only [← hr, go_sem]
     exact Runs.ret_v
    ·simp only [decide_eq_false_iff_not] at h
     rw [decide_eq_true (by omega), Bool.true_and] at hr
     simp +decide (disch := first | omega | (simp only [ll]; omega)) only [if_pos, go_sem]
     refine ih (i + 1) _ (by omega) ⟨by omega, by omega, hr⟩ ?_
     simp [go_sem, ann21, st21]
  ·have hge : L.length ≤ i := by simp at h; omega
   have hz : risesFrom L i = true := by unfold risesFrom; rw [show L.length - i = 0 by omega]; rfl
   rw [hz] at hr
   simp +decide only [dn_intA, go_sem]
   refine Runs.call (allWithin hm L lo hi h3) ?_
   simp +decide only [← hr, go_sem]
   exact Runs.ret_v
end Go.Proofs.W

namespace Go.Proofs.W
open Go Go.AM
variable (hm : Tryz.prog.follows .mixedOrders = true)
def szI (n : Nat) (left : Int) : Int := if left - n < 0 then -1 else left - n
def szGo : List ByteArray → Int → Int
 | [], l => l
 | s :: r, l => if l - s.size < 0 then -1 else szGo r (l - s.size)
def szS (L : List ByteArray) (left : Int) : Int := if left - L.length < 0 then -1 else szGo L (left - L.length)
end Go.Proofs.W

namespace Go.Proofs.W
open Go Go.AM
variable (hm : Tryz.prog.follows .mixedOrders = true)
def fillS {α : Type} (g : α → A) (L : List α) (z : A) (i : Nat) : List A := (L.take i).map g ++ List.replicate (L.length - i) z
theorem fillS_length {α : Type} (g : α → A) (L : List α) (z : A) (i : Nat) (h : i ≤ L.length) : (fillS g L z i).length = L.length := by simp [fillS]; omega
theorem fillS_zero {α : Type} (g : α → A) (L : List α) (z : A) : fillS g L z 0 = List.replicate L.length z := by simp [fillS]
theorem fillS_all {α : Type} (g : α → A) (L : List α) (z : A) : fillS g L z L.length = L.map g := by simp [fillS]
theorem fillS_set {α : Type} (g : α → A) (L : List α) (z : A) (i : Nat) (h : i < L.length) : (fillS g L z i).set i (g L[i]) = fillS g L z (i + 1) := by
 unfold fillS
 have e : L.length - i = (L.length - (i + 1)) + 1 := by omega
 rw [List.set_append_right _ _ (by simp; omega), e, List.replicate_succ]
 have hl : ((L.take i).map g).length = i := by simp; omega
 rw [hl, Nat.sub_self, List.set_cons_zero, List.take_succ_eq_append_getElem h, List.map_append, List.append_assoc]
 rfl
theorem fillS_get {α : Type} (g : α → A) (L : List α) (z : A) (i : Nat) (h : i < L.length) : (fillS g L z i).getD i .any = z := by
 unfold fillS
 have hl : ((L.take i).map g).length = i := by simp; omega
 rw [List.getD, List.getElem?_append_right (by omega), hl, Nat.sub_self]
 have e : L.length - i = (L.length - (i + 1)) + 1 := by omega
 rw [e, List.replicate_succ]
 rfl
def toAnn : Ann := [(0, [0, 3, 4])]
def toByteSt (L : List Int) (i : Nat) : St := ⟨[.sl .sh (L.map u8A), .any, .any, .ms (.l 0) 0 L.length L.length, .v (.int .i64 i), .any, .any, .any, .any, .any, .any, .any, .any, .any, .any, .any, .any, .any, .any, .any, .any, .any], [(0, ⟨true, 1, false, fillS u8A L (.v (.int .u8 0)) i⟩)], []⟩
set_option maxRecDepth 10000 in
include hm in
theorem toByteS (L : List Int) (h3 : L.length ≤ 1048576) : Holds Tryz.prog 5 [.sl .sh (L.map u8A)] [] (.sl (.ow 1) (L.map u8A)) [] := by
 refine holds_of (ann := toAnn) tabOk hm Tryz.func5 (by kernel_rfl) rfl ?_
 simp +decide (disch := first | omega | (simp only [ll]; omega)) only [Tryz.f5, if_pos, go_sem]
 refine Runs.while (α := Nat) (toByteSt L) (fun i => L.length - i) (fun i => i ≤ L.length) 0 (by omega) ?_ ?_
 ·simp [go_sem, toAnn, toByteSt, fillS_zero]
 ·intro i hi ih
  have hlen := fillS_length u8A L (.v (.int .u8 0)) i hi
  simp +decide only [toByteSt, hlen, go_sem]
  refine Runs.split (fun h => ?_) (fun h => ?_)
  ·have hlt : i < L.length := by simpa using h
   have hg := fillS_get u8A L (.v (.int .u8 0)) i hlt
   have hs : (fillS u8A L (.v (.int .u8 0)) i).set i (u8A L[i]) = _ := fillS_set u8A L (.v (.int .u8 0)) i hlt
   simp only [u8A] at hs
   simp +decide (disch := first | omega | (simp only [ll]; omega)) only [hlen, hg, hs, if_pos, go_sem]
   refine ih (i + 1) _ (by omega) hlt ?_
   simp [go_sem, toAnn, toByteSt]
  ·have hge : i = L.length := by simp at h; omega
   subst hge
   simp +decide only [hlen, fillS_all, go_sem]
   exact Runs.ret_refl
end Go.Proofs.W

namespace Go.Proofs.W
open Go Go.AM
set_option maxRecDepth 10000
variable (hm : Tryz.prog.follows .mixedOrders = true)
def eqAnn : Ann := [(0, [0, 1, 5])]
def eqSched : Sched := .take 0 (.take 1 (.take 2 (.take 4 (.take 5 (.take 6 (.alt 3 (.alt 7 (.take 8 .fin) .nil) (.alt 7 (.alt 3 (.take 8 .fin) .nil) .nil)))))))
attribute [local go_sem] eqSched
def eqStringSt (L : List ByteArray) (i : Nat) : St := ⟨[.sl .sh (L.map strA), .sl .sh (L.map strA), .any, .any, .any, .v (.int .i64 i), .any, .any, .any, .any, .any, .any, .any, .any, .any, .any, .any, .any, .any, .any, .any, .any, .any, .any, .any, .any], [], []⟩
include hm in
theorem eqStringS (L : List ByteArray) (h3 : L.length ≤ 9223372036854775807) : Holds Tryz.prog 29 [.sl .sh (L.map strA), .sl .sh (L.map strA)] [] (.v (.bool true)) [] := by
 refine holds_of (ann := eqAnn) tabOk hm Tryz.func29 (by kernel_rfl) rfl ?_
 simp +decide only [Tryz.f29, go_sem]
 refine Runs.while (α := Nat) (eqStringSt L) (fun i => L.length - i) (fun i => i ≤ L.length) 0 (by omega) ?_ ?_
 ·simp [go_sem, eqAnn, eqStringSt]
 ·intro i hi ih
  simp +decide only [eqStringSt, go_sem]
  refine Runs.split (fun h => ?_) (fun h => ?_)
  ·have hlt : i < L.length := by simpa using h
   simp +decide only [go_sem]
   refine Runs.draw (st1 := ?s1) (draws_by (ann := []) tabOk eqSched (by kernel_rfl) ?p1) ?q1
   case p1 =>
    intro K r X hK
    simp +decide (disch := first | omega | (simp only [ll]; omega)) only [if_pos, go_sem]
    exact hK
   case q1 =>
    simp +decide (disch := first | omega | (simp only [ll]; omega)) only [if_pos, go_sem]
    refine ih (i + 1) _ (by omega) hlt ?_
    simp [go_sem, eqAnn, eqStringSt]
  ·simp +decide only [go_sem]
   exact Runs.ret_v
def eqIntSt (L : List Int) (i : Nat) : St := ⟨[.sl .sh (L.map intA), .sl .sh (L.map intA), .any, .any, .any, .v (.int .i64 i), .any, .any, .any, .any, .any, .any, .any, .any, .any, .any, .any, .any, .any, .any, .any, .any, .any, .any, .any, .any], [], []⟩
include hm in
theorem eqIntS (L : List Int) (h3 : L.length ≤ 9223372036854775807) : Holds Tryz.prog 30 [.sl .sh (L.map intA), .sl .sh (L.map intA)] [] (.v (.bool true)) [] := by
 refine holds_of (ann := eqAnn) tabOk hm Tryz.func30 (by kernel_rfl) rfl ?_
 simp +decide only [Tryz.f30, go_sem]
 refine Runs.while (α := Nat) (eqIntSt L) (fun i => L.length - i) (fun i => i ≤ L.length) 0 (by omega) ?_ ?_
 ·simp [go_sem, eqAnn, eqIntSt]
 ·intro i hi ih
  simp +decide only [eqIntSt, go_sem]
  refine Runs.split (fun h => ?_) (fun h => ?_)
  ·have hlt : i < L.length := by simpa using h
   simp +decide only [go_sem]
   refine Runs.draw (st1 := ?s1) (draws_by (ann := []) tabOk eqSched (by kernel_rfl) ?p1) ?q1
   case p1 =>
    intro K r X hK
    simp +decide (disch := first | omega | (simp only [ll]; omega)) only [if_pos, go_sem]
    exact hK
   case q1 =>
    simp +decide (disch := first | omega | (simp only [ll]; omega)) only [if_pos, go_sem]
    refine ih (i + 1) _ (by omega) hlt ?_
    simp [go_sem, eqAnn, eqIntSt]
  ·simp +decide only [go_sem]
   exact Runs.ret_v
def eqByteSt (L : List Int) (i : Nat) : St := ⟨[.sl .sh (L.map u8A), .sl .sh (L.map u8A), .any, .any, .any, .v (.int .i64 i), .any, .any, .any, .any, .any, .any, .any, .any, .any, .any, .any, .any, .any, .any, .any, .any, .any, .any, .any, .any], [], []⟩
include hm in
theorem eqByteS (L : List Int) (h3 : L.length ≤ 9223372036854775807) : Holds Tryz.prog 8 [.sl .sh (L.map u8A), .sl .sh (L.map u8A)] [] (.v (.bool true)) [] := by
 refine holds_of (ann := eqAnn) tabOk hm Tryz.func8 (by kernel_rfl) rfl ?_
 simp +decide only [Tryz.f8, go_sem]
 refine Runs.while (α := Nat) (eqByteSt L) (fun i => L.length - i) (fun i => i ≤ L.length) 0 (by omega) ?_ ?_
 ·simp [go_sem, eqAnn, eqByteSt]
 ·intro i hi ih
  simp +decide only [eqByteSt, go_sem]
  refine Runs.split (fun h => ?_) (fun h => ?_)
  ·have hlt : i < L.length := by simpa using h
   simp +decide only [go_sem]
   refine Runs.draw (st1 := ?s1) (draws_by (ann := []) tabOk eqSched (by kernel_rfl) ?p1) ?q1
   case p1 =>
    intro K r X hK
    simp +decide (disch := first | omega | (simp only [ll]; omega)) only [if_pos, go_sem]
    exact hK
   case q1 =>
    simp +decide (disch := first | omega | (simp only [ll]; omega)) only [if_pos, go_sem]
    refine ih (i + 1) _ (by omega) hlt ?_
    simp [go_sem, eqAnn, eqByteSt]
  ·simp +decide only [go_sem]
   exact Runs.ret_v
end Go.Proofs.W

namespace Go.Proofs.W
open Go Go.AM
set_option maxRecDepth 10000
variable (hm : Tryz.prog.follows .mixedOrders = true)
def crlA (I : List ByteArray) (f t a : Int) (S G : List Int) : A := .agg [.sl .sh (I.map strA), .v (.int .i64 f), .v (.int .i64 t), .v (.int .i64 a), .sl .sh (S.map intA), .sl .sh (G.map u8A)]
def crlO (I : List ByteArray) (f t a : Int) (S G : List Int) : A := .agg [.sl (.ow 1) (I.map strA), .v (.int .i64 f), .v (.int .i64 t), .v (.int .i64 a), .sl (.ow 1) (S.map intA), .sl (.ow 1) (G.map u8A)]
attribute [local go_sem] crlA crlO
def crlOk (I : List ByteArray) (f t a : Int) (S G : List Int) : Bool :=
 nameOk I && inB f (-631152000) 4102444799 && inB t (-631152000) 4102444799 && decide (f ≤ t) && inB a 1 4 && decide ((S.length : Int) ≤ 20) && (risesFrom S 1 && S.all fun n => inB n 1 1000000000000000) && inB G.length 1 64
include hm in
theorem crlOkI (I : List ByteArray) (f t a : Int) (S G : List Int) (h1 : I.length ≤ 9223372036854775807) (h2 : ∀ s ∈ I, s.size ≤ 9223372036854775807) (h3 : S.length ≤ 9223372036854775807) :
  Holds Tryz.prog 50 [crlA I f t a S G] [] (.v (.bool (crlOk I f t a S G))) [] := by
 refine holds_of (ann := []) tabOk hm Tryz.func50 (by kernel_rfl) rfl ?_
 simp +decide only [Tryz.f50, go_sem]
 refine Runs.call (isName hm I h1 h2) ?_
 simp +decide only [go_sem]
 refine Runs.split (fun e1 => ?_) (fun e1 => by simp +decide only [crlOk, e1, go_sem]; exact Runs.ret_v)
 simp +decide only [go_sem]
 refine Runs.call (isTime hm f) ?_
 simp +decide only [go_sem]
 refine Runs.split (fun e2 => ?_) (fun e2 => by simp +decide only [crlOk, e1, e2, go_sem]; exact Runs.ret_v)
 simp +decide only [go_sem]
 refine Runs.call (isTime hm t) ?_
 simp +decide only [go_sem]
 refine Runs.split (fun e3 => ?_) (fun e3 => by simp +decide only [crlOk, e1, e2, e3, go_sem]; exact Runs.ret_v)
 simp +decide only [go_sem]
 refine Runs.split (fun e4 => ?_) (fun e4 => by simp +decide only [crlOk, e1, e2, e3, e4, go_sem]; exact Runs.ret_v)
 simp +decide only [go_sem]
 refine Runs.call (within hm a 1 4) ?_
 simp +decide only [go_sem]
 refine Runs.split (fun e5 => ?_) (fun e5 => by simp +decide only [crlOk, e1, e2, e3, e4, e5, go_sem]; exact Runs.ret_v)
 simp +decide only [go_sem]
 refine Runs.split (fun e6 => ?_) (fun e6 => by simp +decide only [crlOk, e1, e2, e3, e4, e5, e6, go_sem]; exact Runs.ret_v)
 simp +decide only [go_sem]
 refine Runs.call (isRising hm S 1 1000000000000000 h3) ?_
 simp +decide only [go_sem]
 refine Runs.split (fun e7 => ?_) (fun e7 => by simp +decide only [crlOk, e1, e2, e3, e4, e5, e6, e7, go_sem]; exact Runs.ret_v)
 simp +decide only [go_sem]
 refine Runs.call (isSig hm (G.map u8A)) ?_
 simp +decide only [crlOk, e1, e2, e3, e4, e5, e6, e7, go_sem]
 exact Runs.ret_v
def szCrlV (I : List ByteArray) (S G : List Int) (left : Int) : Int :=
 if szS I left < 0 then -1 else if szI S.length (szS I left) < 0 then -1 else szI G.length (szI S.length (szS I left))
include hm in
theorem eqCrl (I : List ByteArray) (f t a : Int) (S G : List Int) (h1 : I.length ≤ 9223372036854775807) (h3 : S.length ≤ 9223372036854775807) (h4 : G.length ≤ 9223372036854775807) :
  Holds Tryz.prog 7 [crlA I f t a S G, crlA I f t a S G] [] (.v (.bool true)) [] := by
 refine holds_of (ann := []) tabOk hm Tryz.func7 (by kernel_rfl) rfl ?_
 simp +decide only [Tryz.f7, go_sem]
 refine Runs.call (eqStringS hm I h1) ?_
 simp +decide only [go_sem]
 refine Runs.call (eqIntS hm S h3) ?_
 simp +decide only [go_sem]
 refine Runs.call (eqByteS hm G h4) ?_
 simp +decide only [go_sem]
 exact Runs.ret_v
def stepOk (S : List Int) (i : Nat) : Bool := inB (S.getD i 0) 1 1000000000000000 && (decide (i = 0) || decide (S.getD (i - 1) 0 < S.getD i 0))
def stepsOk (S : List Int) (i : Nat) : Bool := (List.range' i (S.length - i)).all (stepOk S)
theorem stepsOk_succ {S : List Int} {i : Nat} (h : i < S.length) : stepsOk S i = (stepOk S i && stepsOk S (i + 1)) := by
 unfold stepsOk
 obtain ⟨k, hk⟩ : ∃ k, S.length - i = k + 1 := ⟨S.length - i - 1, by omega⟩
 rw [hk, List.range'_succ, List.all_cons, show S.length - (i + 1) = k by omega]
theorem stepsOk_end {S : List Int} {i : Nat} (h : S.length ≤ i) : stepsOk S i = true := by
 unfold stepsOk
 rw [show S.length - i = 0 by omega]; rfl
theorem stepsOk_eq (S : List Int) : stepsOk S 0 = (risesFrom S 1 && S.all fun n => inB n 1 1000000000000000) := by
 rw [Bool.eq_iff_iff]
 simp only [stepsOk, risesFrom, Bool.and_eq_true, List.all_eq_true, List.mem_range'_1, stepOk, Bool.or_eq_true, decide_eq_true_eq]
 constructor
 ·intro h
  refine ⟨fun j hj => ?_, fun n hn => ?_⟩
  ·rcases (h j ⟨by omega, by omega⟩).2 with e | e
   ·omega
   ·exact e
  ·obtain ⟨j, hj, rfl⟩ := List.getElem_of_mem hn
   have := (h j ⟨by omega, by omega⟩).1
   simpa [List.getD, hj] using this
 ·rintro ⟨h1, h2⟩ j ⟨-, hj⟩
  have hj' : j < S.length := by omega
  refine ⟨?_, ?_⟩
  ·have := h2 S[j] (List.getElem_mem hj')
   simpa [List.getD, hj'] using this
  ·rcases Nat.eq_zero_or_pos j with e | e
   ·exact .inl e
   ·exact .inr (h1 j ⟨by omega, by omega⟩)
def ann5 : Ann := [(0, [1, 3])]
def st5 (I : List ByteArray) (f t a : Int) (S G : List Int) (i : Nat) : St := ⟨[.any, .ref (.l 0) 0 0 1, .any, .v (.int .i64 i), .any, .any, .any, .any, .any, .any, .any, .any, .any, .any, .any, .any, .any, .any, .any, .any, .any, .any, .any, .any, .any, .any, .any, .any, .any, .any, .any, .any, .any, .any, .any, .any, .any, .any, .any, .any, .any, .any, .any, .any, .any, .any, .any, .any, .any, .any, .any, .any, .any, .any, .any, .any, .any, .any, .any, .any, .any, .any, .any, .any, .any, .any, .any, .any, .any, .any, .any, .any, .any], [(0, ⟨true, 6, true, [crlA I f t a S G]⟩)], []⟩
def sched5 : Sched := .take 0 (.take 2 (.alt 1 (.take 3 (.alt 4 (.alt 5 (.take 6 (.take 7 (.take 8 (.take 9 (.take 10 (.take 11 (.take 13 (.take 14 (.take 17 (.take 19 (.alt 12 (.take 15 (.alt 16 (.alt 18 (.take 20 (.alt 21 (.take 22 (.take 23 (.take 24 .fin))) .nil)) .nil) (.alt 18 (.take 20 (.alt 16 (.alt 21 (.take 22 (.take 23 (.take 24 .fin))) .nil) (.alt 21 (.alt 16 (.take 22 (.take 23 (.take 24 .fin))) .nil) .nil))) .nil))) (.alt 18 (.take 20 (.alt 12 (.take 15 (.alt 16 (.alt 21 (.take 22 (.take 23 (.take 24 .fin))) .nil) (.alt 21 (.alt 16 (.take 22 (.take 23 (.take 24 .fin))) .nil) .nil))) (.alt 21 (.alt 12 (.take 15 (.alt 16 (.take 22 (.take 23 (.take 24 .fin))) .nil)) .nil) .nil))) .nil)))))))))))) .nil) .nil)) .nil))
attribute [local go_sem] sched5
include hm in
theorem crlOkS (I : List ByteArray) (f t a : Int) (S G : List Int) (h1 : I.length ≤ 9223372036854775807) (h2 : ∀ s ∈ I, s.size ≤ 9223372036854775807) (h3 : S.length ≤ 9223372036854775807) :
  Holds Tryz.prog 41 [crlA I f t a S G] [] (.v (.bool (crlOk I f t a S G))) [] := by
 refine holds_of (ann := ann5) tabOk hm Tryz.func41 (by kernel_rfl) rfl ?_
 simp +decide only [Tryz.f41, go_sem]
 refine Runs.while (α := Nat) (st5 I f t a S G) (fun i => S.length - i) (fun i => i ≤ S.length ∧ stepsOk S i = stepsOk S 0) 0 ⟨by omega, rfl⟩ ?_ ?_
 ·simp [go_sem, ann5, st5]
 ·rintro i ⟨hi1, hr⟩ ih
  simp +decide (disch := first | omega | (simp only [ll]; omega)) only [st5, if_pos, go_sem]
  refine Runs.split (fun h => ?_) (fun h => ?_)
  ·have hlt : i < S.length := by simpa using h
   rw [stepsOk_succ hlt] at hr
   have hg : S.getD i 0 = S[i] := by simp [List.getD, hlt]
   simp +decide only [go_sem]
   have stop : stepOk S i = false → crlOk I f t a S G = false := fun e => by
    rw [crlOk, ← stepsOk_eq, ← hr, e]; simp
   cases hb : inB S[i] 1 1000000000000000 with
   | false =>
    refine Runs.draw (st1 := ?s1) (draws_by (ann := []) tabOk sched5 (by kernel_rfl) ?p1) ?q1
    case p1 =>
     intro K r X hK
     simp +decide (disch := first | omega | (simp only [ll]; omega)) only [if_pos, go_sem]
     refine Runs.call (l1In hm _ 1 _) ?_
     simp +decide (disch := first | omega | (simp only [ll]; omega)) only [hb, if_pos, go_sem]
     exact hK
    case q1 =>
     have e : crlOk I f t a S G = false := stop (by rw [stepOk, hg, hb, Bool.false_and])
     simp +decide (disch := first | omega | (simp only [ll]; omega)) only [e, if_pos, go_sem]
     exact Runs.ret_v
   | true =>
    rcases Nat.eq_zero_or_pos i with rfl | h0
    ·refine Runs.draw (st1 := ?s2) (draws_by (ann := []) tabOk sched5 (by kernel_rfl) ?p2) ?q2
     case p2 =>
      intro K r X hK
      simp +decide (disch := first | omega | (simp only [ll]; omega)) only [if_pos, go_sem]
      refine Runs.call (l1In hm _ 1 _) ?_
      simp +decide (disch := first | omega | (simp only [ll]; omega)) only [hb, Int.natCast_zero, gt_iff_lt, Int.lt_irrefl, if_pos, go_sem]
      exact hK
     case q2 =>
      have e : stepOk S 0 = true := by rw [stepOk, hg, hb]; rfl
      rw [e, Bool.true_and] at hr
      simp +decide (disch := first | omega | (simp only [ll]; omega)) only [if_pos, go_sem]
      refine ih 1 _ (by omega) ⟨by omega, hr⟩ ?_
      simp [go_sem, ann5, st5]
    ·have hd : decide ((i : Int) > 0) = true := by simp; omega
     have ht : ((i : Int) - 1).toNat = i - 1 := by omega
     have hg1 : (S.map intA).getD (i - 1) .any = .v (.int .i64 (S.getD (i - 1) 0)) := by simp [List.getD, show i - 1 < S.length by omega, intA]
     refine Runs.draw (st1 := ?s3) (draws_by (ann := []) tabOk sched5 (by kernel_rfl) ?p3) ?q3
     case p3 =>
      intro K r X hK
      simp +decide (disch := first | omega | (simp only [ll]; omega)) only [if_pos, go_sem]
      refine Runs.call (l1In hm _ 1 _) ?_
      simp +decide (disch := first | omega | (simp only [ll]; omega)) only [hb, hd, ht, hg1, if_pos, go_sem]
      exact hK
     case q3 =>
      simp +decide (disch := first | omega | (simp only [ll]; omega)) only [if_pos, go_sem]
      refine Runs.split (fun h => ?_) (fun h => ?_)
      ·have e : crlOk I f t a S G = false := stop (by
        simp only [decide_eq_true_eq] at h
        rw [stepOk, hg, hb, decide_eq_false (by omega), decide_eq_false (by omega)]; rfl)
       simp +decide (disch := first | omega | (simp only [ll]; omega)) only [e, if_pos, go_sem]
       exact Runs.ret_v
      ·have e : stepOk S i = true := by
        simp only [decide_eq_false_iff_not] at h
        rw [stepOk, hg, hb, decide_eq_true (p := _ < _) (by omega), Bool.or_true]; rfl
       rw [e, Bool.true_and] at hr
       simp +decide (disch := first | omega | (simp only [ll]; omega)) only [if_pos, go_sem]
       refine ih (i + 1) _ (by omega) ⟨by omega, hr⟩ ?_
       simp [go_sem, ann5, st5]
  ·have hge : i = S.length := by simp at h; omega
   rw [stepsOk_end (by omega), stepsOk_eq] at hr
   simp +decide only [go_sem]
   refine Runs.call (l10Name hm I h1 h2) ?_
   simp +decide only [go_sem]
   refine Runs.split (fun e1 => ?_) (fun e1 => by simp +decide only [crlOk, e1, go_sem]; exact Runs.ret_v)
   simp +decide only [go_sem]
   refine Runs.call (l9Ok hm f) ?_
   simp +decide only [go_sem]
   refine Runs.split (fun e2 => ?_) (fun e2 => by simp +decide only [crlOk, e1, e2, go_sem]; exact Runs.ret_v)
   simp +decide only [go_sem]
   refine Runs.call (l9Ok hm t) ?_
   simp +decide only [go_sem]
   refine Runs.split (fun e3 => ?_) (fun e3 => by simp +decide only [crlOk, e1, e2, e3, go_sem]; exact Runs.ret_v)
   simp +decide only [go_sem]
   refine Runs.split (fun e4 => ?_) (fun e4 => by simp +decide only [crlOk, e1, e2, e3, e4, go_sem]; exact Runs.ret_v)
   simp +decide only [go_sem]
   refine Runs.call (l1In hm a 1 4) ?_
   simp +decide only [go_sem]
   refine Runs.split (fun e5 => ?_) (fun e5 => by simp +decide only [crlOk, e1, e2, e3, e4, e5, go_sem]; exact Runs.ret_v)
   simp +decide only [go_sem]
   refine Runs.split (fun e6 => ?_) (fun e6 => by simp +decide only [crlOk, e1, e2, e3, e4, e5, e6, go_sem]; exact Runs.ret_v)
   simp +decide only [go_sem]
   refine Runs.call (l1In hm G.length 1 64) ?_
   simp +decide only [crlOk, e1, e2, e3, e4, e5, e6, ← hr, go_sem]
   exact Runs.ret_v
end Go.Proofs.W

namespace Go.Proofs.W
open Go Go.AM
variable (hm : Tryz.prog.follows .mixedOrders = true)
attribute [local go_sem] crlA
def tail13 (I : List ByteArray) (f t a : Int) (S : List Int) : List It :=
 intI a :: ⟨48, [], I.length⟩ :: (I.map (txtI 12) ++ ⟨48, [], 2⟩ :: timeI f :: timeI t :: ⟨48, [], S.length⟩ :: S.map intI)
def tree13 (I : List ByteArray) (f t a : Int) (S : List Int) : List It :=
 ⟨48, [], 4⟩ :: tail13 I f t a S
def t13a : Sched := .take 0 (.take 3 (.take 6 (.ld 1 (.ld 4 (.take 5 (.ld 7 (.alt 2 (.alt 8 (.alt 9 (.alt 10 (.take 11 .fin) .nil) .nil) .nil) .nil)))))))
def t13b : Sched := .take 0 (.take 1 (.take 4 (.ld 2 (.ld 5 (.alt 3 (.alt 6 (.alt 7 (.alt 8 (.alt 9 (.take 10 .fin) .nil) .nil) .nil) .nil) .nil)))))
def t13c : Sched := .take 0 (.take 1 (.take 4 (.ld 2 (.take 3 (.ld 5 (.alt 6 (.alt 7 (.alt 8 (.alt 9 (.take 10 .fin) .nil) .nil) .nil) .nil))))))
attribute [local go_sem] t13a t13b t13c
set_option maxRecDepth 10000 in
include hm in
theorem l13Tree (I : List ByteArray) (f t a : Int) (S G : List Int) (h1 : I.length ≤ 1000) (h2 : ∀ s ∈ I, s.size ≤ 1073741824) (h3 : S.length ≤ 1000) (h4 : ∀ n ∈ S, -9223372036854775808 ≤ n ∧ n < 9223372036854775808) (ha : -9223372036854775808 ≤ a ∧ a < 9223372036854775808) :
  Holds Tryz.prog 44 [crlA I f t a S G] [] (.sl (.ow 3) ((tree13 I f t a S).map itemO)) [] := by
 refine holds_ref (ann := []) tabOk hm (byL [] [43, 1000001]) Tryz.func44 (by kernel_rfl) rfl ?_
 simp +decide only [Tryz.f44, go_sem]
 refine Runs.draw (st1 := ?s1) (draws_ref (ann := []) tabOk (byL [] [43, 1000001]) t13a (by kernel_rfl) ?p1) ?q1
 case p1 =>
  intro K r X hK
  simp +decide only [go_sem]
  refine Runs.call (l10Int hm a ha.1 ha.2) ?_
  simp +decide only [go_sem]
  refine Runs.call (l10Texts hm 12 I (by omega) h2) ?_
  simp +decide only [go_sem]
  refine Runs.call (l10Made hm 48 I.length (I.map (txtI 12)) (by simp; omega)) ?_
  simp +decide (disch := first | omega | (simp only [ll]; omega)) only [if_pos, go_sem]
  exact hK
 case q1 =>
  simp +decide only [go_sem]
  refine Runs.draw (st1 := ?s2) (draws_ref (ann := []) tabOk (byL [] [43, 1000001]) t13b (by kernel_rfl) ?p2) ?q2
  case p2 =>
   intro K r X hK
   simp +decide only [go_sem]
   refine Runs.call (l10Time hm f) ?_
   simp +decide only [go_sem]
   refine Runs.call (l10Time hm t) ?_
   simp +decide only [go_sem]
   refine Runs.call (l10Made hm 48 2 [timeI f, timeI t] (by simp)) ?_
   simp +decide (disch := first | omega | (simp only [ll]; omega)) only [if_pos, go_sem]
   exact hK
  case q2 =>
   simp +decide only [go_sem]
   refine Runs.draw (st1 := ?s3) (draws_ref (ann := []) tabOk (byL [] [43, 1000001]) t13c (by kernel_rfl) ?p3) ?q3
   case p3 =>
    intro K r X hK
    simp +decide only [go_sem]
    refine Runs.call (l10Ints hm S (by omega) h4) ?_
    simp +decide only [go_sem]
    refine Runs.call (l10Made hm 48 S.length (S.map intI) (by simp; omega)) ?_
    simp +decide (disch := first | omega | (simp only [ll]; omega)) only [if_pos, go_sem]
    refine Runs.call' (as' := [.v (.int .i64 48), .v (.int .i64 4), .sl (.ow 3) ((tail13 I f t a S).map itemO)]) ?_ (l10Made hm 48 4 (tail13 I f t a S) (by simp [tail13]; omega)) ?_
    ·simp [tail13, mdL_append, md_itemO, intI, mdL, md1_itemO, -List.map_map]
    ·simp +decide (disch := first | omega | (simp only [ll]; omega)) only [if_pos, go_sem]
     exact hK
   case q3 =>
    simp +decide (disch := first | omega | (simp only [ll]; omega)) only [tree13, if_pos, go_sem]
    exact Runs.ret_refl
end Go.Proofs.W

namespace Go.Proofs.W
open Go Go.AM
variable (hm : Tryz.prog.follows .mixedOrders = true)
attribute [local go_sem] crlA
def crlN (I : List ByteArray) (f t a : Int) (S : List Int) : Nd :=
 .mk 48 [] [intN a, .mk 48 [] (I.map (txtN 12)), .mk 48 [] [timeN f, timeN t], .mk 48 [] (S.map intN)]
def cNs : Sched := .take 0 (.take 3 (.take 7 (.take 10 (.take 15 (.ld 1 (.ld 4 (.ld 8 (.ld 11 (.ld 16 (.alt 2 (.alt 5 (.alt 6 (.alt 9 (.alt 12 (.alt 13 (.alt 14 (.alt 17 (.alt 18 (.alt 19 (.alt 20 (.alt 21 .fin .nil) .nil) .nil) .nil) .nil) .nil) .nil) .nil) .nil) .nil) .nil) .nil))))))))))
attribute [local go_sem] cNs
set_option maxRecDepth 10000 in
include hm in
theorem crlNode (I : List ByteArray) (f t a : Int) (S G : List Int) (h1 : I.length ≤ 1000) (h2 : ∀ s ∈ I, s.size ≤ 1073741824) (h3 : S.length ≤ 1000) (h4 : ∀ n ∈ S, -9223372036854775808 ≤ n ∧ n < 9223372036854775808) (ha : -9223372036854775808 ≤ a ∧ a < 9223372036854775808) :
  Holds Tryz.prog 53 [crlA I f t a S G] [] (nodeO (crlN I f t a S)) [] := by
 refine holds_ref (ann := []) tabOk hm (byL [] [52, 1000001]) Tryz.func53 (by kernel_rfl) rfl ?_
 simp +decide only [Tryz.f53, go_sem]
 refine Runs.draw (st1 := ?s1) (draws_ref (ann := []) tabOk (byL [] [52, 1000001]) cNs (by kernel_rfl) ?p1) ?q1
 case p1 =>
  intro K r X hK
  simp +decide only [nodeO, nodesO, go_sem]
  refine Runs.call (integer hm a ha.1 ha.2) ?_
  simp +decide only [nodeO, nodesO, go_sem]
  refine Runs.call (texts hm 12 I (by omega) h2) ?_
  simp +decide only [nodeO, nodesO, go_sem]
  refine Runs.call (listN hm 48 (I.map (txtN 12))) ?_
  simp +decide only [nodeO, nodesO, go_sem]
  refine Runs.call (timeNode hm f) ?_
  simp +decide only [nodeO, nodesO, go_sem]
  refine Runs.call (timeNode hm t) ?_
  simp +decide (disch := first | omega | (simp only [ll]; omega)) only [nodeO, nodesO, if_pos, go_sem]
  refine Runs.call' (as' := [.v (.int .i64 48), .sl (.ow 3) (nodesO [timeN f, timeN t])]) (by simp [nodeO, nodesO, timeN]) (listN hm 48 [timeN f, timeN t]) ?_
  simp +decide only [nodeO, nodesO, go_sem]
  refine Runs.call (integers hm S (by omega) h4) ?_
  simp +decide only [nodeO, nodesO, go_sem]
  refine Runs.call (listN hm 48 (S.map intN)) ?_
  simp +decide (disch := first | omega | (simp only [ll]; omega)) only [nodeO, nodesO, if_pos, go_sem]
  refine Runs.call' (as' := [.v (.int .i64 48), .sl (.ow 3) (nodesO [intN a, .mk 48 [] (I.map (txtN 12)), .mk 48 [] [timeN f, timeN t], .mk 48 [] (S.map intN)])]) (by simp [nodeO, nodesO, timeN, intN, tk_nodesO, md_nodesO]) (listN hm 48 [intN a, .mk 48 [] (I.map (txtN 12)), .mk 48 [] [timeN f, timeN t], .mk 48 [] (S.map intN)]) ?_
  simp +decide (disch := first | omega | (simp only [ll]; omega)) only [nodeO, nodesO, if_pos, go_sem]
  exact hK
 case q1 =>
  simp +decide (disch := first | omega | (simp only [ll]; omega)) only [crlN, nodeO, nodesO, intN, timeN, if_pos, go_sem]
  exact Runs.ret_refl
end Go.Proofs.W

namespace Go.Proofs.W
open Go Go.AM
variable (hm : Tryz.prog.follows .mixedOrders = true)
attribute [local go_sem] crlA
def crlKs (I : List ByteArray) (f t a : Int) (S : List Int) : List Nd := [intN a, .mk 48 [] (I.map (txtN 12)), .mk 48 [] [timeN f, timeN t], .mk 48 [] (S.map intN)]
theorem items_crl (I : List ByteArray) (f t a : Int) (S : List Int) : itemsN (.mk 48 [] (crlKs I f t a S)) = tree13 I f t a S := by
 simp only [crlKs, itemsN_mk, itemsNL, itemsN_int, itemsN_time, itemsNL_map _ _ (itemsN_txt 12), itemsNL_map _ _ itemsN_int, tree13, tail13, List.length_map, List.length_cons, List.length_nil, List.append_nil, List.cons_append, List.nil_append]
 rfl
theorem crl_bodies (I : List ByteArray) (f t a : Int) (S : List Int) (h2 : ∀ s ∈ I, s.size ≤ 1073741824) : bodiesLe 1073741824 (.mk 48 [] (crlKs I f t a S)) := by
 have i1 : ∀ n, bodiesLe 1073741824 (intN n) := fun n => ⟨by have := intB_le n; omega, trivial⟩
 have t1 : ∀ n, bodiesLe 1073741824 (timeN n) := fun n => ⟨by have := timeB_le n; omega, trivial⟩
 exact ⟨by simp, i1 a, ⟨by simp, bodiesLeL_map _ _ fun s hs => ⟨by have := h2 s hs; simpa [bytesI] using this, trivial⟩⟩, ⟨by simp, t1 f, t1 t, trivial⟩, ⟨by simp, bodiesLeL_map _ _ fun n _ => i1 n⟩, trivial⟩
theorem crl_kids (I : List ByteArray) (f t a : Int) (S : List Int) (h1 : I.length ≤ 1000) (h3 : S.length ≤ 1000) : kidsLe 1000000 (.mk 48 [] (crlKs I f t a S)) := by
 have i1 : ∀ n, kidsLe 1000000 (intN n) := fun n => ⟨by simp, trivial⟩
 have t1 : ∀ n, kidsLe 1000000 (timeN n) := fun n => ⟨by simp, trivial⟩
 exact ⟨by simp [crlKs], i1 a, ⟨by simp; omega, kidsLeL_map _ _ fun s hs => ⟨by simp, trivial⟩⟩, ⟨by simp, t1 f, t1 t, trivial⟩, ⟨by simp; omega, kidsLeL_map _ _ fun n _ => i1 n⟩, trivial⟩
theorem tree13_len (I : List ByteArray) (f t a : Int) (S : List Int) : (tree13 I f t a S).length = I.length + S.length + 7 := by
 simp [tree13, tail13]; omega
theorem tree13_body (I : List ByteArray) (f t a : Int) (S : List Int) (h2 : ∀ s ∈ I, s.size ≤ 1073741824) : ∀ x ∈ tree13 I f t a S, x.body.length ≤ 1073741824 := by
 have hi : ∀ n, (intI n).body.length ≤ 1073741824 := fun n => by have := intB_le n; show (intB n).length ≤ _; omega
 have ht : ∀ n, (timeI n).body.length ≤ 1073741824 := fun n => by
  have := timeB_le n
  have e : (timeI n).body = timeB n := by unfold timeI timeB; split <;> rfl
  rw [e]; omega
 intro x hx
 simp only [tree13, tail13, List.mem_cons, List.mem_append, List.mem_map] at hx
 rcases hx with rfl | rfl | rfl | ⟨s, hs, rfl⟩ | rfl | rfl | rfl | rfl | ⟨n, hn, rfl⟩
 ·simp
 ·exact hi a
 ·simp
 ·have := h2 s hs; simpa [txtI, bytesI] using this
 ·simp
 ·exact ht f
 ·exact ht t
 ·simp
 ·exact hi n
def tbsOk (I : List ByteArray) (f t a : Int) (S G : List Int) : Bool := crlOk I f t a S G && derOk (tree13 I f t a S)
def tbsB (I : List ByteArray) (f t a : Int) (S G : List Int) : List Int := if crlOk I f t a S G = true then derB (tree13 I f t a S) else []
def tbsA (I : List ByteArray) (f t a : Int) (S G : List Int) : A := .tup [.sl (.ow 1) ((tbsB I f t a S G).map u8A), .v (.bool (tbsOk I f t a S G))]
theorem crl_len {I : List ByteArray} {f t a : Int} {S G : List Int} (h : crlOk I f t a S G = true) : I.length ≤ 4 ∧ S.length ≤ 20 ∧ 1 ≤ a ∧ a ≤ 4 ∧ (∀ n ∈ S, 1 ≤ n ∧ n ≤ 1000000000000000) ∧ ∀ s ∈ I, s.size ≤ 1073741824 := by
 simp [crlOk, nameOk, inB] at h
 obtain ⟨⟨⟨⟨⟨⟨⟨⟨h0, h1⟩, _⟩, _⟩, _⟩, h2⟩, h3⟩, ⟨_, h4⟩⟩, _⟩ := h
 exact ⟨by omega, by omega, by omega, by omega, h4, fun s hs => by
  have := h0 s hs
  simp [textOk, inB] at this
  omega⟩
end Go.Proofs.W

namespace Go.Proofs.W
open Go Go.AM
variable (hm : Tryz.prog.follows .mixedOrders = true)
set_option maxRecDepth 10000 in
include hm in
theorem bitsOf (B : List Int) (h : B.length ≤ 1073741823) : Holds Tryz.prog 54 [.sl .sh (B.map u8A)] [] (nodeO (.mk 3 (0 :: B) [])) [] := by
 refine holds_ref (ann := []) tabOk hm (byL [] [88]) Tryz.func54 (by kernel_rfl) rfl ?_
 simp +decide (disch := first | omega | (simp only [ll]; omega)) only [Tryz.f54, if_pos, go_sem]
 refine Runs.call' (as' := [.v (.int .i64 3), .sl (.ow 1) ((0 :: B).map u8A)]) (by simp [u8A]) (leaf hm 3 (0 :: B)) ?_
 simp +decide only [nodeO, nodesO, go_sem]
 exact Runs.ret_refl
end Go.Proofs.W

namespace Go.Proofs.W
open Go Go.AM
variable (hm : Tryz.prog.follows .mixedOrders = true)
attribute [local go_sem] crlA
def sigI (G : List Int) : It := ⟨3, 0 :: G, 0⟩
def sigN (G : List Int) : Nd := .mk 3 (0 :: G) []
def treeW (I : List ByteArray) (f t a : Int) (S G : List Int) : List It := ⟨48, [], 2⟩ :: (tree13 I f t a S ++ [sigI G])
def crlW (I : List ByteArray) (f t a : Int) (S G : List Int) : List Nd := [.mk 48 [] (crlKs I f t a S), sigN G]
theorem items_W (I : List ByteArray) (f t a : Int) (S G : List Int) : itemsN (.mk 48 [] (crlW I f t a S G)) = treeW I f t a S G := by
 rw [crlW, itemsN_mk]
 rw [itemsNL, items_crl]
 simp only [itemsNL, sigN, itemsN_mk, treeW, sigI, List.length_cons, List.length_nil, List.append_nil]
 rfl
theorem treeW_len (I : List ByteArray) (f t a : Int) (S G : List Int) : (treeW I f t a S G).length = I.length + S.length + 9 := by
 simp [treeW, tree13_len]
theorem treeW_body (I : List ByteArray) (f t a : Int) (S G : List Int) (h2 : ∀ s ∈ I, s.size ≤ 1073741824) (h3 : G.length ≤ 1073741823) : ∀ x ∈ treeW I f t a S G, x.body.length ≤ 1073741824 := by
 intro x hx
 simp only [treeW, List.mem_cons, List.mem_append, List.not_mem_nil, or_false] at hx
 rcases hx with rfl | hx | rfl
 ·simp
 ·exact tree13_body I f t a S h2 x hx
 ·simp [sigI]; omega
theorem wW_bodies (I : List ByteArray) (f t a : Int) (S G : List Int) (h2 : ∀ s ∈ I, s.size ≤ 1073741824) (h3 : G.length ≤ 1073741823) : bodiesLe 1073741824 (.mk 48 [] (crlW I f t a S G)) :=
 ⟨by simp, crl_bodies I f t a S h2, ⟨by simp; omega, trivial⟩, trivial⟩
theorem wW_kids (I : List ByteArray) (f t a : Int) (S G : List Int) (h1 : I.length ≤ 1000) (h3 : S.length ≤ 1000) : kidsLe 1000000 (.mk 48 [] (crlW I f t a S G)) :=
 ⟨by simp [crlW], crl_kids I f t a S h1 h3, ⟨by simp, trivial⟩, trivial⟩
def wOk (I : List ByteArray) (f t a : Int) (S G : List Int) : Bool := crlOk I f t a S G && derOk (treeW I f t a S G)
def wB (I : List ByteArray) (f t a : Int) (S G : List Int) : List Int := if crlOk I f t a S G = true then derB (treeW I f t a S G) else []
def wA (I : List ByteArray) (f t a : Int) (S G : List Int) : A := .tup [.sl (.ow 1) ((wB I f t a S G).map u8A), .v (.bool (wOk I f t a S G))]
theorem crl_sig {I : List ByteArray} {f t a : Int} {S G : List Int} (h : crlOk I f t a S G = true) : G.length ≤ 64 := by
 simp [crlOk, nameOk, inB] at h
 omega
theorem wB_le (I : List ByteArray) (f t a : Int) (S G : List Int) : (wB I f t a S G).length ≤ 4000 := by
 unfold wB
 split
 ·unfold derB
  split
  ·rename_i h
   simp [derOk] at h
   omega
  ·simp
 ·simp
def sWs : Sched := .take 3 (.ld 0 (.ld 4 (.alt 1 (.alt 2 (.alt 5 (.alt 6 (.alt 7 (.alt 8 (.alt 9 (.take 10 (.take 11 (.take 12 (.take 13 .fin)))) .nil) .nil) .nil) .nil) .nil) .nil) (.alt 2 (.alt 1 (.alt 5 (.alt 6 (.alt 7 (.alt 8 (.alt 9 (.take 10 (.take 11 (.take 12 (.take 13 .fin)))) .nil) .nil) .nil) .nil) .nil) .nil) .nil))))
attribute [local go_sem] sWs
set_option maxRecDepth 10000 in
include hm in
theorem specWriteCrl (I : List ByteArray) (f t a : Int) (S G : List Int) (h1 : I.length ≤ 1048576) (h2 : ∀ s ∈ I, s.size ≤ 9223372036854775807) (h3 : S.length ≤ 1048576) :
  Holds Tryz.prog 18 [crlA I f t a S G] [] (wA I f t a S G) [] := by
 refine holds_ref (ann := []) tabOk hm (byL [] [45, 43, 1000001]) Tryz.func18 (by kernel_rfl) rfl ?_
 simp +decide only [Tryz.f18, go_sem]
 refine Runs.call (crlOkS hm I f t a S G (by omega) h2 (by omega)) ?_
 simp +decide only [go_sem]
 refine Runs.split (fun h => ?_) (fun h => ?_)
 ·have h' : crlOk I f t a S G = false := by simpa using h
  simp +decide only [go_sem]
  exact Runs.ret_eq (by simp [wA, wB, wOk, h'])
 ·have h' : crlOk I f t a S G = true := by simpa using h
  obtain ⟨l1, l2, l3, l4, l5, l6⟩ := crl_len h'
  have l7 := crl_sig h'
  have hlen := tree13_len I f t a S
  have hT := l13Tree hm I f t a S G (by omega) l6 (by omega) (fun n hn => by have := l5 n hn; omega) (by omega)
  have hM := l10Made hm 48 2 (tree13 I f t a S ++ [sigI G]) (by simp; omega)
  have hI := l10Item hm 3 (0 :: G)
  have hD := specWriteDer hm (treeW I f t a S G) (by rw [treeW_len]; omega)
  simp only [List.map_append, List.map_cons, List.map_nil] at hM hI
  simp only [treeW, List.map_append, List.map_cons, List.map_nil] at hD
  simp only [sigI] at hM hD
  simp only [u8A] at hI
  have eB : wA I f t a S G = derA (treeW I f t a S G) := by simp [wA, wB, wOk, h', derA]
  rw [eB]
  simp only [treeW, sigI, derA] at hD ⊢
  generalize tree13 I f t a S = T at *
  generalize derB _ = B at hD ⊢
  generalize derOk _ = ok at hD ⊢
  simp +decide only [go_sem]
  refine Runs.draw (st1 := ?s1) (draws_ref (ann := []) tabOk (byL [] [45, 43, 1000001]) sWs (by kernel_rfl) ?p1) ?q1
  case p1 =>
   intro K r X hK
   simp +decide only [go_sem]
   repeat' apply And.intro
   all_goals
    refine Runs.call hT ?_
    simp +decide (disch := first | omega | (simp only [ll]; omega)) only [if_pos, go_sem]
    refine Runs.call hI ?_
    simp +decide (disch := first | omega | (simp only [ll]; omega)) only [List.length_append, mdL_append, dnL_append, freeL_app, mdL, dnL, freeL, if_pos, go_sem]
    refine Runs.call hM ?_
    simp +decide (disch := first | omega | (simp only [ll]; omega)) only [List.length_append, mdL_append, dnL_append, freeL_app, mdL, dnL, freeL, if_pos, go_sem]
    refine Runs.call hD ?_
    simp +decide (disch := first | omega | (simp only [ll]; omega)) only [if_pos, go_sem]
    exact hK
  case q1 =>
   simp +decide (disch := first | omega | (simp only [ll]; omega)) only [if_pos, go_sem]
   exact Runs.ret_refl
def iWs : Sched := .take 2 (.ld 0 (.ld 3 (.alt 1 (.alt 4 (.alt 5 (.alt 6 (.alt 7 (.alt 8 (.take 9 (.take 10 (.take 11 (.take 12 .fin)))) .nil) .nil) .nil) .nil) .nil) .nil)))
attribute [local go_sem] iWs
set_option maxRecDepth 10000 in
include hm in
theorem implWriteCrl (I : List ByteArray) (f t a : Int) (S G : List Int) (h1 : I.length ≤ 1048576) (h2 : ∀ s ∈ I, s.size ≤ 9223372036854775807) (h3 : S.length ≤ 1048576) :
  Holds Tryz.prog 27 [crlA I f t a S G] [] (wA I f t a S G) [] := by
 refine holds_ref (ann := []) tabOk hm (byL [] [52, 1000001]) Tryz.func27 (by kernel_rfl) rfl ?_
 simp +decide only [Tryz.f27, go_sem]
 refine Runs.call (crlOkI hm I f t a S G (by omega) h2 (by omega)) ?_
 simp +decide only [go_sem]
 refine Runs.split (fun h => ?_) (fun h => ?_)
 ·have h' : crlOk I f t a S G = false := by simpa using h
  simp +decide only [go_sem]
  refine Runs.ret ?_ rfl
  simp only [wA, wB, wOk, h']
  exact .tup (.nils _ (.same _ .nil)) .nil
 ·have h' : crlOk I f t a S G = true := by simpa using h
  obtain ⟨l1, l2, l3, l4, l5, l6⟩ := crl_len h'
  have l7 := crl_sig h'
  have eB : wA I f t a S G = derA (treeW I f t a S G) := by simp [wA, wB, wOk, h', derA]
  have hc := crlNode hm I f t a S G (by omega) l6 (by omega) (fun n hn => by have := l5 n hn; omega) (by omega)
  have hb := bitsOf hm G (by omega)
  have hi := items hm _ (.mk 48 [] (crlW I f t a S G)) (Nat.le_refl _) (by rw [items_W, treeW_len]; omega) (wW_bodies I f t a S G l6 (by omega)) (wW_kids I f t a S G (by omega) (by omega))
  have hd := implWriteDer hm (treeW I f t a S G) (by rw [treeW_len]; omega) (treeW_body I f t a S G l6 (by omega))
  have hl := listN hm 48 (crlW I f t a S G)
  rw [eB]
  rw [items_W] at hi
  rw [derA] at hd ⊢
  generalize treeW I f t a S G = T at *
  rw [show crlN I f t a S = .mk 48 [] (crlKs I f t a S) from rfl] at hc
  rw [crlW] at hi hl
  generalize crlKs I f t a S = ks at hc hi hl
  simp only [nodeO, nodesO, sigN, List.map_nil, List.map_cons, u8A] at hc hb hl
  rw [nodeS] at hi
  have hk : List.take ks.length (nodesO ks) = nodesO ks := List.take_of_length_le (by simp [nodesO_length])
  generalize derB _ = B at hd ⊢
  generalize derOk _ = ok at hd ⊢
  simp +decide only [go_sem]
  refine Runs.draw (st1 := ?s1) (draws_ref (ann := []) tabOk (byL [] [52, 1000001]) iWs (by kernel_rfl) ?p1) ?q1
  case p1 =>
   intro K r X hK
   simp +decide only [go_sem]
   repeat' apply And.intro
   all_goals
    refine Runs.call hc ?_
    simp +decide (disch := first | omega | (simp only [ll]; omega)) only [if_pos, go_sem]
    refine Runs.call hb ?_
    simp +decide (disch := first | omega | (simp only [ll]; omega)) only [hk, if_pos, go_sem]
    refine Runs.call hl ?_
    simp +decide (disch := first | omega | (simp only [ll]; omega)) only [if_pos, go_sem]
    refine Runs.call hi ?_
    simp +decide (disch := first | omega | (simp only [ll]; omega)) only [if_pos, go_sem]
    refine Runs.call hd ?_
    simp +decide (disch := first | omega | (simp only [ll]; omega)) only [if_pos, go_sem]
    exact hK
  case q1 =>
   simp +decide (disch := first | omega | (simp only [ll]; omega)) only [if_pos, go_sem]
   exact Runs.ret_refl
end Go.Proofs.W

namespace Go.Proofs.W
open Go Go.AM
structure Cr where
 I : List ByteArray
 f : Int
 t : Int
 a : Int
 S : List Int
 G : List Int
def kidNum (n : Nd) : Int := numOf (bodyN n)
def kidTime (n : Nd) : Int := (rdTime (txB (bodyN n))).1
def implP (n : Nd) : Cr := ⟨txs ((kidsN (kidAt (kidAt n 0) 1)).filter (isT 12)), kidTime (kidAt (kidAt (kidAt n 0) 2) 0), kidTime (kidAt (kidAt (kidAt n 0) 2) 1), kidNum (kidAt (kidAt n 0) 0), (kidsN (kidAt (kidAt n 0) 3)).map kidNum, (bodyN (kidAt n 1)).drop 1⟩
def specP (n : Nd) : Option Cr :=
 if (kidsN n).length ≠ 2 ∨ bodyN (kidAt n 1) = [] then none
 else if (kidsN (kidAt n 0)).length ≠ 4 then none
 else some ⟨txs (kidsN (kidAt (kidAt n 0) 1)), if (kidsN (kidAt (kidAt n 0) 2)).length = 2 then kidTime (kidAt (kidAt (kidAt n 0) 2) 0) else 0, if (kidsN (kidAt (kidAt n 0) 2)).length = 2 then kidTime (kidAt (kidAt (kidAt n 0) 2) 1) else 0, kidNum (kidAt (kidAt n 0) 0), (kidsN (kidAt (kidAt n 0) 3)).map kidNum, (bodyN (kidAt n 1)).drop 1⟩
def treeC (c : Cr) : Nd := .mk 48 [] (crlW c.I c.f c.t c.a c.S c.G)
theorem kidNum_int {n : Int} (h1 : -9223372036854775808 ≤ n) (h2 : n < 9223372036854775808) : kidNum (intN n) = n := by
 show (intRd (intB n)).1 = n
 rw [intRd_intB h1 h2]
theorem kidTime_time {t : Int} (h : inB t (-631152000) 4102444799 = true) : kidTime (timeN t) = t := by
 show (rdTime (txB (timeB t))).1 = t
 rw [rdTime_timeB h]
theorem txs_txt (t : Int) (I : List ByteArray) : txs (I.map (txtN t)) = I := by
 rw [txs, List.map_map]
 refine (List.map_congr_left (g := id) ?_).trans (List.map_id _)
 intro s _
 exact txB_bytesI s
theorem filt_txt (t : Int) (I : List ByteArray) : (I.map (txtN t)).filter (isT t) = I.map (txtN t) := by
 rw [List.filter_eq_self]
 intro n hn
 obtain ⟨s, _, rfl⟩ := List.mem_map.mp hn
 simp [txtN, isT]
theorem nums_int {S : List Int} (h : ∀ n ∈ S, -9223372036854775808 ≤ n ∧ n < 9223372036854775808) : (S.map intN).map kidNum = S := by
 rw [List.map_map]
 refine (List.map_congr_left (g := id) ?_).trans (List.map_id _)
 intro n hn
 exact kidNum_int (h n hn).1 (h n hn).2
theorem okFields {c : Cr} (h : crlOk c.I c.f c.t c.a c.S c.G = true) : inB c.f (-631152000) 4102444799 = true ∧ inB c.t (-631152000) 4102444799 = true ∧ (1 ≤ c.a ∧ c.a ≤ 4) ∧ ∀ n ∈ c.S, 1 ≤ n ∧ n ≤ 1000000000000000 := by
 simp only [crlOk, Bool.and_eq_true] at h
 obtain ⟨⟨⟨⟨⟨⟨⟨_, h1⟩, h2⟩, _⟩, h3⟩, _⟩, _, h4⟩, _⟩ := h
 refine ⟨h1, h2, inB_iff.mp h3, fun n hn => ?_⟩
 exact inB_iff.mp (List.all_eq_true.mp h4 n hn)
theorem implP_tree {c : Cr} (h : crlOk c.I c.f c.t c.a c.S c.G = true) : implP (treeC c) = c := by
 obtain ⟨h1, h2, h3, h4⟩ := okFields h
 show (⟨txs ((c.I.map (txtN 12)).filter (isT 12)), kidTime (timeN c.f), kidTime (timeN c.t), kidNum (intN c.a), (c.S.map intN).map kidNum, (0 :: c.G).drop 1⟩ : Cr) = c
 rw [filt_txt, txs_txt, kidTime_time h1, kidTime_time h2, kidNum_int (by omega) (by omega), nums_int (fun n hn => by have := h4 n hn; omega)]
 rfl
theorem specP_tree {c : Cr} (h : crlOk c.I c.f c.t c.a c.S c.G = true) : specP (treeC c) = some c := by
 obtain ⟨h1, h2, h3, h4⟩ := okFields h
 rw [specP, if_neg (by simp [treeC, crlW, kidsN, kidAt, sigN, bodyN]), if_neg (by simp [treeC, crlW, kidsN, kidAt, crlKs])]
 show some (⟨txs (c.I.map (txtN 12)), kidTime (timeN c.f), kidTime (timeN c.t), kidNum (intN c.a), (c.S.map intN).map kidNum, (0 :: c.G).drop 1⟩ : Cr) = some c
 rw [txs_txt, kidTime_time h1, kidTime_time h2, kidNum_int (by omega) (by omega), nums_int (fun n hn => by have := h4 n hn; omega)]
 rfl
mutual
def tgN : Nd → Prop
 | .mk t b ks => 0 ≤ t ∧ t < 256 ∧ t % 32 ≠ 31 ∧ (if made t = true then b = [] else ks = []) ∧ tgL ks
def tgL : List Nd → Prop
 | [] => True
 | n :: r => tgN n ∧ tgL r
end
theorem tgL_map {α : Type} {f : α → Nd} (h : ∀ a, tgN (f a)) : ∀ l : List α, tgL (l.map f)
 | [] => trivial
 | a :: l => ⟨h a, tgL_map h l⟩
mutual
theorem rtN_of : ∀ n, tgN n → (enc n).length < 65536 → rtN n
 | .mk t b ks, h, hl => by
  obtain ⟨h1, h2, h3, h4, h5⟩ := h
  simp only [enc, List.length_cons, List.length_append] at hl
  refine ⟨h1, h2, h3, h4, by rw [List.length_append]; omega, rtL_of ks h5 (by omega)⟩
theorem rtL_of : ∀ ks, tgL ks → (encL ks).length < 65536 → rtL ks
 | [], _, _ => trivial
 | n :: r, h, hl => by
  simp only [encL, List.length_append] at hl
  exact ⟨rtN_of n h.1 (by omega), rtL_of r h.2 (by omega)⟩
end
theorem tg_int (n : Int) : tgN (intN n) := ⟨by decide, by decide, by decide, by rw [if_neg (by decide)], trivial⟩
theorem tg_txt (s : ByteArray) : tgN (txtN 12 s) := ⟨by decide, by decide, by decide, by rw [if_neg (by decide)], trivial⟩
theorem tg_time (t : Int) : tgN (timeN t) := by
 rw [timeN, timeG]
 split <;> exact ⟨by decide, by decide, by decide, by rw [if_neg (by decide)], trivial⟩
theorem tg_list {ks : List Nd} (h : tgL ks) : tgN (.mk 48 [] ks) := ⟨by decide, by decide, by decide, by rw [if_pos (by decide)], h⟩
theorem tg_tree (c : Cr) : tgN (treeC c) :=
 tg_list ⟨tg_list ⟨tg_int _, tg_list (tgL_map tg_txt _), tg_list ⟨tg_time _, tg_time _, trivial⟩, tg_list (tgL_map tg_int _), trivial⟩, ⟨by decide, by decide, by decide, by rw [if_neg (by decide)], trivial⟩, trivial⟩
theorem depL_map {α : Type} {f : α → Nd} (h : ∀ a, depN (f a) = 1) : ∀ l : List α, depL (l.map f) ≤ 1
 | [] => by simp [depL]
 | a :: l => by
  have := depL_map h l
  simp only [List.map_cons, depL, h]; omega
theorem dep_tree (c : Cr) : depN (treeC c) ≤ 13 := by
 have h1 := depL_map (f := txtN 12) (fun a => rfl) c.I
 have h2 := depL_map (f := intN) (fun a => rfl) c.S
 simp only [treeC, crlW, crlKs, depN, depL, sigN, intN, timeN] at h1 h2 ⊢
 omega
theorem read_back {c : Cr} {b : List Int} (hw : wOk c.I c.f c.t c.a c.S c.G = true) (hb : wB c.I c.f c.t c.a c.S c.G = b) : derM b = (itemsN (treeC c), 0, 0) ∧ derN (itemsN (treeC c)) = treeC c ∧ specP (treeC c) = some c ∧ implP (treeC c) = c := by
 have hle := wB_le c.I c.f c.t c.a c.S c.G
 rw [wOk, Bool.and_eq_true] at hw
 obtain ⟨hc, hd⟩ := hw
 have hn : derN (itemsN (treeC c)) = treeC c := by
  have := nestP_at (L := itemsN (treeC c)) 13 0 (treeC c) ⟨[], [], by simp, rfl⟩ (dep_tree c)
  rw [derN, this]
 have hi : itemsN (treeC c) = treeW c.I c.f c.t c.a c.S c.G := items_W _ _ _ _ _ _
 refine ⟨?_, hn, specP_tree hc, implP_tree hc⟩
 rw [hb] at hle
 rw [wB, if_pos hc, derB, if_pos hd, ← hi, hn] at hb
 have h300 : (itemsN (treeC c)).length ≤ 300 := by
  rw [hi]
  simp only [derOk, treeOk, Bool.and_eq_true] at hd
  have := inB_iff.mp hd.1.1.1.1
  omega
 have hr := rdM_enc (b := b) 13 b.length 0 (treeC c) ⟨[], [], by simp [hb], rfl⟩ (by rw [hb]; omega) (dep_tree c) (rtN_of _ (tg_tree c) (by rw [hb]; omega))
 rw [derM, if_neg (by omega), hr]
 simp only
 rw [if_neg (by simp), if_neg (by omega), if_neg (by rw [hb]; omega)]
end Go.Proofs.W

namespace Go.Proofs.W
open Go Go.AM
def wellC (b : List Int) (c : Cr) : Prop := wOk c.I c.f c.t c.a c.S c.G = true ∧ wB c.I c.f c.t c.a c.S c.G = b
instance (b : List Int) (c : Cr) : Decidable (wellC b c) := inferInstanceAs (Decidable (_ ∧ _))
def rdSpec (b : List Int) : Option Cr := if (derM b).2.1 ≠ 0 then none else match specP (derN (derM b).1) with
 | none => none
 | some c => if wellC b c then some c else none
def rdImpl (b : List Int) : Option Cr := if (derM b).2.1 ≠ 0 then none else if wellC b (implP (derN (derM b).1)) then some (implP (derN (derM b).1)) else none
theorem rd_same (b : List Int) : rdSpec b = rdImpl b := by
 unfold rdSpec rdImpl
 split
 ·rfl
 by_cases hi : wellC b (implP (derN (derM b).1))
 ·rw [if_pos hi]
  obtain ⟨h1, h2, h3, h4⟩ := read_back hi.1 hi.2
  have e : specP (derN (derM b).1) = some (implP (derN (derM b).1)) := by
   rw [h1] at h3 ⊢
   simp only at h3 ⊢
   rw [h2] at h3 ⊢
   rw [h4] at h3 ⊢
   exact h3
  rw [e]
  simp only
  rw [if_pos hi]
 ·rw [if_neg hi]
  split
  ·rfl
  ·rename_i c hc
   split
   ·rename_i hs
    exfalso
    obtain ⟨h1, h2, h3, h4⟩ := read_back hs.1 hs.2
    apply hi
    rw [h1]
    simp only
    rw [h2, h4]
    exact hs
   ·rfl
theorem derM_tree {b : List Int} (hb : BytesOk b) (h : (derM b).2.1 = 0) : ∃ n, (derM b).1 = itemsN n ∧ depN n ≤ 13 ∧ goodN n ∧ (itemsN n).length ≤ 300 ∧ derN (itemsN n) = n := by
 unfold derM at h ⊢
 by_cases h1 : 4000 < b.length
 ·rw [if_pos h1] at h; simp at h
 rw [if_neg h1] at h ⊢
 by_cases h2 : (rdM b 13 0 b.length).code ≠ 0
 ·rw [if_pos h2] at h; exact absurd h h2
 rw [if_neg h2] at h ⊢
 by_cases h3 : 300 < (rdM b 13 0 b.length).items.length
 ·rw [if_pos h3] at h; simp at h
 rw [if_neg h3] at h ⊢
 by_cases h4 : (rdM b 13 0 b.length).next < b.length
 ·rw [if_pos h4] at h; simp at h
 rw [if_neg h4]
 obtain ⟨n, a1, a2, a3⟩ := rdM_tree hb 13 0 b.length (by omega)
 refine ⟨n, a1, a2, a3, by rw [← a1]; omega, ?_⟩
 have := nestP_at (L := itemsN n) 13 0 n ⟨[], [], by simp, rfl⟩ a2
 rw [derN, this]
end Go.Proofs.W

namespace Go.AM
open Go
theorem Holds.dnT {P : Program} {f : Nat} {bs cs : List A} (hp : plainL bs = true) (h : Holds P f bs [] (.tup cs) []) : Holds P f bs [] (.tup (dnL cs)) [] where
 fn := h.fn
 calls C w xs fx fa h1 h2 h3 h4 h5 h6 h7 h8 := by
  refine Calls.mono (h.calls C w xs fx fa h1 h2 h3 h4 h5 h6 h7 h8) ?_
  intro e w' hh
  cases e with
  | returned v =>
   obtain ⟨D, fr, fx', a1, a2, a3, a4, a5, a6, a7, a8, a9, a10, a11, a12⟩ := hh
   have hfa := plain_cnt h8 hp
   have hfx : ∀ b, fx b = 0 := by cases h5; assumption
   refine ⟨{ D with I := fun b => D.I b ∨ 1 ≤ fr b }, fun _ => 0, fx', a1, a2, a3, fun b hb => .inl (a4 b hb), fun b hb => ?_, fun b hb => ?_, a7, a8, ?_, ?_, fun b => (by have := a11 b; show fx' b + 0 ≤ 1; omega), fun b hb => ?_⟩
   ·rcases hb with hb | hb
    ·exact a5 b hb
    ·have := (a12 b (by omega)).2.1
     have := hfa b; have := hfx b
     right; omega
   ·rcases hb with hb | hb
    ·exact a6 b hb
    ·exact (a12 b (by omega)).2.2
   ·cases a9; constructor; assumption
   ·unfold Rep1 at a10 ⊢
    cases a10 with
    | tup hf h1 h2 => exact .tup (f1 := fun _ => 0) (f2 := fun _ => 0) (fun _ => rfl) (RepL.dn h1 (fun b hb => hb.imp id (fun h => by have := hf b; omega))) (.nil fun _ => rfl)
   ·have hb' : 1 ≤ fx' b + 0 := hb
    have h := a12 b (by omega)
    refine ⟨fun hi => hi.elim h.1 (fun h2 => ?_), h.2⟩
    have := a11 b
    omega
  | _ => exact hh
end Go.AM
namespace Go.Proofs.W
open Go Go.AM
variable (hm : Tryz.prog.follows .mixedOrders = true)
mutual
theorem items_pos : ∀ n, 1 ≤ (itemsN n).length
 | .mk t b ks => by rw [itemsN_mk, List.length_cons]; omega
theorem itemsL_len : ∀ ks, ks.length ≤ (itemsNL ks).length
 | [] => Nat.le_refl _
 | n :: r => by
  have h1 := items_pos n
  have h2 := itemsL_len r
  simp only [itemsNL, List.length_append, List.length_cons]; omega
end
mutual
theorem kidsOk_N : ∀ n, ∀ x ∈ itemsN n, 0 ≤ x.kids ∧ x.kids ≤ (itemsN n).length
 | .mk t b ks => by
  have h1 := itemsL_len ks
  rw [itemsN_mk, List.length_cons]
  intro x hx
  rcases List.mem_cons.mp hx with rfl | hx
  ·simp only; omega
  ·have := kidsOk_L ks x hx; omega
theorem kidsOk_L : ∀ ks, ∀ x ∈ itemsNL ks, 0 ≤ x.kids ∧ x.kids ≤ (itemsNL ks).length
 | [], x, hx => by simp [itemsNL] at hx
 | n :: r, x, hx => by
  simp only [itemsNL, List.length_append] at hx ⊢
  rcases List.mem_append.mp hx with hx | hx
  ·have := kidsOk_N n x hx; omega
  ·have := kidsOk_L r x hx; omega
end
theorem itemsL_get : ∀ (ks : List Nd) (i : Nat) (h : i < ks.length), (itemsN ks[i]).length ≤ (itemsNL ks).length
 | n :: r, 0, _ => by simp only [itemsNL, List.length_append, List.getElem_cons_zero]; omega
 | n :: r, i + 1, h => by
  have := itemsL_get r i (by simpa using h)
  simp only [itemsNL, List.length_append, List.getElem_cons_succ]; omega
mutual
def okB : Nd → Prop
 | .mk _ b ks => BytesOk b ∧ okBL ks
def okBL : List Nd → Prop
 | [] => True
 | n :: r => okB n ∧ okBL r
end
theorem okBL_map {α : Type} {f : α → Nd} (h : ∀ a, okB (f a)) : ∀ l : List α, okBL (l.map f)
 | [] => trivial
 | a :: l => ⟨h a, okBL_map h l⟩
theorem BytesOk.app {l m : List Int} (h1 : BytesOk l) (h2 : BytesOk m) : BytesOk (l ++ m) := fun x hx => (List.mem_append.mp hx).elim (h1 x) (h2 x)
theorem BytesOk.cons {x : Int} {l : List Int} (h1 : 0 ≤ x ∧ x < 256) (h2 : BytesOk l) : BytesOk (x :: l) := fun y hy => (List.mem_cons.mp hy).elim (fun e => e ▸ h1) (h2 y)
theorem BytesOk.nil : BytesOk [] := fun x hx => by simp at hx
theorem ib_rng (n : Int) : 0 ≤ ib n ∧ ib n < 256 := by
 unfold ib IntKind.wrap
 simp only [IntKind.bits, IntKind.signed]
 simp
 omega
theorem l7Len_ok (n : Nat) : BytesOk (l7Len n) := by
 unfold l7Len
 split
 ·exact .cons (ib_rng _) .nil
 split
 ·exact .cons (by omega) (.cons (ib_rng _) .nil)
 ·exact .cons (by omega) (.cons (ib_rng _) (.cons (ib_rng _) .nil))
mutual
theorem enc_ok : ∀ n, okB n → BytesOk (enc n)
 | .mk t b ks, h => by
  rw [enc]
  exact .cons (ib_rng _) ((l7Len_ok _).app (h.1.app (encL_ok ks h.2)))
theorem encL_ok : ∀ ks, okBL ks → BytesOk (encL ks)
 | [], _ => .nil
 | n :: r, h => (enc_ok n h.1).app (encL_ok r h.2)
end
theorem timeB_ok (t : Int) : BytesOk (timeB t) := by
 unfold timeB
 split <;> exact bytesI_ok _
theorem wB_ok {I : List ByteArray} {f t a : Int} {S G : List Int} (hG : BytesOk G) : BytesOk (wB I f t a S G) := by
 unfold wB
 split
 case isFalse => exact .nil
 unfold derB
 split
 case isFalse => exact .nil
 have := nestP_at (L := itemsN (treeC ⟨I, f, t, a, S, G⟩)) 13 0 (treeC ⟨I, f, t, a, S, G⟩) ⟨[], [], by simp, rfl⟩ (dep_tree _)
 have hi : itemsN (treeC ⟨I, f, t, a, S, G⟩) = treeW I f t a S G := items_W _ _ _ _ _ _
 rw [← hi, derN, this]
 refine enc_ok _ ⟨.nil, ⟨.nil, ⟨intB_ok _, trivial⟩, ⟨.nil, okBL_map (f := txtN 12) (fun s => ⟨bytesI_ok s, trivial⟩) _⟩, ⟨.nil, ⟨timeB_ok _, trivial⟩, ⟨timeB_ok _, trivial⟩, trivial⟩, ⟨.nil, okBL_map (f := intN) (fun s => ⟨intB_ok s, trivial⟩) _⟩, trivial⟩, ⟨.cons (by omega) hG, trivial⟩, trivial⟩
def crO (c : Cr) : A := crlO c.I c.f c.t c.a c.S c.G
def ansA (r : Option Cr) : A := match r with
 | some c => .tup [crO c, .v (.bool true)]
 | none => .tup [crlO [] 0 0 0 [] [], .v (.bool false)]
theorem goodN_kid {n : Nd} {i : Nat} (h : goodN n) : goodN (kidAt n i) := by
 obtain ⟨t, b, ks⟩ := n
 by_cases hi : i < ks.length
 ·have : kidAt (.mk t b ks) i = ks[i] := by simp [kidAt, kidsN, List.getD, hi]
  rw [this]; exact goodL_get hi h.2.2.2.2
 ·have : kidAt (.mk t b ks) i = .mk 0 [] [] := by simp [kidAt, kidsN, List.getD, hi]
  rw [this]; exact ⟨by decide, by decide, fun x hx => by simp at hx, by simp, trivial⟩
theorem items_kid (n : Nd) (i : Nat) : (itemsN (kidAt n i)).length ≤ (itemsN n).length := by
 obtain ⟨t, b, ks⟩ := n
 by_cases hi : i < ks.length
 ·have e : kidAt (.mk t b ks) i = ks[i] := by simp [kidAt, kidsN, List.getD, hi]
  rw [e, itemsN_mk, List.length_cons]
  have := itemsL_get ks i hi
  omega
 ·have e : kidAt (.mk t b ks) i = .mk 0 [] [] := by simp [kidAt, kidsN, List.getD, hi]
  rw [e]
  have := items_pos (.mk t b ks)
  simp [itemsN_mk, itemsNL]
theorem kids_le (n : Nd) : (kidsN n).length ≤ (itemsN n).length := by
 obtain ⟨t, b, ks⟩ := n
 have := itemsL_len ks
 rw [itemsN_mk, List.length_cons]; simp only [kidsN]; omega
theorem goodN_kids {n : Nd} (h : goodN n) : goodL (kidsN n) := by obtain ⟨t, b, ks⟩ := n; exact h.2.2.2.2
def irAnn : Ann := [(0, [0, 2, 10, 52, 53, 54])]
def irBy : Nat → AM.Mode := byM [3000004, 3000005, 3000009] (byL [] [])
def irS6 : Sched := .ld 0 (.ld 3 (.ld 7 (.ld 11 (.ld 15 (.alt 1 (.alt 2 (.alt 4 (.take 5 (.alt 6 (.alt 8 (.alt 9 (.alt 10 (.alt 12 (.alt 13 (.alt 14 (.alt 16 (.alt 17 (.alt 18 (.alt 19 (.alt 20 .fin .nil) .nil) (.alt 19 (.alt 18 (.alt 20 .fin .nil) .nil) .nil)) (.alt 19 (.alt 17 (.alt 18 (.alt 20 .fin .nil) .nil) .nil) .nil)) (.alt 19 (.alt 16 (.alt 17 (.alt 18 (.alt 20 .fin .nil) .nil) .nil) .nil) .nil)) (.alt 19 (.alt 14 (.alt 16 (.alt 17 (.alt 18 (.alt 20 .fin .nil) .nil) .nil) .nil) .nil) .nil)) (.alt 19 (.alt 13 (.alt 14 (.alt 16 (.alt 17 (.alt 18 (.alt 20 .fin .nil) .nil) .nil) .nil) .nil) .nil) .nil)) (.alt 19 (.alt 12 (.alt 13 (.alt 14 (.alt 16 (.alt 17 (.alt 18 (.alt 20 .fin .nil) .nil) .nil) .nil) .nil) .nil) .nil) .nil)) (.alt 19 (.alt 10 (.alt 12 (.alt 13 (.alt 14 (.alt 16 (.alt 17 (.alt 18 (.alt 20 .fin .nil) .nil) .nil) .nil) .nil) .nil) .nil) .nil) .nil)) (.alt 19 (.alt 9 (.alt 10 (.alt 12 (.alt 13 (.alt 14 (.alt 16 (.alt 17 (.alt 18 (.alt 20 .fin .nil) .nil) .nil) .nil) .nil) .nil) .nil) .nil) .nil) .nil)) (.alt 19 (.alt 8 (.alt 9 (.alt 10 (.alt 12 (.alt 13 (.alt 14 (.alt 16 (.alt 17 (.alt 18 (.alt 20 .fin .nil) .nil) .nil) .nil) .nil) .nil) .nil) .nil) .nil) .nil) .nil)) (.alt 19 (.alt 6 (.alt 8 (.alt 9 (.alt 10 (.alt 12 (.alt 13 (.alt 14 (.alt 16 (.alt 17 (.alt 18 (.alt 20 .fin .nil) .nil) .nil) .nil) .nil) .nil) .nil) .nil) .nil) .nil) .nil) .nil))) (.alt 19 (.alt 4 (.take 5 (.alt 6 (.alt 8 (.alt 9 (.alt 10 (.alt 12 (.alt 13 (.alt 14 (.alt 16 (.alt 17 (.alt 18 (.alt 20 .fin .nil) .nil) .nil) .nil) .nil) .nil) .nil) .nil) .nil) .nil) .nil)) .nil) .nil)) (.alt 19 (.alt 2 (.alt 4 (.take 5 (.alt 6 (.alt 8 (.alt 9 (.alt 10 (.alt 12 (.alt 13 (.alt 14 (.alt 16 (.alt 17 (.alt 18 (.alt 20 .fin .nil) .nil) .nil) .nil) .nil) .nil) .nil) .nil) .nil) .nil) .nil)) .nil) .nil) .nil)) (.alt 19 (.alt 1 (.alt 2 (.alt 4 (.take 5 (.alt 6 (.alt 8 (.alt 9 (.alt 10 (.alt 12 (.alt 13 (.alt 14 (.alt 16 (.alt 17 (.alt 18 (.alt 20 .fin .nil) .nil) .nil) .nil) .nil) .nil) .nil) .nil) .nil) .nil) .nil)) .nil) .nil) .nil) .nil))))))
def irRow (ks : List Nd) (k : Nat) : List A := ((ks.take k).map kidNum).map intA
theorem irRow_succ {ks : List Nd} {k : Nat} (h : k < ks.length) : irRow ks (k + 1) = irRow ks k ++ [.v (.int .i64 (numOf (bodyN ks[k])))] := by
 rw [irRow, List.take_add_one, List.getElem?_eq_getElem h, Option.toList_some, List.map_append, List.map_append]; rfl
theorem irRow_len {ks : List Nd} {k : Nat} (h : k ≤ ks.length) : (irRow ks k).length = k := by simp [irRow]; omega
theorem irRow_zero (ks : List Nd) : irRow ks 0 = [] := rfl
theorem irRow_all (ks : List Nd) : irRow ks ks.length = (ks.map kidNum).map intA := by rw [irRow, List.take_length]
def crBox : Blk := ⟨true, 6, true, [.agg [.v (.slice none 0 0), .v (.int .i64 0), .v (.int .i64 0), .v (.int .i64 0), .v (.slice none 0 0), .v (.slice none 0 0)]]⟩
def irSt (b : List Int) (I : List ByteArray) (f t a : Int) (G : List Int) (ks : List Nd) : Nat → St
 | 0 => ⟨[.sl .sh (b.map u8A), .any, .ref (.l 0) 0 0 1, .any, .any, .any, .any, .any, .any, .any, .ref (.l 1) 0 0 1, .any, .any, .any, .any, .any, .any, .any, .any, .any, .any, .any, .any, .any, .any, .any, .any, .any, .any, .any, .any, .any, .any, .any, .any, .any, .any, .any, .any, .any, .any, .any, .any, .any, .any, .any, .any, .any, .any, .any, .any, .any, .sl .sh (nodesS ks), .v (.int .i64 ks.length), .v (.int .i64 0), .any, .any, .any, .any, .any, .any, .any, .any, .any, .any, .any, .any, .any, .any, .any, .any, .any, .any, .any, .any, .any, .any, .any, .any, .any, .any], [(0, crBox), (1, ⟨true, 6, true, [.agg [.ms (.l 2) 0 I.length I.length, .v (.int .i64 f), .v (.int .i64 t), .v (.int .i64 a), .v (.slice none 0 0), .ms (.l 3) 0 G.length G.length]]⟩), (2, ⟨true, 1, false, I.map strA⟩), (3, ⟨true, 1, false, G.map u8A⟩)], []⟩
 | k + 1 => ⟨[.sl .sh (b.map u8A), .any, .ref (.l 0) 0 0 1, .any, .any, .any, .any, .any, .any, .any, .ref (.l 1) 0 0 1, .any, .any, .any, .any, .any, .any, .any, .any, .any, .any, .any, .any, .any, .any, .any, .any, .any, .any, .any, .any, .any, .any, .any, .any, .any, .any, .any, .any, .any, .any, .any, .any, .any, .any, .any, .any, .any, .any, .any, .any, .any, .sl .sh (nodesS ks), .v (.int .i64 ks.length), .v (.int .i64 ((k + 1 : Nat) : Int)), .any, .any, .any, .any, .any, .any, .any, .any, .any, .any, .any, .any, .any, .any, .any, .any, .any, .any, .any, .any, .any, .any, .any, .any, .any, .any], [(0, crBox), (1, ⟨true, 6, true, [.agg [.ms (.l 2) 0 I.length I.length, .v (.int .i64 f), .v (.int .i64 t), .v (.int .i64 a), .ms (.l 3) 0 (k + 1) (k + 1), .ms (.l 4) 0 G.length G.length]]⟩), (2, ⟨true, 1, false, I.map strA⟩), (3, ⟨true, 1, false, irRow ks (k + 1)⟩), (4, ⟨true, 1, false, G.map u8A⟩)], []⟩
def irS10 : Sched := .take 0 (.ld 2 (.alt 1 (.alt 3 (.alt 4 (.alt 5 (.take 6 (.alt 7 .fin .nil)) .nil) .nil) .nil) (.alt 3 (.alt 1 (.alt 4 (.alt 5 (.take 6 (.alt 7 .fin .nil)) .nil) .nil) (.alt 4 (.alt 1 (.alt 5 (.take 6 (.alt 7 .fin .nil)) .nil) .nil) .nil)) .nil)))
attribute [local go_sem] irS6 irS10 irBy
set_option maxRecDepth 10000 in
set_option maxHeartbeats 8000000 in
include hm in
theorem implReadCrl (b : List Int) (hb : BytesOk b) (hl : b.length ≤ 1048576) : Holds Tryz.prog 6 [.sl .sh (b.map u8A)] [] (ansA (rdImpl b)) [] := by
 have cd0 := iReadDer hm b hb (by omega)
 rw [doneA] at cd0
 have cd := Holds.dnT (by simp only [plainL, A.plain, pl_u8A, Sh.own, Bool.not_false, Bool.and_self, Bool.and_true]) cd0
 simp only [dnL, A.dn, dn_itemO] at cd
 refine holds_ref (ann := irAnn) tabOk hm irBy Tryz.func6 (by kernel_rfl) rfl ?_
 simp +decide (maxSteps := 9^7) only [↓reduceIte, Tryz.f6, go_sem]
 refine Runs.call cd ?_
 by_cases h0 : (derM b).2.1 = 0
 rotate_left 1
 ·have hr : rdImpl b = none := by rw [rdImpl, if_pos h0]
  have d0 : decide ((derM b).2.1 = 0) = false := by simpa using h0
  rw [hr]
  simp +decide (maxSteps := 9^7) only [↓reduceIte, d0, List.length_map, go_sem]
  exact Runs.ret (.tup (.agg (.nils _ (.same _ (.same _ (.same _ (.nils _ (.nils _ .nil)))))) (.same _ .nil)) .nil) rfl
 obtain ⟨n, e1, e2, e3, e4, e5⟩ := derM_tree hb h0
 have hr : rdImpl b = if wellC b (implP n) then some (implP n) else none := by rw [rdImpl, if_neg (by omega), e1, e5]
 have hk : kidsOk (itemsN n) := fun x hx => by have := kidsOk_N n x hx; omega
 have cn := nested hm (itemsN n) hk (by omega) 13 0 _ (endP_at 13 0 n ⟨[], [], by simp, rfl⟩ e2)
 have e6 : (nestP (itemsN n) 13 0).1 = n := e5
 have cn' := Holds.dnT (by simp [plainL, A.plain, Sh.own, plainL_map, itemS, u8A]) cn
 rw [e6] at cn'
 simp only [dnL, A.dn, dn_nodeM] at cn'
 rw [hr, e1]
 clear hr e6 cn
 have i0 := items_kid n 0
 have i1 := items_kid n 1
 have kn := kids_le n
 have ck := kid hm n 0 (by omega) (by omega)
 have cg := kid hm n 1 (by omega) (by omega)
 have g0 := goodN_kid (i := 0) e3
 have g1 := goodN_kid (i := 1) e3
 rw [implP]
 generalize kidAt n 0 = tbs at *
 generalize kidAt n 1 = nG at *
 have kt := kids_le tbs
 have cA := kid hm tbs 0 (by omega) (by omega)
 have cI := kid hm tbs 1 (by omega) (by omega)
 have cT := kid hm tbs 2 (by omega) (by omega)
 have cS := kid hm tbs 3 (by omega) (by omega)
 have gA := goodN_kid (i := 0) g0
 have gI := goodN_kid (i := 1) g0
 have gT := goodN_kid (i := 2) g0
 have gS := goodN_kid (i := 3) g0
 have iI := items_kid tbs 1
 have iT := items_kid tbs 2
 have iS := items_kid tbs 3
 generalize kidAt tbs 0 = nA at *
 generalize kidAt tbs 1 = nI at *
 generalize kidAt tbs 2 = nT at *
 generalize kidAt tbs 3 = nS at *
 have kI := kids_le nI
 have kT := kids_le nT
 have kS := kids_le nS
 have cF := kid hm nT 0 (by omega) (by omega)
 have cU := kid hm nT 1 (by omega) (by omega)
 have gF := goodN_kid (i := 0) gT
 have gU := goodN_kid (i := 1) gT
 generalize kidAt nT 0 = nF at *
 generalize kidAt nT 1 = nU at *
 have rA := intNode hm nA (goodN_body gA).1 (by have := (goodN_body gA).2; omega)
 have rI := readTexts hm (kidsN nI) 12 (goodN_kids gI) (by omega)
 have rF := readTimeNode hm nF gF
 have rU := readTimeNode hm nU gU
 have rG := behind hm nG (by have := (goodN_body g1).2; omega)
 have rS := fun (k : Nat) (h : k < (kidsN nS).length) => intNode hm (kidsN nS)[k] (goodN_body (goodL_get h (goodN_kids gS))).1 (by have := (goodN_body (goodL_get h (goodN_kids gS))).2; omega)
 have hI : (txs ((kidsN nI).filter (isT 12))).length ≤ 300 := by
  have := List.length_filter_le (isT 12) (kidsN nI)
  simp only [txs, List.length_map]; omega
 have hs : ∀ s ∈ txs ((kidsN nI).filter (isT 12)), s.size ≤ 9223372036854775807 := by
  intro s hs
  simp only [txs, List.mem_map, List.mem_filter] at hs
  obtain ⟨m, ⟨hm1, _⟩, rfl⟩ := hs
  obtain ⟨k, hk, rfl⟩ := List.getElem_of_mem hm1
  have := (goodN_body (goodL_get hk (goodN_kids gI))).2
  simp only [txB, ByteArray.size, List.size_toArray, List.length_map]; omega
 have hG : ((bodyN nG).drop 1).length ≤ 65536 := by have := (goodN_body g1).2; simp; omega
 have hGb : BytesOk ((bodyN nG).drop 1) := fun x hx => (goodN_body g1).1 x (List.mem_of_mem_drop hx)
 have wC := implWriteCrl hm (txs ((kidsN nI).filter (isT 12))) (kidTime nF) (kidTime nU) (kidNum nA) ((kidsN nS).map kidNum) ((bodyN nG).drop 1) (by omega) hs (by simp; omega)
 have wl := wB_le (txs ((kidsN nI).filter (isT 12))) (kidTime nF) (kidTime nU) (kidNum nA) ((kidsN nS).map kidNum) ((bodyN nG).drop 1)
 rw [wA] at wC
 have eA : numOf (bodyN nA) = kidNum nA := rfl
 have eF : (rdTime (txB (bodyN nF))).1 = kidTime nF := rfl
 have eU : (rdTime (txB (bodyN nU))).1 = kidTime nU := rfl
 rw [eA] at rA
 rw [eF] at rF
 rw [eU] at rU
 obtain ⟨R, hR⟩ : ∃ R, R = ansA (if wellC b (⟨txs ((kidsN nI).filter (isT 12)), kidTime nF, kidTime nU, kidNum nA, (kidsN nS).map kidNum, (bodyN nG).drop 1⟩ : Cr) then some (⟨txs ((kidsN nI).filter (isT 12)), kidTime nF, kidTime nU, kidNum nA, (kidsN nS).map kidNum, (bodyN nG).drop 1⟩ : Cr) else none) := ⟨_, rfl⟩
 have hR1 : wOk (txs ((kidsN nI).filter (isT 12))) (kidTime nF) (kidTime nU) (kidNum nA) ((kidsN nS).map kidNum) ((bodyN nG).drop 1) = true → wB (txs ((kidsN nI).filter (isT 12))) (kidTime nF) (kidTime nU) (kidNum nA) ((kidsN nS).map kidNum) ((bodyN nG).drop 1) = b → R = ansA (some (⟨txs ((kidsN nI).filter (isT 12)), kidTime nF, kidTime nU, kidNum nA, (kidsN nS).map kidNum, (bodyN nG).drop 1⟩ : Cr)) := fun h1 h2 => by rw [hR, if_pos (c := wellC b (⟨txs ((kidsN nI).filter (isT 12)), kidTime nF, kidTime nU, kidNum nA, (kidsN nS).map kidNum, (bodyN nG).drop 1⟩ : Cr)) ⟨h1, h2⟩]
 have hR0 : ¬ (wOk (txs ((kidsN nI).filter (isT 12))) (kidTime nF) (kidTime nU) (kidNum nA) ((kidsN nS).map kidNum) ((bodyN nG).drop 1) = true ∧ wB (txs ((kidsN nI).filter (isT 12))) (kidTime nF) (kidTime nU) (kidNum nA) ((kidsN nS).map kidNum) ((bodyN nG).drop 1) = b) → R = ansA none := fun h => by rw [hR, if_neg (c := wellC b (⟨txs ((kidsN nI).filter (isT 12)), kidTime nF, kidTime nU, kidNum nA, (kidsN nS).map kidNum, (bodyN nG).drop 1⟩ : Cr)) h]
 rw [← hR]
 clear hR
 generalize kidNum nA = a at *
 generalize kidTime nF = f at *
 generalize kidTime nU = t at *
 generalize txs ((kidsN nI).filter (isT 12)) = I at *
 generalize (bodyN nG).drop 1 = G at *
 clear eA eF eU gA gI gT gF gU
 obtain ⟨t0, b0, ks0⟩ := n
 obtain ⟨t1, b1, ks1⟩ := tbs
 obtain ⟨t2, b2, ks2⟩ := nG
 obtain ⟨t3, b3, ks3⟩ := nA
 obtain ⟨t4, b4, ks4⟩ := nI
 obtain ⟨t5, b5, ks5⟩ := nT
 obtain ⟨t6, b6, ks6⟩ := nF
 obtain ⟨t7, b7, ks7⟩ := nU
 obtain ⟨t8, b8, ks8⟩ := nS
 simp only [nodeS, kidsN, bodyN] at *
 simp +decide (maxSteps := 9^7) only [↓reduceIte, h0, List.length_map, go_sem]
 refine Runs.call cn' ?_
 simp +decide (maxSteps := 9^7) only [↓reduceIte, go_sem]
 refine Runs.call ck ?_
 simp +decide (maxSteps := 9^7) only [↓reduceIte, go_sem]
 refine Runs.draw (st1 := ?s1) (draws_ref (ann := irAnn) tabOk irBy irS6 (by kernel_rfl) ?p1) ?q1
 case p1 =>
  intro K r X hK
  simp +decide (maxSteps := 9^7) only [↓reduceIte, go_sem]
  repeat' (first
   | apply And.intro
   | exact hK
   | (refine Runs.call cA ?_; simp +decide (maxSteps := 9^7) only [↓reduceIte, go_sem])
   | (refine Runs.call rA ?_; simp +decide (maxSteps := 9^7) only [↓reduceIte, go_sem])
   | (refine Runs.call cI ?_; simp +decide (maxSteps := 9^7) only [↓reduceIte, go_sem])
   | (refine Runs.call rI ?_; simp +decide (maxSteps := 9^7) only [↓reduceIte, go_sem])
   | (refine Runs.call cT ?_; simp +decide (maxSteps := 9^7) only [↓reduceIte, go_sem])
   | (refine Runs.call cF ?_; simp +decide (maxSteps := 9^7) only [↓reduceIte, go_sem])
   | (refine Runs.call rF ?_; simp +decide (maxSteps := 9^7) only [↓reduceIte, go_sem])
   | (refine Runs.call cU ?_; simp +decide (maxSteps := 9^7) only [↓reduceIte, go_sem])
   | (refine Runs.call rU ?_; simp +decide (maxSteps := 9^7) only [↓reduceIte, go_sem])
   | (refine Runs.call cg ?_; simp +decide (maxSteps := 9^7) only [↓reduceIte, go_sem])
   | (refine Runs.call rG ?_; simp +decide (maxSteps := 9^7) only [↓reduceIte, go_sem])
   | fail)
 case q1 =>
  simp +decide (maxSteps := 9^7) only [↓reduceIte, go_sem]
  refine Runs.call cS ?_
  simp +decide (maxSteps := 9^7) only [↓reduceIte, nodesS_length, go_sem]
  refine Runs.while (α := Nat) (irSt b I f t a G ks8) (fun k => ks8.length - k) (fun k => k ≤ ks8.length) 0 (by omega) ?_ ?_
  ·simp [go_sem, irAnn, irSt, crBox]
  intro k hkk ih
  cases k with
  | zero =>
   simp +decide (maxSteps := 9^7) only [↓reduceIte, irSt, crBox, go_sem]
   refine Runs.split (fun h => ?_) (fun h => ?_)
   ·have hlt : 0 < ks8.length := by simp at h; omega
    have hg := nodesS_get hlt
    have rk := rS 0 hlt
    have hrow := irRow_succ hlt
    have hlen := irRow_len hkk
    have hnl := nodesS_length ks8
    have w1 : IntKind.i64.wrap ((0 : Int) + 1) = ((0 + 1 : Nat) : Int) := by decide
    have d1 : decide ((0 : Int) < (ks8.length : Int)) = true := decide_eq_true (by omega)
    have d2 : decide (0 + 1 ≤ 1073741824) = true := by decide
    generalize ks8[0] = x at *
    obtain ⟨t9, b9, ks9⟩ := x
    simp only [nodeS, bodyN] at hg rk hrow
    simp +decide (maxSteps := 9^7) only [↓reduceIte, hnl, hg, d1, Int.toNat_natCast, Int.toNat_zero, go_sem]
    refine Runs.draw (st1 := ?s2a) (draws_ref (ann := irAnn) tabOk irBy irS10 (by kernel_rfl) ?p2a) ?q2a
    case p2a =>
     intro K r X hK
     simp +decide (maxSteps := 9^7) only [↓reduceIte, go_sem]
     repeat' (first
      | apply And.intro
      | exact hK
      | (refine Runs.call rk ?_; simp +decide (maxSteps := 9^7) only [↓reduceIte, hlen, d2, go_sem])
      | fail)
    case q2a =>
     simp +decide (maxSteps := 9^7) only [↓reduceIte, w1, go_sem]
     refine ih (0 + 1) _ (by omega) (by omega) ?_
     simp [go_sem, irAnn, irSt, crBox, hrow, irRow_zero]
   ·have hz : ks8 = [] := by
     have : ¬ (0 : Int) < ks8.length := by simpa using h
     exact List.length_eq_zero_iff.mp (by omega)
    subst hz
    have htk := (rfl : List.length ([] : List A) = 0)
    simp only [List.map_nil] at wC wl hR1 hR0
    simp only [crlA, List.map_nil] at wC
    clear ih
    have hB := wB_ok (I := I) (f := f) (t := t) (a := a) (S := []) hGb
    generalize wB I f t a [] G = B at *
    generalize wOk I f t a [] G = ok at *
    simp +decide (maxSteps := 9^7) only [↓reduceIte, go_sem]
    refine Runs.call (Holds.le wC (.agg (.same _ (.same _ (.same _ (.same _ (.nils _ (.same _ .nil)))))) .nil)) ?_
    simp +decide (maxSteps := 9^7) only [↓reduceIte, htk, go_sem]
    cases ok with
    | false =>
     rw [hR0 (by simp), ansA]
     simp +decide (maxSteps := 9^7) only [↓reduceIte, go_sem]
     exact Runs.ret (.tup (.agg (.nils _ (.same _ (.same _ (.same _ (.nils _ (.nils _ .nil)))))) (.same _ .nil)) .nil) rfl
    | true =>
     simp +decide (maxSteps := 9^7) only [↓reduceIte, htk, go_sem]
     refine Runs.call (bytesEqual hm B b hB hb) ?_
     by_cases hq : B = b
     ·have dq : decide (B = b) = true := by simpa using hq
      rw [hR1 rfl hq, ansA]
      simp +decide (maxSteps := 9^7) only [↓reduceIte, dq, htk, crO, crlO, go_sem]
      exact Runs.ret (.tup (.agg (.same _ (.same _ (.same _ (.same _ (.nils _ (.same _ .nil)))))) (.same _ .nil)) .nil) rfl
     ·have dq : decide (B = b) = false := by simpa using hq
      rw [hR0 (by simpa using hq), ansA]
      simp +decide (maxSteps := 9^7) only [↓reduceIte, dq, htk, go_sem]
      exact Runs.ret (.tup (.agg (.nils _ (.same _ (.same _ (.same _ (.nils _ (.nils _ .nil)))))) (.same _ .nil)) .nil) rfl
  | succ k =>
   simp +decide (maxSteps := 9^7) only [↓reduceIte, irSt, crBox, go_sem]
   refine Runs.split (fun h => ?_) (fun h => ?_)
   ·have hlt : (k + 1) < ks8.length := by simp at h; omega
    have hg := nodesS_get hlt
    have rk := rS (k + 1) hlt
    have hrow := irRow_succ hlt
    have hlen := irRow_len hkk
    have hnl := nodesS_length ks8
    have w1 : IntKind.i64.wrap (((k + 1 : Nat) : Int) + 1) = (((k + 1) + 1 : Nat) : Int) := by rw [wrap_i64 (by omega) (by omega)]; rfl
    have d1 : decide (0 ≤ ((k + 1 : Nat) : Int) ∧ ((k + 1 : Nat) : Int) < (ks8.length : Int)) = true := decide_eq_true (by omega)
    have d2 : decide ((k + 1) + 1 ≤ 1073741824) = true := by simp; omega
    generalize ks8[(k + 1)] = x at *
    obtain ⟨t9, b9, ks9⟩ := x
    simp only [nodeS, bodyN] at hg rk hrow
    simp +decide (maxSteps := 9^7) only [↓reduceIte, hnl, hg, d1, Int.toNat_natCast, Int.toNat_zero, go_sem]
    refine Runs.draw (st1 := ?s2b) (draws_ref (ann := irAnn) tabOk irBy irS10 (by kernel_rfl) ?p2b) ?q2b
    case p2b =>
     intro K r X hK
     simp +decide (maxSteps := 9^7) only [↓reduceIte, go_sem]
     repeat' (first
      | apply And.intro
      | exact hK
      | (refine Runs.call rk ?_; simp +decide (maxSteps := 9^7) only [↓reduceIte, hlen, d2, go_sem])
      | fail)
    case q2b =>
     simp +decide (maxSteps := 9^7) only [↓reduceIte, w1, go_sem]
     refine ih ((k + 1) + 1) _ (by omega) (by omega) ?_
     simp [go_sem, irAnn, irSt, crBox, hrow, irRow_zero]
   ·have he : k + 1 = ks8.length := by have := decide_eq_false_iff_not.mp h; omega
    have hall : irRow ks8 (k + 1) = (ks8.map kidNum).map intA := by rw [he, irRow_all]
    have htk : List.take (k + 1) ((ks8.map kidNum).map intA) = (ks8.map kidNum).map intA := List.take_of_length_le (by simp; omega)
    have hln : ((ks8.map kidNum).map intA).length = k + 1 := by simp; omega
    simp only [crlA] at wC
    clear ih
    have hB := wB_ok (I := I) (f := f) (t := t) (a := a) (S := ks8.map kidNum) hGb
    generalize wB I f t a (ks8.map kidNum) G = B at *
    generalize wOk I f t a (ks8.map kidNum) G = ok at *
    rw [hall]
    simp +decide (maxSteps := 9^7) only [↓reduceIte, htk, hln, go_sem]
    refine Runs.call wC ?_
    simp +decide (maxSteps := 9^7) only [↓reduceIte, htk, hln, go_sem]
    cases ok with
    | false =>
     rw [hR0 (by simp), ansA]
     simp +decide (maxSteps := 9^7) only [↓reduceIte, go_sem]
     exact Runs.ret (.tup (.agg (.nils _ (.same _ (.same _ (.same _ (.nils _ (.nils _ .nil)))))) (.same _ .nil)) .nil) rfl
    | true =>
     simp +decide (maxSteps := 9^7) only [↓reduceIte, htk, hln, go_sem]
     refine Runs.call (bytesEqual hm B b hB hb) ?_
     by_cases hq : B = b
     ·have dq : decide (B = b) = true := by simpa using hq
      rw [hR1 rfl hq, ansA]
      simp +decide (maxSteps := 9^7) only [↓reduceIte, dq, htk, hln, crO, crlO, go_sem]
      exact Runs.ret_refl
     ·have dq : decide (B = b) = false := by simpa using hq
      rw [hR0 (by simpa using hq), ansA]
      simp +decide (maxSteps := 9^7) only [↓reduceIte, dq, htk, hln, go_sem]
      exact Runs.ret (.tup (.agg (.nils _ (.same _ (.same _ (.same _ (.nils _ (.nils _ .nil)))))) (.same _ .nil)) .nil) rfl
end Go.Proofs.W

namespace Go.AM
open Go
theorem Holds.dn1 {P : Program} {f : Nat} {bs : List A} {r : A} (hp : plainL bs = true) (h : Holds P f bs [] r []) : Holds P f bs [] r.dn [] where
 fn := h.fn
 calls C w xs fx fa h1 h2 h3 h4 h5 h6 h7 h8 := by
  refine Calls.mono (h.calls C w xs fx fa h1 h2 h3 h4 h5 h6 h7 h8) ?_
  intro e w' hh
  cases e with
  | returned v =>
   obtain ⟨D, fr, fx', a1, a2, a3, a4, a5, a6, a7, a8, a9, a10, a11, a12⟩ := hh
   have hfa := plain_cnt h8 hp
   have hfx : ∀ b, fx b = 0 := by cases h5; assumption
   refine ⟨{ D with I := fun b => D.I b ∨ 1 ≤ fr b }, fun _ => 0, fx', a1, a2, a3, fun b hb => .inl (a4 b hb), fun b hb => ?_, fun b hb => ?_, a7, a8, ?_, ?_, fun b => (by have := a11 b; show fx' b + 0 ≤ 1; omega), fun b hb => ?_⟩
   ·rcases hb with hb | hb
    ·exact a5 b hb
    ·have := (a12 b (by omega)).2.1
     have := hfa b; have := hfx b
     right; omega
   ·rcases hb with hb | hb
    ·exact a6 b hb
    ·exact (a12 b (by omega)).2.2
   ·cases a9; constructor; assumption
   ·unfold Rep1 at a10 ⊢
    exact RepL.dn a10 (fun b hb => hb.imp id id)
   ·have hb' : 1 ≤ fx' b + 0 := hb
    have h := a12 b (by omega)
    refine ⟨fun hi => hi.elim h.1 (fun h2 => ?_), h.2⟩
    have := a11 b
    omega
  | _ => exact hh
end Go.AM
namespace Go.Proofs.W
open Go Go.AM
variable (hm : Tryz.prog.follows .mixedOrders = true)
theorem tn2 : Int.toNat 2 = 2 := rfl
theorem tn3 : Int.toNat 3 = 3 := rfl
theorem kidsR_dn (q : Nat) (ks : List Nd) (k : Nat) : dnL (kidsR q ks k) = kidsR q ks k := by rw [kidsR, dnL_map]; rfl
include hm in
theorem l7KidsS (L : List It) (hk : kidsOk L) (hl : L.length ≤ 1000000) (p : Nat) (t : Int) (b : List Int) (ks : List Nd) (ha : AtP L p (.mk t b ks)) (hd : depL ks ≤ 13) :
  Holds Tryz.prog 13 [.sl .sh (L.map itemS), .v (.int .i64 p)] [] (.sl .sh (kidsR (p + 1) ks ks.length)) [] := by
 have h := Holds.dn1 (by simp [plainL, A.plain, Sh.own, plainL_map, itemS, u8A]) (l7Kids hm L hk hl p t b ks ha hd)
 rw [A.dn, kidsR_dn] at h
 exact h
def srAnn : Ann := [(0, [0, 2, 4, 5, 10, 12, 13])]
def srK : List Nat := [0, 2, 4, 5, 9, 10]
def srBy : Nat → AM.Mode := byJ [(16, srK)] (byL [] [])
def srS11 : Sched := .take 0 (.take 1 (.take 2 (.take 7 (.take 8 (.take 9 (.take 12 (.take 13 (.take 14 (.ld 3 (.take 4 (.ld 5 (.ld 10 (.ld 15 (.take 16 (.take 17 (.ld 18 (.alt 6 (.alt 11 (.alt 19 (.alt 20 (.alt 21 (.alt 22 (.alt 23 .fin .nil) .nil) (.alt 22 (.alt 21 (.alt 23 .fin .nil) .nil) .nil)) (.alt 22 (.alt 20 (.alt 21 (.alt 23 .fin .nil) .nil) .nil) .nil)) (.alt 22 (.alt 19 (.alt 20 (.alt 21 (.alt 23 .fin .nil) .nil) .nil) .nil) .nil)) (.alt 19 (.alt 11 (.alt 20 (.alt 21 (.alt 22 (.alt 23 .fin .nil) .nil) (.alt 22 (.alt 21 (.alt 23 .fin .nil) .nil) .nil)) (.alt 22 (.alt 20 (.alt 21 (.alt 23 .fin .nil) .nil) .nil) .nil)) (.alt 22 (.alt 11 (.alt 20 (.alt 21 (.alt 23 .fin .nil) .nil) .nil) .nil) .nil)) (.alt 22 (.alt 11 (.alt 19 (.alt 20 (.alt 21 (.alt 23 .fin .nil) .nil) .nil) .nil) (.alt 19 (.alt 11 (.alt 20 (.alt 21 (.alt 23 .fin .nil) .nil) .nil) .nil) .nil)) .nil))) (.alt 19 (.alt 6 (.alt 11 (.alt 20 (.alt 21 (.alt 22 (.alt 23 .fin .nil) .nil) (.alt 22 (.alt 21 (.alt 23 .fin .nil) .nil) .nil)) (.alt 22 (.alt 20 (.alt 21 (.alt 23 .fin .nil) .nil) .nil) .nil)) (.alt 22 (.alt 11 (.alt 20 (.alt 21 (.alt 23 .fin .nil) .nil) .nil) .nil) .nil)) (.alt 22 (.alt 6 (.alt 11 (.alt 20 (.alt 21 (.alt 23 .fin .nil) .nil) .nil) .nil) .nil) .nil)) (.alt 22 (.alt 6 (.alt 11 (.alt 19 (.alt 20 (.alt 21 (.alt 23 .fin .nil) .nil) .nil) .nil) (.alt 19 (.alt 11 (.alt 20 (.alt 21 (.alt 23 .fin .nil) .nil) .nil) .nil) .nil)) (.alt 19 (.alt 6 (.alt 11 (.alt 20 (.alt 21 (.alt 23 .fin .nil) .nil) .nil) .nil) .nil) .nil)) .nil)))))))))))))))))))
def srS20 : Sched := .take 0 (.take 2 (.take 3 (.take 4 (.take 5 (.ld 6 (.take 7 (.ld 8 (.alt 1 (.alt 9 (.alt 10 (.alt 11 (.take 12 (.alt 13 .fin .nil)) .nil) .nil) .nil) (.alt 9 (.alt 1 (.alt 10 (.alt 11 (.take 12 (.alt 13 .fin .nil)) .nil) .nil) (.alt 10 (.alt 1 (.alt 11 (.take 12 (.alt 13 .fin .nil)) .nil) .nil) .nil)) .nil)))))))))
attribute [local go_sem] srS11 srS20 srBy srK
def srMid (b : List Int) (L : List It) (I : List ByteArray) (f t a : Int) (G : List Int) (p2 p3 p4 p5 : Nat) : St := ⟨[.sl .sh (b.map u8A), .any, .ref (.l 0) 0 0 1, .any, .ref (.l 1) 0 0 1, .sl .sh (L.map itemS), .any, .any, .any, .sl .sh [.v (.int .i64 p2), .v (.int .i64 p3), .v (.int .i64 p4), .v (.int .i64 p5)], .ref (.l 2) 0 0 1, .any, .any, .any, .any, .any, .any, .any, .any, .any, .any, .any, .any, .any, .any, .any, .any, .any, .any, .any, .any, .any, .any, .any, .any, .any, .any, .any, .any, .any, .any, .any, .any, .any, .any, .any, .any, .any, .any, .any, .any, .any, .any, .any, .any, .any, .any, .any, .any, .any, .any, .any, .any, .any, .any, .any, .any, .any, .any, .any, .any, .any, .any, .any, .any, .any, .any, .any, .any, .any, .any, .any, .any, .any, .any, .any, .any, .any, .any, .any, .any, .any, .any, .any, .any, .any, .any, .any, .any, .any, .any, .any, .any, .any, .any, .any, .any, .any, .any, .any, .any, .any, .any, .any, .any, .any, .any, .any, .any, .any, .any, .any, .any, .any, .any, .any, .any, .any, .any, .any, .any, .any, .any, .any, .any, .any, .any, .any, .any, .any, .any, .any, .any, .any, .any, .any, .any], [(0, crBox), (1, crBox), (2, ⟨true, 6, true, [.agg [.ms (.l 3) 0 I.length I.length, .v (.int .i64 f), .v (.int .i64 t), .v (.int .i64 a), .v (.slice none 0 0), .ms (.l 4) 0 G.length G.length]]⟩), (3, ⟨true, 1, false, I.map strA⟩), (4, ⟨true, 1, false, G.map u8A⟩)], []⟩
def srSt (b : List Int) (L : List It) (I : List ByteArray) (f t a : Int) (G : List Int) (q : Nat) (ks : List Nd) : Nat → St
 | 0 => ⟨[.sl .sh (b.map u8A), .any, .ref (.l 0) 0 0 1, .any, .ref (.l 1) 0 0 1, .sl .sh (L.map itemS), .any, .any, .any, .any, .ref (.l 2) 0 0 1, .any, .sl .sh (kidsR q ks ks.length), .v (.int .i64 0), .any, .any, .any, .any, .any, .any, .any, .any, .any, .any, .any, .any, .any, .any, .any, .any, .any, .any, .any, .any, .any, .any, .any, .any, .any, .any, .any, .any, .any, .any, .any, .any, .any, .any, .any, .any, .any, .any, .any, .any, .any, .any, .any, .any, .any, .any, .any, .any, .any, .any, .any, .any, .any, .any, .any, .any, .any, .any, .any, .any, .any, .any, .any, .any, .any, .any, .any, .any, .any, .any, .any, .any, .any, .any, .any, .any, .any, .any, .any, .any, .any, .any, .any, .any, .any, .any, .any, .any, .any, .any, .any, .any, .any, .any, .any, .any, .any, .any, .any, .any, .any, .any, .any, .any, .any, .any, .any, .any, .any, .any, .any, .any, .any, .any, .any, .any, .any, .any, .any, .any, .any, .any, .any, .any, .any, .any, .any, .any, .any, .any, .any, .any, .any], [(0, crBox), (1, crBox), (2, ⟨true, 6, true, [.agg [.ms (.l 3) 0 I.length I.length, .v (.int .i64 f), .v (.int .i64 t), .v (.int .i64 a), .v (.slice none 0 0), .ms (.l 4) 0 G.length G.length]]⟩), (3, ⟨true, 1, false, I.map strA⟩), (4, ⟨true, 1, false, G.map u8A⟩)], []⟩
 | k + 1 => ⟨[.sl .sh (b.map u8A), .any, .ref (.l 0) 0 0 1, .any, .ref (.l 1) 0 0 1, .sl .sh (L.map itemS), .any, .any, .any, .any, .ref (.l 2) 0 0 1, .any, .sl .sh (kidsR q ks ks.length), .v (.int .i64 ((k + 1 : Nat) : Int)), .any, .any, .any, .any, .any, .any, .any, .any, .any, .any, .any, .any, .any, .any, .any, .any, .any, .any, .any, .any, .any, .any, .any, .any, .any, .any, .any, .any, .any, .any, .any, .any, .any, .any, .any, .any, .any, .any, .any, .any, .any, .any, .any, .any, .any, .any, .any, .any, .any, .any, .any, .any, .any, .any, .any, .any, .any, .any, .any, .any, .any, .any, .any, .any, .any, .any, .any, .any, .any, .any, .any, .any, .any, .any, .any, .any, .any, .any, .any, .any, .any, .any, .any, .any, .any, .any, .any, .any, .any, .any, .any, .any, .any, .any, .any, .any, .any, .any, .any, .any, .any, .any, .any, .any, .any, .any, .any, .any, .any, .any, .any, .any, .any, .any, .any, .any, .any, .any, .any, .any, .any, .any, .any, .any, .any, .any, .any, .any, .any, .any, .any, .any, .any], [(0, crBox), (1, crBox), (2, ⟨true, 6, true, [.agg [.ms (.l 3) 0 I.length I.length, .v (.int .i64 f), .v (.int .i64 t), .v (.int .i64 a), .ms (.l 4) 0 (k + 1) (k + 1), .ms (.l 5) 0 G.length G.length]]⟩), (3, ⟨true, 1, false, I.map strA⟩), (4, ⟨true, 1, false, irRow ks (k + 1)⟩), (5, ⟨true, 1, false, G.map u8A⟩)], []⟩
set_option maxRecDepth 10000 in
set_option maxHeartbeats 8000000 in
include hm in
theorem specReadCrl (b : List Int) (hb : BytesOk b) (hl : b.length ≤ 1048576) : Holds Tryz.prog 4 [.sl .sh (b.map u8A)] [] (ansA (rdSpec b)) [] := by
 have cd0 := sReadDer hm b hb (by omega)
 rw [doneA] at cd0
 have cd := Holds.dnT (by simp only [plainL, A.plain, pl_u8A, Sh.own, Bool.not_false, Bool.and_self, Bool.and_true]) cd0
 simp only [dnL, A.dn, dn_itemO] at cd
 refine holds_ref (ann := srAnn) tabOk hm srBy Tryz.func4 (by kernel_rfl) rfl ?_
 simp +decide (maxSteps := 9^7) only [↓reduceIte, Tryz.f4, go_sem]
 refine Runs.call cd ?_
 have hz : ∀ {x : List Blk}, LeD [.tup [.agg [.v (.slice none 0 0), .v (.int .i64 0), .v (.int .i64 0), .v (.int .i64 0), .v (.slice none 0 0), .v (.slice none 0 0)], .v (.bool false)]] [ansA none] := fun {x} => .tup (.agg (.nils _ (.same _ (.same _ (.same _ (.nils _ (.nils _ .nil)))))) (.same _ .nil)) .nil
 by_cases h0 : (derM b).2.1 = 0
 rotate_left 1
 ·have hr : rdSpec b = none := by rw [rdSpec, if_pos h0]
  have d0 : decide ((derM b).2.1 = 0) = false := by simpa using h0
  rw [hr]
  simp +decide (maxSteps := 9^7) only [↓reduceIte, d0, List.length_map, go_sem]
  exact Runs.ret (hz (x := [])) rfl
 obtain ⟨n, e1, e2, e3, e4, e5⟩ := derM_tree hb h0
 have hr : rdSpec b = match specP n with | none => none | some c => if wellC b c then some c else none := by rw [rdSpec, if_neg (by omega), e1, e5] <;> rfl
 have hk : kidsOk (itemsN n) := fun x hx => by have := kidsOk_N n x hx; omega
 have hA0 : AtP (itemsN n) 0 n := ⟨[], [], by simp, rfl⟩
 rw [hr, e1]
 clear hr e5
 have hll : (itemsN n).length ≤ 300 := e4
 have kn := kids_le n
 generalize itemsN n = L at *
 obtain ⟨t0, b0, ks0⟩ := n
 have hlen : (L.map itemS).length = L.length := List.length_map _
 have hK0 := hA0.head.2
 have hd0 : depL ks0 ≤ 12 := by simp only [depN] at e2; omega
 simp only [kidsN] at kn
 by_cases h2 : ks0.length = 2
 rotate_left 1
 ·have hs : specP (.mk t0 b0 ks0) = none := by rw [specP, if_pos (.inl h2)]
  have ct := l7KidsS hm L hk (by omega) 0 t0 b0 ks0 hA0 (by omega)
  have d2 : decide ((ks0.length : Int) = 2) = false := by simp; omega
  rw [hs]
  simp +decide (maxSteps := 9^7) only [↓reduceIte, h0, go_sem]
  refine Runs.call ct ?_
  simp +decide (maxSteps := 9^7) only [↓reduceIte, kidsR_len, d2, go_sem]
  exact Runs.ret (hz (x := [])) rfl
 obtain ⟨n0, n1, rfl⟩ : ∃ n0 n1, ks0 = [n0, n1] := by
  match ks0, h2 with
  | [x, y], _ => exact ⟨x, y, rfl⟩
 have ct : Holds _ _ _ _ (.sl .sh [.v (.int .i64 ((kidP (0 + 1) [n0, n1] 0 : Nat) : Int)), .v (.int .i64 ((kidP (0 + 1) [n0, n1] 1 : Nat) : Int))]) _ := l7KidsS hm L hk (by omega) 0 t0 b0 [n0, n1] hA0 (by omega)
 have hP0 : AtP L _ n0 := kidP_at hK0 (k := 0) (by simp)
 have hP1 : AtP L _ n1 := kidP_at hK0 (k := 1) (by simp)
 have g0 : goodN n0 := e3.2.2.2.2.1
 have g1 : goodN n1 := e3.2.2.2.2.2.1
 have hd1 : depN n0 ≤ 12 := by simp only [depL] at hd0; omega
 generalize kidP (0 + 1) [n0, n1] 0 = p0 at *
 generalize kidP (0 + 1) [n0, n1] 1 = p1 at *
 have l0 := hP0.lt
 have l1 := hP1.lt
 have rp1 : decide (0 ≤ (p1 : Int) ∧ (p1 : Int) < (L.length : Int)) = true := decide_eq_true (by omega)
 obtain ⟨t1, b1, ks1⟩ := n0
 obtain ⟨t2, b2, ks2⟩ := n1
 have q1 := hP1.item
 have hK1 := hP0.head.2
 have hd2 : depL ks1 ≤ 11 := by simp only [depN] at hd1; omega
 simp +decide (maxSteps := 9^7) only [↓reduceIte, h0, go_sem]
 refine Runs.call ct ?_
 by_cases h3 : b2 = []
 ·subst h3
  have hs : specP (.mk t0 b0 [.mk t1 b1 ks1, .mk t2 [] ks2]) = none := by rw [specP, if_pos (.inr rfl)]
  rw [hs]
  simp +decide (maxSteps := 9^7) only [↓reduceIte, hlen, q1, rp1, Int.toNat_natCast, Int.toNat_zero, Int.toNat_one, tn2, tn3, go_sem]
  exact Runs.ret (hz (x := [])) rfl
 have h3' : 0 < b2.length := List.length_pos_iff.mpr h3
 have d3 : decide ((b2.length : Int) = 0) = false := by simp; exact h3
 simp +decide (maxSteps := 9^7) only [↓reduceIte, hlen, q1, rp1, Int.toNat_natCast, Int.toNat_zero, Int.toNat_one, tn2, tn3, d3, go_sem]
 by_cases h4 : ks1.length = 4
 rotate_left 1
 ·have hs : specP (.mk t0 b0 [.mk t1 b1 ks1, .mk t2 b2 ks2]) = none := by rw [specP, if_neg (by rintro (h | h); exact h rfl; exact h3 h)]; exact if_pos h4
  have cu := l7KidsS hm L hk (by omega) p0 t1 b1 ks1 hP0 (by omega)
  have d4 : decide ((ks1.length : Int) = 4) = false := by simp; omega
  rw [hs]
  refine Runs.call cu ?_
  simp +decide (maxSteps := 9^7) only [↓reduceIte, kidsR_len, d4, Int.toNat_zero, go_sem]
  exact Runs.ret (hz (x := [])) rfl
 obtain ⟨nA, nI, nT, nS, rfl⟩ : ∃ nA nI nT nS, ks1 = [nA, nI, nT, nS] := by
  match ks1, h4 with
  | [x, y, z, w], _ => exact ⟨x, y, z, w, rfl⟩
 have cu : Holds _ _ _ _ (.sl .sh [.v (.int .i64 ((kidP (p0 + 1) [nA, nI, nT, nS] 0 : Nat) : Int)), .v (.int .i64 ((kidP (p0 + 1) [nA, nI, nT, nS] 1 : Nat) : Int)), .v (.int .i64 ((kidP (p0 + 1) [nA, nI, nT, nS] 2 : Nat) : Int)), .v (.int .i64 ((kidP (p0 + 1) [nA, nI, nT, nS] 3 : Nat) : Int))]) _ := l7KidsS hm L hk (by omega) p0 t1 b1 [nA, nI, nT, nS] hP0 (by omega)
 have hPA : AtP L _ nA := kidP_at hK1 (k := 0) (by simp)
 have hPI : AtP L _ nI := kidP_at hK1 (k := 1) (by simp)
 have hPT : AtP L _ nT := kidP_at hK1 (k := 2) (by simp)
 have hPS : AtP L _ nS := kidP_at hK1 (k := 3) (by simp)
 generalize kidP (p0 + 1) [nA, nI, nT, nS] 0 = p2 at *
 generalize kidP (p0 + 1) [nA, nI, nT, nS] 1 = p3 at *
 generalize kidP (p0 + 1) [nA, nI, nT, nS] 2 = p4 at *
 generalize kidP (p0 + 1) [nA, nI, nT, nS] 3 = p5 at *
 have l2 := hPA.lt
 have l3 := hPI.lt
 have l4 := hPT.lt
 have l5 := hPS.lt
 have rp2 : decide (0 ≤ (p2 : Int) ∧ (p2 : Int) < (L.length : Int)) = true := decide_eq_true (by omega)
 obtain ⟨t3, b3, ks3⟩ := nA
 obtain ⟨t4, b4, ks4⟩ := nI
 obtain ⟨t5, b5, ks5⟩ := nT
 obtain ⟨t8, b8, ks8⟩ := nS
 have q2 := hPA.item
 have hKT := hPT.head.2
 have hKS := hPS.head.2
 have hdI : depL ks4 ≤ 10 := by simp only [depL, depN] at hd2; omega
 have hdT : depL ks5 ≤ 10 := by simp only [depL, depN] at hd2; omega
 have hdS : depL ks8 ≤ 10 := by simp only [depL, depN] at hd2; omega
 obtain ⟨gA, gI, gT, gS, _⟩ := g0.2.2.2.2
 have kI : ks4.length ≤ 300 := by have := hk _ (List.mem_of_getElem? hPI.head.1); simp only at this; omega
 have kS : ks8.length ≤ 300 := by have := hk _ (List.mem_of_getElem? hPS.head.1); simp only at this; omega
 have rA := l10Num hm ⟨t3, b3, ks3.length⟩ (goodN_body gA).1 (by have := (goodN_body gA).2; simp only [bodyN] at this; show b3.length ≤ _; omega)
 have rI := l10ReadTexts hm L hk (by omega) p3 t4 b4 ks4 hPI (by omega) (goodN_kids gI)
 have rG := l1Bytes hm (b2.drop 1) (by have := (goodN_body g1).2; simp only [bodyN] at this; simp; omega)
 have cS := l7KidsS hm L hk (by omega) p5 t8 b8 ks8 hPS (by omega)
 have cT := l7KidsS hm L hk (by omega) p4 t5 b5 ks5 hPT (by omega)
 have hGb : BytesOk (b2.drop 1) := fun x hx => (goodN_body g1).1 x (List.mem_of_mem_drop hx)
 have hG : (b2.drop 1).length ≤ 65536 := by have := (goodN_body g1).2; simp only [bodyN] at this; simp; omega
 have hI : (txs ks4).length ≤ 300 := by simp only [txs, List.length_map]; omega
 have hs : ∀ s ∈ txs ks4, s.size ≤ 9223372036854775807 := by
  intro s hs
  simp only [txs, List.mem_map] at hs
  obtain ⟨m, hm1, rfl⟩ := hs
  obtain ⟨k, hk, rfl⟩ := List.getElem_of_mem hm1
  have := (goodN_body (goodL_get hk (goodN_kids gI))).2
  simp only [txB, ByteArray.size, List.size_toArray, List.length_map]; omega
 obtain ⟨f, hf⟩ : ∃ f, f = if ks5.length = 2 then kidTime (kidAt (.mk t5 b5 ks5) 0) else 0 := ⟨_, rfl⟩
 obtain ⟨t, ht⟩ : ∃ t, t = if ks5.length = 2 then kidTime (kidAt (.mk t5 b5 ks5) 1) else 0 := ⟨_, rfl⟩
 have hsp : specP (.mk t0 b0 [.mk t1 b1 [.mk t3 b3 ks3, .mk t4 b4 ks4, .mk t5 b5 ks5, .mk t8 b8 ks8], .mk t2 b2 ks2]) = some ⟨txs ks4, f, t, numOf b3, ks8.map kidNum, b2.drop 1⟩ := by
  rw [specP, if_neg (by rintro (h | h); exact h rfl; exact h3 h), if_neg (by simp [kidAt, kidsN]), hf, ht]; rfl
 have wC := specWriteCrl hm (txs ks4) f t (numOf b3) (ks8.map kidNum) (b2.drop 1) (by omega) hs (by simp; omega)
 have wl := wB_le (txs ks4) f t (numOf b3) (ks8.map kidNum) (b2.drop 1)
 rw [wA] at wC
 rw [hsp]
 simp only
 obtain ⟨R, hR⟩ : ∃ R, R = ansA (if wellC b ⟨txs ks4, f, t, numOf b3, ks8.map kidNum, b2.drop 1⟩ then some ⟨txs ks4, f, t, numOf b3, ks8.map kidNum, b2.drop 1⟩ else none) := ⟨_, rfl⟩
 have hR1 : wOk (txs ks4) f t (numOf b3) (ks8.map kidNum) (b2.drop 1) = true → wB (txs ks4) f t (numOf b3) (ks8.map kidNum) (b2.drop 1) = b → R = ansA (some ⟨txs ks4, f, t, numOf b3, ks8.map kidNum, b2.drop 1⟩) := fun h1 h2 => by rw [hR, if_pos (c := wellC b ⟨txs ks4, f, t, numOf b3, ks8.map kidNum, b2.drop 1⟩) ⟨h1, h2⟩]
 have hR0 : ¬ (wOk (txs ks4) f t (numOf b3) (ks8.map kidNum) (b2.drop 1) = true ∧ wB (txs ks4) f t (numOf b3) (ks8.map kidNum) (b2.drop 1) = b) → R = ansA none := fun h => by rw [hR, if_neg (c := wellC b ⟨txs ks4, f, t, numOf b3, ks8.map kidNum, b2.drop 1⟩) h]
 rw [← hR]
 clear hR hsp
 rw [itemS] at rA
 simp only at rA
 generalize numOf b3 = a at *
 generalize txs ks4 = I at *
 have dG : 1 ≤ (b2.map u8A).length := by simp; omega
 have hbl : (b2.map u8A).length = b2.length := List.length_map _
 have cG : decide ((1 : Int) ≤ (b2.length : Int) ∧ (b2.length : Int) ≤ (b2.length : Int)) = true := decide_eq_true (by omega)
 have eG : List.drop 1 (List.map u8A b2) = (b2.drop 1).map u8A := List.map_drop.symm
 refine Runs.call cu ?_
 simp +decide (maxSteps := 9^7) only [↓reduceIte, hlen, Int.toNat_zero, go_sem]
 refine Runs.draw (st1 := ?s1) (draws_ref (ann := srAnn) tabOk srBy srS11 (by kernel_rfl) ?p1) ?q1
 case p1 =>
  intro K r X hK
  simp +decide (maxSteps := 9^7) only [↓reduceIte, hlen, q1, q2, rp1, rp2, Int.toNat_natCast, Int.toNat_zero, Int.toNat_one, tn2, tn3, hbl, cG, eG, go_sem]
  repeat' (first
   | apply And.intro
   | exact hK
   | (refine Runs.call rA ?_; simp +decide (maxSteps := 9^7) only [↓reduceIte, hlen, q1, q2, rp1, rp2, Int.toNat_natCast, Int.toNat_zero, Int.toNat_one, tn2, tn3, hbl, cG, eG, go_sem])
   | (refine Runs.call rI ?_; simp +decide (maxSteps := 9^7) only [↓reduceIte, hlen, q1, q2, rp1, rp2, Int.toNat_natCast, Int.toNat_zero, Int.toNat_one, tn2, tn3, hbl, cG, eG, go_sem])
   | (refine Runs.call rG ?_; simp +decide (maxSteps := 9^7) only [↓reduceIte, hlen, q1, q2, rp1, rp2, Int.toNat_natCast, Int.toNat_zero, Int.toNat_one, tn2, tn3, hbl, cG, eG, go_sem])
   | fail)
 case q1 =>
  simp +decide (maxSteps := 9^7) only [↓reduceIte, Int.toNat_zero, tn2, tn3, go_sem]
  refine Runs.call cT ?_
  simp +decide (maxSteps := 9^7) only [↓reduceIte, kidsR_len, go_sem]
  refine Runs.meet (α := Unit) (keep := srK) (kj := ?kj) (fun _ => srMid b L I f t a (b2.drop 1) p2 p3 p4 p5) ?tail ?h1 ?h2
  case h1 =>
   intro J e
   have e' : ks5.length = 2 := by simp at e; omega
   obtain ⟨nF, nU, rfl⟩ : ∃ nF nU, ks5 = [nF, nU] := by
    match ks5, e' with
    | [x, y], _ => exact ⟨x, y, rfl⟩
   rw [if_pos e'] at hf ht
   have hPF : AtP L _ nF := kidP_at hKT (k := 0) (by simp)
   have hPU : AtP L _ nU := kidP_at hKT (k := 1) (by simp)
   have er : kidsR (p4 + 1) [nF, nU] 2 = [.v (.int .i64 ((kidP (p4 + 1) [nF, nU] 0 : Nat) : Int)), .v (.int .i64 ((kidP (p4 + 1) [nF, nU] 1 : Nat) : Int))] := rfl
   generalize kidP (p4 + 1) [nF, nU] 0 = p6 at *
   generalize kidP (p4 + 1) [nF, nU] 1 = p7 at *
   have l6 := hPF.lt
   have l7 := hPU.lt
   obtain ⟨gF, gU, _⟩ := goodN_kids gT
   obtain ⟨t6, b6, ks6⟩ := nF
   obtain ⟨t7, b7, ks7⟩ := nU
   have q6 := hPF.item
   have q7 := hPU.item
   have rp6 : decide (0 ≤ (p6 : Int) ∧ (p6 : Int) < (L.length : Int)) = true := decide_eq_true (by omega)
   have rp7 : decide (0 ≤ (p7 : Int) ∧ (p7 : Int) < (L.length : Int)) = true := decide_eq_true (by omega)
   have a6 := all_bytes (goodN_body gF).1
   have a7 := all_bytes (goodN_body gU).1
   have s6 : (txB b6).size ≤ 1048576 := by have := (goodN_body gF).2; simp only [bodyN] at this; simp only [txB, ByteArray.size, List.size_toArray, List.length_map]; omega
   have s7 : (txB b7).size ≤ 1048576 := by have := (goodN_body gU).2; simp only [bodyN] at this; simp only [txB, ByteArray.size, List.size_toArray, List.length_map]; omega
   have cF := sReadTime hm (txB b6) s6
   have cU := sReadTime hm (txB b7) s7
   have ef : (rdTime (txB b6)).1 = f := hf.symm
   have et : (rdTime (txB b7)).1 = t := ht.symm
   rw [ef] at cF
   rw [et] at cU
   simp only [bodyN] at a6 a7
   have hl2 : ([Nd.mk t6 b6 ks6, Nd.mk t7 b7 ks7] : List Nd).length = 2 := rfl
   rw [hl2]
   simp +decide (maxSteps := 9^7) only [↓reduceIte, er, hlen, q6, q7, rp6, rp7, Int.toNat_natCast, Int.toNat_zero, Int.toNat_one, a6, a7, txB_eq, go_sem]
   refine Runs.call cF ?_
   simp +decide (maxSteps := 9^7) only [↓reduceIte, hlen, q6, q7, rp6, rp7, Int.toNat_natCast, Int.toNat_zero, Int.toNat_one, a6, a7, txB_eq, go_sem]
   refine Runs.call cU ?_
   simp +decide (maxSteps := 9^7) only [↓reduceIte, go_sem]
   refine J () _ ?_
   simp [go_sem, srMid, crBox, srK]
  case h2 =>
   intro J e
   refine J () _ ?_
   simp at e
   have e' : ¬ ks5.length = 2 := by omega
   rw [if_neg e'] at hf ht
   subst hf
   subst ht
   simp [go_sem, srMid, crBox, srK]
  case tail =>
  intro _
  clear hf ht
  simp +decide (maxSteps := 9^7) only [↓reduceIte, srMid, crBox, tn3, go_sem]
  refine Runs.call cS ?_
  simp +decide (maxSteps := 9^7) only [↓reduceIte, go_sem]
  generalize b2.drop 1 = G at *
  refine Runs.while (α := Nat) (srSt b L I f t a G (p5 + 1) ks8) (fun k => ks8.length - k) (fun k => k ≤ ks8.length) 0 (by omega) ?_ ?_
  ·simp [go_sem, srAnn, srSt, crBox]
  intro k hkk ih
  cases k with
  | zero =>
   simp +decide (maxSteps := 9^7) only [↓reduceIte, srSt, crBox, kidsR_len, go_sem]
   refine Runs.split (fun h => ?_) (fun h => ?_)
   ·have hlt : 0 < ks8.length := by simp at h; omega
    have hat := kidP_at hKS hlt
    have lk := hat.lt
    have kg := kidsR_get (p5 + 1) ks8 hlt
    have gk := goodL_get hlt (goodN_kids gS)
    have hrow := irRow_succ hlt
    have hlen2 := irRow_len hkk
    have kl := kidsR_len (p5 + 1) ks8 ks8.length
    have w1 : IntKind.i64.wrap ((0 : Int) + 1) = ((0 + 1 : Nat) : Int) := by decide
    have d1 : decide ((0 : Int) < (ks8.length : Int)) = true := decide_eq_true (by omega)
    have d2 : decide (0 + 1 ≤ 1073741824) = true := decide_eq_true (by omega)
    have rk := decide_eq_true (show 0 ≤ ((kidP (p5 + 1) ks8 0 : Nat) : Int) ∧ ((kidP (p5 + 1) ks8 0 : Nat) : Int) < (L.length : Int) by omega)
    generalize kidP (p5 + 1) ks8 0 = pk at *
    generalize ks8[0] = x at *
    obtain ⟨t9, b9, ks9⟩ := x
    have qk := hat.item
    have rN := l10Num hm ⟨t9, b9, ks9.length⟩ (goodN_body gk).1 (by have := (goodN_body gk).2; simp only [bodyN] at this; show b9.length ≤ _; omega)
    rw [itemS] at rN
    simp only [bodyN] at hrow rN
    simp +decide (maxSteps := 9^7) only [↓reduceIte, go_sem]
    refine Runs.draw (st1 := ?s2a) (draws_ref (ann := srAnn) tabOk srBy srS20 (by kernel_rfl) ?p2a) ?q2a
    case p2a =>
     intro K r X hK
     simp +decide (maxSteps := 9^7) only [↓reduceIte, kl, kg, d1, rk, hlen, qk, Int.toNat_natCast, Int.toNat_zero, go_sem]
     repeat' (first
      | apply And.intro
      | exact hK
      | (refine Runs.call rN ?_; simp +decide (maxSteps := 9^7) only [↓reduceIte, hlen2, d2, go_sem])
      | fail)
    case q2a =>
     simp +decide (maxSteps := 9^7) only [↓reduceIte, w1, go_sem]
     refine ih (0 + 1) _ (by omega) (by omega) ?_
     simp [go_sem, srAnn, srSt, crBox, hrow, irRow_zero]
   ·have hz8 : ks8 = [] := by
     have : ¬ (0 : Int) < ks8.length := by simpa using h
     exact List.length_eq_zero_iff.mp (by omega)
    subst hz8
    have htk := (rfl : List.length ([] : List A) = 0)
    simp only [List.map_nil] at wC wl hR1 hR0
    simp only [crlA, List.map_nil] at wC
    clear ih
    have hB := wB_ok (I := I) (f := f) (t := t) (a := a) (S := []) hGb
    generalize wB I f t a [] G = B at *
    generalize wOk I f t a [] G = ok at *
    simp +decide (maxSteps := 9^7) only [↓reduceIte, go_sem]
    refine Runs.call (Holds.le wC (.agg (.same _ (.same _ (.same _ (.same _ (.nils _ (.same _ .nil)))))) .nil)) ?_
    simp +decide (maxSteps := 9^7) only [↓reduceIte, htk, go_sem]
    cases ok with
    | false =>
     rw [hR0 (by simp), ansA]
     simp +decide (maxSteps := 9^7) only [↓reduceIte, go_sem]
     exact Runs.ret (.tup (.agg (.nils _ (.same _ (.same _ (.same _ (.nils _ (.nils _ .nil)))))) (.same _ .nil)) .nil) rfl
    | true =>
     simp +decide (maxSteps := 9^7) only [↓reduceIte, htk, go_sem]
     refine Runs.call (l1Same hm B b hB hb) ?_
     by_cases hq : B = b
     ·have dq : decide (B = b) = true := by simpa using hq
      rw [hR1 rfl hq, ansA]
      simp +decide (maxSteps := 9^7) only [↓reduceIte, dq, htk, crO, crlO, go_sem]
      exact Runs.ret (.tup (.agg (.same _ (.same _ (.same _ (.same _ (.nils _ (.same _ .nil)))))) (.same _ .nil)) .nil) rfl
     ·have dq : decide (B = b) = false := by simpa using hq
      rw [hR0 (by simpa using hq), ansA]
      simp +decide (maxSteps := 9^7) only [↓reduceIte, dq, htk, go_sem]
      exact Runs.ret (.tup (.agg (.nils _ (.same _ (.same _ (.same _ (.nils _ (.nils _ .nil)))))) (.same _ .nil)) .nil) rfl
  | succ k =>
   simp +decide (maxSteps := 9^7) only [↓reduceIte, srSt, crBox, kidsR_len, go_sem]
   refine Runs.split (fun h => ?_) (fun h => ?_)
   ·have hlt : (k + 1) < ks8.length := by simp at h; omega
    have hat := kidP_at hKS hlt
    have lk := hat.lt
    have kg := kidsR_get (p5 + 1) ks8 hlt
    have gk := goodL_get hlt (goodN_kids gS)
    have hrow := irRow_succ hlt
    have hlen2 := irRow_len hkk
    have kl := kidsR_len (p5 + 1) ks8 ks8.length
    have w1 : IntKind.i64.wrap (((k + 1 : Nat) : Int) + 1) = (((k + 1) + 1 : Nat) : Int) := by rw [wrap_i64 (by omega) (by omega)]; rfl
    have d1 : decide (0 ≤ ((k + 1 : Nat) : Int) ∧ ((k + 1 : Nat) : Int) < (ks8.length : Int)) = true := decide_eq_true (by omega)
    have d2 : decide ((k + 1) + 1 ≤ 1073741824) = true := decide_eq_true (by omega)
    have rk := decide_eq_true (show 0 ≤ ((kidP (p5 + 1) ks8 (k + 1) : Nat) : Int) ∧ ((kidP (p5 + 1) ks8 (k + 1) : Nat) : Int) < (L.length : Int) by omega)
    generalize kidP (p5 + 1) ks8 (k + 1) = pk at *
    generalize ks8[(k + 1)] = x at *
    obtain ⟨t9, b9, ks9⟩ := x
    have qk := hat.item
    have rN := l10Num hm ⟨t9, b9, ks9.length⟩ (goodN_body gk).1 (by have := (goodN_body gk).2; simp only [bodyN] at this; show b9.length ≤ _; omega)
    rw [itemS] at rN
    simp only [bodyN] at hrow rN
    simp +decide (maxSteps := 9^7) only [↓reduceIte, go_sem]
    refine Runs.draw (st1 := ?s2b) (draws_ref (ann := srAnn) tabOk srBy srS20 (by kernel_rfl) ?p2b) ?q2b
    case p2b =>
     intro K r X hK
     simp +decide (maxSteps := 9^7) only [↓reduceIte, kl, kg, d1, rk, hlen, qk, Int.toNat_natCast, Int.toNat_zero, go_sem]
     repeat' (first
      | apply And.intro
      | exact hK
      | (refine Runs.call rN ?_; simp +decide (maxSteps := 9^7) only [↓reduceIte, hlen2, d2, go_sem])
      | fail)
    case q2b =>
     simp +decide (maxSteps := 9^7) only [↓reduceIte, w1, go_sem]
     refine ih ((k + 1) + 1) _ (by omega) (by omega) ?_
     simp [go_sem, srAnn, srSt, crBox, hrow, irRow_zero]
   ·have he : k + 1 = ks8.length := by have := decide_eq_false_iff_not.mp h; omega
    have hall : irRow ks8 (k + 1) = (ks8.map kidNum).map intA := by rw [he, irRow_all]
    have htk : List.take (k + 1) ((ks8.map kidNum).map intA) = (ks8.map kidNum).map intA := List.take_of_length_le (by simp; omega)
    have hln : ((ks8.map kidNum).map intA).length = k + 1 := by simp; omega
    simp only [crlA] at wC
    clear ih
    have hB := wB_ok (I := I) (f := f) (t := t) (a := a) (S := ks8.map kidNum) hGb
    generalize wB I f t a (ks8.map kidNum) G = B at *
    generalize wOk I f t a (ks8.map kidNum) G = ok at *
    rw [hall]
    simp +decide (maxSteps := 9^7) only [↓reduceIte, htk, hln, go_sem]
    refine Runs.call wC ?_
    simp +decide (maxSteps := 9^7) only [↓reduceIte, htk, hln, go_sem]
    cases ok with
    | false =>
     rw [hR0 (by simp), ansA]
     simp +decide (maxSteps := 9^7) only [↓reduceIte, go_sem]
     exact Runs.ret (.tup (.agg (.nils _ (.same _ (.same _ (.same _ (.nils _ (.nils _ .nil)))))) (.same _ .nil)) .nil) rfl
    | true =>
     simp +decide (maxSteps := 9^7) only [↓reduceIte, htk, hln, go_sem]
     refine Runs.call (l1Same hm B b hB hb) ?_
     by_cases hq : B = b
     ·have dq : decide (B = b) = true := by simpa using hq
      rw [hR1 rfl hq, ansA]
      simp +decide (maxSteps := 9^7) only [↓reduceIte, dq, htk, hln, crO, crlO, go_sem]
      exact Runs.ret_refl
     ·have dq : decide (B = b) = false := by simpa using hq
      rw [hR0 (by simpa using hq), ansA]
      simp +decide (maxSteps := 9^7) only [↓reduceIte, dq, htk, hln, go_sem]
      exact Runs.ret (.tup (.agg (.nils _ (.same _ (.same _ (.same _ (.nils _ (.nils _ .nil)))))) (.same _ .nil)) .nil) rfl
end Go.Proofs.W
