import Derived.Test.YtcoojdgfpdajiabDoorProg
import Derived.KernelRfl
import Derived.Test.YtcoojdgfpdajiabDoorMachine3
set_option linter.unusedVariables false
set_option linter.unusedSimpArgs false
namespace Go.Proofs.W
open Go Go.AM
def tab : Go.AM.Tab := [
  [⟨.other, 0, 0, []⟩,
   ⟨.func, 1, 8, [.nilFunc]⟩,
   ⟨.int .i64, 1, 8, [.int .i64 0]⟩,
   ⟨.int .i64, 1, 8, [.int .i64 0]⟩,
   ⟨.bool, 1, 1, [.bool false]⟩,
   ⟨.int .u8, 1, 1, [.int .u8 0]⟩,
   ⟨.int .u8, 1, 1, [.int .u8 0]⟩,
   ⟨.struct [(0, 1, 2), (1, 1, 3), (2, 1, 4), (3, 1, 6)], 4, 24, [.int .i64 0, .int .i64 0, .bool false, .int .u8 0]⟩,
   ⟨.struct [(0, 1, 2), (1, 1, 3), (2, 1, 4), (3, 1, 6)], 4, 24, [.int .i64 0, .int .i64 0, .bool false, .int .u8 0]⟩,
   ⟨.string, 1, 16, [.string ⟨#[]⟩]⟩,
   ⟨.string, 1, 16, [.string ⟨#[]⟩]⟩,
   ⟨.string, 1, 16, [.string ⟨#[]⟩]⟩,
   ⟨.int .u64, 1, 8, [.int .u64 0]⟩,
   ⟨.struct [(0, 1, 9), (1, 1, 12)], 2, 24, [.string ⟨#[]⟩, .int .u64 0]⟩,
   ⟨.struct [(0, 1, 9), (1, 1, 12)], 2, 24, [.string ⟨#[]⟩, .int .u64 0]⟩,
   ⟨.pointer 45, 1, 8, [.pointer none]⟩],
  [⟨.pointer 48, 1, 8, [.pointer none]⟩,
   ⟨.pointer 57, 1, 8, [.pointer none]⟩,
   ⟨.struct [(0, 1, 17)], 1, 8, [.pointer none]⟩,
   ⟨.struct [(0, 1, 17)], 1, 8, [.pointer none]⟩,
   ⟨.other, 0, 0, []⟩,
   ⟨.int .i32, 1, 4, [.int .i32 0]⟩,
   ⟨.func, 1, 8, [.nilFunc]⟩,
   ⟨.func, 1, 8, [.nilFunc]⟩,
   ⟨.func, 1, 8, [.nilFunc]⟩,
   ⟨.slice 5, 1, 24, [.slice none 0 0]⟩,
   ⟨.func, 1, 8, [.nilFunc]⟩,
   ⟨.array 24 5, 24, 24, [.int .u8 0, .int .u8 0, .int .u8 0, .int .u8 0, .int .u8 0, .int .u8 0, .int .u8 0, .int .u8 0, .int .u8 0, .int .u8 0, .int .u8 0, .int .u8 0, .int .u8 0, .int .u8 0, .int .u8 0, .int .u8 0, .int .u8 0, .int .u8 0, .int .u8 0, .int .u8 0, .int .u8 0, .int .u8 0, .int .u8 0, .int .u8 0]⟩,
   ⟨.int .u64, 1, 8, [.int .u64 0]⟩,
   ⟨.func, 1, 8, [.nilFunc]⟩,
   ⟨.func, 1, 8, [.nilFunc]⟩,
   ⟨.other, 0, 0, []⟩],
  [⟨.func, 1, 8, [.nilFunc]⟩,
   ⟨.func, 1, 8, [.nilFunc]⟩,
   ⟨.func, 1, 8, [.nilFunc]⟩,
   ⟨.array 20 28, 20, 160, [.int .u64 0, .int .u64 0, .int .u64 0, .int .u64 0, .int .u64 0, .int .u64 0, .int .u64 0, .int .u64 0, .int .u64 0, .int .u64 0, .int .u64 0, .int .u64 0, .int .u64 0, .int .u64 0, .int .u64 0, .int .u64 0, .int .u64 0, .int .u64 0, .int .u64 0, .int .u64 0]⟩,
   ⟨.int .u32, 1, 4, [.int .u32 0]⟩,
   ⟨.other, 0, 0, []⟩,
   ⟨.int .u64, 1, 8, [.int .u64 0]⟩,
   ⟨.func, 1, 8, [.nilFunc]⟩,
   ⟨.func, 1, 8, [.nilFunc]⟩,
   ⟨.array 32 5, 32, 32, [.int .u8 0, .int .u8 0, .int .u8 0, .int .u8 0, .int .u8 0, .int .u8 0, .int .u8 0, .int .u8 0, .int .u8 0, .int .u8 0, .int .u8 0, .int .u8 0, .int .u8 0, .int .u8 0, .int .u8 0, .int .u8 0, .int .u8 0, .int .u8 0, .int .u8 0, .int .u8 0, .int .u8 0, .int .u8 0, .int .u8 0, .int .u8 0, .int .u8 0, .int .u8 0, .int .u8 0, .int .u8 0, .int .u8 0, .int .u8 0, .int .u8 0, .int .u8 0]⟩,
   ⟨.array 64 5, 64, 64, [.int .u8 0, .int .u8 0, .int .u8 0, .int .u8 0, .int .u8 0, .int .u8 0, .int .u8 0, .int .u8 0, .int .u8 0, .int .u8 0, .int .u8 0, .int .u8 0, .int .u8 0, .int .u8 0, .int .u8 0, .int .u8 0, .int .u8 0, .int .u8 0, .int .u8 0, .int .u8 0, .int .u8 0, .int .u8 0, .int .u8 0, .int .u8 0, .int .u8 0, .int .u8 0, .int .u8 0, .int .u8 0, .int .u8 0, .int .u8 0, .int .u8 0, .int .u8 0, .int .u8 0, .int .u8 0, .int .u8 0, .int .u8 0, .int .u8 0, .int .u8 0, .int .u8 0, .int .u8 0, .int .u8 0, .int .u8 0, .int .u8 0, .int .u8 0, .int .u8 0, .int .u8 0, .int .u8 0, .int .u8 0, .int .u8 0, .int .u8 0, .int .u8 0, .int .u8 0, .int .u8 0, .int .u8 0, .int .u8 0, .int .u8 0, .int .u8 0, .int .u8 0, .int .u8 0, .int .u8 0, .int .u8 0, .int .u8 0, .int .u8 0, .int .u8 0]⟩,
   ⟨.func, 1, 8, [.nilFunc]⟩,
   ⟨.struct [(0, 1, 17), (1, 1, 17), (2, 1, 17), (3, 1, 9)], 4, 40, [.pointer none, .pointer none, .pointer none, .string ⟨#[]⟩]⟩,
   ⟨.struct [(0, 1, 17), (1, 1, 17), (2, 1, 17), (3, 1, 9)], 4, 40, [.pointer none, .pointer none, .pointer none, .string ⟨#[]⟩]⟩,
   ⟨.other, 0, 0, []⟩,
   ⟨.other, 0, 0, []⟩],
  [⟨.other, 0, 0, []⟩,
   ⟨.func, 1, 8, [.nilFunc]⟩,
   ⟨.int .u8, 1, 1, [.int .u8 0]⟩,
   ⟨.int .u8, 1, 1, [.int .u8 0]⟩,
   ⟨.func, 1, 8, [.nilFunc]⟩,
   ⟨.pointer 5, 1, 8, [.pointer none]⟩,
   ⟨.int .i32, 1, 4, [.int .i32 0]⟩,
   ⟨.int .i32, 1, 4, [.int .i32 0]⟩,
   ⟨.struct [(0, 1, 12), (1, 1, 12), (2, 1, 36), (3, 1, 50), (4, 1, 5), (5, 1, 5), (6, 1, 51), (7, 1, 52), (8, 1, 53), (9, 1, 54), (10, 1, 55)], 11, 48, [.int .u64 0, .int .u64 0, .int .u32 0, .int .u8 0, .int .u8 0, .int .u8 0, .int .u8 0, .nilFunc, .pointer none, .int .i32 0, .int .i32 0]⟩,
   ⟨.struct [(0, 1, 12), (1, 1, 12), (2, 1, 36), (3, 1, 50), (4, 1, 5), (5, 1, 5), (6, 1, 51), (7, 1, 52), (8, 1, 53), (9, 1, 54), (10, 1, 55)], 11, 48, [.int .u64 0, .int .u64 0, .int .u32 0, .int .u8 0, .int .u8 0, .int .u8 0, .int .u8 0, .nilFunc, .pointer none, .int .i32 0, .int .i32 0]⟩,
   ⟨.other, 0, 0, []⟩,
   ⟨.other, 0, 0, []⟩,
   ⟨.other, 0, 0, []⟩,
   ⟨.other, 0, 0, []⟩,
   ⟨.other, 0, 0, []⟩,
   ⟨.other, 0, 0, []⟩]]
theorem tabOk : TabOk Tryd.prog tab := tabOk_of (by kernel_rfl)
theorem row2 : tab.row 2 = ⟨.int .i64, 1, 8, [.int .i64 0]⟩ := Eq.trans rfl rfl
theorem row3 : tab.row 3 = ⟨.int .i64, 1, 8, [.int .i64 0]⟩ := Eq.trans rfl rfl
theorem row4 : tab.row 4 = ⟨.bool, 1, 1, [.bool false]⟩ := Eq.trans rfl rfl
theorem row5 : tab.row 5 = ⟨.int .u8, 1, 1, [.int .u8 0]⟩ := Eq.trans rfl rfl
theorem row6 : tab.row 6 = ⟨.int .u8, 1, 1, [.int .u8 0]⟩ := Eq.trans rfl rfl
theorem row7 : tab.row 7 = ⟨.struct [(0, 1, 2), (1, 1, 3), (2, 1, 4), (3, 1, 6)], 4, 24, [.int .i64 0, .int .i64 0, .bool false, .int .u8 0]⟩ := Eq.trans rfl rfl
theorem row8 : tab.row 8 = ⟨.struct [(0, 1, 2), (1, 1, 3), (2, 1, 4), (3, 1, 6)], 4, 24, [.int .i64 0, .int .i64 0, .bool false, .int .u8 0]⟩ := Eq.trans rfl rfl
theorem row9 : tab.row 9 = ⟨.string, 1, 16, [.string ⟨#[]⟩]⟩ := Eq.trans rfl rfl
theorem row10 : tab.row 10 = ⟨.string, 1, 16, [.string ⟨#[]⟩]⟩ := Eq.trans rfl rfl
theorem row11 : tab.row 11 = ⟨.string, 1, 16, [.string ⟨#[]⟩]⟩ := Eq.trans rfl rfl
theorem row12 : tab.row 12 = ⟨.int .u64, 1, 8, [.int .u64 0]⟩ := Eq.trans rfl rfl
theorem row13 : tab.row 13 = ⟨.struct [(0, 1, 9), (1, 1, 12)], 2, 24, [.string ⟨#[]⟩, .int .u64 0]⟩ := Eq.trans rfl rfl
theorem row14 : tab.row 14 = ⟨.struct [(0, 1, 9), (1, 1, 12)], 2, 24, [.string ⟨#[]⟩, .int .u64 0]⟩ := Eq.trans rfl rfl
theorem row15 : tab.row 15 = ⟨.pointer 45, 1, 8, [.pointer none]⟩ := Eq.trans rfl rfl
theorem row16 : tab.row 16 = ⟨.pointer 48, 1, 8, [.pointer none]⟩ := Eq.trans rfl rfl
theorem row17 : tab.row 17 = ⟨.pointer 57, 1, 8, [.pointer none]⟩ := Eq.trans rfl rfl
theorem row18 : tab.row 18 = ⟨.struct [(0, 1, 17)], 1, 8, [.pointer none]⟩ := Eq.trans rfl rfl
theorem row19 : tab.row 19 = ⟨.struct [(0, 1, 17)], 1, 8, [.pointer none]⟩ := Eq.trans rfl rfl
theorem row21 : tab.row 21 = ⟨.int .i32, 1, 4, [.int .i32 0]⟩ := Eq.trans rfl rfl
theorem row25 : tab.row 25 = ⟨.slice 5, 1, 24, [.slice none 0 0]⟩ := Eq.trans rfl rfl
theorem row27 : tab.row 27 = ⟨.array 24 5, 24, 24, [.int .u8 0, .int .u8 0, .int .u8 0, .int .u8 0, .int .u8 0, .int .u8 0, .int .u8 0, .int .u8 0, .int .u8 0, .int .u8 0, .int .u8 0, .int .u8 0, .int .u8 0, .int .u8 0, .int .u8 0, .int .u8 0, .int .u8 0, .int .u8 0, .int .u8 0, .int .u8 0, .int .u8 0, .int .u8 0, .int .u8 0, .int .u8 0]⟩ := Eq.trans rfl rfl
theorem row28 : tab.row 28 = ⟨.int .u64, 1, 8, [.int .u64 0]⟩ := Eq.trans rfl rfl
theorem row35 : tab.row 35 = ⟨.array 20 28, 20, 160, [.int .u64 0, .int .u64 0, .int .u64 0, .int .u64 0, .int .u64 0, .int .u64 0, .int .u64 0, .int .u64 0, .int .u64 0, .int .u64 0, .int .u64 0, .int .u64 0, .int .u64 0, .int .u64 0, .int .u64 0, .int .u64 0, .int .u64 0, .int .u64 0, .int .u64 0, .int .u64 0]⟩ := Eq.trans rfl rfl
theorem row36 : tab.row 36 = ⟨.int .u32, 1, 4, [.int .u32 0]⟩ := Eq.trans rfl rfl
theorem row38 : tab.row 38 = ⟨.int .u64, 1, 8, [.int .u64 0]⟩ := Eq.trans rfl rfl
theorem row41 : tab.row 41 = ⟨.array 32 5, 32, 32, [.int .u8 0, .int .u8 0, .int .u8 0, .int .u8 0, .int .u8 0, .int .u8 0, .int .u8 0, .int .u8 0, .int .u8 0, .int .u8 0, .int .u8 0, .int .u8 0, .int .u8 0, .int .u8 0, .int .u8 0, .int .u8 0, .int .u8 0, .int .u8 0, .int .u8 0, .int .u8 0, .int .u8 0, .int .u8 0, .int .u8 0, .int .u8 0, .int .u8 0, .int .u8 0, .int .u8 0, .int .u8 0, .int .u8 0, .int .u8 0, .int .u8 0, .int .u8 0]⟩ := Eq.trans rfl rfl
theorem row42 : tab.row 42 = ⟨.array 64 5, 64, 64, [.int .u8 0, .int .u8 0, .int .u8 0, .int .u8 0, .int .u8 0, .int .u8 0, .int .u8 0, .int .u8 0, .int .u8 0, .int .u8 0, .int .u8 0, .int .u8 0, .int .u8 0, .int .u8 0, .int .u8 0, .int .u8 0, .int .u8 0, .int .u8 0, .int .u8 0, .int .u8 0, .int .u8 0, .int .u8 0, .int .u8 0, .int .u8 0, .int .u8 0, .int .u8 0, .int .u8 0, .int .u8 0, .int .u8 0, .int .u8 0, .int .u8 0, .int .u8 0, .int .u8 0, .int .u8 0, .int .u8 0, .int .u8 0, .int .u8 0, .int .u8 0, .int .u8 0, .int .u8 0, .int .u8 0, .int .u8 0, .int .u8 0, .int .u8 0, .int .u8 0, .int .u8 0, .int .u8 0, .int .u8 0, .int .u8 0, .int .u8 0, .int .u8 0, .int .u8 0, .int .u8 0, .int .u8 0, .int .u8 0, .int .u8 0, .int .u8 0, .int .u8 0, .int .u8 0, .int .u8 0, .int .u8 0, .int .u8 0, .int .u8 0, .int .u8 0]⟩ := Eq.trans rfl rfl
theorem row44 : tab.row 44 = ⟨.struct [(0, 1, 17), (1, 1, 17), (2, 1, 17), (3, 1, 9)], 4, 40, [.pointer none, .pointer none, .pointer none, .string ⟨#[]⟩]⟩ := Eq.trans rfl rfl
theorem row45 : tab.row 45 = ⟨.struct [(0, 1, 17), (1, 1, 17), (2, 1, 17), (3, 1, 9)], 4, 40, [.pointer none, .pointer none, .pointer none, .string ⟨#[]⟩]⟩ := Eq.trans rfl rfl
theorem row50 : tab.row 50 = ⟨.int .u8, 1, 1, [.int .u8 0]⟩ := Eq.trans rfl rfl
theorem row51 : tab.row 51 = ⟨.int .u8, 1, 1, [.int .u8 0]⟩ := Eq.trans rfl rfl
theorem row53 : tab.row 53 = ⟨.pointer 5, 1, 8, [.pointer none]⟩ := Eq.trans rfl rfl
theorem row54 : tab.row 54 = ⟨.int .i32, 1, 4, [.int .i32 0]⟩ := Eq.trans rfl rfl
theorem row55 : tab.row 55 = ⟨.int .i32, 1, 4, [.int .i32 0]⟩ := Eq.trans rfl rfl
theorem row56 : tab.row 56 = ⟨.struct [(0, 1, 12), (1, 1, 12), (2, 1, 36), (3, 1, 50), (4, 1, 5), (5, 1, 5), (6, 1, 51), (7, 1, 52), (8, 1, 53), (9, 1, 54), (10, 1, 55)], 11, 48, [.int .u64 0, .int .u64 0, .int .u32 0, .int .u8 0, .int .u8 0, .int .u8 0, .int .u8 0, .nilFunc, .pointer none, .int .i32 0, .int .i32 0]⟩ := Eq.trans rfl rfl
theorem row57 : tab.row 57 = ⟨.struct [(0, 1, 12), (1, 1, 12), (2, 1, 36), (3, 1, 50), (4, 1, 5), (5, 1, 5), (6, 1, 51), (7, 1, 52), (8, 1, 53), (9, 1, 54), (10, 1, 55)], 11, 48, [.int .u64 0, .int .u64 0, .int .u32 0, .int .u8 0, .int .u8 0, .int .u8 0, .int .u8 0, .nilFunc, .pointer none, .int .i32 0, .int .i32 0]⟩ := Eq.trans rfl rfl
attribute [go_sem] row2 row3 row4 row5 row6 row7 row8 row9 row10 row11 row12 row13 row14 row15 row16 row17 row18 row19 row21 row25 row27 row28 row35 row36 row38 row41 row42 row44 row45 row50 row51 row53 row54 row55 row56 row57
end Go.Proofs.W

namespace Go.Proofs.W
open Go Go.AM
set_option linter.unusedSimpArgs false
set_option linter.unusedVariables false
variable (hm : Tryd.prog.follows .mixedOrders = true)

def inB (n a b : Int) : Bool := decide (a ≤ n) && decide (n ≤ b)
set_option maxRecDepth 10000 in
include hm in
theorem l1In (n a b : Int) : Holds Tryd.prog 6 [.v (.int .i64 n), .v (.int .i64 a), .v (.int .i64 b)] [] (.v (.bool (inB n a b))) [] := by
  refine holds_of (ann := []) tabOk hm Tryd.func6 (by kernel_rfl) rfl ?_
  simp (decide := true) only [Tryd.f6, go_sem, Nat.reduceAdd, Nat.reduceMul, Nat.reduceSub]
  refine Runs.split (fun h => ?_) (fun h => ?_)
  · simp only [decide_eq_true_eq] at h
    have e : inB n a b = decide (n ≤ b) := by simp [inB]; omega
    simp (decide := true) only [e, go_sem, Nat.reduceAdd, Nat.reduceMul, Nat.reduceSub]
    exact Runs.ret_v
  · simp only [decide_eq_false_iff_not] at h
    have e : inB n a b = false := by simp [inB]; omega
    simp (decide := true) only [e, go_sem, Nat.reduceAdd, Nat.reduceMul, Nat.reduceSub]
    exact Runs.ret_v
set_option maxRecDepth 10000 in
include hm in
theorem within (n a b : Int) : Holds Tryd.prog 8 [.v (.int .i64 n), .v (.int .i64 a), .v (.int .i64 b)] [] (.v (.bool (inB n a b))) [] := by
  refine holds_of (ann := []) tabOk hm Tryd.func8 (by kernel_rfl) rfl ?_
  simp (decide := true) only [Tryd.f8, go_sem, Nat.reduceAdd, Nat.reduceMul, Nat.reduceSub]
  refine Runs.split (fun h => ?_) (fun h => ?_)
  · simp only [decide_eq_true_eq] at h
    have e : inB n a b = decide (n ≤ b) := by simp [inB]; omega
    simp (decide := true) only [e, go_sem, Nat.reduceAdd, Nat.reduceMul, Nat.reduceSub]
    exact Runs.ret_v
  · simp only [decide_eq_false_iff_not] at h
    have e : inB n a b = false := by simp [inB]; omega
    simp (decide := true) only [e, go_sem, Nat.reduceAdd, Nat.reduceMul, Nat.reduceSub]
    exact Runs.ret_v
end Go.Proofs.W

namespace Go.Proofs.W
open Go Go.AM
set_option linter.unusedSimpArgs false
set_option linter.unusedVariables false
variable (hm : Tryd.prog.follows .mixedOrders = true)

/-- A number of at most two digits. -/
def twoD (n : Int) : ByteArray := if n < 10 then ⟨#[UInt8.ofNat (48 + n.toNat)]⟩ else ⟨#[UInt8.ofNat (48 + n.toNat / 10), UInt8.ofNat (48 + n.toNat % 10)]⟩
theorem low_n {n : Int} (h1 : 1 ≤ n) (h2 : n ≤ 15) : n = 1 ∨ n = 2 ∨ n = 3 ∨ n = 4 ∨ n = 5 ∨ n = 6 ∨ n = 7 ∨ n = 8 ∨ n = 9 ∨ n = 10 ∨ n = 11 ∨ n = 12 ∨ n = 13 ∨ n = 14 ∨ n = 15 := by omega
def rulePre : ByteArray := ⟨#[114, 117, 108, 101, 32]⟩
def ruleT (n : Int) : ByteArray := if inB n 1 15 = true then rulePre ++ twoD n else ⟨#[]⟩
set_option maxRecDepth 10000 in
include hm in
theorem smallT (n : Int) (h1 : 1 ≤ n) (h2 : n ≤ 15) : Holds Tryd.prog 12 [.v (.int .i64 n)] [] (.v (.string (twoD n))) [] := by
  refine holds_of (ann := []) tabOk hm Tryd.func12 (by kernel_rfl) rfl ?_
  rcases low_n h1 h2 with h | h | h | h | h | h | h | h | h | h | h | h | h | h | h <;> subst h
  all_goals
    simp (decide := true) (disch := first | omega | (simp only [List.length_map, List.length_cons, List.length_append, List.length_nil]; omega)) only [Tryd.f12, if_pos, go_sem, Nat.reduceAdd, Nat.reduceMul, Nat.reduceSub]
    first
      | (refine Runs.ret_eq ?_; kernel_rfl)
      | (refine Runs.chk ?_ (Runs.ret_eq ?_) <;> kernel_rfl)
set_option maxRecDepth 10000 in
include hm in
theorem itoaT (n : Int) (h1 : 1 ≤ n) (h2 : n ≤ 15) : Holds Tryd.prog 9 [.v (.int .i64 n)] [] (.v (.string (twoD n))) [] := by
  have a1 : Holds Tryd.prog 11 [.v (.int .i64 n), .v (.int .i64 10)] [] (.v (.string (twoD n))) [] := by
    refine holds_of (ann := []) tabOk hm Tryd.func11 (by kernel_rfl) rfl ?_
    have d1 : decide (0 ≤ n) = true := by simp; omega
    have d2 : decide (n < 100) = true := by simp; omega
    simp (decide := true) only [Tryd.f11, d1, d2, go_sem, Nat.reduceAdd, Nat.reduceMul, Nat.reduceSub]
    refine Runs.call (smallT hm n h1 h2) ?_
    simp (decide := true) only [go_sem, Nat.reduceAdd, Nat.reduceMul, Nat.reduceSub]
    exact Runs.ret_v
  have a2 : Holds Tryd.prog 10 [.v (.int .i64 n)] [] (.v (.string (twoD n))) [] := by
    refine holds_of (ann := []) tabOk hm Tryd.func10 (by kernel_rfl) rfl ?_
    simp (decide := true) only [Tryd.f10, go_sem, Nat.reduceAdd, Nat.reduceMul, Nat.reduceSub]
    refine Runs.call a1 ?_
    simp (decide := true) only [go_sem, Nat.reduceAdd, Nat.reduceMul, Nat.reduceSub]
    exact Runs.ret_v
  refine holds_of (ann := []) tabOk hm Tryd.func9 (by kernel_rfl) rfl ?_
  simp (decide := true) only [Tryd.f9, go_sem, Nat.reduceAdd, Nat.reduceMul, Nat.reduceSub]
  refine Runs.call a2 ?_
  simp (decide := true) only [go_sem, Nat.reduceAdd, Nat.reduceMul, Nat.reduceSub]
  exact Runs.ret_v
def toS : Sched := .take 0 (.take 1 (.take 3 (.take 4 (.take 5 (.alt 2 (.alt 6 (.alt 7 (.alt 8 (.take 9 (.take 10 .fin)) .nil) .nil) .nil) (.alt 6 (.alt 2 (.alt 7 (.alt 8 (.take 9 (.take 10 .fin)) .nil) .nil) (.alt 7 (.alt 2 (.alt 8 (.take 9 (.take 10 .fin)) .nil) (.alt 8 (.alt 2 (.take 9 (.take 10 .fin)) .nil) .nil)) .nil)) .nil))))))
attribute [local go_sem] toS
set_option maxRecDepth 10000 in
include hm in
theorem told1 (n : Int) (h1 : 1 ≤ n) (h2 : n ≤ 9) : Holds Tryd.prog 7 [.v (.int .i64 n)] [] (.v (.string (twoD n))) [] := by
  refine holds_of (ann := []) tabOk hm Tryd.func7 (by kernel_rfl) rfl ?_
  rcases low_n h1 (by omega) with h | h | h | h | h | h | h | h | h | h | h | h | h | h | h <;> subst h
  all_goals first
    | omega
    | (simp (decide := true) (disch := first | omega | (simp only [List.length_map, List.length_cons, List.length_append, List.length_nil]; omega)) only [Tryd.f7, if_pos, go_sem, Nat.reduceAdd, Nat.reduceMul, Nat.reduceSub]; refine Runs.ret_eq ?_; kernel_rfl)
set_option maxRecDepth 10000 in
include hm in
theorem told (n : Int) (h1 : 1 ≤ n) (h2 : n ≤ 15) : Holds Tryd.prog 7 [.v (.int .i64 n)] [] (.v (.string (twoD n))) [] := by
  by_cases h9 : n ≤ 9
  · exact told1 hm n h1 h9
  · refine holds_of (ann := []) tabOk hm Tryd.func7 (by kernel_rfl) rfl ?_
    have d1 : decide (n < 10) = false := by simp; omega
    have e1 : n.tdiv 10 = 1 := by rw [Int.tdiv_eq_ediv_of_nonneg (by omega)]; omega
    have e2 : n.tmod 10 = n - 10 := by rw [Int.tmod_eq_emod_of_nonneg (by omega)]; omega
    have hb : (0 ≤ 48 + (n - 10) ∧ 48 + (n - 10) < 256) := by omega
    simp (decide := true) only [Tryd.f7, d1, go_sem, Nat.reduceAdd, Nat.reduceMul, Nat.reduceSub]
    refine Runs.draw (st1 := ?s1) (draws_by (ann := []) tabOk toS (by kernel_rfl) ?p1) ?q1
    case p1 =>
      intro K r X hK
      simp (decide := true) (disch := first | omega | (simp only [List.length_map, List.length_cons, List.length_append, List.length_nil]; omega)) only [e1, e2, hb, if_pos, go_sem, Nat.reduceAdd, Nat.reduceMul, Nat.reduceSub]
      repeat' apply And.intro
      all_goals
        refine Runs.call (told1 hm 1 (by omega) (by omega)) ?_
        simp (decide := true) (disch := first | omega | (simp only [List.length_map, List.length_cons, List.length_append, List.length_nil]; omega)) only [e1, e2, hb, if_pos, go_sem, Nat.reduceAdd, Nat.reduceMul, Nat.reduceSub]
        repeat' apply And.intro
        all_goals
          refine Runs.chk (by show decide (1 + 1 ≤ 1073741824) = true; rfl) ?_
          exact hK
    case q1 =>
      simp (decide := true) only [go_sem, Nat.reduceAdd, Nat.reduceMul, Nat.reduceSub]
      refine Runs.ret_eq ?_
      rcases low_n h1 h2 with h | h | h | h | h | h | h | h | h | h | h | h | h | h | h <;> subst h
      all_goals first
        | omega
        | kernel_rfl
theorem two_size {n : Int} : (twoD n).size ≤ 2 := by
  unfold twoD
  split
  · show 1 ≤ 2; omega
  · show 2 ≤ 2; omega
set_option maxRecDepth 10000 in
include hm in
theorem sRule (n : Int) : Holds Tryd.prog 4 [.v (.int .i64 n)] [] (.v (.string (ruleT n))) [] := by
  refine holds_of (ann := []) tabOk hm Tryd.func4 (by kernel_rfl) rfl ?_
  simp (decide := true) only [Tryd.f4, go_sem, Nat.reduceAdd, Nat.reduceMul, Nat.reduceSub]
  refine Runs.call (l1In hm n 1 15) ?_
  simp (decide := true) only [go_sem, Nat.reduceAdd, Nat.reduceMul, Nat.reduceSub]
  refine Runs.split (fun h => ?_) (fun h => ?_)
  · have h' : inB n 1 15 = false := by simpa using h
    simp (decide := true) only [go_sem, Nat.reduceAdd, Nat.reduceMul, Nat.reduceSub]
    exact Runs.ret_eq (by simp [ruleT, h'])
  · have h' : inB n 1 15 = true := by simpa using h
    have hb := h'
    simp [inB] at hb
    simp (decide := true) only [go_sem, Nat.reduceAdd, Nat.reduceMul, Nat.reduceSub]
    refine Runs.call (told hm n hb.1 hb.2) ?_
    simp (decide := true) only [go_sem, Nat.reduceAdd, Nat.reduceMul, Nat.reduceSub]
    refine Runs.chk ?_ (Runs.ret_eq (by simp [ruleT, h']; rfl))
    have := two_size (n := n)
    show decide (5 + (twoD n).size ≤ 1073741824) = true
    simp; omega
set_option maxRecDepth 10000 in
include hm in
theorem iRule (n : Int) : Holds Tryd.prog 5 [.v (.int .i64 n)] [] (.v (.string (ruleT n))) [] := by
  refine holds_of (ann := []) tabOk hm Tryd.func5 (by kernel_rfl) rfl ?_
  simp (decide := true) only [Tryd.f5, go_sem, Nat.reduceAdd, Nat.reduceMul, Nat.reduceSub]
  refine Runs.call (within hm n 1 15) ?_
  simp (decide := true) only [go_sem, Nat.reduceAdd, Nat.reduceMul, Nat.reduceSub]
  refine Runs.split (fun h => ?_) (fun h => ?_)
  · have h' : inB n 1 15 = false := by simpa using h
    simp (decide := true) only [go_sem, Nat.reduceAdd, Nat.reduceMul, Nat.reduceSub]
    exact Runs.ret_eq (by simp [ruleT, h'])
  · have h' : inB n 1 15 = true := by simpa using h
    have hb := h'
    simp [inB] at hb
    simp (decide := true) only [go_sem, Nat.reduceAdd, Nat.reduceMul, Nat.reduceSub]
    refine Runs.call (itoaT hm n hb.1 hb.2) ?_
    simp (decide := true) only [go_sem, Nat.reduceAdd, Nat.reduceMul, Nat.reduceSub]
    refine Runs.chk ?_ (Runs.ret_eq (by simp [ruleT, h']; rfl))
    have := two_size (n := n)
    show decide (5 + (twoD n).size ≤ 1073741824) = true
    simp; omega
set_option maxRecDepth 10000 in
include hm in
theorem lawRuleText (n : Int) : Holds Tryd.prog 3 [.v (.int .i64 n)] [] (.v (.bool true)) [] := by
  refine holds_of (ann := []) tabOk hm Tryd.func3 (by kernel_rfl) rfl ?_
  simp (decide := true) only [Tryd.f3, go_sem, Nat.reduceAdd, Nat.reduceMul, Nat.reduceSub]
  refine Runs.call (sRule hm n) ?_
  simp (decide := true) only [go_sem, Nat.reduceAdd, Nat.reduceMul, Nat.reduceSub]
  refine Runs.call (iRule hm n) ?_
  simp (decide := true) only [go_sem, Nat.reduceAdd, Nat.reduceMul, Nat.reduceSub]
  exact Runs.ret_v
end Go.Proofs.W
