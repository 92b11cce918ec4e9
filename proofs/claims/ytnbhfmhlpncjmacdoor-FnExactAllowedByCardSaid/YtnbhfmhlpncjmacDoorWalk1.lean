import Derived.Test.YtnbhfmhlpncjmacDoorProg
import Derived.KernelRfl
import Derived.Lib.IndexLaws
import Derived.Lib.Strings
import Derived.Lib.Slices
import Derived.Lib.Walk
import Derived.Lib.Bytealg
import Derived.Test.YtnbhfmhlpncjmacDoorMachine3
set_option linter.unusedVariables false
set_option linter.unusedSimpArgs false
namespace Go.Proofs.W
open Go Go.AM
/-- So many cells alike (kept folded). -/
def repV (n : Nat) (v : Value) : List Value := List.replicate n v
def tab : Go.AM.Tab := [
  [⟨.other, 0, 0, []⟩,
   ⟨.func, 1, 8, [.nilFunc]⟩,
   ⟨.int .i64, 1, 8, [.int .i64 0]⟩,
   ⟨.int .i64, 1, 8, [.int .i64 0]⟩,
   ⟨.bool, 1, 1, [.bool false]⟩,
   ⟨.int .u8, 1, 1, [.int .u8 0]⟩,
   ⟨.int .u8, 1, 1, [.int .u8 0]⟩,
   ⟨.struct [(0, 1, 2), (1, 1, 3), (2, 1, 4), (3, 1, 6)], 4, 24, [.int .i64 0, .int .i64 0, .bool false, .int .u8 0]⟩,
   ⟨.struct [(0, 1, 2), (1, 1, 3), (2, 1, 4), (3, 1, 6)], 4, 24, [.int .i64 0, .int .i64 0, .bool false, .int .u8 0]⟩,
   ⟨.string, 1, 16, [.string ⟨#[]⟩]⟩,
   ⟨.string, 1, 16, [.string ⟨#[]⟩]⟩,
   ⟨.string, 1, 16, [.string ⟨#[]⟩]⟩,
   ⟨.int .u64, 1, 8, [.int .u64 0]⟩,
   ⟨.struct [(0, 1, 9), (1, 1, 12)], 2, 24, [.string ⟨#[]⟩, .int .u64 0]⟩,
   ⟨.struct [(0, 1, 9), (1, 1, 12)], 2, 24, [.string ⟨#[]⟩, .int .u64 0]⟩,
   ⟨.pointer 79, 1, 8, [.pointer none]⟩],
  [⟨.pointer 82, 1, 8, [.pointer none]⟩,
   ⟨.pointer 91, 1, 8, [.pointer none]⟩,
   ⟨.struct [(0, 1, 17)], 1, 8, [.pointer none]⟩,
   ⟨.struct [(0, 1, 17)], 1, 8, [.pointer none]⟩,
   ⟨.other, 0, 0, []⟩,
   ⟨.int .i32, 1, 4, [.int .i32 0]⟩,
   ⟨.slice 9, 1, 24, [.slice none 0 0]⟩,
   ⟨.slice 24, 1, 24, [.slice none 0 0]⟩,
   ⟨.slice 3, 1, 24, [.slice none 0 0]⟩,
   ⟨.struct [(0, 1, 4), (1, 1, 3), (2, 1, 3), (3, 1, 22), (4, 1, 23), (5, 1, 22), (6, 1, 22), (7, 1, 24)], 8, 144, [.bool false, .int .i64 0, .int .i64 0, .slice none 0 0, .slice none 0 0, .slice none 0 0, .slice none 0 0, .slice none 0 0]⟩,
   ⟨.struct [(0, 1, 4), (1, 1, 3), (2, 1, 3), (3, 1, 22), (4, 1, 23), (5, 1, 22), (6, 1, 22), (7, 1, 24)], 8, 144, [.bool false, .int .i64 0, .int .i64 0, .slice none 0 0, .slice none 0 0, .slice none 0 0, .slice none 0 0, .slice none 0 0]⟩,
   ⟨.func, 1, 8, [.nilFunc]⟩,
   ⟨.func, 1, 8, [.nilFunc]⟩,
   ⟨.struct [(0, 1, 4), (1, 1, 3), (2, 1, 3), (3, 1, 22), (4, 1, 23), (5, 1, 22), (6, 1, 22), (7, 1, 24)], 8, 144, [.bool false, .int .i64 0, .int .i64 0, .slice none 0 0, .slice none 0 0, .slice none 0 0, .slice none 0 0, .slice none 0 0]⟩,
   ⟨.func, 1, 8, [.nilFunc]⟩,
   ⟨.func, 1, 8, [.nilFunc]⟩],
  [⟨.func, 1, 8, [.nilFunc]⟩,
   ⟨.func, 1, 8, [.nilFunc]⟩,
   ⟨.func, 1, 8, [.nilFunc]⟩,
   ⟨.func, 1, 8, [.nilFunc]⟩,
   ⟨.func, 1, 8, [.nilFunc]⟩,
   ⟨.func, 1, 8, [.nilFunc]⟩,
   ⟨.func, 1, 8, [.nilFunc]⟩,
   ⟨.func, 1, 8, [.nilFunc]⟩,
   ⟨.func, 1, 8, [.nilFunc]⟩,
   ⟨.func, 1, 8, [.nilFunc]⟩,
   ⟨.func, 1, 8, [.nilFunc]⟩,
   ⟨.func, 1, 8, [.nilFunc]⟩,
   ⟨.func, 1, 8, [.nilFunc]⟩,
   ⟨.func, 1, 8, [.nilFunc]⟩,
   ⟨.func, 1, 8, [.nilFunc]⟩,
   ⟨.func, 1, 8, [.nilFunc]⟩],
  [⟨.func, 1, 8, [.nilFunc]⟩,
   ⟨.func, 1, 8, [.nilFunc]⟩,
   ⟨.func, 1, 8, [.nilFunc]⟩,
   ⟨.func, 1, 8, [.nilFunc]⟩,
   ⟨.func, 1, 8, [.nilFunc]⟩,
   ⟨.array 256 4, 256, 256, repV 256 (.bool false)⟩,
   ⟨.array 256 4, 256, 256, repV 256 (.bool false)⟩,
   ⟨.other, 0, 0, []⟩,
   ⟨.func, 1, 8, [.nilFunc]⟩,
   ⟨.func, 1, 8, [.nilFunc]⟩,
   ⟨.pointer 54, 1, 8, [.pointer none]⟩,
   ⟨.func, 1, 8, [.nilFunc]⟩,
   ⟨.func, 1, 8, [.nilFunc]⟩,
   ⟨.other, 0, 0, []⟩,
   ⟨.func, 1, 8, [.nilFunc]⟩,
   ⟨.func, 1, 8, [.nilFunc]⟩],
  [⟨.func, 1, 8, [.nilFunc]⟩,
   ⟨.func, 1, 8, [.nilFunc]⟩,
   ⟨.func, 1, 8, [.nilFunc]⟩,
   ⟨.func, 1, 8, [.nilFunc]⟩,
   ⟨.int .u64, 1, 8, [.int .u64 0]⟩,
   ⟨.array 256 5, 256, 256, repV 256 (.int .u8 0)⟩,
   ⟨.struct [(0, 1, 5), (1, 1, 5)], 2, 2, [.int .u8 0, .int .u8 0]⟩,
   ⟨.struct [(0, 1, 5), (1, 1, 5)], 2, 2, [.int .u8 0, .int .u8 0]⟩,
   ⟨.array 16 71, 32, 32, [.int .u8 0, .int .u8 0, .int .u8 0, .int .u8 0, .int .u8 0, .int .u8 0, .int .u8 0, .int .u8 0, .int .u8 0, .int .u8 0, .int .u8 0, .int .u8 0, .int .u8 0, .int .u8 0, .int .u8 0, .int .u8 0, .int .u8 0, .int .u8 0, .int .u8 0, .int .u8 0, .int .u8 0, .int .u8 0, .int .u8 0, .int .u8 0, .int .u8 0, .int .u8 0, .int .u8 0, .int .u8 0, .int .u8 0, .int .u8 0, .int .u8 0, .int .u8 0]⟩,
   ⟨.func, 1, 8, [.nilFunc]⟩,
   ⟨.int .u32, 1, 4, [.int .u32 0]⟩,
   ⟨.other, 0, 0, []⟩,
   ⟨.func, 1, 8, [.nilFunc]⟩,
   ⟨.func, 1, 8, [.nilFunc]⟩,
   ⟨.struct [(0, 1, 17), (1, 1, 17), (2, 1, 17), (3, 1, 9)], 4, 40, [.pointer none, .pointer none, .pointer none, .string ⟨#[]⟩]⟩,
   ⟨.struct [(0, 1, 17), (1, 1, 17), (2, 1, 17), (3, 1, 9)], 4, 40, [.pointer none, .pointer none, .pointer none, .string ⟨#[]⟩]⟩],
  [⟨.other, 0, 0, []⟩,
   ⟨.other, 0, 0, []⟩,
   ⟨.other, 0, 0, []⟩,
   ⟨.func, 1, 8, [.nilFunc]⟩,
   ⟨.int .u8, 1, 1, [.int .u8 0]⟩,
   ⟨.int .u8, 1, 1, [.int .u8 0]⟩,
   ⟨.func, 1, 8, [.nilFunc]⟩,
   ⟨.pointer 5, 1, 8, [.pointer none]⟩,
   ⟨.int .i32, 1, 4, [.int .i32 0]⟩,
   ⟨.int .i32, 1, 4, [.int .i32 0]⟩,
   ⟨.struct [(0, 1, 12), (1, 1, 12), (2, 1, 74), (3, 1, 84), (4, 1, 5), (5, 1, 5), (6, 1, 85), (7, 1, 86), (8, 1, 87), (9, 1, 88), (10, 1, 89)], 11, 48, [.int .u64 0, .int .u64 0, .int .u32 0, .int .u8 0, .int .u8 0, .int .u8 0, .int .u8 0, .nilFunc, .pointer none, .int .i32 0, .int .i32 0]⟩,
   ⟨.struct [(0, 1, 12), (1, 1, 12), (2, 1, 74), (3, 1, 84), (4, 1, 5), (5, 1, 5), (6, 1, 85), (7, 1, 86), (8, 1, 87), (9, 1, 88), (10, 1, 89)], 11, 48, [.int .u64 0, .int .u64 0, .int .u32 0, .int .u8 0, .int .u8 0, .int .u8 0, .int .u8 0, .nilFunc, .pointer none, .int .i32 0, .int .i32 0]⟩,
   ⟨.other, 0, 0, []⟩,
   ⟨.other, 0, 0, []⟩,
   ⟨.other, 0, 0, []⟩,
   ⟨.other, 0, 0, []⟩]]
theorem tabOk : TabOk Tryd.prog tab := tabOk_of (by kernel_rfl)
theorem row2 : tab.row 2 = ⟨.int .i64, 1, 8, [.int .i64 0]⟩ := Eq.trans rfl rfl
theorem row3 : tab.row 3 = ⟨.int .i64, 1, 8, [.int .i64 0]⟩ := Eq.trans rfl rfl
theorem row4 : tab.row 4 = ⟨.bool, 1, 1, [.bool false]⟩ := Eq.trans rfl rfl
theorem row5 : tab.row 5 = ⟨.int .u8, 1, 1, [.int .u8 0]⟩ := Eq.trans rfl rfl
theorem row6 : tab.row 6 = ⟨.int .u8, 1, 1, [.int .u8 0]⟩ := Eq.trans rfl rfl
theorem row7 : tab.row 7 = ⟨.struct [(0, 1, 2), (1, 1, 3), (2, 1, 4), (3, 1, 6)], 4, 24, [.int .i64 0, .int .i64 0, .bool false, .int .u8 0]⟩ := Eq.trans rfl rfl
theorem row8 : tab.row 8 = ⟨.struct [(0, 1, 2), (1, 1, 3), (2, 1, 4), (3, 1, 6)], 4, 24, [.int .i64 0, .int .i64 0, .bool false, .int .u8 0]⟩ := Eq.trans rfl rfl
theorem row9 : tab.row 9 = ⟨.string, 1, 16, [.string ⟨#[]⟩]⟩ := Eq.trans rfl rfl
theorem row10 : tab.row 10 = ⟨.string, 1, 16, [.string ⟨#[]⟩]⟩ := Eq.trans rfl rfl
theorem row11 : tab.row 11 = ⟨.string, 1, 16, [.string ⟨#[]⟩]⟩ := Eq.trans rfl rfl
theorem row12 : tab.row 12 = ⟨.int .u64, 1, 8, [.int .u64 0]⟩ := Eq.trans rfl rfl
theorem row13 : tab.row 13 = ⟨.struct [(0, 1, 9), (1, 1, 12)], 2, 24, [.string ⟨#[]⟩, .int .u64 0]⟩ := Eq.trans rfl rfl
theorem row14 : tab.row 14 = ⟨.struct [(0, 1, 9), (1, 1, 12)], 2, 24, [.string ⟨#[]⟩, .int .u64 0]⟩ := Eq.trans rfl rfl
theorem row15 : tab.row 15 = ⟨.pointer 79, 1, 8, [.pointer none]⟩ := Eq.trans rfl rfl
theorem row16 : tab.row 16 = ⟨.pointer 82, 1, 8, [.pointer none]⟩ := Eq.trans rfl rfl
theorem row17 : tab.row 17 = ⟨.pointer 91, 1, 8, [.pointer none]⟩ := Eq.trans rfl rfl
theorem row18 : tab.row 18 = ⟨.struct [(0, 1, 17)], 1, 8, [.pointer none]⟩ := Eq.trans rfl rfl
theorem row19 : tab.row 19 = ⟨.struct [(0, 1, 17)], 1, 8, [.pointer none]⟩ := Eq.trans rfl rfl
theorem row21 : tab.row 21 = ⟨.int .i32, 1, 4, [.int .i32 0]⟩ := Eq.trans rfl rfl
theorem row22 : tab.row 22 = ⟨.slice 9, 1, 24, [.slice none 0 0]⟩ := Eq.trans rfl rfl
theorem row23 : tab.row 23 = ⟨.slice 24, 1, 24, [.slice none 0 0]⟩ := Eq.trans rfl rfl
theorem row24 : tab.row 24 = ⟨.slice 3, 1, 24, [.slice none 0 0]⟩ := Eq.trans rfl rfl
theorem row25 : tab.row 25 = ⟨.struct [(0, 1, 4), (1, 1, 3), (2, 1, 3), (3, 1, 22), (4, 1, 23), (5, 1, 22), (6, 1, 22), (7, 1, 24)], 8, 144, [.bool false, .int .i64 0, .int .i64 0, .slice none 0 0, .slice none 0 0, .slice none 0 0, .slice none 0 0, .slice none 0 0]⟩ := Eq.trans rfl rfl
theorem row26 : tab.row 26 = ⟨.struct [(0, 1, 4), (1, 1, 3), (2, 1, 3), (3, 1, 22), (4, 1, 23), (5, 1, 22), (6, 1, 22), (7, 1, 24)], 8, 144, [.bool false, .int .i64 0, .int .i64 0, .slice none 0 0, .slice none 0 0, .slice none 0 0, .slice none 0 0, .slice none 0 0]⟩ := Eq.trans rfl rfl
theorem row29 : tab.row 29 = ⟨.struct [(0, 1, 4), (1, 1, 3), (2, 1, 3), (3, 1, 22), (4, 1, 23), (5, 1, 22), (6, 1, 22), (7, 1, 24)], 8, 144, [.bool false, .int .i64 0, .int .i64 0, .slice none 0 0, .slice none 0 0, .slice none 0 0, .slice none 0 0, .slice none 0 0]⟩ := Eq.trans rfl rfl
theorem row53 : tab.row 53 = ⟨.array 256 4, 256, 256, repV 256 (.bool false)⟩ := Eq.trans rfl rfl
theorem row54 : tab.row 54 = ⟨.array 256 4, 256, 256, repV 256 (.bool false)⟩ := Eq.trans rfl rfl
theorem row58 : tab.row 58 = ⟨.pointer 54, 1, 8, [.pointer none]⟩ := Eq.trans rfl rfl
theorem row68 : tab.row 68 = ⟨.int .u64, 1, 8, [.int .u64 0]⟩ := Eq.trans rfl rfl
theorem row69 : tab.row 69 = ⟨.array 256 5, 256, 256, repV 256 (.int .u8 0)⟩ := Eq.trans rfl rfl
theorem row70 : tab.row 70 = ⟨.struct [(0, 1, 5), (1, 1, 5)], 2, 2, [.int .u8 0, .int .u8 0]⟩ := Eq.trans rfl rfl
theorem row71 : tab.row 71 = ⟨.struct [(0, 1, 5), (1, 1, 5)], 2, 2, [.int .u8 0, .int .u8 0]⟩ := Eq.trans rfl rfl
theorem row72 : tab.row 72 = ⟨.array 16 71, 32, 32, [.int .u8 0, .int .u8 0, .int .u8 0, .int .u8 0, .int .u8 0, .int .u8 0, .int .u8 0, .int .u8 0, .int .u8 0, .int .u8 0, .int .u8 0, .int .u8 0, .int .u8 0, .int .u8 0, .int .u8 0, .int .u8 0, .int .u8 0, .int .u8 0, .int .u8 0, .int .u8 0, .int .u8 0, .int .u8 0, .int .u8 0, .int .u8 0, .int .u8 0, .int .u8 0, .int .u8 0, .int .u8 0, .int .u8 0, .int .u8 0, .int .u8 0, .int .u8 0]⟩ := Eq.trans rfl rfl
theorem row74 : tab.row 74 = ⟨.int .u32, 1, 4, [.int .u32 0]⟩ := Eq.trans rfl rfl
theorem row78 : tab.row 78 = ⟨.struct [(0, 1, 17), (1, 1, 17), (2, 1, 17), (3, 1, 9)], 4, 40, [.pointer none, .pointer none, .pointer none, .string ⟨#[]⟩]⟩ := Eq.trans rfl rfl
theorem row79 : tab.row 79 = ⟨.struct [(0, 1, 17), (1, 1, 17), (2, 1, 17), (3, 1, 9)], 4, 40, [.pointer none, .pointer none, .pointer none, .string ⟨#[]⟩]⟩ := Eq.trans rfl rfl
theorem row84 : tab.row 84 = ⟨.int .u8, 1, 1, [.int .u8 0]⟩ := Eq.trans rfl rfl
theorem row85 : tab.row 85 = ⟨.int .u8, 1, 1, [.int .u8 0]⟩ := Eq.trans rfl rfl
theorem row87 : tab.row 87 = ⟨.pointer 5, 1, 8, [.pointer none]⟩ := Eq.trans rfl rfl
theorem row88 : tab.row 88 = ⟨.int .i32, 1, 4, [.int .i32 0]⟩ := Eq.trans rfl rfl
theorem row89 : tab.row 89 = ⟨.int .i32, 1, 4, [.int .i32 0]⟩ := Eq.trans rfl rfl
theorem row90 : tab.row 90 = ⟨.struct [(0, 1, 12), (1, 1, 12), (2, 1, 74), (3, 1, 84), (4, 1, 5), (5, 1, 5), (6, 1, 85), (7, 1, 86), (8, 1, 87), (9, 1, 88), (10, 1, 89)], 11, 48, [.int .u64 0, .int .u64 0, .int .u32 0, .int .u8 0, .int .u8 0, .int .u8 0, .int .u8 0, .nilFunc, .pointer none, .int .i32 0, .int .i32 0]⟩ := Eq.trans rfl rfl
theorem row91 : tab.row 91 = ⟨.struct [(0, 1, 12), (1, 1, 12), (2, 1, 74), (3, 1, 84), (4, 1, 5), (5, 1, 5), (6, 1, 85), (7, 1, 86), (8, 1, 87), (9, 1, 88), (10, 1, 89)], 11, 48, [.int .u64 0, .int .u64 0, .int .u32 0, .int .u8 0, .int .u8 0, .int .u8 0, .int .u8 0, .nilFunc, .pointer none, .int .i32 0, .int .i32 0]⟩ := Eq.trans rfl rfl
attribute [go_sem] row2 row3 row4 row5 row6 row7 row8 row9 row10 row11 row12 row13 row14 row15 row16 row17 row18 row19 row21 row22 row23 row24 row25 row26 row29 row53 row54 row58 row68 row69 row70 row71 row72 row74 row78 row79 row84 row85 row87 row88 row89 row90 row91
end Go.Proofs.W

namespace Go.Proofs.W
open Go Go.AM
set_option linter.unusedSimpArgs false
set_option linter.unusedVariables false
variable (hm : Tryd.prog.follows .mixedOrders = true)

def inB (n a b : Int) : Bool := decide (a ≤ n) && decide (n ≤ b)
set_option maxRecDepth 10000 in
include hm in
theorem l1In (n a b : Int) : Holds Tryd.prog 32 [.v (.int .i64 n), .v (.int .i64 a), .v (.int .i64 b)] [] (.v (.bool (inB n a b))) [] := by
  refine holds_of (ann := []) tabOk hm Tryd.func32 (by kernel_rfl) rfl ?_
  simp (decide := true) only [Tryd.f32, go_sem, Nat.reduceAdd, Nat.reduceMul, Nat.reduceSub]
  refine Runs.split (fun h => ?_) (fun h => ?_)
  · simp only [decide_eq_true_eq] at h
    have e : inB n a b = decide (n ≤ b) := by simp [inB]; omega
    simp (decide := true) only [e, go_sem, Nat.reduceAdd, Nat.reduceMul, Nat.reduceSub]
    exact Runs.ret_v
  · simp only [decide_eq_false_iff_not] at h
    have e : inB n a b = false := by simp [inB]; omega
    simp (decide := true) only [e, go_sem, Nat.reduceAdd, Nat.reduceMul, Nat.reduceSub]
    exact Runs.ret_v
set_option maxRecDepth 10000 in
include hm in
theorem within (n a b : Int) : Holds Tryd.prog 36 [.v (.int .i64 n), .v (.int .i64 a), .v (.int .i64 b)] [] (.v (.bool (inB n a b))) [] := by
  refine holds_of (ann := []) tabOk hm Tryd.func36 (by kernel_rfl) rfl ?_
  simp (decide := true) only [Tryd.f36, go_sem, Nat.reduceAdd, Nat.reduceMul, Nat.reduceSub]
  refine Runs.split (fun h => ?_) (fun h => ?_)
  · simp only [decide_eq_true_eq] at h
    have e : inB n a b = decide (n ≤ b) := by simp [inB]; omega
    simp (decide := true) only [e, go_sem, Nat.reduceAdd, Nat.reduceMul, Nat.reduceSub]
    exact Runs.ret_v
  · simp only [decide_eq_false_iff_not] at h
    have e : inB n a b = false := by simp [inB]; omega
    simp (decide := true) only [e, go_sem, Nat.reduceAdd, Nat.reduceMul, Nat.reduceSub]
    exact Runs.ret_v
end Go.Proofs.W

namespace Go.Proofs.W
open Go Go.AM
set_option linter.unusedSimpArgs false
set_option linter.unusedVariables false

def mkS (l : List UInt8) : ByteArray := ⟨l.toArray⟩
theorem mkS_list (s : ByteArray) : mkS s.data.toList = s := by cases s; simp [mkS]
theorem mkS_size (l : List UInt8) : (mkS l).size = l.length := by simp [mkS, ByteArray.size]
theorem mkS_data (l : List UInt8) : (mkS l).data.toList = l := by simp [mkS]
theorem list_size (s : ByteArray) : s.data.toList.length = s.size := by rw [Array.length_toList]; rfl
theorem ext_list (s : ByteArray) (a b : Nat) : (s.extract a b).data.toList = (s.data.toList.drop a).take (b - a) := by
  rw [ByteArray.data_extract]; simp [List.extract_eq_take_drop]
theorem getD_lt {l : List UInt8} {i : Nat} (h : i < l.length) : l.getD i 0 = l[i] := by rw [List.getD, List.getElem?_eq_getElem h]; rfl
theorem mkS_ext (s : ByteArray) (a b : Nat) : s.extract a b = mkS ((s.data.toList.drop a).take (b - a)) := by
  rw [← ext_list, mkS_list]
theorem mkS_inj {a b : List UInt8} (h : mkS a = mkS b) : a = b := by rw [← mkS_data a, h, mkS_data]

/-- The parts of a text between marks. -/
def partsL (c : UInt8) : List UInt8 → List (List UInt8)
  | [] => [[]]
  | b :: l => if b = c then [] :: partsL c l else match partsL c l with
    | [] => [[b]]
    | p :: r => (b :: p) :: r
theorem partsL_ne (c : UInt8) (l : List UInt8) : partsL c l ≠ [] := by
  cases l with
  | nil => simp [partsL]
  | cons b l => unfold partsL; split; simp; split <;> simp
theorem partsL_cut (c : UInt8) : ∀ (p r : List UInt8), (∀ b ∈ p, b ≠ c) → partsL c (p ++ c :: r) = p :: partsL c r
  | [], r, _ => by simp [partsL]
  | b :: p, r, h => by
    rw [List.cons_append, partsL, if_neg (h b (by simp)), partsL_cut c p r fun x hx => h x (by simp [hx])]
theorem partsL_no (c : UInt8) : ∀ (p : List UInt8), (∀ b ∈ p, b ≠ c) → partsL c p = [p]
  | [], _ => by simp [partsL]
  | b :: p, h => by
    rw [partsL, if_neg (h b (by simp)), partsL_no c p fun x hx => h x (by simp [hx])]
theorem partsL_len (c : UInt8) : ∀ l : List UInt8, (partsL c l).length = l.count c + 1
  | [] => by simp [partsL]
  | b :: l => by
    have ih := partsL_len c l
    unfold partsL
    split
    · rename_i h; subst h; simp [ih]
    · rename_i h
      rw [List.count_cons_of_ne (by simpa using h)]
      split
      · rename_i e; rw [e] at ih; simp at ih
      · rename_i p r e; rw [e] at ih; simpa using ih
theorem partsL_sum (c : UInt8) : ∀ (l : List UInt8), ∀ p ∈ partsL c l, p.length ≤ l.length
  | [], p, h => by simp [partsL] at h; simp [h]
  | b :: l, p, h => by
    have ih := partsL_sum c l
    unfold partsL at h
    split at h
    · rcases List.mem_cons.mp h with h | h
      · simp [h]
      · have := ih p h; simp; omega
    · split at h
      · simp at h; simp [h]
      · rename_i q r e
        rw [e] at ih
        rcases List.mem_cons.mp h with h | h
        · have := ih q (by simp); simp [h]; omega
        · have := ih p (by simp [h]); simp; omega
theorem idx_none {c : UInt8} {l : List UInt8} (h : Lib.indexByte l c = -1) : ∀ b ∈ l, b ≠ c := by
  intro b hb e
  obtain ⟨i, hi, e2⟩ := List.getElem_of_mem hb
  exact Lib.indexByte_none h i (by rw [List.getElem?_eq_getElem hi, e2, e])
theorem idx_some {c : UInt8} {l : List UInt8} {m : Nat} (h : Lib.indexByte l c = m) : ∃ p r, l = p ++ c :: r ∧ p.length = m ∧ ∀ b ∈ p, b ≠ c := by
  obtain ⟨h1, h2⟩ := Lib.indexByte_some h
  obtain ⟨hm, e⟩ := List.getElem?_eq_some_iff.mp h1
  refine ⟨l.take m, l.drop (m + 1), ?_, by simp; omega, ?_⟩
  · rw [← e, ← List.drop_eq_getElem_cons hm, List.take_append_drop]
  · intro b hb e2
    obtain ⟨i, hi, e3⟩ := List.getElem_of_mem hb
    simp at hi
    rw [List.getElem_take] at e3
    exact h2 i (by omega) (by rw [List.getElem?_eq_getElem (by omega), e3, e2])
theorem count_none {c : UInt8} {l : List UInt8} (h : l.count c = 0) : ∀ b ∈ l, b ≠ c := by
  intro b hb e
  subst e
  exact absurd (List.count_pos_iff.mpr hb) (by omega)
theorem count_cut {c : UInt8} {p r : List UInt8} (h : ∀ b ∈ p, b ≠ c) : (p ++ c :: r).count c = r.count c + 1 := by
  rw [List.count_append, List.count_cons_self, List.count_eq_zero.mpr fun hc => h c hc rfl]; omega

def partsB (s : ByteArray) : List ByteArray := (partsL 46 s.data.toList).map mkS
theorem partsB_len (s : ByteArray) : (partsB s).length = s.data.toList.count 46 + 1 := by simp [partsB, partsL_len]
theorem partsB_le (s : ByteArray) : (partsB s).length ≤ s.size + 1 := by
  rw [partsB_len, ← list_size]
  have := List.count_le_length (a := (46 : UInt8)) (l := s.data.toList)
  omega
theorem partsB_sz (s : ByteArray) : ∀ p ∈ partsB s, p.size ≤ s.size := by
  intro p hp
  obtain ⟨q, hq, rfl⟩ := List.mem_map.mp hp
  rw [mkS_size, ← list_size]
  exact partsL_sum 46 _ q hq

def digC (b : UInt8) : Bool := inB b.toNat 48 57
def dashC (b : UInt8) : Bool := decide ((b.toNat : Int) = 45)
def okC (b : UInt8) : Bool := inB b.toNat 97 122 || digC b || dashC b
def labelB (s : ByteArray) : Bool := s.data.toList.all okC && inB s.size 1 20 && !dashC (s.data.toList.getD 0 0) && !dashC (s.data.toList.getD (s.size - 1) 0)
def digitsB (s : ByteArray) : Bool := s.data.toList.all digC && decide ((s.size : Int) > 0)
def lastB (L : List ByteArray) : ByteArray := L.getD (L.length - 1) ⟨#[]⟩
def hostB (s : ByteArray) : Bool := decide (s.size ≤ 80) && (partsB s).all labelB && decide ((partsB s).length ≤ 8) && !(lastB (partsB s)).data.toList.all digC
def dotC (b : UInt8) : Bool := decide ((b.toNat : Int) = 46)
def underB (b h : ByteArray) : Bool := hostB b && hostB h && ((b.toList == h.toList) || (decide ((h.size : Int) - b.size > 0) && ((h.extract (h.size - b.size) h.size).toList == b.toList) && dotC (h.data.toList.getD (h.size - b.size - 1) 0)))
def allowedB (al de : List ByteArray) (h : ByteArray) : Bool := hostB h && (decide (al.length = 0) || al.any fun b => underB b h) && !(de.any fun b => underB b h)
end Go.Proofs.W

namespace Go.Proofs.W
open Go Go.AM
set_option linter.unusedSimpArgs false
set_option linter.unusedVariables false
variable (hm : Tryd.prog.follows .mixedOrders = true)

theorem repL_vs {C : Ctx} {w : World} : ∀ {vs xs : List Value} {f}, RepL C w (vs.map A.v) xs f → xs = vs ∧ ∀ b, f b = 0
  | [], _, _, h => by cases h with | nil h => exact ⟨rfl, h⟩
  | v :: vs, _, _, h => by
    rw [List.map_cons] at h
    cases h with | v h => have := repL_vs h; exact ⟨by rw [this.1], this.2⟩

/-- A function of Go's library whose contract the kit's walker has shown: values in, a value out, the world as it was. -/
theorem holds_same {P : Program} {f : Nat} {vs : List Value} {r : Value} (hf : ∃ fn c, P.funcs[f]? = some fn ∧ (fn.name == "runtime.NumGoroutine") = false ∧ fn.body = some c)
    (h : ∀ w, Calls P f vs.toArray w fun e w' => e = .returned r ∧ w' = w) : Holds P f (vs.map .v) [] (.v r) [] where
  fn := hf
  calls := by
    intro C w xs fx fa hF hB hI hX hM hle hno hR
    obtain ⟨rfl, h0⟩ := repL_vs hR
    have hx : ∀ b, fx b = 0 := by
      have hM : MemR C w [] fx := hM
      cases hM with | nil h => exact h
    refine (h w).mono ?_
    rintro e w' ⟨rfl, rfl⟩
    refine ⟨C, fun _ => 0, fun _ => 0, Ctx.ToX.refl C, rfl, hB, fun _ h => h, fun _ h => .inl h, hI, hX, Same.refl _ _, .nil fun _ => rfl, .v (.nil fun _ => rfl), fun _ => Nat.zero_le _, fun b hb => absurd hb (by simp)⟩
set_option maxHeartbeats 1000000 in
set_option maxRecDepth 100000 in
theorem indexByteC (s : ByteArray) (c : Int) (w : World) :
    Calls Tryd.prog 59 #[.string s, .int .u8 c] w fun e w' => e = .returned (.int .i64 (Lib.indexByte s.data.toList c.toNat.toUInt8)) ∧ w' = w := by
  go_enter Tryd.func59, Tryd.ntmps59
  go_wp2
  rw [run_callFunc_extern Tryd.func65 (by kernel_rfl) (by kernel_rfl) (by kernel_rfl) (e := Extern.BytealgIndexByte.indexByte) (by kernel_rfl), Lib.run_indexByteString]
  simp only [Result.andThen]
  rw [Oper.upon_value]
  go_wp2
  go_ret
  exact ⟨rfl, rfl⟩

theorem indexByteH (s : ByteArray) (c : Int) : Holds Tryd.prog 59 [.v (.string s), .v (.int .u8 c)] [] (.v (.int .i64 (Lib.indexByte s.data.toList c.toNat.toUInt8))) [] :=
  holds_same (vs := [.string s, .int .u8 c]) ⟨_, _, Tryd.func59, by kernel_rfl, rfl⟩ fun w => indexByteC s c w
set_option maxHeartbeats 1000000 in
set_option maxRecDepth 100000 in
theorem countC (s : ByteArray) (c : UInt8) (w : World) :
    Calls Tryd.prog 46 #[.string s, .string ⟨#[c]⟩] w fun e w' => e = .returned (.int .i64 (Lib.countByte s.data.toList c)) ∧ w' = w := by
  go_enter Tryd.func46, Tryd.ntmps46
  go_wp2
  rw [run_callFunc_extern Tryd.func54 (by kernel_rfl) (by kernel_rfl) (by kernel_rfl) (e := Extern.BytealgCount.count) (by kernel_rfl), Lib.run_countString]
  simp only [Result.andThen]
  rw [Oper.upon_value]
  go_wp2
  go_ret
  exact ⟨rfl, rfl⟩

theorem countH (s : ByteArray) (c : UInt8) : Holds Tryd.prog 46 [.v (.string s), .v (.string ⟨#[c]⟩)] [] (.v (.int .i64 (Lib.countByte s.data.toList c))) [] :=
  holds_same (vs := [.string s, .string ⟨#[c]⟩]) ⟨_, _, Tryd.func46, by kernel_rfl, rfl⟩ fun w => countC s c w
end Go.Proofs.W

namespace Go.Proofs.W
open Go Go.AM
set_option linter.unusedSimpArgs false
set_option linter.unusedVariables false
variable (hm : Tryd.prog.follows .mixedOrders = true)

theorem indexByte_lt (l : List UInt8) (c : UInt8) : Lib.indexByte l c = -1 ∨ ∃ m : Nat, Lib.indexByte l c = m ∧ m < l.length := by
  have := Lib.indexByte_ge l c
  rcases Int.lt_or_le (Lib.indexByte l c) 0 with h | h
  · left; omega
  · right
    obtain ⟨m, e⟩ := Int.eq_ofNat_of_zero_le h
    refine ⟨m, e, ?_⟩
    obtain ⟨p, r, e1, e2, _⟩ := idx_some e
    rw [e1]; simp; omega
set_option maxRecDepth 10000 in
include hm in
theorem index1 (s : ByteArray) : Holds Tryd.prog 55 [.v (.string s), .v (.string ⟨#[46]⟩)] [] (.v (.int .i64 (Lib.indexByte s.data.toList 46))) [] := by
  refine holds_of (ann := []) tabOk hm Tryd.func55 (by kernel_rfl) rfl ?_
  simp (decide := true) only [Tryd.f55, go_sem, Nat.reduceAdd, Nat.reduceMul, Nat.reduceSub]
  have e2 : Int.toNat 0 = 0 := rfl
  refine Runs.split (fun h => ?_) (fun h => ?_)
  · have e : s = ⟨#[46]⟩ := by
      rw [beq_iff_eq, Lib.toList_data, Lib.toList_data] at h
      rw [← mkS_list s, ← h]; rfl
    rw [e]
    simp (decide := true) only [go_sem, Nat.reduceAdd, Nat.reduceMul, Nat.reduceSub]
    exact Runs.ret_eq (by rw [show Lib.indexByte (ByteArray.mk #[46]).data.toList 46 = 0 by decide])
  · simp (decide := true) only [e2, go_sem, Nat.reduceAdd, Nat.reduceMul, Nat.reduceSub]
    refine Runs.call (indexByteH s 46) ?_
    simp (decide := true) only [go_sem, Nat.reduceAdd, Nat.reduceMul, Nat.reduceSub]
    exact Runs.ret_eq rfl

include hm in
theorem sindex1 (s : ByteArray) : Holds Tryd.prog 47 [.v (.string s), .v (.string ⟨#[46]⟩)] [] (.v (.int .i64 (Lib.indexByte s.data.toList 46))) [] := by
  refine holds_of (ann := []) tabOk hm Tryd.func47 (by kernel_rfl) rfl ?_
  simp (decide := true) only [Tryd.f47, go_sem, Nat.reduceAdd, Nat.reduceMul, Nat.reduceSub]
  refine Runs.call (index1 hm s) ?_
  simp (decide := true) only [go_sem, Nat.reduceAdd, Nat.reduceMul, Nat.reduceSub]
  exact Runs.ret_v
def gsRow (N : Nat) (D : List ByteArray) : List A := D.map strA ++ List.replicate (N - D.length) (.v (.string ⟨#[]⟩))
theorem gsRow_len {N : Nat} {D : List ByteArray} (h : D.length ≤ N) : (gsRow N D).length = N := by simp [gsRow]; omega
theorem gsRow_zero (N : Nat) : gsRow N [] = List.replicate N (.v (.string ⟨#[]⟩)) := by simp [gsRow]
theorem gsRow_set {N : Nat} {D : List ByteArray} (h : D.length < N) (p : ByteArray) : (gsRow N D).set D.length (.v (.string p)) = gsRow N (D ++ [p]) := by
  unfold gsRow
  have e : N - D.length = (N - (D.length + 1)) + 1 := by omega
  rw [List.set_append_right _ _ (by simp), List.length_map, Nat.sub_self, e, List.replicate_succ, List.set_cons_zero]
  simp [strA]
theorem gsRow_get {N : Nat} {D : List ByteArray} (h : D.length < N) : (gsRow N D).getD D.length .any = .v (.string ⟨#[]⟩) := by
  unfold gsRow
  have e : N - D.length = (N - (D.length + 1)) + 1 := by omega
  rw [List.getD, List.getElem?_append_right (by simp), List.length_map, Nat.sub_self, e, List.replicate_succ]
  rfl
def gsAnn : Ann := [(0, [0, 1, 2, 3, 9, 10])]
def gsSt (N : Nat) (p : List ByteArray × ByteArray) : St := ⟨[.v (.string p.2), .v (.string ⟨#[46]⟩), .v (.int .i64 0), .v (.int .i64 ((N : Int) - 1)), .any, .any, .any, .any, .any, .ms (.l 0) 0 N N, .v (.int .i64 p.1.length), .any, .any, .any, .any, .any, .any, .any, .any, .any, .any, .any, .any, .any, .any, .any, .any, .any, .any, .any, .any, .any, .any, .any, .any, .any, .any, .any, .any, .any, .any, .any, .any, .any, .any, .any, .any, .any, .any, .any, .any, .any, .any, .any, .any, .any, .any, .any, .any, .any, .any, .any, .any, .any, .any, .any], [(0, ⟨true, 1, false, gsRow N p.1⟩)], []⟩
set_option maxHeartbeats 4000000 in
set_option maxRecDepth 10000 in
include hm in
theorem genSplit1 (s : ByteArray) (h : s.size ≤ 1048576) : Holds Tryd.prog 33 [.v (.string s), .v (.string ⟨#[46]⟩), .v (.int .i64 0), .v (.int .i64 (-1))] [] (.sl (.ow 1) ((partsB s).map strA)) [] := by
  refine holds_of (ann := gsAnn) tabOk hm Tryd.func33 (by kernel_rfl) rfl ?_
  have hz := list_size s
  have hle := partsB_le s
  obtain ⟨N, hN⟩ : ∃ N, N = (partsB s).length := ⟨_, rfl⟩
  have hN2 := hN
  rw [partsB_len] at hN2
  have hb46 : ((⟨#[46]⟩ : ByteArray).toList == (⟨#[]⟩ : ByteArray).toList) = false := by rw [Lib.toList_data, Lib.toList_data]; decide
  simp (decide := true) only [Tryd.f33, hb46, go_sem, Nat.reduceAdd, Nat.reduceMul, Nat.reduceSub]
  refine Runs.call (countH s 46) ?_
  have e0 : (Lib.countByte s.data.toList 46 : Int) = (N : Int) - 1 := by rw [hN2, Lib.countByte]; omega
  have e1 : IntKind.i64.wrap ((N : Int) - 1 + 1) = N := by rw [wrap_i64 (by omega) (by omega)]; omega
  have e3 : IntKind.i64.wrap ((s.size : Int) + 1) = (s.size : Int) + 1 := wrap_i64 (by omega) (by omega)
  have e4 : (if (s.size : Int) + 1 < N then (s.size : Int) + 1 else (N : Int)) = N := if_neg (by omega)
  simp (decide := true) (disch := first | omega | (simp only [List.length_map, List.length_cons, List.length_append, List.length_nil]; omega)) only [e0, e1, e3, e4, if_pos, go_sem, Nat.reduceAdd, Nat.reduceMul, Nat.reduceSub]
  refine Runs.while (α := List ByteArray × ByteArray) (gsSt N) (fun p => N - p.1.length) (fun p => p.1.length < N ∧ partsB s = p.1 ++ partsB p.2 ∧ p.2.size ≤ s.size) ([], s) ⟨by simp; omega, by simp, Nat.le_refl _⟩ ?_ ?_
  · simp [go_sem, gsAnn, gsSt, gsRow_zero]
  · rintro ⟨D, r⟩ ⟨hd, hp, hr⟩ ih
    simp only at hd hp hr
    have hlen := gsRow_len (Nat.le_of_lt hd)
    have hcnt : N = D.length + (partsB r).length := by rw [hN, hp, List.length_append]
    have hrz := list_size r
    have hset := gsRow_set hd
    have hlen2 : ∀ x, (gsRow N (D ++ [x])).length = N := fun x => gsRow_len (by simp; omega)
    have hget := gsRow_get hd
    simp (decide := true) (disch := first | omega | (simp only [List.length_map, List.length_cons, List.length_append, List.length_nil]; omega)) only [gsSt, hlen, if_pos, go_sem, Nat.reduceAdd, Nat.reduceMul, Nat.reduceSub]
    refine Runs.split (fun h => ?_) (fun h => ?_)
    · have h2 : 2 ≤ (partsB r).length := by simp at h; omega
      simp (decide := true) only [go_sem, Nat.reduceAdd, Nat.reduceMul, Nat.reduceSub]
      refine Runs.call (sindex1 hm r) ?_
      rcases indexByte_lt r.data.toList 46 with hi | ⟨m, hi, hml⟩
      · rw [partsB, List.length_map, partsL_no 46 _ (idx_none hi)] at h2
        simp at h2
      · obtain ⟨p, q, e5, e6, e7⟩ := idx_some hi
        rw [hi]
        have e8 : partsB r = mkS p :: partsB (mkS q) := by rw [partsB, e5, partsL_cut 46 p q e7, partsB, mkS_data]; rfl
        have x1 : r.extract 0 m = mkS p := by rw [mkS_ext, e5, ← e6]; simp
        have x2 : r.extract (m + 1) r.size = mkS q := by
          rw [mkS_ext, e5]
          rw [show p ++ 46 :: q = (p ++ [46]) ++ q by simp, List.drop_left' (by simp; omega), List.take_of_length_le]
          rw [e5] at hrz; simp at hrz; omega
        have x3 : (mkS q).size ≤ r.size := by rw [mkS_size]; rw [e5] at hrz; simp at hrz; omega
        have d0 : decide ((m : Int) < 0) = false := by simp
        have x4 : ((m : Int) + 1).toNat = m + 1 := by omega
        have y1 : ((#[(46 : UInt8)].size : Nat) : Int) = 1 := rfl
        simp (decide := true) (disch := first | omega | (simp only [List.length_map, List.length_cons, List.length_append, List.length_nil]; omega)) only [d0, y1, Int.add_zero, x1, x2, x4, hlen, hset, hget, hlen2, if_pos, go_sem, Nat.reduceAdd, Nat.reduceMul, Nat.reduceSub]
        refine ih (D ++ [mkS p], mkS q) _ (by simp only [List.length_append, List.length_cons, List.length_nil]; omega) ⟨by simp; simp at h; omega, ?_, by simp only; omega⟩ ?_
        · simp only; rw [hp, e8]; simp
        · simp [go_sem, gsAnn, gsSt, x1]
    · have h1 : (partsB r).length = 1 := by
        have : 1 ≤ (partsB r).length := by rw [partsB_len]; omega
        simp at h; omega
      have e5 : partsB r = [r] := by
        have hc : r.data.toList.count 46 = 0 := by rw [partsB_len] at h1; omega
        rw [partsB, partsL_no 46 _ (count_none hc)]; simp [mkS_list]
      have hN1 : N = D.length + 1 := by omega
      have e6 : gsRow N (D ++ [r]) = (partsB s).map strA := by rw [gsRow, hp, e5]; simp [hN1]
      have b1 : decide (0 ≤ (D.length : Int) + 1 ∧ (D.length : Int) + 1 ≤ N ∧ (D.length : Int) + 1 ≤ (D.length : Int) + 1 ∧ (D.length : Int) + 1 ≤ N) = true := by simp; omega
      have t1 : ((D.length : Int) + 1).toNat = N := by omega
      have t0 : Int.toNat 0 = 0 := rfl
      simp (decide := true) (disch := first | omega | (simp only [List.length_map, List.length_cons, List.length_append, List.length_nil]; omega)) only [hlen, hset, hget, hlen2, b1, t1, t0, Nat.sub_zero, if_pos, go_sem, Nat.reduceAdd, Nat.reduceMul, Nat.reduceSub]
      refine Runs.ret_eq ?_
      rw [List.take_of_length_le (by rw [hlen2]; exact Nat.le_refl _), e6]
end Go.Proofs.W

namespace Go.Proofs.W
open Go Go.AM
set_option linter.unusedSimpArgs false
set_option linter.unusedVariables false
variable (hm : Tryd.prog.follows .mixedOrders = true)

set_option maxRecDepth 10000 in
include hm in
theorem split1 (s : ByteArray) (h : s.size ≤ 1048576) : Holds Tryd.prog 25 [.v (.string s), .v (.string ⟨#[46]⟩)] [] (.sl (.ow 1) ((partsB s).map strA)) [] := by
  refine holds_of (ann := []) tabOk hm Tryd.func25 (by kernel_rfl) rfl ?_
  simp (decide := true) only [Tryd.f25, go_sem, Nat.reduceAdd, Nat.reduceMul, Nat.reduceSub]
  refine Runs.call (genSplit1 hm s h) ?_
  simp (decide := true) (disch := first | omega | (simp only [List.length_map, List.length_cons, List.length_append, List.length_nil]; omega)) only [if_pos, go_sem, Nat.reduceAdd, Nat.reduceMul, Nat.reduceSub]
  exact Runs.ret_refl
set_option maxRecDepth 10000 in
include hm in
theorem isDigit (b : UInt8) : Holds Tryd.prog 35 [.v (.int .u8 b.toNat)] [] (.v (.bool (digC b))) [] := by
  refine holds_of (ann := []) tabOk hm Tryd.func35 (by kernel_rfl) rfl ?_
  simp (decide := true) only [Tryd.f35, go_sem, Nat.reduceAdd, Nat.reduceMul, Nat.reduceSub]
  refine Runs.split (fun h => ?_) (fun h => ?_)
  · simp (decide := true) only [go_sem, Nat.reduceAdd, Nat.reduceMul, Nat.reduceSub]
    exact Runs.ret_eq (by simp at h; simp [digC, inB]; omega)
  · simp (decide := true) only [go_sem, Nat.reduceAdd, Nat.reduceMul, Nat.reduceSub]
    exact Runs.ret_eq (by simp at h; simp [digC, inB]; omega)
def ilAnn : Ann := [(0, [0, 6, 7])]
def ilSt (s : ByteArray) (i : Nat) : St := ⟨[.v (.string s), .any, .any, .any, .any, .any, .v (.int .i64 s.size), .v (.int .i64 i), .any, .any, .any, .any, .any, .any, .any, .any, .any, .any, .any, .any, .any, .any, .any, .any, .any, .any, .any, .any, .any, .any, .any, .any, .any, .any, .any, .any, .any, .any, .any, .any, .any, .any, .any, .any, .any], [], []⟩
set_option maxRecDepth 10000 in
include hm in
theorem isLabel (s : ByteArray) (h : s.size ≤ 1048576) : Holds Tryd.prog 28 [.v (.string s)] [] (.v (.bool (labelB s))) [] := by
  refine holds_of (ann := ilAnn) tabOk hm Tryd.func28 (by kernel_rfl) rfl ?_
  simp (decide := true) only [Tryd.f28, go_sem, Nat.reduceAdd, Nat.reduceMul, Nat.reduceSub]
  have hz := list_size s
  refine Runs.while (α := Nat) (ilSt s) (fun i => s.size - i) (fun i => i ≤ s.size ∧ (s.data.toList.drop i).all okC = s.data.toList.all okC) 0 ⟨by omega, by simp⟩ ?_ ?_
  · simp [go_sem, ilAnn, ilSt]
  · rintro i ⟨hi, hr⟩ ih
    simp (decide := true) only [ilSt, go_sem, Nat.reduceAdd, Nat.reduceMul, Nat.reduceSub]
    refine Runs.split (fun h => ?_) (fun h => ?_)
    · have hlt : i < s.data.toList.length := by simp at h; omega
      have hg : s.data.toList.getD i 0 = s.data.toList[i] := getD_lt hlt
      have hb := UInt8.toNat_lt s.data.toList[i]
      rw [List.drop_eq_getElem_cons hlt, List.all_cons] at hr
      have next : okC s.data.toList[i] = true → (s.data.toList.drop (i + 1)).all okC = s.data.toList.all okC := fun h => by rw [← hr, h, Bool.true_and]
      have stop : okC s.data.toList[i] = false → labelB s = false := fun h => by rw [labelB, ← hr, h]; simp
      simp (decide := true) (disch := first | omega | (simp only [List.length_map, List.length_cons, List.length_append, List.length_nil]; omega)) only [hg, if_pos, go_sem, Nat.reduceAdd, Nat.reduceMul, Nat.reduceSub]
      refine Runs.call (isDigit hm _) ?_
      cases h1 : digC s.data.toList[i]
      · simp (decide := true) only [go_sem, Nat.reduceAdd, Nat.reduceMul, Nat.reduceSub]
        cases h2 : decide ((s.data.toList[i].toNat : Int) < 97)
        · simp (decide := true) only [go_sem, Nat.reduceAdd, Nat.reduceMul, Nat.reduceSub]
          cases h3 : decide ((s.data.toList[i].toNat : Int) > 122)
          · simp (decide := true) (disch := first | omega | (simp only [List.length_map, List.length_cons, List.length_append, List.length_nil]; omega)) only [if_pos, go_sem, Nat.reduceAdd, Nat.reduceMul, Nat.reduceSub]
            have ho : okC s.data.toList[i] = true := by simp at h2 h3; simp [okC, inB]; omega
            refine ih (i + 1) _ (by omega) ⟨by omega, next ho⟩ ?_
            simp [go_sem, ilAnn, ilSt]
          · simp (decide := true) only [go_sem, Nat.reduceAdd, Nat.reduceMul, Nat.reduceSub]
            cases h4 : decide ((s.data.toList[i].toNat : Int) = 45)
            · simp (decide := true) (disch := first | omega | (simp only [List.length_map, List.length_cons, List.length_append, List.length_nil]; omega)) only [if_pos, go_sem, Nat.reduceAdd, Nat.reduceMul, Nat.reduceSub]
              have ho : okC s.data.toList[i] = false := by simp only [okC, h1, dashC, h4, inB, Bool.or_false]; simp at h2 h3; simp; omega
              exact Runs.ret_eq (by rw [stop ho])
            · simp (decide := true) (disch := first | omega | (simp only [List.length_map, List.length_cons, List.length_append, List.length_nil]; omega)) only [if_pos, go_sem, Nat.reduceAdd, Nat.reduceMul, Nat.reduceSub]
              have ho : okC s.data.toList[i] = true := by simp only [okC, h1, dashC, h4, Bool.or_true]
              refine ih (i + 1) _ (by omega) ⟨by omega, next ho⟩ ?_
              simp [go_sem, ilAnn, ilSt]
        · simp (decide := true) only [go_sem, Nat.reduceAdd, Nat.reduceMul, Nat.reduceSub]
          cases h4 : decide ((s.data.toList[i].toNat : Int) = 45)
          · simp (decide := true) (disch := first | omega | (simp only [List.length_map, List.length_cons, List.length_append, List.length_nil]; omega)) only [if_pos, go_sem, Nat.reduceAdd, Nat.reduceMul, Nat.reduceSub]
            have ho : okC s.data.toList[i] = false := by simp only [okC, h1, dashC, h4, inB, Bool.or_false]; simp at h2; simp; omega
            exact Runs.ret_eq (by rw [stop ho])
          · simp (decide := true) (disch := first | omega | (simp only [List.length_map, List.length_cons, List.length_append, List.length_nil]; omega)) only [if_pos, go_sem, Nat.reduceAdd, Nat.reduceMul, Nat.reduceSub]
            have ho : okC s.data.toList[i] = true := by simp only [okC, h1, dashC, h4, Bool.or_true]
            refine ih (i + 1) _ (by omega) ⟨by omega, next ho⟩ ?_
            simp [go_sem, ilAnn, ilSt]
      · simp (decide := true) (disch := first | omega | (simp only [List.length_map, List.length_cons, List.length_append, List.length_nil]; omega)) only [if_pos, go_sem, Nat.reduceAdd, Nat.reduceMul, Nat.reduceSub]
        refine ih (i + 1) _ (by omega) ⟨by omega, next (by simp only [okC, h1]; simp)⟩ ?_
        simp [go_sem, ilAnn, ilSt]
    · have hge : i = s.size := by simp at h; omega
      rw [List.drop_of_length_le (by omega), List.all_nil] at hr
      simp (decide := true) only [go_sem, Nat.reduceAdd, Nat.reduceMul, Nat.reduceSub]
      refine Runs.call (within hm _ 1 20) ?_
      cases h1 : inB s.size 1 20
      · simp (decide := true) only [go_sem, Nat.reduceAdd, Nat.reduceMul, Nat.reduceSub]
        exact Runs.ret_eq (by rw [labelB, h1]; simp)
      · have hp : 1 ≤ s.size := by simp [inB] at h1; omega
        have ht : ((s.size : Int) - 1).toNat = s.size - 1 := by omega
        have hb0 : decide ((0 : Int) ≤ 0 ∧ (0 : Int) < s.size) = true := by simp; omega
        have hb1 : decide (0 ≤ (s.size : Int) - 1 ∧ (s.size : Int) - 1 < s.size) = true := by simp; omega
        have t0 : Int.toNat 0 = 0 := rfl
        simp (decide := true) (disch := first | omega | (simp only [List.length_map, List.length_cons, List.length_append, List.length_nil]; omega)) only [hb0, t0, if_pos, go_sem, Nat.reduceAdd, Nat.reduceMul, Nat.reduceSub]
        cases h2 : dashC (s.data.toList.getD 0 0) <;> (unfold dashC at h2; simp (decide := true) (disch := first | omega | (simp only [List.length_map, List.length_cons, List.length_append, List.length_nil]; omega)) only [h2, ht, hb1, if_pos, go_sem, Nat.reduceAdd, Nat.reduceMul, Nat.reduceSub]; exact Runs.ret_eq (by simp only [labelB, dashC, ← hr, h1, h2, Bool.true_and, Bool.not_false, Bool.not_true, Bool.false_and]))
include hm in
theorem notLabel (s : ByteArray) (h : s.size ≤ 1048576) : Holds Tryd.prog 27 [.v (.string s)] [] (.v (.bool (!labelB s))) [] := by
  refine holds_of (ann := []) tabOk hm Tryd.func27 (by kernel_rfl) rfl ?_
  simp (decide := true) only [Tryd.f27, go_sem, Nat.reduceAdd, Nat.reduceMul, Nat.reduceSub]
  refine Runs.call (isLabel hm s h) ?_
  simp (decide := true) only [go_sem, Nat.reduceAdd, Nat.reduceMul, Nat.reduceSub]
  exact Runs.ret_v
def ifAnn : Ann := [(0, [0, 1, 7, 8])]
def ifSt (f : A) (L : List ByteArray) (i : Nat) : St := ⟨[.sl .sh (L.map strA), f, .any, .any, .any, .any, .any, .v (.int .i64 L.length), .v (.int .i64 i), .any, .any, .any, .any, .any, .any, .any, .any, .any, .any], [], []⟩
set_option maxRecDepth 10000 in
include hm in
theorem indexFunc0 (g : Nat) (L : List ByteArray) (q : ByteArray → Bool) (h : L.length ≤ 1048576) (hq : ∀ s ∈ L, Holds Tryd.prog g [.v (.string s)] [] (.v (.bool (q s))) []) :
    ∃ n : Int, decide (n ≥ 0) = L.any q ∧ Holds Tryd.prog 34 [.sl .sh (L.map strA), .v (.func (.func g) #[] #[])] [] (.v (.int .i64 n)) [] := by
  refine ⟨if L.any q = true then (L.findIdx q : Int) else -1, by cases h : L.any q <;> simp, ?_⟩
  refine holds_of (ann := ifAnn) tabOk hm Tryd.func34 (by kernel_rfl) rfl ?_
  simp (decide := true) only [Tryd.f34, go_sem, Nat.reduceAdd, Nat.reduceMul, Nat.reduceSub]
  have ha : (L.map strA).length = L.length := List.length_map _
  refine Runs.while (α := Nat) (ifSt (.v (.func (.func g) #[] #[])) L) (fun i => L.length - i) (fun i => i ≤ L.length ∧ ∀ j (hj : j < L.length), j < i → q L[j] = false) 0 ⟨by omega, fun _ _ h => absurd h (by omega)⟩ ?_ ?_
  · simp [go_sem, ifAnn, ifSt]
  · rintro i ⟨hi, hn⟩ ih
    simp (decide := true) only [ifSt, ha, go_sem, Nat.reduceAdd, Nat.reduceMul, Nat.reduceSub]
    refine Runs.split (fun h => ?_) (fun h => ?_)
    · have hlt : i < L.length := by simpa using h
      have hg : (L.map strA).getD i .any = .v (.string L[i]) := by simp [List.getD, hlt, strA]
      simp (decide := true) (disch := first | omega | (simp only [List.length_map, List.length_cons, List.length_append, List.length_nil]; omega)) only [ha, hg, if_pos, go_sem, Nat.reduceAdd, Nat.reduceMul, Nat.reduceSub]
      refine Runs.call (hq L[i] (List.getElem_mem hlt)) ?_
      cases h2 : q L[i]
      · simp (decide := true) (disch := first | omega | (simp only [List.length_map, List.length_cons, List.length_append, List.length_nil]; omega)) only [if_pos, go_sem, Nat.reduceAdd, Nat.reduceMul, Nat.reduceSub]
        refine ih (i + 1) _ (by omega) ⟨by omega, fun j hj hji => ?_⟩ ?_
        · rcases Nat.lt_or_ge j i with h3 | h3
          · exact hn j hj h3
          · have : j = i := by omega
            subst this; exact h2
        · simp [go_sem, ifAnn, ifSt]
      · simp (decide := true) (disch := first | omega | (simp only [List.length_map, List.length_cons, List.length_append, List.length_nil]; omega)) only [if_pos, go_sem, Nat.reduceAdd, Nat.reduceMul, Nat.reduceSub]
        have e1 : L.any q = true := List.any_eq_true.mpr ⟨L[i], List.getElem_mem hlt, h2⟩
        have e2 : L.findIdx q = i := (List.findIdx_eq hlt).mpr ⟨h2, fun j hj => hn j (by omega) hj⟩
        exact Runs.ret_eq (by rw [e1, e2]; rfl)
    · have hge : i = L.length := by simp at h; omega
      have e1 : L.any q = false := by
        rw [List.any_eq_false]
        intro x hx
        obtain ⟨j, hj, rfl⟩ := List.getElem_of_mem hx
        rw [hn j hj (by omega)]; simp
      simp (decide := true) only [go_sem, Nat.reduceAdd, Nat.reduceMul, Nat.reduceSub]
      exact Runs.ret_eq (by rw [e1]; rfl)
include hm in
theorem contFunc0 (g : Nat) (L : List ByteArray) (q : ByteArray → Bool) (h : L.length ≤ 1048576) (hq : ∀ s ∈ L, Holds Tryd.prog g [.v (.string s)] [] (.v (.bool (q s))) []) :
    Holds Tryd.prog 26 [.sl .sh (L.map strA), .v (.func (.func g) #[] #[])] [] (.v (.bool (L.any q))) [] := by
  refine holds_of (ann := []) tabOk hm Tryd.func26 (by kernel_rfl) rfl ?_
  simp (decide := true) only [Tryd.f26, go_sem, Nat.reduceAdd, Nat.reduceMul, Nat.reduceSub]
  obtain ⟨n, hn, hc⟩ := indexFunc0 hm g L q h hq
  refine Runs.call hc ?_
  simp (decide := true) only [hn, go_sem, Nat.reduceAdd, Nat.reduceMul, Nat.reduceSub]
  exact Runs.ret_v
set_option maxRecDepth 10000 in
include hm in
theorem indexFunc1 (g : Nat) (hst : ByteArray) (L : List ByteArray) (q : ByteArray → Bool) (h : L.length ≤ 1048576) (hq : ∀ s ∈ L, Holds Tryd.prog g [.v (.string s), .ptr [.v (.string hst)] 0 0] [] (.v (.bool (q s))) []) :
    ∃ n : Int, decide (n ≥ 0) = L.any q ∧ Holds Tryd.prog 34 [.sl .sh (L.map strA), .fn (.func g) [] [.ptr [.v (.string hst)] 0 0]] [] (.v (.int .i64 n)) [] := by
  refine ⟨if L.any q = true then (L.findIdx q : Int) else -1, by cases h : L.any q <;> simp, ?_⟩
  refine holds_of (ann := ifAnn) tabOk hm Tryd.func34 (by kernel_rfl) rfl ?_
  simp (decide := true) only [Tryd.f34, go_sem, Nat.reduceAdd, Nat.reduceMul, Nat.reduceSub]
  have ha : (L.map strA).length = L.length := List.length_map _
  refine Runs.while (α := Nat) (ifSt (.fn (.func g) [] [.ptr [.v (.string hst)] 0 0]) L) (fun i => L.length - i) (fun i => i ≤ L.length ∧ ∀ j (hj : j < L.length), j < i → q L[j] = false) 0 ⟨by omega, fun _ _ h => absurd h (by omega)⟩ ?_ ?_
  · simp [go_sem, ifAnn, ifSt]
  · rintro i ⟨hi, hn⟩ ih
    simp (decide := true) only [ifSt, ha, go_sem, Nat.reduceAdd, Nat.reduceMul, Nat.reduceSub]
    refine Runs.split (fun h => ?_) (fun h => ?_)
    · have hlt : i < L.length := by simpa using h
      have hg : (L.map strA).getD i .any = .v (.string L[i]) := by simp [List.getD, hlt, strA]
      simp (decide := true) (disch := first | omega | (simp only [List.length_map, List.length_cons, List.length_append, List.length_nil]; omega)) only [ha, hg, if_pos, go_sem, Nat.reduceAdd, Nat.reduceMul, Nat.reduceSub]
      refine Runs.call (hq L[i] (List.getElem_mem hlt)) ?_
      cases h2 : q L[i]
      · simp (decide := true) (disch := first | omega | (simp only [List.length_map, List.length_cons, List.length_append, List.length_nil]; omega)) only [if_pos, go_sem, Nat.reduceAdd, Nat.reduceMul, Nat.reduceSub]
        refine ih (i + 1) _ (by omega) ⟨by omega, fun j hj hji => ?_⟩ ?_
        · rcases Nat.lt_or_ge j i with h3 | h3
          · exact hn j hj h3
          · have : j = i := by omega
            subst this; exact h2
        · simp [go_sem, ifAnn, ifSt]
      · simp (decide := true) (disch := first | omega | (simp only [List.length_map, List.length_cons, List.length_append, List.length_nil]; omega)) only [if_pos, go_sem, Nat.reduceAdd, Nat.reduceMul, Nat.reduceSub]
        have e1 : L.any q = true := List.any_eq_true.mpr ⟨L[i], List.getElem_mem hlt, h2⟩
        have e2 : L.findIdx q = i := (List.findIdx_eq hlt).mpr ⟨h2, fun j hj => hn j (by omega) hj⟩
        exact Runs.ret_eq (by rw [e1, e2]; rfl)
    · have hge : i = L.length := by simp at h; omega
      have e1 : L.any q = false := by
        rw [List.any_eq_false]
        intro x hx
        obtain ⟨j, hj, rfl⟩ := List.getElem_of_mem hx
        rw [hn j hj (by omega)]; simp
      simp (decide := true) only [go_sem, Nat.reduceAdd, Nat.reduceMul, Nat.reduceSub]
      exact Runs.ret_eq (by rw [e1]; rfl)
include hm in
theorem contFunc1 (g : Nat) (hst : ByteArray) (L : List ByteArray) (q : ByteArray → Bool) (h : L.length ≤ 1048576) (hq : ∀ s ∈ L, Holds Tryd.prog g [.v (.string s), .ptr [.v (.string hst)] 0 0] [] (.v (.bool (q s))) []) :
    Holds Tryd.prog 26 [.sl .sh (L.map strA), .fn (.func g) [] [.ptr [.v (.string hst)] 0 0]] [] (.v (.bool (L.any q))) [] := by
  refine holds_of (ann := []) tabOk hm Tryd.func26 (by kernel_rfl) rfl ?_
  simp (decide := true) only [Tryd.f26, go_sem, Nat.reduceAdd, Nat.reduceMul, Nat.reduceSub]
  obtain ⟨n, hn, hc⟩ := indexFunc1 hm g hst L q h hq
  refine Runs.call hc ?_
  simp (decide := true) only [hn, go_sem, Nat.reduceAdd, Nat.reduceMul, Nat.reduceSub]
  exact Runs.ret_v
end Go.Proofs.W

namespace Go.Proofs.W
open Go Go.AM
set_option linter.unusedSimpArgs false
set_option linter.unusedVariables false
variable (hm : Tryd.prog.follows .mixedOrders = true)

def digS : ByteArray := ⟨#[48, 49, 50, 51, 52, 53, 54, 55, 56, 57]⟩
def digSet (i : Nat) : List A := (List.range 256).map fun j => .v (.bool (decide (48 ≤ j ∧ j < 48 + i)))
theorem digSet_len (i : Nat) : (digSet i).length = 256 := by simp [digSet]
theorem digSet_get {i j : Nat} (h : j < 256) : (digSet i).getD j .any = .v (.bool (decide (48 ≤ j ∧ j < 48 + i))) := by
  rw [digSet, List.getD, List.getElem?_map, List.getElem?_range h]; rfl
theorem digSet_set {i : Nat} (h : i < 10) : (digSet i).set (48 + i) (.v (.bool true)) = digSet (i + 1) := by
  apply List.ext_getElem
  · rw [List.length_set, digSet_len, digSet_len]
  · intro j h1 h2
    rw [List.getElem_set]
    simp only [digSet, List.getElem_map, List.getElem_range]
    split
    · rename_i e
      rw [decide_eq_true (by omega)]
    · rename_i e
      have : decide (48 ≤ j ∧ j < 48 + i) = decide (48 ≤ j ∧ j < 48 + (i + 1)) := by
        rw [decide_eq_decide]; constructor <;> (intro h; omega)
      rw [this]
theorem digSet_zero : (repV 256 (.bool false)).map A.v = digSet 0 := by
  rw [digSet, repV]
  apply List.ext_getElem
  · rw [List.length_map, List.length_replicate, List.length_map, List.length_range]
  · intro j h1 h2
    rw [List.getElem_map, List.getElem_replicate, List.getElem_map, List.getElem_range, decide_eq_false (by omega)]
theorem repV_len (v : Value) : (repV 256 v).length = 256 := by rw [repV, List.length_replicate]
theorem digSet_one (i : Nat) : (digSet i).all A.one = true := by
  rw [digSet, List.all_map, List.all_eq_true]; intro x _; rfl
theorem digSet_plain (i : Nat) : plainL (digSet i) = true := by
  rw [digSet, plainL_map, List.all_eq_true]; intro x _; rfl
theorem digSet_keep (st : St) (ks : List Nat) (i : Nat) : (digSet i).map (keepC st ks) = digSet i := by
  rw [digSet, List.map_map]; rfl
theorem digSet_ids (i : Nat) : (digSet i).flatMap cellIds = [] := by
  rw [List.flatMap_eq_nil_iff]
  intro x hx
  rw [digSet, List.mem_map] at hx
  obtain ⟨j, _, rfl⟩ := hx; rfl
theorem roL_vs (g : Go.AM.Id → Option Go.AM.Id) (vs : List Value) : roL g (vs.map .v) = vs.map .v := by
  induction vs with
  | nil => simp [roL]
  | cons v l ih => rw [List.map_cons, roL, A.ro, ih]
theorem outL_bs (st : St) (vs : List Bool) : outL st (vs.map fun b => .v (.bool b)) = some (vs.map fun b => .v (.bool b), st) := by
  induction vs with
  | nil => simp [outL]
  | cons v l ih => simp [outL, ih, outC, insC, Value.oneCell']
theorem inL_bs (st : St) (n : Nat) (vs : List Bool) : inL st n (vs.map fun b => .v (.bool b)) = some (vs.map fun b => .v (.bool b), st) := by
  induction vs generalizing n with
  | nil => simp [inL]
  | cons v l ih => simp [inL, ih, inC]
theorem digSet_in (st : St) (n i : Nat) : inL st n (digSet i) = some (digSet i, st) := by
  have e : digSet i = ((List.range 256).map fun j => decide (48 ≤ j ∧ j < 48 + i)).map fun b => .v (.bool b) := by rw [digSet, List.map_map]; rfl
  rw [e, inL_bs]
theorem digSet_vs (i : Nat) : digSet i = ((List.range 256).map fun j => Value.bool (decide (48 ≤ j ∧ j < 48 + i))).map .v := by
  rw [digSet, List.map_map]; rfl
theorem rnL_vs (g : Go.AM.Id → Go.AM.Id) (vs : List Value) : rnL g (vs.map .v) = vs.map .v := by
  rw [rnL_eq, List.map_map]; rfl
theorem rdL_vs (g : Go.AM.Id → Option Go.AM.Id) (vs : List Value) : rdL g (vs.map .v) = vs.map .v := by
  rw [rdL_eq, List.map_map]; rfl
theorem digSet_rn (g : Go.AM.Id → Go.AM.Id) (i : Nat) : rnL g (digSet i) = digSet i := by rw [digSet_vs, rnL_vs]
theorem digSet_rd (g : Go.AM.Id → Option Go.AM.Id) (i : Nat) : rdL g (digSet i) = digSet i := by rw [digSet_vs, rdL_vs]
theorem digSet_ro (g : Go.AM.Id → Option Go.AM.Id) (i : Nat) : roL g (digSet i) = digSet i := by rw [digSet_vs, roL_vs]
theorem digSet_out (st : St) (i : Nat) : outL st (digSet i) = some (digSet i, st) := by
  have e : digSet i = ((List.range 256).map fun j => decide (48 ≤ j ∧ j < 48 + i)).map fun b => .v (.bool b) := by rw [digSet, List.map_map]; rfl
  rw [e, outL_bs]
theorem setCells_end : ∀ (vs cs : List A) (off : Nat), off + vs.length = cs.length → setCells cs off vs = cs.take off ++ vs
  | [], cs, off, h => by simp [setCells]; rw [List.take_of_length_le (by simp at h; omega)]
  | v :: vs, cs, off, h => by
    simp at h
    rw [setCells, setCells_end vs _ _ (by simp; omega), List.take_add_one, List.getElem?_set_self (by omega)]
    rw [List.take_set_of_le (Nat.le_refl _)]; simp
theorem digSet_setCells (i j : Nat) : setCells (digSet i) 0 (digSet j) = digSet j := by
  rw [setCells_end _ _ _ (by rw [digSet_len, digSet_len])]; rfl
theorem digSet_take (i : Nat) : (digSet i).take 256 = digSet i := List.take_of_length_le (by rw [digSet_len]; exact Nat.le_refl _)
attribute [local go_sem] digSet_keep digSet_ids digSet_ro digSet_out digSet_setCells digSet_take digSet_len digSet_one digSet_plain digSet_zero repV_len
theorem digS_get {i : Nat} (h : i < 10) : (digS.data.toList.getD i 0).toNat = 48 + i := by
  have : i = 0 ∨ i = 1 ∨ i = 2 ∨ i = 3 ∨ i = 4 ∨ i = 5 ∨ i = 6 ∨ i = 7 ∨ i = 8 ∨ i = 9 := by omega
  rcases this with h | h | h | h | h | h | h | h | h | h <;> subst h <;> rfl
def maAnn : Ann := [(0, [0, 2, 3, 4])]
def maSt (i : Nat) : St := ⟨[.v (.string digS), .any, .ref (.l 0) 0 0 1, .v (.bool false), .v (.int .i64 i), .any, .any, .any, .any, .any, .any, .any, .any, .any, .any, .any, .any, .any, .any, .any, .any], [(0, ⟨true, 256, true, [.agg (digSet i)]⟩)], []⟩
set_option maxRecDepth 10000 in
include hm in
theorem makeSet : Holds Tryd.prog 39 [.v (.string digS)] [] (.tup [.agg (digSet 10), .v (.bool true)]) [] := by
  refine holds_of (ann := maAnn) tabOk hm Tryd.func39 (by kernel_rfl) rfl ?_
  simp (decide := true) only [Tryd.f39, go_sem, Nat.reduceAdd, Nat.reduceMul, Nat.reduceSub]
  have hsz : digS.size = 10 := rfl
  have hl := digSet_len
  refine Runs.while (α := Nat) maSt (fun i => 10 - i) (fun i => i ≤ 10) 0 (by omega) ?_ ?_
  · simp [go_sem, maAnn, maSt]
  · intro i hi ih
    have hs10 : ((digS.size : Nat) : Int) = 10 := rfl
    simp (decide := true) only [maSt, hs10, go_sem, Nat.reduceAdd, Nat.reduceMul, Nat.reduceSub]
    refine Runs.split (fun h => ?_) (fun h => ?_)
    · have hlt : i < 10 := by simp at h; omega
      have hg := digS_get hlt
      have t1 : (((48 + i : Nat) : Int)).toNat = 48 + i := by omega
      simp (decide := true) (disch := first | omega | (simp only [List.length_map, List.length_cons, List.length_append, List.length_nil]; omega)) only [hg, hs10, hsz, t1, if_pos, go_sem, Nat.reduceAdd, Nat.reduceMul, Nat.reduceSub]
      have d1 : decide (((48 + i : Nat) : Int) ≥ 128) = false := by simp; omega
      have hb : decide ((0 : Int) ≤ ((48 + i : Nat) : Int) ∧ ((48 + i : Nat) : Int) < 256) = true := by simp; omega
      have hset := digSet_set hlt
      simp (decide := true) (disch := first | omega | (simp only [List.length_map, List.length_cons, List.length_append, List.length_nil]; omega)) only [d1, hb, t1, Nat.mul_one, hset, if_pos, go_sem, Nat.reduceAdd, Nat.reduceMul, Nat.reduceSub]
      refine ih (i + 1) _ (by omega) (by omega) ?_
      simp [go_sem, maAnn, maSt]
    · have hge : i = 10 := by simp at h; omega
      subst hge
      simp (decide := true) (disch := first | omega | (simp only [List.length_map, List.length_cons, List.length_append, List.length_nil]; omega)) only [if_pos, go_sem, Nat.reduceAdd, Nat.reduceMul, Nat.reduceSub]
      exact Runs.ret_refl
end Go.Proofs.W

namespace Go.Proofs.W
open Go Go.AM
set_option linter.unusedSimpArgs false
set_option linter.unusedVariables false
variable (hm : Tryd.prog.follows .mixedOrders = true)
attribute [local go_sem] digSet_keep digSet_ids digSet_ro digSet_out digSet_setCells digSet_take digSet_len digSet_one digSet_plain digSet_zero repV_len digSet_rn digSet_rd digSet_in

def setBlk : Blk := ⟨true, 256, true, [.agg (digSet 10)]⟩
attribute [local go_sem] setBlk
def trR (l : List UInt8) : List UInt8 := (l.reverse.dropWhile digC).reverse
def trimD (s : ByteArray) : ByteArray := mkS ((trR s.data.toList).dropWhile digC)
theorem trR_snoc (l : List UInt8) (b : UInt8) : trR (l ++ [b]) = if digC b = true then trR l else l ++ [b] := by
  simp only [trR, List.reverse_append, List.reverse_cons, List.reverse_nil, List.nil_append, List.cons_append, List.dropWhile_cons]
  split <;> simp
theorem drop_nil (l : List UInt8) : l.dropWhile digC = [] ↔ l.all digC = true := by
  induction l with
  | nil => simp
  | cons b l ih => cases h : digC b <;> simp [h, ih]
theorem trimD_nil (s : ByteArray) : ((trimD s).toList == (⟨#[]⟩ : ByteArray).toList) = s.data.toList.all digC := by
  have e1 : ((trimD s).toList == (⟨#[]⟩ : ByteArray).toList) = decide ((trR s.data.toList).dropWhile digC = []) := by
    rw [Lib.toList_data, Lib.toList_data, trimD, mkS_data, Bool.eq_iff_iff, beq_iff_eq, decide_eq_true_iff]
  rw [e1, Bool.eq_iff_iff, decide_eq_true_iff, drop_nil]
  rw [trR, List.all_reverse]
  have h := drop_nil s.data.toList.reverse
  rw [List.all_reverse] at h
  rw [← h]
  have h2 : ∀ m : List UInt8, (m.dropWhile digC).all digC = true ↔ m.dropWhile digC = [] := by
    intro m
    induction m with
    | nil => simp
    | cons b l ih => cases h : digC b <;> simp [List.dropWhile_cons, h, ih]
  exact h2 _
set_option maxRecDepth 10000 in
include hm in
theorem setHas (b : UInt8) : Holds Tryd.prog 48 [.ref (.x 0) 0 0 1, .v (.int .u8 b.toNat)] [setBlk] (.v (.bool (digC b))) [setBlk] := by
  refine holds_ref (ann := []) tabOk hm (byL [48] []) Tryd.func48 (by kernel_rfl) rfl ?_
  have hb := UInt8.toNat_lt b
  have hg : (digSet 10).getD b.toNat .any = .v (.bool (digC b)) := by
    rw [digSet_get (by omega)]; congr 2; simp only [digC, inB]; rw [Bool.eq_iff_iff]; simp; omega
  have hb1 : decide ((0 : Int) ≤ (b.toNat : Int) ∧ (b.toNat : Int) < 256) = true := by simp; omega
  simp (decide := true) (disch := first | omega | (simp only [List.length_map, List.length_cons, List.length_append, List.length_nil]; omega)) only [Tryd.f48, setBlk, hg, hb1, Nat.mul_one, Nat.zero_add, if_pos, go_sem, Nat.reduceAdd, Nat.reduceMul, Nat.reduceSub]
  exact Runs.ret_v
def tlAnn : Ann := [(0, [0, 1])]
def tlSt (l : List UInt8) : St := ⟨[.v (.string (mkS l)), .ref (.x 0) 0 0 1, .any, .any, .any, .any, .any, .any, .any, .any, .any, .any, .any, .any, .any, .any], [], [setBlk]⟩
set_option maxRecDepth 10000 in
include hm in
theorem trimLeft (l : List UInt8) (h : l.length ≤ 1048576) : Holds Tryd.prog 40 [.v (.string (mkS l)), .ref (.x 0) 0 0 1] [setBlk] (.v (.string (mkS (l.dropWhile digC)))) [setBlk] := by
  refine holds_ref (ann := tlAnn) tabOk hm (byL [48] []) Tryd.func40 (by kernel_rfl) rfl ?_
  simp (decide := true) only [Tryd.f40, setBlk, go_sem, Nat.reduceAdd, Nat.reduceMul, Nat.reduceSub]
  refine Runs.while (α := List UInt8) tlSt (fun r => r.length) (fun r => r.length ≤ l.length ∧ r.dropWhile digC = l.dropWhile digC) l ⟨Nat.le_refl _, rfl⟩ ?_ ?_
  · simp [go_sem, tlAnn, tlSt, setBlk]
  · rintro r ⟨hr1, hr2⟩ ih
    have hz := mkS_size r
    simp (decide := true) only [tlSt, setBlk, go_sem, Nat.reduceAdd, Nat.reduceMul, Nat.reduceSub]
    refine Runs.split (fun h => ?_) (fun h => ?_)
    · cases r with
      | nil => rw [hz] at h; simp at h
      | cons b r =>
        have hg : (mkS (b :: r)).data.toList.getD (Int.toNat 0) 0 = b := by rw [mkS_data]; rfl
        have hb0 : decide ((0 : Int) < ((mkS (b :: r)).size : Int)) = true := by rw [hz]; simp
        simp (decide := true) (disch := first | omega | (simp only [List.length_map, List.length_cons, List.length_append, List.length_nil]; omega)) only [hg, hb0, if_pos, go_sem, Nat.reduceAdd, Nat.reduceMul, Nat.reduceSub]
        have e1 : (mkS (b :: r)).extract 1 (mkS (b :: r)).size = mkS r := by rw [mkS_ext, mkS_data, hz]; simp
        refine Runs.call (setHas hm b) ?_
        cases hb : digC b
        · simp (decide := true) only [go_sem, Nat.reduceAdd, Nat.reduceMul, Nat.reduceSub]
          refine Runs.ret_eq ?_
          rw [← hr2, List.dropWhile_cons, hb]; rfl
        · have hb2 : decide ((1 : Int) ≤ ((mkS (b :: r)).size : Int) ∧ ((mkS (b :: r)).size : Int) ≤ ((mkS (b :: r)).size : Int)) = true := by rw [hz]; simp; omega
          have t1 : Int.toNat 1 = 1 := rfl
          have hb3 : decide ((0 : Int) ≤ 1 ∧ (1 : Int) ≤ ((mkS (b :: r)).size : Int) ∧ ((mkS (b :: r)).size : Int) ≤ ((mkS (b :: r)).size : Int)) = true := by rw [hz]; simp; omega
          simp (decide := true) (disch := first | omega | (simp only [List.length_map, List.length_cons, List.length_append, List.length_nil]; omega)) only [e1, hb2, t1, hb3, if_pos, go_sem, Nat.reduceAdd, Nat.reduceMul, Nat.reduceSub]
          refine ih r _ (by simp) ⟨by simp at hr1; omega, by rw [← hr2, List.dropWhile_cons, hb]; rfl⟩ ?_
          simp [go_sem, tlAnn, tlSt, setBlk, e1]
    · have : r = [] := by rw [hz] at h; simp at h; exact h
      subst this
      simp (decide := true) only [go_sem, Nat.reduceAdd, Nat.reduceMul, Nat.reduceSub]
      exact Runs.ret_eq (by rw [← hr2]; rfl)
def trAnn : Ann := [(0, [0, 1])]
def trSt (l : List UInt8) : St := ⟨[.v (.string (mkS l)), .ref (.x 0) 0 0 1, .any, .any, .any, .any, .any, .any, .any, .any, .any, .any, .any, .any, .any, .any, .any, .any, .any, .any, .any, .any], [], [setBlk]⟩
set_option maxRecDepth 10000 in
include hm in
theorem trimRight (l : List UInt8) (h : l.length ≤ 1048576) : Holds Tryd.prog 41 [.v (.string (mkS l)), .ref (.x 0) 0 0 1] [setBlk] (.v (.string (mkS (trR l)))) [setBlk] := by
  refine holds_ref (ann := trAnn) tabOk hm (byL [48] []) Tryd.func41 (by kernel_rfl) rfl ?_
  simp (decide := true) only [Tryd.f41, setBlk, go_sem, Nat.reduceAdd, Nat.reduceMul, Nat.reduceSub]
  refine Runs.while (α := List UInt8) trSt (fun r => r.length) (fun r => r.length ≤ l.length ∧ trR r = trR l) l ⟨Nat.le_refl _, rfl⟩ ?_ ?_
  · simp [go_sem, trAnn, trSt, setBlk]
  · rintro r ⟨hr1, hr2⟩ ih
    have hz := mkS_size r
    simp (decide := true) only [trSt, setBlk, go_sem, Nat.reduceAdd, Nat.reduceMul, Nat.reduceSub]
    refine Runs.split (fun h => ?_) (fun h => ?_)
    · obtain ⟨q, b, rfl⟩ : ∃ q b, r = q ++ [b] := by
        have hne : r ≠ [] := by intro e; rw [hz, e] at h; simp at h
        exact ⟨r.dropLast, r.getLast hne, (List.dropLast_concat_getLast hne).symm⟩
      have hzn : (mkS (q ++ [b])).size = q.length + 1 := by rw [hz]; simp
      have t2 : (((mkS (q ++ [b])).size : Int) - 1).toNat = q.length := by rw [hzn]; omega
      have hg : (mkS (q ++ [b])).data.toList.getD q.length 0 = b := by rw [mkS_data]; simp [List.getD]
      have hb0 : decide ((0 : Int) ≤ ((mkS (q ++ [b])).size : Int) - 1 ∧ ((mkS (q ++ [b])).size : Int) - 1 < ((mkS (q ++ [b])).size : Int)) = true := by rw [hzn]; simp; omega
      have w1 : IntKind.i64.wrap (((mkS (q ++ [b])).size : Int) - 1) = ((mkS (q ++ [b])).size : Int) - 1 := wrap_i64 (by omega) (by rw [hz]; omega)
      simp (decide := true) (disch := first | omega | (simp only [List.length_map, List.length_cons, List.length_append, List.length_nil]; omega)) only [w1, t2, hg, hb0, if_pos, go_sem, Nat.reduceAdd, Nat.reduceMul, Nat.reduceSub]
      refine Runs.call (setHas hm b) ?_
      have e1 : (mkS (q ++ [b])).extract 0 q.length = mkS q := by rw [mkS_ext, mkS_data]; simp
      cases hb : digC b
      · simp (decide := true) only [go_sem, Nat.reduceAdd, Nat.reduceMul, Nat.reduceSub]
        refine Runs.ret_eq ?_
        rw [← hr2, trR_snoc, hb]; rfl
      · have hb3 : decide ((0 : Int) ≤ 0 ∧ (0 : Int) ≤ ((mkS (q ++ [b])).size : Int) - 1 ∧ ((mkS (q ++ [b])).size : Int) - 1 ≤ ((mkS (q ++ [b])).size : Int)) = true := by rw [hzn]; simp; omega
        have hb4 : decide ((0 : Int) ≤ ((mkS (q ++ [b])).size : Int) - 1 ∧ ((mkS (q ++ [b])).size : Int) - 1 ≤ ((mkS (q ++ [b])).size : Int)) = true := by rw [hzn]; simp; omega
        have t0 : Int.toNat 0 = 0 := rfl
        simp (decide := true) (disch := first | omega | (simp only [List.length_map, List.length_cons, List.length_append, List.length_nil]; omega)) only [w1, t0, t2, e1, hb3, hb4, if_pos, go_sem, Nat.reduceAdd, Nat.reduceMul, Nat.reduceSub]
        refine ih q _ (by simp) ⟨by simp at hr1; omega, by rw [← hr2, trR_snoc, hb]; rfl⟩ ?_
        simp [go_sem, trAnn, trSt, setBlk, e1]
    · have : r = [] := by rw [hz] at h; simp at h; exact h
      subst this
      simp (decide := true) only [go_sem, Nat.reduceAdd, Nat.reduceMul, Nat.reduceSub]
      exact Runs.ret_eq (by rw [← hr2]; rfl)
set_option maxRecDepth 10000 in
include hm in
theorem trim1 (s : ByteArray) (h : s.size ≤ 1048576) : Holds Tryd.prog 29 [.v (.string s), .v (.string digS)] [] (.v (.string (trimD s))) [] := by
  refine holds_ref (ann := []) tabOk hm (byL [41, 40] []) Tryd.func29 (by kernel_rfl) rfl ?_
  have hd : (digS.toList == (⟨#[]⟩ : ByteArray).toList) = false := by rw [Lib.toList_data, Lib.toList_data]; decide
  have hs10 : ((digS.size : Nat) : Int) = 10 := rfl
  have hz := list_size s
  have hle : (trR s.data.toList).length ≤ s.size := by
    rw [trR, List.length_reverse]
    have := (List.dropWhile_sublist (p := digC) (l := s.data.toList.reverse)).length_le
    rw [List.length_reverse, hz] at this; exact this
  simp (decide := true) only [Tryd.f29, go_sem, Nat.reduceAdd, Nat.reduceMul, Nat.reduceSub]
  refine Runs.split (fun h2 => ?_) (fun h2 => ?_)
  · have e : s = ⟨#[]⟩ := by
      rw [beq_iff_eq, Lib.toList_data, Lib.toList_data] at h2
      rw [← mkS_list s, h2]; rfl
    simp (decide := true) only [go_sem, Nat.reduceAdd, Nat.reduceMul, Nat.reduceSub]
    exact Runs.ret_eq (by rw [e]; rfl)
  · simp (decide := true) only [hd, hs10, go_sem, Nat.reduceAdd, Nat.reduceMul, Nat.reduceSub]
    refine Runs.call (makeSet hm) ?_
    simp (decide := true) only [go_sem, Nat.reduceAdd, Nat.reduceMul, Nat.reduceSub]
    have c1 := trimRight hm s.data.toList (by omega)
    rw [mkS_list, setBlk] at c1
    refine Runs.call c1 ?_
    simp (decide := true) only [go_sem, Nat.reduceAdd, Nat.reduceMul, Nat.reduceSub]
    have c2 := trimLeft hm (trR s.data.toList) (by omega)
    rw [setBlk] at c2
    refine Runs.call c2 ?_
    simp (decide := true) only [go_sem, Nat.reduceAdd, Nat.reduceMul, Nat.reduceSub]
    exact Runs.ret_eq rfl
end Go.Proofs.W

namespace Go.Proofs.W
open Go Go.AM
set_option linter.unusedSimpArgs false
set_option linter.unusedVariables false
variable (hm : Tryd.prog.follows .mixedOrders = true)

def l8pAnn : Ann := [(0, [0, 1, 5, 6, 7])]
def l8pSt (s : ByteArray) (p : List ByteArray × Nat × Nat) : St := ⟨[.v (.string s), .v (.int .u8 46), .any, .any, .any, .ms (.l 0) 0 p.1.length p.1.length, .v (.int .i64 p.2.1), .v (.int .i64 p.2.2), .any, .any, .any, .any, .any, .any, .any, .any, .any, .any, .any, .any, .any, .any, .any, .any, .any, .any, .any, .any, .any, .any, .any, .any, .any, .any, .any], [(0, ⟨true, 1, false, p.1.map strA⟩)], []⟩
set_option maxRecDepth 10000 in
include hm in
theorem l8Parts (s : ByteArray) (h : s.size ≤ 1048576) : Holds Tryd.prog 22 [.v (.string s), .v (.int .u8 46)] [] (.sl (.ow 1) ((partsB s).map strA)) [] := by
  refine holds_of (ann := l8pAnn) tabOk hm Tryd.func22 (by kernel_rfl) rfl ?_
  simp (decide := true) only [Tryd.f22, go_sem, Nat.reduceAdd, Nat.reduceMul, Nat.reduceSub]
  have hz := list_size s
  refine Runs.while (α := List ByteArray × Nat × Nat) (l8pSt s) (fun p => s.size - p.2.2) (fun p => p.2.1 ≤ p.2.2 ∧ p.2.2 ≤ s.size ∧ p.1.length ≤ p.2.2 ∧ (∀ b ∈ (s.data.toList.drop p.2.1).take (p.2.2 - p.2.1), b ≠ 46) ∧ partsB s = p.1 ++ partsB (mkS (s.data.toList.drop p.2.1))) ([], 0, 0) ⟨Nat.le_refl _, Nat.zero_le _, Nat.zero_le _, by simp, by simp [mkS_list]⟩ ?_ ?_
  · simp [go_sem, l8pAnn, l8pSt]
  · rintro ⟨D, f, i⟩ ⟨hf, hi, hd, hn, hp⟩ ih
    simp only at hf hi hd hn hp
    have hD : (D.map strA).length = D.length := List.length_map _
    simp (decide := true) only [l8pSt, hD, go_sem, Nat.reduceAdd, Nat.reduceMul, Nat.reduceSub]
    refine Runs.split (fun h => ?_) (fun h => ?_)
    · have hlt : i < s.data.toList.length := by simp at h; omega
      have hg : s.data.toList.getD i 0 = s.data.toList[i] := getD_lt hlt
      have hb := UInt8.toNat_lt s.data.toList[i]
      simp (decide := true) (disch := first | omega | (simp only [List.length_map, List.length_cons, List.length_append, List.length_nil]; omega)) only [hg, if_pos, go_sem, Nat.reduceAdd, Nat.reduceMul, Nat.reduceSub]
      have e1 : s.data.toList.drop f = (s.data.toList.drop f).take (i - f) ++ s.data.toList[i] :: s.data.toList.drop (i + 1) := by
        conv => lhs; rw [← List.take_append_drop (i - f) (s.data.toList.drop f)]
        rw [List.drop_drop, show f + (i - f) = i by omega, List.drop_eq_getElem_cons hlt]
      refine Runs.split (fun h2 => ?_) (fun h2 => ?_)
      · have h46 : s.data.toList[i] = 46 := by
          simp only [decide_eq_true_eq] at h2
          exact UInt8.toNat_inj.mp (by simpa using Int.ofNat.inj h2)
        rw [h46] at e1
        simp (decide := true) (disch := first | omega | (simp only [List.length_map, List.length_cons, List.length_append, List.length_nil]; omega)) only [if_pos, go_sem, Nat.reduceAdd, Nat.reduceMul, Nat.reduceSub]
        have e2 : s.extract f i = mkS ((s.data.toList.drop f).take (i - f)) := mkS_ext s f i
        refine ih (D ++ [s.extract f i], i + 1, i + 1) _ (by simp only; omega) ⟨Nat.le_refl _, by simp only; omega, by simp; omega, by simp, ?_⟩ ?_
        · simp only
          rw [hp, partsB, mkS_data, e1, partsL_cut 46 _ _ hn, partsB, mkS_data, e2]
          simp
        · simp [go_sem, l8pAnn, l8pSt, strA]
      · have h46 : s.data.toList[i] ≠ 46 := by
          intro e
          simp [e] at h2
        simp (decide := true) (disch := first | omega | (simp only [List.length_map, List.length_cons, List.length_append, List.length_nil]; omega)) only [if_pos, go_sem, Nat.reduceAdd, Nat.reduceMul, Nat.reduceSub]
        refine ih (D, f, i + 1) _ (by simp only; omega) ⟨by simp only; omega, by simp only; omega, by simp only; omega, ?_, hp⟩ ?_
        · simp only
          intro b hb2
          rw [show i + 1 - f = i - f + 1 by omega, List.take_add_one, List.mem_append] at hb2
          rcases hb2 with hb2 | hb2
          · exact hn b hb2
          · rw [List.getElem?_drop, show f + (i - f) = i by omega, List.getElem?_eq_getElem hlt] at hb2
            simp at hb2
            rw [hb2]; exact h46
        · simp [go_sem, l8pAnn, l8pSt]
    · have hge : i = s.size := by simp at h; omega
      subst hge
      have hn2 : ∀ b ∈ s.data.toList.drop f, b ≠ 46 := by
        intro b hb
        refine hn b ?_
        rw [List.take_of_length_le (by simp)]; exact hb
      have hq : partsB (mkS (s.data.toList.drop f)) = [mkS (s.data.toList.drop f)] := by rw [partsB, mkS_data, partsL_no 46 _ hn2]; rfl
      rw [hq] at hp
      have e2 : s.extract f s.size = mkS (s.data.toList.drop f) := by
        rw [mkS_ext, List.take_of_length_le (by simp)]
      simp (decide := true) (disch := first | omega | (simp only [List.length_map, List.length_cons, List.length_append, List.length_nil]; omega)) only [List.length_append, List.length_cons, List.length_nil, if_pos, go_sem, Nat.reduceAdd, Nat.reduceMul, Nat.reduceSub]
      refine Runs.ret_eq ?_
      rw [hp, e2]
      simp [strA]
def l8dAnn : Ann := [(0, [0, 3])]
def l8dSt (s : ByteArray) (i : Nat) : St := ⟨[.v (.string s), .any, .any, .v (.int .i64 i), .any, .any, .any, .any, .any, .any, .any, .any, .any, .any, .any, .any, .any, .any, .any], [], []⟩
set_option maxRecDepth 10000 in
include hm in
theorem l8Digits (s : ByteArray) (h : s.size ≤ 1048576) : Holds Tryd.prog 24 [.v (.string s)] [] (.v (.bool (digitsB s))) [] := by
  refine holds_of (ann := l8dAnn) tabOk hm Tryd.func24 (by kernel_rfl) rfl ?_
  simp (decide := true) only [Tryd.f24, go_sem, Nat.reduceAdd, Nat.reduceMul, Nat.reduceSub]
  have hz := list_size s
  refine Runs.while (α := Nat) (l8dSt s) (fun i => s.size - i) (fun i => i ≤ s.size ∧ (s.data.toList.drop i).all digC = s.data.toList.all digC) 0 ⟨by omega, by simp⟩ ?_ ?_
  · simp [go_sem, l8dAnn, l8dSt]
  · rintro i ⟨hi, hr⟩ ih
    simp (decide := true) only [l8dSt, go_sem, Nat.reduceAdd, Nat.reduceMul, Nat.reduceSub]
    refine Runs.split (fun h => ?_) (fun h => ?_)
    · have hlt : i < s.data.toList.length := by simp at h; omega
      have hg : s.data.toList.getD i 0 = s.data.toList[i] := getD_lt hlt
      have hb := UInt8.toNat_lt s.data.toList[i]
      rw [List.drop_eq_getElem_cons hlt, List.all_cons] at hr
      simp (decide := true) (disch := first | omega | (simp only [List.length_map, List.length_cons, List.length_append, List.length_nil]; omega)) only [hg, if_pos, go_sem, Nat.reduceAdd, Nat.reduceMul, Nat.reduceSub]
      refine Runs.call (l1In hm _ 48 57) ?_
      simp (decide := true) only [go_sem, Nat.reduceAdd, Nat.reduceMul, Nat.reduceSub]
      refine Runs.split (fun h2 => ?_) (fun h2 => ?_)
      · simp only [Bool.not_eq_true'] at h2
        simp (decide := true) only [go_sem, Nat.reduceAdd, Nat.reduceMul, Nat.reduceSub]
        exact Runs.ret_eq (by rw [digitsB, ← hr, digC, h2]; simp)
      · simp only [Bool.not_eq_false'] at h2
        rw [digC, h2, Bool.true_and] at hr
        simp (decide := true) (disch := first | omega | (simp only [List.length_map, List.length_cons, List.length_append, List.length_nil]; omega)) only [if_pos, go_sem, Nat.reduceAdd, Nat.reduceMul, Nat.reduceSub]
        refine ih (i + 1) _ (by omega) ⟨by omega, hr⟩ ?_
        simp [go_sem, l8dAnn, l8dSt]
    · have hge : i = s.size := by simp at h; omega
      rw [List.drop_of_length_le (by omega), List.all_nil] at hr
      simp (decide := true) only [go_sem, Nat.reduceAdd, Nat.reduceMul, Nat.reduceSub]
      exact Runs.ret_eq (by rw [digitsB, ← hr]; simp)
def l8lAnn : Ann := [(0, [0, 3])]
def l8lSt (s : ByteArray) (i : Nat) : St := ⟨[.v (.string s), .any, .any, .v (.int .i64 i), .any, .any, .any, .any, .any, .any, .any, .any, .any, .any, .any, .any, .any, .any, .any, .any, .any, .any, .any, .any, .any, .any, .any, .any, .any, .any, .any, .any, .any, .any, .any, .any, .any, .any, .any, .any, .any, .any, .any], [], []⟩
set_option maxRecDepth 10000 in
include hm in
theorem l8Label (s : ByteArray) (h : s.size ≤ 1048576) : Holds Tryd.prog 23 [.v (.string s)] [] (.v (.bool (labelB s))) [] := by
  refine holds_of (ann := l8lAnn) tabOk hm Tryd.func23 (by kernel_rfl) rfl ?_
  simp (decide := true) only [Tryd.f23, go_sem, Nat.reduceAdd, Nat.reduceMul, Nat.reduceSub]
  have hz := list_size s
  refine Runs.while (α := Nat) (l8lSt s) (fun i => s.size - i) (fun i => i ≤ s.size ∧ (s.data.toList.drop i).all okC = s.data.toList.all okC) 0 ⟨by omega, by simp⟩ ?_ ?_
  · simp [go_sem, l8lAnn, l8lSt]
  · rintro i ⟨hi, hr⟩ ih
    simp (decide := true) only [l8lSt, go_sem, Nat.reduceAdd, Nat.reduceMul, Nat.reduceSub]
    refine Runs.split (fun h => ?_) (fun h => ?_)
    · have hlt : i < s.data.toList.length := by simp at h; omega
      have hg : s.data.toList.getD i 0 = s.data.toList[i] := getD_lt hlt
      have hb := UInt8.toNat_lt s.data.toList[i]
      rw [List.drop_eq_getElem_cons hlt, List.all_cons] at hr
      have next : okC s.data.toList[i] = true → (s.data.toList.drop (i + 1)).all okC = s.data.toList.all okC := fun h => by rw [← hr, h, Bool.true_and]
      have stop : okC s.data.toList[i] = false → labelB s = false := fun h => by rw [labelB, ← hr, h]; simp
      simp (decide := true) (disch := first | omega | (simp only [List.length_map, List.length_cons, List.length_append, List.length_nil]; omega)) only [hg, if_pos, go_sem, Nat.reduceAdd, Nat.reduceMul, Nat.reduceSub]
      refine Runs.call (l1In hm _ 97 122) ?_
      cases h1 : inB s.data.toList[i].toNat 97 122
      · simp (decide := true) only [go_sem, Nat.reduceAdd, Nat.reduceMul, Nat.reduceSub]
        refine Runs.call (l1In hm _ 48 57) ?_
        cases h2 : inB s.data.toList[i].toNat 48 57
        · simp (decide := true) only [go_sem, Nat.reduceAdd, Nat.reduceMul, Nat.reduceSub]
          cases h3 : decide ((s.data.toList[i].toNat : Int) = 45)
          · simp (decide := true) only [go_sem, Nat.reduceAdd, Nat.reduceMul, Nat.reduceSub]
            exact Runs.ret_eq (by rw [stop (by simp only [okC, digC, dashC, h1, h2, h3]; rfl)])
          · simp (decide := true) (disch := first | omega | (simp only [List.length_map, List.length_cons, List.length_append, List.length_nil]; omega)) only [if_pos, go_sem, Nat.reduceAdd, Nat.reduceMul, Nat.reduceSub]
            refine ih (i + 1) _ (by omega) ⟨by omega, next (by simp only [okC, digC, dashC, h1, h2, h3]; rfl)⟩ ?_
            simp [go_sem, l8lAnn, l8lSt]
        · simp (decide := true) (disch := first | omega | (simp only [List.length_map, List.length_cons, List.length_append, List.length_nil]; omega)) only [if_pos, go_sem, Nat.reduceAdd, Nat.reduceMul, Nat.reduceSub]
          refine ih (i + 1) _ (by omega) ⟨by omega, next (by simp only [okC, digC, dashC, h1, h2]; rfl)⟩ ?_
          simp [go_sem, l8lAnn, l8lSt]
      · simp (decide := true) (disch := first | omega | (simp only [List.length_map, List.length_cons, List.length_append, List.length_nil]; omega)) only [if_pos, go_sem, Nat.reduceAdd, Nat.reduceMul, Nat.reduceSub]
        refine ih (i + 1) _ (by omega) ⟨by omega, next (by simp only [okC, digC, dashC, h1]; rfl)⟩ ?_
        simp [go_sem, l8lAnn, l8lSt]
    · have hge : i = s.size := by simp at h; omega
      rw [List.drop_of_length_le (by omega), List.all_nil] at hr
      simp (decide := true) only [go_sem, Nat.reduceAdd, Nat.reduceMul, Nat.reduceSub]
      refine Runs.call (l1In hm _ 1 20) ?_
      cases h1 : inB s.size 1 20
      · simp (decide := true) only [go_sem, Nat.reduceAdd, Nat.reduceMul, Nat.reduceSub]
        exact Runs.ret_eq (by rw [labelB, h1]; simp)
      · have hp : 1 ≤ s.size := by simp [inB] at h1; omega
        have ht : ((s.size : Int) - 1).toNat = s.size - 1 := by omega
        have hb0 : decide ((0 : Int) ≤ 0 ∧ (0 : Int) < s.size) = true := by simp; omega
        have hb1 : decide (0 ≤ (s.size : Int) - 1 ∧ (s.size : Int) - 1 < s.size) = true := by simp; omega
        have t0 : Int.toNat 0 = 0 := rfl
        simp (decide := true) (disch := first | omega | (simp only [List.length_map, List.length_cons, List.length_append, List.length_nil]; omega)) only [hb0, t0, if_pos, go_sem, Nat.reduceAdd, Nat.reduceMul, Nat.reduceSub]
        cases h2 : dashC (s.data.toList.getD 0 0) <;> (unfold dashC at h2; simp (decide := true) (disch := first | omega | (simp only [List.length_map, List.length_cons, List.length_append, List.length_nil]; omega)) only [h2, ht, hb1, if_pos, go_sem, Nat.reduceAdd, Nat.reduceMul, Nat.reduceSub]; exact Runs.ret_eq (by simp only [labelB, dashC, ← hr, h1, h2, Bool.true_and, Bool.not_false, Bool.not_true, Bool.false_and]))
def shAnn : Ann := [(0, [0, 3, 4])]
def shSt (s : ByteArray) (i : Nat) : St := ⟨[.v (.string s), .any, .any, .ms (.l 0) 0 (partsB s).length (partsB s).length, .v (.int .i64 i), .any, .any, .any, .any, .any, .any, .any, .any, .any, .any, .any, .any, .any, .any, .any, .any, .any, .any, .any, .any, .any, .any, .any, .any, .any, .any, .any, .any, .any, .any], [(0, ⟨true, 1, false, (partsB s).map strA⟩)], []⟩
set_option maxRecDepth 10000 in
include hm in
theorem sHostOk (s : ByteArray) : Holds Tryd.prog 12 [.v (.string s)] [] (.v (.bool (hostB s))) [] := by
  refine holds_of (ann := shAnn) tabOk hm Tryd.func12 (by kernel_rfl) rfl ?_
  simp (decide := true) only [Tryd.f12, go_sem, Nat.reduceAdd, Nat.reduceMul, Nat.reduceSub]
  refine Runs.split (fun h => ?_) (fun h => ?_)
  · simp (decide := true) only [go_sem, Nat.reduceAdd, Nat.reduceMul, Nat.reduceSub]
    exact Runs.ret_eq (by simp at h; simp [hostB]; intros; omega)
  · have h80 : s.size ≤ 80 := by simp at h; omega
    simp (decide := true) only [go_sem, Nat.reduceAdd, Nat.reduceMul, Nat.reduceSub]
    refine Runs.call (l8Parts hm s (by omega)) ?_
    have hlen : ((partsB s).map strA).length = (partsB s).length := List.length_map _
    have hle := partsB_le s
    have hpos : 1 ≤ (partsB s).length := by rw [partsB_len]; omega
    simp (decide := true) (disch := first | omega | (simp only [List.length_map, List.length_cons, List.length_append, List.length_nil]; omega)) only [if_pos, go_sem, Nat.reduceAdd, Nat.reduceMul, Nat.reduceSub]
    refine Runs.while (α := Nat) (shSt s) (fun i => (partsB s).length - i) (fun i => i ≤ (partsB s).length ∧ ((partsB s).drop i).all labelB = (partsB s).all labelB) 0 ⟨by omega, by simp⟩ ?_ ?_
    · simp [go_sem, shAnn, shSt]
    · rintro i ⟨hi, hr⟩ ih
      simp (decide := true) only [shSt, hlen, go_sem, Nat.reduceAdd, Nat.reduceMul, Nat.reduceSub]
      refine Runs.split (fun h => ?_) (fun h => ?_)
      · have hlt : i < (partsB s).length := by simpa using h
        have hg : ((partsB s).map strA).getD i .any = strA (partsB s)[i] := by simp [List.getD, hlt]
        have hs := partsB_sz s (partsB s)[i] (List.getElem_mem hlt)
        rw [List.drop_eq_getElem_cons hlt, List.all_cons] at hr
        rw [strA] at hg
        simp (decide := true) (disch := first | omega | (simp only [List.length_map, List.length_cons, List.length_append, List.length_nil]; omega)) only [hlen, hg, if_pos, go_sem, Nat.reduceAdd, Nat.reduceMul, Nat.reduceSub]
        refine Runs.call (l8Label hm _ (by omega)) ?_
        cases h1 : labelB (partsB s)[i]
        · simp (decide := true) only [go_sem, Nat.reduceAdd, Nat.reduceMul, Nat.reduceSub]
          exact Runs.ret_eq (by rw [hostB, ← hr, h1]; simp)
        · rw [h1, Bool.true_and] at hr
          simp (decide := true) (disch := first | omega | (simp only [List.length_map, List.length_cons, List.length_append, List.length_nil]; omega)) only [if_pos, go_sem, Nat.reduceAdd, Nat.reduceMul, Nat.reduceSub]
          refine ih (i + 1) _ (by omega) ⟨by omega, hr⟩ ?_
          simp [go_sem, shAnn, shSt]
      · have hge : i = (partsB s).length := by simp at h; omega
        rw [hge, List.drop_of_length_le (Nat.le_refl _), List.all_nil] at hr
        simp (decide := true) only [go_sem, Nat.reduceAdd, Nat.reduceMul, Nat.reduceSub]
        refine Runs.split (fun h2 => ?_) (fun h2 => ?_)
        · have hlt : (partsB s).length - 1 < (partsB s).length := by omega
          have ht : (((partsB s).length : Int) - 1).toNat = (partsB s).length - 1 := by omega
          have hg : ((partsB s).map strA).getD ((partsB s).length - 1) .any = strA (lastB (partsB s)) := by simp [List.getD, hlt, lastB]
          rw [strA] at hg
          have hb1 : decide (0 ≤ ((partsB s).length : Int) - 1 ∧ ((partsB s).length : Int) - 1 < (partsB s).length) = true := by simp; omega
          have hmem : lastB (partsB s) ∈ partsB s := by
            rw [lastB, List.getD, List.getElem?_eq_getElem hlt]; exact List.getElem_mem hlt
          have hs := partsB_sz s _ hmem
          simp (decide := true) (disch := first | omega | (simp only [List.length_map, List.length_cons, List.length_append, List.length_nil]; omega)) only [hlen, ht, hg, hb1, if_pos, go_sem, Nat.reduceAdd, Nat.reduceMul, Nat.reduceSub]
          refine Runs.call (l8Digits hm _ (by omega)) ?_
          simp (decide := true) only [go_sem, Nat.reduceAdd, Nat.reduceMul, Nat.reduceSub]
          refine Runs.ret_eq ?_
          have hl := List.all_eq_true.mp hr.symm _ hmem
          have hp : 1 ≤ (lastB (partsB s)).size := by
            simp only [labelB, Bool.and_eq_true, inB, decide_eq_true_eq] at hl; omega
          have hp2 : decide (((lastB (partsB s)).size : Int) > 0) = true := by simp; omega
          have h80' : decide (s.size ≤ 80) = true := by simp; omega
          have h8 : decide ((partsB s).length ≤ 8) = true := by simp at h2; simp; omega
          simp only [hostB, digitsB, h80', ← hr, h8, hp2, Bool.true_and, Bool.and_true]
        · simp (decide := true) only [go_sem, Nat.reduceAdd, Nat.reduceMul, Nat.reduceSub]
          exact Runs.ret_eq (by simp at h2; simp [hostB]; intros; omega)
set_option maxRecDepth 10000 in
include hm in
theorem sUnder (b s : ByteArray) : Holds Tryd.prog 13 [.v (.string b), .v (.string s)] [] (.v (.bool (underB b s))) [] := by
  refine holds_of (ann := []) tabOk hm Tryd.func13 (by kernel_rfl) rfl ?_
  simp (decide := true) only [Tryd.f13, go_sem, Nat.reduceAdd, Nat.reduceMul, Nat.reduceSub]
  refine Runs.call (sHostOk hm b) ?_
  cases h1 : hostB b
  · simp (decide := true) only [go_sem, Nat.reduceAdd, Nat.reduceMul, Nat.reduceSub]
    exact Runs.ret_eq (by simp [underB, h1])
  · simp (decide := true) only [go_sem, Nat.reduceAdd, Nat.reduceMul, Nat.reduceSub]
    refine Runs.call (sHostOk hm s) ?_
    cases h2 : hostB s
    · simp (decide := true) only [go_sem, Nat.reduceAdd, Nat.reduceMul, Nat.reduceSub]
      exact Runs.ret_eq (by simp [underB, h2])
    · have hb : b.size ≤ 80 := by simp [hostB] at h1; omega
      have hs : s.size ≤ 80 := by simp [hostB] at h2; omega
      have hh : hostB b = true := h1
      simp (decide := true) (disch := first | omega | (simp only [List.length_map, List.length_cons, List.length_append, List.length_nil]; omega)) only [if_pos, go_sem, Nat.reduceAdd, Nat.reduceMul, Nat.reduceSub]
      cases h3 : (b.toList == s.toList)
      · simp (decide := true) (disch := first | omega | (simp only [List.length_map, List.length_cons, List.length_append, List.length_nil]; omega)) only [if_pos, go_sem, Nat.reduceAdd, Nat.reduceMul, Nat.reduceSub]
        cases h4 : decide ((s.size : Int) - b.size > 0)
        · simp (decide := true) only [go_sem, Nat.reduceAdd, Nat.reduceMul, Nat.reduceSub]
          exact Runs.ret_eq (by simp only [underB, h1, h2, h3, h4, Bool.true_and, Bool.false_or, Bool.false_and])
        · have hlt : b.size < s.size := by simp at h4; omega
          have ht : ((s.size : Int) - b.size).toNat = s.size - b.size := by omega
          have ht2 : ((s.size : Int) - b.size - 1).toNat = s.size - b.size - 1 := by omega
          have hb1 : decide (0 ≤ (s.size : Int) - b.size ∧ (s.size : Int) - b.size ≤ s.size ∧ (s.size : Int) ≤ s.size) = true := by simp; omega
          have hb2 : decide (0 ≤ (s.size : Int) - b.size - 1 ∧ (s.size : Int) - b.size - 1 < s.size) = true := by simp; omega
          simp (decide := true) (disch := first | omega | (simp only [List.length_map, List.length_cons, List.length_append, List.length_nil]; omega)) only [ht, hb1, if_pos, go_sem, Nat.reduceAdd, Nat.reduceMul, Nat.reduceSub]
          cases h5 : ((s.extract (s.size - b.size) s.size).toList == b.toList)
          · simp (decide := true) (disch := first | omega | (simp only [List.length_map, List.length_cons, List.length_append, List.length_nil]; omega)) only [if_pos, go_sem, Nat.reduceAdd, Nat.reduceMul, Nat.reduceSub]
            exact Runs.ret_eq (by simp only [underB, h1, h2, h3, h4, h5, Bool.true_and, Bool.false_or, Bool.false_and])
          · simp (decide := true) (disch := first | omega | (simp only [List.length_map, List.length_cons, List.length_append, List.length_nil]; omega)) only [ht2, hb2, if_pos, go_sem, Nat.reduceAdd, Nat.reduceMul, Nat.reduceSub]
            exact Runs.ret_eq (by simp only [underB, h1, h2, h3, h4, h5, Bool.true_and, Bool.false_or, dotC])
      · simp (decide := true) (disch := first | omega | (simp only [List.length_map, List.length_cons, List.length_append, List.length_nil]; omega)) only [if_pos, go_sem, Nat.reduceAdd, Nat.reduceMul, Nat.reduceSub]
        exact Runs.ret_eq (by simp only [underB, h1, h2, h3, Bool.true_and, Bool.true_or])
def exA (ca : Bool) (path usage : Int) (ho : List ByteArray) (ne : List (List Int)) (al de : List ByteArray) (pu : List Int) : A :=
  .agg [.v (.bool ca), .v (.int .i64 path), .v (.int .i64 usage), .sl .sh (ho.map strA), .sl .sh (ne.map fun l => .sl .sh (l.map intA)), .sl .sh (al.map strA), .sl .sh (de.map strA), .sl .sh (pu.map intA)]
theorem net_plain (ne : List (List Int)) : plainL (ne.map fun l => A.sl .sh (l.map intA)) = true := by
  induction ne with
  | nil => simp [plainL]
  | cons a l ih => simp [plainL, A.plain, ih, Sh.own, pl_intA]
attribute [local go_sem] exA net_plain
def orU (al : List ByteArray) (s : ByteArray) (i : Nat) : Bool := decide (al.length = 0) || (al.take i).any fun b => underB b s
def saAnn : Ann := [(0, [1, 2, 5, 6]), (2, [1, 2, 5, 7])]
def saSt (x : A) (al : List ByteArray) (s : ByteArray) (i : Nat) : St := ⟨[.any, .v (.string s), .ptr [x] 0 0, .any, .any, .v (.bool (orU al s i)), .v (.int .i64 i), .any, .any, .any, .any, .any, .any, .any, .any, .any, .any, .any, .any, .any, .any, .any, .any, .any, .any, .any, .any, .any, .any, .any, .any, .any, .any, .any, .any, .any, .any, .any, .any, .any, .any, .any, .any, .any, .any, .any, .any], [], []⟩
def saSt2 (x : A) (t : Bool) (s : ByteArray) (i : Nat) : St := ⟨[.any, .v (.string s), .ptr [x] 0 0, .any, .any, .v (.bool t), .any, .v (.int .i64 i), .any, .any, .any, .any, .any, .any, .any, .any, .any, .any, .any, .any, .any, .any, .any, .any, .any, .any, .any, .any, .any, .any, .any, .any, .any, .any, .any, .any, .any, .any, .any, .any, .any, .any, .any, .any, .any, .any, .any], [], []⟩
set_option maxRecDepth 10000 in
include hm in
theorem sAllowed (ca : Bool) (path usage : Int) (ho : List ByteArray) (ne : List (List Int)) (al de : List ByteArray) (pu : List Int) (s : ByteArray) (l1 : al.length ≤ 1048576) (l2 : de.length ≤ 1048576) :
    Holds Tryd.prog 5 [exA ca path usage ho ne al de pu, .v (.string s)] [] (.v (.bool (allowedB al de s))) [] := by
  refine holds_ref (ann := saAnn) tabOk hm (byL [] [1000002]) Tryd.func5 (by kernel_rfl) rfl ?_
  simp (decide := true) only [Tryd.f5, go_sem, Nat.reduceAdd, Nat.reduceMul, Nat.reduceSub]
  refine Runs.call (sHostOk hm s) ?_
  cases h1 : hostB s
  · simp (decide := true) only [go_sem, Nat.reduceAdd, Nat.reduceMul, Nat.reduceSub]
    exact Runs.ret_eq (by simp [allowedB, h1])
  · simp (decide := true) only [go_sem, Nat.reduceAdd, Nat.reduceMul, Nat.reduceSub]
    have ha : (al.map strA).length = al.length := List.length_map _
    have hd : (de.map strA).length = de.length := List.length_map _
    refine Runs.while (α := Nat) (saSt (exA ca path usage ho ne al de pu) al s) (fun i => al.length - i) (fun i => i ≤ al.length) 0 (by omega) ?_ ?_
    · simp [go_sem, saAnn, saSt, orU]
    · intro i hi ih
      simp (decide := true) only [saSt, ha, go_sem, Nat.reduceAdd, Nat.reduceMul, Nat.reduceSub]
      refine Runs.split (fun h => ?_) (fun h => ?_)
      · have hlt : i < al.length := by simpa using h
        have hg : (al.map strA).getD i .any = .v (.string al[i]) := by simp [List.getD, hlt, strA]
        have hn : (al.take (i + 1)).any (fun b => underB b s) = ((al.take i).any (fun b => underB b s) || underB al[i] s) := by
          rw [List.take_succ_eq_append_getElem hlt, List.any_append]; simp
        cases h2 : orU al s i
        · simp (decide := true) (disch := first | omega | (simp only [List.length_map, List.length_cons, List.length_append, List.length_nil]; omega)) only [ha, hg, if_pos, go_sem, Nat.reduceAdd, Nat.reduceMul, Nat.reduceSub]
          refine Runs.call (sUnder hm al[i] s) ?_
          simp (decide := true) (disch := first | omega | (simp only [List.length_map, List.length_cons, List.length_append, List.length_nil]; omega)) only [if_pos, go_sem, Nat.reduceAdd, Nat.reduceMul, Nat.reduceSub]
          refine ih (i + 1) _ (by omega) hlt ?_
          have : orU al s (i + 1) = underB al[i] s := by rw [orU, hn, ← Bool.or_assoc, ← orU, h2]; rfl
          simp [go_sem, saAnn, saSt, this]
        · simp (decide := true) (disch := first | omega | (simp only [List.length_map, List.length_cons, List.length_append, List.length_nil]; omega)) only [if_pos, go_sem, Nat.reduceAdd, Nat.reduceMul, Nat.reduceSub]
          refine ih (i + 1) _ (by omega) hlt ?_
          have : orU al s (i + 1) = true := by rw [orU, hn, ← Bool.or_assoc, ← orU, h2]; rfl
          simp [go_sem, saAnn, saSt, this]
      · have hge : i = al.length := by simp at h; omega
        have ho2 : orU al s i = (decide (al.length = 0) || al.any fun b => underB b s) := by rw [orU, hge, List.take_length]
        simp (decide := true) only [ho2, go_sem, Nat.reduceAdd, Nat.reduceMul, Nat.reduceSub]
        refine Runs.while (α := Nat) (saSt2 (exA ca path usage ho ne al de pu) (decide (al.length = 0) || al.any fun b => underB b s) s) (fun i => de.length - i) (fun i => i ≤ de.length ∧ ((de.drop i).any fun b => underB b s) = de.any fun b => underB b s) 0 ⟨by omega, by simp⟩ ?_ ?_
        · simp [go_sem, saAnn, saSt2]
        · rintro i ⟨hi, hr⟩ ih
          simp (decide := true) only [saSt2, hd, go_sem, Nat.reduceAdd, Nat.reduceMul, Nat.reduceSub]
          refine Runs.split (fun h => ?_) (fun h => ?_)
          · have hlt : i < de.length := by simpa using h
            have hg : (de.map strA).getD i .any = .v (.string de[i]) := by simp [List.getD, hlt, strA]
            rw [List.drop_eq_getElem_cons hlt, List.any_cons] at hr
            simp (decide := true) (disch := first | omega | (simp only [List.length_map, List.length_cons, List.length_append, List.length_nil]; omega)) only [hd, hg, if_pos, go_sem, Nat.reduceAdd, Nat.reduceMul, Nat.reduceSub]
            refine Runs.call (sUnder hm de[i] s) ?_
            cases h2 : underB de[i] s
            · rw [h2, Bool.false_or] at hr
              simp (decide := true) (disch := first | omega | (simp only [List.length_map, List.length_cons, List.length_append, List.length_nil]; omega)) only [if_pos, go_sem, Nat.reduceAdd, Nat.reduceMul, Nat.reduceSub]
              refine ih (i + 1) _ (by omega) ⟨by omega, hr⟩ ?_
              simp [go_sem, saAnn, saSt2]
            · simp (decide := true) (disch := first | omega | (simp only [List.length_map, List.length_cons, List.length_append, List.length_nil]; omega)) only [if_pos, go_sem, Nat.reduceAdd, Nat.reduceMul, Nat.reduceSub]
              exact Runs.ret_eq (by rw [allowedB, ← hr, h2]; simp)
          · have hge : i = de.length := by simp at h; omega
            rw [hge, List.drop_length] at hr
            simp (decide := true) only [go_sem, Nat.reduceAdd, Nat.reduceMul, Nat.reduceSub]
            exact Runs.ret_eq (by rw [allowedB, ← hr, h1]; simp)
end Go.Proofs.W

namespace Go.Proofs.W
open Go Go.AM
set_option linter.unusedSimpArgs false
set_option linter.unusedVariables false
variable (hm : Tryd.prog.follows .mixedOrders = true)

theorem not_all_label (L : List ByteArray) : (L.any fun s => !labelB s) = !L.all labelB := by
  induction L with
  | nil => rfl
  | cons a l ih => rw [List.any_cons, List.all_cons, ih, Bool.not_and]
set_option maxRecDepth 10000 in
include hm in
theorem iHostOk (s : ByteArray) : Holds Tryd.prog 17 [.v (.string s)] [] (.v (.bool (hostB s))) [] := by
  refine holds_of (ann := []) tabOk hm Tryd.func17 (by kernel_rfl) rfl ?_
  simp (decide := true) only [Tryd.f17, go_sem, Nat.reduceAdd, Nat.reduceMul, Nat.reduceSub]
  refine Runs.split (fun h => ?_) (fun h => ?_)
  · simp (decide := true) only [go_sem, Nat.reduceAdd, Nat.reduceMul, Nat.reduceSub]
    exact Runs.ret_eq (by simp at h; simp [hostB]; intros; omega)
  · have h80 : s.size ≤ 80 := by simp at h; omega
    simp (decide := true) only [go_sem, Nat.reduceAdd, Nat.reduceMul, Nat.reduceSub]
    refine Runs.call (split1 hm s (by omega)) ?_
    have hlen : ((partsB s).map strA).length = (partsB s).length := List.length_map _
    have hle := partsB_le s
    have hpos : 1 ≤ (partsB s).length := by rw [partsB_len]; omega
    simp (decide := true) (disch := first | omega | (simp only [List.length_map, List.length_cons, List.length_append, List.length_nil]; omega)) only [hlen, if_pos, go_sem, Nat.reduceAdd, Nat.reduceMul, Nat.reduceSub]
    refine Runs.split (fun h2 => ?_) (fun h2 => ?_)
    · simp (decide := true) only [go_sem, Nat.reduceAdd, Nat.reduceMul, Nat.reduceSub]
      exact Runs.ret_eq (by simp at h2; simp [hostB]; intros; omega)
    · simp (decide := true) only [hlen, go_sem, Nat.reduceAdd, Nat.reduceMul, Nat.reduceSub]
      have c := contFunc0 hm 27 (partsB s) (fun s => !labelB s) (by omega) (fun p hp => notLabel hm p (by have := partsB_sz s p hp; omega))
      rw [not_all_label] at c
      refine Runs.call c ?_
      cases h3 : (partsB s).all labelB
      · simp (decide := true) only [go_sem, Nat.reduceAdd, Nat.reduceMul, Nat.reduceSub]
        exact Runs.ret_eq (by simp [hostB, h3])
      · have hlt : (partsB s).length - 1 < (partsB s).length := by omega
        have ht : (((partsB s).length : Int) - 1).toNat = (partsB s).length - 1 := by omega
        have hg : ((partsB s).map strA).getD ((partsB s).length - 1) .any = .v (.string (lastB (partsB s))) := by simp [List.getD, hlt, lastB, strA]
        have hb1 : decide (0 ≤ ((partsB s).length : Int) - 1 ∧ ((partsB s).length : Int) - 1 < (partsB s).length) = true := by simp; omega
        have hmem : lastB (partsB s) ∈ partsB s := by
          rw [lastB, List.getD, List.getElem?_eq_getElem hlt]; exact List.getElem_mem hlt
        have hs := partsB_sz s _ hmem
        simp (decide := true) (disch := first | omega | (simp only [List.length_map, List.length_cons, List.length_append, List.length_nil]; omega)) only [hlen, ht, hg, hb1, if_pos, go_sem, Nat.reduceAdd, Nat.reduceMul, Nat.reduceSub]
        have c2 := trim1 hm (lastB (partsB s)) (by omega)
        rw [digS] at c2
        refine Runs.call c2 ?_
        simp (decide := true) only [go_sem, Nat.reduceAdd, Nat.reduceMul, Nat.reduceSub]
        refine Runs.ret_eq ?_
        have h80' : decide (s.size ≤ 80) = true := by simp; omega
        have h8 : decide ((partsB s).length ≤ 8) = true := by simp at h2; simp; omega
        rw [trimD_nil]
        simp only [hostB, h80', h3, h8, Bool.true_and]
set_option maxRecDepth 10000 in
include hm in
theorem hasSuffix1 (s p : ByteArray) (hs : s.size ≤ 1048576) : Holds Tryd.prog 44 [.v (.string s), .v (.string p)] [] (.v (.bool (decide (p.size ≤ s.size) && ((s.extract (s.size - p.size) s.size).toList == p.toList)))) [] := by
  have c : Holds Tryd.prog 52 [.v (.string s), .v (.string p)] [] (.v (.bool (decide (p.size ≤ s.size) && ((s.extract (s.size - p.size) s.size).toList == p.toList)))) [] := by
    refine holds_of (ann := []) tabOk hm Tryd.func52 (by kernel_rfl) rfl ?_
    simp (decide := true) only [Tryd.f52, go_sem, Nat.reduceAdd, Nat.reduceMul, Nat.reduceSub]
    cases h : decide ((s.size : Int) ≥ p.size)
    · have e : decide (p.size ≤ s.size) = false := by simp at h; simp; omega
      simp (decide := true) (disch := first | omega | (simp only [List.length_map, List.length_cons, List.length_append, List.length_nil]; omega)) only [e, if_pos, go_sem, Nat.reduceAdd, Nat.reduceMul, Nat.reduceSub]
      first | exact Runs.ret_v | exact Runs.ret_eq (by simp)
    · have hle : p.size ≤ s.size := by simp at h; omega
      have e : decide (p.size ≤ s.size) = true := by simp; omega
      have w1 : IntKind.i64.wrap ((s.size : Int) - p.size) = (s.size : Int) - p.size := wrap_i64 (by omega) (by omega)
      have t1 : ((s.size : Int) - p.size).toNat = s.size - p.size := by omega
      have b1 : decide (0 ≤ (s.size : Int) - p.size ∧ (s.size : Int) - p.size ≤ s.size ∧ (s.size : Int) ≤ s.size) = true := by simp; omega
      have b2 : decide (0 ≤ (s.size : Int) - p.size ∧ (s.size : Int) - p.size ≤ s.size) = true := by simp; omega
      simp (decide := true) (disch := first | omega | (simp only [List.length_map, List.length_cons, List.length_append, List.length_nil]; omega)) only [w1, t1, b1, b2, if_pos, go_sem, Nat.reduceAdd, Nat.reduceMul, Nat.reduceSub]
      exact Runs.ret_eq (by simp only [e, Bool.true_and])
  refine holds_of (ann := []) tabOk hm Tryd.func44 (by kernel_rfl) rfl ?_
  simp (decide := true) only [Tryd.f44, go_sem, Nat.reduceAdd, Nat.reduceMul, Nat.reduceSub]
  refine Runs.call c ?_
  simp (decide := true) only [go_sem, Nat.reduceAdd, Nat.reduceMul, Nat.reduceSub]
  exact Runs.ret_v
theorem suffix_eq (b s : ByteArray) : (decide ((((⟨#[46]⟩ : ByteArray) ++ b).size : Nat) ≤ s.size) && ((s.extract (s.size - ((⟨#[46]⟩ : ByteArray) ++ b).size) s.size).toList == ((⟨#[46]⟩ : ByteArray) ++ b).toList)) =
    (decide ((s.size : Int) - b.size > 0) && ((s.extract (s.size - b.size) s.size).toList == b.toList) && dotC (s.data.toList.getD (s.size - b.size - 1) 0)) := by
  have hz := list_size s
  have e1 : ((⟨#[46]⟩ : ByteArray) ++ b).size = b.size + 1 := by rw [ByteArray.size_append]; show 1 + b.size = _; omega
  have e2 : ((⟨#[46]⟩ : ByteArray) ++ b).data.toList = 46 :: b.data.toList := by rw [ByteArray.data_append, Array.toList_append]; rfl
  rw [e1]
  by_cases h : b.size < s.size
  · rw [decide_eq_true (show b.size + 1 ≤ s.size by omega), decide_eq_true (show (s.size : Int) - b.size > 0 by omega), Bool.true_and, Bool.true_and]
    simp only [Lib.toList_data, ext_list, e2]
    rw [List.take_of_length_le (by simp), List.take_of_length_le (by simp)]
    have hk : s.size - (b.size + 1) < s.data.toList.length := by omega
    rw [List.drop_eq_getElem_cons hk, show s.size - (b.size + 1) + 1 = s.size - b.size by omega, show s.size - b.size - 1 = s.size - (b.size + 1) by omega, getD_lt hk]
    rw [List.cons_beq_cons, Bool.and_comm]
    congr 1
    rw [dotC, Bool.eq_iff_iff, beq_iff_eq, decide_eq_true_iff]
    constructor
    · intro e; rw [e]; rfl
    · intro e; exact UInt8.toNat_inj.mp (Int.ofNat.inj e)
  · rw [decide_eq_false (show ¬ b.size + 1 ≤ s.size by omega), decide_eq_false (show ¬ (s.size : Int) - b.size > 0 by omega)]
    simp
set_option maxRecDepth 10000 in
include hm in
theorem iUnder (b s : ByteArray) : Holds Tryd.prog 31 [.v (.string b), .v (.string s)] [] (.v (.bool (underB b s))) [] := by
  refine holds_of (ann := []) tabOk hm Tryd.func31 (by kernel_rfl) rfl ?_
  simp (decide := true) only [Tryd.f31, go_sem, Nat.reduceAdd, Nat.reduceMul, Nat.reduceSub]
  refine Runs.call (iHostOk hm b) ?_
  cases h1 : hostB b
  · simp (decide := true) only [go_sem, Nat.reduceAdd, Nat.reduceMul, Nat.reduceSub]
    exact Runs.ret_eq (by simp [underB, h1])
  · simp (decide := true) only [go_sem, Nat.reduceAdd, Nat.reduceMul, Nat.reduceSub]
    refine Runs.call (iHostOk hm s) ?_
    cases h2 : hostB s
    · simp (decide := true) only [go_sem, Nat.reduceAdd, Nat.reduceMul, Nat.reduceSub]
      exact Runs.ret_eq (by simp [underB, h2])
    · have hb : b.size ≤ 80 := by simp [hostB] at h1; omega
      have hs : s.size ≤ 80 := by simp [hostB] at h2; omega
      have y1 : (#[(46 : UInt8)] : Array UInt8).size = 1 := rfl
      simp (decide := true) (disch := first | omega | (simp only [List.length_map, List.length_cons, List.length_append, List.length_nil]; omega)) only [if_pos, go_sem, Nat.reduceAdd, Nat.reduceMul, Nat.reduceSub]
      cases h3 : (b.toList == s.toList)
      · simp (decide := true) (disch := first | omega | (simp only [List.length_map, List.length_cons, List.length_append, List.length_nil]; omega)) only [y1, if_pos, go_sem, Nat.reduceAdd, Nat.reduceMul, Nat.reduceSub]
        refine Runs.call (hasSuffix1 hm s ((⟨#[46]⟩ : ByteArray) ++ b) (by omega)) ?_
        simp (decide := true) (disch := first | omega | (simp only [List.length_map, List.length_cons, List.length_append, List.length_nil]; omega)) only [if_pos, go_sem, Nat.reduceAdd, Nat.reduceMul, Nat.reduceSub]
        have e5 : ((⟨#[46]⟩ : ByteArray) ++ b).size = (#[(46 : UInt8)] : Array UInt8).size + b.size := ByteArray.size_append
        exact Runs.ret_eq (by rw [← e5, suffix_eq]; simp only [underB, h1, h2, h3, Bool.true_and, Bool.false_or])
      · simp (decide := true) (disch := first | omega | (simp only [List.length_map, List.length_cons, List.length_append, List.length_nil]; omega)) only [if_pos, go_sem, Nat.reduceAdd, Nat.reduceMul, Nat.reduceSub]
        exact Runs.ret_eq (by simp only [underB, h1, h2, h3, Bool.true_and, Bool.true_or])
set_option maxRecDepth 10000 in
include hm in
theorem iUnderC (b s : ByteArray) : Holds Tryd.prog 30 [.v (.string b), .ptr [.v (.string s)] 0 0] [] (.v (.bool (underB b s))) [] := by
  refine holds_of (ann := []) tabOk hm Tryd.func30 (by kernel_rfl) rfl ?_
  simp (decide := true) only [Tryd.f30, go_sem, Nat.reduceAdd, Nat.reduceMul, Nat.reduceSub]
  refine Runs.call (iUnder hm b s) ?_
  simp (decide := true) only [go_sem, Nat.reduceAdd, Nat.reduceMul, Nat.reduceSub]
  exact Runs.ret_v
theorem net_dn (ne : List (List Int)) : dnL (ne.map fun l => A.sl .sh (l.map intA)) = ne.map fun l => A.sl .sh (l.map intA) := by
  induction ne with
  | nil => simp [dnL]
  | cons a l ih => simp [dnL, A.dn, ih, dn_intA]
attribute [local go_sem] exA net_plain net_dn
set_option maxRecDepth 10000 in
include hm in
theorem iAllowedC (ca : Bool) (path usage : Int) (ho : List ByteArray) (ne : List (List Int)) (al de : List ByteArray) (pu : List Int) (s : ByteArray) (h1 : hostB s = true) (l1 : al.length ≤ 1048576) (l2 : de.length ≤ 1048576) :
    Holds Tryd.prog 18 [exA ca path usage ho ne al de pu, .v (.string s)] [] (.v (.bool (allowedB al de s))) [] := by
  refine holds_ref (ann := []) tabOk hm (byL [] [1000002, 1000003]) Tryd.func18 (by kernel_rfl) rfl ?_
  have ha : (al.map strA).length = al.length := List.length_map _
  have hd : (de.map strA).length = de.length := List.length_map _
  have c1 := contFunc1 hm 30 s al (fun b => underB b s) l1 (fun b _ => iUnderC hm b s)
  have c2 := contFunc1 hm 30 s de (fun b => underB b s) l2 (fun b _ => iUnderC hm b s)
  simp (decide := true) only [Tryd.f18, ha, go_sem, Nat.reduceAdd, Nat.reduceMul, Nat.reduceSub]
  cases h2 : decide (((al.length : Nat) : Int) = 0)
  · have h2' : decide (al.length = 0) = false := by simp at h2; simp; exact h2
    simp (decide := true) only [go_sem, Nat.reduceAdd, Nat.reduceMul, Nat.reduceSub]
    refine Runs.call c1 ?_
    cases h3 : al.any fun b => underB b s
    · simp (decide := true) only [go_sem, Nat.reduceAdd, Nat.reduceMul, Nat.reduceSub]
      exact Runs.ret_eq (by simp only [allowedB, h1, h2', h3, Bool.true_and, Bool.or_false, Bool.false_and])
    · simp (decide := true) only [go_sem, Nat.reduceAdd, Nat.reduceMul, Nat.reduceSub]
      refine Runs.call c2 ?_
      simp (decide := true) only [go_sem, Nat.reduceAdd, Nat.reduceMul, Nat.reduceSub]
      exact Runs.ret_eq (by simp only [allowedB, h1, h2', h3, Bool.true_and, Bool.or_true])
  · have h2' : decide (al.length = 0) = true := by simp at h2; simp; exact h2
    simp (decide := true) only [go_sem, Nat.reduceAdd, Nat.reduceMul, Nat.reduceSub]
    refine Runs.call c2 ?_
    simp (decide := true) only [go_sem, Nat.reduceAdd, Nat.reduceMul, Nat.reduceSub]
    exact Runs.ret_eq (by simp only [allowedB, h1, h2', Bool.true_and, Bool.true_or])
set_option maxRecDepth 10000 in
include hm in
theorem iAllowed (ca : Bool) (path usage : Int) (ho : List ByteArray) (ne : List (List Int)) (al de : List ByteArray) (pu : List Int) (s : ByteArray) (l1 : al.length ≤ 1048576) (l2 : de.length ≤ 1048576) :
    Holds Tryd.prog 7 [exA ca path usage ho ne al de pu, .v (.string s)] [] (.v (.bool (allowedB al de s))) [] := by
  refine holds_ref (ann := []) tabOk hm (byL [] [1000002]) Tryd.func7 (by kernel_rfl) rfl ?_
  simp (decide := true) only [Tryd.f7, go_sem, Nat.reduceAdd, Nat.reduceMul, Nat.reduceSub]
  refine Runs.call (iHostOk hm s) ?_
  cases h1 : hostB s
  · simp (decide := true) only [go_sem, Nat.reduceAdd, Nat.reduceMul, Nat.reduceSub]
    exact Runs.ret_eq (by simp only [allowedB, h1, Bool.false_and])
  · simp (decide := true) only [go_sem, Nat.reduceAdd, Nat.reduceMul, Nat.reduceSub]
    have c := iAllowedC hm ca path usage ho ne al de pu s h1 l1 l2
    rw [exA] at c
    refine Runs.call c ?_
    simp (decide := true) only [go_sem, Nat.reduceAdd, Nat.reduceMul, Nat.reduceSub]
    exact Runs.ret_v
end Go.Proofs.W

namespace Go.Proofs.W
open Go Go.AM
set_option linter.unusedSimpArgs false
set_option linter.unusedVariables false
variable (hm : Tryd.prog.follows .mixedOrders = true)

def szI (n : Nat) (left : Int) : Int := if left - n < 0 then -1 else left - n
def szGo : List ByteArray → Int → Int
  | [], l => l
  | s :: r, l => if l - s.size < 0 then -1 else szGo r (l - s.size)
def szS (L : List ByteArray) (left : Int) : Int := if left - L.length < 0 then -1 else szGo L (left - L.length)
theorem szGo_le (L : List ByteArray) (l : Int) (h : 0 ≤ l) : szGo L l ≤ l ∧ -1 ≤ szGo L l := by
  induction L generalizing l with
  | nil => simp [szGo]; omega
  | cons s r ih =>
    simp only [szGo]
    split
    · omega
    · have := ih (l - s.size) (by omega); omega
theorem szS_le (L : List ByteArray) (l : Int) (h : 0 ≤ l) : szS L l ≤ l := by
  unfold szS
  split
  · omega
  · have := szGo_le L (l - L.length) (by omega); omega
theorem szI_le (n : Nat) (l : Int) (h : 0 ≤ l) : szI n l ≤ l ∧ -1 ≤ szI n l := by
  unfold szI
  split <;> omega
theorem szS_len (L : List ByteArray) (l : Int) (h : ¬ szS L l < 0) (hl : l ≤ 1048576) : L.length ≤ 1048576 := by
  unfold szS at h
  split at h
  · exact absurd (by omega) h
  · omega
theorem szI_len (n : Nat) (l : Int) (h : ¬ szI n l < 0) (hl : l ≤ 1048576) : n ≤ 1048576 := by
  unfold szI at h
  split at h
  · exact absurd (by omega) h
  · omega
set_option maxRecDepth 10000 in
include hm in
theorem szIntS (es : List A) (left : Int) (h1 : 0 ≤ left) (h2 : left ≤ 1048576) (h3 : es.length ≤ 9223372036854775807) :
    Holds Tryd.prog 11 [.sl .sh es, .v (.int .i64 left)] [] (.v (.int .i64 (szI es.length left))) [] := by
  refine holds_of (ann := []) tabOk hm Tryd.func11 (by kernel_rfl) rfl ?_
  simp (decide := true) (disch := first | omega | (simp only [List.length_map, List.length_cons, List.length_append, List.length_nil]; omega)) only [Tryd.f11, if_pos, go_sem, Nat.reduceAdd, Nat.reduceMul, Nat.reduceSub]
  refine Runs.split (fun h => ?_) (fun h => ?_)
  · simp only [decide_eq_true_eq] at h
    simp (decide := true) only [szI, if_pos h, go_sem, Nat.reduceAdd, Nat.reduceMul, Nat.reduceSub]
    exact Runs.ret_v
  · simp only [decide_eq_false_iff_not] at h
    simp (decide := true) only [szI, if_neg h, go_sem, Nat.reduceAdd, Nat.reduceMul, Nat.reduceSub]
    exact Runs.ret_v
def szAnn : Ann := [(0, [0, 1, 5])]
def szSt (L : List ByteArray) (p : Nat × Int) : St := ⟨[.sl .sh (L.map strA), .v (.int .i64 p.2), .any, .any, .any, .v (.int .i64 p.1), .any, .any, .any, .any, .any, .any, .any, .any, .any, .any, .any, .any, .any, .any, .any, .any, .any, .any, .any, .any, .any, .any], [], []⟩
set_option maxRecDepth 10000 in
include hm in
theorem szStringS (L : List ByteArray) (left : Int) (h1 : 0 ≤ left) (h2 : left ≤ 1048576) (h3 : L.length ≤ 9223372036854775807) (h4 : ∀ s ∈ L, s.size ≤ 9223372036854775807) :
    Holds Tryd.prog 9 [.sl .sh (L.map strA), .v (.int .i64 left)] [] (.v (.int .i64 (szS L left))) [] := by
  refine holds_of (ann := szAnn) tabOk hm Tryd.func9 (by kernel_rfl) rfl ?_
  simp (decide := true) (disch := first | omega | (simp only [List.length_map, List.length_cons, List.length_append, List.length_nil]; omega)) only [Tryd.f9, if_pos, go_sem, Nat.reduceAdd, Nat.reduceMul, Nat.reduceSub]
  refine Runs.split (fun h => ?_) (fun h => ?_)
  · simp only [decide_eq_true_eq] at h
    simp (decide := true) only [szS, if_pos h, go_sem, Nat.reduceAdd, Nat.reduceMul, Nat.reduceSub]
    exact Runs.ret_v
  · simp only [decide_eq_false_iff_not] at h
    simp (decide := true) only [go_sem, Nat.reduceAdd, Nat.reduceMul, Nat.reduceSub]
    refine Runs.while (α := Nat × Int) (szSt L) (fun p => L.length - p.1) (fun p => p.1 ≤ L.length ∧ 0 ≤ p.2 ∧ p.2 ≤ 1048576 ∧ szGo (L.drop p.1) p.2 = szS L left) (0, left - L.length) ⟨by simp, by simp; omega, by simp; omega, by simp [szS, h]⟩ ?_ ?_
    · simp [go_sem, szAnn, szSt]
    · rintro ⟨i, l⟩ ⟨hi, hl1, hl2, hr⟩ ih
      simp only at hi hl1 hl2 hr
      simp (decide := true) only [szSt, go_sem, Nat.reduceAdd, Nat.reduceMul, Nat.reduceSub]
      refine Runs.split (fun h => ?_) (fun h => ?_)
      · have hlt : i < L.length := by simpa using h
        have hsz := h4 L[i] (List.getElem_mem hlt)
        rw [List.drop_eq_getElem_cons hlt] at hr
        simp only [szGo] at hr
        simp (decide := true) (disch := first | omega | (simp only [List.length_map, List.length_cons, List.length_append, List.length_nil]; omega)) only [if_pos, go_sem, Nat.reduceAdd, Nat.reduceMul, Nat.reduceSub]
        refine Runs.split (fun h => ?_) (fun h => ?_)
        · simp only [decide_eq_true_eq] at h
          rw [if_pos h] at hr
          simp (decide := true) only [← hr, go_sem, Nat.reduceAdd, Nat.reduceMul, Nat.reduceSub]
          exact Runs.ret_v
        · simp only [decide_eq_false_iff_not] at h
          rw [if_neg h] at hr
          simp (decide := true) (disch := first | omega | (simp only [List.length_map, List.length_cons, List.length_append, List.length_nil]; omega)) only [if_pos, go_sem, Nat.reduceAdd, Nat.reduceMul, Nat.reduceSub]
          refine ih (i + 1, l - L[i].size) _ (by simp only; omega) ⟨hlt, by simp only; omega, by simp only; omega, hr⟩ ?_
          simp [go_sem, szAnn, szSt]
      · have hge : i = L.length := by simp at h; omega
        subst hge
        simp only [List.drop_length, szGo] at hr
        simp (decide := true) only [← hr, go_sem, Nat.reduceAdd, Nat.reduceMul, Nat.reduceSub]
        exact Runs.ret_v
end Go.Proofs.W

namespace Go.Proofs.W
open Go Go.AM
set_option linter.unusedSimpArgs false
set_option linter.unusedVariables false
variable (hm : Tryd.prog.follows .mixedOrders = true)

def fillS {α : Type} (g : α → A) (L : List α) (z : A) (i : Nat) : List A := (L.take i).map g ++ List.replicate (L.length - i) z
theorem fillS_length {α : Type} (g : α → A) (L : List α) (z : A) (i : Nat) (h : i ≤ L.length) : (fillS g L z i).length = L.length := by simp [fillS]; omega
theorem fillS_zero {α : Type} (g : α → A) (L : List α) (z : A) : fillS g L z 0 = List.replicate L.length z := by simp [fillS]
theorem fillS_all {α : Type} (g : α → A) (L : List α) (z : A) : fillS g L z L.length = L.map g := by simp [fillS]
theorem fillS_set {α : Type} (g : α → A) (L : List α) (z : A) (i : Nat) (h : i < L.length) : (fillS g L z i).set i (g L[i]) = fillS g L z (i + 1) := by
  unfold fillS
  have e : L.length - i = (L.length - (i + 1)) + 1 := by omega
  rw [List.set_append_right _ _ (by simp; omega), e, List.replicate_succ]
  have hl : ((L.take i).map g).length = i := by simp; omega
  rw [hl, Nat.sub_self, List.set_cons_zero, List.take_succ_eq_append_getElem h, List.map_append, List.append_assoc]
  rfl
theorem fillS_get {α : Type} (g : α → A) (L : List α) (z : A) (i : Nat) (h : i < L.length) : (fillS g L z i).getD i .any = z := by
  unfold fillS
  have hl : ((L.take i).map g).length = i := by simp; omega
  rw [List.getD, List.getElem?_append_right (by omega), hl, Nat.sub_self]
  have e : L.length - i = (L.length - (i + 1)) + 1 := by omega
  rw [e, List.replicate_succ]
  rfl

def toAnn : Ann := [(0, [0, 3, 4])]
def toStringSt (L : List ByteArray) (i : Nat) : St := ⟨[.sl .sh (L.map strA), .any, .any, .ms (.l 0) 0 L.length L.length, .v (.int .i64 i), .any, .any, .any, .any, .any, .any, .any, .any, .any, .any, .any, .any, .any, .any, .any, .any, .any], [(0, ⟨true, 1, false, fillS strA L (.v (.string ⟨#[]⟩)) i⟩)], []⟩
set_option maxRecDepth 10000 in
include hm in
theorem toStringS (L : List ByteArray) (h3 : L.length ≤ 1048576) : Holds Tryd.prog 14 [.sl .sh (L.map strA)] [] (.sl (.ow 1) (L.map strA)) [] := by
  refine holds_of (ann := toAnn) tabOk hm Tryd.func14 (by kernel_rfl) rfl ?_
  simp (decide := true) (disch := first | omega | (simp only [List.length_map, List.length_cons, List.length_append, List.length_nil]; omega)) only [Tryd.f14, if_pos, go_sem, Nat.reduceAdd, Nat.reduceMul, Nat.reduceSub]
  refine Runs.while (α := Nat) (toStringSt L) (fun i => L.length - i) (fun i => i ≤ L.length) 0 (by omega) ?_ ?_
  · simp [go_sem, toAnn, toStringSt, fillS_zero]
  · intro i hi ih
    have hlen := fillS_length strA L (.v (.string ⟨#[]⟩)) i hi
    simp (decide := true) only [toStringSt, hlen, go_sem, Nat.reduceAdd, Nat.reduceMul, Nat.reduceSub]
    refine Runs.split (fun h => ?_) (fun h => ?_)
    · have hlt : i < L.length := by simpa using h
      have hg := fillS_get strA L (.v (.string ⟨#[]⟩)) i hlt
      have hs : (fillS strA L (.v (.string ⟨#[]⟩)) i).set i (strA L[i]) = _ := fillS_set strA L (.v (.string ⟨#[]⟩)) i hlt
      simp only [strA] at hs
      simp (decide := true) (disch := first | omega | (simp only [List.length_map, List.length_cons, List.length_append, List.length_nil]; omega)) only [hlen, hg, hs, if_pos, go_sem, Nat.reduceAdd, Nat.reduceMul, Nat.reduceSub]
      refine ih (i + 1) _ (by omega) hlt ?_
      simp [go_sem, toAnn, toStringSt]
    · have hge : i = L.length := by simp at h; omega
      subst hge
      simp (decide := true) only [hlen, fillS_all, go_sem, Nat.reduceAdd, Nat.reduceMul, Nat.reduceSub]
      exact Runs.ret_refl
def toIntSt (L : List Int) (i : Nat) : St := ⟨[.sl .sh (L.map intA), .any, .any, .ms (.l 0) 0 L.length L.length, .v (.int .i64 i), .any, .any, .any, .any, .any, .any, .any, .any, .any, .any, .any, .any, .any, .any, .any, .any, .any], [(0, ⟨true, 1, false, fillS intA L (.v (.int .i64 0)) i⟩)], []⟩
set_option maxRecDepth 10000 in
include hm in
theorem toIntS (L : List Int) (h3 : L.length ≤ 1048576) : Holds Tryd.prog 16 [.sl .sh (L.map intA)] [] (.sl (.ow 1) (L.map intA)) [] := by
  refine holds_of (ann := toAnn) tabOk hm Tryd.func16 (by kernel_rfl) rfl ?_
  simp (decide := true) (disch := first | omega | (simp only [List.length_map, List.length_cons, List.length_append, List.length_nil]; omega)) only [Tryd.f16, if_pos, go_sem, Nat.reduceAdd, Nat.reduceMul, Nat.reduceSub]
  refine Runs.while (α := Nat) (toIntSt L) (fun i => L.length - i) (fun i => i ≤ L.length) 0 (by omega) ?_ ?_
  · simp [go_sem, toAnn, toIntSt, fillS_zero]
  · intro i hi ih
    have hlen := fillS_length intA L (.v (.int .i64 0)) i hi
    simp (decide := true) only [toIntSt, hlen, go_sem, Nat.reduceAdd, Nat.reduceMul, Nat.reduceSub]
    refine Runs.split (fun h => ?_) (fun h => ?_)
    · have hlt : i < L.length := by simpa using h
      have hg := fillS_get intA L (.v (.int .i64 0)) i hlt
      have hs : (fillS intA L (.v (.int .i64 0)) i).set i (intA L[i]) = _ := fillS_set intA L (.v (.int .i64 0)) i hlt
      simp only [intA] at hs
      simp (decide := true) (disch := first | omega | (simp only [List.length_map, List.length_cons, List.length_append, List.length_nil]; omega)) only [hlen, hg, hs, if_pos, go_sem, Nat.reduceAdd, Nat.reduceMul, Nat.reduceSub]
      refine ih (i + 1) _ (by omega) hlt ?_
      simp [go_sem, toAnn, toIntSt]
    · have hge : i = L.length := by simp at h; omega
      subst hge
      simp (decide := true) only [hlen, fillS_all, go_sem, Nat.reduceAdd, Nat.reduceMul, Nat.reduceSub]
      exact Runs.ret_refl
end Go.Proofs.W

namespace Go.Proofs.W
open Go Go.AM
set_option linter.unusedSimpArgs false
set_option linter.unusedVariables false
variable (hm : Tryd.prog.follows .mixedOrders = true)

def eqAnn : Ann := [(0, [0, 1, 5])]
def eqSched : Sched := .take 0 (.take 1 (.take 2 (.take 4 (.take 5 (.take 6 (.alt 3 (.alt 7 (.take 8 .fin) .nil) (.alt 7 (.alt 3 (.take 8 .fin) .nil) .nil)))))))
attribute [local go_sem] eqSched
def eqStringSt (L : List ByteArray) (i : Nat) : St := ⟨[.sl .sh (L.map strA), .sl .sh (L.map strA), .any, .any, .any, .v (.int .i64 i), .any, .any, .any, .any, .any, .any, .any, .any, .any, .any, .any, .any, .any, .any, .any, .any, .any, .any, .any, .any], [], []⟩
set_option maxRecDepth 10000 in
include hm in
theorem eqStringS (L : List ByteArray) (h3 : L.length ≤ 9223372036854775807) : Holds Tryd.prog 19 [.sl .sh (L.map strA), .sl .sh (L.map strA)] [] (.v (.bool true)) [] := by
  refine holds_of (ann := eqAnn) tabOk hm Tryd.func19 (by kernel_rfl) rfl ?_
  simp (decide := true) only [Tryd.f19, go_sem, Nat.reduceAdd, Nat.reduceMul, Nat.reduceSub]
  refine Runs.while (α := Nat) (eqStringSt L) (fun i => L.length - i) (fun i => i ≤ L.length) 0 (by omega) ?_ ?_
  · simp [go_sem, eqAnn, eqStringSt]
  · intro i hi ih
    simp (decide := true) only [eqStringSt, go_sem, Nat.reduceAdd, Nat.reduceMul, Nat.reduceSub]
    refine Runs.split (fun h => ?_) (fun h => ?_)
    · have hlt : i < L.length := by simpa using h
      simp (decide := true) only [go_sem, Nat.reduceAdd, Nat.reduceMul, Nat.reduceSub]
      refine Runs.draw (st1 := ?s1) (draws_by (ann := []) tabOk eqSched (by kernel_rfl) ?p1) ?q1
      case p1 =>
        intro K r X hK
        simp (decide := true) (disch := first | omega | (simp only [List.length_map, List.length_cons, List.length_append, List.length_nil]; omega)) only [if_pos, go_sem, Nat.reduceAdd, Nat.reduceMul, Nat.reduceSub]
        exact hK
      case q1 =>
        simp (decide := true) (disch := first | omega | (simp only [List.length_map, List.length_cons, List.length_append, List.length_nil]; omega)) only [if_pos, go_sem, Nat.reduceAdd, Nat.reduceMul, Nat.reduceSub]
        refine ih (i + 1) _ (by omega) hlt ?_
        simp [go_sem, eqAnn, eqStringSt]
    · simp (decide := true) only [go_sem, Nat.reduceAdd, Nat.reduceMul, Nat.reduceSub]
      exact Runs.ret_v
def eqIntSt (L : List Int) (i : Nat) : St := ⟨[.sl .sh (L.map intA), .sl .sh (L.map intA), .any, .any, .any, .v (.int .i64 i), .any, .any, .any, .any, .any, .any, .any, .any, .any, .any, .any, .any, .any, .any, .any, .any, .any, .any, .any, .any], [], []⟩
set_option maxRecDepth 10000 in
include hm in
theorem eqIntS (L : List Int) (h3 : L.length ≤ 9223372036854775807) : Holds Tryd.prog 21 [.sl .sh (L.map intA), .sl .sh (L.map intA)] [] (.v (.bool true)) [] := by
  refine holds_of (ann := eqAnn) tabOk hm Tryd.func21 (by kernel_rfl) rfl ?_
  simp (decide := true) only [Tryd.f21, go_sem, Nat.reduceAdd, Nat.reduceMul, Nat.reduceSub]
  refine Runs.while (α := Nat) (eqIntSt L) (fun i => L.length - i) (fun i => i ≤ L.length) 0 (by omega) ?_ ?_
  · simp [go_sem, eqAnn, eqIntSt]
  · intro i hi ih
    simp (decide := true) only [eqIntSt, go_sem, Nat.reduceAdd, Nat.reduceMul, Nat.reduceSub]
    refine Runs.split (fun h => ?_) (fun h => ?_)
    · have hlt : i < L.length := by simpa using h
      simp (decide := true) only [go_sem, Nat.reduceAdd, Nat.reduceMul, Nat.reduceSub]
      refine Runs.draw (st1 := ?s1) (draws_by (ann := []) tabOk eqSched (by kernel_rfl) ?p1) ?q1
      case p1 =>
        intro K r X hK
        simp (decide := true) (disch := first | omega | (simp only [List.length_map, List.length_cons, List.length_append, List.length_nil]; omega)) only [if_pos, go_sem, Nat.reduceAdd, Nat.reduceMul, Nat.reduceSub]
        exact hK
      case q1 =>
        simp (decide := true) (disch := first | omega | (simp only [List.length_map, List.length_cons, List.length_append, List.length_nil]; omega)) only [if_pos, go_sem, Nat.reduceAdd, Nat.reduceMul, Nat.reduceSub]
        refine ih (i + 1) _ (by omega) hlt ?_
        simp [go_sem, eqAnn, eqIntSt]
    · simp (decide := true) only [go_sem, Nat.reduceAdd, Nat.reduceMul, Nat.reduceSub]
      exact Runs.ret_v
end Go.Proofs.W

namespace Go.Proofs.W
open Go Go.AM
set_option linter.unusedSimpArgs false
set_option linter.unusedVariables false
variable (hm : Tryd.prog.follows .mixedOrders = true)

def rowS (l : List Int) : A := .sl .sh (l.map intA)
def rowO (l : List Int) : A := .sl (.ow 1) (l.map intA)
theorem rowS_plain (ne : List (List Int)) : plainL (ne.map rowS) = true := by
  induction ne with
  | nil => simp [plainL]
  | cons a l ih => simp [plainL, rowS, A.plain, ih, Sh.own, pl_intA]
theorem rowS_dn (ne : List (List Int)) : dnL (ne.map rowS) = ne.map rowS := by
  induction ne with
  | nil => simp [dnL]
  | cons a l ih => simp [dnL, rowS, A.dn, ih, dn_intA]
theorem rowO_dn (ne : List (List Int)) : dnL (ne.map rowO) = ne.map rowS := by
  induction ne with
  | nil => simp [dnL]
  | cons a l ih => simp [dnL, rowO, rowS, A.dn, ih, dn_intA]
attribute [local go_sem] rowS_plain rowS_dn rowO_dn
def szII : List (List Int) → Int → Int
  | [], l => l
  | r :: R, l => if szI r.length l < 0 then -1 else szII R (szI r.length l)
def szSS (L : List (List Int)) (left : Int) : Int := if left - L.length < 0 then -1 else szII L (left - L.length)
theorem szII_le (L : List (List Int)) (l : Int) (h : 0 ≤ l) : szII L l ≤ l ∧ -1 ≤ szII L l ∧ (0 ≤ szII L l → ∀ r ∈ L, r.length ≤ l) := by
  induction L generalizing l with
  | nil => simp [szII]; omega
  | cons r R ih =>
    simp only [szII]
    have hs := szI_le r.length l h
    split
    · exact ⟨by omega, by omega, fun h => by omega⟩
    · have := ih (szI r.length l) (by omega)
      refine ⟨by omega, by omega, fun h2 x hx => ?_⟩
      rcases List.mem_cons.mp hx with h3 | h3
      · subst h3; unfold szI at *; split at * <;> omega
      · have := this.2.2 h2 x h3; omega
theorem szSS_le (L : List (List Int)) (l : Int) (h : 0 ≤ l) : szSS L l ≤ l ∧ -1 ≤ szSS L l ∧ (0 ≤ szSS L l → L.length ≤ l ∧ ∀ r ∈ L, r.length ≤ l) := by
  unfold szSS
  split
  · exact ⟨by omega, by omega, fun h => by omega⟩
  · have := szII_le L (l - L.length) (by omega)
    exact ⟨by omega, by omega, fun h2 => ⟨by omega, fun r hr => by have := this.2.2 h2 r hr; omega⟩⟩
def ssAnn : Ann := [(0, [0, 1, 5])]
def ssSt (L : List (List Int)) (p : Nat × Int) : St := ⟨[.sl .sh (L.map rowS), .v (.int .i64 p.2), .any, .any, .any, .v (.int .i64 p.1), .any, .any, .any, .any, .any, .any, .any, .any, .any, .any, .any, .any, .any, .any, .any, .any, .any, .any, .any, .any, .any], [], []⟩
set_option maxRecDepth 10000 in
include hm in
theorem szIntSS (L : List (List Int)) (left : Int) (h1 : 0 ≤ left) (h2 : left ≤ 1048576) (h3 : L.length ≤ 9223372036854775807) (h4 : ∀ s ∈ L, s.length ≤ 9223372036854775807) :
    Holds Tryd.prog 10 [.sl .sh (L.map rowS), .v (.int .i64 left)] [] (.v (.int .i64 (szSS L left))) [] := by
  refine holds_of (ann := ssAnn) tabOk hm Tryd.func10 (by kernel_rfl) rfl ?_
  simp (decide := true) (disch := first | omega | (simp only [List.length_map, List.length_cons, List.length_append, List.length_nil]; omega)) only [Tryd.f10, if_pos, go_sem, Nat.reduceAdd, Nat.reduceMul, Nat.reduceSub]
  refine Runs.split (fun h => ?_) (fun h => ?_)
  · simp only [decide_eq_true_eq] at h
    simp (decide := true) only [szSS, if_pos h, go_sem, Nat.reduceAdd, Nat.reduceMul, Nat.reduceSub]
    exact Runs.ret_v
  · simp only [decide_eq_false_iff_not] at h
    simp (decide := true) only [go_sem, Nat.reduceAdd, Nat.reduceMul, Nat.reduceSub]
    refine Runs.while (α := Nat × Int) (ssSt L) (fun p => L.length - p.1) (fun p => p.1 ≤ L.length ∧ 0 ≤ p.2 ∧ p.2 ≤ 1048576 ∧ szII (L.drop p.1) p.2 = szSS L left) (0, left - L.length) ⟨by simp, by simp; omega, by simp; omega, by simp [szSS, h]⟩ ?_ ?_
    · simp [go_sem, ssAnn, ssSt]
    · rintro ⟨i, l⟩ ⟨hi, hl1, hl2, hr⟩ ih
      simp only at hi hl1 hl2 hr
      simp (decide := true) only [ssSt, go_sem, Nat.reduceAdd, Nat.reduceMul, Nat.reduceSub]
      refine Runs.split (fun h => ?_) (fun h => ?_)
      · have hlt : i < L.length := by simpa using h
        have hsz := h4 L[i] (List.getElem_mem hlt)
        have hg : (L.map rowS).getD i .any = .sl .sh (L[i].map intA) := by simp [List.getD, hlt, rowS]
        rw [List.drop_eq_getElem_cons hlt] at hr
        simp only [szII] at hr
        have hb := szI_le L[i].length l hl1
        simp (decide := true) (disch := first | omega | (simp only [List.length_map, List.length_cons, List.length_append, List.length_nil]; omega)) only [hg, if_pos, go_sem, Nat.reduceAdd, Nat.reduceMul, Nat.reduceSub]
        refine Runs.call (szIntS hm (L[i].map intA) l hl1 hl2 (by simpa using hsz)) ?_
        simp (decide := true) only [List.length_map, go_sem, Nat.reduceAdd, Nat.reduceMul, Nat.reduceSub]
        refine Runs.split (fun h => ?_) (fun h => ?_)
        · simp only [decide_eq_true_eq] at h
          rw [if_pos h] at hr
          simp (decide := true) only [← hr, go_sem, Nat.reduceAdd, Nat.reduceMul, Nat.reduceSub]
          exact Runs.ret_v
        · simp only [decide_eq_false_iff_not] at h
          rw [if_neg h] at hr
          simp (decide := true) (disch := first | omega | (simp only [List.length_map, List.length_cons, List.length_append, List.length_nil]; omega)) only [if_pos, go_sem, Nat.reduceAdd, Nat.reduceMul, Nat.reduceSub]
          refine ih (i + 1, szI L[i].length l) _ (by simp only; omega) ⟨hlt, by simp only; omega, by simp only; omega, hr⟩ ?_
          simp [go_sem, ssAnn, ssSt]
      · have hge : i = L.length := by simp at h; omega
        subst hge
        simp only [List.drop_length, szII] at hr
        simp (decide := true) only [← hr, go_sem, Nat.reduceAdd, Nat.reduceMul, Nat.reduceSub]
        exact Runs.ret_v
def tssSt (L : List (List Int)) (i : Nat) : St := ⟨[.sl .sh (L.map rowS), .any, .any, .ms (.l 0) 0 L.length L.length, .v (.int .i64 i), .any, .any, .any, .any, .any, .any, .any, .any, .any, .any, .any, .any, .any, .any, .any, .any, .any, .any], [(0, ⟨true, 1, false, fillS rowO L (.v (.slice none 0 0)) i⟩)], []⟩
set_option maxRecDepth 10000 in
include hm in
theorem toIntSS (L : List (List Int)) (h3 : L.length ≤ 1048576) (h4 : ∀ s ∈ L, s.length ≤ 1048576) : Holds Tryd.prog 15 [.sl .sh (L.map rowS)] [] (.sl (.ow 1) (L.map rowO)) [] := by
  refine holds_of (ann := toAnn) tabOk hm Tryd.func15 (by kernel_rfl) rfl ?_
  simp (decide := true) (disch := first | omega | (simp only [List.length_map, List.length_cons, List.length_append, List.length_nil]; omega)) only [Tryd.f15, if_pos, go_sem, Nat.reduceAdd, Nat.reduceMul, Nat.reduceSub]
  refine Runs.while (α := Nat) (tssSt L) (fun i => L.length - i) (fun i => i ≤ L.length) 0 (by omega) ?_ ?_
  · simp [go_sem, toAnn, tssSt, fillS_zero]
  · intro i hi ih
    have hlen := fillS_length rowO L (.v (.slice none 0 0)) i hi
    simp (decide := true) only [tssSt, hlen, go_sem, Nat.reduceAdd, Nat.reduceMul, Nat.reduceSub]
    refine Runs.split (fun h => ?_) (fun h => ?_)
    · have hlt : i < L.length := by simpa using h
      have hg := fillS_get rowO L (.v (.slice none 0 0)) i hlt
      have hg2 : (L.map rowS).getD i .any = .sl .sh (L[i].map intA) := by simp [List.getD, hlt, rowS]
      have hs : (fillS rowO L (.v (.slice none 0 0)) i).set i (rowO L[i]) = _ := fillS_set rowO L (.v (.slice none 0 0)) i hlt
      simp only [rowO] at hs
      simp (decide := true) (disch := first | omega | (simp only [List.length_map, List.length_cons, List.length_append, List.length_nil]; omega)) only [hlen, hg, hg2, if_pos, go_sem, Nat.reduceAdd, Nat.reduceMul, Nat.reduceSub]
      refine Runs.call (toIntS hm L[i] (h4 _ (List.getElem_mem hlt))) ?_
      simp (decide := true) (disch := first | omega | (simp only [List.length_map, List.length_cons, List.length_append, List.length_nil]; omega)) only [hlen, hg, hs, Nat.mul_one, Nat.zero_add, Nat.add_zero, if_pos, go_sem, Nat.reduceAdd, Nat.reduceMul, Nat.reduceSub]
      refine ih (i + 1) _ (by omega) hlt ?_
      simp [go_sem, toAnn, tssSt]
    · have hge : i = L.length := by simp at h; omega
      subst hge
      simp (decide := true) only [hlen, fillS_all, go_sem, Nat.reduceAdd, Nat.reduceMul, Nat.reduceSub]
      exact Runs.ret_refl
def esS : Sched := .take 0 (.take 1 (.take 2 (.take 4 (.take 5 (.take 6 (.alt 3 (.alt 7 (.alt 8 (.take 9 .fin) .nil) .nil) (.alt 7 (.alt 3 (.alt 8 (.take 9 .fin) .nil) .nil) .nil)))))))
attribute [local go_sem] esS
def essSt (L : List (List Int)) (i : Nat) : St := ⟨[.sl .sh (L.map rowS), .sl .sh (L.map rowS), .any, .any, .any, .v (.int .i64 i), .any, .any, .any, .any, .any, .any, .any, .any, .any, .any, .any, .any, .any, .any, .any, .any, .any, .any, .any, .any, .any], [], []⟩
set_option maxRecDepth 10000 in
include hm in
theorem eqIntSS (L : List (List Int)) (h3 : L.length ≤ 1048576) (h4 : ∀ s ∈ L, s.length ≤ 1048576) : Holds Tryd.prog 20 [.sl .sh (L.map rowS), .sl .sh (L.map rowS)] [] (.v (.bool true)) [] := by
  refine holds_of (ann := eqAnn) tabOk hm Tryd.func20 (by kernel_rfl) rfl ?_
  simp (decide := true) only [Tryd.f20, go_sem, Nat.reduceAdd, Nat.reduceMul, Nat.reduceSub]
  refine Runs.while (α := Nat) (essSt L) (fun i => L.length - i) (fun i => i ≤ L.length) 0 (by omega) ?_ ?_
  · simp [go_sem, eqAnn, essSt]
  · intro i hi ih
    simp (decide := true) only [essSt, go_sem, Nat.reduceAdd, Nat.reduceMul, Nat.reduceSub]
    refine Runs.split (fun h => ?_) (fun h => ?_)
    · have hlt : i < L.length := by simpa using h
      have hsz := h4 _ (List.getElem_mem hlt)
      have hg : (L.map rowS).getD i .any = .sl .sh (L[i].map intA) := by simp [List.getD, hlt, rowS]
      simp (decide := true) only [go_sem, Nat.reduceAdd, Nat.reduceMul, Nat.reduceSub]
      refine Runs.draw (st1 := ?s1) (draws_by (ann := []) tabOk esS (by kernel_rfl) ?p1) ?q1
      case p1 =>
        intro K r X hK
        simp (decide := true) (disch := first | omega | (simp only [List.length_map, List.length_cons, List.length_append, List.length_nil]; omega)) only [hg, if_pos, go_sem, Nat.reduceAdd, Nat.reduceMul, Nat.reduceSub]
        repeat' apply And.intro
        all_goals
          refine Runs.call (eqIntS hm L[i] (by omega)) ?_
          simp (decide := true) only [go_sem, Nat.reduceAdd, Nat.reduceMul, Nat.reduceSub]
          exact hK
      case q1 =>
        simp (decide := true) (disch := first | omega | (simp only [List.length_map, List.length_cons, List.length_append, List.length_nil]; omega)) only [if_pos, go_sem, Nat.reduceAdd, Nat.reduceMul, Nat.reduceSub]
        refine ih (i + 1) _ (by omega) hlt ?_
        simp [go_sem, eqAnn, essSt]
    · simp (decide := true) only [go_sem, Nat.reduceAdd, Nat.reduceMul, Nat.reduceSub]
      exact Runs.ret_v
def exS (ca : Bool) (path usage : Int) (ho : List ByteArray) (ne : List (List Int)) (al de : List ByteArray) (pu : List Int) : A :=
  .agg [.v (.bool ca), .v (.int .i64 path), .v (.int .i64 usage), .sl .sh (ho.map strA), .sl .sh (ne.map rowS), .sl .sh (al.map strA), .sl .sh (de.map strA), .sl .sh (pu.map intA)]
def exO (ca : Bool) (path usage : Int) (ho : List ByteArray) (ne : List (List Int)) (al de : List ByteArray) (pu : List Int) : A :=
  .agg [.v (.bool ca), .v (.int .i64 path), .v (.int .i64 usage), .sl (.ow 1) (ho.map strA), .sl (.ow 1) (ne.map rowO), .sl (.ow 1) (al.map strA), .sl (.ow 1) (de.map strA), .sl (.ow 1) (pu.map intA)]
attribute [local go_sem] exS exO
def szExV (ho : List ByteArray) (ne : List (List Int)) (al de : List ByteArray) (pu : List Int) (left : Int) : Int :=
  if szS ho left < 0 then -1 else if szSS ne (szS ho left) < 0 then -1 else if szS al (szSS ne (szS ho left)) < 0 then -1 else
  if szS de (szS al (szSS ne (szS ho left))) < 0 then -1 else if szI pu.length (szS de (szS al (szSS ne (szS ho left)))) < 0 then -1 else szI pu.length (szS de (szS al (szSS ne (szS ho left))))
/-- The bounds that the law's guard tells of the lists. -/
def ExFit (ho : List ByteArray) (ne : List (List Int)) (al de : List ByteArray) (pu : List Int) : Prop :=
  ho.length ≤ 1048576 ∧ ne.length ≤ 1048576 ∧ (∀ r ∈ ne, r.length ≤ 1048576) ∧ al.length ≤ 1048576 ∧ de.length ≤ 1048576 ∧ pu.length ≤ 1048576
theorem szExV_le (ho : List ByteArray) (ne : List (List Int)) (al de : List ByteArray) (pu : List Int) (left : Int) (h : 0 ≤ left) (h2 : left ≤ 1048576) :
    szExV ho ne al de pu left ≤ left ∧ -1 ≤ szExV ho ne al de pu left ∧ (¬ szExV ho ne al de pu left < 0 → ExFit ho ne al de pu) := by
  have b1 := szS_le ho left h
  unfold szExV
  split
  · exact ⟨by omega, by omega, fun h => by omega⟩
  · rename_i e1
    have k1 := szS_len ho _ e1 (by omega)
    have b2 := szSS_le ne (szS ho left) (by omega)
    split
    · exact ⟨by omega, by omega, fun h => by omega⟩
    · rename_i e2
      have k2 := b2.2.2 (by omega)
      have b3 := szS_le al (szSS ne (szS ho left)) (by omega)
      split
      · exact ⟨by omega, by omega, fun h => by omega⟩
      · rename_i e3
        have k3 := szS_len al _ e3 (by omega)
        have b4 := szS_le de (szS al (szSS ne (szS ho left))) (by omega)
        split
        · exact ⟨by omega, by omega, fun h => by omega⟩
        · rename_i e4
          have k4 := szS_len de _ e4 (by omega)
          have b5 := szI_le pu.length (szS de (szS al (szSS ne (szS ho left)))) (by omega)
          split
          · exact ⟨by omega, by omega, fun h => by omega⟩
          · rename_i e5
            have k5 := szI_len pu.length _ e5 (by omega)
            exact ⟨by omega, by omega, fun _ => ⟨k1, by omega, fun r hr => by have := k2.2 r hr; omega, k3, k4, k5⟩⟩
set_option maxRecDepth 10000 in
include hm in
theorem szExts (ca : Bool) (path usage : Int) (ho : List ByteArray) (ne : List (List Int)) (al de : List ByteArray) (pu : List Int) (left : Int) (l1 : 0 ≤ left) (l2 : left ≤ 1048576)
    (h1 : ho.length ≤ 9223372036854775807) (h2 : ∀ s ∈ ho, s.size ≤ 9223372036854775807) (h3 : ne.length ≤ 9223372036854775807) (h4 : ∀ s ∈ ne, s.length ≤ 9223372036854775807)
    (h5 : al.length ≤ 9223372036854775807) (h6 : ∀ s ∈ al, s.size ≤ 9223372036854775807) (h7 : de.length ≤ 9223372036854775807) (h8 : ∀ s ∈ de, s.size ≤ 9223372036854775807) (h9 : pu.length ≤ 9223372036854775807) :
    Holds Tryd.prog 4 [exS ca path usage ho ne al de pu, .v (.int .i64 left)] [] (.v (.int .i64 (szExV ho ne al de pu left))) [] := by
  have b1 := szS_le ho left l1
  refine holds_ref (ann := []) tabOk hm (byL [] [1000002]) Tryd.func4 (by kernel_rfl) rfl ?_
  simp (decide := true) only [Tryd.f4, go_sem, Nat.reduceAdd, Nat.reduceMul, Nat.reduceSub]
  refine Runs.call (szStringS hm ho left l1 l2 h1 h2) ?_
  simp (decide := true) only [go_sem, Nat.reduceAdd, Nat.reduceMul, Nat.reduceSub]
  refine Runs.split (fun e => ?_) (fun e => ?_)
  · simp only [decide_eq_true_eq] at e
    simp (decide := true) only [szExV, if_pos e, go_sem, Nat.reduceAdd, Nat.reduceMul, Nat.reduceSub]
    exact Runs.ret_v
  simp only [decide_eq_false_iff_not] at e
  have b2 := szSS_le ne (szS ho left) (by omega)
  simp (decide := true) only [go_sem, Nat.reduceAdd, Nat.reduceMul, Nat.reduceSub]
  refine Runs.call (szIntSS hm ne _ (by omega) (by omega) h3 h4) ?_
  simp (decide := true) only [go_sem, Nat.reduceAdd, Nat.reduceMul, Nat.reduceSub]
  refine Runs.split (fun e2 => ?_) (fun e2 => ?_)
  · simp only [decide_eq_true_eq] at e2
    simp (decide := true) only [szExV, if_neg e, if_pos e2, go_sem, Nat.reduceAdd, Nat.reduceMul, Nat.reduceSub]
    exact Runs.ret_v
  simp only [decide_eq_false_iff_not] at e2
  have b3 := szS_le al (szSS ne (szS ho left)) (by omega)
  simp (decide := true) only [go_sem, Nat.reduceAdd, Nat.reduceMul, Nat.reduceSub]
  refine Runs.call (szStringS hm al _ (by omega) (by omega) h5 h6) ?_
  simp (decide := true) only [go_sem, Nat.reduceAdd, Nat.reduceMul, Nat.reduceSub]
  refine Runs.split (fun e3 => ?_) (fun e3 => ?_)
  · simp only [decide_eq_true_eq] at e3
    simp (decide := true) only [szExV, if_neg e, if_neg e2, if_pos e3, go_sem, Nat.reduceAdd, Nat.reduceMul, Nat.reduceSub]
    exact Runs.ret_v
  simp only [decide_eq_false_iff_not] at e3
  have b4 := szS_le de (szS al (szSS ne (szS ho left))) (by omega)
  simp (decide := true) only [go_sem, Nat.reduceAdd, Nat.reduceMul, Nat.reduceSub]
  refine Runs.call (szStringS hm de _ (by omega) (by omega) h7 h8) ?_
  simp (decide := true) only [go_sem, Nat.reduceAdd, Nat.reduceMul, Nat.reduceSub]
  refine Runs.split (fun e4 => ?_) (fun e4 => ?_)
  · simp only [decide_eq_true_eq] at e4
    simp (decide := true) only [szExV, if_neg e, if_neg e2, if_neg e3, if_pos e4, go_sem, Nat.reduceAdd, Nat.reduceMul, Nat.reduceSub]
    exact Runs.ret_v
  simp only [decide_eq_false_iff_not] at e4
  simp (decide := true) only [go_sem, Nat.reduceAdd, Nat.reduceMul, Nat.reduceSub]
  refine Runs.call (szIntS hm (pu.map intA) _ (by omega) (by omega) (by simpa using h9)) ?_
  simp (decide := true) only [List.length_map, go_sem, Nat.reduceAdd, Nat.reduceMul, Nat.reduceSub]
  refine Runs.split (fun e5 => ?_) (fun e5 => ?_)
  · simp only [decide_eq_true_eq] at e5
    simp (decide := true) only [szExV, if_neg e, if_neg e2, if_neg e3, if_neg e4, if_pos e5, go_sem, Nat.reduceAdd, Nat.reduceMul, Nat.reduceSub]
    exact Runs.ret_v
  simp only [decide_eq_false_iff_not] at e5
  simp (decide := true) only [szExV, if_neg e, if_neg e2, if_neg e3, if_neg e4, if_neg e5, go_sem, Nat.reduceAdd, Nat.reduceMul, Nat.reduceSub]
  exact Runs.ret_v
set_option maxRecDepth 10000 in
include hm in
theorem toExts (ca : Bool) (path usage : Int) (ho : List ByteArray) (ne : List (List Int)) (al de : List ByteArray) (pu : List Int) (h : ExFit ho ne al de pu) :
    Holds Tryd.prog 6 [exS ca path usage ho ne al de pu] [] (exO ca path usage ho ne al de pu) [] := by
  obtain ⟨h1, h2, h3, h4, h5, h6⟩ := h
  refine holds_ref (ann := []) tabOk hm (byL [] [1000001]) Tryd.func6 (by kernel_rfl) rfl ?_
  simp (decide := true) only [Tryd.f6, go_sem, Nat.reduceAdd, Nat.reduceMul, Nat.reduceSub]
  refine Runs.call (toStringS hm ho h1) ?_
  simp (decide := true) only [go_sem, Nat.reduceAdd, Nat.reduceMul, Nat.reduceSub]
  refine Runs.call (toIntSS hm ne h2 h3) ?_
  simp (decide := true) only [go_sem, Nat.reduceAdd, Nat.reduceMul, Nat.reduceSub]
  refine Runs.call (toStringS hm al h4) ?_
  simp (decide := true) only [go_sem, Nat.reduceAdd, Nat.reduceMul, Nat.reduceSub]
  refine Runs.call (toStringS hm de h5) ?_
  simp (decide := true) only [go_sem, Nat.reduceAdd, Nat.reduceMul, Nat.reduceSub]
  refine Runs.call (toIntS hm pu h6) ?_
  simp (decide := true) only [go_sem, Nat.reduceAdd, Nat.reduceMul, Nat.reduceSub]
  exact Runs.ret_refl
set_option maxRecDepth 10000 in
include hm in
theorem eqExts (ca : Bool) (path usage : Int) (ho : List ByteArray) (ne : List (List Int)) (al de : List ByteArray) (pu : List Int) (h : ExFit ho ne al de pu) :
    Holds Tryd.prog 8 [exS ca path usage ho ne al de pu, exS ca path usage ho ne al de pu] [] (.v (.bool true)) [] := by
  obtain ⟨h1, h2, h3, h4, h5, h6⟩ := h
  refine holds_ref (ann := []) tabOk hm (byL [] [1000002, 1000003]) Tryd.func8 (by kernel_rfl) rfl ?_
  simp (decide := true) only [Tryd.f8, go_sem, Nat.reduceAdd, Nat.reduceMul, Nat.reduceSub]
  refine Runs.call (eqStringS hm ho (by omega)) ?_
  simp (decide := true) only [go_sem, Nat.reduceAdd, Nat.reduceMul, Nat.reduceSub]
  refine Runs.call (eqIntSS hm ne h2 h3) ?_
  simp (decide := true) only [go_sem, Nat.reduceAdd, Nat.reduceMul, Nat.reduceSub]
  refine Runs.call (eqStringS hm al (by omega)) ?_
  simp (decide := true) only [go_sem, Nat.reduceAdd, Nat.reduceMul, Nat.reduceSub]
  refine Runs.call (eqStringS hm de (by omega)) ?_
  simp (decide := true) only [go_sem, Nat.reduceAdd, Nat.reduceMul, Nat.reduceSub]
  refine Runs.call (eqIntS hm pu (by omega)) ?_
  simp (decide := true) only [go_sem, Nat.reduceAdd, Nat.reduceMul, Nat.reduceSub]
  exact Runs.ret_v
end Go.Proofs.W

namespace Go.Proofs.W
open Go Go.AM
set_option linter.unusedSimpArgs false
set_option linter.unusedVariables false
variable (hm : Tryd.prog.follows .mixedOrders = true)
attribute [local go_sem] exS exO rowS_plain rowS_dn rowO_dn
def laS : Sched := .alt 0 (.alt 1 (.alt 2 (.alt 3 (.take 4 .fin) .nil) .nil) .nil) (.alt 1 (.alt 0 (.alt 2 (.alt 3 (.take 4 .fin) .nil) .nil) (.alt 2 (.alt 0 (.alt 3 (.take 4 .fin) .nil) .nil) .nil)) .nil)
attribute [local go_sem] laS

set_option maxHeartbeats 4000000 in
set_option maxRecDepth 10000 in
include hm in
theorem lawAllowedBy (ca : Bool) (path usage : Int) (ho : List ByteArray) (ne : List (List Int)) (al de : List ByteArray) (pu : List Int) (s : ByteArray)
    (h1 : ho.length ≤ 9223372036854775807) (h2 : ∀ s ∈ ho, s.size ≤ 9223372036854775807) (h3 : ne.length ≤ 9223372036854775807) (h4 : ∀ s ∈ ne, s.length ≤ 9223372036854775807)
    (h5 : al.length ≤ 9223372036854775807) (h6 : ∀ s ∈ al, s.size ≤ 9223372036854775807) (h7 : de.length ≤ 9223372036854775807) (h8 : ∀ s ∈ de, s.size ≤ 9223372036854775807) (h9 : pu.length ≤ 9223372036854775807) :
    Holds Tryd.prog 3 [exS ca path usage ho ne al de pu, .v (.string s)] [] (.v (.bool true)) [] := by
  refine holds_ref (ann := []) tabOk hm (byL [] [1000002]) Tryd.func3 (by kernel_rfl) rfl ?_
  simp (decide := true) only [Tryd.f3, go_sem, Nat.reduceAdd, Nat.reduceMul, Nat.reduceSub]
  refine Runs.split (fun e => by simp (decide := true) only [go_sem, Nat.reduceAdd, Nat.reduceMul, Nat.reduceSub]; exact Runs.ret_v) (fun e => ?_)
  simp (decide := true) only [go_sem, Nat.reduceAdd, Nat.reduceMul, Nat.reduceSub]
  have cz := szExts hm ca path usage ho ne al de pu 1048576 (by omega) (by omega) h1 h2 h3 h4 h5 h6 h7 h8 h9
  rw [exS] at cz
  refine Runs.call cz ?_
  simp (decide := true) only [go_sem, Nat.reduceAdd, Nat.reduceMul, Nat.reduceSub]
  refine Runs.split (fun e => by simp (decide := true) only [go_sem, Nat.reduceAdd, Nat.reduceMul, Nat.reduceSub]; exact Runs.ret_v) (fun e => ?_)
  simp only [decide_eq_false_iff_not] at e
  have fit := (szExV_le ho ne al de pu 1048576 (by omega) (by omega)).2.2 e
  have ct := toExts hm ca path usage ho ne al de pu fit
  rw [exS, exO] at ct
  have cs : Holds Tryd.prog 5 [exS ca path usage ho ne al de pu, .v (.string s)] [] (.v (.bool (allowedB al de s))) [] := sAllowed hm ca path usage ho ne al de pu s fit.2.2.2.1 fit.2.2.2.2.1
  have ci : Holds Tryd.prog 7 [exS ca path usage ho ne al de pu, .v (.string s)] [] (.v (.bool (allowedB al de s))) [] := iAllowed hm ca path usage ho ne al de pu s fit.2.2.2.1 fit.2.2.2.2.1
  have ce := eqExts hm ca path usage ho ne al de pu fit
  rw [exS] at cs ci ce
  simp (decide := true) only [go_sem, Nat.reduceAdd, Nat.reduceMul, Nat.reduceSub]
  refine Runs.call ct ?_
  simp (decide := true) only [go_sem, Nat.reduceAdd, Nat.reduceMul, Nat.reduceSub]
  refine Runs.call cs ?_
  simp (decide := true) only [go_sem, Nat.reduceAdd, Nat.reduceMul, Nat.reduceSub]
  refine Runs.call ct ?_
  simp (decide := true) only [go_sem, Nat.reduceAdd, Nat.reduceMul, Nat.reduceSub]
  refine Runs.call ci ?_
  generalize allowedB al de s = bb
  have hbb : (bb != bb) = false := by cases bb <;> rfl
  simp (decide := true) only [hbb, go_sem, Nat.reduceAdd, Nat.reduceMul, Nat.reduceSub]
  refine Runs.draw (st1 := ?s1) (draws_ref (ann := []) tabOk (byL [] [1000002]) laS (by kernel_rfl) ?p1) ?q1
  case p1 =>
    intro K r X hK
    simp (decide := true) (maxSteps := 2000000) (disch := first | omega | (simp only [List.length_map, List.length_cons, List.length_append, List.length_nil]; omega)) only [if_pos, go_sem, Nat.reduceAdd, Nat.reduceMul, Nat.reduceSub]
    repeat' apply And.intro
    all_goals
      refine Runs.call ct ?_
      simp (decide := true) (maxSteps := 2000000) (disch := first | omega | (simp only [List.length_map, List.length_cons, List.length_append, List.length_nil]; omega)) only [if_pos, go_sem, Nat.reduceAdd, Nat.reduceMul, Nat.reduceSub]
      refine Runs.call ce ?_
      simp (decide := true) (maxSteps := 2000000) (disch := first | omega | (simp only [List.length_map, List.length_cons, List.length_append, List.length_nil]; omega)) only [if_pos, go_sem, Nat.reduceAdd, Nat.reduceMul, Nat.reduceSub]
      exact hK
  case q1 =>
    simp (decide := true) (maxSteps := 2000000) (disch := first | omega | (simp only [List.length_map, List.length_cons, List.length_append, List.length_nil]; omega)) only [if_pos, go_sem, Nat.reduceAdd, Nat.reduceMul, Nat.reduceSub]
    exact Runs.ret_v
end Go.Proofs.W
