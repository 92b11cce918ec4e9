import Derived.Test.YtnbhfmhlpncjmaaProg
import Derived.KernelRfl
import Derived.Test.YtnbhfmhlpncjmaaMachine3
set_option linter.unusedVariables false
set_option linter.unusedSimpArgs false
namespace Go.Proofs.W
open Go Go.AM
def tab : Go.AM.Tab := [
  [⟨.other, 0, 0, []⟩,
   ⟨.func, 1, 8, [.nilFunc]⟩,
   ⟨.int .i64, 1, 8, [.int .i64 0]⟩,
   ⟨.int .i64, 1, 8, [.int .i64 0]⟩,
   ⟨.bool, 1, 1, [.bool false]⟩,
   ⟨.int .u8, 1, 1, [.int .u8 0]⟩,
   ⟨.int .u8, 1, 1, [.int .u8 0]⟩,
   ⟨.struct [(0, 1, 2), (1, 1, 3), (2, 1, 4), (3, 1, 6)], 4, 24, [.int .i64 0, .int .i64 0, .bool false, .int .u8 0]⟩,
   ⟨.struct [(0, 1, 2), (1, 1, 3), (2, 1, 4), (3, 1, 6)], 4, 24, [.int .i64 0, .int .i64 0, .bool false, .int .u8 0]⟩,
   ⟨.string, 1, 16, [.string ⟨#[]⟩]⟩,
   ⟨.string, 1, 16, [.string ⟨#[]⟩]⟩,
   ⟨.string, 1, 16, [.string ⟨#[]⟩]⟩,
   ⟨.int .u64, 1, 8, [.int .u64 0]⟩,
   ⟨.struct [(0, 1, 9), (1, 1, 12)], 2, 24, [.string ⟨#[]⟩, .int .u64 0]⟩,
   ⟨.struct [(0, 1, 9), (1, 1, 12)], 2, 24, [.string ⟨#[]⟩, .int .u64 0]⟩,
   ⟨.pointer 93, 1, 8, [.pointer none]⟩],
  [⟨.pointer 96, 1, 8, [.pointer none]⟩,
   ⟨.pointer 106, 1, 8, [.pointer none]⟩,
   ⟨.struct [(0, 1, 17)], 1, 8, [.pointer none]⟩,
   ⟨.struct [(0, 1, 17)], 1, 8, [.pointer none]⟩,
   ⟨.other, 0, 0, []⟩,
   ⟨.int .i32, 1, 4, [.int .i32 0]⟩,
   ⟨.slice 9, 1, 24, [.slice none 0 0]⟩,
   ⟨.slice 3, 1, 24, [.slice none 0 0]⟩,
   ⟨.slice 5, 1, 24, [.slice none 0 0]⟩,
   ⟨.struct [(0, 1, 22), (1, 1, 3), (2, 1, 3), (3, 1, 3), (4, 1, 23), (5, 1, 24)], 6, 96, [.slice none 0 0, .int .i64 0, .int .i64 0, .int .i64 0, .slice none 0 0, .slice none 0 0]⟩,
   ⟨.struct [(0, 1, 22), (1, 1, 3), (2, 1, 3), (3, 1, 3), (4, 1, 23), (5, 1, 24)], 6, 96, [.slice none 0 0, .int .i64 0, .int .i64 0, .int .i64 0, .slice none 0 0, .slice none 0 0]⟩,
   ⟨.func, 1, 8, [.nilFunc]⟩,
   ⟨.other, 0, 0, []⟩,
   ⟨.func, 1, 8, [.nilFunc]⟩,
   ⟨.struct [(0, 1, 22), (1, 1, 3), (2, 1, 3), (3, 1, 3), (4, 1, 23), (5, 1, 24)], 6, 96, [.slice none 0 0, .int .i64 0, .int .i64 0, .int .i64 0, .slice none 0 0, .slice none 0 0]⟩,
   ⟨.func, 1, 8, [.nilFunc]⟩],
  [⟨.func, 1, 8, [.nilFunc]⟩,
   ⟨.func, 1, 8, [.nilFunc]⟩,
   ⟨.func, 1, 8, [.nilFunc]⟩,
   ⟨.func, 1, 8, [.nilFunc]⟩,
   ⟨.func, 1, 8, [.nilFunc]⟩,
   ⟨.func, 1, 8, [.nilFunc]⟩,
   ⟨.func, 1, 8, [.nilFunc]⟩,
   ⟨.func, 1, 8, [.nilFunc]⟩,
   ⟨.func, 1, 8, [.nilFunc]⟩,
   ⟨.slice 62, 1, 24, [.slice none 0 0]⟩,
   ⟨.func, 1, 8, [.nilFunc]⟩,
   ⟨.func, 1, 8, [.nilFunc]⟩,
   ⟨.func, 1, 8, [.nilFunc]⟩,
   ⟨.func, 1, 8, [.nilFunc]⟩,
   ⟨.func, 1, 8, [.nilFunc]⟩,
   ⟨.func, 1, 8, [.nilFunc]⟩],
  [⟨.slice 50, 1, 24, [.slice none 0 0]⟩,
   ⟨.struct [(0, 1, 3), (1, 1, 24), (2, 1, 48)], 3, 56, [.int .i64 0, .slice none 0 0, .slice none 0 0]⟩,
   ⟨.struct [(0, 1, 3), (1, 1, 24), (2, 1, 48)], 3, 56, [.int .i64 0, .slice none 0 0, .slice none 0 0]⟩,
   ⟨.func, 1, 8, [.nilFunc]⟩,
   ⟨.func, 1, 8, [.nilFunc]⟩,
   ⟨.func, 1, 8, [.nilFunc]⟩,
   ⟨.func, 1, 8, [.nilFunc]⟩,
   ⟨.func, 1, 8, [.nilFunc]⟩,
   ⟨.func, 1, 8, [.nilFunc]⟩,
   ⟨.func, 1, 8, [.nilFunc]⟩,
   ⟨.func, 1, 8, [.nilFunc]⟩,
   ⟨.func, 1, 8, [.nilFunc]⟩,
   ⟨.func, 1, 8, [.nilFunc]⟩,
   ⟨.struct [(0, 1, 3), (1, 1, 24), (2, 1, 3)], 3, 40, [.int .i64 0, .slice none 0 0, .int .i64 0]⟩,
   ⟨.struct [(0, 1, 3), (1, 1, 24), (2, 1, 3)], 3, 40, [.int .i64 0, .slice none 0 0, .int .i64 0]⟩,
   ⟨.other, 0, 0, []⟩],
  [⟨.func, 1, 8, [.nilFunc]⟩,
   ⟨.func, 1, 8, [.nilFunc]⟩,
   ⟨.func, 1, 8, [.nilFunc]⟩,
   ⟨.func, 1, 8, [.nilFunc]⟩,
   ⟨.func, 1, 8, [.nilFunc]⟩,
   ⟨.func, 1, 8, [.nilFunc]⟩,
   ⟨.other, 0, 0, []⟩,
   ⟨.func, 1, 8, [.nilFunc]⟩,
   ⟨.func, 1, 8, [.nilFunc]⟩,
   ⟨.func, 1, 8, [.nilFunc]⟩,
   ⟨.func, 1, 8, [.nilFunc]⟩,
   ⟨.func, 1, 8, [.nilFunc]⟩,
   ⟨.func, 1, 8, [.nilFunc]⟩,
   ⟨.func, 1, 8, [.nilFunc]⟩,
   ⟨.func, 1, 8, [.nilFunc]⟩,
   ⟨.func, 1, 8, [.nilFunc]⟩],
  [⟨.other, 0, 0, []⟩,
   ⟨.func, 1, 8, [.nilFunc]⟩,
   ⟨.func, 1, 8, [.nilFunc]⟩,
   ⟨.func, 1, 8, [.nilFunc]⟩,
   ⟨.int .u64, 1, 8, [.int .u64 0]⟩,
   ⟨.other, 0, 0, []⟩,
   ⟨.func, 1, 8, [.nilFunc]⟩,
   ⟨.func, 1, 8, [.nilFunc]⟩,
   ⟨.func, 1, 8, [.nilFunc]⟩,
   ⟨.func, 1, 8, [.nilFunc]⟩,
   ⟨.func, 1, 8, [.nilFunc]⟩,
   ⟨.func, 1, 8, [.nilFunc]⟩,
   ⟨.struct [(0, 1, 17), (1, 1, 17), (2, 1, 17), (3, 1, 9)], 4, 40, [.pointer none, .pointer none, .pointer none, .string ⟨#[]⟩]⟩,
   ⟨.struct [(0, 1, 17), (1, 1, 17), (2, 1, 17), (3, 1, 9)], 4, 40, [.pointer none, .pointer none, .pointer none, .string ⟨#[]⟩]⟩,
   ⟨.other, 0, 0, []⟩,
   ⟨.other, 0, 0, []⟩],
  [⟨.other, 0, 0, []⟩,
   ⟨.func, 1, 8, [.nilFunc]⟩,
   ⟨.int .u32, 1, 4, [.int .u32 0]⟩,
   ⟨.int .u8, 1, 1, [.int .u8 0]⟩,
   ⟨.int .u8, 1, 1, [.int .u8 0]⟩,
   ⟨.func, 1, 8, [.nilFunc]⟩,
   ⟨.pointer 5, 1, 8, [.pointer none]⟩,
   ⟨.int .i32, 1, 4, [.int .i32 0]⟩,
   ⟨.int .i32, 1, 4, [.int .i32 0]⟩,
   ⟨.struct [(0, 1, 12), (1, 1, 12), (2, 1, 98), (3, 1, 99), (4, 1, 5), (5, 1, 5), (6, 1, 100), (7, 1, 101), (8, 1, 102), (9, 1, 103), (10, 1, 104)], 11, 48, [.int .u64 0, .int .u64 0, .int .u32 0, .int .u8 0, .int .u8 0, .int .u8 0, .int .u8 0, .nilFunc, .pointer none, .int .i32 0, .int .i32 0]⟩,
   ⟨.struct [(0, 1, 12), (1, 1, 12), (2, 1, 98), (3, 1, 99), (4, 1, 5), (5, 1, 5), (6, 1, 100), (7, 1, 101), (8, 1, 102), (9, 1, 103), (10, 1, 104)], 11, 48, [.int .u64 0, .int .u64 0, .int .u32 0, .int .u8 0, .int .u8 0, .int .u8 0, .int .u8 0, .nilFunc, .pointer none, .int .i32 0, .int .i32 0]⟩,
   ⟨.other, 0, 0, []⟩,
   ⟨.other, 0, 0, []⟩,
   ⟨.other, 0, 0, []⟩,
   ⟨.other, 0, 0, []⟩,
   ⟨.other, 0, 0, []⟩]]
theorem tabOk : TabOk Try.prog tab := tabOk_of (by kernel_rfl)
theorem row2 : tab.row 2 = ⟨.int .i64, 1, 8, [.int .i64 0]⟩ := Eq.trans rfl rfl
theorem row3 : tab.row 3 = ⟨.int .i64, 1, 8, [.int .i64 0]⟩ := Eq.trans rfl rfl
theorem row4 : tab.row 4 = ⟨.bool, 1, 1, [.bool false]⟩ := Eq.trans rfl rfl
theorem row5 : tab.row 5 = ⟨.int .u8, 1, 1, [.int .u8 0]⟩ := Eq.trans rfl rfl
theorem row6 : tab.row 6 = ⟨.int .u8, 1, 1, [.int .u8 0]⟩ := Eq.trans rfl rfl
theorem row7 : tab.row 7 = ⟨.struct [(0, 1, 2), (1, 1, 3), (2, 1, 4), (3, 1, 6)], 4, 24, [.int .i64 0, .int .i64 0, .bool false, .int .u8 0]⟩ := Eq.trans rfl rfl
theorem row8 : tab.row 8 = ⟨.struct [(0, 1, 2), (1, 1, 3), (2, 1, 4), (3, 1, 6)], 4, 24, [.int .i64 0, .int .i64 0, .bool false, .int .u8 0]⟩ := Eq.trans rfl rfl
theorem row9 : tab.row 9 = ⟨.string, 1, 16, [.string ⟨#[]⟩]⟩ := Eq.trans rfl rfl
theorem row10 : tab.row 10 = ⟨.string, 1, 16, [.string ⟨#[]⟩]⟩ := Eq.trans rfl rfl
theorem row11 : tab.row 11 = ⟨.string, 1, 16, [.string ⟨#[]⟩]⟩ := Eq.trans rfl rfl
theorem row12 : tab.row 12 = ⟨.int .u64, 1, 8, [.int .u64 0]⟩ := Eq.trans rfl rfl
theorem row13 : tab.row 13 = ⟨.struct [(0, 1, 9), (1, 1, 12)], 2, 24, [.string ⟨#[]⟩, .int .u64 0]⟩ := Eq.trans rfl rfl
theorem row14 : tab.row 14 = ⟨.struct [(0, 1, 9), (1, 1, 12)], 2, 24, [.string ⟨#[]⟩, .int .u64 0]⟩ := Eq.trans rfl rfl
theorem row15 : tab.row 15 = ⟨.pointer 93, 1, 8, [.pointer none]⟩ := Eq.trans rfl rfl
theorem row16 : tab.row 16 = ⟨.pointer 96, 1, 8, [.pointer none]⟩ := Eq.trans rfl rfl
theorem row17 : tab.row 17 = ⟨.pointer 106, 1, 8, [.pointer none]⟩ := Eq.trans rfl rfl
theorem row18 : tab.row 18 = ⟨.struct [(0, 1, 17)], 1, 8, [.pointer none]⟩ := Eq.trans rfl rfl
theorem row19 : tab.row 19 = ⟨.struct [(0, 1, 17)], 1, 8, [.pointer none]⟩ := Eq.trans rfl rfl
theorem row21 : tab.row 21 = ⟨.int .i32, 1, 4, [.int .i32 0]⟩ := Eq.trans rfl rfl
theorem row22 : tab.row 22 = ⟨.slice 9, 1, 24, [.slice none 0 0]⟩ := Eq.trans rfl rfl
theorem row23 : tab.row 23 = ⟨.slice 3, 1, 24, [.slice none 0 0]⟩ := Eq.trans rfl rfl
theorem row24 : tab.row 24 = ⟨.slice 5, 1, 24, [.slice none 0 0]⟩ := Eq.trans rfl rfl
theorem row25 : tab.row 25 = ⟨.struct [(0, 1, 22), (1, 1, 3), (2, 1, 3), (3, 1, 3), (4, 1, 23), (5, 1, 24)], 6, 96, [.slice none 0 0, .int .i64 0, .int .i64 0, .int .i64 0, .slice none 0 0, .slice none 0 0]⟩ := Eq.trans rfl rfl
theorem row26 : tab.row 26 = ⟨.struct [(0, 1, 22), (1, 1, 3), (2, 1, 3), (3, 1, 3), (4, 1, 23), (5, 1, 24)], 6, 96, [.slice none 0 0, .int .i64 0, .int .i64 0, .int .i64 0, .slice none 0 0, .slice none 0 0]⟩ := Eq.trans rfl rfl
theorem row30 : tab.row 30 = ⟨.struct [(0, 1, 22), (1, 1, 3), (2, 1, 3), (3, 1, 3), (4, 1, 23), (5, 1, 24)], 6, 96, [.slice none 0 0, .int .i64 0, .int .i64 0, .int .i64 0, .slice none 0 0, .slice none 0 0]⟩ := Eq.trans rfl rfl
theorem row41 : tab.row 41 = ⟨.slice 62, 1, 24, [.slice none 0 0]⟩ := Eq.trans rfl rfl
theorem row48 : tab.row 48 = ⟨.slice 50, 1, 24, [.slice none 0 0]⟩ := Eq.trans rfl rfl
theorem row49 : tab.row 49 = ⟨.struct [(0, 1, 3), (1, 1, 24), (2, 1, 48)], 3, 56, [.int .i64 0, .slice none 0 0, .slice none 0 0]⟩ := Eq.trans rfl rfl
theorem row50 : tab.row 50 = ⟨.struct [(0, 1, 3), (1, 1, 24), (2, 1, 48)], 3, 56, [.int .i64 0, .slice none 0 0, .slice none 0 0]⟩ := Eq.trans rfl rfl
theorem row61 : tab.row 61 = ⟨.struct [(0, 1, 3), (1, 1, 24), (2, 1, 3)], 3, 40, [.int .i64 0, .slice none 0 0, .int .i64 0]⟩ := Eq.trans rfl rfl
theorem row62 : tab.row 62 = ⟨.struct [(0, 1, 3), (1, 1, 24), (2, 1, 3)], 3, 40, [.int .i64 0, .slice none 0 0, .int .i64 0]⟩ := Eq.trans rfl rfl
theorem row84 : tab.row 84 = ⟨.int .u64, 1, 8, [.int .u64 0]⟩ := Eq.trans rfl rfl
theorem row92 : tab.row 92 = ⟨.struct [(0, 1, 17), (1, 1, 17), (2, 1, 17), (3, 1, 9)], 4, 40, [.pointer none, .pointer none, .pointer none, .string ⟨#[]⟩]⟩ := Eq.trans rfl rfl
theorem row93 : tab.row 93 = ⟨.struct [(0, 1, 17), (1, 1, 17), (2, 1, 17), (3, 1, 9)], 4, 40, [.pointer none, .pointer none, .pointer none, .string ⟨#[]⟩]⟩ := Eq.trans rfl rfl
theorem row98 : tab.row 98 = ⟨.int .u32, 1, 4, [.int .u32 0]⟩ := Eq.trans rfl rfl
theorem row99 : tab.row 99 = ⟨.int .u8, 1, 1, [.int .u8 0]⟩ := Eq.trans rfl rfl
theorem row100 : tab.row 100 = ⟨.int .u8, 1, 1, [.int .u8 0]⟩ := Eq.trans rfl rfl
theorem row102 : tab.row 102 = ⟨.pointer 5, 1, 8, [.pointer none]⟩ := Eq.trans rfl rfl
theorem row103 : tab.row 103 = ⟨.int .i32, 1, 4, [.int .i32 0]⟩ := Eq.trans rfl rfl
theorem row104 : tab.row 104 = ⟨.int .i32, 1, 4, [.int .i32 0]⟩ := Eq.trans rfl rfl
theorem row105 : tab.row 105 = ⟨.struct [(0, 1, 12), (1, 1, 12), (2, 1, 98), (3, 1, 99), (4, 1, 5), (5, 1, 5), (6, 1, 100), (7, 1, 101), (8, 1, 102), (9, 1, 103), (10, 1, 104)], 11, 48, [.int .u64 0, .int .u64 0, .int .u32 0, .int .u8 0, .int .u8 0, .int .u8 0, .int .u8 0, .nilFunc, .pointer none, .int .i32 0, .int .i32 0]⟩ := Eq.trans rfl rfl
theorem row106 : tab.row 106 = ⟨.struct [(0, 1, 12), (1, 1, 12), (2, 1, 98), (3, 1, 99), (4, 1, 5), (5, 1, 5), (6, 1, 100), (7, 1, 101), (8, 1, 102), (9, 1, 103), (10, 1, 104)], 11, 48, [.int .u64 0, .int .u64 0, .int .u32 0, .int .u8 0, .int .u8 0, .int .u8 0, .int .u8 0, .nilFunc, .pointer none, .int .i32 0, .int .i32 0]⟩ := Eq.trans rfl rfl
attribute [go_sem] row2 row3 row4 row5 row6 row7 row8 row9 row10 row11 row12 row13 row14 row15 row16 row17 row18 row19 row21 row22 row23 row24 row25 row26 row30 row41 row48 row49 row50 row61 row62 row84 row92 row93 row98 row99 row100 row102 row103 row104 row105 row106
end Go.Proofs.W

namespace Go.Proofs.W
open Go Go.AM
set_option linter.unusedSimpArgs false
set_option linter.unusedVariables false
variable (hm : Try.prog.follows .mixedOrders = true)

def inB (n a b : Int) : Bool := decide (a ≤ n) && decide (n ≤ b)
set_option maxRecDepth 10000 in
include hm in
theorem l1In (n a b : Int) : Holds Try.prog 34 [.v (.int .i64 n), .v (.int .i64 a), .v (.int .i64 b)] [] (.v (.bool (inB n a b))) [] := by
  refine holds_of (ann := []) tabOk hm Try.func34 (by kernel_rfl) rfl ?_
  simp (decide := true) only [Try.f34, go_sem, Nat.reduceAdd, Nat.reduceMul, Nat.reduceSub]
  refine Runs.split (fun h => ?_) (fun h => ?_)
  · simp only [decide_eq_true_eq] at h
    have e : inB n a b = decide (n ≤ b) := by simp [inB]; omega
    simp (decide := true) only [e, go_sem, Nat.reduceAdd, Nat.reduceMul, Nat.reduceSub]
    exact Runs.ret_v
  · simp only [decide_eq_false_iff_not] at h
    have e : inB n a b = false := by simp [inB]; omega
    simp (decide := true) only [e, go_sem, Nat.reduceAdd, Nat.reduceMul, Nat.reduceSub]
    exact Runs.ret_v
set_option maxRecDepth 10000 in
include hm in
theorem within (n a b : Int) : Holds Try.prog 45 [.v (.int .i64 n), .v (.int .i64 a), .v (.int .i64 b)] [] (.v (.bool (inB n a b))) [] := by
  refine holds_of (ann := []) tabOk hm Try.func45 (by kernel_rfl) rfl ?_
  simp (decide := true) only [Try.f45, go_sem, Nat.reduceAdd, Nat.reduceMul, Nat.reduceSub]
  refine Runs.split (fun h => ?_) (fun h => ?_)
  · simp only [decide_eq_true_eq] at h
    have e : inB n a b = decide (n ≤ b) := by simp [inB]; omega
    simp (decide := true) only [e, go_sem, Nat.reduceAdd, Nat.reduceMul, Nat.reduceSub]
    exact Runs.ret_v
  · simp only [decide_eq_false_iff_not] at h
    have e : inB n a b = false := by simp [inB]; omega
    simp (decide := true) only [e, go_sem, Nat.reduceAdd, Nat.reduceMul, Nat.reduceSub]
    exact Runs.ret_v
set_option maxRecDepth 10000 in
include hm in
theorem l9Ok (n : Int) : Holds Try.prog 36 [.v (.int .i64 n)] [] (.v (.bool (inB n (-631152000) 4102444799))) [] := by
  refine holds_of (ann := []) tabOk hm Try.func36 (by kernel_rfl) rfl ?_
  simp (decide := true) only [Try.f36, go_sem, Nat.reduceAdd, Nat.reduceMul, Nat.reduceSub]
  refine Runs.call (l1In hm n (-631152000) 4102444799) ?_
  simp (decide := true) only [go_sem, Nat.reduceAdd, Nat.reduceMul, Nat.reduceSub]
  exact Runs.ret_v
set_option maxRecDepth 10000 in
include hm in
theorem isTime (n : Int) : Holds Try.prog 44 [.v (.int .i64 n)] [] (.v (.bool (inB n (-631152000) 4102444799))) [] := by
  refine holds_of (ann := []) tabOk hm Try.func44 (by kernel_rfl) rfl ?_
  simp (decide := true) only [Try.f44, go_sem, Nat.reduceAdd, Nat.reduceMul, Nat.reduceSub]
  refine Runs.call (within hm n (-631152000) 4102444799) ?_
  simp (decide := true) only [go_sem, Nat.reduceAdd, Nat.reduceMul, Nat.reduceSub]
  exact Runs.ret_v
def ann26 : Ann := [(0, [1, 2, 9, 10, 11])]
def st26 (L : List Int) (lo hi : Int) (i : Nat) : St := ⟨[.any, .v (.int .i64 lo), .v (.int .i64 hi), .any, .any, .any, .any, .any, .any, .sl .sh (L.map intA), .v (.int .i64 L.length), .v (.int .i64 i), .any, .any, .any, .any, .any, .any, .any, .any, .any], [], []⟩

set_option maxRecDepth 10000 in
include hm in
theorem allWithin (L : List Int) (lo hi : Int) (h3 : L.length ≤ 9223372036854775807) :
    Holds Try.prog 65 [.sl .sh (L.map intA), .v (.int .i64 lo), .v (.int .i64 hi)] [] (.v (.bool (L.all fun n => inB n lo hi))) [] := by
  refine holds_of (ann := ann26) tabOk hm Try.func65 (by kernel_rfl) rfl ?_
  simp (decide := true) only [Try.f65, go_sem, Nat.reduceAdd, Nat.reduceMul, Nat.reduceSub]
  refine Runs.while (α := Nat) (st26 L lo hi) (fun i => L.length - i) (fun i => i ≤ L.length ∧ ((L.drop i).all fun n => inB n lo hi) = L.all fun n => inB n lo hi) 0 ⟨by omega, by simp⟩ ?_ ?_
  · simp [go_sem, ann26, st26]
  · rintro i ⟨hi1, hr⟩ ih
    simp (decide := true) only [st26, go_sem, Nat.reduceAdd, Nat.reduceMul, Nat.reduceSub]
    refine Runs.split (fun h => ?_) (fun h => ?_)
    · have hlt : i < L.length := by simpa using h
      rw [List.drop_eq_getElem_cons hlt, List.all_cons] at hr
      simp (decide := true) (disch := first | omega | (simp only [List.length_map, List.length_cons, List.length_append, List.length_nil]; omega)) only [if_pos, go_sem, Nat.reduceAdd, Nat.reduceMul, Nat.reduceSub]
      refine Runs.call (within hm L[i] lo hi) ?_
      simp (decide := true) only [go_sem, Nat.reduceAdd, Nat.reduceMul, Nat.reduceSub]
      refine Runs.split (fun h => ?_) (fun h => ?_)
      · simp only [Bool.not_eq_true'] at h
        rw [h] at hr
        simp (decide := true) only [← hr, go_sem, Nat.reduceAdd, Nat.reduceMul, Nat.reduceSub]
        exact Runs.ret_v
      · simp only [Bool.not_eq_false'] at h
        rw [h, Bool.true_and] at hr
        simp (decide := true) (disch := first | omega | (simp only [List.length_map, List.length_cons, List.length_append, List.length_nil]; omega)) only [if_pos, go_sem, Nat.reduceAdd, Nat.reduceMul, Nat.reduceSub]
        refine ih (i + 1) _ (by omega) ⟨hlt, hr⟩ ?_
        simp [go_sem, ann26, st26]
    · have hge : i = L.length := by simp at h; omega
      subst hge
      rw [List.drop_length, List.all_nil] at hr
      simp (decide := true) only [← hr, go_sem, Nat.reduceAdd, Nat.reduceMul, Nat.reduceSub]
      exact Runs.ret_v
end Go.Proofs.W

namespace Go.Proofs.W
open Go Go.AM
set_option linter.unusedSimpArgs false
set_option linter.unusedVariables false
variable (hm : Try.prog.follows .mixedOrders = true)

def ib (n : Int) : Int := IntKind.u8.wrap n
def smallK (n : Int) (k : Nat) : Bool := decide (-128 ≤ n / 256 ^ k) && decide (n / 256 ^ k ≤ 127)
def firstK (n : Int) : Nat → Nat → Nat
  | 0, k => k
  | f + 1, k => if smallK n k = true then k else firstK n f (k + 1)
def kB (n : Int) : Nat := firstK n 7 0
/-- The bytes of a number from a place on, the highest first. -/
def tailB (n : Int) (k : Nat) : List Int := (List.range (k + 1)).reverse.map fun i => ib (n / 256 ^ i)
def intB (n : Int) : List Int := tailB n (kB n)
theorem tailB_succ (n : Int) (k : Nat) : tailB n (k + 1) = ib (n / 256 ^ (k + 1)) :: tailB n k := by
  simp [tailB, List.range_succ]
theorem tailB_length (n : Int) (k : Nat) : (tailB n k).length = k + 1 := by simp [tailB]
theorem firstK_le (n : Int) : ∀ f k, firstK n f k ≤ k + f
  | 0, k => by simp [firstK]
  | f + 1, k => by
    simp only [firstK]
    split
    · omega
    · have := firstK_le n f (k + 1); omega
theorem kB_le (n : Int) : kB n ≤ 7 := by have := firstK_le n 7 0; unfold kB; omega
theorem small7 {n : Int} (h1 : -9223372036854775808 ≤ n) (h2 : n < 9223372036854775808) : smallK n 7 = true := by
  have : (256 : Int) ^ 7 = 72057594037927936 := rfl
  simp only [smallK, this, Bool.and_eq_true, decide_eq_true_eq]
  omega
theorem div256 (n : Int) (k : Nat) : n / 256 ^ k / 256 = n / 256 ^ (k + 1) := by
  rw [Int.pow_succ, Int.ediv_ediv_of_nonneg (Int.pow_nonneg (by omega))]
theorem shr8 (n : Int) : n.fdiv (2 ^ min (Int.toNat 8) 64) = n / 256 := by
  show n.fdiv 256 = n / 256
  exact Int.fdiv_eq_ediv_of_nonneg _ (by omega)
theorem divK_bound {n : Int} (h1 : -9223372036854775808 ≤ n) (h2 : n < 9223372036854775808) (k : Nat) : -9223372036854775808 ≤ n / 256 ^ k ∧ n / 256 ^ k < 9223372036854775808 := by
  have hp : (0 : Int) < 256 ^ k := Int.pow_pos (by omega)
  refine ⟨?_, ?_⟩
  · rw [Int.le_ediv_iff_mul_le hp]
    have : (1 : Int) ≤ 256 ^ k := hp
    calc -9223372036854775808 * 256 ^ k ≤ -9223372036854775808 * 1 := Int.mul_le_mul_of_nonpos_left (by omega) this
      _ ≤ n := by omega
  · rw [Int.ediv_lt_iff_lt_mul hp]
    have : (1 : Int) ≤ 256 ^ k := hp
    calc n < 9223372036854775808 * 1 := by omega
      _ ≤ 9223372036854775808 * 256 ^ k := Int.mul_le_mul_of_nonneg_left this (by omega)

set_option maxRecDepth 10000 in
include hm in
theorem l1Bytes (L : List Int) (h : L.length ≤ 1073741824) : Holds Try.prog 60 [.sl .sh (L.map u8A)] [] (.sl (.ow 1) (L.map u8A)) [] := by
  refine holds_of (ann := []) tabOk hm Try.func60 (by kernel_rfl) rfl ?_
  simp (decide := true) (disch := first | omega | (simp only [List.length_map, List.length_cons, List.length_append, List.length_nil]; omega)) only [Try.f60, if_pos, go_sem, Nat.reduceAdd, Nat.reduceMul, Nat.reduceSub]
  exact Runs.ret_refl
def l7Len (n : Nat) : List Int := if n < 128 then [ib n] else if n < 256 then [129, ib n] else [130, ib (n / 256 : Nat), ib n]
theorem l7Len_length (n : Nat) : (l7Len n).length ≤ 3 := by
  unfold l7Len
  split
  · simp
  · split <;> simp
theorem shr8n (n : Nat) : ((n : Int)).fdiv (2 ^ min (Int.toNat 8) 64) = ((n / 256 : Nat) : Int) := by rw [shr8]; omega
set_option maxRecDepth 10000 in
include hm in
theorem l7Length (n : Nat) (h : n ≤ 1073741824) : Holds Try.prog 61 [.v (.int .i64 n)] [] (.sl (.ow 1) ((l7Len n).map u8A)) [] := by
  refine holds_of (ann := []) tabOk hm Try.func61 (by kernel_rfl) rfl ?_
  simp (decide := true) only [Try.f61, go_sem, Nat.reduceAdd, Nat.reduceMul, Nat.reduceSub]
  refine Runs.split (fun h1 => ?_) (fun h1 => ?_)
  · simp only [decide_eq_true_eq] at h1
    simp (decide := true) only [l7Len, if_pos (show n < 128 by omega), ib, go_sem, Nat.reduceAdd, Nat.reduceMul, Nat.reduceSub]
    exact Runs.ret_refl
  · simp only [decide_eq_false_iff_not] at h1
    simp (decide := true) only [go_sem, Nat.reduceAdd, Nat.reduceMul, Nat.reduceSub]
    refine Runs.split (fun h2 => ?_) (fun h2 => ?_)
    · simp only [decide_eq_true_eq] at h2
      simp (decide := true) only [l7Len, if_neg (show ¬ n < 128 by omega), if_pos (show n < 256 by omega), ib, go_sem, Nat.reduceAdd, Nat.reduceMul, Nat.reduceSub]
      exact Runs.ret_refl
    · simp only [decide_eq_false_iff_not] at h2
      simp (decide := true) only [l7Len, if_neg (show ¬ n < 128 by omega), if_neg (show ¬ n < 256 by omega), ib, shr8n, go_sem, Nat.reduceAdd, Nat.reduceMul, Nat.reduceSub]
      exact Runs.ret_refl
theorem firstK_step {n : Int} {k : Nat} (h : k < 7) : firstK n (7 - k) k = if smallK n k = true then k else firstK n (7 - (k + 1)) (k + 1) := by
  rw [show 7 - k = (7 - (k + 1)) + 1 by omega]
  rfl
theorem u8l (l : List Int) : (l.map u8A).length = l.length := List.length_map _
theorem smallK_iff {n : Int} {k : Nat} : smallK n k = true ↔ -128 ≤ n / 256 ^ k ∧ n / 256 ^ k ≤ 127 := by simp [smallK]
def sIbAnn : Ann := [(0, [0, 3])]
def sIbSt (n : Int) (k : Nat) : St := ⟨[.v (.int .i64 (n / 256 ^ k)), .any, .any, .ms (.l 0) 0 (k + 1) (k + 1), .any, .any, .any, .any, .any, .any, .any, .any, .any, .any, .any, .any, .any, .any, .any, .any, .any], [(0, ⟨true, 1, false, (tailB n k).map u8A⟩)], []⟩
set_option maxRecDepth 10000 in
include hm in
theorem sIntBytes (n : Int) (h1 : -9223372036854775808 ≤ n) (h2 : n < 9223372036854775808) : Holds Try.prog 62 [.v (.int .i64 n)] [] (.sl (.ow 1) ((intB n).map u8A)) [] := by
  refine holds_of (ann := sIbAnn) tabOk hm Try.func62 (by kernel_rfl) rfl ?_
  simp (decide := true) only [Try.f62, go_sem, Nat.reduceAdd, Nat.reduceMul, Nat.reduceSub]
  refine Runs.while (α := Nat) (sIbSt n) (fun k => 8 - k) (fun k => k ≤ 7 ∧ firstK n (7 - k) k = kB n) 0 ⟨by omega, rfl⟩ ?_ ?_
  · simp [go_sem, sIbAnn, sIbSt, tailB, ib]
  · rintro k ⟨hk, hr⟩ ih
    have hlen := tailB_length n k
    have htk : ((tailB n k).map u8A).take (k + 1) = (tailB n k).map u8A := List.take_of_length_le (by simp [hlen])
    have hb := divK_bound h1 h2 k
    have stop : smallK n k = true → kB n = k := fun hs => by
      rw [← hr]
      rcases Nat.lt_or_ge k 7 with h | h
      · rw [firstK_step h, if_pos hs]
      · rw [show 7 - k = 0 by omega]; rfl
    have go : smallK n k = false → k < 7 ∧ firstK n (7 - (k + 1)) (k + 1) = kB n := fun hs => by
      have hk7 : k < 7 := by
        rcases Nat.lt_or_ge k 7 with h | h
        · exact h
        · have : k = 7 := by omega
          subst this
          rw [small7 h1 h2] at hs; cases hs
      refine ⟨hk7, ?_⟩
      rw [← hr, firstK_step hk7, hs]
      rfl
    simp (decide := true) only [sIbSt, hlen, go_sem, Nat.reduceAdd, Nat.reduceMul, Nat.reduceSub]
    refine Runs.split (fun h => ?_) (fun h => ?_)
    · simp only [decide_eq_true_eq] at h
      obtain ⟨g1, g2⟩ := go (by rw [Bool.eq_false_iff]; intro hs; rw [smallK_iff] at hs; omega)
      simp (decide := true) (disch := first | omega | (simp only [List.length_map, List.length_cons, List.length_append, List.length_nil]; omega)) only [shr8, div256, hlen, htk, if_pos, go_sem, Nat.reduceAdd, Nat.reduceMul, Nat.reduceSub]
      refine ih (k + 1) _ (by omega) ⟨by omega, g2⟩ ?_
      simp [go_sem, sIbAnn, sIbSt, tailB_succ, hlen, ib, Nat.add_comm]
    · simp only [decide_eq_false_iff_not] at h
      simp (decide := true) only [go_sem, Nat.reduceAdd, Nat.reduceMul, Nat.reduceSub]
      refine Runs.split (fun h' => ?_) (fun h' => ?_)
      · simp only [decide_eq_true_eq] at h'
        obtain ⟨g1, g2⟩ := go (by rw [Bool.eq_false_iff]; intro hs; rw [smallK_iff] at hs; omega)
        simp (decide := true) (disch := first | omega | (simp only [List.length_map, List.length_cons, List.length_append, List.length_nil]; omega)) only [shr8, div256, hlen, htk, if_pos, go_sem, Nat.reduceAdd, Nat.reduceMul, Nat.reduceSub]
        refine ih (k + 1) _ (by omega) ⟨by omega, g2⟩ ?_
        simp [go_sem, sIbAnn, sIbSt, tailB_succ, hlen, ib, Nat.add_comm]
      · simp only [decide_eq_false_iff_not] at h'
        have e := stop (by rw [smallK_iff]; omega)
        simp (decide := true) only [hlen, u8l, List.take_length, go_sem, Nat.reduceAdd, Nat.reduceMul, Nat.reduceSub]
        refine Runs.ret_eq ?_
        rw [intB, e]
def iIbAnn : Ann := [(0, [0, 3]), (2, [0, 4, 5])]
def iIbSt (n : Int) (k : Nat) : St := ⟨[.v (.int .i64 n), .any, .any, .v (.int .i64 ((k + 1 : Nat) : Int)), .any, .any, .any, .any, .any, .any, .any, .any, .any, .any, .any, .any, .any, .any, .any, .any, .any, .any, .any, .any, .any, .any, .any, .any, .any, .any, .any, .any, .any, .any, .any, .any, .any, .any, .any, .any, .any, .any], [], []⟩
def iIbL (n : Int) (m j : Nat) : List Int := ((List.range m).reverse.take j).map fun i => ib (n / 256 ^ i)
def iIbSt2 (n : Int) (m j : Nat) : St := ⟨[.v (.int .i64 n), .any, .any, .any, .ms (.l 0) 0 j j, .v (.int .i64 ((m : Int) - j - 1)), .any, .any, .any, .any, .any, .any, .any, .any, .any, .any, .any, .any, .any, .any, .any, .any, .any, .any, .any, .any, .any, .any, .any, .any, .any, .any, .any, .any, .any, .any, .any, .any, .any, .any, .any, .any], [(0, ⟨true, 1, false, (iIbL n m j).map u8A⟩)], []⟩
theorem iIbL_length (n : Int) {m j : Nat} (h : j ≤ m) : (iIbL n m j).length = j := by simp [iIbL]; omega
theorem iIbL_succ (n : Int) {m j : Nat} (h : j < m) : iIbL n m (j + 1) = iIbL n m j ++ [ib (n / 256 ^ (m - j - 1))] := by
  unfold iIbL
  rw [List.take_succ_eq_append_getElem (by simpa using h), List.map_append]
  simp [List.getElem_reverse, show m - 1 - j = m - j - 1 by omega]
theorem iIbL_all (n : Int) (k : Nat) : iIbL n (k + 1) (k + 1) = tailB n k := by
  unfold iIbL tailB
  rw [List.take_of_length_le (by simp)]
theorem shrK (n : Int) (k : Nat) (h : 8 * k ≤ 64) : n.fdiv (2 ^ min (8 * k) 64) = n / 256 ^ k := by
  have e : ∀ k : Nat, (2 : Int) ^ (8 * k) = 256 ^ k := by
    intro k
    induction k with
    | zero => rfl
    | succ k ih =>
      rw [show 8 * (k + 1) = 8 * k + 1 + 1 + 1 + 1 + 1 + 1 + 1 + 1 by omega]
      simp only [Int.pow_succ]
      rw [ih]
      simp only [Int.mul_assoc]
      rfl
  rw [Nat.min_eq_left h, e, Int.fdiv_eq_ediv_of_nonneg _ (Int.le_of_lt (Int.pow_pos (by omega)))]
theorem pow28 (k : Nat) : (2 : Int) ^ (8 * k) = 256 ^ k := by
  induction k with
  | zero => rfl
  | succ k ih =>
    rw [show 8 * (k + 1) = 8 * k + 1 + 1 + 1 + 1 + 1 + 1 + 1 + 1 by omega]
    simp only [Int.pow_succ]
    rw [ih]
    simp only [Int.mul_assoc]
    rfl
/-- What is left behind 8 k + 7 bits: nothing, if the number is small there. -/
theorem shr7 (n : Int) (k : Nat) (h : k ≤ 7) : n.fdiv (2 ^ min (8 * (k + 1) - 1) 64) = n / 256 ^ k / 128 := by
  rw [Nat.min_eq_left (by omega), show 8 * (k + 1) - 1 = 8 * k + 1 + 1 + 1 + 1 + 1 + 1 + 1 by omega]
  rw [Int.fdiv_eq_ediv_of_nonneg _ (Int.le_of_lt (Int.pow_pos (by omega)))]
  rw [Int.ediv_ediv_of_nonneg (Int.pow_nonneg (by omega))]
  congr 1
  simp only [Int.pow_succ]
  rw [pow28]
  simp only [Int.mul_assoc]
  rfl
set_option maxRecDepth 10000 in
include hm in
theorem iIntBytes (n : Int) (h1 : -9223372036854775808 ≤ n) (h2 : n < 9223372036854775808) : Holds Try.prog 70 [.v (.int .i64 n)] [] (.sl (.ow 1) ((intB n).map u8A)) [] := by
  refine holds_of (ann := iIbAnn) tabOk hm Try.func70 (by kernel_rfl) rfl ?_
  simp (decide := true) only [Try.f70, go_sem, Nat.reduceAdd, Nat.reduceMul, Nat.reduceSub]
  refine Runs.while (α := Nat) (iIbSt n) (fun k => 8 - k) (fun k => k ≤ 7 ∧ firstK n (7 - k) k = kB n) 0 ⟨by omega, rfl⟩ ?_ ?_
  · simp [go_sem, iIbAnn, iIbSt]
  · rintro k ⟨hk, hr⟩ ih
    have hb := divK_bound h1 h2 k
    have stop : smallK n k = true → kB n = k := fun hs => by
      rw [← hr]
      rcases Nat.lt_or_ge k 7 with h | h
      · rw [firstK_step h, if_pos hs]
      · rw [show 7 - k = 0 by omega]; rfl
    have go : k < 7 → smallK n k = false → firstK n (7 - (k + 1)) (k + 1) = kB n := fun hk7 hs => by
      rw [← hr, firstK_step hk7, hs]
      rfl
    have w1 : IntKind.i64.wrap (8 * ((k + 1 : Nat) : Int)) = ((8 * (k + 1) : Nat) : Int) := by rw [wrap_i64 (by omega) (by omega)]; omega
    have w2 : IntKind.i64.wrap (((8 * (k + 1) : Nat) : Int) - 1) = ((8 * (k + 1) - 1 : Nat) : Int) := by rw [wrap_i64 (by omega) (by omega)]; omega
    simp (decide := true) only [iIbSt, go_sem, Nat.reduceAdd, Nat.reduceMul, Nat.reduceSub]
    have hN := shr7 n k hk
    refine Runs.split (fun h => ?_) (fun h => ?_)
    · simp only [decide_eq_true_eq] at h
      have hk7 : k < 7 := by omega
      simp (decide := true) only [w1, w2, go_sem, Nat.reduceAdd, Nat.reduceMul, Nat.reduceSub]
      refine Runs.chk (by simp <;> omega) ?_
      simp (decide := true) only [hN, go_sem, Nat.reduceAdd, Nat.reduceMul, Nat.reduceSub]
      refine Runs.split (fun h0 => ?_) (fun h0 => ?_)
      · simp only [Bool.not_eq_true', decide_eq_false_iff_not] at h0
        simp (decide := true) only [w1, w2, go_sem, Nat.reduceAdd, Nat.reduceMul, Nat.reduceSub]
        refine Runs.chk (by simp <;> omega) ?_
        simp (decide := true) only [hN, go_sem, Nat.reduceAdd, Nat.reduceMul, Nat.reduceSub]
        refine Runs.split (fun h1' => ?_) (fun h1' => ?_)
        · simp only [Bool.not_eq_true', decide_eq_false_iff_not] at h1'
          have g2 := go hk7 (by rw [Bool.eq_false_iff]; intro hs; rw [smallK_iff] at hs; omega)
          simp (decide := true) (disch := first | omega | (simp only [List.length_map, List.length_cons, List.length_append, List.length_nil]; omega)) only [if_pos, go_sem, Nat.reduceAdd, Nat.reduceMul, Nat.reduceSub]
          refine ih (k + 1) _ (by omega) ⟨by omega, g2⟩ ?_
          simp [go_sem, iIbAnn, iIbSt]
        · simp only [Bool.not_eq_false', decide_eq_true_eq] at h1'
          have ek := stop (by rw [smallK_iff]; omega)
          simp (decide := true) (disch := first | omega | (simp only [List.length_map, List.length_cons, List.length_append, List.length_nil]; omega)) only [if_pos, go_sem, Nat.reduceAdd, Nat.reduceMul, Nat.reduceSub]
          refine Runs.while (α := Nat) (iIbSt2 n (k + 1)) (fun j => k + 1 - j) (fun j => j ≤ k + 1) 0 (by omega) ?_ ?_
          · simp [go_sem, iIbAnn, iIbSt2, iIbL]
          · intro j hj ihj
            have hlen := iIbL_length n hj
            simp (decide := true) only [iIbSt2, hlen, go_sem, Nat.reduceAdd, Nat.reduceMul, Nat.reduceSub]
            refine Runs.split (fun h2 => ?_) (fun h2 => ?_)
            · simp only [decide_eq_true_eq] at h2
              have hjk : j < k + 1 := by omega
              have hw : IntKind.i64.wrap (8 * (((k + 1 : Nat) : Int) - j - 1)) = ((8 * (k + 1 - j - 1) : Nat) : Int) := by rw [wrap_i64 (by omega) (by omega)]; omega
              simp (decide := true) only [hw, hlen, go_sem, Nat.reduceAdd, Nat.reduceMul, Nat.reduceSub]
              refine Runs.chk (by simp <;> omega) ?_
              simp (decide := true) (disch := first | omega | (simp only [List.length_map, List.length_cons, List.length_append, List.length_nil]; omega)) only [shrK n (k + 1 - j - 1) (by omega), hlen, if_pos, go_sem, Nat.reduceAdd, Nat.reduceMul, Nat.reduceSub]
              refine ihj (j + 1) _ (by omega) (by omega) ?_
              simp [go_sem, iIbAnn, iIbSt2, iIbL_succ n hjk, hlen, ib]
              omega
            · simp only [decide_eq_false_iff_not] at h2
              have hjk : j = k + 1 := by omega
              subst hjk
              simp (decide := true) only [iIbL_all, tailB_length, go_sem, Nat.reduceAdd, Nat.reduceMul, Nat.reduceSub]
              refine Runs.ret_eq ?_
              rw [intB, ek]
      · simp only [Bool.not_eq_false', decide_eq_true_eq] at h0
        have ek := stop (by rw [smallK_iff]; omega)
        simp (decide := true) (disch := first | omega | (simp only [List.length_map, List.length_cons, List.length_append, List.length_nil]; omega)) only [if_pos, go_sem, Nat.reduceAdd, Nat.reduceMul, Nat.reduceSub]
        refine Runs.while (α := Nat) (iIbSt2 n (k + 1)) (fun j => k + 1 - j) (fun j => j ≤ k + 1) 0 (by omega) ?_ ?_
        · simp [go_sem, iIbAnn, iIbSt2, iIbL]
        · intro j hj ihj
          have hlen := iIbL_length n hj
          simp (decide := true) only [iIbSt2, hlen, go_sem, Nat.reduceAdd, Nat.reduceMul, Nat.reduceSub]
          refine Runs.split (fun h2 => ?_) (fun h2 => ?_)
          · simp only [decide_eq_true_eq] at h2
            have hjk : j < k + 1 := by omega
            have hw : IntKind.i64.wrap (8 * (((k + 1 : Nat) : Int) - j - 1)) = ((8 * (k + 1 - j - 1) : Nat) : Int) := by rw [wrap_i64 (by omega) (by omega)]; omega
            simp (decide := true) only [hw, hlen, go_sem, Nat.reduceAdd, Nat.reduceMul, Nat.reduceSub]
            refine Runs.chk (by simp <;> omega) ?_
            simp (decide := true) (disch := first | omega | (simp only [List.length_map, List.length_cons, List.length_append, List.length_nil]; omega)) only [shrK n (k + 1 - j - 1) (by omega), hlen, if_pos, go_sem, Nat.reduceAdd, Nat.reduceMul, Nat.reduceSub]
            refine ihj (j + 1) _ (by omega) (by omega) ?_
            simp [go_sem, iIbAnn, iIbSt2, iIbL_succ n hjk, hlen, ib]
            omega
          · simp only [decide_eq_false_iff_not] at h2
            have hjk : j = k + 1 := by omega
            subst hjk
            simp (decide := true) only [iIbL_all, tailB_length, go_sem, Nat.reduceAdd, Nat.reduceMul, Nat.reduceSub]
            refine Runs.ret_eq ?_
            rw [intB, ek]
    · simp only [decide_eq_false_iff_not] at h
      have hk7 : k = 7 := by omega
      have s7 : smallK n k = true := by rw [hk7]; exact small7 h1 h2
      rw [smallK_iff] at s7
      have ek := stop (by rw [smallK_iff]; omega)
      simp (decide := true) (disch := first | omega | (simp only [List.length_map, List.length_cons, List.length_append, List.length_nil]; omega)) only [if_pos, go_sem, Nat.reduceAdd, Nat.reduceMul, Nat.reduceSub]
      refine Runs.while (α := Nat) (iIbSt2 n (k + 1)) (fun j => k + 1 - j) (fun j => j ≤ k + 1) 0 (by omega) ?_ ?_
      · simp [go_sem, iIbAnn, iIbSt2, iIbL]
      · intro j hj ihj
        have hlen := iIbL_length n hj
        simp (decide := true) only [iIbSt2, hlen, go_sem, Nat.reduceAdd, Nat.reduceMul, Nat.reduceSub]
        refine Runs.split (fun h2 => ?_) (fun h2 => ?_)
        · simp only [decide_eq_true_eq] at h2
          have hjk : j < k + 1 := by omega
          have hw : IntKind.i64.wrap (8 * (((k + 1 : Nat) : Int) - j - 1)) = ((8 * (k + 1 - j - 1) : Nat) : Int) := by rw [wrap_i64 (by omega) (by omega)]; omega
          simp (decide := true) only [hw, hlen, go_sem, Nat.reduceAdd, Nat.reduceMul, Nat.reduceSub]
          refine Runs.chk (by simp <;> omega) ?_
          simp (decide := true) (disch := first | omega | (simp only [List.length_map, List.length_cons, List.length_append, List.length_nil]; omega)) only [shrK n (k + 1 - j - 1) (by omega), hlen, if_pos, go_sem, Nat.reduceAdd, Nat.reduceMul, Nat.reduceSub]
          refine ihj (j + 1) _ (by omega) (by omega) ?_
          simp [go_sem, iIbAnn, iIbSt2, iIbL_succ n hjk, hlen, ib]
          omega
        · simp only [decide_eq_false_iff_not] at h2
          have hjk : j = k + 1 := by omega
          subst hjk
          simp (decide := true) only [iIbL_all, tailB_length, go_sem, Nat.reduceAdd, Nat.reduceMul, Nat.reduceSub]
          refine Runs.ret_eq ?_
          rw [intB, ek]
end Go.Proofs.W

namespace Go.Proofs.W
open Go Go.AM
set_option linter.unusedSimpArgs false
set_option linter.unusedVariables false
variable (hm : Try.prog.follows .mixedOrders = true)

def feb (y : Nat) : Nat := if y % 4 = 0 then 29 else 28
def yl (y : Nat) : Nat := 337 + feb y
def ml (y : Nat) : Nat → Nat
  | 2 => feb y | 4 => 30 | 6 => 30 | 9 => 30 | 11 => 30 | _ => 31
def remM (y : Nat) : Nat → Nat
  | 1 => 337 + feb y | 2 => 306 + feb y | 3 => 306 | 4 => 275 | 5 => 245 | 6 => 214 | 7 => 184 | 8 => 153 | 9 => 122 | 10 => 92 | 11 => 61 | 12 => 31 | _ => 0
theorem feb_pos (y : Nat) : 28 ≤ feb y ∧ feb y ≤ 29 := by unfold feb; split <;> omega
theorem cases12 {m : Nat} (h1 : 1 ≤ m) (h2 : m ≤ 12) : m = 1 ∨ m = 2 ∨ m = 3 ∨ m = 4 ∨ m = 5 ∨ m = 6 ∨ m = 7 ∨ m = 8 ∨ m = 9 ∨ m = 10 ∨ m = 11 ∨ m = 12 := by omega
theorem remM_step (y : Nat) {m : Nat} (h1 : 1 ≤ m) (h2 : m ≤ 12) : remM y m = ml y m + remM y (m + 1) := by
  rcases cases12 h1 h2 with rfl | rfl | rfl | rfl | rfl | rfl | rfl | rfl | rfl | rfl | rfl | rfl <;> simp only [remM, ml] <;> omega
theorem ml_bound (y m : Nat) : 28 ≤ ml y m ∧ ml y m ≤ 31 := by
  have := feb_pos y
  unfold ml
  split <;> omega
def yearGo : Nat → Nat → Nat → Nat × Nat
  | 0, y, d => (y, d)
  | f + 1, y, d => if yl y ≤ d then yearGo f (y + 1) (d - yl y) else (y, d)
def monthGo : Nat → Nat → Nat → Nat → Nat × Nat
  | 0, _, m, d => (m, d)
  | f + 1, y, m, d => if ml y m ≤ d then monthGo f y (m + 1) (d - ml y m) else (m, d)
theorem yearGo_fuel : ∀ (f g y d : Nat), d < f → d < g → yearGo f y d = yearGo g y d
  | f + 1, g + 1, y, d, h1, h2 => by
    simp only [yearGo]
    split
    · have := feb_pos y
      have h3 : 1 ≤ yl y := by unfold yl; omega
      exact yearGo_fuel f g _ _ (by omega) (by omega)
    · rfl
structure DayR where
  y : Nat
  m : Nat
  d : Nat
  s : Nat
def dayP (t : Int) : DayR :=
  if inB t (-631152000) 4102444799 = true then
    let n := (t + 631152000).toNat
    let a := yearGo (n / 86400 + 1) 1950 (n / 86400)
    let b := monthGo 12 a.1 1 a.2
    ⟨a.1, b.1, b.2 + 1, n % 86400⟩
  else ⟨0, 0, 0, 0⟩
def dayA (r : DayR) : A := .tup [.v (.int .i64 r.y), .v (.int .i64 r.m), .v (.int .i64 r.d), .v (.int .i64 r.s)]
theorem yearGo_bound : ∀ (f y d : Nat), (yearGo f y d).1 ≤ y + d ∧ (yearGo f y d).2 ≤ d
  | 0, y, d => by simp [yearGo]
  | f + 1, y, d => by
    simp only [yearGo]
    split
    · have := yearGo_bound f (y + 1) (d - yl y)
      have h3 : 1 ≤ yl y := by unfold yl; omega
      omega
    · simp
theorem monthGo_bound : ∀ (f y m d : Nat), (monthGo f y m d).1 ≤ m + f ∧ (monthGo f y m d).2 ≤ d
  | 0, y, m, d => by simp [monthGo]
  | f + 1, y, m, d => by
    simp only [monthGo]
    split
    · have := monthGo_bound f y (m + 1) (d - ml y m)
      omega
    · simp
theorem inB_iff {n a b : Int} : inB n a b = true ↔ a ≤ n ∧ n ≤ b := by simp [inB]
theorem dayP_bound (t : Int) : (dayP t).y ≤ 100000 ∧ (dayP t).m ≤ 100 ∧ (dayP t).d ≤ 100000 ∧ (dayP t).s ≤ 100000 := by
  unfold dayP
  split
  · rename_i h
    rw [inB_iff] at h
    simp only
    have h1 := yearGo_bound ((t + 631152000).toNat / 86400 + 1) 1950 ((t + 631152000).toNat / 86400)
    have h2 := monthGo_bound 12 (yearGo ((t + 631152000).toNat / 86400 + 1) 1950 ((t + 631152000).toNat / 86400)).1 1 (yearGo ((t + 631152000).toNat / 86400 + 1) 1950 ((t + 631152000).toNat / 86400)).2
    omega
  · simp

set_option maxRecDepth 10000 in
include hm in
theorem l9Year (y : Nat) : Holds Try.prog 81 [.v (.int .i64 y)] [] (.v (.int .i64 (yl y))) [] := by
  refine holds_of (ann := []) tabOk hm Try.func81 (by kernel_rfl) rfl ?_
  have ht : (y : Int).tmod 4 = ((y % 4 : Nat) : Int) := by rw [Int.tmod_eq_emod_of_nonneg (by omega)]; omega
  simp (decide := true) only [Try.f81, ht, go_sem, Nat.reduceAdd, Nat.reduceMul, Nat.reduceSub]
  refine Runs.split (fun h => ?_) (fun h => ?_)
  · simp only [decide_eq_true_eq] at h
    simp (decide := true) only [yl, feb, if_pos (show y % 4 = 0 by omega), go_sem, Nat.reduceAdd, Nat.reduceMul, Nat.reduceSub]
    exact Runs.ret_v
  · simp only [decide_eq_false_iff_not] at h
    simp (decide := true) only [yl, feb, if_neg (show ¬ y % 4 = 0 by omega), go_sem, Nat.reduceAdd, Nat.reduceMul, Nat.reduceSub]
    exact Runs.ret_v
set_option maxRecDepth 10000 in
include hm in
theorem l9Days (y m : Nat) (h1 : 1 ≤ m) (h2 : m ≤ 12) : Holds Try.prog 82 [.v (.int .i64 y), .v (.int .i64 m)] [] (.v (.int .i64 (ml y m))) [] := by
  refine holds_of (ann := []) tabOk hm Try.func82 (by kernel_rfl) rfl ?_
  have ht : (y : Int).tmod 4 = ((y % 4 : Nat) : Int) := by rw [Int.tmod_eq_emod_of_nonneg (by omega)]; omega
  rcases cases12 h1 h2 with rfl | rfl | rfl | rfl | rfl | rfl | rfl | rfl | rfl | rfl | rfl | rfl
  case inr.inl =>
    simp (decide := true) (disch := first | omega | (simp only [List.length_map, List.length_cons, List.length_append, List.length_nil]; omega)) only [Try.f82, ht, Int.cast_ofNat_Int, Int.reduceToNat, if_pos, go_sem, Nat.reduceAdd, Nat.reduceMul, Nat.reduceSub]
    refine Runs.split (fun h => ?_) (fun h => ?_)
    · simp only [decide_eq_true_eq] at h
      simp (decide := true) (disch := first | omega | (simp only [List.length_map, List.length_cons, List.length_append, List.length_nil]; omega)) only [ml, feb, if_pos (show y % 4 = 0 by omega), if_pos, go_sem, Nat.reduceAdd, Nat.reduceMul, Nat.reduceSub]
      exact Runs.ret_v
    · simp only [decide_eq_false_iff_not] at h
      simp (decide := true) (disch := first | omega | (simp only [List.length_map, List.length_cons, List.length_append, List.length_nil]; omega)) only [ml, feb, if_neg (show ¬ y % 4 = 0 by omega), if_pos, go_sem, Nat.reduceAdd, Nat.reduceMul, Nat.reduceSub]
      exact Runs.ret_v
  all_goals
    simp (decide := true) (disch := first | omega | (simp only [List.length_map, List.length_cons, List.length_append, List.length_nil]; omega)) only [Try.f82, ht, Int.cast_ofNat_Int, Int.reduceToNat, ml, if_pos, go_sem, Nat.reduceAdd, Nat.reduceMul, Nat.reduceSub]
    exact Runs.ret_v
set_option maxRecDepth 10000 in
include hm in
theorem daysIn (y m : Nat) (h1 : 1 ≤ m) (h2 : m ≤ 12) : Holds Try.prog 84 [.v (.int .i64 y), .v (.int .i64 m)] [] (.v (.int .i64 (ml y m))) [] := by
  refine holds_of (ann := []) tabOk hm Try.func84 (by kernel_rfl) rfl ?_
  have ht : (y : Int).tmod 4 = ((y % 4 : Nat) : Int) := by rw [Int.tmod_eq_emod_of_nonneg (by omega)]; omega
  rcases cases12 h1 h2 with rfl | rfl | rfl | rfl | rfl | rfl | rfl | rfl | rfl | rfl | rfl | rfl
  case inr.inl =>
    simp (decide := true) only [Try.f84, ht, Int.cast_ofNat_Int, condK_t, condK_f, seqK_n, go_sem, Nat.reduceAdd, Nat.reduceMul, Nat.reduceSub]
    refine Runs.split (fun h => ?_) (fun h => ?_)
    · simp only [decide_eq_true_eq] at h
      simp (decide := true) only [ml, feb, if_pos (show y % 4 = 0 by omega), go_sem, Nat.reduceAdd, Nat.reduceMul, Nat.reduceSub]
      exact Runs.ret_v
    · simp only [decide_eq_false_iff_not] at h
      simp (decide := true) only [ml, feb, if_neg (show ¬ y % 4 = 0 by omega), go_sem, Nat.reduceAdd, Nat.reduceMul, Nat.reduceSub]
      exact Runs.ret_v
  all_goals
    simp (decide := true) only [Try.f84, ht, Int.cast_ofNat_Int, ml, go_sem, Nat.reduceAdd, Nat.reduceMul, Nat.reduceSub]
    exact Runs.ret_v
set_option maxRecDepth 10000 in
include hm in
theorem daysOf (y : Nat) : Holds Try.prog 83 [.v (.int .i64 y)] [] (.v (.int .i64 (yl y))) [] := by
  refine holds_of (ann := []) tabOk hm Try.func83 (by kernel_rfl) rfl ?_
  have hb := feb_pos y
  simp (decide := true) only [Try.f83, go_sem, Nat.reduceAdd, Nat.reduceMul, Nat.reduceSub]
  refine Runs.call (daysIn hm y 2 (by omega) (by omega)) ?_
  simp (decide := true) (disch := first | omega | (simp only [List.length_map, List.length_cons, List.length_append, List.length_nil]; omega)) only [ml, if_pos, go_sem, Nat.reduceAdd, Nat.reduceMul, Nat.reduceSub]
  refine Runs.ret_eq ?_
  simp [yl]
def specDayAnn : Ann := [(0, [6, 7, 8]), (2, [6, 7, 8, 9])]
def specDaySt (s : Nat) (p : Nat × Nat) : St := ⟨[.any, .any, .any, .any, .any, .any, .v (.int .i64 p.2), .v (.int .i64 s), .v (.int .i64 p.1), .any, .any, .any, .any, .any, .any, .any, .any, .any, .any, .any, .any, .any, .any, .any, .any, .any, .any, .any, .any, .any, .any, .any, .any, .any, .any, .any, .any, .any, .any, .any, .any, .any, .any, .any, .any, .any], [], []⟩
def specDaySt2 (s y : Nat) (p : Nat × Nat) : St := ⟨[.any, .any, .any, .any, .any, .any, .v (.int .i64 p.2), .v (.int .i64 s), .v (.int .i64 y), .v (.int .i64 p.1), .any, .any, .any, .any, .any, .any, .any, .any, .any, .any, .any, .any, .any, .any, .any, .any, .any, .any, .any, .any, .any, .any, .any, .any, .any, .any, .any, .any, .any, .any, .any, .any, .any, .any, .any, .any], [], []⟩
set_option maxRecDepth 10000 in
include hm in
theorem specDayOf (t : Int) : Holds Try.prog 73 [.v (.int .i64 t)] [] (dayA (dayP t)) [] := by
  refine holds_of (ann := specDayAnn) tabOk hm Try.func73 (by kernel_rfl) rfl ?_
  simp (decide := true) only [Try.f73, go_sem, Nat.reduceAdd, Nat.reduceMul, Nat.reduceSub]
  refine Runs.call (l9Ok hm t) ?_
  simp (decide := true) only [go_sem, Nat.reduceAdd, Nat.reduceMul, Nat.reduceSub]
  refine Runs.split (fun h => ?_) (fun h => ?_)
  · simp only [Bool.not_eq_true'] at h
    have e : dayP t = ⟨0, 0, 0, 0⟩ := by simp [dayP, h]
    simp (decide := true) only [e, dayA, go_sem, Nat.reduceAdd, Nat.reduceMul, Nat.reduceSub]
    exact Runs.ret_refl
  · simp only [Bool.not_eq_false'] at h
    obtain ⟨n, hn⟩ : ∃ n, n = (t + 631152000).toNat := ⟨_, rfl⟩
    have hb := inB_iff.1 h
    have e : dayP t = ⟨(yearGo (n / 86400 + 1) 1950 (n / 86400)).1, (monthGo 12 (yearGo (n / 86400 + 1) 1950 (n / 86400)).1 1 (yearGo (n / 86400 + 1) 1950 (n / 86400)).2).1,
        (monthGo 12 (yearGo (n / 86400 + 1) 1950 (n / 86400)).1 1 (yearGo (n / 86400 + 1) 1950 (n / 86400)).2).2 + 1, n % 86400⟩ := by
      unfold dayP
      rw [if_pos h, ← hn]
    have hw : IntKind.i64.wrap (t - -631152000) = (n : Int) := by rw [wrap_i64 (by omega) (by omega)]; omega
    have hq : (n : Int).tdiv 86400 = ((n / 86400 : Nat) : Int) := by rw [Int.tdiv_eq_ediv_of_nonneg (by omega)]; omega
    have hr : (n : Int).tmod 86400 = ((n % 86400 : Nat) : Int) := by rw [Int.tmod_eq_emod_of_nonneg (by omega)]; omega
    obtain ⟨D, hD⟩ : ∃ D, D = n / 86400 := ⟨_, rfl⟩
    obtain ⟨s, hs⟩ : ∃ s, s = n % 86400 := ⟨_, rfl⟩
    have hDl : D ≤ 60000 := by omega
    rw [← hD, ← hs] at e
    rw [← hD] at hq
    rw [← hs] at hr
    simp (decide := true) only [hw, hq, hr, go_sem, Nat.reduceAdd, Nat.reduceMul, Nat.reduceSub]
    rw [wrap_i64 (by omega) (by omega)]
    refine Runs.while (α := Nat × Nat) (specDaySt s) (fun p => p.2) (fun p => p.1 + p.2 ≤ 1950 + D ∧ yearGo (p.2 + 1) p.1 p.2 = yearGo (D + 1) 1950 D) (1950, D) ⟨by simp, rfl⟩ ?_ ?_
    · simp [go_sem, specDayAnn, specDaySt]
    · rintro ⟨y, d⟩ ⟨hy, hg⟩ ih
      simp only at hy hg
      have hf := feb_pos y
      have hyl : yl y = 337 + feb y := rfl
      simp (decide := true) only [specDaySt, go_sem, Nat.reduceAdd, Nat.reduceMul, Nat.reduceSub]
      refine Runs.call (l9Year hm y) ?_
      simp (decide := true) only [go_sem, Nat.reduceAdd, Nat.reduceMul, Nat.reduceSub]
      refine Runs.split (fun h' => ?_) (fun h' => ?_)
      · simp only [decide_eq_true_eq] at h'
        simp (decide := true) only [go_sem, Nat.reduceAdd, Nat.reduceMul, Nat.reduceSub]
        refine Runs.call (l9Year hm y) ?_
        simp (decide := true) (disch := first | omega | (simp only [List.length_map, List.length_cons, List.length_append, List.length_nil]; omega)) only [if_pos, go_sem, Nat.reduceAdd, Nat.reduceMul, Nat.reduceSub]
        refine ih (y + 1, d - yl y) _ (by simp only; omega) ⟨by simp only; omega, ?_⟩ ?_
        · simp only
          rw [← hg]
          conv => rhs; unfold yearGo
          rw [if_pos (by omega)]
          exact yearGo_fuel _ _ _ _ (by omega) (by omega)
        · simp [go_sem, specDayAnn, specDaySt]
          omega
      · simp only [decide_eq_false_iff_not] at h'
        have hg2 : yearGo (D + 1) 1950 D = (y, d) := by
          rw [← hg]
          unfold yearGo
          rw [if_neg (by omega)]
        rw [hg2] at e
        simp only at e
        simp (decide := true) only [go_sem, Nat.reduceAdd, Nat.reduceMul, Nat.reduceSub]
        refine Runs.while (α := Nat × Nat) (specDaySt2 s y) (fun p => p.2) (fun p => 1 ≤ p.1 ∧ p.1 ≤ 12 ∧ p.2 < remM y p.1 ∧ monthGo (13 - p.1) y p.1 p.2 = monthGo 12 y 1 d) (1, d) ⟨by simp, by simp, by simp only [remM]; omega, rfl⟩ ?_ ?_
        · simp [go_sem, specDayAnn, specDaySt2]
        · rintro ⟨m, c⟩ ⟨hm1, hm2, hm3, hm4⟩ ihm
          simp only at hm1 hm2 hm3 hm4
          have hstep := remM_step y hm1 hm2
          have hml := ml_bound y m
          have hrl : c ≤ 400 := by
            have : remM y m ≤ 366 := by
              rcases cases12 hm1 hm2 with rfl | rfl | rfl | rfl | rfl | rfl | rfl | rfl | rfl | rfl | rfl | rfl <;> simp only [remM] <;> omega
            omega
          simp (decide := true) only [specDaySt2, go_sem, Nat.reduceAdd, Nat.reduceMul, Nat.reduceSub]
          refine Runs.call (l9Days hm y m hm1 hm2) ?_
          simp (decide := true) only [go_sem, Nat.reduceAdd, Nat.reduceMul, Nat.reduceSub]
          refine Runs.split (fun h2 => ?_) (fun h2 => ?_)
          · simp only [decide_eq_true_eq] at h2
            have hlt : m < 12 := by
              rcases Nat.lt_or_ge m 12 with h3 | h3
              · exact h3
              · have : m = 12 := by omega
                subst this
                simp only [remM] at hstep hm3
                omega
            simp (decide := true) only [go_sem, Nat.reduceAdd, Nat.reduceMul, Nat.reduceSub]
            refine Runs.call (l9Days hm y m hm1 hm2) ?_
            simp (decide := true) (disch := first | omega | (simp only [List.length_map, List.length_cons, List.length_append, List.length_nil]; omega)) only [if_pos, go_sem, Nat.reduceAdd, Nat.reduceMul, Nat.reduceSub]
            refine ihm (m + 1, c - ml y m) _ (by simp only; omega) ⟨by simp only; omega, by simp only; omega, by simp only; omega, ?_⟩ ?_
            · simp only
              rw [← hm4, show 13 - m = (13 - (m + 1)) + 1 by omega]
              conv => rhs; unfold monthGo
              rw [if_pos (by omega)]
            · simp [go_sem, specDayAnn, specDaySt2]
              omega
          · simp only [decide_eq_false_iff_not] at h2
            have hg3 : monthGo 12 y 1 d = (m, c) := by
              rw [← hm4, show 13 - m = (13 - (m + 1)) + 1 by omega]
              unfold monthGo
              rw [if_neg (by omega)]
            rw [hg3] at e
            simp only at e
            simp (decide := true) (disch := first | omega | (simp only [List.length_map, List.length_cons, List.length_append, List.length_nil]; omega)) only [e, dayA, if_pos, go_sem, Nat.reduceAdd, Nat.reduceMul, Nat.reduceSub]
            refine Runs.ret_eq ?_
            simp
def implDayAnn : Ann := [(0, [6, 7, 8, 9]), (2, [6, 7, 8, 9])]
def implDaySt (s : Nat) (p : Nat × Nat) : St := ⟨[.any, .any, .any, .any, .any, .any, .v (.int .i64 p.2), .v (.int .i64 s), .v (.int .i64 p.1), .v (.int .i64 1), .any, .any, .any, .any, .any, .any, .any, .any, .any, .any, .any, .any, .any, .any, .any, .any, .any, .any, .any, .any, .any, .any, .any, .any, .any, .any, .any, .any, .any, .any, .any, .any, .any, .any, .any, .any], [], []⟩
def implDaySt2 (s y : Nat) (p : Nat × Nat) : St := ⟨[.any, .any, .any, .any, .any, .any, .v (.int .i64 p.2), .v (.int .i64 s), .v (.int .i64 y), .v (.int .i64 p.1), .any, .any, .any, .any, .any, .any, .any, .any, .any, .any, .any, .any, .any, .any, .any, .any, .any, .any, .any, .any, .any, .any, .any, .any, .any, .any, .any, .any, .any, .any, .any, .any, .any, .any, .any, .any], [], []⟩
set_option maxRecDepth 10000 in
include hm in
theorem implDayOf (t : Int) : Holds Try.prog 78 [.v (.int .i64 t)] [] (dayA (dayP t)) [] := by
  refine holds_of (ann := implDayAnn) tabOk hm Try.func78 (by kernel_rfl) rfl ?_
  simp (decide := true) only [Try.f78, go_sem, Nat.reduceAdd, Nat.reduceMul, Nat.reduceSub]
  refine Runs.call (isTime hm t) ?_
  simp (decide := true) only [go_sem, Nat.reduceAdd, Nat.reduceMul, Nat.reduceSub]
  refine Runs.split (fun h => ?_) (fun h => ?_)
  · simp only [Bool.not_eq_true'] at h
    have e : dayP t = ⟨0, 0, 0, 0⟩ := by simp [dayP, h]
    simp (decide := true) only [e, dayA, go_sem, Nat.reduceAdd, Nat.reduceMul, Nat.reduceSub]
    exact Runs.ret_refl
  · simp only [Bool.not_eq_false'] at h
    obtain ⟨n, hn⟩ : ∃ n, n = (t + 631152000).toNat := ⟨_, rfl⟩
    have hb := inB_iff.1 h
    have e : dayP t = ⟨(yearGo (n / 86400 + 1) 1950 (n / 86400)).1, (monthGo 12 (yearGo (n / 86400 + 1) 1950 (n / 86400)).1 1 (yearGo (n / 86400 + 1) 1950 (n / 86400)).2).1,
        (monthGo 12 (yearGo (n / 86400 + 1) 1950 (n / 86400)).1 1 (yearGo (n / 86400 + 1) 1950 (n / 86400)).2).2 + 1, n % 86400⟩ := by
      unfold dayP
      rw [if_pos h, ← hn]
    have hw : IntKind.i64.wrap (t - -631152000) = (n : Int) := by rw [wrap_i64 (by omega) (by omega)]; omega
    have hq : (n : Int).tdiv 86400 = ((n / 86400 : Nat) : Int) := by rw [Int.tdiv_eq_ediv_of_nonneg (by omega)]; omega
    have hr : (n : Int).tmod 86400 = ((n % 86400 : Nat) : Int) := by rw [Int.tmod_eq_emod_of_nonneg (by omega)]; omega
    obtain ⟨D, hD⟩ : ∃ D, D = n / 86400 := ⟨_, rfl⟩
    obtain ⟨s, hs⟩ : ∃ s, s = n % 86400 := ⟨_, rfl⟩
    have hDl : D ≤ 60000 := by omega
    rw [← hD, ← hs] at e
    rw [← hD] at hq
    rw [← hs] at hr
    simp (decide := true) only [hw, hq, hr, go_sem, Nat.reduceAdd, Nat.reduceMul, Nat.reduceSub]
    rw [wrap_i64 (by omega) (by omega)]
    refine Runs.while (α := Nat × Nat) (implDaySt s) (fun p => p.2) (fun p => p.1 + p.2 ≤ 1950 + D ∧ yearGo (p.2 + 1) p.1 p.2 = yearGo (D + 1) 1950 D) (1950, D) ⟨by simp, rfl⟩ ?_ ?_
    · simp [go_sem, implDayAnn, implDaySt]
    · rintro ⟨y, d⟩ ⟨hy, hg⟩ ih
      simp only at hy hg
      have hf := feb_pos y
      have hyl : yl y = 337 + feb y := rfl
      simp (decide := true) only [implDaySt, go_sem, Nat.reduceAdd, Nat.reduceMul, Nat.reduceSub]
      refine Runs.call (daysOf hm y) ?_
      simp (decide := true) only [go_sem, Nat.reduceAdd, Nat.reduceMul, Nat.reduceSub]
      refine Runs.split (fun h' => ?_) (fun h' => ?_)
      · simp only [decide_eq_true_eq] at h'
        simp (decide := true) only [go_sem, Nat.reduceAdd, Nat.reduceMul, Nat.reduceSub]
        refine Runs.call (daysOf hm y) ?_
        simp (decide := true) (disch := first | omega | (simp only [List.length_map, List.length_cons, List.length_append, List.length_nil]; omega)) only [if_pos, go_sem, Nat.reduceAdd, Nat.reduceMul, Nat.reduceSub]
        refine ih (y + 1, d - yl y) _ (by simp only; omega) ⟨by simp only; omega, ?_⟩ ?_
        · simp only
          rw [← hg]
          conv => rhs; unfold yearGo
          rw [if_pos (by omega)]
          exact yearGo_fuel _ _ _ _ (by omega) (by omega)
        · simp [go_sem, implDayAnn, implDaySt]
          omega
      · simp only [decide_eq_false_iff_not] at h'
        have hg2 : yearGo (D + 1) 1950 D = (y, d) := by
          rw [← hg]
          unfold yearGo
          rw [if_neg (by omega)]
        rw [hg2] at e
        simp only at e
        simp (decide := true) only [go_sem, Nat.reduceAdd, Nat.reduceMul, Nat.reduceSub]
        refine Runs.while (α := Nat × Nat) (implDaySt2 s y) (fun p => p.2) (fun p => 1 ≤ p.1 ∧ p.1 ≤ 12 ∧ p.2 < remM y p.1 ∧ monthGo (13 - p.1) y p.1 p.2 = monthGo 12 y 1 d) (1, d) ⟨by simp, by simp, by simp only [remM]; omega, rfl⟩ ?_ ?_
        · simp [go_sem, implDayAnn, implDaySt2]
        · rintro ⟨m, c⟩ ⟨hm1, hm2, hm3, hm4⟩ ihm
          simp only at hm1 hm2 hm3 hm4
          have hstep := remM_step y hm1 hm2
          have hml := ml_bound y m
          have hrl : c ≤ 400 := by
            have : remM y m ≤ 366 := by
              rcases cases12 hm1 hm2 with rfl | rfl | rfl | rfl | rfl | rfl | rfl | rfl | rfl | rfl | rfl | rfl <;> simp only [remM] <;> omega
            omega
          simp (decide := true) only [implDaySt2, go_sem, Nat.reduceAdd, Nat.reduceMul, Nat.reduceSub]
          refine Runs.call (daysIn hm y m hm1 hm2) ?_
          simp (decide := true) only [go_sem, Nat.reduceAdd, Nat.reduceMul, Nat.reduceSub]
          refine Runs.split (fun h2 => ?_) (fun h2 => ?_)
          · simp only [decide_eq_true_eq] at h2
            have hlt : m < 12 := by
              rcases Nat.lt_or_ge m 12 with h3 | h3
              · exact h3
              · have : m = 12 := by omega
                subst this
                simp only [remM] at hstep hm3
                omega
            simp (decide := true) only [go_sem, Nat.reduceAdd, Nat.reduceMul, Nat.reduceSub]
            refine Runs.call (daysIn hm y m hm1 hm2) ?_
            simp (decide := true) (disch := first | omega | (simp only [List.length_map, List.length_cons, List.length_append, List.length_nil]; omega)) only [if_pos, go_sem, Nat.reduceAdd, Nat.reduceMul, Nat.reduceSub]
            refine ihm (m + 1, c - ml y m) _ (by simp only; omega) ⟨by simp only; omega, by simp only; omega, by simp only; omega, ?_⟩ ?_
            · simp only
              rw [← hm4, show 13 - m = (13 - (m + 1)) + 1 by omega]
              conv => rhs; unfold monthGo
              rw [if_pos (by omega)]
            · simp [go_sem, implDayAnn, implDaySt2]
              omega
          · simp only [decide_eq_false_iff_not] at h2
            have hg3 : monthGo 12 y 1 d = (m, c) := by
              rw [← hm4, show 13 - m = (13 - (m + 1)) + 1 by omega]
              unfold monthGo
              rw [if_neg (by omega)]
            rw [hg3] at e
            simp only at e
            simp (decide := true) (disch := first | omega | (simp only [List.length_map, List.length_cons, List.length_append, List.length_nil]; omega)) only [e, dayA, if_pos, go_sem, Nat.reduceAdd, Nat.reduceMul, Nat.reduceSub]
            refine Runs.ret_eq ?_
            simp
end Go.Proofs.W

namespace Go.Proofs.W
open Go Go.AM
set_option linter.unusedSimpArgs false
set_option linter.unusedVariables false
variable (hm : Try.prog.follows .mixedOrders = true)

def two (n : Nat) : ByteArray := ⟨#[UInt8.ofNat (48 + n / 10 % 10), UInt8.ofNat (48 + n % 10)]⟩
theorem two_size (n : Nat) : (two n).size = 2 := rfl
def restT (m d s : Nat) : ByteArray := two m ++ two d ++ two (s / 3600) ++ two (s / 60 % 60) ++ two (s % 60) ++ ⟨#[90]⟩
theorem z_size : (ByteArray.mk #[90]).size = 1 := rfl
theorem restT_size (m d s : Nat) : (restT m d s).size = 11 := by simp [restT, two_size, z_size]
attribute [local go_sem] two_size z_size restT_size
def shortOk (t : Int) : Bool := inB (dayP t).y 1950 2049
def shortT (t : Int) : ByteArray := if shortOk t = true then two (dayP t).y ++ restT (dayP t).m (dayP t).d (dayP t).s else ⟨#[]⟩
def longOk (t : Int) : Bool := !decide (((dayP t).y : Int) = 0)
def longT (t : Int) : ByteArray := if longOk t = true then two ((dayP t).y / 100) ++ two (dayP t).y ++ restT (dayP t).m (dayP t).d (dayP t).s else ⟨#[]⟩
theorem tdivN (n k : Nat) : (n : Int).tdiv (k : Int) = ((n / k : Nat) : Int) := by rw [Int.tdiv_eq_ediv_of_nonneg (by omega)]; rfl
theorem tmodN (n k : Nat) : (n : Int).tmod (k : Int) = ((n % k : Nat) : Int) := by rw [Int.tmod_eq_emod_of_nonneg (by omega)]; rfl
set_option maxRecDepth 10000 in
include hm in
theorem specTwo (n : Nat) (h : n ≤ 4611686018427387904) : Holds Try.prog 74 [.v (.int .i64 n)] [] (.v (.string (two n))) [] := by
  refine holds_of (ann := []) tabOk hm Try.func74 (by kernel_rfl) rfl ?_
  have h1 : (n : Int).tdiv 10 = ((n / 10 : Nat) : Int) := tdivN n 10
  have h2 : ((n / 10 : Nat) : Int).tmod 10 = ((n / 10 % 10 : Nat) : Int) := tmodN (n / 10) 10
  have h3 : (n : Int).tmod 10 = ((n % 10 : Nat) : Int) := tmodN n 10
  have w1 : IntKind.i64.wrap ((n / 10 : Nat) : Int) = ((n / 10 : Nat) : Int) := wrap_i64 (by omega) (by omega)
  have w2 : IntKind.i64.wrap (48 + ((n / 10 % 10 : Nat) : Int)) = ((48 + n / 10 % 10 : Nat) : Int) := by rw [wrap_i64 (by omega) (by omega)]; omega
  have w3 : IntKind.i64.wrap (48 + ((n % 10 : Nat) : Int)) = ((48 + n % 10 : Nat) : Int) := by rw [wrap_i64 (by omega) (by omega)]; omega
  have w4 : IntKind.u8.wrap ((48 + n / 10 % 10 : Nat) : Int) = ((48 + n / 10 % 10 : Nat) : Int) := wrap_u8 (by omega) (by omega)
  have w5 : IntKind.u8.wrap ((48 + n % 10 : Nat) : Int) = ((48 + n % 10 : Nat) : Int) := wrap_u8 (by omega) (by omega)
  have b1 : (0 ≤ ((48 + n / 10 % 10 : Nat) : Int) ∧ ((48 + n / 10 % 10 : Nat) : Int) < 256) := by omega
  have b2 : (0 ≤ ((48 + n % 10 : Nat) : Int) ∧ ((48 + n % 10 : Nat) : Int) < 256) := by omega
  simp (decide := true) only [Try.f74, h1, h2, h3, w1, w2, w3, w4, w5, b1, b2, go_sem, Nat.reduceAdd, Nat.reduceMul, Nat.reduceSub]
  exact Runs.ret_v
set_option maxRecDepth 10000 in
include hm in
theorem specRest (m d s : Nat) (hm1 : m ≤ 4611686018427387904) (hd : d ≤ 4611686018427387904) (hs : s ≤ 4611686018427387904) : Holds Try.prog 75 [.v (.int .i64 m), .v (.int .i64 d), .v (.int .i64 s)] [] (.v (.string (restT m d s))) [] := by
  refine holds_of (ann := []) tabOk hm Try.func75 (by kernel_rfl) rfl ?_
  have h1 : (s : Int).tdiv 3600 = ((s / 3600 : Nat) : Int) := tdivN s 3600
  have h2 : (s : Int).tdiv 60 = ((s / 60 : Nat) : Int) := tdivN s 60
  have h3 : ((s / 60 : Nat) : Int).tmod 60 = ((s / 60 % 60 : Nat) : Int) := tmodN (s / 60) 60
  have h4 : (s : Int).tmod 60 = ((s % 60 : Nat) : Int) := tmodN s 60
  have w1 : IntKind.i64.wrap ((s / 3600 : Nat) : Int) = ((s / 3600 : Nat) : Int) := wrap_i64 (by omega) (by omega)
  have w2 : IntKind.i64.wrap ((s / 60 : Nat) : Int) = ((s / 60 : Nat) : Int) := wrap_i64 (by omega) (by omega)
  simp (decide := true) only [Try.f75, go_sem, Nat.reduceAdd, Nat.reduceMul, Nat.reduceSub]
  refine Runs.call (specTwo hm m hm1) ?_
  simp (decide := true) only [go_sem, Nat.reduceAdd, Nat.reduceMul, Nat.reduceSub]
  refine Runs.call (specTwo hm d hd) ?_
  simp (decide := true) only [h1, w1, go_sem, Nat.reduceAdd, Nat.reduceMul, Nat.reduceSub]
  refine Runs.call (specTwo hm (s / 3600) (by omega)) ?_
  simp (decide := true) only [h2, w2, h3, go_sem, Nat.reduceAdd, Nat.reduceMul, Nat.reduceSub]
  refine Runs.call (specTwo hm (s / 60 % 60) (by omega)) ?_
  simp (decide := true) only [h4, go_sem, Nat.reduceAdd, Nat.reduceMul, Nat.reduceSub]
  refine Runs.call (specTwo hm (s % 60) (by omega)) ?_
  simp (decide := true) only [go_sem, Nat.reduceAdd, Nat.reduceMul, Nat.reduceSub]
  exact Runs.ret_v
set_option maxRecDepth 10000 in
include hm in
theorem specShort (t : Int) : Holds Try.prog 63 [.v (.int .i64 t)] [] (.tup [.v (.string (shortT t)), .v (.bool (shortOk t))]) [] := by
  refine holds_of (ann := []) tabOk hm Try.func63 (by kernel_rfl) rfl ?_
  obtain ⟨b1, b2, b3, b4⟩ := dayP_bound t
  simp (decide := true) only [Try.f63, go_sem, Nat.reduceAdd, Nat.reduceMul, Nat.reduceSub]
  refine Runs.call (specDayOf hm t) ?_
  simp (decide := true) only [dayA, go_sem, Nat.reduceAdd, Nat.reduceMul, Nat.reduceSub]
  refine Runs.call (l1In hm _ 1950 2049) ?_
  simp (decide := true) only [go_sem, Nat.reduceAdd, Nat.reduceMul, Nat.reduceSub]
  refine Runs.split (fun h => ?_) (fun h => ?_)
  · simp only [Bool.not_eq_true'] at h
    have e : shortOk t = false := h
    simp (decide := true) only [shortT, e, go_sem, Nat.reduceAdd, Nat.reduceMul, Nat.reduceSub]
    exact Runs.ret_refl
  · simp only [Bool.not_eq_false'] at h
    have e : shortOk t = true := h
    simp (decide := true) only [go_sem, Nat.reduceAdd, Nat.reduceMul, Nat.reduceSub]
    refine Runs.call (specTwo hm _ (by omega)) ?_
    simp (decide := true) only [go_sem, Nat.reduceAdd, Nat.reduceMul, Nat.reduceSub]
    refine Runs.call (specRest hm _ _ _ (by omega) (by omega) (by omega)) ?_
    simp (decide := true) only [shortT, e, go_sem, Nat.reduceAdd, Nat.reduceMul, Nat.reduceSub]
    exact Runs.ret_refl
set_option maxRecDepth 10000 in
include hm in
theorem specLong (t : Int) : Holds Try.prog 64 [.v (.int .i64 t)] [] (.tup [.v (.string (longT t)), .v (.bool (longOk t))]) [] := by
  refine holds_of (ann := []) tabOk hm Try.func64 (by kernel_rfl) rfl ?_
  obtain ⟨b1, b2, b3, b4⟩ := dayP_bound t
  simp (decide := true) only [Try.f64, go_sem, Nat.reduceAdd, Nat.reduceMul, Nat.reduceSub]
  refine Runs.call (specDayOf hm t) ?_
  simp (decide := true) only [dayA, go_sem, Nat.reduceAdd, Nat.reduceMul, Nat.reduceSub]
  refine Runs.split (fun h => ?_) (fun h => ?_)
  · have e : longOk t = false := by rw [longOk, h]; rfl
    simp (decide := true) only [longT, e, go_sem, Nat.reduceAdd, Nat.reduceMul, Nat.reduceSub]
    exact Runs.ret_refl
  · have e : longOk t = true := by rw [longOk, h]; rfl
    have h1 : ((dayP t).y : Int).tdiv 100 = (((dayP t).y / 100 : Nat) : Int) := tdivN _ 100
    have w1 : IntKind.i64.wrap (((dayP t).y / 100 : Nat) : Int) = (((dayP t).y / 100 : Nat) : Int) := wrap_i64 (by omega) (by omega)
    simp (decide := true) only [h1, w1, go_sem, Nat.reduceAdd, Nat.reduceMul, Nat.reduceSub]
    refine Runs.call (specTwo hm _ (by omega)) ?_
    simp (decide := true) only [go_sem, Nat.reduceAdd, Nat.reduceMul, Nat.reduceSub]
    refine Runs.call (specTwo hm _ (by omega)) ?_
    simp (decide := true) only [go_sem, Nat.reduceAdd, Nat.reduceMul, Nat.reduceSub]
    refine Runs.call (specRest hm _ _ _ (by omega) (by omega) (by omega)) ?_
    simp (decide := true) only [longT, e, go_sem, Nat.reduceAdd, Nat.reduceMul, Nat.reduceSub]
    exact Runs.ret_refl
set_option maxRecDepth 10000 in
include hm in
theorem implTwo (n : Nat) (h : n ≤ 4611686018427387904) : Holds Try.prog 79 [.v (.int .i64 n)] [] (.v (.string (two n))) [] := by
  refine holds_of (ann := []) tabOk hm Try.func79 (by kernel_rfl) rfl ?_
  have h1 : (n : Int).tdiv 10 = ((n / 10 : Nat) : Int) := tdivN n 10
  have h2 : ((n / 10 : Nat) : Int).tmod 10 = ((n / 10 % 10 : Nat) : Int) := tmodN (n / 10) 10
  have h3 : (n : Int).tmod 10 = ((n % 10 : Nat) : Int) := tmodN n 10
  have w1 : IntKind.i64.wrap ((n / 10 : Nat) : Int) = ((n / 10 : Nat) : Int) := wrap_i64 (by omega) (by omega)
  have w2 : IntKind.i64.wrap (48 + ((n / 10 % 10 : Nat) : Int)) = ((48 + n / 10 % 10 : Nat) : Int) := by rw [wrap_i64 (by omega) (by omega)]; omega
  have w3 : IntKind.i64.wrap (48 + ((n % 10 : Nat) : Int)) = ((48 + n % 10 : Nat) : Int) := by rw [wrap_i64 (by omega) (by omega)]; omega
  have w4 : IntKind.u8.wrap ((48 + n / 10 % 10 : Nat) : Int) = ((48 + n / 10 % 10 : Nat) : Int) := wrap_u8 (by omega) (by omega)
  have w5 : IntKind.u8.wrap ((48 + n % 10 : Nat) : Int) = ((48 + n % 10 : Nat) : Int) := wrap_u8 (by omega) (by omega)
  have b1 : (0 ≤ ((48 + n / 10 % 10 : Nat) : Int) ∧ ((48 + n / 10 % 10 : Nat) : Int) < 256) := by omega
  have b2 : (0 ≤ ((48 + n % 10 : Nat) : Int) ∧ ((48 + n % 10 : Nat) : Int) < 256) := by omega
  simp (decide := true) only [Try.f79, h1, h2, h3, w1, w2, w3, w4, w5, b1, b2, go_sem, Nat.reduceAdd, Nat.reduceMul, Nat.reduceSub]
  exact Runs.ret_v
set_option maxRecDepth 10000 in
include hm in
theorem implRest (m d s : Nat) (hm1 : m ≤ 4611686018427387904) (hd : d ≤ 4611686018427387904) (hs : s ≤ 4611686018427387904) : Holds Try.prog 80 [.v (.int .i64 m), .v (.int .i64 d), .v (.int .i64 s)] [] (.v (.string (restT m d s))) [] := by
  refine holds_of (ann := []) tabOk hm Try.func80 (by kernel_rfl) rfl ?_
  have h1 : (s : Int).tdiv 3600 = ((s / 3600 : Nat) : Int) := tdivN s 3600
  have h2 : (s : Int).tdiv 60 = ((s / 60 : Nat) : Int) := tdivN s 60
  have h3 : ((s / 60 : Nat) : Int).tmod 60 = ((s / 60 % 60 : Nat) : Int) := tmodN (s / 60) 60
  have h4 : (s : Int).tmod 60 = ((s % 60 : Nat) : Int) := tmodN s 60
  have w1 : IntKind.i64.wrap ((s / 3600 : Nat) : Int) = ((s / 3600 : Nat) : Int) := wrap_i64 (by omega) (by omega)
  have w2 : IntKind.i64.wrap ((s / 60 : Nat) : Int) = ((s / 60 : Nat) : Int) := wrap_i64 (by omega) (by omega)
  simp (decide := true) only [Try.f80, go_sem, Nat.reduceAdd, Nat.reduceMul, Nat.reduceSub]
  refine Runs.call (implTwo hm m hm1) ?_
  simp (decide := true) only [go_sem, Nat.reduceAdd, Nat.reduceMul, Nat.reduceSub]
  refine Runs.call (implTwo hm d hd) ?_
  simp (decide := true) only [h1, w1, go_sem, Nat.reduceAdd, Nat.reduceMul, Nat.reduceSub]
  refine Runs.call (implTwo hm (s / 3600) (by omega)) ?_
  simp (decide := true) only [h2, w2, h3, go_sem, Nat.reduceAdd, Nat.reduceMul, Nat.reduceSub]
  refine Runs.call (implTwo hm (s / 60 % 60) (by omega)) ?_
  simp (decide := true) only [h4, go_sem, Nat.reduceAdd, Nat.reduceMul, Nat.reduceSub]
  refine Runs.call (implTwo hm (s % 60) (by omega)) ?_
  simp (decide := true) only [go_sem, Nat.reduceAdd, Nat.reduceMul, Nat.reduceSub]
  exact Runs.ret_v
set_option maxRecDepth 10000 in
include hm in
theorem implShort (t : Int) : Holds Try.prog 71 [.v (.int .i64 t)] [] (.tup [.v (.string (shortT t)), .v (.bool (shortOk t))]) [] := by
  refine holds_of (ann := []) tabOk hm Try.func71 (by kernel_rfl) rfl ?_
  obtain ⟨b1, b2, b3, b4⟩ := dayP_bound t
  simp (decide := true) only [Try.f71, go_sem, Nat.reduceAdd, Nat.reduceMul, Nat.reduceSub]
  refine Runs.call (implDayOf hm t) ?_
  simp (decide := true) only [dayA, go_sem, Nat.reduceAdd, Nat.reduceMul, Nat.reduceSub]
  refine Runs.call (within hm _ 1950 2049) ?_
  simp (decide := true) only [go_sem, Nat.reduceAdd, Nat.reduceMul, Nat.reduceSub]
  refine Runs.split (fun h => ?_) (fun h => ?_)
  · simp only [Bool.not_eq_true'] at h
    have e : shortOk t = false := h
    simp (decide := true) only [shortT, e, go_sem, Nat.reduceAdd, Nat.reduceMul, Nat.reduceSub]
    exact Runs.ret_refl
  · simp only [Bool.not_eq_false'] at h
    have e : shortOk t = true := h
    simp (decide := true) only [go_sem, Nat.reduceAdd, Nat.reduceMul, Nat.reduceSub]
    refine Runs.call (implTwo hm _ (by omega)) ?_
    simp (decide := true) only [go_sem, Nat.reduceAdd, Nat.reduceMul, Nat.reduceSub]
    refine Runs.call (implRest hm _ _ _ (by omega) (by omega) (by omega)) ?_
    simp (decide := true) only [shortT, e, go_sem, Nat.reduceAdd, Nat.reduceMul, Nat.reduceSub]
    exact Runs.ret_refl
set_option maxRecDepth 10000 in
include hm in
theorem implLong (t : Int) : Holds Try.prog 72 [.v (.int .i64 t)] [] (.tup [.v (.string (longT t)), .v (.bool (longOk t))]) [] := by
  refine holds_of (ann := []) tabOk hm Try.func72 (by kernel_rfl) rfl ?_
  obtain ⟨b1, b2, b3, b4⟩ := dayP_bound t
  simp (decide := true) only [Try.f72, go_sem, Nat.reduceAdd, Nat.reduceMul, Nat.reduceSub]
  refine Runs.call (implDayOf hm t) ?_
  simp (decide := true) only [dayA, go_sem, Nat.reduceAdd, Nat.reduceMul, Nat.reduceSub]
  refine Runs.split (fun h => ?_) (fun h => ?_)
  · have e : longOk t = false := by rw [longOk, h]; rfl
    simp (decide := true) only [longT, e, go_sem, Nat.reduceAdd, Nat.reduceMul, Nat.reduceSub]
    exact Runs.ret_refl
  · have e : longOk t = true := by rw [longOk, h]; rfl
    have h1 : ((dayP t).y : Int).tdiv 100 = (((dayP t).y / 100 : Nat) : Int) := tdivN _ 100
    have w1 : IntKind.i64.wrap (((dayP t).y / 100 : Nat) : Int) = (((dayP t).y / 100 : Nat) : Int) := wrap_i64 (by omega) (by omega)
    simp (decide := true) only [h1, w1, go_sem, Nat.reduceAdd, Nat.reduceMul, Nat.reduceSub]
    refine Runs.call (implTwo hm _ (by omega)) ?_
    simp (decide := true) only [go_sem, Nat.reduceAdd, Nat.reduceMul, Nat.reduceSub]
    refine Runs.call (implTwo hm _ (by omega)) ?_
    simp (decide := true) only [go_sem, Nat.reduceAdd, Nat.reduceMul, Nat.reduceSub]
    refine Runs.call (implRest hm _ _ _ (by omega) (by omega) (by omega)) ?_
    simp (decide := true) only [longT, e, go_sem, Nat.reduceAdd, Nat.reduceMul, Nat.reduceSub]
    exact Runs.ret_refl
end Go.Proofs.W

namespace Go.Proofs.W
open Go Go.AM
set_option linter.unusedSimpArgs false
set_option linter.unusedVariables false
variable (hm : Try.prog.follows .mixedOrders = true)

structure It where
  tag : Int
  body : List Int
  kids : Int
/-- An item, shared; an item that holds its body. -/
def itemS (x : It) : A := .agg [.v (.int .i64 x.tag), .sl .sh (x.body.map u8A), .v (.int .i64 x.kids)]
def itemO (x : It) : A := .agg [.v (.int .i64 x.tag), .sl (.ow 1) (x.body.map u8A), .v (.int .i64 x.kids)]
theorem dn_itemS (L : List It) : dnL (L.map itemS) = L.map itemS := by rw [dnL_map]; simp [itemS, A.dn, dnL, dn_u8A]
theorem dn_itemO (L : List It) : dnL (L.map itemO) = L.map itemS := by rw [dnL_map]; simp [itemO, itemS, A.dn, dnL, dn_u8A]
theorem md_itemO (L : List It) : mdL (L.map itemO) = L.map itemO := by rw [mdL_eq, List.map_map]; simp [itemO, A.md, mdL, md_u8A]
theorem md_itemS (L : List It) : mdL (L.map itemS) = L.map itemS := by rw [mdL_eq, List.map_map]; simp [itemS, A.md, mdL, dn_u8A]
theorem fr_itemO (L : List It) : freeL (L.map itemO) = true := by
  induction L with
  | nil => rfl
  | cons a l ih => simp [freeL, ih, itemO, A.free, fr_u8A]
theorem c3_itemO (L : List It) : (L.map itemO).all (fun a => a.cells.length == 3) = true := by simp [itemO, A.cells]
theorem c3_itemS (L : List It) : (L.map itemS).all (fun a => a.cells.length == 3) = true := by simp [itemS, A.cells]
theorem pl_itemO (x : It) (L : List It) : plainL (itemO x :: L.map itemO) = false := by simp [plainL, itemO, A.plain, Sh.own]
theorem pl1_itemO (x : It) : (itemO x).plain = false := by simp [plainL, itemO, A.plain, Sh.own]
theorem c_itemO (x : It) : (itemO x).cells.length = 3 := rfl
theorem fr1_itemO (x : It) : (itemO x).free = true := by simp [itemO, A.free, freeL, fr_u8A]
theorem md1_itemO (x : It) : (itemO x).md = itemO x := by simp [itemO, A.md, mdL, md_u8A]
theorem dn1_itemO (x : It) : (itemO x).dn = itemS x := by simp [itemO, itemS, A.dn, dnL, dn_u8A]
theorem tk_items (L : List It) (g : It → A) : List.take L.length (L.map g) = L.map g := take_map_len
attribute [go_sem] pl1_itemO c_itemO fr1_itemO md1_itemO dn1_itemO dn_itemS dn_itemO md_itemO md_itemS fr_itemO c3_itemO c3_itemS pl_itemO

set_option maxRecDepth 10000 in
include hm in
theorem l10Item (t : Int) (B : List Int) : Holds Try.prog 20 [.v (.int .i64 t), .sl (.ow 1) (B.map u8A)] [] (.sl (.ow 3) [itemO ⟨t, B, 0⟩]) [] := by
  refine holds_of (ann := []) tabOk hm Try.func20 (by kernel_rfl) rfl ?_
  simp (decide := true) only [Try.f20, itemO, go_sem, Nat.reduceAdd, Nat.reduceMul, Nat.reduceSub]
  exact Runs.ret_refl
set_option maxRecDepth 10000 in
include hm in
theorem l10Int (n : Int) (h1 : -9223372036854775808 ≤ n) (h2 : n < 9223372036854775808) : Holds Try.prog 39 [.v (.int .i64 n)] [] (.sl (.ow 3) [itemO ⟨2, intB n, 0⟩]) [] := by
  refine holds_ref (ann := []) tabOk hm (byL [] [20]) Try.func39 (by kernel_rfl) rfl ?_
  simp (decide := true) only [Try.f39, go_sem, Nat.reduceAdd, Nat.reduceMul, Nat.reduceSub]
  refine Runs.call (sIntBytes hm n h1 h2) ?_
  simp (decide := true) only [go_sem, Nat.reduceAdd, Nat.reduceMul, Nat.reduceSub]
  refine Runs.call (l10Item hm 2 (intB n)) ?_
  simp (decide := true) only [itemO, go_sem, Nat.reduceAdd, Nat.reduceMul, Nat.reduceSub]
  exact Runs.ret_refl
set_option maxRecDepth 10000 in
include hm in
theorem l10Made (t k : Int) (L : List It) (h : L.length ≤ 1000000) : Holds Try.prog 18 [.v (.int .i64 t), .v (.int .i64 k), .sl (.ow 3) (L.map itemO)] [] (.sl (.ow 3) (itemO ⟨t, [], k⟩ :: L.map itemO)) [] := by
  refine holds_of (ann := []) tabOk hm Try.func18 (by kernel_rfl) rfl ?_
  have le : ∀ (l : List A), Le (.sl (.ow 3) (.agg [.v (.int .i64 t), .v (.slice none 0 0), .v (.int .i64 k)] :: l)) (.sl (.ow 3) (itemO ⟨t, [], k⟩ :: l)) := fun l =>
    .sl _ (.agg (.same _ (.nils _ (.same _ .nil))) (LeD.refl _)) .nil
  cases L with
  | nil =>
    simp (decide := true) only [Try.f18, List.map_nil, go_sem, Nat.reduceAdd, Nat.reduceMul, Nat.reduceSub]
    exact Runs.ret (le _) rfl
  | cons x L =>
    simp only [List.length_cons] at h
    simp (decide := true) (disch := first | omega | (simp only [List.length_map, List.length_cons, List.length_append, List.length_nil]; omega)) only [Try.f18, List.map_cons, show 1 + (L.length + 1) = L.length + 1 + 1 by omega, if_pos, go_sem, Nat.reduceAdd, Nat.reduceMul, Nat.reduceSub]
    exact Runs.ret (le _) rfl


def sTxAnn : Ann := [(0, [0, 1, 5, 6])]
def txtI (t : Int) (s : ByteArray) : It := ⟨t, bytesI s, 0⟩
def sTxSt (t : Int) (L : List ByteArray) (i : Nat) : St := ⟨[.v (.int .i64 t), .sl .sh (L.map strA), .any, .any, .any, .ms (.l 0) 0 i i, .v (.int .i64 i), .any, .any, .any, .any, .any, .any, .any, .any, .any, .any, .any, .any, .any, .any, .any, .any, .any, .any], [(0, ⟨true, 3, false, mpre (fun s => itemO (txtI t s)) L i⟩)], []⟩
set_option maxRecDepth 10000 in
include hm in
theorem l10Texts (t : Int) (L : List ByteArray) (h : L.length ≤ 1000000) (h4 : ∀ s ∈ L, s.size ≤ 1073741824) : Holds Try.prog 40 [.v (.int .i64 t), .sl .sh (L.map strA)] [] (.sl (.ow 3) ((L.map (txtI t)).map itemO)) [] := by
  refine holds_of (ann := sTxAnn) tabOk hm Try.func40 (by kernel_rfl) rfl ?_
  simp (decide := true) only [Try.f40, go_sem, Nat.reduceAdd, Nat.reduceMul, Nat.reduceSub]
  refine Runs.while (α := Nat) (sTxSt t L) (fun i => L.length - i) (fun i => i ≤ L.length) 0 (by omega) ?_ ?_
  · simp [go_sem, sTxAnn, sTxSt, mpre_zero]
  · intro i hi ih
    have hlen := mpre_length (fun s => itemO (txtI t s)) hi
    simp (decide := true) only [sTxSt, go_sem, Nat.reduceAdd, Nat.reduceMul, Nat.reduceSub]
    refine Runs.split (fun h => ?_) (fun h => ?_)
    · have hlt : i < L.length := by simpa using h
      have hs := h4 L[i] (List.getElem_mem hlt)
      simp (decide := true) (disch := first | omega | (simp only [List.length_map, List.length_cons, List.length_append, List.length_nil]; omega)) only [hlen, if_pos, go_sem, Nat.reduceAdd, Nat.reduceMul, Nat.reduceSub]
      refine ih (i + 1) _ (by omega) (by omega) ?_
      simp [go_sem, sTxAnn, sTxSt, mpre_succ _ hlt, txtI, itemO]
    · have hge : i = L.length := by simp at h; omega
      subst hge
      have ea := mpre_all (fun s => itemO (txtI t s)) L
      simp (decide := true) only [hlen, ea, go_sem, Nat.reduceAdd, Nat.reduceMul, Nat.reduceSub]
      refine Runs.ret_eq ?_
      simp [List.map_map]

def sInAnn : Ann := [(0, [0, 3, 4])]
def intI (n : Int) : It := ⟨2, intB n, 0⟩
def sInSt (L : List Int) (i : Nat) : St := ⟨[.sl .sh (L.map intA), .any, .any, .ms (.l 0) 0 i i, .v (.int .i64 i), .any, .any, .any, .any, .any, .any, .any, .any, .any, .any, .any, .any, .any, .any, .any], [(0, ⟨true, 3, false, mpre (fun n => itemO (intI n)) L i⟩)], []⟩
set_option maxRecDepth 10000 in
include hm in
theorem l10Ints (L : List Int) (h : L.length ≤ 1000000) (h4 : ∀ n ∈ L, -9223372036854775808 ≤ n ∧ n < 9223372036854775808) : Holds Try.prog 42 [.sl .sh (L.map intA)] [] (.sl (.ow 3) ((L.map intI).map itemO)) [] := by
  refine holds_of (ann := sInAnn) tabOk hm Try.func42 (by kernel_rfl) rfl ?_
  simp (decide := true) only [Try.f42, go_sem, Nat.reduceAdd, Nat.reduceMul, Nat.reduceSub]
  refine Runs.while (α := Nat) (sInSt L) (fun i => L.length - i) (fun i => i ≤ L.length) 0 (by omega) ?_ ?_
  · simp [go_sem, sInAnn, sInSt, mpre_zero]
  · intro i hi ih
    have hlen := mpre_length (fun n => itemO (intI n)) hi
    simp (decide := true) only [sInSt, go_sem, Nat.reduceAdd, Nat.reduceMul, Nat.reduceSub]
    refine Runs.split (fun h => ?_) (fun h => ?_)
    · have hlt : i < L.length := by simpa using h
      obtain ⟨n1, n2⟩ := h4 L[i] (List.getElem_mem hlt)
      simp (decide := true) (disch := first | omega | (simp only [List.length_map, List.length_cons, List.length_append, List.length_nil]; omega)) only [hlen, if_pos, go_sem, Nat.reduceAdd, Nat.reduceMul, Nat.reduceSub]
      refine Runs.call (l10Int hm L[i] n1 n2) ?_
      simp (decide := true) (disch := first | omega | (simp only [List.length_map, List.length_cons, List.length_append, List.length_nil]; omega)) only [hlen, if_pos, go_sem, Nat.reduceAdd, Nat.reduceMul, Nat.reduceSub]
      refine ih (i + 1) _ (by omega) (by omega) ?_
      simp [go_sem, sInAnn, sInSt, mpre_succ _ hlt, intI]
    · have hge : i = L.length := by simp at h; omega
      subst hge
      have ea := mpre_all (fun n => itemO (intI n)) L
      simp (decide := true) only [hlen, ea, go_sem, Nat.reduceAdd, Nat.reduceMul, Nat.reduceSub]
      refine Runs.ret_eq ?_
      simp [List.map_map]
def timeI (t : Int) : It := if shortOk t = true then ⟨23, bytesI (shortT t), 0⟩ else ⟨24, bytesI (longT t), 0⟩
theorem shortT_size (t : Int) : (shortT t).size ≤ 100 := by
  unfold shortT
  split
  · rw [ByteArray.size_append, restT_size, two_size]; omega
  · show 0 ≤ 100; omega
theorem longT_size (t : Int) : (longT t).size ≤ 100 := by
  unfold longT
  split
  · rw [ByteArray.size_append, ByteArray.size_append, restT_size, two_size, two_size]; omega
  · show 0 ≤ 100; omega
set_option maxRecDepth 10000 in
include hm in
theorem l10Time (t : Int) : Holds Try.prog 41 [.v (.int .i64 t)] [] (.sl (.ow 3) [itemO (timeI t)]) [] := by
  refine holds_ref (ann := []) tabOk hm (byL [] [20]) Try.func41 (by kernel_rfl) rfl ?_
  have s1 := shortT_size t
  have s2 := longT_size t
  simp (decide := true) only [Try.f41, go_sem, Nat.reduceAdd, Nat.reduceMul, Nat.reduceSub]
  refine Runs.call (specShort hm t) ?_
  simp (decide := true) only [go_sem, Nat.reduceAdd, Nat.reduceMul, Nat.reduceSub]
  refine Runs.split (fun h => ?_) (fun h => ?_)
  · simp (decide := true) (disch := first | omega | (simp only [List.length_map, List.length_cons, List.length_append, List.length_nil]; omega)) only [if_pos, go_sem, Nat.reduceAdd, Nat.reduceMul, Nat.reduceSub]
    refine Runs.call (l10Item hm 23 (bytesI (shortT t))) ?_
    simp (decide := true) only [timeI, h, itemO, go_sem, Nat.reduceAdd, Nat.reduceMul, Nat.reduceSub]
    exact Runs.ret_refl
  · simp (decide := true) only [go_sem, Nat.reduceAdd, Nat.reduceMul, Nat.reduceSub]
    refine Runs.call (specLong hm t) ?_
    simp (decide := true) (disch := first | omega | (simp only [List.length_map, List.length_cons, List.length_append, List.length_nil]; omega)) only [if_pos, go_sem, Nat.reduceAdd, Nat.reduceMul, Nat.reduceSub]
    refine Runs.call (l10Item hm 24 (bytesI (longT t))) ?_
    simp (decide := true) only [timeI, h, itemO, go_sem, Nat.reduceAdd, Nat.reduceMul, Nat.reduceSub]
    exact Runs.ret_refl
end Go.Proofs.W

namespace Go.Proofs.W
open Go Go.AM
set_option linter.unusedSimpArgs false
set_option linter.unusedVariables false
variable (hm : Try.prog.follows .mixedOrders = true)

inductive Nd where
  | mk (tag : Int) (body : List Int) (kids : List Nd)
mutual
/-- A node that holds all its data; a node, shared. -/
def nodeO : Nd → A
  | .mk t b ks => .agg [.v (.int .i64 t), .sl (.ow 1) (b.map u8A), .sl (.ow 3) (nodesO ks)]
def nodesO : List Nd → List A
  | [] => []
  | n :: r => nodeO n :: nodesO r
end
mutual
def nodeS : Nd → A
  | .mk t b ks => .agg [.v (.int .i64 t), .sl .sh (b.map u8A), .sl .sh (nodesS ks)]
def nodesS : List Nd → List A
  | [] => []
  | n :: r => nodeS n :: nodesS r
end
theorem nodesO_eq (l : List Nd) : nodesO l = l.map nodeO := by induction l with
  | nil => rfl
  | cons a l ih => simp [nodesO, ih]
theorem nodesS_eq (l : List Nd) : nodesS l = l.map nodeS := by induction l with
  | nil => rfl
  | cons a l ih => simp [nodesS, ih]
theorem nodesO_length (l : List Nd) : (nodesO l).length = l.length := by rw [nodesO_eq, List.length_map]
theorem nodesS_length (l : List Nd) : (nodesS l).length = l.length := by rw [nodesS_eq, List.length_map]
mutual
theorem dn_nodeO : ∀ n, (nodeO n).dn = nodeS n
  | .mk t b ks => by simp [nodeO, nodeS, A.dn, dnL, dn_u8A, dn_nodesO ks]
theorem dn_nodesO : ∀ l, dnL (nodesO l) = nodesS l
  | [] => rfl
  | n :: r => by simp [nodesO, nodesS, dnL, dn_nodeO n, dn_nodesO r]
end
mutual
theorem dn_nodeS : ∀ n, (nodeS n).dn = nodeS n
  | .mk t b ks => by simp [nodeS, A.dn, dnL, dn_u8A, dn_nodesS ks]
theorem dn_nodesS : ∀ l, dnL (nodesS l) = nodesS l
  | [] => rfl
  | n :: r => by simp [nodesS, dnL, dn_nodeS n, dn_nodesS r]
end
mutual
theorem md_nodeO : ∀ n, (nodeO n).md = nodeO n
  | .mk t b ks => by simp [nodeO, A.md, mdL, md_u8A, md_nodesO ks]
theorem md_nodesO : ∀ l, mdL (nodesO l) = nodesO l
  | [] => rfl
  | n :: r => by simp [nodesO, mdL, md_nodeO n, md_nodesO r]
end
mutual
theorem fr_nodeO : ∀ n, (nodeO n).free = true
  | .mk t b ks => by simp [nodeO, A.free, freeL, fr_u8A, fr_nodesO ks]
theorem fr_nodesO : ∀ l, freeL (nodesO l) = true
  | [] => rfl
  | n :: r => by simp [nodesO, freeL, fr_nodeO n, fr_nodesO r]
end
theorem c_nodeO (n : Nd) : (nodeO n).cells.length = 3 := by cases n; rfl
theorem c_nodeS (n : Nd) : (nodeS n).cells.length = 3 := by cases n; rfl
theorem pl_nodeO (n : Nd) : (nodeO n).plain = false := by cases n; simp [nodeO, A.plain, plainL, Sh.own]
mutual
theorem pl_nodeS : ∀ n, (nodeS n).plain = true
  | .mk t b ks => by simp [nodeS, A.plain, plainL, Sh.own, pl_nodesS ks, plainL_map, u8A]
theorem pl_nodesS : ∀ l, plainL (nodesS l) = true
  | [] => rfl
  | n :: r => by simp [nodesS, plainL, pl_nodeS n, pl_nodesS r]
end
theorem cs_nodesS (l : List Nd) : (nodesS l).all (fun a => a.cells.length == 3) = true := by rw [nodesS_eq]; simp [c_nodeS]
theorem cs_nodesO (l : List Nd) : (nodesO l).all (fun a => a.cells.length == 3) = true := by rw [nodesO_eq]; simp [c_nodeO]
theorem tk_nodesO {α : Type} (L : List α) (f : α → Nd) : List.take L.length (nodesO (L.map f)) = nodesO (L.map f) := by
  rw [show L.length = (nodesO (L.map f)).length by rw [nodesO_length, List.length_map], List.take_length]
attribute [go_sem] tk_nodesO nodesO_length nodesS_length dn_nodeO dn_nodesO dn_nodeS dn_nodesS md_nodeO md_nodesO fr_nodeO fr_nodesO c_nodeO c_nodeS pl_nodeO cs_nodesO pl_nodeS pl_nodesS cs_nodesS

set_option maxRecDepth 10000 in
include hm in
theorem leaf (t : Int) (B : List Int) : Holds Try.prog 55 [.v (.int .i64 t), .sl (.ow 1) (B.map u8A)] [] (nodeO (.mk t B [])) [] := by
  refine holds_of (ann := []) tabOk hm Try.func55 (by kernel_rfl) rfl ?_
  simp (decide := true) only [Try.f55, go_sem, Nat.reduceAdd, Nat.reduceMul, Nat.reduceSub]
  refine Runs.ret ?_ rfl
  exact .agg (.same _ (.same _ (.nils _ .nil))) .nil
set_option maxRecDepth 10000 in
include hm in
theorem listN (t : Int) (l : List Nd) : Holds Try.prog 26 [.v (.int .i64 t), .sl (.ow 3) (nodesO l)] [] (nodeO (.mk t [] l)) [] := by
  refine holds_of (ann := []) tabOk hm Try.func26 (by kernel_rfl) rfl ?_
  simp (decide := true) only [Try.f26, go_sem, Nat.reduceAdd, Nat.reduceMul, Nat.reduceSub]
  refine Runs.ret ?_ rfl
  exact .agg (.same _ (.nils _ (.same _ .nil))) .nil
def intN (n : Int) : Nd := .mk 2 (intB n) []
def txtN (t : Int) (s : ByteArray) : Nd := .mk t (bytesI s) []
def timeG (t : Int) : Int := if shortOk t = true then 23 else 24
def timeB (t : Int) : List Int := if shortOk t = true then bytesI (shortT t) else bytesI (longT t)
def timeN (t : Int) : Nd := .mk (timeG t) (timeB t) []
set_option maxRecDepth 10000 in
include hm in
theorem integer (n : Int) (h1 : -9223372036854775808 ≤ n) (h2 : n < 9223372036854775808) : Holds Try.prog 51 [.v (.int .i64 n)] [] (nodeO (.mk 2 (intB n) [])) [] := by
  refine holds_ref (ann := []) tabOk hm (byL [] [55]) Try.func51 (by kernel_rfl) rfl ?_
  simp (decide := true) only [Try.f51, go_sem, Nat.reduceAdd, Nat.reduceMul, Nat.reduceSub]
  refine Runs.call (iIntBytes hm n h1 h2) ?_
  simp (decide := true) only [go_sem, Nat.reduceAdd, Nat.reduceMul, Nat.reduceSub]
  refine Runs.call (leaf hm 2 (intB n)) ?_
  simp (decide := true) only [nodeO, nodesO, go_sem, Nat.reduceAdd, Nat.reduceMul, Nat.reduceSub]
  exact Runs.ret_refl
set_option maxRecDepth 10000 in
include hm in
theorem timeNode (t : Int) : Holds Try.prog 53 [.v (.int .i64 t)] [] (nodeO (.mk (timeG t) (timeB t) [])) [] := by
  refine holds_ref (ann := []) tabOk hm (byL [] [55]) Try.func53 (by kernel_rfl) rfl ?_
  have s1 := shortT_size t
  have s2 := longT_size t
  simp (decide := true) only [Try.f53, go_sem, Nat.reduceAdd, Nat.reduceMul, Nat.reduceSub]
  refine Runs.call (implShort hm t) ?_
  simp (decide := true) only [go_sem, Nat.reduceAdd, Nat.reduceMul, Nat.reduceSub]
  refine Runs.split (fun h => ?_) (fun h => ?_)
  · simp (decide := true) (disch := first | omega | (simp only [List.length_map, List.length_cons, List.length_append, List.length_nil]; omega)) only [if_pos, go_sem, Nat.reduceAdd, Nat.reduceMul, Nat.reduceSub]
    refine Runs.call (leaf hm 23 (bytesI (shortT t))) ?_
    simp (decide := true) only [nodeO, nodesO, timeG, timeB, h, go_sem, Nat.reduceAdd, Nat.reduceMul, Nat.reduceSub]
    exact Runs.ret_refl
  · simp (decide := true) only [go_sem, Nat.reduceAdd, Nat.reduceMul, Nat.reduceSub]
    refine Runs.call (implLong hm t) ?_
    simp (decide := true) (disch := first | omega | (simp only [List.length_map, List.length_cons, List.length_append, List.length_nil]; omega)) only [if_pos, go_sem, Nat.reduceAdd, Nat.reduceMul, Nat.reduceSub]
    refine Runs.call (leaf hm 24 (bytesI (longT t))) ?_
    simp (decide := true) only [nodeO, nodesO, timeG, timeB, h, go_sem, Nat.reduceAdd, Nat.reduceMul, Nat.reduceSub]
    exact Runs.ret_refl

def iTxAnn : Ann := [(0, [0, 5, 9, 10, 11])]
def iTxSt (t : Int) (L : List ByteArray) (i : Nat) : St := ⟨[.v (.int .i64 t), .any, .any, .any, .any, .ms (.l 0) 0 i i, .any, .any, .any, .sl .sh (L.map strA), .v (.int .i64 L.length), .v (.int .i64 i), .any, .any, .any, .any, .any, .any, .any, .any, .any, .any, .any, .any], [(0, ⟨true, 3, false, mpre (fun s => nodeO (txtN t s)) L i⟩)], []⟩
set_option maxRecDepth 10000 in
include hm in
theorem texts (t : Int) (L : List ByteArray) (h : L.length ≤ 1000000) (h4 : ∀ s ∈ L, s.size ≤ 1073741824) : Holds Try.prog 52 [.v (.int .i64 t), .sl .sh (L.map strA)] [] (.sl (.ow 3) (nodesO (L.map (txtN t)))) [] := by
  refine holds_ref (ann := iTxAnn) tabOk hm (byL [] [55]) Try.func52 (by kernel_rfl) rfl ?_
  simp (decide := true) only [Try.f52, go_sem, Nat.reduceAdd, Nat.reduceMul, Nat.reduceSub]
  refine Runs.while (α := Nat) (iTxSt t L) (fun i => L.length - i) (fun i => i ≤ L.length) 0 (by omega) ?_ ?_
  · simp [go_sem, iTxAnn, iTxSt, mpre_zero]
  · intro i hi ih
    have hlen := mpre_length (fun s => nodeO (txtN t s)) hi
    simp (decide := true) only [iTxSt, go_sem, Nat.reduceAdd, Nat.reduceMul, Nat.reduceSub]
    refine Runs.split (fun h => ?_) (fun h => ?_)
    · have hlt : i < L.length := by simpa using h
      have hs := h4 L[i] (List.getElem_mem hlt)
      simp (decide := true) (disch := first | omega | (simp only [List.length_map, List.length_cons, List.length_append, List.length_nil]; omega)) only [hlen, if_pos, go_sem, Nat.reduceAdd, Nat.reduceMul, Nat.reduceSub]
      refine Runs.call (leaf hm t (bytesI L[i])) ?_
      simp (decide := true) (disch := first | omega | (simp only [List.length_map, List.length_cons, List.length_append, List.length_nil]; omega)) only [hlen, nodeO, nodesO, if_pos, go_sem, Nat.reduceAdd, Nat.reduceMul, Nat.reduceSub]
      refine ih (i + 1) _ (by omega) (by omega) ?_
      simp [go_sem, iTxAnn, iTxSt, mpre_succ _ hlt, txtN, nodeO, nodesO]
    · have hge : i = L.length := by simp at h; omega
      subst hge
      have ea := mpre_all (fun s => nodeO (txtN t s)) L
      simp (decide := true) only [hlen, ea, go_sem, Nat.reduceAdd, Nat.reduceMul, Nat.reduceSub]
      refine Runs.ret_eq ?_
      rw [nodesO_eq, List.map_map]
      rfl
def iInAnn : Ann := [(0, [3, 7, 8, 9])]
def iInSt (L : List Int) (i : Nat) : St := ⟨[.any, .any, .any, .ms (.l 0) 0 i i, .any, .any, .any, .sl .sh (L.map intA), .v (.int .i64 L.length), .v (.int .i64 i), .any, .any, .any, .any, .any, .any, .any, .any, .any, .any], [(0, ⟨true, 3, false, mpre (fun n => nodeO (intN n)) L i⟩)], []⟩
set_option maxRecDepth 10000 in
include hm in
theorem integers (L : List Int) (h : L.length ≤ 1000000) (h4 : ∀ n ∈ L, -9223372036854775808 ≤ n ∧ n < 9223372036854775808) : Holds Try.prog 54 [.sl .sh (L.map intA)] [] (.sl (.ow 3) (nodesO (L.map intN))) [] := by
  refine holds_of (ann := iInAnn) tabOk hm Try.func54 (by kernel_rfl) rfl ?_
  simp (decide := true) only [Try.f54, go_sem, Nat.reduceAdd, Nat.reduceMul, Nat.reduceSub]
  refine Runs.while (α := Nat) (iInSt L) (fun i => L.length - i) (fun i => i ≤ L.length) 0 (by omega) ?_ ?_
  · simp [go_sem, iInAnn, iInSt, mpre_zero]
  · intro i hi ih
    have hlen := mpre_length (fun n => nodeO (intN n)) hi
    simp (decide := true) only [iInSt, go_sem, Nat.reduceAdd, Nat.reduceMul, Nat.reduceSub]
    refine Runs.split (fun h => ?_) (fun h => ?_)
    · have hlt : i < L.length := by simpa using h
      obtain ⟨n1, n2⟩ := h4 L[i] (List.getElem_mem hlt)
      simp (decide := true) (disch := first | omega | (simp only [List.length_map, List.length_cons, List.length_append, List.length_nil]; omega)) only [hlen, if_pos, go_sem, Nat.reduceAdd, Nat.reduceMul, Nat.reduceSub]
      refine Runs.call (integer hm L[i] n1 n2) ?_
      simp (decide := true) (disch := first | omega | (simp only [List.length_map, List.length_cons, List.length_append, List.length_nil]; omega)) only [hlen, nodeO, nodesO, if_pos, go_sem, Nat.reduceAdd, Nat.reduceMul, Nat.reduceSub]
      refine ih (i + 1) _ (by omega) (by omega) ?_
      simp [go_sem, iInAnn, iInSt, mpre_succ _ hlt, intN, nodeO, nodesO]
    · have hge : i = L.length := by simp at h; omega
      subst hge
      have ea := mpre_all (fun n => nodeO (intN n)) L
      simp (decide := true) only [hlen, ea, go_sem, Nat.reduceAdd, Nat.reduceMul, Nat.reduceSub]
      refine Runs.ret_eq ?_
      rw [nodesO_eq, List.map_map]
      rfl
set_option maxRecDepth 10000 in
include hm in
theorem cloneB (B : List Int) (h : B.length ≤ 1073741824) : Holds Try.prog 56 [.sl .sh (B.map u8A)] [] (.sl (.ow 1) (B.map u8A)) [] := by
  refine holds_of (ann := []) tabOk hm Try.func56 (by kernel_rfl) rfl ?_
  cases B with
  | nil =>
    simp (decide := true) only [Try.f56, go_sem, Nat.reduceAdd, Nat.reduceMul, Nat.reduceSub]
    refine ⟨?_, ?_⟩
    · exact Runs.ret (.nils _ .nil) rfl
    · exact Runs.ret_refl
  | cons b B =>
    simp only [List.length_cons] at h
    simp (decide := true) (disch := first | omega | (simp only [List.length_map, List.length_cons, List.length_append, List.length_nil]; omega)) only [Try.f56, u8A, if_pos, go_sem, Nat.reduceAdd, Nat.reduceMul, Nat.reduceSub]
    exact Runs.ret_refl
mutual
def itemsN : Nd → List It
  | .mk t b ks => ⟨t, b, ks.length⟩ :: itemsNL ks
def itemsNL : List Nd → List It
  | [] => []
  | n :: r => itemsN n ++ itemsNL r
end
theorem itemsN_mk (t : Int) (b : List Int) (ks : List Nd) : itemsN (.mk t b ks) = ⟨t, b, ks.length⟩ :: itemsNL ks := by rw [itemsN]
theorem itemsNL_app (l m : List Nd) : itemsNL (l ++ m) = itemsNL l ++ itemsNL m := by
  induction l with
  | nil => rfl
  | cons a l ih => simp [itemsNL, ih, List.append_assoc]
def itPre (ks : List Nd) (i : Nat) : List It := itemsNL (ks.take i)
theorem itPre_zero (ks : List Nd) : itPre ks 0 = [] := rfl
theorem itPre_succ {ks : List Nd} {i : Nat} (h : i < ks.length) : itPre ks (i + 1) = itPre ks i ++ itemsN ks[i] := by
  rw [itPre, List.take_succ_eq_append_getElem h, itemsNL_app]
  simp [itPre, itemsNL]
theorem itPre_all (ks : List Nd) : itPre ks ks.length = itemsNL ks := by rw [itPre, List.take_length]
theorem itPre_le (ks : List Nd) (i : Nat) : (itPre ks i).length ≤ (itemsNL ks).length := by
  have := itemsNL_app (ks.take i) (ks.drop i)
  rw [List.take_append_drop] at this
  rw [this, itPre, List.length_append]
  omega
theorem itemsN_get {ks : List Nd} {i : Nat} (h : i < ks.length) : (itemsN ks[i]).length ≤ (itemsNL ks).length := by
  have h1 := itPre_succ h
  have h2 := itPre_le ks (i + 1)
  rw [h1, List.length_append] at h2
  omega
mutual
def szN : Nd → Nat
  | .mk _ _ ks => szNL ks + 1
def szNL : List Nd → Nat
  | [] => 0
  | n :: r => szN n + szNL r
end
theorem szN_get : ∀ {ks : List Nd} {i : Nat} (h : i < ks.length), szN ks[i] ≤ szNL ks
  | a :: ks, 0, h => by simp [szNL]
  | a :: ks, i + 1, h => by
    have := szN_get (ks := ks) (i := i) (by simpa using h)
    simp only [szNL, List.getElem_cons_succ]
    omega
theorem nodesS_get {ks : List Nd} {i : Nat} (h : i < ks.length) : (nodesS ks).getD i .any = nodeS ks[i] := by rw [nodesS_eq]; simp [List.getD, h]
mutual
/-- No body is too long. -/
def bodiesLe (m : Nat) : Nd → Prop
  | .mk _ b ks => b.length ≤ m ∧ bodiesLeL m ks
def bodiesLeL (m : Nat) : List Nd → Prop
  | [] => True
  | n :: r => bodiesLe m n ∧ bodiesLeL m r
end
theorem bodiesLe_get {m : Nat} : ∀ {ks : List Nd} {i : Nat} (h : i < ks.length), bodiesLeL m ks → bodiesLe m ks[i]
  | a :: ks, 0, h, hb => hb.1
  | a :: ks, i + 1, h, hb => by
    have := bodiesLe_get (ks := ks) (i := i) (by simpa using h) hb.2
    simpa using this
mutual
def kidsLe (m : Nat) : Nd → Prop
  | .mk _ _ ks => ks.length ≤ m ∧ kidsLeL m ks
def kidsLeL (m : Nat) : List Nd → Prop
  | [] => True
  | n :: r => kidsLe m n ∧ kidsLeL m r
end
theorem kidsLe_get {m : Nat} : ∀ {ks : List Nd} {i : Nat} (h : i < ks.length), kidsLeL m ks → kidsLe m ks[i]
  | a :: ks, 0, h, hb => hb.1
  | a :: ks, i + 1, h, hb => by
    have := kidsLe_get (ks := ks) (i := i) (by simpa using h) hb.2
    simpa using this
def itAnn : Ann := [(0, [3, 17, 18, 19])]
def itSch : Sched := .take 0 (.take 2 (.take 5 (.ld 1 (.ld 3 (.ld 6 (.take 7 (.alt 4 (.alt 8 (.alt 9 (.take 10 .fin) .nil) .nil) .nil)))))))
def itSt (t : Int) (b : List Int) (ks : List Nd) (i : Nat) : St := ⟨[.any, .any, .any, .ms (.l 0) 0 ((itPre ks i).length + 1) ((itPre ks i).length + 1), .any, .any, .any, .any, .any, .any, .any, .any, .any, .any, .any, .any, .any, .sl .sh (nodesS ks), .v (.int .i64 ks.length), .v (.int .i64 i), .any, .any, .any, .any, .any, .any, .any, .any, .any], [(0, ⟨true, 3, false, itemO ⟨t, b, ks.length⟩ :: (itPre ks i).map itemO⟩)], []⟩
attribute [local go_sem] itSch
set_option maxRecDepth 10000 in
include hm in
theorem items : ∀ (m : Nat) (n : Nd), szN n ≤ m → (itemsN n).length ≤ 100000 → bodiesLe 1073741824 n → kidsLe 1000000 n → Holds Try.prog 29 [nodeS n] [] (.sl (.ow 3) ((itemsN n).map itemO)) [] := by
  intro m
  induction m with
  | zero => intro n h; cases n; simp [szN] at h
  | succ m IH =>
    rintro ⟨t, b, ks⟩ hz hl hb hk
    obtain ⟨hb1, hb2⟩ := hb
    obtain ⟨hk1, hk2⟩ := hk
    simp only [szN] at hz
    simp only [itemsN, List.length_cons] at hl
    refine holds_ref (ann := itAnn) tabOk hm (byL [] [1000001]) Try.func29 (by kernel_rfl) rfl ?_
    simp (decide := true) only [Try.f29, nodeS, go_sem, Nat.reduceAdd, Nat.reduceMul, Nat.reduceSub]
    refine Runs.draw (st1 := ?s1) (draws_ref (ann := itAnn) tabOk (byL [] [1000001]) itSch (by kernel_rfl) ?p1) ?q1
    case p1 =>
      intro K r X hK
      simp (decide := true) only [go_sem, Nat.reduceAdd, Nat.reduceMul, Nat.reduceSub]
      refine Runs.call (cloneB hm b hb1) ?_
      simp (decide := true) only [go_sem, Nat.reduceAdd, Nat.reduceMul, Nat.reduceSub]
      exact hK
    case q1 =>
      simp (decide := true) only [go_sem, Nat.reduceAdd, Nat.reduceMul, Nat.reduceSub]
      refine Runs.while (α := Nat) (itSt t b ks) (fun i => ks.length - i) (fun i => i ≤ ks.length) 0 (by omega) ?_ ?_
      · simp [go_sem, itAnn, itSt, itPre_zero, itemO]
      · intro i hi ih
        simp (decide := true) only [itSt, go_sem, Nat.reduceAdd, Nat.reduceMul, Nat.reduceSub]
        refine Runs.split (fun h => ?_) (fun h => ?_)
        · have hlt : i < ks.length := by simpa using h
          have e1 := itPre_le ks (i + 1)
          have e2 := itPre_succ hlt
          have e3 : (itPre ks (i + 1)).length = (itPre ks i).length + (itemsN ks[i]).length := by rw [e2, List.length_append]
          have e4 := szN_get hlt
          have e5 := IH ks[i] (by omega) (by omega) (bodiesLe_get hlt hb2) (kidsLe_get hlt hk2)
          have e6 := nodesS_get hlt
          have e7 : (itPre ks (i + 1)).map itemO = (itPre ks i).map itemO ++ (itemsN ks[i]).map itemO := by rw [e2, List.map_append]
          generalize ks[i] = k at e3 e5 e6 e7
          obtain ⟨t', b', ks'⟩ := k
          rw [nodeS] at e5 e6
          rw [itemsN_mk] at e3 e5 e7
          generalize (⟨t', b', ks'.length⟩ : It) = x' at e3 e5 e7
          generalize itemsNL ks' = L' at e3 e5 e7
          rw [List.map_cons] at e5 e7
          rw [List.length_cons] at e3
          simp (decide := true) (disch := first | omega | (simp only [List.length_map, List.length_cons, List.length_append, List.length_nil]; omega)) only [e6, if_pos, go_sem, Nat.reduceAdd, Nat.reduceMul, Nat.reduceSub]
          refine Runs.call e5 ?_
          simp (decide := true) (disch := first | omega | (simp only [List.length_map, List.length_cons, List.length_append, List.length_nil]; omega)) only [if_pos, go_sem, Nat.reduceAdd, Nat.reduceMul, Nat.reduceSub]
          refine ih (i + 1) _ (by omega) (by omega) ?_
          simp [go_sem, itAnn, itSt, e7, e3, Nat.add_assoc, Nat.add_comm, Nat.add_left_comm]
        · have hge : i = ks.length := by simp at h; omega
          subst hge
          simp (decide := true) only [itPre_all, go_sem, Nat.reduceAdd, Nat.reduceMul, Nat.reduceSub]
          refine Runs.ret_eq ?_
          simp [itemsN]
end Go.Proofs.W

namespace Go.Proofs.W
open Go Go.AM
set_option linter.unusedSimpArgs false
set_option linter.unusedVariables false
variable (hm : Try.prog.follows .mixedOrders = true)

def charOk (b : UInt8) : Bool := inB b.toNat 32 126
def textOk (s : ByteArray) : Bool := inB s.size 1 40 && s.data.toList.all charOk
def nameOk (L : List ByteArray) : Bool := L.all textOk && inB L.length 1 4

theorem bs_len (s : ByteArray) : s.data.toList.length = s.size := by rw [Array.length_toList]; rfl

def ann13 : Ann := [(0, [0, 3]), (2, [0, 3, 4])]
def st13 (L : List ByteArray) (i : Nat) : St := ⟨[.sl .sh (L.map strA), .any, .any, .v (.int .i64 i), .any, .any, .any, .any, .any, .any, .any, .any, .any, .any, .any, .any, .any, .any, .any, .any, .any, .any, .any, .any, .any, .any, .any, .any, .any, .any, .any, .any, .any, .any, .any, .any, .any, .any, .any], [], []⟩
def st13b (L : List ByteArray) (i k : Nat) : St := ⟨[.sl .sh (L.map strA), .any, .any, .v (.int .i64 i), .v (.int .i64 k), .any, .any, .any, .any, .any, .any, .any, .any, .any, .any, .any, .any, .any, .any, .any, .any, .any, .any, .any, .any, .any, .any, .any, .any, .any, .any, .any, .any, .any, .any, .any, .any, .any, .any], [], []⟩

set_option maxRecDepth 10000 in
include hm in
theorem l10Name (L : List ByteArray) (h3 : L.length ≤ 9223372036854775807) (h4 : ∀ s ∈ L, s.size ≤ 9223372036854775807) :
    Holds Try.prog 35 [.sl .sh (L.map strA)] [] (.v (.bool (nameOk L))) [] := by
  refine holds_of (ann := ann13) tabOk hm Try.func35 (by kernel_rfl) rfl ?_
  simp (decide := true) only [Try.f35, go_sem, Nat.reduceAdd, Nat.reduceMul, Nat.reduceSub]
  refine Runs.while (α := Nat) (st13 L) (fun i => L.length - i) (fun i => i ≤ L.length ∧ (L.drop i).all textOk = L.all textOk) 0 ⟨by omega, by simp⟩ ?_ ?_
  · simp [go_sem, ann13, st13]
  · rintro i ⟨hi1, hr⟩ ih
    simp (decide := true) only [st13, go_sem, Nat.reduceAdd, Nat.reduceMul, Nat.reduceSub]
    refine Runs.split (fun h => ?_) (fun h => ?_)
    · have hlt : i < L.length := by simpa using h
      have hs := h4 L[i] (List.getElem_mem hlt)
      rw [List.drop_eq_getElem_cons hlt, List.all_cons] at hr
      simp (decide := true) (disch := first | omega | (simp only [List.length_map, List.length_cons, List.length_append, List.length_nil]; omega)) only [if_pos, go_sem, Nat.reduceAdd, Nat.reduceMul, Nat.reduceSub]
      refine Runs.call (l1In hm L[i].size 1 40) ?_
      simp (decide := true) only [go_sem, Nat.reduceAdd, Nat.reduceMul, Nat.reduceSub]
      refine Runs.split (fun h => ?_) (fun h => ?_)
      · simp only [Bool.not_eq_true'] at h
        have e : nameOk L = false := by rw [nameOk, ← hr, textOk, h]; simp
        simp (decide := true) only [e, go_sem, Nat.reduceAdd, Nat.reduceMul, Nat.reduceSub]
        exact Runs.ret_v
      · simp only [Bool.not_eq_false'] at h
        simp (decide := true) only [go_sem, Nat.reduceAdd, Nat.reduceMul, Nat.reduceSub]
        refine Runs.while (α := Nat) (st13b L i) (fun k => L[i].size - k) (fun k => k ≤ L[i].size ∧ (L[i].data.toList.drop k).all charOk = L[i].data.toList.all charOk) 0 ⟨by omega, by simp⟩ ?_ ?_
        · simp [go_sem, ann13, st13b]
        · rintro k ⟨hk1, hk⟩ ihk
          simp (decide := true) (disch := first | omega | (simp only [List.length_map, List.length_cons, List.length_append, List.length_nil]; omega)) only [st13b, if_pos, go_sem, Nat.reduceAdd, Nat.reduceMul, Nat.reduceSub]
          refine Runs.split (fun h => ?_) (fun h => ?_)
          · have hltk : k < L[i].size := by simpa using h
            have hlen := bs_len L[i]
            rw [List.drop_eq_getElem_cons (by omega), List.all_cons] at hk
            have hg : L[i].data.toList.getD k 0 = L[i].data.toList[k] := by simp [List.getD, hltk]
            have hb := UInt8.toNat_lt L[i].data.toList[k]
            simp (decide := true) (disch := first | omega | (simp only [List.length_map, List.length_cons, List.length_append, List.length_nil]; omega)) only [hg, if_pos, go_sem, Nat.reduceAdd, Nat.reduceMul, Nat.reduceSub]
            refine Runs.call (l1In hm _ 32 126) ?_
            simp (decide := true) only [go_sem, Nat.reduceAdd, Nat.reduceMul, Nat.reduceSub]
            refine Runs.split (fun h' => ?_) (fun h' => ?_)
            · simp only [Bool.not_eq_true'] at h'
              have e : nameOk L = false := by rw [nameOk, ← hr, textOk, ← hk, charOk, h']; simp
              simp (decide := true) only [e, go_sem, Nat.reduceAdd, Nat.reduceMul, Nat.reduceSub]
              exact Runs.ret_v
            · simp only [Bool.not_eq_false'] at h'
              rw [charOk, h', Bool.true_and] at hk
              simp (decide := true) (disch := first | omega | (simp only [List.length_map, List.length_cons, List.length_append, List.length_nil]; omega)) only [if_pos, go_sem, Nat.reduceAdd, Nat.reduceMul, Nat.reduceSub]
              refine ihk (k + 1) _ (by omega) ⟨by omega, hk⟩ ?_
              simp [go_sem, ann13, st13b]
          · have hge : k = L[i].size := by simp at h; omega
            have hlen := bs_len L[i]
            rw [List.drop_of_length_le (by omega), List.all_nil] at hk
            rw [textOk, ‹inB _ 1 40 = true›, ← hk, Bool.true_and, Bool.true_and] at hr
            simp (decide := true) (disch := first | omega | (simp only [List.length_map, List.length_cons, List.length_append, List.length_nil]; omega)) only [if_pos, go_sem, Nat.reduceAdd, Nat.reduceMul, Nat.reduceSub]
            refine ih (i + 1) _ (by omega) ⟨by omega, hr⟩ ?_
            simp [go_sem, ann13, st13]
    · have hge : i = L.length := by simp at h; omega
      subst hge
      rw [List.drop_length, List.all_nil] at hr
      simp (decide := true) only [go_sem, Nat.reduceAdd, Nat.reduceMul, Nat.reduceSub]
      refine Runs.call (l1In hm _ 1 4) ?_
      simp (decide := true) only [nameOk, ← hr, go_sem, Nat.reduceAdd, Nat.reduceMul, Nat.reduceSub]
      exact Runs.ret_v

def ann18 : Ann := [(0, [0, 6, 7, 8]), (2, [0, 4, 6, 7, 8, 13, 14])]
def st18 (L : List ByteArray) (i : Nat) : St := ⟨[.sl .sh (L.map strA), .any, .any, .any, .any, .any, .sl .sh (L.map strA), .v (.int .i64 L.length), .v (.int .i64 i), .any, .any, .any, .any, .any, .any, .any, .any, .any, .any, .any, .any, .any, .any, .any, .any, .any, .any, .any, .any, .any, .any, .any, .any, .any, .any, .any], [], []⟩
def st18b (L : List ByteArray) (i : Nat) (s : ByteArray) (k : Nat) : St := ⟨[.sl .sh (L.map strA), .any, .any, .any, .v (.string s), .any, .sl .sh (L.map strA), .v (.int .i64 L.length), .v (.int .i64 i), .any, .any, .any, .any, .v (.int .i64 s.size), .v (.int .i64 k), .any, .any, .any, .any, .any, .any, .any, .any, .any, .any, .any, .any, .any, .any, .any, .any, .any, .any, .any, .any, .any], [], []⟩

theorem charOk_lo {b : UInt8} (h : (b.toNat : Int) < 32) : charOk b = false := by simp [charOk, inB]; omega
theorem charOk_hi {b : UInt8} (h : ¬ (b.toNat : Int) < 32) : charOk b = !decide ((b.toNat : Int) > 126) := by
  unfold charOk inB
  rw [decide_eq_true (by omega), Bool.true_and]
  by_cases h2 : (b.toNat : Int) > 126
  · rw [decide_eq_false (by omega), decide_eq_true h2]; rfl
  · rw [decide_eq_true (by omega), decide_eq_false h2]; rfl

set_option maxRecDepth 10000 in
include hm in
theorem isName (L : List ByteArray) (h3 : L.length ≤ 9223372036854775807) (h4 : ∀ s ∈ L, s.size ≤ 9223372036854775807) :
    Holds Try.prog 43 [.sl .sh (L.map strA)] [] (.v (.bool (nameOk L))) [] := by
  refine holds_of (ann := ann18) tabOk hm Try.func43 (by kernel_rfl) rfl ?_
  simp (decide := true) only [Try.f43, go_sem, Nat.reduceAdd, Nat.reduceMul, Nat.reduceSub]
  refine Runs.while (α := Nat) (st18 L) (fun i => L.length - i) (fun i => i ≤ L.length ∧ (L.drop i).all textOk = L.all textOk) 0 ⟨by omega, by simp⟩ ?_ ?_
  · simp [go_sem, ann18, st18]
  · rintro i ⟨hi1, hr⟩ ih
    simp (decide := true) only [st18, go_sem, Nat.reduceAdd, Nat.reduceMul, Nat.reduceSub]
    refine Runs.split (fun h => ?_) (fun h => ?_)
    · have hlt : i < L.length := by simpa using h
      have hs := h4 L[i] (List.getElem_mem hlt)
      rw [List.drop_eq_getElem_cons hlt, List.all_cons] at hr
      simp (decide := true) (disch := first | omega | (simp only [List.length_map, List.length_cons, List.length_append, List.length_nil]; omega)) only [if_pos, go_sem, Nat.reduceAdd, Nat.reduceMul, Nat.reduceSub]
      refine Runs.while (α := Nat) (st18b L i L[i]) (fun k => L[i].size - k) (fun k => k ≤ L[i].size ∧ (L[i].data.toList.drop k).all charOk = L[i].data.toList.all charOk) 0 ⟨by omega, by simp⟩ ?_ ?_
      · simp [go_sem, ann18, st18b]
      · rintro k ⟨hk1, hk⟩ ihk
        simp (decide := true) (disch := first | omega | (simp only [List.length_map, List.length_cons, List.length_append, List.length_nil]; omega)) only [st18b, if_pos, go_sem, Nat.reduceAdd, Nat.reduceMul, Nat.reduceSub]
        refine Runs.split (fun h => ?_) (fun h => ?_)
        · have hltk : k < L[i].size := by simpa using h
          have hlen := bs_len L[i]
          rw [List.drop_eq_getElem_cons (by omega), List.all_cons] at hk
          have hg : L[i].data.toList.getD k 0 = L[i].data.toList[k] := by simp [List.getD, hltk]
          have hb := UInt8.toNat_lt L[i].data.toList[k]
          simp (decide := true) (disch := first | omega | (simp only [List.length_map, List.length_cons, List.length_append, List.length_nil]; omega)) only [hg, if_pos, go_sem, Nat.reduceAdd, Nat.reduceMul, Nat.reduceSub]
          have stop : charOk L[i].data.toList[k] = false → nameOk L = false := fun h => by rw [nameOk, ← hr, textOk, ← hk, h]; simp
          refine Runs.split (fun h => ?_) (fun h => ?_)
          · simp only [decide_eq_true_eq] at h
            simp (decide := true) only [stop (charOk_lo h), go_sem, Nat.reduceAdd, Nat.reduceMul, Nat.reduceSub]
            exact Runs.ret_v
          · simp only [decide_eq_false_iff_not] at h
            simp (decide := true) (disch := first | omega | (simp only [List.length_map, List.length_cons, List.length_append, List.length_nil]; omega)) only [hg, if_pos, go_sem, Nat.reduceAdd, Nat.reduceMul, Nat.reduceSub]
            refine Runs.split (fun h2 => ?_) (fun h2 => ?_)
            · simp (decide := true) only [stop (by rw [charOk_hi h, h2]; rfl), go_sem, Nat.reduceAdd, Nat.reduceMul, Nat.reduceSub]
              exact Runs.ret_v
            · rw [charOk_hi h, h2, Bool.not_false, Bool.true_and] at hk
              simp (decide := true) (disch := first | omega | (simp only [List.length_map, List.length_cons, List.length_append, List.length_nil]; omega)) only [if_pos, go_sem, Nat.reduceAdd, Nat.reduceMul, Nat.reduceSub]
              refine ihk (k + 1) _ (by omega) ⟨by omega, hk⟩ ?_
              simp [go_sem, ann18, st18b]
        · have hge : k = L[i].size := by simp at h; omega
          have hlen := bs_len L[i]
          rw [List.drop_of_length_le (by omega), List.all_nil] at hk
          simp (decide := true) only [go_sem, Nat.reduceAdd, Nat.reduceMul, Nat.reduceSub]
          refine Runs.call (within hm _ 1 40) ?_
          simp (decide := true) only [go_sem, Nat.reduceAdd, Nat.reduceMul, Nat.reduceSub]
          refine Runs.split (fun h' => ?_) (fun h' => ?_)
          · simp only [Bool.not_eq_true'] at h'
            have e : nameOk L = false := by rw [nameOk, ← hr, textOk, h']; simp
            simp (decide := true) only [e, go_sem, Nat.reduceAdd, Nat.reduceMul, Nat.reduceSub]
            exact Runs.ret_v
          · simp only [Bool.not_eq_false'] at h'
            rw [textOk, h', ← hk, Bool.true_and, Bool.true_and] at hr
            simp (decide := true) (disch := first | omega | (simp only [List.length_map, List.length_cons, List.length_append, List.length_nil]; omega)) only [if_pos, go_sem, Nat.reduceAdd, Nat.reduceMul, Nat.reduceSub]
            refine ih (i + 1) _ (by omega) ⟨by omega, hr⟩ ?_
            simp [go_sem, ann18, st18]
    · have hge : i = L.length := by simp at h; omega
      subst hge
      rw [List.drop_length, List.all_nil] at hr
      simp (decide := true) only [go_sem, Nat.reduceAdd, Nat.reduceMul, Nat.reduceSub]
      refine Runs.call (within hm _ 1 4) ?_
      simp (decide := true) only [nameOk, ← hr, go_sem, Nat.reduceAdd, Nat.reduceMul, Nat.reduceSub]
      exact Runs.ret_v
set_option maxRecDepth 10000 in
include hm in
theorem isSig (es : List A) : Holds Try.prog 47 [.sl .sh es] [] (.v (.bool (inB es.length 1 64))) [] := by
  refine holds_of (ann := []) tabOk hm Try.func47 (by kernel_rfl) rfl ?_
  simp (decide := true) only [Try.f47, go_sem, Nat.reduceAdd, Nat.reduceMul, Nat.reduceSub]
  refine Runs.call (within hm es.length 1 64) ?_
  simp (decide := true) only [go_sem, Nat.reduceAdd, Nat.reduceMul, Nat.reduceSub]
  exact Runs.ret_v
def ann21 : Ann := [(0, [0, 1, 2, 7])]
def st21 (L : List Int) (lo hi : Int) (i : Nat) : St := ⟨[.sl .sh (L.map intA), .v (.int .i64 lo), .v (.int .i64 hi), .any, .any, .any, .any, .v (.int .i64 i), .any, .any, .any, .any, .any, .any, .any, .any, .any, .any, .any, .any, .any, .any, .any, .any, .any, .any, .any, .any], [], []⟩
def sched21 : Sched := .take 0 (.take 1 (.take 2 (.take 3 (.take 5 (.take 6 (.take 7 (.alt 4 (.alt 8 (.take 9 .fin) .nil) (.alt 8 (.alt 4 (.take 9 .fin) .nil) .nil))))))))
/-- Each greater than the one before it, from a place on. -/
def risesFrom (L : List Int) (i : Nat) : Bool := (List.range' i (L.length - i)).all fun j => decide (L.getD (j - 1) 0 < L.getD j 0)

theorem risesFrom_succ {L : List Int} {i : Nat} (h : i < L.length) : risesFrom L i = (decide (L.getD (i - 1) 0 < L.getD i 0) && risesFrom L (i + 1)) := by
  unfold risesFrom
  obtain ⟨k, hk⟩ : ∃ k, L.length - i = k + 1 := ⟨L.length - i - 1, by omega⟩
  rw [hk, List.range'_succ, List.all_cons, show L.length - (i + 1) = k by omega]

set_option maxRecDepth 10000 in
include hm in
theorem isRising (L : List Int) (lo hi : Int) (h3 : L.length ≤ 9223372036854775807) :
    Holds Try.prog 46 [.sl .sh (L.map intA), .v (.int .i64 lo), .v (.int .i64 hi)] [] (.v (.bool (risesFrom L 1 && L.all fun n => inB n lo hi))) [] := by
  refine holds_of (ann := ann21) tabOk hm Try.func46 (by kernel_rfl) rfl ?_
  simp (decide := true) only [Try.f46, go_sem, Nat.reduceAdd, Nat.reduceMul, Nat.reduceSub]
  refine Runs.while (α := Nat) (st21 L lo hi) (fun i => L.length - i) (fun i => 1 ≤ i ∧ i ≤ max L.length 1 ∧ risesFrom L i = risesFrom L 1) 1 ⟨by omega, by omega, rfl⟩ ?_ ?_
  · simp [go_sem, ann21, st21]
  · rintro i ⟨hi0, hi1, hr⟩ ih
    simp (decide := true) only [st21, go_sem, Nat.reduceAdd, Nat.reduceMul, Nat.reduceSub]
    refine Runs.split (fun h => ?_) (fun h => ?_)
    · have hlt : i < L.length := by simpa using h
      rw [risesFrom_succ hlt] at hr
      have he : (L.map intA).getD i .any = .v (.int .i64 (L.getD i 0)) := by simp [List.getD, hlt, intA]
      have he1 : (L.map intA).getD (i - 1) .any = .v (.int .i64 (L.getD (i - 1) 0)) := by simp [List.getD, show i - 1 < L.length by omega, intA]
      have ht : ((i : Int) - 1).toNat = i - 1 := by omega
      have hw : IntKind.i64.wrap ((i : Int) - 1) = (i : Int) - 1 := wrap_i64 (by omega) (by omega)
      simp (decide := true) only [go_sem, Nat.reduceAdd, Nat.reduceMul, Nat.reduceSub]
      refine Runs.draw (st1 := ?s1) (draws_by (ann := []) tabOk sched21 (by kernel_rfl) ?h1) ?h2
      case h1 =>
        intro K r X hK
        simp (decide := true) only [sched21, hw, ht, he, he1, go_sem, Nat.reduceAdd, Nat.reduceMul, Nat.reduceSub]
        refine Runs.chk (by simp; omega) (Runs.chk (by simp; omega) (Runs.both (Runs.both ?_ Runs.done) (Runs.both (Runs.both ?_ Runs.done) Runs.done)))
        · exact hK
        · exact hK
      case h2 =>
        simp (decide := true) only [go_sem, Nat.reduceAdd, Nat.reduceMul, Nat.reduceSub]
        refine Runs.split (fun h => ?_) (fun h => ?_)
        · simp only [decide_eq_true_eq] at h
          rw [decide_eq_false (by omega), Bool.false_and] at hr
          simp (decide := true) only [← hr, go_sem, Nat.reduceAdd, Nat.reduceMul, Nat.reduceSub]
          exact Runs.ret_v
        · simp only [decide_eq_false_iff_not] at h
          rw [decide_eq_true (by omega), Bool.true_and] at hr
          simp (decide := true) (disch := first | omega | (simp only [List.length_map, List.length_cons, List.length_append, List.length_nil]; omega)) only [if_pos, go_sem, Nat.reduceAdd, Nat.reduceMul, Nat.reduceSub]
          refine ih (i + 1) _ (by omega) ⟨by omega, by omega, hr⟩ ?_
          simp [go_sem, ann21, st21]
    · have hge : L.length ≤ i := by simp at h; omega
      have hz : risesFrom L i = true := by unfold risesFrom; rw [show L.length - i = 0 by omega]; rfl
      rw [hz] at hr
      simp (decide := true) only [dn_intA, go_sem, Nat.reduceAdd, Nat.reduceMul, Nat.reduceSub]
      refine Runs.call (allWithin hm L lo hi h3) ?_
      simp (decide := true) only [← hr, go_sem, Nat.reduceAdd, Nat.reduceMul, Nat.reduceSub]
      exact Runs.ret_v
end Go.Proofs.W

namespace Go.Proofs.W
open Go Go.AM
set_option linter.unusedSimpArgs false
set_option linter.unusedVariables false
variable (hm : Try.prog.follows .mixedOrders = true)

def szI (n : Nat) (left : Int) : Int := if left - n < 0 then -1 else left - n
def szGo : List ByteArray → Int → Int
  | [], l => l
  | s :: r, l => if l - s.size < 0 then -1 else szGo r (l - s.size)
def szS (L : List ByteArray) (left : Int) : Int := if left - L.length < 0 then -1 else szGo L (left - L.length)
theorem szGo_le (L : List ByteArray) (l : Int) (h : 0 ≤ l) : szGo L l ≤ l ∧ -1 ≤ szGo L l := by
  induction L generalizing l with
  | nil => simp [szGo]; omega
  | cons s r ih =>
    simp only [szGo]
    split
    · omega
    · have := ih (l - s.size) (by omega); omega
theorem szS_le (L : List ByteArray) (l : Int) (h : 0 ≤ l) : szS L l ≤ l := by
  unfold szS
  split
  · omega
  · have := szGo_le L (l - L.length) (by omega); omega
theorem szI_le (n : Nat) (l : Int) (h : 0 ≤ l) : szI n l ≤ l ∧ -1 ≤ szI n l := by
  unfold szI
  split <;> omega
theorem szS_len (L : List ByteArray) (l : Int) (h : ¬ szS L l < 0) (hl : l ≤ 1048576) : L.length ≤ 1048576 := by
  unfold szS at h
  split at h
  · exact absurd (by omega) h
  · omega
theorem szI_len (n : Nat) (l : Int) (h : ¬ szI n l < 0) (hl : l ≤ 1048576) : n ≤ 1048576 := by
  unfold szI at h
  split at h
  · exact absurd (by omega) h
  · omega
set_option maxRecDepth 10000 in
include hm in
theorem szIntS (es : List A) (left : Int) (h1 : 0 ≤ left) (h2 : left ≤ 1048576) (h3 : es.length ≤ 9223372036854775807) :
    Holds Try.prog 14 [.sl .sh es, .v (.int .i64 left)] [] (.v (.int .i64 (szI es.length left))) [] := by
  refine holds_of (ann := []) tabOk hm Try.func14 (by kernel_rfl) rfl ?_
  simp (decide := true) (disch := first | omega | (simp only [List.length_map, List.length_cons, List.length_append, List.length_nil]; omega)) only [Try.f14, if_pos, go_sem, Nat.reduceAdd, Nat.reduceMul, Nat.reduceSub]
  refine Runs.split (fun h => ?_) (fun h => ?_)
  · simp only [decide_eq_true_eq] at h
    simp (decide := true) only [szI, if_pos h, go_sem, Nat.reduceAdd, Nat.reduceMul, Nat.reduceSub]
    exact Runs.ret_v
  · simp only [decide_eq_false_iff_not] at h
    simp (decide := true) only [szI, if_neg h, go_sem, Nat.reduceAdd, Nat.reduceMul, Nat.reduceSub]
    exact Runs.ret_v
set_option maxRecDepth 10000 in
include hm in
theorem szByteS (es : List A) (left : Int) (h1 : 0 ≤ left) (h2 : left ≤ 1048576) (h3 : es.length ≤ 9223372036854775807) :
    Holds Try.prog 15 [.sl .sh es, .v (.int .i64 left)] [] (.v (.int .i64 (szI es.length left))) [] := by
  refine holds_of (ann := []) tabOk hm Try.func15 (by kernel_rfl) rfl ?_
  simp (decide := true) (disch := first | omega | (simp only [List.length_map, List.length_cons, List.length_append, List.length_nil]; omega)) only [Try.f15, if_pos, go_sem, Nat.reduceAdd, Nat.reduceMul, Nat.reduceSub]
  refine Runs.split (fun h => ?_) (fun h => ?_)
  · simp only [decide_eq_true_eq] at h
    simp (decide := true) only [szI, if_pos h, go_sem, Nat.reduceAdd, Nat.reduceMul, Nat.reduceSub]
    exact Runs.ret_v
  · simp only [decide_eq_false_iff_not] at h
    simp (decide := true) only [szI, if_neg h, go_sem, Nat.reduceAdd, Nat.reduceMul, Nat.reduceSub]
    exact Runs.ret_v
def szAnn : Ann := [(0, [0, 1, 5])]
def szSt (L : List ByteArray) (p : Nat × Int) : St := ⟨[.sl .sh (L.map strA), .v (.int .i64 p.2), .any, .any, .any, .v (.int .i64 p.1), .any, .any, .any, .any, .any, .any, .any, .any, .any, .any, .any, .any, .any, .any, .any, .any, .any, .any, .any, .any, .any, .any], [], []⟩
set_option maxRecDepth 10000 in
include hm in
theorem szStringS (L : List ByteArray) (left : Int) (h1 : 0 ≤ left) (h2 : left ≤ 1048576) (h3 : L.length ≤ 9223372036854775807) (h4 : ∀ s ∈ L, s.size ≤ 9223372036854775807) :
    Holds Try.prog 13 [.sl .sh (L.map strA), .v (.int .i64 left)] [] (.v (.int .i64 (szS L left))) [] := by
  refine holds_of (ann := szAnn) tabOk hm Try.func13 (by kernel_rfl) rfl ?_
  simp (decide := true) (disch := first | omega | (simp only [List.length_map, List.length_cons, List.length_append, List.length_nil]; omega)) only [Try.f13, if_pos, go_sem, Nat.reduceAdd, Nat.reduceMul, Nat.reduceSub]
  refine Runs.split (fun h => ?_) (fun h => ?_)
  · simp only [decide_eq_true_eq] at h
    simp (decide := true) only [szS, if_pos h, go_sem, Nat.reduceAdd, Nat.reduceMul, Nat.reduceSub]
    exact Runs.ret_v
  · simp only [decide_eq_false_iff_not] at h
    simp (decide := true) only [go_sem, Nat.reduceAdd, Nat.reduceMul, Nat.reduceSub]
    refine Runs.while (α := Nat × Int) (szSt L) (fun p => L.length - p.1) (fun p => p.1 ≤ L.length ∧ 0 ≤ p.2 ∧ p.2 ≤ 1048576 ∧ szGo (L.drop p.1) p.2 = szS L left) (0, left - L.length) ⟨by simp, by simp; omega, by simp; omega, by simp [szS, h]⟩ ?_ ?_
    · simp [go_sem, szAnn, szSt]
    · rintro ⟨i, l⟩ ⟨hi, hl1, hl2, hr⟩ ih
      simp only at hi hl1 hl2 hr
      simp (decide := true) only [szSt, go_sem, Nat.reduceAdd, Nat.reduceMul, Nat.reduceSub]
      refine Runs.split (fun h => ?_) (fun h => ?_)
      · have hlt : i < L.length := by simpa using h
        have hsz := h4 L[i] (List.getElem_mem hlt)
        rw [List.drop_eq_getElem_cons hlt] at hr
        simp only [szGo] at hr
        simp (decide := true) (disch := first | omega | (simp only [List.length_map, List.length_cons, List.length_append, List.length_nil]; omega)) only [if_pos, go_sem, Nat.reduceAdd, Nat.reduceMul, Nat.reduceSub]
        refine Runs.split (fun h => ?_) (fun h => ?_)
        · simp only [decide_eq_true_eq] at h
          rw [if_pos h] at hr
          simp (decide := true) only [← hr, go_sem, Nat.reduceAdd, Nat.reduceMul, Nat.reduceSub]
          exact Runs.ret_v
        · simp only [decide_eq_false_iff_not] at h
          rw [if_neg h] at hr
          simp (decide := true) (disch := first | omega | (simp only [List.length_map, List.length_cons, List.length_append, List.length_nil]; omega)) only [if_pos, go_sem, Nat.reduceAdd, Nat.reduceMul, Nat.reduceSub]
          refine ih (i + 1, l - L[i].size) _ (by simp only; omega) ⟨hlt, by simp only; omega, by simp only; omega, hr⟩ ?_
          simp [go_sem, szAnn, szSt]
      · have hge : i = L.length := by simp at h; omega
        subst hge
        simp only [List.drop_length, szGo] at hr
        simp (decide := true) only [← hr, go_sem, Nat.reduceAdd, Nat.reduceMul, Nat.reduceSub]
        exact Runs.ret_v
end Go.Proofs.W

namespace Go.Proofs.W
open Go Go.AM
set_option linter.unusedSimpArgs false
set_option linter.unusedVariables false
variable (hm : Try.prog.follows .mixedOrders = true)

def fillS {α : Type} (g : α → A) (L : List α) (z : A) (i : Nat) : List A := (L.take i).map g ++ List.replicate (L.length - i) z
theorem fillS_length {α : Type} (g : α → A) (L : List α) (z : A) (i : Nat) (h : i ≤ L.length) : (fillS g L z i).length = L.length := by simp [fillS]; omega
theorem fillS_zero {α : Type} (g : α → A) (L : List α) (z : A) : fillS g L z 0 = List.replicate L.length z := by simp [fillS]
theorem fillS_all {α : Type} (g : α → A) (L : List α) (z : A) : fillS g L z L.length = L.map g := by simp [fillS]
theorem fillS_set {α : Type} (g : α → A) (L : List α) (z : A) (i : Nat) (h : i < L.length) : (fillS g L z i).set i (g L[i]) = fillS g L z (i + 1) := by
  unfold fillS
  have e : L.length - i = (L.length - (i + 1)) + 1 := by omega
  rw [List.set_append_right _ _ (by simp; omega), e, List.replicate_succ]
  have hl : ((L.take i).map g).length = i := by simp; omega
  rw [hl, Nat.sub_self, List.set_cons_zero, List.take_succ_eq_append_getElem h, List.map_append, List.append_assoc]
  rfl
theorem fillS_get {α : Type} (g : α → A) (L : List α) (z : A) (i : Nat) (h : i < L.length) : (fillS g L z i).getD i .any = z := by
  unfold fillS
  have hl : ((L.take i).map g).length = i := by simp; omega
  rw [List.getD, List.getElem?_append_right (by omega), hl, Nat.sub_self]
  have e : L.length - i = (L.length - (i + 1)) + 1 := by omega
  rw [e, List.replicate_succ]
  rfl

def toAnn : Ann := [(0, [0, 3, 4])]
def toStringSt (L : List ByteArray) (i : Nat) : St := ⟨[.sl .sh (L.map strA), .any, .any, .ms (.l 0) 0 L.length L.length, .v (.int .i64 i), .any, .any, .any, .any, .any, .any, .any, .any, .any, .any, .any, .any, .any, .any, .any, .any, .any], [(0, ⟨true, 1, false, fillS strA L (.v (.string ⟨#[]⟩)) i⟩)], []⟩
set_option maxRecDepth 10000 in
include hm in
theorem toStringS (L : List ByteArray) (h3 : L.length ≤ 1048576) : Holds Try.prog 21 [.sl .sh (L.map strA)] [] (.sl (.ow 1) (L.map strA)) [] := by
  refine holds_of (ann := toAnn) tabOk hm Try.func21 (by kernel_rfl) rfl ?_
  simp (decide := true) (disch := first | omega | (simp only [List.length_map, List.length_cons, List.length_append, List.length_nil]; omega)) only [Try.f21, if_pos, go_sem, Nat.reduceAdd, Nat.reduceMul, Nat.reduceSub]
  refine Runs.while (α := Nat) (toStringSt L) (fun i => L.length - i) (fun i => i ≤ L.length) 0 (by omega) ?_ ?_
  · simp [go_sem, toAnn, toStringSt, fillS_zero]
  · intro i hi ih
    have hlen := fillS_length strA L (.v (.string ⟨#[]⟩)) i hi
    simp (decide := true) only [toStringSt, hlen, go_sem, Nat.reduceAdd, Nat.reduceMul, Nat.reduceSub]
    refine Runs.split (fun h => ?_) (fun h => ?_)
    · have hlt : i < L.length := by simpa using h
      have hg := fillS_get strA L (.v (.string ⟨#[]⟩)) i hlt
      have hs : (fillS strA L (.v (.string ⟨#[]⟩)) i).set i (strA L[i]) = _ := fillS_set strA L (.v (.string ⟨#[]⟩)) i hlt
      simp only [strA] at hs
      simp (decide := true) (disch := first | omega | (simp only [List.length_map, List.length_cons, List.length_append, List.length_nil]; omega)) only [hlen, hg, hs, if_pos, go_sem, Nat.reduceAdd, Nat.reduceMul, Nat.reduceSub]
      refine ih (i + 1) _ (by omega) hlt ?_
      simp [go_sem, toAnn, toStringSt]
    · have hge : i = L.length := by simp at h; omega
      subst hge
      simp (decide := true) only [hlen, fillS_all, go_sem, Nat.reduceAdd, Nat.reduceMul, Nat.reduceSub]
      exact Runs.ret_refl
def toIntSt (L : List Int) (i : Nat) : St := ⟨[.sl .sh (L.map intA), .any, .any, .ms (.l 0) 0 L.length L.length, .v (.int .i64 i), .any, .any, .any, .any, .any, .any, .any, .any, .any, .any, .any, .any, .any, .any, .any, .any, .any], [(0, ⟨true, 1, false, fillS intA L (.v (.int .i64 0)) i⟩)], []⟩
set_option maxRecDepth 10000 in
include hm in
theorem toIntS (L : List Int) (h3 : L.length ≤ 1048576) : Holds Try.prog 22 [.sl .sh (L.map intA)] [] (.sl (.ow 1) (L.map intA)) [] := by
  refine holds_of (ann := toAnn) tabOk hm Try.func22 (by kernel_rfl) rfl ?_
  simp (decide := true) (disch := first | omega | (simp only [List.length_map, List.length_cons, List.length_append, List.length_nil]; omega)) only [Try.f22, if_pos, go_sem, Nat.reduceAdd, Nat.reduceMul, Nat.reduceSub]
  refine Runs.while (α := Nat) (toIntSt L) (fun i => L.length - i) (fun i => i ≤ L.length) 0 (by omega) ?_ ?_
  · simp [go_sem, toAnn, toIntSt, fillS_zero]
  · intro i hi ih
    have hlen := fillS_length intA L (.v (.int .i64 0)) i hi
    simp (decide := true) only [toIntSt, hlen, go_sem, Nat.reduceAdd, Nat.reduceMul, Nat.reduceSub]
    refine Runs.split (fun h => ?_) (fun h => ?_)
    · have hlt : i < L.length := by simpa using h
      have hg := fillS_get intA L (.v (.int .i64 0)) i hlt
      have hs : (fillS intA L (.v (.int .i64 0)) i).set i (intA L[i]) = _ := fillS_set intA L (.v (.int .i64 0)) i hlt
      simp only [intA] at hs
      simp (decide := true) (disch := first | omega | (simp only [List.length_map, List.length_cons, List.length_append, List.length_nil]; omega)) only [hlen, hg, hs, if_pos, go_sem, Nat.reduceAdd, Nat.reduceMul, Nat.reduceSub]
      refine ih (i + 1) _ (by omega) hlt ?_
      simp [go_sem, toAnn, toIntSt]
    · have hge : i = L.length := by simp at h; omega
      subst hge
      simp (decide := true) only [hlen, fillS_all, go_sem, Nat.reduceAdd, Nat.reduceMul, Nat.reduceSub]
      exact Runs.ret_refl
def toByteSt (L : List Int) (i : Nat) : St := ⟨[.sl .sh (L.map u8A), .any, .any, .ms (.l 0) 0 L.length L.length, .v (.int .i64 i), .any, .any, .any, .any, .any, .any, .any, .any, .any, .any, .any, .any, .any, .any, .any, .any, .any], [(0, ⟨true, 1, false, fillS u8A L (.v (.int .u8 0)) i⟩)], []⟩
set_option maxRecDepth 10000 in
include hm in
theorem toByteS (L : List Int) (h3 : L.length ≤ 1048576) : Holds Try.prog 23 [.sl .sh (L.map u8A)] [] (.sl (.ow 1) (L.map u8A)) [] := by
  refine holds_of (ann := toAnn) tabOk hm Try.func23 (by kernel_rfl) rfl ?_
  simp (decide := true) (disch := first | omega | (simp only [List.length_map, List.length_cons, List.length_append, List.length_nil]; omega)) only [Try.f23, if_pos, go_sem, Nat.reduceAdd, Nat.reduceMul, Nat.reduceSub]
  refine Runs.while (α := Nat) (toByteSt L) (fun i => L.length - i) (fun i => i ≤ L.length) 0 (by omega) ?_ ?_
  · simp [go_sem, toAnn, toByteSt, fillS_zero]
  · intro i hi ih
    have hlen := fillS_length u8A L (.v (.int .u8 0)) i hi
    simp (decide := true) only [toByteSt, hlen, go_sem, Nat.reduceAdd, Nat.reduceMul, Nat.reduceSub]
    refine Runs.split (fun h => ?_) (fun h => ?_)
    · have hlt : i < L.length := by simpa using h
      have hg := fillS_get u8A L (.v (.int .u8 0)) i hlt
      have hs : (fillS u8A L (.v (.int .u8 0)) i).set i (u8A L[i]) = _ := fillS_set u8A L (.v (.int .u8 0)) i hlt
      simp only [u8A] at hs
      simp (decide := true) (disch := first | omega | (simp only [List.length_map, List.length_cons, List.length_append, List.length_nil]; omega)) only [hlen, hg, hs, if_pos, go_sem, Nat.reduceAdd, Nat.reduceMul, Nat.reduceSub]
      refine ih (i + 1) _ (by omega) hlt ?_
      simp [go_sem, toAnn, toByteSt]
    · have hge : i = L.length := by simp at h; omega
      subst hge
      simp (decide := true) only [hlen, fillS_all, go_sem, Nat.reduceAdd, Nat.reduceMul, Nat.reduceSub]
      exact Runs.ret_refl
end Go.Proofs.W

namespace Go.Proofs.W
open Go Go.AM
set_option linter.unusedSimpArgs false
set_option linter.unusedVariables false
variable (hm : Try.prog.follows .mixedOrders = true)

def eqAnn : Ann := [(0, [0, 1, 5])]
def eqSched : Sched := .take 0 (.take 1 (.take 2 (.take 4 (.take 5 (.take 6 (.alt 3 (.alt 7 (.take 8 .fin) .nil) (.alt 7 (.alt 3 (.take 8 .fin) .nil) .nil)))))))
attribute [local go_sem] eqSched
def eqStringSt (L : List ByteArray) (i : Nat) : St := ⟨[.sl .sh (L.map strA), .sl .sh (L.map strA), .any, .any, .any, .v (.int .i64 i), .any, .any, .any, .any, .any, .any, .any, .any, .any, .any, .any, .any, .any, .any, .any, .any, .any, .any, .any, .any], [], []⟩
set_option maxRecDepth 10000 in
include hm in
theorem eqStringS (L : List ByteArray) (h3 : L.length ≤ 9223372036854775807) : Holds Try.prog 30 [.sl .sh (L.map strA), .sl .sh (L.map strA)] [] (.v (.bool true)) [] := by
  refine holds_of (ann := eqAnn) tabOk hm Try.func30 (by kernel_rfl) rfl ?_
  simp (decide := true) only [Try.f30, go_sem, Nat.reduceAdd, Nat.reduceMul, Nat.reduceSub]
  refine Runs.while (α := Nat) (eqStringSt L) (fun i => L.length - i) (fun i => i ≤ L.length) 0 (by omega) ?_ ?_
  · simp [go_sem, eqAnn, eqStringSt]
  · intro i hi ih
    simp (decide := true) only [eqStringSt, go_sem, Nat.reduceAdd, Nat.reduceMul, Nat.reduceSub]
    refine Runs.split (fun h => ?_) (fun h => ?_)
    · have hlt : i < L.length := by simpa using h
      simp (decide := true) only [go_sem, Nat.reduceAdd, Nat.reduceMul, Nat.reduceSub]
      refine Runs.draw (st1 := ?s1) (draws_by (ann := []) tabOk eqSched (by kernel_rfl) ?p1) ?q1
      case p1 =>
        intro K r X hK
        simp (decide := true) (disch := first | omega | (simp only [List.length_map, List.length_cons, List.length_append, List.length_nil]; omega)) only [if_pos, go_sem, Nat.reduceAdd, Nat.reduceMul, Nat.reduceSub]
        exact hK
      case q1 =>
        simp (decide := true) (disch := first | omega | (simp only [List.length_map, List.length_cons, List.length_append, List.length_nil]; omega)) only [if_pos, go_sem, Nat.reduceAdd, Nat.reduceMul, Nat.reduceSub]
        refine ih (i + 1) _ (by omega) hlt ?_
        simp [go_sem, eqAnn, eqStringSt]
    · simp (decide := true) only [go_sem, Nat.reduceAdd, Nat.reduceMul, Nat.reduceSub]
      exact Runs.ret_v
def eqIntSt (L : List Int) (i : Nat) : St := ⟨[.sl .sh (L.map intA), .sl .sh (L.map intA), .any, .any, .any, .v (.int .i64 i), .any, .any, .any, .any, .any, .any, .any, .any, .any, .any, .any, .any, .any, .any, .any, .any, .any, .any, .any, .any], [], []⟩
set_option maxRecDepth 10000 in
include hm in
theorem eqIntS (L : List Int) (h3 : L.length ≤ 9223372036854775807) : Holds Try.prog 31 [.sl .sh (L.map intA), .sl .sh (L.map intA)] [] (.v (.bool true)) [] := by
  refine holds_of (ann := eqAnn) tabOk hm Try.func31 (by kernel_rfl) rfl ?_
  simp (decide := true) only [Try.f31, go_sem, Nat.reduceAdd, Nat.reduceMul, Nat.reduceSub]
  refine Runs.while (α := Nat) (eqIntSt L) (fun i => L.length - i) (fun i => i ≤ L.length) 0 (by omega) ?_ ?_
  · simp [go_sem, eqAnn, eqIntSt]
  · intro i hi ih
    simp (decide := true) only [eqIntSt, go_sem, Nat.reduceAdd, Nat.reduceMul, Nat.reduceSub]
    refine Runs.split (fun h => ?_) (fun h => ?_)
    · have hlt : i < L.length := by simpa using h
      simp (decide := true) only [go_sem, Nat.reduceAdd, Nat.reduceMul, Nat.reduceSub]
      refine Runs.draw (st1 := ?s1) (draws_by (ann := []) tabOk eqSched (by kernel_rfl) ?p1) ?q1
      case p1 =>
        intro K r X hK
        simp (decide := true) (disch := first | omega | (simp only [List.length_map, List.length_cons, List.length_append, List.length_nil]; omega)) only [if_pos, go_sem, Nat.reduceAdd, Nat.reduceMul, Nat.reduceSub]
        exact hK
      case q1 =>
        simp (decide := true) (disch := first | omega | (simp only [List.length_map, List.length_cons, List.length_append, List.length_nil]; omega)) only [if_pos, go_sem, Nat.reduceAdd, Nat.reduceMul, Nat.reduceSub]
        refine ih (i + 1) _ (by omega) hlt ?_
        simp [go_sem, eqAnn, eqIntSt]
    · simp (decide := true) only [go_sem, Nat.reduceAdd, Nat.reduceMul, Nat.reduceSub]
      exact Runs.ret_v
def eqByteSt (L : List Int) (i : Nat) : St := ⟨[.sl .sh (L.map u8A), .sl .sh (L.map u8A), .any, .any, .any, .v (.int .i64 i), .any, .any, .any, .any, .any, .any, .any, .any, .any, .any, .any, .any, .any, .any, .any, .any, .any, .any, .any, .any], [], []⟩
set_option maxRecDepth 10000 in
include hm in
theorem eqByteS (L : List Int) (h3 : L.length ≤ 9223372036854775807) : Holds Try.prog 8 [.sl .sh (L.map u8A), .sl .sh (L.map u8A)] [] (.v (.bool true)) [] := by
  refine holds_of (ann := eqAnn) tabOk hm Try.func8 (by kernel_rfl) rfl ?_
  simp (decide := true) only [Try.f8, go_sem, Nat.reduceAdd, Nat.reduceMul, Nat.reduceSub]
  refine Runs.while (α := Nat) (eqByteSt L) (fun i => L.length - i) (fun i => i ≤ L.length) 0 (by omega) ?_ ?_
  · simp [go_sem, eqAnn, eqByteSt]
  · intro i hi ih
    simp (decide := true) only [eqByteSt, go_sem, Nat.reduceAdd, Nat.reduceMul, Nat.reduceSub]
    refine Runs.split (fun h => ?_) (fun h => ?_)
    · have hlt : i < L.length := by simpa using h
      simp (decide := true) only [go_sem, Nat.reduceAdd, Nat.reduceMul, Nat.reduceSub]
      refine Runs.draw (st1 := ?s1) (draws_by (ann := []) tabOk eqSched (by kernel_rfl) ?p1) ?q1
      case p1 =>
        intro K r X hK
        simp (decide := true) (disch := first | omega | (simp only [List.length_map, List.length_cons, List.length_append, List.length_nil]; omega)) only [if_pos, go_sem, Nat.reduceAdd, Nat.reduceMul, Nat.reduceSub]
        exact hK
      case q1 =>
        simp (decide := true) (disch := first | omega | (simp only [List.length_map, List.length_cons, List.length_append, List.length_nil]; omega)) only [if_pos, go_sem, Nat.reduceAdd, Nat.reduceMul, Nat.reduceSub]
        refine ih (i + 1) _ (by omega) hlt ?_
        simp [go_sem, eqAnn, eqByteSt]
    · simp (decide := true) only [go_sem, Nat.reduceAdd, Nat.reduceMul, Nat.reduceSub]
      exact Runs.ret_v
end Go.Proofs.W

namespace Go.Proofs.W
open Go Go.AM
set_option linter.unusedSimpArgs false
set_option linter.unusedVariables false
variable (hm : Try.prog.follows .mixedOrders = true)

/-- A list of what is void, as it is handed on: shared; held alone. -/
def crlA (I : List ByteArray) (f t a : Int) (S G : List Int) : A := .agg [.sl .sh (I.map strA), .v (.int .i64 f), .v (.int .i64 t), .v (.int .i64 a), .sl .sh (S.map intA), .sl .sh (G.map u8A)]
def crlO (I : List ByteArray) (f t a : Int) (S G : List Int) : A := .agg [.sl (.ow 1) (I.map strA), .v (.int .i64 f), .v (.int .i64 t), .v (.int .i64 a), .sl (.ow 1) (S.map intA), .sl (.ow 1) (G.map u8A)]
attribute [local go_sem] crlA crlO

def crlOk (I : List ByteArray) (f t a : Int) (S G : List Int) : Bool :=
  nameOk I && inB f (-631152000) 4102444799 && inB t (-631152000) 4102444799 && decide (f ≤ t) && inB a 1 4 && decide ((S.length : Int) ≤ 20) && (risesFrom S 1 && S.all fun n => inB n 1 1000000000000000) && inB G.length 1 64

set_option maxRecDepth 10000 in
include hm in
theorem crlOkI (I : List ByteArray) (f t a : Int) (S G : List Int) (h1 : I.length ≤ 9223372036854775807) (h2 : ∀ s ∈ I, s.size ≤ 9223372036854775807) (h3 : S.length ≤ 9223372036854775807) :
    Holds Try.prog 24 [crlA I f t a S G] [] (.v (.bool (crlOk I f t a S G))) [] := by
  refine holds_of (ann := []) tabOk hm Try.func24 (by kernel_rfl) rfl ?_
  simp (decide := true) only [Try.f24, go_sem, Nat.reduceAdd, Nat.reduceMul, Nat.reduceSub]
  refine Runs.call (isName hm I h1 h2) ?_
  simp (decide := true) only [go_sem, Nat.reduceAdd, Nat.reduceMul, Nat.reduceSub]
  refine Runs.split (fun e1 => ?_) (fun e1 => by simp (decide := true) only [crlOk, e1, go_sem, Nat.reduceAdd, Nat.reduceMul, Nat.reduceSub]; exact Runs.ret_v)
  simp (decide := true) only [go_sem, Nat.reduceAdd, Nat.reduceMul, Nat.reduceSub]
  refine Runs.call (isTime hm f) ?_
  simp (decide := true) only [go_sem, Nat.reduceAdd, Nat.reduceMul, Nat.reduceSub]
  refine Runs.split (fun e2 => ?_) (fun e2 => by simp (decide := true) only [crlOk, e1, e2, go_sem, Nat.reduceAdd, Nat.reduceMul, Nat.reduceSub]; exact Runs.ret_v)
  simp (decide := true) only [go_sem, Nat.reduceAdd, Nat.reduceMul, Nat.reduceSub]
  refine Runs.call (isTime hm t) ?_
  simp (decide := true) only [go_sem, Nat.reduceAdd, Nat.reduceMul, Nat.reduceSub]
  refine Runs.split (fun e3 => ?_) (fun e3 => by simp (decide := true) only [crlOk, e1, e2, e3, go_sem, Nat.reduceAdd, Nat.reduceMul, Nat.reduceSub]; exact Runs.ret_v)
  simp (decide := true) only [go_sem, Nat.reduceAdd, Nat.reduceMul, Nat.reduceSub]
  refine Runs.split (fun e4 => ?_) (fun e4 => by simp (decide := true) only [crlOk, e1, e2, e3, e4, go_sem, Nat.reduceAdd, Nat.reduceMul, Nat.reduceSub]; exact Runs.ret_v)
  simp (decide := true) only [go_sem, Nat.reduceAdd, Nat.reduceMul, Nat.reduceSub]
  refine Runs.call (within hm a 1 4) ?_
  simp (decide := true) only [go_sem, Nat.reduceAdd, Nat.reduceMul, Nat.reduceSub]
  refine Runs.split (fun e5 => ?_) (fun e5 => by simp (decide := true) only [crlOk, e1, e2, e3, e4, e5, go_sem, Nat.reduceAdd, Nat.reduceMul, Nat.reduceSub]; exact Runs.ret_v)
  simp (decide := true) only [go_sem, Nat.reduceAdd, Nat.reduceMul, Nat.reduceSub]
  refine Runs.split (fun e6 => ?_) (fun e6 => by simp (decide := true) only [crlOk, e1, e2, e3, e4, e5, e6, go_sem, Nat.reduceAdd, Nat.reduceMul, Nat.reduceSub]; exact Runs.ret_v)
  simp (decide := true) only [go_sem, Nat.reduceAdd, Nat.reduceMul, Nat.reduceSub]
  refine Runs.call (isRising hm S 1 1000000000000000 h3) ?_
  simp (decide := true) only [go_sem, Nat.reduceAdd, Nat.reduceMul, Nat.reduceSub]
  refine Runs.split (fun e7 => ?_) (fun e7 => by simp (decide := true) only [crlOk, e1, e2, e3, e4, e5, e6, e7, go_sem, Nat.reduceAdd, Nat.reduceMul, Nat.reduceSub]; exact Runs.ret_v)
  simp (decide := true) only [go_sem, Nat.reduceAdd, Nat.reduceMul, Nat.reduceSub]
  refine Runs.call (isSig hm (G.map u8A)) ?_
  simp (decide := true) only [crlOk, e1, e2, e3, e4, e5, e6, e7, go_sem, Nat.reduceAdd, Nat.reduceMul, Nat.reduceSub]
  exact Runs.ret_v

/-- What is left of the room. -/
def szCrlV (I : List ByteArray) (S G : List Int) (left : Int) : Int :=
  if szS I left < 0 then -1 else if szI S.length (szS I left) < 0 then -1 else szI G.length (szI S.length (szS I left))



set_option maxRecDepth 10000 in
include hm in
theorem szCrl (I : List ByteArray) (f t a : Int) (S G : List Int) (left : Int) (l1 : 0 ≤ left) (l2 : left ≤ 1048576) (h1 : I.length ≤ 9223372036854775807) (h2 : ∀ s ∈ I, s.size ≤ 9223372036854775807) (h3 : S.length ≤ 9223372036854775807) (h4 : G.length ≤ 9223372036854775807) :
    Holds Try.prog 4 [crlA I f t a S G, .v (.int .i64 left)] [] (.v (.int .i64 (szCrlV I S G left))) [] := by
  have b1 := szS_le I left l1
  refine holds_of (ann := []) tabOk hm Try.func4 (by kernel_rfl) rfl ?_
  simp (decide := true) only [Try.f4, go_sem, Nat.reduceAdd, Nat.reduceMul, Nat.reduceSub]
  refine Runs.call (szStringS hm I left l1 l2 h1 h2) ?_
  simp (decide := true) only [go_sem, Nat.reduceAdd, Nat.reduceMul, Nat.reduceSub]
  refine Runs.split (fun e => ?_) (fun e => ?_)
  · simp only [decide_eq_true_eq] at e
    simp (decide := true) only [szCrlV, if_pos e, go_sem, Nat.reduceAdd, Nat.reduceMul, Nat.reduceSub]
    exact Runs.ret_v
  · simp only [decide_eq_false_iff_not] at e
    simp (decide := true) only [go_sem, Nat.reduceAdd, Nat.reduceMul, Nat.reduceSub]
    refine Runs.call (szIntS hm (S.map intA) (szS I left) (by omega) (by omega) (by simpa using h3)) ?_
    simp (decide := true) only [go_sem, Nat.reduceAdd, Nat.reduceMul, Nat.reduceSub]
    have b2 := szI_le S.length (szS I left) (by omega)
    refine Runs.split (fun e' => ?_) (fun e' => ?_)
    · simp only [decide_eq_true_eq] at e'
      simp (decide := true) only [szCrlV, if_neg e, if_pos e', go_sem, Nat.reduceAdd, Nat.reduceMul, Nat.reduceSub]
      exact Runs.ret_v
    · simp only [decide_eq_false_iff_not] at e'
      simp (decide := true) only [go_sem, Nat.reduceAdd, Nat.reduceMul, Nat.reduceSub]
      refine Runs.call (szByteS hm (G.map u8A) (szI S.length (szS I left)) (by omega) (by omega) (by simpa using h4)) ?_
      simp (decide := true) only [go_sem, Nat.reduceAdd, Nat.reduceMul, Nat.reduceSub]
      have b3 := szI_le G.length (szI S.length (szS I left)) (by omega)
      refine Runs.split (fun e'' => ?_) (fun e'' => ?_)
      · simp only [decide_eq_true_eq] at e''
        have e3 : szI G.length (szI S.length (szS I left)) = -1 := by omega
        simp (decide := true) only [szCrlV, if_neg e, if_neg e', e3, go_sem, Nat.reduceAdd, Nat.reduceMul, Nat.reduceSub]
        exact Runs.ret_v
      · simp (decide := true) only [szCrlV, if_neg e, if_neg e', go_sem, Nat.reduceAdd, Nat.reduceMul, Nat.reduceSub]
        exact Runs.ret_v

set_option maxRecDepth 10000 in
include hm in
theorem toCrl (I : List ByteArray) (f t a : Int) (S G : List Int) (h1 : I.length ≤ 1048576) (h3 : S.length ≤ 1048576) (h4 : G.length ≤ 1048576) :
    Holds Try.prog 6 [crlA I f t a S G] [] (crlO I f t a S G) [] := by
  refine holds_of (ann := []) tabOk hm Try.func6 (by kernel_rfl) rfl ?_
  simp (decide := true) only [Try.f6, go_sem, Nat.reduceAdd, Nat.reduceMul, Nat.reduceSub]
  refine Runs.call (toStringS hm I h1) ?_
  simp (decide := true) only [go_sem, Nat.reduceAdd, Nat.reduceMul, Nat.reduceSub]
  refine Runs.call (toIntS hm S h3) ?_
  simp (decide := true) only [go_sem, Nat.reduceAdd, Nat.reduceMul, Nat.reduceSub]
  refine Runs.call (toByteS hm G h4) ?_
  simp (decide := true) only [go_sem, Nat.reduceAdd, Nat.reduceMul, Nat.reduceSub]
  exact Runs.ret_refl

set_option maxRecDepth 10000 in
include hm in
theorem eqCrl (I : List ByteArray) (f t a : Int) (S G : List Int) (h1 : I.length ≤ 9223372036854775807) (h3 : S.length ≤ 9223372036854775807) (h4 : G.length ≤ 9223372036854775807) :
    Holds Try.prog 9 [crlA I f t a S G, crlA I f t a S G] [] (.v (.bool true)) [] := by
  refine holds_of (ann := []) tabOk hm Try.func9 (by kernel_rfl) rfl ?_
  simp (decide := true) only [Try.f9, go_sem, Nat.reduceAdd, Nat.reduceMul, Nat.reduceSub]
  refine Runs.call (eqStringS hm I h1) ?_
  simp (decide := true) only [go_sem, Nat.reduceAdd, Nat.reduceMul, Nat.reduceSub]
  refine Runs.call (eqIntS hm S h3) ?_
  simp (decide := true) only [go_sem, Nat.reduceAdd, Nat.reduceMul, Nat.reduceSub]
  refine Runs.call (eqByteS hm G h4) ?_
  simp (decide := true) only [go_sem, Nat.reduceAdd, Nat.reduceMul, Nat.reduceSub]
  exact Runs.ret_v

/-- A place of the list is in its bounds, and greater than the one before it. -/
def stepOk (S : List Int) (i : Nat) : Bool := inB (S.getD i 0) 1 1000000000000000 && (decide (i = 0) || decide (S.getD (i - 1) 0 < S.getD i 0))
def stepsOk (S : List Int) (i : Nat) : Bool := (List.range' i (S.length - i)).all (stepOk S)
theorem stepsOk_succ {S : List Int} {i : Nat} (h : i < S.length) : stepsOk S i = (stepOk S i && stepsOk S (i + 1)) := by
  unfold stepsOk
  obtain ⟨k, hk⟩ : ∃ k, S.length - i = k + 1 := ⟨S.length - i - 1, by omega⟩
  rw [hk, List.range'_succ, List.all_cons, show S.length - (i + 1) = k by omega]
theorem stepsOk_end {S : List Int} {i : Nat} (h : S.length ≤ i) : stepsOk S i = true := by
  unfold stepsOk
  rw [show S.length - i = 0 by omega]; rfl
theorem stepsOk_eq (S : List Int) : stepsOk S 0 = (risesFrom S 1 && S.all fun n => inB n 1 1000000000000000) := by
  rw [Bool.eq_iff_iff]
  simp only [stepsOk, risesFrom, Bool.and_eq_true, List.all_eq_true, List.mem_range'_1, stepOk, Bool.or_eq_true, decide_eq_true_eq]
  constructor
  · intro h
    refine ⟨fun j hj => ?_, fun n hn => ?_⟩
    · rcases (h j ⟨by omega, by omega⟩).2 with e | e
      · omega
      · exact e
    · obtain ⟨j, hj, rfl⟩ := List.getElem_of_mem hn
      have := (h j ⟨by omega, by omega⟩).1
      simpa [List.getD, hj] using this
  · rintro ⟨h1, h2⟩ j ⟨-, hj⟩
    have hj' : j < S.length := by omega
    refine ⟨?_, ?_⟩
    · have := h2 S[j] (List.getElem_mem hj')
      simpa [List.getD, hj'] using this
    · rcases Nat.eq_zero_or_pos j with e | e
      · exact .inl e
      · exact .inr (h1 j ⟨by omega, by omega⟩)

def ann5 : Ann := [(0, [1, 3])]
def st5 (I : List ByteArray) (f t a : Int) (S G : List Int) (i : Nat) : St := ⟨[.any, .ref (.l 0) 0 0 1, .any, .v (.int .i64 i), .any, .any, .any, .any, .any, .any, .any, .any, .any, .any, .any, .any, .any, .any, .any, .any, .any, .any, .any, .any, .any, .any, .any, .any, .any, .any, .any, .any, .any, .any, .any, .any, .any, .any, .any, .any, .any, .any, .any, .any, .any, .any, .any, .any, .any, .any, .any, .any, .any, .any, .any, .any, .any, .any, .any, .any, .any, .any, .any, .any, .any, .any, .any, .any, .any, .any, .any, .any, .any], [(0, ⟨true, 6, true, [crlA I f t a S G]⟩)], []⟩
def sched5 : Sched := .take 0 (.take 2 (.alt 1 (.take 3 (.alt 4 (.alt 5 (.take 6 (.take 7 (.take 8 (.take 9 (.take 10 (.take 11 (.take 13 (.take 14 (.take 17 (.take 19 (.alt 12 (.take 15 (.alt 16 (.alt 18 (.take 20 (.alt 21 (.take 22 (.take 23 (.take 24 .fin))) .nil)) .nil) (.alt 18 (.take 20 (.alt 16 (.alt 21 (.take 22 (.take 23 (.take 24 .fin))) .nil) (.alt 21 (.alt 16 (.take 22 (.take 23 (.take 24 .fin))) .nil) .nil))) .nil))) (.alt 18 (.take 20 (.alt 12 (.take 15 (.alt 16 (.alt 21 (.take 22 (.take 23 (.take 24 .fin))) .nil) (.alt 21 (.alt 16 (.take 22 (.take 23 (.take 24 .fin))) .nil) .nil))) (.alt 21 (.alt 12 (.take 15 (.alt 16 (.take 22 (.take 23 (.take 24 .fin))) .nil)) .nil) .nil))) .nil)))))))))))) .nil) .nil)) .nil))
attribute [local go_sem] sched5

set_option maxRecDepth 10000 in
include hm in
theorem crlOkS (I : List ByteArray) (f t a : Int) (S G : List Int) (h1 : I.length ≤ 9223372036854775807) (h2 : ∀ s ∈ I, s.size ≤ 9223372036854775807) (h3 : S.length ≤ 9223372036854775807) :
    Holds Try.prog 16 [crlA I f t a S G] [] (.v (.bool (crlOk I f t a S G))) [] := by
  refine holds_of (ann := ann5) tabOk hm Try.func16 (by kernel_rfl) rfl ?_
  simp (decide := true) only [Try.f16, go_sem, Nat.reduceAdd, Nat.reduceMul, Nat.reduceSub]
  refine Runs.while (α := Nat) (st5 I f t a S G) (fun i => S.length - i) (fun i => i ≤ S.length ∧ stepsOk S i = stepsOk S 0) 0 ⟨by omega, rfl⟩ ?_ ?_
  · simp [go_sem, ann5, st5]
  · rintro i ⟨hi1, hr⟩ ih
    simp (decide := true) (disch := first | omega | (simp only [List.length_map, List.length_cons, List.length_append, List.length_nil]; omega)) only [st5, if_pos, go_sem, Nat.reduceAdd, Nat.reduceMul, Nat.reduceSub]
    refine Runs.split (fun h => ?_) (fun h => ?_)
    · have hlt : i < S.length := by simpa using h
      rw [stepsOk_succ hlt] at hr
      have hg : S.getD i 0 = S[i] := by simp [List.getD, hlt]
      simp (decide := true) only [go_sem, Nat.reduceAdd, Nat.reduceMul, Nat.reduceSub]
      have stop : stepOk S i = false → crlOk I f t a S G = false := fun e => by
        rw [crlOk, ← stepsOk_eq, ← hr, e]; simp
      cases hb : inB S[i] 1 1000000000000000 with
      | false =>
        refine Runs.draw (st1 := ?s1) (draws_by (ann := []) tabOk sched5 (by kernel_rfl) ?p1) ?q1
        case p1 =>
          intro K r X hK
          simp (decide := true) (disch := first | omega | (simp only [List.length_map, List.length_cons, List.length_append, List.length_nil]; omega)) only [if_pos, go_sem, Nat.reduceAdd, Nat.reduceMul, Nat.reduceSub]
          refine Runs.call (l1In hm _ 1 _) ?_
          simp (decide := true) (disch := first | omega | (simp only [List.length_map, List.length_cons, List.length_append, List.length_nil]; omega)) only [hb, if_pos, go_sem, Nat.reduceAdd, Nat.reduceMul, Nat.reduceSub]
          exact hK
        case q1 =>
          have e : crlOk I f t a S G = false := stop (by rw [stepOk, hg, hb, Bool.false_and])
          simp (decide := true) (disch := first | omega | (simp only [List.length_map, List.length_cons, List.length_append, List.length_nil]; omega)) only [e, if_pos, go_sem, Nat.reduceAdd, Nat.reduceMul, Nat.reduceSub]
          exact Runs.ret_v
      | true =>
        rcases Nat.eq_zero_or_pos i with rfl | h0
        · refine Runs.draw (st1 := ?s2) (draws_by (ann := []) tabOk sched5 (by kernel_rfl) ?p2) ?q2
          case p2 =>
            intro K r X hK
            simp (decide := true) (disch := first | omega | (simp only [List.length_map, List.length_cons, List.length_append, List.length_nil]; omega)) only [if_pos, go_sem, Nat.reduceAdd, Nat.reduceMul, Nat.reduceSub]
            refine Runs.call (l1In hm _ 1 _) ?_
            simp (decide := true) (disch := first | omega | (simp only [List.length_map, List.length_cons, List.length_append, List.length_nil]; omega)) only [hb, Int.natCast_zero, gt_iff_lt, Int.lt_irrefl, if_pos, go_sem, Nat.reduceAdd, Nat.reduceMul, Nat.reduceSub]
            exact hK
          case q2 =>
            have e : stepOk S 0 = true := by rw [stepOk, hg, hb]; rfl
            rw [e, Bool.true_and] at hr
            simp (decide := true) (disch := first | omega | (simp only [List.length_map, List.length_cons, List.length_append, List.length_nil]; omega)) only [if_pos, go_sem, Nat.reduceAdd, Nat.reduceMul, Nat.reduceSub]
            refine ih 1 _ (by omega) ⟨by omega, hr⟩ ?_
            simp [go_sem, ann5, st5]
        · have hd : decide ((i : Int) > 0) = true := by simp; omega
          have ht : ((i : Int) - 1).toNat = i - 1 := by omega
          have hg1 : (S.map intA).getD (i - 1) .any = .v (.int .i64 (S.getD (i - 1) 0)) := by simp [List.getD, show i - 1 < S.length by omega, intA]
          refine Runs.draw (st1 := ?s3) (draws_by (ann := []) tabOk sched5 (by kernel_rfl) ?p3) ?q3
          case p3 =>
            intro K r X hK
            simp (decide := true) (disch := first | omega | (simp only [List.length_map, List.length_cons, List.length_append, List.length_nil]; omega)) only [if_pos, go_sem, Nat.reduceAdd, Nat.reduceMul, Nat.reduceSub]
            refine Runs.call (l1In hm _ 1 _) ?_
            simp (decide := true) (disch := first | omega | (simp only [List.length_map, List.length_cons, List.length_append, List.length_nil]; omega)) only [hb, hd, ht, hg1, if_pos, go_sem, Nat.reduceAdd, Nat.reduceMul, Nat.reduceSub]
            exact hK
          case q3 =>
            simp (decide := true) (disch := first | omega | (simp only [List.length_map, List.length_cons, List.length_append, List.length_nil]; omega)) only [if_pos, go_sem, Nat.reduceAdd, Nat.reduceMul, Nat.reduceSub]
            refine Runs.split (fun h => ?_) (fun h => ?_)
            · have e : crlOk I f t a S G = false := stop (by
                simp only [decide_eq_true_eq] at h
                rw [stepOk, hg, hb, decide_eq_false (by omega), decide_eq_false (by omega)]; rfl)
              simp (decide := true) (disch := first | omega | (simp only [List.length_map, List.length_cons, List.length_append, List.length_nil]; omega)) only [e, if_pos, go_sem, Nat.reduceAdd, Nat.reduceMul, Nat.reduceSub]
              exact Runs.ret_v
            · have e : stepOk S i = true := by
                simp only [decide_eq_false_iff_not] at h
                rw [stepOk, hg, hb, decide_eq_true (p := _ < _) (by omega), Bool.or_true]; rfl
              rw [e, Bool.true_and] at hr
              simp (decide := true) (disch := first | omega | (simp only [List.length_map, List.length_cons, List.length_append, List.length_nil]; omega)) only [if_pos, go_sem, Nat.reduceAdd, Nat.reduceMul, Nat.reduceSub]
              refine ih (i + 1) _ (by omega) ⟨by omega, hr⟩ ?_
              simp [go_sem, ann5, st5]
    · have hge : i = S.length := by simp at h; omega
      rw [stepsOk_end (by omega), stepsOk_eq] at hr
      simp (decide := true) only [go_sem, Nat.reduceAdd, Nat.reduceMul, Nat.reduceSub]
      refine Runs.call (l10Name hm I h1 h2) ?_
      simp (decide := true) only [go_sem, Nat.reduceAdd, Nat.reduceMul, Nat.reduceSub]
      refine Runs.split (fun e1 => ?_) (fun e1 => by simp (decide := true) only [crlOk, e1, go_sem, Nat.reduceAdd, Nat.reduceMul, Nat.reduceSub]; exact Runs.ret_v)
      simp (decide := true) only [go_sem, Nat.reduceAdd, Nat.reduceMul, Nat.reduceSub]
      refine Runs.call (l9Ok hm f) ?_
      simp (decide := true) only [go_sem, Nat.reduceAdd, Nat.reduceMul, Nat.reduceSub]
      refine Runs.split (fun e2 => ?_) (fun e2 => by simp (decide := true) only [crlOk, e1, e2, go_sem, Nat.reduceAdd, Nat.reduceMul, Nat.reduceSub]; exact Runs.ret_v)
      simp (decide := true) only [go_sem, Nat.reduceAdd, Nat.reduceMul, Nat.reduceSub]
      refine Runs.call (l9Ok hm t) ?_
      simp (decide := true) only [go_sem, Nat.reduceAdd, Nat.reduceMul, Nat.reduceSub]
      refine Runs.split (fun e3 => ?_) (fun e3 => by simp (decide := true) only [crlOk, e1, e2, e3, go_sem, Nat.reduceAdd, Nat.reduceMul, Nat.reduceSub]; exact Runs.ret_v)
      simp (decide := true) only [go_sem, Nat.reduceAdd, Nat.reduceMul, Nat.reduceSub]
      refine Runs.split (fun e4 => ?_) (fun e4 => by simp (decide := true) only [crlOk, e1, e2, e3, e4, go_sem, Nat.reduceAdd, Nat.reduceMul, Nat.reduceSub]; exact Runs.ret_v)
      simp (decide := true) only [go_sem, Nat.reduceAdd, Nat.reduceMul, Nat.reduceSub]
      refine Runs.call (l1In hm a 1 4) ?_
      simp (decide := true) only [go_sem, Nat.reduceAdd, Nat.reduceMul, Nat.reduceSub]
      refine Runs.split (fun e5 => ?_) (fun e5 => by simp (decide := true) only [crlOk, e1, e2, e3, e4, e5, go_sem, Nat.reduceAdd, Nat.reduceMul, Nat.reduceSub]; exact Runs.ret_v)
      simp (decide := true) only [go_sem, Nat.reduceAdd, Nat.reduceMul, Nat.reduceSub]
      refine Runs.split (fun e6 => ?_) (fun e6 => by simp (decide := true) only [crlOk, e1, e2, e3, e4, e5, e6, go_sem, Nat.reduceAdd, Nat.reduceMul, Nat.reduceSub]; exact Runs.ret_v)
      simp (decide := true) only [go_sem, Nat.reduceAdd, Nat.reduceMul, Nat.reduceSub]
      refine Runs.call (l1In hm G.length 1 64) ?_
      simp (decide := true) only [crlOk, e1, e2, e3, e4, e5, e6, ← hr, go_sem, Nat.reduceAdd, Nat.reduceMul, Nat.reduceSub]
      exact Runs.ret_v
end Go.Proofs.W

namespace Go.Proofs.W
open Go Go.AM
set_option linter.unusedSimpArgs false
set_option linter.unusedVariables false
variable (hm : Try.prog.follows .mixedOrders = true)
attribute [local go_sem] crlA

def tail13 (I : List ByteArray) (f t a : Int) (S : List Int) : List It :=
  intI a :: ⟨48, [], I.length⟩ :: (I.map (txtI 12) ++ ⟨48, [], 2⟩ :: timeI f :: timeI t :: ⟨48, [], S.length⟩ :: S.map intI)
/-- The items of a list of what is void, but for its signature. -/
def tree13 (I : List ByteArray) (f t a : Int) (S : List Int) : List It :=
  ⟨48, [], 4⟩ :: tail13 I f t a S
def t13a : Sched := .take 0 (.take 3 (.take 6 (.ld 1 (.ld 4 (.take 5 (.ld 7 (.alt 2 (.alt 8 (.alt 9 (.alt 10 (.take 11 .fin) .nil) .nil) .nil) .nil)))))))
def t13b : Sched := .take 0 (.take 1 (.take 4 (.ld 2 (.ld 5 (.alt 3 (.alt 6 (.alt 7 (.alt 8 (.alt 9 (.take 10 .fin) .nil) .nil) .nil) .nil) .nil)))))
def t13c : Sched := .take 0 (.take 1 (.take 4 (.ld 2 (.take 3 (.ld 5 (.alt 6 (.alt 7 (.alt 8 (.alt 9 (.take 10 .fin) .nil) .nil) .nil) .nil))))))
attribute [local go_sem] t13a t13b t13c
set_option maxRecDepth 10000 in
include hm in
theorem l13Tree (I : List ByteArray) (f t a : Int) (S G : List Int) (h1 : I.length ≤ 1000) (h2 : ∀ s ∈ I, s.size ≤ 1073741824) (h3 : S.length ≤ 1000) (h4 : ∀ n ∈ S, -9223372036854775808 ≤ n ∧ n < 9223372036854775808) (ha : -9223372036854775808 ≤ a ∧ a < 9223372036854775808) :
    Holds Try.prog 19 [crlA I f t a S G] [] (.sl (.ow 3) ((tree13 I f t a S).map itemO)) [] := by
  refine holds_ref (ann := []) tabOk hm (byL [] [18, 1000001]) Try.func19 (by kernel_rfl) rfl ?_
  simp (decide := true) only [Try.f19, go_sem, Nat.reduceAdd, Nat.reduceMul, Nat.reduceSub]
  refine Runs.draw (st1 := ?s1) (draws_ref (ann := []) tabOk (byL [] [18, 1000001]) t13a (by kernel_rfl) ?p1) ?q1
  case p1 =>
    intro K r X hK
    simp (decide := true) only [go_sem, Nat.reduceAdd, Nat.reduceMul, Nat.reduceSub]
    refine Runs.call (l10Int hm a ha.1 ha.2) ?_
    simp (decide := true) only [go_sem, Nat.reduceAdd, Nat.reduceMul, Nat.reduceSub]
    refine Runs.call (l10Texts hm 12 I (by omega) h2) ?_
    simp (decide := true) only [go_sem, Nat.reduceAdd, Nat.reduceMul, Nat.reduceSub]
    refine Runs.call (l10Made hm 48 I.length (I.map (txtI 12)) (by simp; omega)) ?_
    simp (decide := true) (disch := first | omega | (simp only [List.length_map, List.length_cons, List.length_append, List.length_nil]; omega)) only [if_pos, go_sem, Nat.reduceAdd, Nat.reduceMul, Nat.reduceSub]
    exact hK
  case q1 =>
    simp (decide := true) only [go_sem, Nat.reduceAdd, Nat.reduceMul, Nat.reduceSub]
    refine Runs.draw (st1 := ?s2) (draws_ref (ann := []) tabOk (byL [] [18, 1000001]) t13b (by kernel_rfl) ?p2) ?q2
    case p2 =>
      intro K r X hK
      simp (decide := true) only [go_sem, Nat.reduceAdd, Nat.reduceMul, Nat.reduceSub]
      refine Runs.call (l10Time hm f) ?_
      simp (decide := true) only [go_sem, Nat.reduceAdd, Nat.reduceMul, Nat.reduceSub]
      refine Runs.call (l10Time hm t) ?_
      simp (decide := true) only [go_sem, Nat.reduceAdd, Nat.reduceMul, Nat.reduceSub]
      refine Runs.call (l10Made hm 48 2 [timeI f, timeI t] (by simp)) ?_
      simp (decide := true) (disch := first | omega | (simp only [List.length_map, List.length_cons, List.length_append, List.length_nil]; omega)) only [if_pos, go_sem, Nat.reduceAdd, Nat.reduceMul, Nat.reduceSub]
      exact hK
    case q2 =>
      simp (decide := true) only [go_sem, Nat.reduceAdd, Nat.reduceMul, Nat.reduceSub]
      refine Runs.draw (st1 := ?s3) (draws_ref (ann := []) tabOk (byL [] [18, 1000001]) t13c (by kernel_rfl) ?p3) ?q3
      case p3 =>
        intro K r X hK
        simp (decide := true) only [go_sem, Nat.reduceAdd, Nat.reduceMul, Nat.reduceSub]
        refine Runs.call (l10Ints hm S (by omega) h4) ?_
        simp (decide := true) only [go_sem, Nat.reduceAdd, Nat.reduceMul, Nat.reduceSub]
        refine Runs.call (l10Made hm 48 S.length (S.map intI) (by simp; omega)) ?_
        simp (decide := true) (disch := first | omega | (simp only [List.length_map, List.length_cons, List.length_append, List.length_nil]; omega)) only [if_pos, go_sem, Nat.reduceAdd, Nat.reduceMul, Nat.reduceSub]
        refine Runs.call' (as' := [.v (.int .i64 48), .v (.int .i64 4), .sl (.ow 3) ((tail13 I f t a S).map itemO)]) ?_ (l10Made hm 48 4 (tail13 I f t a S) (by simp [tail13]; omega)) ?_
        · simp [tail13, mdL_append, md_itemO, intI, mdL, md1_itemO, -List.map_map]
        · simp (decide := true) (disch := first | omega | (simp only [List.length_map, List.length_cons, List.length_append, List.length_nil]; omega)) only [if_pos, go_sem, Nat.reduceAdd, Nat.reduceMul, Nat.reduceSub]
          exact hK
      case q3 =>
        simp (decide := true) (disch := first | omega | (simp only [List.length_map, List.length_cons, List.length_append, List.length_nil]; omega)) only [tree13, if_pos, go_sem, Nat.reduceAdd, Nat.reduceMul, Nat.reduceSub]
        exact Runs.ret_refl
end Go.Proofs.W

namespace Go.Proofs.W
open Go Go.AM
set_option linter.unusedSimpArgs false
set_option linter.unusedVariables false
variable (hm : Try.prog.follows .mixedOrders = true)
attribute [local go_sem] crlA

def crlN (I : List ByteArray) (f t a : Int) (S : List Int) : Nd :=
  .mk 48 [] [intN a, .mk 48 [] (I.map (txtN 12)), .mk 48 [] [timeN f, timeN t], .mk 48 [] (S.map intN)]
def cNs : Sched := .take 0 (.take 3 (.take 7 (.take 10 (.take 15 (.ld 1 (.ld 4 (.ld 8 (.ld 11 (.ld 16 (.alt 2 (.alt 5 (.alt 6 (.alt 9 (.alt 12 (.alt 13 (.alt 14 (.alt 17 (.alt 18 (.alt 19 (.alt 20 (.alt 21 .fin .nil) .nil) .nil) .nil) .nil) .nil) .nil) .nil) .nil) .nil) .nil) .nil))))))))))
attribute [local go_sem] cNs
set_option maxRecDepth 10000 in
include hm in
theorem crlNode (I : List ByteArray) (f t a : Int) (S G : List Int) (h1 : I.length ≤ 1000) (h2 : ∀ s ∈ I, s.size ≤ 1073741824) (h3 : S.length ≤ 1000) (h4 : ∀ n ∈ S, -9223372036854775808 ≤ n ∧ n < 9223372036854775808) (ha : -9223372036854775808 ≤ a ∧ a < 9223372036854775808) :
    Holds Try.prog 27 [crlA I f t a S G] [] (nodeO (crlN I f t a S)) [] := by
  refine holds_ref (ann := []) tabOk hm (byL [] [26, 1000001]) Try.func27 (by kernel_rfl) rfl ?_
  simp (decide := true) only [Try.f27, go_sem, Nat.reduceAdd, Nat.reduceMul, Nat.reduceSub]
  refine Runs.draw (st1 := ?s1) (draws_ref (ann := []) tabOk (byL [] [26, 1000001]) cNs (by kernel_rfl) ?p1) ?q1
  case p1 =>
    intro K r X hK
    simp (decide := true) only [nodeO, nodesO, go_sem, Nat.reduceAdd, Nat.reduceMul, Nat.reduceSub]
    refine Runs.call (integer hm a ha.1 ha.2) ?_
    simp (decide := true) only [nodeO, nodesO, go_sem, Nat.reduceAdd, Nat.reduceMul, Nat.reduceSub]
    refine Runs.call (texts hm 12 I (by omega) h2) ?_
    simp (decide := true) only [nodeO, nodesO, go_sem, Nat.reduceAdd, Nat.reduceMul, Nat.reduceSub]
    refine Runs.call (listN hm 48 (I.map (txtN 12))) ?_
    simp (decide := true) only [nodeO, nodesO, go_sem, Nat.reduceAdd, Nat.reduceMul, Nat.reduceSub]
    refine Runs.call (timeNode hm f) ?_
    simp (decide := true) only [nodeO, nodesO, go_sem, Nat.reduceAdd, Nat.reduceMul, Nat.reduceSub]
    refine Runs.call (timeNode hm t) ?_
    simp (decide := true) (disch := first | omega | (simp only [List.length_map, List.length_cons, List.length_append, List.length_nil]; omega)) only [nodeO, nodesO, if_pos, go_sem, Nat.reduceAdd, Nat.reduceMul, Nat.reduceSub]
    refine Runs.call' (as' := [.v (.int .i64 48), .sl (.ow 3) (nodesO [timeN f, timeN t])]) (by simp [nodeO, nodesO, timeN]) (listN hm 48 [timeN f, timeN t]) ?_
    simp (decide := true) only [nodeO, nodesO, go_sem, Nat.reduceAdd, Nat.reduceMul, Nat.reduceSub]
    refine Runs.call (integers hm S (by omega) h4) ?_
    simp (decide := true) only [nodeO, nodesO, go_sem, Nat.reduceAdd, Nat.reduceMul, Nat.reduceSub]
    refine Runs.call (listN hm 48 (S.map intN)) ?_
    simp (decide := true) (disch := first | omega | (simp only [List.length_map, List.length_cons, List.length_append, List.length_nil]; omega)) only [nodeO, nodesO, if_pos, go_sem, Nat.reduceAdd, Nat.reduceMul, Nat.reduceSub]
    refine Runs.call' (as' := [.v (.int .i64 48), .sl (.ow 3) (nodesO [intN a, .mk 48 [] (I.map (txtN 12)), .mk 48 [] [timeN f, timeN t], .mk 48 [] (S.map intN)])]) (by simp [nodeO, nodesO, timeN, intN, tk_nodesO, md_nodesO]) (listN hm 48 [intN a, .mk 48 [] (I.map (txtN 12)), .mk 48 [] [timeN f, timeN t], .mk 48 [] (S.map intN)]) ?_
    simp (decide := true) (disch := first | omega | (simp only [List.length_map, List.length_cons, List.length_append, List.length_nil]; omega)) only [nodeO, nodesO, if_pos, go_sem, Nat.reduceAdd, Nat.reduceMul, Nat.reduceSub]
    exact hK
  case q1 =>
    simp (decide := true) (disch := first | omega | (simp only [List.length_map, List.length_cons, List.length_append, List.length_nil]; omega)) only [crlN, nodeO, nodesO, intN, timeN, if_pos, go_sem, Nat.reduceAdd, Nat.reduceMul, Nat.reduceSub]
    exact Runs.ret_refl
end Go.Proofs.W

namespace Go.Proofs.W
open Go Go.AM
set_option linter.unusedSimpArgs false
set_option linter.unusedVariables false
variable (hm : Try.prog.follows .mixedOrders = true)

/-- Step over `k` items, one behind the other. -/
def iterO (f : Nat → Option Nat) : Nat → Nat → Option Nat
  | 0, n => some n
  | k + 1, n => match f n with
    | some m => iterO f k m
    | none => none
/-- The place behind the item at `at`, with all that is in it. -/
def endP (L : List It) : Nat → Nat → Option Nat
  | 0, _ => none
  | d + 1, i => match L[i]? with
    | some x => iterO (endP L d) x.kids.toNat (i + 1)
    | none => none
def endI : Option Nat → Int
  | some n => n
  | none => -1
theorem iterO_le {f : Nat → Option Nat} {m : Nat} (hf : ∀ i n, f i = some n → i < n ∧ n ≤ m) : ∀ k i n, i ≤ m → iterO f k i = some n → i ≤ n ∧ n ≤ m
  | 0, i, n, hi, h => by simp [iterO] at h; omega
  | k + 1, i, n, hi, h => by
    simp only [iterO] at h
    cases e : f i with
    | none => rw [e] at h; simp at h
    | some j =>
      rw [e] at h
      have h1 := hf i j e
      have h2 := iterO_le hf k j n (by omega) h
      omega
theorem endP_le {L : List It} : ∀ d i n, endP L d i = some n → i < n ∧ n ≤ L.length
  | 0, i, n, h => by simp [endP] at h
  | d + 1, i, n, h => by
    simp only [endP] at h
    cases e : L[i]? with
    | none => rw [e] at h; simp at h
    | some x =>
      rw [e] at h
      have hlt : i < L.length := (List.getElem?_eq_some_iff.1 e).1
      have := iterO_le (fun i n => endP_le d i n) _ (i + 1) n (by omega) h
      omega
theorem endP_none {L : List It} {d i : Nat} (h : L.length ≤ i) : endP L d i = none := by
  cases d with
  | zero => rfl
  | succ d => rw [endP, List.getElem?_eq_none h]
theorem endP_some {L : List It} {d i : Nat} (h : i < L.length) : endP L (d + 1) i = iterO (endP L d) L[i].kids.toNat (i + 1) := by
  rw [endP, List.getElem?_eq_getElem h]
theorem getItem {L : List It} {i : Nat} (h : i < L.length) : (L.map itemS).getD i .any = .agg [.v (.int .i64 L[i].tag), .sl .sh (L[i].body.map u8A), .v (.int .i64 L[i].kids)] := by
  simp [List.getD, h, itemS]
def kidsOk (L : List It) : Prop := ∀ x ∈ L, 0 ≤ x.kids ∧ x.kids ≤ 300

def eAnn : Ann := [(0, [0, 1, 2, 7, 8])]
def eSt (L : List It) (i : Nat) (d : Nat) (p : Nat × Nat) : St := ⟨[.sl .sh (L.map itemS), .v (.int .i64 i), .v (.int .i64 d), .any, .any, .any, .any, .v (.int .i64 p.2), .v (.int .i64 p.1), .any, .any, .any, .any, .any, .any, .any, .any, .any, .any, .any, .any, .any, .any, .any, .any, .any, .any, .any, .any, .any, .any, .any, .any, .any, .any, .any], [], []⟩
set_option maxRecDepth 10000 in
include hm in
theorem l7End (L : List It) (hk : kidsOk L) (hl : L.length ≤ 1000000) : ∀ (d i e : Nat), d + e = 13 → i ≤ L.length → Holds Try.prog 59 [.sl .sh (L.map itemS), .v (.int .i64 i), .v (.int .i64 e)] [] (.v (.int .i64 (endI (endP L d i)))) [] := by
  intro d
  induction d with
  | zero =>
    intro i e hd hi
    have he : e = 13 := by omega
    subst he
    refine holds_of (ann := eAnn) tabOk hm Try.func59 (by kernel_rfl) rfl ?_
    simp (decide := true) only [Try.f59, go_sem, Nat.reduceAdd, Nat.reduceMul, Nat.reduceSub]
    refine Runs.split (fun h => ?_) (fun h => ?_)
    · simp (decide := true) only [go_sem, Nat.reduceAdd, Nat.reduceMul, Nat.reduceSub]
      exact Runs.ret_v
    · simp (decide := true) (disch := first | omega | (simp only [List.length_map, List.length_cons, List.length_append, List.length_nil]; omega)) only [if_pos, go_sem, Nat.reduceAdd, Nat.reduceMul, Nat.reduceSub]
      exact Runs.ret_v
  | succ d IH =>
    intro i e hd hi
    refine holds_of (ann := eAnn) tabOk hm Try.func59 (by kernel_rfl) rfl ?_
    simp (decide := true) only [Try.f59, go_sem, Nat.reduceAdd, Nat.reduceMul, Nat.reduceSub]
    refine Runs.split (fun h => ?_) (fun h => ?_)
    · have hge : L.length ≤ i := by simpa using h
      simp (decide := true) only [endP_none hge, endI, go_sem, Nat.reduceAdd, Nat.reduceMul, Nat.reduceSub]
      exact Runs.ret_v
    · have hlt : i < L.length := by simpa using h
      have hd : decide ((12 : Int) < (e : Int)) = false := by simp; omega
      obtain ⟨k1, k2⟩ := hk L[i] (List.getElem_mem hlt)
      simp (decide := true) (disch := first | omega | (simp only [List.length_map, List.length_cons, List.length_append, List.length_nil]; omega)) only [hd, if_pos, go_sem, Nat.reduceAdd, Nat.reduceMul, Nat.reduceSub]
      refine Runs.while (α := Nat × Nat) (eSt L i e) (fun p => 300 - p.1) (fun p => p.1 ≤ L[i].kids.toNat ∧ p.2 ≤ L.length ∧ iterO (endP L d) (L[i].kids.toNat - p.1) p.2 = endP L (d + 1) i) (0, i + 1) ⟨by omega, by omega, by rw [endP_some hlt]; rfl⟩ ?_ ?_
      · simp [go_sem, eAnn, eSt]
      · rintro ⟨j, n⟩ ⟨hj, hn, hr⟩ ih
        simp only at hj hn hr
        simp (decide := true) (disch := first | omega | (simp only [List.length_map, List.length_cons, List.length_append, List.length_nil]; omega)) only [eSt, getItem hlt, if_pos, go_sem, Nat.reduceAdd, Nat.reduceMul, Nat.reduceSub]
        refine Runs.split (fun h => ?_) (fun h => ?_)
        · have hjk : (j : Int) < L[i].kids := by simpa using h
          have e1 : L[i].kids.toNat - j = L[i].kids.toNat - (j + 1) + 1 := by omega
          simp (decide := true) (disch := first | omega | (simp only [List.length_map, List.length_cons, List.length_append, List.length_nil]; omega)) only [if_pos, go_sem, Nat.reduceAdd, Nat.reduceMul, Nat.reduceSub]
          refine Runs.call (IH n (e + 1) (by omega) hn) ?_
          rw [e1, iterO] at hr
          cases e2 : endP L d n with
          | none =>
            rw [e2] at hr
            simp (decide := true) only [endI, ← hr, go_sem, Nat.reduceAdd, Nat.reduceMul, Nat.reduceSub]
            exact Runs.ret_v
          | some n' =>
            rw [e2] at hr
            have := endP_le _ _ _ e2
            simp (decide := true) only [endI, go_sem, Nat.reduceAdd, Nat.reduceMul, Nat.reduceSub]
            refine Runs.split (fun h => ?_) (fun h => ?_)
            · simp at h; omega
            · simp (decide := true) (disch := first | omega | (simp only [List.length_map, List.length_cons, List.length_append, List.length_nil]; omega)) only [if_pos, go_sem, Nat.reduceAdd, Nat.reduceMul, Nat.reduceSub]
              refine ih (j + 1, n') _ (by simp only; omega) ⟨by simp only; omega, by simp only; omega, hr⟩ ?_
              simp [go_sem, eAnn, eSt]
        · have hjk : ¬ (j : Int) < L[i].kids := by simpa using h
          have e1 : L[i].kids.toNat - j = 0 := by omega
          rw [e1, iterO] at hr
          simp (decide := true) only [← hr, endI, go_sem, Nat.reduceAdd, Nat.reduceMul, Nat.reduceSub]
          exact Runs.ret_v
def kAnn : Ann := [(0, [0, 1, 2, 7, 22, 23])]
def kSt (L : List It) (i : Nat) (d : Nat) (k : Int) (p : Nat × Nat) : St := ⟨[.sl .sh (L.map itemS), .v (.int .i64 i), .v (.int .i64 d), .any, .any, .any, .any, .v (.int .i64 p.2), .any, .any, .any, .any, .any, .any, .any, .any, .any, .any, .any, .any, .any, .any, .v (.int .i64 k), .v (.int .i64 p.1), .any, .any, .any, .any, .any, .any, .any, .any, .any, .any], [], []⟩
set_option maxRecDepth 10000 in
include hm in
theorem skip (L : List It) (hk : kidsOk L) (hl : L.length ≤ 1000000) : ∀ (d i e : Nat), d + e = 13 → i ≤ L.length → Holds Try.prog 69 [.sl .sh (L.map itemS), .v (.int .i64 i), .v (.int .i64 e)] [] (.v (.int .i64 (endI (endP L d i)))) [] := by
  intro d
  induction d with
  | zero =>
    intro i e hd hi
    have he : e = 13 := by omega
    subst he
    refine holds_of (ann := kAnn) tabOk hm Try.func69 (by kernel_rfl) rfl ?_
    simp (decide := true) only [Try.f69, go_sem, Nat.reduceAdd, Nat.reduceMul, Nat.reduceSub]
    refine Runs.split (fun h => ?_) (fun h => ?_)
    · simp (decide := true) only [go_sem, Nat.reduceAdd, Nat.reduceMul, Nat.reduceSub]
      exact Runs.ret_v
    · simp (decide := true) (disch := first | omega | (simp only [List.length_map, List.length_cons, List.length_append, List.length_nil]; omega)) only [if_pos, go_sem, Nat.reduceAdd, Nat.reduceMul, Nat.reduceSub]
      exact Runs.ret_v
  | succ d IH =>
    intro i e hd hi
    refine holds_of (ann := kAnn) tabOk hm Try.func69 (by kernel_rfl) rfl ?_
    simp (decide := true) only [Try.f69, go_sem, Nat.reduceAdd, Nat.reduceMul, Nat.reduceSub]
    refine Runs.split (fun h => ?_) (fun h => ?_)
    · have hge : L.length ≤ i := by simpa using h
      simp (decide := true) only [endP_none hge, endI, go_sem, Nat.reduceAdd, Nat.reduceMul, Nat.reduceSub]
      exact Runs.ret_v
    · have hlt : i < L.length := by simpa using h
      have hd : decide ((12 : Int) < (e : Int)) = false := by simp; omega
      obtain ⟨k1, k2⟩ := hk L[i] (List.getElem_mem hlt)
      simp (decide := true) (disch := first | omega | (simp only [List.length_map, List.length_cons, List.length_append, List.length_nil]; omega)) only [hd, getItem hlt, if_pos, go_sem, Nat.reduceAdd, Nat.reduceMul, Nat.reduceSub]
      refine Runs.while (α := Nat × Nat) (kSt L i e L[i].kids) (fun p => 300 - p.1) (fun p => p.1 ≤ L[i].kids.toNat ∧ p.2 ≤ L.length ∧ iterO (endP L d) (L[i].kids.toNat - p.1) p.2 = endP L (d + 1) i) (0, i + 1) ⟨by omega, by omega, by rw [endP_some hlt]; rfl⟩ ?_ ?_
      · simp [go_sem, kAnn, kSt]
      · rintro ⟨j, n⟩ ⟨hj, hn, hr⟩ ih
        simp only at hj hn hr
        simp (decide := true) (disch := first | omega | (simp only [List.length_map, List.length_cons, List.length_append, List.length_nil]; omega)) only [kSt, if_pos, go_sem, Nat.reduceAdd, Nat.reduceMul, Nat.reduceSub]
        refine Runs.split (fun h => ?_) (fun h => ?_)
        · have hjk : (j : Int) < L[i].kids := by simpa using h
          have e1 : L[i].kids.toNat - j = L[i].kids.toNat - (j + 1) + 1 := by omega
          simp (decide := true) (disch := first | omega | (simp only [List.length_map, List.length_cons, List.length_append, List.length_nil]; omega)) only [if_pos, go_sem, Nat.reduceAdd, Nat.reduceMul, Nat.reduceSub]
          refine Runs.call (IH n (e + 1) (by omega) hn) ?_
          rw [e1, iterO] at hr
          cases e2 : endP L d n with
          | none =>
            rw [e2] at hr
            simp (decide := true) only [endI, ← hr, go_sem, Nat.reduceAdd, Nat.reduceMul, Nat.reduceSub]
            exact Runs.ret_v
          | some n' =>
            rw [e2] at hr
            have := endP_le _ _ _ e2
            simp (decide := true) only [endI, go_sem, Nat.reduceAdd, Nat.reduceMul, Nat.reduceSub]
            refine Runs.split (fun h => ?_) (fun h => ?_)
            · simp at h; omega
            · simp (decide := true) (disch := first | omega | (simp only [List.length_map, List.length_cons, List.length_append, List.length_nil]; omega)) only [if_pos, go_sem, Nat.reduceAdd, Nat.reduceMul, Nat.reduceSub]
              refine ih (j + 1, n') _ (by simp only; omega) ⟨by simp only; omega, by simp only; omega, hr⟩ ?_
              simp [go_sem, kAnn, kSt]
        · have hjk : ¬ (j : Int) < L[i].kids := by simpa using h
          have e1 : L[i].kids.toNat - j = 0 := by omega
          rw [e1, iterO] at hr
          simp (decide := true) only [← hr, endI, go_sem, Nat.reduceAdd, Nat.reduceMul, Nat.reduceSub]
          exact Runs.ret_v
end Go.Proofs.W

namespace Go.Proofs.W
open Go Go.AM
set_option linter.unusedSimpArgs false
set_option linter.unusedVariables false
variable (hm : Try.prog.follows .mixedOrders = true)

def made (t : Int) : Bool := decide (t / 32 % 2 = 1)
def itOk (x : It) : Bool := inB x.tag 0 255 && decide (x.tag % 32 ≠ 31) && inB x.kids 0 300 && (if made x.tag then x.body.isEmpty else decide (x.kids = 0))
def treeOk (L : List It) : Bool := inB L.length 1 300 && L.all itOk && decide (endI (endP L 13 0) = L.length)
theorem bits5 : ∀ t : Fin 256, (BitVec.ofNat 64 t.val &&& BitVec.ofNat 64 31).toNat = t.val % 32 ∧ (BitVec.ofNat 64 t.val &&& BitVec.ofNat 64 32).toNat = t.val / 32 % 2 * 32 := by decide +kernel
theorem and31 {t : Int} (h1 : 0 ≤ t) (h2 : t ≤ 255) : andI .i64 t 31 = t % 32 := by
  show IntKind.i64.wrap ((BitVec.ofInt 64 t &&& BitVec.ofInt 64 31).toNat : Int) = t % 32
  obtain ⟨n, rfl⟩ := Int.eq_ofNat_of_zero_le h1
  have := (bits5 ⟨n, by omega⟩).1
  simp only [BitVec.ofInt_ofNat, BitVec.ofInt_natCast] at this ⊢
  rw [this, wrap_i64 (by omega) (by omega)]; omega
theorem and32 {t : Int} (h1 : 0 ≤ t) (h2 : t ≤ 255) : andI .i64 t 32 = t / 32 % 2 * 32 := by
  show IntKind.i64.wrap ((BitVec.ofInt 64 t &&& BitVec.ofInt 64 32).toNat : Int) = t / 32 % 2 * 32
  obtain ⟨n, rfl⟩ := Int.eq_ofNat_of_zero_le h1
  have := (bits5 ⟨n, by omega⟩).2
  simp only [BitVec.ofInt_ofNat, BitVec.ofInt_natCast] at this ⊢
  rw [this, wrap_i64 (by omega) (by omega)]; omega
set_option maxRecDepth 10000 in
include hm in
theorem isMade (t : Int) (h1 : 0 ≤ t) (h2 : t ≤ 255) : Holds Try.prog 77 [.v (.int .i64 t)] [] (.v (.bool (made t))) [] := by
  refine holds_of (ann := []) tabOk hm Try.func77 (by kernel_rfl) rfl ?_
  simp (decide := true) (disch := first | omega | (simp only [List.length_map, List.length_cons, List.length_append, List.length_nil]; omega)) only [Try.f77, and32 h1 h2, if_pos, go_sem, Nat.reduceAdd, Nat.reduceMul, Nat.reduceSub]
  refine Runs.ret_eq ?_
  simp [made]
  by_cases h : t / 32 % 2 = 1 <;> simp [h] <;> omega
set_option maxRecDepth 10000 in
include hm in
theorem l7Made (t : Int) (h1 : 0 ≤ t) (h2 : t ≤ 255) : Holds Try.prog 58 [.v (.int .i64 t)] [] (.v (.bool (made t))) [] := by
  refine holds_of (ann := []) tabOk hm Try.func58 (by kernel_rfl) rfl ?_
  simp (decide := true) (disch := first | omega | (simp only [List.length_map, List.length_cons, List.length_append, List.length_nil]; omega)) only [Try.f58, Int.tdiv_eq_ediv_of_nonneg h1, if_pos, go_sem, Nat.reduceAdd, Nat.reduceMul, Nat.reduceSub]
  refine Runs.ret_eq ?_
  rw [Int.tmod_eq_emod_of_nonneg (by omega)]
  simp [made]
set_option maxRecDepth 10000 in
include hm in
theorem itemOk (x : It) : Holds Try.prog 68 [itemS x] [] (.v (.bool (itOk x))) [] := by
  refine holds_of (ann := []) tabOk hm Try.func68 (by kernel_rfl) rfl ?_
  obtain ⟨t, B, k⟩ := x
  simp (decide := true) only [Try.f68, itemS, go_sem, Nat.reduceAdd, Nat.reduceMul, Nat.reduceSub]
  refine Runs.call (within hm t 0 255) ?_
  simp (decide := true) only [go_sem, Nat.reduceAdd, Nat.reduceMul, Nat.reduceSub]
  refine Runs.split (fun h => ?_) (fun h => ?_)
  · have h' : inB t 0 255 = false := by simpa using h
    simp (decide := true) only [h', go_sem, Nat.reduceAdd, Nat.reduceMul, Nat.reduceSub]
    refine Runs.ret_eq ?_
    simp [itOk, h']
  · have h' : inB t 0 255 = true := by simpa using h
    have h1 : 0 ≤ t ∧ t ≤ 255 := by simpa [inB] using h'
    simp (decide := true) only [h', and31 h1.1 h1.2, go_sem, Nat.reduceAdd, Nat.reduceMul, Nat.reduceSub]
    refine Runs.split (fun h => ?_) (fun h => ?_)
    · have e : t % 32 = 31 := by simpa using h
      simp (decide := true) only [e, go_sem, Nat.reduceAdd, Nat.reduceMul, Nat.reduceSub]
      refine Runs.ret_eq ?_
      simp [itOk, e]
    · have e : ¬ t % 32 = 31 := by simpa using h
      simp (decide := true) only [e, go_sem, Nat.reduceAdd, Nat.reduceMul, Nat.reduceSub]
      refine Runs.call (isMade hm t h1.1 h1.2) ?_
      simp (decide := true) only [go_sem, Nat.reduceAdd, Nat.reduceMul, Nat.reduceSub]
      refine Runs.split (fun h => ?_) (fun h => ?_)
      · simp (decide := true) only [h, go_sem, Nat.reduceAdd, Nat.reduceMul, Nat.reduceSub]
        refine Runs.split (fun h2 => ?_) (fun h2 => ?_)
        · have e2 : B = [] := by simpa using h2
          simp (decide := true) only [e2, go_sem, Nat.reduceAdd, Nat.reduceMul, Nat.reduceSub]
          refine Runs.call (within hm k 0 300) ?_
          simp (decide := true) only [go_sem, Nat.reduceAdd, Nat.reduceMul, Nat.reduceSub]
          refine Runs.ret_eq ?_
          simp [itOk, h', e, h]
        · have e2 : ¬ B = [] := by simpa using h2
          simp (decide := true) only [e2, go_sem, Nat.reduceAdd, Nat.reduceMul, Nat.reduceSub]
          refine Runs.ret_eq ?_
          simp [itOk, h', e, h, e2]
      · simp (decide := true) only [h, go_sem, Nat.reduceAdd, Nat.reduceMul, Nat.reduceSub]
        refine Runs.ret_eq ?_
        simp [itOk, h', e, h, inB]
        by_cases hk : k = 0 <;> simp [hk, h1]
set_option maxRecDepth 10000 in
include hm in
theorem treeOkF (x : It) : Holds Try.prog 67 [itemS x] [] (.v (.bool (!itOk x))) [] := by
  refine holds_of (ann := []) tabOk hm Try.func67 (by kernel_rfl) rfl ?_
  have := itemOk hm x
  obtain ⟨t, B, k⟩ := x
  rw [itemS] at this
  simp (decide := true) only [Try.f67, itemS, go_sem, Nat.reduceAdd, Nat.reduceMul, Nat.reduceSub]
  refine Runs.call this ?_
  simp (decide := true) only [go_sem, Nat.reduceAdd, Nat.reduceMul, Nat.reduceSub]
  exact Runs.ret_v
def firstBad : List It → Nat → Int
  | [], _ => -1
  | x :: r, i => if itOk x then firstBad r (i + 1) else i
theorem firstBad_get {L : List It} {i : Nat} (h : i < L.length) : firstBad (L.drop i) i = if itOk L[i] then firstBad (L.drop (i + 1)) (i + 1) else i := by
  rw [List.drop_eq_getElem_cons h, firstBad]
theorem firstBad_end (L : List It) (i : Nat) (h : L.length ≤ i) : firstBad (L.drop i) i = -1 := by
  rw [List.drop_eq_nil_iff.2 h, firstBad]
theorem firstBad_ge : ∀ (L : List It) (i : Nat), decide (0 ≤ firstBad L i) = !L.all itOk
  | [], i => rfl
  | x :: r, i => by
    rw [firstBad]
    by_cases h : itOk x
    · simp [h, firstBad_ge r (i + 1)]
    · simp [h]
def ixAnn : Ann := [(0, [0, 1, 7, 8])]
def ixSt (F : A) (L : List It) (i : Nat) : St := ⟨[.sl .sh (L.map itemS), F, .any, .any, .any, .any, .any, .v (.int .i64 L.length), .v (.int .i64 i), .any, .any, .any, .any, .any, .any, .any, .any, .any, .any], [], []⟩
set_option maxRecDepth 10000 in
include hm in
theorem indexFunc (L : List It) (hl : L.length ≤ 1000000) : Holds Try.prog 76 [.sl .sh (L.map itemS), .v (.func (.func 67) #[] #[])] [] (.v (.int .i64 (firstBad L 0))) [] := by
  refine holds_of (ann := ixAnn) tabOk hm Try.func76 (by kernel_rfl) rfl ?_
  simp (decide := true) only [Try.f76, go_sem, Nat.reduceAdd, Nat.reduceMul, Nat.reduceSub]
  refine Runs.while (α := Nat) (ixSt (.v (.func (.func 67) #[] #[])) L) (fun i => L.length - i) (fun i => i ≤ L.length ∧ firstBad (L.drop i) i = firstBad L 0) 0 ⟨by omega, rfl⟩ ?_ ?_
  · simp [go_sem, ixAnn, ixSt]
  · rintro i ⟨hi, hb⟩ ih
    simp (decide := true) only [ixSt, go_sem, Nat.reduceAdd, Nat.reduceMul, Nat.reduceSub]
    refine Runs.split (fun h => ?_) (fun h => ?_)
    · have hlt : i < L.length := by simpa using h
      simp (decide := true) (disch := first | omega | (simp only [List.length_map, List.length_cons, List.length_append, List.length_nil]; omega)) only [getItem hlt, if_pos, go_sem, Nat.reduceAdd, Nat.reduceMul, Nat.reduceSub]
      refine Runs.call (treeOkF hm L[i]) ?_
      simp (decide := true) only [go_sem, Nat.reduceAdd, Nat.reduceMul, Nat.reduceSub]
      rw [firstBad_get hlt] at hb
      refine Runs.split (fun h => ?_) (fun h => ?_)
      · have hx : itOk L[i] = false := by simpa using h
        rw [hx] at hb
        simp (decide := true) only [← hb, go_sem, Nat.reduceAdd, Nat.reduceMul, Nat.reduceSub]
        exact Runs.ret_v
      · have hx : itOk L[i] = true := by simpa using h
        rw [hx] at hb
        simp (decide := true) (disch := first | omega | (simp only [List.length_map, List.length_cons, List.length_append, List.length_nil]; omega)) only [if_pos, go_sem, Nat.reduceAdd, Nat.reduceMul, Nat.reduceSub]
        refine ih (i + 1) _ (by omega) ⟨by omega, hb⟩ ?_
        simp [go_sem, ixAnn, ixSt]
    · have hge : L.length ≤ i := by simpa using h
      rw [firstBad_end L i hge] at hb
      simp (decide := true) only [← hb, go_sem, Nat.reduceAdd, Nat.reduceMul, Nat.reduceSub]
      exact Runs.ret_v
set_option maxRecDepth 10000 in
include hm in
theorem containsFunc (L : List It) (hl : L.length ≤ 1000000) : Holds Try.prog 66 [.sl .sh (L.map itemS), .v (.func (.func 67) #[] #[])] [] (.v (.bool (!L.all itOk))) [] := by
  refine holds_of (ann := []) tabOk hm Try.func66 (by kernel_rfl) rfl ?_
  simp (decide := true) only [Try.f66, go_sem, Nat.reduceAdd, Nat.reduceMul, Nat.reduceSub]
  refine Runs.call (indexFunc hm L hl) ?_
  simp (decide := true) only [go_sem, Nat.reduceAdd, Nat.reduceMul, Nat.reduceSub]
  refine Runs.ret_eq ?_
  rw [← firstBad_ge L 0]
theorem kidsOk_of {L : List It} (h : L.all itOk = true) : kidsOk L := by
  intro x hx
  have := List.all_eq_true.1 h x hx
  simp [itOk, inB] at this
  omega
set_option maxRecDepth 10000 in
include hm in
theorem implTreeOk (L : List It) (hl : L.length ≤ 1000000) : Holds Try.prog 48 [.sl .sh (L.map itemS)] [] (.v (.bool (treeOk L))) [] := by
  refine holds_of (ann := []) tabOk hm Try.func48 (by kernel_rfl) rfl ?_
  simp (decide := true) only [Try.f48, go_sem, Nat.reduceAdd, Nat.reduceMul, Nat.reduceSub]
  refine Runs.call (within hm L.length 1 300) ?_
  simp (decide := true) only [go_sem, Nat.reduceAdd, Nat.reduceMul, Nat.reduceSub]
  refine Runs.split (fun h => ?_) (fun h => ?_)
  · have h' : inB L.length 1 300 = false := by simpa using h
    simp (decide := true) only [go_sem, Nat.reduceAdd, Nat.reduceMul, Nat.reduceSub]
    refine Runs.ret_eq ?_
    simp [treeOk, h']
  · have h' : inB L.length 1 300 = true := by simpa using h
    simp (decide := true) only [go_sem, Nat.reduceAdd, Nat.reduceMul, Nat.reduceSub]
    refine Runs.call (containsFunc hm L hl) ?_
    simp (decide := true) only [go_sem, Nat.reduceAdd, Nat.reduceMul, Nat.reduceSub]
    refine Runs.split (fun h => ?_) (fun h => ?_)
    · have h2 : L.all itOk = false := by simpa using h
      simp (decide := true) only [h2, go_sem, Nat.reduceAdd, Nat.reduceMul, Nat.reduceSub]
      refine Runs.ret_eq ?_
      simp [treeOk, h', h2]
    · have h2 : L.all itOk = true := by simpa using h
      simp (decide := true) only [h2, go_sem, Nat.reduceAdd, Nat.reduceMul, Nat.reduceSub]
      refine Runs.call (skip hm L (kidsOk_of h2) hl 13 0 0 (by omega) (by omega)) ?_
      simp (decide := true) only [go_sem, Nat.reduceAdd, Nat.reduceMul, Nat.reduceSub]
      refine Runs.ret_eq ?_
      rw [treeOk, h', h2]
      rfl
def tkAnn : Ann := [(0, [0, 3])]
def tkSt (L : List It) (i : Nat) : St := ⟨[.sl .sh (L.map itemS), .any, .any, .v (.int .i64 i), .any, .any, .any, .any, .any, .any, .any, .any, .any, .any, .any, .any, .any, .any, .any, .any, .any, .any, .any, .any, .any, .any, .any, .any, .any, .any, .any, .any, .any, .any, .any, .any, .any, .any, .any, .any, .any, .any, .any, .any, .any, .any, .any, .any, .any, .any, .any, .any, .any, .any, .any, .any, .any, .any, .any, .any, .any, .any], [], []⟩
set_option maxRecDepth 10000 in
include hm in
theorem specTreeOk (L : List It) (hl : L.length ≤ 1000000) : Holds Try.prog 37 [.sl .sh (L.map itemS)] [] (.v (.bool (treeOk L))) [] := by
  refine holds_of (ann := tkAnn) tabOk hm Try.func37 (by kernel_rfl) rfl ?_
  simp (decide := true) only [Try.f37, go_sem, Nat.reduceAdd, Nat.reduceMul, Nat.reduceSub]
  refine Runs.call (l1In hm L.length 1 300) ?_
  simp (decide := true) only [go_sem, Nat.reduceAdd, Nat.reduceMul, Nat.reduceSub]
  refine Runs.split (fun h => ?_) (fun h => ?_)
  · have h' : inB L.length 1 300 = false := by simpa using h
    simp (decide := true) only [go_sem, Nat.reduceAdd, Nat.reduceMul, Nat.reduceSub]
    refine Runs.ret_eq ?_
    simp [treeOk, h']
  · have h' : inB L.length 1 300 = true := by simpa using h
    simp (decide := true) only [go_sem, Nat.reduceAdd, Nat.reduceMul, Nat.reduceSub]
    refine Runs.while (α := Nat) (tkSt L) (fun i => L.length - i) (fun i => i ≤ L.length ∧ (L.drop i).all itOk = L.all itOk) 0 ⟨by omega, rfl⟩ ?_ ?_
    · simp [go_sem, tkAnn, tkSt]
    · rintro i ⟨hi, hb⟩ ih
      simp (decide := true) only [tkSt, go_sem, Nat.reduceAdd, Nat.reduceMul, Nat.reduceSub]
      refine Runs.split (fun h => ?_) (fun h => ?_)
      · have hlt : i < L.length := by simpa using h
        rw [List.drop_eq_getElem_cons hlt, List.all_cons] at hb
        have eg := getItem hlt
        have bad : ∀ (h : itOk L[i] = false), false = treeOk L := by
          intro h
          rw [h] at hb
          simp [treeOk, ← hb]
        generalize L[i] = x at hb eg bad
        obtain ⟨t, B, k⟩ := x
        simp only at eg
        simp (decide := true) (disch := first | omega | (simp only [List.length_map, List.length_cons, List.length_append, List.length_nil]; omega)) only [eg, if_pos, go_sem, Nat.reduceAdd, Nat.reduceMul, Nat.reduceSub]
        refine Runs.call (l1In hm t 0 255) ?_
        simp (decide := true) only [go_sem, Nat.reduceAdd, Nat.reduceMul, Nat.reduceSub]
        refine Runs.split (fun h => ?_) (fun h => ?_)
        · have hx : inB t 0 255 = false := by simpa using h
          simp (decide := true) only [hx, go_sem, Nat.reduceAdd, Nat.reduceMul, Nat.reduceSub]
          exact Runs.ret_eq (by rw [← bad (by simp [itOk, hx])])
        · have hx : inB t 0 255 = true := by simpa using h
          have h1 : 0 ≤ t ∧ t ≤ 255 := by simpa [inB] using hx
          simp (decide := true) only [hx, Int.tmod_eq_emod_of_nonneg h1.1, go_sem, Nat.reduceAdd, Nat.reduceMul, Nat.reduceSub]
          refine Runs.split (fun h => ?_) (fun h => ?_)
          · have e : t % 32 = 31 := by simpa using h
            simp (decide := true) only [e, go_sem, Nat.reduceAdd, Nat.reduceMul, Nat.reduceSub]
            exact Runs.ret_eq (by rw [← bad (by simp [itOk, hx, e])])
          · have e : ¬ t % 32 = 31 := by simpa using h
            simp (decide := true) only [h, go_sem, Nat.reduceAdd, Nat.reduceMul, Nat.reduceSub]
            refine Runs.call (l1In hm k 0 300) ?_
            simp (decide := true) only [go_sem, Nat.reduceAdd, Nat.reduceMul, Nat.reduceSub]
            refine Runs.split (fun h => ?_) (fun h => ?_)
            · have hk : inB k 0 300 = false := by simpa using h
              simp (decide := true) only [hk, go_sem, Nat.reduceAdd, Nat.reduceMul, Nat.reduceSub]
              exact Runs.ret_eq (by rw [← bad (by simp [itOk, hx, e, hk])])
            · have hk : inB k 0 300 = true := by simpa using h
              have k1 : 0 ≤ k ∧ k ≤ 300 := by simpa [inB] using hk
              simp (decide := true) only [hk, go_sem, Nat.reduceAdd, Nat.reduceMul, Nat.reduceSub]
              refine Runs.call (l7Made hm t h1.1 h1.2) ?_
              simp (decide := true) only [go_sem, Nat.reduceAdd, Nat.reduceMul, Nat.reduceSub]
              refine Runs.split (fun h => ?_) (fun h => ?_)
              · simp (decide := true) only [h, go_sem, Nat.reduceAdd, Nat.reduceMul, Nat.reduceSub]
                refine Runs.split (fun h2 => ?_) (fun h2 => ?_)
                · have hB : B ≠ [] := by rintro rfl; simp at h2
                  simp (decide := true) only [h2, go_sem, Nat.reduceAdd, Nat.reduceMul, Nat.reduceSub]
                  exact Runs.ret_eq (by rw [← bad (by simp [itOk, hx, e, hk, h, hB])])
                · have hB : B = [] := by cases B with | nil => rfl | cons b B => simp at h2
                  simp (decide := true) only [h2, go_sem, Nat.reduceAdd, Nat.reduceMul, Nat.reduceSub]
                  refine Runs.call (l7Made hm t h1.1 h1.2) ?_
                  simp (decide := true) (disch := first | omega | (simp only [List.length_map, List.length_cons, List.length_append, List.length_nil]; omega)) only [h, if_pos, go_sem, Nat.reduceAdd, Nat.reduceMul, Nat.reduceSub]
                  have hg : itOk ⟨t, B, k⟩ = true := by simp [itOk, hx, e, hk, h, hB]
                  rw [hg, Bool.true_and] at hb
                  refine ih (i + 1) _ (by omega) ⟨by omega, hb⟩ ?_
                  simp [go_sem, tkAnn, tkSt]
              · simp (decide := true) only [h, go_sem, Nat.reduceAdd, Nat.reduceMul, Nat.reduceSub]
                refine Runs.call (l7Made hm t h1.1 h1.2) ?_
                simp (decide := true) only [h, go_sem, Nat.reduceAdd, Nat.reduceMul, Nat.reduceSub]
                refine Runs.split (fun h2 => ?_) (fun h2 => ?_)
                · have hk0 : 0 < k := by simpa using h2
                  simp (decide := true) only [h2, go_sem, Nat.reduceAdd, Nat.reduceMul, Nat.reduceSub]
                  exact Runs.ret_eq (by rw [← bad (by simp [itOk, hx, e, hk, h]; omega)])
                · have hk0 : ¬ 0 < k := by simpa using h2
                  simp (decide := true) (disch := first | omega | (simp only [List.length_map, List.length_cons, List.length_append, List.length_nil]; omega)) only [h2, if_pos, go_sem, Nat.reduceAdd, Nat.reduceMul, Nat.reduceSub]
                  have hg : itOk ⟨t, B, k⟩ = true := by simp [itOk, hx, e, hk, h]; omega
                  rw [hg, Bool.true_and] at hb
                  refine ih (i + 1) _ (by omega) ⟨by omega, hb⟩ ?_
                  simp [go_sem, tkAnn, tkSt]
      · have hge : L.length ≤ i := by simpa using h
        rw [List.drop_eq_nil_iff.2 hge] at hb
        have h2 : L.all itOk = true := hb.symm
        simp (decide := true) only [go_sem, Nat.reduceAdd, Nat.reduceMul, Nat.reduceSub]
        refine Runs.call (l7End hm L (kidsOk_of h2) hl 13 0 0 (by omega) (by omega)) ?_
        simp (decide := true) only [go_sem, Nat.reduceAdd, Nat.reduceMul, Nat.reduceSub]
        refine Runs.ret_eq ?_
        rw [treeOk, h', h2]
        rfl
end Go.Proofs.W

namespace Go.Proofs.W
open Go Go.AM
set_option linter.unusedSimpArgs false
set_option linter.unusedVariables false
variable (hm : Try.prog.follows .mixedOrders = true)

/-- `k` nodes, one behind the other. -/
def iterN (f : Nat → Nd × Nat) : Nat → Nat → List Nd × Nat
  | 0, n => ([], n)
  | k + 1, n => ((f n).1 :: (iterN f k (f n).2).1, (iterN f k (f n).2).2)
/-- The node at a place of the list, and the place behind it. -/
def nestP (L : List It) : Nat → Nat → Nd × Nat
  | 0, i => (.mk 0 [] [], i)
  | d + 1, i => match L[i]? with
    | some x => (.mk x.tag x.body (iterN (nestP L d) x.kids.toNat (i + 1)).1, (iterN (nestP L d) x.kids.toNat (i + 1)).2)
    | none => (.mk 0 [] [], i)
theorem nestP_get {L : List It} {d i : Nat} (h : i < L.length) : nestP L (d + 1) i = (.mk L[i].tag L[i].body (iterN (nestP L d) L[i].kids.toNat (i + 1)).1, (iterN (nestP L d) L[i].kids.toNat (i + 1)).2) := by
  rw [nestP, List.getElem?_eq_getElem h]
mutual
def enc : Nd → List Int
  | .mk t b ks => ib t :: (l7Len (b ++ encL ks).length ++ (b ++ encL ks))
def encL : List Nd → List Int
  | [] => []
  | n :: r => enc n ++ encL r
end
theorem encL_app (l m : List Nd) : encL (l ++ m) = encL l ++ encL m := by
  induction l with
  | nil => rfl
  | cons a l ih => simp [encL, ih, List.append_assoc]
theorem encL_one (n : Nd) : encL [n] = enc n := by simp [encL]
mutual
def wN : Nd → Nat
  | .mk _ b ks => b.length + 4 + wNL ks
def wNL : List Nd → Nat
  | [] => 0
  | n :: r => wN n + wNL r
end
theorem wNL_app (l m : List Nd) : wNL (l ++ m) = wNL l + wNL m := by
  induction l with
  | nil => simp [wNL]
  | cons a l ih => simp [wNL, ih]; omega
mutual
theorem enc_le : ∀ n, (enc n).length ≤ wN n
  | .mk t b ks => by
    have := encL_le ks
    have h2 := l7Len_length (b ++ encL ks).length
    simp only [enc, wN, List.length_cons, List.length_append] at h2 ⊢
    omega
theorem encL_le : ∀ l, (encL l).length ≤ wNL l
  | [] => by simp [encL, wNL]
  | n :: r => by
    have := enc_le n
    have h2 := encL_le r
    simp only [encL, wNL, List.length_append]
    omega
end
mutual
/-- Who has kids has no body. -/
def okN : Nd → Prop
  | .mk _ b ks => (ks = [] ∨ b = []) ∧ okNL ks
def okNL : List Nd → Prop
  | [] => True
  | n :: r => okN n ∧ okNL r
end
theorem okN_get : ∀ {ks : List Nd} {i : Nat} (h : i < ks.length), okNL ks → okN ks[i]
  | a :: ks, 0, h, hb => hb.1
  | a :: ks, i + 1, h, hb => by
    have := okN_get (ks := ks) (i := i) (by simpa using h) hb.2
    simpa using this
/-- What the items ahead of a place weigh. -/
def wI (L : List It) (i : Nat) : Nat := ((L.take i).map fun x => x.body.length + 4).sum
theorem wI_succ {L : List It} {i : Nat} (h : i < L.length) : wI L (i + 1) = wI L i + (L[i].body.length + 4) := by
  rw [wI, List.take_succ_eq_append_getElem h, List.map_append, List.sum_append]
  rw [wI, List.map_cons, List.map_nil, List.sum_cons, List.sum_nil, Nat.add_zero]
theorem sum_take_le (l : List Nat) (i : Nat) : (l.take i).sum ≤ l.sum := by
  have := congrArg List.sum (List.take_append_drop i l)
  rw [List.sum_append] at this
  omega
theorem wI_le (L : List It) (i : Nat) : wI L i ≤ wI L L.length := by
  rw [wI, wI, List.take_length, List.map_take]
  exact sum_take_le _ _
theorem iterN_wt {L : List It} {f : Nat → Nd × Nat} {g : Nat → Option Nat} (hf : ∀ i n, g i = some n → (f i).2 = n ∧ wN (f i).1 + wI L i = wI L n) :
    ∀ k i n, iterO g k i = some n → (iterN f k i).2 = n ∧ wNL (iterN f k i).1 + wI L i = wI L n ∧ (iterN f k i).1.length = k
  | 0, i, n, h => by
    simp [iterO] at h; subst h; simp [iterN, wNL]
  | k + 1, i, n, h => by
    simp only [iterO] at h
    cases e : g i with
    | none => rw [e] at h; simp at h
    | some j =>
      rw [e] at h
      obtain ⟨h1, h2⟩ := hf i j e
      have h3 := iterN_wt hf k j n h
      simp only [iterN, wNL, List.length_cons, h1]
      exact ⟨h3.1, by omega, by omega⟩
theorem nestP_wt {L : List It} : ∀ d i n, endP L d i = some n → (nestP L d i).2 = n ∧ wN (nestP L d i).1 + wI L i = wI L n
  | 0, i, n, h => by simp [endP] at h
  | d + 1, i, n, h => by
    have hlt : i < L.length := by
      rcases Nat.lt_or_ge i L.length with h1 | h1
      · exact h1
      · rw [endP_none h1] at h; simp at h
    rw [endP_some hlt] at h
    have := iterN_wt (L := L) (f := nestP L d) (fun i n => nestP_wt d i n) _ _ _ h
    rw [nestP_get hlt]
    simp only [wN]
    have h2 := wI_succ hlt
    refine ⟨this.1, ?_⟩
    have h3 := this.2.1
    omega
theorem iterN_ok {f : Nat → Nd × Nat} (hf : ∀ i, okN (f i).1) : ∀ k i, okNL (iterN f k i).1
  | 0, i => trivial
  | k + 1, i => ⟨hf i, iterN_ok hf k _⟩
theorem nestP_ok {L : List It} (h : L.all itOk = true) : ∀ d i, okN (nestP L d i).1
  | 0, i => ⟨.inl rfl, trivial⟩
  | d + 1, i => by
    rcases Nat.lt_or_ge i L.length with h1 | h1
    · rw [nestP_get h1]
      refine ⟨?_, iterN_ok (fun i => nestP_ok h d i) _ _⟩
      have hx := List.all_eq_true.1 h L[i] (List.getElem_mem h1)
      simp only [itOk, Bool.and_eq_true] at hx
      obtain ⟨_, hx⟩ := hx
      by_cases hm : made L[i].tag = true
      · rw [if_pos hm] at hx
        exact .inr (by simpa using hx)
      · rw [if_neg hm] at hx
        refine .inl ?_
        have : L[i].kids = 0 := by simpa using hx
        rw [this]
        rfl
    · rw [nestP, List.getElem?_eq_none h1]
      exact ⟨.inl rfl, trivial⟩
mutual
/-- A node whose bodies are shared. -/
def nodeM : Nd → A
  | .mk t b ks => .agg [.v (.int .i64 t), .sl .sh (b.map u8A), .sl (.ow 3) (nodesM ks)]
def nodesM : List Nd → List A
  | [] => []
  | n :: r => nodeM n :: nodesM r
end
theorem nodesM_eq (l : List Nd) : nodesM l = l.map nodeM := by induction l with
  | nil => rfl
  | cons a l ih => simp [nodesM, ih]
theorem nodesM_length (l : List Nd) : (nodesM l).length = l.length := by rw [nodesM_eq, List.length_map]
theorem nodesM_app (l : List Nd) (n : Nd) : nodesM (l ++ [n]) = nodesM l ++ [nodeM n] := by simp [nodesM_eq]
mutual
theorem dn_nodeM : ∀ n, (nodeM n).dn = nodeS n
  | .mk t b ks => by simp [nodeM, nodeS, A.dn, dnL, dn_u8A, dn_nodesM ks]
theorem dn_nodesM : ∀ l, dnL (nodesM l) = nodesS l
  | [] => rfl
  | n :: r => by simp [nodesM, nodesS, dnL, dn_nodeM n, dn_nodesM r]
end
mutual
theorem md_nodeM : ∀ n, (nodeM n).md = nodeM n
  | .mk t b ks => by simp [nodeM, A.md, mdL, md_u8A, dn_u8A, md_nodesM ks]
theorem md_nodesM : ∀ l, mdL (nodesM l) = nodesM l
  | [] => rfl
  | n :: r => by simp [nodesM, mdL, md_nodeM n, md_nodesM r]
end
theorem c_nodeM (n : Nd) : (nodeM n).cells.length = 3 := by cases n; rfl
theorem pl_nodeM (n : Nd) : (nodeM n).plain = false := by cases n; simp [nodeM, A.plain, plainL, Sh.own]
theorem cs_nodesM (l : List Nd) : (nodesM l).all (fun a => a.cells.length == 3) = true := by rw [nodesM_eq]; simp [c_nodeM]
theorem tk_nodesM (l : List Nd) : List.take l.length (nodesM l) = nodesM l := by rw [← nodesM_length, List.take_length]
theorem own_ow {k : Nat} : (Sh.ow k).own = true := rfl
theorem own_sh : Sh.sh.own = false := rfl
attribute [go_sem] own_ow own_sh tk_nodesM nodesM_length dn_nodeM dn_nodesM md_nodeM md_nodesM c_nodeM pl_nodeM cs_nodesM
def nsAnn : Ann := [(0, [0, 4, 6, 7, 26, 27])]
def nsSch : Sched := .take 0 (.take 1 (.take 2 (.take 3 (.take 5 (.take 6 (.take 7 (.take 8 (.ld 4 (.ld 9 (.alt 10 (.alt 11 (.alt 12 .fin .nil) .nil) (.alt 11 (.alt 10 (.alt 12 .fin .nil) .nil) .nil)))))))))))
def nsSt (L : List It) (t : Int) (b : List Int) (k : Int) (p : List Nd × Nat) : St := match p.1 with
  | [] => ⟨[.sl .sh (L.map itemS), .any, .any, .any, .ref (.l 0) 0 0 1, .any, .ref (.l 1) 0 0 1, .v (.int .i64 p.2), .any, .any, .any, .any, .any, .any, .any, .any, .any, .any, .any, .any, .any, .any, .any, .any, .any, .any, .v (.int .i64 k), .v (.int .i64 0), .any, .any, .any, .any, .any, .any, .any, .any, .any, .any, .any, .any, .any, .any, .any, .any, .any], [(0, ⟨true, 3, true, [.agg [.v (.int .i64 0), .v (.slice none 0 0), .v (.slice none 0 0)]]⟩), (1, ⟨true, 3, true, [.agg [.v (.int .i64 t), .sl .sh (b.map u8A), .v (.slice none 0 0)]]⟩)], []⟩
  | x :: r => ⟨[.sl .sh (L.map itemS), .any, .any, .any, .ref (.l 0) 0 0 1, .any, .ref (.l 1) 0 0 1, .v (.int .i64 p.2), .any, .any, .any, .any, .any, .any, .any, .any, .any, .any, .any, .any, .any, .any, .any, .any, .any, .any, .v (.int .i64 k), .v (.int .i64 (r.length + 1)), .any, .any, .any, .any, .any, .any, .any, .any, .any, .any, .any, .any, .any, .any, .any, .any, .any], [(0, ⟨true, 3, true, [.agg [.v (.int .i64 0), .v (.slice none 0 0), .v (.slice none 0 0)]]⟩), (1, ⟨true, 3, true, [.agg [.v (.int .i64 t), .sl .sh (b.map u8A), .ms (.l 2) 0 (r.length + 1) (r.length + 1)]]⟩), (2, ⟨true, 3, false, nodesM (x :: r)⟩)], []⟩
attribute [local go_sem] nsSch
set_option maxRecDepth 10000 in
set_option maxHeartbeats 2000000 in
include hm in
theorem nested (L : List It) (hk : kidsOk L) (hl : L.length ≤ 1000000) : ∀ (d i n : Nat), endP L d i = some n → Holds Try.prog 49 [.sl .sh (L.map itemS), .v (.int .i64 i)] [] (.tup [nodeM (nestP L d i).1, .v (.int .i64 (nestP L d i).2)]) [] := by
  intro d
  induction d with
  | zero => intro i n h; simp [endP] at h
  | succ d IH =>
    intro i n he
    have hlt : i < L.length := by
      rcases Nat.lt_or_ge i L.length with h1 | h1
      · exact h1
      · rw [endP_none h1] at he; simp at he
    obtain ⟨k1, k2⟩ := hk L[i] (List.getElem_mem hlt)
    have hg := getItem hlt
    rw [endP_some hlt] at he
    rw [nestP_get hlt]
    generalize L[i] = x at k1 k2 hg he
    obtain ⟨t, b, k⟩ := x
    simp only at k1 k2 hg he ⊢
    refine holds_of (ann := nsAnn) tabOk hm Try.func49 (by kernel_rfl) rfl ?_
    simp (decide := true) (disch := first | omega | (simp only [List.length_map, List.length_cons, List.length_append, List.length_nil]; omega)) only [Try.f49, if_pos, go_sem, Nat.reduceAdd, Nat.reduceMul, Nat.reduceSub]
    refine Runs.draw (st1 := ?s1) (draws_by (ann := nsAnn) tabOk nsSch (by kernel_rfl) ?p1) ?q1
    case p1 =>
      intro K r X hK
      simp (decide := true) (disch := first | omega | (simp only [List.length_map, List.length_cons, List.length_append, List.length_nil]; omega)) only [hg, if_pos, go_sem, Nat.reduceAdd, Nat.reduceMul, Nat.reduceSub]
      exact hK
    case q1 =>
      simp (decide := true) (disch := first | omega | (simp only [List.length_map, List.length_cons, List.length_append, List.length_nil]; omega)) only [hg, if_pos, go_sem, Nat.reduceAdd, Nat.reduceMul, Nat.reduceSub]
      generalize eq : iterN (nestP L d) k.toNat (i + 1) = q
      refine Runs.while (α := List Nd × Nat) (nsSt L t b k) (fun p => k.toNat - p.1.length) (fun p => p.1.length ≤ k.toNat ∧ p.2 ≤ L.length ∧ iterO (endP L d) (k.toNat - p.1.length) p.2 = some n ∧ q = (p.1 ++ (iterN (nestP L d) (k.toNat - p.1.length) p.2).1, (iterN (nestP L d) (k.toNat - p.1.length) p.2).2)) ([], i + 1) ⟨by simp, by simp only; omega, he, by simp [eq]⟩ ?_ ?_
      · simp [go_sem, nsAnn, nsSt]
      · rintro ⟨acc, m⟩ ⟨ha, hm1, ho, hq⟩ ih
        simp only at ha hm1 ho hq
        cases acc with
        | nil =>
          simp (decide := true) only [nsSt, go_sem, Nat.reduceAdd, Nat.reduceMul, Nat.reduceSub]
          refine Runs.split (fun h => ?_) (fun h => ?_)
          · have hj : 0 < k := by simpa using h
            rw [show k.toNat - ([] : List Nd).length = (k.toNat - 1) + 1 by simp; omega, iterO] at ho
            rw [show k.toNat - ([] : List Nd).length = (k.toNat - 1) + 1 by simp; omega, iterN] at hq
            cases e : endP L d m with
            | none => rw [e] at ho; simp at ho
            | some m2 =>
              rw [e] at ho
              have hc := IH m m2 e
              have hw := (nestP_wt d m m2 e).1
              have hle := endP_le _ _ _ e
              rw [hw] at hc hq
              generalize (nestP L d m).1 = nd at hc hq
              obtain ⟨t', b', ks'⟩ := nd
              rw [nodeM] at hc
              simp (decide := true) (disch := first | omega | (simp only [List.length_map, List.length_cons, List.length_append, List.length_nil]; omega)) only [if_pos, go_sem, Nat.reduceAdd, Nat.reduceMul, Nat.reduceSub]
              refine Runs.call hc ?_
              simp (decide := true) (maxSteps := 2000000) (disch := first | omega | (simp only [List.length_map, List.length_cons, List.length_append, List.length_nil]; omega)) only [if_pos, go_sem, Nat.reduceAdd, Nat.reduceMul, Nat.reduceSub]
              refine ih ([.mk t' b' ks'], m2) _ (by simp; omega) ⟨by simp; omega, by simp only; omega, by simpa using ho, by simpa using hq⟩ ?_
              simp [go_sem, nsAnn, nsSt, nodesM, nodeM]
          · have hj : ¬ 0 < k := by simpa using h
            rw [show k.toNat - ([] : List Nd).length = 0 by simp; omega, iterN] at hq
            simp (decide := true) only [go_sem, Nat.reduceAdd, Nat.reduceMul, Nat.reduceSub]
            subst hq
            refine Runs.ret ?_ rfl
            simp only [List.append_nil, nodeM, nodesM]
            exact .tup (.agg (.same _ (.same _ (.nils _ .nil))) (.same _ .nil)) .nil
        | cons x r =>
          simp only [List.length_cons] at ha ho hq
          have hw1 : IntKind.i64.wrap ((r.length : Int) + 1 + 1) = (r.length : Int) + 1 + 1 := wrap_i64 (by omega) (by omega)
          simp (decide := true) only [nsSt, go_sem, Nat.reduceAdd, Nat.reduceMul, Nat.reduceSub]
          refine Runs.split (fun h => ?_) (fun h => ?_)
          · have hj : (r.length : Int) + 1 < k := by simpa using h
            rw [show k.toNat - (r.length + 1) = (k.toNat - (r.length + 1) - 1) + 1 by omega, iterO] at ho
            rw [show k.toNat - (r.length + 1) = (k.toNat - (r.length + 1) - 1) + 1 by omega, iterN] at hq
            cases e : endP L d m with
            | none => rw [e] at ho; simp at ho
            | some m2 =>
              rw [e] at ho
              have hc := IH m m2 e
              have hw := (nestP_wt d m m2 e).1
              have hle := endP_le _ _ _ e
              rw [hw] at hc hq
              generalize (nestP L d m).1 = nd at hc hq
              obtain ⟨t', b', ks'⟩ := nd
              rw [nodeM] at hc
              simp (decide := true) (disch := first | omega | (simp only [List.length_map, List.length_cons, List.length_append, List.length_nil]; omega)) only [if_pos, go_sem, Nat.reduceAdd, Nat.reduceMul, Nat.reduceSub]
              refine Runs.call hc ?_
              simp (decide := true) (maxSteps := 2000000) (disch := first | omega | (simp only [List.length_map, List.length_cons, List.length_append, List.length_nil]; omega)) only [if_pos, go_sem, Nat.reduceAdd, Nat.reduceMul, Nat.reduceSub]
              refine ih (x :: r ++ [.mk t' b' ks'], m2) _ (by simp; omega) ⟨by simp; omega, by simp only; omega, ?_, ?_⟩ ?_
              · simp only [List.length_append, List.length_cons, List.length_nil, List.cons_append]
                rw [← ho, show k.toNat - (r.length + (0 + 1) + 1) = k.toNat - (r.length + 1) - 1 by omega]
              · simp only [List.length_append, List.length_cons, List.length_nil, List.cons_append, List.append_assoc, List.nil_append]
                rw [hq, show k.toNat - (r.length + (0 + 1) + 1) = k.toNat - (r.length + 1) - 1 by omega]
                simp
              · simp [go_sem, nsAnn, nsSt, nodesM, nodeM, nodesM_app, hw1]
          · have hj : ¬ (r.length : Int) + 1 < k := by simpa using h
            rw [show k.toNat - (r.length + 1) = 0 by omega, iterN] at hq
            simp (decide := true) (disch := first | omega | (simp only [List.length_map, List.length_cons, List.length_append, List.length_nil]; omega)) only [if_pos, go_sem, Nat.reduceAdd, Nat.reduceMul, Nat.reduceSub]
            subst hq
            refine Runs.ret_eq ?_
            simp only [List.append_nil, nodeM]
            rw [show r.length + 1 = (x :: r).length from rfl, tk_nodesM]
end Go.Proofs.W

namespace Go.Proofs.W
open Go Go.AM
set_option linter.unusedSimpArgs false
set_option linter.unusedVariables false
variable (hm : Try.prog.follows .mixedOrders = true)

theorem bytePos {n : Nat} : IntKind.u8.wrap (n : Int) = ib n := rfl
theorem nodesS_one (n : Nd) : nodesS [n] = [nodeS n] := by simp [nodesS]
def lwAnn : Ann := [(0, [0, 1, 6, 7, 8])]
def lwSch : Sched := .take 0 (.take 1 (.take 2 (.take 3 (.take 7 (.take 8 (.ld 4 (.alt 5 (.alt 6 (.alt 9 (.alt 10 (.take 11 .fin) .nil) .nil) (.alt 9 (.alt 6 (.alt 10 (.take 11 .fin) .nil) .nil) .nil)) (.alt 9 (.alt 5 (.alt 6 (.alt 10 (.take 11 .fin) .nil) .nil) .nil) .nil))))))))
def lwSt (L : List It) (i : Nat) (b : List Int) (p : List Nd × Nat) : St := ⟨[.sl .sh (L.map itemS), .v (.int .i64 i), .any, .any, .any, .any, .ms (.l 0) 0 (b ++ encL p.1).length (b ++ encL p.1).length, .v (.int .i64 p.2), .v (.int .i64 p.1.length), .any, .any, .any, .any, .any, .any, .any, .any, .any, .any, .any, .any, .any, .any, .any, .any, .any, .any, .any, .any, .any, .any, .any, .any, .any, .any, .any, .any, .any, .any, .any, .any, .any, .any, .any, .any, .any, .any, .any, .any, .any, .any, .any, .any, .any], [(0, ⟨true, 1, false, (b ++ encL p.1).map u8A⟩)], []⟩
attribute [local go_sem] lwSch
set_option maxRecDepth 10000 in
set_option maxHeartbeats 2000000 in
include hm in
theorem l7Write (L : List It) (hk : kidsOk L) (hl : L.length ≤ 1000000) (hwl : wI L L.length ≤ 1000000) : ∀ (d i n : Nat), endP L d i = some n → Holds Try.prog 38 [.sl .sh (L.map itemS), .v (.int .i64 i)] [] (.tup [.sl (.ow 1) ((enc (nestP L d i).1).map u8A), .v (.int .i64 (nestP L d i).2)]) [] := by
  intro d
  induction d with
  | zero => intro i n h; simp [endP] at h
  | succ d IH =>
    intro i n he
    have hlt : i < L.length := by
      rcases Nat.lt_or_ge i L.length with h1 | h1
      · exact h1
      · rw [endP_none h1] at he; simp at he
    obtain ⟨k1, k2⟩ := hk L[i] (List.getElem_mem hlt)
    have hg := getItem hlt
    have hwt := (nestP_wt (d + 1) i n he).2
    have hwn := wI_le L n
    rw [endP_some hlt] at he
    rw [nestP_get hlt] at hwt ⊢
    generalize L[i] = x at k1 k2 hg he hwt
    obtain ⟨t, b, k⟩ := x
    simp only [wN] at k1 k2 hg he hwt ⊢
    refine holds_of (ann := lwAnn) tabOk hm Try.func38 (by kernel_rfl) rfl ?_
    simp (decide := true) (disch := first | omega | (simp only [List.length_map, List.length_cons, List.length_append, List.length_nil]; omega)) only [Try.f38, hg, if_pos, go_sem, Nat.reduceAdd, Nat.reduceMul, Nat.reduceSub]
    refine Runs.call (l1Bytes hm b (by omega)) ?_
    simp (decide := true) (disch := first | omega | (simp only [List.length_map, List.length_cons, List.length_append, List.length_nil]; omega)) only [if_pos, go_sem, Nat.reduceAdd, Nat.reduceMul, Nat.reduceSub]
    generalize eq : iterN (nestP L d) k.toNat (i + 1) = q at hwt
    refine Runs.while (α := List Nd × Nat) (lwSt L i b) (fun p => k.toNat - p.1.length) (fun p => p.1.length ≤ k.toNat ∧ p.2 ≤ L.length ∧ iterO (endP L d) (k.toNat - p.1.length) p.2 = some n ∧ q = (p.1 ++ (iterN (nestP L d) (k.toNat - p.1.length) p.2).1, (iterN (nestP L d) (k.toNat - p.1.length) p.2).2)) ([], i + 1) ⟨by simp, by simp only; omega, he, by simp [eq]⟩ ?_ ?_
    · simp [go_sem, lwAnn, lwSt, encL]
    · rintro ⟨acc, m⟩ ⟨ha, hm1, ho, hq⟩ ih
      simp only at ha hm1 ho hq
      have hqw : wNL q.1 = wNL acc + wNL (iterN (nestP L d) (k.toNat - acc.length) m).1 := by rw [hq, wNL_app]
      have hacc := encL_le acc
      have hlen : (b ++ encL acc).length = b.length + (encL acc).length := List.length_append
      simp (decide := true) (disch := first | omega | (simp only [List.length_map, List.length_cons, List.length_append, List.length_nil]; omega)) only [lwSt, hg, if_pos, go_sem, Nat.reduceAdd, Nat.reduceMul, Nat.reduceSub]
      refine Runs.split (fun h => ?_) (fun h => ?_)
      · have hj : (acc.length : Int) < k := by simpa using h
        rw [show k.toNat - acc.length = (k.toNat - acc.length - 1) + 1 by omega, iterO] at ho
        rw [show k.toNat - acc.length = (k.toNat - acc.length - 1) + 1 by omega, iterN] at hq hqw
        cases e : endP L d m with
        | none => rw [e] at ho; simp at ho
        | some m2 =>
          rw [e] at ho
          have hc := IH m m2 e
          have hw := (nestP_wt d m m2 e).1
          have hle := endP_le _ _ _ e
          rw [hw] at hc hq
          simp only [wNL] at hqw
          generalize (nestP L d m).1 = nd at hc hq hqw
          have hnd := enc_le nd
          simp (decide := true) (disch := first | omega | (simp only [List.length_map, List.length_cons, List.length_append, List.length_nil]; omega)) only [if_pos, go_sem, Nat.reduceAdd, Nat.reduceMul, Nat.reduceSub]
          refine Runs.call hc ?_
          simp (decide := true) (maxSteps := 2000000) (disch := first | omega | (simp only [List.length_map, List.length_cons, List.length_append, List.length_nil]; omega)) only [hlen, if_pos, go_sem, Nat.reduceAdd, Nat.reduceMul, Nat.reduceSub]
          refine ih (acc ++ [nd], m2) _ (by simp; omega) ⟨by simp; omega, by simp only; omega, ?_, ?_⟩ ?_
          · simp only [List.length_append, List.length_cons, List.length_nil]
            rw [← ho, show k.toNat - (acc.length + (0 + 1)) = k.toNat - acc.length - 1 by omega]
          · simp only [List.length_append, List.length_cons, List.length_nil, List.append_assoc]
            rw [hq, show k.toNat - (acc.length + (0 + 1)) = k.toNat - acc.length - 1 by omega]
            simp
          · simp [go_sem, lwAnn, lwSt, encL_app, encL_one, Nat.add_assoc]
      · have hj : ¬ (acc.length : Int) < k := by simpa using h
        rw [show k.toNat - acc.length = 0 by omega, iterN, List.append_nil] at hq
        subst hq
        have h7 := l7Len_length (b ++ encL acc).length
        have h8 := l7Len_length (b.length + (encL acc).length)
        simp only at hwt hqw
        simp (decide := true) only [go_sem, Nat.reduceAdd, Nat.reduceMul, Nat.reduceSub]
        refine Runs.draw (st1 := ?s1) (draws_by (ann := lwAnn) tabOk lwSch (by kernel_rfl) ?p1) ?q1
        case p1 =>
          intro K r X hK
          have h7L := l7Length hm (b ++ encL acc).length (by omega)
          simp (decide := true) (disch := first | omega | (simp only [List.length_map, List.length_cons, List.length_append, List.length_nil]; omega)) only [hg, if_pos, go_sem, Nat.reduceAdd, Nat.reduceMul, Nat.reduceSub]
          repeat' apply And.intro
          all_goals
            refine Runs.call h7L ?_
            simp (decide := true) (disch := first | omega | (simp only [List.length_map, List.length_cons, List.length_append, List.length_nil]; omega)) only [hlen, if_pos, go_sem, Nat.reduceAdd, Nat.reduceMul, Nat.reduceSub]
            exact hK
        case q1 =>
          simp (decide := true) (disch := first | omega | (simp only [List.length_map, List.length_cons, List.length_append, List.length_nil]; omega)) only [hlen, if_pos, go_sem, Nat.reduceAdd, Nat.reduceMul, Nat.reduceSub]
          refine Runs.ret_eq ?_
          simp [enc, ib, u8A]
end Go.Proofs.W

namespace Go.Proofs.W
open Go Go.AM
set_option linter.unusedSimpArgs false
set_option linter.unusedVariables false
variable (hm : Try.prog.follows .mixedOrders = true)

theorem wNL_take (l : List Nd) (i : Nat) : wNL (l.take i) ≤ wNL l := by
  have := wNL_app (l.take i) (l.drop i)
  rw [List.take_append_drop] at this
  omega
theorem wN_get {ks : List Nd} {i : Nat} (h : i < ks.length) : wN ks[i] ≤ wNL ks := by
  have h1 := wNL_take ks (i + 1)
  rw [List.take_succ_eq_append_getElem h, wNL_app] at h1
  simp only [wNL] at h1
  omega
def byAnn : Ann := [(0, [1, 3, 11, 12, 13])]
def bySch : Sched := .take 0 (.take 1 (.take 2 (.take 3 (.take 4 (.alt 5 (.alt 6 (.alt 7 (.alt 8 (.take 9 .fin) .nil) .nil) .nil) (.alt 6 (.alt 5 (.alt 7 (.alt 8 (.take 9 .fin) .nil) .nil) (.alt 7 (.alt 5 (.alt 8 (.take 9 .fin) .nil) .nil) .nil)) .nil))))))
def bySt (t : Int) (b : List Int) (ks : List Nd) : Nat → St
  | 0 => ⟨[.any, .ptr [.agg [.v (.int .i64 t), .sl .sh (b.map u8A), .sl .sh (nodesS ks)]] 0 0, .any, .sl .sh (b.map u8A), .any, .any, .any, .any, .any, .any, .any, .sl .sh (nodesS ks), .v (.int .i64 ks.length), .v (.int .i64 0), .any, .any, .any, .any, .any, .any, .any, .any, .any, .any, .any, .any, .any, .any, .any, .any, .any, .any, .any, .any, .any, .any, .any, .any, .any, .any, .any, .any, .any, .any, .any, .any, .any, .any, .any, .any, .any, .any, .any, .any, .any, .any, .any, .any, .any, .any], [], []⟩
  | i + 1 => ⟨[.any, .ptr [.agg [.v (.int .i64 t), .sl .sh (b.map u8A), .sl .sh (nodesS ks)]] 0 0, .any, .ms (.l 0) 0 (encL (ks.take (i + 1))).length (encL (ks.take (i + 1))).length, .any, .any, .any, .any, .any, .any, .any, .sl .sh (nodesS ks), .v (.int .i64 ks.length), .v (.int .i64 (i + 1 : Nat)), .any, .any, .any, .any, .any, .any, .any, .any, .any, .any, .any, .any, .any, .any, .any, .any, .any, .any, .any, .any, .any, .any, .any, .any, .any, .any, .any, .any, .any, .any, .any, .any, .any, .any, .any, .any, .any, .any, .any, .any, .any, .any, .any, .any, .any, .any], [(0, ⟨true, 1, false, (encL (ks.take (i + 1))).map u8A⟩)], []⟩
attribute [local go_sem] bySch
set_option maxRecDepth 10000 in
set_option maxHeartbeats 2000000 in
include hm in
theorem bytes : ∀ (m : Nat) (n : Nd), szN n ≤ m → okN n → wN n ≤ 1000000 → kidsLe 1000000 n → Holds Try.prog 50 [nodeS n] [] (.sl (.ow 1) ((enc n).map u8A)) [] := by
  intro m
  induction m with
  | zero => intro n h; cases n; simp [szN] at h
  | succ m IH =>
    rintro ⟨t, b, ks⟩ hz ⟨hk1, hk2⟩ hw ⟨hl1, hl2⟩
    simp only [szN] at hz
    simp only [wN] at hw
    refine holds_ref (ann := byAnn) tabOk hm (byL [] [1000001]) Try.func50 (by kernel_rfl) rfl ?_
    simp (decide := true) only [Try.f50, nodeS, go_sem, Nat.reduceAdd, Nat.reduceMul, Nat.reduceSub]
    refine Runs.while (α := Nat) (bySt t b ks) (fun i => ks.length - i) (fun i => i ≤ ks.length) 0 (by omega) ?_ ?_
    · simp [go_sem, byAnn, bySt]
    · intro i hi ih
      cases i with
      | zero =>
        cases ks with
        | nil =>
          simp (decide := true) (disch := first | omega | (simp only [List.length_map, List.length_cons, List.length_append, List.length_nil]; omega)) only [bySt, nodesS, if_pos, go_sem, Nat.reduceAdd, Nat.reduceMul, Nat.reduceSub]
          have hB : b.length ≤ 1000000 := by omega
          refine Runs.split (fun h1 => ?_) (fun h1 => ?_)
          · simp only [decide_eq_true_eq] at h1
            have w8 : IntKind.u8.wrap ((b.length : Nat) : Int) = (b.length : Nat) := wrap_u8 (by omega) (by omega)
            have e7 : l7Len b.length = [ib b.length] := by rw [l7Len, if_pos (by omega)]
            simp (decide := true) (disch := first | omega | (simp only [List.length_map, List.length_cons, List.length_append, List.length_nil]; omega)) only [if_pos, go_sem, Nat.reduceAdd, Nat.reduceMul, Nat.reduceSub]
            refine Runs.ret_eq ?_
            simp [enc, encL, e7, ib, u8A, w8]
          · simp only [decide_eq_false_iff_not] at h1
            simp (decide := true) only [go_sem, Nat.reduceAdd, Nat.reduceMul, Nat.reduceSub]
            refine Runs.split (fun h2 => ?_) (fun h2 => ?_)
            · simp only [decide_eq_true_eq] at h2
              have w8 : IntKind.u8.wrap ((b.length : Nat) : Int) = (b.length : Nat) := wrap_u8 (by omega) (by omega)
              have e7 : l7Len b.length = [129, ib b.length] := by rw [l7Len, if_neg (by omega), if_pos (by omega)]
              simp (decide := true) (disch := first | omega | (simp only [List.length_map, List.length_cons, List.length_append, List.length_nil]; omega)) only [if_pos, go_sem, Nat.reduceAdd, Nat.reduceMul, Nat.reduceSub]
              refine Runs.ret_eq ?_
              simp [enc, encL, e7, ib, u8A, w8]
            · simp only [decide_eq_false_iff_not] at h2
              have e7 : l7Len b.length = [130, ib (b.length / 256 : Nat), ib b.length] := by rw [l7Len, if_neg (by omega), if_neg (by omega)]
              simp (decide := true) (disch := first | omega | (simp only [List.length_map, List.length_cons, List.length_append, List.length_nil]; omega)) only [shr8n, if_pos, go_sem, Nat.reduceAdd, Nat.reduceMul, Nat.reduceSub]
              refine Runs.ret_eq ?_
              simp [enc, encL, e7, ib, u8A]
        | cons k0 ks0 =>
          have hb : b = [] := by simpa using hk1
          have hlt : 0 < (k0 :: ks0).length := by simp
          subst hb
          generalize k0 :: ks0 = ks at *
          have e5 := IH ks[0] (by have := szN_get hlt; omega) (okN_get hlt hk2) (by have := wN_get hlt; omega) (kidsLe_get hlt hl2)
          have e6 := nodesS_get hlt
          have e8 := enc_le ks[0]
          have e9 := wN_get hlt
          have e10 : encL (ks.take 1) = enc ks[0] := by rw [List.take_succ_eq_append_getElem hlt]; simp [encL]
          generalize ks[0] = k at *
          obtain ⟨t', b', ks'⟩ := k
          rw [nodeS] at e5 e6
          have e6' : (nodesS ks).getD (Int.toNat 0) .any = _ := e6
          simp (decide := true) only [bySt, go_sem, Nat.reduceAdd, Nat.reduceMul, Nat.reduceSub]
          refine Runs.split (fun h => ?_) (fun h => ?_)
          · simp (decide := true) (disch := first | omega | (simp only [List.length_map, List.length_cons, List.length_append, List.length_nil]; omega)) only [e6', if_pos, go_sem, Nat.reduceAdd, Nat.reduceMul, Nat.reduceSub]
            refine Runs.draw (st1 := ?s1) (draws_ref (ann := byAnn) tabOk (byL [] [1000001]) bySch (by kernel_rfl) ?p1) ?q1
            case p1 =>
              intro K r X hK
              simp (decide := true) (disch := first | omega | (simp only [List.length_map, List.length_cons, List.length_append, List.length_nil]; omega)) only [if_pos, go_sem, Nat.reduceAdd, Nat.reduceMul, Nat.reduceSub]
              repeat' apply And.intro
              all_goals
                refine Runs.call e5 ?_
                simp (decide := true) (disch := first | omega | (simp only [List.length_map, List.length_cons, List.length_append, List.length_nil]; omega)) only [if_pos, go_sem, Nat.reduceAdd, Nat.reduceMul, Nat.reduceSub]
                exact hK
            case q1 =>
              simp (decide := true) (disch := first | omega | (simp only [List.length_map, List.length_cons, List.length_append, List.length_nil]; omega)) only [if_pos, go_sem, Nat.reduceAdd, Nat.reduceMul, Nat.reduceSub]
              refine ih 1 _ (by omega) (by omega) ?_
              simp [go_sem, byAnn, bySt, e10]
          · have := of_decide_eq_false h; omega
      | succ i =>
        have hlen := encL_le (ks.take (i + 1))
        have hlw := wNL_take ks (i + 1)
        simp (decide := true) only [bySt, go_sem, Nat.reduceAdd, Nat.reduceMul, Nat.reduceSub]
        refine Runs.split (fun h => ?_) (fun h => ?_)
        · have hlt : i + 1 < ks.length := by simp at h; omega
          have e5 := IH ks[i + 1] (by have := szN_get hlt; omega) (okN_get hlt hk2) (by have := wN_get hlt; omega) (kidsLe_get hlt hl2)
          have e6 := nodesS_get hlt
          have e8 := enc_le ks[i + 1]
          have e9 := wN_get hlt
          have e10 : encL (ks.take (i + 2)) = encL (ks.take (i + 1)) ++ enc ks[i + 1] := by rw [List.take_succ_eq_append_getElem hlt, encL_app, encL_one]
          have e11 : wNL (ks.take (i + 1)) + wN ks[i + 1] ≤ wNL ks := by
            have := wNL_take ks (i + 2)
            rw [List.take_succ_eq_append_getElem hlt, wNL_app] at this
            simpa [wNL] using this
          generalize ks[i + 1] = k at *
          obtain ⟨t', b', ks'⟩ := k
          rw [nodeS] at e5 e6
          have hw1 : IntKind.i64.wrap (((i + 1 : Nat) : Int) + 1) = ((i + 1 + 1 : Nat) : Int) := by rw [wrap_i64 (by omega) (by omega)]; omega
          simp (decide := true) (disch := first | omega | (simp only [List.length_map, List.length_cons, List.length_append, List.length_nil]; omega)) only [e6, if_pos, go_sem, Nat.reduceAdd, Nat.reduceMul, Nat.reduceSub]
          refine Runs.draw (st1 := ?s2) (draws_ref (ann := byAnn) tabOk (byL [] [1000001]) bySch (by kernel_rfl) ?p2) ?q2
          case p2 =>
            intro K r X hK
            simp (decide := true) (disch := first | omega | (simp only [List.length_map, List.length_cons, List.length_append, List.length_nil]; omega)) only [if_pos, go_sem, Nat.reduceAdd, Nat.reduceMul, Nat.reduceSub]
            repeat' apply And.intro
            all_goals
              refine Runs.call e5 ?_
              simp (decide := true) (disch := first | omega | (simp only [List.length_map, List.length_cons, List.length_append, List.length_nil]; omega)) only [if_pos, go_sem, Nat.reduceAdd, Nat.reduceMul, Nat.reduceSub]
              exact hK
          case q2 =>
            simp (decide := true) (disch := first | omega | (simp only [List.length_map, List.length_cons, List.length_append, List.length_nil]; omega)) only [hw1, if_pos, go_sem, Nat.reduceAdd, Nat.reduceMul, Nat.reduceSub]
            refine ih (i + 1 + 1) _ (by omega) (by omega) ?_
            simp [go_sem, byAnn, bySt, e10]
        · have hge : ks.length = i + 1 := by simp at h; omega
          have hb : b = [] := by
            rcases hk1 with h | h
            · subst h; simp at hge
            · exact h
          have ht : ks.take (i + 1) = ks := by rw [← hge, List.take_length]
          subst hb
          rw [ht] at hlen hlw
          simp (decide := true) (disch := first | omega | (simp only [List.length_map, List.length_cons, List.length_append, List.length_nil]; omega)) only [ht, if_pos, go_sem, Nat.reduceAdd, Nat.reduceMul, Nat.reduceSub]
          have hB : (encL ks).length ≤ 1000000 := by omega
          refine Runs.split (fun h1 => ?_) (fun h1 => ?_)
          · simp only [decide_eq_true_eq] at h1
            have w8 : IntKind.u8.wrap (((encL ks).length : Nat) : Int) = ((encL ks).length : Nat) := wrap_u8 (by omega) (by omega)
            have e7 : l7Len (encL ks).length = [ib (encL ks).length] := by rw [l7Len, if_pos (by omega)]
            simp (decide := true) (disch := first | omega | (simp only [List.length_map, List.length_cons, List.length_append, List.length_nil]; omega)) only [if_pos, go_sem, Nat.reduceAdd, Nat.reduceMul, Nat.reduceSub]
            refine Runs.ret_eq ?_
            simp [enc, e7, ib, u8A, w8]
          · simp only [decide_eq_false_iff_not] at h1
            simp (decide := true) only [go_sem, Nat.reduceAdd, Nat.reduceMul, Nat.reduceSub]
            refine Runs.split (fun h2 => ?_) (fun h2 => ?_)
            · simp only [decide_eq_true_eq] at h2
              have w8 : IntKind.u8.wrap (((encL ks).length : Nat) : Int) = ((encL ks).length : Nat) := wrap_u8 (by omega) (by omega)
              have e7 : l7Len (encL ks).length = [129, ib (encL ks).length] := by rw [l7Len, if_neg (by omega), if_pos (by omega)]
              simp (decide := true) (disch := first | omega | (simp only [List.length_map, List.length_cons, List.length_append, List.length_nil]; omega)) only [if_pos, go_sem, Nat.reduceAdd, Nat.reduceMul, Nat.reduceSub]
              refine Runs.ret_eq ?_
              simp [enc, e7, ib, u8A, w8]
            · simp only [decide_eq_false_iff_not] at h2
              have e7 : l7Len (encL ks).length = [130, ib ((encL ks).length / 256 : Nat), ib (encL ks).length] := by rw [l7Len, if_neg (by omega), if_neg (by omega)]
              simp (decide := true) (disch := first | omega | (simp only [List.length_map, List.length_cons, List.length_append, List.length_nil]; omega)) only [shr8n, if_pos, go_sem, Nat.reduceAdd, Nat.reduceMul, Nat.reduceSub]
              refine Runs.ret_eq ?_
              simp [enc, e7, ib, u8A]
end Go.Proofs.W

namespace Go.Proofs.W
open Go Go.AM
set_option linter.unusedSimpArgs false
set_option linter.unusedVariables false
variable (hm : Try.prog.follows .mixedOrders = true)

def sumB (L : List It) : Nat := (L.map fun x => x.body.length).sum
def derN (L : List It) : Nd := (nestP L 13 0).1
def derOk (L : List It) : Bool := treeOk L && decide (sumB L ≤ 4000) && decide ((enc (derN L)).length ≤ 4000)
def derB (L : List It) : List Int := if derOk L = true then enc (derN L) else []
def derA (L : List It) : A := .tup [.sl (.ow 1) ((derB L).map u8A), .v (.bool (derOk L))]
def sumT (L : List It) (i : Nat) : Nat := sumB (L.take i)
theorem sumT_succ {L : List It} {i : Nat} (h : i < L.length) : sumT L (i + 1) = sumT L i + L[i].body.length := by
  rw [sumT, List.take_succ_eq_append_getElem h, sumB, List.map_append, List.sum_append]
  rw [List.map_cons, List.map_nil, List.sum_cons, List.sum_nil, Nat.add_zero]
  rfl
theorem sumT_all (L : List It) : sumT L L.length = sumB L := by rw [sumT, List.take_length]
theorem sumT_le (L : List It) (i : Nat) : sumT L i ≤ sumB L := by
  rw [sumT, sumB, sumB, List.map_take]
  exact sum_take_le _ _
theorem wI_sum (L : List It) : wI L L.length = sumB L + 4 * L.length := by
  rw [wI, List.take_length, sumB]
  induction L with
  | nil => rfl
  | cons x L ih => simp only [List.map_cons, List.sum_cons, List.length_cons, ih]; omega
mutual
theorem kidsLe_w : ∀ {m : Nat} (n : Nd), wN n ≤ m → kidsLe m n
  | m, .mk t b ks, h => by
    simp only [wN] at h
    exact ⟨by have := len_w ks; omega, kidsLeL_w ks (by omega)⟩
theorem kidsLeL_w : ∀ {m : Nat} (l : List Nd), wNL l ≤ m → kidsLeL m l
  | m, [], h => trivial
  | m, n :: r, h => by
    simp only [wNL] at h
    exact ⟨kidsLe_w n (by omega), kidsLeL_w r (by omega)⟩
theorem len_w : ∀ (l : List Nd), l.length ≤ wNL l
  | [] => by simp
  | .mk t b ks :: r => by
    have := len_w r
    simp only [wNL, wN, List.length_cons]
    omega
end
theorem tree_end {L : List It} (h : treeOk L = true) : endP L 13 0 = some L.length := by
  simp only [treeOk, Bool.and_eq_true, decide_eq_true_eq] at h
  have := h.2
  cases e : endP L 13 0 with
  | none => rw [e, endI] at this; omega
  | some n => rw [e, endI] at this; congr 1; omega
theorem tree_len {L : List It} (h : treeOk L = true) : L.length ≤ 300 := by
  simp only [treeOk, inB, Bool.and_eq_true, decide_eq_true_eq] at h
  omega
theorem tree_all {L : List It} (h : treeOk L = true) : L.all itOk = true := by
  simp only [treeOk, Bool.and_eq_true, decide_eq_true_eq] at h
  exact h.1.2
theorem der_wt {L : List It} (h : treeOk L = true) : wN (derN L) = sumB L + 4 * L.length := by
  have h1 := (nestP_wt 13 0 _ (tree_end h)).2
  have h2 : wI L 0 = 0 := rfl
  rw [wI_sum, h2] at h1
  exact h1
theorem der_no {L : List It} (h : derOk L = false) : derA L = .tup [.sl (.ow 1) [], .v (.bool false)] := by
  rw [derA, derB, h]; rfl
def wdAnn : Ann := [(0, [0, 4, 5])]
def wdSt (L : List It) (i : Nat) : St := ⟨[.sl .sh (L.map itemS), .any, .any, .any, .v (.int .i64 (sumT L i)), .v (.int .i64 i), .any, .any, .any, .any, .any, .any, .any, .any, .any, .any, .any, .any, .any, .any, .any, .any, .any, .any, .any, .any, .any, .any, .any, .any, .any, .any, .any, .any, .any, .any, .any, .any, .any, .any, .any, .any, .any, .any, .any, .any, .any], [], []⟩
set_option maxRecDepth 10000 in
include hm in
theorem specWriteDer (L : List It) (hl : L.length ≤ 1000000) : Holds Try.prog 17 [.sl .sh (L.map itemS)] [] (derA L) [] := by
  refine holds_of (ann := wdAnn) tabOk hm Try.func17 (by kernel_rfl) rfl ?_
  simp (decide := true) only [Try.f17, go_sem, Nat.reduceAdd, Nat.reduceMul, Nat.reduceSub]
  refine Runs.call (specTreeOk hm L hl) ?_
  simp (decide := true) only [go_sem, Nat.reduceAdd, Nat.reduceMul, Nat.reduceSub]
  refine Runs.split (fun h => ?_) (fun h => ?_)
  · have h' : treeOk L = false := by simpa using h
    simp (decide := true) only [go_sem, Nat.reduceAdd, Nat.reduceMul, Nat.reduceSub]
    exact Runs.ret_eq (by rw [der_no (by simp [derOk, h'])])
  · have h' : treeOk L = true := by simpa using h
    have hlen := tree_len h'
    simp (decide := true) only [go_sem, Nat.reduceAdd, Nat.reduceMul, Nat.reduceSub]
    refine Runs.while (α := Nat) (wdSt L) (fun i => L.length - i) (fun i => i ≤ L.length ∧ sumT L i ≤ 4000 * i) 0 ⟨by omega, by simp [sumT, sumB]⟩ ?_ ?_
    · simp [go_sem, wdAnn, wdSt, sumT, sumB]
    · rintro i ⟨hi, hs⟩ ih
      simp (decide := true) only [wdSt, go_sem, Nat.reduceAdd, Nat.reduceMul, Nat.reduceSub]
      refine Runs.split (fun h => ?_) (fun h => ?_)
      · have hlt : i < L.length := by simpa using h
        have hsu := sumT_succ hlt
        have hle := sumT_le L (i + 1)
        simp (decide := true) (disch := first | omega | (simp only [List.length_map, List.length_cons, List.length_append, List.length_nil]; omega)) only [getItem hlt, if_pos, go_sem, Nat.reduceAdd, Nat.reduceMul, Nat.reduceSub]
        refine Runs.split (fun h => ?_) (fun h => ?_)
        · have hb : 4000 < L[i].body.length := by simp at h; omega
          simp (decide := true) (disch := first | omega | (simp only [List.length_map, List.length_cons, List.length_append, List.length_nil]; omega)) only [if_pos, go_sem, Nat.reduceAdd, Nat.reduceMul, Nat.reduceSub]
          refine Runs.ret_eq (by rw [der_no]; simp [derOk]; omega)
        · have hb : ¬ 4000 < L[i].body.length := by simp at h; omega
          have hw1 : IntKind.i64.wrap ((sumT L i : Int) + (L[i].body.length : Int)) = (sumT L i : Int) + (L[i].body.length : Int) := wrap_i64 (by omega) (by omega)
          simp (decide := true) (disch := first | omega | (simp only [List.length_map, List.length_cons, List.length_append, List.length_nil]; omega)) only [hw1, if_pos, go_sem, Nat.reduceAdd, Nat.reduceMul, Nat.reduceSub]
          refine ih (i + 1) _ (by omega) ⟨by omega, by omega⟩ ?_
          simp [go_sem, wdAnn, wdSt, hsu, hw1]
      · have hge : i = L.length := by simp at h; omega
        subst hge
        rw [sumT_all]
        simp (decide := true) only [go_sem, Nat.reduceAdd, Nat.reduceMul, Nat.reduceSub]
        refine Runs.split (fun h => ?_) (fun h => ?_)
        · have hb : 4000 < sumB L := by simp at h; omega
          simp (decide := true) only [go_sem, Nat.reduceAdd, Nat.reduceMul, Nat.reduceSub]
          refine Runs.ret_eq (by rw [der_no]; simp [derOk]; omega)
        · have hb : sumB L ≤ 4000 := by simp at h; omega
          have hw := enc_le (derN L)
          rw [der_wt h'] at hw
          simp (decide := true) only [go_sem, Nat.reduceAdd, Nat.reduceMul, Nat.reduceSub]
          refine Runs.call (l7Write hm L (kidsOk_of (tree_all h')) hl (by rw [wI_sum]; omega) 13 0 L.length (tree_end h')) ?_
          rw [show (nestP L 13 0).1 = derN L from rfl]
          simp (decide := true) (disch := first | omega | (simp only [List.length_map, List.length_cons, List.length_append, List.length_nil]; omega)) only [if_pos, go_sem, Nat.reduceAdd, Nat.reduceMul, Nat.reduceSub]
          refine Runs.split (fun h => ?_) (fun h => ?_)
          · have hd : derOk L = false := by simp at h; simp [derOk, h', hb]; omega
            simp (decide := true) (disch := first | omega | (simp only [List.length_map, List.length_cons, List.length_append, List.length_nil]; omega)) only [if_pos, go_sem, Nat.reduceAdd, Nat.reduceMul, Nat.reduceSub]
            refine Runs.ret_eq (by rw [der_no hd])
          · have hd : derOk L = true := by simp at h; simp [derOk, h', hb]; omega
            simp (decide := true) (disch := first | omega | (simp only [List.length_map, List.length_cons, List.length_append, List.length_nil]; omega)) only [if_pos, go_sem, Nat.reduceAdd, Nat.reduceMul, Nat.reduceSub]
            refine Runs.ret_eq (by rw [derA, derB, hd]; simp)
def weAnn : Ann := [(0, [0, 4, 10, 11, 12])]
def weSt (L : List It) (i : Nat) : St := ⟨[.sl .sh (L.map itemS), .any, .any, .any, .v (.int .i64 (sumT L i)), .any, .any, .any, .any, .any, .sl .sh (L.map itemS), .v (.int .i64 L.length), .v (.int .i64 i), .any, .any, .any, .any, .any, .any, .any, .any, .any, .any, .any, .any, .any, .any, .any, .any, .any, .any, .any, .any, .any, .any, .any, .any, .any, .any, .any], [], []⟩
set_option maxRecDepth 10000 in
include hm in
theorem implWriteDer (L : List It) (hl : L.length ≤ 1000000) (hb : ∀ x ∈ L, x.body.length ≤ 1073741824) : Holds Try.prog 25 [.sl .sh (L.map itemS)] [] (derA L) [] := by
  refine holds_of (ann := weAnn) tabOk hm Try.func25 (by kernel_rfl) rfl ?_
  simp (decide := true) only [Try.f25, go_sem, Nat.reduceAdd, Nat.reduceMul, Nat.reduceSub]
  refine Runs.while (α := Nat) (weSt L) (fun i => L.length - i) (fun i => i ≤ L.length ∧ sumT L i ≤ 1073741824 * i) 0 ⟨by omega, by simp [sumT, sumB]⟩ ?_ ?_
  · simp [go_sem, weAnn, weSt, sumT, sumB]
  · rintro i ⟨hi, hs⟩ ih
    simp (decide := true) only [weSt, go_sem, Nat.reduceAdd, Nat.reduceMul, Nat.reduceSub]
    refine Runs.split (fun h => ?_) (fun h => ?_)
    · have hlt : i < L.length := by simpa using h
      have hsu := sumT_succ hlt
      have hx := hb L[i] (List.getElem_mem hlt)
      simp (decide := true) (disch := first | omega | (simp only [List.length_map, List.length_cons, List.length_append, List.length_nil]; omega)) only [getItem hlt, if_pos, go_sem, Nat.reduceAdd, Nat.reduceMul, Nat.reduceSub]
      refine ih (i + 1) _ (by omega) ⟨by omega, by omega⟩ ?_
      simp [go_sem, weAnn, weSt, hsu]
    · have hge : i = L.length := by simp at h; omega
      subst hge
      rw [sumT_all]
      simp (decide := true) only [go_sem, Nat.reduceAdd, Nat.reduceMul, Nat.reduceSub]
      refine Runs.call (implTreeOk hm L hl) ?_
      simp (decide := true) only [go_sem, Nat.reduceAdd, Nat.reduceMul, Nat.reduceSub]
      refine Runs.split (fun h => ?_) (fun h => ?_)
      · have h' : treeOk L = false := by simpa using h
        simp (decide := true) only [h', go_sem, Nat.reduceAdd, Nat.reduceMul, Nat.reduceSub]
        refine Runs.ret ?_ rfl
        rw [der_no (by simp [derOk, h'])]
        exact .tup (.nils _ (.same _ .nil)) .nil
      · have h' : treeOk L = true := by simpa using h
        have hlen := tree_len h'
        simp (decide := true) only [h', go_sem, Nat.reduceAdd, Nat.reduceMul, Nat.reduceSub]
        refine Runs.split (fun h => ?_) (fun h => ?_)
        · have hb : 4000 < sumB L := by simp at h; omega
          simp (decide := true) only [go_sem, Nat.reduceAdd, Nat.reduceMul, Nat.reduceSub]
          refine Runs.ret ?_ rfl
          rw [der_no (by simp [derOk]; omega)]
          exact .tup (.nils _ (.same _ .nil)) .nil
        · have hb : sumB L ≤ 4000 := by simp at h; omega
          have hwt := der_wt h'
          have hw := enc_le (derN L)
          rw [der_wt h'] at hw
          have hc := nested hm L (kidsOk_of (tree_all h')) hl 13 0 L.length (tree_end h')
          have hy := bytes hm _ (derN L) (Nat.le_refl _) (nestP_ok (tree_all h') 13 0) (by omega) (kidsLe_w _ (by omega))
          rw [show (nestP L 13 0).1 = derN L from rfl] at hc
          have ed : (if sumB L ≤ 4000 ∧ (enc (derN L)).length ≤ 4000 then derA L = .tup [.sl (.ow 1) ((enc (derN L)).map u8A), .v (.bool true)] else derA L = .tup [.sl (.ow 1) [], .v (.bool false)]) := by
            split
            · rename_i h1
              have : derOk L = true := by simp [derOk, h', h1]
              rw [derA, derB, this]; simp
            · rename_i h1
              exact der_no (by simp [derOk, h', hb] at h1 ⊢; omega)
          generalize derN L = nd at hc hy ed hw hwt
          obtain ⟨t', b', ks'⟩ := nd
          rw [nodeM] at hc
          rw [nodeS] at hy
          simp (decide := true) (disch := first | omega | (simp only [List.length_map, List.length_cons, List.length_append, List.length_nil]; omega)) only [if_pos, go_sem, Nat.reduceAdd, Nat.reduceMul, Nat.reduceSub]
          refine Runs.call hc ?_
          simp (decide := true) (disch := first | omega | (simp only [List.length_map, List.length_cons, List.length_append, List.length_nil]; omega)) only [if_pos, go_sem, Nat.reduceAdd, Nat.reduceMul, Nat.reduceSub]
          refine Runs.call hy ?_
          generalize enc (Nd.mk t' b' ks') = E at *
          simp (decide := true) (disch := first | omega | (simp only [List.length_map, List.length_cons, List.length_append, List.length_nil]; omega)) only [if_pos, go_sem, Nat.reduceAdd, Nat.reduceMul, Nat.reduceSub]
          refine Runs.split (fun h => ?_) (fun h => ?_)
          · rw [if_neg (by simp at h; omega)] at ed
            simp (decide := true) only [go_sem, Nat.reduceAdd, Nat.reduceMul, Nat.reduceSub]
            refine Runs.ret ?_ rfl
            rw [ed]
            exact .tup (.nils _ (.same _ .nil)) .nil
          · rw [if_pos (by simp at h; omega)] at ed
            simp (decide := true) (disch := first | omega | (simp only [List.length_map, List.length_cons, List.length_append, List.length_nil]; omega)) only [if_pos, go_sem, Nat.reduceAdd, Nat.reduceMul, Nat.reduceSub]
            exact Runs.ret_eq (by rw [ed])
end Go.Proofs.W
