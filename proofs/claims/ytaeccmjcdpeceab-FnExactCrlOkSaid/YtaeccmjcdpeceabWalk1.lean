import Derived.Test.YtaeccmjcdpeceabProg
import Derived.KernelRfl
import Derived.Test.YtaeccmjcdpeceabMachine2
set_option linter.unusedVariables false
set_option linter.unusedSimpArgs false
namespace Go.Proofs.W
open Go Go.AM
def tab : Go.AM.Tab := [
  [⟨.other, 0, 0, []⟩,
   ⟨.func, 1, 8, [.nilFunc]⟩,
   ⟨.int .i64, 1, 8, [.int .i64 0]⟩,
   ⟨.int .i64, 1, 8, [.int .i64 0]⟩,
   ⟨.bool, 1, 1, [.bool false]⟩,
   ⟨.int .u8, 1, 1, [.int .u8 0]⟩,
   ⟨.int .u8, 1, 1, [.int .u8 0]⟩,
   ⟨.struct [(0, 1, 2), (1, 1, 3), (2, 1, 4), (3, 1, 6)], 4, 24, [.int .i64 0, .int .i64 0, .bool false, .int .u8 0]⟩,
   ⟨.struct [(0, 1, 2), (1, 1, 3), (2, 1, 4), (3, 1, 6)], 4, 24, [.int .i64 0, .int .i64 0, .bool false, .int .u8 0]⟩,
   ⟨.string, 1, 16, [.string ⟨#[]⟩]⟩,
   ⟨.string, 1, 16, [.string ⟨#[]⟩]⟩,
   ⟨.string, 1, 16, [.string ⟨#[]⟩]⟩,
   ⟨.int .u64, 1, 8, [.int .u64 0]⟩,
   ⟨.struct [(0, 1, 9), (1, 1, 12)], 2, 24, [.string ⟨#[]⟩, .int .u64 0]⟩,
   ⟨.struct [(0, 1, 9), (1, 1, 12)], 2, 24, [.string ⟨#[]⟩, .int .u64 0]⟩,
   ⟨.pointer 49, 1, 8, [.pointer none]⟩],
  [⟨.pointer 52, 1, 8, [.pointer none]⟩,
   ⟨.pointer 62, 1, 8, [.pointer none]⟩,
   ⟨.struct [(0, 1, 17)], 1, 8, [.pointer none]⟩,
   ⟨.struct [(0, 1, 17)], 1, 8, [.pointer none]⟩,
   ⟨.other, 0, 0, []⟩,
   ⟨.int .i32, 1, 4, [.int .i32 0]⟩,
   ⟨.slice 9, 1, 24, [.slice none 0 0]⟩,
   ⟨.slice 3, 1, 24, [.slice none 0 0]⟩,
   ⟨.slice 5, 1, 24, [.slice none 0 0]⟩,
   ⟨.struct [(0, 1, 22), (1, 1, 3), (2, 1, 3), (3, 1, 3), (4, 1, 23), (5, 1, 24)], 6, 96, [.slice none 0 0, .int .i64 0, .int .i64 0, .int .i64 0, .slice none 0 0, .slice none 0 0]⟩,
   ⟨.struct [(0, 1, 22), (1, 1, 3), (2, 1, 3), (3, 1, 3), (4, 1, 23), (5, 1, 24)], 6, 96, [.slice none 0 0, .int .i64 0, .int .i64 0, .int .i64 0, .slice none 0 0, .slice none 0 0]⟩,
   ⟨.func, 1, 8, [.nilFunc]⟩,
   ⟨.func, 1, 8, [.nilFunc]⟩,
   ⟨.struct [(0, 1, 22), (1, 1, 3), (2, 1, 3), (3, 1, 3), (4, 1, 23), (5, 1, 24)], 6, 96, [.slice none 0 0, .int .i64 0, .int .i64 0, .int .i64 0, .slice none 0 0, .slice none 0 0]⟩,
   ⟨.func, 1, 8, [.nilFunc]⟩,
   ⟨.func, 1, 8, [.nilFunc]⟩],
  [⟨.func, 1, 8, [.nilFunc]⟩,
   ⟨.func, 1, 8, [.nilFunc]⟩,
   ⟨.func, 1, 8, [.nilFunc]⟩,
   ⟨.func, 1, 8, [.nilFunc]⟩,
   ⟨.func, 1, 8, [.nilFunc]⟩,
   ⟨.func, 1, 8, [.nilFunc]⟩,
   ⟨.func, 1, 8, [.nilFunc]⟩,
   ⟨.func, 1, 8, [.nilFunc]⟩,
   ⟨.func, 1, 8, [.nilFunc]⟩,
   ⟨.func, 1, 8, [.nilFunc]⟩,
   ⟨.func, 1, 8, [.nilFunc]⟩,
   ⟨.func, 1, 8, [.nilFunc]⟩,
   ⟨.func, 1, 8, [.nilFunc]⟩,
   ⟨.func, 1, 8, [.nilFunc]⟩,
   ⟨.func, 1, 8, [.nilFunc]⟩,
   ⟨.func, 1, 8, [.nilFunc]⟩],
  [⟨.struct [(0, 1, 17), (1, 1, 17), (2, 1, 17), (3, 1, 9)], 4, 40, [.pointer none, .pointer none, .pointer none, .string ⟨#[]⟩]⟩,
   ⟨.struct [(0, 1, 17), (1, 1, 17), (2, 1, 17), (3, 1, 9)], 4, 40, [.pointer none, .pointer none, .pointer none, .string ⟨#[]⟩]⟩,
   ⟨.other, 0, 0, []⟩,
   ⟨.other, 0, 0, []⟩,
   ⟨.other, 0, 0, []⟩,
   ⟨.func, 1, 8, [.nilFunc]⟩,
   ⟨.int .u32, 1, 4, [.int .u32 0]⟩,
   ⟨.int .u8, 1, 1, [.int .u8 0]⟩,
   ⟨.int .u8, 1, 1, [.int .u8 0]⟩,
   ⟨.func, 1, 8, [.nilFunc]⟩,
   ⟨.pointer 5, 1, 8, [.pointer none]⟩,
   ⟨.int .i32, 1, 4, [.int .i32 0]⟩,
   ⟨.int .i32, 1, 4, [.int .i32 0]⟩,
   ⟨.struct [(0, 1, 12), (1, 1, 12), (2, 1, 54), (3, 1, 55), (4, 1, 5), (5, 1, 5), (6, 1, 56), (7, 1, 57), (8, 1, 58), (9, 1, 59), (10, 1, 60)], 11, 48, [.int .u64 0, .int .u64 0, .int .u32 0, .int .u8 0, .int .u8 0, .int .u8 0, .int .u8 0, .nilFunc, .pointer none, .int .i32 0, .int .i32 0]⟩,
   ⟨.struct [(0, 1, 12), (1, 1, 12), (2, 1, 54), (3, 1, 55), (4, 1, 5), (5, 1, 5), (6, 1, 56), (7, 1, 57), (8, 1, 58), (9, 1, 59), (10, 1, 60)], 11, 48, [.int .u64 0, .int .u64 0, .int .u32 0, .int .u8 0, .int .u8 0, .int .u8 0, .int .u8 0, .nilFunc, .pointer none, .int .i32 0, .int .i32 0]⟩,
   ⟨.other, 0, 0, []⟩]]
theorem tabOk : TabOk Try.prog tab := tabOk_of (by kernel_rfl)
theorem row2 : tab.row 2 = ⟨.int .i64, 1, 8, [.int .i64 0]⟩ := Eq.trans rfl rfl
theorem row3 : tab.row 3 = ⟨.int .i64, 1, 8, [.int .i64 0]⟩ := Eq.trans rfl rfl
theorem row4 : tab.row 4 = ⟨.bool, 1, 1, [.bool false]⟩ := Eq.trans rfl rfl
theorem row5 : tab.row 5 = ⟨.int .u8, 1, 1, [.int .u8 0]⟩ := Eq.trans rfl rfl
theorem row6 : tab.row 6 = ⟨.int .u8, 1, 1, [.int .u8 0]⟩ := Eq.trans rfl rfl
theorem row7 : tab.row 7 = ⟨.struct [(0, 1, 2), (1, 1, 3), (2, 1, 4), (3, 1, 6)], 4, 24, [.int .i64 0, .int .i64 0, .bool false, .int .u8 0]⟩ := Eq.trans rfl rfl
theorem row8 : tab.row 8 = ⟨.struct [(0, 1, 2), (1, 1, 3), (2, 1, 4), (3, 1, 6)], 4, 24, [.int .i64 0, .int .i64 0, .bool false, .int .u8 0]⟩ := Eq.trans rfl rfl
theorem row9 : tab.row 9 = ⟨.string, 1, 16, [.string ⟨#[]⟩]⟩ := Eq.trans rfl rfl
theorem row10 : tab.row 10 = ⟨.string, 1, 16, [.string ⟨#[]⟩]⟩ := Eq.trans rfl rfl
theorem row11 : tab.row 11 = ⟨.string, 1, 16, [.string ⟨#[]⟩]⟩ := Eq.trans rfl rfl
theorem row12 : tab.row 12 = ⟨.int .u64, 1, 8, [.int .u64 0]⟩ := Eq.trans rfl rfl
theorem row13 : tab.row 13 = ⟨.struct [(0, 1, 9), (1, 1, 12)], 2, 24, [.string ⟨#[]⟩, .int .u64 0]⟩ := Eq.trans rfl rfl
theorem row14 : tab.row 14 = ⟨.struct [(0, 1, 9), (1, 1, 12)], 2, 24, [.string ⟨#[]⟩, .int .u64 0]⟩ := Eq.trans rfl rfl
theorem row15 : tab.row 15 = ⟨.pointer 49, 1, 8, [.pointer none]⟩ := Eq.trans rfl rfl
theorem row16 : tab.row 16 = ⟨.pointer 52, 1, 8, [.pointer none]⟩ := Eq.trans rfl rfl
theorem row17 : tab.row 17 = ⟨.pointer 62, 1, 8, [.pointer none]⟩ := Eq.trans rfl rfl
theorem row18 : tab.row 18 = ⟨.struct [(0, 1, 17)], 1, 8, [.pointer none]⟩ := Eq.trans rfl rfl
theorem row19 : tab.row 19 = ⟨.struct [(0, 1, 17)], 1, 8, [.pointer none]⟩ := Eq.trans rfl rfl
theorem row21 : tab.row 21 = ⟨.int .i32, 1, 4, [.int .i32 0]⟩ := Eq.trans rfl rfl
theorem row22 : tab.row 22 = ⟨.slice 9, 1, 24, [.slice none 0 0]⟩ := Eq.trans rfl rfl
theorem row23 : tab.row 23 = ⟨.slice 3, 1, 24, [.slice none 0 0]⟩ := Eq.trans rfl rfl
theorem row24 : tab.row 24 = ⟨.slice 5, 1, 24, [.slice none 0 0]⟩ := Eq.trans rfl rfl
theorem row25 : tab.row 25 = ⟨.struct [(0, 1, 22), (1, 1, 3), (2, 1, 3), (3, 1, 3), (4, 1, 23), (5, 1, 24)], 6, 96, [.slice none 0 0, .int .i64 0, .int .i64 0, .int .i64 0, .slice none 0 0, .slice none 0 0]⟩ := Eq.trans rfl rfl
theorem row26 : tab.row 26 = ⟨.struct [(0, 1, 22), (1, 1, 3), (2, 1, 3), (3, 1, 3), (4, 1, 23), (5, 1, 24)], 6, 96, [.slice none 0 0, .int .i64 0, .int .i64 0, .int .i64 0, .slice none 0 0, .slice none 0 0]⟩ := Eq.trans rfl rfl
theorem row29 : tab.row 29 = ⟨.struct [(0, 1, 22), (1, 1, 3), (2, 1, 3), (3, 1, 3), (4, 1, 23), (5, 1, 24)], 6, 96, [.slice none 0 0, .int .i64 0, .int .i64 0, .int .i64 0, .slice none 0 0, .slice none 0 0]⟩ := Eq.trans rfl rfl
theorem row48 : tab.row 48 = ⟨.struct [(0, 1, 17), (1, 1, 17), (2, 1, 17), (3, 1, 9)], 4, 40, [.pointer none, .pointer none, .pointer none, .string ⟨#[]⟩]⟩ := Eq.trans rfl rfl
theorem row49 : tab.row 49 = ⟨.struct [(0, 1, 17), (1, 1, 17), (2, 1, 17), (3, 1, 9)], 4, 40, [.pointer none, .pointer none, .pointer none, .string ⟨#[]⟩]⟩ := Eq.trans rfl rfl
theorem row54 : tab.row 54 = ⟨.int .u32, 1, 4, [.int .u32 0]⟩ := Eq.trans rfl rfl
theorem row55 : tab.row 55 = ⟨.int .u8, 1, 1, [.int .u8 0]⟩ := Eq.trans rfl rfl
theorem row56 : tab.row 56 = ⟨.int .u8, 1, 1, [.int .u8 0]⟩ := Eq.trans rfl rfl
theorem row58 : tab.row 58 = ⟨.pointer 5, 1, 8, [.pointer none]⟩ := Eq.trans rfl rfl
theorem row59 : tab.row 59 = ⟨.int .i32, 1, 4, [.int .i32 0]⟩ := Eq.trans rfl rfl
theorem row60 : tab.row 60 = ⟨.int .i32, 1, 4, [.int .i32 0]⟩ := Eq.trans rfl rfl
theorem row61 : tab.row 61 = ⟨.struct [(0, 1, 12), (1, 1, 12), (2, 1, 54), (3, 1, 55), (4, 1, 5), (5, 1, 5), (6, 1, 56), (7, 1, 57), (8, 1, 58), (9, 1, 59), (10, 1, 60)], 11, 48, [.int .u64 0, .int .u64 0, .int .u32 0, .int .u8 0, .int .u8 0, .int .u8 0, .int .u8 0, .nilFunc, .pointer none, .int .i32 0, .int .i32 0]⟩ := Eq.trans rfl rfl
theorem row62 : tab.row 62 = ⟨.struct [(0, 1, 12), (1, 1, 12), (2, 1, 54), (3, 1, 55), (4, 1, 5), (5, 1, 5), (6, 1, 56), (7, 1, 57), (8, 1, 58), (9, 1, 59), (10, 1, 60)], 11, 48, [.int .u64 0, .int .u64 0, .int .u32 0, .int .u8 0, .int .u8 0, .int .u8 0, .int .u8 0, .nilFunc, .pointer none, .int .i32 0, .int .i32 0]⟩ := Eq.trans rfl rfl
attribute [go_sem] row2 row3 row4 row5 row6 row7 row8 row9 row10 row11 row12 row13 row14 row15 row16 row17 row18 row19 row21 row22 row23 row24 row25 row26 row29 row48 row49 row54 row55 row56 row58 row59 row60 row61 row62
end Go.Proofs.W

namespace Go.Proofs.W
open Go Go.AM
set_option linter.unusedSimpArgs false
set_option linter.unusedVariables false
variable (hm : Try.prog.follows .mixedOrders = true)

def inB (n a b : Int) : Bool := decide (a ≤ n) && decide (n ≤ b)
set_option maxRecDepth 10000 in
include hm in
theorem l1In (n a b : Int) : Holds Try.prog 12 [.v (.int .i64 n), .v (.int .i64 a), .v (.int .i64 b)] [] (.v (.bool (inB n a b))) [] := by
  refine holds_of (ann := []) tabOk hm Try.func12 (by kernel_rfl) rfl ?_
  simp (decide := true) only [Try.f12, go_sem, Nat.reduceAdd, Nat.reduceMul, Nat.reduceSub]
  refine Runs.split (fun h => ?_) (fun h => ?_)
  · simp only [decide_eq_true_eq] at h
    have e : inB n a b = decide (n ≤ b) := by simp [inB]; omega
    simp (decide := true) only [e, go_sem, Nat.reduceAdd, Nat.reduceMul, Nat.reduceSub]
    exact Runs.ret_v
  · simp only [decide_eq_false_iff_not] at h
    have e : inB n a b = false := by simp [inB]; omega
    simp (decide := true) only [e, go_sem, Nat.reduceAdd, Nat.reduceMul, Nat.reduceSub]
    exact Runs.ret_v
set_option maxRecDepth 10000 in
include hm in
theorem within (n a b : Int) : Holds Try.prog 20 [.v (.int .i64 n), .v (.int .i64 a), .v (.int .i64 b)] [] (.v (.bool (inB n a b))) [] := by
  refine holds_of (ann := []) tabOk hm Try.func20 (by kernel_rfl) rfl ?_
  simp (decide := true) only [Try.f20, go_sem, Nat.reduceAdd, Nat.reduceMul, Nat.reduceSub]
  refine Runs.split (fun h => ?_) (fun h => ?_)
  · simp only [decide_eq_true_eq] at h
    have e : inB n a b = decide (n ≤ b) := by simp [inB]; omega
    simp (decide := true) only [e, go_sem, Nat.reduceAdd, Nat.reduceMul, Nat.reduceSub]
    exact Runs.ret_v
  · simp only [decide_eq_false_iff_not] at h
    have e : inB n a b = false := by simp [inB]; omega
    simp (decide := true) only [e, go_sem, Nat.reduceAdd, Nat.reduceMul, Nat.reduceSub]
    exact Runs.ret_v
set_option maxRecDepth 10000 in
include hm in
theorem l9Ok (n : Int) : Holds Try.prog 14 [.v (.int .i64 n)] [] (.v (.bool (inB n (-631152000) 4102444799))) [] := by
  refine holds_of (ann := []) tabOk hm Try.func14 (by kernel_rfl) rfl ?_
  simp (decide := true) only [Try.f14, go_sem, Nat.reduceAdd, Nat.reduceMul, Nat.reduceSub]
  refine Runs.call (l1In hm n (-631152000) 4102444799) ?_
  simp (decide := true) only [go_sem, Nat.reduceAdd, Nat.reduceMul, Nat.reduceSub]
  exact Runs.ret_v
set_option maxRecDepth 10000 in
include hm in
theorem isTime (n : Int) : Holds Try.prog 19 [.v (.int .i64 n)] [] (.v (.bool (inB n (-631152000) 4102444799))) [] := by
  refine holds_of (ann := []) tabOk hm Try.func19 (by kernel_rfl) rfl ?_
  simp (decide := true) only [Try.f19, go_sem, Nat.reduceAdd, Nat.reduceMul, Nat.reduceSub]
  refine Runs.call (within hm n (-631152000) 4102444799) ?_
  simp (decide := true) only [go_sem, Nat.reduceAdd, Nat.reduceMul, Nat.reduceSub]
  exact Runs.ret_v
def ann26 : Ann := [(0, [1, 2, 9, 10, 11])]
def st26 (L : List Int) (lo hi : Int) (i : Nat) : St := ⟨[.any, .v (.int .i64 lo), .v (.int .i64 hi), .any, .any, .any, .any, .any, .any, .sl .sh (L.map intA), .v (.int .i64 L.length), .v (.int .i64 i), .any, .any, .any, .any, .any, .any, .any, .any, .any], [], []⟩

set_option maxRecDepth 10000 in
include hm in
theorem allWithin (L : List Int) (lo hi : Int) (h3 : L.length ≤ 9223372036854775807) :
    Holds Try.prog 26 [.sl .sh (L.map intA), .v (.int .i64 lo), .v (.int .i64 hi)] [] (.v (.bool (L.all fun n => inB n lo hi))) [] := by
  refine holds_of (ann := ann26) tabOk hm Try.func26 (by kernel_rfl) rfl ?_
  simp (decide := true) only [Try.f26, go_sem, Nat.reduceAdd, Nat.reduceMul, Nat.reduceSub]
  refine Runs.while (α := Nat) (st26 L lo hi) (fun i => L.length - i) (fun i => i ≤ L.length ∧ ((L.drop i).all fun n => inB n lo hi) = L.all fun n => inB n lo hi) 0 ⟨by omega, by simp⟩ ?_ ?_
  · simp [go_sem, ann26, st26]
  · rintro i ⟨hi1, hr⟩ ih
    simp (decide := true) only [st26, go_sem, Nat.reduceAdd, Nat.reduceMul, Nat.reduceSub]
    refine Runs.split (fun h => ?_) (fun h => ?_)
    · have hlt : i < L.length := by simpa using h
      rw [List.drop_eq_getElem_cons hlt, List.all_cons] at hr
      simp (decide := true) (disch := omega) only [go_sem, Nat.reduceAdd, Nat.reduceMul, Nat.reduceSub]
      refine Runs.call (within hm L[i] lo hi) ?_
      simp (decide := true) only [go_sem, Nat.reduceAdd, Nat.reduceMul, Nat.reduceSub]
      refine Runs.split (fun h => ?_) (fun h => ?_)
      · simp only [Bool.not_eq_true'] at h
        rw [h] at hr
        simp (decide := true) only [← hr, go_sem, Nat.reduceAdd, Nat.reduceMul, Nat.reduceSub]
        exact Runs.ret_v
      · simp only [Bool.not_eq_false'] at h
        rw [h, Bool.true_and] at hr
        simp (decide := true) (disch := omega) only [go_sem, Nat.reduceAdd, Nat.reduceMul, Nat.reduceSub]
        refine ih (i + 1) _ (by omega) ⟨hlt, hr⟩ ?_
        simp [go_sem, ann26, st26]
    · have hge : i = L.length := by simp at h; omega
      subst hge
      rw [List.drop_length, List.all_nil] at hr
      simp (decide := true) only [← hr, go_sem, Nat.reduceAdd, Nat.reduceMul, Nat.reduceSub]
      exact Runs.ret_v
end Go.Proofs.W

namespace Go.Proofs.W
open Go Go.AM
set_option linter.unusedSimpArgs false
set_option linter.unusedVariables false
variable (hm : Try.prog.follows .mixedOrders = true)

def charOk (b : UInt8) : Bool := inB b.toNat 32 126
def textOk (s : ByteArray) : Bool := inB s.size 1 40 && s.data.toList.all charOk
def nameOk (L : List ByteArray) : Bool := L.all textOk && inB L.length 1 4

theorem bs_len (s : ByteArray) : s.data.toList.length = s.size := by rw [Array.length_toList]; rfl

def ann13 : Ann := [(0, [0, 3]), (2, [0, 3, 4])]
def st13 (L : List ByteArray) (i : Nat) : St := ⟨[.sl .sh (L.map strA), .any, .any, .v (.int .i64 i), .any, .any, .any, .any, .any, .any, .any, .any, .any, .any, .any, .any, .any, .any, .any, .any, .any, .any, .any, .any, .any, .any, .any, .any, .any, .any, .any, .any, .any, .any, .any, .any, .any, .any, .any], [], []⟩
def st13b (L : List ByteArray) (i k : Nat) : St := ⟨[.sl .sh (L.map strA), .any, .any, .v (.int .i64 i), .v (.int .i64 k), .any, .any, .any, .any, .any, .any, .any, .any, .any, .any, .any, .any, .any, .any, .any, .any, .any, .any, .any, .any, .any, .any, .any, .any, .any, .any, .any, .any, .any, .any, .any, .any, .any, .any], [], []⟩

set_option maxRecDepth 10000 in
include hm in
theorem l10Name (L : List ByteArray) (h3 : L.length ≤ 9223372036854775807) (h4 : ∀ s ∈ L, s.size ≤ 9223372036854775807) :
    Holds Try.prog 13 [.sl .sh (L.map strA)] [] (.v (.bool (nameOk L))) [] := by
  refine holds_of (ann := ann13) tabOk hm Try.func13 (by kernel_rfl) rfl ?_
  simp (decide := true) only [Try.f13, go_sem, Nat.reduceAdd, Nat.reduceMul, Nat.reduceSub]
  refine Runs.while (α := Nat) (st13 L) (fun i => L.length - i) (fun i => i ≤ L.length ∧ (L.drop i).all textOk = L.all textOk) 0 ⟨by omega, by simp⟩ ?_ ?_
  · simp [go_sem, ann13, st13]
  · rintro i ⟨hi1, hr⟩ ih
    simp (decide := true) only [st13, go_sem, Nat.reduceAdd, Nat.reduceMul, Nat.reduceSub]
    refine Runs.split (fun h => ?_) (fun h => ?_)
    · have hlt : i < L.length := by simpa using h
      have hs := h4 L[i] (List.getElem_mem hlt)
      rw [List.drop_eq_getElem_cons hlt, List.all_cons] at hr
      simp (decide := true) (disch := omega) only [go_sem, Nat.reduceAdd, Nat.reduceMul, Nat.reduceSub]
      refine Runs.call (l1In hm L[i].size 1 40) ?_
      simp (decide := true) only [go_sem, Nat.reduceAdd, Nat.reduceMul, Nat.reduceSub]
      refine Runs.split (fun h => ?_) (fun h => ?_)
      · simp only [Bool.not_eq_true'] at h
        have e : nameOk L = false := by rw [nameOk, ← hr, textOk, h]; simp
        simp (decide := true) only [e, go_sem, Nat.reduceAdd, Nat.reduceMul, Nat.reduceSub]
        exact Runs.ret_v
      · simp only [Bool.not_eq_false'] at h
        simp (decide := true) only [go_sem, Nat.reduceAdd, Nat.reduceMul, Nat.reduceSub]
        refine Runs.while (α := Nat) (st13b L i) (fun k => L[i].size - k) (fun k => k ≤ L[i].size ∧ (L[i].data.toList.drop k).all charOk = L[i].data.toList.all charOk) 0 ⟨by omega, by simp⟩ ?_ ?_
        · simp [go_sem, ann13, st13b]
        · rintro k ⟨hk1, hk⟩ ihk
          simp (decide := true) (disch := omega) only [st13b, go_sem, Nat.reduceAdd, Nat.reduceMul, Nat.reduceSub]
          refine Runs.split (fun h => ?_) (fun h => ?_)
          · have hltk : k < L[i].size := by simpa using h
            have hlen := bs_len L[i]
            rw [List.drop_eq_getElem_cons (by omega), List.all_cons] at hk
            have hg : L[i].data.toList.getD k 0 = L[i].data.toList[k] := by simp [List.getD, hltk]
            have hb := UInt8.toNat_lt L[i].data.toList[k]
            simp (decide := true) (disch := omega) only [hg, go_sem, Nat.reduceAdd, Nat.reduceMul, Nat.reduceSub]
            refine Runs.call (l1In hm _ 32 126) ?_
            simp (decide := true) only [go_sem, Nat.reduceAdd, Nat.reduceMul, Nat.reduceSub]
            refine Runs.split (fun h' => ?_) (fun h' => ?_)
            · simp only [Bool.not_eq_true'] at h'
              have e : nameOk L = false := by rw [nameOk, ← hr, textOk, ← hk, charOk, h']; simp
              simp (decide := true) only [e, go_sem, Nat.reduceAdd, Nat.reduceMul, Nat.reduceSub]
              exact Runs.ret_v
            · simp only [Bool.not_eq_false'] at h'
              rw [charOk, h', Bool.true_and] at hk
              simp (decide := true) (disch := omega) only [go_sem, Nat.reduceAdd, Nat.reduceMul, Nat.reduceSub]
              refine ihk (k + 1) _ (by omega) ⟨by omega, hk⟩ ?_
              simp [go_sem, ann13, st13b]
          · have hge : k = L[i].size := by simp at h; omega
            have hlen := bs_len L[i]
            rw [List.drop_of_length_le (by omega), List.all_nil] at hk
            rw [textOk, ‹inB _ 1 40 = true›, ← hk, Bool.true_and, Bool.true_and] at hr
            simp (decide := true) (disch := omega) only [go_sem, Nat.reduceAdd, Nat.reduceMul, Nat.reduceSub]
            refine ih (i + 1) _ (by omega) ⟨by omega, hr⟩ ?_
            simp [go_sem, ann13, st13]
    · have hge : i = L.length := by simp at h; omega
      subst hge
      rw [List.drop_length, List.all_nil] at hr
      simp (decide := true) only [go_sem, Nat.reduceAdd, Nat.reduceMul, Nat.reduceSub]
      refine Runs.call (l1In hm _ 1 4) ?_
      simp (decide := true) only [nameOk, ← hr, go_sem, Nat.reduceAdd, Nat.reduceMul, Nat.reduceSub]
      exact Runs.ret_v

def ann18 : Ann := [(0, [0, 6, 7, 8]), (2, [0, 4, 6, 7, 8, 13, 14])]
def st18 (L : List ByteArray) (i : Nat) : St := ⟨[.sl .sh (L.map strA), .any, .any, .any, .any, .any, .sl .sh (L.map strA), .v (.int .i64 L.length), .v (.int .i64 i), .any, .any, .any, .any, .any, .any, .any, .any, .any, .any, .any, .any, .any, .any, .any, .any, .any, .any, .any, .any, .any, .any, .any, .any, .any, .any, .any], [], []⟩
def st18b (L : List ByteArray) (i : Nat) (s : ByteArray) (k : Nat) : St := ⟨[.sl .sh (L.map strA), .any, .any, .any, .v (.string s), .any, .sl .sh (L.map strA), .v (.int .i64 L.length), .v (.int .i64 i), .any, .any, .any, .any, .v (.int .i64 s.size), .v (.int .i64 k), .any, .any, .any, .any, .any, .any, .any, .any, .any, .any, .any, .any, .any, .any, .any, .any, .any, .any, .any, .any, .any], [], []⟩

theorem charOk_lo {b : UInt8} (h : (b.toNat : Int) < 32) : charOk b = false := by simp [charOk, inB]; omega
theorem charOk_hi {b : UInt8} (h : ¬ (b.toNat : Int) < 32) : charOk b = !decide ((b.toNat : Int) > 126) := by
  unfold charOk inB
  rw [decide_eq_true (by omega), Bool.true_and]
  by_cases h2 : (b.toNat : Int) > 126
  · rw [decide_eq_false (by omega), decide_eq_true h2]; rfl
  · rw [decide_eq_true (by omega), decide_eq_false h2]; rfl

set_option maxRecDepth 10000 in
include hm in
theorem isName (L : List ByteArray) (h3 : L.length ≤ 9223372036854775807) (h4 : ∀ s ∈ L, s.size ≤ 9223372036854775807) :
    Holds Try.prog 18 [.sl .sh (L.map strA)] [] (.v (.bool (nameOk L))) [] := by
  refine holds_of (ann := ann18) tabOk hm Try.func18 (by kernel_rfl) rfl ?_
  simp (decide := true) only [Try.f18, go_sem, Nat.reduceAdd, Nat.reduceMul, Nat.reduceSub]
  refine Runs.while (α := Nat) (st18 L) (fun i => L.length - i) (fun i => i ≤ L.length ∧ (L.drop i).all textOk = L.all textOk) 0 ⟨by omega, by simp⟩ ?_ ?_
  · simp [go_sem, ann18, st18]
  · rintro i ⟨hi1, hr⟩ ih
    simp (decide := true) only [st18, go_sem, Nat.reduceAdd, Nat.reduceMul, Nat.reduceSub]
    refine Runs.split (fun h => ?_) (fun h => ?_)
    · have hlt : i < L.length := by simpa using h
      have hs := h4 L[i] (List.getElem_mem hlt)
      rw [List.drop_eq_getElem_cons hlt, List.all_cons] at hr
      simp (decide := true) (disch := omega) only [go_sem, Nat.reduceAdd, Nat.reduceMul, Nat.reduceSub]
      refine Runs.while (α := Nat) (st18b L i L[i]) (fun k => L[i].size - k) (fun k => k ≤ L[i].size ∧ (L[i].data.toList.drop k).all charOk = L[i].data.toList.all charOk) 0 ⟨by omega, by simp⟩ ?_ ?_
      · simp [go_sem, ann18, st18b]
      · rintro k ⟨hk1, hk⟩ ihk
        simp (decide := true) (disch := omega) only [st18b, go_sem, Nat.reduceAdd, Nat.reduceMul, Nat.reduceSub]
        refine Runs.split (fun h => ?_) (fun h => ?_)
        · have hltk : k < L[i].size := by simpa using h
          have hlen := bs_len L[i]
          rw [List.drop_eq_getElem_cons (by omega), List.all_cons] at hk
          have hg : L[i].data.toList.getD k 0 = L[i].data.toList[k] := by simp [List.getD, hltk]
          have hb := UInt8.toNat_lt L[i].data.toList[k]
          simp (decide := true) (disch := omega) only [hg, go_sem, Nat.reduceAdd, Nat.reduceMul, Nat.reduceSub]
          have stop : charOk L[i].data.toList[k] = false → nameOk L = false := fun h => by rw [nameOk, ← hr, textOk, ← hk, h]; simp
          refine Runs.split (fun h => ?_) (fun h => ?_)
          · simp only [decide_eq_true_eq] at h
            simp (decide := true) only [stop (charOk_lo h), go_sem, Nat.reduceAdd, Nat.reduceMul, Nat.reduceSub]
            exact Runs.ret_v
          · simp only [decide_eq_false_iff_not] at h
            simp (decide := true) (disch := omega) only [hg, go_sem, Nat.reduceAdd, Nat.reduceMul, Nat.reduceSub]
            refine Runs.split (fun h2 => ?_) (fun h2 => ?_)
            · simp (decide := true) only [stop (by rw [charOk_hi h, h2]; rfl), go_sem, Nat.reduceAdd, Nat.reduceMul, Nat.reduceSub]
              exact Runs.ret_v
            · rw [charOk_hi h, h2, Bool.not_false, Bool.true_and] at hk
              simp (decide := true) (disch := omega) only [go_sem, Nat.reduceAdd, Nat.reduceMul, Nat.reduceSub]
              refine ihk (k + 1) _ (by omega) ⟨by omega, hk⟩ ?_
              simp [go_sem, ann18, st18b]
        · have hge : k = L[i].size := by simp at h; omega
          have hlen := bs_len L[i]
          rw [List.drop_of_length_le (by omega), List.all_nil] at hk
          simp (decide := true) only [go_sem, Nat.reduceAdd, Nat.reduceMul, Nat.reduceSub]
          refine Runs.call (within hm _ 1 40) ?_
          simp (decide := true) only [go_sem, Nat.reduceAdd, Nat.reduceMul, Nat.reduceSub]
          refine Runs.split (fun h' => ?_) (fun h' => ?_)
          · simp only [Bool.not_eq_true'] at h'
            have e : nameOk L = false := by rw [nameOk, ← hr, textOk, h']; simp
            simp (decide := true) only [e, go_sem, Nat.reduceAdd, Nat.reduceMul, Nat.reduceSub]
            exact Runs.ret_v
          · simp only [Bool.not_eq_false'] at h'
            rw [textOk, h', ← hk, Bool.true_and, Bool.true_and] at hr
            simp (decide := true) (disch := omega) only [go_sem, Nat.reduceAdd, Nat.reduceMul, Nat.reduceSub]
            refine ih (i + 1) _ (by omega) ⟨by omega, hr⟩ ?_
            simp [go_sem, ann18, st18]
    · have hge : i = L.length := by simp at h; omega
      subst hge
      rw [List.drop_length, List.all_nil] at hr
      simp (decide := true) only [go_sem, Nat.reduceAdd, Nat.reduceMul, Nat.reduceSub]
      refine Runs.call (within hm _ 1 4) ?_
      simp (decide := true) only [nameOk, ← hr, go_sem, Nat.reduceAdd, Nat.reduceMul, Nat.reduceSub]
      exact Runs.ret_v
set_option maxRecDepth 10000 in
include hm in
theorem isSig (es : List A) : Holds Try.prog 22 [.sl .sh es] [] (.v (.bool (inB es.length 1 64))) [] := by
  refine holds_of (ann := []) tabOk hm Try.func22 (by kernel_rfl) rfl ?_
  simp (decide := true) only [Try.f22, go_sem, Nat.reduceAdd, Nat.reduceMul, Nat.reduceSub]
  refine Runs.call (within hm es.length 1 64) ?_
  simp (decide := true) only [go_sem, Nat.reduceAdd, Nat.reduceMul, Nat.reduceSub]
  exact Runs.ret_v
def ann21 : Ann := [(0, [0, 1, 2, 7])]
def st21 (L : List Int) (lo hi : Int) (i : Nat) : St := ⟨[.sl .sh (L.map intA), .v (.int .i64 lo), .v (.int .i64 hi), .any, .any, .any, .any, .v (.int .i64 i), .any, .any, .any, .any, .any, .any, .any, .any, .any, .any, .any, .any, .any, .any, .any, .any, .any, .any, .any, .any], [], []⟩
def sched21 : Sched := .take 0 (.take 1 (.take 2 (.take 3 (.take 5 (.take 6 (.take 7 (.alt 4 (.alt 8 (.take 9 .fin) .nil) (.alt 8 (.alt 4 (.take 9 .fin) .nil) .nil))))))))
/-- Each greater than the one before it, from a place on. -/
def risesFrom (L : List Int) (i : Nat) : Bool := (List.range' i (L.length - i)).all fun j => decide (L.getD (j - 1) 0 < L.getD j 0)

theorem risesFrom_succ {L : List Int} {i : Nat} (h : i < L.length) : risesFrom L i = (decide (L.getD (i - 1) 0 < L.getD i 0) && risesFrom L (i + 1)) := by
  unfold risesFrom
  obtain ⟨k, hk⟩ : ∃ k, L.length - i = k + 1 := ⟨L.length - i - 1, by omega⟩
  rw [hk, List.range'_succ, List.all_cons, show L.length - (i + 1) = k by omega]

set_option maxRecDepth 10000 in
include hm in
theorem isRising (L : List Int) (lo hi : Int) (h3 : L.length ≤ 9223372036854775807) :
    Holds Try.prog 21 [.sl .sh (L.map intA), .v (.int .i64 lo), .v (.int .i64 hi)] [] (.v (.bool (risesFrom L 1 && L.all fun n => inB n lo hi))) [] := by
  refine holds_of (ann := ann21) tabOk hm Try.func21 (by kernel_rfl) rfl ?_
  simp (decide := true) only [Try.f21, go_sem, Nat.reduceAdd, Nat.reduceMul, Nat.reduceSub]
  refine Runs.while (α := Nat) (st21 L lo hi) (fun i => L.length - i) (fun i => 1 ≤ i ∧ i ≤ max L.length 1 ∧ risesFrom L i = risesFrom L 1) 1 ⟨by omega, by omega, rfl⟩ ?_ ?_
  · simp [go_sem, ann21, st21]
  · rintro i ⟨hi0, hi1, hr⟩ ih
    simp (decide := true) only [st21, go_sem, Nat.reduceAdd, Nat.reduceMul, Nat.reduceSub]
    refine Runs.split (fun h => ?_) (fun h => ?_)
    · have hlt : i < L.length := by simpa using h
      rw [risesFrom_succ hlt] at hr
      have he : (L.map intA).getD i .any = .v (.int .i64 (L.getD i 0)) := by simp [List.getD, hlt, intA]
      have he1 : (L.map intA).getD (i - 1) .any = .v (.int .i64 (L.getD (i - 1) 0)) := by simp [List.getD, show i - 1 < L.length by omega, intA]
      have ht : ((i : Int) - 1).toNat = i - 1 := by omega
      have hw : IntKind.i64.wrap ((i : Int) - 1) = (i : Int) - 1 := wrap_i64 (by omega) (by omega)
      simp (decide := true) only [go_sem, Nat.reduceAdd, Nat.reduceMul, Nat.reduceSub]
      refine Runs.draw (st1 := ?s1) (draws_by (ann := []) tabOk sched21 (by kernel_rfl) ?h1) ?h2
      case h1 =>
        intro K r X hK
        simp (decide := true) only [sched21, hw, ht, he, he1, go_sem, Nat.reduceAdd, Nat.reduceMul, Nat.reduceSub]
        refine Runs.chk (by simp; omega) (Runs.chk (by simp; omega) (Runs.both (Runs.both ?_ Runs.done) (Runs.both (Runs.both ?_ Runs.done) Runs.done)))
        · exact hK
        · exact hK
      case h2 =>
        simp (decide := true) only [go_sem, Nat.reduceAdd, Nat.reduceMul, Nat.reduceSub]
        refine Runs.split (fun h => ?_) (fun h => ?_)
        · simp only [decide_eq_true_eq] at h
          rw [decide_eq_false (by omega), Bool.false_and] at hr
          simp (decide := true) only [← hr, go_sem, Nat.reduceAdd, Nat.reduceMul, Nat.reduceSub]
          exact Runs.ret_v
        · simp only [decide_eq_false_iff_not] at h
          rw [decide_eq_true (by omega), Bool.true_and] at hr
          simp (decide := true) (disch := omega) only [go_sem, Nat.reduceAdd, Nat.reduceMul, Nat.reduceSub]
          refine ih (i + 1) _ (by omega) ⟨by omega, by omega, hr⟩ ?_
          simp [go_sem, ann21, st21]
    · have hge : L.length ≤ i := by simp at h; omega
      have hz : risesFrom L i = true := by unfold risesFrom; rw [show L.length - i = 0 by omega]; rfl
      rw [hz] at hr
      simp (decide := true) only [dn_intA, go_sem, Nat.reduceAdd, Nat.reduceMul, Nat.reduceSub]
      refine Runs.call (allWithin hm L lo hi h3) ?_
      simp (decide := true) only [← hr, go_sem, Nat.reduceAdd, Nat.reduceMul, Nat.reduceSub]
      exact Runs.ret_v
end Go.Proofs.W

namespace Go.Proofs.W
open Go Go.AM
set_option linter.unusedSimpArgs false
set_option linter.unusedVariables false
variable (hm : Try.prog.follows .mixedOrders = true)

def szI (n : Nat) (left : Int) : Int := if left - n < 0 then -1 else left - n
def szGo : List ByteArray → Int → Int
  | [], l => l
  | s :: r, l => if l - s.size < 0 then -1 else szGo r (l - s.size)
def szS (L : List ByteArray) (left : Int) : Int := if left - L.length < 0 then -1 else szGo L (left - L.length)
theorem szGo_le (L : List ByteArray) (l : Int) (h : 0 ≤ l) : szGo L l ≤ l ∧ -1 ≤ szGo L l := by
  induction L generalizing l with
  | nil => simp [szGo]; omega
  | cons s r ih =>
    simp only [szGo]
    split
    · omega
    · have := ih (l - s.size) (by omega); omega
theorem szS_le (L : List ByteArray) (l : Int) (h : 0 ≤ l) : szS L l ≤ l := by
  unfold szS
  split
  · omega
  · have := szGo_le L (l - L.length) (by omega); omega
theorem szI_le (n : Nat) (l : Int) (h : 0 ≤ l) : szI n l ≤ l ∧ -1 ≤ szI n l := by
  unfold szI
  split <;> omega
theorem szS_len (L : List ByteArray) (l : Int) (h : ¬ szS L l < 0) (hl : l ≤ 1048576) : L.length ≤ 1048576 := by
  unfold szS at h
  split at h
  · exact absurd (by omega) h
  · omega
theorem szI_len (n : Nat) (l : Int) (h : ¬ szI n l < 0) (hl : l ≤ 1048576) : n ≤ 1048576 := by
  unfold szI at h
  split at h
  · exact absurd (by omega) h
  · omega
set_option maxRecDepth 10000 in
include hm in
theorem szIntS (es : List A) (left : Int) (h1 : 0 ≤ left) (h2 : left ≤ 1048576) (h3 : es.length ≤ 9223372036854775807) :
    Holds Try.prog 10 [.sl .sh es, .v (.int .i64 left)] [] (.v (.int .i64 (szI es.length left))) [] := by
  refine holds_of (ann := []) tabOk hm Try.func10 (by kernel_rfl) rfl ?_
  simp (decide := true) (disch := omega) only [Try.f10, go_sem, Nat.reduceAdd, Nat.reduceMul, Nat.reduceSub]
  refine Runs.split (fun h => ?_) (fun h => ?_)
  · simp only [decide_eq_true_eq] at h
    simp (decide := true) only [szI, if_pos h, go_sem, Nat.reduceAdd, Nat.reduceMul, Nat.reduceSub]
    exact Runs.ret_v
  · simp only [decide_eq_false_iff_not] at h
    simp (decide := true) only [szI, if_neg h, go_sem, Nat.reduceAdd, Nat.reduceMul, Nat.reduceSub]
    exact Runs.ret_v
set_option maxRecDepth 10000 in
include hm in
theorem szByteS (es : List A) (left : Int) (h1 : 0 ≤ left) (h2 : left ≤ 1048576) (h3 : es.length ≤ 9223372036854775807) :
    Holds Try.prog 11 [.sl .sh es, .v (.int .i64 left)] [] (.v (.int .i64 (szI es.length left))) [] := by
  refine holds_of (ann := []) tabOk hm Try.func11 (by kernel_rfl) rfl ?_
  simp (decide := true) (disch := omega) only [Try.f11, go_sem, Nat.reduceAdd, Nat.reduceMul, Nat.reduceSub]
  refine Runs.split (fun h => ?_) (fun h => ?_)
  · simp only [decide_eq_true_eq] at h
    simp (decide := true) only [szI, if_pos h, go_sem, Nat.reduceAdd, Nat.reduceMul, Nat.reduceSub]
    exact Runs.ret_v
  · simp only [decide_eq_false_iff_not] at h
    simp (decide := true) only [szI, if_neg h, go_sem, Nat.reduceAdd, Nat.reduceMul, Nat.reduceSub]
    exact Runs.ret_v
def szAnn : Ann := [(0, [0, 1, 5])]
def szSt (L : List ByteArray) (p : Nat × Int) : St := ⟨[.sl .sh (L.map strA), .v (.int .i64 p.2), .any, .any, .any, .v (.int .i64 p.1), .any, .any, .any, .any, .any, .any, .any, .any, .any, .any, .any, .any, .any, .any, .any, .any, .any, .any, .any, .any, .any, .any], [], []⟩
set_option maxRecDepth 10000 in
include hm in
theorem szStringS (L : List ByteArray) (left : Int) (h1 : 0 ≤ left) (h2 : left ≤ 1048576) (h3 : L.length ≤ 9223372036854775807) (h4 : ∀ s ∈ L, s.size ≤ 9223372036854775807) :
    Holds Try.prog 9 [.sl .sh (L.map strA), .v (.int .i64 left)] [] (.v (.int .i64 (szS L left))) [] := by
  refine holds_of (ann := szAnn) tabOk hm Try.func9 (by kernel_rfl) rfl ?_
  simp (decide := true) (disch := omega) only [Try.f9, go_sem, Nat.reduceAdd, Nat.reduceMul, Nat.reduceSub]
  refine Runs.split (fun h => ?_) (fun h => ?_)
  · simp only [decide_eq_true_eq] at h
    simp (decide := true) only [szS, if_pos h, go_sem, Nat.reduceAdd, Nat.reduceMul, Nat.reduceSub]
    exact Runs.ret_v
  · simp only [decide_eq_false_iff_not] at h
    simp (decide := true) only [go_sem, Nat.reduceAdd, Nat.reduceMul, Nat.reduceSub]
    refine Runs.while (α := Nat × Int) (szSt L) (fun p => L.length - p.1) (fun p => p.1 ≤ L.length ∧ 0 ≤ p.2 ∧ p.2 ≤ 1048576 ∧ szGo (L.drop p.1) p.2 = szS L left) (0, left - L.length) ⟨by simp, by simp; omega, by simp; omega, by simp [szS, h]⟩ ?_ ?_
    · simp [go_sem, szAnn, szSt]
    · rintro ⟨i, l⟩ ⟨hi, hl1, hl2, hr⟩ ih
      simp only at hi hl1 hl2 hr
      simp (decide := true) only [szSt, go_sem, Nat.reduceAdd, Nat.reduceMul, Nat.reduceSub]
      refine Runs.split (fun h => ?_) (fun h => ?_)
      · have hlt : i < L.length := by simpa using h
        have hsz := h4 L[i] (List.getElem_mem hlt)
        rw [List.drop_eq_getElem_cons hlt] at hr
        simp only [szGo] at hr
        simp (decide := true) (disch := omega) only [go_sem, Nat.reduceAdd, Nat.reduceMul, Nat.reduceSub]
        refine Runs.split (fun h => ?_) (fun h => ?_)
        · simp only [decide_eq_true_eq] at h
          rw [if_pos h] at hr
          simp (decide := true) only [← hr, go_sem, Nat.reduceAdd, Nat.reduceMul, Nat.reduceSub]
          exact Runs.ret_v
        · simp only [decide_eq_false_iff_not] at h
          rw [if_neg h] at hr
          simp (decide := true) (disch := omega) only [go_sem, Nat.reduceAdd, Nat.reduceMul, Nat.reduceSub]
          refine ih (i + 1, l - L[i].size) _ (by simp only; omega) ⟨hlt, by simp only; omega, by simp only; omega, hr⟩ ?_
          simp [go_sem, szAnn, szSt]
      · have hge : i = L.length := by simp at h; omega
        subst hge
        simp only [List.drop_length, szGo] at hr
        simp (decide := true) only [← hr, go_sem, Nat.reduceAdd, Nat.reduceMul, Nat.reduceSub]
        exact Runs.ret_v
end Go.Proofs.W

namespace Go.Proofs.W
open Go Go.AM
set_option linter.unusedSimpArgs false
set_option linter.unusedVariables false
variable (hm : Try.prog.follows .mixedOrders = true)

def fillS {α : Type} (g : α → A) (L : List α) (z : A) (i : Nat) : List A := (L.take i).map g ++ List.replicate (L.length - i) z
theorem fillS_length {α : Type} (g : α → A) (L : List α) (z : A) (i : Nat) (h : i ≤ L.length) : (fillS g L z i).length = L.length := by simp [fillS]; omega
theorem fillS_zero {α : Type} (g : α → A) (L : List α) (z : A) : fillS g L z 0 = List.replicate L.length z := by simp [fillS]
theorem fillS_all {α : Type} (g : α → A) (L : List α) (z : A) : fillS g L z L.length = L.map g := by simp [fillS]
theorem fillS_set {α : Type} (g : α → A) (L : List α) (z : A) (i : Nat) (h : i < L.length) : (fillS g L z i).set i (g L[i]) = fillS g L z (i + 1) := by
  unfold fillS
  have e : L.length - i = (L.length - (i + 1)) + 1 := by omega
  rw [List.set_append_right _ _ (by simp; omega), e, List.replicate_succ]
  have hl : ((L.take i).map g).length = i := by simp; omega
  rw [hl, Nat.sub_self, List.set_cons_zero, List.take_succ_eq_append_getElem h, List.map_append, List.append_assoc]
  rfl
theorem fillS_get {α : Type} (g : α → A) (L : List α) (z : A) (i : Nat) (h : i < L.length) : (fillS g L z i).getD i .any = z := by
  unfold fillS
  have hl : ((L.take i).map g).length = i := by simp; omega
  rw [List.getD, List.getElem?_append_right (by omega), hl, Nat.sub_self]
  have e : L.length - i = (L.length - (i + 1)) + 1 := by omega
  rw [e, List.replicate_succ]
  rfl

def toAnn : Ann := [(0, [0, 3, 4])]
def toStringSt (L : List ByteArray) (i : Nat) : St := ⟨[.sl .sh (L.map strA), .any, .any, .ms (.l 448) 0 L.length L.length, .v (.int .i64 i), .any, .any, .any, .any, .any, .any, .any, .any, .any, .any, .any, .any, .any, .any, .any, .any, .any], [(448, ⟨true, 1, false, fillS strA L (.v (.string ⟨#[]⟩)) i⟩)], []⟩
set_option maxRecDepth 10000 in
include hm in
theorem toStringS (L : List ByteArray) (h3 : L.length ≤ 1048576) : Holds Try.prog 15 [.sl .sh (L.map strA)] [] (.sl (.ow 1) (L.map strA)) [] := by
  refine holds_of (ann := toAnn) tabOk hm Try.func15 (by kernel_rfl) rfl ?_
  simp (decide := true) (disch := omega) only [Try.f15, go_sem, Nat.reduceAdd, Nat.reduceMul, Nat.reduceSub]
  refine Runs.while (α := Nat) (toStringSt L) (fun i => L.length - i) (fun i => i ≤ L.length) 0 (by omega) ?_ ?_
  · simp [go_sem, toAnn, toStringSt, fillS_zero]
  · intro i hi ih
    have hlen := fillS_length strA L (.v (.string ⟨#[]⟩)) i hi
    simp (decide := true) only [toStringSt, hlen, go_sem, Nat.reduceAdd, Nat.reduceMul, Nat.reduceSub]
    refine Runs.split (fun h => ?_) (fun h => ?_)
    · have hlt : i < L.length := by simpa using h
      have hg := fillS_get strA L (.v (.string ⟨#[]⟩)) i hlt
      have hs : (fillS strA L (.v (.string ⟨#[]⟩)) i).set i (strA L[i]) = _ := fillS_set strA L (.v (.string ⟨#[]⟩)) i hlt
      simp only [strA] at hs
      simp (decide := true) (disch := omega) only [hlen, hg, hs, go_sem, Nat.reduceAdd, Nat.reduceMul, Nat.reduceSub]
      refine ih (i + 1) _ (by omega) hlt ?_
      simp [go_sem, toAnn, toStringSt]
    · have hge : i = L.length := by simp at h; omega
      subst hge
      simp (decide := true) only [hlen, fillS_all, go_sem, Nat.reduceAdd, Nat.reduceMul, Nat.reduceSub]
      exact Runs.ret_refl
def toIntSt (L : List Int) (i : Nat) : St := ⟨[.sl .sh (L.map intA), .any, .any, .ms (.l 448) 0 L.length L.length, .v (.int .i64 i), .any, .any, .any, .any, .any, .any, .any, .any, .any, .any, .any, .any, .any, .any, .any, .any, .any], [(448, ⟨true, 1, false, fillS intA L (.v (.int .i64 0)) i⟩)], []⟩
set_option maxRecDepth 10000 in
include hm in
theorem toIntS (L : List Int) (h3 : L.length ≤ 1048576) : Holds Try.prog 16 [.sl .sh (L.map intA)] [] (.sl (.ow 1) (L.map intA)) [] := by
  refine holds_of (ann := toAnn) tabOk hm Try.func16 (by kernel_rfl) rfl ?_
  simp (decide := true) (disch := omega) only [Try.f16, go_sem, Nat.reduceAdd, Nat.reduceMul, Nat.reduceSub]
  refine Runs.while (α := Nat) (toIntSt L) (fun i => L.length - i) (fun i => i ≤ L.length) 0 (by omega) ?_ ?_
  · simp [go_sem, toAnn, toIntSt, fillS_zero]
  · intro i hi ih
    have hlen := fillS_length intA L (.v (.int .i64 0)) i hi
    simp (decide := true) only [toIntSt, hlen, go_sem, Nat.reduceAdd, Nat.reduceMul, Nat.reduceSub]
    refine Runs.split (fun h => ?_) (fun h => ?_)
    · have hlt : i < L.length := by simpa using h
      have hg := fillS_get intA L (.v (.int .i64 0)) i hlt
      have hs : (fillS intA L (.v (.int .i64 0)) i).set i (intA L[i]) = _ := fillS_set intA L (.v (.int .i64 0)) i hlt
      simp only [intA] at hs
      simp (decide := true) (disch := omega) only [hlen, hg, hs, go_sem, Nat.reduceAdd, Nat.reduceMul, Nat.reduceSub]
      refine ih (i + 1) _ (by omega) hlt ?_
      simp [go_sem, toAnn, toIntSt]
    · have hge : i = L.length := by simp at h; omega
      subst hge
      simp (decide := true) only [hlen, fillS_all, go_sem, Nat.reduceAdd, Nat.reduceMul, Nat.reduceSub]
      exact Runs.ret_refl
def toByteSt (L : List Int) (i : Nat) : St := ⟨[.sl .sh (L.map u8A), .any, .any, .ms (.l 448) 0 L.length L.length, .v (.int .i64 i), .any, .any, .any, .any, .any, .any, .any, .any, .any, .any, .any, .any, .any, .any, .any, .any, .any], [(448, ⟨true, 1, false, fillS u8A L (.v (.int .u8 0)) i⟩)], []⟩
set_option maxRecDepth 10000 in
include hm in
theorem toByteS (L : List Int) (h3 : L.length ≤ 1048576) : Holds Try.prog 17 [.sl .sh (L.map u8A)] [] (.sl (.ow 1) (L.map u8A)) [] := by
  refine holds_of (ann := toAnn) tabOk hm Try.func17 (by kernel_rfl) rfl ?_
  simp (decide := true) (disch := omega) only [Try.f17, go_sem, Nat.reduceAdd, Nat.reduceMul, Nat.reduceSub]
  refine Runs.while (α := Nat) (toByteSt L) (fun i => L.length - i) (fun i => i ≤ L.length) 0 (by omega) ?_ ?_
  · simp [go_sem, toAnn, toByteSt, fillS_zero]
  · intro i hi ih
    have hlen := fillS_length u8A L (.v (.int .u8 0)) i hi
    simp (decide := true) only [toByteSt, hlen, go_sem, Nat.reduceAdd, Nat.reduceMul, Nat.reduceSub]
    refine Runs.split (fun h => ?_) (fun h => ?_)
    · have hlt : i < L.length := by simpa using h
      have hg := fillS_get u8A L (.v (.int .u8 0)) i hlt
      have hs : (fillS u8A L (.v (.int .u8 0)) i).set i (u8A L[i]) = _ := fillS_set u8A L (.v (.int .u8 0)) i hlt
      simp only [u8A] at hs
      simp (decide := true) (disch := omega) only [hlen, hg, hs, go_sem, Nat.reduceAdd, Nat.reduceMul, Nat.reduceSub]
      refine ih (i + 1) _ (by omega) hlt ?_
      simp [go_sem, toAnn, toByteSt]
    · have hge : i = L.length := by simp at h; omega
      subst hge
      simp (decide := true) only [hlen, fillS_all, go_sem, Nat.reduceAdd, Nat.reduceMul, Nat.reduceSub]
      exact Runs.ret_refl
end Go.Proofs.W

namespace Go.Proofs.W
open Go Go.AM
set_option linter.unusedSimpArgs false
set_option linter.unusedVariables false
variable (hm : Try.prog.follows .mixedOrders = true)

def eqAnn : Ann := [(0, [0, 1, 5])]
def eqSched : Sched := .take 0 (.take 1 (.take 2 (.take 4 (.take 5 (.take 6 (.alt 3 (.alt 7 (.take 8 .fin) .nil) (.alt 7 (.alt 3 (.take 8 .fin) .nil) .nil)))))))
attribute [local go_sem] eqSched
def eqStringSt (L : List ByteArray) (i : Nat) : St := ⟨[.sl .sh (L.map strA), .sl .sh (L.map strA), .any, .any, .any, .v (.int .i64 i), .any, .any, .any, .any, .any, .any, .any, .any, .any, .any, .any, .any, .any, .any, .any, .any, .any, .any, .any, .any], [], []⟩
set_option maxRecDepth 10000 in
include hm in
theorem eqStringS (L : List ByteArray) (h3 : L.length ≤ 9223372036854775807) : Holds Try.prog 23 [.sl .sh (L.map strA), .sl .sh (L.map strA)] [] (.v (.bool true)) [] := by
  refine holds_of (ann := eqAnn) tabOk hm Try.func23 (by kernel_rfl) rfl ?_
  simp (decide := true) only [Try.f23, go_sem, Nat.reduceAdd, Nat.reduceMul, Nat.reduceSub]
  refine Runs.while (α := Nat) (eqStringSt L) (fun i => L.length - i) (fun i => i ≤ L.length) 0 (by omega) ?_ ?_
  · simp [go_sem, eqAnn, eqStringSt]
  · intro i hi ih
    simp (decide := true) only [eqStringSt, go_sem, Nat.reduceAdd, Nat.reduceMul, Nat.reduceSub]
    refine Runs.split (fun h => ?_) (fun h => ?_)
    · have hlt : i < L.length := by simpa using h
      simp (decide := true) only [go_sem, Nat.reduceAdd, Nat.reduceMul, Nat.reduceSub]
      refine Runs.draw (st1 := ?s1) (draws_by (ann := []) tabOk eqSched (by kernel_rfl) ?p1) ?q1
      case p1 =>
        intro K r X hK
        simp (decide := true) (disch := omega) only [go_sem, Nat.reduceAdd, Nat.reduceMul, Nat.reduceSub]
        exact hK
      case q1 =>
        simp (decide := true) (disch := omega) only [go_sem, Nat.reduceAdd, Nat.reduceMul, Nat.reduceSub]
        refine ih (i + 1) _ (by omega) hlt ?_
        simp [go_sem, eqAnn, eqStringSt]
    · simp (decide := true) only [go_sem, Nat.reduceAdd, Nat.reduceMul, Nat.reduceSub]
      exact Runs.ret_v
def eqIntSt (L : List Int) (i : Nat) : St := ⟨[.sl .sh (L.map intA), .sl .sh (L.map intA), .any, .any, .any, .v (.int .i64 i), .any, .any, .any, .any, .any, .any, .any, .any, .any, .any, .any, .any, .any, .any, .any, .any, .any, .any, .any, .any], [], []⟩
set_option maxRecDepth 10000 in
include hm in
theorem eqIntS (L : List Int) (h3 : L.length ≤ 9223372036854775807) : Holds Try.prog 24 [.sl .sh (L.map intA), .sl .sh (L.map intA)] [] (.v (.bool true)) [] := by
  refine holds_of (ann := eqAnn) tabOk hm Try.func24 (by kernel_rfl) rfl ?_
  simp (decide := true) only [Try.f24, go_sem, Nat.reduceAdd, Nat.reduceMul, Nat.reduceSub]
  refine Runs.while (α := Nat) (eqIntSt L) (fun i => L.length - i) (fun i => i ≤ L.length) 0 (by omega) ?_ ?_
  · simp [go_sem, eqAnn, eqIntSt]
  · intro i hi ih
    simp (decide := true) only [eqIntSt, go_sem, Nat.reduceAdd, Nat.reduceMul, Nat.reduceSub]
    refine Runs.split (fun h => ?_) (fun h => ?_)
    · have hlt : i < L.length := by simpa using h
      simp (decide := true) only [go_sem, Nat.reduceAdd, Nat.reduceMul, Nat.reduceSub]
      refine Runs.draw (st1 := ?s1) (draws_by (ann := []) tabOk eqSched (by kernel_rfl) ?p1) ?q1
      case p1 =>
        intro K r X hK
        simp (decide := true) (disch := omega) only [go_sem, Nat.reduceAdd, Nat.reduceMul, Nat.reduceSub]
        exact hK
      case q1 =>
        simp (decide := true) (disch := omega) only [go_sem, Nat.reduceAdd, Nat.reduceMul, Nat.reduceSub]
        refine ih (i + 1) _ (by omega) hlt ?_
        simp [go_sem, eqAnn, eqIntSt]
    · simp (decide := true) only [go_sem, Nat.reduceAdd, Nat.reduceMul, Nat.reduceSub]
      exact Runs.ret_v
def eqByteSt (L : List Int) (i : Nat) : St := ⟨[.sl .sh (L.map u8A), .sl .sh (L.map u8A), .any, .any, .any, .v (.int .i64 i), .any, .any, .any, .any, .any, .any, .any, .any, .any, .any, .any, .any, .any, .any, .any, .any, .any, .any, .any, .any], [], []⟩
set_option maxRecDepth 10000 in
include hm in
theorem eqByteS (L : List Int) (h3 : L.length ≤ 9223372036854775807) : Holds Try.prog 25 [.sl .sh (L.map u8A), .sl .sh (L.map u8A)] [] (.v (.bool true)) [] := by
  refine holds_of (ann := eqAnn) tabOk hm Try.func25 (by kernel_rfl) rfl ?_
  simp (decide := true) only [Try.f25, go_sem, Nat.reduceAdd, Nat.reduceMul, Nat.reduceSub]
  refine Runs.while (α := Nat) (eqByteSt L) (fun i => L.length - i) (fun i => i ≤ L.length) 0 (by omega) ?_ ?_
  · simp [go_sem, eqAnn, eqByteSt]
  · intro i hi ih
    simp (decide := true) only [eqByteSt, go_sem, Nat.reduceAdd, Nat.reduceMul, Nat.reduceSub]
    refine Runs.split (fun h => ?_) (fun h => ?_)
    · have hlt : i < L.length := by simpa using h
      simp (decide := true) only [go_sem, Nat.reduceAdd, Nat.reduceMul, Nat.reduceSub]
      refine Runs.draw (st1 := ?s1) (draws_by (ann := []) tabOk eqSched (by kernel_rfl) ?p1) ?q1
      case p1 =>
        intro K r X hK
        simp (decide := true) (disch := omega) only [go_sem, Nat.reduceAdd, Nat.reduceMul, Nat.reduceSub]
        exact hK
      case q1 =>
        simp (decide := true) (disch := omega) only [go_sem, Nat.reduceAdd, Nat.reduceMul, Nat.reduceSub]
        refine ih (i + 1) _ (by omega) hlt ?_
        simp [go_sem, eqAnn, eqByteSt]
    · simp (decide := true) only [go_sem, Nat.reduceAdd, Nat.reduceMul, Nat.reduceSub]
      exact Runs.ret_v
end Go.Proofs.W

namespace Go.Proofs.W
open Go Go.AM
set_option linter.unusedSimpArgs false
set_option linter.unusedVariables false
variable (hm : Try.prog.follows .mixedOrders = true)

/-- A list of what is void, as it is handed on: shared; held alone. -/
def crlA (I : List ByteArray) (f t a : Int) (S G : List Int) : A := .agg [.sl .sh (I.map strA), .v (.int .i64 f), .v (.int .i64 t), .v (.int .i64 a), .sl .sh (S.map intA), .sl .sh (G.map u8A)]
def crlO (I : List ByteArray) (f t a : Int) (S G : List Int) : A := .agg [.sl (.ow 1) (I.map strA), .v (.int .i64 f), .v (.int .i64 t), .v (.int .i64 a), .sl (.ow 1) (S.map intA), .sl (.ow 1) (G.map u8A)]
attribute [local go_sem] crlA crlO

def crlOk (I : List ByteArray) (f t a : Int) (S G : List Int) : Bool :=
  nameOk I && inB f (-631152000) 4102444799 && inB t (-631152000) 4102444799 && decide (f ≤ t) && inB a 1 4 && decide ((S.length : Int) ≤ 20) && (risesFrom S 1 && S.all fun n => inB n 1 1000000000000000) && inB G.length 1 64

set_option maxRecDepth 10000 in
include hm in
theorem crlOkI (I : List ByteArray) (f t a : Int) (S G : List Int) (h1 : I.length ≤ 9223372036854775807) (h2 : ∀ s ∈ I, s.size ≤ 9223372036854775807) (h3 : S.length ≤ 9223372036854775807) :
    Holds Try.prog 7 [crlA I f t a S G] [] (.v (.bool (crlOk I f t a S G))) [] := by
  refine holds_of (ann := []) tabOk hm Try.func7 (by kernel_rfl) rfl ?_
  simp (decide := true) only [Try.f7, go_sem, Nat.reduceAdd, Nat.reduceMul, Nat.reduceSub]
  refine Runs.call (isName hm I h1 h2) ?_
  simp (decide := true) only [go_sem, Nat.reduceAdd, Nat.reduceMul, Nat.reduceSub]
  refine Runs.split (fun e1 => ?_) (fun e1 => by simp (decide := true) only [crlOk, e1, go_sem, Nat.reduceAdd, Nat.reduceMul, Nat.reduceSub]; exact Runs.ret_v)
  simp (decide := true) only [go_sem, Nat.reduceAdd, Nat.reduceMul, Nat.reduceSub]
  refine Runs.call (isTime hm f) ?_
  simp (decide := true) only [go_sem, Nat.reduceAdd, Nat.reduceMul, Nat.reduceSub]
  refine Runs.split (fun e2 => ?_) (fun e2 => by simp (decide := true) only [crlOk, e1, e2, go_sem, Nat.reduceAdd, Nat.reduceMul, Nat.reduceSub]; exact Runs.ret_v)
  simp (decide := true) only [go_sem, Nat.reduceAdd, Nat.reduceMul, Nat.reduceSub]
  refine Runs.call (isTime hm t) ?_
  simp (decide := true) only [go_sem, Nat.reduceAdd, Nat.reduceMul, Nat.reduceSub]
  refine Runs.split (fun e3 => ?_) (fun e3 => by simp (decide := true) only [crlOk, e1, e2, e3, go_sem, Nat.reduceAdd, Nat.reduceMul, Nat.reduceSub]; exact Runs.ret_v)
  simp (decide := true) only [go_sem, Nat.reduceAdd, Nat.reduceMul, Nat.reduceSub]
  refine Runs.split (fun e4 => ?_) (fun e4 => by simp (decide := true) only [crlOk, e1, e2, e3, e4, go_sem, Nat.reduceAdd, Nat.reduceMul, Nat.reduceSub]; exact Runs.ret_v)
  simp (decide := true) only [go_sem, Nat.reduceAdd, Nat.reduceMul, Nat.reduceSub]
  refine Runs.call (within hm a 1 4) ?_
  simp (decide := true) only [go_sem, Nat.reduceAdd, Nat.reduceMul, Nat.reduceSub]
  refine Runs.split (fun e5 => ?_) (fun e5 => by simp (decide := true) only [crlOk, e1, e2, e3, e4, e5, go_sem, Nat.reduceAdd, Nat.reduceMul, Nat.reduceSub]; exact Runs.ret_v)
  simp (decide := true) only [go_sem, Nat.reduceAdd, Nat.reduceMul, Nat.reduceSub]
  refine Runs.split (fun e6 => ?_) (fun e6 => by simp (decide := true) only [crlOk, e1, e2, e3, e4, e5, e6, go_sem, Nat.reduceAdd, Nat.reduceMul, Nat.reduceSub]; exact Runs.ret_v)
  simp (decide := true) only [go_sem, Nat.reduceAdd, Nat.reduceMul, Nat.reduceSub]
  refine Runs.call (isRising hm S 1 1000000000000000 h3) ?_
  simp (decide := true) only [go_sem, Nat.reduceAdd, Nat.reduceMul, Nat.reduceSub]
  refine Runs.split (fun e7 => ?_) (fun e7 => by simp (decide := true) only [crlOk, e1, e2, e3, e4, e5, e6, e7, go_sem, Nat.reduceAdd, Nat.reduceMul, Nat.reduceSub]; exact Runs.ret_v)
  simp (decide := true) only [go_sem, Nat.reduceAdd, Nat.reduceMul, Nat.reduceSub]
  refine Runs.call (isSig hm (G.map u8A)) ?_
  simp (decide := true) only [crlOk, e1, e2, e3, e4, e5, e6, e7, go_sem, Nat.reduceAdd, Nat.reduceMul, Nat.reduceSub]
  exact Runs.ret_v

/-- What is left of the room. -/
def szCrlV (I : List ByteArray) (S G : List Int) (left : Int) : Int :=
  if szS I left < 0 then -1 else if szI S.length (szS I left) < 0 then -1 else szI G.length (szI S.length (szS I left))



set_option maxRecDepth 10000 in
include hm in
theorem szCrl (I : List ByteArray) (f t a : Int) (S G : List Int) (left : Int) (l1 : 0 ≤ left) (l2 : left ≤ 1048576) (h1 : I.length ≤ 9223372036854775807) (h2 : ∀ s ∈ I, s.size ≤ 9223372036854775807) (h3 : S.length ≤ 9223372036854775807) (h4 : G.length ≤ 9223372036854775807) :
    Holds Try.prog 4 [crlA I f t a S G, .v (.int .i64 left)] [] (.v (.int .i64 (szCrlV I S G left))) [] := by
  have b1 := szS_le I left l1
  refine holds_of (ann := []) tabOk hm Try.func4 (by kernel_rfl) rfl ?_
  simp (decide := true) only [Try.f4, go_sem, Nat.reduceAdd, Nat.reduceMul, Nat.reduceSub]
  refine Runs.call (szStringS hm I left l1 l2 h1 h2) ?_
  simp (decide := true) only [go_sem, Nat.reduceAdd, Nat.reduceMul, Nat.reduceSub]
  refine Runs.split (fun e => ?_) (fun e => ?_)
  · simp only [decide_eq_true_eq] at e
    simp (decide := true) only [szCrlV, if_pos e, go_sem, Nat.reduceAdd, Nat.reduceMul, Nat.reduceSub]
    exact Runs.ret_v
  · simp only [decide_eq_false_iff_not] at e
    simp (decide := true) only [go_sem, Nat.reduceAdd, Nat.reduceMul, Nat.reduceSub]
    refine Runs.call (szIntS hm (S.map intA) (szS I left) (by omega) (by omega) (by simpa using h3)) ?_
    simp (decide := true) only [go_sem, Nat.reduceAdd, Nat.reduceMul, Nat.reduceSub]
    have b2 := szI_le S.length (szS I left) (by omega)
    refine Runs.split (fun e' => ?_) (fun e' => ?_)
    · simp only [decide_eq_true_eq] at e'
      simp (decide := true) only [szCrlV, if_neg e, if_pos e', go_sem, Nat.reduceAdd, Nat.reduceMul, Nat.reduceSub]
      exact Runs.ret_v
    · simp only [decide_eq_false_iff_not] at e'
      simp (decide := true) only [go_sem, Nat.reduceAdd, Nat.reduceMul, Nat.reduceSub]
      refine Runs.call (szByteS hm (G.map u8A) (szI S.length (szS I left)) (by omega) (by omega) (by simpa using h4)) ?_
      simp (decide := true) only [go_sem, Nat.reduceAdd, Nat.reduceMul, Nat.reduceSub]
      have b3 := szI_le G.length (szI S.length (szS I left)) (by omega)
      refine Runs.split (fun e'' => ?_) (fun e'' => ?_)
      · simp only [decide_eq_true_eq] at e''
        have e3 : szI G.length (szI S.length (szS I left)) = -1 := by omega
        simp (decide := true) only [szCrlV, if_neg e, if_neg e', e3, go_sem, Nat.reduceAdd, Nat.reduceMul, Nat.reduceSub]
        exact Runs.ret_v
      · simp (decide := true) only [szCrlV, if_neg e, if_neg e', go_sem, Nat.reduceAdd, Nat.reduceMul, Nat.reduceSub]
        exact Runs.ret_v

set_option maxRecDepth 10000 in
include hm in
theorem toCrl (I : List ByteArray) (f t a : Int) (S G : List Int) (h1 : I.length ≤ 1048576) (h3 : S.length ≤ 1048576) (h4 : G.length ≤ 1048576) :
    Holds Try.prog 6 [crlA I f t a S G] [] (crlO I f t a S G) [] := by
  refine holds_of (ann := []) tabOk hm Try.func6 (by kernel_rfl) rfl ?_
  simp (decide := true) only [Try.f6, go_sem, Nat.reduceAdd, Nat.reduceMul, Nat.reduceSub]
  refine Runs.call (toStringS hm I h1) ?_
  simp (decide := true) only [go_sem, Nat.reduceAdd, Nat.reduceMul, Nat.reduceSub]
  refine Runs.call (toIntS hm S h3) ?_
  simp (decide := true) only [go_sem, Nat.reduceAdd, Nat.reduceMul, Nat.reduceSub]
  refine Runs.call (toByteS hm G h4) ?_
  simp (decide := true) only [go_sem, Nat.reduceAdd, Nat.reduceMul, Nat.reduceSub]
  exact Runs.ret_refl

set_option maxRecDepth 10000 in
include hm in
theorem eqCrl (I : List ByteArray) (f t a : Int) (S G : List Int) (h1 : I.length ≤ 9223372036854775807) (h3 : S.length ≤ 9223372036854775807) (h4 : G.length ≤ 9223372036854775807) :
    Holds Try.prog 8 [crlA I f t a S G, crlA I f t a S G] [] (.v (.bool true)) [] := by
  refine holds_of (ann := []) tabOk hm Try.func8 (by kernel_rfl) rfl ?_
  simp (decide := true) only [Try.f8, go_sem, Nat.reduceAdd, Nat.reduceMul, Nat.reduceSub]
  refine Runs.call (eqStringS hm I h1) ?_
  simp (decide := true) only [go_sem, Nat.reduceAdd, Nat.reduceMul, Nat.reduceSub]
  refine Runs.call (eqIntS hm S h3) ?_
  simp (decide := true) only [go_sem, Nat.reduceAdd, Nat.reduceMul, Nat.reduceSub]
  refine Runs.call (eqByteS hm G h4) ?_
  simp (decide := true) only [go_sem, Nat.reduceAdd, Nat.reduceMul, Nat.reduceSub]
  exact Runs.ret_v

/-- A place of the list is in its bounds, and greater than the one before it. -/
def stepOk (S : List Int) (i : Nat) : Bool := inB (S.getD i 0) 1 1000000000000000 && (decide (i = 0) || decide (S.getD (i - 1) 0 < S.getD i 0))
def stepsOk (S : List Int) (i : Nat) : Bool := (List.range' i (S.length - i)).all (stepOk S)
theorem stepsOk_succ {S : List Int} {i : Nat} (h : i < S.length) : stepsOk S i = (stepOk S i && stepsOk S (i + 1)) := by
  unfold stepsOk
  obtain ⟨k, hk⟩ : ∃ k, S.length - i = k + 1 := ⟨S.length - i - 1, by omega⟩
  rw [hk, List.range'_succ, List.all_cons, show S.length - (i + 1) = k by omega]
theorem stepsOk_end {S : List Int} {i : Nat} (h : S.length ≤ i) : stepsOk S i = true := by
  unfold stepsOk
  rw [show S.length - i = 0 by omega]; rfl
theorem stepsOk_eq (S : List Int) : stepsOk S 0 = (risesFrom S 1 && S.all fun n => inB n 1 1000000000000000) := by
  rw [Bool.eq_iff_iff]
  simp only [stepsOk, risesFrom, Bool.and_eq_true, List.all_eq_true, List.mem_range'_1, stepOk, Bool.or_eq_true, decide_eq_true_eq]
  constructor
  · intro h
    refine ⟨fun j hj => ?_, fun n hn => ?_⟩
    · rcases (h j ⟨by omega, by omega⟩).2 with e | e
      · omega
      · exact e
    · obtain ⟨j, hj, rfl⟩ := List.getElem_of_mem hn
      have := (h j ⟨by omega, by omega⟩).1
      simpa [List.getD, hj] using this
  · rintro ⟨h1, h2⟩ j ⟨-, hj⟩
    have hj' : j < S.length := by omega
    refine ⟨?_, ?_⟩
    · have := h2 S[j] (List.getElem_mem hj')
      simpa [List.getD, hj'] using this
    · rcases Nat.eq_zero_or_pos j with e | e
      · exact .inl e
      · exact .inr (h1 j ⟨by omega, by omega⟩)

def ann5 : Ann := [(0, [1, 3])]
def st5 (I : List ByteArray) (f t a : Int) (S G : List Int) (i : Nat) : St := ⟨[.any, .ref (.l 64) 0 0 1, .any, .v (.int .i64 i), .any, .any, .any, .any, .any, .any, .any, .any, .any, .any, .any, .any, .any, .any, .any, .any, .any, .any, .any, .any, .any, .any, .any, .any, .any, .any, .any, .any, .any, .any, .any, .any, .any, .any, .any, .any, .any, .any, .any, .any, .any, .any, .any, .any, .any, .any, .any, .any, .any, .any, .any, .any, .any, .any, .any, .any, .any, .any, .any, .any, .any, .any, .any, .any, .any, .any, .any, .any, .any], [(64, ⟨true, 6, true, [crlA I f t a S G]⟩)], []⟩
def sched5 : Sched := .take 0 (.take 2 (.alt 1 (.take 3 (.alt 4 (.alt 5 (.take 6 (.take 7 (.take 8 (.take 9 (.take 10 (.take 11 (.take 13 (.take 14 (.take 17 (.take 19 (.alt 12 (.take 15 (.alt 16 (.alt 18 (.take 20 (.alt 21 (.take 22 (.take 23 (.take 24 .fin))) .nil)) .nil) (.alt 18 (.take 20 (.alt 16 (.alt 21 (.take 22 (.take 23 (.take 24 .fin))) .nil) (.alt 21 (.alt 16 (.take 22 (.take 23 (.take 24 .fin))) .nil) .nil))) .nil))) (.alt 18 (.take 20 (.alt 12 (.take 15 (.alt 16 (.alt 21 (.take 22 (.take 23 (.take 24 .fin))) .nil) (.alt 21 (.alt 16 (.take 22 (.take 23 (.take 24 .fin))) .nil) .nil))) (.alt 21 (.alt 12 (.take 15 (.alt 16 (.take 22 (.take 23 (.take 24 .fin))) .nil)) .nil) .nil))) .nil)))))))))))) .nil) .nil)) .nil))
attribute [local go_sem] sched5

set_option maxRecDepth 10000 in
include hm in
theorem crlOkS (I : List ByteArray) (f t a : Int) (S G : List Int) (h1 : I.length ≤ 9223372036854775807) (h2 : ∀ s ∈ I, s.size ≤ 9223372036854775807) (h3 : S.length ≤ 9223372036854775807) :
    Holds Try.prog 5 [crlA I f t a S G] [] (.v (.bool (crlOk I f t a S G))) [] := by
  refine holds_of (ann := ann5) tabOk hm Try.func5 (by kernel_rfl) rfl ?_
  simp (decide := true) only [Try.f5, go_sem, Nat.reduceAdd, Nat.reduceMul, Nat.reduceSub]
  refine Runs.while (α := Nat) (st5 I f t a S G) (fun i => S.length - i) (fun i => i ≤ S.length ∧ stepsOk S i = stepsOk S 0) 0 ⟨by omega, rfl⟩ ?_ ?_
  · simp [go_sem, ann5, st5]
  · rintro i ⟨hi1, hr⟩ ih
    simp (decide := true) (disch := omega) only [st5, go_sem, Nat.reduceAdd, Nat.reduceMul, Nat.reduceSub]
    refine Runs.split (fun h => ?_) (fun h => ?_)
    · have hlt : i < S.length := by simpa using h
      rw [stepsOk_succ hlt] at hr
      have hg : S.getD i 0 = S[i] := by simp [List.getD, hlt]
      simp (decide := true) only [go_sem, Nat.reduceAdd, Nat.reduceMul, Nat.reduceSub]
      have stop : stepOk S i = false → crlOk I f t a S G = false := fun e => by
        rw [crlOk, ← stepsOk_eq, ← hr, e]; simp
      cases hb : inB S[i] 1 1000000000000000 with
      | false =>
        refine Runs.draw (st1 := ?s1) (draws_by (ann := []) tabOk sched5 (by kernel_rfl) ?p1) ?q1
        case p1 =>
          intro K r X hK
          simp (decide := true) (disch := omega) only [go_sem, Nat.reduceAdd, Nat.reduceMul, Nat.reduceSub]
          refine Runs.call (l1In hm _ 1 _) ?_
          simp (decide := true) (disch := omega) only [hb, go_sem, Nat.reduceAdd, Nat.reduceMul, Nat.reduceSub]
          exact hK
        case q1 =>
          have e : crlOk I f t a S G = false := stop (by rw [stepOk, hg, hb, Bool.false_and])
          simp (decide := true) (disch := omega) only [e, go_sem, Nat.reduceAdd, Nat.reduceMul, Nat.reduceSub]
          exact Runs.ret_v
      | true =>
        rcases Nat.eq_zero_or_pos i with rfl | h0
        · refine Runs.draw (st1 := ?s2) (draws_by (ann := []) tabOk sched5 (by kernel_rfl) ?p2) ?q2
          case p2 =>
            intro K r X hK
            simp (decide := true) (disch := omega) only [go_sem, Nat.reduceAdd, Nat.reduceMul, Nat.reduceSub]
            refine Runs.call (l1In hm _ 1 _) ?_
            simp (decide := true) (disch := omega) only [hb, Int.natCast_zero, gt_iff_lt, Int.lt_irrefl, go_sem, Nat.reduceAdd, Nat.reduceMul, Nat.reduceSub]
            exact hK
          case q2 =>
            have e : stepOk S 0 = true := by rw [stepOk, hg, hb]; rfl
            rw [e, Bool.true_and] at hr
            simp (decide := true) (disch := omega) only [go_sem, Nat.reduceAdd, Nat.reduceMul, Nat.reduceSub]
            refine ih 1 _ (by omega) ⟨by omega, hr⟩ ?_
            simp [go_sem, ann5, st5]
        · have hd : decide ((i : Int) > 0) = true := by simp; omega
          have ht : ((i : Int) - 1).toNat = i - 1 := by omega
          have hg1 : (S.map intA).getD (i - 1) .any = .v (.int .i64 (S.getD (i - 1) 0)) := by simp [List.getD, show i - 1 < S.length by omega, intA]
          refine Runs.draw (st1 := ?s3) (draws_by (ann := []) tabOk sched5 (by kernel_rfl) ?p3) ?q3
          case p3 =>
            intro K r X hK
            simp (decide := true) (disch := omega) only [go_sem, Nat.reduceAdd, Nat.reduceMul, Nat.reduceSub]
            refine Runs.call (l1In hm _ 1 _) ?_
            simp (decide := true) (disch := omega) only [hb, hd, ht, hg1, go_sem, Nat.reduceAdd, Nat.reduceMul, Nat.reduceSub]
            exact hK
          case q3 =>
            simp (decide := true) (disch := omega) only [go_sem, Nat.reduceAdd, Nat.reduceMul, Nat.reduceSub]
            refine Runs.split (fun h => ?_) (fun h => ?_)
            · have e : crlOk I f t a S G = false := stop (by
                simp only [decide_eq_true_eq] at h
                rw [stepOk, hg, hb, decide_eq_false (by omega), decide_eq_false (by omega)]; rfl)
              simp (decide := true) (disch := omega) only [e, go_sem, Nat.reduceAdd, Nat.reduceMul, Nat.reduceSub]
              exact Runs.ret_v
            · have e : stepOk S i = true := by
                simp only [decide_eq_false_iff_not] at h
                rw [stepOk, hg, hb, decide_eq_true (p := _ < _) (by omega), Bool.or_true]; rfl
              rw [e, Bool.true_and] at hr
              simp (decide := true) (disch := omega) only [go_sem, Nat.reduceAdd, Nat.reduceMul, Nat.reduceSub]
              refine ih (i + 1) _ (by omega) ⟨by omega, hr⟩ ?_
              simp [go_sem, ann5, st5]
    · have hge : i = S.length := by simp at h; omega
      rw [stepsOk_end (by omega), stepsOk_eq] at hr
      simp (decide := true) only [go_sem, Nat.reduceAdd, Nat.reduceMul, Nat.reduceSub]
      refine Runs.call (l10Name hm I h1 h2) ?_
      simp (decide := true) only [go_sem, Nat.reduceAdd, Nat.reduceMul, Nat.reduceSub]
      refine Runs.split (fun e1 => ?_) (fun e1 => by simp (decide := true) only [crlOk, e1, go_sem, Nat.reduceAdd, Nat.reduceMul, Nat.reduceSub]; exact Runs.ret_v)
      simp (decide := true) only [go_sem, Nat.reduceAdd, Nat.reduceMul, Nat.reduceSub]
      refine Runs.call (l9Ok hm f) ?_
      simp (decide := true) only [go_sem, Nat.reduceAdd, Nat.reduceMul, Nat.reduceSub]
      refine Runs.split (fun e2 => ?_) (fun e2 => by simp (decide := true) only [crlOk, e1, e2, go_sem, Nat.reduceAdd, Nat.reduceMul, Nat.reduceSub]; exact Runs.ret_v)
      simp (decide := true) only [go_sem, Nat.reduceAdd, Nat.reduceMul, Nat.reduceSub]
      refine Runs.call (l9Ok hm t) ?_
      simp (decide := true) only [go_sem, Nat.reduceAdd, Nat.reduceMul, Nat.reduceSub]
      refine Runs.split (fun e3 => ?_) (fun e3 => by simp (decide := true) only [crlOk, e1, e2, e3, go_sem, Nat.reduceAdd, Nat.reduceMul, Nat.reduceSub]; exact Runs.ret_v)
      simp (decide := true) only [go_sem, Nat.reduceAdd, Nat.reduceMul, Nat.reduceSub]
      refine Runs.split (fun e4 => ?_) (fun e4 => by simp (decide := true) only [crlOk, e1, e2, e3, e4, go_sem, Nat.reduceAdd, Nat.reduceMul, Nat.reduceSub]; exact Runs.ret_v)
      simp (decide := true) only [go_sem, Nat.reduceAdd, Nat.reduceMul, Nat.reduceSub]
      refine Runs.call (l1In hm a 1 4) ?_
      simp (decide := true) only [go_sem, Nat.reduceAdd, Nat.reduceMul, Nat.reduceSub]
      refine Runs.split (fun e5 => ?_) (fun e5 => by simp (decide := true) only [crlOk, e1, e2, e3, e4, e5, go_sem, Nat.reduceAdd, Nat.reduceMul, Nat.reduceSub]; exact Runs.ret_v)
      simp (decide := true) only [go_sem, Nat.reduceAdd, Nat.reduceMul, Nat.reduceSub]
      refine Runs.split (fun e6 => ?_) (fun e6 => by simp (decide := true) only [crlOk, e1, e2, e3, e4, e5, e6, go_sem, Nat.reduceAdd, Nat.reduceMul, Nat.reduceSub]; exact Runs.ret_v)
      simp (decide := true) only [go_sem, Nat.reduceAdd, Nat.reduceMul, Nat.reduceSub]
      refine Runs.call (l1In hm G.length 1 64) ?_
      simp (decide := true) only [crlOk, e1, e2, e3, e4, e5, e6, ← hr, go_sem, Nat.reduceAdd, Nat.reduceMul, Nat.reduceSub]
      exact Runs.ret_v
end Go.Proofs.W

namespace Go.Proofs.W
open Go Go.AM
set_option linter.unusedSimpArgs false
set_option linter.unusedVariables false
variable (hm : Try.prog.follows .mixedOrders = true)

attribute [local go_sem] crlA crlO
def sched3 : Sched := .alt 0 (.alt 1 (.alt 2 (.alt 3 (.take 4 .fin) .nil) .nil) .nil) (.alt 1 (.alt 0 (.alt 2 (.alt 3 (.take 4 .fin) .nil) .nil) (.alt 2 (.alt 0 (.alt 3 (.take 4 .fin) .nil) .nil) .nil)) .nil)
attribute [local go_sem] sched3



set_option maxRecDepth 10000 in
include hm in
theorem lawCrlOk (I : List ByteArray) (f t a : Int) (S G : List Int) (h1 : I.length ≤ 9223372036854775807) (h2 : ∀ s ∈ I, s.size ≤ 9223372036854775807) (h3 : S.length ≤ 9223372036854775807) (h4 : G.length ≤ 9223372036854775807) :
    Holds Try.prog 3 [crlA I f t a S G] [] (.v (.bool true)) [] := by
  refine holds_of (ann := []) tabOk hm Try.func3 (by kernel_rfl) rfl ?_
  simp (decide := true) only [Try.f3, go_sem, Nat.reduceAdd, Nat.reduceMul, Nat.reduceSub]
  refine Runs.call (szCrl hm I f t a S G 1048576 (by omega) (by omega) h1 h2 h3 h4) ?_
  simp (decide := true) only [go_sem, Nat.reduceAdd, Nat.reduceMul, Nat.reduceSub]
  refine Runs.split (fun e => by simp (decide := true) only [go_sem, Nat.reduceAdd, Nat.reduceMul, Nat.reduceSub]; exact Runs.ret_v) (fun e => ?_)
  simp only [decide_eq_false_iff_not] at e
  have b1 := szS_le I 1048576 (by omega)
  obtain ⟨e1, e2, e3⟩ : ¬ szS I 1048576 < 0 ∧ ¬ szI S.length (szS I 1048576) < 0 ∧ ¬ szI G.length (szI S.length (szS I 1048576)) < 0 := by
    unfold szCrlV at e
    split at e
    · exact absurd (by omega) e
    · split at e
      · exact absurd (by omega) e
      · exact ⟨by assumption, by assumption, e⟩
  have b2 := szI_le S.length (szS I 1048576) (by omega)
  have k1 := szS_len I _ e1 (by omega)
  have k2 := szI_len S.length _ e2 (by omega)
  have k3 := szI_len G.length _ e3 (by omega)
  simp (decide := true) only [go_sem, Nat.reduceAdd, Nat.reduceMul, Nat.reduceSub]
  refine Runs.call (toCrl hm I f t a S G k1 k2 k3) ?_
  simp (decide := true) only [go_sem, Nat.reduceAdd, Nat.reduceMul, Nat.reduceSub]
  refine Runs.call (crlOkS hm I f t a S G h1 h2 h3) ?_
  simp (decide := true) only [go_sem, Nat.reduceAdd, Nat.reduceMul, Nat.reduceSub]
  refine Runs.call (toCrl hm I f t a S G k1 k2 k3) ?_
  simp (decide := true) only [go_sem, Nat.reduceAdd, Nat.reduceMul, Nat.reduceSub]
  refine Runs.call (crlOkI hm I f t a S G h1 h2 h3) ?_
  simp (decide := true) only [go_sem, Nat.reduceAdd, Nat.reduceMul, Nat.reduceSub]
  refine Runs.draw (st1 := ?s1) (draws_by (ann := []) tabOk sched3 (by kernel_rfl) ?p1) ?q1
  case p1 =>
    intro K r X hK
    simp (decide := true) only [go_sem, Nat.reduceAdd, Nat.reduceMul, Nat.reduceSub]
    refine ⟨?_, ?_, ?_⟩
    · refine Runs.call (toCrl hm I f t a S G k1 k2 k3) ?_
      simp (decide := true) only [go_sem, Nat.reduceAdd, Nat.reduceMul, Nat.reduceSub]
      refine Runs.call (eqCrl hm I f t a S G h1 h3 h4) ?_
      simp (decide := true) only [go_sem, Nat.reduceAdd, Nat.reduceMul, Nat.reduceSub]
      exact hK
    · refine Runs.call (toCrl hm I f t a S G k1 k2 k3) ?_
      simp (decide := true) only [go_sem, Nat.reduceAdd, Nat.reduceMul, Nat.reduceSub]
      refine Runs.call (eqCrl hm I f t a S G h1 h3 h4) ?_
      simp (decide := true) only [go_sem, Nat.reduceAdd, Nat.reduceMul, Nat.reduceSub]
      exact hK
    · refine Runs.call (toCrl hm I f t a S G k1 k2 k3) ?_
      simp (decide := true) only [go_sem, Nat.reduceAdd, Nat.reduceMul, Nat.reduceSub]
      refine Runs.call (eqCrl hm I f t a S G h1 h3 h4) ?_
      simp (decide := true) only [go_sem, Nat.reduceAdd, Nat.reduceMul, Nat.reduceSub]
      exact hK
  case q1 =>
    simp (decide := true) only [go_sem, Nat.reduceAdd, Nat.reduceMul, Nat.reduceSub]
    exact Runs.ret_v
end Go.Proofs.W
