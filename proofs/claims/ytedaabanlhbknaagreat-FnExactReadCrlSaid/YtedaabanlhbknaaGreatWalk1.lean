import Derived.Test.YtedaabanlhbknaaGreatProg
import Derived.KernelRfl
import Derived.Lib.Strings
import Derived.Test.YtedaabanlhbknaaGreatMachine3
set_option linter.unusedVariables false
set_option linter.unusedSimpArgs false
namespace Go.Proofs.W
open Go Go.AM
def repV (n : Nat) (v : Value) : List Value := List.replicate n v
def tab : Go.AM.Tab := [
 [⟨.other, 0, 0, []⟩,
 ⟨.func, 1, 8, [.nilFunc]⟩,
 ⟨.int .i64, 1, 8, [.int .i64 0]⟩,
 ⟨.int .i64, 1, 8, [.int .i64 0]⟩,
 ⟨.bool, 1, 1, [.bool false]⟩,
 ⟨.int .u8, 1, 1, [.int .u8 0]⟩,
 ⟨.int .u8, 1, 1, [.int .u8 0]⟩,
 ⟨.struct [(0, 1, 2), (1, 1, 3), (2, 1, 4), (3, 1, 6)], 4, 24, [.int .i64 0, .int .i64 0, .bool false, .int .u8 0]⟩,
 ⟨.struct [(0, 1, 2), (1, 1, 3), (2, 1, 4), (3, 1, 6)], 4, 24, [.int .i64 0, .int .i64 0, .bool false, .int .u8 0]⟩,
 ⟨.string, 1, 16, [.string ⟨#[]⟩]⟩,
 ⟨.string, 1, 16, [.string ⟨#[]⟩]⟩,
 ⟨.string, 1, 16, [.string ⟨#[]⟩]⟩,
 ⟨.int .u64, 1, 8, [.int .u64 0]⟩,
 ⟨.struct [(0, 1, 9), (1, 1, 12)], 2, 24, [.string ⟨#[]⟩, .int .u64 0]⟩,
 ⟨.struct [(0, 1, 9), (1, 1, 12)], 2, 24, [.string ⟨#[]⟩, .int .u64 0]⟩,
 ⟨.pointer 117, 1, 8, [.pointer none]⟩],
 [⟨.pointer 120, 1, 8, [.pointer none]⟩,
 ⟨.pointer 129, 1, 8, [.pointer none]⟩,
 ⟨.struct [(0, 1, 17)], 1, 8, [.pointer none]⟩,
 ⟨.struct [(0, 1, 17)], 1, 8, [.pointer none]⟩,
 ⟨.other, 0, 0, []⟩,
 ⟨.int .i32, 1, 4, [.int .i32 0]⟩,
 ⟨.slice 5, 1, 24, [.slice none 0 0]⟩,
 ⟨.slice 9, 1, 24, [.slice none 0 0]⟩,
 ⟨.slice 3, 1, 24, [.slice none 0 0]⟩,
 ⟨.struct [(0, 1, 23), (1, 1, 3), (2, 1, 3), (3, 1, 3), (4, 1, 24), (5, 1, 22)], 6, 96, [.slice none 0 0, .int .i64 0, .int .i64 0, .int .i64 0, .slice none 0 0, .slice none 0 0]⟩,
 ⟨.struct [(0, 1, 23), (1, 1, 3), (2, 1, 3), (3, 1, 3), (4, 1, 24), (5, 1, 22)], 6, 96, [.slice none 0 0, .int .i64 0, .int .i64 0, .int .i64 0, .slice none 0 0, .slice none 0 0]⟩,
 ⟨.other, 0, 0, []⟩,
 ⟨.func, 1, 8, [.nilFunc]⟩,
 ⟨.func, 1, 8, [.nilFunc]⟩,
 ⟨.func, 1, 8, [.nilFunc]⟩,
 ⟨.func, 1, 8, [.nilFunc]⟩],
 [⟨.func, 1, 8, [.nilFunc]⟩,
 ⟨.func, 1, 8, [.nilFunc]⟩,
 ⟨.func, 1, 8, [.nilFunc]⟩,
 ⟨.slice 40, 1, 24, [.slice none 0 0]⟩,
 ⟨.other, 0, 0, []⟩,
 ⟨.func, 1, 8, [.nilFunc]⟩,
 ⟨.func, 1, 8, [.nilFunc]⟩,
 ⟨.struct [(0, 1, 3), (1, 1, 22), (2, 1, 3)], 3, 40, [.int .i64 0, .slice none 0 0, .int .i64 0]⟩,
 ⟨.struct [(0, 1, 3), (1, 1, 22), (2, 1, 3)], 3, 40, [.int .i64 0, .slice none 0 0, .int .i64 0]⟩,
 ⟨.func, 1, 8, [.nilFunc]⟩,
 ⟨.func, 1, 8, [.nilFunc]⟩,
 ⟨.other, 0, 0, []⟩,
 ⟨.func, 1, 8, [.nilFunc]⟩,
 ⟨.other, 0, 0, []⟩,
 ⟨.func, 1, 8, [.nilFunc]⟩,
 ⟨.slice 49, 1, 24, [.slice none 0 0]⟩],
 [⟨.struct [(0, 1, 3), (1, 1, 22), (2, 1, 47)], 3, 56, [.int .i64 0, .slice none 0 0, .slice none 0 0]⟩,
 ⟨.struct [(0, 1, 3), (1, 1, 22), (2, 1, 47)], 3, 56, [.int .i64 0, .slice none 0 0, .slice none 0 0]⟩,
 ⟨.other, 0, 0, []⟩,
 ⟨.func, 1, 8, [.nilFunc]⟩,
 ⟨.func, 1, 8, [.nilFunc]⟩,
 ⟨.func, 1, 8, [.nilFunc]⟩,
 ⟨.func, 1, 8, [.nilFunc]⟩,
 ⟨.func, 1, 8, [.nilFunc]⟩,
 ⟨.func, 1, 8, [.nilFunc]⟩,
 ⟨.func, 1, 8, [.nilFunc]⟩,
 ⟨.func, 1, 8, [.nilFunc]⟩,
 ⟨.func, 1, 8, [.nilFunc]⟩,
 ⟨.func, 1, 8, [.nilFunc]⟩,
 ⟨.struct [(0, 1, 22), (1, 1, 35), (2, 1, 3), (3, 1, 3)], 4, 64, [.slice none 0 0, .slice none 0 0, .int .i64 0, .int .i64 0]⟩,
 ⟨.struct [(0, 1, 22), (1, 1, 35), (2, 1, 3), (3, 1, 3)], 4, 64, [.slice none 0 0, .slice none 0 0, .int .i64 0, .int .i64 0]⟩,
 ⟨.other, 0, 0, []⟩],
 [⟨.func, 1, 8, [.nilFunc]⟩,
 ⟨.func, 1, 8, [.nilFunc]⟩,
 ⟨.func, 1, 8, [.nilFunc]⟩,
 ⟨.func, 1, 8, [.nilFunc]⟩,
 ⟨.func, 1, 8, [.nilFunc]⟩,
 ⟨.func, 1, 8, [.nilFunc]⟩,
 ⟨.func, 1, 8, [.nilFunc]⟩,
 ⟨.func, 1, 8, [.nilFunc]⟩,
 ⟨.func, 1, 8, [.nilFunc]⟩,
 ⟨.func, 1, 8, [.nilFunc]⟩,
 ⟨.pointer 76, 1, 8, [.pointer none]⟩,
 ⟨.struct [(0, 1, 22), (1, 1, 35), (2, 1, 3), (3, 1, 3)], 4, 64, [.slice none 0 0, .slice none 0 0, .int .i64 0, .int .i64 0]⟩,
 ⟨.struct [(0, 1, 22), (1, 1, 35), (2, 1, 3), (3, 1, 3)], 4, 64, [.slice none 0 0, .slice none 0 0, .int .i64 0, .int .i64 0]⟩,
 ⟨.func, 1, 8, [.nilFunc]⟩,
 ⟨.func, 1, 8, [.nilFunc]⟩,
 ⟨.func, 1, 8, [.nilFunc]⟩],
 [⟨.func, 1, 8, [.nilFunc]⟩,
 ⟨.func, 1, 8, [.nilFunc]⟩,
 ⟨.func, 1, 8, [.nilFunc]⟩,
 ⟨.func, 1, 8, [.nilFunc]⟩,
 ⟨.other, 0, 0, []⟩,
 ⟨.func, 1, 8, [.nilFunc]⟩,
 ⟨.func, 1, 8, [.nilFunc]⟩,
 ⟨.func, 1, 8, [.nilFunc]⟩,
 ⟨.int .u64, 1, 8, [.int .u64 0]⟩,
 ⟨.func, 1, 8, [.nilFunc]⟩,
 ⟨.func, 1, 8, [.nilFunc]⟩,
 ⟨.func, 1, 8, [.nilFunc]⟩,
 ⟨.func, 1, 8, [.nilFunc]⟩,
 ⟨.func, 1, 8, [.nilFunc]⟩,
 ⟨.other, 0, 0, []⟩,
 ⟨.func, 1, 8, [.nilFunc]⟩],
 [⟨.func, 1, 8, [.nilFunc]⟩,
 ⟨.func, 1, 8, [.nilFunc]⟩,
 ⟨.func, 1, 8, [.nilFunc]⟩,
 ⟨.int .i8, 1, 1, [.int .i8 0]⟩,
 ⟨.other, 0, 0, []⟩,
 ⟨.func, 1, 8, [.nilFunc]⟩,
 ⟨.func, 1, 8, [.nilFunc]⟩,
 ⟨.func, 1, 8, [.nilFunc]⟩,
 ⟨.func, 1, 8, [.nilFunc]⟩,
 ⟨.func, 1, 8, [.nilFunc]⟩,
 ⟨.other, 0, 0, []⟩,
 ⟨.func, 1, 8, [.nilFunc]⟩,
 ⟨.func, 1, 8, [.nilFunc]⟩,
 ⟨.func, 1, 8, [.nilFunc]⟩,
 ⟨.func, 1, 8, [.nilFunc]⟩,
 ⟨.other, 0, 0, []⟩],
 [⟨.func, 1, 8, [.nilFunc]⟩,
 ⟨.func, 1, 8, [.nilFunc]⟩,
 ⟨.func, 1, 8, [.nilFunc]⟩,
 ⟨.func, 1, 8, [.nilFunc]⟩,
 ⟨.struct [(0, 1, 17), (1, 1, 17), (2, 1, 17), (3, 1, 9)], 4, 40, [.pointer none, .pointer none, .pointer none, .string ⟨#[]⟩]⟩,
 ⟨.struct [(0, 1, 17), (1, 1, 17), (2, 1, 17), (3, 1, 9)], 4, 40, [.pointer none, .pointer none, .pointer none, .string ⟨#[]⟩]⟩,
 ⟨.other, 0, 0, []⟩,
 ⟨.other, 0, 0, []⟩,
 ⟨.other, 0, 0, []⟩,
 ⟨.int .u32, 1, 4, [.int .u32 0]⟩,
 ⟨.int .u8, 1, 1, [.int .u8 0]⟩,
 ⟨.int .u8, 1, 1, [.int .u8 0]⟩,
 ⟨.func, 1, 8, [.nilFunc]⟩,
 ⟨.pointer 5, 1, 8, [.pointer none]⟩,
 ⟨.int .i32, 1, 4, [.int .i32 0]⟩,
 ⟨.int .i32, 1, 4, [.int .i32 0]⟩],
 [⟨.struct [(0, 1, 12), (1, 1, 12), (2, 1, 121), (3, 1, 122), (4, 1, 5), (5, 1, 5), (6, 1, 123), (7, 1, 124), (8, 1, 125), (9, 1, 126), (10, 1, 127)], 11, 48, [.int .u64 0, .int .u64 0, .int .u32 0, .int .u8 0, .int .u8 0, .int .u8 0, .int .u8 0, .nilFunc, .pointer none, .int .i32 0, .int .i32 0]⟩,
 ⟨.struct [(0, 1, 12), (1, 1, 12), (2, 1, 121), (3, 1, 122), (4, 1, 5), (5, 1, 5), (6, 1, 123), (7, 1, 124), (8, 1, 125), (9, 1, 126), (10, 1, 127)], 11, 48, [.int .u64 0, .int .u64 0, .int .u32 0, .int .u8 0, .int .u8 0, .int .u8 0, .int .u8 0, .nilFunc, .pointer none, .int .i32 0, .int .i32 0]⟩,
 ⟨.other, 0, 0, []⟩,
 ⟨.other, 0, 0, []⟩,
 ⟨.other, 0, 0, []⟩,
 ⟨.other, 0, 0, []⟩,
 ⟨.other, 0, 0, []⟩,
 ⟨.other, 0, 0, []⟩,
 ⟨.other, 0, 0, []⟩,
 ⟨.other, 0, 0, []⟩,
 ⟨.other, 0, 0, []⟩,
 ⟨.other, 0, 0, []⟩,
 ⟨.other, 0, 0, []⟩,
 ⟨.other, 0, 0, []⟩,
 ⟨.other, 0, 0, []⟩,
 ⟨.other, 0, 0, []⟩]]
theorem tabOk : TabOk Tryz.prog tab := tabOk_of (by kernel_rfl)
theorem row3 : tab.row 3 = ⟨.int .i64, 1, 8, [.int .i64 0]⟩ := Eq.trans rfl rfl
theorem row4 : tab.row 4 = ⟨.bool, 1, 1, [.bool false]⟩ := Eq.trans rfl rfl
theorem row5 : tab.row 5 = ⟨.int .u8, 1, 1, [.int .u8 0]⟩ := Eq.trans rfl rfl
theorem row9 : tab.row 9 = ⟨.string, 1, 16, [.string ⟨#[]⟩]⟩ := Eq.trans rfl rfl
theorem row22 : tab.row 22 = ⟨.slice 5, 1, 24, [.slice none 0 0]⟩ := Eq.trans rfl rfl
theorem row23 : tab.row 23 = ⟨.slice 9, 1, 24, [.slice none 0 0]⟩ := Eq.trans rfl rfl
theorem row24 : tab.row 24 = ⟨.slice 3, 1, 24, [.slice none 0 0]⟩ := Eq.trans rfl rfl
theorem row26 : tab.row 26 = ⟨.struct [(0, 1, 23), (1, 1, 3), (2, 1, 3), (3, 1, 3), (4, 1, 24), (5, 1, 22)], 6, 96, [.slice none 0 0, .int .i64 0, .int .i64 0, .int .i64 0, .slice none 0 0, .slice none 0 0]⟩ := Eq.trans rfl rfl
theorem row35 : tab.row 35 = ⟨.slice 40, 1, 24, [.slice none 0 0]⟩ := Eq.trans rfl rfl
theorem row40 : tab.row 40 = ⟨.struct [(0, 1, 3), (1, 1, 22), (2, 1, 3)], 3, 40, [.int .i64 0, .slice none 0 0, .int .i64 0]⟩ := Eq.trans rfl rfl
theorem row47 : tab.row 47 = ⟨.slice 49, 1, 24, [.slice none 0 0]⟩ := Eq.trans rfl rfl
theorem row49 : tab.row 49 = ⟨.struct [(0, 1, 3), (1, 1, 22), (2, 1, 47)], 3, 56, [.int .i64 0, .slice none 0 0, .slice none 0 0]⟩ := Eq.trans rfl rfl
theorem row62 : tab.row 62 = ⟨.struct [(0, 1, 22), (1, 1, 35), (2, 1, 3), (3, 1, 3)], 4, 64, [.slice none 0 0, .slice none 0 0, .int .i64 0, .int .i64 0]⟩ := Eq.trans rfl rfl
theorem row76 : tab.row 76 = ⟨.struct [(0, 1, 22), (1, 1, 35), (2, 1, 3), (3, 1, 3)], 4, 64, [.slice none 0 0, .slice none 0 0, .int .i64 0, .int .i64 0]⟩ := Eq.trans rfl rfl
theorem row99 : tab.row 99 = ⟨.int .i8, 1, 1, [.int .i8 0]⟩ := Eq.trans rfl rfl
attribute [go_sem] row3 row4 row5 row9 row22 row23 row24 row26 row35 row40 row47 row49 row62 row76 row99
end Go.Proofs.W

namespace Go.Proofs.W
open Go Go.AM
set_option maxRecDepth 10000
variable (hm : Tryz.prog.follows .mixedOrders = true)
def inB (n a b : Int) : Bool := decide (a ≤ n) && decide (n ≤ b)
include hm in
theorem l1In (n a b : Int) : Holds Tryz.prog 60 [.v (.int .i64 n), .v (.int .i64 a), .v (.int .i64 b)] [] (.v (.bool (inB n a b))) [] := by
 refine holds_of (ann := []) tabOk hm Tryz.func60 (by kernel_rfl) rfl ?_
 simp +decide only [Tryz.f60, go_sem]
 refine Runs.split (fun h => ?_) (fun h => ?_)
 ·simp only [decide_eq_true_eq] at h
  have e : inB n a b = decide (n ≤ b) := by simp [inB]; omega
  simp +decide only [e, go_sem]
  exact Runs.ret_v
 ·simp only [decide_eq_false_iff_not] at h
  have e : inB n a b = false := by simp [inB]; omega
  simp +decide only [e, go_sem]
  exact Runs.ret_v
include hm in
theorem within (n a b : Int) : Holds Tryz.prog 74 [.v (.int .i64 n), .v (.int .i64 a), .v (.int .i64 b)] [] (.v (.bool (inB n a b))) [] := by
 refine holds_of (ann := []) tabOk hm Tryz.func74 (by kernel_rfl) rfl ?_
 simp +decide only [Tryz.f74, go_sem]
 refine Runs.split (fun h => ?_) (fun h => ?_)
 ·simp only [decide_eq_true_eq] at h
  have e : inB n a b = decide (n ≤ b) := by simp [inB]; omega
  simp +decide only [e, go_sem]
  exact Runs.ret_v
 ·simp only [decide_eq_false_iff_not] at h
  have e : inB n a b = false := by simp [inB]; omega
  simp +decide only [e, go_sem]
  exact Runs.ret_v
include hm in
theorem l9Ok (n : Int) : Holds Tryz.prog 65 [.v (.int .i64 n)] [] (.v (.bool (inB n (-631152000) 4102444799))) [] := by
 refine holds_of (ann := []) tabOk hm Tryz.func65 (by kernel_rfl) rfl ?_
 simp +decide only [Tryz.f65, go_sem]
 refine Runs.call (l1In hm n (-631152000) 4102444799) ?_
 simp +decide only [go_sem]
 exact Runs.ret_v
include hm in
theorem isTime (n : Int) : Holds Tryz.prog 79 [.v (.int .i64 n)] [] (.v (.bool (inB n (-631152000) 4102444799))) [] := by
 refine holds_of (ann := []) tabOk hm Tryz.func79 (by kernel_rfl) rfl ?_
 simp +decide only [Tryz.f79, go_sem]
 refine Runs.call (within hm n (-631152000) 4102444799) ?_
 simp +decide only [go_sem]
 exact Runs.ret_v
def ann26 : Ann := [(0, [1, 2, 9, 10, 11])]
def st26 (L : List Int) (lo hi : Int) (i : Nat) : St := ⟨[.any, .v (.int .i64 lo), .v (.int .i64 hi), .any, .any, .any, .any, .any, .any, .sl .sh (L.map intA), .v (.int .i64 L.length), .v (.int .i64 i), .any, .any, .any, .any, .any, .any, .any, .any, .any], [], []⟩
include hm in
theorem allWithin (L : List Int) (lo hi : Int) (h3 : L.length ≤ 9223372036854775807) :
  Holds Tryz.prog 95 [.sl .sh (L.map intA), .v (.int .i64 lo), .v (.int .i64 hi)] [] (.v (.bool (L.all fun n => inB n lo hi))) [] := by
 refine holds_of (ann := ann26) tabOk hm Tryz.func95 (by kernel_rfl) rfl ?_
 simp +decide only [Tryz.f95, go_sem]
 refine Runs.while (α := Nat) (st26 L lo hi) (fun i => L.length - i) (fun i => i ≤ L.length ∧ ((L.drop i).all fun n => inB n lo hi) = L.all fun n => inB n lo hi) 0 ⟨by omega, by simp⟩ ?_ ?_
 ·simp [go_sem, ann26, st26]
 ·rintro i ⟨hi1, hr⟩ ih
  simp +decide only [st26, go_sem]
  refine Runs.split (fun h => ?_) (fun h => ?_)
  ·have hlt : i < L.length := by simpa using h
   rw [List.drop_eq_getElem_cons hlt, List.all_cons] at hr
   simp +decide (disch := first | omega | (simp only [ll]; omega)) only [if_pos, go_sem]
   refine Runs.call (within hm L[i] lo hi) ?_
   simp +decide only [go_sem]
   refine Runs.split (fun h => ?_) (fun h => ?_)
   ·simp only [Bool.not_eq_true'] at h
    rw [h] at hr
    simp +decide only [← hr, go_sem]
    exact Runs.ret_v
   ·simp only [Bool.not_eq_false'] at h
    rw [h, Bool.true_and] at hr
    simp +decide (disch := first | omega | (simp only [ll]; omega)) only [if_pos, go_sem]
    refine ih (i + 1) _ (by omega) ⟨hlt, hr⟩ ?_
    simp [go_sem, ann26, st26]
  ·have hge : i = L.length := by simp at h; omega
   subst hge
   rw [List.drop_length, List.all_nil] at hr
   simp +decide only [← hr, go_sem]
   exact Runs.ret_v
end Go.Proofs.W

namespace Go.Proofs.W
open Go Go.AM
set_option maxRecDepth 10000
variable (hm : Tryz.prog.follows .mixedOrders = true)
def ib (n : Int) : Int := IntKind.u8.wrap n
def smallK (n : Int) (k : Nat) : Bool := decide (-128 ≤ n / 256 ^ k) && decide (n / 256 ^ k ≤ 127)
def firstK (n : Int) : Nat → Nat → Nat
 | 0, k => k
 | f + 1, k => if smallK n k = true then k else firstK n f (k + 1)
def kB (n : Int) : Nat := firstK n 7 0
def tailB (n : Int) (k : Nat) : List Int := (List.range (k + 1)).reverse.map fun i => ib (n / 256 ^ i)
def intB (n : Int) : List Int := tailB n (kB n)
theorem tailB_succ (n : Int) (k : Nat) : tailB n (k + 1) = ib (n / 256 ^ (k + 1)) :: tailB n k := by
 simp [tailB, List.range_succ]
theorem tailB_length (n : Int) (k : Nat) : (tailB n k).length = k + 1 := by simp [tailB]
theorem firstK_le (n : Int) : ∀ f k, firstK n f k ≤ k + f
 | 0, k => by simp [firstK]
 | f + 1, k => by
  simp only [firstK]
  split
  ·omega
  ·have := firstK_le n f (k + 1); omega
theorem kB_le (n : Int) : kB n ≤ 7 := by have := firstK_le n 7 0; unfold kB; omega
theorem small7 {n : Int} (h1 : -9223372036854775808 ≤ n) (h2 : n < 9223372036854775808) : smallK n 7 = true := by
 have : (256 : Int) ^ 7 = 72057594037927936 := rfl
 simp only [smallK, this, Bool.and_eq_true, decide_eq_true_eq]
 omega
theorem div256 (n : Int) (k : Nat) : n / 256 ^ k / 256 = n / 256 ^ (k + 1) := by
 rw [Int.pow_succ, Int.ediv_ediv_of_nonneg (Int.pow_nonneg (by omega))]
theorem shr8 (n : Int) : n.fdiv (2 ^ min (Int.toNat 8) 64) = n / 256 := by
 show n.fdiv 256 = n / 256
 exact Int.fdiv_eq_ediv_of_nonneg _ (by omega)
theorem divK_bound {n : Int} (h1 : -9223372036854775808 ≤ n) (h2 : n < 9223372036854775808) (k : Nat) : -9223372036854775808 ≤ n / 256 ^ k ∧ n / 256 ^ k < 9223372036854775808 := by
 have hp : (0 : Int) < 256 ^ k := Int.pow_pos (by omega)
 refine ⟨?_, ?_⟩
 ·rw [Int.le_ediv_iff_mul_le hp]
  have : (1 : Int) ≤ 256 ^ k := hp
  calc -9223372036854775808 * 256 ^ k ≤ -9223372036854775808 * 1 := Int.mul_le_mul_of_nonpos_left (by omega) this
   _ ≤ n := by omega
 ·rw [Int.ediv_lt_iff_lt_mul hp]
  have : (1 : Int) ≤ 256 ^ k := hp
  calc n < 9223372036854775808 * 1 := by omega
   _ ≤ 9223372036854775808 * 256 ^ k := Int.mul_le_mul_of_nonneg_left this (by omega)
include hm in
theorem l1Bytes (L : List Int) (h : L.length ≤ 1073741824) : Holds Tryz.prog 16 [.sl .sh (L.map u8A)] [] (.sl (.ow 1) (L.map u8A)) [] := by
 refine holds_of (ann := []) tabOk hm Tryz.func16 (by kernel_rfl) rfl ?_
 simp +decide (disch := first | omega | (simp only [ll]; omega)) only [Tryz.f16, if_pos, go_sem]
 exact Runs.ret_refl
def l7Len (n : Nat) : List Int := if n < 128 then [ib n] else if n < 256 then [129, ib n] else [130, ib (n / 256 : Nat), ib n]
theorem l7Len_length (n : Nat) : (l7Len n).length ≤ 3 := by
 unfold l7Len
 split
 ·simp
 ·split <;> simp
theorem shr8n (n : Nat) : ((n : Int)).fdiv (2 ^ min (Int.toNat 8) 64) = ((n / 256 : Nat) : Int) := by rw [shr8]; omega
include hm in
theorem l7Length (n : Nat) (h : n ≤ 1073741824) : Holds Tryz.prog 89 [.v (.int .i64 n)] [] (.sl (.ow 1) ((l7Len n).map u8A)) [] := by
 refine holds_of (ann := []) tabOk hm Tryz.func89 (by kernel_rfl) rfl ?_
 simp +decide only [Tryz.f89, go_sem]
 refine Runs.split (fun h1 => ?_) (fun h1 => ?_)
 ·simp only [decide_eq_true_eq] at h1
  simp +decide only [l7Len, if_pos (show n < 128 by omega), ib, go_sem]
  exact Runs.ret_refl
 ·simp only [decide_eq_false_iff_not] at h1
  simp +decide only [go_sem]
  refine Runs.split (fun h2 => ?_) (fun h2 => ?_)
  ·simp only [decide_eq_true_eq] at h2
   simp +decide only [l7Len, if_neg (show ¬ n < 128 by omega), if_pos (show n < 256 by omega), ib, go_sem]
   exact Runs.ret_refl
  ·simp only [decide_eq_false_iff_not] at h2
   simp +decide only [l7Len, if_neg (show ¬ n < 128 by omega), if_neg (show ¬ n < 256 by omega), ib, shr8n, go_sem]
   exact Runs.ret_refl
theorem firstK_step {n : Int} {k : Nat} (h : k < 7) : firstK n (7 - k) k = if smallK n k = true then k else firstK n (7 - (k + 1)) (k + 1) := by
 rw [show 7 - k = (7 - (k + 1)) + 1 by omega]
 rfl
theorem u8l (l : List Int) : (l.map u8A).length = l.length := List.length_map _
theorem smallK_iff {n : Int} {k : Nat} : smallK n k = true ↔ -128 ≤ n / 256 ^ k ∧ n / 256 ^ k ≤ 127 := by simp [smallK]
def sIbAnn : Ann := [(0, [0, 3])]
def sIbSt (n : Int) (k : Nat) : St := ⟨[.v (.int .i64 (n / 256 ^ k)), .any, .any, .ms (.l 0) 0 (k + 1) (k + 1), .any, .any, .any, .any, .any, .any, .any, .any, .any, .any, .any, .any, .any, .any, .any, .any, .any], [(0, ⟨true, 1, false, (tailB n k).map u8A⟩)], []⟩
include hm in
theorem sIntBytes (n : Int) (h1 : -9223372036854775808 ≤ n) (h2 : n < 9223372036854775808) : Holds Tryz.prog 61 [.v (.int .i64 n)] [] (.sl (.ow 1) ((intB n).map u8A)) [] := by
 refine holds_of (ann := sIbAnn) tabOk hm Tryz.func61 (by kernel_rfl) rfl ?_
 simp +decide only [Tryz.f61, go_sem]
 refine Runs.while (α := Nat) (sIbSt n) (fun k => 8 - k) (fun k => k ≤ 7 ∧ firstK n (7 - k) k = kB n) 0 ⟨by omega, rfl⟩ ?_ ?_
 ·simp [go_sem, sIbAnn, sIbSt, tailB, ib]
 ·rintro k ⟨hk, hr⟩ ih
  have hlen := tailB_length n k
  have htk : ((tailB n k).map u8A).take (k + 1) = (tailB n k).map u8A := List.take_of_length_le (by simp [hlen])
  have hb := divK_bound h1 h2 k
  have stop : smallK n k = true → kB n = k := fun hs => by
   rw [← hr]
   rcases Nat.lt_or_ge k 7 with h | h
   ·rw [firstK_step h, if_pos hs]
   ·rw [show 7 - k = 0 by omega]; rfl
  have go : smallK n k = false → k < 7 ∧ firstK n (7 - (k + 1)) (k + 1) = kB n := fun hs => by
   have hk7 : k < 7 := by
    rcases Nat.lt_or_ge k 7 with h | h
    ·exact h
    ·have : k = 7 := by omega
     subst this
     rw [small7 h1 h2] at hs; cases hs
   refine ⟨hk7, ?_⟩
   rw [← hr, firstK_step hk7, hs]
   rfl
  simp +decide only [sIbSt, hlen, go_sem]
  refine Runs.split (fun h => ?_) (fun h => ?_)
  ·simp only [decide_eq_true_eq] at h
   obtain ⟨g1, g2⟩ := go (by rw [Bool.eq_false_iff]; intro hs; rw [smallK_iff] at hs; omega)
   simp +decide (disch := first | omega | (simp only [ll]; omega)) only [shr8, div256, hlen, htk, if_pos, go_sem]
   refine ih (k + 1) _ (by omega) ⟨by omega, g2⟩ ?_
   simp [go_sem, sIbAnn, sIbSt, tailB_succ, hlen, ib, Nat.add_comm]
  ·simp only [decide_eq_false_iff_not] at h
   simp +decide only [go_sem]
   refine Runs.split (fun h' => ?_) (fun h' => ?_)
   ·simp only [decide_eq_true_eq] at h'
    obtain ⟨g1, g2⟩ := go (by rw [Bool.eq_false_iff]; intro hs; rw [smallK_iff] at hs; omega)
    simp +decide (disch := first | omega | (simp only [ll]; omega)) only [shr8, div256, hlen, htk, if_pos, go_sem]
    refine ih (k + 1) _ (by omega) ⟨by omega, g2⟩ ?_
    simp [go_sem, sIbAnn, sIbSt, tailB_succ, hlen, ib, Nat.add_comm]
   ·simp only [decide_eq_false_iff_not] at h'
    have e := stop (by rw [smallK_iff]; omega)
    simp +decide only [hlen, u8l, List.take_length, go_sem]
    refine Runs.ret_eq ?_
    rw [intB, e]
def iIbAnn : Ann := [(0, [0, 3]), (2, [0, 4, 5])]
def iIbSt (n : Int) (k : Nat) : St := ⟨[.v (.int .i64 n), .any, .any, .v (.int .i64 ((k + 1 : Nat) : Int)), .any, .any, .any, .any, .any, .any, .any, .any, .any, .any, .any, .any, .any, .any, .any, .any, .any, .any, .any, .any, .any, .any, .any, .any, .any, .any, .any, .any, .any, .any, .any, .any, .any, .any, .any, .any, .any, .any], [], []⟩
def iIbL (n : Int) (m j : Nat) : List Int := ((List.range m).reverse.take j).map fun i => ib (n / 256 ^ i)
def iIbSt2 (n : Int) (m j : Nat) : St := ⟨[.v (.int .i64 n), .any, .any, .any, .ms (.l 0) 0 j j, .v (.int .i64 ((m : Int) - j - 1)), .any, .any, .any, .any, .any, .any, .any, .any, .any, .any, .any, .any, .any, .any, .any, .any, .any, .any, .any, .any, .any, .any, .any, .any, .any, .any, .any, .any, .any, .any, .any, .any, .any, .any, .any, .any], [(0, ⟨true, 1, false, (iIbL n m j).map u8A⟩)], []⟩
theorem iIbL_length (n : Int) {m j : Nat} (h : j ≤ m) : (iIbL n m j).length = j := by simp [iIbL]; omega
theorem iIbL_succ (n : Int) {m j : Nat} (h : j < m) : iIbL n m (j + 1) = iIbL n m j ++ [ib (n / 256 ^ (m - j - 1))] := by
 unfold iIbL
 rw [List.take_succ_eq_append_getElem (by simpa using h), List.map_append]
 simp [List.getElem_reverse, show m - 1 - j = m - j - 1 by omega]
theorem iIbL_all (n : Int) (k : Nat) : iIbL n (k + 1) (k + 1) = tailB n k := by
 unfold iIbL tailB
 rw [List.take_of_length_le (by simp)]
theorem shrK (n : Int) (k : Nat) (h : 8 * k ≤ 64) : n.fdiv (2 ^ min (8 * k) 64) = n / 256 ^ k := by
 have e : ∀ k : Nat, (2 : Int) ^ (8 * k) = 256 ^ k := by
  intro k
  induction k with
  | zero => rfl
  | succ k ih =>
   rw [show 8 * (k + 1) = 8 * k + 1 + 1 + 1 + 1 + 1 + 1 + 1 + 1 by omega]
   simp only [Int.pow_succ]
   rw [ih]
   simp only [Int.mul_assoc]
   rfl
 rw [Nat.min_eq_left h, e, Int.fdiv_eq_ediv_of_nonneg _ (Int.le_of_lt (Int.pow_pos (by omega)))]
theorem pow28 (k : Nat) : (2 : Int) ^ (8 * k) = 256 ^ k := by
 induction k with
 | zero => rfl
 | succ k ih =>
  rw [show 8 * (k + 1) = 8 * k + 1 + 1 + 1 + 1 + 1 + 1 + 1 + 1 by omega]
  simp only [Int.pow_succ]
  rw [ih]
  simp only [Int.mul_assoc]
  rfl
theorem shr7 (n : Int) (k : Nat) (h : k ≤ 7) : n.fdiv (2 ^ min (8 * (k + 1) - 1) 64) = n / 256 ^ k / 128 := by
 rw [Nat.min_eq_left (by omega), show 8 * (k + 1) - 1 = 8 * k + 1 + 1 + 1 + 1 + 1 + 1 + 1 by omega]
 rw [Int.fdiv_eq_ediv_of_nonneg _ (Int.le_of_lt (Int.pow_pos (by omega)))]
 rw [Int.ediv_ediv_of_nonneg (Int.pow_nonneg (by omega))]
 congr 1
 simp only [Int.pow_succ]
 rw [pow28]
 simp only [Int.mul_assoc]
 rfl
include hm in
theorem iIntBytes (n : Int) (h1 : -9223372036854775808 ≤ n) (h2 : n < 9223372036854775808) : Holds Tryz.prog 75 [.v (.int .i64 n)] [] (.sl (.ow 1) ((intB n).map u8A)) [] := by
 refine holds_of (ann := iIbAnn) tabOk hm Tryz.func75 (by kernel_rfl) rfl ?_
 simp +decide only [Tryz.f75, go_sem]
 refine Runs.while (α := Nat) (iIbSt n) (fun k => 8 - k) (fun k => k ≤ 7 ∧ firstK n (7 - k) k = kB n) 0 ⟨by omega, rfl⟩ ?_ ?_
 ·simp [go_sem, iIbAnn, iIbSt]
 ·rintro k ⟨hk, hr⟩ ih
  have hb := divK_bound h1 h2 k
  have stop : smallK n k = true → kB n = k := fun hs => by
   rw [← hr]
   rcases Nat.lt_or_ge k 7 with h | h
   ·rw [firstK_step h, if_pos hs]
   ·rw [show 7 - k = 0 by omega]; rfl
  have go : k < 7 → smallK n k = false → firstK n (7 - (k + 1)) (k + 1) = kB n := fun hk7 hs => by
   rw [← hr, firstK_step hk7, hs]
   rfl
  have w1 : IntKind.i64.wrap (8 * ((k + 1 : Nat) : Int)) = ((8 * (k + 1) : Nat) : Int) := by rw [wrap_i64 (by omega) (by omega)]; omega
  have w2 : IntKind.i64.wrap (((8 * (k + 1) : Nat) : Int) - 1) = ((8 * (k + 1) - 1 : Nat) : Int) := by rw [wrap_i64 (by omega) (by omega)]; omega
  simp +decide only [iIbSt, go_sem]
  have hN := shr7 n k hk
  refine Runs.split (fun h => ?_) (fun h => ?_)
  ·simp only [decide_eq_true_eq] at h
   have hk7 : k < 7 := by omega
   simp +decide only [w1, w2, go_sem]
   refine Runs.chk (by simp <;> omega) ?_
   simp +decide only [hN, go_sem]
   refine Runs.split (fun h0 => ?_) (fun h0 => ?_)
   ·simp only [Bool.not_eq_true', decide_eq_false_iff_not] at h0
    simp +decide only [w1, w2, go_sem]
    refine Runs.chk (by simp <;> omega) ?_
    simp +decide only [hN, go_sem]
    refine Runs.split (fun h1' => ?_) (fun h1' => ?_)
    ·simp only [Bool.not_eq_true', decide_eq_false_iff_not] at h1'
     have g2 := go hk7 (by rw [Bool.eq_false_iff]; intro hs; rw [smallK_iff] at hs; omega)
     simp +decide (disch := first | omega | (simp only [ll]; omega)) only [if_pos, go_sem]
     refine ih (k + 1) _ (by omega) ⟨by omega, g2⟩ ?_
     simp [go_sem, iIbAnn, iIbSt]
    ·simp only [Bool.not_eq_false', decide_eq_true_eq] at h1'
     have ek := stop (by rw [smallK_iff]; omega)
     simp +decide (disch := first | omega | (simp only [ll]; omega)) only [if_pos, go_sem]
     refine Runs.while (α := Nat) (iIbSt2 n (k + 1)) (fun j => k + 1 - j) (fun j => j ≤ k + 1) 0 (by omega) ?_ ?_
     ·simp [go_sem, iIbAnn, iIbSt2, iIbL]
     ·intro j hj ihj
      have hlen := iIbL_length n hj
      simp +decide only [iIbSt2, hlen, go_sem]
      refine Runs.split (fun h2 => ?_) (fun h2 => ?_)
      ·simp only [decide_eq_true_eq] at h2
       have hjk : j < k + 1 := by omega
       have hw : IntKind.i64.wrap (8 * (((k + 1 : Nat) : Int) - j - 1)) = ((8 * (k + 1 - j - 1) : Nat) : Int) := by rw [wrap_i64 (by omega) (by omega)]; omega
       simp +decide only [hw, hlen, go_sem]
       refine Runs.chk (by simp <;> omega) ?_
       simp +decide (disch := first | omega | (simp only [ll]; omega)) only [shrK n (k + 1 - j - 1) (by omega), hlen, if_pos, go_sem]
       refine ihj (j + 1) _ (by omega) (by omega) ?_
       simp [go_sem, iIbAnn, iIbSt2, iIbL_succ n hjk, hlen, ib]
       omega
      ·simp only [decide_eq_false_iff_not] at h2
       have hjk : j = k + 1 := by omega
       subst hjk
       simp +decide only [iIbL_all, tailB_length, go_sem]
       refine Runs.ret_eq ?_
       rw [intB, ek]
   ·simp only [Bool.not_eq_false', decide_eq_true_eq] at h0
    have ek := stop (by rw [smallK_iff]; omega)
    simp +decide (disch := first | omega | (simp only [ll]; omega)) only [if_pos, go_sem]
    refine Runs.while (α := Nat) (iIbSt2 n (k + 1)) (fun j => k + 1 - j) (fun j => j ≤ k + 1) 0 (by omega) ?_ ?_
    ·simp [go_sem, iIbAnn, iIbSt2, iIbL]
    ·intro j hj ihj
     have hlen := iIbL_length n hj
     simp +decide only [iIbSt2, hlen, go_sem]
     refine Runs.split (fun h2 => ?_) (fun h2 => ?_)
     ·simp only [decide_eq_true_eq] at h2
      have hjk : j < k + 1 := by omega
      have hw : IntKind.i64.wrap (8 * (((k + 1 : Nat) : Int) - j - 1)) = ((8 * (k + 1 - j - 1) : Nat) : Int) := by rw [wrap_i64 (by omega) (by omega)]; omega
      simp +decide only [hw, hlen, go_sem]
      refine Runs.chk (by simp <;> omega) ?_
      simp +decide (disch := first | omega | (simp only [ll]; omega)) only [shrK n (k + 1 - j - 1) (by omega), hlen, if_pos, go_sem]
      refine ihj (j + 1) _ (by omega) (by omega) ?_
      simp [go_sem, iIbAnn, iIbSt2, iIbL_succ n hjk, hlen, ib]
      omega
     ·simp only [decide_eq_false_iff_not] at h2
      have hjk : j = k + 1 := by omega
      subst hjk
      simp +decide only [iIbL_all, tailB_length, go_sem]
      refine Runs.ret_eq ?_
      rw [intB, ek]
  ·simp only [decide_eq_false_iff_not] at h
   have hk7 : k = 7 := by omega
   have s7 : smallK n k = true := by rw [hk7]; exact small7 h1 h2
   rw [smallK_iff] at s7
   have ek := stop (by rw [smallK_iff]; omega)
   simp +decide (disch := first | omega | (simp only [ll]; omega)) only [if_pos, go_sem]
   refine Runs.while (α := Nat) (iIbSt2 n (k + 1)) (fun j => k + 1 - j) (fun j => j ≤ k + 1) 0 (by omega) ?_ ?_
   ·simp [go_sem, iIbAnn, iIbSt2, iIbL]
   ·intro j hj ihj
    have hlen := iIbL_length n hj
    simp +decide only [iIbSt2, hlen, go_sem]
    refine Runs.split (fun h2 => ?_) (fun h2 => ?_)
    ·simp only [decide_eq_true_eq] at h2
     have hjk : j < k + 1 := by omega
     have hw : IntKind.i64.wrap (8 * (((k + 1 : Nat) : Int) - j - 1)) = ((8 * (k + 1 - j - 1) : Nat) : Int) := by rw [wrap_i64 (by omega) (by omega)]; omega
     simp +decide only [hw, hlen, go_sem]
     refine Runs.chk (by simp <;> omega) ?_
     simp +decide (disch := first | omega | (simp only [ll]; omega)) only [shrK n (k + 1 - j - 1) (by omega), hlen, if_pos, go_sem]
     refine ihj (j + 1) _ (by omega) (by omega) ?_
     simp [go_sem, iIbAnn, iIbSt2, iIbL_succ n hjk, hlen, ib]
     omega
    ·simp only [decide_eq_false_iff_not] at h2
     have hjk : j = k + 1 := by omega
     subst hjk
     simp +decide only [iIbL_all, tailB_length, go_sem]
     refine Runs.ret_eq ?_
     rw [intB, ek]
end Go.Proofs.W

namespace Go.Proofs.W
open Go Go.AM
set_option maxRecDepth 10000
variable (hm : Tryz.prog.follows .mixedOrders = true)
def feb (y : Nat) : Nat := if y % 4 = 0 then 29 else 28
def yl (y : Nat) : Nat := 337 + feb y
def ml (y : Nat) : Nat → Nat
 | 2 => feb y | 4 => 30 | 6 => 30 | 9 => 30 | 11 => 30 | _ => 31
def remM (y : Nat) : Nat → Nat
 | 1 => 337 + feb y | 2 => 306 + feb y | 3 => 306 | 4 => 275 | 5 => 245 | 6 => 214 | 7 => 184 | 8 => 153 | 9 => 122 | 10 => 92 | 11 => 61 | 12 => 31 | _ => 0
theorem feb_pos (y : Nat) : 28 ≤ feb y ∧ feb y ≤ 29 := by unfold feb; split <;> omega
theorem cases12 {m : Nat} (h1 : 1 ≤ m) (h2 : m ≤ 12) : m = 1 ∨ m = 2 ∨ m = 3 ∨ m = 4 ∨ m = 5 ∨ m = 6 ∨ m = 7 ∨ m = 8 ∨ m = 9 ∨ m = 10 ∨ m = 11 ∨ m = 12 := by omega
theorem remM_step (y : Nat) {m : Nat} (h1 : 1 ≤ m) (h2 : m ≤ 12) : remM y m = ml y m + remM y (m + 1) := by
 rcases cases12 h1 h2 with rfl | rfl | rfl | rfl | rfl | rfl | rfl | rfl | rfl | rfl | rfl | rfl <;> simp only [remM, ml] <;> omega
theorem ml_bound (y m : Nat) : 28 ≤ ml y m ∧ ml y m ≤ 31 := by
 have := feb_pos y
 unfold ml
 split <;> omega
def yearGo : Nat → Nat → Nat → Nat × Nat
 | 0, y, d => (y, d)
 | f + 1, y, d => if yl y ≤ d then yearGo f (y + 1) (d - yl y) else (y, d)
def monthGo : Nat → Nat → Nat → Nat → Nat × Nat
 | 0, _, m, d => (m, d)
 | f + 1, y, m, d => if ml y m ≤ d then monthGo f y (m + 1) (d - ml y m) else (m, d)
theorem yearGo_fuel : ∀ (f g y d : Nat), d < f → d < g → yearGo f y d = yearGo g y d
 | f + 1, g + 1, y, d, h1, h2 => by
  simp only [yearGo]
  split
  ·have := feb_pos y
   have h3 : 1 ≤ yl y := by unfold yl; omega
   exact yearGo_fuel f g _ _ (by omega) (by omega)
  ·rfl
structure DayR where
 y : Nat
 m : Nat
 d : Nat
 s : Nat
def dayP (t : Int) : DayR :=
 if inB t (-631152000) 4102444799 = true then
  let n := (t + 631152000).toNat
  let a := yearGo (n / 86400 + 1) 1950 (n / 86400)
  let b := monthGo 12 a.1 1 a.2
  ⟨a.1, b.1, b.2 + 1, n % 86400⟩
 else ⟨0, 0, 0, 0⟩
def dayA (r : DayR) : A := .tup [.v (.int .i64 r.y), .v (.int .i64 r.m), .v (.int .i64 r.d), .v (.int .i64 r.s)]
theorem yearGo_bound : ∀ (f y d : Nat), (yearGo f y d).1 ≤ y + d ∧ (yearGo f y d).2 ≤ d
 | 0, y, d => by simp [yearGo]
 | f + 1, y, d => by
  simp only [yearGo]
  split
  ·have := yearGo_bound f (y + 1) (d - yl y)
   have h3 : 1 ≤ yl y := by unfold yl; omega
   omega
  ·simp
theorem monthGo_bound : ∀ (f y m d : Nat), (monthGo f y m d).1 ≤ m + f ∧ (monthGo f y m d).2 ≤ d
 | 0, y, m, d => by simp [monthGo]
 | f + 1, y, m, d => by
  simp only [monthGo]
  split
  ·have := monthGo_bound f y (m + 1) (d - ml y m)
   omega
  ·simp
theorem inB_iff {n a b : Int} : inB n a b = true ↔ a ≤ n ∧ n ≤ b := by simp [inB]
theorem dayP_bound (t : Int) : (dayP t).y ≤ 100000 ∧ (dayP t).m ≤ 100 ∧ (dayP t).d ≤ 100000 ∧ (dayP t).s ≤ 100000 := by
 unfold dayP
 split
 ·rename_i h
  rw [inB_iff] at h
  simp only
  have h1 := yearGo_bound ((t + 631152000).toNat / 86400 + 1) 1950 ((t + 631152000).toNat / 86400)
  have h2 := monthGo_bound 12 (yearGo ((t + 631152000).toNat / 86400 + 1) 1950 ((t + 631152000).toNat / 86400)).1 1 (yearGo ((t + 631152000).toNat / 86400 + 1) 1950 ((t + 631152000).toNat / 86400)).2
  omega
 ·simp
include hm in
theorem l9Year (y : Nat) : Holds Tryz.prog 63 [.v (.int .i64 y)] [] (.v (.int .i64 (yl y))) [] := by
 refine holds_of (ann := []) tabOk hm Tryz.func63 (by kernel_rfl) rfl ?_
 have ht : (y : Int).tmod 4 = ((y % 4 : Nat) : Int) := by rw [Int.tmod_eq_emod_of_nonneg (by omega)]; omega
 simp +decide only [Tryz.f63, ht, go_sem]
 refine Runs.split (fun h => ?_) (fun h => ?_)
 ·simp only [decide_eq_true_eq] at h
  simp +decide only [yl, feb, if_pos (show y % 4 = 0 by omega), go_sem]
  exact Runs.ret_v
 ·simp only [decide_eq_false_iff_not] at h
  simp +decide only [yl, feb, if_neg (show ¬ y % 4 = 0 by omega), go_sem]
  exact Runs.ret_v
include hm in
theorem l9Days (y m : Nat) (h1 : 1 ≤ m) (h2 : m ≤ 12) : Holds Tryz.prog 62 [.v (.int .i64 y), .v (.int .i64 m)] [] (.v (.int .i64 (ml y m))) [] := by
 refine holds_of (ann := []) tabOk hm Tryz.func62 (by kernel_rfl) rfl ?_
 have ht : (y : Int).tmod 4 = ((y % 4 : Nat) : Int) := by rw [Int.tmod_eq_emod_of_nonneg (by omega)]; omega
 rcases cases12 h1 h2 with rfl | rfl | rfl | rfl | rfl | rfl | rfl | rfl | rfl | rfl | rfl | rfl
 case inr.inl =>
  simp +decide (disch := first | omega | (simp only [ll]; omega)) only [Tryz.f62, ht, Int.cast_ofNat_Int, Int.reduceToNat, if_pos, go_sem]
  refine Runs.split (fun h => ?_) (fun h => ?_)
  ·simp only [decide_eq_true_eq] at h
   simp +decide (disch := first | omega | (simp only [ll]; omega)) only [ml, feb, if_pos (show y % 4 = 0 by omega), if_pos, go_sem]
   exact Runs.ret_v
  ·simp only [decide_eq_false_iff_not] at h
   simp +decide (disch := first | omega | (simp only [ll]; omega)) only [ml, feb, if_neg (show ¬ y % 4 = 0 by omega), if_pos, go_sem]
   exact Runs.ret_v
 all_goals
  simp +decide (disch := first | omega | (simp only [ll]; omega)) only [Tryz.f62, ht, Int.cast_ofNat_Int, Int.reduceToNat, ml, if_pos, go_sem]
  exact Runs.ret_v
include hm in
theorem daysIn (y m : Nat) (h1 : 1 ≤ m) (h2 : m ≤ 12) : Holds Tryz.prog 93 [.v (.int .i64 y), .v (.int .i64 m)] [] (.v (.int .i64 (ml y m))) [] := by
 refine holds_of (ann := []) tabOk hm Tryz.func93 (by kernel_rfl) rfl ?_
 have ht : (y : Int).tmod 4 = ((y % 4 : Nat) : Int) := by rw [Int.tmod_eq_emod_of_nonneg (by omega)]; omega
 rcases cases12 h1 h2 with rfl | rfl | rfl | rfl | rfl | rfl | rfl | rfl | rfl | rfl | rfl | rfl
 case inr.inl =>
  simp +decide only [Tryz.f93, ht, Int.cast_ofNat_Int, condK_t, condK_f, seqK_n, go_sem]
  refine Runs.split (fun h => ?_) (fun h => ?_)
  ·simp only [decide_eq_true_eq] at h
   simp +decide only [ml, feb, if_pos (show y % 4 = 0 by omega), go_sem]
   exact Runs.ret_v
  ·simp only [decide_eq_false_iff_not] at h
   simp +decide only [ml, feb, if_neg (show ¬ y % 4 = 0 by omega), go_sem]
   exact Runs.ret_v
 all_goals
  simp +decide only [Tryz.f93, ht, Int.cast_ofNat_Int, ml, go_sem]
  exact Runs.ret_v
include hm in
theorem daysOf (y : Nat) : Holds Tryz.prog 94 [.v (.int .i64 y)] [] (.v (.int .i64 (yl y))) [] := by
 refine holds_of (ann := []) tabOk hm Tryz.func94 (by kernel_rfl) rfl ?_
 have hb := feb_pos y
 simp +decide only [Tryz.f94, go_sem]
 refine Runs.call (daysIn hm y 2 (by omega) (by omega)) ?_
 simp +decide (disch := first | omega | (simp only [ll]; omega)) only [ml, if_pos, go_sem]
 refine Runs.ret_eq ?_
 simp [yl]
def specDayAnn : Ann := [(0, [6, 7, 8]), (2, [6, 7, 8, 9])]
def specDaySt (s : Nat) (p : Nat × Nat) : St := ⟨[.any, .any, .any, .any, .any, .any, .v (.int .i64 p.2), .v (.int .i64 s), .v (.int .i64 p.1), .any, .any, .any, .any, .any, .any, .any, .any, .any, .any, .any, .any, .any, .any, .any, .any, .any, .any, .any, .any, .any, .any, .any, .any, .any, .any, .any, .any, .any, .any, .any, .any, .any, .any, .any, .any, .any], [], []⟩
def specDaySt2 (s y : Nat) (p : Nat × Nat) : St := ⟨[.any, .any, .any, .any, .any, .any, .v (.int .i64 p.2), .v (.int .i64 s), .v (.int .i64 y), .v (.int .i64 p.1), .any, .any, .any, .any, .any, .any, .any, .any, .any, .any, .any, .any, .any, .any, .any, .any, .any, .any, .any, .any, .any, .any, .any, .any, .any, .any, .any, .any, .any, .any, .any, .any, .any, .any, .any, .any], [], []⟩
include hm in
theorem specDayOf (t : Int) : Holds Tryz.prog 102 [.v (.int .i64 t)] [] (dayA (dayP t)) [] := by
 refine holds_of (ann := specDayAnn) tabOk hm Tryz.func102 (by kernel_rfl) rfl ?_
 simp +decide only [Tryz.f102, go_sem]
 refine Runs.call (l9Ok hm t) ?_
 simp +decide only [go_sem]
 refine Runs.split (fun h => ?_) (fun h => ?_)
 ·simp only [Bool.not_eq_true'] at h
  have e : dayP t = ⟨0, 0, 0, 0⟩ := by simp [dayP, h]
  simp +decide only [e, dayA, go_sem]
  exact Runs.ret_refl
 ·simp only [Bool.not_eq_false'] at h
  obtain ⟨n, hn⟩ : ∃ n, n = (t + 631152000).toNat := ⟨_, rfl⟩
  have hb := inB_iff.1 h
  have e : dayP t = ⟨(yearGo (n / 86400 + 1) 1950 (n / 86400)).1, (monthGo 12 (yearGo (n / 86400 + 1) 1950 (n / 86400)).1 1 (yearGo (n / 86400 + 1) 1950 (n / 86400)).2).1,
    (monthGo 12 (yearGo (n / 86400 + 1) 1950 (n / 86400)).1 1 (yearGo (n / 86400 + 1) 1950 (n / 86400)).2).2 + 1, n % 86400⟩ := by
   unfold dayP
   rw [if_pos h, ← hn]
  have hw : IntKind.i64.wrap (t - -631152000) = (n : Int) := by rw [wrap_i64 (by omega) (by omega)]; omega
  have hq : (n : Int).tdiv 86400 = ((n / 86400 : Nat) : Int) := by rw [Int.tdiv_eq_ediv_of_nonneg (by omega)]; omega
  have hr : (n : Int).tmod 86400 = ((n % 86400 : Nat) : Int) := by rw [Int.tmod_eq_emod_of_nonneg (by omega)]; omega
  obtain ⟨D, hD⟩ : ∃ D, D = n / 86400 := ⟨_, rfl⟩
  obtain ⟨s, hs⟩ : ∃ s, s = n % 86400 := ⟨_, rfl⟩
  have hDl : D ≤ 60000 := by omega
  rw [← hD, ← hs] at e
  rw [← hD] at hq
  rw [← hs] at hr
  simp +decide only [hw, hq, hr, go_sem]
  rw [wrap_i64 (by omega) (by omega)]
  refine Runs.while (α := Nat × Nat) (specDaySt s) (fun p => p.2) (fun p => p.1 + p.2 ≤ 1950 + D ∧ yearGo (p.2 + 1) p.1 p.2 = yearGo (D + 1) 1950 D) (1950, D) ⟨by simp, rfl⟩ ?_ ?_
  ·simp [go_sem, specDayAnn, specDaySt]
  ·rintro ⟨y, d⟩ ⟨hy, hg⟩ ih
   simp only at hy hg
   have hf := feb_pos y
   have hyl : yl y = 337 + feb y := rfl
   simp +decide only [specDaySt, go_sem]
   refine Runs.call (l9Year hm y) ?_
   simp +decide only [go_sem]
   refine Runs.split (fun h' => ?_) (fun h' => ?_)
   ·simp only [decide_eq_true_eq] at h'
    simp +decide only [go_sem]
    refine Runs.call (l9Year hm y) ?_
    simp +decide (disch := first | omega | (simp only [ll]; omega)) only [if_pos, go_sem]
    refine ih (y + 1, d - yl y) _ (by simp only; omega) ⟨by simp only; omega, ?_⟩ ?_
    ·simp only
     rw [← hg]
     conv => rhs; unfold yearGo
     rw [if_pos (by omega)]
     exact yearGo_fuel _ _ _ _ (by omega) (by omega)
    ·simp [go_sem, specDayAnn, specDaySt]
     omega
   ·simp only [decide_eq_false_iff_not] at h'
    have hg2 : yearGo (D + 1) 1950 D = (y, d) := by
     rw [← hg]
     unfold yearGo
     rw [if_neg (by omega)]
    rw [hg2] at e
    simp only at e
    simp +decide only [go_sem]
    refine Runs.while (α := Nat × Nat) (specDaySt2 s y) (fun p => p.2) (fun p => 1 ≤ p.1 ∧ p.1 ≤ 12 ∧ p.2 < remM y p.1 ∧ monthGo (13 - p.1) y p.1 p.2 = monthGo 12 y 1 d) (1, d) ⟨by simp, by simp, by simp only [remM]; omega, rfl⟩ ?_ ?_
    ·simp [go_sem, specDayAnn, specDaySt2]
    ·rintro ⟨m, c⟩ ⟨hm1, hm2, hm3, hm4⟩ ihm
     simp only at hm1 hm2 hm3 hm4
     have hstep := remM_step y hm1 hm2
     have hml := ml_bound y m
     have hrl : c ≤ 400 := by
      have : remM y m ≤ 366 := by
       rcases cases12 hm1 hm2 with rfl | rfl | rfl | rfl | rfl | rfl | rfl | rfl | rfl | rfl | rfl | rfl <;> simp only [remM] <;> omega
      omega
     simp +decide only [specDaySt2, go_sem]
     refine Runs.call (l9Days hm y m hm1 hm2) ?_
     simp +decide only [go_sem]
     refine Runs.split (fun h2 => ?_) (fun h2 => ?_)
     ·simp only [decide_eq_true_eq] at h2
      have hlt : m < 12 := by
       rcases Nat.lt_or_ge m 12 with h3 | h3
       ·exact h3
       ·have : m = 12 := by omega
        subst this
        simp only [remM] at hstep hm3
        omega
      simp +decide only [go_sem]
      refine Runs.call (l9Days hm y m hm1 hm2) ?_
      simp +decide (disch := first | omega | (simp only [ll]; omega)) only [if_pos, go_sem]
      refine ihm (m + 1, c - ml y m) _ (by simp only; omega) ⟨by simp only; omega, by simp only; omega, by simp only; omega, ?_⟩ ?_
      ·simp only
       rw [← hm4, show 13 - m = (13 - (m + 1)) + 1 by omega]
       conv => rhs; unfold monthGo
       rw [if_pos (by omega)]
      ·simp [go_sem, specDayAnn, specDaySt2]
       omega
     ·simp only [decide_eq_false_iff_not] at h2
      have hg3 : monthGo 12 y 1 d = (m, c) := by
       rw [← hm4, show 13 - m = (13 - (m + 1)) + 1 by omega]
       unfold monthGo
       rw [if_neg (by omega)]
      rw [hg3] at e
      simp only at e
      simp +decide (disch := first | omega | (simp only [ll]; omega)) only [e, dayA, if_pos, go_sem]
      refine Runs.ret_eq ?_
      simp
def implDayAnn : Ann := [(0, [6, 7, 8, 9]), (2, [6, 7, 8, 9])]
def implDaySt (s : Nat) (p : Nat × Nat) : St := ⟨[.any, .any, .any, .any, .any, .any, .v (.int .i64 p.2), .v (.int .i64 s), .v (.int .i64 p.1), .v (.int .i64 1), .any, .any, .any, .any, .any, .any, .any, .any, .any, .any, .any, .any, .any, .any, .any, .any, .any, .any, .any, .any, .any, .any, .any, .any, .any, .any, .any, .any, .any, .any, .any, .any, .any, .any, .any, .any], [], []⟩
def implDaySt2 (s y : Nat) (p : Nat × Nat) : St := ⟨[.any, .any, .any, .any, .any, .any, .v (.int .i64 p.2), .v (.int .i64 s), .v (.int .i64 y), .v (.int .i64 p.1), .any, .any, .any, .any, .any, .any, .any, .any, .any, .any, .any, .any, .any, .any, .any, .any, .any, .any, .any, .any, .any, .any, .any, .any, .any, .any, .any, .any, .any, .any, .any, .any, .any, .any, .any, .any], [], []⟩
include hm in
theorem implDayOf (t : Int) : Holds Tryz.prog 106 [.v (.int .i64 t)] [] (dayA (dayP t)) [] := by
 refine holds_of (ann := implDayAnn) tabOk hm Tryz.func106 (by kernel_rfl) rfl ?_
 simp +decide only [Tryz.f106, go_sem]
 refine Runs.call (isTime hm t) ?_
 simp +decide only [go_sem]
 refine Runs.split (fun h => ?_) (fun h => ?_)
 ·simp only [Bool.not_eq_true'] at h
  have e : dayP t = ⟨0, 0, 0, 0⟩ := by simp [dayP, h]
  simp +decide only [e, dayA, go_sem]
  exact Runs.ret_refl
 ·simp only [Bool.not_eq_false'] at h
  obtain ⟨n, hn⟩ : ∃ n, n = (t + 631152000).toNat := ⟨_, rfl⟩
  have hb := inB_iff.1 h
  have e : dayP t = ⟨(yearGo (n / 86400 + 1) 1950 (n / 86400)).1, (monthGo 12 (yearGo (n / 86400 + 1) 1950 (n / 86400)).1 1 (yearGo (n / 86400 + 1) 1950 (n / 86400)).2).1,
    (monthGo 12 (yearGo (n / 86400 + 1) 1950 (n / 86400)).1 1 (yearGo (n / 86400 + 1) 1950 (n / 86400)).2).2 + 1, n % 86400⟩ := by
   unfold dayP
   rw [if_pos h, ← hn]
  have hw : IntKind.i64.wrap (t - -631152000) = (n : Int) := by rw [wrap_i64 (by omega) (by omega)]; omega
  have hq : (n : Int).tdiv 86400 = ((n / 86400 : Nat) : Int) := by rw [Int.tdiv_eq_ediv_of_nonneg (by omega)]; omega
  have hr : (n : Int).tmod 86400 = ((n % 86400 : Nat) : Int) := by rw [Int.tmod_eq_emod_of_nonneg (by omega)]; omega
  obtain ⟨D, hD⟩ : ∃ D, D = n / 86400 := ⟨_, rfl⟩
  obtain ⟨s, hs⟩ : ∃ s, s = n % 86400 := ⟨_, rfl⟩
  have hDl : D ≤ 60000 := by omega
  rw [← hD, ← hs] at e
  rw [← hD] at hq
  rw [← hs] at hr
  simp +decide only [hw, hq, hr, go_sem]
  rw [wrap_i64 (by omega) (by omega)]
  refine Runs.while (α := Nat × Nat) (implDaySt s) (fun p => p.2) (fun p => p.1 + p.2 ≤ 1950 + D ∧ yearGo (p.2 + 1) p.1 p.2 = yearGo (D + 1) 1950 D) (1950, D) ⟨by simp, rfl⟩ ?_ ?_
  ·simp [go_sem, implDayAnn, implDaySt]
  ·rintro ⟨y, d⟩ ⟨hy, hg⟩ ih
   simp only at hy hg
   have hf := feb_pos y
   have hyl : yl y = 337 + feb y := rfl
   simp +decide only [implDaySt, go_sem]
   refine Runs.call (daysOf hm y) ?_
   simp +decide only [go_sem]
   refine Runs.split (fun h' => ?_) (fun h' => ?_)
   ·simp only [decide_eq_true_eq] at h'
    simp +decide only [go_sem]
    refine Runs.call (daysOf hm y) ?_
    simp +decide (disch := first | omega | (simp only [ll]; omega)) only [if_pos, go_sem]
    refine ih (y + 1, d - yl y) _ (by simp only; omega) ⟨by simp only; omega, ?_⟩ ?_
    ·simp only
     rw [← hg]
     conv => rhs; unfold yearGo
     rw [if_pos (by omega)]
     exact yearGo_fuel _ _ _ _ (by omega) (by omega)
    ·simp [go_sem, implDayAnn, implDaySt]
     omega
   ·simp only [decide_eq_false_iff_not] at h'
    have hg2 : yearGo (D + 1) 1950 D = (y, d) := by
     rw [← hg]
     unfold yearGo
     rw [if_neg (by omega)]
    rw [hg2] at e
    simp only at e
    simp +decide only [go_sem]
    refine Runs.while (α := Nat × Nat) (implDaySt2 s y) (fun p => p.2) (fun p => 1 ≤ p.1 ∧ p.1 ≤ 12 ∧ p.2 < remM y p.1 ∧ monthGo (13 - p.1) y p.1 p.2 = monthGo 12 y 1 d) (1, d) ⟨by simp, by simp, by simp only [remM]; omega, rfl⟩ ?_ ?_
    ·simp [go_sem, implDayAnn, implDaySt2]
    ·rintro ⟨m, c⟩ ⟨hm1, hm2, hm3, hm4⟩ ihm
     simp only at hm1 hm2 hm3 hm4
     have hstep := remM_step y hm1 hm2
     have hml := ml_bound y m
     have hrl : c ≤ 400 := by
      have : remM y m ≤ 366 := by
       rcases cases12 hm1 hm2 with rfl | rfl | rfl | rfl | rfl | rfl | rfl | rfl | rfl | rfl | rfl | rfl <;> simp only [remM] <;> omega
      omega
     simp +decide only [implDaySt2, go_sem]
     refine Runs.call (daysIn hm y m hm1 hm2) ?_
     simp +decide only [go_sem]
     refine Runs.split (fun h2 => ?_) (fun h2 => ?_)
     ·simp only [decide_eq_true_eq] at h2
      have hlt : m < 12 := by
       rcases Nat.lt_or_ge m 12 with h3 | h3
       ·exact h3
       ·have : m = 12 := by omega
        subst this
        simp only [remM] at hstep hm3
        omega
      simp +decide only [go_sem]
      refine Runs.call (daysIn hm y m hm1 hm2) ?_
      simp +decide (disch := first | omega | (simp only [ll]; omega)) only [if_pos, go_sem]
      refine ihm (m + 1, c - ml y m) _ (by simp only; omega) ⟨by simp only; omega, by simp only; omega, by simp only; omega, ?_⟩ ?_
      ·simp only
       rw [← hm4, show 13 - m = (13 - (m + 1)) + 1 by omega]
       conv => rhs; unfold monthGo
       rw [if_pos (by omega)]
      ·simp [go_sem, implDayAnn, implDaySt2]
       omega
     ·simp only [decide_eq_false_iff_not] at h2
      have hg3 : monthGo 12 y 1 d = (m, c) := by
       rw [← hm4, show 13 - m = (13 - (m + 1)) + 1 by omega]
       unfold monthGo
       rw [if_neg (by omega)]
      rw [hg3] at e
      simp only at e
      simp +decide (disch := first | omega | (simp only [ll]; omega)) only [e, dayA, if_pos, go_sem]
      refine Runs.ret_eq ?_
      simp
end Go.Proofs.W

namespace Go.Proofs.W
open Go Go.AM
set_option maxRecDepth 10000
variable (hm : Tryz.prog.follows .mixedOrders = true)
def two (n : Nat) : ByteArray := ⟨#[UInt8.ofNat (48 + n / 10 % 10), UInt8.ofNat (48 + n % 10)]⟩
theorem two_size (n : Nat) : (two n).size = 2 := rfl
def restT (m d s : Nat) : ByteArray := two m ++ two d ++ two (s / 3600) ++ two (s / 60 % 60) ++ two (s % 60) ++ ⟨#[90]⟩
theorem z_size : (ByteArray.mk #[90]).size = 1 := rfl
theorem restT_size (m d s : Nat) : (restT m d s).size = 11 := by simp [restT, two_size, z_size]
attribute [local go_sem] two_size z_size restT_size
def shortOk (t : Int) : Bool := inB (dayP t).y 1950 2049
def shortT (t : Int) : ByteArray := if shortOk t = true then two (dayP t).y ++ restT (dayP t).m (dayP t).d (dayP t).s else ⟨#[]⟩
def longOk (t : Int) : Bool := !decide (((dayP t).y : Int) = 0)
def longT (t : Int) : ByteArray := if longOk t = true then two ((dayP t).y / 100) ++ two (dayP t).y ++ restT (dayP t).m (dayP t).d (dayP t).s else ⟨#[]⟩
theorem tdivN (n k : Nat) : (n : Int).tdiv (k : Int) = ((n / k : Nat) : Int) := by rw [Int.tdiv_eq_ediv_of_nonneg (by omega)]; rfl
theorem tmodN (n k : Nat) : (n : Int).tmod (k : Int) = ((n % k : Nat) : Int) := by rw [Int.tmod_eq_emod_of_nonneg (by omega)]; rfl
include hm in
theorem specTwo (n : Nat) (h : n ≤ 4611686018427387904) : Holds Tryz.prog 103 [.v (.int .i64 n)] [] (.v (.string (two n))) [] := by
 refine holds_of (ann := []) tabOk hm Tryz.func103 (by kernel_rfl) rfl ?_
 have h1 : (n : Int).tdiv 10 = ((n / 10 : Nat) : Int) := tdivN n 10
 have h2 : ((n / 10 : Nat) : Int).tmod 10 = ((n / 10 % 10 : Nat) : Int) := tmodN (n / 10) 10
 have h3 : (n : Int).tmod 10 = ((n % 10 : Nat) : Int) := tmodN n 10
 have w1 : IntKind.i64.wrap ((n / 10 : Nat) : Int) = ((n / 10 : Nat) : Int) := wrap_i64 (by omega) (by omega)
 have w2 : IntKind.i64.wrap (48 + ((n / 10 % 10 : Nat) : Int)) = ((48 + n / 10 % 10 : Nat) : Int) := by rw [wrap_i64 (by omega) (by omega)]; omega
 have w3 : IntKind.i64.wrap (48 + ((n % 10 : Nat) : Int)) = ((48 + n % 10 : Nat) : Int) := by rw [wrap_i64 (by omega) (by omega)]; omega
 have w4 : IntKind.u8.wrap ((48 + n / 10 % 10 : Nat) : Int) = ((48 + n / 10 % 10 : Nat) : Int) := wrap_u8 (by omega) (by omega)
 have w5 : IntKind.u8.wrap ((48 + n % 10 : Nat) : Int) = ((48 + n % 10 : Nat) : Int) := wrap_u8 (by omega) (by omega)
 have b1 : (0 ≤ ((48 + n / 10 % 10 : Nat) : Int) ∧ ((48 + n / 10 % 10 : Nat) : Int) < 256) := by omega
 have b2 : (0 ≤ ((48 + n % 10 : Nat) : Int) ∧ ((48 + n % 10 : Nat) : Int) < 256) := by omega
 simp +decide only [Tryz.f103, h1, h2, h3, w1, w2, w3, w4, w5, b1, b2, go_sem]
 exact Runs.ret_v
include hm in
theorem specRest (m d s : Nat) (hm1 : m ≤ 4611686018427387904) (hd : d ≤ 4611686018427387904) (hs : s ≤ 4611686018427387904) : Holds Tryz.prog 104 [.v (.int .i64 m), .v (.int .i64 d), .v (.int .i64 s)] [] (.v (.string (restT m d s))) [] := by
 refine holds_of (ann := []) tabOk hm Tryz.func104 (by kernel_rfl) rfl ?_
 have h1 : (s : Int).tdiv 3600 = ((s / 3600 : Nat) : Int) := tdivN s 3600
 have h2 : (s : Int).tdiv 60 = ((s / 60 : Nat) : Int) := tdivN s 60
 have h3 : ((s / 60 : Nat) : Int).tmod 60 = ((s / 60 % 60 : Nat) : Int) := tmodN (s / 60) 60
 have h4 : (s : Int).tmod 60 = ((s % 60 : Nat) : Int) := tmodN s 60
 have w1 : IntKind.i64.wrap ((s / 3600 : Nat) : Int) = ((s / 3600 : Nat) : Int) := wrap_i64 (by omega) (by omega)
 have w2 : IntKind.i64.wrap ((s / 60 : Nat) : Int) = ((s / 60 : Nat) : Int) := wrap_i64 (by omega) (by omega)
 simp +decide only [Tryz.f104, go_sem]
 refine Runs.call (specTwo hm m hm1) ?_
 simp +decide only [go_sem]
 refine Runs.call (specTwo hm d hd) ?_
 simp +decide only [h1, w1, go_sem]
 refine Runs.call (specTwo hm (s / 3600) (by omega)) ?_
 simp +decide only [h2, w2, h3, go_sem]
 refine Runs.call (specTwo hm (s / 60 % 60) (by omega)) ?_
 simp +decide only [h4, go_sem]
 refine Runs.call (specTwo hm (s % 60) (by omega)) ?_
 simp +decide only [go_sem]
 exact Runs.ret_v
include hm in
theorem specShort (t : Int) : Holds Tryz.prog 90 [.v (.int .i64 t)] [] (.tup [.v (.string (shortT t)), .v (.bool (shortOk t))]) [] := by
 refine holds_of (ann := []) tabOk hm Tryz.func90 (by kernel_rfl) rfl ?_
 obtain ⟨b1, b2, b3, b4⟩ := dayP_bound t
 simp +decide only [Tryz.f90, go_sem]
 refine Runs.call (specDayOf hm t) ?_
 simp +decide only [dayA, go_sem]
 refine Runs.call (l1In hm _ 1950 2049) ?_
 simp +decide only [go_sem]
 refine Runs.split (fun h => ?_) (fun h => ?_)
 ·simp only [Bool.not_eq_true'] at h
  have e : shortOk t = false := h
  simp +decide only [shortT, e, go_sem]
  exact Runs.ret_refl
 ·simp only [Bool.not_eq_false'] at h
  have e : shortOk t = true := h
  simp +decide only [go_sem]
  refine Runs.call (specTwo hm _ (by omega)) ?_
  simp +decide only [go_sem]
  refine Runs.call (specRest hm _ _ _ (by omega) (by omega) (by omega)) ?_
  simp +decide only [shortT, e, go_sem]
  exact Runs.ret_refl
include hm in
theorem specLong (t : Int) : Holds Tryz.prog 91 [.v (.int .i64 t)] [] (.tup [.v (.string (longT t)), .v (.bool (longOk t))]) [] := by
 refine holds_of (ann := []) tabOk hm Tryz.func91 (by kernel_rfl) rfl ?_
 obtain ⟨b1, b2, b3, b4⟩ := dayP_bound t
 simp +decide only [Tryz.f91, go_sem]
 refine Runs.call (specDayOf hm t) ?_
 simp +decide only [dayA, go_sem]
 refine Runs.split (fun h => ?_) (fun h => ?_)
 ·have e : longOk t = false := by rw [longOk, h]; rfl
  simp +decide only [longT, e, go_sem]
  exact Runs.ret_refl
 ·have e : longOk t = true := by rw [longOk, h]; rfl
  have h1 : ((dayP t).y : Int).tdiv 100 = (((dayP t).y / 100 : Nat) : Int) := tdivN _ 100
  have w1 : IntKind.i64.wrap (((dayP t).y / 100 : Nat) : Int) = (((dayP t).y / 100 : Nat) : Int) := wrap_i64 (by omega) (by omega)
  simp +decide only [h1, w1, go_sem]
  refine Runs.call (specTwo hm _ (by omega)) ?_
  simp +decide only [go_sem]
  refine Runs.call (specTwo hm _ (by omega)) ?_
  simp +decide only [go_sem]
  refine Runs.call (specRest hm _ _ _ (by omega) (by omega) (by omega)) ?_
  simp +decide only [longT, e, go_sem]
  exact Runs.ret_refl
include hm in
theorem implTwo (n : Nat) (h : n ≤ 4611686018427387904) : Holds Tryz.prog 107 [.v (.int .i64 n)] [] (.v (.string (two n))) [] := by
 refine holds_of (ann := []) tabOk hm Tryz.func107 (by kernel_rfl) rfl ?_
 have h1 : (n : Int).tdiv 10 = ((n / 10 : Nat) : Int) := tdivN n 10
 have h2 : ((n / 10 : Nat) : Int).tmod 10 = ((n / 10 % 10 : Nat) : Int) := tmodN (n / 10) 10
 have h3 : (n : Int).tmod 10 = ((n % 10 : Nat) : Int) := tmodN n 10
 have w1 : IntKind.i64.wrap ((n / 10 : Nat) : Int) = ((n / 10 : Nat) : Int) := wrap_i64 (by omega) (by omega)
 have w2 : IntKind.i64.wrap (48 + ((n / 10 % 10 : Nat) : Int)) = ((48 + n / 10 % 10 : Nat) : Int) := by rw [wrap_i64 (by omega) (by omega)]; omega
 have w3 : IntKind.i64.wrap (48 + ((n % 10 : Nat) : Int)) = ((48 + n % 10 : Nat) : Int) := by rw [wrap_i64 (by omega) (by omega)]; omega
 have w4 : IntKind.u8.wrap ((48 + n / 10 % 10 : Nat) : Int) = ((48 + n / 10 % 10 : Nat) : Int) := wrap_u8 (by omega) (by omega)
 have w5 : IntKind.u8.wrap ((48 + n % 10 : Nat) : Int) = ((48 + n % 10 : Nat) : Int) := wrap_u8 (by omega) (by omega)
 have b1 : (0 ≤ ((48 + n / 10 % 10 : Nat) : Int) ∧ ((48 + n / 10 % 10 : Nat) : Int) < 256) := by omega
 have b2 : (0 ≤ ((48 + n % 10 : Nat) : Int) ∧ ((48 + n % 10 : Nat) : Int) < 256) := by omega
 simp +decide only [Tryz.f107, h1, h2, h3, w1, w2, w3, w4, w5, b1, b2, go_sem]
 exact Runs.ret_v
include hm in
theorem implRest (m d s : Nat) (hm1 : m ≤ 4611686018427387904) (hd : d ≤ 4611686018427387904) (hs : s ≤ 4611686018427387904) : Holds Tryz.prog 108 [.v (.int .i64 m), .v (.int .i64 d), .v (.int .i64 s)] [] (.v (.string (restT m d s))) [] := by
 refine holds_of (ann := []) tabOk hm Tryz.func108 (by kernel_rfl) rfl ?_
 have h1 : (s : Int).tdiv 3600 = ((s / 3600 : Nat) : Int) := tdivN s 3600
 have h2 : (s : Int).tdiv 60 = ((s / 60 : Nat) : Int) := tdivN s 60
 have h3 : ((s / 60 : Nat) : Int).tmod 60 = ((s / 60 % 60 : Nat) : Int) := tmodN (s / 60) 60
 have h4 : (s : Int).tmod 60 = ((s % 60 : Nat) : Int) := tmodN s 60
 have w1 : IntKind.i64.wrap ((s / 3600 : Nat) : Int) = ((s / 3600 : Nat) : Int) := wrap_i64 (by omega) (by omega)
 have w2 : IntKind.i64.wrap ((s / 60 : Nat) : Int) = ((s / 60 : Nat) : Int) := wrap_i64 (by omega) (by omega)
 simp +decide only [Tryz.f108, go_sem]
 refine Runs.call (implTwo hm m hm1) ?_
 simp +decide only [go_sem]
 refine Runs.call (implTwo hm d hd) ?_
 simp +decide only [h1, w1, go_sem]
 refine Runs.call (implTwo hm (s / 3600) (by omega)) ?_
 simp +decide only [h2, w2, h3, go_sem]
 refine Runs.call (implTwo hm (s / 60 % 60) (by omega)) ?_
 simp +decide only [h4, go_sem]
 refine Runs.call (implTwo hm (s % 60) (by omega)) ?_
 simp +decide only [go_sem]
 exact Runs.ret_v
include hm in
theorem implShort (t : Int) : Holds Tryz.prog 100 [.v (.int .i64 t)] [] (.tup [.v (.string (shortT t)), .v (.bool (shortOk t))]) [] := by
 refine holds_of (ann := []) tabOk hm Tryz.func100 (by kernel_rfl) rfl ?_
 obtain ⟨b1, b2, b3, b4⟩ := dayP_bound t
 simp +decide only [Tryz.f100, go_sem]
 refine Runs.call (implDayOf hm t) ?_
 simp +decide only [dayA, go_sem]
 refine Runs.call (within hm _ 1950 2049) ?_
 simp +decide only [go_sem]
 refine Runs.split (fun h => ?_) (fun h => ?_)
 ·simp only [Bool.not_eq_true'] at h
  have e : shortOk t = false := h
  simp +decide only [shortT, e, go_sem]
  exact Runs.ret_refl
 ·simp only [Bool.not_eq_false'] at h
  have e : shortOk t = true := h
  simp +decide only [go_sem]
  refine Runs.call (implTwo hm _ (by omega)) ?_
  simp +decide only [go_sem]
  refine Runs.call (implRest hm _ _ _ (by omega) (by omega) (by omega)) ?_
  simp +decide only [shortT, e, go_sem]
  exact Runs.ret_refl
include hm in
theorem implLong (t : Int) : Holds Tryz.prog 101 [.v (.int .i64 t)] [] (.tup [.v (.string (longT t)), .v (.bool (longOk t))]) [] := by
 refine holds_of (ann := []) tabOk hm Tryz.func101 (by kernel_rfl) rfl ?_
 obtain ⟨b1, b2, b3, b4⟩ := dayP_bound t
 simp +decide only [Tryz.f101, go_sem]
 refine Runs.call (implDayOf hm t) ?_
 simp +decide only [dayA, go_sem]
 refine Runs.split (fun h => ?_) (fun h => ?_)
 ·have e : longOk t = false := by rw [longOk, h]; rfl
  simp +decide only [longT, e, go_sem]
  exact Runs.ret_refl
 ·have e : longOk t = true := by rw [longOk, h]; rfl
  have h1 : ((dayP t).y : Int).tdiv 100 = (((dayP t).y / 100 : Nat) : Int) := tdivN _ 100
  have w1 : IntKind.i64.wrap (((dayP t).y / 100 : Nat) : Int) = (((dayP t).y / 100 : Nat) : Int) := wrap_i64 (by omega) (by omega)
  simp +decide only [h1, w1, go_sem]
  refine Runs.call (implTwo hm _ (by omega)) ?_
  simp +decide only [go_sem]
  refine Runs.call (implTwo hm _ (by omega)) ?_
  simp +decide only [go_sem]
  refine Runs.call (implRest hm _ _ _ (by omega) (by omega) (by omega)) ?_
  simp +decide only [longT, e, go_sem]
  exact Runs.ret_refl
end Go.Proofs.W

namespace Go.Proofs.W
open Go Go.AM
set_option maxRecDepth 10000
variable (hm : Tryz.prog.follows .mixedOrders = true)
structure It where
 tag : Int
 body : List Int
 kids : Int
def itemS (x : It) : A := .agg [.v (.int .i64 x.tag), .sl .sh (x.body.map u8A), .v (.int .i64 x.kids)]
def itemO (x : It) : A := .agg [.v (.int .i64 x.tag), .sl (.ow 1) (x.body.map u8A), .v (.int .i64 x.kids)]
theorem dn_itemS (L : List It) : dnL (L.map itemS) = L.map itemS := by rw [dnL_map]; simp [itemS, A.dn, dnL, dn_u8A]
theorem dn_itemO (L : List It) : dnL (L.map itemO) = L.map itemS := by rw [dnL_map]; simp [itemO, itemS, A.dn, dnL, dn_u8A]
theorem md_itemO (L : List It) : mdL (L.map itemO) = L.map itemO := by rw [mdL_eq, List.map_map]; simp [itemO, A.md, mdL, md_u8A]
theorem fr_itemO (L : List It) : freeL (L.map itemO) = true := by
 induction L with
 | nil => rfl
 | cons a l ih => simp [freeL, ih, itemO, A.free, fr_u8A]
theorem c3_itemO (L : List It) : (L.map itemO).all (fun a => a.cells.length == 3) = true := by simp [itemO, A.cells]
theorem pl1_itemO (x : It) : (itemO x).plain = false := by simp [plainL, itemO, A.plain, Sh.own]
theorem c_itemO (x : It) : (itemO x).cells.length = 3 := rfl
theorem fr1_itemO (x : It) : (itemO x).free = true := by simp [itemO, A.free, freeL, fr_u8A]
theorem md1_itemO (x : It) : (itemO x).md = itemO x := by simp [itemO, A.md, mdL, md_u8A]
theorem dn1_itemO (x : It) : (itemO x).dn = itemS x := by simp [itemO, itemS, A.dn, dnL, dn_u8A]
attribute [go_sem] pl1_itemO c_itemO fr1_itemO md1_itemO dn1_itemO dn_itemS dn_itemO md_itemO fr_itemO c3_itemO
include hm in
theorem l10Item (t : Int) (B : List Int) : Holds Tryz.prog 45 [.v (.int .i64 t), .sl (.ow 1) (B.map u8A)] [] (.sl (.ow 3) [itemO ⟨t, B, 0⟩]) [] := by
 refine holds_of (ann := []) tabOk hm Tryz.func45 (by kernel_rfl) rfl ?_
 simp +decide only [Tryz.f45, itemO, go_sem]
 exact Runs.ret_refl
include hm in
theorem l10Int (n : Int) (h1 : -9223372036854775808 ≤ n) (h2 : n < 9223372036854775808) : Holds Tryz.prog 68 [.v (.int .i64 n)] [] (.sl (.ow 3) [itemO ⟨2, intB n, 0⟩]) [] := by
 refine holds_ref (ann := []) tabOk hm (byL [] [45]) Tryz.func68 (by kernel_rfl) rfl ?_
 simp +decide only [Tryz.f68, go_sem]
 refine Runs.call (sIntBytes hm n h1 h2) ?_
 simp +decide only [go_sem]
 refine Runs.call (l10Item hm 2 (intB n)) ?_
 simp +decide only [itemO, go_sem]
 exact Runs.ret_refl
include hm in
theorem l10Made (t k : Int) (L : List It) (h : L.length ≤ 1000000) : Holds Tryz.prog 43 [.v (.int .i64 t), .v (.int .i64 k), .sl (.ow 3) (L.map itemO)] [] (.sl (.ow 3) (itemO ⟨t, [], k⟩ :: L.map itemO)) [] := by
 refine holds_of (ann := []) tabOk hm Tryz.func43 (by kernel_rfl) rfl ?_
 have le : ∀ (l : List A), Le (.sl (.ow 3) (.agg [.v (.int .i64 t), .v (.slice none 0 0), .v (.int .i64 k)] :: l)) (.sl (.ow 3) (itemO ⟨t, [], k⟩ :: l)) := fun l =>
  .sl _ (.agg (.same _ (.nils _ (.same _ .nil))) (LeD.refl _)) .nil
 cases L with
 | nil =>
  simp +decide only [Tryz.f43, List.map_nil, go_sem]
  exact Runs.ret (le _) rfl
 | cons x L =>
  simp only [List.length_cons] at h
  simp +decide (disch := first | omega | (simp only [ll]; omega)) only [Tryz.f43, List.map_cons, show 1 + (L.length + 1) = L.length + 1 + 1 by omega, if_pos, go_sem]
  exact Runs.ret (le _) rfl
def sTxAnn : Ann := [(0, [0, 1, 5, 6])]
def txtI (t : Int) (s : ByteArray) : It := ⟨t, bytesI s, 0⟩
def sTxSt (t : Int) (L : List ByteArray) (i : Nat) : St := ⟨[.v (.int .i64 t), .sl .sh (L.map strA), .any, .any, .any, .ms (.l 0) 0 i i, .v (.int .i64 i), .any, .any, .any, .any, .any, .any, .any, .any, .any, .any, .any, .any, .any, .any, .any, .any, .any, .any], [(0, ⟨true, 3, false, mpre (fun s => itemO (txtI t s)) L i⟩)], []⟩
include hm in
theorem l10Texts (t : Int) (L : List ByteArray) (h : L.length ≤ 1000000) (h4 : ∀ s ∈ L, s.size ≤ 1073741824) : Holds Tryz.prog 69 [.v (.int .i64 t), .sl .sh (L.map strA)] [] (.sl (.ow 3) ((L.map (txtI t)).map itemO)) [] := by
 refine holds_of (ann := sTxAnn) tabOk hm Tryz.func69 (by kernel_rfl) rfl ?_
 simp +decide only [Tryz.f69, go_sem]
 refine Runs.while (α := Nat) (sTxSt t L) (fun i => L.length - i) (fun i => i ≤ L.length) 0 (by omega) ?_ ?_
 ·simp [go_sem, sTxAnn, sTxSt, mpre_zero]
 ·intro i hi ih
  have hlen := mpre_length (fun s => itemO (txtI t s)) hi
  simp +decide only [sTxSt, go_sem]
  refine Runs.split (fun h => ?_) (fun h => ?_)
  ·have hlt : i < L.length := by simpa using h
   have hs := h4 L[i] (List.getElem_mem hlt)
   simp +decide (disch := first | omega | (simp only [ll]; omega)) only [hlen, if_pos, go_sem]
   refine ih (i + 1) _ (by omega) (by omega) ?_
   simp [go_sem, sTxAnn, sTxSt, mpre_succ _ hlt, txtI, itemO]
  ·have hge : i = L.length := by simp at h; omega
   subst hge
   have ea := mpre_all (fun s => itemO (txtI t s)) L
   simp +decide only [hlen, ea, go_sem]
   refine Runs.ret_eq ?_
   simp [List.map_map]
def sInAnn : Ann := [(0, [0, 3, 4])]
def intI (n : Int) : It := ⟨2, intB n, 0⟩
def sInSt (L : List Int) (i : Nat) : St := ⟨[.sl .sh (L.map intA), .any, .any, .ms (.l 0) 0 i i, .v (.int .i64 i), .any, .any, .any, .any, .any, .any, .any, .any, .any, .any, .any, .any, .any, .any, .any], [(0, ⟨true, 3, false, mpre (fun n => itemO (intI n)) L i⟩)], []⟩
include hm in
theorem l10Ints (L : List Int) (h : L.length ≤ 1000000) (h4 : ∀ n ∈ L, -9223372036854775808 ≤ n ∧ n < 9223372036854775808) : Holds Tryz.prog 71 [.sl .sh (L.map intA)] [] (.sl (.ow 3) ((L.map intI).map itemO)) [] := by
 refine holds_of (ann := sInAnn) tabOk hm Tryz.func71 (by kernel_rfl) rfl ?_
 simp +decide only [Tryz.f71, go_sem]
 refine Runs.while (α := Nat) (sInSt L) (fun i => L.length - i) (fun i => i ≤ L.length) 0 (by omega) ?_ ?_
 ·simp [go_sem, sInAnn, sInSt, mpre_zero]
 ·intro i hi ih
  have hlen := mpre_length (fun n => itemO (intI n)) hi
  simp +decide only [sInSt, go_sem]
  refine Runs.split (fun h => ?_) (fun h => ?_)
  ·have hlt : i < L.length := by simpa using h
   obtain ⟨n1, n2⟩ := h4 L[i] (List.getElem_mem hlt)
   simp +decide (disch := first | omega | (simp only [ll]; omega)) only [hlen, if_pos, go_sem]
   refine Runs.call (l10Int hm L[i] n1 n2) ?_
   simp +decide (disch := first | omega | (simp only [ll]; omega)) only [hlen, if_pos, go_sem]
   refine ih (i + 1) _ (by omega) (by omega) ?_
   simp [go_sem, sInAnn, sInSt, mpre_succ _ hlt, intI]
  ·have hge : i = L.length := by simp at h; omega
   subst hge
   have ea := mpre_all (fun n => itemO (intI n)) L
   simp +decide only [hlen, ea, go_sem]
   refine Runs.ret_eq ?_
   simp [List.map_map]
def timeI (t : Int) : It := if shortOk t = true then ⟨23, bytesI (shortT t), 0⟩ else ⟨24, bytesI (longT t), 0⟩
theorem shortT_size (t : Int) : (shortT t).size ≤ 100 := by
 unfold shortT
 split
 ·rw [ByteArray.size_append, restT_size, two_size]; omega
 ·show 0 ≤ 100; omega
theorem longT_size (t : Int) : (longT t).size ≤ 100 := by
 unfold longT
 split
 ·rw [ByteArray.size_append, ByteArray.size_append, restT_size, two_size, two_size]; omega
 ·show 0 ≤ 100; omega
include hm in
theorem l10Time (t : Int) : Holds Tryz.prog 70 [.v (.int .i64 t)] [] (.sl (.ow 3) [itemO (timeI t)]) [] := by
 refine holds_ref (ann := []) tabOk hm (byL [] [45]) Tryz.func70 (by kernel_rfl) rfl ?_
 have s1 := shortT_size t
 have s2 := longT_size t
 simp +decide only [Tryz.f70, go_sem]
 refine Runs.call (specShort hm t) ?_
 simp +decide only [go_sem]
 refine Runs.split (fun h => ?_) (fun h => ?_)
 ·simp +decide (disch := first | omega | (simp only [ll]; omega)) only [if_pos, go_sem]
  refine Runs.call (l10Item hm 23 (bytesI (shortT t))) ?_
  simp +decide only [timeI, h, itemO, go_sem]
  exact Runs.ret_refl
 ·simp +decide only [go_sem]
  refine Runs.call (specLong hm t) ?_
  simp +decide (disch := first | omega | (simp only [ll]; omega)) only [if_pos, go_sem]
  refine Runs.call (l10Item hm 24 (bytesI (longT t))) ?_
  simp +decide only [timeI, h, itemO, go_sem]
  exact Runs.ret_refl
end Go.Proofs.W

namespace Go.Proofs.W
open Go Go.AM
set_option maxRecDepth 10000
variable (hm : Tryz.prog.follows .mixedOrders = true)
inductive Nd where
 | mk (tag : Int) (body : List Int) (kids : List Nd)
mutual
def nodeO : Nd → A
 | .mk t b ks => .agg [.v (.int .i64 t), .sl (.ow 1) (b.map u8A), .sl (.ow 3) (nodesO ks)]
def nodesO : List Nd → List A
 | [] => []
 | n :: r => nodeO n :: nodesO r
end
mutual
def nodeS : Nd → A
 | .mk t b ks => .agg [.v (.int .i64 t), .sl .sh (b.map u8A), .sl .sh (nodesS ks)]
def nodesS : List Nd → List A
 | [] => []
 | n :: r => nodeS n :: nodesS r
end
theorem nodesO_eq (l : List Nd) : nodesO l = l.map nodeO := by induction l with
 | nil => rfl
 | cons a l ih => simp [nodesO, ih]
theorem nodesS_eq (l : List Nd) : nodesS l = l.map nodeS := by induction l with
 | nil => rfl
 | cons a l ih => simp [nodesS, ih]
theorem nodesO_length (l : List Nd) : (nodesO l).length = l.length := by rw [nodesO_eq, List.length_map]
theorem nodesS_length (l : List Nd) : (nodesS l).length = l.length := by rw [nodesS_eq, List.length_map]
mutual
theorem dn_nodeO : ∀ n, (nodeO n).dn = nodeS n
 | .mk t b ks => by simp [nodeO, nodeS, A.dn, dnL, dn_u8A, dn_nodesO ks]
theorem dn_nodesO : ∀ l, dnL (nodesO l) = nodesS l
 | [] => rfl
 | n :: r => by simp [nodesO, nodesS, dnL, dn_nodeO n, dn_nodesO r]
end
mutual
theorem dn_nodeS : ∀ n, (nodeS n).dn = nodeS n
 | .mk t b ks => by simp [nodeS, A.dn, dnL, dn_u8A, dn_nodesS ks]
theorem dn_nodesS : ∀ l, dnL (nodesS l) = nodesS l
 | [] => rfl
 | n :: r => by simp [nodesS, dnL, dn_nodeS n, dn_nodesS r]
end
mutual
theorem md_nodeO : ∀ n, (nodeO n).md = nodeO n
 | .mk t b ks => by simp [nodeO, A.md, mdL, md_u8A, md_nodesO ks]
theorem md_nodesO : ∀ l, mdL (nodesO l) = nodesO l
 | [] => rfl
 | n :: r => by simp [nodesO, mdL, md_nodeO n, md_nodesO r]
end
mutual
theorem fr_nodeO : ∀ n, (nodeO n).free = true
 | .mk t b ks => by simp [nodeO, A.free, freeL, fr_u8A, fr_nodesO ks]
theorem fr_nodesO : ∀ l, freeL (nodesO l) = true
 | [] => rfl
 | n :: r => by simp [nodesO, freeL, fr_nodeO n, fr_nodesO r]
end
mutual
theorem pl_nodeS : ∀ n, (nodeS n).plain = true
 | .mk t b ks => by simp [nodeS, A.plain, plainL, Sh.own, pl_nodesS ks, plainL_map, u8A]
theorem pl_nodesS : ∀ l, plainL (nodesS l) = true
 | [] => rfl
 | n :: r => by simp [nodesS, plainL, pl_nodeS n, pl_nodesS r]
end
theorem tk_nodesO {α : Type} (L : List α) (f : α → Nd) : List.take L.length (nodesO (L.map f)) = nodesO (L.map f) := by
 rw [show L.length = (nodesO (L.map f)).length by rw [nodesO_length, List.length_map], List.take_length]
attribute [go_sem] tk_nodesO nodesO_length nodesS_length dn_nodeO dn_nodesO dn_nodeS dn_nodesS md_nodeO md_nodesO fr_nodeO fr_nodesO pl_nodeS pl_nodesS
include hm in
theorem leaf (t : Int) (B : List Int) : Holds Tryz.prog 88 [.v (.int .i64 t), .sl (.ow 1) (B.map u8A)] [] (nodeO (.mk t B [])) [] := by
 refine holds_of (ann := []) tabOk hm Tryz.func88 (by kernel_rfl) rfl ?_
 simp +decide only [Tryz.f88, go_sem]
 refine Runs.ret ?_ rfl
 exact .agg (.same _ (.same _ (.nils _ .nil))) .nil
include hm in
theorem listN (t : Int) (l : List Nd) : Holds Tryz.prog 52 [.v (.int .i64 t), .sl (.ow 3) (nodesO l)] [] (nodeO (.mk t [] l)) [] := by
 refine holds_of (ann := []) tabOk hm Tryz.func52 (by kernel_rfl) rfl ?_
 simp +decide only [Tryz.f52, go_sem]
 refine Runs.ret ?_ rfl
 exact .agg (.same _ (.nils _ (.same _ .nil))) .nil
def intN (n : Int) : Nd := .mk 2 (intB n) []
def txtN (t : Int) (s : ByteArray) : Nd := .mk t (bytesI s) []
def timeG (t : Int) : Int := if shortOk t = true then 23 else 24
def timeB (t : Int) : List Int := if shortOk t = true then bytesI (shortT t) else bytesI (longT t)
def timeN (t : Int) : Nd := .mk (timeG t) (timeB t) []
include hm in
theorem integer (n : Int) (h1 : -9223372036854775808 ≤ n) (h2 : n < 9223372036854775808) : Holds Tryz.prog 84 [.v (.int .i64 n)] [] (nodeO (.mk 2 (intB n) [])) [] := by
 refine holds_ref (ann := []) tabOk hm (byL [] [88]) Tryz.func84 (by kernel_rfl) rfl ?_
 simp +decide only [Tryz.f84, go_sem]
 refine Runs.call (iIntBytes hm n h1 h2) ?_
 simp +decide only [go_sem]
 refine Runs.call (leaf hm 2 (intB n)) ?_
 simp +decide only [nodeO, nodesO, go_sem]
 exact Runs.ret_refl
include hm in
theorem timeNode (t : Int) : Holds Tryz.prog 86 [.v (.int .i64 t)] [] (nodeO (.mk (timeG t) (timeB t) [])) [] := by
 refine holds_ref (ann := []) tabOk hm (byL [] [88]) Tryz.func86 (by kernel_rfl) rfl ?_
 have s1 := shortT_size t
 have s2 := longT_size t
 simp +decide only [Tryz.f86, go_sem]
 refine Runs.call (implShort hm t) ?_
 simp +decide only [go_sem]
 refine Runs.split (fun h => ?_) (fun h => ?_)
 ·simp +decide (disch := first | omega | (simp only [ll]; omega)) only [if_pos, go_sem]
  refine Runs.call (leaf hm 23 (bytesI (shortT t))) ?_
  simp +decide only [nodeO, nodesO, timeG, timeB, h, go_sem]
  exact Runs.ret_refl
 ·simp +decide only [go_sem]
  refine Runs.call (implLong hm t) ?_
  simp +decide (disch := first | omega | (simp only [ll]; omega)) only [if_pos, go_sem]
  refine Runs.call (leaf hm 24 (bytesI (longT t))) ?_
  simp +decide only [nodeO, nodesO, timeG, timeB, h, go_sem]
  exact Runs.ret_refl
def iTxAnn : Ann := [(0, [0, 5, 9, 10, 11])]
def iTxSt (t : Int) (L : List ByteArray) (i : Nat) : St := ⟨[.v (.int .i64 t), .any, .any, .any, .any, .ms (.l 0) 0 i i, .any, .any, .any, .sl .sh (L.map strA), .v (.int .i64 L.length), .v (.int .i64 i), .any, .any, .any, .any, .any, .any, .any, .any, .any, .any, .any, .any], [(0, ⟨true, 3, false, mpre (fun s => nodeO (txtN t s)) L i⟩)], []⟩
include hm in
theorem texts (t : Int) (L : List ByteArray) (h : L.length ≤ 1000000) (h4 : ∀ s ∈ L, s.size ≤ 1073741824) : Holds Tryz.prog 85 [.v (.int .i64 t), .sl .sh (L.map strA)] [] (.sl (.ow 3) (nodesO (L.map (txtN t)))) [] := by
 refine holds_ref (ann := iTxAnn) tabOk hm (byL [] [88]) Tryz.func85 (by kernel_rfl) rfl ?_
 simp +decide only [Tryz.f85, go_sem]
 refine Runs.while (α := Nat) (iTxSt t L) (fun i => L.length - i) (fun i => i ≤ L.length) 0 (by omega) ?_ ?_
 ·simp [go_sem, iTxAnn, iTxSt, mpre_zero]
 ·intro i hi ih
  have hlen := mpre_length (fun s => nodeO (txtN t s)) hi
  simp +decide only [iTxSt, go_sem]
  refine Runs.split (fun h => ?_) (fun h => ?_)
  ·have hlt : i < L.length := by simpa using h
   have hs := h4 L[i] (List.getElem_mem hlt)
   simp +decide (disch := first | omega | (simp only [ll]; omega)) only [hlen, if_pos, go_sem]
   refine Runs.call (leaf hm t (bytesI L[i])) ?_
   simp +decide (disch := first | omega | (simp only [ll]; omega)) only [hlen, nodeO, nodesO, if_pos, go_sem]
   refine ih (i + 1) _ (by omega) (by omega) ?_
   simp [go_sem, iTxAnn, iTxSt, mpre_succ _ hlt, txtN, nodeO, nodesO]
  ·have hge : i = L.length := by simp at h; omega
   subst hge
   have ea := mpre_all (fun s => nodeO (txtN t s)) L
   simp +decide only [hlen, ea, go_sem]
   refine Runs.ret_eq ?_
   rw [nodesO_eq, List.map_map]
   rfl
def iInAnn : Ann := [(0, [3, 7, 8, 9])]
def iInSt (L : List Int) (i : Nat) : St := ⟨[.any, .any, .any, .ms (.l 0) 0 i i, .any, .any, .any, .sl .sh (L.map intA), .v (.int .i64 L.length), .v (.int .i64 i), .any, .any, .any, .any, .any, .any, .any, .any, .any, .any], [(0, ⟨true, 3, false, mpre (fun n => nodeO (intN n)) L i⟩)], []⟩
include hm in
theorem integers (L : List Int) (h : L.length ≤ 1000000) (h4 : ∀ n ∈ L, -9223372036854775808 ≤ n ∧ n < 9223372036854775808) : Holds Tryz.prog 87 [.sl .sh (L.map intA)] [] (.sl (.ow 3) (nodesO (L.map intN))) [] := by
 refine holds_of (ann := iInAnn) tabOk hm Tryz.func87 (by kernel_rfl) rfl ?_
 simp +decide only [Tryz.f87, go_sem]
 refine Runs.while (α := Nat) (iInSt L) (fun i => L.length - i) (fun i => i ≤ L.length) 0 (by omega) ?_ ?_
 ·simp [go_sem, iInAnn, iInSt, mpre_zero]
 ·intro i hi ih
  have hlen := mpre_length (fun n => nodeO (intN n)) hi
  simp +decide only [iInSt, go_sem]
  refine Runs.split (fun h => ?_) (fun h => ?_)
  ·have hlt : i < L.length := by simpa using h
   obtain ⟨n1, n2⟩ := h4 L[i] (List.getElem_mem hlt)
   simp +decide (disch := first | omega | (simp only [ll]; omega)) only [hlen, if_pos, go_sem]
   refine Runs.call (integer hm L[i] n1 n2) ?_
   simp +decide (disch := first | omega | (simp only [ll]; omega)) only [hlen, nodeO, nodesO, if_pos, go_sem]
   refine ih (i + 1) _ (by omega) (by omega) ?_
   simp [go_sem, iInAnn, iInSt, mpre_succ _ hlt, intN, nodeO, nodesO]
  ·have hge : i = L.length := by simp at h; omega
   subst hge
   have ea := mpre_all (fun n => nodeO (intN n)) L
   simp +decide only [hlen, ea, go_sem]
   refine Runs.ret_eq ?_
   rw [nodesO_eq, List.map_map]
   rfl
include hm in
theorem cloneB (B : List Int) (h : B.length ≤ 1073741824) : Holds Tryz.prog 49 [.sl .sh (B.map u8A)] [] (.sl (.ow 1) (B.map u8A)) [] := by
 refine holds_of (ann := []) tabOk hm Tryz.func49 (by kernel_rfl) rfl ?_
 cases B with
 | nil =>
  simp +decide only [Tryz.f49, go_sem]
  refine ⟨?_, ?_⟩
  ·exact Runs.ret (.nils _ .nil) rfl
  ·exact Runs.ret_refl
 | cons b B =>
  simp only [List.length_cons] at h
  simp +decide (disch := first | omega | (simp only [ll]; omega)) only [Tryz.f49, u8A, if_pos, go_sem]
  exact Runs.ret_refl
mutual
def itemsN : Nd → List It
 | .mk t b ks => ⟨t, b, ks.length⟩ :: itemsNL ks
def itemsNL : List Nd → List It
 | [] => []
 | n :: r => itemsN n ++ itemsNL r
end
theorem itemsN_mk (t : Int) (b : List Int) (ks : List Nd) : itemsN (.mk t b ks) = ⟨t, b, ks.length⟩ :: itemsNL ks := by rw [itemsN]
theorem itemsNL_app (l m : List Nd) : itemsNL (l ++ m) = itemsNL l ++ itemsNL m := by
 induction l with
 | nil => rfl
 | cons a l ih => simp [itemsNL, ih, List.append_assoc]
def itPre (ks : List Nd) (i : Nat) : List It := itemsNL (ks.take i)
theorem itPre_zero (ks : List Nd) : itPre ks 0 = [] := rfl
theorem itPre_succ {ks : List Nd} {i : Nat} (h : i < ks.length) : itPre ks (i + 1) = itPre ks i ++ itemsN ks[i] := by
 rw [itPre, List.take_succ_eq_append_getElem h, itemsNL_app]
 simp [itPre, itemsNL]
theorem itPre_all (ks : List Nd) : itPre ks ks.length = itemsNL ks := by rw [itPre, List.take_length]
theorem itPre_le (ks : List Nd) (i : Nat) : (itPre ks i).length ≤ (itemsNL ks).length := by
 have := itemsNL_app (ks.take i) (ks.drop i)
 rw [List.take_append_drop] at this
 rw [this, itPre, List.length_append]
 omega
mutual
def szN : Nd → Nat
 | .mk _ _ ks => szNL ks + 1
def szNL : List Nd → Nat
 | [] => 0
 | n :: r => szN n + szNL r
end
theorem szN_get : ∀ {ks : List Nd} {i : Nat} (h : i < ks.length), szN ks[i] ≤ szNL ks
 | a :: ks, 0, h => by simp [szNL]
 | a :: ks, i + 1, h => by
  have := szN_get (ks := ks) (i := i) (by simpa using h)
  simp only [szNL, List.getElem_cons_succ]
  omega
theorem nodesS_get {ks : List Nd} {i : Nat} (h : i < ks.length) : (nodesS ks).getD i .any = nodeS ks[i] := by rw [nodesS_eq]; simp [List.getD, h]
mutual
def bodiesLe (m : Nat) : Nd → Prop
 | .mk _ b ks => b.length ≤ m ∧ bodiesLeL m ks
def bodiesLeL (m : Nat) : List Nd → Prop
 | [] => True
 | n :: r => bodiesLe m n ∧ bodiesLeL m r
end
theorem bodiesLe_get {m : Nat} : ∀ {ks : List Nd} {i : Nat} (h : i < ks.length), bodiesLeL m ks → bodiesLe m ks[i]
 | a :: ks, 0, h, hb => hb.1
 | a :: ks, i + 1, h, hb => by
  have := bodiesLe_get (ks := ks) (i := i) (by simpa using h) hb.2
  simpa using this
mutual
def kidsLe (m : Nat) : Nd → Prop
 | .mk _ _ ks => ks.length ≤ m ∧ kidsLeL m ks
def kidsLeL (m : Nat) : List Nd → Prop
 | [] => True
 | n :: r => kidsLe m n ∧ kidsLeL m r
end
theorem kidsLe_get {m : Nat} : ∀ {ks : List Nd} {i : Nat} (h : i < ks.length), kidsLeL m ks → kidsLe m ks[i]
 | a :: ks, 0, h, hb => hb.1
 | a :: ks, i + 1, h, hb => by
  have := kidsLe_get (ks := ks) (i := i) (by simpa using h) hb.2
  simpa using this
def itAnn : Ann := [(0, [3, 17, 18, 19])]
def itSch : Sched := .take 0 (.take 2 (.take 5 (.ld 1 (.ld 3 (.ld 6 (.take 7 (.alt 4 (.alt 8 (.alt 9 (.take 10 .fin) .nil) .nil) .nil)))))))
def itSt (t : Int) (b : List Int) (ks : List Nd) (i : Nat) : St := ⟨[.any, .any, .any, .ms (.l 0) 0 ((itPre ks i).length + 1) ((itPre ks i).length + 1), .any, .any, .any, .any, .any, .any, .any, .any, .any, .any, .any, .any, .any, .sl .sh (nodesS ks), .v (.int .i64 ks.length), .v (.int .i64 i), .any, .any, .any, .any, .any, .any, .any, .any, .any], [(0, ⟨true, 3, false, itemO ⟨t, b, ks.length⟩ :: (itPre ks i).map itemO⟩)], []⟩
attribute [local go_sem] itSch
include hm in
theorem items : ∀ (m : Nat) (n : Nd), szN n ≤ m → (itemsN n).length ≤ 100000 → bodiesLe 1073741824 n → kidsLe 1000000 n → Holds Tryz.prog 55 [nodeS n] [] (.sl (.ow 3) ((itemsN n).map itemO)) [] := by
 intro m
 induction m with
 | zero => intro n h; cases n; simp [szN] at h
 | succ m IH =>
  rintro ⟨t, b, ks⟩ hz hl hb hk
  obtain ⟨hb1, hb2⟩ := hb
  obtain ⟨hk1, hk2⟩ := hk
  simp only [szN] at hz
  simp only [itemsN, List.length_cons] at hl
  refine holds_ref (ann := itAnn) tabOk hm (byL [] [1000001]) Tryz.func55 (by kernel_rfl) rfl ?_
  simp +decide only [Tryz.f55, nodeS, go_sem]
  refine Runs.draw (st1 := ?s1) (draws_ref (ann := itAnn) tabOk (byL [] [1000001]) itSch (by kernel_rfl) ?p1) ?q1
  case p1 =>
   intro K r X hK
   simp +decide only [go_sem]
   refine Runs.call (cloneB hm b hb1) ?_
   simp +decide only [go_sem]
   exact hK
  case q1 =>
   simp +decide only [go_sem]
   refine Runs.while (α := Nat) (itSt t b ks) (fun i => ks.length - i) (fun i => i ≤ ks.length) 0 (by omega) ?_ ?_
   ·simp [go_sem, itAnn, itSt, itPre_zero, itemO]
   ·intro i hi ih
    simp +decide only [itSt, go_sem]
    refine Runs.split (fun h => ?_) (fun h => ?_)
    ·have hlt : i < ks.length := by simpa using h
     have e1 := itPre_le ks (i + 1)
     have e2 := itPre_succ hlt
     have e3 : (itPre ks (i + 1)).length = (itPre ks i).length + (itemsN ks[i]).length := by rw [e2, List.length_append]
     have e4 := szN_get hlt
     have e5 := IH ks[i] (by omega) (by omega) (bodiesLe_get hlt hb2) (kidsLe_get hlt hk2)
     have e6 := nodesS_get hlt
     have e7 : (itPre ks (i + 1)).map itemO = (itPre ks i).map itemO ++ (itemsN ks[i]).map itemO := by rw [e2, List.map_append]
     generalize ks[i] = k at e3 e5 e6 e7
     obtain ⟨t', b', ks'⟩ := k
     rw [nodeS] at e5 e6
     rw [itemsN_mk] at e3 e5 e7
     generalize (⟨t', b', ks'.length⟩ : It) = x' at e3 e5 e7
     generalize itemsNL ks' = L' at e3 e5 e7
     rw [List.map_cons] at e5 e7
     rw [List.length_cons] at e3
     simp +decide (disch := first | omega | (simp only [ll]; omega)) only [e6, if_pos, go_sem]
     refine Runs.call e5 ?_
     simp +decide (disch := first | omega | (simp only [ll]; omega)) only [if_pos, go_sem]
     refine ih (i + 1) _ (by omega) (by omega) ?_
     simp [go_sem, itAnn, itSt, e7, e3, Nat.add_assoc, Nat.add_comm, Nat.add_left_comm]
    ·have hge : i = ks.length := by simp at h; omega
     subst hge
     simp +decide only [itPre_all, go_sem]
     refine Runs.ret_eq ?_
     simp [itemsN]
end Go.Proofs.W

namespace Go.Proofs.W
open Go Go.AM
variable (hm : Tryz.prog.follows .mixedOrders = true)
def iterO (f : Nat → Option Nat) : Nat → Nat → Option Nat
 | 0, n => some n
 | k + 1, n => match f n with
  | some m => iterO f k m
  | none => none
def endP (L : List It) : Nat → Nat → Option Nat
 | 0, _ => none
 | d + 1, i => match L[i]? with
  | some x => iterO (endP L d) x.kids.toNat (i + 1)
  | none => none
def endI : Option Nat → Int
 | some n => n
 | none => -1
theorem iterO_le {f : Nat → Option Nat} {m : Nat} (hf : ∀ i n, f i = some n → i < n ∧ n ≤ m) : ∀ k i n, i ≤ m → iterO f k i = some n → i ≤ n ∧ n ≤ m
 | 0, i, n, hi, h => by simp [iterO] at h; omega
 | k + 1, i, n, hi, h => by
  simp only [iterO] at h
  cases e : f i with
  | none => rw [e] at h; simp at h
  | some j =>
   rw [e] at h
   have h1 := hf i j e
   have h2 := iterO_le hf k j n (by omega) h
   omega
theorem endP_le {L : List It} : ∀ d i n, endP L d i = some n → i < n ∧ n ≤ L.length
 | 0, i, n, h => by simp [endP] at h
 | d + 1, i, n, h => by
  simp only [endP] at h
  cases e : L[i]? with
  | none => rw [e] at h; simp at h
  | some x =>
   rw [e] at h
   have hlt : i < L.length := (List.getElem?_eq_some_iff.1 e).1
   have := iterO_le (fun i n => endP_le d i n) _ (i + 1) n (by omega) h
   omega
theorem endP_none {L : List It} {d i : Nat} (h : L.length ≤ i) : endP L d i = none := by
 cases d with
 | zero => rfl
 | succ d => rw [endP, List.getElem?_eq_none h]
theorem endP_some {L : List It} {d i : Nat} (h : i < L.length) : endP L (d + 1) i = iterO (endP L d) L[i].kids.toNat (i + 1) := by
 rw [endP, List.getElem?_eq_getElem h]
theorem getItem {L : List It} {i : Nat} (h : i < L.length) : (L.map itemS).getD i .any = .agg [.v (.int .i64 L[i].tag), .sl .sh (L[i].body.map u8A), .v (.int .i64 L[i].kids)] := by
 simp [List.getD, h, itemS]
def kidsOk (L : List It) : Prop := ∀ x ∈ L, 0 ≤ x.kids ∧ x.kids ≤ 300
def eAnn : Ann := [(0, [0, 1, 2, 7, 8])]
def eSt (L : List It) (i : Nat) (d : Nat) (p : Nat × Nat) : St := ⟨[.sl .sh (L.map itemS), .v (.int .i64 i), .v (.int .i64 d), .any, .any, .any, .any, .v (.int .i64 p.2), .v (.int .i64 p.1), .any, .any, .any, .any, .any, .any, .any, .any, .any, .any, .any, .any, .any, .any, .any, .any, .any, .any, .any, .any, .any, .any, .any, .any, .any, .any, .any], [], []⟩
set_option maxRecDepth 10000 in
include hm in
theorem l7End (L : List It) (hk : kidsOk L) (hl : L.length ≤ 1000000) : ∀ (d i e : Nat), d + e = 13 → i ≤ L.length → Holds Tryz.prog 37 [.sl .sh (L.map itemS), .v (.int .i64 i), .v (.int .i64 e)] [] (.v (.int .i64 (endI (endP L d i)))) [] := by
 intro d
 induction d with
 | zero =>
  intro i e hd hi
  have he : e = 13 := by omega
  subst he
  refine holds_of (ann := eAnn) tabOk hm Tryz.func37 (by kernel_rfl) rfl ?_
  simp +decide only [Tryz.f37, go_sem]
  refine Runs.split (fun h => ?_) (fun h => ?_)
  ·simp +decide only [go_sem]
   exact Runs.ret_v
  ·simp +decide (disch := first | omega | (simp only [ll]; omega)) only [if_pos, go_sem]
   exact Runs.ret_v
 | succ d IH =>
  intro i e hd hi
  refine holds_of (ann := eAnn) tabOk hm Tryz.func37 (by kernel_rfl) rfl ?_
  simp +decide only [Tryz.f37, go_sem]
  refine Runs.split (fun h => ?_) (fun h => ?_)
  ·have hge : L.length ≤ i := by simpa using h
   simp +decide only [endP_none hge, endI, go_sem]
   exact Runs.ret_v
  ·have hlt : i < L.length := by simpa using h
   have hd : decide ((12 : Int) < (e : Int)) = false := by simp; omega
   obtain ⟨k1, k2⟩ := hk L[i] (List.getElem_mem hlt)
   simp +decide (disch := first | omega | (simp only [ll]; omega)) only [hd, if_pos, go_sem]
   refine Runs.while (α := Nat × Nat) (eSt L i e) (fun p => 300 - p.1) (fun p => p.1 ≤ L[i].kids.toNat ∧ p.2 ≤ L.length ∧ iterO (endP L d) (L[i].kids.toNat - p.1) p.2 = endP L (d + 1) i) (0, i + 1) ⟨by omega, by omega, by rw [endP_some hlt]; rfl⟩ ?_ ?_
   ·simp [go_sem, eAnn, eSt]
   ·rintro ⟨j, n⟩ ⟨hj, hn, hr⟩ ih
    simp only at hj hn hr
    simp +decide (disch := first | omega | (simp only [ll]; omega)) only [eSt, getItem hlt, if_pos, go_sem]
    refine Runs.split (fun h => ?_) (fun h => ?_)
    ·have hjk : (j : Int) < L[i].kids := by simpa using h
     have e1 : L[i].kids.toNat - j = L[i].kids.toNat - (j + 1) + 1 := by omega
     simp +decide (disch := first | omega | (simp only [ll]; omega)) only [if_pos, go_sem]
     refine Runs.call (IH n (e + 1) (by omega) hn) ?_
     rw [e1, iterO] at hr
     cases e2 : endP L d n with
     | none =>
      rw [e2] at hr
      simp +decide only [endI, ← hr, go_sem]
      exact Runs.ret_v
     | some n' =>
      rw [e2] at hr
      have := endP_le _ _ _ e2
      simp +decide only [endI, go_sem]
      refine Runs.split (fun h => ?_) (fun h => ?_)
      ·simp at h; omega
      ·simp +decide (disch := first | omega | (simp only [ll]; omega)) only [if_pos, go_sem]
       refine ih (j + 1, n') _ (by simp only; omega) ⟨by simp only; omega, by simp only; omega, hr⟩ ?_
       simp [go_sem, eAnn, eSt]
    ·have hjk : ¬ (j : Int) < L[i].kids := by simpa using h
     have e1 : L[i].kids.toNat - j = 0 := by omega
     rw [e1, iterO] at hr
     simp +decide only [← hr, endI, go_sem]
     exact Runs.ret_v
def kAnn : Ann := [(0, [0, 1, 2, 7, 22, 23])]
def kSt (L : List It) (i : Nat) (d : Nat) (k : Int) (p : Nat × Nat) : St := ⟨[.sl .sh (L.map itemS), .v (.int .i64 i), .v (.int .i64 d), .any, .any, .any, .any, .v (.int .i64 p.2), .any, .any, .any, .any, .any, .any, .any, .any, .any, .any, .any, .any, .any, .any, .v (.int .i64 k), .v (.int .i64 p.1), .any, .any, .any, .any, .any, .any, .any, .any, .any, .any], [], []⟩
set_option maxRecDepth 10000 in
include hm in
theorem skip (L : List It) (hk : kidsOk L) (hl : L.length ≤ 1000000) : ∀ (d i e : Nat), d + e = 13 → i ≤ L.length → Holds Tryz.prog 99 [.sl .sh (L.map itemS), .v (.int .i64 i), .v (.int .i64 e)] [] (.v (.int .i64 (endI (endP L d i)))) [] := by
 intro d
 induction d with
 | zero =>
  intro i e hd hi
  have he : e = 13 := by omega
  subst he
  refine holds_of (ann := kAnn) tabOk hm Tryz.func99 (by kernel_rfl) rfl ?_
  simp +decide only [Tryz.f99, go_sem]
  refine Runs.split (fun h => ?_) (fun h => ?_)
  ·simp +decide only [go_sem]
   exact Runs.ret_v
  ·simp +decide (disch := first | omega | (simp only [ll]; omega)) only [if_pos, go_sem]
   exact Runs.ret_v
 | succ d IH =>
  intro i e hd hi
  refine holds_of (ann := kAnn) tabOk hm Tryz.func99 (by kernel_rfl) rfl ?_
  simp +decide only [Tryz.f99, go_sem]
  refine Runs.split (fun h => ?_) (fun h => ?_)
  ·have hge : L.length ≤ i := by simpa using h
   simp +decide only [endP_none hge, endI, go_sem]
   exact Runs.ret_v
  ·have hlt : i < L.length := by simpa using h
   have hd : decide ((12 : Int) < (e : Int)) = false := by simp; omega
   obtain ⟨k1, k2⟩ := hk L[i] (List.getElem_mem hlt)
   simp +decide (disch := first | omega | (simp only [ll]; omega)) only [hd, getItem hlt, if_pos, go_sem]
   refine Runs.while (α := Nat × Nat) (kSt L i e L[i].kids) (fun p => 300 - p.1) (fun p => p.1 ≤ L[i].kids.toNat ∧ p.2 ≤ L.length ∧ iterO (endP L d) (L[i].kids.toNat - p.1) p.2 = endP L (d + 1) i) (0, i + 1) ⟨by omega, by omega, by rw [endP_some hlt]; rfl⟩ ?_ ?_
   ·simp [go_sem, kAnn, kSt]
   ·rintro ⟨j, n⟩ ⟨hj, hn, hr⟩ ih
    simp only at hj hn hr
    simp +decide (disch := first | omega | (simp only [ll]; omega)) only [kSt, if_pos, go_sem]
    refine Runs.split (fun h => ?_) (fun h => ?_)
    ·have hjk : (j : Int) < L[i].kids := by simpa using h
     have e1 : L[i].kids.toNat - j = L[i].kids.toNat - (j + 1) + 1 := by omega
     simp +decide (disch := first | omega | (simp only [ll]; omega)) only [if_pos, go_sem]
     refine Runs.call (IH n (e + 1) (by omega) hn) ?_
     rw [e1, iterO] at hr
     cases e2 : endP L d n with
     | none =>
      rw [e2] at hr
      simp +decide only [endI, ← hr, go_sem]
      exact Runs.ret_v
     | some n' =>
      rw [e2] at hr
      have := endP_le _ _ _ e2
      simp +decide only [endI, go_sem]
      refine Runs.split (fun h => ?_) (fun h => ?_)
      ·simp at h; omega
      ·simp +decide (disch := first | omega | (simp only [ll]; omega)) only [if_pos, go_sem]
       refine ih (j + 1, n') _ (by simp only; omega) ⟨by simp only; omega, by simp only; omega, hr⟩ ?_
       simp [go_sem, kAnn, kSt]
    ·have hjk : ¬ (j : Int) < L[i].kids := by simpa using h
     have e1 : L[i].kids.toNat - j = 0 := by omega
     rw [e1, iterO] at hr
     simp +decide only [← hr, endI, go_sem]
     exact Runs.ret_v
end Go.Proofs.W

namespace Go.Proofs.W
open Go Go.AM
set_option maxRecDepth 10000
variable (hm : Tryz.prog.follows .mixedOrders = true)
def made (t : Int) : Bool := decide (t / 32 % 2 = 1)
def itOk (x : It) : Bool := inB x.tag 0 255 && decide (x.tag % 32 ≠ 31) && inB x.kids 0 300 && (if made x.tag then x.body.isEmpty else decide (x.kids = 0))
def treeOk (L : List It) : Bool := inB L.length 1 300 && L.all itOk && decide (endI (endP L 13 0) = L.length)
theorem bits5 : ∀ t : Fin 256, (BitVec.ofNat 64 t.val &&& BitVec.ofNat 64 31).toNat = t.val % 32 ∧ (BitVec.ofNat 64 t.val &&& BitVec.ofNat 64 32).toNat = t.val / 32 % 2 * 32 := by decide +kernel
theorem and31 {t : Int} (h1 : 0 ≤ t) (h2 : t ≤ 255) : andI .i64 t 31 = t % 32 := by
 show IntKind.i64.wrap ((BitVec.ofInt 64 t &&& BitVec.ofInt 64 31).toNat : Int) = t % 32
 obtain ⟨n, rfl⟩ := Int.eq_ofNat_of_zero_le h1
 have := (bits5 ⟨n, by omega⟩).1
 simp only [BitVec.ofInt_ofNat, BitVec.ofInt_natCast] at this ⊢
 rw [this, wrap_i64 (by omega) (by omega)]; omega
theorem and32 {t : Int} (h1 : 0 ≤ t) (h2 : t ≤ 255) : andI .i64 t 32 = t / 32 % 2 * 32 := by
 show IntKind.i64.wrap ((BitVec.ofInt 64 t &&& BitVec.ofInt 64 32).toNat : Int) = t / 32 % 2 * 32
 obtain ⟨n, rfl⟩ := Int.eq_ofNat_of_zero_le h1
 have := (bits5 ⟨n, by omega⟩).2
 simp only [BitVec.ofInt_ofNat, BitVec.ofInt_natCast] at this ⊢
 rw [this, wrap_i64 (by omega) (by omega)]; omega
include hm in
theorem isMade (t : Int) (h1 : 0 ≤ t) (h2 : t ≤ 255) : Holds Tryz.prog 73 [.v (.int .i64 t)] [] (.v (.bool (made t))) [] := by
 refine holds_of (ann := []) tabOk hm Tryz.func73 (by kernel_rfl) rfl ?_
 simp +decide (disch := first | omega | (simp only [ll]; omega)) only [Tryz.f73, and32 h1 h2, if_pos, go_sem]
 refine Runs.ret_eq ?_
 simp [made]
 by_cases h : t / 32 % 2 = 1 <;> simp [h] <;> omega
include hm in
theorem l7Made (t : Int) (h1 : 0 ≤ t) (h2 : t ≤ 255) : Holds Tryz.prog 59 [.v (.int .i64 t)] [] (.v (.bool (made t))) [] := by
 refine holds_of (ann := []) tabOk hm Tryz.func59 (by kernel_rfl) rfl ?_
 simp +decide (disch := first | omega | (simp only [ll]; omega)) only [Tryz.f59, Int.tdiv_eq_ediv_of_nonneg h1, if_pos, go_sem]
 refine Runs.ret_eq ?_
 rw [Int.tmod_eq_emod_of_nonneg (by omega)]
 simp [made]
include hm in
theorem itemOk (x : It) : Holds Tryz.prog 98 [itemS x] [] (.v (.bool (itOk x))) [] := by
 refine holds_of (ann := []) tabOk hm Tryz.func98 (by kernel_rfl) rfl ?_
 obtain ⟨t, B, k⟩ := x
 simp +decide only [Tryz.f98, itemS, go_sem]
 refine Runs.call (within hm t 0 255) ?_
 simp +decide only [go_sem]
 refine Runs.split (fun h => ?_) (fun h => ?_)
 ·have h' : inB t 0 255 = false := by simpa using h
  simp +decide only [h', go_sem]
  refine Runs.ret_eq ?_
  simp [itOk, h']
 ·have h' : inB t 0 255 = true := by simpa using h
  have h1 : 0 ≤ t ∧ t ≤ 255 := by simpa [inB] using h'
  simp +decide only [h', and31 h1.1 h1.2, go_sem]
  refine Runs.split (fun h => ?_) (fun h => ?_)
  ·have e : t % 32 = 31 := by simpa using h
   simp +decide only [e, go_sem]
   refine Runs.ret_eq ?_
   simp [itOk, e]
  ·have e : ¬ t % 32 = 31 := by simpa using h
   simp +decide only [e, go_sem]
   refine Runs.call (isMade hm t h1.1 h1.2) ?_
   simp +decide only [go_sem]
   refine Runs.split (fun h => ?_) (fun h => ?_)
   ·simp +decide only [h, go_sem]
    refine Runs.split (fun h2 => ?_) (fun h2 => ?_)
    ·have e2 : B = [] := by simpa using h2
     simp +decide only [e2, go_sem]
     refine Runs.call (within hm k 0 300) ?_
     simp +decide only [go_sem]
     refine Runs.ret_eq ?_
     simp [itOk, h', e, h]
    ·have e2 : ¬ B = [] := by simpa using h2
     simp +decide only [e2, go_sem]
     refine Runs.ret_eq ?_
     simp [itOk, h', e, h, e2]
   ·simp +decide only [h, go_sem]
    refine Runs.ret_eq ?_
    simp [itOk, h', e, h, inB]
    by_cases hk : k = 0 <;> simp [hk, h1]
include hm in
theorem treeOkF (x : It) : Holds Tryz.prog 97 [itemS x] [] (.v (.bool (!itOk x))) [] := by
 refine holds_of (ann := []) tabOk hm Tryz.func97 (by kernel_rfl) rfl ?_
 have := itemOk hm x
 obtain ⟨t, B, k⟩ := x
 rw [itemS] at this
 simp +decide only [Tryz.f97, itemS, go_sem]
 refine Runs.call this ?_
 simp +decide only [go_sem]
 exact Runs.ret_v
def firstBad : List It → Nat → Int
 | [], _ => -1
 | x :: r, i => if itOk x then firstBad r (i + 1) else i
theorem firstBad_get {L : List It} {i : Nat} (h : i < L.length) : firstBad (L.drop i) i = if itOk L[i] then firstBad (L.drop (i + 1)) (i + 1) else i := by
 rw [List.drop_eq_getElem_cons h, firstBad]
theorem firstBad_end (L : List It) (i : Nat) (h : L.length ≤ i) : firstBad (L.drop i) i = -1 := by
 rw [List.drop_eq_nil_iff.2 h, firstBad]
theorem firstBad_ge : ∀ (L : List It) (i : Nat), decide (0 ≤ firstBad L i) = !L.all itOk
 | [], i => rfl
 | x :: r, i => by
  rw [firstBad]
  by_cases h : itOk x
  ·simp [h, firstBad_ge r (i + 1)]
  ·simp [h]
def ixAnn : Ann := [(0, [0, 1, 7, 8])]
def ixSt (F : A) (L : List It) (i : Nat) : St := ⟨[.sl .sh (L.map itemS), F, .any, .any, .any, .any, .any, .v (.int .i64 L.length), .v (.int .i64 i), .any, .any, .any, .any, .any, .any, .any, .any, .any, .any], [], []⟩
include hm in
theorem indexFunc (L : List It) (hl : L.length ≤ 1000000) : Holds Tryz.prog 105 [.sl .sh (L.map itemS), .v (.func (.func 97) #[] #[])] [] (.v (.int .i64 (firstBad L 0))) [] := by
 refine holds_of (ann := ixAnn) tabOk hm Tryz.func105 (by kernel_rfl) rfl ?_
 simp +decide only [Tryz.f105, go_sem]
 refine Runs.while (α := Nat) (ixSt (.v (.func (.func 97) #[] #[])) L) (fun i => L.length - i) (fun i => i ≤ L.length ∧ firstBad (L.drop i) i = firstBad L 0) 0 ⟨by omega, rfl⟩ ?_ ?_
 ·simp [go_sem, ixAnn, ixSt]
 ·rintro i ⟨hi, hb⟩ ih
  simp +decide only [ixSt, go_sem]
  refine Runs.split (fun h => ?_) (fun h => ?_)
  ·have hlt : i < L.length := by simpa using h
   simp +decide (disch := first | omega | (simp only [ll]; omega)) only [getItem hlt, if_pos, go_sem]
   refine Runs.call (treeOkF hm L[i]) ?_
   simp +decide only [go_sem]
   rw [firstBad_get hlt] at hb
   refine Runs.split (fun h => ?_) (fun h => ?_)
   ·have hx : itOk L[i] = false := by simpa using h
    rw [hx] at hb
    simp +decide only [← hb, go_sem]
    exact Runs.ret_v
   ·have hx : itOk L[i] = true := by simpa using h
    rw [hx] at hb
    simp +decide (disch := first | omega | (simp only [ll]; omega)) only [if_pos, go_sem]
    refine ih (i + 1) _ (by omega) ⟨by omega, hb⟩ ?_
    simp [go_sem, ixAnn, ixSt]
  ·have hge : L.length ≤ i := by simpa using h
   rw [firstBad_end L i hge] at hb
   simp +decide only [← hb, go_sem]
   exact Runs.ret_v
include hm in
theorem containsFunc (L : List It) (hl : L.length ≤ 1000000) : Holds Tryz.prog 96 [.sl .sh (L.map itemS), .v (.func (.func 97) #[] #[])] [] (.v (.bool (!L.all itOk))) [] := by
 refine holds_of (ann := []) tabOk hm Tryz.func96 (by kernel_rfl) rfl ?_
 simp +decide only [Tryz.f96, go_sem]
 refine Runs.call (indexFunc hm L hl) ?_
 simp +decide only [go_sem]
 refine Runs.ret_eq ?_
 rw [← firstBad_ge L 0]
theorem kidsOk_of {L : List It} (h : L.all itOk = true) : kidsOk L := by
 intro x hx
 have := List.all_eq_true.1 h x hx
 simp [itOk, inB] at this
 omega
include hm in
theorem implTreeOk (L : List It) (hl : L.length ≤ 1000000) : Holds Tryz.prog 82 [.sl .sh (L.map itemS)] [] (.v (.bool (treeOk L))) [] := by
 refine holds_of (ann := []) tabOk hm Tryz.func82 (by kernel_rfl) rfl ?_
 simp +decide only [Tryz.f82, go_sem]
 refine Runs.call (within hm L.length 1 300) ?_
 simp +decide only [go_sem]
 refine Runs.split (fun h => ?_) (fun h => ?_)
 ·have h' : inB L.length 1 300 = false := by simpa using h
  simp +decide only [go_sem]
  refine Runs.ret_eq ?_
  simp [treeOk, h']
 ·have h' : inB L.length 1 300 = true := by simpa using h
  simp +decide only [go_sem]
  refine Runs.call (containsFunc hm L hl) ?_
  simp +decide only [go_sem]
  refine Runs.split (fun h => ?_) (fun h => ?_)
  ·have h2 : L.all itOk = false := by simpa using h
   simp +decide only [h2, go_sem]
   refine Runs.ret_eq ?_
   simp [treeOk, h', h2]
  ·have h2 : L.all itOk = true := by simpa using h
   simp +decide only [h2, go_sem]
   refine Runs.call (skip hm L (kidsOk_of h2) hl 13 0 0 (by omega) (by omega)) ?_
   simp +decide only [go_sem]
   refine Runs.ret_eq ?_
   rw [treeOk, h', h2]
   rfl
def tkAnn : Ann := [(0, [0, 3])]
def tkSt (L : List It) (i : Nat) : St := ⟨[.sl .sh (L.map itemS), .any, .any, .v (.int .i64 i), .any, .any, .any, .any, .any, .any, .any, .any, .any, .any, .any, .any, .any, .any, .any, .any, .any, .any, .any, .any, .any, .any, .any, .any, .any, .any, .any, .any, .any, .any, .any, .any, .any, .any, .any, .any, .any, .any, .any, .any, .any, .any, .any, .any, .any, .any, .any, .any, .any, .any, .any, .any, .any, .any, .any, .any, .any, .any], [], []⟩
include hm in
theorem specTreeOk (L : List It) (hl : L.length ≤ 1000000) : Holds Tryz.prog 66 [.sl .sh (L.map itemS)] [] (.v (.bool (treeOk L))) [] := by
 refine holds_of (ann := tkAnn) tabOk hm Tryz.func66 (by kernel_rfl) rfl ?_
 simp +decide only [Tryz.f66, go_sem]
 refine Runs.call (l1In hm L.length 1 300) ?_
 simp +decide only [go_sem]
 refine Runs.split (fun h => ?_) (fun h => ?_)
 ·have h' : inB L.length 1 300 = false := by simpa using h
  simp +decide only [go_sem]
  refine Runs.ret_eq ?_
  simp [treeOk, h']
 ·have h' : inB L.length 1 300 = true := by simpa using h
  simp +decide only [go_sem]
  refine Runs.while (α := Nat) (tkSt L) (fun i => L.length - i) (fun i => i ≤ L.length ∧ (L.drop i).all itOk = L.all itOk) 0 ⟨by omega, rfl⟩ ?_ ?_
  ·simp [go_sem, tkAnn, tkSt]
  ·rintro i ⟨hi, hb⟩ ih
   simp +decide only [tkSt, go_sem]
   refine Runs.split (fun h => ?_) (fun h => ?_)
   ·have hlt : i < L.length := by simpa using h
    rw [List.drop_eq_getElem_cons hlt, List.all_cons] at hb
    have eg := getItem hlt
    have bad : ∀ (h : itOk L[i] = false), false = treeOk L := by
     intro h
     rw [h] at hb
     simp [treeOk, ← hb]
    generalize L[i] = x at hb eg bad
    obtain ⟨t, B, k⟩ := x
    simp only at eg
    simp +decide (disch := first | omega | (simp only [ll]; omega)) only [eg, if_pos, go_sem]
    refine Runs.call (l1In hm t 0 255) ?_
    simp +decide only [go_sem]
    refine Runs.split (fun h => ?_) (fun h => ?_)
    ·have hx : inB t 0 255 = false := by simpa using h
     simp +decide only [hx, go_sem]
     exact Runs.ret_eq (by rw [← bad (by simp [itOk, hx])])
    ·have hx : inB t 0 255 = true := by simpa using h
     have h1 : 0 ≤ t ∧ t ≤ 255 := by simpa [inB] using hx
     simp +decide only [hx, Int.tmod_eq_emod_of_nonneg h1.1, go_sem]
     refine Runs.split (fun h => ?_) (fun h => ?_)
     ·have e : t % 32 = 31 := by simpa using h
      simp +decide only [e, go_sem]
      exact Runs.ret_eq (by rw [← bad (by simp [itOk, hx, e])])
     ·have e : ¬ t % 32 = 31 := by simpa using h
      simp +decide only [h, go_sem]
      refine Runs.call (l1In hm k 0 300) ?_
      simp +decide only [go_sem]
      refine Runs.split (fun h => ?_) (fun h => ?_)
      ·have hk : inB k 0 300 = false := by simpa using h
       simp +decide only [hk, go_sem]
       exact Runs.ret_eq (by rw [← bad (by simp [itOk, hx, e, hk])])
      ·have hk : inB k 0 300 = true := by simpa using h
       have k1 : 0 ≤ k ∧ k ≤ 300 := by simpa [inB] using hk
       simp +decide only [hk, go_sem]
       refine Runs.call (l7Made hm t h1.1 h1.2) ?_
       simp +decide only [go_sem]
       refine Runs.split (fun h => ?_) (fun h => ?_)
       ·simp +decide only [h, go_sem]
        refine Runs.split (fun h2 => ?_) (fun h2 => ?_)
        ·have hB : B ≠ [] := by rintro rfl; simp at h2
         simp +decide only [h2, go_sem]
         exact Runs.ret_eq (by rw [← bad (by simp [itOk, hx, e, hk, h, hB])])
        ·have hB : B = [] := by cases B with | nil => rfl | cons b B => simp at h2
         simp +decide only [h2, go_sem]
         refine Runs.call (l7Made hm t h1.1 h1.2) ?_
         simp +decide (disch := first | omega | (simp only [ll]; omega)) only [h, if_pos, go_sem]
         have hg : itOk ⟨t, B, k⟩ = true := by simp [itOk, hx, e, hk, h, hB]
         rw [hg, Bool.true_and] at hb
         refine ih (i + 1) _ (by omega) ⟨by omega, hb⟩ ?_
         simp [go_sem, tkAnn, tkSt]
       ·simp +decide only [h, go_sem]
        refine Runs.call (l7Made hm t h1.1 h1.2) ?_
        simp +decide only [h, go_sem]
        refine Runs.split (fun h2 => ?_) (fun h2 => ?_)
        ·have hk0 : 0 < k := by simpa using h2
         simp +decide only [h2, go_sem]
         exact Runs.ret_eq (by rw [← bad (by simp [itOk, hx, e, hk, h]; omega)])
        ·have hk0 : ¬ 0 < k := by simpa using h2
         simp +decide (disch := first | omega | (simp only [ll]; omega)) only [h2, if_pos, go_sem]
         have hg : itOk ⟨t, B, k⟩ = true := by simp [itOk, hx, e, hk, h]; omega
         rw [hg, Bool.true_and] at hb
         refine ih (i + 1) _ (by omega) ⟨by omega, hb⟩ ?_
         simp [go_sem, tkAnn, tkSt]
   ·have hge : L.length ≤ i := by simpa using h
    rw [List.drop_eq_nil_iff.2 hge] at hb
    have h2 : L.all itOk = true := hb.symm
    simp +decide only [go_sem]
    refine Runs.call (l7End hm L (kidsOk_of h2) hl 13 0 0 (by omega) (by omega)) ?_
    simp +decide only [go_sem]
    refine Runs.ret_eq ?_
    rw [treeOk, h', h2]
    rfl
end Go.Proofs.W

namespace Go.Proofs.W
open Go Go.AM
variable (hm : Tryz.prog.follows .mixedOrders = true)
def iterN (f : Nat → Nd × Nat) : Nat → Nat → List Nd × Nat
 | 0, n => ([], n)
 | k + 1, n => ((f n).1 :: (iterN f k (f n).2).1, (iterN f k (f n).2).2)
def nestP (L : List It) : Nat → Nat → Nd × Nat
 | 0, i => (.mk 0 [] [], i)
 | d + 1, i => match L[i]? with
  | some x => (.mk x.tag x.body (iterN (nestP L d) x.kids.toNat (i + 1)).1, (iterN (nestP L d) x.kids.toNat (i + 1)).2)
  | none => (.mk 0 [] [], i)
theorem nestP_get {L : List It} {d i : Nat} (h : i < L.length) : nestP L (d + 1) i = (.mk L[i].tag L[i].body (iterN (nestP L d) L[i].kids.toNat (i + 1)).1, (iterN (nestP L d) L[i].kids.toNat (i + 1)).2) := by
 rw [nestP, List.getElem?_eq_getElem h]
mutual
def enc : Nd → List Int
 | .mk t b ks => ib t :: (l7Len (b ++ encL ks).length ++ (b ++ encL ks))
def encL : List Nd → List Int
 | [] => []
 | n :: r => enc n ++ encL r
end
theorem encL_app (l m : List Nd) : encL (l ++ m) = encL l ++ encL m := by
 induction l with
 | nil => rfl
 | cons a l ih => simp [encL, ih, List.append_assoc]
theorem encL_one (n : Nd) : encL [n] = enc n := by simp [encL]
mutual
def wN : Nd → Nat
 | .mk _ b ks => b.length + 4 + wNL ks
def wNL : List Nd → Nat
 | [] => 0
 | n :: r => wN n + wNL r
end
theorem wNL_app (l m : List Nd) : wNL (l ++ m) = wNL l + wNL m := by
 induction l with
 | nil => simp [wNL]
 | cons a l ih => simp [wNL, ih]; omega
mutual
theorem enc_le : ∀ n, (enc n).length ≤ wN n
 | .mk t b ks => by
  have := encL_le ks
  have h2 := l7Len_length (b ++ encL ks).length
  simp only [enc, wN, List.length_cons, List.length_append] at h2 ⊢
  omega
theorem encL_le : ∀ l, (encL l).length ≤ wNL l
 | [] => by simp [encL, wNL]
 | n :: r => by
  have := enc_le n
  have h2 := encL_le r
  simp only [encL, wNL, List.length_append]
  omega
end
mutual
def okN : Nd → Prop
 | .mk _ b ks => (ks = [] ∨ b = []) ∧ okNL ks
def okNL : List Nd → Prop
 | [] => True
 | n :: r => okN n ∧ okNL r
end
theorem okN_get : ∀ {ks : List Nd} {i : Nat} (h : i < ks.length), okNL ks → okN ks[i]
 | a :: ks, 0, h, hb => hb.1
 | a :: ks, i + 1, h, hb => by
  have := okN_get (ks := ks) (i := i) (by simpa using h) hb.2
  simpa using this
def wI (L : List It) (i : Nat) : Nat := ((L.take i).map fun x => x.body.length + 4).sum
theorem wI_succ {L : List It} {i : Nat} (h : i < L.length) : wI L (i + 1) = wI L i + (L[i].body.length + 4) := by
 rw [wI, List.take_succ_eq_append_getElem h, List.map_append, List.sum_append]
 rw [wI, List.map_cons, List.map_nil, List.sum_cons, List.sum_nil, Nat.add_zero]
theorem sum_take_le (l : List Nat) (i : Nat) : (l.take i).sum ≤ l.sum := by
 have := congrArg List.sum (List.take_append_drop i l)
 rw [List.sum_append] at this
 omega
theorem wI_le (L : List It) (i : Nat) : wI L i ≤ wI L L.length := by
 rw [wI, wI, List.take_length, List.map_take]
 exact sum_take_le _ _
theorem iterN_wt {L : List It} {f : Nat → Nd × Nat} {g : Nat → Option Nat} (hf : ∀ i n, g i = some n → (f i).2 = n ∧ wN (f i).1 + wI L i = wI L n) :
  ∀ k i n, iterO g k i = some n → (iterN f k i).2 = n ∧ wNL (iterN f k i).1 + wI L i = wI L n ∧ (iterN f k i).1.length = k
 | 0, i, n, h => by
  simp [iterO] at h; subst h; simp [iterN, wNL]
 | k + 1, i, n, h => by
  simp only [iterO] at h
  cases e : g i with
  | none => rw [e] at h; simp at h
  | some j =>
   rw [e] at h
   obtain ⟨h1, h2⟩ := hf i j e
   have h3 := iterN_wt hf k j n h
   simp only [iterN, wNL, List.length_cons, h1]
   exact ⟨h3.1, by omega, by omega⟩
theorem nestP_wt {L : List It} : ∀ d i n, endP L d i = some n → (nestP L d i).2 = n ∧ wN (nestP L d i).1 + wI L i = wI L n
 | 0, i, n, h => by simp [endP] at h
 | d + 1, i, n, h => by
  have hlt : i < L.length := by
   rcases Nat.lt_or_ge i L.length with h1 | h1
   ·exact h1
   ·rw [endP_none h1] at h; simp at h
  rw [endP_some hlt] at h
  have := iterN_wt (L := L) (f := nestP L d) (fun i n => nestP_wt d i n) _ _ _ h
  rw [nestP_get hlt]
  simp only [wN]
  have h2 := wI_succ hlt
  refine ⟨this.1, ?_⟩
  have h3 := this.2.1
  omega
theorem iterN_ok {f : Nat → Nd × Nat} (hf : ∀ i, okN (f i).1) : ∀ k i, okNL (iterN f k i).1
 | 0, i => trivial
 | k + 1, i => ⟨hf i, iterN_ok hf k _⟩
theorem nestP_ok {L : List It} (h : L.all itOk = true) : ∀ d i, okN (nestP L d i).1
 | 0, i => ⟨.inl rfl, trivial⟩
 | d + 1, i => by
  rcases Nat.lt_or_ge i L.length with h1 | h1
  ·rw [nestP_get h1]
   refine ⟨?_, iterN_ok (fun i => nestP_ok h d i) _ _⟩
   have hx := List.all_eq_true.1 h L[i] (List.getElem_mem h1)
   simp only [itOk, Bool.and_eq_true] at hx
   obtain ⟨_, hx⟩ := hx
   by_cases hm : made L[i].tag = true
   ·rw [if_pos hm] at hx
    exact .inr (by simpa using hx)
   ·rw [if_neg hm] at hx
    refine .inl ?_
    have : L[i].kids = 0 := by simpa using hx
    rw [this]
    rfl
  ·rw [nestP, List.getElem?_eq_none h1]
   exact ⟨.inl rfl, trivial⟩
mutual
def nodeM : Nd → A
 | .mk t b ks => .agg [.v (.int .i64 t), .sl .sh (b.map u8A), .sl (.ow 3) (nodesM ks)]
def nodesM : List Nd → List A
 | [] => []
 | n :: r => nodeM n :: nodesM r
end
theorem nodesM_eq (l : List Nd) : nodesM l = l.map nodeM := by induction l with
 | nil => rfl
 | cons a l ih => simp [nodesM, ih]
theorem nodesM_length (l : List Nd) : (nodesM l).length = l.length := by rw [nodesM_eq, List.length_map]
theorem nodesM_app (l : List Nd) (n : Nd) : nodesM (l ++ [n]) = nodesM l ++ [nodeM n] := by simp [nodesM_eq]
mutual
theorem dn_nodeM : ∀ n, (nodeM n).dn = nodeS n
 | .mk t b ks => by simp [nodeM, nodeS, A.dn, dnL, dn_u8A, dn_nodesM ks]
theorem dn_nodesM : ∀ l, dnL (nodesM l) = nodesS l
 | [] => rfl
 | n :: r => by simp [nodesM, nodesS, dnL, dn_nodeM n, dn_nodesM r]
end
theorem tk_nodesM (l : List Nd) : List.take l.length (nodesM l) = nodesM l := by rw [← nodesM_length, List.take_length]
theorem own_ow {k : Nat} : (Sh.ow k).own = true := rfl
theorem own_sh : Sh.sh.own = false := rfl
attribute [go_sem] own_ow own_sh tk_nodesM nodesM_length dn_nodeM dn_nodesM
def nsAnn : Ann := [(0, [0, 4, 6, 7, 26, 27])]
def nsSch : Sched := .take 0 (.take 1 (.take 2 (.take 3 (.take 5 (.take 6 (.take 7 (.take 8 (.ld 4 (.ld 9 (.alt 10 (.alt 11 (.alt 12 .fin .nil) .nil) (.alt 11 (.alt 10 (.alt 12 .fin .nil) .nil) .nil)))))))))))
def nsSt (L : List It) (t : Int) (b : List Int) (k : Int) (p : List Nd × Nat) : St := match p.1 with
 | [] => ⟨[.sl .sh (L.map itemS), .any, .any, .any, .ref (.l 0) 0 0 1, .any, .ref (.l 1) 0 0 1, .v (.int .i64 p.2), .any, .any, .any, .any, .any, .any, .any, .any, .any, .any, .any, .any, .any, .any, .any, .any, .any, .any, .v (.int .i64 k), .v (.int .i64 0), .any, .any, .any, .any, .any, .any, .any, .any, .any, .any, .any, .any, .any, .any, .any, .any, .any], [(0, ⟨true, 3, true, [.agg [.v (.int .i64 0), .v (.slice none 0 0), .v (.slice none 0 0)]]⟩), (1, ⟨true, 3, true, [.agg [.v (.int .i64 t), .sl .sh (b.map u8A), .v (.slice none 0 0)]]⟩)], []⟩
 | x :: r => ⟨[.sl .sh (L.map itemS), .any, .any, .any, .ref (.l 0) 0 0 1, .any, .ref (.l 1) 0 0 1, .v (.int .i64 p.2), .any, .any, .any, .any, .any, .any, .any, .any, .any, .any, .any, .any, .any, .any, .any, .any, .any, .any, .v (.int .i64 k), .v (.int .i64 (r.length + 1)), .any, .any, .any, .any, .any, .any, .any, .any, .any, .any, .any, .any, .any, .any, .any, .any, .any], [(0, ⟨true, 3, true, [.agg [.v (.int .i64 0), .v (.slice none 0 0), .v (.slice none 0 0)]]⟩), (1, ⟨true, 3, true, [.agg [.v (.int .i64 t), .sl .sh (b.map u8A), .ms (.l 2) 0 (r.length + 1) (r.length + 1)]]⟩), (2, ⟨true, 3, false, nodesM (x :: r)⟩)], []⟩
attribute [local go_sem] nsSch
set_option maxRecDepth 10000 in
set_option maxHeartbeats 2000000 in
include hm in
theorem nested (L : List It) (hk : kidsOk L) (hl : L.length ≤ 1000000) : ∀ (d i n : Nat), endP L d i = some n → Holds Tryz.prog 21 [.sl .sh (L.map itemS), .v (.int .i64 i)] [] (.tup [nodeM (nestP L d i).1, .v (.int .i64 (nestP L d i).2)]) [] := by
 intro d
 induction d with
 | zero => intro i n h; simp [endP] at h
 | succ d IH =>
  intro i n he
  have hlt : i < L.length := by
   rcases Nat.lt_or_ge i L.length with h1 | h1
   ·exact h1
   ·rw [endP_none h1] at he; simp at he
  obtain ⟨k1, k2⟩ := hk L[i] (List.getElem_mem hlt)
  have hg := getItem hlt
  rw [endP_some hlt] at he
  rw [nestP_get hlt]
  generalize L[i] = x at k1 k2 hg he
  obtain ⟨t, b, k⟩ := x
  simp only at k1 k2 hg he ⊢
  refine holds_of (ann := nsAnn) tabOk hm Tryz.func21 (by kernel_rfl) rfl ?_
  simp +decide (disch := first | omega | (simp only [ll]; omega)) only [Tryz.f21, if_pos, go_sem]
  refine Runs.draw (st1 := ?s1) (draws_by (ann := nsAnn) tabOk nsSch (by kernel_rfl) ?p1) ?q1
  case p1 =>
   intro K r X hK
   simp +decide (disch := first | omega | (simp only [ll]; omega)) only [hg, if_pos, go_sem]
   exact hK
  case q1 =>
   simp +decide (disch := first | omega | (simp only [ll]; omega)) only [hg, if_pos, go_sem]
   generalize eq : iterN (nestP L d) k.toNat (i + 1) = q
   refine Runs.while (α := List Nd × Nat) (nsSt L t b k) (fun p => k.toNat - p.1.length) (fun p => p.1.length ≤ k.toNat ∧ p.2 ≤ L.length ∧ iterO (endP L d) (k.toNat - p.1.length) p.2 = some n ∧ q = (p.1 ++ (iterN (nestP L d) (k.toNat - p.1.length) p.2).1, (iterN (nestP L d) (k.toNat - p.1.length) p.2).2)) ([], i + 1) ⟨by simp, by simp only; omega, he, by simp [eq]⟩ ?_ ?_
   ·simp [go_sem, nsAnn, nsSt]
   ·rintro ⟨acc, m⟩ ⟨ha, hm1, ho, hq⟩ ih
    simp only at ha hm1 ho hq
    cases acc with
    | nil =>
     simp +decide only [nsSt, go_sem]
     refine Runs.split (fun h => ?_) (fun h => ?_)
     ·have hj : 0 < k := by simpa using h
      rw [show k.toNat - ([] : List Nd).length = (k.toNat - 1) + 1 by simp; omega, iterO] at ho
      rw [show k.toNat - ([] : List Nd).length = (k.toNat - 1) + 1 by simp; omega, iterN] at hq
      cases e : endP L d m with
      | none => rw [e] at ho; simp at ho
      | some m2 =>
       rw [e] at ho
       have hc := IH m m2 e
       have hw := (nestP_wt d m m2 e).1
       have hle := endP_le _ _ _ e
       rw [hw] at hc hq
       generalize (nestP L d m).1 = nd at hc hq
       obtain ⟨t', b', ks'⟩ := nd
       rw [nodeM] at hc
       simp +decide (disch := first | omega | (simp only [ll]; omega)) only [if_pos, go_sem]
       refine Runs.call hc ?_
       simp +decide (maxSteps := 9^7) (disch := first | omega | (simp only [ll]; omega)) only [if_pos, go_sem]
       refine ih ([.mk t' b' ks'], m2) _ (by simp; omega) ⟨by simp; omega, by simp only; omega, by simpa using ho, by simpa using hq⟩ ?_
       simp [go_sem, nsAnn, nsSt, nodesM, nodeM]
     ·have hj : ¬ 0 < k := by simpa using h
      rw [show k.toNat - ([] : List Nd).length = 0 by simp; omega, iterN] at hq
      simp +decide only [go_sem]
      subst hq
      refine Runs.ret ?_ rfl
      simp only [List.append_nil, nodeM, nodesM]
      exact .tup (.agg (.same _ (.same _ (.nils _ .nil))) (.same _ .nil)) .nil
    | cons x r =>
     simp only [List.length_cons] at ha ho hq
     have hw1 : IntKind.i64.wrap ((r.length : Int) + 1 + 1) = (r.length : Int) + 1 + 1 := wrap_i64 (by omega) (by omega)
     simp +decide only [nsSt, go_sem]
     refine Runs.split (fun h => ?_) (fun h => ?_)
     ·have hj : (r.length : Int) + 1 < k := by simpa using h
      rw [show k.toNat - (r.length + 1) = (k.toNat - (r.length + 1) - 1) + 1 by omega, iterO] at ho
      rw [show k.toNat - (r.length + 1) = (k.toNat - (r.length + 1) - 1) + 1 by omega, iterN] at hq
      cases e : endP L d m with
      | none => rw [e] at ho; simp at ho
      | some m2 =>
       rw [e] at ho
       have hc := IH m m2 e
       have hw := (nestP_wt d m m2 e).1
       have hle := endP_le _ _ _ e
       rw [hw] at hc hq
       generalize (nestP L d m).1 = nd at hc hq
       obtain ⟨t', b', ks'⟩ := nd
       rw [nodeM] at hc
       simp +decide (disch := first | omega | (simp only [ll]; omega)) only [if_pos, go_sem]
       refine Runs.call hc ?_
       simp +decide (maxSteps := 9^7) (disch := first | omega | (simp only [ll]; omega)) only [if_pos, go_sem]
       refine ih (x :: r ++ [.mk t' b' ks'], m2) _ (by simp; omega) ⟨by simp; omega, by simp only; omega, ?_, ?_⟩ ?_
       ·simp only [List.length_append, List.length_cons, List.length_nil, List.cons_append]
        rw [← ho, show k.toNat - (r.length + (0 + 1) + 1) = k.toNat - (r.length + 1) - 1 by omega]
       ·simp only [List.length_append, List.length_cons, List.length_nil, List.cons_append, List.append_assoc, List.nil_append]
        rw [hq, show k.toNat - (r.length + (0 + 1) + 1) = k.toNat - (r.length + 1) - 1 by omega]
        simp
       ·simp [go_sem, nsAnn, nsSt, nodesM, nodeM, nodesM_app, hw1]
     ·have hj : ¬ (r.length : Int) + 1 < k := by simpa using h
      rw [show k.toNat - (r.length + 1) = 0 by omega, iterN] at hq
      simp +decide (disch := first | omega | (simp only [ll]; omega)) only [if_pos, go_sem]
      subst hq
      refine Runs.ret_eq ?_
      simp only [List.append_nil, nodeM]
      rw [show r.length + 1 = (x :: r).length from rfl, tk_nodesM]
end Go.Proofs.W

namespace Go.Proofs.W
open Go Go.AM
def bt (b : List Int) (i : Nat) : Int := b.getD i 0
def szV (b : List Int) (a : Nat) : Int := if bt b a = 130 then bt b (a + 1) * 256 + bt b (a + 2) else bt b (a + 1)
def szP (b : List Int) (a e : Nat) : Nat × Nat × Int :=
 if e ≤ a then (0, a, 2)
 else if bt b a < 128 then ((bt b a).toNat, a + 1, 0)
 else if bt b a = 128 ∨ 130 < bt b a then (0, a, 4)
 else if e ≤ a + (bt b a - 128).toNat then (0, a, 2)
 else if szV b a < 128 ∨ (bt b a = 130 ∧ szV b a < 256) then (0, a, 4)
 else ((szV b a).toNat, a + 1 + (bt b a - 128).toNat, 0)
inductive Hd where
 | bad (c : Int) (q : Nat)
 | ok (f n : Nat)
def hdP (b : List Int) (d p e : Nat) : Hd :=
 if e ≤ p then .bad 2 p
 else if bt b p % 32 = 31 then .bad 3 p
 else if d = 0 then .bad 6 p
 else if (szP b (p + 1) e).2.2 = 2 then .bad 2 p
 else if (szP b (p + 1) e).2.2 = 4 then .bad 4 (p + 1)
 else if e < (szP b (p + 1) e).2.1 + (szP b (p + 1) e).1 then .bad 2 p
 else .ok (szP b (p + 1) e).2.1 (szP b (p + 1) e).1
structure RR where
 items : List It
 code : Int
 place : Int
 next : Nat
def loopM (f : Nat → RR) (e : Nat) : Nat → Nat → Nat → List It → Nat × RR
 | 0, p, j, M => (j, ⟨M, 0, 0, e⟩)
 | k + 1, p, j, M => if p < e then (if (f p).code = 0 then loopM f e k (f p).next (j + 1) (M ++ (f p).items) else (j, ⟨M ++ (f p).items, (f p).code, (f p).place, (f p).next⟩)) else (j, ⟨M, 0, 0, e⟩)
def sliceB (b : List Int) (f n : Nat) : List Int := (b.drop f).take n
def rdM (b : List Int) : Nat → Nat → Nat → RR
 | 0, p, e => match hdP b 0 p e with
  | .bad c q => ⟨[], c, q, p⟩
  | .ok _ _ => ⟨[], 2, 0, p⟩
 | d + 1, p, e => match hdP b (d + 1) p e with
  | .bad c q => ⟨[], c, q, p⟩
  | .ok f n => if made (bt b p) = true then
    ⟨⟨bt b p, [], (loopM (fun q => rdM b d q (f + n)) (f + n) n f 0 []).1⟩ :: (loopM (fun q => rdM b d q (f + n)) (f + n) n f 0 []).2.items, (loopM (fun q => rdM b d q (f + n)) (f + n) n f 0 []).2.code, (loopM (fun q => rdM b d q (f + n)) (f + n) n f 0 []).2.place, (loopM (fun q => rdM b d q (f + n)) (f + n) n f 0 []).2.next⟩
   else ⟨[⟨bt b p, sliceB b f n, 0⟩], 0, 0, f + n⟩
def BytesOk (b : List Int) : Prop := ∀ x ∈ b, 0 ≤ x ∧ x < 256
theorem bt_rng {b : List Int} (h : BytesOk b) (i : Nat) : 0 ≤ bt b i ∧ bt b i < 256 := by
 unfold bt
 by_cases hl : i < b.length
 ·have := h b[i] (List.getElem_mem hl)
  simpa [List.getD, hl] using this
 ·simp [List.getD, hl]
theorem szV_rng {b : List Int} (h : BytesOk b) (a : Nat) : 0 ≤ szV b a ∧ szV b a < 65536 := by
 have h1 := bt_rng h (a + 1)
 have h2 := bt_rng h (a + 2)
 unfold szV
 split <;> omega
theorem szP_le {b : List Int} (h : BytesOk b) (a e : Nat) : (szP b a e).1 < 65536 ∧ a ≤ (szP b a e).2.1 ∧ (szP b a e).2.1 ≤ a + 128 ∧ ((szP b a e).2.2 = 0 ∨ (szP b a e).2.2 = 2 ∨ (szP b a e).2.2 = 4) ∧ ((szP b a e).2.2 = 0 → a < e ∧ a + 1 ≤ (szP b a e).2.1) := by
 have h1 := bt_rng h a
 have h2 := szV_rng h a
 unfold szP
 split
 ·simp
 split
 ·simp; omega
 split
 ·simp
 split
 ·simp
 split
 ·simp
 ·simp; omega
theorem hd_ok {b : List Int} (h : BytesOk b) {d p e f n : Nat} (hh : hdP b d p e = .ok f n) : p < e ∧ p + 2 ≤ f ∧ f + n ≤ e ∧ n < 65536 ∧ d ≠ 0 ∧ f = (szP b (p + 1) e).2.1 ∧ n = (szP b (p + 1) e).1 ∧ bt b p % 32 ≠ 31 ∧ (szP b (p + 1) e).2.2 = 0 := by
 have hs := szP_le h (p + 1) e
 unfold hdP at hh
 split at hh
 ·simp at hh
 split at hh
 ·simp at hh
 split at hh
 ·simp at hh
 split at hh
 ·simp at hh
 split at hh
 ·simp at hh
 split at hh
 ·simp at hh
 ·rename_i c1 c2 c3 c4 c5 c6
  simp only [Hd.ok.injEq] at hh
  obtain ⟨rfl, rfl⟩ := hh
  have h0 : (szP b (p + 1) e).2.2 = 0 := by omega
  have := hs.2.2.2.2 h0
  exact ⟨by omega, by omega, by omega, hs.1, c3, rfl, rfl, c2, h0⟩
theorem hd_bad {b : List Int} {d p e : Nat} {c : Int} {q : Nat} (hh : hdP b d p e = .bad c q) : c ≠ 0 ∧ q ≤ p + 1 ∧ 0 ≤ c ∧ c ≤ 6 := by
 unfold hdP at hh
 repeat' split at hh
 all_goals first
  | (simp only [Hd.bad.injEq] at hh; obtain ⟨rfl, rfl⟩ := hh; omega)
  | simp at hh
def RdOk (p e : Nat) (r : RR) : Prop := r.items.length ≤ e - p ∧ (r.code = 0 → p < r.next ∧ r.next ≤ e ∧ r.items.length ≤ r.next - p ∧ 0 < r.items.length)
theorem loopM_ok {f : Nat → RR} {e : Nat} (hf : ∀ p, p < e → RdOk p e (f p)) : ∀ (k p j : Nat) (M : List It), e - p ≤ k → p ≤ e → (loopM f e k p j M).2.items.length ≤ M.length + (e - p) ∧ (loopM f e k p j M).2.items.length + j ≤ M.length + (e - p) + (loopM f e k p j M).1 + j ∧ ((loopM f e k p j M).2.code = 0 → (loopM f e k p j M).2.next = e)
 | 0, p, j, M, h1, h2 => by simp [loopM]; omega
 | k + 1, p, j, M, h1, h2 => by
  unfold loopM
  split
  ·rename_i hp
   obtain ⟨r1, r2⟩ := hf p hp
   split
   ·rename_i hc
    obtain ⟨r3, r4, r5, r6⟩ := r2 hc
    have := loopM_ok hf k (f p).next (j + 1) (M ++ (f p).items) (by omega) r4
    rw [List.length_append] at this
    refine ⟨by omega, by omega, this.2.2⟩
   ·rename_i hc
    simp only [List.length_append]
    exact ⟨by omega, by omega, fun h => absurd h hc⟩
  ·simp; omega
theorem rdM_ok {b : List Int} (h : BytesOk b) : ∀ d p e, RdOk p e (rdM b d p e)
 | 0, p, e => by
  unfold rdM
  split
  ·rename_i c q hh
   exact ⟨by simp, fun hc => absurd hc (hd_bad hh).1⟩
  ·rename_i f n hh
   exact absurd rfl (hd_ok h hh).2.2.2.2.1
 | d + 1, p, e => by
  unfold rdM
  split
  ·rename_i c q hh
   exact ⟨by simp, fun hc => absurd hc (hd_bad hh).1⟩
  ·rename_i f n hh
   obtain ⟨a1, a2, a3, a4, _⟩ := hd_ok h hh
   split
   ·have := loopM_ok (f := fun q => rdM b d q (f + n)) (e := f + n) (fun q hq => rdM_ok h d q (f + n)) n f 0 [] (by omega) (by omega)
    simp only [List.length_nil, Nat.zero_add] at this
    refine ⟨by simp only [List.length_cons]; omega, fun hc => ?_⟩
    have hn := this.2.2 hc
    simp only [List.length_cons]
    exact ⟨by omega, by omega, by omega, by omega⟩
   ·exact ⟨by simp; omega, fun _ => ⟨by simp only; omega, by simp only; omega, by simp; omega, by simp⟩⟩
theorem bt_get {b : List Int} {i : Nat} (h : i < b.length) : (b.map u8A).getD i .any = .v (.int .u8 (bt b i)) := by simp [List.getD, h, u8A, bt]
theorem slice_map {b : List Int} {f n : Nat} : ((b.map u8A).take (f + n)).drop f = (sliceB b f n).map u8A := by
 rw [sliceB, ← List.map_take, ← List.map_drop, List.drop_take, Nat.add_sub_cancel_left]
theorem sliceB_len (b : List Int) (f n : Nat) : (sliceB b f n).length ≤ n := by simp [sliceB]; omega
theorem mid_get {L M : List It} {x : It} : ((L ++ x :: M).map itemO).getD L.length .any = itemO x := by
 simp [List.getD]
theorem mid_set {L M : List It} {x y : It} : ((L ++ x :: M).map itemO).set L.length (itemO y) = (L ++ y :: M).map itemO := by
 simp [List.set_append_right]
end Go.Proofs.W

namespace Go.Proofs.W
open Go Go.AM
variable (hm : Tryz.prog.follows .mixedOrders = true)
theorem bytePos {n : Nat} : IntKind.u8.wrap (n : Int) = ib n := rfl
def lwAnn : Ann := [(0, [0, 1, 6, 7, 8])]
def lwSch : Sched := .take 0 (.take 1 (.take 2 (.take 3 (.take 7 (.take 8 (.ld 4 (.alt 5 (.alt 6 (.alt 9 (.alt 10 (.take 11 .fin) .nil) .nil) (.alt 9 (.alt 6 (.alt 10 (.take 11 .fin) .nil) .nil) .nil)) (.alt 9 (.alt 5 (.alt 6 (.alt 10 (.take 11 .fin) .nil) .nil) .nil) .nil))))))))
def lwSt (L : List It) (i : Nat) (b : List Int) (p : List Nd × Nat) : St := ⟨[.sl .sh (L.map itemS), .v (.int .i64 i), .any, .any, .any, .any, .ms (.l 0) 0 (b ++ encL p.1).length (b ++ encL p.1).length, .v (.int .i64 p.2), .v (.int .i64 p.1.length), .any, .any, .any, .any, .any, .any, .any, .any, .any, .any, .any, .any, .any, .any, .any, .any, .any, .any, .any, .any, .any, .any, .any, .any, .any, .any, .any, .any, .any, .any, .any, .any, .any, .any, .any, .any, .any, .any, .any, .any, .any, .any, .any, .any, .any], [(0, ⟨true, 1, false, (b ++ encL p.1).map u8A⟩)], []⟩
attribute [local go_sem] lwSch
set_option maxRecDepth 10000 in
set_option maxHeartbeats 2000000 in
include hm in
theorem l7Write (L : List It) (hk : kidsOk L) (hl : L.length ≤ 1000000) (hwl : wI L L.length ≤ 1000000) : ∀ (d i n : Nat), endP L d i = some n → Holds Tryz.prog 67 [.sl .sh (L.map itemS), .v (.int .i64 i)] [] (.tup [.sl (.ow 1) ((enc (nestP L d i).1).map u8A), .v (.int .i64 (nestP L d i).2)]) [] := by
 intro d
 induction d with
 | zero => intro i n h; simp [endP] at h
 | succ d IH =>
  intro i n he
  have hlt : i < L.length := by
   rcases Nat.lt_or_ge i L.length with h1 | h1
   ·exact h1
   ·rw [endP_none h1] at he; simp at he
  obtain ⟨k1, k2⟩ := hk L[i] (List.getElem_mem hlt)
  have hg := getItem hlt
  have hwt := (nestP_wt (d + 1) i n he).2
  have hwn := wI_le L n
  rw [endP_some hlt] at he
  rw [nestP_get hlt] at hwt ⊢
  generalize L[i] = x at k1 k2 hg he hwt
  obtain ⟨t, b, k⟩ := x
  simp only [wN] at k1 k2 hg he hwt ⊢
  refine holds_of (ann := lwAnn) tabOk hm Tryz.func67 (by kernel_rfl) rfl ?_
  simp +decide (disch := first | omega | (simp only [ll]; omega)) only [Tryz.f67, hg, if_pos, go_sem]
  refine Runs.call (l1Bytes hm b (by omega)) ?_
  simp +decide (disch := first | omega | (simp only [ll]; omega)) only [if_pos, go_sem]
  generalize eq : iterN (nestP L d) k.toNat (i + 1) = q at hwt
  refine Runs.while (α := List Nd × Nat) (lwSt L i b) (fun p => k.toNat - p.1.length) (fun p => p.1.length ≤ k.toNat ∧ p.2 ≤ L.length ∧ iterO (endP L d) (k.toNat - p.1.length) p.2 = some n ∧ q = (p.1 ++ (iterN (nestP L d) (k.toNat - p.1.length) p.2).1, (iterN (nestP L d) (k.toNat - p.1.length) p.2).2)) ([], i + 1) ⟨by simp, by simp only; omega, he, by simp [eq]⟩ ?_ ?_
  ·simp [go_sem, lwAnn, lwSt, encL]
  ·rintro ⟨acc, m⟩ ⟨ha, hm1, ho, hq⟩ ih
   simp only at ha hm1 ho hq
   have hqw : wNL q.1 = wNL acc + wNL (iterN (nestP L d) (k.toNat - acc.length) m).1 := by rw [hq, wNL_app]
   have hacc := encL_le acc
   have hlen : (b ++ encL acc).length = b.length + (encL acc).length := List.length_append
   simp +decide (disch := first | omega | (simp only [ll]; omega)) only [lwSt, hg, if_pos, go_sem]
   refine Runs.split (fun h => ?_) (fun h => ?_)
   ·have hj : (acc.length : Int) < k := by simpa using h
    rw [show k.toNat - acc.length = (k.toNat - acc.length - 1) + 1 by omega, iterO] at ho
    rw [show k.toNat - acc.length = (k.toNat - acc.length - 1) + 1 by omega, iterN] at hq hqw
    cases e : endP L d m with
    | none => rw [e] at ho; simp at ho
    | some m2 =>
     rw [e] at ho
     have hc := IH m m2 e
     have hw := (nestP_wt d m m2 e).1
     have hle := endP_le _ _ _ e
     rw [hw] at hc hq
     simp only [wNL] at hqw
     generalize (nestP L d m).1 = nd at hc hq hqw
     have hnd := enc_le nd
     simp +decide (disch := first | omega | (simp only [ll]; omega)) only [if_pos, go_sem]
     refine Runs.call hc ?_
     simp +decide (maxSteps := 9^7) (disch := first | omega | (simp only [ll]; omega)) only [hlen, if_pos, go_sem]
     refine ih (acc ++ [nd], m2) _ (by simp; omega) ⟨by simp; omega, by simp only; omega, ?_, ?_⟩ ?_
     ·simp only [List.length_append, List.length_cons, List.length_nil]
      rw [← ho, show k.toNat - (acc.length + (0 + 1)) = k.toNat - acc.length - 1 by omega]
     ·simp only [List.length_append, List.length_cons, List.length_nil, List.append_assoc]
      rw [hq, show k.toNat - (acc.length + (0 + 1)) = k.toNat - acc.length - 1 by omega]
      simp
     ·simp [go_sem, lwAnn, lwSt, encL_app, encL_one, Nat.add_assoc]
   ·have hj : ¬ (acc.length : Int) < k := by simpa using h
    rw [show k.toNat - acc.length = 0 by omega, iterN, List.append_nil] at hq
    subst hq
    have h7 := l7Len_length (b ++ encL acc).length
    have h8 := l7Len_length (b.length + (encL acc).length)
    simp only at hwt hqw
    simp +decide only [go_sem]
    refine Runs.draw (st1 := ?s1) (draws_by (ann := lwAnn) tabOk lwSch (by kernel_rfl) ?p1) ?q1
    case p1 =>
     intro K r X hK
     have h7L := l7Length hm (b ++ encL acc).length (by omega)
     simp +decide (disch := first | omega | (simp only [ll]; omega)) only [hg, if_pos, go_sem]
     repeat' apply And.intro
     all_goals
      refine Runs.call h7L ?_
      simp +decide (disch := first | omega | (simp only [ll]; omega)) only [hlen, if_pos, go_sem]
      exact hK
    case q1 =>
     simp +decide (disch := first | omega | (simp only [ll]; omega)) only [hlen, if_pos, go_sem]
     refine Runs.ret_eq ?_
     simp [enc, ib, u8A]
end Go.Proofs.W

namespace Go.Proofs.W
open Go Go.AM
variable (hm : Tryz.prog.follows .mixedOrders = true)
theorem wNL_take (l : List Nd) (i : Nat) : wNL (l.take i) ≤ wNL l := by
 have := wNL_app (l.take i) (l.drop i)
 rw [List.take_append_drop] at this
 omega
theorem wN_get {ks : List Nd} {i : Nat} (h : i < ks.length) : wN ks[i] ≤ wNL ks := by
 have h1 := wNL_take ks (i + 1)
 rw [List.take_succ_eq_append_getElem h, wNL_app] at h1
 simp only [wNL] at h1
 omega
def byAnn : Ann := [(0, [1, 3, 11, 12, 13])]
def bySch : Sched := .take 0 (.take 1 (.take 2 (.take 3 (.take 4 (.alt 5 (.alt 6 (.alt 7 (.alt 8 (.take 9 .fin) .nil) .nil) .nil) (.alt 6 (.alt 5 (.alt 7 (.alt 8 (.take 9 .fin) .nil) .nil) (.alt 7 (.alt 5 (.alt 8 (.take 9 .fin) .nil) .nil) .nil)) .nil))))))
def bySt (t : Int) (b : List Int) (ks : List Nd) : Nat → St
 | 0 => ⟨[.any, .ptr [.agg [.v (.int .i64 t), .sl .sh (b.map u8A), .sl .sh (nodesS ks)]] 0 0, .any, .sl .sh (b.map u8A), .any, .any, .any, .any, .any, .any, .any, .sl .sh (nodesS ks), .v (.int .i64 ks.length), .v (.int .i64 0), .any, .any, .any, .any, .any, .any, .any, .any, .any, .any, .any, .any, .any, .any, .any, .any, .any, .any, .any, .any, .any, .any, .any, .any, .any, .any, .any, .any, .any, .any, .any, .any, .any, .any, .any, .any, .any, .any, .any, .any, .any, .any, .any, .any, .any, .any], [], []⟩
 | i + 1 => ⟨[.any, .ptr [.agg [.v (.int .i64 t), .sl .sh (b.map u8A), .sl .sh (nodesS ks)]] 0 0, .any, .ms (.l 0) 0 (encL (ks.take (i + 1))).length (encL (ks.take (i + 1))).length, .any, .any, .any, .any, .any, .any, .any, .sl .sh (nodesS ks), .v (.int .i64 ks.length), .v (.int .i64 (i + 1 : Nat)), .any, .any, .any, .any, .any, .any, .any, .any, .any, .any, .any, .any, .any, .any, .any, .any, .any, .any, .any, .any, .any, .any, .any, .any, .any, .any, .any, .any, .any, .any, .any, .any, .any, .any, .any, .any, .any, .any, .any, .any, .any, .any, .any, .any, .any, .any], [(0, ⟨true, 1, false, (encL (ks.take (i + 1))).map u8A⟩)], []⟩
attribute [local go_sem] bySch
set_option maxRecDepth 10000 in
set_option maxHeartbeats 2000000 in
include hm in
theorem bytes : ∀ (m : Nat) (n : Nd), szN n ≤ m → okN n → wN n ≤ 1000000 → kidsLe 1000000 n → Holds Tryz.prog 83 [nodeS n] [] (.sl (.ow 1) ((enc n).map u8A)) [] := by
 intro m
 induction m with
 | zero => intro n h; cases n; simp [szN] at h
 | succ m IH =>
  rintro ⟨t, b, ks⟩ hz ⟨hk1, hk2⟩ hw ⟨hl1, hl2⟩
  simp only [szN] at hz
  simp only [wN] at hw
  refine holds_ref (ann := byAnn) tabOk hm (byL [] [1000001]) Tryz.func83 (by kernel_rfl) rfl ?_
  simp +decide only [Tryz.f83, nodeS, go_sem]
  refine Runs.while (α := Nat) (bySt t b ks) (fun i => ks.length - i) (fun i => i ≤ ks.length) 0 (by omega) ?_ ?_
  ·simp [go_sem, byAnn, bySt]
  ·intro i hi ih
   cases i with
   | zero =>
    cases ks with
    | nil =>
     simp +decide (disch := first | omega | (simp only [ll]; omega)) only [bySt, nodesS, if_pos, go_sem]
     have hB : b.length ≤ 1000000 := by omega
     refine Runs.split (fun h1 => ?_) (fun h1 => ?_)
     ·simp only [decide_eq_true_eq] at h1
      have w8 : IntKind.u8.wrap ((b.length : Nat) : Int) = (b.length : Nat) := wrap_u8 (by omega) (by omega)
      have e7 : l7Len b.length = [ib b.length] := by rw [l7Len, if_pos (by omega)]
      simp +decide (disch := first | omega | (simp only [ll]; omega)) only [if_pos, go_sem]
      refine Runs.ret_eq ?_
      simp [enc, encL, e7, ib, u8A, w8]
     ·simp only [decide_eq_false_iff_not] at h1
      simp +decide only [go_sem]
      refine Runs.split (fun h2 => ?_) (fun h2 => ?_)
      ·simp only [decide_eq_true_eq] at h2
       have w8 : IntKind.u8.wrap ((b.length : Nat) : Int) = (b.length : Nat) := wrap_u8 (by omega) (by omega)
       have e7 : l7Len b.length = [129, ib b.length] := by rw [l7Len, if_neg (by omega), if_pos (by omega)]
       simp +decide (disch := first | omega | (simp only [ll]; omega)) only [if_pos, go_sem]
       refine Runs.ret_eq ?_
       simp [enc, encL, e7, ib, u8A, w8]
      ·simp only [decide_eq_false_iff_not] at h2
       have e7 : l7Len b.length = [130, ib (b.length / 256 : Nat), ib b.length] := by rw [l7Len, if_neg (by omega), if_neg (by omega)]
       simp +decide (disch := first | omega | (simp only [ll]; omega)) only [shr8n, if_pos, go_sem]
       refine Runs.ret_eq ?_
       simp [enc, encL, e7, ib, u8A]
    | cons k0 ks0 =>
     have hb : b = [] := by simpa using hk1
     have hlt : 0 < (k0 :: ks0).length := by simp
     subst hb
     generalize k0 :: ks0 = ks at *
     have e5 := IH ks[0] (by have := szN_get hlt; omega) (okN_get hlt hk2) (by have := wN_get hlt; omega) (kidsLe_get hlt hl2)
     have e6 := nodesS_get hlt
     have e8 := enc_le ks[0]
     have e9 := wN_get hlt
     have e10 : encL (ks.take 1) = enc ks[0] := by rw [List.take_succ_eq_append_getElem hlt]; simp [encL]
     generalize ks[0] = k at *
     obtain ⟨t', b', ks'⟩ := k
     rw [nodeS] at e5 e6
     have e6' : (nodesS ks).getD (Int.toNat 0) .any = _ := e6
     simp +decide only [bySt, go_sem]
     refine Runs.split (fun h => ?_) (fun h => ?_)
     ·simp +decide (disch := first | omega | (simp only [ll]; omega)) only [e6', if_pos, go_sem]
      refine Runs.draw (st1 := ?s1) (draws_ref (ann := byAnn) tabOk (byL [] [1000001]) bySch (by kernel_rfl) ?p1) ?q1
      case p1 =>
       intro K r X hK
       simp +decide (disch := first | omega | (simp only [ll]; omega)) only [if_pos, go_sem]
       repeat' apply And.intro
       all_goals
        refine Runs.call e5 ?_
        simp +decide (disch := first | omega | (simp only [ll]; omega)) only [if_pos, go_sem]
        exact hK
      case q1 =>
       simp +decide (disch := first | omega | (simp only [ll]; omega)) only [if_pos, go_sem]
       refine ih 1 _ (by omega) (by omega) ?_
       simp [go_sem, byAnn, bySt, e10]
     ·have := of_decide_eq_false h; omega
   | succ i =>
    have hlen := encL_le (ks.take (i + 1))
    have hlw := wNL_take ks (i + 1)
    simp +decide only [bySt, go_sem]
    refine Runs.split (fun h => ?_) (fun h => ?_)
    ·have hlt : i + 1 < ks.length := by simp at h; omega
     have e5 := IH ks[i + 1] (by have := szN_get hlt; omega) (okN_get hlt hk2) (by have := wN_get hlt; omega) (kidsLe_get hlt hl2)
     have e6 := nodesS_get hlt
     have e8 := enc_le ks[i + 1]
     have e9 := wN_get hlt
     have e10 : encL (ks.take (i + 2)) = encL (ks.take (i + 1)) ++ enc ks[i + 1] := by rw [List.take_succ_eq_append_getElem hlt, encL_app, encL_one]
     have e11 : wNL (ks.take (i + 1)) + wN ks[i + 1] ≤ wNL ks := by
      have := wNL_take ks (i + 2)
      rw [List.take_succ_eq_append_getElem hlt, wNL_app] at this
      simpa [wNL] using this
     generalize ks[i + 1] = k at *
     obtain ⟨t', b', ks'⟩ := k
     rw [nodeS] at e5 e6
     have hw1 : IntKind.i64.wrap (((i + 1 : Nat) : Int) + 1) = ((i + 1 + 1 : Nat) : Int) := by rw [wrap_i64 (by omega) (by omega)]; omega
     simp +decide (disch := first | omega | (simp only [ll]; omega)) only [e6, if_pos, go_sem]
     refine Runs.draw (st1 := ?s2) (draws_ref (ann := byAnn) tabOk (byL [] [1000001]) bySch (by kernel_rfl) ?p2) ?q2
     case p2 =>
      intro K r X hK
      simp +decide (disch := first | omega | (simp only [ll]; omega)) only [if_pos, go_sem]
      repeat' apply And.intro
      all_goals
       refine Runs.call e5 ?_
       simp +decide (disch := first | omega | (simp only [ll]; omega)) only [if_pos, go_sem]
       exact hK
     case q2 =>
      simp +decide (disch := first | omega | (simp only [ll]; omega)) only [hw1, if_pos, go_sem]
      refine ih (i + 1 + 1) _ (by omega) (by omega) ?_
      simp [go_sem, byAnn, bySt, e10]
    ·have hge : ks.length = i + 1 := by simp at h; omega
     have hb : b = [] := by
      rcases hk1 with h | h
      ·subst h; simp at hge
      ·exact h
     have ht : ks.take (i + 1) = ks := by rw [← hge, List.take_length]
     subst hb
     rw [ht] at hlen hlw
     simp +decide (disch := first | omega | (simp only [ll]; omega)) only [ht, if_pos, go_sem]
     have hB : (encL ks).length ≤ 1000000 := by omega
     refine Runs.split (fun h1 => ?_) (fun h1 => ?_)
     ·simp only [decide_eq_true_eq] at h1
      have w8 : IntKind.u8.wrap (((encL ks).length : Nat) : Int) = ((encL ks).length : Nat) := wrap_u8 (by omega) (by omega)
      have e7 : l7Len (encL ks).length = [ib (encL ks).length] := by rw [l7Len, if_pos (by omega)]
      simp +decide (disch := first | omega | (simp only [ll]; omega)) only [if_pos, go_sem]
      refine Runs.ret_eq ?_
      simp [enc, e7, ib, u8A, w8]
     ·simp only [decide_eq_false_iff_not] at h1
      simp +decide only [go_sem]
      refine Runs.split (fun h2 => ?_) (fun h2 => ?_)
      ·simp only [decide_eq_true_eq] at h2
       have w8 : IntKind.u8.wrap (((encL ks).length : Nat) : Int) = ((encL ks).length : Nat) := wrap_u8 (by omega) (by omega)
       have e7 : l7Len (encL ks).length = [129, ib (encL ks).length] := by rw [l7Len, if_neg (by omega), if_pos (by omega)]
       simp +decide (disch := first | omega | (simp only [ll]; omega)) only [if_pos, go_sem]
       refine Runs.ret_eq ?_
       simp [enc, e7, ib, u8A, w8]
      ·simp only [decide_eq_false_iff_not] at h2
       have e7 : l7Len (encL ks).length = [130, ib ((encL ks).length / 256 : Nat), ib (encL ks).length] := by rw [l7Len, if_neg (by omega), if_neg (by omega)]
       simp +decide (disch := first | omega | (simp only [ll]; omega)) only [shr8n, if_pos, go_sem]
       refine Runs.ret_eq ?_
       simp [enc, e7, ib, u8A]
end Go.Proofs.W

namespace Go.Proofs.W
open Go Go.AM
variable (hm : Tryz.prog.follows .mixedOrders = true)
def sumB (L : List It) : Nat := (L.map fun x => x.body.length).sum
def derN (L : List It) : Nd := (nestP L 13 0).1
def derOk (L : List It) : Bool := treeOk L && decide (sumB L ≤ 4000) && decide ((enc (derN L)).length ≤ 4000)
def derB (L : List It) : List Int := if derOk L = true then enc (derN L) else []
def derA (L : List It) : A := .tup [.sl (.ow 1) ((derB L).map u8A), .v (.bool (derOk L))]
def sumT (L : List It) (i : Nat) : Nat := sumB (L.take i)
theorem sumT_succ {L : List It} {i : Nat} (h : i < L.length) : sumT L (i + 1) = sumT L i + L[i].body.length := by
 rw [sumT, List.take_succ_eq_append_getElem h, sumB, List.map_append, List.sum_append]
 rw [List.map_cons, List.map_nil, List.sum_cons, List.sum_nil, Nat.add_zero]
 rfl
theorem sumT_all (L : List It) : sumT L L.length = sumB L := by rw [sumT, List.take_length]
theorem sumT_le (L : List It) (i : Nat) : sumT L i ≤ sumB L := by
 rw [sumT, sumB, sumB, List.map_take]
 exact sum_take_le _ _
theorem wI_sum (L : List It) : wI L L.length = sumB L + 4 * L.length := by
 rw [wI, List.take_length, sumB]
 induction L with
 | nil => rfl
 | cons x L ih => simp only [List.map_cons, List.sum_cons, List.length_cons, ih]; omega
mutual
theorem kidsLe_w : ∀ {m : Nat} (n : Nd), wN n ≤ m → kidsLe m n
 | m, .mk t b ks, h => by
  simp only [wN] at h
  exact ⟨by have := len_w ks; omega, kidsLeL_w ks (by omega)⟩
theorem kidsLeL_w : ∀ {m : Nat} (l : List Nd), wNL l ≤ m → kidsLeL m l
 | m, [], h => trivial
 | m, n :: r, h => by
  simp only [wNL] at h
  exact ⟨kidsLe_w n (by omega), kidsLeL_w r (by omega)⟩
theorem len_w : ∀ (l : List Nd), l.length ≤ wNL l
 | [] => by simp
 | .mk t b ks :: r => by
  have := len_w r
  simp only [wNL, wN, List.length_cons]
  omega
end
theorem tree_end {L : List It} (h : treeOk L = true) : endP L 13 0 = some L.length := by
 simp only [treeOk, Bool.and_eq_true, decide_eq_true_eq] at h
 have := h.2
 cases e : endP L 13 0 with
 | none => rw [e, endI] at this; omega
 | some n => rw [e, endI] at this; congr 1; omega
theorem tree_len {L : List It} (h : treeOk L = true) : L.length ≤ 300 := by
 simp only [treeOk, inB, Bool.and_eq_true, decide_eq_true_eq] at h
 omega
theorem tree_all {L : List It} (h : treeOk L = true) : L.all itOk = true := by
 simp only [treeOk, Bool.and_eq_true, decide_eq_true_eq] at h
 exact h.1.2
theorem der_wt {L : List It} (h : treeOk L = true) : wN (derN L) = sumB L + 4 * L.length := by
 have h1 := (nestP_wt 13 0 _ (tree_end h)).2
 have h2 : wI L 0 = 0 := rfl
 rw [wI_sum, h2] at h1
 exact h1
theorem der_no {L : List It} (h : derOk L = false) : derA L = .tup [.sl (.ow 1) [], .v (.bool false)] := by
 rw [derA, derB, h]; rfl
def wdAnn : Ann := [(0, [0, 4, 5])]
def wdSt (L : List It) (i : Nat) : St := ⟨[.sl .sh (L.map itemS), .any, .any, .any, .v (.int .i64 (sumT L i)), .v (.int .i64 i), .any, .any, .any, .any, .any, .any, .any, .any, .any, .any, .any, .any, .any, .any, .any, .any, .any, .any, .any, .any, .any, .any, .any, .any, .any, .any, .any, .any, .any, .any, .any, .any, .any, .any, .any, .any, .any, .any, .any, .any, .any], [], []⟩
set_option maxRecDepth 10000 in
include hm in
theorem specWriteDer (L : List It) (hl : L.length ≤ 1000000) : Holds Tryz.prog 42 [.sl .sh (L.map itemS)] [] (derA L) [] := by
 refine holds_of (ann := wdAnn) tabOk hm Tryz.func42 (by kernel_rfl) rfl ?_
 simp +decide only [Tryz.f42, go_sem]
 refine Runs.call (specTreeOk hm L hl) ?_
 simp +decide only [go_sem]
 refine Runs.split (fun h => ?_) (fun h => ?_)
 ·have h' : treeOk L = false := by simpa using h
  simp +decide only [go_sem]
  exact Runs.ret_eq (by rw [der_no (by simp [derOk, h'])])
 ·have h' : treeOk L = true := by simpa using h
  have hlen := tree_len h'
  simp +decide only [go_sem]
  refine Runs.while (α := Nat) (wdSt L) (fun i => L.length - i) (fun i => i ≤ L.length ∧ sumT L i ≤ 4000 * i) 0 ⟨by omega, by simp [sumT, sumB]⟩ ?_ ?_
  ·simp [go_sem, wdAnn, wdSt, sumT, sumB]
  ·rintro i ⟨hi, hs⟩ ih
   simp +decide only [wdSt, go_sem]
   refine Runs.split (fun h => ?_) (fun h => ?_)
   ·have hlt : i < L.length := by simpa using h
    have hsu := sumT_succ hlt
    have hle := sumT_le L (i + 1)
    simp +decide (disch := first | omega | (simp only [ll]; omega)) only [getItem hlt, if_pos, go_sem]
    refine Runs.split (fun h => ?_) (fun h => ?_)
    ·have hb : 4000 < L[i].body.length := by simp at h; omega
     simp +decide (disch := first | omega | (simp only [ll]; omega)) only [if_pos, go_sem]
     refine Runs.ret_eq (by rw [der_no]; simp [derOk]; omega)
    ·have hb : ¬ 4000 < L[i].body.length := by simp at h; omega
     have hw1 : IntKind.i64.wrap ((sumT L i : Int) + (L[i].body.length : Int)) = (sumT L i : Int) + (L[i].body.length : Int) := wrap_i64 (by omega) (by omega)
     simp +decide (disch := first | omega | (simp only [ll]; omega)) only [hw1, if_pos, go_sem]
     refine ih (i + 1) _ (by omega) ⟨by omega, by omega⟩ ?_
     simp [go_sem, wdAnn, wdSt, hsu, hw1]
   ·have hge : i = L.length := by simp at h; omega
    subst hge
    rw [sumT_all]
    simp +decide only [go_sem]
    refine Runs.split (fun h => ?_) (fun h => ?_)
    ·have hb : 4000 < sumB L := by simp at h; omega
     simp +decide only [go_sem]
     refine Runs.ret_eq (by rw [der_no]; simp [derOk]; omega)
    ·have hb : sumB L ≤ 4000 := by simp at h; omega
     have hw := enc_le (derN L)
     rw [der_wt h'] at hw
     simp +decide only [go_sem]
     refine Runs.call (l7Write hm L (kidsOk_of (tree_all h')) hl (by rw [wI_sum]; omega) 13 0 L.length (tree_end h')) ?_
     rw [show (nestP L 13 0).1 = derN L from rfl]
     simp +decide (disch := first | omega | (simp only [ll]; omega)) only [if_pos, go_sem]
     refine Runs.split (fun h => ?_) (fun h => ?_)
     ·have hd : derOk L = false := by simp at h; simp [derOk, h', hb]; omega
      simp +decide (disch := first | omega | (simp only [ll]; omega)) only [if_pos, go_sem]
      refine Runs.ret_eq (by rw [der_no hd])
     ·have hd : derOk L = true := by simp at h; simp [derOk, h', hb]; omega
      simp +decide (disch := first | omega | (simp only [ll]; omega)) only [if_pos, go_sem]
      refine Runs.ret_eq (by rw [derA, derB, hd]; simp)
def weAnn : Ann := [(0, [0, 4, 10, 11, 12])]
def weSt (L : List It) (i : Nat) : St := ⟨[.sl .sh (L.map itemS), .any, .any, .any, .v (.int .i64 (sumT L i)), .any, .any, .any, .any, .any, .sl .sh (L.map itemS), .v (.int .i64 L.length), .v (.int .i64 i), .any, .any, .any, .any, .any, .any, .any, .any, .any, .any, .any, .any, .any, .any, .any, .any, .any, .any, .any, .any, .any, .any, .any, .any, .any, .any, .any], [], []⟩
set_option maxRecDepth 10000 in
include hm in
theorem implWriteDer (L : List It) (hl : L.length ≤ 1000000) (hb : ∀ x ∈ L, x.body.length ≤ 1073741824) : Holds Tryz.prog 51 [.sl .sh (L.map itemS)] [] (derA L) [] := by
 refine holds_of (ann := weAnn) tabOk hm Tryz.func51 (by kernel_rfl) rfl ?_
 simp +decide only [Tryz.f51, go_sem]
 refine Runs.while (α := Nat) (weSt L) (fun i => L.length - i) (fun i => i ≤ L.length ∧ sumT L i ≤ 1073741824 * i) 0 ⟨by omega, by simp [sumT, sumB]⟩ ?_ ?_
 ·simp [go_sem, weAnn, weSt, sumT, sumB]
 ·rintro i ⟨hi, hs⟩ ih
  simp +decide only [weSt, go_sem]
  refine Runs.split (fun h => ?_) (fun h => ?_)
  ·have hlt : i < L.length := by simpa using h
   have hsu := sumT_succ hlt
   have hx := hb L[i] (List.getElem_mem hlt)
   simp +decide (disch := first | omega | (simp only [ll]; omega)) only [getItem hlt, if_pos, go_sem]
   refine ih (i + 1) _ (by omega) ⟨by omega, by omega⟩ ?_
   simp [go_sem, weAnn, weSt, hsu]
  ·have hge : i = L.length := by simp at h; omega
   subst hge
   rw [sumT_all]
   simp +decide only [go_sem]
   refine Runs.call (implTreeOk hm L hl) ?_
   simp +decide only [go_sem]
   refine Runs.split (fun h => ?_) (fun h => ?_)
   ·have h' : treeOk L = false := by simpa using h
    simp +decide only [h', go_sem]
    refine Runs.ret ?_ rfl
    rw [der_no (by simp [derOk, h'])]
    exact .tup (.nils _ (.same _ .nil)) .nil
   ·have h' : treeOk L = true := by simpa using h
    have hlen := tree_len h'
    simp +decide only [h', go_sem]
    refine Runs.split (fun h => ?_) (fun h => ?_)
    ·have hb : 4000 < sumB L := by simp at h; omega
     simp +decide only [go_sem]
     refine Runs.ret ?_ rfl
     rw [der_no (by simp [derOk]; omega)]
     exact .tup (.nils _ (.same _ .nil)) .nil
    ·have hb : sumB L ≤ 4000 := by simp at h; omega
     have hwt := der_wt h'
     have hw := enc_le (derN L)
     rw [der_wt h'] at hw
     have hc := nested hm L (kidsOk_of (tree_all h')) hl 13 0 L.length (tree_end h')
     have hy := bytes hm _ (derN L) (Nat.le_refl _) (nestP_ok (tree_all h') 13 0) (by omega) (kidsLe_w _ (by omega))
     rw [show (nestP L 13 0).1 = derN L from rfl] at hc
     have ed : (if sumB L ≤ 4000 ∧ (enc (derN L)).length ≤ 4000 then derA L = .tup [.sl (.ow 1) ((enc (derN L)).map u8A), .v (.bool true)] else derA L = .tup [.sl (.ow 1) [], .v (.bool false)]) := by
      split
      ·rename_i h1
       have : derOk L = true := by simp [derOk, h', h1]
       rw [derA, derB, this]; simp
      ·rename_i h1
       exact der_no (by simp [derOk, h', hb] at h1 ⊢; omega)
     generalize derN L = nd at hc hy ed hw hwt
     obtain ⟨t', b', ks'⟩ := nd
     rw [nodeM] at hc
     rw [nodeS] at hy
     simp +decide (disch := first | omega | (simp only [ll]; omega)) only [if_pos, go_sem]
     refine Runs.call hc ?_
     simp +decide (disch := first | omega | (simp only [ll]; omega)) only [if_pos, go_sem]
     refine Runs.call hy ?_
     generalize enc (Nd.mk t' b' ks') = E at *
     simp +decide (disch := first | omega | (simp only [ll]; omega)) only [if_pos, go_sem]
     refine Runs.split (fun h => ?_) (fun h => ?_)
     ·rw [if_neg (by simp at h; omega)] at ed
      simp +decide only [go_sem]
      refine Runs.ret ?_ rfl
      rw [ed]
      exact .tup (.nils _ (.same _ .nil)) .nil
     ·rw [if_pos (by simp at h; omega)] at ed
      simp +decide (disch := first | omega | (simp only [ll]; omega)) only [if_pos, go_sem]
      exact Runs.ret_eq (by rw [ed])
end Go.Proofs.W

namespace Go.Proofs.W
open Go Go.AM
variable (hm : Tryz.prog.follows .mixedOrders = true)
def rdrO (b : List Int) (L : List It) (c p : Int) : A := .agg [.sl .sh (b.map u8A), .sl (.ow 3) (L.map itemO), .v (.int .i64 c), .v (.int .i64 p)]
def szA (r : Nat × Nat × Int) : A := .tup [.v (.int .i64 r.1), .v (.int .i64 r.2.1), .v (.int .i64 r.2.2)]
set_option maxHeartbeats 2000000 in
set_option maxRecDepth 10000 in
include hm in
theorem l7Size (b : List Int) (hb : BytesOk b) (hl : b.length ≤ 4000) (a e : Nat) (he : e ≤ b.length) (ha : a ≤ 4001) : Holds Tryz.prog 58 [.sl .sh (b.map u8A), .v (.int .i64 a), .v (.int .i64 e)] [] (szA (szP b a e)) [] := by
 refine holds_of (ann := []) tabOk hm Tryz.func58 (by kernel_rfl) rfl ?_
 have hlen : (b.map u8A).length = b.length := List.length_map _
 have x1 := bt_rng hb a
 have x2 := bt_rng hb (a + 1)
 have x3 := bt_rng hb (a + 2)
 rw [szA]
 simp +decide only [Tryz.f58, go_sem]
 refine Runs.split (fun h => ?_) (fun h => ?_)
 ·have h' : e ≤ a := by simp at h; omega
  simp +decide only [go_sem]
  exact Runs.ret_eq (by rw [szP, if_pos h']; rfl)
 have h1 : ¬ e ≤ a := by simp at h; omega
 have g1 := bt_get (b := b) (i := a) (by omega)
 simp +decide (disch := first | omega | (simp only [ll]; omega)) only [hlen, g1, if_pos, go_sem]
 by_cases h2 : bt b a < 128
 ·have d2 : decide (bt b a < 128) = true := by simpa using h2
  simp +decide (disch := first | omega | (simp only [ll]; omega)) only [hlen, g1, d2, if_pos, go_sem]
  refine Runs.ret_eq ?_
  rw [szP, if_neg h1, if_pos h2]
  simp only [Int.toNat_of_nonneg x1.1]
  rfl
 have d2 : decide (bt b a < 128) = false := by simpa using h2
 by_cases h3 : bt b a = 128
 ·have d3 : decide (bt b a = 128) = true := by simpa using h3
  simp +decide (disch := first | omega | (simp only [ll]; omega)) only [d2, d3, if_pos, go_sem]
  exact Runs.ret_eq (by rw [szP, if_neg h1, if_neg h2, if_pos (.inl h3)]; rfl)
 have d3 : decide (bt b a = 128) = false := by simpa using h3
 by_cases h4 : 130 < bt b a
 ·have d4 : decide (bt b a > 130) = true := by simpa using h4
  simp +decide (disch := first | omega | (simp only [ll]; omega)) only [d2, d3, d4, if_pos, go_sem]
  exact Runs.ret_eq (by rw [szP, if_neg h1, if_neg h2, if_pos (.inr h4)]; rfl)
 have d4 : decide (bt b a > 130) = false := by simpa using h4
 have n3 : ¬ (bt b a = 128 ∨ 130 < bt b a) := by omega
 have wa : IntKind.i64.wrap ((a : Int) + 1) = ((a + 1 : Nat) : Int) := by rw [wrap_i64 (by omega) (by omega)]; rfl
 have wb : IntKind.i64.wrap ((a : Int) + 2) = ((a + 2 : Nat) : Int) := by rw [wrap_i64 (by omega) (by omega)]; rfl
 rcases (show bt b a = 129 ∨ bt b a = 130 by omega) with h5 | h5
 ·have hk : IntKind.i64.wrap (bt b a - 128) = 1 := by rw [h5]; rfl
  have tn : (bt b a - 128).toNat = 1 := by rw [h5]; rfl
  have hv : szV b a = bt b (a + 1) := by rw [szV, if_neg (by omega)]
  by_cases h6 : e ≤ a + 1
  ·have d6 : decide (((a + 1 : Nat) : Int) ≥ (e : Int)) = true := by simp; omega
   simp +decide only [d2, d3, d4, hk, wa, d6, go_sem]
   exact Runs.ret_eq (by rw [szP, if_neg h1, if_neg h2, if_neg n3, tn, if_pos h6]; rfl)
  have d6 : decide (((a + 1 : Nat) : Int) ≥ (e : Int)) = false := by simp; omega
  have g2 := bt_get (b := b) (i := a + 1) (by omega)
  have r2 : decide (0 ≤ ((a + 1 : Nat) : Int) ∧ ((a + 1 : Nat) : Int) < (b.length : Int)) = true := by simp; omega
  have k2 : IntKind.i64.wrap (bt b (a + 1)) = bt b (a + 1) := wrap_i64 (by omega) (by omega)
  by_cases h7 : bt b (a + 1) < 128
  ·have d7 : decide (bt b (a + 1) < 128) = true := by simpa using h7
   simp +decide only [d2, d3, d4, hk, wa, d6, g2, r2, k2, d7, hlen, Int.toNat_natCast, go_sem]
   exact Runs.ret_eq (by rw [szP, if_neg h1, if_neg h2, if_neg n3, tn, if_neg h6, if_pos (.inl (by rw [hv]; exact h7))]; rfl)
  have d7 : decide (bt b (a + 1) < 128) = false := by simpa using h7
  have wc : IntKind.i64.wrap (((a + 1 : Nat) : Int) + 1) = ((a + 1 + 1 : Nat) : Int) := by rw [wrap_i64 (by omega) (by omega)]; rfl
  simp +decide only [d2, d3, d4, hk, wa, d6, g2, r2, k2, d7, hlen, wc, Int.toNat_natCast, go_sem]
  refine Runs.ret_eq ?_
  rw [szP, if_neg h1, if_neg h2, if_neg n3, tn, if_neg h6, if_neg (by rw [hv]; omega), hv]
  simp only [Int.toNat_of_nonneg x2.1]
 ·have hk : IntKind.i64.wrap (bt b a - 128) = 2 := by rw [h5]; rfl
  have tn : (bt b a - 128).toNat = 2 := by rw [h5]; rfl
  have hv : szV b a = bt b (a + 1) * 256 + bt b (a + 2) := by rw [szV, if_pos h5]
  by_cases h6 : e ≤ a + 2
  ·have d6 : decide (((a + 2 : Nat) : Int) ≥ (e : Int)) = true := by simp; omega
   simp +decide only [d2, d3, d4, hk, wb, d6, go_sem]
   exact Runs.ret_eq (by rw [szP, if_neg h1, if_neg h2, if_neg n3, tn, if_pos h6]; rfl)
  have d6 : decide (((a + 2 : Nat) : Int) ≥ (e : Int)) = false := by simp; omega
  have g2 := bt_get (b := b) (i := a + 1) (by omega)
  have g3 := bt_get (b := b) (i := a + 2) (by omega)
  have r2 : decide (0 ≤ ((a + 1 : Nat) : Int) ∧ ((a + 1 : Nat) : Int) < (b.length : Int)) = true := by simp; omega
  have r3 : decide (0 ≤ ((a + 2 : Nat) : Int) ∧ ((a + 2 : Nat) : Int) < (b.length : Int)) = true := by simp; omega
  have k2 : IntKind.i64.wrap (bt b (a + 1)) = bt b (a + 1) := wrap_i64 (by omega) (by omega)
  have k3 : IntKind.i64.wrap (bt b (a + 2)) = bt b (a + 2) := wrap_i64 (by omega) (by omega)
  have k4 : IntKind.i64.wrap (bt b (a + 1) * 256) = bt b (a + 1) * 256 := wrap_i64 (by omega) (by omega)
  have k5 : IntKind.i64.wrap (bt b (a + 1) * 256 + bt b (a + 2)) = szV b a := by rw [wrap_i64 (by omega) (by omega), hv]
  have sv := szV_rng hb a
  by_cases h7 : szV b a < 128
  ·have d7 : decide (szV b a < 128) = true := by simpa using h7
   simp +decide only [d2, d3, d4, hk, wa, wb, d6, g2, g3, r2, r3, k2, k3, k4, k5, d7, hlen, Int.toNat_natCast, go_sem]
   exact Runs.ret_eq (by rw [szP, if_neg h1, if_neg h2, if_neg n3, tn, if_neg h6, if_pos (.inl h7)]; rfl)
  have d7 : decide (szV b a < 128) = false := by simpa using h7
  by_cases h8 : szV b a < 256
  ·have d8 : decide (szV b a < 256) = true := by simpa using h8
   simp +decide only [d2, d3, d4, hk, wa, wb, d6, g2, g3, r2, r3, k2, k3, k4, k5, d7, d8, hlen, Int.toNat_natCast, go_sem]
   exact Runs.ret_eq (by rw [szP, if_neg h1, if_neg h2, if_neg n3, tn, if_neg h6, if_pos (.inr ⟨h5, h8⟩)]; rfl)
  have d8 : decide (szV b a < 256) = false := by simpa using h8
  have wc : IntKind.i64.wrap (((a + 1 : Nat) : Int) + 2) = ((a + 1 + 2 : Nat) : Int) := by rw [wrap_i64 (by omega) (by omega)]; rfl
  simp +decide only [d2, d3, d4, hk, wa, wb, d6, g2, g3, r2, r3, k2, k3, k4, k5, d7, d8, hlen, wc, Int.toNat_natCast, go_sem]
  refine Runs.ret_eq ?_
  rw [szP, if_neg h1, if_neg h2, if_neg n3, tn, if_neg h6, if_neg (by omega)]
  simp only [Int.toNat_of_nonneg sv.1]
set_option maxRecDepth 10000 in
include hm in
theorem l7Fail (b : List Int) (L : List It) (c0 p0 c p : Int) : Holds Tryz.prog 57 [rdrO b L c0 p0, .v (.int .i64 c), .v (.int .i64 p)] [] (rdrO b L c p) [] := by
 refine holds_of (ann := []) tabOk hm Tryz.func57 (by kernel_rfl) rfl ?_
 rw [rdrO, rdrO]
 simp +decide only [Tryz.f57, go_sem]
 exact Runs.ret_refl
end Go.Proofs.W

namespace Go.Proofs.W
open Go Go.AM
variable (hm : Tryz.prog.follows .mixedOrders = true)
def rawI (t k : Int) : A := .agg [.v (.int .i64 t), .v (.slice none 0 0), .v (.int .i64 k)]
def kidA (t : Int) (j : Nat) : A := if j = 0 then rawI t 0 else itemO ⟨t, [], j⟩
def rowA (L : List It) (t : Int) (j : Nat) (M : List It) : List A := L.map itemO ++ kidA t j :: M.map itemO
theorem rowA_len (L : List It) (t : Int) (j : Nat) (M : List It) : (rowA L t j M).length = L.length + (M.length + 1) := by simp [rowA]
theorem kidA_md (t : Int) (j : Nat) : (kidA t j).md = kidA t j := by
 unfold kidA
 split
 ·simp [rawI, A.md, mdL]
 ·exact md1_itemO _
theorem rowA_md (L : List It) (t : Int) (j : Nat) (M : List It) : mdL (rowA L t j M) = rowA L t j M := by
 rw [rowA, mdL_append, md_itemO]
 simp only [mdL, kidA_md, md_itemO]
theorem le_kid (t : Int) (j : Nat) (r : List A) : LeD (kidA t j :: r) (itemO ⟨t, [], j⟩ :: r) := by
 unfold kidA
 split
 ·rename_i h; subst h
  exact .agg (.same _ (.nils _ (.same _ .nil))) (LeD.refl r)
 ·exact LeD.refl _
theorem le_row : ∀ (L : List It) (t : Int) (j : Nat) (M : List It), LeD (rowA L t j M) ((L ++ ⟨t, [], j⟩ :: M).map itemO)
 | [], t, j, M => le_kid t j _
 | x :: L, t, j, M => .same _ (le_row L t j M)
theorem row_pos (L : List It) (t : Int) (j : Nat) (M : List It) : (L ++ ⟨t, [], ((j + 1 : Nat) : Int)⟩ :: M).map itemO = rowA L t (j + 1) M := by
 simp [rowA, kidA]
theorem loopM_end {f : Nat → RR} {e : Nat} (k q j : Nat) (M : List It) (h : e ≤ q) : loopM f e k q j M = (j, ⟨M, 0, 0, e⟩) := by
 cases k with
 | zero => rfl
 | succ k => rw [loopM, if_neg (by omega)]
theorem loopM_place {f : Nat → RR} {e : Nat} : ∀ (k q j : Nat) (M : List It), (loopM f e k q j M).2.code = 0 → (loopM f e k q j M).2.place = 0
 | 0, q, j, M => fun _ => rfl
 | k + 1, q, j, M => by
  unfold loopM
  split
  ·split
   ·exact loopM_place k _ _ _
   ·rename_i hc; exact fun h => absurd h hc
  ·exact fun _ => rfl
theorem rdM_place (b : List Int) : ∀ d p e, (rdM b d p e).code = 0 → (rdM b d p e).place = 0
 | 0, p, e => by
  unfold rdM
  split
  ·rename_i c q hh
   exact fun h => absurd h (hd_bad hh).1
  ·exact fun _ => rfl
 | d + 1, p, e => by
  unfold rdM
  split
  ·rename_i c q hh
   exact fun h => absurd h (hd_bad hh).1
  ·split
   ·exact loopM_place _ _ _ _
   ·exact fun _ => rfl
theorem rowA_zero (L : List It) (t : Int) : rowA L t 0 [] = L.map itemO ++ [A.agg [.v (.int .i64 t), .v (.slice none 0 0), .v (.int .i64 0)]] := by simp [rowA, kidA, rawI]
theorem rowA_bump (L : List It) (t : Int) (j : Nat) (M N : List It) : (((L ++ (⟨t, [], j⟩ : It) :: M) ++ N).map itemO).set L.length (.agg [.v (.int .i64 t), .sl (.ow 1) [], .v (.int .i64 ((j + 1 : Nat) : Int))]) = rowA L t (j + 1) (M ++ N) := by
 rw [← row_pos]
 have e : (L ++ (⟨t, [], j⟩ : It) :: M) ++ N = L ++ (⟨t, [], j⟩ : It) :: (M ++ N) := by simp
 have h := mid_set (L := L) (M := M ++ N) (x := ⟨t, [], j⟩) (y := ⟨t, [], ((j + 1 : Nat) : Int)⟩)
 rw [e]
 exact h
def rrAnn : Ann := [(0, [3, 4, 8, 11, 12, 14, 15])]
def rrS1 : Sched := .take 0 (.take 2 (.take 3 (.take 5 (.take 6 (.take 7 (.take 8 (.alt 1 (.alt 4 (.alt 9 (.alt 10 (.take 11 (.take 12 (.alt 13 .fin .nil))) .nil) .nil) .nil) (.alt 4 (.alt 1 (.alt 9 (.alt 10 (.take 11 (.take 12 (.alt 13 .fin .nil))) .nil) .nil) (.alt 9 (.alt 1 (.alt 10 (.take 11 (.take 12 (.alt 13 .fin .nil))) .nil) (.alt 10 (.alt 1 (.take 11 (.take 12 (.alt 13 .fin .nil))) .nil) .nil)) .nil)) .nil))))))))
def rrS2 : Sched := .take 0 (.take 2 (.take 3 (.take 5 (.alt 1 (.alt 4 (.take 6 (.take 7 (.alt 8 (.take 9 (.take 10 (.take 11 (.alt 12 .fin .nil)))) .nil))) .nil) (.alt 4 (.take 6 (.take 7 (.alt 1 (.alt 8 (.take 9 (.take 10 (.take 11 (.alt 12 .fin .nil)))) .nil) (.alt 8 (.take 9 (.alt 1 (.take 10 (.take 11 (.alt 12 .fin .nil))) .nil)) .nil)))) .nil)))))
attribute [local go_sem] rrS1 rrS2
def rrSt (b : List Int) (L : List It) (t : Int) (dp f n : Nat) (s : Nat × Nat × List It) : St := ⟨[.any, .any, .any, .v (.int .i64 dp), .ref (.l 0) 0 0 1, .any, .any, .any, .ref (.l 1) 0 0 1, .any, .any, .v (.int .i64 n), .v (.int .i64 f), .any, .v (.int .i64 L.length), .v (.int .i64 s.1), .any, .any, .any, .any, .any, .any, .any, .any, .any, .any, .any, .any, .any, .any, .any, .any, .any, .any, .any, .any, .any, .any, .any, .any, .any, .any, .any, .any, .any, .any, .any, .any, .any, .any, .any, .any, .any, .any, .any, .any, .any, .any, .any, .any, .any, .any, .any, .any, .any, .any, .any, .any, .any, .any, .any, .any, .any, .any, .any, .any, .any, .any, .any, .any, .any, .any, .any, .any, .any, .any, .any, .any, .any, .any, .any, .any, .any, .any, .any, .any, .any, .any, .any, .any, .any, .any, .any, .any, .any, .any, .any, .any, .any, .any, .any, .any, .any, .any, .any, .any, .any, .any, .any, .any, .any, .any, .any, .any, .any, .any, .any, .any, .any, .any, .any, .any, .any, .any, .any, .any, .any, .any, .any, .any, .any, .any, .any, .any], [(0, ⟨true, 4, true, [.agg [.sl .sh (b.map u8A), .ms (.l 2) 0 (L.length + (s.2.2.length + 1)) (L.length + (s.2.2.length + 1)), .v (.int .i64 0), .v (.int .i64 0)]]⟩), (1, ⟨true, 4, true, [.agg [.v (.slice none 0 0), .v (.slice none 0 0), .v (.int .i64 0), .v (.int .i64 0)]]⟩), (2, ⟨true, 3, false, rowA L t s.2.1 s.2.2⟩)], []⟩
set_option maxHeartbeats 8000000 in
set_option maxRecDepth 10000 in
include hm in
theorem l7Read (b : List Int) (hb : BytesOk b) (hl : b.length ≤ 4000) : ∀ (d p e dp : Nat) (L : List It), d + dp = 13 → p ≤ b.length → e ≤ b.length → L.length + (e - p) ≤ 8000 →
  Holds Tryz.prog 36 [rdrO b L 0 0, .v (.int .i64 p), .v (.int .i64 e), .v (.int .i64 dp)] [] (.tup [rdrO b (L ++ (rdM b d p e).items) (rdM b d p e).code (rdM b d p e).place, .v (.int .i64 (rdM b d p e).next)]) [] := by
 intro d
 induction d with
 | zero =>
  intro p e dp L hd hp he hL
  have hdp : dp = 13 := by omega
  subst hdp
  have hlen : (b.map u8A).length = b.length := List.length_map _
  have hL0 : (L.map itemO).length = L.length := List.length_map _
  have x1 := bt_rng hb p
  have fl := fun c q => l7Fail hm b L 0 0 c q
  simp only [rdrO] at fl ⊢
  have bad : ∀ {c : Int} {q : Nat}, hdP b 0 p e = .bad c q → rdM b 0 p e = ⟨[], c, q, p⟩ := fun h => by rw [rdM, h]
  refine holds_ref (ann := rrAnn) tabOk hm (byL [] [36, 57]) Tryz.func36 (by kernel_rfl) rfl ?_
  simp +decide (maxSteps := 9^7) only [↓reduceIte, Tryz.f36, hL0, go_sem]
  refine Runs.split (fun h => ?_) (fun h => ?_)
  ·have h' : e ≤ p := by simp at h; omega
   have hr := bad (c := 2) (q := p) (by rw [hdP, if_pos h'])
   simp +decide (maxSteps := 9^7) only [↓reduceIte, hL0, go_sem]
   refine Runs.call (fl 2 p) ?_
   simp +decide (maxSteps := 9^7) only [↓reduceIte, hL0, hr, List.append_nil, go_sem]
   exact Runs.ret_refl
  have h1 : ¬ e ≤ p := by simp at h; omega
  have g1 := bt_get (b := b) (i := p) (by omega)
  have r1 : decide (0 ≤ (p : Int) ∧ (p : Int) < (b.length : Int)) = true := by simp; omega
  have k1 : IntKind.i64.wrap (bt b p) = bt b p := wrap_i64 (by omega) (by omega)
  have m1 : (bt b p).tmod 32 = bt b p % 32 := Int.tmod_eq_emod_of_nonneg x1.1
  by_cases h2 : bt b p % 32 = 31
  ·have d2 : decide (bt b p % 32 = 31) = true := by simpa using h2
   have hr := bad (c := 3) (q := p) (by rw [hdP, if_neg h1, if_pos h2])
   simp +decide (maxSteps := 9^7) only [↓reduceIte, hlen, g1, r1, k1, m1, d2, hL0, Int.toNat_natCast, go_sem]
   refine Runs.call (fl 3 p) ?_
   simp +decide (maxSteps := 9^7) only [↓reduceIte, hL0, hr, List.append_nil, go_sem]
   exact Runs.ret_refl
  have d2 : decide (bt b p % 32 = 31) = false := by simpa using h2
  have hr := bad (c := 6) (q := p) (by rw [hdP, if_neg h1, if_neg h2, if_pos rfl])
  simp +decide (maxSteps := 9^7) only [↓reduceIte, hlen, g1, r1, k1, m1, d2, hL0, Int.toNat_natCast, go_sem]
  refine Runs.call (fl 6 p) ?_
  simp +decide (maxSteps := 9^7) only [↓reduceIte, hL0, hr, List.append_nil, go_sem]
  exact Runs.ret_refl
 | succ d IH =>
  intro p e dp L hd hp he hL
  have hlen : (b.map u8A).length = b.length := List.length_map _
  have hL0 : (L.map itemO).length = L.length := List.length_map _
  have x1 := bt_rng hb p
  have fl := fun c q => l7Fail hm b L 0 0 c q
  simp only [rdrO] at fl ⊢
  have bad : ∀ {c : Int} {q : Nat}, hdP b (d + 1) p e = .bad c q → rdM b (d + 1) p e = ⟨[], c, q, p⟩ := fun h => by rw [rdM, h]
  refine holds_ref (ann := rrAnn) tabOk hm (byL [] [36, 57]) Tryz.func36 (by kernel_rfl) rfl ?_
  simp +decide (maxSteps := 9^7) only [↓reduceIte, Tryz.f36, hL0, go_sem]
  refine Runs.split (fun h => ?_) (fun h => ?_)
  ·have h' : e ≤ p := by simp at h; omega
   have hr := bad (c := 2) (q := p) (by rw [hdP, if_pos h'])
   simp +decide (maxSteps := 9^7) only [↓reduceIte, hL0, go_sem]
   refine Runs.call (fl 2 p) ?_
   simp +decide (maxSteps := 9^7) only [↓reduceIte, hL0, hr, List.append_nil, go_sem]
   exact Runs.ret_refl
  have h1 : ¬ e ≤ p := by simp at h; omega
  have g1 := bt_get (b := b) (i := p) (by omega)
  have r1 : decide (0 ≤ (p : Int) ∧ (p : Int) < (b.length : Int)) = true := by simp; omega
  have k1 : IntKind.i64.wrap (bt b p) = bt b p := wrap_i64 (by omega) (by omega)
  have m1 : (bt b p).tmod 32 = bt b p % 32 := Int.tmod_eq_emod_of_nonneg x1.1
  by_cases h2 : bt b p % 32 = 31
  ·have d2 : decide (bt b p % 32 = 31) = true := by simpa using h2
   have hr := bad (c := 3) (q := p) (by rw [hdP, if_neg h1, if_pos h2])
   simp +decide (maxSteps := 9^7) only [↓reduceIte, hlen, g1, r1, k1, m1, d2, hL0, Int.toNat_natCast, go_sem]
   refine Runs.call (fl 3 p) ?_
   simp +decide (maxSteps := 9^7) only [↓reduceIte, hL0, hr, List.append_nil, go_sem]
   exact Runs.ret_refl
  have d2 : decide (bt b p % 32 = 31) = false := by simpa using h2
  have d3 : decide ((dp : Int) > 12) = false := by simp; omega
  have wp : IntKind.i64.wrap ((p : Int) + 1) = ((p + 1 : Nat) : Int) := by rw [wrap_i64 (by omega) (by omega)]; rfl
  have cz := l7Size hm b hb hl (p + 1) e he (by omega)
  have hsz := szP_le hb (p + 1) e
  rw [szA] at cz
  simp +decide (maxSteps := 9^7) only [↓reduceIte, hlen, g1, r1, k1, m1, d2, d3, wp, hL0, Int.toNat_natCast, go_sem]
  refine Runs.call cz ?_
  by_cases h4 : (szP b (p + 1) e).2.2 = 2
  ·have hr := bad (c := 2) (q := p) (by rw [hdP, if_neg h1, if_neg h2, if_neg (by omega), if_pos h4])
   simp +decide (maxSteps := 9^7) only [↓reduceIte, h4, hL0, go_sem]
   refine Runs.call (fl 2 p) ?_
   simp +decide (maxSteps := 9^7) only [↓reduceIte, hL0, hr, List.append_nil, go_sem]
   exact Runs.ret_refl
  have d4 : decide ((szP b (p + 1) e).2.2 = 2) = false := by simpa using h4
  by_cases h5 : (szP b (p + 1) e).2.2 = 4
  ·have hr := bad (c := 4) (q := p + 1) (by rw [hdP, if_neg h1, if_neg h2, if_neg (by omega), if_neg h4, if_pos h5])
   simp +decide (maxSteps := 9^7) only [↓reduceIte, h5, wp, hL0, go_sem]
   refine Runs.call (fl 4 _) ?_
   simp +decide (maxSteps := 9^7) only [↓reduceIte, hL0, hr, List.append_nil, go_sem]
   exact Runs.ret_refl
  have d5 : decide ((szP b (p + 1) e).2.2 = 4) = false := by simpa using h5
  by_cases h6 : e < (szP b (p + 1) e).2.1 + (szP b (p + 1) e).1
  ·have hr := bad (c := 2) (q := p) (by rw [hdP, if_neg h1, if_neg h2, if_neg (by omega), if_neg h4, if_neg h5, if_pos h6])
   have w6 : IntKind.i64.wrap (((szP b (p + 1) e).2.1 : Int) + ((szP b (p + 1) e).1 : Int)) = ((szP b (p + 1) e).2.1 : Int) + ((szP b (p + 1) e).1 : Int) := wrap_i64 (by omega) (by omega)
   have d6 : decide (((szP b (p + 1) e).2.1 : Int) + ((szP b (p + 1) e).1 : Int) > (e : Int)) = true := by simp; omega
   simp +decide (maxSteps := 9^7) only [↓reduceIte, d4, d5, w6, d6, hL0, go_sem]
   refine Runs.call (fl 2 p) ?_
   simp +decide (maxSteps := 9^7) only [↓reduceIte, hL0, hr, List.append_nil, go_sem]
   exact Runs.ret_refl
  have hok : hdP b (d + 1) p e = .ok (szP b (p + 1) e).2.1 (szP b (p + 1) e).1 := by rw [hdP, if_neg h1, if_neg h2, if_neg (by omega), if_neg h4, if_neg h5, if_neg h6]
  obtain ⟨o1, o2, o3, o4, _⟩ := hd_ok hb hok
  generalize (szP b (p + 1) e).2.1 = f at *
  generalize (szP b (p + 1) e).1 = n at *
  have w6 : IntKind.i64.wrap ((f : Int) + (n : Int)) = (f : Int) + (n : Int) := wrap_i64 (by omega) (by omega)
  have d6 : decide ((f : Int) + (n : Int) > (e : Int)) = false := by simp; omega
  have dl : decide (L.length + 1 ≤ 1073741824) = true := by simp; omega
  have cm := l7Made hm (bt b p) x1.1 (by omega)
  simp +decide (maxSteps := 9^7) only [↓reduceIte, d4, d5, w6, d6, dl, hL0, go_sem]
  refine Runs.call cm ?_
  cases hmd : made (bt b p)
  ·have hr : rdM b (d + 1) p e = ⟨[⟨bt b p, sliceB b f n, 0⟩], 0, 0, f + n⟩ := by rw [rdM, hok, hmd]; rfl
   have cb := l1Bytes hm (sliceB b f n) (by have := sliceB_len b f n; omega)
   have hsl := slice_map (b := b) (f := f) (n := n)
   have tf : ((f : Int) + (n : Int)).toNat = f + n := by omega
   have ds : decide (0 ≤ (f : Int) ∧ (f : Int) ≤ (f : Int) + (n : Int) ∧ (f : Int) + (n : Int) ≤ (b.length : Int) ∧ (f : Int) + (n : Int) ≤ (f : Int) + (n : Int) ∧ (f : Int) + (n : Int) ≤ (b.length : Int)) = true := by simp; omega
   have gr : (L.map itemO ++ [A.agg [.v (.int .i64 (bt b p)), .v (.slice none 0 0), .v (.int .i64 0)]]).getD L.length .any = .agg [.v (.int .i64 (bt b p)), .v (.slice none 0 0), .v (.int .i64 0)] := by simp [List.getD]
   have sr : (L.map itemO ++ [A.agg [.v (.int .i64 (bt b p)), .v (.slice none 0 0), .v (.int .i64 0)]]).set L.length (.agg [.v (.int .i64 (bt b p)), .sl (.ow 1) ((sliceB b f n).map u8A), .v (.int .i64 0)]) = (L ++ [(⟨bt b p, sliceB b f n, 0⟩ : It)]).map itemO := by simp [List.set_append_right, itemO]
   have lr : (L.map itemO ++ [A.agg [.v (.int .i64 (bt b p)), .v (.slice none 0 0), .v (.int .i64 0)]]).length = L.length + 1 := by simp
   have dr : decide (0 ≤ (L.length : Int) ∧ (L.length : Int) < ((L.length + 1 : Nat) : Int)) = true := by simp; omega
   have l2 : ((L ++ [(⟨bt b p, sliceB b f n, 0⟩ : It)]).map itemO).length = L.length + 1 := by simp
   generalize hW : L.map itemO ++ [A.agg [.v (.int .i64 (bt b p)), .v (.slice none 0 0), .v (.int .i64 0)]] = W at gr sr lr
   generalize hW2 : (L ++ [(⟨bt b p, sliceB b f n, 0⟩ : It)]).map itemO = W2 at sr l2
   simp +decide (maxSteps := 9^7) only [↓reduceIte, hW, lr, go_sem]
   refine Runs.draw (st1 := ?s1) (draws_ref (ann := rrAnn) tabOk (byL [] [36, 57]) rrS1 (by kernel_rfl) ?p1) ?q1
   case p1 =>
    intro K r X hK
    simp +decide (maxSteps := 9^7) only [↓reduceIte, lr, hlen, ds, tf, hsl, w6, gr, sr, dr, Int.toNat_natCast, go_sem]
    repeat' (first | exact hK | apply And.intro | (refine Runs.call cb ?_; simp +decide (maxSteps := 9^7) only [↓reduceIte, lr, hlen, ds, tf, hsl, w6, gr, sr, dr, Int.toNat_natCast, go_sem]))
   case q1 =>
    simp +decide (maxSteps := 9^7) only [↓reduceIte, w6, l2, hr, hW2, go_sem]
    exact Runs.ret_refl
  ·obtain ⟨Z, hZ⟩ : ∃ Z, Z = loopM (fun q => rdM b d q (f + n)) (f + n) n f 0 [] := ⟨_, rfl⟩
   have hr : rdM b (d + 1) p e = ⟨⟨bt b p, [], Z.1⟩ :: Z.2.items, Z.2.code, Z.2.place, Z.2.next⟩ := by rw [rdM, hok, hmd, hZ]; rfl
   rw [hr]
   generalize bt b p = t at *
   simp +decide (maxSteps := 9^7) only [↓reduceIte, go_sem]
   refine Runs.while (α := Nat × Nat × List It) (rrSt b L t dp f n) (fun s => f + n - s.1) (fun s => f ≤ s.1 ∧ s.1 ≤ f + n ∧ s.2.1 ≤ s.2.2.length ∧ s.2.2.length ≤ s.1 - f ∧ ∃ k, f + n - s.1 ≤ k ∧ loopM (fun q => rdM b d q (f + n)) (f + n) k s.1 s.2.1 s.2.2 = Z) (f, 0, []) ⟨Nat.le_refl _, by omega, Nat.le_refl _, Nat.zero_le _, n, by omega, hZ.symm⟩ ?_ ?_
   ·simp [go_sem, rrAnn, rrSt, rowA_zero]
   rintro ⟨q, j, M⟩ ⟨i1, i2, i3, i4, k, i5, i6⟩ ih
   simp only at i1 i2 i3 i4 i5 i6
   simp +decide (maxSteps := 9^7) only [↓reduceIte, rrSt, w6, go_sem]
   refine Runs.split (fun h => ?_) (fun h => ?_)
   ·have hlt : q < f + n := by simp at h; omega
    have wd : IntKind.i64.wrap ((dp : Int) + 1) = ((dp + 1 : Nat) : Int) := by rw [wrap_i64 (by omega) (by omega)]; rfl
    have lx : (L ++ (⟨t, [], j⟩ : It) :: M).length = L.length + (M.length + 1) := by simp
    have cI : Holds Tryz.prog 36 [.agg [.sl .sh (b.map u8A), .sl (.ow 3) (rowA L t j M), .v (.int .i64 0), .v (.int .i64 0)], .v (.int .i64 q), .v (.int .i64 ((f : Int) + (n : Int))), .v (.int .i64 ((dp + 1 : Nat) : Int))] [] (.tup [rdrO b ((L ++ (⟨t, [], j⟩ : It) :: M) ++ (rdM b d q (f + n)).items) (rdM b d q (f + n)).code (rdM b d q (f + n)).place, .v (.int .i64 (rdM b d q (f + n)).next)]) [] :=
     Holds.le (IH q (f + n) (dp + 1) (L ++ (⟨t, [], j⟩ : It) :: M) (by omega) (by omega) (by omega) (by rw [lx]; omega)) (.agg (.same _ (.sl _ (le_row L t j M) (.same _ (.same _ .nil)))) (LeD.refl _))
    obtain ⟨R, hR⟩ : ∃ R, R = rdM b d q (f + n) := ⟨_, rfl⟩
    have hRok := rdM_ok hb d q (f + n)
    have hRp := rdM_place b d q (f + n)
    rw [← hR] at cI hRok hRp
    obtain ⟨k, rfl⟩ : ∃ k', k = k' + 1 := ⟨k - 1, by omega⟩
    rw [loopM, if_pos hlt] at i6
    simp only [← hR] at i6
    have lw : (((L ++ (⟨t, [], j⟩ : It) :: M) ++ R.items).map itemO).length = L.length + (M.length + R.items.length + 1) := by simp only [List.length_map, List.length_append, List.length_cons]; omega
    have gw : (((L ++ (⟨t, [], j⟩ : It) :: M) ++ R.items).map itemO).getD L.length .any = itemO ⟨t, [], j⟩ := by
     have e : (L ++ (⟨t, [], j⟩ : It) :: M) ++ R.items = L ++ (⟨t, [], j⟩ : It) :: (M ++ R.items) := by simp
     rw [e]; exact mid_get
    have sw := rowA_bump L t j M R.items
    simp only [rdrO] at cI
    generalize hW : ((L ++ (⟨t, [], j⟩ : It) :: M) ++ R.items).map itemO = W at cI lw gw sw
    simp +decide (maxSteps := 9^7) only [↓reduceIte, w6, wd, rowA_len, rowA_md, go_sem]
    refine Runs.call cI ?_
    by_cases hc : R.code = 0
    ·rw [if_pos hc] at i6
     obtain ⟨r1, r2⟩ := hRok
     obtain ⟨r3, r4, r5, r6⟩ := r2 hc
     have hp0 := hRp hc
     have wj : IntKind.i64.wrap ((j : Int) + 1) = ((j + 1 : Nat) : Int) := by rw [wrap_i64 (by omega) (by omega)]; rfl
     have dr : decide (0 ≤ (L.length : Int) ∧ (L.length : Int) < ((L.length + (M.length + R.items.length + 1) : Nat) : Int)) = true := by simp; omega
     simp +decide (maxSteps := 9^7) only [↓reduceIte, hc, hp0, lw, go_sem]
     refine Runs.draw (st1 := ?s2) (draws_ref (ann := rrAnn) tabOk (byL [] [36, 57]) rrS2 (by kernel_rfl) ?p2) ?q2
     case p2 =>
      intro K r X hK
      simp +decide (maxSteps := 9^7) only [↓reduceIte, lw, gw, sw, dr, wj, itemO, Int.toNat_natCast, go_sem]
      repeat' apply And.intro
      all_goals exact hK
     case q2 =>
      simp +decide (maxSteps := 9^7) only [↓reduceIte, go_sem]
      refine ih (R.next, j + 1, M ++ R.items) _ (by simp only; omega) ⟨by simp only; omega, r4, by simp only [List.length_append]; omega, by simp only [List.length_append]; omega, k, by simp only; omega, i6⟩ ?_
      simp [go_sem, rrAnn, rrSt, sw]
    ·rw [if_neg hc] at i6
     have dc : decide (R.code = 0) = false := by simpa using hc
     simp +decide (maxSteps := 9^7) only [↓reduceIte, hc, dc, lw, go_sem]
     rw [← i6]
     refine Runs.ret_eq ?_
     rw [← hW]
     simp
   ·have hge : f + n ≤ q := by simp at h; omega
    rw [loopM_end _ _ _ _ hge] at i6
    simp +decide (maxSteps := 9^7) only [↓reduceIte, w6, rowA_len, rowA_md, go_sem]
    rw [← i6]
    exact Runs.ret (.tup (.agg (.same _ (.sl _ (le_row L t j M) (.same _ (.same _ .nil)))) (LeD.refl _)) .nil) rfl
end Go.Proofs.W

namespace Go.Proofs.W
open Go Go.AM
variable (hm : Tryz.prog.follows .mixedOrders = true)
def derM (b : List Int) : List It × Int × Int :=
 if 4000 < b.length then ([], 1, 0)
 else if (rdM b 13 0 b.length).code ≠ 0 then ([], (rdM b 13 0 b.length).code, (rdM b 13 0 b.length).place)
 else if 300 < (rdM b 13 0 b.length).items.length then ([], 7, 0)
 else if (rdM b 13 0 b.length).next < b.length then ([], 5, (rdM b 13 0 b.length).next)
 else ((rdM b 13 0 b.length).items, 0, 0)
def doneA (r : List It × Int × Int) : A := .tup [.sl (.ow 3) (r.1.map itemO), .v (.int .i64 r.2.1), .v (.int .i64 r.2.2)]
def rdS6 : Sched := .take 0 (.take 1 (.take 3 (.take 5 (.lds 384 [2, 4] (.take 6 (.take 7 .fin))))))
attribute [local go_sem] rdS6
set_option maxHeartbeats 8000000 in
set_option maxRecDepth 10000 in
include hm in
theorem sReadDer (b : List Int) (hb : BytesOk b) (hl : b.length ≤ 1073741824) : Holds Tryz.prog 12 [.sl .sh (b.map u8A)] [] (doneA (derM b)) [] := by
 have hlen : (b.map u8A).length = b.length := List.length_map _
 rw [doneA]
 refine holds_ref (ann := []) tabOk hm (byL [] [36]) Tryz.func12 (by kernel_rfl) rfl ?_
 simp +decide (maxSteps := 9^7) only [↓reduceIte, Tryz.f12, hlen, go_sem]
 refine Runs.split (fun h => ?_) (fun h => ?_)
 ·have h1 : 4000 < b.length := by simp at h; omega
  have hd : derM b = ([], 1, 0) := by rw [derM, if_pos h1]
  rw [hd]
  simp +decide (maxSteps := 9^7) only [↓reduceIte, go_sem]
  exact Runs.ret_refl
 have h1 : ¬ 4000 < b.length := by simp at h; omega
 have c0 : Holds Tryz.prog 36 [.agg [.sl .sh (b.map u8A), .v (.slice none 0 0), .v (.int .i64 0), .v (.int .i64 0)], .v (.int .i64 0), .v (.int .i64 b.length), .v (.int .i64 0)] [] (.tup [rdrO b (rdM b 13 0 b.length).items (rdM b 13 0 b.length).code (rdM b 13 0 b.length).place, .v (.int .i64 (rdM b 13 0 b.length).next)]) [] :=
  Holds.le (l7Read hm b hb (by omega) 13 0 b.length 0 [] rfl (by omega) (by omega) (by simp; omega)) (.agg (.same _ (.nils _ (.same _ (.same _ .nil)))) (LeD.refl _))
 have hr := rdM_ok hb 13 0 b.length
 have hd : derM b = if (rdM b 13 0 b.length).code ≠ 0 then ([], (rdM b 13 0 b.length).code, (rdM b 13 0 b.length).place)
   else if 300 < (rdM b 13 0 b.length).items.length then ([], 7, 0)
   else if (rdM b 13 0 b.length).next < b.length then ([], 5, (rdM b 13 0 b.length).next)
   else ((rdM b 13 0 b.length).items, 0, 0) := by rw [derM, if_neg h1]
 rw [hd]
 generalize rdM b 13 0 b.length = R at *
 rw [rdrO] at c0
 have hRl : (R.items.map itemO).length = R.items.length := List.length_map _
 simp +decide (maxSteps := 9^7) only [↓reduceIte, hlen, go_sem]
 refine Runs.call c0 ?_
 by_cases hc : R.code = 0
 ·rw [if_neg (by simpa using hc)]
  simp +decide (maxSteps := 9^7) only [↓reduceIte, hc, hRl, go_sem]
  refine Runs.split (fun h => ?_) (fun h => ?_)
  ·have h2 : 300 < R.items.length := by simp at h; omega
   rw [if_pos h2]
   simp +decide (maxSteps := 9^7) only [↓reduceIte, go_sem]
   exact Runs.ret_refl
  ·have h2 : ¬ 300 < R.items.length := by simp at h; omega
   rw [if_neg h2]
   simp +decide (maxSteps := 9^7) only [↓reduceIte, hlen, go_sem]
   refine Runs.split (fun h => ?_) (fun h => ?_)
   ·have h3 : R.next < b.length := by simpa using h
    rw [if_pos h3]
    simp +decide (maxSteps := 9^7) only [↓reduceIte, go_sem]
    exact Runs.ret_refl
   ·have h3 : ¬ R.next < b.length := by simp at h; omega
    rw [if_neg h3]
    simp +decide (maxSteps := 9^7) only [↓reduceIte, hRl, go_sem]
    exact Runs.ret_refl
 ·have dc : decide (R.code = 0) = false := by simpa using hc
  rw [if_pos hc]
  simp +decide (maxSteps := 9^7) only [↓reduceIte, dc, hRl, go_sem]
  refine Runs.draw (st1 := ?s1) (draws_ref (ann := []) tabOk (byL [] [36]) rdS6 (by kernel_rfl) ?p1) ?q1
  case p1 =>
   intro K r X hK
   simp +decide (maxSteps := 9^7) only [↓reduceIte, hRl, go_sem]
   repeat' apply And.intro
   all_goals exact hK
  case q1 =>
   simp +decide (maxSteps := 9^7) only [↓reduceIte, hRl, go_sem]
   exact Runs.ret_refl
end Go.Proofs.W

namespace Go.Proofs.W
open Go Go.AM
variable (hm : Tryz.prog.follows .mixedOrders = true)
def itemW (x : It) : A := if made x.tag = true then .agg [.v (.int .i64 x.tag), .v (.slice none 0 0), .v (.int .i64 x.kids)] else itemO x
theorem itemW_made {x : It} (h : made x.tag = true) : itemW x = .agg [.v (.int .i64 x.tag), .v (.slice none 0 0), .v (.int .i64 x.kids)] := if_pos h
theorem itemW_leaf {x : It} (h : made x.tag = false) : itemW x = itemO x := if_neg (by rw [h]; simp)
theorem md1_itemW (x : It) : (itemW x).md = itemW x := by
 unfold itemW
 split
 ·simp [A.md, mdL]
 ·exact md1_itemO x
theorem md_itemW (L : List It) : mdL (L.map itemW) = L.map itemW := by
 rw [mdL_eq, List.map_map]; apply List.map_congr_left; intro x _; exact md1_itemW x
theorem rd_itemW (L : List It) : (if plainL (L.map itemW) = true then dnL (L.map itemW) else L.map itemW) = L.map itemW := by
 split
 ·rename_i h
  induction L with
  | nil => rfl
  | cons a l ih =>
   simp only [List.map_cons, plainL, Bool.and_eq_true] at h
   have ha : (itemW a).dn = itemW a := by
    have h1 := h.1
    revert h1
    unfold itemW
    split
    ·intro _; simp [A.dn, dnL]
    ·intro h1; rw [pl1_itemO] at h1; simp at h1
   simp only [List.map_cons, dnL, ha, ih h.2]
 ·rfl
theorem leW : ∀ (L : List It), (∀ x ∈ L, made x.tag = true → x.body = []) → LeD (L.map itemW) (L.map itemO)
 | [], _ => .nil
 | x :: L, h => by
  have hr := leW L fun y hy => h y (by simp [hy])
  simp only [List.map_cons]
  unfold itemW
  split
  ·rename_i hx
   have hb := h x (by simp) hx
   rw [itemO, hb]
   exact .agg (.same _ (.nils _ (.same _ .nil))) hr
  ·exact .same _ hr
attribute [local go_sem] md1_itemW md_itemW rd_itemW
def rdrX (b : List Int) (n : Nat) (c p : Int) : Blk := ⟨true, 4, true, [.agg [.sl .sh (b.map u8A), .ms (.x 1) 0 n n, .v (.int .i64 c), .v (.int .i64 p)]]⟩
def rowX (L : List It) : Blk := ⟨true, 3, false, L.map itemW⟩
set_option maxHeartbeats 8000000 in
set_option maxRecDepth 10000 in
include hm in
theorem failX (b : List Int) (L : List It) (c0 p0 c p : Int) : Holds Tryz.prog 72 [.ref (.x 0) 0 0 1, .v (.int .i64 c), .v (.int .i64 p)] [rdrX b L.length c0 p0, rowX L] (.v (.int .i64 (-1))) [rdrX b L.length c p, rowX L] := by
 have hL0 : (L.map itemW).length = L.length := List.length_map _
 rw [rdrX, rdrX, rowX]
 refine holds_ref (ann := []) tabOk hm (byL [] []) Tryz.func72 (by kernel_rfl) rfl ?_
 simp +decide (maxSteps := 9^7) only [↓reduceIte, Tryz.f72, hL0, go_sem]
 exact Runs.ret_refl
end Go.Proofs.W

namespace Go.Proofs.W
open Go Go.AM
variable (hm : Tryz.prog.follows .mixedOrders = true)
theorem bitsU : ∀ n : Fin 256, (BitVec.ofNat 8 n.1 &&& BitVec.ofNat 8 31).toNat = n.1 % 32 := by decide +kernel
theorem and31u {t : Int} (h1 : 0 ≤ t) (h2 : t < 256) : andI .u8 t 31 = t % 32 := by
 show IntKind.u8.wrap ((BitVec.ofInt 8 t &&& BitVec.ofInt 8 31).toNat : Int) = t % 32
 obtain ⟨n, rfl⟩ := Int.eq_ofNat_of_zero_le h1
 have := bitsU ⟨n, by omega⟩
 simp only [BitVec.ofInt_ofNat, BitVec.ofInt_natCast] at this ⊢
 rw [this, wrap_u8 (by omega) (by omega)]; omega
theorem or256 {x y : Int} (h1 : 0 ≤ x) (h2 : x < 256) (h3 : 0 ≤ y) (h4 : y < 256) : orI .i64 (x * 256) y = x * 256 + y := by
 show IntKind.i64.wrap ((BitVec.ofInt 64 (x * 256) ||| BitVec.ofInt 64 y).toNat : Int) = x * 256 + y
 obtain ⟨n, rfl⟩ := Int.eq_ofNat_of_zero_le h1
 obtain ⟨m, rfl⟩ := Int.eq_ofNat_of_zero_le h3
 have e : ((n : Int) * 256) = ((n * 256 : Nat) : Int) := by omega
 rw [e, BitVec.ofInt_natCast, BitVec.ofInt_natCast, BitVec.toNat_or, BitVec.toNat_ofNat, BitVec.toNat_ofNat, Nat.mod_eq_of_lt (by omega), Nat.mod_eq_of_lt (by omega)]
 have := Nat.shiftLeft_add_eq_or_of_lt (a := n) (b := m) (i := 8) (by omega)
 rw [Nat.shiftLeft_eq] at this
 rw [show n * 256 = n * 2 ^ 8 from rfl, ← this, wrap_i64 (by omega) (by omega)]; omega
theorem szP_ways {b : List Int} (hb : BytesOk b) (p e : Nat) (h1 : ¬ e ≤ p + 1) (f n : Nat) (c : Int) (hz : szP b (p + 1) e = (n, f, c)) :
  (bt b (p + 1) < 128 ∧ c = 0 ∧ f = p + 2 ∧ (n : Int) = bt b (p + 1))
  ∨ ((bt b (p + 1) = 128 ∨ 130 < bt b (p + 1)) ∧ c = 4)
  ∨ (bt b (p + 1) = 129 ∧ e ≤ p + 2 ∧ c = 2)
  ∨ (bt b (p + 1) = 129 ∧ ¬ e ≤ p + 2 ∧ bt b (p + 2) < 128 ∧ c = 4)
  ∨ (bt b (p + 1) = 129 ∧ ¬ e ≤ p + 2 ∧ ¬ bt b (p + 2) < 128 ∧ c = 0 ∧ f = p + 3 ∧ (n : Int) = bt b (p + 2))
  ∨ (bt b (p + 1) = 130 ∧ e ≤ p + 3 ∧ c = 2)
  ∨ (bt b (p + 1) = 130 ∧ ¬ e ≤ p + 3 ∧ bt b (p + 2) * 256 + bt b (p + 3) < 256 ∧ c = 4)
  ∨ (bt b (p + 1) = 130 ∧ ¬ e ≤ p + 3 ∧ ¬ bt b (p + 2) * 256 + bt b (p + 3) < 256 ∧ c = 0 ∧ f = p + 4 ∧ (n : Int) = bt b (p + 2) * 256 + bt b (p + 3)) := by
 have x1 := bt_rng hb (p + 1)
 have x2 := bt_rng hb (p + 2)
 have x3 := bt_rng hb (p + 3)
 have e1 : p + 1 + 1 = p + 2 := rfl
 have e2 : p + 1 + 2 = p + 3 := rfl
 rw [szP, if_neg h1] at hz
 by_cases a1 : bt b (p + 1) < 128
 ·rw [if_pos a1, Prod.mk.injEq, Prod.mk.injEq] at hz
  exact .inl (by omega)
 rw [if_neg a1] at hz
 by_cases a2 : bt b (p + 1) = 128 ∨ 130 < bt b (p + 1)
 ·rw [if_pos a2, Prod.mk.injEq, Prod.mk.injEq] at hz
  exact .inr (.inl ⟨a2, hz.2.2.symm⟩)
 rw [if_neg a2] at hz
 rcases (show bt b (p + 1) = 129 ∨ bt b (p + 1) = 130 by omega) with a3 | a3
 ·have v : szV b (p + 1) = bt b (p + 2) := by rw [szV, if_neg (by omega)]
  have w : (bt b (p + 1) - 128).toNat = 1 := by rw [a3]; rfl
  rw [v, w] at hz
  refine .inr (.inr ?_)
  by_cases a4 : e ≤ p + 2
  ·rw [if_pos a4, Prod.mk.injEq, Prod.mk.injEq] at hz
   exact .inl ⟨a3, a4, hz.2.2.symm⟩
  rw [if_neg a4] at hz
  by_cases a5 : bt b (p + 2) < 128
  ·rw [if_pos (.inl a5), Prod.mk.injEq, Prod.mk.injEq] at hz
   exact .inr (.inl ⟨a3, a4, a5, hz.2.2.symm⟩)
  rw [if_neg (by omega), Prod.mk.injEq, Prod.mk.injEq] at hz
  exact .inr (.inr (.inl ⟨a3, a4, a5, hz.2.2.symm, hz.2.1.symm, by omega⟩))
 ·have v : szV b (p + 1) = bt b (p + 2) * 256 + bt b (p + 3) := by rw [szV, if_pos (by omega)]
  have w : (bt b (p + 1) - 128).toNat = 2 := by rw [a3]; rfl
  rw [v, w] at hz
  refine .inr (.inr (.inr (.inr (.inr ?_))))
  by_cases a4 : e ≤ p + 3
  ·rw [if_pos a4, Prod.mk.injEq, Prod.mk.injEq] at hz
   exact .inl ⟨a3, a4, hz.2.2.symm⟩
  rw [if_neg (by omega)] at hz
  by_cases a5 : bt b (p + 2) * 256 + bt b (p + 3) < 256
  ·rw [if_pos (.inr ⟨a3, a5⟩), Prod.mk.injEq, Prod.mk.injEq] at hz
   exact .inr (.inl ⟨a3, a4, a5, hz.2.2.symm⟩)
  rw [if_neg (by omega), Prod.mk.injEq, Prod.mk.injEq] at hz
  exact .inr (.inr ⟨a3, a4, a5, hz.2.2.symm, hz.2.1.symm, by omega⟩)
def rjAnn : Ann := [(1, [0, 3, 9, 10, 13, 14])]
def rjS24 : Sched := .take 0 (.take 4 (.take 8 (.alt 1 (.take 2 (.alt 3 (.take 5 (.alt 6 (.alt 7 (.take 13 (.alt 9 (.take 10 (.alt 11 (.take 12 (.take 14 .fin)) .nil)) .nil)) (.alt 9 (.take 10 (.alt 7 (.take 13 (.alt 11 (.take 12 (.take 14 .fin)) .nil)) (.alt 11 (.take 12 (.alt 7 (.take 13 (.take 14 .fin)) .nil)) .nil))) .nil)) (.alt 9 (.take 10 (.alt 6 (.alt 7 (.take 13 (.alt 11 (.take 12 (.take 14 .fin)) .nil)) (.alt 11 (.take 12 (.alt 7 (.take 13 (.take 14 .fin)) .nil)) .nil)) (.alt 11 (.take 12 (.alt 6 (.alt 7 (.take 13 (.take 14 .fin)) .nil) .nil)) .nil))) .nil))) (.alt 9 (.take 10 (.alt 3 (.take 5 (.alt 6 (.alt 7 (.take 13 (.alt 11 (.take 12 (.take 14 .fin)) .nil)) (.alt 11 (.take 12 (.alt 7 (.take 13 (.take 14 .fin)) .nil)) .nil)) (.alt 11 (.take 12 (.alt 6 (.alt 7 (.take 13 (.take 14 .fin)) .nil) .nil)) .nil))) (.alt 11 (.take 12 (.alt 3 (.take 5 (.alt 6 (.alt 7 (.take 13 (.take 14 .fin)) .nil) .nil)) .nil)) .nil))) .nil))) (.alt 9 (.take 10 (.alt 1 (.take 2 (.alt 3 (.take 5 (.alt 6 (.alt 7 (.take 13 (.alt 11 (.take 12 (.take 14 .fin)) .nil)) (.alt 11 (.take 12 (.alt 7 (.take 13 (.take 14 .fin)) .nil)) .nil)) (.alt 11 (.take 12 (.alt 6 (.alt 7 (.take 13 (.take 14 .fin)) .nil) .nil)) .nil))) (.alt 11 (.take 12 (.alt 3 (.take 5 (.alt 6 (.alt 7 (.take 13 (.take 14 .fin)) .nil) .nil)) .nil)) .nil))) (.alt 11 (.take 12 (.alt 1 (.take 2 (.alt 3 (.take 5 (.alt 6 (.alt 7 (.take 13 (.take 14 .fin)) .nil) .nil)) .nil)) .nil)) .nil))) .nil))))
def rjS27 : Sched := .take 0 (.take 4 (.take 5 (.take 9 (.take 10 (.take 11 (.take 12 (.alt 1 (.take 2 (.alt 3 (.alt 6 (.take 7 (.alt 8 (.alt 13 (.alt 14 (.take 15 (.take 16 (.alt 17 .fin .nil))) .nil) .nil) .nil)) .nil) (.alt 6 (.take 7 (.alt 3 (.alt 8 (.alt 13 (.alt 14 (.take 15 (.take 16 (.alt 17 .fin .nil))) .nil) .nil) .nil) (.alt 8 (.alt 3 (.alt 13 (.alt 14 (.take 15 (.take 16 (.alt 17 .fin .nil))) .nil) .nil) (.alt 13 (.alt 3 (.alt 14 (.take 15 (.take 16 (.alt 17 .fin .nil))) .nil) (.alt 14 (.alt 3 (.take 15 (.take 16 (.alt 17 .fin .nil))) .nil) .nil)) .nil)) .nil))) .nil))) (.alt 6 (.take 7 (.alt 1 (.take 2 (.alt 3 (.alt 8 (.alt 13 (.alt 14 (.take 15 (.take 16 (.alt 17 .fin .nil))) .nil) .nil) .nil) (.alt 8 (.alt 3 (.alt 13 (.alt 14 (.take 15 (.take 16 (.alt 17 .fin .nil))) .nil) .nil) (.alt 13 (.alt 3 (.alt 14 (.take 15 (.take 16 (.alt 17 .fin .nil))) .nil) (.alt 14 (.alt 3 (.take 15 (.take 16 (.alt 17 .fin .nil))) .nil) .nil)) .nil)) .nil))) (.alt 8 (.alt 1 (.take 2 (.alt 3 (.alt 13 (.alt 14 (.take 15 (.take 16 (.alt 17 .fin .nil))) .nil) .nil) (.alt 13 (.alt 3 (.alt 14 (.take 15 (.take 16 (.alt 17 .fin .nil))) .nil) (.alt 14 (.alt 3 (.take 15 (.take 16 (.alt 17 .fin .nil))) .nil) .nil)) .nil))) (.alt 13 (.alt 1 (.take 2 (.alt 3 (.alt 14 (.take 15 (.take 16 (.alt 17 .fin .nil))) .nil) (.alt 14 (.alt 3 (.take 15 (.take 16 (.alt 17 .fin .nil))) .nil) .nil))) (.alt 14 (.alt 1 (.take 2 (.alt 3 (.take 15 (.take 16 (.alt 17 .fin .nil))) .nil)) .nil) .nil)) .nil)) .nil))) .nil))))))))
attribute [local go_sem] rjS24 rjS27
def rjSt (b : List Int) (L : List It) (t : Int) (dp f n : Nat) (s : Nat × Nat × List It) : St := ⟨[.ref (.x 0) 0 0 1, .any, .any, .v (.int .i64 dp), .any, .any, .any, .any, .any, .v (.int .i64 n), .v (.int .i64 f), .any, .any, .v (.int .i64 L.length), .v (.int .i64 s.1), .any, .any, .any, .any, .any, .any, .any, .any, .any, .any, .any, .any, .any, .any, .any, .any, .any, .any, .any, .any, .any, .any, .any, .any, .any, .any, .any, .any, .any, .any, .any, .any, .any, .any, .any, .any, .any, .any, .any, .any, .any, .any, .any, .any, .any, .any, .any, .any, .any, .any, .any, .any, .any, .any, .any, .any, .any, .any, .any, .any, .any, .any, .any, .any, .any, .any, .any, .any, .any, .any, .any, .any, .any, .any, .any, .any, .any, .any, .any, .any, .any, .any, .any, .any, .any, .any, .any, .any, .any, .any, .any, .any, .any, .any, .any, .any, .any, .any, .any, .any, .any, .any, .any, .any, .any, .any, .any, .any, .any, .any, .any, .any, .any, .any, .any, .any, .any, .any, .any, .any, .any, .any, .any, .any, .any, .any, .any, .any, .any, .any, .any, .any, .any, .any, .any, .any, .any, .any, .any, .any, .any, .any, .any, .any, .any, .any, .any, .any, .any, .any, .any, .any, .any, .any, .any, .any, .any, .any, .any, .any, .any, .any, .any, .any, .any, .any, .any, .any, .any, .any, .any, .any, .any, .any, .any, .any, .any, .any, .any, .any, .any, .any, .any, .any, .any, .any, .any, .any, .any, .any, .any], [], [⟨true, 4, true, [.agg [.sl .sh (b.map u8A), .ms (.x 1) 0 (L.length + (s.2.2.length + 1)) (L.length + (s.2.2.length + 1)), .v (.int .i64 0), .v (.int .i64 0)]]⟩, ⟨true, 3, false, (L ++ (⟨t, [], s.2.1⟩ : It) :: s.2.2).map itemW⟩]⟩
set_option maxHeartbeats 8000000 in
set_option maxRecDepth 10000 in
include hm in
theorem itemX (b : List Int) (hb : BytesOk b) (hl : b.length ≤ 4000) : ∀ (d p e dp : Nat) (L : List It), d + dp = 13 → p ≤ b.length → e ≤ b.length → L.length + (e - p) ≤ 8000 →
  Holds Tryz.prog 46 [.ref (.x 0) 0 0 1, .v (.int .i64 p), .v (.int .i64 e), .v (.int .i64 dp)] [rdrX b L.length 0 0, rowX L] (.v (.int .i64 (if (rdM b d p e).code = 0 then ((rdM b d p e).next : Int) else -1)))
   [rdrX b (L.length + (rdM b d p e).items.length) (rdM b d p e).code (rdM b d p e).place, rowX (L ++ (rdM b d p e).items)] := by
 intro d
 induction d with
 | zero =>
  intro p e dp L hd hp he hL
  have hdp : dp = 13 := by omega
  subst hdp
  have hlen : (b.map u8A).length = b.length := List.length_map _
  have hL0 : (L.map itemW).length = L.length := List.length_map _
  have x1 := bt_rng hb p
  have fl := fun c q => failX hm b L 0 0 c q
  simp only [rdrX, rowX] at fl ⊢
  have bad : ∀ {c : Int} {q : Nat}, hdP b 0 p e = .bad c q → rdM b 0 p e = ⟨[], c, q, p⟩ := fun h => by rw [rdM, h]
  refine holds_ref (ann := rjAnn) tabOk hm (byL [46, 72] []) Tryz.func46 (by kernel_rfl) rfl ?_
  simp +decide (maxSteps := 9^7) only [↓reduceIte, Tryz.f46, hL0, go_sem]
  refine Runs.split (fun h => ?_) (fun h => ?_)
  ·have h' : e ≤ p := by simp at h; omega
   have hr := bad (c := 2) (q := p) (by rw [hdP, if_pos h'])
   simp +decide (maxSteps := 9^7) only [↓reduceIte, hL0, md_itemW, rd_itemW, go_sem]
   refine Runs.call (fl 2 p) ?_
   simp +decide (maxSteps := 9^7) only [↓reduceIte, hL0, hr, List.append_nil, md_itemW, rd_itemW, go_sem]
   exact Runs.ret_refl
  have h1 : ¬ e ≤ p := by simp at h; omega
  have g1 := bt_get (b := b) (i := p) (by omega)
  have r1 : decide (0 ≤ (p : Int) ∧ (p : Int) < (b.length : Int)) = true := by simp; omega
  have m1 : andI .u8 (bt b p) 31 = bt b p % 32 := and31u x1.1 x1.2
  by_cases h2 : bt b p % 32 = 31
  ·have d2 : decide (bt b p % 32 = 31) = true := by simpa using h2
   have hr := bad (c := 3) (q := p) (by rw [hdP, if_neg h1, if_pos h2])
   simp +decide (maxSteps := 9^7) only [↓reduceIte, hlen, g1, r1, m1, d2, hL0, Int.toNat_natCast, md_itemW, rd_itemW, go_sem]
   refine Runs.call (fl 3 p) ?_
   simp +decide (maxSteps := 9^7) only [↓reduceIte, hL0, hr, List.append_nil, md_itemW, rd_itemW, go_sem]
   exact Runs.ret_refl
  have d2 : decide (bt b p % 32 = 31) = false := by simpa using h2
  have hr := bad (c := 6) (q := p) (by rw [hdP, if_neg h1, if_neg h2, if_pos rfl])
  simp +decide (maxSteps := 9^7) only [↓reduceIte, hlen, g1, r1, m1, d2, hL0, Int.toNat_natCast, md_itemW, rd_itemW, go_sem]
  refine Runs.call (fl 6 p) ?_
  simp +decide (maxSteps := 9^7) only [↓reduceIte, hL0, hr, List.append_nil, md_itemW, rd_itemW, go_sem]
  exact Runs.ret_refl
 | succ d IH =>
  intro p e dp L hd hp he hL
  have hlen : (b.map u8A).length = b.length := List.length_map _
  have hL0 : (L.map itemW).length = L.length := List.length_map _
  have x1 := bt_rng hb p
  have y1 := bt_rng hb (p + 1)
  have y2 := bt_rng hb (p + 2)
  have y3 := bt_rng hb (p + 3)
  have fl := fun c q => failX hm b L 0 0 c q
  simp only [rdrX, rowX] at fl ⊢
  have bad : ∀ {c : Int} {q : Nat}, hdP b (d + 1) p e = .bad c q → rdM b (d + 1) p e = ⟨[], c, q, p⟩ := fun h => by rw [rdM, h]
  refine holds_ref (ann := rjAnn) tabOk hm (byL [46, 72] []) Tryz.func46 (by kernel_rfl) rfl ?_
  simp +decide (maxSteps := 9^7) only [↓reduceIte, Tryz.f46, hL0, go_sem]
  refine Runs.split (fun h => ?_) (fun h => ?_)
  ·have h' : e ≤ p := by simp at h; omega
   have hr := bad (c := 2) (q := p) (by rw [hdP, if_pos h'])
   simp +decide (maxSteps := 9^7) only [↓reduceIte, hL0, md_itemW, rd_itemW, go_sem]
   refine Runs.call (fl 2 p) ?_
   simp +decide (maxSteps := 9^7) only [↓reduceIte, hL0, hr, List.append_nil, md_itemW, rd_itemW, go_sem]
   exact Runs.ret_refl
  have h1 : ¬ e ≤ p := by simp at h; omega
  have g1 := bt_get (b := b) (i := p) (by omega)
  have r1 : decide (0 ≤ (p : Int) ∧ (p : Int) < (b.length : Int)) = true := by simp; omega
  have m1 : andI .u8 (bt b p) 31 = bt b p % 32 := and31u x1.1 x1.2
  by_cases h2 : bt b p % 32 = 31
  ·have d2 : decide (bt b p % 32 = 31) = true := by simpa using h2
   have hr := bad (c := 3) (q := p) (by rw [hdP, if_neg h1, if_pos h2])
   simp +decide (maxSteps := 9^7) only [↓reduceIte, hlen, g1, r1, m1, d2, hL0, Int.toNat_natCast, md_itemW, rd_itemW, go_sem]
   refine Runs.call (fl 3 p) ?_
   simp +decide (maxSteps := 9^7) only [↓reduceIte, hL0, hr, List.append_nil, md_itemW, rd_itemW, go_sem]
   exact Runs.ret_refl
  have d2 : decide (bt b p % 32 = 31) = false := by simpa using h2
  have d3 : decide ((dp : Int) > 12) = false := by simp; omega
  have wp : IntKind.i64.wrap ((p : Int) + 1) = ((p + 1 : Nat) : Int) := by rw [wrap_i64 (by omega) (by omega)]; rfl
  have wp2 : IntKind.i64.wrap ((p : Int) + 2) = ((p + 2 : Nat) : Int) := by rw [wrap_i64 (by omega) (by omega)]; rfl
  by_cases h3 : e ≤ p + 1
  ·have d4 : decide (((p + 1 : Nat) : Int) ≥ (e : Int)) = true := by simp; omega
   have hr := bad (c := 2) (q := p) (by rw [hdP, if_neg h1, if_neg h2, if_neg (by omega), if_pos (by rw [szP, if_pos h3])])
   simp +decide (maxSteps := 9^7) only [↓reduceIte, hlen, g1, r1, m1, d2, d3, d4, wp, hL0, Int.toNat_natCast, md_itemW, rd_itemW, go_sem]
   refine Runs.call (fl 2 p) ?_
   simp +decide (maxSteps := 9^7) only [↓reduceIte, hL0, hr, List.append_nil, md_itemW, rd_itemW, go_sem]
   exact Runs.ret_refl
  have d4 : decide (((p + 1 : Nat) : Int) ≥ (e : Int)) = false := by simp; omega
  have g2 := bt_get (b := b) (i := p + 1) (by omega)
  have r2 : decide (0 ≤ ((p + 1 : Nat) : Int) ∧ ((p + 1 : Nat) : Int) < (b.length : Int)) = true := by simp; omega
  have k2 : IntKind.i64.wrap (bt b (p + 1)) = bt b (p + 1) := wrap_i64 (by omega) (by omega)
  obtain ⟨n, f, c, hz⟩ : ∃ n f c, szP b (p + 1) e = (n, f, c) := ⟨_, _, _, rfl⟩
  have hh : hdP b (d + 1) p e = if c = 2 then .bad 2 p else if c = 4 then .bad 4 (p + 1) else if e < f + n then .bad 2 p else .ok f n := by
   rw [hdP, if_neg h1, if_neg h2, if_neg (by omega), hz]
  have ways := szP_ways hb p e h3 f n c hz
  clear hz
  rcases ways with ⟨u1, uc, uf, un⟩ | ⟨u1, uc⟩ | ⟨u1, u2, uc⟩ | ⟨u1, u2, u3, uc⟩ | ⟨u1, u2, u3, uc, uf, un⟩ | ⟨u1, u2, uc⟩ | ⟨u1, u2, u3, uc⟩ | ⟨u1, u2, u3, uc, uf, un⟩
  rotate_left 1
  ·have hr := bad (c := 4) (q := p + 1) (by rw [hh, uc]; rfl)
   by_cases v1 : bt b (p + 1) = 128
   ·have e1 : decide (bt b (p + 1) = 128) = true := by simpa using v1
    simp +decide (maxSteps := 9^7) only [↓reduceIte, hlen, g1, r1, m1, d2, d3, d4, wp, wp2, g2, r2, k2, hL0, Int.toNat_natCast, md_itemW, rd_itemW, e1, go_sem]
    refine Runs.call (fl 4 (p + 1 : Nat)) ?_
    simp +decide (maxSteps := 9^7) only [↓reduceIte, hL0, hr, List.append_nil, md_itemW, rd_itemW, go_sem]
    exact Runs.ret_refl
   have e1 : decide (bt b (p + 1) = 128) = false := by simpa using v1
   have e2 : decide (bt b (p + 1) > 130) = true := by simp; omega
   simp +decide (maxSteps := 9^7) only [↓reduceIte, hlen, g1, r1, m1, d2, d3, d4, wp, wp2, g2, r2, k2, hL0, Int.toNat_natCast, md_itemW, rd_itemW, e1, e2, go_sem]
   refine Runs.call (fl 4 (p + 1 : Nat)) ?_
   simp +decide (maxSteps := 9^7) only [↓reduceIte, hL0, hr, List.append_nil, md_itemW, rd_itemW, go_sem]
   exact Runs.ret_refl
  ·have hr := bad (c := 2) (q := p) (by rw [hh, uc]; rfl)
   have e1 : decide (bt b (p + 1) = 128) = false := by simp; omega
   have e2 : decide (bt b (p + 1) > 130) = false := by simp; omega
   have hk : IntKind.i64.wrap (bt b (p + 1) - 128) = 1 := by rw [u1]; rfl
   have w3 : IntKind.i64.wrap (((p + 2 : Nat) : Int) + 1) = ((p + 3 : Nat) : Int) := by rw [wrap_i64 (by omega) (by omega)]; rfl
   have e3 : decide (((p + 3 : Nat) : Int) > (e : Int)) = true := by simp; omega
   simp +decide (maxSteps := 9^7) only [↓reduceIte, hlen, g1, r1, m1, d2, d3, d4, wp, wp2, g2, r2, k2, hL0, Int.toNat_natCast, md_itemW, rd_itemW, e1, e2, hk, w3, e3, go_sem]
   refine Runs.call (fl 2 p) ?_
   simp +decide (maxSteps := 9^7) only [↓reduceIte, hL0, hr, List.append_nil, md_itemW, rd_itemW, go_sem]
   exact Runs.ret_refl
  ·have hr := bad (c := 4) (q := p + 1) (by rw [hh, uc]; rfl)
   have e1 : decide (bt b (p + 1) = 128) = false := by simp; omega
   have e2 : decide (bt b (p + 1) > 130) = false := by simp; omega
   have hk : IntKind.i64.wrap (bt b (p + 1) - 128) = 1 := by rw [u1]; rfl
   have w3 : IntKind.i64.wrap (((p + 2 : Nat) : Int) + 1) = ((p + 3 : Nat) : Int) := by rw [wrap_i64 (by omega) (by omega)]; rfl
   have e3 : decide (((p + 3 : Nat) : Int) > (e : Int)) = false := by simp; omega
   have g3 := bt_get (b := b) (i := p + 2) (by omega)
   have r3 : decide (0 ≤ ((p + 2 : Nat) : Int) ∧ ((p + 2 : Nat) : Int) < (b.length : Int)) = true := by simp; omega
   have k3 : IntKind.i64.wrap (bt b (p + 2)) = bt b (p + 2) := wrap_i64 (by omega) (by omega)
   have e4 : decide (bt b (p + 2) < 128) = true := by simp; omega
   simp +decide (maxSteps := 9^7) only [↓reduceIte, hlen, g1, r1, m1, d2, d3, d4, wp, wp2, g2, r2, k2, hL0, Int.toNat_natCast, md_itemW, rd_itemW, e1, e2, hk, w3, e3, g3, r3, k3, e4, go_sem]
   refine Runs.call (fl 4 (p + 1 : Nat)) ?_
   simp +decide (maxSteps := 9^7) only [↓reduceIte, hL0, hr, List.append_nil, md_itemW, rd_itemW, go_sem]
   exact Runs.ret_refl
  rotate_left 1
  ·have hr := bad (c := 2) (q := p) (by rw [hh, uc]; rfl)
   have e1 : decide (bt b (p + 1) = 128) = false := by simp; omega
   have e2 : decide (bt b (p + 1) > 130) = false := by simp; omega
   have hk : IntKind.i64.wrap (bt b (p + 1) - 128) = 2 := by rw [u1]; rfl
   have w3 : IntKind.i64.wrap (((p + 2 : Nat) : Int) + 2) = ((p + 4 : Nat) : Int) := by rw [wrap_i64 (by omega) (by omega)]; rfl
   have e3 : decide (((p + 4 : Nat) : Int) > (e : Int)) = true := by simp; omega
   simp +decide (maxSteps := 9^7) only [↓reduceIte, hlen, g1, r1, m1, d2, d3, d4, wp, wp2, g2, r2, k2, hL0, Int.toNat_natCast, md_itemW, rd_itemW, e1, e2, hk, w3, e3, go_sem]
   refine Runs.call (fl 2 p) ?_
   simp +decide (maxSteps := 9^7) only [↓reduceIte, hL0, hr, List.append_nil, md_itemW, rd_itemW, go_sem]
   exact Runs.ret_refl
  ·have hr := bad (c := 4) (q := p + 1) (by rw [hh, uc]; rfl)
   have e1 : decide (bt b (p + 1) = 128) = false := by simp; omega
   have e2 : decide (bt b (p + 1) > 130) = false := by simp; omega
   have hk : IntKind.i64.wrap (bt b (p + 1) - 128) = 2 := by rw [u1]; rfl
   have w3 : IntKind.i64.wrap (((p + 2 : Nat) : Int) + 2) = ((p + 4 : Nat) : Int) := by rw [wrap_i64 (by omega) (by omega)]; rfl
   have e3 : decide (((p + 4 : Nat) : Int) > (e : Int)) = false := by simp; omega
   have g3 := bt_get (b := b) (i := p + 2) (by omega)
   have r3 : decide (0 ≤ ((p + 2 : Nat) : Int) ∧ ((p + 2 : Nat) : Int) < (b.length : Int)) = true := by simp; omega
   have k3 : IntKind.i64.wrap (bt b (p + 2)) = bt b (p + 2) := wrap_i64 (by omega) (by omega)
   have g4 := bt_get (b := b) (i := p + 3) (by omega)
   have r4 : decide (0 ≤ ((p + 3 : Nat) : Int) ∧ ((p + 3 : Nat) : Int) < (b.length : Int)) = true := by simp; omega
   have k4 : IntKind.i64.wrap (bt b (p + 3)) = bt b (p + 3) := wrap_i64 (by omega) (by omega)
   have w4 : IntKind.i64.wrap (((p + 2 : Nat) : Int) + 1) = ((p + 3 : Nat) : Int) := by rw [wrap_i64 (by omega) (by omega)]; rfl
   have ho := or256 y2.1 y2.2 y3.1 y3.2
   have ws : IntKind.i64.wrap (bt b (p + 2) * 2 ^ 8) = bt b (p + 2) * 256 := wrap_i64 (by omega) (by omega)
   have mn : min (Int.toNat 8) 64 = 8 := rfl
   have e5 : decide (bt b (p + 2) * 256 + bt b (p + 3) < 256) = true := by simp; omega
   cases e4 : decide (bt b (p + 2) * 256 + bt b (p + 3) < 128)
   ·simp +decide (maxSteps := 9^7) only [↓reduceIte, hlen, g1, r1, m1, d2, d3, d4, wp, wp2, g2, r2, k2, hL0, Int.toNat_natCast, md_itemW, rd_itemW, e1, e2, hk, w3, w4, e3, g3, r3, k3, g4, r4, k4, mn, ws, ho, e4, e5, go_sem]
    refine Runs.call (fl 4 (p + 1 : Nat)) ?_
    simp +decide (maxSteps := 9^7) only [↓reduceIte, hL0, hr, List.append_nil, md_itemW, rd_itemW, go_sem]
    exact Runs.ret_refl
   ·simp +decide (maxSteps := 9^7) only [↓reduceIte, hlen, g1, r1, m1, d2, d3, d4, wp, wp2, g2, r2, k2, hL0, Int.toNat_natCast, md_itemW, rd_itemW, e1, e2, hk, w3, w4, e3, g3, r3, k3, g4, r4, k4, mn, ws, ho, e4, go_sem]
    refine Runs.call (fl 4 (p + 1 : Nat)) ?_
    simp +decide (maxSteps := 9^7) only [↓reduceIte, hL0, hr, List.append_nil, md_itemW, rd_itemW, go_sem]
    exact Runs.ret_refl
  focus
   have e1 : decide (bt b (p + 1) = 128) = false := by simp; omega
   have e2 : decide (bt b (p + 1) > 130) = false := by simp; omega
   have hk : IntKind.i64.wrap (bt b (p + 1) - 128) = 2 := by rw [u1]; rfl
   have w3 : IntKind.i64.wrap (((p + 2 : Nat) : Int) + 2) = (f : Int) := by rw [wrap_i64 (by omega) (by omega)]; omega
   have e3 : decide ((f : Int) > (e : Int)) = false := by simp; omega
   have g3 := bt_get (b := b) (i := p + 2) (by omega)
   have r3 : decide (0 ≤ ((p + 2 : Nat) : Int) ∧ ((p + 2 : Nat) : Int) < (b.length : Int)) = true := by simp; omega
   have k3 : IntKind.i64.wrap (bt b (p + 2)) = bt b (p + 2) := wrap_i64 (by omega) (by omega)
   have g4 := bt_get (b := b) (i := p + 3) (by omega)
   have r4 : decide (0 ≤ ((p + 3 : Nat) : Int) ∧ ((p + 3 : Nat) : Int) < (b.length : Int)) = true := by simp; omega
   have k4 : IntKind.i64.wrap (bt b (p + 3)) = bt b (p + 3) := wrap_i64 (by omega) (by omega)
   have w4 : IntKind.i64.wrap (((p + 2 : Nat) : Int) + 1) = ((p + 3 : Nat) : Int) := by rw [wrap_i64 (by omega) (by omega)]; rfl
   have ho := or256 y2.1 y2.2 y3.1 y3.2
   rw [← un] at ho
   have ws : IntKind.i64.wrap (bt b (p + 2) * 2 ^ 8) = bt b (p + 2) * 256 := wrap_i64 (by omega) (by omega)
   have mn : min (Int.toNat 8) 64 = 8 := rfl
   have e4 : decide ((n : Int) < 128) = false := by simp; omega
   have e5 : decide ((n : Int) < 256) = false := by simp; omega
   simp +decide (maxSteps := 9^7) only [↓reduceIte, hlen, g1, r1, m1, d2, d3, d4, wp, g2, r2, k2, hL0, Int.toNat_natCast, md_itemW, rd_itemW, wp2, e1, e2, hk, w3, w4, e3, g3, r3, k3, g4, r4, k4, mn, ws, ho, e4, e5, go_sem]
  rotate_left 1
  focus
   have wq : IntKind.i64.wrap ((p : Int) + 2) = (f : Int) := by rw [wrap_i64 (by omega) (by omega)]; omega
   have e1 : decide ((n : Int) = 128) = false := by simp; omega
   have e2 : decide ((n : Int) > 130) = false := by simp; omega
   have hk : IntKind.i64.wrap ((n : Int) - 128) = (n : Int) - 128 := wrap_i64 (by omega) (by omega)
   have e3 : decide ((n : Int) - 128 > 0) = false := by simp; omega
   have un' := un.symm
   have kn : IntKind.i64.wrap (n : Int) = n := wrap_i64 (by omega) (by omega)
   simp +decide (maxSteps := 9^7) only [↓reduceIte, hlen, g1, r1, m1, d2, d3, d4, wp, g2, r2, k2, hL0, Int.toNat_natCast, md_itemW, rd_itemW, wq, un', kn, e1, e2, hk, e3, go_sem]
  rotate_left 1
  focus
   have e1 : decide (bt b (p + 1) = 128) = false := by simp; omega
   have e2 : decide (bt b (p + 1) > 130) = false := by simp; omega
   have hk : IntKind.i64.wrap (bt b (p + 1) - 128) = 1 := by rw [u1]; rfl
   have w3 : IntKind.i64.wrap (((p + 2 : Nat) : Int) + 1) = (f : Int) := by rw [wrap_i64 (by omega) (by omega)]; omega
   have e3 : decide ((f : Int) > (e : Int)) = false := by simp; omega
   have g3 := bt_get (b := b) (i := p + 2) (by omega)
   have r3 : decide (0 ≤ ((p + 2 : Nat) : Int) ∧ ((p + 2 : Nat) : Int) < (b.length : Int)) = true := by simp; omega
   have k3 : IntKind.i64.wrap (bt b (p + 2)) = (n : Int) := by rw [wrap_i64 (by omega) (by omega), un]
   have e4 : decide ((n : Int) < 128) = false := by simp; omega
   simp +decide (maxSteps := 9^7) only [↓reduceIte, hlen, g1, r1, m1, d2, d3, d4, wp, g2, r2, k2, hL0, Int.toNat_natCast, md_itemW, rd_itemW, wp2, e1, e2, hk, w3, e3, g3, r3, k3, e4, go_sem]
  all_goals
   have wfn : IntKind.i64.wrap ((f : Int) + (n : Int)) = (f : Int) + (n : Int) := wrap_i64 (by omega) (by omega)
   by_cases h6 : e < f + n
   ·have d6 : decide ((f : Int) + (n : Int) > (e : Int)) = true := by simp; omega
    have hr := bad (c := 2) (q := p) (by rw [hh, uc, if_neg (by decide), if_neg (by decide), if_pos h6])
    simp +decide (maxSteps := 9^7) only [↓reduceIte, wfn, d6, hL0, md_itemW, rd_itemW, go_sem]
    refine Runs.call (fl 2 p) ?_
    simp +decide (maxSteps := 9^7) only [↓reduceIte, hL0, hr, List.append_nil, md_itemW, rd_itemW, go_sem]
    exact Runs.ret_refl
   have hok : hdP b (d + 1) p e = .ok f n := by rw [hh, uc, if_neg (by decide), if_neg (by decide), if_neg h6]
   obtain ⟨o1, o2, o3, o4, _⟩ := hd_ok hb hok
   have d6 : decide ((f : Int) + (n : Int) > (e : Int)) = false := by simp; omega
   have dl : decide (L.length + 1 ≤ 1073741824) = true := by simp; omega
   have cm := isMade hm (bt b p) x1.1 (by omega)
   have k1 : IntKind.i64.wrap (bt b p) = bt b p := wrap_i64 (by omega) (by omega)
   simp +decide (maxSteps := 9^7) only [↓reduceIte, wfn, d6, hL0, go_sem]
   apply Runs.draw
   ·apply draws_ref (ann := rjAnn) tabOk (byL [46, 72] []) rjS24 (by kernel_rfl)
    intro K r X hK
    simp +decide (maxSteps := 9^7) only [↓reduceIte, hlen, g1, r1, k1, hL0, Int.toNat_natCast, go_sem]
    repeat' apply And.intro
    all_goals exact hK
   simp +decide (maxSteps := 9^7) only [↓reduceIte, dl, hL0, go_sem]
   refine Runs.call cm ?_
   cases hmd : made (bt b p)
   ·have hr : rdM b (d + 1) p e = ⟨[⟨bt b p, sliceB b f n, 0⟩], 0, 0, f + n⟩ := by rw [rdM, hok, hmd]; rfl
    have cb := cloneB hm (sliceB b f n) (by have := sliceB_len b f n; omega)
    have hsl := slice_map (b := b) (f := f) (n := n)
    have tf : ((f : Int) + (n : Int)).toNat = f + n := by omega
    have ds : decide (0 ≤ (f : Int) ∧ (f : Int) ≤ (f : Int) + (n : Int) ∧ (f : Int) + (n : Int) ≤ (b.length : Int) ∧ (f : Int) + (n : Int) ≤ (f : Int) + (n : Int) ∧ (f : Int) + (n : Int) ≤ (b.length : Int)) = true := by simp; omega
    have gr : (L.map itemW ++ [A.agg [.v (.int .i64 (bt b p)), .v (.slice none 0 0), .v (.int .i64 0)]]).getD L.length .any = .agg [.v (.int .i64 (bt b p)), .v (.slice none 0 0), .v (.int .i64 0)] := by simp [List.getD]
    have sr : (L.map itemW ++ [A.agg [.v (.int .i64 (bt b p)), .v (.slice none 0 0), .v (.int .i64 0)]]).set L.length (.agg [.v (.int .i64 (bt b p)), .sl (.ow 1) ((sliceB b f n).map u8A), .v (.int .i64 0)]) = (L ++ [(⟨bt b p, sliceB b f n, 0⟩ : It)]).map itemW := by
     rw [List.map_append, List.map_cons, itemW_leaf (by exact hmd)]; simp [List.set_append_right, itemO]
    have lr : (L.map itemW ++ [A.agg [.v (.int .i64 (bt b p)), .v (.slice none 0 0), .v (.int .i64 0)]]).length = L.length + 1 := by simp
    have dr : decide (0 ≤ (L.length : Int) ∧ (L.length : Int) < ((L.length + 1 : Nat) : Int)) = true := by simp; omega
    have l2 : ((L ++ [(⟨bt b p, sliceB b f n, 0⟩ : It)]).map itemW).length = L.length + 1 := by simp
    generalize hW : L.map itemW ++ [A.agg [.v (.int .i64 (bt b p)), .v (.slice none 0 0), .v (.int .i64 0)]] = W at gr sr lr
    generalize hW2 : (L ++ [(⟨bt b p, sliceB b f n, 0⟩ : It)]).map itemW = W2 at sr l2
    simp +decide (maxSteps := 9^7) only [↓reduceIte, hW, lr, go_sem]
    apply Runs.draw
    ·apply draws_ref (ann := rjAnn) tabOk (byL [46, 72] []) rjS27 (by kernel_rfl)
     intro K r X hK
     simp +decide (maxSteps := 9^7) only [↓reduceIte, lr, hlen, ds, tf, hsl, wfn, gr, sr, dr, Int.toNat_natCast, go_sem]
     repeat' (first | exact hK | apply And.intro | (refine Runs.call cb ?_; simp +decide (maxSteps := 9^7) only [↓reduceIte, lr, hlen, ds, tf, hsl, wfn, gr, sr, dr, Int.toNat_natCast, go_sem]))
    simp +decide (maxSteps := 9^7) only [↓reduceIte, wfn, l2, hr, hW2, go_sem]
    exact Runs.ret_refl
   ·obtain ⟨Z, hZ⟩ : ∃ Z, Z = loopM (fun q => rdM b d q (f + n)) (f + n) n f 0 [] := ⟨_, rfl⟩
    have hr : rdM b (d + 1) p e = ⟨⟨bt b p, [], Z.1⟩ :: Z.2.items, Z.2.code, Z.2.place, Z.2.next⟩ := by rw [rdM, hok, hmd, hZ]; rfl
    have hw : ∀ j : Int, itemW ⟨bt b p, [], j⟩ = .agg [.v (.int .i64 (bt b p)), .v (.slice none 0 0), .v (.int .i64 j)] := fun j => itemW_made (x := ⟨bt b p, [], j⟩) hmd
    rw [hr]
    clear hr hh hok bad g1 m1 k1 cm
    generalize bt b p = t at *
    simp +decide (maxSteps := 9^7) only [↓reduceIte, go_sem]
    refine Runs.while (α := Nat × Nat × List It) (rjSt b L t dp f n) (fun s => f + n - s.1) (fun s => f ≤ s.1 ∧ s.1 ≤ f + n ∧ s.2.1 ≤ s.2.2.length ∧ s.2.2.length ≤ s.1 - f ∧ ∃ k, f + n - s.1 ≤ k ∧ loopM (fun q => rdM b d q (f + n)) (f + n) k s.1 s.2.1 s.2.2 = Z) (f, 0, []) ⟨Nat.le_refl _, by omega, Nat.le_refl _, Nat.zero_le _, n, by omega, hZ.symm⟩ ?_ ?_
    ·simp [go_sem, rjAnn, rjSt, hw]
    rintro ⟨q, j, M⟩ ⟨i1, i2, i3, i4, k, i5, i6⟩ ih
    simp only at i1 i2 i3 i4 i5 i6
    have lx : ((L ++ (⟨t, [], j⟩ : It) :: M).map itemW).length = L.length + (M.length + 1) := by simp
    simp +decide (maxSteps := 9^7) only [↓reduceIte, rjSt, wfn, go_sem]
    refine Runs.split (fun h => ?_) (fun h => ?_)
    ·have hlt : q < f + n := by simp at h; omega
     have wd : IntKind.i64.wrap ((dp : Int) + 1) = ((dp + 1 : Nat) : Int) := by rw [wrap_i64 (by omega) (by omega)]; rfl
     have ly : (L ++ (⟨t, [], j⟩ : It) :: M).length = L.length + (M.length + 1) := by simp
     have cI := IH q (f + n) (dp + 1) (L ++ (⟨t, [], j⟩ : It) :: M) (by omega) (by omega) (by omega) (by rw [ly]; omega)
     obtain ⟨R, hR⟩ : ∃ R, R = rdM b d q (f + n) := ⟨_, rfl⟩
     have hRok := rdM_ok hb d q (f + n)
     have hRp := rdM_place b d q (f + n)
     rw [← hR] at cI hRok hRp
     obtain ⟨k, rfl⟩ : ∃ k', k = k' + 1 := ⟨k - 1, by omega⟩
     rw [loopM, if_pos hlt] at i6
     simp only [← hR] at i6
     have ez : (L ++ (⟨t, [], j⟩ : It) :: M) ++ R.items = L ++ (⟨t, [], j⟩ : It) :: (M ++ R.items) := by simp
     have lz : L.length + (M.length + 1) + R.items.length = L.length + ((M ++ R.items).length + 1) := by rw [List.length_append]; omega
     have lm : (M ++ R.items).length = M.length + R.items.length := List.length_append
     have lw : ((L ++ (⟨t, [], j⟩ : It) :: (M ++ R.items)).map itemW).length = L.length + ((M ++ R.items).length + 1) := by simp
     rw [ly, lz, ez, Int.natCast_add f n] at cI
     simp only [rdrX, rowX] at cI
     have gw : ((L ++ (⟨t, [], j⟩ : It) :: (M ++ R.items)).map itemW).getD L.length .any = .agg [.v (.int .i64 t), .v (.slice none 0 0), .v (.int .i64 j)] := by
      rw [← hw]; simp [List.getD]
     have sw : ((L ++ (⟨t, [], j⟩ : It) :: (M ++ R.items)).map itemW).set L.length (.agg [.v (.int .i64 t), .v (.slice none 0 0), .v (.int .i64 ((j + 1 : Nat) : Int))]) = (L ++ (⟨t, [], ((j + 1 : Nat) : Int)⟩ : It) :: (M ++ R.items)).map itemW := by
      rw [← hw]; simp [List.set_append_right]
     have mw := md_itemW (L ++ (⟨t, [], j⟩ : It) :: (M ++ R.items))
     have rw' := rd_itemW (L ++ (⟨t, [], j⟩ : It) :: (M ++ R.items))
     have mv := md_itemW (L ++ (⟨t, [], j⟩ : It) :: M)
     have rv := rd_itemW (L ++ (⟨t, [], j⟩ : It) :: M)
     by_cases hc : R.code = 0
     ·rw [if_pos hc] at i6
      obtain ⟨r1', r2'⟩ := hRok
      obtain ⟨r3, r4, r5, r6⟩ := r2' hc
      have hp0 := hRp hc
      rw [hc, hp0, if_pos rfl] at cI
      have wj : IntKind.i64.wrap ((j : Int) + 1) = ((j + 1 : Nat) : Int) := by rw [wrap_i64 (by omega) (by omega)]; rfl
      have dr : decide (0 ≤ (L.length : Int) ∧ (L.length : Int) < ((L.length + ((M ++ R.items).length + 1) : Nat) : Int)) = true := by simp; omega
      have dn : decide ((R.next : Int) < 0) = false := by simp
      generalize hK : (M ++ R.items) = N at *
      generalize hW : (L ++ (⟨t, [], j⟩ : It) :: N).map itemW = W at *
      simp +decide (maxSteps := 9^7) only [↓reduceIte, wfn, wd, mv, rv, lx, go_sem]
      refine Runs.call cI ?_
      simp +decide (maxSteps := 9^7) only [↓reduceIte, dn, lw, gw, sw, dr, wj, mw, rw', Int.toNat_natCast, go_sem]
      refine ih (R.next, j + 1, N) _ (by simp only; omega) ⟨by simp only; omega, r4, by simp only; omega, by simp only; omega, k, by simp only; omega, i6⟩ ?_
      simp [go_sem, rjAnn, rjSt]
     ·rw [if_neg hc] at i6
      rw [if_neg hc] at cI
      have dn : decide ((-1 : Int) < 0) = true := by decide
      simp +decide (maxSteps := 9^7) only [↓reduceIte, wfn, wd, mv, rv, lx, go_sem]
      refine Runs.call cI ?_
      simp +decide (maxSteps := 9^7) only [↓reduceIte, dn, mw, rw', go_sem]
      rw [← i6]
      refine Runs.ret (Le.of_eq ?_) ?_
      ·simp [hc]
      ·simp [rdrX, rowX]
    ·have hge : f + n ≤ q := by simp at h; omega
     rw [loopM_end _ _ _ _ hge] at i6
     simp +decide (maxSteps := 9^7) only [↓reduceIte, wfn, go_sem]
     rw [← i6]
     refine Runs.ret (Le.of_eq ?_) ?_
     ·simp
     ·simp [rdrX, rowX]
end Go.Proofs.W

namespace Go.Proofs.W
open Go Go.AM
variable (hm : Tryz.prog.follows .mixedOrders = true)
theorem nilsGo_sl {T : Tab} {fs : List (Nat × Nat × Nat)} {key o : Nat} {r l : List A} {s : Sh} {st : St} : nilsGo T fs key o (.sl s l :: r) st = (.sl s l :: (nilsGo T fs key (o + 1) r st).1, (nilsGo T fs key (o + 1) r st).2) := Eq.trans rfl rfl
attribute [local go_sem] nilsGo_sl
theorem loopM_all {P : It → Prop} {f : Nat → RR} {e : Nat} (hf : ∀ p, ∀ x ∈ (f p).items, P x) : ∀ (k q j : Nat) (M : List It), (∀ x ∈ M, P x) → ∀ x ∈ (loopM f e k q j M).2.items, P x
 | 0, q, j, M, h => h
 | k + 1, q, j, M, h => by
  have h2 : ∀ x ∈ M ++ (f q).items, P x := fun x hx => (List.mem_append.mp hx).elim (h x) (hf q x)
  unfold loopM
  split
  ·split
   ·exact loopM_all hf k _ _ _ h2
   ·exact h2
  ·exact h
theorem rdM_bare (b : List Int) : ∀ d p e, ∀ x ∈ (rdM b d p e).items, made x.tag = true → x.body = []
 | 0, p, e => by
  unfold rdM
  split <;> (intro x hx; simp at hx)
 | d + 1, p, e => by
  unfold rdM
  split
  ·intro x hx; simp at hx
  ·split
   ·intro x hx hmd
    rcases List.mem_cons.mp hx with rfl | hx
    ·rfl
    ·exact loopM_all (P := fun x => made x.tag = true → x.body = []) (fun q => rdM_bare b d q _) _ _ _ _ (fun y hy => by simp at hy) x hx hmd
   ·rename_i hmd
    intro x hx
    rcases List.mem_cons.mp hx with rfl | hx
    ·intro h; exact absurd h hmd
    ·simp at hx
def rdI6 : Sched := .take 0 (.take 4 (.take 8 (.alt 1 (.take 2 (.alt 3 (.take 9 (.alt 5 (.take 6 (.alt 7 (.take 10 .fin) .nil)) .nil)) (.alt 5 (.take 6 (.alt 3 (.take 9 (.alt 7 (.take 10 .fin) .nil)) (.alt 7 (.alt 3 (.take 9 (.take 10 .fin)) .nil) .nil))) .nil))) (.alt 5 (.take 6 (.alt 1 (.take 2 (.alt 3 (.take 9 (.alt 7 (.take 10 .fin) .nil)) (.alt 7 (.alt 3 (.take 9 (.take 10 .fin)) .nil) .nil))) (.alt 7 (.alt 1 (.take 2 (.alt 3 (.take 9 (.take 10 .fin)) .nil)) .nil) .nil))) .nil))))
attribute [local go_sem] rdI6
set_option maxHeartbeats 8000000 in
set_option maxRecDepth 10000 in
include hm in
theorem iReadDer (b : List Int) (hb : BytesOk b) (hl : b.length ≤ 1073741824) : Holds Tryz.prog 20 [.sl .sh (b.map u8A)] [] (doneA (derM b)) [] := by
 have hlen : (b.map u8A).length = b.length := List.length_map _
 rw [doneA]
 refine holds_ref (ann := []) tabOk hm (byL [1000012, 46] []) Tryz.func20 (by kernel_rfl) rfl ?_
 simp +decide (maxSteps := 9^7) only [↓reduceIte, Tryz.f20, hlen, go_sem]
 refine Runs.split (fun h => ?_) (fun h => ?_)
 ·have h1 : 4000 < b.length := by simp at h; omega
  have hd : derM b = ([], 1, 0) := by rw [derM, if_pos h1]
  rw [hd]
  simp +decide (maxSteps := 9^7) only [↓reduceIte, go_sem]
  exact Runs.ret (.tup (.nils _ (LeD.refl _)) .nil) rfl
 have h1 : ¬ 4000 < b.length := by simp at h; omega
 have c0 := itemX hm b hb (by omega) 13 0 b.length 0 [] rfl (by omega) (by omega) (by simp; omega)
 have hr := rdM_ok hb 13 0 b.length
 have hbare := rdM_bare b 13 0 b.length
 have hd : derM b = if (rdM b 13 0 b.length).code ≠ 0 then ([], (rdM b 13 0 b.length).code, (rdM b 13 0 b.length).place)
   else if 300 < (rdM b 13 0 b.length).items.length then ([], 7, 0)
   else if (rdM b 13 0 b.length).next < b.length then ([], 5, (rdM b 13 0 b.length).next)
   else ((rdM b 13 0 b.length).items, 0, 0) := by rw [derM, if_neg h1]
 rw [hd]
 generalize rdM b 13 0 b.length = R at *
 simp only [rdrX, rowX, List.nil_append, List.length_nil, Nat.zero_add, List.map_nil] at c0
 have hRl : (R.items.map itemW).length = R.items.length := List.length_map _
 have mw := md_itemW R.items
 have rw' := rd_itemW R.items
 have mn : mdL ([] : List A) = [] := rfl
 simp +decide (maxSteps := 9^7) only [↓reduceIte, hlen, go_sem]
 refine Runs.call c0 ?_
 by_cases hc : R.code = 0
 ·have ng : decide ((R.next : Int) < 0) = false := by simp
  rw [if_neg (show ¬ R.code ≠ 0 by simpa using hc)]
  simp +decide (maxSteps := 9^7) only [↓reduceIte, hc, hRl, ng, mw, rw', go_sem]
  refine Runs.split (fun h => ?_) (fun h => ?_)
  ·have h2 : 300 < R.items.length := by simp at h; omega
   rw [if_pos h2]
   simp +decide (maxSteps := 9^7) only [↓reduceIte, hRl, go_sem]
   exact Runs.ret (.tup (.nils _ (LeD.refl _)) .nil) rfl
  have h2 : ¬ 300 < R.items.length := by simp at h; omega
  rw [if_neg h2]
  simp +decide (maxSteps := 9^7) only [↓reduceIte, hlen, hRl, go_sem]
  refine Runs.split (fun h => ?_) (fun h => ?_)
  ·have h3 : R.next < b.length := by simpa using h
   rw [if_pos h3]
   simp +decide (maxSteps := 9^7) only [↓reduceIte, hRl, go_sem]
   exact Runs.ret (.tup (.nils _ (LeD.refl _)) .nil) rfl
  have h3 : ¬ R.next < b.length := by simp at h; omega
  rw [if_neg h3]
  simp +decide (maxSteps := 9^7) only [↓reduceIte, hRl, mw, rw', go_sem]
  exact Runs.ret (.tup (.sl _ (leW _ hbare) (LeD.refl _)) .nil) rfl
 ·have ng : decide ((-1 : Int) < 0) = true := by decide
  rw [if_pos (show R.code ≠ 0 from hc)]
  simp +decide (maxSteps := 9^7) only [↓reduceIte, hc, hRl, ng, mw, rw', go_sem]
  refine Runs.draw (st1 := ?s1) (draws_ref (ann := []) tabOk (byL [1000012, 46] []) rdI6 (by kernel_rfl) ?p1) ?q1
  case p1 =>
   intro K r X hK
   simp +decide (maxSteps := 9^7) only [↓reduceIte, hRl, go_sem]
   repeat' apply And.intro
   all_goals exact hK
  case q1 =>
   simp +decide (maxSteps := 9^7) only [↓reduceIte, hRl, go_sem]
   exact Runs.ret (.tup (.nils _ (LeD.refl _)) .nil) rfl
end Go.Proofs.W

namespace Go.Proofs.W
open Go Go.AM
set_option maxRecDepth 10000
variable (hm : Tryz.prog.follows .mixedOrders = true)
def txB (l : List Int) : ByteArray := ⟨((l.map u8A).map AM.byteOf).toArray⟩
theorem txB_list (l : List Int) : (txB l).data.toList = l.map fun n => UInt8.ofNat n.toNat := by
 unfold txB
 rw [List.map_map]
 rfl
theorem all_bytes {l : List Int} (h : BytesOk l) : (l.map u8A).all isByte = true := by
 rw [List.all_map, List.all_eq_true]
 intro x hx
 simpa [u8A, isByte] using h x hx
theorem bytesI_txB {l : List Int} (h : BytesOk l) : bytesI (txB l) = l := by
 rw [bytesI, txB_list, List.map_map]
 refine (List.map_congr_left (g := id) ?_).trans (List.map_id _)
 intro x hx
 have := h x hx
 simp only [Function.comp_apply, id_eq, UInt8.toNat_ofNat']
 omega
theorem txB_bytesI (s : ByteArray) : txB (bytesI s) = s := by
 apply ByteArray.ext
 apply Array.ext'
 rw [txB_list, bytesI, List.map_map]
 refine (List.map_congr_left (g := id) ?_).trans (List.map_id _)
 intro x hx
 simp
theorem bytesI_ok (s : ByteArray) : BytesOk (bytesI s) := by
 intro x hx
 rw [bytesI, List.mem_map] at hx
 obtain ⟨y, _, rfl⟩ := hx
 have := y.toNat_lt
 omega
theorem same_tx {A B : List Int} (hA : BytesOk A) (hB : BytesOk B) : ((txB A).toList == (txB B).toList) = decide (A = B) := by
 by_cases h : A = B
 ·subst h; simp
 ·have : ¬ (txB A).toList = (txB B).toList := by
   rw [Lib.toList_data, Lib.toList_data]
   intro e
   apply h
   rw [← bytesI_txB hA, ← bytesI_txB hB, bytesI, bytesI, e]
  simp [h, this]
theorem txB_eq (l : List Int) : (⟨((l.map u8A).map AM.byteOf).toArray⟩ : ByteArray) = txB l := rfl
include hm in
theorem l1Same (A B : List Int) (hA : BytesOk A) (hB : BytesOk B) : Holds Tryz.prog 19 [.sl .sh (A.map u8A), .sl .sh (B.map u8A)] [] (.v (.bool (decide (A = B)))) [] := by
 have a1 := all_bytes hA
 have a2 := all_bytes hB
 rw [← same_tx hA hB]
 refine holds_of (ann := []) tabOk hm Tryz.func19 (by kernel_rfl) rfl ?_
 simp +decide (maxSteps := 9^7) only [↓reduceIte, Tryz.f19, a1, a2, txB_eq, go_sem]
 exact Runs.ret_refl
include hm in
theorem bytesEqual (A B : List Int) (hA : BytesOk A) (hB : BytesOk B) : Holds Tryz.prog 28 [.sl .sh (A.map u8A), .sl .sh (B.map u8A)] [] (.v (.bool (decide (A = B)))) [] := by
 have a1 := all_bytes hA
 have a2 := all_bytes hB
 rw [← same_tx hA hB]
 refine holds_of (ann := []) tabOk hm Tryz.func28 (by kernel_rfl) rfl ?_
 simp +decide (maxSteps := 9^7) only [↓reduceIte, Tryz.f28, a1, a2, txB_eq, go_sem]
 exact Runs.ret_refl
def kidsN : Nd → List Nd
 | .mk _ _ ks => ks
def bodyN : Nd → List Int
 | .mk _ b _ => b
def tagN : Nd → Int
 | .mk t _ _ => t
def kidAt (n : Nd) (i : Nat) : Nd := (kidsN n).getD i (.mk 0 [] [])
set_option maxHeartbeats 4000000 in
include hm in
theorem kid (n : Nd) (i : Nat) (hi : i ≤ 1000) (hk : (kidsN n).length ≤ 1000000) : Holds Tryz.prog 22 [nodeS n, .v (.int .i64 i)] [] (nodeS (kidAt n i)) [] := by
 obtain ⟨t, b, ks⟩ := n
 simp only [kidsN] at hk
 have hl := nodesS_length ks
 have d1 : decide ((i : Int) < 0) = false := by simp
 simp only [nodeS]
 refine holds_of (ann := []) tabOk hm Tryz.func22 (by kernel_rfl) rfl ?_
 by_cases h : i < ks.length
 ·have d2 : decide ((i : Int) ≥ (ks.length : Int)) = false := by simp; omega
  have d3 : decide (0 ≤ (i : Int) ∧ (i : Int) < (ks.length : Int)) = true := by simp; omega
  have e : kidAt (.mk t b ks) i = ks[i] := by simp [kidAt, kidsN, List.getD, h]
  have hg := nodesS_get h
  rw [e]
  generalize ks[i] = x at *
  obtain ⟨t', b', k'⟩ := x
  simp only [nodeS] at hg ⊢
  simp +decide (maxSteps := 9^7) only [↓reduceIte, Tryz.f22, d1, d2, d3, hl, hg, Int.toNat_natCast, go_sem]
  exact Runs.ret_refl
 ·have d2 : decide ((i : Int) ≥ (ks.length : Int)) = true := by simp; omega
  have e : kidAt (.mk t b ks) i = .mk 0 [] [] := by simp [kidAt, kidsN, List.getD, h]
  rw [e]
  simp +decide (maxSteps := 9^7) only [↓reduceIte, Tryz.f22, d1, d2, hl, go_sem]
  exact Runs.ret (.agg (.same _ (.nils _ (.nils _ .nil))) .nil) rfl
set_option maxHeartbeats 4000000 in
include hm in
theorem behind (n : Nd) (hk : (bodyN n).length ≤ 1000000) : Holds Tryz.prog 26 [nodeS n] [] (.sl (.ow 1) (((bodyN n).drop 1).map u8A)) [] := by
 obtain ⟨t, b, ks⟩ := n
 simp only [bodyN] at hk ⊢
 have hb : (b.map u8A).length = b.length := List.length_map _
 have cb := cloneB hm (b.drop 1) (by simp; omega)
 have ha : decide ((0 : Int) ≤ (if (b.length : Int) < 1 then (b.length : Int) else 1) ∧ (if (b.length : Int) < 1 then (b.length : Int) else 1) ≤ b.length ∧ (b.length : Int) ≤ b.length) = true := by
  rw [decide_eq_true_eq]; split <;> omega
 have hb2 : (b.map u8A).drop (if (b.length : Int) < 1 then (b.length : Int) else 1).toNat = (b.drop 1).map u8A := by
  rw [List.map_drop]
  split
  ·have : b = [] := List.length_eq_zero_iff.mp (by omega)
   subst this; rfl
  ·rfl
 rw [nodeS]
 refine holds_of (ann := []) tabOk hm Tryz.func26 (by kernel_rfl) rfl ?_
 simp +decide (maxSteps := 9^7) only [Tryz.f26, hb, ha, hb2, go_sem]
 refine Runs.call cb ?_
 simp +decide (maxSteps := 9^7) only [go_sem]
 exact Runs.ret_refl
end Go.Proofs.W

namespace Go.Proofs.W
open Go Go.AM
variable (hm : Tryz.prog.follows .mixedOrders = true)
def sx (x : Int) : Int := if 127 < x then x - 256 else x
def foldK (b : List Int) : Nat → Int
 | 0 => sx (bt b 0)
 | k + 1 => foldK b k * 256 + bt b (k + 1)
def intRd (b : List Int) : Int × Bool := if 1 ≤ b.length ∧ b.length ≤ 8 then (if intB (foldK b (b.length - 1)) = b then (foldK b (b.length - 1), true) else (0, false)) else (0, false)
theorem foldK_in {b : List Int} (hb : BytesOk b) : ∀ k, -(128 * 256 ^ k) ≤ foldK b k ∧ foldK b k < 128 * 256 ^ k
 | 0 => by
  have := bt_rng hb 0
  simp only [foldK, sx]
  split <;> simp <;> omega
 | k + 1 => by
  have h1 := foldK_in hb k
  have h2 := bt_rng hb (k + 1)
  have e : (256 : Int) ^ (k + 1) = 256 ^ k * 256 := Int.pow_succ _ _
  rw [foldK, e]
  generalize (256 : Int) ^ k = q at *
  omega
theorem pow256_le : ∀ k : Nat, k ≤ 7 → (256 : Int) ^ k ≤ 72057594037927936
 | 0, _ => by decide
 | 1, _ => by decide
 | 2, _ => by decide
 | 3, _ => by decide
 | 4, _ => by decide
 | 5, _ => by decide
 | 6, _ => by decide
 | 7, _ => by decide
 | k + 8, h => by omega
theorem foldK_64 {b : List Int} (hb : BytesOk b) {k : Nat} (hk : k ≤ 7) : -9223372036854775808 ≤ foldK b k ∧ foldK b k < 9223372036854775808 := by
 have h1 := foldK_in hb k
 have h2 := pow256_le k hk
 omega
theorem or64 {m x : Int} (h1 : -9223372036854775808 ≤ m * 256) (h2 : m * 256 < 9223372036854775808) (h3 : 0 ≤ x) (h4 : x < 256) : orI .i64 (m * 256) x = m * 256 + x := by
 show IntKind.i64.wrap ((BitVec.ofInt 64 (m * 256) ||| BitVec.ofInt 64 x).toNat : Int) = m * 256 + x
 obtain ⟨y, rfl⟩ := Int.eq_ofNat_of_zero_le h3
 obtain ⟨q, hq⟩ : ∃ q : Nat, (q : Int) = m % 72057594037927936 := ⟨(m % 72057594037927936).toNat, by omega⟩
 have e1 : (BitVec.ofInt 64 (m * 256)).toNat = q * 256 := by
  rw [BitVec.toNat_ofInt]
  show ((m * 256) % 18446744073709551616).toNat = q * 256
  omega
 have e2 : (BitVec.ofInt 64 (y : Int)).toNat = y := by
  rw [BitVec.ofInt_natCast, BitVec.toNat_ofNat, Nat.mod_eq_of_lt (by omega)]
 rw [BitVec.toNat_or, e1, e2]
 have := Nat.shiftLeft_add_eq_or_of_lt (a := q) (b := y) (i := 8) (by omega)
 rw [Nat.shiftLeft_eq] at this
 rw [show q * 256 = q * 2 ^ 8 from rfl, ← this]
 show (if (true && decide (((q * 2 ^ 8 + y : Nat) : Int) % 18446744073709551616 ≥ 9223372036854775808)) = true then ((q * 2 ^ 8 + y : Nat) : Int) % 18446744073709551616 - 18446744073709551616 else ((q * 2 ^ 8 + y : Nat) : Int) % 18446744073709551616) = _
 simp only [Bool.true_and, decide_eq_true_eq]
 split <;> omega
theorem ib_mod (x : Int) : ib x = x % 256 := by
 show (if (false && decide (x % 256 ≥ 128)) = true then x % 256 - 256 else x % 256) = x % 256
 simp
theorem tailB_bt (n : Int) : ∀ (k j : Nat), j ≤ k → bt (tailB n k) j = ib (n / 256 ^ (k - j))
 | 0, j, h => by
  have : j = 0 := by omega
  subst this; rfl
 | k + 1, 0, h => by rw [tailB_succ]; rfl
 | k + 1, j + 1, h => by
  rw [tailB_succ]
  have e : k + 1 - (j + 1) = k - j := by omega
  rw [e, ← tailB_bt n k j (by omega)]
  rfl
theorem foldK_tail (n : Int) (k : Nat) (hs : smallK n k = true) : ∀ j, j ≤ k → foldK (tailB n k) j = n / 256 ^ (k - j)
 | 0, _ => by
  simp only [smallK, Bool.and_eq_true, decide_eq_true_eq] at hs
  rw [foldK, tailB_bt n k 0 (by omega), ib_mod, sx, Nat.sub_zero]
  split <;> omega
 | j + 1, h => by
  rw [foldK, foldK_tail n k hs j (by omega), tailB_bt n k (j + 1) h, ib_mod]
  have e : k - j = (k - (j + 1)) + 1 := by omega
  rw [e, ← div256]
  omega
theorem firstK_small (n : Int) : ∀ f k, smallK n (k + f) = true → smallK n (firstK n f k) = true
 | 0, k, h => h
 | f + 1, k, h => by
  rw [firstK]
  split
  ·assumption
  ·exact firstK_small n f (k + 1) (by rw [show k + 1 + f = k + (f + 1) by omega]; exact h)
theorem intB_fold {n : Int} (h1 : -9223372036854775808 ≤ n) (h2 : n < 9223372036854775808) : foldK (intB n) ((intB n).length - 1) = n := by
 have hs := firstK_small n 7 0 (small7 h1 h2)
 rw [intB, tailB_length, show kB n + 1 - 1 = kB n from rfl, foldK_tail n (kB n) hs (kB n) (Nat.le_refl _), Nat.sub_self]
 simp
theorem intRd_intB {n : Int} (h1 : -9223372036854775808 ≤ n) (h2 : n < 9223372036854775808) : intRd (intB n) = (n, true) := by
 have hl : (intB n).length = kB n + 1 := tailB_length _ _
 have hk := kB_le n
 rw [intRd, if_pos (by omega), intB_fold h1 h2, if_pos rfl]
theorem intB_ok (n : Int) : BytesOk (intB n) := by
 intro x hx
 simp only [intB, tailB, List.mem_map] at hx
 obtain ⟨i, _, rfl⟩ := hx
 rw [ib_mod]; omega
end Go.Proofs.W

namespace Go.Proofs.W
open Go Go.AM
set_option maxRecDepth 10000
variable (hm : Tryz.prog.follows .mixedOrders = true)
theorem wsh (x : Int) (h1 : -9223372036854775808 ≤ x * 256) (h2 : x * 256 < 9223372036854775808) : IntKind.i64.wrap (x * 2 ^ 8) = x * 256 := wrap_i64 h1 h2
theorem mn8 : min (Int.toNat 8) 64 = 8 := rfl
theorem foldK_256 {b : List Int} (hb : BytesOk b) {k : Nat} (hk : k ≤ 6) : -9223372036854775808 ≤ foldK b k * 256 ∧ foldK b k * 256 < 9223372036854775808 := by
 have h1 := foldK_in hb k
 have h2 : (256 : Int) ^ k ≤ 281474976710656 := by
  have e : (256 : Int) ^ (k + 1) = 256 ^ k * 256 := Int.pow_succ _ _
  have := pow256_le (k + 1) (by omega)
  omega
 omega
def sRiAnn : Ann := [(0, [0, 4, 5])]
def sRiSt (b : List Int) (k : Nat) : St := ⟨[.sl .sh (b.map u8A), .any, .any, .any, .v (.int .i64 (foldK b k)), .v (.int .i64 ((k + 1 : Nat) : Int)), .any, .any, .any, .any, .any, .any, .any, .any, .any, .any, .any, .any, .any, .any, .any, .any, .any, .any, .any, .any, .any, .any, .any, .any, .any, .any, .any, .any, .any, .any, .any, .any], [], []⟩
set_option maxHeartbeats 4000000 in
include hm in
theorem sReadInt (b : List Int) (hb : BytesOk b) (hl : b.length ≤ 1073741824) : Holds Tryz.prog 38 [.sl .sh (b.map u8A)] [] (.tup [.v (.int .i64 (intRd b).1), .v (.bool (intRd b).2)]) [] := by
 have hlen : (b.map u8A).length = b.length := List.length_map _
 have ci := l1In hm b.length 1 8
 refine holds_of (ann := sRiAnn) tabOk hm Tryz.func38 (by kernel_rfl) rfl ?_
 simp +decide (maxSteps := 9^7) only [↓reduceIte, Tryz.f38, hlen, go_sem]
 refine Runs.call ci ?_
 cases hi : inB b.length 1 8
 ·have h : ¬ (1 ≤ b.length ∧ b.length ≤ 8) := by simp [inB] at hi; omega
  simp +decide (maxSteps := 9^7) only [↓reduceIte, go_sem]
  exact Runs.ret_eq (by rw [intRd, if_neg h])
 have h : 1 ≤ b.length ∧ b.length ≤ 8 := by simp [inB] at hi; omega
 have g0 := bt_get (b := b) (i := 0) (by omega)
 have x0 := bt_rng hb 0
 have k0 : IntKind.i64.wrap (bt b 0) = bt b 0 := wrap_i64 (by omega) (by omega)
 have r0 : decide ((0 : Int) < (b.length : Int)) = true := by simp; omega
 have ki : IntKind.i64.wrap (bt b 0 - 256) = bt b 0 - 256 := wrap_i64 (by omega) (by omega)
 have tz : Int.toNat 0 = 0 := rfl
 have hB := h
 clear hi h
 by_cases hx : 127 < bt b 0
 focus
  have dx : decide (bt b 0 > 127) = true := by simpa using hx
  have kz : IntKind.i64.wrap (bt b 0 - 256) = foldK b 0 := by rw [ki, foldK, sx, if_pos hx]
  simp +decide (maxSteps := 9^7) only [↓reduceIte, hlen, tz, g0, k0, r0, dx, kz, go_sem]
 rotate_left 1
 focus
  have dx : decide (bt b 0 > 127) = false := by simpa using hx
  have kz : bt b 0 = foldK b 0 := by rw [foldK, sx, if_neg hx]
  simp +decide (maxSteps := 9^7) only [↓reduceIte, hlen, tz, g0, k0, r0, dx, go_sem]
  rw [kz]
 all_goals
  refine Runs.while (α := Nat) (sRiSt b) (fun k => b.length - k) (fun k => k + 1 ≤ b.length) 0 (by omega) ?_ ?_
  ·simp [go_sem, sRiAnn, sRiSt]
  intro k hk ih
  have hf := foldK_64 hb (k := k) (by omega)
  simp +decide (maxSteps := 9^7) only [↓reduceIte, sRiSt, hlen, go_sem]
  refine Runs.split (fun h => ?_) (fun h => ?_)
  ·have hlt : k + 1 < b.length := by simp at h; omega
   have g := bt_get (b := b) (i := k + 1) (by omega)
   have x := bt_rng hb (k + 1)
   have kx : IntKind.i64.wrap (bt b (k + 1)) = bt b (k + 1) := wrap_i64 (by omega) (by omega)
   have hq := foldK_256 hb (k := k) (by omega)
   have hw := wsh (foldK b k) hq.1 hq.2
   have ho : orI .i64 (foldK b k * 256) (bt b (k + 1)) = foldK b (k + 1) := or64 hq.1 hq.2 x.1 x.2
   have r := (show decide (0 ≤ ((k + 1 : Nat) : Int) ∧ ((k + 1 : Nat) : Int) < (b.length : Int)) = true by simp; omega)
   have wi := (show IntKind.i64.wrap (((k + 1 : Nat) : Int) + 1) = ((k + 1 + 1 : Nat) : Int) by rw [wrap_i64 (by omega) (by omega)]; rfl)
   simp +decide (maxSteps := 9^7) only [↓reduceIte, hlen, g, kx, mn8, hw, ho, r, wi, Int.toNat_natCast, go_sem]
   refine ih (k + 1) _ (by omega) (by omega) ?_
   simp [go_sem, sRiAnn, sRiSt]
  ·have hge : b.length - 1 = k := by simp at h; omega
   have c1 := sIntBytes hm (foldK b k) hf.1 hf.2
   have c2 := l1Same hm (intB (foldK b k)) b (intB_ok _) hb
   have hr : intRd b = if intB (foldK b k) = b then (foldK b k, true) else (0, false) := by rw [intRd, if_pos hB, hge]
   rw [hr]
   simp +decide (maxSteps := 9^7) only [↓reduceIte, go_sem]
   refine Runs.call c1 ?_
   simp +decide (maxSteps := 9^7) only [↓reduceIte, dn_u8A, go_sem]
   refine Runs.call c2 ?_
   by_cases he : intB (foldK b k) = b
   ·have d : decide (intB (foldK b k) = b) = true := by simpa using he
    rw [if_pos he]
    simp +decide (maxSteps := 9^7) only [↓reduceIte, d, go_sem]
    exact Runs.ret_refl
   ·have d : decide (intB (foldK b k) = b) = false := by simpa using he
    rw [if_neg he]
    simp +decide (maxSteps := 9^7) only [↓reduceIte, d, go_sem]
    exact Runs.ret_refl
def iRiAnn : Ann := [(0, [0, 4, 17, 18, 19])]
def iRiSt (b : List Int) (k : Nat) : St := ⟨[.sl .sh (b.map u8A), .any, .any, .any, .v (.int .i64 (foldK b k)), .any, .any, .any, .any, .any, .any, .any, .any, .any, .any, .any, .any, .sl .sh ((b.drop 1).map u8A), .v (.int .i64 ((b.length - 1 : Nat) : Int)), .v (.int .i64 k), .any, .any, .any, .any, .any, .any, .any, .any, .any, .any, .any, .any, .any, .any, .any], [], []⟩
set_option maxHeartbeats 4000000 in
include hm in
theorem iReadInt (b : List Int) (hb : BytesOk b) (hl : b.length ≤ 1073741824) : Holds Tryz.prog 47 [.sl .sh (b.map u8A)] [] (.tup [.v (.int .i64 (intRd b).1), .v (.bool (intRd b).2)]) [] := by
 have hlen : (b.map u8A).length = b.length := List.length_map _
 have ci := within hm b.length 1 8
 refine holds_of (ann := iRiAnn) tabOk hm Tryz.func47 (by kernel_rfl) rfl ?_
 simp +decide (maxSteps := 9^7) only [↓reduceIte, Tryz.f47, hlen, go_sem]
 refine Runs.call ci ?_
 cases hi : inB b.length 1 8
 ·have h : ¬ (1 ≤ b.length ∧ b.length ≤ 8) := by simp [inB] at hi; omega
  simp +decide (maxSteps := 9^7) only [↓reduceIte, go_sem]
  exact Runs.ret_eq (by rw [intRd, if_neg h])
 have h : 1 ≤ b.length ∧ b.length ≤ 8 := by simp [inB] at hi; omega
 have g0 := bt_get (b := b) (i := 0) (by omega)
 have x0 := bt_rng hb 0
 have tz : Int.toNat 0 = 0 := rfl
 have t1 : Int.toNat 1 = 1 := rfl
 have r0 : decide ((0 : Int) < (b.length : Int)) = true := by simp; omega
 have r1 : decide ((1 : Int) ≤ (b.length : Int) ∧ (b.length : Int) ≤ (b.length : Int)) = true := by simp; omega
 have kz : IntKind.i64.wrap (IntKind.i8.wrap (bt b 0)) = foldK b 0 := by
  have e : IntKind.i8.wrap (bt b 0) = sx (bt b 0) := by
   show (if (true && decide (bt b 0 % 256 ≥ 128)) = true then bt b 0 % 256 - 256 else bt b 0 % 256) = sx (bt b 0)
   simp only [Bool.true_and, decide_eq_true_eq, sx]
   split <;> split <;> omega
  rw [e, foldK]
  exact wrap_i64 (by unfold sx; split <;> omega) (by unfold sx; split <;> omega)
 have hd : (b.map u8A).drop 1 = (b.drop 1).map u8A := (List.map_drop).symm
 have hld : ((b.drop 1).map u8A).length = b.length - 1 := by simp
 have hB := h
 clear hi h
 simp +decide (maxSteps := 9^7) only [↓reduceIte, hlen, tz, t1, g0, r0, r1, kz, hd, hld, go_sem]
 refine Runs.while (α := Nat) (iRiSt b) (fun k => b.length - k) (fun k => k + 1 ≤ b.length) 0 (by omega) ?_ ?_
 ·simp [go_sem, iRiAnn, iRiSt, hd]; try omega
 ·intro k hk ih
  have hf := foldK_64 hb (k := k) (by omega)
  simp +decide (maxSteps := 9^7) only [↓reduceIte, iRiSt, hlen, hld, go_sem]
  refine Runs.split (fun h => ?_) (fun h => ?_)
  ·have hlt : k + 1 < b.length := by simp at h; omega
   have g := (show ((b.drop 1).map u8A).getD k .any = .v (.int .u8 (bt b (k + 1))) by rw [← hd]; have := bt_get (b := b) (i := k + 1) (by omega); rw [← this]; simp [List.getD, Nat.add_comm])
   have x := bt_rng hb (k + 1)
   have kx : IntKind.i64.wrap (bt b (k + 1)) = bt b (k + 1) := wrap_i64 (by omega) (by omega)
   have hq := foldK_256 hb (k := k) (by omega)
   have hw := wsh (foldK b k) hq.1 hq.2
   have ho : orI .i64 (foldK b k * 256) (bt b (k + 1)) = foldK b (k + 1) := or64 hq.1 hq.2 x.1 x.2
   have r := (show decide (0 ≤ (k : Int) ∧ (k : Int) < ((b.length - 1 : Nat) : Int)) = true by simp; omega)
   have wi := (show IntKind.i64.wrap ((k : Int) + 1) = ((k + 1 : Nat) : Int) by rw [wrap_i64 (by omega) (by omega)]; rfl)
   simp +decide (maxSteps := 9^7) only [↓reduceIte, hlen, g, kx, mn8, hw, ho, r, wi, hld, Int.toNat_natCast, go_sem]
   refine ih (k + 1) _ (by omega) (by omega) ?_
   simp [go_sem, iRiAnn, iRiSt]
  ·have hge : b.length - 1 = k := by simp at h; omega
   have c1 := iIntBytes hm (foldK b k) hf.1 hf.2
   have c2 := bytesEqual hm (intB (foldK b k)) b (intB_ok _) hb
   have hr : intRd b = if intB (foldK b k) = b then (foldK b k, true) else (0, false) := by rw [intRd, if_pos hB, hge]
   rw [hr]
   simp +decide (maxSteps := 9^7) only [↓reduceIte, go_sem]
   refine Runs.call c1 ?_
   simp +decide (maxSteps := 9^7) only [↓reduceIte, dn_u8A, go_sem]
   refine Runs.call c2 ?_
   by_cases he : intB (foldK b k) = b
   ·have d : decide (intB (foldK b k) = b) = true := by simpa using he
    rw [if_pos he]
    simp +decide (maxSteps := 9^7) only [↓reduceIte, d, go_sem]
    exact Runs.ret_refl
   ·have d : decide (intB (foldK b k) = b) = false := by simpa using he
    rw [if_neg he]
    simp +decide (maxSteps := 9^7) only [↓reduceIte, d, go_sem]
    exact Runs.ret_refl
def numOf (b : List Int) : Int := (intRd b).1
include hm in
theorem l10Num (x : It) (hb : BytesOk x.body) (hl : x.body.length ≤ 1073741824) : Holds Tryz.prog 14 [itemS x] [] (.v (.int .i64 (numOf x.body))) [] := by
 have c := sReadInt hm x.body hb hl
 rw [itemS]
 refine holds_of (ann := []) tabOk hm Tryz.func14 (by kernel_rfl) rfl ?_
 simp +decide (maxSteps := 9^7) only [↓reduceIte, Tryz.f14, go_sem]
 refine Runs.call c ?_
 simp +decide (maxSteps := 9^7) only [↓reduceIte, go_sem]
 exact Runs.ret_refl
include hm in
theorem intNode (n : Nd) (hb : BytesOk (bodyN n)) (hl : (bodyN n).length ≤ 1073741824) : Holds Tryz.prog 23 [nodeS n] [] (.v (.int .i64 (numOf (bodyN n)))) [] := by
 obtain ⟨t, b, ks⟩ := n
 simp only [bodyN] at hb hl ⊢
 have c := iReadInt hm b hb hl
 rw [nodeS]
 refine holds_of (ann := []) tabOk hm Tryz.func23 (by kernel_rfl) rfl ?_
 simp +decide (maxSteps := 9^7) only [↓reduceIte, Tryz.f23, go_sem]
 refine Runs.call c ?_
 simp +decide (maxSteps := 9^7) only [↓reduceIte, go_sem]
 exact Runs.ret_refl
end Go.Proofs.W
