import Derived.Test.YtbodkdhlncdhpaaProg
import Derived.KernelRfl
import Derived.Test.YtbodkdhlncdhpaaField1
set_option linter.unusedVariables false
set_option linter.unusedSimpArgs false
namespace Go.Proofs.W
open Go Go.AM
/-- So many cells alike (kept folded). -/
def repV (n : Nat) (v : Value) : List Value := List.replicate n v
def tab : Go.AM.Tab := [
  [⟨.other, 0, 0, []⟩,
   ⟨.func, 1, 8, [.nilFunc]⟩,
   ⟨.int .i64, 1, 8, [.int .i64 0]⟩,
   ⟨.int .i64, 1, 8, [.int .i64 0]⟩,
   ⟨.bool, 1, 1, [.bool false]⟩,
   ⟨.int .u8, 1, 1, [.int .u8 0]⟩,
   ⟨.int .u8, 1, 1, [.int .u8 0]⟩,
   ⟨.struct [(0, 1, 2), (1, 1, 3), (2, 1, 4), (3, 1, 6)], 4, 24, [.int .i64 0, .int .i64 0, .bool false, .int .u8 0]⟩,
   ⟨.struct [(0, 1, 2), (1, 1, 3), (2, 1, 4), (3, 1, 6)], 4, 24, [.int .i64 0, .int .i64 0, .bool false, .int .u8 0]⟩,
   ⟨.string, 1, 16, [.string ⟨#[]⟩]⟩,
   ⟨.string, 1, 16, [.string ⟨#[]⟩]⟩,
   ⟨.string, 1, 16, [.string ⟨#[]⟩]⟩,
   ⟨.int .u64, 1, 8, [.int .u64 0]⟩,
   ⟨.struct [(0, 1, 9), (1, 1, 12)], 2, 24, [.string ⟨#[]⟩, .int .u64 0]⟩,
   ⟨.struct [(0, 1, 9), (1, 1, 12)], 2, 24, [.string ⟨#[]⟩, .int .u64 0]⟩,
   ⟨.pointer 124, 1, 8, [.pointer none]⟩],
  [⟨.pointer 127, 1, 8, [.pointer none]⟩,
   ⟨.pointer 136, 1, 8, [.pointer none]⟩,
   ⟨.struct [(0, 1, 17)], 1, 8, [.pointer none]⟩,
   ⟨.struct [(0, 1, 17)], 1, 8, [.pointer none]⟩,
   ⟨.other, 0, 0, []⟩,
   ⟨.int .i32, 1, 4, [.int .i32 0]⟩,
   ⟨.slice 3, 1, 24, [.slice none 0 0]⟩,
   ⟨.struct [(0, 1, 3), (1, 1, 3), (2, 1, 3), (3, 1, 3), (4, 1, 3), (5, 1, 3)], 6, 48, [.int .i64 0, .int .i64 0, .int .i64 0, .int .i64 0, .int .i64 0, .int .i64 0]⟩,
   ⟨.struct [(0, 1, 3), (1, 1, 3), (2, 1, 3), (3, 1, 3), (4, 1, 3), (5, 1, 3)], 6, 48, [.int .i64 0, .int .i64 0, .int .i64 0, .int .i64 0, .int .i64 0, .int .i64 0]⟩,
   ⟨.struct [(0, 1, 3), (1, 1, 3), (2, 1, 4)], 3, 24, [.int .i64 0, .int .i64 0, .bool false]⟩,
   ⟨.struct [(0, 1, 3), (1, 1, 3), (2, 1, 4)], 3, 24, [.int .i64 0, .int .i64 0, .bool false]⟩,
   ⟨.struct [(0, 1, 3), (1, 1, 3), (2, 1, 3), (3, 1, 3), (4, 1, 3)], 5, 40, [.int .i64 0, .int .i64 0, .int .i64 0, .int .i64 0, .int .i64 0]⟩,
   ⟨.struct [(0, 1, 3), (1, 1, 3), (2, 1, 3), (3, 1, 3), (4, 1, 3)], 5, 40, [.int .i64 0, .int .i64 0, .int .i64 0, .int .i64 0, .int .i64 0]⟩,
   ⟨.struct [(0, 1, 3), (1, 1, 3)], 2, 16, [.int .i64 0, .int .i64 0]⟩,
   ⟨.struct [(0, 1, 3), (1, 1, 3)], 2, 16, [.int .i64 0, .int .i64 0]⟩,
   ⟨.struct [(0, 1, 3), (1, 1, 22), (2, 1, 3), (3, 6, 24), (9, 3, 26), (12, 5, 28), (17, 2, 30)], 19, 168, [.int .i64 0, .slice none 0 0, .int .i64 0, .int .i64 0, .int .i64 0, .int .i64 0, .int .i64 0, .int .i64 0, .int .i64 0, .int .i64 0, .int .i64 0, .bool false, .int .i64 0, .int .i64 0, .int .i64 0, .int .i64 0, .int .i64 0, .int .i64 0, .int .i64 0]⟩],
  [⟨.struct [(0, 1, 3), (1, 1, 22), (2, 1, 3), (3, 6, 24), (9, 3, 26), (12, 5, 28), (17, 2, 30)], 19, 168, [.int .i64 0, .slice none 0 0, .int .i64 0, .int .i64 0, .int .i64 0, .int .i64 0, .int .i64 0, .int .i64 0, .int .i64 0, .int .i64 0, .int .i64 0, .bool false, .int .i64 0, .int .i64 0, .int .i64 0, .int .i64 0, .int .i64 0, .int .i64 0, .int .i64 0]⟩,
   ⟨.func, 1, 8, [.nilFunc]⟩,
   ⟨.slice 65, 1, 24, [.slice none 0 0]⟩,
   ⟨.other, 0, 0, []⟩,
   ⟨.func, 1, 8, [.nilFunc]⟩,
   ⟨.struct [(0, 1, 3), (1, 1, 3), (2, 1, 3), (3, 1, 3), (4, 1, 3), (5, 1, 3)], 6, 48, [.int .i64 0, .int .i64 0, .int .i64 0, .int .i64 0, .int .i64 0, .int .i64 0]⟩,
   ⟨.struct [(0, 1, 3), (1, 1, 3), (2, 1, 4)], 3, 24, [.int .i64 0, .int .i64 0, .bool false]⟩,
   ⟨.struct [(0, 1, 3), (1, 1, 3), (2, 1, 3), (3, 1, 3), (4, 1, 3)], 5, 40, [.int .i64 0, .int .i64 0, .int .i64 0, .int .i64 0, .int .i64 0]⟩,
   ⟨.struct [(0, 1, 3), (1, 1, 3)], 2, 16, [.int .i64 0, .int .i64 0]⟩,
   ⟨.struct [(0, 1, 3), (1, 1, 22), (2, 1, 3), (3, 6, 37), (9, 3, 38), (12, 5, 39), (17, 2, 40)], 19, 168, [.int .i64 0, .slice none 0 0, .int .i64 0, .int .i64 0, .int .i64 0, .int .i64 0, .int .i64 0, .int .i64 0, .int .i64 0, .int .i64 0, .int .i64 0, .bool false, .int .i64 0, .int .i64 0, .int .i64 0, .int .i64 0, .int .i64 0, .int .i64 0, .int .i64 0]⟩,
   ⟨.struct [(0, 1, 3), (1, 1, 22), (2, 1, 3), (3, 6, 37), (9, 3, 38), (12, 5, 39), (17, 2, 40)], 19, 168, [.int .i64 0, .slice none 0 0, .int .i64 0, .int .i64 0, .int .i64 0, .int .i64 0, .int .i64 0, .int .i64 0, .int .i64 0, .int .i64 0, .int .i64 0, .bool false, .int .i64 0, .int .i64 0, .int .i64 0, .int .i64 0, .int .i64 0, .int .i64 0, .int .i64 0]⟩,
   ⟨.func, 1, 8, [.nilFunc]⟩,
   ⟨.func, 1, 8, [.nilFunc]⟩,
   ⟨.func, 1, 8, [.nilFunc]⟩,
   ⟨.func, 1, 8, [.nilFunc]⟩,
   ⟨.func, 1, 8, [.nilFunc]⟩],
  [⟨.func, 1, 8, [.nilFunc]⟩,
   ⟨.func, 1, 8, [.nilFunc]⟩,
   ⟨.func, 1, 8, [.nilFunc]⟩,
   ⟨.func, 1, 8, [.nilFunc]⟩,
   ⟨.func, 1, 8, [.nilFunc]⟩,
   ⟨.func, 1, 8, [.nilFunc]⟩,
   ⟨.func, 1, 8, [.nilFunc]⟩,
   ⟨.func, 1, 8, [.nilFunc]⟩,
   ⟨.func, 1, 8, [.nilFunc]⟩,
   ⟨.slice 5, 1, 24, [.slice none 0 0]⟩,
   ⟨.slice 60, 1, 24, [.slice none 0 0]⟩,
   ⟨.struct [(0, 1, 3), (1, 1, 57), (2, 1, 58)], 3, 56, [.int .i64 0, .slice none 0 0, .slice none 0 0]⟩,
   ⟨.struct [(0, 1, 3), (1, 1, 57), (2, 1, 58)], 3, 56, [.int .i64 0, .slice none 0 0, .slice none 0 0]⟩,
   ⟨.func, 1, 8, [.nilFunc]⟩,
   ⟨.func, 1, 8, [.nilFunc]⟩,
   ⟨.func, 1, 8, [.nilFunc]⟩],
  [⟨.struct [(0, 1, 3), (1, 1, 57), (2, 1, 3)], 3, 40, [.int .i64 0, .slice none 0 0, .int .i64 0]⟩,
   ⟨.struct [(0, 1, 3), (1, 1, 57), (2, 1, 3)], 3, 40, [.int .i64 0, .slice none 0 0, .int .i64 0]⟩,
   ⟨.func, 1, 8, [.nilFunc]⟩,
   ⟨.func, 1, 8, [.nilFunc]⟩,
   ⟨.func, 1, 8, [.nilFunc]⟩,
   ⟨.func, 1, 8, [.nilFunc]⟩,
   ⟨.func, 1, 8, [.nilFunc]⟩,
   ⟨.func, 1, 8, [.nilFunc]⟩,
   ⟨.func, 1, 8, [.nilFunc]⟩,
   ⟨.func, 1, 8, [.nilFunc]⟩,
   ⟨.func, 1, 8, [.nilFunc]⟩,
   ⟨.func, 1, 8, [.nilFunc]⟩,
   ⟨.func, 1, 8, [.nilFunc]⟩,
   ⟨.func, 1, 8, [.nilFunc]⟩,
   ⟨.func, 1, 8, [.nilFunc]⟩,
   ⟨.func, 1, 8, [.nilFunc]⟩],
  [⟨.func, 1, 8, [.nilFunc]⟩,
   ⟨.other, 0, 0, []⟩,
   ⟨.func, 1, 8, [.nilFunc]⟩,
   ⟨.func, 1, 8, [.nilFunc]⟩,
   ⟨.func, 1, 8, [.nilFunc]⟩,
   ⟨.func, 1, 8, [.nilFunc]⟩,
   ⟨.func, 1, 8, [.nilFunc]⟩,
   ⟨.func, 1, 8, [.nilFunc]⟩,
   ⟨.func, 1, 8, [.nilFunc]⟩,
   ⟨.func, 1, 8, [.nilFunc]⟩,
   ⟨.func, 1, 8, [.nilFunc]⟩,
   ⟨.func, 1, 8, [.nilFunc]⟩,
   ⟨.func, 1, 8, [.nilFunc]⟩,
   ⟨.func, 1, 8, [.nilFunc]⟩,
   ⟨.func, 1, 8, [.nilFunc]⟩,
   ⟨.func, 1, 8, [.nilFunc]⟩],
  [⟨.func, 1, 8, [.nilFunc]⟩,
   ⟨.func, 1, 8, [.nilFunc]⟩,
   ⟨.func, 1, 8, [.nilFunc]⟩,
   ⟨.func, 1, 8, [.nilFunc]⟩,
   ⟨.int .u64, 1, 8, [.int .u64 0]⟩,
   ⟨.func, 1, 8, [.nilFunc]⟩,
   ⟨.func, 1, 8, [.nilFunc]⟩,
   ⟨.func, 1, 8, [.nilFunc]⟩,
   ⟨.func, 1, 8, [.nilFunc]⟩,
   ⟨.func, 1, 8, [.nilFunc]⟩,
   ⟨.func, 1, 8, [.nilFunc]⟩,
   ⟨.func, 1, 8, [.nilFunc]⟩,
   ⟨.func, 1, 8, [.nilFunc]⟩,
   ⟨.func, 1, 8, [.nilFunc]⟩,
   ⟨.func, 1, 8, [.nilFunc]⟩,
   ⟨.func, 1, 8, [.nilFunc]⟩],
  [⟨.int .u32, 1, 4, [.int .u32 0]⟩,
   ⟨.func, 1, 8, [.nilFunc]⟩,
   ⟨.int .u64, 1, 8, [.int .u64 0]⟩,
   ⟨.func, 1, 8, [.nilFunc]⟩,
   ⟨.other, 0, 0, []⟩,
   ⟨.func, 1, 8, [.nilFunc]⟩,
   ⟨.func, 1, 8, [.nilFunc]⟩,
   ⟨.func, 1, 8, [.nilFunc]⟩,
   ⟨.func, 1, 8, [.nilFunc]⟩,
   ⟨.func, 1, 8, [.nilFunc]⟩,
   ⟨.func, 1, 8, [.nilFunc]⟩,
   ⟨.struct [(0, 1, 17), (1, 1, 17), (2, 1, 17), (3, 1, 9)], 4, 40, [.pointer none, .pointer none, .pointer none, .string ⟨#[]⟩]⟩,
   ⟨.struct [(0, 1, 17), (1, 1, 17), (2, 1, 17), (3, 1, 9)], 4, 40, [.pointer none, .pointer none, .pointer none, .string ⟨#[]⟩]⟩,
   ⟨.other, 0, 0, []⟩,
   ⟨.other, 0, 0, []⟩,
   ⟨.other, 0, 0, []⟩],
  [⟨.func, 1, 8, [.nilFunc]⟩,
   ⟨.int .u8, 1, 1, [.int .u8 0]⟩,
   ⟨.int .u8, 1, 1, [.int .u8 0]⟩,
   ⟨.func, 1, 8, [.nilFunc]⟩,
   ⟨.pointer 5, 1, 8, [.pointer none]⟩,
   ⟨.int .i32, 1, 4, [.int .i32 0]⟩,
   ⟨.int .i32, 1, 4, [.int .i32 0]⟩,
   ⟨.struct [(0, 1, 12), (1, 1, 12), (2, 1, 112), (3, 1, 129), (4, 1, 5), (5, 1, 5), (6, 1, 130), (7, 1, 131), (8, 1, 132), (9, 1, 133), (10, 1, 134)], 11, 48, [.int .u64 0, .int .u64 0, .int .u32 0, .int .u8 0, .int .u8 0, .int .u8 0, .int .u8 0, .nilFunc, .pointer none, .int .i32 0, .int .i32 0]⟩,
   ⟨.struct [(0, 1, 12), (1, 1, 12), (2, 1, 112), (3, 1, 129), (4, 1, 5), (5, 1, 5), (6, 1, 130), (7, 1, 131), (8, 1, 132), (9, 1, 133), (10, 1, 134)], 11, 48, [.int .u64 0, .int .u64 0, .int .u32 0, .int .u8 0, .int .u8 0, .int .u8 0, .int .u8 0, .nilFunc, .pointer none, .int .i32 0, .int .i32 0]⟩,
   ⟨.other, 0, 0, []⟩,
   ⟨.other, 0, 0, []⟩,
   ⟨.other, 0, 0, []⟩,
   ⟨.other, 0, 0, []⟩,
   ⟨.other, 0, 0, []⟩,
   ⟨.other, 0, 0, []⟩,
   ⟨.other, 0, 0, []⟩]]
theorem tabOk : TabOk Try.prog tab := tabOk_of (by kernel_rfl)
theorem row2 : tab.row 2 = ⟨.int .i64, 1, 8, [.int .i64 0]⟩ := Eq.trans rfl rfl
theorem row3 : tab.row 3 = ⟨.int .i64, 1, 8, [.int .i64 0]⟩ := Eq.trans rfl rfl
theorem row4 : tab.row 4 = ⟨.bool, 1, 1, [.bool false]⟩ := Eq.trans rfl rfl
theorem row5 : tab.row 5 = ⟨.int .u8, 1, 1, [.int .u8 0]⟩ := Eq.trans rfl rfl
theorem row6 : tab.row 6 = ⟨.int .u8, 1, 1, [.int .u8 0]⟩ := Eq.trans rfl rfl
theorem row7 : tab.row 7 = ⟨.struct [(0, 1, 2), (1, 1, 3), (2, 1, 4), (3, 1, 6)], 4, 24, [.int .i64 0, .int .i64 0, .bool false, .int .u8 0]⟩ := Eq.trans rfl rfl
theorem row8 : tab.row 8 = ⟨.struct [(0, 1, 2), (1, 1, 3), (2, 1, 4), (3, 1, 6)], 4, 24, [.int .i64 0, .int .i64 0, .bool false, .int .u8 0]⟩ := Eq.trans rfl rfl
theorem row9 : tab.row 9 = ⟨.string, 1, 16, [.string ⟨#[]⟩]⟩ := Eq.trans rfl rfl
theorem row10 : tab.row 10 = ⟨.string, 1, 16, [.string ⟨#[]⟩]⟩ := Eq.trans rfl rfl
theorem row11 : tab.row 11 = ⟨.string, 1, 16, [.string ⟨#[]⟩]⟩ := Eq.trans rfl rfl
theorem row12 : tab.row 12 = ⟨.int .u64, 1, 8, [.int .u64 0]⟩ := Eq.trans rfl rfl
theorem row13 : tab.row 13 = ⟨.struct [(0, 1, 9), (1, 1, 12)], 2, 24, [.string ⟨#[]⟩, .int .u64 0]⟩ := Eq.trans rfl rfl
theorem row14 : tab.row 14 = ⟨.struct [(0, 1, 9), (1, 1, 12)], 2, 24, [.string ⟨#[]⟩, .int .u64 0]⟩ := Eq.trans rfl rfl
theorem row15 : tab.row 15 = ⟨.pointer 124, 1, 8, [.pointer none]⟩ := Eq.trans rfl rfl
theorem row16 : tab.row 16 = ⟨.pointer 127, 1, 8, [.pointer none]⟩ := Eq.trans rfl rfl
theorem row17 : tab.row 17 = ⟨.pointer 136, 1, 8, [.pointer none]⟩ := Eq.trans rfl rfl
theorem row18 : tab.row 18 = ⟨.struct [(0, 1, 17)], 1, 8, [.pointer none]⟩ := Eq.trans rfl rfl
theorem row19 : tab.row 19 = ⟨.struct [(0, 1, 17)], 1, 8, [.pointer none]⟩ := Eq.trans rfl rfl
theorem row21 : tab.row 21 = ⟨.int .i32, 1, 4, [.int .i32 0]⟩ := Eq.trans rfl rfl
theorem row22 : tab.row 22 = ⟨.slice 3, 1, 24, [.slice none 0 0]⟩ := Eq.trans rfl rfl
theorem row23 : tab.row 23 = ⟨.struct [(0, 1, 3), (1, 1, 3), (2, 1, 3), (3, 1, 3), (4, 1, 3), (5, 1, 3)], 6, 48, [.int .i64 0, .int .i64 0, .int .i64 0, .int .i64 0, .int .i64 0, .int .i64 0]⟩ := Eq.trans rfl rfl
theorem row24 : tab.row 24 = ⟨.struct [(0, 1, 3), (1, 1, 3), (2, 1, 3), (3, 1, 3), (4, 1, 3), (5, 1, 3)], 6, 48, [.int .i64 0, .int .i64 0, .int .i64 0, .int .i64 0, .int .i64 0, .int .i64 0]⟩ := Eq.trans rfl rfl
theorem row25 : tab.row 25 = ⟨.struct [(0, 1, 3), (1, 1, 3), (2, 1, 4)], 3, 24, [.int .i64 0, .int .i64 0, .bool false]⟩ := Eq.trans rfl rfl
theorem row26 : tab.row 26 = ⟨.struct [(0, 1, 3), (1, 1, 3), (2, 1, 4)], 3, 24, [.int .i64 0, .int .i64 0, .bool false]⟩ := Eq.trans rfl rfl
theorem row27 : tab.row 27 = ⟨.struct [(0, 1, 3), (1, 1, 3), (2, 1, 3), (3, 1, 3), (4, 1, 3)], 5, 40, [.int .i64 0, .int .i64 0, .int .i64 0, .int .i64 0, .int .i64 0]⟩ := Eq.trans rfl rfl
theorem row28 : tab.row 28 = ⟨.struct [(0, 1, 3), (1, 1, 3), (2, 1, 3), (3, 1, 3), (4, 1, 3)], 5, 40, [.int .i64 0, .int .i64 0, .int .i64 0, .int .i64 0, .int .i64 0]⟩ := Eq.trans rfl rfl
theorem row29 : tab.row 29 = ⟨.struct [(0, 1, 3), (1, 1, 3)], 2, 16, [.int .i64 0, .int .i64 0]⟩ := Eq.trans rfl rfl
theorem row30 : tab.row 30 = ⟨.struct [(0, 1, 3), (1, 1, 3)], 2, 16, [.int .i64 0, .int .i64 0]⟩ := Eq.trans rfl rfl
theorem row31 : tab.row 31 = ⟨.struct [(0, 1, 3), (1, 1, 22), (2, 1, 3), (3, 6, 24), (9, 3, 26), (12, 5, 28), (17, 2, 30)], 19, 168, [.int .i64 0, .slice none 0 0, .int .i64 0, .int .i64 0, .int .i64 0, .int .i64 0, .int .i64 0, .int .i64 0, .int .i64 0, .int .i64 0, .int .i64 0, .bool false, .int .i64 0, .int .i64 0, .int .i64 0, .int .i64 0, .int .i64 0, .int .i64 0, .int .i64 0]⟩ := Eq.trans rfl rfl
theorem row32 : tab.row 32 = ⟨.struct [(0, 1, 3), (1, 1, 22), (2, 1, 3), (3, 6, 24), (9, 3, 26), (12, 5, 28), (17, 2, 30)], 19, 168, [.int .i64 0, .slice none 0 0, .int .i64 0, .int .i64 0, .int .i64 0, .int .i64 0, .int .i64 0, .int .i64 0, .int .i64 0, .int .i64 0, .int .i64 0, .bool false, .int .i64 0, .int .i64 0, .int .i64 0, .int .i64 0, .int .i64 0, .int .i64 0, .int .i64 0]⟩ := Eq.trans rfl rfl
theorem row34 : tab.row 34 = ⟨.slice 65, 1, 24, [.slice none 0 0]⟩ := Eq.trans rfl rfl
theorem row37 : tab.row 37 = ⟨.struct [(0, 1, 3), (1, 1, 3), (2, 1, 3), (3, 1, 3), (4, 1, 3), (5, 1, 3)], 6, 48, [.int .i64 0, .int .i64 0, .int .i64 0, .int .i64 0, .int .i64 0, .int .i64 0]⟩ := Eq.trans rfl rfl
theorem row38 : tab.row 38 = ⟨.struct [(0, 1, 3), (1, 1, 3), (2, 1, 4)], 3, 24, [.int .i64 0, .int .i64 0, .bool false]⟩ := Eq.trans rfl rfl
theorem row39 : tab.row 39 = ⟨.struct [(0, 1, 3), (1, 1, 3), (2, 1, 3), (3, 1, 3), (4, 1, 3)], 5, 40, [.int .i64 0, .int .i64 0, .int .i64 0, .int .i64 0, .int .i64 0]⟩ := Eq.trans rfl rfl
theorem row40 : tab.row 40 = ⟨.struct [(0, 1, 3), (1, 1, 3)], 2, 16, [.int .i64 0, .int .i64 0]⟩ := Eq.trans rfl rfl
theorem row41 : tab.row 41 = ⟨.struct [(0, 1, 3), (1, 1, 22), (2, 1, 3), (3, 6, 37), (9, 3, 38), (12, 5, 39), (17, 2, 40)], 19, 168, [.int .i64 0, .slice none 0 0, .int .i64 0, .int .i64 0, .int .i64 0, .int .i64 0, .int .i64 0, .int .i64 0, .int .i64 0, .int .i64 0, .int .i64 0, .bool false, .int .i64 0, .int .i64 0, .int .i64 0, .int .i64 0, .int .i64 0, .int .i64 0, .int .i64 0]⟩ := Eq.trans rfl rfl
theorem row42 : tab.row 42 = ⟨.struct [(0, 1, 3), (1, 1, 22), (2, 1, 3), (3, 6, 37), (9, 3, 38), (12, 5, 39), (17, 2, 40)], 19, 168, [.int .i64 0, .slice none 0 0, .int .i64 0, .int .i64 0, .int .i64 0, .int .i64 0, .int .i64 0, .int .i64 0, .int .i64 0, .int .i64 0, .int .i64 0, .bool false, .int .i64 0, .int .i64 0, .int .i64 0, .int .i64 0, .int .i64 0, .int .i64 0, .int .i64 0]⟩ := Eq.trans rfl rfl
theorem row57 : tab.row 57 = ⟨.slice 5, 1, 24, [.slice none 0 0]⟩ := Eq.trans rfl rfl
theorem row58 : tab.row 58 = ⟨.slice 60, 1, 24, [.slice none 0 0]⟩ := Eq.trans rfl rfl
theorem row59 : tab.row 59 = ⟨.struct [(0, 1, 3), (1, 1, 57), (2, 1, 58)], 3, 56, [.int .i64 0, .slice none 0 0, .slice none 0 0]⟩ := Eq.trans rfl rfl
theorem row60 : tab.row 60 = ⟨.struct [(0, 1, 3), (1, 1, 57), (2, 1, 58)], 3, 56, [.int .i64 0, .slice none 0 0, .slice none 0 0]⟩ := Eq.trans rfl rfl
theorem row64 : tab.row 64 = ⟨.struct [(0, 1, 3), (1, 1, 57), (2, 1, 3)], 3, 40, [.int .i64 0, .slice none 0 0, .int .i64 0]⟩ := Eq.trans rfl rfl
theorem row65 : tab.row 65 = ⟨.struct [(0, 1, 3), (1, 1, 57), (2, 1, 3)], 3, 40, [.int .i64 0, .slice none 0 0, .int .i64 0]⟩ := Eq.trans rfl rfl
theorem row100 : tab.row 100 = ⟨.int .u64, 1, 8, [.int .u64 0]⟩ := Eq.trans rfl rfl
theorem row112 : tab.row 112 = ⟨.int .u32, 1, 4, [.int .u32 0]⟩ := Eq.trans rfl rfl
theorem row114 : tab.row 114 = ⟨.int .u64, 1, 8, [.int .u64 0]⟩ := Eq.trans rfl rfl
theorem row123 : tab.row 123 = ⟨.struct [(0, 1, 17), (1, 1, 17), (2, 1, 17), (3, 1, 9)], 4, 40, [.pointer none, .pointer none, .pointer none, .string ⟨#[]⟩]⟩ := Eq.trans rfl rfl
theorem row124 : tab.row 124 = ⟨.struct [(0, 1, 17), (1, 1, 17), (2, 1, 17), (3, 1, 9)], 4, 40, [.pointer none, .pointer none, .pointer none, .string ⟨#[]⟩]⟩ := Eq.trans rfl rfl
theorem row129 : tab.row 129 = ⟨.int .u8, 1, 1, [.int .u8 0]⟩ := Eq.trans rfl rfl
theorem row130 : tab.row 130 = ⟨.int .u8, 1, 1, [.int .u8 0]⟩ := Eq.trans rfl rfl
theorem row132 : tab.row 132 = ⟨.pointer 5, 1, 8, [.pointer none]⟩ := Eq.trans rfl rfl
theorem row133 : tab.row 133 = ⟨.int .i32, 1, 4, [.int .i32 0]⟩ := Eq.trans rfl rfl
theorem row134 : tab.row 134 = ⟨.int .i32, 1, 4, [.int .i32 0]⟩ := Eq.trans rfl rfl
theorem row135 : tab.row 135 = ⟨.struct [(0, 1, 12), (1, 1, 12), (2, 1, 112), (3, 1, 129), (4, 1, 5), (5, 1, 5), (6, 1, 130), (7, 1, 131), (8, 1, 132), (9, 1, 133), (10, 1, 134)], 11, 48, [.int .u64 0, .int .u64 0, .int .u32 0, .int .u8 0, .int .u8 0, .int .u8 0, .int .u8 0, .nilFunc, .pointer none, .int .i32 0, .int .i32 0]⟩ := Eq.trans rfl rfl
theorem row136 : tab.row 136 = ⟨.struct [(0, 1, 12), (1, 1, 12), (2, 1, 112), (3, 1, 129), (4, 1, 5), (5, 1, 5), (6, 1, 130), (7, 1, 131), (8, 1, 132), (9, 1, 133), (10, 1, 134)], 11, 48, [.int .u64 0, .int .u64 0, .int .u32 0, .int .u8 0, .int .u8 0, .int .u8 0, .int .u8 0, .nilFunc, .pointer none, .int .i32 0, .int .i32 0]⟩ := Eq.trans rfl rfl
attribute [go_sem] row2 row3 row4 row5 row6 row7 row8 row9 row10 row11 row12 row13 row14 row15 row16 row17 row18 row19 row21 row22 row23 row24 row25 row26 row27 row28 row29 row30 row31 row32 row34 row37 row38 row39 row40 row41 row42 row57 row58 row59 row60 row64 row65 row100 row112 row114 row123 row124 row129 row130 row132 row133 row134 row135 row136
end Go.Proofs.W

namespace Go.Proofs.W
open Go Go.AM
set_option linter.unusedSimpArgs false
set_option linter.unusedVariables false
variable (hm : Try.prog.follows .mixedOrders = true)

def inB (n a b : Int) : Bool := decide (a ≤ n) && decide (n ≤ b)
set_option maxRecDepth 10000 in
include hm in
theorem l1In (n a b : Int) : Holds Try.prog 36 [.v (.int .i64 n), .v (.int .i64 a), .v (.int .i64 b)] [] (.v (.bool (inB n a b))) [] := by
  refine holds_of (ann := []) tabOk hm Try.func36 (by kernel_rfl) rfl ?_
  simp (decide := true) only [Try.f36, go_sem, Nat.reduceAdd, Nat.reduceMul, Nat.reduceSub]
  refine Runs.split (fun h => ?_) (fun h => ?_)
  · simp only [decide_eq_true_eq] at h
    have e : inB n a b = decide (n ≤ b) := by simp [inB]; omega
    simp (decide := true) only [e, go_sem, Nat.reduceAdd, Nat.reduceMul, Nat.reduceSub]
    exact Runs.ret_v
  · simp only [decide_eq_false_iff_not] at h
    have e : inB n a b = false := by simp [inB]; omega
    simp (decide := true) only [e, go_sem, Nat.reduceAdd, Nat.reduceMul, Nat.reduceSub]
    exact Runs.ret_v
set_option maxRecDepth 10000 in
include hm in
theorem within (n a b : Int) : Holds Try.prog 51 [.v (.int .i64 n), .v (.int .i64 a), .v (.int .i64 b)] [] (.v (.bool (inB n a b))) [] := by
  refine holds_of (ann := []) tabOk hm Try.func51 (by kernel_rfl) rfl ?_
  simp (decide := true) only [Try.f51, go_sem, Nat.reduceAdd, Nat.reduceMul, Nat.reduceSub]
  refine Runs.split (fun h => ?_) (fun h => ?_)
  · simp only [decide_eq_true_eq] at h
    have e : inB n a b = decide (n ≤ b) := by simp [inB]; omega
    simp (decide := true) only [e, go_sem, Nat.reduceAdd, Nat.reduceMul, Nat.reduceSub]
    exact Runs.ret_v
  · simp only [decide_eq_false_iff_not] at h
    have e : inB n a b = false := by simp [inB]; omega
    simp (decide := true) only [e, go_sem, Nat.reduceAdd, Nat.reduceMul, Nat.reduceSub]
    exact Runs.ret_v
def ann26 : Ann := [(0, [1, 2, 9, 10, 11])]
def st26 (L : List Int) (lo hi : Int) (i : Nat) : St := ⟨[.any, .v (.int .i64 lo), .v (.int .i64 hi), .any, .any, .any, .any, .any, .any, .sl .sh (L.map intA), .v (.int .i64 L.length), .v (.int .i64 i), .any, .any, .any, .any, .any, .any, .any, .any, .any], [], []⟩

set_option maxRecDepth 10000 in
include hm in
theorem allWithin (L : List Int) (lo hi : Int) (h3 : L.length ≤ 9223372036854775807) :
    Holds Try.prog 74 [.sl .sh (L.map intA), .v (.int .i64 lo), .v (.int .i64 hi)] [] (.v (.bool (L.all fun n => inB n lo hi))) [] := by
  refine holds_of (ann := ann26) tabOk hm Try.func74 (by kernel_rfl) rfl ?_
  simp (decide := true) only [Try.f74, go_sem, Nat.reduceAdd, Nat.reduceMul, Nat.reduceSub]
  refine Runs.while (α := Nat) (st26 L lo hi) (fun i => L.length - i) (fun i => i ≤ L.length ∧ ((L.drop i).all fun n => inB n lo hi) = L.all fun n => inB n lo hi) 0 ⟨by omega, by simp⟩ ?_ ?_
  · simp [go_sem, ann26, st26]
  · rintro i ⟨hi1, hr⟩ ih
    simp (decide := true) only [st26, go_sem, Nat.reduceAdd, Nat.reduceMul, Nat.reduceSub]
    refine Runs.split (fun h => ?_) (fun h => ?_)
    · have hlt : i < L.length := by simpa using h
      rw [List.drop_eq_getElem_cons hlt, List.all_cons] at hr
      simp (decide := true) (disch := first | omega | (simp only [List.length_map, List.length_cons, List.length_append, List.length_nil]; omega)) only [if_pos, go_sem, Nat.reduceAdd, Nat.reduceMul, Nat.reduceSub]
      refine Runs.call (within hm L[i] lo hi) ?_
      simp (decide := true) only [go_sem, Nat.reduceAdd, Nat.reduceMul, Nat.reduceSub]
      refine Runs.split (fun h => ?_) (fun h => ?_)
      · simp only [Bool.not_eq_true'] at h
        rw [h] at hr
        simp (decide := true) only [← hr, go_sem, Nat.reduceAdd, Nat.reduceMul, Nat.reduceSub]
        exact Runs.ret_v
      · simp only [Bool.not_eq_false'] at h
        rw [h, Bool.true_and] at hr
        simp (decide := true) (disch := first | omega | (simp only [List.length_map, List.length_cons, List.length_append, List.length_nil]; omega)) only [if_pos, go_sem, Nat.reduceAdd, Nat.reduceMul, Nat.reduceSub]
        refine ih (i + 1) _ (by omega) ⟨hlt, hr⟩ ?_
        simp [go_sem, ann26, st26]
    · have hge : i = L.length := by simp at h; omega
      subst hge
      rw [List.drop_length, List.all_nil] at hr
      simp (decide := true) only [← hr, go_sem, Nat.reduceAdd, Nat.reduceMul, Nat.reduceSub]
      exact Runs.ret_v
end Go.Proofs.W

namespace Go.Proofs.W
open Go Go.AM Go.Proofs.G
set_option linter.unusedSimpArgs false
set_option linter.unusedVariables false
variable (hm : Try.prog.follows .mixedOrders = true)

set_option maxRecDepth 10000 in
include hm in
theorem l2Left (a m : Int) (h1 : 0 < m) (h2 : m ≤ 4611686018427387904) : Holds Try.prog 87 [.v (.int .i64 a), .v (.int .i64 m)] [] (.v (.int .i64 (a % m))) [] := by
  refine holds_of (ann := []) tabOk hm Try.func87 (by kernel_rfl) rfl ?_
  have hb := tmod_bd (a := a) h1
  have he := left_eq (a := a) h1
  simp (decide := true) (disch := first | omega | (simp only [List.length_map, List.length_cons, List.length_append, List.length_nil]; omega)) only [Try.f87, he, if_pos, go_sem, Nat.reduceAdd, Nat.reduceMul, Nat.reduceSub]
  exact Runs.ret_v
set_option maxRecDepth 10000 in
include hm in
theorem rest (a m : Int) (h1 : 0 < m) (h2 : m ≤ 4611686018427387904) : Holds Try.prog 96 [.v (.int .i64 a), .v (.int .i64 m)] [] (.v (.int .i64 (a % m))) [] := by
  refine holds_of (ann := []) tabOk hm Try.func96 (by kernel_rfl) rfl ?_
  have hb := tmod_bd (a := a) h1
  have he := left_eq (a := a) h1
  simp (decide := true) (disch := first | omega | (simp only [List.length_map, List.length_cons, List.length_append, List.length_nil]; omega)) only [Try.f96, he, if_pos, go_sem, Nat.reduceAdd, Nat.reduceMul, Nat.reduceSub]
  exact Runs.ret_v
theorem nat_of {m : Int} (h : 0 ≤ m) : ∃ n : Nat, m = n := ⟨m.toNat, (Int.toNat_of_nonneg h).symm⟩
theorem tdiv_nat (r s : Nat) : (r : Int).tdiv s = ((r / s : Nat) : Int) := by rw [Int.tdiv_eq_ediv_of_nonneg (by omega)]; rfl
theorem tmod_nat (r s : Nat) : (r : Int).tmod s = ((r % s : Nat) : Int) := by rw [Int.tmod_eq_emod_of_nonneg (by omega)]; rfl
def liAnn : Ann := [(0, [1, 5, 6, 7, 8])]
def liSt (m : Nat) (p : Nat × Nat × Int × Int) : St := ⟨[.any, .v (.int .i64 m), .any, .any, .any, .v (.int .i64 p.1), .v (.int .i64 p.2.1), .v (.int .i64 p.2.2.1), .v (.int .i64 p.2.2.2), .any, .any, .any, .any, .any, .any, .any, .any, .any, .any, .any, .any, .any, .any, .any, .any, .any, .any, .any, .any, .any, .any, .any, .any, .any], [], []⟩
def liS : Sched := .take 0 (.take 1 (.take 2 (.take 3 (.take 4 (.take 5 .fin)))))
attribute [local go_sem] liS
set_option maxRecDepth 10000 in
include hm in
theorem l2Inv (a m : Int) (h1 : 1 ≤ m) (h2 : m ≤ 1073741824) : Holds Try.prog 86 [.v (.int .i64 a), .v (.int .i64 m)] [] (.v (.int .i64 (invI a m))) [] := by
  refine holds_of (ann := liAnn) tabOk hm Try.func86 (by kernel_rfl) rfl ?_
  obtain ⟨n, rfl⟩ := nat_of (m := m) (by omega)
  simp (decide := true) only [Try.f86, go_sem, Nat.reduceAdd, Nat.reduceMul, Nat.reduceSub]
  refine Runs.call (l2Left hm a n (by omega) (by omega)) ?_
  simp (decide := true) only [go_sem, Nat.reduceAdd, Nat.reduceMul, Nat.reduceSub]
  obtain ⟨s0, hs0⟩ := nat_of (Int.emod_nonneg a (show (n : Int) ≠ 0 by omega))
  refine Runs.while (α := Nat × Nat × Int × Int) (liSt n) (fun p => p.2.1) (fun p => InvS n p.1 p.2.1 p.2.2.1 p.2.2.2 ∧ invGo p.1 p.2.1 p.2.2.1 p.2.2.2 = invGo n s0 0 1 ∧ p.1 ≤ n ∧ p.2.1 ≤ n) (n, s0, 0, 1) ⟨InvS.zero (by omega), rfl, Nat.le_refl _, by have := Int.emod_lt_of_pos a (show (0 : Int) < n by omega); simp only; omega⟩ ?_ ?_
  · simp [go_sem, liAnn, liSt, hs0]
  · rintro ⟨r, s, x, y⟩ ⟨hi, hg, hr1, hs1⟩ ih
    simp only at hi hg hr1 hs1
    simp (decide := true) only [liSt, go_sem, Nat.reduceAdd, Nat.reduceMul, Nat.reduceSub]
    refine Runs.split (fun h => ?_) (fun h => ?_)
    · have hs : s ≠ 0 := by simp at h; omega
      obtain ⟨i1, b1, b2, b3, b4⟩ := hi.next hs
      have e1 := tdiv_nat r s
      have e2 := tmod_nat r s
      have w0 : ∀ q : Nat, q ≤ r → IntKind.i64.wrap (q : Int) = q := fun q h => wrap_i64 (by omega) (by omega)
      have w1 := w0 _ (Nat.div_le_self r s)
      generalize hq : ((r / s : Nat) : Int) = q at *
      have w2 : IntKind.i64.wrap (q * y) = q * y := wrap_i64 (by omega) (by omega)
      have w3 : IntKind.i64.wrap (x - q * y) = x - q * y := wrap_i64 (by omega) (by omega)
      simp (decide := true) (disch := first | omega | (simp only [List.length_map, List.length_cons, List.length_append, List.length_nil]; omega)) only [e1, w1, if_pos, go_sem, Nat.reduceAdd, Nat.reduceMul, Nat.reduceSub]
      refine Runs.draw (st1 := ?s1) (draws_by (ann := liAnn) tabOk liS (by kernel_rfl) ?p1) ?q1
      case p1 =>
        intro K r' X hK
        simp (decide := true) (disch := first | omega | (simp only [List.length_map, List.length_cons, List.length_append, List.length_nil]; omega)) only [e2, if_pos, go_sem, Nat.reduceAdd, Nat.reduceMul, Nat.reduceSub]
        exact hK
      case q1 =>
        simp (decide := true) (disch := first | omega | (simp only [List.length_map, List.length_cons, List.length_append, List.length_nil]; omega)) only [w2, w3, if_pos, go_sem, Nat.reduceAdd, Nat.reduceMul, Nat.reduceSub]
        refine ih (s, r % s, y, x - q * y) _ (by simp only; exact Nat.mod_lt _ (by omega)) ⟨i1, ?_, hs1, by simp only; have := Nat.mod_le r s; omega⟩ ?_
        · rw [← hg, ← hq]
          conv => rhs; rw [invGo, dif_neg hs]
        · simp [go_sem, liAnn, liSt]
    · have hs : s = 0 := by simp at h; omega
      subst hs
      rw [invGo, dif_pos rfl] at hg
      simp (decide := true) only [go_sem, Nat.reduceAdd, Nat.reduceMul, Nat.reduceSub]
      have hv : invI a n = if r = 1 then x % n else 0 := by
        unfold invI
        rw [hs0, Int.toNat_natCast, Int.toNat_natCast, ← hg]
      refine Runs.split (fun h => ?_) (fun h => ?_)
      · have hr : r ≠ 1 := by simp at h; omega
        simp (decide := true) only [hv, hr, go_sem, Nat.reduceAdd, Nat.reduceMul, Nat.reduceSub]
        exact Runs.ret_v
      · have hr : r = 1 := by simp at h; omega
        simp (decide := true) only [go_sem, Nat.reduceAdd, Nat.reduceMul, Nat.reduceSub]
        refine Runs.call (l2Left hm x n (by omega) (by omega)) ?_
        simp (decide := true) only [hv, hr, go_sem, Nat.reduceAdd, Nat.reduceMul, Nat.reduceSub]
        exact Runs.ret_v
def iiAnn : Ann := [(0, [1, 6, 7, 8, 9])]
def iiSt (m : Nat) (p : Nat × Nat × Int × Int) : St := ⟨[.any, .v (.int .i64 m), .any, .any, .any, .any, .v (.int .i64 p.1), .v (.int .i64 p.2.1), .v (.int .i64 p.2.2.1), .v (.int .i64 p.2.2.2), .any, .any, .any, .any, .any, .any, .any, .any, .any, .any, .any, .any, .any, .any, .any, .any, .any, .any, .any, .any, .any, .any, .any, .any, .any, .any, .any, .any], [], []⟩
def iiS : Sched := .take 0 (.take 1 (.take 2 (.take 3 (.take 4 (.take 5 .fin)))))
attribute [local go_sem] iiS
set_option maxRecDepth 10000 in
include hm in
theorem invInt (a m : Int) (h1 : 2 ≤ m) (h2 : m ≤ 1073741824) : Holds Try.prog 95 [.v (.int .i64 a), .v (.int .i64 m)] [] (.tup [.v (.int .i64 (invI a m)), .v (.bool (invOk a m))]) [] := by
  refine holds_of (ann := iiAnn) tabOk hm Try.func95 (by kernel_rfl) rfl ?_
  obtain ⟨n, rfl⟩ := nat_of (m := m) (by omega)
  simp (decide := true) only [Try.f95, go_sem, Nat.reduceAdd, Nat.reduceMul, Nat.reduceSub]
  refine Runs.call (within hm n 2 1073741824) ?_
  have hw : inB n 2 1073741824 = true := by simp [inB]; omega
  simp (decide := true) only [hw, go_sem, Nat.reduceAdd, Nat.reduceMul, Nat.reduceSub]
  refine Runs.call (rest hm a n (by omega) (by omega)) ?_
  simp (decide := true) only [go_sem, Nat.reduceAdd, Nat.reduceMul, Nat.reduceSub]
  obtain ⟨s0, hs0⟩ := nat_of (Int.emod_nonneg a (show (n : Int) ≠ 0 by omega))
  refine Runs.while (α := Nat × Nat × Int × Int) (iiSt n) (fun p => p.2.1) (fun p => InvS n p.1 p.2.1 p.2.2.1 p.2.2.2 ∧ invGo p.1 p.2.1 p.2.2.1 p.2.2.2 = invGo n s0 0 1 ∧ p.1 ≤ n ∧ p.2.1 ≤ n) (n, s0, 0, 1) ⟨InvS.zero (by omega), rfl, Nat.le_refl _, by have := Int.emod_lt_of_pos a (show (0 : Int) < n by omega); simp only; omega⟩ ?_ ?_
  · simp [go_sem, iiAnn, iiSt, hs0]
  · rintro ⟨r, s, x, y⟩ ⟨hi, hg, hr1, hs1⟩ ih
    simp only at hi hg hr1 hs1
    simp (decide := true) only [iiSt, go_sem, Nat.reduceAdd, Nat.reduceMul, Nat.reduceSub]
    refine Runs.split (fun h => ?_) (fun h => ?_)
    · have hs : s ≠ 0 := by simp at h; omega
      obtain ⟨i1, b1, b2, b3, b4⟩ := hi.next hs
      have e1 := tdiv_nat r s
      have e2 := tmod_nat r s
      have w0 : ∀ q : Nat, q ≤ r → IntKind.i64.wrap (q : Int) = q := fun q h => wrap_i64 (by omega) (by omega)
      have w1 := w0 _ (Nat.div_le_self r s)
      generalize hq : ((r / s : Nat) : Int) = q at *
      have w2 : IntKind.i64.wrap (q * y) = q * y := wrap_i64 (by omega) (by omega)
      have w3 : IntKind.i64.wrap (x - q * y) = x - q * y := wrap_i64 (by omega) (by omega)
      simp (decide := true) (disch := first | omega | (simp only [List.length_map, List.length_cons, List.length_append, List.length_nil]; omega)) only [e1, w1, if_pos, go_sem, Nat.reduceAdd, Nat.reduceMul, Nat.reduceSub]
      refine Runs.draw (st1 := ?s1) (draws_by (ann := iiAnn) tabOk iiS (by kernel_rfl) ?p1) ?q1
      case p1 =>
        intro K r' X hK
        simp (decide := true) (disch := first | omega | (simp only [List.length_map, List.length_cons, List.length_append, List.length_nil]; omega)) only [e2, if_pos, go_sem, Nat.reduceAdd, Nat.reduceMul, Nat.reduceSub]
        exact hK
      case q1 =>
        simp (decide := true) (disch := first | omega | (simp only [List.length_map, List.length_cons, List.length_append, List.length_nil]; omega)) only [w2, w3, if_pos, go_sem, Nat.reduceAdd, Nat.reduceMul, Nat.reduceSub]
        refine ih (s, r % s, y, x - q * y) _ (by simp only; exact Nat.mod_lt _ (by omega)) ⟨i1, ?_, hs1, by simp only; have := Nat.mod_le r s; omega⟩ ?_
        · rw [← hg, ← hq]
          conv => rhs; rw [invGo, dif_neg hs]
        · simp [go_sem, iiAnn, iiSt]
    · have hs : s = 0 := by simp at h; omega
      subst hs
      rw [invGo, dif_pos rfl] at hg
      simp (decide := true) only [go_sem, Nat.reduceAdd, Nat.reduceMul, Nat.reduceSub]
      have hv : invI a n = if r = 1 then x % n else 0 := by
        unfold invI
        rw [hs0, Int.toNat_natCast, Int.toNat_natCast, ← hg]
      have hv2 : invOk a n = (r == 1) := by
        unfold invOk
        rw [hs0, Int.toNat_natCast, Int.toNat_natCast, ← hg]
      refine Runs.split (fun h => ?_) (fun h => ?_)
      · have hr : r ≠ 1 := by simp at h; omega
        simp (decide := true) only [hv, hv2, hr, go_sem, Nat.reduceAdd, Nat.reduceMul, Nat.reduceSub]
        exact Runs.ret_eq (by simp [hr])
      · have hr : r = 1 := by simp at h; omega
        simp (decide := true) only [go_sem, Nat.reduceAdd, Nat.reduceMul, Nat.reduceSub]
        refine Runs.call (rest hm x n (by omega) (by omega)) ?_
        simp (decide := true) only [hv, hv2, hr, go_sem, Nat.reduceAdd, Nat.reduceMul, Nat.reduceSub]
        exact Runs.ret_refl
theorem prime_in (n : Int) (h : inB n 2 1099511627776 = false) : primeZ n = false := by
  unfold primeZ
  unfold inB at h
  rw [h, Bool.false_and]
def spAnn : Ann := [(0, [0, 3])]
def spSt (n d : Int) : St := ⟨[.v (.int .i64 n), .any, .any, .v (.int .i64 d), .any, .any, .any, .any, .any, .any, .any, .any, .any, .any, .any, .any, .any, .any], [], []⟩
set_option maxRecDepth 10000 in
include hm in
theorem sPrime (n : Int) : Holds Try.prog 85 [.v (.int .i64 n)] [] (.v (.bool (primeZ n))) [] := by
  refine holds_of (ann := spAnn) tabOk hm Try.func85 (by kernel_rfl) rfl ?_
  simp (decide := true) only [Try.f85, go_sem, Nat.reduceAdd, Nat.reduceMul, Nat.reduceSub]
  refine Runs.call (l1In hm n 2 1099511627776) ?_
  simp (decide := true) only [go_sem, Nat.reduceAdd, Nat.reduceMul, Nat.reduceSub]
  refine Runs.split (fun h => ?_) (fun h => ?_)
  · have e := prime_in n (by simpa using h)
    simp (decide := true) only [e, go_sem, Nat.reduceAdd, Nat.reduceMul, Nat.reduceSub]
    exact Runs.ret_v
  · have hn : 2 ≤ n ∧ n ≤ 1099511627776 := by simpa [inB] using h
    simp (decide := true) only [go_sem, Nat.reduceAdd, Nat.reduceMul, Nat.reduceSub]
    refine Runs.while (α := Int) (spSt n) (fun d => (1048578 - d).toNat) (fun d => 2 ≤ d ∧ d ≤ 1048577 ∧ ∀ e, 2 ≤ e → e < d → e * e ≤ n → n.tmod e ≠ 0) 2 ⟨by omega, by omega, fun e _ _ => by omega⟩ ?_ ?_
    · simp [go_sem, spAnn, spSt]
    · rintro d ⟨d1, d2, hd⟩ ih
      have b1 : d * d ≤ 1048577 * 1048577 := Int.mul_le_mul d2 d2 (by omega) (by omega)
      have b2 : 0 ≤ d * d := Int.mul_nonneg (by omega) (by omega)
      have w1 : IntKind.i64.wrap (d * d) = d * d := wrap_i64 (by omega) (by omega)
      simp (decide := true) only [spSt, w1, go_sem, Nat.reduceAdd, Nat.reduceMul, Nat.reduceSub]
      refine Runs.split (fun h => ?_) (fun h => ?_)
      · have hle : d * d ≤ n := by simpa using h
        have hb := sq_bd (by omega) hle hn.2
        simp (decide := true) (disch := first | omega | (simp only [List.length_map, List.length_cons, List.length_append, List.length_nil]; omega)) only [if_pos, go_sem, Nat.reduceAdd, Nat.reduceMul, Nat.reduceSub]
        refine Runs.split (fun h => ?_) (fun h => ?_)
        · have e := prime_no d1 hle (by simpa using h)
          simp (decide := true) only [e, go_sem, Nat.reduceAdd, Nat.reduceMul, Nat.reduceSub]
          exact Runs.ret_v
        · have hz : n.tmod d ≠ 0 := by simpa using h
          simp (decide := true) (disch := first | omega | (simp only [List.length_map, List.length_cons, List.length_append, List.length_nil]; omega)) only [if_pos, go_sem, Nat.reduceAdd, Nat.reduceMul, Nat.reduceSub]
          refine ih (d + 1) _ (by omega) ⟨by omega, by omega, fun e e1 e2 e3 => ?_⟩ ?_
          · rcases Int.lt_or_le e d with h | h
            · exact hd e e1 h e3
            · have : e = d := by omega
              subst this
              exact hz
          · simp [go_sem, spAnn, spSt]
      · have hgt : n < d * d := by simpa using h
        have e := prime_yes hn.1 hn.2 d1 hgt hd
        simp (decide := true) only [e, go_sem, Nat.reduceAdd, Nat.reduceMul, Nat.reduceSub]
        exact Runs.ret_v
def ipAnn : Ann := [(0, [0, 3])]
def ipSt (n d : Int) : St := ⟨[.v (.int .i64 n), .any, .any, .v (.int .i64 d), .any, .any, .any, .any, .any, .any, .any, .any, .any, .any, .any, .any, .any, .any], [], []⟩
set_option maxRecDepth 10000 in
include hm in
theorem iPrime (n : Int) : Holds Try.prog 93 [.v (.int .i64 n)] [] (.v (.bool (primeZ n))) [] := by
  refine holds_of (ann := ipAnn) tabOk hm Try.func93 (by kernel_rfl) rfl ?_
  simp (decide := true) only [Try.f93, go_sem, Nat.reduceAdd, Nat.reduceMul, Nat.reduceSub]
  refine Runs.call (within hm n 2 1099511627776) ?_
  simp (decide := true) only [go_sem, Nat.reduceAdd, Nat.reduceMul, Nat.reduceSub]
  refine Runs.split (fun h => ?_) (fun h => ?_)
  · have e := prime_in n (by simpa using h)
    simp (decide := true) only [e, go_sem, Nat.reduceAdd, Nat.reduceMul, Nat.reduceSub]
    exact Runs.ret_v
  · have hn : 2 ≤ n ∧ n ≤ 1099511627776 := by simpa [inB] using h
    simp (decide := true) only [go_sem, Nat.reduceAdd, Nat.reduceMul, Nat.reduceSub]
    refine Runs.while (α := Int) (ipSt n) (fun d => (1048578 - d).toNat) (fun d => 2 ≤ d ∧ d ≤ 1048577 ∧ ∀ e, 2 ≤ e → e < d → e * e ≤ n → n.tmod e ≠ 0) 2 ⟨by omega, by omega, fun e _ _ => by omega⟩ ?_ ?_
    · simp [go_sem, ipAnn, ipSt]
    · rintro d ⟨d1, d2, hd⟩ ih
      have b1 : d * d ≤ 1048577 * 1048577 := Int.mul_le_mul d2 d2 (by omega) (by omega)
      have b2 : 0 ≤ d * d := Int.mul_nonneg (by omega) (by omega)
      have w1 : IntKind.i64.wrap (d * d) = d * d := wrap_i64 (by omega) (by omega)
      simp (decide := true) only [ipSt, w1, go_sem, Nat.reduceAdd, Nat.reduceMul, Nat.reduceSub]
      refine Runs.split (fun h => ?_) (fun h => ?_)
      · have hle : d * d ≤ n := by simpa using h
        have hb := sq_bd (by omega) hle hn.2
        simp (decide := true) (disch := first | omega | (simp only [List.length_map, List.length_cons, List.length_append, List.length_nil]; omega)) only [if_pos, go_sem, Nat.reduceAdd, Nat.reduceMul, Nat.reduceSub]
        refine Runs.split (fun h => ?_) (fun h => ?_)
        · have e := prime_no d1 hle (by simpa using h)
          simp (decide := true) only [e, go_sem, Nat.reduceAdd, Nat.reduceMul, Nat.reduceSub]
          exact Runs.ret_v
        · have hz : n.tmod d ≠ 0 := by simpa using h
          simp (decide := true) (disch := first | omega | (simp only [List.length_map, List.length_cons, List.length_append, List.length_nil]; omega)) only [if_pos, go_sem, Nat.reduceAdd, Nat.reduceMul, Nat.reduceSub]
          refine ih (d + 1) _ (by omega) ⟨by omega, by omega, fun e e1 e2 e3 => ?_⟩ ?_
          · rcases Int.lt_or_le e d with h | h
            · exact hd e e1 h e3
            · have : e = d := by omega
              subst this
              exact hz
          · simp [go_sem, ipAnn, ipSt]
      · have hgt : n < d * d := by simpa using h
        have e := prime_yes hn.1 hn.2 d1 hgt hd
        simp (decide := true) only [e, go_sem, Nat.reduceAdd, Nat.reduceMul, Nat.reduceSub]
        exact Runs.ret_v
def lpAnn : Ann := [(0, [1, 2, 7, 8])]
def lpSt (m : Int) (p : Nat × Int × Int) : St := ⟨[.any, .v (.int .i64 p.1), .v (.int .i64 m), .any, .any, .any, .any, .v (.int .i64 p.2.1), .v (.int .i64 p.2.2), .any, .any, .any, .any, .any, .any, .any, .any, .any, .any, .any, .any, .any, .any, .any, .any, .any, .any, .any, .any, .any, .any, .any], [], []⟩
def lpS : Sched := .take 0 (.take 1 (.take 2 (.take 3 (.take 4 (.take 5 (.take 6 .fin))))))
attribute [local go_sem] lpS
set_option maxRecDepth 10000 in
include hm in
theorem l2Pow (a m : Int) (e : Nat) (h0 : 0 ≤ a) (h1 : 0 < m) (h2 : m ≤ 2147483648) (h3 : e ≤ 9223372036854775807) : Holds Try.prog 88 [.v (.int .i64 a), .v (.int .i64 e), .v (.int .i64 m)] [] (.v (.int .i64 (powZ a e m))) [] := by
  refine holds_of (ann := lpAnn) tabOk hm Try.func88 (by kernel_rfl) rfl ?_
  have e1 : (1 : Int).tmod m = 1 % m := Int.tmod_eq_emod_of_nonneg (by omega)
  have e2 : a.tmod m = a % m := Int.tmod_eq_emod_of_nonneg h0
  have hin : ∀ n : Int, 0 ≤ n % m ∧ n % m < m := fun n => ⟨Int.emod_nonneg _ (by omega), Int.emod_lt_of_pos _ h1⟩
  simp (decide := true) only [Try.f88, go_sem, Nat.reduceAdd, Nat.reduceMul, Nat.reduceSub]
  refine Runs.draw (st1 := ?s1) (draws_by (ann := lpAnn) tabOk lpS (by kernel_rfl) ?p1) ?q1
  case p1 =>
    intro K r' X hK
    simp (decide := true) (disch := first | omega | (simp only [List.length_map, List.length_cons, List.length_append, List.length_nil]; omega)) only [e1, e2, if_pos, go_sem, Nat.reduceAdd, Nat.reduceMul, Nat.reduceSub]
    exact hK
  case q1 =>
    simp (decide := true) only [go_sem, Nat.reduceAdd, Nat.reduceMul, Nat.reduceSub]
    refine Runs.while (α := Nat × Int × Int) (lpSt m) (fun p => p.1) (fun p => p.1 ≤ e ∧ (0 ≤ p.2.1 ∧ p.2.1 < m) ∧ (0 ≤ p.2.2 ∧ p.2.2 < m) ∧ mulL (mulZ m) p.1 p.2.1 p.2.2 = powZ a e m) (e, 1 % m, a % m) ⟨Nat.le_refl _, hin _, hin _, powZ_L h1 a e⟩ ?_ ?_
    · simp [go_sem, lpAnn, lpSt]
    · rintro ⟨n, out, base⟩ ⟨hn, ho, hb, hg⟩ ih
      simp only at hn ho hb hg
      have b1 := mul_bd ho hb h2
      have b2 := mul_bd hb hb h2
      have w1 : IntKind.i64.wrap (out * base) = out * base := wrap_i64 (by omega) (by omega)
      have w2 : IntKind.i64.wrap (base * base) = base * base := wrap_i64 (by omega) (by omega)
      have t1 : (out * base).tmod m = mulZ m out base := Int.tmod_eq_emod_of_nonneg b1.1
      have t2 : (base * base).tmod m = mulZ m base base := Int.tmod_eq_emod_of_nonneg b2.1
      have e3 := tmod_nat n 2
      have e4 := tdiv_nat n 2
      have w3 : IntKind.i64.wrap ((n / 2 : Nat) : Int) = ((n / 2 : Nat) : Int) := wrap_i64 (by omega) (by omega)
      simp (decide := true) only [lpSt, go_sem, Nat.reduceAdd, Nat.reduceMul, Nat.reduceSub]
      refine Runs.split (fun h => ?_) (fun h => ?_)
      · have hs : n ≠ 0 := by simp at h; omega
        rw [mulL_step _ _ _ _ hs] at hg
        simp (decide := true) (disch := first | omega | (simp only [List.length_map, List.length_cons, List.length_append, List.length_nil]; omega)) only [if_pos, go_sem, Nat.reduceAdd, Nat.reduceMul, Nat.reduceSub]
        rw [show (2 : Int) = ((2 : Nat) : Int) from rfl, e3]
        refine Runs.split (fun h => ?_) (fun h => ?_)
        · have hbit : n % 2 = 1 := by simp at h; omega
          rw [if_pos hbit] at hg
          simp (decide := true) (disch := first | omega | (simp only [List.length_map, List.length_cons, List.length_append, List.length_nil]; omega)) only [w1, w2, t1, t2, e4, w3, if_pos, go_sem, Nat.reduceAdd, Nat.reduceMul, Nat.reduceSub]
          refine ih (n / 2, mulZ m out base, mulZ m base base) _ (by simp only; omega) ⟨by simp only; omega, hin _, hin _, hg⟩ ?_
          simp [go_sem, lpAnn, lpSt]
        · have hbit : ¬ n % 2 = 1 := by simp at h; omega
          rw [if_neg hbit] at hg
          simp (decide := true) (disch := first | omega | (simp only [List.length_map, List.length_cons, List.length_append, List.length_nil]; omega)) only [w1, w2, t1, t2, e4, w3, if_pos, go_sem, Nat.reduceAdd, Nat.reduceMul, Nat.reduceSub]
          refine ih (n / 2, out, mulZ m base base) _ (by simp only; omega) ⟨by simp only; omega, ho, hin _, hg⟩ ?_
          simp [go_sem, lpAnn, lpSt]
      · have hs : n = 0 := by simp at h; omega
        subst hs
        rw [mulL_zero] at hg
        simp (decide := true) only [hg, go_sem, Nat.reduceAdd, Nat.reduceMul, Nat.reduceSub]
        exact Runs.ret_v
end Go.Proofs.W

namespace Go.Proofs.W
open Go Go.AM Go.Proofs.G
set_option linter.unusedSimpArgs false
set_option linter.unusedVariables false
variable (hm : Try.prog.follows .mixedOrders = true)

theorem shr_nat (n k : Nat) : (n : Int).fdiv (2 ^ k) = ((n / 2 ^ k : Nat) : Int) := by
  rw [Int.fdiv_eq_ediv_of_nonneg _ (Int.le_of_lt (Int.pow_pos (by decide)))]
  have : ((2 : Int) ^ k) = ((2 ^ k : Nat) : Int) := by simp
  rw [this]
  rfl
theorem s32 : min (32 : Int).toNat 64 = 32 := by decide
theorem s16 : min (16 : Int).toNat 64 = 16 := by decide
theorem s8 : min (8 : Int).toNat 64 = 8 := by decide
def tabOk8 (L : List UInt8) : Bool := L.length == 256 && (List.range 256).all fun i => decide (i < 2 ^ (L.getD i 0).toNat) && ((L.getD i 0).toNat == 0 || decide (2 ^ ((L.getD i 0).toNat - 1) ≤ i))
theorem len_get {L : List UInt8} (h : tabOk8 L = true) {x : Nat} (hx : x < 256) : (L.getD x 0).toNat = blen x := by
  simp only [tabOk8, Bool.and_eq_true, List.all_eq_true, List.mem_range, decide_eq_true_eq, Bool.or_eq_true, beq_iff_eq] at h
  have := h.2 x hx
  exact (blen_uniq this.1 this.2).symm
theorem len_size {L : List UInt8} (h : tabOk8 L = true) : (⟨L.toArray⟩ : ByteArray).size = 256 := by
  simp only [tabOk8, Bool.and_eq_true, beq_iff_eq] at h
  show L.toArray.size = 256
  simpa using h.1
theorem len_fin {L : List UInt8} (h : tabOk8 L = true) {x n : Nat} {a : Int} (b : Nat) (hx : x < 256) (ha : a = b) (hb : b ≤ 56) (hn : blen n = b + blen x) :
    A.v (.int .i64 (IntKind.i64.wrap (a + IntKind.i64.wrap ((L.getD x 0).toNat : Nat)))) = A.v (.int .i64 (blen n : Nat)) := by
  subst ha
  have h8 : blen x ≤ 8 := blen_le (by omega)
  have w1 : IntKind.i64.wrap (blen x : Nat) = (blen x : Nat) := wrap_i64 (by omega) (by omega)
  have w2 : IntKind.i64.wrap ((b : Int) + (blen x : Nat)) = (b : Int) + (blen x : Nat) := wrap_i64 (by omega) (by omega)
  rw [len_get h hx, w1, w2, hn]
  rfl
theorem len_in {L : List UInt8} (h : tabOk8 L = true) {x : Nat} (hx : x < 256) : 0 ≤ (x : Int) ∧ (x : Int) < ((⟨L.toArray⟩ : ByteArray).size : Nat) := by
  rw [len_size h]
  omega
set_option maxRecDepth 10000 in
include hm in
theorem len64 (n : Nat) (h : n < 2 ^ 64) : Holds Try.prog 92 [.v (.int .u64 n)] [] (.v (.int .i64 (blen n))) [] := by
  refine holds_of (ann := []) tabOk hm Try.func92 (by kernel_rfl) rfl ?_
  simp (decide := true) only [Try.f92, go_sem, Nat.reduceAdd, Nat.reduceMul, Nat.reduceSub]
  refine Runs.split (fun h => ?_) (fun h => ?_)
  all_goals
    simp (decide := true) only [s32, shr_nat, go_sem, Nat.reduceAdd, Nat.reduceMul, Nat.reduceSub]
    refine Runs.split (fun h1 => ?_) (fun h1 => ?_)
  all_goals
    simp (decide := true) (disch := first | omega | (simp only [List.length_map, List.length_cons, List.length_append, List.length_nil]; omega)) only [s16, shr_nat, if_pos, go_sem, Nat.reduceAdd, Nat.reduceMul, Nat.reduceSub]
    refine Runs.split (fun h2 => ?_) (fun h2 => ?_)
  all_goals
    simp only [decide_eq_true_eq, decide_eq_false_iff_not] at h h1 h2
    simp (decide := true) (disch := first | omega | (simp only [List.length_map, List.length_cons, List.length_append, List.length_nil]; omega)) only [s8, shr_nat, if_pos, go_sem, Nat.reduceAdd, Nat.reduceMul, Nat.reduceSub]
  all_goals
    try simp only [s32, s16, s8] at *
  · refine Runs.chk (decide_eq_true (len_in (by decide +kernel) (by omega))) (Runs.ret_eq (len_fin (by decide +kernel) 56 (by omega) ?_ (by omega) ?_))
    · rfl
    · rw [blen_shift 32 (by omega), blen_shift 16 (by omega), blen_shift 8 (by omega)]; omega
  · refine Runs.chk (decide_eq_true (len_in (by decide +kernel) (by omega))) (Runs.ret_eq (len_fin (by decide +kernel) 48 (by omega) ?_ (by omega) ?_))
    · rfl
    · rw [blen_shift 32 (by omega), blen_shift 16 (by omega)]; omega
  · refine Runs.chk (decide_eq_true (len_in (by decide +kernel) (by omega))) (Runs.ret_eq (len_fin (by decide +kernel) 40 (by omega) ?_ (by omega) ?_))
    · rfl
    · rw [blen_shift 32 (by omega), blen_shift 8 (by omega)]; omega
  · refine Runs.chk (decide_eq_true (len_in (by decide +kernel) (by omega))) (Runs.ret_eq (len_fin (by decide +kernel) 32 (by omega) ?_ (by omega) ?_))
    · rfl
    · rw [blen_shift 32 (by omega)]
  · refine Runs.chk (decide_eq_true (len_in (by decide +kernel) (by omega))) (Runs.ret_eq (len_fin (by decide +kernel) 24 (by omega) ?_ (by omega) ?_))
    · rfl
    · rw [blen_shift 16 (by omega), blen_shift 8 (by omega)]; omega
  · refine Runs.chk (decide_eq_true (len_in (by decide +kernel) (by omega))) (Runs.ret_eq (len_fin (by decide +kernel) 16 (by omega) ?_ (by omega) ?_))
    · rfl
    · rw [blen_shift 16 (by omega)]
  · refine Runs.chk (decide_eq_true (len_in (by decide +kernel) (by omega))) (Runs.ret_eq (len_fin (by decide +kernel) 8 (by omega) ?_ (by omega) ?_))
    · rfl
    · rw [blen_shift 8 (by omega)]
  · refine Runs.chk (decide_eq_true (len_in (by decide +kernel) (by omega))) (Runs.ret_eq (len_fin (by decide +kernel) 0 (by omega) ?_ (by omega) ?_))
    · rfl
    · omega
set_option maxRecDepth 10000 in
include hm in
theorem bitsLen (n : Nat) (h : n < 2 ^ 64) : Holds Try.prog 75 [.v (.int .u64 n)] [] (.v (.int .i64 (blen n))) [] := by
  refine holds_of (ann := []) tabOk hm Try.func75 (by kernel_rfl) rfl ?_
  simp (decide := true) only [Try.f75, go_sem, Nat.reduceAdd, Nat.reduceMul, Nat.reduceSub]
  refine Runs.call (len64 hm n h) ?_
  simp (decide := true) only [go_sem, Nat.reduceAdd, Nat.reduceMul, Nat.reduceSub]
  exact Runs.ret_v
theorem andI_one (n : Nat) (h : n < 2 ^ 63) : andI .i64 n 1 = ((n % 2 : Nat) : Int) := by
  unfold andI
  have e : (BitVec.ofInt IntKind.i64.bits (n : Int) &&& BitVec.ofInt IntKind.i64.bits 1).toNat = n % 2 := by
    rw [BitVec.toNat_and]
    simp only [IntKind.bits, BitVec.toNat_ofInt]
    have e1 : ((n : Int) % (2 ^ 64 : Nat)).toNat = n := by omega
    have e2 : ((1 : Int) % (2 ^ 64 : Nat)).toNat = 1 := by decide
    rw [e1, e2, Nat.and_one_is_mod]
  rw [e]
  exact wrap_i64 (by omega) (by omega)
def piAnn : Ann := [(0, [0, 1, 2, 7, 8])]
def piSt (m a e : Int) (p : Int × Int) : St := ⟨[.v (.int .i64 a), .v (.int .i64 e), .v (.int .i64 m), .any, .any, .any, .any, .v (.int .i64 p.2), .v (.int .i64 p.1), .any, .any, .any, .any, .any, .any, .any, .any, .any, .any, .any, .any, .any, .any, .any, .any, .any, .any, .any, .any, .any, .any, .any, .any, .any, .any, .any, .any, .any], [], []⟩
set_option maxRecDepth 10000 in
include hm in
theorem powInt (a m : Int) (e : Nat) (h0 : 0 ≤ a) (h1 : 0 < m) (h2 : m ≤ 2147483648) (h3 : e ≤ 9223372036854775807) : Holds Try.prog 97 [.v (.int .i64 a), .v (.int .i64 e), .v (.int .i64 m)] [] (.v (.int .i64 (powZ a e m))) [] := by
  refine holds_of (ann := piAnn) tabOk hm Try.func97 (by kernel_rfl) rfl ?_
  have e1 : (1 : Int).tmod m = 1 % m := Int.tmod_eq_emod_of_nonneg (by omega)
  have e2 : a.tmod m = a % m := Int.tmod_eq_emod_of_nonneg h0
  have hin : ∀ n : Int, 0 ≤ n % m ∧ n % m < m := fun n => ⟨Int.emod_nonneg _ (by omega), Int.emod_lt_of_pos _ h1⟩
  have hl : blen e ≤ 63 := blen_le (by omega)
  simp (decide := true) (disch := first | omega | (simp only [List.length_map, List.length_cons, List.length_append, List.length_nil]; omega)) only [Try.f97, e1, e2, if_pos, go_sem, Nat.reduceAdd, Nat.reduceMul, Nat.reduceSub]
  refine Runs.call (bitsLen hm e (by omega)) ?_
  simp (decide := true) (disch := first | omega | (simp only [List.length_map, List.length_cons, List.length_append, List.length_nil]; omega)) only [if_pos, go_sem, Nat.reduceAdd, Nat.reduceMul, Nat.reduceSub]
  have ha := hin a
  rw [← powZ_M h1 a e]
  generalize a % m = b at ha ⊢
  refine Runs.while (α := Int × Int) (piSt m b e) (fun p => (p.1 + 1).toNat) (fun p => -1 ≤ p.1 ∧ p.1 ≤ 62 ∧ (0 ≤ p.2 ∧ p.2 < m) ∧ (p.1 = -1 ∨ 2 ^ p.1.toNat ≤ e) ∧ p.2 = mulM (mulZ m) (1 % m) (e / 2 ^ (p.1 + 1).toNat) b) ((blen e : Int) - 1, 1 % m) ⟨by simp only; omega, by simp only; omega, hin _, ?_, ?_⟩ ?_ ?_
  · simp only
    by_cases hz : e = 0
    · left; subst hz; rw [blen_zero]; rfl
    · right
      have := blen_ge hz
      have hp := blen_pos hz
      have e : ((blen e : Int) - 1).toNat = blen e - 1 := by omega
      rw [e]
      exact this
  · simp only
    have e : ((blen e : Int) - 1 + 1).toNat = blen e := by omega
    rw [e, Nat.div_eq_of_lt blen_lt, mulM_zero]
  · simp [go_sem, piAnn, piSt]
  · rintro ⟨i, out⟩ ⟨hi1, hi2, ho, hi3, hg⟩ ih
    simp only at hi1 hi2 ho hi3 hg
    simp (decide := true) only [piSt, go_sem, Nat.reduceAdd, Nat.reduceMul, Nat.reduceSub]
    refine Runs.split (fun h => ?_) (fun h => ?_)
    · have hs : 0 ≤ i := by simpa using h
      obtain ⟨k, rfl⟩ := nat_of hs
      have hk : 2 ^ k ≤ e := by
        rcases hi3 with h | h
        · omega
        · simpa using h
      have ek : ((k : Int) + 1).toNat = k + 1 := by omega
      rw [ek] at hg
      have hst := mulM_step (mulZ m) (1 % m) e k b hk
      rw [← hg] at hst
      have b1 := mul_bd ho ho h2
      have w1 : IntKind.i64.wrap (out * out) = out * out := wrap_i64 (by omega) (by omega)
      have t1 : (out * out).tmod m = mulZ m out out := Int.tmod_eq_emod_of_nonneg b1.1
      have ho' : 0 ≤ mulZ m out out ∧ mulZ m out out < m := hin _
      have b2 := mul_bd ho' ha h2
      have w2 : IntKind.i64.wrap (mulZ m out out * b) = mulZ m out out * b := wrap_i64 (by omega) (by omega)
      have t2 : (mulZ m out out * b).tmod m = mulZ m (mulZ m out out) b := Int.tmod_eq_emod_of_nonneg b2.1
      have hq := Nat.div_le_self e (2 ^ k)
      have ea := andI_one (e / 2 ^ k) (by omega)
      have em : min k 64 = k := by omega
      have es := shr_nat e k
      have hpow : k = 0 ∨ 2 ^ (k - 1) ≤ e := by
        rcases Nat.eq_zero_or_pos k with h | h
        · exact .inl h
        · right; exact Nat.le_trans (Nat.pow_le_pow_right (by omega) (by omega)) hk
      simp (decide := true) (disch := first | omega | (simp only [List.length_map, List.length_cons, List.length_append, List.length_nil]; omega)) only [w1, t1, em, es, ea, if_pos, go_sem, Nat.reduceAdd, Nat.reduceMul, Nat.reduceSub]
      refine Runs.split (fun h => ?_) (fun h => ?_)
      · have hbit : e / 2 ^ k % 2 = 1 := by simp only [decide_eq_true_eq] at h; omega
        rw [if_pos hbit] at hst
        simp (decide := true) (disch := first | omega | (simp only [List.length_map, List.length_cons, List.length_append, List.length_nil]; omega)) only [w2, t2, if_pos, go_sem, Nat.reduceAdd, Nat.reduceMul, Nat.reduceSub]
        refine ih ((k : Int) - 1, mulZ m (mulZ m out out) b) _ (by simp only; omega) ⟨by simp only; omega, by simp only; omega, hin _, ?_, ?_⟩ ?_
        · simp only
          rcases hpow with h | h
          · left; omega
          · right
            have e : ((k : Int) - 1).toNat = k - 1 := by omega
            rw [e]; exact h
        · simp only
          have e : ((k : Int) - 1 + 1).toNat = k := by omega
          rw [e, hst]
        · simp [go_sem, piAnn, piSt]
      · have hbit : ¬ e / 2 ^ k % 2 = 1 := by simp only [decide_eq_false_iff_not] at h; omega
        rw [if_neg hbit] at hst
        simp (decide := true) (disch := first | omega | (simp only [List.length_map, List.length_cons, List.length_append, List.length_nil]; omega)) only [if_pos, go_sem, Nat.reduceAdd, Nat.reduceMul, Nat.reduceSub]
        refine ih ((k : Int) - 1, mulZ m out out) _ (by simp only; omega) ⟨by simp only; omega, by simp only; omega, hin _, ?_, ?_⟩ ?_
        · simp only
          rcases hpow with h | h
          · left; omega
          · right
            have e : ((k : Int) - 1).toNat = k - 1 := by omega
            rw [e]; exact h
        · simp only
          have e : ((k : Int) - 1 + 1).toNat = k := by omega
          rw [e, hst]
        · simp [go_sem, piAnn, piSt]
    · have hs : i = -1 := by simp at h; omega
      subst hs
      simp at hg
      simp (decide := true) only [hg, go_sem, Nat.reduceAdd, Nat.reduceMul, Nat.reduceSub]
      exact Runs.ret_v
end Go.Proofs.W

namespace Go.Proofs.W
open Go Go.AM Go.Proofs.G
set_option linter.unusedSimpArgs false
set_option linter.unusedVariables false
variable (hm : Try.prog.follows .mixedOrders = true)

/-- A curve as the program has it. -/
structure GCv where
  p : Int
  a : Int
  b : Int
  n : Int
  gx : Int
  gy : Int
def cvA (k : GCv) : A := .agg [.v (.int .i64 k.p), .v (.int .i64 k.a), .v (.int .i64 k.b), .v (.int .i64 k.n), .v (.int .i64 k.gx), .v (.int .i64 k.gy)]
def ptA (P : GPt) : A := .agg [.v (.int .i64 P.x), .v (.int .i64 P.y), .v (.bool P.far)]
def CvIn (k : GCv) : Prop := 5 ≤ k.p ∧ k.p ≤ 1048576 ∧ (0 ≤ k.a ∧ k.a < k.p) ∧ (0 ≤ k.b ∧ k.b < k.p)
def PtIn (p : Int) (P : GPt) : Prop := (0 ≤ P.x ∧ P.x < p) ∧ (0 ≤ P.y ∧ P.y < p)
theorem mul_in {a b m : Int} (h1 : 0 ≤ a ∧ a < m) (h2 : 0 ≤ b ∧ b < m) (hm : m ≤ 2097152) : 0 ≤ a * b ∧ a * b ≤ 4398046511104 := by
  have : a * b ≤ 2097152 * 2097152 := Int.mul_le_mul (by omega) (by omega) h2.1 (by omega)
  exact ⟨Int.mul_nonneg h1.1 h2.1, by omega⟩
theorem mod_in' {m : Int} (h : 0 < m) (n : Int) : 0 ≤ n % m ∧ n % m < m := ⟨Int.emod_nonneg _ (by omega), Int.emod_lt_of_pos _ h⟩
attribute [local go_sem] cvA ptA
def soS : Sched := .take 0 (.take 2 (.take 5 (.take 8 (.take 10 (.take 13 (.take 16 (.take 19 (.take 22 (.take 25 (.ld 1 (.ld 3 (.take 4 (.ld 6 (.take 7 (.ld 9 (.ld 11 (.take 12 (.ld 14 (.take 15 (.ld 17 (.take 18 (.ld 20 (.take 21 (.ld 23 (.take 24 (.ld 26 (.take 27 (.take 28 (.take 29 .fin)))))))))))))))))))))))))))))
attribute [local go_sem] soS
set_option maxRecDepth 10000 in
include hm in
theorem l3On (k : GCv) (P : GPt) (hk : CvIn k) : Holds Try.prog 66 [cvA k, ptA P] [] (.v (.bool (onZ k.p k.a k.b P))) [] := by
  refine holds_ref (ann := []) tabOk hm (byL [] [1000002, 1000003]) Try.func66 (by kernel_rfl) rfl ?_
  obtain ⟨p, a, b, n, gx, gy⟩ := k
  obtain ⟨x, y, far⟩ := P
  obtain ⟨h1, h2, h3, h4⟩ := hk
  simp only at h1 h2 h3 h4
  simp (decide := true) only [Try.f66, go_sem, Nat.reduceAdd, Nat.reduceMul, Nat.reduceSub]
  refine Runs.split (fun h => ?_) (fun h => ?_)
  · subst h
    simp (decide := true) only [go_sem, Nat.reduceAdd, Nat.reduceMul, Nat.reduceSub]
    refine Runs.split (fun h => ?_) (fun h => ?_)
    · have hx : x = 0 := by simpa using h
      subst hx
      simp (decide := true) only [go_sem, Nat.reduceAdd, Nat.reduceMul, Nat.reduceSub]
      exact Runs.ret_eq (by simp [onZ])
    · have hx : x ≠ 0 := by simpa using h
      simp (decide := true) only [go_sem, Nat.reduceAdd, Nat.reduceMul, Nat.reduceSub]
      exact Runs.ret_eq (by simp [onZ, hx])
  · subst h
    simp (decide := true) (disch := first | omega | (simp only [List.length_map, List.length_cons, List.length_append, List.length_nil]; omega)) only [if_pos, go_sem, Nat.reduceAdd, Nat.reduceMul, Nat.reduceSub]
    refine Runs.call (l1In hm x 0 (p - 1)) ?_
    simp (decide := true) only [go_sem, Nat.reduceAdd, Nat.reduceMul, Nat.reduceSub]
    refine Runs.split (fun h => ?_) (fun h => ?_)
    · have e : onZ p a b ⟨x, y, false⟩ = false := by simp [inB] at h; simp [onZ]; omega
      simp (decide := true) only [e, go_sem, Nat.reduceAdd, Nat.reduceMul, Nat.reduceSub]
      exact Runs.ret_v
    · have hx : 0 ≤ x ∧ x < p := by simp [inB] at h; omega
      simp (decide := true) (disch := first | omega | (simp only [List.length_map, List.length_cons, List.length_append, List.length_nil]; omega)) only [if_pos, go_sem, Nat.reduceAdd, Nat.reduceMul, Nat.reduceSub]
      refine Runs.call (l1In hm y 0 (p - 1)) ?_
      simp (decide := true) only [go_sem, Nat.reduceAdd, Nat.reduceMul, Nat.reduceSub]
      refine Runs.split (fun h => ?_) (fun h => ?_)
      · have e : onZ p a b ⟨x, y, false⟩ = false := by simp [inB] at h; simp [onZ]; omega
        simp (decide := true) only [e, go_sem, Nat.reduceAdd, Nat.reduceMul, Nat.reduceSub]
        exact Runs.ret_v
      · have hy : 0 ≤ y ∧ y < p := by simp [inB] at h; omega
        have b1 := mul_in hy hy (by omega)
        have b2 := mul_in hx hx (by omega)
        have w1 : IntKind.i64.wrap (y * y) = y * y := wrap_i64 (by omega) (by omega)
        have w2 : IntKind.i64.wrap (x * x) = x * x := wrap_i64 (by omega) (by omega)
        have t1 : (y * y).tmod p = y * y % p := Int.tmod_eq_emod_of_nonneg b1.1
        have t2 : (x * x).tmod p = x * x % p := Int.tmod_eq_emod_of_nonneg b2.1
        have m1 := mod_in' (show 0 < p by omega) (x * x)
        have w3 : IntKind.i64.wrap (x * x % p + a) = x * x % p + a := wrap_i64 (by omega) (by omega)
        have b3 := mul_in (m := 2097152) (show 0 ≤ x * x % p + a ∧ x * x % p + a < 2097152 by omega) (show 0 ≤ x ∧ x < 2097152 by omega) (by omega)
        have w4 : IntKind.i64.wrap ((x * x % p + a) * x) = (x * x % p + a) * x := wrap_i64 (by omega) (by omega)
        have w5 : IntKind.i64.wrap ((x * x % p + a) * x + b) = (x * x % p + a) * x + b := wrap_i64 (by omega) (by omega)
        have t3 : ((x * x % p + a) * x + b).tmod p = ((x * x % p + a) * x + b) % p := Int.tmod_eq_emod_of_nonneg (by omega)
        simp (decide := true) only [go_sem, Nat.reduceAdd, Nat.reduceMul, Nat.reduceSub]
        refine Runs.draw (st1 := ?s1) (draws_ref (ann := []) tabOk (byL [] [1000002, 1000003]) soS (by kernel_rfl) ?p1) ?q1
        case p1 =>
          intro K r X hK
          simp (decide := true) (maxSteps := 2000000) (disch := first | omega | (simp only [List.length_map, List.length_cons, List.length_append, List.length_nil]; omega)) only [w1, w2, w3, w4, w5, t1, t2, t3, if_pos, go_sem, Nat.reduceAdd, Nat.reduceMul, Nat.reduceSub]
          exact hK
        case q1 =>
          simp (decide := true) only [go_sem, Nat.reduceAdd, Nat.reduceMul, Nat.reduceSub]
          exact Runs.ret_eq (by simp [onZ, hx, hy]; omega)
def ipS : Sched := .take 0 (.take 2 (.ld 1 (.ld 3 (.take 4 (.alt 5 (.take 6 (.take 7 (.take 9 (.ld 8 (.ld 10 (.take 11 (.alt 12 (.take 13 (.take 14 (.take 15 (.take 17 (.take 20 (.take 23 (.take 25 (.take 28 (.take 31 (.take 34 (.take 37 (.take 40 (.ld 16 (.ld 18 (.take 19 (.ld 21 (.take 22 (.ld 24 (.ld 26 (.take 27 (.ld 29 (.take 30 (.ld 32 (.take 33 (.ld 35 (.take 36 (.ld 38 (.take 39 (.ld 41 (.take 42 (.take 43 (.take 44 (.take 45 .fin))))))))))))))))))))))))))))))))) .nil))))))) .nil)))))
attribute [local go_sem] ipS
set_option maxRecDepth 10000 in
include hm in
theorem isPoint (k : GCv) (P : GPt) (hk : CvIn k) : Holds Try.prog 77 [cvA k, ptA P] [] (.v (.bool (onZ k.p k.a k.b P))) [] := by
  refine holds_ref (ann := []) tabOk hm (byL [] [1000002, 1000003]) Try.func77 (by kernel_rfl) rfl ?_
  obtain ⟨p, a, b, n, gx, gy⟩ := k
  obtain ⟨x, y, far⟩ := P
  obtain ⟨h1, h2, h3, h4⟩ := hk
  simp only at h1 h2 h3 h4
  simp (decide := true) only [Try.f77, go_sem, Nat.reduceAdd, Nat.reduceMul, Nat.reduceSub]
  refine Runs.split (fun h => ?_) (fun h => ?_)
  · subst h
    simp (decide := true) only [go_sem, Nat.reduceAdd, Nat.reduceMul, Nat.reduceSub]
    refine Runs.split (fun h => ?_) (fun h => ?_)
    · have hx : x = 0 := by simpa using h
      subst hx
      simp (decide := true) only [go_sem, Nat.reduceAdd, Nat.reduceMul, Nat.reduceSub]
      exact Runs.ret_eq (by simp [onZ])
    · have hx : x ≠ 0 := by simpa using h
      simp (decide := true) only [go_sem, Nat.reduceAdd, Nat.reduceMul, Nat.reduceSub]
      exact Runs.ret_eq (by simp [onZ, hx])
  · subst h
    have c1 := within hm x 0 (p - 1)
    have c2 := within hm y 0 (p - 1)
    simp (decide := true) only [go_sem, Nat.reduceAdd, Nat.reduceMul, Nat.reduceSub]
    cases e1 : inB x 0 (p - 1) with
    | false =>
      rw [e1] at c1
      have e : onZ p a b ⟨x, y, false⟩ = false := by simp [inB] at e1; simp [onZ]; omega
      refine Runs.draw (st1 := ?s1) (draws_ref (ann := []) tabOk (byL [] [1000002, 1000003]) ipS (by kernel_rfl) ?p1) ?q1
      case p1 =>
        intro K r X hK
        simp (decide := true) (maxSteps := 2000000) (disch := first | omega | (simp only [List.length_map, List.length_cons, List.length_append, List.length_nil]; omega)) only [if_pos, go_sem, Nat.reduceAdd, Nat.reduceMul, Nat.reduceSub]
        refine Runs.call c1 ?_
        simp (decide := true) (maxSteps := 2000000) (disch := first | omega | (simp only [List.length_map, List.length_cons, List.length_append, List.length_nil]; omega)) only [if_pos, go_sem, Nat.reduceAdd, Nat.reduceMul, Nat.reduceSub]
        exact hK
      case q1 =>
        simp (decide := true) only [go_sem, Nat.reduceAdd, Nat.reduceMul, Nat.reduceSub]
        exact Runs.ret_eq (by rw [e])
    | true =>
      have hx : 0 ≤ x ∧ x < p := by simp [inB] at e1; omega
      rw [e1] at c1
      cases e2 : inB y 0 (p - 1) with
      | false =>
        rw [e2] at c2
        have e : onZ p a b ⟨x, y, false⟩ = false := by simp [inB] at e2; simp [onZ]; omega
        refine Runs.draw (st1 := ?s2) (draws_ref (ann := []) tabOk (byL [] [1000002, 1000003]) ipS (by kernel_rfl) ?p2) ?q2
        case p2 =>
          intro K r X hK
          simp (decide := true) (maxSteps := 2000000) (disch := first | omega | (simp only [List.length_map, List.length_cons, List.length_append, List.length_nil]; omega)) only [if_pos, go_sem, Nat.reduceAdd, Nat.reduceMul, Nat.reduceSub]
          refine Runs.call c1 ?_
          simp (decide := true) (maxSteps := 2000000) (disch := first | omega | (simp only [List.length_map, List.length_cons, List.length_append, List.length_nil]; omega)) only [if_pos, go_sem, Nat.reduceAdd, Nat.reduceMul, Nat.reduceSub]
          refine Runs.call c2 ?_
          simp (decide := true) (maxSteps := 2000000) (disch := first | omega | (simp only [List.length_map, List.length_cons, List.length_append, List.length_nil]; omega)) only [if_pos, go_sem, Nat.reduceAdd, Nat.reduceMul, Nat.reduceSub]
          exact hK
        case q2 =>
          simp (decide := true) only [go_sem, Nat.reduceAdd, Nat.reduceMul, Nat.reduceSub]
          exact Runs.ret_eq (by rw [e])
      | true =>
        rw [e2] at c2
        have hy : 0 ≤ y ∧ y < p := by simp [inB] at e2; omega
        have b1 := mul_in hy hy (by omega)
        have b2 := mul_in hx hx (by omega)
        have w1 : IntKind.i64.wrap (y * y) = y * y := wrap_i64 (by omega) (by omega)
        have w2 : IntKind.i64.wrap (x * x) = x * x := wrap_i64 (by omega) (by omega)
        have t1 : (y * y).tmod p = y * y % p := Int.tmod_eq_emod_of_nonneg b1.1
        have w3 : IntKind.i64.wrap (x * x + a) = x * x + a := wrap_i64 (by omega) (by omega)
        have t2 : (x * x + a).tmod p = (x * x + a) % p := Int.tmod_eq_emod_of_nonneg (by omega)
        have m1 := mod_in' (show 0 < p by omega) (x * x + a)
        have b3 := mul_in (m := 2097152) (show 0 ≤ (x * x + a) % p ∧ (x * x + a) % p < 2097152 by omega) (show 0 ≤ x ∧ x < 2097152 by omega) (by omega)
        have w4 : IntKind.i64.wrap ((x * x + a) % p * x) = (x * x + a) % p * x := wrap_i64 (by omega) (by omega)
        have w5 : IntKind.i64.wrap ((x * x + a) % p * x + b) = (x * x + a) % p * x + b := wrap_i64 (by omega) (by omega)
        have t3 : ((x * x + a) % p * x + b).tmod p = ((x * x + a) % p * x + b) % p := Int.tmod_eq_emod_of_nonneg (by omega)
        refine Runs.draw (st1 := ?s3) (draws_ref (ann := []) tabOk (byL [] [1000002, 1000003]) ipS (by kernel_rfl) ?p3) ?q3
        case p3 =>
          intro K r X hK
          simp (decide := true) (maxSteps := 2000000) (disch := first | omega | (simp only [List.length_map, List.length_cons, List.length_append, List.length_nil]; omega)) only [if_pos, go_sem, Nat.reduceAdd, Nat.reduceMul, Nat.reduceSub]
          refine Runs.call c1 ?_
          simp (decide := true) (maxSteps := 2000000) (disch := first | omega | (simp only [List.length_map, List.length_cons, List.length_append, List.length_nil]; omega)) only [if_pos, go_sem, Nat.reduceAdd, Nat.reduceMul, Nat.reduceSub]
          refine Runs.call c2 ?_
          simp (decide := true) (maxSteps := 2000000) (disch := first | omega | (simp only [List.length_map, List.length_cons, List.length_append, List.length_nil]; omega)) only [w1, w2, w3, w4, w5, t1, t2, t3, if_pos, go_sem, Nat.reduceAdd, Nat.reduceMul, Nat.reduceSub]
          exact hK
        case q3 =>
          simp (decide := true) only [go_sem, Nat.reduceAdd, Nat.reduceMul, Nat.reduceSub]
          have e3 := mod_on x a b p
          exact Runs.ret_eq (by rw [e3]; simp [onZ, hx, hy]; omega)
set_option maxRecDepth 10000 in
include hm in
theorem baseP (k : GCv) : Holds Try.prog 94 [cvA k] [] (ptA ⟨k.gx, k.gy, false⟩) [] := by
  refine holds_ref (ann := []) tabOk hm (byL [] [1000001]) Try.func94 (by kernel_rfl) rfl ?_
  simp (decide := true) only [Try.f94, go_sem, Nat.reduceAdd, Nat.reduceMul, Nat.reduceSub]
  exact Runs.ret_refl
end Go.Proofs.W

namespace Go.Proofs.W
open Go Go.AM Go.Proofs.G
set_option linter.unusedSimpArgs false
set_option linter.unusedVariables false
variable (hm : Try.prog.follows .mixedOrders = true)
attribute [local go_sem] cvA ptA

theorem tmod_i64 {a m : Int} (h : 0 < m) (h2 : 0 ≤ a) : a.tmod m = a % m := Int.tmod_eq_emod_of_nonneg h2
/-- The end of a sum: a slope's point. -/
def sumEnd (p : Int) (a b : GPt) (s : Int) : GPt := ⟨(s * s - a.x - b.x) % p, (s * (a.x - (s * s - a.x - b.x) % p) - a.y) % p, false⟩
theorem sumEnd_in {p : Int} (h : 0 < p) (a b : GPt) (s : Int) : PtIn p (sumEnd p a b s) := ⟨mod_in' h _, mod_in' h _⟩
theorem addZ_in {p A : Int} (h : 0 < p) {a b : GPt} (ha : PtIn p a) (hb : PtIn p b) : PtIn p (addZ p A a b) := by
  unfold addZ
  split
  · exact hb
  · split
    · exact ha
    · split
      · exact ⟨⟨by show (0 : Int) ≤ 0; omega, by show (0 : Int) < p; omega⟩, ⟨by show (0 : Int) ≤ 0; omega, by show (0 : Int) < p; omega⟩⟩
      · exact sumEnd_in h a b _
theorem sumZ_in {p A : Int} (h : 0 < p) {a b : GPt} (ha : PtIn p a) (hb : PtIn p b) : PtIn p (sumZ p A a b) := by
  unfold sumZ
  split
  · exact hb
  · split
    · exact ha
    · split
      · exact ⟨⟨by show (0 : Int) ≤ 0; omega, by show (0 : Int) < p; omega⟩, ⟨by show (0 : Int) ≤ 0; omega, by show (0 : Int) < p; omega⟩⟩
      · exact sumEnd_in h a b _
theorem mul_sg {a b m : Int} (h1 : 0 ≤ a ∧ a < m) (h2 : -m < b ∧ b < m) (hm : m ≤ 2097152) : -4398046511104 ≤ a * b ∧ a * b ≤ 4398046511104 := by
  rcases Int.le_total 0 b with h | h
  · have := mul_in h1 (show 0 ≤ b ∧ b < m by omega) hm
    omega
  · have := mul_in h1 (show 0 ≤ -b ∧ -b < m by omega) hm
    have e : a * -b = -(a * b) := by grind
    omega
theorem farPt : ptA farP = .agg [.v (.int .i64 0), .v (.int .i64 0), .v (.bool true)] := rfl
def laA : Sched := .take 0 (.take 3 (.take 6 (.take 9 (.take 12 (.take 15 (.take 18 (.take 22 (.ld 1 (.take 2 (.ld 4 (.take 5 (.ld 7 (.take 8 (.ld 10 (.take 11 (.ld 13 (.take 14 (.ld 16 (.take 17 (.ld 19 (.ld 23 (.alt 20 (.take 21 (.take 24 (.take 25 .fin))) .nil))))))))))))))))))))))
def laB : Sched := .take 0 (.take 2 (.take 5 (.take 8 (.take 10 (.take 13 (.take 17 (.ld 1 (.ld 3 (.take 4 (.ld 6 (.ld 9 (.ld 11 (.take 12 (.ld 14 (.ld 18 (.alt 7 (.alt 15 (.take 16 (.take 19 (.take 20 .fin))) .nil) .nil))))))))))))))))
attribute [local go_sem] laA laB
set_option maxRecDepth 10000 in
set_option maxHeartbeats 4000000 in
include hm in
theorem l3Add (k : GCv) (P Q : GPt) (hk : CvIn k) (hP : PtIn k.p P) (hQ : PtIn k.p Q) : Holds Try.prog 67 [cvA k, ptA P, ptA Q] [] (ptA (addZ k.p k.a P Q)) [] := by
  refine holds_ref (ann := []) tabOk hm (byL [] [1000003, 1000004, 1000005]) Try.func67 (by kernel_rfl) rfl ?_
  obtain ⟨p, a, b, n, gx, gy⟩ := k
  obtain ⟨x, y, far⟩ := P
  obtain ⟨u, v, far'⟩ := Q
  obtain ⟨h1, h2, h3, h4⟩ := hk
  obtain ⟨hx, hy⟩ := hP
  obtain ⟨hu, hv⟩ := hQ
  simp only at h1 h2 h3 h4 hx hy hu hv
  simp (decide := true) only [Try.f67, go_sem, Nat.reduceAdd, Nat.reduceMul, Nat.reduceSub]
  refine Runs.split (fun h => ?_) (fun h => ?_)
  · subst h
    simp (decide := true) only [go_sem, Nat.reduceAdd, Nat.reduceMul, Nat.reduceSub]
    exact Runs.ret_eq (by simp [addZ, ptA])
  · subst h
    simp (decide := true) only [go_sem, Nat.reduceAdd, Nat.reduceMul, Nat.reduceSub]
    refine Runs.split (fun h => ?_) (fun h => ?_)
    · subst h
      simp (decide := true) only [go_sem, Nat.reduceAdd, Nat.reduceMul, Nat.reduceSub]
      exact Runs.ret_eq (by simp [addZ, ptA])
    · subst h
      by_cases e : x = u
      · subst e
        simp (decide := true) (disch := first | omega | (simp only [List.length_map, List.length_cons, List.length_append, List.length_nil]; omega)) only [Int.tmod_eq_emod_of_nonneg, if_pos, go_sem, Nat.reduceAdd, Nat.reduceMul, Nat.reduceSub]
        refine Runs.split (fun h => ?_) (fun h => ?_)
        · have h' : (y + v) % p = 0 := by simpa using h
          simp (decide := true) only [go_sem, Nat.reduceAdd, Nat.reduceMul, Nat.reduceSub]
          exact Runs.ret_eq (by simp [addZ, ptA, farP, h'])
        · have h' : (y + v) % p ≠ 0 := by simpa using h
          have m1 := mod_in' (show 0 < p by omega) (3 * x)
          have b1 := mul_in m1 hx (by omega)
          have m2 := mod_in' (show 0 < p by omega) (3 * x % p * x + a)
          have m3 := invI_range (a := 2 * y) (m := p) (by omega)
          have b2 := mul_in m2 m3 (by omega)
          simp (decide := true) only [go_sem, Nat.reduceAdd, Nat.reduceMul, Nat.reduceSub]
          refine Runs.draw (st1 := ?s1) (draws_ref (ann := []) tabOk (byL [] [1000003, 1000004, 1000005]) laA (by kernel_rfl) ?p1) ?q1
          case p1 =>
            intro K r X hK
            simp (decide := true) (maxSteps := 2000000) (disch := first | omega | (simp only [List.length_map, List.length_cons, List.length_append, List.length_nil]; omega)) only [Int.tmod_eq_emod_of_nonneg, if_pos, go_sem, Nat.reduceAdd, Nat.reduceMul, Nat.reduceSub]
            refine Runs.call (l2Inv hm (2 * y) p (by omega) (by omega)) ?_
            simp (decide := true) (maxSteps := 2000000) (disch := first | omega | (simp only [List.length_map, List.length_cons, List.length_append, List.length_nil]; omega)) only [Int.tmod_eq_emod_of_nonneg, if_pos, go_sem, Nat.reduceAdd, Nat.reduceMul, Nat.reduceSub]
            exact hK
          case q1 =>
            have ev : addZ p a ⟨x, y, false⟩ ⟨x, v, false⟩ = sumEnd p ⟨x, y, false⟩ ⟨x, v, false⟩ ((3 * x % p * x + a) % p * invI (2 * y) p % p) := by simp [addZ, h', sumEnd]
            rw [ev]
            simp only [sumEnd]
            have m0 := mod_in' (show 0 < p by omega) ((3 * x % p * x + a) % p * invI (2 * y) p)
            generalize ((3 * x % p * x + a) % p * invI (2 * y) p) % p = s at *
            have q1 := mul_in m0 m0 (by omega)
            have m2 := mod_in' (show 0 < p by omega) (s * s - x - x)
            have q2 := mul_sg (b := x - (s * s - x - x) % p) m0 (by omega) (by omega)
            simp (decide := true) (maxSteps := 2000000) (disch := first | omega | (simp only [List.length_map, List.length_cons, List.length_append, List.length_nil]; omega)) only [if_pos, go_sem, Nat.reduceAdd, Nat.reduceMul, Nat.reduceSub]
            refine Runs.call (l2Left hm (s * s - x - x) p (by omega) (by omega)) ?_
            generalize hX : (s * s - x - x) % p = X at *
            simp (decide := true) (maxSteps := 2000000) (disch := first | omega | (simp only [List.length_map, List.length_cons, List.length_append, List.length_nil]; omega)) only [if_pos, go_sem, Nat.reduceAdd, Nat.reduceMul, Nat.reduceSub]
            refine Runs.call (l2Left hm (s * (x - X) - y) p (by omega) (by omega)) ?_
            simp (decide := true) (maxSteps := 2000000) (disch := first | omega | (simp only [List.length_map, List.length_cons, List.length_append, List.length_nil]; omega)) only [if_pos, go_sem, Nat.reduceAdd, Nat.reduceMul, Nat.reduceSub]
            exact Runs.ret_eq (by simp [ptA, hX])
      · simp (decide := true) (disch := first | omega | (simp only [List.length_map, List.length_cons, List.length_append, List.length_nil]; omega)) only [e, if_pos, go_sem, Nat.reduceAdd, Nat.reduceMul, Nat.reduceSub]
        have m1 := mod_in' (show 0 < p by omega) (v - y)
        have m3 := invI_range (a := u - x) (m := p) (by omega)
        have b2 := mul_in m1 m3 (by omega)
        refine Runs.draw (st1 := ?s2) (draws_ref (ann := []) tabOk (byL [] [1000003, 1000004, 1000005]) laB (by kernel_rfl) ?p2) ?q2
        case p2 =>
          intro K r X hK
          simp (decide := true) (maxSteps := 2000000) (disch := first | omega | (simp only [List.length_map, List.length_cons, List.length_append, List.length_nil]; omega)) only [Int.tmod_eq_emod_of_nonneg, if_pos, go_sem, Nat.reduceAdd, Nat.reduceMul, Nat.reduceSub]
          refine Runs.call (l2Left hm (v - y) p (by omega) (by omega)) ?_
          simp (decide := true) (maxSteps := 2000000) (disch := first | omega | (simp only [List.length_map, List.length_cons, List.length_append, List.length_nil]; omega)) only [Int.tmod_eq_emod_of_nonneg, if_pos, go_sem, Nat.reduceAdd, Nat.reduceMul, Nat.reduceSub]
          refine Runs.call (l2Inv hm (u - x) p (by omega) (by omega)) ?_
          simp (decide := true) (maxSteps := 2000000) (disch := first | omega | (simp only [List.length_map, List.length_cons, List.length_append, List.length_nil]; omega)) only [Int.tmod_eq_emod_of_nonneg, if_pos, go_sem, Nat.reduceAdd, Nat.reduceMul, Nat.reduceSub]
          exact hK
        case q2 =>
          have ev : addZ p a ⟨x, y, false⟩ ⟨u, v, false⟩ = sumEnd p ⟨x, y, false⟩ ⟨u, v, false⟩ ((v - y) % p * invI (u - x) p % p) := by simp [addZ, e, sumEnd]
          rw [ev]
          simp only [sumEnd]
          have m0 := mod_in' (show 0 < p by omega) ((v - y) % p * invI (u - x) p)
          generalize ((v - y) % p * invI (u - x) p) % p = s at *
          have q1 := mul_in m0 m0 (by omega)
          have m2 := mod_in' (show 0 < p by omega) (s * s - x - u)
          have q2 := mul_sg (b := x - (s * s - x - u) % p) m0 (by omega) (by omega)
          simp (decide := true) (maxSteps := 2000000) (disch := first | omega | (simp only [List.length_map, List.length_cons, List.length_append, List.length_nil]; omega)) only [if_pos, go_sem, Nat.reduceAdd, Nat.reduceMul, Nat.reduceSub]
          refine Runs.call (l2Left hm (s * s - x - u) p (by omega) (by omega)) ?_
          generalize hX : (s * s - x - u) % p = X at *
          simp (decide := true) (maxSteps := 2000000) (disch := first | omega | (simp only [List.length_map, List.length_cons, List.length_append, List.length_nil]; omega)) only [if_pos, go_sem, Nat.reduceAdd, Nat.reduceMul, Nat.reduceSub]
          refine Runs.call (l2Left hm (s * (x - X) - y) p (by omega) (by omega)) ?_
          simp (decide := true) (maxSteps := 2000000) (disch := first | omega | (simp only [List.length_map, List.length_cons, List.length_append, List.length_nil]; omega)) only [if_pos, go_sem, Nat.reduceAdd, Nat.reduceMul, Nat.reduceSub]
          exact Runs.ret_eq (by simp [ptA, hX])
def suA : Sched := .take 0 (.take 2 (.take 5 (.take 7 (.ld 1 (.ld 3 (.take 4 (.take 10 (.ld 6 (.ld 8 (.take 9 (.take 11 .fin)))))))))))
def suB : Sched := .take 0 (.take 3 (.take 6 (.take 9 (.ld 1 (.take 2 (.ld 4 (.take 5 (.ld 7 (.take 8 (.take 12 (.ld 10 (.take 11 (.take 13 .fin)))))))))))))
def suC : Sched := .take 0 (.take 1 (.take 4 (.take 6 (.ld 2 (.ld 7 (.alt 3 (.take 5 (.take 8 (.take 9 .fin))) .nil))))))
attribute [local go_sem] suA suB suC
set_option maxRecDepth 10000 in
set_option maxHeartbeats 4000000 in
include hm in
theorem sumC (k : GCv) (P Q : GPt) (hk : CvIn k) (hP : PtIn k.p P) (hQ : PtIn k.p Q) : Holds Try.prog 78 [cvA k, ptA P, ptA Q] [] (ptA (sumZ k.p k.a P Q)) [] := by
  refine holds_ref (ann := []) tabOk hm (byL [] [1000003, 1000004, 1000005]) Try.func78 (by kernel_rfl) rfl ?_
  obtain ⟨p, a, b, n, gx, gy⟩ := k
  obtain ⟨x, y, far⟩ := P
  obtain ⟨u, v, far'⟩ := Q
  obtain ⟨h1, h2, h3, h4⟩ := hk
  obtain ⟨hx, hy⟩ := hP
  obtain ⟨hu, hv⟩ := hQ
  simp only at h1 h2 h3 h4 hx hy hu hv
  simp (decide := true) only [Try.f78, go_sem, Nat.reduceAdd, Nat.reduceMul, Nat.reduceSub]
  refine Runs.split (fun h => ?_) (fun h => ?_)
  · subst h
    simp (decide := true) only [go_sem, Nat.reduceAdd, Nat.reduceMul, Nat.reduceSub]
    exact Runs.ret_eq (by simp [sumZ, ptA])
  · subst h
    simp (decide := true) only [go_sem, Nat.reduceAdd, Nat.reduceMul, Nat.reduceSub]
    refine Runs.split (fun h => ?_) (fun h => ?_)
    · subst h
      simp (decide := true) only [go_sem, Nat.reduceAdd, Nat.reduceMul, Nat.reduceSub]
      exact Runs.ret_eq (by simp [sumZ, ptA])
    · subst h
      by_cases e : x = u
      · subst e
        simp (decide := true) (disch := first | omega | (simp only [List.length_map, List.length_cons, List.length_append, List.length_nil]; omega)) only [Int.tmod_eq_emod_of_nonneg, if_pos, go_sem, Nat.reduceAdd, Nat.reduceMul, Nat.reduceSub]
        refine Runs.split (fun h => ?_) (fun h => ?_)
        · have h' : (y + v) % p = 0 := by simpa using h
          simp (decide := true) only [go_sem, Nat.reduceAdd, Nat.reduceMul, Nat.reduceSub]
          exact Runs.ret_eq (by simp [sumZ, ptA, farP, h'])
        · have h' : (y + v) % p ≠ 0 := by simpa using h
          simp (decide := true) only [go_sem, Nat.reduceAdd, Nat.reduceMul, Nat.reduceSub]
          refine Runs.draw (st1 := ?s1) (draws_ref (ann := []) tabOk (byL [] [1000003, 1000004, 1000005]) suA (by kernel_rfl) ?p1) ?q1
          case p1 =>
            intro K r X hK
            simp (decide := true) (maxSteps := 2000000) (disch := first | omega | (simp only [List.length_map, List.length_cons, List.length_append, List.length_nil]; omega)) only [if_pos, go_sem, Nat.reduceAdd, Nat.reduceMul, Nat.reduceSub]
            exact hK
          case q1 =>
            by_cases e2 : y = v
            · subst e2
              have b0 := mul_in hx hx (by omega)
              have b1 : 3 * x * x = 3 * (x * x) := Int.mul_assoc 3 x x
              simp (decide := true) (maxSteps := 2000000) (disch := first | omega | (simp only [List.length_map, List.length_cons, List.length_append, List.length_nil]; omega)) only [if_pos, go_sem, Nat.reduceAdd, Nat.reduceMul, Nat.reduceSub]
              refine Runs.draw (st1 := ?s2) (draws_ref (ann := []) tabOk (byL [] [1000003, 1000004, 1000005]) suB (by kernel_rfl) ?p2) ?q2
              case p2 =>
                intro K r X hK
                simp (decide := true) (maxSteps := 2000000) (disch := first | omega | (simp only [List.length_map, List.length_cons, List.length_append, List.length_nil]; omega)) only [if_pos, go_sem, Nat.reduceAdd, Nat.reduceMul, Nat.reduceSub]
                exact hK
              case q2 =>
                simp (decide := true) (maxSteps := 2000000) (disch := first | omega | (simp only [List.length_map, List.length_cons, List.length_append, List.length_nil]; omega)) only [Int.tmod_eq_emod_of_nonneg, if_pos, go_sem, Nat.reduceAdd, Nat.reduceMul, Nat.reduceSub]
                have m1 := mod_in' (show 0 < p by omega) (3 * x * x + a)
                have m3 := invI_range (a := 2 * y) (m := p) (by omega)
                have b2 := mul_in m1 m3 (by omega)
                refine Runs.call (invInt hm (2 * y) p (by omega) (by omega)) ?_
                simp (decide := true) (maxSteps := 2000000) (disch := first | omega | (simp only [List.length_map, List.length_cons, List.length_append, List.length_nil]; omega)) only [if_pos, go_sem, Nat.reduceAdd, Nat.reduceMul, Nat.reduceSub]
                refine Runs.draw (st1 := ?t1s) (draws_ref (ann := []) tabOk (byL [] [1000003, 1000004, 1000005]) suC (by kernel_rfl) ?t1p) ?t1q
                case t1p =>
                  intro K r X hK
                  simp (decide := true) (maxSteps := 2000000) (disch := first | omega | (simp only [List.length_map, List.length_cons, List.length_append, List.length_nil]; omega)) only [Int.tmod_eq_emod_of_nonneg, if_pos, go_sem, Nat.reduceAdd, Nat.reduceMul, Nat.reduceSub]
                  refine Runs.call (rest hm (3 * x * x + a) p (by omega) (by omega)) ?_
                  simp (decide := true) (maxSteps := 2000000) (disch := first | omega | (simp only [List.length_map, List.length_cons, List.length_append, List.length_nil]; omega)) only [Int.tmod_eq_emod_of_nonneg, if_pos, go_sem, Nat.reduceAdd, Nat.reduceMul, Nat.reduceSub]
                  exact hK
                case t1q =>
                  have ev : sumZ p a ⟨x, y, false⟩ ⟨x, y, false⟩ = sumEnd p ⟨x, y, false⟩ ⟨x, y, false⟩ ((3 * x * x + a) % p * invI (2 * y) p % p) := by simp [sumZ, h', sumEnd]
                  rw [ev]
                  simp only [sumEnd]
                  have m0 := mod_in' (show 0 < p by omega) ((3 * x * x + a) % p * invI (2 * y) p)
                  generalize (3 * x * x + a) % p * invI (2 * y) p % p = s at *
                  have q1 := mul_in m0 m0 (by omega)
                  have m2 := mod_in' (show 0 < p by omega) (s * s - x - x)
                  have q2 := mul_sg (b := x - (s * s - x - x) % p) m0 (by omega) (by omega)
                  simp (decide := true) (maxSteps := 2000000) (disch := first | omega | (simp only [List.length_map, List.length_cons, List.length_append, List.length_nil]; omega)) only [if_pos, go_sem, Nat.reduceAdd, Nat.reduceMul, Nat.reduceSub]
                  refine Runs.call (rest hm (s * s - x - x) p (by omega) (by omega)) ?_
                  generalize hX : (s * s - x - x) % p = X at *
                  simp (decide := true) (maxSteps := 2000000) (disch := first | omega | (simp only [List.length_map, List.length_cons, List.length_append, List.length_nil]; omega)) only [if_pos, go_sem, Nat.reduceAdd, Nat.reduceMul, Nat.reduceSub]
                  refine Runs.call (rest hm (s * (x - X) - y) p (by omega) (by omega)) ?_
                  simp (decide := true) (maxSteps := 2000000) (disch := first | omega | (simp only [List.length_map, List.length_cons, List.length_append, List.length_nil]; omega)) only [if_pos, go_sem, Nat.reduceAdd, Nat.reduceMul, Nat.reduceSub]
                  exact Runs.ret_eq (by simp [ptA, hX])
            · simp (decide := true) (maxSteps := 2000000) (disch := first | omega | (simp only [List.length_map, List.length_cons, List.length_append, List.length_nil]; omega)) only [e2, Int.tmod_eq_emod_of_nonneg, if_pos, go_sem, Nat.reduceAdd, Nat.reduceMul, Nat.reduceSub]
              have m1 := mod_in' (show 0 < p by omega) (v - y)
              have m3 := invI_range (a := x - x) (m := p) (by omega)
              have b2 := mul_in m1 m3 (by omega)
              refine Runs.call (invInt hm (x - x) p (by omega) (by omega)) ?_
              simp (decide := true) (maxSteps := 2000000) (disch := first | omega | (simp only [List.length_map, List.length_cons, List.length_append, List.length_nil]; omega)) only [if_pos, go_sem, Nat.reduceAdd, Nat.reduceMul, Nat.reduceSub]
              refine Runs.draw (st1 := ?t2s) (draws_ref (ann := []) tabOk (byL [] [1000003, 1000004, 1000005]) suC (by kernel_rfl) ?t2p) ?t2q
              case t2p =>
                intro K r X hK
                simp (decide := true) (maxSteps := 2000000) (disch := first | omega | (simp only [List.length_map, List.length_cons, List.length_append, List.length_nil]; omega)) only [Int.tmod_eq_emod_of_nonneg, if_pos, go_sem, Nat.reduceAdd, Nat.reduceMul, Nat.reduceSub]
                refine Runs.call (rest hm (v - y) p (by omega) (by omega)) ?_
                simp (decide := true) (maxSteps := 2000000) (disch := first | omega | (simp only [List.length_map, List.length_cons, List.length_append, List.length_nil]; omega)) only [Int.tmod_eq_emod_of_nonneg, if_pos, go_sem, Nat.reduceAdd, Nat.reduceMul, Nat.reduceSub]
                exact hK
              case t2q =>
                have ev : sumZ p a ⟨x, y, false⟩ ⟨x, v, false⟩ = sumEnd p ⟨x, y, false⟩ ⟨x, v, false⟩ ((v - y) % p * invI (x - x) p % p) := by simp [sumZ, h', sumEnd, e2]
                rw [ev]
                simp only [sumEnd]
                have m0 := mod_in' (show 0 < p by omega) ((v - y) % p * invI (x - x) p)
                generalize (v - y) % p * invI (x - x) p % p = s at *
                have q1 := mul_in m0 m0 (by omega)
                have m2 := mod_in' (show 0 < p by omega) (s * s - x - x)
                have q2 := mul_sg (b := x - (s * s - x - x) % p) m0 (by omega) (by omega)
                simp (decide := true) (maxSteps := 2000000) (disch := first | omega | (simp only [List.length_map, List.length_cons, List.length_append, List.length_nil]; omega)) only [if_pos, go_sem, Nat.reduceAdd, Nat.reduceMul, Nat.reduceSub]
                refine Runs.call (rest hm (s * s - x - x) p (by omega) (by omega)) ?_
                generalize hX : (s * s - x - x) % p = X at *
                simp (decide := true) (maxSteps := 2000000) (disch := first | omega | (simp only [List.length_map, List.length_cons, List.length_append, List.length_nil]; omega)) only [if_pos, go_sem, Nat.reduceAdd, Nat.reduceMul, Nat.reduceSub]
                refine Runs.call (rest hm (s * (x - X) - y) p (by omega) (by omega)) ?_
                simp (decide := true) (maxSteps := 2000000) (disch := first | omega | (simp only [List.length_map, List.length_cons, List.length_append, List.length_nil]; omega)) only [if_pos, go_sem, Nat.reduceAdd, Nat.reduceMul, Nat.reduceSub]
                exact Runs.ret_eq (by simp [ptA, hX])
      · simp (decide := true) (disch := first | omega | (simp only [List.length_map, List.length_cons, List.length_append, List.length_nil]; omega)) only [e, if_pos, go_sem, Nat.reduceAdd, Nat.reduceMul, Nat.reduceSub]
        refine Runs.draw (st1 := ?s3) (draws_ref (ann := []) tabOk (byL [] [1000003, 1000004, 1000005]) suA (by kernel_rfl) ?p3) ?q3
        case p3 =>
          intro K r X hK
          simp (decide := true) (maxSteps := 2000000) (disch := first | omega | (simp only [List.length_map, List.length_cons, List.length_append, List.length_nil]; omega)) only [if_pos, go_sem, Nat.reduceAdd, Nat.reduceMul, Nat.reduceSub]
          exact hK
        case q3 =>
          simp (decide := true) (maxSteps := 2000000) (disch := first | omega | (simp only [List.length_map, List.length_cons, List.length_append, List.length_nil]; omega)) only [e, Int.tmod_eq_emod_of_nonneg, if_pos, go_sem, Nat.reduceAdd, Nat.reduceMul, Nat.reduceSub]
          have m1 := mod_in' (show 0 < p by omega) (v - y)
          have m3 := invI_range (a := u - x) (m := p) (by omega)
          have b2 := mul_in m1 m3 (by omega)
          refine Runs.call (invInt hm (u - x) p (by omega) (by omega)) ?_
          simp (decide := true) (maxSteps := 2000000) (disch := first | omega | (simp only [List.length_map, List.length_cons, List.length_append, List.length_nil]; omega)) only [if_pos, go_sem, Nat.reduceAdd, Nat.reduceMul, Nat.reduceSub]
          refine Runs.draw (st1 := ?t3s) (draws_ref (ann := []) tabOk (byL [] [1000003, 1000004, 1000005]) suC (by kernel_rfl) ?t3p) ?t3q
          case t3p =>
            intro K r X hK
            simp (decide := true) (maxSteps := 2000000) (disch := first | omega | (simp only [List.length_map, List.length_cons, List.length_append, List.length_nil]; omega)) only [Int.tmod_eq_emod_of_nonneg, if_pos, go_sem, Nat.reduceAdd, Nat.reduceMul, Nat.reduceSub]
            refine Runs.call (rest hm (v - y) p (by omega) (by omega)) ?_
            simp (decide := true) (maxSteps := 2000000) (disch := first | omega | (simp only [List.length_map, List.length_cons, List.length_append, List.length_nil]; omega)) only [Int.tmod_eq_emod_of_nonneg, if_pos, go_sem, Nat.reduceAdd, Nat.reduceMul, Nat.reduceSub]
            exact hK
          case t3q =>
            have ev : sumZ p a ⟨x, y, false⟩ ⟨u, v, false⟩ = sumEnd p ⟨x, y, false⟩ ⟨u, v, false⟩ ((v - y) % p * invI (u - x) p % p) := by simp [sumZ, e, sumEnd]
            rw [ev]
            simp only [sumEnd]
            have m0 := mod_in' (show 0 < p by omega) ((v - y) % p * invI (u - x) p)
            generalize (v - y) % p * invI (u - x) p % p = s at *
            have q1 := mul_in m0 m0 (by omega)
            have m2 := mod_in' (show 0 < p by omega) (s * s - x - u)
            have q2 := mul_sg (b := x - (s * s - x - u) % p) m0 (by omega) (by omega)
            simp (decide := true) (maxSteps := 2000000) (disch := first | omega | (simp only [List.length_map, List.length_cons, List.length_append, List.length_nil]; omega)) only [if_pos, go_sem, Nat.reduceAdd, Nat.reduceMul, Nat.reduceSub]
            refine Runs.call (rest hm (s * s - x - u) p (by omega) (by omega)) ?_
            generalize hX : (s * s - x - u) % p = X at *
            simp (decide := true) (maxSteps := 2000000) (disch := first | omega | (simp only [List.length_map, List.length_cons, List.length_append, List.length_nil]; omega)) only [if_pos, go_sem, Nat.reduceAdd, Nat.reduceMul, Nat.reduceSub]
            refine Runs.call (rest hm (s * (x - X) - y) p (by omega) (by omega)) ?_
            simp (decide := true) (maxSteps := 2000000) (disch := first | omega | (simp only [List.length_map, List.length_cons, List.length_append, List.length_nil]; omega)) only [if_pos, go_sem, Nat.reduceAdd, Nat.reduceMul, Nat.reduceSub]
            exact Runs.ret_eq (by simp [ptA, hX])
end Go.Proofs.W

namespace Go.Proofs.W
open Go Go.AM Go.Proofs.G
set_option linter.unusedSimpArgs false
set_option linter.unusedVariables false
variable (hm : Try.prog.follows .mixedOrders = true)
attribute [local go_sem] cvA ptA

def zPt : A := .agg [.v (.int .i64 0), .v (.int .i64 0), .v (.bool false)]
theorem far_in {p : Int} (h : 0 < p) : PtIn p farP := ⟨⟨by show (0 : Int) ≤ 0; omega, by show (0 : Int) < p; omega⟩, ⟨by show (0 : Int) ≤ 0; omega, by show (0 : Int) < p; omega⟩⟩
def lmAnn : Ann := [(0, [1, 3, 5, 6, 7])]
def lmSt (k : GCv) (p : Nat × GPt × GPt) : St := ⟨[.any, .v (.int .i64 p.1), .any, .ptr [cvA k] 0 0, .any, .ref (.l 0) 0 0 1, .ref (.l 1) 0 0 1, .ref (.l 2) 0 0 1, .any, .any, .any, .any, .any, .any, .any, .any, .any, .any, .any, .any, .any, .any, .any, .any, .any], [(0, ⟨true, 3, true, [ptA p.2.2]⟩), (1, ⟨true, 3, true, [zPt]⟩), (2, ⟨true, 3, true, [ptA p.2.1]⟩)], []⟩
set_option maxRecDepth 10000 in
set_option maxHeartbeats 4000000 in
include hm in
theorem l3Mul (k : GCv) (n : Nat) (P : GPt) (hk : CvIn k) (hP : PtIn k.p P) (hn : n ≤ 9223372036854775807) : Holds Try.prog 40 [cvA k, .v (.int .i64 n), ptA P] [] (ptA (mulL (addZ k.p k.a) n farP P)) [] := by
  refine holds_ref (ann := lmAnn) tabOk hm (byL [] [1000003]) Try.func40 (by kernel_rfl) rfl ?_
  have hp : 0 < k.p := by have := hk.1; omega
  simp (decide := true) only [Try.f40, go_sem, Nat.reduceAdd, Nat.reduceMul, Nat.reduceSub]
  refine Runs.while (α := Nat × GPt × GPt) (lmSt k) (fun p => p.1) (fun p => p.1 ≤ n ∧ PtIn k.p p.2.1 ∧ PtIn k.p p.2.2 ∧ mulL (addZ k.p k.a) p.1 p.2.1 p.2.2 = mulL (addZ k.p k.a) n farP P) (n, farP, P) ⟨Nat.le_refl _, far_in hp, hP, rfl⟩ ?_ ?_
  · simp [go_sem, lmAnn, lmSt, farP, zPt]
  · rintro ⟨i, out, a⟩ ⟨hi, ho, ha, hg⟩ ih
    simp only at hi ho ha hg
    have e3 := tmod_nat i 2
    have e4 := tdiv_nat i 2
    have w3 : IntKind.i64.wrap ((i / 2 : Nat) : Int) = ((i / 2 : Nat) : Int) := wrap_i64 (by omega) (by omega)
    have c1 := l3Add hm k out a hk ho ha
    have c2 := l3Add hm k a a hk ha ha
    have o1 := addZ_in (A := k.a) hp ho ha
    have o2 := addZ_in (A := k.a) hp ha ha
    simp (decide := true) only [lmSt, zPt, go_sem, Nat.reduceAdd, Nat.reduceMul, Nat.reduceSub]
    refine Runs.split (fun h => ?_) (fun h => ?_)
    · have hs : i ≠ 0 := by simp at h; omega
      rw [mulL_step _ _ _ _ hs] at hg
      simp (decide := true) (disch := first | omega | (simp only [List.length_map, List.length_cons, List.length_append, List.length_nil]; omega)) only [if_pos, go_sem, Nat.reduceAdd, Nat.reduceMul, Nat.reduceSub]
      rw [show (2 : Int) = ((2 : Nat) : Int) from rfl, e3]
      refine Runs.split (fun h => ?_) (fun h => ?_)
      · have hbit : i % 2 = 1 := by simp at h; omega
        rw [if_pos hbit] at hg
        simp (decide := true) (disch := first | omega | (simp only [List.length_map, List.length_cons, List.length_append, List.length_nil]; omega)) only [if_pos, go_sem, Nat.reduceAdd, Nat.reduceMul, Nat.reduceSub]
        refine Runs.call c1 ?_
        simp (decide := true) (disch := first | omega | (simp only [List.length_map, List.length_cons, List.length_append, List.length_nil]; omega)) only [if_pos, go_sem, Nat.reduceAdd, Nat.reduceMul, Nat.reduceSub]
        refine Runs.call c2 ?_
        simp (decide := true) (disch := first | omega | (simp only [List.length_map, List.length_cons, List.length_append, List.length_nil]; omega)) only [e4, w3, if_pos, go_sem, Nat.reduceAdd, Nat.reduceMul, Nat.reduceSub]
        refine ih (i / 2, addZ k.p k.a out a, addZ k.p k.a a a) _ (by simp only; omega) ⟨by simp only; omega, o1, o2, hg⟩ ?_
        simp [go_sem, lmAnn, lmSt, zPt]
      · have hbit : ¬ i % 2 = 1 := by simp at h; omega
        rw [if_neg hbit] at hg
        simp (decide := true) (disch := first | omega | (simp only [List.length_map, List.length_cons, List.length_append, List.length_nil]; omega)) only [if_pos, go_sem, Nat.reduceAdd, Nat.reduceMul, Nat.reduceSub]
        refine Runs.call c2 ?_
        simp (decide := true) (disch := first | omega | (simp only [List.length_map, List.length_cons, List.length_append, List.length_nil]; omega)) only [e4, w3, if_pos, go_sem, Nat.reduceAdd, Nat.reduceMul, Nat.reduceSub]
        refine ih (i / 2, out, addZ k.p k.a a a) _ (by simp only; omega) ⟨by simp only; omega, ho, o2, hg⟩ ?_
        simp [go_sem, lmAnn, lmSt, zPt]
    · have hs : i = 0 := by simp at h; omega
      subst hs
      rw [mulL_zero] at hg
      simp (decide := true) only [go_sem, Nat.reduceAdd, Nat.reduceMul, Nat.reduceSub]
      exact Runs.ret_eq (by rw [← hg])
def tiAnn : Ann := [(0, [1, 3, 5, 6, 7, 8])]
def tiSt (k : GCv) (n : Nat) (P : GPt) (p : Int × GPt) : St := ⟨[.any, .v (.int .i64 n), .any, .ptr [cvA k] 0 0, .any, .ptr [ptA P] 0 0, .ref (.l 0) 0 0 1, .ref (.l 1) 0 0 1, .v (.int .i64 p.1), .any, .any, .any, .any, .any, .any, .any, .any, .any, .any, .any, .any, .any, .any, .any, .any, .any, .any, .any, .any, .any, .any, .any], [(0, ⟨true, 3, true, [zPt]⟩), (1, ⟨true, 3, true, [ptA p.2]⟩)], []⟩
set_option maxRecDepth 10000 in
set_option maxHeartbeats 4000000 in
include hm in
theorem timesC (k : GCv) (n : Nat) (P : GPt) (hk : CvIn k) (hP : PtIn k.p P) (hn : n ≤ 9223372036854775807) : Holds Try.prog 54 [cvA k, .v (.int .i64 n), ptA P] [] (ptA (mulM (sumZ k.p k.a) farP n P)) [] := by
  refine holds_ref (ann := tiAnn) tabOk hm (byL [] [1000003, 1000005]) Try.func54 (by kernel_rfl) rfl ?_
  have hp : 0 < k.p := by have := hk.1; omega
  have hl : blen n ≤ 63 := blen_le (by omega)
  simp (decide := true) (disch := first | omega | (simp only [List.length_map, List.length_cons, List.length_append, List.length_nil]; omega)) only [Try.f54, if_pos, go_sem, Nat.reduceAdd, Nat.reduceMul, Nat.reduceSub]
  refine Runs.call (bitsLen hm n (by omega)) ?_
  simp (decide := true) (disch := first | omega | (simp only [List.length_map, List.length_cons, List.length_append, List.length_nil]; omega)) only [if_pos, go_sem, Nat.reduceAdd, Nat.reduceMul, Nat.reduceSub]
  refine Runs.while (α := Int × GPt) (tiSt k n P) (fun p => (p.1 + 1).toNat) (fun p => -1 ≤ p.1 ∧ p.1 ≤ 62 ∧ PtIn k.p p.2 ∧ (p.1 = -1 ∨ 2 ^ p.1.toNat ≤ n) ∧ p.2 = mulM (sumZ k.p k.a) farP (n / 2 ^ (p.1 + 1).toNat) P) ((blen n : Int) - 1, farP) ⟨by simp only; omega, by simp only; omega, far_in hp, ?_, ?_⟩ ?_ ?_
  · simp only
    by_cases hz : n = 0
    · left; subst hz; rw [blen_zero]; rfl
    · right
      have := blen_ge hz
      have hp := blen_pos hz
      have e : ((blen n : Int) - 1).toNat = blen n - 1 := by omega
      rw [e]
      exact this
  · simp only
    have e : ((blen n : Int) - 1 + 1).toNat = blen n := by omega
    rw [e, Nat.div_eq_of_lt blen_lt, mulM_zero]
  · simp [go_sem, tiAnn, tiSt, farP, zPt]
  · rintro ⟨i, out⟩ ⟨hi1, hi2, ho, hi3, hg⟩ ih
    simp only at hi1 hi2 ho hi3 hg
    simp (decide := true) only [tiSt, zPt, go_sem, Nat.reduceAdd, Nat.reduceMul, Nat.reduceSub]
    refine Runs.split (fun h => ?_) (fun h => ?_)
    · have hs : 0 ≤ i := by simpa using h
      obtain ⟨j, rfl⟩ := nat_of hs
      have hk' : 2 ^ j ≤ n := by
        rcases hi3 with h | h
        · omega
        · simpa using h
      have ek : ((j : Int) + 1).toNat = j + 1 := by omega
      rw [ek] at hg
      have hst := mulM_step (sumZ k.p k.a) farP n j P hk'
      rw [← hg] at hst
      have c1 := sumC hm k out out hk ho ho
      have o1 := sumZ_in (A := k.a) hp ho ho
      have c2 := sumC hm k (sumZ k.p k.a out out) P hk o1 hP
      have o2 := sumZ_in (A := k.a) hp o1 hP
      have hq := Nat.div_le_self n (2 ^ j)
      have ea := andI_one (n / 2 ^ j) (by omega)
      have em : min j 64 = j := by omega
      have es := shr_nat n j
      have hpow : j = 0 ∨ 2 ^ (j - 1) ≤ n := by
        rcases Nat.eq_zero_or_pos j with h | h
        · exact .inl h
        · right; exact Nat.le_trans (Nat.pow_le_pow_right (by omega) (by omega)) hk'
      simp (decide := true) (disch := first | omega | (simp only [List.length_map, List.length_cons, List.length_append, List.length_nil]; omega)) only [if_pos, go_sem, Nat.reduceAdd, Nat.reduceMul, Nat.reduceSub]
      refine Runs.call c1 ?_
      simp (decide := true) (disch := first | omega | (simp only [List.length_map, List.length_cons, List.length_append, List.length_nil]; omega)) only [em, es, ea, if_pos, go_sem, Nat.reduceAdd, Nat.reduceMul, Nat.reduceSub]
      refine Runs.split (fun h => ?_) (fun h => ?_)
      · have hbit : n / 2 ^ j % 2 = 1 := by simp only [decide_eq_true_eq] at h; omega
        rw [if_pos hbit] at hst
        simp (decide := true) (disch := first | omega | (simp only [List.length_map, List.length_cons, List.length_append, List.length_nil]; omega)) only [if_pos, go_sem, Nat.reduceAdd, Nat.reduceMul, Nat.reduceSub]
        refine Runs.call c2 ?_
        simp (decide := true) (disch := first | omega | (simp only [List.length_map, List.length_cons, List.length_append, List.length_nil]; omega)) only [if_pos, go_sem, Nat.reduceAdd, Nat.reduceMul, Nat.reduceSub]
        refine ih ((j : Int) - 1, sumZ k.p k.a (sumZ k.p k.a out out) P) _ (by simp only; omega) ⟨by simp only; omega, by simp only; omega, o2, ?_, ?_⟩ ?_
        · simp only
          rcases hpow with h | h
          · left; omega
          · right
            have e : ((j : Int) - 1).toNat = j - 1 := by omega
            rw [e]; exact h
        · simp only
          have e : ((j : Int) - 1 + 1).toNat = j := by omega
          rw [e, hst]
        · simp [go_sem, tiAnn, tiSt, zPt]
      · have hbit : ¬ n / 2 ^ j % 2 = 1 := by simp only [decide_eq_false_iff_not] at h; omega
        rw [if_neg hbit] at hst
        simp (decide := true) (disch := first | omega | (simp only [List.length_map, List.length_cons, List.length_append, List.length_nil]; omega)) only [if_pos, go_sem, Nat.reduceAdd, Nat.reduceMul, Nat.reduceSub]
        refine ih ((j : Int) - 1, sumZ k.p k.a out out) _ (by simp only; omega) ⟨by simp only; omega, by simp only; omega, o1, ?_, ?_⟩ ?_
        · simp only
          rcases hpow with h | h
          · left; omega
          · right
            have e : ((j : Int) - 1).toNat = j - 1 := by omega
            rw [e]; exact h
        · simp only
          have e : ((j : Int) - 1 + 1).toNat = j := by omega
          rw [e, hst]
        · simp [go_sem, tiAnn, tiSt, zPt]
    · have hs : i = -1 := by simp at h; omega
      subst hs
      simp at hg
      simp (decide := true) only [go_sem, Nat.reduceAdd, Nat.reduceMul, Nat.reduceSub]
      exact Runs.ret_eq (by rw [← hg])
end Go.Proofs.W

namespace Go.Proofs.W
open Go Go.AM Go.Proofs.G
set_option linter.unusedSimpArgs false
set_option linter.unusedVariables false
variable (hm : Try.prog.follows .mixedOrders = true)
attribute [local go_sem] cvA ptA

noncomputable def curveB (k : GCv) : Bool :=
  inB k.p 5 1048576 && decide (k.p.tmod 4 = 3) && primeZ k.p && inB k.a 0 (k.p - 1) && inB k.b 0 (k.p - 1) && inB k.n 5 2097152 && primeZ k.n &&
  !decide ((4 * (k.a * k.a % k.p) * k.a + 27 * (k.b * k.b % k.p)) % k.p = 0) && onZ k.p k.a k.b ⟨k.gx, k.gy, false⟩ && (mulL (addZ k.p k.a) k.n.toNat farP ⟨k.gx, k.gy, false⟩).far
theorem onZ_in {p A B : Int} {P : GPt} (h0 : 0 < p) (h : onZ p A B P = true) : PtIn p P := by
  unfold onZ at h
  split at h
  · simp only [Bool.and_eq_true, decide_eq_true_eq] at h
    exact ⟨by omega, by omega⟩
  · simp only [Bool.and_eq_true, decide_eq_true_eq] at h
    exact ⟨by omega, by omega⟩
theorem inB_t {n a b : Int} (h : inB n a b = true) : a ≤ n ∧ n ≤ b := by simpa [inB] using h
theorem curve_in {k : GCv} (h : curveB k = true) : CvIn k := by
  simp only [curveB, Bool.and_eq_true] at h
  obtain ⟨⟨⟨⟨⟨⟨⟨⟨⟨c1, _⟩, _⟩, c4⟩, c5⟩, _⟩, _⟩, _⟩, _⟩, _⟩ := h
  have := inB_t c1
  have := inB_t c4
  have := inB_t c5
  exact ⟨by omega, by omega, by omega, by omega⟩
def scS : Sched := .take 0 (.take 2 (.take 5 (.take 9 (.take 12 (.take 14 (.take 17 (.take 22 (.ld 1 (.ld 3 (.take 4 (.ld 6 (.take 7 (.take 8 (.ld 10 (.take 11 (.ld 13 (.ld 15 (.take 16 (.ld 18 (.take 19 (.take 20 (.take 21 (.ld 23 (.take 24 (.take 25 .fin)))))))))))))))))))))))))
attribute [local go_sem] scS
set_option maxRecDepth 10000 in
set_option maxHeartbeats 4000000 in
include hm in
theorem sCurveOk (k : GCv) : Holds Try.prog 65 [cvA k] [] (.v (.bool (curveB k))) [] := by
  refine holds_ref (ann := []) tabOk hm (byL [] [1000001]) Try.func65 (by kernel_rfl) rfl ?_
  have hk : k = ⟨k.p, k.a, k.b, k.n, k.gx, k.gy⟩ := rfl
  obtain ⟨p, a, b, n, gx, gy⟩ := k
  simp (decide := true) only [Try.f65, go_sem, Nat.reduceAdd, Nat.reduceMul, Nat.reduceSub]
  refine Runs.call (l1In hm p 5 1048576) ?_
  simp (decide := true) (maxSteps := 2000000) only [go_sem, Nat.reduceAdd, Nat.reduceMul, Nat.reduceSub]
  refine Runs.split (fun c1 => ?_) (fun c1 => ?_)
  · have e : curveB ⟨p, a, b, n, gx, gy⟩ = false := by simp only [Bool.not_eq_true'] at c1; simp [curveB, c1]
    simp (decide := true) (maxSteps := 2000000) only [e, go_sem, Nat.reduceAdd, Nat.reduceMul, Nat.reduceSub]
    exact Runs.ret_v
  simp only [Bool.not_eq_false'] at c1
  obtain ⟨p1, p2⟩ := inB_t c1
  simp (decide := true) (maxSteps := 2000000) (disch := first | omega | (simp only [List.length_map, List.length_cons, List.length_append, List.length_nil]; omega)) only [if_pos, go_sem, Nat.reduceAdd, Nat.reduceMul, Nat.reduceSub]
  refine Runs.split (fun c2 => ?_) (fun c2 => ?_)
  · have e : curveB ⟨p, a, b, n, gx, gy⟩ = false := by
      have : ¬ p.tmod 4 = 3 := by simpa using c2
      simp [curveB, this]
    simp (decide := true) (maxSteps := 2000000) only [e, go_sem, Nat.reduceAdd, Nat.reduceMul, Nat.reduceSub]
    exact Runs.ret_v
  have c2' : p.tmod 4 = 3 := by simpa using c2
  simp (decide := true) (maxSteps := 2000000) (disch := first | omega | (simp only [List.length_map, List.length_cons, List.length_append, List.length_nil]; omega)) only [if_pos, go_sem, Nat.reduceAdd, Nat.reduceMul, Nat.reduceSub]
  refine Runs.call (sPrime hm p) ?_
  simp (decide := true) (maxSteps := 2000000) only [go_sem, Nat.reduceAdd, Nat.reduceMul, Nat.reduceSub]
  refine Runs.split (fun c3 => ?_) (fun c3 => ?_)
  · have e : curveB ⟨p, a, b, n, gx, gy⟩ = false := by simp only [Bool.not_eq_true'] at c3; simp [curveB, c3]
    simp (decide := true) (maxSteps := 2000000) only [e, go_sem, Nat.reduceAdd, Nat.reduceMul, Nat.reduceSub]
    exact Runs.ret_v
  simp only [Bool.not_eq_false'] at c3
  simp (decide := true) (maxSteps := 2000000) (disch := first | omega | (simp only [List.length_map, List.length_cons, List.length_append, List.length_nil]; omega)) only [if_pos, go_sem, Nat.reduceAdd, Nat.reduceMul, Nat.reduceSub]
  refine Runs.call (l1In hm a 0 (p - 1)) ?_
  simp (decide := true) (maxSteps := 2000000) only [go_sem, Nat.reduceAdd, Nat.reduceMul, Nat.reduceSub]
  refine Runs.split (fun c4 => ?_) (fun c4 => ?_)
  · have e : curveB ⟨p, a, b, n, gx, gy⟩ = false := by simp only [Bool.not_eq_true'] at c4; simp [curveB, c4]
    simp (decide := true) (maxSteps := 2000000) only [e, go_sem, Nat.reduceAdd, Nat.reduceMul, Nat.reduceSub]
    exact Runs.ret_v
  simp only [Bool.not_eq_false'] at c4
  simp (decide := true) (maxSteps := 2000000) (disch := first | omega | (simp only [List.length_map, List.length_cons, List.length_append, List.length_nil]; omega)) only [if_pos, go_sem, Nat.reduceAdd, Nat.reduceMul, Nat.reduceSub]
  refine Runs.call (l1In hm b 0 (p - 1)) ?_
  simp (decide := true) (maxSteps := 2000000) only [go_sem, Nat.reduceAdd, Nat.reduceMul, Nat.reduceSub]
  refine Runs.split (fun c5 => ?_) (fun c5 => ?_)
  · have e : curveB ⟨p, a, b, n, gx, gy⟩ = false := by simp only [Bool.not_eq_true'] at c5; simp [curveB, c5]
    simp (decide := true) (maxSteps := 2000000) only [e, go_sem, Nat.reduceAdd, Nat.reduceMul, Nat.reduceSub]
    exact Runs.ret_v
  simp only [Bool.not_eq_false'] at c5
  simp (decide := true) (maxSteps := 2000000) (disch := first | omega | (simp only [List.length_map, List.length_cons, List.length_append, List.length_nil]; omega)) only [if_pos, go_sem, Nat.reduceAdd, Nat.reduceMul, Nat.reduceSub]
  refine Runs.call (l1In hm n 5 2097152) ?_
  simp (decide := true) (maxSteps := 2000000) only [go_sem, Nat.reduceAdd, Nat.reduceMul, Nat.reduceSub]
  refine Runs.split (fun c6 => ?_) (fun c6 => ?_)
  · have e : curveB ⟨p, a, b, n, gx, gy⟩ = false := by simp only [Bool.not_eq_true'] at c6; simp [curveB, c6]
    simp (decide := true) (maxSteps := 2000000) only [e, go_sem, Nat.reduceAdd, Nat.reduceMul, Nat.reduceSub]
    exact Runs.ret_v
  simp only [Bool.not_eq_false'] at c6
  simp (decide := true) (maxSteps := 2000000) (disch := first | omega | (simp only [List.length_map, List.length_cons, List.length_append, List.length_nil]; omega)) only [if_pos, go_sem, Nat.reduceAdd, Nat.reduceMul, Nat.reduceSub]
  refine Runs.call (sPrime hm n) ?_
  simp (decide := true) (maxSteps := 2000000) only [go_sem, Nat.reduceAdd, Nat.reduceMul, Nat.reduceSub]
  refine Runs.split (fun c7 => ?_) (fun c7 => ?_)
  · have e : curveB ⟨p, a, b, n, gx, gy⟩ = false := by simp only [Bool.not_eq_true'] at c7; simp [curveB, c7]
    simp (decide := true) (maxSteps := 2000000) only [e, go_sem, Nat.reduceAdd, Nat.reduceMul, Nat.reduceSub]
    exact Runs.ret_v
  simp only [Bool.not_eq_false'] at c7
  have ia := inB_t c4
  have ib := inB_t c5
  have iN := inB_t c6
  have b1 := mul_in (a := a) (b := a) (m := p) (by omega) (by omega) (by omega)
  have b2 := mul_in (a := b) (b := b) (m := p) (by omega) (by omega) (by omega)
  have m1 := mod_in' (show 0 < p by omega) (a * a)
  have m2 := mod_in' (show 0 < p by omega) (b * b)
  have b3 := mul_in (a := a * a % p) (b := a) (m := p) (by omega) (by omega) (by omega)
  have e3 : 4 * (a * a % p) * a = 4 * (a * a % p * a) := Int.mul_assoc 4 _ _
  have hn : ((n.toNat : Nat) : Int) = n := Int.toNat_of_nonneg (by omega)
  simp (decide := true) (maxSteps := 2000000) (disch := first | omega | (simp only [List.length_map, List.length_cons, List.length_append, List.length_nil]; omega)) only [if_pos, go_sem, Nat.reduceAdd, Nat.reduceMul, Nat.reduceSub]
  refine Runs.draw (st1 := ?s1) (draws_ref (ann := []) tabOk (byL [] [1000001]) scS (by kernel_rfl) ?p1) ?q1
  case p1 =>
    intro K r X hK
    simp (decide := true) (maxSteps := 2000000) (disch := first | omega | (simp only [List.length_map, List.length_cons, List.length_append, List.length_nil]; omega)) only [Int.tmod_eq_emod_of_nonneg, if_pos, go_sem, Nat.reduceAdd, Nat.reduceMul, Nat.reduceSub]
    exact hK
  case q1 =>
    simp (decide := true) (maxSteps := 2000000) only [go_sem, Nat.reduceAdd, Nat.reduceMul, Nat.reduceSub]
    refine Runs.split (fun c8 => ?_) (fun c8 => ?_)
    · have e : curveB ⟨p, a, b, n, gx, gy⟩ = false := by simp only [decide_eq_true_eq] at c8; simp [curveB, c8]
      simp (decide := true) (maxSteps := 2000000) only [e, go_sem, Nat.reduceAdd, Nat.reduceMul, Nat.reduceSub]
      exact Runs.ret_v
    simp only [decide_eq_false_iff_not] at c8
    have kin : CvIn ⟨p, a, b, n, gx, gy⟩ := ⟨by simp only; omega, by simp only; omega, by simp only; omega, by simp only; omega⟩
    simp (decide := true) (maxSteps := 2000000) only [go_sem, Nat.reduceAdd, Nat.reduceMul, Nat.reduceSub]
    refine Runs.call (l3On hm ⟨p, a, b, n, gx, gy⟩ ⟨gx, gy, false⟩ kin) ?_
    simp (decide := true) (maxSteps := 2000000) only [go_sem, Nat.reduceAdd, Nat.reduceMul, Nat.reduceSub]
    refine Runs.split (fun c9 => ?_) (fun c9 => ?_)
    · have gin := onZ_in (by omega) c9
      have hM := l3Mul hm ⟨p, a, b, n, gx, gy⟩ n.toNat ⟨gx, gy, false⟩ kin gin (by omega)
      rw [hn] at hM
      simp (decide := true) (maxSteps := 2000000) only [go_sem, Nat.reduceAdd, Nat.reduceMul, Nat.reduceSub]
      refine Runs.call hM ?_
      simp (decide := true) (maxSteps := 2000000) only [go_sem, Nat.reduceAdd, Nat.reduceMul, Nat.reduceSub]
      exact Runs.ret_eq (by simp [curveB, c1, c2', c3, c4, c5, c6, c7, c8, c9])
    · have e : curveB ⟨p, a, b, n, gx, gy⟩ = false := by simp [curveB, c9]
      simp (decide := true) (maxSteps := 2000000) only [e, go_sem, Nat.reduceAdd, Nat.reduceMul, Nat.reduceSub]
      exact Runs.ret_v
def icS : Sched := .take 0 (.take 3 (.take 6 (.take 9 (.take 12 (.take 15 (.take 19 (.ld 1 (.take 2 (.ld 4 (.take 5 (.ld 7 (.take 8 (.ld 10 (.take 11 (.ld 13 (.take 14 (.ld 16 (.take 17 (.take 18 (.ld 20 (.take 21 (.take 22 (.take 23 (.ld 24 (.ld 25 (.alt 26 (.alt 27 (.take 28 (.take 29 .fin)) .nil) .nil))))))))))))))))))))))))))
def icT : Sched := .take 1 (.ld 0 (.ld 2 (.ld 3 (.alt 4 (.alt 5 (.take 6 (.take 7 .fin)) .nil) .nil))))
attribute [local go_sem] icS icT
set_option maxRecDepth 10000 in
set_option maxHeartbeats 4000000 in
include hm in
theorem iCurveOk (k : GCv) : Holds Try.prog 76 [cvA k] [] (.v (.bool (curveB k))) [] := by
  refine holds_ref (ann := []) tabOk hm (byL [] [1000001]) Try.func76 (by kernel_rfl) rfl ?_
  obtain ⟨p, a, b, n, gx, gy⟩ := k
  simp (decide := true) only [Try.f76, go_sem, Nat.reduceAdd, Nat.reduceMul, Nat.reduceSub]
  refine Runs.call (within hm p 5 1048576) ?_
  simp (decide := true) (maxSteps := 2000000) only [go_sem, Nat.reduceAdd, Nat.reduceMul, Nat.reduceSub]
  refine Runs.split (fun c1 => ?_) (fun c1 => ?_)
  · have e : curveB ⟨p, a, b, n, gx, gy⟩ = false := by simp only [Bool.not_eq_true'] at c1; simp [curveB, c1]
    simp (decide := true) (maxSteps := 2000000) only [e, go_sem, Nat.reduceAdd, Nat.reduceMul, Nat.reduceSub]
    exact Runs.ret_v
  simp only [Bool.not_eq_false'] at c1
  obtain ⟨p1, p2⟩ := inB_t c1
  simp (decide := true) (maxSteps := 2000000) (disch := first | omega | (simp only [List.length_map, List.length_cons, List.length_append, List.length_nil]; omega)) only [if_pos, go_sem, Nat.reduceAdd, Nat.reduceMul, Nat.reduceSub]
  refine Runs.split (fun c2 => ?_) (fun c2 => ?_)
  · have e : curveB ⟨p, a, b, n, gx, gy⟩ = false := by
      have : ¬ p.tmod 4 = 3 := by simpa using c2
      simp [curveB, this]
    simp (decide := true) (maxSteps := 2000000) only [e, go_sem, Nat.reduceAdd, Nat.reduceMul, Nat.reduceSub]
    exact Runs.ret_v
  have c2' : p.tmod 4 = 3 := by simpa using c2
  simp (decide := true) (maxSteps := 2000000) (disch := first | omega | (simp only [List.length_map, List.length_cons, List.length_append, List.length_nil]; omega)) only [if_pos, go_sem, Nat.reduceAdd, Nat.reduceMul, Nat.reduceSub]
  refine Runs.call (within hm a 0 (p - 1)) ?_
  simp (decide := true) (maxSteps := 2000000) only [go_sem, Nat.reduceAdd, Nat.reduceMul, Nat.reduceSub]
  refine Runs.split (fun c4 => ?_) (fun c4 => ?_)
  · have e : curveB ⟨p, a, b, n, gx, gy⟩ = false := by simp only [Bool.not_eq_true'] at c4; simp [curveB, c4]
    simp (decide := true) (maxSteps := 2000000) only [e, go_sem, Nat.reduceAdd, Nat.reduceMul, Nat.reduceSub]
    exact Runs.ret_v
  simp only [Bool.not_eq_false'] at c4
  simp (decide := true) (maxSteps := 2000000) (disch := first | omega | (simp only [List.length_map, List.length_cons, List.length_append, List.length_nil]; omega)) only [if_pos, go_sem, Nat.reduceAdd, Nat.reduceMul, Nat.reduceSub]
  refine Runs.call (within hm b 0 (p - 1)) ?_
  simp (decide := true) (maxSteps := 2000000) only [go_sem, Nat.reduceAdd, Nat.reduceMul, Nat.reduceSub]
  refine Runs.split (fun c5 => ?_) (fun c5 => ?_)
  · have e : curveB ⟨p, a, b, n, gx, gy⟩ = false := by simp only [Bool.not_eq_true'] at c5; simp [curveB, c5]
    simp (decide := true) (maxSteps := 2000000) only [e, go_sem, Nat.reduceAdd, Nat.reduceMul, Nat.reduceSub]
    exact Runs.ret_v
  simp only [Bool.not_eq_false'] at c5
  simp (decide := true) (maxSteps := 2000000) (disch := first | omega | (simp only [List.length_map, List.length_cons, List.length_append, List.length_nil]; omega)) only [if_pos, go_sem, Nat.reduceAdd, Nat.reduceMul, Nat.reduceSub]
  refine Runs.call (within hm n 5 2097152) ?_
  simp (decide := true) (maxSteps := 2000000) only [go_sem, Nat.reduceAdd, Nat.reduceMul, Nat.reduceSub]
  refine Runs.split (fun c6 => ?_) (fun c6 => ?_)
  · have e : curveB ⟨p, a, b, n, gx, gy⟩ = false := by simp only [Bool.not_eq_true'] at c6; simp [curveB, c6]
    simp (decide := true) (maxSteps := 2000000) only [e, go_sem, Nat.reduceAdd, Nat.reduceMul, Nat.reduceSub]
    exact Runs.ret_v
  simp only [Bool.not_eq_false'] at c6
  simp (decide := true) (maxSteps := 2000000) (disch := first | omega | (simp only [List.length_map, List.length_cons, List.length_append, List.length_nil]; omega)) only [if_pos, go_sem, Nat.reduceAdd, Nat.reduceMul, Nat.reduceSub]
  refine Runs.call (iPrime hm p) ?_
  simp (decide := true) (maxSteps := 2000000) only [go_sem, Nat.reduceAdd, Nat.reduceMul, Nat.reduceSub]
  refine Runs.split (fun c3 => ?_) (fun c3 => ?_)
  · have e : curveB ⟨p, a, b, n, gx, gy⟩ = false := by simp only [Bool.not_eq_true'] at c3; simp [curveB, c3]
    simp (decide := true) (maxSteps := 2000000) only [e, go_sem, Nat.reduceAdd, Nat.reduceMul, Nat.reduceSub]
    exact Runs.ret_v
  simp only [Bool.not_eq_false'] at c3
  simp (decide := true) (maxSteps := 2000000) (disch := first | omega | (simp only [List.length_map, List.length_cons, List.length_append, List.length_nil]; omega)) only [if_pos, go_sem, Nat.reduceAdd, Nat.reduceMul, Nat.reduceSub]
  refine Runs.call (iPrime hm n) ?_
  simp (decide := true) (maxSteps := 2000000) only [go_sem, Nat.reduceAdd, Nat.reduceMul, Nat.reduceSub]
  refine Runs.split (fun c7 => ?_) (fun c7 => ?_)
  · have e : curveB ⟨p, a, b, n, gx, gy⟩ = false := by simp only [Bool.not_eq_true'] at c7; simp [curveB, c7]
    simp (decide := true) (maxSteps := 2000000) only [e, go_sem, Nat.reduceAdd, Nat.reduceMul, Nat.reduceSub]
    exact Runs.ret_v
  simp only [Bool.not_eq_false'] at c7
  have ia := inB_t c4
  have ib := inB_t c5
  have iN := inB_t c6
  have b1 := mul_in (a := a) (b := a) (m := p) (by omega) (by omega) (by omega)
  have b2 := mul_in (a := b) (b := b) (m := p) (by omega) (by omega) (by omega)
  have m1 := mod_in' (show 0 < p by omega) (4 * a * a)
  have e1 : 4 * a * a = 4 * (a * a) := Int.mul_assoc 4 a a
  have e2 : 27 * b * b = 27 * (b * b) := Int.mul_assoc 27 b b
  have b3 := mul_in (a := 4 * a * a % p) (b := a) (m := p) (by omega) (by omega) (by omega)
  have hn : ((n.toNat : Nat) : Int) = n := Int.toNat_of_nonneg (by omega)
  have kin : CvIn ⟨p, a, b, n, gx, gy⟩ := ⟨by simp only; omega, by simp only; omega, by simp only; omega, by simp only; omega⟩
  have hB := baseP hm ⟨p, a, b, n, gx, gy⟩
  have hP := isPoint hm ⟨p, a, b, n, gx, gy⟩ ⟨gx, gy, false⟩ kin
  have dm := disc_mod a b p
  simp (decide := true) (maxSteps := 2000000) (disch := first | omega | (simp only [List.length_map, List.length_cons, List.length_append, List.length_nil]; omega)) only [if_pos, go_sem, Nat.reduceAdd, Nat.reduceMul, Nat.reduceSub]
  by_cases c8 : (4 * (a * a % p) * a + 27 * (b * b % p)) % p = 0
  · have e : curveB ⟨p, a, b, n, gx, gy⟩ = false := by simp [curveB, c8]
    rw [c8] at dm
    refine Runs.draw (st1 := ?s1) (draws_ref (ann := []) tabOk (byL [] [1000001]) icS (by kernel_rfl) ?p1) ?q1
    case p1 =>
      intro K r X hK
      simp (decide := true) (maxSteps := 2000000) (disch := first | omega | (simp only [List.length_map, List.length_cons, List.length_append, List.length_nil]; omega)) only [Int.tmod_eq_emod_of_nonneg, dm, if_pos, go_sem, Nat.reduceAdd, Nat.reduceMul, Nat.reduceSub]
      exact hK
    case q1 =>
      simp (decide := true) (maxSteps := 2000000) only [e, go_sem, Nat.reduceAdd, Nat.reduceMul, Nat.reduceSub]
      exact Runs.ret_v
  · have dm' : ¬ (4 * a * a % p * a + 27 * b * b) % p = 0 := by rw [dm]; exact c8
    cases c9 : onZ p a b ⟨gx, gy, false⟩ with
    | false =>
      have e : curveB ⟨p, a, b, n, gx, gy⟩ = false := by simp [curveB, c9]
      simp only [c9] at hP
      refine Runs.draw (st1 := ?s2) (draws_ref (ann := []) tabOk (byL [] [1000001]) icS (by kernel_rfl) ?p2) ?q2
      case p2 =>
        intro K r X hK
        simp (decide := true) (maxSteps := 2000000) (disch := first | omega | (simp only [List.length_map, List.length_cons, List.length_append, List.length_nil]; omega)) only [Int.tmod_eq_emod_of_nonneg, dm', if_pos, go_sem, Nat.reduceAdd, Nat.reduceMul, Nat.reduceSub]
        refine Runs.call hB ?_
        simp (decide := true) (maxSteps := 2000000) (disch := first | omega | (simp only [List.length_map, List.length_cons, List.length_append, List.length_nil]; omega)) only [if_pos, go_sem, Nat.reduceAdd, Nat.reduceMul, Nat.reduceSub]
        refine Runs.call hP ?_
        simp (decide := true) (maxSteps := 2000000) (disch := first | omega | (simp only [List.length_map, List.length_cons, List.length_append, List.length_nil]; omega)) only [if_pos, go_sem, Nat.reduceAdd, Nat.reduceMul, Nat.reduceSub]
        exact hK
      case q2 =>
        simp (decide := true) (maxSteps := 2000000) only [e, go_sem, Nat.reduceAdd, Nat.reduceMul, Nat.reduceSub]
        exact Runs.ret_v
    | true =>
      simp only [c9] at hP
      have gin := onZ_in (by omega) c9
      have hM := timesC hm ⟨p, a, b, n, gx, gy⟩ n.toNat ⟨gx, gy, false⟩ kin gin (by omega)
      simp only at hM
      rw [hn, times_same (by omega) (primeZ_of c3).2.2 c8 c9 n.toNat] at hM
      refine Runs.draw (st1 := ?s3) (draws_ref (ann := []) tabOk (byL [] [1000001]) icS (by kernel_rfl) ?p3) ?q3
      case p3 =>
        intro K r X hK
        simp (decide := true) (maxSteps := 2000000) (disch := first | omega | (simp only [List.length_map, List.length_cons, List.length_append, List.length_nil]; omega)) only [Int.tmod_eq_emod_of_nonneg, dm', if_pos, go_sem, Nat.reduceAdd, Nat.reduceMul, Nat.reduceSub]
        refine Runs.call hB ?_
        simp (decide := true) (maxSteps := 2000000) (disch := first | omega | (simp only [List.length_map, List.length_cons, List.length_append, List.length_nil]; omega)) only [if_pos, go_sem, Nat.reduceAdd, Nat.reduceMul, Nat.reduceSub]
        refine Runs.call hP ?_
        simp (decide := true) (maxSteps := 2000000) (disch := first | omega | (simp only [List.length_map, List.length_cons, List.length_append, List.length_nil]; omega)) only [if_pos, go_sem, Nat.reduceAdd, Nat.reduceMul, Nat.reduceSub]
        exact hK
      case q3 =>
        simp (decide := true) (maxSteps := 2000000) only [go_sem, Nat.reduceAdd, Nat.reduceMul, Nat.reduceSub]
        refine Runs.draw (st1 := ?s4) (draws_ref (ann := []) tabOk (byL [] [1000001]) icT (by kernel_rfl) ?p4) ?q4
        case p4 =>
          intro K r X hK
          simp (decide := true) (maxSteps := 2000000) (disch := first | omega | (simp only [List.length_map, List.length_cons, List.length_append, List.length_nil]; omega)) only [if_pos, go_sem, Nat.reduceAdd, Nat.reduceMul, Nat.reduceSub]
          repeat' apply And.intro
          all_goals
            refine Runs.call hB ?_
            simp (decide := true) (maxSteps := 2000000) (disch := first | omega | (simp only [List.length_map, List.length_cons, List.length_append, List.length_nil]; omega)) only [if_pos, go_sem, Nat.reduceAdd, Nat.reduceMul, Nat.reduceSub]
            refine Runs.call hM ?_
            simp (decide := true) (maxSteps := 2000000) (disch := first | omega | (simp only [List.length_map, List.length_cons, List.length_append, List.length_nil]; omega)) only [if_pos, go_sem, Nat.reduceAdd, Nat.reduceMul, Nat.reduceSub]
            exact hK
        case q4 =>
          simp (decide := true) (maxSteps := 2000000) only [go_sem, Nat.reduceAdd, Nat.reduceMul, Nat.reduceSub]
          exact Runs.ret_eq (by simp [curveB, c1, c2', c3, c4, c5, c6, c7, c8, c9])
set_option maxRecDepth 10000 in
include hm in
theorem sPointOk (k : GCv) (P : GPt) : Holds Try.prog 39 [cvA k, ptA P] [] (.v (.bool (curveB k && onZ k.p k.a k.b P))) [] := by
  refine holds_ref (ann := []) tabOk hm (byL [] [1000002, 1000003]) Try.func39 (by kernel_rfl) rfl ?_
  simp (decide := true) only [Try.f39, go_sem, Nat.reduceAdd, Nat.reduceMul, Nat.reduceSub]
  refine Runs.call (sCurveOk hm k) ?_
  simp (decide := true) only [go_sem, Nat.reduceAdd, Nat.reduceMul, Nat.reduceSub]
  refine Runs.split (fun c => ?_) (fun c => ?_)
  · simp (decide := true) only [go_sem, Nat.reduceAdd, Nat.reduceMul, Nat.reduceSub]
    refine Runs.call (l3On hm k P (curve_in c)) ?_
    simp (decide := true) only [c, go_sem, Nat.reduceAdd, Nat.reduceMul, Nat.reduceSub]
    exact Runs.ret_eq (by simp)
  · simp (decide := true) only [c, go_sem, Nat.reduceAdd, Nat.reduceMul, Nat.reduceSub]
    exact Runs.ret_eq (by simp)
set_option maxRecDepth 10000 in
include hm in
theorem iPointOk (k : GCv) (P : GPt) : Holds Try.prog 53 [cvA k, ptA P] [] (.v (.bool (curveB k && onZ k.p k.a k.b P))) [] := by
  refine holds_ref (ann := []) tabOk hm (byL [] [1000002, 1000003]) Try.func53 (by kernel_rfl) rfl ?_
  simp (decide := true) only [Try.f53, go_sem, Nat.reduceAdd, Nat.reduceMul, Nat.reduceSub]
  refine Runs.call (iCurveOk hm k) ?_
  simp (decide := true) only [go_sem, Nat.reduceAdd, Nat.reduceMul, Nat.reduceSub]
  refine Runs.split (fun c => ?_) (fun c => ?_)
  · simp (decide := true) only [go_sem, Nat.reduceAdd, Nat.reduceMul, Nat.reduceSub]
    refine Runs.call (isPoint hm k P (curve_in c)) ?_
    simp (decide := true) only [c, go_sem, Nat.reduceAdd, Nat.reduceMul, Nat.reduceSub]
    exact Runs.ret_eq (by simp)
  · simp (decide := true) only [c, go_sem, Nat.reduceAdd, Nat.reduceMul, Nat.reduceSub]
    exact Runs.ret_eq (by simp)
end Go.Proofs.W

namespace Go.Proofs.W
open Go Go.AM Go.Proofs.G
set_option linter.unusedSimpArgs false
set_option linter.unusedVariables false
variable (hm : Try.prog.follows .mixedOrders = true)

/-- A twisted curve as the program has it. -/
structure GEd where
  p : Int
  d : Int
  l : Int
  bx : Int
  by' : Int
def edA (k : GEd) : A := .agg [.v (.int .i64 k.p), .v (.int .i64 k.d), .v (.int .i64 k.l), .v (.int .i64 k.bx), .v (.int .i64 k.by')]
def prA (P : GPr) : A := .agg [.v (.int .i64 P.1), .v (.int .i64 P.2)]
def EdIn (k : GEd) : Prop := 13 ≤ k.p ∧ k.p ≤ 1048576 ∧ (0 ≤ k.d ∧ k.d < k.p)
def PrIn (p : Int) (P : GPr) : Prop := (0 ≤ P.1 ∧ P.1 < p) ∧ (0 ≤ P.2 ∧ P.2 < p)
attribute [local go_sem] edA prA
theorem eadd_in {p D : Int} (h : 0 < p) (a b : GPr) : PrIn p (eaddZ p D a b) := ⟨mod_in' h _, mod_in' h _⟩
theorem esum_in {p D : Int} (h : 0 < p) (a b : GPr) : PrIn p (esumZ p D a b) := ⟨mod_in' h _, mod_in' h _⟩
def eoA : Sched := .take 0 (.take 2 (.take 5 (.take 8 (.take 10 (.take 13 (.ld 1 (.ld 3 (.take 4 (.ld 6 (.take 7 (.take 16 (.ld 9 (.ld 11 (.take 12 (.ld 14 (.take 15 (.take 17 .fin)))))))))))))))))
def eoB : Sched := .take 0 (.take 1 (.take 2 (.take 3 (.take 6 (.take 8 (.take 10 (.take 13 (.take 16 (.ld 4 (.ld 7 (.take 9 (.ld 11 (.take 12 (.take 14 (.take 15 (.ld 17 (.take 18 (.alt 5 (.take 19 (.take 20 .fin)) .nil))))))))))))))))))
attribute [local go_sem] eoA eoB
set_option maxRecDepth 10000 in
set_option maxHeartbeats 4000000 in
include hm in
theorem l4On (k : GEd) (P : GPr) (hk : EdIn k) : Holds Try.prog 69 [edA k, prA P] [] (.v (.bool (eonZ k.p k.d P))) [] := by
  refine holds_ref (ann := []) tabOk hm (byL [] [1000002, 1000003]) Try.func69 (by kernel_rfl) rfl ?_
  obtain ⟨p, d, l, bx, by'⟩ := k
  obtain ⟨x, y⟩ := P
  obtain ⟨h1, h2, h3⟩ := hk
  simp only at h1 h2 h3
  simp (decide := true) (disch := first | omega | (simp only [List.length_map, List.length_cons, List.length_append, List.length_nil]; omega)) only [Try.f69, if_pos, go_sem, Nat.reduceAdd, Nat.reduceMul, Nat.reduceSub]
  refine Runs.call (l1In hm x 0 (p - 1)) ?_
  simp (decide := true) only [go_sem, Nat.reduceAdd, Nat.reduceMul, Nat.reduceSub]
  refine Runs.split (fun h => ?_) (fun h => ?_)
  · have e : eonZ p d (x, y) = false := by simp [inB] at h; simp [eonZ]; omega
    simp (decide := true) only [e, go_sem, Nat.reduceAdd, Nat.reduceMul, Nat.reduceSub]
    exact Runs.ret_v
  · have hx : 0 ≤ x ∧ x < p := by simp [inB] at h; omega
    simp (decide := true) (disch := first | omega | (simp only [List.length_map, List.length_cons, List.length_append, List.length_nil]; omega)) only [if_pos, go_sem, Nat.reduceAdd, Nat.reduceMul, Nat.reduceSub]
    refine Runs.call (l1In hm y 0 (p - 1)) ?_
    simp (decide := true) only [go_sem, Nat.reduceAdd, Nat.reduceMul, Nat.reduceSub]
    refine Runs.split (fun h => ?_) (fun h => ?_)
    · have e : eonZ p d (x, y) = false := by simp [inB] at h; simp [eonZ]; omega
      simp (decide := true) only [e, go_sem, Nat.reduceAdd, Nat.reduceMul, Nat.reduceSub]
      exact Runs.ret_v
    · have hy : 0 ≤ y ∧ y < p := by simp [inB] at h; omega
      have b1 := mul_in hy hy (by omega)
      have b2 := mul_in hx hx (by omega)
      have m1 := mod_in' (show 0 < p by omega) (x * x)
      have m2 := mod_in' (show 0 < p by omega) (y * y)
      have b3 := mul_in h3 m1 (by omega)
      have m3 := mod_in' (show 0 < p by omega) (d * (x * x % p))
      have b4 := mul_in m3 m2 (by omega)
      simp (decide := true) only [go_sem, Nat.reduceAdd, Nat.reduceMul, Nat.reduceSub]
      refine Runs.draw (st1 := ?s1) (draws_ref (ann := []) tabOk (byL [] [1000002, 1000003]) eoA (by kernel_rfl) ?p1) ?q1
      case p1 =>
        intro K r X hK
        simp (decide := true) (maxSteps := 2000000) (disch := first | omega | (simp only [List.length_map, List.length_cons, List.length_append, List.length_nil]; omega)) only [Int.tmod_eq_emod_of_nonneg, if_pos, go_sem, Nat.reduceAdd, Nat.reduceMul, Nat.reduceSub]
        exact hK
      case q1 =>
        simp (decide := true) only [go_sem, Nat.reduceAdd, Nat.reduceMul, Nat.reduceSub]
        refine Runs.draw (st1 := ?s2) (draws_ref (ann := []) tabOk (byL [] [1000002, 1000003]) eoB (by kernel_rfl) ?p2) ?q2
        case p2 =>
          intro K r X hK
          simp (decide := true) (maxSteps := 2000000) (disch := first | omega | (simp only [List.length_map, List.length_cons, List.length_append, List.length_nil]; omega)) only [Int.tmod_eq_emod_of_nonneg, if_pos, go_sem, Nat.reduceAdd, Nat.reduceMul, Nat.reduceSub]
          refine Runs.call (l2Left hm (y * y % p - x * x % p) p (by omega) (by omega)) ?_
          simp (decide := true) (maxSteps := 2000000) (disch := first | omega | (simp only [List.length_map, List.length_cons, List.length_append, List.length_nil]; omega)) only [Int.tmod_eq_emod_of_nonneg, if_pos, go_sem, Nat.reduceAdd, Nat.reduceMul, Nat.reduceSub]
          exact hK
        case q2 =>
          simp (decide := true) only [go_sem, Nat.reduceAdd, Nat.reduceMul, Nat.reduceSub]
          exact Runs.ret_eq (by simp [eonZ, hx, hy]; omega)
def eoC : Sched := .take 0 (.take 2 (.take 5 (.take 8 (.take 10 (.take 13 (.ld 1 (.ld 3 (.take 4 (.ld 6 (.take 7 (.take 16 (.ld 9 (.ld 11 (.take 12 (.ld 14 (.take 15 (.take 17 .fin)))))))))))))))))
def eoD : Sched := .take 0 (.take 1 (.take 2 (.take 3 (.take 6 (.take 8 (.take 10 (.take 13 (.take 16 (.ld 4 (.ld 7 (.take 9 (.ld 11 (.take 12 (.take 14 (.take 15 (.ld 17 (.take 18 (.alt 5 (.take 19 (.take 20 .fin)) .nil))))))))))))))))))
attribute [local go_sem] eoC eoD
set_option maxRecDepth 10000 in
set_option maxHeartbeats 4000000 in
include hm in
theorem isPair (k : GEd) (P : GPr) (hk : EdIn k) : Holds Try.prog 80 [edA k, prA P] [] (.v (.bool (eonZ k.p k.d P))) [] := by
  refine holds_ref (ann := []) tabOk hm (byL [] [1000002, 1000003]) Try.func80 (by kernel_rfl) rfl ?_
  obtain ⟨p, d, l, bx, by'⟩ := k
  obtain ⟨x, y⟩ := P
  obtain ⟨h1, h2, h3⟩ := hk
  simp only at h1 h2 h3
  simp (decide := true) (disch := first | omega | (simp only [List.length_map, List.length_cons, List.length_append, List.length_nil]; omega)) only [Try.f80, if_pos, go_sem, Nat.reduceAdd, Nat.reduceMul, Nat.reduceSub]
  refine Runs.call (within hm x 0 (p - 1)) ?_
  simp (decide := true) only [go_sem, Nat.reduceAdd, Nat.reduceMul, Nat.reduceSub]
  refine Runs.split (fun h => ?_) (fun h => ?_)
  · have e : eonZ p d (x, y) = false := by simp [inB] at h; simp [eonZ]; omega
    simp (decide := true) only [e, go_sem, Nat.reduceAdd, Nat.reduceMul, Nat.reduceSub]
    exact Runs.ret_v
  · have hx : 0 ≤ x ∧ x < p := by simp [inB] at h; omega
    simp (decide := true) (disch := first | omega | (simp only [List.length_map, List.length_cons, List.length_append, List.length_nil]; omega)) only [if_pos, go_sem, Nat.reduceAdd, Nat.reduceMul, Nat.reduceSub]
    refine Runs.call (within hm y 0 (p - 1)) ?_
    simp (decide := true) only [go_sem, Nat.reduceAdd, Nat.reduceMul, Nat.reduceSub]
    refine Runs.split (fun h => ?_) (fun h => ?_)
    · have e : eonZ p d (x, y) = false := by simp [inB] at h; simp [eonZ]; omega
      simp (decide := true) only [e, go_sem, Nat.reduceAdd, Nat.reduceMul, Nat.reduceSub]
      exact Runs.ret_v
    · have hy : 0 ≤ y ∧ y < p := by simp [inB] at h; omega
      have b1 := mul_in hy hy (by omega)
      have b2 := mul_in hx hx (by omega)
      have m1 := mod_in' (show 0 < p by omega) (x * x)
      have m2 := mod_in' (show 0 < p by omega) (y * y)
      have b3 := mul_in h3 m1 (by omega)
      have m3 := mod_in' (show 0 < p by omega) (d * (x * x % p))
      have b4 := mul_in m3 m2 (by omega)
      simp (decide := true) only [go_sem, Nat.reduceAdd, Nat.reduceMul, Nat.reduceSub]
      refine Runs.draw (st1 := ?s1) (draws_ref (ann := []) tabOk (byL [] [1000002, 1000003]) eoC (by kernel_rfl) ?p1) ?q1
      case p1 =>
        intro K r X hK
        simp (decide := true) (maxSteps := 2000000) (disch := first | omega | (simp only [List.length_map, List.length_cons, List.length_append, List.length_nil]; omega)) only [Int.tmod_eq_emod_of_nonneg, if_pos, go_sem, Nat.reduceAdd, Nat.reduceMul, Nat.reduceSub]
        exact hK
      case q1 =>
        simp (decide := true) only [go_sem, Nat.reduceAdd, Nat.reduceMul, Nat.reduceSub]
        refine Runs.draw (st1 := ?s2) (draws_ref (ann := []) tabOk (byL [] [1000002, 1000003]) eoD (by kernel_rfl) ?p2) ?q2
        case p2 =>
          intro K r X hK
          simp (decide := true) (maxSteps := 2000000) (disch := first | omega | (simp only [List.length_map, List.length_cons, List.length_append, List.length_nil]; omega)) only [Int.tmod_eq_emod_of_nonneg, if_pos, go_sem, Nat.reduceAdd, Nat.reduceMul, Nat.reduceSub]
          refine Runs.call (rest hm (y * y % p - x * x % p) p (by omega) (by omega)) ?_
          simp (decide := true) (maxSteps := 2000000) (disch := first | omega | (simp only [List.length_map, List.length_cons, List.length_append, List.length_nil]; omega)) only [Int.tmod_eq_emod_of_nonneg, if_pos, go_sem, Nat.reduceAdd, Nat.reduceMul, Nat.reduceSub]
          exact hK
        case q2 =>
          simp (decide := true) only [go_sem, Nat.reduceAdd, Nat.reduceMul, Nat.reduceSub]
          exact Runs.ret_eq (by simp [eonZ, hx, hy]; omega)
set_option maxRecDepth 10000 in
include hm in
theorem baseE (k : GEd) : Holds Try.prog 98 [edA k] [] (prA (k.bx, k.by')) [] := by
  refine holds_ref (ann := []) tabOk hm (byL [] [1000001]) Try.func98 (by kernel_rfl) rfl ?_
  simp (decide := true) only [Try.f98, go_sem, Nat.reduceAdd, Nat.reduceMul, Nat.reduceSub]
  exact Runs.ret_refl
def eaA : Sched := .take 0 (.take 2 (.take 5 (.take 8 (.take 10 (.take 13 (.ld 1 (.ld 3 (.take 4 (.ld 6 (.take 7 (.take 16 (.ld 9 (.ld 11 (.take 12 (.ld 14 (.take 15 (.take 17 .fin)))))))))))))))))
def eaB : Sched := .take 0 (.take 2 (.take 4 (.take 7 (.take 9 (.ld 1 (.take 3 (.ld 5 (.take 6 (.take 8 (.ld 10 (.take 11 (.take 12 .fin))))))))))))
def eaC : Sched := .take 0 (.take 1 (.take 2 (.take 3 (.take 7 (.take 10 (.take 11 (.take 12 (.take 13 (.take 16 (.take 17 (.take 18 (.take 22 (.ld 4 (.ld 8 (.ld 14 (.take 15 (.ld 19 (.ld 23 (.alt 5 (.take 6 (.take 9 (.alt 20 (.take 21 (.take 24 (.alt 25 (.alt 26 .fin .nil) .nil))) .nil))) .nil)))))))))))))))))))
attribute [local go_sem] eaA eaB eaC
set_option maxRecDepth 10000 in
set_option maxHeartbeats 4000000 in
include hm in
theorem l4Add (k : GEd) (P Q : GPr) (hk : EdIn k) (hP : PrIn k.p P) (hQ : PrIn k.p Q) : Holds Try.prog 100 [edA k, prA P, prA Q] [] (prA (eaddZ k.p k.d P Q)) [] := by
  refine holds_ref (ann := []) tabOk hm (byL [] [1000003, 1000004, 1000005]) Try.func100 (by kernel_rfl) rfl ?_
  obtain ⟨p, d, l, bx, by'⟩ := k
  obtain ⟨x, y⟩ := P
  obtain ⟨u, v⟩ := Q
  obtain ⟨h1, h2, h3⟩ := hk
  obtain ⟨hx, hy⟩ := hP
  obtain ⟨hu, hv⟩ := hQ
  simp only at h1 h2 h3 hx hy hu hv
  have hp : 0 < p := by omega
  have b1 := mul_in hx hu (by omega)
  have b2 := mul_in hy hv (by omega)
  have b3 := mul_in hx hv (by omega)
  have b4 := mul_in hy hu (by omega)
  have m1 := mod_in' hp (x * u)
  have m2 := mod_in' hp (y * v)
  have b5 := mul_in h3 m1 (by omega)
  have m3 := mod_in' hp (d * (x * u % p))
  have b6 := mul_in m3 m2 (by omega)
  have m4 := mod_in' hp (d * (x * u % p) % p * (y * v % p))
  have m5 := mod_in' hp (x * v + y * u)
  have m6 := mod_in' hp (y * v % p + x * u % p)
  have i1 := invI_range (a := 1 + d * (x * u % p) % p * (y * v % p) % p) (m := p) hp
  have i2 := invI_range (a := 1 - d * (x * u % p) % p * (y * v % p) % p) (m := p) hp
  have b7 := mul_in m5 i1 (by omega)
  have b8 := mul_in m6 i2 (by omega)
  simp (decide := true) only [Try.f100, go_sem, Nat.reduceAdd, Nat.reduceMul, Nat.reduceSub]
  refine Runs.draw (st1 := ?s1) (draws_ref (ann := []) tabOk (byL [] [1000003, 1000004, 1000005]) eaA (by kernel_rfl) ?p1) ?q1
  case p1 =>
    intro K r X hK
    simp (decide := true) (maxSteps := 2000000) (disch := first | omega | (simp only [List.length_map, List.length_cons, List.length_append, List.length_nil]; omega)) only [Int.tmod_eq_emod_of_nonneg, if_pos, go_sem, Nat.reduceAdd, Nat.reduceMul, Nat.reduceSub]
    exact hK
  case q1 =>
    simp (decide := true) only [go_sem, Nat.reduceAdd, Nat.reduceMul, Nat.reduceSub]
    refine Runs.draw (st1 := ?s2) (draws_ref (ann := []) tabOk (byL [] [1000003, 1000004, 1000005]) eaB (by kernel_rfl) ?p2) ?q2
    case p2 =>
      intro K r X hK
      simp (decide := true) (maxSteps := 2000000) (disch := first | omega | (simp only [List.length_map, List.length_cons, List.length_append, List.length_nil]; omega)) only [Int.tmod_eq_emod_of_nonneg, if_pos, go_sem, Nat.reduceAdd, Nat.reduceMul, Nat.reduceSub]
      exact hK
    case q2 =>
      simp (decide := true) (maxSteps := 2000000) (disch := first | omega | (simp only [List.length_map, List.length_cons, List.length_append, List.length_nil]; omega)) only [Int.tmod_eq_emod_of_nonneg, if_pos, go_sem, Nat.reduceAdd, Nat.reduceMul, Nat.reduceSub]
      refine Runs.draw (st1 := ?s3) (draws_ref (ann := []) tabOk (byL [] [1000003, 1000004, 1000005]) eaC (by kernel_rfl) ?p3) ?q3
      case p3 =>
        intro K r X hK
        simp (decide := true) (maxSteps := 2000000) (disch := first | omega | (simp only [List.length_map, List.length_cons, List.length_append, List.length_nil]; omega)) only [Int.tmod_eq_emod_of_nonneg, if_pos, go_sem, Nat.reduceAdd, Nat.reduceMul, Nat.reduceSub]
        refine Runs.call (l2Inv hm (1 + d * (x * u % p) % p * (y * v % p) % p) p (by omega) (by omega)) ?_
        simp (decide := true) (maxSteps := 2000000) (disch := first | omega | (simp only [List.length_map, List.length_cons, List.length_append, List.length_nil]; omega)) only [Int.tmod_eq_emod_of_nonneg, if_pos, go_sem, Nat.reduceAdd, Nat.reduceMul, Nat.reduceSub]
        refine Runs.call (l2Inv hm (1 - d * (x * u % p) % p * (y * v % p) % p) p (by omega) (by omega)) ?_
        simp (decide := true) (maxSteps := 2000000) (disch := first | omega | (simp only [List.length_map, List.length_cons, List.length_append, List.length_nil]; omega)) only [Int.tmod_eq_emod_of_nonneg, if_pos, go_sem, Nat.reduceAdd, Nat.reduceMul, Nat.reduceSub]
        exact hK
      case q3 =>
        simp (decide := true) only [go_sem, Nat.reduceAdd, Nat.reduceMul, Nat.reduceSub]
        exact Runs.ret_eq (by simp [prA, eaddZ])
def esA : Sched := .take 0 (.take 2 (.take 5 (.take 8 (.take 11 (.take 14 (.take 17 (.take 20 (.take 23 (.ld 1 (.ld 3 (.take 4 (.ld 6 (.take 7 (.ld 9 (.take 10 (.ld 12 (.take 13 (.ld 15 (.take 16 (.ld 18 (.take 19 (.ld 21 (.take 22 (.ld 24 (.take 25 (.take 26 .fin))))))))))))))))))))))))))
def esB : Sched := .take 0 (.take 2 (.take 5 (.take 7 (.take 11 (.take 14 (.take 16 (.take 19 (.take 21 (.take 24 (.take 26 (.take 30 (.take 33 (.take 35 (.ld 1 (.ld 3 (.take 4 (.ld 6 (.ld 8 (.take 9 (.take 10 (.ld 12 (.take 13 (.take 15 (.ld 17 (.take 18 (.ld 20 (.ld 22 (.take 23 (.ld 25 (.ld 27 (.take 28 (.take 29 (.ld 31 (.take 32 (.take 34 (.ld 36 (.take 37 (.alt 38 (.alt 39 .fin .nil) .nil))))))))))))))))))))))))))))))))))))))
attribute [local go_sem] esA esB
set_option maxRecDepth 10000 in
set_option maxHeartbeats 4000000 in
include hm in
theorem sumE (k : GEd) (P Q : GPr) (hk : EdIn k) (hP : PrIn k.p P) (hQ : PrIn k.p Q) : Holds Try.prog 101 [edA k, prA P, prA Q] [] (prA (esumZ k.p k.d P Q)) [] := by
  refine holds_ref (ann := []) tabOk hm (byL [] [1000003, 1000004, 1000005]) Try.func101 (by kernel_rfl) rfl ?_
  obtain ⟨p, d, l, bx, by'⟩ := k
  obtain ⟨x, y⟩ := P
  obtain ⟨u, v⟩ := Q
  obtain ⟨h1, h2, h3⟩ := hk
  obtain ⟨hx, hy⟩ := hP
  obtain ⟨hu, hv⟩ := hQ
  simp only at h1 h2 h3 hx hy hu hv
  have hp : 0 < p := by omega
  have b1 := mul_in hx hu (by omega)
  have b2 := mul_in hy hv (by omega)
  have b3 := mul_in hx hv (by omega)
  have b4 := mul_in hy hu (by omega)
  have c1 := mul_in h3 hx (by omega)
  have n1 := mod_in' hp (d * x)
  have c2 := mul_in n1 hu (by omega)
  have n2 := mod_in' hp (d * x % p * u)
  have c3 := mul_in n2 hy (by omega)
  have n3 := mod_in' hp (d * x % p * u % p * y)
  have c4 := mul_in n3 hv (by omega)
  have n4 := mod_in' hp (d * x % p * u % p * y % p * v)
  have m5 := mod_in' hp (x * v + y * u)
  have m6 := mod_in' hp (y * v + x * u)
  have i1 := invI_range (a := 1 + d * x % p * u % p * y % p * v % p) (m := p) hp
  have i2 := invI_range (a := 1 - d * x % p * u % p * y % p * v % p) (m := p) hp
  have b7 := mul_in m5 i1 (by omega)
  have b8 := mul_in m6 i2 (by omega)
  simp (decide := true) only [Try.f101, go_sem, Nat.reduceAdd, Nat.reduceMul, Nat.reduceSub]
  refine Runs.draw (st1 := ?s1) (draws_ref (ann := []) tabOk (byL [] [1000003, 1000004, 1000005]) esA (by kernel_rfl) ?p1) ?q1
  case p1 =>
    intro K r X hK
    simp (decide := true) (maxSteps := 2000000) (disch := first | omega | (simp only [List.length_map, List.length_cons, List.length_append, List.length_nil]; omega)) only [Int.tmod_eq_emod_of_nonneg, if_pos, go_sem, Nat.reduceAdd, Nat.reduceMul, Nat.reduceSub]
    exact hK
  case q1 =>
    simp (decide := true) (disch := first | omega | (simp only [List.length_map, List.length_cons, List.length_append, List.length_nil]; omega)) only [if_pos, go_sem, Nat.reduceAdd, Nat.reduceMul, Nat.reduceSub]
    refine Runs.call (invInt hm (1 + d * x % p * u % p * y % p * v % p) p (by omega) (by omega)) ?_
    simp (decide := true) (maxSteps := 2000000) (disch := first | omega | (simp only [List.length_map, List.length_cons, List.length_append, List.length_nil]; omega)) only [if_pos, go_sem, Nat.reduceAdd, Nat.reduceMul, Nat.reduceSub]
    refine Runs.call (invInt hm (1 - d * x % p * u % p * y % p * v % p) p (by omega) (by omega)) ?_
    simp (decide := true) (maxSteps := 2000000) (disch := first | omega | (simp only [List.length_map, List.length_cons, List.length_append, List.length_nil]; omega)) only [if_pos, go_sem, Nat.reduceAdd, Nat.reduceMul, Nat.reduceSub]
    refine Runs.draw (st1 := ?s2) (draws_ref (ann := []) tabOk (byL [] [1000003, 1000004, 1000005]) esB (by kernel_rfl) ?p2) ?q2
    case p2 =>
      intro K r X hK
      simp (decide := true) (maxSteps := 2000000) (disch := first | omega | (simp only [List.length_map, List.length_cons, List.length_append, List.length_nil]; omega)) only [Int.tmod_eq_emod_of_nonneg, if_pos, go_sem, Nat.reduceAdd, Nat.reduceMul, Nat.reduceSub]
      exact hK
    case q2 =>
      simp (decide := true) only [go_sem, Nat.reduceAdd, Nat.reduceMul, Nat.reduceSub]
      exact Runs.ret_eq (by simp [prA, esumZ])
end Go.Proofs.W

namespace Go.Proofs.W
open Go Go.AM Go.Proofs.G
set_option linter.unusedSimpArgs false
set_option linter.unusedVariables false
variable (hm : Try.prog.follows .mixedOrders = true)
attribute [local go_sem] edA prA

def zPr : A := .agg [.v (.int .i64 0), .v (.int .i64 0)]
theorem one_in {p : Int} (h : 13 ≤ p) : PrIn p (0, 1) := ⟨⟨by show (0 : Int) ≤ 0; omega, by show (0 : Int) < p; omega⟩, ⟨by show (0 : Int) ≤ 1; omega, by show (1 : Int) < p; omega⟩⟩
def leAnn : Ann := [(0, [1, 3, 5, 6, 7])]
def leSt (k : GEd) (p : Nat × GPr × GPr) : St := ⟨[.any, .v (.int .i64 p.1), .any, .ptr [edA k] 0 0, .any, .ref (.l 0) 0 0 1, .ref (.l 1) 0 0 1, .ref (.l 2) 0 0 1, .any, .any, .any, .any, .any, .any, .any, .any, .any, .any, .any, .any, .any, .any, .any, .any, .any], [(0, ⟨true, 2, true, [prA p.2.2]⟩), (1, ⟨true, 2, true, [zPr]⟩), (2, ⟨true, 2, true, [prA p.2.1]⟩)], []⟩
set_option maxRecDepth 10000 in
set_option maxHeartbeats 4000000 in
include hm in
theorem l4Mul (k : GEd) (n : Nat) (P : GPr) (hk : EdIn k) (hP : PrIn k.p P) (hn : n ≤ 9223372036854775807) : Holds Try.prog 89 [edA k, .v (.int .i64 n), prA P] [] (prA (mulL (eaddZ k.p k.d) n (0, 1) P)) [] := by
  refine holds_ref (ann := leAnn) tabOk hm (byL [] [1000003]) Try.func89 (by kernel_rfl) rfl ?_
  have hp : 0 < k.p := by have := hk.1; omega
  simp (decide := true) only [Try.f89, go_sem, Nat.reduceAdd, Nat.reduceMul, Nat.reduceSub]
  refine Runs.while (α := Nat × GPr × GPr) (leSt k) (fun p => p.1) (fun p => p.1 ≤ n ∧ PrIn k.p p.2.1 ∧ PrIn k.p p.2.2 ∧ mulL (eaddZ k.p k.d) p.1 p.2.1 p.2.2 = mulL (eaddZ k.p k.d) n (0, 1) P) (n, (0, 1), P) ⟨Nat.le_refl _, one_in hk.1, hP, rfl⟩ ?_ ?_
  · simp [go_sem, leAnn, leSt, zPr]
  · rintro ⟨i, out, a⟩ ⟨hi, ho, ha, hg⟩ ih
    simp only at hi ho ha hg
    have e3 := tmod_nat i 2
    have e4 := tdiv_nat i 2
    have w3 : IntKind.i64.wrap ((i / 2 : Nat) : Int) = ((i / 2 : Nat) : Int) := wrap_i64 (by omega) (by omega)
    have c1 := l4Add hm k out a hk ho ha
    have c2 := l4Add hm k a a hk ha ha
    have o1 := eadd_in (D := k.d) hp out a
    have o2 := eadd_in (D := k.d) hp a a
    simp (decide := true) only [leSt, zPr, go_sem, Nat.reduceAdd, Nat.reduceMul, Nat.reduceSub]
    refine Runs.split (fun h => ?_) (fun h => ?_)
    · have hs : i ≠ 0 := by simp at h; omega
      rw [mulL_step _ _ _ _ hs] at hg
      simp (decide := true) (disch := first | omega | (simp only [List.length_map, List.length_cons, List.length_append, List.length_nil]; omega)) only [if_pos, go_sem, Nat.reduceAdd, Nat.reduceMul, Nat.reduceSub]
      rw [show (2 : Int) = ((2 : Nat) : Int) from rfl, e3]
      refine Runs.split (fun h => ?_) (fun h => ?_)
      · have hbit : i % 2 = 1 := by simp at h; omega
        rw [if_pos hbit] at hg
        simp (decide := true) (disch := first | omega | (simp only [List.length_map, List.length_cons, List.length_append, List.length_nil]; omega)) only [if_pos, go_sem, Nat.reduceAdd, Nat.reduceMul, Nat.reduceSub]
        refine Runs.call c1 ?_
        simp (decide := true) (disch := first | omega | (simp only [List.length_map, List.length_cons, List.length_append, List.length_nil]; omega)) only [if_pos, go_sem, Nat.reduceAdd, Nat.reduceMul, Nat.reduceSub]
        refine Runs.call c2 ?_
        simp (decide := true) (disch := first | omega | (simp only [List.length_map, List.length_cons, List.length_append, List.length_nil]; omega)) only [e4, w3, if_pos, go_sem, Nat.reduceAdd, Nat.reduceMul, Nat.reduceSub]
        refine ih (i / 2, eaddZ k.p k.d out a, eaddZ k.p k.d a a) _ (by simp only; omega) ⟨by simp only; omega, o1, o2, hg⟩ ?_
        simp [go_sem, leAnn, leSt, zPr]
      · have hbit : ¬ i % 2 = 1 := by simp at h; omega
        rw [if_neg hbit] at hg
        simp (decide := true) (disch := first | omega | (simp only [List.length_map, List.length_cons, List.length_append, List.length_nil]; omega)) only [if_pos, go_sem, Nat.reduceAdd, Nat.reduceMul, Nat.reduceSub]
        refine Runs.call c2 ?_
        simp (decide := true) (disch := first | omega | (simp only [List.length_map, List.length_cons, List.length_append, List.length_nil]; omega)) only [e4, w3, if_pos, go_sem, Nat.reduceAdd, Nat.reduceMul, Nat.reduceSub]
        refine ih (i / 2, out, eaddZ k.p k.d a a) _ (by simp only; omega) ⟨by simp only; omega, ho, o2, hg⟩ ?_
        simp [go_sem, leAnn, leSt, zPr]
    · have hs : i = 0 := by simp at h; omega
      subst hs
      rw [mulL_zero] at hg
      simp (decide := true) only [go_sem, Nat.reduceAdd, Nat.reduceMul, Nat.reduceSub]
      exact Runs.ret_eq (by rw [← hg])
def teAnn : Ann := [(0, [1, 3, 5, 6, 7, 8])]
def teSt (k : GEd) (n : Nat) (P : GPr) (p : Int × GPr) : St := ⟨[.any, .v (.int .i64 n), .any, .ptr [edA k] 0 0, .any, .ptr [prA P] 0 0, .ref (.l 0) 0 0 1, .ref (.l 1) 0 0 1, .v (.int .i64 p.1), .any, .any, .any, .any, .any, .any, .any, .any, .any, .any, .any, .any, .any, .any, .any, .any, .any, .any, .any, .any, .any, .any, .any], [(0, ⟨true, 2, true, [zPr]⟩), (1, ⟨true, 2, true, [prA p.2]⟩)], []⟩
set_option maxRecDepth 10000 in
set_option maxHeartbeats 4000000 in
include hm in
theorem timesE (k : GEd) (n : Nat) (P : GPr) (hk : EdIn k) (hP : PrIn k.p P) (hn : n ≤ 9223372036854775807) : Holds Try.prog 99 [edA k, .v (.int .i64 n), prA P] [] (prA (mulM (esumZ k.p k.d) (0, 1) n P)) [] := by
  refine holds_ref (ann := teAnn) tabOk hm (byL [] [1000003, 1000005]) Try.func99 (by kernel_rfl) rfl ?_
  have hp : 0 < k.p := by have := hk.1; omega
  have hl : blen n ≤ 63 := blen_le (by omega)
  simp (decide := true) (disch := first | omega | (simp only [List.length_map, List.length_cons, List.length_append, List.length_nil]; omega)) only [Try.f99, if_pos, go_sem, Nat.reduceAdd, Nat.reduceMul, Nat.reduceSub]
  refine Runs.call (bitsLen hm n (by omega)) ?_
  simp (decide := true) (disch := first | omega | (simp only [List.length_map, List.length_cons, List.length_append, List.length_nil]; omega)) only [if_pos, go_sem, Nat.reduceAdd, Nat.reduceMul, Nat.reduceSub]
  refine Runs.while (α := Int × GPr) (teSt k n P) (fun p => (p.1 + 1).toNat) (fun p => -1 ≤ p.1 ∧ p.1 ≤ 62 ∧ PrIn k.p p.2 ∧ (p.1 = -1 ∨ 2 ^ p.1.toNat ≤ n) ∧ p.2 = mulM (esumZ k.p k.d) (0, 1) (n / 2 ^ (p.1 + 1).toNat) P) ((blen n : Int) - 1, (0, 1)) ⟨by simp only; omega, by simp only; omega, one_in hk.1, ?_, ?_⟩ ?_ ?_
  · simp only
    by_cases hz : n = 0
    · left; subst hz; rw [blen_zero]; rfl
    · right
      have := blen_ge hz
      have hp := blen_pos hz
      have e : ((blen n : Int) - 1).toNat = blen n - 1 := by omega
      rw [e]
      exact this
  · simp only
    have e : ((blen n : Int) - 1 + 1).toNat = blen n := by omega
    rw [e, Nat.div_eq_of_lt blen_lt, mulM_zero]
  · simp [go_sem, teAnn, teSt, zPr]
  · rintro ⟨i, out⟩ ⟨hi1, hi2, ho, hi3, hg⟩ ih
    simp only at hi1 hi2 ho hi3 hg
    simp (decide := true) only [teSt, zPr, go_sem, Nat.reduceAdd, Nat.reduceMul, Nat.reduceSub]
    refine Runs.split (fun h => ?_) (fun h => ?_)
    · have hs : 0 ≤ i := by simpa using h
      obtain ⟨j, rfl⟩ := nat_of hs
      have hk' : 2 ^ j ≤ n := by
        rcases hi3 with h | h
        · omega
        · simpa using h
      have ek : ((j : Int) + 1).toNat = j + 1 := by omega
      rw [ek] at hg
      have hst := mulM_step (esumZ k.p k.d) (0, 1) n j P hk'
      rw [← hg] at hst
      have c1 := sumE hm k out out hk ho ho
      have o1 := esum_in (D := k.d) hp out out
      have c2 := sumE hm k (esumZ k.p k.d out out) P hk o1 hP
      have o2 := esum_in (D := k.d) hp (esumZ k.p k.d out out) P
      have hq := Nat.div_le_self n (2 ^ j)
      have ea := andI_one (n / 2 ^ j) (by omega)
      have em : min j 64 = j := by omega
      have es := shr_nat n j
      have hpow : j = 0 ∨ 2 ^ (j - 1) ≤ n := by
        rcases Nat.eq_zero_or_pos j with h | h
        · exact .inl h
        · right; exact Nat.le_trans (Nat.pow_le_pow_right (by omega) (by omega)) hk'
      simp (decide := true) (disch := first | omega | (simp only [List.length_map, List.length_cons, List.length_append, List.length_nil]; omega)) only [if_pos, go_sem, Nat.reduceAdd, Nat.reduceMul, Nat.reduceSub]
      refine Runs.call c1 ?_
      simp (decide := true) (disch := first | omega | (simp only [List.length_map, List.length_cons, List.length_append, List.length_nil]; omega)) only [em, es, ea, if_pos, go_sem, Nat.reduceAdd, Nat.reduceMul, Nat.reduceSub]
      refine Runs.split (fun h => ?_) (fun h => ?_)
      · have hbit : n / 2 ^ j % 2 = 1 := by simp only [decide_eq_true_eq] at h; omega
        rw [if_pos hbit] at hst
        simp (decide := true) (disch := first | omega | (simp only [List.length_map, List.length_cons, List.length_append, List.length_nil]; omega)) only [if_pos, go_sem, Nat.reduceAdd, Nat.reduceMul, Nat.reduceSub]
        refine Runs.call c2 ?_
        simp (decide := true) (disch := first | omega | (simp only [List.length_map, List.length_cons, List.length_append, List.length_nil]; omega)) only [if_pos, go_sem, Nat.reduceAdd, Nat.reduceMul, Nat.reduceSub]
        refine ih ((j : Int) - 1, esumZ k.p k.d (esumZ k.p k.d out out) P) _ (by simp only; omega) ⟨by simp only; omega, by simp only; omega, o2, ?_, ?_⟩ ?_
        · simp only
          rcases hpow with h | h
          · left; omega
          · right
            have e : ((j : Int) - 1).toNat = j - 1 := by omega
            rw [e]; exact h
        · simp only
          have e : ((j : Int) - 1 + 1).toNat = j := by omega
          rw [e, hst]
        · simp [go_sem, teAnn, teSt, zPr]
      · have hbit : ¬ n / 2 ^ j % 2 = 1 := by simp only [decide_eq_false_iff_not] at h; omega
        rw [if_neg hbit] at hst
        simp (decide := true) (disch := first | omega | (simp only [List.length_map, List.length_cons, List.length_append, List.length_nil]; omega)) only [if_pos, go_sem, Nat.reduceAdd, Nat.reduceMul, Nat.reduceSub]
        refine ih ((j : Int) - 1, esumZ k.p k.d out out) _ (by simp only; omega) ⟨by simp only; omega, by simp only; omega, o1, ?_, ?_⟩ ?_
        · simp only
          rcases hpow with h | h
          · left; omega
          · right
            have e : ((j : Int) - 1).toNat = j - 1 := by omega
            rw [e]; exact h
        · simp only
          have e : ((j : Int) - 1 + 1).toNat = j := by omega
          rw [e, hst]
        · simp [go_sem, teAnn, teSt, zPr]
    · have hs : i = -1 := by simp at h; omega
      subst hs
      simp at hg
      simp (decide := true) only [go_sem, Nat.reduceAdd, Nat.reduceMul, Nat.reduceSub]
      exact Runs.ret_eq (by rw [← hg])
end Go.Proofs.W

namespace Go.Proofs.W
open Go Go.AM Go.Proofs.G
set_option linter.unusedSimpArgs false
set_option linter.unusedVariables false
variable (hm : Try.prog.follows .mixedOrders = true)
attribute [local go_sem] edA prA

noncomputable def edB (k : GEd) : Bool :=
  inB k.p 13 1048576 && decide (k.p.tmod 8 = 5) && primeZ k.p && inB k.d 2 (k.p - 1) && decide (powZ k.d ((k.p.toNat - 1) / 2) k.p = k.p - 1) && inB k.l 5 2097152 && primeZ k.l &&
  eonZ k.p k.d (k.bx, k.by') && !(decide (k.bx = 0) && decide (k.by' = 1)) && (decide ((mulL (eaddZ k.p k.d) k.l.toNat (0, 1) (k.bx, k.by')).1 = 0) && decide ((mulL (eaddZ k.p k.d) k.l.toNat (0, 1) (k.bx, k.by')).2 = 1))
theorem eonZ_in {p D : Int} {P : GPr} (h : eonZ p D P = true) : PrIn p P := by
  unfold eonZ at h
  simp only [Bool.and_eq_true, decide_eq_true_eq] at h
  exact ⟨by omega, by omega⟩
theorem ed_in {k : GEd} (h : edB k = true) : EdIn k := by
  simp only [edB, Bool.and_eq_true] at h
  obtain ⟨⟨⟨⟨⟨⟨⟨⟨⟨c1, _⟩, _⟩, c4⟩, _⟩, _⟩, _⟩, _⟩, _⟩, _⟩ := h
  have := inB_t c1
  have := inB_t c4
  exact ⟨by omega, by omega, by omega⟩
theorem half_p {p : Int} (h : 1 ≤ p) : (p - 1).tdiv 2 = ((p.toNat - 1) / 2 : Nat) := by
  rw [Int.tdiv_eq_ediv_of_nonneg (by omega)]
  omega
def seS : Sched := .take 0 (.ld 1 (.alt 2 (.take 3 (.take 4 (.take 5 (.ld 6 (.take 7 (.take 8 (.take 9 (.take 10 (.take 11 (.ld 12 (.alt 13 (.take 14 (.take 15 (.take 16 (.take 17 (.take 19 (.ld 18 (.ld 20 (.take 21 (.alt 22 (.take 23 (.take 24 (.take 25 (.take 26 (.take 28 (.take 32 (.take 35 (.ld 27 (.ld 29 (.take 30 (.take 31 (.ld 33 (.ld 36 (.take 37 (.alt 34 (.take 38 (.take 39 (.take 40 (.take 41 (.ld 42 (.alt 43 (.take 44 (.take 45 (.take 46 (.take 47 (.ld 48 (.alt 49 (.take 50 (.take 51 .fin)) .nil)))))) .nil)))))) .nil))))))))))))))) .nil))))))))) .nil))))))))))) .nil))
attribute [local go_sem] seS
set_option maxRecDepth 10000 in
set_option maxHeartbeats 8000000 in
include hm in
theorem sEdOk (k : GEd) : Holds Try.prog 68 [edA k] [] (.v (.bool (edB k))) [] := by
  refine holds_ref (ann := []) tabOk hm (byL [] [1000001]) Try.func68 (by kernel_rfl) rfl ?_
  obtain ⟨p, d, l, bx, by'⟩ := k
  have hc1 := l1In hm p 13 1048576
  have hc3 := sPrime hm p
  have hc4 := l1In hm d 2 (p - 1)
  have hc6 := l1In hm l 5 2097152
  have hc7 := sPrime hm l
  simp (decide := true) only [Try.f68, go_sem, Nat.reduceAdd, Nat.reduceMul, Nat.reduceSub]
  cases e1 : inB p 13 1048576 with
  | false =>
    rw [e1] at hc1
    have e : edB ⟨p, d, l, bx, by'⟩ = false := by simp [edB, e1]
    refine Runs.draw (st1 := ?s1) (draws_ref (ann := []) tabOk (byL [] [1000001]) seS (by kernel_rfl) ?p1) ?q1
    case p1 =>
      intro K r X hK
      simp (decide := true) (maxSteps := 2000000) (disch := first | omega | (simp only [List.length_map, List.length_cons, List.length_append, List.length_nil]; omega)) only [if_pos, go_sem, Nat.reduceAdd, Nat.reduceMul, Nat.reduceSub]
      refine Runs.call hc1 ?_
      simp (decide := true) (maxSteps := 2000000) (disch := first | omega | (simp only [List.length_map, List.length_cons, List.length_append, List.length_nil]; omega)) only [if_pos, go_sem, Nat.reduceAdd, Nat.reduceMul, Nat.reduceSub]
      exact hK
    case q1 =>
      simp (decide := true) (maxSteps := 2000000) only [e, go_sem, Nat.reduceAdd, Nat.reduceMul, Nat.reduceSub]
      exact Runs.ret_v
  | true =>
    rw [e1] at hc1
    have ip := inB_t e1
    have hh := half_p (p := p) (by omega)
    by_cases e2 : p.tmod 8 = 5
    case neg =>
      have e : edB ⟨p, d, l, bx, by'⟩ = false := by simp [edB, e2]
      refine Runs.draw (st1 := ?s2) (draws_ref (ann := []) tabOk (byL [] [1000001]) seS (by kernel_rfl) ?p2) ?q2
      case p2 =>
        intro K r X hK
        simp (decide := true) (maxSteps := 2000000) (disch := first | omega | (simp only [List.length_map, List.length_cons, List.length_append, List.length_nil]; omega)) only [if_pos, go_sem, Nat.reduceAdd, Nat.reduceMul, Nat.reduceSub]
        refine Runs.call hc1 ?_
        simp (decide := true) (maxSteps := 2000000) (disch := first | omega | (simp only [List.length_map, List.length_cons, List.length_append, List.length_nil]; omega)) only [e2, if_pos, go_sem, Nat.reduceAdd, Nat.reduceMul, Nat.reduceSub]
        exact hK
      case q2 =>
        simp (decide := true) (maxSteps := 2000000) only [e, go_sem, Nat.reduceAdd, Nat.reduceMul, Nat.reduceSub]
        exact Runs.ret_v
    case pos =>
    cases e3 : primeZ p with
    | false =>
      rw [e3] at hc3
      have e : edB ⟨p, d, l, bx, by'⟩ = false := by simp [edB, e3]
      refine Runs.draw (st1 := ?s3) (draws_ref (ann := []) tabOk (byL [] [1000001]) seS (by kernel_rfl) ?p3) ?q3
      case p3 =>
        intro K r X hK
        simp (decide := true) (maxSteps := 2000000) (disch := first | omega | (simp only [List.length_map, List.length_cons, List.length_append, List.length_nil]; omega)) only [if_pos, go_sem, Nat.reduceAdd, Nat.reduceMul, Nat.reduceSub]
        refine Runs.call hc1 ?_
        simp (decide := true) (maxSteps := 2000000) (disch := first | omega | (simp only [List.length_map, List.length_cons, List.length_append, List.length_nil]; omega)) only [e2, if_pos, go_sem, Nat.reduceAdd, Nat.reduceMul, Nat.reduceSub]
        refine Runs.call hc3 ?_
        simp (decide := true) (maxSteps := 2000000) (disch := first | omega | (simp only [List.length_map, List.length_cons, List.length_append, List.length_nil]; omega)) only [if_pos, go_sem, Nat.reduceAdd, Nat.reduceMul, Nat.reduceSub]
        exact hK
      case q3 =>
        simp (decide := true) (maxSteps := 2000000) only [e, go_sem, Nat.reduceAdd, Nat.reduceMul, Nat.reduceSub]
        exact Runs.ret_v
    | true =>
      rw [e3] at hc3
      cases e4 : inB d 2 (p - 1) with
      | false =>
        rw [e4] at hc4
        have e : edB ⟨p, d, l, bx, by'⟩ = false := by simp [edB, e4]
        refine Runs.draw (st1 := ?s4) (draws_ref (ann := []) tabOk (byL [] [1000001]) seS (by kernel_rfl) ?p4) ?q4
        case p4 =>
          intro K r X hK
          simp (decide := true) (maxSteps := 2000000) (disch := first | omega | (simp only [List.length_map, List.length_cons, List.length_append, List.length_nil]; omega)) only [if_pos, go_sem, Nat.reduceAdd, Nat.reduceMul, Nat.reduceSub]
          refine Runs.call hc1 ?_
          simp (decide := true) (maxSteps := 2000000) (disch := first | omega | (simp only [List.length_map, List.length_cons, List.length_append, List.length_nil]; omega)) only [e2, if_pos, go_sem, Nat.reduceAdd, Nat.reduceMul, Nat.reduceSub]
          refine Runs.call hc3 ?_
          simp (decide := true) (maxSteps := 2000000) (disch := first | omega | (simp only [List.length_map, List.length_cons, List.length_append, List.length_nil]; omega)) only [if_pos, go_sem, Nat.reduceAdd, Nat.reduceMul, Nat.reduceSub]
          refine Runs.call hc4 ?_
          simp (decide := true) (maxSteps := 2000000) (disch := first | omega | (simp only [List.length_map, List.length_cons, List.length_append, List.length_nil]; omega)) only [if_pos, go_sem, Nat.reduceAdd, Nat.reduceMul, Nat.reduceSub]
          exact hK
        case q4 =>
          simp (decide := true) (maxSteps := 2000000) only [e, go_sem, Nat.reduceAdd, Nat.reduceMul, Nat.reduceSub]
          exact Runs.ret_v
      | true =>
        rw [e4] at hc4
        have id := inB_t e4
        have hc5 := l2Pow hm d p ((p.toNat - 1) / 2) (by omega) (by omega) (by omega) (by omega)
        by_cases e5 : powZ d ((p.toNat - 1) / 2) p = p - 1
        case neg =>
          have e : edB ⟨p, d, l, bx, by'⟩ = false := by simp [edB, e5]
          refine Runs.draw (st1 := ?s5) (draws_ref (ann := []) tabOk (byL [] [1000001]) seS (by kernel_rfl) ?p5) ?q5
          case p5 =>
            intro K r X hK
            simp (decide := true) (maxSteps := 2000000) (disch := first | omega | (simp only [List.length_map, List.length_cons, List.length_append, List.length_nil]; omega)) only [if_pos, go_sem, Nat.reduceAdd, Nat.reduceMul, Nat.reduceSub]
            refine Runs.call hc1 ?_
            simp (decide := true) (maxSteps := 2000000) (disch := first | omega | (simp only [List.length_map, List.length_cons, List.length_append, List.length_nil]; omega)) only [e2, if_pos, go_sem, Nat.reduceAdd, Nat.reduceMul, Nat.reduceSub]
            refine Runs.call hc3 ?_
            simp (decide := true) (maxSteps := 2000000) (disch := first | omega | (simp only [List.length_map, List.length_cons, List.length_append, List.length_nil]; omega)) only [if_pos, go_sem, Nat.reduceAdd, Nat.reduceMul, Nat.reduceSub]
            refine Runs.call hc4 ?_
            simp (decide := true) (maxSteps := 2000000) (disch := first | omega | (simp only [List.length_map, List.length_cons, List.length_append, List.length_nil]; omega)) only [hh, if_pos, go_sem, Nat.reduceAdd, Nat.reduceMul, Nat.reduceSub]
            refine Runs.call hc5 ?_
            simp (decide := true) (maxSteps := 2000000) (disch := first | omega | (simp only [List.length_map, List.length_cons, List.length_append, List.length_nil]; omega)) only [e5, if_pos, go_sem, Nat.reduceAdd, Nat.reduceMul, Nat.reduceSub]
            exact hK
          case q5 =>
            simp (decide := true) (maxSteps := 2000000) only [e, go_sem, Nat.reduceAdd, Nat.reduceMul, Nat.reduceSub]
            exact Runs.ret_v
        case pos =>
        cases e6 : inB l 5 2097152 with
        | false =>
          rw [e6] at hc6
          have e : edB ⟨p, d, l, bx, by'⟩ = false := by simp [edB, e6]
          refine Runs.draw (st1 := ?s6) (draws_ref (ann := []) tabOk (byL [] [1000001]) seS (by kernel_rfl) ?p6) ?q6
          case p6 =>
            intro K r X hK
            simp (decide := true) (maxSteps := 2000000) (disch := first | omega | (simp only [List.length_map, List.length_cons, List.length_append, List.length_nil]; omega)) only [if_pos, go_sem, Nat.reduceAdd, Nat.reduceMul, Nat.reduceSub]
            refine Runs.call hc1 ?_
            simp (decide := true) (maxSteps := 2000000) (disch := first | omega | (simp only [List.length_map, List.length_cons, List.length_append, List.length_nil]; omega)) only [e2, if_pos, go_sem, Nat.reduceAdd, Nat.reduceMul, Nat.reduceSub]
            refine Runs.call hc3 ?_
            simp (decide := true) (maxSteps := 2000000) (disch := first | omega | (simp only [List.length_map, List.length_cons, List.length_append, List.length_nil]; omega)) only [if_pos, go_sem, Nat.reduceAdd, Nat.reduceMul, Nat.reduceSub]
            refine Runs.call hc4 ?_
            simp (decide := true) (maxSteps := 2000000) (disch := first | omega | (simp only [List.length_map, List.length_cons, List.length_append, List.length_nil]; omega)) only [hh, if_pos, go_sem, Nat.reduceAdd, Nat.reduceMul, Nat.reduceSub]
            refine Runs.call hc5 ?_
            simp (decide := true) (maxSteps := 2000000) (disch := first | omega | (simp only [List.length_map, List.length_cons, List.length_append, List.length_nil]; omega)) only [e5, if_pos, go_sem, Nat.reduceAdd, Nat.reduceMul, Nat.reduceSub]
            refine Runs.call hc6 ?_
            simp (decide := true) (maxSteps := 2000000) (disch := first | omega | (simp only [List.length_map, List.length_cons, List.length_append, List.length_nil]; omega)) only [if_pos, go_sem, Nat.reduceAdd, Nat.reduceMul, Nat.reduceSub]
            exact hK
          case q6 =>
            simp (decide := true) (maxSteps := 2000000) only [e, go_sem, Nat.reduceAdd, Nat.reduceMul, Nat.reduceSub]
            exact Runs.ret_v
        | true =>
          rw [e6] at hc6
          cases e7 : primeZ l with
          | false =>
            rw [e7] at hc7
            have e : edB ⟨p, d, l, bx, by'⟩ = false := by simp [edB, e7]
            refine Runs.draw (st1 := ?s7) (draws_ref (ann := []) tabOk (byL [] [1000001]) seS (by kernel_rfl) ?p7) ?q7
            case p7 =>
              intro K r X hK
              simp (decide := true) (maxSteps := 2000000) (disch := first | omega | (simp only [List.length_map, List.length_cons, List.length_append, List.length_nil]; omega)) only [if_pos, go_sem, Nat.reduceAdd, Nat.reduceMul, Nat.reduceSub]
              refine Runs.call hc1 ?_
              simp (decide := true) (maxSteps := 2000000) (disch := first | omega | (simp only [List.length_map, List.length_cons, List.length_append, List.length_nil]; omega)) only [e2, if_pos, go_sem, Nat.reduceAdd, Nat.reduceMul, Nat.reduceSub]
              refine Runs.call hc3 ?_
              simp (decide := true) (maxSteps := 2000000) (disch := first | omega | (simp only [List.length_map, List.length_cons, List.length_append, List.length_nil]; omega)) only [if_pos, go_sem, Nat.reduceAdd, Nat.reduceMul, Nat.reduceSub]
              refine Runs.call hc4 ?_
              simp (decide := true) (maxSteps := 2000000) (disch := first | omega | (simp only [List.length_map, List.length_cons, List.length_append, List.length_nil]; omega)) only [hh, if_pos, go_sem, Nat.reduceAdd, Nat.reduceMul, Nat.reduceSub]
              refine Runs.call hc5 ?_
              simp (decide := true) (maxSteps := 2000000) (disch := first | omega | (simp only [List.length_map, List.length_cons, List.length_append, List.length_nil]; omega)) only [e5, if_pos, go_sem, Nat.reduceAdd, Nat.reduceMul, Nat.reduceSub]
              refine Runs.call hc6 ?_
              simp (decide := true) (maxSteps := 2000000) (disch := first | omega | (simp only [List.length_map, List.length_cons, List.length_append, List.length_nil]; omega)) only [if_pos, go_sem, Nat.reduceAdd, Nat.reduceMul, Nat.reduceSub]
              refine Runs.call hc7 ?_
              simp (decide := true) (maxSteps := 2000000) (disch := first | omega | (simp only [List.length_map, List.length_cons, List.length_append, List.length_nil]; omega)) only [if_pos, go_sem, Nat.reduceAdd, Nat.reduceMul, Nat.reduceSub]
              exact hK
            case q7 =>
              simp (decide := true) (maxSteps := 2000000) only [e, go_sem, Nat.reduceAdd, Nat.reduceMul, Nat.reduceSub]
              exact Runs.ret_v
          | true =>
            rw [e7] at hc7
            have il := inB_t e6
            have hl : ((l.toNat : Nat) : Int) = l := Int.toNat_of_nonneg (by omega)
            have kin : EdIn ⟨p, d, l, bx, by'⟩ := ⟨by simp only; omega, by simp only; omega, by simp only; omega⟩
            refine Runs.draw (st1 := ?s8) (draws_ref (ann := []) tabOk (byL [] [1000001]) seS (by kernel_rfl) ?p8) ?q8
            case p8 =>
              intro K r X hK
              simp (decide := true) (maxSteps := 2000000) (disch := first | omega | (simp only [List.length_map, List.length_cons, List.length_append, List.length_nil]; omega)) only [if_pos, go_sem, Nat.reduceAdd, Nat.reduceMul, Nat.reduceSub]
              refine Runs.call hc1 ?_
              simp (decide := true) (maxSteps := 2000000) (disch := first | omega | (simp only [List.length_map, List.length_cons, List.length_append, List.length_nil]; omega)) only [e2, if_pos, go_sem, Nat.reduceAdd, Nat.reduceMul, Nat.reduceSub]
              refine Runs.call hc3 ?_
              simp (decide := true) (maxSteps := 2000000) (disch := first | omega | (simp only [List.length_map, List.length_cons, List.length_append, List.length_nil]; omega)) only [if_pos, go_sem, Nat.reduceAdd, Nat.reduceMul, Nat.reduceSub]
              refine Runs.call hc4 ?_
              simp (decide := true) (maxSteps := 2000000) (disch := first | omega | (simp only [List.length_map, List.length_cons, List.length_append, List.length_nil]; omega)) only [hh, if_pos, go_sem, Nat.reduceAdd, Nat.reduceMul, Nat.reduceSub]
              refine Runs.call hc5 ?_
              simp (decide := true) (maxSteps := 2000000) (disch := first | omega | (simp only [List.length_map, List.length_cons, List.length_append, List.length_nil]; omega)) only [e5, if_pos, go_sem, Nat.reduceAdd, Nat.reduceMul, Nat.reduceSub]
              refine Runs.call hc6 ?_
              simp (decide := true) (maxSteps := 2000000) (disch := first | omega | (simp only [List.length_map, List.length_cons, List.length_append, List.length_nil]; omega)) only [if_pos, go_sem, Nat.reduceAdd, Nat.reduceMul, Nat.reduceSub]
              refine Runs.call hc7 ?_
              simp (decide := true) (maxSteps := 2000000) (disch := first | omega | (simp only [List.length_map, List.length_cons, List.length_append, List.length_nil]; omega)) only [if_pos, go_sem, Nat.reduceAdd, Nat.reduceMul, Nat.reduceSub]
              exact hK
            case q8 =>
              simp (decide := true) (maxSteps := 2000000) only [go_sem, Nat.reduceAdd, Nat.reduceMul, Nat.reduceSub]
              refine Runs.call (l4On hm ⟨p, d, l, bx, by'⟩ (bx, by') kin) ?_
              simp (decide := true) (maxSteps := 2000000) only [go_sem, Nat.reduceAdd, Nat.reduceMul, Nat.reduceSub]
              refine Runs.split (fun c9 => ?_) (fun c9 => ?_)
              · have gin := eonZ_in c9
                have hM := l4Mul hm ⟨p, d, l, bx, by'⟩ l.toNat (bx, by') kin gin (by omega)
                simp only at hM
                rw [hl] at hM
                simp (decide := true) (maxSteps := 2000000) only [go_sem, Nat.reduceAdd, Nat.reduceMul, Nat.reduceSub]
                refine Runs.split (fun c10 => ?_) (fun c10 => ?_)
                · simp (decide := true) (maxSteps := 2000000) only [go_sem, Nat.reduceAdd, Nat.reduceMul, Nat.reduceSub]
                  refine Runs.call hM ?_
                  simp (decide := true) (maxSteps := 2000000) only [go_sem, Nat.reduceAdd, Nat.reduceMul, Nat.reduceSub]
                  exact Runs.ret_eq (by simp at c10; simp [edB, e1, e2, e3, e4, e5, e6, e7, c9]; exact fun _ _ => c10)
                · have e : edB ⟨p, d, l, bx, by'⟩ = false := by simp at c10; simp [edB, c10]
                  simp (decide := true) (maxSteps := 2000000) only [e, go_sem, Nat.reduceAdd, Nat.reduceMul, Nat.reduceSub]
                  exact Runs.ret_v
              · have e : edB ⟨p, d, l, bx, by'⟩ = false := by simp [edB, c9]
                simp (decide := true) (maxSteps := 2000000) only [e, go_sem, Nat.reduceAdd, Nat.reduceMul, Nat.reduceSub]
                exact Runs.ret_v
def ieS : Sched := .take 0 (.take 2 (.take 6 (.ld 1 (.ld 3 (.take 4 (.take 5 (.ld 7 (.alt 8 (.take 9 (.take 10 (.ld 11 (.ld 12 (.alt 13 (.alt 14 (.take 15 (.take 16 (.take 17 (.ld 18 (.alt 19 (.alt 20 (.take 21 (.take 22 .fin)) .nil) (.alt 20 (.alt 19 (.take 21 (.take 22 .fin)) .nil) .nil)))))) .nil) .nil))))) .nil))))))))
def ieT : Sched := .take 1 (.ld 0 (.ld 2 (.ld 3 (.alt 4 (.alt 5 (.alt 6 (.take 7 (.take 8 .fin)) .nil) (.alt 6 (.alt 5 (.take 7 (.take 8 .fin)) .nil) .nil)) (.alt 6 (.alt 4 (.alt 5 (.take 7 (.take 8 .fin)) .nil) .nil) .nil)))))
attribute [local go_sem] ieS ieT
set_option maxRecDepth 10000 in
set_option maxHeartbeats 8000000 in
include hm in
theorem iEdOk (k : GEd) : Holds Try.prog 79 [edA k] [] (.v (.bool (edB k))) [] := by
  refine holds_ref (ann := []) tabOk hm (byL [] [1000001]) Try.func79 (by kernel_rfl) rfl ?_
  obtain ⟨p, d, l, bx, by'⟩ := k
  simp (decide := true) only [Try.f79, go_sem, Nat.reduceAdd, Nat.reduceMul, Nat.reduceSub]
  refine Runs.call (within hm p 13 1048576) ?_
  simp (decide := true) (maxSteps := 2000000) only [go_sem, Nat.reduceAdd, Nat.reduceMul, Nat.reduceSub]
  refine Runs.split (fun e1 => ?_) (fun e1 => ?_)
  · have e : edB ⟨p, d, l, bx, by'⟩ = false := by simp only [Bool.not_eq_true'] at e1; simp [edB, e1]
    simp (decide := true) (maxSteps := 2000000) only [e, go_sem, Nat.reduceAdd, Nat.reduceMul, Nat.reduceSub]
    exact Runs.ret_v
  simp only [Bool.not_eq_false'] at e1
  have ip := inB_t e1
  simp (decide := true) (maxSteps := 2000000) (disch := first | omega | (simp only [List.length_map, List.length_cons, List.length_append, List.length_nil]; omega)) only [if_pos, go_sem, Nat.reduceAdd, Nat.reduceMul, Nat.reduceSub]
  refine Runs.split (fun c2 => ?_) (fun c2 => ?_)
  · have e : edB ⟨p, d, l, bx, by'⟩ = false := by
      have : ¬ p.tmod 8 = 5 := by simpa using c2
      simp [edB, this]
    simp (decide := true) (maxSteps := 2000000) only [e, go_sem, Nat.reduceAdd, Nat.reduceMul, Nat.reduceSub]
    exact Runs.ret_v
  have e2 : p.tmod 8 = 5 := by simpa using c2
  simp (decide := true) (maxSteps := 2000000) (disch := first | omega | (simp only [List.length_map, List.length_cons, List.length_append, List.length_nil]; omega)) only [if_pos, go_sem, Nat.reduceAdd, Nat.reduceMul, Nat.reduceSub]
  refine Runs.call (within hm d 2 (p - 1)) ?_
  simp (decide := true) (maxSteps := 2000000) only [go_sem, Nat.reduceAdd, Nat.reduceMul, Nat.reduceSub]
  refine Runs.split (fun e4 => ?_) (fun e4 => ?_)
  · have e : edB ⟨p, d, l, bx, by'⟩ = false := by simp only [Bool.not_eq_true'] at e4; simp [edB, e4]
    simp (decide := true) (maxSteps := 2000000) only [e, go_sem, Nat.reduceAdd, Nat.reduceMul, Nat.reduceSub]
    exact Runs.ret_v
  simp only [Bool.not_eq_false'] at e4
  have id := inB_t e4
  simp (decide := true) (maxSteps := 2000000) (disch := first | omega | (simp only [List.length_map, List.length_cons, List.length_append, List.length_nil]; omega)) only [if_pos, go_sem, Nat.reduceAdd, Nat.reduceMul, Nat.reduceSub]
  refine Runs.call (within hm l 5 2097152) ?_
  simp (decide := true) (maxSteps := 2000000) only [go_sem, Nat.reduceAdd, Nat.reduceMul, Nat.reduceSub]
  refine Runs.split (fun e6 => ?_) (fun e6 => ?_)
  · have e : edB ⟨p, d, l, bx, by'⟩ = false := by simp only [Bool.not_eq_true'] at e6; simp [edB, e6]
    simp (decide := true) (maxSteps := 2000000) only [e, go_sem, Nat.reduceAdd, Nat.reduceMul, Nat.reduceSub]
    exact Runs.ret_v
  simp only [Bool.not_eq_false'] at e6
  have il := inB_t e6
  simp (decide := true) (maxSteps := 2000000) (disch := first | omega | (simp only [List.length_map, List.length_cons, List.length_append, List.length_nil]; omega)) only [if_pos, go_sem, Nat.reduceAdd, Nat.reduceMul, Nat.reduceSub]
  refine Runs.call (iPrime hm p) ?_
  simp (decide := true) (maxSteps := 2000000) only [go_sem, Nat.reduceAdd, Nat.reduceMul, Nat.reduceSub]
  refine Runs.split (fun e3 => ?_) (fun e3 => ?_)
  · have e : edB ⟨p, d, l, bx, by'⟩ = false := by simp only [Bool.not_eq_true'] at e3; simp [edB, e3]
    simp (decide := true) (maxSteps := 2000000) only [e, go_sem, Nat.reduceAdd, Nat.reduceMul, Nat.reduceSub]
    exact Runs.ret_v
  simp only [Bool.not_eq_false'] at e3
  have ep := (primeZ_of e3).2.2
  simp (decide := true) (maxSteps := 2000000) (disch := first | omega | (simp only [List.length_map, List.length_cons, List.length_append, List.length_nil]; omega)) only [if_pos, go_sem, Nat.reduceAdd, Nat.reduceMul, Nat.reduceSub]
  refine Runs.call (iPrime hm l) ?_
  simp (decide := true) (maxSteps := 2000000) only [go_sem, Nat.reduceAdd, Nat.reduceMul, Nat.reduceSub]
  refine Runs.split (fun e7 => ?_) (fun e7 => ?_)
  · have e : edB ⟨p, d, l, bx, by'⟩ = false := by simp only [Bool.not_eq_true'] at e7; simp [edB, e7]
    simp (decide := true) (maxSteps := 2000000) only [e, go_sem, Nat.reduceAdd, Nat.reduceMul, Nat.reduceSub]
    exact Runs.ret_v
  simp only [Bool.not_eq_false'] at e7
  skip
  simp (decide := true) (maxSteps := 2000000) (disch := first | omega | (simp only [List.length_map, List.length_cons, List.length_append, List.length_nil]; omega)) only [if_pos, go_sem, Nat.reduceAdd, Nat.reduceMul, Nat.reduceSub]
  have hl : ((l.toNat : Nat) : Int) = l := Int.toNat_of_nonneg (by omega)
  have kin : EdIn ⟨p, d, l, bx, by'⟩ := ⟨by simp only; omega, by simp only; omega, by simp only; omega⟩
  have hh := half_p (p := p) (by omega)
  have e8 : p % 8 = 5 := by rw [Int.tmod_eq_emod_of_nonneg (by omega)] at e2; exact e2
  have hd := d_same (D := d) (by omega) ep e8 (by omega)
  have hc5 := powInt hm d p ((p.toNat - 1) / 2) (by omega) (by omega) (by omega) (by omega)
  have hB := baseE hm ⟨p, d, l, bx, by'⟩
  have hP := isPair hm ⟨p, d, l, bx, by'⟩ (bx, by') kin
  simp only at hB hP
  by_cases e5 : powZ d ((p.toNat - 1) / 2) p = 1
  · have e : edB ⟨p, d, l, bx, by'⟩ = false := by
      have : ¬ powZ d ((p.toNat - 1) / 2) p = p - 1 := fun h => hd.mp h e5
      simp [edB, this]
    rw [e5] at hc5
    refine Runs.draw (st1 := ?s1) (draws_ref (ann := []) tabOk (byL [] [1000001]) ieS (by kernel_rfl) ?p1) ?q1
    case p1 =>
      intro K r X hK
      simp (decide := true) (maxSteps := 2000000) (disch := first | omega | (simp only [List.length_map, List.length_cons, List.length_append, List.length_nil]; omega)) only [hh, if_pos, go_sem, Nat.reduceAdd, Nat.reduceMul, Nat.reduceSub]
      refine Runs.call hc5 ?_
      simp (decide := true) (maxSteps := 2000000) (disch := first | omega | (simp only [List.length_map, List.length_cons, List.length_append, List.length_nil]; omega)) only [if_pos, go_sem, Nat.reduceAdd, Nat.reduceMul, Nat.reduceSub]
      exact hK
    case q1 =>
      simp (decide := true) (maxSteps := 2000000) only [e, go_sem, Nat.reduceAdd, Nat.reduceMul, Nat.reduceSub]
      exact Runs.ret_v
  · have e5' := hd.mpr e5
    cases e9 : eonZ p d (bx, by') with
    | false =>
      have e : edB ⟨p, d, l, bx, by'⟩ = false := by simp [edB, e9]
      rw [e9] at hP
      refine Runs.draw (st1 := ?s2) (draws_ref (ann := []) tabOk (byL [] [1000001]) ieS (by kernel_rfl) ?p2) ?q2
      case p2 =>
        intro K r X hK
        simp (decide := true) (maxSteps := 2000000) (disch := first | omega | (simp only [List.length_map, List.length_cons, List.length_append, List.length_nil]; omega)) only [hh, if_pos, go_sem, Nat.reduceAdd, Nat.reduceMul, Nat.reduceSub]
        refine Runs.call hc5 ?_
        simp (decide := true) (maxSteps := 2000000) (disch := first | omega | (simp only [List.length_map, List.length_cons, List.length_append, List.length_nil]; omega)) only [e5, if_pos, go_sem, Nat.reduceAdd, Nat.reduceMul, Nat.reduceSub]
        refine Runs.call hB ?_
        simp (decide := true) (maxSteps := 2000000) (disch := first | omega | (simp only [List.length_map, List.length_cons, List.length_append, List.length_nil]; omega)) only [if_pos, go_sem, Nat.reduceAdd, Nat.reduceMul, Nat.reduceSub]
        refine Runs.call hP ?_
        simp (decide := true) (maxSteps := 2000000) (disch := first | omega | (simp only [List.length_map, List.length_cons, List.length_append, List.length_nil]; omega)) only [if_pos, go_sem, Nat.reduceAdd, Nat.reduceMul, Nat.reduceSub]
        exact hK
      case q2 =>
        simp (decide := true) (maxSteps := 2000000) only [e, go_sem, Nat.reduceAdd, Nat.reduceMul, Nat.reduceSub]
        exact Runs.ret_v
    | true =>
      rw [e9] at hP
      by_cases e10 : bx = 0 ∧ by' = 1
      · obtain ⟨rfl, rfl⟩ := e10
        have e : edB ⟨p, d, l, 0, 1⟩ = false := by simp [edB]
        refine Runs.draw (st1 := ?s3) (draws_ref (ann := []) tabOk (byL [] [1000001]) ieS (by kernel_rfl) ?p3) ?q3
        case p3 =>
          intro K r X hK
          simp (decide := true) (maxSteps := 2000000) (disch := first | omega | (simp only [List.length_map, List.length_cons, List.length_append, List.length_nil]; omega)) only [hh, if_pos, go_sem, Nat.reduceAdd, Nat.reduceMul, Nat.reduceSub]
          refine Runs.call hc5 ?_
          simp (decide := true) (maxSteps := 2000000) (disch := first | omega | (simp only [List.length_map, List.length_cons, List.length_append, List.length_nil]; omega)) only [e5, if_pos, go_sem, Nat.reduceAdd, Nat.reduceMul, Nat.reduceSub]
          refine Runs.call hB ?_
          simp (decide := true) (maxSteps := 2000000) (disch := first | omega | (simp only [List.length_map, List.length_cons, List.length_append, List.length_nil]; omega)) only [if_pos, go_sem, Nat.reduceAdd, Nat.reduceMul, Nat.reduceSub]
          refine Runs.call hP ?_
          simp (decide := true) (maxSteps := 2000000) (disch := first | omega | (simp only [List.length_map, List.length_cons, List.length_append, List.length_nil]; omega)) only [if_pos, go_sem, Nat.reduceAdd, Nat.reduceMul, Nat.reduceSub]
          repeat' apply And.intro
          all_goals
            refine Runs.call hB ?_
            simp (decide := true) (maxSteps := 2000000) (disch := first | omega | (simp only [List.length_map, List.length_cons, List.length_append, List.length_nil]; omega)) only [if_pos, go_sem, Nat.reduceAdd, Nat.reduceMul, Nat.reduceSub]
            exact hK
        case q3 =>
          simp (decide := true) (maxSteps := 2000000) only [e, go_sem, Nat.reduceAdd, Nat.reduceMul, Nat.reduceSub]
          exact Runs.ret_v
      · have e10' : (decide (bx = 0) && decide (by' = 1)) = false := by simp; omega
        have gin := eonZ_in e9
        have hM := timesE hm ⟨p, d, l, bx, by'⟩ l.toNat (bx, by') kin gin (by omega)
        simp only at hM
        rw [hl, etimes_same (by omega) ep e8 (by omega) e5' e9 l.toNat] at hM
        refine Runs.draw (st1 := ?s4) (draws_ref (ann := []) tabOk (byL [] [1000001]) ieS (by kernel_rfl) ?p4) ?q4
        case p4 =>
          intro K r X hK
          simp (decide := true) (maxSteps := 2000000) (disch := first | omega | (simp only [List.length_map, List.length_cons, List.length_append, List.length_nil]; omega)) only [hh, if_pos, go_sem, Nat.reduceAdd, Nat.reduceMul, Nat.reduceSub]
          refine Runs.call hc5 ?_
          simp (decide := true) (maxSteps := 2000000) (disch := first | omega | (simp only [List.length_map, List.length_cons, List.length_append, List.length_nil]; omega)) only [e5, if_pos, go_sem, Nat.reduceAdd, Nat.reduceMul, Nat.reduceSub]
          refine Runs.call hB ?_
          simp (decide := true) (maxSteps := 2000000) (disch := first | omega | (simp only [List.length_map, List.length_cons, List.length_append, List.length_nil]; omega)) only [if_pos, go_sem, Nat.reduceAdd, Nat.reduceMul, Nat.reduceSub]
          refine Runs.call hP ?_
          simp (decide := true) (maxSteps := 2000000) (disch := first | omega | (simp only [List.length_map, List.length_cons, List.length_append, List.length_nil]; omega)) only [if_pos, go_sem, Nat.reduceAdd, Nat.reduceMul, Nat.reduceSub]
          repeat' apply And.intro
          all_goals
            refine Runs.call hB ?_
            simp (decide := true) (maxSteps := 2000000) (disch := first | omega | (simp only [List.length_map, List.length_cons, List.length_append, List.length_nil]; omega)) only [e10', if_pos, go_sem, Nat.reduceAdd, Nat.reduceMul, Nat.reduceSub]
            exact hK
        case q4 =>
          simp (decide := true) (maxSteps := 2000000) only [e10', go_sem, Nat.reduceAdd, Nat.reduceMul, Nat.reduceSub]
          refine Runs.draw (st1 := ?s5) (draws_ref (ann := []) tabOk (byL [] [1000001]) ieT (by kernel_rfl) ?p5) ?q5
          case p5 =>
            intro K r X hK
            simp (decide := true) (maxSteps := 2000000) (disch := first | omega | (simp only [List.length_map, List.length_cons, List.length_append, List.length_nil]; omega)) only [if_pos, go_sem, Nat.reduceAdd, Nat.reduceMul, Nat.reduceSub]
            repeat' apply And.intro
            all_goals
              refine Runs.call hB ?_
              simp (decide := true) (maxSteps := 2000000) (disch := first | omega | (simp only [List.length_map, List.length_cons, List.length_append, List.length_nil]; omega)) only [if_pos, go_sem, Nat.reduceAdd, Nat.reduceMul, Nat.reduceSub]
              repeat' apply And.intro
              all_goals
                refine Runs.call hM ?_
                simp (decide := true) (maxSteps := 2000000) (disch := first | omega | (simp only [List.length_map, List.length_cons, List.length_append, List.length_nil]; omega)) only [if_pos, go_sem, Nat.reduceAdd, Nat.reduceMul, Nat.reduceSub]
                exact hK
          case q5 =>
            simp (decide := true) (maxSteps := 2000000) only [go_sem, Nat.reduceAdd, Nat.reduceMul, Nat.reduceSub]
            exact Runs.ret_eq (by simp [edB, e1, e2, e3, e4, e5', e6, e7, e9, e10'])
set_option maxRecDepth 10000 in
include hm in
theorem sPairOk (k : GEd) (P : GPr) : Holds Try.prog 41 [edA k, prA P] [] (.v (.bool (edB k && eonZ k.p k.d P))) [] := by
  refine holds_ref (ann := []) tabOk hm (byL [] [1000002, 1000003]) Try.func41 (by kernel_rfl) rfl ?_
  simp (decide := true) only [Try.f41, go_sem, Nat.reduceAdd, Nat.reduceMul, Nat.reduceSub]
  refine Runs.call (sEdOk hm k) ?_
  simp (decide := true) only [go_sem, Nat.reduceAdd, Nat.reduceMul, Nat.reduceSub]
  refine Runs.split (fun c => ?_) (fun c => ?_)
  · simp (decide := true) only [go_sem, Nat.reduceAdd, Nat.reduceMul, Nat.reduceSub]
    refine Runs.call (l4On hm k P (ed_in c)) ?_
    simp (decide := true) only [c, go_sem, Nat.reduceAdd, Nat.reduceMul, Nat.reduceSub]
    exact Runs.ret_eq (by simp)
  · simp (decide := true) only [c, go_sem, Nat.reduceAdd, Nat.reduceMul, Nat.reduceSub]
    exact Runs.ret_eq (by simp)
set_option maxRecDepth 10000 in
include hm in
theorem iPairOk (k : GEd) (P : GPr) : Holds Try.prog 55 [edA k, prA P] [] (.v (.bool (edB k && eonZ k.p k.d P))) [] := by
  refine holds_ref (ann := []) tabOk hm (byL [] [1000002, 1000003]) Try.func55 (by kernel_rfl) rfl ?_
  simp (decide := true) only [Try.f55, go_sem, Nat.reduceAdd, Nat.reduceMul, Nat.reduceSub]
  refine Runs.call (iEdOk hm k) ?_
  simp (decide := true) only [go_sem, Nat.reduceAdd, Nat.reduceMul, Nat.reduceSub]
  refine Runs.split (fun c => ?_) (fun c => ?_)
  · simp (decide := true) only [go_sem, Nat.reduceAdd, Nat.reduceMul, Nat.reduceSub]
    refine Runs.call (isPair hm k P (ed_in c)) ?_
    simp (decide := true) only [c, go_sem, Nat.reduceAdd, Nat.reduceMul, Nat.reduceSub]
    exact Runs.ret_eq (by simp)
  · simp (decide := true) only [c, go_sem, Nat.reduceAdd, Nat.reduceMul, Nat.reduceSub]
    exact Runs.ret_eq (by simp)
end Go.Proofs.W

namespace Go.Proofs.W
open Go Go.AM Go.Proofs.G
set_option linter.unusedSimpArgs false
set_option linter.unusedVariables false
variable (hm : Try.prog.follows .mixedOrders = true)
attribute [local go_sem] edA prA cvA ptA

structure GKey where
  kind : Int
  N : List Int
  e : Int
  cv : GCv
  q : GPt
  ed : GEd
  a : GPr
def keyA (k : GKey) : A := .agg [.v (.int .i64 k.kind), .sl .sh (k.N.map intA), .v (.int .i64 k.e), .v (.int .i64 k.cv.p), .v (.int .i64 k.cv.a), .v (.int .i64 k.cv.b), .v (.int .i64 k.cv.n), .v (.int .i64 k.cv.gx), .v (.int .i64 k.cv.gy),
  .v (.int .i64 k.q.x), .v (.int .i64 k.q.y), .v (.bool k.q.far), .v (.int .i64 k.ed.p), .v (.int .i64 k.ed.d), .v (.int .i64 k.ed.l), .v (.int .i64 k.ed.bx), .v (.int .i64 k.ed.by'), .v (.int .i64 k.a.1), .v (.int .i64 k.a.2)]
attribute [local go_sem] keyA
def eqCv (k k' : GCv) : Bool := decide (k.p = k'.p) && (decide (k.a = k'.a) && (decide (k.b = k'.b) && (decide (k.n = k'.n) && (decide (k.gx = k'.gx) && decide (k.gy = k'.gy)))))
def eqPt (k k' : GPt) : Bool := decide (k.x = k'.x) && (decide (k.y = k'.y) && (k.far == k'.far))
def eqEd (k k' : GEd) : Bool := decide (k.p = k'.p) && (decide (k.d = k'.d) && (decide (k.l = k'.l) && (decide (k.bx = k'.bx) && decide (k.by' = k'.by'))))
def eqPr (k k' : GPr) : Bool := decide (k.1 = k'.1) && decide (k.2 = k'.2)
def cv0 : GCv := ⟨0, 0, 0, 0, 0, 0⟩
def pt0 : GPt := ⟨0, 0, false⟩
def ed0 : GEd := ⟨0, 0, 0, 0, 0⟩
def pr0 : GPr := (0, 0)
def noCurve (k : GKey) : Bool := eqCv k.cv cv0 && eqPt k.q pt0
def noEd (k : GKey) : Bool := eqEd k.ed ed0 && eqPr k.a pr0
def noRsa (k : GKey) : Bool := decide (k.N.length = 0) && decide (k.e = 0)
def lowD (N : List Int) : Int := N.getD 0 0
def topD (N : List Int) : Int := N.getD (N.length - 1) 0
def natB (N : List Int) : Bool := (N.all fun n => inB n 0 65535) && (decide (N.length ≤ 64) && (decide (N.length = 0) || !decide (topD N = 0)))
def bitsZ (N : List Int) : Int := if N.length = 0 then 0 else 16 * ((N.length : Int) - 1) + blen (topD N).toNat
noncomputable def keyB (k : GKey) : Bool :=
  if k.kind = 1 then noCurve k && (noEd k && (natB k.N && (inB (bitsZ k.N) 128 512 && (decide ((lowD k.N).tmod 2 = 1) && (inB k.e 3 65537 && decide (k.e.tmod 2 = 1))))))
  else if k.kind = 2 then noRsa k && (noEd k && ((curveB k.cv && onZ k.cv.p k.cv.a k.cv.b k.q) && (!k.q.far && (mulL (addZ k.cv.p k.cv.a) k.cv.n.toNat farP k.q).far)))
  else if k.kind = 3 then noRsa k && (noCurve k && (edB k.ed && eonZ k.ed.p k.ed.d k.a))
  else false
theorem getIntA {N : List Int} {i : Nat} (h : i < N.length) : (N.map intA).getD i .any = .v (.int .i64 (N.getD i 0)) := by simp [List.getD, h, intA]
theorem nat_top {N : List Int} (h : natB N = true) (h0 : N.length ≠ 0) : N.length ≤ 64 ∧ 0 < topD N ∧ topD N ≤ 65535 := by
  simp only [natB, Bool.and_eq_true, decide_eq_true_eq, Bool.or_eq_true, List.all_eq_true, Bool.not_eq_true', decide_eq_false_iff_not] at h
  obtain ⟨h1, h2, h3⟩ := h
  have hm := h1 (topD N) (by
    have : topD N = N[N.length - 1] := by simp [topD, List.getD, show N.length - 1 < N.length by omega]
    rw [this]
    exact List.getElem_mem _)
  have := inB_t hm
  omega
def snAnn : Ann := [(0, [0, 3])]
def snSt (L : List Int) (i : Nat) : St := ⟨[.sl .sh (L.map intA), .any, .any, .v (.int .i64 i), .any, .any, .any, .any, .any, .any, .any, .any, .any, .any, .any, .any, .any, .any, .any, .any, .any, .any, .any, .any, .any, .any, .any, .any, .any, .any, .any, .any, .any], [], []⟩
set_option maxRecDepth 10000 in
include hm in
theorem sNatOk (L : List Int) (h3 : L.length ≤ 9223372036854775807) : Holds Try.prog 35 [.sl .sh (L.map intA)] [] (.v (.bool (natB L))) [] := by
  refine holds_of (ann := snAnn) tabOk hm Try.func35 (by kernel_rfl) rfl ?_
  simp (decide := true) only [Try.f35, go_sem, Nat.reduceAdd, Nat.reduceMul, Nat.reduceSub]
  refine Runs.while (α := Nat) (snSt L) (fun i => L.length - i) (fun i => i ≤ L.length ∧ ((L.drop i).all fun n => inB n 0 65535) = L.all fun n => inB n 0 65535) 0 ⟨by omega, by simp⟩ ?_ ?_
  · simp [go_sem, snAnn, snSt]
  · rintro i ⟨hi1, hr⟩ ih
    simp (decide := true) only [snSt, go_sem, Nat.reduceAdd, Nat.reduceMul, Nat.reduceSub]
    refine Runs.split (fun h => ?_) (fun h => ?_)
    · have hlt : i < L.length := by simpa using h
      rw [List.drop_eq_getElem_cons hlt, List.all_cons] at hr
      simp (decide := true) (disch := first | omega | (simp only [List.length_map, List.length_cons, List.length_append, List.length_nil]; omega)) only [if_pos, go_sem, Nat.reduceAdd, Nat.reduceMul, Nat.reduceSub]
      refine Runs.call (l1In hm L[i] 0 65535) ?_
      simp (decide := true) only [go_sem, Nat.reduceAdd, Nat.reduceMul, Nat.reduceSub]
      refine Runs.split (fun h => ?_) (fun h => ?_)
      · simp only [Bool.not_eq_true'] at h
        have e : natB L = false := by rw [natB, ← hr, h]; rfl
        simp (decide := true) only [e, go_sem, Nat.reduceAdd, Nat.reduceMul, Nat.reduceSub]
        exact Runs.ret_v
      · simp only [Bool.not_eq_false'] at h
        rw [h, Bool.true_and] at hr
        simp (decide := true) (disch := first | omega | (simp only [List.length_map, List.length_cons, List.length_append, List.length_nil]; omega)) only [if_pos, go_sem, Nat.reduceAdd, Nat.reduceMul, Nat.reduceSub]
        refine ih (i + 1) _ (by omega) ⟨by omega, hr⟩ ?_
        simp [go_sem, snAnn, snSt]
    · have hge : i = L.length := by simp at h; omega
      subst hge
      rw [List.drop_length, List.all_nil] at hr
      simp (decide := true) only [go_sem, Nat.reduceAdd, Nat.reduceMul, Nat.reduceSub]
      refine Runs.split (fun h => ?_) (fun h => ?_)
      · have hle : L.length ≤ 64 := by simp at h; omega
        simp (decide := true) only [go_sem, Nat.reduceAdd, Nat.reduceMul, Nat.reduceSub]
        refine Runs.split (fun h => ?_) (fun h => ?_)
        · have h0 : L.length = 0 := by simp at h; exact List.length_eq_zero_iff.mpr h
          simp (decide := true) only [go_sem, Nat.reduceAdd, Nat.reduceMul, Nat.reduceSub]
          exact Runs.ret_eq (by simp [natB, ← hr, hle, h0])
        · have h0 : L.length ≠ 0 := by simp at h; intro e; exact h (List.length_eq_zero_iff.mp e)
          have ht : ((L.length : Int) - 1).toNat = L.length - 1 := by omega
          have hg := getIntA (N := L) (i := L.length - 1) (by omega)
          have hb : decide (0 ≤ (L.length : Int) - 1 ∧ (L.length : Int) - 1 < L.length) = true := by simp; omega
          simp (decide := true) (disch := first | omega | (simp only [List.length_map, List.length_cons, List.length_append, List.length_nil]; omega)) only [ht, hg, hb, if_pos, go_sem, Nat.reduceAdd, Nat.reduceMul, Nat.reduceSub]
          exact Runs.ret_eq (by simp [natB, ← hr, hle, h0, topD])
      · have hle : ¬ L.length ≤ 64 := by simp at h; omega
        simp (decide := true) only [go_sem, Nat.reduceAdd, Nat.reduceMul, Nat.reduceSub]
        exact Runs.ret_eq (by simp [natB, hle])
set_option maxRecDepth 10000 in
include hm in
theorem iNatOk (L : List Int) (h3 : L.length ≤ 9223372036854775807) : Holds Try.prog 50 [.sl .sh (L.map intA)] [] (.v (.bool (natB L))) [] := by
  refine holds_of (ann := []) tabOk hm Try.func50 (by kernel_rfl) rfl ?_
  simp (decide := true) only [Try.f50, go_sem, Nat.reduceAdd, Nat.reduceMul, Nat.reduceSub]
  refine Runs.split (fun h => ?_) (fun h => ?_)
  · have hle : L.length ≤ 64 := by simp at h; omega
    simp (decide := true) only [go_sem, Nat.reduceAdd, Nat.reduceMul, Nat.reduceSub]
    refine Runs.call (allWithin hm L 0 65535 h3) ?_
    simp (decide := true) only [go_sem, Nat.reduceAdd, Nat.reduceMul, Nat.reduceSub]
    refine Runs.split (fun ha => ?_) (fun ha => ?_)
    · simp (decide := true) only [go_sem, Nat.reduceAdd, Nat.reduceMul, Nat.reduceSub]
      refine Runs.split (fun h => ?_) (fun h => ?_)
      · have h0 : L.length = 0 := by simp at h; exact List.length_eq_zero_iff.mpr h
        simp (decide := true) only [go_sem, Nat.reduceAdd, Nat.reduceMul, Nat.reduceSub]
        exact Runs.ret_eq (by simp only [natB, ha, hle, h0]; simp)
      · have h0 : L.length ≠ 0 := by simp at h; intro e; exact h (List.length_eq_zero_iff.mp e)
        have ht : ((L.length : Int) - 1).toNat = L.length - 1 := by omega
        have hg := getIntA (N := L) (i := L.length - 1) (by omega)
        have hb : decide (0 ≤ (L.length : Int) - 1 ∧ (L.length : Int) - 1 < L.length) = true := by simp; omega
        simp (decide := true) (disch := first | omega | (simp only [List.length_map, List.length_cons, List.length_append, List.length_nil]; omega)) only [ht, hg, hb, if_pos, go_sem, Nat.reduceAdd, Nat.reduceMul, Nat.reduceSub]
        exact Runs.ret_eq (by simp only [natB, ha, hle, h0, topD]; simp)
    · simp (decide := true) only [go_sem, Nat.reduceAdd, Nat.reduceMul, Nat.reduceSub]
      exact Runs.ret_eq (by simp only [natB, ha]; rfl)
  · have hle : ¬ L.length ≤ 64 := by simp at h; omega
    simp (decide := true) only [go_sem, Nat.reduceAdd, Nat.reduceMul, Nat.reduceSub]
    exact Runs.ret_eq (by simp [natB, hle])
def lbAnn : Ann := [(0, [3, 4])]
def lbSt (p : Nat × Int) : St := ⟨[.any, .any, .any, .v (.int .i64 p.2), .v (.int .i64 p.1), .any, .any, .any, .any, .any, .any, .any, .any, .any, .any, .any, .any, .any, .any, .any, .any, .any, .any, .any, .any], [], []⟩
set_option maxRecDepth 10000 in
include hm in
theorem l1Bits (L : List Int) (h : natB L = true) : Holds Try.prog 37 [.sl .sh (L.map intA)] [] (.v (.int .i64 (bitsZ L))) [] := by
  refine holds_of (ann := lbAnn) tabOk hm Try.func37 (by kernel_rfl) rfl ?_
  by_cases h0 : L.length = 0
  · simp (decide := true) only [Try.f37, h0, go_sem, Nat.reduceAdd, Nat.reduceMul, Nat.reduceSub]
    exact Runs.ret_eq (by simp [bitsZ, h0])
  · obtain ⟨l1, l2, l3⟩ := nat_top h h0
    have ht : ((L.length : Int) - 1).toNat = L.length - 1 := by omega
    have hg := getIntA (N := L) (i := L.length - 1) (by omega)
    have hb : decide (0 ≤ (L.length : Int) - 1 ∧ (L.length : Int) - 1 < L.length) = true := by simp; omega
    have hz : decide ((L.length : Int) = 0) = false := by simp; intro e; exact h0 (by simp [e])
    rw [show L.getD (L.length - 1) 0 = topD L from rfl] at hg
    obtain ⟨x0, hx0⟩ := nat_of (show 0 ≤ topD L by omega)
    have hbits : bitsZ L = 16 * ((L.length : Int) - 1) + blen x0 := by simp [bitsZ, h0, hx0]
    have hl : blen x0 ≤ 16 := blen_le (by omega)
    rw [hbits]
    simp (decide := true) (disch := first | omega | (simp only [List.length_map, List.length_cons, List.length_append, List.length_nil]; omega)) only [Try.f37, ht, hg, hb, hz, hx0, if_pos, go_sem, Nat.reduceAdd, Nat.reduceMul, Nat.reduceSub]
    refine Runs.while (α := Nat × Int) lbSt (fun p => p.1) (fun p => p.1 ≤ x0 ∧ 0 ≤ p.2 ∧ p.2 + blen p.1 = 16 * ((L.length : Int) - 1) + blen x0) (x0, 16 * ((L.length : Int) - 1)) ⟨Nat.le_refl _, by simp only; omega, rfl⟩ ?_ ?_
    · simp [go_sem, lbAnn, lbSt]
    · rintro ⟨x, r⟩ ⟨hx, hr0, hr⟩ ih
      simp only at hx hr0 hr
      simp (decide := true) only [lbSt, go_sem, Nat.reduceAdd, Nat.reduceMul, Nat.reduceSub]
      refine Runs.split (fun h => ?_) (fun h => ?_)
      · have hs : x ≠ 0 := by simp at h; omega
        rw [blen_pos hs] at hr
        have e4 := tdiv_nat x 2
        have w3 : IntKind.i64.wrap ((x / 2 : Nat) : Int) = ((x / 2 : Nat) : Int) := wrap_i64 (by omega) (by omega)
        simp (decide := true) (disch := first | omega | (simp only [List.length_map, List.length_cons, List.length_append, List.length_nil]; omega)) only [e4, w3, if_pos, go_sem, Nat.reduceAdd, Nat.reduceMul, Nat.reduceSub]
        refine ih (x / 2, r + 1) _ (by simp only; omega) ⟨by simp only; omega, by simp only; omega, by simp only; omega⟩ ?_
        have w4 : IntKind.i64.wrap ((x : Int) / 2) = (x : Int) / 2 := w3
        simp [go_sem, lbAnn, lbSt, w4]
      · have hs : x = 0 := by simp at h; omega
        subst hs
        rw [blen_zero] at hr
        simp (decide := true) only [go_sem, Nat.reduceAdd, Nat.reduceMul, Nat.reduceSub]
        exact Runs.ret_eq (by rw [← hr]; simp)
set_option maxRecDepth 10000 in
include hm in
theorem natBits (L : List Int) (h : natB L = true) : Holds Try.prog 52 [.sl .sh (L.map intA)] [] (.v (.int .i64 (bitsZ L))) [] := by
  refine holds_of (ann := []) tabOk hm Try.func52 (by kernel_rfl) rfl ?_
  by_cases h0 : L.length = 0
  · simp (decide := true) only [Try.f52, h0, go_sem, Nat.reduceAdd, Nat.reduceMul, Nat.reduceSub]
    exact Runs.ret_eq (by simp [bitsZ, h0])
  · obtain ⟨l1, l2, l3⟩ := nat_top h h0
    have ht : ((L.length : Int) - 1).toNat = L.length - 1 := by omega
    have hg := getIntA (N := L) (i := L.length - 1) (by omega)
    have hb : decide (0 ≤ (L.length : Int) - 1 ∧ (L.length : Int) - 1 < L.length) = true := by simp; omega
    have hz : decide ((L.length : Int) = 0) = false := by simp; intro e; exact h0 (by simp [e])
    rw [show L.getD (L.length - 1) 0 = topD L from rfl] at hg
    obtain ⟨x0, hx0⟩ := nat_of (show 0 ≤ topD L by omega)
    have hbits : bitsZ L = 16 * ((L.length : Int) - 1) + blen x0 := by simp [bitsZ, h0, hx0]
    have hl : blen x0 ≤ 16 := blen_le (by omega)
    rw [hbits]
    simp (decide := true) (disch := first | omega | (simp only [List.length_map, List.length_cons, List.length_append, List.length_nil]; omega)) only [Try.f52, ht, hg, hb, hz, hx0, if_pos, go_sem, Nat.reduceAdd, Nat.reduceMul, Nat.reduceSub]
    refine Runs.call (bitsLen hm x0 (by omega)) ?_
    simp (decide := true) (disch := first | omega | (simp only [List.length_map, List.length_cons, List.length_append, List.length_nil]; omega)) only [if_pos, go_sem, Nat.reduceAdd, Nat.reduceMul, Nat.reduceSub]
    exact Runs.ret_v
def seqAnn : Ann := [(0, [0, 1, 11, 12, 13])]
def seqSt (L M : List Int) (n i : Nat) : St := ⟨[.sl .sh (L.map intA), .sl .sh (M.map intA), .any, .any, .any, .any, .any, .any, .any, .any, .any, .sl .sh (L.map intA), .v (.int .i64 n), .v (.int .i64 i), .any, .any, .any, .any, .any, .any, .any, .any, .any, .any, .any, .any], [], []⟩
def seqS : Sched := .take 0 (.take 1 (.take 2 (.take 4 (.take 5 (.take 6 (.ld 3 (.ld 7 (.take 8 .fin))))))))
attribute [local go_sem] seqS
set_option maxRecDepth 10000 in
include hm in
theorem equalInt (L M : List Int) (h3 : L.length ≤ 9223372036854775807) (h4 : M.length ≤ 9223372036854775807) : Holds Try.prog 73 [.sl .sh (L.map intA), .sl .sh (M.map intA)] [] (.v (.bool (decide (L = M)))) [] := by
  refine holds_of (ann := seqAnn) tabOk hm Try.func73 (by kernel_rfl) rfl ?_
  simp (decide := true) only [Try.f73, go_sem, Nat.reduceAdd, Nat.reduceMul, Nat.reduceSub]
  refine Runs.split (fun h => ?_) (fun h => ?_)
  · have hne : L ≠ M := by intro e; subst e; simp at h
    simp (decide := true) only [go_sem, Nat.reduceAdd, Nat.reduceMul, Nat.reduceSub]
    exact Runs.ret_eq (by simp [hne])
  · have hlen : L.length = M.length := by simp at h; omega
    simp (decide := true) only [go_sem, Nat.reduceAdd, Nat.reduceMul, Nat.reduceSub]
    refine Runs.while (α := Nat) (seqSt L M L.length) (fun i => L.length - i) (fun i => i ≤ L.length ∧ L.take i = M.take i) 0 ⟨by omega, by simp⟩ ?_ ?_
    · simp [go_sem, seqAnn, seqSt]
    · rintro i ⟨hi, he⟩ ih
      simp (decide := true) only [seqSt, go_sem, Nat.reduceAdd, Nat.reduceMul, Nat.reduceSub]
      refine Runs.split (fun h => ?_) (fun h => ?_)
      · have hlt : i < L.length := by simpa using h
        have hlt' : i < M.length := by omega
        simp (decide := true) only [go_sem, Nat.reduceAdd, Nat.reduceMul, Nat.reduceSub]
        refine Runs.draw (st1 := ?s1) (draws_by (ann := []) tabOk seqS (by kernel_rfl) ?p1) ?q1
        case p1 =>
          intro K r X hK
          simp (decide := true) (disch := first | omega | (simp only [List.length_map, List.length_cons, List.length_append, List.length_nil]; omega)) only [if_pos, go_sem, Nat.reduceAdd, Nat.reduceMul, Nat.reduceSub]
          exact hK
        case q1 =>
          simp (decide := true) only [go_sem, Nat.reduceAdd, Nat.reduceMul, Nat.reduceSub]
          refine Runs.split (fun h => ?_) (fun h => ?_)
          · have hne : L ≠ M := by
              intro e
              subst e
              simp at h
            simp (decide := true) only [go_sem, Nat.reduceAdd, Nat.reduceMul, Nat.reduceSub]
            exact Runs.ret_eq (by simp [hne])
          · have hx : L[i] = M[i] := by simpa using h
            simp (decide := true) (disch := first | omega | (simp only [List.length_map, List.length_cons, List.length_append, List.length_nil]; omega)) only [if_pos, go_sem, Nat.reduceAdd, Nat.reduceMul, Nat.reduceSub]
            refine ih (i + 1) _ (by omega) ⟨by omega, by rw [List.take_succ_eq_append_getElem hlt, List.take_succ_eq_append_getElem hlt', he, hx]⟩ ?_
            simp [go_sem, seqAnn, seqSt]
      · have hge : i = L.length := by simp at h; omega
        subst hge
        rw [List.take_length, List.take_of_length_le (by omega)] at he
        simp (decide := true) only [go_sem, Nat.reduceAdd, Nat.reduceMul, Nat.reduceSub]
        exact Runs.ret_eq (by simp [he])
theorem bv {a b : Bool} (h : a = true ↔ b = true) : A.v (.bool a) = A.v (.bool b) := by
  have : a = b := by cases a <;> cases b <;> simp_all
  rw [this]
set_option maxRecDepth 10000 in
include hm in
theorem noCurveS (k : GKey) : Holds Try.prog 33 [keyA k] [] (.v (.bool (noCurve k))) [] := by
  refine holds_ref (ann := []) tabOk hm (byL [] [1000001]) Try.func33 (by kernel_rfl) rfl ?_
  simp (decide := true) (maxSteps := 2000000) only [Try.f33, go_sem, Nat.reduceAdd, Nat.reduceMul, Nat.reduceSub]
  refine Runs.split (fun h => ?_) (fun h => ?_)
  · simp (decide := true) (maxSteps := 2000000) only [go_sem, Nat.reduceAdd, Nat.reduceMul, Nat.reduceSub]
    exact Runs.ret_eq (bv (by simp [noCurve, eqCv, eqPt, cv0, pt0] at h ⊢; grind))
  · simp (decide := true) (maxSteps := 2000000) only [go_sem, Nat.reduceAdd, Nat.reduceMul, Nat.reduceSub]
    exact Runs.ret_eq (bv (by simp [noCurve, eqCv, eqPt, cv0, pt0] at h ⊢; grind))
set_option maxRecDepth 10000 in
include hm in
theorem noEdS (k : GKey) : Holds Try.prog 34 [keyA k] [] (.v (.bool (noEd k))) [] := by
  refine holds_ref (ann := []) tabOk hm (byL [] [1000001]) Try.func34 (by kernel_rfl) rfl ?_
  simp (decide := true) (maxSteps := 2000000) only [Try.f34, go_sem, Nat.reduceAdd, Nat.reduceMul, Nat.reduceSub]
  refine Runs.split (fun h => ?_) (fun h => ?_)
  · simp (decide := true) (maxSteps := 2000000) only [go_sem, Nat.reduceAdd, Nat.reduceMul, Nat.reduceSub]
    exact Runs.ret_eq (bv (by simp [noEd, eqEd, eqPr, ed0, pr0] at h ⊢; grind))
  · simp (decide := true) (maxSteps := 2000000) only [go_sem, Nat.reduceAdd, Nat.reduceMul, Nat.reduceSub]
    exact Runs.ret_eq (bv (by simp [noEd, eqEd, eqPr, ed0, pr0] at h ⊢; grind))
set_option maxRecDepth 10000 in
include hm in
theorem noRsaS (k : GKey) : Holds Try.prog 38 [keyA k] [] (.v (.bool (noRsa k))) [] := by
  refine holds_ref (ann := []) tabOk hm (byL [] [1000001]) Try.func38 (by kernel_rfl) rfl ?_
  simp (decide := true) (maxSteps := 2000000) only [Try.f38, go_sem, Nat.reduceAdd, Nat.reduceMul, Nat.reduceSub]
  refine Runs.split (fun h => ?_) (fun h => ?_)
  · simp (decide := true) (maxSteps := 2000000) only [go_sem, Nat.reduceAdd, Nat.reduceMul, Nat.reduceSub]
    exact Runs.ret_eq (bv (by simp [noRsa] at h ⊢; simp [h]))
  · simp (decide := true) (maxSteps := 2000000) only [go_sem, Nat.reduceAdd, Nat.reduceMul, Nat.reduceSub]
    exact Runs.ret_eq (bv (by simp [noRsa] at h ⊢; grind))
def keySame (k k' : GKey) : Bool := decide (k.kind = k'.kind) && (decide (k.N = k'.N) && (decide (k.e = k'.e) && (eqCv k.cv k'.cv && (eqPt k.q k'.q && (eqEd k.ed k'.ed && eqPr k.a k'.a)))))
set_option maxRecDepth 10000 in
set_option maxHeartbeats 4000000 in
include hm in
theorem sameK (k k' : GKey) (h3 : k.N.length ≤ 9223372036854775807) (h4 : k'.N.length ≤ 9223372036854775807) : Holds Try.prog 49 [keyA k, keyA k'] [] (.v (.bool (keySame k k'))) [] := by
  refine holds_ref (ann := []) tabOk hm (byL [] [1000002, 1000003]) Try.func49 (by kernel_rfl) rfl ?_
  have hE := equalInt hm k.N k'.N h3 h4
  simp (decide := true) (maxSteps := 2000000) only [Try.f49, go_sem, Nat.reduceAdd, Nat.reduceMul, Nat.reduceSub]
  refine Runs.split (fun c1 => ?_) (fun c1 => ?_)
  case _ =>
    simp (decide := true) (maxSteps := 2000000) only [go_sem, Nat.reduceAdd, Nat.reduceMul, Nat.reduceSub]
    refine Runs.call hE ?_
    simp (decide := true) (maxSteps := 2000000) only [go_sem, Nat.reduceAdd, Nat.reduceMul, Nat.reduceSub]
    refine Runs.split (fun c2 => ?_) (fun c2 => ?_)
    case _ =>
      simp (decide := true) (maxSteps := 2000000) only [go_sem, Nat.reduceAdd, Nat.reduceMul, Nat.reduceSub]
      refine Runs.split (fun c3 => ?_) (fun c3 => ?_)
      case _ =>
        simp (decide := true) (maxSteps := 2000000) only [go_sem, Nat.reduceAdd, Nat.reduceMul, Nat.reduceSub]
        refine Runs.split (fun c4 => ?_) (fun c4 => ?_)
        case _ =>
          simp (decide := true) (maxSteps := 2000000) only [go_sem, Nat.reduceAdd, Nat.reduceMul, Nat.reduceSub]
          refine Runs.split (fun c5 => ?_) (fun c5 => ?_)
          case _ =>
            simp (decide := true) (maxSteps := 2000000) only [go_sem, Nat.reduceAdd, Nat.reduceMul, Nat.reduceSub]
            refine Runs.split (fun c6 => ?_) (fun c6 => ?_)
            case _ =>
              simp (decide := true) (maxSteps := 2000000) only [go_sem, Nat.reduceAdd, Nat.reduceMul, Nat.reduceSub]
              exact Runs.ret_eq (bv (by simp [keySame, eqCv, eqPt, eqEd, eqPr] at c1 c2 c3 c4 c5 c6 ⊢; simp [c1, c2, c3, c4, c5, c6]))
            simp (decide := true) (maxSteps := 2000000) only [go_sem, Nat.reduceAdd, Nat.reduceMul, Nat.reduceSub]
            exact Runs.ret_eq (bv (by simp [keySame, eqCv, eqPt, eqEd, eqPr] at c6 ⊢; grind))
          simp (decide := true) (maxSteps := 2000000) only [go_sem, Nat.reduceAdd, Nat.reduceMul, Nat.reduceSub]
          exact Runs.ret_eq (bv (by simp [keySame, eqCv, eqPt, eqEd, eqPr] at c5 ⊢; grind))
        simp (decide := true) (maxSteps := 2000000) only [go_sem, Nat.reduceAdd, Nat.reduceMul, Nat.reduceSub]
        exact Runs.ret_eq (bv (by simp [keySame, eqCv, eqPt, eqEd, eqPr] at c4 ⊢; grind))
      simp (decide := true) (maxSteps := 2000000) only [go_sem, Nat.reduceAdd, Nat.reduceMul, Nat.reduceSub]
      exact Runs.ret_eq (bv (by simp [keySame, eqCv, eqPt, eqEd, eqPr] at c3 ⊢; grind))
    simp (decide := true) (maxSteps := 2000000) only [go_sem, Nat.reduceAdd, Nat.reduceMul, Nat.reduceSub]
    exact Runs.ret_eq (bv (by simp [keySame, eqCv, eqPt, eqEd, eqPr] at c2 ⊢; grind))
  simp (decide := true) (maxSteps := 2000000) only [go_sem, Nat.reduceAdd, Nat.reduceMul, Nat.reduceSub]
  exact Runs.ret_eq (bv (by simp [keySame] at c1 ⊢; grind))
end Go.Proofs.W

namespace Go.Proofs.W
open Go Go.AM
set_option linter.unusedSimpArgs false
set_option linter.unusedVariables false
variable (hm : Try.prog.follows .mixedOrders = true)

def ib (n : Int) : Int := IntKind.u8.wrap n
def smallK (n : Int) (k : Nat) : Bool := decide (-128 ≤ n / 256 ^ k) && decide (n / 256 ^ k ≤ 127)
def firstK (n : Int) : Nat → Nat → Nat
  | 0, k => k
  | f + 1, k => if smallK n k = true then k else firstK n f (k + 1)
def kB (n : Int) : Nat := firstK n 7 0
/-- The bytes of a number from a place on, the highest first. -/
def tailB (n : Int) (k : Nat) : List Int := (List.range (k + 1)).reverse.map fun i => ib (n / 256 ^ i)
def intB (n : Int) : List Int := tailB n (kB n)
theorem tailB_succ (n : Int) (k : Nat) : tailB n (k + 1) = ib (n / 256 ^ (k + 1)) :: tailB n k := by
  simp [tailB, List.range_succ]
theorem tailB_length (n : Int) (k : Nat) : (tailB n k).length = k + 1 := by simp [tailB]
theorem firstK_le (n : Int) : ∀ f k, firstK n f k ≤ k + f
  | 0, k => by simp [firstK]
  | f + 1, k => by
    simp only [firstK]
    split
    · omega
    · have := firstK_le n f (k + 1); omega
theorem kB_le (n : Int) : kB n ≤ 7 := by have := firstK_le n 7 0; unfold kB; omega
theorem small7 {n : Int} (h1 : -9223372036854775808 ≤ n) (h2 : n < 9223372036854775808) : smallK n 7 = true := by
  have : (256 : Int) ^ 7 = 72057594037927936 := rfl
  simp only [smallK, this, Bool.and_eq_true, decide_eq_true_eq]
  omega
theorem div256 (n : Int) (k : Nat) : n / 256 ^ k / 256 = n / 256 ^ (k + 1) := by
  rw [Int.pow_succ, Int.ediv_ediv_of_nonneg (Int.pow_nonneg (by omega))]
theorem shr8 (n : Int) : n.fdiv (2 ^ min (Int.toNat 8) 64) = n / 256 := by
  show n.fdiv 256 = n / 256
  exact Int.fdiv_eq_ediv_of_nonneg _ (by omega)
theorem divK_bound {n : Int} (h1 : -9223372036854775808 ≤ n) (h2 : n < 9223372036854775808) (k : Nat) : -9223372036854775808 ≤ n / 256 ^ k ∧ n / 256 ^ k < 9223372036854775808 := by
  have hp : (0 : Int) < 256 ^ k := Int.pow_pos (by omega)
  refine ⟨?_, ?_⟩
  · rw [Int.le_ediv_iff_mul_le hp]
    have : (1 : Int) ≤ 256 ^ k := hp
    calc -9223372036854775808 * 256 ^ k ≤ -9223372036854775808 * 1 := Int.mul_le_mul_of_nonpos_left (by omega) this
      _ ≤ n := by omega
  · rw [Int.ediv_lt_iff_lt_mul hp]
    have : (1 : Int) ≤ 256 ^ k := hp
    calc n < 9223372036854775808 * 1 := by omega
      _ ≤ 9223372036854775808 * 256 ^ k := Int.mul_le_mul_of_nonneg_left this (by omega)

def l7Len (n : Nat) : List Int := if n < 128 then [ib n] else if n < 256 then [129, ib n] else [130, ib (n / 256 : Nat), ib n]
theorem l7Len_length (n : Nat) : (l7Len n).length ≤ 3 := by
  unfold l7Len
  split
  · simp
  · split <;> simp
theorem shr8n (n : Nat) : ((n : Int)).fdiv (2 ^ min (Int.toNat 8) 64) = ((n / 256 : Nat) : Int) := by rw [shr8]; omega
theorem firstK_step {n : Int} {k : Nat} (h : k < 7) : firstK n (7 - k) k = if smallK n k = true then k else firstK n (7 - (k + 1)) (k + 1) := by
  rw [show 7 - k = (7 - (k + 1)) + 1 by omega]
  rfl
theorem u8l (l : List Int) : (l.map u8A).length = l.length := List.length_map _
theorem smallK_iff {n : Int} {k : Nat} : smallK n k = true ↔ -128 ≤ n / 256 ^ k ∧ n / 256 ^ k ≤ 127 := by simp [smallK]
def sIbAnn : Ann := [(0, [0, 3])]
def sIbSt (n : Int) (k : Nat) : St := ⟨[.v (.int .i64 (n / 256 ^ k)), .any, .any, .ms (.l 0) 0 (k + 1) (k + 1), .any, .any, .any, .any, .any, .any, .any, .any, .any, .any, .any, .any, .any, .any, .any, .any, .any], [(0, ⟨true, 1, false, (tailB n k).map u8A⟩)], []⟩
set_option maxRecDepth 10000 in
include hm in
theorem sIntBytes (n : Int) (h1 : -9223372036854775808 ≤ n) (h2 : n < 9223372036854775808) : Holds Try.prog 70 [.v (.int .i64 n)] [] (.sl (.ow 1) ((intB n).map u8A)) [] := by
  refine holds_of (ann := sIbAnn) tabOk hm Try.func70 (by kernel_rfl) rfl ?_
  simp (decide := true) only [Try.f70, go_sem, Nat.reduceAdd, Nat.reduceMul, Nat.reduceSub]
  refine Runs.while (α := Nat) (sIbSt n) (fun k => 8 - k) (fun k => k ≤ 7 ∧ firstK n (7 - k) k = kB n) 0 ⟨by omega, rfl⟩ ?_ ?_
  · simp [go_sem, sIbAnn, sIbSt, tailB, ib]
  · rintro k ⟨hk, hr⟩ ih
    have hlen := tailB_length n k
    have htk : ((tailB n k).map u8A).take (k + 1) = (tailB n k).map u8A := List.take_of_length_le (by simp [hlen])
    have hb := divK_bound h1 h2 k
    have stop : smallK n k = true → kB n = k := fun hs => by
      rw [← hr]
      rcases Nat.lt_or_ge k 7 with h | h
      · rw [firstK_step h, if_pos hs]
      · rw [show 7 - k = 0 by omega]; rfl
    have go : smallK n k = false → k < 7 ∧ firstK n (7 - (k + 1)) (k + 1) = kB n := fun hs => by
      have hk7 : k < 7 := by
        rcases Nat.lt_or_ge k 7 with h | h
        · exact h
        · have : k = 7 := by omega
          subst this
          rw [small7 h1 h2] at hs; cases hs
      refine ⟨hk7, ?_⟩
      rw [← hr, firstK_step hk7, hs]
      rfl
    simp (decide := true) only [sIbSt, hlen, go_sem, Nat.reduceAdd, Nat.reduceMul, Nat.reduceSub]
    refine Runs.split (fun h => ?_) (fun h => ?_)
    · simp only [decide_eq_true_eq] at h
      obtain ⟨g1, g2⟩ := go (by rw [Bool.eq_false_iff]; intro hs; rw [smallK_iff] at hs; omega)
      simp (decide := true) (disch := first | omega | (simp only [List.length_map, List.length_cons, List.length_append, List.length_nil]; omega)) only [shr8, div256, hlen, htk, if_pos, go_sem, Nat.reduceAdd, Nat.reduceMul, Nat.reduceSub]
      refine ih (k + 1) _ (by omega) ⟨by omega, g2⟩ ?_
      simp [go_sem, sIbAnn, sIbSt, tailB_succ, hlen, ib, Nat.add_comm]
    · simp only [decide_eq_false_iff_not] at h
      simp (decide := true) only [go_sem, Nat.reduceAdd, Nat.reduceMul, Nat.reduceSub]
      refine Runs.split (fun h' => ?_) (fun h' => ?_)
      · simp only [decide_eq_true_eq] at h'
        obtain ⟨g1, g2⟩ := go (by rw [Bool.eq_false_iff]; intro hs; rw [smallK_iff] at hs; omega)
        simp (decide := true) (disch := first | omega | (simp only [List.length_map, List.length_cons, List.length_append, List.length_nil]; omega)) only [shr8, div256, hlen, htk, if_pos, go_sem, Nat.reduceAdd, Nat.reduceMul, Nat.reduceSub]
        refine ih (k + 1) _ (by omega) ⟨by omega, g2⟩ ?_
        simp [go_sem, sIbAnn, sIbSt, tailB_succ, hlen, ib, Nat.add_comm]
      · simp only [decide_eq_false_iff_not] at h'
        have e := stop (by rw [smallK_iff]; omega)
        simp (decide := true) only [hlen, u8l, List.take_length, go_sem, Nat.reduceAdd, Nat.reduceMul, Nat.reduceSub]
        refine Runs.ret_eq ?_
        rw [intB, e]
def iIbAnn : Ann := [(0, [0, 3]), (2, [0, 4, 5])]
def iIbSt (n : Int) (k : Nat) : St := ⟨[.v (.int .i64 n), .any, .any, .v (.int .i64 ((k + 1 : Nat) : Int)), .any, .any, .any, .any, .any, .any, .any, .any, .any, .any, .any, .any, .any, .any, .any, .any, .any, .any, .any, .any, .any, .any, .any, .any, .any, .any, .any, .any, .any, .any, .any, .any, .any, .any, .any, .any, .any, .any], [], []⟩
def iIbL (n : Int) (m j : Nat) : List Int := ((List.range m).reverse.take j).map fun i => ib (n / 256 ^ i)
def iIbSt2 (n : Int) (m j : Nat) : St := ⟨[.v (.int .i64 n), .any, .any, .any, .ms (.l 0) 0 j j, .v (.int .i64 ((m : Int) - j - 1)), .any, .any, .any, .any, .any, .any, .any, .any, .any, .any, .any, .any, .any, .any, .any, .any, .any, .any, .any, .any, .any, .any, .any, .any, .any, .any, .any, .any, .any, .any, .any, .any, .any, .any, .any, .any], [(0, ⟨true, 1, false, (iIbL n m j).map u8A⟩)], []⟩
theorem iIbL_length (n : Int) {m j : Nat} (h : j ≤ m) : (iIbL n m j).length = j := by simp [iIbL]; omega
theorem iIbL_succ (n : Int) {m j : Nat} (h : j < m) : iIbL n m (j + 1) = iIbL n m j ++ [ib (n / 256 ^ (m - j - 1))] := by
  unfold iIbL
  rw [List.take_succ_eq_append_getElem (by simpa using h), List.map_append]
  simp [List.getElem_reverse, show m - 1 - j = m - j - 1 by omega]
theorem iIbL_all (n : Int) (k : Nat) : iIbL n (k + 1) (k + 1) = tailB n k := by
  unfold iIbL tailB
  rw [List.take_of_length_le (by simp)]
theorem shrK (n : Int) (k : Nat) (h : 8 * k ≤ 64) : n.fdiv (2 ^ min (8 * k) 64) = n / 256 ^ k := by
  have e : ∀ k : Nat, (2 : Int) ^ (8 * k) = 256 ^ k := by
    intro k
    induction k with
    | zero => rfl
    | succ k ih =>
      rw [show 8 * (k + 1) = 8 * k + 1 + 1 + 1 + 1 + 1 + 1 + 1 + 1 by omega]
      simp only [Int.pow_succ]
      rw [ih]
      simp only [Int.mul_assoc]
      rfl
  rw [Nat.min_eq_left h, e, Int.fdiv_eq_ediv_of_nonneg _ (Int.le_of_lt (Int.pow_pos (by omega)))]
theorem pow28 (k : Nat) : (2 : Int) ^ (8 * k) = 256 ^ k := by
  induction k with
  | zero => rfl
  | succ k ih =>
    rw [show 8 * (k + 1) = 8 * k + 1 + 1 + 1 + 1 + 1 + 1 + 1 + 1 by omega]
    simp only [Int.pow_succ]
    rw [ih]
    simp only [Int.mul_assoc]
    rfl
/-- What is left behind 8 k + 7 bits: nothing, if the number is small there. -/
theorem shr7 (n : Int) (k : Nat) (h : k ≤ 7) : n.fdiv (2 ^ min (8 * (k + 1) - 1) 64) = n / 256 ^ k / 128 := by
  rw [Nat.min_eq_left (by omega), show 8 * (k + 1) - 1 = 8 * k + 1 + 1 + 1 + 1 + 1 + 1 + 1 by omega]
  rw [Int.fdiv_eq_ediv_of_nonneg _ (Int.le_of_lt (Int.pow_pos (by omega)))]
  rw [Int.ediv_ediv_of_nonneg (Int.pow_nonneg (by omega))]
  congr 1
  simp only [Int.pow_succ]
  rw [pow28]
  simp only [Int.mul_assoc]
  rfl
set_option maxRecDepth 10000 in
include hm in
theorem iIntBytes (n : Int) (h1 : -9223372036854775808 ≤ n) (h2 : n < 9223372036854775808) : Holds Try.prog 82 [.v (.int .i64 n)] [] (.sl (.ow 1) ((intB n).map u8A)) [] := by
  refine holds_of (ann := iIbAnn) tabOk hm Try.func82 (by kernel_rfl) rfl ?_
  simp (decide := true) only [Try.f82, go_sem, Nat.reduceAdd, Nat.reduceMul, Nat.reduceSub]
  refine Runs.while (α := Nat) (iIbSt n) (fun k => 8 - k) (fun k => k ≤ 7 ∧ firstK n (7 - k) k = kB n) 0 ⟨by omega, rfl⟩ ?_ ?_
  · simp [go_sem, iIbAnn, iIbSt]
  · rintro k ⟨hk, hr⟩ ih
    have hb := divK_bound h1 h2 k
    have stop : smallK n k = true → kB n = k := fun hs => by
      rw [← hr]
      rcases Nat.lt_or_ge k 7 with h | h
      · rw [firstK_step h, if_pos hs]
      · rw [show 7 - k = 0 by omega]; rfl
    have go : k < 7 → smallK n k = false → firstK n (7 - (k + 1)) (k + 1) = kB n := fun hk7 hs => by
      rw [← hr, firstK_step hk7, hs]
      rfl
    have w1 : IntKind.i64.wrap (8 * ((k + 1 : Nat) : Int)) = ((8 * (k + 1) : Nat) : Int) := by rw [wrap_i64 (by omega) (by omega)]; omega
    have w2 : IntKind.i64.wrap (((8 * (k + 1) : Nat) : Int) - 1) = ((8 * (k + 1) - 1 : Nat) : Int) := by rw [wrap_i64 (by omega) (by omega)]; omega
    simp (decide := true) only [iIbSt, go_sem, Nat.reduceAdd, Nat.reduceMul, Nat.reduceSub]
    have hN := shr7 n k hk
    refine Runs.split (fun h => ?_) (fun h => ?_)
    · simp only [decide_eq_true_eq] at h
      have hk7 : k < 7 := by omega
      simp (decide := true) only [w1, w2, go_sem, Nat.reduceAdd, Nat.reduceMul, Nat.reduceSub]
      refine Runs.chk (by simp <;> omega) ?_
      simp (decide := true) only [hN, go_sem, Nat.reduceAdd, Nat.reduceMul, Nat.reduceSub]
      refine Runs.split (fun h0 => ?_) (fun h0 => ?_)
      · simp only [Bool.not_eq_true', decide_eq_false_iff_not] at h0
        simp (decide := true) only [w1, w2, go_sem, Nat.reduceAdd, Nat.reduceMul, Nat.reduceSub]
        refine Runs.chk (by simp <;> omega) ?_
        simp (decide := true) only [hN, go_sem, Nat.reduceAdd, Nat.reduceMul, Nat.reduceSub]
        refine Runs.split (fun h1' => ?_) (fun h1' => ?_)
        · simp only [Bool.not_eq_true', decide_eq_false_iff_not] at h1'
          have g2 := go hk7 (by rw [Bool.eq_false_iff]; intro hs; rw [smallK_iff] at hs; omega)
          simp (decide := true) (disch := first | omega | (simp only [List.length_map, List.length_cons, List.length_append, List.length_nil]; omega)) only [if_pos, go_sem, Nat.reduceAdd, Nat.reduceMul, Nat.reduceSub]
          refine ih (k + 1) _ (by omega) ⟨by omega, g2⟩ ?_
          simp [go_sem, iIbAnn, iIbSt]
        · simp only [Bool.not_eq_false', decide_eq_true_eq] at h1'
          have ek := stop (by rw [smallK_iff]; omega)
          simp (decide := true) (disch := first | omega | (simp only [List.length_map, List.length_cons, List.length_append, List.length_nil]; omega)) only [if_pos, go_sem, Nat.reduceAdd, Nat.reduceMul, Nat.reduceSub]
          refine Runs.while (α := Nat) (iIbSt2 n (k + 1)) (fun j => k + 1 - j) (fun j => j ≤ k + 1) 0 (by omega) ?_ ?_
          · simp [go_sem, iIbAnn, iIbSt2, iIbL]
          · intro j hj ihj
            have hlen := iIbL_length n hj
            simp (decide := true) only [iIbSt2, hlen, go_sem, Nat.reduceAdd, Nat.reduceMul, Nat.reduceSub]
            refine Runs.split (fun h2 => ?_) (fun h2 => ?_)
            · simp only [decide_eq_true_eq] at h2
              have hjk : j < k + 1 := by omega
              have hw : IntKind.i64.wrap (8 * (((k + 1 : Nat) : Int) - j - 1)) = ((8 * (k + 1 - j - 1) : Nat) : Int) := by rw [wrap_i64 (by omega) (by omega)]; omega
              simp (decide := true) only [hw, hlen, go_sem, Nat.reduceAdd, Nat.reduceMul, Nat.reduceSub]
              refine Runs.chk (by simp <;> omega) ?_
              simp (decide := true) (disch := first | omega | (simp only [List.length_map, List.length_cons, List.length_append, List.length_nil]; omega)) only [shrK n (k + 1 - j - 1) (by omega), hlen, if_pos, go_sem, Nat.reduceAdd, Nat.reduceMul, Nat.reduceSub]
              refine ihj (j + 1) _ (by omega) (by omega) ?_
              simp [go_sem, iIbAnn, iIbSt2, iIbL_succ n hjk, hlen, ib]
              omega
            · simp only [decide_eq_false_iff_not] at h2
              have hjk : j = k + 1 := by omega
              subst hjk
              simp (decide := true) only [iIbL_all, tailB_length, go_sem, Nat.reduceAdd, Nat.reduceMul, Nat.reduceSub]
              refine Runs.ret_eq ?_
              rw [intB, ek]
      · simp only [Bool.not_eq_false', decide_eq_true_eq] at h0
        have ek := stop (by rw [smallK_iff]; omega)
        simp (decide := true) (disch := first | omega | (simp only [List.length_map, List.length_cons, List.length_append, List.length_nil]; omega)) only [if_pos, go_sem, Nat.reduceAdd, Nat.reduceMul, Nat.reduceSub]
        refine Runs.while (α := Nat) (iIbSt2 n (k + 1)) (fun j => k + 1 - j) (fun j => j ≤ k + 1) 0 (by omega) ?_ ?_
        · simp [go_sem, iIbAnn, iIbSt2, iIbL]
        · intro j hj ihj
          have hlen := iIbL_length n hj
          simp (decide := true) only [iIbSt2, hlen, go_sem, Nat.reduceAdd, Nat.reduceMul, Nat.reduceSub]
          refine Runs.split (fun h2 => ?_) (fun h2 => ?_)
          · simp only [decide_eq_true_eq] at h2
            have hjk : j < k + 1 := by omega
            have hw : IntKind.i64.wrap (8 * (((k + 1 : Nat) : Int) - j - 1)) = ((8 * (k + 1 - j - 1) : Nat) : Int) := by rw [wrap_i64 (by omega) (by omega)]; omega
            simp (decide := true) only [hw, hlen, go_sem, Nat.reduceAdd, Nat.reduceMul, Nat.reduceSub]
            refine Runs.chk (by simp <;> omega) ?_
            simp (decide := true) (disch := first | omega | (simp only [List.length_map, List.length_cons, List.length_append, List.length_nil]; omega)) only [shrK n (k + 1 - j - 1) (by omega), hlen, if_pos, go_sem, Nat.reduceAdd, Nat.reduceMul, Nat.reduceSub]
            refine ihj (j + 1) _ (by omega) (by omega) ?_
            simp [go_sem, iIbAnn, iIbSt2, iIbL_succ n hjk, hlen, ib]
            omega
          · simp only [decide_eq_false_iff_not] at h2
            have hjk : j = k + 1 := by omega
            subst hjk
            simp (decide := true) only [iIbL_all, tailB_length, go_sem, Nat.reduceAdd, Nat.reduceMul, Nat.reduceSub]
            refine Runs.ret_eq ?_
            rw [intB, ek]
    · simp only [decide_eq_false_iff_not] at h
      have hk7 : k = 7 := by omega
      have s7 : smallK n k = true := by rw [hk7]; exact small7 h1 h2
      rw [smallK_iff] at s7
      have ek := stop (by rw [smallK_iff]; omega)
      simp (decide := true) (disch := first | omega | (simp only [List.length_map, List.length_cons, List.length_append, List.length_nil]; omega)) only [if_pos, go_sem, Nat.reduceAdd, Nat.reduceMul, Nat.reduceSub]
      refine Runs.while (α := Nat) (iIbSt2 n (k + 1)) (fun j => k + 1 - j) (fun j => j ≤ k + 1) 0 (by omega) ?_ ?_
      · simp [go_sem, iIbAnn, iIbSt2, iIbL]
      · intro j hj ihj
        have hlen := iIbL_length n hj
        simp (decide := true) only [iIbSt2, hlen, go_sem, Nat.reduceAdd, Nat.reduceMul, Nat.reduceSub]
        refine Runs.split (fun h2 => ?_) (fun h2 => ?_)
        · simp only [decide_eq_true_eq] at h2
          have hjk : j < k + 1 := by omega
          have hw : IntKind.i64.wrap (8 * (((k + 1 : Nat) : Int) - j - 1)) = ((8 * (k + 1 - j - 1) : Nat) : Int) := by rw [wrap_i64 (by omega) (by omega)]; omega
          simp (decide := true) only [hw, hlen, go_sem, Nat.reduceAdd, Nat.reduceMul, Nat.reduceSub]
          refine Runs.chk (by simp <;> omega) ?_
          simp (decide := true) (disch := first | omega | (simp only [List.length_map, List.length_cons, List.length_append, List.length_nil]; omega)) only [shrK n (k + 1 - j - 1) (by omega), hlen, if_pos, go_sem, Nat.reduceAdd, Nat.reduceMul, Nat.reduceSub]
          refine ihj (j + 1) _ (by omega) (by omega) ?_
          simp [go_sem, iIbAnn, iIbSt2, iIbL_succ n hjk, hlen, ib]
          omega
        · simp only [decide_eq_false_iff_not] at h2
          have hjk : j = k + 1 := by omega
          subst hjk
          simp (decide := true) only [iIbL_all, tailB_length, go_sem, Nat.reduceAdd, Nat.reduceMul, Nat.reduceSub]
          refine Runs.ret_eq ?_
          rw [intB, ek]
end Go.Proofs.W

namespace Go.Proofs.W
open Go Go.AM Go.Proofs.G
set_option linter.unusedSimpArgs false
set_option linter.unusedVariables false
variable (hm : Try.prog.follows .mixedOrders = true)

/-- The byte at a place of a natural's bytes, the highest first. -/
def nbAt (N : List Int) (size j : Nat) : Int := IntKind.u8.wrap ((N.getD ((size - 1 - j) / 2) 0).fdiv (2 ^ (8 * ((size - 1 - j) % 2))))
def natBy (N : List Int) (size : Nat) : List Int := (List.range size).map (nbAt N size)
theorem natBy_length (N : List Int) (size : Nat) : (natBy N size).length = size := by simp [natBy]
set_option maxRecDepth 10000 in
include hm in
theorem l1Digit (N : List Int) (i : Nat) (h3 : N.length ≤ 9223372036854775807) : Holds Try.prog 90 [.sl .sh (N.map intA), .v (.int .i64 i)] [] (.v (.int .i64 (N.getD i 0))) [] := by
  refine holds_of (ann := []) tabOk hm Try.func90 (by kernel_rfl) rfl ?_
  have hl : (N.map intA).length = N.length := List.length_map _
  simp (decide := true) only [Try.f90, hl, go_sem, Nat.reduceAdd, Nat.reduceMul, Nat.reduceSub]
  refine Runs.split (fun h => ?_) (fun h => ?_)
  · have hlt : i < N.length := by simpa using h
    have hg := getIntA hlt
    simp (decide := true) (disch := first | omega | (simp only [List.length_map, List.length_cons, List.length_append, List.length_nil]; omega)) only [hl, hg, if_pos, go_sem, Nat.reduceAdd, Nat.reduceMul, Nat.reduceSub]
    exact Runs.ret_v
  · have hge : N.length ≤ i := by simpa using h
    simp (decide := true) only [go_sem, Nat.reduceAdd, Nat.reduceMul, Nat.reduceSub]
    exact Runs.ret_eq (by simp [List.getD, List.getElem?_eq_none hge])
def nbPre (N : List Int) (size j : Nat) : List A := ((List.range j).map (nbAt N size)).map u8A
theorem nbPre_length (N : List Int) (size j : Nat) : (nbPre N size j).length = j := by simp [nbPre]
theorem nbPre_succ (N : List Int) (size j : Nat) : nbPre N size j ++ [u8A (nbAt N size j)] = nbPre N size (j + 1) := by simp [nbPre, List.range_succ]
def snbAnn : Ann := [(0, [0, 6, 7])]
def snbSt (N : List Int) (size : Nat) (j : Nat) : St := ⟨[.sl .sh (N.map intA), .any, .any, .any, .any, .any, .ms (.l 0) 0 j j, .v (.int .i64 ((size : Int) - 1 - j)), .any, .any, .any, .any, .any, .any, .any, .any, .any, .any, .any, .any, .any, .any, .any, .any, .any, .any, .any, .any, .any, .any, .any, .any, .any, .any, .any, .any, .any, .any, .any, .any, .any, .any, .any, .any], [(0, ⟨true, 1, false, nbPre N size j⟩)], []⟩
set_option maxHeartbeats 4000000 in
set_option maxRecDepth 10000 in
include hm in
theorem sNatBytes (N : List Int) (size : Nat) (hN : natB N = true) (h1 : size ≤ 128) (h2 : bitsZ N ≤ 8 * (size : Int)) :
    Holds Try.prog 71 [.sl .sh (N.map intA), .v (.int .i64 size)] [] (.tup [.sl (.ow 1) ((natBy N size).map u8A), .v (.bool true)]) [] := by
  have hl64 : N.length ≤ 64 := by
    simp only [natB, Bool.and_eq_true, decide_eq_true_eq] at hN
    omega
  have hok := sNatOk hm N (by omega)
  rw [hN] at hok
  have hin : inB (size : Int) 0 128 = true := by simp [inB]; omega
  have hw := l1In hm (size : Int) 0 128
  rw [hin] at hw
  have hd : decide (bitsZ N > 8 * (size : Int)) = false := by simp; omega
  refine holds_of (ann := snbAnn) tabOk hm Try.func71 (by kernel_rfl) rfl ?_
  simp (decide := true) only [Try.f71, go_sem, Nat.reduceAdd, Nat.reduceMul, Nat.reduceSub]
  refine Runs.call hok ?_
  simp (decide := true) only [go_sem, Nat.reduceAdd, Nat.reduceMul, Nat.reduceSub]
  refine Runs.call hw ?_
  simp (decide := true) only [go_sem, Nat.reduceAdd, Nat.reduceMul, Nat.reduceSub]
  refine Runs.call (l1Bits hm N hN) ?_
  simp (decide := true) (disch := first | omega | (simp only [List.length_map, List.length_cons, List.length_append, List.length_nil]; omega)) only [hd, if_pos, go_sem, Nat.reduceAdd, Nat.reduceMul, Nat.reduceSub]
  refine Runs.while (α := Nat) (snbSt N size) (fun j => size - j) (fun j => j ≤ size) 0 (by omega) ?_ ?_
  · simp [go_sem, snbAnn, snbSt, nbPre]
  · intro j hj ih
    have hlen := nbPre_length N size j
    simp (decide := true) only [snbSt, hlen, go_sem, Nat.reduceAdd, Nat.reduceMul, Nat.reduceSub]
    refine Runs.split (fun h => ?_) (fun h => ?_)
    · have hlt : j < size := by simp at h; omega
      have e1 : (size : Int) - 1 - j = ((size - 1 - j : Nat) : Int) := by omega
      have e2 : ((size : Int) - 1 - j).tdiv 2 = (((size - 1 - j) / 2 : Nat) : Int) := by rw [e1]; rfl
      have e3 : ((size : Int) - 1 - j).tmod 2 = (((size - 1 - j) % 2 : Nat) : Int) := by rw [e1]; rfl
      have hdg := l1Digit hm N ((size - 1 - j) / 2) (by omega)
      have e4 : min (8 * (((size - 1 - j) % 2 : Nat) : Int)).toNat 64 = 8 * ((size - 1 - j) % 2) := by omega
      have e5 : decide (0 ≤ 8 * (((size - 1 - j) % 2 : Nat) : Int)) = true := by simp; omega
      have hs := nbPre_succ N size j
      simp only [u8A, nbAt] at hs
      simp (decide := true) (disch := first | omega | (simp only [List.length_map, List.length_cons, List.length_append, List.length_nil]; omega)) only [hlen, e2, e3, if_pos, go_sem, Nat.reduceAdd, Nat.reduceMul, Nat.reduceSub]
      refine Runs.call hdg ?_
      simp (decide := true) (disch := first | omega | (simp only [List.length_map, List.length_cons, List.length_append, List.length_nil]; omega)) only [hlen, e2, e3, e4, e5, IntKind.bits, hs, if_pos, go_sem, Nat.reduceAdd, Nat.reduceMul, Nat.reduceSub]
      refine ih (j + 1) _ (by omega) hlt ?_
      simp [go_sem, snbAnn, snbSt]
      omega
    · have hge : j = size := by simp at h; omega
      subst hge
      have ht : List.take j (nbPre N j j) = (natBy N j).map u8A := List.take_of_length_le (by rw [hlen]; exact Nat.le_refl _)
      simp (decide := true) only [hlen, ht, go_sem, Nat.reduceAdd, Nat.reduceMul, Nat.reduceSub]
      exact Runs.ret_refl
def nbI (N : List Int) (size i : Nat) : List A := (List.range size).map fun j => if size ≤ j + 2 * i then u8A (nbAt N size j) else u8A 0
theorem nbI_length (N : List Int) (size i : Nat) : (nbI N size i).length = size := by simp [nbI]
theorem nbI_zero (N : List Int) (size : Nat) : nbI N size 0 = List.replicate size (.v (.int .u8 0)) := by
  apply List.ext_getElem
  · simp [nbI]
  · intro j h1 h2
    simp [nbI] at h1
    simp [nbI, u8A, show ¬ size ≤ j by omega]
theorem nbI_get (N : List Int) (size i k : Nat) (h : k < size) (h2 : k + 2 * i < size) : (nbI N size i).getD k .any = .v (.int .u8 0) := by
  simp [nbI, List.getD, h, show ¬ size ≤ k + 2 * i by omega, u8A]
theorem nbI_one (N : List Int) (size i : Nat) (h : size = 2 * i + 1) : (nbI N size i).set 0 (u8A (nbAt N size 0)) = nbI N size (i + 1) := by
  apply List.ext_getElem
  · simp [nbI]
  · intro j h1 h2
    simp [nbI] at h1 h2
    simp only [List.getElem_set, nbI, List.getElem_map, List.getElem_range]
    by_cases hj : 0 = j
    · subst hj; rw [if_pos rfl, if_pos (by omega)]
    · rw [if_neg hj, if_pos (by omega), if_pos (by omega)]
theorem nbI_two (N : List Int) (size i K : Nat) (h : K + 2 + 2 * i = size) : ((nbI N size i).set (K + 1) (u8A (nbAt N size (K + 1)))).set K (u8A (nbAt N size K)) = nbI N size (i + 1) := by
  apply List.ext_getElem
  · simp [nbI]
  · intro j h1 h2
    simp [nbI] at h1 h2
    simp only [List.getElem_set, nbI, List.getElem_map, List.getElem_range]
    by_cases hj : K = j
    · subst hj; rw [if_pos rfl, if_pos (by omega)]
    · rw [if_neg hj]
      by_cases hk : K + 1 = j
      · subst hk; rw [if_pos rfl, if_pos (by omega)]
      · rw [if_neg hk]
        by_cases h3 : size ≤ j + 2 * i
        · rw [if_pos h3, if_pos (by omega)]
        · rw [if_neg h3, if_neg (by omega)]
theorem nbAt_lo (N : List Int) (size i K : Nat) (h : K + 1 + 2 * i = size) : nbAt N size K = IntKind.u8.wrap (N.getD i 0) := by
  rw [nbAt, show (size - 1 - K) / 2 = i by omega, show (size - 1 - K) % 2 = 0 by omega]
  simp
theorem nbAt_hi (N : List Int) (size i K : Nat) (h : K + 2 + 2 * i = size) : nbAt N size K = IntKind.u8.wrap ((N.getD i 0).fdiv (2 ^ 8)) := by
  rw [nbAt, show (size - 1 - K) / 2 = i by omega, show (size - 1 - K) % 2 = 1 by omega]
theorem nbI_all (N : List Int) (size : Nat) : nbI N size N.length = (natBy N size).map u8A := by
  apply List.ext_getElem
  · simp [nbI, natBy]
  · intro j h1 h2
    simp [nbI] at h1
    simp only [nbI, natBy, List.getElem_map, List.getElem_range]
    split
    · rfl
    · rename_i h
      have e : N.getD ((size - 1 - j) / 2) 0 = 0 := by
        rw [List.getD, List.getElem?_eq_none (by omega)]; rfl
      rw [nbAt, e, Int.zero_fdiv]
      rfl
theorem nat_fits {N : List Int} {size : Nat} (hN : natB N = true) (h2 : bitsZ N ≤ 8 * (size : Int)) : 2 * N.length ≤ size + 1 := by
  by_cases h0 : N.length = 0
  · omega
  · obtain ⟨t1, t2, t3⟩ := nat_top hN h0
    have : 1 ≤ blen (topD N).toNat := by
      unfold blen
      rw [dif_neg (by omega)]
      omega
    rw [bitsZ, if_neg h0] at h2
    omega
def inbAnn : Ann := [(0, [1, 6, 27, 28, 29])]
def inbSt (N : List Int) (size : Nat) (i : Nat) : St := ⟨[.any, .v (.int .i64 size), .any, .any, .any, .any, .ms (.l 0) 0 size size, .any, .any, .any, .any, .any, .any, .any, .any, .any, .any, .any, .any, .any, .any, .any, .any, .any, .any, .any, .any, .sl .sh (N.map intA), .v (.int .i64 N.length), .v (.int .i64 i), .any, .any, .any, .any, .any, .any, .any, .any, .any, .any, .any, .any, .any, .any, .any, .any, .any, .any, .any, .any, .any, .any, .any, .any, .any, .any, .any, .any], [(0, ⟨true, 1, false, nbI N size i⟩)], []⟩
set_option maxHeartbeats 4000000 in
set_option maxRecDepth 10000 in
include hm in
theorem iNatBytes (N : List Int) (size : Nat) (hN : natB N = true) (h1 : size ≤ 128) (h2 : bitsZ N ≤ 8 * (size : Int)) :
    Holds Try.prog 83 [.sl .sh (N.map intA), .v (.int .i64 size)] [] (.tup [.sl (.ow 1) ((natBy N size).map u8A), .v (.bool true)]) [] := by
  have hl64 : N.length ≤ 64 := by
    simp only [natB, Bool.and_eq_true, decide_eq_true_eq] at hN
    omega
  have hf := nat_fits hN h2
  have hok := iNatOk hm N (by omega)
  rw [hN] at hok
  have hin : inB (size : Int) 0 128 = true := by simp [inB]; omega
  have hw := within hm (size : Int) 0 128
  rw [hin] at hw
  have hd : decide (bitsZ N > 8 * (size : Int)) = false := by simp; omega
  have hl : (N.map intA).length = N.length := List.length_map _
  refine holds_of (ann := inbAnn) tabOk hm Try.func83 (by kernel_rfl) rfl ?_
  simp (decide := true) only [Try.f83, go_sem, Nat.reduceAdd, Nat.reduceMul, Nat.reduceSub]
  refine Runs.call hok ?_
  simp (decide := true) only [go_sem, Nat.reduceAdd, Nat.reduceMul, Nat.reduceSub]
  refine Runs.call hw ?_
  simp (decide := true) only [go_sem, Nat.reduceAdd, Nat.reduceMul, Nat.reduceSub]
  refine Runs.call (natBits hm N hN) ?_
  simp (decide := true) (disch := first | omega | (simp only [List.length_map, List.length_cons, List.length_append, List.length_nil]; omega)) only [hd, hl, if_pos, go_sem, Nat.reduceAdd, Nat.reduceMul, Nat.reduceSub]
  refine Runs.while (α := Nat) (inbSt N size) (fun i => N.length - i) (fun i => i ≤ N.length) 0 (by omega) ?_ ?_
  · simp [go_sem, inbAnn, inbSt, nbI_zero]
  · clear hok hw hin hd hN h2
    intro i hi ih
    have hlen := nbI_length N size i
    simp (decide := true) only [inbSt, hlen, hl, go_sem, Nat.reduceAdd, Nat.reduceMul, Nat.reduceSub]
    refine Runs.split (fun h => ?_) (fun h => ?_)
    · have hlt : i < N.length := by simpa using h
      have hg := getIntA hlt
      have wr : ∀ n : Int, -1000000 ≤ n → n ≤ 1000000 → IntKind.i64.wrap n = n := fun n h1 h2 => wrap_i64 (by omega) (by omega)
      have w1 := wr ((size : Int) - 1) (by omega) (by omega)
      have w2 := wr (2 * (i : Int)) (by omega) (by omega)
      have w3 := wr ((size : Int) - 1 - 2 * i) (by omega) (by omega)
      have w4 := wr ((size : Int) - 2) (by omega) (by omega)
      have w5 := wr ((size : Int) - 2 - 2 * i) (by omega) (by omega)
      have w6 := wr ((i : Int) + 1) (by omega) (by omega)
      have d1 : decide (0 ≤ (i : Int) ∧ (i : Int) < N.length) = true := by simp; omega
      have d2 : decide (0 ≤ (size : Int) - 1 - 2 * i ∧ (size : Int) - 1 - 2 * i < size) = true := by simp; omega
      by_cases h3 : 2 * i + 2 ≤ size
      · obtain ⟨K, hK⟩ : ∃ K, K + 2 + 2 * i = size := ⟨size - 2 - 2 * i, by omega⟩
        have hx1 := nbAt_lo N size i (K + 1) (by omega)
        have hx2 := nbAt_hi N size i K hK
        have k1 : ((size : Int) - 1 - 2 * i).toNat = K + 1 := by omega
        have k2 : ((size : Int) - 2 - 2 * i).toNat = K := by omega
        have g1 := nbI_get N size i (K + 1) (by omega) (by omega)
        have hs := nbI_two N size i K hK
        rw [hx1, hx2] at hs
        simp only [u8A] at hs
        have hd2 : decide ((size : Int) - 2 - 2 * i ≥ 0) = true := by simp; omega
        have g2 := nbI_get N size i K (by omega) (by omega)
        have g3 : ((nbI N size i).set (K + 1) (.v (.int .u8 (IntKind.u8.wrap (N.getD i 0))))).getD K .any = .v (.int .u8 0) := by
          rw [List.getD, List.getElem?_set_ne (by omega)]; exact g2
        have d3 : decide (0 ≤ (size : Int) - 2 - 2 * i ∧ (size : Int) - 2 - 2 * i < size) = true := by simp; omega
        simp (decide := true) (maxSteps := 2000000) only [hlen, hl, hg, Int.toNat_natCast, w1, w2, w3, w4, w5, w6, d1, d2, d3, k1, g1, hd2, k2, g3, s8, List.length_set, hs, go_sem, Nat.reduceAdd, Nat.reduceMul, Nat.reduceSub]
        refine ih (i + 1) _ (by omega) (by omega) ?_
        simp [go_sem, inbAnn, inbSt]
      · have e0 : size = 2 * i + 1 := by omega
        have hx1 := nbAt_lo N size i 0 (by omega)
        have k1 : ((size : Int) - 1 - 2 * i).toNat = 0 := by omega
        have g1 := nbI_get N size i 0 (by omega) (by omega)
        have hs := nbI_one N size i e0
        rw [hx1] at hs
        simp only [u8A] at hs
        have hd2 : decide ((size : Int) - 2 - 2 * i ≥ 0) = false := by simp; omega
        simp (decide := true) (maxSteps := 2000000) only [hlen, hl, hg, Int.toNat_natCast, w1, w2, w3, w4, w5, w6, d1, d2, k1, g1, hd2, hs, go_sem, Nat.reduceAdd, Nat.reduceMul, Nat.reduceSub]
        refine ih (i + 1) _ (by omega) (by omega) ?_
        simp [go_sem, inbAnn, inbSt]
    · have hge : i = N.length := by simp at h; omega
      subst hge
      have ht : List.take size (nbI N size N.length) = (natBy N size).map u8A := by rw [List.take_of_length_le (by rw [hlen]; exact Nat.le_refl _), nbI_all]
      simp (decide := true) only [hlen, ht, go_sem, Nat.reduceAdd, Nat.reduceMul, Nat.reduceSub]
      exact Runs.ret_refl
end Go.Proofs.W
