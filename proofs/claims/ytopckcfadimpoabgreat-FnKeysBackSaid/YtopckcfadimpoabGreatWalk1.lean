import Derived.Test.YtopckcfadimpoabGreatProg
import Derived.KernelRfl
import Derived.Test.YtopckcfadimpoabGreatField1
set_option linter.unusedVariables false
set_option linter.unusedSimpArgs false
namespace Go.Proofs.W
open Go Go.AM
def repV (n : Nat) (v : Value) : List Value := List.replicate n v
def tab : Go.AM.Tab := [
 [⟨.other, 0, 0, []⟩,
 ⟨.func, 1, 8, [.nilFunc]⟩,
 ⟨.int .i64, 1, 8, [.int .i64 0]⟩,
 ⟨.int .i64, 1, 8, [.int .i64 0]⟩,
 ⟨.bool, 1, 1, [.bool false]⟩,
 ⟨.int .u8, 1, 1, [.int .u8 0]⟩,
 ⟨.int .u8, 1, 1, [.int .u8 0]⟩,
 ⟨.struct [(0, 1, 2), (1, 1, 3), (2, 1, 4), (3, 1, 6)], 4, 24, [.int .i64 0, .int .i64 0, .bool false, .int .u8 0]⟩,
 ⟨.struct [(0, 1, 2), (1, 1, 3), (2, 1, 4), (3, 1, 6)], 4, 24, [.int .i64 0, .int .i64 0, .bool false, .int .u8 0]⟩,
 ⟨.string, 1, 16, [.string ⟨#[]⟩]⟩,
 ⟨.string, 1, 16, [.string ⟨#[]⟩]⟩,
 ⟨.string, 1, 16, [.string ⟨#[]⟩]⟩,
 ⟨.int .u64, 1, 8, [.int .u64 0]⟩,
 ⟨.struct [(0, 1, 9), (1, 1, 12)], 2, 24, [.string ⟨#[]⟩, .int .u64 0]⟩,
 ⟨.struct [(0, 1, 9), (1, 1, 12)], 2, 24, [.string ⟨#[]⟩, .int .u64 0]⟩,
 ⟨.pointer 144, 1, 8, [.pointer none]⟩],
 [⟨.pointer 147, 1, 8, [.pointer none]⟩,
 ⟨.pointer 155, 1, 8, [.pointer none]⟩,
 ⟨.struct [(0, 1, 17)], 1, 8, [.pointer none]⟩,
 ⟨.struct [(0, 1, 17)], 1, 8, [.pointer none]⟩,
 ⟨.other, 0, 0, []⟩,
 ⟨.int .i32, 1, 4, [.int .i32 0]⟩,
 ⟨.slice 5, 1, 24, [.slice none 0 0]⟩,
 ⟨.func, 1, 8, [.nilFunc]⟩,
 ⟨.slice 3, 1, 24, [.slice none 0 0]⟩,
 ⟨.struct [(0, 1, 3), (1, 1, 3), (2, 1, 3), (3, 1, 3), (4, 1, 3), (5, 1, 3)], 6, 48, [.int .i64 0, .int .i64 0, .int .i64 0, .int .i64 0, .int .i64 0, .int .i64 0]⟩,
 ⟨.struct [(0, 1, 3), (1, 1, 3), (2, 1, 3), (3, 1, 3), (4, 1, 3), (5, 1, 3)], 6, 48, [.int .i64 0, .int .i64 0, .int .i64 0, .int .i64 0, .int .i64 0, .int .i64 0]⟩,
 ⟨.struct [(0, 1, 3), (1, 1, 3), (2, 1, 4)], 3, 24, [.int .i64 0, .int .i64 0, .bool false]⟩,
 ⟨.struct [(0, 1, 3), (1, 1, 3), (2, 1, 4)], 3, 24, [.int .i64 0, .int .i64 0, .bool false]⟩,
 ⟨.struct [(0, 1, 3), (1, 1, 3), (2, 1, 3), (3, 1, 3), (4, 1, 3)], 5, 40, [.int .i64 0, .int .i64 0, .int .i64 0, .int .i64 0, .int .i64 0]⟩,
 ⟨.struct [(0, 1, 3), (1, 1, 3), (2, 1, 3), (3, 1, 3), (4, 1, 3)], 5, 40, [.int .i64 0, .int .i64 0, .int .i64 0, .int .i64 0, .int .i64 0]⟩,
 ⟨.struct [(0, 1, 3), (1, 1, 3)], 2, 16, [.int .i64 0, .int .i64 0]⟩],
 [⟨.struct [(0, 1, 3), (1, 1, 3)], 2, 16, [.int .i64 0, .int .i64 0]⟩,
 ⟨.struct [(0, 1, 3), (1, 1, 24), (2, 1, 3), (3, 6, 26), (9, 3, 28), (12, 5, 30), (17, 2, 32)], 19, 168, [.int .i64 0, .slice none 0 0, .int .i64 0, .int .i64 0, .int .i64 0, .int .i64 0, .int .i64 0, .int .i64 0, .int .i64 0, .int .i64 0, .int .i64 0, .bool false, .int .i64 0, .int .i64 0, .int .i64 0, .int .i64 0, .int .i64 0, .int .i64 0, .int .i64 0]⟩,
 ⟨.struct [(0, 1, 3), (1, 1, 24), (2, 1, 3), (3, 6, 26), (9, 3, 28), (12, 5, 30), (17, 2, 32)], 19, 168, [.int .i64 0, .slice none 0 0, .int .i64 0, .int .i64 0, .int .i64 0, .int .i64 0, .int .i64 0, .int .i64 0, .int .i64 0, .int .i64 0, .int .i64 0, .bool false, .int .i64 0, .int .i64 0, .int .i64 0, .int .i64 0, .int .i64 0, .int .i64 0, .int .i64 0]⟩,
 ⟨.func, 1, 8, [.nilFunc]⟩,
 ⟨.slice 66, 1, 24, [.slice none 0 0]⟩,
 ⟨.other, 0, 0, []⟩,
 ⟨.func, 1, 8, [.nilFunc]⟩,
 ⟨.other, 0, 0, []⟩,
 ⟨.func, 1, 8, [.nilFunc]⟩,
 ⟨.func, 1, 8, [.nilFunc]⟩,
 ⟨.func, 1, 8, [.nilFunc]⟩,
 ⟨.func, 1, 8, [.nilFunc]⟩,
 ⟨.func, 1, 8, [.nilFunc]⟩,
 ⟨.func, 1, 8, [.nilFunc]⟩,
 ⟨.func, 1, 8, [.nilFunc]⟩,
 ⟨.pointer 77, 1, 8, [.pointer none]⟩],
 [⟨.func, 1, 8, [.nilFunc]⟩,
 ⟨.slice 51, 1, 24, [.slice none 0 0]⟩,
 ⟨.struct [(0, 1, 3), (1, 1, 22), (2, 1, 49)], 3, 56, [.int .i64 0, .slice none 0 0, .slice none 0 0]⟩,
 ⟨.struct [(0, 1, 3), (1, 1, 22), (2, 1, 49)], 3, 56, [.int .i64 0, .slice none 0 0, .slice none 0 0]⟩,
 ⟨.func, 1, 8, [.nilFunc]⟩,
 ⟨.func, 1, 8, [.nilFunc]⟩,
 ⟨.other, 0, 0, []⟩,
 ⟨.func, 1, 8, [.nilFunc]⟩,
 ⟨.func, 1, 8, [.nilFunc]⟩,
 ⟨.func, 1, 8, [.nilFunc]⟩,
 ⟨.func, 1, 8, [.nilFunc]⟩,
 ⟨.func, 1, 8, [.nilFunc]⟩,
 ⟨.func, 1, 8, [.nilFunc]⟩,
 ⟨.func, 1, 8, [.nilFunc]⟩,
 ⟨.func, 1, 8, [.nilFunc]⟩,
 ⟨.func, 1, 8, [.nilFunc]⟩],
 [⟨.func, 1, 8, [.nilFunc]⟩,
 ⟨.struct [(0, 1, 3), (1, 1, 22), (2, 1, 3)], 3, 40, [.int .i64 0, .slice none 0 0, .int .i64 0]⟩,
 ⟨.struct [(0, 1, 3), (1, 1, 22), (2, 1, 3)], 3, 40, [.int .i64 0, .slice none 0 0, .int .i64 0]⟩,
 ⟨.func, 1, 8, [.nilFunc]⟩,
 ⟨.func, 1, 8, [.nilFunc]⟩,
 ⟨.func, 1, 8, [.nilFunc]⟩,
 ⟨.struct [(0, 19, 34), (19, 1, 24), (20, 1, 3)], 21, 200, [.int .i64 0, .slice none 0 0, .int .i64 0, .int .i64 0, .int .i64 0, .int .i64 0, .int .i64 0, .int .i64 0, .int .i64 0, .int .i64 0, .int .i64 0, .bool false, .int .i64 0, .int .i64 0, .int .i64 0, .int .i64 0, .int .i64 0, .int .i64 0, .int .i64 0, .slice none 0 0, .int .i64 0]⟩,
 ⟨.struct [(0, 19, 34), (19, 1, 24), (20, 1, 3)], 21, 200, [.int .i64 0, .slice none 0 0, .int .i64 0, .int .i64 0, .int .i64 0, .int .i64 0, .int .i64 0, .int .i64 0, .int .i64 0, .int .i64 0, .int .i64 0, .bool false, .int .i64 0, .int .i64 0, .int .i64 0, .int .i64 0, .int .i64 0, .int .i64 0, .int .i64 0, .slice none 0 0, .int .i64 0]⟩,
 ⟨.func, 1, 8, [.nilFunc]⟩,
 ⟨.func, 1, 8, [.nilFunc]⟩,
 ⟨.func, 1, 8, [.nilFunc]⟩,
 ⟨.func, 1, 8, [.nilFunc]⟩,
 ⟨.struct [(0, 1, 22), (1, 1, 3), (2, 1, 3)], 3, 40, [.slice none 0 0, .int .i64 0, .int .i64 0]⟩,
 ⟨.struct [(0, 1, 22), (1, 1, 3), (2, 1, 3)], 3, 40, [.slice none 0 0, .int .i64 0, .int .i64 0]⟩,
 ⟨.func, 1, 8, [.nilFunc]⟩,
 ⟨.func, 1, 8, [.nilFunc]⟩],
 [⟨.func, 1, 8, [.nilFunc]⟩,
 ⟨.func, 1, 8, [.nilFunc]⟩,
 ⟨.func, 1, 8, [.nilFunc]⟩,
 ⟨.func, 1, 8, [.nilFunc]⟩,
 ⟨.func, 1, 8, [.nilFunc]⟩,
 ⟨.func, 1, 8, [.nilFunc]⟩,
 ⟨.func, 1, 8, [.nilFunc]⟩,
 ⟨.func, 1, 8, [.nilFunc]⟩,
 ⟨.func, 1, 8, [.nilFunc]⟩,
 ⟨.other, 0, 0, []⟩,
 ⟨.func, 1, 8, [.nilFunc]⟩,
 ⟨.func, 1, 8, [.nilFunc]⟩,
 ⟨.func, 1, 8, [.nilFunc]⟩,
 ⟨.other, 0, 0, []⟩,
 ⟨.func, 1, 8, [.nilFunc]⟩,
 ⟨.func, 1, 8, [.nilFunc]⟩],
 [⟨.func, 1, 8, [.nilFunc]⟩,
 ⟨.func, 1, 8, [.nilFunc]⟩,
 ⟨.func, 1, 8, [.nilFunc]⟩,
 ⟨.func, 1, 8, [.nilFunc]⟩,
 ⟨.func, 1, 8, [.nilFunc]⟩,
 ⟨.func, 1, 8, [.nilFunc]⟩,
 ⟨.int .u64, 1, 8, [.int .u64 0]⟩,
 ⟨.func, 1, 8, [.nilFunc]⟩,
 ⟨.func, 1, 8, [.nilFunc]⟩,
 ⟨.func, 1, 8, [.nilFunc]⟩,
 ⟨.func, 1, 8, [.nilFunc]⟩,
 ⟨.func, 1, 8, [.nilFunc]⟩,
 ⟨.func, 1, 8, [.nilFunc]⟩,
 ⟨.func, 1, 8, [.nilFunc]⟩,
 ⟨.func, 1, 8, [.nilFunc]⟩,
 ⟨.other, 0, 0, []⟩],
 [⟨.func, 1, 8, [.nilFunc]⟩,
 ⟨.func, 1, 8, [.nilFunc]⟩,
 ⟨.func, 1, 8, [.nilFunc]⟩,
 ⟨.slice 26, 1, 24, [.slice none 0 0]⟩,
 ⟨.func, 1, 8, [.nilFunc]⟩,
 ⟨.slice 30, 1, 24, [.slice none 0 0]⟩,
 ⟨.func, 1, 8, [.nilFunc]⟩,
 ⟨.func, 1, 8, [.nilFunc]⟩,
 ⟨.func, 1, 8, [.nilFunc]⟩,
 ⟨.func, 1, 8, [.nilFunc]⟩,
 ⟨.func, 1, 8, [.nilFunc]⟩,
 ⟨.func, 1, 8, [.nilFunc]⟩,
 ⟨.other, 0, 0, []⟩,
 ⟨.func, 1, 8, [.nilFunc]⟩,
 ⟨.func, 1, 8, [.nilFunc]⟩,
 ⟨.func, 1, 8, [.nilFunc]⟩],
 [⟨.func, 1, 8, [.nilFunc]⟩,
 ⟨.func, 1, 8, [.nilFunc]⟩,
 ⟨.func, 1, 8, [.nilFunc]⟩,
 ⟨.func, 1, 8, [.nilFunc]⟩,
 ⟨.func, 1, 8, [.nilFunc]⟩,
 ⟨.func, 1, 8, [.nilFunc]⟩,
 ⟨.func, 1, 8, [.nilFunc]⟩,
 ⟨.int .u32, 1, 4, [.int .u32 0]⟩,
 ⟨.func, 1, 8, [.nilFunc]⟩,
 ⟨.int .u64, 1, 8, [.int .u64 0]⟩,
 ⟨.func, 1, 8, [.nilFunc]⟩,
 ⟨.int .i8, 1, 1, [.int .i8 0]⟩,
 ⟨.func, 1, 8, [.nilFunc]⟩,
 ⟨.func, 1, 8, [.nilFunc]⟩,
 ⟨.func, 1, 8, [.nilFunc]⟩,
 ⟨.struct [(0, 1, 17), (1, 1, 17), (2, 1, 17), (3, 1, 9)], 4, 40, [.pointer none, .pointer none, .pointer none, .string ⟨#[]⟩]⟩],
 [⟨.struct [(0, 1, 17), (1, 1, 17), (2, 1, 17), (3, 1, 9)], 4, 40, [.pointer none, .pointer none, .pointer none, .string ⟨#[]⟩]⟩,
 ⟨.other, 0, 0, []⟩,
 ⟨.other, 0, 0, []⟩,
 ⟨.other, 0, 0, []⟩,
 ⟨.int .u8, 1, 1, [.int .u8 0]⟩,
 ⟨.int .u8, 1, 1, [.int .u8 0]⟩,
 ⟨.func, 1, 8, [.nilFunc]⟩,
 ⟨.pointer 5, 1, 8, [.pointer none]⟩,
 ⟨.int .i32, 1, 4, [.int .i32 0]⟩,
 ⟨.int .i32, 1, 4, [.int .i32 0]⟩,
 ⟨.struct [(0, 1, 12), (1, 1, 12), (2, 1, 135), (3, 1, 148), (4, 1, 5), (5, 1, 5), (6, 1, 149), (7, 1, 150), (8, 1, 151), (9, 1, 152), (10, 1, 153)], 11, 48, [.int .u64 0, .int .u64 0, .int .u32 0, .int .u8 0, .int .u8 0, .int .u8 0, .int .u8 0, .nilFunc, .pointer none, .int .i32 0, .int .i32 0]⟩,
 ⟨.struct [(0, 1, 12), (1, 1, 12), (2, 1, 135), (3, 1, 148), (4, 1, 5), (5, 1, 5), (6, 1, 149), (7, 1, 150), (8, 1, 151), (9, 1, 152), (10, 1, 153)], 11, 48, [.int .u64 0, .int .u64 0, .int .u32 0, .int .u8 0, .int .u8 0, .int .u8 0, .int .u8 0, .nilFunc, .pointer none, .int .i32 0, .int .i32 0]⟩,
 ⟨.other, 0, 0, []⟩,
 ⟨.other, 0, 0, []⟩,
 ⟨.other, 0, 0, []⟩,
 ⟨.other, 0, 0, []⟩]]
theorem tabOk : TabOk Tryz.prog tab := tabOk_of (by kernel_rfl)
theorem row3 : tab.row 3 = ⟨.int .i64, 1, 8, [.int .i64 0]⟩ := Eq.trans rfl rfl
theorem row4 : tab.row 4 = ⟨.bool, 1, 1, [.bool false]⟩ := Eq.trans rfl rfl
theorem row5 : tab.row 5 = ⟨.int .u8, 1, 1, [.int .u8 0]⟩ := Eq.trans rfl rfl
theorem row9 : tab.row 9 = ⟨.string, 1, 16, [.string ⟨#[]⟩]⟩ := Eq.trans rfl rfl
theorem row22 : tab.row 22 = ⟨.slice 5, 1, 24, [.slice none 0 0]⟩ := Eq.trans rfl rfl
theorem row24 : tab.row 24 = ⟨.slice 3, 1, 24, [.slice none 0 0]⟩ := Eq.trans rfl rfl
theorem row26 : tab.row 26 = ⟨.struct [(0, 1, 3), (1, 1, 3), (2, 1, 3), (3, 1, 3), (4, 1, 3), (5, 1, 3)], 6, 48, [.int .i64 0, .int .i64 0, .int .i64 0, .int .i64 0, .int .i64 0, .int .i64 0]⟩ := Eq.trans rfl rfl
theorem row28 : tab.row 28 = ⟨.struct [(0, 1, 3), (1, 1, 3), (2, 1, 4)], 3, 24, [.int .i64 0, .int .i64 0, .bool false]⟩ := Eq.trans rfl rfl
theorem row30 : tab.row 30 = ⟨.struct [(0, 1, 3), (1, 1, 3), (2, 1, 3), (3, 1, 3), (4, 1, 3)], 5, 40, [.int .i64 0, .int .i64 0, .int .i64 0, .int .i64 0, .int .i64 0]⟩ := Eq.trans rfl rfl
theorem row32 : tab.row 32 = ⟨.struct [(0, 1, 3), (1, 1, 3)], 2, 16, [.int .i64 0, .int .i64 0]⟩ := Eq.trans rfl rfl
theorem row34 : tab.row 34 = ⟨.struct [(0, 1, 3), (1, 1, 24), (2, 1, 3), (3, 6, 26), (9, 3, 28), (12, 5, 30), (17, 2, 32)], 19, 168, [.int .i64 0, .slice none 0 0, .int .i64 0, .int .i64 0, .int .i64 0, .int .i64 0, .int .i64 0, .int .i64 0, .int .i64 0, .int .i64 0, .int .i64 0, .bool false, .int .i64 0, .int .i64 0, .int .i64 0, .int .i64 0, .int .i64 0, .int .i64 0, .int .i64 0]⟩ := Eq.trans rfl rfl
theorem row36 : tab.row 36 = ⟨.slice 66, 1, 24, [.slice none 0 0]⟩ := Eq.trans rfl rfl
theorem row49 : tab.row 49 = ⟨.slice 51, 1, 24, [.slice none 0 0]⟩ := Eq.trans rfl rfl
theorem row51 : tab.row 51 = ⟨.struct [(0, 1, 3), (1, 1, 22), (2, 1, 49)], 3, 56, [.int .i64 0, .slice none 0 0, .slice none 0 0]⟩ := Eq.trans rfl rfl
theorem row66 : tab.row 66 = ⟨.struct [(0, 1, 3), (1, 1, 22), (2, 1, 3)], 3, 40, [.int .i64 0, .slice none 0 0, .int .i64 0]⟩ := Eq.trans rfl rfl
theorem row71 : tab.row 71 = ⟨.struct [(0, 19, 34), (19, 1, 24), (20, 1, 3)], 21, 200, [.int .i64 0, .slice none 0 0, .int .i64 0, .int .i64 0, .int .i64 0, .int .i64 0, .int .i64 0, .int .i64 0, .int .i64 0, .int .i64 0, .int .i64 0, .bool false, .int .i64 0, .int .i64 0, .int .i64 0, .int .i64 0, .int .i64 0, .int .i64 0, .int .i64 0, .slice none 0 0, .int .i64 0]⟩ := Eq.trans rfl rfl
theorem row77 : tab.row 77 = ⟨.struct [(0, 1, 22), (1, 1, 3), (2, 1, 3)], 3, 40, [.slice none 0 0, .int .i64 0, .int .i64 0]⟩ := Eq.trans rfl rfl
theorem row102 : tab.row 102 = ⟨.int .u64, 1, 8, [.int .u64 0]⟩ := Eq.trans rfl rfl
theorem row115 : tab.row 115 = ⟨.slice 26, 1, 24, [.slice none 0 0]⟩ := Eq.trans rfl rfl
theorem row117 : tab.row 117 = ⟨.slice 30, 1, 24, [.slice none 0 0]⟩ := Eq.trans rfl rfl
theorem row139 : tab.row 139 = ⟨.int .i8, 1, 1, [.int .i8 0]⟩ := Eq.trans rfl rfl
attribute [go_sem] row3 row4 row5 row9 row22 row24 row26 row28 row30 row32 row34 row36 row49 row51 row66 row71 row77 row102 row115 row117 row139
end Go.Proofs.W

namespace Go.Proofs.W
open Go Go.AM
set_option maxRecDepth 10000
variable (hm : Tryz.prog.follows .mixedOrders = true)
def inB (n a b : Int) : Bool := decide (a ≤ n) && decide (n ≤ b)
include hm in
theorem l1In (n a b : Int) : Holds Tryz.prog 24 [.v (.int .i64 n), .v (.int .i64 a), .v (.int .i64 b)] [] (.v (.bool (inB n a b))) [] := by
 refine holds_of (ann := []) tabOk hm Tryz.func24 (by kernel_rfl) rfl ?_
 simp +decide only [Tryz.f24, go_sem]
 refine Runs.split (fun h => ?_) (fun h => ?_)
 ·simp only [decide_eq_true_eq] at h
  have e : inB n a b = decide (n ≤ b) := by simp [inB]; omega
  simp +decide only [e, go_sem]
  exact Runs.ret_v
 ·simp only [decide_eq_false_iff_not] at h
  have e : inB n a b = false := by simp [inB]; omega
  simp +decide only [e, go_sem]
  exact Runs.ret_v
include hm in
theorem within (n a b : Int) : Holds Tryz.prog 32 [.v (.int .i64 n), .v (.int .i64 a), .v (.int .i64 b)] [] (.v (.bool (inB n a b))) [] := by
 refine holds_of (ann := []) tabOk hm Tryz.func32 (by kernel_rfl) rfl ?_
 simp +decide only [Tryz.f32, go_sem]
 refine Runs.split (fun h => ?_) (fun h => ?_)
 ·simp only [decide_eq_true_eq] at h
  have e : inB n a b = decide (n ≤ b) := by simp [inB]; omega
  simp +decide only [e, go_sem]
  exact Runs.ret_v
 ·simp only [decide_eq_false_iff_not] at h
  have e : inB n a b = false := by simp [inB]; omega
  simp +decide only [e, go_sem]
  exact Runs.ret_v
def ann26 : Ann := [(0, [1, 2, 9, 10, 11])]
def st26 (L : List Int) (lo hi : Int) (i : Nat) : St := ⟨[.any, .v (.int .i64 lo), .v (.int .i64 hi), .any, .any, .any, .any, .any, .any, .sl .sh (L.map intA), .v (.int .i64 L.length), .v (.int .i64 i), .any, .any, .any, .any, .any, .any, .any, .any, .any], [], []⟩
include hm in
theorem allWithin (L : List Int) (lo hi : Int) (h3 : L.length ≤ 9223372036854775807) :
  Holds Tryz.prog 72 [.sl .sh (L.map intA), .v (.int .i64 lo), .v (.int .i64 hi)] [] (.v (.bool (L.all fun n => inB n lo hi))) [] := by
 refine holds_of (ann := ann26) tabOk hm Tryz.func72 (by kernel_rfl) rfl ?_
 simp +decide only [Tryz.f72, go_sem]
 refine Runs.while (α := Nat) (st26 L lo hi) (fun i => L.length - i) (fun i => i ≤ L.length ∧ ((L.drop i).all fun n => inB n lo hi) = L.all fun n => inB n lo hi) 0 ⟨by omega, by simp⟩ ?_ ?_
 ·simp [go_sem, ann26, st26]
 ·rintro i ⟨hi1, hr⟩ ih
  simp +decide only [st26, go_sem]
  refine Runs.split (fun h => ?_) (fun h => ?_)
  ·have hlt : i < L.length := by simpa using h
   rw [List.drop_eq_getElem_cons hlt, List.all_cons] at hr
   simp +decide (disch := first | omega | (simp only [ll]; omega)) only [if_pos, go_sem]
   refine Runs.call (within hm L[i] lo hi) ?_
   simp +decide only [go_sem]
   refine Runs.split (fun h => ?_) (fun h => ?_)
   ·simp only [Bool.not_eq_true'] at h
    rw [h] at hr
    simp +decide only [← hr, go_sem]
    exact Runs.ret_v
   ·simp only [Bool.not_eq_false'] at h
    rw [h, Bool.true_and] at hr
    simp +decide (disch := first | omega | (simp only [ll]; omega)) only [if_pos, go_sem]
    refine ih (i + 1) _ (by omega) ⟨hlt, hr⟩ ?_
    simp [go_sem, ann26, st26]
  ·have hge : i = L.length := by simp at h; omega
   subst hge
   rw [List.drop_length, List.all_nil] at hr
   simp +decide only [← hr, go_sem]
   exact Runs.ret_v
end Go.Proofs.W

namespace Go.Proofs.W
open Go Go.AM
set_option maxRecDepth 10000
variable (hm : Tryz.prog.follows .mixedOrders = true)
def ib (n : Int) : Int := IntKind.u8.wrap n
def smallK (n : Int) (k : Nat) : Bool := decide (-128 ≤ n / 256 ^ k) && decide (n / 256 ^ k ≤ 127)
def firstK (n : Int) : Nat → Nat → Nat
 | 0, k => k
 | f + 1, k => if smallK n k = true then k else firstK n f (k + 1)
def kB (n : Int) : Nat := firstK n 7 0
def tailB (n : Int) (k : Nat) : List Int := (List.range (k + 1)).reverse.map fun i => ib (n / 256 ^ i)
def intB (n : Int) : List Int := tailB n (kB n)
theorem tailB_succ (n : Int) (k : Nat) : tailB n (k + 1) = ib (n / 256 ^ (k + 1)) :: tailB n k := by
 simp [tailB, List.range_succ]
theorem tailB_length (n : Int) (k : Nat) : (tailB n k).length = k + 1 := by simp [tailB]
theorem firstK_le (n : Int) : ∀ f k, firstK n f k ≤ k + f
 | 0, k => by simp [firstK]
 | f + 1, k => by
  simp only [firstK]
  split
  ·omega
  ·have := firstK_le n f (k + 1); omega
theorem kB_le (n : Int) : kB n ≤ 7 := by have := firstK_le n 7 0; unfold kB; omega
theorem small7 {n : Int} (h1 : -9223372036854775808 ≤ n) (h2 : n < 9223372036854775808) : smallK n 7 = true := by
 have : (256 : Int) ^ 7 = 72057594037927936 := rfl
 simp only [smallK, this, Bool.and_eq_true, decide_eq_true_eq]
 omega
theorem div256 (n : Int) (k : Nat) : n / 256 ^ k / 256 = n / 256 ^ (k + 1) := by
 rw [Int.pow_succ, Int.ediv_ediv_of_nonneg (Int.pow_nonneg (by omega))]
theorem shr8 (n : Int) : n.fdiv (2 ^ min (Int.toNat 8) 64) = n / 256 := by
 show n.fdiv 256 = n / 256
 exact Int.fdiv_eq_ediv_of_nonneg _ (by omega)
theorem divK_bound {n : Int} (h1 : -9223372036854775808 ≤ n) (h2 : n < 9223372036854775808) (k : Nat) : -9223372036854775808 ≤ n / 256 ^ k ∧ n / 256 ^ k < 9223372036854775808 := by
 have hp : (0 : Int) < 256 ^ k := Int.pow_pos (by omega)
 refine ⟨?_, ?_⟩
 ·rw [Int.le_ediv_iff_mul_le hp]
  have : (1 : Int) ≤ 256 ^ k := hp
  calc -9223372036854775808 * 256 ^ k ≤ -9223372036854775808 * 1 := Int.mul_le_mul_of_nonpos_left (by omega) this
   _ ≤ n := by omega
 ·rw [Int.ediv_lt_iff_lt_mul hp]
  have : (1 : Int) ≤ 256 ^ k := hp
  calc n < 9223372036854775808 * 1 := by omega
   _ ≤ 9223372036854775808 * 256 ^ k := Int.mul_le_mul_of_nonneg_left this (by omega)
include hm in
theorem l1Bytes (L : List Int) (h : L.length ≤ 1073741824) : Holds Tryz.prog 45 [.sl .sh (L.map u8A)] [] (.sl (.ow 1) (L.map u8A)) [] := by
 refine holds_of (ann := []) tabOk hm Tryz.func45 (by kernel_rfl) rfl ?_
 simp +decide (disch := first | omega | (simp only [ll]; omega)) only [Tryz.f45, if_pos, go_sem]
 exact Runs.ret_refl
def l7Len (n : Nat) : List Int := if n < 128 then [ib n] else if n < 256 then [129, ib n] else [130, ib (n / 256 : Nat), ib n]
theorem l7Len_length (n : Nat) : (l7Len n).length ≤ 3 := by
 unfold l7Len
 split
 ·simp
 ·split <;> simp
theorem firstK_step {n : Int} {k : Nat} (h : k < 7) : firstK n (7 - k) k = if smallK n k = true then k else firstK n (7 - (k + 1)) (k + 1) := by
 rw [show 7 - k = (7 - (k + 1)) + 1 by omega]
 rfl
theorem u8l (l : List Int) : (l.map u8A).length = l.length := List.length_map _
theorem smallK_iff {n : Int} {k : Nat} : smallK n k = true ↔ -128 ≤ n / 256 ^ k ∧ n / 256 ^ k ≤ 127 := by simp [smallK]
def sIbAnn : Ann := [(0, [0, 3])]
def sIbSt (n : Int) (k : Nat) : St := ⟨[.v (.int .i64 (n / 256 ^ k)), .any, .any, .ms (.l 0) 0 (k + 1) (k + 1), .any, .any, .any, .any, .any, .any, .any, .any, .any, .any, .any, .any, .any, .any, .any, .any, .any], [(0, ⟨true, 1, false, (tailB n k).map u8A⟩)], []⟩
include hm in
theorem sIntBytes (n : Int) (h1 : -9223372036854775808 ≤ n) (h2 : n < 9223372036854775808) : Holds Tryz.prog 111 [.v (.int .i64 n)] [] (.sl (.ow 1) ((intB n).map u8A)) [] := by
 refine holds_of (ann := sIbAnn) tabOk hm Tryz.func111 (by kernel_rfl) rfl ?_
 simp +decide only [Tryz.f111, go_sem]
 refine Runs.while (α := Nat) (sIbSt n) (fun k => 8 - k) (fun k => k ≤ 7 ∧ firstK n (7 - k) k = kB n) 0 ⟨by omega, rfl⟩ ?_ ?_
 ·simp [go_sem, sIbAnn, sIbSt, tailB, ib]
 ·rintro k ⟨hk, hr⟩ ih
  have hlen := tailB_length n k
  have htk : ((tailB n k).map u8A).take (k + 1) = (tailB n k).map u8A := List.take_of_length_le (by simp [hlen])
  have hb := divK_bound h1 h2 k
  have stop : smallK n k = true → kB n = k := fun hs => by
   rw [← hr]
   rcases Nat.lt_or_ge k 7 with h | h
   ·rw [firstK_step h, if_pos hs]
   ·rw [show 7 - k = 0 by omega]; rfl
  have go : smallK n k = false → k < 7 ∧ firstK n (7 - (k + 1)) (k + 1) = kB n := fun hs => by
   have hk7 : k < 7 := by
    rcases Nat.lt_or_ge k 7 with h | h
    ·exact h
    ·have : k = 7 := by omega
     subst this
     rw [small7 h1 h2] at hs; cases hs
   refine ⟨hk7, ?_⟩
   rw [← hr, firstK_step hk7, hs]
   rfl
  simp +decide only [sIbSt, hlen, go_sem]
  refine Runs.split (fun h => ?_) (fun h => ?_)
  ·simp only [decide_eq_true_eq] at h
   obtain ⟨g1, g2⟩ := go (by rw [Bool.eq_false_iff]; intro hs; rw [smallK_iff] at hs; omega)
   simp +decide (disch := first | omega | (simp only [ll]; omega)) only [shr8, div256, hlen, htk, if_pos, go_sem]
   refine ih (k + 1) _ (by omega) ⟨by omega, g2⟩ ?_
   simp [go_sem, sIbAnn, sIbSt, tailB_succ, hlen, ib, Nat.add_comm]
  ·simp only [decide_eq_false_iff_not] at h
   simp +decide only [go_sem]
   refine Runs.split (fun h' => ?_) (fun h' => ?_)
   ·simp only [decide_eq_true_eq] at h'
    obtain ⟨g1, g2⟩ := go (by rw [Bool.eq_false_iff]; intro hs; rw [smallK_iff] at hs; omega)
    simp +decide (disch := first | omega | (simp only [ll]; omega)) only [shr8, div256, hlen, htk, if_pos, go_sem]
    refine ih (k + 1) _ (by omega) ⟨by omega, g2⟩ ?_
    simp [go_sem, sIbAnn, sIbSt, tailB_succ, hlen, ib, Nat.add_comm]
   ·simp only [decide_eq_false_iff_not] at h'
    have e := stop (by rw [smallK_iff]; omega)
    simp +decide only [hlen, u8l, List.take_length, go_sem]
    refine Runs.ret_eq ?_
    rw [intB, e]
def iIbAnn : Ann := [(0, [0, 3]), (2, [0, 4, 5])]
def iIbSt (n : Int) (k : Nat) : St := ⟨[.v (.int .i64 n), .any, .any, .v (.int .i64 ((k + 1 : Nat) : Int)), .any, .any, .any, .any, .any, .any, .any, .any, .any, .any, .any, .any, .any, .any, .any, .any, .any, .any, .any, .any, .any, .any, .any, .any, .any, .any, .any, .any, .any, .any, .any, .any, .any, .any, .any, .any, .any, .any], [], []⟩
def iIbL (n : Int) (m j : Nat) : List Int := ((List.range m).reverse.take j).map fun i => ib (n / 256 ^ i)
def iIbSt2 (n : Int) (m j : Nat) : St := ⟨[.v (.int .i64 n), .any, .any, .any, .ms (.l 0) 0 j j, .v (.int .i64 ((m : Int) - j - 1)), .any, .any, .any, .any, .any, .any, .any, .any, .any, .any, .any, .any, .any, .any, .any, .any, .any, .any, .any, .any, .any, .any, .any, .any, .any, .any, .any, .any, .any, .any, .any, .any, .any, .any, .any, .any], [(0, ⟨true, 1, false, (iIbL n m j).map u8A⟩)], []⟩
theorem iIbL_length (n : Int) {m j : Nat} (h : j ≤ m) : (iIbL n m j).length = j := by simp [iIbL]; omega
theorem iIbL_succ (n : Int) {m j : Nat} (h : j < m) : iIbL n m (j + 1) = iIbL n m j ++ [ib (n / 256 ^ (m - j - 1))] := by
 unfold iIbL
 rw [List.take_succ_eq_append_getElem (by simpa using h), List.map_append]
 simp [List.getElem_reverse, show m - 1 - j = m - j - 1 by omega]
theorem iIbL_all (n : Int) (k : Nat) : iIbL n (k + 1) (k + 1) = tailB n k := by
 unfold iIbL tailB
 rw [List.take_of_length_le (by simp)]
theorem shrK (n : Int) (k : Nat) (h : 8 * k ≤ 64) : n.fdiv (2 ^ min (8 * k) 64) = n / 256 ^ k := by
 have e : ∀ k : Nat, (2 : Int) ^ (8 * k) = 256 ^ k := by
  intro k
  induction k with
  | zero => rfl
  | succ k ih =>
   rw [show 8 * (k + 1) = 8 * k + 1 + 1 + 1 + 1 + 1 + 1 + 1 + 1 by omega]
   simp only [Int.pow_succ]
   rw [ih]
   simp only [Int.mul_assoc]
   rfl
 rw [Nat.min_eq_left h, e, Int.fdiv_eq_ediv_of_nonneg _ (Int.le_of_lt (Int.pow_pos (by omega)))]
theorem pow28 (k : Nat) : (2 : Int) ^ (8 * k) = 256 ^ k := by
 induction k with
 | zero => rfl
 | succ k ih =>
  rw [show 8 * (k + 1) = 8 * k + 1 + 1 + 1 + 1 + 1 + 1 + 1 + 1 by omega]
  simp only [Int.pow_succ]
  rw [ih]
  simp only [Int.mul_assoc]
  rfl
theorem shr7 (n : Int) (k : Nat) (h : k ≤ 7) : n.fdiv (2 ^ min (8 * (k + 1) - 1) 64) = n / 256 ^ k / 128 := by
 rw [Nat.min_eq_left (by omega), show 8 * (k + 1) - 1 = 8 * k + 1 + 1 + 1 + 1 + 1 + 1 + 1 by omega]
 rw [Int.fdiv_eq_ediv_of_nonneg _ (Int.le_of_lt (Int.pow_pos (by omega)))]
 rw [Int.ediv_ediv_of_nonneg (Int.pow_nonneg (by omega))]
 congr 1
 simp only [Int.pow_succ]
 rw [pow28]
 simp only [Int.mul_assoc]
 rfl
include hm in
theorem iIntBytes (n : Int) (h1 : -9223372036854775808 ≤ n) (h2 : n < 9223372036854775808) : Holds Tryz.prog 91 [.v (.int .i64 n)] [] (.sl (.ow 1) ((intB n).map u8A)) [] := by
 refine holds_of (ann := iIbAnn) tabOk hm Tryz.func91 (by kernel_rfl) rfl ?_
 simp +decide only [Tryz.f91, go_sem]
 refine Runs.while (α := Nat) (iIbSt n) (fun k => 8 - k) (fun k => k ≤ 7 ∧ firstK n (7 - k) k = kB n) 0 ⟨by omega, rfl⟩ ?_ ?_
 ·simp [go_sem, iIbAnn, iIbSt]
 ·rintro k ⟨hk, hr⟩ ih
  have hb := divK_bound h1 h2 k
  have stop : smallK n k = true → kB n = k := fun hs => by
   rw [← hr]
   rcases Nat.lt_or_ge k 7 with h | h
   ·rw [firstK_step h, if_pos hs]
   ·rw [show 7 - k = 0 by omega]; rfl
  have go : k < 7 → smallK n k = false → firstK n (7 - (k + 1)) (k + 1) = kB n := fun hk7 hs => by
   rw [← hr, firstK_step hk7, hs]
   rfl
  have w1 : IntKind.i64.wrap (8 * ((k + 1 : Nat) : Int)) = ((8 * (k + 1) : Nat) : Int) := by rw [wrap_i64 (by omega) (by omega)]; omega
  have w2 : IntKind.i64.wrap (((8 * (k + 1) : Nat) : Int) - 1) = ((8 * (k + 1) - 1 : Nat) : Int) := by rw [wrap_i64 (by omega) (by omega)]; omega
  simp +decide only [iIbSt, go_sem]
  have hN := shr7 n k hk
  refine Runs.split (fun h => ?_) (fun h => ?_)
  ·simp only [decide_eq_true_eq] at h
   have hk7 : k < 7 := by omega
   simp +decide only [w1, w2, go_sem]
   refine Runs.chk (by simp <;> omega) ?_
   simp +decide only [hN, go_sem]
   refine Runs.split (fun h0 => ?_) (fun h0 => ?_)
   ·simp only [Bool.not_eq_true', decide_eq_false_iff_not] at h0
    simp +decide only [w1, w2, go_sem]
    refine Runs.chk (by simp <;> omega) ?_
    simp +decide only [hN, go_sem]
    refine Runs.split (fun h1' => ?_) (fun h1' => ?_)
    ·simp only [Bool.not_eq_true', decide_eq_false_iff_not] at h1'
     have g2 := go hk7 (by rw [Bool.eq_false_iff]; intro hs; rw [smallK_iff] at hs; omega)
     simp +decide (disch := first | omega | (simp only [ll]; omega)) only [if_pos, go_sem]
     refine ih (k + 1) _ (by omega) ⟨by omega, g2⟩ ?_
     simp [go_sem, iIbAnn, iIbSt]
    ·simp only [Bool.not_eq_false', decide_eq_true_eq] at h1'
     have ek := stop (by rw [smallK_iff]; omega)
     simp +decide (disch := first | omega | (simp only [ll]; omega)) only [if_pos, go_sem]
     refine Runs.while (α := Nat) (iIbSt2 n (k + 1)) (fun j => k + 1 - j) (fun j => j ≤ k + 1) 0 (by omega) ?_ ?_
     ·simp [go_sem, iIbAnn, iIbSt2, iIbL]
     ·intro j hj ihj
      have hlen := iIbL_length n hj
      simp +decide only [iIbSt2, hlen, go_sem]
      refine Runs.split (fun h2 => ?_) (fun h2 => ?_)
      ·simp only [decide_eq_true_eq] at h2
       have hjk : j < k + 1 := by omega
       have hw : IntKind.i64.wrap (8 * (((k + 1 : Nat) : Int) - j - 1)) = ((8 * (k + 1 - j - 1) : Nat) : Int) := by rw [wrap_i64 (by omega) (by omega)]; omega
       simp +decide only [hw, hlen, go_sem]
       refine Runs.chk (by simp <;> omega) ?_
       simp +decide (disch := first | omega | (simp only [ll]; omega)) only [shrK n (k + 1 - j - 1) (by omega), hlen, if_pos, go_sem]
       refine ihj (j + 1) _ (by omega) (by omega) ?_
       simp [go_sem, iIbAnn, iIbSt2, iIbL_succ n hjk, hlen, ib]
       omega
      ·simp only [decide_eq_false_iff_not] at h2
       have hjk : j = k + 1 := by omega
       subst hjk
       simp +decide only [iIbL_all, tailB_length, go_sem]
       refine Runs.ret_eq ?_
       rw [intB, ek]
   ·simp only [Bool.not_eq_false', decide_eq_true_eq] at h0
    have ek := stop (by rw [smallK_iff]; omega)
    simp +decide (disch := first | omega | (simp only [ll]; omega)) only [if_pos, go_sem]
    refine Runs.while (α := Nat) (iIbSt2 n (k + 1)) (fun j => k + 1 - j) (fun j => j ≤ k + 1) 0 (by omega) ?_ ?_
    ·simp [go_sem, iIbAnn, iIbSt2, iIbL]
    ·intro j hj ihj
     have hlen := iIbL_length n hj
     simp +decide only [iIbSt2, hlen, go_sem]
     refine Runs.split (fun h2 => ?_) (fun h2 => ?_)
     ·simp only [decide_eq_true_eq] at h2
      have hjk : j < k + 1 := by omega
      have hw : IntKind.i64.wrap (8 * (((k + 1 : Nat) : Int) - j - 1)) = ((8 * (k + 1 - j - 1) : Nat) : Int) := by rw [wrap_i64 (by omega) (by omega)]; omega
      simp +decide only [hw, hlen, go_sem]
      refine Runs.chk (by simp <;> omega) ?_
      simp +decide (disch := first | omega | (simp only [ll]; omega)) only [shrK n (k + 1 - j - 1) (by omega), hlen, if_pos, go_sem]
      refine ihj (j + 1) _ (by omega) (by omega) ?_
      simp [go_sem, iIbAnn, iIbSt2, iIbL_succ n hjk, hlen, ib]
      omega
     ·simp only [decide_eq_false_iff_not] at h2
      have hjk : j = k + 1 := by omega
      subst hjk
      simp +decide only [iIbL_all, tailB_length, go_sem]
      refine Runs.ret_eq ?_
      rw [intB, ek]
  ·simp only [decide_eq_false_iff_not] at h
   have hk7 : k = 7 := by omega
   have s7 : smallK n k = true := by rw [hk7]; exact small7 h1 h2
   rw [smallK_iff] at s7
   have ek := stop (by rw [smallK_iff]; omega)
   simp +decide (disch := first | omega | (simp only [ll]; omega)) only [if_pos, go_sem]
   refine Runs.while (α := Nat) (iIbSt2 n (k + 1)) (fun j => k + 1 - j) (fun j => j ≤ k + 1) 0 (by omega) ?_ ?_
   ·simp [go_sem, iIbAnn, iIbSt2, iIbL]
   ·intro j hj ihj
    have hlen := iIbL_length n hj
    simp +decide only [iIbSt2, hlen, go_sem]
    refine Runs.split (fun h2 => ?_) (fun h2 => ?_)
    ·simp only [decide_eq_true_eq] at h2
     have hjk : j < k + 1 := by omega
     have hw : IntKind.i64.wrap (8 * (((k + 1 : Nat) : Int) - j - 1)) = ((8 * (k + 1 - j - 1) : Nat) : Int) := by rw [wrap_i64 (by omega) (by omega)]; omega
     simp +decide only [hw, hlen, go_sem]
     refine Runs.chk (by simp <;> omega) ?_
     simp +decide (disch := first | omega | (simp only [ll]; omega)) only [shrK n (k + 1 - j - 1) (by omega), hlen, if_pos, go_sem]
     refine ihj (j + 1) _ (by omega) (by omega) ?_
     simp [go_sem, iIbAnn, iIbSt2, iIbL_succ n hjk, hlen, ib]
     omega
    ·simp only [decide_eq_false_iff_not] at h2
     have hjk : j = k + 1 := by omega
     subst hjk
     simp +decide only [iIbL_all, tailB_length, go_sem]
     refine Runs.ret_eq ?_
     rw [intB, ek]
end Go.Proofs.W

namespace Go.Proofs.W
open Go Go.AM
variable (hm : Tryz.prog.follows .mixedOrders = true)
def feb (y : Nat) : Nat := if y % 4 = 0 then 29 else 28
def yl (y : Nat) : Nat := 337 + feb y
def ml (y : Nat) : Nat → Nat
 | 2 => feb y | 4 => 30 | 6 => 30 | 9 => 30 | 11 => 30 | _ => 31
def remM (y : Nat) : Nat → Nat
 | 1 => 337 + feb y | 2 => 306 + feb y | 3 => 306 | 4 => 275 | 5 => 245 | 6 => 214 | 7 => 184 | 8 => 153 | 9 => 122 | 10 => 92 | 11 => 61 | 12 => 31 | _ => 0
def yearGo : Nat → Nat → Nat → Nat × Nat
 | 0, y, d => (y, d)
 | f + 1, y, d => if yl y ≤ d then yearGo f (y + 1) (d - yl y) else (y, d)
def monthGo : Nat → Nat → Nat → Nat → Nat × Nat
 | 0, _, m, d => (m, d)
 | f + 1, y, m, d => if ml y m ≤ d then monthGo f y (m + 1) (d - ml y m) else (m, d)
structure DayR where
 y : Nat
 m : Nat
 d : Nat
 s : Nat
def dayP (t : Int) : DayR :=
 if inB t (-631152000) 4102444799 = true then
  let n := (t + 631152000).toNat
  let a := yearGo (n / 86400 + 1) 1950 (n / 86400)
  let b := monthGo 12 a.1 1 a.2
  ⟨a.1, b.1, b.2 + 1, n % 86400⟩
 else ⟨0, 0, 0, 0⟩
def dayA (r : DayR) : A := .tup [.v (.int .i64 r.y), .v (.int .i64 r.m), .v (.int .i64 r.d), .v (.int .i64 r.s)]
theorem inB_iff {n a b : Int} : inB n a b = true ↔ a ≤ n ∧ n ≤ b := by simp [inB]
end Go.Proofs.W

namespace Go.Proofs.W
open Go Go.AM
variable (hm : Tryz.prog.follows .mixedOrders = true)
def two (n : Nat) : ByteArray := ⟨#[UInt8.ofNat (48 + n / 10 % 10), UInt8.ofNat (48 + n % 10)]⟩
theorem two_size (n : Nat) : (two n).size = 2 := rfl
def restT (m d s : Nat) : ByteArray := two m ++ two d ++ two (s / 3600) ++ two (s / 60 % 60) ++ two (s % 60) ++ ⟨#[90]⟩
theorem z_size : (ByteArray.mk #[90]).size = 1 := rfl
attribute [local go_sem] two_size z_size
def shortOk (t : Int) : Bool := inB (dayP t).y 1950 2049
def shortT (t : Int) : ByteArray := if shortOk t = true then two (dayP t).y ++ restT (dayP t).m (dayP t).d (dayP t).s else ⟨#[]⟩
def longOk (t : Int) : Bool := !decide (((dayP t).y : Int) = 0)
def longT (t : Int) : ByteArray := if longOk t = true then two ((dayP t).y / 100) ++ two (dayP t).y ++ restT (dayP t).m (dayP t).d (dayP t).s else ⟨#[]⟩
end Go.Proofs.W

namespace Go.Proofs.W
open Go Go.AM
set_option maxRecDepth 10000
variable (hm : Tryz.prog.follows .mixedOrders = true)
structure It where
 tag : Int
 body : List Int
 kids : Int
def itemS (x : It) : A := .agg [.v (.int .i64 x.tag), .sl .sh (x.body.map u8A), .v (.int .i64 x.kids)]
def itemO (x : It) : A := .agg [.v (.int .i64 x.tag), .sl (.ow 1) (x.body.map u8A), .v (.int .i64 x.kids)]
theorem dn_itemS (L : List It) : dnL (L.map itemS) = L.map itemS := by rw [dnL_map]; simp [itemS, A.dn, dnL, dn_u8A]
theorem dn_itemO (L : List It) : dnL (L.map itemO) = L.map itemS := by rw [dnL_map]; simp [itemO, itemS, A.dn, dnL, dn_u8A]
theorem md_itemO (L : List It) : mdL (L.map itemO) = L.map itemO := by rw [mdL_eq, List.map_map]; simp [itemO, A.md, mdL, md_u8A]
theorem fr_itemO (L : List It) : freeL (L.map itemO) = true := by
 induction L with
 | nil => rfl
 | cons a l ih => simp [freeL, ih, itemO, A.free, fr_u8A]
theorem c3_itemO (L : List It) : (L.map itemO).all (fun a => a.cells.length == 3) = true := by simp [itemO, A.cells]
theorem pl1_itemO (x : It) : (itemO x).plain = false := by simp [plainL, itemO, A.plain, Sh.own]
theorem c_itemO (x : It) : (itemO x).cells.length = 3 := rfl
theorem fr1_itemO (x : It) : (itemO x).free = true := by simp [itemO, A.free, freeL, fr_u8A]
theorem md1_itemO (x : It) : (itemO x).md = itemO x := by simp [itemO, A.md, mdL, md_u8A]
attribute [go_sem] pl1_itemO c_itemO fr1_itemO md1_itemO dn_itemS dn_itemO md_itemO fr_itemO c3_itemO
include hm in
theorem l10Item (t : Int) (B : List Int) : Holds Tryz.prog 84 [.v (.int .i64 t), .sl (.ow 1) (B.map u8A)] [] (.sl (.ow 3) [itemO ⟨t, B, 0⟩]) [] := by
 refine holds_of (ann := []) tabOk hm Tryz.func84 (by kernel_rfl) rfl ?_
 simp +decide only [Tryz.f84, itemO, go_sem]
 exact Runs.ret_refl
include hm in
theorem l10Int (n : Int) (h1 : -9223372036854775808 ≤ n) (h2 : n < 9223372036854775808) : Holds Tryz.prog 80 [.v (.int .i64 n)] [] (.sl (.ow 3) [itemO ⟨2, intB n, 0⟩]) [] := by
 refine holds_ref (ann := []) tabOk hm (byL [] [84]) Tryz.func80 (by kernel_rfl) rfl ?_
 simp +decide only [Tryz.f80, go_sem]
 refine Runs.call (sIntBytes hm n h1 h2) ?_
 simp +decide only [go_sem]
 refine Runs.call (l10Item hm 2 (intB n)) ?_
 simp +decide only [itemO, go_sem]
 exact Runs.ret_refl
include hm in
theorem l10Made (t k : Int) (L : List It) (h : L.length ≤ 1000000) : Holds Tryz.prog 79 [.v (.int .i64 t), .v (.int .i64 k), .sl (.ow 3) (L.map itemO)] [] (.sl (.ow 3) (itemO ⟨t, [], k⟩ :: L.map itemO)) [] := by
 refine holds_of (ann := []) tabOk hm Tryz.func79 (by kernel_rfl) rfl ?_
 have le : ∀ (l : List A), Le (.sl (.ow 3) (.agg [.v (.int .i64 t), .v (.slice none 0 0), .v (.int .i64 k)] :: l)) (.sl (.ow 3) (itemO ⟨t, [], k⟩ :: l)) := fun l =>
  .sl _ (.agg (.same _ (.nils _ (.same _ .nil))) (LeD.refl _)) .nil
 cases L with
 | nil =>
  simp +decide only [Tryz.f79, List.map_nil, go_sem]
  exact Runs.ret (le _) rfl
 | cons x L =>
  simp only [List.length_cons] at h
  simp +decide (disch := first | omega | (simp only [ll]; omega)) only [Tryz.f79, List.map_cons, show 1 + (L.length + 1) = L.length + 1 + 1 by omega, if_pos, go_sem]
  exact Runs.ret (le _) rfl
def sInAnn : Ann := [(0, [0, 3, 4])]
def intI (n : Int) : It := ⟨2, intB n, 0⟩
def sInSt (L : List Int) (i : Nat) : St := ⟨[.sl .sh (L.map intA), .any, .any, .ms (.l 0) 0 i i, .v (.int .i64 i), .any, .any, .any, .any, .any, .any, .any, .any, .any, .any, .any, .any, .any, .any, .any], [(0, ⟨true, 3, false, mpre (fun n => itemO (intI n)) L i⟩)], []⟩
include hm in
theorem l10Ints (L : List Int) (h : L.length ≤ 1000000) (h4 : ∀ n ∈ L, -9223372036854775808 ≤ n ∧ n < 9223372036854775808) : Holds Tryz.prog 83 [.sl .sh (L.map intA)] [] (.sl (.ow 3) ((L.map intI).map itemO)) [] := by
 refine holds_of (ann := sInAnn) tabOk hm Tryz.func83 (by kernel_rfl) rfl ?_
 simp +decide only [Tryz.f83, go_sem]
 refine Runs.while (α := Nat) (sInSt L) (fun i => L.length - i) (fun i => i ≤ L.length) 0 (by omega) ?_ ?_
 ·simp [go_sem, sInAnn, sInSt, mpre_zero]
 ·intro i hi ih
  have hlen := mpre_length (fun n => itemO (intI n)) hi
  simp +decide only [sInSt, go_sem]
  refine Runs.split (fun h => ?_) (fun h => ?_)
  ·have hlt : i < L.length := by simpa using h
   obtain ⟨n1, n2⟩ := h4 L[i] (List.getElem_mem hlt)
   simp +decide (disch := first | omega | (simp only [ll]; omega)) only [hlen, if_pos, go_sem]
   refine Runs.call (l10Int hm L[i] n1 n2) ?_
   simp +decide (disch := first | omega | (simp only [ll]; omega)) only [hlen, if_pos, go_sem]
   refine ih (i + 1) _ (by omega) (by omega) ?_
   simp [go_sem, sInAnn, sInSt, mpre_succ _ hlt, intI]
  ·have hge : i = L.length := by simp at h; omega
   subst hge
   have ea := mpre_all (fun n => itemO (intI n)) L
   simp +decide only [hlen, ea, go_sem]
   refine Runs.ret_eq ?_
   simp [List.map_map]
def timeI (t : Int) : It := if shortOk t = true then ⟨23, bytesI (shortT t), 0⟩ else ⟨24, bytesI (longT t), 0⟩
end Go.Proofs.W

namespace Go.Proofs.W
open Go Go.AM
set_option maxRecDepth 10000
variable (hm : Tryz.prog.follows .mixedOrders = true)
inductive Nd where
 | mk (tag : Int) (body : List Int) (kids : List Nd)
mutual
def nodeO : Nd → A
 | .mk t b ks => .agg [.v (.int .i64 t), .sl (.ow 1) (b.map u8A), .sl (.ow 3) (nodesO ks)]
def nodesO : List Nd → List A
 | [] => []
 | n :: r => nodeO n :: nodesO r
end
mutual
def nodeS : Nd → A
 | .mk t b ks => .agg [.v (.int .i64 t), .sl .sh (b.map u8A), .sl .sh (nodesS ks)]
def nodesS : List Nd → List A
 | [] => []
 | n :: r => nodeS n :: nodesS r
end
theorem nodesO_eq (l : List Nd) : nodesO l = l.map nodeO := by induction l with
 | nil => rfl
 | cons a l ih => simp [nodesO, ih]
theorem nodesS_eq (l : List Nd) : nodesS l = l.map nodeS := by induction l with
 | nil => rfl
 | cons a l ih => simp [nodesS, ih]
theorem nodesO_length (l : List Nd) : (nodesO l).length = l.length := by rw [nodesO_eq, List.length_map]
theorem nodesS_length (l : List Nd) : (nodesS l).length = l.length := by rw [nodesS_eq, List.length_map]
mutual
theorem dn_nodeO : ∀ n, (nodeO n).dn = nodeS n
 | .mk t b ks => by simp [nodeO, nodeS, A.dn, dnL, dn_u8A, dn_nodesO ks]
theorem dn_nodesO : ∀ l, dnL (nodesO l) = nodesS l
 | [] => rfl
 | n :: r => by simp [nodesO, nodesS, dnL, dn_nodeO n, dn_nodesO r]
end
mutual
theorem dn_nodeS : ∀ n, (nodeS n).dn = nodeS n
 | .mk t b ks => by simp [nodeS, A.dn, dnL, dn_u8A, dn_nodesS ks]
theorem dn_nodesS : ∀ l, dnL (nodesS l) = nodesS l
 | [] => rfl
 | n :: r => by simp [nodesS, dnL, dn_nodeS n, dn_nodesS r]
end
mutual
theorem md_nodeO : ∀ n, (nodeO n).md = nodeO n
 | .mk t b ks => by simp [nodeO, A.md, mdL, md_u8A, md_nodesO ks]
theorem md_nodesO : ∀ l, mdL (nodesO l) = nodesO l
 | [] => rfl
 | n :: r => by simp [nodesO, mdL, md_nodeO n, md_nodesO r]
end
mutual
theorem fr_nodeO : ∀ n, (nodeO n).free = true
 | .mk t b ks => by simp [nodeO, A.free, freeL, fr_u8A, fr_nodesO ks]
theorem fr_nodesO : ∀ l, freeL (nodesO l) = true
 | [] => rfl
 | n :: r => by simp [nodesO, freeL, fr_nodeO n, fr_nodesO r]
end
mutual
theorem pl_nodeS : ∀ n, (nodeS n).plain = true
 | .mk t b ks => by simp [nodeS, A.plain, plainL, Sh.own, pl_nodesS ks, plainL_map, u8A]
theorem pl_nodesS : ∀ l, plainL (nodesS l) = true
 | [] => rfl
 | n :: r => by simp [nodesS, plainL, pl_nodeS n, pl_nodesS r]
end
attribute [go_sem] nodesO_length nodesS_length dn_nodeO dn_nodesO dn_nodeS dn_nodesS md_nodeO md_nodesO fr_nodeO fr_nodesO pl_nodeS pl_nodesS
include hm in
theorem leaf (t : Int) (B : List Int) : Holds Tryz.prog 90 [.v (.int .i64 t), .sl (.ow 1) (B.map u8A)] [] (nodeO (.mk t B [])) [] := by
 refine holds_of (ann := []) tabOk hm Tryz.func90 (by kernel_rfl) rfl ?_
 simp +decide only [Tryz.f90, go_sem]
 refine Runs.ret ?_ rfl
 exact .agg (.same _ (.same _ (.nils _ .nil))) .nil
include hm in
theorem listN (t : Int) (l : List Nd) : Holds Tryz.prog 46 [.v (.int .i64 t), .sl (.ow 3) (nodesO l)] [] (nodeO (.mk t [] l)) [] := by
 refine holds_of (ann := []) tabOk hm Tryz.func46 (by kernel_rfl) rfl ?_
 simp +decide only [Tryz.f46, go_sem]
 refine Runs.ret ?_ rfl
 exact .agg (.same _ (.nils _ (.same _ .nil))) .nil
def intN (n : Int) : Nd := .mk 2 (intB n) []
def txtN (t : Int) (s : ByteArray) : Nd := .mk t (bytesI s) []
def timeG (t : Int) : Int := if shortOk t = true then 23 else 24
def timeB (t : Int) : List Int := if shortOk t = true then bytesI (shortT t) else bytesI (longT t)
def timeN (t : Int) : Nd := .mk (timeG t) (timeB t) []
include hm in
theorem integer (n : Int) (h1 : -9223372036854775808 ≤ n) (h2 : n < 9223372036854775808) : Holds Tryz.prog 47 [.v (.int .i64 n)] [] (nodeO (.mk 2 (intB n) [])) [] := by
 refine holds_ref (ann := []) tabOk hm (byL [] [90]) Tryz.func47 (by kernel_rfl) rfl ?_
 simp +decide only [Tryz.f47, go_sem]
 refine Runs.call (iIntBytes hm n h1 h2) ?_
 simp +decide only [go_sem]
 refine Runs.call (leaf hm 2 (intB n)) ?_
 simp +decide only [nodeO, nodesO, go_sem]
 exact Runs.ret_refl
def iInAnn : Ann := [(0, [3, 7, 8, 9])]
def iInSt (L : List Int) (i : Nat) : St := ⟨[.any, .any, .any, .ms (.l 0) 0 i i, .any, .any, .any, .sl .sh (L.map intA), .v (.int .i64 L.length), .v (.int .i64 i), .any, .any, .any, .any, .any, .any, .any, .any, .any, .any], [(0, ⟨true, 3, false, mpre (fun n => nodeO (intN n)) L i⟩)], []⟩
include hm in
theorem integers (L : List Int) (h : L.length ≤ 1000000) (h4 : ∀ n ∈ L, -9223372036854775808 ≤ n ∧ n < 9223372036854775808) : Holds Tryz.prog 49 [.sl .sh (L.map intA)] [] (.sl (.ow 3) (nodesO (L.map intN))) [] := by
 refine holds_of (ann := iInAnn) tabOk hm Tryz.func49 (by kernel_rfl) rfl ?_
 simp +decide only [Tryz.f49, go_sem]
 refine Runs.while (α := Nat) (iInSt L) (fun i => L.length - i) (fun i => i ≤ L.length) 0 (by omega) ?_ ?_
 ·simp [go_sem, iInAnn, iInSt, mpre_zero]
 ·intro i hi ih
  have hlen := mpre_length (fun n => nodeO (intN n)) hi
  simp +decide only [iInSt, go_sem]
  refine Runs.split (fun h => ?_) (fun h => ?_)
  ·have hlt : i < L.length := by simpa using h
   obtain ⟨n1, n2⟩ := h4 L[i] (List.getElem_mem hlt)
   simp +decide (disch := first | omega | (simp only [ll]; omega)) only [hlen, if_pos, go_sem]
   refine Runs.call (integer hm L[i] n1 n2) ?_
   simp +decide (disch := first | omega | (simp only [ll]; omega)) only [hlen, nodeO, nodesO, if_pos, go_sem]
   refine ih (i + 1) _ (by omega) (by omega) ?_
   simp [go_sem, iInAnn, iInSt, mpre_succ _ hlt, intN, nodeO, nodesO]
  ·have hge : i = L.length := by simp at h; omega
   subst hge
   have ea := mpre_all (fun n => nodeO (intN n)) L
   simp +decide only [hlen, ea, go_sem]
   refine Runs.ret_eq ?_
   rw [nodesO_eq, List.map_map]
   rfl
include hm in
theorem cloneB (B : List Int) (h : B.length ≤ 1073741824) : Holds Tryz.prog 53 [.sl .sh (B.map u8A)] [] (.sl (.ow 1) (B.map u8A)) [] := by
 refine holds_of (ann := []) tabOk hm Tryz.func53 (by kernel_rfl) rfl ?_
 cases B with
 | nil =>
  simp +decide only [Tryz.f53, go_sem]
  refine ⟨?_, ?_⟩
  ·exact Runs.ret (.nils _ .nil) rfl
  ·exact Runs.ret_refl
 | cons b B =>
  simp only [List.length_cons] at h
  simp +decide (disch := first | omega | (simp only [ll]; omega)) only [Tryz.f53, u8A, if_pos, go_sem]
  exact Runs.ret_refl
mutual
def itemsN : Nd → List It
 | .mk t b ks => ⟨t, b, ks.length⟩ :: itemsNL ks
def itemsNL : List Nd → List It
 | [] => []
 | n :: r => itemsN n ++ itemsNL r
end
theorem itemsN_mk (t : Int) (b : List Int) (ks : List Nd) : itemsN (.mk t b ks) = ⟨t, b, ks.length⟩ :: itemsNL ks := by rw [itemsN]
theorem itemsNL_app (l m : List Nd) : itemsNL (l ++ m) = itemsNL l ++ itemsNL m := by
 induction l with
 | nil => rfl
 | cons a l ih => simp [itemsNL, ih, List.append_assoc]
def itPre (ks : List Nd) (i : Nat) : List It := itemsNL (ks.take i)
theorem itPre_zero (ks : List Nd) : itPre ks 0 = [] := rfl
theorem itPre_succ {ks : List Nd} {i : Nat} (h : i < ks.length) : itPre ks (i + 1) = itPre ks i ++ itemsN ks[i] := by
 rw [itPre, List.take_succ_eq_append_getElem h, itemsNL_app]
 simp [itPre, itemsNL]
theorem itPre_all (ks : List Nd) : itPre ks ks.length = itemsNL ks := by rw [itPre, List.take_length]
theorem itPre_le (ks : List Nd) (i : Nat) : (itPre ks i).length ≤ (itemsNL ks).length := by
 have := itemsNL_app (ks.take i) (ks.drop i)
 rw [List.take_append_drop] at this
 rw [this, itPre, List.length_append]
 omega
mutual
def szN : Nd → Nat
 | .mk _ _ ks => szNL ks + 1
def szNL : List Nd → Nat
 | [] => 0
 | n :: r => szN n + szNL r
end
theorem szN_get : ∀ {ks : List Nd} {i : Nat} (h : i < ks.length), szN ks[i] ≤ szNL ks
 | a :: ks, 0, h => by simp [szNL]
 | a :: ks, i + 1, h => by
  have := szN_get (ks := ks) (i := i) (by simpa using h)
  simp only [szNL, List.getElem_cons_succ]
  omega
theorem nodesS_get {ks : List Nd} {i : Nat} (h : i < ks.length) : (nodesS ks).getD i .any = nodeS ks[i] := by rw [nodesS_eq]; simp [List.getD, h]
mutual
def bodiesLe (m : Nat) : Nd → Prop
 | .mk _ b ks => b.length ≤ m ∧ bodiesLeL m ks
def bodiesLeL (m : Nat) : List Nd → Prop
 | [] => True
 | n :: r => bodiesLe m n ∧ bodiesLeL m r
end
theorem bodiesLe_get {m : Nat} : ∀ {ks : List Nd} {i : Nat} (h : i < ks.length), bodiesLeL m ks → bodiesLe m ks[i]
 | a :: ks, 0, h, hb => hb.1
 | a :: ks, i + 1, h, hb => by
  have := bodiesLe_get (ks := ks) (i := i) (by simpa using h) hb.2
  simpa using this
mutual
def kidsLe (m : Nat) : Nd → Prop
 | .mk _ _ ks => ks.length ≤ m ∧ kidsLeL m ks
def kidsLeL (m : Nat) : List Nd → Prop
 | [] => True
 | n :: r => kidsLe m n ∧ kidsLeL m r
end
theorem kidsLe_get {m : Nat} : ∀ {ks : List Nd} {i : Nat} (h : i < ks.length), kidsLeL m ks → kidsLe m ks[i]
 | a :: ks, 0, h, hb => hb.1
 | a :: ks, i + 1, h, hb => by
  have := kidsLe_get (ks := ks) (i := i) (by simpa using h) hb.2
  simpa using this
def itAnn : Ann := [(0, [3, 17, 18, 19])]
def itSch : Sched := .take 0 (.take 2 (.take 5 (.ld 1 (.ld 3 (.ld 6 (.take 7 (.alt 4 (.alt 8 (.alt 9 (.take 10 .fin) .nil) .nil) .nil)))))))
def itSt (t : Int) (b : List Int) (ks : List Nd) (i : Nat) : St := ⟨[.any, .any, .any, .ms (.l 0) 0 ((itPre ks i).length + 1) ((itPre ks i).length + 1), .any, .any, .any, .any, .any, .any, .any, .any, .any, .any, .any, .any, .any, .sl .sh (nodesS ks), .v (.int .i64 ks.length), .v (.int .i64 i), .any, .any, .any, .any, .any, .any, .any, .any, .any], [(0, ⟨true, 3, false, itemO ⟨t, b, ks.length⟩ :: (itPre ks i).map itemO⟩)], []⟩
attribute [local go_sem] itSch
include hm in
theorem items : ∀ (m : Nat) (n : Nd), szN n ≤ m → (itemsN n).length ≤ 100000 → bodiesLe 1073741824 n → kidsLe 1000000 n → Holds Tryz.prog 17 [nodeS n] [] (.sl (.ow 3) ((itemsN n).map itemO)) [] := by
 intro m
 induction m with
 | zero => intro n h; cases n; simp [szN] at h
 | succ m IH =>
  rintro ⟨t, b, ks⟩ hz hl hb hk
  obtain ⟨hb1, hb2⟩ := hb
  obtain ⟨hk1, hk2⟩ := hk
  simp only [szN] at hz
  simp only [itemsN, List.length_cons] at hl
  refine holds_ref (ann := itAnn) tabOk hm (byL [] [1000001]) Tryz.func17 (by kernel_rfl) rfl ?_
  simp +decide only [Tryz.f17, nodeS, go_sem]
  refine Runs.draw (st1 := ?s1) (draws_ref (ann := itAnn) tabOk (byL [] [1000001]) itSch (by kernel_rfl) ?p1) ?q1
  case p1 =>
   intro K r X hK
   simp +decide only [go_sem]
   refine Runs.call (cloneB hm b hb1) ?_
   simp +decide only [go_sem]
   exact hK
  case q1 =>
   simp +decide only [go_sem]
   refine Runs.while (α := Nat) (itSt t b ks) (fun i => ks.length - i) (fun i => i ≤ ks.length) 0 (by omega) ?_ ?_
   ·simp [go_sem, itAnn, itSt, itPre_zero, itemO]
   ·intro i hi ih
    simp +decide only [itSt, go_sem]
    refine Runs.split (fun h => ?_) (fun h => ?_)
    ·have hlt : i < ks.length := by simpa using h
     have e1 := itPre_le ks (i + 1)
     have e2 := itPre_succ hlt
     have e3 : (itPre ks (i + 1)).length = (itPre ks i).length + (itemsN ks[i]).length := by rw [e2, List.length_append]
     have e4 := szN_get hlt
     have e5 := IH ks[i] (by omega) (by omega) (bodiesLe_get hlt hb2) (kidsLe_get hlt hk2)
     have e6 := nodesS_get hlt
     have e7 : (itPre ks (i + 1)).map itemO = (itPre ks i).map itemO ++ (itemsN ks[i]).map itemO := by rw [e2, List.map_append]
     generalize ks[i] = k at e3 e5 e6 e7
     obtain ⟨t', b', ks'⟩ := k
     rw [nodeS] at e5 e6
     rw [itemsN_mk] at e3 e5 e7
     generalize (⟨t', b', ks'.length⟩ : It) = x' at e3 e5 e7
     generalize itemsNL ks' = L' at e3 e5 e7
     rw [List.map_cons] at e5 e7
     rw [List.length_cons] at e3
     simp +decide (disch := first | omega | (simp only [ll]; omega)) only [e6, if_pos, go_sem]
     refine Runs.call e5 ?_
     simp +decide (disch := first | omega | (simp only [ll]; omega)) only [if_pos, go_sem]
     refine ih (i + 1) _ (by omega) (by omega) ?_
     simp [go_sem, itAnn, itSt, e7, e3, Nat.add_assoc, Nat.add_comm, Nat.add_left_comm]
    ·have hge : i = ks.length := by simp at h; omega
     subst hge
     simp +decide only [itPre_all, go_sem]
     refine Runs.ret_eq ?_
     simp [itemsN]
end Go.Proofs.W

namespace Go.Proofs.W
open Go Go.AM
variable (hm : Tryz.prog.follows .mixedOrders = true)
def iterO (f : Nat → Option Nat) : Nat → Nat → Option Nat
 | 0, n => some n
 | k + 1, n => match f n with
  | some m => iterO f k m
  | none => none
def endP (L : List It) : Nat → Nat → Option Nat
 | 0, _ => none
 | d + 1, i => match L[i]? with
  | some x => iterO (endP L d) x.kids.toNat (i + 1)
  | none => none
def endI : Option Nat → Int
 | some n => n
 | none => -1
theorem iterO_le {f : Nat → Option Nat} {m : Nat} (hf : ∀ i n, f i = some n → i < n ∧ n ≤ m) : ∀ k i n, i ≤ m → iterO f k i = some n → i ≤ n ∧ n ≤ m
 | 0, i, n, hi, h => by simp [iterO] at h; omega
 | k + 1, i, n, hi, h => by
  simp only [iterO] at h
  cases e : f i with
  | none => rw [e] at h; simp at h
  | some j =>
   rw [e] at h
   have h1 := hf i j e
   have h2 := iterO_le hf k j n (by omega) h
   omega
theorem endP_le {L : List It} : ∀ d i n, endP L d i = some n → i < n ∧ n ≤ L.length
 | 0, i, n, h => by simp [endP] at h
 | d + 1, i, n, h => by
  simp only [endP] at h
  cases e : L[i]? with
  | none => rw [e] at h; simp at h
  | some x =>
   rw [e] at h
   have hlt : i < L.length := (List.getElem?_eq_some_iff.1 e).1
   have := iterO_le (fun i n => endP_le d i n) _ (i + 1) n (by omega) h
   omega
theorem endP_none {L : List It} {d i : Nat} (h : L.length ≤ i) : endP L d i = none := by
 cases d with
 | zero => rfl
 | succ d => rw [endP, List.getElem?_eq_none h]
theorem endP_some {L : List It} {d i : Nat} (h : i < L.length) : endP L (d + 1) i = iterO (endP L d) L[i].kids.toNat (i + 1) := by
 rw [endP, List.getElem?_eq_getElem h]
theorem getItem {L : List It} {i : Nat} (h : i < L.length) : (L.map itemS).getD i .any = .agg [.v (.int .i64 L[i].tag), .sl .sh (L[i].body.map u8A), .v (.int .i64 L[i].kids)] := by
 simp [List.getD, h, itemS]
def kidsOk (L : List It) : Prop := ∀ x ∈ L, 0 ≤ x.kids ∧ x.kids ≤ 300
def kAnn : Ann := [(0, [0, 1, 2, 7, 22, 23])]
def kSt (L : List It) (i : Nat) (d : Nat) (k : Int) (p : Nat × Nat) : St := ⟨[.sl .sh (L.map itemS), .v (.int .i64 i), .v (.int .i64 d), .any, .any, .any, .any, .v (.int .i64 p.2), .any, .any, .any, .any, .any, .any, .any, .any, .any, .any, .any, .any, .any, .any, .v (.int .i64 k), .v (.int .i64 p.1), .any, .any, .any, .any, .any, .any, .any, .any, .any, .any], [], []⟩
set_option maxRecDepth 10000 in
include hm in
theorem skip (L : List It) (hk : kidsOk L) (hl : L.length ≤ 1000000) : ∀ (d i e : Nat), d + e = 13 → i ≤ L.length → Holds Tryz.prog 40 [.sl .sh (L.map itemS), .v (.int .i64 i), .v (.int .i64 e)] [] (.v (.int .i64 (endI (endP L d i)))) [] := by
 intro d
 induction d with
 | zero =>
  intro i e hd hi
  have he : e = 13 := by omega
  subst he
  refine holds_of (ann := kAnn) tabOk hm Tryz.func40 (by kernel_rfl) rfl ?_
  simp +decide only [Tryz.f40, go_sem]
  refine Runs.split (fun h => ?_) (fun h => ?_)
  ·simp +decide only [go_sem]
   exact Runs.ret_v
  ·simp +decide (disch := first | omega | (simp only [ll]; omega)) only [if_pos, go_sem]
   exact Runs.ret_v
 | succ d IH =>
  intro i e hd hi
  refine holds_of (ann := kAnn) tabOk hm Tryz.func40 (by kernel_rfl) rfl ?_
  simp +decide only [Tryz.f40, go_sem]
  refine Runs.split (fun h => ?_) (fun h => ?_)
  ·have hge : L.length ≤ i := by simpa using h
   simp +decide only [endP_none hge, endI, go_sem]
   exact Runs.ret_v
  ·have hlt : i < L.length := by simpa using h
   have hd : decide ((12 : Int) < (e : Int)) = false := by simp; omega
   obtain ⟨k1, k2⟩ := hk L[i] (List.getElem_mem hlt)
   simp +decide (disch := first | omega | (simp only [ll]; omega)) only [hd, getItem hlt, if_pos, go_sem]
   refine Runs.while (α := Nat × Nat) (kSt L i e L[i].kids) (fun p => 300 - p.1) (fun p => p.1 ≤ L[i].kids.toNat ∧ p.2 ≤ L.length ∧ iterO (endP L d) (L[i].kids.toNat - p.1) p.2 = endP L (d + 1) i) (0, i + 1) ⟨by omega, by omega, by rw [endP_some hlt]; rfl⟩ ?_ ?_
   ·simp [go_sem, kAnn, kSt]
   ·rintro ⟨j, n⟩ ⟨hj, hn, hr⟩ ih
    simp only at hj hn hr
    simp +decide (disch := first | omega | (simp only [ll]; omega)) only [kSt, if_pos, go_sem]
    refine Runs.split (fun h => ?_) (fun h => ?_)
    ·have hjk : (j : Int) < L[i].kids := by simpa using h
     have e1 : L[i].kids.toNat - j = L[i].kids.toNat - (j + 1) + 1 := by omega
     simp +decide (disch := first | omega | (simp only [ll]; omega)) only [if_pos, go_sem]
     refine Runs.call (IH n (e + 1) (by omega) hn) ?_
     rw [e1, iterO] at hr
     cases e2 : endP L d n with
     | none =>
      rw [e2] at hr
      simp +decide only [endI, ← hr, go_sem]
      exact Runs.ret_v
     | some n' =>
      rw [e2] at hr
      have := endP_le _ _ _ e2
      simp +decide only [endI, go_sem]
      refine Runs.split (fun h => ?_) (fun h => ?_)
      ·simp at h; omega
      ·simp +decide (disch := first | omega | (simp only [ll]; omega)) only [if_pos, go_sem]
       refine ih (j + 1, n') _ (by simp only; omega) ⟨by simp only; omega, by simp only; omega, hr⟩ ?_
       simp [go_sem, kAnn, kSt]
    ·have hjk : ¬ (j : Int) < L[i].kids := by simpa using h
     have e1 : L[i].kids.toNat - j = 0 := by omega
     rw [e1, iterO] at hr
     simp +decide only [← hr, endI, go_sem]
     exact Runs.ret_v
end Go.Proofs.W

namespace Go.Proofs.W
open Go Go.AM
set_option maxRecDepth 10000
variable (hm : Tryz.prog.follows .mixedOrders = true)
def made (t : Int) : Bool := decide (t / 32 % 2 = 1)
def itOk (x : It) : Bool := inB x.tag 0 255 && decide (x.tag % 32 ≠ 31) && inB x.kids 0 300 && (if made x.tag then x.body.isEmpty else decide (x.kids = 0))
def treeOk (L : List It) : Bool := inB L.length 1 300 && L.all itOk && decide (endI (endP L 13 0) = L.length)
theorem bits5 : ∀ t : Fin 256, (BitVec.ofNat 64 t.val &&& BitVec.ofNat 64 31).toNat = t.val % 32 ∧ (BitVec.ofNat 64 t.val &&& BitVec.ofNat 64 32).toNat = t.val / 32 % 2 * 32 := by decide +kernel
theorem and31 {t : Int} (h1 : 0 ≤ t) (h2 : t ≤ 255) : andI .i64 t 31 = t % 32 := by
 show IntKind.i64.wrap ((BitVec.ofInt 64 t &&& BitVec.ofInt 64 31).toNat : Int) = t % 32
 obtain ⟨n, rfl⟩ := Int.eq_ofNat_of_zero_le h1
 have := (bits5 ⟨n, by omega⟩).1
 simp only [BitVec.ofInt_ofNat, BitVec.ofInt_natCast] at this ⊢
 rw [this, wrap_i64 (by omega) (by omega)]; omega
theorem and32 {t : Int} (h1 : 0 ≤ t) (h2 : t ≤ 255) : andI .i64 t 32 = t / 32 % 2 * 32 := by
 show IntKind.i64.wrap ((BitVec.ofInt 64 t &&& BitVec.ofInt 64 32).toNat : Int) = t / 32 % 2 * 32
 obtain ⟨n, rfl⟩ := Int.eq_ofNat_of_zero_le h1
 have := (bits5 ⟨n, by omega⟩).2
 simp only [BitVec.ofInt_ofNat, BitVec.ofInt_natCast] at this ⊢
 rw [this, wrap_i64 (by omega) (by omega)]; omega
include hm in
theorem isMade (t : Int) (h1 : 0 ≤ t) (h2 : t ≤ 255) : Holds Tryz.prog 78 [.v (.int .i64 t)] [] (.v (.bool (made t))) [] := by
 refine holds_of (ann := []) tabOk hm Tryz.func78 (by kernel_rfl) rfl ?_
 simp +decide (disch := first | omega | (simp only [ll]; omega)) only [Tryz.f78, and32 h1 h2, if_pos, go_sem]
 refine Runs.ret_eq ?_
 simp [made]
 by_cases h : t / 32 % 2 = 1 <;> simp [h] <;> omega
include hm in
theorem itemOk (x : It) : Holds Tryz.prog 39 [itemS x] [] (.v (.bool (itOk x))) [] := by
 refine holds_of (ann := []) tabOk hm Tryz.func39 (by kernel_rfl) rfl ?_
 obtain ⟨t, B, k⟩ := x
 simp +decide only [Tryz.f39, itemS, go_sem]
 refine Runs.call (within hm t 0 255) ?_
 simp +decide only [go_sem]
 refine Runs.split (fun h => ?_) (fun h => ?_)
 ·have h' : inB t 0 255 = false := by simpa using h
  simp +decide only [h', go_sem]
  refine Runs.ret_eq ?_
  simp [itOk, h']
 ·have h' : inB t 0 255 = true := by simpa using h
  have h1 : 0 ≤ t ∧ t ≤ 255 := by simpa [inB] using h'
  simp +decide only [h', and31 h1.1 h1.2, go_sem]
  refine Runs.split (fun h => ?_) (fun h => ?_)
  ·have e : t % 32 = 31 := by simpa using h
   simp +decide only [e, go_sem]
   refine Runs.ret_eq ?_
   simp [itOk, e]
  ·have e : ¬ t % 32 = 31 := by simpa using h
   simp +decide only [e, go_sem]
   refine Runs.call (isMade hm t h1.1 h1.2) ?_
   simp +decide only [go_sem]
   refine Runs.split (fun h => ?_) (fun h => ?_)
   ·simp +decide only [h, go_sem]
    refine Runs.split (fun h2 => ?_) (fun h2 => ?_)
    ·have e2 : B = [] := by simpa using h2
     simp +decide only [e2, go_sem]
     refine Runs.call (within hm k 0 300) ?_
     simp +decide only [go_sem]
     refine Runs.ret_eq ?_
     simp [itOk, h', e, h]
    ·have e2 : ¬ B = [] := by simpa using h2
     simp +decide only [e2, go_sem]
     refine Runs.ret_eq ?_
     simp [itOk, h', e, h, e2]
   ·simp +decide only [h, go_sem]
    refine Runs.ret_eq ?_
    simp [itOk, h', e, h, inB]
    by_cases hk : k = 0 <;> simp [hk, h1]
include hm in
theorem treeOkF (x : It) : Holds Tryz.prog 38 [itemS x] [] (.v (.bool (!itOk x))) [] := by
 refine holds_of (ann := []) tabOk hm Tryz.func38 (by kernel_rfl) rfl ?_
 have := itemOk hm x
 obtain ⟨t, B, k⟩ := x
 rw [itemS] at this
 simp +decide only [Tryz.f38, itemS, go_sem]
 refine Runs.call this ?_
 simp +decide only [go_sem]
 exact Runs.ret_v
def firstBad : List It → Nat → Int
 | [], _ => -1
 | x :: r, i => if itOk x then firstBad r (i + 1) else i
theorem firstBad_get {L : List It} {i : Nat} (h : i < L.length) : firstBad (L.drop i) i = if itOk L[i] then firstBad (L.drop (i + 1)) (i + 1) else i := by
 rw [List.drop_eq_getElem_cons h, firstBad]
theorem firstBad_end (L : List It) (i : Nat) (h : L.length ≤ i) : firstBad (L.drop i) i = -1 := by
 rw [List.drop_eq_nil_iff.2 h, firstBad]
theorem firstBad_ge : ∀ (L : List It) (i : Nat), decide (0 ≤ firstBad L i) = !L.all itOk
 | [], i => rfl
 | x :: r, i => by
  rw [firstBad]
  by_cases h : itOk x
  ·simp [h, firstBad_ge r (i + 1)]
  ·simp [h]
def ixAnn : Ann := [(0, [0, 1, 7, 8])]
def ixSt (F : A) (L : List It) (i : Nat) : St := ⟨[.sl .sh (L.map itemS), F, .any, .any, .any, .any, .any, .v (.int .i64 L.length), .v (.int .i64 i), .any, .any, .any, .any, .any, .any, .any, .any, .any, .any], [], []⟩
include hm in
theorem indexFunc (L : List It) (hl : L.length ≤ 1048576) : Holds Tryz.prog 77 [.sl .sh (L.map itemS), .v (.func (.func 38) #[] #[])] [] (.v (.int .i64 (firstBad L 0))) [] := by
 refine holds_of (ann := ixAnn) tabOk hm Tryz.func77 (by kernel_rfl) rfl ?_
 simp +decide only [Tryz.f77, go_sem]
 refine Runs.while (α := Nat) (ixSt (.v (.func (.func 38) #[] #[])) L) (fun i => L.length - i) (fun i => i ≤ L.length ∧ firstBad (L.drop i) i = firstBad L 0) 0 ⟨by omega, rfl⟩ ?_ ?_
 ·simp [go_sem, ixAnn, ixSt]
 ·rintro i ⟨hi, hb⟩ ih
  simp +decide only [ixSt, go_sem]
  refine Runs.split (fun h => ?_) (fun h => ?_)
  ·have hlt : i < L.length := by simpa using h
   simp +decide (disch := first | omega | (simp only [ll]; omega)) only [getItem hlt, if_pos, go_sem]
   refine Runs.call (treeOkF hm L[i]) ?_
   simp +decide only [go_sem]
   rw [firstBad_get hlt] at hb
   refine Runs.split (fun h => ?_) (fun h => ?_)
   ·have hx : itOk L[i] = false := by simpa using h
    rw [hx] at hb
    simp +decide only [← hb, go_sem]
    exact Runs.ret_v
   ·have hx : itOk L[i] = true := by simpa using h
    rw [hx] at hb
    simp +decide (disch := first | omega | (simp only [ll]; omega)) only [if_pos, go_sem]
    refine ih (i + 1) _ (by omega) ⟨by omega, hb⟩ ?_
    simp [go_sem, ixAnn, ixSt]
  ·have hge : L.length ≤ i := by simpa using h
   rw [firstBad_end L i hge] at hb
   simp +decide only [← hb, go_sem]
   exact Runs.ret_v
include hm in
theorem containsFunc (L : List It) (hl : L.length ≤ 1048576) : Holds Tryz.prog 37 [.sl .sh (L.map itemS), .v (.func (.func 38) #[] #[])] [] (.v (.bool (!L.all itOk))) [] := by
 refine holds_of (ann := []) tabOk hm Tryz.func37 (by kernel_rfl) rfl ?_
 simp +decide only [Tryz.f37, go_sem]
 refine Runs.call (indexFunc hm L hl) ?_
 simp +decide only [go_sem]
 refine Runs.ret_eq ?_
 rw [← firstBad_ge L 0]
theorem kidsOk_of {L : List It} (h : L.all itOk = true) : kidsOk L := by
 intro x hx
 have := List.all_eq_true.1 h x hx
 simp [itOk, inB] at this
 omega
include hm in
theorem implTreeOk (L : List It) (hl : L.length ≤ 1048576) : Holds Tryz.prog 11 [.sl .sh (L.map itemS)] [] (.v (.bool (treeOk L))) [] := by
 refine holds_of (ann := []) tabOk hm Tryz.func11 (by kernel_rfl) rfl ?_
 simp +decide only [Tryz.f11, go_sem]
 refine Runs.call (within hm L.length 1 300) ?_
 simp +decide only [go_sem]
 refine Runs.split (fun h => ?_) (fun h => ?_)
 ·have h' : inB L.length 1 300 = false := by simpa using h
  simp +decide only [go_sem]
  refine Runs.ret_eq ?_
  simp [treeOk, h']
 ·have h' : inB L.length 1 300 = true := by simpa using h
  simp +decide only [go_sem]
  refine Runs.call (containsFunc hm L hl) ?_
  simp +decide only [go_sem]
  refine Runs.split (fun h => ?_) (fun h => ?_)
  ·have h2 : L.all itOk = false := by simpa using h
   simp +decide only [h2, go_sem]
   refine Runs.ret_eq ?_
   simp [treeOk, h', h2]
  ·have h2 : L.all itOk = true := by simpa using h
   simp +decide only [h2, go_sem]
   refine Runs.call (skip hm L (kidsOk_of h2) (by have := inB_iff.mp h'; omega) 13 0 0 (by omega) (by omega)) ?_
   simp +decide only [go_sem]
   refine Runs.ret_eq ?_
   rw [treeOk, h', h2]
   rfl
end Go.Proofs.W

namespace Go.Proofs.W
open Go Go.AM
variable (hm : Tryz.prog.follows .mixedOrders = true)
def iterN (f : Nat → Nd × Nat) : Nat → Nat → List Nd × Nat
 | 0, n => ([], n)
 | k + 1, n => ((f n).1 :: (iterN f k (f n).2).1, (iterN f k (f n).2).2)
def nestP (L : List It) : Nat → Nat → Nd × Nat
 | 0, i => (.mk 0 [] [], i)
 | d + 1, i => match L[i]? with
  | some x => (.mk x.tag x.body (iterN (nestP L d) x.kids.toNat (i + 1)).1, (iterN (nestP L d) x.kids.toNat (i + 1)).2)
  | none => (.mk 0 [] [], i)
theorem nestP_get {L : List It} {d i : Nat} (h : i < L.length) : nestP L (d + 1) i = (.mk L[i].tag L[i].body (iterN (nestP L d) L[i].kids.toNat (i + 1)).1, (iterN (nestP L d) L[i].kids.toNat (i + 1)).2) := by
 rw [nestP, List.getElem?_eq_getElem h]
mutual
def enc : Nd → List Int
 | .mk t b ks => ib t :: (l7Len (b ++ encL ks).length ++ (b ++ encL ks))
def encL : List Nd → List Int
 | [] => []
 | n :: r => enc n ++ encL r
end
mutual
def wN : Nd → Nat
 | .mk _ b ks => b.length + 4 + wNL ks
def wNL : List Nd → Nat
 | [] => 0
 | n :: r => wN n + wNL r
end
mutual
theorem enc_le : ∀ n, (enc n).length ≤ wN n
 | .mk t b ks => by
  have := encL_le ks
  have h2 := l7Len_length (b ++ encL ks).length
  simp only [enc, wN, List.length_cons, List.length_append] at h2 ⊢
  omega
theorem encL_le : ∀ l, (encL l).length ≤ wNL l
 | [] => by simp [encL, wNL]
 | n :: r => by
  have := enc_le n
  have h2 := encL_le r
  simp only [encL, wNL, List.length_append]
  omega
end
mutual
def okN : Nd → Prop
 | .mk _ b ks => (ks = [] ∨ b = []) ∧ okNL ks
def okNL : List Nd → Prop
 | [] => True
 | n :: r => okN n ∧ okNL r
end
def wI (L : List It) (i : Nat) : Nat := ((L.take i).map fun x => x.body.length + 4).sum
theorem wI_succ {L : List It} {i : Nat} (h : i < L.length) : wI L (i + 1) = wI L i + (L[i].body.length + 4) := by
 rw [wI, List.take_succ_eq_append_getElem h, List.map_append, List.sum_append]
 rw [wI, List.map_cons, List.map_nil, List.sum_cons, List.sum_nil, Nat.add_zero]
theorem iterN_wt {L : List It} {f : Nat → Nd × Nat} {g : Nat → Option Nat} (hf : ∀ i n, g i = some n → (f i).2 = n ∧ wN (f i).1 + wI L i = wI L n) :
  ∀ k i n, iterO g k i = some n → (iterN f k i).2 = n ∧ wNL (iterN f k i).1 + wI L i = wI L n ∧ (iterN f k i).1.length = k
 | 0, i, n, h => by
  simp [iterO] at h; subst h; simp [iterN, wNL]
 | k + 1, i, n, h => by
  simp only [iterO] at h
  cases e : g i with
  | none => rw [e] at h; simp at h
  | some j =>
   rw [e] at h
   obtain ⟨h1, h2⟩ := hf i j e
   have h3 := iterN_wt hf k j n h
   simp only [iterN, wNL, List.length_cons, h1]
   exact ⟨h3.1, by omega, by omega⟩
theorem nestP_wt {L : List It} : ∀ d i n, endP L d i = some n → (nestP L d i).2 = n ∧ wN (nestP L d i).1 + wI L i = wI L n
 | 0, i, n, h => by simp [endP] at h
 | d + 1, i, n, h => by
  have hlt : i < L.length := by
   rcases Nat.lt_or_ge i L.length with h1 | h1
   ·exact h1
   ·rw [endP_none h1] at h; simp at h
  rw [endP_some hlt] at h
  have := iterN_wt (L := L) (f := nestP L d) (fun i n => nestP_wt d i n) _ _ _ h
  rw [nestP_get hlt]
  simp only [wN]
  have h2 := wI_succ hlt
  refine ⟨this.1, ?_⟩
  have h3 := this.2.1
  omega
mutual
def nodeM : Nd → A
 | .mk t b ks => .agg [.v (.int .i64 t), .sl .sh (b.map u8A), .sl (.ow 3) (nodesM ks)]
def nodesM : List Nd → List A
 | [] => []
 | n :: r => nodeM n :: nodesM r
end
theorem nodesM_eq (l : List Nd) : nodesM l = l.map nodeM := by induction l with
 | nil => rfl
 | cons a l ih => simp [nodesM, ih]
theorem nodesM_length (l : List Nd) : (nodesM l).length = l.length := by rw [nodesM_eq, List.length_map]
theorem nodesM_app (l : List Nd) (n : Nd) : nodesM (l ++ [n]) = nodesM l ++ [nodeM n] := by simp [nodesM_eq]
mutual
theorem dn_nodeM : ∀ n, (nodeM n).dn = nodeS n
 | .mk t b ks => by simp [nodeM, nodeS, A.dn, dnL, dn_u8A, dn_nodesM ks]
theorem dn_nodesM : ∀ l, dnL (nodesM l) = nodesS l
 | [] => rfl
 | n :: r => by simp [nodesM, nodesS, dnL, dn_nodeM n, dn_nodesM r]
end
theorem tk_nodesM (l : List Nd) : List.take l.length (nodesM l) = nodesM l := by rw [← nodesM_length, List.take_length]
theorem own_ow {k : Nat} : (Sh.ow k).own = true := rfl
theorem own_sh : Sh.sh.own = false := rfl
attribute [go_sem] own_ow own_sh tk_nodesM nodesM_length dn_nodeM dn_nodesM
def nsAnn : Ann := [(0, [0, 4, 6, 7, 26, 27])]
def nsSch : Sched := .take 0 (.take 1 (.take 2 (.take 3 (.take 5 (.take 6 (.take 7 (.take 8 (.ld 4 (.ld 9 (.alt 10 (.alt 11 (.alt 12 .fin .nil) .nil) (.alt 11 (.alt 10 (.alt 12 .fin .nil) .nil) .nil)))))))))))
def nsSt (L : List It) (t : Int) (b : List Int) (k : Int) (p : List Nd × Nat) : St := match p.1 with
 | [] => ⟨[.sl .sh (L.map itemS), .any, .any, .any, .ref (.l 0) 0 0 1, .any, .ref (.l 1) 0 0 1, .v (.int .i64 p.2), .any, .any, .any, .any, .any, .any, .any, .any, .any, .any, .any, .any, .any, .any, .any, .any, .any, .any, .v (.int .i64 k), .v (.int .i64 0), .any, .any, .any, .any, .any, .any, .any, .any, .any, .any, .any, .any, .any, .any, .any, .any, .any], [(0, ⟨true, 3, true, [.agg [.v (.int .i64 0), .v (.slice none 0 0), .v (.slice none 0 0)]]⟩), (1, ⟨true, 3, true, [.agg [.v (.int .i64 t), .sl .sh (b.map u8A), .v (.slice none 0 0)]]⟩)], []⟩
 | x :: r => ⟨[.sl .sh (L.map itemS), .any, .any, .any, .ref (.l 0) 0 0 1, .any, .ref (.l 1) 0 0 1, .v (.int .i64 p.2), .any, .any, .any, .any, .any, .any, .any, .any, .any, .any, .any, .any, .any, .any, .any, .any, .any, .any, .v (.int .i64 k), .v (.int .i64 (r.length + 1)), .any, .any, .any, .any, .any, .any, .any, .any, .any, .any, .any, .any, .any, .any, .any, .any, .any], [(0, ⟨true, 3, true, [.agg [.v (.int .i64 0), .v (.slice none 0 0), .v (.slice none 0 0)]]⟩), (1, ⟨true, 3, true, [.agg [.v (.int .i64 t), .sl .sh (b.map u8A), .ms (.l 2) 0 (r.length + 1) (r.length + 1)]]⟩), (2, ⟨true, 3, false, nodesM (x :: r)⟩)], []⟩
attribute [local go_sem] nsSch
set_option maxRecDepth 10000 in
set_option maxHeartbeats 2000000 in
include hm in
theorem nested (L : List It) (hk : kidsOk L) (hl : L.length ≤ 1000000) : ∀ (d i n : Nat), endP L d i = some n → Holds Tryz.prog 18 [.sl .sh (L.map itemS), .v (.int .i64 i)] [] (.tup [nodeM (nestP L d i).1, .v (.int .i64 (nestP L d i).2)]) [] := by
 intro d
 induction d with
 | zero => intro i n h; simp [endP] at h
 | succ d IH =>
  intro i n he
  have hlt : i < L.length := by
   rcases Nat.lt_or_ge i L.length with h1 | h1
   ·exact h1
   ·rw [endP_none h1] at he; simp at he
  obtain ⟨k1, k2⟩ := hk L[i] (List.getElem_mem hlt)
  have hg := getItem hlt
  rw [endP_some hlt] at he
  rw [nestP_get hlt]
  generalize L[i] = x at k1 k2 hg he
  obtain ⟨t, b, k⟩ := x
  simp only at k1 k2 hg he ⊢
  refine holds_of (ann := nsAnn) tabOk hm Tryz.func18 (by kernel_rfl) rfl ?_
  simp +decide (disch := first | omega | (simp only [ll]; omega)) only [Tryz.f18, if_pos, go_sem]
  refine Runs.draw (st1 := ?s1) (draws_by (ann := nsAnn) tabOk nsSch (by kernel_rfl) ?p1) ?q1
  case p1 =>
   intro K r X hK
   simp +decide (disch := first | omega | (simp only [ll]; omega)) only [hg, if_pos, go_sem]
   exact hK
  case q1 =>
   simp +decide (disch := first | omega | (simp only [ll]; omega)) only [hg, if_pos, go_sem]
   generalize eq : iterN (nestP L d) k.toNat (i + 1) = q
   refine Runs.while (α := List Nd × Nat) (nsSt L t b k) (fun p => k.toNat - p.1.length) (fun p => p.1.length ≤ k.toNat ∧ p.2 ≤ L.length ∧ iterO (endP L d) (k.toNat - p.1.length) p.2 = some n ∧ q = (p.1 ++ (iterN (nestP L d) (k.toNat - p.1.length) p.2).1, (iterN (nestP L d) (k.toNat - p.1.length) p.2).2)) ([], i + 1) ⟨by simp, by simp only; omega, he, by simp [eq]⟩ ?_ ?_
   ·simp [go_sem, nsAnn, nsSt]
   ·rintro ⟨acc, m⟩ ⟨ha, hm1, ho, hq⟩ ih
    simp only at ha hm1 ho hq
    cases acc with
    | nil =>
     simp +decide only [nsSt, go_sem]
     refine Runs.split (fun h => ?_) (fun h => ?_)
     ·have hj : 0 < k := by simpa using h
      rw [show k.toNat - ([] : List Nd).length = (k.toNat - 1) + 1 by simp; omega, iterO] at ho
      rw [show k.toNat - ([] : List Nd).length = (k.toNat - 1) + 1 by simp; omega, iterN] at hq
      cases e : endP L d m with
      | none => rw [e] at ho; simp at ho
      | some m2 =>
       rw [e] at ho
       have hc := IH m m2 e
       have hw := (nestP_wt d m m2 e).1
       have hle := endP_le _ _ _ e
       rw [hw] at hc hq
       generalize (nestP L d m).1 = nd at hc hq
       obtain ⟨t', b', ks'⟩ := nd
       rw [nodeM] at hc
       simp +decide (disch := first | omega | (simp only [ll]; omega)) only [if_pos, go_sem]
       refine Runs.call hc ?_
       simp +decide (maxSteps := 9^7) (disch := first | omega | (simp only [ll]; omega)) only [if_pos, go_sem]
       refine ih ([.mk t' b' ks'], m2) _ (by simp; omega) ⟨by simp; omega, by simp only; omega, by simpa using ho, by simpa using hq⟩ ?_
       simp [go_sem, nsAnn, nsSt, nodesM, nodeM]
     ·have hj : ¬ 0 < k := by simpa using h
      rw [show k.toNat - ([] : List Nd).length = 0 by simp; omega, iterN] at hq
      simp +decide only [go_sem]
      subst hq
      refine Runs.ret ?_ rfl
      simp only [List.append_nil, nodeM, nodesM]
      exact .tup (.agg (.same _ (.same _ (.nils _ .nil))) (.same _ .nil)) .nil
    | cons x r =>
     simp only [List.length_cons] at ha ho hq
     have hw1 : IntKind.i64.wrap ((r.length : Int) + 1 + 1) = (r.length : Int) + 1 + 1 := wrap_i64 (by omega) (by omega)
     simp +decide only [nsSt, go_sem]
     refine Runs.split (fun h => ?_) (fun h => ?_)
     ·have hj : (r.length : Int) + 1 < k := by simpa using h
      rw [show k.toNat - (r.length + 1) = (k.toNat - (r.length + 1) - 1) + 1 by omega, iterO] at ho
      rw [show k.toNat - (r.length + 1) = (k.toNat - (r.length + 1) - 1) + 1 by omega, iterN] at hq
      cases e : endP L d m with
      | none => rw [e] at ho; simp at ho
      | some m2 =>
       rw [e] at ho
       have hc := IH m m2 e
       have hw := (nestP_wt d m m2 e).1
       have hle := endP_le _ _ _ e
       rw [hw] at hc hq
       generalize (nestP L d m).1 = nd at hc hq
       obtain ⟨t', b', ks'⟩ := nd
       rw [nodeM] at hc
       simp +decide (disch := first | omega | (simp only [ll]; omega)) only [if_pos, go_sem]
       refine Runs.call hc ?_
       simp +decide (maxSteps := 9^7) (disch := first | omega | (simp only [ll]; omega)) only [if_pos, go_sem]
       refine ih (x :: r ++ [.mk t' b' ks'], m2) _ (by simp; omega) ⟨by simp; omega, by simp only; omega, ?_, ?_⟩ ?_
       ·simp only [List.length_append, List.length_cons, List.length_nil, List.cons_append]
        rw [← ho, show k.toNat - (r.length + (0 + 1) + 1) = k.toNat - (r.length + 1) - 1 by omega]
       ·simp only [List.length_append, List.length_cons, List.length_nil, List.cons_append, List.append_assoc, List.nil_append]
        rw [hq, show k.toNat - (r.length + (0 + 1) + 1) = k.toNat - (r.length + 1) - 1 by omega]
        simp
       ·simp [go_sem, nsAnn, nsSt, nodesM, nodeM, nodesM_app, hw1]
     ·have hj : ¬ (r.length : Int) + 1 < k := by simpa using h
      rw [show k.toNat - (r.length + 1) = 0 by omega, iterN] at hq
      simp +decide (disch := first | omega | (simp only [ll]; omega)) only [if_pos, go_sem]
      subst hq
      refine Runs.ret_eq ?_
      simp only [List.append_nil, nodeM]
      rw [show r.length + 1 = (x :: r).length from rfl, tk_nodesM]
end Go.Proofs.W

namespace Go.Proofs.W
open Go Go.AM
def bt (b : List Int) (i : Nat) : Int := b.getD i 0
def szV (b : List Int) (a : Nat) : Int := if bt b a = 130 then bt b (a + 1) * 256 + bt b (a + 2) else bt b (a + 1)
def szP (b : List Int) (a e : Nat) : Nat × Nat × Int :=
 if e ≤ a then (0, a, 2)
 else if bt b a < 128 then ((bt b a).toNat, a + 1, 0)
 else if bt b a = 128 ∨ 130 < bt b a then (0, a, 4)
 else if e ≤ a + (bt b a - 128).toNat then (0, a, 2)
 else if szV b a < 128 ∨ (bt b a = 130 ∧ szV b a < 256) then (0, a, 4)
 else ((szV b a).toNat, a + 1 + (bt b a - 128).toNat, 0)
inductive Hd where
 | bad (c : Int) (q : Nat)
 | ok (f n : Nat)
def hdP (b : List Int) (d p e : Nat) : Hd :=
 if e ≤ p then .bad 2 p
 else if bt b p % 32 = 31 then .bad 3 p
 else if d = 0 then .bad 6 p
 else if (szP b (p + 1) e).2.2 = 2 then .bad 2 p
 else if (szP b (p + 1) e).2.2 = 4 then .bad 4 (p + 1)
 else if e < (szP b (p + 1) e).2.1 + (szP b (p + 1) e).1 then .bad 2 p
 else .ok (szP b (p + 1) e).2.1 (szP b (p + 1) e).1
structure RR where
 items : List It
 code : Int
 place : Int
 next : Nat
def loopM (f : Nat → RR) (e : Nat) : Nat → Nat → Nat → List It → Nat × RR
 | 0, p, j, M => (j, ⟨M, 0, 0, e⟩)
 | k + 1, p, j, M => if p < e then (if (f p).code = 0 then loopM f e k (f p).next (j + 1) (M ++ (f p).items) else (j, ⟨M ++ (f p).items, (f p).code, (f p).place, (f p).next⟩)) else (j, ⟨M, 0, 0, e⟩)
def sliceB (b : List Int) (f n : Nat) : List Int := (b.drop f).take n
def rdM (b : List Int) : Nat → Nat → Nat → RR
 | 0, p, e => match hdP b 0 p e with
  | .bad c q => ⟨[], c, q, p⟩
  | .ok _ _ => ⟨[], 2, 0, p⟩
 | d + 1, p, e => match hdP b (d + 1) p e with
  | .bad c q => ⟨[], c, q, p⟩
  | .ok f n => if made (bt b p) = true then
    ⟨⟨bt b p, [], (loopM (fun q => rdM b d q (f + n)) (f + n) n f 0 []).1⟩ :: (loopM (fun q => rdM b d q (f + n)) (f + n) n f 0 []).2.items, (loopM (fun q => rdM b d q (f + n)) (f + n) n f 0 []).2.code, (loopM (fun q => rdM b d q (f + n)) (f + n) n f 0 []).2.place, (loopM (fun q => rdM b d q (f + n)) (f + n) n f 0 []).2.next⟩
   else ⟨[⟨bt b p, sliceB b f n, 0⟩], 0, 0, f + n⟩
def BytesOk (b : List Int) : Prop := ∀ x ∈ b, 0 ≤ x ∧ x < 256
theorem bt_rng {b : List Int} (h : BytesOk b) (i : Nat) : 0 ≤ bt b i ∧ bt b i < 256 := by
 unfold bt
 by_cases hl : i < b.length
 ·have := h b[i] (List.getElem_mem hl)
  simpa [List.getD, hl] using this
 ·simp [List.getD, hl]
def RdOk (p e : Nat) (r : RR) : Prop := r.items.length ≤ e - p ∧ (r.code = 0 → p < r.next ∧ r.next ≤ e ∧ r.items.length ≤ r.next - p ∧ 0 < r.items.length)
theorem bt_get {b : List Int} {i : Nat} (h : i < b.length) : (b.map u8A).getD i .any = .v (.int .u8 (bt b i)) := by simp [List.getD, h, u8A, bt]
end Go.Proofs.W

namespace Go.Proofs.W
open Go Go.AM
set_option maxRecDepth 10000
variable (hm : Tryz.prog.follows .mixedOrders = true)
def curB (b : List Int) (i : Nat) (h : Int) : Blk := ⟨true, 3, true, [.agg [.sl .sh (b.map u8A), .v (.int .i64 i), .v (.int .i64 h)]]⟩
attribute [local go_sem] curB
theorem and255 (a : Int) : 0 ≤ andI .i64 a 255 ∧ andI .i64 a 255 < 256 := by
 have h : (BitVec.ofInt 64 a &&& BitVec.ofInt 64 255).toNat < 256 := by
  rw [BitVec.toNat_and]
  have : (BitVec.ofInt 64 255).toNat = 255 := by decide
  rw [this]
  exact Nat.lt_of_le_of_lt Nat.and_le_right (by omega)
 show 0 ≤ IntKind.i64.wrap ((BitVec.ofInt 64 a &&& BitVec.ofInt 64 255).toNat : Int) ∧ IntKind.i64.wrap ((BitVec.ofInt 64 a &&& BitVec.ofInt 64 255).toNat : Int) < 256
 rw [wrap_i64 (by omega) (by omega)]
 omega
def lbS2 : Sched := .take 0 (.take 1 (.take 2 (.take 5 (.take 6 (.take 7 (.alt 3 (.take 4 (.alt 8 (.take 9 (.take 10 (.take 11 (.take 12 .fin)))) .nil)) (.alt 8 (.take 9 (.alt 3 (.take 4 (.take 10 (.take 11 (.take 12 .fin)))) .nil)) .nil)))))))
def lbS3 : Sched := .take 0 (.take 1 (.take 2 (.take 4 (.take 5 (.take 6 (.alt 3 (.alt 7 (.take 8 (.take 9 .fin)) .nil) (.alt 7 (.take 8 (.alt 3 (.take 9 .fin) .nil)) .nil)))))))
def lbS4 : Sched := .take 0 (.take 1 (.take 2 (.take 3 (.take 5 (.take 6 (.take 7 (.alt 4 (.alt 8 (.take 9 (.alt 10 (.alt 11 (.take 12 (.take 13 (.take 14 .fin))) .nil) .nil)) .nil) (.alt 8 (.alt 4 (.take 9 (.alt 10 (.alt 11 (.take 12 (.take 13 (.take 14 .fin))) .nil) .nil)) .nil) .nil))))))))
attribute [local go_sem] lbS2 lbS3 lbS4
set_option maxHeartbeats 2000000 in
include hm in
theorem l1Byte (b : List Int) (hb : BytesOk b) (hl : b.length ≤ 1048576) (i : Nat) (h : Int) (hi : i ≤ b.length) : ∃ v i' h', Holds Tryz.prog 89 [.ref (.x 0) 0 0 1] [curB b i h] (.v (.int .i64 v)) [curB b i' h'] ∧ i' ≤ b.length ∧ 0 ≤ v ∧ v < 256 := by
 have hlen : (b.map u8A).length = b.length := List.length_map _
 obtain ⟨h2, e2⟩ : ∃ h2, h2 = IntKind.i64.wrap (IntKind.i64.wrap (h * 6364136223846793005) + 1442695040888963407) := ⟨_, rfl⟩
 obtain ⟨x, ex⟩ : ∃ x, x = andI .i64 (xorI .i64 (h2.fdiv (2 ^ 33)) (h2.fdiv (2 ^ 45))) 255 := ⟨_, rfl⟩
 have xr : 0 ≤ x ∧ x < 256 := by rw [ex]; exact and255 _
 have s33 : min (33 : Int).toNat 64 = 33 := by decide
 have s45 : min (45 : Int).toNat 64 = 45 := by decide
 by_cases hlt : i < b.length
 ·refine ⟨andI .i64 (x + bt b i) 255, i + 1, h2, ?_, by omega, (and255 _).1, (and255 _).2⟩
  have d1 : decide ((i : Int) < (b.length : Int)) = true := decide_eq_true (by omega)
  have r1 : decide (0 ≤ (i : Int) ∧ (i : Int) < (b.length : Int)) = true := decide_eq_true (by omega)
  have g1 := bt_get (b := b) (i := i) hlt
  have b1 := bt_rng hb i
  have k1 : IntKind.i64.wrap (bt b i) = bt b i := wrap_i64 (by omega) (by omega)
  have w1 : IntKind.i64.wrap (x + bt b i) = x + bt b i := wrap_i64 (by omega) (by omega)
  have w2 : IntKind.i64.wrap ((i : Int) + 1) = ((i + 1 : Nat) : Int) := by rw [wrap_i64 (by omega) (by omega)]; rfl
  refine holds_ref (ann := []) tabOk hm noBy Tryz.func89 (by kernel_rfl) rfl ?_
  simp +decide (maxSteps := 9^7) only [↓reduceIte, Tryz.f89, ← e2, go_sem]
  apply Runs.draw
  ·apply draws_ref (ann := []) tabOk noBy lbS2 (by kernel_rfl)
   intro K r X hK
   simp +decide (maxSteps := 9^7) only [↓reduceIte, s33, s45, IntKind.bits, ← ex, go_sem]
   exact hK
  simp +decide (maxSteps := 9^7) only [↓reduceIte, go_sem]
  apply Runs.draw
  ·apply draws_ref (ann := []) tabOk noBy lbS3 (by kernel_rfl)
   intro K r X hK
   simp +decide (maxSteps := 9^7) only [↓reduceIte, hlen, go_sem]
   exact hK
  simp +decide (maxSteps := 9^7) only [↓reduceIte, d1, go_sem]
  apply Runs.draw
  ·apply draws_ref (ann := []) tabOk noBy lbS4 (by kernel_rfl)
   intro K r X hK
   simp +decide (maxSteps := 9^7) only [↓reduceIte, hlen, r1, g1, k1, w1, Int.toNat_natCast, go_sem]
   exact hK
  simp +decide (maxSteps := 9^7) only [↓reduceIte, w2, go_sem]
  exact Runs.ret_refl
 ·refine ⟨x, i, h2, ?_, hi, xr.1, xr.2⟩
  have d1 : decide ((i : Int) < (b.length : Int)) = false := decide_eq_false (by omega)
  refine holds_ref (ann := []) tabOk hm noBy Tryz.func89 (by kernel_rfl) rfl ?_
  simp +decide (maxSteps := 9^7) only [↓reduceIte, Tryz.f89, ← e2, go_sem]
  apply Runs.draw
  ·apply draws_ref (ann := []) tabOk noBy lbS2 (by kernel_rfl)
   intro K r X hK
   simp +decide (maxSteps := 9^7) only [↓reduceIte, s33, s45, IntKind.bits, ← ex, go_sem]
   exact hK
  simp +decide (maxSteps := 9^7) only [↓reduceIte, go_sem]
  apply Runs.draw
  ·apply draws_ref (ann := []) tabOk noBy lbS3 (by kernel_rfl)
   intro K r X hK
   simp +decide (maxSteps := 9^7) only [↓reduceIte, hlen, go_sem]
   exact hK
  simp +decide (maxSteps := 9^7) only [↓reduceIte, d1, go_sem]
  exact Runs.ret_refl
set_option maxHeartbeats 2000000 in
include hm in
theorem l1Below (b : List Int) (hb : BytesOk b) (hl : b.length ≤ 1048576) (i : Nat) (h : Int) (hi : i ≤ b.length) (n : Nat) (h1 : 1 ≤ n) (h2 : n ≤ 256) : ∃ v : Nat, ∃ i' h', Holds Tryz.prog 43 [.ref (.x 0) 0 0 1, .v (.int .i64 n)] [curB b i h] (.v (.int .i64 v)) [curB b i' h'] ∧ i' ≤ b.length ∧ v < n := by
 obtain ⟨v, i', h', c, q1, q2, q3⟩ := l1Byte hm b hb hl i h hi
 have m1 : v.tmod n = v % n := Int.tmod_eq_emod_of_nonneg q2
 have r0 := Int.emod_nonneg v (show (n : Int) ≠ 0 by omega)
 have r1 := Int.emod_lt_of_pos v (show (0 : Int) < n by omega)
 have e1 : ((v % n).toNat : Int) = v % n := Int.toNat_of_nonneg r0
 refine ⟨(v % n).toNat, i', h', ?_, q1, by omega⟩
 rw [e1]
 have d1 : decide ((n : Int) ≤ 0) = false := decide_eq_false (by omega)
 have d2 : decide ((n : Int) ≤ 256) = true := decide_eq_true (by omega)
 have d3 : decide (¬ (n : Int) = 0) = true := decide_eq_true (by omega)
 simp only [curB] at c ⊢
 refine holds_ref (ann := []) tabOk hm (byL [89] []) Tryz.func43 (by kernel_rfl) rfl ?_
 simp +decide (maxSteps := 9^7) only [↓reduceIte, Tryz.f43, d1, d2, go_sem]
 refine Runs.call c ?_
 simp +decide (maxSteps := 9^7) only [↓reduceIte, m1, d3, go_sem]
 exact Runs.ret_refl
set_option maxHeartbeats 2000000 in
include hm in
theorem l1PickInt (b : List Int) (hb : BytesOk b) (hl : b.length ≤ 1048576) (i : Nat) (h : Int) (hi : i ≤ b.length) (L : List Int) (h1 : 1 ≤ L.length) (h2 : L.length ≤ 256) : ∃ v, ∃ i' h', Holds Tryz.prog 44 [.ref (.x 0) 0 0 1, .sl .sh (L.map intA)] [curB b i h] (.v (.int .i64 v)) [curB b i' h'] ∧ i' ≤ b.length ∧ v ∈ L := by
 obtain ⟨k, i', h', c, q1, q2⟩ := l1Below hm b hb hl i h hi L.length h1 h2
 have hg : (L.map intA).getD k .any = .v (.int .i64 L[k]) := by simp [List.getD, q2, intA]
 refine ⟨L[k], i', h', ?_, q1, List.getElem_mem q2⟩
 have hlen : (L.map intA).length = L.length := List.length_map _
 have r1 : decide (0 ≤ (k : Int) ∧ (k : Int) < (L.length : Int)) = true := decide_eq_true (by omega)
 simp only [curB] at c ⊢
 refine holds_ref (ann := []) tabOk hm (byL [43] []) Tryz.func44 (by kernel_rfl) rfl ?_
 simp +decide (maxSteps := 9^7) only [↓reduceIte, Tryz.f44, hlen, go_sem]
 refine Runs.call c ?_
 simp +decide (maxSteps := 9^7) only [↓reduceIte, hlen, r1, hg, Int.toNat_natCast, go_sem]
 exact Runs.ret_refl
def stpH (h x : Int) : Int := andI .i64 (IntKind.i64.wrap (IntKind.i64.wrap (IntKind.i64.wrap (h * 131) + x) + 7)) 1073741823
def nwK (b : List Int) : Nat → Int
 | 0 => IntKind.i64.wrap (148148 + b.length)
 | k + 1 => stpH (nwK b k) (bt b k)
def nwN (b : List Int) : Nat := if b.length < 4000 then b.length else 4000
def nwA (b : List Int) : A := .agg [.sl .sh (b.map u8A), .v (.int .i64 0), .v (.int .i64 (nwK b (nwN b)))]
def nwAnn : Ann := [(0, [0, 3, 4])]
def nwSt (b : List Int) (k : Nat) : St := ⟨[.sl .sh (b.map u8A), .any, .any, .v (.int .i64 (nwK b k)), .v (.int .i64 k), .any, .any, .any, .any, .any, .any, .any, .any, .any, .any, .any, .any, .any, .any, .any, .any, .any, .any, .any, .any, .any, .any, .any, .any, .any, .any, .any], [], []⟩
set_option maxHeartbeats 2000000 in
include hm in
theorem l1New (b : List Int) (hb : BytesOk b) (hl : b.length ≤ 1048576) : Holds Tryz.prog 15 [.sl .sh (b.map u8A)] [] (.own (nwA b)) [] := by
 have hlen : (b.map u8A).length = b.length := List.length_map _
 have hn : nwN b ≤ b.length ∧ nwN b ≤ 4000 ∧ (nwN b < b.length → nwN b = 4000) := by unfold nwN; split <;> omega
 have e0 : IntKind.i64.wrap (148148 + b.length) = nwK b 0 := rfl
 refine holds_of (ann := nwAnn) tabOk hm Tryz.func15 (by kernel_rfl) rfl ?_
 simp +decide (maxSteps := 9^7) only [↓reduceIte, Tryz.f15, hlen, e0, go_sem]
 refine Runs.while (α := Nat) (nwSt b) (fun k => b.length - k) (fun k => k ≤ nwN b) 0 (by omega) ?_ ?_
 ·simp [go_sem, nwAnn, nwSt]
 intro k hk ih
 by_cases hlt : k < nwN b
 ·have d1 : decide ((k : Int) < (b.length : Int)) = true := decide_eq_true (by omega)
  have d2 : decide ((k : Int) < 4000) = true := decide_eq_true (by omega)
  have r1 : decide (0 ≤ (k : Int) ∧ (k : Int) < (b.length : Int)) = true := decide_eq_true (by omega)
  have g1 := bt_get (b := b) (i := k) (by omega)
  have b1 := bt_rng hb k
  have k1 : IntKind.i64.wrap (bt b k) = bt b k := wrap_i64 (by omega) (by omega)
  have es : andI .i64 (IntKind.i64.wrap (IntKind.i64.wrap (IntKind.i64.wrap (nwK b k * 131) + bt b k) + 7)) 1073741823 = nwK b (k + 1) := rfl
  have w2 : IntKind.i64.wrap ((k : Int) + 1) = ((k + 1 : Nat) : Int) := by rw [wrap_i64 (by omega) (by omega)]; rfl
  simp +decide (maxSteps := 9^7) only [↓reduceIte, nwSt, hlen, d1, d2, r1, g1, k1, es, w2, Int.toNat_natCast, go_sem]
  refine ih (k + 1) _ (by omega) (by omega) ?_
  simp [go_sem, nwAnn, nwSt]
 ·have he : k = nwN b := by omega
  subst he
  by_cases hb2 : nwN b < b.length
  ·have d1 : decide ((nwN b : Int) < (b.length : Int)) = true := decide_eq_true (by omega)
   have d2 : decide ((nwN b : Int) < 4000) = false := decide_eq_false (by omega)
   simp +decide (maxSteps := 9^7) only [↓reduceIte, nwSt, hlen, d1, d2, nwA, go_sem]
   exact Runs.ret_refl
  ·have d1 : decide ((nwN b : Int) < (b.length : Int)) = false := decide_eq_false (by omega)
   simp +decide (maxSteps := 9^7) only [↓reduceIte, nwSt, hlen, d1, nwA, go_sem]
   exact Runs.ret_refl
end Go.Proofs.W

namespace Go.Proofs.W
open Go Go.AM Go.Proofs.G
set_option maxRecDepth 10000
variable (hm : Tryz.prog.follows .mixedOrders = true)
include hm in
theorem l2Left (a m : Int) (h1 : 0 < m) (h2 : m ≤ 4611686018427387904) : Holds Tryz.prog 107 [.v (.int .i64 a), .v (.int .i64 m)] [] (.v (.int .i64 (a % m))) [] := by
 refine holds_of (ann := []) tabOk hm Tryz.func107 (by kernel_rfl) rfl ?_
 have hb := tmod_bd (a := a) h1
 have he := left_eq (a := a) h1
 simp +decide (disch := first | omega | (simp only [ll]; omega)) only [Tryz.f107, he, if_pos, go_sem]
 exact Runs.ret_v
include hm in
theorem rest (a m : Int) (h1 : 0 < m) (h2 : m ≤ 4611686018427387904) : Holds Tryz.prog 104 [.v (.int .i64 a), .v (.int .i64 m)] [] (.v (.int .i64 (a % m))) [] := by
 refine holds_of (ann := []) tabOk hm Tryz.func104 (by kernel_rfl) rfl ?_
 have hb := tmod_bd (a := a) h1
 have he := left_eq (a := a) h1
 simp +decide (disch := first | omega | (simp only [ll]; omega)) only [Tryz.f104, he, if_pos, go_sem]
 exact Runs.ret_v
theorem nat_of {m : Int} (h : 0 ≤ m) : ∃ n : Nat, m = n := ⟨m.toNat, (Int.toNat_of_nonneg h).symm⟩
theorem tdiv_nat (r s : Nat) : (r : Int).tdiv s = ((r / s : Nat) : Int) := by rw [Int.tdiv_eq_ediv_of_nonneg (by omega)]; rfl
theorem tmod_nat (r s : Nat) : (r : Int).tmod s = ((r % s : Nat) : Int) := by rw [Int.tmod_eq_emod_of_nonneg (by omega)]; rfl
def liAnn : Ann := [(0, [1, 5, 6, 7, 8])]
def liSt (m : Nat) (p : Nat × Nat × Int × Int) : St := ⟨[.any, .v (.int .i64 m), .any, .any, .any, .v (.int .i64 p.1), .v (.int .i64 p.2.1), .v (.int .i64 p.2.2.1), .v (.int .i64 p.2.2.2), .any, .any, .any, .any, .any, .any, .any, .any, .any, .any, .any, .any, .any, .any, .any, .any, .any, .any, .any, .any, .any, .any, .any, .any, .any], [], []⟩
def liS : Sched := .take 0 (.take 1 (.take 2 (.take 3 (.take 4 (.take 5 .fin)))))
attribute [local go_sem] liS
include hm in
theorem l2Inv (a m : Int) (h1 : 1 ≤ m) (h2 : m ≤ 1073741824) : Holds Tryz.prog 106 [.v (.int .i64 a), .v (.int .i64 m)] [] (.v (.int .i64 (invI a m))) [] := by
 refine holds_of (ann := liAnn) tabOk hm Tryz.func106 (by kernel_rfl) rfl ?_
 obtain ⟨n, rfl⟩ := nat_of (m := m) (by omega)
 simp +decide only [Tryz.f106, go_sem]
 refine Runs.call (l2Left hm a n (by omega) (by omega)) ?_
 simp +decide only [go_sem]
 obtain ⟨s0, hs0⟩ := nat_of (Int.emod_nonneg a (show (n : Int) ≠ 0 by omega))
 refine Runs.while (α := Nat × Nat × Int × Int) (liSt n) (fun p => p.2.1) (fun p => InvS n p.1 p.2.1 p.2.2.1 p.2.2.2 ∧ invGo p.1 p.2.1 p.2.2.1 p.2.2.2 = invGo n s0 0 1 ∧ p.1 ≤ n ∧ p.2.1 ≤ n) (n, s0, 0, 1) ⟨InvS.zero (by omega), rfl, Nat.le_refl _, by have := Int.emod_lt_of_pos a (show (0 : Int) < n by omega); simp only; omega⟩ ?_ ?_
 ·simp [go_sem, liAnn, liSt, hs0]
 ·rintro ⟨r, s, x, y⟩ ⟨hi, hg, hr1, hs1⟩ ih
  simp only at hi hg hr1 hs1
  simp +decide only [liSt, go_sem]
  refine Runs.split (fun h => ?_) (fun h => ?_)
  ·have hs : s ≠ 0 := by simp at h; omega
   obtain ⟨i1, b1, b2, b3, b4⟩ := hi.next hs
   have e1 := tdiv_nat r s
   have e2 := tmod_nat r s
   have w0 : ∀ q : Nat, q ≤ r → IntKind.i64.wrap (q : Int) = q := fun q h => wrap_i64 (by omega) (by omega)
   have w1 := w0 _ (Nat.div_le_self r s)
   generalize hq : ((r / s : Nat) : Int) = q at *
   have w2 : IntKind.i64.wrap (q * y) = q * y := wrap_i64 (by omega) (by omega)
   have w3 : IntKind.i64.wrap (x - q * y) = x - q * y := wrap_i64 (by omega) (by omega)
   simp +decide (disch := first | omega | (simp only [ll]; omega)) only [e1, w1, if_pos, go_sem]
   refine Runs.draw (st1 := ?s1) (draws_by (ann := liAnn) tabOk liS (by kernel_rfl) ?p1) ?q1
   case p1 =>
    intro K r' X hK
    simp +decide (disch := first | omega | (simp only [ll]; omega)) only [e2, if_pos, go_sem]
    exact hK
   case q1 =>
    simp +decide (disch := first | omega | (simp only [ll]; omega)) only [w2, w3, if_pos, go_sem]
    refine ih (s, r % s, y, x - q * y) _ (by simp only; exact Nat.mod_lt _ (by omega)) ⟨i1, ?_, hs1, by simp only; have := Nat.mod_le r s; omega⟩ ?_
    ·rw [← hg, ← hq]
     conv => rhs; rw [invGo, dif_neg hs]
    ·simp [go_sem, liAnn, liSt]
  ·have hs : s = 0 := by simp at h; omega
   subst hs
   rw [invGo, dif_pos rfl] at hg
   simp +decide only [go_sem]
   have hv : invI a n = if r = 1 then x % n else 0 := by
    unfold invI
    rw [hs0, Int.toNat_natCast, Int.toNat_natCast, ← hg]
   refine Runs.split (fun h => ?_) (fun h => ?_)
   ·have hr : r ≠ 1 := by simp at h; omega
    simp +decide only [hv, hr, go_sem]
    exact Runs.ret_v
   ·have hr : r = 1 := by simp at h; omega
    simp +decide only [go_sem]
    refine Runs.call (l2Left hm x n (by omega) (by omega)) ?_
    simp +decide only [hv, hr, go_sem]
    exact Runs.ret_v
def iiAnn : Ann := [(0, [1, 6, 7, 8, 9])]
def iiSt (m : Nat) (p : Nat × Nat × Int × Int) : St := ⟨[.any, .v (.int .i64 m), .any, .any, .any, .any, .v (.int .i64 p.1), .v (.int .i64 p.2.1), .v (.int .i64 p.2.2.1), .v (.int .i64 p.2.2.2), .any, .any, .any, .any, .any, .any, .any, .any, .any, .any, .any, .any, .any, .any, .any, .any, .any, .any, .any, .any, .any, .any, .any, .any, .any, .any, .any, .any], [], []⟩
def iiS : Sched := .take 0 (.take 1 (.take 2 (.take 3 (.take 4 (.take 5 .fin)))))
attribute [local go_sem] iiS
include hm in
theorem invInt (a m : Int) (h1 : 2 ≤ m) (h2 : m ≤ 1073741824) : Holds Tryz.prog 103 [.v (.int .i64 a), .v (.int .i64 m)] [] (.tup [.v (.int .i64 (invI a m)), .v (.bool (invOk a m))]) [] := by
 refine holds_of (ann := iiAnn) tabOk hm Tryz.func103 (by kernel_rfl) rfl ?_
 obtain ⟨n, rfl⟩ := nat_of (m := m) (by omega)
 simp +decide only [Tryz.f103, go_sem]
 refine Runs.call (within hm n 2 1073741824) ?_
 have hw : inB n 2 1073741824 = true := by simp [inB]; omega
 simp +decide only [hw, go_sem]
 refine Runs.call (rest hm a n (by omega) (by omega)) ?_
 simp +decide only [go_sem]
 obtain ⟨s0, hs0⟩ := nat_of (Int.emod_nonneg a (show (n : Int) ≠ 0 by omega))
 refine Runs.while (α := Nat × Nat × Int × Int) (iiSt n) (fun p => p.2.1) (fun p => InvS n p.1 p.2.1 p.2.2.1 p.2.2.2 ∧ invGo p.1 p.2.1 p.2.2.1 p.2.2.2 = invGo n s0 0 1 ∧ p.1 ≤ n ∧ p.2.1 ≤ n) (n, s0, 0, 1) ⟨InvS.zero (by omega), rfl, Nat.le_refl _, by have := Int.emod_lt_of_pos a (show (0 : Int) < n by omega); simp only; omega⟩ ?_ ?_
 ·simp [go_sem, iiAnn, iiSt, hs0]
 ·rintro ⟨r, s, x, y⟩ ⟨hi, hg, hr1, hs1⟩ ih
  simp only at hi hg hr1 hs1
  simp +decide only [iiSt, go_sem]
  refine Runs.split (fun h => ?_) (fun h => ?_)
  ·have hs : s ≠ 0 := by simp at h; omega
   obtain ⟨i1, b1, b2, b3, b4⟩ := hi.next hs
   have e1 := tdiv_nat r s
   have e2 := tmod_nat r s
   have w0 : ∀ q : Nat, q ≤ r → IntKind.i64.wrap (q : Int) = q := fun q h => wrap_i64 (by omega) (by omega)
   have w1 := w0 _ (Nat.div_le_self r s)
   generalize hq : ((r / s : Nat) : Int) = q at *
   have w2 : IntKind.i64.wrap (q * y) = q * y := wrap_i64 (by omega) (by omega)
   have w3 : IntKind.i64.wrap (x - q * y) = x - q * y := wrap_i64 (by omega) (by omega)
   simp +decide (disch := first | omega | (simp only [ll]; omega)) only [e1, w1, if_pos, go_sem]
   refine Runs.draw (st1 := ?s1) (draws_by (ann := iiAnn) tabOk iiS (by kernel_rfl) ?p1) ?q1
   case p1 =>
    intro K r' X hK
    simp +decide (disch := first | omega | (simp only [ll]; omega)) only [e2, if_pos, go_sem]
    exact hK
   case q1 =>
    simp +decide (disch := first | omega | (simp only [ll]; omega)) only [w2, w3, if_pos, go_sem]
    refine ih (s, r % s, y, x - q * y) _ (by simp only; exact Nat.mod_lt _ (by omega)) ⟨i1, ?_, hs1, by simp only; have := Nat.mod_le r s; omega⟩ ?_
    ·rw [← hg, ← hq]
     conv => rhs; rw [invGo, dif_neg hs]
    ·simp [go_sem, iiAnn, iiSt]
  ·have hs : s = 0 := by simp at h; omega
   subst hs
   rw [invGo, dif_pos rfl] at hg
   simp +decide only [go_sem]
   have hv : invI a n = if r = 1 then x % n else 0 := by
    unfold invI
    rw [hs0, Int.toNat_natCast, Int.toNat_natCast, ← hg]
   have hv2 : invOk a n = (r == 1) := by
    unfold invOk
    rw [hs0, Int.toNat_natCast, Int.toNat_natCast, ← hg]
   refine Runs.split (fun h => ?_) (fun h => ?_)
   ·have hr : r ≠ 1 := by simp at h; omega
    simp +decide only [hv, hv2, hr, go_sem]
    exact Runs.ret_eq (by simp [hr])
   ·have hr : r = 1 := by simp at h; omega
    simp +decide only [go_sem]
    refine Runs.call (rest hm x n (by omega) (by omega)) ?_
    simp +decide only [hv, hv2, hr, go_sem]
    exact Runs.ret_refl
theorem prime_in (n : Int) (h : inB n 2 1099511627776 = false) : primeZ n = false := by
 unfold primeZ
 unfold inB at h
 rw [h, Bool.false_and]
def spAnn : Ann := [(0, [0, 3])]
def spSt (n d : Int) : St := ⟨[.v (.int .i64 n), .any, .any, .v (.int .i64 d), .any, .any, .any, .any, .any, .any, .any, .any, .any, .any, .any, .any, .any, .any], [], []⟩
include hm in
theorem sPrime (n : Int) : Holds Tryz.prog 105 [.v (.int .i64 n)] [] (.v (.bool (primeZ n))) [] := by
 refine holds_of (ann := spAnn) tabOk hm Tryz.func105 (by kernel_rfl) rfl ?_
 simp +decide only [Tryz.f105, go_sem]
 refine Runs.call (l1In hm n 2 1099511627776) ?_
 simp +decide only [go_sem]
 refine Runs.split (fun h => ?_) (fun h => ?_)
 ·have e := prime_in n (by simpa using h)
  simp +decide only [e, go_sem]
  exact Runs.ret_v
 ·have hn : 2 ≤ n ∧ n ≤ 1099511627776 := by simpa [inB] using h
  simp +decide only [go_sem]
  refine Runs.while (α := Int) (spSt n) (fun d => (1048578 - d).toNat) (fun d => 2 ≤ d ∧ d ≤ 1048577 ∧ ∀ e, 2 ≤ e → e < d → e * e ≤ n → n.tmod e ≠ 0) 2 ⟨by omega, by omega, fun e _ _ => by omega⟩ ?_ ?_
  ·simp [go_sem, spAnn, spSt]
  ·rintro d ⟨d1, d2, hd⟩ ih
   have b1 : d * d ≤ 1048577 * 1048577 := Int.mul_le_mul d2 d2 (by omega) (by omega)
   have b2 : 0 ≤ d * d := Int.mul_nonneg (by omega) (by omega)
   have w1 : IntKind.i64.wrap (d * d) = d * d := wrap_i64 (by omega) (by omega)
   simp +decide only [spSt, w1, go_sem]
   refine Runs.split (fun h => ?_) (fun h => ?_)
   ·have hle : d * d ≤ n := by simpa using h
    have hb := sq_bd (by omega) hle hn.2
    simp +decide (disch := first | omega | (simp only [ll]; omega)) only [if_pos, go_sem]
    refine Runs.split (fun h => ?_) (fun h => ?_)
    ·have e := prime_no d1 hle (by simpa using h)
     simp +decide only [e, go_sem]
     exact Runs.ret_v
    ·have hz : n.tmod d ≠ 0 := by simpa using h
     simp +decide (disch := first | omega | (simp only [ll]; omega)) only [if_pos, go_sem]
     refine ih (d + 1) _ (by omega) ⟨by omega, by omega, fun e e1 e2 e3 => ?_⟩ ?_
     ·rcases Int.lt_or_le e d with h | h
      ·exact hd e e1 h e3
      ·have : e = d := by omega
       subst this
       exact hz
     ·simp [go_sem, spAnn, spSt]
   ·have hgt : n < d * d := by simpa using h
    have e := prime_yes hn.1 hn.2 d1 hgt hd
    simp +decide only [e, go_sem]
    exact Runs.ret_v
def ipAnn : Ann := [(0, [0, 3])]
def ipSt (n d : Int) : St := ⟨[.v (.int .i64 n), .any, .any, .v (.int .i64 d), .any, .any, .any, .any, .any, .any, .any, .any, .any, .any, .any, .any, .any, .any], [], []⟩
include hm in
theorem iPrime (n : Int) : Holds Tryz.prog 96 [.v (.int .i64 n)] [] (.v (.bool (primeZ n))) [] := by
 refine holds_of (ann := ipAnn) tabOk hm Tryz.func96 (by kernel_rfl) rfl ?_
 simp +decide only [Tryz.f96, go_sem]
 refine Runs.call (within hm n 2 1099511627776) ?_
 simp +decide only [go_sem]
 refine Runs.split (fun h => ?_) (fun h => ?_)
 ·have e := prime_in n (by simpa using h)
  simp +decide only [e, go_sem]
  exact Runs.ret_v
 ·have hn : 2 ≤ n ∧ n ≤ 1099511627776 := by simpa [inB] using h
  simp +decide only [go_sem]
  refine Runs.while (α := Int) (ipSt n) (fun d => (1048578 - d).toNat) (fun d => 2 ≤ d ∧ d ≤ 1048577 ∧ ∀ e, 2 ≤ e → e < d → e * e ≤ n → n.tmod e ≠ 0) 2 ⟨by omega, by omega, fun e _ _ => by omega⟩ ?_ ?_
  ·simp [go_sem, ipAnn, ipSt]
  ·rintro d ⟨d1, d2, hd⟩ ih
   have b1 : d * d ≤ 1048577 * 1048577 := Int.mul_le_mul d2 d2 (by omega) (by omega)
   have b2 : 0 ≤ d * d := Int.mul_nonneg (by omega) (by omega)
   have w1 : IntKind.i64.wrap (d * d) = d * d := wrap_i64 (by omega) (by omega)
   simp +decide only [ipSt, w1, go_sem]
   refine Runs.split (fun h => ?_) (fun h => ?_)
   ·have hle : d * d ≤ n := by simpa using h
    have hb := sq_bd (by omega) hle hn.2
    simp +decide (disch := first | omega | (simp only [ll]; omega)) only [if_pos, go_sem]
    refine Runs.split (fun h => ?_) (fun h => ?_)
    ·have e := prime_no d1 hle (by simpa using h)
     simp +decide only [e, go_sem]
     exact Runs.ret_v
    ·have hz : n.tmod d ≠ 0 := by simpa using h
     simp +decide (disch := first | omega | (simp only [ll]; omega)) only [if_pos, go_sem]
     refine ih (d + 1) _ (by omega) ⟨by omega, by omega, fun e e1 e2 e3 => ?_⟩ ?_
     ·rcases Int.lt_or_le e d with h | h
      ·exact hd e e1 h e3
      ·have : e = d := by omega
       subst this
       exact hz
     ·simp [go_sem, ipAnn, ipSt]
   ·have hgt : n < d * d := by simpa using h
    have e := prime_yes hn.1 hn.2 d1 hgt hd
    simp +decide only [e, go_sem]
    exact Runs.ret_v
def lpAnn : Ann := [(0, [1, 2, 7, 8])]
def lpSt (m : Int) (p : Nat × Int × Int) : St := ⟨[.any, .v (.int .i64 p.1), .v (.int .i64 m), .any, .any, .any, .any, .v (.int .i64 p.2.1), .v (.int .i64 p.2.2), .any, .any, .any, .any, .any, .any, .any, .any, .any, .any, .any, .any, .any, .any, .any, .any, .any, .any, .any, .any, .any, .any, .any], [], []⟩
def lpS : Sched := .take 0 (.take 1 (.take 2 (.take 3 (.take 4 (.take 5 (.take 6 .fin))))))
attribute [local go_sem] lpS
include hm in
theorem l2Pow (a m : Int) (e : Nat) (h0 : 0 ≤ a) (h1 : 0 < m) (h2 : m ≤ 2147483648) (h3 : e ≤ 9223372036854775807) : Holds Tryz.prog 108 [.v (.int .i64 a), .v (.int .i64 e), .v (.int .i64 m)] [] (.v (.int .i64 (powZ a e m))) [] := by
 refine holds_of (ann := lpAnn) tabOk hm Tryz.func108 (by kernel_rfl) rfl ?_
 have e1 : (1 : Int).tmod m = 1 % m := Int.tmod_eq_emod_of_nonneg (by omega)
 have e2 : a.tmod m = a % m := Int.tmod_eq_emod_of_nonneg h0
 have hin : ∀ n : Int, 0 ≤ n % m ∧ n % m < m := fun n => ⟨Int.emod_nonneg _ (by omega), Int.emod_lt_of_pos _ h1⟩
 simp +decide only [Tryz.f108, go_sem]
 refine Runs.draw (st1 := ?s1) (draws_by (ann := lpAnn) tabOk lpS (by kernel_rfl) ?p1) ?q1
 case p1 =>
  intro K r' X hK
  simp +decide (disch := first | omega | (simp only [ll]; omega)) only [e1, e2, if_pos, go_sem]
  exact hK
 case q1 =>
  simp +decide only [go_sem]
  refine Runs.while (α := Nat × Int × Int) (lpSt m) (fun p => p.1) (fun p => p.1 ≤ e ∧ (0 ≤ p.2.1 ∧ p.2.1 < m) ∧ (0 ≤ p.2.2 ∧ p.2.2 < m) ∧ mulL (mulZ m) p.1 p.2.1 p.2.2 = powZ a e m) (e, 1 % m, a % m) ⟨Nat.le_refl _, hin _, hin _, powZ_L h1 a e⟩ ?_ ?_
  ·simp [go_sem, lpAnn, lpSt]
  ·rintro ⟨n, out, base⟩ ⟨hn, ho, hb, hg⟩ ih
   simp only at hn ho hb hg
   have b1 := mul_bd ho hb h2
   have b2 := mul_bd hb hb h2
   have w1 : IntKind.i64.wrap (out * base) = out * base := wrap_i64 (by omega) (by omega)
   have w2 : IntKind.i64.wrap (base * base) = base * base := wrap_i64 (by omega) (by omega)
   have t1 : (out * base).tmod m = mulZ m out base := Int.tmod_eq_emod_of_nonneg b1.1
   have t2 : (base * base).tmod m = mulZ m base base := Int.tmod_eq_emod_of_nonneg b2.1
   have e3 := tmod_nat n 2
   have e4 := tdiv_nat n 2
   have w3 : IntKind.i64.wrap ((n / 2 : Nat) : Int) = ((n / 2 : Nat) : Int) := wrap_i64 (by omega) (by omega)
   simp +decide only [lpSt, go_sem]
   refine Runs.split (fun h => ?_) (fun h => ?_)
   ·have hs : n ≠ 0 := by simp at h; omega
    rw [mulL_step _ _ _ _ hs] at hg
    simp +decide (disch := first | omega | (simp only [ll]; omega)) only [if_pos, go_sem]
    rw [show (2 : Int) = ((2 : Nat) : Int) from rfl, e3]
    refine Runs.split (fun h => ?_) (fun h => ?_)
    ·have hbit : n % 2 = 1 := by simp at h; omega
     rw [if_pos hbit] at hg
     simp +decide (disch := first | omega | (simp only [ll]; omega)) only [w1, w2, t1, t2, e4, w3, if_pos, go_sem]
     refine ih (n / 2, mulZ m out base, mulZ m base base) _ (by simp only; omega) ⟨by simp only; omega, hin _, hin _, hg⟩ ?_
     simp [go_sem, lpAnn, lpSt]
    ·have hbit : ¬ n % 2 = 1 := by simp at h; omega
     rw [if_neg hbit] at hg
     simp +decide (disch := first | omega | (simp only [ll]; omega)) only [w1, w2, t1, t2, e4, w3, if_pos, go_sem]
     refine ih (n / 2, out, mulZ m base base) _ (by simp only; omega) ⟨by simp only; omega, ho, hin _, hg⟩ ?_
     simp [go_sem, lpAnn, lpSt]
   ·have hs : n = 0 := by simp at h; omega
    subst hs
    rw [mulL_zero] at hg
    simp +decide only [hg, go_sem]
    exact Runs.ret_v
end Go.Proofs.W

namespace Go.Proofs.W
open Go Go.AM Go.Proofs.G
set_option maxRecDepth 10000
variable (hm : Tryz.prog.follows .mixedOrders = true)
theorem shr_nat (n k : Nat) : (n : Int).fdiv (2 ^ k) = ((n / 2 ^ k : Nat) : Int) := by
 rw [Int.fdiv_eq_ediv_of_nonneg _ (Int.le_of_lt (Int.pow_pos (by decide)))]
 have : ((2 : Int) ^ k) = ((2 ^ k : Nat) : Int) := by simp
 rw [this]
 rfl
theorem s32 : min (32 : Int).toNat 64 = 32 := by decide
theorem s16 : min (16 : Int).toNat 64 = 16 := by decide
theorem s8 : min (8 : Int).toNat 64 = 8 := by decide
def tabOk8 (L : List UInt8) : Bool := L.length == 256 && (List.range 256).all fun i => decide (i < 2 ^ (L.getD i 0).toNat) && ((L.getD i 0).toNat == 0 || decide (2 ^ ((L.getD i 0).toNat - 1) ≤ i))
theorem len_get {L : List UInt8} (h : tabOk8 L = true) {x : Nat} (hx : x < 256) : (L.getD x 0).toNat = blen x := by
 simp only [tabOk8, Bool.and_eq_true, List.all_eq_true, List.mem_range, decide_eq_true_eq, Bool.or_eq_true, beq_iff_eq] at h
 have := h.2 x hx
 exact (blen_uniq this.1 this.2).symm
theorem len_size {L : List UInt8} (h : tabOk8 L = true) : (⟨L.toArray⟩ : ByteArray).size = 256 := by
 simp only [tabOk8, Bool.and_eq_true, beq_iff_eq] at h
 show L.toArray.size = 256
 simpa using h.1
theorem len_fin {L : List UInt8} (h : tabOk8 L = true) {x n : Nat} {a : Int} (b : Nat) (hx : x < 256) (ha : a = b) (hb : b ≤ 56) (hn : blen n = b + blen x) :
  A.v (.int .i64 (IntKind.i64.wrap (a + IntKind.i64.wrap ((L.getD x 0).toNat : Nat)))) = A.v (.int .i64 (blen n : Nat)) := by
 subst ha
 have h8 : blen x ≤ 8 := blen_le (by omega)
 have w1 : IntKind.i64.wrap (blen x : Nat) = (blen x : Nat) := wrap_i64 (by omega) (by omega)
 have w2 : IntKind.i64.wrap ((b : Int) + (blen x : Nat)) = (b : Int) + (blen x : Nat) := wrap_i64 (by omega) (by omega)
 rw [len_get h hx, w1, w2, hn]
 rfl
theorem len_in {L : List UInt8} (h : tabOk8 L = true) {x : Nat} (hx : x < 256) : 0 ≤ (x : Int) ∧ (x : Int) < ((⟨L.toArray⟩ : ByteArray).size : Nat) := by
 rw [len_size h]
 omega
include hm in
theorem len64 (n : Nat) (h : n < 2 ^ 64) : Holds Tryz.prog 110 [.v (.int .u64 n)] [] (.v (.int .i64 (blen n))) [] := by
 refine holds_of (ann := []) tabOk hm Tryz.func110 (by kernel_rfl) rfl ?_
 simp +decide only [Tryz.f110, go_sem]
 refine Runs.split (fun h => ?_) (fun h => ?_)
 all_goals
  simp +decide only [s32, shr_nat, go_sem]
  refine Runs.split (fun h1 => ?_) (fun h1 => ?_)
 all_goals
  simp +decide (disch := first | omega | (simp only [ll]; omega)) only [s16, shr_nat, if_pos, go_sem]
  refine Runs.split (fun h2 => ?_) (fun h2 => ?_)
 all_goals
  simp only [decide_eq_true_eq, decide_eq_false_iff_not] at h h1 h2
  simp +decide (disch := first | omega | (simp only [ll]; omega)) only [s8, shr_nat, if_pos, go_sem]
 all_goals
  try simp only [s32, s16, s8] at *
 ·refine Runs.chk (decide_eq_true (len_in (by decide +kernel) (by omega))) (Runs.ret_eq (len_fin (by decide +kernel) 56 (by omega) ?_ (by omega) ?_))
  ·rfl
  ·rw [blen_shift 32 (by omega), blen_shift 16 (by omega), blen_shift 8 (by omega)]; omega
 ·refine Runs.chk (decide_eq_true (len_in (by decide +kernel) (by omega))) (Runs.ret_eq (len_fin (by decide +kernel) 48 (by omega) ?_ (by omega) ?_))
  ·rfl
  ·rw [blen_shift 32 (by omega), blen_shift 16 (by omega)]; omega
 ·refine Runs.chk (decide_eq_true (len_in (by decide +kernel) (by omega))) (Runs.ret_eq (len_fin (by decide +kernel) 40 (by omega) ?_ (by omega) ?_))
  ·rfl
  ·rw [blen_shift 32 (by omega), blen_shift 8 (by omega)]; omega
 ·refine Runs.chk (decide_eq_true (len_in (by decide +kernel) (by omega))) (Runs.ret_eq (len_fin (by decide +kernel) 32 (by omega) ?_ (by omega) ?_))
  ·rfl
  ·rw [blen_shift 32 (by omega)]
 ·refine Runs.chk (decide_eq_true (len_in (by decide +kernel) (by omega))) (Runs.ret_eq (len_fin (by decide +kernel) 24 (by omega) ?_ (by omega) ?_))
  ·rfl
  ·rw [blen_shift 16 (by omega), blen_shift 8 (by omega)]; omega
 ·refine Runs.chk (decide_eq_true (len_in (by decide +kernel) (by omega))) (Runs.ret_eq (len_fin (by decide +kernel) 16 (by omega) ?_ (by omega) ?_))
  ·rfl
  ·rw [blen_shift 16 (by omega)]
 ·refine Runs.chk (decide_eq_true (len_in (by decide +kernel) (by omega))) (Runs.ret_eq (len_fin (by decide +kernel) 8 (by omega) ?_ (by omega) ?_))
  ·rfl
  ·rw [blen_shift 8 (by omega)]
 ·refine Runs.chk (decide_eq_true (len_in (by decide +kernel) (by omega))) (Runs.ret_eq (len_fin (by decide +kernel) 0 (by omega) ?_ (by omega) ?_))
  ·rfl
  ·omega
include hm in
theorem bitsLen (n : Nat) (h : n < 2 ^ 64) : Holds Tryz.prog 73 [.v (.int .u64 n)] [] (.v (.int .i64 (blen n))) [] := by
 refine holds_of (ann := []) tabOk hm Tryz.func73 (by kernel_rfl) rfl ?_
 simp +decide only [Tryz.f73, go_sem]
 refine Runs.call (len64 hm n h) ?_
 simp +decide only [go_sem]
 exact Runs.ret_v
theorem andI_one (n : Nat) (h : n < 2 ^ 63) : andI .i64 n 1 = ((n % 2 : Nat) : Int) := by
 unfold andI
 have e : (BitVec.ofInt IntKind.i64.bits (n : Int) &&& BitVec.ofInt IntKind.i64.bits 1).toNat = n % 2 := by
  rw [BitVec.toNat_and]
  simp only [IntKind.bits, BitVec.toNat_ofInt]
  have e1 : ((n : Int) % (2 ^ 64 : Nat)).toNat = n := by omega
  have e2 : ((1 : Int) % (2 ^ 64 : Nat)).toNat = 1 := by decide
  rw [e1, e2, Nat.and_one_is_mod]
 rw [e]
 exact wrap_i64 (by omega) (by omega)
def piAnn : Ann := [(0, [0, 1, 2, 7, 8])]
def piSt (m a e : Int) (p : Int × Int) : St := ⟨[.v (.int .i64 a), .v (.int .i64 e), .v (.int .i64 m), .any, .any, .any, .any, .v (.int .i64 p.2), .v (.int .i64 p.1), .any, .any, .any, .any, .any, .any, .any, .any, .any, .any, .any, .any, .any, .any, .any, .any, .any, .any, .any, .any, .any, .any, .any, .any, .any, .any, .any, .any, .any], [], []⟩
include hm in
theorem powInt (a m : Int) (e : Nat) (h0 : 0 ≤ a) (h1 : 0 < m) (h2 : m ≤ 2147483648) (h3 : e ≤ 9223372036854775807) : Holds Tryz.prog 100 [.v (.int .i64 a), .v (.int .i64 e), .v (.int .i64 m)] [] (.v (.int .i64 (powZ a e m))) [] := by
 refine holds_of (ann := piAnn) tabOk hm Tryz.func100 (by kernel_rfl) rfl ?_
 have e1 : (1 : Int).tmod m = 1 % m := Int.tmod_eq_emod_of_nonneg (by omega)
 have e2 : a.tmod m = a % m := Int.tmod_eq_emod_of_nonneg h0
 have hin : ∀ n : Int, 0 ≤ n % m ∧ n % m < m := fun n => ⟨Int.emod_nonneg _ (by omega), Int.emod_lt_of_pos _ h1⟩
 have hl : blen e ≤ 63 := blen_le (by omega)
 simp +decide (disch := first | omega | (simp only [ll]; omega)) only [Tryz.f100, e1, e2, if_pos, go_sem]
 refine Runs.call (bitsLen hm e (by omega)) ?_
 simp +decide (disch := first | omega | (simp only [ll]; omega)) only [if_pos, go_sem]
 have ha := hin a
 rw [← powZ_M h1 a e]
 generalize a % m = b at ha ⊢
 refine Runs.while (α := Int × Int) (piSt m b e) (fun p => (p.1 + 1).toNat) (fun p => -1 ≤ p.1 ∧ p.1 ≤ 62 ∧ (0 ≤ p.2 ∧ p.2 < m) ∧ (p.1 = -1 ∨ 2 ^ p.1.toNat ≤ e) ∧ p.2 = mulM (mulZ m) (1 % m) (e / 2 ^ (p.1 + 1).toNat) b) ((blen e : Int) - 1, 1 % m) ⟨by simp only; omega, by simp only; omega, hin _, ?_, ?_⟩ ?_ ?_
 ·simp only
  by_cases hz : e = 0
  ·left; subst hz; rw [blen_zero]; rfl
  ·right
   have := blen_ge hz
   have hp := blen_pos hz
   have e : ((blen e : Int) - 1).toNat = blen e - 1 := by omega
   rw [e]
   exact this
 ·simp only
  have e : ((blen e : Int) - 1 + 1).toNat = blen e := by omega
  rw [e, Nat.div_eq_of_lt blen_lt, mulM_zero]
 ·simp [go_sem, piAnn, piSt]
 ·rintro ⟨i, out⟩ ⟨hi1, hi2, ho, hi3, hg⟩ ih
  simp only at hi1 hi2 ho hi3 hg
  simp +decide only [piSt, go_sem]
  refine Runs.split (fun h => ?_) (fun h => ?_)
  ·have hs : 0 ≤ i := by simpa using h
   obtain ⟨k, rfl⟩ := nat_of hs
   have hk : 2 ^ k ≤ e := by
    rcases hi3 with h | h
    ·omega
    ·simpa using h
   have ek : ((k : Int) + 1).toNat = k + 1 := by omega
   rw [ek] at hg
   have hst := mulM_step (mulZ m) (1 % m) e k b hk
   rw [← hg] at hst
   have b1 := mul_bd ho ho h2
   have w1 : IntKind.i64.wrap (out * out) = out * out := wrap_i64 (by omega) (by omega)
   have t1 : (out * out).tmod m = mulZ m out out := Int.tmod_eq_emod_of_nonneg b1.1
   have ho' : 0 ≤ mulZ m out out ∧ mulZ m out out < m := hin _
   have b2 := mul_bd ho' ha h2
   have w2 : IntKind.i64.wrap (mulZ m out out * b) = mulZ m out out * b := wrap_i64 (by omega) (by omega)
   have t2 : (mulZ m out out * b).tmod m = mulZ m (mulZ m out out) b := Int.tmod_eq_emod_of_nonneg b2.1
   have hq := Nat.div_le_self e (2 ^ k)
   have ea := andI_one (e / 2 ^ k) (by omega)
   have em : min k 64 = k := by omega
   have es := shr_nat e k
   have hpow : k = 0 ∨ 2 ^ (k - 1) ≤ e := by
    rcases Nat.eq_zero_or_pos k with h | h
    ·exact .inl h
    ·right; exact Nat.le_trans (Nat.pow_le_pow_right (by omega) (by omega)) hk
   simp +decide (disch := first | omega | (simp only [ll]; omega)) only [w1, t1, em, es, ea, if_pos, go_sem]
   refine Runs.split (fun h => ?_) (fun h => ?_)
   ·have hbit : e / 2 ^ k % 2 = 1 := by simp only [decide_eq_true_eq] at h; omega
    rw [if_pos hbit] at hst
    simp +decide (disch := first | omega | (simp only [ll]; omega)) only [w2, t2, if_pos, go_sem]
    refine ih ((k : Int) - 1, mulZ m (mulZ m out out) b) _ (by simp only; omega) ⟨by simp only; omega, by simp only; omega, hin _, ?_, ?_⟩ ?_
    ·simp only
     rcases hpow with h | h
     ·left; omega
     ·right
      have e : ((k : Int) - 1).toNat = k - 1 := by omega
      rw [e]; exact h
    ·simp only
     have e : ((k : Int) - 1 + 1).toNat = k := by omega
     rw [e, hst]
    ·simp [go_sem, piAnn, piSt]
   ·have hbit : ¬ e / 2 ^ k % 2 = 1 := by simp only [decide_eq_false_iff_not] at h; omega
    rw [if_neg hbit] at hst
    simp +decide (disch := first | omega | (simp only [ll]; omega)) only [if_pos, go_sem]
    refine ih ((k : Int) - 1, mulZ m out out) _ (by simp only; omega) ⟨by simp only; omega, by simp only; omega, hin _, ?_, ?_⟩ ?_
    ·simp only
     rcases hpow with h | h
     ·left; omega
     ·right
      have e : ((k : Int) - 1).toNat = k - 1 := by omega
      rw [e]; exact h
    ·simp only
     have e : ((k : Int) - 1 + 1).toNat = k := by omega
     rw [e, hst]
    ·simp [go_sem, piAnn, piSt]
  ·have hs : i = -1 := by simp at h; omega
   subst hs
   simp at hg
   simp +decide only [hg, go_sem]
   exact Runs.ret_v
end Go.Proofs.W

namespace Go.Proofs.W
open Go Go.AM Go.Proofs.G
set_option maxRecDepth 10000
variable (hm : Tryz.prog.follows .mixedOrders = true)
structure GCv where
 p : Int
 a : Int
 b : Int
 n : Int
 gx : Int
 gy : Int
def cvA (k : GCv) : A := .agg [.v (.int .i64 k.p), .v (.int .i64 k.a), .v (.int .i64 k.b), .v (.int .i64 k.n), .v (.int .i64 k.gx), .v (.int .i64 k.gy)]
def ptA (P : GPt) : A := .agg [.v (.int .i64 P.x), .v (.int .i64 P.y), .v (.bool P.far)]
def CvIn (k : GCv) : Prop := 5 ≤ k.p ∧ k.p ≤ 1048576 ∧ (0 ≤ k.a ∧ k.a < k.p) ∧ (0 ≤ k.b ∧ k.b < k.p)
def PtIn (p : Int) (P : GPt) : Prop := (0 ≤ P.x ∧ P.x < p) ∧ (0 ≤ P.y ∧ P.y < p)
theorem mul_in {a b m : Int} (h1 : 0 ≤ a ∧ a < m) (h2 : 0 ≤ b ∧ b < m) (hm : m ≤ 2097152) : 0 ≤ a * b ∧ a * b ≤ 4398046511104 := by
 have : a * b ≤ 2097152 * 2097152 := Int.mul_le_mul (by omega) (by omega) h2.1 (by omega)
 exact ⟨Int.mul_nonneg h1.1 h2.1, by omega⟩
theorem mod_in' {m : Int} (h : 0 < m) (n : Int) : 0 ≤ n % m ∧ n % m < m := ⟨Int.emod_nonneg _ (by omega), Int.emod_lt_of_pos _ h⟩
attribute [local go_sem] cvA ptA
def soS : Sched := .take 0 (.take 2 (.take 5 (.take 8 (.take 10 (.take 13 (.take 16 (.take 19 (.take 22 (.take 25 (.ld 1 (.ld 3 (.take 4 (.ld 6 (.take 7 (.ld 9 (.ld 11 (.take 12 (.ld 14 (.take 15 (.ld 17 (.take 18 (.ld 20 (.take 21 (.ld 23 (.take 24 (.ld 26 (.take 27 (.take 28 (.take 29 .fin)))))))))))))))))))))))))))))
attribute [local go_sem] soS
include hm in
theorem l3On (k : GCv) (P : GPt) (hk : CvIn k) : Holds Tryz.prog 67 [cvA k, ptA P] [] (.v (.bool (onZ k.p k.a k.b P))) [] := by
 refine holds_ref (ann := []) tabOk hm (byL [] [1000002, 1000003]) Tryz.func67 (by kernel_rfl) rfl ?_
 obtain ⟨p, a, b, n, gx, gy⟩ := k
 obtain ⟨x, y, far⟩ := P
 obtain ⟨h1, h2, h3, h4⟩ := hk
 simp only at h1 h2 h3 h4
 simp +decide only [Tryz.f67, go_sem]
 refine Runs.split (fun h => ?_) (fun h => ?_)
 ·subst h
  simp +decide only [go_sem]
  refine Runs.split (fun h => ?_) (fun h => ?_)
  ·have hx : x = 0 := by simpa using h
   subst hx
   simp +decide only [go_sem]
   exact Runs.ret_eq (by simp [onZ])
  ·have hx : x ≠ 0 := by simpa using h
   simp +decide only [go_sem]
   exact Runs.ret_eq (by simp [onZ, hx])
 ·subst h
  simp +decide (disch := first | omega | (simp only [ll]; omega)) only [if_pos, go_sem]
  refine Runs.call (l1In hm x 0 (p - 1)) ?_
  simp +decide only [go_sem]
  refine Runs.split (fun h => ?_) (fun h => ?_)
  ·have e : onZ p a b ⟨x, y, false⟩ = false := by simp [inB] at h; simp [onZ]; omega
   simp +decide only [e, go_sem]
   exact Runs.ret_v
  ·have hx : 0 ≤ x ∧ x < p := by simp [inB] at h; omega
   simp +decide (disch := first | omega | (simp only [ll]; omega)) only [if_pos, go_sem]
   refine Runs.call (l1In hm y 0 (p - 1)) ?_
   simp +decide only [go_sem]
   refine Runs.split (fun h => ?_) (fun h => ?_)
   ·have e : onZ p a b ⟨x, y, false⟩ = false := by simp [inB] at h; simp [onZ]; omega
    simp +decide only [e, go_sem]
    exact Runs.ret_v
   ·have hy : 0 ≤ y ∧ y < p := by simp [inB] at h; omega
    have b1 := mul_in hy hy (by omega)
    have b2 := mul_in hx hx (by omega)
    have w1 : IntKind.i64.wrap (y * y) = y * y := wrap_i64 (by omega) (by omega)
    have w2 : IntKind.i64.wrap (x * x) = x * x := wrap_i64 (by omega) (by omega)
    have t1 : (y * y).tmod p = y * y % p := Int.tmod_eq_emod_of_nonneg b1.1
    have t2 : (x * x).tmod p = x * x % p := Int.tmod_eq_emod_of_nonneg b2.1
    have m1 := mod_in' (show 0 < p by omega) (x * x)
    have w3 : IntKind.i64.wrap (x * x % p + a) = x * x % p + a := wrap_i64 (by omega) (by omega)
    have b3 := mul_in (m := 2097152) (show 0 ≤ x * x % p + a ∧ x * x % p + a < 2097152 by omega) (show 0 ≤ x ∧ x < 2097152 by omega) (by omega)
    have w4 : IntKind.i64.wrap ((x * x % p + a) * x) = (x * x % p + a) * x := wrap_i64 (by omega) (by omega)
    have w5 : IntKind.i64.wrap ((x * x % p + a) * x + b) = (x * x % p + a) * x + b := wrap_i64 (by omega) (by omega)
    have t3 : ((x * x % p + a) * x + b).tmod p = ((x * x % p + a) * x + b) % p := Int.tmod_eq_emod_of_nonneg (by omega)
    simp +decide only [go_sem]
    refine Runs.draw (st1 := ?s1) (draws_ref (ann := []) tabOk (byL [] [1000002, 1000003]) soS (by kernel_rfl) ?p1) ?q1
    case p1 =>
     intro K r X hK
     simp +decide (maxSteps := 9^7) (disch := first | omega | (simp only [ll]; omega)) only [w1, w2, w3, w4, w5, t1, t2, t3, if_pos, go_sem]
     exact hK
    case q1 =>
     simp +decide only [go_sem]
     exact Runs.ret_eq (by simp [onZ, hx, hy]; omega)
def ipS : Sched := .take 0 (.take 2 (.ld 1 (.ld 3 (.take 4 (.alt 5 (.take 6 (.take 7 (.take 9 (.ld 8 (.ld 10 (.take 11 (.alt 12 (.take 13 (.take 14 (.take 15 (.take 17 (.take 20 (.take 23 (.take 25 (.take 28 (.take 31 (.take 34 (.take 37 (.take 40 (.ld 16 (.ld 18 (.take 19 (.ld 21 (.take 22 (.ld 24 (.ld 26 (.take 27 (.ld 29 (.take 30 (.ld 32 (.take 33 (.ld 35 (.take 36 (.ld 38 (.take 39 (.ld 41 (.take 42 (.take 43 (.take 44 (.take 45 .fin))))))))))))))))))))))))))))))))) .nil))))))) .nil)))))
attribute [local go_sem] ipS
include hm in
theorem isPoint (k : GCv) (P : GPt) (hk : CvIn k) : Holds Tryz.prog 74 [cvA k, ptA P] [] (.v (.bool (onZ k.p k.a k.b P))) [] := by
 refine holds_ref (ann := []) tabOk hm (byL [] [1000002, 1000003]) Tryz.func74 (by kernel_rfl) rfl ?_
 obtain ⟨p, a, b, n, gx, gy⟩ := k
 obtain ⟨x, y, far⟩ := P
 obtain ⟨h1, h2, h3, h4⟩ := hk
 simp only at h1 h2 h3 h4
 simp +decide only [Tryz.f74, go_sem]
 refine Runs.split (fun h => ?_) (fun h => ?_)
 ·subst h
  simp +decide only [go_sem]
  refine Runs.split (fun h => ?_) (fun h => ?_)
  ·have hx : x = 0 := by simpa using h
   subst hx
   simp +decide only [go_sem]
   exact Runs.ret_eq (by simp [onZ])
  ·have hx : x ≠ 0 := by simpa using h
   simp +decide only [go_sem]
   exact Runs.ret_eq (by simp [onZ, hx])
 ·subst h
  have c1 := within hm x 0 (p - 1)
  have c2 := within hm y 0 (p - 1)
  simp +decide only [go_sem]
  cases e1 : inB x 0 (p - 1) with
  | false =>
   rw [e1] at c1
   have e : onZ p a b ⟨x, y, false⟩ = false := by simp [inB] at e1; simp [onZ]; omega
   refine Runs.draw (st1 := ?s1) (draws_ref (ann := []) tabOk (byL [] [1000002, 1000003]) ipS (by kernel_rfl) ?p1) ?q1
   case p1 =>
    intro K r X hK
    simp +decide (maxSteps := 9^7) (disch := first | omega | (simp only [ll]; omega)) only [if_pos, go_sem]
    refine Runs.call c1 ?_
    simp +decide (maxSteps := 9^7) (disch := first | omega | (simp only [ll]; omega)) only [if_pos, go_sem]
    exact hK
   case q1 =>
    simp +decide only [go_sem]
    exact Runs.ret_eq (by rw [e])
  | true =>
   have hx : 0 ≤ x ∧ x < p := by simp [inB] at e1; omega
   rw [e1] at c1
   cases e2 : inB y 0 (p - 1) with
   | false =>
    rw [e2] at c2
    have e : onZ p a b ⟨x, y, false⟩ = false := by simp [inB] at e2; simp [onZ]; omega
    refine Runs.draw (st1 := ?s2) (draws_ref (ann := []) tabOk (byL [] [1000002, 1000003]) ipS (by kernel_rfl) ?p2) ?q2
    case p2 =>
     intro K r X hK
     simp +decide (maxSteps := 9^7) (disch := first | omega | (simp only [ll]; omega)) only [if_pos, go_sem]
     refine Runs.call c1 ?_
     simp +decide (maxSteps := 9^7) (disch := first | omega | (simp only [ll]; omega)) only [if_pos, go_sem]
     refine Runs.call c2 ?_
     simp +decide (maxSteps := 9^7) (disch := first | omega | (simp only [ll]; omega)) only [if_pos, go_sem]
     exact hK
    case q2 =>
     simp +decide only [go_sem]
     exact Runs.ret_eq (by rw [e])
   | true =>
    rw [e2] at c2
    have hy : 0 ≤ y ∧ y < p := by simp [inB] at e2; omega
    have b1 := mul_in hy hy (by omega)
    have b2 := mul_in hx hx (by omega)
    have w1 : IntKind.i64.wrap (y * y) = y * y := wrap_i64 (by omega) (by omega)
    have w2 : IntKind.i64.wrap (x * x) = x * x := wrap_i64 (by omega) (by omega)
    have t1 : (y * y).tmod p = y * y % p := Int.tmod_eq_emod_of_nonneg b1.1
    have w3 : IntKind.i64.wrap (x * x + a) = x * x + a := wrap_i64 (by omega) (by omega)
    have t2 : (x * x + a).tmod p = (x * x + a) % p := Int.tmod_eq_emod_of_nonneg (by omega)
    have m1 := mod_in' (show 0 < p by omega) (x * x + a)
    have b3 := mul_in (m := 2097152) (show 0 ≤ (x * x + a) % p ∧ (x * x + a) % p < 2097152 by omega) (show 0 ≤ x ∧ x < 2097152 by omega) (by omega)
    have w4 : IntKind.i64.wrap ((x * x + a) % p * x) = (x * x + a) % p * x := wrap_i64 (by omega) (by omega)
    have w5 : IntKind.i64.wrap ((x * x + a) % p * x + b) = (x * x + a) % p * x + b := wrap_i64 (by omega) (by omega)
    have t3 : ((x * x + a) % p * x + b).tmod p = ((x * x + a) % p * x + b) % p := Int.tmod_eq_emod_of_nonneg (by omega)
    refine Runs.draw (st1 := ?s3) (draws_ref (ann := []) tabOk (byL [] [1000002, 1000003]) ipS (by kernel_rfl) ?p3) ?q3
    case p3 =>
     intro K r X hK
     simp +decide (maxSteps := 9^7) (disch := first | omega | (simp only [ll]; omega)) only [if_pos, go_sem]
     refine Runs.call c1 ?_
     simp +decide (maxSteps := 9^7) (disch := first | omega | (simp only [ll]; omega)) only [if_pos, go_sem]
     refine Runs.call c2 ?_
     simp +decide (maxSteps := 9^7) (disch := first | omega | (simp only [ll]; omega)) only [w1, w2, w3, w4, w5, t1, t2, t3, if_pos, go_sem]
     exact hK
    case q3 =>
     simp +decide only [go_sem]
     have e3 := mod_on x a b p
     exact Runs.ret_eq (by rw [e3]; simp [onZ, hx, hy]; omega)
include hm in
theorem baseP (k : GCv) : Holds Tryz.prog 97 [cvA k] [] (ptA ⟨k.gx, k.gy, false⟩) [] := by
 refine holds_ref (ann := []) tabOk hm (byL [] [1000001]) Tryz.func97 (by kernel_rfl) rfl ?_
 simp +decide only [Tryz.f97, go_sem]
 exact Runs.ret_refl
end Go.Proofs.W

namespace Go.Proofs.W
open Go Go.AM Go.Proofs.G
variable (hm : Tryz.prog.follows .mixedOrders = true)
attribute [local go_sem] cvA ptA
def sumEnd (p : Int) (a b : GPt) (s : Int) : GPt := ⟨(s * s - a.x - b.x) % p, (s * (a.x - (s * s - a.x - b.x) % p) - a.y) % p, false⟩
theorem sumEnd_in {p : Int} (h : 0 < p) (a b : GPt) (s : Int) : PtIn p (sumEnd p a b s) := ⟨mod_in' h _, mod_in' h _⟩
theorem addZ_in {p A : Int} (h : 0 < p) {a b : GPt} (ha : PtIn p a) (hb : PtIn p b) : PtIn p (addZ p A a b) := by
 unfold addZ
 split
 ·exact hb
 ·split
  ·exact ha
  ·split
   ·exact ⟨⟨by show (0 : Int) ≤ 0; omega, by show (0 : Int) < p; omega⟩, ⟨by show (0 : Int) ≤ 0; omega, by show (0 : Int) < p; omega⟩⟩
   ·exact sumEnd_in h a b _
theorem sumZ_in {p A : Int} (h : 0 < p) {a b : GPt} (ha : PtIn p a) (hb : PtIn p b) : PtIn p (sumZ p A a b) := by
 unfold sumZ
 split
 ·exact hb
 ·split
  ·exact ha
  ·split
   ·exact ⟨⟨by show (0 : Int) ≤ 0; omega, by show (0 : Int) < p; omega⟩, ⟨by show (0 : Int) ≤ 0; omega, by show (0 : Int) < p; omega⟩⟩
   ·exact sumEnd_in h a b _
theorem mul_sg {a b m : Int} (h1 : 0 ≤ a ∧ a < m) (h2 : -m < b ∧ b < m) (hm : m ≤ 2097152) : -4398046511104 ≤ a * b ∧ a * b ≤ 4398046511104 := by
 rcases Int.le_total 0 b with h | h
 ·have := mul_in h1 (show 0 ≤ b ∧ b < m by omega) hm
  omega
 ·have := mul_in h1 (show 0 ≤ -b ∧ -b < m by omega) hm
  have e : a * -b = -(a * b) := by grind
  omega
theorem farPt : ptA farP = .agg [.v (.int .i64 0), .v (.int .i64 0), .v (.bool true)] := rfl
def laA : Sched := .take 0 (.take 3 (.take 6 (.take 9 (.take 12 (.take 15 (.take 18 (.take 22 (.ld 1 (.take 2 (.ld 4 (.take 5 (.ld 7 (.take 8 (.ld 10 (.take 11 (.ld 13 (.take 14 (.ld 16 (.take 17 (.ld 19 (.ld 23 (.alt 20 (.take 21 (.take 24 (.take 25 .fin))) .nil))))))))))))))))))))))
def laB : Sched := .take 0 (.take 2 (.take 5 (.take 8 (.take 10 (.take 13 (.take 17 (.ld 1 (.ld 3 (.take 4 (.ld 6 (.ld 9 (.ld 11 (.take 12 (.ld 14 (.ld 18 (.alt 7 (.alt 15 (.take 16 (.take 19 (.take 20 .fin))) .nil) .nil))))))))))))))))
attribute [local go_sem] laA laB
set_option maxRecDepth 10000 in
set_option maxHeartbeats 4000000 in
include hm in
theorem l3Add (k : GCv) (P Q : GPt) (hk : CvIn k) (hP : PtIn k.p P) (hQ : PtIn k.p Q) : Holds Tryz.prog 68 [cvA k, ptA P, ptA Q] [] (ptA (addZ k.p k.a P Q)) [] := by
 refine holds_ref (ann := []) tabOk hm (byL [] [1000003, 1000004, 1000005]) Tryz.func68 (by kernel_rfl) rfl ?_
 obtain ⟨p, a, b, n, gx, gy⟩ := k
 obtain ⟨x, y, far⟩ := P
 obtain ⟨u, v, far'⟩ := Q
 obtain ⟨h1, h2, h3, h4⟩ := hk
 obtain ⟨hx, hy⟩ := hP
 obtain ⟨hu, hv⟩ := hQ
 simp only at h1 h2 h3 h4 hx hy hu hv
 simp +decide only [Tryz.f68, go_sem]
 refine Runs.split (fun h => ?_) (fun h => ?_)
 ·subst h
  simp +decide only [go_sem]
  exact Runs.ret_eq (by simp [addZ, ptA])
 ·subst h
  simp +decide only [go_sem]
  refine Runs.split (fun h => ?_) (fun h => ?_)
  ·subst h
   simp +decide only [go_sem]
   exact Runs.ret_eq (by simp [addZ, ptA])
  ·subst h
   by_cases e : x = u
   ·subst e
    simp +decide (disch := first | omega | (simp only [ll]; omega)) only [Int.tmod_eq_emod_of_nonneg, if_pos, go_sem]
    refine Runs.split (fun h => ?_) (fun h => ?_)
    ·have h' : (y + v) % p = 0 := by simpa using h
     simp +decide only [go_sem]
     exact Runs.ret_eq (by simp [addZ, ptA, farP, h'])
    ·have h' : (y + v) % p ≠ 0 := by simpa using h
     have m1 := mod_in' (show 0 < p by omega) (3 * x)
     have b1 := mul_in m1 hx (by omega)
     have m2 := mod_in' (show 0 < p by omega) (3 * x % p * x + a)
     have m3 := invI_range (a := 2 * y) (m := p) (by omega)
     have b2 := mul_in m2 m3 (by omega)
     simp +decide only [go_sem]
     refine Runs.draw (st1 := ?s1) (draws_ref (ann := []) tabOk (byL [] [1000003, 1000004, 1000005]) laA (by kernel_rfl) ?p1) ?q1
     case p1 =>
      intro K r X hK
      simp +decide (maxSteps := 9^7) (disch := first | omega | (simp only [ll]; omega)) only [Int.tmod_eq_emod_of_nonneg, if_pos, go_sem]
      refine Runs.call (l2Inv hm (2 * y) p (by omega) (by omega)) ?_
      simp +decide (maxSteps := 9^7) (disch := first | omega | (simp only [ll]; omega)) only [Int.tmod_eq_emod_of_nonneg, if_pos, go_sem]
      exact hK
     case q1 =>
      have ev : addZ p a ⟨x, y, false⟩ ⟨x, v, false⟩ = sumEnd p ⟨x, y, false⟩ ⟨x, v, false⟩ ((3 * x % p * x + a) % p * invI (2 * y) p % p) := by simp [addZ, h', sumEnd]
      rw [ev]
      simp only [sumEnd]
      have m0 := mod_in' (show 0 < p by omega) ((3 * x % p * x + a) % p * invI (2 * y) p)
      generalize ((3 * x % p * x + a) % p * invI (2 * y) p) % p = s at *
      have q1 := mul_in m0 m0 (by omega)
      have m2 := mod_in' (show 0 < p by omega) (s * s - x - x)
      have q2 := mul_sg (b := x - (s * s - x - x) % p) m0 (by omega) (by omega)
      simp +decide (maxSteps := 9^7) (disch := first | omega | (simp only [ll]; omega)) only [if_pos, go_sem]
      refine Runs.call (l2Left hm (s * s - x - x) p (by omega) (by omega)) ?_
      generalize hX : (s * s - x - x) % p = X at *
      simp +decide (maxSteps := 9^7) (disch := first | omega | (simp only [ll]; omega)) only [if_pos, go_sem]
      refine Runs.call (l2Left hm (s * (x - X) - y) p (by omega) (by omega)) ?_
      simp +decide (maxSteps := 9^7) (disch := first | omega | (simp only [ll]; omega)) only [if_pos, go_sem]
      exact Runs.ret_eq (by simp [ptA, hX])
   ·simp +decide (disch := first | omega | (simp only [ll]; omega)) only [e, if_pos, go_sem]
    have m1 := mod_in' (show 0 < p by omega) (v - y)
    have m3 := invI_range (a := u - x) (m := p) (by omega)
    have b2 := mul_in m1 m3 (by omega)
    refine Runs.draw (st1 := ?s2) (draws_ref (ann := []) tabOk (byL [] [1000003, 1000004, 1000005]) laB (by kernel_rfl) ?p2) ?q2
    case p2 =>
     intro K r X hK
     simp +decide (maxSteps := 9^7) (disch := first | omega | (simp only [ll]; omega)) only [Int.tmod_eq_emod_of_nonneg, if_pos, go_sem]
     refine Runs.call (l2Left hm (v - y) p (by omega) (by omega)) ?_
     simp +decide (maxSteps := 9^7) (disch := first | omega | (simp only [ll]; omega)) only [Int.tmod_eq_emod_of_nonneg, if_pos, go_sem]
     refine Runs.call (l2Inv hm (u - x) p (by omega) (by omega)) ?_
     simp +decide (maxSteps := 9^7) (disch := first | omega | (simp only [ll]; omega)) only [Int.tmod_eq_emod_of_nonneg, if_pos, go_sem]
     exact hK
    case q2 =>
     have ev : addZ p a ⟨x, y, false⟩ ⟨u, v, false⟩ = sumEnd p ⟨x, y, false⟩ ⟨u, v, false⟩ ((v - y) % p * invI (u - x) p % p) := by simp [addZ, e, sumEnd]
     rw [ev]
     simp only [sumEnd]
     have m0 := mod_in' (show 0 < p by omega) ((v - y) % p * invI (u - x) p)
     generalize ((v - y) % p * invI (u - x) p) % p = s at *
     have q1 := mul_in m0 m0 (by omega)
     have m2 := mod_in' (show 0 < p by omega) (s * s - x - u)
     have q2 := mul_sg (b := x - (s * s - x - u) % p) m0 (by omega) (by omega)
     simp +decide (maxSteps := 9^7) (disch := first | omega | (simp only [ll]; omega)) only [if_pos, go_sem]
     refine Runs.call (l2Left hm (s * s - x - u) p (by omega) (by omega)) ?_
     generalize hX : (s * s - x - u) % p = X at *
     simp +decide (maxSteps := 9^7) (disch := first | omega | (simp only [ll]; omega)) only [if_pos, go_sem]
     refine Runs.call (l2Left hm (s * (x - X) - y) p (by omega) (by omega)) ?_
     simp +decide (maxSteps := 9^7) (disch := first | omega | (simp only [ll]; omega)) only [if_pos, go_sem]
     exact Runs.ret_eq (by simp [ptA, hX])
def suA : Sched := .take 0 (.take 2 (.take 5 (.take 7 (.ld 1 (.ld 3 (.take 4 (.take 10 (.ld 6 (.ld 8 (.take 9 (.take 11 .fin)))))))))))
def suB : Sched := .take 0 (.take 3 (.take 6 (.take 9 (.ld 1 (.take 2 (.ld 4 (.take 5 (.ld 7 (.take 8 (.take 12 (.ld 10 (.take 11 (.take 13 .fin)))))))))))))
def suC : Sched := .take 0 (.take 1 (.take 4 (.take 6 (.ld 2 (.ld 7 (.alt 3 (.take 5 (.take 8 (.take 9 .fin))) .nil))))))
attribute [local go_sem] suA suB suC
set_option maxRecDepth 10000 in
set_option maxHeartbeats 4000000 in
include hm in
theorem sumC (k : GCv) (P Q : GPt) (hk : CvIn k) (hP : PtIn k.p P) (hQ : PtIn k.p Q) : Holds Tryz.prog 75 [cvA k, ptA P, ptA Q] [] (ptA (sumZ k.p k.a P Q)) [] := by
 refine holds_ref (ann := []) tabOk hm (byL [] [1000003, 1000004, 1000005]) Tryz.func75 (by kernel_rfl) rfl ?_
 obtain ⟨p, a, b, n, gx, gy⟩ := k
 obtain ⟨x, y, far⟩ := P
 obtain ⟨u, v, far'⟩ := Q
 obtain ⟨h1, h2, h3, h4⟩ := hk
 obtain ⟨hx, hy⟩ := hP
 obtain ⟨hu, hv⟩ := hQ
 simp only at h1 h2 h3 h4 hx hy hu hv
 simp +decide only [Tryz.f75, go_sem]
 refine Runs.split (fun h => ?_) (fun h => ?_)
 ·subst h
  simp +decide only [go_sem]
  exact Runs.ret_eq (by simp [sumZ, ptA])
 ·subst h
  simp +decide only [go_sem]
  refine Runs.split (fun h => ?_) (fun h => ?_)
  ·subst h
   simp +decide only [go_sem]
   exact Runs.ret_eq (by simp [sumZ, ptA])
  ·subst h
   by_cases e : x = u
   ·subst e
    simp +decide (disch := first | omega | (simp only [ll]; omega)) only [Int.tmod_eq_emod_of_nonneg, if_pos, go_sem]
    refine Runs.split (fun h => ?_) (fun h => ?_)
    ·have h' : (y + v) % p = 0 := by simpa using h
     simp +decide only [go_sem]
     exact Runs.ret_eq (by simp [sumZ, ptA, farP, h'])
    ·have h' : (y + v) % p ≠ 0 := by simpa using h
     simp +decide only [go_sem]
     refine Runs.draw (st1 := ?s1) (draws_ref (ann := []) tabOk (byL [] [1000003, 1000004, 1000005]) suA (by kernel_rfl) ?p1) ?q1
     case p1 =>
      intro K r X hK
      simp +decide (maxSteps := 9^7) (disch := first | omega | (simp only [ll]; omega)) only [if_pos, go_sem]
      exact hK
     case q1 =>
      by_cases e2 : y = v
      ·subst e2
       have b0 := mul_in hx hx (by omega)
       have b1 : 3 * x * x = 3 * (x * x) := Int.mul_assoc 3 x x
       simp +decide (maxSteps := 9^7) (disch := first | omega | (simp only [ll]; omega)) only [if_pos, go_sem]
       refine Runs.draw (st1 := ?s2) (draws_ref (ann := []) tabOk (byL [] [1000003, 1000004, 1000005]) suB (by kernel_rfl) ?p2) ?q2
       case p2 =>
        intro K r X hK
        simp +decide (maxSteps := 9^7) (disch := first | omega | (simp only [ll]; omega)) only [if_pos, go_sem]
        exact hK
       case q2 =>
        simp +decide (maxSteps := 9^7) (disch := first | omega | (simp only [ll]; omega)) only [Int.tmod_eq_emod_of_nonneg, if_pos, go_sem]
        have m1 := mod_in' (show 0 < p by omega) (3 * x * x + a)
        have m3 := invI_range (a := 2 * y) (m := p) (by omega)
        have b2 := mul_in m1 m3 (by omega)
        refine Runs.call (invInt hm (2 * y) p (by omega) (by omega)) ?_
        simp +decide (maxSteps := 9^7) (disch := first | omega | (simp only [ll]; omega)) only [if_pos, go_sem]
        refine Runs.draw (st1 := ?t1s) (draws_ref (ann := []) tabOk (byL [] [1000003, 1000004, 1000005]) suC (by kernel_rfl) ?t1p) ?t1q
        case t1p =>
         intro K r X hK
         simp +decide (maxSteps := 9^7) (disch := first | omega | (simp only [ll]; omega)) only [Int.tmod_eq_emod_of_nonneg, if_pos, go_sem]
         refine Runs.call (rest hm (3 * x * x + a) p (by omega) (by omega)) ?_
         simp +decide (maxSteps := 9^7) (disch := first | omega | (simp only [ll]; omega)) only [Int.tmod_eq_emod_of_nonneg, if_pos, go_sem]
         exact hK
        case t1q =>
         have ev : sumZ p a ⟨x, y, false⟩ ⟨x, y, false⟩ = sumEnd p ⟨x, y, false⟩ ⟨x, y, false⟩ ((3 * x * x + a) % p * invI (2 * y) p % p) := by simp [sumZ, h', sumEnd]
         rw [ev]
         simp only [sumEnd]
         have m0 := mod_in' (show 0 < p by omega) ((3 * x * x + a) % p * invI (2 * y) p)
         generalize (3 * x * x + a) % p * invI (2 * y) p % p = s at *
         have q1 := mul_in m0 m0 (by omega)
         have m2 := mod_in' (show 0 < p by omega) (s * s - x - x)
         have q2 := mul_sg (b := x - (s * s - x - x) % p) m0 (by omega) (by omega)
         simp +decide (maxSteps := 9^7) (disch := first | omega | (simp only [ll]; omega)) only [if_pos, go_sem]
         refine Runs.call (rest hm (s * s - x - x) p (by omega) (by omega)) ?_
         generalize hX : (s * s - x - x) % p = X at *
         simp +decide (maxSteps := 9^7) (disch := first | omega | (simp only [ll]; omega)) only [if_pos, go_sem]
         refine Runs.call (rest hm (s * (x - X) - y) p (by omega) (by omega)) ?_
         simp +decide (maxSteps := 9^7) (disch := first | omega | (simp only [ll]; omega)) only [if_pos, go_sem]
         exact Runs.ret_eq (by simp [ptA, hX])
      ·simp +decide (maxSteps := 9^7) (disch := first | omega | (simp only [ll]; omega)) only [e2, Int.tmod_eq_emod_of_nonneg, if_pos, go_sem]
       have m1 := mod_in' (show 0 < p by omega) (v - y)
       have m3 := invI_range (a := x - x) (m := p) (by omega)
       have b2 := mul_in m1 m3 (by omega)
       refine Runs.call (invInt hm (x - x) p (by omega) (by omega)) ?_
       simp +decide (maxSteps := 9^7) (disch := first | omega | (simp only [ll]; omega)) only [if_pos, go_sem]
       refine Runs.draw (st1 := ?t2s) (draws_ref (ann := []) tabOk (byL [] [1000003, 1000004, 1000005]) suC (by kernel_rfl) ?t2p) ?t2q
       case t2p =>
        intro K r X hK
        simp +decide (maxSteps := 9^7) (disch := first | omega | (simp only [ll]; omega)) only [Int.tmod_eq_emod_of_nonneg, if_pos, go_sem]
        refine Runs.call (rest hm (v - y) p (by omega) (by omega)) ?_
        simp +decide (maxSteps := 9^7) (disch := first | omega | (simp only [ll]; omega)) only [Int.tmod_eq_emod_of_nonneg, if_pos, go_sem]
        exact hK
       case t2q =>
        have ev : sumZ p a ⟨x, y, false⟩ ⟨x, v, false⟩ = sumEnd p ⟨x, y, false⟩ ⟨x, v, false⟩ ((v - y) % p * invI (x - x) p % p) := by simp [sumZ, h', sumEnd, e2]
        rw [ev]
        simp only [sumEnd]
        have m0 := mod_in' (show 0 < p by omega) ((v - y) % p * invI (x - x) p)
        generalize (v - y) % p * invI (x - x) p % p = s at *
        have q1 := mul_in m0 m0 (by omega)
        have m2 := mod_in' (show 0 < p by omega) (s * s - x - x)
        have q2 := mul_sg (b := x - (s * s - x - x) % p) m0 (by omega) (by omega)
        simp +decide (maxSteps := 9^7) (disch := first | omega | (simp only [ll]; omega)) only [if_pos, go_sem]
        refine Runs.call (rest hm (s * s - x - x) p (by omega) (by omega)) ?_
        generalize hX : (s * s - x - x) % p = X at *
        simp +decide (maxSteps := 9^7) (disch := first | omega | (simp only [ll]; omega)) only [if_pos, go_sem]
        refine Runs.call (rest hm (s * (x - X) - y) p (by omega) (by omega)) ?_
        simp +decide (maxSteps := 9^7) (disch := first | omega | (simp only [ll]; omega)) only [if_pos, go_sem]
        exact Runs.ret_eq (by simp [ptA, hX])
   ·simp +decide (disch := first | omega | (simp only [ll]; omega)) only [e, if_pos, go_sem]
    refine Runs.draw (st1 := ?s3) (draws_ref (ann := []) tabOk (byL [] [1000003, 1000004, 1000005]) suA (by kernel_rfl) ?p3) ?q3
    case p3 =>
     intro K r X hK
     simp +decide (maxSteps := 9^7) (disch := first | omega | (simp only [ll]; omega)) only [if_pos, go_sem]
     exact hK
    case q3 =>
     simp +decide (maxSteps := 9^7) (disch := first | omega | (simp only [ll]; omega)) only [e, Int.tmod_eq_emod_of_nonneg, if_pos, go_sem]
     have m1 := mod_in' (show 0 < p by omega) (v - y)
     have m3 := invI_range (a := u - x) (m := p) (by omega)
     have b2 := mul_in m1 m3 (by omega)
     refine Runs.call (invInt hm (u - x) p (by omega) (by omega)) ?_
     simp +decide (maxSteps := 9^7) (disch := first | omega | (simp only [ll]; omega)) only [if_pos, go_sem]
     refine Runs.draw (st1 := ?t3s) (draws_ref (ann := []) tabOk (byL [] [1000003, 1000004, 1000005]) suC (by kernel_rfl) ?t3p) ?t3q
     case t3p =>
      intro K r X hK
      simp +decide (maxSteps := 9^7) (disch := first | omega | (simp only [ll]; omega)) only [Int.tmod_eq_emod_of_nonneg, if_pos, go_sem]
      refine Runs.call (rest hm (v - y) p (by omega) (by omega)) ?_
      simp +decide (maxSteps := 9^7) (disch := first | omega | (simp only [ll]; omega)) only [Int.tmod_eq_emod_of_nonneg, if_pos, go_sem]
      exact hK
     case t3q =>
      have ev : sumZ p a ⟨x, y, false⟩ ⟨u, v, false⟩ = sumEnd p ⟨x, y, false⟩ ⟨u, v, false⟩ ((v - y) % p * invI (u - x) p % p) := by simp [sumZ, e, sumEnd]
      rw [ev]
      simp only [sumEnd]
      have m0 := mod_in' (show 0 < p by omega) ((v - y) % p * invI (u - x) p)
      generalize (v - y) % p * invI (u - x) p % p = s at *
      have q1 := mul_in m0 m0 (by omega)
      have m2 := mod_in' (show 0 < p by omega) (s * s - x - u)
      have q2 := mul_sg (b := x - (s * s - x - u) % p) m0 (by omega) (by omega)
      simp +decide (maxSteps := 9^7) (disch := first | omega | (simp only [ll]; omega)) only [if_pos, go_sem]
      refine Runs.call (rest hm (s * s - x - u) p (by omega) (by omega)) ?_
      generalize hX : (s * s - x - u) % p = X at *
      simp +decide (maxSteps := 9^7) (disch := first | omega | (simp only [ll]; omega)) only [if_pos, go_sem]
      refine Runs.call (rest hm (s * (x - X) - y) p (by omega) (by omega)) ?_
      simp +decide (maxSteps := 9^7) (disch := first | omega | (simp only [ll]; omega)) only [if_pos, go_sem]
      exact Runs.ret_eq (by simp [ptA, hX])
end Go.Proofs.W

namespace Go.Proofs.W
open Go Go.AM Go.Proofs.G
variable (hm : Tryz.prog.follows .mixedOrders = true)
attribute [local go_sem] cvA ptA
def zPt : A := .agg [.v (.int .i64 0), .v (.int .i64 0), .v (.bool false)]
theorem far_in {p : Int} (h : 0 < p) : PtIn p farP := ⟨⟨by show (0 : Int) ≤ 0; omega, by show (0 : Int) < p; omega⟩, ⟨by show (0 : Int) ≤ 0; omega, by show (0 : Int) < p; omega⟩⟩
def lmAnn : Ann := [(0, [1, 3, 5, 6, 7])]
def lmSt (k : GCv) (p : Nat × GPt × GPt) : St := ⟨[.any, .v (.int .i64 p.1), .any, .ptr [cvA k] 0 0, .any, .ref (.l 0) 0 0 1, .ref (.l 1) 0 0 1, .ref (.l 2) 0 0 1, .any, .any, .any, .any, .any, .any, .any, .any, .any, .any, .any, .any, .any, .any, .any, .any, .any], [(0, ⟨true, 3, true, [ptA p.2.2]⟩), (1, ⟨true, 3, true, [zPt]⟩), (2, ⟨true, 3, true, [ptA p.2.1]⟩)], []⟩
set_option maxRecDepth 10000 in
set_option maxHeartbeats 4000000 in
include hm in
theorem l3Mul (k : GCv) (n : Nat) (P : GPt) (hk : CvIn k) (hP : PtIn k.p P) (hn : n ≤ 9223372036854775807) : Holds Tryz.prog 28 [cvA k, .v (.int .i64 n), ptA P] [] (ptA (mulL (addZ k.p k.a) n farP P)) [] := by
 refine holds_ref (ann := lmAnn) tabOk hm (byL [] [1000003]) Tryz.func28 (by kernel_rfl) rfl ?_
 have hp : 0 < k.p := by have := hk.1; omega
 simp +decide only [Tryz.f28, go_sem]
 refine Runs.while (α := Nat × GPt × GPt) (lmSt k) (fun p => p.1) (fun p => p.1 ≤ n ∧ PtIn k.p p.2.1 ∧ PtIn k.p p.2.2 ∧ mulL (addZ k.p k.a) p.1 p.2.1 p.2.2 = mulL (addZ k.p k.a) n farP P) (n, farP, P) ⟨Nat.le_refl _, far_in hp, hP, rfl⟩ ?_ ?_
 ·simp [go_sem, lmAnn, lmSt, farP, zPt]
 ·rintro ⟨i, out, a⟩ ⟨hi, ho, ha, hg⟩ ih
  simp only at hi ho ha hg
  have e3 := tmod_nat i 2
  have e4 := tdiv_nat i 2
  have w3 : IntKind.i64.wrap ((i / 2 : Nat) : Int) = ((i / 2 : Nat) : Int) := wrap_i64 (by omega) (by omega)
  have c1 := l3Add hm k out a hk ho ha
  have c2 := l3Add hm k a a hk ha ha
  have o1 := addZ_in (A := k.a) hp ho ha
  have o2 := addZ_in (A := k.a) hp ha ha
  simp +decide only [lmSt, zPt, go_sem]
  refine Runs.split (fun h => ?_) (fun h => ?_)
  ·have hs : i ≠ 0 := by simp at h; omega
   rw [mulL_step _ _ _ _ hs] at hg
   simp +decide (disch := first | omega | (simp only [ll]; omega)) only [if_pos, go_sem]
   rw [show (2 : Int) = ((2 : Nat) : Int) from rfl, e3]
   refine Runs.split (fun h => ?_) (fun h => ?_)
   ·have hbit : i % 2 = 1 := by simp at h; omega
    rw [if_pos hbit] at hg
    simp +decide (disch := first | omega | (simp only [ll]; omega)) only [if_pos, go_sem]
    refine Runs.call c1 ?_
    simp +decide (disch := first | omega | (simp only [ll]; omega)) only [if_pos, go_sem]
    refine Runs.call c2 ?_
    simp +decide (disch := first | omega | (simp only [ll]; omega)) only [e4, w3, if_pos, go_sem]
    refine ih (i / 2, addZ k.p k.a out a, addZ k.p k.a a a) _ (by simp only; omega) ⟨by simp only; omega, o1, o2, hg⟩ ?_
    simp [go_sem, lmAnn, lmSt, zPt]
   ·have hbit : ¬ i % 2 = 1 := by simp at h; omega
    rw [if_neg hbit] at hg
    simp +decide (disch := first | omega | (simp only [ll]; omega)) only [if_pos, go_sem]
    refine Runs.call c2 ?_
    simp +decide (disch := first | omega | (simp only [ll]; omega)) only [e4, w3, if_pos, go_sem]
    refine ih (i / 2, out, addZ k.p k.a a a) _ (by simp only; omega) ⟨by simp only; omega, ho, o2, hg⟩ ?_
    simp [go_sem, lmAnn, lmSt, zPt]
  ·have hs : i = 0 := by simp at h; omega
   subst hs
   rw [mulL_zero] at hg
   simp +decide only [go_sem]
   exact Runs.ret_eq (by rw [← hg])
def tiAnn : Ann := [(0, [1, 3, 5, 6, 7, 8])]
def tiSt (k : GCv) (n : Nat) (P : GPt) (p : Int × GPt) : St := ⟨[.any, .v (.int .i64 n), .any, .ptr [cvA k] 0 0, .any, .ptr [ptA P] 0 0, .ref (.l 0) 0 0 1, .ref (.l 1) 0 0 1, .v (.int .i64 p.1), .any, .any, .any, .any, .any, .any, .any, .any, .any, .any, .any, .any, .any, .any, .any, .any, .any, .any, .any, .any, .any, .any, .any], [(0, ⟨true, 3, true, [zPt]⟩), (1, ⟨true, 3, true, [ptA p.2]⟩)], []⟩
set_option maxRecDepth 10000 in
set_option maxHeartbeats 4000000 in
include hm in
theorem timesC (k : GCv) (n : Nat) (P : GPt) (hk : CvIn k) (hP : PtIn k.p P) (hn : n ≤ 9223372036854775807) : Holds Tryz.prog 35 [cvA k, .v (.int .i64 n), ptA P] [] (ptA (mulM (sumZ k.p k.a) farP n P)) [] := by
 refine holds_ref (ann := tiAnn) tabOk hm (byL [] [1000003, 1000005]) Tryz.func35 (by kernel_rfl) rfl ?_
 have hp : 0 < k.p := by have := hk.1; omega
 have hl : blen n ≤ 63 := blen_le (by omega)
 simp +decide (disch := first | omega | (simp only [ll]; omega)) only [Tryz.f35, if_pos, go_sem]
 refine Runs.call (bitsLen hm n (by omega)) ?_
 simp +decide (disch := first | omega | (simp only [ll]; omega)) only [if_pos, go_sem]
 refine Runs.while (α := Int × GPt) (tiSt k n P) (fun p => (p.1 + 1).toNat) (fun p => -1 ≤ p.1 ∧ p.1 ≤ 62 ∧ PtIn k.p p.2 ∧ (p.1 = -1 ∨ 2 ^ p.1.toNat ≤ n) ∧ p.2 = mulM (sumZ k.p k.a) farP (n / 2 ^ (p.1 + 1).toNat) P) ((blen n : Int) - 1, farP) ⟨by simp only; omega, by simp only; omega, far_in hp, ?_, ?_⟩ ?_ ?_
 ·simp only
  by_cases hz : n = 0
  ·left; subst hz; rw [blen_zero]; rfl
  ·right
   have := blen_ge hz
   have hp := blen_pos hz
   have e : ((blen n : Int) - 1).toNat = blen n - 1 := by omega
   rw [e]
   exact this
 ·simp only
  have e : ((blen n : Int) - 1 + 1).toNat = blen n := by omega
  rw [e, Nat.div_eq_of_lt blen_lt, mulM_zero]
 ·simp [go_sem, tiAnn, tiSt, farP, zPt]
 ·rintro ⟨i, out⟩ ⟨hi1, hi2, ho, hi3, hg⟩ ih
  simp only at hi1 hi2 ho hi3 hg
  simp +decide only [tiSt, zPt, go_sem]
  refine Runs.split (fun h => ?_) (fun h => ?_)
  ·have hs : 0 ≤ i := by simpa using h
   obtain ⟨j, rfl⟩ := nat_of hs
   have hk' : 2 ^ j ≤ n := by
    rcases hi3 with h | h
    ·omega
    ·simpa using h
   have ek : ((j : Int) + 1).toNat = j + 1 := by omega
   rw [ek] at hg
   have hst := mulM_step (sumZ k.p k.a) farP n j P hk'
   rw [← hg] at hst
   have c1 := sumC hm k out out hk ho ho
   have o1 := sumZ_in (A := k.a) hp ho ho
   have c2 := sumC hm k (sumZ k.p k.a out out) P hk o1 hP
   have o2 := sumZ_in (A := k.a) hp o1 hP
   have hq := Nat.div_le_self n (2 ^ j)
   have ea := andI_one (n / 2 ^ j) (by omega)
   have em : min j 64 = j := by omega
   have es := shr_nat n j
   have hpow : j = 0 ∨ 2 ^ (j - 1) ≤ n := by
    rcases Nat.eq_zero_or_pos j with h | h
    ·exact .inl h
    ·right; exact Nat.le_trans (Nat.pow_le_pow_right (by omega) (by omega)) hk'
   simp +decide (disch := first | omega | (simp only [ll]; omega)) only [if_pos, go_sem]
   refine Runs.call c1 ?_
   simp +decide (disch := first | omega | (simp only [ll]; omega)) only [em, es, ea, if_pos, go_sem]
   refine Runs.split (fun h => ?_) (fun h => ?_)
   ·have hbit : n / 2 ^ j % 2 = 1 := by simp only [decide_eq_true_eq] at h; omega
    rw [if_pos hbit] at hst
    simp +decide (disch := first | omega | (simp only [ll]; omega)) only [if_pos, go_sem]
    refine Runs.call c2 ?_
    simp +decide (disch := first | omega | (simp only [ll]; omega)) only [if_pos, go_sem]
    refine ih ((j : Int) - 1, sumZ k.p k.a (sumZ k.p k.a out out) P) _ (by simp only; omega) ⟨by simp only; omega, by simp only; omega, o2, ?_, ?_⟩ ?_
    ·simp only
     rcases hpow with h | h
     ·left; omega
     ·right
      have e : ((j : Int) - 1).toNat = j - 1 := by omega
      rw [e]; exact h
    ·simp only
     have e : ((j : Int) - 1 + 1).toNat = j := by omega
     rw [e, hst]
    ·simp [go_sem, tiAnn, tiSt, zPt]
   ·have hbit : ¬ n / 2 ^ j % 2 = 1 := by simp only [decide_eq_false_iff_not] at h; omega
    rw [if_neg hbit] at hst
    simp +decide (disch := first | omega | (simp only [ll]; omega)) only [if_pos, go_sem]
    refine ih ((j : Int) - 1, sumZ k.p k.a out out) _ (by simp only; omega) ⟨by simp only; omega, by simp only; omega, o1, ?_, ?_⟩ ?_
    ·simp only
     rcases hpow with h | h
     ·left; omega
     ·right
      have e : ((j : Int) - 1).toNat = j - 1 := by omega
      rw [e]; exact h
    ·simp only
     have e : ((j : Int) - 1 + 1).toNat = j := by omega
     rw [e, hst]
    ·simp [go_sem, tiAnn, tiSt, zPt]
  ·have hs : i = -1 := by simp at h; omega
   subst hs
   simp at hg
   simp +decide only [go_sem]
   exact Runs.ret_eq (by rw [← hg])
end Go.Proofs.W

namespace Go.Proofs.W
open Go Go.AM Go.Proofs.G
set_option maxRecDepth 10000
variable (hm : Tryz.prog.follows .mixedOrders = true)
attribute [local go_sem] cvA ptA
noncomputable def curveB (k : GCv) : Bool :=
 inB k.p 5 1048576 && decide (k.p.tmod 4 = 3) && primeZ k.p && inB k.a 0 (k.p - 1) && inB k.b 0 (k.p - 1) && inB k.n 5 2097152 && primeZ k.n &&
 !decide ((4 * (k.a * k.a % k.p) * k.a + 27 * (k.b * k.b % k.p)) % k.p = 0) && onZ k.p k.a k.b ⟨k.gx, k.gy, false⟩ && (mulL (addZ k.p k.a) k.n.toNat farP ⟨k.gx, k.gy, false⟩).far
theorem onZ_in {p A B : Int} {P : GPt} (h0 : 0 < p) (h : onZ p A B P = true) : PtIn p P := by
 unfold onZ at h
 split at h
 ·simp only [Bool.and_eq_true, decide_eq_true_eq] at h
  exact ⟨by omega, by omega⟩
 ·simp only [Bool.and_eq_true, decide_eq_true_eq] at h
  exact ⟨by omega, by omega⟩
theorem inB_t {n a b : Int} (h : inB n a b = true) : a ≤ n ∧ n ≤ b := by simpa [inB] using h
theorem curve_in {k : GCv} (h : curveB k = true) : CvIn k := by
 simp only [curveB, Bool.and_eq_true] at h
 obtain ⟨⟨⟨⟨⟨⟨⟨⟨⟨c1, _⟩, _⟩, c4⟩, c5⟩, _⟩, _⟩, _⟩, _⟩, _⟩ := h
 have := inB_t c1
 have := inB_t c4
 have := inB_t c5
 exact ⟨by omega, by omega, by omega, by omega⟩
def scS : Sched := .take 0 (.take 2 (.take 5 (.take 9 (.take 12 (.take 14 (.take 17 (.take 22 (.ld 1 (.ld 3 (.take 4 (.ld 6 (.take 7 (.take 8 (.ld 10 (.take 11 (.ld 13 (.ld 15 (.take 16 (.ld 18 (.take 19 (.take 20 (.take 21 (.ld 23 (.take 24 (.take 25 .fin)))))))))))))))))))))))))
attribute [local go_sem] scS
set_option maxHeartbeats 4000000 in
include hm in
theorem sCurveOk (k : GCv) : Holds Tryz.prog 66 [cvA k] [] (.v (.bool (curveB k))) [] := by
 refine holds_ref (ann := []) tabOk hm (byL [] [1000001]) Tryz.func66 (by kernel_rfl) rfl ?_
 have hk : k = ⟨k.p, k.a, k.b, k.n, k.gx, k.gy⟩ := rfl
 obtain ⟨p, a, b, n, gx, gy⟩ := k
 simp +decide only [Tryz.f66, go_sem]
 refine Runs.call (l1In hm p 5 1048576) ?_
 simp +decide (maxSteps := 9^7) only [go_sem]
 refine Runs.split (fun c1 => ?_) (fun c1 => ?_)
 ·have e : curveB ⟨p, a, b, n, gx, gy⟩ = false := by simp only [Bool.not_eq_true'] at c1; simp [curveB, c1]
  simp +decide (maxSteps := 9^7) only [e, go_sem]
  exact Runs.ret_v
 simp only [Bool.not_eq_false'] at c1
 obtain ⟨p1, p2⟩ := inB_t c1
 simp +decide (maxSteps := 9^7) (disch := first | omega | (simp only [ll]; omega)) only [if_pos, go_sem]
 refine Runs.split (fun c2 => ?_) (fun c2 => ?_)
 ·have e : curveB ⟨p, a, b, n, gx, gy⟩ = false := by
   have : ¬ p.tmod 4 = 3 := by simpa using c2
   simp [curveB, this]
  simp +decide (maxSteps := 9^7) only [e, go_sem]
  exact Runs.ret_v
 have c2' : p.tmod 4 = 3 := by simpa using c2
 simp +decide (maxSteps := 9^7) (disch := first | omega | (simp only [ll]; omega)) only [if_pos, go_sem]
 refine Runs.call (sPrime hm p) ?_
 simp +decide (maxSteps := 9^7) only [go_sem]
 refine Runs.split (fun c3 => ?_) (fun c3 => ?_)
 ·have e : curveB ⟨p, a, b, n, gx, gy⟩ = false := by simp only [Bool.not_eq_true'] at c3; simp [curveB, c3]
  simp +decide (maxSteps := 9^7) only [e, go_sem]
  exact Runs.ret_v
 simp only [Bool.not_eq_false'] at c3
 simp +decide (maxSteps := 9^7) (disch := first | omega | (simp only [ll]; omega)) only [if_pos, go_sem]
 refine Runs.call (l1In hm a 0 (p - 1)) ?_
 simp +decide (maxSteps := 9^7) only [go_sem]
 refine Runs.split (fun c4 => ?_) (fun c4 => ?_)
 ·have e : curveB ⟨p, a, b, n, gx, gy⟩ = false := by simp only [Bool.not_eq_true'] at c4; simp [curveB, c4]
  simp +decide (maxSteps := 9^7) only [e, go_sem]
  exact Runs.ret_v
 simp only [Bool.not_eq_false'] at c4
 simp +decide (maxSteps := 9^7) (disch := first | omega | (simp only [ll]; omega)) only [if_pos, go_sem]
 refine Runs.call (l1In hm b 0 (p - 1)) ?_
 simp +decide (maxSteps := 9^7) only [go_sem]
 refine Runs.split (fun c5 => ?_) (fun c5 => ?_)
 ·have e : curveB ⟨p, a, b, n, gx, gy⟩ = false := by simp only [Bool.not_eq_true'] at c5; simp [curveB, c5]
  simp +decide (maxSteps := 9^7) only [e, go_sem]
  exact Runs.ret_v
 simp only [Bool.not_eq_false'] at c5
 simp +decide (maxSteps := 9^7) (disch := first | omega | (simp only [ll]; omega)) only [if_pos, go_sem]
 refine Runs.call (l1In hm n 5 2097152) ?_
 simp +decide (maxSteps := 9^7) only [go_sem]
 refine Runs.split (fun c6 => ?_) (fun c6 => ?_)
 ·have e : curveB ⟨p, a, b, n, gx, gy⟩ = false := by simp only [Bool.not_eq_true'] at c6; simp [curveB, c6]
  simp +decide (maxSteps := 9^7) only [e, go_sem]
  exact Runs.ret_v
 simp only [Bool.not_eq_false'] at c6
 simp +decide (maxSteps := 9^7) (disch := first | omega | (simp only [ll]; omega)) only [if_pos, go_sem]
 refine Runs.call (sPrime hm n) ?_
 simp +decide (maxSteps := 9^7) only [go_sem]
 refine Runs.split (fun c7 => ?_) (fun c7 => ?_)
 ·have e : curveB ⟨p, a, b, n, gx, gy⟩ = false := by simp only [Bool.not_eq_true'] at c7; simp [curveB, c7]
  simp +decide (maxSteps := 9^7) only [e, go_sem]
  exact Runs.ret_v
 simp only [Bool.not_eq_false'] at c7
 have ia := inB_t c4
 have ib := inB_t c5
 have iN := inB_t c6
 have b1 := mul_in (a := a) (b := a) (m := p) (by omega) (by omega) (by omega)
 have b2 := mul_in (a := b) (b := b) (m := p) (by omega) (by omega) (by omega)
 have m1 := mod_in' (show 0 < p by omega) (a * a)
 have m2 := mod_in' (show 0 < p by omega) (b * b)
 have b3 := mul_in (a := a * a % p) (b := a) (m := p) (by omega) (by omega) (by omega)
 have e3 : 4 * (a * a % p) * a = 4 * (a * a % p * a) := Int.mul_assoc 4 _ _
 have hn : ((n.toNat : Nat) : Int) = n := Int.toNat_of_nonneg (by omega)
 simp +decide (maxSteps := 9^7) (disch := first | omega | (simp only [ll]; omega)) only [if_pos, go_sem]
 refine Runs.draw (st1 := ?s1) (draws_ref (ann := []) tabOk (byL [] [1000001]) scS (by kernel_rfl) ?p1) ?q1
 case p1 =>
  intro K r X hK
  simp +decide (maxSteps := 9^7) (disch := first | omega | (simp only [ll]; omega)) only [Int.tmod_eq_emod_of_nonneg, if_pos, go_sem]
  exact hK
 case q1 =>
  simp +decide (maxSteps := 9^7) only [go_sem]
  refine Runs.split (fun c8 => ?_) (fun c8 => ?_)
  ·have e : curveB ⟨p, a, b, n, gx, gy⟩ = false := by simp only [decide_eq_true_eq] at c8; simp [curveB, c8]
   simp +decide (maxSteps := 9^7) only [e, go_sem]
   exact Runs.ret_v
  simp only [decide_eq_false_iff_not] at c8
  have kin : CvIn ⟨p, a, b, n, gx, gy⟩ := ⟨by simp only; omega, by simp only; omega, by simp only; omega, by simp only; omega⟩
  simp +decide (maxSteps := 9^7) only [go_sem]
  refine Runs.call (l3On hm ⟨p, a, b, n, gx, gy⟩ ⟨gx, gy, false⟩ kin) ?_
  simp +decide (maxSteps := 9^7) only [go_sem]
  refine Runs.split (fun c9 => ?_) (fun c9 => ?_)
  ·have gin := onZ_in (by omega) c9
   have hM := l3Mul hm ⟨p, a, b, n, gx, gy⟩ n.toNat ⟨gx, gy, false⟩ kin gin (by omega)
   rw [hn] at hM
   simp +decide (maxSteps := 9^7) only [go_sem]
   refine Runs.call hM ?_
   simp +decide (maxSteps := 9^7) only [go_sem]
   exact Runs.ret_eq (by simp [curveB, c1, c2', c3, c4, c5, c6, c7, c8, c9])
  ·have e : curveB ⟨p, a, b, n, gx, gy⟩ = false := by simp [curveB, c9]
   simp +decide (maxSteps := 9^7) only [e, go_sem]
   exact Runs.ret_v
def icS : Sched := .take 0 (.take 3 (.take 6 (.take 9 (.take 12 (.take 15 (.take 19 (.ld 1 (.take 2 (.ld 4 (.take 5 (.ld 7 (.take 8 (.ld 10 (.take 11 (.ld 13 (.take 14 (.ld 16 (.take 17 (.take 18 (.ld 20 (.take 21 (.take 22 (.take 23 (.ld 24 (.ld 25 (.alt 26 (.alt 27 (.take 28 (.take 29 .fin)) .nil) .nil))))))))))))))))))))))))))
def icT : Sched := .take 1 (.ld 0 (.ld 2 (.ld 3 (.alt 4 (.alt 5 (.take 6 (.take 7 .fin)) .nil) .nil))))
attribute [local go_sem] icS icT
set_option maxHeartbeats 4000000 in
include hm in
theorem iCurveOk (k : GCv) : Holds Tryz.prog 58 [cvA k] [] (.v (.bool (curveB k))) [] := by
 refine holds_ref (ann := []) tabOk hm (byL [] [1000001]) Tryz.func58 (by kernel_rfl) rfl ?_
 obtain ⟨p, a, b, n, gx, gy⟩ := k
 simp +decide only [Tryz.f58, go_sem]
 refine Runs.call (within hm p 5 1048576) ?_
 simp +decide (maxSteps := 9^7) only [go_sem]
 refine Runs.split (fun c1 => ?_) (fun c1 => ?_)
 ·have e : curveB ⟨p, a, b, n, gx, gy⟩ = false := by simp only [Bool.not_eq_true'] at c1; simp [curveB, c1]
  simp +decide (maxSteps := 9^7) only [e, go_sem]
  exact Runs.ret_v
 simp only [Bool.not_eq_false'] at c1
 obtain ⟨p1, p2⟩ := inB_t c1
 simp +decide (maxSteps := 9^7) (disch := first | omega | (simp only [ll]; omega)) only [if_pos, go_sem]
 refine Runs.split (fun c2 => ?_) (fun c2 => ?_)
 ·have e : curveB ⟨p, a, b, n, gx, gy⟩ = false := by
   have : ¬ p.tmod 4 = 3 := by simpa using c2
   simp [curveB, this]
  simp +decide (maxSteps := 9^7) only [e, go_sem]
  exact Runs.ret_v
 have c2' : p.tmod 4 = 3 := by simpa using c2
 simp +decide (maxSteps := 9^7) (disch := first | omega | (simp only [ll]; omega)) only [if_pos, go_sem]
 refine Runs.call (within hm a 0 (p - 1)) ?_
 simp +decide (maxSteps := 9^7) only [go_sem]
 refine Runs.split (fun c4 => ?_) (fun c4 => ?_)
 ·have e : curveB ⟨p, a, b, n, gx, gy⟩ = false := by simp only [Bool.not_eq_true'] at c4; simp [curveB, c4]
  simp +decide (maxSteps := 9^7) only [e, go_sem]
  exact Runs.ret_v
 simp only [Bool.not_eq_false'] at c4
 simp +decide (maxSteps := 9^7) (disch := first | omega | (simp only [ll]; omega)) only [if_pos, go_sem]
 refine Runs.call (within hm b 0 (p - 1)) ?_
 simp +decide (maxSteps := 9^7) only [go_sem]
 refine Runs.split (fun c5 => ?_) (fun c5 => ?_)
 ·have e : curveB ⟨p, a, b, n, gx, gy⟩ = false := by simp only [Bool.not_eq_true'] at c5; simp [curveB, c5]
  simp +decide (maxSteps := 9^7) only [e, go_sem]
  exact Runs.ret_v
 simp only [Bool.not_eq_false'] at c5
 simp +decide (maxSteps := 9^7) (disch := first | omega | (simp only [ll]; omega)) only [if_pos, go_sem]
 refine Runs.call (within hm n 5 2097152) ?_
 simp +decide (maxSteps := 9^7) only [go_sem]
 refine Runs.split (fun c6 => ?_) (fun c6 => ?_)
 ·have e : curveB ⟨p, a, b, n, gx, gy⟩ = false := by simp only [Bool.not_eq_true'] at c6; simp [curveB, c6]
  simp +decide (maxSteps := 9^7) only [e, go_sem]
  exact Runs.ret_v
 simp only [Bool.not_eq_false'] at c6
 simp +decide (maxSteps := 9^7) (disch := first | omega | (simp only [ll]; omega)) only [if_pos, go_sem]
 refine Runs.call (iPrime hm p) ?_
 simp +decide (maxSteps := 9^7) only [go_sem]
 refine Runs.split (fun c3 => ?_) (fun c3 => ?_)
 ·have e : curveB ⟨p, a, b, n, gx, gy⟩ = false := by simp only [Bool.not_eq_true'] at c3; simp [curveB, c3]
  simp +decide (maxSteps := 9^7) only [e, go_sem]
  exact Runs.ret_v
 simp only [Bool.not_eq_false'] at c3
 simp +decide (maxSteps := 9^7) (disch := first | omega | (simp only [ll]; omega)) only [if_pos, go_sem]
 refine Runs.call (iPrime hm n) ?_
 simp +decide (maxSteps := 9^7) only [go_sem]
 refine Runs.split (fun c7 => ?_) (fun c7 => ?_)
 ·have e : curveB ⟨p, a, b, n, gx, gy⟩ = false := by simp only [Bool.not_eq_true'] at c7; simp [curveB, c7]
  simp +decide (maxSteps := 9^7) only [e, go_sem]
  exact Runs.ret_v
 simp only [Bool.not_eq_false'] at c7
 have ia := inB_t c4
 have ib := inB_t c5
 have iN := inB_t c6
 have b1 := mul_in (a := a) (b := a) (m := p) (by omega) (by omega) (by omega)
 have b2 := mul_in (a := b) (b := b) (m := p) (by omega) (by omega) (by omega)
 have m1 := mod_in' (show 0 < p by omega) (4 * a * a)
 have e1 : 4 * a * a = 4 * (a * a) := Int.mul_assoc 4 a a
 have e2 : 27 * b * b = 27 * (b * b) := Int.mul_assoc 27 b b
 have b3 := mul_in (a := 4 * a * a % p) (b := a) (m := p) (by omega) (by omega) (by omega)
 have hn : ((n.toNat : Nat) : Int) = n := Int.toNat_of_nonneg (by omega)
 have kin : CvIn ⟨p, a, b, n, gx, gy⟩ := ⟨by simp only; omega, by simp only; omega, by simp only; omega, by simp only; omega⟩
 have hB := baseP hm ⟨p, a, b, n, gx, gy⟩
 have hP := isPoint hm ⟨p, a, b, n, gx, gy⟩ ⟨gx, gy, false⟩ kin
 have dm := disc_mod a b p
 simp +decide (maxSteps := 9^7) (disch := first | omega | (simp only [ll]; omega)) only [if_pos, go_sem]
 by_cases c8 : (4 * (a * a % p) * a + 27 * (b * b % p)) % p = 0
 ·have e : curveB ⟨p, a, b, n, gx, gy⟩ = false := by simp [curveB, c8]
  rw [c8] at dm
  refine Runs.draw (st1 := ?s1) (draws_ref (ann := []) tabOk (byL [] [1000001]) icS (by kernel_rfl) ?p1) ?q1
  case p1 =>
   intro K r X hK
   simp +decide (maxSteps := 9^7) (disch := first | omega | (simp only [ll]; omega)) only [Int.tmod_eq_emod_of_nonneg, dm, if_pos, go_sem]
   exact hK
  case q1 =>
   simp +decide (maxSteps := 9^7) only [e, go_sem]
   exact Runs.ret_v
 ·have dm' : ¬ (4 * a * a % p * a + 27 * b * b) % p = 0 := by rw [dm]; exact c8
  cases c9 : onZ p a b ⟨gx, gy, false⟩ with
  | false =>
   have e : curveB ⟨p, a, b, n, gx, gy⟩ = false := by simp [curveB, c9]
   simp only [c9] at hP
   refine Runs.draw (st1 := ?s2) (draws_ref (ann := []) tabOk (byL [] [1000001]) icS (by kernel_rfl) ?p2) ?q2
   case p2 =>
    intro K r X hK
    simp +decide (maxSteps := 9^7) (disch := first | omega | (simp only [ll]; omega)) only [Int.tmod_eq_emod_of_nonneg, dm', if_pos, go_sem]
    refine Runs.call hB ?_
    simp +decide (maxSteps := 9^7) (disch := first | omega | (simp only [ll]; omega)) only [if_pos, go_sem]
    refine Runs.call hP ?_
    simp +decide (maxSteps := 9^7) (disch := first | omega | (simp only [ll]; omega)) only [if_pos, go_sem]
    exact hK
   case q2 =>
    simp +decide (maxSteps := 9^7) only [e, go_sem]
    exact Runs.ret_v
  | true =>
   simp only [c9] at hP
   have gin := onZ_in (by omega) c9
   have hM := timesC hm ⟨p, a, b, n, gx, gy⟩ n.toNat ⟨gx, gy, false⟩ kin gin (by omega)
   simp only at hM
   rw [hn, times_same (by omega) (primeZ_of c3).2.2 c8 c9 n.toNat] at hM
   refine Runs.draw (st1 := ?s3) (draws_ref (ann := []) tabOk (byL [] [1000001]) icS (by kernel_rfl) ?p3) ?q3
   case p3 =>
    intro K r X hK
    simp +decide (maxSteps := 9^7) (disch := first | omega | (simp only [ll]; omega)) only [Int.tmod_eq_emod_of_nonneg, dm', if_pos, go_sem]
    refine Runs.call hB ?_
    simp +decide (maxSteps := 9^7) (disch := first | omega | (simp only [ll]; omega)) only [if_pos, go_sem]
    refine Runs.call hP ?_
    simp +decide (maxSteps := 9^7) (disch := first | omega | (simp only [ll]; omega)) only [if_pos, go_sem]
    exact hK
   case q3 =>
    simp +decide (maxSteps := 9^7) only [go_sem]
    refine Runs.draw (st1 := ?s4) (draws_ref (ann := []) tabOk (byL [] [1000001]) icT (by kernel_rfl) ?p4) ?q4
    case p4 =>
     intro K r X hK
     simp +decide (maxSteps := 9^7) (disch := first | omega | (simp only [ll]; omega)) only [if_pos, go_sem]
     repeat' apply And.intro
     all_goals
      refine Runs.call hB ?_
      simp +decide (maxSteps := 9^7) (disch := first | omega | (simp only [ll]; omega)) only [if_pos, go_sem]
      refine Runs.call hM ?_
      simp +decide (maxSteps := 9^7) (disch := first | omega | (simp only [ll]; omega)) only [if_pos, go_sem]
      exact hK
    case q4 =>
     simp +decide (maxSteps := 9^7) only [go_sem]
     exact Runs.ret_eq (by simp [curveB, c1, c2', c3, c4, c5, c6, c7, c8, c9])
include hm in
theorem sPointOk (k : GCv) (P : GPt) : Holds Tryz.prog 27 [cvA k, ptA P] [] (.v (.bool (curveB k && onZ k.p k.a k.b P))) [] := by
 refine holds_ref (ann := []) tabOk hm (byL [] [1000002, 1000003]) Tryz.func27 (by kernel_rfl) rfl ?_
 simp +decide only [Tryz.f27, go_sem]
 refine Runs.call (sCurveOk hm k) ?_
 simp +decide only [go_sem]
 refine Runs.split (fun c => ?_) (fun c => ?_)
 ·simp +decide only [go_sem]
  refine Runs.call (l3On hm k P (curve_in c)) ?_
  simp +decide only [c, go_sem]
  exact Runs.ret_eq (by simp)
 ·simp +decide only [c, go_sem]
  exact Runs.ret_eq (by simp)
include hm in
theorem iPointOk (k : GCv) (P : GPt) : Holds Tryz.prog 34 [cvA k, ptA P] [] (.v (.bool (curveB k && onZ k.p k.a k.b P))) [] := by
 refine holds_ref (ann := []) tabOk hm (byL [] [1000002, 1000003]) Tryz.func34 (by kernel_rfl) rfl ?_
 simp +decide only [Tryz.f34, go_sem]
 refine Runs.call (iCurveOk hm k) ?_
 simp +decide only [go_sem]
 refine Runs.split (fun c => ?_) (fun c => ?_)
 ·simp +decide only [go_sem]
  refine Runs.call (isPoint hm k P (curve_in c)) ?_
  simp +decide only [c, go_sem]
  exact Runs.ret_eq (by simp)
 ·simp +decide only [c, go_sem]
  exact Runs.ret_eq (by simp)
end Go.Proofs.W

namespace Go.Proofs.W
open Go Go.AM Go.Proofs.G
set_option maxRecDepth 10000
variable (hm : Tryz.prog.follows .mixedOrders = true)
structure GEd where
 p : Int
 d : Int
 l : Int
 bx : Int
 by' : Int
def edA (k : GEd) : A := .agg [.v (.int .i64 k.p), .v (.int .i64 k.d), .v (.int .i64 k.l), .v (.int .i64 k.bx), .v (.int .i64 k.by')]
def prA (P : GPr) : A := .agg [.v (.int .i64 P.1), .v (.int .i64 P.2)]
def EdIn (k : GEd) : Prop := 13 ≤ k.p ∧ k.p ≤ 1048576 ∧ (0 ≤ k.d ∧ k.d < k.p)
def PrIn (p : Int) (P : GPr) : Prop := (0 ≤ P.1 ∧ P.1 < p) ∧ (0 ≤ P.2 ∧ P.2 < p)
attribute [local go_sem] edA prA
theorem eadd_in {p D : Int} (h : 0 < p) (a b : GPr) : PrIn p (eaddZ p D a b) := ⟨mod_in' h _, mod_in' h _⟩
theorem esum_in {p D : Int} (h : 0 < p) (a b : GPr) : PrIn p (esumZ p D a b) := ⟨mod_in' h _, mod_in' h _⟩
def eoA : Sched := .take 0 (.take 2 (.take 5 (.take 8 (.take 10 (.take 13 (.ld 1 (.ld 3 (.take 4 (.ld 6 (.take 7 (.take 16 (.ld 9 (.ld 11 (.take 12 (.ld 14 (.take 15 (.take 17 .fin)))))))))))))))))
def eoB : Sched := .take 0 (.take 1 (.take 2 (.take 3 (.take 6 (.take 8 (.take 10 (.take 13 (.take 16 (.ld 4 (.ld 7 (.take 9 (.ld 11 (.take 12 (.take 14 (.take 15 (.ld 17 (.take 18 (.alt 5 (.take 19 (.take 20 .fin)) .nil))))))))))))))))))
attribute [local go_sem] eoA eoB
set_option maxHeartbeats 4000000 in
include hm in
theorem l4On (k : GEd) (P : GPr) (hk : EdIn k) : Holds Tryz.prog 70 [edA k, prA P] [] (.v (.bool (eonZ k.p k.d P))) [] := by
 refine holds_ref (ann := []) tabOk hm (byL [] [1000002, 1000003]) Tryz.func70 (by kernel_rfl) rfl ?_
 obtain ⟨p, d, l, bx, by'⟩ := k
 obtain ⟨x, y⟩ := P
 obtain ⟨h1, h2, h3⟩ := hk
 simp only at h1 h2 h3
 simp +decide (disch := first | omega | (simp only [ll]; omega)) only [Tryz.f70, if_pos, go_sem]
 refine Runs.call (l1In hm x 0 (p - 1)) ?_
 simp +decide only [go_sem]
 refine Runs.split (fun h => ?_) (fun h => ?_)
 ·have e : eonZ p d (x, y) = false := by simp [inB] at h; simp [eonZ]; omega
  simp +decide only [e, go_sem]
  exact Runs.ret_v
 ·have hx : 0 ≤ x ∧ x < p := by simp [inB] at h; omega
  simp +decide (disch := first | omega | (simp only [ll]; omega)) only [if_pos, go_sem]
  refine Runs.call (l1In hm y 0 (p - 1)) ?_
  simp +decide only [go_sem]
  refine Runs.split (fun h => ?_) (fun h => ?_)
  ·have e : eonZ p d (x, y) = false := by simp [inB] at h; simp [eonZ]; omega
   simp +decide only [e, go_sem]
   exact Runs.ret_v
  ·have hy : 0 ≤ y ∧ y < p := by simp [inB] at h; omega
   have b1 := mul_in hy hy (by omega)
   have b2 := mul_in hx hx (by omega)
   have m1 := mod_in' (show 0 < p by omega) (x * x)
   have m2 := mod_in' (show 0 < p by omega) (y * y)
   have b3 := mul_in h3 m1 (by omega)
   have m3 := mod_in' (show 0 < p by omega) (d * (x * x % p))
   have b4 := mul_in m3 m2 (by omega)
   simp +decide only [go_sem]
   refine Runs.draw (st1 := ?s1) (draws_ref (ann := []) tabOk (byL [] [1000002, 1000003]) eoA (by kernel_rfl) ?p1) ?q1
   case p1 =>
    intro K r X hK
    simp +decide (maxSteps := 9^7) (disch := first | omega | (simp only [ll]; omega)) only [Int.tmod_eq_emod_of_nonneg, if_pos, go_sem]
    exact hK
   case q1 =>
    simp +decide only [go_sem]
    refine Runs.draw (st1 := ?s2) (draws_ref (ann := []) tabOk (byL [] [1000002, 1000003]) eoB (by kernel_rfl) ?p2) ?q2
    case p2 =>
     intro K r X hK
     simp +decide (maxSteps := 9^7) (disch := first | omega | (simp only [ll]; omega)) only [Int.tmod_eq_emod_of_nonneg, if_pos, go_sem]
     refine Runs.call (l2Left hm (y * y % p - x * x % p) p (by omega) (by omega)) ?_
     simp +decide (maxSteps := 9^7) (disch := first | omega | (simp only [ll]; omega)) only [Int.tmod_eq_emod_of_nonneg, if_pos, go_sem]
     exact hK
    case q2 =>
     simp +decide only [go_sem]
     exact Runs.ret_eq (by simp [eonZ, hx, hy]; omega)
def eoC : Sched := .take 0 (.take 2 (.take 5 (.take 8 (.take 10 (.take 13 (.ld 1 (.ld 3 (.take 4 (.ld 6 (.take 7 (.take 16 (.ld 9 (.ld 11 (.take 12 (.ld 14 (.take 15 (.take 17 .fin)))))))))))))))))
def eoD : Sched := .take 0 (.take 1 (.take 2 (.take 3 (.take 6 (.take 8 (.take 10 (.take 13 (.take 16 (.ld 4 (.ld 7 (.take 9 (.ld 11 (.take 12 (.take 14 (.take 15 (.ld 17 (.take 18 (.alt 5 (.take 19 (.take 20 .fin)) .nil))))))))))))))))))
attribute [local go_sem] eoC eoD
set_option maxHeartbeats 4000000 in
include hm in
theorem isPair (k : GEd) (P : GPr) (hk : EdIn k) : Holds Tryz.prog 76 [edA k, prA P] [] (.v (.bool (eonZ k.p k.d P))) [] := by
 refine holds_ref (ann := []) tabOk hm (byL [] [1000002, 1000003]) Tryz.func76 (by kernel_rfl) rfl ?_
 obtain ⟨p, d, l, bx, by'⟩ := k
 obtain ⟨x, y⟩ := P
 obtain ⟨h1, h2, h3⟩ := hk
 simp only at h1 h2 h3
 simp +decide (disch := first | omega | (simp only [ll]; omega)) only [Tryz.f76, if_pos, go_sem]
 refine Runs.call (within hm x 0 (p - 1)) ?_
 simp +decide only [go_sem]
 refine Runs.split (fun h => ?_) (fun h => ?_)
 ·have e : eonZ p d (x, y) = false := by simp [inB] at h; simp [eonZ]; omega
  simp +decide only [e, go_sem]
  exact Runs.ret_v
 ·have hx : 0 ≤ x ∧ x < p := by simp [inB] at h; omega
  simp +decide (disch := first | omega | (simp only [ll]; omega)) only [if_pos, go_sem]
  refine Runs.call (within hm y 0 (p - 1)) ?_
  simp +decide only [go_sem]
  refine Runs.split (fun h => ?_) (fun h => ?_)
  ·have e : eonZ p d (x, y) = false := by simp [inB] at h; simp [eonZ]; omega
   simp +decide only [e, go_sem]
   exact Runs.ret_v
  ·have hy : 0 ≤ y ∧ y < p := by simp [inB] at h; omega
   have b1 := mul_in hy hy (by omega)
   have b2 := mul_in hx hx (by omega)
   have m1 := mod_in' (show 0 < p by omega) (x * x)
   have m2 := mod_in' (show 0 < p by omega) (y * y)
   have b3 := mul_in h3 m1 (by omega)
   have m3 := mod_in' (show 0 < p by omega) (d * (x * x % p))
   have b4 := mul_in m3 m2 (by omega)
   simp +decide only [go_sem]
   refine Runs.draw (st1 := ?s1) (draws_ref (ann := []) tabOk (byL [] [1000002, 1000003]) eoC (by kernel_rfl) ?p1) ?q1
   case p1 =>
    intro K r X hK
    simp +decide (maxSteps := 9^7) (disch := first | omega | (simp only [ll]; omega)) only [Int.tmod_eq_emod_of_nonneg, if_pos, go_sem]
    exact hK
   case q1 =>
    simp +decide only [go_sem]
    refine Runs.draw (st1 := ?s2) (draws_ref (ann := []) tabOk (byL [] [1000002, 1000003]) eoD (by kernel_rfl) ?p2) ?q2
    case p2 =>
     intro K r X hK
     simp +decide (maxSteps := 9^7) (disch := first | omega | (simp only [ll]; omega)) only [Int.tmod_eq_emod_of_nonneg, if_pos, go_sem]
     refine Runs.call (rest hm (y * y % p - x * x % p) p (by omega) (by omega)) ?_
     simp +decide (maxSteps := 9^7) (disch := first | omega | (simp only [ll]; omega)) only [Int.tmod_eq_emod_of_nonneg, if_pos, go_sem]
     exact hK
    case q2 =>
     simp +decide only [go_sem]
     exact Runs.ret_eq (by simp [eonZ, hx, hy]; omega)
include hm in
theorem baseE (k : GEd) : Holds Tryz.prog 101 [edA k] [] (prA (k.bx, k.by')) [] := by
 refine holds_ref (ann := []) tabOk hm (byL [] [1000001]) Tryz.func101 (by kernel_rfl) rfl ?_
 simp +decide only [Tryz.f101, go_sem]
 exact Runs.ret_refl
def eaA : Sched := .take 0 (.take 2 (.take 5 (.take 8 (.take 10 (.take 13 (.ld 1 (.ld 3 (.take 4 (.ld 6 (.take 7 (.take 16 (.ld 9 (.ld 11 (.take 12 (.ld 14 (.take 15 (.take 17 .fin)))))))))))))))))
def eaB : Sched := .take 0 (.take 2 (.take 4 (.take 7 (.take 9 (.ld 1 (.take 3 (.ld 5 (.take 6 (.take 8 (.ld 10 (.take 11 (.take 12 .fin))))))))))))
def eaC : Sched := .take 0 (.take 1 (.take 2 (.take 3 (.take 7 (.take 10 (.take 11 (.take 12 (.take 13 (.take 16 (.take 17 (.take 18 (.take 22 (.ld 4 (.ld 8 (.ld 14 (.take 15 (.ld 19 (.ld 23 (.alt 5 (.take 6 (.take 9 (.alt 20 (.take 21 (.take 24 (.alt 25 (.alt 26 .fin .nil) .nil))) .nil))) .nil)))))))))))))))))))
attribute [local go_sem] eaA eaB eaC
set_option maxHeartbeats 4000000 in
include hm in
theorem l4Add (k : GEd) (P Q : GPr) (hk : EdIn k) (hP : PrIn k.p P) (hQ : PrIn k.p Q) : Holds Tryz.prog 114 [edA k, prA P, prA Q] [] (prA (eaddZ k.p k.d P Q)) [] := by
 refine holds_ref (ann := []) tabOk hm (byL [] [1000003, 1000004, 1000005]) Tryz.func114 (by kernel_rfl) rfl ?_
 obtain ⟨p, d, l, bx, by'⟩ := k
 obtain ⟨x, y⟩ := P
 obtain ⟨u, v⟩ := Q
 obtain ⟨h1, h2, h3⟩ := hk
 obtain ⟨hx, hy⟩ := hP
 obtain ⟨hu, hv⟩ := hQ
 simp only at h1 h2 h3 hx hy hu hv
 have hp : 0 < p := by omega
 have b1 := mul_in hx hu (by omega)
 have b2 := mul_in hy hv (by omega)
 have b3 := mul_in hx hv (by omega)
 have b4 := mul_in hy hu (by omega)
 have m1 := mod_in' hp (x * u)
 have m2 := mod_in' hp (y * v)
 have b5 := mul_in h3 m1 (by omega)
 have m3 := mod_in' hp (d * (x * u % p))
 have b6 := mul_in m3 m2 (by omega)
 have m4 := mod_in' hp (d * (x * u % p) % p * (y * v % p))
 have m5 := mod_in' hp (x * v + y * u)
 have m6 := mod_in' hp (y * v % p + x * u % p)
 have i1 := invI_range (a := 1 + d * (x * u % p) % p * (y * v % p) % p) (m := p) hp
 have i2 := invI_range (a := 1 - d * (x * u % p) % p * (y * v % p) % p) (m := p) hp
 have b7 := mul_in m5 i1 (by omega)
 have b8 := mul_in m6 i2 (by omega)
 simp +decide only [Tryz.f114, go_sem]
 refine Runs.draw (st1 := ?s1) (draws_ref (ann := []) tabOk (byL [] [1000003, 1000004, 1000005]) eaA (by kernel_rfl) ?p1) ?q1
 case p1 =>
  intro K r X hK
  simp +decide (maxSteps := 9^7) (disch := first | omega | (simp only [ll]; omega)) only [Int.tmod_eq_emod_of_nonneg, if_pos, go_sem]
  exact hK
 case q1 =>
  simp +decide only [go_sem]
  refine Runs.draw (st1 := ?s2) (draws_ref (ann := []) tabOk (byL [] [1000003, 1000004, 1000005]) eaB (by kernel_rfl) ?p2) ?q2
  case p2 =>
   intro K r X hK
   simp +decide (maxSteps := 9^7) (disch := first | omega | (simp only [ll]; omega)) only [Int.tmod_eq_emod_of_nonneg, if_pos, go_sem]
   exact hK
  case q2 =>
   simp +decide (maxSteps := 9^7) (disch := first | omega | (simp only [ll]; omega)) only [Int.tmod_eq_emod_of_nonneg, if_pos, go_sem]
   refine Runs.draw (st1 := ?s3) (draws_ref (ann := []) tabOk (byL [] [1000003, 1000004, 1000005]) eaC (by kernel_rfl) ?p3) ?q3
   case p3 =>
    intro K r X hK
    simp +decide (maxSteps := 9^7) (disch := first | omega | (simp only [ll]; omega)) only [Int.tmod_eq_emod_of_nonneg, if_pos, go_sem]
    refine Runs.call (l2Inv hm (1 + d * (x * u % p) % p * (y * v % p) % p) p (by omega) (by omega)) ?_
    simp +decide (maxSteps := 9^7) (disch := first | omega | (simp only [ll]; omega)) only [Int.tmod_eq_emod_of_nonneg, if_pos, go_sem]
    refine Runs.call (l2Inv hm (1 - d * (x * u % p) % p * (y * v % p) % p) p (by omega) (by omega)) ?_
    simp +decide (maxSteps := 9^7) (disch := first | omega | (simp only [ll]; omega)) only [Int.tmod_eq_emod_of_nonneg, if_pos, go_sem]
    exact hK
   case q3 =>
    simp +decide only [go_sem]
    exact Runs.ret_eq (by simp [prA, eaddZ])
def esA : Sched := .take 0 (.take 2 (.take 5 (.take 8 (.take 11 (.take 14 (.take 17 (.take 20 (.take 23 (.ld 1 (.ld 3 (.take 4 (.ld 6 (.take 7 (.ld 9 (.take 10 (.ld 12 (.take 13 (.ld 15 (.take 16 (.ld 18 (.take 19 (.ld 21 (.take 22 (.ld 24 (.take 25 (.take 26 .fin))))))))))))))))))))))))))
def esB : Sched := .take 0 (.take 2 (.take 5 (.take 7 (.take 11 (.take 14 (.take 16 (.take 19 (.take 21 (.take 24 (.take 26 (.take 30 (.take 33 (.take 35 (.ld 1 (.ld 3 (.take 4 (.ld 6 (.ld 8 (.take 9 (.take 10 (.ld 12 (.take 13 (.take 15 (.ld 17 (.take 18 (.ld 20 (.ld 22 (.take 23 (.ld 25 (.ld 27 (.take 28 (.take 29 (.ld 31 (.take 32 (.take 34 (.ld 36 (.take 37 (.alt 38 (.alt 39 .fin .nil) .nil))))))))))))))))))))))))))))))))))))))
attribute [local go_sem] esA esB
set_option maxHeartbeats 4000000 in
include hm in
theorem sumE (k : GEd) (P Q : GPr) (hk : EdIn k) (hP : PrIn k.p P) (hQ : PrIn k.p Q) : Holds Tryz.prog 115 [edA k, prA P, prA Q] [] (prA (esumZ k.p k.d P Q)) [] := by
 refine holds_ref (ann := []) tabOk hm (byL [] [1000003, 1000004, 1000005]) Tryz.func115 (by kernel_rfl) rfl ?_
 obtain ⟨p, d, l, bx, by'⟩ := k
 obtain ⟨x, y⟩ := P
 obtain ⟨u, v⟩ := Q
 obtain ⟨h1, h2, h3⟩ := hk
 obtain ⟨hx, hy⟩ := hP
 obtain ⟨hu, hv⟩ := hQ
 simp only at h1 h2 h3 hx hy hu hv
 have hp : 0 < p := by omega
 have b1 := mul_in hx hu (by omega)
 have b2 := mul_in hy hv (by omega)
 have b3 := mul_in hx hv (by omega)
 have b4 := mul_in hy hu (by omega)
 have c1 := mul_in h3 hx (by omega)
 have n1 := mod_in' hp (d * x)
 have c2 := mul_in n1 hu (by omega)
 have n2 := mod_in' hp (d * x % p * u)
 have c3 := mul_in n2 hy (by omega)
 have n3 := mod_in' hp (d * x % p * u % p * y)
 have c4 := mul_in n3 hv (by omega)
 have n4 := mod_in' hp (d * x % p * u % p * y % p * v)
 have m5 := mod_in' hp (x * v + y * u)
 have m6 := mod_in' hp (y * v + x * u)
 have i1 := invI_range (a := 1 + d * x % p * u % p * y % p * v % p) (m := p) hp
 have i2 := invI_range (a := 1 - d * x % p * u % p * y % p * v % p) (m := p) hp
 have b7 := mul_in m5 i1 (by omega)
 have b8 := mul_in m6 i2 (by omega)
 simp +decide only [Tryz.f115, go_sem]
 refine Runs.draw (st1 := ?s1) (draws_ref (ann := []) tabOk (byL [] [1000003, 1000004, 1000005]) esA (by kernel_rfl) ?p1) ?q1
 case p1 =>
  intro K r X hK
  simp +decide (maxSteps := 9^7) (disch := first | omega | (simp only [ll]; omega)) only [Int.tmod_eq_emod_of_nonneg, if_pos, go_sem]
  exact hK
 case q1 =>
  simp +decide (disch := first | omega | (simp only [ll]; omega)) only [if_pos, go_sem]
  refine Runs.call (invInt hm (1 + d * x % p * u % p * y % p * v % p) p (by omega) (by omega)) ?_
  simp +decide (maxSteps := 9^7) (disch := first | omega | (simp only [ll]; omega)) only [if_pos, go_sem]
  refine Runs.call (invInt hm (1 - d * x % p * u % p * y % p * v % p) p (by omega) (by omega)) ?_
  simp +decide (maxSteps := 9^7) (disch := first | omega | (simp only [ll]; omega)) only [if_pos, go_sem]
  refine Runs.draw (st1 := ?s2) (draws_ref (ann := []) tabOk (byL [] [1000003, 1000004, 1000005]) esB (by kernel_rfl) ?p2) ?q2
  case p2 =>
   intro K r X hK
   simp +decide (maxSteps := 9^7) (disch := first | omega | (simp only [ll]; omega)) only [Int.tmod_eq_emod_of_nonneg, if_pos, go_sem]
   exact hK
  case q2 =>
   simp +decide only [go_sem]
   exact Runs.ret_eq (by simp [prA, esumZ])
end Go.Proofs.W

namespace Go.Proofs.W
open Go Go.AM Go.Proofs.G
variable (hm : Tryz.prog.follows .mixedOrders = true)
attribute [local go_sem] edA prA
def zPr : A := .agg [.v (.int .i64 0), .v (.int .i64 0)]
theorem one_in {p : Int} (h : 13 ≤ p) : PrIn p (0, 1) := ⟨⟨by show (0 : Int) ≤ 0; omega, by show (0 : Int) < p; omega⟩, ⟨by show (0 : Int) ≤ 1; omega, by show (1 : Int) < p; omega⟩⟩
def leAnn : Ann := [(0, [1, 3, 5, 6, 7])]
def leSt (k : GEd) (p : Nat × GPr × GPr) : St := ⟨[.any, .v (.int .i64 p.1), .any, .ptr [edA k] 0 0, .any, .ref (.l 0) 0 0 1, .ref (.l 1) 0 0 1, .ref (.l 2) 0 0 1, .any, .any, .any, .any, .any, .any, .any, .any, .any, .any, .any, .any, .any, .any, .any, .any, .any], [(0, ⟨true, 2, true, [prA p.2.2]⟩), (1, ⟨true, 2, true, [zPr]⟩), (2, ⟨true, 2, true, [prA p.2.1]⟩)], []⟩
set_option maxRecDepth 10000 in
set_option maxHeartbeats 4000000 in
include hm in
theorem l4Mul (k : GEd) (n : Nat) (P : GPr) (hk : EdIn k) (hP : PrIn k.p P) (hn : n ≤ 9223372036854775807) : Holds Tryz.prog 88 [edA k, .v (.int .i64 n), prA P] [] (prA (mulL (eaddZ k.p k.d) n (0, 1) P)) [] := by
 refine holds_ref (ann := leAnn) tabOk hm (byL [] [1000003]) Tryz.func88 (by kernel_rfl) rfl ?_
 have hp : 0 < k.p := by have := hk.1; omega
 simp +decide only [Tryz.f88, go_sem]
 refine Runs.while (α := Nat × GPr × GPr) (leSt k) (fun p => p.1) (fun p => p.1 ≤ n ∧ PrIn k.p p.2.1 ∧ PrIn k.p p.2.2 ∧ mulL (eaddZ k.p k.d) p.1 p.2.1 p.2.2 = mulL (eaddZ k.p k.d) n (0, 1) P) (n, (0, 1), P) ⟨Nat.le_refl _, one_in hk.1, hP, rfl⟩ ?_ ?_
 ·simp [go_sem, leAnn, leSt, zPr]
 ·rintro ⟨i, out, a⟩ ⟨hi, ho, ha, hg⟩ ih
  simp only at hi ho ha hg
  have e3 := tmod_nat i 2
  have e4 := tdiv_nat i 2
  have w3 : IntKind.i64.wrap ((i / 2 : Nat) : Int) = ((i / 2 : Nat) : Int) := wrap_i64 (by omega) (by omega)
  have c1 := l4Add hm k out a hk ho ha
  have c2 := l4Add hm k a a hk ha ha
  have o1 := eadd_in (D := k.d) hp out a
  have o2 := eadd_in (D := k.d) hp a a
  simp +decide only [leSt, zPr, go_sem]
  refine Runs.split (fun h => ?_) (fun h => ?_)
  ·have hs : i ≠ 0 := by simp at h; omega
   rw [mulL_step _ _ _ _ hs] at hg
   simp +decide (disch := first | omega | (simp only [ll]; omega)) only [if_pos, go_sem]
   rw [show (2 : Int) = ((2 : Nat) : Int) from rfl, e3]
   refine Runs.split (fun h => ?_) (fun h => ?_)
   ·have hbit : i % 2 = 1 := by simp at h; omega
    rw [if_pos hbit] at hg
    simp +decide (disch := first | omega | (simp only [ll]; omega)) only [if_pos, go_sem]
    refine Runs.call c1 ?_
    simp +decide (disch := first | omega | (simp only [ll]; omega)) only [if_pos, go_sem]
    refine Runs.call c2 ?_
    simp +decide (disch := first | omega | (simp only [ll]; omega)) only [e4, w3, if_pos, go_sem]
    refine ih (i / 2, eaddZ k.p k.d out a, eaddZ k.p k.d a a) _ (by simp only; omega) ⟨by simp only; omega, o1, o2, hg⟩ ?_
    simp [go_sem, leAnn, leSt, zPr]
   ·have hbit : ¬ i % 2 = 1 := by simp at h; omega
    rw [if_neg hbit] at hg
    simp +decide (disch := first | omega | (simp only [ll]; omega)) only [if_pos, go_sem]
    refine Runs.call c2 ?_
    simp +decide (disch := first | omega | (simp only [ll]; omega)) only [e4, w3, if_pos, go_sem]
    refine ih (i / 2, out, eaddZ k.p k.d a a) _ (by simp only; omega) ⟨by simp only; omega, ho, o2, hg⟩ ?_
    simp [go_sem, leAnn, leSt, zPr]
  ·have hs : i = 0 := by simp at h; omega
   subst hs
   rw [mulL_zero] at hg
   simp +decide only [go_sem]
   exact Runs.ret_eq (by rw [← hg])
def teAnn : Ann := [(0, [1, 3, 5, 6, 7, 8])]
def teSt (k : GEd) (n : Nat) (P : GPr) (p : Int × GPr) : St := ⟨[.any, .v (.int .i64 n), .any, .ptr [edA k] 0 0, .any, .ptr [prA P] 0 0, .ref (.l 0) 0 0 1, .ref (.l 1) 0 0 1, .v (.int .i64 p.1), .any, .any, .any, .any, .any, .any, .any, .any, .any, .any, .any, .any, .any, .any, .any, .any, .any, .any, .any, .any, .any, .any, .any], [(0, ⟨true, 2, true, [zPr]⟩), (1, ⟨true, 2, true, [prA p.2]⟩)], []⟩
set_option maxRecDepth 10000 in
set_option maxHeartbeats 4000000 in
include hm in
theorem timesE (k : GEd) (n : Nat) (P : GPr) (hk : EdIn k) (hP : PrIn k.p P) (hn : n ≤ 9223372036854775807) : Holds Tryz.prog 102 [edA k, .v (.int .i64 n), prA P] [] (prA (mulM (esumZ k.p k.d) (0, 1) n P)) [] := by
 refine holds_ref (ann := teAnn) tabOk hm (byL [] [1000003, 1000005]) Tryz.func102 (by kernel_rfl) rfl ?_
 have hp : 0 < k.p := by have := hk.1; omega
 have hl : blen n ≤ 63 := blen_le (by omega)
 simp +decide (disch := first | omega | (simp only [ll]; omega)) only [Tryz.f102, if_pos, go_sem]
 refine Runs.call (bitsLen hm n (by omega)) ?_
 simp +decide (disch := first | omega | (simp only [ll]; omega)) only [if_pos, go_sem]
 refine Runs.while (α := Int × GPr) (teSt k n P) (fun p => (p.1 + 1).toNat) (fun p => -1 ≤ p.1 ∧ p.1 ≤ 62 ∧ PrIn k.p p.2 ∧ (p.1 = -1 ∨ 2 ^ p.1.toNat ≤ n) ∧ p.2 = mulM (esumZ k.p k.d) (0, 1) (n / 2 ^ (p.1 + 1).toNat) P) ((blen n : Int) - 1, (0, 1)) ⟨by simp only; omega, by simp only; omega, one_in hk.1, ?_, ?_⟩ ?_ ?_
 ·simp only
  by_cases hz : n = 0
  ·left; subst hz; rw [blen_zero]; rfl
  ·right
   have := blen_ge hz
   have hp := blen_pos hz
   have e : ((blen n : Int) - 1).toNat = blen n - 1 := by omega
   rw [e]
   exact this
 ·simp only
  have e : ((blen n : Int) - 1 + 1).toNat = blen n := by omega
  rw [e, Nat.div_eq_of_lt blen_lt, mulM_zero]
 ·simp [go_sem, teAnn, teSt, zPr]
 ·rintro ⟨i, out⟩ ⟨hi1, hi2, ho, hi3, hg⟩ ih
  simp only at hi1 hi2 ho hi3 hg
  simp +decide only [teSt, zPr, go_sem]
  refine Runs.split (fun h => ?_) (fun h => ?_)
  ·have hs : 0 ≤ i := by simpa using h
   obtain ⟨j, rfl⟩ := nat_of hs
   have hk' : 2 ^ j ≤ n := by
    rcases hi3 with h | h
    ·omega
    ·simpa using h
   have ek : ((j : Int) + 1).toNat = j + 1 := by omega
   rw [ek] at hg
   have hst := mulM_step (esumZ k.p k.d) (0, 1) n j P hk'
   rw [← hg] at hst
   have c1 := sumE hm k out out hk ho ho
   have o1 := esum_in (D := k.d) hp out out
   have c2 := sumE hm k (esumZ k.p k.d out out) P hk o1 hP
   have o2 := esum_in (D := k.d) hp (esumZ k.p k.d out out) P
   have hq := Nat.div_le_self n (2 ^ j)
   have ea := andI_one (n / 2 ^ j) (by omega)
   have em : min j 64 = j := by omega
   have es := shr_nat n j
   have hpow : j = 0 ∨ 2 ^ (j - 1) ≤ n := by
    rcases Nat.eq_zero_or_pos j with h | h
    ·exact .inl h
    ·right; exact Nat.le_trans (Nat.pow_le_pow_right (by omega) (by omega)) hk'
   simp +decide (disch := first | omega | (simp only [ll]; omega)) only [if_pos, go_sem]
   refine Runs.call c1 ?_
   simp +decide (disch := first | omega | (simp only [ll]; omega)) only [em, es, ea, if_pos, go_sem]
   refine Runs.split (fun h => ?_) (fun h => ?_)
   ·have hbit : n / 2 ^ j % 2 = 1 := by simp only [decide_eq_true_eq] at h; omega
    rw [if_pos hbit] at hst
    simp +decide (disch := first | omega | (simp only [ll]; omega)) only [if_pos, go_sem]
    refine Runs.call c2 ?_
    simp +decide (disch := first | omega | (simp only [ll]; omega)) only [if_pos, go_sem]
    refine ih ((j : Int) - 1, esumZ k.p k.d (esumZ k.p k.d out out) P) _ (by simp only; omega) ⟨by simp only; omega, by simp only; omega, o2, ?_, ?_⟩ ?_
    ·simp only
     rcases hpow with h | h
     ·left; omega
     ·right
      have e : ((j : Int) - 1).toNat = j - 1 := by omega
      rw [e]; exact h
    ·simp only
     have e : ((j : Int) - 1 + 1).toNat = j := by omega
     rw [e, hst]
    ·simp [go_sem, teAnn, teSt, zPr]
   ·have hbit : ¬ n / 2 ^ j % 2 = 1 := by simp only [decide_eq_false_iff_not] at h; omega
    rw [if_neg hbit] at hst
    simp +decide (disch := first | omega | (simp only [ll]; omega)) only [if_pos, go_sem]
    refine ih ((j : Int) - 1, esumZ k.p k.d out out) _ (by simp only; omega) ⟨by simp only; omega, by simp only; omega, o1, ?_, ?_⟩ ?_
    ·simp only
     rcases hpow with h | h
     ·left; omega
     ·right
      have e : ((j : Int) - 1).toNat = j - 1 := by omega
      rw [e]; exact h
    ·simp only
     have e : ((j : Int) - 1 + 1).toNat = j := by omega
     rw [e, hst]
    ·simp [go_sem, teAnn, teSt, zPr]
  ·have hs : i = -1 := by simp at h; omega
   subst hs
   simp at hg
   simp +decide only [go_sem]
   exact Runs.ret_eq (by rw [← hg])
end Go.Proofs.W

namespace Go.Proofs.W
open Go Go.AM Go.Proofs.G
set_option maxRecDepth 10000
variable (hm : Tryz.prog.follows .mixedOrders = true)
attribute [local go_sem] edA prA
noncomputable def edB (k : GEd) : Bool :=
 inB k.p 13 1048576 && decide (k.p.tmod 8 = 5) && primeZ k.p && inB k.d 2 (k.p - 1) && decide (powZ k.d ((k.p.toNat - 1) / 2) k.p = k.p - 1) && inB k.l 5 2097152 && primeZ k.l &&
 eonZ k.p k.d (k.bx, k.by') && !(decide (k.bx = 0) && decide (k.by' = 1)) && (decide ((mulL (eaddZ k.p k.d) k.l.toNat (0, 1) (k.bx, k.by')).1 = 0) && decide ((mulL (eaddZ k.p k.d) k.l.toNat (0, 1) (k.bx, k.by')).2 = 1))
theorem eonZ_in {p D : Int} {P : GPr} (h : eonZ p D P = true) : PrIn p P := by
 unfold eonZ at h
 simp only [Bool.and_eq_true, decide_eq_true_eq] at h
 exact ⟨by omega, by omega⟩
theorem ed_in {k : GEd} (h : edB k = true) : EdIn k := by
 simp only [edB, Bool.and_eq_true] at h
 obtain ⟨⟨⟨⟨⟨⟨⟨⟨⟨c1, _⟩, _⟩, c4⟩, _⟩, _⟩, _⟩, _⟩, _⟩, _⟩ := h
 have := inB_t c1
 have := inB_t c4
 exact ⟨by omega, by omega, by omega⟩
theorem half_p {p : Int} (h : 1 ≤ p) : (p - 1).tdiv 2 = ((p.toNat - 1) / 2 : Nat) := by
 rw [Int.tdiv_eq_ediv_of_nonneg (by omega)]
 omega
def seS : Sched := .take 0 (.ld 1 (.alt 2 (.take 3 (.take 4 (.take 5 (.ld 6 (.take 7 (.take 8 (.take 9 (.take 10 (.take 11 (.ld 12 (.alt 13 (.take 14 (.take 15 (.take 16 (.take 17 (.take 19 (.ld 18 (.ld 20 (.take 21 (.alt 22 (.take 23 (.take 24 (.take 25 (.take 26 (.take 28 (.take 32 (.take 35 (.ld 27 (.ld 29 (.take 30 (.take 31 (.ld 33 (.ld 36 (.take 37 (.alt 34 (.take 38 (.take 39 (.take 40 (.take 41 (.ld 42 (.alt 43 (.take 44 (.take 45 (.take 46 (.take 47 (.ld 48 (.alt 49 (.take 50 (.take 51 .fin)) .nil)))))) .nil)))))) .nil))))))))))))))) .nil))))))))) .nil))))))))))) .nil))
attribute [local go_sem] seS
set_option maxHeartbeats 8000000 in
include hm in
theorem sEdOk (k : GEd) : Holds Tryz.prog 69 [edA k] [] (.v (.bool (edB k))) [] := by
 refine holds_ref (ann := []) tabOk hm (byL [] [1000001]) Tryz.func69 (by kernel_rfl) rfl ?_
 obtain ⟨p, d, l, bx, by'⟩ := k
 have hc1 := l1In hm p 13 1048576
 have hc3 := sPrime hm p
 have hc4 := l1In hm d 2 (p - 1)
 have hc6 := l1In hm l 5 2097152
 have hc7 := sPrime hm l
 simp +decide only [Tryz.f69, go_sem]
 cases e1 : inB p 13 1048576 with
 | false =>
  rw [e1] at hc1
  have e : edB ⟨p, d, l, bx, by'⟩ = false := by simp [edB, e1]
  refine Runs.draw (st1 := ?s1) (draws_ref (ann := []) tabOk (byL [] [1000001]) seS (by kernel_rfl) ?p1) ?q1
  case p1 =>
   intro K r X hK
   simp +decide (maxSteps := 9^7) (disch := first | omega | (simp only [ll]; omega)) only [if_pos, go_sem]
   refine Runs.call hc1 ?_
   simp +decide (maxSteps := 9^7) (disch := first | omega | (simp only [ll]; omega)) only [if_pos, go_sem]
   exact hK
  case q1 =>
   simp +decide (maxSteps := 9^7) only [e, go_sem]
   exact Runs.ret_v
 | true =>
  rw [e1] at hc1
  have ip := inB_t e1
  have hh := half_p (p := p) (by omega)
  by_cases e2 : p.tmod 8 = 5
  case neg =>
   have e : edB ⟨p, d, l, bx, by'⟩ = false := by simp [edB, e2]
   refine Runs.draw (st1 := ?s2) (draws_ref (ann := []) tabOk (byL [] [1000001]) seS (by kernel_rfl) ?p2) ?q2
   case p2 =>
    intro K r X hK
    simp +decide (maxSteps := 9^7) (disch := first | omega | (simp only [ll]; omega)) only [if_pos, go_sem]
    refine Runs.call hc1 ?_
    simp +decide (maxSteps := 9^7) (disch := first | omega | (simp only [ll]; omega)) only [e2, if_pos, go_sem]
    exact hK
   case q2 =>
    simp +decide (maxSteps := 9^7) only [e, go_sem]
    exact Runs.ret_v
  case pos =>
  cases e3 : primeZ p with
  | false =>
   rw [e3] at hc3
   have e : edB ⟨p, d, l, bx, by'⟩ = false := by simp [edB, e3]
   refine Runs.draw (st1 := ?s3) (draws_ref (ann := []) tabOk (byL [] [1000001]) seS (by kernel_rfl) ?p3) ?q3
   case p3 =>
    intro K r X hK
    simp +decide (maxSteps := 9^7) (disch := first | omega | (simp only [ll]; omega)) only [if_pos, go_sem]
    refine Runs.call hc1 ?_
    simp +decide (maxSteps := 9^7) (disch := first | omega | (simp only [ll]; omega)) only [e2, if_pos, go_sem]
    refine Runs.call hc3 ?_
    simp +decide (maxSteps := 9^7) (disch := first | omega | (simp only [ll]; omega)) only [if_pos, go_sem]
    exact hK
   case q3 =>
    simp +decide (maxSteps := 9^7) only [e, go_sem]
    exact Runs.ret_v
  | true =>
   rw [e3] at hc3
   cases e4 : inB d 2 (p - 1) with
   | false =>
    rw [e4] at hc4
    have e : edB ⟨p, d, l, bx, by'⟩ = false := by simp [edB, e4]
    refine Runs.draw (st1 := ?s4) (draws_ref (ann := []) tabOk (byL [] [1000001]) seS (by kernel_rfl) ?p4) ?q4
    case p4 =>
     intro K r X hK
     simp +decide (maxSteps := 9^7) (disch := first | omega | (simp only [ll]; omega)) only [if_pos, go_sem]
     refine Runs.call hc1 ?_
     simp +decide (maxSteps := 9^7) (disch := first | omega | (simp only [ll]; omega)) only [e2, if_pos, go_sem]
     refine Runs.call hc3 ?_
     simp +decide (maxSteps := 9^7) (disch := first | omega | (simp only [ll]; omega)) only [if_pos, go_sem]
     refine Runs.call hc4 ?_
     simp +decide (maxSteps := 9^7) (disch := first | omega | (simp only [ll]; omega)) only [if_pos, go_sem]
     exact hK
    case q4 =>
     simp +decide (maxSteps := 9^7) only [e, go_sem]
     exact Runs.ret_v
   | true =>
    rw [e4] at hc4
    have id := inB_t e4
    have hc5 := l2Pow hm d p ((p.toNat - 1) / 2) (by omega) (by omega) (by omega) (by omega)
    by_cases e5 : powZ d ((p.toNat - 1) / 2) p = p - 1
    case neg =>
     have e : edB ⟨p, d, l, bx, by'⟩ = false := by simp [edB, e5]
     refine Runs.draw (st1 := ?s5) (draws_ref (ann := []) tabOk (byL [] [1000001]) seS (by kernel_rfl) ?p5) ?q5
     case p5 =>
      intro K r X hK
      simp +decide (maxSteps := 9^7) (disch := first | omega | (simp only [ll]; omega)) only [if_pos, go_sem]
      refine Runs.call hc1 ?_
      simp +decide (maxSteps := 9^7) (disch := first | omega | (simp only [ll]; omega)) only [e2, if_pos, go_sem]
      refine Runs.call hc3 ?_
      simp +decide (maxSteps := 9^7) (disch := first | omega | (simp only [ll]; omega)) only [if_pos, go_sem]
      refine Runs.call hc4 ?_
      simp +decide (maxSteps := 9^7) (disch := first | omega | (simp only [ll]; omega)) only [hh, if_pos, go_sem]
      refine Runs.call hc5 ?_
      simp +decide (maxSteps := 9^7) (disch := first | omega | (simp only [ll]; omega)) only [e5, if_pos, go_sem]
      exact hK
     case q5 =>
      simp +decide (maxSteps := 9^7) only [e, go_sem]
      exact Runs.ret_v
    case pos =>
    cases e6 : inB l 5 2097152 with
    | false =>
     rw [e6] at hc6
     have e : edB ⟨p, d, l, bx, by'⟩ = false := by simp [edB, e6]
     refine Runs.draw (st1 := ?s6) (draws_ref (ann := []) tabOk (byL [] [1000001]) seS (by kernel_rfl) ?p6) ?q6
     case p6 =>
      intro K r X hK
      simp +decide (maxSteps := 9^7) (disch := first | omega | (simp only [ll]; omega)) only [if_pos, go_sem]
      refine Runs.call hc1 ?_
      simp +decide (maxSteps := 9^7) (disch := first | omega | (simp only [ll]; omega)) only [e2, if_pos, go_sem]
      refine Runs.call hc3 ?_
      simp +decide (maxSteps := 9^7) (disch := first | omega | (simp only [ll]; omega)) only [if_pos, go_sem]
      refine Runs.call hc4 ?_
      simp +decide (maxSteps := 9^7) (disch := first | omega | (simp only [ll]; omega)) only [hh, if_pos, go_sem]
      refine Runs.call hc5 ?_
      simp +decide (maxSteps := 9^7) (disch := first | omega | (simp only [ll]; omega)) only [e5, if_pos, go_sem]
      refine Runs.call hc6 ?_
      simp +decide (maxSteps := 9^7) (disch := first | omega | (simp only [ll]; omega)) only [if_pos, go_sem]
      exact hK
     case q6 =>
      simp +decide (maxSteps := 9^7) only [e, go_sem]
      exact Runs.ret_v
    | true =>
     rw [e6] at hc6
     cases e7 : primeZ l with
     | false =>
      rw [e7] at hc7
      have e : edB ⟨p, d, l, bx, by'⟩ = false := by simp [edB, e7]
      refine Runs.draw (st1 := ?s7) (draws_ref (ann := []) tabOk (byL [] [1000001]) seS (by kernel_rfl) ?p7) ?q7
      case p7 =>
       intro K r X hK
       simp +decide (maxSteps := 9^7) (disch := first | omega | (simp only [ll]; omega)) only [if_pos, go_sem]
       refine Runs.call hc1 ?_
       simp +decide (maxSteps := 9^7) (disch := first | omega | (simp only [ll]; omega)) only [e2, if_pos, go_sem]
       refine Runs.call hc3 ?_
       simp +decide (maxSteps := 9^7) (disch := first | omega | (simp only [ll]; omega)) only [if_pos, go_sem]
       refine Runs.call hc4 ?_
       simp +decide (maxSteps := 9^7) (disch := first | omega | (simp only [ll]; omega)) only [hh, if_pos, go_sem]
       refine Runs.call hc5 ?_
       simp +decide (maxSteps := 9^7) (disch := first | omega | (simp only [ll]; omega)) only [e5, if_pos, go_sem]
       refine Runs.call hc6 ?_
       simp +decide (maxSteps := 9^7) (disch := first | omega | (simp only [ll]; omega)) only [if_pos, go_sem]
       refine Runs.call hc7 ?_
       simp +decide (maxSteps := 9^7) (disch := first | omega | (simp only [ll]; omega)) only [if_pos, go_sem]
       exact hK
      case q7 =>
       simp +decide (maxSteps := 9^7) only [e, go_sem]
       exact Runs.ret_v
     | true =>
      rw [e7] at hc7
      have il := inB_t e6
      have hl : ((l.toNat : Nat) : Int) = l := Int.toNat_of_nonneg (by omega)
      have kin : EdIn ⟨p, d, l, bx, by'⟩ := ⟨by simp only; omega, by simp only; omega, by simp only; omega⟩
      refine Runs.draw (st1 := ?s8) (draws_ref (ann := []) tabOk (byL [] [1000001]) seS (by kernel_rfl) ?p8) ?q8
      case p8 =>
       intro K r X hK
       simp +decide (maxSteps := 9^7) (disch := first | omega | (simp only [ll]; omega)) only [if_pos, go_sem]
       refine Runs.call hc1 ?_
       simp +decide (maxSteps := 9^7) (disch := first | omega | (simp only [ll]; omega)) only [e2, if_pos, go_sem]
       refine Runs.call hc3 ?_
       simp +decide (maxSteps := 9^7) (disch := first | omega | (simp only [ll]; omega)) only [if_pos, go_sem]
       refine Runs.call hc4 ?_
       simp +decide (maxSteps := 9^7) (disch := first | omega | (simp only [ll]; omega)) only [hh, if_pos, go_sem]
       refine Runs.call hc5 ?_
       simp +decide (maxSteps := 9^7) (disch := first | omega | (simp only [ll]; omega)) only [e5, if_pos, go_sem]
       refine Runs.call hc6 ?_
       simp +decide (maxSteps := 9^7) (disch := first | omega | (simp only [ll]; omega)) only [if_pos, go_sem]
       refine Runs.call hc7 ?_
       simp +decide (maxSteps := 9^7) (disch := first | omega | (simp only [ll]; omega)) only [if_pos, go_sem]
       exact hK
      case q8 =>
       simp +decide (maxSteps := 9^7) only [go_sem]
       refine Runs.call (l4On hm ⟨p, d, l, bx, by'⟩ (bx, by') kin) ?_
       simp +decide (maxSteps := 9^7) only [go_sem]
       refine Runs.split (fun c9 => ?_) (fun c9 => ?_)
       ·have gin := eonZ_in c9
        have hM := l4Mul hm ⟨p, d, l, bx, by'⟩ l.toNat (bx, by') kin gin (by omega)
        simp only at hM
        rw [hl] at hM
        simp +decide (maxSteps := 9^7) only [go_sem]
        refine Runs.split (fun c10 => ?_) (fun c10 => ?_)
        ·simp +decide (maxSteps := 9^7) only [go_sem]
         refine Runs.call hM ?_
         simp +decide (maxSteps := 9^7) only [go_sem]
         exact Runs.ret_eq (by simp at c10; simp [edB, e1, e2, e3, e4, e5, e6, e7, c9]; exact fun _ _ => c10)
        ·have e : edB ⟨p, d, l, bx, by'⟩ = false := by simp at c10; simp [edB, c10]
         simp +decide (maxSteps := 9^7) only [e, go_sem]
         exact Runs.ret_v
       ·have e : edB ⟨p, d, l, bx, by'⟩ = false := by simp [edB, c9]
        simp +decide (maxSteps := 9^7) only [e, go_sem]
        exact Runs.ret_v
def ieS : Sched := .take 0 (.take 2 (.take 6 (.ld 1 (.ld 3 (.take 4 (.take 5 (.ld 7 (.alt 8 (.take 9 (.take 10 (.ld 11 (.ld 12 (.alt 13 (.alt 14 (.take 15 (.take 16 (.take 17 (.ld 18 (.alt 19 (.alt 20 (.take 21 (.take 22 .fin)) .nil) (.alt 20 (.alt 19 (.take 21 (.take 22 .fin)) .nil) .nil)))))) .nil) .nil))))) .nil))))))))
def ieT : Sched := .take 1 (.ld 0 (.ld 2 (.ld 3 (.alt 4 (.alt 5 (.alt 6 (.take 7 (.take 8 .fin)) .nil) (.alt 6 (.alt 5 (.take 7 (.take 8 .fin)) .nil) .nil)) (.alt 6 (.alt 4 (.alt 5 (.take 7 (.take 8 .fin)) .nil) .nil) .nil)))))
attribute [local go_sem] ieS ieT
set_option maxHeartbeats 8000000 in
include hm in
theorem iEdOk (k : GEd) : Holds Tryz.prog 61 [edA k] [] (.v (.bool (edB k))) [] := by
 refine holds_ref (ann := []) tabOk hm (byL [] [1000001]) Tryz.func61 (by kernel_rfl) rfl ?_
 obtain ⟨p, d, l, bx, by'⟩ := k
 simp +decide only [Tryz.f61, go_sem]
 refine Runs.call (within hm p 13 1048576) ?_
 simp +decide (maxSteps := 9^7) only [go_sem]
 refine Runs.split (fun e1 => ?_) (fun e1 => ?_)
 ·have e : edB ⟨p, d, l, bx, by'⟩ = false := by simp only [Bool.not_eq_true'] at e1; simp [edB, e1]
  simp +decide (maxSteps := 9^7) only [e, go_sem]
  exact Runs.ret_v
 simp only [Bool.not_eq_false'] at e1
 have ip := inB_t e1
 simp +decide (maxSteps := 9^7) (disch := first | omega | (simp only [ll]; omega)) only [if_pos, go_sem]
 refine Runs.split (fun c2 => ?_) (fun c2 => ?_)
 ·have e : edB ⟨p, d, l, bx, by'⟩ = false := by
   have : ¬ p.tmod 8 = 5 := by simpa using c2
   simp [edB, this]
  simp +decide (maxSteps := 9^7) only [e, go_sem]
  exact Runs.ret_v
 have e2 : p.tmod 8 = 5 := by simpa using c2
 simp +decide (maxSteps := 9^7) (disch := first | omega | (simp only [ll]; omega)) only [if_pos, go_sem]
 refine Runs.call (within hm d 2 (p - 1)) ?_
 simp +decide (maxSteps := 9^7) only [go_sem]
 refine Runs.split (fun e4 => ?_) (fun e4 => ?_)
 ·have e : edB ⟨p, d, l, bx, by'⟩ = false := by simp only [Bool.not_eq_true'] at e4; simp [edB, e4]
  simp +decide (maxSteps := 9^7) only [e, go_sem]
  exact Runs.ret_v
 simp only [Bool.not_eq_false'] at e4
 have id := inB_t e4
 simp +decide (maxSteps := 9^7) (disch := first | omega | (simp only [ll]; omega)) only [if_pos, go_sem]
 refine Runs.call (within hm l 5 2097152) ?_
 simp +decide (maxSteps := 9^7) only [go_sem]
 refine Runs.split (fun e6 => ?_) (fun e6 => ?_)
 ·have e : edB ⟨p, d, l, bx, by'⟩ = false := by simp only [Bool.not_eq_true'] at e6; simp [edB, e6]
  simp +decide (maxSteps := 9^7) only [e, go_sem]
  exact Runs.ret_v
 simp only [Bool.not_eq_false'] at e6
 have il := inB_t e6
 simp +decide (maxSteps := 9^7) (disch := first | omega | (simp only [ll]; omega)) only [if_pos, go_sem]
 refine Runs.call (iPrime hm p) ?_
 simp +decide (maxSteps := 9^7) only [go_sem]
 refine Runs.split (fun e3 => ?_) (fun e3 => ?_)
 ·have e : edB ⟨p, d, l, bx, by'⟩ = false := by simp only [Bool.not_eq_true'] at e3; simp [edB, e3]
  simp +decide (maxSteps := 9^7) only [e, go_sem]
  exact Runs.ret_v
 simp only [Bool.not_eq_false'] at e3
 have ep := (primeZ_of e3).2.2
 simp +decide (maxSteps := 9^7) (disch := first | omega | (simp only [ll]; omega)) only [if_pos, go_sem]
 refine Runs.call (iPrime hm l) ?_
 simp +decide (maxSteps := 9^7) only [go_sem]
 refine Runs.split (fun e7 => ?_) (fun e7 => ?_)
 ·have e : edB ⟨p, d, l, bx, by'⟩ = false := by simp only [Bool.not_eq_true'] at e7; simp [edB, e7]
  simp +decide (maxSteps := 9^7) only [e, go_sem]
  exact Runs.ret_v
 simp only [Bool.not_eq_false'] at e7
 skip
 simp +decide (maxSteps := 9^7) (disch := first | omega | (simp only [ll]; omega)) only [if_pos, go_sem]
 have hl : ((l.toNat : Nat) : Int) = l := Int.toNat_of_nonneg (by omega)
 have kin : EdIn ⟨p, d, l, bx, by'⟩ := ⟨by simp only; omega, by simp only; omega, by simp only; omega⟩
 have hh := half_p (p := p) (by omega)
 have e8 : p % 8 = 5 := by rw [Int.tmod_eq_emod_of_nonneg (by omega)] at e2; exact e2
 have hd := d_same (D := d) (by omega) ep e8 (by omega)
 have hc5 := powInt hm d p ((p.toNat - 1) / 2) (by omega) (by omega) (by omega) (by omega)
 have hB := baseE hm ⟨p, d, l, bx, by'⟩
 have hP := isPair hm ⟨p, d, l, bx, by'⟩ (bx, by') kin
 simp only at hB hP
 by_cases e5 : powZ d ((p.toNat - 1) / 2) p = 1
 ·have e : edB ⟨p, d, l, bx, by'⟩ = false := by
   have : ¬ powZ d ((p.toNat - 1) / 2) p = p - 1 := fun h => hd.mp h e5
   simp [edB, this]
  rw [e5] at hc5
  refine Runs.draw (st1 := ?s1) (draws_ref (ann := []) tabOk (byL [] [1000001]) ieS (by kernel_rfl) ?p1) ?q1
  case p1 =>
   intro K r X hK
   simp +decide (maxSteps := 9^7) (disch := first | omega | (simp only [ll]; omega)) only [hh, if_pos, go_sem]
   refine Runs.call hc5 ?_
   simp +decide (maxSteps := 9^7) (disch := first | omega | (simp only [ll]; omega)) only [if_pos, go_sem]
   exact hK
  case q1 =>
   simp +decide (maxSteps := 9^7) only [e, go_sem]
   exact Runs.ret_v
 ·have e5' := hd.mpr e5
  cases e9 : eonZ p d (bx, by') with
  | false =>
   have e : edB ⟨p, d, l, bx, by'⟩ = false := by simp [edB, e9]
   rw [e9] at hP
   refine Runs.draw (st1 := ?s2) (draws_ref (ann := []) tabOk (byL [] [1000001]) ieS (by kernel_rfl) ?p2) ?q2
   case p2 =>
    intro K r X hK
    simp +decide (maxSteps := 9^7) (disch := first | omega | (simp only [ll]; omega)) only [hh, if_pos, go_sem]
    refine Runs.call hc5 ?_
    simp +decide (maxSteps := 9^7) (disch := first | omega | (simp only [ll]; omega)) only [e5, if_pos, go_sem]
    refine Runs.call hB ?_
    simp +decide (maxSteps := 9^7) (disch := first | omega | (simp only [ll]; omega)) only [if_pos, go_sem]
    refine Runs.call hP ?_
    simp +decide (maxSteps := 9^7) (disch := first | omega | (simp only [ll]; omega)) only [if_pos, go_sem]
    exact hK
   case q2 =>
    simp +decide (maxSteps := 9^7) only [e, go_sem]
    exact Runs.ret_v
  | true =>
   rw [e9] at hP
   by_cases e10 : bx = 0 ∧ by' = 1
   ·obtain ⟨rfl, rfl⟩ := e10
    have e : edB ⟨p, d, l, 0, 1⟩ = false := by simp [edB]
    refine Runs.draw (st1 := ?s3) (draws_ref (ann := []) tabOk (byL [] [1000001]) ieS (by kernel_rfl) ?p3) ?q3
    case p3 =>
     intro K r X hK
     simp +decide (maxSteps := 9^7) (disch := first | omega | (simp only [ll]; omega)) only [hh, if_pos, go_sem]
     refine Runs.call hc5 ?_
     simp +decide (maxSteps := 9^7) (disch := first | omega | (simp only [ll]; omega)) only [e5, if_pos, go_sem]
     refine Runs.call hB ?_
     simp +decide (maxSteps := 9^7) (disch := first | omega | (simp only [ll]; omega)) only [if_pos, go_sem]
     refine Runs.call hP ?_
     simp +decide (maxSteps := 9^7) (disch := first | omega | (simp only [ll]; omega)) only [if_pos, go_sem]
     repeat' apply And.intro
     all_goals
      refine Runs.call hB ?_
      simp +decide (maxSteps := 9^7) (disch := first | omega | (simp only [ll]; omega)) only [if_pos, go_sem]
      exact hK
    case q3 =>
     simp +decide (maxSteps := 9^7) only [e, go_sem]
     exact Runs.ret_v
   ·have e10' : (decide (bx = 0) && decide (by' = 1)) = false := by simp; omega
    have gin := eonZ_in e9
    have hM := timesE hm ⟨p, d, l, bx, by'⟩ l.toNat (bx, by') kin gin (by omega)
    simp only at hM
    rw [hl, etimes_same (by omega) ep e8 (by omega) e5' e9 l.toNat] at hM
    refine Runs.draw (st1 := ?s4) (draws_ref (ann := []) tabOk (byL [] [1000001]) ieS (by kernel_rfl) ?p4) ?q4
    case p4 =>
     intro K r X hK
     simp +decide (maxSteps := 9^7) (disch := first | omega | (simp only [ll]; omega)) only [hh, if_pos, go_sem]
     refine Runs.call hc5 ?_
     simp +decide (maxSteps := 9^7) (disch := first | omega | (simp only [ll]; omega)) only [e5, if_pos, go_sem]
     refine Runs.call hB ?_
     simp +decide (maxSteps := 9^7) (disch := first | omega | (simp only [ll]; omega)) only [if_pos, go_sem]
     refine Runs.call hP ?_
     simp +decide (maxSteps := 9^7) (disch := first | omega | (simp only [ll]; omega)) only [if_pos, go_sem]
     repeat' apply And.intro
     all_goals
      refine Runs.call hB ?_
      simp +decide (maxSteps := 9^7) (disch := first | omega | (simp only [ll]; omega)) only [e10', if_pos, go_sem]
      exact hK
    case q4 =>
     simp +decide (maxSteps := 9^7) only [e10', go_sem]
     refine Runs.draw (st1 := ?s5) (draws_ref (ann := []) tabOk (byL [] [1000001]) ieT (by kernel_rfl) ?p5) ?q5
     case p5 =>
      intro K r X hK
      simp +decide (maxSteps := 9^7) (disch := first | omega | (simp only [ll]; omega)) only [if_pos, go_sem]
      repeat' apply And.intro
      all_goals
       refine Runs.call hB ?_
       simp +decide (maxSteps := 9^7) (disch := first | omega | (simp only [ll]; omega)) only [if_pos, go_sem]
       repeat' apply And.intro
       all_goals
        refine Runs.call hM ?_
        simp +decide (maxSteps := 9^7) (disch := first | omega | (simp only [ll]; omega)) only [if_pos, go_sem]
        exact hK
     case q5 =>
      simp +decide (maxSteps := 9^7) only [go_sem]
      exact Runs.ret_eq (by simp [edB, e1, e2, e3, e4, e5', e6, e7, e9, e10'])
include hm in
theorem sPairOk (k : GEd) (P : GPr) : Holds Tryz.prog 29 [edA k, prA P] [] (.v (.bool (edB k && eonZ k.p k.d P))) [] := by
 refine holds_ref (ann := []) tabOk hm (byL [] [1000002, 1000003]) Tryz.func29 (by kernel_rfl) rfl ?_
 simp +decide only [Tryz.f29, go_sem]
 refine Runs.call (sEdOk hm k) ?_
 simp +decide only [go_sem]
 refine Runs.split (fun c => ?_) (fun c => ?_)
 ·simp +decide only [go_sem]
  refine Runs.call (l4On hm k P (ed_in c)) ?_
  simp +decide only [c, go_sem]
  exact Runs.ret_eq (by simp)
 ·simp +decide only [c, go_sem]
  exact Runs.ret_eq (by simp)
include hm in
theorem iPairOk (k : GEd) (P : GPr) : Holds Tryz.prog 36 [edA k, prA P] [] (.v (.bool (edB k && eonZ k.p k.d P))) [] := by
 refine holds_ref (ann := []) tabOk hm (byL [] [1000002, 1000003]) Tryz.func36 (by kernel_rfl) rfl ?_
 simp +decide only [Tryz.f36, go_sem]
 refine Runs.call (iEdOk hm k) ?_
 simp +decide only [go_sem]
 refine Runs.split (fun c => ?_) (fun c => ?_)
 ·simp +decide only [go_sem]
  refine Runs.call (isPair hm k P (ed_in c)) ?_
  simp +decide only [c, go_sem]
  exact Runs.ret_eq (by simp)
 ·simp +decide only [c, go_sem]
  exact Runs.ret_eq (by simp)
end Go.Proofs.W

namespace Go.Proofs.W
open Go Go.AM Go.Proofs.G
set_option maxRecDepth 10000
variable (hm : Tryz.prog.follows .mixedOrders = true)
attribute [local go_sem] edA prA cvA ptA
structure GKey where
 kind : Int
 N : List Int
 e : Int
 cv : GCv
 q : GPt
 ed : GEd
 a : GPr
def keyA (k : GKey) : A := .agg [.v (.int .i64 k.kind), .sl .sh (k.N.map intA), .v (.int .i64 k.e), .v (.int .i64 k.cv.p), .v (.int .i64 k.cv.a), .v (.int .i64 k.cv.b), .v (.int .i64 k.cv.n), .v (.int .i64 k.cv.gx), .v (.int .i64 k.cv.gy),
 .v (.int .i64 k.q.x), .v (.int .i64 k.q.y), .v (.bool k.q.far), .v (.int .i64 k.ed.p), .v (.int .i64 k.ed.d), .v (.int .i64 k.ed.l), .v (.int .i64 k.ed.bx), .v (.int .i64 k.ed.by'), .v (.int .i64 k.a.1), .v (.int .i64 k.a.2)]
attribute [local go_sem] keyA
def eqCv (k k' : GCv) : Bool := decide (k.p = k'.p) && (decide (k.a = k'.a) && (decide (k.b = k'.b) && (decide (k.n = k'.n) && (decide (k.gx = k'.gx) && decide (k.gy = k'.gy)))))
def eqPt (k k' : GPt) : Bool := decide (k.x = k'.x) && (decide (k.y = k'.y) && (k.far == k'.far))
def eqEd (k k' : GEd) : Bool := decide (k.p = k'.p) && (decide (k.d = k'.d) && (decide (k.l = k'.l) && (decide (k.bx = k'.bx) && decide (k.by' = k'.by'))))
def eqPr (k k' : GPr) : Bool := decide (k.1 = k'.1) && decide (k.2 = k'.2)
def cv0 : GCv := ⟨0, 0, 0, 0, 0, 0⟩
def pt0 : GPt := ⟨0, 0, false⟩
def ed0 : GEd := ⟨0, 0, 0, 0, 0⟩
def pr0 : GPr := (0, 0)
def noCurve (k : GKey) : Bool := eqCv k.cv cv0 && eqPt k.q pt0
def noEd (k : GKey) : Bool := eqEd k.ed ed0 && eqPr k.a pr0
def noRsa (k : GKey) : Bool := decide (k.N.length = 0) && decide (k.e = 0)
def lowD (N : List Int) : Int := N.getD 0 0
def topD (N : List Int) : Int := N.getD (N.length - 1) 0
def natB (N : List Int) : Bool := (N.all fun n => inB n 0 65535) && (decide (N.length ≤ 64) && (decide (N.length = 0) || !decide (topD N = 0)))
def bitsZ (N : List Int) : Int := if N.length = 0 then 0 else 16 * ((N.length : Int) - 1) + blen (topD N).toNat
noncomputable def keyB (k : GKey) : Bool :=
 if k.kind = 1 then noCurve k && (noEd k && (natB k.N && (inB (bitsZ k.N) 128 512 && (decide ((lowD k.N).tmod 2 = 1) && (inB k.e 3 65537 && decide (k.e.tmod 2 = 1))))))
 else if k.kind = 2 then noRsa k && (noEd k && ((curveB k.cv && onZ k.cv.p k.cv.a k.cv.b k.q) && (!k.q.far && (mulL (addZ k.cv.p k.cv.a) k.cv.n.toNat farP k.q).far)))
 else if k.kind = 3 then noRsa k && (noCurve k && (edB k.ed && eonZ k.ed.p k.ed.d k.a))
 else false
theorem getIntA {N : List Int} {i : Nat} (h : i < N.length) : (N.map intA).getD i .any = .v (.int .i64 (N.getD i 0)) := by simp [List.getD, h, intA]
theorem nat_top {N : List Int} (h : natB N = true) (h0 : N.length ≠ 0) : N.length ≤ 64 ∧ 0 < topD N ∧ topD N ≤ 65535 := by
 simp only [natB, Bool.and_eq_true, decide_eq_true_eq, Bool.or_eq_true, List.all_eq_true, Bool.not_eq_true', decide_eq_false_iff_not] at h
 obtain ⟨h1, h2, h3⟩ := h
 have hm := h1 (topD N) (by
  have : topD N = N[N.length - 1] := by simp [topD, List.getD, show N.length - 1 < N.length by omega]
  rw [this]
  exact List.getElem_mem _)
 have := inB_t hm
 omega
def snAnn : Ann := [(0, [0, 3])]
def snSt (L : List Int) (i : Nat) : St := ⟨[.sl .sh (L.map intA), .any, .any, .v (.int .i64 i), .any, .any, .any, .any, .any, .any, .any, .any, .any, .any, .any, .any, .any, .any, .any, .any, .any, .any, .any, .any, .any, .any, .any, .any, .any, .any, .any, .any, .any], [], []⟩
include hm in
theorem sNatOk (L : List Int) (h3 : L.length ≤ 9223372036854775807) : Holds Tryz.prog 23 [.sl .sh (L.map intA)] [] (.v (.bool (natB L))) [] := by
 refine holds_of (ann := snAnn) tabOk hm Tryz.func23 (by kernel_rfl) rfl ?_
 simp +decide only [Tryz.f23, go_sem]
 refine Runs.while (α := Nat) (snSt L) (fun i => L.length - i) (fun i => i ≤ L.length ∧ ((L.drop i).all fun n => inB n 0 65535) = L.all fun n => inB n 0 65535) 0 ⟨by omega, by simp⟩ ?_ ?_
 ·simp [go_sem, snAnn, snSt]
 ·rintro i ⟨hi1, hr⟩ ih
  simp +decide only [snSt, go_sem]
  refine Runs.split (fun h => ?_) (fun h => ?_)
  ·have hlt : i < L.length := by simpa using h
   rw [List.drop_eq_getElem_cons hlt, List.all_cons] at hr
   simp +decide (disch := first | omega | (simp only [ll]; omega)) only [if_pos, go_sem]
   refine Runs.call (l1In hm L[i] 0 65535) ?_
   simp +decide only [go_sem]
   refine Runs.split (fun h => ?_) (fun h => ?_)
   ·simp only [Bool.not_eq_true'] at h
    have e : natB L = false := by rw [natB, ← hr, h]; rfl
    simp +decide only [e, go_sem]
    exact Runs.ret_v
   ·simp only [Bool.not_eq_false'] at h
    rw [h, Bool.true_and] at hr
    simp +decide (disch := first | omega | (simp only [ll]; omega)) only [if_pos, go_sem]
    refine ih (i + 1) _ (by omega) ⟨by omega, hr⟩ ?_
    simp [go_sem, snAnn, snSt]
  ·have hge : i = L.length := by simp at h; omega
   subst hge
   rw [List.drop_length, List.all_nil] at hr
   simp +decide only [go_sem]
   refine Runs.split (fun h => ?_) (fun h => ?_)
   ·have hle : L.length ≤ 64 := by simp at h; omega
    simp +decide only [go_sem]
    refine Runs.split (fun h => ?_) (fun h => ?_)
    ·have h0 : L.length = 0 := by simp at h; exact List.length_eq_zero_iff.mpr h
     simp +decide only [go_sem]
     exact Runs.ret_eq (by simp [natB, ← hr, hle, h0])
    ·have h0 : L.length ≠ 0 := by simp at h; intro e; exact h (List.length_eq_zero_iff.mp e)
     have ht : ((L.length : Int) - 1).toNat = L.length - 1 := by omega
     have hg := getIntA (N := L) (i := L.length - 1) (by omega)
     have hb : decide (0 ≤ (L.length : Int) - 1 ∧ (L.length : Int) - 1 < L.length) = true := by simp; omega
     simp +decide (disch := first | omega | (simp only [ll]; omega)) only [ht, hg, hb, if_pos, go_sem]
     exact Runs.ret_eq (by simp [natB, ← hr, hle, h0, topD])
   ·have hle : ¬ L.length ≤ 64 := by simp at h; omega
    simp +decide only [go_sem]
    exact Runs.ret_eq (by simp [natB, hle])
include hm in
theorem iNatOk (L : List Int) (h3 : L.length ≤ 9223372036854775807) : Holds Tryz.prog 31 [.sl .sh (L.map intA)] [] (.v (.bool (natB L))) [] := by
 refine holds_of (ann := []) tabOk hm Tryz.func31 (by kernel_rfl) rfl ?_
 simp +decide only [Tryz.f31, go_sem]
 refine Runs.split (fun h => ?_) (fun h => ?_)
 ·have hle : L.length ≤ 64 := by simp at h; omega
  simp +decide only [go_sem]
  refine Runs.call (allWithin hm L 0 65535 h3) ?_
  simp +decide only [go_sem]
  refine Runs.split (fun ha => ?_) (fun ha => ?_)
  ·simp +decide only [go_sem]
   refine Runs.split (fun h => ?_) (fun h => ?_)
   ·have h0 : L.length = 0 := by simp at h; exact List.length_eq_zero_iff.mpr h
    simp +decide only [go_sem]
    exact Runs.ret_eq (by simp only [natB, ha, hle, h0]; simp)
   ·have h0 : L.length ≠ 0 := by simp at h; intro e; exact h (List.length_eq_zero_iff.mp e)
    have ht : ((L.length : Int) - 1).toNat = L.length - 1 := by omega
    have hg := getIntA (N := L) (i := L.length - 1) (by omega)
    have hb : decide (0 ≤ (L.length : Int) - 1 ∧ (L.length : Int) - 1 < L.length) = true := by simp; omega
    simp +decide (disch := first | omega | (simp only [ll]; omega)) only [ht, hg, hb, if_pos, go_sem]
    exact Runs.ret_eq (by simp only [natB, ha, hle, h0, topD]; simp)
  ·simp +decide only [go_sem]
   exact Runs.ret_eq (by simp only [natB, ha]; rfl)
 ·have hle : ¬ L.length ≤ 64 := by simp at h; omega
  simp +decide only [go_sem]
  exact Runs.ret_eq (by simp [natB, hle])
def lbAnn : Ann := [(0, [3, 4])]
def lbSt (p : Nat × Int) : St := ⟨[.any, .any, .any, .v (.int .i64 p.2), .v (.int .i64 p.1), .any, .any, .any, .any, .any, .any, .any, .any, .any, .any, .any, .any, .any, .any, .any, .any, .any, .any, .any, .any], [], []⟩
include hm in
theorem l1Bits (L : List Int) (h : natB L = true) : Holds Tryz.prog 25 [.sl .sh (L.map intA)] [] (.v (.int .i64 (bitsZ L))) [] := by
 refine holds_of (ann := lbAnn) tabOk hm Tryz.func25 (by kernel_rfl) rfl ?_
 by_cases h0 : L.length = 0
 ·simp +decide only [Tryz.f25, h0, go_sem]
  exact Runs.ret_eq (by simp [bitsZ, h0])
 ·obtain ⟨l1, l2, l3⟩ := nat_top h h0
  have ht : ((L.length : Int) - 1).toNat = L.length - 1 := by omega
  have hg := getIntA (N := L) (i := L.length - 1) (by omega)
  have hb : decide (0 ≤ (L.length : Int) - 1 ∧ (L.length : Int) - 1 < L.length) = true := by simp; omega
  have hz : decide ((L.length : Int) = 0) = false := by simp; intro e; exact h0 (by simp [e])
  rw [show L.getD (L.length - 1) 0 = topD L from rfl] at hg
  obtain ⟨x0, hx0⟩ := nat_of (show 0 ≤ topD L by omega)
  have hbits : bitsZ L = 16 * ((L.length : Int) - 1) + blen x0 := by simp [bitsZ, h0, hx0]
  have hl : blen x0 ≤ 16 := blen_le (by omega)
  rw [hbits]
  simp +decide (disch := first | omega | (simp only [ll]; omega)) only [Tryz.f25, ht, hg, hb, hz, hx0, if_pos, go_sem]
  refine Runs.while (α := Nat × Int) lbSt (fun p => p.1) (fun p => p.1 ≤ x0 ∧ 0 ≤ p.2 ∧ p.2 + blen p.1 = 16 * ((L.length : Int) - 1) + blen x0) (x0, 16 * ((L.length : Int) - 1)) ⟨Nat.le_refl _, by simp only; omega, rfl⟩ ?_ ?_
  ·simp [go_sem, lbAnn, lbSt]
  ·rintro ⟨x, r⟩ ⟨hx, hr0, hr⟩ ih
   simp only at hx hr0 hr
   simp +decide only [lbSt, go_sem]
   refine Runs.split (fun h => ?_) (fun h => ?_)
   ·have hs : x ≠ 0 := by simp at h; omega
    rw [blen_pos hs] at hr
    have e4 := tdiv_nat x 2
    have w3 : IntKind.i64.wrap ((x / 2 : Nat) : Int) = ((x / 2 : Nat) : Int) := wrap_i64 (by omega) (by omega)
    simp +decide (disch := first | omega | (simp only [ll]; omega)) only [e4, w3, if_pos, go_sem]
    refine ih (x / 2, r + 1) _ (by simp only; omega) ⟨by simp only; omega, by simp only; omega, by simp only; omega⟩ ?_
    have w4 : IntKind.i64.wrap ((x : Int) / 2) = (x : Int) / 2 := w3
    simp [go_sem, lbAnn, lbSt, w4]
   ·have hs : x = 0 := by simp at h; omega
    subst hs
    rw [blen_zero] at hr
    simp +decide only [go_sem]
    exact Runs.ret_eq (by rw [← hr]; simp)
include hm in
theorem natBits (L : List Int) (h : natB L = true) : Holds Tryz.prog 33 [.sl .sh (L.map intA)] [] (.v (.int .i64 (bitsZ L))) [] := by
 refine holds_of (ann := []) tabOk hm Tryz.func33 (by kernel_rfl) rfl ?_
 by_cases h0 : L.length = 0
 ·simp +decide only [Tryz.f33, h0, go_sem]
  exact Runs.ret_eq (by simp [bitsZ, h0])
 ·obtain ⟨l1, l2, l3⟩ := nat_top h h0
  have ht : ((L.length : Int) - 1).toNat = L.length - 1 := by omega
  have hg := getIntA (N := L) (i := L.length - 1) (by omega)
  have hb : decide (0 ≤ (L.length : Int) - 1 ∧ (L.length : Int) - 1 < L.length) = true := by simp; omega
  have hz : decide ((L.length : Int) = 0) = false := by simp; intro e; exact h0 (by simp [e])
  rw [show L.getD (L.length - 1) 0 = topD L from rfl] at hg
  obtain ⟨x0, hx0⟩ := nat_of (show 0 ≤ topD L by omega)
  have hbits : bitsZ L = 16 * ((L.length : Int) - 1) + blen x0 := by simp [bitsZ, h0, hx0]
  have hl : blen x0 ≤ 16 := blen_le (by omega)
  rw [hbits]
  simp +decide (disch := first | omega | (simp only [ll]; omega)) only [Tryz.f33, ht, hg, hb, hz, hx0, if_pos, go_sem]
  refine Runs.call (bitsLen hm x0 (by omega)) ?_
  simp +decide (disch := first | omega | (simp only [ll]; omega)) only [if_pos, go_sem]
  exact Runs.ret_v
def seqAnn : Ann := [(0, [0, 1, 11, 12, 13])]
def seqSt (L M : List Int) (n i : Nat) : St := ⟨[.sl .sh (L.map intA), .sl .sh (M.map intA), .any, .any, .any, .any, .any, .any, .any, .any, .any, .sl .sh (L.map intA), .v (.int .i64 n), .v (.int .i64 i), .any, .any, .any, .any, .any, .any, .any, .any, .any, .any, .any, .any], [], []⟩
def seqS : Sched := .take 0 (.take 1 (.take 2 (.take 4 (.take 5 (.take 6 (.ld 3 (.ld 7 (.take 8 .fin))))))))
attribute [local go_sem] seqS
include hm in
theorem equalInt (L M : List Int) (h3 : L.length ≤ 9223372036854775807) (h4 : M.length ≤ 9223372036854775807) : Holds Tryz.prog 71 [.sl .sh (L.map intA), .sl .sh (M.map intA)] [] (.v (.bool (decide (L = M)))) [] := by
 refine holds_of (ann := seqAnn) tabOk hm Tryz.func71 (by kernel_rfl) rfl ?_
 simp +decide only [Tryz.f71, go_sem]
 refine Runs.split (fun h => ?_) (fun h => ?_)
 ·have hne : L ≠ M := by intro e; subst e; simp at h
  simp +decide only [go_sem]
  exact Runs.ret_eq (by simp [hne])
 ·have hlen : L.length = M.length := by simp at h; omega
  simp +decide only [go_sem]
  refine Runs.while (α := Nat) (seqSt L M L.length) (fun i => L.length - i) (fun i => i ≤ L.length ∧ L.take i = M.take i) 0 ⟨by omega, by simp⟩ ?_ ?_
  ·simp [go_sem, seqAnn, seqSt]
  ·rintro i ⟨hi, he⟩ ih
   simp +decide only [seqSt, go_sem]
   refine Runs.split (fun h => ?_) (fun h => ?_)
   ·have hlt : i < L.length := by simpa using h
    have hlt' : i < M.length := by omega
    simp +decide only [go_sem]
    refine Runs.draw (st1 := ?s1) (draws_by (ann := []) tabOk seqS (by kernel_rfl) ?p1) ?q1
    case p1 =>
     intro K r X hK
     simp +decide (disch := first | omega | (simp only [ll]; omega)) only [if_pos, go_sem]
     exact hK
    case q1 =>
     simp +decide only [go_sem]
     refine Runs.split (fun h => ?_) (fun h => ?_)
     ·have hne : L ≠ M := by
       intro e
       subst e
       simp at h
      simp +decide only [go_sem]
      exact Runs.ret_eq (by simp [hne])
     ·have hx : L[i] = M[i] := by simpa using h
      simp +decide (disch := first | omega | (simp only [ll]; omega)) only [if_pos, go_sem]
      refine ih (i + 1) _ (by omega) ⟨by omega, by rw [List.take_succ_eq_append_getElem hlt, List.take_succ_eq_append_getElem hlt', he, hx]⟩ ?_
      simp [go_sem, seqAnn, seqSt]
   ·have hge : i = L.length := by simp at h; omega
    subst hge
    rw [List.take_length, List.take_of_length_le (by omega)] at he
    simp +decide only [go_sem]
    exact Runs.ret_eq (by simp [he])
theorem bv {a b : Bool} (h : a = true ↔ b = true) : A.v (.bool a) = A.v (.bool b) := by
 have : a = b := by cases a <;> cases b <;> simp_all
 rw [this]
include hm in
theorem noCurveS (k : GKey) : Holds Tryz.prog 21 [keyA k] [] (.v (.bool (noCurve k))) [] := by
 refine holds_ref (ann := []) tabOk hm (byL [] [1000001]) Tryz.func21 (by kernel_rfl) rfl ?_
 simp +decide (maxSteps := 9^7) only [Tryz.f21, go_sem]
 refine Runs.split (fun h => ?_) (fun h => ?_)
 ·simp +decide (maxSteps := 9^7) only [go_sem]
  exact Runs.ret_eq (bv (by simp [noCurve, eqCv, eqPt, cv0, pt0] at h ⊢; grind))
 ·simp +decide (maxSteps := 9^7) only [go_sem]
  exact Runs.ret_eq (bv (by simp [noCurve, eqCv, eqPt, cv0, pt0] at h ⊢; grind))
include hm in
theorem noEdS (k : GKey) : Holds Tryz.prog 22 [keyA k] [] (.v (.bool (noEd k))) [] := by
 refine holds_ref (ann := []) tabOk hm (byL [] [1000001]) Tryz.func22 (by kernel_rfl) rfl ?_
 simp +decide (maxSteps := 9^7) only [Tryz.f22, go_sem]
 refine Runs.split (fun h => ?_) (fun h => ?_)
 ·simp +decide (maxSteps := 9^7) only [go_sem]
  exact Runs.ret_eq (bv (by simp [noEd, eqEd, eqPr, ed0, pr0] at h ⊢; grind))
 ·simp +decide (maxSteps := 9^7) only [go_sem]
  exact Runs.ret_eq (bv (by simp [noEd, eqEd, eqPr, ed0, pr0] at h ⊢; grind))
include hm in
theorem noRsaS (k : GKey) : Holds Tryz.prog 26 [keyA k] [] (.v (.bool (noRsa k))) [] := by
 refine holds_ref (ann := []) tabOk hm (byL [] [1000001]) Tryz.func26 (by kernel_rfl) rfl ?_
 simp +decide (maxSteps := 9^7) only [Tryz.f26, go_sem]
 refine Runs.split (fun h => ?_) (fun h => ?_)
 ·simp +decide (maxSteps := 9^7) only [go_sem]
  exact Runs.ret_eq (bv (by simp [noRsa] at h ⊢; simp [h]))
 ·simp +decide (maxSteps := 9^7) only [go_sem]
  exact Runs.ret_eq (bv (by simp [noRsa] at h ⊢; grind))
def keySame (k k' : GKey) : Bool := decide (k.kind = k'.kind) && (decide (k.N = k'.N) && (decide (k.e = k'.e) && (eqCv k.cv k'.cv && (eqPt k.q k'.q && (eqEd k.ed k'.ed && eqPr k.a k'.a)))))
set_option maxHeartbeats 4000000 in
include hm in
theorem sameK (k k' : GKey) (h3 : k.N.length ≤ 9223372036854775807) (h4 : k'.N.length ≤ 9223372036854775807) : Holds Tryz.prog 30 [keyA k, keyA k'] [] (.v (.bool (keySame k k'))) [] := by
 refine holds_ref (ann := []) tabOk hm (byL [] [1000002, 1000003]) Tryz.func30 (by kernel_rfl) rfl ?_
 have hE := equalInt hm k.N k'.N h3 h4
 simp +decide (maxSteps := 9^7) only [Tryz.f30, go_sem]
 refine Runs.split (fun c1 => ?_) (fun c1 => ?_)
 case _ =>
  simp +decide (maxSteps := 9^7) only [go_sem]
  refine Runs.call hE ?_
  simp +decide (maxSteps := 9^7) only [go_sem]
  refine Runs.split (fun c2 => ?_) (fun c2 => ?_)
  case _ =>
   simp +decide (maxSteps := 9^7) only [go_sem]
   refine Runs.split (fun c3 => ?_) (fun c3 => ?_)
   case _ =>
    simp +decide (maxSteps := 9^7) only [go_sem]
    refine Runs.split (fun c4 => ?_) (fun c4 => ?_)
    case _ =>
     simp +decide (maxSteps := 9^7) only [go_sem]
     refine Runs.split (fun c5 => ?_) (fun c5 => ?_)
     case _ =>
      simp +decide (maxSteps := 9^7) only [go_sem]
      refine Runs.split (fun c6 => ?_) (fun c6 => ?_)
      case _ =>
       simp +decide (maxSteps := 9^7) only [go_sem]
       exact Runs.ret_eq (bv (by simp [keySame, eqCv, eqPt, eqEd, eqPr] at c1 c2 c3 c4 c5 c6 ⊢; simp [c1, c2, c3, c4, c5, c6]))
      simp +decide (maxSteps := 9^7) only [go_sem]
      exact Runs.ret_eq (bv (by simp [keySame, eqCv, eqPt, eqEd, eqPr] at c6 ⊢; grind))
     simp +decide (maxSteps := 9^7) only [go_sem]
     exact Runs.ret_eq (bv (by simp [keySame, eqCv, eqPt, eqEd, eqPr] at c5 ⊢; grind))
    simp +decide (maxSteps := 9^7) only [go_sem]
    exact Runs.ret_eq (bv (by simp [keySame, eqCv, eqPt, eqEd, eqPr] at c4 ⊢; grind))
   simp +decide (maxSteps := 9^7) only [go_sem]
   exact Runs.ret_eq (bv (by simp [keySame, eqCv, eqPt, eqEd, eqPr] at c3 ⊢; grind))
  simp +decide (maxSteps := 9^7) only [go_sem]
  exact Runs.ret_eq (bv (by simp [keySame, eqCv, eqPt, eqEd, eqPr] at c2 ⊢; grind))
 simp +decide (maxSteps := 9^7) only [go_sem]
 exact Runs.ret_eq (bv (by simp [keySame] at c1 ⊢; grind))
end Go.Proofs.W

namespace Go.Proofs.W
open Go Go.AM Go.Proofs.G
variable (hm : Tryz.prog.follows .mixedOrders = true)
attribute [local go_sem] edA prA cvA ptA keyA
theorem bits_pos {N : List Int} (h : inB (bitsZ N) 128 512 = true) : 0 < N.length := by
 rcases Nat.eq_zero_or_pos N.length with h0 | h0
 ·have := inB_t h
  simp [bitsZ, h0] at this
 ·exact h0
theorem curve_n {k : GCv} (h : curveB k = true) : 0 ≤ k.n ∧ k.n ≤ 2097152 := by
 simp only [curveB, Bool.and_eq_true] at h
 obtain ⟨⟨⟨⟨⟨⟨⟨⟨⟨_, _⟩, _⟩, _⟩, _⟩, c6⟩, _⟩, _⟩, _⟩, _⟩ := h
 have := inB_t c6
 omega
theorem curve_p {k : GCv} (h : curveB k = true) : PrimeN k.p.toNat := by
 simp only [curveB, Bool.and_eq_true] at h
 obtain ⟨⟨⟨⟨⟨⟨⟨⟨⟨_, _⟩, c3⟩, _⟩, _⟩, _⟩, _⟩, _⟩, _⟩, _⟩ := h
 exact (primeZ_of c3).2.2
theorem curve_d {k : GCv} (h : curveB k = true) : (4 * (k.a * k.a % k.p) * k.a + 27 * (k.b * k.b % k.p)) % k.p ≠ 0 := by
 simp only [curveB, Bool.and_eq_true] at h
 obtain ⟨⟨⟨⟨⟨⟨⟨⟨⟨_, _⟩, _⟩, _⟩, _⟩, _⟩, _⟩, c8⟩, _⟩, _⟩ := h
 simpa using c8
theorem same_rsa (k : GKey) : keySame k ⟨1, k.N, k.e, cv0, pt0, ed0, pr0⟩ = (decide (k.kind = 1) && (noCurve k && noEd k)) := by
 simp only [keySame, noCurve, noEd, decide_true, Bool.true_and, Bool.and_assoc]
theorem same_curve (k : GKey) : keySame k ⟨2, [], 0, k.cv, k.q, ed0, pr0⟩ = (decide (k.kind = 2) && (noRsa k && noEd k)) := by
 have e1 : eqCv k.cv k.cv = true := by simp [eqCv]
 have e2 : eqPt k.q k.q = true := by simp [eqPt]
 have e3 : decide (k.N = []) = decide (k.N.length = 0) := by simp
 simp only [keySame, noRsa, noEd, e1, e2, e3, Bool.true_and, Bool.and_assoc]
theorem same_ed (k : GKey) : keySame k ⟨3, [], 0, cv0, pt0, k.ed, k.a⟩ = (decide (k.kind = 3) && (noRsa k && noCurve k)) := by
 have e1 : eqEd k.ed k.ed = true := by simp [eqEd]
 have e2 : eqPr k.a k.a = true := by simp [eqPr]
 have e3 : decide (k.N = []) = decide (k.N.length = 0) := by simp
 simp only [keySame, noRsa, noCurve, e1, e2, e3, Bool.and_true, Bool.and_assoc]
set_option maxRecDepth 10000 in
set_option maxHeartbeats 8000000 in
include hm in
theorem sKeyOk (k : GKey) (h3 : k.N.length ≤ 9223372036854775807) : Holds Tryz.prog 8 [keyA k] [] (.v (.bool (keyB k))) [] := by
 refine holds_ref (ann := []) tabOk hm (byL [] [1000001]) Tryz.func8 (by kernel_rfl) rfl ?_
 have n1 := noCurveS hm k
 have n2 := noEdS hm k
 have n3 := noRsaS hm k
 have nN := sNatOk hm k.N h3
 have nP := sPointOk hm k.cv k.q
 have nE := sPairOk hm k.ed k.a
 simp +decide (maxSteps := 9^7) only [Tryz.f8, go_sem]
 refine Runs.split (fun k1 => ?_) (fun k1 => ?_)
 ·have k1' : k.kind = 1 := by simpa using k1
  simp +decide (maxSteps := 9^7) only [go_sem]
  refine Runs.call n1 ?_
  simp +decide (maxSteps := 9^7) only [go_sem]
  refine Runs.split (fun c1 => ?_) (fun c1 => ?_)
  case _ =>
   simp +decide (maxSteps := 9^7) only [go_sem]
   refine Runs.call n2 ?_
   simp +decide (maxSteps := 9^7) only [go_sem]
   refine Runs.split (fun c2 => ?_) (fun c2 => ?_)
   case _ =>
    simp +decide (maxSteps := 9^7) only [go_sem]
    refine Runs.call nN ?_
    simp +decide (maxSteps := 9^7) only [go_sem]
    refine Runs.split (fun c3 => ?_) (fun c3 => ?_)
    case _ =>
     simp +decide (maxSteps := 9^7) only [go_sem]
     refine Runs.call (l1Bits hm k.N c3) ?_
     simp +decide (maxSteps := 9^7) only [go_sem]
     refine Runs.call (l1In hm (bitsZ k.N) 128 512) ?_
     simp +decide (maxSteps := 9^7) only [go_sem]
     refine Runs.split (fun c4 => ?_) (fun c4 => ?_)
     case _ =>
      have hpos := bits_pos c4
      have hlow : lowD k.N = k.N[0] := by simp [lowD, List.getD, hpos]
      have hg := getIntA (N := k.N) (i := 0) hpos
      have hb : decide ((0 : Int) ≤ 0 ∧ (0 : Int) < k.N.length) = true := by simp; omega
      simp +decide (maxSteps := 9^7) (disch := first | omega | (simp only [ll]; omega)) only [hg, hb, if_pos, go_sem]
      refine Runs.split (fun c5 => ?_) (fun c5 => ?_)
      case _ =>
       have c5' : (lowD k.N).tmod 2 = 1 := by rw [hlow]; simpa using c5
       simp +decide (maxSteps := 9^7) only [go_sem]
       refine Runs.call (l1In hm k.e 3 65537) ?_
       simp +decide (maxSteps := 9^7) only [go_sem]
       refine Runs.split (fun c6 => ?_) (fun c6 => ?_)
       case _ =>
        simp +decide (maxSteps := 9^7) only [go_sem]
        exact Runs.ret_eq (by simp [keyB, k1', c1, c2, c3, c4, c5', c6])
       simp +decide (maxSteps := 9^7) only [go_sem]
       exact Runs.ret_eq (by rw [show keyB k = false by simp [keyB, k1', c6]])
      have : ¬ (lowD k.N).tmod 2 = 1 := by rw [hlow]; simpa using c5
      simp +decide (maxSteps := 9^7) only [go_sem]
      exact Runs.ret_eq (by rw [show keyB k = false by simp [keyB, k1', this]])
     simp +decide (maxSteps := 9^7) only [go_sem]
     exact Runs.ret_eq (by rw [show keyB k = false by simp [keyB, k1', c4]])
    simp +decide (maxSteps := 9^7) only [go_sem]
    exact Runs.ret_eq (by rw [show keyB k = false by simp [keyB, k1', c3]])
   simp +decide (maxSteps := 9^7) only [go_sem]
   exact Runs.ret_eq (by rw [show keyB k = false by simp [keyB, k1', c2]])
  simp +decide (maxSteps := 9^7) only [go_sem]
  exact Runs.ret_eq (by rw [show keyB k = false by simp [keyB, k1', c1]])
 ·have k1' : ¬ k.kind = 1 := by simpa using k1
  simp +decide (maxSteps := 9^7) only [go_sem]
  refine Runs.split (fun k2 => ?_) (fun k2 => ?_)
  ·have k2' : k.kind = 2 := by simpa using k2
   simp +decide (maxSteps := 9^7) only [go_sem]
   refine Runs.call n3 ?_
   simp +decide (maxSteps := 9^7) only [go_sem]
   refine Runs.split (fun c1 => ?_) (fun c1 => ?_)
   case _ =>
    simp +decide (maxSteps := 9^7) only [go_sem]
    refine Runs.call n2 ?_
    simp +decide (maxSteps := 9^7) only [go_sem]
    refine Runs.split (fun c2 => ?_) (fun c2 => ?_)
    case _ =>
     simp +decide (maxSteps := 9^7) only [go_sem]
     refine Runs.call nP ?_
     simp +decide (maxSteps := 9^7) only [go_sem]
     refine Runs.split (fun c3 => ?_) (fun c3 => ?_)
     case _ =>
      have c3' : curveB k.cv = true ∧ onZ k.cv.p k.cv.a k.cv.b k.q = true := by simpa using c3
      simp +decide (maxSteps := 9^7) only [go_sem]
      refine Runs.split (fun c4 => ?_) (fun c4 => ?_)
      case _ =>
       have c4' : k.q.far = false := by simpa using c4
       have kin := curve_in c3'.1
       have hp : 0 < k.cv.p := by have := kin.1; omega
       have hn : ((k.cv.n.toNat : Nat) : Int) = k.cv.n := Int.toNat_of_nonneg (curve_n c3'.1).1
       have hM := l3Mul hm k.cv k.cv.n.toNat k.q kin (onZ_in hp c3'.2) (by have := (curve_n c3'.1).2; omega)
       rw [hn] at hM
       simp +decide (maxSteps := 9^7) only [go_sem]
       refine Runs.call hM ?_
       simp +decide (maxSteps := 9^7) only [go_sem]
       exact Runs.ret_eq (by simp [keyB, k2', c1, c2, c3', c4'])
      have c4' : k.q.far = true := by simpa using c4
      simp +decide (maxSteps := 9^7) only [go_sem]
      exact Runs.ret_eq (by rw [show keyB k = false by simp [keyB, k2', c4']])
     have : (curveB k.cv && onZ k.cv.p k.cv.a k.cv.b k.q) = false := c3
     simp +decide (maxSteps := 9^7) only [go_sem]
     exact Runs.ret_eq (by rw [show keyB k = false by simp only [keyB, k2', this]; simp])
    simp +decide (maxSteps := 9^7) only [go_sem]
    exact Runs.ret_eq (by rw [show keyB k = false by simp [keyB, k2', c2]])
   simp +decide (maxSteps := 9^7) only [go_sem]
   exact Runs.ret_eq (by rw [show keyB k = false by simp [keyB, k2', c1]])
  ·have k2' : ¬ k.kind = 2 := by simpa using k2
   simp +decide (maxSteps := 9^7) only [go_sem]
   refine Runs.split (fun k3 => ?_) (fun k3 => ?_)
   ·have k3' : k.kind = 3 := by simpa using k3
    simp +decide (maxSteps := 9^7) only [go_sem]
    refine Runs.call n3 ?_
    simp +decide (maxSteps := 9^7) only [go_sem]
    refine Runs.split (fun c1 => ?_) (fun c1 => ?_)
    case _ =>
     simp +decide (maxSteps := 9^7) only [go_sem]
     refine Runs.call n1 ?_
     simp +decide (maxSteps := 9^7) only [go_sem]
     refine Runs.split (fun c2 => ?_) (fun c2 => ?_)
     case _ =>
      simp +decide (maxSteps := 9^7) only [go_sem]
      refine Runs.call nE ?_
      simp +decide (maxSteps := 9^7) only [go_sem]
      exact Runs.ret_eq (by simp [keyB, k3', c1, c2])
     simp +decide (maxSteps := 9^7) only [go_sem]
     exact Runs.ret_eq (by rw [show keyB k = false by simp [keyB, k3', c2]])
    simp +decide (maxSteps := 9^7) only [go_sem]
    exact Runs.ret_eq (by rw [show keyB k = false by simp [keyB, k3', c1]])
   ·have k3' : ¬ k.kind = 3 := by simpa using k3
    simp +decide (maxSteps := 9^7) only [go_sem]
    exact Runs.ret_eq (by simp [keyB, k1', k2', k3'])
set_option maxRecDepth 10000 in
set_option maxHeartbeats 8000000 in
include hm in
theorem iKeyOk (k : GKey) (h3 : k.N.length ≤ 9223372036854775807) : Holds Tryz.prog 9 [keyA k] [] (.v (.bool (keyB k))) [] := by
 refine holds_ref (ann := []) tabOk hm (byL [] [1000001]) Tryz.func9 (by kernel_rfl) rfl ?_
 have s1 := sameK hm k ⟨1, k.N, k.e, cv0, pt0, ed0, pr0⟩ h3 h3
 have s2 := sameK hm k ⟨2, [], 0, k.cv, k.q, ed0, pr0⟩ h3 (by simp)
 have s3 := sameK hm k ⟨3, [], 0, cv0, pt0, k.ed, k.a⟩ h3 (by simp)
 rw [same_rsa] at s1
 rw [same_curve] at s2
 rw [same_ed] at s3
 have nN := iNatOk hm k.N h3
 have nP := iPointOk hm k.cv k.q
 have nE := iPairOk hm k.ed k.a
 simp +decide (maxSteps := 9^7) only [Tryz.f9, go_sem]
 refine Runs.split (fun k1 => ?_) (fun k1 => ?_)
 ·have k1' : k.kind = 1 := by simpa using k1
  simp only [k1', decide_true, Bool.true_and] at s1
  simp +decide (maxSteps := 9^7) only [go_sem]
  refine Runs.call (Holds.le s1 (by simp only [keyA, k1', cv0, pt0, ed0, pr0, List.map_nil]; exact LeD.refl _)) ?_
  simp +decide (maxSteps := 9^7) only [go_sem]
  refine Runs.split (fun c1 => ?_) (fun c1 => ?_)
  case _ =>
   have : (noCurve k && noEd k) = false := by first | exact c1 | (rw [Bool.not_eq_true'] at c1; exact c1)
   simp +decide (maxSteps := 9^7) only [go_sem]
   exact Runs.ret_eq (by rw [show keyB k = false by (have t := this; simp only [Bool.and_eq_false_iff] at t; rcases t with t | t <;> simp [keyB, k1', t])])
  have c1' : noCurve k = true ∧ noEd k = true := by simpa using c1
  simp +decide (maxSteps := 9^7) only [go_sem]
  refine Runs.call nN ?_
  simp +decide (maxSteps := 9^7) only [go_sem]
  refine Runs.split (fun c3 => ?_) (fun c3 => ?_)
  case _ =>
   have c3' : natB k.N = false := by simpa using c3
   simp +decide (maxSteps := 9^7) only [go_sem]
   exact Runs.ret_eq (by rw [show keyB k = false by simp [keyB, k1', c3']])
  have c3' : natB k.N = true := by simpa using c3
  simp +decide (maxSteps := 9^7) only [go_sem]
  refine Runs.call (natBits hm k.N c3') ?_
  simp +decide (maxSteps := 9^7) only [go_sem]
  refine Runs.call (within hm (bitsZ k.N) 128 512) ?_
  simp +decide (maxSteps := 9^7) only [go_sem]
  refine Runs.split (fun c4 => ?_) (fun c4 => ?_)
  case _ =>
   have c4' : inB (bitsZ k.N) 128 512 = false := by simpa using c4
   simp +decide (maxSteps := 9^7) only [go_sem]
   exact Runs.ret_eq (by rw [show keyB k = false by simp [keyB, k1', c4']])
  have c4' : inB (bitsZ k.N) 128 512 = true := by simpa using c4
  have hpos := bits_pos c4'
  have hlow : lowD k.N = k.N[0] := by simp [lowD, List.getD, hpos]
  have hg := getIntA (N := k.N) (i := 0) hpos
  have hb : decide ((0 : Int) ≤ 0 ∧ (0 : Int) < k.N.length) = true := by simp; omega
  simp +decide (maxSteps := 9^7) (disch := first | omega | (simp only [ll]; omega)) only [hg, hb, if_pos, go_sem]
  refine Runs.split (fun c5 => ?_) (fun c5 => ?_)
  case _ =>
   have c5' : (lowD k.N).tmod 2 = 1 := by rw [hlow]; simpa using c5
   simp +decide (maxSteps := 9^7) only [go_sem]
   refine Runs.call (within hm k.e 3 65537) ?_
   simp +decide (maxSteps := 9^7) only [go_sem]
   refine Runs.split (fun c6 => ?_) (fun c6 => ?_)
   case _ =>
    simp +decide (maxSteps := 9^7) only [go_sem]
    exact Runs.ret_eq (by simp [keyB, k1', c1', c3', c4', c5', c6])
   simp +decide (maxSteps := 9^7) only [go_sem]
   exact Runs.ret_eq (by rw [show keyB k = false by simp [keyB, k1', c6]])
  have : ¬ (lowD k.N).tmod 2 = 1 := by rw [hlow]; simpa using c5
  simp +decide (maxSteps := 9^7) only [go_sem]
  exact Runs.ret_eq (by rw [show keyB k = false by simp [keyB, k1', this]])
 ·have k1' : ¬ k.kind = 1 := by simpa using k1
  simp +decide (maxSteps := 9^7) only [go_sem]
  refine Runs.split (fun k2 => ?_) (fun k2 => ?_)
  ·have k2' : k.kind = 2 := by simpa using k2
   simp only [k2', decide_true, Bool.true_and] at s2
   simp +decide (maxSteps := 9^7) only [go_sem]
   refine Runs.call (Holds.le s2 (by simp only [keyA, k2', cv0, pt0, ed0, pr0, List.map_nil]; exact .same _ (.agg (.same _ (.nils _ (LeD.refl _))) .nil))) ?_
   simp +decide (maxSteps := 9^7) only [go_sem]
   refine Runs.split (fun c1 => ?_) (fun c1 => ?_)
   case _ =>
    have c1' : noRsa k = true ∧ noEd k = true := by simpa using c1
    simp +decide (maxSteps := 9^7) only [go_sem]
    refine Runs.call nP ?_
    simp +decide (maxSteps := 9^7) only [go_sem]
    refine Runs.split (fun c3 => ?_) (fun c3 => ?_)
    case _ =>
     have c3' : curveB k.cv = true ∧ onZ k.cv.p k.cv.a k.cv.b k.q = true := by simpa using c3
     simp +decide (maxSteps := 9^7) only [go_sem]
     refine Runs.split (fun c4 => ?_) (fun c4 => ?_)
     case _ =>
      have c4' : k.q.far = false := by simpa using c4
      have kin := curve_in c3'.1
      have hp : 0 < k.cv.p := by have := kin.1; omega
      have hn : ((k.cv.n.toNat : Nat) : Int) = k.cv.n := Int.toNat_of_nonneg (curve_n c3'.1).1
      have hM := timesC hm k.cv k.cv.n.toNat k.q kin (onZ_in hp c3'.2) (by have := (curve_n c3'.1).2; omega)
      rw [hn, times_same (by have := kin.1; omega) (curve_p c3'.1) (curve_d c3'.1) c3'.2 k.cv.n.toNat] at hM
      simp +decide (maxSteps := 9^7) only [go_sem]
      refine Runs.call hM ?_
      simp +decide (maxSteps := 9^7) only [go_sem]
      exact Runs.ret_eq (by simp [keyB, k2', c1', c3', c4'])
     have c4' : k.q.far = true := by simpa using c4
     simp +decide (maxSteps := 9^7) only [go_sem]
     exact Runs.ret_eq (by rw [show keyB k = false by simp [keyB, k2', c4']])
    have : (curveB k.cv && onZ k.cv.p k.cv.a k.cv.b k.q) = false := c3
    simp +decide (maxSteps := 9^7) only [go_sem]
    exact Runs.ret_eq (by rw [show keyB k = false by simp only [keyB, k2', this]; simp])
   have : (noRsa k && noEd k) = false := by first | exact c1 | (rw [Bool.not_eq_true'] at c1; exact c1)
   simp +decide (maxSteps := 9^7) only [go_sem]
   exact Runs.ret_eq (by rw [show keyB k = false by (have t := this; simp only [Bool.and_eq_false_iff] at t; rcases t with t | t <;> simp [keyB, k2', t])])
  ·have k2' : ¬ k.kind = 2 := by simpa using k2
   simp +decide (maxSteps := 9^7) only [go_sem]
   refine Runs.split (fun k3 => ?_) (fun k3 => ?_)
   ·have k3' : k.kind = 3 := by simpa using k3
    simp only [k3', decide_true, Bool.true_and] at s3
    simp +decide (maxSteps := 9^7) only [go_sem]
    refine Runs.call (Holds.le s3 (by simp only [keyA, k3', cv0, pt0, ed0, pr0, List.map_nil]; exact .same _ (.agg (.same _ (.nils _ (LeD.refl _))) .nil))) ?_
    simp +decide (maxSteps := 9^7) only [go_sem]
    refine Runs.split (fun c1 => ?_) (fun c1 => ?_)
    case _ =>
     have c1' : noRsa k = true ∧ noCurve k = true := by simpa using c1
     simp +decide (maxSteps := 9^7) only [go_sem]
     refine Runs.call nE ?_
     simp +decide (maxSteps := 9^7) only [go_sem]
     exact Runs.ret_eq (by simp [keyB, k3', c1'])
    have : (noRsa k && noCurve k) = false := by first | exact c1 | (rw [Bool.not_eq_true'] at c1; exact c1)
    simp +decide (maxSteps := 9^7) only [go_sem]
    exact Runs.ret_eq (by rw [show keyB k = false by (have t := this; simp only [Bool.and_eq_false_iff] at t; rcases t with t | t <;> simp [keyB, k3', t])])
   ·have k3' : ¬ k.kind = 3 := by simpa using k3
    simp +decide (maxSteps := 9^7) only [go_sem]
    exact Runs.ret_eq (by simp [keyB, k1', k2', k3'])
end Go.Proofs.W

namespace Go.Proofs.W
open Go Go.AM
variable (hm : Tryz.prog.follows .mixedOrders = true)
def szI (n : Nat) (left : Int) : Int := if left - n < 0 then -1 else left - n
def szGo : List ByteArray → Int → Int
 | [], l => l
 | s :: r, l => if l - s.size < 0 then -1 else szGo r (l - s.size)
def szS (L : List ByteArray) (left : Int) : Int := if left - L.length < 0 then -1 else szGo L (left - L.length)
end Go.Proofs.W

namespace Go.Proofs.W
open Go Go.AM
variable (hm : Tryz.prog.follows .mixedOrders = true)
def fillS {α : Type} (g : α → A) (L : List α) (z : A) (i : Nat) : List A := (L.take i).map g ++ List.replicate (L.length - i) z
def toAnn : Ann := [(0, [0, 3, 4])]
end Go.Proofs.W

namespace Go.Proofs.W
open Go Go.AM
variable (hm : Tryz.prog.follows .mixedOrders = true)
def eqAnn : Ann := [(0, [0, 1, 5])]
def eqSched : Sched := .take 0 (.take 1 (.take 2 (.take 4 (.take 5 (.take 6 (.alt 3 (.alt 7 (.take 8 .fin) .nil) (.alt 7 (.alt 3 (.take 8 .fin) .nil) .nil)))))))
attribute [local go_sem] eqSched
end Go.Proofs.W

namespace Go.Proofs.W
open Go Go.AM Go.Proofs.G
variable (hm : Tryz.prog.follows .mixedOrders = true)
attribute [local go_sem] edA prA cvA ptA keyA
def keyO (k : GKey) : A := .agg [.v (.int .i64 k.kind), .sl (.ow 1) (k.N.map intA), .v (.int .i64 k.e), .v (.int .i64 k.cv.p), .v (.int .i64 k.cv.a), .v (.int .i64 k.cv.b), .v (.int .i64 k.cv.n), .v (.int .i64 k.cv.gx), .v (.int .i64 k.cv.gy),
 .v (.int .i64 k.q.x), .v (.int .i64 k.q.y), .v (.bool k.q.far), .v (.int .i64 k.ed.p), .v (.int .i64 k.ed.d), .v (.int .i64 k.ed.l), .v (.int .i64 k.ed.bx), .v (.int .i64 k.ed.by'), .v (.int .i64 k.a.1), .v (.int .i64 k.a.2)]
attribute [local go_sem] keyO
end Go.Proofs.W

namespace Go.Proofs.W
open Go Go.AM
variable (hm : Tryz.prog.follows .mixedOrders = true)
theorem bytePos {n : Nat} : IntKind.u8.wrap (n : Int) = ib n := rfl
end Go.Proofs.W

namespace Go.Proofs.W
open Go Go.AM
variable (hm : Tryz.prog.follows .mixedOrders = true)
end Go.Proofs.W

namespace Go.Proofs.W
open Go Go.AM
variable (hm : Tryz.prog.follows .mixedOrders = true)
def sumB (L : List It) : Nat := (L.map fun x => x.body.length).sum
def derN (L : List It) : Nd := (nestP L 13 0).1
def derOk (L : List It) : Bool := treeOk L && decide (sumB L ≤ 4000) && decide ((enc (derN L)).length ≤ 4000)
def derB (L : List It) : List Int := if derOk L = true then enc (derN L) else []
def derA (L : List It) : A := .tup [.sl (.ow 1) ((derB L).map u8A), .v (.bool (derOk L))]
def sumT (L : List It) (i : Nat) : Nat := sumB (L.take i)
end Go.Proofs.W

namespace Go.Proofs.W
open Go Go.AM
variable (hm : Tryz.prog.follows .mixedOrders = true)
def rdrO (b : List Int) (L : List It) (c p : Int) : A := .agg [.sl .sh (b.map u8A), .sl (.ow 3) (L.map itemO), .v (.int .i64 c), .v (.int .i64 p)]
def szA (r : Nat × Nat × Int) : A := .tup [.v (.int .i64 r.1), .v (.int .i64 r.2.1), .v (.int .i64 r.2.2)]
end Go.Proofs.W

namespace Go.Proofs.W
open Go Go.AM
variable (hm : Tryz.prog.follows .mixedOrders = true)
def rawI (t k : Int) : A := .agg [.v (.int .i64 t), .v (.slice none 0 0), .v (.int .i64 k)]
def kidA (t : Int) (j : Nat) : A := if j = 0 then rawI t 0 else itemO ⟨t, [], j⟩
def rowA (L : List It) (t : Int) (j : Nat) (M : List It) : List A := L.map itemO ++ kidA t j :: M.map itemO
end Go.Proofs.W

namespace Go.Proofs.W
open Go Go.AM
variable (hm : Tryz.prog.follows .mixedOrders = true)
def derM (b : List Int) : List It × Int × Int :=
 if 4000 < b.length then ([], 1, 0)
 else if (rdM b 13 0 b.length).code ≠ 0 then ([], (rdM b 13 0 b.length).code, (rdM b 13 0 b.length).place)
 else if 300 < (rdM b 13 0 b.length).items.length then ([], 7, 0)
 else if (rdM b 13 0 b.length).next < b.length then ([], 5, (rdM b 13 0 b.length).next)
 else ((rdM b 13 0 b.length).items, 0, 0)
def doneA (r : List It × Int × Int) : A := .tup [.sl (.ow 3) (r.1.map itemO), .v (.int .i64 r.2.1), .v (.int .i64 r.2.2)]
end Go.Proofs.W

namespace Go.Proofs.W
open Go Go.AM
variable (hm : Tryz.prog.follows .mixedOrders = true)
def itemW (x : It) : A := if made x.tag = true then .agg [.v (.int .i64 x.tag), .v (.slice none 0 0), .v (.int .i64 x.kids)] else itemO x
def rdrX (b : List Int) (n : Nat) (c p : Int) : Blk := ⟨true, 4, true, [.agg [.sl .sh (b.map u8A), .ms (.x 1) 0 n n, .v (.int .i64 c), .v (.int .i64 p)]]⟩
def rowX (L : List It) : Blk := ⟨true, 3, false, L.map itemW⟩
end Go.Proofs.W

namespace Go.Proofs.W
open Go Go.AM
variable (hm : Tryz.prog.follows .mixedOrders = true)
end Go.Proofs.W

namespace Go.Proofs.W
open Go Go.AM
variable (hm : Tryz.prog.follows .mixedOrders = true)
end Go.Proofs.W
