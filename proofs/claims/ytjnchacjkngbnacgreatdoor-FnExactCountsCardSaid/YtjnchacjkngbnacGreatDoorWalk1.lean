import Derived.Test.YtjnchacjkngbnacGreatDoorProg
import Derived.KernelRfl
import Derived.Lib.IndexLaws
import Derived.Lib.Strings
import Derived.Lib.Slices
import Derived.Lib.Walk
import Derived.Lib.Bytealg
import Derived.Test.YtjnchacjkngbnacGreatDoorField1
set_option linter.unusedVariables false
set_option linter.unusedSimpArgs false
namespace Go.Proofs.W
open Go Go.AM
def repV (n : Nat) (v : Value) : List Value := List.replicate n v
def tab : Go.AM.Tab := [
 [⟨.other, 0, 0, []⟩,
 ⟨.func, 1, 8, [.nilFunc]⟩,
 ⟨.int .i64, 1, 8, [.int .i64 0]⟩,
 ⟨.int .i64, 1, 8, [.int .i64 0]⟩,
 ⟨.bool, 1, 1, [.bool false]⟩,
 ⟨.int .u8, 1, 1, [.int .u8 0]⟩,
 ⟨.int .u8, 1, 1, [.int .u8 0]⟩,
 ⟨.struct [(0, 1, 2), (1, 1, 3), (2, 1, 4), (3, 1, 6)], 4, 24, [.int .i64 0, .int .i64 0, .bool false, .int .u8 0]⟩,
 ⟨.struct [(0, 1, 2), (1, 1, 3), (2, 1, 4), (3, 1, 6)], 4, 24, [.int .i64 0, .int .i64 0, .bool false, .int .u8 0]⟩,
 ⟨.string, 1, 16, [.string ⟨#[]⟩]⟩,
 ⟨.string, 1, 16, [.string ⟨#[]⟩]⟩,
 ⟨.string, 1, 16, [.string ⟨#[]⟩]⟩,
 ⟨.int .u64, 1, 8, [.int .u64 0]⟩,
 ⟨.struct [(0, 1, 9), (1, 1, 12)], 2, 24, [.string ⟨#[]⟩, .int .u64 0]⟩,
 ⟨.struct [(0, 1, 9), (1, 1, 12)], 2, 24, [.string ⟨#[]⟩, .int .u64 0]⟩,
 ⟨.pointer 201, 1, 8, [.pointer none]⟩],
 [⟨.pointer 204, 1, 8, [.pointer none]⟩,
 ⟨.pointer 212, 1, 8, [.pointer none]⟩,
 ⟨.struct [(0, 1, 17)], 1, 8, [.pointer none]⟩,
 ⟨.struct [(0, 1, 17)], 1, 8, [.pointer none]⟩,
 ⟨.other, 0, 0, []⟩,
 ⟨.int .i32, 1, 4, [.int .i32 0]⟩,
 ⟨.slice 51, 1, 24, [.slice none 0 0]⟩,
 ⟨.func, 1, 8, [.nilFunc]⟩,
 ⟨.slice 3, 1, 24, [.slice none 0 0]⟩,
 ⟨.other, 0, 0, []⟩,
 ⟨.func, 1, 8, [.nilFunc]⟩,
 ⟨.slice 61, 1, 24, [.slice none 0 0]⟩,
 ⟨.func, 1, 8, [.nilFunc]⟩,
 ⟨.func, 1, 8, [.nilFunc]⟩,
 ⟨.func, 1, 8, [.nilFunc]⟩,
 ⟨.func, 1, 8, [.nilFunc]⟩],
 [⟨.func, 1, 8, [.nilFunc]⟩,
 ⟨.func, 1, 8, [.nilFunc]⟩,
 ⟨.func, 1, 8, [.nilFunc]⟩,
 ⟨.slice 9, 1, 24, [.slice none 0 0]⟩,
 ⟨.struct [(0, 1, 3), (1, 1, 3), (2, 1, 3), (3, 1, 3), (4, 1, 3), (5, 1, 3)], 6, 48, [.int .i64 0, .int .i64 0, .int .i64 0, .int .i64 0, .int .i64 0, .int .i64 0]⟩,
 ⟨.struct [(0, 1, 3), (1, 1, 3), (2, 1, 3), (3, 1, 3), (4, 1, 3), (5, 1, 3)], 6, 48, [.int .i64 0, .int .i64 0, .int .i64 0, .int .i64 0, .int .i64 0, .int .i64 0]⟩,
 ⟨.struct [(0, 1, 3), (1, 1, 3), (2, 1, 4)], 3, 24, [.int .i64 0, .int .i64 0, .bool false]⟩,
 ⟨.struct [(0, 1, 3), (1, 1, 3), (2, 1, 4)], 3, 24, [.int .i64 0, .int .i64 0, .bool false]⟩,
 ⟨.struct [(0, 1, 3), (1, 1, 3), (2, 1, 3), (3, 1, 3), (4, 1, 3)], 5, 40, [.int .i64 0, .int .i64 0, .int .i64 0, .int .i64 0, .int .i64 0]⟩,
 ⟨.struct [(0, 1, 3), (1, 1, 3), (2, 1, 3), (3, 1, 3), (4, 1, 3)], 5, 40, [.int .i64 0, .int .i64 0, .int .i64 0, .int .i64 0, .int .i64 0]⟩,
 ⟨.struct [(0, 1, 3), (1, 1, 3)], 2, 16, [.int .i64 0, .int .i64 0]⟩,
 ⟨.struct [(0, 1, 3), (1, 1, 3)], 2, 16, [.int .i64 0, .int .i64 0]⟩,
 ⟨.struct [(0, 1, 3), (1, 1, 24), (2, 1, 3), (3, 6, 37), (9, 3, 39), (12, 5, 41), (17, 2, 43)], 19, 168, [.int .i64 0, .slice none 0 0, .int .i64 0, .int .i64 0, .int .i64 0, .int .i64 0, .int .i64 0, .int .i64 0, .int .i64 0, .int .i64 0, .int .i64 0, .bool false, .int .i64 0, .int .i64 0, .int .i64 0, .int .i64 0, .int .i64 0, .int .i64 0, .int .i64 0]⟩,
 ⟨.struct [(0, 1, 3), (1, 1, 24), (2, 1, 3), (3, 6, 37), (9, 3, 39), (12, 5, 41), (17, 2, 43)], 19, 168, [.int .i64 0, .slice none 0 0, .int .i64 0, .int .i64 0, .int .i64 0, .int .i64 0, .int .i64 0, .int .i64 0, .int .i64 0, .int .i64 0, .int .i64 0, .bool false, .int .i64 0, .int .i64 0, .int .i64 0, .int .i64 0, .int .i64 0, .int .i64 0, .int .i64 0]⟩,
 ⟨.slice 24, 1, 24, [.slice none 0 0]⟩,
 ⟨.struct [(0, 1, 4), (1, 1, 3), (2, 1, 3), (3, 1, 35), (4, 1, 46), (5, 1, 35), (6, 1, 35), (7, 1, 24)], 8, 144, [.bool false, .int .i64 0, .int .i64 0, .slice none 0 0, .slice none 0 0, .slice none 0 0, .slice none 0 0, .slice none 0 0]⟩],
 [⟨.struct [(0, 1, 4), (1, 1, 3), (2, 1, 3), (3, 1, 35), (4, 1, 46), (5, 1, 35), (6, 1, 35), (7, 1, 24)], 8, 144, [.bool false, .int .i64 0, .int .i64 0, .slice none 0 0, .slice none 0 0, .slice none 0 0, .slice none 0 0, .slice none 0 0]⟩,
 ⟨.slice 5, 1, 24, [.slice none 0 0]⟩,
 ⟨.struct [(0, 1, 3), (1, 1, 35), (2, 1, 35), (3, 1, 3), (4, 1, 3), (5, 19, 45), (24, 1, 3), (25, 8, 48), (33, 1, 49)], 34, 416, [.int .i64 0, .slice none 0 0, .slice none 0 0, .int .i64 0, .int .i64 0, .int .i64 0, .slice none 0 0, .int .i64 0, .int .i64 0, .int .i64 0, .int .i64 0, .int .i64 0, .int .i64 0, .int .i64 0, .int .i64 0, .int .i64 0, .bool false, .int .i64 0, .int .i64 0, .int .i64 0, .int .i64 0, .int .i64 0, .int .i64 0, .int .i64 0, .int .i64 0, .bool false, .int .i64 0, .int .i64 0, .slice none 0 0, .slice none 0 0, .slice none 0 0, .slice none 0 0, .slice none 0 0, .slice none 0 0]⟩,
 ⟨.struct [(0, 1, 3), (1, 1, 35), (2, 1, 35), (3, 1, 3), (4, 1, 3), (5, 19, 45), (24, 1, 3), (25, 8, 48), (33, 1, 49)], 34, 416, [.int .i64 0, .slice none 0 0, .slice none 0 0, .int .i64 0, .int .i64 0, .int .i64 0, .slice none 0 0, .int .i64 0, .int .i64 0, .int .i64 0, .int .i64 0, .int .i64 0, .int .i64 0, .int .i64 0, .int .i64 0, .int .i64 0, .bool false, .int .i64 0, .int .i64 0, .int .i64 0, .int .i64 0, .int .i64 0, .int .i64 0, .int .i64 0, .int .i64 0, .bool false, .int .i64 0, .int .i64 0, .slice none 0 0, .slice none 0 0, .slice none 0 0, .slice none 0 0, .slice none 0 0, .slice none 0 0]⟩,
 ⟨.func, 1, 8, [.nilFunc]⟩,
 ⟨.struct [(0, 1, 3), (1, 1, 3), (2, 1, 3), (3, 1, 3), (4, 1, 3), (5, 1, 3)], 6, 48, [.int .i64 0, .int .i64 0, .int .i64 0, .int .i64 0, .int .i64 0, .int .i64 0]⟩,
 ⟨.struct [(0, 1, 3), (1, 1, 3), (2, 1, 4)], 3, 24, [.int .i64 0, .int .i64 0, .bool false]⟩,
 ⟨.struct [(0, 1, 3), (1, 1, 3), (2, 1, 3), (3, 1, 3), (4, 1, 3)], 5, 40, [.int .i64 0, .int .i64 0, .int .i64 0, .int .i64 0, .int .i64 0]⟩,
 ⟨.struct [(0, 1, 3), (1, 1, 3)], 2, 16, [.int .i64 0, .int .i64 0]⟩,
 ⟨.struct [(0, 1, 3), (1, 1, 24), (2, 1, 3), (3, 6, 53), (9, 3, 54), (12, 5, 55), (17, 2, 56)], 19, 168, [.int .i64 0, .slice none 0 0, .int .i64 0, .int .i64 0, .int .i64 0, .int .i64 0, .int .i64 0, .int .i64 0, .int .i64 0, .int .i64 0, .int .i64 0, .bool false, .int .i64 0, .int .i64 0, .int .i64 0, .int .i64 0, .int .i64 0, .int .i64 0, .int .i64 0]⟩,
 ⟨.struct [(0, 1, 3), (1, 1, 24), (2, 1, 3), (3, 6, 53), (9, 3, 54), (12, 5, 55), (17, 2, 56)], 19, 168, [.int .i64 0, .slice none 0 0, .int .i64 0, .int .i64 0, .int .i64 0, .int .i64 0, .int .i64 0, .int .i64 0, .int .i64 0, .int .i64 0, .int .i64 0, .bool false, .int .i64 0, .int .i64 0, .int .i64 0, .int .i64 0, .int .i64 0, .int .i64 0, .int .i64 0]⟩,
 ⟨.struct [(0, 1, 4), (1, 1, 3), (2, 1, 3), (3, 1, 35), (4, 1, 46), (5, 1, 35), (6, 1, 35), (7, 1, 24)], 8, 144, [.bool false, .int .i64 0, .int .i64 0, .slice none 0 0, .slice none 0 0, .slice none 0 0, .slice none 0 0, .slice none 0 0]⟩,
 ⟨.struct [(0, 1, 3), (1, 1, 35), (2, 1, 35), (3, 1, 3), (4, 1, 3), (5, 19, 58), (24, 1, 3), (25, 8, 59), (33, 1, 49)], 34, 416, [.int .i64 0, .slice none 0 0, .slice none 0 0, .int .i64 0, .int .i64 0, .int .i64 0, .slice none 0 0, .int .i64 0, .int .i64 0, .int .i64 0, .int .i64 0, .int .i64 0, .int .i64 0, .int .i64 0, .int .i64 0, .int .i64 0, .bool false, .int .i64 0, .int .i64 0, .int .i64 0, .int .i64 0, .int .i64 0, .int .i64 0, .int .i64 0, .int .i64 0, .bool false, .int .i64 0, .int .i64 0, .slice none 0 0, .slice none 0 0, .slice none 0 0, .slice none 0 0, .slice none 0 0, .slice none 0 0]⟩,
 ⟨.struct [(0, 1, 3), (1, 1, 35), (2, 1, 35), (3, 1, 3), (4, 1, 3), (5, 19, 58), (24, 1, 3), (25, 8, 59), (33, 1, 49)], 34, 416, [.int .i64 0, .slice none 0 0, .slice none 0 0, .int .i64 0, .int .i64 0, .int .i64 0, .slice none 0 0, .int .i64 0, .int .i64 0, .int .i64 0, .int .i64 0, .int .i64 0, .int .i64 0, .int .i64 0, .int .i64 0, .int .i64 0, .bool false, .int .i64 0, .int .i64 0, .int .i64 0, .int .i64 0, .int .i64 0, .int .i64 0, .int .i64 0, .int .i64 0, .bool false, .int .i64 0, .int .i64 0, .slice none 0 0, .slice none 0 0, .slice none 0 0, .slice none 0 0, .slice none 0 0, .slice none 0 0]⟩,
 ⟨.func, 1, 8, [.nilFunc]⟩,
 ⟨.func, 1, 8, [.nilFunc]⟩],
 [⟨.func, 1, 8, [.nilFunc]⟩,
 ⟨.func, 1, 8, [.nilFunc]⟩,
 ⟨.func, 1, 8, [.nilFunc]⟩,
 ⟨.func, 1, 8, [.nilFunc]⟩,
 ⟨.func, 1, 8, [.nilFunc]⟩,
 ⟨.func, 1, 8, [.nilFunc]⟩,
 ⟨.func, 1, 8, [.nilFunc]⟩,
 ⟨.func, 1, 8, [.nilFunc]⟩,
 ⟨.func, 1, 8, [.nilFunc]⟩,
 ⟨.func, 1, 8, [.nilFunc]⟩,
 ⟨.func, 1, 8, [.nilFunc]⟩,
 ⟨.array 15 4, 15, 15, [.bool false, .bool false, .bool false, .bool false, .bool false, .bool false, .bool false, .bool false, .bool false, .bool false, .bool false, .bool false, .bool false, .bool false, .bool false]⟩,
 ⟨.func, 1, 8, [.nilFunc]⟩,
 ⟨.func, 1, 8, [.nilFunc]⟩,
 ⟨.func, 1, 8, [.nilFunc]⟩,
 ⟨.func, 1, 8, [.nilFunc]⟩],
 [⟨.func, 1, 8, [.nilFunc]⟩,
 ⟨.func, 1, 8, [.nilFunc]⟩,
 ⟨.func, 1, 8, [.nilFunc]⟩,
 ⟨.func, 1, 8, [.nilFunc]⟩,
 ⟨.func, 1, 8, [.nilFunc]⟩,
 ⟨.func, 1, 8, [.nilFunc]⟩,
 ⟨.func, 1, 8, [.nilFunc]⟩,
 ⟨.func, 1, 8, [.nilFunc]⟩,
 ⟨.func, 1, 8, [.nilFunc]⟩,
 ⟨.func, 1, 8, [.nilFunc]⟩,
 ⟨.func, 1, 8, [.nilFunc]⟩,
 ⟨.func, 1, 8, [.nilFunc]⟩,
 ⟨.func, 1, 8, [.nilFunc]⟩,
 ⟨.func, 1, 8, [.nilFunc]⟩,
 ⟨.func, 1, 8, [.nilFunc]⟩,
 ⟨.func, 1, 8, [.nilFunc]⟩],
 [⟨.func, 1, 8, [.nilFunc]⟩,
 ⟨.func, 1, 8, [.nilFunc]⟩,
 ⟨.func, 1, 8, [.nilFunc]⟩,
 ⟨.func, 1, 8, [.nilFunc]⟩,
 ⟨.func, 1, 8, [.nilFunc]⟩,
 ⟨.func, 1, 8, [.nilFunc]⟩,
 ⟨.func, 1, 8, [.nilFunc]⟩,
 ⟨.func, 1, 8, [.nilFunc]⟩,
 ⟨.func, 1, 8, [.nilFunc]⟩,
 ⟨.func, 1, 8, [.nilFunc]⟩,
 ⟨.func, 1, 8, [.nilFunc]⟩,
 ⟨.func, 1, 8, [.nilFunc]⟩,
 ⟨.func, 1, 8, [.nilFunc]⟩,
 ⟨.func, 1, 8, [.nilFunc]⟩,
 ⟨.func, 1, 8, [.nilFunc]⟩,
 ⟨.func, 1, 8, [.nilFunc]⟩],
 [⟨.func, 1, 8, [.nilFunc]⟩,
 ⟨.func, 1, 8, [.nilFunc]⟩,
 ⟨.func, 1, 8, [.nilFunc]⟩,
 ⟨.func, 1, 8, [.nilFunc]⟩,
 ⟨.func, 1, 8, [.nilFunc]⟩,
 ⟨.func, 1, 8, [.nilFunc]⟩,
 ⟨.func, 1, 8, [.nilFunc]⟩,
 ⟨.func, 1, 8, [.nilFunc]⟩,
 ⟨.int .u64, 1, 8, [.int .u64 0]⟩,
 ⟨.func, 1, 8, [.nilFunc]⟩,
 ⟨.func, 1, 8, [.nilFunc]⟩,
 ⟨.func, 1, 8, [.nilFunc]⟩,
 ⟨.other, 0, 0, []⟩,
 ⟨.func, 1, 8, [.nilFunc]⟩,
 ⟨.func, 1, 8, [.nilFunc]⟩,
 ⟨.func, 1, 8, [.nilFunc]⟩],
 [⟨.func, 1, 8, [.nilFunc]⟩,
 ⟨.func, 1, 8, [.nilFunc]⟩,
 ⟨.func, 1, 8, [.nilFunc]⟩,
 ⟨.func, 1, 8, [.nilFunc]⟩,
 ⟨.func, 1, 8, [.nilFunc]⟩,
 ⟨.func, 1, 8, [.nilFunc]⟩,
 ⟨.func, 1, 8, [.nilFunc]⟩,
 ⟨.func, 1, 8, [.nilFunc]⟩,
 ⟨.func, 1, 8, [.nilFunc]⟩,
 ⟨.func, 1, 8, [.nilFunc]⟩,
 ⟨.func, 1, 8, [.nilFunc]⟩,
 ⟨.int .u32, 1, 4, [.int .u32 0]⟩,
 ⟨.func, 1, 8, [.nilFunc]⟩,
 ⟨.int .u64, 1, 8, [.int .u64 0]⟩,
 ⟨.func, 1, 8, [.nilFunc]⟩,
 ⟨.func, 1, 8, [.nilFunc]⟩],
 [⟨.func, 1, 8, [.nilFunc]⟩,
 ⟨.func, 1, 8, [.nilFunc]⟩,
 ⟨.func, 1, 8, [.nilFunc]⟩,
 ⟨.func, 1, 8, [.nilFunc]⟩,
 ⟨.func, 1, 8, [.nilFunc]⟩,
 ⟨.func, 1, 8, [.nilFunc]⟩,
 ⟨.func, 1, 8, [.nilFunc]⟩,
 ⟨.func, 1, 8, [.nilFunc]⟩,
 ⟨.func, 1, 8, [.nilFunc]⟩,
 ⟨.array 256 4, 256, 256, repV 256 (.bool false)⟩,
 ⟨.array 256 4, 256, 256, repV 256 (.bool false)⟩,
 ⟨.other, 0, 0, []⟩,
 ⟨.func, 1, 8, [.nilFunc]⟩,
 ⟨.func, 1, 8, [.nilFunc]⟩,
 ⟨.pointer 154, 1, 8, [.pointer none]⟩,
 ⟨.func, 1, 8, [.nilFunc]⟩],
 [⟨.other, 0, 0, []⟩,
 ⟨.func, 1, 8, [.nilFunc]⟩,
 ⟨.func, 1, 8, [.nilFunc]⟩,
 ⟨.func, 1, 8, [.nilFunc]⟩,
 ⟨.func, 1, 8, [.nilFunc]⟩,
 ⟨.func, 1, 8, [.nilFunc]⟩,
 ⟨.func, 1, 8, [.nilFunc]⟩,
 ⟨.func, 1, 8, [.nilFunc]⟩,
 ⟨.func, 1, 8, [.nilFunc]⟩,
 ⟨.func, 1, 8, [.nilFunc]⟩,
 ⟨.func, 1, 8, [.nilFunc]⟩,
 ⟨.other, 0, 0, []⟩,
 ⟨.func, 1, 8, [.nilFunc]⟩,
 ⟨.func, 1, 8, [.nilFunc]⟩,
 ⟨.func, 1, 8, [.nilFunc]⟩,
 ⟨.func, 1, 8, [.nilFunc]⟩],
 [⟨.slice 178, 1, 24, [.slice none 0 0]⟩,
 ⟨.struct [(0, 1, 3), (1, 1, 3)], 2, 16, [.int .i64 0, .int .i64 0]⟩,
 ⟨.struct [(0, 1, 3), (1, 1, 3)], 2, 16, [.int .i64 0, .int .i64 0]⟩,
 ⟨.pointer 181, 1, 8, [.pointer none]⟩,
 ⟨.struct [(0, 1, 179), (1, 1, 49)], 2, 32, [.pointer none, .slice none 0 0]⟩,
 ⟨.struct [(0, 1, 179), (1, 1, 49)], 2, 32, [.pointer none, .slice none 0 0]⟩,
 ⟨.func, 1, 8, [.nilFunc]⟩,
 ⟨.other, 0, 0, []⟩,
 ⟨.other, 0, 0, []⟩,
 ⟨.other, 0, 0, []⟩,
 ⟨.func, 1, 8, [.nilFunc]⟩,
 ⟨.func, 1, 8, [.nilFunc]⟩,
 ⟨.func, 1, 8, [.nilFunc]⟩,
 ⟨.other, 0, 0, []⟩,
 ⟨.func, 1, 8, [.nilFunc]⟩,
 ⟨.pointer 5, 1, 8, [.pointer none]⟩],
 [⟨.func, 1, 8, [.nilFunc]⟩,
 ⟨.array 256 5, 256, 256, repV 256 (.int .u8 0)⟩,
 ⟨.struct [(0, 1, 5), (1, 1, 5)], 2, 2, [.int .u8 0, .int .u8 0]⟩,
 ⟨.struct [(0, 1, 5), (1, 1, 5)], 2, 2, [.int .u8 0, .int .u8 0]⟩,
 ⟨.array 16 195, 32, 32, [.int .u8 0, .int .u8 0, .int .u8 0, .int .u8 0, .int .u8 0, .int .u8 0, .int .u8 0, .int .u8 0, .int .u8 0, .int .u8 0, .int .u8 0, .int .u8 0, .int .u8 0, .int .u8 0, .int .u8 0, .int .u8 0, .int .u8 0, .int .u8 0, .int .u8 0, .int .u8 0, .int .u8 0, .int .u8 0, .int .u8 0, .int .u8 0, .int .u8 0, .int .u8 0, .int .u8 0, .int .u8 0, .int .u8 0, .int .u8 0, .int .u8 0, .int .u8 0]⟩,
 ⟨.other, 0, 0, []⟩,
 ⟨.func, 1, 8, [.nilFunc]⟩,
 ⟨.func, 1, 8, [.nilFunc]⟩,
 ⟨.struct [(0, 1, 17), (1, 1, 17), (2, 1, 17), (3, 1, 9)], 4, 40, [.pointer none, .pointer none, .pointer none, .string ⟨#[]⟩]⟩,
 ⟨.struct [(0, 1, 17), (1, 1, 17), (2, 1, 17), (3, 1, 9)], 4, 40, [.pointer none, .pointer none, .pointer none, .string ⟨#[]⟩]⟩,
 ⟨.other, 0, 0, []⟩,
 ⟨.other, 0, 0, []⟩,
 ⟨.other, 0, 0, []⟩,
 ⟨.func, 1, 8, [.nilFunc]⟩,
 ⟨.int .u8, 1, 1, [.int .u8 0]⟩,
 ⟨.int .u8, 1, 1, [.int .u8 0]⟩],
 [⟨.func, 1, 8, [.nilFunc]⟩,
 ⟨.int .i32, 1, 4, [.int .i32 0]⟩,
 ⟨.int .i32, 1, 4, [.int .i32 0]⟩,
 ⟨.struct [(0, 1, 12), (1, 1, 12), (2, 1, 139), (3, 1, 206), (4, 1, 5), (5, 1, 5), (6, 1, 207), (7, 1, 208), (8, 1, 191), (9, 1, 209), (10, 1, 210)], 11, 48, [.int .u64 0, .int .u64 0, .int .u32 0, .int .u8 0, .int .u8 0, .int .u8 0, .int .u8 0, .nilFunc, .pointer none, .int .i32 0, .int .i32 0]⟩,
 ⟨.struct [(0, 1, 12), (1, 1, 12), (2, 1, 139), (3, 1, 206), (4, 1, 5), (5, 1, 5), (6, 1, 207), (7, 1, 208), (8, 1, 191), (9, 1, 209), (10, 1, 210)], 11, 48, [.int .u64 0, .int .u64 0, .int .u32 0, .int .u8 0, .int .u8 0, .int .u8 0, .int .u8 0, .nilFunc, .pointer none, .int .i32 0, .int .i32 0]⟩,
 ⟨.other, 0, 0, []⟩,
 ⟨.other, 0, 0, []⟩,
 ⟨.other, 0, 0, []⟩,
 ⟨.other, 0, 0, []⟩,
 ⟨.other, 0, 0, []⟩,
 ⟨.other, 0, 0, []⟩,
 ⟨.other, 0, 0, []⟩,
 ⟨.other, 0, 0, []⟩,
 ⟨.other, 0, 0, []⟩,
 ⟨.other, 0, 0, []⟩,
 ⟨.other, 0, 0, []⟩]]
theorem tabOk : TabOk Tryz.prog tab := tabOk_of (by kernel_rfl)
theorem row3 : tab.row 3 = ⟨.int .i64, 1, 8, [.int .i64 0]⟩ := Eq.trans rfl rfl
theorem row4 : tab.row 4 = ⟨.bool, 1, 1, [.bool false]⟩ := Eq.trans rfl rfl
theorem row5 : tab.row 5 = ⟨.int .u8, 1, 1, [.int .u8 0]⟩ := Eq.trans rfl rfl
theorem row9 : tab.row 9 = ⟨.string, 1, 16, [.string ⟨#[]⟩]⟩ := Eq.trans rfl rfl
theorem row22 : tab.row 22 = ⟨.slice 51, 1, 24, [.slice none 0 0]⟩ := Eq.trans rfl rfl
theorem row24 : tab.row 24 = ⟨.slice 3, 1, 24, [.slice none 0 0]⟩ := Eq.trans rfl rfl
theorem row27 : tab.row 27 = ⟨.slice 61, 1, 24, [.slice none 0 0]⟩ := Eq.trans rfl rfl
theorem row35 : tab.row 35 = ⟨.slice 9, 1, 24, [.slice none 0 0]⟩ := Eq.trans rfl rfl
theorem row37 : tab.row 37 = ⟨.struct [(0, 1, 3), (1, 1, 3), (2, 1, 3), (3, 1, 3), (4, 1, 3), (5, 1, 3)], 6, 48, [.int .i64 0, .int .i64 0, .int .i64 0, .int .i64 0, .int .i64 0, .int .i64 0]⟩ := Eq.trans rfl rfl
theorem row39 : tab.row 39 = ⟨.struct [(0, 1, 3), (1, 1, 3), (2, 1, 4)], 3, 24, [.int .i64 0, .int .i64 0, .bool false]⟩ := Eq.trans rfl rfl
theorem row41 : tab.row 41 = ⟨.struct [(0, 1, 3), (1, 1, 3), (2, 1, 3), (3, 1, 3), (4, 1, 3)], 5, 40, [.int .i64 0, .int .i64 0, .int .i64 0, .int .i64 0, .int .i64 0]⟩ := Eq.trans rfl rfl
theorem row43 : tab.row 43 = ⟨.struct [(0, 1, 3), (1, 1, 3)], 2, 16, [.int .i64 0, .int .i64 0]⟩ := Eq.trans rfl rfl
theorem row45 : tab.row 45 = ⟨.struct [(0, 1, 3), (1, 1, 24), (2, 1, 3), (3, 6, 37), (9, 3, 39), (12, 5, 41), (17, 2, 43)], 19, 168, [.int .i64 0, .slice none 0 0, .int .i64 0, .int .i64 0, .int .i64 0, .int .i64 0, .int .i64 0, .int .i64 0, .int .i64 0, .int .i64 0, .int .i64 0, .bool false, .int .i64 0, .int .i64 0, .int .i64 0, .int .i64 0, .int .i64 0, .int .i64 0, .int .i64 0]⟩ := Eq.trans rfl rfl
theorem row46 : tab.row 46 = ⟨.slice 24, 1, 24, [.slice none 0 0]⟩ := Eq.trans rfl rfl
theorem row48 : tab.row 48 = ⟨.struct [(0, 1, 4), (1, 1, 3), (2, 1, 3), (3, 1, 35), (4, 1, 46), (5, 1, 35), (6, 1, 35), (7, 1, 24)], 8, 144, [.bool false, .int .i64 0, .int .i64 0, .slice none 0 0, .slice none 0 0, .slice none 0 0, .slice none 0 0, .slice none 0 0]⟩ := Eq.trans rfl rfl
theorem row49 : tab.row 49 = ⟨.slice 5, 1, 24, [.slice none 0 0]⟩ := Eq.trans rfl rfl
theorem row51 : tab.row 51 = ⟨.struct [(0, 1, 3), (1, 1, 35), (2, 1, 35), (3, 1, 3), (4, 1, 3), (5, 19, 45), (24, 1, 3), (25, 8, 48), (33, 1, 49)], 34, 416, [.int .i64 0, .slice none 0 0, .slice none 0 0, .int .i64 0, .int .i64 0, .int .i64 0, .slice none 0 0, .int .i64 0, .int .i64 0, .int .i64 0, .int .i64 0, .int .i64 0, .int .i64 0, .int .i64 0, .int .i64 0, .int .i64 0, .bool false, .int .i64 0, .int .i64 0, .int .i64 0, .int .i64 0, .int .i64 0, .int .i64 0, .int .i64 0, .int .i64 0, .bool false, .int .i64 0, .int .i64 0, .slice none 0 0, .slice none 0 0, .slice none 0 0, .slice none 0 0, .slice none 0 0, .slice none 0 0]⟩ := Eq.trans rfl rfl
theorem row53 : tab.row 53 = ⟨.struct [(0, 1, 3), (1, 1, 3), (2, 1, 3), (3, 1, 3), (4, 1, 3), (5, 1, 3)], 6, 48, [.int .i64 0, .int .i64 0, .int .i64 0, .int .i64 0, .int .i64 0, .int .i64 0]⟩ := Eq.trans rfl rfl
theorem row54 : tab.row 54 = ⟨.struct [(0, 1, 3), (1, 1, 3), (2, 1, 4)], 3, 24, [.int .i64 0, .int .i64 0, .bool false]⟩ := Eq.trans rfl rfl
theorem row55 : tab.row 55 = ⟨.struct [(0, 1, 3), (1, 1, 3), (2, 1, 3), (3, 1, 3), (4, 1, 3)], 5, 40, [.int .i64 0, .int .i64 0, .int .i64 0, .int .i64 0, .int .i64 0]⟩ := Eq.trans rfl rfl
theorem row56 : tab.row 56 = ⟨.struct [(0, 1, 3), (1, 1, 3)], 2, 16, [.int .i64 0, .int .i64 0]⟩ := Eq.trans rfl rfl
theorem row58 : tab.row 58 = ⟨.struct [(0, 1, 3), (1, 1, 24), (2, 1, 3), (3, 6, 53), (9, 3, 54), (12, 5, 55), (17, 2, 56)], 19, 168, [.int .i64 0, .slice none 0 0, .int .i64 0, .int .i64 0, .int .i64 0, .int .i64 0, .int .i64 0, .int .i64 0, .int .i64 0, .int .i64 0, .int .i64 0, .bool false, .int .i64 0, .int .i64 0, .int .i64 0, .int .i64 0, .int .i64 0, .int .i64 0, .int .i64 0]⟩ := Eq.trans rfl rfl
theorem row59 : tab.row 59 = ⟨.struct [(0, 1, 4), (1, 1, 3), (2, 1, 3), (3, 1, 35), (4, 1, 46), (5, 1, 35), (6, 1, 35), (7, 1, 24)], 8, 144, [.bool false, .int .i64 0, .int .i64 0, .slice none 0 0, .slice none 0 0, .slice none 0 0, .slice none 0 0, .slice none 0 0]⟩ := Eq.trans rfl rfl
theorem row61 : tab.row 61 = ⟨.struct [(0, 1, 3), (1, 1, 35), (2, 1, 35), (3, 1, 3), (4, 1, 3), (5, 19, 58), (24, 1, 3), (25, 8, 59), (33, 1, 49)], 34, 416, [.int .i64 0, .slice none 0 0, .slice none 0 0, .int .i64 0, .int .i64 0, .int .i64 0, .slice none 0 0, .int .i64 0, .int .i64 0, .int .i64 0, .int .i64 0, .int .i64 0, .int .i64 0, .int .i64 0, .int .i64 0, .int .i64 0, .bool false, .int .i64 0, .int .i64 0, .int .i64 0, .int .i64 0, .int .i64 0, .int .i64 0, .int .i64 0, .int .i64 0, .bool false, .int .i64 0, .int .i64 0, .slice none 0 0, .slice none 0 0, .slice none 0 0, .slice none 0 0, .slice none 0 0, .slice none 0 0]⟩ := Eq.trans rfl rfl
theorem row75 : tab.row 75 = ⟨.array 15 4, 15, 15, [.bool false, .bool false, .bool false, .bool false, .bool false, .bool false, .bool false, .bool false, .bool false, .bool false, .bool false, .bool false, .bool false, .bool false, .bool false]⟩ := Eq.trans rfl rfl
theorem row120 : tab.row 120 = ⟨.int .u64, 1, 8, [.int .u64 0]⟩ := Eq.trans rfl rfl
theorem row154 : tab.row 154 = ⟨.array 256 4, 256, 256, repV 256 (.bool false)⟩ := Eq.trans rfl rfl
attribute [go_sem] row3 row4 row5 row9 row22 row24 row27 row35 row37 row39 row41 row43 row45 row46 row48 row49 row51 row53 row54 row55 row56 row58 row59 row61 row75 row120 row154
end Go.Proofs.W

namespace Go.Proofs.W
open Go Go.AM
set_option maxRecDepth 10000
variable (hm : Tryz.prog.follows .mixedOrders = true)
def inB (n a b : Int) : Bool := decide (a ≤ n) && decide (n ≤ b)
include hm in
theorem l1In (n a b : Int) : Holds Tryz.prog 40 [.v (.int .i64 n), .v (.int .i64 a), .v (.int .i64 b)] [] (.v (.bool (inB n a b))) [] := by
 refine holds_of (ann := []) tabOk hm Tryz.func40 (by kernel_rfl) rfl ?_
 simp +decide only [Tryz.f40, go_sem]
 refine Runs.split (fun h => ?_) (fun h => ?_)
 ·simp only [decide_eq_true_eq] at h
  have e : inB n a b = decide (n ≤ b) := by simp [inB]; omega
  simp +decide only [e, go_sem]
  exact Runs.ret_v
 ·simp only [decide_eq_false_iff_not] at h
  have e : inB n a b = false := by simp [inB]; omega
  simp +decide only [e, go_sem]
  exact Runs.ret_v
include hm in
theorem within (n a b : Int) : Holds Tryz.prog 60 [.v (.int .i64 n), .v (.int .i64 a), .v (.int .i64 b)] [] (.v (.bool (inB n a b))) [] := by
 refine holds_of (ann := []) tabOk hm Tryz.func60 (by kernel_rfl) rfl ?_
 simp +decide only [Tryz.f60, go_sem]
 refine Runs.split (fun h => ?_) (fun h => ?_)
 ·simp only [decide_eq_true_eq] at h
  have e : inB n a b = decide (n ≤ b) := by simp [inB]; omega
  simp +decide only [e, go_sem]
  exact Runs.ret_v
 ·simp only [decide_eq_false_iff_not] at h
  have e : inB n a b = false := by simp [inB]; omega
  simp +decide only [e, go_sem]
  exact Runs.ret_v
include hm in
theorem l9Ok (n : Int) : Holds Tryz.prog 42 [.v (.int .i64 n)] [] (.v (.bool (inB n (-631152000) 4102444799))) [] := by
 refine holds_of (ann := []) tabOk hm Tryz.func42 (by kernel_rfl) rfl ?_
 simp +decide only [Tryz.f42, go_sem]
 refine Runs.call (l1In hm n (-631152000) 4102444799) ?_
 simp +decide only [go_sem]
 exact Runs.ret_v
include hm in
theorem isTime (n : Int) : Holds Tryz.prog 62 [.v (.int .i64 n)] [] (.v (.bool (inB n (-631152000) 4102444799))) [] := by
 refine holds_of (ann := []) tabOk hm Tryz.func62 (by kernel_rfl) rfl ?_
 simp +decide only [Tryz.f62, go_sem]
 refine Runs.call (within hm n (-631152000) 4102444799) ?_
 simp +decide only [go_sem]
 exact Runs.ret_v
def ann26 : Ann := [(0, [1, 2, 9, 10, 11])]
def st26 (L : List Int) (lo hi : Int) (i : Nat) : St := ⟨[.any, .v (.int .i64 lo), .v (.int .i64 hi), .any, .any, .any, .any, .any, .any, .sl .sh (L.map intA), .v (.int .i64 L.length), .v (.int .i64 i), .any, .any, .any, .any, .any, .any, .any, .any, .any], [], []⟩
include hm in
theorem allWithin (L : List Int) (lo hi : Int) (h3 : L.length ≤ 9223372036854775807) :
  Holds Tryz.prog 135 [.sl .sh (L.map intA), .v (.int .i64 lo), .v (.int .i64 hi)] [] (.v (.bool (L.all fun n => inB n lo hi))) [] := by
 refine holds_of (ann := ann26) tabOk hm Tryz.func135 (by kernel_rfl) rfl ?_
 simp +decide only [Tryz.f135, go_sem]
 refine Runs.while (α := Nat) (st26 L lo hi) (fun i => L.length - i) (fun i => i ≤ L.length ∧ ((L.drop i).all fun n => inB n lo hi) = L.all fun n => inB n lo hi) 0 ⟨by omega, by simp⟩ ?_ ?_
 ·simp [go_sem, ann26, st26]
 ·rintro i ⟨hi1, hr⟩ ih
  simp +decide only [st26, go_sem]
  refine Runs.split (fun h => ?_) (fun h => ?_)
  ·have hlt : i < L.length := by simpa using h
   rw [List.drop_eq_getElem_cons hlt, List.all_cons] at hr
   simp +decide (disch := first | omega | (simp only [ll]; omega)) only [if_pos, go_sem]
   refine Runs.call (within hm L[i] lo hi) ?_
   simp +decide only [go_sem]
   refine Runs.split (fun h => ?_) (fun h => ?_)
   ·simp only [Bool.not_eq_true'] at h
    rw [h] at hr
    simp +decide only [← hr, go_sem]
    exact Runs.ret_v
   ·simp only [Bool.not_eq_false'] at h
    rw [h, Bool.true_and] at hr
    simp +decide (disch := first | omega | (simp only [ll]; omega)) only [if_pos, go_sem]
    refine ih (i + 1) _ (by omega) ⟨hlt, hr⟩ ?_
    simp [go_sem, ann26, st26]
  ·have hge : i = L.length := by simp at h; omega
   subst hge
   rw [List.drop_length, List.all_nil] at hr
   simp +decide only [← hr, go_sem]
   exact Runs.ret_v
end Go.Proofs.W

namespace Go.Proofs.W
open Go Go.AM
def mkS (l : List UInt8) : ByteArray := ⟨l.toArray⟩
theorem mkS_list (s : ByteArray) : mkS s.data.toList = s := by cases s; simp [mkS]
theorem mkS_size (l : List UInt8) : (mkS l).size = l.length := by simp [mkS, ByteArray.size]
theorem mkS_data (l : List UInt8) : (mkS l).data.toList = l := by simp [mkS]
theorem list_size (s : ByteArray) : s.data.toList.length = s.size := by rw [Array.length_toList]; rfl
theorem ext_list (s : ByteArray) (a b : Nat) : (s.extract a b).data.toList = (s.data.toList.drop a).take (b - a) := by
 rw [ByteArray.data_extract]; simp [List.extract_eq_take_drop]
theorem getD_lt {l : List UInt8} {i : Nat} (h : i < l.length) : l.getD i 0 = l[i] := by rw [List.getD, List.getElem?_eq_getElem h]; rfl
theorem mkS_ext (s : ByteArray) (a b : Nat) : s.extract a b = mkS ((s.data.toList.drop a).take (b - a)) := by
 rw [← ext_list, mkS_list]
def partsL (c : UInt8) : List UInt8 → List (List UInt8)
 | [] => [[]]
 | b :: l => if b = c then [] :: partsL c l else match partsL c l with
  | [] => [[b]]
  | p :: r => (b :: p) :: r
theorem partsL_cut (c : UInt8) : ∀ (p r : List UInt8), (∀ b ∈ p, b ≠ c) → partsL c (p ++ c :: r) = p :: partsL c r
 | [], r, _ => by simp [partsL]
 | b :: p, r, h => by
  rw [List.cons_append, partsL, if_neg (h b (by simp)), partsL_cut c p r fun x hx => h x (by simp [hx])]
theorem partsL_no (c : UInt8) : ∀ (p : List UInt8), (∀ b ∈ p, b ≠ c) → partsL c p = [p]
 | [], _ => by simp [partsL]
 | b :: p, h => by
  rw [partsL, if_neg (h b (by simp)), partsL_no c p fun x hx => h x (by simp [hx])]
theorem partsL_len (c : UInt8) : ∀ l : List UInt8, (partsL c l).length = l.count c + 1
 | [] => by simp [partsL]
 | b :: l => by
  have ih := partsL_len c l
  unfold partsL
  split
  ·rename_i h; subst h; simp [ih]
  ·rename_i h
   rw [List.count_cons_of_ne (by simpa using h)]
   split
   ·rename_i e; rw [e] at ih; simp at ih
   ·rename_i p r e; rw [e] at ih; simpa using ih
theorem partsL_sum (c : UInt8) : ∀ (l : List UInt8), ∀ p ∈ partsL c l, p.length ≤ l.length
 | [], p, h => by simp [partsL] at h; simp [h]
 | b :: l, p, h => by
  have ih := partsL_sum c l
  unfold partsL at h
  split at h
  ·rcases List.mem_cons.mp h with h | h
   ·simp [h]
   ·have := ih p h; simp; omega
  ·split at h
   ·simp at h; simp [h]
   ·rename_i q r e
    rw [e] at ih
    rcases List.mem_cons.mp h with h | h
    ·have := ih q (by simp); simp [h]; omega
    ·have := ih p (by simp [h]); simp; omega
theorem idx_none {c : UInt8} {l : List UInt8} (h : Lib.indexByte l c = -1) : ∀ b ∈ l, b ≠ c := by
 intro b hb e
 obtain ⟨i, hi, e2⟩ := List.getElem_of_mem hb
 exact Lib.indexByte_none h i (by rw [List.getElem?_eq_getElem hi, e2, e])
theorem idx_some {c : UInt8} {l : List UInt8} {m : Nat} (h : Lib.indexByte l c = m) : ∃ p r, l = p ++ c :: r ∧ p.length = m ∧ ∀ b ∈ p, b ≠ c := by
 obtain ⟨h1, h2⟩ := Lib.indexByte_some h
 obtain ⟨hm, e⟩ := List.getElem?_eq_some_iff.mp h1
 refine ⟨l.take m, l.drop (m + 1), ?_, by simp; omega, ?_⟩
 ·rw [← e, ← List.drop_eq_getElem_cons hm, List.take_append_drop]
 ·intro b hb e2
  obtain ⟨i, hi, e3⟩ := List.getElem_of_mem hb
  simp at hi
  rw [List.getElem_take] at e3
  exact h2 i (by omega) (by rw [List.getElem?_eq_getElem (by omega), e3, e2])
theorem count_none {c : UInt8} {l : List UInt8} (h : l.count c = 0) : ∀ b ∈ l, b ≠ c := by
 intro b hb e
 subst e
 exact absurd (List.count_pos_iff.mpr hb) (by omega)
theorem count_cut {c : UInt8} {p r : List UInt8} (h : ∀ b ∈ p, b ≠ c) : (p ++ c :: r).count c = r.count c + 1 := by
 rw [List.count_append, List.count_cons_self, List.count_eq_zero.mpr fun hc => h c hc rfl]; omega
def partsB (s : ByteArray) : List ByteArray := (partsL 46 s.data.toList).map mkS
theorem partsB_len (s : ByteArray) : (partsB s).length = s.data.toList.count 46 + 1 := by simp [partsB, partsL_len]
theorem partsB_le (s : ByteArray) : (partsB s).length ≤ s.size + 1 := by
 rw [partsB_len, ← list_size]
 have := List.count_le_length (a := (46 : UInt8)) (l := s.data.toList)
 omega
theorem partsB_sz (s : ByteArray) : ∀ p ∈ partsB s, p.size ≤ s.size := by
 intro p hp
 obtain ⟨q, hq, rfl⟩ := List.mem_map.mp hp
 rw [mkS_size, ← list_size]
 exact partsL_sum 46 _ q hq
def digC (b : UInt8) : Bool := inB b.toNat 48 57
def dashC (b : UInt8) : Bool := decide ((b.toNat : Int) = 45)
def okC (b : UInt8) : Bool := inB b.toNat 97 122 || digC b || dashC b
def labelB (s : ByteArray) : Bool := s.data.toList.all okC && inB s.size 1 20 && !dashC (s.data.toList.getD 0 0) && !dashC (s.data.toList.getD (s.size - 1) 0)
def digitsB (s : ByteArray) : Bool := s.data.toList.all digC && decide ((s.size : Int) > 0)
def lastB (L : List ByteArray) : ByteArray := L.getD (L.length - 1) ⟨#[]⟩
def hostB (s : ByteArray) : Bool := decide (s.size ≤ 80) && (partsB s).all labelB && decide ((partsB s).length ≤ 8) && !(lastB (partsB s)).data.toList.all digC
def dotC (b : UInt8) : Bool := decide ((b.toNat : Int) = 46)
def underB (b h : ByteArray) : Bool := hostB b && hostB h && ((b.toList == h.toList) || (decide ((h.size : Int) - b.size > 0) && ((h.extract (h.size - b.size) h.size).toList == b.toList) && dotC (h.data.toList.getD (h.size - b.size - 1) 0)))
def allowedB (al de : List ByteArray) (h : ByteArray) : Bool := hostB h && (decide (al.length = 0) || al.any fun b => underB b h) && !(de.any fun b => underB b h)
end Go.Proofs.W

namespace Go.Proofs.W
open Go Go.AM
variable (hm : Tryz.prog.follows .mixedOrders = true)
theorem repL_vs {C : Ctx} {w : World} : ∀ {vs xs : List Value} {f}, RepL C w (vs.map A.v) xs f → xs = vs ∧ ∀ b, f b = 0
 | [], _, _, h => by cases h with | nil h => exact ⟨rfl, h⟩
 | v :: vs, _, _, h => by
  rw [List.map_cons] at h
  cases h with | v h => have := repL_vs h; exact ⟨by rw [this.1], this.2⟩
theorem holds_same {P : Program} {f : Nat} {vs : List Value} {r : Value} (hf : ∃ fn c, P.funcs[f]? = some fn ∧ (fn.name == "runtime.NumGoroutine") = false ∧ fn.body = some c)
  (h : ∀ w, Calls P f vs.toArray w fun e w' => e = .returned r ∧ w' = w) : Holds P f (vs.map .v) [] (.v r) [] where
 fn := hf
 calls := by
  intro C w xs fx fa hF hB hI hX hM hle hno hR
  obtain ⟨rfl, h0⟩ := repL_vs hR
  have hx : ∀ b, fx b = 0 := by
   have hM : MemR C w [] fx := hM
   cases hM with | nil h => exact h
  refine (h w).mono ?_
  rintro e w' ⟨rfl, rfl⟩
  refine ⟨C, fun _ => 0, fun _ => 0, Ctx.ToX.refl C, rfl, hB, fun _ h => h, fun _ h => .inl h, hI, hX, Same.refl _ _, .nil fun _ => rfl, .v (.nil fun _ => rfl), fun _ => Nat.zero_le _, fun b hb => absurd hb (by simp)⟩
set_option maxHeartbeats 1000000 in
set_option maxRecDepth 100000 in
theorem indexByteC (s : ByteArray) (c : Int) (w : World) :
  Calls Tryz.prog 203 #[.string s, .int .u8 c] w fun e w' => e = .returned (.int .i64 (Lib.indexByte s.data.toList c.toNat.toUInt8)) ∧ w' = w := by
 go_enter Tryz.func203, Tryz.ntmps203
 go_wp2
 rw [run_callFunc_extern Tryz.func214 (by kernel_rfl) (by kernel_rfl) (by kernel_rfl) (e := Extern.BytealgIndexByte.indexByte) (by kernel_rfl), Lib.run_indexByteString]
 simp only [Result.andThen]
 rw [Oper.upon_value]
 go_wp2
 go_ret
 exact ⟨rfl, rfl⟩
theorem indexByteH (s : ByteArray) (c : Int) : Holds Tryz.prog 203 [.v (.string s), .v (.int .u8 c)] [] (.v (.int .i64 (Lib.indexByte s.data.toList c.toNat.toUInt8))) [] :=
 holds_same (vs := [.string s, .int .u8 c]) ⟨_, _, Tryz.func203, by kernel_rfl, rfl⟩ fun w => indexByteC s c w
set_option maxHeartbeats 1000000 in
set_option maxRecDepth 100000 in
theorem countC (s : ByteArray) (c : UInt8) (w : World) :
  Calls Tryz.prog 110 #[.string s, .string ⟨#[c]⟩] w fun e w' => e = .returned (.int .i64 (Lib.countByte s.data.toList c)) ∧ w' = w := by
 go_enter Tryz.func110, Tryz.ntmps110
 go_wp2
 rw [run_callFunc_extern Tryz.func145 (by kernel_rfl) (by kernel_rfl) (by kernel_rfl) (e := Extern.BytealgCount.count) (by kernel_rfl), Lib.run_countString]
 simp only [Result.andThen]
 rw [Oper.upon_value]
 go_wp2
 go_ret
 exact ⟨rfl, rfl⟩
theorem countH (s : ByteArray) (c : UInt8) : Holds Tryz.prog 110 [.v (.string s), .v (.string ⟨#[c]⟩)] [] (.v (.int .i64 (Lib.countByte s.data.toList c))) [] :=
 holds_same (vs := [.string s, .string ⟨#[c]⟩]) ⟨_, _, Tryz.func110, by kernel_rfl, rfl⟩ fun w => countC s c w
end Go.Proofs.W

namespace Go.Proofs.W
open Go Go.AM
variable (hm : Tryz.prog.follows .mixedOrders = true)
theorem indexByte_lt (l : List UInt8) (c : UInt8) : Lib.indexByte l c = -1 ∨ ∃ m : Nat, Lib.indexByte l c = m ∧ m < l.length := by
 have := Lib.indexByte_ge l c
 rcases Int.lt_or_le (Lib.indexByte l c) 0 with h | h
 ·left; omega
 ·right
  obtain ⟨m, e⟩ := Int.eq_ofNat_of_zero_le h
  refine ⟨m, e, ?_⟩
  obtain ⟨p, r, e1, e2, _⟩ := idx_some e
  rw [e1]; simp; omega
set_option maxRecDepth 10000 in
include hm in
theorem index1 (s : ByteArray) : Holds Tryz.prog 187 [.v (.string s), .v (.string ⟨#[46]⟩)] [] (.v (.int .i64 (Lib.indexByte s.data.toList 46))) [] := by
 refine holds_of (ann := []) tabOk hm Tryz.func187 (by kernel_rfl) rfl ?_
 simp +decide only [Tryz.f187, go_sem]
 have e2 : Int.toNat 0 = 0 := rfl
 refine Runs.split (fun h => ?_) (fun h => ?_)
 ·have e : s = ⟨#[46]⟩ := by
   rw [beq_iff_eq, Lib.toList_data, Lib.toList_data] at h
   rw [← mkS_list s, ← h]; rfl
  rw [e]
  simp +decide only [go_sem]
  exact Runs.ret_eq (by rw [show Lib.indexByte (ByteArray.mk #[46]).data.toList 46 = 0 by decide])
 ·simp +decide only [e2, go_sem]
  refine Runs.call (indexByteH s 46) ?_
  simp +decide only [go_sem]
  exact Runs.ret_eq rfl
include hm in
theorem sindex1 (s : ByteArray) : Holds Tryz.prog 146 [.v (.string s), .v (.string ⟨#[46]⟩)] [] (.v (.int .i64 (Lib.indexByte s.data.toList 46))) [] := by
 refine holds_of (ann := []) tabOk hm Tryz.func146 (by kernel_rfl) rfl ?_
 simp +decide only [Tryz.f146, go_sem]
 refine Runs.call (index1 hm s) ?_
 simp +decide only [go_sem]
 exact Runs.ret_v
def gsRow (N : Nat) (D : List ByteArray) : List A := D.map strA ++ List.replicate (N - D.length) (.v (.string ⟨#[]⟩))
theorem gsRow_len {N : Nat} {D : List ByteArray} (h : D.length ≤ N) : (gsRow N D).length = N := by simp [gsRow]; omega
theorem gsRow_zero (N : Nat) : gsRow N [] = List.replicate N (.v (.string ⟨#[]⟩)) := by simp [gsRow]
theorem gsRow_set {N : Nat} {D : List ByteArray} (h : D.length < N) (p : ByteArray) : (gsRow N D).set D.length (.v (.string p)) = gsRow N (D ++ [p]) := by
 unfold gsRow
 have e : N - D.length = (N - (D.length + 1)) + 1 := by omega
 rw [List.set_append_right _ _ (by simp), List.length_map, Nat.sub_self, e, List.replicate_succ, List.set_cons_zero]
 simp [strA]
theorem gsRow_get {N : Nat} {D : List ByteArray} (h : D.length < N) : (gsRow N D).getD D.length .any = .v (.string ⟨#[]⟩) := by
 unfold gsRow
 have e : N - D.length = (N - (D.length + 1)) + 1 := by omega
 rw [List.getD, List.getElem?_append_right (by simp), List.length_map, Nat.sub_self, e, List.replicate_succ]
 rfl
def gsAnn : Ann := [(0, [0, 1, 2, 3, 9, 10])]
def gsSt (N : Nat) (p : List ByteArray × ByteArray) : St := ⟨[.v (.string p.2), .v (.string ⟨#[46]⟩), .v (.int .i64 0), .v (.int .i64 ((N : Int) - 1)), .any, .any, .any, .any, .any, .ms (.l 0) 0 N N, .v (.int .i64 p.1.length), .any, .any, .any, .any, .any, .any, .any, .any, .any, .any, .any, .any, .any, .any, .any, .any, .any, .any, .any, .any, .any, .any, .any, .any, .any, .any, .any, .any, .any, .any, .any, .any, .any, .any, .any, .any, .any, .any, .any, .any, .any, .any, .any, .any, .any, .any, .any, .any, .any, .any, .any, .any, .any, .any, .any], [(0, ⟨true, 1, false, gsRow N p.1⟩)], []⟩
set_option maxHeartbeats 4000000 in
set_option maxRecDepth 10000 in
include hm in
theorem genSplit1 (s : ByteArray) (h : s.size ≤ 1048576) : Holds Tryz.prog 150 [.v (.string s), .v (.string ⟨#[46]⟩), .v (.int .i64 0), .v (.int .i64 (-1))] [] (.sl (.ow 1) ((partsB s).map strA)) [] := by
 refine holds_of (ann := gsAnn) tabOk hm Tryz.func150 (by kernel_rfl) rfl ?_
 have hz := list_size s
 have hle := partsB_le s
 obtain ⟨N, hN⟩ : ∃ N, N = (partsB s).length := ⟨_, rfl⟩
 have hN2 := hN
 rw [partsB_len] at hN2
 have hb46 : ((⟨#[46]⟩ : ByteArray).toList == (⟨#[]⟩ : ByteArray).toList) = false := by rw [Lib.toList_data, Lib.toList_data]; decide
 simp +decide only [Tryz.f150, hb46, go_sem]
 refine Runs.call (countH s 46) ?_
 have e0 : (Lib.countByte s.data.toList 46 : Int) = (N : Int) - 1 := by rw [hN2, Lib.countByte]; omega
 have e1 : IntKind.i64.wrap ((N : Int) - 1 + 1) = N := by rw [wrap_i64 (by omega) (by omega)]; omega
 have e3 : IntKind.i64.wrap ((s.size : Int) + 1) = (s.size : Int) + 1 := wrap_i64 (by omega) (by omega)
 have e4 : (if (s.size : Int) + 1 < N then (s.size : Int) + 1 else (N : Int)) = N := if_neg (by omega)
 simp +decide (disch := first | omega | (simp only [ll]; omega)) only [e0, e1, e3, e4, if_pos, go_sem]
 refine Runs.while (α := List ByteArray × ByteArray) (gsSt N) (fun p => N - p.1.length) (fun p => p.1.length < N ∧ partsB s = p.1 ++ partsB p.2 ∧ p.2.size ≤ s.size) ([], s) ⟨by simp; omega, by simp, Nat.le_refl _⟩ ?_ ?_
 ·simp [go_sem, gsAnn, gsSt, gsRow_zero]
 ·rintro ⟨D, r⟩ ⟨hd, hp, hr⟩ ih
  simp only at hd hp hr
  have hlen := gsRow_len (Nat.le_of_lt hd)
  have hcnt : N = D.length + (partsB r).length := by rw [hN, hp, List.length_append]
  have hrz := list_size r
  have hset := gsRow_set hd
  have hlen2 : ∀ x, (gsRow N (D ++ [x])).length = N := fun x => gsRow_len (by simp; omega)
  have hget := gsRow_get hd
  simp +decide (disch := first | omega | (simp only [ll]; omega)) only [gsSt, hlen, if_pos, go_sem]
  refine Runs.split (fun h => ?_) (fun h => ?_)
  ·have h2 : 2 ≤ (partsB r).length := by simp at h; omega
   simp +decide only [go_sem]
   refine Runs.call (sindex1 hm r) ?_
   rcases indexByte_lt r.data.toList 46 with hi | ⟨m, hi, hml⟩
   ·rw [partsB, List.length_map, partsL_no 46 _ (idx_none hi)] at h2
    simp at h2
   ·obtain ⟨p, q, e5, e6, e7⟩ := idx_some hi
    rw [hi]
    have e8 : partsB r = mkS p :: partsB (mkS q) := by rw [partsB, e5, partsL_cut 46 p q e7, partsB, mkS_data]; rfl
    have x1 : r.extract 0 m = mkS p := by rw [mkS_ext, e5, ← e6]; simp
    have x2 : r.extract (m + 1) r.size = mkS q := by
     rw [mkS_ext, e5]
     rw [show p ++ 46 :: q = (p ++ [46]) ++ q by simp, List.drop_left' (by simp; omega), List.take_of_length_le]
     rw [e5] at hrz; simp at hrz; omega
    have x3 : (mkS q).size ≤ r.size := by rw [mkS_size]; rw [e5] at hrz; simp at hrz; omega
    have d0 : decide ((m : Int) < 0) = false := by simp
    have x4 : ((m : Int) + 1).toNat = m + 1 := by omega
    have y1 : ((#[(46 : UInt8)].size : Nat) : Int) = 1 := rfl
    simp +decide (disch := first | omega | (simp only [ll]; omega)) only [d0, y1, Int.add_zero, x1, x2, x4, hlen, hset, hget, hlen2, if_pos, go_sem]
    refine ih (D ++ [mkS p], mkS q) _ (by simp only [List.length_append, List.length_cons, List.length_nil]; omega) ⟨by simp; simp at h; omega, ?_, by simp only; omega⟩ ?_
    ·simp only; rw [hp, e8]; simp
    ·simp [go_sem, gsAnn, gsSt, x1]
  ·have h1 : (partsB r).length = 1 := by
    have : 1 ≤ (partsB r).length := by rw [partsB_len]; omega
    simp at h; omega
   have e5 : partsB r = [r] := by
    have hc : r.data.toList.count 46 = 0 := by rw [partsB_len] at h1; omega
    rw [partsB, partsL_no 46 _ (count_none hc)]; simp [mkS_list]
   have hN1 : N = D.length + 1 := by omega
   have e6 : gsRow N (D ++ [r]) = (partsB s).map strA := by rw [gsRow, hp, e5]; simp [hN1]
   have b1 : decide (0 ≤ (D.length : Int) + 1 ∧ (D.length : Int) + 1 ≤ N ∧ (D.length : Int) + 1 ≤ (D.length : Int) + 1 ∧ (D.length : Int) + 1 ≤ N) = true := by simp; omega
   have t1 : ((D.length : Int) + 1).toNat = N := by omega
   have t0 : Int.toNat 0 = 0 := rfl
   simp +decide (disch := first | omega | (simp only [ll]; omega)) only [hlen, hset, hget, hlen2, b1, t1, t0, Nat.sub_zero, if_pos, go_sem]
   refine Runs.ret_eq ?_
   rw [List.take_of_length_le (by rw [hlen2]; exact Nat.le_refl _), e6]
end Go.Proofs.W

namespace Go.Proofs.W
open Go Go.AM
set_option maxRecDepth 10000
variable (hm : Tryz.prog.follows .mixedOrders = true)
include hm in
theorem split1 (s : ByteArray) (h : s.size ≤ 1048576) : Holds Tryz.prog 112 [.v (.string s), .v (.string ⟨#[46]⟩)] [] (.sl (.ow 1) ((partsB s).map strA)) [] := by
 refine holds_of (ann := []) tabOk hm Tryz.func112 (by kernel_rfl) rfl ?_
 simp +decide only [Tryz.f112, go_sem]
 refine Runs.call (genSplit1 hm s h) ?_
 simp +decide (disch := first | omega | (simp only [ll]; omega)) only [if_pos, go_sem]
 exact Runs.ret_refl
include hm in
theorem isDigit (b : UInt8) : Holds Tryz.prog 172 [.v (.int .u8 b.toNat)] [] (.v (.bool (digC b))) [] := by
 refine holds_of (ann := []) tabOk hm Tryz.func172 (by kernel_rfl) rfl ?_
 simp +decide only [Tryz.f172, go_sem]
 refine Runs.split (fun h => ?_) (fun h => ?_)
 ·simp +decide only [go_sem]
  exact Runs.ret_eq (by simp at h; simp [digC, inB]; omega)
 ·simp +decide only [go_sem]
  exact Runs.ret_eq (by simp at h; simp [digC, inB]; omega)
def ilAnn : Ann := [(0, [0, 6, 7])]
def ilSt (s : ByteArray) (i : Nat) : St := ⟨[.v (.string s), .any, .any, .any, .any, .any, .v (.int .i64 s.size), .v (.int .i64 i), .any, .any, .any, .any, .any, .any, .any, .any, .any, .any, .any, .any, .any, .any, .any, .any, .any, .any, .any, .any, .any, .any, .any, .any, .any, .any, .any, .any, .any, .any, .any, .any, .any, .any, .any, .any, .any], [], []⟩
include hm in
theorem isLabel (s : ByteArray) (h : s.size ≤ 1048576) : Holds Tryz.prog 133 [.v (.string s)] [] (.v (.bool (labelB s))) [] := by
 refine holds_of (ann := ilAnn) tabOk hm Tryz.func133 (by kernel_rfl) rfl ?_
 simp +decide only [Tryz.f133, go_sem]
 have hz := list_size s
 refine Runs.while (α := Nat) (ilSt s) (fun i => s.size - i) (fun i => i ≤ s.size ∧ (s.data.toList.drop i).all okC = s.data.toList.all okC) 0 ⟨by omega, by simp⟩ ?_ ?_
 ·simp [go_sem, ilAnn, ilSt]
 ·rintro i ⟨hi, hr⟩ ih
  simp +decide only [ilSt, go_sem]
  refine Runs.split (fun h => ?_) (fun h => ?_)
  ·have hlt : i < s.data.toList.length := by simp at h; omega
   have hg : s.data.toList.getD i 0 = s.data.toList[i] := getD_lt hlt
   have hb := UInt8.toNat_lt s.data.toList[i]
   rw [List.drop_eq_getElem_cons hlt, List.all_cons] at hr
   have next : okC s.data.toList[i] = true → (s.data.toList.drop (i + 1)).all okC = s.data.toList.all okC := fun h => by rw [← hr, h, Bool.true_and]
   have stop : okC s.data.toList[i] = false → labelB s = false := fun h => by rw [labelB, ← hr, h]; simp
   simp +decide (disch := first | omega | (simp only [ll]; omega)) only [hg, if_pos, go_sem]
   refine Runs.call (isDigit hm _) ?_
   cases h1 : digC s.data.toList[i]
   ·simp +decide only [go_sem]
    cases h2 : decide ((s.data.toList[i].toNat : Int) < 97)
    ·simp +decide only [go_sem]
     cases h3 : decide ((s.data.toList[i].toNat : Int) > 122)
     ·simp +decide (disch := first | omega | (simp only [ll]; omega)) only [if_pos, go_sem]
      have ho : okC s.data.toList[i] = true := by simp at h2 h3; simp [okC, inB]; omega
      refine ih (i + 1) _ (by omega) ⟨by omega, next ho⟩ ?_
      simp [go_sem, ilAnn, ilSt]
     ·simp +decide only [go_sem]
      cases h4 : decide ((s.data.toList[i].toNat : Int) = 45)
      ·simp +decide (disch := first | omega | (simp only [ll]; omega)) only [if_pos, go_sem]
       have ho : okC s.data.toList[i] = false := by simp only [okC, h1, dashC, h4, inB, Bool.or_false]; simp at h2 h3; simp; omega
       exact Runs.ret_eq (by rw [stop ho])
      ·simp +decide (disch := first | omega | (simp only [ll]; omega)) only [if_pos, go_sem]
       have ho : okC s.data.toList[i] = true := by simp only [okC, h1, dashC, h4, Bool.or_true]
       refine ih (i + 1) _ (by omega) ⟨by omega, next ho⟩ ?_
       simp [go_sem, ilAnn, ilSt]
    ·simp +decide only [go_sem]
     cases h4 : decide ((s.data.toList[i].toNat : Int) = 45)
     ·simp +decide (disch := first | omega | (simp only [ll]; omega)) only [if_pos, go_sem]
      have ho : okC s.data.toList[i] = false := by simp only [okC, h1, dashC, h4, inB, Bool.or_false]; simp at h2; simp; omega
      exact Runs.ret_eq (by rw [stop ho])
     ·simp +decide (disch := first | omega | (simp only [ll]; omega)) only [if_pos, go_sem]
      have ho : okC s.data.toList[i] = true := by simp only [okC, h1, dashC, h4, Bool.or_true]
      refine ih (i + 1) _ (by omega) ⟨by omega, next ho⟩ ?_
      simp [go_sem, ilAnn, ilSt]
   ·simp +decide (disch := first | omega | (simp only [ll]; omega)) only [if_pos, go_sem]
    refine ih (i + 1) _ (by omega) ⟨by omega, next (by simp only [okC, h1]; simp)⟩ ?_
    simp [go_sem, ilAnn, ilSt]
  ·have hge : i = s.size := by simp at h; omega
   rw [List.drop_of_length_le (by omega), List.all_nil] at hr
   simp +decide only [go_sem]
   refine Runs.call (within hm _ 1 20) ?_
   cases h1 : inB s.size 1 20
   ·simp +decide only [go_sem]
    exact Runs.ret_eq (by rw [labelB, h1]; simp)
   ·have hp : 1 ≤ s.size := by simp [inB] at h1; omega
    have ht : ((s.size : Int) - 1).toNat = s.size - 1 := by omega
    have hb0 : decide ((0 : Int) ≤ 0 ∧ (0 : Int) < s.size) = true := by simp; omega
    have hb1 : decide (0 ≤ (s.size : Int) - 1 ∧ (s.size : Int) - 1 < s.size) = true := by simp; omega
    have t0 : Int.toNat 0 = 0 := rfl
    simp +decide (disch := first | omega | (simp only [ll]; omega)) only [hb0, t0, if_pos, go_sem]
    cases h2 : dashC (s.data.toList.getD 0 0) <;> (unfold dashC at h2; simp +decide (disch := first | omega | (simp only [ll]; omega)) only [h2, ht, hb1, if_pos, go_sem]; exact Runs.ret_eq (by simp only [labelB, dashC, ← hr, h1, h2, Bool.true_and, Bool.not_false, Bool.not_true, Bool.false_and]))
include hm in
theorem notLabel (s : ByteArray) (h : s.size ≤ 1048576) : Holds Tryz.prog 132 [.v (.string s)] [] (.v (.bool (!labelB s))) [] := by
 refine holds_of (ann := []) tabOk hm Tryz.func132 (by kernel_rfl) rfl ?_
 simp +decide only [Tryz.f132, go_sem]
 refine Runs.call (isLabel hm s h) ?_
 simp +decide only [go_sem]
 exact Runs.ret_v
def ifAnn : Ann := [(0, [0, 1, 7, 8])]
def ifSt (f : A) (L : List ByteArray) (i : Nat) : St := ⟨[.sl .sh (L.map strA), f, .any, .any, .any, .any, .any, .v (.int .i64 L.length), .v (.int .i64 i), .any, .any, .any, .any, .any, .any, .any, .any, .any, .any], [], []⟩
include hm in
theorem indexFunc0 (g : Nat) (L : List ByteArray) (q : ByteArray → Bool) (h : L.length ≤ 1048576) (hq : ∀ s ∈ L, Holds Tryz.prog g [.v (.string s)] [] (.v (.bool (q s))) []) :
  ∃ n : Int, decide (n ≥ 0) = L.any q ∧ Holds Tryz.prog 108 [.sl .sh (L.map strA), .v (.func (.func g) #[] #[])] [] (.v (.int .i64 n)) [] := by
 refine ⟨if L.any q = true then (L.findIdx q : Int) else -1, by cases h : L.any q <;> simp, ?_⟩
 refine holds_of (ann := ifAnn) tabOk hm Tryz.func108 (by kernel_rfl) rfl ?_
 simp +decide only [Tryz.f108, go_sem]
 have ha : (L.map strA).length = L.length := List.length_map _
 refine Runs.while (α := Nat) (ifSt (.v (.func (.func g) #[] #[])) L) (fun i => L.length - i) (fun i => i ≤ L.length ∧ ∀ j (hj : j < L.length), j < i → q L[j] = false) 0 ⟨by omega, fun _ _ h => absurd h (by omega)⟩ ?_ ?_
 ·simp [go_sem, ifAnn, ifSt]
 ·rintro i ⟨hi, hn⟩ ih
  simp +decide only [ifSt, ha, go_sem]
  refine Runs.split (fun h => ?_) (fun h => ?_)
  ·have hlt : i < L.length := by simpa using h
   have hg : (L.map strA).getD i .any = .v (.string L[i]) := by simp [List.getD, hlt, strA]
   simp +decide (disch := first | omega | (simp only [ll]; omega)) only [ha, hg, if_pos, go_sem]
   refine Runs.call (hq L[i] (List.getElem_mem hlt)) ?_
   cases h2 : q L[i]
   ·simp +decide (disch := first | omega | (simp only [ll]; omega)) only [if_pos, go_sem]
    refine ih (i + 1) _ (by omega) ⟨by omega, fun j hj hji => ?_⟩ ?_
    ·rcases Nat.lt_or_ge j i with h3 | h3
     ·exact hn j hj h3
     ·have : j = i := by omega
      subst this; exact h2
    ·simp [go_sem, ifAnn, ifSt]
   ·simp +decide (disch := first | omega | (simp only [ll]; omega)) only [if_pos, go_sem]
    have e1 : L.any q = true := List.any_eq_true.mpr ⟨L[i], List.getElem_mem hlt, h2⟩
    have e2 : L.findIdx q = i := (List.findIdx_eq hlt).mpr ⟨h2, fun j hj => hn j (by omega) hj⟩
    exact Runs.ret_eq (by rw [e1, e2]; rfl)
  ·have hge : i = L.length := by simp at h; omega
   have e1 : L.any q = false := by
    rw [List.any_eq_false]
    intro x hx
    obtain ⟨j, hj, rfl⟩ := List.getElem_of_mem hx
    rw [hn j hj (by omega)]; simp
   simp +decide only [go_sem]
   exact Runs.ret_eq (by rw [e1]; rfl)
include hm in
theorem contFunc0 (g : Nat) (L : List ByteArray) (q : ByteArray → Bool) (h : L.length ≤ 1048576) (hq : ∀ s ∈ L, Holds Tryz.prog g [.v (.string s)] [] (.v (.bool (q s))) []) :
  Holds Tryz.prog 68 [.sl .sh (L.map strA), .v (.func (.func g) #[] #[])] [] (.v (.bool (L.any q))) [] := by
 refine holds_of (ann := []) tabOk hm Tryz.func68 (by kernel_rfl) rfl ?_
 simp +decide only [Tryz.f68, go_sem]
 obtain ⟨n, hn, hc⟩ := indexFunc0 hm g L q h hq
 refine Runs.call hc ?_
 simp +decide only [hn, go_sem]
 exact Runs.ret_v
include hm in
theorem indexFunc2 (g : Nat) (hst : Nat) (L : List ByteArray) (q : ByteArray → Bool) (h : L.length ≤ 1048576) (hq : ∀ s ∈ L, Holds Tryz.prog g [.v (.string s), .ptr [.v (.func (.func hst) #[] #[])] 0 0] [] (.v (.bool (q s))) []) :
  ∃ n : Int, decide (n ≥ 0) = L.any q ∧ Holds Tryz.prog 108 [.sl .sh (L.map strA), .fn (.func g) [] [.ptr [.v (.func (.func hst) #[] #[])] 0 0]] [] (.v (.int .i64 n)) [] := by
 refine ⟨if L.any q = true then (L.findIdx q : Int) else -1, by cases h : L.any q <;> simp, ?_⟩
 refine holds_of (ann := ifAnn) tabOk hm Tryz.func108 (by kernel_rfl) rfl ?_
 simp +decide only [Tryz.f108, go_sem]
 have ha : (L.map strA).length = L.length := List.length_map _
 refine Runs.while (α := Nat) (ifSt (.fn (.func g) [] [.ptr [.v (.func (.func hst) #[] #[])] 0 0]) L) (fun i => L.length - i) (fun i => i ≤ L.length ∧ ∀ j (hj : j < L.length), j < i → q L[j] = false) 0 ⟨by omega, fun _ _ h => absurd h (by omega)⟩ ?_ ?_
 ·simp [go_sem, ifAnn, ifSt]
 ·rintro i ⟨hi, hn⟩ ih
  simp +decide only [ifSt, ha, go_sem]
  refine Runs.split (fun h => ?_) (fun h => ?_)
  ·have hlt : i < L.length := by simpa using h
   have hg : (L.map strA).getD i .any = .v (.string L[i]) := by simp [List.getD, hlt, strA]
   simp +decide (disch := first | omega | (simp only [ll]; omega)) only [ha, hg, if_pos, go_sem]
   refine Runs.call (hq L[i] (List.getElem_mem hlt)) ?_
   cases h2 : q L[i]
   ·simp +decide (disch := first | omega | (simp only [ll]; omega)) only [if_pos, go_sem]
    refine ih (i + 1) _ (by omega) ⟨by omega, fun j hj hji => ?_⟩ ?_
    ·rcases Nat.lt_or_ge j i with h3 | h3
     ·exact hn j hj h3
     ·have : j = i := by omega
      subst this; exact h2
    ·simp [go_sem, ifAnn, ifSt]
   ·simp +decide (disch := first | omega | (simp only [ll]; omega)) only [if_pos, go_sem]
    have e1 : L.any q = true := List.any_eq_true.mpr ⟨L[i], List.getElem_mem hlt, h2⟩
    have e2 : L.findIdx q = i := (List.findIdx_eq hlt).mpr ⟨h2, fun j hj => hn j (by omega) hj⟩
    exact Runs.ret_eq (by rw [e1, e2]; rfl)
  ·have hge : i = L.length := by simp at h; omega
   have e1 : L.any q = false := by
    rw [List.any_eq_false]
    intro x hx
    obtain ⟨j, hj, rfl⟩ := List.getElem_of_mem hx
    rw [hn j hj (by omega)]; simp
   simp +decide only [go_sem]
   exact Runs.ret_eq (by rw [e1]; rfl)
include hm in
theorem contFunc2 (g : Nat) (hst : Nat) (L : List ByteArray) (q : ByteArray → Bool) (h : L.length ≤ 1048576) (hq : ∀ s ∈ L, Holds Tryz.prog g [.v (.string s), .ptr [.v (.func (.func hst) #[] #[])] 0 0] [] (.v (.bool (q s))) []) :
  Holds Tryz.prog 68 [.sl .sh (L.map strA), .fn (.func g) [] [.ptr [.v (.func (.func hst) #[] #[])] 0 0]] [] (.v (.bool (L.any q))) [] := by
 refine holds_of (ann := []) tabOk hm Tryz.func68 (by kernel_rfl) rfl ?_
 simp +decide only [Tryz.f68, go_sem]
 obtain ⟨n, hn, hc⟩ := indexFunc2 hm g hst L q h hq
 refine Runs.call hc ?_
 simp +decide only [hn, go_sem]
 exact Runs.ret_v
end Go.Proofs.W

namespace Go.Proofs.W
open Go Go.AM
variable (hm : Tryz.prog.follows .mixedOrders = true)
def digS : ByteArray := ⟨#[48, 49, 50, 51, 52, 53, 54, 55, 56, 57]⟩
def digSet (i : Nat) : List A := (List.range 256).map fun j => .v (.bool (decide (48 ≤ j ∧ j < 48 + i)))
theorem digSet_len (i : Nat) : (digSet i).length = 256 := by simp [digSet]
theorem digSet_get {i j : Nat} (h : j < 256) : (digSet i).getD j .any = .v (.bool (decide (48 ≤ j ∧ j < 48 + i))) := by
 rw [digSet, List.getD, List.getElem?_map, List.getElem?_range h]; rfl
theorem digSet_set {i : Nat} (h : i < 10) : (digSet i).set (48 + i) (.v (.bool true)) = digSet (i + 1) := by
 apply List.ext_getElem
 ·rw [List.length_set, digSet_len, digSet_len]
 ·intro j h1 h2
  rw [List.getElem_set]
  simp only [digSet, List.getElem_map, List.getElem_range]
  split
  ·rename_i e
   rw [decide_eq_true (by omega)]
  ·rename_i e
   have : decide (48 ≤ j ∧ j < 48 + i) = decide (48 ≤ j ∧ j < 48 + (i + 1)) := by
    rw [decide_eq_decide]; constructor <;> (intro h; omega)
   rw [this]
theorem digSet_zero : (repV 256 (.bool false)).map A.v = digSet 0 := by
 rw [digSet, repV]
 apply List.ext_getElem
 ·rw [List.length_map, List.length_replicate, List.length_map, List.length_range]
 ·intro j h1 h2
  rw [List.getElem_map, List.getElem_replicate, List.getElem_map, List.getElem_range, decide_eq_false (by omega)]
theorem digSet_keep (st : St) (ks : List Nat) (i : Nat) : (digSet i).map (keepC st ks) = digSet i := by
 rw [digSet, List.map_map]; rfl
theorem digSet_ids (i : Nat) : (digSet i).flatMap cellIds = [] := by
 rw [List.flatMap_eq_nil_iff]
 intro x hx
 rw [digSet, List.mem_map] at hx
 obtain ⟨j, _, rfl⟩ := hx; rfl
theorem roL_vs (g : Go.AM.Id → Option Go.AM.Id) (vs : List Value) : roL g (vs.map .v) = vs.map .v := by
 induction vs with
 | nil => simp [roL]
 | cons v l ih => rw [List.map_cons, roL, A.ro, ih]
theorem outL_bs (st : St) (vs : List Bool) : outL st (vs.map fun b => .v (.bool b)) = some (vs.map fun b => .v (.bool b), st) := by
 induction vs with
 | nil => simp [outL]
 | cons v l ih => simp [outL, ih, outC, insC, Value.oneCell']
theorem inL_bs (st : St) (n : Nat) (vs : List Bool) : inL st n (vs.map fun b => .v (.bool b)) = some (vs.map fun b => .v (.bool b), st) := by
 induction vs generalizing n with
 | nil => simp [inL]
 | cons v l ih => simp [inL, ih, inC]
theorem digSet_in (st : St) (n i : Nat) : inL st n (digSet i) = some (digSet i, st) := by
 have e : digSet i = ((List.range 256).map fun j => decide (48 ≤ j ∧ j < 48 + i)).map fun b => .v (.bool b) := by rw [digSet, List.map_map]; rfl
 rw [e, inL_bs]
theorem digSet_vs (i : Nat) : digSet i = ((List.range 256).map fun j => Value.bool (decide (48 ≤ j ∧ j < 48 + i))).map .v := by
 rw [digSet, List.map_map]; rfl
theorem rnL_vs (g : Go.AM.Id → Go.AM.Id) (vs : List Value) : rnL g (vs.map .v) = vs.map .v := by
 rw [rnL_eq, List.map_map]; rfl
theorem rdL_vs (g : Go.AM.Id → Option Go.AM.Id) (vs : List Value) : rdL g (vs.map .v) = vs.map .v := by
 rw [rdL_eq, List.map_map]; rfl
theorem digSet_rn (g : Go.AM.Id → Go.AM.Id) (i : Nat) : rnL g (digSet i) = digSet i := by rw [digSet_vs, rnL_vs]
theorem digSet_rd (g : Go.AM.Id → Option Go.AM.Id) (i : Nat) : rdL g (digSet i) = digSet i := by rw [digSet_vs, rdL_vs]
theorem digSet_ro (g : Go.AM.Id → Option Go.AM.Id) (i : Nat) : roL g (digSet i) = digSet i := by rw [digSet_vs, roL_vs]
theorem digSet_out (st : St) (i : Nat) : outL st (digSet i) = some (digSet i, st) := by
 have e : digSet i = ((List.range 256).map fun j => decide (48 ≤ j ∧ j < 48 + i)).map fun b => .v (.bool b) := by rw [digSet, List.map_map]; rfl
 rw [e, outL_bs]
theorem setCells_end : ∀ (vs cs : List A) (off : Nat), off + vs.length = cs.length → setCells cs off vs = cs.take off ++ vs
 | [], cs, off, h => by simp [setCells]; rw [List.take_of_length_le (by simp at h; omega)]
 | v :: vs, cs, off, h => by
  simp at h
  rw [setCells, setCells_end vs _ _ (by simp; omega), List.take_add_one, List.getElem?_set_self (by omega)]
  rw [List.take_set_of_le (Nat.le_refl _)]; simp
theorem digSet_setCells (i j : Nat) : setCells (digSet i) 0 (digSet j) = digSet j := by
 rw [setCells_end _ _ _ (by rw [digSet_len, digSet_len])]; rfl
theorem digSet_take (i : Nat) : (digSet i).take 256 = digSet i := List.take_of_length_le (by rw [digSet_len]; exact Nat.le_refl _)
attribute [local go_sem] digSet_keep digSet_ids digSet_ro digSet_out digSet_setCells digSet_take digSet_len digSet_zero
theorem digS_get {i : Nat} (h : i < 10) : (digS.data.toList.getD i 0).toNat = 48 + i := by
 have : i = 0 ∨ i = 1 ∨ i = 2 ∨ i = 3 ∨ i = 4 ∨ i = 5 ∨ i = 6 ∨ i = 7 ∨ i = 8 ∨ i = 9 := by omega
 rcases this with h | h | h | h | h | h | h | h | h | h <;> subst h <;> rfl
def maAnn : Ann := [(0, [0, 2, 3, 4])]
def maSt (i : Nat) : St := ⟨[.v (.string digS), .any, .ref (.l 0) 0 0 1, .v (.bool false), .v (.int .i64 i), .any, .any, .any, .any, .any, .any, .any, .any, .any, .any, .any, .any, .any, .any, .any, .any], [(0, ⟨true, 256, true, [.agg (digSet i)]⟩)], []⟩
set_option maxRecDepth 10000 in
include hm in
theorem makeSet : Holds Tryz.prog 175 [.v (.string digS)] [] (.tup [.agg (digSet 10), .v (.bool true)]) [] := by
 refine holds_of (ann := maAnn) tabOk hm Tryz.func175 (by kernel_rfl) rfl ?_
 simp +decide only [Tryz.f175, go_sem]
 have hsz : digS.size = 10 := rfl
 have hl := digSet_len
 refine Runs.while (α := Nat) maSt (fun i => 10 - i) (fun i => i ≤ 10) 0 (by omega) ?_ ?_
 ·simp [go_sem, maAnn, maSt]
 ·intro i hi ih
  have hs10 : ((digS.size : Nat) : Int) = 10 := rfl
  simp +decide only [maSt, hs10, go_sem]
  refine Runs.split (fun h => ?_) (fun h => ?_)
  ·have hlt : i < 10 := by simp at h; omega
   have hg := digS_get hlt
   have t1 : (((48 + i : Nat) : Int)).toNat = 48 + i := by omega
   simp +decide (disch := first | omega | (simp only [ll]; omega)) only [hg, hs10, hsz, t1, if_pos, go_sem]
   have d1 : decide (((48 + i : Nat) : Int) ≥ 128) = false := by simp; omega
   have hb : decide ((0 : Int) ≤ ((48 + i : Nat) : Int) ∧ ((48 + i : Nat) : Int) < 256) = true := by simp; omega
   have hset := digSet_set hlt
   simp +decide (disch := first | omega | (simp only [ll]; omega)) only [d1, hb, t1, Nat.mul_one, hset, if_pos, go_sem]
   refine ih (i + 1) _ (by omega) (by omega) ?_
   simp [go_sem, maAnn, maSt]
  ·have hge : i = 10 := by simp at h; omega
   subst hge
   simp +decide (disch := first | omega | (simp only [ll]; omega)) only [if_pos, go_sem]
   exact Runs.ret_refl
end Go.Proofs.W

namespace Go.Proofs.W
open Go Go.AM
set_option maxRecDepth 10000
variable (hm : Tryz.prog.follows .mixedOrders = true)
attribute [local go_sem] digSet_keep digSet_ids digSet_ro digSet_out digSet_setCells digSet_take digSet_len digSet_zero digSet_rn digSet_rd digSet_in
def setBlk : Blk := ⟨true, 256, true, [.agg (digSet 10)]⟩
attribute [local go_sem] setBlk
def trR (l : List UInt8) : List UInt8 := (l.reverse.dropWhile digC).reverse
def trimD (s : ByteArray) : ByteArray := mkS ((trR s.data.toList).dropWhile digC)
theorem trR_snoc (l : List UInt8) (b : UInt8) : trR (l ++ [b]) = if digC b = true then trR l else l ++ [b] := by
 simp only [trR, List.reverse_append, List.reverse_cons, List.reverse_nil, List.nil_append, List.cons_append, List.dropWhile_cons]
 split <;> simp
theorem drop_nil (l : List UInt8) : l.dropWhile digC = [] ↔ l.all digC = true := by
 induction l with
 | nil => simp
 | cons b l ih => cases h : digC b <;> simp [h, ih]
theorem trimD_nil (s : ByteArray) : ((trimD s).toList == (⟨#[]⟩ : ByteArray).toList) = s.data.toList.all digC := by
 have e1 : ((trimD s).toList == (⟨#[]⟩ : ByteArray).toList) = decide ((trR s.data.toList).dropWhile digC = []) := by
  rw [Lib.toList_data, Lib.toList_data, trimD, mkS_data, Bool.eq_iff_iff, beq_iff_eq, decide_eq_true_iff]
 rw [e1, Bool.eq_iff_iff, decide_eq_true_iff, drop_nil]
 rw [trR, List.all_reverse]
 have h := drop_nil s.data.toList.reverse
 rw [List.all_reverse] at h
 rw [← h]
 have h2 : ∀ m : List UInt8, (m.dropWhile digC).all digC = true ↔ m.dropWhile digC = [] := by
  intro m
  induction m with
  | nil => simp
  | cons b l ih => cases h : digC b <;> simp [List.dropWhile_cons, h, ih]
 exact h2 _
include hm in
theorem setHas (b : UInt8) : Holds Tryz.prog 198 [.ref (.x 0) 0 0 1, .v (.int .u8 b.toNat)] [setBlk] (.v (.bool (digC b))) [setBlk] := by
 refine holds_ref (ann := []) tabOk hm (byL [198] []) Tryz.func198 (by kernel_rfl) rfl ?_
 have hb := UInt8.toNat_lt b
 have hg : (digSet 10).getD b.toNat .any = .v (.bool (digC b)) := by
  rw [digSet_get (by omega)]; congr 2; simp only [digC, inB]; rw [Bool.eq_iff_iff]; simp; omega
 have hb1 : decide ((0 : Int) ≤ (b.toNat : Int) ∧ (b.toNat : Int) < 256) = true := by simp; omega
 simp +decide (disch := first | omega | (simp only [ll]; omega)) only [Tryz.f198, setBlk, hg, hb1, Nat.mul_one, Nat.zero_add, if_pos, go_sem]
 exact Runs.ret_v
def tlAnn : Ann := [(0, [0, 1])]
def tlSt (l : List UInt8) : St := ⟨[.v (.string (mkS l)), .ref (.x 0) 0 0 1, .any, .any, .any, .any, .any, .any, .any, .any, .any, .any, .any, .any, .any, .any], [], [setBlk]⟩
include hm in
theorem trimLeft (l : List UInt8) (h : l.length ≤ 1048576) : Holds Tryz.prog 176 [.v (.string (mkS l)), .ref (.x 0) 0 0 1] [setBlk] (.v (.string (mkS (l.dropWhile digC)))) [setBlk] := by
 refine holds_ref (ann := tlAnn) tabOk hm (byL [198] []) Tryz.func176 (by kernel_rfl) rfl ?_
 simp +decide only [Tryz.f176, setBlk, go_sem]
 refine Runs.while (α := List UInt8) tlSt (fun r => r.length) (fun r => r.length ≤ l.length ∧ r.dropWhile digC = l.dropWhile digC) l ⟨Nat.le_refl _, rfl⟩ ?_ ?_
 ·simp [go_sem, tlAnn, tlSt, setBlk]
 ·rintro r ⟨hr1, hr2⟩ ih
  have hz := mkS_size r
  simp +decide only [tlSt, setBlk, go_sem]
  refine Runs.split (fun h => ?_) (fun h => ?_)
  ·cases r with
   | nil => rw [hz] at h; simp at h
   | cons b r =>
    have hg : (mkS (b :: r)).data.toList.getD (Int.toNat 0) 0 = b := by rw [mkS_data]; rfl
    have hb0 : decide ((0 : Int) < ((mkS (b :: r)).size : Int)) = true := by rw [hz]; simp
    simp +decide (disch := first | omega | (simp only [ll]; omega)) only [hg, hb0, if_pos, go_sem]
    have e1 : (mkS (b :: r)).extract 1 (mkS (b :: r)).size = mkS r := by rw [mkS_ext, mkS_data, hz]; simp
    refine Runs.call (setHas hm b) ?_
    cases hb : digC b
    ·simp +decide only [go_sem]
     refine Runs.ret_eq ?_
     rw [← hr2, List.dropWhile_cons, hb]; rfl
    ·have hb2 : decide ((1 : Int) ≤ ((mkS (b :: r)).size : Int) ∧ ((mkS (b :: r)).size : Int) ≤ ((mkS (b :: r)).size : Int)) = true := by rw [hz]; simp; omega
     have t1 : Int.toNat 1 = 1 := rfl
     have hb3 : decide ((0 : Int) ≤ 1 ∧ (1 : Int) ≤ ((mkS (b :: r)).size : Int) ∧ ((mkS (b :: r)).size : Int) ≤ ((mkS (b :: r)).size : Int)) = true := by rw [hz]; simp; omega
     simp +decide (disch := first | omega | (simp only [ll]; omega)) only [e1, hb2, t1, hb3, if_pos, go_sem]
     refine ih r _ (by simp) ⟨by simp at hr1; omega, by rw [← hr2, List.dropWhile_cons, hb]; rfl⟩ ?_
     simp [go_sem, tlAnn, tlSt, setBlk, e1]
  ·have : r = [] := by rw [hz] at h; simp at h; exact h
   subst this
   simp +decide only [go_sem]
   exact Runs.ret_eq (by rw [← hr2]; rfl)
def trAnn : Ann := [(0, [0, 1])]
def trSt (l : List UInt8) : St := ⟨[.v (.string (mkS l)), .ref (.x 0) 0 0 1, .any, .any, .any, .any, .any, .any, .any, .any, .any, .any, .any, .any, .any, .any, .any, .any, .any, .any, .any, .any], [], [setBlk]⟩
include hm in
theorem trimRight (l : List UInt8) (h : l.length ≤ 1048576) : Holds Tryz.prog 177 [.v (.string (mkS l)), .ref (.x 0) 0 0 1] [setBlk] (.v (.string (mkS (trR l)))) [setBlk] := by
 refine holds_ref (ann := trAnn) tabOk hm (byL [198] []) Tryz.func177 (by kernel_rfl) rfl ?_
 simp +decide only [Tryz.f177, setBlk, go_sem]
 refine Runs.while (α := List UInt8) trSt (fun r => r.length) (fun r => r.length ≤ l.length ∧ trR r = trR l) l ⟨Nat.le_refl _, rfl⟩ ?_ ?_
 ·simp [go_sem, trAnn, trSt, setBlk]
 ·rintro r ⟨hr1, hr2⟩ ih
  have hz := mkS_size r
  simp +decide only [trSt, setBlk, go_sem]
  refine Runs.split (fun h => ?_) (fun h => ?_)
  ·obtain ⟨q, b, rfl⟩ : ∃ q b, r = q ++ [b] := by
    have hne : r ≠ [] := by intro e; rw [hz, e] at h; simp at h
    exact ⟨r.dropLast, r.getLast hne, (List.dropLast_concat_getLast hne).symm⟩
   have hzn : (mkS (q ++ [b])).size = q.length + 1 := by rw [hz]; simp
   have t2 : (((mkS (q ++ [b])).size : Int) - 1).toNat = q.length := by rw [hzn]; omega
   have hg : (mkS (q ++ [b])).data.toList.getD q.length 0 = b := by rw [mkS_data]; simp [List.getD]
   have hb0 : decide ((0 : Int) ≤ ((mkS (q ++ [b])).size : Int) - 1 ∧ ((mkS (q ++ [b])).size : Int) - 1 < ((mkS (q ++ [b])).size : Int)) = true := by rw [hzn]; simp; omega
   have w1 : IntKind.i64.wrap (((mkS (q ++ [b])).size : Int) - 1) = ((mkS (q ++ [b])).size : Int) - 1 := wrap_i64 (by omega) (by rw [hz]; omega)
   simp +decide (disch := first | omega | (simp only [ll]; omega)) only [w1, t2, hg, hb0, if_pos, go_sem]
   refine Runs.call (setHas hm b) ?_
   have e1 : (mkS (q ++ [b])).extract 0 q.length = mkS q := by rw [mkS_ext, mkS_data]; simp
   cases hb : digC b
   ·simp +decide only [go_sem]
    refine Runs.ret_eq ?_
    rw [← hr2, trR_snoc, hb]; rfl
   ·have hb3 : decide ((0 : Int) ≤ 0 ∧ (0 : Int) ≤ ((mkS (q ++ [b])).size : Int) - 1 ∧ ((mkS (q ++ [b])).size : Int) - 1 ≤ ((mkS (q ++ [b])).size : Int)) = true := by rw [hzn]; simp; omega
    have hb4 : decide ((0 : Int) ≤ ((mkS (q ++ [b])).size : Int) - 1 ∧ ((mkS (q ++ [b])).size : Int) - 1 ≤ ((mkS (q ++ [b])).size : Int)) = true := by rw [hzn]; simp; omega
    have t0 : Int.toNat 0 = 0 := rfl
    simp +decide (disch := first | omega | (simp only [ll]; omega)) only [w1, t0, t2, e1, hb3, hb4, if_pos, go_sem]
    refine ih q _ (by simp) ⟨by simp at hr1; omega, by rw [← hr2, trR_snoc, hb]; rfl⟩ ?_
    simp [go_sem, trAnn, trSt, setBlk, e1]
  ·have : r = [] := by rw [hz] at h; simp at h; exact h
   subst this
   simp +decide only [go_sem]
   exact Runs.ret_eq (by rw [← hr2]; rfl)
include hm in
theorem trim1 (s : ByteArray) (h : s.size ≤ 1048576) : Holds Tryz.prog 134 [.v (.string s), .v (.string digS)] [] (.v (.string (trimD s))) [] := by
 refine holds_ref (ann := []) tabOk hm (byL [177, 176] []) Tryz.func134 (by kernel_rfl) rfl ?_
 have hd : (digS.toList == (⟨#[]⟩ : ByteArray).toList) = false := by rw [Lib.toList_data, Lib.toList_data]; decide
 have hs10 : ((digS.size : Nat) : Int) = 10 := rfl
 have hz := list_size s
 have hle : (trR s.data.toList).length ≤ s.size := by
  rw [trR, List.length_reverse]
  have := (List.dropWhile_sublist (p := digC) (l := s.data.toList.reverse)).length_le
  rw [List.length_reverse, hz] at this; exact this
 simp +decide only [Tryz.f134, go_sem]
 refine Runs.split (fun h2 => ?_) (fun h2 => ?_)
 ·have e : s = ⟨#[]⟩ := by
   rw [beq_iff_eq, Lib.toList_data, Lib.toList_data] at h2
   rw [← mkS_list s, h2]; rfl
  simp +decide only [go_sem]
  exact Runs.ret_eq (by rw [e]; rfl)
 ·simp +decide only [hd, hs10, go_sem]
  refine Runs.call (makeSet hm) ?_
  simp +decide only [go_sem]
  have c1 := trimRight hm s.data.toList (by omega)
  rw [mkS_list, setBlk] at c1
  refine Runs.call c1 ?_
  simp +decide only [go_sem]
  have c2 := trimLeft hm (trR s.data.toList) (by omega)
  rw [setBlk] at c2
  refine Runs.call c2 ?_
  simp +decide only [go_sem]
  exact Runs.ret_eq rfl
end Go.Proofs.W

namespace Go.Proofs.W
open Go Go.AM
set_option maxRecDepth 10000
variable (hm : Tryz.prog.follows .mixedOrders = true)
def l8pAnn : Ann := [(0, [0, 1, 5, 6, 7])]
def l8pSt (s : ByteArray) (p : List ByteArray × Nat × Nat) : St := ⟨[.v (.string s), .v (.int .u8 46), .any, .any, .any, .ms (.l 0) 0 p.1.length p.1.length, .v (.int .i64 p.2.1), .v (.int .i64 p.2.2), .any, .any, .any, .any, .any, .any, .any, .any, .any, .any, .any, .any, .any, .any, .any, .any, .any, .any, .any, .any, .any, .any, .any, .any, .any, .any, .any], [(0, ⟨true, 1, false, p.1.map strA⟩)], []⟩
include hm in
theorem l8Parts (s : ByteArray) (h : s.size ≤ 1048576) : Holds Tryz.prog 48 [.v (.string s), .v (.int .u8 46)] [] (.sl (.ow 1) ((partsB s).map strA)) [] := by
 refine holds_of (ann := l8pAnn) tabOk hm Tryz.func48 (by kernel_rfl) rfl ?_
 simp +decide only [Tryz.f48, go_sem]
 have hz := list_size s
 refine Runs.while (α := List ByteArray × Nat × Nat) (l8pSt s) (fun p => s.size - p.2.2) (fun p => p.2.1 ≤ p.2.2 ∧ p.2.2 ≤ s.size ∧ p.1.length ≤ p.2.2 ∧ (∀ b ∈ (s.data.toList.drop p.2.1).take (p.2.2 - p.2.1), b ≠ 46) ∧ partsB s = p.1 ++ partsB (mkS (s.data.toList.drop p.2.1))) ([], 0, 0) ⟨Nat.le_refl _, Nat.zero_le _, Nat.zero_le _, by simp, by simp [mkS_list]⟩ ?_ ?_
 ·simp [go_sem, l8pAnn, l8pSt]
 ·rintro ⟨D, f, i⟩ ⟨hf, hi, hd, hn, hp⟩ ih
  simp only at hf hi hd hn hp
  have hD : (D.map strA).length = D.length := List.length_map _
  simp +decide only [l8pSt, hD, go_sem]
  refine Runs.split (fun h => ?_) (fun h => ?_)
  ·have hlt : i < s.data.toList.length := by simp at h; omega
   have hg : s.data.toList.getD i 0 = s.data.toList[i] := getD_lt hlt
   have hb := UInt8.toNat_lt s.data.toList[i]
   simp +decide (disch := first | omega | (simp only [ll]; omega)) only [hg, if_pos, go_sem]
   have e1 : s.data.toList.drop f = (s.data.toList.drop f).take (i - f) ++ s.data.toList[i] :: s.data.toList.drop (i + 1) := by
    conv => lhs; rw [← List.take_append_drop (i - f) (s.data.toList.drop f)]
    rw [List.drop_drop, show f + (i - f) = i by omega, List.drop_eq_getElem_cons hlt]
   refine Runs.split (fun h2 => ?_) (fun h2 => ?_)
   ·have h46 : s.data.toList[i] = 46 := by
     simp only [decide_eq_true_eq] at h2
     exact UInt8.toNat_inj.mp (by simpa using Int.ofNat.inj h2)
    rw [h46] at e1
    simp +decide (disch := first | omega | (simp only [ll]; omega)) only [if_pos, go_sem]
    have e2 : s.extract f i = mkS ((s.data.toList.drop f).take (i - f)) := mkS_ext s f i
    refine ih (D ++ [s.extract f i], i + 1, i + 1) _ (by simp only; omega) ⟨Nat.le_refl _, by simp only; omega, by simp; omega, by simp, ?_⟩ ?_
    ·simp only
     rw [hp, partsB, mkS_data, e1, partsL_cut 46 _ _ hn, partsB, mkS_data, e2]
     simp
    ·simp [go_sem, l8pAnn, l8pSt, strA]
   ·have h46 : s.data.toList[i] ≠ 46 := by
     intro e
     simp [e] at h2
    simp +decide (disch := first | omega | (simp only [ll]; omega)) only [if_pos, go_sem]
    refine ih (D, f, i + 1) _ (by simp only; omega) ⟨by simp only; omega, by simp only; omega, by simp only; omega, ?_, hp⟩ ?_
    ·simp only
     intro b hb2
     rw [show i + 1 - f = i - f + 1 by omega, List.take_add_one, List.mem_append] at hb2
     rcases hb2 with hb2 | hb2
     ·exact hn b hb2
     ·rw [List.getElem?_drop, show f + (i - f) = i by omega, List.getElem?_eq_getElem hlt] at hb2
      simp at hb2
      rw [hb2]; exact h46
    ·simp [go_sem, l8pAnn, l8pSt]
  ·have hge : i = s.size := by simp at h; omega
   subst hge
   have hn2 : ∀ b ∈ s.data.toList.drop f, b ≠ 46 := by
    intro b hb
    refine hn b ?_
    rw [List.take_of_length_le (by simp)]; exact hb
   have hq : partsB (mkS (s.data.toList.drop f)) = [mkS (s.data.toList.drop f)] := by rw [partsB, mkS_data, partsL_no 46 _ hn2]; rfl
   rw [hq] at hp
   have e2 : s.extract f s.size = mkS (s.data.toList.drop f) := by
    rw [mkS_ext, List.take_of_length_le (by simp)]
   simp +decide (disch := first | omega | (simp only [ll]; omega)) only [List.length_append, List.length_cons, List.length_nil, if_pos, go_sem]
   refine Runs.ret_eq ?_
   rw [hp, e2]
   simp [strA]
def l8dAnn : Ann := [(0, [0, 3])]
def l8dSt (s : ByteArray) (i : Nat) : St := ⟨[.v (.string s), .any, .any, .v (.int .i64 i), .any, .any, .any, .any, .any, .any, .any, .any, .any, .any, .any, .any, .any, .any, .any], [], []⟩
include hm in
theorem l8Digits (s : ByteArray) (h : s.size ≤ 1048576) : Holds Tryz.prog 166 [.v (.string s)] [] (.v (.bool (digitsB s))) [] := by
 refine holds_of (ann := l8dAnn) tabOk hm Tryz.func166 (by kernel_rfl) rfl ?_
 simp +decide only [Tryz.f166, go_sem]
 have hz := list_size s
 refine Runs.while (α := Nat) (l8dSt s) (fun i => s.size - i) (fun i => i ≤ s.size ∧ (s.data.toList.drop i).all digC = s.data.toList.all digC) 0 ⟨by omega, by simp⟩ ?_ ?_
 ·simp [go_sem, l8dAnn, l8dSt]
 ·rintro i ⟨hi, hr⟩ ih
  simp +decide only [l8dSt, go_sem]
  refine Runs.split (fun h => ?_) (fun h => ?_)
  ·have hlt : i < s.data.toList.length := by simp at h; omega
   have hg : s.data.toList.getD i 0 = s.data.toList[i] := getD_lt hlt
   have hb := UInt8.toNat_lt s.data.toList[i]
   rw [List.drop_eq_getElem_cons hlt, List.all_cons] at hr
   simp +decide (disch := first | omega | (simp only [ll]; omega)) only [hg, if_pos, go_sem]
   refine Runs.call (l1In hm _ 48 57) ?_
   simp +decide only [go_sem]
   refine Runs.split (fun h2 => ?_) (fun h2 => ?_)
   ·simp only [Bool.not_eq_true'] at h2
    simp +decide only [go_sem]
    exact Runs.ret_eq (by rw [digitsB, ← hr, digC, h2]; simp)
   ·simp only [Bool.not_eq_false'] at h2
    rw [digC, h2, Bool.true_and] at hr
    simp +decide (disch := first | omega | (simp only [ll]; omega)) only [if_pos, go_sem]
    refine ih (i + 1) _ (by omega) ⟨by omega, hr⟩ ?_
    simp [go_sem, l8dAnn, l8dSt]
  ·have hge : i = s.size := by simp at h; omega
   rw [List.drop_of_length_le (by omega), List.all_nil] at hr
   simp +decide only [go_sem]
   exact Runs.ret_eq (by rw [digitsB, ← hr]; simp)
def l8lAnn : Ann := [(0, [0, 3])]
def l8lSt (s : ByteArray) (i : Nat) : St := ⟨[.v (.string s), .any, .any, .v (.int .i64 i), .any, .any, .any, .any, .any, .any, .any, .any, .any, .any, .any, .any, .any, .any, .any, .any, .any, .any, .any, .any, .any, .any, .any, .any, .any, .any, .any, .any, .any, .any, .any, .any, .any, .any, .any, .any, .any, .any, .any], [], []⟩
include hm in
theorem l8Label (s : ByteArray) (h : s.size ≤ 1048576) : Holds Tryz.prog 165 [.v (.string s)] [] (.v (.bool (labelB s))) [] := by
 refine holds_of (ann := l8lAnn) tabOk hm Tryz.func165 (by kernel_rfl) rfl ?_
 simp +decide only [Tryz.f165, go_sem]
 have hz := list_size s
 refine Runs.while (α := Nat) (l8lSt s) (fun i => s.size - i) (fun i => i ≤ s.size ∧ (s.data.toList.drop i).all okC = s.data.toList.all okC) 0 ⟨by omega, by simp⟩ ?_ ?_
 ·simp [go_sem, l8lAnn, l8lSt]
 ·rintro i ⟨hi, hr⟩ ih
  simp +decide only [l8lSt, go_sem]
  refine Runs.split (fun h => ?_) (fun h => ?_)
  ·have hlt : i < s.data.toList.length := by simp at h; omega
   have hg : s.data.toList.getD i 0 = s.data.toList[i] := getD_lt hlt
   have hb := UInt8.toNat_lt s.data.toList[i]
   rw [List.drop_eq_getElem_cons hlt, List.all_cons] at hr
   have next : okC s.data.toList[i] = true → (s.data.toList.drop (i + 1)).all okC = s.data.toList.all okC := fun h => by rw [← hr, h, Bool.true_and]
   have stop : okC s.data.toList[i] = false → labelB s = false := fun h => by rw [labelB, ← hr, h]; simp
   simp +decide (disch := first | omega | (simp only [ll]; omega)) only [hg, if_pos, go_sem]
   refine Runs.call (l1In hm _ 97 122) ?_
   cases h1 : inB s.data.toList[i].toNat 97 122
   ·simp +decide only [go_sem]
    refine Runs.call (l1In hm _ 48 57) ?_
    cases h2 : inB s.data.toList[i].toNat 48 57
    ·simp +decide only [go_sem]
     cases h3 : decide ((s.data.toList[i].toNat : Int) = 45)
     ·simp +decide only [go_sem]
      exact Runs.ret_eq (by rw [stop (by simp only [okC, digC, dashC, h1, h2, h3]; rfl)])
     ·simp +decide (disch := first | omega | (simp only [ll]; omega)) only [if_pos, go_sem]
      refine ih (i + 1) _ (by omega) ⟨by omega, next (by simp only [okC, digC, dashC, h1, h2, h3]; rfl)⟩ ?_
      simp [go_sem, l8lAnn, l8lSt]
    ·simp +decide (disch := first | omega | (simp only [ll]; omega)) only [if_pos, go_sem]
     refine ih (i + 1) _ (by omega) ⟨by omega, next (by simp only [okC, digC, dashC, h1, h2]; rfl)⟩ ?_
     simp [go_sem, l8lAnn, l8lSt]
   ·simp +decide (disch := first | omega | (simp only [ll]; omega)) only [if_pos, go_sem]
    refine ih (i + 1) _ (by omega) ⟨by omega, next (by simp only [okC, digC, dashC, h1]; rfl)⟩ ?_
    simp [go_sem, l8lAnn, l8lSt]
  ·have hge : i = s.size := by simp at h; omega
   rw [List.drop_of_length_le (by omega), List.all_nil] at hr
   simp +decide only [go_sem]
   refine Runs.call (l1In hm _ 1 20) ?_
   cases h1 : inB s.size 1 20
   ·simp +decide only [go_sem]
    exact Runs.ret_eq (by rw [labelB, h1]; simp)
   ·have hp : 1 ≤ s.size := by simp [inB] at h1; omega
    have ht : ((s.size : Int) - 1).toNat = s.size - 1 := by omega
    have hb0 : decide ((0 : Int) ≤ 0 ∧ (0 : Int) < s.size) = true := by simp; omega
    have hb1 : decide (0 ≤ (s.size : Int) - 1 ∧ (s.size : Int) - 1 < s.size) = true := by simp; omega
    have t0 : Int.toNat 0 = 0 := rfl
    simp +decide (disch := first | omega | (simp only [ll]; omega)) only [hb0, t0, if_pos, go_sem]
    cases h2 : dashC (s.data.toList.getD 0 0) <;> (unfold dashC at h2; simp +decide (disch := first | omega | (simp only [ll]; omega)) only [h2, ht, hb1, if_pos, go_sem]; exact Runs.ret_eq (by simp only [labelB, dashC, ← hr, h1, h2, Bool.true_and, Bool.not_false, Bool.not_true, Bool.false_and]))
def shAnn : Ann := [(0, [0, 3, 4])]
def shSt (s : ByteArray) (i : Nat) : St := ⟨[.v (.string s), .any, .any, .ms (.l 0) 0 (partsB s).length (partsB s).length, .v (.int .i64 i), .any, .any, .any, .any, .any, .any, .any, .any, .any, .any, .any, .any, .any, .any, .any, .any, .any, .any, .any, .any, .any, .any, .any, .any, .any, .any, .any, .any, .any, .any], [(0, ⟨true, 1, false, (partsB s).map strA⟩)], []⟩
include hm in
theorem sHostOk (s : ByteArray) : Holds Tryz.prog 124 [.v (.string s)] [] (.v (.bool (hostB s))) [] := by
 refine holds_of (ann := shAnn) tabOk hm Tryz.func124 (by kernel_rfl) rfl ?_
 simp +decide only [Tryz.f124, go_sem]
 refine Runs.split (fun h => ?_) (fun h => ?_)
 ·simp +decide only [go_sem]
  exact Runs.ret_eq (by simp at h; simp [hostB]; intros; omega)
 ·have h80 : s.size ≤ 80 := by simp at h; omega
  simp +decide only [go_sem]
  refine Runs.call (l8Parts hm s (by omega)) ?_
  have hlen : ((partsB s).map strA).length = (partsB s).length := List.length_map _
  have hle := partsB_le s
  have hpos : 1 ≤ (partsB s).length := by rw [partsB_len]; omega
  simp +decide (disch := first | omega | (simp only [ll]; omega)) only [if_pos, go_sem]
  refine Runs.while (α := Nat) (shSt s) (fun i => (partsB s).length - i) (fun i => i ≤ (partsB s).length ∧ ((partsB s).drop i).all labelB = (partsB s).all labelB) 0 ⟨by omega, by simp⟩ ?_ ?_
  ·simp [go_sem, shAnn, shSt]
  ·rintro i ⟨hi, hr⟩ ih
   simp +decide only [shSt, hlen, go_sem]
   refine Runs.split (fun h => ?_) (fun h => ?_)
   ·have hlt : i < (partsB s).length := by simpa using h
    have hg : ((partsB s).map strA).getD i .any = strA (partsB s)[i] := by simp [List.getD, hlt]
    have hs := partsB_sz s (partsB s)[i] (List.getElem_mem hlt)
    rw [List.drop_eq_getElem_cons hlt, List.all_cons] at hr
    rw [strA] at hg
    simp +decide (disch := first | omega | (simp only [ll]; omega)) only [hlen, hg, if_pos, go_sem]
    refine Runs.call (l8Label hm _ (by omega)) ?_
    cases h1 : labelB (partsB s)[i]
    ·simp +decide only [go_sem]
     exact Runs.ret_eq (by rw [hostB, ← hr, h1]; simp)
    ·rw [h1, Bool.true_and] at hr
     simp +decide (disch := first | omega | (simp only [ll]; omega)) only [if_pos, go_sem]
     refine ih (i + 1) _ (by omega) ⟨by omega, hr⟩ ?_
     simp [go_sem, shAnn, shSt]
   ·have hge : i = (partsB s).length := by simp at h; omega
    rw [hge, List.drop_of_length_le (Nat.le_refl _), List.all_nil] at hr
    simp +decide only [go_sem]
    refine Runs.split (fun h2 => ?_) (fun h2 => ?_)
    ·have hlt : (partsB s).length - 1 < (partsB s).length := by omega
     have ht : (((partsB s).length : Int) - 1).toNat = (partsB s).length - 1 := by omega
     have hg : ((partsB s).map strA).getD ((partsB s).length - 1) .any = strA (lastB (partsB s)) := by simp [List.getD, hlt, lastB]
     rw [strA] at hg
     have hb1 : decide (0 ≤ ((partsB s).length : Int) - 1 ∧ ((partsB s).length : Int) - 1 < (partsB s).length) = true := by simp; omega
     have hmem : lastB (partsB s) ∈ partsB s := by
      rw [lastB, List.getD, List.getElem?_eq_getElem hlt]; exact List.getElem_mem hlt
     have hs := partsB_sz s _ hmem
     simp +decide (disch := first | omega | (simp only [ll]; omega)) only [hlen, ht, hg, hb1, if_pos, go_sem]
     refine Runs.call (l8Digits hm _ (by omega)) ?_
     simp +decide only [go_sem]
     refine Runs.ret_eq ?_
     have hl := List.all_eq_true.mp hr.symm _ hmem
     have hp : 1 ≤ (lastB (partsB s)).size := by
      simp only [labelB, Bool.and_eq_true, inB, decide_eq_true_eq] at hl; omega
     have hp2 : decide (((lastB (partsB s)).size : Int) > 0) = true := by simp; omega
     have h80' : decide (s.size ≤ 80) = true := by simp; omega
     have h8 : decide ((partsB s).length ≤ 8) = true := by simp at h2; simp; omega
     simp only [hostB, digitsB, h80', ← hr, h8, hp2, Bool.true_and, Bool.and_true]
    ·simp +decide only [go_sem]
     exact Runs.ret_eq (by simp at h2; simp [hostB]; intros; omega)
end Go.Proofs.W

namespace Go.Proofs.W
open Go Go.AM
variable (hm : Tryz.prog.follows .mixedOrders = true)
theorem not_all_label (L : List ByteArray) : (L.any fun s => !labelB s) = !L.all labelB := by
 induction L with
 | nil => rfl
 | cons a l ih => rw [List.any_cons, List.all_cons, ih, Bool.not_and]
set_option maxRecDepth 10000 in
include hm in
theorem iHostOk (s : ByteArray) : Holds Tryz.prog 98 [.v (.string s)] [] (.v (.bool (hostB s))) [] := by
 refine holds_of (ann := []) tabOk hm Tryz.func98 (by kernel_rfl) rfl ?_
 simp +decide only [Tryz.f98, go_sem]
 refine Runs.split (fun h => ?_) (fun h => ?_)
 ·simp +decide only [go_sem]
  exact Runs.ret_eq (by simp at h; simp [hostB]; intros; omega)
 ·have h80 : s.size ≤ 80 := by simp at h; omega
  simp +decide only [go_sem]
  refine Runs.call (split1 hm s (by omega)) ?_
  have hlen : ((partsB s).map strA).length = (partsB s).length := List.length_map _
  have hle := partsB_le s
  have hpos : 1 ≤ (partsB s).length := by rw [partsB_len]; omega
  simp +decide (disch := first | omega | (simp only [ll]; omega)) only [hlen, if_pos, go_sem]
  refine Runs.split (fun h2 => ?_) (fun h2 => ?_)
  ·simp +decide only [go_sem]
   exact Runs.ret_eq (by simp at h2; simp [hostB]; intros; omega)
  ·simp +decide only [hlen, go_sem]
   have c := contFunc0 hm 132 (partsB s) (fun s => !labelB s) (by omega) (fun p hp => notLabel hm p (by have := partsB_sz s p hp; omega))
   rw [not_all_label] at c
   refine Runs.call c ?_
   cases h3 : (partsB s).all labelB
   ·simp +decide only [go_sem]
    exact Runs.ret_eq (by simp [hostB, h3])
   ·have hlt : (partsB s).length - 1 < (partsB s).length := by omega
    have ht : (((partsB s).length : Int) - 1).toNat = (partsB s).length - 1 := by omega
    have hg : ((partsB s).map strA).getD ((partsB s).length - 1) .any = .v (.string (lastB (partsB s))) := by simp [List.getD, hlt, lastB, strA]
    have hb1 : decide (0 ≤ ((partsB s).length : Int) - 1 ∧ ((partsB s).length : Int) - 1 < (partsB s).length) = true := by simp; omega
    have hmem : lastB (partsB s) ∈ partsB s := by
     rw [lastB, List.getD, List.getElem?_eq_getElem hlt]; exact List.getElem_mem hlt
    have hs := partsB_sz s _ hmem
    simp +decide (disch := first | omega | (simp only [ll]; omega)) only [hlen, ht, hg, hb1, if_pos, go_sem]
    have c2 := trim1 hm (lastB (partsB s)) (by omega)
    rw [digS] at c2
    refine Runs.call c2 ?_
    simp +decide only [go_sem]
    refine Runs.ret_eq ?_
    have h80' : decide (s.size ≤ 80) = true := by simp; omega
    have h8 : decide ((partsB s).length ≤ 8) = true := by simp at h2; simp; omega
    rw [trimD_nil]
    simp only [hostB, h80', h3, h8, Bool.true_and]
end Go.Proofs.W

namespace Go.Proofs.W
open Go Go.AM
set_option maxRecDepth 10000
variable (hm : Tryz.prog.follows .mixedOrders = true)
def starP : ByteArray := ⟨#[42, 46]⟩
def starB (s : ByteArray) : Bool := decide (s.size ≥ 2) && ((s.extract 0 2).toList == starP.toList)
def patB (s : ByteArray) : Bool := if starB s = true then hostB (s.extract 2 s.size) && decide ((partsB (s.extract 2 s.size)).length ≥ 2) else hostB s
theorem host_nil : hostB ⟨#[]⟩ = false := by
 have e : (partsB ⟨#[]⟩) = [mkS []] := rfl
 simp only [hostB, e, List.all_cons, labelB, mkS_size, inB]
 simp
theorem starP_size : starP.size = 2 := rfl
theorem host_star2 {s : ByteArray} (h : s.size = 2) (h2 : starB s = true) : hostB s = false := by
 have hz := list_size s
 have e : s.extract 0 2 = s := by
  rw [mkS_ext]
  conv => rhs; rw [← mkS_list s]
  rw [List.drop_zero, List.take_of_length_le (by omega)]
 simp only [starB, e, Bool.and_eq_true, beq_iff_eq, Lib.toList_data] at h2
 have e3 : s = starP := by rw [← mkS_list s, h2.2]; rfl
 rw [e3]
 have e4 : partsB starP = [mkS [42], mkS []] := rfl
 simp only [hostB, e4, List.all_cons, labelB, mkS_size, inB]
 simp
include hm in
theorem l8Star (s : ByteArray) (h : s.size ≤ 1048576) : Holds Tryz.prog 47 [.v (.string s)] [] (.v (.bool (decide (s.size > 2) && starB s))) [] := by
 refine holds_of (ann := []) tabOk hm Tryz.func47 (by kernel_rfl) rfl ?_
 simp +decide only [Tryz.f47, go_sem]
 cases h2 : decide ((s.size : Int) > 2)
 ·have e : decide (s.size > 2) = false := by simp at h2; simp; omega
  simp +decide only [e, Bool.false_and, go_sem]
  exact Runs.ret_v
 ·have e : decide (s.size > 2) = true := by simp at h2; simp; omega
  have e2 : decide (s.size ≥ 2) = true := by simp at h2; simp; omega
  have b1 : decide ((0 : Int) ≤ 0 ∧ (0 : Int) ≤ 2 ∧ (2 : Int) ≤ s.size) = true := by simp at h2; simp; omega
  have b2 : decide ((0 : Int) ≤ 2 ∧ (2 : Int) ≤ s.size) = true := by simp at h2; simp; omega
  have b3 : decide ((2 : Int) ≤ s.size) = true := by simp at h2; simp; omega
  have t0 : Int.toNat 0 = 0 := rfl
  have t2 : Int.toNat 2 = 2 := rfl
  simp +decide (disch := first | omega | (simp only [ll]; omega)) only [e, b1, b2, b3, t0, t2, if_pos, go_sem]
  exact Runs.ret_eq (by simp only [starB, e2, Bool.true_and, starP])
include hm in
theorem sPatOk (s : ByteArray) (h : s.size ≤ 1048576) : Holds Tryz.prog 123 [.v (.string s)] [] (.v (.bool (patB s))) [] := by
 refine holds_of (ann := []) tabOk hm Tryz.func123 (by kernel_rfl) rfl ?_
 simp +decide only [Tryz.f123, go_sem]
 refine Runs.call (l8Star hm s h) ?_
 cases h2 : decide (s.size > 2) && starB s
 ·simp +decide only [go_sem]
  refine Runs.call (sHostOk hm s) ?_
  simp +decide only [go_sem]
  refine Runs.ret_eq ?_
  rw [patB]
  cases h3 : starB s
  ·rfl
  ·have hs : s.size = 2 := by
    rw [h3, Bool.and_true] at h2
    simp at h2
    simp only [starB, Bool.and_eq_true, decide_eq_true_eq] at h3
    omega
   rw [host_star2 hs h3]
   have e : s.extract 2 s.size = ⟨#[]⟩ := by rw [mkS_ext, hs]; simp [mkS]
   rw [e, host_nil]; rfl
 ·rw [Bool.and_eq_true] at h2
  have h3 := h2.1
  have hs : 2 < s.size := by simpa using h3
  have b1 : decide ((0 : Int) ≤ 2 ∧ (2 : Int) ≤ s.size ∧ (s.size : Int) ≤ s.size) = true := by simp; omega
  have b2 : decide ((2 : Int) ≤ s.size ∧ (s.size : Int) ≤ s.size) = true := by simp; omega
  have t2 : Int.toNat 2 = 2 := rfl
  simp +decide (disch := first | omega | (simp only [ll]; omega)) only [b1, b2, t2, if_pos, go_sem]
  refine Runs.call (sHostOk hm _) ?_
  cases h4 : hostB (s.extract 2 s.size)
  ·simp +decide only [go_sem]
   exact Runs.ret_eq (by rw [patB, h2.2, h4]; simp)
  ·have hsz : (s.extract 2 s.size).size ≤ 1048576 := by rw [mkS_ext, mkS_size]; simp; have := list_size s; omega
   have hl : ((partsB (s.extract 2 s.size)).map strA).length = (partsB (s.extract 2 s.size)).length := List.length_map _
   simp +decide (disch := first | omega | (simp only [ll]; omega)) only [b1, b2, t2, if_pos, go_sem]
   refine Runs.call (l8Parts hm _ hsz) ?_
   simp +decide (disch := first | omega | (simp only [ll]; omega)) only [hl, if_pos, go_sem]
   refine Runs.ret_eq ?_
   have e9 : decide (((partsB (s.extract 2 s.size)).length : Int) ≥ 2) = decide ((partsB (s.extract 2 s.size)).length ≥ 2) := by rw [decide_eq_decide]; omega
   rw [patB, h2.2, h4, if_pos rfl, Bool.true_and, e9]
include hm in
theorem cutStar (s : ByteArray) (h : s.size ≤ 1048576) : Holds Tryz.prog 113 [.v (.string s), .v (.string starP)] [] (.tup [.v (.string (if starB s = true then s.extract 2 s.size else s)), .v (.bool (starB s))]) [] := by
 have hs2 : ((starP.size : Nat) : Int) = 2 := rfl
 have t0 : Int.toNat 0 = 0 := rfl
 have t2 : Int.toNat 2 = 2 := rfl
 have c1 : Holds Tryz.prog 143 [.v (.string s), .v (.string starP)] [] (.v (.bool (starB s))) [] := by
  refine holds_of (ann := []) tabOk hm Tryz.func143 (by kernel_rfl) rfl ?_
  simp +decide only [Tryz.f143, hs2, go_sem]
  cases h2 : decide ((s.size : Int) ≥ 2)
  ·have e2 : decide (s.size ≥ 2) = false := by simp at h2; simp; omega
   simp +decide only [go_sem]
   exact Runs.ret_eq (by rw [starB, e2, Bool.false_and])
  ·have e2 : decide (s.size ≥ 2) = true := by simp at h2; simp; omega
   have b1 : decide ((0 : Int) ≤ 0 ∧ (0 : Int) ≤ 2 ∧ (2 : Int) ≤ s.size) = true := by simp at h2; simp; omega
   have b3 : decide ((2 : Int) ≤ s.size) = true := by simp at h2; simp; omega
   simp +decide (disch := first | omega | (simp only [ll]; omega)) only [hs2, b1, b3, t0, t2, if_pos, go_sem]
   exact Runs.ret_eq (by rw [starB, e2, Bool.true_and])
 have c2 : Holds Tryz.prog 151 [.v (.string s), .v (.string starP)] [] (.tup [.v (.string (if starB s = true then s.extract 2 s.size else s)), .v (.bool (starB s))]) [] := by
  refine holds_of (ann := []) tabOk hm Tryz.func151 (by kernel_rfl) rfl ?_
  simp +decide only [Tryz.f151, go_sem]
  refine Runs.call c1 ?_
  cases h2 : starB s
  ·simp +decide only [go_sem]
   exact Runs.ret_refl
  ·have hsz : 2 ≤ s.size := by simp only [starB, Bool.and_eq_true, decide_eq_true_eq] at h2; omega
   have b1 : decide ((0 : Int) ≤ 2 ∧ (2 : Int) ≤ s.size ∧ (s.size : Int) ≤ s.size) = true := by simp; omega
   have b2 : decide ((2 : Int) ≤ s.size ∧ (s.size : Int) ≤ s.size) = true := by simp; omega
   simp +decide (disch := first | omega | (simp only [ll]; omega)) only [hs2, b1, b2, t2, if_pos, go_sem]
   exact Runs.ret_refl
 refine holds_of (ann := []) tabOk hm Tryz.func113 (by kernel_rfl) rfl ?_
 simp +decide only [Tryz.f113, go_sem]
 refine Runs.call c2 ?_
 simp +decide only [go_sem]
 exact Runs.ret_refl
include hm in
theorem hasDot (s : ByteArray) : Holds Tryz.prog 131 [.v (.string s), .v (.string ⟨#[46]⟩)] [] (.v (.bool (decide ((partsB s).length ≥ 2)))) [] := by
 refine holds_of (ann := []) tabOk hm Tryz.func131 (by kernel_rfl) rfl ?_
 simp +decide only [Tryz.f131, go_sem]
 refine Runs.call (sindex1 hm s) ?_
 simp +decide only [go_sem]
 refine Runs.ret_eq ?_
 congr 2
 rw [decide_eq_decide, partsB_len]
 rcases indexByte_lt s.data.toList 46 with h | ⟨m, h, hl⟩
 ·have := List.count_eq_zero.mpr (fun hc => idx_none h 46 hc rfl)
  rw [h, this]; omega
 ·obtain ⟨p, r, e1, e2, e3⟩ := idx_some h
  rw [h, e1, count_cut e3]; omega
include hm in
theorem iPatOk (s : ByteArray) (h : s.size ≤ 1048576) : Holds Tryz.prog 97 [.v (.string s)] [] (.v (.bool (patB s))) [] := by
 refine holds_of (ann := []) tabOk hm Tryz.func97 (by kernel_rfl) rfl ?_
 simp +decide only [Tryz.f97, go_sem]
 have c := cutStar hm s h
 rw [starP] at c
 refine Runs.call c ?_
 cases h2 : starB s
 ·simp +decide only [go_sem]
  refine Runs.call (iHostOk hm s) ?_
  cases h3 : hostB s
  ·simp +decide only [go_sem]
   exact Runs.ret_eq (by simp [patB, h2, h3])
  ·simp +decide only [go_sem]
   exact Runs.ret_eq (by simp [patB, h2, h3])
 ·simp +decide only [go_sem]
  refine Runs.call (iHostOk hm _) ?_
  cases h3 : hostB (s.extract 2 s.size)
  ·simp +decide only [go_sem]
   exact Runs.ret_eq (by simp [patB, h2, h3])
  ·simp +decide only [go_sem]
   refine Runs.call (hasDot hm _) ?_
   simp +decide only [go_sem]
   exact Runs.ret_eq (by simp [patB, h2, h3])
end Go.Proofs.W

namespace Go.Proofs.W
open Go Go.AM
set_option maxRecDepth 10000
variable (hm : Tryz.prog.follows .mixedOrders = true)
def szI (n : Nat) (left : Int) : Int := if left - n < 0 then -1 else left - n
def szGo : List ByteArray → Int → Int
 | [], l => l
 | s :: r, l => if l - s.size < 0 then -1 else szGo r (l - s.size)
def szS (L : List ByteArray) (left : Int) : Int := if left - L.length < 0 then -1 else szGo L (left - L.length)
theorem szGo_le (L : List ByteArray) (l : Int) (h : 0 ≤ l) : szGo L l ≤ l ∧ -1 ≤ szGo L l := by
 induction L generalizing l with
 | nil => simp [szGo]; omega
 | cons s r ih =>
  simp only [szGo]
  split
  ·omega
  ·have := ih (l - s.size) (by omega); omega
theorem szS_le (L : List ByteArray) (l : Int) (h : 0 ≤ l) : szS L l ≤ l := by
 unfold szS
 split
 ·omega
 ·have := szGo_le L (l - L.length) (by omega); omega
theorem szI_le (n : Nat) (l : Int) (h : 0 ≤ l) : szI n l ≤ l ∧ -1 ≤ szI n l := by
 unfold szI
 split <;> omega
theorem szS_len (L : List ByteArray) (l : Int) (h : ¬ szS L l < 0) (hl : l ≤ 1048576) : L.length ≤ 1048576 := by
 unfold szS at h
 split at h
 ·exact absurd (by omega) h
 ·omega
theorem szI_len (n : Nat) (l : Int) (h : ¬ szI n l < 0) (hl : l ≤ 1048576) : n ≤ 1048576 := by
 unfold szI at h
 split at h
 ·exact absurd (by omega) h
 ·omega
include hm in
theorem szIntS (es : List A) (left : Int) (h1 : 0 ≤ left) (h2 : left ≤ 1048576) (h3 : es.length ≤ 9223372036854775807) :
  Holds Tryz.prog 38 [.sl .sh es, .v (.int .i64 left)] [] (.v (.int .i64 (szI es.length left))) [] := by
 refine holds_of (ann := []) tabOk hm Tryz.func38 (by kernel_rfl) rfl ?_
 simp +decide (disch := first | omega | (simp only [ll]; omega)) only [Tryz.f38, if_pos, go_sem]
 refine Runs.split (fun h => ?_) (fun h => ?_)
 ·simp only [decide_eq_true_eq] at h
  simp +decide only [szI, if_pos h, go_sem]
  exact Runs.ret_v
 ·simp only [decide_eq_false_iff_not] at h
  simp +decide only [szI, if_neg h, go_sem]
  exact Runs.ret_v
include hm in
theorem szByteS (es : List A) (left : Int) (h1 : 0 ≤ left) (h2 : left ≤ 1048576) (h3 : es.length ≤ 9223372036854775807) :
  Holds Tryz.prog 24 [.sl .sh es, .v (.int .i64 left)] [] (.v (.int .i64 (szI es.length left))) [] := by
 refine holds_of (ann := []) tabOk hm Tryz.func24 (by kernel_rfl) rfl ?_
 simp +decide (disch := first | omega | (simp only [ll]; omega)) only [Tryz.f24, if_pos, go_sem]
 refine Runs.split (fun h => ?_) (fun h => ?_)
 ·simp only [decide_eq_true_eq] at h
  simp +decide only [szI, if_pos h, go_sem]
  exact Runs.ret_v
 ·simp only [decide_eq_false_iff_not] at h
  simp +decide only [szI, if_neg h, go_sem]
  exact Runs.ret_v
def szAnn : Ann := [(0, [0, 1, 5])]
def szSt (L : List ByteArray) (p : Nat × Int) : St := ⟨[.sl .sh (L.map strA), .v (.int .i64 p.2), .any, .any, .any, .v (.int .i64 p.1), .any, .any, .any, .any, .any, .any, .any, .any, .any, .any, .any, .any, .any, .any, .any, .any, .any, .any, .any, .any, .any, .any], [], []⟩
include hm in
theorem szStringS (L : List ByteArray) (left : Int) (h1 : 0 ≤ left) (h2 : left ≤ 1048576) (h3 : L.length ≤ 9223372036854775807) (h4 : ∀ s ∈ L, s.size ≤ 9223372036854775807) :
  Holds Tryz.prog 21 [.sl .sh (L.map strA), .v (.int .i64 left)] [] (.v (.int .i64 (szS L left))) [] := by
 refine holds_of (ann := szAnn) tabOk hm Tryz.func21 (by kernel_rfl) rfl ?_
 simp +decide (disch := first | omega | (simp only [ll]; omega)) only [Tryz.f21, if_pos, go_sem]
 refine Runs.split (fun h => ?_) (fun h => ?_)
 ·simp only [decide_eq_true_eq] at h
  simp +decide only [szS, if_pos h, go_sem]
  exact Runs.ret_v
 ·simp only [decide_eq_false_iff_not] at h
  simp +decide only [go_sem]
  refine Runs.while (α := Nat × Int) (szSt L) (fun p => L.length - p.1) (fun p => p.1 ≤ L.length ∧ 0 ≤ p.2 ∧ p.2 ≤ 1048576 ∧ szGo (L.drop p.1) p.2 = szS L left) (0, left - L.length) ⟨by simp, by simp; omega, by simp; omega, by simp [szS, h]⟩ ?_ ?_
  ·simp [go_sem, szAnn, szSt]
  ·rintro ⟨i, l⟩ ⟨hi, hl1, hl2, hr⟩ ih
   simp only at hi hl1 hl2 hr
   simp +decide only [szSt, go_sem]
   refine Runs.split (fun h => ?_) (fun h => ?_)
   ·have hlt : i < L.length := by simpa using h
    have hsz := h4 L[i] (List.getElem_mem hlt)
    rw [List.drop_eq_getElem_cons hlt] at hr
    simp only [szGo] at hr
    simp +decide (disch := first | omega | (simp only [ll]; omega)) only [if_pos, go_sem]
    refine Runs.split (fun h => ?_) (fun h => ?_)
    ·simp only [decide_eq_true_eq] at h
     rw [if_pos h] at hr
     simp +decide only [← hr, go_sem]
     exact Runs.ret_v
    ·simp only [decide_eq_false_iff_not] at h
     rw [if_neg h] at hr
     simp +decide (disch := first | omega | (simp only [ll]; omega)) only [if_pos, go_sem]
     refine ih (i + 1, l - L[i].size) _ (by simp only; omega) ⟨hlt, by simp only; omega, by simp only; omega, hr⟩ ?_
     simp [go_sem, szAnn, szSt]
   ·have hge : i = L.length := by simp at h; omega
    subst hge
    simp only [List.drop_length, szGo] at hr
    simp +decide only [← hr, go_sem]
    exact Runs.ret_v
end Go.Proofs.W

namespace Go.Proofs.W
open Go Go.AM
set_option maxRecDepth 10000
variable (hm : Tryz.prog.follows .mixedOrders = true)
def fillS {α : Type} (g : α → A) (L : List α) (z : A) (i : Nat) : List A := (L.take i).map g ++ List.replicate (L.length - i) z
theorem fillS_length {α : Type} (g : α → A) (L : List α) (z : A) (i : Nat) (h : i ≤ L.length) : (fillS g L z i).length = L.length := by simp [fillS]; omega
theorem fillS_zero {α : Type} (g : α → A) (L : List α) (z : A) : fillS g L z 0 = List.replicate L.length z := by simp [fillS]
theorem fillS_all {α : Type} (g : α → A) (L : List α) (z : A) : fillS g L z L.length = L.map g := by simp [fillS]
theorem fillS_set {α : Type} (g : α → A) (L : List α) (z : A) (i : Nat) (h : i < L.length) : (fillS g L z i).set i (g L[i]) = fillS g L z (i + 1) := by
 unfold fillS
 have e : L.length - i = (L.length - (i + 1)) + 1 := by omega
 rw [List.set_append_right _ _ (by simp; omega), e, List.replicate_succ]
 have hl : ((L.take i).map g).length = i := by simp; omega
 rw [hl, Nat.sub_self, List.set_cons_zero, List.take_succ_eq_append_getElem h, List.map_append, List.append_assoc]
 rfl
theorem fillS_get {α : Type} (g : α → A) (L : List α) (z : A) (i : Nat) (h : i < L.length) : (fillS g L z i).getD i .any = z := by
 unfold fillS
 have hl : ((L.take i).map g).length = i := by simp; omega
 rw [List.getD, List.getElem?_append_right (by omega), hl, Nat.sub_self]
 have e : L.length - i = (L.length - (i + 1)) + 1 := by omega
 rw [e, List.replicate_succ]
 rfl
def toAnn : Ann := [(0, [0, 3, 4])]
def toStringSt (L : List ByteArray) (i : Nat) : St := ⟨[.sl .sh (L.map strA), .any, .any, .ms (.l 0) 0 L.length L.length, .v (.int .i64 i), .any, .any, .any, .any, .any, .any, .any, .any, .any, .any, .any, .any, .any, .any, .any, .any, .any], [(0, ⟨true, 1, false, fillS strA L (.v (.string ⟨#[]⟩)) i⟩)], []⟩
include hm in
theorem toStringS (L : List ByteArray) (h3 : L.length ≤ 1048576) : Holds Tryz.prog 27 [.sl .sh (L.map strA)] [] (.sl (.ow 1) (L.map strA)) [] := by
 refine holds_of (ann := toAnn) tabOk hm Tryz.func27 (by kernel_rfl) rfl ?_
 simp +decide (disch := first | omega | (simp only [ll]; omega)) only [Tryz.f27, if_pos, go_sem]
 refine Runs.while (α := Nat) (toStringSt L) (fun i => L.length - i) (fun i => i ≤ L.length) 0 (by omega) ?_ ?_
 ·simp [go_sem, toAnn, toStringSt, fillS_zero]
 ·intro i hi ih
  have hlen := fillS_length strA L (.v (.string ⟨#[]⟩)) i hi
  simp +decide only [toStringSt, hlen, go_sem]
  refine Runs.split (fun h => ?_) (fun h => ?_)
  ·have hlt : i < L.length := by simpa using h
   have hg := fillS_get strA L (.v (.string ⟨#[]⟩)) i hlt
   have hs : (fillS strA L (.v (.string ⟨#[]⟩)) i).set i (strA L[i]) = _ := fillS_set strA L (.v (.string ⟨#[]⟩)) i hlt
   simp only [strA] at hs
   simp +decide (disch := first | omega | (simp only [ll]; omega)) only [hlen, hg, hs, if_pos, go_sem]
   refine ih (i + 1) _ (by omega) hlt ?_
   simp [go_sem, toAnn, toStringSt]
  ·have hge : i = L.length := by simp at h; omega
   subst hge
   simp +decide only [hlen, fillS_all, go_sem]
   exact Runs.ret_refl
def toIntSt (L : List Int) (i : Nat) : St := ⟨[.sl .sh (L.map intA), .any, .any, .ms (.l 0) 0 L.length L.length, .v (.int .i64 i), .any, .any, .any, .any, .any, .any, .any, .any, .any, .any, .any, .any, .any, .any, .any, .any, .any], [(0, ⟨true, 1, false, fillS intA L (.v (.int .i64 0)) i⟩)], []⟩
include hm in
theorem toIntS (L : List Int) (h3 : L.length ≤ 1048576) : Holds Tryz.prog 54 [.sl .sh (L.map intA)] [] (.sl (.ow 1) (L.map intA)) [] := by
 refine holds_of (ann := toAnn) tabOk hm Tryz.func54 (by kernel_rfl) rfl ?_
 simp +decide (disch := first | omega | (simp only [ll]; omega)) only [Tryz.f54, if_pos, go_sem]
 refine Runs.while (α := Nat) (toIntSt L) (fun i => L.length - i) (fun i => i ≤ L.length) 0 (by omega) ?_ ?_
 ·simp [go_sem, toAnn, toIntSt, fillS_zero]
 ·intro i hi ih
  have hlen := fillS_length intA L (.v (.int .i64 0)) i hi
  simp +decide only [toIntSt, hlen, go_sem]
  refine Runs.split (fun h => ?_) (fun h => ?_)
  ·have hlt : i < L.length := by simpa using h
   have hg := fillS_get intA L (.v (.int .i64 0)) i hlt
   have hs : (fillS intA L (.v (.int .i64 0)) i).set i (intA L[i]) = _ := fillS_set intA L (.v (.int .i64 0)) i hlt
   simp only [intA] at hs
   simp +decide (disch := first | omega | (simp only [ll]; omega)) only [hlen, hg, hs, if_pos, go_sem]
   refine ih (i + 1) _ (by omega) hlt ?_
   simp [go_sem, toAnn, toIntSt]
  ·have hge : i = L.length := by simp at h; omega
   subst hge
   simp +decide only [hlen, fillS_all, go_sem]
   exact Runs.ret_refl
def toByteSt (L : List Int) (i : Nat) : St := ⟨[.sl .sh (L.map u8A), .any, .any, .ms (.l 0) 0 L.length L.length, .v (.int .i64 i), .any, .any, .any, .any, .any, .any, .any, .any, .any, .any, .any, .any, .any, .any, .any, .any, .any], [(0, ⟨true, 1, false, fillS u8A L (.v (.int .u8 0)) i⟩)], []⟩
include hm in
theorem toByteS (L : List Int) (h3 : L.length ≤ 1048576) : Holds Tryz.prog 30 [.sl .sh (L.map u8A)] [] (.sl (.ow 1) (L.map u8A)) [] := by
 refine holds_of (ann := toAnn) tabOk hm Tryz.func30 (by kernel_rfl) rfl ?_
 simp +decide (disch := first | omega | (simp only [ll]; omega)) only [Tryz.f30, if_pos, go_sem]
 refine Runs.while (α := Nat) (toByteSt L) (fun i => L.length - i) (fun i => i ≤ L.length) 0 (by omega) ?_ ?_
 ·simp [go_sem, toAnn, toByteSt, fillS_zero]
 ·intro i hi ih
  have hlen := fillS_length u8A L (.v (.int .u8 0)) i hi
  simp +decide only [toByteSt, hlen, go_sem]
  refine Runs.split (fun h => ?_) (fun h => ?_)
  ·have hlt : i < L.length := by simpa using h
   have hg := fillS_get u8A L (.v (.int .u8 0)) i hlt
   have hs : (fillS u8A L (.v (.int .u8 0)) i).set i (u8A L[i]) = _ := fillS_set u8A L (.v (.int .u8 0)) i hlt
   simp only [u8A] at hs
   simp +decide (disch := first | omega | (simp only [ll]; omega)) only [hlen, hg, hs, if_pos, go_sem]
   refine ih (i + 1) _ (by omega) hlt ?_
   simp [go_sem, toAnn, toByteSt]
  ·have hge : i = L.length := by simp at h; omega
   subst hge
   simp +decide only [hlen, fillS_all, go_sem]
   exact Runs.ret_refl
end Go.Proofs.W

namespace Go.Proofs.W
open Go Go.AM
set_option maxRecDepth 10000
variable (hm : Tryz.prog.follows .mixedOrders = true)
def eqAnn : Ann := [(0, [0, 1, 5])]
def eqSched : Sched := .take 0 (.take 1 (.take 2 (.take 4 (.take 5 (.take 6 (.alt 3 (.alt 7 (.take 8 .fin) .nil) (.alt 7 (.alt 3 (.take 8 .fin) .nil) .nil)))))))
attribute [local go_sem] eqSched
def eqStringSt (L : List ByteArray) (i : Nat) : St := ⟨[.sl .sh (L.map strA), .sl .sh (L.map strA), .any, .any, .any, .v (.int .i64 i), .any, .any, .any, .any, .any, .any, .any, .any, .any, .any, .any, .any, .any, .any, .any, .any, .any, .any, .any, .any], [], []⟩
include hm in
theorem eqStringS (L : List ByteArray) (h3 : L.length ≤ 9223372036854775807) : Holds Tryz.prog 33 [.sl .sh (L.map strA), .sl .sh (L.map strA)] [] (.v (.bool true)) [] := by
 refine holds_of (ann := eqAnn) tabOk hm Tryz.func33 (by kernel_rfl) rfl ?_
 simp +decide only [Tryz.f33, go_sem]
 refine Runs.while (α := Nat) (eqStringSt L) (fun i => L.length - i) (fun i => i ≤ L.length) 0 (by omega) ?_ ?_
 ·simp [go_sem, eqAnn, eqStringSt]
 ·intro i hi ih
  simp +decide only [eqStringSt, go_sem]
  refine Runs.split (fun h => ?_) (fun h => ?_)
  ·have hlt : i < L.length := by simpa using h
   simp +decide only [go_sem]
   refine Runs.draw (st1 := ?s1) (draws_by (ann := []) tabOk eqSched (by kernel_rfl) ?p1) ?q1
   case p1 =>
    intro K r X hK
    simp +decide (disch := first | omega | (simp only [ll]; omega)) only [if_pos, go_sem]
    exact hK
   case q1 =>
    simp +decide (disch := first | omega | (simp only [ll]; omega)) only [if_pos, go_sem]
    refine ih (i + 1) _ (by omega) hlt ?_
    simp [go_sem, eqAnn, eqStringSt]
  ·simp +decide only [go_sem]
   exact Runs.ret_v
def eqIntSt (L : List Int) (i : Nat) : St := ⟨[.sl .sh (L.map intA), .sl .sh (L.map intA), .any, .any, .any, .v (.int .i64 i), .any, .any, .any, .any, .any, .any, .any, .any, .any, .any, .any, .any, .any, .any, .any, .any, .any, .any, .any, .any], [], []⟩
include hm in
theorem eqIntS (L : List Int) (h3 : L.length ≤ 9223372036854775807) : Holds Tryz.prog 8 [.sl .sh (L.map intA), .sl .sh (L.map intA)] [] (.v (.bool true)) [] := by
 refine holds_of (ann := eqAnn) tabOk hm Tryz.func8 (by kernel_rfl) rfl ?_
 simp +decide only [Tryz.f8, go_sem]
 refine Runs.while (α := Nat) (eqIntSt L) (fun i => L.length - i) (fun i => i ≤ L.length) 0 (by omega) ?_ ?_
 ·simp [go_sem, eqAnn, eqIntSt]
 ·intro i hi ih
  simp +decide only [eqIntSt, go_sem]
  refine Runs.split (fun h => ?_) (fun h => ?_)
  ·have hlt : i < L.length := by simpa using h
   simp +decide only [go_sem]
   refine Runs.draw (st1 := ?s1) (draws_by (ann := []) tabOk eqSched (by kernel_rfl) ?p1) ?q1
   case p1 =>
    intro K r X hK
    simp +decide (disch := first | omega | (simp only [ll]; omega)) only [if_pos, go_sem]
    exact hK
   case q1 =>
    simp +decide (disch := first | omega | (simp only [ll]; omega)) only [if_pos, go_sem]
    refine ih (i + 1) _ (by omega) hlt ?_
    simp [go_sem, eqAnn, eqIntSt]
  ·simp +decide only [go_sem]
   exact Runs.ret_v
def eqByteSt (L : List Int) (i : Nat) : St := ⟨[.sl .sh (L.map u8A), .sl .sh (L.map u8A), .any, .any, .any, .v (.int .i64 i), .any, .any, .any, .any, .any, .any, .any, .any, .any, .any, .any, .any, .any, .any, .any, .any, .any, .any, .any, .any], [], []⟩
include hm in
theorem eqByteS (L : List Int) (h3 : L.length ≤ 9223372036854775807) : Holds Tryz.prog 36 [.sl .sh (L.map u8A), .sl .sh (L.map u8A)] [] (.v (.bool true)) [] := by
 refine holds_of (ann := eqAnn) tabOk hm Tryz.func36 (by kernel_rfl) rfl ?_
 simp +decide only [Tryz.f36, go_sem]
 refine Runs.while (α := Nat) (eqByteSt L) (fun i => L.length - i) (fun i => i ≤ L.length) 0 (by omega) ?_ ?_
 ·simp [go_sem, eqAnn, eqByteSt]
 ·intro i hi ih
  simp +decide only [eqByteSt, go_sem]
  refine Runs.split (fun h => ?_) (fun h => ?_)
  ·have hlt : i < L.length := by simpa using h
   simp +decide only [go_sem]
   refine Runs.draw (st1 := ?s1) (draws_by (ann := []) tabOk eqSched (by kernel_rfl) ?p1) ?q1
   case p1 =>
    intro K r X hK
    simp +decide (disch := first | omega | (simp only [ll]; omega)) only [if_pos, go_sem]
    exact hK
   case q1 =>
    simp +decide (disch := first | omega | (simp only [ll]; omega)) only [if_pos, go_sem]
    refine ih (i + 1) _ (by omega) hlt ?_
    simp [go_sem, eqAnn, eqByteSt]
  ·simp +decide only [go_sem]
   exact Runs.ret_v
end Go.Proofs.W

namespace Go.Proofs.W
open Go Go.AM
set_option maxRecDepth 10000
variable (hm : Tryz.prog.follows .mixedOrders = true)
def rowS (l : List Int) : A := .sl .sh (l.map intA)
def rowO (l : List Int) : A := .sl (.ow 1) (l.map intA)
theorem rowS_plain (ne : List (List Int)) : plainL (ne.map rowS) = true := by
 induction ne with
 | nil => simp [plainL]
 | cons a l ih => simp [plainL, rowS, A.plain, ih, Sh.own, pl_intA]
theorem rowS_dn (ne : List (List Int)) : dnL (ne.map rowS) = ne.map rowS := by
 induction ne with
 | nil => simp [dnL]
 | cons a l ih => simp [dnL, rowS, A.dn, ih, dn_intA]
theorem rowO_dn (ne : List (List Int)) : dnL (ne.map rowO) = ne.map rowS := by
 induction ne with
 | nil => simp [dnL]
 | cons a l ih => simp [dnL, rowO, rowS, A.dn, ih, dn_intA]
attribute [local go_sem] rowS_plain rowS_dn rowO_dn
def szII : List (List Int) → Int → Int
 | [], l => l
 | r :: R, l => if szI r.length l < 0 then -1 else szII R (szI r.length l)
def szSS (L : List (List Int)) (left : Int) : Int := if left - L.length < 0 then -1 else szII L (left - L.length)
theorem szII_le (L : List (List Int)) (l : Int) (h : 0 ≤ l) : szII L l ≤ l ∧ -1 ≤ szII L l ∧ (0 ≤ szII L l → ∀ r ∈ L, r.length ≤ l) := by
 induction L generalizing l with
 | nil => simp [szII]; omega
 | cons r R ih =>
  simp only [szII]
  have hs := szI_le r.length l h
  split
  ·exact ⟨by omega, by omega, fun h => by omega⟩
  ·have := ih (szI r.length l) (by omega)
   refine ⟨by omega, by omega, fun h2 x hx => ?_⟩
   rcases List.mem_cons.mp hx with h3 | h3
   ·subst h3; unfold szI at *; split at * <;> omega
   ·have := this.2.2 h2 x h3; omega
theorem szSS_le (L : List (List Int)) (l : Int) (h : 0 ≤ l) : szSS L l ≤ l ∧ -1 ≤ szSS L l ∧ (0 ≤ szSS L l → L.length ≤ l ∧ ∀ r ∈ L, r.length ≤ l) := by
 unfold szSS
 split
 ·exact ⟨by omega, by omega, fun h => by omega⟩
 ·have := szII_le L (l - L.length) (by omega)
  exact ⟨by omega, by omega, fun h2 => ⟨by omega, fun r hr => by have := this.2.2 h2 r hr; omega⟩⟩
def ssAnn : Ann := [(0, [0, 1, 5])]
def ssSt (L : List (List Int)) (p : Nat × Int) : St := ⟨[.sl .sh (L.map rowS), .v (.int .i64 p.2), .any, .any, .any, .v (.int .i64 p.1), .any, .any, .any, .any, .any, .any, .any, .any, .any, .any, .any, .any, .any, .any, .any, .any, .any, .any, .any, .any, .any], [], []⟩
include hm in
theorem szIntSS (L : List (List Int)) (left : Int) (h1 : 0 ≤ left) (h2 : left ≤ 1048576) (h3 : L.length ≤ 9223372036854775807) (h4 : ∀ s ∈ L, s.length ≤ 9223372036854775807) :
  Holds Tryz.prog 39 [.sl .sh (L.map rowS), .v (.int .i64 left)] [] (.v (.int .i64 (szSS L left))) [] := by
 refine holds_of (ann := ssAnn) tabOk hm Tryz.func39 (by kernel_rfl) rfl ?_
 simp +decide (disch := first | omega | (simp only [ll]; omega)) only [Tryz.f39, if_pos, go_sem]
 refine Runs.split (fun h => ?_) (fun h => ?_)
 ·simp only [decide_eq_true_eq] at h
  simp +decide only [szSS, if_pos h, go_sem]
  exact Runs.ret_v
 ·simp only [decide_eq_false_iff_not] at h
  simp +decide only [go_sem]
  refine Runs.while (α := Nat × Int) (ssSt L) (fun p => L.length - p.1) (fun p => p.1 ≤ L.length ∧ 0 ≤ p.2 ∧ p.2 ≤ 1048576 ∧ szII (L.drop p.1) p.2 = szSS L left) (0, left - L.length) ⟨by simp, by simp; omega, by simp; omega, by simp [szSS, h]⟩ ?_ ?_
  ·simp [go_sem, ssAnn, ssSt]
  ·rintro ⟨i, l⟩ ⟨hi, hl1, hl2, hr⟩ ih
   simp only at hi hl1 hl2 hr
   simp +decide only [ssSt, go_sem]
   refine Runs.split (fun h => ?_) (fun h => ?_)
   ·have hlt : i < L.length := by simpa using h
    have hsz := h4 L[i] (List.getElem_mem hlt)
    have hg : (L.map rowS).getD i .any = .sl .sh (L[i].map intA) := by simp [List.getD, hlt, rowS]
    rw [List.drop_eq_getElem_cons hlt] at hr
    simp only [szII] at hr
    have hb := szI_le L[i].length l hl1
    simp +decide (disch := first | omega | (simp only [ll]; omega)) only [hg, if_pos, go_sem]
    refine Runs.call (szIntS hm (L[i].map intA) l hl1 hl2 (by simpa using hsz)) ?_
    simp +decide only [List.length_map, go_sem]
    refine Runs.split (fun h => ?_) (fun h => ?_)
    ·simp only [decide_eq_true_eq] at h
     rw [if_pos h] at hr
     simp +decide only [← hr, go_sem]
     exact Runs.ret_v
    ·simp only [decide_eq_false_iff_not] at h
     rw [if_neg h] at hr
     simp +decide (disch := first | omega | (simp only [ll]; omega)) only [if_pos, go_sem]
     refine ih (i + 1, szI L[i].length l) _ (by simp only; omega) ⟨hlt, by simp only; omega, by simp only; omega, hr⟩ ?_
     simp [go_sem, ssAnn, ssSt]
   ·have hge : i = L.length := by simp at h; omega
    subst hge
    simp only [List.drop_length, szII] at hr
    simp +decide only [← hr, go_sem]
    exact Runs.ret_v
def tssSt (L : List (List Int)) (i : Nat) : St := ⟨[.sl .sh (L.map rowS), .any, .any, .ms (.l 0) 0 L.length L.length, .v (.int .i64 i), .any, .any, .any, .any, .any, .any, .any, .any, .any, .any, .any, .any, .any, .any, .any, .any, .any, .any], [(0, ⟨true, 1, false, fillS rowO L (.v (.slice none 0 0)) i⟩)], []⟩
include hm in
theorem toIntSS (L : List (List Int)) (h3 : L.length ≤ 1048576) (h4 : ∀ s ∈ L, s.length ≤ 1048576) : Holds Tryz.prog 59 [.sl .sh (L.map rowS)] [] (.sl (.ow 1) (L.map rowO)) [] := by
 refine holds_of (ann := toAnn) tabOk hm Tryz.func59 (by kernel_rfl) rfl ?_
 simp +decide (disch := first | omega | (simp only [ll]; omega)) only [Tryz.f59, if_pos, go_sem]
 refine Runs.while (α := Nat) (tssSt L) (fun i => L.length - i) (fun i => i ≤ L.length) 0 (by omega) ?_ ?_
 ·simp [go_sem, toAnn, tssSt, fillS_zero]
 ·intro i hi ih
  have hlen := fillS_length rowO L (.v (.slice none 0 0)) i hi
  simp +decide only [tssSt, hlen, go_sem]
  refine Runs.split (fun h => ?_) (fun h => ?_)
  ·have hlt : i < L.length := by simpa using h
   have hg := fillS_get rowO L (.v (.slice none 0 0)) i hlt
   have hg2 : (L.map rowS).getD i .any = .sl .sh (L[i].map intA) := by simp [List.getD, hlt, rowS]
   have hs : (fillS rowO L (.v (.slice none 0 0)) i).set i (rowO L[i]) = _ := fillS_set rowO L (.v (.slice none 0 0)) i hlt
   simp only [rowO] at hs
   simp +decide (disch := first | omega | (simp only [ll]; omega)) only [hlen, hg, hg2, if_pos, go_sem]
   refine Runs.call (toIntS hm L[i] (h4 _ (List.getElem_mem hlt))) ?_
   simp +decide (disch := first | omega | (simp only [ll]; omega)) only [hlen, hg, hs, Nat.mul_one, Nat.zero_add, Nat.add_zero, if_pos, go_sem]
   refine ih (i + 1) _ (by omega) hlt ?_
   simp [go_sem, toAnn, tssSt]
  ·have hge : i = L.length := by simp at h; omega
   subst hge
   simp +decide only [hlen, fillS_all, go_sem]
   exact Runs.ret_refl
def esS : Sched := .take 0 (.take 1 (.take 2 (.take 4 (.take 5 (.take 6 (.alt 3 (.alt 7 (.alt 8 (.take 9 .fin) .nil) .nil) (.alt 7 (.alt 3 (.alt 8 (.take 9 .fin) .nil) .nil) .nil)))))))
attribute [local go_sem] esS
def essSt (L : List (List Int)) (i : Nat) : St := ⟨[.sl .sh (L.map rowS), .sl .sh (L.map rowS), .any, .any, .any, .v (.int .i64 i), .any, .any, .any, .any, .any, .any, .any, .any, .any, .any, .any, .any, .any, .any, .any, .any, .any, .any, .any, .any, .any], [], []⟩
include hm in
theorem eqIntSS (L : List (List Int)) (h3 : L.length ≤ 1048576) (h4 : ∀ s ∈ L, s.length ≤ 1048576) : Holds Tryz.prog 83 [.sl .sh (L.map rowS), .sl .sh (L.map rowS)] [] (.v (.bool true)) [] := by
 refine holds_of (ann := eqAnn) tabOk hm Tryz.func83 (by kernel_rfl) rfl ?_
 simp +decide only [Tryz.f83, go_sem]
 refine Runs.while (α := Nat) (essSt L) (fun i => L.length - i) (fun i => i ≤ L.length) 0 (by omega) ?_ ?_
 ·simp [go_sem, eqAnn, essSt]
 ·intro i hi ih
  simp +decide only [essSt, go_sem]
  refine Runs.split (fun h => ?_) (fun h => ?_)
  ·have hlt : i < L.length := by simpa using h
   have hsz := h4 _ (List.getElem_mem hlt)
   have hg : (L.map rowS).getD i .any = .sl .sh (L[i].map intA) := by simp [List.getD, hlt, rowS]
   simp +decide only [go_sem]
   refine Runs.draw (st1 := ?s1) (draws_by (ann := []) tabOk esS (by kernel_rfl) ?p1) ?q1
   case p1 =>
    intro K r X hK
    simp +decide (disch := first | omega | (simp only [ll]; omega)) only [hg, if_pos, go_sem]
    repeat' apply And.intro
    all_goals
     refine Runs.call (eqIntS hm L[i] (by omega)) ?_
     simp +decide only [go_sem]
     exact hK
   case q1 =>
    simp +decide (disch := first | omega | (simp only [ll]; omega)) only [if_pos, go_sem]
    refine ih (i + 1) _ (by omega) hlt ?_
    simp [go_sem, eqAnn, essSt]
  ·simp +decide only [go_sem]
   exact Runs.ret_v
def exS (ca : Bool) (path usage : Int) (ho : List ByteArray) (ne : List (List Int)) (al de : List ByteArray) (pu : List Int) : A :=
 .agg [.v (.bool ca), .v (.int .i64 path), .v (.int .i64 usage), .sl .sh (ho.map strA), .sl .sh (ne.map rowS), .sl .sh (al.map strA), .sl .sh (de.map strA), .sl .sh (pu.map intA)]
def exO (ca : Bool) (path usage : Int) (ho : List ByteArray) (ne : List (List Int)) (al de : List ByteArray) (pu : List Int) : A :=
 .agg [.v (.bool ca), .v (.int .i64 path), .v (.int .i64 usage), .sl (.ow 1) (ho.map strA), .sl (.ow 1) (ne.map rowO), .sl (.ow 1) (al.map strA), .sl (.ow 1) (de.map strA), .sl (.ow 1) (pu.map intA)]
attribute [local go_sem] exS exO
def szExV (ho : List ByteArray) (ne : List (List Int)) (al de : List ByteArray) (pu : List Int) (left : Int) : Int :=
 if szS ho left < 0 then -1 else if szSS ne (szS ho left) < 0 then -1 else if szS al (szSS ne (szS ho left)) < 0 then -1 else
 if szS de (szS al (szSS ne (szS ho left))) < 0 then -1 else if szI pu.length (szS de (szS al (szSS ne (szS ho left)))) < 0 then -1 else szI pu.length (szS de (szS al (szSS ne (szS ho left))))
def ExFit (ho : List ByteArray) (ne : List (List Int)) (al de : List ByteArray) (pu : List Int) : Prop :=
 ho.length ≤ 1048576 ∧ ne.length ≤ 1048576 ∧ (∀ r ∈ ne, r.length ≤ 1048576) ∧ al.length ≤ 1048576 ∧ de.length ≤ 1048576 ∧ pu.length ≤ 1048576
theorem szExV_le (ho : List ByteArray) (ne : List (List Int)) (al de : List ByteArray) (pu : List Int) (left : Int) (h : 0 ≤ left) (h2 : left ≤ 1048576) :
  szExV ho ne al de pu left ≤ left ∧ -1 ≤ szExV ho ne al de pu left ∧ (¬ szExV ho ne al de pu left < 0 → ExFit ho ne al de pu) := by
 have b1 := szS_le ho left h
 unfold szExV
 split
 ·exact ⟨by omega, by omega, fun h => by omega⟩
 ·rename_i e1
  have k1 := szS_len ho _ e1 (by omega)
  have b2 := szSS_le ne (szS ho left) (by omega)
  split
  ·exact ⟨by omega, by omega, fun h => by omega⟩
  ·rename_i e2
   have k2 := b2.2.2 (by omega)
   have b3 := szS_le al (szSS ne (szS ho left)) (by omega)
   split
   ·exact ⟨by omega, by omega, fun h => by omega⟩
   ·rename_i e3
    have k3 := szS_len al _ e3 (by omega)
    have b4 := szS_le de (szS al (szSS ne (szS ho left))) (by omega)
    split
    ·exact ⟨by omega, by omega, fun h => by omega⟩
    ·rename_i e4
     have k4 := szS_len de _ e4 (by omega)
     have b5 := szI_le pu.length (szS de (szS al (szSS ne (szS ho left)))) (by omega)
     split
     ·exact ⟨by omega, by omega, fun h => by omega⟩
     ·rename_i e5
      have k5 := szI_len pu.length _ e5 (by omega)
      exact ⟨by omega, by omega, fun _ => ⟨k1, by omega, fun r hr => by have := k2.2 r hr; omega, k3, k4, k5⟩⟩
include hm in
theorem szExts (ca : Bool) (path usage : Int) (ho : List ByteArray) (ne : List (List Int)) (al de : List ByteArray) (pu : List Int) (left : Int) (l1 : 0 ≤ left) (l2 : left ≤ 1048576)
  (h1 : ho.length ≤ 9223372036854775807) (h2 : ∀ s ∈ ho, s.size ≤ 9223372036854775807) (h3 : ne.length ≤ 9223372036854775807) (h4 : ∀ s ∈ ne, s.length ≤ 9223372036854775807)
  (h5 : al.length ≤ 9223372036854775807) (h6 : ∀ s ∈ al, s.size ≤ 9223372036854775807) (h7 : de.length ≤ 9223372036854775807) (h8 : ∀ s ∈ de, s.size ≤ 9223372036854775807) (h9 : pu.length ≤ 9223372036854775807) :
  Holds Tryz.prog 23 [exS ca path usage ho ne al de pu, .v (.int .i64 left)] [] (.v (.int .i64 (szExV ho ne al de pu left))) [] := by
 have b1 := szS_le ho left l1
 refine holds_ref (ann := []) tabOk hm (byL [] [1000002]) Tryz.func23 (by kernel_rfl) rfl ?_
 simp +decide only [Tryz.f23, go_sem]
 refine Runs.call (szStringS hm ho left l1 l2 h1 h2) ?_
 simp +decide only [go_sem]
 refine Runs.split (fun e => ?_) (fun e => ?_)
 ·simp only [decide_eq_true_eq] at e
  simp +decide only [szExV, if_pos e, go_sem]
  exact Runs.ret_v
 simp only [decide_eq_false_iff_not] at e
 have b2 := szSS_le ne (szS ho left) (by omega)
 simp +decide only [go_sem]
 refine Runs.call (szIntSS hm ne _ (by omega) (by omega) h3 h4) ?_
 simp +decide only [go_sem]
 refine Runs.split (fun e2 => ?_) (fun e2 => ?_)
 ·simp only [decide_eq_true_eq] at e2
  simp +decide only [szExV, if_neg e, if_pos e2, go_sem]
  exact Runs.ret_v
 simp only [decide_eq_false_iff_not] at e2
 have b3 := szS_le al (szSS ne (szS ho left)) (by omega)
 simp +decide only [go_sem]
 refine Runs.call (szStringS hm al _ (by omega) (by omega) h5 h6) ?_
 simp +decide only [go_sem]
 refine Runs.split (fun e3 => ?_) (fun e3 => ?_)
 ·simp only [decide_eq_true_eq] at e3
  simp +decide only [szExV, if_neg e, if_neg e2, if_pos e3, go_sem]
  exact Runs.ret_v
 simp only [decide_eq_false_iff_not] at e3
 have b4 := szS_le de (szS al (szSS ne (szS ho left))) (by omega)
 simp +decide only [go_sem]
 refine Runs.call (szStringS hm de _ (by omega) (by omega) h7 h8) ?_
 simp +decide only [go_sem]
 refine Runs.split (fun e4 => ?_) (fun e4 => ?_)
 ·simp only [decide_eq_true_eq] at e4
  simp +decide only [szExV, if_neg e, if_neg e2, if_neg e3, if_pos e4, go_sem]
  exact Runs.ret_v
 simp only [decide_eq_false_iff_not] at e4
 simp +decide only [go_sem]
 refine Runs.call (szIntS hm (pu.map intA) _ (by omega) (by omega) (by simpa using h9)) ?_
 simp +decide only [List.length_map, go_sem]
 refine Runs.split (fun e5 => ?_) (fun e5 => ?_)
 ·simp only [decide_eq_true_eq] at e5
  simp +decide only [szExV, if_neg e, if_neg e2, if_neg e3, if_neg e4, if_pos e5, go_sem]
  exact Runs.ret_v
 simp only [decide_eq_false_iff_not] at e5
 simp +decide only [szExV, if_neg e, if_neg e2, if_neg e3, if_neg e4, if_neg e5, go_sem]
 exact Runs.ret_v
include hm in
theorem toExts (ca : Bool) (path usage : Int) (ho : List ByteArray) (ne : List (List Int)) (al de : List ByteArray) (pu : List Int) (h : ExFit ho ne al de pu) :
  Holds Tryz.prog 29 [exS ca path usage ho ne al de pu] [] (exO ca path usage ho ne al de pu) [] := by
 obtain ⟨h1, h2, h3, h4, h5, h6⟩ := h
 refine holds_ref (ann := []) tabOk hm (byL [] [1000001]) Tryz.func29 (by kernel_rfl) rfl ?_
 simp +decide only [Tryz.f29, go_sem]
 refine Runs.call (toStringS hm ho h1) ?_
 simp +decide only [go_sem]
 refine Runs.call (toIntSS hm ne h2 h3) ?_
 simp +decide only [go_sem]
 refine Runs.call (toStringS hm al h4) ?_
 simp +decide only [go_sem]
 refine Runs.call (toStringS hm de h5) ?_
 simp +decide only [go_sem]
 refine Runs.call (toIntS hm pu h6) ?_
 simp +decide only [go_sem]
 exact Runs.ret_refl
include hm in
theorem eqExts (ca : Bool) (path usage : Int) (ho : List ByteArray) (ne : List (List Int)) (al de : List ByteArray) (pu : List Int) (h : ExFit ho ne al de pu) :
  Holds Tryz.prog 35 [exS ca path usage ho ne al de pu, exS ca path usage ho ne al de pu] [] (.v (.bool true)) [] := by
 obtain ⟨h1, h2, h3, h4, h5, h6⟩ := h
 refine holds_ref (ann := []) tabOk hm (byL [] [1000002, 1000003]) Tryz.func35 (by kernel_rfl) rfl ?_
 simp +decide only [Tryz.f35, go_sem]
 refine Runs.call (eqStringS hm ho (by omega)) ?_
 simp +decide only [go_sem]
 refine Runs.call (eqIntSS hm ne h2 h3) ?_
 simp +decide only [go_sem]
 refine Runs.call (eqStringS hm al (by omega)) ?_
 simp +decide only [go_sem]
 refine Runs.call (eqStringS hm de (by omega)) ?_
 simp +decide only [go_sem]
 refine Runs.call (eqIntS hm pu (by omega)) ?_
 simp +decide only [go_sem]
 exact Runs.ret_v
end Go.Proofs.W

namespace Go.Proofs.W
open Go Go.AM
set_option maxRecDepth 10000
variable (hm : Tryz.prog.follows .mixedOrders = true)
def charOk (b : UInt8) : Bool := inB b.toNat 32 126
def textOk (s : ByteArray) : Bool := inB s.size 1 40 && s.data.toList.all charOk
def nameOk (L : List ByteArray) : Bool := L.all textOk && inB L.length 1 4
theorem bs_len (s : ByteArray) : s.data.toList.length = s.size := by rw [Array.length_toList]; rfl
def ann13 : Ann := [(0, [0, 3]), (2, [0, 3, 4])]
def st13 (L : List ByteArray) (i : Nat) : St := ⟨[.sl .sh (L.map strA), .any, .any, .v (.int .i64 i), .any, .any, .any, .any, .any, .any, .any, .any, .any, .any, .any, .any, .any, .any, .any, .any, .any, .any, .any, .any, .any, .any, .any, .any, .any, .any, .any, .any, .any, .any, .any, .any, .any, .any, .any], [], []⟩
def st13b (L : List ByteArray) (i k : Nat) : St := ⟨[.sl .sh (L.map strA), .any, .any, .v (.int .i64 i), .v (.int .i64 k), .any, .any, .any, .any, .any, .any, .any, .any, .any, .any, .any, .any, .any, .any, .any, .any, .any, .any, .any, .any, .any, .any, .any, .any, .any, .any, .any, .any, .any, .any, .any, .any, .any, .any], [], []⟩
include hm in
theorem l10Name (L : List ByteArray) (h3 : L.length ≤ 9223372036854775807) (h4 : ∀ s ∈ L, s.size ≤ 9223372036854775807) :
  Holds Tryz.prog 41 [.sl .sh (L.map strA)] [] (.v (.bool (nameOk L))) [] := by
 refine holds_of (ann := ann13) tabOk hm Tryz.func41 (by kernel_rfl) rfl ?_
 simp +decide only [Tryz.f41, go_sem]
 refine Runs.while (α := Nat) (st13 L) (fun i => L.length - i) (fun i => i ≤ L.length ∧ (L.drop i).all textOk = L.all textOk) 0 ⟨by omega, by simp⟩ ?_ ?_
 ·simp [go_sem, ann13, st13]
 ·rintro i ⟨hi1, hr⟩ ih
  simp +decide only [st13, go_sem]
  refine Runs.split (fun h => ?_) (fun h => ?_)
  ·have hlt : i < L.length := by simpa using h
   have hs := h4 L[i] (List.getElem_mem hlt)
   rw [List.drop_eq_getElem_cons hlt, List.all_cons] at hr
   simp +decide (disch := first | omega | (simp only [ll]; omega)) only [if_pos, go_sem]
   refine Runs.call (l1In hm L[i].size 1 40) ?_
   simp +decide only [go_sem]
   refine Runs.split (fun h => ?_) (fun h => ?_)
   ·simp only [Bool.not_eq_true'] at h
    have e : nameOk L = false := by rw [nameOk, ← hr, textOk, h]; simp
    simp +decide only [e, go_sem]
    exact Runs.ret_v
   ·simp only [Bool.not_eq_false'] at h
    simp +decide only [go_sem]
    refine Runs.while (α := Nat) (st13b L i) (fun k => L[i].size - k) (fun k => k ≤ L[i].size ∧ (L[i].data.toList.drop k).all charOk = L[i].data.toList.all charOk) 0 ⟨by omega, by simp⟩ ?_ ?_
    ·simp [go_sem, ann13, st13b]
    ·rintro k ⟨hk1, hk⟩ ihk
     simp +decide (disch := first | omega | (simp only [ll]; omega)) only [st13b, if_pos, go_sem]
     refine Runs.split (fun h => ?_) (fun h => ?_)
     ·have hltk : k < L[i].size := by simpa using h
      have hlen := bs_len L[i]
      rw [List.drop_eq_getElem_cons (by omega), List.all_cons] at hk
      have hg : L[i].data.toList.getD k 0 = L[i].data.toList[k] := by simp [List.getD, hltk]
      have hb := UInt8.toNat_lt L[i].data.toList[k]
      simp +decide (disch := first | omega | (simp only [ll]; omega)) only [hg, if_pos, go_sem]
      refine Runs.call (l1In hm _ 32 126) ?_
      simp +decide only [go_sem]
      refine Runs.split (fun h' => ?_) (fun h' => ?_)
      ·simp only [Bool.not_eq_true'] at h'
       have e : nameOk L = false := by rw [nameOk, ← hr, textOk, ← hk, charOk, h']; simp
       simp +decide only [e, go_sem]
       exact Runs.ret_v
      ·simp only [Bool.not_eq_false'] at h'
       rw [charOk, h', Bool.true_and] at hk
       simp +decide (disch := first | omega | (simp only [ll]; omega)) only [if_pos, go_sem]
       refine ihk (k + 1) _ (by omega) ⟨by omega, hk⟩ ?_
       simp [go_sem, ann13, st13b]
     ·have hge : k = L[i].size := by simp at h; omega
      have hlen := bs_len L[i]
      rw [List.drop_of_length_le (by omega), List.all_nil] at hk
      rw [textOk, ‹inB _ 1 40 = true›, ← hk, Bool.true_and, Bool.true_and] at hr
      simp +decide (disch := first | omega | (simp only [ll]; omega)) only [if_pos, go_sem]
      refine ih (i + 1) _ (by omega) ⟨by omega, hr⟩ ?_
      simp [go_sem, ann13, st13]
  ·have hge : i = L.length := by simp at h; omega
   subst hge
   rw [List.drop_length, List.all_nil] at hr
   simp +decide only [go_sem]
   refine Runs.call (l1In hm _ 1 4) ?_
   simp +decide only [nameOk, ← hr, go_sem]
   exact Runs.ret_v
def ann18 : Ann := [(0, [0, 6, 7, 8]), (2, [0, 4, 6, 7, 8, 13, 14])]
def st18 (L : List ByteArray) (i : Nat) : St := ⟨[.sl .sh (L.map strA), .any, .any, .any, .any, .any, .sl .sh (L.map strA), .v (.int .i64 L.length), .v (.int .i64 i), .any, .any, .any, .any, .any, .any, .any, .any, .any, .any, .any, .any, .any, .any, .any, .any, .any, .any, .any, .any, .any, .any, .any, .any, .any, .any, .any], [], []⟩
def st18b (L : List ByteArray) (i : Nat) (s : ByteArray) (k : Nat) : St := ⟨[.sl .sh (L.map strA), .any, .any, .any, .v (.string s), .any, .sl .sh (L.map strA), .v (.int .i64 L.length), .v (.int .i64 i), .any, .any, .any, .any, .v (.int .i64 s.size), .v (.int .i64 k), .any, .any, .any, .any, .any, .any, .any, .any, .any, .any, .any, .any, .any, .any, .any, .any, .any, .any, .any, .any, .any], [], []⟩
theorem charOk_lo {b : UInt8} (h : (b.toNat : Int) < 32) : charOk b = false := by simp [charOk, inB]; omega
theorem charOk_hi {b : UInt8} (h : ¬ (b.toNat : Int) < 32) : charOk b = !decide ((b.toNat : Int) > 126) := by
 unfold charOk inB
 rw [decide_eq_true (by omega), Bool.true_and]
 by_cases h2 : (b.toNat : Int) > 126
 ·rw [decide_eq_false (by omega), decide_eq_true h2]; rfl
 ·rw [decide_eq_true (by omega), decide_eq_false h2]; rfl
include hm in
theorem isName (L : List ByteArray) (h3 : L.length ≤ 9223372036854775807) (h4 : ∀ s ∈ L, s.size ≤ 9223372036854775807) :
  Holds Tryz.prog 61 [.sl .sh (L.map strA)] [] (.v (.bool (nameOk L))) [] := by
 refine holds_of (ann := ann18) tabOk hm Tryz.func61 (by kernel_rfl) rfl ?_
 simp +decide only [Tryz.f61, go_sem]
 refine Runs.while (α := Nat) (st18 L) (fun i => L.length - i) (fun i => i ≤ L.length ∧ (L.drop i).all textOk = L.all textOk) 0 ⟨by omega, by simp⟩ ?_ ?_
 ·simp [go_sem, ann18, st18]
 ·rintro i ⟨hi1, hr⟩ ih
  simp +decide only [st18, go_sem]
  refine Runs.split (fun h => ?_) (fun h => ?_)
  ·have hlt : i < L.length := by simpa using h
   have hs := h4 L[i] (List.getElem_mem hlt)
   rw [List.drop_eq_getElem_cons hlt, List.all_cons] at hr
   simp +decide (disch := first | omega | (simp only [ll]; omega)) only [if_pos, go_sem]
   refine Runs.while (α := Nat) (st18b L i L[i]) (fun k => L[i].size - k) (fun k => k ≤ L[i].size ∧ (L[i].data.toList.drop k).all charOk = L[i].data.toList.all charOk) 0 ⟨by omega, by simp⟩ ?_ ?_
   ·simp [go_sem, ann18, st18b]
   ·rintro k ⟨hk1, hk⟩ ihk
    simp +decide (disch := first | omega | (simp only [ll]; omega)) only [st18b, if_pos, go_sem]
    refine Runs.split (fun h => ?_) (fun h => ?_)
    ·have hltk : k < L[i].size := by simpa using h
     have hlen := bs_len L[i]
     rw [List.drop_eq_getElem_cons (by omega), List.all_cons] at hk
     have hg : L[i].data.toList.getD k 0 = L[i].data.toList[k] := by simp [List.getD, hltk]
     have hb := UInt8.toNat_lt L[i].data.toList[k]
     simp +decide (disch := first | omega | (simp only [ll]; omega)) only [hg, if_pos, go_sem]
     have stop : charOk L[i].data.toList[k] = false → nameOk L = false := fun h => by rw [nameOk, ← hr, textOk, ← hk, h]; simp
     refine Runs.split (fun h => ?_) (fun h => ?_)
     ·simp only [decide_eq_true_eq] at h
      simp +decide only [stop (charOk_lo h), go_sem]
      exact Runs.ret_v
     ·simp only [decide_eq_false_iff_not] at h
      simp +decide (disch := first | omega | (simp only [ll]; omega)) only [hg, if_pos, go_sem]
      refine Runs.split (fun h2 => ?_) (fun h2 => ?_)
      ·simp +decide only [stop (by rw [charOk_hi h, h2]; rfl), go_sem]
       exact Runs.ret_v
      ·rw [charOk_hi h, h2, Bool.not_false, Bool.true_and] at hk
       simp +decide (disch := first | omega | (simp only [ll]; omega)) only [if_pos, go_sem]
       refine ihk (k + 1) _ (by omega) ⟨by omega, hk⟩ ?_
       simp [go_sem, ann18, st18b]
    ·have hge : k = L[i].size := by simp at h; omega
     have hlen := bs_len L[i]
     rw [List.drop_of_length_le (by omega), List.all_nil] at hk
     simp +decide only [go_sem]
     refine Runs.call (within hm _ 1 40) ?_
     simp +decide only [go_sem]
     refine Runs.split (fun h' => ?_) (fun h' => ?_)
     ·simp only [Bool.not_eq_true'] at h'
      have e : nameOk L = false := by rw [nameOk, ← hr, textOk, h']; simp
      simp +decide only [e, go_sem]
      exact Runs.ret_v
     ·simp only [Bool.not_eq_false'] at h'
      rw [textOk, h', ← hk, Bool.true_and, Bool.true_and] at hr
      simp +decide (disch := first | omega | (simp only [ll]; omega)) only [if_pos, go_sem]
      refine ih (i + 1) _ (by omega) ⟨by omega, hr⟩ ?_
      simp [go_sem, ann18, st18]
  ·have hge : i = L.length := by simp at h; omega
   subst hge
   rw [List.drop_length, List.all_nil] at hr
   simp +decide only [go_sem]
   refine Runs.call (within hm _ 1 4) ?_
   simp +decide only [nameOk, ← hr, go_sem]
   exact Runs.ret_v
include hm in
theorem isSig (es : List A) : Holds Tryz.prog 64 [.sl .sh es] [] (.v (.bool (inB es.length 1 64))) [] := by
 refine holds_of (ann := []) tabOk hm Tryz.func64 (by kernel_rfl) rfl ?_
 simp +decide only [Tryz.f64, go_sem]
 refine Runs.call (within hm es.length 1 64) ?_
 simp +decide only [go_sem]
 exact Runs.ret_v
def ann21 : Ann := [(0, [0, 1, 2, 7])]
def st21 (L : List Int) (lo hi : Int) (i : Nat) : St := ⟨[.sl .sh (L.map intA), .v (.int .i64 lo), .v (.int .i64 hi), .any, .any, .any, .any, .v (.int .i64 i), .any, .any, .any, .any, .any, .any, .any, .any, .any, .any, .any, .any, .any, .any, .any, .any, .any, .any, .any, .any], [], []⟩
def sched21 : Sched := .take 0 (.take 1 (.take 2 (.take 3 (.take 5 (.take 6 (.take 7 (.alt 4 (.alt 8 (.take 9 .fin) .nil) (.alt 8 (.alt 4 (.take 9 .fin) .nil) .nil))))))))
def risesFrom (L : List Int) (i : Nat) : Bool := (List.range' i (L.length - i)).all fun j => decide (L.getD (j - 1) 0 < L.getD j 0)
theorem risesFrom_succ {L : List Int} {i : Nat} (h : i < L.length) : risesFrom L i = (decide (L.getD (i - 1) 0 < L.getD i 0) && risesFrom L (i + 1)) := by
 unfold risesFrom
 obtain ⟨k, hk⟩ : ∃ k, L.length - i = k + 1 := ⟨L.length - i - 1, by omega⟩
 rw [hk, List.range'_succ, List.all_cons, show L.length - (i + 1) = k by omega]
include hm in
theorem isRising (L : List Int) (lo hi : Int) (h3 : L.length ≤ 9223372036854775807) :
  Holds Tryz.prog 101 [.sl .sh (L.map intA), .v (.int .i64 lo), .v (.int .i64 hi)] [] (.v (.bool (risesFrom L 1 && L.all fun n => inB n lo hi))) [] := by
 refine holds_of (ann := ann21) tabOk hm Tryz.func101 (by kernel_rfl) rfl ?_
 simp +decide only [Tryz.f101, go_sem]
 refine Runs.while (α := Nat) (st21 L lo hi) (fun i => L.length - i) (fun i => 1 ≤ i ∧ i ≤ max L.length 1 ∧ risesFrom L i = risesFrom L 1) 1 ⟨by omega, by omega, rfl⟩ ?_ ?_
 ·simp [go_sem, ann21, st21]
 ·rintro i ⟨hi0, hi1, hr⟩ ih
  simp +decide only [st21, go_sem]
  refine Runs.split (fun h => ?_) (fun h => ?_)
  ·have hlt : i < L.length := by simpa using h
   rw [risesFrom_succ hlt] at hr
   have he : (L.map intA).getD i .any = .v (.int .i64 (L.getD i 0)) := by simp [List.getD, hlt, intA]
   have he1 : (L.map intA).getD (i - 1) .any = .v (.int .i64 (L.getD (i - 1) 0)) := by simp [List.getD, show i - 1 < L.length by omega, intA]
   have ht : ((i : Int) - 1).toNat = i - 1 := by omega
   have hw : IntKind.i64.wrap ((i : Int) - 1) = (i : Int) - 1 := wrap_i64 (by omega) (by omega)
   simp +decide only [go_sem]
   refine Runs.draw (st1 := ?s1) (draws_by (ann := []) tabOk sched21 (by kernel_rfl) ?h1) ?h2
   case h1 =>
    intro K r X hK
    simp +decide only [sched21, hw, ht, he, he1, go_sem]
    refine Runs.chk (by simp; omega) (Runs.chk (by simp; omega) (Runs.both (Runs.both ?_ Runs.done) (Runs.both (Runs.both ?_ Runs.done) Runs.done)))
    ·exact hK
    ·exact hK
   case h2 =>
    simp +decide only [go_sem]
    refine Runs.split (fun h => ?_) (fun h => ?_)
    ·simp only [decide_eq_true_eq] at h
     rw [decide_eq_false (by omega), Bool.false_and] at hr
     simp +decide only [← hr, go_sem]
     exact Runs.ret_v
    ·simp only [decide_eq_false_iff_not] at h
     rw [decide_eq_true (by omega), Bool.true_and] at hr
     simp +decide (disch := first | omega | (simp only [ll]; omega)) only [if_pos, go_sem]
     refine ih (i + 1) _ (by omega) ⟨by omega, by omega, hr⟩ ?_
     simp [go_sem, ann21, st21]
  ·have hge : L.length ≤ i := by simp at h; omega
   have hz : risesFrom L i = true := by unfold risesFrom; rw [show L.length - i = 0 by omega]; rfl
   rw [hz] at hr
   simp +decide only [dn_intA, go_sem]
   refine Runs.call (allWithin hm L lo hi h3) ?_
   simp +decide only [← hr, go_sem]
   exact Runs.ret_v
end Go.Proofs.W

namespace Go.Proofs.W
open Go Go.AM
set_option maxRecDepth 10000
variable (hm : Tryz.prog.follows .mixedOrders = true)
attribute [local go_sem] exS rowS_plain rowS_dn rowO_dn
def hostsB (q : ByteArray → Bool) (L : List ByteArray) : Bool := L.all q && decide ((L.length : Int) ≤ 6)
def addrB (l : List Int) : Bool := decide ((l.length : Int) = 4) && l.all fun n => inB n 0 255
def risE (S : List Int) : Bool := risesFrom S 1 && S.all fun n => inB n 1 1000
def exB (ca : Bool) (path usage : Int) (ho : List ByteArray) (ne : List (List Int)) (al de : List ByteArray) (pu : List Int) : Bool :=
 inB path (-1) 10 && (ca || decide (path = -1)) && inB usage 0 7 && hostsB patB ho && hostsB hostB al && hostsB hostB de && decide ((ne.length : Int) ≤ 6) && decide ((pu.length : Int) ≤ 6) && ne.all addrB && risE pu
def stepE (S : List Int) (i : Nat) : Bool := inB (S.getD i 0) 1 1000 && (decide (i = 0) || decide (S.getD (i - 1) 0 < S.getD i 0))
def stepsE (S : List Int) (i : Nat) : Bool := (List.range' i (S.length - i)).all (stepE S)
theorem stepsE_succ {S : List Int} {i : Nat} (h : i < S.length) : stepsE S i = (stepE S i && stepsE S (i + 1)) := by
 unfold stepsE
 obtain ⟨k, hk⟩ : ∃ k, S.length - i = k + 1 := ⟨S.length - i - 1, by omega⟩
 rw [hk, List.range'_succ, List.all_cons, show S.length - (i + 1) = k by omega]
theorem stepsE_end {S : List Int} {i : Nat} (h : S.length ≤ i) : stepsE S i = true := by
 unfold stepsE
 rw [show S.length - i = 0 by omega]; rfl
theorem stepsE_eq (S : List Int) : stepsE S 0 = risE S := by
 rw [Bool.eq_iff_iff]
 simp only [stepsE, risE, risesFrom, Bool.and_eq_true, List.all_eq_true, List.mem_range'_1, stepE, Bool.or_eq_true, decide_eq_true_eq]
 constructor
 ·intro h
  refine ⟨fun j hj => ?_, fun n hn => ?_⟩
  ·rcases (h j ⟨by omega, by omega⟩).2 with e | e
   ·omega
   ·exact e
  ·obtain ⟨j, hj, rfl⟩ := List.getElem_of_mem hn
   have := (h j ⟨by omega, by omega⟩).1
   simpa [List.getD, hj] using this
 ·rintro ⟨h1, h2⟩ j ⟨-, hj⟩
  have hj' : j < S.length := by omega
  refine ⟨?_, ?_⟩
  ·have := h2 S[j] (List.getElem_mem hj')
   simpa [List.getD, hj'] using this
  ·rcases Nat.eq_zero_or_pos j with e | e
   ·exact .inl e
   ·exact .inr (h1 j ⟨by omega, by omega⟩)
def lhAnn : Ann := [(0, [0, 1, 5])]
def lhSt (L : List ByteArray) (b : Bool) (i : Nat) : St := ⟨[.sl .sh (L.map strA), .v (.bool b), .any, .any, .any, .v (.int .i64 i), .any, .any, .any, .any, .any, .any, .any, .any, .any, .any, .any, .any, .any, .any, .any, .any, .any, .any, .any, .any, .any, .any, .any, .any, .any, .any, .any, .any, .any, .any], [], []⟩
include hm in
theorem l10Hosts (b : Bool) (L : List ByteArray) (h : L.length ≤ 1048576) (h4 : ∀ s ∈ L, s.size ≤ 1048576) : Holds Tryz.prog 91 [.sl .sh (L.map strA), .v (.bool b)] [] (.v (.bool (hostsB (if b = true then patB else hostB) L))) [] := by
 refine holds_of (ann := lhAnn) tabOk hm Tryz.func91 (by kernel_rfl) rfl ?_
 simp +decide only [Tryz.f91, go_sem]
 have ha : (L.map strA).length = L.length := List.length_map _
 obtain ⟨q, hq⟩ : ∃ q, q = (if b = true then patB else hostB) := ⟨_, rfl⟩
 rw [← hq]
 refine Runs.while (α := Nat) (lhSt L b) (fun i => L.length - i) (fun i => i ≤ L.length ∧ (L.drop i).all q = L.all q) 0 ⟨by omega, by simp⟩ ?_ ?_
 ·simp [go_sem, lhAnn, lhSt]
 ·rintro i ⟨hi, hr⟩ ih
  simp +decide only [lhSt, ha, go_sem]
  refine Runs.split (fun h => ?_) (fun h => ?_)
  ·have hlt : i < L.length := by simpa using h
   have hg : (L.map strA).getD i .any = .v (.string L[i]) := by simp [List.getD, hlt, strA]
   rw [List.drop_eq_getElem_cons hlt, List.all_cons] at hr
   have hs := h4 _ (List.getElem_mem hlt)
   cases b
   ·simp +decide (disch := first | omega | (simp only [ll]; omega)) only [ha, hg, if_pos, go_sem]
    refine Runs.call (sHostOk hm L[i]) ?_
    have e : q L[i] = hostB L[i] := by rw [hq]; rfl
    rw [e] at hr
    cases h2 : hostB L[i]
    ·simp +decide only [go_sem]
     exact Runs.ret_eq (by rw [hostsB, ← hr, h2]; simp)
    ·rw [h2, Bool.true_and] at hr
     simp +decide (disch := first | omega | (simp only [ll]; omega)) only [if_pos, go_sem]
     refine ih (i + 1) _ (by omega) ⟨by omega, hr⟩ ?_
     simp [go_sem, lhAnn, lhSt]
   ·simp +decide (disch := first | omega | (simp only [ll]; omega)) only [ha, hg, if_pos, go_sem]
    refine Runs.call (sPatOk hm L[i] hs) ?_
    have e : q L[i] = patB L[i] := by rw [hq]; rfl
    rw [e] at hr
    cases h2 : patB L[i]
    ·simp +decide only [go_sem]
     exact Runs.ret_eq (by rw [hostsB, ← hr, h2]; simp)
    ·rw [h2, Bool.true_and] at hr
     simp +decide (disch := first | omega | (simp only [ll]; omega)) only [if_pos, go_sem]
     refine ih (i + 1) _ (by omega) ⟨by omega, hr⟩ ?_
     simp [go_sem, lhAnn, lhSt]
  ·have hge : i = L.length := by simp at h; omega
   rw [hge, List.drop_length, List.all_nil] at hr
   simp +decide only [go_sem]
   exact Runs.ret_eq (by rw [hostsB, ← hr, Bool.true_and])
def lfAnn : Ann := [(0, [0, 3])]
def lfSt (L : List Int) (i : Nat) : St := ⟨[.sl .sh (L.map intA), .any, .any, .v (.int .i64 i), .any, .any, .any, .any, .any, .any, .any, .any, .any, .any, .any, .any, .any, .any, .any], [], []⟩
include hm in
theorem l8Four (L : List Int) (h : L.length ≤ 1048576) : Holds Tryz.prog 92 [.sl .sh (L.map intA)] [] (.v (.bool (addrB L))) [] := by
 refine holds_of (ann := lfAnn) tabOk hm Tryz.func92 (by kernel_rfl) rfl ?_
 simp +decide only [Tryz.f92, go_sem]
 have ha : (L.map intA).length = L.length := List.length_map _
 refine Runs.while (α := Nat) (lfSt L) (fun i => L.length - i) (fun i => i ≤ L.length ∧ ((L.drop i).all fun n => inB n 0 255) = L.all fun n => inB n 0 255) 0 ⟨by omega, by simp⟩ ?_ ?_
 ·simp [go_sem, lfAnn, lfSt]
 ·rintro i ⟨hi, hr⟩ ih
  simp +decide only [lfSt, ha, go_sem]
  refine Runs.split (fun h => ?_) (fun h => ?_)
  ·have hlt : i < L.length := by simpa using h
   have hg : (L.map intA).getD i .any = .v (.int .i64 L[i]) := by simp [List.getD, hlt, intA]
   rw [List.drop_eq_getElem_cons hlt, List.all_cons] at hr
   simp +decide (disch := first | omega | (simp only [ll]; omega)) only [ha, hg, if_pos, go_sem]
   refine Runs.call (l1In hm _ 0 255) ?_
   cases h2 : inB L[i] 0 255
   ·simp +decide only [go_sem]
    exact Runs.ret_eq (by rw [addrB, ← hr, h2]; simp)
   ·rw [h2, Bool.true_and] at hr
    simp +decide (disch := first | omega | (simp only [ll]; omega)) only [if_pos, go_sem]
    refine ih (i + 1) _ (by omega) ⟨by omega, hr⟩ ?_
    simp [go_sem, lfAnn, lfSt]
  ·have hge : i = L.length := by simp at h; omega
   rw [hge, List.drop_length, List.all_nil] at hr
   simp +decide only [go_sem]
   exact Runs.ret_eq (by rw [addrB, ← hr, Bool.and_true])
def leeAnn : Ann := [(0, [1, 3]), (2, [1, 4])]
def leeSt (x : A) (i : Nat) : St := ⟨[.any, .ptr [x] 0 0, .any, .v (.int .i64 i), .any, .any, .any, .any, .any, .any, .any, .any, .any, .any, .any, .any, .any, .any, .any, .any, .any, .any, .any, .any, .any, .any, .any, .any, .any, .any, .any, .any, .any, .any, .any, .any, .any, .any, .any, .any, .any, .any, .any, .any, .any, .any, .any, .any, .any, .any, .any, .any, .any, .any, .any, .any, .any, .any, .any, .any, .any, .any, .any, .any, .any, .any, .any, .any, .any, .any, .any, .any, .any, .any, .any, .any, .any, .any, .any, .any, .any, .any, .any, .any, .any, .any, .any, .any, .any, .any, .any, .any, .any, .any, .any, .any, .any, .any, .any, .any, .any], [], []⟩
def leeSt2 (x : A) (i : Nat) : St := ⟨[.any, .ptr [x] 0 0, .any, .any, .v (.int .i64 i), .any, .any, .any, .any, .any, .any, .any, .any, .any, .any, .any, .any, .any, .any, .any, .any, .any, .any, .any, .any, .any, .any, .any, .any, .any, .any, .any, .any, .any, .any, .any, .any, .any, .any, .any, .any, .any, .any, .any, .any, .any, .any, .any, .any, .any, .any, .any, .any, .any, .any, .any, .any, .any, .any, .any, .any, .any, .any, .any, .any, .any, .any, .any, .any, .any, .any, .any, .any, .any, .any, .any, .any, .any, .any, .any, .any, .any, .any, .any, .any, .any, .any, .any, .any, .any, .any, .any, .any, .any, .any, .any, .any, .any, .any, .any, .any], [], []⟩
def leeS : Sched := .take 0 (.take 2 (.ld 1 (.take 3 (.ld 4 (.alt 5 (.take 6 (.take 7 (.take 8 (.take 9 (.take 10 (.take 11 (.take 13 (.take 14 (.take 17 (.take 19 (.ld 12 (.take 15 (.ld 16 (.ld 18 (.take 20 (.ld 21 (.take 22 (.take 23 (.take 24 .fin))))))))))))))))))) .nil)))))
attribute [local go_sem] leeS
set_option maxHeartbeats 4000000 in
include hm in
theorem l10Exts (ca : Bool) (path usage : Int) (ho : List ByteArray) (ne : List (List Int)) (al de : List ByteArray) (pu : List Int) (h : ExFit ho ne al de pu)
  (s1 : ∀ s ∈ ho, s.size ≤ 1048576) (s2 : ∀ s ∈ al, s.size ≤ 1048576) (s3 : ∀ s ∈ de, s.size ≤ 1048576) :
  Holds Tryz.prog 44 [exS ca path usage ho ne al de pu] [] (.v (.bool (exB ca path usage ho ne al de pu))) [] := by
 obtain ⟨f1, f2, f3, f4, f5, f6⟩ := h
 refine holds_ref (ann := leeAnn) tabOk hm (byL [] [1000001]) Tryz.func44 (by kernel_rfl) rfl ?_
 have hN : (ne.map rowS).length = ne.length := List.length_map _
 have hP : (pu.map intA).length = pu.length := List.length_map _
 simp +decide only [Tryz.f44, hN, hP, go_sem]
 refine Runs.call (l1In hm path (-1) 10) ?_
 cases c1 : inB path (-1) 10
 ·simp +decide only [go_sem]
  exact Runs.ret_eq (by simp only [exB, c1, Bool.false_and])
 simp +decide only [go_sem]
 have h1 := l10Hosts hm true ho f1 s1
 have h2 := l10Hosts hm false al f4 s2
 have h3 := l10Hosts hm false de f5 s3
 simp only [if_true, Bool.false_eq_true, if_false] at h1 h2 h3
 cases c2 : (ca || decide (path = -1))
 ·simp only [Bool.or_eq_false_iff] at c2
  obtain ⟨d1, d2⟩ := c2
  subst d1
  simp +decide only [d2, go_sem]
  exact Runs.ret_eq (by simp only [exB, c1, d2, Bool.or_false, Bool.and_false, Bool.false_and])
 cases ca
 ·simp only [Bool.false_or, Bool.true_or] at c2
  simp +decide only [c2, go_sem]
  refine Runs.call (l1In hm usage 0 7) ?_
  cases c3 : inB usage 0 7
  ·simp +decide only [go_sem]
   exact Runs.ret_eq (by simp only [exB, c3, Bool.and_false, Bool.false_and])
  simp +decide only [go_sem]
  refine Runs.call h1 ?_
  cases c4 : hostsB patB ho
  ·simp +decide only [go_sem]
   exact Runs.ret_eq (by simp only [exB, c4, Bool.and_false, Bool.false_and])
  simp +decide only [go_sem]
  refine Runs.call h2 ?_
  cases c5 : hostsB hostB al
  ·simp +decide only [go_sem]
   exact Runs.ret_eq (by simp only [exB, c5, Bool.and_false, Bool.false_and])
  simp +decide only [go_sem]
  refine Runs.call h3 ?_
  cases c6 : hostsB hostB de
  ·simp +decide only [go_sem]
   exact Runs.ret_eq (by simp only [exB, c6, Bool.and_false, Bool.false_and])
  simp +decide only [hN, hP, go_sem]
  refine Runs.split (fun g => ?_) (fun g => ?_)
  ·have c7 : decide ((ne.length : Int) ≤ 6) = false := by simp at g; simp; omega
   simp +decide only [go_sem]
   exact Runs.ret_eq (by simp only [exB, c7, Bool.and_false, Bool.false_and])
  have c7 : decide ((ne.length : Int) ≤ 6) = true := by simp at g; simp; omega
  simp +decide only [hN, hP, go_sem]
  refine Runs.split (fun g => ?_) (fun g => ?_)
  ·have c8 : decide ((pu.length : Int) ≤ 6) = false := by simp at g; simp; omega
   simp +decide only [go_sem]
   exact Runs.ret_eq (by simp only [exB, c8, Bool.and_false, Bool.false_and])
  have c8 : decide ((pu.length : Int) ≤ 6) = true := by simp at g; simp; omega
  simp +decide only [hN, hP, go_sem]
  refine Runs.while (α := Nat) (leeSt (exS false path usage ho ne al de pu)) (fun i => ne.length - i) (fun i => i ≤ ne.length ∧ (ne.drop i).all addrB = ne.all addrB) 0 ⟨by omega, by simp⟩ ?_ ?_
  ·simp [go_sem, leeAnn, leeSt]
  rintro i ⟨hi, hr⟩ ih
  simp +decide only [leeSt, hN, go_sem]
  refine Runs.split (fun h => ?_) (fun h => ?_)
  ·have hlt : i < ne.length := by simpa using h
   have hg : (ne.map rowS).getD i .any = .sl .sh (ne[i].map intA) := by simp [List.getD, hlt, rowS]
   rw [List.drop_eq_getElem_cons hlt, List.all_cons] at hr
   simp +decide (disch := first | omega | (simp only [ll]; omega)) only [hN, hg, if_pos, go_sem]
   refine Runs.call (l8Four hm ne[i] (f3 _ (List.getElem_mem hlt))) ?_
   cases g2 : addrB ne[i]
   ·simp +decide only [go_sem]
    exact Runs.ret_eq (by simp only [exB, ← hr, g2, Bool.and_false, Bool.false_and])
   ·rw [g2, Bool.true_and] at hr
    simp +decide (disch := first | omega | (simp only [ll]; omega)) only [if_pos, go_sem]
    refine ih (i + 1) _ (by omega) ⟨by omega, hr⟩ ?_
    simp [go_sem, leeAnn, leeSt]
  have hge : i = ne.length := by simp at h; omega
  rw [hge, List.drop_length, List.all_nil] at hr
  simp +decide only [go_sem]
  refine Runs.while (α := Nat) (leeSt2 (exS false path usage ho ne al de pu)) (fun i => pu.length - i) (fun i => i ≤ pu.length ∧ stepsE pu i = stepsE pu 0) 0 ⟨by omega, rfl⟩ ?_ ?_
  ·simp [go_sem, leeAnn, leeSt2]
  rintro i ⟨hi1, hr1⟩ ih
  simp +decide only [leeSt2, hP, go_sem]
  refine Runs.split (fun h => ?_) (fun h => ?_)
  ·have hlt : i < pu.length := by simpa using h
   rw [stepsE_succ hlt] at hr1
   have hg : pu.getD i 0 = pu[i] := by simp [List.getD, hlt]
   have hgA : (pu.map intA).getD i .any = .v (.int .i64 pu[i]) := by simp [List.getD, hlt, intA]
   have stop : stepE pu i = false → exB false path usage ho ne al de pu = false := fun e => by
    rw [exB, ← stepsE_eq, ← hr1, e]; simp
   simp +decide only [go_sem]
   cases hb : inB pu[i] 1 1000 with
   | false =>
    refine Runs.draw (st1 := ?s1a) (draws_ref (ann := leeAnn) tabOk (byL [] [1000001]) leeS (by kernel_rfl) ?p1a) ?q1a
    case p1a =>
     intro K r X hK
     simp +decide (maxSteps := 9^7) (disch := first | omega | (simp only [ll]; omega)) only [hP, hgA, if_pos, go_sem]
     refine Runs.call (l1In hm _ 1 _) ?_
     simp +decide (maxSteps := 9^7) (disch := first | omega | (simp only [ll]; omega)) only [hb, if_pos, go_sem]
     exact hK
    case q1a =>
     have e : exB false path usage ho ne al de pu = false := stop (by rw [stepE, hg, hb, Bool.false_and])
     simp +decide (disch := first | omega | (simp only [ll]; omega)) only [if_pos, go_sem]
     exact Runs.ret_eq (by rw [e])
   | true =>
    rcases Nat.eq_zero_or_pos i with h0 | h0
    ·subst h0
     refine Runs.draw (st1 := ?s2a) (draws_ref (ann := leeAnn) tabOk (byL [] [1000001]) leeS (by kernel_rfl) ?p2a) ?q2a
     case p2a =>
      intro K r X hK
      simp +decide (maxSteps := 9^7) (disch := first | omega | (simp only [ll]; omega)) only [hP, hgA, Int.natCast_zero, if_pos, go_sem]
      refine Runs.call (l1In hm _ 1 _) ?_
      have hb0 : inB pu[Int.toNat 0] 1 1000 = true := hb
      simp +decide (maxSteps := 9^7) (disch := first | omega | (simp only [ll]; omega)) only [hb, hb0, Int.natCast_zero, gt_iff_lt, Int.lt_irrefl, if_pos, go_sem]
      exact hK
     case q2a =>
      have e : stepE pu 0 = true := by rw [stepE, hg, hb]; rfl
      rw [e, Bool.true_and] at hr1
      simp +decide (disch := first | omega | (simp only [ll]; omega)) only [if_pos, go_sem]
      refine ih 1 _ (by omega) ⟨by omega, hr1⟩ ?_
      simp [go_sem, leeAnn, leeSt2]
    ·have hd : decide ((i : Int) > 0) = true := by simp; omega
     have ht : ((i : Int) - 1).toNat = i - 1 := by omega
     have hg1 : (pu.map intA).getD (i - 1) .any = .v (.int .i64 (pu.getD (i - 1) 0)) := by simp [List.getD, show i - 1 < pu.length by omega, intA]
     cases h5 : decide (pu.getD (i - 1) 0 ≥ pu[i])
     ·refine Runs.draw (st1 := ?s3a) (draws_ref (ann := leeAnn) tabOk (byL [] [1000001]) leeS (by kernel_rfl) ?p3a) ?q3a
      case p3a =>
       intro K r X hK
       simp +decide (maxSteps := 9^7) (disch := first | omega | (simp only [ll]; omega)) only [hP, hgA, hd, ht, hg1, if_pos, go_sem]
       refine Runs.call (l1In hm _ 1 _) ?_
       simp +decide (maxSteps := 9^7) (disch := first | omega | (simp only [ll]; omega)) only [hP, hb, hd, ht, hg1, hgA, h5, if_pos, go_sem]
       exact hK
      case q3a =>
       have e : stepE pu i = true := by rw [stepE, hg, hb]; simp at h5; simp; right; exact h5
       rw [e, Bool.true_and] at hr1
       simp +decide (disch := first | omega | (simp only [ll]; omega)) only [if_pos, go_sem]
       refine ih (i + 1) _ (by omega) ⟨by omega, hr1⟩ ?_
       simp [go_sem, leeAnn, leeSt2]
     ·refine Runs.draw (st1 := ?s4a) (draws_ref (ann := leeAnn) tabOk (byL [] [1000001]) leeS (by kernel_rfl) ?p4a) ?q4a
      case p4a =>
       intro K r X hK
       simp +decide (maxSteps := 9^7) (disch := first | omega | (simp only [ll]; omega)) only [hP, hgA, hd, ht, hg1, if_pos, go_sem]
       refine Runs.call (l1In hm _ 1 _) ?_
       simp +decide (maxSteps := 9^7) (disch := first | omega | (simp only [ll]; omega)) only [hP, hb, hd, ht, hg1, hgA, h5, if_pos, go_sem]
       exact hK
      case q4a =>
       have e : exB false path usage ho ne al de pu = false := stop (by rw [stepE, hg, hb]; simp at h5; simp; omega)
       simp +decide (disch := first | omega | (simp only [ll]; omega)) only [if_pos, go_sem]
       exact Runs.ret_eq (by rw [e])
  have hge : i = pu.length := by simp at h; omega
  rw [hge, stepsE_end (Nat.le_refl _)] at hr1
  simp +decide only [go_sem]
  exact Runs.ret_eq (by simp only [exB, c1, c2, c3, c4, c5, c6, c7, c8, ← hr, ← stepsE_eq, ← hr1, Bool.true_and, Bool.and_true, Bool.true_or, Bool.false_or])
 ·simp only [Bool.false_or, Bool.true_or] at c2
  simp +decide only [c2, go_sem]
  refine Runs.call (l1In hm usage 0 7) ?_
  cases c3 : inB usage 0 7
  ·simp +decide only [go_sem]
   exact Runs.ret_eq (by simp only [exB, c3, Bool.and_false, Bool.false_and])
  simp +decide only [go_sem]
  refine Runs.call h1 ?_
  cases c4 : hostsB patB ho
  ·simp +decide only [go_sem]
   exact Runs.ret_eq (by simp only [exB, c4, Bool.and_false, Bool.false_and])
  simp +decide only [go_sem]
  refine Runs.call h2 ?_
  cases c5 : hostsB hostB al
  ·simp +decide only [go_sem]
   exact Runs.ret_eq (by simp only [exB, c5, Bool.and_false, Bool.false_and])
  simp +decide only [go_sem]
  refine Runs.call h3 ?_
  cases c6 : hostsB hostB de
  ·simp +decide only [go_sem]
   exact Runs.ret_eq (by simp only [exB, c6, Bool.and_false, Bool.false_and])
  simp +decide only [hN, hP, go_sem]
  refine Runs.split (fun g => ?_) (fun g => ?_)
  ·have c7 : decide ((ne.length : Int) ≤ 6) = false := by simp at g; simp; omega
   simp +decide only [go_sem]
   exact Runs.ret_eq (by simp only [exB, c7, Bool.and_false, Bool.false_and])
  have c7 : decide ((ne.length : Int) ≤ 6) = true := by simp at g; simp; omega
  simp +decide only [hN, hP, go_sem]
  refine Runs.split (fun g => ?_) (fun g => ?_)
  ·have c8 : decide ((pu.length : Int) ≤ 6) = false := by simp at g; simp; omega
   simp +decide only [go_sem]
   exact Runs.ret_eq (by simp only [exB, c8, Bool.and_false, Bool.false_and])
  have c8 : decide ((pu.length : Int) ≤ 6) = true := by simp at g; simp; omega
  simp +decide only [hN, hP, go_sem]
  refine Runs.while (α := Nat) (leeSt (exS true path usage ho ne al de pu)) (fun i => ne.length - i) (fun i => i ≤ ne.length ∧ (ne.drop i).all addrB = ne.all addrB) 0 ⟨by omega, by simp⟩ ?_ ?_
  ·simp [go_sem, leeAnn, leeSt]
  rintro i ⟨hi, hr⟩ ih
  simp +decide only [leeSt, hN, go_sem]
  refine Runs.split (fun h => ?_) (fun h => ?_)
  ·have hlt : i < ne.length := by simpa using h
   have hg : (ne.map rowS).getD i .any = .sl .sh (ne[i].map intA) := by simp [List.getD, hlt, rowS]
   rw [List.drop_eq_getElem_cons hlt, List.all_cons] at hr
   simp +decide (disch := first | omega | (simp only [ll]; omega)) only [hN, hg, if_pos, go_sem]
   refine Runs.call (l8Four hm ne[i] (f3 _ (List.getElem_mem hlt))) ?_
   cases g2 : addrB ne[i]
   ·simp +decide only [go_sem]
    exact Runs.ret_eq (by simp only [exB, ← hr, g2, Bool.and_false, Bool.false_and])
   ·rw [g2, Bool.true_and] at hr
    simp +decide (disch := first | omega | (simp only [ll]; omega)) only [if_pos, go_sem]
    refine ih (i + 1) _ (by omega) ⟨by omega, hr⟩ ?_
    simp [go_sem, leeAnn, leeSt]
  have hge : i = ne.length := by simp at h; omega
  rw [hge, List.drop_length, List.all_nil] at hr
  simp +decide only [go_sem]
  refine Runs.while (α := Nat) (leeSt2 (exS true path usage ho ne al de pu)) (fun i => pu.length - i) (fun i => i ≤ pu.length ∧ stepsE pu i = stepsE pu 0) 0 ⟨by omega, rfl⟩ ?_ ?_
  ·simp [go_sem, leeAnn, leeSt2]
  rintro i ⟨hi1, hr1⟩ ih
  simp +decide only [leeSt2, hP, go_sem]
  refine Runs.split (fun h => ?_) (fun h => ?_)
  ·have hlt : i < pu.length := by simpa using h
   rw [stepsE_succ hlt] at hr1
   have hg : pu.getD i 0 = pu[i] := by simp [List.getD, hlt]
   have hgA : (pu.map intA).getD i .any = .v (.int .i64 pu[i]) := by simp [List.getD, hlt, intA]
   have stop : stepE pu i = false → exB true path usage ho ne al de pu = false := fun e => by
    rw [exB, ← stepsE_eq, ← hr1, e]; simp
   simp +decide only [go_sem]
   cases hb : inB pu[i] 1 1000 with
   | false =>
    refine Runs.draw (st1 := ?s1b) (draws_ref (ann := leeAnn) tabOk (byL [] [1000001]) leeS (by kernel_rfl) ?p1b) ?q1b
    case p1b =>
     intro K r X hK
     simp +decide (maxSteps := 9^7) (disch := first | omega | (simp only [ll]; omega)) only [hP, hgA, if_pos, go_sem]
     refine Runs.call (l1In hm _ 1 _) ?_
     simp +decide (maxSteps := 9^7) (disch := first | omega | (simp only [ll]; omega)) only [hb, if_pos, go_sem]
     exact hK
    case q1b =>
     have e : exB true path usage ho ne al de pu = false := stop (by rw [stepE, hg, hb, Bool.false_and])
     simp +decide (disch := first | omega | (simp only [ll]; omega)) only [if_pos, go_sem]
     exact Runs.ret_eq (by rw [e])
   | true =>
    rcases Nat.eq_zero_or_pos i with h0 | h0
    ·subst h0
     refine Runs.draw (st1 := ?s2b) (draws_ref (ann := leeAnn) tabOk (byL [] [1000001]) leeS (by kernel_rfl) ?p2b) ?q2b
     case p2b =>
      intro K r X hK
      simp +decide (maxSteps := 9^7) (disch := first | omega | (simp only [ll]; omega)) only [hP, hgA, Int.natCast_zero, if_pos, go_sem]
      refine Runs.call (l1In hm _ 1 _) ?_
      have hb0 : inB pu[Int.toNat 0] 1 1000 = true := hb
      simp +decide (maxSteps := 9^7) (disch := first | omega | (simp only [ll]; omega)) only [hb, hb0, Int.natCast_zero, gt_iff_lt, Int.lt_irrefl, if_pos, go_sem]
      exact hK
     case q2b =>
      have e : stepE pu 0 = true := by rw [stepE, hg, hb]; rfl
      rw [e, Bool.true_and] at hr1
      simp +decide (disch := first | omega | (simp only [ll]; omega)) only [if_pos, go_sem]
      refine ih 1 _ (by omega) ⟨by omega, hr1⟩ ?_
      simp [go_sem, leeAnn, leeSt2]
    ·have hd : decide ((i : Int) > 0) = true := by simp; omega
     have ht : ((i : Int) - 1).toNat = i - 1 := by omega
     have hg1 : (pu.map intA).getD (i - 1) .any = .v (.int .i64 (pu.getD (i - 1) 0)) := by simp [List.getD, show i - 1 < pu.length by omega, intA]
     cases h5 : decide (pu.getD (i - 1) 0 ≥ pu[i])
     ·refine Runs.draw (st1 := ?s3b) (draws_ref (ann := leeAnn) tabOk (byL [] [1000001]) leeS (by kernel_rfl) ?p3b) ?q3b
      case p3b =>
       intro K r X hK
       simp +decide (maxSteps := 9^7) (disch := first | omega | (simp only [ll]; omega)) only [hP, hgA, hd, ht, hg1, if_pos, go_sem]
       refine Runs.call (l1In hm _ 1 _) ?_
       simp +decide (maxSteps := 9^7) (disch := first | omega | (simp only [ll]; omega)) only [hP, hb, hd, ht, hg1, hgA, h5, if_pos, go_sem]
       exact hK
      case q3b =>
       have e : stepE pu i = true := by rw [stepE, hg, hb]; simp at h5; simp; right; exact h5
       rw [e, Bool.true_and] at hr1
       simp +decide (disch := first | omega | (simp only [ll]; omega)) only [if_pos, go_sem]
       refine ih (i + 1) _ (by omega) ⟨by omega, hr1⟩ ?_
       simp [go_sem, leeAnn, leeSt2]
     ·refine Runs.draw (st1 := ?s4b) (draws_ref (ann := leeAnn) tabOk (byL [] [1000001]) leeS (by kernel_rfl) ?p4b) ?q4b
      case p4b =>
       intro K r X hK
       simp +decide (maxSteps := 9^7) (disch := first | omega | (simp only [ll]; omega)) only [hP, hgA, hd, ht, hg1, if_pos, go_sem]
       refine Runs.call (l1In hm _ 1 _) ?_
       simp +decide (maxSteps := 9^7) (disch := first | omega | (simp only [ll]; omega)) only [hP, hb, hd, ht, hg1, hgA, h5, if_pos, go_sem]
       exact hK
      case q4b =>
       have e : exB true path usage ho ne al de pu = false := stop (by rw [stepE, hg, hb]; simp at h5; simp; omega)
       simp +decide (disch := first | omega | (simp only [ll]; omega)) only [if_pos, go_sem]
       exact Runs.ret_eq (by rw [e])
  have hge : i = pu.length := by simp at h; omega
  rw [hge, stepsE_end (Nat.le_refl _)] at hr1
  simp +decide only [go_sem]
  exact Runs.ret_eq (by simp only [exB, c1, c2, c3, c4, c5, c6, c7, c8, ← hr, ← stepsE_eq, ← hr1, Bool.true_and, Bool.and_true, Bool.true_or, Bool.false_or])
end Go.Proofs.W

namespace Go.Proofs.W
open Go Go.AM
set_option maxRecDepth 10000
variable (hm : Tryz.prog.follows .mixedOrders = true)
attribute [local go_sem] exS rowS_plain rowS_dn rowO_dn
def iexAnn : Ann := [(0, [0, 1, 7, 8])]
def iexSt (f : A) (L : List (List Int)) (i : Nat) : St := ⟨[.sl .sh (L.map rowS), f, .any, .any, .any, .any, .any, .v (.int .i64 L.length), .v (.int .i64 i), .any, .any, .any, .any, .any, .any, .any, .any, .any, .any], [], []⟩
include hm in
theorem indexFuncI (g : Nat) (L : List (List Int)) (q : List Int → Bool) (h : L.length ≤ 1048576) (hq : ∀ s ∈ L, Holds Tryz.prog g [.sl .sh (s.map intA)] [] (.v (.bool (q s))) []) :
  ∃ n : Int, decide (n ≥ 0) = L.any q ∧ Holds Tryz.prog 116 [.sl .sh (L.map rowS), .v (.func (.func g) #[] #[])] [] (.v (.int .i64 n)) [] := by
 refine ⟨if L.any q = true then (L.findIdx q : Int) else -1, by cases h : L.any q <;> simp, ?_⟩
 refine holds_of (ann := iexAnn) tabOk hm Tryz.func116 (by kernel_rfl) rfl ?_
 simp +decide only [Tryz.f116, go_sem]
 have ha : (L.map rowS).length = L.length := List.length_map _
 refine Runs.while (α := Nat) (iexSt (.v (.func (.func g) #[] #[])) L) (fun i => L.length - i) (fun i => i ≤ L.length ∧ ∀ j (hj : j < L.length), j < i → q L[j] = false) 0 ⟨by omega, fun _ _ h => absurd h (by omega)⟩ ?_ ?_
 ·simp [go_sem, iexAnn, iexSt]
 ·rintro i ⟨hi, hn⟩ ih
  simp +decide only [iexSt, ha, go_sem]
  refine Runs.split (fun h => ?_) (fun h => ?_)
  ·have hlt : i < L.length := by simpa using h
   have hg : (L.map rowS).getD i .any = .sl .sh (L[i].map intA) := by simp [List.getD, hlt, rowS]
   simp +decide (disch := first | omega | (simp only [ll]; omega)) only [ha, hg, if_pos, go_sem]
   refine Runs.call (hq L[i] (List.getElem_mem hlt)) ?_
   cases h2 : q L[i]
   ·simp +decide (disch := first | omega | (simp only [ll]; omega)) only [if_pos, go_sem]
    refine ih (i + 1) _ (by omega) ⟨by omega, fun j hj hji => ?_⟩ ?_
    ·rcases Nat.lt_or_ge j i with h3 | h3
     ·exact hn j hj h3
     ·have : j = i := by omega
      subst this; exact h2
    ·simp [go_sem, iexAnn, iexSt]
   ·simp +decide (disch := first | omega | (simp only [ll]; omega)) only [if_pos, go_sem]
    have e1 : L.any q = true := List.any_eq_true.mpr ⟨L[i], List.getElem_mem hlt, h2⟩
    have e2 : L.findIdx q = i := (List.findIdx_eq hlt).mpr ⟨h2, fun j hj => hn j (by omega) hj⟩
    exact Runs.ret_eq (by rw [e1, e2]; rfl)
  ·have hge : i = L.length := by simp at h; omega
   have e1 : L.any q = false := by
    rw [List.any_eq_false]
    intro x hx
    obtain ⟨j, hj, rfl⟩ := List.getElem_of_mem hx
    rw [hn j hj (by omega)]; simp
   simp +decide only [go_sem]
   exact Runs.ret_eq (by rw [e1]; rfl)
include hm in
theorem contFuncI (g : Nat) (L : List (List Int)) (q : List Int → Bool) (h : L.length ≤ 1048576) (hq : ∀ s ∈ L, Holds Tryz.prog g [.sl .sh (s.map intA)] [] (.v (.bool (q s))) []) :
  Holds Tryz.prog 77 [.sl .sh (L.map rowS), .v (.func (.func g) #[] #[])] [] (.v (.bool (L.any q))) [] := by
 refine holds_of (ann := []) tabOk hm Tryz.func77 (by kernel_rfl) rfl ?_
 simp +decide only [Tryz.f77, go_sem]
 obtain ⟨n, hn, hc⟩ := indexFuncI hm g L q h hq
 refine Runs.call hc ?_
 simp +decide only [hn, go_sem]
 exact Runs.ret_v
theorem any_not_all {α : Type} (L : List α) (q : α → Bool) : (L.any fun s => !q s) = !L.all q := by
 induction L with
 | nil => rfl
 | cons a l ih => rw [List.any_cons, List.all_cons, ih, Bool.not_and]
include hm in
theorem isAddress (L : List Int) (h : L.length ≤ 1048576) : Holds Tryz.prog 100 [.sl .sh (L.map intA)] [] (.v (.bool (addrB L))) [] := by
 refine holds_of (ann := []) tabOk hm Tryz.func100 (by kernel_rfl) rfl ?_
 have ha : (L.map intA).length = L.length := List.length_map _
 simp +decide only [Tryz.f100, ha, go_sem]
 cases h2 : decide ((L.length : Int) = 4)
 ·simp +decide only [go_sem]
  exact Runs.ret_eq (by rw [addrB, h2, Bool.false_and])
 ·simp +decide only [go_sem]
  refine Runs.call (allWithin hm L 0 255 (by omega)) ?_
  simp +decide only [go_sem]
  exact Runs.ret_eq (by rw [addrB, h2, Bool.true_and])
include hm in
theorem notAddress (L : List Int) (h : L.length ≤ 1048576) : Holds Tryz.prog 99 [.sl .sh (L.map intA)] [] (.v (.bool (!addrB L))) [] := by
 refine holds_of (ann := []) tabOk hm Tryz.func99 (by kernel_rfl) rfl ?_
 simp +decide only [Tryz.f99, go_sem]
 refine Runs.call (isAddress hm L h) ?_
 simp +decide only [go_sem]
 exact Runs.ret_v
include hm in
theorem areAll1 (g : Nat) (q : ByteArray → Bool) (s : ByteArray) (hq : Holds Tryz.prog g [.v (.string s)] [] (.v (.bool (q s))) []) :
  Holds Tryz.prog 130 [.v (.string s), .ptr [.v (.func (.func g) #[] #[])] 0 0] [] (.v (.bool (!q s))) [] := by
 refine holds_of (ann := []) tabOk hm Tryz.func130 (by kernel_rfl) rfl ?_
 simp +decide only [Tryz.f130, go_sem]
 refine Runs.call hq ?_
 simp +decide only [go_sem]
 exact Runs.ret_v
include hm in
theorem areAll (g : Nat) (q : ByteArray → Bool) (L : List ByteArray) (h : L.length ≤ 1048576) (hq : ∀ s ∈ L, Holds Tryz.prog g [.v (.string s)] [] (.v (.bool (q s))) []) :
  Holds Tryz.prog 96 [.sl .sh (L.map strA), .v (.func (.func g) #[] #[])] [] (.v (.bool (hostsB q L))) [] := by
 refine holds_ref (ann := []) tabOk hm (byL [] [1000003]) Tryz.func96 (by kernel_rfl) rfl ?_
 have ha : (L.map strA).length = L.length := List.length_map _
 simp +decide only [Tryz.f96, ha, go_sem]
 cases h2 : decide ((L.length : Int) ≤ 6)
 ·simp +decide only [go_sem]
  exact Runs.ret_eq (by rw [hostsB, h2, Bool.and_false])
 ·simp +decide only [go_sem]
  have c := contFunc2 hm 130 g L (fun s => !q s) h (fun s hs => areAll1 hm g q s (hq s hs))
  rw [any_not_all] at c
  refine Runs.call c ?_
  simp +decide only [go_sem]
  exact Runs.ret_eq (by rw [hostsB, h2, Bool.and_true, Bool.not_not])
set_option maxHeartbeats 4000000 in
include hm in
theorem extsOk (ca : Bool) (path usage : Int) (ho : List ByteArray) (ne : List (List Int)) (al de : List ByteArray) (pu : List Int) (h : ExFit ho ne al de pu)
  (s1 : ∀ s ∈ ho, s.size ≤ 1048576) (s2 : ∀ s ∈ al, s.size ≤ 1048576) (s3 : ∀ s ∈ de, s.size ≤ 1048576) :
  Holds Tryz.prog 63 [exS ca path usage ho ne al de pu] [] (.v (.bool (exB ca path usage ho ne al de pu))) [] := by
 obtain ⟨f1, f2, f3, f4, f5, f6⟩ := h
 refine holds_ref (ann := []) tabOk hm (byL [] [1000001]) Tryz.func63 (by kernel_rfl) rfl ?_
 have hN : (ne.map rowS).length = ne.length := List.length_map _
 have hP : (pu.map intA).length = pu.length := List.length_map _
 have h1 := areAll hm 97 patB ho f1 fun s hs => iPatOk hm s (s1 s hs)
 have h2 := areAll hm 98 hostB al f4 fun s hs => iHostOk hm s
 have h3 := areAll hm 98 hostB de f5 fun s hs => iHostOk hm s
 have h4 := contFuncI hm 99 ne (fun l => !addrB l) f2 fun l hl => notAddress hm l (f3 l hl)
 rw [any_not_all] at h4
 have h5 := isRising hm pu 1 1000 (by omega)
 simp +decide only [Tryz.f63, hN, hP, go_sem]
 refine Runs.call (within hm path (-1) 10) ?_
 cases c1 : inB path (-1) 10
 ·simp +decide only [go_sem]
  exact Runs.ret_eq (by simp only [exB, c1, Bool.false_and])
 simp +decide only [go_sem]
 cases c2 : (ca || decide (path = -1))
 ·simp only [Bool.or_eq_false_iff] at c2
  obtain ⟨d1, d2⟩ := c2
  subst d1
  simp +decide only [d2, go_sem]
  exact Runs.ret_eq (by simp only [exB, c1, d2, Bool.or_false, Bool.and_false, Bool.false_and])
 cases ca
 all_goals
  simp only [Bool.false_or, Bool.true_or] at c2
  simp +decide only [c2, go_sem]
  refine Runs.call (within hm usage 0 7) ?_
  cases c3 : inB usage 0 7
  ·simp +decide only [go_sem]
   exact Runs.ret_eq (by simp only [exB, c3, Bool.and_false, Bool.false_and])
  simp +decide only [go_sem]
  refine Runs.call h1 ?_
  cases c4 : hostsB patB ho
  ·simp +decide only [go_sem]
   exact Runs.ret_eq (by simp only [exB, c4, Bool.and_false, Bool.false_and])
  simp +decide only [go_sem]
  refine Runs.call h2 ?_
  cases c5 : hostsB hostB al
  ·simp +decide only [go_sem]
   exact Runs.ret_eq (by simp only [exB, c5, Bool.and_false, Bool.false_and])
  simp +decide only [go_sem]
  refine Runs.call h3 ?_
  cases c6 : hostsB hostB de
  ·simp +decide only [go_sem]
   exact Runs.ret_eq (by simp only [exB, c6, Bool.and_false, Bool.false_and])
  simp +decide only [hN, hP, go_sem]
  refine Runs.split (fun g => ?_) (fun g => ?_)
  ·have c7 : decide ((ne.length : Int) ≤ 6) = false := by simp at g; simp; omega
   simp +decide only [go_sem]
   exact Runs.ret_eq (by simp only [exB, c7, Bool.and_false, Bool.false_and])
  have c7 : decide ((ne.length : Int) ≤ 6) = true := by simp at g; simp; omega
  simp +decide only [hN, hP, go_sem]
  refine Runs.call h4 ?_
  cases c8 : ne.all addrB
  ·simp +decide only [go_sem]
   exact Runs.ret_eq (by simp only [exB, c8, Bool.and_false, Bool.false_and])
  simp +decide only [hN, hP, go_sem]
  cases c9 : decide ((pu.length : Int) ≤ 6)
  ·simp +decide only [go_sem]
   exact Runs.ret_eq (by simp only [exB, c9, Bool.and_false, Bool.false_and])
  simp +decide only [go_sem]
  refine Runs.call h5 ?_
  simp +decide only [go_sem]
  exact Runs.ret_eq (by simp only [exB, risE, c1, c2, c3, c4, c5, c6, c7, c8, c9, Bool.true_and, Bool.and_true, Bool.true_or, Bool.false_or])
end Go.Proofs.W

namespace Go.Proofs.W
open Go Go.AM Go.Proofs.G
set_option maxRecDepth 10000
variable (hm : Tryz.prog.follows .mixedOrders = true)
include hm in
theorem l2Left (a m : Int) (h1 : 0 < m) (h2 : m ≤ 4611686018427387904) : Holds Tryz.prog 162 [.v (.int .i64 a), .v (.int .i64 m)] [] (.v (.int .i64 (a % m))) [] := by
 refine holds_of (ann := []) tabOk hm Tryz.func162 (by kernel_rfl) rfl ?_
 have hb := tmod_bd (a := a) h1
 have he := left_eq (a := a) h1
 simp +decide (disch := first | omega | (simp only [ll]; omega)) only [Tryz.f162, he, if_pos, go_sem]
 exact Runs.ret_v
include hm in
theorem rest (a m : Int) (h1 : 0 < m) (h2 : m ≤ 4611686018427387904) : Holds Tryz.prog 183 [.v (.int .i64 a), .v (.int .i64 m)] [] (.v (.int .i64 (a % m))) [] := by
 refine holds_of (ann := []) tabOk hm Tryz.func183 (by kernel_rfl) rfl ?_
 have hb := tmod_bd (a := a) h1
 have he := left_eq (a := a) h1
 simp +decide (disch := first | omega | (simp only [ll]; omega)) only [Tryz.f183, he, if_pos, go_sem]
 exact Runs.ret_v
theorem nat_of {m : Int} (h : 0 ≤ m) : ∃ n : Nat, m = n := ⟨m.toNat, (Int.toNat_of_nonneg h).symm⟩
theorem tdiv_nat (r s : Nat) : (r : Int).tdiv s = ((r / s : Nat) : Int) := by rw [Int.tdiv_eq_ediv_of_nonneg (by omega)]; rfl
theorem tmod_nat (r s : Nat) : (r : Int).tmod s = ((r % s : Nat) : Int) := by rw [Int.tmod_eq_emod_of_nonneg (by omega)]; rfl
def liAnn : Ann := [(0, [1, 5, 6, 7, 8])]
def liSt (m : Nat) (p : Nat × Nat × Int × Int) : St := ⟨[.any, .v (.int .i64 m), .any, .any, .any, .v (.int .i64 p.1), .v (.int .i64 p.2.1), .v (.int .i64 p.2.2.1), .v (.int .i64 p.2.2.2), .any, .any, .any, .any, .any, .any, .any, .any, .any, .any, .any, .any, .any, .any, .any, .any, .any, .any, .any, .any, .any, .any, .any, .any, .any], [], []⟩
def liS : Sched := .take 0 (.take 1 (.take 2 (.take 3 (.take 4 (.take 5 .fin)))))
attribute [local go_sem] liS
include hm in
theorem l2Inv (a m : Int) (h1 : 1 ≤ m) (h2 : m ≤ 1073741824) : Holds Tryz.prog 161 [.v (.int .i64 a), .v (.int .i64 m)] [] (.v (.int .i64 (invI a m))) [] := by
 refine holds_of (ann := liAnn) tabOk hm Tryz.func161 (by kernel_rfl) rfl ?_
 obtain ⟨n, rfl⟩ := nat_of (m := m) (by omega)
 simp +decide only [Tryz.f161, go_sem]
 refine Runs.call (l2Left hm a n (by omega) (by omega)) ?_
 simp +decide only [go_sem]
 obtain ⟨s0, hs0⟩ := nat_of (Int.emod_nonneg a (show (n : Int) ≠ 0 by omega))
 refine Runs.while (α := Nat × Nat × Int × Int) (liSt n) (fun p => p.2.1) (fun p => InvS n p.1 p.2.1 p.2.2.1 p.2.2.2 ∧ invGo p.1 p.2.1 p.2.2.1 p.2.2.2 = invGo n s0 0 1 ∧ p.1 ≤ n ∧ p.2.1 ≤ n) (n, s0, 0, 1) ⟨InvS.zero (by omega), rfl, Nat.le_refl _, by have := Int.emod_lt_of_pos a (show (0 : Int) < n by omega); simp only; omega⟩ ?_ ?_
 ·simp [go_sem, liAnn, liSt, hs0]
 ·rintro ⟨r, s, x, y⟩ ⟨hi, hg, hr1, hs1⟩ ih
  simp only at hi hg hr1 hs1
  simp +decide only [liSt, go_sem]
  refine Runs.split (fun h => ?_) (fun h => ?_)
  ·have hs : s ≠ 0 := by simp at h; omega
   obtain ⟨i1, b1, b2, b3, b4⟩ := hi.next hs
   have e1 := tdiv_nat r s
   have e2 := tmod_nat r s
   have w0 : ∀ q : Nat, q ≤ r → IntKind.i64.wrap (q : Int) = q := fun q h => wrap_i64 (by omega) (by omega)
   have w1 := w0 _ (Nat.div_le_self r s)
   generalize hq : ((r / s : Nat) : Int) = q at *
   have w2 : IntKind.i64.wrap (q * y) = q * y := wrap_i64 (by omega) (by omega)
   have w3 : IntKind.i64.wrap (x - q * y) = x - q * y := wrap_i64 (by omega) (by omega)
   simp +decide (disch := first | omega | (simp only [ll]; omega)) only [e1, w1, if_pos, go_sem]
   refine Runs.draw (st1 := ?s1) (draws_by (ann := liAnn) tabOk liS (by kernel_rfl) ?p1) ?q1
   case p1 =>
    intro K r' X hK
    simp +decide (disch := first | omega | (simp only [ll]; omega)) only [e2, if_pos, go_sem]
    exact hK
   case q1 =>
    simp +decide (disch := first | omega | (simp only [ll]; omega)) only [w2, w3, if_pos, go_sem]
    refine ih (s, r % s, y, x - q * y) _ (by simp only; exact Nat.mod_lt _ (by omega)) ⟨i1, ?_, hs1, by simp only; have := Nat.mod_le r s; omega⟩ ?_
    ·rw [← hg, ← hq]
     conv => rhs; rw [invGo, dif_neg hs]
    ·simp [go_sem, liAnn, liSt]
  ·have hs : s = 0 := by simp at h; omega
   subst hs
   rw [invGo, dif_pos rfl] at hg
   simp +decide only [go_sem]
   have hv : invI a n = if r = 1 then x % n else 0 := by
    unfold invI
    rw [hs0, Int.toNat_natCast, Int.toNat_natCast, ← hg]
   refine Runs.split (fun h => ?_) (fun h => ?_)
   ·have hr : r ≠ 1 := by simp at h; omega
    simp +decide only [hv, hr, go_sem]
    exact Runs.ret_v
   ·have hr : r = 1 := by simp at h; omega
    simp +decide only [go_sem]
    refine Runs.call (l2Left hm x n (by omega) (by omega)) ?_
    simp +decide only [hv, hr, go_sem]
    exact Runs.ret_v
def iiAnn : Ann := [(0, [1, 6, 7, 8, 9])]
def iiSt (m : Nat) (p : Nat × Nat × Int × Int) : St := ⟨[.any, .v (.int .i64 m), .any, .any, .any, .any, .v (.int .i64 p.1), .v (.int .i64 p.2.1), .v (.int .i64 p.2.2.1), .v (.int .i64 p.2.2.2), .any, .any, .any, .any, .any, .any, .any, .any, .any, .any, .any, .any, .any, .any, .any, .any, .any, .any, .any, .any, .any, .any, .any, .any, .any, .any, .any, .any], [], []⟩
def iiS : Sched := .take 0 (.take 1 (.take 2 (.take 3 (.take 4 (.take 5 .fin)))))
attribute [local go_sem] iiS
include hm in
theorem invInt (a m : Int) (h1 : 2 ≤ m) (h2 : m ≤ 1073741824) : Holds Tryz.prog 182 [.v (.int .i64 a), .v (.int .i64 m)] [] (.tup [.v (.int .i64 (invI a m)), .v (.bool (invOk a m))]) [] := by
 refine holds_of (ann := iiAnn) tabOk hm Tryz.func182 (by kernel_rfl) rfl ?_
 obtain ⟨n, rfl⟩ := nat_of (m := m) (by omega)
 simp +decide only [Tryz.f182, go_sem]
 refine Runs.call (within hm n 2 1073741824) ?_
 have hw : inB n 2 1073741824 = true := by simp [inB]; omega
 simp +decide only [hw, go_sem]
 refine Runs.call (rest hm a n (by omega) (by omega)) ?_
 simp +decide only [go_sem]
 obtain ⟨s0, hs0⟩ := nat_of (Int.emod_nonneg a (show (n : Int) ≠ 0 by omega))
 refine Runs.while (α := Nat × Nat × Int × Int) (iiSt n) (fun p => p.2.1) (fun p => InvS n p.1 p.2.1 p.2.2.1 p.2.2.2 ∧ invGo p.1 p.2.1 p.2.2.1 p.2.2.2 = invGo n s0 0 1 ∧ p.1 ≤ n ∧ p.2.1 ≤ n) (n, s0, 0, 1) ⟨InvS.zero (by omega), rfl, Nat.le_refl _, by have := Int.emod_lt_of_pos a (show (0 : Int) < n by omega); simp only; omega⟩ ?_ ?_
 ·simp [go_sem, iiAnn, iiSt, hs0]
 ·rintro ⟨r, s, x, y⟩ ⟨hi, hg, hr1, hs1⟩ ih
  simp only at hi hg hr1 hs1
  simp +decide only [iiSt, go_sem]
  refine Runs.split (fun h => ?_) (fun h => ?_)
  ·have hs : s ≠ 0 := by simp at h; omega
   obtain ⟨i1, b1, b2, b3, b4⟩ := hi.next hs
   have e1 := tdiv_nat r s
   have e2 := tmod_nat r s
   have w0 : ∀ q : Nat, q ≤ r → IntKind.i64.wrap (q : Int) = q := fun q h => wrap_i64 (by omega) (by omega)
   have w1 := w0 _ (Nat.div_le_self r s)
   generalize hq : ((r / s : Nat) : Int) = q at *
   have w2 : IntKind.i64.wrap (q * y) = q * y := wrap_i64 (by omega) (by omega)
   have w3 : IntKind.i64.wrap (x - q * y) = x - q * y := wrap_i64 (by omega) (by omega)
   simp +decide (disch := first | omega | (simp only [ll]; omega)) only [e1, w1, if_pos, go_sem]
   refine Runs.draw (st1 := ?s1) (draws_by (ann := iiAnn) tabOk iiS (by kernel_rfl) ?p1) ?q1
   case p1 =>
    intro K r' X hK
    simp +decide (disch := first | omega | (simp only [ll]; omega)) only [e2, if_pos, go_sem]
    exact hK
   case q1 =>
    simp +decide (disch := first | omega | (simp only [ll]; omega)) only [w2, w3, if_pos, go_sem]
    refine ih (s, r % s, y, x - q * y) _ (by simp only; exact Nat.mod_lt _ (by omega)) ⟨i1, ?_, hs1, by simp only; have := Nat.mod_le r s; omega⟩ ?_
    ·rw [← hg, ← hq]
     conv => rhs; rw [invGo, dif_neg hs]
    ·simp [go_sem, iiAnn, iiSt]
  ·have hs : s = 0 := by simp at h; omega
   subst hs
   rw [invGo, dif_pos rfl] at hg
   simp +decide only [go_sem]
   have hv : invI a n = if r = 1 then x % n else 0 := by
    unfold invI
    rw [hs0, Int.toNat_natCast, Int.toNat_natCast, ← hg]
   have hv2 : invOk a n = (r == 1) := by
    unfold invOk
    rw [hs0, Int.toNat_natCast, Int.toNat_natCast, ← hg]
   refine Runs.split (fun h => ?_) (fun h => ?_)
   ·have hr : r ≠ 1 := by simp at h; omega
    simp +decide only [hv, hv2, hr, go_sem]
    exact Runs.ret_eq (by simp [hr])
   ·have hr : r = 1 := by simp at h; omega
    simp +decide only [go_sem]
    refine Runs.call (rest hm x n (by omega) (by omega)) ?_
    simp +decide only [hv, hv2, hr, go_sem]
    exact Runs.ret_refl
theorem prime_in (n : Int) (h : inB n 2 1099511627776 = false) : primeZ n = false := by
 unfold primeZ
 unfold inB at h
 rw [h, Bool.false_and]
def spAnn : Ann := [(0, [0, 3])]
def spSt (n d : Int) : St := ⟨[.v (.int .i64 n), .any, .any, .v (.int .i64 d), .any, .any, .any, .any, .any, .any, .any, .any, .any, .any, .any, .any, .any, .any], [], []⟩
include hm in
theorem sPrime (n : Int) : Holds Tryz.prog 160 [.v (.int .i64 n)] [] (.v (.bool (primeZ n))) [] := by
 refine holds_of (ann := spAnn) tabOk hm Tryz.func160 (by kernel_rfl) rfl ?_
 simp +decide only [Tryz.f160, go_sem]
 refine Runs.call (l1In hm n 2 1099511627776) ?_
 simp +decide only [go_sem]
 refine Runs.split (fun h => ?_) (fun h => ?_)
 ·have e := prime_in n (by simpa using h)
  simp +decide only [e, go_sem]
  exact Runs.ret_v
 ·have hn : 2 ≤ n ∧ n ≤ 1099511627776 := by simpa [inB] using h
  simp +decide only [go_sem]
  refine Runs.while (α := Int) (spSt n) (fun d => (1048578 - d).toNat) (fun d => 2 ≤ d ∧ d ≤ 1048577 ∧ ∀ e, 2 ≤ e → e < d → e * e ≤ n → n.tmod e ≠ 0) 2 ⟨by omega, by omega, fun e _ _ => by omega⟩ ?_ ?_
  ·simp [go_sem, spAnn, spSt]
  ·rintro d ⟨d1, d2, hd⟩ ih
   have b1 : d * d ≤ 1048577 * 1048577 := Int.mul_le_mul d2 d2 (by omega) (by omega)
   have b2 : 0 ≤ d * d := Int.mul_nonneg (by omega) (by omega)
   have w1 : IntKind.i64.wrap (d * d) = d * d := wrap_i64 (by omega) (by omega)
   simp +decide only [spSt, w1, go_sem]
   refine Runs.split (fun h => ?_) (fun h => ?_)
   ·have hle : d * d ≤ n := by simpa using h
    have hb := sq_bd (by omega) hle hn.2
    simp +decide (disch := first | omega | (simp only [ll]; omega)) only [if_pos, go_sem]
    refine Runs.split (fun h => ?_) (fun h => ?_)
    ·have e := prime_no d1 hle (by simpa using h)
     simp +decide only [e, go_sem]
     exact Runs.ret_v
    ·have hz : n.tmod d ≠ 0 := by simpa using h
     simp +decide (disch := first | omega | (simp only [ll]; omega)) only [if_pos, go_sem]
     refine ih (d + 1) _ (by omega) ⟨by omega, by omega, fun e e1 e2 e3 => ?_⟩ ?_
     ·rcases Int.lt_or_le e d with h | h
      ·exact hd e e1 h e3
      ·have : e = d := by omega
       subst this
       exact hz
     ·simp [go_sem, spAnn, spSt]
   ·have hgt : n < d * d := by simpa using h
    have e := prime_yes hn.1 hn.2 d1 hgt hd
    simp +decide only [e, go_sem]
    exact Runs.ret_v
def ipAnn : Ann := [(0, [0, 3])]
def ipSt (n d : Int) : St := ⟨[.v (.int .i64 n), .any, .any, .v (.int .i64 d), .any, .any, .any, .any, .any, .any, .any, .any, .any, .any, .any, .any, .any, .any], [], []⟩
include hm in
theorem iPrime (n : Int) : Holds Tryz.prog 180 [.v (.int .i64 n)] [] (.v (.bool (primeZ n))) [] := by
 refine holds_of (ann := ipAnn) tabOk hm Tryz.func180 (by kernel_rfl) rfl ?_
 simp +decide only [Tryz.f180, go_sem]
 refine Runs.call (within hm n 2 1099511627776) ?_
 simp +decide only [go_sem]
 refine Runs.split (fun h => ?_) (fun h => ?_)
 ·have e := prime_in n (by simpa using h)
  simp +decide only [e, go_sem]
  exact Runs.ret_v
 ·have hn : 2 ≤ n ∧ n ≤ 1099511627776 := by simpa [inB] using h
  simp +decide only [go_sem]
  refine Runs.while (α := Int) (ipSt n) (fun d => (1048578 - d).toNat) (fun d => 2 ≤ d ∧ d ≤ 1048577 ∧ ∀ e, 2 ≤ e → e < d → e * e ≤ n → n.tmod e ≠ 0) 2 ⟨by omega, by omega, fun e _ _ => by omega⟩ ?_ ?_
  ·simp [go_sem, ipAnn, ipSt]
  ·rintro d ⟨d1, d2, hd⟩ ih
   have b1 : d * d ≤ 1048577 * 1048577 := Int.mul_le_mul d2 d2 (by omega) (by omega)
   have b2 : 0 ≤ d * d := Int.mul_nonneg (by omega) (by omega)
   have w1 : IntKind.i64.wrap (d * d) = d * d := wrap_i64 (by omega) (by omega)
   simp +decide only [ipSt, w1, go_sem]
   refine Runs.split (fun h => ?_) (fun h => ?_)
   ·have hle : d * d ≤ n := by simpa using h
    have hb := sq_bd (by omega) hle hn.2
    simp +decide (disch := first | omega | (simp only [ll]; omega)) only [if_pos, go_sem]
    refine Runs.split (fun h => ?_) (fun h => ?_)
    ·have e := prime_no d1 hle (by simpa using h)
     simp +decide only [e, go_sem]
     exact Runs.ret_v
    ·have hz : n.tmod d ≠ 0 := by simpa using h
     simp +decide (disch := first | omega | (simp only [ll]; omega)) only [if_pos, go_sem]
     refine ih (d + 1) _ (by omega) ⟨by omega, by omega, fun e e1 e2 e3 => ?_⟩ ?_
     ·rcases Int.lt_or_le e d with h | h
      ·exact hd e e1 h e3
      ·have : e = d := by omega
       subst this
       exact hz
     ·simp [go_sem, ipAnn, ipSt]
   ·have hgt : n < d * d := by simpa using h
    have e := prime_yes hn.1 hn.2 d1 hgt hd
    simp +decide only [e, go_sem]
    exact Runs.ret_v
def lpAnn : Ann := [(0, [1, 2, 7, 8])]
def lpSt (m : Int) (p : Nat × Int × Int) : St := ⟨[.any, .v (.int .i64 p.1), .v (.int .i64 m), .any, .any, .any, .any, .v (.int .i64 p.2.1), .v (.int .i64 p.2.2), .any, .any, .any, .any, .any, .any, .any, .any, .any, .any, .any, .any, .any, .any, .any, .any, .any, .any, .any, .any, .any, .any, .any], [], []⟩
def lpS : Sched := .take 0 (.take 1 (.take 2 (.take 3 (.take 4 (.take 5 (.take 6 .fin))))))
attribute [local go_sem] lpS
include hm in
theorem l2Pow (a m : Int) (e : Nat) (h0 : 0 ≤ a) (h1 : 0 < m) (h2 : m ≤ 2147483648) (h3 : e ≤ 9223372036854775807) : Holds Tryz.prog 163 [.v (.int .i64 a), .v (.int .i64 e), .v (.int .i64 m)] [] (.v (.int .i64 (powZ a e m))) [] := by
 refine holds_of (ann := lpAnn) tabOk hm Tryz.func163 (by kernel_rfl) rfl ?_
 have e1 : (1 : Int).tmod m = 1 % m := Int.tmod_eq_emod_of_nonneg (by omega)
 have e2 : a.tmod m = a % m := Int.tmod_eq_emod_of_nonneg h0
 have hin : ∀ n : Int, 0 ≤ n % m ∧ n % m < m := fun n => ⟨Int.emod_nonneg _ (by omega), Int.emod_lt_of_pos _ h1⟩
 simp +decide only [Tryz.f163, go_sem]
 refine Runs.draw (st1 := ?s1) (draws_by (ann := lpAnn) tabOk lpS (by kernel_rfl) ?p1) ?q1
 case p1 =>
  intro K r' X hK
  simp +decide (disch := first | omega | (simp only [ll]; omega)) only [e1, e2, if_pos, go_sem]
  exact hK
 case q1 =>
  simp +decide only [go_sem]
  refine Runs.while (α := Nat × Int × Int) (lpSt m) (fun p => p.1) (fun p => p.1 ≤ e ∧ (0 ≤ p.2.1 ∧ p.2.1 < m) ∧ (0 ≤ p.2.2 ∧ p.2.2 < m) ∧ mulL (mulZ m) p.1 p.2.1 p.2.2 = powZ a e m) (e, 1 % m, a % m) ⟨Nat.le_refl _, hin _, hin _, powZ_L h1 a e⟩ ?_ ?_
  ·simp [go_sem, lpAnn, lpSt]
  ·rintro ⟨n, out, base⟩ ⟨hn, ho, hb, hg⟩ ih
   simp only at hn ho hb hg
   have b1 := mul_bd ho hb h2
   have b2 := mul_bd hb hb h2
   have w1 : IntKind.i64.wrap (out * base) = out * base := wrap_i64 (by omega) (by omega)
   have w2 : IntKind.i64.wrap (base * base) = base * base := wrap_i64 (by omega) (by omega)
   have t1 : (out * base).tmod m = mulZ m out base := Int.tmod_eq_emod_of_nonneg b1.1
   have t2 : (base * base).tmod m = mulZ m base base := Int.tmod_eq_emod_of_nonneg b2.1
   have e3 := tmod_nat n 2
   have e4 := tdiv_nat n 2
   have w3 : IntKind.i64.wrap ((n / 2 : Nat) : Int) = ((n / 2 : Nat) : Int) := wrap_i64 (by omega) (by omega)
   simp +decide only [lpSt, go_sem]
   refine Runs.split (fun h => ?_) (fun h => ?_)
   ·have hs : n ≠ 0 := by simp at h; omega
    rw [mulL_step _ _ _ _ hs] at hg
    simp +decide (disch := first | omega | (simp only [ll]; omega)) only [if_pos, go_sem]
    rw [show (2 : Int) = ((2 : Nat) : Int) from rfl, e3]
    refine Runs.split (fun h => ?_) (fun h => ?_)
    ·have hbit : n % 2 = 1 := by simp at h; omega
     rw [if_pos hbit] at hg
     simp +decide (disch := first | omega | (simp only [ll]; omega)) only [w1, w2, t1, t2, e4, w3, if_pos, go_sem]
     refine ih (n / 2, mulZ m out base, mulZ m base base) _ (by simp only; omega) ⟨by simp only; omega, hin _, hin _, hg⟩ ?_
     simp [go_sem, lpAnn, lpSt]
    ·have hbit : ¬ n % 2 = 1 := by simp at h; omega
     rw [if_neg hbit] at hg
     simp +decide (disch := first | omega | (simp only [ll]; omega)) only [w1, w2, t1, t2, e4, w3, if_pos, go_sem]
     refine ih (n / 2, out, mulZ m base base) _ (by simp only; omega) ⟨by simp only; omega, ho, hin _, hg⟩ ?_
     simp [go_sem, lpAnn, lpSt]
   ·have hs : n = 0 := by simp at h; omega
    subst hs
    rw [mulL_zero] at hg
    simp +decide only [hg, go_sem]
    exact Runs.ret_v
end Go.Proofs.W

namespace Go.Proofs.W
open Go Go.AM Go.Proofs.G
set_option maxRecDepth 10000
variable (hm : Tryz.prog.follows .mixedOrders = true)
theorem shr_nat (n k : Nat) : (n : Int).fdiv (2 ^ k) = ((n / 2 ^ k : Nat) : Int) := by
 rw [Int.fdiv_eq_ediv_of_nonneg _ (Int.le_of_lt (Int.pow_pos (by decide)))]
 have : ((2 : Int) ^ k) = ((2 ^ k : Nat) : Int) := by simp
 rw [this]
 rfl
theorem s32 : min (32 : Int).toNat 64 = 32 := by decide
theorem s16 : min (16 : Int).toNat 64 = 16 := by decide
theorem s8 : min (8 : Int).toNat 64 = 8 := by decide
def tabOk8 (L : List UInt8) : Bool := L.length == 256 && (List.range 256).all fun i => decide (i < 2 ^ (L.getD i 0).toNat) && ((L.getD i 0).toNat == 0 || decide (2 ^ ((L.getD i 0).toNat - 1) ≤ i))
theorem len_get {L : List UInt8} (h : tabOk8 L = true) {x : Nat} (hx : x < 256) : (L.getD x 0).toNat = blen x := by
 simp only [tabOk8, Bool.and_eq_true, List.all_eq_true, List.mem_range, decide_eq_true_eq, Bool.or_eq_true, beq_iff_eq] at h
 have := h.2 x hx
 exact (blen_uniq this.1 this.2).symm
theorem len_size {L : List UInt8} (h : tabOk8 L = true) : (⟨L.toArray⟩ : ByteArray).size = 256 := by
 simp only [tabOk8, Bool.and_eq_true, beq_iff_eq] at h
 show L.toArray.size = 256
 simpa using h.1
theorem len_fin {L : List UInt8} (h : tabOk8 L = true) {x n : Nat} {a : Int} (b : Nat) (hx : x < 256) (ha : a = b) (hb : b ≤ 56) (hn : blen n = b + blen x) :
  A.v (.int .i64 (IntKind.i64.wrap (a + IntKind.i64.wrap ((L.getD x 0).toNat : Nat)))) = A.v (.int .i64 (blen n : Nat)) := by
 subst ha
 have h8 : blen x ≤ 8 := blen_le (by omega)
 have w1 : IntKind.i64.wrap (blen x : Nat) = (blen x : Nat) := wrap_i64 (by omega) (by omega)
 have w2 : IntKind.i64.wrap ((b : Int) + (blen x : Nat)) = (b : Int) + (blen x : Nat) := wrap_i64 (by omega) (by omega)
 rw [len_get h hx, w1, w2, hn]
 rfl
theorem len_in {L : List UInt8} (h : tabOk8 L = true) {x : Nat} (hx : x < 256) : 0 ≤ (x : Int) ∧ (x : Int) < ((⟨L.toArray⟩ : ByteArray).size : Nat) := by
 rw [len_size h]
 omega
include hm in
theorem len64 (n : Nat) (h : n < 2 ^ 64) : Holds Tryz.prog 142 [.v (.int .u64 n)] [] (.v (.int .i64 (blen n))) [] := by
 refine holds_of (ann := []) tabOk hm Tryz.func142 (by kernel_rfl) rfl ?_
 simp +decide only [Tryz.f142, go_sem]
 refine Runs.split (fun h => ?_) (fun h => ?_)
 all_goals
  simp +decide only [s32, shr_nat, go_sem]
  refine Runs.split (fun h1 => ?_) (fun h1 => ?_)
 all_goals
  simp +decide (disch := first | omega | (simp only [ll]; omega)) only [s16, shr_nat, if_pos, go_sem]
  refine Runs.split (fun h2 => ?_) (fun h2 => ?_)
 all_goals
  simp only [decide_eq_true_eq, decide_eq_false_iff_not] at h h1 h2
  simp +decide (disch := first | omega | (simp only [ll]; omega)) only [s8, shr_nat, if_pos, go_sem]
 all_goals
  try simp only [s32, s16, s8] at *
 ·refine Runs.chk (decide_eq_true (len_in (by decide +kernel) (by omega))) (Runs.ret_eq (len_fin (by decide +kernel) 56 (by omega) ?_ (by omega) ?_))
  ·rfl
  ·rw [blen_shift 32 (by omega), blen_shift 16 (by omega), blen_shift 8 (by omega)]; omega
 ·refine Runs.chk (decide_eq_true (len_in (by decide +kernel) (by omega))) (Runs.ret_eq (len_fin (by decide +kernel) 48 (by omega) ?_ (by omega) ?_))
  ·rfl
  ·rw [blen_shift 32 (by omega), blen_shift 16 (by omega)]; omega
 ·refine Runs.chk (decide_eq_true (len_in (by decide +kernel) (by omega))) (Runs.ret_eq (len_fin (by decide +kernel) 40 (by omega) ?_ (by omega) ?_))
  ·rfl
  ·rw [blen_shift 32 (by omega), blen_shift 8 (by omega)]; omega
 ·refine Runs.chk (decide_eq_true (len_in (by decide +kernel) (by omega))) (Runs.ret_eq (len_fin (by decide +kernel) 32 (by omega) ?_ (by omega) ?_))
  ·rfl
  ·rw [blen_shift 32 (by omega)]
 ·refine Runs.chk (decide_eq_true (len_in (by decide +kernel) (by omega))) (Runs.ret_eq (len_fin (by decide +kernel) 24 (by omega) ?_ (by omega) ?_))
  ·rfl
  ·rw [blen_shift 16 (by omega), blen_shift 8 (by omega)]; omega
 ·refine Runs.chk (decide_eq_true (len_in (by decide +kernel) (by omega))) (Runs.ret_eq (len_fin (by decide +kernel) 16 (by omega) ?_ (by omega) ?_))
  ·rfl
  ·rw [blen_shift 16 (by omega)]
 ·refine Runs.chk (decide_eq_true (len_in (by decide +kernel) (by omega))) (Runs.ret_eq (len_fin (by decide +kernel) 8 (by omega) ?_ (by omega) ?_))
  ·rfl
  ·rw [blen_shift 8 (by omega)]
 ·refine Runs.chk (decide_eq_true (len_in (by decide +kernel) (by omega))) (Runs.ret_eq (len_fin (by decide +kernel) 0 (by omega) ?_ (by omega) ?_))
  ·rfl
  ·omega
include hm in
theorem bitsLen (n : Nat) (h : n < 2 ^ 64) : Holds Tryz.prog 107 [.v (.int .u64 n)] [] (.v (.int .i64 (blen n))) [] := by
 refine holds_of (ann := []) tabOk hm Tryz.func107 (by kernel_rfl) rfl ?_
 simp +decide only [Tryz.f107, go_sem]
 refine Runs.call (len64 hm n h) ?_
 simp +decide only [go_sem]
 exact Runs.ret_v
theorem andI_one (n : Nat) (h : n < 2 ^ 63) : andI .i64 n 1 = ((n % 2 : Nat) : Int) := by
 unfold andI
 have e : (BitVec.ofInt IntKind.i64.bits (n : Int) &&& BitVec.ofInt IntKind.i64.bits 1).toNat = n % 2 := by
  rw [BitVec.toNat_and]
  simp only [IntKind.bits, BitVec.toNat_ofInt]
  have e1 : ((n : Int) % (2 ^ 64 : Nat)).toNat = n := by omega
  have e2 : ((1 : Int) % (2 ^ 64 : Nat)).toNat = 1 := by decide
  rw [e1, e2, Nat.and_one_is_mod]
 rw [e]
 exact wrap_i64 (by omega) (by omega)
def piAnn : Ann := [(0, [0, 1, 2, 7, 8])]
def piSt (m a e : Int) (p : Int × Int) : St := ⟨[.v (.int .i64 a), .v (.int .i64 e), .v (.int .i64 m), .any, .any, .any, .any, .v (.int .i64 p.2), .v (.int .i64 p.1), .any, .any, .any, .any, .any, .any, .any, .any, .any, .any, .any, .any, .any, .any, .any, .any, .any, .any, .any, .any, .any, .any, .any, .any, .any, .any, .any, .any, .any], [], []⟩
include hm in
theorem powInt (a m : Int) (e : Nat) (h0 : 0 ≤ a) (h1 : 0 < m) (h2 : m ≤ 2147483648) (h3 : e ≤ 9223372036854775807) : Holds Tryz.prog 184 [.v (.int .i64 a), .v (.int .i64 e), .v (.int .i64 m)] [] (.v (.int .i64 (powZ a e m))) [] := by
 refine holds_of (ann := piAnn) tabOk hm Tryz.func184 (by kernel_rfl) rfl ?_
 have e1 : (1 : Int).tmod m = 1 % m := Int.tmod_eq_emod_of_nonneg (by omega)
 have e2 : a.tmod m = a % m := Int.tmod_eq_emod_of_nonneg h0
 have hin : ∀ n : Int, 0 ≤ n % m ∧ n % m < m := fun n => ⟨Int.emod_nonneg _ (by omega), Int.emod_lt_of_pos _ h1⟩
 have hl : blen e ≤ 63 := blen_le (by omega)
 simp +decide (disch := first | omega | (simp only [ll]; omega)) only [Tryz.f184, e1, e2, if_pos, go_sem]
 refine Runs.call (bitsLen hm e (by omega)) ?_
 simp +decide (disch := first | omega | (simp only [ll]; omega)) only [if_pos, go_sem]
 have ha := hin a
 rw [← powZ_M h1 a e]
 generalize a % m = b at ha ⊢
 refine Runs.while (α := Int × Int) (piSt m b e) (fun p => (p.1 + 1).toNat) (fun p => -1 ≤ p.1 ∧ p.1 ≤ 62 ∧ (0 ≤ p.2 ∧ p.2 < m) ∧ (p.1 = -1 ∨ 2 ^ p.1.toNat ≤ e) ∧ p.2 = mulM (mulZ m) (1 % m) (e / 2 ^ (p.1 + 1).toNat) b) ((blen e : Int) - 1, 1 % m) ⟨by simp only; omega, by simp only; omega, hin _, ?_, ?_⟩ ?_ ?_
 ·simp only
  by_cases hz : e = 0
  ·left; subst hz; rw [blen_zero]; rfl
  ·right
   have := blen_ge hz
   have hp := blen_pos hz
   have e : ((blen e : Int) - 1).toNat = blen e - 1 := by omega
   rw [e]
   exact this
 ·simp only
  have e : ((blen e : Int) - 1 + 1).toNat = blen e := by omega
  rw [e, Nat.div_eq_of_lt blen_lt, mulM_zero]
 ·simp [go_sem, piAnn, piSt]
 ·rintro ⟨i, out⟩ ⟨hi1, hi2, ho, hi3, hg⟩ ih
  simp only at hi1 hi2 ho hi3 hg
  simp +decide only [piSt, go_sem]
  refine Runs.split (fun h => ?_) (fun h => ?_)
  ·have hs : 0 ≤ i := by simpa using h
   obtain ⟨k, rfl⟩ := nat_of hs
   have hk : 2 ^ k ≤ e := by
    rcases hi3 with h | h
    ·omega
    ·simpa using h
   have ek : ((k : Int) + 1).toNat = k + 1 := by omega
   rw [ek] at hg
   have hst := mulM_step (mulZ m) (1 % m) e k b hk
   rw [← hg] at hst
   have b1 := mul_bd ho ho h2
   have w1 : IntKind.i64.wrap (out * out) = out * out := wrap_i64 (by omega) (by omega)
   have t1 : (out * out).tmod m = mulZ m out out := Int.tmod_eq_emod_of_nonneg b1.1
   have ho' : 0 ≤ mulZ m out out ∧ mulZ m out out < m := hin _
   have b2 := mul_bd ho' ha h2
   have w2 : IntKind.i64.wrap (mulZ m out out * b) = mulZ m out out * b := wrap_i64 (by omega) (by omega)
   have t2 : (mulZ m out out * b).tmod m = mulZ m (mulZ m out out) b := Int.tmod_eq_emod_of_nonneg b2.1
   have hq := Nat.div_le_self e (2 ^ k)
   have ea := andI_one (e / 2 ^ k) (by omega)
   have em : min k 64 = k := by omega
   have es := shr_nat e k
   have hpow : k = 0 ∨ 2 ^ (k - 1) ≤ e := by
    rcases Nat.eq_zero_or_pos k with h | h
    ·exact .inl h
    ·right; exact Nat.le_trans (Nat.pow_le_pow_right (by omega) (by omega)) hk
   simp +decide (disch := first | omega | (simp only [ll]; omega)) only [w1, t1, em, es, ea, if_pos, go_sem]
   refine Runs.split (fun h => ?_) (fun h => ?_)
   ·have hbit : e / 2 ^ k % 2 = 1 := by simp only [decide_eq_true_eq] at h; omega
    rw [if_pos hbit] at hst
    simp +decide (disch := first | omega | (simp only [ll]; omega)) only [w2, t2, if_pos, go_sem]
    refine ih ((k : Int) - 1, mulZ m (mulZ m out out) b) _ (by simp only; omega) ⟨by simp only; omega, by simp only; omega, hin _, ?_, ?_⟩ ?_
    ·simp only
     rcases hpow with h | h
     ·left; omega
     ·right
      have e : ((k : Int) - 1).toNat = k - 1 := by omega
      rw [e]; exact h
    ·simp only
     have e : ((k : Int) - 1 + 1).toNat = k := by omega
     rw [e, hst]
    ·simp [go_sem, piAnn, piSt]
   ·have hbit : ¬ e / 2 ^ k % 2 = 1 := by simp only [decide_eq_false_iff_not] at h; omega
    rw [if_neg hbit] at hst
    simp +decide (disch := first | omega | (simp only [ll]; omega)) only [if_pos, go_sem]
    refine ih ((k : Int) - 1, mulZ m out out) _ (by simp only; omega) ⟨by simp only; omega, by simp only; omega, hin _, ?_, ?_⟩ ?_
    ·simp only
     rcases hpow with h | h
     ·left; omega
     ·right
      have e : ((k : Int) - 1).toNat = k - 1 := by omega
      rw [e]; exact h
    ·simp only
     have e : ((k : Int) - 1 + 1).toNat = k := by omega
     rw [e, hst]
    ·simp [go_sem, piAnn, piSt]
  ·have hs : i = -1 := by simp at h; omega
   subst hs
   simp at hg
   simp +decide only [hg, go_sem]
   exact Runs.ret_v
end Go.Proofs.W

namespace Go.Proofs.W
open Go Go.AM Go.Proofs.G
set_option maxRecDepth 10000
variable (hm : Tryz.prog.follows .mixedOrders = true)
structure GCv where
 p : Int
 a : Int
 b : Int
 n : Int
 gx : Int
 gy : Int
def cvA (k : GCv) : A := .agg [.v (.int .i64 k.p), .v (.int .i64 k.a), .v (.int .i64 k.b), .v (.int .i64 k.n), .v (.int .i64 k.gx), .v (.int .i64 k.gy)]
def ptA (P : GPt) : A := .agg [.v (.int .i64 P.x), .v (.int .i64 P.y), .v (.bool P.far)]
def CvIn (k : GCv) : Prop := 5 ≤ k.p ∧ k.p ≤ 1048576 ∧ (0 ≤ k.a ∧ k.a < k.p) ∧ (0 ≤ k.b ∧ k.b < k.p)
def PtIn (p : Int) (P : GPt) : Prop := (0 ≤ P.x ∧ P.x < p) ∧ (0 ≤ P.y ∧ P.y < p)
theorem mul_in {a b m : Int} (h1 : 0 ≤ a ∧ a < m) (h2 : 0 ≤ b ∧ b < m) (hm : m ≤ 2097152) : 0 ≤ a * b ∧ a * b ≤ 4398046511104 := by
 have : a * b ≤ 2097152 * 2097152 := Int.mul_le_mul (by omega) (by omega) h2.1 (by omega)
 exact ⟨Int.mul_nonneg h1.1 h2.1, by omega⟩
theorem mod_in' {m : Int} (h : 0 < m) (n : Int) : 0 ≤ n % m ∧ n % m < m := ⟨Int.emod_nonneg _ (by omega), Int.emod_lt_of_pos _ h⟩
attribute [local go_sem] cvA ptA
def soS : Sched := .take 0 (.take 2 (.take 5 (.take 8 (.take 10 (.take 13 (.take 16 (.take 19 (.take 22 (.take 25 (.ld 1 (.ld 3 (.take 4 (.ld 6 (.take 7 (.ld 9 (.ld 11 (.take 12 (.ld 14 (.take 15 (.ld 17 (.take 18 (.ld 20 (.take 21 (.ld 23 (.take 24 (.ld 26 (.take 27 (.take 28 (.take 29 .fin)))))))))))))))))))))))))))))
attribute [local go_sem] soS
include hm in
theorem l3On (k : GCv) (P : GPt) (hk : CvIn k) : Holds Tryz.prog 119 [cvA k, ptA P] [] (.v (.bool (onZ k.p k.a k.b P))) [] := by
 refine holds_ref (ann := []) tabOk hm (byL [] [1000002, 1000003]) Tryz.func119 (by kernel_rfl) rfl ?_
 obtain ⟨p, a, b, n, gx, gy⟩ := k
 obtain ⟨x, y, far⟩ := P
 obtain ⟨h1, h2, h3, h4⟩ := hk
 simp only at h1 h2 h3 h4
 simp +decide only [Tryz.f119, go_sem]
 refine Runs.split (fun h => ?_) (fun h => ?_)
 ·subst h
  simp +decide only [go_sem]
  refine Runs.split (fun h => ?_) (fun h => ?_)
  ·have hx : x = 0 := by simpa using h
   subst hx
   simp +decide only [go_sem]
   exact Runs.ret_eq (by simp [onZ])
  ·have hx : x ≠ 0 := by simpa using h
   simp +decide only [go_sem]
   exact Runs.ret_eq (by simp [onZ, hx])
 ·subst h
  simp +decide (disch := first | omega | (simp only [ll]; omega)) only [if_pos, go_sem]
  refine Runs.call (l1In hm x 0 (p - 1)) ?_
  simp +decide only [go_sem]
  refine Runs.split (fun h => ?_) (fun h => ?_)
  ·have e : onZ p a b ⟨x, y, false⟩ = false := by simp [inB] at h; simp [onZ]; omega
   simp +decide only [e, go_sem]
   exact Runs.ret_v
  ·have hx : 0 ≤ x ∧ x < p := by simp [inB] at h; omega
   simp +decide (disch := first | omega | (simp only [ll]; omega)) only [if_pos, go_sem]
   refine Runs.call (l1In hm y 0 (p - 1)) ?_
   simp +decide only [go_sem]
   refine Runs.split (fun h => ?_) (fun h => ?_)
   ·have e : onZ p a b ⟨x, y, false⟩ = false := by simp [inB] at h; simp [onZ]; omega
    simp +decide only [e, go_sem]
    exact Runs.ret_v
   ·have hy : 0 ≤ y ∧ y < p := by simp [inB] at h; omega
    have b1 := mul_in hy hy (by omega)
    have b2 := mul_in hx hx (by omega)
    have w1 : IntKind.i64.wrap (y * y) = y * y := wrap_i64 (by omega) (by omega)
    have w2 : IntKind.i64.wrap (x * x) = x * x := wrap_i64 (by omega) (by omega)
    have t1 : (y * y).tmod p = y * y % p := Int.tmod_eq_emod_of_nonneg b1.1
    have t2 : (x * x).tmod p = x * x % p := Int.tmod_eq_emod_of_nonneg b2.1
    have m1 := mod_in' (show 0 < p by omega) (x * x)
    have w3 : IntKind.i64.wrap (x * x % p + a) = x * x % p + a := wrap_i64 (by omega) (by omega)
    have b3 := mul_in (m := 2097152) (show 0 ≤ x * x % p + a ∧ x * x % p + a < 2097152 by omega) (show 0 ≤ x ∧ x < 2097152 by omega) (by omega)
    have w4 : IntKind.i64.wrap ((x * x % p + a) * x) = (x * x % p + a) * x := wrap_i64 (by omega) (by omega)
    have w5 : IntKind.i64.wrap ((x * x % p + a) * x + b) = (x * x % p + a) * x + b := wrap_i64 (by omega) (by omega)
    have t3 : ((x * x % p + a) * x + b).tmod p = ((x * x % p + a) * x + b) % p := Int.tmod_eq_emod_of_nonneg (by omega)
    simp +decide only [go_sem]
    refine Runs.draw (st1 := ?s1) (draws_ref (ann := []) tabOk (byL [] [1000002, 1000003]) soS (by kernel_rfl) ?p1) ?q1
    case p1 =>
     intro K r X hK
     simp +decide (maxSteps := 9^7) (disch := first | omega | (simp only [ll]; omega)) only [w1, w2, w3, w4, w5, t1, t2, t3, if_pos, go_sem]
     exact hK
    case q1 =>
     simp +decide only [go_sem]
     exact Runs.ret_eq (by simp [onZ, hx, hy]; omega)
def ipS : Sched := .take 0 (.take 2 (.ld 1 (.ld 3 (.take 4 (.alt 5 (.take 6 (.take 7 (.take 9 (.ld 8 (.ld 10 (.take 11 (.alt 12 (.take 13 (.take 14 (.take 15 (.take 17 (.take 20 (.take 23 (.take 25 (.take 28 (.take 31 (.take 34 (.take 37 (.take 40 (.ld 16 (.ld 18 (.take 19 (.ld 21 (.take 22 (.ld 24 (.ld 26 (.take 27 (.ld 29 (.take 30 (.ld 32 (.take 33 (.ld 35 (.take 36 (.ld 38 (.take 39 (.ld 41 (.take 42 (.take 43 (.take 44 (.take 45 .fin))))))))))))))))))))))))))))))))) .nil))))))) .nil)))))
attribute [local go_sem] ipS
include hm in
theorem isPoint (k : GCv) (P : GPt) (hk : CvIn k) : Holds Tryz.prog 137 [cvA k, ptA P] [] (.v (.bool (onZ k.p k.a k.b P))) [] := by
 refine holds_ref (ann := []) tabOk hm (byL [] [1000002, 1000003]) Tryz.func137 (by kernel_rfl) rfl ?_
 obtain ⟨p, a, b, n, gx, gy⟩ := k
 obtain ⟨x, y, far⟩ := P
 obtain ⟨h1, h2, h3, h4⟩ := hk
 simp only at h1 h2 h3 h4
 simp +decide only [Tryz.f137, go_sem]
 refine Runs.split (fun h => ?_) (fun h => ?_)
 ·subst h
  simp +decide only [go_sem]
  refine Runs.split (fun h => ?_) (fun h => ?_)
  ·have hx : x = 0 := by simpa using h
   subst hx
   simp +decide only [go_sem]
   exact Runs.ret_eq (by simp [onZ])
  ·have hx : x ≠ 0 := by simpa using h
   simp +decide only [go_sem]
   exact Runs.ret_eq (by simp [onZ, hx])
 ·subst h
  have c1 := within hm x 0 (p - 1)
  have c2 := within hm y 0 (p - 1)
  simp +decide only [go_sem]
  cases e1 : inB x 0 (p - 1) with
  | false =>
   rw [e1] at c1
   have e : onZ p a b ⟨x, y, false⟩ = false := by simp [inB] at e1; simp [onZ]; omega
   refine Runs.draw (st1 := ?s1) (draws_ref (ann := []) tabOk (byL [] [1000002, 1000003]) ipS (by kernel_rfl) ?p1) ?q1
   case p1 =>
    intro K r X hK
    simp +decide (maxSteps := 9^7) (disch := first | omega | (simp only [ll]; omega)) only [if_pos, go_sem]
    refine Runs.call c1 ?_
    simp +decide (maxSteps := 9^7) (disch := first | omega | (simp only [ll]; omega)) only [if_pos, go_sem]
    exact hK
   case q1 =>
    simp +decide only [go_sem]
    exact Runs.ret_eq (by rw [e])
  | true =>
   have hx : 0 ≤ x ∧ x < p := by simp [inB] at e1; omega
   rw [e1] at c1
   cases e2 : inB y 0 (p - 1) with
   | false =>
    rw [e2] at c2
    have e : onZ p a b ⟨x, y, false⟩ = false := by simp [inB] at e2; simp [onZ]; omega
    refine Runs.draw (st1 := ?s2) (draws_ref (ann := []) tabOk (byL [] [1000002, 1000003]) ipS (by kernel_rfl) ?p2) ?q2
    case p2 =>
     intro K r X hK
     simp +decide (maxSteps := 9^7) (disch := first | omega | (simp only [ll]; omega)) only [if_pos, go_sem]
     refine Runs.call c1 ?_
     simp +decide (maxSteps := 9^7) (disch := first | omega | (simp only [ll]; omega)) only [if_pos, go_sem]
     refine Runs.call c2 ?_
     simp +decide (maxSteps := 9^7) (disch := first | omega | (simp only [ll]; omega)) only [if_pos, go_sem]
     exact hK
    case q2 =>
     simp +decide only [go_sem]
     exact Runs.ret_eq (by rw [e])
   | true =>
    rw [e2] at c2
    have hy : 0 ≤ y ∧ y < p := by simp [inB] at e2; omega
    have b1 := mul_in hy hy (by omega)
    have b2 := mul_in hx hx (by omega)
    have w1 : IntKind.i64.wrap (y * y) = y * y := wrap_i64 (by omega) (by omega)
    have w2 : IntKind.i64.wrap (x * x) = x * x := wrap_i64 (by omega) (by omega)
    have t1 : (y * y).tmod p = y * y % p := Int.tmod_eq_emod_of_nonneg b1.1
    have w3 : IntKind.i64.wrap (x * x + a) = x * x + a := wrap_i64 (by omega) (by omega)
    have t2 : (x * x + a).tmod p = (x * x + a) % p := Int.tmod_eq_emod_of_nonneg (by omega)
    have m1 := mod_in' (show 0 < p by omega) (x * x + a)
    have b3 := mul_in (m := 2097152) (show 0 ≤ (x * x + a) % p ∧ (x * x + a) % p < 2097152 by omega) (show 0 ≤ x ∧ x < 2097152 by omega) (by omega)
    have w4 : IntKind.i64.wrap ((x * x + a) % p * x) = (x * x + a) % p * x := wrap_i64 (by omega) (by omega)
    have w5 : IntKind.i64.wrap ((x * x + a) % p * x + b) = (x * x + a) % p * x + b := wrap_i64 (by omega) (by omega)
    have t3 : ((x * x + a) % p * x + b).tmod p = ((x * x + a) % p * x + b) % p := Int.tmod_eq_emod_of_nonneg (by omega)
    refine Runs.draw (st1 := ?s3) (draws_ref (ann := []) tabOk (byL [] [1000002, 1000003]) ipS (by kernel_rfl) ?p3) ?q3
    case p3 =>
     intro K r X hK
     simp +decide (maxSteps := 9^7) (disch := first | omega | (simp only [ll]; omega)) only [if_pos, go_sem]
     refine Runs.call c1 ?_
     simp +decide (maxSteps := 9^7) (disch := first | omega | (simp only [ll]; omega)) only [if_pos, go_sem]
     refine Runs.call c2 ?_
     simp +decide (maxSteps := 9^7) (disch := first | omega | (simp only [ll]; omega)) only [w1, w2, w3, w4, w5, t1, t2, t3, if_pos, go_sem]
     exact hK
    case q3 =>
     simp +decide only [go_sem]
     have e3 := mod_on x a b p
     exact Runs.ret_eq (by rw [e3]; simp [onZ, hx, hy]; omega)
include hm in
theorem baseP (k : GCv) : Holds Tryz.prog 181 [cvA k] [] (ptA ⟨k.gx, k.gy, false⟩) [] := by
 refine holds_ref (ann := []) tabOk hm (byL [] [1000001]) Tryz.func181 (by kernel_rfl) rfl ?_
 simp +decide only [Tryz.f181, go_sem]
 exact Runs.ret_refl
end Go.Proofs.W

namespace Go.Proofs.W
open Go Go.AM Go.Proofs.G
variable (hm : Tryz.prog.follows .mixedOrders = true)
attribute [local go_sem] cvA ptA
def sumEnd (p : Int) (a b : GPt) (s : Int) : GPt := ⟨(s * s - a.x - b.x) % p, (s * (a.x - (s * s - a.x - b.x) % p) - a.y) % p, false⟩
theorem sumEnd_in {p : Int} (h : 0 < p) (a b : GPt) (s : Int) : PtIn p (sumEnd p a b s) := ⟨mod_in' h _, mod_in' h _⟩
theorem addZ_in {p A : Int} (h : 0 < p) {a b : GPt} (ha : PtIn p a) (hb : PtIn p b) : PtIn p (addZ p A a b) := by
 unfold addZ
 split
 ·exact hb
 ·split
  ·exact ha
  ·split
   ·exact ⟨⟨by show (0 : Int) ≤ 0; omega, by show (0 : Int) < p; omega⟩, ⟨by show (0 : Int) ≤ 0; omega, by show (0 : Int) < p; omega⟩⟩
   ·exact sumEnd_in h a b _
theorem sumZ_in {p A : Int} (h : 0 < p) {a b : GPt} (ha : PtIn p a) (hb : PtIn p b) : PtIn p (sumZ p A a b) := by
 unfold sumZ
 split
 ·exact hb
 ·split
  ·exact ha
  ·split
   ·exact ⟨⟨by show (0 : Int) ≤ 0; omega, by show (0 : Int) < p; omega⟩, ⟨by show (0 : Int) ≤ 0; omega, by show (0 : Int) < p; omega⟩⟩
   ·exact sumEnd_in h a b _
theorem mul_sg {a b m : Int} (h1 : 0 ≤ a ∧ a < m) (h2 : -m < b ∧ b < m) (hm : m ≤ 2097152) : -4398046511104 ≤ a * b ∧ a * b ≤ 4398046511104 := by
 rcases Int.le_total 0 b with h | h
 ·have := mul_in h1 (show 0 ≤ b ∧ b < m by omega) hm
  omega
 ·have := mul_in h1 (show 0 ≤ -b ∧ -b < m by omega) hm
  have e : a * -b = -(a * b) := by grind
  omega
theorem farPt : ptA farP = .agg [.v (.int .i64 0), .v (.int .i64 0), .v (.bool true)] := rfl
def laA : Sched := .take 0 (.take 3 (.take 6 (.take 9 (.take 12 (.take 15 (.take 18 (.take 22 (.ld 1 (.take 2 (.ld 4 (.take 5 (.ld 7 (.take 8 (.ld 10 (.take 11 (.ld 13 (.take 14 (.ld 16 (.take 17 (.ld 19 (.ld 23 (.alt 20 (.take 21 (.take 24 (.take 25 .fin))) .nil))))))))))))))))))))))
def laB : Sched := .take 0 (.take 2 (.take 5 (.take 8 (.take 10 (.take 13 (.take 17 (.ld 1 (.ld 3 (.take 4 (.ld 6 (.ld 9 (.ld 11 (.take 12 (.ld 14 (.ld 18 (.alt 7 (.alt 15 (.take 16 (.take 19 (.take 20 .fin))) .nil) .nil))))))))))))))))
attribute [local go_sem] laA laB
set_option maxRecDepth 10000 in
set_option maxHeartbeats 4000000 in
include hm in
theorem l3Add (k : GCv) (P Q : GPt) (hk : CvIn k) (hP : PtIn k.p P) (hQ : PtIn k.p Q) : Holds Tryz.prog 120 [cvA k, ptA P, ptA Q] [] (ptA (addZ k.p k.a P Q)) [] := by
 refine holds_ref (ann := []) tabOk hm (byL [] [1000003, 1000004, 1000005]) Tryz.func120 (by kernel_rfl) rfl ?_
 obtain ⟨p, a, b, n, gx, gy⟩ := k
 obtain ⟨x, y, far⟩ := P
 obtain ⟨u, v, far'⟩ := Q
 obtain ⟨h1, h2, h3, h4⟩ := hk
 obtain ⟨hx, hy⟩ := hP
 obtain ⟨hu, hv⟩ := hQ
 simp only at h1 h2 h3 h4 hx hy hu hv
 simp +decide only [Tryz.f120, go_sem]
 refine Runs.split (fun h => ?_) (fun h => ?_)
 ·subst h
  simp +decide only [go_sem]
  exact Runs.ret_eq (by simp [addZ, ptA])
 ·subst h
  simp +decide only [go_sem]
  refine Runs.split (fun h => ?_) (fun h => ?_)
  ·subst h
   simp +decide only [go_sem]
   exact Runs.ret_eq (by simp [addZ, ptA])
  ·subst h
   by_cases e : x = u
   ·subst e
    simp +decide (disch := first | omega | (simp only [ll]; omega)) only [Int.tmod_eq_emod_of_nonneg, if_pos, go_sem]
    refine Runs.split (fun h => ?_) (fun h => ?_)
    ·have h' : (y + v) % p = 0 := by simpa using h
     simp +decide only [go_sem]
     exact Runs.ret_eq (by simp [addZ, ptA, farP, h'])
    ·have h' : (y + v) % p ≠ 0 := by simpa using h
     have m1 := mod_in' (show 0 < p by omega) (3 * x)
     have b1 := mul_in m1 hx (by omega)
     have m2 := mod_in' (show 0 < p by omega) (3 * x % p * x + a)
     have m3 := invI_range (a := 2 * y) (m := p) (by omega)
     have b2 := mul_in m2 m3 (by omega)
     simp +decide only [go_sem]
     refine Runs.draw (st1 := ?s1) (draws_ref (ann := []) tabOk (byL [] [1000003, 1000004, 1000005]) laA (by kernel_rfl) ?p1) ?q1
     case p1 =>
      intro K r X hK
      simp +decide (maxSteps := 9^7) (disch := first | omega | (simp only [ll]; omega)) only [Int.tmod_eq_emod_of_nonneg, if_pos, go_sem]
      refine Runs.call (l2Inv hm (2 * y) p (by omega) (by omega)) ?_
      simp +decide (maxSteps := 9^7) (disch := first | omega | (simp only [ll]; omega)) only [Int.tmod_eq_emod_of_nonneg, if_pos, go_sem]
      exact hK
     case q1 =>
      have ev : addZ p a ⟨x, y, false⟩ ⟨x, v, false⟩ = sumEnd p ⟨x, y, false⟩ ⟨x, v, false⟩ ((3 * x % p * x + a) % p * invI (2 * y) p % p) := by simp [addZ, h', sumEnd]
      rw [ev]
      simp only [sumEnd]
      have m0 := mod_in' (show 0 < p by omega) ((3 * x % p * x + a) % p * invI (2 * y) p)
      generalize ((3 * x % p * x + a) % p * invI (2 * y) p) % p = s at *
      have q1 := mul_in m0 m0 (by omega)
      have m2 := mod_in' (show 0 < p by omega) (s * s - x - x)
      have q2 := mul_sg (b := x - (s * s - x - x) % p) m0 (by omega) (by omega)
      simp +decide (maxSteps := 9^7) (disch := first | omega | (simp only [ll]; omega)) only [if_pos, go_sem]
      refine Runs.call (l2Left hm (s * s - x - x) p (by omega) (by omega)) ?_
      generalize hX : (s * s - x - x) % p = X at *
      simp +decide (maxSteps := 9^7) (disch := first | omega | (simp only [ll]; omega)) only [if_pos, go_sem]
      refine Runs.call (l2Left hm (s * (x - X) - y) p (by omega) (by omega)) ?_
      simp +decide (maxSteps := 9^7) (disch := first | omega | (simp only [ll]; omega)) only [if_pos, go_sem]
      exact Runs.ret_eq (by simp [ptA, hX])
   ·simp +decide (disch := first | omega | (simp only [ll]; omega)) only [e, if_pos, go_sem]
    have m1 := mod_in' (show 0 < p by omega) (v - y)
    have m3 := invI_range (a := u - x) (m := p) (by omega)
    have b2 := mul_in m1 m3 (by omega)
    refine Runs.draw (st1 := ?s2) (draws_ref (ann := []) tabOk (byL [] [1000003, 1000004, 1000005]) laB (by kernel_rfl) ?p2) ?q2
    case p2 =>
     intro K r X hK
     simp +decide (maxSteps := 9^7) (disch := first | omega | (simp only [ll]; omega)) only [Int.tmod_eq_emod_of_nonneg, if_pos, go_sem]
     refine Runs.call (l2Left hm (v - y) p (by omega) (by omega)) ?_
     simp +decide (maxSteps := 9^7) (disch := first | omega | (simp only [ll]; omega)) only [Int.tmod_eq_emod_of_nonneg, if_pos, go_sem]
     refine Runs.call (l2Inv hm (u - x) p (by omega) (by omega)) ?_
     simp +decide (maxSteps := 9^7) (disch := first | omega | (simp only [ll]; omega)) only [Int.tmod_eq_emod_of_nonneg, if_pos, go_sem]
     exact hK
    case q2 =>
     have ev : addZ p a ⟨x, y, false⟩ ⟨u, v, false⟩ = sumEnd p ⟨x, y, false⟩ ⟨u, v, false⟩ ((v - y) % p * invI (u - x) p % p) := by simp [addZ, e, sumEnd]
     rw [ev]
     simp only [sumEnd]
     have m0 := mod_in' (show 0 < p by omega) ((v - y) % p * invI (u - x) p)
     generalize ((v - y) % p * invI (u - x) p) % p = s at *
     have q1 := mul_in m0 m0 (by omega)
     have m2 := mod_in' (show 0 < p by omega) (s * s - x - u)
     have q2 := mul_sg (b := x - (s * s - x - u) % p) m0 (by omega) (by omega)
     simp +decide (maxSteps := 9^7) (disch := first | omega | (simp only [ll]; omega)) only [if_pos, go_sem]
     refine Runs.call (l2Left hm (s * s - x - u) p (by omega) (by omega)) ?_
     generalize hX : (s * s - x - u) % p = X at *
     simp +decide (maxSteps := 9^7) (disch := first | omega | (simp only [ll]; omega)) only [if_pos, go_sem]
     refine Runs.call (l2Left hm (s * (x - X) - y) p (by omega) (by omega)) ?_
     simp +decide (maxSteps := 9^7) (disch := first | omega | (simp only [ll]; omega)) only [if_pos, go_sem]
     exact Runs.ret_eq (by simp [ptA, hX])
def suA : Sched := .take 0 (.take 2 (.take 5 (.take 7 (.ld 1 (.ld 3 (.take 4 (.take 10 (.ld 6 (.ld 8 (.take 9 (.take 11 .fin)))))))))))
def suB : Sched := .take 0 (.take 3 (.take 6 (.take 9 (.ld 1 (.take 2 (.ld 4 (.take 5 (.ld 7 (.take 8 (.take 12 (.ld 10 (.take 11 (.take 13 .fin)))))))))))))
def suC : Sched := .take 0 (.take 1 (.take 4 (.take 6 (.ld 2 (.ld 7 (.alt 3 (.take 5 (.take 8 (.take 9 .fin))) .nil))))))
attribute [local go_sem] suA suB suC
set_option maxRecDepth 10000 in
set_option maxHeartbeats 4000000 in
include hm in
theorem sumC (k : GCv) (P Q : GPt) (hk : CvIn k) (hP : PtIn k.p P) (hQ : PtIn k.p Q) : Holds Tryz.prog 138 [cvA k, ptA P, ptA Q] [] (ptA (sumZ k.p k.a P Q)) [] := by
 refine holds_ref (ann := []) tabOk hm (byL [] [1000003, 1000004, 1000005]) Tryz.func138 (by kernel_rfl) rfl ?_
 obtain ⟨p, a, b, n, gx, gy⟩ := k
 obtain ⟨x, y, far⟩ := P
 obtain ⟨u, v, far'⟩ := Q
 obtain ⟨h1, h2, h3, h4⟩ := hk
 obtain ⟨hx, hy⟩ := hP
 obtain ⟨hu, hv⟩ := hQ
 simp only at h1 h2 h3 h4 hx hy hu hv
 simp +decide only [Tryz.f138, go_sem]
 refine Runs.split (fun h => ?_) (fun h => ?_)
 ·subst h
  simp +decide only [go_sem]
  exact Runs.ret_eq (by simp [sumZ, ptA])
 ·subst h
  simp +decide only [go_sem]
  refine Runs.split (fun h => ?_) (fun h => ?_)
  ·subst h
   simp +decide only [go_sem]
   exact Runs.ret_eq (by simp [sumZ, ptA])
  ·subst h
   by_cases e : x = u
   ·subst e
    simp +decide (disch := first | omega | (simp only [ll]; omega)) only [Int.tmod_eq_emod_of_nonneg, if_pos, go_sem]
    refine Runs.split (fun h => ?_) (fun h => ?_)
    ·have h' : (y + v) % p = 0 := by simpa using h
     simp +decide only [go_sem]
     exact Runs.ret_eq (by simp [sumZ, ptA, farP, h'])
    ·have h' : (y + v) % p ≠ 0 := by simpa using h
     simp +decide only [go_sem]
     refine Runs.draw (st1 := ?s1) (draws_ref (ann := []) tabOk (byL [] [1000003, 1000004, 1000005]) suA (by kernel_rfl) ?p1) ?q1
     case p1 =>
      intro K r X hK
      simp +decide (maxSteps := 9^7) (disch := first | omega | (simp only [ll]; omega)) only [if_pos, go_sem]
      exact hK
     case q1 =>
      by_cases e2 : y = v
      ·subst e2
       have b0 := mul_in hx hx (by omega)
       have b1 : 3 * x * x = 3 * (x * x) := Int.mul_assoc 3 x x
       simp +decide (maxSteps := 9^7) (disch := first | omega | (simp only [ll]; omega)) only [if_pos, go_sem]
       refine Runs.draw (st1 := ?s2) (draws_ref (ann := []) tabOk (byL [] [1000003, 1000004, 1000005]) suB (by kernel_rfl) ?p2) ?q2
       case p2 =>
        intro K r X hK
        simp +decide (maxSteps := 9^7) (disch := first | omega | (simp only [ll]; omega)) only [if_pos, go_sem]
        exact hK
       case q2 =>
        simp +decide (maxSteps := 9^7) (disch := first | omega | (simp only [ll]; omega)) only [Int.tmod_eq_emod_of_nonneg, if_pos, go_sem]
        have m1 := mod_in' (show 0 < p by omega) (3 * x * x + a)
        have m3 := invI_range (a := 2 * y) (m := p) (by omega)
        have b2 := mul_in m1 m3 (by omega)
        refine Runs.call (invInt hm (2 * y) p (by omega) (by omega)) ?_
        simp +decide (maxSteps := 9^7) (disch := first | omega | (simp only [ll]; omega)) only [if_pos, go_sem]
        refine Runs.draw (st1 := ?t1s) (draws_ref (ann := []) tabOk (byL [] [1000003, 1000004, 1000005]) suC (by kernel_rfl) ?t1p) ?t1q
        case t1p =>
         intro K r X hK
         simp +decide (maxSteps := 9^7) (disch := first | omega | (simp only [ll]; omega)) only [Int.tmod_eq_emod_of_nonneg, if_pos, go_sem]
         refine Runs.call (rest hm (3 * x * x + a) p (by omega) (by omega)) ?_
         simp +decide (maxSteps := 9^7) (disch := first | omega | (simp only [ll]; omega)) only [Int.tmod_eq_emod_of_nonneg, if_pos, go_sem]
         exact hK
        case t1q =>
         have ev : sumZ p a ⟨x, y, false⟩ ⟨x, y, false⟩ = sumEnd p ⟨x, y, false⟩ ⟨x, y, false⟩ ((3 * x * x + a) % p * invI (2 * y) p % p) := by simp [sumZ, h', sumEnd]
         rw [ev]
         simp only [sumEnd]
         have m0 := mod_in' (show 0 < p by omega) ((3 * x * x + a) % p * invI (2 * y) p)
         generalize (3 * x * x + a) % p * invI (2 * y) p % p = s at *
         have q1 := mul_in m0 m0 (by omega)
         have m2 := mod_in' (show 0 < p by omega) (s * s - x - x)
         have q2 := mul_sg (b := x - (s * s - x - x) % p) m0 (by omega) (by omega)
         simp +decide (maxSteps := 9^7) (disch := first | omega | (simp only [ll]; omega)) only [if_pos, go_sem]
         refine Runs.call (rest hm (s * s - x - x) p (by omega) (by omega)) ?_
         generalize hX : (s * s - x - x) % p = X at *
         simp +decide (maxSteps := 9^7) (disch := first | omega | (simp only [ll]; omega)) only [if_pos, go_sem]
         refine Runs.call (rest hm (s * (x - X) - y) p (by omega) (by omega)) ?_
         simp +decide (maxSteps := 9^7) (disch := first | omega | (simp only [ll]; omega)) only [if_pos, go_sem]
         exact Runs.ret_eq (by simp [ptA, hX])
      ·simp +decide (maxSteps := 9^7) (disch := first | omega | (simp only [ll]; omega)) only [e2, Int.tmod_eq_emod_of_nonneg, if_pos, go_sem]
       have m1 := mod_in' (show 0 < p by omega) (v - y)
       have m3 := invI_range (a := x - x) (m := p) (by omega)
       have b2 := mul_in m1 m3 (by omega)
       refine Runs.call (invInt hm (x - x) p (by omega) (by omega)) ?_
       simp +decide (maxSteps := 9^7) (disch := first | omega | (simp only [ll]; omega)) only [if_pos, go_sem]
       refine Runs.draw (st1 := ?t2s) (draws_ref (ann := []) tabOk (byL [] [1000003, 1000004, 1000005]) suC (by kernel_rfl) ?t2p) ?t2q
       case t2p =>
        intro K r X hK
        simp +decide (maxSteps := 9^7) (disch := first | omega | (simp only [ll]; omega)) only [Int.tmod_eq_emod_of_nonneg, if_pos, go_sem]
        refine Runs.call (rest hm (v - y) p (by omega) (by omega)) ?_
        simp +decide (maxSteps := 9^7) (disch := first | omega | (simp only [ll]; omega)) only [Int.tmod_eq_emod_of_nonneg, if_pos, go_sem]
        exact hK
       case t2q =>
        have ev : sumZ p a ⟨x, y, false⟩ ⟨x, v, false⟩ = sumEnd p ⟨x, y, false⟩ ⟨x, v, false⟩ ((v - y) % p * invI (x - x) p % p) := by simp [sumZ, h', sumEnd, e2]
        rw [ev]
        simp only [sumEnd]
        have m0 := mod_in' (show 0 < p by omega) ((v - y) % p * invI (x - x) p)
        generalize (v - y) % p * invI (x - x) p % p = s at *
        have q1 := mul_in m0 m0 (by omega)
        have m2 := mod_in' (show 0 < p by omega) (s * s - x - x)
        have q2 := mul_sg (b := x - (s * s - x - x) % p) m0 (by omega) (by omega)
        simp +decide (maxSteps := 9^7) (disch := first | omega | (simp only [ll]; omega)) only [if_pos, go_sem]
        refine Runs.call (rest hm (s * s - x - x) p (by omega) (by omega)) ?_
        generalize hX : (s * s - x - x) % p = X at *
        simp +decide (maxSteps := 9^7) (disch := first | omega | (simp only [ll]; omega)) only [if_pos, go_sem]
        refine Runs.call (rest hm (s * (x - X) - y) p (by omega) (by omega)) ?_
        simp +decide (maxSteps := 9^7) (disch := first | omega | (simp only [ll]; omega)) only [if_pos, go_sem]
        exact Runs.ret_eq (by simp [ptA, hX])
   ·simp +decide (disch := first | omega | (simp only [ll]; omega)) only [e, if_pos, go_sem]
    refine Runs.draw (st1 := ?s3) (draws_ref (ann := []) tabOk (byL [] [1000003, 1000004, 1000005]) suA (by kernel_rfl) ?p3) ?q3
    case p3 =>
     intro K r X hK
     simp +decide (maxSteps := 9^7) (disch := first | omega | (simp only [ll]; omega)) only [if_pos, go_sem]
     exact hK
    case q3 =>
     simp +decide (maxSteps := 9^7) (disch := first | omega | (simp only [ll]; omega)) only [e, Int.tmod_eq_emod_of_nonneg, if_pos, go_sem]
     have m1 := mod_in' (show 0 < p by omega) (v - y)
     have m3 := invI_range (a := u - x) (m := p) (by omega)
     have b2 := mul_in m1 m3 (by omega)
     refine Runs.call (invInt hm (u - x) p (by omega) (by omega)) ?_
     simp +decide (maxSteps := 9^7) (disch := first | omega | (simp only [ll]; omega)) only [if_pos, go_sem]
     refine Runs.draw (st1 := ?t3s) (draws_ref (ann := []) tabOk (byL [] [1000003, 1000004, 1000005]) suC (by kernel_rfl) ?t3p) ?t3q
     case t3p =>
      intro K r X hK
      simp +decide (maxSteps := 9^7) (disch := first | omega | (simp only [ll]; omega)) only [Int.tmod_eq_emod_of_nonneg, if_pos, go_sem]
      refine Runs.call (rest hm (v - y) p (by omega) (by omega)) ?_
      simp +decide (maxSteps := 9^7) (disch := first | omega | (simp only [ll]; omega)) only [Int.tmod_eq_emod_of_nonneg, if_pos, go_sem]
      exact hK
     case t3q =>
      have ev : sumZ p a ⟨x, y, false⟩ ⟨u, v, false⟩ = sumEnd p ⟨x, y, false⟩ ⟨u, v, false⟩ ((v - y) % p * invI (u - x) p % p) := by simp [sumZ, e, sumEnd]
      rw [ev]
      simp only [sumEnd]
      have m0 := mod_in' (show 0 < p by omega) ((v - y) % p * invI (u - x) p)
      generalize (v - y) % p * invI (u - x) p % p = s at *
      have q1 := mul_in m0 m0 (by omega)
      have m2 := mod_in' (show 0 < p by omega) (s * s - x - u)
      have q2 := mul_sg (b := x - (s * s - x - u) % p) m0 (by omega) (by omega)
      simp +decide (maxSteps := 9^7) (disch := first | omega | (simp only [ll]; omega)) only [if_pos, go_sem]
      refine Runs.call (rest hm (s * s - x - u) p (by omega) (by omega)) ?_
      generalize hX : (s * s - x - u) % p = X at *
      simp +decide (maxSteps := 9^7) (disch := first | omega | (simp only [ll]; omega)) only [if_pos, go_sem]
      refine Runs.call (rest hm (s * (x - X) - y) p (by omega) (by omega)) ?_
      simp +decide (maxSteps := 9^7) (disch := first | omega | (simp only [ll]; omega)) only [if_pos, go_sem]
      exact Runs.ret_eq (by simp [ptA, hX])
end Go.Proofs.W

namespace Go.Proofs.W
open Go Go.AM Go.Proofs.G
variable (hm : Tryz.prog.follows .mixedOrders = true)
attribute [local go_sem] cvA ptA
def zPt : A := .agg [.v (.int .i64 0), .v (.int .i64 0), .v (.bool false)]
theorem far_in {p : Int} (h : 0 < p) : PtIn p farP := ⟨⟨by show (0 : Int) ≤ 0; omega, by show (0 : Int) < p; omega⟩, ⟨by show (0 : Int) ≤ 0; omega, by show (0 : Int) < p; omega⟩⟩
def lmAnn : Ann := [(0, [1, 3, 5, 6, 7])]
def lmSt (k : GCv) (p : Nat × GPt × GPt) : St := ⟨[.any, .v (.int .i64 p.1), .any, .ptr [cvA k] 0 0, .any, .ref (.l 0) 0 0 1, .ref (.l 1) 0 0 1, .ref (.l 2) 0 0 1, .any, .any, .any, .any, .any, .any, .any, .any, .any, .any, .any, .any, .any, .any, .any, .any, .any], [(0, ⟨true, 3, true, [ptA p.2.2]⟩), (1, ⟨true, 3, true, [zPt]⟩), (2, ⟨true, 3, true, [ptA p.2.1]⟩)], []⟩
set_option maxRecDepth 10000 in
set_option maxHeartbeats 4000000 in
include hm in
theorem l3Mul (k : GCv) (n : Nat) (P : GPt) (hk : CvIn k) (hP : PtIn k.p P) (hn : n ≤ 9223372036854775807) : Holds Tryz.prog 89 [cvA k, .v (.int .i64 n), ptA P] [] (ptA (mulL (addZ k.p k.a) n farP P)) [] := by
 refine holds_ref (ann := lmAnn) tabOk hm (byL [] [1000003]) Tryz.func89 (by kernel_rfl) rfl ?_
 have hp : 0 < k.p := by have := hk.1; omega
 simp +decide only [Tryz.f89, go_sem]
 refine Runs.while (α := Nat × GPt × GPt) (lmSt k) (fun p => p.1) (fun p => p.1 ≤ n ∧ PtIn k.p p.2.1 ∧ PtIn k.p p.2.2 ∧ mulL (addZ k.p k.a) p.1 p.2.1 p.2.2 = mulL (addZ k.p k.a) n farP P) (n, farP, P) ⟨Nat.le_refl _, far_in hp, hP, rfl⟩ ?_ ?_
 ·simp [go_sem, lmAnn, lmSt, farP, zPt]
 ·rintro ⟨i, out, a⟩ ⟨hi, ho, ha, hg⟩ ih
  simp only at hi ho ha hg
  have e3 := tmod_nat i 2
  have e4 := tdiv_nat i 2
  have w3 : IntKind.i64.wrap ((i / 2 : Nat) : Int) = ((i / 2 : Nat) : Int) := wrap_i64 (by omega) (by omega)
  have c1 := l3Add hm k out a hk ho ha
  have c2 := l3Add hm k a a hk ha ha
  have o1 := addZ_in (A := k.a) hp ho ha
  have o2 := addZ_in (A := k.a) hp ha ha
  simp +decide only [lmSt, zPt, go_sem]
  refine Runs.split (fun h => ?_) (fun h => ?_)
  ·have hs : i ≠ 0 := by simp at h; omega
   rw [mulL_step _ _ _ _ hs] at hg
   simp +decide (disch := first | omega | (simp only [ll]; omega)) only [if_pos, go_sem]
   rw [show (2 : Int) = ((2 : Nat) : Int) from rfl, e3]
   refine Runs.split (fun h => ?_) (fun h => ?_)
   ·have hbit : i % 2 = 1 := by simp at h; omega
    rw [if_pos hbit] at hg
    simp +decide (disch := first | omega | (simp only [ll]; omega)) only [if_pos, go_sem]
    refine Runs.call c1 ?_
    simp +decide (disch := first | omega | (simp only [ll]; omega)) only [if_pos, go_sem]
    refine Runs.call c2 ?_
    simp +decide (disch := first | omega | (simp only [ll]; omega)) only [e4, w3, if_pos, go_sem]
    refine ih (i / 2, addZ k.p k.a out a, addZ k.p k.a a a) _ (by simp only; omega) ⟨by simp only; omega, o1, o2, hg⟩ ?_
    simp [go_sem, lmAnn, lmSt, zPt]
   ·have hbit : ¬ i % 2 = 1 := by simp at h; omega
    rw [if_neg hbit] at hg
    simp +decide (disch := first | omega | (simp only [ll]; omega)) only [if_pos, go_sem]
    refine Runs.call c2 ?_
    simp +decide (disch := first | omega | (simp only [ll]; omega)) only [e4, w3, if_pos, go_sem]
    refine ih (i / 2, out, addZ k.p k.a a a) _ (by simp only; omega) ⟨by simp only; omega, ho, o2, hg⟩ ?_
    simp [go_sem, lmAnn, lmSt, zPt]
  ·have hs : i = 0 := by simp at h; omega
   subst hs
   rw [mulL_zero] at hg
   simp +decide only [go_sem]
   exact Runs.ret_eq (by rw [← hg])
def tiAnn : Ann := [(0, [1, 3, 5, 6, 7, 8])]
def tiSt (k : GCv) (n : Nat) (P : GPt) (p : Int × GPt) : St := ⟨[.any, .v (.int .i64 n), .any, .ptr [cvA k] 0 0, .any, .ptr [ptA P] 0 0, .ref (.l 0) 0 0 1, .ref (.l 1) 0 0 1, .v (.int .i64 p.1), .any, .any, .any, .any, .any, .any, .any, .any, .any, .any, .any, .any, .any, .any, .any, .any, .any, .any, .any, .any, .any, .any, .any], [(0, ⟨true, 3, true, [zPt]⟩), (1, ⟨true, 3, true, [ptA p.2]⟩)], []⟩
set_option maxRecDepth 10000 in
set_option maxHeartbeats 4000000 in
include hm in
theorem timesC (k : GCv) (n : Nat) (P : GPt) (hk : CvIn k) (hP : PtIn k.p P) (hn : n ≤ 9223372036854775807) : Holds Tryz.prog 105 [cvA k, .v (.int .i64 n), ptA P] [] (ptA (mulM (sumZ k.p k.a) farP n P)) [] := by
 refine holds_ref (ann := tiAnn) tabOk hm (byL [] [1000003, 1000005]) Tryz.func105 (by kernel_rfl) rfl ?_
 have hp : 0 < k.p := by have := hk.1; omega
 have hl : blen n ≤ 63 := blen_le (by omega)
 simp +decide (disch := first | omega | (simp only [ll]; omega)) only [Tryz.f105, if_pos, go_sem]
 refine Runs.call (bitsLen hm n (by omega)) ?_
 simp +decide (disch := first | omega | (simp only [ll]; omega)) only [if_pos, go_sem]
 refine Runs.while (α := Int × GPt) (tiSt k n P) (fun p => (p.1 + 1).toNat) (fun p => -1 ≤ p.1 ∧ p.1 ≤ 62 ∧ PtIn k.p p.2 ∧ (p.1 = -1 ∨ 2 ^ p.1.toNat ≤ n) ∧ p.2 = mulM (sumZ k.p k.a) farP (n / 2 ^ (p.1 + 1).toNat) P) ((blen n : Int) - 1, farP) ⟨by simp only; omega, by simp only; omega, far_in hp, ?_, ?_⟩ ?_ ?_
 ·simp only
  by_cases hz : n = 0
  ·left; subst hz; rw [blen_zero]; rfl
  ·right
   have := blen_ge hz
   have hp := blen_pos hz
   have e : ((blen n : Int) - 1).toNat = blen n - 1 := by omega
   rw [e]
   exact this
 ·simp only
  have e : ((blen n : Int) - 1 + 1).toNat = blen n := by omega
  rw [e, Nat.div_eq_of_lt blen_lt, mulM_zero]
 ·simp [go_sem, tiAnn, tiSt, farP, zPt]
 ·rintro ⟨i, out⟩ ⟨hi1, hi2, ho, hi3, hg⟩ ih
  simp only at hi1 hi2 ho hi3 hg
  simp +decide only [tiSt, zPt, go_sem]
  refine Runs.split (fun h => ?_) (fun h => ?_)
  ·have hs : 0 ≤ i := by simpa using h
   obtain ⟨j, rfl⟩ := nat_of hs
   have hk' : 2 ^ j ≤ n := by
    rcases hi3 with h | h
    ·omega
    ·simpa using h
   have ek : ((j : Int) + 1).toNat = j + 1 := by omega
   rw [ek] at hg
   have hst := mulM_step (sumZ k.p k.a) farP n j P hk'
   rw [← hg] at hst
   have c1 := sumC hm k out out hk ho ho
   have o1 := sumZ_in (A := k.a) hp ho ho
   have c2 := sumC hm k (sumZ k.p k.a out out) P hk o1 hP
   have o2 := sumZ_in (A := k.a) hp o1 hP
   have hq := Nat.div_le_self n (2 ^ j)
   have ea := andI_one (n / 2 ^ j) (by omega)
   have em : min j 64 = j := by omega
   have es := shr_nat n j
   have hpow : j = 0 ∨ 2 ^ (j - 1) ≤ n := by
    rcases Nat.eq_zero_or_pos j with h | h
    ·exact .inl h
    ·right; exact Nat.le_trans (Nat.pow_le_pow_right (by omega) (by omega)) hk'
   simp +decide (disch := first | omega | (simp only [ll]; omega)) only [if_pos, go_sem]
   refine Runs.call c1 ?_
   simp +decide (disch := first | omega | (simp only [ll]; omega)) only [em, es, ea, if_pos, go_sem]
   refine Runs.split (fun h => ?_) (fun h => ?_)
   ·have hbit : n / 2 ^ j % 2 = 1 := by simp only [decide_eq_true_eq] at h; omega
    rw [if_pos hbit] at hst
    simp +decide (disch := first | omega | (simp only [ll]; omega)) only [if_pos, go_sem]
    refine Runs.call c2 ?_
    simp +decide (disch := first | omega | (simp only [ll]; omega)) only [if_pos, go_sem]
    refine ih ((j : Int) - 1, sumZ k.p k.a (sumZ k.p k.a out out) P) _ (by simp only; omega) ⟨by simp only; omega, by simp only; omega, o2, ?_, ?_⟩ ?_
    ·simp only
     rcases hpow with h | h
     ·left; omega
     ·right
      have e : ((j : Int) - 1).toNat = j - 1 := by omega
      rw [e]; exact h
    ·simp only
     have e : ((j : Int) - 1 + 1).toNat = j := by omega
     rw [e, hst]
    ·simp [go_sem, tiAnn, tiSt, zPt]
   ·have hbit : ¬ n / 2 ^ j % 2 = 1 := by simp only [decide_eq_false_iff_not] at h; omega
    rw [if_neg hbit] at hst
    simp +decide (disch := first | omega | (simp only [ll]; omega)) only [if_pos, go_sem]
    refine ih ((j : Int) - 1, sumZ k.p k.a out out) _ (by simp only; omega) ⟨by simp only; omega, by simp only; omega, o1, ?_, ?_⟩ ?_
    ·simp only
     rcases hpow with h | h
     ·left; omega
     ·right
      have e : ((j : Int) - 1).toNat = j - 1 := by omega
      rw [e]; exact h
    ·simp only
     have e : ((j : Int) - 1 + 1).toNat = j := by omega
     rw [e, hst]
    ·simp [go_sem, tiAnn, tiSt, zPt]
  ·have hs : i = -1 := by simp at h; omega
   subst hs
   simp at hg
   simp +decide only [go_sem]
   exact Runs.ret_eq (by rw [← hg])
end Go.Proofs.W

namespace Go.Proofs.W
open Go Go.AM Go.Proofs.G
set_option maxRecDepth 10000
variable (hm : Tryz.prog.follows .mixedOrders = true)
attribute [local go_sem] cvA ptA
noncomputable def curveB (k : GCv) : Bool :=
 inB k.p 5 1048576 && decide (k.p.tmod 4 = 3) && primeZ k.p && inB k.a 0 (k.p - 1) && inB k.b 0 (k.p - 1) && inB k.n 5 2097152 && primeZ k.n &&
 !decide ((4 * (k.a * k.a % k.p) * k.a + 27 * (k.b * k.b % k.p)) % k.p = 0) && onZ k.p k.a k.b ⟨k.gx, k.gy, false⟩ && (mulL (addZ k.p k.a) k.n.toNat farP ⟨k.gx, k.gy, false⟩).far
theorem onZ_in {p A B : Int} {P : GPt} (h0 : 0 < p) (h : onZ p A B P = true) : PtIn p P := by
 unfold onZ at h
 split at h
 ·simp only [Bool.and_eq_true, decide_eq_true_eq] at h
  exact ⟨by omega, by omega⟩
 ·simp only [Bool.and_eq_true, decide_eq_true_eq] at h
  exact ⟨by omega, by omega⟩
theorem inB_t {n a b : Int} (h : inB n a b = true) : a ≤ n ∧ n ≤ b := by simpa [inB] using h
theorem curve_in {k : GCv} (h : curveB k = true) : CvIn k := by
 simp only [curveB, Bool.and_eq_true] at h
 obtain ⟨⟨⟨⟨⟨⟨⟨⟨⟨c1, _⟩, _⟩, c4⟩, c5⟩, _⟩, _⟩, _⟩, _⟩, _⟩ := h
 have := inB_t c1
 have := inB_t c4
 have := inB_t c5
 exact ⟨by omega, by omega, by omega, by omega⟩
def scS : Sched := .take 0 (.take 2 (.take 5 (.take 9 (.take 12 (.take 14 (.take 17 (.take 22 (.ld 1 (.ld 3 (.take 4 (.ld 6 (.take 7 (.take 8 (.ld 10 (.take 11 (.ld 13 (.ld 15 (.take 16 (.ld 18 (.take 19 (.take 20 (.take 21 (.ld 23 (.take 24 (.take 25 .fin)))))))))))))))))))))))))
attribute [local go_sem] scS
set_option maxHeartbeats 4000000 in
include hm in
theorem sCurveOk (k : GCv) : Holds Tryz.prog 118 [cvA k] [] (.v (.bool (curveB k))) [] := by
 refine holds_ref (ann := []) tabOk hm (byL [] [1000001]) Tryz.func118 (by kernel_rfl) rfl ?_
 have hk : k = ⟨k.p, k.a, k.b, k.n, k.gx, k.gy⟩ := rfl
 obtain ⟨p, a, b, n, gx, gy⟩ := k
 simp +decide only [Tryz.f118, go_sem]
 refine Runs.call (l1In hm p 5 1048576) ?_
 simp +decide (maxSteps := 9^7) only [go_sem]
 refine Runs.split (fun c1 => ?_) (fun c1 => ?_)
 ·have e : curveB ⟨p, a, b, n, gx, gy⟩ = false := by simp only [Bool.not_eq_true'] at c1; simp [curveB, c1]
  simp +decide (maxSteps := 9^7) only [e, go_sem]
  exact Runs.ret_v
 simp only [Bool.not_eq_false'] at c1
 obtain ⟨p1, p2⟩ := inB_t c1
 simp +decide (maxSteps := 9^7) (disch := first | omega | (simp only [ll]; omega)) only [if_pos, go_sem]
 refine Runs.split (fun c2 => ?_) (fun c2 => ?_)
 ·have e : curveB ⟨p, a, b, n, gx, gy⟩ = false := by
   have : ¬ p.tmod 4 = 3 := by simpa using c2
   simp [curveB, this]
  simp +decide (maxSteps := 9^7) only [e, go_sem]
  exact Runs.ret_v
 have c2' : p.tmod 4 = 3 := by simpa using c2
 simp +decide (maxSteps := 9^7) (disch := first | omega | (simp only [ll]; omega)) only [if_pos, go_sem]
 refine Runs.call (sPrime hm p) ?_
 simp +decide (maxSteps := 9^7) only [go_sem]
 refine Runs.split (fun c3 => ?_) (fun c3 => ?_)
 ·have e : curveB ⟨p, a, b, n, gx, gy⟩ = false := by simp only [Bool.not_eq_true'] at c3; simp [curveB, c3]
  simp +decide (maxSteps := 9^7) only [e, go_sem]
  exact Runs.ret_v
 simp only [Bool.not_eq_false'] at c3
 simp +decide (maxSteps := 9^7) (disch := first | omega | (simp only [ll]; omega)) only [if_pos, go_sem]
 refine Runs.call (l1In hm a 0 (p - 1)) ?_
 simp +decide (maxSteps := 9^7) only [go_sem]
 refine Runs.split (fun c4 => ?_) (fun c4 => ?_)
 ·have e : curveB ⟨p, a, b, n, gx, gy⟩ = false := by simp only [Bool.not_eq_true'] at c4; simp [curveB, c4]
  simp +decide (maxSteps := 9^7) only [e, go_sem]
  exact Runs.ret_v
 simp only [Bool.not_eq_false'] at c4
 simp +decide (maxSteps := 9^7) (disch := first | omega | (simp only [ll]; omega)) only [if_pos, go_sem]
 refine Runs.call (l1In hm b 0 (p - 1)) ?_
 simp +decide (maxSteps := 9^7) only [go_sem]
 refine Runs.split (fun c5 => ?_) (fun c5 => ?_)
 ·have e : curveB ⟨p, a, b, n, gx, gy⟩ = false := by simp only [Bool.not_eq_true'] at c5; simp [curveB, c5]
  simp +decide (maxSteps := 9^7) only [e, go_sem]
  exact Runs.ret_v
 simp only [Bool.not_eq_false'] at c5
 simp +decide (maxSteps := 9^7) (disch := first | omega | (simp only [ll]; omega)) only [if_pos, go_sem]
 refine Runs.call (l1In hm n 5 2097152) ?_
 simp +decide (maxSteps := 9^7) only [go_sem]
 refine Runs.split (fun c6 => ?_) (fun c6 => ?_)
 ·have e : curveB ⟨p, a, b, n, gx, gy⟩ = false := by simp only [Bool.not_eq_true'] at c6; simp [curveB, c6]
  simp +decide (maxSteps := 9^7) only [e, go_sem]
  exact Runs.ret_v
 simp only [Bool.not_eq_false'] at c6
 simp +decide (maxSteps := 9^7) (disch := first | omega | (simp only [ll]; omega)) only [if_pos, go_sem]
 refine Runs.call (sPrime hm n) ?_
 simp +decide (maxSteps := 9^7) only [go_sem]
 refine Runs.split (fun c7 => ?_) (fun c7 => ?_)
 ·have e : curveB ⟨p, a, b, n, gx, gy⟩ = false := by simp only [Bool.not_eq_true'] at c7; simp [curveB, c7]
  simp +decide (maxSteps := 9^7) only [e, go_sem]
  exact Runs.ret_v
 simp only [Bool.not_eq_false'] at c7
 have ia := inB_t c4
 have ib := inB_t c5
 have iN := inB_t c6
 have b1 := mul_in (a := a) (b := a) (m := p) (by omega) (by omega) (by omega)
 have b2 := mul_in (a := b) (b := b) (m := p) (by omega) (by omega) (by omega)
 have m1 := mod_in' (show 0 < p by omega) (a * a)
 have m2 := mod_in' (show 0 < p by omega) (b * b)
 have b3 := mul_in (a := a * a % p) (b := a) (m := p) (by omega) (by omega) (by omega)
 have e3 : 4 * (a * a % p) * a = 4 * (a * a % p * a) := Int.mul_assoc 4 _ _
 have hn : ((n.toNat : Nat) : Int) = n := Int.toNat_of_nonneg (by omega)
 simp +decide (maxSteps := 9^7) (disch := first | omega | (simp only [ll]; omega)) only [if_pos, go_sem]
 refine Runs.draw (st1 := ?s1) (draws_ref (ann := []) tabOk (byL [] [1000001]) scS (by kernel_rfl) ?p1) ?q1
 case p1 =>
  intro K r X hK
  simp +decide (maxSteps := 9^7) (disch := first | omega | (simp only [ll]; omega)) only [Int.tmod_eq_emod_of_nonneg, if_pos, go_sem]
  exact hK
 case q1 =>
  simp +decide (maxSteps := 9^7) only [go_sem]
  refine Runs.split (fun c8 => ?_) (fun c8 => ?_)
  ·have e : curveB ⟨p, a, b, n, gx, gy⟩ = false := by simp only [decide_eq_true_eq] at c8; simp [curveB, c8]
   simp +decide (maxSteps := 9^7) only [e, go_sem]
   exact Runs.ret_v
  simp only [decide_eq_false_iff_not] at c8
  have kin : CvIn ⟨p, a, b, n, gx, gy⟩ := ⟨by simp only; omega, by simp only; omega, by simp only; omega, by simp only; omega⟩
  simp +decide (maxSteps := 9^7) only [go_sem]
  refine Runs.call (l3On hm ⟨p, a, b, n, gx, gy⟩ ⟨gx, gy, false⟩ kin) ?_
  simp +decide (maxSteps := 9^7) only [go_sem]
  refine Runs.split (fun c9 => ?_) (fun c9 => ?_)
  ·have gin := onZ_in (by omega) c9
   have hM := l3Mul hm ⟨p, a, b, n, gx, gy⟩ n.toNat ⟨gx, gy, false⟩ kin gin (by omega)
   rw [hn] at hM
   simp +decide (maxSteps := 9^7) only [go_sem]
   refine Runs.call hM ?_
   simp +decide (maxSteps := 9^7) only [go_sem]
   exact Runs.ret_eq (by simp [curveB, c1, c2', c3, c4, c5, c6, c7, c8, c9])
  ·have e : curveB ⟨p, a, b, n, gx, gy⟩ = false := by simp [curveB, c9]
   simp +decide (maxSteps := 9^7) only [e, go_sem]
   exact Runs.ret_v
def icS : Sched := .take 0 (.take 3 (.take 6 (.take 9 (.take 12 (.take 15 (.take 19 (.ld 1 (.take 2 (.ld 4 (.take 5 (.ld 7 (.take 8 (.ld 10 (.take 11 (.ld 13 (.take 14 (.ld 16 (.take 17 (.take 18 (.ld 20 (.take 21 (.take 22 (.take 23 (.ld 24 (.ld 25 (.alt 26 (.alt 27 (.take 28 (.take 29 .fin)) .nil) .nil))))))))))))))))))))))))))
def icT : Sched := .take 1 (.ld 0 (.ld 2 (.ld 3 (.alt 4 (.alt 5 (.take 6 (.take 7 .fin)) .nil) .nil))))
attribute [local go_sem] icS icT
set_option maxHeartbeats 4000000 in
include hm in
theorem iCurveOk (k : GCv) : Holds Tryz.prog 136 [cvA k] [] (.v (.bool (curveB k))) [] := by
 refine holds_ref (ann := []) tabOk hm (byL [] [1000001]) Tryz.func136 (by kernel_rfl) rfl ?_
 obtain ⟨p, a, b, n, gx, gy⟩ := k
 simp +decide only [Tryz.f136, go_sem]
 refine Runs.call (within hm p 5 1048576) ?_
 simp +decide (maxSteps := 9^7) only [go_sem]
 refine Runs.split (fun c1 => ?_) (fun c1 => ?_)
 ·have e : curveB ⟨p, a, b, n, gx, gy⟩ = false := by simp only [Bool.not_eq_true'] at c1; simp [curveB, c1]
  simp +decide (maxSteps := 9^7) only [e, go_sem]
  exact Runs.ret_v
 simp only [Bool.not_eq_false'] at c1
 obtain ⟨p1, p2⟩ := inB_t c1
 simp +decide (maxSteps := 9^7) (disch := first | omega | (simp only [ll]; omega)) only [if_pos, go_sem]
 refine Runs.split (fun c2 => ?_) (fun c2 => ?_)
 ·have e : curveB ⟨p, a, b, n, gx, gy⟩ = false := by
   have : ¬ p.tmod 4 = 3 := by simpa using c2
   simp [curveB, this]
  simp +decide (maxSteps := 9^7) only [e, go_sem]
  exact Runs.ret_v
 have c2' : p.tmod 4 = 3 := by simpa using c2
 simp +decide (maxSteps := 9^7) (disch := first | omega | (simp only [ll]; omega)) only [if_pos, go_sem]
 refine Runs.call (within hm a 0 (p - 1)) ?_
 simp +decide (maxSteps := 9^7) only [go_sem]
 refine Runs.split (fun c4 => ?_) (fun c4 => ?_)
 ·have e : curveB ⟨p, a, b, n, gx, gy⟩ = false := by simp only [Bool.not_eq_true'] at c4; simp [curveB, c4]
  simp +decide (maxSteps := 9^7) only [e, go_sem]
  exact Runs.ret_v
 simp only [Bool.not_eq_false'] at c4
 simp +decide (maxSteps := 9^7) (disch := first | omega | (simp only [ll]; omega)) only [if_pos, go_sem]
 refine Runs.call (within hm b 0 (p - 1)) ?_
 simp +decide (maxSteps := 9^7) only [go_sem]
 refine Runs.split (fun c5 => ?_) (fun c5 => ?_)
 ·have e : curveB ⟨p, a, b, n, gx, gy⟩ = false := by simp only [Bool.not_eq_true'] at c5; simp [curveB, c5]
  simp +decide (maxSteps := 9^7) only [e, go_sem]
  exact Runs.ret_v
 simp only [Bool.not_eq_false'] at c5
 simp +decide (maxSteps := 9^7) (disch := first | omega | (simp only [ll]; omega)) only [if_pos, go_sem]
 refine Runs.call (within hm n 5 2097152) ?_
 simp +decide (maxSteps := 9^7) only [go_sem]
 refine Runs.split (fun c6 => ?_) (fun c6 => ?_)
 ·have e : curveB ⟨p, a, b, n, gx, gy⟩ = false := by simp only [Bool.not_eq_true'] at c6; simp [curveB, c6]
  simp +decide (maxSteps := 9^7) only [e, go_sem]
  exact Runs.ret_v
 simp only [Bool.not_eq_false'] at c6
 simp +decide (maxSteps := 9^7) (disch := first | omega | (simp only [ll]; omega)) only [if_pos, go_sem]
 refine Runs.call (iPrime hm p) ?_
 simp +decide (maxSteps := 9^7) only [go_sem]
 refine Runs.split (fun c3 => ?_) (fun c3 => ?_)
 ·have e : curveB ⟨p, a, b, n, gx, gy⟩ = false := by simp only [Bool.not_eq_true'] at c3; simp [curveB, c3]
  simp +decide (maxSteps := 9^7) only [e, go_sem]
  exact Runs.ret_v
 simp only [Bool.not_eq_false'] at c3
 simp +decide (maxSteps := 9^7) (disch := first | omega | (simp only [ll]; omega)) only [if_pos, go_sem]
 refine Runs.call (iPrime hm n) ?_
 simp +decide (maxSteps := 9^7) only [go_sem]
 refine Runs.split (fun c7 => ?_) (fun c7 => ?_)
 ·have e : curveB ⟨p, a, b, n, gx, gy⟩ = false := by simp only [Bool.not_eq_true'] at c7; simp [curveB, c7]
  simp +decide (maxSteps := 9^7) only [e, go_sem]
  exact Runs.ret_v
 simp only [Bool.not_eq_false'] at c7
 have ia := inB_t c4
 have ib := inB_t c5
 have iN := inB_t c6
 have b1 := mul_in (a := a) (b := a) (m := p) (by omega) (by omega) (by omega)
 have b2 := mul_in (a := b) (b := b) (m := p) (by omega) (by omega) (by omega)
 have m1 := mod_in' (show 0 < p by omega) (4 * a * a)
 have e1 : 4 * a * a = 4 * (a * a) := Int.mul_assoc 4 a a
 have e2 : 27 * b * b = 27 * (b * b) := Int.mul_assoc 27 b b
 have b3 := mul_in (a := 4 * a * a % p) (b := a) (m := p) (by omega) (by omega) (by omega)
 have hn : ((n.toNat : Nat) : Int) = n := Int.toNat_of_nonneg (by omega)
 have kin : CvIn ⟨p, a, b, n, gx, gy⟩ := ⟨by simp only; omega, by simp only; omega, by simp only; omega, by simp only; omega⟩
 have hB := baseP hm ⟨p, a, b, n, gx, gy⟩
 have hP := isPoint hm ⟨p, a, b, n, gx, gy⟩ ⟨gx, gy, false⟩ kin
 have dm := disc_mod a b p
 simp +decide (maxSteps := 9^7) (disch := first | omega | (simp only [ll]; omega)) only [if_pos, go_sem]
 by_cases c8 : (4 * (a * a % p) * a + 27 * (b * b % p)) % p = 0
 ·have e : curveB ⟨p, a, b, n, gx, gy⟩ = false := by simp [curveB, c8]
  rw [c8] at dm
  refine Runs.draw (st1 := ?s1) (draws_ref (ann := []) tabOk (byL [] [1000001]) icS (by kernel_rfl) ?p1) ?q1
  case p1 =>
   intro K r X hK
   simp +decide (maxSteps := 9^7) (disch := first | omega | (simp only [ll]; omega)) only [Int.tmod_eq_emod_of_nonneg, dm, if_pos, go_sem]
   exact hK
  case q1 =>
   simp +decide (maxSteps := 9^7) only [e, go_sem]
   exact Runs.ret_v
 ·have dm' : ¬ (4 * a * a % p * a + 27 * b * b) % p = 0 := by rw [dm]; exact c8
  cases c9 : onZ p a b ⟨gx, gy, false⟩ with
  | false =>
   have e : curveB ⟨p, a, b, n, gx, gy⟩ = false := by simp [curveB, c9]
   simp only [c9] at hP
   refine Runs.draw (st1 := ?s2) (draws_ref (ann := []) tabOk (byL [] [1000001]) icS (by kernel_rfl) ?p2) ?q2
   case p2 =>
    intro K r X hK
    simp +decide (maxSteps := 9^7) (disch := first | omega | (simp only [ll]; omega)) only [Int.tmod_eq_emod_of_nonneg, dm', if_pos, go_sem]
    refine Runs.call hB ?_
    simp +decide (maxSteps := 9^7) (disch := first | omega | (simp only [ll]; omega)) only [if_pos, go_sem]
    refine Runs.call hP ?_
    simp +decide (maxSteps := 9^7) (disch := first | omega | (simp only [ll]; omega)) only [if_pos, go_sem]
    exact hK
   case q2 =>
    simp +decide (maxSteps := 9^7) only [e, go_sem]
    exact Runs.ret_v
  | true =>
   simp only [c9] at hP
   have gin := onZ_in (by omega) c9
   have hM := timesC hm ⟨p, a, b, n, gx, gy⟩ n.toNat ⟨gx, gy, false⟩ kin gin (by omega)
   simp only at hM
   rw [hn, times_same (by omega) (primeZ_of c3).2.2 c8 c9 n.toNat] at hM
   refine Runs.draw (st1 := ?s3) (draws_ref (ann := []) tabOk (byL [] [1000001]) icS (by kernel_rfl) ?p3) ?q3
   case p3 =>
    intro K r X hK
    simp +decide (maxSteps := 9^7) (disch := first | omega | (simp only [ll]; omega)) only [Int.tmod_eq_emod_of_nonneg, dm', if_pos, go_sem]
    refine Runs.call hB ?_
    simp +decide (maxSteps := 9^7) (disch := first | omega | (simp only [ll]; omega)) only [if_pos, go_sem]
    refine Runs.call hP ?_
    simp +decide (maxSteps := 9^7) (disch := first | omega | (simp only [ll]; omega)) only [if_pos, go_sem]
    exact hK
   case q3 =>
    simp +decide (maxSteps := 9^7) only [go_sem]
    refine Runs.draw (st1 := ?s4) (draws_ref (ann := []) tabOk (byL [] [1000001]) icT (by kernel_rfl) ?p4) ?q4
    case p4 =>
     intro K r X hK
     simp +decide (maxSteps := 9^7) (disch := first | omega | (simp only [ll]; omega)) only [if_pos, go_sem]
     repeat' apply And.intro
     all_goals
      refine Runs.call hB ?_
      simp +decide (maxSteps := 9^7) (disch := first | omega | (simp only [ll]; omega)) only [if_pos, go_sem]
      refine Runs.call hM ?_
      simp +decide (maxSteps := 9^7) (disch := first | omega | (simp only [ll]; omega)) only [if_pos, go_sem]
      exact hK
    case q4 =>
     simp +decide (maxSteps := 9^7) only [go_sem]
     exact Runs.ret_eq (by simp [curveB, c1, c2', c3, c4, c5, c6, c7, c8, c9])
include hm in
theorem sPointOk (k : GCv) (P : GPt) : Holds Tryz.prog 88 [cvA k, ptA P] [] (.v (.bool (curveB k && onZ k.p k.a k.b P))) [] := by
 refine holds_ref (ann := []) tabOk hm (byL [] [1000002, 1000003]) Tryz.func88 (by kernel_rfl) rfl ?_
 simp +decide only [Tryz.f88, go_sem]
 refine Runs.call (sCurveOk hm k) ?_
 simp +decide only [go_sem]
 refine Runs.split (fun c => ?_) (fun c => ?_)
 ·simp +decide only [go_sem]
  refine Runs.call (l3On hm k P (curve_in c)) ?_
  simp +decide only [c, go_sem]
  exact Runs.ret_eq (by simp)
 ·simp +decide only [c, go_sem]
  exact Runs.ret_eq (by simp)
include hm in
theorem iPointOk (k : GCv) (P : GPt) : Holds Tryz.prog 104 [cvA k, ptA P] [] (.v (.bool (curveB k && onZ k.p k.a k.b P))) [] := by
 refine holds_ref (ann := []) tabOk hm (byL [] [1000002, 1000003]) Tryz.func104 (by kernel_rfl) rfl ?_
 simp +decide only [Tryz.f104, go_sem]
 refine Runs.call (iCurveOk hm k) ?_
 simp +decide only [go_sem]
 refine Runs.split (fun c => ?_) (fun c => ?_)
 ·simp +decide only [go_sem]
  refine Runs.call (isPoint hm k P (curve_in c)) ?_
  simp +decide only [c, go_sem]
  exact Runs.ret_eq (by simp)
 ·simp +decide only [c, go_sem]
  exact Runs.ret_eq (by simp)
end Go.Proofs.W
