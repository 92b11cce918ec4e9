import Derived.Test.YtnckgoabpeagaadGreatDoorProg
import Derived.KernelRfl
import Derived.Lib.IndexLaws
import Derived.Lib.Strings
import Derived.Lib.Slices
import Derived.Lib.Walk
import Derived.Lib.Bytealg
import Derived.Test.YtnckgoabpeagaadGreatDoorField1
set_option linter.unusedVariables false
set_option linter.unusedSimpArgs false
namespace Go.Proofs.W
open Go Go.AM
def repV (n : Nat) (v : Value) : List Value := List.replicate n v
def tab : Go.AM.Tab := [
 [⟨.other, 0, 0, []⟩,
 ⟨.func, 1, 8, [.nilFunc]⟩,
 ⟨.int .i64, 1, 8, [.int .i64 0]⟩,
 ⟨.int .i64, 1, 8, [.int .i64 0]⟩,
 ⟨.bool, 1, 1, [.bool false]⟩,
 ⟨.int .u8, 1, 1, [.int .u8 0]⟩,
 ⟨.int .u8, 1, 1, [.int .u8 0]⟩,
 ⟨.struct [(0, 1, 2), (1, 1, 3), (2, 1, 4), (3, 1, 6)], 4, 24, [.int .i64 0, .int .i64 0, .bool false, .int .u8 0]⟩,
 ⟨.struct [(0, 1, 2), (1, 1, 3), (2, 1, 4), (3, 1, 6)], 4, 24, [.int .i64 0, .int .i64 0, .bool false, .int .u8 0]⟩,
 ⟨.string, 1, 16, [.string ⟨#[]⟩]⟩,
 ⟨.string, 1, 16, [.string ⟨#[]⟩]⟩,
 ⟨.string, 1, 16, [.string ⟨#[]⟩]⟩,
 ⟨.int .u64, 1, 8, [.int .u64 0]⟩,
 ⟨.struct [(0, 1, 9), (1, 1, 12)], 2, 24, [.string ⟨#[]⟩, .int .u64 0]⟩,
 ⟨.struct [(0, 1, 9), (1, 1, 12)], 2, 24, [.string ⟨#[]⟩, .int .u64 0]⟩,
 ⟨.pointer 173, 1, 8, [.pointer none]⟩],
 [⟨.pointer 176, 1, 8, [.pointer none]⟩,
 ⟨.pointer 185, 1, 8, [.pointer none]⟩,
 ⟨.struct [(0, 1, 17)], 1, 8, [.pointer none]⟩,
 ⟨.struct [(0, 1, 17)], 1, 8, [.pointer none]⟩,
 ⟨.other, 0, 0, []⟩,
 ⟨.int .i32, 1, 4, [.int .i32 0]⟩,
 ⟨.slice 9, 1, 24, [.slice none 0 0]⟩,
 ⟨.slice 3, 1, 24, [.slice none 0 0]⟩,
 ⟨.struct [(0, 1, 3), (1, 1, 3), (2, 1, 3), (3, 1, 3), (4, 1, 3), (5, 1, 3)], 6, 48, [.int .i64 0, .int .i64 0, .int .i64 0, .int .i64 0, .int .i64 0, .int .i64 0]⟩,
 ⟨.struct [(0, 1, 3), (1, 1, 3), (2, 1, 3), (3, 1, 3), (4, 1, 3), (5, 1, 3)], 6, 48, [.int .i64 0, .int .i64 0, .int .i64 0, .int .i64 0, .int .i64 0, .int .i64 0]⟩,
 ⟨.struct [(0, 1, 3), (1, 1, 3), (2, 1, 4)], 3, 24, [.int .i64 0, .int .i64 0, .bool false]⟩,
 ⟨.struct [(0, 1, 3), (1, 1, 3), (2, 1, 4)], 3, 24, [.int .i64 0, .int .i64 0, .bool false]⟩,
 ⟨.struct [(0, 1, 3), (1, 1, 3), (2, 1, 3), (3, 1, 3), (4, 1, 3)], 5, 40, [.int .i64 0, .int .i64 0, .int .i64 0, .int .i64 0, .int .i64 0]⟩,
 ⟨.struct [(0, 1, 3), (1, 1, 3), (2, 1, 3), (3, 1, 3), (4, 1, 3)], 5, 40, [.int .i64 0, .int .i64 0, .int .i64 0, .int .i64 0, .int .i64 0]⟩,
 ⟨.struct [(0, 1, 3), (1, 1, 3)], 2, 16, [.int .i64 0, .int .i64 0]⟩,
 ⟨.struct [(0, 1, 3), (1, 1, 3)], 2, 16, [.int .i64 0, .int .i64 0]⟩],
 [⟨.struct [(0, 1, 3), (1, 1, 23), (2, 1, 3), (3, 6, 25), (9, 3, 27), (12, 5, 29), (17, 2, 31)], 19, 168, [.int .i64 0, .slice none 0 0, .int .i64 0, .int .i64 0, .int .i64 0, .int .i64 0, .int .i64 0, .int .i64 0, .int .i64 0, .int .i64 0, .int .i64 0, .bool false, .int .i64 0, .int .i64 0, .int .i64 0, .int .i64 0, .int .i64 0, .int .i64 0, .int .i64 0]⟩,
 ⟨.struct [(0, 1, 3), (1, 1, 23), (2, 1, 3), (3, 6, 25), (9, 3, 27), (12, 5, 29), (17, 2, 31)], 19, 168, [.int .i64 0, .slice none 0 0, .int .i64 0, .int .i64 0, .int .i64 0, .int .i64 0, .int .i64 0, .int .i64 0, .int .i64 0, .int .i64 0, .int .i64 0, .bool false, .int .i64 0, .int .i64 0, .int .i64 0, .int .i64 0, .int .i64 0, .int .i64 0, .int .i64 0]⟩,
 ⟨.slice 23, 1, 24, [.slice none 0 0]⟩,
 ⟨.struct [(0, 1, 4), (1, 1, 3), (2, 1, 3), (3, 1, 22), (4, 1, 34), (5, 1, 22), (6, 1, 22), (7, 1, 23)], 8, 144, [.bool false, .int .i64 0, .int .i64 0, .slice none 0 0, .slice none 0 0, .slice none 0 0, .slice none 0 0, .slice none 0 0]⟩,
 ⟨.struct [(0, 1, 4), (1, 1, 3), (2, 1, 3), (3, 1, 22), (4, 1, 34), (5, 1, 22), (6, 1, 22), (7, 1, 23)], 8, 144, [.bool false, .int .i64 0, .int .i64 0, .slice none 0 0, .slice none 0 0, .slice none 0 0, .slice none 0 0, .slice none 0 0]⟩,
 ⟨.slice 5, 1, 24, [.slice none 0 0]⟩,
 ⟨.struct [(0, 1, 3), (1, 1, 22), (2, 1, 22), (3, 1, 3), (4, 1, 3), (5, 19, 33), (24, 1, 3), (25, 8, 36), (33, 1, 37)], 34, 416, [.int .i64 0, .slice none 0 0, .slice none 0 0, .int .i64 0, .int .i64 0, .int .i64 0, .slice none 0 0, .int .i64 0, .int .i64 0, .int .i64 0, .int .i64 0, .int .i64 0, .int .i64 0, .int .i64 0, .int .i64 0, .int .i64 0, .bool false, .int .i64 0, .int .i64 0, .int .i64 0, .int .i64 0, .int .i64 0, .int .i64 0, .int .i64 0, .int .i64 0, .bool false, .int .i64 0, .int .i64 0, .slice none 0 0, .slice none 0 0, .slice none 0 0, .slice none 0 0, .slice none 0 0, .slice none 0 0]⟩,
 ⟨.struct [(0, 1, 3), (1, 1, 22), (2, 1, 22), (3, 1, 3), (4, 1, 3), (5, 19, 33), (24, 1, 3), (25, 8, 36), (33, 1, 37)], 34, 416, [.int .i64 0, .slice none 0 0, .slice none 0 0, .int .i64 0, .int .i64 0, .int .i64 0, .slice none 0 0, .int .i64 0, .int .i64 0, .int .i64 0, .int .i64 0, .int .i64 0, .int .i64 0, .int .i64 0, .int .i64 0, .int .i64 0, .bool false, .int .i64 0, .int .i64 0, .int .i64 0, .int .i64 0, .int .i64 0, .int .i64 0, .int .i64 0, .int .i64 0, .bool false, .int .i64 0, .int .i64 0, .slice none 0 0, .slice none 0 0, .slice none 0 0, .slice none 0 0, .slice none 0 0, .slice none 0 0]⟩,
 ⟨.slice 39, 1, 24, [.slice none 0 0]⟩,
 ⟨.func, 1, 8, [.nilFunc]⟩,
 ⟨.func, 1, 8, [.nilFunc]⟩,
 ⟨.slice 54, 1, 24, [.slice none 0 0]⟩,
 ⟨.other, 0, 0, []⟩,
 ⟨.func, 1, 8, [.nilFunc]⟩,
 ⟨.struct [(0, 1, 3), (1, 1, 3), (2, 1, 3), (3, 1, 3), (4, 1, 3), (5, 1, 3)], 6, 48, [.int .i64 0, .int .i64 0, .int .i64 0, .int .i64 0, .int .i64 0, .int .i64 0]⟩,
 ⟨.struct [(0, 1, 3), (1, 1, 3), (2, 1, 4)], 3, 24, [.int .i64 0, .int .i64 0, .bool false]⟩],
 [⟨.struct [(0, 1, 3), (1, 1, 3), (2, 1, 3), (3, 1, 3), (4, 1, 3)], 5, 40, [.int .i64 0, .int .i64 0, .int .i64 0, .int .i64 0, .int .i64 0]⟩,
 ⟨.struct [(0, 1, 3), (1, 1, 3)], 2, 16, [.int .i64 0, .int .i64 0]⟩,
 ⟨.struct [(0, 1, 3), (1, 1, 23), (2, 1, 3), (3, 6, 46), (9, 3, 47), (12, 5, 48), (17, 2, 49)], 19, 168, [.int .i64 0, .slice none 0 0, .int .i64 0, .int .i64 0, .int .i64 0, .int .i64 0, .int .i64 0, .int .i64 0, .int .i64 0, .int .i64 0, .int .i64 0, .bool false, .int .i64 0, .int .i64 0, .int .i64 0, .int .i64 0, .int .i64 0, .int .i64 0, .int .i64 0]⟩,
 ⟨.struct [(0, 1, 3), (1, 1, 23), (2, 1, 3), (3, 6, 46), (9, 3, 47), (12, 5, 48), (17, 2, 49)], 19, 168, [.int .i64 0, .slice none 0 0, .int .i64 0, .int .i64 0, .int .i64 0, .int .i64 0, .int .i64 0, .int .i64 0, .int .i64 0, .int .i64 0, .int .i64 0, .bool false, .int .i64 0, .int .i64 0, .int .i64 0, .int .i64 0, .int .i64 0, .int .i64 0, .int .i64 0]⟩,
 ⟨.struct [(0, 1, 4), (1, 1, 3), (2, 1, 3), (3, 1, 22), (4, 1, 34), (5, 1, 22), (6, 1, 22), (7, 1, 23)], 8, 144, [.bool false, .int .i64 0, .int .i64 0, .slice none 0 0, .slice none 0 0, .slice none 0 0, .slice none 0 0, .slice none 0 0]⟩,
 ⟨.struct [(0, 1, 3), (1, 1, 22), (2, 1, 22), (3, 1, 3), (4, 1, 3), (5, 19, 51), (24, 1, 3), (25, 8, 52), (33, 1, 37)], 34, 416, [.int .i64 0, .slice none 0 0, .slice none 0 0, .int .i64 0, .int .i64 0, .int .i64 0, .slice none 0 0, .int .i64 0, .int .i64 0, .int .i64 0, .int .i64 0, .int .i64 0, .int .i64 0, .int .i64 0, .int .i64 0, .int .i64 0, .bool false, .int .i64 0, .int .i64 0, .int .i64 0, .int .i64 0, .int .i64 0, .int .i64 0, .int .i64 0, .int .i64 0, .bool false, .int .i64 0, .int .i64 0, .slice none 0 0, .slice none 0 0, .slice none 0 0, .slice none 0 0, .slice none 0 0, .slice none 0 0]⟩,
 ⟨.struct [(0, 1, 3), (1, 1, 22), (2, 1, 22), (3, 1, 3), (4, 1, 3), (5, 19, 51), (24, 1, 3), (25, 8, 52), (33, 1, 37)], 34, 416, [.int .i64 0, .slice none 0 0, .slice none 0 0, .int .i64 0, .int .i64 0, .int .i64 0, .slice none 0 0, .int .i64 0, .int .i64 0, .int .i64 0, .int .i64 0, .int .i64 0, .int .i64 0, .int .i64 0, .int .i64 0, .int .i64 0, .bool false, .int .i64 0, .int .i64 0, .int .i64 0, .int .i64 0, .int .i64 0, .int .i64 0, .int .i64 0, .int .i64 0, .bool false, .int .i64 0, .int .i64 0, .slice none 0 0, .slice none 0 0, .slice none 0 0, .slice none 0 0, .slice none 0 0, .slice none 0 0]⟩,
 ⟨.func, 1, 8, [.nilFunc]⟩,
 ⟨.func, 1, 8, [.nilFunc]⟩,
 ⟨.func, 1, 8, [.nilFunc]⟩,
 ⟨.func, 1, 8, [.nilFunc]⟩,
 ⟨.func, 1, 8, [.nilFunc]⟩,
 ⟨.func, 1, 8, [.nilFunc]⟩,
 ⟨.func, 1, 8, [.nilFunc]⟩,
 ⟨.func, 1, 8, [.nilFunc]⟩,
 ⟨.func, 1, 8, [.nilFunc]⟩],
 [⟨.func, 1, 8, [.nilFunc]⟩,
 ⟨.func, 1, 8, [.nilFunc]⟩,
 ⟨.func, 1, 8, [.nilFunc]⟩,
 ⟨.func, 1, 8, [.nilFunc]⟩,
 ⟨.func, 1, 8, [.nilFunc]⟩,
 ⟨.func, 1, 8, [.nilFunc]⟩,
 ⟨.func, 1, 8, [.nilFunc]⟩,
 ⟨.func, 1, 8, [.nilFunc]⟩,
 ⟨.func, 1, 8, [.nilFunc]⟩,
 ⟨.func, 1, 8, [.nilFunc]⟩,
 ⟨.func, 1, 8, [.nilFunc]⟩,
 ⟨.func, 1, 8, [.nilFunc]⟩,
 ⟨.func, 1, 8, [.nilFunc]⟩,
 ⟨.func, 1, 8, [.nilFunc]⟩,
 ⟨.func, 1, 8, [.nilFunc]⟩,
 ⟨.func, 1, 8, [.nilFunc]⟩],
 [⟨.func, 1, 8, [.nilFunc]⟩,
 ⟨.func, 1, 8, [.nilFunc]⟩,
 ⟨.func, 1, 8, [.nilFunc]⟩,
 ⟨.func, 1, 8, [.nilFunc]⟩,
 ⟨.func, 1, 8, [.nilFunc]⟩,
 ⟨.func, 1, 8, [.nilFunc]⟩,
 ⟨.func, 1, 8, [.nilFunc]⟩,
 ⟨.func, 1, 8, [.nilFunc]⟩,
 ⟨.func, 1, 8, [.nilFunc]⟩,
 ⟨.func, 1, 8, [.nilFunc]⟩,
 ⟨.func, 1, 8, [.nilFunc]⟩,
 ⟨.func, 1, 8, [.nilFunc]⟩,
 ⟨.func, 1, 8, [.nilFunc]⟩,
 ⟨.func, 1, 8, [.nilFunc]⟩,
 ⟨.func, 1, 8, [.nilFunc]⟩,
 ⟨.func, 1, 8, [.nilFunc]⟩],
 [⟨.func, 1, 8, [.nilFunc]⟩,
 ⟨.func, 1, 8, [.nilFunc]⟩,
 ⟨.func, 1, 8, [.nilFunc]⟩,
 ⟨.func, 1, 8, [.nilFunc]⟩,
 ⟨.func, 1, 8, [.nilFunc]⟩,
 ⟨.func, 1, 8, [.nilFunc]⟩,
 ⟨.func, 1, 8, [.nilFunc]⟩,
 ⟨.func, 1, 8, [.nilFunc]⟩,
 ⟨.func, 1, 8, [.nilFunc]⟩,
 ⟨.func, 1, 8, [.nilFunc]⟩,
 ⟨.func, 1, 8, [.nilFunc]⟩,
 ⟨.func, 1, 8, [.nilFunc]⟩,
 ⟨.func, 1, 8, [.nilFunc]⟩,
 ⟨.func, 1, 8, [.nilFunc]⟩,
 ⟨.func, 1, 8, [.nilFunc]⟩,
 ⟨.func, 1, 8, [.nilFunc]⟩],
 [⟨.func, 1, 8, [.nilFunc]⟩,
 ⟨.func, 1, 8, [.nilFunc]⟩,
 ⟨.func, 1, 8, [.nilFunc]⟩,
 ⟨.func, 1, 8, [.nilFunc]⟩,
 ⟨.func, 1, 8, [.nilFunc]⟩,
 ⟨.func, 1, 8, [.nilFunc]⟩,
 ⟨.func, 1, 8, [.nilFunc]⟩,
 ⟨.func, 1, 8, [.nilFunc]⟩,
 ⟨.func, 1, 8, [.nilFunc]⟩,
 ⟨.func, 1, 8, [.nilFunc]⟩,
 ⟨.func, 1, 8, [.nilFunc]⟩,
 ⟨.other, 0, 0, []⟩,
 ⟨.func, 1, 8, [.nilFunc]⟩,
 ⟨.func, 1, 8, [.nilFunc]⟩,
 ⟨.func, 1, 8, [.nilFunc]⟩,
 ⟨.func, 1, 8, [.nilFunc]⟩],
 [⟨.func, 1, 8, [.nilFunc]⟩,
 ⟨.func, 1, 8, [.nilFunc]⟩,
 ⟨.int .u64, 1, 8, [.int .u64 0]⟩,
 ⟨.func, 1, 8, [.nilFunc]⟩,
 ⟨.func, 1, 8, [.nilFunc]⟩,
 ⟨.func, 1, 8, [.nilFunc]⟩,
 ⟨.func, 1, 8, [.nilFunc]⟩,
 ⟨.func, 1, 8, [.nilFunc]⟩,
 ⟨.func, 1, 8, [.nilFunc]⟩,
 ⟨.func, 1, 8, [.nilFunc]⟩,
 ⟨.func, 1, 8, [.nilFunc]⟩,
 ⟨.func, 1, 8, [.nilFunc]⟩,
 ⟨.array 256 4, 256, 256, repV 256 (.bool false)⟩,
 ⟨.array 256 4, 256, 256, repV 256 (.bool false)⟩,
 ⟨.other, 0, 0, []⟩,
 ⟨.func, 1, 8, [.nilFunc]⟩],
 [⟨.func, 1, 8, [.nilFunc]⟩,
 ⟨.pointer 141, 1, 8, [.pointer none]⟩,
 ⟨.func, 1, 8, [.nilFunc]⟩,
 ⟨.int .u32, 1, 4, [.int .u32 0]⟩,
 ⟨.func, 1, 8, [.nilFunc]⟩,
 ⟨.int .u64, 1, 8, [.int .u64 0]⟩,
 ⟨.func, 1, 8, [.nilFunc]⟩,
 ⟨.other, 0, 0, []⟩,
 ⟨.func, 1, 8, [.nilFunc]⟩,
 ⟨.func, 1, 8, [.nilFunc]⟩,
 ⟨.func, 1, 8, [.nilFunc]⟩,
 ⟨.func, 1, 8, [.nilFunc]⟩,
 ⟨.other, 0, 0, []⟩,
 ⟨.func, 1, 8, [.nilFunc]⟩,
 ⟨.func, 1, 8, [.nilFunc]⟩,
 ⟨.func, 1, 8, [.nilFunc]⟩],
 [⟨.func, 1, 8, [.nilFunc]⟩,
 ⟨.func, 1, 8, [.nilFunc]⟩,
 ⟨.func, 1, 8, [.nilFunc]⟩,
 ⟨.func, 1, 8, [.nilFunc]⟩,
 ⟨.other, 0, 0, []⟩,
 ⟨.func, 1, 8, [.nilFunc]⟩,
 ⟨.array 256 5, 256, 256, repV 256 (.int .u8 0)⟩,
 ⟨.struct [(0, 1, 5), (1, 1, 5)], 2, 2, [.int .u8 0, .int .u8 0]⟩,
 ⟨.struct [(0, 1, 5), (1, 1, 5)], 2, 2, [.int .u8 0, .int .u8 0]⟩,
 ⟨.array 16 168, 32, 32, [.int .u8 0, .int .u8 0, .int .u8 0, .int .u8 0, .int .u8 0, .int .u8 0, .int .u8 0, .int .u8 0, .int .u8 0, .int .u8 0, .int .u8 0, .int .u8 0, .int .u8 0, .int .u8 0, .int .u8 0, .int .u8 0, .int .u8 0, .int .u8 0, .int .u8 0, .int .u8 0, .int .u8 0, .int .u8 0, .int .u8 0, .int .u8 0, .int .u8 0, .int .u8 0, .int .u8 0, .int .u8 0, .int .u8 0, .int .u8 0, .int .u8 0, .int .u8 0]⟩,
 ⟨.func, 1, 8, [.nilFunc]⟩,
 ⟨.func, 1, 8, [.nilFunc]⟩,
 ⟨.struct [(0, 1, 17), (1, 1, 17), (2, 1, 17), (3, 1, 9)], 4, 40, [.pointer none, .pointer none, .pointer none, .string ⟨#[]⟩]⟩,
 ⟨.struct [(0, 1, 17), (1, 1, 17), (2, 1, 17), (3, 1, 9)], 4, 40, [.pointer none, .pointer none, .pointer none, .string ⟨#[]⟩]⟩,
 ⟨.other, 0, 0, []⟩,
 ⟨.other, 0, 0, []⟩],
 [⟨.other, 0, 0, []⟩,
 ⟨.func, 1, 8, [.nilFunc]⟩,
 ⟨.int .u8, 1, 1, [.int .u8 0]⟩,
 ⟨.int .u8, 1, 1, [.int .u8 0]⟩,
 ⟨.func, 1, 8, [.nilFunc]⟩,
 ⟨.pointer 5, 1, 8, [.pointer none]⟩,
 ⟨.int .i32, 1, 4, [.int .i32 0]⟩,
 ⟨.int .i32, 1, 4, [.int .i32 0]⟩,
 ⟨.struct [(0, 1, 12), (1, 1, 12), (2, 1, 147), (3, 1, 178), (4, 1, 5), (5, 1, 5), (6, 1, 179), (7, 1, 180), (8, 1, 181), (9, 1, 182), (10, 1, 183)], 11, 48, [.int .u64 0, .int .u64 0, .int .u32 0, .int .u8 0, .int .u8 0, .int .u8 0, .int .u8 0, .nilFunc, .pointer none, .int .i32 0, .int .i32 0]⟩,
 ⟨.struct [(0, 1, 12), (1, 1, 12), (2, 1, 147), (3, 1, 178), (4, 1, 5), (5, 1, 5), (6, 1, 179), (7, 1, 180), (8, 1, 181), (9, 1, 182), (10, 1, 183)], 11, 48, [.int .u64 0, .int .u64 0, .int .u32 0, .int .u8 0, .int .u8 0, .int .u8 0, .int .u8 0, .nilFunc, .pointer none, .int .i32 0, .int .i32 0]⟩,
 ⟨.func, 1, 8, [.nilFunc]⟩,
 ⟨.other, 0, 0, []⟩,
 ⟨.other, 0, 0, []⟩,
 ⟨.other, 0, 0, []⟩,
 ⟨.other, 0, 0, []⟩,
 ⟨.other, 0, 0, []⟩]]
theorem tabOk : TabOk Tryz.prog tab := tabOk_of (by kernel_rfl)
theorem row3 : tab.row 3 = ⟨.int .i64, 1, 8, [.int .i64 0]⟩ := Eq.trans rfl rfl
theorem row4 : tab.row 4 = ⟨.bool, 1, 1, [.bool false]⟩ := Eq.trans rfl rfl
theorem row5 : tab.row 5 = ⟨.int .u8, 1, 1, [.int .u8 0]⟩ := Eq.trans rfl rfl
theorem row9 : tab.row 9 = ⟨.string, 1, 16, [.string ⟨#[]⟩]⟩ := Eq.trans rfl rfl
theorem row22 : tab.row 22 = ⟨.slice 9, 1, 24, [.slice none 0 0]⟩ := Eq.trans rfl rfl
theorem row23 : tab.row 23 = ⟨.slice 3, 1, 24, [.slice none 0 0]⟩ := Eq.trans rfl rfl
theorem row25 : tab.row 25 = ⟨.struct [(0, 1, 3), (1, 1, 3), (2, 1, 3), (3, 1, 3), (4, 1, 3), (5, 1, 3)], 6, 48, [.int .i64 0, .int .i64 0, .int .i64 0, .int .i64 0, .int .i64 0, .int .i64 0]⟩ := Eq.trans rfl rfl
theorem row27 : tab.row 27 = ⟨.struct [(0, 1, 3), (1, 1, 3), (2, 1, 4)], 3, 24, [.int .i64 0, .int .i64 0, .bool false]⟩ := Eq.trans rfl rfl
theorem row29 : tab.row 29 = ⟨.struct [(0, 1, 3), (1, 1, 3), (2, 1, 3), (3, 1, 3), (4, 1, 3)], 5, 40, [.int .i64 0, .int .i64 0, .int .i64 0, .int .i64 0, .int .i64 0]⟩ := Eq.trans rfl rfl
theorem row31 : tab.row 31 = ⟨.struct [(0, 1, 3), (1, 1, 3)], 2, 16, [.int .i64 0, .int .i64 0]⟩ := Eq.trans rfl rfl
theorem row33 : tab.row 33 = ⟨.struct [(0, 1, 3), (1, 1, 23), (2, 1, 3), (3, 6, 25), (9, 3, 27), (12, 5, 29), (17, 2, 31)], 19, 168, [.int .i64 0, .slice none 0 0, .int .i64 0, .int .i64 0, .int .i64 0, .int .i64 0, .int .i64 0, .int .i64 0, .int .i64 0, .int .i64 0, .int .i64 0, .bool false, .int .i64 0, .int .i64 0, .int .i64 0, .int .i64 0, .int .i64 0, .int .i64 0, .int .i64 0]⟩ := Eq.trans rfl rfl
theorem row34 : tab.row 34 = ⟨.slice 23, 1, 24, [.slice none 0 0]⟩ := Eq.trans rfl rfl
theorem row36 : tab.row 36 = ⟨.struct [(0, 1, 4), (1, 1, 3), (2, 1, 3), (3, 1, 22), (4, 1, 34), (5, 1, 22), (6, 1, 22), (7, 1, 23)], 8, 144, [.bool false, .int .i64 0, .int .i64 0, .slice none 0 0, .slice none 0 0, .slice none 0 0, .slice none 0 0, .slice none 0 0]⟩ := Eq.trans rfl rfl
theorem row37 : tab.row 37 = ⟨.slice 5, 1, 24, [.slice none 0 0]⟩ := Eq.trans rfl rfl
theorem row39 : tab.row 39 = ⟨.struct [(0, 1, 3), (1, 1, 22), (2, 1, 22), (3, 1, 3), (4, 1, 3), (5, 19, 33), (24, 1, 3), (25, 8, 36), (33, 1, 37)], 34, 416, [.int .i64 0, .slice none 0 0, .slice none 0 0, .int .i64 0, .int .i64 0, .int .i64 0, .slice none 0 0, .int .i64 0, .int .i64 0, .int .i64 0, .int .i64 0, .int .i64 0, .int .i64 0, .int .i64 0, .int .i64 0, .int .i64 0, .bool false, .int .i64 0, .int .i64 0, .int .i64 0, .int .i64 0, .int .i64 0, .int .i64 0, .int .i64 0, .int .i64 0, .bool false, .int .i64 0, .int .i64 0, .slice none 0 0, .slice none 0 0, .slice none 0 0, .slice none 0 0, .slice none 0 0, .slice none 0 0]⟩ := Eq.trans rfl rfl
theorem row40 : tab.row 40 = ⟨.slice 39, 1, 24, [.slice none 0 0]⟩ := Eq.trans rfl rfl
theorem row43 : tab.row 43 = ⟨.slice 54, 1, 24, [.slice none 0 0]⟩ := Eq.trans rfl rfl
theorem row46 : tab.row 46 = ⟨.struct [(0, 1, 3), (1, 1, 3), (2, 1, 3), (3, 1, 3), (4, 1, 3), (5, 1, 3)], 6, 48, [.int .i64 0, .int .i64 0, .int .i64 0, .int .i64 0, .int .i64 0, .int .i64 0]⟩ := Eq.trans rfl rfl
theorem row47 : tab.row 47 = ⟨.struct [(0, 1, 3), (1, 1, 3), (2, 1, 4)], 3, 24, [.int .i64 0, .int .i64 0, .bool false]⟩ := Eq.trans rfl rfl
theorem row48 : tab.row 48 = ⟨.struct [(0, 1, 3), (1, 1, 3), (2, 1, 3), (3, 1, 3), (4, 1, 3)], 5, 40, [.int .i64 0, .int .i64 0, .int .i64 0, .int .i64 0, .int .i64 0]⟩ := Eq.trans rfl rfl
theorem row49 : tab.row 49 = ⟨.struct [(0, 1, 3), (1, 1, 3)], 2, 16, [.int .i64 0, .int .i64 0]⟩ := Eq.trans rfl rfl
theorem row51 : tab.row 51 = ⟨.struct [(0, 1, 3), (1, 1, 23), (2, 1, 3), (3, 6, 46), (9, 3, 47), (12, 5, 48), (17, 2, 49)], 19, 168, [.int .i64 0, .slice none 0 0, .int .i64 0, .int .i64 0, .int .i64 0, .int .i64 0, .int .i64 0, .int .i64 0, .int .i64 0, .int .i64 0, .int .i64 0, .bool false, .int .i64 0, .int .i64 0, .int .i64 0, .int .i64 0, .int .i64 0, .int .i64 0, .int .i64 0]⟩ := Eq.trans rfl rfl
theorem row52 : tab.row 52 = ⟨.struct [(0, 1, 4), (1, 1, 3), (2, 1, 3), (3, 1, 22), (4, 1, 34), (5, 1, 22), (6, 1, 22), (7, 1, 23)], 8, 144, [.bool false, .int .i64 0, .int .i64 0, .slice none 0 0, .slice none 0 0, .slice none 0 0, .slice none 0 0, .slice none 0 0]⟩ := Eq.trans rfl rfl
theorem row54 : tab.row 54 = ⟨.struct [(0, 1, 3), (1, 1, 22), (2, 1, 22), (3, 1, 3), (4, 1, 3), (5, 19, 51), (24, 1, 3), (25, 8, 52), (33, 1, 37)], 34, 416, [.int .i64 0, .slice none 0 0, .slice none 0 0, .int .i64 0, .int .i64 0, .int .i64 0, .slice none 0 0, .int .i64 0, .int .i64 0, .int .i64 0, .int .i64 0, .int .i64 0, .int .i64 0, .int .i64 0, .int .i64 0, .int .i64 0, .bool false, .int .i64 0, .int .i64 0, .int .i64 0, .int .i64 0, .int .i64 0, .int .i64 0, .int .i64 0, .int .i64 0, .bool false, .int .i64 0, .int .i64 0, .slice none 0 0, .slice none 0 0, .slice none 0 0, .slice none 0 0, .slice none 0 0, .slice none 0 0]⟩ := Eq.trans rfl rfl
theorem row130 : tab.row 130 = ⟨.int .u64, 1, 8, [.int .u64 0]⟩ := Eq.trans rfl rfl
theorem row141 : tab.row 141 = ⟨.array 256 4, 256, 256, repV 256 (.bool false)⟩ := Eq.trans rfl rfl
attribute [go_sem] row3 row4 row5 row9 row22 row23 row25 row27 row29 row31 row33 row34 row36 row37 row39 row40 row43 row46 row47 row48 row49 row51 row52 row54 row130 row141
end Go.Proofs.W

namespace Go.Proofs.W
open Go Go.AM
set_option maxRecDepth 10000
variable (hm : Tryz.prog.follows .mixedOrders = true)
def inB (n a b : Int) : Bool := decide (a ≤ n) && decide (n ≤ b)
include hm in
theorem l1In (n a b : Int) : Holds Tryz.prog 23 [.v (.int .i64 n), .v (.int .i64 a), .v (.int .i64 b)] [] (.v (.bool (inB n a b))) [] := by
 refine holds_of (ann := []) tabOk hm Tryz.func23 (by kernel_rfl) rfl ?_
 simp +decide only [Tryz.f23, go_sem]
 refine Runs.split (fun h => ?_) (fun h => ?_)
 ·simp only [decide_eq_true_eq] at h
  have e : inB n a b = decide (n ≤ b) := by simp [inB]; omega
  simp +decide only [e, go_sem]
  exact Runs.ret_v
 ·simp only [decide_eq_false_iff_not] at h
  have e : inB n a b = false := by simp [inB]; omega
  simp +decide only [e, go_sem]
  exact Runs.ret_v
include hm in
theorem within (n a b : Int) : Holds Tryz.prog 58 [.v (.int .i64 n), .v (.int .i64 a), .v (.int .i64 b)] [] (.v (.bool (inB n a b))) [] := by
 refine holds_of (ann := []) tabOk hm Tryz.func58 (by kernel_rfl) rfl ?_
 simp +decide only [Tryz.f58, go_sem]
 refine Runs.split (fun h => ?_) (fun h => ?_)
 ·simp only [decide_eq_true_eq] at h
  have e : inB n a b = decide (n ≤ b) := by simp [inB]; omega
  simp +decide only [e, go_sem]
  exact Runs.ret_v
 ·simp only [decide_eq_false_iff_not] at h
  have e : inB n a b = false := by simp [inB]; omega
  simp +decide only [e, go_sem]
  exact Runs.ret_v
include hm in
theorem l9Ok (n : Int) : Holds Tryz.prog 69 [.v (.int .i64 n)] [] (.v (.bool (inB n (-631152000) 4102444799))) [] := by
 refine holds_of (ann := []) tabOk hm Tryz.func69 (by kernel_rfl) rfl ?_
 simp +decide only [Tryz.f69, go_sem]
 refine Runs.call (l1In hm n (-631152000) 4102444799) ?_
 simp +decide only [go_sem]
 exact Runs.ret_v
include hm in
theorem isTime (n : Int) : Holds Tryz.prog 87 [.v (.int .i64 n)] [] (.v (.bool (inB n (-631152000) 4102444799))) [] := by
 refine holds_of (ann := []) tabOk hm Tryz.func87 (by kernel_rfl) rfl ?_
 simp +decide only [Tryz.f87, go_sem]
 refine Runs.call (within hm n (-631152000) 4102444799) ?_
 simp +decide only [go_sem]
 exact Runs.ret_v
def ann26 : Ann := [(0, [1, 2, 9, 10, 11])]
def st26 (L : List Int) (lo hi : Int) (i : Nat) : St := ⟨[.any, .v (.int .i64 lo), .v (.int .i64 hi), .any, .any, .any, .any, .any, .any, .sl .sh (L.map intA), .v (.int .i64 L.length), .v (.int .i64 i), .any, .any, .any, .any, .any, .any, .any, .any, .any], [], []⟩
include hm in
theorem allWithin (L : List Int) (lo hi : Int) (h3 : L.length ≤ 9223372036854775807) :
  Holds Tryz.prog 129 [.sl .sh (L.map intA), .v (.int .i64 lo), .v (.int .i64 hi)] [] (.v (.bool (L.all fun n => inB n lo hi))) [] := by
 refine holds_of (ann := ann26) tabOk hm Tryz.func129 (by kernel_rfl) rfl ?_
 simp +decide only [Tryz.f129, go_sem]
 refine Runs.while (α := Nat) (st26 L lo hi) (fun i => L.length - i) (fun i => i ≤ L.length ∧ ((L.drop i).all fun n => inB n lo hi) = L.all fun n => inB n lo hi) 0 ⟨by omega, by simp⟩ ?_ ?_
 ·simp [go_sem, ann26, st26]
 ·rintro i ⟨hi1, hr⟩ ih
  simp +decide only [st26, go_sem]
  refine Runs.split (fun h => ?_) (fun h => ?_)
  ·have hlt : i < L.length := by simpa using h
   rw [List.drop_eq_getElem_cons hlt, List.all_cons] at hr
   simp +decide (disch := first | omega | (simp only [ll]; omega)) only [if_pos, go_sem]
   refine Runs.call (within hm L[i] lo hi) ?_
   simp +decide only [go_sem]
   refine Runs.split (fun h => ?_) (fun h => ?_)
   ·simp only [Bool.not_eq_true'] at h
    rw [h] at hr
    simp +decide only [← hr, go_sem]
    exact Runs.ret_v
   ·simp only [Bool.not_eq_false'] at h
    rw [h, Bool.true_and] at hr
    simp +decide (disch := first | omega | (simp only [ll]; omega)) only [if_pos, go_sem]
    refine ih (i + 1) _ (by omega) ⟨hlt, hr⟩ ?_
    simp [go_sem, ann26, st26]
  ·have hge : i = L.length := by simp at h; omega
   subst hge
   rw [List.drop_length, List.all_nil] at hr
   simp +decide only [← hr, go_sem]
   exact Runs.ret_v
end Go.Proofs.W

namespace Go.Proofs.W
open Go Go.AM Go.Proofs.G
set_option maxRecDepth 10000
variable (hm : Tryz.prog.follows .mixedOrders = true)
include hm in
theorem l2Left (a m : Int) (h1 : 0 < m) (h2 : m ≤ 4611686018427387904) : Holds Tryz.prog 113 [.v (.int .i64 a), .v (.int .i64 m)] [] (.v (.int .i64 (a % m))) [] := by
 refine holds_of (ann := []) tabOk hm Tryz.func113 (by kernel_rfl) rfl ?_
 have hb := tmod_bd (a := a) h1
 have he := left_eq (a := a) h1
 simp +decide (disch := first | omega | (simp only [ll]; omega)) only [Tryz.f113, he, if_pos, go_sem]
 exact Runs.ret_v
include hm in
theorem rest (a m : Int) (h1 : 0 < m) (h2 : m ≤ 4611686018427387904) : Holds Tryz.prog 155 [.v (.int .i64 a), .v (.int .i64 m)] [] (.v (.int .i64 (a % m))) [] := by
 refine holds_of (ann := []) tabOk hm Tryz.func155 (by kernel_rfl) rfl ?_
 have hb := tmod_bd (a := a) h1
 have he := left_eq (a := a) h1
 simp +decide (disch := first | omega | (simp only [ll]; omega)) only [Tryz.f155, he, if_pos, go_sem]
 exact Runs.ret_v
theorem nat_of {m : Int} (h : 0 ≤ m) : ∃ n : Nat, m = n := ⟨m.toNat, (Int.toNat_of_nonneg h).symm⟩
theorem tdiv_nat (r s : Nat) : (r : Int).tdiv s = ((r / s : Nat) : Int) := by rw [Int.tdiv_eq_ediv_of_nonneg (by omega)]; rfl
theorem tmod_nat (r s : Nat) : (r : Int).tmod s = ((r % s : Nat) : Int) := by rw [Int.tmod_eq_emod_of_nonneg (by omega)]; rfl
def liAnn : Ann := [(0, [1, 5, 6, 7, 8])]
def liSt (m : Nat) (p : Nat × Nat × Int × Int) : St := ⟨[.any, .v (.int .i64 m), .any, .any, .any, .v (.int .i64 p.1), .v (.int .i64 p.2.1), .v (.int .i64 p.2.2.1), .v (.int .i64 p.2.2.2), .any, .any, .any, .any, .any, .any, .any, .any, .any, .any, .any, .any, .any, .any, .any, .any, .any, .any, .any, .any, .any, .any, .any, .any, .any], [], []⟩
def liS : Sched := .take 0 (.take 1 (.take 2 (.take 3 (.take 4 (.take 5 .fin)))))
attribute [local go_sem] liS
include hm in
theorem l2Inv (a m : Int) (h1 : 1 ≤ m) (h2 : m ≤ 1073741824) : Holds Tryz.prog 112 [.v (.int .i64 a), .v (.int .i64 m)] [] (.v (.int .i64 (invI a m))) [] := by
 refine holds_of (ann := liAnn) tabOk hm Tryz.func112 (by kernel_rfl) rfl ?_
 obtain ⟨n, rfl⟩ := nat_of (m := m) (by omega)
 simp +decide only [Tryz.f112, go_sem]
 refine Runs.call (l2Left hm a n (by omega) (by omega)) ?_
 simp +decide only [go_sem]
 obtain ⟨s0, hs0⟩ := nat_of (Int.emod_nonneg a (show (n : Int) ≠ 0 by omega))
 refine Runs.while (α := Nat × Nat × Int × Int) (liSt n) (fun p => p.2.1) (fun p => InvS n p.1 p.2.1 p.2.2.1 p.2.2.2 ∧ invGo p.1 p.2.1 p.2.2.1 p.2.2.2 = invGo n s0 0 1 ∧ p.1 ≤ n ∧ p.2.1 ≤ n) (n, s0, 0, 1) ⟨InvS.zero (by omega), rfl, Nat.le_refl _, by have := Int.emod_lt_of_pos a (show (0 : Int) < n by omega); simp only; omega⟩ ?_ ?_
 ·simp [go_sem, liAnn, liSt, hs0]
 ·rintro ⟨r, s, x, y⟩ ⟨hi, hg, hr1, hs1⟩ ih
  simp only at hi hg hr1 hs1
  simp +decide only [liSt, go_sem]
  refine Runs.split (fun h => ?_) (fun h => ?_)
  ·have hs : s ≠ 0 := by simp at h; omega
   obtain ⟨i1, b1, b2, b3, b4⟩ := hi.next hs
   have e1 := tdiv_nat r s
   have e2 := tmod_nat r s
   have w0 : ∀ q : Nat, q ≤ r → IntKind.i64.wrap (q : Int) = q := fun q h => wrap_i64 (by omega) (by omega)
   have w1 := w0 _ (Nat.div_le_self r s)
   generalize hq : ((r / s : Nat) : Int) = q at *
   have w2 : IntKind.i64.wrap (q * y) = q * y := wrap_i64 (by omega) (by omega)
   have w3 : IntKind.i64.wrap (x - q * y) = x - q * y := wrap_i64 (by omega) (by omega)
   simp +decide (disch := first | omega | (simp only [ll]; omega)) only [e1, w1, if_pos, go_sem]
   refine Runs.draw (st1 := ?s1) (draws_by (ann := liAnn) tabOk liS (by kernel_rfl) ?p1) ?q1
   case p1 =>
    intro K r' X hK
    simp +decide (disch := first | omega | (simp only [ll]; omega)) only [e2, if_pos, go_sem]
    exact hK
   case q1 =>
    simp +decide (disch := first | omega | (simp only [ll]; omega)) only [w2, w3, if_pos, go_sem]
    refine ih (s, r % s, y, x - q * y) _ (by simp only; exact Nat.mod_lt _ (by omega)) ⟨i1, ?_, hs1, by simp only; have := Nat.mod_le r s; omega⟩ ?_
    ·rw [← hg, ← hq]
     conv => rhs; rw [invGo, dif_neg hs]
    ·simp [go_sem, liAnn, liSt]
  ·have hs : s = 0 := by simp at h; omega
   subst hs
   rw [invGo, dif_pos rfl] at hg
   simp +decide only [go_sem]
   have hv : invI a n = if r = 1 then x % n else 0 := by
    unfold invI
    rw [hs0, Int.toNat_natCast, Int.toNat_natCast, ← hg]
   refine Runs.split (fun h => ?_) (fun h => ?_)
   ·have hr : r ≠ 1 := by simp at h; omega
    simp +decide only [hv, hr, go_sem]
    exact Runs.ret_v
   ·have hr : r = 1 := by simp at h; omega
    simp +decide only [go_sem]
    refine Runs.call (l2Left hm x n (by omega) (by omega)) ?_
    simp +decide only [hv, hr, go_sem]
    exact Runs.ret_v
def iiAnn : Ann := [(0, [1, 6, 7, 8, 9])]
def iiSt (m : Nat) (p : Nat × Nat × Int × Int) : St := ⟨[.any, .v (.int .i64 m), .any, .any, .any, .any, .v (.int .i64 p.1), .v (.int .i64 p.2.1), .v (.int .i64 p.2.2.1), .v (.int .i64 p.2.2.2), .any, .any, .any, .any, .any, .any, .any, .any, .any, .any, .any, .any, .any, .any, .any, .any, .any, .any, .any, .any, .any, .any, .any, .any, .any, .any, .any, .any], [], []⟩
def iiS : Sched := .take 0 (.take 1 (.take 2 (.take 3 (.take 4 (.take 5 .fin)))))
attribute [local go_sem] iiS
include hm in
theorem invInt (a m : Int) (h1 : 2 ≤ m) (h2 : m ≤ 1073741824) : Holds Tryz.prog 154 [.v (.int .i64 a), .v (.int .i64 m)] [] (.tup [.v (.int .i64 (invI a m)), .v (.bool (invOk a m))]) [] := by
 refine holds_of (ann := iiAnn) tabOk hm Tryz.func154 (by kernel_rfl) rfl ?_
 obtain ⟨n, rfl⟩ := nat_of (m := m) (by omega)
 simp +decide only [Tryz.f154, go_sem]
 refine Runs.call (within hm n 2 1073741824) ?_
 have hw : inB n 2 1073741824 = true := by simp [inB]; omega
 simp +decide only [hw, go_sem]
 refine Runs.call (rest hm a n (by omega) (by omega)) ?_
 simp +decide only [go_sem]
 obtain ⟨s0, hs0⟩ := nat_of (Int.emod_nonneg a (show (n : Int) ≠ 0 by omega))
 refine Runs.while (α := Nat × Nat × Int × Int) (iiSt n) (fun p => p.2.1) (fun p => InvS n p.1 p.2.1 p.2.2.1 p.2.2.2 ∧ invGo p.1 p.2.1 p.2.2.1 p.2.2.2 = invGo n s0 0 1 ∧ p.1 ≤ n ∧ p.2.1 ≤ n) (n, s0, 0, 1) ⟨InvS.zero (by omega), rfl, Nat.le_refl _, by have := Int.emod_lt_of_pos a (show (0 : Int) < n by omega); simp only; omega⟩ ?_ ?_
 ·simp [go_sem, iiAnn, iiSt, hs0]
 ·rintro ⟨r, s, x, y⟩ ⟨hi, hg, hr1, hs1⟩ ih
  simp only at hi hg hr1 hs1
  simp +decide only [iiSt, go_sem]
  refine Runs.split (fun h => ?_) (fun h => ?_)
  ·have hs : s ≠ 0 := by simp at h; omega
   obtain ⟨i1, b1, b2, b3, b4⟩ := hi.next hs
   have e1 := tdiv_nat r s
   have e2 := tmod_nat r s
   have w0 : ∀ q : Nat, q ≤ r → IntKind.i64.wrap (q : Int) = q := fun q h => wrap_i64 (by omega) (by omega)
   have w1 := w0 _ (Nat.div_le_self r s)
   generalize hq : ((r / s : Nat) : Int) = q at *
   have w2 : IntKind.i64.wrap (q * y) = q * y := wrap_i64 (by omega) (by omega)
   have w3 : IntKind.i64.wrap (x - q * y) = x - q * y := wrap_i64 (by omega) (by omega)
   simp +decide (disch := first | omega | (simp only [ll]; omega)) only [e1, w1, if_pos, go_sem]
   refine Runs.draw (st1 := ?s1) (draws_by (ann := iiAnn) tabOk iiS (by kernel_rfl) ?p1) ?q1
   case p1 =>
    intro K r' X hK
    simp +decide (disch := first | omega | (simp only [ll]; omega)) only [e2, if_pos, go_sem]
    exact hK
   case q1 =>
    simp +decide (disch := first | omega | (simp only [ll]; omega)) only [w2, w3, if_pos, go_sem]
    refine ih (s, r % s, y, x - q * y) _ (by simp only; exact Nat.mod_lt _ (by omega)) ⟨i1, ?_, hs1, by simp only; have := Nat.mod_le r s; omega⟩ ?_
    ·rw [← hg, ← hq]
     conv => rhs; rw [invGo, dif_neg hs]
    ·simp [go_sem, iiAnn, iiSt]
  ·have hs : s = 0 := by simp at h; omega
   subst hs
   rw [invGo, dif_pos rfl] at hg
   simp +decide only [go_sem]
   have hv : invI a n = if r = 1 then x % n else 0 := by
    unfold invI
    rw [hs0, Int.toNat_natCast, Int.toNat_natCast, ← hg]
   have hv2 : invOk a n = (r == 1) := by
    unfold invOk
    rw [hs0, Int.toNat_natCast, Int.toNat_natCast, ← hg]
   refine Runs.split (fun h => ?_) (fun h => ?_)
   ·have hr : r ≠ 1 := by simp at h; omega
    simp +decide only [hv, hv2, hr, go_sem]
    exact Runs.ret_eq (by simp [hr])
   ·have hr : r = 1 := by simp at h; omega
    simp +decide only [go_sem]
    refine Runs.call (rest hm x n (by omega) (by omega)) ?_
    simp +decide only [hv, hv2, hr, go_sem]
    exact Runs.ret_refl
theorem prime_in (n : Int) (h : inB n 2 1099511627776 = false) : primeZ n = false := by
 unfold primeZ
 unfold inB at h
 rw [h, Bool.false_and]
def spAnn : Ann := [(0, [0, 3])]
def spSt (n d : Int) : St := ⟨[.v (.int .i64 n), .any, .any, .v (.int .i64 d), .any, .any, .any, .any, .any, .any, .any, .any, .any, .any, .any, .any, .any, .any], [], []⟩
include hm in
theorem sPrime (n : Int) : Holds Tryz.prog 111 [.v (.int .i64 n)] [] (.v (.bool (primeZ n))) [] := by
 refine holds_of (ann := spAnn) tabOk hm Tryz.func111 (by kernel_rfl) rfl ?_
 simp +decide only [Tryz.f111, go_sem]
 refine Runs.call (l1In hm n 2 1099511627776) ?_
 simp +decide only [go_sem]
 refine Runs.split (fun h => ?_) (fun h => ?_)
 ·have e := prime_in n (by simpa using h)
  simp +decide only [e, go_sem]
  exact Runs.ret_v
 ·have hn : 2 ≤ n ∧ n ≤ 1099511627776 := by simpa [inB] using h
  simp +decide only [go_sem]
  refine Runs.while (α := Int) (spSt n) (fun d => (1048578 - d).toNat) (fun d => 2 ≤ d ∧ d ≤ 1048577 ∧ ∀ e, 2 ≤ e → e < d → e * e ≤ n → n.tmod e ≠ 0) 2 ⟨by omega, by omega, fun e _ _ => by omega⟩ ?_ ?_
  ·simp [go_sem, spAnn, spSt]
  ·rintro d ⟨d1, d2, hd⟩ ih
   have b1 : d * d ≤ 1048577 * 1048577 := Int.mul_le_mul d2 d2 (by omega) (by omega)
   have b2 : 0 ≤ d * d := Int.mul_nonneg (by omega) (by omega)
   have w1 : IntKind.i64.wrap (d * d) = d * d := wrap_i64 (by omega) (by omega)
   simp +decide only [spSt, w1, go_sem]
   refine Runs.split (fun h => ?_) (fun h => ?_)
   ·have hle : d * d ≤ n := by simpa using h
    have hb := sq_bd (by omega) hle hn.2
    simp +decide (disch := first | omega | (simp only [ll]; omega)) only [if_pos, go_sem]
    refine Runs.split (fun h => ?_) (fun h => ?_)
    ·have e := prime_no d1 hle (by simpa using h)
     simp +decide only [e, go_sem]
     exact Runs.ret_v
    ·have hz : n.tmod d ≠ 0 := by simpa using h
     simp +decide (disch := first | omega | (simp only [ll]; omega)) only [if_pos, go_sem]
     refine ih (d + 1) _ (by omega) ⟨by omega, by omega, fun e e1 e2 e3 => ?_⟩ ?_
     ·rcases Int.lt_or_le e d with h | h
      ·exact hd e e1 h e3
      ·have : e = d := by omega
       subst this
       exact hz
     ·simp [go_sem, spAnn, spSt]
   ·have hgt : n < d * d := by simpa using h
    have e := prime_yes hn.1 hn.2 d1 hgt hd
    simp +decide only [e, go_sem]
    exact Runs.ret_v
def ipAnn : Ann := [(0, [0, 3])]
def ipSt (n d : Int) : St := ⟨[.v (.int .i64 n), .any, .any, .v (.int .i64 d), .any, .any, .any, .any, .any, .any, .any, .any, .any, .any, .any, .any, .any, .any], [], []⟩
include hm in
theorem iPrime (n : Int) : Holds Tryz.prog 152 [.v (.int .i64 n)] [] (.v (.bool (primeZ n))) [] := by
 refine holds_of (ann := ipAnn) tabOk hm Tryz.func152 (by kernel_rfl) rfl ?_
 simp +decide only [Tryz.f152, go_sem]
 refine Runs.call (within hm n 2 1099511627776) ?_
 simp +decide only [go_sem]
 refine Runs.split (fun h => ?_) (fun h => ?_)
 ·have e := prime_in n (by simpa using h)
  simp +decide only [e, go_sem]
  exact Runs.ret_v
 ·have hn : 2 ≤ n ∧ n ≤ 1099511627776 := by simpa [inB] using h
  simp +decide only [go_sem]
  refine Runs.while (α := Int) (ipSt n) (fun d => (1048578 - d).toNat) (fun d => 2 ≤ d ∧ d ≤ 1048577 ∧ ∀ e, 2 ≤ e → e < d → e * e ≤ n → n.tmod e ≠ 0) 2 ⟨by omega, by omega, fun e _ _ => by omega⟩ ?_ ?_
  ·simp [go_sem, ipAnn, ipSt]
  ·rintro d ⟨d1, d2, hd⟩ ih
   have b1 : d * d ≤ 1048577 * 1048577 := Int.mul_le_mul d2 d2 (by omega) (by omega)
   have b2 : 0 ≤ d * d := Int.mul_nonneg (by omega) (by omega)
   have w1 : IntKind.i64.wrap (d * d) = d * d := wrap_i64 (by omega) (by omega)
   simp +decide only [ipSt, w1, go_sem]
   refine Runs.split (fun h => ?_) (fun h => ?_)
   ·have hle : d * d ≤ n := by simpa using h
    have hb := sq_bd (by omega) hle hn.2
    simp +decide (disch := first | omega | (simp only [ll]; omega)) only [if_pos, go_sem]
    refine Runs.split (fun h => ?_) (fun h => ?_)
    ·have e := prime_no d1 hle (by simpa using h)
     simp +decide only [e, go_sem]
     exact Runs.ret_v
    ·have hz : n.tmod d ≠ 0 := by simpa using h
     simp +decide (disch := first | omega | (simp only [ll]; omega)) only [if_pos, go_sem]
     refine ih (d + 1) _ (by omega) ⟨by omega, by omega, fun e e1 e2 e3 => ?_⟩ ?_
     ·rcases Int.lt_or_le e d with h | h
      ·exact hd e e1 h e3
      ·have : e = d := by omega
       subst this
       exact hz
     ·simp [go_sem, ipAnn, ipSt]
   ·have hgt : n < d * d := by simpa using h
    have e := prime_yes hn.1 hn.2 d1 hgt hd
    simp +decide only [e, go_sem]
    exact Runs.ret_v
def lpAnn : Ann := [(0, [1, 2, 7, 8])]
def lpSt (m : Int) (p : Nat × Int × Int) : St := ⟨[.any, .v (.int .i64 p.1), .v (.int .i64 m), .any, .any, .any, .any, .v (.int .i64 p.2.1), .v (.int .i64 p.2.2), .any, .any, .any, .any, .any, .any, .any, .any, .any, .any, .any, .any, .any, .any, .any, .any, .any, .any, .any, .any, .any, .any, .any], [], []⟩
def lpS : Sched := .take 0 (.take 1 (.take 2 (.take 3 (.take 4 (.take 5 (.take 6 .fin))))))
attribute [local go_sem] lpS
include hm in
theorem l2Pow (a m : Int) (e : Nat) (h0 : 0 ≤ a) (h1 : 0 < m) (h2 : m ≤ 2147483648) (h3 : e ≤ 9223372036854775807) : Holds Tryz.prog 114 [.v (.int .i64 a), .v (.int .i64 e), .v (.int .i64 m)] [] (.v (.int .i64 (powZ a e m))) [] := by
 refine holds_of (ann := lpAnn) tabOk hm Tryz.func114 (by kernel_rfl) rfl ?_
 have e1 : (1 : Int).tmod m = 1 % m := Int.tmod_eq_emod_of_nonneg (by omega)
 have e2 : a.tmod m = a % m := Int.tmod_eq_emod_of_nonneg h0
 have hin : ∀ n : Int, 0 ≤ n % m ∧ n % m < m := fun n => ⟨Int.emod_nonneg _ (by omega), Int.emod_lt_of_pos _ h1⟩
 simp +decide only [Tryz.f114, go_sem]
 refine Runs.draw (st1 := ?s1) (draws_by (ann := lpAnn) tabOk lpS (by kernel_rfl) ?p1) ?q1
 case p1 =>
  intro K r' X hK
  simp +decide (disch := first | omega | (simp only [ll]; omega)) only [e1, e2, if_pos, go_sem]
  exact hK
 case q1 =>
  simp +decide only [go_sem]
  refine Runs.while (α := Nat × Int × Int) (lpSt m) (fun p => p.1) (fun p => p.1 ≤ e ∧ (0 ≤ p.2.1 ∧ p.2.1 < m) ∧ (0 ≤ p.2.2 ∧ p.2.2 < m) ∧ mulL (mulZ m) p.1 p.2.1 p.2.2 = powZ a e m) (e, 1 % m, a % m) ⟨Nat.le_refl _, hin _, hin _, powZ_L h1 a e⟩ ?_ ?_
  ·simp [go_sem, lpAnn, lpSt]
  ·rintro ⟨n, out, base⟩ ⟨hn, ho, hb, hg⟩ ih
   simp only at hn ho hb hg
   have b1 := mul_bd ho hb h2
   have b2 := mul_bd hb hb h2
   have w1 : IntKind.i64.wrap (out * base) = out * base := wrap_i64 (by omega) (by omega)
   have w2 : IntKind.i64.wrap (base * base) = base * base := wrap_i64 (by omega) (by omega)
   have t1 : (out * base).tmod m = mulZ m out base := Int.tmod_eq_emod_of_nonneg b1.1
   have t2 : (base * base).tmod m = mulZ m base base := Int.tmod_eq_emod_of_nonneg b2.1
   have e3 := tmod_nat n 2
   have e4 := tdiv_nat n 2
   have w3 : IntKind.i64.wrap ((n / 2 : Nat) : Int) = ((n / 2 : Nat) : Int) := wrap_i64 (by omega) (by omega)
   simp +decide only [lpSt, go_sem]
   refine Runs.split (fun h => ?_) (fun h => ?_)
   ·have hs : n ≠ 0 := by simp at h; omega
    rw [mulL_step _ _ _ _ hs] at hg
    simp +decide (disch := first | omega | (simp only [ll]; omega)) only [if_pos, go_sem]
    rw [show (2 : Int) = ((2 : Nat) : Int) from rfl, e3]
    refine Runs.split (fun h => ?_) (fun h => ?_)
    ·have hbit : n % 2 = 1 := by simp at h; omega
     rw [if_pos hbit] at hg
     simp +decide (disch := first | omega | (simp only [ll]; omega)) only [w1, w2, t1, t2, e4, w3, if_pos, go_sem]
     refine ih (n / 2, mulZ m out base, mulZ m base base) _ (by simp only; omega) ⟨by simp only; omega, hin _, hin _, hg⟩ ?_
     simp [go_sem, lpAnn, lpSt]
    ·have hbit : ¬ n % 2 = 1 := by simp at h; omega
     rw [if_neg hbit] at hg
     simp +decide (disch := first | omega | (simp only [ll]; omega)) only [w1, w2, t1, t2, e4, w3, if_pos, go_sem]
     refine ih (n / 2, out, mulZ m base base) _ (by simp only; omega) ⟨by simp only; omega, ho, hin _, hg⟩ ?_
     simp [go_sem, lpAnn, lpSt]
   ·have hs : n = 0 := by simp at h; omega
    subst hs
    rw [mulL_zero] at hg
    simp +decide only [hg, go_sem]
    exact Runs.ret_v
end Go.Proofs.W

namespace Go.Proofs.W
open Go Go.AM Go.Proofs.G
set_option maxRecDepth 10000
variable (hm : Tryz.prog.follows .mixedOrders = true)
theorem shr_nat (n k : Nat) : (n : Int).fdiv (2 ^ k) = ((n / 2 ^ k : Nat) : Int) := by
 rw [Int.fdiv_eq_ediv_of_nonneg _ (Int.le_of_lt (Int.pow_pos (by decide)))]
 have : ((2 : Int) ^ k) = ((2 ^ k : Nat) : Int) := by simp
 rw [this]
 rfl
theorem s32 : min (32 : Int).toNat 64 = 32 := by decide
theorem s16 : min (16 : Int).toNat 64 = 16 := by decide
theorem s8 : min (8 : Int).toNat 64 = 8 := by decide
def tabOk8 (L : List UInt8) : Bool := L.length == 256 && (List.range 256).all fun i => decide (i < 2 ^ (L.getD i 0).toNat) && ((L.getD i 0).toNat == 0 || decide (2 ^ ((L.getD i 0).toNat - 1) ≤ i))
theorem len_get {L : List UInt8} (h : tabOk8 L = true) {x : Nat} (hx : x < 256) : (L.getD x 0).toNat = blen x := by
 simp only [tabOk8, Bool.and_eq_true, List.all_eq_true, List.mem_range, decide_eq_true_eq, Bool.or_eq_true, beq_iff_eq] at h
 have := h.2 x hx
 exact (blen_uniq this.1 this.2).symm
theorem len_size {L : List UInt8} (h : tabOk8 L = true) : (⟨L.toArray⟩ : ByteArray).size = 256 := by
 simp only [tabOk8, Bool.and_eq_true, beq_iff_eq] at h
 show L.toArray.size = 256
 simpa using h.1
theorem len_fin {L : List UInt8} (h : tabOk8 L = true) {x n : Nat} {a : Int} (b : Nat) (hx : x < 256) (ha : a = b) (hb : b ≤ 56) (hn : blen n = b + blen x) :
  A.v (.int .i64 (IntKind.i64.wrap (a + IntKind.i64.wrap ((L.getD x 0).toNat : Nat)))) = A.v (.int .i64 (blen n : Nat)) := by
 subst ha
 have h8 : blen x ≤ 8 := blen_le (by omega)
 have w1 : IntKind.i64.wrap (blen x : Nat) = (blen x : Nat) := wrap_i64 (by omega) (by omega)
 have w2 : IntKind.i64.wrap ((b : Int) + (blen x : Nat)) = (b : Int) + (blen x : Nat) := wrap_i64 (by omega) (by omega)
 rw [len_get h hx, w1, w2, hn]
 rfl
theorem len_in {L : List UInt8} (h : tabOk8 L = true) {x : Nat} (hx : x < 256) : 0 ≤ (x : Int) ∧ (x : Int) < ((⟨L.toArray⟩ : ByteArray).size : Nat) := by
 rw [len_size h]
 omega
include hm in
theorem len64 (n : Nat) (h : n < 2 ^ 64) : Holds Tryz.prog 151 [.v (.int .u64 n)] [] (.v (.int .i64 (blen n))) [] := by
 refine holds_of (ann := []) tabOk hm Tryz.func151 (by kernel_rfl) rfl ?_
 simp +decide only [Tryz.f151, go_sem]
 refine Runs.split (fun h => ?_) (fun h => ?_)
 all_goals
  simp +decide only [s32, shr_nat, go_sem]
  refine Runs.split (fun h1 => ?_) (fun h1 => ?_)
 all_goals
  simp +decide (disch := first | omega | (simp only [ll]; omega)) only [s16, shr_nat, if_pos, go_sem]
  refine Runs.split (fun h2 => ?_) (fun h2 => ?_)
 all_goals
  simp only [decide_eq_true_eq, decide_eq_false_iff_not] at h h1 h2
  simp +decide (disch := first | omega | (simp only [ll]; omega)) only [s8, shr_nat, if_pos, go_sem]
 all_goals
  try simp only [s32, s16, s8] at *
 ·refine Runs.chk (decide_eq_true (len_in (by decide +kernel) (by omega))) (Runs.ret_eq (len_fin (by decide +kernel) 56 (by omega) ?_ (by omega) ?_))
  ·rfl
  ·rw [blen_shift 32 (by omega), blen_shift 16 (by omega), blen_shift 8 (by omega)]; omega
 ·refine Runs.chk (decide_eq_true (len_in (by decide +kernel) (by omega))) (Runs.ret_eq (len_fin (by decide +kernel) 48 (by omega) ?_ (by omega) ?_))
  ·rfl
  ·rw [blen_shift 32 (by omega), blen_shift 16 (by omega)]; omega
 ·refine Runs.chk (decide_eq_true (len_in (by decide +kernel) (by omega))) (Runs.ret_eq (len_fin (by decide +kernel) 40 (by omega) ?_ (by omega) ?_))
  ·rfl
  ·rw [blen_shift 32 (by omega), blen_shift 8 (by omega)]; omega
 ·refine Runs.chk (decide_eq_true (len_in (by decide +kernel) (by omega))) (Runs.ret_eq (len_fin (by decide +kernel) 32 (by omega) ?_ (by omega) ?_))
  ·rfl
  ·rw [blen_shift 32 (by omega)]
 ·refine Runs.chk (decide_eq_true (len_in (by decide +kernel) (by omega))) (Runs.ret_eq (len_fin (by decide +kernel) 24 (by omega) ?_ (by omega) ?_))
  ·rfl
  ·rw [blen_shift 16 (by omega), blen_shift 8 (by omega)]; omega
 ·refine Runs.chk (decide_eq_true (len_in (by decide +kernel) (by omega))) (Runs.ret_eq (len_fin (by decide +kernel) 16 (by omega) ?_ (by omega) ?_))
  ·rfl
  ·rw [blen_shift 16 (by omega)]
 ·refine Runs.chk (decide_eq_true (len_in (by decide +kernel) (by omega))) (Runs.ret_eq (len_fin (by decide +kernel) 8 (by omega) ?_ (by omega) ?_))
  ·rfl
  ·rw [blen_shift 8 (by omega)]
 ·refine Runs.chk (decide_eq_true (len_in (by decide +kernel) (by omega))) (Runs.ret_eq (len_fin (by decide +kernel) 0 (by omega) ?_ (by omega) ?_))
  ·rfl
  ·omega
include hm in
theorem bitsLen (n : Nat) (h : n < 2 ^ 64) : Holds Tryz.prog 131 [.v (.int .u64 n)] [] (.v (.int .i64 (blen n))) [] := by
 refine holds_of (ann := []) tabOk hm Tryz.func131 (by kernel_rfl) rfl ?_
 simp +decide only [Tryz.f131, go_sem]
 refine Runs.call (len64 hm n h) ?_
 simp +decide only [go_sem]
 exact Runs.ret_v
theorem andI_one (n : Nat) (h : n < 2 ^ 63) : andI .i64 n 1 = ((n % 2 : Nat) : Int) := by
 unfold andI
 have e : (BitVec.ofInt IntKind.i64.bits (n : Int) &&& BitVec.ofInt IntKind.i64.bits 1).toNat = n % 2 := by
  rw [BitVec.toNat_and]
  simp only [IntKind.bits, BitVec.toNat_ofInt]
  have e1 : ((n : Int) % (2 ^ 64 : Nat)).toNat = n := by omega
  have e2 : ((1 : Int) % (2 ^ 64 : Nat)).toNat = 1 := by decide
  rw [e1, e2, Nat.and_one_is_mod]
 rw [e]
 exact wrap_i64 (by omega) (by omega)
def piAnn : Ann := [(0, [0, 1, 2, 7, 8])]
def piSt (m a e : Int) (p : Int × Int) : St := ⟨[.v (.int .i64 a), .v (.int .i64 e), .v (.int .i64 m), .any, .any, .any, .any, .v (.int .i64 p.2), .v (.int .i64 p.1), .any, .any, .any, .any, .any, .any, .any, .any, .any, .any, .any, .any, .any, .any, .any, .any, .any, .any, .any, .any, .any, .any, .any, .any, .any, .any, .any, .any, .any], [], []⟩
include hm in
theorem powInt (a m : Int) (e : Nat) (h0 : 0 ≤ a) (h1 : 0 < m) (h2 : m ≤ 2147483648) (h3 : e ≤ 9223372036854775807) : Holds Tryz.prog 156 [.v (.int .i64 a), .v (.int .i64 e), .v (.int .i64 m)] [] (.v (.int .i64 (powZ a e m))) [] := by
 refine holds_of (ann := piAnn) tabOk hm Tryz.func156 (by kernel_rfl) rfl ?_
 have e1 : (1 : Int).tmod m = 1 % m := Int.tmod_eq_emod_of_nonneg (by omega)
 have e2 : a.tmod m = a % m := Int.tmod_eq_emod_of_nonneg h0
 have hin : ∀ n : Int, 0 ≤ n % m ∧ n % m < m := fun n => ⟨Int.emod_nonneg _ (by omega), Int.emod_lt_of_pos _ h1⟩
 have hl : blen e ≤ 63 := blen_le (by omega)
 simp +decide (disch := first | omega | (simp only [ll]; omega)) only [Tryz.f156, e1, e2, if_pos, go_sem]
 refine Runs.call (bitsLen hm e (by omega)) ?_
 simp +decide (disch := first | omega | (simp only [ll]; omega)) only [if_pos, go_sem]
 have ha := hin a
 rw [← powZ_M h1 a e]
 generalize a % m = b at ha ⊢
 refine Runs.while (α := Int × Int) (piSt m b e) (fun p => (p.1 + 1).toNat) (fun p => -1 ≤ p.1 ∧ p.1 ≤ 62 ∧ (0 ≤ p.2 ∧ p.2 < m) ∧ (p.1 = -1 ∨ 2 ^ p.1.toNat ≤ e) ∧ p.2 = mulM (mulZ m) (1 % m) (e / 2 ^ (p.1 + 1).toNat) b) ((blen e : Int) - 1, 1 % m) ⟨by simp only; omega, by simp only; omega, hin _, ?_, ?_⟩ ?_ ?_
 ·simp only
  by_cases hz : e = 0
  ·left; subst hz; rw [blen_zero]; rfl
  ·right
   have := blen_ge hz
   have hp := blen_pos hz
   have e : ((blen e : Int) - 1).toNat = blen e - 1 := by omega
   rw [e]
   exact this
 ·simp only
  have e : ((blen e : Int) - 1 + 1).toNat = blen e := by omega
  rw [e, Nat.div_eq_of_lt blen_lt, mulM_zero]
 ·simp [go_sem, piAnn, piSt]
 ·rintro ⟨i, out⟩ ⟨hi1, hi2, ho, hi3, hg⟩ ih
  simp only at hi1 hi2 ho hi3 hg
  simp +decide only [piSt, go_sem]
  refine Runs.split (fun h => ?_) (fun h => ?_)
  ·have hs : 0 ≤ i := by simpa using h
   obtain ⟨k, rfl⟩ := nat_of hs
   have hk : 2 ^ k ≤ e := by
    rcases hi3 with h | h
    ·omega
    ·simpa using h
   have ek : ((k : Int) + 1).toNat = k + 1 := by omega
   rw [ek] at hg
   have hst := mulM_step (mulZ m) (1 % m) e k b hk
   rw [← hg] at hst
   have b1 := mul_bd ho ho h2
   have w1 : IntKind.i64.wrap (out * out) = out * out := wrap_i64 (by omega) (by omega)
   have t1 : (out * out).tmod m = mulZ m out out := Int.tmod_eq_emod_of_nonneg b1.1
   have ho' : 0 ≤ mulZ m out out ∧ mulZ m out out < m := hin _
   have b2 := mul_bd ho' ha h2
   have w2 : IntKind.i64.wrap (mulZ m out out * b) = mulZ m out out * b := wrap_i64 (by omega) (by omega)
   have t2 : (mulZ m out out * b).tmod m = mulZ m (mulZ m out out) b := Int.tmod_eq_emod_of_nonneg b2.1
   have hq := Nat.div_le_self e (2 ^ k)
   have ea := andI_one (e / 2 ^ k) (by omega)
   have em : min k 64 = k := by omega
   have es := shr_nat e k
   have hpow : k = 0 ∨ 2 ^ (k - 1) ≤ e := by
    rcases Nat.eq_zero_or_pos k with h | h
    ·exact .inl h
    ·right; exact Nat.le_trans (Nat.pow_le_pow_right (by omega) (by omega)) hk
   simp +decide (disch := first | omega | (simp only [ll]; omega)) only [w1, t1, em, es, ea, if_pos, go_sem]
   refine Runs.split (fun h => ?_) (fun h => ?_)
   ·have hbit : e / 2 ^ k % 2 = 1 := by simp only [decide_eq_true_eq] at h; omega
    rw [if_pos hbit] at hst
    simp +decide (disch := first | omega | (simp only [ll]; omega)) only [w2, t2, if_pos, go_sem]
    refine ih ((k : Int) - 1, mulZ m (mulZ m out out) b) _ (by simp only; omega) ⟨by simp only; omega, by simp only; omega, hin _, ?_, ?_⟩ ?_
    ·simp only
     rcases hpow with h | h
     ·left; omega
     ·right
      have e : ((k : Int) - 1).toNat = k - 1 := by omega
      rw [e]; exact h
    ·simp only
     have e : ((k : Int) - 1 + 1).toNat = k := by omega
     rw [e, hst]
    ·simp [go_sem, piAnn, piSt]
   ·have hbit : ¬ e / 2 ^ k % 2 = 1 := by simp only [decide_eq_false_iff_not] at h; omega
    rw [if_neg hbit] at hst
    simp +decide (disch := first | omega | (simp only [ll]; omega)) only [if_pos, go_sem]
    refine ih ((k : Int) - 1, mulZ m out out) _ (by simp only; omega) ⟨by simp only; omega, by simp only; omega, hin _, ?_, ?_⟩ ?_
    ·simp only
     rcases hpow with h | h
     ·left; omega
     ·right
      have e : ((k : Int) - 1).toNat = k - 1 := by omega
      rw [e]; exact h
    ·simp only
     have e : ((k : Int) - 1 + 1).toNat = k := by omega
     rw [e, hst]
    ·simp [go_sem, piAnn, piSt]
  ·have hs : i = -1 := by simp at h; omega
   subst hs
   simp at hg
   simp +decide only [hg, go_sem]
   exact Runs.ret_v
end Go.Proofs.W

namespace Go.Proofs.W
open Go Go.AM Go.Proofs.G
set_option maxRecDepth 10000
variable (hm : Tryz.prog.follows .mixedOrders = true)
structure GCv where
 p : Int
 a : Int
 b : Int
 n : Int
 gx : Int
 gy : Int
def cvA (k : GCv) : A := .agg [.v (.int .i64 k.p), .v (.int .i64 k.a), .v (.int .i64 k.b), .v (.int .i64 k.n), .v (.int .i64 k.gx), .v (.int .i64 k.gy)]
def ptA (P : GPt) : A := .agg [.v (.int .i64 P.x), .v (.int .i64 P.y), .v (.bool P.far)]
def CvIn (k : GCv) : Prop := 5 ≤ k.p ∧ k.p ≤ 1048576 ∧ (0 ≤ k.a ∧ k.a < k.p) ∧ (0 ≤ k.b ∧ k.b < k.p)
def PtIn (p : Int) (P : GPt) : Prop := (0 ≤ P.x ∧ P.x < p) ∧ (0 ≤ P.y ∧ P.y < p)
theorem mul_in {a b m : Int} (h1 : 0 ≤ a ∧ a < m) (h2 : 0 ≤ b ∧ b < m) (hm : m ≤ 2097152) : 0 ≤ a * b ∧ a * b ≤ 4398046511104 := by
 have : a * b ≤ 2097152 * 2097152 := Int.mul_le_mul (by omega) (by omega) h2.1 (by omega)
 exact ⟨Int.mul_nonneg h1.1 h2.1, by omega⟩
theorem mod_in' {m : Int} (h : 0 < m) (n : Int) : 0 ≤ n % m ∧ n % m < m := ⟨Int.emod_nonneg _ (by omega), Int.emod_lt_of_pos _ h⟩
attribute [local go_sem] cvA ptA
def soS : Sched := .take 0 (.take 2 (.take 5 (.take 8 (.take 10 (.take 13 (.take 16 (.take 19 (.take 22 (.take 25 (.ld 1 (.ld 3 (.take 4 (.ld 6 (.take 7 (.ld 9 (.ld 11 (.take 12 (.ld 14 (.take 15 (.ld 17 (.take 18 (.ld 20 (.take 21 (.ld 23 (.take 24 (.ld 26 (.take 27 (.take 28 (.take 29 .fin)))))))))))))))))))))))))))))
attribute [local go_sem] soS
include hm in
theorem l3On (k : GCv) (P : GPt) (hk : CvIn k) : Holds Tryz.prog 92 [cvA k, ptA P] [] (.v (.bool (onZ k.p k.a k.b P))) [] := by
 refine holds_ref (ann := []) tabOk hm (byL [] [1000002, 1000003]) Tryz.func92 (by kernel_rfl) rfl ?_
 obtain ⟨p, a, b, n, gx, gy⟩ := k
 obtain ⟨x, y, far⟩ := P
 obtain ⟨h1, h2, h3, h4⟩ := hk
 simp only at h1 h2 h3 h4
 simp +decide only [Tryz.f92, go_sem]
 refine Runs.split (fun h => ?_) (fun h => ?_)
 ·subst h
  simp +decide only [go_sem]
  refine Runs.split (fun h => ?_) (fun h => ?_)
  ·have hx : x = 0 := by simpa using h
   subst hx
   simp +decide only [go_sem]
   exact Runs.ret_eq (by simp [onZ])
  ·have hx : x ≠ 0 := by simpa using h
   simp +decide only [go_sem]
   exact Runs.ret_eq (by simp [onZ, hx])
 ·subst h
  simp +decide (disch := first | omega | (simp only [ll]; omega)) only [if_pos, go_sem]
  refine Runs.call (l1In hm x 0 (p - 1)) ?_
  simp +decide only [go_sem]
  refine Runs.split (fun h => ?_) (fun h => ?_)
  ·have e : onZ p a b ⟨x, y, false⟩ = false := by simp [inB] at h; simp [onZ]; omega
   simp +decide only [e, go_sem]
   exact Runs.ret_v
  ·have hx : 0 ≤ x ∧ x < p := by simp [inB] at h; omega
   simp +decide (disch := first | omega | (simp only [ll]; omega)) only [if_pos, go_sem]
   refine Runs.call (l1In hm y 0 (p - 1)) ?_
   simp +decide only [go_sem]
   refine Runs.split (fun h => ?_) (fun h => ?_)
   ·have e : onZ p a b ⟨x, y, false⟩ = false := by simp [inB] at h; simp [onZ]; omega
    simp +decide only [e, go_sem]
    exact Runs.ret_v
   ·have hy : 0 ≤ y ∧ y < p := by simp [inB] at h; omega
    have b1 := mul_in hy hy (by omega)
    have b2 := mul_in hx hx (by omega)
    have w1 : IntKind.i64.wrap (y * y) = y * y := wrap_i64 (by omega) (by omega)
    have w2 : IntKind.i64.wrap (x * x) = x * x := wrap_i64 (by omega) (by omega)
    have t1 : (y * y).tmod p = y * y % p := Int.tmod_eq_emod_of_nonneg b1.1
    have t2 : (x * x).tmod p = x * x % p := Int.tmod_eq_emod_of_nonneg b2.1
    have m1 := mod_in' (show 0 < p by omega) (x * x)
    have w3 : IntKind.i64.wrap (x * x % p + a) = x * x % p + a := wrap_i64 (by omega) (by omega)
    have b3 := mul_in (m := 2097152) (show 0 ≤ x * x % p + a ∧ x * x % p + a < 2097152 by omega) (show 0 ≤ x ∧ x < 2097152 by omega) (by omega)
    have w4 : IntKind.i64.wrap ((x * x % p + a) * x) = (x * x % p + a) * x := wrap_i64 (by omega) (by omega)
    have w5 : IntKind.i64.wrap ((x * x % p + a) * x + b) = (x * x % p + a) * x + b := wrap_i64 (by omega) (by omega)
    have t3 : ((x * x % p + a) * x + b).tmod p = ((x * x % p + a) * x + b) % p := Int.tmod_eq_emod_of_nonneg (by omega)
    simp +decide only [go_sem]
    refine Runs.draw (st1 := ?s1) (draws_ref (ann := []) tabOk (byL [] [1000002, 1000003]) soS (by kernel_rfl) ?p1) ?q1
    case p1 =>
     intro K r X hK
     simp +decide (maxSteps := 9^7) (disch := first | omega | (simp only [ll]; omega)) only [w1, w2, w3, w4, w5, t1, t2, t3, if_pos, go_sem]
     exact hK
    case q1 =>
     simp +decide only [go_sem]
     exact Runs.ret_eq (by simp [onZ, hx, hy]; omega)
def ipS : Sched := .take 0 (.take 2 (.ld 1 (.ld 3 (.take 4 (.alt 5 (.take 6 (.take 7 (.take 9 (.ld 8 (.ld 10 (.take 11 (.alt 12 (.take 13 (.take 14 (.take 15 (.take 17 (.take 20 (.take 23 (.take 25 (.take 28 (.take 31 (.take 34 (.take 37 (.take 40 (.ld 16 (.ld 18 (.take 19 (.ld 21 (.take 22 (.ld 24 (.ld 26 (.take 27 (.ld 29 (.take 30 (.ld 32 (.take 33 (.ld 35 (.take 36 (.ld 38 (.take 39 (.ld 41 (.take 42 (.take 43 (.take 44 (.take 45 .fin))))))))))))))))))))))))))))))))) .nil))))))) .nil)))))
attribute [local go_sem] ipS
include hm in
theorem isPoint (k : GCv) (P : GPt) (hk : CvIn k) : Holds Tryz.prog 133 [cvA k, ptA P] [] (.v (.bool (onZ k.p k.a k.b P))) [] := by
 refine holds_ref (ann := []) tabOk hm (byL [] [1000002, 1000003]) Tryz.func133 (by kernel_rfl) rfl ?_
 obtain ⟨p, a, b, n, gx, gy⟩ := k
 obtain ⟨x, y, far⟩ := P
 obtain ⟨h1, h2, h3, h4⟩ := hk
 simp only at h1 h2 h3 h4
 simp +decide only [Tryz.f133, go_sem]
 refine Runs.split (fun h => ?_) (fun h => ?_)
 ·subst h
  simp +decide only [go_sem]
  refine Runs.split (fun h => ?_) (fun h => ?_)
  ·have hx : x = 0 := by simpa using h
   subst hx
   simp +decide only [go_sem]
   exact Runs.ret_eq (by simp [onZ])
  ·have hx : x ≠ 0 := by simpa using h
   simp +decide only [go_sem]
   exact Runs.ret_eq (by simp [onZ, hx])
 ·subst h
  have c1 := within hm x 0 (p - 1)
  have c2 := within hm y 0 (p - 1)
  simp +decide only [go_sem]
  cases e1 : inB x 0 (p - 1) with
  | false =>
   rw [e1] at c1
   have e : onZ p a b ⟨x, y, false⟩ = false := by simp [inB] at e1; simp [onZ]; omega
   refine Runs.draw (st1 := ?s1) (draws_ref (ann := []) tabOk (byL [] [1000002, 1000003]) ipS (by kernel_rfl) ?p1) ?q1
   case p1 =>
    intro K r X hK
    simp +decide (maxSteps := 9^7) (disch := first | omega | (simp only [ll]; omega)) only [if_pos, go_sem]
    refine Runs.call c1 ?_
    simp +decide (maxSteps := 9^7) (disch := first | omega | (simp only [ll]; omega)) only [if_pos, go_sem]
    exact hK
   case q1 =>
    simp +decide only [go_sem]
    exact Runs.ret_eq (by rw [e])
  | true =>
   have hx : 0 ≤ x ∧ x < p := by simp [inB] at e1; omega
   rw [e1] at c1
   cases e2 : inB y 0 (p - 1) with
   | false =>
    rw [e2] at c2
    have e : onZ p a b ⟨x, y, false⟩ = false := by simp [inB] at e2; simp [onZ]; omega
    refine Runs.draw (st1 := ?s2) (draws_ref (ann := []) tabOk (byL [] [1000002, 1000003]) ipS (by kernel_rfl) ?p2) ?q2
    case p2 =>
     intro K r X hK
     simp +decide (maxSteps := 9^7) (disch := first | omega | (simp only [ll]; omega)) only [if_pos, go_sem]
     refine Runs.call c1 ?_
     simp +decide (maxSteps := 9^7) (disch := first | omega | (simp only [ll]; omega)) only [if_pos, go_sem]
     refine Runs.call c2 ?_
     simp +decide (maxSteps := 9^7) (disch := first | omega | (simp only [ll]; omega)) only [if_pos, go_sem]
     exact hK
    case q2 =>
     simp +decide only [go_sem]
     exact Runs.ret_eq (by rw [e])
   | true =>
    rw [e2] at c2
    have hy : 0 ≤ y ∧ y < p := by simp [inB] at e2; omega
    have b1 := mul_in hy hy (by omega)
    have b2 := mul_in hx hx (by omega)
    have w1 : IntKind.i64.wrap (y * y) = y * y := wrap_i64 (by omega) (by omega)
    have w2 : IntKind.i64.wrap (x * x) = x * x := wrap_i64 (by omega) (by omega)
    have t1 : (y * y).tmod p = y * y % p := Int.tmod_eq_emod_of_nonneg b1.1
    have w3 : IntKind.i64.wrap (x * x + a) = x * x + a := wrap_i64 (by omega) (by omega)
    have t2 : (x * x + a).tmod p = (x * x + a) % p := Int.tmod_eq_emod_of_nonneg (by omega)
    have m1 := mod_in' (show 0 < p by omega) (x * x + a)
    have b3 := mul_in (m := 2097152) (show 0 ≤ (x * x + a) % p ∧ (x * x + a) % p < 2097152 by omega) (show 0 ≤ x ∧ x < 2097152 by omega) (by omega)
    have w4 : IntKind.i64.wrap ((x * x + a) % p * x) = (x * x + a) % p * x := wrap_i64 (by omega) (by omega)
    have w5 : IntKind.i64.wrap ((x * x + a) % p * x + b) = (x * x + a) % p * x + b := wrap_i64 (by omega) (by omega)
    have t3 : ((x * x + a) % p * x + b).tmod p = ((x * x + a) % p * x + b) % p := Int.tmod_eq_emod_of_nonneg (by omega)
    refine Runs.draw (st1 := ?s3) (draws_ref (ann := []) tabOk (byL [] [1000002, 1000003]) ipS (by kernel_rfl) ?p3) ?q3
    case p3 =>
     intro K r X hK
     simp +decide (maxSteps := 9^7) (disch := first | omega | (simp only [ll]; omega)) only [if_pos, go_sem]
     refine Runs.call c1 ?_
     simp +decide (maxSteps := 9^7) (disch := first | omega | (simp only [ll]; omega)) only [if_pos, go_sem]
     refine Runs.call c2 ?_
     simp +decide (maxSteps := 9^7) (disch := first | omega | (simp only [ll]; omega)) only [w1, w2, w3, w4, w5, t1, t2, t3, if_pos, go_sem]
     exact hK
    case q3 =>
     simp +decide only [go_sem]
     have e3 := mod_on x a b p
     exact Runs.ret_eq (by rw [e3]; simp [onZ, hx, hy]; omega)
include hm in
theorem baseP (k : GCv) : Holds Tryz.prog 153 [cvA k] [] (ptA ⟨k.gx, k.gy, false⟩) [] := by
 refine holds_ref (ann := []) tabOk hm (byL [] [1000001]) Tryz.func153 (by kernel_rfl) rfl ?_
 simp +decide only [Tryz.f153, go_sem]
 exact Runs.ret_refl
end Go.Proofs.W

namespace Go.Proofs.W
open Go Go.AM Go.Proofs.G
variable (hm : Tryz.prog.follows .mixedOrders = true)
attribute [local go_sem] cvA ptA
def sumEnd (p : Int) (a b : GPt) (s : Int) : GPt := ⟨(s * s - a.x - b.x) % p, (s * (a.x - (s * s - a.x - b.x) % p) - a.y) % p, false⟩
theorem sumEnd_in {p : Int} (h : 0 < p) (a b : GPt) (s : Int) : PtIn p (sumEnd p a b s) := ⟨mod_in' h _, mod_in' h _⟩
theorem addZ_in {p A : Int} (h : 0 < p) {a b : GPt} (ha : PtIn p a) (hb : PtIn p b) : PtIn p (addZ p A a b) := by
 unfold addZ
 split
 ·exact hb
 ·split
  ·exact ha
  ·split
   ·exact ⟨⟨by show (0 : Int) ≤ 0; omega, by show (0 : Int) < p; omega⟩, ⟨by show (0 : Int) ≤ 0; omega, by show (0 : Int) < p; omega⟩⟩
   ·exact sumEnd_in h a b _
theorem sumZ_in {p A : Int} (h : 0 < p) {a b : GPt} (ha : PtIn p a) (hb : PtIn p b) : PtIn p (sumZ p A a b) := by
 unfold sumZ
 split
 ·exact hb
 ·split
  ·exact ha
  ·split
   ·exact ⟨⟨by show (0 : Int) ≤ 0; omega, by show (0 : Int) < p; omega⟩, ⟨by show (0 : Int) ≤ 0; omega, by show (0 : Int) < p; omega⟩⟩
   ·exact sumEnd_in h a b _
theorem mul_sg {a b m : Int} (h1 : 0 ≤ a ∧ a < m) (h2 : -m < b ∧ b < m) (hm : m ≤ 2097152) : -4398046511104 ≤ a * b ∧ a * b ≤ 4398046511104 := by
 rcases Int.le_total 0 b with h | h
 ·have := mul_in h1 (show 0 ≤ b ∧ b < m by omega) hm
  omega
 ·have := mul_in h1 (show 0 ≤ -b ∧ -b < m by omega) hm
  have e : a * -b = -(a * b) := by grind
  omega
theorem farPt : ptA farP = .agg [.v (.int .i64 0), .v (.int .i64 0), .v (.bool true)] := rfl
def laA : Sched := .take 0 (.take 3 (.take 6 (.take 9 (.take 12 (.take 15 (.take 18 (.take 22 (.ld 1 (.take 2 (.ld 4 (.take 5 (.ld 7 (.take 8 (.ld 10 (.take 11 (.ld 13 (.take 14 (.ld 16 (.take 17 (.ld 19 (.ld 23 (.alt 20 (.take 21 (.take 24 (.take 25 .fin))) .nil))))))))))))))))))))))
def laB : Sched := .take 0 (.take 2 (.take 5 (.take 8 (.take 10 (.take 13 (.take 17 (.ld 1 (.ld 3 (.take 4 (.ld 6 (.ld 9 (.ld 11 (.take 12 (.ld 14 (.ld 18 (.alt 7 (.alt 15 (.take 16 (.take 19 (.take 20 .fin))) .nil) .nil))))))))))))))))
attribute [local go_sem] laA laB
set_option maxRecDepth 10000 in
set_option maxHeartbeats 4000000 in
include hm in
theorem l3Add (k : GCv) (P Q : GPt) (hk : CvIn k) (hP : PtIn k.p P) (hQ : PtIn k.p Q) : Holds Tryz.prog 93 [cvA k, ptA P, ptA Q] [] (ptA (addZ k.p k.a P Q)) [] := by
 refine holds_ref (ann := []) tabOk hm (byL [] [1000003, 1000004, 1000005]) Tryz.func93 (by kernel_rfl) rfl ?_
 obtain ⟨p, a, b, n, gx, gy⟩ := k
 obtain ⟨x, y, far⟩ := P
 obtain ⟨u, v, far'⟩ := Q
 obtain ⟨h1, h2, h3, h4⟩ := hk
 obtain ⟨hx, hy⟩ := hP
 obtain ⟨hu, hv⟩ := hQ
 simp only at h1 h2 h3 h4 hx hy hu hv
 simp +decide only [Tryz.f93, go_sem]
 refine Runs.split (fun h => ?_) (fun h => ?_)
 ·subst h
  simp +decide only [go_sem]
  exact Runs.ret_eq (by simp [addZ, ptA])
 ·subst h
  simp +decide only [go_sem]
  refine Runs.split (fun h => ?_) (fun h => ?_)
  ·subst h
   simp +decide only [go_sem]
   exact Runs.ret_eq (by simp [addZ, ptA])
  ·subst h
   by_cases e : x = u
   ·subst e
    simp +decide (disch := first | omega | (simp only [ll]; omega)) only [Int.tmod_eq_emod_of_nonneg, if_pos, go_sem]
    refine Runs.split (fun h => ?_) (fun h => ?_)
    ·have h' : (y + v) % p = 0 := by simpa using h
     simp +decide only [go_sem]
     exact Runs.ret_eq (by simp [addZ, ptA, farP, h'])
    ·have h' : (y + v) % p ≠ 0 := by simpa using h
     have m1 := mod_in' (show 0 < p by omega) (3 * x)
     have b1 := mul_in m1 hx (by omega)
     have m2 := mod_in' (show 0 < p by omega) (3 * x % p * x + a)
     have m3 := invI_range (a := 2 * y) (m := p) (by omega)
     have b2 := mul_in m2 m3 (by omega)
     simp +decide only [go_sem]
     refine Runs.draw (st1 := ?s1) (draws_ref (ann := []) tabOk (byL [] [1000003, 1000004, 1000005]) laA (by kernel_rfl) ?p1) ?q1
     case p1 =>
      intro K r X hK
      simp +decide (maxSteps := 9^7) (disch := first | omega | (simp only [ll]; omega)) only [Int.tmod_eq_emod_of_nonneg, if_pos, go_sem]
      refine Runs.call (l2Inv hm (2 * y) p (by omega) (by omega)) ?_
      simp +decide (maxSteps := 9^7) (disch := first | omega | (simp only [ll]; omega)) only [Int.tmod_eq_emod_of_nonneg, if_pos, go_sem]
      exact hK
     case q1 =>
      have ev : addZ p a ⟨x, y, false⟩ ⟨x, v, false⟩ = sumEnd p ⟨x, y, false⟩ ⟨x, v, false⟩ ((3 * x % p * x + a) % p * invI (2 * y) p % p) := by simp [addZ, h', sumEnd]
      rw [ev]
      simp only [sumEnd]
      have m0 := mod_in' (show 0 < p by omega) ((3 * x % p * x + a) % p * invI (2 * y) p)
      generalize ((3 * x % p * x + a) % p * invI (2 * y) p) % p = s at *
      have q1 := mul_in m0 m0 (by omega)
      have m2 := mod_in' (show 0 < p by omega) (s * s - x - x)
      have q2 := mul_sg (b := x - (s * s - x - x) % p) m0 (by omega) (by omega)
      simp +decide (maxSteps := 9^7) (disch := first | omega | (simp only [ll]; omega)) only [if_pos, go_sem]
      refine Runs.call (l2Left hm (s * s - x - x) p (by omega) (by omega)) ?_
      generalize hX : (s * s - x - x) % p = X at *
      simp +decide (maxSteps := 9^7) (disch := first | omega | (simp only [ll]; omega)) only [if_pos, go_sem]
      refine Runs.call (l2Left hm (s * (x - X) - y) p (by omega) (by omega)) ?_
      simp +decide (maxSteps := 9^7) (disch := first | omega | (simp only [ll]; omega)) only [if_pos, go_sem]
      exact Runs.ret_eq (by simp [ptA, hX])
   ·simp +decide (disch := first | omega | (simp only [ll]; omega)) only [e, if_pos, go_sem]
    have m1 := mod_in' (show 0 < p by omega) (v - y)
    have m3 := invI_range (a := u - x) (m := p) (by omega)
    have b2 := mul_in m1 m3 (by omega)
    refine Runs.draw (st1 := ?s2) (draws_ref (ann := []) tabOk (byL [] [1000003, 1000004, 1000005]) laB (by kernel_rfl) ?p2) ?q2
    case p2 =>
     intro K r X hK
     simp +decide (maxSteps := 9^7) (disch := first | omega | (simp only [ll]; omega)) only [Int.tmod_eq_emod_of_nonneg, if_pos, go_sem]
     refine Runs.call (l2Left hm (v - y) p (by omega) (by omega)) ?_
     simp +decide (maxSteps := 9^7) (disch := first | omega | (simp only [ll]; omega)) only [Int.tmod_eq_emod_of_nonneg, if_pos, go_sem]
     refine Runs.call (l2Inv hm (u - x) p (by omega) (by omega)) ?_
     simp +decide (maxSteps := 9^7) (disch := first | omega | (simp only [ll]; omega)) only [Int.tmod_eq_emod_of_nonneg, if_pos, go_sem]
     exact hK
    case q2 =>
     have ev : addZ p a ⟨x, y, false⟩ ⟨u, v, false⟩ = sumEnd p ⟨x, y, false⟩ ⟨u, v, false⟩ ((v - y) % p * invI (u - x) p % p) := by simp [addZ, e, sumEnd]
     rw [ev]
     simp only [sumEnd]
     have m0 := mod_in' (show 0 < p by omega) ((v - y) % p * invI (u - x) p)
     generalize ((v - y) % p * invI (u - x) p) % p = s at *
     have q1 := mul_in m0 m0 (by omega)
     have m2 := mod_in' (show 0 < p by omega) (s * s - x - u)
     have q2 := mul_sg (b := x - (s * s - x - u) % p) m0 (by omega) (by omega)
     simp +decide (maxSteps := 9^7) (disch := first | omega | (simp only [ll]; omega)) only [if_pos, go_sem]
     refine Runs.call (l2Left hm (s * s - x - u) p (by omega) (by omega)) ?_
     generalize hX : (s * s - x - u) % p = X at *
     simp +decide (maxSteps := 9^7) (disch := first | omega | (simp only [ll]; omega)) only [if_pos, go_sem]
     refine Runs.call (l2Left hm (s * (x - X) - y) p (by omega) (by omega)) ?_
     simp +decide (maxSteps := 9^7) (disch := first | omega | (simp only [ll]; omega)) only [if_pos, go_sem]
     exact Runs.ret_eq (by simp [ptA, hX])
def suA : Sched := .take 0 (.take 2 (.take 5 (.take 7 (.ld 1 (.ld 3 (.take 4 (.take 10 (.ld 6 (.ld 8 (.take 9 (.take 11 .fin)))))))))))
def suB : Sched := .take 0 (.take 3 (.take 6 (.take 9 (.ld 1 (.take 2 (.ld 4 (.take 5 (.ld 7 (.take 8 (.take 12 (.ld 10 (.take 11 (.take 13 .fin)))))))))))))
def suC : Sched := .take 0 (.take 1 (.take 4 (.take 6 (.ld 2 (.ld 7 (.alt 3 (.take 5 (.take 8 (.take 9 .fin))) .nil))))))
attribute [local go_sem] suA suB suC
set_option maxRecDepth 10000 in
set_option maxHeartbeats 4000000 in
include hm in
theorem sumC (k : GCv) (P Q : GPt) (hk : CvIn k) (hP : PtIn k.p P) (hQ : PtIn k.p Q) : Holds Tryz.prog 134 [cvA k, ptA P, ptA Q] [] (ptA (sumZ k.p k.a P Q)) [] := by
 refine holds_ref (ann := []) tabOk hm (byL [] [1000003, 1000004, 1000005]) Tryz.func134 (by kernel_rfl) rfl ?_
 obtain ⟨p, a, b, n, gx, gy⟩ := k
 obtain ⟨x, y, far⟩ := P
 obtain ⟨u, v, far'⟩ := Q
 obtain ⟨h1, h2, h3, h4⟩ := hk
 obtain ⟨hx, hy⟩ := hP
 obtain ⟨hu, hv⟩ := hQ
 simp only at h1 h2 h3 h4 hx hy hu hv
 simp +decide only [Tryz.f134, go_sem]
 refine Runs.split (fun h => ?_) (fun h => ?_)
 ·subst h
  simp +decide only [go_sem]
  exact Runs.ret_eq (by simp [sumZ, ptA])
 ·subst h
  simp +decide only [go_sem]
  refine Runs.split (fun h => ?_) (fun h => ?_)
  ·subst h
   simp +decide only [go_sem]
   exact Runs.ret_eq (by simp [sumZ, ptA])
  ·subst h
   by_cases e : x = u
   ·subst e
    simp +decide (disch := first | omega | (simp only [ll]; omega)) only [Int.tmod_eq_emod_of_nonneg, if_pos, go_sem]
    refine Runs.split (fun h => ?_) (fun h => ?_)
    ·have h' : (y + v) % p = 0 := by simpa using h
     simp +decide only [go_sem]
     exact Runs.ret_eq (by simp [sumZ, ptA, farP, h'])
    ·have h' : (y + v) % p ≠ 0 := by simpa using h
     simp +decide only [go_sem]
     refine Runs.draw (st1 := ?s1) (draws_ref (ann := []) tabOk (byL [] [1000003, 1000004, 1000005]) suA (by kernel_rfl) ?p1) ?q1
     case p1 =>
      intro K r X hK
      simp +decide (maxSteps := 9^7) (disch := first | omega | (simp only [ll]; omega)) only [if_pos, go_sem]
      exact hK
     case q1 =>
      by_cases e2 : y = v
      ·subst e2
       have b0 := mul_in hx hx (by omega)
       have b1 : 3 * x * x = 3 * (x * x) := Int.mul_assoc 3 x x
       simp +decide (maxSteps := 9^7) (disch := first | omega | (simp only [ll]; omega)) only [if_pos, go_sem]
       refine Runs.draw (st1 := ?s2) (draws_ref (ann := []) tabOk (byL [] [1000003, 1000004, 1000005]) suB (by kernel_rfl) ?p2) ?q2
       case p2 =>
        intro K r X hK
        simp +decide (maxSteps := 9^7) (disch := first | omega | (simp only [ll]; omega)) only [if_pos, go_sem]
        exact hK
       case q2 =>
        simp +decide (maxSteps := 9^7) (disch := first | omega | (simp only [ll]; omega)) only [Int.tmod_eq_emod_of_nonneg, if_pos, go_sem]
        have m1 := mod_in' (show 0 < p by omega) (3 * x * x + a)
        have m3 := invI_range (a := 2 * y) (m := p) (by omega)
        have b2 := mul_in m1 m3 (by omega)
        refine Runs.call (invInt hm (2 * y) p (by omega) (by omega)) ?_
        simp +decide (maxSteps := 9^7) (disch := first | omega | (simp only [ll]; omega)) only [if_pos, go_sem]
        refine Runs.draw (st1 := ?t1s) (draws_ref (ann := []) tabOk (byL [] [1000003, 1000004, 1000005]) suC (by kernel_rfl) ?t1p) ?t1q
        case t1p =>
         intro K r X hK
         simp +decide (maxSteps := 9^7) (disch := first | omega | (simp only [ll]; omega)) only [Int.tmod_eq_emod_of_nonneg, if_pos, go_sem]
         refine Runs.call (rest hm (3 * x * x + a) p (by omega) (by omega)) ?_
         simp +decide (maxSteps := 9^7) (disch := first | omega | (simp only [ll]; omega)) only [Int.tmod_eq_emod_of_nonneg, if_pos, go_sem]
         exact hK
        case t1q =>
         have ev : sumZ p a ⟨x, y, false⟩ ⟨x, y, false⟩ = sumEnd p ⟨x, y, false⟩ ⟨x, y, false⟩ ((3 * x * x + a) % p * invI (2 * y) p % p) := by simp [sumZ, h', sumEnd]
         rw [ev]
         simp only [sumEnd]
         have m0 := mod_in' (show 0 < p by omega) ((3 * x * x + a) % p * invI (2 * y) p)
         generalize (3 * x * x + a) % p * invI (2 * y) p % p = s at *
         have q1 := mul_in m0 m0 (by omega)
         have m2 := mod_in' (show 0 < p by omega) (s * s - x - x)
         have q2 := mul_sg (b := x - (s * s - x - x) % p) m0 (by omega) (by omega)
         simp +decide (maxSteps := 9^7) (disch := first | omega | (simp only [ll]; omega)) only [if_pos, go_sem]
         refine Runs.call (rest hm (s * s - x - x) p (by omega) (by omega)) ?_
         generalize hX : (s * s - x - x) % p = X at *
         simp +decide (maxSteps := 9^7) (disch := first | omega | (simp only [ll]; omega)) only [if_pos, go_sem]
         refine Runs.call (rest hm (s * (x - X) - y) p (by omega) (by omega)) ?_
         simp +decide (maxSteps := 9^7) (disch := first | omega | (simp only [ll]; omega)) only [if_pos, go_sem]
         exact Runs.ret_eq (by simp [ptA, hX])
      ·simp +decide (maxSteps := 9^7) (disch := first | omega | (simp only [ll]; omega)) only [e2, Int.tmod_eq_emod_of_nonneg, if_pos, go_sem]
       have m1 := mod_in' (show 0 < p by omega) (v - y)
       have m3 := invI_range (a := x - x) (m := p) (by omega)
       have b2 := mul_in m1 m3 (by omega)
       refine Runs.call (invInt hm (x - x) p (by omega) (by omega)) ?_
       simp +decide (maxSteps := 9^7) (disch := first | omega | (simp only [ll]; omega)) only [if_pos, go_sem]
       refine Runs.draw (st1 := ?t2s) (draws_ref (ann := []) tabOk (byL [] [1000003, 1000004, 1000005]) suC (by kernel_rfl) ?t2p) ?t2q
       case t2p =>
        intro K r X hK
        simp +decide (maxSteps := 9^7) (disch := first | omega | (simp only [ll]; omega)) only [Int.tmod_eq_emod_of_nonneg, if_pos, go_sem]
        refine Runs.call (rest hm (v - y) p (by omega) (by omega)) ?_
        simp +decide (maxSteps := 9^7) (disch := first | omega | (simp only [ll]; omega)) only [Int.tmod_eq_emod_of_nonneg, if_pos, go_sem]
        exact hK
       case t2q =>
        have ev : sumZ p a ⟨x, y, false⟩ ⟨x, v, false⟩ = sumEnd p ⟨x, y, false⟩ ⟨x, v, false⟩ ((v - y) % p * invI (x - x) p % p) := by simp [sumZ, h', sumEnd, e2]
        rw [ev]
        simp only [sumEnd]
        have m0 := mod_in' (show 0 < p by omega) ((v - y) % p * invI (x - x) p)
        generalize (v - y) % p * invI (x - x) p % p = s at *
        have q1 := mul_in m0 m0 (by omega)
        have m2 := mod_in' (show 0 < p by omega) (s * s - x - x)
        have q2 := mul_sg (b := x - (s * s - x - x) % p) m0 (by omega) (by omega)
        simp +decide (maxSteps := 9^7) (disch := first | omega | (simp only [ll]; omega)) only [if_pos, go_sem]
        refine Runs.call (rest hm (s * s - x - x) p (by omega) (by omega)) ?_
        generalize hX : (s * s - x - x) % p = X at *
        simp +decide (maxSteps := 9^7) (disch := first | omega | (simp only [ll]; omega)) only [if_pos, go_sem]
        refine Runs.call (rest hm (s * (x - X) - y) p (by omega) (by omega)) ?_
        simp +decide (maxSteps := 9^7) (disch := first | omega | (simp only [ll]; omega)) only [if_pos, go_sem]
        exact Runs.ret_eq (by simp [ptA, hX])
   ·simp +decide (disch := first | omega | (simp only [ll]; omega)) only [e, if_pos, go_sem]
    refine Runs.draw (st1 := ?s3) (draws_ref (ann := []) tabOk (byL [] [1000003, 1000004, 1000005]) suA (by kernel_rfl) ?p3) ?q3
    case p3 =>
     intro K r X hK
     simp +decide (maxSteps := 9^7) (disch := first | omega | (simp only [ll]; omega)) only [if_pos, go_sem]
     exact hK
    case q3 =>
     simp +decide (maxSteps := 9^7) (disch := first | omega | (simp only [ll]; omega)) only [e, Int.tmod_eq_emod_of_nonneg, if_pos, go_sem]
     have m1 := mod_in' (show 0 < p by omega) (v - y)
     have m3 := invI_range (a := u - x) (m := p) (by omega)
     have b2 := mul_in m1 m3 (by omega)
     refine Runs.call (invInt hm (u - x) p (by omega) (by omega)) ?_
     simp +decide (maxSteps := 9^7) (disch := first | omega | (simp only [ll]; omega)) only [if_pos, go_sem]
     refine Runs.draw (st1 := ?t3s) (draws_ref (ann := []) tabOk (byL [] [1000003, 1000004, 1000005]) suC (by kernel_rfl) ?t3p) ?t3q
     case t3p =>
      intro K r X hK
      simp +decide (maxSteps := 9^7) (disch := first | omega | (simp only [ll]; omega)) only [Int.tmod_eq_emod_of_nonneg, if_pos, go_sem]
      refine Runs.call (rest hm (v - y) p (by omega) (by omega)) ?_
      simp +decide (maxSteps := 9^7) (disch := first | omega | (simp only [ll]; omega)) only [Int.tmod_eq_emod_of_nonneg, if_pos, go_sem]
      exact hK
     case t3q =>
      have ev : sumZ p a ⟨x, y, false⟩ ⟨u, v, false⟩ = sumEnd p ⟨x, y, false⟩ ⟨u, v, false⟩ ((v - y) % p * invI (u - x) p % p) := by simp [sumZ, e, sumEnd]
      rw [ev]
      simp only [sumEnd]
      have m0 := mod_in' (show 0 < p by omega) ((v - y) % p * invI (u - x) p)
      generalize (v - y) % p * invI (u - x) p % p = s at *
      have q1 := mul_in m0 m0 (by omega)
      have m2 := mod_in' (show 0 < p by omega) (s * s - x - u)
      have q2 := mul_sg (b := x - (s * s - x - u) % p) m0 (by omega) (by omega)
      simp +decide (maxSteps := 9^7) (disch := first | omega | (simp only [ll]; omega)) only [if_pos, go_sem]
      refine Runs.call (rest hm (s * s - x - u) p (by omega) (by omega)) ?_
      generalize hX : (s * s - x - u) % p = X at *
      simp +decide (maxSteps := 9^7) (disch := first | omega | (simp only [ll]; omega)) only [if_pos, go_sem]
      refine Runs.call (rest hm (s * (x - X) - y) p (by omega) (by omega)) ?_
      simp +decide (maxSteps := 9^7) (disch := first | omega | (simp only [ll]; omega)) only [if_pos, go_sem]
      exact Runs.ret_eq (by simp [ptA, hX])
end Go.Proofs.W

namespace Go.Proofs.W
open Go Go.AM Go.Proofs.G
variable (hm : Tryz.prog.follows .mixedOrders = true)
attribute [local go_sem] cvA ptA
def zPt : A := .agg [.v (.int .i64 0), .v (.int .i64 0), .v (.bool false)]
theorem far_in {p : Int} (h : 0 < p) : PtIn p farP := ⟨⟨by show (0 : Int) ≤ 0; omega, by show (0 : Int) < p; omega⟩, ⟨by show (0 : Int) ≤ 0; omega, by show (0 : Int) < p; omega⟩⟩
def lmAnn : Ann := [(0, [1, 3, 5, 6, 7])]
def lmSt (k : GCv) (p : Nat × GPt × GPt) : St := ⟨[.any, .v (.int .i64 p.1), .any, .ptr [cvA k] 0 0, .any, .ref (.l 0) 0 0 1, .ref (.l 1) 0 0 1, .ref (.l 2) 0 0 1, .any, .any, .any, .any, .any, .any, .any, .any, .any, .any, .any, .any, .any, .any, .any, .any, .any], [(0, ⟨true, 3, true, [ptA p.2.2]⟩), (1, ⟨true, 3, true, [zPt]⟩), (2, ⟨true, 3, true, [ptA p.2.1]⟩)], []⟩
set_option maxRecDepth 10000 in
set_option maxHeartbeats 4000000 in
include hm in
theorem l3Mul (k : GCv) (n : Nat) (P : GPt) (hk : CvIn k) (hP : PtIn k.p P) (hn : n ≤ 9223372036854775807) : Holds Tryz.prog 81 [cvA k, .v (.int .i64 n), ptA P] [] (ptA (mulL (addZ k.p k.a) n farP P)) [] := by
 refine holds_ref (ann := lmAnn) tabOk hm (byL [] [1000003]) Tryz.func81 (by kernel_rfl) rfl ?_
 have hp : 0 < k.p := by have := hk.1; omega
 simp +decide only [Tryz.f81, go_sem]
 refine Runs.while (α := Nat × GPt × GPt) (lmSt k) (fun p => p.1) (fun p => p.1 ≤ n ∧ PtIn k.p p.2.1 ∧ PtIn k.p p.2.2 ∧ mulL (addZ k.p k.a) p.1 p.2.1 p.2.2 = mulL (addZ k.p k.a) n farP P) (n, farP, P) ⟨Nat.le_refl _, far_in hp, hP, rfl⟩ ?_ ?_
 ·simp [go_sem, lmAnn, lmSt, farP, zPt]
 ·rintro ⟨i, out, a⟩ ⟨hi, ho, ha, hg⟩ ih
  simp only at hi ho ha hg
  have e3 := tmod_nat i 2
  have e4 := tdiv_nat i 2
  have w3 : IntKind.i64.wrap ((i / 2 : Nat) : Int) = ((i / 2 : Nat) : Int) := wrap_i64 (by omega) (by omega)
  have c1 := l3Add hm k out a hk ho ha
  have c2 := l3Add hm k a a hk ha ha
  have o1 := addZ_in (A := k.a) hp ho ha
  have o2 := addZ_in (A := k.a) hp ha ha
  simp +decide only [lmSt, zPt, go_sem]
  refine Runs.split (fun h => ?_) (fun h => ?_)
  ·have hs : i ≠ 0 := by simp at h; omega
   rw [mulL_step _ _ _ _ hs] at hg
   simp +decide (disch := first | omega | (simp only [ll]; omega)) only [if_pos, go_sem]
   rw [show (2 : Int) = ((2 : Nat) : Int) from rfl, e3]
   refine Runs.split (fun h => ?_) (fun h => ?_)
   ·have hbit : i % 2 = 1 := by simp at h; omega
    rw [if_pos hbit] at hg
    simp +decide (disch := first | omega | (simp only [ll]; omega)) only [if_pos, go_sem]
    refine Runs.call c1 ?_
    simp +decide (disch := first | omega | (simp only [ll]; omega)) only [if_pos, go_sem]
    refine Runs.call c2 ?_
    simp +decide (disch := first | omega | (simp only [ll]; omega)) only [e4, w3, if_pos, go_sem]
    refine ih (i / 2, addZ k.p k.a out a, addZ k.p k.a a a) _ (by simp only; omega) ⟨by simp only; omega, o1, o2, hg⟩ ?_
    simp [go_sem, lmAnn, lmSt, zPt]
   ·have hbit : ¬ i % 2 = 1 := by simp at h; omega
    rw [if_neg hbit] at hg
    simp +decide (disch := first | omega | (simp only [ll]; omega)) only [if_pos, go_sem]
    refine Runs.call c2 ?_
    simp +decide (disch := first | omega | (simp only [ll]; omega)) only [e4, w3, if_pos, go_sem]
    refine ih (i / 2, out, addZ k.p k.a a a) _ (by simp only; omega) ⟨by simp only; omega, ho, o2, hg⟩ ?_
    simp [go_sem, lmAnn, lmSt, zPt]
  ·have hs : i = 0 := by simp at h; omega
   subst hs
   rw [mulL_zero] at hg
   simp +decide only [go_sem]
   exact Runs.ret_eq (by rw [← hg])
def tiAnn : Ann := [(0, [1, 3, 5, 6, 7, 8])]
def tiSt (k : GCv) (n : Nat) (P : GPt) (p : Int × GPt) : St := ⟨[.any, .v (.int .i64 n), .any, .ptr [cvA k] 0 0, .any, .ptr [ptA P] 0 0, .ref (.l 0) 0 0 1, .ref (.l 1) 0 0 1, .v (.int .i64 p.1), .any, .any, .any, .any, .any, .any, .any, .any, .any, .any, .any, .any, .any, .any, .any, .any, .any, .any, .any, .any, .any, .any, .any], [(0, ⟨true, 3, true, [zPt]⟩), (1, ⟨true, 3, true, [ptA p.2]⟩)], []⟩
set_option maxRecDepth 10000 in
set_option maxHeartbeats 4000000 in
include hm in
theorem timesC (k : GCv) (n : Nat) (P : GPt) (hk : CvIn k) (hP : PtIn k.p P) (hn : n ≤ 9223372036854775807) : Holds Tryz.prog 109 [cvA k, .v (.int .i64 n), ptA P] [] (ptA (mulM (sumZ k.p k.a) farP n P)) [] := by
 refine holds_ref (ann := tiAnn) tabOk hm (byL [] [1000003, 1000005]) Tryz.func109 (by kernel_rfl) rfl ?_
 have hp : 0 < k.p := by have := hk.1; omega
 have hl : blen n ≤ 63 := blen_le (by omega)
 simp +decide (disch := first | omega | (simp only [ll]; omega)) only [Tryz.f109, if_pos, go_sem]
 refine Runs.call (bitsLen hm n (by omega)) ?_
 simp +decide (disch := first | omega | (simp only [ll]; omega)) only [if_pos, go_sem]
 refine Runs.while (α := Int × GPt) (tiSt k n P) (fun p => (p.1 + 1).toNat) (fun p => -1 ≤ p.1 ∧ p.1 ≤ 62 ∧ PtIn k.p p.2 ∧ (p.1 = -1 ∨ 2 ^ p.1.toNat ≤ n) ∧ p.2 = mulM (sumZ k.p k.a) farP (n / 2 ^ (p.1 + 1).toNat) P) ((blen n : Int) - 1, farP) ⟨by simp only; omega, by simp only; omega, far_in hp, ?_, ?_⟩ ?_ ?_
 ·simp only
  by_cases hz : n = 0
  ·left; subst hz; rw [blen_zero]; rfl
  ·right
   have := blen_ge hz
   have hp := blen_pos hz
   have e : ((blen n : Int) - 1).toNat = blen n - 1 := by omega
   rw [e]
   exact this
 ·simp only
  have e : ((blen n : Int) - 1 + 1).toNat = blen n := by omega
  rw [e, Nat.div_eq_of_lt blen_lt, mulM_zero]
 ·simp [go_sem, tiAnn, tiSt, farP, zPt]
 ·rintro ⟨i, out⟩ ⟨hi1, hi2, ho, hi3, hg⟩ ih
  simp only at hi1 hi2 ho hi3 hg
  simp +decide only [tiSt, zPt, go_sem]
  refine Runs.split (fun h => ?_) (fun h => ?_)
  ·have hs : 0 ≤ i := by simpa using h
   obtain ⟨j, rfl⟩ := nat_of hs
   have hk' : 2 ^ j ≤ n := by
    rcases hi3 with h | h
    ·omega
    ·simpa using h
   have ek : ((j : Int) + 1).toNat = j + 1 := by omega
   rw [ek] at hg
   have hst := mulM_step (sumZ k.p k.a) farP n j P hk'
   rw [← hg] at hst
   have c1 := sumC hm k out out hk ho ho
   have o1 := sumZ_in (A := k.a) hp ho ho
   have c2 := sumC hm k (sumZ k.p k.a out out) P hk o1 hP
   have o2 := sumZ_in (A := k.a) hp o1 hP
   have hq := Nat.div_le_self n (2 ^ j)
   have ea := andI_one (n / 2 ^ j) (by omega)
   have em : min j 64 = j := by omega
   have es := shr_nat n j
   have hpow : j = 0 ∨ 2 ^ (j - 1) ≤ n := by
    rcases Nat.eq_zero_or_pos j with h | h
    ·exact .inl h
    ·right; exact Nat.le_trans (Nat.pow_le_pow_right (by omega) (by omega)) hk'
   simp +decide (disch := first | omega | (simp only [ll]; omega)) only [if_pos, go_sem]
   refine Runs.call c1 ?_
   simp +decide (disch := first | omega | (simp only [ll]; omega)) only [em, es, ea, if_pos, go_sem]
   refine Runs.split (fun h => ?_) (fun h => ?_)
   ·have hbit : n / 2 ^ j % 2 = 1 := by simp only [decide_eq_true_eq] at h; omega
    rw [if_pos hbit] at hst
    simp +decide (disch := first | omega | (simp only [ll]; omega)) only [if_pos, go_sem]
    refine Runs.call c2 ?_
    simp +decide (disch := first | omega | (simp only [ll]; omega)) only [if_pos, go_sem]
    refine ih ((j : Int) - 1, sumZ k.p k.a (sumZ k.p k.a out out) P) _ (by simp only; omega) ⟨by simp only; omega, by simp only; omega, o2, ?_, ?_⟩ ?_
    ·simp only
     rcases hpow with h | h
     ·left; omega
     ·right
      have e : ((j : Int) - 1).toNat = j - 1 := by omega
      rw [e]; exact h
    ·simp only
     have e : ((j : Int) - 1 + 1).toNat = j := by omega
     rw [e, hst]
    ·simp [go_sem, tiAnn, tiSt, zPt]
   ·have hbit : ¬ n / 2 ^ j % 2 = 1 := by simp only [decide_eq_false_iff_not] at h; omega
    rw [if_neg hbit] at hst
    simp +decide (disch := first | omega | (simp only [ll]; omega)) only [if_pos, go_sem]
    refine ih ((j : Int) - 1, sumZ k.p k.a out out) _ (by simp only; omega) ⟨by simp only; omega, by simp only; omega, o1, ?_, ?_⟩ ?_
    ·simp only
     rcases hpow with h | h
     ·left; omega
     ·right
      have e : ((j : Int) - 1).toNat = j - 1 := by omega
      rw [e]; exact h
    ·simp only
     have e : ((j : Int) - 1 + 1).toNat = j := by omega
     rw [e, hst]
    ·simp [go_sem, tiAnn, tiSt, zPt]
  ·have hs : i = -1 := by simp at h; omega
   subst hs
   simp at hg
   simp +decide only [go_sem]
   exact Runs.ret_eq (by rw [← hg])
end Go.Proofs.W

namespace Go.Proofs.W
open Go Go.AM Go.Proofs.G
set_option maxRecDepth 10000
variable (hm : Tryz.prog.follows .mixedOrders = true)
attribute [local go_sem] cvA ptA
noncomputable def curveB (k : GCv) : Bool :=
 inB k.p 5 1048576 && decide (k.p.tmod 4 = 3) && primeZ k.p && inB k.a 0 (k.p - 1) && inB k.b 0 (k.p - 1) && inB k.n 5 2097152 && primeZ k.n &&
 !decide ((4 * (k.a * k.a % k.p) * k.a + 27 * (k.b * k.b % k.p)) % k.p = 0) && onZ k.p k.a k.b ⟨k.gx, k.gy, false⟩ && (mulL (addZ k.p k.a) k.n.toNat farP ⟨k.gx, k.gy, false⟩).far
theorem onZ_in {p A B : Int} {P : GPt} (h0 : 0 < p) (h : onZ p A B P = true) : PtIn p P := by
 unfold onZ at h
 split at h
 ·simp only [Bool.and_eq_true, decide_eq_true_eq] at h
  exact ⟨by omega, by omega⟩
 ·simp only [Bool.and_eq_true, decide_eq_true_eq] at h
  exact ⟨by omega, by omega⟩
theorem inB_t {n a b : Int} (h : inB n a b = true) : a ≤ n ∧ n ≤ b := by simpa [inB] using h
theorem curve_in {k : GCv} (h : curveB k = true) : CvIn k := by
 simp only [curveB, Bool.and_eq_true] at h
 obtain ⟨⟨⟨⟨⟨⟨⟨⟨⟨c1, _⟩, _⟩, c4⟩, c5⟩, _⟩, _⟩, _⟩, _⟩, _⟩ := h
 have := inB_t c1
 have := inB_t c4
 have := inB_t c5
 exact ⟨by omega, by omega, by omega, by omega⟩
def scS : Sched := .take 0 (.take 2 (.take 5 (.take 9 (.take 12 (.take 14 (.take 17 (.take 22 (.ld 1 (.ld 3 (.take 4 (.ld 6 (.take 7 (.take 8 (.ld 10 (.take 11 (.ld 13 (.ld 15 (.take 16 (.ld 18 (.take 19 (.take 20 (.take 21 (.ld 23 (.take 24 (.take 25 .fin)))))))))))))))))))))))))
attribute [local go_sem] scS
set_option maxHeartbeats 4000000 in
include hm in
theorem sCurveOk (k : GCv) : Holds Tryz.prog 91 [cvA k] [] (.v (.bool (curveB k))) [] := by
 refine holds_ref (ann := []) tabOk hm (byL [] [1000001]) Tryz.func91 (by kernel_rfl) rfl ?_
 have hk : k = ⟨k.p, k.a, k.b, k.n, k.gx, k.gy⟩ := rfl
 obtain ⟨p, a, b, n, gx, gy⟩ := k
 simp +decide only [Tryz.f91, go_sem]
 refine Runs.call (l1In hm p 5 1048576) ?_
 simp +decide (maxSteps := 9^7) only [go_sem]
 refine Runs.split (fun c1 => ?_) (fun c1 => ?_)
 ·have e : curveB ⟨p, a, b, n, gx, gy⟩ = false := by simp only [Bool.not_eq_true'] at c1; simp [curveB, c1]
  simp +decide (maxSteps := 9^7) only [e, go_sem]
  exact Runs.ret_v
 simp only [Bool.not_eq_false'] at c1
 obtain ⟨p1, p2⟩ := inB_t c1
 simp +decide (maxSteps := 9^7) (disch := first | omega | (simp only [ll]; omega)) only [if_pos, go_sem]
 refine Runs.split (fun c2 => ?_) (fun c2 => ?_)
 ·have e : curveB ⟨p, a, b, n, gx, gy⟩ = false := by
   have : ¬ p.tmod 4 = 3 := by simpa using c2
   simp [curveB, this]
  simp +decide (maxSteps := 9^7) only [e, go_sem]
  exact Runs.ret_v
 have c2' : p.tmod 4 = 3 := by simpa using c2
 simp +decide (maxSteps := 9^7) (disch := first | omega | (simp only [ll]; omega)) only [if_pos, go_sem]
 refine Runs.call (sPrime hm p) ?_
 simp +decide (maxSteps := 9^7) only [go_sem]
 refine Runs.split (fun c3 => ?_) (fun c3 => ?_)
 ·have e : curveB ⟨p, a, b, n, gx, gy⟩ = false := by simp only [Bool.not_eq_true'] at c3; simp [curveB, c3]
  simp +decide (maxSteps := 9^7) only [e, go_sem]
  exact Runs.ret_v
 simp only [Bool.not_eq_false'] at c3
 simp +decide (maxSteps := 9^7) (disch := first | omega | (simp only [ll]; omega)) only [if_pos, go_sem]
 refine Runs.call (l1In hm a 0 (p - 1)) ?_
 simp +decide (maxSteps := 9^7) only [go_sem]
 refine Runs.split (fun c4 => ?_) (fun c4 => ?_)
 ·have e : curveB ⟨p, a, b, n, gx, gy⟩ = false := by simp only [Bool.not_eq_true'] at c4; simp [curveB, c4]
  simp +decide (maxSteps := 9^7) only [e, go_sem]
  exact Runs.ret_v
 simp only [Bool.not_eq_false'] at c4
 simp +decide (maxSteps := 9^7) (disch := first | omega | (simp only [ll]; omega)) only [if_pos, go_sem]
 refine Runs.call (l1In hm b 0 (p - 1)) ?_
 simp +decide (maxSteps := 9^7) only [go_sem]
 refine Runs.split (fun c5 => ?_) (fun c5 => ?_)
 ·have e : curveB ⟨p, a, b, n, gx, gy⟩ = false := by simp only [Bool.not_eq_true'] at c5; simp [curveB, c5]
  simp +decide (maxSteps := 9^7) only [e, go_sem]
  exact Runs.ret_v
 simp only [Bool.not_eq_false'] at c5
 simp +decide (maxSteps := 9^7) (disch := first | omega | (simp only [ll]; omega)) only [if_pos, go_sem]
 refine Runs.call (l1In hm n 5 2097152) ?_
 simp +decide (maxSteps := 9^7) only [go_sem]
 refine Runs.split (fun c6 => ?_) (fun c6 => ?_)
 ·have e : curveB ⟨p, a, b, n, gx, gy⟩ = false := by simp only [Bool.not_eq_true'] at c6; simp [curveB, c6]
  simp +decide (maxSteps := 9^7) only [e, go_sem]
  exact Runs.ret_v
 simp only [Bool.not_eq_false'] at c6
 simp +decide (maxSteps := 9^7) (disch := first | omega | (simp only [ll]; omega)) only [if_pos, go_sem]
 refine Runs.call (sPrime hm n) ?_
 simp +decide (maxSteps := 9^7) only [go_sem]
 refine Runs.split (fun c7 => ?_) (fun c7 => ?_)
 ·have e : curveB ⟨p, a, b, n, gx, gy⟩ = false := by simp only [Bool.not_eq_true'] at c7; simp [curveB, c7]
  simp +decide (maxSteps := 9^7) only [e, go_sem]
  exact Runs.ret_v
 simp only [Bool.not_eq_false'] at c7
 have ia := inB_t c4
 have ib := inB_t c5
 have iN := inB_t c6
 have b1 := mul_in (a := a) (b := a) (m := p) (by omega) (by omega) (by omega)
 have b2 := mul_in (a := b) (b := b) (m := p) (by omega) (by omega) (by omega)
 have m1 := mod_in' (show 0 < p by omega) (a * a)
 have m2 := mod_in' (show 0 < p by omega) (b * b)
 have b3 := mul_in (a := a * a % p) (b := a) (m := p) (by omega) (by omega) (by omega)
 have e3 : 4 * (a * a % p) * a = 4 * (a * a % p * a) := Int.mul_assoc 4 _ _
 have hn : ((n.toNat : Nat) : Int) = n := Int.toNat_of_nonneg (by omega)
 simp +decide (maxSteps := 9^7) (disch := first | omega | (simp only [ll]; omega)) only [if_pos, go_sem]
 refine Runs.draw (st1 := ?s1) (draws_ref (ann := []) tabOk (byL [] [1000001]) scS (by kernel_rfl) ?p1) ?q1
 case p1 =>
  intro K r X hK
  simp +decide (maxSteps := 9^7) (disch := first | omega | (simp only [ll]; omega)) only [Int.tmod_eq_emod_of_nonneg, if_pos, go_sem]
  exact hK
 case q1 =>
  simp +decide (maxSteps := 9^7) only [go_sem]
  refine Runs.split (fun c8 => ?_) (fun c8 => ?_)
  ·have e : curveB ⟨p, a, b, n, gx, gy⟩ = false := by simp only [decide_eq_true_eq] at c8; simp [curveB, c8]
   simp +decide (maxSteps := 9^7) only [e, go_sem]
   exact Runs.ret_v
  simp only [decide_eq_false_iff_not] at c8
  have kin : CvIn ⟨p, a, b, n, gx, gy⟩ := ⟨by simp only; omega, by simp only; omega, by simp only; omega, by simp only; omega⟩
  simp +decide (maxSteps := 9^7) only [go_sem]
  refine Runs.call (l3On hm ⟨p, a, b, n, gx, gy⟩ ⟨gx, gy, false⟩ kin) ?_
  simp +decide (maxSteps := 9^7) only [go_sem]
  refine Runs.split (fun c9 => ?_) (fun c9 => ?_)
  ·have gin := onZ_in (by omega) c9
   have hM := l3Mul hm ⟨p, a, b, n, gx, gy⟩ n.toNat ⟨gx, gy, false⟩ kin gin (by omega)
   rw [hn] at hM
   simp +decide (maxSteps := 9^7) only [go_sem]
   refine Runs.call hM ?_
   simp +decide (maxSteps := 9^7) only [go_sem]
   exact Runs.ret_eq (by simp [curveB, c1, c2', c3, c4, c5, c6, c7, c8, c9])
  ·have e : curveB ⟨p, a, b, n, gx, gy⟩ = false := by simp [curveB, c9]
   simp +decide (maxSteps := 9^7) only [e, go_sem]
   exact Runs.ret_v
def icS : Sched := .take 0 (.take 3 (.take 6 (.take 9 (.take 12 (.take 15 (.take 19 (.ld 1 (.take 2 (.ld 4 (.take 5 (.ld 7 (.take 8 (.ld 10 (.take 11 (.ld 13 (.take 14 (.ld 16 (.take 17 (.take 18 (.ld 20 (.take 21 (.take 22 (.take 23 (.ld 24 (.ld 25 (.alt 26 (.alt 27 (.take 28 (.take 29 .fin)) .nil) .nil))))))))))))))))))))))))))
def icT : Sched := .take 1 (.ld 0 (.ld 2 (.ld 3 (.alt 4 (.alt 5 (.take 6 (.take 7 .fin)) .nil) .nil))))
attribute [local go_sem] icS icT
set_option maxHeartbeats 4000000 in
include hm in
theorem iCurveOk (k : GCv) : Holds Tryz.prog 132 [cvA k] [] (.v (.bool (curveB k))) [] := by
 refine holds_ref (ann := []) tabOk hm (byL [] [1000001]) Tryz.func132 (by kernel_rfl) rfl ?_
 obtain ⟨p, a, b, n, gx, gy⟩ := k
 simp +decide only [Tryz.f132, go_sem]
 refine Runs.call (within hm p 5 1048576) ?_
 simp +decide (maxSteps := 9^7) only [go_sem]
 refine Runs.split (fun c1 => ?_) (fun c1 => ?_)
 ·have e : curveB ⟨p, a, b, n, gx, gy⟩ = false := by simp only [Bool.not_eq_true'] at c1; simp [curveB, c1]
  simp +decide (maxSteps := 9^7) only [e, go_sem]
  exact Runs.ret_v
 simp only [Bool.not_eq_false'] at c1
 obtain ⟨p1, p2⟩ := inB_t c1
 simp +decide (maxSteps := 9^7) (disch := first | omega | (simp only [ll]; omega)) only [if_pos, go_sem]
 refine Runs.split (fun c2 => ?_) (fun c2 => ?_)
 ·have e : curveB ⟨p, a, b, n, gx, gy⟩ = false := by
   have : ¬ p.tmod 4 = 3 := by simpa using c2
   simp [curveB, this]
  simp +decide (maxSteps := 9^7) only [e, go_sem]
  exact Runs.ret_v
 have c2' : p.tmod 4 = 3 := by simpa using c2
 simp +decide (maxSteps := 9^7) (disch := first | omega | (simp only [ll]; omega)) only [if_pos, go_sem]
 refine Runs.call (within hm a 0 (p - 1)) ?_
 simp +decide (maxSteps := 9^7) only [go_sem]
 refine Runs.split (fun c4 => ?_) (fun c4 => ?_)
 ·have e : curveB ⟨p, a, b, n, gx, gy⟩ = false := by simp only [Bool.not_eq_true'] at c4; simp [curveB, c4]
  simp +decide (maxSteps := 9^7) only [e, go_sem]
  exact Runs.ret_v
 simp only [Bool.not_eq_false'] at c4
 simp +decide (maxSteps := 9^7) (disch := first | omega | (simp only [ll]; omega)) only [if_pos, go_sem]
 refine Runs.call (within hm b 0 (p - 1)) ?_
 simp +decide (maxSteps := 9^7) only [go_sem]
 refine Runs.split (fun c5 => ?_) (fun c5 => ?_)
 ·have e : curveB ⟨p, a, b, n, gx, gy⟩ = false := by simp only [Bool.not_eq_true'] at c5; simp [curveB, c5]
  simp +decide (maxSteps := 9^7) only [e, go_sem]
  exact Runs.ret_v
 simp only [Bool.not_eq_false'] at c5
 simp +decide (maxSteps := 9^7) (disch := first | omega | (simp only [ll]; omega)) only [if_pos, go_sem]
 refine Runs.call (within hm n 5 2097152) ?_
 simp +decide (maxSteps := 9^7) only [go_sem]
 refine Runs.split (fun c6 => ?_) (fun c6 => ?_)
 ·have e : curveB ⟨p, a, b, n, gx, gy⟩ = false := by simp only [Bool.not_eq_true'] at c6; simp [curveB, c6]
  simp +decide (maxSteps := 9^7) only [e, go_sem]
  exact Runs.ret_v
 simp only [Bool.not_eq_false'] at c6
 simp +decide (maxSteps := 9^7) (disch := first | omega | (simp only [ll]; omega)) only [if_pos, go_sem]
 refine Runs.call (iPrime hm p) ?_
 simp +decide (maxSteps := 9^7) only [go_sem]
 refine Runs.split (fun c3 => ?_) (fun c3 => ?_)
 ·have e : curveB ⟨p, a, b, n, gx, gy⟩ = false := by simp only [Bool.not_eq_true'] at c3; simp [curveB, c3]
  simp +decide (maxSteps := 9^7) only [e, go_sem]
  exact Runs.ret_v
 simp only [Bool.not_eq_false'] at c3
 simp +decide (maxSteps := 9^7) (disch := first | omega | (simp only [ll]; omega)) only [if_pos, go_sem]
 refine Runs.call (iPrime hm n) ?_
 simp +decide (maxSteps := 9^7) only [go_sem]
 refine Runs.split (fun c7 => ?_) (fun c7 => ?_)
 ·have e : curveB ⟨p, a, b, n, gx, gy⟩ = false := by simp only [Bool.not_eq_true'] at c7; simp [curveB, c7]
  simp +decide (maxSteps := 9^7) only [e, go_sem]
  exact Runs.ret_v
 simp only [Bool.not_eq_false'] at c7
 have ia := inB_t c4
 have ib := inB_t c5
 have iN := inB_t c6
 have b1 := mul_in (a := a) (b := a) (m := p) (by omega) (by omega) (by omega)
 have b2 := mul_in (a := b) (b := b) (m := p) (by omega) (by omega) (by omega)
 have m1 := mod_in' (show 0 < p by omega) (4 * a * a)
 have e1 : 4 * a * a = 4 * (a * a) := Int.mul_assoc 4 a a
 have e2 : 27 * b * b = 27 * (b * b) := Int.mul_assoc 27 b b
 have b3 := mul_in (a := 4 * a * a % p) (b := a) (m := p) (by omega) (by omega) (by omega)
 have hn : ((n.toNat : Nat) : Int) = n := Int.toNat_of_nonneg (by omega)
 have kin : CvIn ⟨p, a, b, n, gx, gy⟩ := ⟨by simp only; omega, by simp only; omega, by simp only; omega, by simp only; omega⟩
 have hB := baseP hm ⟨p, a, b, n, gx, gy⟩
 have hP := isPoint hm ⟨p, a, b, n, gx, gy⟩ ⟨gx, gy, false⟩ kin
 have dm := disc_mod a b p
 simp +decide (maxSteps := 9^7) (disch := first | omega | (simp only [ll]; omega)) only [if_pos, go_sem]
 by_cases c8 : (4 * (a * a % p) * a + 27 * (b * b % p)) % p = 0
 ·have e : curveB ⟨p, a, b, n, gx, gy⟩ = false := by simp [curveB, c8]
  rw [c8] at dm
  refine Runs.draw (st1 := ?s1) (draws_ref (ann := []) tabOk (byL [] [1000001]) icS (by kernel_rfl) ?p1) ?q1
  case p1 =>
   intro K r X hK
   simp +decide (maxSteps := 9^7) (disch := first | omega | (simp only [ll]; omega)) only [Int.tmod_eq_emod_of_nonneg, dm, if_pos, go_sem]
   exact hK
  case q1 =>
   simp +decide (maxSteps := 9^7) only [e, go_sem]
   exact Runs.ret_v
 ·have dm' : ¬ (4 * a * a % p * a + 27 * b * b) % p = 0 := by rw [dm]; exact c8
  cases c9 : onZ p a b ⟨gx, gy, false⟩ with
  | false =>
   have e : curveB ⟨p, a, b, n, gx, gy⟩ = false := by simp [curveB, c9]
   simp only [c9] at hP
   refine Runs.draw (st1 := ?s2) (draws_ref (ann := []) tabOk (byL [] [1000001]) icS (by kernel_rfl) ?p2) ?q2
   case p2 =>
    intro K r X hK
    simp +decide (maxSteps := 9^7) (disch := first | omega | (simp only [ll]; omega)) only [Int.tmod_eq_emod_of_nonneg, dm', if_pos, go_sem]
    refine Runs.call hB ?_
    simp +decide (maxSteps := 9^7) (disch := first | omega | (simp only [ll]; omega)) only [if_pos, go_sem]
    refine Runs.call hP ?_
    simp +decide (maxSteps := 9^7) (disch := first | omega | (simp only [ll]; omega)) only [if_pos, go_sem]
    exact hK
   case q2 =>
    simp +decide (maxSteps := 9^7) only [e, go_sem]
    exact Runs.ret_v
  | true =>
   simp only [c9] at hP
   have gin := onZ_in (by omega) c9
   have hM := timesC hm ⟨p, a, b, n, gx, gy⟩ n.toNat ⟨gx, gy, false⟩ kin gin (by omega)
   simp only at hM
   rw [hn, times_same (by omega) (primeZ_of c3).2.2 c8 c9 n.toNat] at hM
   refine Runs.draw (st1 := ?s3) (draws_ref (ann := []) tabOk (byL [] [1000001]) icS (by kernel_rfl) ?p3) ?q3
   case p3 =>
    intro K r X hK
    simp +decide (maxSteps := 9^7) (disch := first | omega | (simp only [ll]; omega)) only [Int.tmod_eq_emod_of_nonneg, dm', if_pos, go_sem]
    refine Runs.call hB ?_
    simp +decide (maxSteps := 9^7) (disch := first | omega | (simp only [ll]; omega)) only [if_pos, go_sem]
    refine Runs.call hP ?_
    simp +decide (maxSteps := 9^7) (disch := first | omega | (simp only [ll]; omega)) only [if_pos, go_sem]
    exact hK
   case q3 =>
    simp +decide (maxSteps := 9^7) only [go_sem]
    refine Runs.draw (st1 := ?s4) (draws_ref (ann := []) tabOk (byL [] [1000001]) icT (by kernel_rfl) ?p4) ?q4
    case p4 =>
     intro K r X hK
     simp +decide (maxSteps := 9^7) (disch := first | omega | (simp only [ll]; omega)) only [if_pos, go_sem]
     repeat' apply And.intro
     all_goals
      refine Runs.call hB ?_
      simp +decide (maxSteps := 9^7) (disch := first | omega | (simp only [ll]; omega)) only [if_pos, go_sem]
      refine Runs.call hM ?_
      simp +decide (maxSteps := 9^7) (disch := first | omega | (simp only [ll]; omega)) only [if_pos, go_sem]
      exact hK
    case q4 =>
     simp +decide (maxSteps := 9^7) only [go_sem]
     exact Runs.ret_eq (by simp [curveB, c1, c2', c3, c4, c5, c6, c7, c8, c9])
include hm in
theorem sPointOk (k : GCv) (P : GPt) : Holds Tryz.prog 80 [cvA k, ptA P] [] (.v (.bool (curveB k && onZ k.p k.a k.b P))) [] := by
 refine holds_ref (ann := []) tabOk hm (byL [] [1000002, 1000003]) Tryz.func80 (by kernel_rfl) rfl ?_
 simp +decide only [Tryz.f80, go_sem]
 refine Runs.call (sCurveOk hm k) ?_
 simp +decide only [go_sem]
 refine Runs.split (fun c => ?_) (fun c => ?_)
 ·simp +decide only [go_sem]
  refine Runs.call (l3On hm k P (curve_in c)) ?_
  simp +decide only [c, go_sem]
  exact Runs.ret_eq (by simp)
 ·simp +decide only [c, go_sem]
  exact Runs.ret_eq (by simp)
include hm in
theorem iPointOk (k : GCv) (P : GPt) : Holds Tryz.prog 108 [cvA k, ptA P] [] (.v (.bool (curveB k && onZ k.p k.a k.b P))) [] := by
 refine holds_ref (ann := []) tabOk hm (byL [] [1000002, 1000003]) Tryz.func108 (by kernel_rfl) rfl ?_
 simp +decide only [Tryz.f108, go_sem]
 refine Runs.call (iCurveOk hm k) ?_
 simp +decide only [go_sem]
 refine Runs.split (fun c => ?_) (fun c => ?_)
 ·simp +decide only [go_sem]
  refine Runs.call (isPoint hm k P (curve_in c)) ?_
  simp +decide only [c, go_sem]
  exact Runs.ret_eq (by simp)
 ·simp +decide only [c, go_sem]
  exact Runs.ret_eq (by simp)
end Go.Proofs.W

namespace Go.Proofs.W
open Go Go.AM Go.Proofs.G
set_option maxRecDepth 10000
variable (hm : Tryz.prog.follows .mixedOrders = true)
structure GEd where
 p : Int
 d : Int
 l : Int
 bx : Int
 by' : Int
def edA (k : GEd) : A := .agg [.v (.int .i64 k.p), .v (.int .i64 k.d), .v (.int .i64 k.l), .v (.int .i64 k.bx), .v (.int .i64 k.by')]
def prA (P : GPr) : A := .agg [.v (.int .i64 P.1), .v (.int .i64 P.2)]
def EdIn (k : GEd) : Prop := 13 ≤ k.p ∧ k.p ≤ 1048576 ∧ (0 ≤ k.d ∧ k.d < k.p)
def PrIn (p : Int) (P : GPr) : Prop := (0 ≤ P.1 ∧ P.1 < p) ∧ (0 ≤ P.2 ∧ P.2 < p)
attribute [local go_sem] edA prA
theorem eadd_in {p D : Int} (h : 0 < p) (a b : GPr) : PrIn p (eaddZ p D a b) := ⟨mod_in' h _, mod_in' h _⟩
theorem esum_in {p D : Int} (h : 0 < p) (a b : GPr) : PrIn p (esumZ p D a b) := ⟨mod_in' h _, mod_in' h _⟩
def eoA : Sched := .take 0 (.take 2 (.take 5 (.take 8 (.take 10 (.take 13 (.ld 1 (.ld 3 (.take 4 (.ld 6 (.take 7 (.take 16 (.ld 9 (.ld 11 (.take 12 (.ld 14 (.take 15 (.take 17 .fin)))))))))))))))))
def eoB : Sched := .take 0 (.take 1 (.take 2 (.take 3 (.take 6 (.take 8 (.take 10 (.take 13 (.take 16 (.ld 4 (.ld 7 (.take 9 (.ld 11 (.take 12 (.take 14 (.take 15 (.ld 17 (.take 18 (.alt 5 (.take 19 (.take 20 .fin)) .nil))))))))))))))))))
attribute [local go_sem] eoA eoB
set_option maxHeartbeats 4000000 in
include hm in
theorem l4On (k : GEd) (P : GPr) (hk : EdIn k) : Holds Tryz.prog 95 [edA k, prA P] [] (.v (.bool (eonZ k.p k.d P))) [] := by
 refine holds_ref (ann := []) tabOk hm (byL [] [1000002, 1000003]) Tryz.func95 (by kernel_rfl) rfl ?_
 obtain ⟨p, d, l, bx, by'⟩ := k
 obtain ⟨x, y⟩ := P
 obtain ⟨h1, h2, h3⟩ := hk
 simp only at h1 h2 h3
 simp +decide (disch := first | omega | (simp only [ll]; omega)) only [Tryz.f95, if_pos, go_sem]
 refine Runs.call (l1In hm x 0 (p - 1)) ?_
 simp +decide only [go_sem]
 refine Runs.split (fun h => ?_) (fun h => ?_)
 ·have e : eonZ p d (x, y) = false := by simp [inB] at h; simp [eonZ]; omega
  simp +decide only [e, go_sem]
  exact Runs.ret_v
 ·have hx : 0 ≤ x ∧ x < p := by simp [inB] at h; omega
  simp +decide (disch := first | omega | (simp only [ll]; omega)) only [if_pos, go_sem]
  refine Runs.call (l1In hm y 0 (p - 1)) ?_
  simp +decide only [go_sem]
  refine Runs.split (fun h => ?_) (fun h => ?_)
  ·have e : eonZ p d (x, y) = false := by simp [inB] at h; simp [eonZ]; omega
   simp +decide only [e, go_sem]
   exact Runs.ret_v
  ·have hy : 0 ≤ y ∧ y < p := by simp [inB] at h; omega
   have b1 := mul_in hy hy (by omega)
   have b2 := mul_in hx hx (by omega)
   have m1 := mod_in' (show 0 < p by omega) (x * x)
   have m2 := mod_in' (show 0 < p by omega) (y * y)
   have b3 := mul_in h3 m1 (by omega)
   have m3 := mod_in' (show 0 < p by omega) (d * (x * x % p))
   have b4 := mul_in m3 m2 (by omega)
   simp +decide only [go_sem]
   refine Runs.draw (st1 := ?s1) (draws_ref (ann := []) tabOk (byL [] [1000002, 1000003]) eoA (by kernel_rfl) ?p1) ?q1
   case p1 =>
    intro K r X hK
    simp +decide (maxSteps := 9^7) (disch := first | omega | (simp only [ll]; omega)) only [Int.tmod_eq_emod_of_nonneg, if_pos, go_sem]
    exact hK
   case q1 =>
    simp +decide only [go_sem]
    refine Runs.draw (st1 := ?s2) (draws_ref (ann := []) tabOk (byL [] [1000002, 1000003]) eoB (by kernel_rfl) ?p2) ?q2
    case p2 =>
     intro K r X hK
     simp +decide (maxSteps := 9^7) (disch := first | omega | (simp only [ll]; omega)) only [Int.tmod_eq_emod_of_nonneg, if_pos, go_sem]
     refine Runs.call (l2Left hm (y * y % p - x * x % p) p (by omega) (by omega)) ?_
     simp +decide (maxSteps := 9^7) (disch := first | omega | (simp only [ll]; omega)) only [Int.tmod_eq_emod_of_nonneg, if_pos, go_sem]
     exact hK
    case q2 =>
     simp +decide only [go_sem]
     exact Runs.ret_eq (by simp [eonZ, hx, hy]; omega)
def eoC : Sched := .take 0 (.take 2 (.take 5 (.take 8 (.take 10 (.take 13 (.ld 1 (.ld 3 (.take 4 (.ld 6 (.take 7 (.take 16 (.ld 9 (.ld 11 (.take 12 (.ld 14 (.take 15 (.take 17 .fin)))))))))))))))))
def eoD : Sched := .take 0 (.take 1 (.take 2 (.take 3 (.take 6 (.take 8 (.take 10 (.take 13 (.take 16 (.ld 4 (.ld 7 (.take 9 (.ld 11 (.take 12 (.take 14 (.take 15 (.ld 17 (.take 18 (.alt 5 (.take 19 (.take 20 .fin)) .nil))))))))))))))))))
attribute [local go_sem] eoC eoD
set_option maxHeartbeats 4000000 in
include hm in
theorem isPair (k : GEd) (P : GPr) (hk : EdIn k) : Holds Tryz.prog 136 [edA k, prA P] [] (.v (.bool (eonZ k.p k.d P))) [] := by
 refine holds_ref (ann := []) tabOk hm (byL [] [1000002, 1000003]) Tryz.func136 (by kernel_rfl) rfl ?_
 obtain ⟨p, d, l, bx, by'⟩ := k
 obtain ⟨x, y⟩ := P
 obtain ⟨h1, h2, h3⟩ := hk
 simp only at h1 h2 h3
 simp +decide (disch := first | omega | (simp only [ll]; omega)) only [Tryz.f136, if_pos, go_sem]
 refine Runs.call (within hm x 0 (p - 1)) ?_
 simp +decide only [go_sem]
 refine Runs.split (fun h => ?_) (fun h => ?_)
 ·have e : eonZ p d (x, y) = false := by simp [inB] at h; simp [eonZ]; omega
  simp +decide only [e, go_sem]
  exact Runs.ret_v
 ·have hx : 0 ≤ x ∧ x < p := by simp [inB] at h; omega
  simp +decide (disch := first | omega | (simp only [ll]; omega)) only [if_pos, go_sem]
  refine Runs.call (within hm y 0 (p - 1)) ?_
  simp +decide only [go_sem]
  refine Runs.split (fun h => ?_) (fun h => ?_)
  ·have e : eonZ p d (x, y) = false := by simp [inB] at h; simp [eonZ]; omega
   simp +decide only [e, go_sem]
   exact Runs.ret_v
  ·have hy : 0 ≤ y ∧ y < p := by simp [inB] at h; omega
   have b1 := mul_in hy hy (by omega)
   have b2 := mul_in hx hx (by omega)
   have m1 := mod_in' (show 0 < p by omega) (x * x)
   have m2 := mod_in' (show 0 < p by omega) (y * y)
   have b3 := mul_in h3 m1 (by omega)
   have m3 := mod_in' (show 0 < p by omega) (d * (x * x % p))
   have b4 := mul_in m3 m2 (by omega)
   simp +decide only [go_sem]
   refine Runs.draw (st1 := ?s1) (draws_ref (ann := []) tabOk (byL [] [1000002, 1000003]) eoC (by kernel_rfl) ?p1) ?q1
   case p1 =>
    intro K r X hK
    simp +decide (maxSteps := 9^7) (disch := first | omega | (simp only [ll]; omega)) only [Int.tmod_eq_emod_of_nonneg, if_pos, go_sem]
    exact hK
   case q1 =>
    simp +decide only [go_sem]
    refine Runs.draw (st1 := ?s2) (draws_ref (ann := []) tabOk (byL [] [1000002, 1000003]) eoD (by kernel_rfl) ?p2) ?q2
    case p2 =>
     intro K r X hK
     simp +decide (maxSteps := 9^7) (disch := first | omega | (simp only [ll]; omega)) only [Int.tmod_eq_emod_of_nonneg, if_pos, go_sem]
     refine Runs.call (rest hm (y * y % p - x * x % p) p (by omega) (by omega)) ?_
     simp +decide (maxSteps := 9^7) (disch := first | omega | (simp only [ll]; omega)) only [Int.tmod_eq_emod_of_nonneg, if_pos, go_sem]
     exact hK
    case q2 =>
     simp +decide only [go_sem]
     exact Runs.ret_eq (by simp [eonZ, hx, hy]; omega)
include hm in
theorem baseE (k : GEd) : Holds Tryz.prog 157 [edA k] [] (prA (k.bx, k.by')) [] := by
 refine holds_ref (ann := []) tabOk hm (byL [] [1000001]) Tryz.func157 (by kernel_rfl) rfl ?_
 simp +decide only [Tryz.f157, go_sem]
 exact Runs.ret_refl
def eaA : Sched := .take 0 (.take 2 (.take 5 (.take 8 (.take 10 (.take 13 (.ld 1 (.ld 3 (.take 4 (.ld 6 (.take 7 (.take 16 (.ld 9 (.ld 11 (.take 12 (.ld 14 (.take 15 (.take 17 .fin)))))))))))))))))
def eaB : Sched := .take 0 (.take 2 (.take 4 (.take 7 (.take 9 (.ld 1 (.take 3 (.ld 5 (.take 6 (.take 8 (.ld 10 (.take 11 (.take 12 .fin))))))))))))
def eaC : Sched := .take 0 (.take 1 (.take 2 (.take 3 (.take 7 (.take 10 (.take 11 (.take 12 (.take 13 (.take 16 (.take 17 (.take 18 (.take 22 (.ld 4 (.ld 8 (.ld 14 (.take 15 (.ld 19 (.ld 23 (.alt 5 (.take 6 (.take 9 (.alt 20 (.take 21 (.take 24 (.alt 25 (.alt 26 .fin .nil) .nil))) .nil))) .nil)))))))))))))))))))
attribute [local go_sem] eaA eaB eaC
set_option maxHeartbeats 4000000 in
include hm in
theorem l4Add (k : GEd) (P Q : GPr) (hk : EdIn k) (hP : PrIn k.p P) (hQ : PrIn k.p Q) : Holds Tryz.prog 137 [edA k, prA P, prA Q] [] (prA (eaddZ k.p k.d P Q)) [] := by
 refine holds_ref (ann := []) tabOk hm (byL [] [1000003, 1000004, 1000005]) Tryz.func137 (by kernel_rfl) rfl ?_
 obtain ⟨p, d, l, bx, by'⟩ := k
 obtain ⟨x, y⟩ := P
 obtain ⟨u, v⟩ := Q
 obtain ⟨h1, h2, h3⟩ := hk
 obtain ⟨hx, hy⟩ := hP
 obtain ⟨hu, hv⟩ := hQ
 simp only at h1 h2 h3 hx hy hu hv
 have hp : 0 < p := by omega
 have b1 := mul_in hx hu (by omega)
 have b2 := mul_in hy hv (by omega)
 have b3 := mul_in hx hv (by omega)
 have b4 := mul_in hy hu (by omega)
 have m1 := mod_in' hp (x * u)
 have m2 := mod_in' hp (y * v)
 have b5 := mul_in h3 m1 (by omega)
 have m3 := mod_in' hp (d * (x * u % p))
 have b6 := mul_in m3 m2 (by omega)
 have m4 := mod_in' hp (d * (x * u % p) % p * (y * v % p))
 have m5 := mod_in' hp (x * v + y * u)
 have m6 := mod_in' hp (y * v % p + x * u % p)
 have i1 := invI_range (a := 1 + d * (x * u % p) % p * (y * v % p) % p) (m := p) hp
 have i2 := invI_range (a := 1 - d * (x * u % p) % p * (y * v % p) % p) (m := p) hp
 have b7 := mul_in m5 i1 (by omega)
 have b8 := mul_in m6 i2 (by omega)
 simp +decide only [Tryz.f137, go_sem]
 refine Runs.draw (st1 := ?s1) (draws_ref (ann := []) tabOk (byL [] [1000003, 1000004, 1000005]) eaA (by kernel_rfl) ?p1) ?q1
 case p1 =>
  intro K r X hK
  simp +decide (maxSteps := 9^7) (disch := first | omega | (simp only [ll]; omega)) only [Int.tmod_eq_emod_of_nonneg, if_pos, go_sem]
  exact hK
 case q1 =>
  simp +decide only [go_sem]
  refine Runs.draw (st1 := ?s2) (draws_ref (ann := []) tabOk (byL [] [1000003, 1000004, 1000005]) eaB (by kernel_rfl) ?p2) ?q2
  case p2 =>
   intro K r X hK
   simp +decide (maxSteps := 9^7) (disch := first | omega | (simp only [ll]; omega)) only [Int.tmod_eq_emod_of_nonneg, if_pos, go_sem]
   exact hK
  case q2 =>
   simp +decide (maxSteps := 9^7) (disch := first | omega | (simp only [ll]; omega)) only [Int.tmod_eq_emod_of_nonneg, if_pos, go_sem]
   refine Runs.draw (st1 := ?s3) (draws_ref (ann := []) tabOk (byL [] [1000003, 1000004, 1000005]) eaC (by kernel_rfl) ?p3) ?q3
   case p3 =>
    intro K r X hK
    simp +decide (maxSteps := 9^7) (disch := first | omega | (simp only [ll]; omega)) only [Int.tmod_eq_emod_of_nonneg, if_pos, go_sem]
    refine Runs.call (l2Inv hm (1 + d * (x * u % p) % p * (y * v % p) % p) p (by omega) (by omega)) ?_
    simp +decide (maxSteps := 9^7) (disch := first | omega | (simp only [ll]; omega)) only [Int.tmod_eq_emod_of_nonneg, if_pos, go_sem]
    refine Runs.call (l2Inv hm (1 - d * (x * u % p) % p * (y * v % p) % p) p (by omega) (by omega)) ?_
    simp +decide (maxSteps := 9^7) (disch := first | omega | (simp only [ll]; omega)) only [Int.tmod_eq_emod_of_nonneg, if_pos, go_sem]
    exact hK
   case q3 =>
    simp +decide only [go_sem]
    exact Runs.ret_eq (by simp [prA, eaddZ])
def esA : Sched := .take 0 (.take 2 (.take 5 (.take 8 (.take 11 (.take 14 (.take 17 (.take 20 (.take 23 (.ld 1 (.ld 3 (.take 4 (.ld 6 (.take 7 (.ld 9 (.take 10 (.ld 12 (.take 13 (.ld 15 (.take 16 (.ld 18 (.take 19 (.ld 21 (.take 22 (.ld 24 (.take 25 (.take 26 .fin))))))))))))))))))))))))))
def esB : Sched := .take 0 (.take 2 (.take 5 (.take 7 (.take 11 (.take 14 (.take 16 (.take 19 (.take 21 (.take 24 (.take 26 (.take 30 (.take 33 (.take 35 (.ld 1 (.ld 3 (.take 4 (.ld 6 (.ld 8 (.take 9 (.take 10 (.ld 12 (.take 13 (.take 15 (.ld 17 (.take 18 (.ld 20 (.ld 22 (.take 23 (.ld 25 (.ld 27 (.take 28 (.take 29 (.ld 31 (.take 32 (.take 34 (.ld 36 (.take 37 (.alt 38 (.alt 39 .fin .nil) .nil))))))))))))))))))))))))))))))))))))))
attribute [local go_sem] esA esB
set_option maxHeartbeats 4000000 in
include hm in
theorem sumE (k : GEd) (P Q : GPr) (hk : EdIn k) (hP : PrIn k.p P) (hQ : PrIn k.p Q) : Holds Tryz.prog 167 [edA k, prA P, prA Q] [] (prA (esumZ k.p k.d P Q)) [] := by
 refine holds_ref (ann := []) tabOk hm (byL [] [1000003, 1000004, 1000005]) Tryz.func167 (by kernel_rfl) rfl ?_
 obtain ⟨p, d, l, bx, by'⟩ := k
 obtain ⟨x, y⟩ := P
 obtain ⟨u, v⟩ := Q
 obtain ⟨h1, h2, h3⟩ := hk
 obtain ⟨hx, hy⟩ := hP
 obtain ⟨hu, hv⟩ := hQ
 simp only at h1 h2 h3 hx hy hu hv
 have hp : 0 < p := by omega
 have b1 := mul_in hx hu (by omega)
 have b2 := mul_in hy hv (by omega)
 have b3 := mul_in hx hv (by omega)
 have b4 := mul_in hy hu (by omega)
 have c1 := mul_in h3 hx (by omega)
 have n1 := mod_in' hp (d * x)
 have c2 := mul_in n1 hu (by omega)
 have n2 := mod_in' hp (d * x % p * u)
 have c3 := mul_in n2 hy (by omega)
 have n3 := mod_in' hp (d * x % p * u % p * y)
 have c4 := mul_in n3 hv (by omega)
 have n4 := mod_in' hp (d * x % p * u % p * y % p * v)
 have m5 := mod_in' hp (x * v + y * u)
 have m6 := mod_in' hp (y * v + x * u)
 have i1 := invI_range (a := 1 + d * x % p * u % p * y % p * v % p) (m := p) hp
 have i2 := invI_range (a := 1 - d * x % p * u % p * y % p * v % p) (m := p) hp
 have b7 := mul_in m5 i1 (by omega)
 have b8 := mul_in m6 i2 (by omega)
 simp +decide only [Tryz.f167, go_sem]
 refine Runs.draw (st1 := ?s1) (draws_ref (ann := []) tabOk (byL [] [1000003, 1000004, 1000005]) esA (by kernel_rfl) ?p1) ?q1
 case p1 =>
  intro K r X hK
  simp +decide (maxSteps := 9^7) (disch := first | omega | (simp only [ll]; omega)) only [Int.tmod_eq_emod_of_nonneg, if_pos, go_sem]
  exact hK
 case q1 =>
  simp +decide (disch := first | omega | (simp only [ll]; omega)) only [if_pos, go_sem]
  refine Runs.call (invInt hm (1 + d * x % p * u % p * y % p * v % p) p (by omega) (by omega)) ?_
  simp +decide (maxSteps := 9^7) (disch := first | omega | (simp only [ll]; omega)) only [if_pos, go_sem]
  refine Runs.call (invInt hm (1 - d * x % p * u % p * y % p * v % p) p (by omega) (by omega)) ?_
  simp +decide (maxSteps := 9^7) (disch := first | omega | (simp only [ll]; omega)) only [if_pos, go_sem]
  refine Runs.draw (st1 := ?s2) (draws_ref (ann := []) tabOk (byL [] [1000003, 1000004, 1000005]) esB (by kernel_rfl) ?p2) ?q2
  case p2 =>
   intro K r X hK
   simp +decide (maxSteps := 9^7) (disch := first | omega | (simp only [ll]; omega)) only [Int.tmod_eq_emod_of_nonneg, if_pos, go_sem]
   exact hK
  case q2 =>
   simp +decide only [go_sem]
   exact Runs.ret_eq (by simp [prA, esumZ])
end Go.Proofs.W

namespace Go.Proofs.W
open Go Go.AM Go.Proofs.G
variable (hm : Tryz.prog.follows .mixedOrders = true)
attribute [local go_sem] edA prA
def zPr : A := .agg [.v (.int .i64 0), .v (.int .i64 0)]
theorem one_in {p : Int} (h : 13 ≤ p) : PrIn p (0, 1) := ⟨⟨by show (0 : Int) ≤ 0; omega, by show (0 : Int) < p; omega⟩, ⟨by show (0 : Int) ≤ 1; omega, by show (1 : Int) < p; omega⟩⟩
def leAnn : Ann := [(0, [1, 3, 5, 6, 7])]
def leSt (k : GEd) (p : Nat × GPr × GPr) : St := ⟨[.any, .v (.int .i64 p.1), .any, .ptr [edA k] 0 0, .any, .ref (.l 0) 0 0 1, .ref (.l 1) 0 0 1, .ref (.l 2) 0 0 1, .any, .any, .any, .any, .any, .any, .any, .any, .any, .any, .any, .any, .any, .any, .any, .any, .any], [(0, ⟨true, 2, true, [prA p.2.2]⟩), (1, ⟨true, 2, true, [zPr]⟩), (2, ⟨true, 2, true, [prA p.2.1]⟩)], []⟩
set_option maxRecDepth 10000 in
set_option maxHeartbeats 4000000 in
include hm in
theorem l4Mul (k : GEd) (n : Nat) (P : GPr) (hk : EdIn k) (hP : PrIn k.p P) (hn : n ≤ 9223372036854775807) : Holds Tryz.prog 115 [edA k, .v (.int .i64 n), prA P] [] (prA (mulL (eaddZ k.p k.d) n (0, 1) P)) [] := by
 refine holds_ref (ann := leAnn) tabOk hm (byL [] [1000003]) Tryz.func115 (by kernel_rfl) rfl ?_
 have hp : 0 < k.p := by have := hk.1; omega
 simp +decide only [Tryz.f115, go_sem]
 refine Runs.while (α := Nat × GPr × GPr) (leSt k) (fun p => p.1) (fun p => p.1 ≤ n ∧ PrIn k.p p.2.1 ∧ PrIn k.p p.2.2 ∧ mulL (eaddZ k.p k.d) p.1 p.2.1 p.2.2 = mulL (eaddZ k.p k.d) n (0, 1) P) (n, (0, 1), P) ⟨Nat.le_refl _, one_in hk.1, hP, rfl⟩ ?_ ?_
 ·simp [go_sem, leAnn, leSt, zPr]
 ·rintro ⟨i, out, a⟩ ⟨hi, ho, ha, hg⟩ ih
  simp only at hi ho ha hg
  have e3 := tmod_nat i 2
  have e4 := tdiv_nat i 2
  have w3 : IntKind.i64.wrap ((i / 2 : Nat) : Int) = ((i / 2 : Nat) : Int) := wrap_i64 (by omega) (by omega)
  have c1 := l4Add hm k out a hk ho ha
  have c2 := l4Add hm k a a hk ha ha
  have o1 := eadd_in (D := k.d) hp out a
  have o2 := eadd_in (D := k.d) hp a a
  simp +decide only [leSt, zPr, go_sem]
  refine Runs.split (fun h => ?_) (fun h => ?_)
  ·have hs : i ≠ 0 := by simp at h; omega
   rw [mulL_step _ _ _ _ hs] at hg
   simp +decide (disch := first | omega | (simp only [ll]; omega)) only [if_pos, go_sem]
   rw [show (2 : Int) = ((2 : Nat) : Int) from rfl, e3]
   refine Runs.split (fun h => ?_) (fun h => ?_)
   ·have hbit : i % 2 = 1 := by simp at h; omega
    rw [if_pos hbit] at hg
    simp +decide (disch := first | omega | (simp only [ll]; omega)) only [if_pos, go_sem]
    refine Runs.call c1 ?_
    simp +decide (disch := first | omega | (simp only [ll]; omega)) only [if_pos, go_sem]
    refine Runs.call c2 ?_
    simp +decide (disch := first | omega | (simp only [ll]; omega)) only [e4, w3, if_pos, go_sem]
    refine ih (i / 2, eaddZ k.p k.d out a, eaddZ k.p k.d a a) _ (by simp only; omega) ⟨by simp only; omega, o1, o2, hg⟩ ?_
    simp [go_sem, leAnn, leSt, zPr]
   ·have hbit : ¬ i % 2 = 1 := by simp at h; omega
    rw [if_neg hbit] at hg
    simp +decide (disch := first | omega | (simp only [ll]; omega)) only [if_pos, go_sem]
    refine Runs.call c2 ?_
    simp +decide (disch := first | omega | (simp only [ll]; omega)) only [e4, w3, if_pos, go_sem]
    refine ih (i / 2, out, eaddZ k.p k.d a a) _ (by simp only; omega) ⟨by simp only; omega, ho, o2, hg⟩ ?_
    simp [go_sem, leAnn, leSt, zPr]
  ·have hs : i = 0 := by simp at h; omega
   subst hs
   rw [mulL_zero] at hg
   simp +decide only [go_sem]
   exact Runs.ret_eq (by rw [← hg])
def teAnn : Ann := [(0, [1, 3, 5, 6, 7, 8])]
def teSt (k : GEd) (n : Nat) (P : GPr) (p : Int × GPr) : St := ⟨[.any, .v (.int .i64 n), .any, .ptr [edA k] 0 0, .any, .ptr [prA P] 0 0, .ref (.l 0) 0 0 1, .ref (.l 1) 0 0 1, .v (.int .i64 p.1), .any, .any, .any, .any, .any, .any, .any, .any, .any, .any, .any, .any, .any, .any, .any, .any, .any, .any, .any, .any, .any, .any, .any], [(0, ⟨true, 2, true, [zPr]⟩), (1, ⟨true, 2, true, [prA p.2]⟩)], []⟩
set_option maxRecDepth 10000 in
set_option maxHeartbeats 4000000 in
include hm in
theorem timesE (k : GEd) (n : Nat) (P : GPr) (hk : EdIn k) (hP : PrIn k.p P) (hn : n ≤ 9223372036854775807) : Holds Tryz.prog 158 [edA k, .v (.int .i64 n), prA P] [] (prA (mulM (esumZ k.p k.d) (0, 1) n P)) [] := by
 refine holds_ref (ann := teAnn) tabOk hm (byL [] [1000003, 1000005]) Tryz.func158 (by kernel_rfl) rfl ?_
 have hp : 0 < k.p := by have := hk.1; omega
 have hl : blen n ≤ 63 := blen_le (by omega)
 simp +decide (disch := first | omega | (simp only [ll]; omega)) only [Tryz.f158, if_pos, go_sem]
 refine Runs.call (bitsLen hm n (by omega)) ?_
 simp +decide (disch := first | omega | (simp only [ll]; omega)) only [if_pos, go_sem]
 refine Runs.while (α := Int × GPr) (teSt k n P) (fun p => (p.1 + 1).toNat) (fun p => -1 ≤ p.1 ∧ p.1 ≤ 62 ∧ PrIn k.p p.2 ∧ (p.1 = -1 ∨ 2 ^ p.1.toNat ≤ n) ∧ p.2 = mulM (esumZ k.p k.d) (0, 1) (n / 2 ^ (p.1 + 1).toNat) P) ((blen n : Int) - 1, (0, 1)) ⟨by simp only; omega, by simp only; omega, one_in hk.1, ?_, ?_⟩ ?_ ?_
 ·simp only
  by_cases hz : n = 0
  ·left; subst hz; rw [blen_zero]; rfl
  ·right
   have := blen_ge hz
   have hp := blen_pos hz
   have e : ((blen n : Int) - 1).toNat = blen n - 1 := by omega
   rw [e]
   exact this
 ·simp only
  have e : ((blen n : Int) - 1 + 1).toNat = blen n := by omega
  rw [e, Nat.div_eq_of_lt blen_lt, mulM_zero]
 ·simp [go_sem, teAnn, teSt, zPr]
 ·rintro ⟨i, out⟩ ⟨hi1, hi2, ho, hi3, hg⟩ ih
  simp only at hi1 hi2 ho hi3 hg
  simp +decide only [teSt, zPr, go_sem]
  refine Runs.split (fun h => ?_) (fun h => ?_)
  ·have hs : 0 ≤ i := by simpa using h
   obtain ⟨j, rfl⟩ := nat_of hs
   have hk' : 2 ^ j ≤ n := by
    rcases hi3 with h | h
    ·omega
    ·simpa using h
   have ek : ((j : Int) + 1).toNat = j + 1 := by omega
   rw [ek] at hg
   have hst := mulM_step (esumZ k.p k.d) (0, 1) n j P hk'
   rw [← hg] at hst
   have c1 := sumE hm k out out hk ho ho
   have o1 := esum_in (D := k.d) hp out out
   have c2 := sumE hm k (esumZ k.p k.d out out) P hk o1 hP
   have o2 := esum_in (D := k.d) hp (esumZ k.p k.d out out) P
   have hq := Nat.div_le_self n (2 ^ j)
   have ea := andI_one (n / 2 ^ j) (by omega)
   have em : min j 64 = j := by omega
   have es := shr_nat n j
   have hpow : j = 0 ∨ 2 ^ (j - 1) ≤ n := by
    rcases Nat.eq_zero_or_pos j with h | h
    ·exact .inl h
    ·right; exact Nat.le_trans (Nat.pow_le_pow_right (by omega) (by omega)) hk'
   simp +decide (disch := first | omega | (simp only [ll]; omega)) only [if_pos, go_sem]
   refine Runs.call c1 ?_
   simp +decide (disch := first | omega | (simp only [ll]; omega)) only [em, es, ea, if_pos, go_sem]
   refine Runs.split (fun h => ?_) (fun h => ?_)
   ·have hbit : n / 2 ^ j % 2 = 1 := by simp only [decide_eq_true_eq] at h; omega
    rw [if_pos hbit] at hst
    simp +decide (disch := first | omega | (simp only [ll]; omega)) only [if_pos, go_sem]
    refine Runs.call c2 ?_
    simp +decide (disch := first | omega | (simp only [ll]; omega)) only [if_pos, go_sem]
    refine ih ((j : Int) - 1, esumZ k.p k.d (esumZ k.p k.d out out) P) _ (by simp only; omega) ⟨by simp only; omega, by simp only; omega, o2, ?_, ?_⟩ ?_
    ·simp only
     rcases hpow with h | h
     ·left; omega
     ·right
      have e : ((j : Int) - 1).toNat = j - 1 := by omega
      rw [e]; exact h
    ·simp only
     have e : ((j : Int) - 1 + 1).toNat = j := by omega
     rw [e, hst]
    ·simp [go_sem, teAnn, teSt, zPr]
   ·have hbit : ¬ n / 2 ^ j % 2 = 1 := by simp only [decide_eq_false_iff_not] at h; omega
    rw [if_neg hbit] at hst
    simp +decide (disch := first | omega | (simp only [ll]; omega)) only [if_pos, go_sem]
    refine ih ((j : Int) - 1, esumZ k.p k.d out out) _ (by simp only; omega) ⟨by simp only; omega, by simp only; omega, o1, ?_, ?_⟩ ?_
    ·simp only
     rcases hpow with h | h
     ·left; omega
     ·right
      have e : ((j : Int) - 1).toNat = j - 1 := by omega
      rw [e]; exact h
    ·simp only
     have e : ((j : Int) - 1 + 1).toNat = j := by omega
     rw [e, hst]
    ·simp [go_sem, teAnn, teSt, zPr]
  ·have hs : i = -1 := by simp at h; omega
   subst hs
   simp at hg
   simp +decide only [go_sem]
   exact Runs.ret_eq (by rw [← hg])
end Go.Proofs.W

namespace Go.Proofs.W
open Go Go.AM Go.Proofs.G
set_option maxRecDepth 10000
variable (hm : Tryz.prog.follows .mixedOrders = true)
attribute [local go_sem] edA prA
noncomputable def edB (k : GEd) : Bool :=
 inB k.p 13 1048576 && decide (k.p.tmod 8 = 5) && primeZ k.p && inB k.d 2 (k.p - 1) && decide (powZ k.d ((k.p.toNat - 1) / 2) k.p = k.p - 1) && inB k.l 5 2097152 && primeZ k.l &&
 eonZ k.p k.d (k.bx, k.by') && !(decide (k.bx = 0) && decide (k.by' = 1)) && (decide ((mulL (eaddZ k.p k.d) k.l.toNat (0, 1) (k.bx, k.by')).1 = 0) && decide ((mulL (eaddZ k.p k.d) k.l.toNat (0, 1) (k.bx, k.by')).2 = 1))
theorem eonZ_in {p D : Int} {P : GPr} (h : eonZ p D P = true) : PrIn p P := by
 unfold eonZ at h
 simp only [Bool.and_eq_true, decide_eq_true_eq] at h
 exact ⟨by omega, by omega⟩
theorem ed_in {k : GEd} (h : edB k = true) : EdIn k := by
 simp only [edB, Bool.and_eq_true] at h
 obtain ⟨⟨⟨⟨⟨⟨⟨⟨⟨c1, _⟩, _⟩, c4⟩, _⟩, _⟩, _⟩, _⟩, _⟩, _⟩ := h
 have := inB_t c1
 have := inB_t c4
 exact ⟨by omega, by omega, by omega⟩
theorem half_p {p : Int} (h : 1 ≤ p) : (p - 1).tdiv 2 = ((p.toNat - 1) / 2 : Nat) := by
 rw [Int.tdiv_eq_ediv_of_nonneg (by omega)]
 omega
def seS : Sched := .take 0 (.ld 1 (.alt 2 (.take 3 (.take 4 (.take 5 (.ld 6 (.take 7 (.take 8 (.take 9 (.take 10 (.take 11 (.ld 12 (.alt 13 (.take 14 (.take 15 (.take 16 (.take 17 (.take 19 (.ld 18 (.ld 20 (.take 21 (.alt 22 (.take 23 (.take 24 (.take 25 (.take 26 (.take 28 (.take 32 (.take 35 (.ld 27 (.ld 29 (.take 30 (.take 31 (.ld 33 (.ld 36 (.take 37 (.alt 34 (.take 38 (.take 39 (.take 40 (.take 41 (.ld 42 (.alt 43 (.take 44 (.take 45 (.take 46 (.take 47 (.ld 48 (.alt 49 (.take 50 (.take 51 .fin)) .nil)))))) .nil)))))) .nil))))))))))))))) .nil))))))))) .nil))))))))))) .nil))
attribute [local go_sem] seS
set_option maxHeartbeats 8000000 in
include hm in
theorem sEdOk (k : GEd) : Holds Tryz.prog 94 [edA k] [] (.v (.bool (edB k))) [] := by
 refine holds_ref (ann := []) tabOk hm (byL [] [1000001]) Tryz.func94 (by kernel_rfl) rfl ?_
 obtain ⟨p, d, l, bx, by'⟩ := k
 have hc1 := l1In hm p 13 1048576
 have hc3 := sPrime hm p
 have hc4 := l1In hm d 2 (p - 1)
 have hc6 := l1In hm l 5 2097152
 have hc7 := sPrime hm l
 simp +decide only [Tryz.f94, go_sem]
 cases e1 : inB p 13 1048576 with
 | false =>
  rw [e1] at hc1
  have e : edB ⟨p, d, l, bx, by'⟩ = false := by simp [edB, e1]
  refine Runs.draw (st1 := ?s1) (draws_ref (ann := []) tabOk (byL [] [1000001]) seS (by kernel_rfl) ?p1) ?q1
  case p1 =>
   intro K r X hK
   simp +decide (maxSteps := 9^7) (disch := first | omega | (simp only [ll]; omega)) only [if_pos, go_sem]
   refine Runs.call hc1 ?_
   simp +decide (maxSteps := 9^7) (disch := first | omega | (simp only [ll]; omega)) only [if_pos, go_sem]
   exact hK
  case q1 =>
   simp +decide (maxSteps := 9^7) only [e, go_sem]
   exact Runs.ret_v
 | true =>
  rw [e1] at hc1
  have ip := inB_t e1
  have hh := half_p (p := p) (by omega)
  by_cases e2 : p.tmod 8 = 5
  case neg =>
   have e : edB ⟨p, d, l, bx, by'⟩ = false := by simp [edB, e2]
   refine Runs.draw (st1 := ?s2) (draws_ref (ann := []) tabOk (byL [] [1000001]) seS (by kernel_rfl) ?p2) ?q2
   case p2 =>
    intro K r X hK
    simp +decide (maxSteps := 9^7) (disch := first | omega | (simp only [ll]; omega)) only [if_pos, go_sem]
    refine Runs.call hc1 ?_
    simp +decide (maxSteps := 9^7) (disch := first | omega | (simp only [ll]; omega)) only [e2, if_pos, go_sem]
    exact hK
   case q2 =>
    simp +decide (maxSteps := 9^7) only [e, go_sem]
    exact Runs.ret_v
  case pos =>
  cases e3 : primeZ p with
  | false =>
   rw [e3] at hc3
   have e : edB ⟨p, d, l, bx, by'⟩ = false := by simp [edB, e3]
   refine Runs.draw (st1 := ?s3) (draws_ref (ann := []) tabOk (byL [] [1000001]) seS (by kernel_rfl) ?p3) ?q3
   case p3 =>
    intro K r X hK
    simp +decide (maxSteps := 9^7) (disch := first | omega | (simp only [ll]; omega)) only [if_pos, go_sem]
    refine Runs.call hc1 ?_
    simp +decide (maxSteps := 9^7) (disch := first | omega | (simp only [ll]; omega)) only [e2, if_pos, go_sem]
    refine Runs.call hc3 ?_
    simp +decide (maxSteps := 9^7) (disch := first | omega | (simp only [ll]; omega)) only [if_pos, go_sem]
    exact hK
   case q3 =>
    simp +decide (maxSteps := 9^7) only [e, go_sem]
    exact Runs.ret_v
  | true =>
   rw [e3] at hc3
   cases e4 : inB d 2 (p - 1) with
   | false =>
    rw [e4] at hc4
    have e : edB ⟨p, d, l, bx, by'⟩ = false := by simp [edB, e4]
    refine Runs.draw (st1 := ?s4) (draws_ref (ann := []) tabOk (byL [] [1000001]) seS (by kernel_rfl) ?p4) ?q4
    case p4 =>
     intro K r X hK
     simp +decide (maxSteps := 9^7) (disch := first | omega | (simp only [ll]; omega)) only [if_pos, go_sem]
     refine Runs.call hc1 ?_
     simp +decide (maxSteps := 9^7) (disch := first | omega | (simp only [ll]; omega)) only [e2, if_pos, go_sem]
     refine Runs.call hc3 ?_
     simp +decide (maxSteps := 9^7) (disch := first | omega | (simp only [ll]; omega)) only [if_pos, go_sem]
     refine Runs.call hc4 ?_
     simp +decide (maxSteps := 9^7) (disch := first | omega | (simp only [ll]; omega)) only [if_pos, go_sem]
     exact hK
    case q4 =>
     simp +decide (maxSteps := 9^7) only [e, go_sem]
     exact Runs.ret_v
   | true =>
    rw [e4] at hc4
    have id := inB_t e4
    have hc5 := l2Pow hm d p ((p.toNat - 1) / 2) (by omega) (by omega) (by omega) (by omega)
    by_cases e5 : powZ d ((p.toNat - 1) / 2) p = p - 1
    case neg =>
     have e : edB ⟨p, d, l, bx, by'⟩ = false := by simp [edB, e5]
     refine Runs.draw (st1 := ?s5) (draws_ref (ann := []) tabOk (byL [] [1000001]) seS (by kernel_rfl) ?p5) ?q5
     case p5 =>
      intro K r X hK
      simp +decide (maxSteps := 9^7) (disch := first | omega | (simp only [ll]; omega)) only [if_pos, go_sem]
      refine Runs.call hc1 ?_
      simp +decide (maxSteps := 9^7) (disch := first | omega | (simp only [ll]; omega)) only [e2, if_pos, go_sem]
      refine Runs.call hc3 ?_
      simp +decide (maxSteps := 9^7) (disch := first | omega | (simp only [ll]; omega)) only [if_pos, go_sem]
      refine Runs.call hc4 ?_
      simp +decide (maxSteps := 9^7) (disch := first | omega | (simp only [ll]; omega)) only [hh, if_pos, go_sem]
      refine Runs.call hc5 ?_
      simp +decide (maxSteps := 9^7) (disch := first | omega | (simp only [ll]; omega)) only [e5, if_pos, go_sem]
      exact hK
     case q5 =>
      simp +decide (maxSteps := 9^7) only [e, go_sem]
      exact Runs.ret_v
    case pos =>
    cases e6 : inB l 5 2097152 with
    | false =>
     rw [e6] at hc6
     have e : edB ⟨p, d, l, bx, by'⟩ = false := by simp [edB, e6]
     refine Runs.draw (st1 := ?s6) (draws_ref (ann := []) tabOk (byL [] [1000001]) seS (by kernel_rfl) ?p6) ?q6
     case p6 =>
      intro K r X hK
      simp +decide (maxSteps := 9^7) (disch := first | omega | (simp only [ll]; omega)) only [if_pos, go_sem]
      refine Runs.call hc1 ?_
      simp +decide (maxSteps := 9^7) (disch := first | omega | (simp only [ll]; omega)) only [e2, if_pos, go_sem]
      refine Runs.call hc3 ?_
      simp +decide (maxSteps := 9^7) (disch := first | omega | (simp only [ll]; omega)) only [if_pos, go_sem]
      refine Runs.call hc4 ?_
      simp +decide (maxSteps := 9^7) (disch := first | omega | (simp only [ll]; omega)) only [hh, if_pos, go_sem]
      refine Runs.call hc5 ?_
      simp +decide (maxSteps := 9^7) (disch := first | omega | (simp only [ll]; omega)) only [e5, if_pos, go_sem]
      refine Runs.call hc6 ?_
      simp +decide (maxSteps := 9^7) (disch := first | omega | (simp only [ll]; omega)) only [if_pos, go_sem]
      exact hK
     case q6 =>
      simp +decide (maxSteps := 9^7) only [e, go_sem]
      exact Runs.ret_v
    | true =>
     rw [e6] at hc6
     cases e7 : primeZ l with
     | false =>
      rw [e7] at hc7
      have e : edB ⟨p, d, l, bx, by'⟩ = false := by simp [edB, e7]
      refine Runs.draw (st1 := ?s7) (draws_ref (ann := []) tabOk (byL [] [1000001]) seS (by kernel_rfl) ?p7) ?q7
      case p7 =>
       intro K r X hK
       simp +decide (maxSteps := 9^7) (disch := first | omega | (simp only [ll]; omega)) only [if_pos, go_sem]
       refine Runs.call hc1 ?_
       simp +decide (maxSteps := 9^7) (disch := first | omega | (simp only [ll]; omega)) only [e2, if_pos, go_sem]
       refine Runs.call hc3 ?_
       simp +decide (maxSteps := 9^7) (disch := first | omega | (simp only [ll]; omega)) only [if_pos, go_sem]
       refine Runs.call hc4 ?_
       simp +decide (maxSteps := 9^7) (disch := first | omega | (simp only [ll]; omega)) only [hh, if_pos, go_sem]
       refine Runs.call hc5 ?_
       simp +decide (maxSteps := 9^7) (disch := first | omega | (simp only [ll]; omega)) only [e5, if_pos, go_sem]
       refine Runs.call hc6 ?_
       simp +decide (maxSteps := 9^7) (disch := first | omega | (simp only [ll]; omega)) only [if_pos, go_sem]
       refine Runs.call hc7 ?_
       simp +decide (maxSteps := 9^7) (disch := first | omega | (simp only [ll]; omega)) only [if_pos, go_sem]
       exact hK
      case q7 =>
       simp +decide (maxSteps := 9^7) only [e, go_sem]
       exact Runs.ret_v
     | true =>
      rw [e7] at hc7
      have il := inB_t e6
      have hl : ((l.toNat : Nat) : Int) = l := Int.toNat_of_nonneg (by omega)
      have kin : EdIn ⟨p, d, l, bx, by'⟩ := ⟨by simp only; omega, by simp only; omega, by simp only; omega⟩
      refine Runs.draw (st1 := ?s8) (draws_ref (ann := []) tabOk (byL [] [1000001]) seS (by kernel_rfl) ?p8) ?q8
      case p8 =>
       intro K r X hK
       simp +decide (maxSteps := 9^7) (disch := first | omega | (simp only [ll]; omega)) only [if_pos, go_sem]
       refine Runs.call hc1 ?_
       simp +decide (maxSteps := 9^7) (disch := first | omega | (simp only [ll]; omega)) only [e2, if_pos, go_sem]
       refine Runs.call hc3 ?_
       simp +decide (maxSteps := 9^7) (disch := first | omega | (simp only [ll]; omega)) only [if_pos, go_sem]
       refine Runs.call hc4 ?_
       simp +decide (maxSteps := 9^7) (disch := first | omega | (simp only [ll]; omega)) only [hh, if_pos, go_sem]
       refine Runs.call hc5 ?_
       simp +decide (maxSteps := 9^7) (disch := first | omega | (simp only [ll]; omega)) only [e5, if_pos, go_sem]
       refine Runs.call hc6 ?_
       simp +decide (maxSteps := 9^7) (disch := first | omega | (simp only [ll]; omega)) only [if_pos, go_sem]
       refine Runs.call hc7 ?_
       simp +decide (maxSteps := 9^7) (disch := first | omega | (simp only [ll]; omega)) only [if_pos, go_sem]
       exact hK
      case q8 =>
       simp +decide (maxSteps := 9^7) only [go_sem]
       refine Runs.call (l4On hm ⟨p, d, l, bx, by'⟩ (bx, by') kin) ?_
       simp +decide (maxSteps := 9^7) only [go_sem]
       refine Runs.split (fun c9 => ?_) (fun c9 => ?_)
       ·have gin := eonZ_in c9
        have hM := l4Mul hm ⟨p, d, l, bx, by'⟩ l.toNat (bx, by') kin gin (by omega)
        simp only at hM
        rw [hl] at hM
        simp +decide (maxSteps := 9^7) only [go_sem]
        refine Runs.split (fun c10 => ?_) (fun c10 => ?_)
        ·simp +decide (maxSteps := 9^7) only [go_sem]
         refine Runs.call hM ?_
         simp +decide (maxSteps := 9^7) only [go_sem]
         exact Runs.ret_eq (by simp at c10; simp [edB, e1, e2, e3, e4, e5, e6, e7, c9]; exact fun _ _ => c10)
        ·have e : edB ⟨p, d, l, bx, by'⟩ = false := by simp at c10; simp [edB, c10]
         simp +decide (maxSteps := 9^7) only [e, go_sem]
         exact Runs.ret_v
       ·have e : edB ⟨p, d, l, bx, by'⟩ = false := by simp [edB, c9]
        simp +decide (maxSteps := 9^7) only [e, go_sem]
        exact Runs.ret_v
def ieS : Sched := .take 0 (.take 2 (.take 6 (.ld 1 (.ld 3 (.take 4 (.take 5 (.ld 7 (.alt 8 (.take 9 (.take 10 (.ld 11 (.ld 12 (.alt 13 (.alt 14 (.take 15 (.take 16 (.take 17 (.ld 18 (.alt 19 (.alt 20 (.take 21 (.take 22 .fin)) .nil) (.alt 20 (.alt 19 (.take 21 (.take 22 .fin)) .nil) .nil)))))) .nil) .nil))))) .nil))))))))
def ieT : Sched := .take 1 (.ld 0 (.ld 2 (.ld 3 (.alt 4 (.alt 5 (.alt 6 (.take 7 (.take 8 .fin)) .nil) (.alt 6 (.alt 5 (.take 7 (.take 8 .fin)) .nil) .nil)) (.alt 6 (.alt 4 (.alt 5 (.take 7 (.take 8 .fin)) .nil) .nil) .nil)))))
attribute [local go_sem] ieS ieT
set_option maxHeartbeats 8000000 in
include hm in
theorem iEdOk (k : GEd) : Holds Tryz.prog 135 [edA k] [] (.v (.bool (edB k))) [] := by
 refine holds_ref (ann := []) tabOk hm (byL [] [1000001]) Tryz.func135 (by kernel_rfl) rfl ?_
 obtain ⟨p, d, l, bx, by'⟩ := k
 simp +decide only [Tryz.f135, go_sem]
 refine Runs.call (within hm p 13 1048576) ?_
 simp +decide (maxSteps := 9^7) only [go_sem]
 refine Runs.split (fun e1 => ?_) (fun e1 => ?_)
 ·have e : edB ⟨p, d, l, bx, by'⟩ = false := by simp only [Bool.not_eq_true'] at e1; simp [edB, e1]
  simp +decide (maxSteps := 9^7) only [e, go_sem]
  exact Runs.ret_v
 simp only [Bool.not_eq_false'] at e1
 have ip := inB_t e1
 simp +decide (maxSteps := 9^7) (disch := first | omega | (simp only [ll]; omega)) only [if_pos, go_sem]
 refine Runs.split (fun c2 => ?_) (fun c2 => ?_)
 ·have e : edB ⟨p, d, l, bx, by'⟩ = false := by
   have : ¬ p.tmod 8 = 5 := by simpa using c2
   simp [edB, this]
  simp +decide (maxSteps := 9^7) only [e, go_sem]
  exact Runs.ret_v
 have e2 : p.tmod 8 = 5 := by simpa using c2
 simp +decide (maxSteps := 9^7) (disch := first | omega | (simp only [ll]; omega)) only [if_pos, go_sem]
 refine Runs.call (within hm d 2 (p - 1)) ?_
 simp +decide (maxSteps := 9^7) only [go_sem]
 refine Runs.split (fun e4 => ?_) (fun e4 => ?_)
 ·have e : edB ⟨p, d, l, bx, by'⟩ = false := by simp only [Bool.not_eq_true'] at e4; simp [edB, e4]
  simp +decide (maxSteps := 9^7) only [e, go_sem]
  exact Runs.ret_v
 simp only [Bool.not_eq_false'] at e4
 have id := inB_t e4
 simp +decide (maxSteps := 9^7) (disch := first | omega | (simp only [ll]; omega)) only [if_pos, go_sem]
 refine Runs.call (within hm l 5 2097152) ?_
 simp +decide (maxSteps := 9^7) only [go_sem]
 refine Runs.split (fun e6 => ?_) (fun e6 => ?_)
 ·have e : edB ⟨p, d, l, bx, by'⟩ = false := by simp only [Bool.not_eq_true'] at e6; simp [edB, e6]
  simp +decide (maxSteps := 9^7) only [e, go_sem]
  exact Runs.ret_v
 simp only [Bool.not_eq_false'] at e6
 have il := inB_t e6
 simp +decide (maxSteps := 9^7) (disch := first | omega | (simp only [ll]; omega)) only [if_pos, go_sem]
 refine Runs.call (iPrime hm p) ?_
 simp +decide (maxSteps := 9^7) only [go_sem]
 refine Runs.split (fun e3 => ?_) (fun e3 => ?_)
 ·have e : edB ⟨p, d, l, bx, by'⟩ = false := by simp only [Bool.not_eq_true'] at e3; simp [edB, e3]
  simp +decide (maxSteps := 9^7) only [e, go_sem]
  exact Runs.ret_v
 simp only [Bool.not_eq_false'] at e3
 have ep := (primeZ_of e3).2.2
 simp +decide (maxSteps := 9^7) (disch := first | omega | (simp only [ll]; omega)) only [if_pos, go_sem]
 refine Runs.call (iPrime hm l) ?_
 simp +decide (maxSteps := 9^7) only [go_sem]
 refine Runs.split (fun e7 => ?_) (fun e7 => ?_)
 ·have e : edB ⟨p, d, l, bx, by'⟩ = false := by simp only [Bool.not_eq_true'] at e7; simp [edB, e7]
  simp +decide (maxSteps := 9^7) only [e, go_sem]
  exact Runs.ret_v
 simp only [Bool.not_eq_false'] at e7
 skip
 simp +decide (maxSteps := 9^7) (disch := first | omega | (simp only [ll]; omega)) only [if_pos, go_sem]
 have hl : ((l.toNat : Nat) : Int) = l := Int.toNat_of_nonneg (by omega)
 have kin : EdIn ⟨p, d, l, bx, by'⟩ := ⟨by simp only; omega, by simp only; omega, by simp only; omega⟩
 have hh := half_p (p := p) (by omega)
 have e8 : p % 8 = 5 := by rw [Int.tmod_eq_emod_of_nonneg (by omega)] at e2; exact e2
 have hd := d_same (D := d) (by omega) ep e8 (by omega)
 have hc5 := powInt hm d p ((p.toNat - 1) / 2) (by omega) (by omega) (by omega) (by omega)
 have hB := baseE hm ⟨p, d, l, bx, by'⟩
 have hP := isPair hm ⟨p, d, l, bx, by'⟩ (bx, by') kin
 simp only at hB hP
 by_cases e5 : powZ d ((p.toNat - 1) / 2) p = 1
 ·have e : edB ⟨p, d, l, bx, by'⟩ = false := by
   have : ¬ powZ d ((p.toNat - 1) / 2) p = p - 1 := fun h => hd.mp h e5
   simp [edB, this]
  rw [e5] at hc5
  refine Runs.draw (st1 := ?s1) (draws_ref (ann := []) tabOk (byL [] [1000001]) ieS (by kernel_rfl) ?p1) ?q1
  case p1 =>
   intro K r X hK
   simp +decide (maxSteps := 9^7) (disch := first | omega | (simp only [ll]; omega)) only [hh, if_pos, go_sem]
   refine Runs.call hc5 ?_
   simp +decide (maxSteps := 9^7) (disch := first | omega | (simp only [ll]; omega)) only [if_pos, go_sem]
   exact hK
  case q1 =>
   simp +decide (maxSteps := 9^7) only [e, go_sem]
   exact Runs.ret_v
 ·have e5' := hd.mpr e5
  cases e9 : eonZ p d (bx, by') with
  | false =>
   have e : edB ⟨p, d, l, bx, by'⟩ = false := by simp [edB, e9]
   rw [e9] at hP
   refine Runs.draw (st1 := ?s2) (draws_ref (ann := []) tabOk (byL [] [1000001]) ieS (by kernel_rfl) ?p2) ?q2
   case p2 =>
    intro K r X hK
    simp +decide (maxSteps := 9^7) (disch := first | omega | (simp only [ll]; omega)) only [hh, if_pos, go_sem]
    refine Runs.call hc5 ?_
    simp +decide (maxSteps := 9^7) (disch := first | omega | (simp only [ll]; omega)) only [e5, if_pos, go_sem]
    refine Runs.call hB ?_
    simp +decide (maxSteps := 9^7) (disch := first | omega | (simp only [ll]; omega)) only [if_pos, go_sem]
    refine Runs.call hP ?_
    simp +decide (maxSteps := 9^7) (disch := first | omega | (simp only [ll]; omega)) only [if_pos, go_sem]
    exact hK
   case q2 =>
    simp +decide (maxSteps := 9^7) only [e, go_sem]
    exact Runs.ret_v
  | true =>
   rw [e9] at hP
   by_cases e10 : bx = 0 ∧ by' = 1
   ·obtain ⟨rfl, rfl⟩ := e10
    have e : edB ⟨p, d, l, 0, 1⟩ = false := by simp [edB]
    refine Runs.draw (st1 := ?s3) (draws_ref (ann := []) tabOk (byL [] [1000001]) ieS (by kernel_rfl) ?p3) ?q3
    case p3 =>
     intro K r X hK
     simp +decide (maxSteps := 9^7) (disch := first | omega | (simp only [ll]; omega)) only [hh, if_pos, go_sem]
     refine Runs.call hc5 ?_
     simp +decide (maxSteps := 9^7) (disch := first | omega | (simp only [ll]; omega)) only [e5, if_pos, go_sem]
     refine Runs.call hB ?_
     simp +decide (maxSteps := 9^7) (disch := first | omega | (simp only [ll]; omega)) only [if_pos, go_sem]
     refine Runs.call hP ?_
     simp +decide (maxSteps := 9^7) (disch := first | omega | (simp only [ll]; omega)) only [if_pos, go_sem]
     repeat' apply And.intro
     all_goals
      refine Runs.call hB ?_
      simp +decide (maxSteps := 9^7) (disch := first | omega | (simp only [ll]; omega)) only [if_pos, go_sem]
      exact hK
    case q3 =>
     simp +decide (maxSteps := 9^7) only [e, go_sem]
     exact Runs.ret_v
   ·have e10' : (decide (bx = 0) && decide (by' = 1)) = false := by simp; omega
    have gin := eonZ_in e9
    have hM := timesE hm ⟨p, d, l, bx, by'⟩ l.toNat (bx, by') kin gin (by omega)
    simp only at hM
    rw [hl, etimes_same (by omega) ep e8 (by omega) e5' e9 l.toNat] at hM
    refine Runs.draw (st1 := ?s4) (draws_ref (ann := []) tabOk (byL [] [1000001]) ieS (by kernel_rfl) ?p4) ?q4
    case p4 =>
     intro K r X hK
     simp +decide (maxSteps := 9^7) (disch := first | omega | (simp only [ll]; omega)) only [hh, if_pos, go_sem]
     refine Runs.call hc5 ?_
     simp +decide (maxSteps := 9^7) (disch := first | omega | (simp only [ll]; omega)) only [e5, if_pos, go_sem]
     refine Runs.call hB ?_
     simp +decide (maxSteps := 9^7) (disch := first | omega | (simp only [ll]; omega)) only [if_pos, go_sem]
     refine Runs.call hP ?_
     simp +decide (maxSteps := 9^7) (disch := first | omega | (simp only [ll]; omega)) only [if_pos, go_sem]
     repeat' apply And.intro
     all_goals
      refine Runs.call hB ?_
      simp +decide (maxSteps := 9^7) (disch := first | omega | (simp only [ll]; omega)) only [e10', if_pos, go_sem]
      exact hK
    case q4 =>
     simp +decide (maxSteps := 9^7) only [e10', go_sem]
     refine Runs.draw (st1 := ?s5) (draws_ref (ann := []) tabOk (byL [] [1000001]) ieT (by kernel_rfl) ?p5) ?q5
     case p5 =>
      intro K r X hK
      simp +decide (maxSteps := 9^7) (disch := first | omega | (simp only [ll]; omega)) only [if_pos, go_sem]
      repeat' apply And.intro
      all_goals
       refine Runs.call hB ?_
       simp +decide (maxSteps := 9^7) (disch := first | omega | (simp only [ll]; omega)) only [if_pos, go_sem]
       repeat' apply And.intro
       all_goals
        refine Runs.call hM ?_
        simp +decide (maxSteps := 9^7) (disch := first | omega | (simp only [ll]; omega)) only [if_pos, go_sem]
        exact hK
     case q5 =>
      simp +decide (maxSteps := 9^7) only [go_sem]
      exact Runs.ret_eq (by simp [edB, e1, e2, e3, e4, e5', e6, e7, e9, e10'])
include hm in
theorem sPairOk (k : GEd) (P : GPr) : Holds Tryz.prog 82 [edA k, prA P] [] (.v (.bool (edB k && eonZ k.p k.d P))) [] := by
 refine holds_ref (ann := []) tabOk hm (byL [] [1000002, 1000003]) Tryz.func82 (by kernel_rfl) rfl ?_
 simp +decide only [Tryz.f82, go_sem]
 refine Runs.call (sEdOk hm k) ?_
 simp +decide only [go_sem]
 refine Runs.split (fun c => ?_) (fun c => ?_)
 ·simp +decide only [go_sem]
  refine Runs.call (l4On hm k P (ed_in c)) ?_
  simp +decide only [c, go_sem]
  exact Runs.ret_eq (by simp)
 ·simp +decide only [c, go_sem]
  exact Runs.ret_eq (by simp)
include hm in
theorem iPairOk (k : GEd) (P : GPr) : Holds Tryz.prog 110 [edA k, prA P] [] (.v (.bool (edB k && eonZ k.p k.d P))) [] := by
 refine holds_ref (ann := []) tabOk hm (byL [] [1000002, 1000003]) Tryz.func110 (by kernel_rfl) rfl ?_
 simp +decide only [Tryz.f110, go_sem]
 refine Runs.call (iEdOk hm k) ?_
 simp +decide only [go_sem]
 refine Runs.split (fun c => ?_) (fun c => ?_)
 ·simp +decide only [go_sem]
  refine Runs.call (isPair hm k P (ed_in c)) ?_
  simp +decide only [c, go_sem]
  exact Runs.ret_eq (by simp)
 ·simp +decide only [c, go_sem]
  exact Runs.ret_eq (by simp)
end Go.Proofs.W

namespace Go.Proofs.W
open Go Go.AM Go.Proofs.G
set_option maxRecDepth 10000
variable (hm : Tryz.prog.follows .mixedOrders = true)
attribute [local go_sem] edA prA cvA ptA
structure GKey where
 kind : Int
 N : List Int
 e : Int
 cv : GCv
 q : GPt
 ed : GEd
 a : GPr
def keyA (k : GKey) : A := .agg [.v (.int .i64 k.kind), .sl .sh (k.N.map intA), .v (.int .i64 k.e), .v (.int .i64 k.cv.p), .v (.int .i64 k.cv.a), .v (.int .i64 k.cv.b), .v (.int .i64 k.cv.n), .v (.int .i64 k.cv.gx), .v (.int .i64 k.cv.gy),
 .v (.int .i64 k.q.x), .v (.int .i64 k.q.y), .v (.bool k.q.far), .v (.int .i64 k.ed.p), .v (.int .i64 k.ed.d), .v (.int .i64 k.ed.l), .v (.int .i64 k.ed.bx), .v (.int .i64 k.ed.by'), .v (.int .i64 k.a.1), .v (.int .i64 k.a.2)]
attribute [local go_sem] keyA
def eqCv (k k' : GCv) : Bool := decide (k.p = k'.p) && (decide (k.a = k'.a) && (decide (k.b = k'.b) && (decide (k.n = k'.n) && (decide (k.gx = k'.gx) && decide (k.gy = k'.gy)))))
def eqPt (k k' : GPt) : Bool := decide (k.x = k'.x) && (decide (k.y = k'.y) && (k.far == k'.far))
def eqEd (k k' : GEd) : Bool := decide (k.p = k'.p) && (decide (k.d = k'.d) && (decide (k.l = k'.l) && (decide (k.bx = k'.bx) && decide (k.by' = k'.by'))))
def eqPr (k k' : GPr) : Bool := decide (k.1 = k'.1) && decide (k.2 = k'.2)
def cv0 : GCv := ⟨0, 0, 0, 0, 0, 0⟩
def pt0 : GPt := ⟨0, 0, false⟩
def ed0 : GEd := ⟨0, 0, 0, 0, 0⟩
def pr0 : GPr := (0, 0)
def noCurve (k : GKey) : Bool := eqCv k.cv cv0 && eqPt k.q pt0
def noEd (k : GKey) : Bool := eqEd k.ed ed0 && eqPr k.a pr0
def noRsa (k : GKey) : Bool := decide (k.N.length = 0) && decide (k.e = 0)
def lowD (N : List Int) : Int := N.getD 0 0
def topD (N : List Int) : Int := N.getD (N.length - 1) 0
def natB (N : List Int) : Bool := (N.all fun n => inB n 0 65535) && (decide (N.length ≤ 64) && (decide (N.length = 0) || !decide (topD N = 0)))
def bitsZ (N : List Int) : Int := if N.length = 0 then 0 else 16 * ((N.length : Int) - 1) + blen (topD N).toNat
noncomputable def keyB (k : GKey) : Bool :=
 if k.kind = 1 then noCurve k && (noEd k && (natB k.N && (inB (bitsZ k.N) 128 512 && (decide ((lowD k.N).tmod 2 = 1) && (inB k.e 3 65537 && decide (k.e.tmod 2 = 1))))))
 else if k.kind = 2 then noRsa k && (noEd k && ((curveB k.cv && onZ k.cv.p k.cv.a k.cv.b k.q) && (!k.q.far && (mulL (addZ k.cv.p k.cv.a) k.cv.n.toNat farP k.q).far)))
 else if k.kind = 3 then noRsa k && (noCurve k && (edB k.ed && eonZ k.ed.p k.ed.d k.a))
 else false
theorem getIntA {N : List Int} {i : Nat} (h : i < N.length) : (N.map intA).getD i .any = .v (.int .i64 (N.getD i 0)) := by simp [List.getD, h, intA]
theorem nat_top {N : List Int} (h : natB N = true) (h0 : N.length ≠ 0) : N.length ≤ 64 ∧ 0 < topD N ∧ topD N ≤ 65535 := by
 simp only [natB, Bool.and_eq_true, decide_eq_true_eq, Bool.or_eq_true, List.all_eq_true, Bool.not_eq_true', decide_eq_false_iff_not] at h
 obtain ⟨h1, h2, h3⟩ := h
 have hm := h1 (topD N) (by
  have : topD N = N[N.length - 1] := by simp [topD, List.getD, show N.length - 1 < N.length by omega]
  rw [this]
  exact List.getElem_mem _)
 have := inB_t hm
 omega
def snAnn : Ann := [(0, [0, 3])]
def snSt (L : List Int) (i : Nat) : St := ⟨[.sl .sh (L.map intA), .any, .any, .v (.int .i64 i), .any, .any, .any, .any, .any, .any, .any, .any, .any, .any, .any, .any, .any, .any, .any, .any, .any, .any, .any, .any, .any, .any, .any, .any, .any, .any, .any, .any, .any], [], []⟩
include hm in
theorem sNatOk (L : List Int) (h3 : L.length ≤ 9223372036854775807) : Holds Tryz.prog 77 [.sl .sh (L.map intA)] [] (.v (.bool (natB L))) [] := by
 refine holds_of (ann := snAnn) tabOk hm Tryz.func77 (by kernel_rfl) rfl ?_
 simp +decide only [Tryz.f77, go_sem]
 refine Runs.while (α := Nat) (snSt L) (fun i => L.length - i) (fun i => i ≤ L.length ∧ ((L.drop i).all fun n => inB n 0 65535) = L.all fun n => inB n 0 65535) 0 ⟨by omega, by simp⟩ ?_ ?_
 ·simp [go_sem, snAnn, snSt]
 ·rintro i ⟨hi1, hr⟩ ih
  simp +decide only [snSt, go_sem]
  refine Runs.split (fun h => ?_) (fun h => ?_)
  ·have hlt : i < L.length := by simpa using h
   rw [List.drop_eq_getElem_cons hlt, List.all_cons] at hr
   simp +decide (disch := first | omega | (simp only [ll]; omega)) only [if_pos, go_sem]
   refine Runs.call (l1In hm L[i] 0 65535) ?_
   simp +decide only [go_sem]
   refine Runs.split (fun h => ?_) (fun h => ?_)
   ·simp only [Bool.not_eq_true'] at h
    have e : natB L = false := by rw [natB, ← hr, h]; rfl
    simp +decide only [e, go_sem]
    exact Runs.ret_v
   ·simp only [Bool.not_eq_false'] at h
    rw [h, Bool.true_and] at hr
    simp +decide (disch := first | omega | (simp only [ll]; omega)) only [if_pos, go_sem]
    refine ih (i + 1) _ (by omega) ⟨by omega, hr⟩ ?_
    simp [go_sem, snAnn, snSt]
  ·have hge : i = L.length := by simp at h; omega
   subst hge
   rw [List.drop_length, List.all_nil] at hr
   simp +decide only [go_sem]
   refine Runs.split (fun h => ?_) (fun h => ?_)
   ·have hle : L.length ≤ 64 := by simp at h; omega
    simp +decide only [go_sem]
    refine Runs.split (fun h => ?_) (fun h => ?_)
    ·have h0 : L.length = 0 := by simp at h; exact List.length_eq_zero_iff.mpr h
     simp +decide only [go_sem]
     exact Runs.ret_eq (by simp [natB, ← hr, hle, h0])
    ·have h0 : L.length ≠ 0 := by simp at h; intro e; exact h (List.length_eq_zero_iff.mp e)
     have ht : ((L.length : Int) - 1).toNat = L.length - 1 := by omega
     have hg := getIntA (N := L) (i := L.length - 1) (by omega)
     have hb : decide (0 ≤ (L.length : Int) - 1 ∧ (L.length : Int) - 1 < L.length) = true := by simp; omega
     simp +decide (disch := first | omega | (simp only [ll]; omega)) only [ht, hg, hb, if_pos, go_sem]
     exact Runs.ret_eq (by simp [natB, ← hr, hle, h0, topD])
   ·have hle : ¬ L.length ≤ 64 := by simp at h; omega
    simp +decide only [go_sem]
    exact Runs.ret_eq (by simp [natB, hle])
include hm in
theorem iNatOk (L : List Int) (h3 : L.length ≤ 9223372036854775807) : Holds Tryz.prog 106 [.sl .sh (L.map intA)] [] (.v (.bool (natB L))) [] := by
 refine holds_of (ann := []) tabOk hm Tryz.func106 (by kernel_rfl) rfl ?_
 simp +decide only [Tryz.f106, go_sem]
 refine Runs.split (fun h => ?_) (fun h => ?_)
 ·have hle : L.length ≤ 64 := by simp at h; omega
  simp +decide only [go_sem]
  refine Runs.call (allWithin hm L 0 65535 h3) ?_
  simp +decide only [go_sem]
  refine Runs.split (fun ha => ?_) (fun ha => ?_)
  ·simp +decide only [go_sem]
   refine Runs.split (fun h => ?_) (fun h => ?_)
   ·have h0 : L.length = 0 := by simp at h; exact List.length_eq_zero_iff.mpr h
    simp +decide only [go_sem]
    exact Runs.ret_eq (by simp only [natB, ha, hle, h0]; simp)
   ·have h0 : L.length ≠ 0 := by simp at h; intro e; exact h (List.length_eq_zero_iff.mp e)
    have ht : ((L.length : Int) - 1).toNat = L.length - 1 := by omega
    have hg := getIntA (N := L) (i := L.length - 1) (by omega)
    have hb : decide (0 ≤ (L.length : Int) - 1 ∧ (L.length : Int) - 1 < L.length) = true := by simp; omega
    simp +decide (disch := first | omega | (simp only [ll]; omega)) only [ht, hg, hb, if_pos, go_sem]
    exact Runs.ret_eq (by simp only [natB, ha, hle, h0, topD]; simp)
  ·simp +decide only [go_sem]
   exact Runs.ret_eq (by simp only [natB, ha]; rfl)
 ·have hle : ¬ L.length ≤ 64 := by simp at h; omega
  simp +decide only [go_sem]
  exact Runs.ret_eq (by simp [natB, hle])
def lbAnn : Ann := [(0, [3, 4])]
def lbSt (p : Nat × Int) : St := ⟨[.any, .any, .any, .v (.int .i64 p.2), .v (.int .i64 p.1), .any, .any, .any, .any, .any, .any, .any, .any, .any, .any, .any, .any, .any, .any, .any, .any, .any, .any, .any, .any], [], []⟩
include hm in
theorem l1Bits (L : List Int) (h : natB L = true) : Holds Tryz.prog 78 [.sl .sh (L.map intA)] [] (.v (.int .i64 (bitsZ L))) [] := by
 refine holds_of (ann := lbAnn) tabOk hm Tryz.func78 (by kernel_rfl) rfl ?_
 by_cases h0 : L.length = 0
 ·simp +decide only [Tryz.f78, h0, go_sem]
  exact Runs.ret_eq (by simp [bitsZ, h0])
 ·obtain ⟨l1, l2, l3⟩ := nat_top h h0
  have ht : ((L.length : Int) - 1).toNat = L.length - 1 := by omega
  have hg := getIntA (N := L) (i := L.length - 1) (by omega)
  have hb : decide (0 ≤ (L.length : Int) - 1 ∧ (L.length : Int) - 1 < L.length) = true := by simp; omega
  have hz : decide ((L.length : Int) = 0) = false := by simp; intro e; exact h0 (by simp [e])
  rw [show L.getD (L.length - 1) 0 = topD L from rfl] at hg
  obtain ⟨x0, hx0⟩ := nat_of (show 0 ≤ topD L by omega)
  have hbits : bitsZ L = 16 * ((L.length : Int) - 1) + blen x0 := by simp [bitsZ, h0, hx0]
  have hl : blen x0 ≤ 16 := blen_le (by omega)
  rw [hbits]
  simp +decide (disch := first | omega | (simp only [ll]; omega)) only [Tryz.f78, ht, hg, hb, hz, hx0, if_pos, go_sem]
  refine Runs.while (α := Nat × Int) lbSt (fun p => p.1) (fun p => p.1 ≤ x0 ∧ 0 ≤ p.2 ∧ p.2 + blen p.1 = 16 * ((L.length : Int) - 1) + blen x0) (x0, 16 * ((L.length : Int) - 1)) ⟨Nat.le_refl _, by simp only; omega, rfl⟩ ?_ ?_
  ·simp [go_sem, lbAnn, lbSt]
  ·rintro ⟨x, r⟩ ⟨hx, hr0, hr⟩ ih
   simp only at hx hr0 hr
   simp +decide only [lbSt, go_sem]
   refine Runs.split (fun h => ?_) (fun h => ?_)
   ·have hs : x ≠ 0 := by simp at h; omega
    rw [blen_pos hs] at hr
    have e4 := tdiv_nat x 2
    have w3 : IntKind.i64.wrap ((x / 2 : Nat) : Int) = ((x / 2 : Nat) : Int) := wrap_i64 (by omega) (by omega)
    simp +decide (disch := first | omega | (simp only [ll]; omega)) only [e4, w3, if_pos, go_sem]
    refine ih (x / 2, r + 1) _ (by simp only; omega) ⟨by simp only; omega, by simp only; omega, by simp only; omega⟩ ?_
    have w4 : IntKind.i64.wrap ((x : Int) / 2) = (x : Int) / 2 := w3
    simp [go_sem, lbAnn, lbSt, w4]
   ·have hs : x = 0 := by simp at h; omega
    subst hs
    rw [blen_zero] at hr
    simp +decide only [go_sem]
    exact Runs.ret_eq (by rw [← hr]; simp)
include hm in
theorem natBits (L : List Int) (h : natB L = true) : Holds Tryz.prog 107 [.sl .sh (L.map intA)] [] (.v (.int .i64 (bitsZ L))) [] := by
 refine holds_of (ann := []) tabOk hm Tryz.func107 (by kernel_rfl) rfl ?_
 by_cases h0 : L.length = 0
 ·simp +decide only [Tryz.f107, h0, go_sem]
  exact Runs.ret_eq (by simp [bitsZ, h0])
 ·obtain ⟨l1, l2, l3⟩ := nat_top h h0
  have ht : ((L.length : Int) - 1).toNat = L.length - 1 := by omega
  have hg := getIntA (N := L) (i := L.length - 1) (by omega)
  have hb : decide (0 ≤ (L.length : Int) - 1 ∧ (L.length : Int) - 1 < L.length) = true := by simp; omega
  have hz : decide ((L.length : Int) = 0) = false := by simp; intro e; exact h0 (by simp [e])
  rw [show L.getD (L.length - 1) 0 = topD L from rfl] at hg
  obtain ⟨x0, hx0⟩ := nat_of (show 0 ≤ topD L by omega)
  have hbits : bitsZ L = 16 * ((L.length : Int) - 1) + blen x0 := by simp [bitsZ, h0, hx0]
  have hl : blen x0 ≤ 16 := blen_le (by omega)
  rw [hbits]
  simp +decide (disch := first | omega | (simp only [ll]; omega)) only [Tryz.f107, ht, hg, hb, hz, hx0, if_pos, go_sem]
  refine Runs.call (bitsLen hm x0 (by omega)) ?_
  simp +decide (disch := first | omega | (simp only [ll]; omega)) only [if_pos, go_sem]
  exact Runs.ret_v
def seqAnn : Ann := [(0, [0, 1, 11, 12, 13])]
def seqSt (L M : List Int) (n i : Nat) : St := ⟨[.sl .sh (L.map intA), .sl .sh (M.map intA), .any, .any, .any, .any, .any, .any, .any, .any, .any, .sl .sh (L.map intA), .v (.int .i64 n), .v (.int .i64 i), .any, .any, .any, .any, .any, .any, .any, .any, .any, .any, .any, .any], [], []⟩
def seqS : Sched := .take 0 (.take 1 (.take 2 (.take 4 (.take 5 (.take 6 (.ld 3 (.ld 7 (.take 8 .fin))))))))
attribute [local go_sem] seqS
include hm in
theorem equalInt (L M : List Int) (h3 : L.length ≤ 9223372036854775807) (h4 : M.length ≤ 9223372036854775807) : Holds Tryz.prog 130 [.sl .sh (L.map intA), .sl .sh (M.map intA)] [] (.v (.bool (decide (L = M)))) [] := by
 refine holds_of (ann := seqAnn) tabOk hm Tryz.func130 (by kernel_rfl) rfl ?_
 simp +decide only [Tryz.f130, go_sem]
 refine Runs.split (fun h => ?_) (fun h => ?_)
 ·have hne : L ≠ M := by intro e; subst e; simp at h
  simp +decide only [go_sem]
  exact Runs.ret_eq (by simp [hne])
 ·have hlen : L.length = M.length := by simp at h; omega
  simp +decide only [go_sem]
  refine Runs.while (α := Nat) (seqSt L M L.length) (fun i => L.length - i) (fun i => i ≤ L.length ∧ L.take i = M.take i) 0 ⟨by omega, by simp⟩ ?_ ?_
  ·simp [go_sem, seqAnn, seqSt]
  ·rintro i ⟨hi, he⟩ ih
   simp +decide only [seqSt, go_sem]
   refine Runs.split (fun h => ?_) (fun h => ?_)
   ·have hlt : i < L.length := by simpa using h
    have hlt' : i < M.length := by omega
    simp +decide only [go_sem]
    refine Runs.draw (st1 := ?s1) (draws_by (ann := []) tabOk seqS (by kernel_rfl) ?p1) ?q1
    case p1 =>
     intro K r X hK
     simp +decide (disch := first | omega | (simp only [ll]; omega)) only [if_pos, go_sem]
     exact hK
    case q1 =>
     simp +decide only [go_sem]
     refine Runs.split (fun h => ?_) (fun h => ?_)
     ·have hne : L ≠ M := by
       intro e
       subst e
       simp at h
      simp +decide only [go_sem]
      exact Runs.ret_eq (by simp [hne])
     ·have hx : L[i] = M[i] := by simpa using h
      simp +decide (disch := first | omega | (simp only [ll]; omega)) only [if_pos, go_sem]
      refine ih (i + 1) _ (by omega) ⟨by omega, by rw [List.take_succ_eq_append_getElem hlt, List.take_succ_eq_append_getElem hlt', he, hx]⟩ ?_
      simp [go_sem, seqAnn, seqSt]
   ·have hge : i = L.length := by simp at h; omega
    subst hge
    rw [List.take_length, List.take_of_length_le (by omega)] at he
    simp +decide only [go_sem]
    exact Runs.ret_eq (by simp [he])
theorem bv {a b : Bool} (h : a = true ↔ b = true) : A.v (.bool a) = A.v (.bool b) := by
 have : a = b := by cases a <;> cases b <;> simp_all
 rw [this]
include hm in
theorem noCurveS (k : GKey) : Holds Tryz.prog 75 [keyA k] [] (.v (.bool (noCurve k))) [] := by
 refine holds_ref (ann := []) tabOk hm (byL [] [1000001]) Tryz.func75 (by kernel_rfl) rfl ?_
 simp +decide (maxSteps := 9^7) only [Tryz.f75, go_sem]
 refine Runs.split (fun h => ?_) (fun h => ?_)
 ·simp +decide (maxSteps := 9^7) only [go_sem]
  exact Runs.ret_eq (bv (by simp [noCurve, eqCv, eqPt, cv0, pt0] at h ⊢; grind))
 ·simp +decide (maxSteps := 9^7) only [go_sem]
  exact Runs.ret_eq (bv (by simp [noCurve, eqCv, eqPt, cv0, pt0] at h ⊢; grind))
include hm in
theorem noEdS (k : GKey) : Holds Tryz.prog 76 [keyA k] [] (.v (.bool (noEd k))) [] := by
 refine holds_ref (ann := []) tabOk hm (byL [] [1000001]) Tryz.func76 (by kernel_rfl) rfl ?_
 simp +decide (maxSteps := 9^7) only [Tryz.f76, go_sem]
 refine Runs.split (fun h => ?_) (fun h => ?_)
 ·simp +decide (maxSteps := 9^7) only [go_sem]
  exact Runs.ret_eq (bv (by simp [noEd, eqEd, eqPr, ed0, pr0] at h ⊢; grind))
 ·simp +decide (maxSteps := 9^7) only [go_sem]
  exact Runs.ret_eq (bv (by simp [noEd, eqEd, eqPr, ed0, pr0] at h ⊢; grind))
include hm in
theorem noRsaS (k : GKey) : Holds Tryz.prog 79 [keyA k] [] (.v (.bool (noRsa k))) [] := by
 refine holds_ref (ann := []) tabOk hm (byL [] [1000001]) Tryz.func79 (by kernel_rfl) rfl ?_
 simp +decide (maxSteps := 9^7) only [Tryz.f79, go_sem]
 refine Runs.split (fun h => ?_) (fun h => ?_)
 ·simp +decide (maxSteps := 9^7) only [go_sem]
  exact Runs.ret_eq (bv (by simp [noRsa] at h ⊢; simp [h]))
 ·simp +decide (maxSteps := 9^7) only [go_sem]
  exact Runs.ret_eq (bv (by simp [noRsa] at h ⊢; grind))
def keySame (k k' : GKey) : Bool := decide (k.kind = k'.kind) && (decide (k.N = k'.N) && (decide (k.e = k'.e) && (eqCv k.cv k'.cv && (eqPt k.q k'.q && (eqEd k.ed k'.ed && eqPr k.a k'.a)))))
set_option maxHeartbeats 4000000 in
include hm in
theorem sameK (k k' : GKey) (h3 : k.N.length ≤ 9223372036854775807) (h4 : k'.N.length ≤ 9223372036854775807) : Holds Tryz.prog 105 [keyA k, keyA k'] [] (.v (.bool (keySame k k'))) [] := by
 refine holds_ref (ann := []) tabOk hm (byL [] [1000002, 1000003]) Tryz.func105 (by kernel_rfl) rfl ?_
 have hE := equalInt hm k.N k'.N h3 h4
 simp +decide (maxSteps := 9^7) only [Tryz.f105, go_sem]
 refine Runs.split (fun c1 => ?_) (fun c1 => ?_)
 case _ =>
  simp +decide (maxSteps := 9^7) only [go_sem]
  refine Runs.call hE ?_
  simp +decide (maxSteps := 9^7) only [go_sem]
  refine Runs.split (fun c2 => ?_) (fun c2 => ?_)
  case _ =>
   simp +decide (maxSteps := 9^7) only [go_sem]
   refine Runs.split (fun c3 => ?_) (fun c3 => ?_)
   case _ =>
    simp +decide (maxSteps := 9^7) only [go_sem]
    refine Runs.split (fun c4 => ?_) (fun c4 => ?_)
    case _ =>
     simp +decide (maxSteps := 9^7) only [go_sem]
     refine Runs.split (fun c5 => ?_) (fun c5 => ?_)
     case _ =>
      simp +decide (maxSteps := 9^7) only [go_sem]
      refine Runs.split (fun c6 => ?_) (fun c6 => ?_)
      case _ =>
       simp +decide (maxSteps := 9^7) only [go_sem]
       exact Runs.ret_eq (bv (by simp [keySame, eqCv, eqPt, eqEd, eqPr] at c1 c2 c3 c4 c5 c6 ⊢; simp [c1, c2, c3, c4, c5, c6]))
      simp +decide (maxSteps := 9^7) only [go_sem]
      exact Runs.ret_eq (bv (by simp [keySame, eqCv, eqPt, eqEd, eqPr] at c6 ⊢; grind))
     simp +decide (maxSteps := 9^7) only [go_sem]
     exact Runs.ret_eq (bv (by simp [keySame, eqCv, eqPt, eqEd, eqPr] at c5 ⊢; grind))
    simp +decide (maxSteps := 9^7) only [go_sem]
    exact Runs.ret_eq (bv (by simp [keySame, eqCv, eqPt, eqEd, eqPr] at c4 ⊢; grind))
   simp +decide (maxSteps := 9^7) only [go_sem]
   exact Runs.ret_eq (bv (by simp [keySame, eqCv, eqPt, eqEd, eqPr] at c3 ⊢; grind))
  simp +decide (maxSteps := 9^7) only [go_sem]
  exact Runs.ret_eq (bv (by simp [keySame, eqCv, eqPt, eqEd, eqPr] at c2 ⊢; grind))
 simp +decide (maxSteps := 9^7) only [go_sem]
 exact Runs.ret_eq (bv (by simp [keySame] at c1 ⊢; grind))
end Go.Proofs.W

namespace Go.Proofs.W
open Go Go.AM Go.Proofs.G
variable (hm : Tryz.prog.follows .mixedOrders = true)
attribute [local go_sem] edA prA cvA ptA keyA
theorem bits_pos {N : List Int} (h : inB (bitsZ N) 128 512 = true) : 0 < N.length := by
 rcases Nat.eq_zero_or_pos N.length with h0 | h0
 ·have := inB_t h
  simp [bitsZ, h0] at this
 ·exact h0
theorem curve_n {k : GCv} (h : curveB k = true) : 0 ≤ k.n ∧ k.n ≤ 2097152 := by
 simp only [curveB, Bool.and_eq_true] at h
 obtain ⟨⟨⟨⟨⟨⟨⟨⟨⟨_, _⟩, _⟩, _⟩, _⟩, c6⟩, _⟩, _⟩, _⟩, _⟩ := h
 have := inB_t c6
 omega
theorem curve_p {k : GCv} (h : curveB k = true) : PrimeN k.p.toNat := by
 simp only [curveB, Bool.and_eq_true] at h
 obtain ⟨⟨⟨⟨⟨⟨⟨⟨⟨_, _⟩, c3⟩, _⟩, _⟩, _⟩, _⟩, _⟩, _⟩, _⟩ := h
 exact (primeZ_of c3).2.2
theorem curve_d {k : GCv} (h : curveB k = true) : (4 * (k.a * k.a % k.p) * k.a + 27 * (k.b * k.b % k.p)) % k.p ≠ 0 := by
 simp only [curveB, Bool.and_eq_true] at h
 obtain ⟨⟨⟨⟨⟨⟨⟨⟨⟨_, _⟩, _⟩, _⟩, _⟩, _⟩, _⟩, c8⟩, _⟩, _⟩ := h
 simpa using c8
theorem same_rsa (k : GKey) : keySame k ⟨1, k.N, k.e, cv0, pt0, ed0, pr0⟩ = (decide (k.kind = 1) && (noCurve k && noEd k)) := by
 simp only [keySame, noCurve, noEd, decide_true, Bool.true_and, Bool.and_assoc]
theorem same_curve (k : GKey) : keySame k ⟨2, [], 0, k.cv, k.q, ed0, pr0⟩ = (decide (k.kind = 2) && (noRsa k && noEd k)) := by
 have e1 : eqCv k.cv k.cv = true := by simp [eqCv]
 have e2 : eqPt k.q k.q = true := by simp [eqPt]
 have e3 : decide (k.N = []) = decide (k.N.length = 0) := by simp
 simp only [keySame, noRsa, noEd, e1, e2, e3, Bool.true_and, Bool.and_assoc]
theorem same_ed (k : GKey) : keySame k ⟨3, [], 0, cv0, pt0, k.ed, k.a⟩ = (decide (k.kind = 3) && (noRsa k && noCurve k)) := by
 have e1 : eqEd k.ed k.ed = true := by simp [eqEd]
 have e2 : eqPr k.a k.a = true := by simp [eqPr]
 have e3 : decide (k.N = []) = decide (k.N.length = 0) := by simp
 simp only [keySame, noRsa, noCurve, e1, e2, e3, Bool.and_true, Bool.and_assoc]
set_option maxRecDepth 10000 in
set_option maxHeartbeats 8000000 in
include hm in
theorem sKeyOk (k : GKey) (h3 : k.N.length ≤ 9223372036854775807) : Holds Tryz.prog 70 [keyA k] [] (.v (.bool (keyB k))) [] := by
 refine holds_ref (ann := []) tabOk hm (byL [] [1000001]) Tryz.func70 (by kernel_rfl) rfl ?_
 have n1 := noCurveS hm k
 have n2 := noEdS hm k
 have n3 := noRsaS hm k
 have nN := sNatOk hm k.N h3
 have nP := sPointOk hm k.cv k.q
 have nE := sPairOk hm k.ed k.a
 simp +decide (maxSteps := 9^7) only [Tryz.f70, go_sem]
 refine Runs.split (fun k1 => ?_) (fun k1 => ?_)
 ·have k1' : k.kind = 1 := by simpa using k1
  simp +decide (maxSteps := 9^7) only [go_sem]
  refine Runs.call n1 ?_
  simp +decide (maxSteps := 9^7) only [go_sem]
  refine Runs.split (fun c1 => ?_) (fun c1 => ?_)
  case _ =>
   simp +decide (maxSteps := 9^7) only [go_sem]
   refine Runs.call n2 ?_
   simp +decide (maxSteps := 9^7) only [go_sem]
   refine Runs.split (fun c2 => ?_) (fun c2 => ?_)
   case _ =>
    simp +decide (maxSteps := 9^7) only [go_sem]
    refine Runs.call nN ?_
    simp +decide (maxSteps := 9^7) only [go_sem]
    refine Runs.split (fun c3 => ?_) (fun c3 => ?_)
    case _ =>
     simp +decide (maxSteps := 9^7) only [go_sem]
     refine Runs.call (l1Bits hm k.N c3) ?_
     simp +decide (maxSteps := 9^7) only [go_sem]
     refine Runs.call (l1In hm (bitsZ k.N) 128 512) ?_
     simp +decide (maxSteps := 9^7) only [go_sem]
     refine Runs.split (fun c4 => ?_) (fun c4 => ?_)
     case _ =>
      have hpos := bits_pos c4
      have hlow : lowD k.N = k.N[0] := by simp [lowD, List.getD, hpos]
      have hg := getIntA (N := k.N) (i := 0) hpos
      have hb : decide ((0 : Int) ≤ 0 ∧ (0 : Int) < k.N.length) = true := by simp; omega
      simp +decide (maxSteps := 9^7) (disch := first | omega | (simp only [ll]; omega)) only [hg, hb, if_pos, go_sem]
      refine Runs.split (fun c5 => ?_) (fun c5 => ?_)
      case _ =>
       have c5' : (lowD k.N).tmod 2 = 1 := by rw [hlow]; simpa using c5
       simp +decide (maxSteps := 9^7) only [go_sem]
       refine Runs.call (l1In hm k.e 3 65537) ?_
       simp +decide (maxSteps := 9^7) only [go_sem]
       refine Runs.split (fun c6 => ?_) (fun c6 => ?_)
       case _ =>
        simp +decide (maxSteps := 9^7) only [go_sem]
        exact Runs.ret_eq (by simp [keyB, k1', c1, c2, c3, c4, c5', c6])
       simp +decide (maxSteps := 9^7) only [go_sem]
       exact Runs.ret_eq (by rw [show keyB k = false by simp [keyB, k1', c6]])
      have : ¬ (lowD k.N).tmod 2 = 1 := by rw [hlow]; simpa using c5
      simp +decide (maxSteps := 9^7) only [go_sem]
      exact Runs.ret_eq (by rw [show keyB k = false by simp [keyB, k1', this]])
     simp +decide (maxSteps := 9^7) only [go_sem]
     exact Runs.ret_eq (by rw [show keyB k = false by simp [keyB, k1', c4]])
    simp +decide (maxSteps := 9^7) only [go_sem]
    exact Runs.ret_eq (by rw [show keyB k = false by simp [keyB, k1', c3]])
   simp +decide (maxSteps := 9^7) only [go_sem]
   exact Runs.ret_eq (by rw [show keyB k = false by simp [keyB, k1', c2]])
  simp +decide (maxSteps := 9^7) only [go_sem]
  exact Runs.ret_eq (by rw [show keyB k = false by simp [keyB, k1', c1]])
 ·have k1' : ¬ k.kind = 1 := by simpa using k1
  simp +decide (maxSteps := 9^7) only [go_sem]
  refine Runs.split (fun k2 => ?_) (fun k2 => ?_)
  ·have k2' : k.kind = 2 := by simpa using k2
   simp +decide (maxSteps := 9^7) only [go_sem]
   refine Runs.call n3 ?_
   simp +decide (maxSteps := 9^7) only [go_sem]
   refine Runs.split (fun c1 => ?_) (fun c1 => ?_)
   case _ =>
    simp +decide (maxSteps := 9^7) only [go_sem]
    refine Runs.call n2 ?_
    simp +decide (maxSteps := 9^7) only [go_sem]
    refine Runs.split (fun c2 => ?_) (fun c2 => ?_)
    case _ =>
     simp +decide (maxSteps := 9^7) only [go_sem]
     refine Runs.call nP ?_
     simp +decide (maxSteps := 9^7) only [go_sem]
     refine Runs.split (fun c3 => ?_) (fun c3 => ?_)
     case _ =>
      have c3' : curveB k.cv = true ∧ onZ k.cv.p k.cv.a k.cv.b k.q = true := by simpa using c3
      simp +decide (maxSteps := 9^7) only [go_sem]
      refine Runs.split (fun c4 => ?_) (fun c4 => ?_)
      case _ =>
       have c4' : k.q.far = false := by simpa using c4
       have kin := curve_in c3'.1
       have hp : 0 < k.cv.p := by have := kin.1; omega
       have hn : ((k.cv.n.toNat : Nat) : Int) = k.cv.n := Int.toNat_of_nonneg (curve_n c3'.1).1
       have hM := l3Mul hm k.cv k.cv.n.toNat k.q kin (onZ_in hp c3'.2) (by have := (curve_n c3'.1).2; omega)
       rw [hn] at hM
       simp +decide (maxSteps := 9^7) only [go_sem]
       refine Runs.call hM ?_
       simp +decide (maxSteps := 9^7) only [go_sem]
       exact Runs.ret_eq (by simp [keyB, k2', c1, c2, c3', c4'])
      have c4' : k.q.far = true := by simpa using c4
      simp +decide (maxSteps := 9^7) only [go_sem]
      exact Runs.ret_eq (by rw [show keyB k = false by simp [keyB, k2', c4']])
     have : (curveB k.cv && onZ k.cv.p k.cv.a k.cv.b k.q) = false := c3
     simp +decide (maxSteps := 9^7) only [go_sem]
     exact Runs.ret_eq (by rw [show keyB k = false by simp only [keyB, k2', this]; simp])
    simp +decide (maxSteps := 9^7) only [go_sem]
    exact Runs.ret_eq (by rw [show keyB k = false by simp [keyB, k2', c2]])
   simp +decide (maxSteps := 9^7) only [go_sem]
   exact Runs.ret_eq (by rw [show keyB k = false by simp [keyB, k2', c1]])
  ·have k2' : ¬ k.kind = 2 := by simpa using k2
   simp +decide (maxSteps := 9^7) only [go_sem]
   refine Runs.split (fun k3 => ?_) (fun k3 => ?_)
   ·have k3' : k.kind = 3 := by simpa using k3
    simp +decide (maxSteps := 9^7) only [go_sem]
    refine Runs.call n3 ?_
    simp +decide (maxSteps := 9^7) only [go_sem]
    refine Runs.split (fun c1 => ?_) (fun c1 => ?_)
    case _ =>
     simp +decide (maxSteps := 9^7) only [go_sem]
     refine Runs.call n1 ?_
     simp +decide (maxSteps := 9^7) only [go_sem]
     refine Runs.split (fun c2 => ?_) (fun c2 => ?_)
     case _ =>
      simp +decide (maxSteps := 9^7) only [go_sem]
      refine Runs.call nE ?_
      simp +decide (maxSteps := 9^7) only [go_sem]
      exact Runs.ret_eq (by simp [keyB, k3', c1, c2])
     simp +decide (maxSteps := 9^7) only [go_sem]
     exact Runs.ret_eq (by rw [show keyB k = false by simp [keyB, k3', c2]])
    simp +decide (maxSteps := 9^7) only [go_sem]
    exact Runs.ret_eq (by rw [show keyB k = false by simp [keyB, k3', c1]])
   ·have k3' : ¬ k.kind = 3 := by simpa using k3
    simp +decide (maxSteps := 9^7) only [go_sem]
    exact Runs.ret_eq (by simp [keyB, k1', k2', k3'])
set_option maxRecDepth 10000 in
set_option maxHeartbeats 8000000 in
include hm in
theorem iKeyOk (k : GKey) (h3 : k.N.length ≤ 9223372036854775807) : Holds Tryz.prog 90 [keyA k] [] (.v (.bool (keyB k))) [] := by
 refine holds_ref (ann := []) tabOk hm (byL [] [1000001]) Tryz.func90 (by kernel_rfl) rfl ?_
 have s1 := sameK hm k ⟨1, k.N, k.e, cv0, pt0, ed0, pr0⟩ h3 h3
 have s2 := sameK hm k ⟨2, [], 0, k.cv, k.q, ed0, pr0⟩ h3 (by simp)
 have s3 := sameK hm k ⟨3, [], 0, cv0, pt0, k.ed, k.a⟩ h3 (by simp)
 rw [same_rsa] at s1
 rw [same_curve] at s2
 rw [same_ed] at s3
 have nN := iNatOk hm k.N h3
 have nP := iPointOk hm k.cv k.q
 have nE := iPairOk hm k.ed k.a
 simp +decide (maxSteps := 9^7) only [Tryz.f90, go_sem]
 refine Runs.split (fun k1 => ?_) (fun k1 => ?_)
 ·have k1' : k.kind = 1 := by simpa using k1
  simp only [k1', decide_true, Bool.true_and] at s1
  simp +decide (maxSteps := 9^7) only [go_sem]
  refine Runs.call (Holds.le s1 (by simp only [keyA, k1', cv0, pt0, ed0, pr0, List.map_nil]; exact LeD.refl _)) ?_
  simp +decide (maxSteps := 9^7) only [go_sem]
  refine Runs.split (fun c1 => ?_) (fun c1 => ?_)
  case _ =>
   have : (noCurve k && noEd k) = false := by first | exact c1 | (rw [Bool.not_eq_true'] at c1; exact c1)
   simp +decide (maxSteps := 9^7) only [go_sem]
   exact Runs.ret_eq (by rw [show keyB k = false by (have t := this; simp only [Bool.and_eq_false_iff] at t; rcases t with t | t <;> simp [keyB, k1', t])])
  have c1' : noCurve k = true ∧ noEd k = true := by simpa using c1
  simp +decide (maxSteps := 9^7) only [go_sem]
  refine Runs.call nN ?_
  simp +decide (maxSteps := 9^7) only [go_sem]
  refine Runs.split (fun c3 => ?_) (fun c3 => ?_)
  case _ =>
   have c3' : natB k.N = false := by simpa using c3
   simp +decide (maxSteps := 9^7) only [go_sem]
   exact Runs.ret_eq (by rw [show keyB k = false by simp [keyB, k1', c3']])
  have c3' : natB k.N = true := by simpa using c3
  simp +decide (maxSteps := 9^7) only [go_sem]
  refine Runs.call (natBits hm k.N c3') ?_
  simp +decide (maxSteps := 9^7) only [go_sem]
  refine Runs.call (within hm (bitsZ k.N) 128 512) ?_
  simp +decide (maxSteps := 9^7) only [go_sem]
  refine Runs.split (fun c4 => ?_) (fun c4 => ?_)
  case _ =>
   have c4' : inB (bitsZ k.N) 128 512 = false := by simpa using c4
   simp +decide (maxSteps := 9^7) only [go_sem]
   exact Runs.ret_eq (by rw [show keyB k = false by simp [keyB, k1', c4']])
  have c4' : inB (bitsZ k.N) 128 512 = true := by simpa using c4
  have hpos := bits_pos c4'
  have hlow : lowD k.N = k.N[0] := by simp [lowD, List.getD, hpos]
  have hg := getIntA (N := k.N) (i := 0) hpos
  have hb : decide ((0 : Int) ≤ 0 ∧ (0 : Int) < k.N.length) = true := by simp; omega
  simp +decide (maxSteps := 9^7) (disch := first | omega | (simp only [ll]; omega)) only [hg, hb, if_pos, go_sem]
  refine Runs.split (fun c5 => ?_) (fun c5 => ?_)
  case _ =>
   have c5' : (lowD k.N).tmod 2 = 1 := by rw [hlow]; simpa using c5
   simp +decide (maxSteps := 9^7) only [go_sem]
   refine Runs.call (within hm k.e 3 65537) ?_
   simp +decide (maxSteps := 9^7) only [go_sem]
   refine Runs.split (fun c6 => ?_) (fun c6 => ?_)
   case _ =>
    simp +decide (maxSteps := 9^7) only [go_sem]
    exact Runs.ret_eq (by simp [keyB, k1', c1', c3', c4', c5', c6])
   simp +decide (maxSteps := 9^7) only [go_sem]
   exact Runs.ret_eq (by rw [show keyB k = false by simp [keyB, k1', c6]])
  have : ¬ (lowD k.N).tmod 2 = 1 := by rw [hlow]; simpa using c5
  simp +decide (maxSteps := 9^7) only [go_sem]
  exact Runs.ret_eq (by rw [show keyB k = false by simp [keyB, k1', this]])
 ·have k1' : ¬ k.kind = 1 := by simpa using k1
  simp +decide (maxSteps := 9^7) only [go_sem]
  refine Runs.split (fun k2 => ?_) (fun k2 => ?_)
  ·have k2' : k.kind = 2 := by simpa using k2
   simp only [k2', decide_true, Bool.true_and] at s2
   simp +decide (maxSteps := 9^7) only [go_sem]
   refine Runs.call (Holds.le s2 (by simp only [keyA, k2', cv0, pt0, ed0, pr0, List.map_nil]; exact .same _ (.agg (.same _ (.nils _ (LeD.refl _))) .nil))) ?_
   simp +decide (maxSteps := 9^7) only [go_sem]
   refine Runs.split (fun c1 => ?_) (fun c1 => ?_)
   case _ =>
    have c1' : noRsa k = true ∧ noEd k = true := by simpa using c1
    simp +decide (maxSteps := 9^7) only [go_sem]
    refine Runs.call nP ?_
    simp +decide (maxSteps := 9^7) only [go_sem]
    refine Runs.split (fun c3 => ?_) (fun c3 => ?_)
    case _ =>
     have c3' : curveB k.cv = true ∧ onZ k.cv.p k.cv.a k.cv.b k.q = true := by simpa using c3
     simp +decide (maxSteps := 9^7) only [go_sem]
     refine Runs.split (fun c4 => ?_) (fun c4 => ?_)
     case _ =>
      have c4' : k.q.far = false := by simpa using c4
      have kin := curve_in c3'.1
      have hp : 0 < k.cv.p := by have := kin.1; omega
      have hn : ((k.cv.n.toNat : Nat) : Int) = k.cv.n := Int.toNat_of_nonneg (curve_n c3'.1).1
      have hM := timesC hm k.cv k.cv.n.toNat k.q kin (onZ_in hp c3'.2) (by have := (curve_n c3'.1).2; omega)
      rw [hn, times_same (by have := kin.1; omega) (curve_p c3'.1) (curve_d c3'.1) c3'.2 k.cv.n.toNat] at hM
      simp +decide (maxSteps := 9^7) only [go_sem]
      refine Runs.call hM ?_
      simp +decide (maxSteps := 9^7) only [go_sem]
      exact Runs.ret_eq (by simp [keyB, k2', c1', c3', c4'])
     have c4' : k.q.far = true := by simpa using c4
     simp +decide (maxSteps := 9^7) only [go_sem]
     exact Runs.ret_eq (by rw [show keyB k = false by simp [keyB, k2', c4']])
    have : (curveB k.cv && onZ k.cv.p k.cv.a k.cv.b k.q) = false := c3
    simp +decide (maxSteps := 9^7) only [go_sem]
    exact Runs.ret_eq (by rw [show keyB k = false by simp only [keyB, k2', this]; simp])
   have : (noRsa k && noEd k) = false := by first | exact c1 | (rw [Bool.not_eq_true'] at c1; exact c1)
   simp +decide (maxSteps := 9^7) only [go_sem]
   exact Runs.ret_eq (by rw [show keyB k = false by (have t := this; simp only [Bool.and_eq_false_iff] at t; rcases t with t | t <;> simp [keyB, k2', t])])
  ·have k2' : ¬ k.kind = 2 := by simpa using k2
   simp +decide (maxSteps := 9^7) only [go_sem]
   refine Runs.split (fun k3 => ?_) (fun k3 => ?_)
   ·have k3' : k.kind = 3 := by simpa using k3
    simp only [k3', decide_true, Bool.true_and] at s3
    simp +decide (maxSteps := 9^7) only [go_sem]
    refine Runs.call (Holds.le s3 (by simp only [keyA, k3', cv0, pt0, ed0, pr0, List.map_nil]; exact .same _ (.agg (.same _ (.nils _ (LeD.refl _))) .nil))) ?_
    simp +decide (maxSteps := 9^7) only [go_sem]
    refine Runs.split (fun c1 => ?_) (fun c1 => ?_)
    case _ =>
     have c1' : noRsa k = true ∧ noCurve k = true := by simpa using c1
     simp +decide (maxSteps := 9^7) only [go_sem]
     refine Runs.call nE ?_
     simp +decide (maxSteps := 9^7) only [go_sem]
     exact Runs.ret_eq (by simp [keyB, k3', c1'])
    have : (noRsa k && noCurve k) = false := by first | exact c1 | (rw [Bool.not_eq_true'] at c1; exact c1)
    simp +decide (maxSteps := 9^7) only [go_sem]
    exact Runs.ret_eq (by rw [show keyB k = false by (have t := this; simp only [Bool.and_eq_false_iff] at t; rcases t with t | t <;> simp [keyB, k3', t])])
   ·have k3' : ¬ k.kind = 3 := by simpa using k3
    simp +decide (maxSteps := 9^7) only [go_sem]
    exact Runs.ret_eq (by simp [keyB, k1', k2', k3'])
end Go.Proofs.W

namespace Go.Proofs.W
open Go Go.AM
set_option maxRecDepth 10000
variable (hm : Tryz.prog.follows .mixedOrders = true)
def szI (n : Nat) (left : Int) : Int := if left - n < 0 then -1 else left - n
def szGo : List ByteArray → Int → Int
 | [], l => l
 | s :: r, l => if l - s.size < 0 then -1 else szGo r (l - s.size)
def szS (L : List ByteArray) (left : Int) : Int := if left - L.length < 0 then -1 else szGo L (left - L.length)
theorem szGo_le (L : List ByteArray) (l : Int) (h : 0 ≤ l) : szGo L l ≤ l ∧ -1 ≤ szGo L l := by
 induction L generalizing l with
 | nil => simp [szGo]; omega
 | cons s r ih =>
  simp only [szGo]
  split
  ·omega
  ·have := ih (l - s.size) (by omega); omega
theorem szS_le (L : List ByteArray) (l : Int) (h : 0 ≤ l) : szS L l ≤ l := by
 unfold szS
 split
 ·omega
 ·have := szGo_le L (l - L.length) (by omega); omega
theorem szI_le (n : Nat) (l : Int) (h : 0 ≤ l) : szI n l ≤ l ∧ -1 ≤ szI n l := by
 unfold szI
 split <;> omega
theorem szS_len (L : List ByteArray) (l : Int) (h : ¬ szS L l < 0) (hl : l ≤ 1048576) : L.length ≤ 1048576 := by
 unfold szS at h
 split at h
 ·exact absurd (by omega) h
 ·omega
theorem szI_len (n : Nat) (l : Int) (h : ¬ szI n l < 0) (hl : l ≤ 1048576) : n ≤ 1048576 := by
 unfold szI at h
 split at h
 ·exact absurd (by omega) h
 ·omega
include hm in
theorem szIntS (es : List A) (left : Int) (h1 : 0 ≤ left) (h2 : left ≤ 1048576) (h3 : es.length ≤ 9223372036854775807) :
  Holds Tryz.prog 46 [.sl .sh es, .v (.int .i64 left)] [] (.v (.int .i64 (szI es.length left))) [] := by
 refine holds_of (ann := []) tabOk hm Tryz.func46 (by kernel_rfl) rfl ?_
 simp +decide (disch := first | omega | (simp only [ll]; omega)) only [Tryz.f46, if_pos, go_sem]
 refine Runs.split (fun h => ?_) (fun h => ?_)
 ·simp only [decide_eq_true_eq] at h
  simp +decide only [szI, if_pos h, go_sem]
  exact Runs.ret_v
 ·simp only [decide_eq_false_iff_not] at h
  simp +decide only [szI, if_neg h, go_sem]
  exact Runs.ret_v
include hm in
theorem szByteS (es : List A) (left : Int) (h1 : 0 ≤ left) (h2 : left ≤ 1048576) (h3 : es.length ≤ 9223372036854775807) :
  Holds Tryz.prog 21 [.sl .sh es, .v (.int .i64 left)] [] (.v (.int .i64 (szI es.length left))) [] := by
 refine holds_of (ann := []) tabOk hm Tryz.func21 (by kernel_rfl) rfl ?_
 simp +decide (disch := first | omega | (simp only [ll]; omega)) only [Tryz.f21, if_pos, go_sem]
 refine Runs.split (fun h => ?_) (fun h => ?_)
 ·simp only [decide_eq_true_eq] at h
  simp +decide only [szI, if_pos h, go_sem]
  exact Runs.ret_v
 ·simp only [decide_eq_false_iff_not] at h
  simp +decide only [szI, if_neg h, go_sem]
  exact Runs.ret_v
def szAnn : Ann := [(0, [0, 1, 5])]
def szSt (L : List ByteArray) (p : Nat × Int) : St := ⟨[.sl .sh (L.map strA), .v (.int .i64 p.2), .any, .any, .any, .v (.int .i64 p.1), .any, .any, .any, .any, .any, .any, .any, .any, .any, .any, .any, .any, .any, .any, .any, .any, .any, .any, .any, .any, .any, .any], [], []⟩
include hm in
theorem szStringS (L : List ByteArray) (left : Int) (h1 : 0 ≤ left) (h2 : left ≤ 1048576) (h3 : L.length ≤ 9223372036854775807) (h4 : ∀ s ∈ L, s.size ≤ 9223372036854775807) :
  Holds Tryz.prog 18 [.sl .sh (L.map strA), .v (.int .i64 left)] [] (.v (.int .i64 (szS L left))) [] := by
 refine holds_of (ann := szAnn) tabOk hm Tryz.func18 (by kernel_rfl) rfl ?_
 simp +decide (disch := first | omega | (simp only [ll]; omega)) only [Tryz.f18, if_pos, go_sem]
 refine Runs.split (fun h => ?_) (fun h => ?_)
 ·simp only [decide_eq_true_eq] at h
  simp +decide only [szS, if_pos h, go_sem]
  exact Runs.ret_v
 ·simp only [decide_eq_false_iff_not] at h
  simp +decide only [go_sem]
  refine Runs.while (α := Nat × Int) (szSt L) (fun p => L.length - p.1) (fun p => p.1 ≤ L.length ∧ 0 ≤ p.2 ∧ p.2 ≤ 1048576 ∧ szGo (L.drop p.1) p.2 = szS L left) (0, left - L.length) ⟨by simp, by simp; omega, by simp; omega, by simp [szS, h]⟩ ?_ ?_
  ·simp [go_sem, szAnn, szSt]
  ·rintro ⟨i, l⟩ ⟨hi, hl1, hl2, hr⟩ ih
   simp only at hi hl1 hl2 hr
   simp +decide only [szSt, go_sem]
   refine Runs.split (fun h => ?_) (fun h => ?_)
   ·have hlt : i < L.length := by simpa using h
    have hsz := h4 L[i] (List.getElem_mem hlt)
    rw [List.drop_eq_getElem_cons hlt] at hr
    simp only [szGo] at hr
    simp +decide (disch := first | omega | (simp only [ll]; omega)) only [if_pos, go_sem]
    refine Runs.split (fun h => ?_) (fun h => ?_)
    ·simp only [decide_eq_true_eq] at h
     rw [if_pos h] at hr
     simp +decide only [← hr, go_sem]
     exact Runs.ret_v
    ·simp only [decide_eq_false_iff_not] at h
     rw [if_neg h] at hr
     simp +decide (disch := first | omega | (simp only [ll]; omega)) only [if_pos, go_sem]
     refine ih (i + 1, l - L[i].size) _ (by simp only; omega) ⟨hlt, by simp only; omega, by simp only; omega, hr⟩ ?_
     simp [go_sem, szAnn, szSt]
   ·have hge : i = L.length := by simp at h; omega
    subst hge
    simp only [List.drop_length, szGo] at hr
    simp +decide only [← hr, go_sem]
    exact Runs.ret_v
end Go.Proofs.W

namespace Go.Proofs.W
open Go Go.AM
set_option maxRecDepth 10000
variable (hm : Tryz.prog.follows .mixedOrders = true)
def fillS {α : Type} (g : α → A) (L : List α) (z : A) (i : Nat) : List A := (L.take i).map g ++ List.replicate (L.length - i) z
theorem fillS_length {α : Type} (g : α → A) (L : List α) (z : A) (i : Nat) (h : i ≤ L.length) : (fillS g L z i).length = L.length := by simp [fillS]; omega
theorem fillS_zero {α : Type} (g : α → A) (L : List α) (z : A) : fillS g L z 0 = List.replicate L.length z := by simp [fillS]
theorem fillS_all {α : Type} (g : α → A) (L : List α) (z : A) : fillS g L z L.length = L.map g := by simp [fillS]
theorem fillS_set {α : Type} (g : α → A) (L : List α) (z : A) (i : Nat) (h : i < L.length) : (fillS g L z i).set i (g L[i]) = fillS g L z (i + 1) := by
 unfold fillS
 have e : L.length - i = (L.length - (i + 1)) + 1 := by omega
 rw [List.set_append_right _ _ (by simp; omega), e, List.replicate_succ]
 have hl : ((L.take i).map g).length = i := by simp; omega
 rw [hl, Nat.sub_self, List.set_cons_zero, List.take_succ_eq_append_getElem h, List.map_append, List.append_assoc]
 rfl
theorem fillS_get {α : Type} (g : α → A) (L : List α) (z : A) (i : Nat) (h : i < L.length) : (fillS g L z i).getD i .any = z := by
 unfold fillS
 have hl : ((L.take i).map g).length = i := by simp; omega
 rw [List.getD, List.getElem?_append_right (by omega), hl, Nat.sub_self]
 have e : L.length - i = (L.length - (i + 1)) + 1 := by omega
 rw [e, List.replicate_succ]
 rfl
def toAnn : Ann := [(0, [0, 3, 4])]
def toStringSt (L : List ByteArray) (i : Nat) : St := ⟨[.sl .sh (L.map strA), .any, .any, .ms (.l 0) 0 L.length L.length, .v (.int .i64 i), .any, .any, .any, .any, .any, .any, .any, .any, .any, .any, .any, .any, .any, .any, .any, .any, .any], [(0, ⟨true, 1, false, fillS strA L (.v (.string ⟨#[]⟩)) i⟩)], []⟩
include hm in
theorem toStringS (L : List ByteArray) (h3 : L.length ≤ 1048576) : Holds Tryz.prog 26 [.sl .sh (L.map strA)] [] (.sl (.ow 1) (L.map strA)) [] := by
 refine holds_of (ann := toAnn) tabOk hm Tryz.func26 (by kernel_rfl) rfl ?_
 simp +decide (disch := first | omega | (simp only [ll]; omega)) only [Tryz.f26, if_pos, go_sem]
 refine Runs.while (α := Nat) (toStringSt L) (fun i => L.length - i) (fun i => i ≤ L.length) 0 (by omega) ?_ ?_
 ·simp [go_sem, toAnn, toStringSt, fillS_zero]
 ·intro i hi ih
  have hlen := fillS_length strA L (.v (.string ⟨#[]⟩)) i hi
  simp +decide only [toStringSt, hlen, go_sem]
  refine Runs.split (fun h => ?_) (fun h => ?_)
  ·have hlt : i < L.length := by simpa using h
   have hg := fillS_get strA L (.v (.string ⟨#[]⟩)) i hlt
   have hs : (fillS strA L (.v (.string ⟨#[]⟩)) i).set i (strA L[i]) = _ := fillS_set strA L (.v (.string ⟨#[]⟩)) i hlt
   simp only [strA] at hs
   simp +decide (disch := first | omega | (simp only [ll]; omega)) only [hlen, hg, hs, if_pos, go_sem]
   refine ih (i + 1) _ (by omega) hlt ?_
   simp [go_sem, toAnn, toStringSt]
  ·have hge : i = L.length := by simp at h; omega
   subst hge
   simp +decide only [hlen, fillS_all, go_sem]
   exact Runs.ret_refl
def toIntSt (L : List Int) (i : Nat) : St := ⟨[.sl .sh (L.map intA), .any, .any, .ms (.l 0) 0 L.length L.length, .v (.int .i64 i), .any, .any, .any, .any, .any, .any, .any, .any, .any, .any, .any, .any, .any, .any, .any, .any, .any], [(0, ⟨true, 1, false, fillS intA L (.v (.int .i64 0)) i⟩)], []⟩
include hm in
theorem toIntS (L : List Int) (h3 : L.length ≤ 1048576) : Holds Tryz.prog 9 [.sl .sh (L.map intA)] [] (.sl (.ow 1) (L.map intA)) [] := by
 refine holds_of (ann := toAnn) tabOk hm Tryz.func9 (by kernel_rfl) rfl ?_
 simp +decide (disch := first | omega | (simp only [ll]; omega)) only [Tryz.f9, if_pos, go_sem]
 refine Runs.while (α := Nat) (toIntSt L) (fun i => L.length - i) (fun i => i ≤ L.length) 0 (by omega) ?_ ?_
 ·simp [go_sem, toAnn, toIntSt, fillS_zero]
 ·intro i hi ih
  have hlen := fillS_length intA L (.v (.int .i64 0)) i hi
  simp +decide only [toIntSt, hlen, go_sem]
  refine Runs.split (fun h => ?_) (fun h => ?_)
  ·have hlt : i < L.length := by simpa using h
   have hg := fillS_get intA L (.v (.int .i64 0)) i hlt
   have hs : (fillS intA L (.v (.int .i64 0)) i).set i (intA L[i]) = _ := fillS_set intA L (.v (.int .i64 0)) i hlt
   simp only [intA] at hs
   simp +decide (disch := first | omega | (simp only [ll]; omega)) only [hlen, hg, hs, if_pos, go_sem]
   refine ih (i + 1) _ (by omega) hlt ?_
   simp [go_sem, toAnn, toIntSt]
  ·have hge : i = L.length := by simp at h; omega
   subst hge
   simp +decide only [hlen, fillS_all, go_sem]
   exact Runs.ret_refl
def toByteSt (L : List Int) (i : Nat) : St := ⟨[.sl .sh (L.map u8A), .any, .any, .ms (.l 0) 0 L.length L.length, .v (.int .i64 i), .any, .any, .any, .any, .any, .any, .any, .any, .any, .any, .any, .any, .any, .any, .any, .any, .any], [(0, ⟨true, 1, false, fillS u8A L (.v (.int .u8 0)) i⟩)], []⟩
include hm in
theorem toByteS (L : List Int) (h3 : L.length ≤ 1048576) : Holds Tryz.prog 29 [.sl .sh (L.map u8A)] [] (.sl (.ow 1) (L.map u8A)) [] := by
 refine holds_of (ann := toAnn) tabOk hm Tryz.func29 (by kernel_rfl) rfl ?_
 simp +decide (disch := first | omega | (simp only [ll]; omega)) only [Tryz.f29, if_pos, go_sem]
 refine Runs.while (α := Nat) (toByteSt L) (fun i => L.length - i) (fun i => i ≤ L.length) 0 (by omega) ?_ ?_
 ·simp [go_sem, toAnn, toByteSt, fillS_zero]
 ·intro i hi ih
  have hlen := fillS_length u8A L (.v (.int .u8 0)) i hi
  simp +decide only [toByteSt, hlen, go_sem]
  refine Runs.split (fun h => ?_) (fun h => ?_)
  ·have hlt : i < L.length := by simpa using h
   have hg := fillS_get u8A L (.v (.int .u8 0)) i hlt
   have hs : (fillS u8A L (.v (.int .u8 0)) i).set i (u8A L[i]) = _ := fillS_set u8A L (.v (.int .u8 0)) i hlt
   simp only [u8A] at hs
   simp +decide (disch := first | omega | (simp only [ll]; omega)) only [hlen, hg, hs, if_pos, go_sem]
   refine ih (i + 1) _ (by omega) hlt ?_
   simp [go_sem, toAnn, toByteSt]
  ·have hge : i = L.length := by simp at h; omega
   subst hge
   simp +decide only [hlen, fillS_all, go_sem]
   exact Runs.ret_refl
end Go.Proofs.W

namespace Go.Proofs.W
open Go Go.AM
set_option maxRecDepth 10000
variable (hm : Tryz.prog.follows .mixedOrders = true)
def eqAnn : Ann := [(0, [0, 1, 5])]
def eqSched : Sched := .take 0 (.take 1 (.take 2 (.take 4 (.take 5 (.take 6 (.alt 3 (.alt 7 (.take 8 .fin) .nil) (.alt 7 (.alt 3 (.take 8 .fin) .nil) .nil)))))))
attribute [local go_sem] eqSched
def eqStringSt (L : List ByteArray) (i : Nat) : St := ⟨[.sl .sh (L.map strA), .sl .sh (L.map strA), .any, .any, .any, .v (.int .i64 i), .any, .any, .any, .any, .any, .any, .any, .any, .any, .any, .any, .any, .any, .any, .any, .any, .any, .any, .any, .any], [], []⟩
include hm in
theorem eqStringS (L : List ByteArray) (h3 : L.length ≤ 9223372036854775807) : Holds Tryz.prog 33 [.sl .sh (L.map strA), .sl .sh (L.map strA)] [] (.v (.bool true)) [] := by
 refine holds_of (ann := eqAnn) tabOk hm Tryz.func33 (by kernel_rfl) rfl ?_
 simp +decide only [Tryz.f33, go_sem]
 refine Runs.while (α := Nat) (eqStringSt L) (fun i => L.length - i) (fun i => i ≤ L.length) 0 (by omega) ?_ ?_
 ·simp [go_sem, eqAnn, eqStringSt]
 ·intro i hi ih
  simp +decide only [eqStringSt, go_sem]
  refine Runs.split (fun h => ?_) (fun h => ?_)
  ·have hlt : i < L.length := by simpa using h
   simp +decide only [go_sem]
   refine Runs.draw (st1 := ?s1) (draws_by (ann := []) tabOk eqSched (by kernel_rfl) ?p1) ?q1
   case p1 =>
    intro K r X hK
    simp +decide (disch := first | omega | (simp only [ll]; omega)) only [if_pos, go_sem]
    exact hK
   case q1 =>
    simp +decide (disch := first | omega | (simp only [ll]; omega)) only [if_pos, go_sem]
    refine ih (i + 1) _ (by omega) hlt ?_
    simp [go_sem, eqAnn, eqStringSt]
  ·simp +decide only [go_sem]
   exact Runs.ret_v
def eqIntSt (L : List Int) (i : Nat) : St := ⟨[.sl .sh (L.map intA), .sl .sh (L.map intA), .any, .any, .any, .v (.int .i64 i), .any, .any, .any, .any, .any, .any, .any, .any, .any, .any, .any, .any, .any, .any, .any, .any, .any, .any, .any, .any], [], []⟩
include hm in
theorem eqIntS (L : List Int) (h3 : L.length ≤ 9223372036854775807) : Holds Tryz.prog 13 [.sl .sh (L.map intA), .sl .sh (L.map intA)] [] (.v (.bool true)) [] := by
 refine holds_of (ann := eqAnn) tabOk hm Tryz.func13 (by kernel_rfl) rfl ?_
 simp +decide only [Tryz.f13, go_sem]
 refine Runs.while (α := Nat) (eqIntSt L) (fun i => L.length - i) (fun i => i ≤ L.length) 0 (by omega) ?_ ?_
 ·simp [go_sem, eqAnn, eqIntSt]
 ·intro i hi ih
  simp +decide only [eqIntSt, go_sem]
  refine Runs.split (fun h => ?_) (fun h => ?_)
  ·have hlt : i < L.length := by simpa using h
   simp +decide only [go_sem]
   refine Runs.draw (st1 := ?s1) (draws_by (ann := []) tabOk eqSched (by kernel_rfl) ?p1) ?q1
   case p1 =>
    intro K r X hK
    simp +decide (disch := first | omega | (simp only [ll]; omega)) only [if_pos, go_sem]
    exact hK
   case q1 =>
    simp +decide (disch := first | omega | (simp only [ll]; omega)) only [if_pos, go_sem]
    refine ih (i + 1) _ (by omega) hlt ?_
    simp [go_sem, eqAnn, eqIntSt]
  ·simp +decide only [go_sem]
   exact Runs.ret_v
def eqByteSt (L : List Int) (i : Nat) : St := ⟨[.sl .sh (L.map u8A), .sl .sh (L.map u8A), .any, .any, .any, .v (.int .i64 i), .any, .any, .any, .any, .any, .any, .any, .any, .any, .any, .any, .any, .any, .any, .any, .any, .any, .any, .any, .any], [], []⟩
include hm in
theorem eqByteS (L : List Int) (h3 : L.length ≤ 9223372036854775807) : Holds Tryz.prog 36 [.sl .sh (L.map u8A), .sl .sh (L.map u8A)] [] (.v (.bool true)) [] := by
 refine holds_of (ann := eqAnn) tabOk hm Tryz.func36 (by kernel_rfl) rfl ?_
 simp +decide only [Tryz.f36, go_sem]
 refine Runs.while (α := Nat) (eqByteSt L) (fun i => L.length - i) (fun i => i ≤ L.length) 0 (by omega) ?_ ?_
 ·simp [go_sem, eqAnn, eqByteSt]
 ·intro i hi ih
  simp +decide only [eqByteSt, go_sem]
  refine Runs.split (fun h => ?_) (fun h => ?_)
  ·have hlt : i < L.length := by simpa using h
   simp +decide only [go_sem]
   refine Runs.draw (st1 := ?s1) (draws_by (ann := []) tabOk eqSched (by kernel_rfl) ?p1) ?q1
   case p1 =>
    intro K r X hK
    simp +decide (disch := first | omega | (simp only [ll]; omega)) only [if_pos, go_sem]
    exact hK
   case q1 =>
    simp +decide (disch := first | omega | (simp only [ll]; omega)) only [if_pos, go_sem]
    refine ih (i + 1) _ (by omega) hlt ?_
    simp [go_sem, eqAnn, eqByteSt]
  ·simp +decide only [go_sem]
   exact Runs.ret_v
end Go.Proofs.W

namespace Go.Proofs.W
open Go Go.AM Go.Proofs.G
set_option maxRecDepth 10000
variable (hm : Tryz.prog.follows .mixedOrders = true)
attribute [local go_sem] edA prA cvA ptA keyA
def keyO (k : GKey) : A := .agg [.v (.int .i64 k.kind), .sl (.ow 1) (k.N.map intA), .v (.int .i64 k.e), .v (.int .i64 k.cv.p), .v (.int .i64 k.cv.a), .v (.int .i64 k.cv.b), .v (.int .i64 k.cv.n), .v (.int .i64 k.cv.gx), .v (.int .i64 k.cv.gy),
 .v (.int .i64 k.q.x), .v (.int .i64 k.q.y), .v (.bool k.q.far), .v (.int .i64 k.ed.p), .v (.int .i64 k.ed.d), .v (.int .i64 k.ed.l), .v (.int .i64 k.ed.bx), .v (.int .i64 k.ed.by'), .v (.int .i64 k.a.1), .v (.int .i64 k.a.2)]
attribute [local go_sem] keyO
include hm in
theorem toCurve (k : GCv) : Holds Tryz.prog 52 [cvA k] [] (cvA k) [] := by
 refine holds_ref (ann := []) tabOk hm (byL [] [1000001]) Tryz.func52 (by kernel_rfl) rfl ?_
 simp +decide only [Tryz.f52, go_sem]
 exact Runs.ret_refl
include hm in
theorem eqLCurve (k : GCv) : Holds Tryz.prog 62 [cvA k, cvA k] [] (.v (.bool true)) [] := by
 refine holds_ref (ann := []) tabOk hm (byL [] [1000002, 1000003]) Tryz.func62 (by kernel_rfl) rfl ?_
 simp +decide only [Tryz.f62, go_sem]
 exact Runs.ret_v
include hm in
theorem toPoint (k : GPt) : Holds Tryz.prog 53 [ptA k] [] (ptA k) [] := by
 refine holds_ref (ann := []) tabOk hm (byL [] [1000001]) Tryz.func53 (by kernel_rfl) rfl ?_
 simp +decide only [Tryz.f53, go_sem]
 exact Runs.ret_refl
include hm in
theorem eqLPoint (k : GPt) : Holds Tryz.prog 63 [ptA k, ptA k] [] (.v (.bool true)) [] := by
 refine holds_ref (ann := []) tabOk hm (byL [] [1000002, 1000003]) Tryz.func63 (by kernel_rfl) rfl ?_
 simp +decide only [Tryz.f63, go_sem]
 exact Runs.ret_v
include hm in
theorem toEd (k : GEd) : Holds Tryz.prog 54 [edA k] [] (edA k) [] := by
 refine holds_ref (ann := []) tabOk hm (byL [] [1000001]) Tryz.func54 (by kernel_rfl) rfl ?_
 simp +decide only [Tryz.f54, go_sem]
 exact Runs.ret_refl
include hm in
theorem eqLEd (k : GEd) : Holds Tryz.prog 64 [edA k, edA k] [] (.v (.bool true)) [] := by
 refine holds_ref (ann := []) tabOk hm (byL [] [1000002, 1000003]) Tryz.func64 (by kernel_rfl) rfl ?_
 simp +decide only [Tryz.f64, go_sem]
 exact Runs.ret_v
include hm in
theorem toPair (k : GPr) : Holds Tryz.prog 55 [prA k] [] (prA k) [] := by
 refine holds_ref (ann := []) tabOk hm (byL [] [1000001]) Tryz.func55 (by kernel_rfl) rfl ?_
 simp +decide only [Tryz.f55, go_sem]
 exact Runs.ret_refl
include hm in
theorem eqLPair (k : GPr) : Holds Tryz.prog 65 [prA k, prA k] [] (.v (.bool true)) [] := by
 refine holds_ref (ann := []) tabOk hm (byL [] [1000002, 1000003]) Tryz.func65 (by kernel_rfl) rfl ?_
 simp +decide only [Tryz.f65, go_sem]
 exact Runs.ret_v
include hm in
theorem szKey (k : GKey) (left : Int) (l1 : 0 ≤ left) (l2 : left ≤ 1048576) (h3 : k.N.length ≤ 9223372036854775807) : Holds Tryz.prog 19 [keyA k, .v (.int .i64 left)] [] (.v (.int .i64 (szI k.N.length left))) [] := by
 refine holds_ref (ann := []) tabOk hm (byL [] [1000002]) Tryz.func19 (by kernel_rfl) rfl ?_
 simp +decide only [Tryz.f19, go_sem]
 refine Runs.call (szIntS hm (k.N.map intA) left l1 l2 (by simpa using h3)) ?_
 simp +decide only [List.length_map, go_sem]
 have b := szI_le k.N.length left l1
 refine Runs.split (fun e => ?_) (fun e => ?_)
 ·simp only [decide_eq_true_eq] at e
  have e3 : szI k.N.length left = -1 := by omega
  simp +decide only [e3, go_sem]
  exact Runs.ret_v
 ·simp +decide only [go_sem]
  exact Runs.ret_v
set_option maxHeartbeats 4000000 in
include hm in
theorem toKey (k : GKey) (h3 : k.N.length ≤ 1048576) : Holds Tryz.prog 27 [keyA k] [] (keyO k) [] := by
 refine holds_ref (ann := []) tabOk hm (byL [] [1000001]) Tryz.func27 (by kernel_rfl) rfl ?_
 have c1 := toCurve hm k.cv
 have c2 := toPoint hm k.q
 have c3 := toEd hm k.ed
 have c4 := toPair hm k.a
 simp only [cvA, ptA, edA, prA] at c1 c2 c3 c4
 simp +decide only [Tryz.f27, go_sem]
 refine Runs.call (toIntS hm k.N h3) ?_
 simp +decide only [go_sem]
 refine Runs.call c1 ?_
 simp +decide only [go_sem]
 refine Runs.call c2 ?_
 simp +decide only [go_sem]
 refine Runs.call c3 ?_
 simp +decide only [go_sem]
 refine Runs.call c4 ?_
 simp +decide only [go_sem]
 exact Runs.ret_refl
set_option maxHeartbeats 4000000 in
include hm in
theorem eqKey (k : GKey) (h3 : k.N.length ≤ 1048576) : Holds Tryz.prog 34 [keyA k, keyA k] [] (.v (.bool true)) [] := by
 refine holds_ref (ann := []) tabOk hm (byL [] [1000002, 1000003]) Tryz.func34 (by kernel_rfl) rfl ?_
 have c1 := eqLCurve hm k.cv
 have c2 := eqLPoint hm k.q
 have c3 := eqLEd hm k.ed
 have c4 := eqLPair hm k.a
 simp only [cvA, ptA, edA, prA] at c1 c2 c3 c4
 simp +decide only [Tryz.f34, go_sem]
 refine Runs.call (eqIntS hm k.N (by omega)) ?_
 simp +decide only [go_sem]
 refine Runs.call c1 ?_
 simp +decide only [go_sem]
 refine Runs.call c2 ?_
 simp +decide only [go_sem]
 refine Runs.call c3 ?_
 simp +decide only [go_sem]
 refine Runs.call c4 ?_
 simp +decide only [go_sem]
 exact Runs.ret_v
end Go.Proofs.W

namespace Go.Proofs.W
open Go Go.AM
def mkS (l : List UInt8) : ByteArray := ⟨l.toArray⟩
theorem mkS_list (s : ByteArray) : mkS s.data.toList = s := by cases s; simp [mkS]
theorem mkS_size (l : List UInt8) : (mkS l).size = l.length := by simp [mkS, ByteArray.size]
theorem mkS_data (l : List UInt8) : (mkS l).data.toList = l := by simp [mkS]
theorem list_size (s : ByteArray) : s.data.toList.length = s.size := by rw [Array.length_toList]; rfl
theorem ext_list (s : ByteArray) (a b : Nat) : (s.extract a b).data.toList = (s.data.toList.drop a).take (b - a) := by
 rw [ByteArray.data_extract]; simp [List.extract_eq_take_drop]
theorem getD_lt {l : List UInt8} {i : Nat} (h : i < l.length) : l.getD i 0 = l[i] := by rw [List.getD, List.getElem?_eq_getElem h]; rfl
theorem mkS_ext (s : ByteArray) (a b : Nat) : s.extract a b = mkS ((s.data.toList.drop a).take (b - a)) := by
 rw [← ext_list, mkS_list]
def partsL (c : UInt8) : List UInt8 → List (List UInt8)
 | [] => [[]]
 | b :: l => if b = c then [] :: partsL c l else match partsL c l with
  | [] => [[b]]
  | p :: r => (b :: p) :: r
theorem partsL_cut (c : UInt8) : ∀ (p r : List UInt8), (∀ b ∈ p, b ≠ c) → partsL c (p ++ c :: r) = p :: partsL c r
 | [], r, _ => by simp [partsL]
 | b :: p, r, h => by
  rw [List.cons_append, partsL, if_neg (h b (by simp)), partsL_cut c p r fun x hx => h x (by simp [hx])]
theorem partsL_no (c : UInt8) : ∀ (p : List UInt8), (∀ b ∈ p, b ≠ c) → partsL c p = [p]
 | [], _ => by simp [partsL]
 | b :: p, h => by
  rw [partsL, if_neg (h b (by simp)), partsL_no c p fun x hx => h x (by simp [hx])]
theorem partsL_len (c : UInt8) : ∀ l : List UInt8, (partsL c l).length = l.count c + 1
 | [] => by simp [partsL]
 | b :: l => by
  have ih := partsL_len c l
  unfold partsL
  split
  ·rename_i h; subst h; simp [ih]
  ·rename_i h
   rw [List.count_cons_of_ne (by simpa using h)]
   split
   ·rename_i e; rw [e] at ih; simp at ih
   ·rename_i p r e; rw [e] at ih; simpa using ih
theorem partsL_sum (c : UInt8) : ∀ (l : List UInt8), ∀ p ∈ partsL c l, p.length ≤ l.length
 | [], p, h => by simp [partsL] at h; simp [h]
 | b :: l, p, h => by
  have ih := partsL_sum c l
  unfold partsL at h
  split at h
  ·rcases List.mem_cons.mp h with h | h
   ·simp [h]
   ·have := ih p h; simp; omega
  ·split at h
   ·simp at h; simp [h]
   ·rename_i q r e
    rw [e] at ih
    rcases List.mem_cons.mp h with h | h
    ·have := ih q (by simp); simp [h]; omega
    ·have := ih p (by simp [h]); simp; omega
theorem idx_none {c : UInt8} {l : List UInt8} (h : Lib.indexByte l c = -1) : ∀ b ∈ l, b ≠ c := by
 intro b hb e
 obtain ⟨i, hi, e2⟩ := List.getElem_of_mem hb
 exact Lib.indexByte_none h i (by rw [List.getElem?_eq_getElem hi, e2, e])
theorem idx_some {c : UInt8} {l : List UInt8} {m : Nat} (h : Lib.indexByte l c = m) : ∃ p r, l = p ++ c :: r ∧ p.length = m ∧ ∀ b ∈ p, b ≠ c := by
 obtain ⟨h1, h2⟩ := Lib.indexByte_some h
 obtain ⟨hm, e⟩ := List.getElem?_eq_some_iff.mp h1
 refine ⟨l.take m, l.drop (m + 1), ?_, by simp; omega, ?_⟩
 ·rw [← e, ← List.drop_eq_getElem_cons hm, List.take_append_drop]
 ·intro b hb e2
  obtain ⟨i, hi, e3⟩ := List.getElem_of_mem hb
  simp at hi
  rw [List.getElem_take] at e3
  exact h2 i (by omega) (by rw [List.getElem?_eq_getElem (by omega), e3, e2])
theorem count_none {c : UInt8} {l : List UInt8} (h : l.count c = 0) : ∀ b ∈ l, b ≠ c := by
 intro b hb e
 subst e
 exact absurd (List.count_pos_iff.mpr hb) (by omega)
theorem count_cut {c : UInt8} {p r : List UInt8} (h : ∀ b ∈ p, b ≠ c) : (p ++ c :: r).count c = r.count c + 1 := by
 rw [List.count_append, List.count_cons_self, List.count_eq_zero.mpr fun hc => h c hc rfl]; omega
def partsB (s : ByteArray) : List ByteArray := (partsL 46 s.data.toList).map mkS
theorem partsB_len (s : ByteArray) : (partsB s).length = s.data.toList.count 46 + 1 := by simp [partsB, partsL_len]
theorem partsB_le (s : ByteArray) : (partsB s).length ≤ s.size + 1 := by
 rw [partsB_len, ← list_size]
 have := List.count_le_length (a := (46 : UInt8)) (l := s.data.toList)
 omega
theorem partsB_sz (s : ByteArray) : ∀ p ∈ partsB s, p.size ≤ s.size := by
 intro p hp
 obtain ⟨q, hq, rfl⟩ := List.mem_map.mp hp
 rw [mkS_size, ← list_size]
 exact partsL_sum 46 _ q hq
def digC (b : UInt8) : Bool := inB b.toNat 48 57
def dashC (b : UInt8) : Bool := decide ((b.toNat : Int) = 45)
def okC (b : UInt8) : Bool := inB b.toNat 97 122 || digC b || dashC b
def labelB (s : ByteArray) : Bool := s.data.toList.all okC && inB s.size 1 20 && !dashC (s.data.toList.getD 0 0) && !dashC (s.data.toList.getD (s.size - 1) 0)
def digitsB (s : ByteArray) : Bool := s.data.toList.all digC && decide ((s.size : Int) > 0)
def lastB (L : List ByteArray) : ByteArray := L.getD (L.length - 1) ⟨#[]⟩
def hostB (s : ByteArray) : Bool := decide (s.size ≤ 80) && (partsB s).all labelB && decide ((partsB s).length ≤ 8) && !(lastB (partsB s)).data.toList.all digC
def dotC (b : UInt8) : Bool := decide ((b.toNat : Int) = 46)
def underB (b h : ByteArray) : Bool := hostB b && hostB h && ((b.toList == h.toList) || (decide ((h.size : Int) - b.size > 0) && ((h.extract (h.size - b.size) h.size).toList == b.toList) && dotC (h.data.toList.getD (h.size - b.size - 1) 0)))
def allowedB (al de : List ByteArray) (h : ByteArray) : Bool := hostB h && (decide (al.length = 0) || al.any fun b => underB b h) && !(de.any fun b => underB b h)
end Go.Proofs.W

namespace Go.Proofs.W
open Go Go.AM
variable (hm : Tryz.prog.follows .mixedOrders = true)
theorem repL_vs {C : Ctx} {w : World} : ∀ {vs xs : List Value} {f}, RepL C w (vs.map A.v) xs f → xs = vs ∧ ∀ b, f b = 0
 | [], _, _, h => by cases h with | nil h => exact ⟨rfl, h⟩
 | v :: vs, _, _, h => by
  rw [List.map_cons] at h
  cases h with | v h => have := repL_vs h; exact ⟨by rw [this.1], this.2⟩
theorem holds_same {P : Program} {f : Nat} {vs : List Value} {r : Value} (hf : ∃ fn c, P.funcs[f]? = some fn ∧ (fn.name == "runtime.NumGoroutine") = false ∧ fn.body = some c)
  (h : ∀ w, Calls P f vs.toArray w fun e w' => e = .returned r ∧ w' = w) : Holds P f (vs.map .v) [] (.v r) [] where
 fn := hf
 calls := by
  intro C w xs fx fa hF hB hI hX hM hle hno hR
  obtain ⟨rfl, h0⟩ := repL_vs hR
  have hx : ∀ b, fx b = 0 := by
   have hM : MemR C w [] fx := hM
   cases hM with | nil h => exact h
  refine (h w).mono ?_
  rintro e w' ⟨rfl, rfl⟩
  refine ⟨C, fun _ => 0, fun _ => 0, Ctx.ToX.refl C, rfl, hB, fun _ h => h, fun _ h => .inl h, hI, hX, Same.refl _ _, .nil fun _ => rfl, .v (.nil fun _ => rfl), fun _ => Nat.zero_le _, fun b hb => absurd hb (by simp)⟩
set_option maxHeartbeats 1000000 in
set_option maxRecDepth 100000 in
theorem indexByteC (s : ByteArray) (c : Int) (w : World) :
  Calls Tryz.prog 168 #[.string s, .int .u8 c] w fun e w' => e = .returned (.int .i64 (Lib.indexByte s.data.toList c.toNat.toUInt8)) ∧ w' = w := by
 go_enter Tryz.func168, Tryz.ntmps168
 go_wp2
 rw [run_callFunc_extern Tryz.func177 (by kernel_rfl) (by kernel_rfl) (by kernel_rfl) (e := Extern.BytealgIndexByte.indexByte) (by kernel_rfl), Lib.run_indexByteString]
 simp only [Result.andThen]
 rw [Oper.upon_value]
 go_wp2
 go_ret
 exact ⟨rfl, rfl⟩
theorem indexByteH (s : ByteArray) (c : Int) : Holds Tryz.prog 168 [.v (.string s), .v (.int .u8 c)] [] (.v (.int .i64 (Lib.indexByte s.data.toList c.toNat.toUInt8))) [] :=
 holds_same (vs := [.string s, .int .u8 c]) ⟨_, _, Tryz.func168, by kernel_rfl, rfl⟩ fun w => indexByteC s c w
set_option maxHeartbeats 1000000 in
set_option maxRecDepth 100000 in
theorem countC (s : ByteArray) (c : UInt8) (w : World) :
  Calls Tryz.prog 162 #[.string s, .string ⟨#[c]⟩] w fun e w' => e = .returned (.int .i64 (Lib.countByte s.data.toList c)) ∧ w' = w := by
 go_enter Tryz.func162, Tryz.ntmps162
 go_wp2
 rw [run_callFunc_extern Tryz.func173 (by kernel_rfl) (by kernel_rfl) (by kernel_rfl) (e := Extern.BytealgCount.count) (by kernel_rfl), Lib.run_countString]
 simp only [Result.andThen]
 rw [Oper.upon_value]
 go_wp2
 go_ret
 exact ⟨rfl, rfl⟩
theorem countH (s : ByteArray) (c : UInt8) : Holds Tryz.prog 162 [.v (.string s), .v (.string ⟨#[c]⟩)] [] (.v (.int .i64 (Lib.countByte s.data.toList c))) [] :=
 holds_same (vs := [.string s, .string ⟨#[c]⟩]) ⟨_, _, Tryz.func162, by kernel_rfl, rfl⟩ fun w => countC s c w
end Go.Proofs.W

namespace Go.Proofs.W
open Go Go.AM
variable (hm : Tryz.prog.follows .mixedOrders = true)
theorem indexByte_lt (l : List UInt8) (c : UInt8) : Lib.indexByte l c = -1 ∨ ∃ m : Nat, Lib.indexByte l c = m ∧ m < l.length := by
 have := Lib.indexByte_ge l c
 rcases Int.lt_or_le (Lib.indexByte l c) 0 with h | h
 ·left; omega
 ·right
  obtain ⟨m, e⟩ := Int.eq_ofNat_of_zero_le h
  refine ⟨m, e, ?_⟩
  obtain ⟨p, r, e1, e2, _⟩ := idx_some e
  rw [e1]; simp; omega
set_option maxRecDepth 10000 in
include hm in
theorem index1 (s : ByteArray) : Holds Tryz.prog 160 [.v (.string s), .v (.string ⟨#[46]⟩)] [] (.v (.int .i64 (Lib.indexByte s.data.toList 46))) [] := by
 refine holds_of (ann := []) tabOk hm Tryz.func160 (by kernel_rfl) rfl ?_
 simp +decide only [Tryz.f160, go_sem]
 have e2 : Int.toNat 0 = 0 := rfl
 refine Runs.split (fun h => ?_) (fun h => ?_)
 ·have e : s = ⟨#[46]⟩ := by
   rw [beq_iff_eq, Lib.toList_data, Lib.toList_data] at h
   rw [← mkS_list s, ← h]; rfl
  rw [e]
  simp +decide only [go_sem]
  exact Runs.ret_eq (by rw [show Lib.indexByte (ByteArray.mk #[46]).data.toList 46 = 0 by decide])
 ·simp +decide only [e2, go_sem]
  refine Runs.call (indexByteH s 46) ?_
  simp +decide only [go_sem]
  exact Runs.ret_eq rfl
include hm in
theorem sindex1 (s : ByteArray) : Holds Tryz.prog 140 [.v (.string s), .v (.string ⟨#[46]⟩)] [] (.v (.int .i64 (Lib.indexByte s.data.toList 46))) [] := by
 refine holds_of (ann := []) tabOk hm Tryz.func140 (by kernel_rfl) rfl ?_
 simp +decide only [Tryz.f140, go_sem]
 refine Runs.call (index1 hm s) ?_
 simp +decide only [go_sem]
 exact Runs.ret_v
def gsRow (N : Nat) (D : List ByteArray) : List A := D.map strA ++ List.replicate (N - D.length) (.v (.string ⟨#[]⟩))
theorem gsRow_len {N : Nat} {D : List ByteArray} (h : D.length ≤ N) : (gsRow N D).length = N := by simp [gsRow]; omega
theorem gsRow_zero (N : Nat) : gsRow N [] = List.replicate N (.v (.string ⟨#[]⟩)) := by simp [gsRow]
theorem gsRow_set {N : Nat} {D : List ByteArray} (h : D.length < N) (p : ByteArray) : (gsRow N D).set D.length (.v (.string p)) = gsRow N (D ++ [p]) := by
 unfold gsRow
 have e : N - D.length = (N - (D.length + 1)) + 1 := by omega
 rw [List.set_append_right _ _ (by simp), List.length_map, Nat.sub_self, e, List.replicate_succ, List.set_cons_zero]
 simp [strA]
theorem gsRow_get {N : Nat} {D : List ByteArray} (h : D.length < N) : (gsRow N D).getD D.length .any = .v (.string ⟨#[]⟩) := by
 unfold gsRow
 have e : N - D.length = (N - (D.length + 1)) + 1 := by omega
 rw [List.getD, List.getElem?_append_right (by simp), List.length_map, Nat.sub_self, e, List.replicate_succ]
 rfl
def gsAnn : Ann := [(0, [0, 1, 2, 3, 9, 10])]
def gsSt (N : Nat) (p : List ByteArray × ByteArray) : St := ⟨[.v (.string p.2), .v (.string ⟨#[46]⟩), .v (.int .i64 0), .v (.int .i64 ((N : Int) - 1)), .any, .any, .any, .any, .any, .ms (.l 0) 0 N N, .v (.int .i64 p.1.length), .any, .any, .any, .any, .any, .any, .any, .any, .any, .any, .any, .any, .any, .any, .any, .any, .any, .any, .any, .any, .any, .any, .any, .any, .any, .any, .any, .any, .any, .any, .any, .any, .any, .any, .any, .any, .any, .any, .any, .any, .any, .any, .any, .any, .any, .any, .any, .any, .any, .any, .any, .any, .any, .any, .any], [(0, ⟨true, 1, false, gsRow N p.1⟩)], []⟩
set_option maxHeartbeats 4000000 in
set_option maxRecDepth 10000 in
include hm in
theorem genSplit1 (s : ByteArray) (h : s.size ≤ 1048576) : Holds Tryz.prog 141 [.v (.string s), .v (.string ⟨#[46]⟩), .v (.int .i64 0), .v (.int .i64 (-1))] [] (.sl (.ow 1) ((partsB s).map strA)) [] := by
 refine holds_of (ann := gsAnn) tabOk hm Tryz.func141 (by kernel_rfl) rfl ?_
 have hz := list_size s
 have hle := partsB_le s
 obtain ⟨N, hN⟩ : ∃ N, N = (partsB s).length := ⟨_, rfl⟩
 have hN2 := hN
 rw [partsB_len] at hN2
 have hb46 : ((⟨#[46]⟩ : ByteArray).toList == (⟨#[]⟩ : ByteArray).toList) = false := by rw [Lib.toList_data, Lib.toList_data]; decide
 simp +decide only [Tryz.f141, hb46, go_sem]
 refine Runs.call (countH s 46) ?_
 have e0 : (Lib.countByte s.data.toList 46 : Int) = (N : Int) - 1 := by rw [hN2, Lib.countByte]; omega
 have e1 : IntKind.i64.wrap ((N : Int) - 1 + 1) = N := by rw [wrap_i64 (by omega) (by omega)]; omega
 have e3 : IntKind.i64.wrap ((s.size : Int) + 1) = (s.size : Int) + 1 := wrap_i64 (by omega) (by omega)
 have e4 : (if (s.size : Int) + 1 < N then (s.size : Int) + 1 else (N : Int)) = N := if_neg (by omega)
 simp +decide (disch := first | omega | (simp only [ll]; omega)) only [e0, e1, e3, e4, if_pos, go_sem]
 refine Runs.while (α := List ByteArray × ByteArray) (gsSt N) (fun p => N - p.1.length) (fun p => p.1.length < N ∧ partsB s = p.1 ++ partsB p.2 ∧ p.2.size ≤ s.size) ([], s) ⟨by simp; omega, by simp, Nat.le_refl _⟩ ?_ ?_
 ·simp [go_sem, gsAnn, gsSt, gsRow_zero]
 ·rintro ⟨D, r⟩ ⟨hd, hp, hr⟩ ih
  simp only at hd hp hr
  have hlen := gsRow_len (Nat.le_of_lt hd)
  have hcnt : N = D.length + (partsB r).length := by rw [hN, hp, List.length_append]
  have hrz := list_size r
  have hset := gsRow_set hd
  have hlen2 : ∀ x, (gsRow N (D ++ [x])).length = N := fun x => gsRow_len (by simp; omega)
  have hget := gsRow_get hd
  simp +decide (disch := first | omega | (simp only [ll]; omega)) only [gsSt, hlen, if_pos, go_sem]
  refine Runs.split (fun h => ?_) (fun h => ?_)
  ·have h2 : 2 ≤ (partsB r).length := by simp at h; omega
   simp +decide only [go_sem]
   refine Runs.call (sindex1 hm r) ?_
   rcases indexByte_lt r.data.toList 46 with hi | ⟨m, hi, hml⟩
   ·rw [partsB, List.length_map, partsL_no 46 _ (idx_none hi)] at h2
    simp at h2
   ·obtain ⟨p, q, e5, e6, e7⟩ := idx_some hi
    rw [hi]
    have e8 : partsB r = mkS p :: partsB (mkS q) := by rw [partsB, e5, partsL_cut 46 p q e7, partsB, mkS_data]; rfl
    have x1 : r.extract 0 m = mkS p := by rw [mkS_ext, e5, ← e6]; simp
    have x2 : r.extract (m + 1) r.size = mkS q := by
     rw [mkS_ext, e5]
     rw [show p ++ 46 :: q = (p ++ [46]) ++ q by simp, List.drop_left' (by simp; omega), List.take_of_length_le]
     rw [e5] at hrz; simp at hrz; omega
    have x3 : (mkS q).size ≤ r.size := by rw [mkS_size]; rw [e5] at hrz; simp at hrz; omega
    have d0 : decide ((m : Int) < 0) = false := by simp
    have x4 : ((m : Int) + 1).toNat = m + 1 := by omega
    have y1 : ((#[(46 : UInt8)].size : Nat) : Int) = 1 := rfl
    simp +decide (disch := first | omega | (simp only [ll]; omega)) only [d0, y1, Int.add_zero, x1, x2, x4, hlen, hset, hget, hlen2, if_pos, go_sem]
    refine ih (D ++ [mkS p], mkS q) _ (by simp only [List.length_append, List.length_cons, List.length_nil]; omega) ⟨by simp; simp at h; omega, ?_, by simp only; omega⟩ ?_
    ·simp only; rw [hp, e8]; simp
    ·simp [go_sem, gsAnn, gsSt, x1]
  ·have h1 : (partsB r).length = 1 := by
    have : 1 ≤ (partsB r).length := by rw [partsB_len]; omega
    simp at h; omega
   have e5 : partsB r = [r] := by
    have hc : r.data.toList.count 46 = 0 := by rw [partsB_len] at h1; omega
    rw [partsB, partsL_no 46 _ (count_none hc)]; simp [mkS_list]
   have hN1 : N = D.length + 1 := by omega
   have e6 : gsRow N (D ++ [r]) = (partsB s).map strA := by rw [gsRow, hp, e5]; simp [hN1]
   have b1 : decide (0 ≤ (D.length : Int) + 1 ∧ (D.length : Int) + 1 ≤ N ∧ (D.length : Int) + 1 ≤ (D.length : Int) + 1 ∧ (D.length : Int) + 1 ≤ N) = true := by simp; omega
   have t1 : ((D.length : Int) + 1).toNat = N := by omega
   have t0 : Int.toNat 0 = 0 := rfl
   simp +decide (disch := first | omega | (simp only [ll]; omega)) only [hlen, hset, hget, hlen2, b1, t1, t0, Nat.sub_zero, if_pos, go_sem]
   refine Runs.ret_eq ?_
   rw [List.take_of_length_le (by rw [hlen2]; exact Nat.le_refl _), e6]
end Go.Proofs.W

namespace Go.Proofs.W
open Go Go.AM
set_option maxRecDepth 10000
variable (hm : Tryz.prog.follows .mixedOrders = true)
include hm in
theorem split1 (s : ByteArray) (h : s.size ≤ 1048576) : Holds Tryz.prog 124 [.v (.string s), .v (.string ⟨#[46]⟩)] [] (.sl (.ow 1) ((partsB s).map strA)) [] := by
 refine holds_of (ann := []) tabOk hm Tryz.func124 (by kernel_rfl) rfl ?_
 simp +decide only [Tryz.f124, go_sem]
 refine Runs.call (genSplit1 hm s h) ?_
 simp +decide (disch := first | omega | (simp only [ll]; omega)) only [if_pos, go_sem]
 exact Runs.ret_refl
include hm in
theorem isDigit (b : UInt8) : Holds Tryz.prog 142 [.v (.int .u8 b.toNat)] [] (.v (.bool (digC b))) [] := by
 refine holds_of (ann := []) tabOk hm Tryz.func142 (by kernel_rfl) rfl ?_
 simp +decide only [Tryz.f142, go_sem]
 refine Runs.split (fun h => ?_) (fun h => ?_)
 ·simp +decide only [go_sem]
  exact Runs.ret_eq (by simp at h; simp [digC, inB]; omega)
 ·simp +decide only [go_sem]
  exact Runs.ret_eq (by simp at h; simp [digC, inB]; omega)
def ilAnn : Ann := [(0, [0, 6, 7])]
def ilSt (s : ByteArray) (i : Nat) : St := ⟨[.v (.string s), .any, .any, .any, .any, .any, .v (.int .i64 s.size), .v (.int .i64 i), .any, .any, .any, .any, .any, .any, .any, .any, .any, .any, .any, .any, .any, .any, .any, .any, .any, .any, .any, .any, .any, .any, .any, .any, .any, .any, .any, .any, .any, .any, .any, .any, .any, .any, .any, .any, .any], [], []⟩
include hm in
theorem isLabel (s : ByteArray) (h : s.size ≤ 1048576) : Holds Tryz.prog 126 [.v (.string s)] [] (.v (.bool (labelB s))) [] := by
 refine holds_of (ann := ilAnn) tabOk hm Tryz.func126 (by kernel_rfl) rfl ?_
 simp +decide only [Tryz.f126, go_sem]
 have hz := list_size s
 refine Runs.while (α := Nat) (ilSt s) (fun i => s.size - i) (fun i => i ≤ s.size ∧ (s.data.toList.drop i).all okC = s.data.toList.all okC) 0 ⟨by omega, by simp⟩ ?_ ?_
 ·simp [go_sem, ilAnn, ilSt]
 ·rintro i ⟨hi, hr⟩ ih
  simp +decide only [ilSt, go_sem]
  refine Runs.split (fun h => ?_) (fun h => ?_)
  ·have hlt : i < s.data.toList.length := by simp at h; omega
   have hg : s.data.toList.getD i 0 = s.data.toList[i] := getD_lt hlt
   have hb := UInt8.toNat_lt s.data.toList[i]
   rw [List.drop_eq_getElem_cons hlt, List.all_cons] at hr
   have next : okC s.data.toList[i] = true → (s.data.toList.drop (i + 1)).all okC = s.data.toList.all okC := fun h => by rw [← hr, h, Bool.true_and]
   have stop : okC s.data.toList[i] = false → labelB s = false := fun h => by rw [labelB, ← hr, h]; simp
   simp +decide (disch := first | omega | (simp only [ll]; omega)) only [hg, if_pos, go_sem]
   refine Runs.call (isDigit hm _) ?_
   cases h1 : digC s.data.toList[i]
   ·simp +decide only [go_sem]
    cases h2 : decide ((s.data.toList[i].toNat : Int) < 97)
    ·simp +decide only [go_sem]
     cases h3 : decide ((s.data.toList[i].toNat : Int) > 122)
     ·simp +decide (disch := first | omega | (simp only [ll]; omega)) only [if_pos, go_sem]
      have ho : okC s.data.toList[i] = true := by simp at h2 h3; simp [okC, inB]; omega
      refine ih (i + 1) _ (by omega) ⟨by omega, next ho⟩ ?_
      simp [go_sem, ilAnn, ilSt]
     ·simp +decide only [go_sem]
      cases h4 : decide ((s.data.toList[i].toNat : Int) = 45)
      ·simp +decide (disch := first | omega | (simp only [ll]; omega)) only [if_pos, go_sem]
       have ho : okC s.data.toList[i] = false := by simp only [okC, h1, dashC, h4, inB, Bool.or_false]; simp at h2 h3; simp; omega
       exact Runs.ret_eq (by rw [stop ho])
      ·simp +decide (disch := first | omega | (simp only [ll]; omega)) only [if_pos, go_sem]
       have ho : okC s.data.toList[i] = true := by simp only [okC, h1, dashC, h4, Bool.or_true]
       refine ih (i + 1) _ (by omega) ⟨by omega, next ho⟩ ?_
       simp [go_sem, ilAnn, ilSt]
    ·simp +decide only [go_sem]
     cases h4 : decide ((s.data.toList[i].toNat : Int) = 45)
     ·simp +decide (disch := first | omega | (simp only [ll]; omega)) only [if_pos, go_sem]
      have ho : okC s.data.toList[i] = false := by simp only [okC, h1, dashC, h4, inB, Bool.or_false]; simp at h2; simp; omega
      exact Runs.ret_eq (by rw [stop ho])
     ·simp +decide (disch := first | omega | (simp only [ll]; omega)) only [if_pos, go_sem]
      have ho : okC s.data.toList[i] = true := by simp only [okC, h1, dashC, h4, Bool.or_true]
      refine ih (i + 1) _ (by omega) ⟨by omega, next ho⟩ ?_
      simp [go_sem, ilAnn, ilSt]
   ·simp +decide (disch := first | omega | (simp only [ll]; omega)) only [if_pos, go_sem]
    refine ih (i + 1) _ (by omega) ⟨by omega, next (by simp only [okC, h1]; simp)⟩ ?_
    simp [go_sem, ilAnn, ilSt]
  ·have hge : i = s.size := by simp at h; omega
   rw [List.drop_of_length_le (by omega), List.all_nil] at hr
   simp +decide only [go_sem]
   refine Runs.call (within hm _ 1 20) ?_
   cases h1 : inB s.size 1 20
   ·simp +decide only [go_sem]
    exact Runs.ret_eq (by rw [labelB, h1]; simp)
   ·have hp : 1 ≤ s.size := by simp [inB] at h1; omega
    have ht : ((s.size : Int) - 1).toNat = s.size - 1 := by omega
    have hb0 : decide ((0 : Int) ≤ 0 ∧ (0 : Int) < s.size) = true := by simp; omega
    have hb1 : decide (0 ≤ (s.size : Int) - 1 ∧ (s.size : Int) - 1 < s.size) = true := by simp; omega
    have t0 : Int.toNat 0 = 0 := rfl
    simp +decide (disch := first | omega | (simp only [ll]; omega)) only [hb0, t0, if_pos, go_sem]
    cases h2 : dashC (s.data.toList.getD 0 0) <;> (unfold dashC at h2; simp +decide (disch := first | omega | (simp only [ll]; omega)) only [h2, ht, hb1, if_pos, go_sem]; exact Runs.ret_eq (by simp only [labelB, dashC, ← hr, h1, h2, Bool.true_and, Bool.not_false, Bool.not_true, Bool.false_and]))
include hm in
theorem notLabel (s : ByteArray) (h : s.size ≤ 1048576) : Holds Tryz.prog 125 [.v (.string s)] [] (.v (.bool (!labelB s))) [] := by
 refine holds_of (ann := []) tabOk hm Tryz.func125 (by kernel_rfl) rfl ?_
 simp +decide only [Tryz.f125, go_sem]
 refine Runs.call (isLabel hm s h) ?_
 simp +decide only [go_sem]
 exact Runs.ret_v
def ifAnn : Ann := [(0, [0, 1, 7, 8])]
def ifSt (f : A) (L : List ByteArray) (i : Nat) : St := ⟨[.sl .sh (L.map strA), f, .any, .any, .any, .any, .any, .v (.int .i64 L.length), .v (.int .i64 i), .any, .any, .any, .any, .any, .any, .any, .any, .any, .any], [], []⟩
include hm in
theorem indexFunc0 (g : Nat) (L : List ByteArray) (q : ByteArray → Bool) (h : L.length ≤ 1048576) (hq : ∀ s ∈ L, Holds Tryz.prog g [.v (.string s)] [] (.v (.bool (q s))) []) :
  ∃ n : Int, decide (n ≥ 0) = L.any q ∧ Holds Tryz.prog 138 [.sl .sh (L.map strA), .v (.func (.func g) #[] #[])] [] (.v (.int .i64 n)) [] := by
 refine ⟨if L.any q = true then (L.findIdx q : Int) else -1, by cases h : L.any q <;> simp, ?_⟩
 refine holds_of (ann := ifAnn) tabOk hm Tryz.func138 (by kernel_rfl) rfl ?_
 simp +decide only [Tryz.f138, go_sem]
 have ha : (L.map strA).length = L.length := List.length_map _
 refine Runs.while (α := Nat) (ifSt (.v (.func (.func g) #[] #[])) L) (fun i => L.length - i) (fun i => i ≤ L.length ∧ ∀ j (hj : j < L.length), j < i → q L[j] = false) 0 ⟨by omega, fun _ _ h => absurd h (by omega)⟩ ?_ ?_
 ·simp [go_sem, ifAnn, ifSt]
 ·rintro i ⟨hi, hn⟩ ih
  simp +decide only [ifSt, ha, go_sem]
  refine Runs.split (fun h => ?_) (fun h => ?_)
  ·have hlt : i < L.length := by simpa using h
   have hg : (L.map strA).getD i .any = .v (.string L[i]) := by simp [List.getD, hlt, strA]
   simp +decide (disch := first | omega | (simp only [ll]; omega)) only [ha, hg, if_pos, go_sem]
   refine Runs.call (hq L[i] (List.getElem_mem hlt)) ?_
   cases h2 : q L[i]
   ·simp +decide (disch := first | omega | (simp only [ll]; omega)) only [if_pos, go_sem]
    refine ih (i + 1) _ (by omega) ⟨by omega, fun j hj hji => ?_⟩ ?_
    ·rcases Nat.lt_or_ge j i with h3 | h3
     ·exact hn j hj h3
     ·have : j = i := by omega
      subst this; exact h2
    ·simp [go_sem, ifAnn, ifSt]
   ·simp +decide (disch := first | omega | (simp only [ll]; omega)) only [if_pos, go_sem]
    have e1 : L.any q = true := List.any_eq_true.mpr ⟨L[i], List.getElem_mem hlt, h2⟩
    have e2 : L.findIdx q = i := (List.findIdx_eq hlt).mpr ⟨h2, fun j hj => hn j (by omega) hj⟩
    exact Runs.ret_eq (by rw [e1, e2]; rfl)
  ·have hge : i = L.length := by simp at h; omega
   have e1 : L.any q = false := by
    rw [List.any_eq_false]
    intro x hx
    obtain ⟨j, hj, rfl⟩ := List.getElem_of_mem hx
    rw [hn j hj (by omega)]; simp
   simp +decide only [go_sem]
   exact Runs.ret_eq (by rw [e1]; rfl)
include hm in
theorem contFunc0 (g : Nat) (L : List ByteArray) (q : ByteArray → Bool) (h : L.length ≤ 1048576) (hq : ∀ s ∈ L, Holds Tryz.prog g [.v (.string s)] [] (.v (.bool (q s))) []) :
  Holds Tryz.prog 120 [.sl .sh (L.map strA), .v (.func (.func g) #[] #[])] [] (.v (.bool (L.any q))) [] := by
 refine holds_of (ann := []) tabOk hm Tryz.func120 (by kernel_rfl) rfl ?_
 simp +decide only [Tryz.f120, go_sem]
 obtain ⟨n, hn, hc⟩ := indexFunc0 hm g L q h hq
 refine Runs.call hc ?_
 simp +decide only [hn, go_sem]
 exact Runs.ret_v
include hm in
theorem indexFunc2 (g : Nat) (hst : Nat) (L : List ByteArray) (q : ByteArray → Bool) (h : L.length ≤ 1048576) (hq : ∀ s ∈ L, Holds Tryz.prog g [.v (.string s), .ptr [.v (.func (.func hst) #[] #[])] 0 0] [] (.v (.bool (q s))) []) :
  ∃ n : Int, decide (n ≥ 0) = L.any q ∧ Holds Tryz.prog 138 [.sl .sh (L.map strA), .fn (.func g) [] [.ptr [.v (.func (.func hst) #[] #[])] 0 0]] [] (.v (.int .i64 n)) [] := by
 refine ⟨if L.any q = true then (L.findIdx q : Int) else -1, by cases h : L.any q <;> simp, ?_⟩
 refine holds_of (ann := ifAnn) tabOk hm Tryz.func138 (by kernel_rfl) rfl ?_
 simp +decide only [Tryz.f138, go_sem]
 have ha : (L.map strA).length = L.length := List.length_map _
 refine Runs.while (α := Nat) (ifSt (.fn (.func g) [] [.ptr [.v (.func (.func hst) #[] #[])] 0 0]) L) (fun i => L.length - i) (fun i => i ≤ L.length ∧ ∀ j (hj : j < L.length), j < i → q L[j] = false) 0 ⟨by omega, fun _ _ h => absurd h (by omega)⟩ ?_ ?_
 ·simp [go_sem, ifAnn, ifSt]
 ·rintro i ⟨hi, hn⟩ ih
  simp +decide only [ifSt, ha, go_sem]
  refine Runs.split (fun h => ?_) (fun h => ?_)
  ·have hlt : i < L.length := by simpa using h
   have hg : (L.map strA).getD i .any = .v (.string L[i]) := by simp [List.getD, hlt, strA]
   simp +decide (disch := first | omega | (simp only [ll]; omega)) only [ha, hg, if_pos, go_sem]
   refine Runs.call (hq L[i] (List.getElem_mem hlt)) ?_
   cases h2 : q L[i]
   ·simp +decide (disch := first | omega | (simp only [ll]; omega)) only [if_pos, go_sem]
    refine ih (i + 1) _ (by omega) ⟨by omega, fun j hj hji => ?_⟩ ?_
    ·rcases Nat.lt_or_ge j i with h3 | h3
     ·exact hn j hj h3
     ·have : j = i := by omega
      subst this; exact h2
    ·simp [go_sem, ifAnn, ifSt]
   ·simp +decide (disch := first | omega | (simp only [ll]; omega)) only [if_pos, go_sem]
    have e1 : L.any q = true := List.any_eq_true.mpr ⟨L[i], List.getElem_mem hlt, h2⟩
    have e2 : L.findIdx q = i := (List.findIdx_eq hlt).mpr ⟨h2, fun j hj => hn j (by omega) hj⟩
    exact Runs.ret_eq (by rw [e1, e2]; rfl)
  ·have hge : i = L.length := by simp at h; omega
   have e1 : L.any q = false := by
    rw [List.any_eq_false]
    intro x hx
    obtain ⟨j, hj, rfl⟩ := List.getElem_of_mem hx
    rw [hn j hj (by omega)]; simp
   simp +decide only [go_sem]
   exact Runs.ret_eq (by rw [e1]; rfl)
include hm in
theorem contFunc2 (g : Nat) (hst : Nat) (L : List ByteArray) (q : ByteArray → Bool) (h : L.length ≤ 1048576) (hq : ∀ s ∈ L, Holds Tryz.prog g [.v (.string s), .ptr [.v (.func (.func hst) #[] #[])] 0 0] [] (.v (.bool (q s))) []) :
  Holds Tryz.prog 120 [.sl .sh (L.map strA), .fn (.func g) [] [.ptr [.v (.func (.func hst) #[] #[])] 0 0]] [] (.v (.bool (L.any q))) [] := by
 refine holds_of (ann := []) tabOk hm Tryz.func120 (by kernel_rfl) rfl ?_
 simp +decide only [Tryz.f120, go_sem]
 obtain ⟨n, hn, hc⟩ := indexFunc2 hm g hst L q h hq
 refine Runs.call hc ?_
 simp +decide only [hn, go_sem]
 exact Runs.ret_v
end Go.Proofs.W

namespace Go.Proofs.W
open Go Go.AM
variable (hm : Tryz.prog.follows .mixedOrders = true)
def digS : ByteArray := ⟨#[48, 49, 50, 51, 52, 53, 54, 55, 56, 57]⟩
def digSet (i : Nat) : List A := (List.range 256).map fun j => .v (.bool (decide (48 ≤ j ∧ j < 48 + i)))
theorem digSet_len (i : Nat) : (digSet i).length = 256 := by simp [digSet]
theorem digSet_get {i j : Nat} (h : j < 256) : (digSet i).getD j .any = .v (.bool (decide (48 ≤ j ∧ j < 48 + i))) := by
 rw [digSet, List.getD, List.getElem?_map, List.getElem?_range h]; rfl
theorem digSet_set {i : Nat} (h : i < 10) : (digSet i).set (48 + i) (.v (.bool true)) = digSet (i + 1) := by
 apply List.ext_getElem
 ·rw [List.length_set, digSet_len, digSet_len]
 ·intro j h1 h2
  rw [List.getElem_set]
  simp only [digSet, List.getElem_map, List.getElem_range]
  split
  ·rename_i e
   rw [decide_eq_true (by omega)]
  ·rename_i e
   have : decide (48 ≤ j ∧ j < 48 + i) = decide (48 ≤ j ∧ j < 48 + (i + 1)) := by
    rw [decide_eq_decide]; constructor <;> (intro h; omega)
   rw [this]
theorem digSet_zero : (repV 256 (.bool false)).map A.v = digSet 0 := by
 rw [digSet, repV]
 apply List.ext_getElem
 ·rw [List.length_map, List.length_replicate, List.length_map, List.length_range]
 ·intro j h1 h2
  rw [List.getElem_map, List.getElem_replicate, List.getElem_map, List.getElem_range, decide_eq_false (by omega)]
theorem digSet_keep (st : St) (ks : List Nat) (i : Nat) : (digSet i).map (keepC st ks) = digSet i := by
 rw [digSet, List.map_map]; rfl
theorem digSet_ids (i : Nat) : (digSet i).flatMap cellIds = [] := by
 rw [List.flatMap_eq_nil_iff]
 intro x hx
 rw [digSet, List.mem_map] at hx
 obtain ⟨j, _, rfl⟩ := hx; rfl
theorem roL_vs (g : Go.AM.Id → Option Go.AM.Id) (vs : List Value) : roL g (vs.map .v) = vs.map .v := by
 induction vs with
 | nil => simp [roL]
 | cons v l ih => rw [List.map_cons, roL, A.ro, ih]
theorem outL_bs (st : St) (vs : List Bool) : outL st (vs.map fun b => .v (.bool b)) = some (vs.map fun b => .v (.bool b), st) := by
 induction vs with
 | nil => simp [outL]
 | cons v l ih => simp [outL, ih, outC, insC, Value.oneCell']
theorem inL_bs (st : St) (n : Nat) (vs : List Bool) : inL st n (vs.map fun b => .v (.bool b)) = some (vs.map fun b => .v (.bool b), st) := by
 induction vs generalizing n with
 | nil => simp [inL]
 | cons v l ih => simp [inL, ih, inC]
theorem digSet_in (st : St) (n i : Nat) : inL st n (digSet i) = some (digSet i, st) := by
 have e : digSet i = ((List.range 256).map fun j => decide (48 ≤ j ∧ j < 48 + i)).map fun b => .v (.bool b) := by rw [digSet, List.map_map]; rfl
 rw [e, inL_bs]
theorem digSet_vs (i : Nat) : digSet i = ((List.range 256).map fun j => Value.bool (decide (48 ≤ j ∧ j < 48 + i))).map .v := by
 rw [digSet, List.map_map]; rfl
theorem rnL_vs (g : Go.AM.Id → Go.AM.Id) (vs : List Value) : rnL g (vs.map .v) = vs.map .v := by
 rw [rnL_eq, List.map_map]; rfl
theorem rdL_vs (g : Go.AM.Id → Option Go.AM.Id) (vs : List Value) : rdL g (vs.map .v) = vs.map .v := by
 rw [rdL_eq, List.map_map]; rfl
theorem digSet_rn (g : Go.AM.Id → Go.AM.Id) (i : Nat) : rnL g (digSet i) = digSet i := by rw [digSet_vs, rnL_vs]
theorem digSet_rd (g : Go.AM.Id → Option Go.AM.Id) (i : Nat) : rdL g (digSet i) = digSet i := by rw [digSet_vs, rdL_vs]
theorem digSet_ro (g : Go.AM.Id → Option Go.AM.Id) (i : Nat) : roL g (digSet i) = digSet i := by rw [digSet_vs, roL_vs]
theorem digSet_out (st : St) (i : Nat) : outL st (digSet i) = some (digSet i, st) := by
 have e : digSet i = ((List.range 256).map fun j => decide (48 ≤ j ∧ j < 48 + i)).map fun b => .v (.bool b) := by rw [digSet, List.map_map]; rfl
 rw [e, outL_bs]
theorem setCells_end : ∀ (vs cs : List A) (off : Nat), off + vs.length = cs.length → setCells cs off vs = cs.take off ++ vs
 | [], cs, off, h => by simp [setCells]; rw [List.take_of_length_le (by simp at h; omega)]
 | v :: vs, cs, off, h => by
  simp at h
  rw [setCells, setCells_end vs _ _ (by simp; omega), List.take_add_one, List.getElem?_set_self (by omega)]
  rw [List.take_set_of_le (Nat.le_refl _)]; simp
theorem digSet_setCells (i j : Nat) : setCells (digSet i) 0 (digSet j) = digSet j := by
 rw [setCells_end _ _ _ (by rw [digSet_len, digSet_len])]; rfl
theorem digSet_take (i : Nat) : (digSet i).take 256 = digSet i := List.take_of_length_le (by rw [digSet_len]; exact Nat.le_refl _)
attribute [local go_sem] digSet_keep digSet_ids digSet_ro digSet_out digSet_setCells digSet_take digSet_len digSet_zero
theorem digS_get {i : Nat} (h : i < 10) : (digS.data.toList.getD i 0).toNat = 48 + i := by
 have : i = 0 ∨ i = 1 ∨ i = 2 ∨ i = 3 ∨ i = 4 ∨ i = 5 ∨ i = 6 ∨ i = 7 ∨ i = 8 ∨ i = 9 := by omega
 rcases this with h | h | h | h | h | h | h | h | h | h <;> subst h <;> rfl
def maAnn : Ann := [(0, [0, 2, 3, 4])]
def maSt (i : Nat) : St := ⟨[.v (.string digS), .any, .ref (.l 0) 0 0 1, .v (.bool false), .v (.int .i64 i), .any, .any, .any, .any, .any, .any, .any, .any, .any, .any, .any, .any, .any, .any, .any, .any], [(0, ⟨true, 256, true, [.agg (digSet i)]⟩)], []⟩
set_option maxRecDepth 10000 in
include hm in
theorem makeSet : Holds Tryz.prog 145 [.v (.string digS)] [] (.tup [.agg (digSet 10), .v (.bool true)]) [] := by
 refine holds_of (ann := maAnn) tabOk hm Tryz.func145 (by kernel_rfl) rfl ?_
 simp +decide only [Tryz.f145, go_sem]
 have hsz : digS.size = 10 := rfl
 have hl := digSet_len
 refine Runs.while (α := Nat) maSt (fun i => 10 - i) (fun i => i ≤ 10) 0 (by omega) ?_ ?_
 ·simp [go_sem, maAnn, maSt]
 ·intro i hi ih
  have hs10 : ((digS.size : Nat) : Int) = 10 := rfl
  simp +decide only [maSt, hs10, go_sem]
  refine Runs.split (fun h => ?_) (fun h => ?_)
  ·have hlt : i < 10 := by simp at h; omega
   have hg := digS_get hlt
   have t1 : (((48 + i : Nat) : Int)).toNat = 48 + i := by omega
   simp +decide (disch := first | omega | (simp only [ll]; omega)) only [hg, hs10, hsz, t1, if_pos, go_sem]
   have d1 : decide (((48 + i : Nat) : Int) ≥ 128) = false := by simp; omega
   have hb : decide ((0 : Int) ≤ ((48 + i : Nat) : Int) ∧ ((48 + i : Nat) : Int) < 256) = true := by simp; omega
   have hset := digSet_set hlt
   simp +decide (disch := first | omega | (simp only [ll]; omega)) only [d1, hb, t1, Nat.mul_one, hset, if_pos, go_sem]
   refine ih (i + 1) _ (by omega) (by omega) ?_
   simp [go_sem, maAnn, maSt]
  ·have hge : i = 10 := by simp at h; omega
   subst hge
   simp +decide (disch := first | omega | (simp only [ll]; omega)) only [if_pos, go_sem]
   exact Runs.ret_refl
end Go.Proofs.W

namespace Go.Proofs.W
open Go Go.AM
set_option maxRecDepth 10000
variable (hm : Tryz.prog.follows .mixedOrders = true)
attribute [local go_sem] digSet_keep digSet_ids digSet_ro digSet_out digSet_setCells digSet_take digSet_len digSet_zero digSet_rn digSet_rd digSet_in
def setBlk : Blk := ⟨true, 256, true, [.agg (digSet 10)]⟩
attribute [local go_sem] setBlk
def trR (l : List UInt8) : List UInt8 := (l.reverse.dropWhile digC).reverse
def trimD (s : ByteArray) : ByteArray := mkS ((trR s.data.toList).dropWhile digC)
theorem trR_snoc (l : List UInt8) (b : UInt8) : trR (l ++ [b]) = if digC b = true then trR l else l ++ [b] := by
 simp only [trR, List.reverse_append, List.reverse_cons, List.reverse_nil, List.nil_append, List.cons_append, List.dropWhile_cons]
 split <;> simp
theorem drop_nil (l : List UInt8) : l.dropWhile digC = [] ↔ l.all digC = true := by
 induction l with
 | nil => simp
 | cons b l ih => cases h : digC b <;> simp [h, ih]
theorem trimD_nil (s : ByteArray) : ((trimD s).toList == (⟨#[]⟩ : ByteArray).toList) = s.data.toList.all digC := by
 have e1 : ((trimD s).toList == (⟨#[]⟩ : ByteArray).toList) = decide ((trR s.data.toList).dropWhile digC = []) := by
  rw [Lib.toList_data, Lib.toList_data, trimD, mkS_data, Bool.eq_iff_iff, beq_iff_eq, decide_eq_true_iff]
 rw [e1, Bool.eq_iff_iff, decide_eq_true_iff, drop_nil]
 rw [trR, List.all_reverse]
 have h := drop_nil s.data.toList.reverse
 rw [List.all_reverse] at h
 rw [← h]
 have h2 : ∀ m : List UInt8, (m.dropWhile digC).all digC = true ↔ m.dropWhile digC = [] := by
  intro m
  induction m with
  | nil => simp
  | cons b l ih => cases h : digC b <;> simp [List.dropWhile_cons, h, ih]
 exact h2 _
include hm in
theorem setHas (b : UInt8) : Holds Tryz.prog 163 [.ref (.x 0) 0 0 1, .v (.int .u8 b.toNat)] [setBlk] (.v (.bool (digC b))) [setBlk] := by
 refine holds_ref (ann := []) tabOk hm (byL [163] []) Tryz.func163 (by kernel_rfl) rfl ?_
 have hb := UInt8.toNat_lt b
 have hg : (digSet 10).getD b.toNat .any = .v (.bool (digC b)) := by
  rw [digSet_get (by omega)]; congr 2; simp only [digC, inB]; rw [Bool.eq_iff_iff]; simp; omega
 have hb1 : decide ((0 : Int) ≤ (b.toNat : Int) ∧ (b.toNat : Int) < 256) = true := by simp; omega
 simp +decide (disch := first | omega | (simp only [ll]; omega)) only [Tryz.f163, setBlk, hg, hb1, Nat.mul_one, Nat.zero_add, if_pos, go_sem]
 exact Runs.ret_v
def tlAnn : Ann := [(0, [0, 1])]
def tlSt (l : List UInt8) : St := ⟨[.v (.string (mkS l)), .ref (.x 0) 0 0 1, .any, .any, .any, .any, .any, .any, .any, .any, .any, .any, .any, .any, .any, .any], [], [setBlk]⟩
include hm in
theorem trimLeft (l : List UInt8) (h : l.length ≤ 1048576) : Holds Tryz.prog 146 [.v (.string (mkS l)), .ref (.x 0) 0 0 1] [setBlk] (.v (.string (mkS (l.dropWhile digC)))) [setBlk] := by
 refine holds_ref (ann := tlAnn) tabOk hm (byL [163] []) Tryz.func146 (by kernel_rfl) rfl ?_
 simp +decide only [Tryz.f146, setBlk, go_sem]
 refine Runs.while (α := List UInt8) tlSt (fun r => r.length) (fun r => r.length ≤ l.length ∧ r.dropWhile digC = l.dropWhile digC) l ⟨Nat.le_refl _, rfl⟩ ?_ ?_
 ·simp [go_sem, tlAnn, tlSt, setBlk]
 ·rintro r ⟨hr1, hr2⟩ ih
  have hz := mkS_size r
  simp +decide only [tlSt, setBlk, go_sem]
  refine Runs.split (fun h => ?_) (fun h => ?_)
  ·cases r with
   | nil => rw [hz] at h; simp at h
   | cons b r =>
    have hg : (mkS (b :: r)).data.toList.getD (Int.toNat 0) 0 = b := by rw [mkS_data]; rfl
    have hb0 : decide ((0 : Int) < ((mkS (b :: r)).size : Int)) = true := by rw [hz]; simp
    simp +decide (disch := first | omega | (simp only [ll]; omega)) only [hg, hb0, if_pos, go_sem]
    have e1 : (mkS (b :: r)).extract 1 (mkS (b :: r)).size = mkS r := by rw [mkS_ext, mkS_data, hz]; simp
    refine Runs.call (setHas hm b) ?_
    cases hb : digC b
    ·simp +decide only [go_sem]
     refine Runs.ret_eq ?_
     rw [← hr2, List.dropWhile_cons, hb]; rfl
    ·have hb2 : decide ((1 : Int) ≤ ((mkS (b :: r)).size : Int) ∧ ((mkS (b :: r)).size : Int) ≤ ((mkS (b :: r)).size : Int)) = true := by rw [hz]; simp; omega
     have t1 : Int.toNat 1 = 1 := rfl
     have hb3 : decide ((0 : Int) ≤ 1 ∧ (1 : Int) ≤ ((mkS (b :: r)).size : Int) ∧ ((mkS (b :: r)).size : Int) ≤ ((mkS (b :: r)).size : Int)) = true := by rw [hz]; simp; omega
     simp +decide (disch := first | omega | (simp only [ll]; omega)) only [e1, hb2, t1, hb3, if_pos, go_sem]
     refine ih r _ (by simp) ⟨by simp at hr1; omega, by rw [← hr2, List.dropWhile_cons, hb]; rfl⟩ ?_
     simp [go_sem, tlAnn, tlSt, setBlk, e1]
  ·have : r = [] := by rw [hz] at h; simp at h; exact h
   subst this
   simp +decide only [go_sem]
   exact Runs.ret_eq (by rw [← hr2]; rfl)
def trAnn : Ann := [(0, [0, 1])]
def trSt (l : List UInt8) : St := ⟨[.v (.string (mkS l)), .ref (.x 0) 0 0 1, .any, .any, .any, .any, .any, .any, .any, .any, .any, .any, .any, .any, .any, .any, .any, .any, .any, .any, .any, .any], [], [setBlk]⟩
include hm in
theorem trimRight (l : List UInt8) (h : l.length ≤ 1048576) : Holds Tryz.prog 147 [.v (.string (mkS l)), .ref (.x 0) 0 0 1] [setBlk] (.v (.string (mkS (trR l)))) [setBlk] := by
 refine holds_ref (ann := trAnn) tabOk hm (byL [163] []) Tryz.func147 (by kernel_rfl) rfl ?_
 simp +decide only [Tryz.f147, setBlk, go_sem]
 refine Runs.while (α := List UInt8) trSt (fun r => r.length) (fun r => r.length ≤ l.length ∧ trR r = trR l) l ⟨Nat.le_refl _, rfl⟩ ?_ ?_
 ·simp [go_sem, trAnn, trSt, setBlk]
 ·rintro r ⟨hr1, hr2⟩ ih
  have hz := mkS_size r
  simp +decide only [trSt, setBlk, go_sem]
  refine Runs.split (fun h => ?_) (fun h => ?_)
  ·obtain ⟨q, b, rfl⟩ : ∃ q b, r = q ++ [b] := by
    have hne : r ≠ [] := by intro e; rw [hz, e] at h; simp at h
    exact ⟨r.dropLast, r.getLast hne, (List.dropLast_concat_getLast hne).symm⟩
   have hzn : (mkS (q ++ [b])).size = q.length + 1 := by rw [hz]; simp
   have t2 : (((mkS (q ++ [b])).size : Int) - 1).toNat = q.length := by rw [hzn]; omega
   have hg : (mkS (q ++ [b])).data.toList.getD q.length 0 = b := by rw [mkS_data]; simp [List.getD]
   have hb0 : decide ((0 : Int) ≤ ((mkS (q ++ [b])).size : Int) - 1 ∧ ((mkS (q ++ [b])).size : Int) - 1 < ((mkS (q ++ [b])).size : Int)) = true := by rw [hzn]; simp; omega
   have w1 : IntKind.i64.wrap (((mkS (q ++ [b])).size : Int) - 1) = ((mkS (q ++ [b])).size : Int) - 1 := wrap_i64 (by omega) (by rw [hz]; omega)
   simp +decide (disch := first | omega | (simp only [ll]; omega)) only [w1, t2, hg, hb0, if_pos, go_sem]
   refine Runs.call (setHas hm b) ?_
   have e1 : (mkS (q ++ [b])).extract 0 q.length = mkS q := by rw [mkS_ext, mkS_data]; simp
   cases hb : digC b
   ·simp +decide only [go_sem]
    refine Runs.ret_eq ?_
    rw [← hr2, trR_snoc, hb]; rfl
   ·have hb3 : decide ((0 : Int) ≤ 0 ∧ (0 : Int) ≤ ((mkS (q ++ [b])).size : Int) - 1 ∧ ((mkS (q ++ [b])).size : Int) - 1 ≤ ((mkS (q ++ [b])).size : Int)) = true := by rw [hzn]; simp; omega
    have hb4 : decide ((0 : Int) ≤ ((mkS (q ++ [b])).size : Int) - 1 ∧ ((mkS (q ++ [b])).size : Int) - 1 ≤ ((mkS (q ++ [b])).size : Int)) = true := by rw [hzn]; simp; omega
    have t0 : Int.toNat 0 = 0 := rfl
    simp +decide (disch := first | omega | (simp only [ll]; omega)) only [w1, t0, t2, e1, hb3, hb4, if_pos, go_sem]
    refine ih q _ (by simp) ⟨by simp at hr1; omega, by rw [← hr2, trR_snoc, hb]; rfl⟩ ?_
    simp [go_sem, trAnn, trSt, setBlk, e1]
  ·have : r = [] := by rw [hz] at h; simp at h; exact h
   subst this
   simp +decide only [go_sem]
   exact Runs.ret_eq (by rw [← hr2]; rfl)
include hm in
theorem trim1 (s : ByteArray) (h : s.size ≤ 1048576) : Holds Tryz.prog 127 [.v (.string s), .v (.string digS)] [] (.v (.string (trimD s))) [] := by
 refine holds_ref (ann := []) tabOk hm (byL [147, 146] []) Tryz.func127 (by kernel_rfl) rfl ?_
 have hd : (digS.toList == (⟨#[]⟩ : ByteArray).toList) = false := by rw [Lib.toList_data, Lib.toList_data]; decide
 have hs10 : ((digS.size : Nat) : Int) = 10 := rfl
 have hz := list_size s
 have hle : (trR s.data.toList).length ≤ s.size := by
  rw [trR, List.length_reverse]
  have := (List.dropWhile_sublist (p := digC) (l := s.data.toList.reverse)).length_le
  rw [List.length_reverse, hz] at this; exact this
 simp +decide only [Tryz.f127, go_sem]
 refine Runs.split (fun h2 => ?_) (fun h2 => ?_)
 ·have e : s = ⟨#[]⟩ := by
   rw [beq_iff_eq, Lib.toList_data, Lib.toList_data] at h2
   rw [← mkS_list s, h2]; rfl
  simp +decide only [go_sem]
  exact Runs.ret_eq (by rw [e]; rfl)
 ·simp +decide only [hd, hs10, go_sem]
  refine Runs.call (makeSet hm) ?_
  simp +decide only [go_sem]
  have c1 := trimRight hm s.data.toList (by omega)
  rw [mkS_list, setBlk] at c1
  refine Runs.call c1 ?_
  simp +decide only [go_sem]
  have c2 := trimLeft hm (trR s.data.toList) (by omega)
  rw [setBlk] at c2
  refine Runs.call c2 ?_
  simp +decide only [go_sem]
  exact Runs.ret_eq rfl
end Go.Proofs.W
