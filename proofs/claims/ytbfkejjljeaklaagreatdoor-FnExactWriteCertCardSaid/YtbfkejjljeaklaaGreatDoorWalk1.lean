import Derived.Test.YtbfkejjljeaklaaGreatDoorProg
import Derived.KernelRfl
import Derived.Lib.IndexLaws
import Derived.Lib.Strings
import Derived.Lib.Slices
import Derived.Lib.Walk
import Derived.Lib.Bytealg
import Derived.Test.YtbfkejjljeaklaaGreatDoorField1
set_option linter.unusedVariables false
set_option linter.unusedSimpArgs false
namespace Go.Proofs.W
open Go Go.AM
def repV (n : Nat) (v : Value) : List Value := List.replicate n v
def tab : Go.AM.Tab := [
  [⟨.other, 0, 0, []⟩,
   ⟨.func, 1, 8, [.nilFunc]⟩,
   ⟨.int .i64, 1, 8, [.int .i64 0]⟩,
   ⟨.int .i64, 1, 8, [.int .i64 0]⟩,
   ⟨.bool, 1, 1, [.bool false]⟩,
   ⟨.int .u8, 1, 1, [.int .u8 0]⟩,
   ⟨.int .u8, 1, 1, [.int .u8 0]⟩,
   ⟨.struct [(0, 1, 2), (1, 1, 3), (2, 1, 4), (3, 1, 6)], 4, 24, [.int .i64 0, .int .i64 0, .bool false, .int .u8 0]⟩,
   ⟨.struct [(0, 1, 2), (1, 1, 3), (2, 1, 4), (3, 1, 6)], 4, 24, [.int .i64 0, .int .i64 0, .bool false, .int .u8 0]⟩,
   ⟨.string, 1, 16, [.string ⟨#[]⟩]⟩,
   ⟨.string, 1, 16, [.string ⟨#[]⟩]⟩,
   ⟨.string, 1, 16, [.string ⟨#[]⟩]⟩,
   ⟨.int .u64, 1, 8, [.int .u64 0]⟩,
   ⟨.struct [(0, 1, 9), (1, 1, 12)], 2, 24, [.string ⟨#[]⟩, .int .u64 0]⟩,
   ⟨.struct [(0, 1, 9), (1, 1, 12)], 2, 24, [.string ⟨#[]⟩, .int .u64 0]⟩,
   ⟨.pointer 209, 1, 8, [.pointer none]⟩],
  [⟨.pointer 212, 1, 8, [.pointer none]⟩,
   ⟨.pointer 221, 1, 8, [.pointer none]⟩,
   ⟨.struct [(0, 1, 17)], 1, 8, [.pointer none]⟩,
   ⟨.struct [(0, 1, 17)], 1, 8, [.pointer none]⟩,
   ⟨.other, 0, 0, []⟩,
   ⟨.int .i32, 1, 4, [.int .i32 0]⟩,
   ⟨.slice 9, 1, 24, [.slice none 0 0]⟩,
   ⟨.slice 3, 1, 24, [.slice none 0 0]⟩,
   ⟨.struct [(0, 1, 3), (1, 1, 3), (2, 1, 3), (3, 1, 3), (4, 1, 3), (5, 1, 3)], 6, 48, [.int .i64 0, .int .i64 0, .int .i64 0, .int .i64 0, .int .i64 0, .int .i64 0]⟩,
   ⟨.struct [(0, 1, 3), (1, 1, 3), (2, 1, 3), (3, 1, 3), (4, 1, 3), (5, 1, 3)], 6, 48, [.int .i64 0, .int .i64 0, .int .i64 0, .int .i64 0, .int .i64 0, .int .i64 0]⟩,
   ⟨.struct [(0, 1, 3), (1, 1, 3), (2, 1, 4)], 3, 24, [.int .i64 0, .int .i64 0, .bool false]⟩,
   ⟨.struct [(0, 1, 3), (1, 1, 3), (2, 1, 4)], 3, 24, [.int .i64 0, .int .i64 0, .bool false]⟩,
   ⟨.struct [(0, 1, 3), (1, 1, 3), (2, 1, 3), (3, 1, 3), (4, 1, 3)], 5, 40, [.int .i64 0, .int .i64 0, .int .i64 0, .int .i64 0, .int .i64 0]⟩,
   ⟨.struct [(0, 1, 3), (1, 1, 3), (2, 1, 3), (3, 1, 3), (4, 1, 3)], 5, 40, [.int .i64 0, .int .i64 0, .int .i64 0, .int .i64 0, .int .i64 0]⟩,
   ⟨.struct [(0, 1, 3), (1, 1, 3)], 2, 16, [.int .i64 0, .int .i64 0]⟩,
   ⟨.struct [(0, 1, 3), (1, 1, 3)], 2, 16, [.int .i64 0, .int .i64 0]⟩],
  [⟨.struct [(0, 1, 3), (1, 1, 23), (2, 1, 3), (3, 6, 25), (9, 3, 27), (12, 5, 29), (17, 2, 31)], 19, 168, [.int .i64 0, .slice none 0 0, .int .i64 0, .int .i64 0, .int .i64 0, .int .i64 0, .int .i64 0, .int .i64 0, .int .i64 0, .int .i64 0, .int .i64 0, .bool false, .int .i64 0, .int .i64 0, .int .i64 0, .int .i64 0, .int .i64 0, .int .i64 0, .int .i64 0]⟩,
   ⟨.struct [(0, 1, 3), (1, 1, 23), (2, 1, 3), (3, 6, 25), (9, 3, 27), (12, 5, 29), (17, 2, 31)], 19, 168, [.int .i64 0, .slice none 0 0, .int .i64 0, .int .i64 0, .int .i64 0, .int .i64 0, .int .i64 0, .int .i64 0, .int .i64 0, .int .i64 0, .int .i64 0, .bool false, .int .i64 0, .int .i64 0, .int .i64 0, .int .i64 0, .int .i64 0, .int .i64 0, .int .i64 0]⟩,
   ⟨.slice 23, 1, 24, [.slice none 0 0]⟩,
   ⟨.struct [(0, 1, 4), (1, 1, 3), (2, 1, 3), (3, 1, 22), (4, 1, 34), (5, 1, 22), (6, 1, 22), (7, 1, 23)], 8, 144, [.bool false, .int .i64 0, .int .i64 0, .slice none 0 0, .slice none 0 0, .slice none 0 0, .slice none 0 0, .slice none 0 0]⟩,
   ⟨.struct [(0, 1, 4), (1, 1, 3), (2, 1, 3), (3, 1, 22), (4, 1, 34), (5, 1, 22), (6, 1, 22), (7, 1, 23)], 8, 144, [.bool false, .int .i64 0, .int .i64 0, .slice none 0 0, .slice none 0 0, .slice none 0 0, .slice none 0 0, .slice none 0 0]⟩,
   ⟨.slice 5, 1, 24, [.slice none 0 0]⟩,
   ⟨.struct [(0, 1, 3), (1, 1, 22), (2, 1, 22), (3, 1, 3), (4, 1, 3), (5, 19, 33), (24, 1, 3), (25, 8, 36), (33, 1, 37)], 34, 416, [.int .i64 0, .slice none 0 0, .slice none 0 0, .int .i64 0, .int .i64 0, .int .i64 0, .slice none 0 0, .int .i64 0, .int .i64 0, .int .i64 0, .int .i64 0, .int .i64 0, .int .i64 0, .int .i64 0, .int .i64 0, .int .i64 0, .bool false, .int .i64 0, .int .i64 0, .int .i64 0, .int .i64 0, .int .i64 0, .int .i64 0, .int .i64 0, .int .i64 0, .bool false, .int .i64 0, .int .i64 0, .slice none 0 0, .slice none 0 0, .slice none 0 0, .slice none 0 0, .slice none 0 0, .slice none 0 0]⟩,
   ⟨.struct [(0, 1, 3), (1, 1, 22), (2, 1, 22), (3, 1, 3), (4, 1, 3), (5, 19, 33), (24, 1, 3), (25, 8, 36), (33, 1, 37)], 34, 416, [.int .i64 0, .slice none 0 0, .slice none 0 0, .int .i64 0, .int .i64 0, .int .i64 0, .slice none 0 0, .int .i64 0, .int .i64 0, .int .i64 0, .int .i64 0, .int .i64 0, .int .i64 0, .int .i64 0, .int .i64 0, .int .i64 0, .bool false, .int .i64 0, .int .i64 0, .int .i64 0, .int .i64 0, .int .i64 0, .int .i64 0, .int .i64 0, .int .i64 0, .bool false, .int .i64 0, .int .i64 0, .slice none 0 0, .slice none 0 0, .slice none 0 0, .slice none 0 0, .slice none 0 0, .slice none 0 0]⟩,
   ⟨.func, 1, 8, [.nilFunc]⟩,
   ⟨.other, 0, 0, []⟩,
   ⟨.func, 1, 8, [.nilFunc]⟩,
   ⟨.struct [(0, 1, 3), (1, 1, 3), (2, 1, 3), (3, 1, 3), (4, 1, 3), (5, 1, 3)], 6, 48, [.int .i64 0, .int .i64 0, .int .i64 0, .int .i64 0, .int .i64 0, .int .i64 0]⟩,
   ⟨.struct [(0, 1, 3), (1, 1, 3), (2, 1, 4)], 3, 24, [.int .i64 0, .int .i64 0, .bool false]⟩,
   ⟨.struct [(0, 1, 3), (1, 1, 3), (2, 1, 3), (3, 1, 3), (4, 1, 3)], 5, 40, [.int .i64 0, .int .i64 0, .int .i64 0, .int .i64 0, .int .i64 0]⟩,
   ⟨.struct [(0, 1, 3), (1, 1, 3)], 2, 16, [.int .i64 0, .int .i64 0]⟩,
   ⟨.struct [(0, 1, 3), (1, 1, 23), (2, 1, 3), (3, 6, 43), (9, 3, 44), (12, 5, 45), (17, 2, 46)], 19, 168, [.int .i64 0, .slice none 0 0, .int .i64 0, .int .i64 0, .int .i64 0, .int .i64 0, .int .i64 0, .int .i64 0, .int .i64 0, .int .i64 0, .int .i64 0, .bool false, .int .i64 0, .int .i64 0, .int .i64 0, .int .i64 0, .int .i64 0, .int .i64 0, .int .i64 0]⟩],
  [⟨.struct [(0, 1, 3), (1, 1, 23), (2, 1, 3), (3, 6, 43), (9, 3, 44), (12, 5, 45), (17, 2, 46)], 19, 168, [.int .i64 0, .slice none 0 0, .int .i64 0, .int .i64 0, .int .i64 0, .int .i64 0, .int .i64 0, .int .i64 0, .int .i64 0, .int .i64 0, .int .i64 0, .bool false, .int .i64 0, .int .i64 0, .int .i64 0, .int .i64 0, .int .i64 0, .int .i64 0, .int .i64 0]⟩,
   ⟨.struct [(0, 1, 4), (1, 1, 3), (2, 1, 3), (3, 1, 22), (4, 1, 34), (5, 1, 22), (6, 1, 22), (7, 1, 23)], 8, 144, [.bool false, .int .i64 0, .int .i64 0, .slice none 0 0, .slice none 0 0, .slice none 0 0, .slice none 0 0, .slice none 0 0]⟩,
   ⟨.struct [(0, 1, 3), (1, 1, 22), (2, 1, 22), (3, 1, 3), (4, 1, 3), (5, 19, 48), (24, 1, 3), (25, 8, 49), (33, 1, 37)], 34, 416, [.int .i64 0, .slice none 0 0, .slice none 0 0, .int .i64 0, .int .i64 0, .int .i64 0, .slice none 0 0, .int .i64 0, .int .i64 0, .int .i64 0, .int .i64 0, .int .i64 0, .int .i64 0, .int .i64 0, .int .i64 0, .int .i64 0, .bool false, .int .i64 0, .int .i64 0, .int .i64 0, .int .i64 0, .int .i64 0, .int .i64 0, .int .i64 0, .int .i64 0, .bool false, .int .i64 0, .int .i64 0, .slice none 0 0, .slice none 0 0, .slice none 0 0, .slice none 0 0, .slice none 0 0, .slice none 0 0]⟩,
   ⟨.struct [(0, 1, 3), (1, 1, 22), (2, 1, 22), (3, 1, 3), (4, 1, 3), (5, 19, 48), (24, 1, 3), (25, 8, 49), (33, 1, 37)], 34, 416, [.int .i64 0, .slice none 0 0, .slice none 0 0, .int .i64 0, .int .i64 0, .int .i64 0, .slice none 0 0, .int .i64 0, .int .i64 0, .int .i64 0, .int .i64 0, .int .i64 0, .int .i64 0, .int .i64 0, .int .i64 0, .int .i64 0, .bool false, .int .i64 0, .int .i64 0, .int .i64 0, .int .i64 0, .int .i64 0, .int .i64 0, .int .i64 0, .int .i64 0, .bool false, .int .i64 0, .int .i64 0, .slice none 0 0, .slice none 0 0, .slice none 0 0, .slice none 0 0, .slice none 0 0, .slice none 0 0]⟩,
   ⟨.func, 1, 8, [.nilFunc]⟩,
   ⟨.func, 1, 8, [.nilFunc]⟩,
   ⟨.func, 1, 8, [.nilFunc]⟩,
   ⟨.func, 1, 8, [.nilFunc]⟩,
   ⟨.func, 1, 8, [.nilFunc]⟩,
   ⟨.func, 1, 8, [.nilFunc]⟩,
   ⟨.func, 1, 8, [.nilFunc]⟩,
   ⟨.func, 1, 8, [.nilFunc]⟩,
   ⟨.func, 1, 8, [.nilFunc]⟩,
   ⟨.func, 1, 8, [.nilFunc]⟩,
   ⟨.func, 1, 8, [.nilFunc]⟩,
   ⟨.slice 92, 1, 24, [.slice none 0 0]⟩],
  [⟨.func, 1, 8, [.nilFunc]⟩,
   ⟨.func, 1, 8, [.nilFunc]⟩,
   ⟨.func, 1, 8, [.nilFunc]⟩,
   ⟨.func, 1, 8, [.nilFunc]⟩,
   ⟨.func, 1, 8, [.nilFunc]⟩,
   ⟨.func, 1, 8, [.nilFunc]⟩,
   ⟨.func, 1, 8, [.nilFunc]⟩,
   ⟨.slice 73, 1, 24, [.slice none 0 0]⟩,
   ⟨.struct [(0, 1, 3), (1, 1, 37), (2, 1, 71)], 3, 56, [.int .i64 0, .slice none 0 0, .slice none 0 0]⟩,
   ⟨.struct [(0, 1, 3), (1, 1, 37), (2, 1, 71)], 3, 56, [.int .i64 0, .slice none 0 0, .slice none 0 0]⟩,
   ⟨.func, 1, 8, [.nilFunc]⟩,
   ⟨.func, 1, 8, [.nilFunc]⟩,
   ⟨.func, 1, 8, [.nilFunc]⟩,
   ⟨.func, 1, 8, [.nilFunc]⟩,
   ⟨.func, 1, 8, [.nilFunc]⟩,
   ⟨.func, 1, 8, [.nilFunc]⟩],
  [⟨.func, 1, 8, [.nilFunc]⟩,
   ⟨.func, 1, 8, [.nilFunc]⟩,
   ⟨.func, 1, 8, [.nilFunc]⟩,
   ⟨.func, 1, 8, [.nilFunc]⟩,
   ⟨.func, 1, 8, [.nilFunc]⟩,
   ⟨.func, 1, 8, [.nilFunc]⟩,
   ⟨.func, 1, 8, [.nilFunc]⟩,
   ⟨.func, 1, 8, [.nilFunc]⟩,
   ⟨.func, 1, 8, [.nilFunc]⟩,
   ⟨.func, 1, 8, [.nilFunc]⟩,
   ⟨.func, 1, 8, [.nilFunc]⟩,
   ⟨.struct [(0, 1, 3), (1, 1, 37), (2, 1, 3)], 3, 40, [.int .i64 0, .slice none 0 0, .int .i64 0]⟩,
   ⟨.struct [(0, 1, 3), (1, 1, 37), (2, 1, 3)], 3, 40, [.int .i64 0, .slice none 0 0, .int .i64 0]⟩,
   ⟨.other, 0, 0, []⟩,
   ⟨.func, 1, 8, [.nilFunc]⟩,
   ⟨.func, 1, 8, [.nilFunc]⟩],
  [⟨.func, 1, 8, [.nilFunc]⟩,
   ⟨.func, 1, 8, [.nilFunc]⟩,
   ⟨.other, 0, 0, []⟩,
   ⟨.func, 1, 8, [.nilFunc]⟩,
   ⟨.func, 1, 8, [.nilFunc]⟩,
   ⟨.func, 1, 8, [.nilFunc]⟩,
   ⟨.func, 1, 8, [.nilFunc]⟩,
   ⟨.func, 1, 8, [.nilFunc]⟩,
   ⟨.func, 1, 8, [.nilFunc]⟩,
   ⟨.func, 1, 8, [.nilFunc]⟩,
   ⟨.func, 1, 8, [.nilFunc]⟩,
   ⟨.other, 0, 0, []⟩,
   ⟨.func, 1, 8, [.nilFunc]⟩,
   ⟨.func, 1, 8, [.nilFunc]⟩,
   ⟨.func, 1, 8, [.nilFunc]⟩,
   ⟨.func, 1, 8, [.nilFunc]⟩],
  [⟨.func, 1, 8, [.nilFunc]⟩,
   ⟨.func, 1, 8, [.nilFunc]⟩,
   ⟨.func, 1, 8, [.nilFunc]⟩,
   ⟨.func, 1, 8, [.nilFunc]⟩,
   ⟨.func, 1, 8, [.nilFunc]⟩,
   ⟨.func, 1, 8, [.nilFunc]⟩,
   ⟨.func, 1, 8, [.nilFunc]⟩,
   ⟨.func, 1, 8, [.nilFunc]⟩,
   ⟨.func, 1, 8, [.nilFunc]⟩,
   ⟨.func, 1, 8, [.nilFunc]⟩,
   ⟨.func, 1, 8, [.nilFunc]⟩,
   ⟨.func, 1, 8, [.nilFunc]⟩,
   ⟨.func, 1, 8, [.nilFunc]⟩,
   ⟨.func, 1, 8, [.nilFunc]⟩,
   ⟨.func, 1, 8, [.nilFunc]⟩,
   ⟨.func, 1, 8, [.nilFunc]⟩],
  [⟨.func, 1, 8, [.nilFunc]⟩,
   ⟨.func, 1, 8, [.nilFunc]⟩,
   ⟨.other, 0, 0, []⟩,
   ⟨.func, 1, 8, [.nilFunc]⟩,
   ⟨.func, 1, 8, [.nilFunc]⟩,
   ⟨.func, 1, 8, [.nilFunc]⟩,
   ⟨.func, 1, 8, [.nilFunc]⟩,
   ⟨.func, 1, 8, [.nilFunc]⟩,
   ⟨.func, 1, 8, [.nilFunc]⟩,
   ⟨.func, 1, 8, [.nilFunc]⟩,
   ⟨.func, 1, 8, [.nilFunc]⟩,
   ⟨.func, 1, 8, [.nilFunc]⟩,
   ⟨.func, 1, 8, [.nilFunc]⟩,
   ⟨.func, 1, 8, [.nilFunc]⟩,
   ⟨.func, 1, 8, [.nilFunc]⟩,
   ⟨.int .u64, 1, 8, [.int .u64 0]⟩],
  [⟨.func, 1, 8, [.nilFunc]⟩,
   ⟨.func, 1, 8, [.nilFunc]⟩,
   ⟨.func, 1, 8, [.nilFunc]⟩,
   ⟨.func, 1, 8, [.nilFunc]⟩,
   ⟨.func, 1, 8, [.nilFunc]⟩,
   ⟨.func, 1, 8, [.nilFunc]⟩,
   ⟨.func, 1, 8, [.nilFunc]⟩,
   ⟨.func, 1, 8, [.nilFunc]⟩,
   ⟨.other, 0, 0, []⟩,
   ⟨.func, 1, 8, [.nilFunc]⟩,
   ⟨.func, 1, 8, [.nilFunc]⟩,
   ⟨.func, 1, 8, [.nilFunc]⟩,
   ⟨.func, 1, 8, [.nilFunc]⟩,
   ⟨.func, 1, 8, [.nilFunc]⟩,
   ⟨.func, 1, 8, [.nilFunc]⟩,
   ⟨.func, 1, 8, [.nilFunc]⟩],
  [⟨.func, 1, 8, [.nilFunc]⟩,
   ⟨.func, 1, 8, [.nilFunc]⟩,
   ⟨.func, 1, 8, [.nilFunc]⟩,
   ⟨.func, 1, 8, [.nilFunc]⟩,
   ⟨.func, 1, 8, [.nilFunc]⟩,
   ⟨.func, 1, 8, [.nilFunc]⟩,
   ⟨.func, 1, 8, [.nilFunc]⟩,
   ⟨.func, 1, 8, [.nilFunc]⟩,
   ⟨.func, 1, 8, [.nilFunc]⟩,
   ⟨.func, 1, 8, [.nilFunc]⟩,
   ⟨.func, 1, 8, [.nilFunc]⟩,
   ⟨.func, 1, 8, [.nilFunc]⟩,
   ⟨.func, 1, 8, [.nilFunc]⟩,
   ⟨.func, 1, 8, [.nilFunc]⟩,
   ⟨.func, 1, 8, [.nilFunc]⟩,
   ⟨.func, 1, 8, [.nilFunc]⟩],
  [⟨.array 256 4, 256, 256, repV 256 (.bool false)⟩,
   ⟨.array 256 4, 256, 256, repV 256 (.bool false)⟩,
   ⟨.other, 0, 0, []⟩,
   ⟨.func, 1, 8, [.nilFunc]⟩,
   ⟨.func, 1, 8, [.nilFunc]⟩,
   ⟨.pointer 177, 1, 8, [.pointer none]⟩,
   ⟨.func, 1, 8, [.nilFunc]⟩,
   ⟨.int .u32, 1, 4, [.int .u32 0]⟩,
   ⟨.func, 1, 8, [.nilFunc]⟩,
   ⟨.int .u64, 1, 8, [.int .u64 0]⟩,
   ⟨.func, 1, 8, [.nilFunc]⟩,
   ⟨.other, 0, 0, []⟩,
   ⟨.func, 1, 8, [.nilFunc]⟩,
   ⟨.func, 1, 8, [.nilFunc]⟩,
   ⟨.func, 1, 8, [.nilFunc]⟩,
   ⟨.func, 1, 8, [.nilFunc]⟩],
  [⟨.func, 1, 8, [.nilFunc]⟩,
   ⟨.other, 0, 0, []⟩,
   ⟨.func, 1, 8, [.nilFunc]⟩,
   ⟨.func, 1, 8, [.nilFunc]⟩,
   ⟨.func, 1, 8, [.nilFunc]⟩,
   ⟨.func, 1, 8, [.nilFunc]⟩,
   ⟨.func, 1, 8, [.nilFunc]⟩,
   ⟨.func, 1, 8, [.nilFunc]⟩,
   ⟨.other, 0, 0, []⟩,
   ⟨.func, 1, 8, [.nilFunc]⟩,
   ⟨.array 256 5, 256, 256, repV 256 (.int .u8 0)⟩,
   ⟨.struct [(0, 1, 5), (1, 1, 5)], 2, 2, [.int .u8 0, .int .u8 0]⟩,
   ⟨.struct [(0, 1, 5), (1, 1, 5)], 2, 2, [.int .u8 0, .int .u8 0]⟩,
   ⟨.array 16 204, 32, 32, [.int .u8 0, .int .u8 0, .int .u8 0, .int .u8 0, .int .u8 0, .int .u8 0, .int .u8 0, .int .u8 0, .int .u8 0, .int .u8 0, .int .u8 0, .int .u8 0, .int .u8 0, .int .u8 0, .int .u8 0, .int .u8 0, .int .u8 0, .int .u8 0, .int .u8 0, .int .u8 0, .int .u8 0, .int .u8 0, .int .u8 0, .int .u8 0, .int .u8 0, .int .u8 0, .int .u8 0, .int .u8 0, .int .u8 0, .int .u8 0, .int .u8 0, .int .u8 0]⟩,
   ⟨.func, 1, 8, [.nilFunc]⟩,
   ⟨.func, 1, 8, [.nilFunc]⟩],
  [⟨.struct [(0, 1, 17), (1, 1, 17), (2, 1, 17), (3, 1, 9)], 4, 40, [.pointer none, .pointer none, .pointer none, .string ⟨#[]⟩]⟩,
   ⟨.struct [(0, 1, 17), (1, 1, 17), (2, 1, 17), (3, 1, 9)], 4, 40, [.pointer none, .pointer none, .pointer none, .string ⟨#[]⟩]⟩,
   ⟨.other, 0, 0, []⟩,
   ⟨.other, 0, 0, []⟩,
   ⟨.other, 0, 0, []⟩,
   ⟨.func, 1, 8, [.nilFunc]⟩,
   ⟨.int .u8, 1, 1, [.int .u8 0]⟩,
   ⟨.int .u8, 1, 1, [.int .u8 0]⟩,
   ⟨.func, 1, 8, [.nilFunc]⟩,
   ⟨.pointer 5, 1, 8, [.pointer none]⟩,
   ⟨.int .i32, 1, 4, [.int .i32 0]⟩,
   ⟨.int .i32, 1, 4, [.int .i32 0]⟩,
   ⟨.struct [(0, 1, 12), (1, 1, 12), (2, 1, 183), (3, 1, 214), (4, 1, 5), (5, 1, 5), (6, 1, 215), (7, 1, 216), (8, 1, 217), (9, 1, 218), (10, 1, 219)], 11, 48, [.int .u64 0, .int .u64 0, .int .u32 0, .int .u8 0, .int .u8 0, .int .u8 0, .int .u8 0, .nilFunc, .pointer none, .int .i32 0, .int .i32 0]⟩,
   ⟨.struct [(0, 1, 12), (1, 1, 12), (2, 1, 183), (3, 1, 214), (4, 1, 5), (5, 1, 5), (6, 1, 215), (7, 1, 216), (8, 1, 217), (9, 1, 218), (10, 1, 219)], 11, 48, [.int .u64 0, .int .u64 0, .int .u32 0, .int .u8 0, .int .u8 0, .int .u8 0, .int .u8 0, .nilFunc, .pointer none, .int .i32 0, .int .i32 0]⟩,
   ⟨.func, 1, 8, [.nilFunc]⟩,
   ⟨.other, 0, 0, []⟩]]
theorem tabOk : TabOk Tryz.prog tab := tabOk_of (by kernel_rfl)
theorem row3 : tab.row 3 = ⟨.int .i64, 1, 8, [.int .i64 0]⟩ := Eq.trans rfl rfl
theorem row4 : tab.row 4 = ⟨.bool, 1, 1, [.bool false]⟩ := Eq.trans rfl rfl
theorem row5 : tab.row 5 = ⟨.int .u8, 1, 1, [.int .u8 0]⟩ := Eq.trans rfl rfl
theorem row9 : tab.row 9 = ⟨.string, 1, 16, [.string ⟨#[]⟩]⟩ := Eq.trans rfl rfl
theorem row22 : tab.row 22 = ⟨.slice 9, 1, 24, [.slice none 0 0]⟩ := Eq.trans rfl rfl
theorem row23 : tab.row 23 = ⟨.slice 3, 1, 24, [.slice none 0 0]⟩ := Eq.trans rfl rfl
theorem row25 : tab.row 25 = ⟨.struct [(0, 1, 3), (1, 1, 3), (2, 1, 3), (3, 1, 3), (4, 1, 3), (5, 1, 3)], 6, 48, [.int .i64 0, .int .i64 0, .int .i64 0, .int .i64 0, .int .i64 0, .int .i64 0]⟩ := Eq.trans rfl rfl
theorem row27 : tab.row 27 = ⟨.struct [(0, 1, 3), (1, 1, 3), (2, 1, 4)], 3, 24, [.int .i64 0, .int .i64 0, .bool false]⟩ := Eq.trans rfl rfl
theorem row29 : tab.row 29 = ⟨.struct [(0, 1, 3), (1, 1, 3), (2, 1, 3), (3, 1, 3), (4, 1, 3)], 5, 40, [.int .i64 0, .int .i64 0, .int .i64 0, .int .i64 0, .int .i64 0]⟩ := Eq.trans rfl rfl
theorem row31 : tab.row 31 = ⟨.struct [(0, 1, 3), (1, 1, 3)], 2, 16, [.int .i64 0, .int .i64 0]⟩ := Eq.trans rfl rfl
theorem row33 : tab.row 33 = ⟨.struct [(0, 1, 3), (1, 1, 23), (2, 1, 3), (3, 6, 25), (9, 3, 27), (12, 5, 29), (17, 2, 31)], 19, 168, [.int .i64 0, .slice none 0 0, .int .i64 0, .int .i64 0, .int .i64 0, .int .i64 0, .int .i64 0, .int .i64 0, .int .i64 0, .int .i64 0, .int .i64 0, .bool false, .int .i64 0, .int .i64 0, .int .i64 0, .int .i64 0, .int .i64 0, .int .i64 0, .int .i64 0]⟩ := Eq.trans rfl rfl
theorem row34 : tab.row 34 = ⟨.slice 23, 1, 24, [.slice none 0 0]⟩ := Eq.trans rfl rfl
theorem row36 : tab.row 36 = ⟨.struct [(0, 1, 4), (1, 1, 3), (2, 1, 3), (3, 1, 22), (4, 1, 34), (5, 1, 22), (6, 1, 22), (7, 1, 23)], 8, 144, [.bool false, .int .i64 0, .int .i64 0, .slice none 0 0, .slice none 0 0, .slice none 0 0, .slice none 0 0, .slice none 0 0]⟩ := Eq.trans rfl rfl
theorem row37 : tab.row 37 = ⟨.slice 5, 1, 24, [.slice none 0 0]⟩ := Eq.trans rfl rfl
theorem row39 : tab.row 39 = ⟨.struct [(0, 1, 3), (1, 1, 22), (2, 1, 22), (3, 1, 3), (4, 1, 3), (5, 19, 33), (24, 1, 3), (25, 8, 36), (33, 1, 37)], 34, 416, [.int .i64 0, .slice none 0 0, .slice none 0 0, .int .i64 0, .int .i64 0, .int .i64 0, .slice none 0 0, .int .i64 0, .int .i64 0, .int .i64 0, .int .i64 0, .int .i64 0, .int .i64 0, .int .i64 0, .int .i64 0, .int .i64 0, .bool false, .int .i64 0, .int .i64 0, .int .i64 0, .int .i64 0, .int .i64 0, .int .i64 0, .int .i64 0, .int .i64 0, .bool false, .int .i64 0, .int .i64 0, .slice none 0 0, .slice none 0 0, .slice none 0 0, .slice none 0 0, .slice none 0 0, .slice none 0 0]⟩ := Eq.trans rfl rfl
theorem row43 : tab.row 43 = ⟨.struct [(0, 1, 3), (1, 1, 3), (2, 1, 3), (3, 1, 3), (4, 1, 3), (5, 1, 3)], 6, 48, [.int .i64 0, .int .i64 0, .int .i64 0, .int .i64 0, .int .i64 0, .int .i64 0]⟩ := Eq.trans rfl rfl
theorem row44 : tab.row 44 = ⟨.struct [(0, 1, 3), (1, 1, 3), (2, 1, 4)], 3, 24, [.int .i64 0, .int .i64 0, .bool false]⟩ := Eq.trans rfl rfl
theorem row45 : tab.row 45 = ⟨.struct [(0, 1, 3), (1, 1, 3), (2, 1, 3), (3, 1, 3), (4, 1, 3)], 5, 40, [.int .i64 0, .int .i64 0, .int .i64 0, .int .i64 0, .int .i64 0]⟩ := Eq.trans rfl rfl
theorem row46 : tab.row 46 = ⟨.struct [(0, 1, 3), (1, 1, 3)], 2, 16, [.int .i64 0, .int .i64 0]⟩ := Eq.trans rfl rfl
theorem row48 : tab.row 48 = ⟨.struct [(0, 1, 3), (1, 1, 23), (2, 1, 3), (3, 6, 43), (9, 3, 44), (12, 5, 45), (17, 2, 46)], 19, 168, [.int .i64 0, .slice none 0 0, .int .i64 0, .int .i64 0, .int .i64 0, .int .i64 0, .int .i64 0, .int .i64 0, .int .i64 0, .int .i64 0, .int .i64 0, .bool false, .int .i64 0, .int .i64 0, .int .i64 0, .int .i64 0, .int .i64 0, .int .i64 0, .int .i64 0]⟩ := Eq.trans rfl rfl
theorem row49 : tab.row 49 = ⟨.struct [(0, 1, 4), (1, 1, 3), (2, 1, 3), (3, 1, 22), (4, 1, 34), (5, 1, 22), (6, 1, 22), (7, 1, 23)], 8, 144, [.bool false, .int .i64 0, .int .i64 0, .slice none 0 0, .slice none 0 0, .slice none 0 0, .slice none 0 0, .slice none 0 0]⟩ := Eq.trans rfl rfl
theorem row51 : tab.row 51 = ⟨.struct [(0, 1, 3), (1, 1, 22), (2, 1, 22), (3, 1, 3), (4, 1, 3), (5, 19, 48), (24, 1, 3), (25, 8, 49), (33, 1, 37)], 34, 416, [.int .i64 0, .slice none 0 0, .slice none 0 0, .int .i64 0, .int .i64 0, .int .i64 0, .slice none 0 0, .int .i64 0, .int .i64 0, .int .i64 0, .int .i64 0, .int .i64 0, .int .i64 0, .int .i64 0, .int .i64 0, .int .i64 0, .bool false, .int .i64 0, .int .i64 0, .int .i64 0, .int .i64 0, .int .i64 0, .int .i64 0, .int .i64 0, .int .i64 0, .bool false, .int .i64 0, .int .i64 0, .slice none 0 0, .slice none 0 0, .slice none 0 0, .slice none 0 0, .slice none 0 0, .slice none 0 0]⟩ := Eq.trans rfl rfl
theorem row63 : tab.row 63 = ⟨.slice 92, 1, 24, [.slice none 0 0]⟩ := Eq.trans rfl rfl
theorem row71 : tab.row 71 = ⟨.slice 73, 1, 24, [.slice none 0 0]⟩ := Eq.trans rfl rfl
theorem row73 : tab.row 73 = ⟨.struct [(0, 1, 3), (1, 1, 37), (2, 1, 71)], 3, 56, [.int .i64 0, .slice none 0 0, .slice none 0 0]⟩ := Eq.trans rfl rfl
theorem row92 : tab.row 92 = ⟨.struct [(0, 1, 3), (1, 1, 37), (2, 1, 3)], 3, 40, [.int .i64 0, .slice none 0 0, .int .i64 0]⟩ := Eq.trans rfl rfl
theorem row143 : tab.row 143 = ⟨.int .u64, 1, 8, [.int .u64 0]⟩ := Eq.trans rfl rfl
theorem row177 : tab.row 177 = ⟨.array 256 4, 256, 256, repV 256 (.bool false)⟩ := Eq.trans rfl rfl
attribute [go_sem] row3 row4 row5 row9 row22 row23 row25 row27 row29 row31 row33 row34 row36 row37 row39 row43 row44 row45 row46 row48 row49 row51 row63 row71 row73 row92 row143 row177
end Go.Proofs.W

namespace Go.Proofs.W
open Go Go.AM
set_option maxRecDepth 10000
variable (hm : Tryz.prog.follows .mixedOrders = true)
def inB (n a b : Int) : Bool := decide (a ≤ n) && decide (n ≤ b)
include hm in
theorem l1In (n a b : Int) : Holds Tryz.prog 40 [.v (.int .i64 n), .v (.int .i64 a), .v (.int .i64 b)] [] (.v (.bool (inB n a b))) [] := by
  refine holds_of (ann := []) tabOk hm Tryz.func40 (by kernel_rfl) rfl ?_
  simp +decide only [Tryz.f40, go_sem, Nat.reduceAdd, Nat.reduceMul, Nat.reduceSub]
  refine Runs.split (fun h => ?_) (fun h => ?_)
  · simp only [decide_eq_true_eq] at h
    have e : inB n a b = decide (n ≤ b) := by simp [inB]; omega
    simp +decide only [e, go_sem, Nat.reduceAdd, Nat.reduceMul, Nat.reduceSub]
    exact Runs.ret_v
  · simp only [decide_eq_false_iff_not] at h
    have e : inB n a b = false := by simp [inB]; omega
    simp +decide only [e, go_sem, Nat.reduceAdd, Nat.reduceMul, Nat.reduceSub]
    exact Runs.ret_v
include hm in
theorem within (n a b : Int) : Holds Tryz.prog 58 [.v (.int .i64 n), .v (.int .i64 a), .v (.int .i64 b)] [] (.v (.bool (inB n a b))) [] := by
  refine holds_of (ann := []) tabOk hm Tryz.func58 (by kernel_rfl) rfl ?_
  simp +decide only [Tryz.f58, go_sem, Nat.reduceAdd, Nat.reduceMul, Nat.reduceSub]
  refine Runs.split (fun h => ?_) (fun h => ?_)
  · simp only [decide_eq_true_eq] at h
    have e : inB n a b = decide (n ≤ b) := by simp [inB]; omega
    simp +decide only [e, go_sem, Nat.reduceAdd, Nat.reduceMul, Nat.reduceSub]
    exact Runs.ret_v
  · simp only [decide_eq_false_iff_not] at h
    have e : inB n a b = false := by simp [inB]; omega
    simp +decide only [e, go_sem, Nat.reduceAdd, Nat.reduceMul, Nat.reduceSub]
    exact Runs.ret_v
include hm in
theorem l9Ok (n : Int) : Holds Tryz.prog 42 [.v (.int .i64 n)] [] (.v (.bool (inB n (-631152000) 4102444799))) [] := by
  refine holds_of (ann := []) tabOk hm Tryz.func42 (by kernel_rfl) rfl ?_
  simp +decide only [Tryz.f42, go_sem, Nat.reduceAdd, Nat.reduceMul, Nat.reduceSub]
  refine Runs.call (l1In hm n (-631152000) 4102444799) ?_
  simp +decide only [go_sem, Nat.reduceAdd, Nat.reduceMul, Nat.reduceSub]
  exact Runs.ret_v
include hm in
theorem isTime (n : Int) : Holds Tryz.prog 60 [.v (.int .i64 n)] [] (.v (.bool (inB n (-631152000) 4102444799))) [] := by
  refine holds_of (ann := []) tabOk hm Tryz.func60 (by kernel_rfl) rfl ?_
  simp +decide only [Tryz.f60, go_sem, Nat.reduceAdd, Nat.reduceMul, Nat.reduceSub]
  refine Runs.call (within hm n (-631152000) 4102444799) ?_
  simp +decide only [go_sem, Nat.reduceAdd, Nat.reduceMul, Nat.reduceSub]
  exact Runs.ret_v
def ann26 : Ann := [(0, [1, 2, 9, 10, 11])]
def st26 (L : List Int) (lo hi : Int) (i : Nat) : St := ⟨[.any, .v (.int .i64 lo), .v (.int .i64 hi), .any, .any, .any, .any, .any, .any, .sl .sh (L.map intA), .v (.int .i64 L.length), .v (.int .i64 i), .any, .any, .any, .any, .any, .any, .any, .any, .any], [], []⟩
include hm in
theorem allWithin (L : List Int) (lo hi : Int) (h3 : L.length ≤ 9223372036854775807) :
    Holds Tryz.prog 151 [.sl .sh (L.map intA), .v (.int .i64 lo), .v (.int .i64 hi)] [] (.v (.bool (L.all fun n => inB n lo hi))) [] := by
  refine holds_of (ann := ann26) tabOk hm Tryz.func151 (by kernel_rfl) rfl ?_
  simp +decide only [Tryz.f151, go_sem, Nat.reduceAdd, Nat.reduceMul, Nat.reduceSub]
  refine Runs.while (α := Nat) (st26 L lo hi) (fun i => L.length - i) (fun i => i ≤ L.length ∧ ((L.drop i).all fun n => inB n lo hi) = L.all fun n => inB n lo hi) 0 ⟨by omega, by simp⟩ ?_ ?_
  · simp [go_sem, ann26, st26]
  · rintro i ⟨hi1, hr⟩ ih
    simp +decide only [st26, go_sem, Nat.reduceAdd, Nat.reduceMul, Nat.reduceSub]
    refine Runs.split (fun h => ?_) (fun h => ?_)
    · have hlt : i < L.length := by simpa using h
      rw [List.drop_eq_getElem_cons hlt, List.all_cons] at hr
      simp +decide (disch := first | omega | (simp only [ll]; omega)) only [if_pos, go_sem, Nat.reduceAdd, Nat.reduceMul, Nat.reduceSub]
      refine Runs.call (within hm L[i] lo hi) ?_
      simp +decide only [go_sem, Nat.reduceAdd, Nat.reduceMul, Nat.reduceSub]
      refine Runs.split (fun h => ?_) (fun h => ?_)
      · simp only [Bool.not_eq_true'] at h
        rw [h] at hr
        simp +decide only [← hr, go_sem, Nat.reduceAdd, Nat.reduceMul, Nat.reduceSub]
        exact Runs.ret_v
      · simp only [Bool.not_eq_false'] at h
        rw [h, Bool.true_and] at hr
        simp +decide (disch := first | omega | (simp only [ll]; omega)) only [if_pos, go_sem, Nat.reduceAdd, Nat.reduceMul, Nat.reduceSub]
        refine ih (i + 1) _ (by omega) ⟨hlt, hr⟩ ?_
        simp [go_sem, ann26, st26]
    · have hge : i = L.length := by simp at h; omega
      subst hge
      rw [List.drop_length, List.all_nil] at hr
      simp +decide only [← hr, go_sem, Nat.reduceAdd, Nat.reduceMul, Nat.reduceSub]
      exact Runs.ret_v
end Go.Proofs.W

namespace Go.Proofs.W
open Go Go.AM
set_option maxRecDepth 10000
variable (hm : Tryz.prog.follows .mixedOrders = true)
def ib (n : Int) : Int := IntKind.u8.wrap n
def smallK (n : Int) (k : Nat) : Bool := decide (-128 ≤ n / 256 ^ k) && decide (n / 256 ^ k ≤ 127)
def firstK (n : Int) : Nat → Nat → Nat
  | 0, k => k
  | f + 1, k => if smallK n k = true then k else firstK n f (k + 1)
def kB (n : Int) : Nat := firstK n 7 0
def tailB (n : Int) (k : Nat) : List Int := (List.range (k + 1)).reverse.map fun i => ib (n / 256 ^ i)
def intB (n : Int) : List Int := tailB n (kB n)
theorem tailB_succ (n : Int) (k : Nat) : tailB n (k + 1) = ib (n / 256 ^ (k + 1)) :: tailB n k := by
  simp [tailB, List.range_succ]
theorem tailB_length (n : Int) (k : Nat) : (tailB n k).length = k + 1 := by simp [tailB]
theorem firstK_le (n : Int) : ∀ f k, firstK n f k ≤ k + f
  | 0, k => by simp [firstK]
  | f + 1, k => by
    simp only [firstK]
    split
    · omega
    · have := firstK_le n f (k + 1); omega
theorem kB_le (n : Int) : kB n ≤ 7 := by have := firstK_le n 7 0; unfold kB; omega
theorem small7 {n : Int} (h1 : -9223372036854775808 ≤ n) (h2 : n < 9223372036854775808) : smallK n 7 = true := by
  have : (256 : Int) ^ 7 = 72057594037927936 := rfl
  simp only [smallK, this, Bool.and_eq_true, decide_eq_true_eq]
  omega
theorem div256 (n : Int) (k : Nat) : n / 256 ^ k / 256 = n / 256 ^ (k + 1) := by
  rw [Int.pow_succ, Int.ediv_ediv_of_nonneg (Int.pow_nonneg (by omega))]
theorem shr8 (n : Int) : n.fdiv (2 ^ min (Int.toNat 8) 64) = n / 256 := by
  show n.fdiv 256 = n / 256
  exact Int.fdiv_eq_ediv_of_nonneg _ (by omega)
theorem divK_bound {n : Int} (h1 : -9223372036854775808 ≤ n) (h2 : n < 9223372036854775808) (k : Nat) : -9223372036854775808 ≤ n / 256 ^ k ∧ n / 256 ^ k < 9223372036854775808 := by
  have hp : (0 : Int) < 256 ^ k := Int.pow_pos (by omega)
  refine ⟨?_, ?_⟩
  · rw [Int.le_ediv_iff_mul_le hp]
    have : (1 : Int) ≤ 256 ^ k := hp
    calc -9223372036854775808 * 256 ^ k ≤ -9223372036854775808 * 1 := Int.mul_le_mul_of_nonpos_left (by omega) this
      _ ≤ n := by omega
  · rw [Int.ediv_lt_iff_lt_mul hp]
    have : (1 : Int) ≤ 256 ^ k := hp
    calc n < 9223372036854775808 * 1 := by omega
      _ ≤ 9223372036854775808 * 256 ^ k := Int.mul_le_mul_of_nonneg_left this (by omega)
include hm in
theorem l1Bytes (L : List Int) (h : L.length ≤ 1073741824) : Holds Tryz.prog 95 [.sl .sh (L.map u8A)] [] (.sl (.ow 1) (L.map u8A)) [] := by
  refine holds_of (ann := []) tabOk hm Tryz.func95 (by kernel_rfl) rfl ?_
  simp +decide (disch := first | omega | (simp only [ll]; omega)) only [Tryz.f95, if_pos, go_sem, Nat.reduceAdd, Nat.reduceMul, Nat.reduceSub]
  exact Runs.ret_refl
def l7Len (n : Nat) : List Int := if n < 128 then [ib n] else if n < 256 then [129, ib n] else [130, ib (n / 256 : Nat), ib n]
theorem l7Len_length (n : Nat) : (l7Len n).length ≤ 3 := by
  unfold l7Len
  split
  · simp
  · split <;> simp
theorem shr8n (n : Nat) : ((n : Int)).fdiv (2 ^ min (Int.toNat 8) 64) = ((n / 256 : Nat) : Int) := by rw [shr8]; omega
include hm in
theorem l7Length (n : Nat) (h : n ≤ 1073741824) : Holds Tryz.prog 96 [.v (.int .i64 n)] [] (.sl (.ow 1) ((l7Len n).map u8A)) [] := by
  refine holds_of (ann := []) tabOk hm Tryz.func96 (by kernel_rfl) rfl ?_
  simp +decide only [Tryz.f96, go_sem, Nat.reduceAdd, Nat.reduceMul, Nat.reduceSub]
  refine Runs.split (fun h1 => ?_) (fun h1 => ?_)
  · simp only [decide_eq_true_eq] at h1
    simp +decide only [l7Len, if_pos (show n < 128 by omega), ib, go_sem, Nat.reduceAdd, Nat.reduceMul, Nat.reduceSub]
    exact Runs.ret_refl
  · simp only [decide_eq_false_iff_not] at h1
    simp +decide only [go_sem, Nat.reduceAdd, Nat.reduceMul, Nat.reduceSub]
    refine Runs.split (fun h2 => ?_) (fun h2 => ?_)
    · simp only [decide_eq_true_eq] at h2
      simp +decide only [l7Len, if_neg (show ¬ n < 128 by omega), if_pos (show n < 256 by omega), ib, go_sem, Nat.reduceAdd, Nat.reduceMul, Nat.reduceSub]
      exact Runs.ret_refl
    · simp only [decide_eq_false_iff_not] at h2
      simp +decide only [l7Len, if_neg (show ¬ n < 128 by omega), if_neg (show ¬ n < 256 by omega), ib, shr8n, go_sem, Nat.reduceAdd, Nat.reduceMul, Nat.reduceSub]
      exact Runs.ret_refl
theorem firstK_step {n : Int} {k : Nat} (h : k < 7) : firstK n (7 - k) k = if smallK n k = true then k else firstK n (7 - (k + 1)) (k + 1) := by
  rw [show 7 - k = (7 - (k + 1)) + 1 by omega]
  rfl
theorem u8l (l : List Int) : (l.map u8A).length = l.length := List.length_map _
theorem smallK_iff {n : Int} {k : Nat} : smallK n k = true ↔ -128 ≤ n / 256 ^ k ∧ n / 256 ^ k ≤ 127 := by simp [smallK]
def sIbAnn : Ann := [(0, [0, 3])]
def sIbSt (n : Int) (k : Nat) : St := ⟨[.v (.int .i64 (n / 256 ^ k)), .any, .any, .ms (.l 0) 0 (k + 1) (k + 1), .any, .any, .any, .any, .any, .any, .any, .any, .any, .any, .any, .any, .any, .any, .any, .any, .any], [(0, ⟨true, 1, false, (tailB n k).map u8A⟩)], []⟩
include hm in
theorem sIntBytes (n : Int) (h1 : -9223372036854775808 ≤ n) (h2 : n < 9223372036854775808) : Holds Tryz.prog 97 [.v (.int .i64 n)] [] (.sl (.ow 1) ((intB n).map u8A)) [] := by
  refine holds_of (ann := sIbAnn) tabOk hm Tryz.func97 (by kernel_rfl) rfl ?_
  simp +decide only [Tryz.f97, go_sem, Nat.reduceAdd, Nat.reduceMul, Nat.reduceSub]
  refine Runs.while (α := Nat) (sIbSt n) (fun k => 8 - k) (fun k => k ≤ 7 ∧ firstK n (7 - k) k = kB n) 0 ⟨by omega, rfl⟩ ?_ ?_
  · simp [go_sem, sIbAnn, sIbSt, tailB, ib]
  · rintro k ⟨hk, hr⟩ ih
    have hlen := tailB_length n k
    have htk : ((tailB n k).map u8A).take (k + 1) = (tailB n k).map u8A := List.take_of_length_le (by simp [hlen])
    have hb := divK_bound h1 h2 k
    have stop : smallK n k = true → kB n = k := fun hs => by
      rw [← hr]
      rcases Nat.lt_or_ge k 7 with h | h
      · rw [firstK_step h, if_pos hs]
      · rw [show 7 - k = 0 by omega]; rfl
    have go : smallK n k = false → k < 7 ∧ firstK n (7 - (k + 1)) (k + 1) = kB n := fun hs => by
      have hk7 : k < 7 := by
        rcases Nat.lt_or_ge k 7 with h | h
        · exact h
        · have : k = 7 := by omega
          subst this
          rw [small7 h1 h2] at hs; cases hs
      refine ⟨hk7, ?_⟩
      rw [← hr, firstK_step hk7, hs]
      rfl
    simp +decide only [sIbSt, hlen, go_sem, Nat.reduceAdd, Nat.reduceMul, Nat.reduceSub]
    refine Runs.split (fun h => ?_) (fun h => ?_)
    · simp only [decide_eq_true_eq] at h
      obtain ⟨g1, g2⟩ := go (by rw [Bool.eq_false_iff]; intro hs; rw [smallK_iff] at hs; omega)
      simp +decide (disch := first | omega | (simp only [ll]; omega)) only [shr8, div256, hlen, htk, if_pos, go_sem, Nat.reduceAdd, Nat.reduceMul, Nat.reduceSub]
      refine ih (k + 1) _ (by omega) ⟨by omega, g2⟩ ?_
      simp [go_sem, sIbAnn, sIbSt, tailB_succ, hlen, ib, Nat.add_comm]
    · simp only [decide_eq_false_iff_not] at h
      simp +decide only [go_sem, Nat.reduceAdd, Nat.reduceMul, Nat.reduceSub]
      refine Runs.split (fun h' => ?_) (fun h' => ?_)
      · simp only [decide_eq_true_eq] at h'
        obtain ⟨g1, g2⟩ := go (by rw [Bool.eq_false_iff]; intro hs; rw [smallK_iff] at hs; omega)
        simp +decide (disch := first | omega | (simp only [ll]; omega)) only [shr8, div256, hlen, htk, if_pos, go_sem, Nat.reduceAdd, Nat.reduceMul, Nat.reduceSub]
        refine ih (k + 1) _ (by omega) ⟨by omega, g2⟩ ?_
        simp [go_sem, sIbAnn, sIbSt, tailB_succ, hlen, ib, Nat.add_comm]
      · simp only [decide_eq_false_iff_not] at h'
        have e := stop (by rw [smallK_iff]; omega)
        simp +decide only [hlen, u8l, List.take_length, go_sem, Nat.reduceAdd, Nat.reduceMul, Nat.reduceSub]
        refine Runs.ret_eq ?_
        rw [intB, e]
def iIbAnn : Ann := [(0, [0, 3]), (2, [0, 4, 5])]
def iIbSt (n : Int) (k : Nat) : St := ⟨[.v (.int .i64 n), .any, .any, .v (.int .i64 ((k + 1 : Nat) : Int)), .any, .any, .any, .any, .any, .any, .any, .any, .any, .any, .any, .any, .any, .any, .any, .any, .any, .any, .any, .any, .any, .any, .any, .any, .any, .any, .any, .any, .any, .any, .any, .any, .any, .any, .any, .any, .any, .any], [], []⟩
def iIbL (n : Int) (m j : Nat) : List Int := ((List.range m).reverse.take j).map fun i => ib (n / 256 ^ i)
def iIbSt2 (n : Int) (m j : Nat) : St := ⟨[.v (.int .i64 n), .any, .any, .any, .ms (.l 0) 0 j j, .v (.int .i64 ((m : Int) - j - 1)), .any, .any, .any, .any, .any, .any, .any, .any, .any, .any, .any, .any, .any, .any, .any, .any, .any, .any, .any, .any, .any, .any, .any, .any, .any, .any, .any, .any, .any, .any, .any, .any, .any, .any, .any, .any], [(0, ⟨true, 1, false, (iIbL n m j).map u8A⟩)], []⟩
theorem iIbL_length (n : Int) {m j : Nat} (h : j ≤ m) : (iIbL n m j).length = j := by simp [iIbL]; omega
theorem iIbL_succ (n : Int) {m j : Nat} (h : j < m) : iIbL n m (j + 1) = iIbL n m j ++ [ib (n / 256 ^ (m - j - 1))] := by
  unfold iIbL
  rw [List.take_succ_eq_append_getElem (by simpa using h), List.map_append]
  simp [List.getElem_reverse, show m - 1 - j = m - j - 1 by omega]
theorem iIbL_all (n : Int) (k : Nat) : iIbL n (k + 1) (k + 1) = tailB n k := by
  unfold iIbL tailB
  rw [List.take_of_length_le (by simp)]
theorem shrK (n : Int) (k : Nat) (h : 8 * k ≤ 64) : n.fdiv (2 ^ min (8 * k) 64) = n / 256 ^ k := by
  have e : ∀ k : Nat, (2 : Int) ^ (8 * k) = 256 ^ k := by
    intro k
    induction k with
    | zero => rfl
    | succ k ih =>
      rw [show 8 * (k + 1) = 8 * k + 1 + 1 + 1 + 1 + 1 + 1 + 1 + 1 by omega]
      simp only [Int.pow_succ]
      rw [ih]
      simp only [Int.mul_assoc]
      rfl
  rw [Nat.min_eq_left h, e, Int.fdiv_eq_ediv_of_nonneg _ (Int.le_of_lt (Int.pow_pos (by omega)))]
theorem pow28 (k : Nat) : (2 : Int) ^ (8 * k) = 256 ^ k := by
  induction k with
  | zero => rfl
  | succ k ih =>
    rw [show 8 * (k + 1) = 8 * k + 1 + 1 + 1 + 1 + 1 + 1 + 1 + 1 by omega]
    simp only [Int.pow_succ]
    rw [ih]
    simp only [Int.mul_assoc]
    rfl
theorem shr7 (n : Int) (k : Nat) (h : k ≤ 7) : n.fdiv (2 ^ min (8 * (k + 1) - 1) 64) = n / 256 ^ k / 128 := by
  rw [Nat.min_eq_left (by omega), show 8 * (k + 1) - 1 = 8 * k + 1 + 1 + 1 + 1 + 1 + 1 + 1 by omega]
  rw [Int.fdiv_eq_ediv_of_nonneg _ (Int.le_of_lt (Int.pow_pos (by omega)))]
  rw [Int.ediv_ediv_of_nonneg (Int.pow_nonneg (by omega))]
  congr 1
  simp only [Int.pow_succ]
  rw [pow28]
  simp only [Int.mul_assoc]
  rfl
include hm in
theorem iIntBytes (n : Int) (h1 : -9223372036854775808 ≤ n) (h2 : n < 9223372036854775808) : Holds Tryz.prog 122 [.v (.int .i64 n)] [] (.sl (.ow 1) ((intB n).map u8A)) [] := by
  refine holds_of (ann := iIbAnn) tabOk hm Tryz.func122 (by kernel_rfl) rfl ?_
  simp +decide only [Tryz.f122, go_sem, Nat.reduceAdd, Nat.reduceMul, Nat.reduceSub]
  refine Runs.while (α := Nat) (iIbSt n) (fun k => 8 - k) (fun k => k ≤ 7 ∧ firstK n (7 - k) k = kB n) 0 ⟨by omega, rfl⟩ ?_ ?_
  · simp [go_sem, iIbAnn, iIbSt]
  · rintro k ⟨hk, hr⟩ ih
    have hb := divK_bound h1 h2 k
    have stop : smallK n k = true → kB n = k := fun hs => by
      rw [← hr]
      rcases Nat.lt_or_ge k 7 with h | h
      · rw [firstK_step h, if_pos hs]
      · rw [show 7 - k = 0 by omega]; rfl
    have go : k < 7 → smallK n k = false → firstK n (7 - (k + 1)) (k + 1) = kB n := fun hk7 hs => by
      rw [← hr, firstK_step hk7, hs]
      rfl
    have w1 : IntKind.i64.wrap (8 * ((k + 1 : Nat) : Int)) = ((8 * (k + 1) : Nat) : Int) := by rw [wrap_i64 (by omega) (by omega)]; omega
    have w2 : IntKind.i64.wrap (((8 * (k + 1) : Nat) : Int) - 1) = ((8 * (k + 1) - 1 : Nat) : Int) := by rw [wrap_i64 (by omega) (by omega)]; omega
    simp +decide only [iIbSt, go_sem, Nat.reduceAdd, Nat.reduceMul, Nat.reduceSub]
    have hN := shr7 n k hk
    refine Runs.split (fun h => ?_) (fun h => ?_)
    · simp only [decide_eq_true_eq] at h
      have hk7 : k < 7 := by omega
      simp +decide only [w1, w2, go_sem, Nat.reduceAdd, Nat.reduceMul, Nat.reduceSub]
      refine Runs.chk (by simp <;> omega) ?_
      simp +decide only [hN, go_sem, Nat.reduceAdd, Nat.reduceMul, Nat.reduceSub]
      refine Runs.split (fun h0 => ?_) (fun h0 => ?_)
      · simp only [Bool.not_eq_true', decide_eq_false_iff_not] at h0
        simp +decide only [w1, w2, go_sem, Nat.reduceAdd, Nat.reduceMul, Nat.reduceSub]
        refine Runs.chk (by simp <;> omega) ?_
        simp +decide only [hN, go_sem, Nat.reduceAdd, Nat.reduceMul, Nat.reduceSub]
        refine Runs.split (fun h1' => ?_) (fun h1' => ?_)
        · simp only [Bool.not_eq_true', decide_eq_false_iff_not] at h1'
          have g2 := go hk7 (by rw [Bool.eq_false_iff]; intro hs; rw [smallK_iff] at hs; omega)
          simp +decide (disch := first | omega | (simp only [ll]; omega)) only [if_pos, go_sem, Nat.reduceAdd, Nat.reduceMul, Nat.reduceSub]
          refine ih (k + 1) _ (by omega) ⟨by omega, g2⟩ ?_
          simp [go_sem, iIbAnn, iIbSt]
        · simp only [Bool.not_eq_false', decide_eq_true_eq] at h1'
          have ek := stop (by rw [smallK_iff]; omega)
          simp +decide (disch := first | omega | (simp only [ll]; omega)) only [if_pos, go_sem, Nat.reduceAdd, Nat.reduceMul, Nat.reduceSub]
          refine Runs.while (α := Nat) (iIbSt2 n (k + 1)) (fun j => k + 1 - j) (fun j => j ≤ k + 1) 0 (by omega) ?_ ?_
          · simp [go_sem, iIbAnn, iIbSt2, iIbL]
          · intro j hj ihj
            have hlen := iIbL_length n hj
            simp +decide only [iIbSt2, hlen, go_sem, Nat.reduceAdd, Nat.reduceMul, Nat.reduceSub]
            refine Runs.split (fun h2 => ?_) (fun h2 => ?_)
            · simp only [decide_eq_true_eq] at h2
              have hjk : j < k + 1 := by omega
              have hw : IntKind.i64.wrap (8 * (((k + 1 : Nat) : Int) - j - 1)) = ((8 * (k + 1 - j - 1) : Nat) : Int) := by rw [wrap_i64 (by omega) (by omega)]; omega
              simp +decide only [hw, hlen, go_sem, Nat.reduceAdd, Nat.reduceMul, Nat.reduceSub]
              refine Runs.chk (by simp <;> omega) ?_
              simp +decide (disch := first | omega | (simp only [ll]; omega)) only [shrK n (k + 1 - j - 1) (by omega), hlen, if_pos, go_sem, Nat.reduceAdd, Nat.reduceMul, Nat.reduceSub]
              refine ihj (j + 1) _ (by omega) (by omega) ?_
              simp [go_sem, iIbAnn, iIbSt2, iIbL_succ n hjk, hlen, ib]
              omega
            · simp only [decide_eq_false_iff_not] at h2
              have hjk : j = k + 1 := by omega
              subst hjk
              simp +decide only [iIbL_all, tailB_length, go_sem, Nat.reduceAdd, Nat.reduceMul, Nat.reduceSub]
              refine Runs.ret_eq ?_
              rw [intB, ek]
      · simp only [Bool.not_eq_false', decide_eq_true_eq] at h0
        have ek := stop (by rw [smallK_iff]; omega)
        simp +decide (disch := first | omega | (simp only [ll]; omega)) only [if_pos, go_sem, Nat.reduceAdd, Nat.reduceMul, Nat.reduceSub]
        refine Runs.while (α := Nat) (iIbSt2 n (k + 1)) (fun j => k + 1 - j) (fun j => j ≤ k + 1) 0 (by omega) ?_ ?_
        · simp [go_sem, iIbAnn, iIbSt2, iIbL]
        · intro j hj ihj
          have hlen := iIbL_length n hj
          simp +decide only [iIbSt2, hlen, go_sem, Nat.reduceAdd, Nat.reduceMul, Nat.reduceSub]
          refine Runs.split (fun h2 => ?_) (fun h2 => ?_)
          · simp only [decide_eq_true_eq] at h2
            have hjk : j < k + 1 := by omega
            have hw : IntKind.i64.wrap (8 * (((k + 1 : Nat) : Int) - j - 1)) = ((8 * (k + 1 - j - 1) : Nat) : Int) := by rw [wrap_i64 (by omega) (by omega)]; omega
            simp +decide only [hw, hlen, go_sem, Nat.reduceAdd, Nat.reduceMul, Nat.reduceSub]
            refine Runs.chk (by simp <;> omega) ?_
            simp +decide (disch := first | omega | (simp only [ll]; omega)) only [shrK n (k + 1 - j - 1) (by omega), hlen, if_pos, go_sem, Nat.reduceAdd, Nat.reduceMul, Nat.reduceSub]
            refine ihj (j + 1) _ (by omega) (by omega) ?_
            simp [go_sem, iIbAnn, iIbSt2, iIbL_succ n hjk, hlen, ib]
            omega
          · simp only [decide_eq_false_iff_not] at h2
            have hjk : j = k + 1 := by omega
            subst hjk
            simp +decide only [iIbL_all, tailB_length, go_sem, Nat.reduceAdd, Nat.reduceMul, Nat.reduceSub]
            refine Runs.ret_eq ?_
            rw [intB, ek]
    · simp only [decide_eq_false_iff_not] at h
      have hk7 : k = 7 := by omega
      have s7 : smallK n k = true := by rw [hk7]; exact small7 h1 h2
      rw [smallK_iff] at s7
      have ek := stop (by rw [smallK_iff]; omega)
      simp +decide (disch := first | omega | (simp only [ll]; omega)) only [if_pos, go_sem, Nat.reduceAdd, Nat.reduceMul, Nat.reduceSub]
      refine Runs.while (α := Nat) (iIbSt2 n (k + 1)) (fun j => k + 1 - j) (fun j => j ≤ k + 1) 0 (by omega) ?_ ?_
      · simp [go_sem, iIbAnn, iIbSt2, iIbL]
      · intro j hj ihj
        have hlen := iIbL_length n hj
        simp +decide only [iIbSt2, hlen, go_sem, Nat.reduceAdd, Nat.reduceMul, Nat.reduceSub]
        refine Runs.split (fun h2 => ?_) (fun h2 => ?_)
        · simp only [decide_eq_true_eq] at h2
          have hjk : j < k + 1 := by omega
          have hw : IntKind.i64.wrap (8 * (((k + 1 : Nat) : Int) - j - 1)) = ((8 * (k + 1 - j - 1) : Nat) : Int) := by rw [wrap_i64 (by omega) (by omega)]; omega
          simp +decide only [hw, hlen, go_sem, Nat.reduceAdd, Nat.reduceMul, Nat.reduceSub]
          refine Runs.chk (by simp <;> omega) ?_
          simp +decide (disch := first | omega | (simp only [ll]; omega)) only [shrK n (k + 1 - j - 1) (by omega), hlen, if_pos, go_sem, Nat.reduceAdd, Nat.reduceMul, Nat.reduceSub]
          refine ihj (j + 1) _ (by omega) (by omega) ?_
          simp [go_sem, iIbAnn, iIbSt2, iIbL_succ n hjk, hlen, ib]
          omega
        · simp only [decide_eq_false_iff_not] at h2
          have hjk : j = k + 1 := by omega
          subst hjk
          simp +decide only [iIbL_all, tailB_length, go_sem, Nat.reduceAdd, Nat.reduceMul, Nat.reduceSub]
          refine Runs.ret_eq ?_
          rw [intB, ek]
end Go.Proofs.W

namespace Go.Proofs.W
open Go Go.AM
set_option maxRecDepth 10000
variable (hm : Tryz.prog.follows .mixedOrders = true)
def feb (y : Nat) : Nat := if y % 4 = 0 then 29 else 28
def yl (y : Nat) : Nat := 337 + feb y
def ml (y : Nat) : Nat → Nat
  | 2 => feb y | 4 => 30 | 6 => 30 | 9 => 30 | 11 => 30 | _ => 31
def remM (y : Nat) : Nat → Nat
  | 1 => 337 + feb y | 2 => 306 + feb y | 3 => 306 | 4 => 275 | 5 => 245 | 6 => 214 | 7 => 184 | 8 => 153 | 9 => 122 | 10 => 92 | 11 => 61 | 12 => 31 | _ => 0
theorem feb_pos (y : Nat) : 28 ≤ feb y ∧ feb y ≤ 29 := by unfold feb; split <;> omega
theorem cases12 {m : Nat} (h1 : 1 ≤ m) (h2 : m ≤ 12) : m = 1 ∨ m = 2 ∨ m = 3 ∨ m = 4 ∨ m = 5 ∨ m = 6 ∨ m = 7 ∨ m = 8 ∨ m = 9 ∨ m = 10 ∨ m = 11 ∨ m = 12 := by omega
theorem remM_step (y : Nat) {m : Nat} (h1 : 1 ≤ m) (h2 : m ≤ 12) : remM y m = ml y m + remM y (m + 1) := by
  rcases cases12 h1 h2 with rfl | rfl | rfl | rfl | rfl | rfl | rfl | rfl | rfl | rfl | rfl | rfl <;> simp only [remM, ml] <;> omega
theorem ml_bound (y m : Nat) : 28 ≤ ml y m ∧ ml y m ≤ 31 := by
  have := feb_pos y
  unfold ml
  split <;> omega
def yearGo : Nat → Nat → Nat → Nat × Nat
  | 0, y, d => (y, d)
  | f + 1, y, d => if yl y ≤ d then yearGo f (y + 1) (d - yl y) else (y, d)
def monthGo : Nat → Nat → Nat → Nat → Nat × Nat
  | 0, _, m, d => (m, d)
  | f + 1, y, m, d => if ml y m ≤ d then monthGo f y (m + 1) (d - ml y m) else (m, d)
theorem yearGo_fuel : ∀ (f g y d : Nat), d < f → d < g → yearGo f y d = yearGo g y d
  | f + 1, g + 1, y, d, h1, h2 => by
    simp only [yearGo]
    split
    · have := feb_pos y
      have h3 : 1 ≤ yl y := by unfold yl; omega
      exact yearGo_fuel f g _ _ (by omega) (by omega)
    · rfl
structure DayR where
  y : Nat
  m : Nat
  d : Nat
  s : Nat
def dayP (t : Int) : DayR :=
  if inB t (-631152000) 4102444799 = true then
    let n := (t + 631152000).toNat
    let a := yearGo (n / 86400 + 1) 1950 (n / 86400)
    let b := monthGo 12 a.1 1 a.2
    ⟨a.1, b.1, b.2 + 1, n % 86400⟩
  else ⟨0, 0, 0, 0⟩
def dayA (r : DayR) : A := .tup [.v (.int .i64 r.y), .v (.int .i64 r.m), .v (.int .i64 r.d), .v (.int .i64 r.s)]
theorem yearGo_bound : ∀ (f y d : Nat), (yearGo f y d).1 ≤ y + d ∧ (yearGo f y d).2 ≤ d
  | 0, y, d => by simp [yearGo]
  | f + 1, y, d => by
    simp only [yearGo]
    split
    · have := yearGo_bound f (y + 1) (d - yl y)
      have h3 : 1 ≤ yl y := by unfold yl; omega
      omega
    · simp
theorem monthGo_bound : ∀ (f y m d : Nat), (monthGo f y m d).1 ≤ m + f ∧ (monthGo f y m d).2 ≤ d
  | 0, y, m, d => by simp [monthGo]
  | f + 1, y, m, d => by
    simp only [monthGo]
    split
    · have := monthGo_bound f y (m + 1) (d - ml y m)
      omega
    · simp
theorem inB_iff {n a b : Int} : inB n a b = true ↔ a ≤ n ∧ n ≤ b := by simp [inB]
theorem dayP_bound (t : Int) : (dayP t).y ≤ 100000 ∧ (dayP t).m ≤ 100 ∧ (dayP t).d ≤ 100000 ∧ (dayP t).s ≤ 100000 := by
  unfold dayP
  split
  · rename_i h
    rw [inB_iff] at h
    simp only
    have h1 := yearGo_bound ((t + 631152000).toNat / 86400 + 1) 1950 ((t + 631152000).toNat / 86400)
    have h2 := monthGo_bound 12 (yearGo ((t + 631152000).toNat / 86400 + 1) 1950 ((t + 631152000).toNat / 86400)).1 1 (yearGo ((t + 631152000).toNat / 86400 + 1) 1950 ((t + 631152000).toNat / 86400)).2
    omega
  · simp
include hm in
theorem l9Year (y : Nat) : Holds Tryz.prog 175 [.v (.int .i64 y)] [] (.v (.int .i64 (yl y))) [] := by
  refine holds_of (ann := []) tabOk hm Tryz.func175 (by kernel_rfl) rfl ?_
  have ht : (y : Int).tmod 4 = ((y % 4 : Nat) : Int) := by rw [Int.tmod_eq_emod_of_nonneg (by omega)]; omega
  simp +decide only [Tryz.f175, ht, go_sem, Nat.reduceAdd, Nat.reduceMul, Nat.reduceSub]
  refine Runs.split (fun h => ?_) (fun h => ?_)
  · simp only [decide_eq_true_eq] at h
    simp +decide only [yl, feb, if_pos (show y % 4 = 0 by omega), go_sem, Nat.reduceAdd, Nat.reduceMul, Nat.reduceSub]
    exact Runs.ret_v
  · simp only [decide_eq_false_iff_not] at h
    simp +decide only [yl, feb, if_neg (show ¬ y % 4 = 0 by omega), go_sem, Nat.reduceAdd, Nat.reduceMul, Nat.reduceSub]
    exact Runs.ret_v
include hm in
theorem l9Days (y m : Nat) (h1 : 1 ≤ m) (h2 : m ≤ 12) : Holds Tryz.prog 176 [.v (.int .i64 y), .v (.int .i64 m)] [] (.v (.int .i64 (ml y m))) [] := by
  refine holds_of (ann := []) tabOk hm Tryz.func176 (by kernel_rfl) rfl ?_
  have ht : (y : Int).tmod 4 = ((y % 4 : Nat) : Int) := by rw [Int.tmod_eq_emod_of_nonneg (by omega)]; omega
  rcases cases12 h1 h2 with rfl | rfl | rfl | rfl | rfl | rfl | rfl | rfl | rfl | rfl | rfl | rfl
  case inr.inl =>
    simp +decide (disch := first | omega | (simp only [ll]; omega)) only [Tryz.f176, ht, Int.cast_ofNat_Int, Int.reduceToNat, if_pos, go_sem, Nat.reduceAdd, Nat.reduceMul, Nat.reduceSub]
    refine Runs.split (fun h => ?_) (fun h => ?_)
    · simp only [decide_eq_true_eq] at h
      simp +decide (disch := first | omega | (simp only [ll]; omega)) only [ml, feb, if_pos (show y % 4 = 0 by omega), if_pos, go_sem, Nat.reduceAdd, Nat.reduceMul, Nat.reduceSub]
      exact Runs.ret_v
    · simp only [decide_eq_false_iff_not] at h
      simp +decide (disch := first | omega | (simp only [ll]; omega)) only [ml, feb, if_neg (show ¬ y % 4 = 0 by omega), if_pos, go_sem, Nat.reduceAdd, Nat.reduceMul, Nat.reduceSub]
      exact Runs.ret_v
  all_goals
    simp +decide (disch := first | omega | (simp only [ll]; omega)) only [Tryz.f176, ht, Int.cast_ofNat_Int, Int.reduceToNat, ml, if_pos, go_sem, Nat.reduceAdd, Nat.reduceMul, Nat.reduceSub]
    exact Runs.ret_v
include hm in
theorem daysIn (y m : Nat) (h1 : 1 ≤ m) (h2 : m ≤ 12) : Holds Tryz.prog 200 [.v (.int .i64 y), .v (.int .i64 m)] [] (.v (.int .i64 (ml y m))) [] := by
  refine holds_of (ann := []) tabOk hm Tryz.func200 (by kernel_rfl) rfl ?_
  have ht : (y : Int).tmod 4 = ((y % 4 : Nat) : Int) := by rw [Int.tmod_eq_emod_of_nonneg (by omega)]; omega
  rcases cases12 h1 h2 with rfl | rfl | rfl | rfl | rfl | rfl | rfl | rfl | rfl | rfl | rfl | rfl
  case inr.inl =>
    simp +decide only [Tryz.f200, ht, Int.cast_ofNat_Int, condK_t, condK_f, seqK_n, go_sem, Nat.reduceAdd, Nat.reduceMul, Nat.reduceSub]
    refine Runs.split (fun h => ?_) (fun h => ?_)
    · simp only [decide_eq_true_eq] at h
      simp +decide only [ml, feb, if_pos (show y % 4 = 0 by omega), go_sem, Nat.reduceAdd, Nat.reduceMul, Nat.reduceSub]
      exact Runs.ret_v
    · simp only [decide_eq_false_iff_not] at h
      simp +decide only [ml, feb, if_neg (show ¬ y % 4 = 0 by omega), go_sem, Nat.reduceAdd, Nat.reduceMul, Nat.reduceSub]
      exact Runs.ret_v
  all_goals
    simp +decide only [Tryz.f200, ht, Int.cast_ofNat_Int, ml, go_sem, Nat.reduceAdd, Nat.reduceMul, Nat.reduceSub]
    exact Runs.ret_v
include hm in
theorem daysOf (y : Nat) : Holds Tryz.prog 199 [.v (.int .i64 y)] [] (.v (.int .i64 (yl y))) [] := by
  refine holds_of (ann := []) tabOk hm Tryz.func199 (by kernel_rfl) rfl ?_
  have hb := feb_pos y
  simp +decide only [Tryz.f199, go_sem, Nat.reduceAdd, Nat.reduceMul, Nat.reduceSub]
  refine Runs.call (daysIn hm y 2 (by omega) (by omega)) ?_
  simp +decide (disch := first | omega | (simp only [ll]; omega)) only [ml, if_pos, go_sem, Nat.reduceAdd, Nat.reduceMul, Nat.reduceSub]
  refine Runs.ret_eq ?_
  simp [yl]
def specDayAnn : Ann := [(0, [6, 7, 8]), (2, [6, 7, 8, 9])]
def specDaySt (s : Nat) (p : Nat × Nat) : St := ⟨[.any, .any, .any, .any, .any, .any, .v (.int .i64 p.2), .v (.int .i64 s), .v (.int .i64 p.1), .any, .any, .any, .any, .any, .any, .any, .any, .any, .any, .any, .any, .any, .any, .any, .any, .any, .any, .any, .any, .any, .any, .any, .any, .any, .any, .any, .any, .any, .any, .any, .any, .any, .any, .any, .any, .any], [], []⟩
def specDaySt2 (s y : Nat) (p : Nat × Nat) : St := ⟨[.any, .any, .any, .any, .any, .any, .v (.int .i64 p.2), .v (.int .i64 s), .v (.int .i64 y), .v (.int .i64 p.1), .any, .any, .any, .any, .any, .any, .any, .any, .any, .any, .any, .any, .any, .any, .any, .any, .any, .any, .any, .any, .any, .any, .any, .any, .any, .any, .any, .any, .any, .any, .any, .any, .any, .any, .any, .any], [], []⟩
include hm in
theorem specDayOf (t : Int) : Holds Tryz.prog 137 [.v (.int .i64 t)] [] (dayA (dayP t)) [] := by
  refine holds_of (ann := specDayAnn) tabOk hm Tryz.func137 (by kernel_rfl) rfl ?_
  simp +decide only [Tryz.f137, go_sem, Nat.reduceAdd, Nat.reduceMul, Nat.reduceSub]
  refine Runs.call (l9Ok hm t) ?_
  simp +decide only [go_sem, Nat.reduceAdd, Nat.reduceMul, Nat.reduceSub]
  refine Runs.split (fun h => ?_) (fun h => ?_)
  · simp only [Bool.not_eq_true'] at h
    have e : dayP t = ⟨0, 0, 0, 0⟩ := by simp [dayP, h]
    simp +decide only [e, dayA, go_sem, Nat.reduceAdd, Nat.reduceMul, Nat.reduceSub]
    exact Runs.ret_refl
  · simp only [Bool.not_eq_false'] at h
    obtain ⟨n, hn⟩ : ∃ n, n = (t + 631152000).toNat := ⟨_, rfl⟩
    have hb := inB_iff.1 h
    have e : dayP t = ⟨(yearGo (n / 86400 + 1) 1950 (n / 86400)).1, (monthGo 12 (yearGo (n / 86400 + 1) 1950 (n / 86400)).1 1 (yearGo (n / 86400 + 1) 1950 (n / 86400)).2).1,
        (monthGo 12 (yearGo (n / 86400 + 1) 1950 (n / 86400)).1 1 (yearGo (n / 86400 + 1) 1950 (n / 86400)).2).2 + 1, n % 86400⟩ := by
      unfold dayP
      rw [if_pos h, ← hn]
    have hw : IntKind.i64.wrap (t - -631152000) = (n : Int) := by rw [wrap_i64 (by omega) (by omega)]; omega
    have hq : (n : Int).tdiv 86400 = ((n / 86400 : Nat) : Int) := by rw [Int.tdiv_eq_ediv_of_nonneg (by omega)]; omega
    have hr : (n : Int).tmod 86400 = ((n % 86400 : Nat) : Int) := by rw [Int.tmod_eq_emod_of_nonneg (by omega)]; omega
    obtain ⟨D, hD⟩ : ∃ D, D = n / 86400 := ⟨_, rfl⟩
    obtain ⟨s, hs⟩ : ∃ s, s = n % 86400 := ⟨_, rfl⟩
    have hDl : D ≤ 60000 := by omega
    rw [← hD, ← hs] at e
    rw [← hD] at hq
    rw [← hs] at hr
    simp +decide only [hw, hq, hr, go_sem, Nat.reduceAdd, Nat.reduceMul, Nat.reduceSub]
    rw [wrap_i64 (by omega) (by omega)]
    refine Runs.while (α := Nat × Nat) (specDaySt s) (fun p => p.2) (fun p => p.1 + p.2 ≤ 1950 + D ∧ yearGo (p.2 + 1) p.1 p.2 = yearGo (D + 1) 1950 D) (1950, D) ⟨by simp, rfl⟩ ?_ ?_
    · simp [go_sem, specDayAnn, specDaySt]
    · rintro ⟨y, d⟩ ⟨hy, hg⟩ ih
      simp only at hy hg
      have hf := feb_pos y
      have hyl : yl y = 337 + feb y := rfl
      simp +decide only [specDaySt, go_sem, Nat.reduceAdd, Nat.reduceMul, Nat.reduceSub]
      refine Runs.call (l9Year hm y) ?_
      simp +decide only [go_sem, Nat.reduceAdd, Nat.reduceMul, Nat.reduceSub]
      refine Runs.split (fun h' => ?_) (fun h' => ?_)
      · simp only [decide_eq_true_eq] at h'
        simp +decide only [go_sem, Nat.reduceAdd, Nat.reduceMul, Nat.reduceSub]
        refine Runs.call (l9Year hm y) ?_
        simp +decide (disch := first | omega | (simp only [ll]; omega)) only [if_pos, go_sem, Nat.reduceAdd, Nat.reduceMul, Nat.reduceSub]
        refine ih (y + 1, d - yl y) _ (by simp only; omega) ⟨by simp only; omega, ?_⟩ ?_
        · simp only
          rw [← hg]
          conv => rhs; unfold yearGo
          rw [if_pos (by omega)]
          exact yearGo_fuel _ _ _ _ (by omega) (by omega)
        · simp [go_sem, specDayAnn, specDaySt]
          omega
      · simp only [decide_eq_false_iff_not] at h'
        have hg2 : yearGo (D + 1) 1950 D = (y, d) := by
          rw [← hg]
          unfold yearGo
          rw [if_neg (by omega)]
        rw [hg2] at e
        simp only at e
        simp +decide only [go_sem, Nat.reduceAdd, Nat.reduceMul, Nat.reduceSub]
        refine Runs.while (α := Nat × Nat) (specDaySt2 s y) (fun p => p.2) (fun p => 1 ≤ p.1 ∧ p.1 ≤ 12 ∧ p.2 < remM y p.1 ∧ monthGo (13 - p.1) y p.1 p.2 = monthGo 12 y 1 d) (1, d) ⟨by simp, by simp, by simp only [remM]; omega, rfl⟩ ?_ ?_
        · simp [go_sem, specDayAnn, specDaySt2]
        · rintro ⟨m, c⟩ ⟨hm1, hm2, hm3, hm4⟩ ihm
          simp only at hm1 hm2 hm3 hm4
          have hstep := remM_step y hm1 hm2
          have hml := ml_bound y m
          have hrl : c ≤ 400 := by
            have : remM y m ≤ 366 := by
              rcases cases12 hm1 hm2 with rfl | rfl | rfl | rfl | rfl | rfl | rfl | rfl | rfl | rfl | rfl | rfl <;> simp only [remM] <;> omega
            omega
          simp +decide only [specDaySt2, go_sem, Nat.reduceAdd, Nat.reduceMul, Nat.reduceSub]
          refine Runs.call (l9Days hm y m hm1 hm2) ?_
          simp +decide only [go_sem, Nat.reduceAdd, Nat.reduceMul, Nat.reduceSub]
          refine Runs.split (fun h2 => ?_) (fun h2 => ?_)
          · simp only [decide_eq_true_eq] at h2
            have hlt : m < 12 := by
              rcases Nat.lt_or_ge m 12 with h3 | h3
              · exact h3
              · have : m = 12 := by omega
                subst this
                simp only [remM] at hstep hm3
                omega
            simp +decide only [go_sem, Nat.reduceAdd, Nat.reduceMul, Nat.reduceSub]
            refine Runs.call (l9Days hm y m hm1 hm2) ?_
            simp +decide (disch := first | omega | (simp only [ll]; omega)) only [if_pos, go_sem, Nat.reduceAdd, Nat.reduceMul, Nat.reduceSub]
            refine ihm (m + 1, c - ml y m) _ (by simp only; omega) ⟨by simp only; omega, by simp only; omega, by simp only; omega, ?_⟩ ?_
            · simp only
              rw [← hm4, show 13 - m = (13 - (m + 1)) + 1 by omega]
              conv => rhs; unfold monthGo
              rw [if_pos (by omega)]
            · simp [go_sem, specDayAnn, specDaySt2]
              omega
          · simp only [decide_eq_false_iff_not] at h2
            have hg3 : monthGo 12 y 1 d = (m, c) := by
              rw [← hm4, show 13 - m = (13 - (m + 1)) + 1 by omega]
              unfold monthGo
              rw [if_neg (by omega)]
            rw [hg3] at e
            simp only at e
            simp +decide (disch := first | omega | (simp only [ll]; omega)) only [e, dayA, if_pos, go_sem, Nat.reduceAdd, Nat.reduceMul, Nat.reduceSub]
            refine Runs.ret_eq ?_
            simp
def implDayAnn : Ann := [(0, [6, 7, 8, 9]), (2, [6, 7, 8, 9])]
def implDaySt (s : Nat) (p : Nat × Nat) : St := ⟨[.any, .any, .any, .any, .any, .any, .v (.int .i64 p.2), .v (.int .i64 s), .v (.int .i64 p.1), .v (.int .i64 1), .any, .any, .any, .any, .any, .any, .any, .any, .any, .any, .any, .any, .any, .any, .any, .any, .any, .any, .any, .any, .any, .any, .any, .any, .any, .any, .any, .any, .any, .any, .any, .any, .any, .any, .any, .any], [], []⟩
def implDaySt2 (s y : Nat) (p : Nat × Nat) : St := ⟨[.any, .any, .any, .any, .any, .any, .v (.int .i64 p.2), .v (.int .i64 s), .v (.int .i64 y), .v (.int .i64 p.1), .any, .any, .any, .any, .any, .any, .any, .any, .any, .any, .any, .any, .any, .any, .any, .any, .any, .any, .any, .any, .any, .any, .any, .any, .any, .any, .any, .any, .any, .any, .any, .any, .any, .any, .any, .any], [], []⟩
include hm in
theorem implDayOf (t : Int) : Holds Tryz.prog 161 [.v (.int .i64 t)] [] (dayA (dayP t)) [] := by
  refine holds_of (ann := implDayAnn) tabOk hm Tryz.func161 (by kernel_rfl) rfl ?_
  simp +decide only [Tryz.f161, go_sem, Nat.reduceAdd, Nat.reduceMul, Nat.reduceSub]
  refine Runs.call (isTime hm t) ?_
  simp +decide only [go_sem, Nat.reduceAdd, Nat.reduceMul, Nat.reduceSub]
  refine Runs.split (fun h => ?_) (fun h => ?_)
  · simp only [Bool.not_eq_true'] at h
    have e : dayP t = ⟨0, 0, 0, 0⟩ := by simp [dayP, h]
    simp +decide only [e, dayA, go_sem, Nat.reduceAdd, Nat.reduceMul, Nat.reduceSub]
    exact Runs.ret_refl
  · simp only [Bool.not_eq_false'] at h
    obtain ⟨n, hn⟩ : ∃ n, n = (t + 631152000).toNat := ⟨_, rfl⟩
    have hb := inB_iff.1 h
    have e : dayP t = ⟨(yearGo (n / 86400 + 1) 1950 (n / 86400)).1, (monthGo 12 (yearGo (n / 86400 + 1) 1950 (n / 86400)).1 1 (yearGo (n / 86400 + 1) 1950 (n / 86400)).2).1,
        (monthGo 12 (yearGo (n / 86400 + 1) 1950 (n / 86400)).1 1 (yearGo (n / 86400 + 1) 1950 (n / 86400)).2).2 + 1, n % 86400⟩ := by
      unfold dayP
      rw [if_pos h, ← hn]
    have hw : IntKind.i64.wrap (t - -631152000) = (n : Int) := by rw [wrap_i64 (by omega) (by omega)]; omega
    have hq : (n : Int).tdiv 86400 = ((n / 86400 : Nat) : Int) := by rw [Int.tdiv_eq_ediv_of_nonneg (by omega)]; omega
    have hr : (n : Int).tmod 86400 = ((n % 86400 : Nat) : Int) := by rw [Int.tmod_eq_emod_of_nonneg (by omega)]; omega
    obtain ⟨D, hD⟩ : ∃ D, D = n / 86400 := ⟨_, rfl⟩
    obtain ⟨s, hs⟩ : ∃ s, s = n % 86400 := ⟨_, rfl⟩
    have hDl : D ≤ 60000 := by omega
    rw [← hD, ← hs] at e
    rw [← hD] at hq
    rw [← hs] at hr
    simp +decide only [hw, hq, hr, go_sem, Nat.reduceAdd, Nat.reduceMul, Nat.reduceSub]
    rw [wrap_i64 (by omega) (by omega)]
    refine Runs.while (α := Nat × Nat) (implDaySt s) (fun p => p.2) (fun p => p.1 + p.2 ≤ 1950 + D ∧ yearGo (p.2 + 1) p.1 p.2 = yearGo (D + 1) 1950 D) (1950, D) ⟨by simp, rfl⟩ ?_ ?_
    · simp [go_sem, implDayAnn, implDaySt]
    · rintro ⟨y, d⟩ ⟨hy, hg⟩ ih
      simp only at hy hg
      have hf := feb_pos y
      have hyl : yl y = 337 + feb y := rfl
      simp +decide only [implDaySt, go_sem, Nat.reduceAdd, Nat.reduceMul, Nat.reduceSub]
      refine Runs.call (daysOf hm y) ?_
      simp +decide only [go_sem, Nat.reduceAdd, Nat.reduceMul, Nat.reduceSub]
      refine Runs.split (fun h' => ?_) (fun h' => ?_)
      · simp only [decide_eq_true_eq] at h'
        simp +decide only [go_sem, Nat.reduceAdd, Nat.reduceMul, Nat.reduceSub]
        refine Runs.call (daysOf hm y) ?_
        simp +decide (disch := first | omega | (simp only [ll]; omega)) only [if_pos, go_sem, Nat.reduceAdd, Nat.reduceMul, Nat.reduceSub]
        refine ih (y + 1, d - yl y) _ (by simp only; omega) ⟨by simp only; omega, ?_⟩ ?_
        · simp only
          rw [← hg]
          conv => rhs; unfold yearGo
          rw [if_pos (by omega)]
          exact yearGo_fuel _ _ _ _ (by omega) (by omega)
        · simp [go_sem, implDayAnn, implDaySt]
          omega
      · simp only [decide_eq_false_iff_not] at h'
        have hg2 : yearGo (D + 1) 1950 D = (y, d) := by
          rw [← hg]
          unfold yearGo
          rw [if_neg (by omega)]
        rw [hg2] at e
        simp only at e
        simp +decide only [go_sem, Nat.reduceAdd, Nat.reduceMul, Nat.reduceSub]
        refine Runs.while (α := Nat × Nat) (implDaySt2 s y) (fun p => p.2) (fun p => 1 ≤ p.1 ∧ p.1 ≤ 12 ∧ p.2 < remM y p.1 ∧ monthGo (13 - p.1) y p.1 p.2 = monthGo 12 y 1 d) (1, d) ⟨by simp, by simp, by simp only [remM]; omega, rfl⟩ ?_ ?_
        · simp [go_sem, implDayAnn, implDaySt2]
        · rintro ⟨m, c⟩ ⟨hm1, hm2, hm3, hm4⟩ ihm
          simp only at hm1 hm2 hm3 hm4
          have hstep := remM_step y hm1 hm2
          have hml := ml_bound y m
          have hrl : c ≤ 400 := by
            have : remM y m ≤ 366 := by
              rcases cases12 hm1 hm2 with rfl | rfl | rfl | rfl | rfl | rfl | rfl | rfl | rfl | rfl | rfl | rfl <;> simp only [remM] <;> omega
            omega
          simp +decide only [implDaySt2, go_sem, Nat.reduceAdd, Nat.reduceMul, Nat.reduceSub]
          refine Runs.call (daysIn hm y m hm1 hm2) ?_
          simp +decide only [go_sem, Nat.reduceAdd, Nat.reduceMul, Nat.reduceSub]
          refine Runs.split (fun h2 => ?_) (fun h2 => ?_)
          · simp only [decide_eq_true_eq] at h2
            have hlt : m < 12 := by
              rcases Nat.lt_or_ge m 12 with h3 | h3
              · exact h3
              · have : m = 12 := by omega
                subst this
                simp only [remM] at hstep hm3
                omega
            simp +decide only [go_sem, Nat.reduceAdd, Nat.reduceMul, Nat.reduceSub]
            refine Runs.call (daysIn hm y m hm1 hm2) ?_
            simp +decide (disch := first | omega | (simp only [ll]; omega)) only [if_pos, go_sem, Nat.reduceAdd, Nat.reduceMul, Nat.reduceSub]
            refine ihm (m + 1, c - ml y m) _ (by simp only; omega) ⟨by simp only; omega, by simp only; omega, by simp only; omega, ?_⟩ ?_
            · simp only
              rw [← hm4, show 13 - m = (13 - (m + 1)) + 1 by omega]
              conv => rhs; unfold monthGo
              rw [if_pos (by omega)]
            · simp [go_sem, implDayAnn, implDaySt2]
              omega
          · simp only [decide_eq_false_iff_not] at h2
            have hg3 : monthGo 12 y 1 d = (m, c) := by
              rw [← hm4, show 13 - m = (13 - (m + 1)) + 1 by omega]
              unfold monthGo
              rw [if_neg (by omega)]
            rw [hg3] at e
            simp only at e
            simp +decide (disch := first | omega | (simp only [ll]; omega)) only [e, dayA, if_pos, go_sem, Nat.reduceAdd, Nat.reduceMul, Nat.reduceSub]
            refine Runs.ret_eq ?_
            simp
end Go.Proofs.W

namespace Go.Proofs.W
open Go Go.AM
set_option maxRecDepth 10000
variable (hm : Tryz.prog.follows .mixedOrders = true)
def two (n : Nat) : ByteArray := ⟨#[UInt8.ofNat (48 + n / 10 % 10), UInt8.ofNat (48 + n % 10)]⟩
theorem two_size (n : Nat) : (two n).size = 2 := rfl
def restT (m d s : Nat) : ByteArray := two m ++ two d ++ two (s / 3600) ++ two (s / 60 % 60) ++ two (s % 60) ++ ⟨#[90]⟩
theorem z_size : (ByteArray.mk #[90]).size = 1 := rfl
theorem restT_size (m d s : Nat) : (restT m d s).size = 11 := by simp [restT, two_size, z_size]
attribute [local go_sem] two_size z_size restT_size
def shortOk (t : Int) : Bool := inB (dayP t).y 1950 2049
def shortT (t : Int) : ByteArray := if shortOk t = true then two (dayP t).y ++ restT (dayP t).m (dayP t).d (dayP t).s else ⟨#[]⟩
def longOk (t : Int) : Bool := !decide (((dayP t).y : Int) = 0)
def longT (t : Int) : ByteArray := if longOk t = true then two ((dayP t).y / 100) ++ two (dayP t).y ++ restT (dayP t).m (dayP t).d (dayP t).s else ⟨#[]⟩
theorem tdivN (n k : Nat) : (n : Int).tdiv (k : Int) = ((n / k : Nat) : Int) := by rw [Int.tdiv_eq_ediv_of_nonneg (by omega)]; rfl
theorem tmodN (n k : Nat) : (n : Int).tmod (k : Int) = ((n % k : Nat) : Int) := by rw [Int.tmod_eq_emod_of_nonneg (by omega)]; rfl
include hm in
theorem specTwo (n : Nat) (h : n ≤ 4611686018427387904) : Holds Tryz.prog 138 [.v (.int .i64 n)] [] (.v (.string (two n))) [] := by
  refine holds_of (ann := []) tabOk hm Tryz.func138 (by kernel_rfl) rfl ?_
  have h1 : (n : Int).tdiv 10 = ((n / 10 : Nat) : Int) := tdivN n 10
  have h2 : ((n / 10 : Nat) : Int).tmod 10 = ((n / 10 % 10 : Nat) : Int) := tmodN (n / 10) 10
  have h3 : (n : Int).tmod 10 = ((n % 10 : Nat) : Int) := tmodN n 10
  have w1 : IntKind.i64.wrap ((n / 10 : Nat) : Int) = ((n / 10 : Nat) : Int) := wrap_i64 (by omega) (by omega)
  have w2 : IntKind.i64.wrap (48 + ((n / 10 % 10 : Nat) : Int)) = ((48 + n / 10 % 10 : Nat) : Int) := by rw [wrap_i64 (by omega) (by omega)]; omega
  have w3 : IntKind.i64.wrap (48 + ((n % 10 : Nat) : Int)) = ((48 + n % 10 : Nat) : Int) := by rw [wrap_i64 (by omega) (by omega)]; omega
  have w4 : IntKind.u8.wrap ((48 + n / 10 % 10 : Nat) : Int) = ((48 + n / 10 % 10 : Nat) : Int) := wrap_u8 (by omega) (by omega)
  have w5 : IntKind.u8.wrap ((48 + n % 10 : Nat) : Int) = ((48 + n % 10 : Nat) : Int) := wrap_u8 (by omega) (by omega)
  have b1 : (0 ≤ ((48 + n / 10 % 10 : Nat) : Int) ∧ ((48 + n / 10 % 10 : Nat) : Int) < 256) := by omega
  have b2 : (0 ≤ ((48 + n % 10 : Nat) : Int) ∧ ((48 + n % 10 : Nat) : Int) < 256) := by omega
  simp +decide only [Tryz.f138, h1, h2, h3, w1, w2, w3, w4, w5, b1, b2, go_sem, Nat.reduceAdd, Nat.reduceMul, Nat.reduceSub]
  exact Runs.ret_v
include hm in
theorem specRest (m d s : Nat) (hm1 : m ≤ 4611686018427387904) (hd : d ≤ 4611686018427387904) (hs : s ≤ 4611686018427387904) : Holds Tryz.prog 139 [.v (.int .i64 m), .v (.int .i64 d), .v (.int .i64 s)] [] (.v (.string (restT m d s))) [] := by
  refine holds_of (ann := []) tabOk hm Tryz.func139 (by kernel_rfl) rfl ?_
  have h1 : (s : Int).tdiv 3600 = ((s / 3600 : Nat) : Int) := tdivN s 3600
  have h2 : (s : Int).tdiv 60 = ((s / 60 : Nat) : Int) := tdivN s 60
  have h3 : ((s / 60 : Nat) : Int).tmod 60 = ((s / 60 % 60 : Nat) : Int) := tmodN (s / 60) 60
  have h4 : (s : Int).tmod 60 = ((s % 60 : Nat) : Int) := tmodN s 60
  have w1 : IntKind.i64.wrap ((s / 3600 : Nat) : Int) = ((s / 3600 : Nat) : Int) := wrap_i64 (by omega) (by omega)
  have w2 : IntKind.i64.wrap ((s / 60 : Nat) : Int) = ((s / 60 : Nat) : Int) := wrap_i64 (by omega) (by omega)
  simp +decide only [Tryz.f139, go_sem, Nat.reduceAdd, Nat.reduceMul, Nat.reduceSub]
  refine Runs.call (specTwo hm m hm1) ?_
  simp +decide only [go_sem, Nat.reduceAdd, Nat.reduceMul, Nat.reduceSub]
  refine Runs.call (specTwo hm d hd) ?_
  simp +decide only [h1, w1, go_sem, Nat.reduceAdd, Nat.reduceMul, Nat.reduceSub]
  refine Runs.call (specTwo hm (s / 3600) (by omega)) ?_
  simp +decide only [h2, w2, h3, go_sem, Nat.reduceAdd, Nat.reduceMul, Nat.reduceSub]
  refine Runs.call (specTwo hm (s / 60 % 60) (by omega)) ?_
  simp +decide only [h4, go_sem, Nat.reduceAdd, Nat.reduceMul, Nat.reduceSub]
  refine Runs.call (specTwo hm (s % 60) (by omega)) ?_
  simp +decide only [go_sem, Nat.reduceAdd, Nat.reduceMul, Nat.reduceSub]
  exact Runs.ret_v
include hm in
theorem specShort (t : Int) : Holds Tryz.prog 98 [.v (.int .i64 t)] [] (.tup [.v (.string (shortT t)), .v (.bool (shortOk t))]) [] := by
  refine holds_of (ann := []) tabOk hm Tryz.func98 (by kernel_rfl) rfl ?_
  obtain ⟨b1, b2, b3, b4⟩ := dayP_bound t
  simp +decide only [Tryz.f98, go_sem, Nat.reduceAdd, Nat.reduceMul, Nat.reduceSub]
  refine Runs.call (specDayOf hm t) ?_
  simp +decide only [dayA, go_sem, Nat.reduceAdd, Nat.reduceMul, Nat.reduceSub]
  refine Runs.call (l1In hm _ 1950 2049) ?_
  simp +decide only [go_sem, Nat.reduceAdd, Nat.reduceMul, Nat.reduceSub]
  refine Runs.split (fun h => ?_) (fun h => ?_)
  · simp only [Bool.not_eq_true'] at h
    have e : shortOk t = false := h
    simp +decide only [shortT, e, go_sem, Nat.reduceAdd, Nat.reduceMul, Nat.reduceSub]
    exact Runs.ret_refl
  · simp only [Bool.not_eq_false'] at h
    have e : shortOk t = true := h
    simp +decide only [go_sem, Nat.reduceAdd, Nat.reduceMul, Nat.reduceSub]
    refine Runs.call (specTwo hm _ (by omega)) ?_
    simp +decide only [go_sem, Nat.reduceAdd, Nat.reduceMul, Nat.reduceSub]
    refine Runs.call (specRest hm _ _ _ (by omega) (by omega) (by omega)) ?_
    simp +decide only [shortT, e, go_sem, Nat.reduceAdd, Nat.reduceMul, Nat.reduceSub]
    exact Runs.ret_refl
include hm in
theorem specLong (t : Int) : Holds Tryz.prog 99 [.v (.int .i64 t)] [] (.tup [.v (.string (longT t)), .v (.bool (longOk t))]) [] := by
  refine holds_of (ann := []) tabOk hm Tryz.func99 (by kernel_rfl) rfl ?_
  obtain ⟨b1, b2, b3, b4⟩ := dayP_bound t
  simp +decide only [Tryz.f99, go_sem, Nat.reduceAdd, Nat.reduceMul, Nat.reduceSub]
  refine Runs.call (specDayOf hm t) ?_
  simp +decide only [dayA, go_sem, Nat.reduceAdd, Nat.reduceMul, Nat.reduceSub]
  refine Runs.split (fun h => ?_) (fun h => ?_)
  · have e : longOk t = false := by rw [longOk, h]; rfl
    simp +decide only [longT, e, go_sem, Nat.reduceAdd, Nat.reduceMul, Nat.reduceSub]
    exact Runs.ret_refl
  · have e : longOk t = true := by rw [longOk, h]; rfl
    have h1 : ((dayP t).y : Int).tdiv 100 = (((dayP t).y / 100 : Nat) : Int) := tdivN _ 100
    have w1 : IntKind.i64.wrap (((dayP t).y / 100 : Nat) : Int) = (((dayP t).y / 100 : Nat) : Int) := wrap_i64 (by omega) (by omega)
    simp +decide only [h1, w1, go_sem, Nat.reduceAdd, Nat.reduceMul, Nat.reduceSub]
    refine Runs.call (specTwo hm _ (by omega)) ?_
    simp +decide only [go_sem, Nat.reduceAdd, Nat.reduceMul, Nat.reduceSub]
    refine Runs.call (specTwo hm _ (by omega)) ?_
    simp +decide only [go_sem, Nat.reduceAdd, Nat.reduceMul, Nat.reduceSub]
    refine Runs.call (specRest hm _ _ _ (by omega) (by omega) (by omega)) ?_
    simp +decide only [longT, e, go_sem, Nat.reduceAdd, Nat.reduceMul, Nat.reduceSub]
    exact Runs.ret_refl
include hm in
theorem implTwo (n : Nat) (h : n ≤ 4611686018427387904) : Holds Tryz.prog 162 [.v (.int .i64 n)] [] (.v (.string (two n))) [] := by
  refine holds_of (ann := []) tabOk hm Tryz.func162 (by kernel_rfl) rfl ?_
  have h1 : (n : Int).tdiv 10 = ((n / 10 : Nat) : Int) := tdivN n 10
  have h2 : ((n / 10 : Nat) : Int).tmod 10 = ((n / 10 % 10 : Nat) : Int) := tmodN (n / 10) 10
  have h3 : (n : Int).tmod 10 = ((n % 10 : Nat) : Int) := tmodN n 10
  have w1 : IntKind.i64.wrap ((n / 10 : Nat) : Int) = ((n / 10 : Nat) : Int) := wrap_i64 (by omega) (by omega)
  have w2 : IntKind.i64.wrap (48 + ((n / 10 % 10 : Nat) : Int)) = ((48 + n / 10 % 10 : Nat) : Int) := by rw [wrap_i64 (by omega) (by omega)]; omega
  have w3 : IntKind.i64.wrap (48 + ((n % 10 : Nat) : Int)) = ((48 + n % 10 : Nat) : Int) := by rw [wrap_i64 (by omega) (by omega)]; omega
  have w4 : IntKind.u8.wrap ((48 + n / 10 % 10 : Nat) : Int) = ((48 + n / 10 % 10 : Nat) : Int) := wrap_u8 (by omega) (by omega)
  have w5 : IntKind.u8.wrap ((48 + n % 10 : Nat) : Int) = ((48 + n % 10 : Nat) : Int) := wrap_u8 (by omega) (by omega)
  have b1 : (0 ≤ ((48 + n / 10 % 10 : Nat) : Int) ∧ ((48 + n / 10 % 10 : Nat) : Int) < 256) := by omega
  have b2 : (0 ≤ ((48 + n % 10 : Nat) : Int) ∧ ((48 + n % 10 : Nat) : Int) < 256) := by omega
  simp +decide only [Tryz.f162, h1, h2, h3, w1, w2, w3, w4, w5, b1, b2, go_sem, Nat.reduceAdd, Nat.reduceMul, Nat.reduceSub]
  exact Runs.ret_v
include hm in
theorem implRest (m d s : Nat) (hm1 : m ≤ 4611686018427387904) (hd : d ≤ 4611686018427387904) (hs : s ≤ 4611686018427387904) : Holds Tryz.prog 163 [.v (.int .i64 m), .v (.int .i64 d), .v (.int .i64 s)] [] (.v (.string (restT m d s))) [] := by
  refine holds_of (ann := []) tabOk hm Tryz.func163 (by kernel_rfl) rfl ?_
  have h1 : (s : Int).tdiv 3600 = ((s / 3600 : Nat) : Int) := tdivN s 3600
  have h2 : (s : Int).tdiv 60 = ((s / 60 : Nat) : Int) := tdivN s 60
  have h3 : ((s / 60 : Nat) : Int).tmod 60 = ((s / 60 % 60 : Nat) : Int) := tmodN (s / 60) 60
  have h4 : (s : Int).tmod 60 = ((s % 60 : Nat) : Int) := tmodN s 60
  have w1 : IntKind.i64.wrap ((s / 3600 : Nat) : Int) = ((s / 3600 : Nat) : Int) := wrap_i64 (by omega) (by omega)
  have w2 : IntKind.i64.wrap ((s / 60 : Nat) : Int) = ((s / 60 : Nat) : Int) := wrap_i64 (by omega) (by omega)
  simp +decide only [Tryz.f163, go_sem, Nat.reduceAdd, Nat.reduceMul, Nat.reduceSub]
  refine Runs.call (implTwo hm m hm1) ?_
  simp +decide only [go_sem, Nat.reduceAdd, Nat.reduceMul, Nat.reduceSub]
  refine Runs.call (implTwo hm d hd) ?_
  simp +decide only [h1, w1, go_sem, Nat.reduceAdd, Nat.reduceMul, Nat.reduceSub]
  refine Runs.call (implTwo hm (s / 3600) (by omega)) ?_
  simp +decide only [h2, w2, h3, go_sem, Nat.reduceAdd, Nat.reduceMul, Nat.reduceSub]
  refine Runs.call (implTwo hm (s / 60 % 60) (by omega)) ?_
  simp +decide only [h4, go_sem, Nat.reduceAdd, Nat.reduceMul, Nat.reduceSub]
  refine Runs.call (implTwo hm (s % 60) (by omega)) ?_
  simp +decide only [go_sem, Nat.reduceAdd, Nat.reduceMul, Nat.reduceSub]
  exact Runs.ret_v
include hm in
theorem implShort (t : Int) : Holds Tryz.prog 123 [.v (.int .i64 t)] [] (.tup [.v (.string (shortT t)), .v (.bool (shortOk t))]) [] := by
  refine holds_of (ann := []) tabOk hm Tryz.func123 (by kernel_rfl) rfl ?_
  obtain ⟨b1, b2, b3, b4⟩ := dayP_bound t
  simp +decide only [Tryz.f123, go_sem, Nat.reduceAdd, Nat.reduceMul, Nat.reduceSub]
  refine Runs.call (implDayOf hm t) ?_
  simp +decide only [dayA, go_sem, Nat.reduceAdd, Nat.reduceMul, Nat.reduceSub]
  refine Runs.call (within hm _ 1950 2049) ?_
  simp +decide only [go_sem, Nat.reduceAdd, Nat.reduceMul, Nat.reduceSub]
  refine Runs.split (fun h => ?_) (fun h => ?_)
  · simp only [Bool.not_eq_true'] at h
    have e : shortOk t = false := h
    simp +decide only [shortT, e, go_sem, Nat.reduceAdd, Nat.reduceMul, Nat.reduceSub]
    exact Runs.ret_refl
  · simp only [Bool.not_eq_false'] at h
    have e : shortOk t = true := h
    simp +decide only [go_sem, Nat.reduceAdd, Nat.reduceMul, Nat.reduceSub]
    refine Runs.call (implTwo hm _ (by omega)) ?_
    simp +decide only [go_sem, Nat.reduceAdd, Nat.reduceMul, Nat.reduceSub]
    refine Runs.call (implRest hm _ _ _ (by omega) (by omega) (by omega)) ?_
    simp +decide only [shortT, e, go_sem, Nat.reduceAdd, Nat.reduceMul, Nat.reduceSub]
    exact Runs.ret_refl
include hm in
theorem implLong (t : Int) : Holds Tryz.prog 124 [.v (.int .i64 t)] [] (.tup [.v (.string (longT t)), .v (.bool (longOk t))]) [] := by
  refine holds_of (ann := []) tabOk hm Tryz.func124 (by kernel_rfl) rfl ?_
  obtain ⟨b1, b2, b3, b4⟩ := dayP_bound t
  simp +decide only [Tryz.f124, go_sem, Nat.reduceAdd, Nat.reduceMul, Nat.reduceSub]
  refine Runs.call (implDayOf hm t) ?_
  simp +decide only [dayA, go_sem, Nat.reduceAdd, Nat.reduceMul, Nat.reduceSub]
  refine Runs.split (fun h => ?_) (fun h => ?_)
  · have e : longOk t = false := by rw [longOk, h]; rfl
    simp +decide only [longT, e, go_sem, Nat.reduceAdd, Nat.reduceMul, Nat.reduceSub]
    exact Runs.ret_refl
  · have e : longOk t = true := by rw [longOk, h]; rfl
    have h1 : ((dayP t).y : Int).tdiv 100 = (((dayP t).y / 100 : Nat) : Int) := tdivN _ 100
    have w1 : IntKind.i64.wrap (((dayP t).y / 100 : Nat) : Int) = (((dayP t).y / 100 : Nat) : Int) := wrap_i64 (by omega) (by omega)
    simp +decide only [h1, w1, go_sem, Nat.reduceAdd, Nat.reduceMul, Nat.reduceSub]
    refine Runs.call (implTwo hm _ (by omega)) ?_
    simp +decide only [go_sem, Nat.reduceAdd, Nat.reduceMul, Nat.reduceSub]
    refine Runs.call (implTwo hm _ (by omega)) ?_
    simp +decide only [go_sem, Nat.reduceAdd, Nat.reduceMul, Nat.reduceSub]
    refine Runs.call (implRest hm _ _ _ (by omega) (by omega) (by omega)) ?_
    simp +decide only [longT, e, go_sem, Nat.reduceAdd, Nat.reduceMul, Nat.reduceSub]
    exact Runs.ret_refl
end Go.Proofs.W

namespace Go.Proofs.W
open Go Go.AM
set_option maxRecDepth 10000
variable (hm : Tryz.prog.follows .mixedOrders = true)
structure It where
  tag : Int
  body : List Int
  kids : Int
def itemS (x : It) : A := .agg [.v (.int .i64 x.tag), .sl .sh (x.body.map u8A), .v (.int .i64 x.kids)]
def itemO (x : It) : A := .agg [.v (.int .i64 x.tag), .sl (.ow 1) (x.body.map u8A), .v (.int .i64 x.kids)]
theorem dn_itemS (L : List It) : dnL (L.map itemS) = L.map itemS := by rw [dnL_map]; simp [itemS, A.dn, dnL, dn_u8A]
theorem dn_itemO (L : List It) : dnL (L.map itemO) = L.map itemS := by rw [dnL_map]; simp [itemO, itemS, A.dn, dnL, dn_u8A]
theorem md_itemO (L : List It) : mdL (L.map itemO) = L.map itemO := by rw [mdL_eq, List.map_map]; simp [itemO, A.md, mdL, md_u8A]
theorem fr_itemO (L : List It) : freeL (L.map itemO) = true := by
  induction L with
  | nil => rfl
  | cons a l ih => simp [freeL, ih, itemO, A.free, fr_u8A]
theorem c3_itemO (L : List It) : (L.map itemO).all (fun a => a.cells.length == 3) = true := by simp [itemO, A.cells]
theorem pl1_itemO (x : It) : (itemO x).plain = false := by simp [plainL, itemO, A.plain, Sh.own]
theorem c_itemO (x : It) : (itemO x).cells.length = 3 := rfl
theorem fr1_itemO (x : It) : (itemO x).free = true := by simp [itemO, A.free, freeL, fr_u8A]
theorem md1_itemO (x : It) : (itemO x).md = itemO x := by simp [itemO, A.md, mdL, md_u8A]
theorem dn1_itemO (x : It) : (itemO x).dn = itemS x := by simp [itemO, itemS, A.dn, dnL, dn_u8A]
attribute [go_sem] pl1_itemO c_itemO fr1_itemO md1_itemO dn1_itemO dn_itemS dn_itemO md_itemO fr_itemO c3_itemO
include hm in
theorem l10Item (t : Int) (B : List Int) : Holds Tryz.prog 21 [.v (.int .i64 t), .sl (.ow 1) (B.map u8A)] [] (.sl (.ow 3) [itemO ⟨t, B, 0⟩]) [] := by
  refine holds_of (ann := []) tabOk hm Tryz.func21 (by kernel_rfl) rfl ?_
  simp +decide only [Tryz.f21, itemO, go_sem, Nat.reduceAdd, Nat.reduceMul, Nat.reduceSub]
  exact Runs.ret_refl
include hm in
theorem l10Int (n : Int) (h1 : -9223372036854775808 ≤ n) (h2 : n < 9223372036854775808) : Holds Tryz.prog 47 [.v (.int .i64 n)] [] (.sl (.ow 3) [itemO ⟨2, intB n, 0⟩]) [] := by
  refine holds_ref (ann := []) tabOk hm (byL [] [21]) Tryz.func47 (by kernel_rfl) rfl ?_
  simp +decide only [Tryz.f47, go_sem, Nat.reduceAdd, Nat.reduceMul, Nat.reduceSub]
  refine Runs.call (sIntBytes hm n h1 h2) ?_
  simp +decide only [go_sem, Nat.reduceAdd, Nat.reduceMul, Nat.reduceSub]
  refine Runs.call (l10Item hm 2 (intB n)) ?_
  simp +decide only [itemO, go_sem, Nat.reduceAdd, Nat.reduceMul, Nat.reduceSub]
  exact Runs.ret_refl
include hm in
theorem l10Made (t k : Int) (L : List It) (h : L.length ≤ 1000000) : Holds Tryz.prog 19 [.v (.int .i64 t), .v (.int .i64 k), .sl (.ow 3) (L.map itemO)] [] (.sl (.ow 3) (itemO ⟨t, [], k⟩ :: L.map itemO)) [] := by
  refine holds_of (ann := []) tabOk hm Tryz.func19 (by kernel_rfl) rfl ?_
  have le : ∀ (l : List A), Le (.sl (.ow 3) (.agg [.v (.int .i64 t), .v (.slice none 0 0), .v (.int .i64 k)] :: l)) (.sl (.ow 3) (itemO ⟨t, [], k⟩ :: l)) := fun l =>
    .sl _ (.agg (.same _ (.nils _ (.same _ .nil))) (LeD.refl _)) .nil
  cases L with
  | nil =>
    simp +decide only [Tryz.f19, List.map_nil, go_sem, Nat.reduceAdd, Nat.reduceMul, Nat.reduceSub]
    exact Runs.ret (le _) rfl
  | cons x L =>
    simp only [List.length_cons] at h
    simp +decide (disch := first | omega | (simp only [ll]; omega)) only [Tryz.f19, List.map_cons, show 1 + (L.length + 1) = L.length + 1 + 1 by omega, if_pos, go_sem, Nat.reduceAdd, Nat.reduceMul, Nat.reduceSub]
    exact Runs.ret (le _) rfl
def sTxAnn : Ann := [(0, [0, 1, 5, 6])]
def txtI (t : Int) (s : ByteArray) : It := ⟨t, bytesI s, 0⟩
def sTxSt (t : Int) (L : List ByteArray) (i : Nat) : St := ⟨[.v (.int .i64 t), .sl .sh (L.map strA), .any, .any, .any, .ms (.l 0) 0 i i, .v (.int .i64 i), .any, .any, .any, .any, .any, .any, .any, .any, .any, .any, .any, .any, .any, .any, .any, .any, .any, .any], [(0, ⟨true, 3, false, mpre (fun s => itemO (txtI t s)) L i⟩)], []⟩
include hm in
theorem l10Texts (t : Int) (L : List ByteArray) (h : L.length ≤ 1000000) (h4 : ∀ s ∈ L, s.size ≤ 1073741824) : Holds Tryz.prog 48 [.v (.int .i64 t), .sl .sh (L.map strA)] [] (.sl (.ow 3) ((L.map (txtI t)).map itemO)) [] := by
  refine holds_of (ann := sTxAnn) tabOk hm Tryz.func48 (by kernel_rfl) rfl ?_
  simp +decide only [Tryz.f48, go_sem, Nat.reduceAdd, Nat.reduceMul, Nat.reduceSub]
  refine Runs.while (α := Nat) (sTxSt t L) (fun i => L.length - i) (fun i => i ≤ L.length) 0 (by omega) ?_ ?_
  · simp [go_sem, sTxAnn, sTxSt, mpre_zero]
  · intro i hi ih
    have hlen := mpre_length (fun s => itemO (txtI t s)) hi
    simp +decide only [sTxSt, go_sem, Nat.reduceAdd, Nat.reduceMul, Nat.reduceSub]
    refine Runs.split (fun h => ?_) (fun h => ?_)
    · have hlt : i < L.length := by simpa using h
      have hs := h4 L[i] (List.getElem_mem hlt)
      simp +decide (disch := first | omega | (simp only [ll]; omega)) only [hlen, if_pos, go_sem, Nat.reduceAdd, Nat.reduceMul, Nat.reduceSub]
      refine ih (i + 1) _ (by omega) (by omega) ?_
      simp [go_sem, sTxAnn, sTxSt, mpre_succ _ hlt, txtI, itemO]
    · have hge : i = L.length := by simp at h; omega
      subst hge
      have ea := mpre_all (fun s => itemO (txtI t s)) L
      simp +decide only [hlen, ea, go_sem, Nat.reduceAdd, Nat.reduceMul, Nat.reduceSub]
      refine Runs.ret_eq ?_
      simp [List.map_map]
def sInAnn : Ann := [(0, [0, 3, 4])]
def intI (n : Int) : It := ⟨2, intB n, 0⟩
def sInSt (L : List Int) (i : Nat) : St := ⟨[.sl .sh (L.map intA), .any, .any, .ms (.l 0) 0 i i, .v (.int .i64 i), .any, .any, .any, .any, .any, .any, .any, .any, .any, .any, .any, .any, .any, .any, .any], [(0, ⟨true, 3, false, mpre (fun n => itemO (intI n)) L i⟩)], []⟩
include hm in
theorem l10Ints (L : List Int) (h : L.length ≤ 1000000) (h4 : ∀ n ∈ L, -9223372036854775808 ≤ n ∧ n < 9223372036854775808) : Holds Tryz.prog 102 [.sl .sh (L.map intA)] [] (.sl (.ow 3) ((L.map intI).map itemO)) [] := by
  refine holds_of (ann := sInAnn) tabOk hm Tryz.func102 (by kernel_rfl) rfl ?_
  simp +decide only [Tryz.f102, go_sem, Nat.reduceAdd, Nat.reduceMul, Nat.reduceSub]
  refine Runs.while (α := Nat) (sInSt L) (fun i => L.length - i) (fun i => i ≤ L.length) 0 (by omega) ?_ ?_
  · simp [go_sem, sInAnn, sInSt, mpre_zero]
  · intro i hi ih
    have hlen := mpre_length (fun n => itemO (intI n)) hi
    simp +decide only [sInSt, go_sem, Nat.reduceAdd, Nat.reduceMul, Nat.reduceSub]
    refine Runs.split (fun h => ?_) (fun h => ?_)
    · have hlt : i < L.length := by simpa using h
      obtain ⟨n1, n2⟩ := h4 L[i] (List.getElem_mem hlt)
      simp +decide (disch := first | omega | (simp only [ll]; omega)) only [hlen, if_pos, go_sem, Nat.reduceAdd, Nat.reduceMul, Nat.reduceSub]
      refine Runs.call (l10Int hm L[i] n1 n2) ?_
      simp +decide (disch := first | omega | (simp only [ll]; omega)) only [hlen, if_pos, go_sem, Nat.reduceAdd, Nat.reduceMul, Nat.reduceSub]
      refine ih (i + 1) _ (by omega) (by omega) ?_
      simp [go_sem, sInAnn, sInSt, mpre_succ _ hlt, intI]
    · have hge : i = L.length := by simp at h; omega
      subst hge
      have ea := mpre_all (fun n => itemO (intI n)) L
      simp +decide only [hlen, ea, go_sem, Nat.reduceAdd, Nat.reduceMul, Nat.reduceSub]
      refine Runs.ret_eq ?_
      simp [List.map_map]
def timeI (t : Int) : It := if shortOk t = true then ⟨23, bytesI (shortT t), 0⟩ else ⟨24, bytesI (longT t), 0⟩
theorem shortT_size (t : Int) : (shortT t).size ≤ 100 := by
  unfold shortT
  split
  · rw [ByteArray.size_append, restT_size, two_size]; omega
  · show 0 ≤ 100; omega
theorem longT_size (t : Int) : (longT t).size ≤ 100 := by
  unfold longT
  split
  · rw [ByteArray.size_append, ByteArray.size_append, restT_size, two_size, two_size]; omega
  · show 0 ≤ 100; omega
include hm in
theorem l10Time (t : Int) : Holds Tryz.prog 49 [.v (.int .i64 t)] [] (.sl (.ow 3) [itemO (timeI t)]) [] := by
  refine holds_ref (ann := []) tabOk hm (byL [] [21]) Tryz.func49 (by kernel_rfl) rfl ?_
  have s1 := shortT_size t
  have s2 := longT_size t
  simp +decide only [Tryz.f49, go_sem, Nat.reduceAdd, Nat.reduceMul, Nat.reduceSub]
  refine Runs.call (specShort hm t) ?_
  simp +decide only [go_sem, Nat.reduceAdd, Nat.reduceMul, Nat.reduceSub]
  refine Runs.split (fun h => ?_) (fun h => ?_)
  · simp +decide (disch := first | omega | (simp only [ll]; omega)) only [if_pos, go_sem, Nat.reduceAdd, Nat.reduceMul, Nat.reduceSub]
    refine Runs.call (l10Item hm 23 (bytesI (shortT t))) ?_
    simp +decide only [timeI, h, itemO, go_sem, Nat.reduceAdd, Nat.reduceMul, Nat.reduceSub]
    exact Runs.ret_refl
  · simp +decide only [go_sem, Nat.reduceAdd, Nat.reduceMul, Nat.reduceSub]
    refine Runs.call (specLong hm t) ?_
    simp +decide (disch := first | omega | (simp only [ll]; omega)) only [if_pos, go_sem, Nat.reduceAdd, Nat.reduceMul, Nat.reduceSub]
    refine Runs.call (l10Item hm 24 (bytesI (longT t))) ?_
    simp +decide only [timeI, h, itemO, go_sem, Nat.reduceAdd, Nat.reduceMul, Nat.reduceSub]
    exact Runs.ret_refl
end Go.Proofs.W

namespace Go.Proofs.W
open Go Go.AM
set_option maxRecDepth 10000
variable (hm : Tryz.prog.follows .mixedOrders = true)
inductive Nd where
  | mk (tag : Int) (body : List Int) (kids : List Nd)
mutual
def nodeO : Nd → A
  | .mk t b ks => .agg [.v (.int .i64 t), .sl (.ow 1) (b.map u8A), .sl (.ow 3) (nodesO ks)]
def nodesO : List Nd → List A
  | [] => []
  | n :: r => nodeO n :: nodesO r
end
mutual
def nodeS : Nd → A
  | .mk t b ks => .agg [.v (.int .i64 t), .sl .sh (b.map u8A), .sl .sh (nodesS ks)]
def nodesS : List Nd → List A
  | [] => []
  | n :: r => nodeS n :: nodesS r
end
theorem nodesO_eq (l : List Nd) : nodesO l = l.map nodeO := by induction l with
  | nil => rfl
  | cons a l ih => simp [nodesO, ih]
theorem nodesS_eq (l : List Nd) : nodesS l = l.map nodeS := by induction l with
  | nil => rfl
  | cons a l ih => simp [nodesS, ih]
theorem nodesO_length (l : List Nd) : (nodesO l).length = l.length := by rw [nodesO_eq, List.length_map]
theorem nodesS_length (l : List Nd) : (nodesS l).length = l.length := by rw [nodesS_eq, List.length_map]
mutual
theorem dn_nodeO : ∀ n, (nodeO n).dn = nodeS n
  | .mk t b ks => by simp [nodeO, nodeS, A.dn, dnL, dn_u8A, dn_nodesO ks]
theorem dn_nodesO : ∀ l, dnL (nodesO l) = nodesS l
  | [] => rfl
  | n :: r => by simp [nodesO, nodesS, dnL, dn_nodeO n, dn_nodesO r]
end
mutual
theorem dn_nodeS : ∀ n, (nodeS n).dn = nodeS n
  | .mk t b ks => by simp [nodeS, A.dn, dnL, dn_u8A, dn_nodesS ks]
theorem dn_nodesS : ∀ l, dnL (nodesS l) = nodesS l
  | [] => rfl
  | n :: r => by simp [nodesS, dnL, dn_nodeS n, dn_nodesS r]
end
mutual
theorem md_nodeO : ∀ n, (nodeO n).md = nodeO n
  | .mk t b ks => by simp [nodeO, A.md, mdL, md_u8A, md_nodesO ks]
theorem md_nodesO : ∀ l, mdL (nodesO l) = nodesO l
  | [] => rfl
  | n :: r => by simp [nodesO, mdL, md_nodeO n, md_nodesO r]
end
mutual
theorem fr_nodeO : ∀ n, (nodeO n).free = true
  | .mk t b ks => by simp [nodeO, A.free, freeL, fr_u8A, fr_nodesO ks]
theorem fr_nodesO : ∀ l, freeL (nodesO l) = true
  | [] => rfl
  | n :: r => by simp [nodesO, freeL, fr_nodeO n, fr_nodesO r]
end
theorem pl_nodeO (n : Nd) : (nodeO n).plain = false := by cases n; simp [nodeO, A.plain, plainL, Sh.own]
mutual
theorem pl_nodeS : ∀ n, (nodeS n).plain = true
  | .mk t b ks => by simp [nodeS, A.plain, plainL, Sh.own, pl_nodesS ks, plainL_map, u8A]
theorem pl_nodesS : ∀ l, plainL (nodesS l) = true
  | [] => rfl
  | n :: r => by simp [nodesS, plainL, pl_nodeS n, pl_nodesS r]
end
theorem tk_nodesO {α : Type} (L : List α) (f : α → Nd) : List.take L.length (nodesO (L.map f)) = nodesO (L.map f) := by
  rw [show L.length = (nodesO (L.map f)).length by rw [nodesO_length, List.length_map], List.take_length]
attribute [go_sem] tk_nodesO nodesO_length nodesS_length dn_nodeO dn_nodesO dn_nodeS dn_nodesS md_nodeO md_nodesO fr_nodeO fr_nodesO pl_nodeO pl_nodeS pl_nodesS
include hm in
theorem leaf (t : Int) (B : List Int) : Holds Tryz.prog 72 [.v (.int .i64 t), .sl (.ow 1) (B.map u8A)] [] (nodeO (.mk t B [])) [] := by
  refine holds_of (ann := []) tabOk hm Tryz.func72 (by kernel_rfl) rfl ?_
  simp +decide only [Tryz.f72, go_sem, Nat.reduceAdd, Nat.reduceMul, Nat.reduceSub]
  refine Runs.ret ?_ rfl
  exact .agg (.same _ (.same _ (.nils _ .nil))) .nil
include hm in
theorem listN (t : Int) (l : List Nd) : Holds Tryz.prog 28 [.v (.int .i64 t), .sl (.ow 3) (nodesO l)] [] (nodeO (.mk t [] l)) [] := by
  refine holds_of (ann := []) tabOk hm Tryz.func28 (by kernel_rfl) rfl ?_
  simp +decide only [Tryz.f28, go_sem, Nat.reduceAdd, Nat.reduceMul, Nat.reduceSub]
  refine Runs.ret ?_ rfl
  exact .agg (.same _ (.nils _ (.same _ .nil))) .nil
def intN (n : Int) : Nd := .mk 2 (intB n) []
def txtN (t : Int) (s : ByteArray) : Nd := .mk t (bytesI s) []
def timeG (t : Int) : Int := if shortOk t = true then 23 else 24
def timeB (t : Int) : List Int := if shortOk t = true then bytesI (shortT t) else bytesI (longT t)
def timeN (t : Int) : Nd := .mk (timeG t) (timeB t) []
include hm in
theorem integer (n : Int) (h1 : -9223372036854775808 ≤ n) (h2 : n < 9223372036854775808) : Holds Tryz.prog 67 [.v (.int .i64 n)] [] (nodeO (.mk 2 (intB n) [])) [] := by
  refine holds_ref (ann := []) tabOk hm (byL [] [72]) Tryz.func67 (by kernel_rfl) rfl ?_
  simp +decide only [Tryz.f67, go_sem, Nat.reduceAdd, Nat.reduceMul, Nat.reduceSub]
  refine Runs.call (iIntBytes hm n h1 h2) ?_
  simp +decide only [go_sem, Nat.reduceAdd, Nat.reduceMul, Nat.reduceSub]
  refine Runs.call (leaf hm 2 (intB n)) ?_
  simp +decide only [nodeO, nodesO, go_sem, Nat.reduceAdd, Nat.reduceMul, Nat.reduceSub]
  exact Runs.ret_refl
include hm in
theorem timeNode (t : Int) : Holds Tryz.prog 69 [.v (.int .i64 t)] [] (nodeO (.mk (timeG t) (timeB t) [])) [] := by
  refine holds_ref (ann := []) tabOk hm (byL [] [72]) Tryz.func69 (by kernel_rfl) rfl ?_
  have s1 := shortT_size t
  have s2 := longT_size t
  simp +decide only [Tryz.f69, go_sem, Nat.reduceAdd, Nat.reduceMul, Nat.reduceSub]
  refine Runs.call (implShort hm t) ?_
  simp +decide only [go_sem, Nat.reduceAdd, Nat.reduceMul, Nat.reduceSub]
  refine Runs.split (fun h => ?_) (fun h => ?_)
  · simp +decide (disch := first | omega | (simp only [ll]; omega)) only [if_pos, go_sem, Nat.reduceAdd, Nat.reduceMul, Nat.reduceSub]
    refine Runs.call (leaf hm 23 (bytesI (shortT t))) ?_
    simp +decide only [nodeO, nodesO, timeG, timeB, h, go_sem, Nat.reduceAdd, Nat.reduceMul, Nat.reduceSub]
    exact Runs.ret_refl
  · simp +decide only [go_sem, Nat.reduceAdd, Nat.reduceMul, Nat.reduceSub]
    refine Runs.call (implLong hm t) ?_
    simp +decide (disch := first | omega | (simp only [ll]; omega)) only [if_pos, go_sem, Nat.reduceAdd, Nat.reduceMul, Nat.reduceSub]
    refine Runs.call (leaf hm 24 (bytesI (longT t))) ?_
    simp +decide only [nodeO, nodesO, timeG, timeB, h, go_sem, Nat.reduceAdd, Nat.reduceMul, Nat.reduceSub]
    exact Runs.ret_refl
def iTxAnn : Ann := [(0, [0, 5, 9, 10, 11])]
def iTxSt (t : Int) (L : List ByteArray) (i : Nat) : St := ⟨[.v (.int .i64 t), .any, .any, .any, .any, .ms (.l 0) 0 i i, .any, .any, .any, .sl .sh (L.map strA), .v (.int .i64 L.length), .v (.int .i64 i), .any, .any, .any, .any, .any, .any, .any, .any, .any, .any, .any, .any], [(0, ⟨true, 3, false, mpre (fun s => nodeO (txtN t s)) L i⟩)], []⟩
include hm in
theorem texts (t : Int) (L : List ByteArray) (h : L.length ≤ 1000000) (h4 : ∀ s ∈ L, s.size ≤ 1073741824) : Holds Tryz.prog 68 [.v (.int .i64 t), .sl .sh (L.map strA)] [] (.sl (.ow 3) (nodesO (L.map (txtN t)))) [] := by
  refine holds_ref (ann := iTxAnn) tabOk hm (byL [] [72]) Tryz.func68 (by kernel_rfl) rfl ?_
  simp +decide only [Tryz.f68, go_sem, Nat.reduceAdd, Nat.reduceMul, Nat.reduceSub]
  refine Runs.while (α := Nat) (iTxSt t L) (fun i => L.length - i) (fun i => i ≤ L.length) 0 (by omega) ?_ ?_
  · simp [go_sem, iTxAnn, iTxSt, mpre_zero]
  · intro i hi ih
    have hlen := mpre_length (fun s => nodeO (txtN t s)) hi
    simp +decide only [iTxSt, go_sem, Nat.reduceAdd, Nat.reduceMul, Nat.reduceSub]
    refine Runs.split (fun h => ?_) (fun h => ?_)
    · have hlt : i < L.length := by simpa using h
      have hs := h4 L[i] (List.getElem_mem hlt)
      simp +decide (disch := first | omega | (simp only [ll]; omega)) only [hlen, if_pos, go_sem, Nat.reduceAdd, Nat.reduceMul, Nat.reduceSub]
      refine Runs.call (leaf hm t (bytesI L[i])) ?_
      simp +decide (disch := first | omega | (simp only [ll]; omega)) only [hlen, nodeO, nodesO, if_pos, go_sem, Nat.reduceAdd, Nat.reduceMul, Nat.reduceSub]
      refine ih (i + 1) _ (by omega) (by omega) ?_
      simp [go_sem, iTxAnn, iTxSt, mpre_succ _ hlt, txtN, nodeO, nodesO]
    · have hge : i = L.length := by simp at h; omega
      subst hge
      have ea := mpre_all (fun s => nodeO (txtN t s)) L
      simp +decide only [hlen, ea, go_sem, Nat.reduceAdd, Nat.reduceMul, Nat.reduceSub]
      refine Runs.ret_eq ?_
      rw [nodesO_eq, List.map_map]
      rfl
def iInAnn : Ann := [(0, [3, 7, 8, 9])]
def iInSt (L : List Int) (i : Nat) : St := ⟨[.any, .any, .any, .ms (.l 0) 0 i i, .any, .any, .any, .sl .sh (L.map intA), .v (.int .i64 L.length), .v (.int .i64 i), .any, .any, .any, .any, .any, .any, .any, .any, .any, .any], [(0, ⟨true, 3, false, mpre (fun n => nodeO (intN n)) L i⟩)], []⟩
include hm in
theorem integers (L : List Int) (h : L.length ≤ 1000000) (h4 : ∀ n ∈ L, -9223372036854775808 ≤ n ∧ n < 9223372036854775808) : Holds Tryz.prog 126 [.sl .sh (L.map intA)] [] (.sl (.ow 3) (nodesO (L.map intN))) [] := by
  refine holds_of (ann := iInAnn) tabOk hm Tryz.func126 (by kernel_rfl) rfl ?_
  simp +decide only [Tryz.f126, go_sem, Nat.reduceAdd, Nat.reduceMul, Nat.reduceSub]
  refine Runs.while (α := Nat) (iInSt L) (fun i => L.length - i) (fun i => i ≤ L.length) 0 (by omega) ?_ ?_
  · simp [go_sem, iInAnn, iInSt, mpre_zero]
  · intro i hi ih
    have hlen := mpre_length (fun n => nodeO (intN n)) hi
    simp +decide only [iInSt, go_sem, Nat.reduceAdd, Nat.reduceMul, Nat.reduceSub]
    refine Runs.split (fun h => ?_) (fun h => ?_)
    · have hlt : i < L.length := by simpa using h
      obtain ⟨n1, n2⟩ := h4 L[i] (List.getElem_mem hlt)
      simp +decide (disch := first | omega | (simp only [ll]; omega)) only [hlen, if_pos, go_sem, Nat.reduceAdd, Nat.reduceMul, Nat.reduceSub]
      refine Runs.call (integer hm L[i] n1 n2) ?_
      simp +decide (disch := first | omega | (simp only [ll]; omega)) only [hlen, nodeO, nodesO, if_pos, go_sem, Nat.reduceAdd, Nat.reduceMul, Nat.reduceSub]
      refine ih (i + 1) _ (by omega) (by omega) ?_
      simp [go_sem, iInAnn, iInSt, mpre_succ _ hlt, intN, nodeO, nodesO]
    · have hge : i = L.length := by simp at h; omega
      subst hge
      have ea := mpre_all (fun n => nodeO (intN n)) L
      simp +decide only [hlen, ea, go_sem, Nat.reduceAdd, Nat.reduceMul, Nat.reduceSub]
      refine Runs.ret_eq ?_
      rw [nodesO_eq, List.map_map]
      rfl
include hm in
theorem cloneB (B : List Int) (h : B.length ≤ 1073741824) : Holds Tryz.prog 73 [.sl .sh (B.map u8A)] [] (.sl (.ow 1) (B.map u8A)) [] := by
  refine holds_of (ann := []) tabOk hm Tryz.func73 (by kernel_rfl) rfl ?_
  cases B with
  | nil =>
    simp +decide only [Tryz.f73, go_sem, Nat.reduceAdd, Nat.reduceMul, Nat.reduceSub]
    refine ⟨?_, ?_⟩
    · exact Runs.ret (.nils _ .nil) rfl
    · exact Runs.ret_refl
  | cons b B =>
    simp only [List.length_cons] at h
    simp +decide (disch := first | omega | (simp only [ll]; omega)) only [Tryz.f73, u8A, if_pos, go_sem, Nat.reduceAdd, Nat.reduceMul, Nat.reduceSub]
    exact Runs.ret_refl
mutual
def itemsN : Nd → List It
  | .mk t b ks => ⟨t, b, ks.length⟩ :: itemsNL ks
def itemsNL : List Nd → List It
  | [] => []
  | n :: r => itemsN n ++ itemsNL r
end
theorem itemsN_mk (t : Int) (b : List Int) (ks : List Nd) : itemsN (.mk t b ks) = ⟨t, b, ks.length⟩ :: itemsNL ks := by rw [itemsN]
theorem itemsNL_app (l m : List Nd) : itemsNL (l ++ m) = itemsNL l ++ itemsNL m := by
  induction l with
  | nil => rfl
  | cons a l ih => simp [itemsNL, ih, List.append_assoc]
def itPre (ks : List Nd) (i : Nat) : List It := itemsNL (ks.take i)
theorem itPre_zero (ks : List Nd) : itPre ks 0 = [] := rfl
theorem itPre_succ {ks : List Nd} {i : Nat} (h : i < ks.length) : itPre ks (i + 1) = itPre ks i ++ itemsN ks[i] := by
  rw [itPre, List.take_succ_eq_append_getElem h, itemsNL_app]
  simp [itPre, itemsNL]
theorem itPre_all (ks : List Nd) : itPre ks ks.length = itemsNL ks := by rw [itPre, List.take_length]
theorem itPre_le (ks : List Nd) (i : Nat) : (itPre ks i).length ≤ (itemsNL ks).length := by
  have := itemsNL_app (ks.take i) (ks.drop i)
  rw [List.take_append_drop] at this
  rw [this, itPre, List.length_append]
  omega
mutual
def szN : Nd → Nat
  | .mk _ _ ks => szNL ks + 1
def szNL : List Nd → Nat
  | [] => 0
  | n :: r => szN n + szNL r
end
theorem szN_get : ∀ {ks : List Nd} {i : Nat} (h : i < ks.length), szN ks[i] ≤ szNL ks
  | a :: ks, 0, h => by simp [szNL]
  | a :: ks, i + 1, h => by
    have := szN_get (ks := ks) (i := i) (by simpa using h)
    simp only [szNL, List.getElem_cons_succ]
    omega
theorem nodesS_get {ks : List Nd} {i : Nat} (h : i < ks.length) : (nodesS ks).getD i .any = nodeS ks[i] := by rw [nodesS_eq]; simp [List.getD, h]
mutual
def bodiesLe (m : Nat) : Nd → Prop
  | .mk _ b ks => b.length ≤ m ∧ bodiesLeL m ks
def bodiesLeL (m : Nat) : List Nd → Prop
  | [] => True
  | n :: r => bodiesLe m n ∧ bodiesLeL m r
end
theorem bodiesLe_get {m : Nat} : ∀ {ks : List Nd} {i : Nat} (h : i < ks.length), bodiesLeL m ks → bodiesLe m ks[i]
  | a :: ks, 0, h, hb => hb.1
  | a :: ks, i + 1, h, hb => by
    have := bodiesLe_get (ks := ks) (i := i) (by simpa using h) hb.2
    simpa using this
mutual
def kidsLe (m : Nat) : Nd → Prop
  | .mk _ _ ks => ks.length ≤ m ∧ kidsLeL m ks
def kidsLeL (m : Nat) : List Nd → Prop
  | [] => True
  | n :: r => kidsLe m n ∧ kidsLeL m r
end
theorem kidsLe_get {m : Nat} : ∀ {ks : List Nd} {i : Nat} (h : i < ks.length), kidsLeL m ks → kidsLe m ks[i]
  | a :: ks, 0, h, hb => hb.1
  | a :: ks, i + 1, h, hb => by
    have := kidsLe_get (ks := ks) (i := i) (by simpa using h) hb.2
    simpa using this
def itAnn : Ann := [(0, [3, 17, 18, 19])]
def itSch : Sched := .take 0 (.take 2 (.take 5 (.ld 1 (.ld 3 (.ld 6 (.take 7 (.alt 4 (.alt 8 (.alt 9 (.take 10 .fin) .nil) .nil) .nil)))))))
def itSt (t : Int) (b : List Int) (ks : List Nd) (i : Nat) : St := ⟨[.any, .any, .any, .ms (.l 0) 0 ((itPre ks i).length + 1) ((itPre ks i).length + 1), .any, .any, .any, .any, .any, .any, .any, .any, .any, .any, .any, .any, .any, .sl .sh (nodesS ks), .v (.int .i64 ks.length), .v (.int .i64 i), .any, .any, .any, .any, .any, .any, .any, .any, .any], [(0, ⟨true, 3, false, itemO ⟨t, b, ks.length⟩ :: (itPre ks i).map itemO⟩)], []⟩
attribute [local go_sem] itSch
include hm in
theorem items : ∀ (m : Nat) (n : Nd), szN n ≤ m → (itemsN n).length ≤ 100000 → bodiesLe 1073741824 n → kidsLe 1000000 n → Holds Tryz.prog 31 [nodeS n] [] (.sl (.ow 3) ((itemsN n).map itemO)) [] := by
  intro m
  induction m with
  | zero => intro n h; cases n; simp [szN] at h
  | succ m IH =>
    rintro ⟨t, b, ks⟩ hz hl hb hk
    obtain ⟨hb1, hb2⟩ := hb
    obtain ⟨hk1, hk2⟩ := hk
    simp only [szN] at hz
    simp only [itemsN, List.length_cons] at hl
    refine holds_ref (ann := itAnn) tabOk hm (byL [] [1000001]) Tryz.func31 (by kernel_rfl) rfl ?_
    simp +decide only [Tryz.f31, nodeS, go_sem, Nat.reduceAdd, Nat.reduceMul, Nat.reduceSub]
    refine Runs.draw (st1 := ?s1) (draws_ref (ann := itAnn) tabOk (byL [] [1000001]) itSch (by kernel_rfl) ?p1) ?q1
    case p1 =>
      intro K r X hK
      simp +decide only [go_sem, Nat.reduceAdd, Nat.reduceMul, Nat.reduceSub]
      refine Runs.call (cloneB hm b hb1) ?_
      simp +decide only [go_sem, Nat.reduceAdd, Nat.reduceMul, Nat.reduceSub]
      exact hK
    case q1 =>
      simp +decide only [go_sem, Nat.reduceAdd, Nat.reduceMul, Nat.reduceSub]
      refine Runs.while (α := Nat) (itSt t b ks) (fun i => ks.length - i) (fun i => i ≤ ks.length) 0 (by omega) ?_ ?_
      · simp [go_sem, itAnn, itSt, itPre_zero, itemO]
      · intro i hi ih
        simp +decide only [itSt, go_sem, Nat.reduceAdd, Nat.reduceMul, Nat.reduceSub]
        refine Runs.split (fun h => ?_) (fun h => ?_)
        · have hlt : i < ks.length := by simpa using h
          have e1 := itPre_le ks (i + 1)
          have e2 := itPre_succ hlt
          have e3 : (itPre ks (i + 1)).length = (itPre ks i).length + (itemsN ks[i]).length := by rw [e2, List.length_append]
          have e4 := szN_get hlt
          have e5 := IH ks[i] (by omega) (by omega) (bodiesLe_get hlt hb2) (kidsLe_get hlt hk2)
          have e6 := nodesS_get hlt
          have e7 : (itPre ks (i + 1)).map itemO = (itPre ks i).map itemO ++ (itemsN ks[i]).map itemO := by rw [e2, List.map_append]
          generalize ks[i] = k at e3 e5 e6 e7
          obtain ⟨t', b', ks'⟩ := k
          rw [nodeS] at e5 e6
          rw [itemsN_mk] at e3 e5 e7
          generalize (⟨t', b', ks'.length⟩ : It) = x' at e3 e5 e7
          generalize itemsNL ks' = L' at e3 e5 e7
          rw [List.map_cons] at e5 e7
          rw [List.length_cons] at e3
          simp +decide (disch := first | omega | (simp only [ll]; omega)) only [e6, if_pos, go_sem, Nat.reduceAdd, Nat.reduceMul, Nat.reduceSub]
          refine Runs.call e5 ?_
          simp +decide (disch := first | omega | (simp only [ll]; omega)) only [if_pos, go_sem, Nat.reduceAdd, Nat.reduceMul, Nat.reduceSub]
          refine ih (i + 1) _ (by omega) (by omega) ?_
          simp [go_sem, itAnn, itSt, e7, e3, Nat.add_assoc, Nat.add_comm, Nat.add_left_comm]
        · have hge : i = ks.length := by simp at h; omega
          subst hge
          simp +decide only [itPre_all, go_sem, Nat.reduceAdd, Nat.reduceMul, Nat.reduceSub]
          refine Runs.ret_eq ?_
          simp [itemsN]
end Go.Proofs.W

namespace Go.Proofs.W
open Go Go.AM
theorem itemsN_int (n : Int) : itemsN (intN n) = [intI n] := by simp [intN, itemsN_mk, itemsNL, intI]
theorem itemsN_txt (t : Int) (s : ByteArray) : itemsN (txtN t s) = [txtI t s] := by simp [txtN, itemsN_mk, itemsNL, txtI]
theorem itemsN_time (t : Int) : itemsN (timeN t) = [timeI t] := by
  unfold timeN timeI timeG timeB
  split <;> simp [itemsN_mk, itemsNL]
theorem itemsNL_map {α : Type} (f : α → Nd) (g : α → It) (h : ∀ a, itemsN (f a) = [g a]) (L : List α) : itemsNL (L.map f) = L.map g := by
  induction L with
  | nil => rfl
  | cons a l ih => simp [itemsNL, h, ih]
theorem intB_le (n : Int) : (intB n).length ≤ 8 := by
  rw [intB, tailB_length]
  have := firstK_le n 7 0
  show firstK n 7 0 + 1 ≤ 8
  omega
theorem timeB_le (t : Int) : (timeB t).length ≤ 100 := by
  have s1 := shortT_size t
  have s2 := longT_size t
  unfold timeB
  split <;> simpa [bytesI] using by assumption
end Go.Proofs.W

namespace Go.Proofs.W
open Go Go.AM
def mkS (l : List UInt8) : ByteArray := ⟨l.toArray⟩
theorem mkS_list (s : ByteArray) : mkS s.data.toList = s := by cases s; simp [mkS]
theorem mkS_size (l : List UInt8) : (mkS l).size = l.length := by simp [mkS, ByteArray.size]
theorem mkS_data (l : List UInt8) : (mkS l).data.toList = l := by simp [mkS]
theorem list_size (s : ByteArray) : s.data.toList.length = s.size := by rw [Array.length_toList]; rfl
theorem ext_list (s : ByteArray) (a b : Nat) : (s.extract a b).data.toList = (s.data.toList.drop a).take (b - a) := by
  rw [ByteArray.data_extract]; simp [List.extract_eq_take_drop]
theorem getD_lt {l : List UInt8} {i : Nat} (h : i < l.length) : l.getD i 0 = l[i] := by rw [List.getD, List.getElem?_eq_getElem h]; rfl
theorem mkS_ext (s : ByteArray) (a b : Nat) : s.extract a b = mkS ((s.data.toList.drop a).take (b - a)) := by
  rw [← ext_list, mkS_list]
def partsL (c : UInt8) : List UInt8 → List (List UInt8)
  | [] => [[]]
  | b :: l => if b = c then [] :: partsL c l else match partsL c l with
    | [] => [[b]]
    | p :: r => (b :: p) :: r
theorem partsL_cut (c : UInt8) : ∀ (p r : List UInt8), (∀ b ∈ p, b ≠ c) → partsL c (p ++ c :: r) = p :: partsL c r
  | [], r, _ => by simp [partsL]
  | b :: p, r, h => by
    rw [List.cons_append, partsL, if_neg (h b (by simp)), partsL_cut c p r fun x hx => h x (by simp [hx])]
theorem partsL_no (c : UInt8) : ∀ (p : List UInt8), (∀ b ∈ p, b ≠ c) → partsL c p = [p]
  | [], _ => by simp [partsL]
  | b :: p, h => by
    rw [partsL, if_neg (h b (by simp)), partsL_no c p fun x hx => h x (by simp [hx])]
theorem partsL_len (c : UInt8) : ∀ l : List UInt8, (partsL c l).length = l.count c + 1
  | [] => by simp [partsL]
  | b :: l => by
    have ih := partsL_len c l
    unfold partsL
    split
    · rename_i h; subst h; simp [ih]
    · rename_i h
      rw [List.count_cons_of_ne (by simpa using h)]
      split
      · rename_i e; rw [e] at ih; simp at ih
      · rename_i p r e; rw [e] at ih; simpa using ih
theorem partsL_sum (c : UInt8) : ∀ (l : List UInt8), ∀ p ∈ partsL c l, p.length ≤ l.length
  | [], p, h => by simp [partsL] at h; simp [h]
  | b :: l, p, h => by
    have ih := partsL_sum c l
    unfold partsL at h
    split at h
    · rcases List.mem_cons.mp h with h | h
      · simp [h]
      · have := ih p h; simp; omega
    · split at h
      · simp at h; simp [h]
      · rename_i q r e
        rw [e] at ih
        rcases List.mem_cons.mp h with h | h
        · have := ih q (by simp); simp [h]; omega
        · have := ih p (by simp [h]); simp; omega
theorem idx_none {c : UInt8} {l : List UInt8} (h : Lib.indexByte l c = -1) : ∀ b ∈ l, b ≠ c := by
  intro b hb e
  obtain ⟨i, hi, e2⟩ := List.getElem_of_mem hb
  exact Lib.indexByte_none h i (by rw [List.getElem?_eq_getElem hi, e2, e])
theorem idx_some {c : UInt8} {l : List UInt8} {m : Nat} (h : Lib.indexByte l c = m) : ∃ p r, l = p ++ c :: r ∧ p.length = m ∧ ∀ b ∈ p, b ≠ c := by
  obtain ⟨h1, h2⟩ := Lib.indexByte_some h
  obtain ⟨hm, e⟩ := List.getElem?_eq_some_iff.mp h1
  refine ⟨l.take m, l.drop (m + 1), ?_, by simp; omega, ?_⟩
  · rw [← e, ← List.drop_eq_getElem_cons hm, List.take_append_drop]
  · intro b hb e2
    obtain ⟨i, hi, e3⟩ := List.getElem_of_mem hb
    simp at hi
    rw [List.getElem_take] at e3
    exact h2 i (by omega) (by rw [List.getElem?_eq_getElem (by omega), e3, e2])
theorem count_none {c : UInt8} {l : List UInt8} (h : l.count c = 0) : ∀ b ∈ l, b ≠ c := by
  intro b hb e
  subst e
  exact absurd (List.count_pos_iff.mpr hb) (by omega)
theorem count_cut {c : UInt8} {p r : List UInt8} (h : ∀ b ∈ p, b ≠ c) : (p ++ c :: r).count c = r.count c + 1 := by
  rw [List.count_append, List.count_cons_self, List.count_eq_zero.mpr fun hc => h c hc rfl]; omega
def partsB (s : ByteArray) : List ByteArray := (partsL 46 s.data.toList).map mkS
theorem partsB_len (s : ByteArray) : (partsB s).length = s.data.toList.count 46 + 1 := by simp [partsB, partsL_len]
theorem partsB_le (s : ByteArray) : (partsB s).length ≤ s.size + 1 := by
  rw [partsB_len, ← list_size]
  have := List.count_le_length (a := (46 : UInt8)) (l := s.data.toList)
  omega
theorem partsB_sz (s : ByteArray) : ∀ p ∈ partsB s, p.size ≤ s.size := by
  intro p hp
  obtain ⟨q, hq, rfl⟩ := List.mem_map.mp hp
  rw [mkS_size, ← list_size]
  exact partsL_sum 46 _ q hq
def digC (b : UInt8) : Bool := inB b.toNat 48 57
def dashC (b : UInt8) : Bool := decide ((b.toNat : Int) = 45)
def okC (b : UInt8) : Bool := inB b.toNat 97 122 || digC b || dashC b
def labelB (s : ByteArray) : Bool := s.data.toList.all okC && inB s.size 1 20 && !dashC (s.data.toList.getD 0 0) && !dashC (s.data.toList.getD (s.size - 1) 0)
def digitsB (s : ByteArray) : Bool := s.data.toList.all digC && decide ((s.size : Int) > 0)
def lastB (L : List ByteArray) : ByteArray := L.getD (L.length - 1) ⟨#[]⟩
def hostB (s : ByteArray) : Bool := decide (s.size ≤ 80) && (partsB s).all labelB && decide ((partsB s).length ≤ 8) && !(lastB (partsB s)).data.toList.all digC
def dotC (b : UInt8) : Bool := decide ((b.toNat : Int) = 46)
def underB (b h : ByteArray) : Bool := hostB b && hostB h && ((b.toList == h.toList) || (decide ((h.size : Int) - b.size > 0) && ((h.extract (h.size - b.size) h.size).toList == b.toList) && dotC (h.data.toList.getD (h.size - b.size - 1) 0)))
def allowedB (al de : List ByteArray) (h : ByteArray) : Bool := hostB h && (decide (al.length = 0) || al.any fun b => underB b h) && !(de.any fun b => underB b h)
end Go.Proofs.W

namespace Go.Proofs.W
open Go Go.AM
variable (hm : Tryz.prog.follows .mixedOrders = true)
theorem repL_vs {C : Ctx} {w : World} : ∀ {vs xs : List Value} {f}, RepL C w (vs.map A.v) xs f → xs = vs ∧ ∀ b, f b = 0
  | [], _, _, h => by cases h with | nil h => exact ⟨rfl, h⟩
  | v :: vs, _, _, h => by
    rw [List.map_cons] at h
    cases h with | v h => have := repL_vs h; exact ⟨by rw [this.1], this.2⟩
theorem holds_same {P : Program} {f : Nat} {vs : List Value} {r : Value} (hf : ∃ fn c, P.funcs[f]? = some fn ∧ (fn.name == "runtime.NumGoroutine") = false ∧ fn.body = some c)
    (h : ∀ w, Calls P f vs.toArray w fun e w' => e = .returned r ∧ w' = w) : Holds P f (vs.map .v) [] (.v r) [] where
  fn := hf
  calls := by
    intro C w xs fx fa hF hB hI hX hM hle hno hR
    obtain ⟨rfl, h0⟩ := repL_vs hR
    have hx : ∀ b, fx b = 0 := by
      have hM : MemR C w [] fx := hM
      cases hM with | nil h => exact h
    refine (h w).mono ?_
    rintro e w' ⟨rfl, rfl⟩
    refine ⟨C, fun _ => 0, fun _ => 0, Ctx.ToX.refl C, rfl, hB, fun _ h => h, fun _ h => .inl h, hI, hX, Same.refl _ _, .nil fun _ => rfl, .v (.nil fun _ => rfl), fun _ => Nat.zero_le _, fun b hb => absurd hb (by simp)⟩
set_option maxHeartbeats 1000000 in
set_option maxRecDepth 100000 in
theorem indexByteC (s : ByteArray) (c : Int) (w : World) :
    Calls Tryz.prog 211 #[.string s, .int .u8 c] w fun e w' => e = .returned (.int .i64 (Lib.indexByte s.data.toList c.toNat.toUInt8)) ∧ w' = w := by
  go_enter Tryz.func211, Tryz.ntmps211
  go_wp2
  rw [run_callFunc_extern Tryz.func220 (by kernel_rfl) (by kernel_rfl) (by kernel_rfl) (e := Extern.BytealgIndexByte.indexByte) (by kernel_rfl), Lib.run_indexByteString]
  simp only [Result.andThen]
  rw [Oper.upon_value]
  go_wp2
  go_ret
  exact ⟨rfl, rfl⟩
theorem indexByteH (s : ByteArray) (c : Int) : Holds Tryz.prog 211 [.v (.string s), .v (.int .u8 c)] [] (.v (.int .i64 (Lib.indexByte s.data.toList c.toNat.toUInt8))) [] :=
  holds_same (vs := [.string s, .int .u8 c]) ⟨_, _, Tryz.func211, by kernel_rfl, rfl⟩ fun w => indexByteC s c w
set_option maxHeartbeats 1000000 in
set_option maxRecDepth 100000 in
theorem countC (s : ByteArray) (c : UInt8) (w : World) :
    Calls Tryz.prog 205 #[.string s, .string ⟨#[c]⟩] w fun e w' => e = .returned (.int .i64 (Lib.countByte s.data.toList c)) ∧ w' = w := by
  go_enter Tryz.func205, Tryz.ntmps205
  go_wp2
  rw [run_callFunc_extern Tryz.func216 (by kernel_rfl) (by kernel_rfl) (by kernel_rfl) (e := Extern.BytealgCount.count) (by kernel_rfl), Lib.run_countString]
  simp only [Result.andThen]
  rw [Oper.upon_value]
  go_wp2
  go_ret
  exact ⟨rfl, rfl⟩
theorem countH (s : ByteArray) (c : UInt8) : Holds Tryz.prog 205 [.v (.string s), .v (.string ⟨#[c]⟩)] [] (.v (.int .i64 (Lib.countByte s.data.toList c))) [] :=
  holds_same (vs := [.string s, .string ⟨#[c]⟩]) ⟨_, _, Tryz.func205, by kernel_rfl, rfl⟩ fun w => countC s c w
end Go.Proofs.W

namespace Go.Proofs.W
open Go Go.AM
variable (hm : Tryz.prog.follows .mixedOrders = true)
theorem indexByte_lt (l : List UInt8) (c : UInt8) : Lib.indexByte l c = -1 ∨ ∃ m : Nat, Lib.indexByte l c = m ∧ m < l.length := by
  have := Lib.indexByte_ge l c
  rcases Int.lt_or_le (Lib.indexByte l c) 0 with h | h
  · left; omega
  · right
    obtain ⟨m, e⟩ := Int.eq_ofNat_of_zero_le h
    refine ⟨m, e, ?_⟩
    obtain ⟨p, r, e1, e2, _⟩ := idx_some e
    rw [e1]; simp; omega
set_option maxRecDepth 10000 in
include hm in
theorem index1 (s : ByteArray) : Holds Tryz.prog 203 [.v (.string s), .v (.string ⟨#[46]⟩)] [] (.v (.int .i64 (Lib.indexByte s.data.toList 46))) [] := by
  refine holds_of (ann := []) tabOk hm Tryz.func203 (by kernel_rfl) rfl ?_
  simp +decide only [Tryz.f203, go_sem, Nat.reduceAdd, Nat.reduceMul, Nat.reduceSub]
  have e2 : Int.toNat 0 = 0 := rfl
  refine Runs.split (fun h => ?_) (fun h => ?_)
  · have e : s = ⟨#[46]⟩ := by
      rw [beq_iff_eq, Lib.toList_data, Lib.toList_data] at h
      rw [← mkS_list s, ← h]; rfl
    rw [e]
    simp +decide only [go_sem, Nat.reduceAdd, Nat.reduceMul, Nat.reduceSub]
    exact Runs.ret_eq (by rw [show Lib.indexByte (ByteArray.mk #[46]).data.toList 46 = 0 by decide])
  · simp +decide only [e2, go_sem, Nat.reduceAdd, Nat.reduceMul, Nat.reduceSub]
    refine Runs.call (indexByteH s 46) ?_
    simp +decide only [go_sem, Nat.reduceAdd, Nat.reduceMul, Nat.reduceSub]
    exact Runs.ret_eq rfl
include hm in
theorem sindex1 (s : ByteArray) : Holds Tryz.prog 180 [.v (.string s), .v (.string ⟨#[46]⟩)] [] (.v (.int .i64 (Lib.indexByte s.data.toList 46))) [] := by
  refine holds_of (ann := []) tabOk hm Tryz.func180 (by kernel_rfl) rfl ?_
  simp +decide only [Tryz.f180, go_sem, Nat.reduceAdd, Nat.reduceMul, Nat.reduceSub]
  refine Runs.call (index1 hm s) ?_
  simp +decide only [go_sem, Nat.reduceAdd, Nat.reduceMul, Nat.reduceSub]
  exact Runs.ret_v
def gsRow (N : Nat) (D : List ByteArray) : List A := D.map strA ++ List.replicate (N - D.length) (.v (.string ⟨#[]⟩))
theorem gsRow_len {N : Nat} {D : List ByteArray} (h : D.length ≤ N) : (gsRow N D).length = N := by simp [gsRow]; omega
theorem gsRow_zero (N : Nat) : gsRow N [] = List.replicate N (.v (.string ⟨#[]⟩)) := by simp [gsRow]
theorem gsRow_set {N : Nat} {D : List ByteArray} (h : D.length < N) (p : ByteArray) : (gsRow N D).set D.length (.v (.string p)) = gsRow N (D ++ [p]) := by
  unfold gsRow
  have e : N - D.length = (N - (D.length + 1)) + 1 := by omega
  rw [List.set_append_right _ _ (by simp), List.length_map, Nat.sub_self, e, List.replicate_succ, List.set_cons_zero]
  simp [strA]
theorem gsRow_get {N : Nat} {D : List ByteArray} (h : D.length < N) : (gsRow N D).getD D.length .any = .v (.string ⟨#[]⟩) := by
  unfold gsRow
  have e : N - D.length = (N - (D.length + 1)) + 1 := by omega
  rw [List.getD, List.getElem?_append_right (by simp), List.length_map, Nat.sub_self, e, List.replicate_succ]
  rfl
def gsAnn : Ann := [(0, [0, 1, 2, 3, 9, 10])]
def gsSt (N : Nat) (p : List ByteArray × ByteArray) : St := ⟨[.v (.string p.2), .v (.string ⟨#[46]⟩), .v (.int .i64 0), .v (.int .i64 ((N : Int) - 1)), .any, .any, .any, .any, .any, .ms (.l 0) 0 N N, .v (.int .i64 p.1.length), .any, .any, .any, .any, .any, .any, .any, .any, .any, .any, .any, .any, .any, .any, .any, .any, .any, .any, .any, .any, .any, .any, .any, .any, .any, .any, .any, .any, .any, .any, .any, .any, .any, .any, .any, .any, .any, .any, .any, .any, .any, .any, .any, .any, .any, .any, .any, .any, .any, .any, .any, .any, .any, .any, .any], [(0, ⟨true, 1, false, gsRow N p.1⟩)], []⟩
set_option maxHeartbeats 4000000 in
set_option maxRecDepth 10000 in
include hm in
theorem genSplit1 (s : ByteArray) (h : s.size ≤ 1048576) : Holds Tryz.prog 181 [.v (.string s), .v (.string ⟨#[46]⟩), .v (.int .i64 0), .v (.int .i64 (-1))] [] (.sl (.ow 1) ((partsB s).map strA)) [] := by
  refine holds_of (ann := gsAnn) tabOk hm Tryz.func181 (by kernel_rfl) rfl ?_
  have hz := list_size s
  have hle := partsB_le s
  obtain ⟨N, hN⟩ : ∃ N, N = (partsB s).length := ⟨_, rfl⟩
  have hN2 := hN
  rw [partsB_len] at hN2
  have hb46 : ((⟨#[46]⟩ : ByteArray).toList == (⟨#[]⟩ : ByteArray).toList) = false := by rw [Lib.toList_data, Lib.toList_data]; decide
  simp +decide only [Tryz.f181, hb46, go_sem, Nat.reduceAdd, Nat.reduceMul, Nat.reduceSub]
  refine Runs.call (countH s 46) ?_
  have e0 : (Lib.countByte s.data.toList 46 : Int) = (N : Int) - 1 := by rw [hN2, Lib.countByte]; omega
  have e1 : IntKind.i64.wrap ((N : Int) - 1 + 1) = N := by rw [wrap_i64 (by omega) (by omega)]; omega
  have e3 : IntKind.i64.wrap ((s.size : Int) + 1) = (s.size : Int) + 1 := wrap_i64 (by omega) (by omega)
  have e4 : (if (s.size : Int) + 1 < N then (s.size : Int) + 1 else (N : Int)) = N := if_neg (by omega)
  simp +decide (disch := first | omega | (simp only [ll]; omega)) only [e0, e1, e3, e4, if_pos, go_sem, Nat.reduceAdd, Nat.reduceMul, Nat.reduceSub]
  refine Runs.while (α := List ByteArray × ByteArray) (gsSt N) (fun p => N - p.1.length) (fun p => p.1.length < N ∧ partsB s = p.1 ++ partsB p.2 ∧ p.2.size ≤ s.size) ([], s) ⟨by simp; omega, by simp, Nat.le_refl _⟩ ?_ ?_
  · simp [go_sem, gsAnn, gsSt, gsRow_zero]
  · rintro ⟨D, r⟩ ⟨hd, hp, hr⟩ ih
    simp only at hd hp hr
    have hlen := gsRow_len (Nat.le_of_lt hd)
    have hcnt : N = D.length + (partsB r).length := by rw [hN, hp, List.length_append]
    have hrz := list_size r
    have hset := gsRow_set hd
    have hlen2 : ∀ x, (gsRow N (D ++ [x])).length = N := fun x => gsRow_len (by simp; omega)
    have hget := gsRow_get hd
    simp +decide (disch := first | omega | (simp only [ll]; omega)) only [gsSt, hlen, if_pos, go_sem, Nat.reduceAdd, Nat.reduceMul, Nat.reduceSub]
    refine Runs.split (fun h => ?_) (fun h => ?_)
    · have h2 : 2 ≤ (partsB r).length := by simp at h; omega
      simp +decide only [go_sem, Nat.reduceAdd, Nat.reduceMul, Nat.reduceSub]
      refine Runs.call (sindex1 hm r) ?_
      rcases indexByte_lt r.data.toList 46 with hi | ⟨m, hi, hml⟩
      · rw [partsB, List.length_map, partsL_no 46 _ (idx_none hi)] at h2
        simp at h2
      · obtain ⟨p, q, e5, e6, e7⟩ := idx_some hi
        rw [hi]
        have e8 : partsB r = mkS p :: partsB (mkS q) := by rw [partsB, e5, partsL_cut 46 p q e7, partsB, mkS_data]; rfl
        have x1 : r.extract 0 m = mkS p := by rw [mkS_ext, e5, ← e6]; simp
        have x2 : r.extract (m + 1) r.size = mkS q := by
          rw [mkS_ext, e5]
          rw [show p ++ 46 :: q = (p ++ [46]) ++ q by simp, List.drop_left' (by simp; omega), List.take_of_length_le]
          rw [e5] at hrz; simp at hrz; omega
        have x3 : (mkS q).size ≤ r.size := by rw [mkS_size]; rw [e5] at hrz; simp at hrz; omega
        have d0 : decide ((m : Int) < 0) = false := by simp
        have x4 : ((m : Int) + 1).toNat = m + 1 := by omega
        have y1 : ((#[(46 : UInt8)].size : Nat) : Int) = 1 := rfl
        simp +decide (disch := first | omega | (simp only [ll]; omega)) only [d0, y1, Int.add_zero, x1, x2, x4, hlen, hset, hget, hlen2, if_pos, go_sem, Nat.reduceAdd, Nat.reduceMul, Nat.reduceSub]
        refine ih (D ++ [mkS p], mkS q) _ (by simp only [List.length_append, List.length_cons, List.length_nil]; omega) ⟨by simp; simp at h; omega, ?_, by simp only; omega⟩ ?_
        · simp only; rw [hp, e8]; simp
        · simp [go_sem, gsAnn, gsSt, x1]
    · have h1 : (partsB r).length = 1 := by
        have : 1 ≤ (partsB r).length := by rw [partsB_len]; omega
        simp at h; omega
      have e5 : partsB r = [r] := by
        have hc : r.data.toList.count 46 = 0 := by rw [partsB_len] at h1; omega
        rw [partsB, partsL_no 46 _ (count_none hc)]; simp [mkS_list]
      have hN1 : N = D.length + 1 := by omega
      have e6 : gsRow N (D ++ [r]) = (partsB s).map strA := by rw [gsRow, hp, e5]; simp [hN1]
      have b1 : decide (0 ≤ (D.length : Int) + 1 ∧ (D.length : Int) + 1 ≤ N ∧ (D.length : Int) + 1 ≤ (D.length : Int) + 1 ∧ (D.length : Int) + 1 ≤ N) = true := by simp; omega
      have t1 : ((D.length : Int) + 1).toNat = N := by omega
      have t0 : Int.toNat 0 = 0 := rfl
      simp +decide (disch := first | omega | (simp only [ll]; omega)) only [hlen, hset, hget, hlen2, b1, t1, t0, Nat.sub_zero, if_pos, go_sem, Nat.reduceAdd, Nat.reduceMul, Nat.reduceSub]
      refine Runs.ret_eq ?_
      rw [List.take_of_length_le (by rw [hlen2]; exact Nat.le_refl _), e6]
end Go.Proofs.W

namespace Go.Proofs.W
open Go Go.AM
set_option maxRecDepth 10000
variable (hm : Tryz.prog.follows .mixedOrders = true)
include hm in
theorem split1 (s : ByteArray) (h : s.size ≤ 1048576) : Holds Tryz.prog 146 [.v (.string s), .v (.string ⟨#[46]⟩)] [] (.sl (.ow 1) ((partsB s).map strA)) [] := by
  refine holds_of (ann := []) tabOk hm Tryz.func146 (by kernel_rfl) rfl ?_
  simp +decide only [Tryz.f146, go_sem, Nat.reduceAdd, Nat.reduceMul, Nat.reduceSub]
  refine Runs.call (genSplit1 hm s h) ?_
  simp +decide (disch := first | omega | (simp only [ll]; omega)) only [if_pos, go_sem, Nat.reduceAdd, Nat.reduceMul, Nat.reduceSub]
  exact Runs.ret_refl
include hm in
theorem isDigit (b : UInt8) : Holds Tryz.prog 182 [.v (.int .u8 b.toNat)] [] (.v (.bool (digC b))) [] := by
  refine holds_of (ann := []) tabOk hm Tryz.func182 (by kernel_rfl) rfl ?_
  simp +decide only [Tryz.f182, go_sem, Nat.reduceAdd, Nat.reduceMul, Nat.reduceSub]
  refine Runs.split (fun h => ?_) (fun h => ?_)
  · simp +decide only [go_sem, Nat.reduceAdd, Nat.reduceMul, Nat.reduceSub]
    exact Runs.ret_eq (by simp at h; simp [digC, inB]; omega)
  · simp +decide only [go_sem, Nat.reduceAdd, Nat.reduceMul, Nat.reduceSub]
    exact Runs.ret_eq (by simp at h; simp [digC, inB]; omega)
def ilAnn : Ann := [(0, [0, 6, 7])]
def ilSt (s : ByteArray) (i : Nat) : St := ⟨[.v (.string s), .any, .any, .any, .any, .any, .v (.int .i64 s.size), .v (.int .i64 i), .any, .any, .any, .any, .any, .any, .any, .any, .any, .any, .any, .any, .any, .any, .any, .any, .any, .any, .any, .any, .any, .any, .any, .any, .any, .any, .any, .any, .any, .any, .any, .any, .any, .any, .any, .any, .any], [], []⟩
include hm in
theorem isLabel (s : ByteArray) (h : s.size ≤ 1048576) : Holds Tryz.prog 148 [.v (.string s)] [] (.v (.bool (labelB s))) [] := by
  refine holds_of (ann := ilAnn) tabOk hm Tryz.func148 (by kernel_rfl) rfl ?_
  simp +decide only [Tryz.f148, go_sem, Nat.reduceAdd, Nat.reduceMul, Nat.reduceSub]
  have hz := list_size s
  refine Runs.while (α := Nat) (ilSt s) (fun i => s.size - i) (fun i => i ≤ s.size ∧ (s.data.toList.drop i).all okC = s.data.toList.all okC) 0 ⟨by omega, by simp⟩ ?_ ?_
  · simp [go_sem, ilAnn, ilSt]
  · rintro i ⟨hi, hr⟩ ih
    simp +decide only [ilSt, go_sem, Nat.reduceAdd, Nat.reduceMul, Nat.reduceSub]
    refine Runs.split (fun h => ?_) (fun h => ?_)
    · have hlt : i < s.data.toList.length := by simp at h; omega
      have hg : s.data.toList.getD i 0 = s.data.toList[i] := getD_lt hlt
      have hb := UInt8.toNat_lt s.data.toList[i]
      rw [List.drop_eq_getElem_cons hlt, List.all_cons] at hr
      have next : okC s.data.toList[i] = true → (s.data.toList.drop (i + 1)).all okC = s.data.toList.all okC := fun h => by rw [← hr, h, Bool.true_and]
      have stop : okC s.data.toList[i] = false → labelB s = false := fun h => by rw [labelB, ← hr, h]; simp
      simp +decide (disch := first | omega | (simp only [ll]; omega)) only [hg, if_pos, go_sem, Nat.reduceAdd, Nat.reduceMul, Nat.reduceSub]
      refine Runs.call (isDigit hm _) ?_
      cases h1 : digC s.data.toList[i]
      · simp +decide only [go_sem, Nat.reduceAdd, Nat.reduceMul, Nat.reduceSub]
        cases h2 : decide ((s.data.toList[i].toNat : Int) < 97)
        · simp +decide only [go_sem, Nat.reduceAdd, Nat.reduceMul, Nat.reduceSub]
          cases h3 : decide ((s.data.toList[i].toNat : Int) > 122)
          · simp +decide (disch := first | omega | (simp only [ll]; omega)) only [if_pos, go_sem, Nat.reduceAdd, Nat.reduceMul, Nat.reduceSub]
            have ho : okC s.data.toList[i] = true := by simp at h2 h3; simp [okC, inB]; omega
            refine ih (i + 1) _ (by omega) ⟨by omega, next ho⟩ ?_
            simp [go_sem, ilAnn, ilSt]
          · simp +decide only [go_sem, Nat.reduceAdd, Nat.reduceMul, Nat.reduceSub]
            cases h4 : decide ((s.data.toList[i].toNat : Int) = 45)
            · simp +decide (disch := first | omega | (simp only [ll]; omega)) only [if_pos, go_sem, Nat.reduceAdd, Nat.reduceMul, Nat.reduceSub]
              have ho : okC s.data.toList[i] = false := by simp only [okC, h1, dashC, h4, inB, Bool.or_false]; simp at h2 h3; simp; omega
              exact Runs.ret_eq (by rw [stop ho])
            · simp +decide (disch := first | omega | (simp only [ll]; omega)) only [if_pos, go_sem, Nat.reduceAdd, Nat.reduceMul, Nat.reduceSub]
              have ho : okC s.data.toList[i] = true := by simp only [okC, h1, dashC, h4, Bool.or_true]
              refine ih (i + 1) _ (by omega) ⟨by omega, next ho⟩ ?_
              simp [go_sem, ilAnn, ilSt]
        · simp +decide only [go_sem, Nat.reduceAdd, Nat.reduceMul, Nat.reduceSub]
          cases h4 : decide ((s.data.toList[i].toNat : Int) = 45)
          · simp +decide (disch := first | omega | (simp only [ll]; omega)) only [if_pos, go_sem, Nat.reduceAdd, Nat.reduceMul, Nat.reduceSub]
            have ho : okC s.data.toList[i] = false := by simp only [okC, h1, dashC, h4, inB, Bool.or_false]; simp at h2; simp; omega
            exact Runs.ret_eq (by rw [stop ho])
          · simp +decide (disch := first | omega | (simp only [ll]; omega)) only [if_pos, go_sem, Nat.reduceAdd, Nat.reduceMul, Nat.reduceSub]
            have ho : okC s.data.toList[i] = true := by simp only [okC, h1, dashC, h4, Bool.or_true]
            refine ih (i + 1) _ (by omega) ⟨by omega, next ho⟩ ?_
            simp [go_sem, ilAnn, ilSt]
      · simp +decide (disch := first | omega | (simp only [ll]; omega)) only [if_pos, go_sem, Nat.reduceAdd, Nat.reduceMul, Nat.reduceSub]
        refine ih (i + 1) _ (by omega) ⟨by omega, next (by simp only [okC, h1]; simp)⟩ ?_
        simp [go_sem, ilAnn, ilSt]
    · have hge : i = s.size := by simp at h; omega
      rw [List.drop_of_length_le (by omega), List.all_nil] at hr
      simp +decide only [go_sem, Nat.reduceAdd, Nat.reduceMul, Nat.reduceSub]
      refine Runs.call (within hm _ 1 20) ?_
      cases h1 : inB s.size 1 20
      · simp +decide only [go_sem, Nat.reduceAdd, Nat.reduceMul, Nat.reduceSub]
        exact Runs.ret_eq (by rw [labelB, h1]; simp)
      · have hp : 1 ≤ s.size := by simp [inB] at h1; omega
        have ht : ((s.size : Int) - 1).toNat = s.size - 1 := by omega
        have hb0 : decide ((0 : Int) ≤ 0 ∧ (0 : Int) < s.size) = true := by simp; omega
        have hb1 : decide (0 ≤ (s.size : Int) - 1 ∧ (s.size : Int) - 1 < s.size) = true := by simp; omega
        have t0 : Int.toNat 0 = 0 := rfl
        simp +decide (disch := first | omega | (simp only [ll]; omega)) only [hb0, t0, if_pos, go_sem, Nat.reduceAdd, Nat.reduceMul, Nat.reduceSub]
        cases h2 : dashC (s.data.toList.getD 0 0) <;> (unfold dashC at h2; simp +decide (disch := first | omega | (simp only [ll]; omega)) only [h2, ht, hb1, if_pos, go_sem, Nat.reduceAdd, Nat.reduceMul, Nat.reduceSub]; exact Runs.ret_eq (by simp only [labelB, dashC, ← hr, h1, h2, Bool.true_and, Bool.not_false, Bool.not_true, Bool.false_and]))
include hm in
theorem notLabel (s : ByteArray) (h : s.size ≤ 1048576) : Holds Tryz.prog 147 [.v (.string s)] [] (.v (.bool (!labelB s))) [] := by
  refine holds_of (ann := []) tabOk hm Tryz.func147 (by kernel_rfl) rfl ?_
  simp +decide only [Tryz.f147, go_sem, Nat.reduceAdd, Nat.reduceMul, Nat.reduceSub]
  refine Runs.call (isLabel hm s h) ?_
  simp +decide only [go_sem, Nat.reduceAdd, Nat.reduceMul, Nat.reduceSub]
  exact Runs.ret_v
def ifAnn : Ann := [(0, [0, 1, 7, 8])]
def ifSt (f : A) (L : List ByteArray) (i : Nat) : St := ⟨[.sl .sh (L.map strA), f, .any, .any, .any, .any, .any, .v (.int .i64 L.length), .v (.int .i64 i), .any, .any, .any, .any, .any, .any, .any, .any, .any, .any], [], []⟩
include hm in
theorem indexFunc0 (g : Nat) (L : List ByteArray) (q : ByteArray → Bool) (h : L.length ≤ 1048576) (hq : ∀ s ∈ L, Holds Tryz.prog g [.v (.string s)] [] (.v (.bool (q s))) []) :
    ∃ n : Int, decide (n ≥ 0) = L.any q ∧ Holds Tryz.prog 178 [.sl .sh (L.map strA), .v (.func (.func g) #[] #[])] [] (.v (.int .i64 n)) [] := by
  refine ⟨if L.any q = true then (L.findIdx q : Int) else -1, by cases h : L.any q <;> simp, ?_⟩
  refine holds_of (ann := ifAnn) tabOk hm Tryz.func178 (by kernel_rfl) rfl ?_
  simp +decide only [Tryz.f178, go_sem, Nat.reduceAdd, Nat.reduceMul, Nat.reduceSub]
  have ha : (L.map strA).length = L.length := List.length_map _
  refine Runs.while (α := Nat) (ifSt (.v (.func (.func g) #[] #[])) L) (fun i => L.length - i) (fun i => i ≤ L.length ∧ ∀ j (hj : j < L.length), j < i → q L[j] = false) 0 ⟨by omega, fun _ _ h => absurd h (by omega)⟩ ?_ ?_
  · simp [go_sem, ifAnn, ifSt]
  · rintro i ⟨hi, hn⟩ ih
    simp +decide only [ifSt, ha, go_sem, Nat.reduceAdd, Nat.reduceMul, Nat.reduceSub]
    refine Runs.split (fun h => ?_) (fun h => ?_)
    · have hlt : i < L.length := by simpa using h
      have hg : (L.map strA).getD i .any = .v (.string L[i]) := by simp [List.getD, hlt, strA]
      simp +decide (disch := first | omega | (simp only [ll]; omega)) only [ha, hg, if_pos, go_sem, Nat.reduceAdd, Nat.reduceMul, Nat.reduceSub]
      refine Runs.call (hq L[i] (List.getElem_mem hlt)) ?_
      cases h2 : q L[i]
      · simp +decide (disch := first | omega | (simp only [ll]; omega)) only [if_pos, go_sem, Nat.reduceAdd, Nat.reduceMul, Nat.reduceSub]
        refine ih (i + 1) _ (by omega) ⟨by omega, fun j hj hji => ?_⟩ ?_
        · rcases Nat.lt_or_ge j i with h3 | h3
          · exact hn j hj h3
          · have : j = i := by omega
            subst this; exact h2
        · simp [go_sem, ifAnn, ifSt]
      · simp +decide (disch := first | omega | (simp only [ll]; omega)) only [if_pos, go_sem, Nat.reduceAdd, Nat.reduceMul, Nat.reduceSub]
        have e1 : L.any q = true := List.any_eq_true.mpr ⟨L[i], List.getElem_mem hlt, h2⟩
        have e2 : L.findIdx q = i := (List.findIdx_eq hlt).mpr ⟨h2, fun j hj => hn j (by omega) hj⟩
        exact Runs.ret_eq (by rw [e1, e2]; rfl)
    · have hge : i = L.length := by simp at h; omega
      have e1 : L.any q = false := by
        rw [List.any_eq_false]
        intro x hx
        obtain ⟨j, hj, rfl⟩ := List.getElem_of_mem hx
        rw [hn j hj (by omega)]; simp
      simp +decide only [go_sem, Nat.reduceAdd, Nat.reduceMul, Nat.reduceSub]
      exact Runs.ret_eq (by rw [e1]; rfl)
include hm in
theorem contFunc0 (g : Nat) (L : List ByteArray) (q : ByteArray → Bool) (h : L.length ≤ 1048576) (hq : ∀ s ∈ L, Holds Tryz.prog g [.v (.string s)] [] (.v (.bool (q s))) []) :
    Holds Tryz.prog 142 [.sl .sh (L.map strA), .v (.func (.func g) #[] #[])] [] (.v (.bool (L.any q))) [] := by
  refine holds_of (ann := []) tabOk hm Tryz.func142 (by kernel_rfl) rfl ?_
  simp +decide only [Tryz.f142, go_sem, Nat.reduceAdd, Nat.reduceMul, Nat.reduceSub]
  obtain ⟨n, hn, hc⟩ := indexFunc0 hm g L q h hq
  refine Runs.call hc ?_
  simp +decide only [hn, go_sem, Nat.reduceAdd, Nat.reduceMul, Nat.reduceSub]
  exact Runs.ret_v
include hm in
theorem indexFunc2 (g : Nat) (hst : Nat) (L : List ByteArray) (q : ByteArray → Bool) (h : L.length ≤ 1048576) (hq : ∀ s ∈ L, Holds Tryz.prog g [.v (.string s), .ptr [.v (.func (.func hst) #[] #[])] 0 0] [] (.v (.bool (q s))) []) :
    ∃ n : Int, decide (n ≥ 0) = L.any q ∧ Holds Tryz.prog 178 [.sl .sh (L.map strA), .fn (.func g) [] [.ptr [.v (.func (.func hst) #[] #[])] 0 0]] [] (.v (.int .i64 n)) [] := by
  refine ⟨if L.any q = true then (L.findIdx q : Int) else -1, by cases h : L.any q <;> simp, ?_⟩
  refine holds_of (ann := ifAnn) tabOk hm Tryz.func178 (by kernel_rfl) rfl ?_
  simp +decide only [Tryz.f178, go_sem, Nat.reduceAdd, Nat.reduceMul, Nat.reduceSub]
  have ha : (L.map strA).length = L.length := List.length_map _
  refine Runs.while (α := Nat) (ifSt (.fn (.func g) [] [.ptr [.v (.func (.func hst) #[] #[])] 0 0]) L) (fun i => L.length - i) (fun i => i ≤ L.length ∧ ∀ j (hj : j < L.length), j < i → q L[j] = false) 0 ⟨by omega, fun _ _ h => absurd h (by omega)⟩ ?_ ?_
  · simp [go_sem, ifAnn, ifSt]
  · rintro i ⟨hi, hn⟩ ih
    simp +decide only [ifSt, ha, go_sem, Nat.reduceAdd, Nat.reduceMul, Nat.reduceSub]
    refine Runs.split (fun h => ?_) (fun h => ?_)
    · have hlt : i < L.length := by simpa using h
      have hg : (L.map strA).getD i .any = .v (.string L[i]) := by simp [List.getD, hlt, strA]
      simp +decide (disch := first | omega | (simp only [ll]; omega)) only [ha, hg, if_pos, go_sem, Nat.reduceAdd, Nat.reduceMul, Nat.reduceSub]
      refine Runs.call (hq L[i] (List.getElem_mem hlt)) ?_
      cases h2 : q L[i]
      · simp +decide (disch := first | omega | (simp only [ll]; omega)) only [if_pos, go_sem, Nat.reduceAdd, Nat.reduceMul, Nat.reduceSub]
        refine ih (i + 1) _ (by omega) ⟨by omega, fun j hj hji => ?_⟩ ?_
        · rcases Nat.lt_or_ge j i with h3 | h3
          · exact hn j hj h3
          · have : j = i := by omega
            subst this; exact h2
        · simp [go_sem, ifAnn, ifSt]
      · simp +decide (disch := first | omega | (simp only [ll]; omega)) only [if_pos, go_sem, Nat.reduceAdd, Nat.reduceMul, Nat.reduceSub]
        have e1 : L.any q = true := List.any_eq_true.mpr ⟨L[i], List.getElem_mem hlt, h2⟩
        have e2 : L.findIdx q = i := (List.findIdx_eq hlt).mpr ⟨h2, fun j hj => hn j (by omega) hj⟩
        exact Runs.ret_eq (by rw [e1, e2]; rfl)
    · have hge : i = L.length := by simp at h; omega
      have e1 : L.any q = false := by
        rw [List.any_eq_false]
        intro x hx
        obtain ⟨j, hj, rfl⟩ := List.getElem_of_mem hx
        rw [hn j hj (by omega)]; simp
      simp +decide only [go_sem, Nat.reduceAdd, Nat.reduceMul, Nat.reduceSub]
      exact Runs.ret_eq (by rw [e1]; rfl)
include hm in
theorem contFunc2 (g : Nat) (hst : Nat) (L : List ByteArray) (q : ByteArray → Bool) (h : L.length ≤ 1048576) (hq : ∀ s ∈ L, Holds Tryz.prog g [.v (.string s), .ptr [.v (.func (.func hst) #[] #[])] 0 0] [] (.v (.bool (q s))) []) :
    Holds Tryz.prog 142 [.sl .sh (L.map strA), .fn (.func g) [] [.ptr [.v (.func (.func hst) #[] #[])] 0 0]] [] (.v (.bool (L.any q))) [] := by
  refine holds_of (ann := []) tabOk hm Tryz.func142 (by kernel_rfl) rfl ?_
  simp +decide only [Tryz.f142, go_sem, Nat.reduceAdd, Nat.reduceMul, Nat.reduceSub]
  obtain ⟨n, hn, hc⟩ := indexFunc2 hm g hst L q h hq
  refine Runs.call hc ?_
  simp +decide only [hn, go_sem, Nat.reduceAdd, Nat.reduceMul, Nat.reduceSub]
  exact Runs.ret_v
end Go.Proofs.W

namespace Go.Proofs.W
open Go Go.AM
variable (hm : Tryz.prog.follows .mixedOrders = true)
def digS : ByteArray := ⟨#[48, 49, 50, 51, 52, 53, 54, 55, 56, 57]⟩
def digSet (i : Nat) : List A := (List.range 256).map fun j => .v (.bool (decide (48 ≤ j ∧ j < 48 + i)))
theorem digSet_len (i : Nat) : (digSet i).length = 256 := by simp [digSet]
theorem digSet_get {i j : Nat} (h : j < 256) : (digSet i).getD j .any = .v (.bool (decide (48 ≤ j ∧ j < 48 + i))) := by
  rw [digSet, List.getD, List.getElem?_map, List.getElem?_range h]; rfl
theorem digSet_set {i : Nat} (h : i < 10) : (digSet i).set (48 + i) (.v (.bool true)) = digSet (i + 1) := by
  apply List.ext_getElem
  · rw [List.length_set, digSet_len, digSet_len]
  · intro j h1 h2
    rw [List.getElem_set]
    simp only [digSet, List.getElem_map, List.getElem_range]
    split
    · rename_i e
      rw [decide_eq_true (by omega)]
    · rename_i e
      have : decide (48 ≤ j ∧ j < 48 + i) = decide (48 ≤ j ∧ j < 48 + (i + 1)) := by
        rw [decide_eq_decide]; constructor <;> (intro h; omega)
      rw [this]
theorem digSet_zero : (repV 256 (.bool false)).map A.v = digSet 0 := by
  rw [digSet, repV]
  apply List.ext_getElem
  · rw [List.length_map, List.length_replicate, List.length_map, List.length_range]
  · intro j h1 h2
    rw [List.getElem_map, List.getElem_replicate, List.getElem_map, List.getElem_range, decide_eq_false (by omega)]
theorem digSet_keep (st : St) (ks : List Nat) (i : Nat) : (digSet i).map (keepC st ks) = digSet i := by
  rw [digSet, List.map_map]; rfl
theorem digSet_ids (i : Nat) : (digSet i).flatMap cellIds = [] := by
  rw [List.flatMap_eq_nil_iff]
  intro x hx
  rw [digSet, List.mem_map] at hx
  obtain ⟨j, _, rfl⟩ := hx; rfl
theorem roL_vs (g : Go.AM.Id → Option Go.AM.Id) (vs : List Value) : roL g (vs.map .v) = vs.map .v := by
  induction vs with
  | nil => simp [roL]
  | cons v l ih => rw [List.map_cons, roL, A.ro, ih]
theorem outL_bs (st : St) (vs : List Bool) : outL st (vs.map fun b => .v (.bool b)) = some (vs.map fun b => .v (.bool b), st) := by
  induction vs with
  | nil => simp [outL]
  | cons v l ih => simp [outL, ih, outC, insC, Value.oneCell']
theorem inL_bs (st : St) (n : Nat) (vs : List Bool) : inL st n (vs.map fun b => .v (.bool b)) = some (vs.map fun b => .v (.bool b), st) := by
  induction vs generalizing n with
  | nil => simp [inL]
  | cons v l ih => simp [inL, ih, inC]
theorem digSet_in (st : St) (n i : Nat) : inL st n (digSet i) = some (digSet i, st) := by
  have e : digSet i = ((List.range 256).map fun j => decide (48 ≤ j ∧ j < 48 + i)).map fun b => .v (.bool b) := by rw [digSet, List.map_map]; rfl
  rw [e, inL_bs]
theorem digSet_vs (i : Nat) : digSet i = ((List.range 256).map fun j => Value.bool (decide (48 ≤ j ∧ j < 48 + i))).map .v := by
  rw [digSet, List.map_map]; rfl
theorem rnL_vs (g : Go.AM.Id → Go.AM.Id) (vs : List Value) : rnL g (vs.map .v) = vs.map .v := by
  rw [rnL_eq, List.map_map]; rfl
theorem rdL_vs (g : Go.AM.Id → Option Go.AM.Id) (vs : List Value) : rdL g (vs.map .v) = vs.map .v := by
  rw [rdL_eq, List.map_map]; rfl
theorem digSet_rn (g : Go.AM.Id → Go.AM.Id) (i : Nat) : rnL g (digSet i) = digSet i := by rw [digSet_vs, rnL_vs]
theorem digSet_rd (g : Go.AM.Id → Option Go.AM.Id) (i : Nat) : rdL g (digSet i) = digSet i := by rw [digSet_vs, rdL_vs]
theorem digSet_ro (g : Go.AM.Id → Option Go.AM.Id) (i : Nat) : roL g (digSet i) = digSet i := by rw [digSet_vs, roL_vs]
theorem digSet_out (st : St) (i : Nat) : outL st (digSet i) = some (digSet i, st) := by
  have e : digSet i = ((List.range 256).map fun j => decide (48 ≤ j ∧ j < 48 + i)).map fun b => .v (.bool b) := by rw [digSet, List.map_map]; rfl
  rw [e, outL_bs]
theorem setCells_end : ∀ (vs cs : List A) (off : Nat), off + vs.length = cs.length → setCells cs off vs = cs.take off ++ vs
  | [], cs, off, h => by simp [setCells]; rw [List.take_of_length_le (by simp at h; omega)]
  | v :: vs, cs, off, h => by
    simp at h
    rw [setCells, setCells_end vs _ _ (by simp; omega), List.take_add_one, List.getElem?_set_self (by omega)]
    rw [List.take_set_of_le (Nat.le_refl _)]; simp
theorem digSet_setCells (i j : Nat) : setCells (digSet i) 0 (digSet j) = digSet j := by
  rw [setCells_end _ _ _ (by rw [digSet_len, digSet_len])]; rfl
theorem digSet_take (i : Nat) : (digSet i).take 256 = digSet i := List.take_of_length_le (by rw [digSet_len]; exact Nat.le_refl _)
attribute [local go_sem] digSet_keep digSet_ids digSet_ro digSet_out digSet_setCells digSet_take digSet_len digSet_zero
theorem digS_get {i : Nat} (h : i < 10) : (digS.data.toList.getD i 0).toNat = 48 + i := by
  have : i = 0 ∨ i = 1 ∨ i = 2 ∨ i = 3 ∨ i = 4 ∨ i = 5 ∨ i = 6 ∨ i = 7 ∨ i = 8 ∨ i = 9 := by omega
  rcases this with h | h | h | h | h | h | h | h | h | h <;> subst h <;> rfl
def maAnn : Ann := [(0, [0, 2, 3, 4])]
def maSt (i : Nat) : St := ⟨[.v (.string digS), .any, .ref (.l 0) 0 0 1, .v (.bool false), .v (.int .i64 i), .any, .any, .any, .any, .any, .any, .any, .any, .any, .any, .any, .any, .any, .any, .any, .any], [(0, ⟨true, 256, true, [.agg (digSet i)]⟩)], []⟩
set_option maxRecDepth 10000 in
include hm in
theorem makeSet : Holds Tryz.prog 185 [.v (.string digS)] [] (.tup [.agg (digSet 10), .v (.bool true)]) [] := by
  refine holds_of (ann := maAnn) tabOk hm Tryz.func185 (by kernel_rfl) rfl ?_
  simp +decide only [Tryz.f185, go_sem, Nat.reduceAdd, Nat.reduceMul, Nat.reduceSub]
  have hsz : digS.size = 10 := rfl
  have hl := digSet_len
  refine Runs.while (α := Nat) maSt (fun i => 10 - i) (fun i => i ≤ 10) 0 (by omega) ?_ ?_
  · simp [go_sem, maAnn, maSt]
  · intro i hi ih
    have hs10 : ((digS.size : Nat) : Int) = 10 := rfl
    simp +decide only [maSt, hs10, go_sem, Nat.reduceAdd, Nat.reduceMul, Nat.reduceSub]
    refine Runs.split (fun h => ?_) (fun h => ?_)
    · have hlt : i < 10 := by simp at h; omega
      have hg := digS_get hlt
      have t1 : (((48 + i : Nat) : Int)).toNat = 48 + i := by omega
      simp +decide (disch := first | omega | (simp only [ll]; omega)) only [hg, hs10, hsz, t1, if_pos, go_sem, Nat.reduceAdd, Nat.reduceMul, Nat.reduceSub]
      have d1 : decide (((48 + i : Nat) : Int) ≥ 128) = false := by simp; omega
      have hb : decide ((0 : Int) ≤ ((48 + i : Nat) : Int) ∧ ((48 + i : Nat) : Int) < 256) = true := by simp; omega
      have hset := digSet_set hlt
      simp +decide (disch := first | omega | (simp only [ll]; omega)) only [d1, hb, t1, Nat.mul_one, hset, if_pos, go_sem, Nat.reduceAdd, Nat.reduceMul, Nat.reduceSub]
      refine ih (i + 1) _ (by omega) (by omega) ?_
      simp [go_sem, maAnn, maSt]
    · have hge : i = 10 := by simp at h; omega
      subst hge
      simp +decide (disch := first | omega | (simp only [ll]; omega)) only [if_pos, go_sem, Nat.reduceAdd, Nat.reduceMul, Nat.reduceSub]
      exact Runs.ret_refl
end Go.Proofs.W

namespace Go.Proofs.W
open Go Go.AM
set_option maxRecDepth 10000
variable (hm : Tryz.prog.follows .mixedOrders = true)
attribute [local go_sem] digSet_keep digSet_ids digSet_ro digSet_out digSet_setCells digSet_take digSet_len digSet_zero digSet_rn digSet_rd digSet_in
def setBlk : Blk := ⟨true, 256, true, [.agg (digSet 10)]⟩
attribute [local go_sem] setBlk
def trR (l : List UInt8) : List UInt8 := (l.reverse.dropWhile digC).reverse
def trimD (s : ByteArray) : ByteArray := mkS ((trR s.data.toList).dropWhile digC)
theorem trR_snoc (l : List UInt8) (b : UInt8) : trR (l ++ [b]) = if digC b = true then trR l else l ++ [b] := by
  simp only [trR, List.reverse_append, List.reverse_cons, List.reverse_nil, List.nil_append, List.cons_append, List.dropWhile_cons]
  split <;> simp
theorem drop_nil (l : List UInt8) : l.dropWhile digC = [] ↔ l.all digC = true := by
  induction l with
  | nil => simp
  | cons b l ih => cases h : digC b <;> simp [h, ih]
theorem trimD_nil (s : ByteArray) : ((trimD s).toList == (⟨#[]⟩ : ByteArray).toList) = s.data.toList.all digC := by
  have e1 : ((trimD s).toList == (⟨#[]⟩ : ByteArray).toList) = decide ((trR s.data.toList).dropWhile digC = []) := by
    rw [Lib.toList_data, Lib.toList_data, trimD, mkS_data, Bool.eq_iff_iff, beq_iff_eq, decide_eq_true_iff]
  rw [e1, Bool.eq_iff_iff, decide_eq_true_iff, drop_nil]
  rw [trR, List.all_reverse]
  have h := drop_nil s.data.toList.reverse
  rw [List.all_reverse] at h
  rw [← h]
  have h2 : ∀ m : List UInt8, (m.dropWhile digC).all digC = true ↔ m.dropWhile digC = [] := by
    intro m
    induction m with
    | nil => simp
    | cons b l ih => cases h : digC b <;> simp [List.dropWhile_cons, h, ih]
  exact h2 _
include hm in
theorem setHas (b : UInt8) : Holds Tryz.prog 206 [.ref (.x 0) 0 0 1, .v (.int .u8 b.toNat)] [setBlk] (.v (.bool (digC b))) [setBlk] := by
  refine holds_ref (ann := []) tabOk hm (byL [206] []) Tryz.func206 (by kernel_rfl) rfl ?_
  have hb := UInt8.toNat_lt b
  have hg : (digSet 10).getD b.toNat .any = .v (.bool (digC b)) := by
    rw [digSet_get (by omega)]; congr 2; simp only [digC, inB]; rw [Bool.eq_iff_iff]; simp; omega
  have hb1 : decide ((0 : Int) ≤ (b.toNat : Int) ∧ (b.toNat : Int) < 256) = true := by simp; omega
  simp +decide (disch := first | omega | (simp only [ll]; omega)) only [Tryz.f206, setBlk, hg, hb1, Nat.mul_one, Nat.zero_add, if_pos, go_sem, Nat.reduceAdd, Nat.reduceMul, Nat.reduceSub]
  exact Runs.ret_v
def tlAnn : Ann := [(0, [0, 1])]
def tlSt (l : List UInt8) : St := ⟨[.v (.string (mkS l)), .ref (.x 0) 0 0 1, .any, .any, .any, .any, .any, .any, .any, .any, .any, .any, .any, .any, .any, .any], [], [setBlk]⟩
include hm in
theorem trimLeft (l : List UInt8) (h : l.length ≤ 1048576) : Holds Tryz.prog 186 [.v (.string (mkS l)), .ref (.x 0) 0 0 1] [setBlk] (.v (.string (mkS (l.dropWhile digC)))) [setBlk] := by
  refine holds_ref (ann := tlAnn) tabOk hm (byL [206] []) Tryz.func186 (by kernel_rfl) rfl ?_
  simp +decide only [Tryz.f186, setBlk, go_sem, Nat.reduceAdd, Nat.reduceMul, Nat.reduceSub]
  refine Runs.while (α := List UInt8) tlSt (fun r => r.length) (fun r => r.length ≤ l.length ∧ r.dropWhile digC = l.dropWhile digC) l ⟨Nat.le_refl _, rfl⟩ ?_ ?_
  · simp [go_sem, tlAnn, tlSt, setBlk]
  · rintro r ⟨hr1, hr2⟩ ih
    have hz := mkS_size r
    simp +decide only [tlSt, setBlk, go_sem, Nat.reduceAdd, Nat.reduceMul, Nat.reduceSub]
    refine Runs.split (fun h => ?_) (fun h => ?_)
    · cases r with
      | nil => rw [hz] at h; simp at h
      | cons b r =>
        have hg : (mkS (b :: r)).data.toList.getD (Int.toNat 0) 0 = b := by rw [mkS_data]; rfl
        have hb0 : decide ((0 : Int) < ((mkS (b :: r)).size : Int)) = true := by rw [hz]; simp
        simp +decide (disch := first | omega | (simp only [ll]; omega)) only [hg, hb0, if_pos, go_sem, Nat.reduceAdd, Nat.reduceMul, Nat.reduceSub]
        have e1 : (mkS (b :: r)).extract 1 (mkS (b :: r)).size = mkS r := by rw [mkS_ext, mkS_data, hz]; simp
        refine Runs.call (setHas hm b) ?_
        cases hb : digC b
        · simp +decide only [go_sem, Nat.reduceAdd, Nat.reduceMul, Nat.reduceSub]
          refine Runs.ret_eq ?_
          rw [← hr2, List.dropWhile_cons, hb]; rfl
        · have hb2 : decide ((1 : Int) ≤ ((mkS (b :: r)).size : Int) ∧ ((mkS (b :: r)).size : Int) ≤ ((mkS (b :: r)).size : Int)) = true := by rw [hz]; simp; omega
          have t1 : Int.toNat 1 = 1 := rfl
          have hb3 : decide ((0 : Int) ≤ 1 ∧ (1 : Int) ≤ ((mkS (b :: r)).size : Int) ∧ ((mkS (b :: r)).size : Int) ≤ ((mkS (b :: r)).size : Int)) = true := by rw [hz]; simp; omega
          simp +decide (disch := first | omega | (simp only [ll]; omega)) only [e1, hb2, t1, hb3, if_pos, go_sem, Nat.reduceAdd, Nat.reduceMul, Nat.reduceSub]
          refine ih r _ (by simp) ⟨by simp at hr1; omega, by rw [← hr2, List.dropWhile_cons, hb]; rfl⟩ ?_
          simp [go_sem, tlAnn, tlSt, setBlk, e1]
    · have : r = [] := by rw [hz] at h; simp at h; exact h
      subst this
      simp +decide only [go_sem, Nat.reduceAdd, Nat.reduceMul, Nat.reduceSub]
      exact Runs.ret_eq (by rw [← hr2]; rfl)
def trAnn : Ann := [(0, [0, 1])]
def trSt (l : List UInt8) : St := ⟨[.v (.string (mkS l)), .ref (.x 0) 0 0 1, .any, .any, .any, .any, .any, .any, .any, .any, .any, .any, .any, .any, .any, .any, .any, .any, .any, .any, .any, .any], [], [setBlk]⟩
include hm in
theorem trimRight (l : List UInt8) (h : l.length ≤ 1048576) : Holds Tryz.prog 187 [.v (.string (mkS l)), .ref (.x 0) 0 0 1] [setBlk] (.v (.string (mkS (trR l)))) [setBlk] := by
  refine holds_ref (ann := trAnn) tabOk hm (byL [206] []) Tryz.func187 (by kernel_rfl) rfl ?_
  simp +decide only [Tryz.f187, setBlk, go_sem, Nat.reduceAdd, Nat.reduceMul, Nat.reduceSub]
  refine Runs.while (α := List UInt8) trSt (fun r => r.length) (fun r => r.length ≤ l.length ∧ trR r = trR l) l ⟨Nat.le_refl _, rfl⟩ ?_ ?_
  · simp [go_sem, trAnn, trSt, setBlk]
  · rintro r ⟨hr1, hr2⟩ ih
    have hz := mkS_size r
    simp +decide only [trSt, setBlk, go_sem, Nat.reduceAdd, Nat.reduceMul, Nat.reduceSub]
    refine Runs.split (fun h => ?_) (fun h => ?_)
    · obtain ⟨q, b, rfl⟩ : ∃ q b, r = q ++ [b] := by
        have hne : r ≠ [] := by intro e; rw [hz, e] at h; simp at h
        exact ⟨r.dropLast, r.getLast hne, (List.dropLast_concat_getLast hne).symm⟩
      have hzn : (mkS (q ++ [b])).size = q.length + 1 := by rw [hz]; simp
      have t2 : (((mkS (q ++ [b])).size : Int) - 1).toNat = q.length := by rw [hzn]; omega
      have hg : (mkS (q ++ [b])).data.toList.getD q.length 0 = b := by rw [mkS_data]; simp [List.getD]
      have hb0 : decide ((0 : Int) ≤ ((mkS (q ++ [b])).size : Int) - 1 ∧ ((mkS (q ++ [b])).size : Int) - 1 < ((mkS (q ++ [b])).size : Int)) = true := by rw [hzn]; simp; omega
      have w1 : IntKind.i64.wrap (((mkS (q ++ [b])).size : Int) - 1) = ((mkS (q ++ [b])).size : Int) - 1 := wrap_i64 (by omega) (by rw [hz]; omega)
      simp +decide (disch := first | omega | (simp only [ll]; omega)) only [w1, t2, hg, hb0, if_pos, go_sem, Nat.reduceAdd, Nat.reduceMul, Nat.reduceSub]
      refine Runs.call (setHas hm b) ?_
      have e1 : (mkS (q ++ [b])).extract 0 q.length = mkS q := by rw [mkS_ext, mkS_data]; simp
      cases hb : digC b
      · simp +decide only [go_sem, Nat.reduceAdd, Nat.reduceMul, Nat.reduceSub]
        refine Runs.ret_eq ?_
        rw [← hr2, trR_snoc, hb]; rfl
      · have hb3 : decide ((0 : Int) ≤ 0 ∧ (0 : Int) ≤ ((mkS (q ++ [b])).size : Int) - 1 ∧ ((mkS (q ++ [b])).size : Int) - 1 ≤ ((mkS (q ++ [b])).size : Int)) = true := by rw [hzn]; simp; omega
        have hb4 : decide ((0 : Int) ≤ ((mkS (q ++ [b])).size : Int) - 1 ∧ ((mkS (q ++ [b])).size : Int) - 1 ≤ ((mkS (q ++ [b])).size : Int)) = true := by rw [hzn]; simp; omega
        have t0 : Int.toNat 0 = 0 := rfl
        simp +decide (disch := first | omega | (simp only [ll]; omega)) only [w1, t0, t2, e1, hb3, hb4, if_pos, go_sem, Nat.reduceAdd, Nat.reduceMul, Nat.reduceSub]
        refine ih q _ (by simp) ⟨by simp at hr1; omega, by rw [← hr2, trR_snoc, hb]; rfl⟩ ?_
        simp [go_sem, trAnn, trSt, setBlk, e1]
    · have : r = [] := by rw [hz] at h; simp at h; exact h
      subst this
      simp +decide only [go_sem, Nat.reduceAdd, Nat.reduceMul, Nat.reduceSub]
      exact Runs.ret_eq (by rw [← hr2]; rfl)
include hm in
theorem trim1 (s : ByteArray) (h : s.size ≤ 1048576) : Holds Tryz.prog 149 [.v (.string s), .v (.string digS)] [] (.v (.string (trimD s))) [] := by
  refine holds_ref (ann := []) tabOk hm (byL [187, 186] []) Tryz.func149 (by kernel_rfl) rfl ?_
  have hd : (digS.toList == (⟨#[]⟩ : ByteArray).toList) = false := by rw [Lib.toList_data, Lib.toList_data]; decide
  have hs10 : ((digS.size : Nat) : Int) = 10 := rfl
  have hz := list_size s
  have hle : (trR s.data.toList).length ≤ s.size := by
    rw [trR, List.length_reverse]
    have := (List.dropWhile_sublist (p := digC) (l := s.data.toList.reverse)).length_le
    rw [List.length_reverse, hz] at this; exact this
  simp +decide only [Tryz.f149, go_sem, Nat.reduceAdd, Nat.reduceMul, Nat.reduceSub]
  refine Runs.split (fun h2 => ?_) (fun h2 => ?_)
  · have e : s = ⟨#[]⟩ := by
      rw [beq_iff_eq, Lib.toList_data, Lib.toList_data] at h2
      rw [← mkS_list s, h2]; rfl
    simp +decide only [go_sem, Nat.reduceAdd, Nat.reduceMul, Nat.reduceSub]
    exact Runs.ret_eq (by rw [e]; rfl)
  · simp +decide only [hd, hs10, go_sem, Nat.reduceAdd, Nat.reduceMul, Nat.reduceSub]
    refine Runs.call (makeSet hm) ?_
    simp +decide only [go_sem, Nat.reduceAdd, Nat.reduceMul, Nat.reduceSub]
    have c1 := trimRight hm s.data.toList (by omega)
    rw [mkS_list, setBlk] at c1
    refine Runs.call c1 ?_
    simp +decide only [go_sem, Nat.reduceAdd, Nat.reduceMul, Nat.reduceSub]
    have c2 := trimLeft hm (trR s.data.toList) (by omega)
    rw [setBlk] at c2
    refine Runs.call c2 ?_
    simp +decide only [go_sem, Nat.reduceAdd, Nat.reduceMul, Nat.reduceSub]
    exact Runs.ret_eq rfl
end Go.Proofs.W

namespace Go.Proofs.W
open Go Go.AM
set_option maxRecDepth 10000
variable (hm : Tryz.prog.follows .mixedOrders = true)
def l8pAnn : Ann := [(0, [0, 1, 5, 6, 7])]
def l8pSt (s : ByteArray) (p : List ByteArray × Nat × Nat) : St := ⟨[.v (.string s), .v (.int .u8 46), .any, .any, .any, .ms (.l 0) 0 p.1.length p.1.length, .v (.int .i64 p.2.1), .v (.int .i64 p.2.2), .any, .any, .any, .any, .any, .any, .any, .any, .any, .any, .any, .any, .any, .any, .any, .any, .any, .any, .any, .any, .any, .any, .any, .any, .any, .any, .any], [(0, ⟨true, 1, false, p.1.map strA⟩)], []⟩
include hm in
theorem l8Parts (s : ByteArray) (h : s.size ≤ 1048576) : Holds Tryz.prog 172 [.v (.string s), .v (.int .u8 46)] [] (.sl (.ow 1) ((partsB s).map strA)) [] := by
  refine holds_of (ann := l8pAnn) tabOk hm Tryz.func172 (by kernel_rfl) rfl ?_
  simp +decide only [Tryz.f172, go_sem, Nat.reduceAdd, Nat.reduceMul, Nat.reduceSub]
  have hz := list_size s
  refine Runs.while (α := List ByteArray × Nat × Nat) (l8pSt s) (fun p => s.size - p.2.2) (fun p => p.2.1 ≤ p.2.2 ∧ p.2.2 ≤ s.size ∧ p.1.length ≤ p.2.2 ∧ (∀ b ∈ (s.data.toList.drop p.2.1).take (p.2.2 - p.2.1), b ≠ 46) ∧ partsB s = p.1 ++ partsB (mkS (s.data.toList.drop p.2.1))) ([], 0, 0) ⟨Nat.le_refl _, Nat.zero_le _, Nat.zero_le _, by simp, by simp [mkS_list]⟩ ?_ ?_
  · simp [go_sem, l8pAnn, l8pSt]
  · rintro ⟨D, f, i⟩ ⟨hf, hi, hd, hn, hp⟩ ih
    simp only at hf hi hd hn hp
    have hD : (D.map strA).length = D.length := List.length_map _
    simp +decide only [l8pSt, hD, go_sem, Nat.reduceAdd, Nat.reduceMul, Nat.reduceSub]
    refine Runs.split (fun h => ?_) (fun h => ?_)
    · have hlt : i < s.data.toList.length := by simp at h; omega
      have hg : s.data.toList.getD i 0 = s.data.toList[i] := getD_lt hlt
      have hb := UInt8.toNat_lt s.data.toList[i]
      simp +decide (disch := first | omega | (simp only [ll]; omega)) only [hg, if_pos, go_sem, Nat.reduceAdd, Nat.reduceMul, Nat.reduceSub]
      have e1 : s.data.toList.drop f = (s.data.toList.drop f).take (i - f) ++ s.data.toList[i] :: s.data.toList.drop (i + 1) := by
        conv => lhs; rw [← List.take_append_drop (i - f) (s.data.toList.drop f)]
        rw [List.drop_drop, show f + (i - f) = i by omega, List.drop_eq_getElem_cons hlt]
      refine Runs.split (fun h2 => ?_) (fun h2 => ?_)
      · have h46 : s.data.toList[i] = 46 := by
          simp only [decide_eq_true_eq] at h2
          exact UInt8.toNat_inj.mp (by simpa using Int.ofNat.inj h2)
        rw [h46] at e1
        simp +decide (disch := first | omega | (simp only [ll]; omega)) only [if_pos, go_sem, Nat.reduceAdd, Nat.reduceMul, Nat.reduceSub]
        have e2 : s.extract f i = mkS ((s.data.toList.drop f).take (i - f)) := mkS_ext s f i
        refine ih (D ++ [s.extract f i], i + 1, i + 1) _ (by simp only; omega) ⟨Nat.le_refl _, by simp only; omega, by simp; omega, by simp, ?_⟩ ?_
        · simp only
          rw [hp, partsB, mkS_data, e1, partsL_cut 46 _ _ hn, partsB, mkS_data, e2]
          simp
        · simp [go_sem, l8pAnn, l8pSt, strA]
      · have h46 : s.data.toList[i] ≠ 46 := by
          intro e
          simp [e] at h2
        simp +decide (disch := first | omega | (simp only [ll]; omega)) only [if_pos, go_sem, Nat.reduceAdd, Nat.reduceMul, Nat.reduceSub]
        refine ih (D, f, i + 1) _ (by simp only; omega) ⟨by simp only; omega, by simp only; omega, by simp only; omega, ?_, hp⟩ ?_
        · simp only
          intro b hb2
          rw [show i + 1 - f = i - f + 1 by omega, List.take_add_one, List.mem_append] at hb2
          rcases hb2 with hb2 | hb2
          · exact hn b hb2
          · rw [List.getElem?_drop, show f + (i - f) = i by omega, List.getElem?_eq_getElem hlt] at hb2
            simp at hb2
            rw [hb2]; exact h46
        · simp [go_sem, l8pAnn, l8pSt]
    · have hge : i = s.size := by simp at h; omega
      subst hge
      have hn2 : ∀ b ∈ s.data.toList.drop f, b ≠ 46 := by
        intro b hb
        refine hn b ?_
        rw [List.take_of_length_le (by simp)]; exact hb
      have hq : partsB (mkS (s.data.toList.drop f)) = [mkS (s.data.toList.drop f)] := by rw [partsB, mkS_data, partsL_no 46 _ hn2]; rfl
      rw [hq] at hp
      have e2 : s.extract f s.size = mkS (s.data.toList.drop f) := by
        rw [mkS_ext, List.take_of_length_le (by simp)]
      simp +decide (disch := first | omega | (simp only [ll]; omega)) only [List.length_append, List.length_cons, List.length_nil, if_pos, go_sem, Nat.reduceAdd, Nat.reduceMul, Nat.reduceSub]
      refine Runs.ret_eq ?_
      rw [hp, e2]
      simp [strA]
def l8dAnn : Ann := [(0, [0, 3])]
def l8dSt (s : ByteArray) (i : Nat) : St := ⟨[.v (.string s), .any, .any, .v (.int .i64 i), .any, .any, .any, .any, .any, .any, .any, .any, .any, .any, .any, .any, .any, .any, .any], [], []⟩
include hm in
theorem l8Digits (s : ByteArray) (h : s.size ≤ 1048576) : Holds Tryz.prog 174 [.v (.string s)] [] (.v (.bool (digitsB s))) [] := by
  refine holds_of (ann := l8dAnn) tabOk hm Tryz.func174 (by kernel_rfl) rfl ?_
  simp +decide only [Tryz.f174, go_sem, Nat.reduceAdd, Nat.reduceMul, Nat.reduceSub]
  have hz := list_size s
  refine Runs.while (α := Nat) (l8dSt s) (fun i => s.size - i) (fun i => i ≤ s.size ∧ (s.data.toList.drop i).all digC = s.data.toList.all digC) 0 ⟨by omega, by simp⟩ ?_ ?_
  · simp [go_sem, l8dAnn, l8dSt]
  · rintro i ⟨hi, hr⟩ ih
    simp +decide only [l8dSt, go_sem, Nat.reduceAdd, Nat.reduceMul, Nat.reduceSub]
    refine Runs.split (fun h => ?_) (fun h => ?_)
    · have hlt : i < s.data.toList.length := by simp at h; omega
      have hg : s.data.toList.getD i 0 = s.data.toList[i] := getD_lt hlt
      have hb := UInt8.toNat_lt s.data.toList[i]
      rw [List.drop_eq_getElem_cons hlt, List.all_cons] at hr
      simp +decide (disch := first | omega | (simp only [ll]; omega)) only [hg, if_pos, go_sem, Nat.reduceAdd, Nat.reduceMul, Nat.reduceSub]
      refine Runs.call (l1In hm _ 48 57) ?_
      simp +decide only [go_sem, Nat.reduceAdd, Nat.reduceMul, Nat.reduceSub]
      refine Runs.split (fun h2 => ?_) (fun h2 => ?_)
      · simp only [Bool.not_eq_true'] at h2
        simp +decide only [go_sem, Nat.reduceAdd, Nat.reduceMul, Nat.reduceSub]
        exact Runs.ret_eq (by rw [digitsB, ← hr, digC, h2]; simp)
      · simp only [Bool.not_eq_false'] at h2
        rw [digC, h2, Bool.true_and] at hr
        simp +decide (disch := first | omega | (simp only [ll]; omega)) only [if_pos, go_sem, Nat.reduceAdd, Nat.reduceMul, Nat.reduceSub]
        refine ih (i + 1) _ (by omega) ⟨by omega, hr⟩ ?_
        simp [go_sem, l8dAnn, l8dSt]
    · have hge : i = s.size := by simp at h; omega
      rw [List.drop_of_length_le (by omega), List.all_nil] at hr
      simp +decide only [go_sem, Nat.reduceAdd, Nat.reduceMul, Nat.reduceSub]
      exact Runs.ret_eq (by rw [digitsB, ← hr]; simp)
def l8lAnn : Ann := [(0, [0, 3])]
def l8lSt (s : ByteArray) (i : Nat) : St := ⟨[.v (.string s), .any, .any, .v (.int .i64 i), .any, .any, .any, .any, .any, .any, .any, .any, .any, .any, .any, .any, .any, .any, .any, .any, .any, .any, .any, .any, .any, .any, .any, .any, .any, .any, .any, .any, .any, .any, .any, .any, .any, .any, .any, .any, .any, .any, .any], [], []⟩
include hm in
theorem l8Label (s : ByteArray) (h : s.size ≤ 1048576) : Holds Tryz.prog 173 [.v (.string s)] [] (.v (.bool (labelB s))) [] := by
  refine holds_of (ann := l8lAnn) tabOk hm Tryz.func173 (by kernel_rfl) rfl ?_
  simp +decide only [Tryz.f173, go_sem, Nat.reduceAdd, Nat.reduceMul, Nat.reduceSub]
  have hz := list_size s
  refine Runs.while (α := Nat) (l8lSt s) (fun i => s.size - i) (fun i => i ≤ s.size ∧ (s.data.toList.drop i).all okC = s.data.toList.all okC) 0 ⟨by omega, by simp⟩ ?_ ?_
  · simp [go_sem, l8lAnn, l8lSt]
  · rintro i ⟨hi, hr⟩ ih
    simp +decide only [l8lSt, go_sem, Nat.reduceAdd, Nat.reduceMul, Nat.reduceSub]
    refine Runs.split (fun h => ?_) (fun h => ?_)
    · have hlt : i < s.data.toList.length := by simp at h; omega
      have hg : s.data.toList.getD i 0 = s.data.toList[i] := getD_lt hlt
      have hb := UInt8.toNat_lt s.data.toList[i]
      rw [List.drop_eq_getElem_cons hlt, List.all_cons] at hr
      have next : okC s.data.toList[i] = true → (s.data.toList.drop (i + 1)).all okC = s.data.toList.all okC := fun h => by rw [← hr, h, Bool.true_and]
      have stop : okC s.data.toList[i] = false → labelB s = false := fun h => by rw [labelB, ← hr, h]; simp
      simp +decide (disch := first | omega | (simp only [ll]; omega)) only [hg, if_pos, go_sem, Nat.reduceAdd, Nat.reduceMul, Nat.reduceSub]
      refine Runs.call (l1In hm _ 97 122) ?_
      cases h1 : inB s.data.toList[i].toNat 97 122
      · simp +decide only [go_sem, Nat.reduceAdd, Nat.reduceMul, Nat.reduceSub]
        refine Runs.call (l1In hm _ 48 57) ?_
        cases h2 : inB s.data.toList[i].toNat 48 57
        · simp +decide only [go_sem, Nat.reduceAdd, Nat.reduceMul, Nat.reduceSub]
          cases h3 : decide ((s.data.toList[i].toNat : Int) = 45)
          · simp +decide only [go_sem, Nat.reduceAdd, Nat.reduceMul, Nat.reduceSub]
            exact Runs.ret_eq (by rw [stop (by simp only [okC, digC, dashC, h1, h2, h3]; rfl)])
          · simp +decide (disch := first | omega | (simp only [ll]; omega)) only [if_pos, go_sem, Nat.reduceAdd, Nat.reduceMul, Nat.reduceSub]
            refine ih (i + 1) _ (by omega) ⟨by omega, next (by simp only [okC, digC, dashC, h1, h2, h3]; rfl)⟩ ?_
            simp [go_sem, l8lAnn, l8lSt]
        · simp +decide (disch := first | omega | (simp only [ll]; omega)) only [if_pos, go_sem, Nat.reduceAdd, Nat.reduceMul, Nat.reduceSub]
          refine ih (i + 1) _ (by omega) ⟨by omega, next (by simp only [okC, digC, dashC, h1, h2]; rfl)⟩ ?_
          simp [go_sem, l8lAnn, l8lSt]
      · simp +decide (disch := first | omega | (simp only [ll]; omega)) only [if_pos, go_sem, Nat.reduceAdd, Nat.reduceMul, Nat.reduceSub]
        refine ih (i + 1) _ (by omega) ⟨by omega, next (by simp only [okC, digC, dashC, h1]; rfl)⟩ ?_
        simp [go_sem, l8lAnn, l8lSt]
    · have hge : i = s.size := by simp at h; omega
      rw [List.drop_of_length_le (by omega), List.all_nil] at hr
      simp +decide only [go_sem, Nat.reduceAdd, Nat.reduceMul, Nat.reduceSub]
      refine Runs.call (l1In hm _ 1 20) ?_
      cases h1 : inB s.size 1 20
      · simp +decide only [go_sem, Nat.reduceAdd, Nat.reduceMul, Nat.reduceSub]
        exact Runs.ret_eq (by rw [labelB, h1]; simp)
      · have hp : 1 ≤ s.size := by simp [inB] at h1; omega
        have ht : ((s.size : Int) - 1).toNat = s.size - 1 := by omega
        have hb0 : decide ((0 : Int) ≤ 0 ∧ (0 : Int) < s.size) = true := by simp; omega
        have hb1 : decide (0 ≤ (s.size : Int) - 1 ∧ (s.size : Int) - 1 < s.size) = true := by simp; omega
        have t0 : Int.toNat 0 = 0 := rfl
        simp +decide (disch := first | omega | (simp only [ll]; omega)) only [hb0, t0, if_pos, go_sem, Nat.reduceAdd, Nat.reduceMul, Nat.reduceSub]
        cases h2 : dashC (s.data.toList.getD 0 0) <;> (unfold dashC at h2; simp +decide (disch := first | omega | (simp only [ll]; omega)) only [h2, ht, hb1, if_pos, go_sem, Nat.reduceAdd, Nat.reduceMul, Nat.reduceSub]; exact Runs.ret_eq (by simp only [labelB, dashC, ← hr, h1, h2, Bool.true_and, Bool.not_false, Bool.not_true, Bool.false_and]))
def shAnn : Ann := [(0, [0, 3, 4])]
def shSt (s : ByteArray) (i : Nat) : St := ⟨[.v (.string s), .any, .any, .ms (.l 0) 0 (partsB s).length (partsB s).length, .v (.int .i64 i), .any, .any, .any, .any, .any, .any, .any, .any, .any, .any, .any, .any, .any, .any, .any, .any, .any, .any, .any, .any, .any, .any, .any, .any, .any, .any, .any, .any, .any, .any], [(0, ⟨true, 1, false, (partsB s).map strA⟩)], []⟩
include hm in
theorem sHostOk (s : ByteArray) : Holds Tryz.prog 136 [.v (.string s)] [] (.v (.bool (hostB s))) [] := by
  refine holds_of (ann := shAnn) tabOk hm Tryz.func136 (by kernel_rfl) rfl ?_
  simp +decide only [Tryz.f136, go_sem, Nat.reduceAdd, Nat.reduceMul, Nat.reduceSub]
  refine Runs.split (fun h => ?_) (fun h => ?_)
  · simp +decide only [go_sem, Nat.reduceAdd, Nat.reduceMul, Nat.reduceSub]
    exact Runs.ret_eq (by simp at h; simp [hostB]; intros; omega)
  · have h80 : s.size ≤ 80 := by simp at h; omega
    simp +decide only [go_sem, Nat.reduceAdd, Nat.reduceMul, Nat.reduceSub]
    refine Runs.call (l8Parts hm s (by omega)) ?_
    have hlen : ((partsB s).map strA).length = (partsB s).length := List.length_map _
    have hle := partsB_le s
    have hpos : 1 ≤ (partsB s).length := by rw [partsB_len]; omega
    simp +decide (disch := first | omega | (simp only [ll]; omega)) only [if_pos, go_sem, Nat.reduceAdd, Nat.reduceMul, Nat.reduceSub]
    refine Runs.while (α := Nat) (shSt s) (fun i => (partsB s).length - i) (fun i => i ≤ (partsB s).length ∧ ((partsB s).drop i).all labelB = (partsB s).all labelB) 0 ⟨by omega, by simp⟩ ?_ ?_
    · simp [go_sem, shAnn, shSt]
    · rintro i ⟨hi, hr⟩ ih
      simp +decide only [shSt, hlen, go_sem, Nat.reduceAdd, Nat.reduceMul, Nat.reduceSub]
      refine Runs.split (fun h => ?_) (fun h => ?_)
      · have hlt : i < (partsB s).length := by simpa using h
        have hg : ((partsB s).map strA).getD i .any = strA (partsB s)[i] := by simp [List.getD, hlt]
        have hs := partsB_sz s (partsB s)[i] (List.getElem_mem hlt)
        rw [List.drop_eq_getElem_cons hlt, List.all_cons] at hr
        rw [strA] at hg
        simp +decide (disch := first | omega | (simp only [ll]; omega)) only [hlen, hg, if_pos, go_sem, Nat.reduceAdd, Nat.reduceMul, Nat.reduceSub]
        refine Runs.call (l8Label hm _ (by omega)) ?_
        cases h1 : labelB (partsB s)[i]
        · simp +decide only [go_sem, Nat.reduceAdd, Nat.reduceMul, Nat.reduceSub]
          exact Runs.ret_eq (by rw [hostB, ← hr, h1]; simp)
        · rw [h1, Bool.true_and] at hr
          simp +decide (disch := first | omega | (simp only [ll]; omega)) only [if_pos, go_sem, Nat.reduceAdd, Nat.reduceMul, Nat.reduceSub]
          refine ih (i + 1) _ (by omega) ⟨by omega, hr⟩ ?_
          simp [go_sem, shAnn, shSt]
      · have hge : i = (partsB s).length := by simp at h; omega
        rw [hge, List.drop_of_length_le (Nat.le_refl _), List.all_nil] at hr
        simp +decide only [go_sem, Nat.reduceAdd, Nat.reduceMul, Nat.reduceSub]
        refine Runs.split (fun h2 => ?_) (fun h2 => ?_)
        · have hlt : (partsB s).length - 1 < (partsB s).length := by omega
          have ht : (((partsB s).length : Int) - 1).toNat = (partsB s).length - 1 := by omega
          have hg : ((partsB s).map strA).getD ((partsB s).length - 1) .any = strA (lastB (partsB s)) := by simp [List.getD, hlt, lastB]
          rw [strA] at hg
          have hb1 : decide (0 ≤ ((partsB s).length : Int) - 1 ∧ ((partsB s).length : Int) - 1 < (partsB s).length) = true := by simp; omega
          have hmem : lastB (partsB s) ∈ partsB s := by
            rw [lastB, List.getD, List.getElem?_eq_getElem hlt]; exact List.getElem_mem hlt
          have hs := partsB_sz s _ hmem
          simp +decide (disch := first | omega | (simp only [ll]; omega)) only [hlen, ht, hg, hb1, if_pos, go_sem, Nat.reduceAdd, Nat.reduceMul, Nat.reduceSub]
          refine Runs.call (l8Digits hm _ (by omega)) ?_
          simp +decide only [go_sem, Nat.reduceAdd, Nat.reduceMul, Nat.reduceSub]
          refine Runs.ret_eq ?_
          have hl := List.all_eq_true.mp hr.symm _ hmem
          have hp : 1 ≤ (lastB (partsB s)).size := by
            simp only [labelB, Bool.and_eq_true, inB, decide_eq_true_eq] at hl; omega
          have hp2 : decide (((lastB (partsB s)).size : Int) > 0) = true := by simp; omega
          have h80' : decide (s.size ≤ 80) = true := by simp; omega
          have h8 : decide ((partsB s).length ≤ 8) = true := by simp at h2; simp; omega
          simp only [hostB, digitsB, h80', ← hr, h8, hp2, Bool.true_and, Bool.and_true]
        · simp +decide only [go_sem, Nat.reduceAdd, Nat.reduceMul, Nat.reduceSub]
          exact Runs.ret_eq (by simp at h2; simp [hostB]; intros; omega)
end Go.Proofs.W

namespace Go.Proofs.W
open Go Go.AM
variable (hm : Tryz.prog.follows .mixedOrders = true)
theorem not_all_label (L : List ByteArray) : (L.any fun s => !labelB s) = !L.all labelB := by
  induction L with
  | nil => rfl
  | cons a l ih => rw [List.any_cons, List.all_cons, ih, Bool.not_and]
set_option maxRecDepth 10000 in
include hm in
theorem iHostOk (s : ByteArray) : Holds Tryz.prog 107 [.v (.string s)] [] (.v (.bool (hostB s))) [] := by
  refine holds_of (ann := []) tabOk hm Tryz.func107 (by kernel_rfl) rfl ?_
  simp +decide only [Tryz.f107, go_sem, Nat.reduceAdd, Nat.reduceMul, Nat.reduceSub]
  refine Runs.split (fun h => ?_) (fun h => ?_)
  · simp +decide only [go_sem, Nat.reduceAdd, Nat.reduceMul, Nat.reduceSub]
    exact Runs.ret_eq (by simp at h; simp [hostB]; intros; omega)
  · have h80 : s.size ≤ 80 := by simp at h; omega
    simp +decide only [go_sem, Nat.reduceAdd, Nat.reduceMul, Nat.reduceSub]
    refine Runs.call (split1 hm s (by omega)) ?_
    have hlen : ((partsB s).map strA).length = (partsB s).length := List.length_map _
    have hle := partsB_le s
    have hpos : 1 ≤ (partsB s).length := by rw [partsB_len]; omega
    simp +decide (disch := first | omega | (simp only [ll]; omega)) only [hlen, if_pos, go_sem, Nat.reduceAdd, Nat.reduceMul, Nat.reduceSub]
    refine Runs.split (fun h2 => ?_) (fun h2 => ?_)
    · simp +decide only [go_sem, Nat.reduceAdd, Nat.reduceMul, Nat.reduceSub]
      exact Runs.ret_eq (by simp at h2; simp [hostB]; intros; omega)
    · simp +decide only [hlen, go_sem, Nat.reduceAdd, Nat.reduceMul, Nat.reduceSub]
      have c := contFunc0 hm 147 (partsB s) (fun s => !labelB s) (by omega) (fun p hp => notLabel hm p (by have := partsB_sz s p hp; omega))
      rw [not_all_label] at c
      refine Runs.call c ?_
      cases h3 : (partsB s).all labelB
      · simp +decide only [go_sem, Nat.reduceAdd, Nat.reduceMul, Nat.reduceSub]
        exact Runs.ret_eq (by simp [hostB, h3])
      · have hlt : (partsB s).length - 1 < (partsB s).length := by omega
        have ht : (((partsB s).length : Int) - 1).toNat = (partsB s).length - 1 := by omega
        have hg : ((partsB s).map strA).getD ((partsB s).length - 1) .any = .v (.string (lastB (partsB s))) := by simp [List.getD, hlt, lastB, strA]
        have hb1 : decide (0 ≤ ((partsB s).length : Int) - 1 ∧ ((partsB s).length : Int) - 1 < (partsB s).length) = true := by simp; omega
        have hmem : lastB (partsB s) ∈ partsB s := by
          rw [lastB, List.getD, List.getElem?_eq_getElem hlt]; exact List.getElem_mem hlt
        have hs := partsB_sz s _ hmem
        simp +decide (disch := first | omega | (simp only [ll]; omega)) only [hlen, ht, hg, hb1, if_pos, go_sem, Nat.reduceAdd, Nat.reduceMul, Nat.reduceSub]
        have c2 := trim1 hm (lastB (partsB s)) (by omega)
        rw [digS] at c2
        refine Runs.call c2 ?_
        simp +decide only [go_sem, Nat.reduceAdd, Nat.reduceMul, Nat.reduceSub]
        refine Runs.ret_eq ?_
        have h80' : decide (s.size ≤ 80) = true := by simp; omega
        have h8 : decide ((partsB s).length ≤ 8) = true := by simp at h2; simp; omega
        rw [trimD_nil]
        simp only [hostB, h80', h3, h8, Bool.true_and]
end Go.Proofs.W

namespace Go.Proofs.W
open Go Go.AM
set_option maxRecDepth 10000
variable (hm : Tryz.prog.follows .mixedOrders = true)
def starP : ByteArray := ⟨#[42, 46]⟩
def starB (s : ByteArray) : Bool := decide (s.size ≥ 2) && ((s.extract 0 2).toList == starP.toList)
def patB (s : ByteArray) : Bool := if starB s = true then hostB (s.extract 2 s.size) && decide ((partsB (s.extract 2 s.size)).length ≥ 2) else hostB s
theorem host_nil : hostB ⟨#[]⟩ = false := by
  have e : (partsB ⟨#[]⟩) = [mkS []] := rfl
  simp only [hostB, e, List.all_cons, labelB, mkS_size, inB]
  simp
theorem starP_size : starP.size = 2 := rfl
theorem host_star2 {s : ByteArray} (h : s.size = 2) (h2 : starB s = true) : hostB s = false := by
  have hz := list_size s
  have e : s.extract 0 2 = s := by
    rw [mkS_ext]
    conv => rhs; rw [← mkS_list s]
    rw [List.drop_zero, List.take_of_length_le (by omega)]
  simp only [starB, e, Bool.and_eq_true, beq_iff_eq, Lib.toList_data] at h2
  have e3 : s = starP := by rw [← mkS_list s, h2.2]; rfl
  rw [e3]
  have e4 : partsB starP = [mkS [42], mkS []] := rfl
  simp only [hostB, e4, List.all_cons, labelB, mkS_size, inB]
  simp
include hm in
theorem l8Star (s : ByteArray) (h : s.size ≤ 1048576) : Holds Tryz.prog 171 [.v (.string s)] [] (.v (.bool (decide (s.size > 2) && starB s))) [] := by
  refine holds_of (ann := []) tabOk hm Tryz.func171 (by kernel_rfl) rfl ?_
  simp +decide only [Tryz.f171, go_sem, Nat.reduceAdd, Nat.reduceMul, Nat.reduceSub]
  cases h2 : decide ((s.size : Int) > 2)
  · have e : decide (s.size > 2) = false := by simp at h2; simp; omega
    simp +decide only [e, Bool.false_and, go_sem, Nat.reduceAdd, Nat.reduceMul, Nat.reduceSub]
    exact Runs.ret_v
  · have e : decide (s.size > 2) = true := by simp at h2; simp; omega
    have e2 : decide (s.size ≥ 2) = true := by simp at h2; simp; omega
    have b1 : decide ((0 : Int) ≤ 0 ∧ (0 : Int) ≤ 2 ∧ (2 : Int) ≤ s.size) = true := by simp at h2; simp; omega
    have b2 : decide ((0 : Int) ≤ 2 ∧ (2 : Int) ≤ s.size) = true := by simp at h2; simp; omega
    have b3 : decide ((2 : Int) ≤ s.size) = true := by simp at h2; simp; omega
    have t0 : Int.toNat 0 = 0 := rfl
    have t2 : Int.toNat 2 = 2 := rfl
    simp +decide (disch := first | omega | (simp only [ll]; omega)) only [e, b1, b2, b3, t0, t2, if_pos, go_sem, Nat.reduceAdd, Nat.reduceMul, Nat.reduceSub]
    exact Runs.ret_eq (by simp only [starB, e2, Bool.true_and, starP])
include hm in
theorem sPatOk (s : ByteArray) (h : s.size ≤ 1048576) : Holds Tryz.prog 135 [.v (.string s)] [] (.v (.bool (patB s))) [] := by
  refine holds_of (ann := []) tabOk hm Tryz.func135 (by kernel_rfl) rfl ?_
  simp +decide only [Tryz.f135, go_sem, Nat.reduceAdd, Nat.reduceMul, Nat.reduceSub]
  refine Runs.call (l8Star hm s h) ?_
  cases h2 : decide (s.size > 2) && starB s
  · simp +decide only [go_sem, Nat.reduceAdd, Nat.reduceMul, Nat.reduceSub]
    refine Runs.call (sHostOk hm s) ?_
    simp +decide only [go_sem, Nat.reduceAdd, Nat.reduceMul, Nat.reduceSub]
    refine Runs.ret_eq ?_
    rw [patB]
    cases h3 : starB s
    · rfl
    · have hs : s.size = 2 := by
        rw [h3, Bool.and_true] at h2
        simp at h2
        simp only [starB, Bool.and_eq_true, decide_eq_true_eq] at h3
        omega
      rw [host_star2 hs h3]
      have e : s.extract 2 s.size = ⟨#[]⟩ := by rw [mkS_ext, hs]; simp [mkS]
      rw [e, host_nil]; rfl
  · rw [Bool.and_eq_true] at h2
    have h3 := h2.1
    have hs : 2 < s.size := by simpa using h3
    have b1 : decide ((0 : Int) ≤ 2 ∧ (2 : Int) ≤ s.size ∧ (s.size : Int) ≤ s.size) = true := by simp; omega
    have b2 : decide ((2 : Int) ≤ s.size ∧ (s.size : Int) ≤ s.size) = true := by simp; omega
    have t2 : Int.toNat 2 = 2 := rfl
    simp +decide (disch := first | omega | (simp only [ll]; omega)) only [b1, b2, t2, if_pos, go_sem, Nat.reduceAdd, Nat.reduceMul, Nat.reduceSub]
    refine Runs.call (sHostOk hm _) ?_
    cases h4 : hostB (s.extract 2 s.size)
    · simp +decide only [go_sem, Nat.reduceAdd, Nat.reduceMul, Nat.reduceSub]
      exact Runs.ret_eq (by rw [patB, h2.2, h4]; simp)
    · have hsz : (s.extract 2 s.size).size ≤ 1048576 := by rw [mkS_ext, mkS_size]; simp; have := list_size s; omega
      have hl : ((partsB (s.extract 2 s.size)).map strA).length = (partsB (s.extract 2 s.size)).length := List.length_map _
      simp +decide (disch := first | omega | (simp only [ll]; omega)) only [b1, b2, t2, if_pos, go_sem, Nat.reduceAdd, Nat.reduceMul, Nat.reduceSub]
      refine Runs.call (l8Parts hm _ hsz) ?_
      simp +decide (disch := first | omega | (simp only [ll]; omega)) only [hl, if_pos, go_sem, Nat.reduceAdd, Nat.reduceMul, Nat.reduceSub]
      refine Runs.ret_eq ?_
      have e9 : decide (((partsB (s.extract 2 s.size)).length : Int) ≥ 2) = decide ((partsB (s.extract 2 s.size)).length ≥ 2) := by rw [decide_eq_decide]; omega
      rw [patB, h2.2, h4, if_pos rfl, Bool.true_and, e9]
include hm in
theorem cutStar (s : ByteArray) (h : s.size ≤ 1048576) : Holds Tryz.prog 144 [.v (.string s), .v (.string starP)] [] (.tup [.v (.string (if starB s = true then s.extract 2 s.size else s)), .v (.bool (starB s))]) [] := by
  have hs2 : ((starP.size : Nat) : Int) = 2 := rfl
  have t0 : Int.toNat 0 = 0 := rfl
  have t2 : Int.toNat 2 = 2 := rfl
  have c1 : Holds Tryz.prog 202 [.v (.string s), .v (.string starP)] [] (.v (.bool (starB s))) [] := by
    refine holds_of (ann := []) tabOk hm Tryz.func202 (by kernel_rfl) rfl ?_
    simp +decide only [Tryz.f202, hs2, go_sem, Nat.reduceAdd, Nat.reduceMul, Nat.reduceSub]
    cases h2 : decide ((s.size : Int) ≥ 2)
    · have e2 : decide (s.size ≥ 2) = false := by simp at h2; simp; omega
      simp +decide only [go_sem, Nat.reduceAdd, Nat.reduceMul, Nat.reduceSub]
      exact Runs.ret_eq (by rw [starB, e2, Bool.false_and])
    · have e2 : decide (s.size ≥ 2) = true := by simp at h2; simp; omega
      have b1 : decide ((0 : Int) ≤ 0 ∧ (0 : Int) ≤ 2 ∧ (2 : Int) ≤ s.size) = true := by simp at h2; simp; omega
      have b3 : decide ((2 : Int) ≤ s.size) = true := by simp at h2; simp; omega
      simp +decide (disch := first | omega | (simp only [ll]; omega)) only [hs2, b1, b3, t0, t2, if_pos, go_sem, Nat.reduceAdd, Nat.reduceMul, Nat.reduceSub]
      exact Runs.ret_eq (by rw [starB, e2, Bool.true_and])
  have c2 : Holds Tryz.prog 179 [.v (.string s), .v (.string starP)] [] (.tup [.v (.string (if starB s = true then s.extract 2 s.size else s)), .v (.bool (starB s))]) [] := by
    refine holds_of (ann := []) tabOk hm Tryz.func179 (by kernel_rfl) rfl ?_
    simp +decide only [Tryz.f179, go_sem, Nat.reduceAdd, Nat.reduceMul, Nat.reduceSub]
    refine Runs.call c1 ?_
    cases h2 : starB s
    · simp +decide only [go_sem, Nat.reduceAdd, Nat.reduceMul, Nat.reduceSub]
      exact Runs.ret_refl
    · have hsz : 2 ≤ s.size := by simp only [starB, Bool.and_eq_true, decide_eq_true_eq] at h2; omega
      have b1 : decide ((0 : Int) ≤ 2 ∧ (2 : Int) ≤ s.size ∧ (s.size : Int) ≤ s.size) = true := by simp; omega
      have b2 : decide ((2 : Int) ≤ s.size ∧ (s.size : Int) ≤ s.size) = true := by simp; omega
      simp +decide (disch := first | omega | (simp only [ll]; omega)) only [hs2, b1, b2, t2, if_pos, go_sem, Nat.reduceAdd, Nat.reduceMul, Nat.reduceSub]
      exact Runs.ret_refl
  refine holds_of (ann := []) tabOk hm Tryz.func144 (by kernel_rfl) rfl ?_
  simp +decide only [Tryz.f144, go_sem, Nat.reduceAdd, Nat.reduceMul, Nat.reduceSub]
  refine Runs.call c2 ?_
  simp +decide only [go_sem, Nat.reduceAdd, Nat.reduceMul, Nat.reduceSub]
  exact Runs.ret_refl
include hm in
theorem hasDot (s : ByteArray) : Holds Tryz.prog 145 [.v (.string s), .v (.string ⟨#[46]⟩)] [] (.v (.bool (decide ((partsB s).length ≥ 2)))) [] := by
  refine holds_of (ann := []) tabOk hm Tryz.func145 (by kernel_rfl) rfl ?_
  simp +decide only [Tryz.f145, go_sem, Nat.reduceAdd, Nat.reduceMul, Nat.reduceSub]
  refine Runs.call (sindex1 hm s) ?_
  simp +decide only [go_sem, Nat.reduceAdd, Nat.reduceMul, Nat.reduceSub]
  refine Runs.ret_eq ?_
  congr 2
  rw [decide_eq_decide, partsB_len]
  rcases indexByte_lt s.data.toList 46 with h | ⟨m, h, hl⟩
  · have := List.count_eq_zero.mpr (fun hc => idx_none h 46 hc rfl)
    rw [h, this]; omega
  · obtain ⟨p, r, e1, e2, e3⟩ := idx_some h
    rw [h, e1, count_cut e3]; omega
include hm in
theorem iPatOk (s : ByteArray) (h : s.size ≤ 1048576) : Holds Tryz.prog 106 [.v (.string s)] [] (.v (.bool (patB s))) [] := by
  refine holds_of (ann := []) tabOk hm Tryz.func106 (by kernel_rfl) rfl ?_
  simp +decide only [Tryz.f106, go_sem, Nat.reduceAdd, Nat.reduceMul, Nat.reduceSub]
  have c := cutStar hm s h
  rw [starP] at c
  refine Runs.call c ?_
  cases h2 : starB s
  · simp +decide only [go_sem, Nat.reduceAdd, Nat.reduceMul, Nat.reduceSub]
    refine Runs.call (iHostOk hm s) ?_
    cases h3 : hostB s
    · simp +decide only [go_sem, Nat.reduceAdd, Nat.reduceMul, Nat.reduceSub]
      exact Runs.ret_eq (by simp [patB, h2, h3])
    · simp +decide only [go_sem, Nat.reduceAdd, Nat.reduceMul, Nat.reduceSub]
      exact Runs.ret_eq (by simp [patB, h2, h3])
  · simp +decide only [go_sem, Nat.reduceAdd, Nat.reduceMul, Nat.reduceSub]
    refine Runs.call (iHostOk hm _) ?_
    cases h3 : hostB (s.extract 2 s.size)
    · simp +decide only [go_sem, Nat.reduceAdd, Nat.reduceMul, Nat.reduceSub]
      exact Runs.ret_eq (by simp [patB, h2, h3])
    · simp +decide only [go_sem, Nat.reduceAdd, Nat.reduceMul, Nat.reduceSub]
      refine Runs.call (hasDot hm _) ?_
      simp +decide only [go_sem, Nat.reduceAdd, Nat.reduceMul, Nat.reduceSub]
      exact Runs.ret_eq (by simp [patB, h2, h3])
end Go.Proofs.W

namespace Go.Proofs.W
open Go Go.AM
set_option maxRecDepth 10000
variable (hm : Tryz.prog.follows .mixedOrders = true)
def szI (n : Nat) (left : Int) : Int := if left - n < 0 then -1 else left - n
def szGo : List ByteArray → Int → Int
  | [], l => l
  | s :: r, l => if l - s.size < 0 then -1 else szGo r (l - s.size)
def szS (L : List ByteArray) (left : Int) : Int := if left - L.length < 0 then -1 else szGo L (left - L.length)
theorem szGo_le (L : List ByteArray) (l : Int) (h : 0 ≤ l) : szGo L l ≤ l ∧ -1 ≤ szGo L l := by
  induction L generalizing l with
  | nil => simp [szGo]; omega
  | cons s r ih =>
    simp only [szGo]
    split
    · omega
    · have := ih (l - s.size) (by omega); omega
theorem szS_le (L : List ByteArray) (l : Int) (h : 0 ≤ l) : szS L l ≤ l := by
  unfold szS
  split
  · omega
  · have := szGo_le L (l - L.length) (by omega); omega
theorem szI_le (n : Nat) (l : Int) (h : 0 ≤ l) : szI n l ≤ l ∧ -1 ≤ szI n l := by
  unfold szI
  split <;> omega
theorem szS_len (L : List ByteArray) (l : Int) (h : ¬ szS L l < 0) (hl : l ≤ 1048576) : L.length ≤ 1048576 := by
  unfold szS at h
  split at h
  · exact absurd (by omega) h
  · omega
theorem szI_len (n : Nat) (l : Int) (h : ¬ szI n l < 0) (hl : l ≤ 1048576) : n ≤ 1048576 := by
  unfold szI at h
  split at h
  · exact absurd (by omega) h
  · omega
include hm in
theorem szIntS (es : List A) (left : Int) (h1 : 0 ≤ left) (h2 : left ≤ 1048576) (h3 : es.length ≤ 9223372036854775807) :
    Holds Tryz.prog 38 [.sl .sh es, .v (.int .i64 left)] [] (.v (.int .i64 (szI es.length left))) [] := by
  refine holds_of (ann := []) tabOk hm Tryz.func38 (by kernel_rfl) rfl ?_
  simp +decide (disch := first | omega | (simp only [ll]; omega)) only [Tryz.f38, if_pos, go_sem, Nat.reduceAdd, Nat.reduceMul, Nat.reduceSub]
  refine Runs.split (fun h => ?_) (fun h => ?_)
  · simp only [decide_eq_true_eq] at h
    simp +decide only [szI, if_pos h, go_sem, Nat.reduceAdd, Nat.reduceMul, Nat.reduceSub]
    exact Runs.ret_v
  · simp only [decide_eq_false_iff_not] at h
    simp +decide only [szI, if_neg h, go_sem, Nat.reduceAdd, Nat.reduceMul, Nat.reduceSub]
    exact Runs.ret_v
include hm in
theorem szByteS (es : List A) (left : Int) (h1 : 0 ≤ left) (h2 : left ≤ 1048576) (h3 : es.length ≤ 9223372036854775807) :
    Holds Tryz.prog 16 [.sl .sh es, .v (.int .i64 left)] [] (.v (.int .i64 (szI es.length left))) [] := by
  refine holds_of (ann := []) tabOk hm Tryz.func16 (by kernel_rfl) rfl ?_
  simp +decide (disch := first | omega | (simp only [ll]; omega)) only [Tryz.f16, if_pos, go_sem, Nat.reduceAdd, Nat.reduceMul, Nat.reduceSub]
  refine Runs.split (fun h => ?_) (fun h => ?_)
  · simp only [decide_eq_true_eq] at h
    simp +decide only [szI, if_pos h, go_sem, Nat.reduceAdd, Nat.reduceMul, Nat.reduceSub]
    exact Runs.ret_v
  · simp only [decide_eq_false_iff_not] at h
    simp +decide only [szI, if_neg h, go_sem, Nat.reduceAdd, Nat.reduceMul, Nat.reduceSub]
    exact Runs.ret_v
def szAnn : Ann := [(0, [0, 1, 5])]
def szSt (L : List ByteArray) (p : Nat × Int) : St := ⟨[.sl .sh (L.map strA), .v (.int .i64 p.2), .any, .any, .any, .v (.int .i64 p.1), .any, .any, .any, .any, .any, .any, .any, .any, .any, .any, .any, .any, .any, .any, .any, .any, .any, .any, .any, .any, .any, .any], [], []⟩
include hm in
theorem szStringS (L : List ByteArray) (left : Int) (h1 : 0 ≤ left) (h2 : left ≤ 1048576) (h3 : L.length ≤ 9223372036854775807) (h4 : ∀ s ∈ L, s.size ≤ 9223372036854775807) :
    Holds Tryz.prog 13 [.sl .sh (L.map strA), .v (.int .i64 left)] [] (.v (.int .i64 (szS L left))) [] := by
  refine holds_of (ann := szAnn) tabOk hm Tryz.func13 (by kernel_rfl) rfl ?_
  simp +decide (disch := first | omega | (simp only [ll]; omega)) only [Tryz.f13, if_pos, go_sem, Nat.reduceAdd, Nat.reduceMul, Nat.reduceSub]
  refine Runs.split (fun h => ?_) (fun h => ?_)
  · simp only [decide_eq_true_eq] at h
    simp +decide only [szS, if_pos h, go_sem, Nat.reduceAdd, Nat.reduceMul, Nat.reduceSub]
    exact Runs.ret_v
  · simp only [decide_eq_false_iff_not] at h
    simp +decide only [go_sem, Nat.reduceAdd, Nat.reduceMul, Nat.reduceSub]
    refine Runs.while (α := Nat × Int) (szSt L) (fun p => L.length - p.1) (fun p => p.1 ≤ L.length ∧ 0 ≤ p.2 ∧ p.2 ≤ 1048576 ∧ szGo (L.drop p.1) p.2 = szS L left) (0, left - L.length) ⟨by simp, by simp; omega, by simp; omega, by simp [szS, h]⟩ ?_ ?_
    · simp [go_sem, szAnn, szSt]
    · rintro ⟨i, l⟩ ⟨hi, hl1, hl2, hr⟩ ih
      simp only at hi hl1 hl2 hr
      simp +decide only [szSt, go_sem, Nat.reduceAdd, Nat.reduceMul, Nat.reduceSub]
      refine Runs.split (fun h => ?_) (fun h => ?_)
      · have hlt : i < L.length := by simpa using h
        have hsz := h4 L[i] (List.getElem_mem hlt)
        rw [List.drop_eq_getElem_cons hlt] at hr
        simp only [szGo] at hr
        simp +decide (disch := first | omega | (simp only [ll]; omega)) only [if_pos, go_sem, Nat.reduceAdd, Nat.reduceMul, Nat.reduceSub]
        refine Runs.split (fun h => ?_) (fun h => ?_)
        · simp only [decide_eq_true_eq] at h
          rw [if_pos h] at hr
          simp +decide only [← hr, go_sem, Nat.reduceAdd, Nat.reduceMul, Nat.reduceSub]
          exact Runs.ret_v
        · simp only [decide_eq_false_iff_not] at h
          rw [if_neg h] at hr
          simp +decide (disch := first | omega | (simp only [ll]; omega)) only [if_pos, go_sem, Nat.reduceAdd, Nat.reduceMul, Nat.reduceSub]
          refine ih (i + 1, l - L[i].size) _ (by simp only; omega) ⟨hlt, by simp only; omega, by simp only; omega, hr⟩ ?_
          simp [go_sem, szAnn, szSt]
      · have hge : i = L.length := by simp at h; omega
        subst hge
        simp only [List.drop_length, szGo] at hr
        simp +decide only [← hr, go_sem, Nat.reduceAdd, Nat.reduceMul, Nat.reduceSub]
        exact Runs.ret_v
end Go.Proofs.W

namespace Go.Proofs.W
open Go Go.AM
set_option maxRecDepth 10000
variable (hm : Tryz.prog.follows .mixedOrders = true)
def fillS {α : Type} (g : α → A) (L : List α) (z : A) (i : Nat) : List A := (L.take i).map g ++ List.replicate (L.length - i) z
theorem fillS_length {α : Type} (g : α → A) (L : List α) (z : A) (i : Nat) (h : i ≤ L.length) : (fillS g L z i).length = L.length := by simp [fillS]; omega
theorem fillS_zero {α : Type} (g : α → A) (L : List α) (z : A) : fillS g L z 0 = List.replicate L.length z := by simp [fillS]
theorem fillS_all {α : Type} (g : α → A) (L : List α) (z : A) : fillS g L z L.length = L.map g := by simp [fillS]
theorem fillS_set {α : Type} (g : α → A) (L : List α) (z : A) (i : Nat) (h : i < L.length) : (fillS g L z i).set i (g L[i]) = fillS g L z (i + 1) := by
  unfold fillS
  have e : L.length - i = (L.length - (i + 1)) + 1 := by omega
  rw [List.set_append_right _ _ (by simp; omega), e, List.replicate_succ]
  have hl : ((L.take i).map g).length = i := by simp; omega
  rw [hl, Nat.sub_self, List.set_cons_zero, List.take_succ_eq_append_getElem h, List.map_append, List.append_assoc]
  rfl
theorem fillS_get {α : Type} (g : α → A) (L : List α) (z : A) (i : Nat) (h : i < L.length) : (fillS g L z i).getD i .any = z := by
  unfold fillS
  have hl : ((L.take i).map g).length = i := by simp; omega
  rw [List.getD, List.getElem?_append_right (by omega), hl, Nat.sub_self]
  have e : L.length - i = (L.length - (i + 1)) + 1 := by omega
  rw [e, List.replicate_succ]
  rfl
def toAnn : Ann := [(0, [0, 3, 4])]
def toStringSt (L : List ByteArray) (i : Nat) : St := ⟨[.sl .sh (L.map strA), .any, .any, .ms (.l 0) 0 L.length L.length, .v (.int .i64 i), .any, .any, .any, .any, .any, .any, .any, .any, .any, .any, .any, .any, .any, .any, .any, .any, .any], [(0, ⟨true, 1, false, fillS strA L (.v (.string ⟨#[]⟩)) i⟩)], []⟩
include hm in
theorem toStringS (L : List ByteArray) (h3 : L.length ≤ 1048576) : Holds Tryz.prog 22 [.sl .sh (L.map strA)] [] (.sl (.ow 1) (L.map strA)) [] := by
  refine holds_of (ann := toAnn) tabOk hm Tryz.func22 (by kernel_rfl) rfl ?_
  simp +decide (disch := first | omega | (simp only [ll]; omega)) only [Tryz.f22, if_pos, go_sem, Nat.reduceAdd, Nat.reduceMul, Nat.reduceSub]
  refine Runs.while (α := Nat) (toStringSt L) (fun i => L.length - i) (fun i => i ≤ L.length) 0 (by omega) ?_ ?_
  · simp [go_sem, toAnn, toStringSt, fillS_zero]
  · intro i hi ih
    have hlen := fillS_length strA L (.v (.string ⟨#[]⟩)) i hi
    simp +decide only [toStringSt, hlen, go_sem, Nat.reduceAdd, Nat.reduceMul, Nat.reduceSub]
    refine Runs.split (fun h => ?_) (fun h => ?_)
    · have hlt : i < L.length := by simpa using h
      have hg := fillS_get strA L (.v (.string ⟨#[]⟩)) i hlt
      have hs : (fillS strA L (.v (.string ⟨#[]⟩)) i).set i (strA L[i]) = _ := fillS_set strA L (.v (.string ⟨#[]⟩)) i hlt
      simp only [strA] at hs
      simp +decide (disch := first | omega | (simp only [ll]; omega)) only [hlen, hg, hs, if_pos, go_sem, Nat.reduceAdd, Nat.reduceMul, Nat.reduceSub]
      refine ih (i + 1) _ (by omega) hlt ?_
      simp [go_sem, toAnn, toStringSt]
    · have hge : i = L.length := by simp at h; omega
      subst hge
      simp +decide only [hlen, fillS_all, go_sem, Nat.reduceAdd, Nat.reduceMul, Nat.reduceSub]
      exact Runs.ret_refl
def toIntSt (L : List Int) (i : Nat) : St := ⟨[.sl .sh (L.map intA), .any, .any, .ms (.l 0) 0 L.length L.length, .v (.int .i64 i), .any, .any, .any, .any, .any, .any, .any, .any, .any, .any, .any, .any, .any, .any, .any, .any, .any], [(0, ⟨true, 1, false, fillS intA L (.v (.int .i64 0)) i⟩)], []⟩
include hm in
theorem toIntS (L : List Int) (h3 : L.length ≤ 1048576) : Holds Tryz.prog 52 [.sl .sh (L.map intA)] [] (.sl (.ow 1) (L.map intA)) [] := by
  refine holds_of (ann := toAnn) tabOk hm Tryz.func52 (by kernel_rfl) rfl ?_
  simp +decide (disch := first | omega | (simp only [ll]; omega)) only [Tryz.f52, if_pos, go_sem, Nat.reduceAdd, Nat.reduceMul, Nat.reduceSub]
  refine Runs.while (α := Nat) (toIntSt L) (fun i => L.length - i) (fun i => i ≤ L.length) 0 (by omega) ?_ ?_
  · simp [go_sem, toAnn, toIntSt, fillS_zero]
  · intro i hi ih
    have hlen := fillS_length intA L (.v (.int .i64 0)) i hi
    simp +decide only [toIntSt, hlen, go_sem, Nat.reduceAdd, Nat.reduceMul, Nat.reduceSub]
    refine Runs.split (fun h => ?_) (fun h => ?_)
    · have hlt : i < L.length := by simpa using h
      have hg := fillS_get intA L (.v (.int .i64 0)) i hlt
      have hs : (fillS intA L (.v (.int .i64 0)) i).set i (intA L[i]) = _ := fillS_set intA L (.v (.int .i64 0)) i hlt
      simp only [intA] at hs
      simp +decide (disch := first | omega | (simp only [ll]; omega)) only [hlen, hg, hs, if_pos, go_sem, Nat.reduceAdd, Nat.reduceMul, Nat.reduceSub]
      refine ih (i + 1) _ (by omega) hlt ?_
      simp [go_sem, toAnn, toIntSt]
    · have hge : i = L.length := by simp at h; omega
      subst hge
      simp +decide only [hlen, fillS_all, go_sem, Nat.reduceAdd, Nat.reduceMul, Nat.reduceSub]
      exact Runs.ret_refl
def toByteSt (L : List Int) (i : Nat) : St := ⟨[.sl .sh (L.map u8A), .any, .any, .ms (.l 0) 0 L.length L.length, .v (.int .i64 i), .any, .any, .any, .any, .any, .any, .any, .any, .any, .any, .any, .any, .any, .any, .any, .any, .any], [(0, ⟨true, 1, false, fillS u8A L (.v (.int .u8 0)) i⟩)], []⟩
include hm in
theorem toByteS (L : List Int) (h3 : L.length ≤ 1048576) : Holds Tryz.prog 25 [.sl .sh (L.map u8A)] [] (.sl (.ow 1) (L.map u8A)) [] := by
  refine holds_of (ann := toAnn) tabOk hm Tryz.func25 (by kernel_rfl) rfl ?_
  simp +decide (disch := first | omega | (simp only [ll]; omega)) only [Tryz.f25, if_pos, go_sem, Nat.reduceAdd, Nat.reduceMul, Nat.reduceSub]
  refine Runs.while (α := Nat) (toByteSt L) (fun i => L.length - i) (fun i => i ≤ L.length) 0 (by omega) ?_ ?_
  · simp [go_sem, toAnn, toByteSt, fillS_zero]
  · intro i hi ih
    have hlen := fillS_length u8A L (.v (.int .u8 0)) i hi
    simp +decide only [toByteSt, hlen, go_sem, Nat.reduceAdd, Nat.reduceMul, Nat.reduceSub]
    refine Runs.split (fun h => ?_) (fun h => ?_)
    · have hlt : i < L.length := by simpa using h
      have hg := fillS_get u8A L (.v (.int .u8 0)) i hlt
      have hs : (fillS u8A L (.v (.int .u8 0)) i).set i (u8A L[i]) = _ := fillS_set u8A L (.v (.int .u8 0)) i hlt
      simp only [u8A] at hs
      simp +decide (disch := first | omega | (simp only [ll]; omega)) only [hlen, hg, hs, if_pos, go_sem, Nat.reduceAdd, Nat.reduceMul, Nat.reduceSub]
      refine ih (i + 1) _ (by omega) hlt ?_
      simp [go_sem, toAnn, toByteSt]
    · have hge : i = L.length := by simp at h; omega
      subst hge
      simp +decide only [hlen, fillS_all, go_sem, Nat.reduceAdd, Nat.reduceMul, Nat.reduceSub]
      exact Runs.ret_refl
end Go.Proofs.W

namespace Go.Proofs.W
open Go Go.AM
set_option maxRecDepth 10000
variable (hm : Tryz.prog.follows .mixedOrders = true)
def eqAnn : Ann := [(0, [0, 1, 5])]
def eqSched : Sched := .take 0 (.take 1 (.take 2 (.take 4 (.take 5 (.take 6 (.alt 3 (.alt 7 (.take 8 .fin) .nil) (.alt 7 (.alt 3 (.take 8 .fin) .nil) .nil)))))))
attribute [local go_sem] eqSched
def eqStringSt (L : List ByteArray) (i : Nat) : St := ⟨[.sl .sh (L.map strA), .sl .sh (L.map strA), .any, .any, .any, .v (.int .i64 i), .any, .any, .any, .any, .any, .any, .any, .any, .any, .any, .any, .any, .any, .any, .any, .any, .any, .any, .any, .any], [], []⟩
include hm in
theorem eqStringS (L : List ByteArray) (h3 : L.length ≤ 9223372036854775807) : Holds Tryz.prog 32 [.sl .sh (L.map strA), .sl .sh (L.map strA)] [] (.v (.bool true)) [] := by
  refine holds_of (ann := eqAnn) tabOk hm Tryz.func32 (by kernel_rfl) rfl ?_
  simp +decide only [Tryz.f32, go_sem, Nat.reduceAdd, Nat.reduceMul, Nat.reduceSub]
  refine Runs.while (α := Nat) (eqStringSt L) (fun i => L.length - i) (fun i => i ≤ L.length) 0 (by omega) ?_ ?_
  · simp [go_sem, eqAnn, eqStringSt]
  · intro i hi ih
    simp +decide only [eqStringSt, go_sem, Nat.reduceAdd, Nat.reduceMul, Nat.reduceSub]
    refine Runs.split (fun h => ?_) (fun h => ?_)
    · have hlt : i < L.length := by simpa using h
      simp +decide only [go_sem, Nat.reduceAdd, Nat.reduceMul, Nat.reduceSub]
      refine Runs.draw (st1 := ?s1) (draws_by (ann := []) tabOk eqSched (by kernel_rfl) ?p1) ?q1
      case p1 =>
        intro K r X hK
        simp +decide (disch := first | omega | (simp only [ll]; omega)) only [if_pos, go_sem, Nat.reduceAdd, Nat.reduceMul, Nat.reduceSub]
        exact hK
      case q1 =>
        simp +decide (disch := first | omega | (simp only [ll]; omega)) only [if_pos, go_sem, Nat.reduceAdd, Nat.reduceMul, Nat.reduceSub]
        refine ih (i + 1) _ (by omega) hlt ?_
        simp [go_sem, eqAnn, eqStringSt]
    · simp +decide only [go_sem, Nat.reduceAdd, Nat.reduceMul, Nat.reduceSub]
      exact Runs.ret_v
def eqIntSt (L : List Int) (i : Nat) : St := ⟨[.sl .sh (L.map intA), .sl .sh (L.map intA), .any, .any, .any, .v (.int .i64 i), .any, .any, .any, .any, .any, .any, .any, .any, .any, .any, .any, .any, .any, .any, .any, .any, .any, .any, .any, .any], [], []⟩
include hm in
theorem eqIntS (L : List Int) (h3 : L.length ≤ 9223372036854775807) : Holds Tryz.prog 74 [.sl .sh (L.map intA), .sl .sh (L.map intA)] [] (.v (.bool true)) [] := by
  refine holds_of (ann := eqAnn) tabOk hm Tryz.func74 (by kernel_rfl) rfl ?_
  simp +decide only [Tryz.f74, go_sem, Nat.reduceAdd, Nat.reduceMul, Nat.reduceSub]
  refine Runs.while (α := Nat) (eqIntSt L) (fun i => L.length - i) (fun i => i ≤ L.length) 0 (by omega) ?_ ?_
  · simp [go_sem, eqAnn, eqIntSt]
  · intro i hi ih
    simp +decide only [eqIntSt, go_sem, Nat.reduceAdd, Nat.reduceMul, Nat.reduceSub]
    refine Runs.split (fun h => ?_) (fun h => ?_)
    · have hlt : i < L.length := by simpa using h
      simp +decide only [go_sem, Nat.reduceAdd, Nat.reduceMul, Nat.reduceSub]
      refine Runs.draw (st1 := ?s1) (draws_by (ann := []) tabOk eqSched (by kernel_rfl) ?p1) ?q1
      case p1 =>
        intro K r X hK
        simp +decide (disch := first | omega | (simp only [ll]; omega)) only [if_pos, go_sem, Nat.reduceAdd, Nat.reduceMul, Nat.reduceSub]
        exact hK
      case q1 =>
        simp +decide (disch := first | omega | (simp only [ll]; omega)) only [if_pos, go_sem, Nat.reduceAdd, Nat.reduceMul, Nat.reduceSub]
        refine ih (i + 1) _ (by omega) hlt ?_
        simp [go_sem, eqAnn, eqIntSt]
    · simp +decide only [go_sem, Nat.reduceAdd, Nat.reduceMul, Nat.reduceSub]
      exact Runs.ret_v
def eqByteSt (L : List Int) (i : Nat) : St := ⟨[.sl .sh (L.map u8A), .sl .sh (L.map u8A), .any, .any, .any, .v (.int .i64 i), .any, .any, .any, .any, .any, .any, .any, .any, .any, .any, .any, .any, .any, .any, .any, .any, .any, .any, .any, .any], [], []⟩
include hm in
theorem eqByteS (L : List Int) (h3 : L.length ≤ 9223372036854775807) : Holds Tryz.prog 8 [.sl .sh (L.map u8A), .sl .sh (L.map u8A)] [] (.v (.bool true)) [] := by
  refine holds_of (ann := eqAnn) tabOk hm Tryz.func8 (by kernel_rfl) rfl ?_
  simp +decide only [Tryz.f8, go_sem, Nat.reduceAdd, Nat.reduceMul, Nat.reduceSub]
  refine Runs.while (α := Nat) (eqByteSt L) (fun i => L.length - i) (fun i => i ≤ L.length) 0 (by omega) ?_ ?_
  · simp [go_sem, eqAnn, eqByteSt]
  · intro i hi ih
    simp +decide only [eqByteSt, go_sem, Nat.reduceAdd, Nat.reduceMul, Nat.reduceSub]
    refine Runs.split (fun h => ?_) (fun h => ?_)
    · have hlt : i < L.length := by simpa using h
      simp +decide only [go_sem, Nat.reduceAdd, Nat.reduceMul, Nat.reduceSub]
      refine Runs.draw (st1 := ?s1) (draws_by (ann := []) tabOk eqSched (by kernel_rfl) ?p1) ?q1
      case p1 =>
        intro K r X hK
        simp +decide (disch := first | omega | (simp only [ll]; omega)) only [if_pos, go_sem, Nat.reduceAdd, Nat.reduceMul, Nat.reduceSub]
        exact hK
      case q1 =>
        simp +decide (disch := first | omega | (simp only [ll]; omega)) only [if_pos, go_sem, Nat.reduceAdd, Nat.reduceMul, Nat.reduceSub]
        refine ih (i + 1) _ (by omega) hlt ?_
        simp [go_sem, eqAnn, eqByteSt]
    · simp +decide only [go_sem, Nat.reduceAdd, Nat.reduceMul, Nat.reduceSub]
      exact Runs.ret_v
end Go.Proofs.W

namespace Go.Proofs.W
open Go Go.AM
set_option maxRecDepth 10000
variable (hm : Tryz.prog.follows .mixedOrders = true)
def rowS (l : List Int) : A := .sl .sh (l.map intA)
def rowO (l : List Int) : A := .sl (.ow 1) (l.map intA)
theorem rowS_plain (ne : List (List Int)) : plainL (ne.map rowS) = true := by
  induction ne with
  | nil => simp [plainL]
  | cons a l ih => simp [plainL, rowS, A.plain, ih, Sh.own, pl_intA]
theorem rowS_dn (ne : List (List Int)) : dnL (ne.map rowS) = ne.map rowS := by
  induction ne with
  | nil => simp [dnL]
  | cons a l ih => simp [dnL, rowS, A.dn, ih, dn_intA]
theorem rowO_dn (ne : List (List Int)) : dnL (ne.map rowO) = ne.map rowS := by
  induction ne with
  | nil => simp [dnL]
  | cons a l ih => simp [dnL, rowO, rowS, A.dn, ih, dn_intA]
attribute [local go_sem] rowS_plain rowS_dn rowO_dn
def szII : List (List Int) → Int → Int
  | [], l => l
  | r :: R, l => if szI r.length l < 0 then -1 else szII R (szI r.length l)
def szSS (L : List (List Int)) (left : Int) : Int := if left - L.length < 0 then -1 else szII L (left - L.length)
theorem szII_le (L : List (List Int)) (l : Int) (h : 0 ≤ l) : szII L l ≤ l ∧ -1 ≤ szII L l ∧ (0 ≤ szII L l → ∀ r ∈ L, r.length ≤ l) := by
  induction L generalizing l with
  | nil => simp [szII]; omega
  | cons r R ih =>
    simp only [szII]
    have hs := szI_le r.length l h
    split
    · exact ⟨by omega, by omega, fun h => by omega⟩
    · have := ih (szI r.length l) (by omega)
      refine ⟨by omega, by omega, fun h2 x hx => ?_⟩
      rcases List.mem_cons.mp hx with h3 | h3
      · subst h3; unfold szI at *; split at * <;> omega
      · have := this.2.2 h2 x h3; omega
theorem szSS_le (L : List (List Int)) (l : Int) (h : 0 ≤ l) : szSS L l ≤ l ∧ -1 ≤ szSS L l ∧ (0 ≤ szSS L l → L.length ≤ l ∧ ∀ r ∈ L, r.length ≤ l) := by
  unfold szSS
  split
  · exact ⟨by omega, by omega, fun h => by omega⟩
  · have := szII_le L (l - L.length) (by omega)
    exact ⟨by omega, by omega, fun h2 => ⟨by omega, fun r hr => by have := this.2.2 h2 r hr; omega⟩⟩
def ssAnn : Ann := [(0, [0, 1, 5])]
def ssSt (L : List (List Int)) (p : Nat × Int) : St := ⟨[.sl .sh (L.map rowS), .v (.int .i64 p.2), .any, .any, .any, .v (.int .i64 p.1), .any, .any, .any, .any, .any, .any, .any, .any, .any, .any, .any, .any, .any, .any, .any, .any, .any, .any, .any, .any, .any], [], []⟩
include hm in
theorem szIntSS (L : List (List Int)) (left : Int) (h1 : 0 ≤ left) (h2 : left ≤ 1048576) (h3 : L.length ≤ 9223372036854775807) (h4 : ∀ s ∈ L, s.length ≤ 9223372036854775807) :
    Holds Tryz.prog 39 [.sl .sh (L.map rowS), .v (.int .i64 left)] [] (.v (.int .i64 (szSS L left))) [] := by
  refine holds_of (ann := ssAnn) tabOk hm Tryz.func39 (by kernel_rfl) rfl ?_
  simp +decide (disch := first | omega | (simp only [ll]; omega)) only [Tryz.f39, if_pos, go_sem, Nat.reduceAdd, Nat.reduceMul, Nat.reduceSub]
  refine Runs.split (fun h => ?_) (fun h => ?_)
  · simp only [decide_eq_true_eq] at h
    simp +decide only [szSS, if_pos h, go_sem, Nat.reduceAdd, Nat.reduceMul, Nat.reduceSub]
    exact Runs.ret_v
  · simp only [decide_eq_false_iff_not] at h
    simp +decide only [go_sem, Nat.reduceAdd, Nat.reduceMul, Nat.reduceSub]
    refine Runs.while (α := Nat × Int) (ssSt L) (fun p => L.length - p.1) (fun p => p.1 ≤ L.length ∧ 0 ≤ p.2 ∧ p.2 ≤ 1048576 ∧ szII (L.drop p.1) p.2 = szSS L left) (0, left - L.length) ⟨by simp, by simp; omega, by simp; omega, by simp [szSS, h]⟩ ?_ ?_
    · simp [go_sem, ssAnn, ssSt]
    · rintro ⟨i, l⟩ ⟨hi, hl1, hl2, hr⟩ ih
      simp only at hi hl1 hl2 hr
      simp +decide only [ssSt, go_sem, Nat.reduceAdd, Nat.reduceMul, Nat.reduceSub]
      refine Runs.split (fun h => ?_) (fun h => ?_)
      · have hlt : i < L.length := by simpa using h
        have hsz := h4 L[i] (List.getElem_mem hlt)
        have hg : (L.map rowS).getD i .any = .sl .sh (L[i].map intA) := by simp [List.getD, hlt, rowS]
        rw [List.drop_eq_getElem_cons hlt] at hr
        simp only [szII] at hr
        have hb := szI_le L[i].length l hl1
        simp +decide (disch := first | omega | (simp only [ll]; omega)) only [hg, if_pos, go_sem, Nat.reduceAdd, Nat.reduceMul, Nat.reduceSub]
        refine Runs.call (szIntS hm (L[i].map intA) l hl1 hl2 (by simpa using hsz)) ?_
        simp +decide only [List.length_map, go_sem, Nat.reduceAdd, Nat.reduceMul, Nat.reduceSub]
        refine Runs.split (fun h => ?_) (fun h => ?_)
        · simp only [decide_eq_true_eq] at h
          rw [if_pos h] at hr
          simp +decide only [← hr, go_sem, Nat.reduceAdd, Nat.reduceMul, Nat.reduceSub]
          exact Runs.ret_v
        · simp only [decide_eq_false_iff_not] at h
          rw [if_neg h] at hr
          simp +decide (disch := first | omega | (simp only [ll]; omega)) only [if_pos, go_sem, Nat.reduceAdd, Nat.reduceMul, Nat.reduceSub]
          refine ih (i + 1, szI L[i].length l) _ (by simp only; omega) ⟨hlt, by simp only; omega, by simp only; omega, hr⟩ ?_
          simp [go_sem, ssAnn, ssSt]
      · have hge : i = L.length := by simp at h; omega
        subst hge
        simp only [List.drop_length, szII] at hr
        simp +decide only [← hr, go_sem, Nat.reduceAdd, Nat.reduceMul, Nat.reduceSub]
        exact Runs.ret_v
def tssSt (L : List (List Int)) (i : Nat) : St := ⟨[.sl .sh (L.map rowS), .any, .any, .ms (.l 0) 0 L.length L.length, .v (.int .i64 i), .any, .any, .any, .any, .any, .any, .any, .any, .any, .any, .any, .any, .any, .any, .any, .any, .any, .any], [(0, ⟨true, 1, false, fillS rowO L (.v (.slice none 0 0)) i⟩)], []⟩
include hm in
theorem toIntSS (L : List (List Int)) (h3 : L.length ≤ 1048576) (h4 : ∀ s ∈ L, s.length ≤ 1048576) : Holds Tryz.prog 57 [.sl .sh (L.map rowS)] [] (.sl (.ow 1) (L.map rowO)) [] := by
  refine holds_of (ann := toAnn) tabOk hm Tryz.func57 (by kernel_rfl) rfl ?_
  simp +decide (disch := first | omega | (simp only [ll]; omega)) only [Tryz.f57, if_pos, go_sem, Nat.reduceAdd, Nat.reduceMul, Nat.reduceSub]
  refine Runs.while (α := Nat) (tssSt L) (fun i => L.length - i) (fun i => i ≤ L.length) 0 (by omega) ?_ ?_
  · simp [go_sem, toAnn, tssSt, fillS_zero]
  · intro i hi ih
    have hlen := fillS_length rowO L (.v (.slice none 0 0)) i hi
    simp +decide only [tssSt, hlen, go_sem, Nat.reduceAdd, Nat.reduceMul, Nat.reduceSub]
    refine Runs.split (fun h => ?_) (fun h => ?_)
    · have hlt : i < L.length := by simpa using h
      have hg := fillS_get rowO L (.v (.slice none 0 0)) i hlt
      have hg2 : (L.map rowS).getD i .any = .sl .sh (L[i].map intA) := by simp [List.getD, hlt, rowS]
      have hs : (fillS rowO L (.v (.slice none 0 0)) i).set i (rowO L[i]) = _ := fillS_set rowO L (.v (.slice none 0 0)) i hlt
      simp only [rowO] at hs
      simp +decide (disch := first | omega | (simp only [ll]; omega)) only [hlen, hg, hg2, if_pos, go_sem, Nat.reduceAdd, Nat.reduceMul, Nat.reduceSub]
      refine Runs.call (toIntS hm L[i] (h4 _ (List.getElem_mem hlt))) ?_
      simp +decide (disch := first | omega | (simp only [ll]; omega)) only [hlen, hg, hs, Nat.mul_one, Nat.zero_add, Nat.add_zero, if_pos, go_sem, Nat.reduceAdd, Nat.reduceMul, Nat.reduceSub]
      refine ih (i + 1) _ (by omega) hlt ?_
      simp [go_sem, toAnn, tssSt]
    · have hge : i = L.length := by simp at h; omega
      subst hge
      simp +decide only [hlen, fillS_all, go_sem, Nat.reduceAdd, Nat.reduceMul, Nat.reduceSub]
      exact Runs.ret_refl
def esS : Sched := .take 0 (.take 1 (.take 2 (.take 4 (.take 5 (.take 6 (.alt 3 (.alt 7 (.alt 8 (.take 9 .fin) .nil) .nil) (.alt 7 (.alt 3 (.alt 8 (.take 9 .fin) .nil) .nil) .nil)))))))
attribute [local go_sem] esS
def essSt (L : List (List Int)) (i : Nat) : St := ⟨[.sl .sh (L.map rowS), .sl .sh (L.map rowS), .any, .any, .any, .v (.int .i64 i), .any, .any, .any, .any, .any, .any, .any, .any, .any, .any, .any, .any, .any, .any, .any, .any, .any, .any, .any, .any, .any], [], []⟩
include hm in
theorem eqIntSS (L : List (List Int)) (h3 : L.length ≤ 1048576) (h4 : ∀ s ∈ L, s.length ≤ 1048576) : Holds Tryz.prog 79 [.sl .sh (L.map rowS), .sl .sh (L.map rowS)] [] (.v (.bool true)) [] := by
  refine holds_of (ann := eqAnn) tabOk hm Tryz.func79 (by kernel_rfl) rfl ?_
  simp +decide only [Tryz.f79, go_sem, Nat.reduceAdd, Nat.reduceMul, Nat.reduceSub]
  refine Runs.while (α := Nat) (essSt L) (fun i => L.length - i) (fun i => i ≤ L.length) 0 (by omega) ?_ ?_
  · simp [go_sem, eqAnn, essSt]
  · intro i hi ih
    simp +decide only [essSt, go_sem, Nat.reduceAdd, Nat.reduceMul, Nat.reduceSub]
    refine Runs.split (fun h => ?_) (fun h => ?_)
    · have hlt : i < L.length := by simpa using h
      have hsz := h4 _ (List.getElem_mem hlt)
      have hg : (L.map rowS).getD i .any = .sl .sh (L[i].map intA) := by simp [List.getD, hlt, rowS]
      simp +decide only [go_sem, Nat.reduceAdd, Nat.reduceMul, Nat.reduceSub]
      refine Runs.draw (st1 := ?s1) (draws_by (ann := []) tabOk esS (by kernel_rfl) ?p1) ?q1
      case p1 =>
        intro K r X hK
        simp +decide (disch := first | omega | (simp only [ll]; omega)) only [hg, if_pos, go_sem, Nat.reduceAdd, Nat.reduceMul, Nat.reduceSub]
        repeat' apply And.intro
        all_goals
          refine Runs.call (eqIntS hm L[i] (by omega)) ?_
          simp +decide only [go_sem, Nat.reduceAdd, Nat.reduceMul, Nat.reduceSub]
          exact hK
      case q1 =>
        simp +decide (disch := first | omega | (simp only [ll]; omega)) only [if_pos, go_sem, Nat.reduceAdd, Nat.reduceMul, Nat.reduceSub]
        refine ih (i + 1) _ (by omega) hlt ?_
        simp [go_sem, eqAnn, essSt]
    · simp +decide only [go_sem, Nat.reduceAdd, Nat.reduceMul, Nat.reduceSub]
      exact Runs.ret_v
def exS (ca : Bool) (path usage : Int) (ho : List ByteArray) (ne : List (List Int)) (al de : List ByteArray) (pu : List Int) : A :=
  .agg [.v (.bool ca), .v (.int .i64 path), .v (.int .i64 usage), .sl .sh (ho.map strA), .sl .sh (ne.map rowS), .sl .sh (al.map strA), .sl .sh (de.map strA), .sl .sh (pu.map intA)]
def exO (ca : Bool) (path usage : Int) (ho : List ByteArray) (ne : List (List Int)) (al de : List ByteArray) (pu : List Int) : A :=
  .agg [.v (.bool ca), .v (.int .i64 path), .v (.int .i64 usage), .sl (.ow 1) (ho.map strA), .sl (.ow 1) (ne.map rowO), .sl (.ow 1) (al.map strA), .sl (.ow 1) (de.map strA), .sl (.ow 1) (pu.map intA)]
attribute [local go_sem] exS exO
def szExV (ho : List ByteArray) (ne : List (List Int)) (al de : List ByteArray) (pu : List Int) (left : Int) : Int :=
  if szS ho left < 0 then -1 else if szSS ne (szS ho left) < 0 then -1 else if szS al (szSS ne (szS ho left)) < 0 then -1 else
  if szS de (szS al (szSS ne (szS ho left))) < 0 then -1 else if szI pu.length (szS de (szS al (szSS ne (szS ho left)))) < 0 then -1 else szI pu.length (szS de (szS al (szSS ne (szS ho left))))
def ExFit (ho : List ByteArray) (ne : List (List Int)) (al de : List ByteArray) (pu : List Int) : Prop :=
  ho.length ≤ 1048576 ∧ ne.length ≤ 1048576 ∧ (∀ r ∈ ne, r.length ≤ 1048576) ∧ al.length ≤ 1048576 ∧ de.length ≤ 1048576 ∧ pu.length ≤ 1048576
theorem szExV_le (ho : List ByteArray) (ne : List (List Int)) (al de : List ByteArray) (pu : List Int) (left : Int) (h : 0 ≤ left) (h2 : left ≤ 1048576) :
    szExV ho ne al de pu left ≤ left ∧ -1 ≤ szExV ho ne al de pu left ∧ (¬ szExV ho ne al de pu left < 0 → ExFit ho ne al de pu) := by
  have b1 := szS_le ho left h
  unfold szExV
  split
  · exact ⟨by omega, by omega, fun h => by omega⟩
  · rename_i e1
    have k1 := szS_len ho _ e1 (by omega)
    have b2 := szSS_le ne (szS ho left) (by omega)
    split
    · exact ⟨by omega, by omega, fun h => by omega⟩
    · rename_i e2
      have k2 := b2.2.2 (by omega)
      have b3 := szS_le al (szSS ne (szS ho left)) (by omega)
      split
      · exact ⟨by omega, by omega, fun h => by omega⟩
      · rename_i e3
        have k3 := szS_len al _ e3 (by omega)
        have b4 := szS_le de (szS al (szSS ne (szS ho left))) (by omega)
        split
        · exact ⟨by omega, by omega, fun h => by omega⟩
        · rename_i e4
          have k4 := szS_len de _ e4 (by omega)
          have b5 := szI_le pu.length (szS de (szS al (szSS ne (szS ho left)))) (by omega)
          split
          · exact ⟨by omega, by omega, fun h => by omega⟩
          · rename_i e5
            have k5 := szI_len pu.length _ e5 (by omega)
            exact ⟨by omega, by omega, fun _ => ⟨k1, by omega, fun r hr => by have := k2.2 r hr; omega, k3, k4, k5⟩⟩
include hm in
theorem szExts (ca : Bool) (path usage : Int) (ho : List ByteArray) (ne : List (List Int)) (al de : List ByteArray) (pu : List Int) (left : Int) (l1 : 0 ≤ left) (l2 : left ≤ 1048576)
    (h1 : ho.length ≤ 9223372036854775807) (h2 : ∀ s ∈ ho, s.size ≤ 9223372036854775807) (h3 : ne.length ≤ 9223372036854775807) (h4 : ∀ s ∈ ne, s.length ≤ 9223372036854775807)
    (h5 : al.length ≤ 9223372036854775807) (h6 : ∀ s ∈ al, s.size ≤ 9223372036854775807) (h7 : de.length ≤ 9223372036854775807) (h8 : ∀ s ∈ de, s.size ≤ 9223372036854775807) (h9 : pu.length ≤ 9223372036854775807) :
    Holds Tryz.prog 15 [exS ca path usage ho ne al de pu, .v (.int .i64 left)] [] (.v (.int .i64 (szExV ho ne al de pu left))) [] := by
  have b1 := szS_le ho left l1
  refine holds_ref (ann := []) tabOk hm (byL [] [1000002]) Tryz.func15 (by kernel_rfl) rfl ?_
  simp +decide only [Tryz.f15, go_sem, Nat.reduceAdd, Nat.reduceMul, Nat.reduceSub]
  refine Runs.call (szStringS hm ho left l1 l2 h1 h2) ?_
  simp +decide only [go_sem, Nat.reduceAdd, Nat.reduceMul, Nat.reduceSub]
  refine Runs.split (fun e => ?_) (fun e => ?_)
  · simp only [decide_eq_true_eq] at e
    simp +decide only [szExV, if_pos e, go_sem, Nat.reduceAdd, Nat.reduceMul, Nat.reduceSub]
    exact Runs.ret_v
  simp only [decide_eq_false_iff_not] at e
  have b2 := szSS_le ne (szS ho left) (by omega)
  simp +decide only [go_sem, Nat.reduceAdd, Nat.reduceMul, Nat.reduceSub]
  refine Runs.call (szIntSS hm ne _ (by omega) (by omega) h3 h4) ?_
  simp +decide only [go_sem, Nat.reduceAdd, Nat.reduceMul, Nat.reduceSub]
  refine Runs.split (fun e2 => ?_) (fun e2 => ?_)
  · simp only [decide_eq_true_eq] at e2
    simp +decide only [szExV, if_neg e, if_pos e2, go_sem, Nat.reduceAdd, Nat.reduceMul, Nat.reduceSub]
    exact Runs.ret_v
  simp only [decide_eq_false_iff_not] at e2
  have b3 := szS_le al (szSS ne (szS ho left)) (by omega)
  simp +decide only [go_sem, Nat.reduceAdd, Nat.reduceMul, Nat.reduceSub]
  refine Runs.call (szStringS hm al _ (by omega) (by omega) h5 h6) ?_
  simp +decide only [go_sem, Nat.reduceAdd, Nat.reduceMul, Nat.reduceSub]
  refine Runs.split (fun e3 => ?_) (fun e3 => ?_)
  · simp only [decide_eq_true_eq] at e3
    simp +decide only [szExV, if_neg e, if_neg e2, if_pos e3, go_sem, Nat.reduceAdd, Nat.reduceMul, Nat.reduceSub]
    exact Runs.ret_v
  simp only [decide_eq_false_iff_not] at e3
  have b4 := szS_le de (szS al (szSS ne (szS ho left))) (by omega)
  simp +decide only [go_sem, Nat.reduceAdd, Nat.reduceMul, Nat.reduceSub]
  refine Runs.call (szStringS hm de _ (by omega) (by omega) h7 h8) ?_
  simp +decide only [go_sem, Nat.reduceAdd, Nat.reduceMul, Nat.reduceSub]
  refine Runs.split (fun e4 => ?_) (fun e4 => ?_)
  · simp only [decide_eq_true_eq] at e4
    simp +decide only [szExV, if_neg e, if_neg e2, if_neg e3, if_pos e4, go_sem, Nat.reduceAdd, Nat.reduceMul, Nat.reduceSub]
    exact Runs.ret_v
  simp only [decide_eq_false_iff_not] at e4
  simp +decide only [go_sem, Nat.reduceAdd, Nat.reduceMul, Nat.reduceSub]
  refine Runs.call (szIntS hm (pu.map intA) _ (by omega) (by omega) (by simpa using h9)) ?_
  simp +decide only [List.length_map, go_sem, Nat.reduceAdd, Nat.reduceMul, Nat.reduceSub]
  refine Runs.split (fun e5 => ?_) (fun e5 => ?_)
  · simp only [decide_eq_true_eq] at e5
    simp +decide only [szExV, if_neg e, if_neg e2, if_neg e3, if_neg e4, if_pos e5, go_sem, Nat.reduceAdd, Nat.reduceMul, Nat.reduceSub]
    exact Runs.ret_v
  simp only [decide_eq_false_iff_not] at e5
  simp +decide only [szExV, if_neg e, if_neg e2, if_neg e3, if_neg e4, if_neg e5, go_sem, Nat.reduceAdd, Nat.reduceMul, Nat.reduceSub]
  exact Runs.ret_v
include hm in
theorem toExts (ca : Bool) (path usage : Int) (ho : List ByteArray) (ne : List (List Int)) (al de : List ByteArray) (pu : List Int) (h : ExFit ho ne al de pu) :
    Holds Tryz.prog 24 [exS ca path usage ho ne al de pu] [] (exO ca path usage ho ne al de pu) [] := by
  obtain ⟨h1, h2, h3, h4, h5, h6⟩ := h
  refine holds_ref (ann := []) tabOk hm (byL [] [1000001]) Tryz.func24 (by kernel_rfl) rfl ?_
  simp +decide only [Tryz.f24, go_sem, Nat.reduceAdd, Nat.reduceMul, Nat.reduceSub]
  refine Runs.call (toStringS hm ho h1) ?_
  simp +decide only [go_sem, Nat.reduceAdd, Nat.reduceMul, Nat.reduceSub]
  refine Runs.call (toIntSS hm ne h2 h3) ?_
  simp +decide only [go_sem, Nat.reduceAdd, Nat.reduceMul, Nat.reduceSub]
  refine Runs.call (toStringS hm al h4) ?_
  simp +decide only [go_sem, Nat.reduceAdd, Nat.reduceMul, Nat.reduceSub]
  refine Runs.call (toStringS hm de h5) ?_
  simp +decide only [go_sem, Nat.reduceAdd, Nat.reduceMul, Nat.reduceSub]
  refine Runs.call (toIntS hm pu h6) ?_
  simp +decide only [go_sem, Nat.reduceAdd, Nat.reduceMul, Nat.reduceSub]
  exact Runs.ret_refl
include hm in
theorem eqExts (ca : Bool) (path usage : Int) (ho : List ByteArray) (ne : List (List Int)) (al de : List ByteArray) (pu : List Int) (h : ExFit ho ne al de pu) :
    Holds Tryz.prog 34 [exS ca path usage ho ne al de pu, exS ca path usage ho ne al de pu] [] (.v (.bool true)) [] := by
  obtain ⟨h1, h2, h3, h4, h5, h6⟩ := h
  refine holds_ref (ann := []) tabOk hm (byL [] [1000002, 1000003]) Tryz.func34 (by kernel_rfl) rfl ?_
  simp +decide only [Tryz.f34, go_sem, Nat.reduceAdd, Nat.reduceMul, Nat.reduceSub]
  refine Runs.call (eqStringS hm ho (by omega)) ?_
  simp +decide only [go_sem, Nat.reduceAdd, Nat.reduceMul, Nat.reduceSub]
  refine Runs.call (eqIntSS hm ne h2 h3) ?_
  simp +decide only [go_sem, Nat.reduceAdd, Nat.reduceMul, Nat.reduceSub]
  refine Runs.call (eqStringS hm al (by omega)) ?_
  simp +decide only [go_sem, Nat.reduceAdd, Nat.reduceMul, Nat.reduceSub]
  refine Runs.call (eqStringS hm de (by omega)) ?_
  simp +decide only [go_sem, Nat.reduceAdd, Nat.reduceMul, Nat.reduceSub]
  refine Runs.call (eqIntS hm pu (by omega)) ?_
  simp +decide only [go_sem, Nat.reduceAdd, Nat.reduceMul, Nat.reduceSub]
  exact Runs.ret_v
end Go.Proofs.W

namespace Go.Proofs.W
open Go Go.AM
set_option maxRecDepth 10000
variable (hm : Tryz.prog.follows .mixedOrders = true)
def charOk (b : UInt8) : Bool := inB b.toNat 32 126
def textOk (s : ByteArray) : Bool := inB s.size 1 40 && s.data.toList.all charOk
def nameOk (L : List ByteArray) : Bool := L.all textOk && inB L.length 1 4
theorem bs_len (s : ByteArray) : s.data.toList.length = s.size := by rw [Array.length_toList]; rfl
def ann13 : Ann := [(0, [0, 3]), (2, [0, 3, 4])]
def st13 (L : List ByteArray) (i : Nat) : St := ⟨[.sl .sh (L.map strA), .any, .any, .v (.int .i64 i), .any, .any, .any, .any, .any, .any, .any, .any, .any, .any, .any, .any, .any, .any, .any, .any, .any, .any, .any, .any, .any, .any, .any, .any, .any, .any, .any, .any, .any, .any, .any, .any, .any, .any, .any], [], []⟩
def st13b (L : List ByteArray) (i k : Nat) : St := ⟨[.sl .sh (L.map strA), .any, .any, .v (.int .i64 i), .v (.int .i64 k), .any, .any, .any, .any, .any, .any, .any, .any, .any, .any, .any, .any, .any, .any, .any, .any, .any, .any, .any, .any, .any, .any, .any, .any, .any, .any, .any, .any, .any, .any, .any, .any, .any, .any], [], []⟩
include hm in
theorem l10Name (L : List ByteArray) (h3 : L.length ≤ 9223372036854775807) (h4 : ∀ s ∈ L, s.size ≤ 9223372036854775807) :
    Holds Tryz.prog 41 [.sl .sh (L.map strA)] [] (.v (.bool (nameOk L))) [] := by
  refine holds_of (ann := ann13) tabOk hm Tryz.func41 (by kernel_rfl) rfl ?_
  simp +decide only [Tryz.f41, go_sem, Nat.reduceAdd, Nat.reduceMul, Nat.reduceSub]
  refine Runs.while (α := Nat) (st13 L) (fun i => L.length - i) (fun i => i ≤ L.length ∧ (L.drop i).all textOk = L.all textOk) 0 ⟨by omega, by simp⟩ ?_ ?_
  · simp [go_sem, ann13, st13]
  · rintro i ⟨hi1, hr⟩ ih
    simp +decide only [st13, go_sem, Nat.reduceAdd, Nat.reduceMul, Nat.reduceSub]
    refine Runs.split (fun h => ?_) (fun h => ?_)
    · have hlt : i < L.length := by simpa using h
      have hs := h4 L[i] (List.getElem_mem hlt)
      rw [List.drop_eq_getElem_cons hlt, List.all_cons] at hr
      simp +decide (disch := first | omega | (simp only [ll]; omega)) only [if_pos, go_sem, Nat.reduceAdd, Nat.reduceMul, Nat.reduceSub]
      refine Runs.call (l1In hm L[i].size 1 40) ?_
      simp +decide only [go_sem, Nat.reduceAdd, Nat.reduceMul, Nat.reduceSub]
      refine Runs.split (fun h => ?_) (fun h => ?_)
      · simp only [Bool.not_eq_true'] at h
        have e : nameOk L = false := by rw [nameOk, ← hr, textOk, h]; simp
        simp +decide only [e, go_sem, Nat.reduceAdd, Nat.reduceMul, Nat.reduceSub]
        exact Runs.ret_v
      · simp only [Bool.not_eq_false'] at h
        simp +decide only [go_sem, Nat.reduceAdd, Nat.reduceMul, Nat.reduceSub]
        refine Runs.while (α := Nat) (st13b L i) (fun k => L[i].size - k) (fun k => k ≤ L[i].size ∧ (L[i].data.toList.drop k).all charOk = L[i].data.toList.all charOk) 0 ⟨by omega, by simp⟩ ?_ ?_
        · simp [go_sem, ann13, st13b]
        · rintro k ⟨hk1, hk⟩ ihk
          simp +decide (disch := first | omega | (simp only [ll]; omega)) only [st13b, if_pos, go_sem, Nat.reduceAdd, Nat.reduceMul, Nat.reduceSub]
          refine Runs.split (fun h => ?_) (fun h => ?_)
          · have hltk : k < L[i].size := by simpa using h
            have hlen := bs_len L[i]
            rw [List.drop_eq_getElem_cons (by omega), List.all_cons] at hk
            have hg : L[i].data.toList.getD k 0 = L[i].data.toList[k] := by simp [List.getD, hltk]
            have hb := UInt8.toNat_lt L[i].data.toList[k]
            simp +decide (disch := first | omega | (simp only [ll]; omega)) only [hg, if_pos, go_sem, Nat.reduceAdd, Nat.reduceMul, Nat.reduceSub]
            refine Runs.call (l1In hm _ 32 126) ?_
            simp +decide only [go_sem, Nat.reduceAdd, Nat.reduceMul, Nat.reduceSub]
            refine Runs.split (fun h' => ?_) (fun h' => ?_)
            · simp only [Bool.not_eq_true'] at h'
              have e : nameOk L = false := by rw [nameOk, ← hr, textOk, ← hk, charOk, h']; simp
              simp +decide only [e, go_sem, Nat.reduceAdd, Nat.reduceMul, Nat.reduceSub]
              exact Runs.ret_v
            · simp only [Bool.not_eq_false'] at h'
              rw [charOk, h', Bool.true_and] at hk
              simp +decide (disch := first | omega | (simp only [ll]; omega)) only [if_pos, go_sem, Nat.reduceAdd, Nat.reduceMul, Nat.reduceSub]
              refine ihk (k + 1) _ (by omega) ⟨by omega, hk⟩ ?_
              simp [go_sem, ann13, st13b]
          · have hge : k = L[i].size := by simp at h; omega
            have hlen := bs_len L[i]
            rw [List.drop_of_length_le (by omega), List.all_nil] at hk
            rw [textOk, ‹inB _ 1 40 = true›, ← hk, Bool.true_and, Bool.true_and] at hr
            simp +decide (disch := first | omega | (simp only [ll]; omega)) only [if_pos, go_sem, Nat.reduceAdd, Nat.reduceMul, Nat.reduceSub]
            refine ih (i + 1) _ (by omega) ⟨by omega, hr⟩ ?_
            simp [go_sem, ann13, st13]
    · have hge : i = L.length := by simp at h; omega
      subst hge
      rw [List.drop_length, List.all_nil] at hr
      simp +decide only [go_sem, Nat.reduceAdd, Nat.reduceMul, Nat.reduceSub]
      refine Runs.call (l1In hm _ 1 4) ?_
      simp +decide only [nameOk, ← hr, go_sem, Nat.reduceAdd, Nat.reduceMul, Nat.reduceSub]
      exact Runs.ret_v
def ann18 : Ann := [(0, [0, 6, 7, 8]), (2, [0, 4, 6, 7, 8, 13, 14])]
def st18 (L : List ByteArray) (i : Nat) : St := ⟨[.sl .sh (L.map strA), .any, .any, .any, .any, .any, .sl .sh (L.map strA), .v (.int .i64 L.length), .v (.int .i64 i), .any, .any, .any, .any, .any, .any, .any, .any, .any, .any, .any, .any, .any, .any, .any, .any, .any, .any, .any, .any, .any, .any, .any, .any, .any, .any, .any], [], []⟩
def st18b (L : List ByteArray) (i : Nat) (s : ByteArray) (k : Nat) : St := ⟨[.sl .sh (L.map strA), .any, .any, .any, .v (.string s), .any, .sl .sh (L.map strA), .v (.int .i64 L.length), .v (.int .i64 i), .any, .any, .any, .any, .v (.int .i64 s.size), .v (.int .i64 k), .any, .any, .any, .any, .any, .any, .any, .any, .any, .any, .any, .any, .any, .any, .any, .any, .any, .any, .any, .any, .any], [], []⟩
theorem charOk_lo {b : UInt8} (h : (b.toNat : Int) < 32) : charOk b = false := by simp [charOk, inB]; omega
theorem charOk_hi {b : UInt8} (h : ¬ (b.toNat : Int) < 32) : charOk b = !decide ((b.toNat : Int) > 126) := by
  unfold charOk inB
  rw [decide_eq_true (by omega), Bool.true_and]
  by_cases h2 : (b.toNat : Int) > 126
  · rw [decide_eq_false (by omega), decide_eq_true h2]; rfl
  · rw [decide_eq_true (by omega), decide_eq_false h2]; rfl
include hm in
theorem isName (L : List ByteArray) (h3 : L.length ≤ 9223372036854775807) (h4 : ∀ s ∈ L, s.size ≤ 9223372036854775807) :
    Holds Tryz.prog 59 [.sl .sh (L.map strA)] [] (.v (.bool (nameOk L))) [] := by
  refine holds_of (ann := ann18) tabOk hm Tryz.func59 (by kernel_rfl) rfl ?_
  simp +decide only [Tryz.f59, go_sem, Nat.reduceAdd, Nat.reduceMul, Nat.reduceSub]
  refine Runs.while (α := Nat) (st18 L) (fun i => L.length - i) (fun i => i ≤ L.length ∧ (L.drop i).all textOk = L.all textOk) 0 ⟨by omega, by simp⟩ ?_ ?_
  · simp [go_sem, ann18, st18]
  · rintro i ⟨hi1, hr⟩ ih
    simp +decide only [st18, go_sem, Nat.reduceAdd, Nat.reduceMul, Nat.reduceSub]
    refine Runs.split (fun h => ?_) (fun h => ?_)
    · have hlt : i < L.length := by simpa using h
      have hs := h4 L[i] (List.getElem_mem hlt)
      rw [List.drop_eq_getElem_cons hlt, List.all_cons] at hr
      simp +decide (disch := first | omega | (simp only [ll]; omega)) only [if_pos, go_sem, Nat.reduceAdd, Nat.reduceMul, Nat.reduceSub]
      refine Runs.while (α := Nat) (st18b L i L[i]) (fun k => L[i].size - k) (fun k => k ≤ L[i].size ∧ (L[i].data.toList.drop k).all charOk = L[i].data.toList.all charOk) 0 ⟨by omega, by simp⟩ ?_ ?_
      · simp [go_sem, ann18, st18b]
      · rintro k ⟨hk1, hk⟩ ihk
        simp +decide (disch := first | omega | (simp only [ll]; omega)) only [st18b, if_pos, go_sem, Nat.reduceAdd, Nat.reduceMul, Nat.reduceSub]
        refine Runs.split (fun h => ?_) (fun h => ?_)
        · have hltk : k < L[i].size := by simpa using h
          have hlen := bs_len L[i]
          rw [List.drop_eq_getElem_cons (by omega), List.all_cons] at hk
          have hg : L[i].data.toList.getD k 0 = L[i].data.toList[k] := by simp [List.getD, hltk]
          have hb := UInt8.toNat_lt L[i].data.toList[k]
          simp +decide (disch := first | omega | (simp only [ll]; omega)) only [hg, if_pos, go_sem, Nat.reduceAdd, Nat.reduceMul, Nat.reduceSub]
          have stop : charOk L[i].data.toList[k] = false → nameOk L = false := fun h => by rw [nameOk, ← hr, textOk, ← hk, h]; simp
          refine Runs.split (fun h => ?_) (fun h => ?_)
          · simp only [decide_eq_true_eq] at h
            simp +decide only [stop (charOk_lo h), go_sem, Nat.reduceAdd, Nat.reduceMul, Nat.reduceSub]
            exact Runs.ret_v
          · simp only [decide_eq_false_iff_not] at h
            simp +decide (disch := first | omega | (simp only [ll]; omega)) only [hg, if_pos, go_sem, Nat.reduceAdd, Nat.reduceMul, Nat.reduceSub]
            refine Runs.split (fun h2 => ?_) (fun h2 => ?_)
            · simp +decide only [stop (by rw [charOk_hi h, h2]; rfl), go_sem, Nat.reduceAdd, Nat.reduceMul, Nat.reduceSub]
              exact Runs.ret_v
            · rw [charOk_hi h, h2, Bool.not_false, Bool.true_and] at hk
              simp +decide (disch := first | omega | (simp only [ll]; omega)) only [if_pos, go_sem, Nat.reduceAdd, Nat.reduceMul, Nat.reduceSub]
              refine ihk (k + 1) _ (by omega) ⟨by omega, hk⟩ ?_
              simp [go_sem, ann18, st18b]
        · have hge : k = L[i].size := by simp at h; omega
          have hlen := bs_len L[i]
          rw [List.drop_of_length_le (by omega), List.all_nil] at hk
          simp +decide only [go_sem, Nat.reduceAdd, Nat.reduceMul, Nat.reduceSub]
          refine Runs.call (within hm _ 1 40) ?_
          simp +decide only [go_sem, Nat.reduceAdd, Nat.reduceMul, Nat.reduceSub]
          refine Runs.split (fun h' => ?_) (fun h' => ?_)
          · simp only [Bool.not_eq_true'] at h'
            have e : nameOk L = false := by rw [nameOk, ← hr, textOk, h']; simp
            simp +decide only [e, go_sem, Nat.reduceAdd, Nat.reduceMul, Nat.reduceSub]
            exact Runs.ret_v
          · simp only [Bool.not_eq_false'] at h'
            rw [textOk, h', ← hk, Bool.true_and, Bool.true_and] at hr
            simp +decide (disch := first | omega | (simp only [ll]; omega)) only [if_pos, go_sem, Nat.reduceAdd, Nat.reduceMul, Nat.reduceSub]
            refine ih (i + 1) _ (by omega) ⟨by omega, hr⟩ ?_
            simp [go_sem, ann18, st18]
    · have hge : i = L.length := by simp at h; omega
      subst hge
      rw [List.drop_length, List.all_nil] at hr
      simp +decide only [go_sem, Nat.reduceAdd, Nat.reduceMul, Nat.reduceSub]
      refine Runs.call (within hm _ 1 4) ?_
      simp +decide only [nameOk, ← hr, go_sem, Nat.reduceAdd, Nat.reduceMul, Nat.reduceSub]
      exact Runs.ret_v
include hm in
theorem isSig (es : List A) : Holds Tryz.prog 62 [.sl .sh es] [] (.v (.bool (inB es.length 1 64))) [] := by
  refine holds_of (ann := []) tabOk hm Tryz.func62 (by kernel_rfl) rfl ?_
  simp +decide only [Tryz.f62, go_sem, Nat.reduceAdd, Nat.reduceMul, Nat.reduceSub]
  refine Runs.call (within hm es.length 1 64) ?_
  simp +decide only [go_sem, Nat.reduceAdd, Nat.reduceMul, Nat.reduceSub]
  exact Runs.ret_v
def ann21 : Ann := [(0, [0, 1, 2, 7])]
def st21 (L : List Int) (lo hi : Int) (i : Nat) : St := ⟨[.sl .sh (L.map intA), .v (.int .i64 lo), .v (.int .i64 hi), .any, .any, .any, .any, .v (.int .i64 i), .any, .any, .any, .any, .any, .any, .any, .any, .any, .any, .any, .any, .any, .any, .any, .any, .any, .any, .any, .any], [], []⟩
def sched21 : Sched := .take 0 (.take 1 (.take 2 (.take 3 (.take 5 (.take 6 (.take 7 (.alt 4 (.alt 8 (.take 9 .fin) .nil) (.alt 8 (.alt 4 (.take 9 .fin) .nil) .nil))))))))
def risesFrom (L : List Int) (i : Nat) : Bool := (List.range' i (L.length - i)).all fun j => decide (L.getD (j - 1) 0 < L.getD j 0)
theorem risesFrom_succ {L : List Int} {i : Nat} (h : i < L.length) : risesFrom L i = (decide (L.getD (i - 1) 0 < L.getD i 0) && risesFrom L (i + 1)) := by
  unfold risesFrom
  obtain ⟨k, hk⟩ : ∃ k, L.length - i = k + 1 := ⟨L.length - i - 1, by omega⟩
  rw [hk, List.range'_succ, List.all_cons, show L.length - (i + 1) = k by omega]
include hm in
theorem isRising (L : List Int) (lo hi : Int) (h3 : L.length ≤ 9223372036854775807) :
    Holds Tryz.prog 111 [.sl .sh (L.map intA), .v (.int .i64 lo), .v (.int .i64 hi)] [] (.v (.bool (risesFrom L 1 && L.all fun n => inB n lo hi))) [] := by
  refine holds_of (ann := ann21) tabOk hm Tryz.func111 (by kernel_rfl) rfl ?_
  simp +decide only [Tryz.f111, go_sem, Nat.reduceAdd, Nat.reduceMul, Nat.reduceSub]
  refine Runs.while (α := Nat) (st21 L lo hi) (fun i => L.length - i) (fun i => 1 ≤ i ∧ i ≤ max L.length 1 ∧ risesFrom L i = risesFrom L 1) 1 ⟨by omega, by omega, rfl⟩ ?_ ?_
  · simp [go_sem, ann21, st21]
  · rintro i ⟨hi0, hi1, hr⟩ ih
    simp +decide only [st21, go_sem, Nat.reduceAdd, Nat.reduceMul, Nat.reduceSub]
    refine Runs.split (fun h => ?_) (fun h => ?_)
    · have hlt : i < L.length := by simpa using h
      rw [risesFrom_succ hlt] at hr
      have he : (L.map intA).getD i .any = .v (.int .i64 (L.getD i 0)) := by simp [List.getD, hlt, intA]
      have he1 : (L.map intA).getD (i - 1) .any = .v (.int .i64 (L.getD (i - 1) 0)) := by simp [List.getD, show i - 1 < L.length by omega, intA]
      have ht : ((i : Int) - 1).toNat = i - 1 := by omega
      have hw : IntKind.i64.wrap ((i : Int) - 1) = (i : Int) - 1 := wrap_i64 (by omega) (by omega)
      simp +decide only [go_sem, Nat.reduceAdd, Nat.reduceMul, Nat.reduceSub]
      refine Runs.draw (st1 := ?s1) (draws_by (ann := []) tabOk sched21 (by kernel_rfl) ?h1) ?h2
      case h1 =>
        intro K r X hK
        simp +decide only [sched21, hw, ht, he, he1, go_sem, Nat.reduceAdd, Nat.reduceMul, Nat.reduceSub]
        refine Runs.chk (by simp; omega) (Runs.chk (by simp; omega) (Runs.both (Runs.both ?_ Runs.done) (Runs.both (Runs.both ?_ Runs.done) Runs.done)))
        · exact hK
        · exact hK
      case h2 =>
        simp +decide only [go_sem, Nat.reduceAdd, Nat.reduceMul, Nat.reduceSub]
        refine Runs.split (fun h => ?_) (fun h => ?_)
        · simp only [decide_eq_true_eq] at h
          rw [decide_eq_false (by omega), Bool.false_and] at hr
          simp +decide only [← hr, go_sem, Nat.reduceAdd, Nat.reduceMul, Nat.reduceSub]
          exact Runs.ret_v
        · simp only [decide_eq_false_iff_not] at h
          rw [decide_eq_true (by omega), Bool.true_and] at hr
          simp +decide (disch := first | omega | (simp only [ll]; omega)) only [if_pos, go_sem, Nat.reduceAdd, Nat.reduceMul, Nat.reduceSub]
          refine ih (i + 1) _ (by omega) ⟨by omega, by omega, hr⟩ ?_
          simp [go_sem, ann21, st21]
    · have hge : L.length ≤ i := by simp at h; omega
      have hz : risesFrom L i = true := by unfold risesFrom; rw [show L.length - i = 0 by omega]; rfl
      rw [hz] at hr
      simp +decide only [dn_intA, go_sem, Nat.reduceAdd, Nat.reduceMul, Nat.reduceSub]
      refine Runs.call (allWithin hm L lo hi h3) ?_
      simp +decide only [← hr, go_sem, Nat.reduceAdd, Nat.reduceMul, Nat.reduceSub]
      exact Runs.ret_v
end Go.Proofs.W
