import Derived.Test.YtnckgoabpeagaaaProg
import Derived.KernelRfl
import Derived.Lib.Strings
import Derived.Lib.Slices
import Derived.Lib.Walk
import Derived.Lib.Bytealg
import Derived.Lib.IndexLaws
import Derived.Shelf.Lays
import Derived.Shelf.Strings.FieldsFuncAny
import Derived.Shelf.Strings.OnBuilder
import Derived.Laws.AppendOwn
import Derived.Lib.SlicesCompact
import Derived.Shelf.Sort.Plain
import Derived.Shelf.Slices.In.SortNone
import Derived.Shelf.Slices.CompactI
import Derived.Shelf.Spec.SlicesGrow
import Derived.Test.YtnckgoabpeagaaaMachine3
set_option linter.unusedVariables false
set_option linter.unusedSimpArgs false
namespace Go.Proofs.W
open Go Go.AM
def repV (n : Nat) (v : Value) : List Value := List.replicate n v
def tab : Go.AM.Tab := [
 [⟨.other, 0, 0, []⟩,
 ⟨.func, 1, 8, [.nilFunc]⟩,
 ⟨.int .i64, 1, 8, [.int .i64 0]⟩,
 ⟨.int .i64, 1, 8, [.int .i64 0]⟩,
 ⟨.bool, 1, 1, [.bool false]⟩,
 ⟨.int .u8, 1, 1, [.int .u8 0]⟩,
 ⟨.int .u8, 1, 1, [.int .u8 0]⟩,
 ⟨.struct [(0, 1, 2), (1, 1, 3), (2, 1, 4), (3, 1, 6)], 4, 24, [.int .i64 0, .int .i64 0, .bool false, .int .u8 0]⟩,
 ⟨.struct [(0, 1, 2), (1, 1, 3), (2, 1, 4), (3, 1, 6)], 4, 24, [.int .i64 0, .int .i64 0, .bool false, .int .u8 0]⟩,
 ⟨.string, 1, 16, [.string ⟨#[]⟩]⟩,
 ⟨.string, 1, 16, [.string ⟨#[]⟩]⟩,
 ⟨.string, 1, 16, [.string ⟨#[]⟩]⟩,
 ⟨.int .u64, 1, 8, [.int .u64 0]⟩,
 ⟨.struct [(0, 1, 9), (1, 1, 12)], 2, 24, [.string ⟨#[]⟩, .int .u64 0]⟩,
 ⟨.struct [(0, 1, 9), (1, 1, 12)], 2, 24, [.string ⟨#[]⟩, .int .u64 0]⟩,
 ⟨.pointer 102, 1, 8, [.pointer none]⟩],
 [⟨.pointer 105, 1, 8, [.pointer none]⟩,
 ⟨.pointer 113, 1, 8, [.pointer none]⟩,
 ⟨.struct [(0, 1, 17)], 1, 8, [.pointer none]⟩,
 ⟨.struct [(0, 1, 17)], 1, 8, [.pointer none]⟩,
 ⟨.other, 0, 0, []⟩,
 ⟨.int .i32, 1, 4, [.int .i32 0]⟩,
 ⟨.slice 9, 1, 24, [.slice none 0 0]⟩,
 ⟨.slice 3, 1, 24, [.slice none 0 0]⟩,
 ⟨.slice 5, 1, 24, [.slice none 0 0]⟩,
 ⟨.struct [(0, 1, 22), (1, 1, 3), (2, 1, 3), (3, 1, 3), (4, 1, 23), (5, 1, 24)], 6, 96, [.slice none 0 0, .int .i64 0, .int .i64 0, .int .i64 0, .slice none 0 0, .slice none 0 0]⟩,
 ⟨.struct [(0, 1, 22), (1, 1, 3), (2, 1, 3), (3, 1, 3), (4, 1, 23), (5, 1, 24)], 6, 96, [.slice none 0 0, .int .i64 0, .int .i64 0, .int .i64 0, .slice none 0 0, .slice none 0 0]⟩,
 ⟨.func, 1, 8, [.nilFunc]⟩,
 ⟨.other, 0, 0, []⟩,
 ⟨.func, 1, 8, [.nilFunc]⟩,
 ⟨.struct [(0, 1, 22), (1, 1, 3), (2, 1, 3), (3, 1, 3), (4, 1, 23), (5, 1, 24)], 6, 96, [.slice none 0 0, .int .i64 0, .int .i64 0, .int .i64 0, .slice none 0 0, .slice none 0 0]⟩,
 ⟨.func, 1, 8, [.nilFunc]⟩],
 [⟨.func, 1, 8, [.nilFunc]⟩,
 ⟨.func, 1, 8, [.nilFunc]⟩,
 ⟨.func, 1, 8, [.nilFunc]⟩,
 ⟨.func, 1, 8, [.nilFunc]⟩,
 ⟨.func, 1, 8, [.nilFunc]⟩,
 ⟨.func, 1, 8, [.nilFunc]⟩,
 ⟨.func, 1, 8, [.nilFunc]⟩,
 ⟨.func, 1, 8, [.nilFunc]⟩,
 ⟨.func, 1, 8, [.nilFunc]⟩,
 ⟨.func, 1, 8, [.nilFunc]⟩,
 ⟨.func, 1, 8, [.nilFunc]⟩,
 ⟨.func, 1, 8, [.nilFunc]⟩,
 ⟨.func, 1, 8, [.nilFunc]⟩,
 ⟨.func, 1, 8, [.nilFunc]⟩,
 ⟨.func, 1, 8, [.nilFunc]⟩,
 ⟨.func, 1, 8, [.nilFunc]⟩],
 [⟨.func, 1, 8, [.nilFunc]⟩,
 ⟨.func, 1, 8, [.nilFunc]⟩,
 ⟨.func, 1, 8, [.nilFunc]⟩,
 ⟨.func, 1, 8, [.nilFunc]⟩,
 ⟨.func, 1, 8, [.nilFunc]⟩,
 ⟨.func, 1, 8, [.nilFunc]⟩,
 ⟨.func, 1, 8, [.nilFunc]⟩,
 ⟨.slice 23, 1, 24, [.slice none 0 0]⟩,
 ⟨.func, 1, 8, [.nilFunc]⟩,
 ⟨.func, 1, 8, [.nilFunc]⟩,
 ⟨.func, 1, 8, [.nilFunc]⟩,
 ⟨.int .u64, 1, 8, [.int .u64 0]⟩,
 ⟨.func, 1, 8, [.nilFunc]⟩,
 ⟨.func, 1, 8, [.nilFunc]⟩,
 ⟨.func, 1, 8, [.nilFunc]⟩,
 ⟨.func, 1, 8, [.nilFunc]⟩],
 [⟨.func, 1, 8, [.nilFunc]⟩,
 ⟨.int .i64, 1, 8, [.int .i64 0]⟩,
 ⟨.other, 0, 0, []⟩,
 ⟨.func, 1, 8, [.nilFunc]⟩,
 ⟨.func, 1, 8, [.nilFunc]⟩,
 ⟨.func, 1, 8, [.nilFunc]⟩,
 ⟨.other, 0, 0, []⟩,
 ⟨.func, 1, 8, [.nilFunc]⟩,
 ⟨.func, 1, 8, [.nilFunc]⟩,
 ⟨.int .u32, 1, 4, [.int .u32 0]⟩,
 ⟨.func, 1, 8, [.nilFunc]⟩,
 ⟨.int .u64, 1, 8, [.int .u64 0]⟩,
 ⟨.slice 78, 1, 24, [.slice none 0 0]⟩,
 ⟨.struct [(0, 1, 3), (1, 1, 3)], 2, 16, [.int .i64 0, .int .i64 0]⟩,
 ⟨.struct [(0, 1, 3), (1, 1, 3)], 2, 16, [.int .i64 0, .int .i64 0]⟩,
 ⟨.pointer 81, 1, 8, [.pointer none]⟩],
 [⟨.struct [(0, 1, 79), (1, 1, 24)], 2, 32, [.pointer none, .slice none 0 0]⟩,
 ⟨.struct [(0, 1, 79), (1, 1, 24)], 2, 32, [.pointer none, .slice none 0 0]⟩,
 ⟨.func, 1, 8, [.nilFunc]⟩,
 ⟨.other, 0, 0, []⟩,
 ⟨.other, 0, 0, []⟩,
 ⟨.other, 0, 0, []⟩,
 ⟨.func, 1, 8, [.nilFunc]⟩,
 ⟨.func, 1, 8, [.nilFunc]⟩,
 ⟨.int .u64, 1, 8, [.int .u64 0]⟩,
 ⟨.func, 1, 8, [.nilFunc]⟩,
 ⟨.func, 1, 8, [.nilFunc]⟩,
 ⟨.func, 1, 8, [.nilFunc]⟩,
 ⟨.pointer 3, 1, 8, [.pointer none]⟩,
 ⟨.func, 1, 8, [.nilFunc]⟩,
 ⟨.pointer 5, 1, 8, [.pointer none]⟩,
 ⟨.pointer 88, 1, 8, [.pointer none]⟩],
 [⟨.other, 0, 0, []⟩,
 ⟨.func, 1, 8, [.nilFunc]⟩,
 ⟨.other, 0, 0, []⟩,
 ⟨.func, 1, 8, [.nilFunc]⟩,
 ⟨.func, 1, 8, [.nilFunc]⟩,
 ⟨.struct [(0, 1, 17), (1, 1, 17), (2, 1, 17), (3, 1, 9)], 4, 40, [.pointer none, .pointer none, .pointer none, .string ⟨#[]⟩]⟩,
 ⟨.struct [(0, 1, 17), (1, 1, 17), (2, 1, 17), (3, 1, 9)], 4, 40, [.pointer none, .pointer none, .pointer none, .string ⟨#[]⟩]⟩,
 ⟨.other, 0, 0, []⟩,
 ⟨.other, 0, 0, []⟩,
 ⟨.other, 0, 0, []⟩,
 ⟨.func, 1, 8, [.nilFunc]⟩,
 ⟨.int .u8, 1, 1, [.int .u8 0]⟩,
 ⟨.int .u8, 1, 1, [.int .u8 0]⟩,
 ⟨.func, 1, 8, [.nilFunc]⟩,
 ⟨.int .i32, 1, 4, [.int .i32 0]⟩,
 ⟨.int .i32, 1, 4, [.int .i32 0]⟩],
 [⟨.struct [(0, 1, 12), (1, 1, 12), (2, 1, 73), (3, 1, 107), (4, 1, 5), (5, 1, 5), (6, 1, 108), (7, 1, 109), (8, 1, 94), (9, 1, 110), (10, 1, 111)], 11, 48, [.int .u64 0, .int .u64 0, .int .u32 0, .int .u8 0, .int .u8 0, .int .u8 0, .int .u8 0, .nilFunc, .pointer none, .int .i32 0, .int .i32 0]⟩,
 ⟨.struct [(0, 1, 12), (1, 1, 12), (2, 1, 73), (3, 1, 107), (4, 1, 5), (5, 1, 5), (6, 1, 108), (7, 1, 109), (8, 1, 94), (9, 1, 110), (10, 1, 111)], 11, 48, [.int .u64 0, .int .u64 0, .int .u32 0, .int .u8 0, .int .u8 0, .int .u8 0, .int .u8 0, .nilFunc, .pointer none, .int .i32 0, .int .i32 0]⟩,
 ⟨.other, 0, 0, []⟩,
 ⟨.other, 0, 0, []⟩,
 ⟨.other, 0, 0, []⟩,
 ⟨.other, 0, 0, []⟩,
 ⟨.other, 0, 0, []⟩,
 ⟨.other, 0, 0, []⟩,
 ⟨.other, 0, 0, []⟩,
 ⟨.other, 0, 0, []⟩,
 ⟨.other, 0, 0, []⟩,
 ⟨.other, 0, 0, []⟩,
 ⟨.other, 0, 0, []⟩,
 ⟨.other, 0, 0, []⟩,
 ⟨.other, 0, 0, []⟩,
 ⟨.other, 0, 0, []⟩]]
theorem tabOk : TabOk Try.prog tab := tabOk_of (by kernel_rfl)
theorem row3 : tab.row 3 = ⟨.int .i64, 1, 8, [.int .i64 0]⟩ := Eq.trans rfl rfl
theorem row4 : tab.row 4 = ⟨.bool, 1, 1, [.bool false]⟩ := Eq.trans rfl rfl
theorem row5 : tab.row 5 = ⟨.int .u8, 1, 1, [.int .u8 0]⟩ := Eq.trans rfl rfl
theorem row9 : tab.row 9 = ⟨.string, 1, 16, [.string ⟨#[]⟩]⟩ := Eq.trans rfl rfl
theorem row22 : tab.row 22 = ⟨.slice 9, 1, 24, [.slice none 0 0]⟩ := Eq.trans rfl rfl
theorem row23 : tab.row 23 = ⟨.slice 3, 1, 24, [.slice none 0 0]⟩ := Eq.trans rfl rfl
theorem row24 : tab.row 24 = ⟨.slice 5, 1, 24, [.slice none 0 0]⟩ := Eq.trans rfl rfl
theorem row26 : tab.row 26 = ⟨.struct [(0, 1, 22), (1, 1, 3), (2, 1, 3), (3, 1, 3), (4, 1, 23), (5, 1, 24)], 6, 96, [.slice none 0 0, .int .i64 0, .int .i64 0, .int .i64 0, .slice none 0 0, .slice none 0 0]⟩ := Eq.trans rfl rfl
theorem row30 : tab.row 30 = ⟨.struct [(0, 1, 22), (1, 1, 3), (2, 1, 3), (3, 1, 3), (4, 1, 23), (5, 1, 24)], 6, 96, [.slice none 0 0, .int .i64 0, .int .i64 0, .int .i64 0, .slice none 0 0, .slice none 0 0]⟩ := Eq.trans rfl rfl
theorem row55 : tab.row 55 = ⟨.slice 23, 1, 24, [.slice none 0 0]⟩ := Eq.trans rfl rfl
attribute [go_sem] row3 row4 row5 row9 row22 row23 row24 row26 row30 row55
end Go.Proofs.W

namespace Go.Proofs.W
open Go Go.AM
set_option maxRecDepth 10000
variable (hm : Try.prog.follows .mixedOrders = true)
def inB (n a b : Int) : Bool := decide (a ≤ n) && decide (n ≤ b)
include hm in
theorem l1In (n a b : Int) : Holds Try.prog 30 [.v (.int .i64 n), .v (.int .i64 a), .v (.int .i64 b)] [] (.v (.bool (inB n a b))) [] := by
 refine holds_of (ann := []) tabOk hm Try.func30 (by kernel_rfl) rfl ?_
 simp +decide only [Try.f30, go_sem]
 refine Runs.split (fun h => ?_) (fun h => ?_)
 ·simp only [decide_eq_true_eq] at h
  have e : inB n a b = decide (n ≤ b) := by simp [inB]; omega
  simp +decide only [e, go_sem]
  exact Runs.ret_v
 ·simp only [decide_eq_false_iff_not] at h
  have e : inB n a b = false := by simp [inB]; omega
  simp +decide only [e, go_sem]
  exact Runs.ret_v
include hm in
theorem within (n a b : Int) : Holds Try.prog 36 [.v (.int .i64 n), .v (.int .i64 a), .v (.int .i64 b)] [] (.v (.bool (inB n a b))) [] := by
 refine holds_of (ann := []) tabOk hm Try.func36 (by kernel_rfl) rfl ?_
 simp +decide only [Try.f36, go_sem]
 refine Runs.split (fun h => ?_) (fun h => ?_)
 ·simp only [decide_eq_true_eq] at h
  have e : inB n a b = decide (n ≤ b) := by simp [inB]; omega
  simp +decide only [e, go_sem]
  exact Runs.ret_v
 ·simp only [decide_eq_false_iff_not] at h
  have e : inB n a b = false := by simp [inB]; omega
  simp +decide only [e, go_sem]
  exact Runs.ret_v
include hm in
theorem l9Ok (n : Int) : Holds Try.prog 32 [.v (.int .i64 n)] [] (.v (.bool (inB n (-631152000) 4102444799))) [] := by
 refine holds_of (ann := []) tabOk hm Try.func32 (by kernel_rfl) rfl ?_
 simp +decide only [Try.f32, go_sem]
 refine Runs.call (l1In hm n (-631152000) 4102444799) ?_
 simp +decide only [go_sem]
 exact Runs.ret_v
include hm in
theorem isTime (n : Int) : Holds Try.prog 35 [.v (.int .i64 n)] [] (.v (.bool (inB n (-631152000) 4102444799))) [] := by
 refine holds_of (ann := []) tabOk hm Try.func35 (by kernel_rfl) rfl ?_
 simp +decide only [Try.f35, go_sem]
 refine Runs.call (within hm n (-631152000) 4102444799) ?_
 simp +decide only [go_sem]
 exact Runs.ret_v
def ann26 : Ann := [(0, [1, 2, 9, 10, 11])]
def st26 (L : List Int) (lo hi : Int) (i : Nat) : St := ⟨[.any, .v (.int .i64 lo), .v (.int .i64 hi), .any, .any, .any, .any, .any, .any, .sl .sh (L.map intA), .v (.int .i64 L.length), .v (.int .i64 i), .any, .any, .any, .any, .any, .any, .any, .any, .any], [], []⟩
include hm in
theorem allWithin (L : List Int) (lo hi : Int) (h3 : L.length ≤ 9223372036854775807) :
  Holds Try.prog 47 [.sl .sh (L.map intA), .v (.int .i64 lo), .v (.int .i64 hi)] [] (.v (.bool (L.all fun n => inB n lo hi))) [] := by
 refine holds_of (ann := ann26) tabOk hm Try.func47 (by kernel_rfl) rfl ?_
 simp +decide only [Try.f47, go_sem]
 refine Runs.while (α := Nat) (st26 L lo hi) (fun i => L.length - i) (fun i => i ≤ L.length ∧ ((L.drop i).all fun n => inB n lo hi) = L.all fun n => inB n lo hi) 0 ⟨by omega, by simp⟩ ?_ ?_
 ·simp [go_sem, ann26, st26]
 ·rintro i ⟨hi1, hr⟩ ih
  simp +decide only [st26, go_sem]
  refine Runs.split (fun h => ?_) (fun h => ?_)
  ·have hlt : i < L.length := by simpa using h
   rw [List.drop_eq_getElem_cons hlt, List.all_cons] at hr
   simp +decide (disch := first | omega | (simp only [ll]; omega)) only [if_pos, go_sem]
   refine Runs.call (within hm L[i] lo hi) ?_
   simp +decide only [go_sem]
   refine Runs.split (fun h => ?_) (fun h => ?_)
   ·simp only [Bool.not_eq_true'] at h
    rw [h] at hr
    simp +decide only [← hr, go_sem]
    exact Runs.ret_v
   ·simp only [Bool.not_eq_false'] at h
    rw [h, Bool.true_and] at hr
    simp +decide (disch := first | omega | (simp only [ll]; omega)) only [if_pos, go_sem]
    refine ih (i + 1) _ (by omega) ⟨hlt, hr⟩ ?_
    simp [go_sem, ann26, st26]
  ·have hge : i = L.length := by simp at h; omega
   subst hge
   rw [List.drop_length, List.all_nil] at hr
   simp +decide only [← hr, go_sem]
   exact Runs.ret_v
end Go.Proofs.W

namespace Go.Proofs.W
open Go Go.AM
variable (hm : Try.prog.follows .mixedOrders = true)
theorem repL_vs {C : Ctx} {w : World} : ∀ {vs xs : List Value} {f}, RepL C w (vs.map A.v) xs f → xs = vs ∧ ∀ b, f b = 0
 | [], _, _, h => by cases h with | nil h => exact ⟨rfl, h⟩
 | v :: vs, _, _, h => by
  rw [List.map_cons] at h
  cases h with | v h => have := repL_vs h; exact ⟨by rw [this.1], this.2⟩
end Go.Proofs.W

namespace Go.Proofs.W
open Go Go.AM
def mkS (l : List UInt8) : ByteArray := ⟨l.toArray⟩
theorem mkS_size (l : List UInt8) : (mkS l).size = l.length := by simp [mkS, ByteArray.size]
theorem mkS_data (l : List UInt8) : (mkS l).data.toList = l := by simp [mkS]
theorem list_size (s : ByteArray) : s.data.toList.length = s.size := by rw [Array.length_toList]; rfl
theorem ext_list (s : ByteArray) (a b : Nat) : (s.extract a b).data.toList = (s.data.toList.drop a).take (b - a) := by
 rw [ByteArray.data_extract]; simp [List.extract_eq_take_drop]
theorem getD_lt {l : List UInt8} {i : Nat} (h : i < l.length) : l.getD i 0 = l[i] := by rw [List.getD, List.getElem?_eq_getElem h]; rfl
def partsL (c : UInt8) : List UInt8 → List (List UInt8)
 | [] => [[]]
 | b :: l => if b = c then [] :: partsL c l else match partsL c l with
  | [] => [[b]]
  | p :: r => (b :: p) :: r
def partsB (s : ByteArray) : List ByteArray := (partsL 46 s.data.toList).map mkS
def digC (b : UInt8) : Bool := inB b.toNat 48 57
def dashC (b : UInt8) : Bool := decide ((b.toNat : Int) = 45)
def okC (b : UInt8) : Bool := inB b.toNat 97 122 || digC b || dashC b
def labelB (s : ByteArray) : Bool := s.data.toList.all okC && inB s.size 1 20 && !dashC (s.data.toList.getD 0 0) && !dashC (s.data.toList.getD (s.size - 1) 0)
def digitsB (s : ByteArray) : Bool := s.data.toList.all digC && decide ((s.size : Int) > 0)
def lastB (L : List ByteArray) : ByteArray := L.getD (L.length - 1) ⟨#[]⟩
def hostB (s : ByteArray) : Bool := decide (s.size ≤ 80) && (partsB s).all labelB && decide ((partsB s).length ≤ 8) && !(lastB (partsB s)).data.toList.all digC
def dotC (b : UInt8) : Bool := decide ((b.toNat : Int) = 46)
def underB (b h : ByteArray) : Bool := hostB b && hostB h && ((b.toList == h.toList) || (decide ((h.size : Int) - b.size > 0) && ((h.extract (h.size - b.size) h.size).toList == b.toList) && dotC (h.data.toList.getD (h.size - b.size - 1) 0)))
def allowedB (al de : List ByteArray) (h : ByteArray) : Bool := hostB h && (decide (al.length = 0) || al.any fun b => underB b h) && !(de.any fun b => underB b h)
end Go.Proofs.W

namespace Go.Proofs.W
open Go Go.AM Go.RowKit Go.Shelf
variable (hm : Try.prog.follows .mixedOrders = true)
theorem repL_of_vs {C : Ctx} {w : World} (vs : List Value) : RepL C w (vs.map A.v) vs fun _ => 0 := by
 induction vs with
 | nil => exact .nil fun _ => rfl
 | cons v l ih => exact .v ih
theorem flat_strA (ss : List ByteArray) : flat (ss.map strA) = (ss.map Value.string).map A.v := by
 induction ss with
 | nil => rfl
 | cons a l ih => rw [List.map_cons, List.map_cons, List.map_cons, ← ih]; rfl
theorem holds_row {P : Program} {f : Nat} {vs : List Value} {ss : List ByteArray} {t : TypeId} (hf : ∃ fn c, P.funcs[f]? = some fn ∧ (fn.name == "runtime.NumGoroutine") = false ∧ fn.body = some c)
  (h : ∀ w, Calls P f vs.toArray w fun e w' => ∃ A, e = .returned (.slice (some ⟨A, 0, none⟩) ss.length ss.length) ∧ w.heap.size ≤ A ∧
   w'.ownsRow w.heap.size t 1 (.slice (some ⟨A, 0, none⟩) ss.length ss.length) ss.length (ss.map Value.string) ∧ Below w.heap.size w w') : Holds P f (vs.map .v) [] (.sl (.ow 1) (ss.map strA)) [] where
 fn := hf
 calls := by
  intro C w xs fx fa hF hB hI hX hM hle hno hR
  obtain ⟨rfl, h0⟩ := repL_vs hR
  have hx : ∀ b, fx b = 0 := by
   have hM : MemR C w [] fx := hM
   cases hM with | nil h => exact h
  refine (h w).mono ?_
  rintro e w' ⟨A, rfl, hA, ⟨hl, ho⟩, hb⟩
  rcases ho with ⟨ho, _⟩ | ⟨g, cap, cur, hv, hg, hrow, hn, hcm, hsz, htk⟩
  ·cases ho
  ·have e1 : g = A := by injection hv with a1; injection a1 with a2; injection a2 with a3; exact a3.symm
   have e2 : cap = ss.length := by injection hv with _ _ a3; exact a3.symm
   subst e1 e2
   have hfl := flat_strA ss
   have hrep : Rep1 C w' (.sl (.ow 1) (ss.map strA)) (.slice (some ⟨g, 0, none⟩) ss.length ss.length) fun b => if b = g then 1 else 0 := by
    have := RepL.ow (C := C) (w := w') (k := 1) (es := ss.map strA) (a := ⟨g, 0, none⟩) (cap := ss.length) (c := cur) (e := t) (fz := (0, 0)) (r := []) (xs := []) (f := fun b => if b = g then 1 else 0) (f1 := fun _ => 0) (f2 := fun _ => 0)
     hrow rfl (by intro x hx; obtain ⟨s, _, rfl⟩ := List.mem_map.mp hx; rfl) (by simp) (by simp; omega) (by unfold maxLen at hcm; unfold capM; omega) (by intro o ho; simp)
     (by
      rw [List.length_map, List.drop_zero, htk]
      intro v hv; obtain ⟨s, _, rfl⟩ := List.mem_map.mp hv; rfl)
     (by intro b; simp) (by rw [List.length_map, List.drop_zero, htk, hfl]; exact repL_of_vs _) (.nil fun _ => rfl)
    rw [List.length_map] at this
    exact this
   refine ⟨C, _, fun _ => 0, Ctx.ToX.refl C, rfl, hB, fun _ h => h, fun _ h => .inl h, fun b h => Nat.lt_of_lt_of_le (hI b h) hb.size, hX, ⟨hb.os, hb.tape, hb.output, hb.size, fun b h _ => hb.block b h⟩, .nil fun _ => rfl, hrep, fun b => ?_, fun b hb1 => ?_⟩
   ·simp only; split <;> omega
   ·have e3 : b = g := by
     simp only [Nat.zero_add] at hb1
     split at hb1
     ·assumption
     ·omega
    subst e3
    refine ⟨fun hc => ?_, .inr hA, ?_⟩
    ·have := hI b hc; omega
    ·exact (Array.getElem?_eq_some_iff.mp hrow).1
def lay229_ren : Go.Shelf.Ren :=
 {
 f := fun x =>
  match x with
  | 229 => 48
  | n => n,
 t := fun x =>
  match x with
  | 9 => 9
  | 40 => 62
  | 31 => 22
  | 152 => 76
  | 3 => 3
  | 0 => 0
  | 4 => 4
  | 21 => 21
  | 154 => 78
  | n => n,
 g := fun n => n }
set_option maxRecDepth 100000 in
theorem lay229 : Lays.n229 Try.prog lay229_ren :=
 {mixed := by kernel_rfl
  f229 := Eq.trans Try.func48 (congrArg some (by kernel_rfl))
  t0 := Try.underlying0
  a0 := Try.isAgg0
  z0 := Try.sizeOf0
  v0 := Try.zeroValue0
  t3 := Try.underlying3
  a3 := Try.isAgg3
  z3 := Try.sizeOf3
  v3 := Try.zeroValue3
  t4 := Try.underlying4
  a4 := Try.isAgg4
  z4 := Try.sizeOf4
  v4 := Try.zeroValue4
  t9 := Try.underlying9
  a9 := Try.isAgg9
  z9 := Try.sizeOf9
  v9 := Try.zeroValue9
  t21 := Try.underlying21
  a21 := Try.isAgg21
  z21 := Try.sizeOf21
  v21 := Try.zeroValue21
  t31 := Try.underlying22
  a31 := Try.isAgg22
  z31 := Try.sizeOf22
  v31 := Try.zeroValue22
  t40 := Try.underlying62
  a40 := Try.isAgg62
  z40 := Try.sizeOf62
  v40 := Try.zeroValue62
  t152 := Try.underlying76
  a152 := Try.isAgg76
  z152 := Try.sizeOf76
  v152 := Try.zeroValue76
  t154 := Try.underlying78
  a154 := Try.isAgg78
  z154 := Try.sizeOf78
  v154 := Try.zeroValue78 }
def lay156_ren : Go.Shelf.Ren :=
 {
 f := fun x =>
  match x with
  | 156 => 51
  | 165 => 63
  | 166 => 64
  | 169 => 65
  | 240 => 72
  | 241 => 73
  | 276 => 75
  | 277 => 76
  | n => n,
 t := fun x =>
  match x with
  | 31 => 22
  | 9 => 9
  | 3 => 3
  | 4 => 4
  | 0 => 0
  | 20 => 20
  | 72 => 81
  | 76 => 85
  | 70 => 79
  | 37 => 24
  | 75 => 84
  | 127 => 94
  | 164 => 98
  | 5 => 5
  | 80 => 87
  | n => n,
 g := fun n => n }
set_option maxRecDepth 100000 in
theorem lay156 : Lays.n156 Try.prog lay156_ren :=
 {mixed := by kernel_rfl
  f156 := Eq.trans Try.func51 (congrArg some (by kernel_rfl))
  f165 := Eq.trans Try.func63 (congrArg some (by kernel_rfl))
  f166 := Eq.trans Try.func64 (congrArg some (by kernel_rfl))
  f169 := Eq.trans Try.func65 (congrArg some (by kernel_rfl))
  f240 := Eq.trans Try.func72 (congrArg some (by kernel_rfl))
  f241 := Eq.trans Try.func73 (congrArg some (by kernel_rfl))
  f276 := Eq.trans Try.func75 (congrArg some (by kernel_rfl))
  f277 := Eq.trans Try.func76 (congrArg some (by kernel_rfl))
  t0 := Try.underlying0
  a0 := Try.isAgg0
  z0 := Try.sizeOf0
  v0 := Try.zeroValue0
  t3 := Try.underlying3
  a3 := Try.isAgg3
  z3 := Try.sizeOf3
  v3 := Try.zeroValue3
  t4 := Try.underlying4
  a4 := Try.isAgg4
  z4 := Try.sizeOf4
  v4 := Try.zeroValue4
  t9 := Try.underlying9
  a9 := Try.isAgg9
  z9 := Try.sizeOf9
  v9 := Try.zeroValue9
  t20 := Try.underlying20
  a20 := Try.isAgg20
  z20 := Try.sizeOf20
  v20 := Try.zeroValue20
  t31 := Try.underlying22
  a31 := Try.isAgg22
  z31 := Try.sizeOf22
  v31 := Try.zeroValue22
  t37 := Try.underlying24
  a37 := Try.isAgg24
  z37 := Try.sizeOf24
  v37 := Try.zeroValue24
  t70 := Try.underlying79
  a70 := Try.isAgg79
  z70 := Try.sizeOf79
  v70 := Try.zeroValue79
  t72 := Try.underlying81
  a72 := Try.isAgg81
  z72 := Try.sizeOf81
  v72 := Try.zeroValue81
  t75 := Try.underlying84
  a75 := Try.isAgg84
  z75 := Try.sizeOf84
  v75 := Try.zeroValue84
  t76 := Try.underlying85
  a76 := Try.isAgg85
  z76 := Try.sizeOf85
  v76 := Try.zeroValue85
  t127 := Try.underlying94
  a127 := Try.isAgg94
  z127 := Try.sizeOf94
  v127 := Try.zeroValue94
  t164 := Try.underlying98
  a164 := Try.isAgg98
  z164 := Try.sizeOf98
  v164 := Try.zeroValue98 }
def spP (x : Nat) : Bool := decide (x = 32)
set_option maxRecDepth 10000 in
theorem spaceC (x : Nat) (hx : x ≤ 1114111) (w : World) : Calls Try.prog 50 #[.int .i32 x] w fun e w' => e = .returned (.bool (spP x)) ∧ w' = w := by
 go_enter Try.func50, Try.ntmps50
 go_wp2
 go_ret
 exact ⟨by simp [spP]; omega, rfl⟩
theorem fieldsH (s : ByteArray) (h : s.size ≤ 1048576) : Holds Try.prog 48 [.v (.string s), .v (.func (.func 50) #[] #[])] [] (.sl (.ow 1) ((Lib.goFieldsP spP s).map strA)) [] := by
 refine holds_row (vs := [.string s, .func (.func 50) #[] #[]]) (t := lay229_ren.t 9) ⟨_, _, Try.func48, by kernel_rfl, rfl⟩ fun w => ?_
 exact Any.strings_FieldsFunc_runes lay229 50 #[] (enters_of Try.func50 (by kernel_rfl) rfl) spP s w (by omega)
  (fun W x hx hb => (spaceC x hx W).mono fun e w' ⟨he, hw⟩ => ⟨he, 0, hw⟩) (by kernel_rfl) (by kernel_rfl)
end Go.Proofs.W

namespace Go.Proofs.W
open Go Go.AM Go.RowKit
theorem flat_intA (l : List Int) : flat (l.map intA) = (l.map (Value.int .i64)).map A.v := by
 induction l with
 | nil => rfl
 | cons a l ih => rw [List.map_cons, List.map_cons, List.map_cons, ← ih]; rfl
theorem ints_one (l : List Int) : ∀ v ∈ l.map (Value.int .i64), v.oneCell' = true := by
 intro v hv; obtain ⟨n, _, rfl⟩ := List.mem_map.mp hv; rfl
theorem row_out {C : Ctx} {w w' : World} {fx fa : Nat → Nat} (hB : ∀ i, C.B i = St.raw ⟨[], [], []⟩ i) (hI : ∀ b, C.I b → b < w.heap.size) (hno : ∀ b, 1 ≤ fx b + fa b → ¬ C.I b)
  {g off cap : Nat} {l : List Int} {c : Array Value} {e : TypeId} {fz : Nat × Nat} (hrow : w'.heap[g]? = some (.cells c e fz)) (hcap : l.length ≤ cap) (hcM : cap ≤ capM) (hsz : off + cap ≤ c.size) (hfz : Free0 c fz)
  (htk : (c.toList.drop off).take l.length = l.map (Value.int .i64)) (hg : 1 ≤ fx g + fa g ∨ w.heap.size ≤ g) (hs : Same (fun b => 1 ≤ fx b + fa b) w w') :
  ∃ D fr fx', C.ToX D ∧ D.F = C.F ∧ (∀ i, D.B i = St.raw ⟨[], [], []⟩ i) ∧ (∀ b, C.I b → D.I b) ∧ (∀ b, D.I b → C.I b ∨ w.heap.size ≤ b) ∧ (∀ b, D.I b → b < w'.heap.size) ∧ (∀ b ∈ ([] : List Blk), b.on = true) ∧
   Same (fun b => 1 ≤ fx b + fa b) w w' ∧ MemR D w' (extEntries []) fx' ∧ Rep1 D w' (.sl (.ow 1) (l.map intA)) (.slice (some ⟨g, off, none⟩) l.length cap) fr ∧ (∀ b, fx' b + fr b ≤ 1) ∧
   (∀ b, 1 ≤ fx' b + fr b → ¬ D.I b ∧ (1 ≤ fx b + fa b ∨ w.heap.size ≤ b) ∧ b < w'.heap.size) := by
 have hgl := (Array.getElem?_eq_some_iff.mp hrow).1
 have hrep : Rep1 C w' (.sl (.ow 1) (l.map intA)) (.slice (some ⟨g, off, none⟩) l.length cap) fun b => if b = g then 1 else 0 := by
  have := RepL.ow (C := C) (w := w') (k := 1) (es := l.map intA) (a := ⟨g, off, none⟩) (cap := cap) (c := c) (e := e) (fz := fz) (r := []) (xs := []) (f := fun b => if b = g then 1 else 0) (f1 := fun _ => 0) (f2 := fun _ => 0)
   hrow rfl (by intro x hx; obtain ⟨s, _, rfl⟩ := List.mem_map.mp hx; rfl) (by simpa using hcap) (by simpa using hsz) hcM hfz
   (by rw [List.length_map, Nat.mul_one, htk]; exact ints_one l)
   (by intro b; simp) (by rw [List.length_map, Nat.mul_one, htk, flat_intA]; exact repL_of_vs _) (.nil fun _ => rfl)
  rw [List.length_map] at this
  exact this
 refine ⟨C, _, fun _ => 0, Ctx.ToX.refl C, rfl, hB, fun _ h => h, fun _ h => .inl h, fun b h => Nat.lt_of_lt_of_le (hI b h) hs.size, fun _ h => absurd h (by simp), hs, .nil fun _ => rfl, hrep, fun b => ?_, fun b hb1 => ?_⟩
 ·simp only; split <;> omega
 ·have e3 : b = g := by
   simp only [Nat.zero_add] at hb1
   split at hb1
   ·assumption
   ·omega
  subst e3
  refine ⟨fun hc => ?_, hg, hgl⟩
  rcases hg with hg | hg
  ·exact hno b hg hc
  ·have := hI b hc; omega
theorem row_in {C : Ctx} {w : World} {l : List Int} {x : Value} {r : List A} {ys : List Value} {f : Nat → Nat} (h : RepL C w (.sl (.ow 1) (l.map intA) :: r) (x :: ys) f) :
  (l = [] ∧ (∃ a, x = .slice a 0 0) ∧ RepL C w r ys f) ∨ ∃ g off cap c e fz f2, x = .slice (some ⟨g, off, none⟩) l.length cap ∧ w.heap[g]? = some (.cells c e fz) ∧ l.length ≤ cap ∧ cap ≤ capM ∧ off + cap ≤ c.size ∧ Free0 c fz ∧
   (c.toList.drop off).take l.length = l.map (Value.int .i64) ∧ (∀ b, f b = (if b = g then 1 else 0) + f2 b) ∧ RepL C w r ys f2 := by
 generalize hes : l.map intA = es at h
 cases h with
 | nils h => exact .inl ⟨List.map_eq_nil_iff.1 hes, ⟨_, rfl⟩, h⟩
 | sl hrow hsp hk hcap hsz hI hs ho hf h1 h => rcases hs with hs | hs <;> simp at hs
 | ow hrow hsp hk hcap hsz hF hfz ho hf h1 h =>
  subst hes
  rename_i a cap c e fz f1 f2
  obtain ⟨ab, ao, asp⟩ := a
  simp only at hsp hrow hsz ho h1 hf
  subst hsp
  rw [flat_intA, List.length_map, Nat.mul_one] at h1
  obtain ⟨e1, e2⟩ := repL_vs h1
  rw [List.length_map] at hcap
  rw [Nat.mul_one] at hsz
  refine .inr ⟨ab, ao, cap, c, e, fz, f2, by rw [List.length_map], hrow, hcap, hF, hsz, hfz, e1, fun b => by rw [hf, e2]; omega, h⟩
theorem nils_out {C : Ctx} {w : World} {fx fa : Nat → Nat} (hB : ∀ i, C.B i = St.raw ⟨[], [], []⟩ i) (hI : ∀ b, C.I b → b < w.heap.size) (a : Option Addr) :
  ∃ D fr fx', C.ToX D ∧ D.F = C.F ∧ (∀ i, D.B i = St.raw ⟨[], [], []⟩ i) ∧ (∀ b, C.I b → D.I b) ∧ (∀ b, D.I b → C.I b ∨ w.heap.size ≤ b) ∧ (∀ b, D.I b → b < w.heap.size) ∧ (∀ b ∈ ([] : List Blk), b.on = true) ∧
   Same (fun b => 1 ≤ fx b + fa b) w w ∧ MemR D w (extEntries []) fx' ∧ Rep1 D w (.sl (.ow 1) []) (.slice a 0 0) fr ∧ (∀ b, fx' b + fr b ≤ 1) ∧
   (∀ b, 1 ≤ fx' b + fr b → ¬ D.I b ∧ (1 ≤ fx b + fa b ∨ w.heap.size ≤ b) ∧ b < w.heap.size) :=
 ⟨C, fun _ => 0, fun _ => 0, Ctx.ToX.refl C, rfl, hB, fun _ h => h, fun _ h => .inl h, hI, fun _ h => absurd h (by simp), Same.refl _ _, .nil fun _ => rfl, .nils (.nil fun _ => rfl), fun _ => Nat.zero_le _, fun b hb => absurd hb (by simp)⟩
theorem putCells_take {d : Array Int} {off : Nat} {c : Array Value} (h : off + d.size ≤ c.size) : ((Sort.putCells (Value.int .i64) off d c).toList.drop off).take d.size = d.toList.map (Value.int .i64) := by
 apply List.ext_getElem?
 intro j
 by_cases hj : j < d.size
 ·rw [List.getElem?_take_of_lt hj, List.getElem?_drop, Array.getElem?_toList]
  simp [Sort.putCells, hj, show off + j < c.size by omega]
 ·rw [List.getElem?_take_eq_none (by omega), List.getElem?_eq_none (by simp; omega)]
theorem putCells_size {d : Array Int} {off : Nat} {c : Array Value} : (Sort.putCells (Value.int .i64) off d c).size = c.size := by simp [Sort.putCells]
theorem cell_holds {w : World} {g off : Nat} {c : Array Value} {e : TypeId} {fz : Nat × Nat} {l : List Int} (hrow : w.heap[g]? = some (.cells c e fz)) (hfz : Free0 c fz) (hsz : off + l.length ≤ c.size)
  (htk : (c.toList.drop off).take l.length = l.map (Value.int .i64)) : Sort.Holds (Value.int .i64) w g off l.toArray := by
 intro j hj
 have hj' : j < l.length := by simpa using hj
 have e2 : ((c.toList.drop off).take l.length)[j]? = some (.int .i64 l[j]) := by rw [htk]; simp [hj']
 rw [List.getElem?_take_of_lt hj', List.getElem?_drop, Array.getElem?_toList] at e2
 refine ⟨?_, ?_⟩
 ·simp only [World.cell?, hrow]
  rw [e2, getElem!_pos l.toArray j hj]
  simp
 ·have := hfz (off + j) (by omega)
  obtain ⟨lo, hi⟩ := fz
  simp only [World.frozen?, hrow]
  simpa using this
theorem putRow_heap {w : World} {g off n : Nat} {d : Array Int} {c : Array Value} {e : TypeId} {fz : Nat × Nat} (hrow : w.heap[g]? = some (.cells c e fz)) (os : Array Obj) :
  (Sort.grow (Sort.putRow (Value.int .i64) (Sort.ahead w n) g off d) os).heap[g]? = some (.cells (Sort.putCells (Value.int .i64) off d c) e fz) := by
 have hg : g < w.heap.size := (Array.getElem?_eq_some_iff.1 hrow).1
 rw [Sort.heap_grow_old _ _ (by simpa using hg)]
 simp [Sort.putRow, Sort.mapBlock, Sort.ahead, Array.getElem?_modify, hrow, Sort.onCells]
theorem putRow_same {w : World} {E : Nat → Prop} {g off n : Nat} {d : Array Int} (hE : E g) (os : Array Obj) : Same E w (Sort.grow (Sort.putRow (Value.int .i64) (Sort.ahead w n) g off d) os) := by
 refine ⟨rfl, rfl, rfl, by simp, fun k hk hne => ?_⟩
 rw [Sort.heap_grow_old _ _ (by simpa using hk)]
 have : g ≠ k := fun e => hne (e ▸ hE)
 simp [Sort.putRow, Sort.mapBlock, Sort.ahead, Array.getElem?_modify, this]
theorem putRow_heap0 {w : World} {g off n : Nat} {d : Array Int} {c : Array Value} {e : TypeId} {fz : Nat × Nat} (hrow : w.heap[g]? = some (.cells c e fz)) :
  (Sort.putRow (Value.int .i64) (Sort.ahead w n) g off d).heap[g]? = some (.cells (Sort.putCells (Value.int .i64) off d c) e fz) := by
 have hg : g < w.heap.size := (Array.getElem?_eq_some_iff.1 hrow).1
 simp [Sort.putRow, Sort.mapBlock, Sort.ahead, Array.getElem?_modify, hrow, Sort.onCells]
theorem putRow_same0 {w : World} {E : Nat → Prop} {g off n : Nat} {d : Array Int} (hE : E g) : Same E w (Sort.putRow (Value.int .i64) (Sort.ahead w n) g off d) := by
 refine ⟨rfl, rfl, rfl, by simp, fun k hk hne => ?_⟩
 have : g ≠ k := fun e => hne (e ▸ hE)
 simp [Sort.putRow, Sort.mapBlock, Sort.ahead, Array.getElem?_modify, this]
end Go.Proofs.W

namespace Go.Proofs.W
open Go Go.AM
def mrg : List Int → List Int → List Int
 | [], b => b
 | a :: A, [] => a :: A
 | a :: A, b :: B => if a < b then a :: mrg A (b :: B) else if b < a then b :: mrg (a :: A) B else a :: mrg A B
 termination_by A B => A.length + B.length
theorem mrg_nil (A : List Int) : mrg A [] = A := by cases A <;> simp [mrg]
theorem mrg_cons (a b : Int) (A B : List Int) : mrg (a :: A) (b :: B) = if a < b then a :: mrg A (b :: B) else if b < a then b :: mrg (a :: A) B else a :: mrg A B := by rw [mrg]
theorem mrg_mem : ∀ (n : Nat) (A B : List Int), A.length + B.length ≤ n → ∀ x, x ∈ mrg A B ↔ x ∈ A ∨ x ∈ B
 | n, [], B, _, x => by simp [mrg]
 | n, a :: A, [], _, x => by simp [mrg]
 | 0, a :: A, b :: B, h, x => by simp at h
 | n + 1, a :: A, b :: B, h, x => by
  simp only [List.length_cons] at h
  rw [mrg_cons]
  split
  ·rw [List.mem_cons, mrg_mem n A (b :: B) (by simp only [List.length_cons]; omega)]
   simp [or_assoc]
  ·split
   ·rw [List.mem_cons, mrg_mem n (a :: A) B (by simp only [List.length_cons]; omega)]
    simp only [List.mem_cons]
    constructor <;> rintro (h | h | h) <;> simp [h]
   ·have e : a = b := by omega
    subst e
    rw [List.mem_cons, mrg_mem n A B (by omega)]
    simp only [List.mem_cons]
    constructor
    ·rintro (h | h | h) <;> simp [h]
    ·rintro ((h | h) | (h | h)) <;> simp [h]
theorem mrg_up : ∀ (n : Nat) (A B : List Int), A.length + B.length ≤ n → A.Pairwise (· < ·) → B.Pairwise (· < ·) → (mrg A B).Pairwise (· < ·)
 | n, [], B, _, _, h => by simpa [mrg] using h
 | n, a :: A, [], _, h, _ => by simpa [mrg] using h
 | 0, a :: A, b :: B, h, _, _ => by simp at h
 | n + 1, a :: A, b :: B, h, ha, hb => by
  simp only [List.length_cons] at h
  rw [mrg_cons]
  have ha' := List.pairwise_cons.1 ha
  have hb' := List.pairwise_cons.1 hb
  split
  ·rename_i hlt
   refine List.pairwise_cons.2 ⟨fun x hx => ?_, mrg_up n _ _ (by simp only [List.length_cons]; omega) ha'.2 hb⟩
   rcases (mrg_mem _ _ _ (Nat.le_refl _) x).1 hx with h | h
   ·exact ha'.1 x h
   ·rcases List.mem_cons.1 h with rfl | h
    ·exact hlt
    ·have := hb'.1 x h; omega
  ·split
   ·rename_i h1 hlt
    refine List.pairwise_cons.2 ⟨fun x hx => ?_, mrg_up n _ _ (by simp only [List.length_cons]; omega) ha hb'.2⟩
    rcases (mrg_mem _ _ _ (Nat.le_refl _) x).1 hx with h | h
    ·rcases List.mem_cons.1 h with rfl | h
     ·exact hlt
     ·have := ha'.1 x h; omega
    ·exact hb'.1 x h
   ·rename_i h1 h2
    have e : a = b := by omega
    subst e
    refine List.pairwise_cons.2 ⟨fun x hx => ?_, mrg_up n _ _ (by omega) ha'.2 hb'.2⟩
    rcases (mrg_mem _ _ _ (Nat.le_refl _) x).1 hx with h | h
    ·exact ha'.1 x h
    ·exact hb'.1 x h
theorem mrg_len : ∀ (n : Nat) (A B : List Int), A.length + B.length ≤ n → (mrg A B).length ≤ A.length + B.length
 | n, [], B, _ => by simp [mrg]
 | n, a :: A, [], _ => by simp [mrg]
 | 0, a :: A, b :: B, h => by simp at h
 | n + 1, a :: A, b :: B, h => by
  simp only [List.length_cons] at h
  rw [mrg_cons]
  split
  ·have := mrg_len n A (b :: B) (by simp only [List.length_cons]; omega)
   simp only [List.length_cons] at this ⊢; omega
  ·split
   ·have := mrg_len n (a :: A) B (by simp only [List.length_cons]; omega)
    simp only [List.length_cons] at this ⊢; omega
   ·have := mrg_len n A B (by omega)
    simp only [List.length_cons] at this ⊢; omega
theorem up_ext : ∀ (l m : List Int), l.Pairwise (· < ·) → m.Pairwise (· < ·) → (∀ x, x ∈ l ↔ x ∈ m) → l = m
 | [], [], _, _, _ => rfl
 | [], y :: m, _, _, h => by have := (h y).2 (List.mem_cons_self ..); simp at this
 | x :: l, [], _, _, h => by have := (h x).1 (List.mem_cons_self ..); simp at this
 | x :: l, y :: m, h1, h2, h => by
  have p1 := List.pairwise_cons.1 h1
  have p2 := List.pairwise_cons.1 h2
  have e : x = y := by
   rcases List.mem_cons.1 ((h x).1 (List.mem_cons_self ..)) with e | e
   ·exact e
   ·rcases List.mem_cons.1 ((h y).2 (List.mem_cons_self ..)) with e2 | e2
    ·exact e2.symm
    ·have := p1.1 y e2; have := p2.1 x e; omega
  subst e
  congr 1
  refine up_ext l m p1.2 p2.2 fun z => ⟨fun hz => ?_, fun hz => ?_⟩
  ·rcases List.mem_cons.1 ((h z).1 (List.mem_cons_of_mem _ hz)) with e | e
   ·have := p1.1 z hz; omega
   ·exact e
  ·rcases List.mem_cons.1 ((h z).2 (List.mem_cons_of_mem _ hz)) with e | e
   ·have := p2.1 z hz; omega
   ·exact e
theorem compact_up {zs : List Int} (hs : zs.Pairwise (· ≤ ·)) : ∀ m, m ≤ zs.length → (Lib.compactUpTo zs.toArray m).Pairwise (· < ·) ∧ ∀ x, x ∈ Lib.compactUpTo zs.toArray m ↔ x ∈ zs.take m
 | 0, _ => by simp [Lib.compactUpTo]
 | m + 1, h => by
  obtain ⟨h1, h2⟩ := compact_up hs m (by omega)
  have hm : m < zs.length := by omega
  have g : ∀ j (h : j < zs.length), zs.toArray[j]! = zs[j] := fun j h => by rw [getElem!_pos zs.toArray j (by simpa using h)]; simp
  rw [Lib.compactUpTo_succ, List.take_succ_eq_append_getElem hm, g m hm]
  have le : ∀ x ∈ zs.take m, 0 < m ∧ x ≤ zs[m - 1] := fun x hx => by
   obtain ⟨i, hi, rfl⟩ := List.mem_take_iff_getElem.1 hx
   refine ⟨by omega, ?_⟩
   rcases Nat.lt_or_ge i (m - 1) with c | c
   ·exact List.pairwise_iff_getElem.1 hs i (m - 1) (by omega) (by omega) c
   ·have : i = m - 1 := by omega
    subst this; exact Int.le_refl _
  cases hk : Lib.keeps zs.toArray m with
  | true =>
   simp only [if_true]
   have hk : m = 0 ∨ zs.toArray[m]! ≠ zs.toArray[m - 1]! := by simpa [Lib.keeps] using hk
   refine ⟨List.pairwise_append.2 ⟨h1, by simp, fun x hx y hy => ?_⟩, fun x => by rw [List.mem_append, List.mem_append, h2]⟩
   rw [List.mem_singleton] at hy
   subst hy
   obtain ⟨h0, hl⟩ := le x ((h2 x).1 hx)
   rcases hk with hk | hk
   ·omega
   ·rw [g m hm, g (m - 1) (by omega)] at hk
    have := List.pairwise_iff_getElem.1 hs (m - 1) m (by omega) hm (by omega)
    omega
  | false =>
   have hk : ¬ (m = 0 ∨ zs.toArray[m]! ≠ zs.toArray[m - 1]!) := by simpa [Lib.keeps] using hk
   have h0 : m ≠ 0 := fun h => hk (.inl h)
   have he : zs.toArray[m]! = zs.toArray[m - 1]! := Classical.byContradiction fun h => hk (.inr h)
   rw [g m hm, g (m - 1) (by omega)] at he
   simp only [Bool.false_eq_true, if_false, List.append_nil]
   refine ⟨h1, fun x => ?_⟩
   rw [h2, List.mem_append, List.mem_singleton]
   refine ⟨.inl, fun h => ?_⟩
   rcases h with h | h
   ·exact h
   ·subst h
    rw [he]
    exact List.mem_take_iff_getElem.2 ⟨m - 1, by omega, rfl⟩
theorem compact_len (zs : List Int) : (Lib.compact zs).length ≤ zs.length := by
 unfold Lib.compact Lib.compactUpTo
 rw [List.length_map]
 refine Nat.le_trans (List.length_filter_le _ _) ?_
 simp
theorem compact_mrg {A B : List Int} (ha : A.Pairwise (· < ·)) (hb : B.Pairwise (· < ·)) : Lib.compact ((A ++ B).mergeSort fun x y => decide (x ≤ y)) = mrg A B := by
 have hp := List.mergeSort_perm (A ++ B) fun x y => decide (x ≤ y)
 have hs := List.pairwise_mergeSort (le := fun x y : Int => decide (x ≤ y)) (fun a b c h1 h2 => by simp only [decide_eq_true_eq] at *; omega) (fun a b => by simp only [Bool.or_eq_true, decide_eq_true_eq]; omega) (A ++ B)
 generalize (A ++ B).mergeSort (fun x y => decide (x ≤ y)) = zs at hp hs
 have hs' : zs.Pairwise (· ≤ ·) := hs.imp fun h => by simpa using h
 obtain ⟨h1, h2⟩ := compact_up hs' zs.length (Nat.le_refl _)
 refine up_ext _ _ h1 (mrg_up _ A B (Nat.le_refl _) ha hb) fun x => ?_
 rw [mrg_mem _ A B (Nat.le_refl _) x]
 have := h2 x
 rw [List.take_length] at this
 rw [show x ∈ Lib.compact zs ↔ x ∈ zs from this, hp.mem_iff, List.mem_append]
end Go.Proofs.W

namespace Go.Proofs.W
open Go Go.AM Go.RowKit Go.Shelf
variable (hm : Try.prog.follows .mixedOrders = true)
def lay189_ren : Go.Shelf.Ren :=
 {
 f := fun x =>
  match x with
  | 189 => 24
  | 125 => 44
  | 257 => 43
  | 128 => 61
  | 129 => 62
  | 294 => 52
  | 295 => 53
  | 296 => 54
  | 297 => 55
  | 298 => 56
  | 299 => 57
  | 216 => 58
  | 300 => 59
  | 301 => 60
  | 328 => 66
  | 329 => 67
  | 330 => 68
  | 331 => 69
  | 332 => 70
  | 215 => 71
  | 343 => 74
  | n => n,
 t := fun x =>
  match x with
  | 28 => 23
  | 3 => 3
  | 46 => 59
  | 0 => 0
  | 51 => 73
  | 53 => 75
  | 4 => 4
  | 183 => 66
  | 182 => 65
  | 131 => 70
  | 5 => 5
  | 9 => 9
  | 218 => 88
  | 222 => 92
  | 228 => 95
  | 229 => 96
  | n => n,
 g := fun n => n }
set_option maxRecDepth 100000 in
theorem lay189 : Lays.n189 Try.prog lay189_ren :=
 {mixed := by kernel_rfl
  f125 := Eq.trans Try.func44 (congrArg some (by kernel_rfl))
  f128 := Eq.trans Try.func61 (congrArg some (by kernel_rfl))
  f129 := Eq.trans Try.func62 (congrArg some (by kernel_rfl))
  f189 := Eq.trans Try.func24 (congrArg some (by kernel_rfl))
  f215 := Eq.trans Try.func71 (congrArg some (by kernel_rfl))
  f216 := Eq.trans Try.func58 (congrArg some (by kernel_rfl))
  f257 := Eq.trans Try.func43 (congrArg some (by kernel_rfl))
  f294 := Eq.trans Try.func52 (congrArg some (by kernel_rfl))
  f295 := Eq.trans Try.func53 (congrArg some (by kernel_rfl))
  f296 := Eq.trans Try.func54 (congrArg some (by kernel_rfl))
  f297 := Eq.trans Try.func55 (congrArg some (by kernel_rfl))
  f298 := Eq.trans Try.func56 (congrArg some (by kernel_rfl))
  f299 := Eq.trans Try.func57 (congrArg some (by kernel_rfl))
  f300 := Eq.trans Try.func59 (congrArg some (by kernel_rfl))
  f301 := Eq.trans Try.func60 (congrArg some (by kernel_rfl))
  f328 := Eq.trans Try.func66 (congrArg some (by kernel_rfl))
  f329 := Eq.trans Try.func67 (congrArg some (by kernel_rfl))
  f330 := Eq.trans Try.func68 (congrArg some (by kernel_rfl))
  f331 := Eq.trans Try.func69 (congrArg some (by kernel_rfl))
  f332 := Eq.trans Try.func70 (congrArg some (by kernel_rfl))
  f343 := Eq.trans Try.func74 (congrArg some (by kernel_rfl))
  t0 := Try.underlying0
  a0 := Try.isAgg0
  z0 := Try.sizeOf0
  v0 := Try.zeroValue0
  t3 := Try.underlying3
  a3 := Try.isAgg3
  z3 := Try.sizeOf3
  v3 := Try.zeroValue3
  t4 := Try.underlying4
  a4 := Try.isAgg4
  z4 := Try.sizeOf4
  v4 := Try.zeroValue4
  t5 := Try.underlying5
  a5 := Try.isAgg5
  z5 := Try.sizeOf5
  v5 := Try.zeroValue5
  t9 := Try.underlying9
  a9 := Try.isAgg9
  z9 := Try.sizeOf9
  v9 := Try.zeroValue9
  t28 := Try.underlying23
  a28 := Try.isAgg23
  z28 := Try.sizeOf23
  v28 := Try.zeroValue23
  t46 := Try.underlying59
  a46 := Try.isAgg59
  z46 := Try.sizeOf59
  v46 := Try.zeroValue59
  t51 := Try.underlying73
  a51 := Try.isAgg73
  z51 := Try.sizeOf73
  v51 := Try.zeroValue73
  t53 := Try.underlying75
  a53 := Try.isAgg75
  z53 := Try.sizeOf75
  v53 := Try.zeroValue75
  t131 := Try.underlying70
  a131 := Try.isAgg70
  z131 := Try.sizeOf70
  v131 := Try.zeroValue70
  t182 := Try.underlying65
  a182 := Try.isAgg65
  z182 := Try.sizeOf65
  v182 := Try.zeroValue65
  t183 := Try.underlying66
  a183 := Try.isAgg66
  z183 := Try.sizeOf66
  v183 := Try.zeroValue66
  t218 := Try.underlying88
  a218 := Try.isAgg88
  z218 := Try.sizeOf88
  v218 := Try.zeroValue88
  t222 := Try.underlying92
  a222 := Try.isAgg92
  z222 := Try.sizeOf92
  v222 := Try.zeroValue92
  t228 := Try.underlying95
  a228 := Try.isAgg95
  z228 := Try.sizeOf95
  v228 := Try.zeroValue95
  t229 := Try.underlying96
  a229 := Try.isAgg96
  z229 := Try.sizeOf96
  v229 := Try.zeroValue96 }
def srt (l : List Int) : List Int := l.mergeSort fun x y => decide (x ≤ y)
theorem srt_len (l : List Int) : (srt l).length = l.length := List.length_mergeSort _
theorem srt_nil : srt [] = [] := by simp [srt]
set_option maxRecDepth 100000 in
theorem sortH (L : List Int) (hL : L.length ≤ 1000000) : AM.Holds Try.prog 24 [.ms (.x 0) 0 L.length L.length] [⟨true, 1, false, L.map intA⟩] (.tup []) [⟨true, 1, false, (srt L).map intA⟩] where
 fn := ⟨_, _, Try.func24, by kernel_rfl, rfl⟩
 calls := by
  intro C w xs fx fa hF hB hI hX hM hle hno hR
  have hM0 : MemR C w [(.x 0, ⟨true, 1, false, L.map intA⟩)] fx := hM
  have hB0 : C.B (.x 0) = some ⟨true, 1, false, L.map intA⟩ := by rw [hB]; rfl
  obtain ⟨D, hD⟩ : ∃ D : Ctx, D = ⟨C.μ, fun i => St.raw ⟨[], [], [⟨true, 1, false, (srt L).map intA⟩]⟩ i, C.I, C.F⟩ := ⟨_, rfl⟩
  have hTo : C.ToX D := by
   intro j blk hj
   rw [hB] at hj
   cases j with
   | succ j => simp [St.raw] at hj
   | zero =>
   simp [St.raw] at hj
   subst hj
   refine ⟨⟨true, 1, false, (srt L).map intA⟩, by rw [hD]; rfl, fun _ => ⟨rfl, by simp [srt_len], fun _ => ⟨rfl, by rw [hD]⟩, .inl (by rw [hD])⟩⟩
  cases hR with
  | @ms _ _ _ _ _ _ x _ _ _ blk hb g1 hms h =>
  rw [hB0] at hb
  cases hb
  cases h with
  | nil hz =>
  obtain ⟨q1, q2⟩ := hms rfl
  obtain ⟨sa, cp, rfl, p1, p2, p3, p4⟩ := q2 (by simp)
  have done : ∀ w', Same (fun b => 1 ≤ fx b + fa b) w w' → MemR D w' [(.x 0, ⟨true, 1, false, (srt L).map intA⟩)] fx →
    ∃ D fr fx', C.ToX D ∧ D.F = C.F ∧ (∀ i, D.B i = St.raw ⟨[], [], [⟨true, 1, false, (srt L).map intA⟩]⟩ i) ∧ (∀ b, C.I b → D.I b) ∧ (∀ b, D.I b → C.I b ∨ w.heap.size ≤ b) ∧ (∀ b, D.I b → b < w'.heap.size) ∧ (∀ b ∈ [(⟨true, 1, false, (srt L).map intA⟩ : Blk)], b.on = true) ∧
     Same (fun b => 1 ≤ fx b + fa b) w w' ∧ MemR D w' (extEntries [⟨true, 1, false, (srt L).map intA⟩]) fx' ∧ Rep1 D w' (.tup []) (.tuple #[]) fr ∧ (∀ b, fx' b + fr b ≤ 1) ∧
     (∀ b, 1 ≤ fx' b + fr b → ¬ D.I b ∧ (1 ≤ fx b + fa b ∨ w.heap.size ≤ b) ∧ b < w'.heap.size) := by
   intro w' hs hmem
   refine ⟨D, fun _ => 0, fx, hTo, by rw [hD], by intro i; rw [hD], by intro b hb; rw [hD]; exact hb, by intro b hb; rw [hD] at hb; exact .inl hb, by intro b hb; rw [hD] at hb; exact Nat.lt_of_lt_of_le (hI b hb) hs.size, by simp, hs, hmem, .tup (fun _ => rfl) (ys := []) (.nil fun _ => rfl) (.nil fun _ => rfl), fun b => by show fx b + 0 ≤ 1; have := hle b; omega, fun b hb => ?_⟩
   have hb : 1 ≤ fx b + 0 := hb
   have h1 : 1 ≤ fx b + fa b := by omega
   refine ⟨by rw [hD]; exact hno b h1, .inl h1, ?_⟩
   have hlt : ∀ {es : List (AM.Id × Blk)} {f : Nat → Nat}, MemR C w es f → 1 ≤ f b → b < w.heap.size := fun h hf => MemR.lt h b hf
   exact Nat.lt_of_lt_of_le (hlt hM0 (by omega)) hs.size
  cases hM0 with
  | off ho _ => simp at ho
  | nul ho he hc h =>
   have hn : L = [] := List.map_eq_nil_iff.1 he
   subst hn
   have hcp : cp = 0 := by omega
   subst hcp
   refine (Any.slices_Sort_int_none lay189 sa 0 w).mono ?_
   rintro e w' ⟨rfl, rfl⟩
   refine done _ (Same.refl _ _) ?_
   rw [srt_nil]
   exact .nul rfl rfl (by rw [hD]; exact hc) (by cases h with | nil h => exact .nil h)
  | @row _ _ _ _ f1 f2 ho hb hf h =>
   cases h with
   | nil hz2 =>
   obtain ⟨cc, e, fz, b1, ⟨b2, b2'⟩, b3, b4, b5, b6, b7, b8⟩ := hb
   simp only [List.length_map, Nat.mul_one] at b4 b5 b7 b8
   rw [flat_intA] at b8
   obtain ⟨e1, e2⟩ := repL_vs b8
   by_cases hn : L = []
   ·subst hn
    refine (Any.slices_Sort_int_none lay189 sa cp w).mono ?_
    rintro e' w' ⟨rfl, rfl⟩
    refine done _ (Same.refl _ _) ?_
    rw [srt_nil]
    refine .row (f1 := f1) (f2 := f2) rfl ⟨cc, e, fz, by rw [hD]; exact b1, ⟨b2, by rw [hD]; exact b2'⟩, by simp, by rw [hD]; simp, by rw [hD]; simpa using b5, (fun h => by simp at h), by intro v hv; simp at hv, ?_⟩ (fun n => by rw [hD]; exact hf n) (.nil hz2)
    exact .nil e2
   ·have hl0 : 0 < L.length := List.length_pos_iff.2 hn
    have hsa := p4 (by omega)
    simp only [Nat.zero_mul, Nat.add_zero] at hsa
    subst hsa
    have hsz : (C.μ (.x 0)).base + L.length ≤ cc.size := by omega
    refine (Any.slices_Sort_int lay189 (C.μ (.x 0)).blk (C.μ (.x 0)).base cp L w (cell_holds b1 b2 hsz e1) (Array.getElem?_eq_some_iff.1 b1).1 (by omega)).mono ?_
    rintro e' w' ⟨rfl, n, os, rfl⟩
    have hE : 1 ≤ fx (C.μ (.x 0)).blk + fa (C.μ (.x 0)).blk := by rw [hf, if_pos rfl]; omega
    refine done _ (putRow_same (E := fun b => 1 ≤ fx b + fa b) hE os) ?_
    have hts : (srt L).toArray.size = L.length := by simp [srt_len]
    have htk := putCells_take (d := (srt L).toArray) (off := (C.μ (.x 0)).base) (c := cc) (by rw [hts]; exact hsz)
    rw [hts] at htk
    refine .row (f1 := f1) (f2 := f2) rfl ⟨Sort.putCells (Value.int .i64) (C.μ (.x 0)).base (srt L).toArray cc, e, fz, by rw [hD]; exact putRow_heap b1 os, ⟨fun o h => by rw [putCells_size] at h; exact b2 o h, by rw [hD]; exact b2'⟩, by simp [intA, A.cells], by rw [hD]; simpa [srt_len] using b4, by rw [hD, putCells_size]; simpa using b5, (fun h => by simp at h), ?_, ?_⟩ (fun n => by rw [hD]; exact hf n) (.nil hz2)
    ·rw [hD]
     simp only [List.length_map, srt_len, Nat.mul_one, htk]
     exact ints_one _
    ·rw [hD]
     simp only [List.length_map, srt_len, Nat.mul_one, htk]
     rw [flat_intA]
     exact (repL_of_vs _).congr e2
def lay2_20_ren : Go.Shelf.Ren :=
 {
 f := fun x =>
  match x with
  | 20 => 25
  | n => n,
 t := fun x =>
  match x with
  | 22 => 23
  | 3 => 3
  | 4 => 4
  | 0 => 0
  | n => n,
 g := fun n => n }
set_option maxRecDepth 100000 in
theorem lay2_20 : Lays2.n20 Try.prog lay2_20_ren :=
 {mixed := by kernel_rfl
  f20 := Eq.trans Try.func25 (congrArg some (by kernel_rfl))
  t0 := Try.underlying0
  a0 := Try.isAgg0
  z0 := Try.sizeOf0
  v0 := Try.zeroValue0
  t3 := Try.underlying3
  a3 := Try.isAgg3
  z3 := Try.sizeOf3
  v3 := Try.zeroValue3
  t4 := Try.underlying4
  a4 := Try.isAgg4
  z4 := Try.sizeOf4
  v4 := Try.zeroValue4
  t22 := Try.underlying23
  a22 := Try.isAgg23
  z22 := Try.sizeOf23
  v22 := Try.zeroValue23
  i3 := Eq.refl (some (some (Value.int IntKind.i64 0), 1, 8)) }
set_option maxRecDepth 100000 in
theorem compactH (L : List Int) (hL : L.length ≤ 1000000) : AM.Holds Try.prog 25 [.sl (.ow 1) (L.map intA)] [] (.sl (.ow 1) ((Lib.compact L).map intA)) [] where
 fn := ⟨_, _, Try.func25, by kernel_rfl, rfl⟩
 calls := by
  intro C w xs fx fa hF hB hI hX hM hle hno hR
  have hx : ∀ b, fx b = 0 := by
   have hM : MemR C w [] fx := hM
   cases hM with | nil h => exact h
  have hlen := hR.length
  match xs, hlen with
  | [x0], _ =>
  rcases row_in hR with ⟨rfl, ⟨a, rfl⟩, hR2⟩ | ⟨g, off, cap, c, e, fz, f2, rfl, hrow, hcap, hcM, hsz, hfz, htk, hfa, hR2⟩
  ·refine (Any.slices_Compact_int_empty lay2_20 a 0 w).mono ?_
   rintro e' w' ⟨rfl, rfl⟩
   exact nils_out hB hI a
  ·have hgE : 1 ≤ fx g + fa g := by rw [hfa, if_pos rfl]; omega
   refine (Any.slices_Compact_int lay2_20 g off cap L w (cell_holds hrow hfz (by omega) htk) (by omega) hcap).mono ?_
   rintro e' w' ⟨rfl, q, rfl⟩
   have hcl : (Lib.compact L).length ≤ L.length := compact_len L
   have hds : (Lib.compact L ++ List.replicate (L.length - (Lib.compact L).length) (0 : Int)).toArray.size = L.length := by simp; omega
   have ht := putCells_take (d := (Lib.compact L ++ List.replicate (L.length - (Lib.compact L).length) (0 : Int)).toArray) (off := off) (c := c) (by rw [hds]; omega)
   rw [hds] at ht
   refine row_out (C := C) (w := w) (l := Lib.compact L) hB hI hno (putRow_heap0 hrow) (by omega) hcM (by rw [putCells_size]; exact hsz) (fun o h => by rw [putCells_size] at h; exact hfz o h) ?_ (.inl hgE) (putRow_same0 (E := fun b => 1 ≤ fx b + fa b) hgE)
   have := congrArg (List.take (Lib.compact L).length) ht
   rw [List.take_take, Nat.min_eq_left hcl] at this
   rw [this]
   simp
def lay8_4_ren : Go.Shelf.Ren :=
 {
 f := fun x =>
  match x with
  | 4 => 42
  | n => n,
 t := fun x =>
  match x with
  | 22 => 23
  | 25 => 3
  | 3 => 3
  | 4 => 4
  | 9 => 9
  | 20 => 20
  | 0 => 0
  | n => n,
 g := fun n => n }
set_option maxRecDepth 100000 in
theorem lay8_4 : Lays8.n4 Try.prog lay8_4_ren :=
 {mixed := by kernel_rfl
  f4 :=
  Exists.intro "slices.Grow[[]int,int]" ⟨of_decide_eq_true (by kernel_rfl), Eq.trans Try.func42 (congrArg some (by kernel_rfl))⟩
  t0 := Try.underlying0
  a0 := Try.isAgg0
  z0 := Try.sizeOf0
  v0 := Try.zeroValue0
  t3 := Try.underlying3
  a3 := Try.isAgg3
  z3 := Try.sizeOf3
  v3 := Try.zeroValue3
  t4 := Try.underlying4
  a4 := Try.isAgg4
  z4 := Try.sizeOf4
  v4 := Try.zeroValue4
  t9 := Try.underlying9
  a9 := Try.isAgg9
  z9 := Try.sizeOf9
  v9 := Try.zeroValue9
  t20 := Try.underlying20
  a20 := Try.isAgg20
  z20 := Try.sizeOf20
  v20 := Try.zeroValue20
  t22 := Try.underlying23
  a22 := Try.isAgg23
  z22 := Try.sizeOf23
  v22 := Try.zeroValue23 }
theorem alloc_rowM (w : World) (c : Array Value) (t : TypeId) : (w.alloc (.cells c t)).heap[w.heap.size]? = some (.cells c t (0, 0)) := by
 show (w.heap.push (Obj.cells c t))[w.heap.size]? = _
 rw [Array.getElem?_push, if_pos rfl]
theorem alloc_otherM (w : World) (o : Obj) {j : Nat} (h : j < w.heap.size) : (w.alloc o).heap[j]? = w.heap[j]? := by
 show (w.heap.push o)[j]? = _
 rw [Array.getElem?_push, if_neg (by omega)]
theorem alloc_sizeM (w : World) (o : Obj) : (w.alloc o).heap.size = w.heap.size + 1 := by
 show (w.heap.push o).size = _
 rw [Array.size_push]
theorem info_int : (Try.prog.info? (lay8_4_ren.t 25)).map (fun i => (i.zero, i.size, i.bytes)) = some (some (.int .i64 0), 1, 8) := by kernel_rfl
set_option maxRecDepth 100000 in
theorem growH (n : Nat) (hn : n ≤ 1000000) : AM.Holds Try.prog 42 [.v (.slice none 0 0), .v (.int .i64 n)] [] (.sl (.ow 1) []) [] where
 fn := ⟨_, _, Try.func42, by kernel_rfl, rfl⟩
 calls := by
  intro C w xs fx fa hF hB hI hX hM hle hno hR
  have hx : ∀ b, fx b = 0 := by
   have hM : MemR C w [] fx := hM
   cases hM with | nil h => exact h
  obtain ⟨rfl, h0⟩ := repL_vs (vs := [.slice none 0 0, .int .i64 n]) hR
  by_cases hz : n = 0
  ·subst hz
   refine (Any8.slices_Grow_room lay8_4 none 0 0 0 w (by omega) (by omega) (by omega) (by omega)).mono ?_
   rintro e' w' ⟨rfl, rfl⟩
   exact nils_out hB hI none
  ·have hi := info_int
   cases hinf : Try.prog.info? (lay8_4_ren.t 25) with
   | none => rw [hinf] at hi; simp at hi
   | some i0 =>
    rw [hinf] at hi
    simp only [Option.map_some, Option.some.injEq, Prod.mk.injEq] at hi
    obtain ⟨i1, i2, i3⟩ := hi
    have hge := grownCap_ge w (0 + n) 0 (lay8_4_ren.t 25)
    have hcm := grownCap_le_maxLen w (0 + n) 0 (lay8_4_ren.t 25) (by unfold maxLen; omega)
    refine (Any8.slices_Grow_grow lay8_4 i0 (.int .i64 0) hinf i1 (by omega) none 0 0 n [] w (by omega) (by omega) (by rw [i3]; omega) (by omega) (by simp) (fun _ => rfl) (fun a h => by simp at h)).mono ?_
    rintro e' w' ⟨rfl, rfl⟩
    generalize grownCap w (0 + n) 0 (lay8_4_ren.t 25) = G at *
    have hr := alloc_rowM w.drew (([] : List Value).toArray ++ Builtin.zeroCells (Value.int .i64 0).cells (0 + n - 0) ++ Builtin.zeroCells (Value.int .i64 0).cells (G - (0 + n))) (lay8_4_ren.t 25)
    refine row_out (C := C) (w := w) (fx := fx) (fa := fa) (l := []) hB hI hno hr (by simp) (by unfold maxLen at hcm; unfold capM; omega) (by simp [Builtin.zeroCells, Value.cells]; omega) (by intro o ho; simp) (by simp) (.inr (Nat.le_refl _))
     ⟨rfl, rfl, rfl, by rw [alloc_sizeM]; exact Nat.le_succ _, fun b hb _ => alloc_otherM w.drew _ hb⟩
end Go.Proofs.W

namespace Go.Proofs.W
open Go Go.AM
set_option maxRecDepth 10000
variable (hm : Try.prog.follows .mixedOrders = true)
def charOk (b : UInt8) : Bool := inB b.toNat 32 126
def textOk (s : ByteArray) : Bool := inB s.size 1 40 && s.data.toList.all charOk
def nameOk (L : List ByteArray) : Bool := L.all textOk && inB L.length 1 4
theorem bs_len (s : ByteArray) : s.data.toList.length = s.size := by rw [Array.length_toList]; rfl
def ann13 : Ann := [(0, [0, 3]), (2, [0, 3, 4])]
def st13 (L : List ByteArray) (i : Nat) : St := ⟨[.sl .sh (L.map strA), .any, .any, .v (.int .i64 i), .any, .any, .any, .any, .any, .any, .any, .any, .any, .any, .any, .any, .any, .any, .any, .any, .any, .any, .any, .any, .any, .any, .any, .any, .any, .any, .any, .any, .any, .any, .any, .any, .any, .any, .any], [], []⟩
def st13b (L : List ByteArray) (i k : Nat) : St := ⟨[.sl .sh (L.map strA), .any, .any, .v (.int .i64 i), .v (.int .i64 k), .any, .any, .any, .any, .any, .any, .any, .any, .any, .any, .any, .any, .any, .any, .any, .any, .any, .any, .any, .any, .any, .any, .any, .any, .any, .any, .any, .any, .any, .any, .any, .any, .any, .any], [], []⟩
include hm in
theorem l10Name (L : List ByteArray) (h3 : L.length ≤ 9223372036854775807) (h4 : ∀ s ∈ L, s.size ≤ 9223372036854775807) :
  Holds Try.prog 31 [.sl .sh (L.map strA)] [] (.v (.bool (nameOk L))) [] := by
 refine holds_of (ann := ann13) tabOk hm Try.func31 (by kernel_rfl) rfl ?_
 simp +decide only [Try.f31, go_sem]
 refine Runs.while (α := Nat) (st13 L) (fun i => L.length - i) (fun i => i ≤ L.length ∧ (L.drop i).all textOk = L.all textOk) 0 ⟨by omega, by simp⟩ ?_ ?_
 ·simp [go_sem, ann13, st13]
 ·rintro i ⟨hi1, hr⟩ ih
  simp +decide only [st13, go_sem]
  refine Runs.split (fun h => ?_) (fun h => ?_)
  ·have hlt : i < L.length := by simpa using h
   have hs := h4 L[i] (List.getElem_mem hlt)
   rw [List.drop_eq_getElem_cons hlt, List.all_cons] at hr
   simp +decide (disch := first | omega | (simp only [ll]; omega)) only [if_pos, go_sem]
   refine Runs.call (l1In hm L[i].size 1 40) ?_
   simp +decide only [go_sem]
   refine Runs.split (fun h => ?_) (fun h => ?_)
   ·simp only [Bool.not_eq_true'] at h
    have e : nameOk L = false := by rw [nameOk, ← hr, textOk, h]; simp
    simp +decide only [e, go_sem]
    exact Runs.ret_v
   ·simp only [Bool.not_eq_false'] at h
    simp +decide only [go_sem]
    refine Runs.while (α := Nat) (st13b L i) (fun k => L[i].size - k) (fun k => k ≤ L[i].size ∧ (L[i].data.toList.drop k).all charOk = L[i].data.toList.all charOk) 0 ⟨by omega, by simp⟩ ?_ ?_
    ·simp [go_sem, ann13, st13b]
    ·rintro k ⟨hk1, hk⟩ ihk
     simp +decide (disch := first | omega | (simp only [ll]; omega)) only [st13b, if_pos, go_sem]
     refine Runs.split (fun h => ?_) (fun h => ?_)
     ·have hltk : k < L[i].size := by simpa using h
      have hlen := bs_len L[i]
      rw [List.drop_eq_getElem_cons (by omega), List.all_cons] at hk
      have hg : L[i].data.toList.getD k 0 = L[i].data.toList[k] := by simp [List.getD, hltk]
      have hb := UInt8.toNat_lt L[i].data.toList[k]
      simp +decide (disch := first | omega | (simp only [ll]; omega)) only [hg, if_pos, go_sem]
      refine Runs.call (l1In hm _ 32 126) ?_
      simp +decide only [go_sem]
      refine Runs.split (fun h' => ?_) (fun h' => ?_)
      ·simp only [Bool.not_eq_true'] at h'
       have e : nameOk L = false := by rw [nameOk, ← hr, textOk, ← hk, charOk, h']; simp
       simp +decide only [e, go_sem]
       exact Runs.ret_v
      ·simp only [Bool.not_eq_false'] at h'
       rw [charOk, h', Bool.true_and] at hk
       simp +decide (disch := first | omega | (simp only [ll]; omega)) only [if_pos, go_sem]
       refine ihk (k + 1) _ (by omega) ⟨by omega, hk⟩ ?_
       simp [go_sem, ann13, st13b]
     ·have hge : k = L[i].size := by simp at h; omega
      have hlen := bs_len L[i]
      rw [List.drop_of_length_le (by omega), List.all_nil] at hk
      rw [textOk, ‹inB _ 1 40 = true›, ← hk, Bool.true_and, Bool.true_and] at hr
      simp +decide (disch := first | omega | (simp only [ll]; omega)) only [if_pos, go_sem]
      refine ih (i + 1) _ (by omega) ⟨by omega, hr⟩ ?_
      simp [go_sem, ann13, st13]
  ·have hge : i = L.length := by simp at h; omega
   subst hge
   rw [List.drop_length, List.all_nil] at hr
   simp +decide only [go_sem]
   refine Runs.call (l1In hm _ 1 4) ?_
   simp +decide only [nameOk, ← hr, go_sem]
   exact Runs.ret_v
def ann18 : Ann := [(0, [0, 6, 7, 8]), (2, [0, 4, 6, 7, 8, 13, 14])]
def st18 (L : List ByteArray) (i : Nat) : St := ⟨[.sl .sh (L.map strA), .any, .any, .any, .any, .any, .sl .sh (L.map strA), .v (.int .i64 L.length), .v (.int .i64 i), .any, .any, .any, .any, .any, .any, .any, .any, .any, .any, .any, .any, .any, .any, .any, .any, .any, .any, .any, .any, .any, .any, .any, .any, .any, .any, .any], [], []⟩
def st18b (L : List ByteArray) (i : Nat) (s : ByteArray) (k : Nat) : St := ⟨[.sl .sh (L.map strA), .any, .any, .any, .v (.string s), .any, .sl .sh (L.map strA), .v (.int .i64 L.length), .v (.int .i64 i), .any, .any, .any, .any, .v (.int .i64 s.size), .v (.int .i64 k), .any, .any, .any, .any, .any, .any, .any, .any, .any, .any, .any, .any, .any, .any, .any, .any, .any, .any, .any, .any, .any], [], []⟩
theorem charOk_lo {b : UInt8} (h : (b.toNat : Int) < 32) : charOk b = false := by simp [charOk, inB]; omega
theorem charOk_hi {b : UInt8} (h : ¬ (b.toNat : Int) < 32) : charOk b = !decide ((b.toNat : Int) > 126) := by
 unfold charOk inB
 rw [decide_eq_true (by omega), Bool.true_and]
 by_cases h2 : (b.toNat : Int) > 126
 ·rw [decide_eq_false (by omega), decide_eq_true h2]; rfl
 ·rw [decide_eq_true (by omega), decide_eq_false h2]; rfl
include hm in
theorem isName (L : List ByteArray) (h3 : L.length ≤ 9223372036854775807) (h4 : ∀ s ∈ L, s.size ≤ 9223372036854775807) :
  Holds Try.prog 34 [.sl .sh (L.map strA)] [] (.v (.bool (nameOk L))) [] := by
 refine holds_of (ann := ann18) tabOk hm Try.func34 (by kernel_rfl) rfl ?_
 simp +decide only [Try.f34, go_sem]
 refine Runs.while (α := Nat) (st18 L) (fun i => L.length - i) (fun i => i ≤ L.length ∧ (L.drop i).all textOk = L.all textOk) 0 ⟨by omega, by simp⟩ ?_ ?_
 ·simp [go_sem, ann18, st18]
 ·rintro i ⟨hi1, hr⟩ ih
  simp +decide only [st18, go_sem]
  refine Runs.split (fun h => ?_) (fun h => ?_)
  ·have hlt : i < L.length := by simpa using h
   have hs := h4 L[i] (List.getElem_mem hlt)
   rw [List.drop_eq_getElem_cons hlt, List.all_cons] at hr
   simp +decide (disch := first | omega | (simp only [ll]; omega)) only [if_pos, go_sem]
   refine Runs.while (α := Nat) (st18b L i L[i]) (fun k => L[i].size - k) (fun k => k ≤ L[i].size ∧ (L[i].data.toList.drop k).all charOk = L[i].data.toList.all charOk) 0 ⟨by omega, by simp⟩ ?_ ?_
   ·simp [go_sem, ann18, st18b]
   ·rintro k ⟨hk1, hk⟩ ihk
    simp +decide (disch := first | omega | (simp only [ll]; omega)) only [st18b, if_pos, go_sem]
    refine Runs.split (fun h => ?_) (fun h => ?_)
    ·have hltk : k < L[i].size := by simpa using h
     have hlen := bs_len L[i]
     rw [List.drop_eq_getElem_cons (by omega), List.all_cons] at hk
     have hg : L[i].data.toList.getD k 0 = L[i].data.toList[k] := by simp [List.getD, hltk]
     have hb := UInt8.toNat_lt L[i].data.toList[k]
     simp +decide (disch := first | omega | (simp only [ll]; omega)) only [hg, if_pos, go_sem]
     have stop : charOk L[i].data.toList[k] = false → nameOk L = false := fun h => by rw [nameOk, ← hr, textOk, ← hk, h]; simp
     refine Runs.split (fun h => ?_) (fun h => ?_)
     ·simp only [decide_eq_true_eq] at h
      simp +decide only [stop (charOk_lo h), go_sem]
      exact Runs.ret_v
     ·simp only [decide_eq_false_iff_not] at h
      simp +decide (disch := first | omega | (simp only [ll]; omega)) only [hg, if_pos, go_sem]
      refine Runs.split (fun h2 => ?_) (fun h2 => ?_)
      ·simp +decide only [stop (by rw [charOk_hi h, h2]; rfl), go_sem]
       exact Runs.ret_v
      ·rw [charOk_hi h, h2, Bool.not_false, Bool.true_and] at hk
       simp +decide (disch := first | omega | (simp only [ll]; omega)) only [if_pos, go_sem]
       refine ihk (k + 1) _ (by omega) ⟨by omega, hk⟩ ?_
       simp [go_sem, ann18, st18b]
    ·have hge : k = L[i].size := by simp at h; omega
     have hlen := bs_len L[i]
     rw [List.drop_of_length_le (by omega), List.all_nil] at hk
     simp +decide only [go_sem]
     refine Runs.call (within hm _ 1 40) ?_
     simp +decide only [go_sem]
     refine Runs.split (fun h' => ?_) (fun h' => ?_)
     ·simp only [Bool.not_eq_true'] at h'
      have e : nameOk L = false := by rw [nameOk, ← hr, textOk, h']; simp
      simp +decide only [e, go_sem]
      exact Runs.ret_v
     ·simp only [Bool.not_eq_false'] at h'
      rw [textOk, h', ← hk, Bool.true_and, Bool.true_and] at hr
      simp +decide (disch := first | omega | (simp only [ll]; omega)) only [if_pos, go_sem]
      refine ih (i + 1) _ (by omega) ⟨by omega, hr⟩ ?_
      simp [go_sem, ann18, st18]
  ·have hge : i = L.length := by simp at h; omega
   subst hge
   rw [List.drop_length, List.all_nil] at hr
   simp +decide only [go_sem]
   refine Runs.call (within hm _ 1 4) ?_
   simp +decide only [nameOk, ← hr, go_sem]
   exact Runs.ret_v
include hm in
theorem isSig (es : List A) : Holds Try.prog 38 [.sl .sh es] [] (.v (.bool (inB es.length 1 64))) [] := by
 refine holds_of (ann := []) tabOk hm Try.func38 (by kernel_rfl) rfl ?_
 simp +decide only [Try.f38, go_sem]
 refine Runs.call (within hm es.length 1 64) ?_
 simp +decide only [go_sem]
 exact Runs.ret_v
def ann21 : Ann := [(0, [0, 1, 2, 7])]
def st21 (L : List Int) (lo hi : Int) (i : Nat) : St := ⟨[.sl .sh (L.map intA), .v (.int .i64 lo), .v (.int .i64 hi), .any, .any, .any, .any, .v (.int .i64 i), .any, .any, .any, .any, .any, .any, .any, .any, .any, .any, .any, .any, .any, .any, .any, .any, .any, .any, .any, .any], [], []⟩
def sched21 : Sched := .take 0 (.take 1 (.take 2 (.take 3 (.take 5 (.take 6 (.take 7 (.alt 4 (.alt 8 (.take 9 .fin) .nil) (.alt 8 (.alt 4 (.take 9 .fin) .nil) .nil))))))))
def risesFrom (L : List Int) (i : Nat) : Bool := (List.range' i (L.length - i)).all fun j => decide (L.getD (j - 1) 0 < L.getD j 0)
theorem risesFrom_succ {L : List Int} {i : Nat} (h : i < L.length) : risesFrom L i = (decide (L.getD (i - 1) 0 < L.getD i 0) && risesFrom L (i + 1)) := by
 unfold risesFrom
 obtain ⟨k, hk⟩ : ∃ k, L.length - i = k + 1 := ⟨L.length - i - 1, by omega⟩
 rw [hk, List.range'_succ, List.all_cons, show L.length - (i + 1) = k by omega]
include hm in
theorem isRising (L : List Int) (lo hi : Int) (h3 : L.length ≤ 9223372036854775807) :
  Holds Try.prog 37 [.sl .sh (L.map intA), .v (.int .i64 lo), .v (.int .i64 hi)] [] (.v (.bool (risesFrom L 1 && L.all fun n => inB n lo hi))) [] := by
 refine holds_of (ann := ann21) tabOk hm Try.func37 (by kernel_rfl) rfl ?_
 simp +decide only [Try.f37, go_sem]
 refine Runs.while (α := Nat) (st21 L lo hi) (fun i => L.length - i) (fun i => 1 ≤ i ∧ i ≤ max L.length 1 ∧ risesFrom L i = risesFrom L 1) 1 ⟨by omega, by omega, rfl⟩ ?_ ?_
 ·simp [go_sem, ann21, st21]
 ·rintro i ⟨hi0, hi1, hr⟩ ih
  simp +decide only [st21, go_sem]
  refine Runs.split (fun h => ?_) (fun h => ?_)
  ·have hlt : i < L.length := by simpa using h
   rw [risesFrom_succ hlt] at hr
   have he : (L.map intA).getD i .any = .v (.int .i64 (L.getD i 0)) := by simp [List.getD, hlt, intA]
   have he1 : (L.map intA).getD (i - 1) .any = .v (.int .i64 (L.getD (i - 1) 0)) := by simp [List.getD, show i - 1 < L.length by omega, intA]
   have ht : ((i : Int) - 1).toNat = i - 1 := by omega
   have hw : IntKind.i64.wrap ((i : Int) - 1) = (i : Int) - 1 := wrap_i64 (by omega) (by omega)
   simp +decide only [go_sem]
   refine Runs.draw (st1 := ?s1) (draws_by (ann := []) tabOk sched21 (by kernel_rfl) ?h1) ?h2
   case h1 =>
    intro K r X hK
    simp +decide only [sched21, hw, ht, he, he1, go_sem]
    refine Runs.chk (by simp; omega) (Runs.chk (by simp; omega) (Runs.both (Runs.both ?_ Runs.done) (Runs.both (Runs.both ?_ Runs.done) Runs.done)))
    ·exact hK
    ·exact hK
   case h2 =>
    simp +decide only [go_sem]
    refine Runs.split (fun h => ?_) (fun h => ?_)
    ·simp only [decide_eq_true_eq] at h
     rw [decide_eq_false (by omega), Bool.false_and] at hr
     simp +decide only [← hr, go_sem]
     exact Runs.ret_v
    ·simp only [decide_eq_false_iff_not] at h
     rw [decide_eq_true (by omega), Bool.true_and] at hr
     simp +decide (disch := first | omega | (simp only [ll]; omega)) only [if_pos, go_sem]
     refine ih (i + 1) _ (by omega) ⟨by omega, by omega, hr⟩ ?_
     simp [go_sem, ann21, st21]
  ·have hge : L.length ≤ i := by simp at h; omega
   have hz : risesFrom L i = true := by unfold risesFrom; rw [show L.length - i = 0 by omega]; rfl
   rw [hz] at hr
   simp +decide only [dn_intA, go_sem]
   refine Runs.call (allWithin hm L lo hi h3) ?_
   simp +decide only [← hr, go_sem]
   exact Runs.ret_v
end Go.Proofs.W

namespace Go.Proofs.W
open Go Go.AM
set_option maxRecDepth 10000
variable (hm : Try.prog.follows .mixedOrders = true)
def szI (n : Nat) (left : Int) : Int := if left - n < 0 then -1 else left - n
def szGo : List ByteArray → Int → Int
 | [], l => l
 | s :: r, l => if l - s.size < 0 then -1 else szGo r (l - s.size)
def szS (L : List ByteArray) (left : Int) : Int := if left - L.length < 0 then -1 else szGo L (left - L.length)
theorem szGo_le (L : List ByteArray) (l : Int) (h : 0 ≤ l) : szGo L l ≤ l ∧ -1 ≤ szGo L l := by
 induction L generalizing l with
 | nil => simp [szGo]; omega
 | cons s r ih =>
  simp only [szGo]
  split
  ·omega
  ·have := ih (l - s.size) (by omega); omega
theorem szS_le (L : List ByteArray) (l : Int) (h : 0 ≤ l) : szS L l ≤ l := by
 unfold szS
 split
 ·omega
 ·have := szGo_le L (l - L.length) (by omega); omega
theorem szI_le (n : Nat) (l : Int) (h : 0 ≤ l) : szI n l ≤ l ∧ -1 ≤ szI n l := by
 unfold szI
 split <;> omega
theorem szS_len (L : List ByteArray) (l : Int) (h : ¬ szS L l < 0) (hl : l ≤ 1048576) : L.length ≤ 1048576 := by
 unfold szS at h
 split at h
 ·exact absurd (by omega) h
 ·omega
theorem szI_len (n : Nat) (l : Int) (h : ¬ szI n l < 0) (hl : l ≤ 1048576) : n ≤ 1048576 := by
 unfold szI at h
 split at h
 ·exact absurd (by omega) h
 ·omega
include hm in
theorem szIntS (es : List A) (left : Int) (h1 : 0 ≤ left) (h2 : left ≤ 1048576) (h3 : es.length ≤ 9223372036854775807) :
  Holds Try.prog 14 [.sl .sh es, .v (.int .i64 left)] [] (.v (.int .i64 (szI es.length left))) [] := by
 refine holds_of (ann := []) tabOk hm Try.func14 (by kernel_rfl) rfl ?_
 simp +decide (disch := first | omega | (simp only [ll]; omega)) only [Try.f14, if_pos, go_sem]
 refine Runs.split (fun h => ?_) (fun h => ?_)
 ·simp only [decide_eq_true_eq] at h
  simp +decide only [szI, if_pos h, go_sem]
  exact Runs.ret_v
 ·simp only [decide_eq_false_iff_not] at h
  simp +decide only [szI, if_neg h, go_sem]
  exact Runs.ret_v
include hm in
theorem szByteS (es : List A) (left : Int) (h1 : 0 ≤ left) (h2 : left ≤ 1048576) (h3 : es.length ≤ 9223372036854775807) :
  Holds Try.prog 15 [.sl .sh es, .v (.int .i64 left)] [] (.v (.int .i64 (szI es.length left))) [] := by
 refine holds_of (ann := []) tabOk hm Try.func15 (by kernel_rfl) rfl ?_
 simp +decide (disch := first | omega | (simp only [ll]; omega)) only [Try.f15, if_pos, go_sem]
 refine Runs.split (fun h => ?_) (fun h => ?_)
 ·simp only [decide_eq_true_eq] at h
  simp +decide only [szI, if_pos h, go_sem]
  exact Runs.ret_v
 ·simp only [decide_eq_false_iff_not] at h
  simp +decide only [szI, if_neg h, go_sem]
  exact Runs.ret_v
def szAnn : Ann := [(0, [0, 1, 5])]
def szSt (L : List ByteArray) (p : Nat × Int) : St := ⟨[.sl .sh (L.map strA), .v (.int .i64 p.2), .any, .any, .any, .v (.int .i64 p.1), .any, .any, .any, .any, .any, .any, .any, .any, .any, .any, .any, .any, .any, .any, .any, .any, .any, .any, .any, .any, .any, .any], [], []⟩
include hm in
theorem szStringS (L : List ByteArray) (left : Int) (h1 : 0 ≤ left) (h2 : left ≤ 1048576) (h3 : L.length ≤ 9223372036854775807) (h4 : ∀ s ∈ L, s.size ≤ 9223372036854775807) :
  Holds Try.prog 13 [.sl .sh (L.map strA), .v (.int .i64 left)] [] (.v (.int .i64 (szS L left))) [] := by
 refine holds_of (ann := szAnn) tabOk hm Try.func13 (by kernel_rfl) rfl ?_
 simp +decide (disch := first | omega | (simp only [ll]; omega)) only [Try.f13, if_pos, go_sem]
 refine Runs.split (fun h => ?_) (fun h => ?_)
 ·simp only [decide_eq_true_eq] at h
  simp +decide only [szS, if_pos h, go_sem]
  exact Runs.ret_v
 ·simp only [decide_eq_false_iff_not] at h
  simp +decide only [go_sem]
  refine Runs.while (α := Nat × Int) (szSt L) (fun p => L.length - p.1) (fun p => p.1 ≤ L.length ∧ 0 ≤ p.2 ∧ p.2 ≤ 1048576 ∧ szGo (L.drop p.1) p.2 = szS L left) (0, left - L.length) ⟨by simp, by simp; omega, by simp; omega, by simp [szS, h]⟩ ?_ ?_
  ·simp [go_sem, szAnn, szSt]
  ·rintro ⟨i, l⟩ ⟨hi, hl1, hl2, hr⟩ ih
   simp only at hi hl1 hl2 hr
   simp +decide only [szSt, go_sem]
   refine Runs.split (fun h => ?_) (fun h => ?_)
   ·have hlt : i < L.length := by simpa using h
    have hsz := h4 L[i] (List.getElem_mem hlt)
    rw [List.drop_eq_getElem_cons hlt] at hr
    simp only [szGo] at hr
    simp +decide (disch := first | omega | (simp only [ll]; omega)) only [if_pos, go_sem]
    refine Runs.split (fun h => ?_) (fun h => ?_)
    ·simp only [decide_eq_true_eq] at h
     rw [if_pos h] at hr
     simp +decide only [← hr, go_sem]
     exact Runs.ret_v
    ·simp only [decide_eq_false_iff_not] at h
     rw [if_neg h] at hr
     simp +decide (disch := first | omega | (simp only [ll]; omega)) only [if_pos, go_sem]
     refine ih (i + 1, l - L[i].size) _ (by simp only; omega) ⟨hlt, by simp only; omega, by simp only; omega, hr⟩ ?_
     simp [go_sem, szAnn, szSt]
   ·have hge : i = L.length := by simp at h; omega
    subst hge
    simp only [List.drop_length, szGo] at hr
    simp +decide only [← hr, go_sem]
    exact Runs.ret_v
end Go.Proofs.W

namespace Go.Proofs.W
open Go Go.AM
set_option maxRecDepth 10000
variable (hm : Try.prog.follows .mixedOrders = true)
def fillS {α : Type} (g : α → A) (L : List α) (z : A) (i : Nat) : List A := (L.take i).map g ++ List.replicate (L.length - i) z
theorem fillS_length {α : Type} (g : α → A) (L : List α) (z : A) (i : Nat) (h : i ≤ L.length) : (fillS g L z i).length = L.length := by simp [fillS]; omega
theorem fillS_zero {α : Type} (g : α → A) (L : List α) (z : A) : fillS g L z 0 = List.replicate L.length z := by simp [fillS]
theorem fillS_all {α : Type} (g : α → A) (L : List α) (z : A) : fillS g L z L.length = L.map g := by simp [fillS]
theorem fillS_set {α : Type} (g : α → A) (L : List α) (z : A) (i : Nat) (h : i < L.length) : (fillS g L z i).set i (g L[i]) = fillS g L z (i + 1) := by
 unfold fillS
 have e : L.length - i = (L.length - (i + 1)) + 1 := by omega
 rw [List.set_append_right _ _ (by simp; omega), e, List.replicate_succ]
 have hl : ((L.take i).map g).length = i := by simp; omega
 rw [hl, Nat.sub_self, List.set_cons_zero, List.take_succ_eq_append_getElem h, List.map_append, List.append_assoc]
 rfl
theorem fillS_get {α : Type} (g : α → A) (L : List α) (z : A) (i : Nat) (h : i < L.length) : (fillS g L z i).getD i .any = z := by
 unfold fillS
 have hl : ((L.take i).map g).length = i := by simp; omega
 rw [List.getD, List.getElem?_append_right (by omega), hl, Nat.sub_self]
 have e : L.length - i = (L.length - (i + 1)) + 1 := by omega
 rw [e, List.replicate_succ]
 rfl
def toAnn : Ann := [(0, [0, 3, 4])]
def toStringSt (L : List ByteArray) (i : Nat) : St := ⟨[.sl .sh (L.map strA), .any, .any, .ms (.l 0) 0 L.length L.length, .v (.int .i64 i), .any, .any, .any, .any, .any, .any, .any, .any, .any, .any, .any, .any, .any, .any, .any, .any, .any], [(0, ⟨true, 1, false, fillS strA L (.v (.string ⟨#[]⟩)) i⟩)], []⟩
include hm in
theorem toStringS (L : List ByteArray) (h3 : L.length ≤ 1048576) : Holds Try.prog 18 [.sl .sh (L.map strA)] [] (.sl (.ow 1) (L.map strA)) [] := by
 refine holds_of (ann := toAnn) tabOk hm Try.func18 (by kernel_rfl) rfl ?_
 simp +decide (disch := first | omega | (simp only [ll]; omega)) only [Try.f18, if_pos, go_sem]
 refine Runs.while (α := Nat) (toStringSt L) (fun i => L.length - i) (fun i => i ≤ L.length) 0 (by omega) ?_ ?_
 ·simp [go_sem, toAnn, toStringSt, fillS_zero]
 ·intro i hi ih
  have hlen := fillS_length strA L (.v (.string ⟨#[]⟩)) i hi
  simp +decide only [toStringSt, hlen, go_sem]
  refine Runs.split (fun h => ?_) (fun h => ?_)
  ·have hlt : i < L.length := by simpa using h
   have hg := fillS_get strA L (.v (.string ⟨#[]⟩)) i hlt
   have hs : (fillS strA L (.v (.string ⟨#[]⟩)) i).set i (strA L[i]) = _ := fillS_set strA L (.v (.string ⟨#[]⟩)) i hlt
   simp only [strA] at hs
   simp +decide (disch := first | omega | (simp only [ll]; omega)) only [hlen, hg, hs, if_pos, go_sem]
   refine ih (i + 1) _ (by omega) hlt ?_
   simp [go_sem, toAnn, toStringSt]
  ·have hge : i = L.length := by simp at h; omega
   subst hge
   simp +decide only [hlen, fillS_all, go_sem]
   exact Runs.ret_refl
def toIntSt (L : List Int) (i : Nat) : St := ⟨[.sl .sh (L.map intA), .any, .any, .ms (.l 0) 0 L.length L.length, .v (.int .i64 i), .any, .any, .any, .any, .any, .any, .any, .any, .any, .any, .any, .any, .any, .any, .any, .any, .any], [(0, ⟨true, 1, false, fillS intA L (.v (.int .i64 0)) i⟩)], []⟩
include hm in
theorem toIntS (L : List Int) (h3 : L.length ≤ 1048576) : Holds Try.prog 19 [.sl .sh (L.map intA)] [] (.sl (.ow 1) (L.map intA)) [] := by
 refine holds_of (ann := toAnn) tabOk hm Try.func19 (by kernel_rfl) rfl ?_
 simp +decide (disch := first | omega | (simp only [ll]; omega)) only [Try.f19, if_pos, go_sem]
 refine Runs.while (α := Nat) (toIntSt L) (fun i => L.length - i) (fun i => i ≤ L.length) 0 (by omega) ?_ ?_
 ·simp [go_sem, toAnn, toIntSt, fillS_zero]
 ·intro i hi ih
  have hlen := fillS_length intA L (.v (.int .i64 0)) i hi
  simp +decide only [toIntSt, hlen, go_sem]
  refine Runs.split (fun h => ?_) (fun h => ?_)
  ·have hlt : i < L.length := by simpa using h
   have hg := fillS_get intA L (.v (.int .i64 0)) i hlt
   have hs : (fillS intA L (.v (.int .i64 0)) i).set i (intA L[i]) = _ := fillS_set intA L (.v (.int .i64 0)) i hlt
   simp only [intA] at hs
   simp +decide (disch := first | omega | (simp only [ll]; omega)) only [hlen, hg, hs, if_pos, go_sem]
   refine ih (i + 1) _ (by omega) hlt ?_
   simp [go_sem, toAnn, toIntSt]
  ·have hge : i = L.length := by simp at h; omega
   subst hge
   simp +decide only [hlen, fillS_all, go_sem]
   exact Runs.ret_refl
def toByteSt (L : List Int) (i : Nat) : St := ⟨[.sl .sh (L.map u8A), .any, .any, .ms (.l 0) 0 L.length L.length, .v (.int .i64 i), .any, .any, .any, .any, .any, .any, .any, .any, .any, .any, .any, .any, .any, .any, .any, .any, .any], [(0, ⟨true, 1, false, fillS u8A L (.v (.int .u8 0)) i⟩)], []⟩
include hm in
theorem toByteS (L : List Int) (h3 : L.length ≤ 1048576) : Holds Try.prog 20 [.sl .sh (L.map u8A)] [] (.sl (.ow 1) (L.map u8A)) [] := by
 refine holds_of (ann := toAnn) tabOk hm Try.func20 (by kernel_rfl) rfl ?_
 simp +decide (disch := first | omega | (simp only [ll]; omega)) only [Try.f20, if_pos, go_sem]
 refine Runs.while (α := Nat) (toByteSt L) (fun i => L.length - i) (fun i => i ≤ L.length) 0 (by omega) ?_ ?_
 ·simp [go_sem, toAnn, toByteSt, fillS_zero]
 ·intro i hi ih
  have hlen := fillS_length u8A L (.v (.int .u8 0)) i hi
  simp +decide only [toByteSt, hlen, go_sem]
  refine Runs.split (fun h => ?_) (fun h => ?_)
  ·have hlt : i < L.length := by simpa using h
   have hg := fillS_get u8A L (.v (.int .u8 0)) i hlt
   have hs : (fillS u8A L (.v (.int .u8 0)) i).set i (u8A L[i]) = _ := fillS_set u8A L (.v (.int .u8 0)) i hlt
   simp only [u8A] at hs
   simp +decide (disch := first | omega | (simp only [ll]; omega)) only [hlen, hg, hs, if_pos, go_sem]
   refine ih (i + 1) _ (by omega) hlt ?_
   simp [go_sem, toAnn, toByteSt]
  ·have hge : i = L.length := by simp at h; omega
   subst hge
   simp +decide only [hlen, fillS_all, go_sem]
   exact Runs.ret_refl
end Go.Proofs.W

namespace Go.Proofs.W
open Go Go.AM
set_option maxRecDepth 10000
variable (hm : Try.prog.follows .mixedOrders = true)
def eqAnn : Ann := [(0, [0, 1, 5])]
def eqSched : Sched := .take 0 (.take 1 (.take 2 (.take 4 (.take 5 (.take 6 (.alt 3 (.alt 7 (.take 8 .fin) .nil) (.alt 7 (.alt 3 (.take 8 .fin) .nil) .nil)))))))
attribute [local go_sem] eqSched
def eqStringSt (L : List ByteArray) (i : Nat) : St := ⟨[.sl .sh (L.map strA), .sl .sh (L.map strA), .any, .any, .any, .v (.int .i64 i), .any, .any, .any, .any, .any, .any, .any, .any, .any, .any, .any, .any, .any, .any, .any, .any, .any, .any, .any, .any], [], []⟩
include hm in
theorem eqStringS (L : List ByteArray) (h3 : L.length ≤ 9223372036854775807) : Holds Try.prog 26 [.sl .sh (L.map strA), .sl .sh (L.map strA)] [] (.v (.bool true)) [] := by
 refine holds_of (ann := eqAnn) tabOk hm Try.func26 (by kernel_rfl) rfl ?_
 simp +decide only [Try.f26, go_sem]
 refine Runs.while (α := Nat) (eqStringSt L) (fun i => L.length - i) (fun i => i ≤ L.length) 0 (by omega) ?_ ?_
 ·simp [go_sem, eqAnn, eqStringSt]
 ·intro i hi ih
  simp +decide only [eqStringSt, go_sem]
  refine Runs.split (fun h => ?_) (fun h => ?_)
  ·have hlt : i < L.length := by simpa using h
   simp +decide only [go_sem]
   refine Runs.draw (st1 := ?s1) (draws_by (ann := []) tabOk eqSched (by kernel_rfl) ?p1) ?q1
   case p1 =>
    intro K r X hK
    simp +decide (disch := first | omega | (simp only [ll]; omega)) only [if_pos, go_sem]
    exact hK
   case q1 =>
    simp +decide (disch := first | omega | (simp only [ll]; omega)) only [if_pos, go_sem]
    refine ih (i + 1) _ (by omega) hlt ?_
    simp [go_sem, eqAnn, eqStringSt]
  ·simp +decide only [go_sem]
   exact Runs.ret_v
def eqIntSt (L : List Int) (i : Nat) : St := ⟨[.sl .sh (L.map intA), .sl .sh (L.map intA), .any, .any, .any, .v (.int .i64 i), .any, .any, .any, .any, .any, .any, .any, .any, .any, .any, .any, .any, .any, .any, .any, .any, .any, .any, .any, .any], [], []⟩
include hm in
theorem eqIntS (L : List Int) (h3 : L.length ≤ 9223372036854775807) : Holds Try.prog 8 [.sl .sh (L.map intA), .sl .sh (L.map intA)] [] (.v (.bool true)) [] := by
 refine holds_of (ann := eqAnn) tabOk hm Try.func8 (by kernel_rfl) rfl ?_
 simp +decide only [Try.f8, go_sem]
 refine Runs.while (α := Nat) (eqIntSt L) (fun i => L.length - i) (fun i => i ≤ L.length) 0 (by omega) ?_ ?_
 ·simp [go_sem, eqAnn, eqIntSt]
 ·intro i hi ih
  simp +decide only [eqIntSt, go_sem]
  refine Runs.split (fun h => ?_) (fun h => ?_)
  ·have hlt : i < L.length := by simpa using h
   simp +decide only [go_sem]
   refine Runs.draw (st1 := ?s1) (draws_by (ann := []) tabOk eqSched (by kernel_rfl) ?p1) ?q1
   case p1 =>
    intro K r X hK
    simp +decide (disch := first | omega | (simp only [ll]; omega)) only [if_pos, go_sem]
    exact hK
   case q1 =>
    simp +decide (disch := first | omega | (simp only [ll]; omega)) only [if_pos, go_sem]
    refine ih (i + 1) _ (by omega) hlt ?_
    simp [go_sem, eqAnn, eqIntSt]
  ·simp +decide only [go_sem]
   exact Runs.ret_v
def eqByteSt (L : List Int) (i : Nat) : St := ⟨[.sl .sh (L.map u8A), .sl .sh (L.map u8A), .any, .any, .any, .v (.int .i64 i), .any, .any, .any, .any, .any, .any, .any, .any, .any, .any, .any, .any, .any, .any, .any, .any, .any, .any, .any, .any], [], []⟩
include hm in
theorem eqByteS (L : List Int) (h3 : L.length ≤ 9223372036854775807) : Holds Try.prog 27 [.sl .sh (L.map u8A), .sl .sh (L.map u8A)] [] (.v (.bool true)) [] := by
 refine holds_of (ann := eqAnn) tabOk hm Try.func27 (by kernel_rfl) rfl ?_
 simp +decide only [Try.f27, go_sem]
 refine Runs.while (α := Nat) (eqByteSt L) (fun i => L.length - i) (fun i => i ≤ L.length) 0 (by omega) ?_ ?_
 ·simp [go_sem, eqAnn, eqByteSt]
 ·intro i hi ih
  simp +decide only [eqByteSt, go_sem]
  refine Runs.split (fun h => ?_) (fun h => ?_)
  ·have hlt : i < L.length := by simpa using h
   simp +decide only [go_sem]
   refine Runs.draw (st1 := ?s1) (draws_by (ann := []) tabOk eqSched (by kernel_rfl) ?p1) ?q1
   case p1 =>
    intro K r X hK
    simp +decide (disch := first | omega | (simp only [ll]; omega)) only [if_pos, go_sem]
    exact hK
   case q1 =>
    simp +decide (disch := first | omega | (simp only [ll]; omega)) only [if_pos, go_sem]
    refine ih (i + 1) _ (by omega) hlt ?_
    simp [go_sem, eqAnn, eqByteSt]
  ·simp +decide only [go_sem]
   exact Runs.ret_v
end Go.Proofs.W

namespace Go.Proofs.W
open Go Go.AM
set_option maxRecDepth 10000
variable (hm : Try.prog.follows .mixedOrders = true)
def crlA (I : List ByteArray) (f t a : Int) (S G : List Int) : A := .agg [.sl .sh (I.map strA), .v (.int .i64 f), .v (.int .i64 t), .v (.int .i64 a), .sl .sh (S.map intA), .sl .sh (G.map u8A)]
def crlO (I : List ByteArray) (f t a : Int) (S G : List Int) : A := .agg [.sl (.ow 1) (I.map strA), .v (.int .i64 f), .v (.int .i64 t), .v (.int .i64 a), .sl (.ow 1) (S.map intA), .sl (.ow 1) (G.map u8A)]
attribute [local go_sem] crlA crlO
def crlOk (I : List ByteArray) (f t a : Int) (S G : List Int) : Bool :=
 nameOk I && inB f (-631152000) 4102444799 && inB t (-631152000) 4102444799 && decide (f ≤ t) && inB a 1 4 && decide ((S.length : Int) ≤ 20) && (risesFrom S 1 && S.all fun n => inB n 1 1000000000000000) && inB G.length 1 64
include hm in
theorem crlOkI (I : List ByteArray) (f t a : Int) (S G : List Int) (h1 : I.length ≤ 9223372036854775807) (h2 : ∀ s ∈ I, s.size ≤ 9223372036854775807) (h3 : S.length ≤ 9223372036854775807) :
  Holds Try.prog 21 [crlA I f t a S G] [] (.v (.bool (crlOk I f t a S G))) [] := by
 refine holds_of (ann := []) tabOk hm Try.func21 (by kernel_rfl) rfl ?_
 simp +decide only [Try.f21, go_sem]
 refine Runs.call (isName hm I h1 h2) ?_
 simp +decide only [go_sem]
 refine Runs.split (fun e1 => ?_) (fun e1 => by simp +decide only [crlOk, e1, go_sem]; exact Runs.ret_v)
 simp +decide only [go_sem]
 refine Runs.call (isTime hm f) ?_
 simp +decide only [go_sem]
 refine Runs.split (fun e2 => ?_) (fun e2 => by simp +decide only [crlOk, e1, e2, go_sem]; exact Runs.ret_v)
 simp +decide only [go_sem]
 refine Runs.call (isTime hm t) ?_
 simp +decide only [go_sem]
 refine Runs.split (fun e3 => ?_) (fun e3 => by simp +decide only [crlOk, e1, e2, e3, go_sem]; exact Runs.ret_v)
 simp +decide only [go_sem]
 refine Runs.split (fun e4 => ?_) (fun e4 => by simp +decide only [crlOk, e1, e2, e3, e4, go_sem]; exact Runs.ret_v)
 simp +decide only [go_sem]
 refine Runs.call (within hm a 1 4) ?_
 simp +decide only [go_sem]
 refine Runs.split (fun e5 => ?_) (fun e5 => by simp +decide only [crlOk, e1, e2, e3, e4, e5, go_sem]; exact Runs.ret_v)
 simp +decide only [go_sem]
 refine Runs.split (fun e6 => ?_) (fun e6 => by simp +decide only [crlOk, e1, e2, e3, e4, e5, e6, go_sem]; exact Runs.ret_v)
 simp +decide only [go_sem]
 refine Runs.call (isRising hm S 1 1000000000000000 h3) ?_
 simp +decide only [go_sem]
 refine Runs.split (fun e7 => ?_) (fun e7 => by simp +decide only [crlOk, e1, e2, e3, e4, e5, e6, e7, go_sem]; exact Runs.ret_v)
 simp +decide only [go_sem]
 refine Runs.call (isSig hm (G.map u8A)) ?_
 simp +decide only [crlOk, e1, e2, e3, e4, e5, e6, e7, go_sem]
 exact Runs.ret_v
def szCrlV (I : List ByteArray) (S G : List Int) (left : Int) : Int :=
 if szS I left < 0 then -1 else if szI S.length (szS I left) < 0 then -1 else szI G.length (szI S.length (szS I left))
include hm in
theorem szCrl (I : List ByteArray) (f t a : Int) (S G : List Int) (left : Int) (l1 : 0 ≤ left) (l2 : left ≤ 1048576) (h1 : I.length ≤ 9223372036854775807) (h2 : ∀ s ∈ I, s.size ≤ 9223372036854775807) (h3 : S.length ≤ 9223372036854775807) (h4 : G.length ≤ 9223372036854775807) :
  Holds Try.prog 4 [crlA I f t a S G, .v (.int .i64 left)] [] (.v (.int .i64 (szCrlV I S G left))) [] := by
 have b1 := szS_le I left l1
 refine holds_of (ann := []) tabOk hm Try.func4 (by kernel_rfl) rfl ?_
 simp +decide only [Try.f4, go_sem]
 refine Runs.call (szStringS hm I left l1 l2 h1 h2) ?_
 simp +decide only [go_sem]
 refine Runs.split (fun e => ?_) (fun e => ?_)
 ·simp only [decide_eq_true_eq] at e
  simp +decide only [szCrlV, if_pos e, go_sem]
  exact Runs.ret_v
 ·simp only [decide_eq_false_iff_not] at e
  simp +decide only [go_sem]
  refine Runs.call (szIntS hm (S.map intA) (szS I left) (by omega) (by omega) (by simpa using h3)) ?_
  simp +decide only [go_sem]
  have b2 := szI_le S.length (szS I left) (by omega)
  refine Runs.split (fun e' => ?_) (fun e' => ?_)
  ·simp only [decide_eq_true_eq] at e'
   simp +decide only [szCrlV, if_neg e, if_pos e', go_sem]
   exact Runs.ret_v
  ·simp only [decide_eq_false_iff_not] at e'
   simp +decide only [go_sem]
   refine Runs.call (szByteS hm (G.map u8A) (szI S.length (szS I left)) (by omega) (by omega) (by simpa using h4)) ?_
   simp +decide only [go_sem]
   have b3 := szI_le G.length (szI S.length (szS I left)) (by omega)
   refine Runs.split (fun e'' => ?_) (fun e'' => ?_)
   ·simp only [decide_eq_true_eq] at e''
    have e3 : szI G.length (szI S.length (szS I left)) = -1 := by omega
    simp +decide only [szCrlV, if_neg e, if_neg e', e3, go_sem]
    exact Runs.ret_v
   ·simp +decide only [szCrlV, if_neg e, if_neg e', go_sem]
    exact Runs.ret_v
include hm in
theorem toCrl (I : List ByteArray) (f t a : Int) (S G : List Int) (h1 : I.length ≤ 1048576) (h3 : S.length ≤ 1048576) (h4 : G.length ≤ 1048576) :
  Holds Try.prog 6 [crlA I f t a S G] [] (crlO I f t a S G) [] := by
 refine holds_of (ann := []) tabOk hm Try.func6 (by kernel_rfl) rfl ?_
 simp +decide only [Try.f6, go_sem]
 refine Runs.call (toStringS hm I h1) ?_
 simp +decide only [go_sem]
 refine Runs.call (toIntS hm S h3) ?_
 simp +decide only [go_sem]
 refine Runs.call (toByteS hm G h4) ?_
 simp +decide only [go_sem]
 exact Runs.ret_refl
include hm in
theorem eqCrl (I : List ByteArray) (f t a : Int) (S G : List Int) (h1 : I.length ≤ 9223372036854775807) (h3 : S.length ≤ 9223372036854775807) (h4 : G.length ≤ 9223372036854775807) :
  Holds Try.prog 9 [crlA I f t a S G, crlA I f t a S G] [] (.v (.bool true)) [] := by
 refine holds_of (ann := []) tabOk hm Try.func9 (by kernel_rfl) rfl ?_
 simp +decide only [Try.f9, go_sem]
 refine Runs.call (eqStringS hm I h1) ?_
 simp +decide only [go_sem]
 refine Runs.call (eqIntS hm S h3) ?_
 simp +decide only [go_sem]
 refine Runs.call (eqByteS hm G h4) ?_
 simp +decide only [go_sem]
 exact Runs.ret_v
def stepOk (S : List Int) (i : Nat) : Bool := inB (S.getD i 0) 1 1000000000000000 && (decide (i = 0) || decide (S.getD (i - 1) 0 < S.getD i 0))
def stepsOk (S : List Int) (i : Nat) : Bool := (List.range' i (S.length - i)).all (stepOk S)
theorem stepsOk_succ {S : List Int} {i : Nat} (h : i < S.length) : stepsOk S i = (stepOk S i && stepsOk S (i + 1)) := by
 unfold stepsOk
 obtain ⟨k, hk⟩ : ∃ k, S.length - i = k + 1 := ⟨S.length - i - 1, by omega⟩
 rw [hk, List.range'_succ, List.all_cons, show S.length - (i + 1) = k by omega]
theorem stepsOk_end {S : List Int} {i : Nat} (h : S.length ≤ i) : stepsOk S i = true := by
 unfold stepsOk
 rw [show S.length - i = 0 by omega]; rfl
theorem stepsOk_eq (S : List Int) : stepsOk S 0 = (risesFrom S 1 && S.all fun n => inB n 1 1000000000000000) := by
 rw [Bool.eq_iff_iff]
 simp only [stepsOk, risesFrom, Bool.and_eq_true, List.all_eq_true, List.mem_range'_1, stepOk, Bool.or_eq_true, decide_eq_true_eq]
 constructor
 ·intro h
  refine ⟨fun j hj => ?_, fun n hn => ?_⟩
  ·rcases (h j ⟨by omega, by omega⟩).2 with e | e
   ·omega
   ·exact e
  ·obtain ⟨j, hj, rfl⟩ := List.getElem_of_mem hn
   have := (h j ⟨by omega, by omega⟩).1
   simpa [List.getD, hj] using this
 ·rintro ⟨h1, h2⟩ j ⟨-, hj⟩
  have hj' : j < S.length := by omega
  refine ⟨?_, ?_⟩
  ·have := h2 S[j] (List.getElem_mem hj')
   simpa [List.getD, hj'] using this
  ·rcases Nat.eq_zero_or_pos j with e | e
   ·exact .inl e
   ·exact .inr (h1 j ⟨by omega, by omega⟩)
def ann5 : Ann := [(0, [1, 3])]
def st5 (I : List ByteArray) (f t a : Int) (S G : List Int) (i : Nat) : St := ⟨[.any, .ref (.l 0) 0 0 1, .any, .v (.int .i64 i), .any, .any, .any, .any, .any, .any, .any, .any, .any, .any, .any, .any, .any, .any, .any, .any, .any, .any, .any, .any, .any, .any, .any, .any, .any, .any, .any, .any, .any, .any, .any, .any, .any, .any, .any, .any, .any, .any, .any, .any, .any, .any, .any, .any, .any, .any, .any, .any, .any, .any, .any, .any, .any, .any, .any, .any, .any, .any, .any, .any, .any, .any, .any, .any, .any, .any, .any, .any, .any], [(0, ⟨true, 6, true, [crlA I f t a S G]⟩)], []⟩
def sched5 : Sched := .take 0 (.take 2 (.alt 1 (.take 3 (.alt 4 (.alt 5 (.take 6 (.take 7 (.take 8 (.take 9 (.take 10 (.take 11 (.take 13 (.take 14 (.take 17 (.take 19 (.alt 12 (.take 15 (.alt 16 (.alt 18 (.take 20 (.alt 21 (.take 22 (.take 23 (.take 24 .fin))) .nil)) .nil) (.alt 18 (.take 20 (.alt 16 (.alt 21 (.take 22 (.take 23 (.take 24 .fin))) .nil) (.alt 21 (.alt 16 (.take 22 (.take 23 (.take 24 .fin))) .nil) .nil))) .nil))) (.alt 18 (.take 20 (.alt 12 (.take 15 (.alt 16 (.alt 21 (.take 22 (.take 23 (.take 24 .fin))) .nil) (.alt 21 (.alt 16 (.take 22 (.take 23 (.take 24 .fin))) .nil) .nil))) (.alt 21 (.alt 12 (.take 15 (.alt 16 (.take 22 (.take 23 (.take 24 .fin))) .nil)) .nil) .nil))) .nil)))))))))))) .nil) .nil)) .nil))
attribute [local go_sem] sched5
include hm in
theorem crlOkS (I : List ByteArray) (f t a : Int) (S G : List Int) (h1 : I.length ≤ 9223372036854775807) (h2 : ∀ s ∈ I, s.size ≤ 9223372036854775807) (h3 : S.length ≤ 9223372036854775807) :
  Holds Try.prog 16 [crlA I f t a S G] [] (.v (.bool (crlOk I f t a S G))) [] := by
 refine holds_of (ann := ann5) tabOk hm Try.func16 (by kernel_rfl) rfl ?_
 simp +decide only [Try.f16, go_sem]
 refine Runs.while (α := Nat) (st5 I f t a S G) (fun i => S.length - i) (fun i => i ≤ S.length ∧ stepsOk S i = stepsOk S 0) 0 ⟨by omega, rfl⟩ ?_ ?_
 ·simp [go_sem, ann5, st5]
 ·rintro i ⟨hi1, hr⟩ ih
  simp +decide (disch := first | omega | (simp only [ll]; omega)) only [st5, if_pos, go_sem]
  refine Runs.split (fun h => ?_) (fun h => ?_)
  ·have hlt : i < S.length := by simpa using h
   rw [stepsOk_succ hlt] at hr
   have hg : S.getD i 0 = S[i] := by simp [List.getD, hlt]
   simp +decide only [go_sem]
   have stop : stepOk S i = false → crlOk I f t a S G = false := fun e => by
    rw [crlOk, ← stepsOk_eq, ← hr, e]; simp
   cases hb : inB S[i] 1 1000000000000000 with
   | false =>
    refine Runs.draw (st1 := ?s1) (draws_by (ann := []) tabOk sched5 (by kernel_rfl) ?p1) ?q1
    case p1 =>
     intro K r X hK
     simp +decide (disch := first | omega | (simp only [ll]; omega)) only [if_pos, go_sem]
     refine Runs.call (l1In hm _ 1 _) ?_
     simp +decide (disch := first | omega | (simp only [ll]; omega)) only [hb, if_pos, go_sem]
     exact hK
    case q1 =>
     have e : crlOk I f t a S G = false := stop (by rw [stepOk, hg, hb, Bool.false_and])
     simp +decide (disch := first | omega | (simp only [ll]; omega)) only [e, if_pos, go_sem]
     exact Runs.ret_v
   | true =>
    rcases Nat.eq_zero_or_pos i with rfl | h0
    ·refine Runs.draw (st1 := ?s2) (draws_by (ann := []) tabOk sched5 (by kernel_rfl) ?p2) ?q2
     case p2 =>
      intro K r X hK
      simp +decide (disch := first | omega | (simp only [ll]; omega)) only [if_pos, go_sem]
      refine Runs.call (l1In hm _ 1 _) ?_
      simp +decide (disch := first | omega | (simp only [ll]; omega)) only [hb, Int.natCast_zero, gt_iff_lt, Int.lt_irrefl, if_pos, go_sem]
      exact hK
     case q2 =>
      have e : stepOk S 0 = true := by rw [stepOk, hg, hb]; rfl
      rw [e, Bool.true_and] at hr
      simp +decide (disch := first | omega | (simp only [ll]; omega)) only [if_pos, go_sem]
      refine ih 1 _ (by omega) ⟨by omega, hr⟩ ?_
      simp [go_sem, ann5, st5]
    ·have hd : decide ((i : Int) > 0) = true := by simp; omega
     have ht : ((i : Int) - 1).toNat = i - 1 := by omega
     have hg1 : (S.map intA).getD (i - 1) .any = .v (.int .i64 (S.getD (i - 1) 0)) := by simp [List.getD, show i - 1 < S.length by omega, intA]
     refine Runs.draw (st1 := ?s3) (draws_by (ann := []) tabOk sched5 (by kernel_rfl) ?p3) ?q3
     case p3 =>
      intro K r X hK
      simp +decide (disch := first | omega | (simp only [ll]; omega)) only [if_pos, go_sem]
      refine Runs.call (l1In hm _ 1 _) ?_
      simp +decide (disch := first | omega | (simp only [ll]; omega)) only [hb, hd, ht, hg1, if_pos, go_sem]
      exact hK
     case q3 =>
      simp +decide (disch := first | omega | (simp only [ll]; omega)) only [if_pos, go_sem]
      refine Runs.split (fun h => ?_) (fun h => ?_)
      ·have e : crlOk I f t a S G = false := stop (by
        simp only [decide_eq_true_eq] at h
        rw [stepOk, hg, hb, decide_eq_false (by omega), decide_eq_false (by omega)]; rfl)
       simp +decide (disch := first | omega | (simp only [ll]; omega)) only [e, if_pos, go_sem]
       exact Runs.ret_v
      ·have e : stepOk S i = true := by
        simp only [decide_eq_false_iff_not] at h
        rw [stepOk, hg, hb, decide_eq_true (p := _ < _) (by omega), Bool.or_true]; rfl
       rw [e, Bool.true_and] at hr
       simp +decide (disch := first | omega | (simp only [ll]; omega)) only [if_pos, go_sem]
       refine ih (i + 1) _ (by omega) ⟨by omega, hr⟩ ?_
       simp [go_sem, ann5, st5]
  ·have hge : i = S.length := by simp at h; omega
   rw [stepsOk_end (by omega), stepsOk_eq] at hr
   simp +decide only [go_sem]
   refine Runs.call (l10Name hm I h1 h2) ?_
   simp +decide only [go_sem]
   refine Runs.split (fun e1 => ?_) (fun e1 => by simp +decide only [crlOk, e1, go_sem]; exact Runs.ret_v)
   simp +decide only [go_sem]
   refine Runs.call (l9Ok hm f) ?_
   simp +decide only [go_sem]
   refine Runs.split (fun e2 => ?_) (fun e2 => by simp +decide only [crlOk, e1, e2, go_sem]; exact Runs.ret_v)
   simp +decide only [go_sem]
   refine Runs.call (l9Ok hm t) ?_
   simp +decide only [go_sem]
   refine Runs.split (fun e3 => ?_) (fun e3 => by simp +decide only [crlOk, e1, e2, e3, go_sem]; exact Runs.ret_v)
   simp +decide only [go_sem]
   refine Runs.split (fun e4 => ?_) (fun e4 => by simp +decide only [crlOk, e1, e2, e3, e4, go_sem]; exact Runs.ret_v)
   simp +decide only [go_sem]
   refine Runs.call (l1In hm a 1 4) ?_
   simp +decide only [go_sem]
   refine Runs.split (fun e5 => ?_) (fun e5 => by simp +decide only [crlOk, e1, e2, e3, e4, e5, go_sem]; exact Runs.ret_v)
   simp +decide only [go_sem]
   refine Runs.split (fun e6 => ?_) (fun e6 => by simp +decide only [crlOk, e1, e2, e3, e4, e5, e6, go_sem]; exact Runs.ret_v)
   simp +decide only [go_sem]
   refine Runs.call (l1In hm G.length 1 64) ?_
   simp +decide only [crlOk, e1, e2, e3, e4, e5, e6, ← hr, go_sem]
   exact Runs.ret_v
end Go.Proofs.W

namespace Go.Proofs.W
open Go Go.AM
variable (hm : Try.prog.follows .mixedOrders = true)
def lowU (b : UInt8) : UInt8 := if 65 ≤ b.toNat ∧ b.toNat ≤ 90 then UInt8.ofNat (b.toNat + 32) else b
def lowerB (s : ByteArray) : ByteArray := mkS (s.data.toList.map lowU)
theorem lowU_nat (b : UInt8) : ((lowU b).toNat : Int) = if 65 ≤ (b.toNat : Int) ∧ (b.toNat : Int) ≤ 90 then (b.toNat : Int) + 32 else b.toNat := by
 unfold lowU
 have := UInt8.toNat_lt b
 by_cases h : 65 ≤ b.toNat ∧ b.toNat ≤ 90
 ·rw [if_pos h, if_pos (by omega)]
  rw [UInt8.toNat_ofNat_of_lt' (by show _ < 256; omega)]; omega
 ·rw [if_neg h, if_neg (by omega)]
theorem bytes_all (l : List UInt8) : (l.map byteA).all isByte = true := by
 rw [List.all_map, List.all_eq_true]
 intro b _
 have := UInt8.toNat_lt b
 simp [byteA, isByte]; omega
theorem bytes_back (l : List UInt8) : (l.map byteA).map AM.byteOf = l := by
 rw [List.map_map]
 conv => rhs; rw [← List.map_id l]
 refine List.map_congr_left fun b _ => ?_
 simp [byteA, AM.byteOf]
def lowRow (s : ByteArray) (i : Nat) : List A := ((s.data.toList.take i).map lowU).map byteA
theorem lowRow_zero (s : ByteArray) : lowRow s 0 = [] := by simp [lowRow]
theorem lowRow_all (s : ByteArray) : lowRow s s.size = (s.data.toList.map lowU).map byteA := by rw [lowRow, List.take_of_length_le (by rw [list_size]; exact Nat.le_refl _)]
def slAnn : Ann := [(0, [0, 3, 4])]
def slSt (s : ByteArray) (i : Nat) : St := ⟨[.v (.string s), .any, .any, .ms (.l 0) 0 i i, .v (.int .i64 i), .any, .any, .any, .any, .any, .any, .any, .any, .any, .any, .any, .any, .any, .any, .any, .any, .any, .any, .any, .any, .any, .any, .any, .any, .any, .any], [(0, ⟨true, 1, false, lowRow s i⟩)], []⟩
set_option maxHeartbeats 1000000 in
set_option maxRecDepth 10000 in
include hm in
theorem sLower (s : ByteArray) (h : s.size ≤ 1073741823) : Holds Try.prog 46 [.v (.string s)] [] (.v (.string (lowerB s))) [] := by
 refine holds_of (ann := slAnn) tabOk hm Try.func46 (by kernel_rfl) rfl ?_
 simp +decide only [Try.f46, go_sem]
 have hz := list_size s
 refine Runs.while (α := Nat) (slSt s) (fun i => s.size - i) (fun i => i ≤ s.size) 0 (by omega) ?_ ?_
 ·simp [go_sem, slAnn, slSt, lowRow_zero]
 ·intro i hi ih
  have hlen : (lowRow s i).length = i := by simp [lowRow]; omega
  simp +decide only [slSt, hlen, go_sem]
  refine Runs.split (fun h => ?_) (fun h => ?_)
  ·have hlt : i < s.data.toList.length := by simp at h; omega
   obtain ⟨c, hc⟩ : ∃ c, s.data.toList[i] = c := ⟨_, rfl⟩
   have hg : s.data.toList.getD i 0 = c := (getD_lt hlt).trans hc
   have hb := UInt8.toNat_lt c
   have hn := lowU_nat c
   have hnext : lowRow s i ++ [.v (.int .u8 ((lowU c).toNat : Int))] = lowRow s (i + 1) := by
    rw [lowRow, lowRow, List.take_succ_eq_append_getElem hlt, hc]; simp [byteA]
   simp +decide (disch := first | omega | (simp only [ll]; omega)) only [hg, hlen, if_pos, go_sem]
   cases h1 : decide ((c.toNat : Int) ≥ 65)
   ·have e : ((lowU c).toNat : Int) = c.toNat := by rw [hn, if_neg (by simp only [decide_eq_false_iff_not] at h1; omega)]
    rw [e] at hnext
    simp +decide (disch := first | omega | (simp only [ll]; omega)) only [hlen, if_pos, go_sem]
    refine ih (i + 1) _ (by omega) (by omega) ?_
    simp [go_sem, slAnn, slSt, hnext]
   ·simp +decide (disch := first | omega | (simp only [ll]; omega)) only [if_pos, go_sem]
    cases h2 : decide ((c.toNat : Int) ≤ 90)
    ·have e : ((lowU c).toNat : Int) = c.toNat := by rw [hn, if_neg (by simp only [decide_eq_false_iff_not] at h2; omega)]
     rw [e] at hnext
     simp +decide (disch := first | omega | (simp only [ll]; omega)) only [hlen, if_pos, go_sem]
     refine ih (i + 1) _ (by omega) (by omega) ?_
     simp [go_sem, slAnn, slSt, hnext]
    ·have e : ((lowU c).toNat : Int) = (c.toNat : Int) + 97 - 65 := by rw [hn, if_pos (by simp only [decide_eq_true_eq] at h1 h2; omega)]; omega
     rw [e] at hnext
     have w1 : IntKind.u8.wrap ((c.toNat : Int) + 97) = (c.toNat : Int) + 97 := by
      simp only [decide_eq_true_eq] at h1 h2; unfold IntKind.wrap; simp [IntKind.bits, IntKind.signed]; omega
     have w2 : IntKind.u8.wrap ((c.toNat : Int) + 97 - 65) = (c.toNat : Int) + 97 - 65 := by
      simp only [decide_eq_true_eq] at h1 h2; unfold IntKind.wrap; simp [IntKind.bits, IntKind.signed]; omega
     simp +decide (disch := first | omega | (simp only [ll]; omega)) only [hlen, w1, w2, if_pos, go_sem]
     refine ih (i + 1) _ (by omega) (by omega) ?_
     simp [go_sem, slAnn, slSt, hnext]
  ·have hge : i = s.size := by simp at h; omega
   subst hge
   have htk : List.take s.size (lowRow s s.size) = lowRow s s.size := List.take_of_length_le (by rw [hlen]; exact Nat.le_refl _)
   have ha : (lowRow s s.size).all isByte = true := by rw [lowRow_all]; exact bytes_all _
   have hbk : (lowRow s s.size).map AM.byteOf = s.data.toList.map lowU := by rw [lowRow_all]; exact bytes_back _
   have t0 : Int.toNat 0 = 0 := rfl
   simp +decide (disch := first | omega | (simp only [ll]; omega)) only [hlen, htk, ha, hbk, List.drop_zero, if_pos, go_sem]
   exact Runs.ret_eq rfl
def mixRow (s : ByteArray) (i : Nat) : List A := ((s.data.toList.take i).map lowU ++ s.data.toList.drop i).map byteA
theorem mixRow_zero (s : ByteArray) : mixRow s 0 = s.data.toList.map byteA := by simp [mixRow]
theorem mixRow_len {s : ByteArray} {i : Nat} (h : i ≤ s.size) : (mixRow s i).length = s.size := by simp only [mixRow, List.length_map, List.length_append, List.length_take, List.length_drop]; have := list_size s; omega
theorem mixRow_all (s : ByteArray) : mixRow s s.size = (s.data.toList.map lowU).map byteA := by
 rw [mixRow, List.take_of_length_le (by rw [list_size]; exact Nat.le_refl _), List.drop_of_length_le (by rw [list_size]; exact Nat.le_refl _), List.append_nil]
theorem mixRow_get {s : ByteArray} {i : Nat} (h : i < s.data.toList.length) : (mixRow s i).getD i .any = .v (.int .u8 (s.data.toList[i].toNat : Int)) := by
 have hl : ((s.data.toList.take i).map lowU).length = i := by rw [List.length_map, List.length_take]; omega
 rw [mixRow, List.getD, List.getElem?_map, List.getElem?_append_right (by omega), hl, Nat.sub_self, List.getElem?_drop, Nat.add_zero, List.getElem?_eq_getElem h]
 rfl
theorem mixRow_same {s : ByteArray} {i : Nat} (h : i < s.data.toList.length) (e : lowU s.data.toList[i] = s.data.toList[i]) : mixRow s i = mixRow s (i + 1) := by
 rw [mixRow, mixRow, List.drop_eq_getElem_cons h, List.take_succ_eq_append_getElem h]
 simp only [List.map_append, List.map_cons, List.map_nil, e, List.append_assoc, List.cons_append, List.nil_append]
theorem mixRow_set {s : ByteArray} {i : Nat} (h : i < s.data.toList.length) : (mixRow s i).set i (.v (.int .u8 ((lowU s.data.toList[i]).toNat : Int))) = mixRow s (i + 1) := by
 have hl : (((s.data.toList.take i).map lowU).map byteA).length = i := by rw [List.length_map, List.length_map, List.length_take]; omega
 rw [mixRow, mixRow, List.map_append, List.set_append_right _ _ (by omega), hl, Nat.sub_self, List.drop_eq_getElem_cons h, List.map_cons, List.set_cons_zero, List.take_succ_eq_append_getElem h]
 simp [byteA]
def ilwAnn : Ann := [(0, [0, 3, 8, 9, 10])]
def ilwSt (s : ByteArray) (i : Nat) : St := ⟨[.v (.string s), .any, .any, .ms (.l 0) 0 s.size s.size, .any, .any, .any, .any, .ms (.l 0) 0 s.size s.size, .v (.int .i64 s.size), .v (.int .i64 i), .any, .any, .any, .any, .any, .any, .any, .any, .any, .any, .any, .any, .any, .any, .any, .any, .any, .any, .any], [(0, ⟨true, 1, false, mixRow s i⟩)], []⟩
set_option maxHeartbeats 1000000 in
set_option maxRecDepth 10000 in
include hm in
theorem iLower (s : ByteArray) (h : s.size ≤ 1073741823) : Holds Try.prog 49 [.v (.string s)] [] (.v (.string (lowerB s))) [] := by
 refine holds_of (ann := ilwAnn) tabOk hm Try.func49 (by kernel_rfl) rfl ?_
 have hz := list_size s
 have hlz : (s.data.toList.map byteA).length = s.size := by rw [List.length_map, hz]
 simp +decide (disch := first | omega | (simp only [ll]; omega)) only [Try.f49, hlz, if_pos, go_sem]
 refine Runs.while (α := Nat) (ilwSt s) (fun i => s.size - i) (fun i => i ≤ s.size) 0 (by omega) ?_ ?_
 ·simp [go_sem, ilwAnn, ilwSt, mixRow_zero]
 ·intro i hi ih
  have hlen := mixRow_len hi
  simp +decide only [ilwSt, hlen, go_sem]
  refine Runs.split (fun h => ?_) (fun h => ?_)
  ·have hlt : i < s.data.toList.length := by simp at h; omega
   have hgt := mixRow_get hlt
   have hst := mixRow_set hlt
   have hsm := mixRow_same hlt
   have hn := lowU_nat s.data.toList[i]
   obtain ⟨c, hc⟩ : ∃ c, s.data.toList[i] = c := ⟨_, rfl⟩
   rw [hc] at hgt hst hsm hn
   have hb := UInt8.toNat_lt c
   simp +decide (disch := first | omega | (simp only [ll]; omega)) only [hlen, hgt, if_pos, go_sem]
   cases h1 : decide ((c.toNat : Int) ≥ 65)
   ·have e : lowU c = c := by unfold lowU; rw [if_neg (by simp only [decide_eq_false_iff_not] at h1; omega)]
    simp +decide (disch := first | omega | (simp only [ll]; omega)) only [hlen, if_pos, go_sem]
    refine ih (i + 1) _ (by omega) (by omega) ?_
    simp [go_sem, ilwAnn, ilwSt, hsm e]
   ·simp +decide (disch := first | omega | (simp only [ll]; omega)) only [if_pos, go_sem]
    cases h2 : decide ((c.toNat : Int) ≤ 90)
    ·have e : lowU c = c := by unfold lowU; rw [if_neg (by simp only [decide_eq_false_iff_not] at h2; omega)]
     simp +decide (disch := first | omega | (simp only [ll]; omega)) only [hlen, if_pos, go_sem]
     refine ih (i + 1) _ (by omega) (by omega) ?_
     simp [go_sem, ilwAnn, ilwSt, hsm e]
    ·have e : ((lowU c).toNat : Int) = (c.toNat : Int) + 97 - 65 := by rw [hn, if_pos (by simp only [decide_eq_true_eq] at h1 h2; omega)]; omega
     rw [e] at hst
     have w1 : IntKind.u8.wrap ((c.toNat : Int) + 97) = (c.toNat : Int) + 97 := by
      simp only [decide_eq_true_eq] at h1 h2; unfold IntKind.wrap; simp [IntKind.bits, IntKind.signed]; omega
     have w2 : IntKind.u8.wrap ((c.toNat : Int) + 97 - 65) = (c.toNat : Int) + 97 - 65 := by
      simp only [decide_eq_true_eq] at h1 h2; unfold IntKind.wrap; simp [IntKind.bits, IntKind.signed]; omega
     simp +decide (disch := first | omega | (simp only [ll]; omega)) only [hlen, hgt, hst, w1, w2, if_pos, go_sem]
     refine ih (i + 1) _ (by omega) (by omega) ?_
     simp [go_sem, ilwAnn, ilwSt, hst]
  ·have hge : i = s.size := by simp at h; omega
   subst hge
   have htk : List.take s.size (mixRow s s.size) = mixRow s s.size := List.take_of_length_le (by rw [hlen]; exact Nat.le_refl _)
   have ha : (mixRow s s.size).all isByte = true := by rw [mixRow_all]; exact bytes_all _
   have hbk : (mixRow s s.size).map AM.byteOf = s.data.toList.map lowU := by rw [mixRow_all]; exact bytes_back _
   simp +decide (disch := first | omega | (simp only [ll]; omega)) only [hlen, htk, ha, hbk, List.drop_zero, if_pos, go_sem]
   exact Runs.ret_eq rfl
end Go.Proofs.W

namespace Go.Proofs.W
open Go Go.AM Go.RowKit Go.Shelf
variable (hm : Try.prog.follows .mixedOrders = true)
def joinB (ss : List ByteArray) (sep : ByteArray) : ByteArray := ⟨(Lib.join (ss.map (·.data.toList)) sep.data.toList).toArray⟩
set_option maxRecDepth 100000 in
theorem lay156X : Builder.Extra Try.prog lay156_ren where
 sizeBuilder := by kernel_rfl
 liesBuilder := by kernel_rfl
 t5 := Try.underlying5
 a5 := Try.isAgg5
 z5 := Try.sizeOf5
 v5 := Try.zeroValue5
 infoByte := by kernel_rfl
 cellsByte := by kernel_rfl
 sizeByte := by kernel_rfl
 neB5 := by decide
theorem joinH (ss : List ByteArray) (sep : ByteArray) (hN : ss.length ≤ 140737488355328) (hlen : (Lib.join (ss.map (·.data.toList)) sep.data.toList).length ≤ 140737488355328) :
  Holds Try.prog 51 [.sl .sh (ss.map strA), .v (.string sep)] [] (.v (.string (joinB ss sep))) [] where
 fn := ⟨_, _, Try.func51, by kernel_rfl, rfl⟩
 calls := by
  intro C w xs fx fa hF hB hI hX hM hle hno hR
  have hx : ∀ b, fx b = 0 := by
   have hM : MemR C w [] fx := hM
   cases hM with | nil h => exact h
  have main : Calls Try.prog 51 xs.toArray w fun e w' => e = .returned (.string (joinB ss sep)) ∧ Below w.heap.size w w' := by
   generalize hes : ss.map strA = es at hR
   cases hR with
   | nils h =>
    cases h with
    | v h =>
     cases h with
     | nil h =>
      have : ss = [] := List.map_eq_nil_iff.mp hes
      subst this
      exact (Any.strings_Join_none lay156 lay156X _ _ sep w).mono fun e w' ⟨he, hw⟩ => ⟨he, hw ▸ Below.refl _ _⟩
   | sl hrow hsp hk hcap hsz hI' hs ho hf h1 h =>
    rename_i a cap k c e fz r1 f1
    cases h with
    | v h =>
     cases h with
     | nil h =>
      subst hes
      rw [flat_strA] at h1
      have hk1 : (ss.map strA).length * k = ss.length := by
       rw [List.length_map]
       cases ss with
       | nil => simp
       | cons s l =>
        have := hk (strA s) (by simp)
        have : k = 1 := by rw [← this]; rfl
        rw [this, Nat.mul_one]
      rw [hk1] at h1
      obtain ⟨e1, _⟩ := repL_vs h1
      have hcells : ∀ (j : Nat) x, ss[j]? = some x → w.cell? ⟨a.block, a.off + j, none⟩ = some (.string x) := by
       intro j x hj
       have e2 : ((c.toList.drop a.off).take ss.length)[j]? = some (.string x) := by rw [e1, List.getElem?_map, hj]; rfl
       have hjl := (List.getElem?_eq_some_iff.mp hj).1
       rw [List.getElem?_take_of_lt hjl, List.getElem?_drop, Array.getElem?_toList] at e2
       simp only [World.cell?, hrow]
       exact e2
      have ha : a = ⟨a.block, a.off, none⟩ := by cases a; simp at hsp; rw [hsp]
      have hbk : a.block < w.heap.size := (Array.getElem?_eq_some_iff.mp hrow).1
      rw [ha, List.length_map]
      rw [List.length_map] at hcap
      exact Any.strings_Join lay156 lay156X a.block a.off cap ss sep w hcells hbk hN hcap hlen
  refine main.mono ?_
  rintro e w' ⟨rfl, hb⟩
  exact ⟨C, fun _ => 0, fun _ => 0, Ctx.ToX.refl C, rfl, hB, fun _ h => h, fun _ h => .inl h, fun b h => Nat.lt_of_lt_of_le (hI b h) hb.size, hX, ⟨hb.os, hb.tape, hb.output, hb.size, fun b h _ => hb.block b h⟩, .nil fun _ => rfl, .v (.nil fun _ => rfl), fun _ => Nat.zero_le _, fun b hb => absurd hb (by simp)⟩
end Go.Proofs.W

namespace Go.Proofs.W
open Go Go.AM
variable (hm : Try.prog.follows .mixedOrders = true)
def colStep (out : List UInt8) (prev b : UInt8) : List UInt8 := if b = 32 then out else (if out ≠ [] ∧ prev = 32 then out ++ [32] else out) ++ [b]
def colG : List UInt8 → UInt8 → List UInt8 → List UInt8
 | out, _, [] => out
 | out, prev, b :: r => colG (colStep out prev b) b r
theorem colStep_nil (p q b : UInt8) : colStep [] p b = colStep [] q b := by simp [colStep]
theorem colG_nil (p q : UInt8) (l : List UInt8) : colG [] p l = colG [] q l := by
 cases l with
 | nil => rfl
 | cons b r => rw [colG, colG, colStep_nil p q]
def plainB (s : ByteArray) : ByteArray := lowerB (mkS (colG [] 0 s.data.toList))
def lplAnn : Ann := [(0, [0, 3, 4])]
def lplSt (s : ByteArray) (p : Nat × List UInt8) : St := ⟨[.v (.string s), .any, .any, .ms (.l 0) 0 p.2.length p.2.length, .v (.int .i64 p.1), .any, .any, .any, .any, .any, .any, .any, .any, .any, .any, .any, .any, .any, .any, .any, .any, .any, .any, .any, .any, .any, .any, .any, .any, .any, .any, .any, .any, .any, .any, .any, .any, .any], [(0, ⟨true, 1, false, p.2.map byteA⟩)], []⟩
set_option maxHeartbeats 1000000 in
set_option maxRecDepth 10000 in
include hm in
theorem l10Plain (s : ByteArray) (h : s.size ≤ 1048576) : Holds Try.prog 33 [.v (.string s)] [] (.v (.string (plainB s))) [] := by
 refine holds_of (ann := lplAnn) tabOk hm Try.func33 (by kernel_rfl) rfl ?_
 simp +decide only [Try.f33, go_sem]
 have hz := list_size s
 refine Runs.while (α := Nat × List UInt8) (lplSt s) (fun p => s.size - p.1) (fun p => p.1 ≤ s.size ∧ p.2.length ≤ 2 * p.1 ∧ (p.1 = 0 → p.2 = []) ∧ colG p.2 (s.data.toList.getD (p.1 - 1) 0) (s.data.toList.drop p.1) = colG [] 0 s.data.toList) (0, []) ⟨Nat.zero_le _, Nat.zero_le _, fun _ => rfl, by simp only [List.drop_zero]; exact colG_nil _ _ _⟩ ?_ ?_
 ·simp [go_sem, lplAnn, lplSt]
 ·rintro ⟨i, out⟩ ⟨hi, ho, h0, hr⟩ ih
  simp only at hi ho h0 hr
  have hlen : (out.map byteA).length = out.length := List.length_map _
  simp +decide only [lplSt, hlen, go_sem]
  refine Runs.split (fun h => ?_) (fun h => ?_)
  ·have hlt : i < s.data.toList.length := by simp at h; omega
   obtain ⟨c, hc⟩ : ∃ c, s.data.toList[i] = c := ⟨_, rfl⟩
   have hg : s.data.toList.getD i 0 = c := (getD_lt hlt).trans hc
   rw [List.drop_eq_getElem_cons hlt, hc, colG] at hr
   have hb := UInt8.toNat_lt c
   have hprev : s.data.toList.getD (i + 1 - 1) 0 = c := by rw [Nat.add_sub_cancel]; exact hg
   have go : ∀ out2 : List UInt8, colStep out (s.data.toList.getD (i - 1) 0) c = out2 → colG out2 (s.data.toList.getD (i + 1 - 1) 0) (s.data.toList.drop (i + 1)) = colG [] 0 s.data.toList := by
    intro out2 e; rw [hprev, ← e]; exact hr
   simp +decide (disch := first | omega | (simp only [ll]; omega)) only [hg, hlen, if_pos, go_sem]
   cases h1 : decide ((c.toNat : Int) = 32)
   ·have hc32 : c ≠ 32 := by intro e; subst e; simp at h1
    simp +decide (disch := first | omega | (simp only [ll]; omega)) only [hlen, if_pos, go_sem]
    cases h2 : decide ((out.length : Int) > 0)
    ·have hnil : out = [] := by
      have : out.length = 0 := by simp only [decide_eq_false_iff_not] at h2; omega
      exact List.length_eq_zero_iff.mp this
     subst hnil
     simp +decide (disch := first | omega | (simp only [ll]; omega)) only [hg, hlen, List.length_nil, List.map_nil, if_pos, go_sem]
     refine ih (i + 1, [c]) _ (by simp only; omega) ⟨by simp only; omega, by simp only [List.length_cons, List.length_nil]; omega, by simp, go [c] (by simp [colStep, hc32])⟩ ?_
     simp [go_sem, lplAnn, lplSt, byteA]
    ·have hne : out ≠ [] := by intro e; subst e; simp at h2
     have hi1 : 1 ≤ i := by
      rcases Nat.eq_zero_or_pos i with e | e
      ·exact absurd (h0 e) hne
      ·exact e
     have ht : ((i : Int) - 1).toNat = i - 1 := by omega
     have hb1 : decide (0 ≤ (i : Int) - 1 ∧ (i : Int) - 1 < s.size) = true := by simp; omega
     obtain ⟨p, hp⟩ : ∃ p, s.data.toList.getD (i - 1) 0 = p := ⟨_, rfl⟩
     rw [hp] at go
     simp +decide (disch := first | omega | (simp only [ll]; omega)) only [ht, hb1, hp, if_pos, go_sem]
     cases h3 : decide ((p.toNat : Int) = 32)
     ·have hp32 : p ≠ 32 := by intro e; subst e; simp at h3
      simp +decide (disch := first | omega | (simp only [ll]; omega)) only [hg, hlen, if_pos, go_sem]
      refine ih (i + 1, out ++ [c]) _ (by simp only; omega) ⟨by simp only; omega, by simp only [List.length_append, List.length_cons, List.length_nil]; omega, by simp, go _ (by simp [colStep, hc32, hp32])⟩ ?_
      simp [go_sem, lplAnn, lplSt, byteA]
     ·have hp32 : p = 32 := by
       simp only [decide_eq_true_eq] at h3
       exact UInt8.toNat_inj.mp (Int.ofNat.inj h3)
      have hl2 : (out.map byteA ++ [A.v (.int .u8 32)]).length = out.length + 1 := by simp
      simp +decide (disch := first | omega | (simp only [ll]; omega)) only [hg, hlen, hl2, if_pos, go_sem]
      refine ih (i + 1, out ++ [32] ++ [c]) _ (by simp only; omega) ⟨by simp only; omega, by simp only [List.length_append, List.length_cons, List.length_nil]; omega, by simp, go _ (by simp [colStep, hc32, hp32, hne])⟩ ?_
      simp [go_sem, lplAnn, lplSt, byteA]
   ·have hc32 : c = 32 := by
     simp only [decide_eq_true_eq] at h1
     exact UInt8.toNat_inj.mp (Int.ofNat.inj h1)
    simp +decide (disch := first | omega | (simp only [ll]; omega)) only [hlen, if_pos, go_sem]
    refine ih (i + 1, out) _ (by simp only; omega) ⟨by simp only; omega, by simp only; omega, by simp, go out (by simp [colStep, hc32])⟩ ?_
    simp [go_sem, lplAnn, lplSt]
  ·have hge : i = s.size := by simp at h; omega
   rw [hge, List.drop_of_length_le (by omega), colG] at hr
   have htk : List.take out.length (out.map byteA) = out.map byteA := List.take_of_length_le (by rw [hlen]; exact Nat.le_refl _)
   have ha := bytes_all out
   have hbk := bytes_back out
   simp +decide (disch := first | omega | (simp only [ll]; omega)) only [hlen, htk, ha, hbk, List.drop_zero, if_pos, go_sem]
   have c := sLower hm (mkS out) (by rw [mkS_size]; omega)
   rw [mkS] at c
   refine Runs.call c ?_
   simp +decide only [go_sem]
   exact Runs.ret_eq (by rw [plainB, ← hr]; rfl)
end Go.Proofs.W

namespace Go.Proofs.W
open Go Go.AM
variable (hm : Try.prog.follows .mixedOrders = true)
theorem lowerB_size (s : ByteArray) : (lowerB s).size = s.size := by rw [lowerB, mkS_size, List.length_map, list_size]
theorem colG_len : ∀ (l out : List UInt8) (p : UInt8), (colG out p l).length ≤ out.length + 2 * l.length
 | [], out, p => by simp [colG]
 | b :: r, out, p => by
  have := colG_len r (colStep out p b) b
  rw [colG]
  have h2 : (colStep out p b).length ≤ out.length + 2 := by
   unfold colStep
   split
   ·omega
   ·split <;> simp
  simp only [List.length_cons]; omega
theorem plainB_size (s : ByteArray) : (plainB s).size ≤ 2 * s.size := by
 rw [plainB, lowerB_size, mkS_size]
 have := colG_len s.data.toList [] 0
 rw [list_size] at this
 simpa using this
def PlainLaw : Prop := ∀ s : ByteArray, joinB (Lib.goFieldsP spP (lowerB s)) ⟨#[32]⟩ = plainB s
theorem fields_len (s : ByteArray) (hl : PlainLaw) : (Lib.join ((Lib.goFieldsP spP (lowerB s)).map (·.data.toList)) [32]).length = (plainB s).size := by
 rw [← hl s, joinB]; simp [ByteArray.size]
set_option maxRecDepth 10000 in
include hm in
theorem iPlain (hl : PlainLaw) (s : ByteArray) (h : s.size ≤ 1048576) (hf : (Lib.goFieldsP spP (lowerB s)).length ≤ 140737488355328) : Holds Try.prog 41 [.v (.string s)] [] (.v (.string (plainB s))) [] := by
 refine holds_of (ann := []) tabOk hm Try.func41 (by kernel_rfl) rfl ?_
 simp +decide only [Try.f41, go_sem]
 refine Runs.call (iLower hm s (by omega)) ?_
 simp +decide only [go_sem]
 refine Runs.call (fieldsH (lowerB s) (by rw [lowerB_size]; exact h)) ?_
 simp +decide only [go_sem]
 have hp := plainB_size s
 refine Runs.call (joinH (Lib.goFieldsP spP (lowerB s)) ⟨#[32]⟩ hf (by have := fields_len s hl; show (Lib.join _ [32]).length ≤ _; rw [this]; omega)) ?_
 simp +decide only [go_sem]
 exact Runs.ret_eq (by rw [hl s])
end Go.Proofs.W

namespace Go.Proofs.W
open Go Go.AM
theorem get_list {s : ByteArray} {i : Nat} (hi : i < s.size) : s.get! i = s.data.toList.getD i 0 := by
 have h2 : i < s.data.toList.length := by rw [list_size]; exact hi
 rw [getD_lt h2, Array.getElem_toList]
 show s.data[i]! = _
 rw [getElem!_pos s.data i (by simpa using h2)]
theorem dec_space {s : ByteArray} {i : Nat} (hi : i < s.size) (h : (s.data.toList.getD i 0).toNat = 32) : Utf8.decode s i = (32, 1) := by
 have e : (s.get! i).toNat = 32 := by rw [get_list hi]; exact h
 unfold Utf8.decode
 simp [e]
theorem dec_other {s : ByteArray} {i : Nat} (hi : i < s.size) (h : (s.data.toList.getD i 0).toNat ≠ 32) :
  (Utf8.decode s i).1 ≠ 32 ∧ 1 ≤ (Utf8.decode s i).2 ∧ i + (Utf8.decode s i).2 ≤ s.size ∧ ∀ k, k < (Utf8.decode s i).2 → (s.data.toList.getD (i + k) 0).toNat ≠ 32 := by
 have e : (s.get! (i + 0)).toNat ≠ 32 := by rw [Nat.add_zero, get_list hi]; exact h
 have one : ∀ k, k < 1 → (s.data.toList.getD (i + k) 0).toNat ≠ 32 := fun k hk => by
  have : k = 0 := by omega
  subst this; exact h
 have more : ∀ k, (decide (i + k < s.size) && (s.get! (i + k)).toNat / 64 == 2) = true → i + k < s.size ∧ (s.data.toList.getD (i + k) 0).toNat ≠ 32 := by
  intro k hk
  simp only [Bool.and_eq_true, decide_eq_true_eq, beq_iff_eq] at hk
  refine ⟨hk.1, ?_⟩
  rw [← get_list hk.1]; omega
 unfold Utf8.decode
 simp only
 split
 ·exact ⟨e, Nat.le_refl _, by omega, one⟩
 split
 ·rename_i h2
  rw [Bool.and_eq_true] at h2
  have m1 := more 1 h2.2
  split
  ·refine ⟨by simp only; omega, by simp, by simp only; omega, fun k hk => ?_⟩
   simp only at hk
   rcases (show k = 0 ∨ k = 1 by omega) with rfl | rfl
   ·exact h
   ·exact m1.2
  ·exact ⟨by decide, Nat.le_refl _, by simp only; omega, one⟩
 split
 ·rename_i h2
  simp only [Bool.and_eq_true] at h2
  have m1 := more 1 (by simp only [Bool.and_eq_true]; exact h2.1.2)
  have m2 := more 2 (by simp only [Bool.and_eq_true]; exact h2.2)
  split
  ·rename_i h3
   simp only [Bool.and_eq_true, decide_eq_true_eq] at h3
   refine ⟨by simp only; omega, by simp, by simp only; omega, fun k hk => ?_⟩
   simp only at hk
   rcases (show k = 0 ∨ k = 1 ∨ k = 2 by omega) with rfl | rfl | rfl
   ·exact h
   ·exact m1.2
   ·exact m2.2
  ·exact ⟨by decide, Nat.le_refl _, by simp only; omega, one⟩
 split
 ·rename_i h2
  simp only [Bool.and_eq_true] at h2
  have m1 := more 1 (by simp only [Bool.and_eq_true]; exact h2.1.1.2)
  have m2 := more 2 (by simp only [Bool.and_eq_true]; exact h2.1.2)
  have m3 := more 3 (by simp only [Bool.and_eq_true]; exact h2.2)
  split
  ·rename_i h3
   simp only [Bool.and_eq_true, decide_eq_true_eq] at h3
   refine ⟨by simp only; omega, by simp, by simp only; omega, fun k hk => ?_⟩
   simp only at hk
   rcases (show k = 0 ∨ k = 1 ∨ k = 2 ∨ k = 3 by omega) with rfl | rfl | rfl | rfl
   ·exact h
   ·exact m1.2
   ·exact m2.2
   ·exact m3.2
  ·exact ⟨by decide, Nat.le_refl _, by simp only; omega, one⟩
 ·exact ⟨by decide, Nat.le_refl _, by simp only; omega, one⟩
theorem lowU_32 (b : UInt8) : lowU b = 32 ↔ b = 32 := by
 have h := lowU_nat b
 constructor
 ·intro e
  rw [e] at h
  have h2 : (b.toNat : Int) = 32 := by
   split at h
   ·have : ((32 : UInt8).toNat : Int) = 32 := rfl
    omega
   ·exact h.symm
  exact UInt8.toNat_inj.mp (Int.ofNat.inj h2)
 ·intro e; subst e; rfl
theorem colG_low : ∀ (l out : List UInt8) (p : UInt8), (colG out p l).map lowU = colG (out.map lowU) (lowU p) (l.map lowU)
 | [], out, p => rfl
 | b :: r, out, p => by
  rw [colG, List.map_cons, colG, colG_low r]
  congr 1
  unfold colStep
  by_cases hb : b = 32
  ·rw [if_pos hb, if_pos ((lowU_32 b).mpr hb)]
  ·rw [if_neg hb, if_neg (fun e => hb ((lowU_32 b).mp e))]
   by_cases hp : out ≠ [] ∧ p = 32
   ·rw [if_pos hp, if_pos ⟨by simpa using hp.1, (lowU_32 p).mpr hp.2⟩]
    simp; rfl
   ·rw [if_neg hp, if_neg (fun e => hp ⟨by simpa using e.1, (lowU_32 p).mp e.2⟩)]
    simp
theorem colG_run : ∀ (r out rest : List UInt8) (p : UInt8), out ≠ [] → p ≠ 32 → (∀ b ∈ r, b ≠ 32) → colG out p (r ++ rest) = colG (out ++ r) ((p :: r).getLast (by simp)) rest
 | [], out, rest, p, _, _, _ => by simp
 | b :: r, out, rest, p, h1, h2, h3 => by
  have hb := h3 b (by simp)
  rw [List.cons_append, colG]
  have e : colStep out p b = out ++ [b] := by simp [colStep, hb, h2]
  rw [e, colG_run r (out ++ [b]) rest b (by simp) hb (fun x hx => h3 x (by simp [hx]))]
  simp
def joinL (A : List (List UInt8)) : List UInt8 := Lib.join A [32]
theorem joinL_snoc (A : List (List UInt8)) (x : List UInt8) : joinL (A ++ [x]) = if A = [] then x else joinL A ++ [32] ++ x := by
 induction A with
 | nil => simp [joinL, Lib.join, List.intercalate]
 | cons a A ih =>
  rw [if_neg (by simp)]
  cases A with
  | nil => simp [joinL, Lib.join, List.intercalate]
  | cons b B =>
   rw [if_neg (by simp)] at ih
   have e : ∀ C : List (List UInt8), joinL (a :: b :: C) = a ++ [32] ++ joinL (b :: C) := by intro C; simp [joinL, Lib.join, List.intercalate]
   rw [List.cons_append, List.cons_append, e, ← List.cons_append, ih, e]
   simp
def pcs (s : ByteArray) (acc : List (Nat × Nat)) : List (List UInt8) := acc.map fun x => (s.extract x.1 x.2).data.toList
theorem pcs_snoc (s : ByteArray) (acc : List (Nat × Nat)) (a b : Nat) : pcs s (acc ++ [(a, b)]) = pcs s acc ++ [(s.data.toList.drop a).take (b - a)] := by
 simp only [pcs, List.map_append, List.map_cons, List.map_nil, ext_list]
def Stand (s : ByteArray) (pos : Nat) (st : Option Nat) (acc : List (Nat × Nat)) (out : List UInt8) (prev : UInt8) : Prop :=
 match st with
 | none => out = joinL (pcs s acc) ∧ (pcs s acc ≠ [] → out ≠ [] ∧ prev = 32)
 | some a => a < pos ∧ out = joinL (pcs s acc ++ [(s.data.toList.drop a).take (pos - a)]) ∧ out ≠ [] ∧ prev ≠ 32
theorem sp_succ (p : Nat → Bool) (s : ByteArray) (f pos : Nat) (st : Option Nat) (acc : List (Nat × Nat)) : Lib.spansFromP p s (f + 1) pos st acc =
  if pos < s.size then (if p (Utf8.decode s pos).1 = true then Lib.spansFromP p s f (pos + (Utf8.decode s pos).2) none (match st with | some a => acc ++ [(a, pos)] | none => acc)
   else Lib.spansFromP p s f (pos + (Utf8.decode s pos).2) (match st with | some a => some a | none => some pos) acc) else (acc, st) := by
 cases st <;> rfl
theorem colStep_32 (out : List UInt8) (p : UInt8) : colStep out p 32 = out := by simp [colStep]
theorem fields_go (s : ByteArray) : ∀ (f pos : Nat) (st : Option Nat) (acc : List (Nat × Nat)) (out : List UInt8) (prev : UInt8), s.size - pos ≤ f → pos ≤ s.size → Stand s pos st acc out prev →
  joinL (pcs s (Lib.closeSpans s (Lib.spansFromP spP s f pos st acc))) = colG out prev (s.data.toList.drop pos) := by
 have hz := list_size s
 have fin : ∀ (pos : Nat) (st : Option Nat) (acc : List (Nat × Nat)) (out : List UInt8) (prev : UInt8), pos = s.size → Stand s pos st acc out prev → joinL (pcs s (Lib.closeSpans s (acc, st))) = colG out prev (s.data.toList.drop pos) := by
  intro pos st acc out prev hp h
  rw [List.drop_of_length_le (by omega), colG]
  cases st with
  | none => exact h.1.symm
  | some a => simp only [Lib.closeSpans]; rw [pcs_snoc, ← hp]; exact h.2.1.symm
 intro f
 induction f with
 | zero =>
  intro pos st acc out prev hf hp h
  show joinL (pcs s (Lib.closeSpans s (acc, st))) = _
  exact fin pos st acc out prev (by omega) h
 | succ f ih =>
  intro pos st acc out prev hf hp h
  rw [sp_succ]
  by_cases hlt : pos < s.size
  ·rw [if_pos hlt]
   have hl : pos < s.data.toList.length := by omega
   have hg := getD_lt hl
   by_cases h32 : (s.data.toList.getD pos 0).toNat = 32
   ·rw [dec_space hlt h32, if_pos (by simp [spP])]
    have hb : s.data.toList[pos] = 32 := by rw [← hg]; exact UInt8.toNat_inj.mp h32
    rw [List.drop_eq_getElem_cons hl, hb, colG, colStep_32]
    cases st with
    | none => exact ih (pos + 1) none acc out 32 (by omega) (by omega) ⟨h.1, fun hne => ⟨(h.2 hne).1, rfl⟩⟩
    | some a => exact ih (pos + 1) none (acc ++ [(a, pos)]) out 32 (by omega) (by omega) ⟨by rw [pcs_snoc]; exact h.2.1, fun _ => ⟨h.2.2.1, rfl⟩⟩
   ·obtain ⟨d1, d2, d3, d4⟩ := dec_other hlt h32
    generalize hw : (Utf8.decode s pos).2 = w at *
    rw [if_neg (by simpa [spP] using d1)]
    have hsplit : s.data.toList.drop pos = (s.data.toList.drop pos).take w ++ s.data.toList.drop (pos + w) := by
     rw [← List.drop_drop, List.take_append_drop]
    have hr : ∀ b ∈ (s.data.toList.drop pos).take w, b ≠ 32 := by
     intro b hb e
     obtain ⟨k, hk, e2⟩ := List.getElem_of_mem hb
     simp only [List.length_take, List.length_drop] at hk
     have := d4 k (by omega)
     rw [getD_lt (by omega)] at this
     rw [List.getElem_take, List.getElem_drop] at e2
     rw [e2, e] at this
     exact this rfl
    have hlast : ∀ p : UInt8, p ≠ 32 → (p :: (s.data.toList.drop pos).take w).getLast (by simp) ≠ 32 := by
     intro p hp e
     rcases List.mem_cons.mp (List.getLast_mem (l := p :: (s.data.toList.drop pos).take w) (by simp)) with h1 | h1
     ·exact hp (h1.symm.trans e)
     ·exact hr _ h1 e
    cases st with
    | some a =>
     obtain ⟨h1, h2, h3, h4⟩ := h
     rw [hsplit, colG_run _ out _ prev h3 h4 hr]
     refine ih (pos + w) (some a) acc _ _ (by omega) (by omega) ⟨by omega, ?_, by simp [h3], hlast prev h4⟩
     have e : (s.data.toList.drop a).take (pos + w - a) = (s.data.toList.drop a).take (pos - a) ++ (s.data.toList.drop pos).take w := by
      rw [show pos + w - a = (pos - a) + w by omega, List.take_add, List.drop_drop, show a + (pos - a) = pos by omega]
     rw [h2, e, joinL_snoc, joinL_snoc]
     split <;> simp
    | none =>
     obtain ⟨h1, h2⟩ := h
     have hc : s.data.toList[pos] ≠ 32 := by rw [← hg]; intro e; exact h32 (by rw [e]; rfl)
     obtain ⟨r, hr2⟩ : ∃ r, (s.data.toList.drop pos).take w = s.data.toList[pos] :: r := by
      rw [List.drop_eq_getElem_cons hl]
      obtain ⟨w', rfl⟩ : ∃ w', w = w' + 1 := ⟨w - 1, by omega⟩
      exact ⟨_, rfl⟩
     have key : colStep out prev s.data.toList[pos] = (if pcs s acc = [] then [] else joinL (pcs s acc) ++ [32]) ++ [s.data.toList[pos]] := by
      unfold colStep
      rw [if_neg hc]
      by_cases hA : pcs s acc = []
      ·have ho : out = [] := by rw [h1, hA]; rfl
       rw [if_pos hA, if_neg (by simp [ho]), ho]
      ·obtain ⟨q1, q2⟩ := h2 hA
       rw [if_neg hA, if_pos ⟨q1, q2⟩, h1]
     rw [hsplit, hr2, List.cons_append, colG, key]
     rw [colG_run r _ _ _ (by simp) hc (fun b hb => hr b (by rw [hr2]; simp [hb]))]
     refine ih (pos + w) (some pos) acc _ _ (by omega) (by omega) ⟨by omega, ?_, by simp, ?_⟩
     ·rw [show pos + w - pos = w by omega, hr2, joinL_snoc]
      split <;> simp
     ·intro e
      rcases List.mem_cons.mp (List.getLast_mem (l := s.data.toList[pos] :: r) (by simp)) with h1 | h1
      ·exact hc (h1.symm.trans e)
      ·exact hr _ (by rw [hr2]; simp [h1]) e
  ·rw [if_neg hlt]
   exact fin pos st acc out prev (by omega) h
theorem plainLaw : PlainLaw := by
 intro s
 have h := fields_go (lowerB s) (lowerB s).size 0 none [] [] 0 (by omega) (Nat.zero_le _) ⟨rfl, fun h => absurd rfl h⟩
 have e : joinB (Lib.goFieldsP spP (lowerB s)) ⟨#[32]⟩ = mkS (joinL (pcs (lowerB s) (Lib.closeSpans (lowerB s) (Lib.spansFromP spP (lowerB s) (lowerB s).size 0 none [])))) := by
  unfold joinB Lib.goFieldsP Lib.spansOfP pcs joinL mkS
  rw [List.map_map]; rfl
 have e2 : (lowerB s).data.toList = s.data.toList.map lowU := by rw [lowerB, mkS_data]
 have e3 : plainB s = mkS ((colG [] 0 s.data.toList).map lowU) := by rw [plainB]; conv => lhs; rw [lowerB, mkS_data]
 rw [List.drop_zero, e2] at h
 rw [e, h, e3, colG_low]
 first | done | (congr 1; exact colG_nil _ _ _) | rfl
end Go.Proofs.W

namespace Go.Proofs.W
open Go Go.AM
set_option maxRecDepth 10000
variable (hm : Try.prog.follows .mixedOrders = true)
theorem sp_len (p : Nat → Bool) (s : ByteArray) : ∀ (f pos : Nat) (st : Option Nat) (acc : List (Nat × Nat)), (Lib.closeSpans s (Lib.spansFromP p s f pos st acc)).length ≤ acc.length + f + 1 := by
 have fin : ∀ (st : Option Nat) (acc : List (Nat × Nat)), (Lib.closeSpans s (acc, st)).length ≤ acc.length + 1 := by
  intro st acc; cases st <;> simp [Lib.closeSpans]
 intro f
 induction f with
 | zero => intro pos st acc; exact fin st acc
 | succ f ih =>
  intro pos st acc
  rw [sp_succ]
  split
  ·split
   ·refine Nat.le_trans (ih _ _ _) ?_
    cases st <;> simp <;> omega
   ·refine Nat.le_trans (ih _ _ _) ?_
    omega
  ·have := fin st acc; omega
theorem fields_le (s : ByteArray) : (Lib.goFieldsP spP s).length ≤ s.size + 1 := by
 rw [Lib.goFieldsP, List.length_map, Lib.spansOfP]
 have := sp_len spP s s.size 0 none []
 simpa using this
include hm in
theorem iPlain' (s : ByteArray) (h : s.size ≤ 1048576) : Holds Try.prog 41 [.v (.string s)] [] (.v (.string (plainB s))) [] :=
 iPlain hm plainLaw s h (by have := fields_le (lowerB s); rw [lowerB_size] at this; omega)
include hm in
theorem nameSame1 (a b : ByteArray) (ha : a.size ≤ 1048576) (hb : b.size ≤ 1048576) : Holds Try.prog 40 [.v (.string a), .v (.string b)] [] (.v (.bool ((plainB a).toList == (plainB b).toList))) [] := by
 refine holds_of (ann := []) tabOk hm Try.func40 (by kernel_rfl) rfl ?_
 simp +decide only [Try.f40, go_sem]
 refine Runs.call (iPlain' hm a ha) ?_
 simp +decide only [go_sem]
 refine Runs.call (iPlain' hm b hb) ?_
 simp +decide only [go_sem]
 exact Runs.ret_v
def sameB (a b : List ByteArray) : Bool := decide (a.length = b.length) && (List.range a.length).all fun i => (plainB (a.getD i ⟨#[]⟩)).toList == (plainB (b.getD i ⟨#[]⟩)).toList
def sameFrom (a b : List ByteArray) (i : Nat) : Bool := (List.range' i (a.length - i)).all fun i => (plainB (a.getD i ⟨#[]⟩)).toList == (plainB (b.getD i ⟨#[]⟩)).toList
theorem sameFrom_succ {a b : List ByteArray} {i : Nat} (h : i < a.length) : sameFrom a b i = (((plainB (a.getD i ⟨#[]⟩)).toList == (plainB (b.getD i ⟨#[]⟩)).toList) && sameFrom a b (i + 1)) := by
 unfold sameFrom
 obtain ⟨k, hk⟩ : ∃ k, a.length - i = k + 1 := ⟨a.length - i - 1, by omega⟩
 rw [hk, List.range'_succ, List.all_cons, show a.length - (i + 1) = k by omega]
theorem sameFrom_end {a b : List ByteArray} : sameFrom a b a.length = true := by unfold sameFrom; rw [Nat.sub_self]; rfl
theorem sameFrom_zero {a b : List ByteArray} (h : a.length = b.length) : sameB a b = sameFrom a b 0 := by
 rw [sameB, decide_eq_true h, Bool.true_and, sameFrom, List.range_eq_range', Nat.sub_zero]
def nmAnn : Ann := [(0, [0, 1, 5])]
def nmSt (a b : List ByteArray) (i : Nat) : St := ⟨[.sl .sh (a.map strA), .sl .sh (b.map strA), .any, .any, .any, .v (.int .i64 i), .any, .any, .any, .any, .any, .any, .any, .any, .any, .any, .any, .any, .any, .any, .any, .any, .any, .any, .any, .any, .any, .any, .any, .any, .any, .any, .any, .any, .any], [], []⟩
def nmS : Sched := .take 0 (.take 1 (.take 2 (.take 5 (.take 6 (.take 7 (.ld 3 (.ld 8 (.alt 4 (.alt 9 (.take 10 .fin) .nil) .nil))))))))
attribute [local go_sem] nmS
set_option maxHeartbeats 1000000 in
include hm in
theorem sNameSame (a b : List ByteArray) (ha : a.length ≤ 1048576) (hb : b.length ≤ 1048576) (h1 : ∀ s ∈ a, s.size ≤ 1048576) (h2 : ∀ s ∈ b, s.size ≤ 1048576) : Holds Try.prog 17 [.sl .sh (a.map strA), .sl .sh (b.map strA)] [] (.v (.bool (sameB a b))) [] := by
 refine holds_of (ann := nmAnn) tabOk hm Try.func17 (by kernel_rfl) rfl ?_
 simp +decide only [Try.f17, go_sem]
 have la : (a.map strA).length = a.length := List.length_map _
 have lb : (b.map strA).length = b.length := List.length_map _
 refine Runs.while (α := Nat) (nmSt a b) (fun i => a.length - i) (fun i => i ≤ a.length ∧ (i ≠ 0 → a.length = b.length) ∧ sameFrom a b i = sameFrom a b 0) 0 ⟨Nat.zero_le _, fun h => absurd rfl h, rfl⟩ ?_ ?_
 ·simp [go_sem, nmAnn, nmSt]
 ·rintro i ⟨hi, h0, hr⟩ ih
  simp +decide only [nmSt, la, lb, go_sem]
  cases g1 : decide ((i : Int) < (a.length : Int))
  ·have hge : i = a.length := by simp at g1; omega
   simp +decide only [la, lb, go_sem]
   rw [hge, sameFrom_end] at hr
   refine Runs.ret_eq ?_
   by_cases e : a.length = b.length
   ·rw [sameFrom_zero e, ← hr]; simp [e]
   ·rw [sameB, decide_eq_false e]; simp; omega
  ·have hlt : i < a.length := by simpa using g1
   cases g2 : decide ((a.length : Int) = (b.length : Int))
   ·simp +decide only [la, lb, g2, go_sem]
    have e : ¬ a.length = b.length := by simp at g2; omega
    exact Runs.ret_eq (by simp [sameB, e])
   ·have e : a.length = b.length := by simp at g2; omega
    have hlb : i < b.length := by omega
    have ga : (a.map strA).getD i .any = .v (.string a[i]) := by simp [List.getD, hlt, strA]
    have gb : (b.map strA).getD i .any = .v (.string b[i]) := by simp [List.getD, hlb, strA]
    have qa : a.getD i ⟨#[]⟩ = a[i] := by simp [List.getD, hlt]
    have qb : b.getD i ⟨#[]⟩ = b[i] := by simp [List.getD, hlb]
    rw [sameFrom_succ hlt, qa, qb] at hr
    have ca := l10Plain hm a[i] (h1 _ (List.getElem_mem hlt))
    have cb := l10Plain hm b[i] (h2 _ (List.getElem_mem hlb))
    simp +decide only [la, lb, g2, go_sem]
    refine Runs.draw (st1 := ?s1) (draws_by (ann := nmAnn) tabOk nmS (by kernel_rfl) ?p1) ?q1
    case p1 =>
     intro K r X hK
     simp +decide (maxSteps := 9^7) (disch := first | omega | (simp only [ll]; omega)) only [la, lb, ga, gb, if_pos, go_sem]
     repeat' apply And.intro
     all_goals
      refine Runs.call ca ?_
      simp +decide (maxSteps := 9^7) (disch := first | omega | (simp only [ll]; omega)) only [la, lb, ga, gb, if_pos, go_sem]
      refine Runs.call cb ?_
      simp +decide (maxSteps := 9^7) (disch := first | omega | (simp only [ll]; omega)) only [if_pos, go_sem]
      exact hK
    case q1 =>
     simp +decide (disch := first | omega | (simp only [ll]; omega)) only [if_pos, go_sem]
     cases g3 : ((plainB a[i]).toList == (plainB b[i]).toList)
     ·simp +decide (disch := first | omega | (simp only [ll]; omega)) only [g3, if_pos, go_sem]
      refine Runs.ret_eq ?_
      rw [g3, Bool.false_and] at hr
      rw [sameFrom_zero e, ← hr]
     ·rw [g3, Bool.true_and] at hr
      simp +decide (disch := first | omega | (simp only [ll]; omega)) only [g3, if_pos, go_sem]
      refine ih (i + 1) _ (by omega) ⟨by omega, fun _ => e, hr⟩ ?_
      simp [go_sem, nmAnn, nmSt]
def efAnn : Ann := [(0, [0, 1, 2, 15, 16, 17])]
def efSt (g : Nat) (a b : List ByteArray) (i : Nat) : St := ⟨[.sl .sh (a.map strA), .sl .sh (b.map strA), .v (.func (.func g) #[] #[]), .any, .any, .any, .any, .any, .any, .any, .any, .any, .any, .any, .any, .sl .sh (a.map strA), .v (.int .i64 a.length), .v (.int .i64 i), .any, .any, .any, .any, .any, .any, .any, .any, .any, .any, .any, .any, .any, .any], [], []⟩
include hm in
theorem equalFunc (a b : List ByteArray) (ha : a.length ≤ 1048576) (hb : b.length ≤ 1048576) (h1 : ∀ s ∈ a, s.size ≤ 1048576) (h2 : ∀ s ∈ b, s.size ≤ 1048576) :
  Holds Try.prog 39 [.sl .sh (a.map strA), .sl .sh (b.map strA), .v (.func (.func 40) #[] #[])] [] (.v (.bool (sameB a b))) [] := by
 refine holds_of (ann := efAnn) tabOk hm Try.func39 (by kernel_rfl) rfl ?_
 have la : (a.map strA).length = a.length := List.length_map _
 have lb : (b.map strA).length = b.length := List.length_map _
 simp +decide only [Try.f39, la, lb, go_sem]
 cases g2 : decide ((a.length : Int) = (b.length : Int))
 ·simp +decide only [g2, go_sem]
  have e : ¬ a.length = b.length := by simp at g2; omega
  exact Runs.ret_eq (by simp [sameB, e])
 ·have e : a.length = b.length := by simp at g2; omega
  simp +decide only [g2, la, lb, go_sem]
  refine Runs.while (α := Nat) (efSt 40 a b) (fun i => a.length - i) (fun i => i ≤ a.length ∧ sameFrom a b i = sameFrom a b 0) 0 ⟨Nat.zero_le _, rfl⟩ ?_ ?_
  ·simp [go_sem, efAnn, efSt]
  ·rintro i ⟨hi, hr⟩ ih
   simp +decide only [efSt, la, lb, go_sem]
   refine Runs.split (fun h => ?_) (fun h => ?_)
   ·have hlt : i < a.length := by simpa using h
    have hlb : i < b.length := by omega
    have ga : (a.map strA).getD i .any = .v (.string a[i]) := by simp [List.getD, hlt, strA]
    have gb : (b.map strA).getD i .any = .v (.string b[i]) := by simp [List.getD, hlb, strA]
    have qa : a.getD i ⟨#[]⟩ = a[i] := by simp [List.getD, hlt]
    have qb : b.getD i ⟨#[]⟩ = b[i] := by simp [List.getD, hlb]
    rw [sameFrom_succ hlt, qa, qb] at hr
    simp +decide (disch := first | omega | (simp only [ll]; omega)) only [la, lb, ga, gb, if_pos, go_sem]
    refine Runs.call (nameSame1 hm a[i] b[i] (h1 _ (List.getElem_mem hlt)) (h2 _ (List.getElem_mem hlb))) ?_
    cases g3 : ((plainB a[i]).toList == (plainB b[i]).toList)
    ·simp +decide (disch := first | omega | (simp only [ll]; omega)) only [if_pos, go_sem]
     rw [g3, Bool.false_and] at hr
     exact Runs.ret_eq (by rw [sameFrom_zero e, ← hr])
    ·rw [g3, Bool.true_and] at hr
     simp +decide (disch := first | omega | (simp only [ll]; omega)) only [if_pos, go_sem]
     refine ih (i + 1) _ (by omega) ⟨by omega, hr⟩ ?_
     simp [go_sem, efAnn, efSt]
   ·have hge : i = a.length := by simp at h; omega
    rw [hge, sameFrom_end] at hr
    simp +decide only [go_sem]
    exact Runs.ret_eq (by rw [sameFrom_zero e, ← hr])
include hm in
theorem iNameSame (a b : List ByteArray) (ha : a.length ≤ 1048576) (hb : b.length ≤ 1048576) (h1 : ∀ s ∈ a, s.size ≤ 1048576) (h2 : ∀ s ∈ b, s.size ≤ 1048576) :
  Holds Try.prog 22 [.sl .sh (a.map strA), .sl .sh (b.map strA)] [] (.v (.bool (sameB a b))) [] := by
 refine holds_of (ann := []) tabOk hm Try.func22 (by kernel_rfl) rfl ?_
 simp +decide only [Try.f22, go_sem]
 refine Runs.call (equalFunc hm a b ha hb h1 h2) ?_
 simp +decide only [go_sem]
 exact Runs.ret_v
end Go.Proofs.W

namespace Go.Proofs.W
open Go Go.AM
variable (hm : Try.prog.follows .mixedOrders = true)
def rowS (l : List Int) : A := .sl .sh (l.map intA)
def rowO (l : List Int) : A := .sl (.ow 1) (l.map intA)
def szII : List (List Int) → Int → Int
 | [], l => l
 | r :: R, l => if szI r.length l < 0 then -1 else szII R (szI r.length l)
def szSS (L : List (List Int)) (left : Int) : Int := if left - L.length < 0 then -1 else szII L (left - L.length)
end Go.Proofs.W

namespace Go.Proofs.W
open Go Go.AM
set_option maxRecDepth 10000
variable (hm : Try.prog.follows .mixedOrders = true)
attribute [local go_sem] crlA
theorem rises_pair {S : List Int} (h : risesFrom S 1 = true) : S.Pairwise (· < ·) := by
 have ha : ∀ j, 1 ≤ j → j < S.length → S.getD (j - 1) 0 < S.getD j 0 := by
  intro j h1 h2
  simp only [risesFrom, List.all_eq_true, List.mem_range'_1, decide_eq_true_eq] at h
  exact h j ⟨h1, by omega⟩
 have hb : ∀ n i, i + n + 1 < S.length → S.getD i 0 < S.getD (i + n + 1) 0 := by
  intro n i
  induction n with
  | zero => intro hl; exact ha (i + 0 + 1) (by omega) hl
  | succ n ih =>
   intro hl
   have h1 := ih (by omega)
   have h2 := ha (i + (n + 1) + 1) (by omega) hl
   rw [show i + (n + 1) + 1 - 1 = i + n + 1 by omega] at h2
   omega
 rw [List.pairwise_iff_getElem]
 intro i j hi hj hij
 have := hb (j - i - 1) i (by omega)
 rw [show i + (j - i - 1) + 1 = j by omega] at this
 simpa [List.getD, hi, hj] using this
theorem crl_up {I : List ByteArray} {f t a : Int} {S G : List Int} (h : crlOk I f t a S G = true) : S.Pairwise (· < ·) ∧ S.length ≤ 20 := by
 simp only [crlOk, Bool.and_eq_true, decide_eq_true_eq] at h
 exact ⟨rises_pair h.1.2.1, by have := h.1.1.2; omega⟩
def mergeOk (b1 b2 b3 : Bool) (A B : List Int) : Bool := b1 && b2 && b3 && decide ((mrg A B).length ≤ 20)
def mergeV (b1 b2 b3 : Bool) (A B : List Int) : List Int := if mergeOk b1 b2 b3 A B = true then mrg A B else []
theorem merge_no {b1 b2 b3 : Bool} {A B : List Int} (h : mergeOk b1 b2 b3 A B = false) : mergeV b1 b2 b3 A B = [] := by rw [mergeV, h]; rfl
theorem mergeV_len (b1 b2 b3 : Bool) (A B : List Int) : (mergeV b1 b2 b3 A B).length ≤ 20 := by
 unfold mergeV
 split
 ·rename_i h
  simp only [mergeOk, Bool.and_eq_true, decide_eq_true_eq] at h
  exact h.2
 ·simp
def sumR (R : List (List Int)) (i : Nat) : Nat := ((R.take i).map List.length).sum
theorem sumR_succ {R : List (List Int)} {i : Nat} (h : i < R.length) : sumR R (i + 1) = sumR R i + R[i].length := by
 rw [sumR, List.take_succ_eq_append_getElem h, List.map_append, List.sum_append]
 simp [sumR]
theorem sumR_flat (R : List (List Int)) (i : Nat) : (R.take i).flatten.length = sumR R i := by rw [List.length_flatten]; rfl
theorem sumR_le (R : List (List Int)) (i : Nat) : sumR R i ≤ sumR R R.length := by
 have := congrArg (fun l => (l.map List.length).sum) (List.take_append_drop i R)
 simp only [List.map_append, List.sum_append] at this
 unfold sumR
 rw [List.take_length]
 omega
def ccAnn : Ann := [(0, [0, 3, 9, 10, 11]), (2, [6, 25, 26, 27])]
def ccSt (R : List (List Int)) (i : Nat) : St := ⟨[.sl .sh (R.map rowS), .any, .any, .v (.int .i64 (sumR R i)), .any, .any, .any, .any, .any, .sl .sh (R.map rowS), .v (.int .i64 R.length), .v (.int .i64 i), .any, .any, .any, .any, .any, .any, .any, .any, .any, .any, .any, .any, .any, .any, .any, .any, .any, .any, .any, .any, .any, .any, .any, .any], [], []⟩
def ccS2 (R : List (List Int)) (i : Nat) : St := ⟨[.any, .any, .any, .any, .any, .any, .ms (.l 0) 0 (sumR R i) (sumR R i), .any, .any, .any, .any, .any, .any, .any, .any, .any, .any, .any, .any, .any, .any, .any, .any, .any, .any, .sl .sh (R.map rowS), .v (.int .i64 R.length), .v (.int .i64 i), .any, .any, .any, .any, .any, .any, .any, .any], [(0, ⟨true, 1, false, (R.take i).flatten.map intA⟩)], []⟩
set_option maxHeartbeats 1000000 in
include hm in
theorem concatH (R : List (List Int)) (h : R.length ≤ 1000) (h2 : sumR R R.length ≤ 100000) : Holds Try.prog 23 [.sl .sh (R.map rowS)] [] (.sl (.ow 1) (R.flatten.map intA)) [] := by
 refine holds_of (ann := ccAnn) tabOk hm Try.func23 (by kernel_rfl) rfl ?_
 have hR : (R.map rowS).length = R.length := List.length_map _
 simp +decide only [Try.f23, hR, go_sem]
 refine Runs.while (α := Nat) (ccSt R) (fun i => R.length - i) (fun i => i ≤ R.length) 0 (by omega) ?_ ?_
 ·simp [go_sem, ccAnn, ccSt, sumR]
 ·intro i hi ih
  simp +decide only [ccSt, hR, go_sem]
  refine Runs.split (fun h => ?_) (fun h => ?_)
  ·have hlt : i < R.length := by simpa using h
   have hg : (R.map rowS).getD i .any = .sl .sh (R[i].map intA) := by simp [List.getD, hlt, rowS]
   have hs := sumR_succ hlt
   have hle := sumR_le R (i + 1)
   have hd : decide ((sumR R i : Int) + (R[i].length : Int) < 0) = false := by simp; omega
   simp +decide (disch := first | omega | (simp only [ll]; omega)) only [hR, hg, hd, if_pos, go_sem]
   refine ih (i + 1) _ (by omega) hlt ?_
   simp [go_sem, ccAnn, ccSt, hs]
  ·have hge : i = R.length := by simp at h; omega
   subst hge
   simp +decide only [go_sem]
   refine Runs.call (growH _ (by omega)) ?_
   simp +decide only [hR, go_sem]
   refine Runs.while (α := Nat) (ccS2 R) (fun i => R.length - i) (fun i => i ≤ R.length) 0 (by omega) ?_ ?_
   ·simp [go_sem, ccAnn, ccS2, sumR]
   ·intro i hi ih
    have hl : ((R.take i).flatten.map intA).length = sumR R i := by rw [List.length_map, sumR_flat]
    simp +decide only [ccS2, hR, hl, go_sem]
    refine Runs.split (fun h => ?_) (fun h => ?_)
    ·have hlt : i < R.length := by simpa using h
     have hg : (R.map rowS).getD i .any = .sl .sh (R[i].map intA) := by simp [List.getD, hlt, rowS]
     have hs := sumR_succ hlt
     have hle := sumR_le R (i + 1)
     have ht : (R.take (i + 1)).flatten = (R.take i).flatten ++ R[i] := by rw [List.take_succ_eq_append_getElem hlt, List.flatten_append]; simp
     simp +decide (disch := first | omega | (simp only [ll]; omega)) only [hR, hg, hl, if_pos, go_sem]
     refine ih (i + 1) _ (by omega) hlt ?_
     simp [go_sem, ccAnn, ccS2, hs, ht]
    ·have hge : i = R.length := by simp at h; omega
     subst hge
     rw [List.take_length] at hl ⊢
     simp +decide only [hl, go_sem]
     exact Runs.ret_refl
set_option maxHeartbeats 4000000 in
include hm in
theorem iMerge (I : List ByteArray) (f t a : Int) (S G : List Int) (I' : List ByteArray) (f' t' a' : Int) (S' G' : List Int) (h1 : I.length ≤ 1048576) (h2 : ∀ s ∈ I, s.size ≤ 1048576) (h3 : S.length ≤ 1048576) (k1 : I'.length ≤ 1048576) (k2 : ∀ s ∈ I', s.size ≤ 1048576) (k3 : S'.length ≤ 1048576) :
  Holds Try.prog 7 [crlA I f t a S G, crlA I' f' t' a' S' G'] []
   (.tup [.sl (.ow 1) ((mergeV (crlOk I f t a S G) (crlOk I' f' t' a' S' G') (sameB I I') S S').map intA), .v (.bool (mergeOk (crlOk I f t a S G) (crlOk I' f' t' a' S' G') (sameB I I') S S'))]) [] := by
 refine holds_ref (ann := []) tabOk hm (byL [24] [25, 1000002, 1000003]) Try.func7 (by kernel_rfl) rfl ?_
 have c1 := crlOkI hm I f t a S G (by omega) (fun s hs => by have := h2 s hs; omega) (by omega)
 have c2 := crlOkI hm I' f' t' a' S' G' (by omega) (fun s hs => by have := k2 s hs; omega) (by omega)
 have c3 := iNameSame hm I I' h1 k1 h2 k2
 rw [crlA] at c1 c2
 have p1 : crlOk I f t a S G = true → S.Pairwise (· < ·) ∧ S.length ≤ 20 := crl_up
 have p2 : crlOk I' f' t' a' S' G' = true → S'.Pairwise (· < ·) ∧ S'.length ≤ 20 := crl_up
 generalize crlOk I f t a S G = b1 at *
 generalize crlOk I' f' t' a' S' G' = b2 at *
 generalize sameB I I' = b3 at *
 have no : ∀ {T : Tab} {b : Nat → AM.Mode} {an : Ann} {Φ : Known}, mergeOk b1 b2 b3 S S' = false → Runs T b an Φ (.ret (.tup [.v (.slice none 0 0), .v (.bool false)]) []) (.tup [.sl (.ow 1) ((mergeV b1 b2 b3 S S').map intA), .v (.bool (mergeOk b1 b2 b3 S S'))]) [] := by
  intro T b an Φ hb
  rw [merge_no hb, hb]
  exact Runs.ret (.tup (.nils _ (.same _ .nil)) .nil) rfl
 simp +decide (maxSteps := 9^7) only [Try.f7, go_sem]
 refine Runs.call c1 ?_
 cases b1
 ·simp +decide (maxSteps := 9^7) only [go_sem]
  exact no (by simp [mergeOk])
 simp +decide (maxSteps := 9^7) only [go_sem]
 refine Runs.call c2 ?_
 cases b2
 ·simp +decide (maxSteps := 9^7) only [go_sem]
  exact no (by simp [mergeOk])
 simp +decide (maxSteps := 9^7) only [go_sem]
 refine Runs.call c3 ?_
 cases b3
 ·simp +decide (maxSteps := 9^7) only [go_sem]
  exact no (by simp [mergeOk])
 obtain ⟨u1, l1⟩ := p1 rfl
 obtain ⟨u2, l2⟩ := p2 rfl
 have cc := concatH hm [S, S'] (by simp) (by simp [sumR]; omega)
 have hfl : ([S, S'] : List (List Int)).flatten = S ++ S' := by simp
 rw [hfl] at cc
 simp only [List.map_cons, List.map_nil, rowS] at cc
 have hmm := compact_mrg u1 u2
 have hW : (S ++ S').length ≤ 40 := by rw [List.length_append]; omega
 have hlen := mrg_len _ S S' (Nat.le_refl _)
 have hok : mergeOk true true true S S' = decide ((mrg S S').length ≤ 20) := by simp [mergeOk]
 generalize S ++ S' = W at cc hmm hW
 have cs := sortH W (by omega)
 have ck := compactH (srt W) (by rw [srt_len]; omega)
 rw [show Lib.compact (srt W) = mrg S S' from hmm] at ck
 have hsl := srt_len W
 generalize srt W = W2 at cs ck hsl
 generalize hM : mrg S S' = M at *
 simp +decide (maxSteps := 9^7) only [go_sem]
 refine Runs.call cc ?_
 simp +decide (maxSteps := 9^7) only [go_sem]
 refine Runs.call cs ?_
 simp +decide (maxSteps := 9^7) only [hsl, go_sem]
 refine Runs.call ck ?_
 simp +decide (maxSteps := 9^7) only [go_sem]
 refine Runs.split (fun h => ?_) (fun h => ?_)
 ·simp +decide (maxSteps := 9^7) only [go_sem]
  exact no (by rw [hok]; simp at h ⊢; omega)
 ·simp +decide (maxSteps := 9^7) only [go_sem]
  refine Runs.ret_eq ?_
  have : mergeOk true true true S S' = true := by rw [hok]; simp at h ⊢; omega
  rw [mergeV, this, if_pos rfl, hM]
def smAnn : Ann := [(0, [2, 3, 6, 7, 8, 9])]
def smS1 : Sched := .take 0 (.take 1 (.ld 2 (.take 3 (.take 4 (.take 5 (.take 6 (.take 7 (.ld 8 (.take 9 (.take 10 (.take 11 (.take 12 (.take 14 (.take 17 (.take 19 (.ld 13 (.take 15 (.ld 16 (.ld 18 (.take 20 (.ld 21 (.take 22 (.take 23 (.take 24 (.take 25 .fin)))))))))))))))))))))))))
def smS2 : Sched := .take 0 (.take 1 (.ld 2 (.take 3 (.take 4 (.take 5 (.take 6 (.take 8 (.take 11 (.take 13 (.ld 7 (.take 9 (.ld 10 (.ld 12 (.take 14 (.ld 15 (.take 16 (.take 17 (.take 18 .fin))))))))))))))))))
attribute [local go_sem] smS1 smS2
def smSt (I : List ByteArray) (f t a : Int) (S G : List Int) (I' : List ByteArray) (f' t' a' : Int) (S' G' : List Int) (p : List Int × Nat × Nat) : St := ⟨[.any, .any, .ptr [crlA I f t a S G] 0 0, .ptr [crlA I' f' t' a' S' G'] 0 0, .any, .any, .ms (.l 0) 0 0 0, .ms (.l 1) 0 p.1.length p.1.length, .v (.int .i64 p.2.1), .v (.int .i64 p.2.2), .any, .any, .any, .any, .any, .any, .any, .any, .any, .any, .any, .any, .any, .any, .any, .any, .any, .any, .any, .any, .any, .any, .any, .any, .any, .any, .any, .any, .any, .any, .any, .any, .any, .any, .any, .any, .any, .any, .any, .any, .any, .any, .any, .any, .any, .any, .any, .any, .any, .any, .any, .any, .any, .any, .any, .any, .any, .any, .any, .any, .any, .any, .any, .any, .any, .any, .any, .any, .any, .any, .any, .any, .any, .any, .any, .any, .any, .any, .any, .any, .any, .any, .any, .any, .any, .any, .any, .any, .any, .any, .any, .any, .any, .any, .any, .any, .any, .any, .any, .any, .any, .any, .any, .any, .any, .any, .any, .any, .any, .any, .any, .any, .any], [(0, ⟨true, 1, false, []⟩), (1, ⟨true, 1, false, p.1.map intA⟩)], []⟩
set_option maxHeartbeats 4000000 in
include hm in
theorem sMerge (I : List ByteArray) (f t a : Int) (S G : List Int) (I' : List ByteArray) (f' t' a' : Int) (S' G' : List Int) (h1 : I.length ≤ 1048576) (h2 : ∀ s ∈ I, s.size ≤ 1048576) (h3 : S.length ≤ 1048576) (k1 : I'.length ≤ 1048576) (k2 : ∀ s ∈ I', s.size ≤ 1048576) (k3 : S'.length ≤ 1048576) :
  Holds Try.prog 5 [crlA I f t a S G, crlA I' f' t' a' S' G'] []
   (.tup [.sl (.ow 1) ((mergeV (crlOk I f t a S G) (crlOk I' f' t' a' S' G') (sameB I I') S S').map intA), .v (.bool (mergeOk (crlOk I f t a S G) (crlOk I' f' t' a' S' G') (sameB I I') S S'))]) [] := by
 refine holds_ref (ann := smAnn) tabOk hm (byL [] [1000002, 1000003]) Try.func5 (by kernel_rfl) rfl ?_
 have c1 := crlOkS hm I f t a S G (by omega) (fun s hs => by have := h2 s hs; omega) (by omega)
 have c2 := crlOkS hm I' f' t' a' S' G' (by omega) (fun s hs => by have := k2 s hs; omega) (by omega)
 have c3 := sNameSame hm I I' h1 k1 h2 k2
 rw [crlA] at c1 c2
 have p1 : crlOk I f t a S G = true → S.Pairwise (· < ·) ∧ S.length ≤ 20 := crl_up
 have p2 : crlOk I' f' t' a' S' G' = true → S'.Pairwise (· < ·) ∧ S'.length ≤ 20 := crl_up
 generalize crlOk I f t a S G = b1 at *
 generalize crlOk I' f' t' a' S' G' = b2 at *
 generalize sameB I I' = b3 at *
 simp +decide (maxSteps := 9^7) only [Try.f5, go_sem]
 refine Runs.call c1 ?_
 cases b1
 ·simp +decide (maxSteps := 9^7) only [go_sem]
  have hb : mergeOk false b2 b3 S S' = false := by simp [mergeOk]
  exact Runs.ret_eq (by rw [merge_no hb, hb]; rfl)
 simp +decide (maxSteps := 9^7) only [go_sem]
 refine Runs.call c2 ?_
 cases b2
 ·simp +decide (maxSteps := 9^7) only [go_sem]
  have hb : mergeOk true false b3 S S' = false := by simp [mergeOk]
  exact Runs.ret_eq (by rw [merge_no hb, hb]; rfl)
 simp +decide (maxSteps := 9^7) only [go_sem]
 refine Runs.call c3 ?_
 cases b3
 ·simp +decide (maxSteps := 9^7) only [go_sem]
  have hb : mergeOk true true false S S' = false := by simp [mergeOk]
  exact Runs.ret_eq (by rw [merge_no hb, hb]; rfl)
 obtain ⟨u1, l1⟩ := p1 rfl
 obtain ⟨u2, l2⟩ := p2 rfl
 have hlen := mrg_len _ S S' (Nat.le_refl _)
 have hok : mergeOk true true true S S' = decide ((mrg S S').length ≤ 20) := by simp [mergeOk]
 simp +decide (maxSteps := 9^7) only [go_sem]
 refine Runs.while (α := List Int × Nat × Nat) (smSt I f t a S G I' f' t' a' S' G') (fun p => (S.length - p.2.1) + (S'.length - p.2.2)) (fun p => p.2.1 ≤ S.length ∧ p.2.2 ≤ S'.length ∧ p.1 ++ mrg (S.drop p.2.1) (S'.drop p.2.2) = mrg S S') ([], 0, 0) ⟨by simp, by simp, by simp⟩ ?_ ?_
 ·simp [go_sem, smAnn, smSt]
 ·rintro ⟨O, i, k⟩ ⟨hi, hk, hr⟩ ih
  simp only at hi hk hr
  have hO : O.length ≤ 40 := by have := congrArg List.length hr; rw [List.length_append] at this; omega
  have hOl : (O.map intA).length = O.length := List.length_map _
  have hn : decide (O.length + 1 ≤ 1073741824) = true := by simp; omega
  have w1 : IntKind.i64.wrap ((i : Int) + 1) = ((i + 1 : Nat) : Int) := by rw [wrap_i64 (by omega) (by omega)]; rfl
  have w2 : IntKind.i64.wrap ((k : Int) + 1) = ((k + 1 : Nat) : Int) := by rw [wrap_i64 (by omega) (by omega)]; rfl
  have lA : (S.map intA).length = S.length := List.length_map _
  have lB : (S'.map intA).length = S'.length := List.length_map _
  by_cases ha : i < S.length
  ·have dA : decide ((i : Int) < (S.length : Int)) = true := by simp; omega
   have eA : decide ((i : Int) = (S.length : Int)) = false := by simp; omega
   have rA : decide (0 ≤ (i : Int) ∧ (i : Int) < (S.length : Int)) = true := by simp; omega
   have gA : (S.map intA).getD i .any = .v (.int .i64 S[i]) := by simp [List.getD, ha, intA]
   have xA := List.drop_eq_getElem_cons ha
   by_cases hb : k < S'.length
   ·have dB : decide ((k : Int) < (S'.length : Int)) = true := by simp; omega
    have eB : decide ((k : Int) = (S'.length : Int)) = false := by simp; omega
    have rB : decide (0 ≤ (k : Int) ∧ (k : Int) < (S'.length : Int)) = true := by simp; omega
    have gB : (S'.map intA).getD k .any = .v (.int .i64 S'[k]) := by simp [List.getD, hb, intA]
    have xB := List.drop_eq_getElem_cons hb
    rw [xA, xB, mrg_cons, ← xA, ← xB] at hr
    by_cases hlt : S[i] < S'[k]
    ·rw [if_pos hlt] at hr
     have dl : decide (S[i] < S'[k]) = true := by simpa using hlt
     simp +decide (maxSteps := 9^7) only [smSt, lA, lB, dA, dB, go_sem]
     refine Runs.draw (st1 := ?s1) (draws_ref (ann := smAnn) tabOk (byL [] [1000002, 1000003]) smS1 (by kernel_rfl) ?p1) ?q1
     case p1 =>
      intro K r X hK
      simp +decide (maxSteps := 9^7) only [lA, lB, dA, eA, rA, gA, dB, eB, rB, gB, dl, Int.toNat_natCast, go_sem]
      repeat' (first | exact hK | apply And.intro)
     case q1 =>
      simp +decide (maxSteps := 9^7) only [lA, lB, rA, gA, w1, hOl, hn, Int.toNat_natCast, go_sem]
      refine ih (O ++ [S[i]], i + 1, k) _ (by simp only; omega) ⟨ha, hk, by simpa using hr⟩ ?_
      simp [go_sem, smAnn, smSt]
    ·rw [if_neg hlt] at hr
     have dl : decide (S[i] < S'[k]) = false := by simpa using hlt
     by_cases hgt : S'[k] < S[i]
     ·rw [if_pos hgt] at hr
      have dg : decide (S'[k] < S[i]) = true := by simpa using hgt
      simp +decide (maxSteps := 9^7) only [smSt, lA, lB, dA, dB, go_sem]
      refine Runs.draw (st1 := ?s2) (draws_ref (ann := smAnn) tabOk (byL [] [1000002, 1000003]) smS1 (by kernel_rfl) ?p2) ?q2
      case p2 =>
       intro K r X hK
       simp +decide (maxSteps := 9^7) only [lA, lB, dA, eA, rA, gA, dB, eB, rB, gB, dl, Int.toNat_natCast, go_sem]
       repeat' (first | exact hK | apply And.intro)
      case q2 =>
       simp +decide (maxSteps := 9^7) only [go_sem]
       refine Runs.draw (st1 := ?s3) (draws_ref (ann := smAnn) tabOk (byL [] [1000002, 1000003]) smS2 (by kernel_rfl) ?p3) ?q3
       case p3 =>
        intro K r X hK
        simp +decide (maxSteps := 9^7) only [lA, lB, dA, eA, rA, gA, dB, eB, rB, gB, dg, Int.toNat_natCast, go_sem]
        repeat' (first | exact hK | apply And.intro)
       case q3 =>
        simp +decide (maxSteps := 9^7) only [lA, lB, rB, gB, w2, hOl, hn, Int.toNat_natCast, go_sem]
        refine ih (O ++ [S'[k]], i, k + 1) _ (by simp only; omega) ⟨hi, hb, by simpa using hr⟩ ?_
        simp [go_sem, smAnn, smSt]
     ·rw [if_neg hgt] at hr
      have dg : decide (S'[k] < S[i]) = false := by simpa using hgt
      simp +decide (maxSteps := 9^7) only [smSt, lA, lB, dA, dB, go_sem]
      refine Runs.draw (st1 := ?s4) (draws_ref (ann := smAnn) tabOk (byL [] [1000002, 1000003]) smS1 (by kernel_rfl) ?p4) ?q4
      case p4 =>
       intro K r X hK
       simp +decide (maxSteps := 9^7) only [lA, lB, dA, eA, rA, gA, dB, eB, rB, gB, dl, Int.toNat_natCast, go_sem]
       repeat' (first | exact hK | apply And.intro)
      case q4 =>
       simp +decide (maxSteps := 9^7) only [go_sem]
       refine Runs.draw (st1 := ?s5) (draws_ref (ann := smAnn) tabOk (byL [] [1000002, 1000003]) smS2 (by kernel_rfl) ?p5) ?q5
       case p5 =>
        intro K r X hK
        simp +decide (maxSteps := 9^7) only [lA, lB, dA, eA, rA, gA, dB, eB, rB, gB, dg, Int.toNat_natCast, go_sem]
        repeat' (first | exact hK | apply And.intro)
       case q5 =>
        simp +decide (maxSteps := 9^7) only [lA, lB, rA, gA, w1, w2, hOl, hn, Int.toNat_natCast, go_sem]
        refine ih (O ++ [S[i]], i + 1, k + 1) _ (by simp only; omega) ⟨ha, hb, by simpa using hr⟩ ?_
        simp [go_sem, smAnn, smSt]
   ·have hbe : k = S'.length := by omega
    subst hbe
    have dB : decide ((S'.length : Int) < (S'.length : Int)) = false := by simp
    have eB : decide ((S'.length : Int) = (S'.length : Int)) = true := by simp
    rw [List.drop_length, mrg_nil, xA] at hr
    simp +decide (maxSteps := 9^7) only [smSt, lA, lB, dA, dB, go_sem]
    refine Runs.draw (st1 := ?s6) (draws_ref (ann := smAnn) tabOk (byL [] [1000002, 1000003]) smS1 (by kernel_rfl) ?p6) ?q6
    case p6 =>
     intro K r X hK
     simp +decide (maxSteps := 9^7) only [lA, lB, dA, eA, rA, gA, dB, eB, Int.toNat_natCast, go_sem]
     repeat' (first | exact hK | apply And.intro)
    case q6 =>
     simp +decide (maxSteps := 9^7) only [lA, lB, rA, gA, w1, hOl, hn, Int.toNat_natCast, go_sem]
     refine ih (O ++ [S[i]], i + 1, S'.length) _ (by simp only; omega) ⟨ha, hk, by simp only [List.drop_length, mrg_nil]; simpa using hr⟩ ?_
     simp [go_sem, smAnn, smSt]
  ·have hae : i = S.length := by omega
   subst hae
   have dA : decide ((S.length : Int) < (S.length : Int)) = false := by simp
   have eA : decide ((S.length : Int) = (S.length : Int)) = true := by simp
   by_cases hb : k < S'.length
   ·have dB : decide ((k : Int) < (S'.length : Int)) = true := by simp; omega
    have eB : decide ((k : Int) = (S'.length : Int)) = false := by simp; omega
    have rB : decide (0 ≤ (k : Int) ∧ (k : Int) < (S'.length : Int)) = true := by simp; omega
    have gB : (S'.map intA).getD k .any = .v (.int .i64 S'[k]) := by simp [List.getD, hb, intA]
    have xB := List.drop_eq_getElem_cons hb
    rw [List.drop_length, mrg, xB] at hr
    simp +decide (maxSteps := 9^7) only [smSt, lA, lB, dA, dB, go_sem]
    refine Runs.draw (st1 := ?s7) (draws_ref (ann := smAnn) tabOk (byL [] [1000002, 1000003]) smS1 (by kernel_rfl) ?p7) ?q7
    case p7 =>
     intro K r X hK
     simp +decide (maxSteps := 9^7) only [lA, lB, dA, eA, dB, eB, Int.toNat_natCast, go_sem]
     repeat' (first | exact hK | apply And.intro)
    case q7 =>
     simp +decide (maxSteps := 9^7) only [go_sem]
     refine Runs.draw (st1 := ?s8) (draws_ref (ann := smAnn) tabOk (byL [] [1000002, 1000003]) smS2 (by kernel_rfl) ?p8) ?q8
     case p8 =>
      intro K r X hK
      simp +decide (maxSteps := 9^7) only [lA, lB, dA, eA, dB, eB, Int.toNat_natCast, go_sem]
      repeat' (first | exact hK | apply And.intro)
     case q8 =>
      simp +decide (maxSteps := 9^7) only [lA, lB, rB, gB, w2, hOl, hn, Int.toNat_natCast, go_sem]
      refine ih (O ++ [S'[k]], S.length, k + 1) _ (by simp only; omega) ⟨hi, hb, by simp only [List.drop_length, mrg]; simpa using hr⟩ ?_
      simp [go_sem, smAnn, smSt]
   ·have hbe : k = S'.length := by omega
    subst hbe
    have dB : decide ((S'.length : Int) < (S'.length : Int)) = false := by simp
    rw [List.drop_length, List.drop_length, mrg, List.append_nil] at hr
    simp +decide (maxSteps := 9^7) only [smSt, lA, lB, dA, dB, hOl, go_sem]
    rw [← hr] at hok
    refine Runs.split (fun h => ?_) (fun h => ?_)
    ·simp +decide (maxSteps := 9^7) only [go_sem]
     have hb2 : mergeOk true true true S S' = false := by rw [hok]; simp at h ⊢; omega
     exact Runs.ret_eq (by rw [merge_no hb2, hb2]; rfl)
    ·simp +decide (maxSteps := 9^7) only [go_sem]
     have hb2 : mergeOk true true true S S' = true := by rw [hok]; simp at h ⊢; omega
     refine Runs.ret_eq ?_
     rw [mergeV, hb2, if_pos rfl, ← hr]
end Go.Proofs.W

namespace Go.Proofs.W
open Go Go.AM
set_option maxRecDepth 10000
variable (hm : Try.prog.follows .mixedOrders = true)
def mkFill (v : Nat → A) (es : List A) (i : Nat) : List A := (List.range i).map v ++ es.drop i
theorem mkFill_length (v : Nat → A) (es : List A) (i : Nat) (h : i ≤ es.length) : (mkFill v es i).length = es.length := by simp [mkFill]; omega
theorem mkFill_zero (v : Nat → A) (es : List A) : mkFill v es 0 = es := by simp [mkFill]
theorem mkFill_all (v : Nat → A) (es : List A) {n : Nat} (h : es.length = n) : mkFill v es n = (List.range n).map v := by subst h; simp [mkFill]
theorem mkFill_get (v : Nat → A) (es : List A) (i : Nat) (h : i < es.length) : (mkFill v es i).getD i .any = es[i] := by
 unfold mkFill
 rw [List.getD, List.getElem?_append_right (by simp)]
 simp [h]
theorem mkFill_set (v : Nat → A) (es : List A) (i : Nat) (h : i < es.length) : (mkFill v es i).set i (v i) = mkFill v es (i + 1) := by
 unfold mkFill
 rw [List.set_append_right _ _ (by simp), List.length_map, List.length_range, Nat.sub_self, List.drop_eq_getElem_cons h, List.set_cons_zero, List.range_succ, List.map_append, List.append_assoc]
 rfl
def mkAnn : Ann := [(0, [0, 1, 5])]
def mkInt (k : Int) (i : Nat) : A := intA (k + i)
def mkByte (k : Int) (i : Nat) : A := u8A (IntKind.u8.wrap (k + i))
attribute [local go_sem] mkInt mkByte
def markGo : Nat → Nat → ByteArray → ByteArray
 | 0, _, out => out
 | f + 1, n, out => if n = 0 then out else markGo f (n / 10) (⟨#[UInt8.ofNat (48 + n % 10)]⟩ ++ out)
def markT (k : Int) : ByteArray := if k ≤ 0 then ⟨#[109, 48]⟩ else ⟨#[109]⟩ ++ markGo (k.toNat + 1) k.toNat ⟨#[]⟩
def mkStr (k : Int) (i : Nat) : A := strA (markT (k + i))
attribute [local go_sem] mkStr
def markIntSt (L : List Int) (k : Int) (i : Nat) : St := ⟨[.ms (.x 0) 0 L.length L.length, .v (.int .i64 (k + i)), .any, .any, .any, .v (.int .i64 i), .any, .any, .any, .any, .any, .any, .any, .any, .any, .any, .any, .any, .any], [], [⟨true, 1, false, mkFill (mkInt k) (L.map intA) i⟩]⟩
include hm in
theorem markIntS (L : List Int) (k : Int) (h1 : 0 ≤ k) (h2 : k + L.length ≤ 4611686018427387904) :
  Holds Try.prog 11 [.ms (.x 0) 0 L.length L.length, .v (.int .i64 k)] [⟨true, 1, false, L.map intA⟩] (.v (.int .i64 (k + L.length))) [⟨true, 1, false, (List.range L.length).map (mkInt k)⟩] := by
 refine holds_of (ann := mkAnn) tabOk hm Try.func11 (by kernel_rfl) rfl ?_
 simp +decide only [Try.f11, go_sem]
 refine Runs.while (α := Nat) (markIntSt L k) (fun i => L.length - i) (fun i => i ≤ L.length) 0 (by omega) ?_ ?_
 ·simp [go_sem, mkAnn, markIntSt, mkFill_zero]
 ·intro i hi ih
  have hlen := mkFill_length (mkInt k) (L.map intA) i (by simpa using hi)
  rw [List.length_map] at hlen
  simp +decide only [markIntSt, hlen, go_sem]
  refine Runs.split (fun h => ?_) (fun h => ?_)
  ·have hlt : i < L.length := by simpa using h
   have hg := mkFill_get (mkInt k) (L.map intA) i (by simpa using hlt)
   have hs := mkFill_set (mkInt k) (L.map intA) i (by simpa using hlt)
   simp only [List.getElem_map, intA] at hg
   simp only [mkInt, intA] at hs
   simp +decide (disch := first | omega | (simp only [ll]; omega)) only [hlen, hg, hs, if_pos, go_sem]
   refine ih (i + 1) _ (by omega) (by omega) ?_
   simp [go_sem, mkAnn, markIntSt, Int.add_assoc]
  ·have hge : i = L.length := by simp at h; omega
   subst hge
   simp +decide only [hlen, mkFill_all _ _ (List.length_map _), go_sem]
   exact Runs.ret_refl
def heldIntSt (n : Nat) (k : Int) (i : Nat) : St := ⟨[.sl .sh ((List.range n).map (mkInt k)), .v (.int .i64 (k + i)), .any, .any, .any, .v (.int .i64 i), .any, .any, .any, .any, .any, .any, .any, .any, .any, .any, .any, .any, .any, .any, .any], [], []⟩
include hm in
theorem heldIntS (n : Nat) (k : Int) (h1 : 0 ≤ k) (h2 : k + n ≤ 4611686018427387904) :
  Holds Try.prog 12 [.sl .sh ((List.range n).map (mkInt k)), .v (.int .i64 k)] [] (.v (.int .i64 (k + n))) [] := by
 refine holds_of (ann := mkAnn) tabOk hm Try.func12 (by kernel_rfl) rfl ?_
 simp +decide only [Try.f12, go_sem]
 refine Runs.while (α := Nat) (heldIntSt n k) (fun i => n - i) (fun i => i ≤ n) 0 (by omega) ?_ ?_
 ·simp [go_sem, mkAnn, heldIntSt]
 ·intro i hi ih
  simp +decide only [heldIntSt, List.length_range, go_sem]
  refine Runs.split (fun h => ?_) (fun h => ?_)
  ·have hlt : i < n := by simpa using h
   have hg : ((List.range n).map (mkInt k)).getD i .any = mkInt k i := by simp [List.getD, hlt]
   simp +decide (disch := first | omega | (simp only [ll]; omega)) only [hg, List.length_range, if_pos, go_sem]
   refine ih (i + 1) _ (by omega) (by omega) ?_
   simp [go_sem, mkAnn, heldIntSt, Int.add_assoc]
  ·have hge : i = n := by simp at h; omega
   subst hge
   simp +decide only [go_sem]
   exact Runs.ret_refl
def markByteSt (L : List Int) (k : Int) (i : Nat) : St := ⟨[.ms (.x 0) 0 L.length L.length, .v (.int .i64 (k + i)), .any, .any, .any, .v (.int .i64 i), .any, .any, .any, .any, .any, .any, .any, .any, .any, .any, .any, .any, .any, .any], [], [⟨true, 1, false, mkFill (mkByte k) (L.map u8A) i⟩]⟩
include hm in
theorem markByteS (L : List Int) (k : Int) (h1 : 0 ≤ k) (h2 : k + L.length ≤ 4611686018427387904) :
  Holds Try.prog 29 [.ms (.x 0) 0 L.length L.length, .v (.int .i64 k)] [⟨true, 1, false, L.map u8A⟩] (.v (.int .i64 (k + L.length))) [⟨true, 1, false, (List.range L.length).map (mkByte k)⟩] := by
 refine holds_of (ann := mkAnn) tabOk hm Try.func29 (by kernel_rfl) rfl ?_
 simp +decide only [Try.f29, go_sem]
 refine Runs.while (α := Nat) (markByteSt L k) (fun i => L.length - i) (fun i => i ≤ L.length) 0 (by omega) ?_ ?_
 ·simp [go_sem, mkAnn, markByteSt, mkFill_zero]
 ·intro i hi ih
  have hlen := mkFill_length (mkByte k) (L.map u8A) i (by simpa using hi)
  rw [List.length_map] at hlen
  simp +decide only [markByteSt, hlen, go_sem]
  refine Runs.split (fun h => ?_) (fun h => ?_)
  ·have hlt : i < L.length := by simpa using h
   have hg := mkFill_get (mkByte k) (L.map u8A) i (by simpa using hlt)
   have hs := mkFill_set (mkByte k) (L.map u8A) i (by simpa using hlt)
   simp only [List.getElem_map, u8A] at hg
   simp only [mkByte, u8A] at hs
   simp +decide (disch := first | omega | (simp only [ll]; omega)) only [hlen, hg, hs, if_pos, go_sem]
   refine ih (i + 1) _ (by omega) (by omega) ?_
   simp [go_sem, mkAnn, markByteSt, Int.add_assoc]
  ·have hge : i = L.length := by simp at h; omega
   subst hge
   simp +decide only [hlen, mkFill_all _ _ (List.length_map _), go_sem]
   exact Runs.ret_refl
def markTxAnn : Ann := [(0, [0, 3])]
def markTxSt (p : Nat × ByteArray) : St := ⟨[.v (.int .i64 p.1), .any, .any, .v (.string p.2), .any, .any, .any, .any, .any, .any, .any, .any, .any, .any, .any, .any, .any, .any, .any, .any], [], []⟩
theorem markGo_fuel : ∀ (f g n : Nat) (out : ByteArray), n < f → n < g → markGo f n out = markGo g n out
 | f + 1, g + 1, n, out, h1, h2 => by
  simp only [markGo]
  split
  ·rfl
  ·rename_i hn
   exact markGo_fuel f g (n / 10) _ (by omega) (by omega)
theorem markGo_size {n s n0 : Nat} (h : n * 10 ^ s ≤ n0) (hn : 0 < n) (h0 : n0 ≤ 4611686018427387904) : s ≤ 30 := by
 rcases Nat.lt_or_ge 30 s with h1 | h1
 ·have h2 : 10 ^ 31 ≤ 10 ^ s := Nat.pow_le_pow_right (by omega) h1
  have h3 : 1 * 10 ^ s ≤ n * 10 ^ s := Nat.mul_le_mul_right _ hn
  have h4 : (10 : Nat) ^ 31 = 10000000000000000000000000000000 := rfl
  omega
 ·exact h1
include hm in
theorem markText (k : Int) (h1 : 0 ≤ k) (h2 : k ≤ 4611686018427387904) : Holds Try.prog 45 [.v (.int .i64 k)] [] (.v (.string (markT k))) [] := by
 refine holds_of (ann := markTxAnn) tabOk hm Try.func45 (by kernel_rfl) rfl ?_
 simp +decide only [Try.f45, go_sem]
 refine Runs.split (fun h => ?_) (fun h => ?_)
 ·simp only [decide_eq_true_eq] at h
  simp +decide only [markT, if_pos h, go_sem]
  exact Runs.ret_v
 ·simp only [decide_eq_false_iff_not] at h
  simp +decide only [go_sem]
  obtain ⟨n0, rfl⟩ : ∃ n0 : Nat, k = n0 := ⟨k.toNat, by omega⟩
  refine Runs.while (α := Nat × ByteArray) markTxSt (fun p => p.1) (fun p => p.1 ≤ n0 ∧ p.1 * 10 ^ p.2.size ≤ n0 ∧ p.2.size ≤ 31 ∧ markGo (p.1 + 1) p.1 p.2 = markGo (n0 + 1) n0 ⟨#[]⟩) (n0, ⟨#[]⟩) ⟨by simp, Nat.le_of_eq (by show n0 * 10 ^ 0 = n0; omega), by show 0 ≤ 31; omega, rfl⟩ ?_ ?_
  ·simp [go_sem, markTxAnn, markTxSt]
  ·rintro ⟨n, out⟩ ⟨hn, hp, hs, hr⟩ ih
   simp only at hn hp hs hr
   simp +decide only [markTxSt, go_sem]
   refine Runs.split (fun h => ?_) (fun h => ?_)
   ·have hn0 : 0 < n := by simp at h; omega
    have hs' := markGo_size hp hn0 (by omega)
    have ht : (n : Int).tmod 10 = ((n % 10 : Nat) : Int) := by rw [Int.tmod_eq_emod_of_nonneg (by omega)]; omega
    have hq : (n : Int).tdiv 10 = ((n / 10 : Nat) : Int) := by rw [Int.tdiv_eq_ediv_of_nonneg (by omega)]; omega
    have hw : IntKind.i64.wrap (48 + ((n % 10 : Nat) : Int)) = ((48 + n % 10 : Nat) : Int) := by rw [wrap_i64 (by omega) (by omega)]; omega
    have hw2 : IntKind.u8.wrap ((48 + n % 10 : Nat) : Int) = ((48 + n % 10 : Nat) : Int) := wrap_u8 (by omega) (by omega)
    have hw3 : IntKind.i64.wrap ((n / 10 : Nat) : Int) = ((n / 10 : Nat) : Int) := wrap_i64 (by omega) (by omega)
    have hb : (0 ≤ ((48 + n % 10 : Nat) : Int) ∧ ((48 + n % 10 : Nat) : Int) < 256) := by omega
    simp +decide only [ht, hq, hw, hw2, hw3, hb, go_sem]
    refine Runs.chk (by simp; show 1 + out.size ≤ _; omega) ?_
    simp +decide only [go_sem]
    refine ih (n / 10, ⟨#[UInt8.ofNat (48 + n % 10)]⟩ ++ out) _ (by simp only; omega) ⟨by simp only; omega, ?_, ?_, ?_⟩ ?_
    ·simp only
     rw [ByteArray.size_append]
     show n / 10 * 10 ^ (1 + out.size) ≤ n0
     rw [Nat.pow_add, ← Nat.mul_assoc]
     exact Nat.le_trans (Nat.mul_le_mul_right _ (by omega)) hp
    ·simp only
     rw [ByteArray.size_append]
     show 1 + out.size ≤ 31
     omega
    ·simp only
     rw [← hr]
     conv => rhs; unfold markGo
     rw [if_neg (by omega)]
     exact markGo_fuel _ _ _ _ (by omega) (by omega)
    ·simp [go_sem, markTxAnn, markTxSt]
   ·have hn0 : n = 0 := by simp at h; omega
    subst hn0
    simp only [markGo, if_true] at hr
    simp +decide only [go_sem]
    refine Runs.chk (by simp; show 1 + out.size ≤ _; omega) ?_
    refine Runs.ret_eq ?_
    rw [markT, if_neg ‹¬ ((n0 : Int) ≤ 0)›, hr]
    rfl
def markStringSt (L : List ByteArray) (k : Int) (i : Nat) : St := ⟨[.ms (.x 0) 0 L.length L.length, .v (.int .i64 (k + i)), .any, .any, .any, .v (.int .i64 i), .any, .any, .any, .any, .any, .any, .any, .any, .any, .any, .any, .any, .any, .any], [], [⟨true, 1, false, mkFill (mkStr k) (L.map strA) i⟩]⟩
include hm in
theorem markStringS (L : List ByteArray) (k : Int) (h1 : 0 ≤ k) (h2 : k + L.length ≤ 4611686018427387904) :
  Holds Try.prog 28 [.ms (.x 0) 0 L.length L.length, .v (.int .i64 k)] [⟨true, 1, false, L.map strA⟩] (.v (.int .i64 (k + L.length))) [⟨true, 1, false, (List.range L.length).map (mkStr k)⟩] := by
 refine holds_of (ann := mkAnn) tabOk hm Try.func28 (by kernel_rfl) rfl ?_
 simp +decide only [Try.f28, go_sem]
 refine Runs.while (α := Nat) (markStringSt L k) (fun i => L.length - i) (fun i => i ≤ L.length) 0 (by omega) ?_ ?_
 ·simp [go_sem, mkAnn, markStringSt, mkFill_zero]
 ·intro i hi ih
  have hlen := mkFill_length (mkStr k) (L.map strA) i (by simpa using hi)
  rw [List.length_map] at hlen
  simp +decide only [markStringSt, hlen, go_sem]
  refine Runs.split (fun h => ?_) (fun h => ?_)
  ·have hlt : i < L.length := by simpa using h
   have hg := mkFill_get (mkStr k) (L.map strA) i (by simpa using hlt)
   have hs := mkFill_set (mkStr k) (L.map strA) i (by simpa using hlt)
   simp only [List.getElem_map, strA] at hg
   simp only [mkStr, strA] at hs
   simp +decide (disch := first | omega | (simp only [ll]; omega)) only [hlen, hg, if_pos, go_sem]
   refine Runs.call (markText hm (k + i) (by omega) (by omega)) ?_
   simp +decide (disch := first | omega | (simp only [ll]; omega)) only [hlen, hg, hs, if_pos, go_sem]
   refine ih (i + 1) _ (by omega) (by omega) ?_
   simp [go_sem, mkAnn, markStringSt, Int.add_assoc]
  ·have hge : i = L.length := by simp at h; omega
   subst hge
   simp +decide only [hlen, mkFill_all _ _ (List.length_map _), go_sem]
   exact Runs.ret_refl
end Go.Proofs.W

namespace Go.Proofs.W
open Go Go.AM
variable (hm : Try.prog.follows .mixedOrders = true)
attribute [local go_sem] crlA crlO
set_option maxRecDepth 10000 in
include hm in
theorem markCrl (I : List ByteArray) (f t a : Int) (S G : List Int) (k : Int) (h1 : 0 ≤ k) (h2 : k + I.length + S.length + G.length ≤ 4611686018427387904) :
  Holds Try.prog 10 [.agg [.ms (.x 0) 0 I.length I.length, .v (.int .i64 f), .v (.int .i64 t), .v (.int .i64 a), .ms (.x 1) 0 S.length S.length, .ms (.x 2) 0 G.length G.length], .v (.int .i64 k)]
   [⟨true, 1, false, I.map strA⟩, ⟨true, 1, false, S.map intA⟩, ⟨true, 1, false, G.map u8A⟩] (.v (.int .i64 (k + I.length + S.length + G.length)))
   [⟨true, 1, false, (List.range I.length).map (mkStr k)⟩, ⟨true, 1, false, (List.range S.length).map (mkInt (k + I.length))⟩, ⟨true, 1, false, (List.range G.length).map (mkByte (k + I.length + S.length))⟩] := by
 refine holds_ref (ann := []) tabOk hm (byL [28, 11, 29] []) Try.func10 (by kernel_rfl) rfl ?_
 simp +decide only [Try.f10, go_sem]
 refine Runs.call (markStringS hm I k h1 (by omega)) ?_
 simp +decide only [go_sem]
 refine Runs.call (markIntS hm S (k + I.length) (by omega) (by omega)) ?_
 simp +decide only [go_sem]
 refine Runs.call (markByteS hm G (k + I.length + S.length) (by omega) (by omega)) ?_
 simp +decide only [go_sem]
 exact Runs.ret_refl
end Go.Proofs.W

namespace Go.Proofs.W
open Go Go.AM
variable (hm : Try.prog.follows .mixedOrders = true)
attribute [local go_sem] crlA crlO
theorem szGo_szM (L : List ByteArray) (l : Int) (h : 0 ≤ l) (h2 : 0 ≤ szGo L l) : ∀ s ∈ L, (s.size : Int) ≤ l := by
 induction L generalizing l with
 | nil => simp
 | cons a r ih =>
  simp only [szGo] at h2
  split at h2
  ·omega
  ·intro s hs
   rcases List.mem_cons.mp hs with e | e
   ·subst e; omega
   ·have := ih (l - a.size) (by omega) h2 s e; omega
theorem szS_szM (L : List ByteArray) (l : Int) (h : 0 ≤ l) (hl : l ≤ 1048576) (h2 : ¬ szS L l < 0) : ∀ s ∈ L, s.size ≤ 1048576 := by
 unfold szS at h2
 split at h2
 ·exact absurd (by omega) h2
 ·intro s hs
  have := szGo_szM L (l - L.length) (by omega) (by omega) s hs
  omega
theorem szCrl_fit {I : List ByteArray} {S G : List Int} {l : Int} (h : 0 ≤ l) (hl : l ≤ 1048576) (e : ¬ szCrlV I S G l < 0) : szCrlV I S G l ≤ 1048576 ∧ I.length ≤ 1048576 ∧ (∀ s ∈ I, s.size ≤ 1048576) ∧ S.length ≤ 1048576 ∧ G.length ≤ 1048576 := by
 have b1 := szS_le I l h
 unfold szCrlV at e ⊢
 split at e
 ·exact absurd (by omega) e
 ·rename_i e1
  have b2 := szI_le S.length (szS I l) (by omega)
  split at e
  ·exact absurd (by omega) e
  ·rename_i e2
   have b3 := szI_le G.length (szI S.length (szS I l)) (by omega)
   refine ⟨?_, szS_len I _ e1 (by omega), szS_szM I l h hl e1, szI_len S.length _ e2 (by omega), szI_len G.length _ e (by omega)⟩
   rw [if_neg e1, if_neg e2]
   omega
theorem mkI_plainM (k : Int) (n : Nat) : dnL ((List.range n).map (mkInt k)) = (List.range n).map (mkInt k) := by rw [dnL_map]; rfl
theorem tk_mkM (k : Int) (n : Nat) : List.take n ((List.range n).map (mkInt k)) = (List.range n).map (mkInt k) := List.take_of_length_le (by simp)
def lmS1 : Sched := .alt 0 (.alt 1 (.alt 2 (.alt 3 (.alt 4 (.take 5 (.take 6 (.take 7 (.take 8 (.take 9 .fin))))) .nil) .nil) .nil) (.alt 2 (.alt 1 (.alt 3 (.alt 4 (.take 5 (.take 6 (.take 7 (.take 8 (.take 9 .fin))))) .nil) .nil) .nil) .nil)) (.alt 2 (.alt 0 (.alt 1 (.alt 3 (.alt 4 (.take 5 (.take 6 (.take 7 (.take 8 (.take 9 .fin))))) .nil) .nil) .nil) .nil) .nil)
def lmS2 : Sched := .alt 0 (.alt 1 (.alt 2 (.alt 3 (.take 4 .fin) .nil) .nil) .nil) (.alt 1 (.alt 0 (.alt 2 (.alt 3 (.take 4 .fin) .nil) .nil) (.alt 2 (.alt 0 (.alt 3 (.take 4 .fin) .nil) .nil) .nil)) .nil)
def lmS3 : Sched := .alt 0 (.alt 1 (.alt 2 (.alt 3 (.take 4 .fin) .nil) .nil) .nil) (.alt 1 (.alt 0 (.alt 2 (.alt 3 (.take 4 .fin) .nil) .nil) (.alt 2 (.alt 0 (.alt 3 (.take 4 .fin) .nil) .nil) .nil)) .nil)
def lmS4 : Sched := .alt 0 (.alt 1 (.alt 2 (.alt 3 (.alt 4 (.take 5 (.take 6 (.take 7 (.take 8 (.take 9 .fin))))) .nil) .nil) .nil) (.alt 2 (.alt 1 (.alt 3 (.alt 4 (.take 5 (.take 6 (.take 7 (.take 8 (.take 9 .fin))))) .nil) .nil) .nil) .nil)) (.alt 2 (.alt 0 (.alt 1 (.alt 3 (.alt 4 (.take 5 (.take 6 (.take 7 (.take 8 (.take 9 .fin))))) .nil) .nil) .nil) .nil) .nil)
attribute [local go_sem] lmS1 lmS2 lmS3 lmS4
set_option maxRecDepth 10000 in
set_option maxHeartbeats 8000000 in
include hm in
theorem lawMerge (I : List ByteArray) (f t a : Int) (S G : List Int) (I' : List ByteArray) (f' t' a' : Int) (S' G' : List Int) (h1 : I.length ≤ 9223372036854775807) (h2 : ∀ s ∈ I, s.size ≤ 9223372036854775807) (h3 : S.length ≤ 9223372036854775807) (h4 : G.length ≤ 9223372036854775807)
  (k1 : I'.length ≤ 9223372036854775807) (k2 : ∀ s ∈ I', s.size ≤ 9223372036854775807) (k3 : S'.length ≤ 9223372036854775807) (k4 : G'.length ≤ 9223372036854775807) :
  Holds Try.prog 3 [crlA I f t a S G, crlA I' f' t' a' S' G'] [] (.v (.bool true)) [] := by
 refine holds_ref (ann := []) tabOk hm (byL [10, 11] [1000002, 1000003]) Try.func3 (by kernel_rfl) rfl ?_
 have z1 := szCrl hm I f t a S G 1048576 (by omega) (by omega) h1 h2 h3 h4
 rw [crlA] at z1
 simp +decide (maxSteps := 9^7) only [Try.f3, go_sem]
 refine Runs.call z1 ?_
 simp +decide (maxSteps := 9^7) only [go_sem]
 refine Runs.split (fun e => by simp +decide (maxSteps := 9^7) only [go_sem]; exact Runs.ret_v) (fun e => ?_)
 simp only [decide_eq_false_iff_not] at e
 obtain ⟨l1, m1, m2, m3, m4⟩ := szCrl_fit (by omega) (by omega) e
 generalize szCrlV I S G 1048576 = left at e l1
 have z2 := szCrl hm I' f' t' a' S' G' left (by omega) l1 k1 k2 k3 k4
 rw [crlA] at z2
 simp +decide (maxSteps := 9^7) only [go_sem]
 refine Runs.call z2 ?_
 simp +decide (maxSteps := 9^7) only [go_sem]
 refine Runs.split (fun e => by simp +decide (maxSteps := 9^7) only [go_sem]; exact Runs.ret_v) (fun e2 => ?_)
 simp only [decide_eq_false_iff_not] at e2
 obtain ⟨l2, n1, n2, n3, n4⟩ := szCrl_fit (by omega) l1 e2
 have ta := toCrl hm I f t a S G m1 m3 m4
 have tb := toCrl hm I' f' t' a' S' G' n1 n3 n4
 have qa := eqCrl hm I f t a S G h1 h3 h4
 have qb := eqCrl hm I' f' t' a' S' G' k1 k3 k4
 have hT := iMerge hm I f t a S G I' f' t' a' S' G' m1 m2 m3 n1 n2 n3
 have hT' := sMerge hm I f t a S G I' f' t' a' S' G' m1 m2 m3 n1 n2 n3
 have hle := mergeV_len (crlOk I f t a S G) (crlOk I' f' t' a' S' G') (sameB I I') S S'
 rw [crlA, crlA] at hT hT'
 rw [crlA, crlO] at ta tb
 rw [crlA] at qa qb
 generalize mergeV (crlOk I f t a S G) (crlOk I' f' t' a' S' G') (sameB I I') S S' = B at hT hT' hle
 generalize mergeOk (crlOk I f t a S G) (crlOk I' f' t' a' S' G') (sameB I I') S S' = ok at hT hT'
 have hma := markCrl hm I f t a S G 1 (by omega) (by omega)
 have hmb := markCrl hm I' f' t' a' S' G' (1 + I.length + S.length + G.length) (by omega) (by omega)
 have hkp : 0 ≤ 1 + (I.length : Int) + S.length + G.length + I'.length + S'.length + G'.length := by omega
 have hd : decide (1 + (I.length : Int) + S.length + G.length + I'.length + S'.length + G'.length < 0) = false := by simp; omega
 generalize 1 + (I.length : Int) + S.length + G.length = kk at hma hmb hd hkp
 generalize kk + (I'.length : Int) + S'.length + G'.length = k2 at hmb hd hkp
 have hB := markIntS hm B 1 (by omega) (by omega)
 have hH := heldIntS hm B.length 1 (by omega) (by omega)
 have hE := eqIntS hm B (by omega)
 have hd2 : decide ((1 : Int) + B.length < 0) = false := by simp; omega
 have hbb : (ok != ok) = false := by cases ok <;> rfl
 simp +decide (maxSteps := 9^7) only [go_sem]
 refine Runs.draw (st1 := ?s1) (draws_ref (ann := []) tabOk (byL [10, 11] [1000002, 1000003]) lmS1 (by kernel_rfl) ?p1) ?q1
 case p1 =>
  intro K r X hK
  simp +decide (maxSteps := 9^7) only [go_sem]
  repeat' (first | exact hK | apply And.intro | (refine Runs.call ta ?_; simp +decide (maxSteps := 9^7) only [go_sem]) | (refine Runs.call tb ?_; simp +decide (maxSteps := 9^7) only [go_sem]) | (refine Runs.call hT' ?_; simp +decide (maxSteps := 9^7) only [go_sem]))
 case q1 =>
  simp +decide (maxSteps := 9^7) only [go_sem]
  refine Runs.call ta ?_
  simp +decide (maxSteps := 9^7) only [go_sem]
  refine Runs.call tb ?_
  simp +decide (maxSteps := 9^7) only [go_sem]
  refine Runs.call hT ?_
  simp +decide (maxSteps := 9^7) only [go_sem]
  refine Runs.call hE ?_
  simp +decide (maxSteps := 9^7) only [hbb, go_sem]
  refine Runs.draw (st1 := ?s2) (draws_ref (ann := []) tabOk (byL [10, 11] [1000002, 1000003]) lmS2 (by kernel_rfl) ?p2) ?q2
  case p2 =>
   intro K r X hK
   simp +decide (maxSteps := 9^7) only [go_sem]
   repeat' (first | exact hK | apply And.intro | (refine Runs.call ta ?_; simp +decide (maxSteps := 9^7) only [go_sem]) | (refine Runs.call qa ?_; simp +decide (maxSteps := 9^7) only [go_sem]))
  case q2 =>
   simp +decide (maxSteps := 9^7) only [go_sem]
   refine Runs.draw (st1 := ?s3) (draws_ref (ann := []) tabOk (byL [10, 11] [1000002, 1000003]) lmS3 (by kernel_rfl) ?p3) ?q3
   case p3 =>
    intro K r X hK
    simp +decide (maxSteps := 9^7) only [go_sem]
    repeat' (first | exact hK | apply And.intro | (refine Runs.call tb ?_; simp +decide (maxSteps := 9^7) only [go_sem]) | (refine Runs.call qb ?_; simp +decide (maxSteps := 9^7) only [go_sem]))
   case q3 =>
    simp +decide (maxSteps := 9^7) only [go_sem]
    refine Runs.call hma ?_
    simp +decide (maxSteps := 9^7) only [hd, hd2, hbb, List.length_range, mkI_plainM, tk_mkM, go_sem]
    refine Runs.call hmb ?_
    simp +decide (maxSteps := 9^7) only [hd, hd2, hbb, List.length_range, mkI_plainM, tk_mkM, go_sem]
    refine Runs.call hE ?_
    simp +decide (maxSteps := 9^7) only [hd, hd2, hbb, List.length_range, mkI_plainM, tk_mkM, go_sem]
    refine Runs.call hB ?_
    simp +decide (maxSteps := 9^7) only [hd, hd2, hbb, List.length_range, mkI_plainM, tk_mkM, go_sem]
    refine Runs.call hH ?_
    simp +decide (maxSteps := 9^7) only [hd, hd2, hbb, List.length_range, mkI_plainM, tk_mkM, go_sem]
    refine Runs.draw (st1 := ?s4) (draws_ref (ann := []) tabOk (byL [10, 11] [1000002, 1000003]) lmS4 (by kernel_rfl) ?p4) ?q4
    case p4 =>
     intro K r X hK
     simp +decide (maxSteps := 9^7) only [go_sem]
     repeat' (first | exact hK | apply And.intro | (refine Runs.call ta ?_; simp +decide (maxSteps := 9^7) only [go_sem]) | (refine Runs.call tb ?_; simp +decide (maxSteps := 9^7) only [go_sem]) | (refine Runs.call hT ?_; simp +decide (maxSteps := 9^7) only [go_sem]))
    case q4 =>
     simp +decide (maxSteps := 9^7) only [hbb, List.length_range, mkI_plainM, tk_mkM, go_sem]
     refine Runs.call hE ?_
     simp +decide (maxSteps := 9^7) only [hd, hd2, hbb, List.length_range, mkI_plainM, tk_mkM, go_sem]
     refine Runs.call hH ?_
     simp +decide (maxSteps := 9^7) only [hd, hd2, hbb, List.length_range, mkI_plainM, tk_mkM, go_sem]
     exact Runs.ret_v
end Go.Proofs.W
