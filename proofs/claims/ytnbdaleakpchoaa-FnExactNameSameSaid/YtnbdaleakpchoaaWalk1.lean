import Derived.Test.YtnbdaleakpchoaaProg
import Derived.KernelRfl
import Derived.Lib.IndexLaws
import Derived.Lib.Strings
import Derived.Lib.Slices
import Derived.Lib.Walk
import Derived.Lib.Bytealg
import Derived.Shelf.Lays
import Derived.Shelf.Strings.FieldsFuncAny
import Derived.Shelf.Strings.OnBuilder
import Derived.Test.YtnbdaleakpchoaaMachine3
set_option linter.unusedVariables false
set_option linter.unusedSimpArgs false
namespace Go.Proofs.W
open Go Go.AM
/-- So many cells alike (kept folded). -/
def repV (n : Nat) (v : Value) : List Value := List.replicate n v
def tab : Go.AM.Tab := [
  [⟨.other, 0, 0, []⟩,
   ⟨.func, 1, 8, [.nilFunc]⟩,
   ⟨.int .i64, 1, 8, [.int .i64 0]⟩,
   ⟨.int .i64, 1, 8, [.int .i64 0]⟩,
   ⟨.bool, 1, 1, [.bool false]⟩,
   ⟨.int .u8, 1, 1, [.int .u8 0]⟩,
   ⟨.int .u8, 1, 1, [.int .u8 0]⟩,
   ⟨.struct [(0, 1, 2), (1, 1, 3), (2, 1, 4), (3, 1, 6)], 4, 24, [.int .i64 0, .int .i64 0, .bool false, .int .u8 0]⟩,
   ⟨.struct [(0, 1, 2), (1, 1, 3), (2, 1, 4), (3, 1, 6)], 4, 24, [.int .i64 0, .int .i64 0, .bool false, .int .u8 0]⟩,
   ⟨.string, 1, 16, [.string ⟨#[]⟩]⟩,
   ⟨.string, 1, 16, [.string ⟨#[]⟩]⟩,
   ⟨.string, 1, 16, [.string ⟨#[]⟩]⟩,
   ⟨.int .u64, 1, 8, [.int .u64 0]⟩,
   ⟨.struct [(0, 1, 9), (1, 1, 12)], 2, 24, [.string ⟨#[]⟩, .int .u64 0]⟩,
   ⟨.struct [(0, 1, 9), (1, 1, 12)], 2, 24, [.string ⟨#[]⟩, .int .u64 0]⟩,
   ⟨.pointer 50, 1, 8, [.pointer none]⟩],
  [⟨.pointer 53, 1, 8, [.pointer none]⟩,
   ⟨.pointer 62, 1, 8, [.pointer none]⟩,
   ⟨.struct [(0, 1, 17)], 1, 8, [.pointer none]⟩,
   ⟨.struct [(0, 1, 17)], 1, 8, [.pointer none]⟩,
   ⟨.other, 0, 0, []⟩,
   ⟨.int .i32, 1, 4, [.int .i32 0]⟩,
   ⟨.slice 9, 1, 24, [.slice none 0 0]⟩,
   ⟨.func, 1, 8, [.nilFunc]⟩,
   ⟨.func, 1, 8, [.nilFunc]⟩,
   ⟨.func, 1, 8, [.nilFunc]⟩,
   ⟨.func, 1, 8, [.nilFunc]⟩,
   ⟨.func, 1, 8, [.nilFunc]⟩,
   ⟨.func, 1, 8, [.nilFunc]⟩,
   ⟨.slice 5, 1, 24, [.slice none 0 0]⟩,
   ⟨.func, 1, 8, [.nilFunc]⟩,
   ⟨.func, 1, 8, [.nilFunc]⟩],
  [⟨.func, 1, 8, [.nilFunc]⟩,
   ⟨.slice 35, 1, 24, [.slice none 0 0]⟩,
   ⟨.struct [(0, 1, 3), (1, 1, 3)], 2, 16, [.int .i64 0, .int .i64 0]⟩,
   ⟨.struct [(0, 1, 3), (1, 1, 3)], 2, 16, [.int .i64 0, .int .i64 0]⟩,
   ⟨.pointer 38, 1, 8, [.pointer none]⟩,
   ⟨.struct [(0, 1, 36), (1, 1, 29)], 2, 32, [.pointer none, .slice none 0 0]⟩,
   ⟨.struct [(0, 1, 36), (1, 1, 29)], 2, 32, [.pointer none, .slice none 0 0]⟩,
   ⟨.func, 1, 8, [.nilFunc]⟩,
   ⟨.other, 0, 0, []⟩,
   ⟨.other, 0, 0, []⟩,
   ⟨.other, 0, 0, []⟩,
   ⟨.func, 1, 8, [.nilFunc]⟩,
   ⟨.func, 1, 8, [.nilFunc]⟩,
   ⟨.pointer 5, 1, 8, [.pointer none]⟩,
   ⟨.other, 0, 0, []⟩,
   ⟨.func, 1, 8, [.nilFunc]⟩],
  [⟨.func, 1, 8, [.nilFunc]⟩,
   ⟨.struct [(0, 1, 17), (1, 1, 17), (2, 1, 17), (3, 1, 9)], 4, 40, [.pointer none, .pointer none, .pointer none, .string ⟨#[]⟩]⟩,
   ⟨.struct [(0, 1, 17), (1, 1, 17), (2, 1, 17), (3, 1, 9)], 4, 40, [.pointer none, .pointer none, .pointer none, .string ⟨#[]⟩]⟩,
   ⟨.other, 0, 0, []⟩,
   ⟨.other, 0, 0, []⟩,
   ⟨.other, 0, 0, []⟩,
   ⟨.func, 1, 8, [.nilFunc]⟩,
   ⟨.int .u32, 1, 4, [.int .u32 0]⟩,
   ⟨.int .u8, 1, 1, [.int .u8 0]⟩,
   ⟨.int .u8, 1, 1, [.int .u8 0]⟩,
   ⟨.func, 1, 8, [.nilFunc]⟩,
   ⟨.int .i32, 1, 4, [.int .i32 0]⟩,
   ⟨.int .i32, 1, 4, [.int .i32 0]⟩,
   ⟨.struct [(0, 1, 12), (1, 1, 12), (2, 1, 55), (3, 1, 56), (4, 1, 5), (5, 1, 5), (6, 1, 57), (7, 1, 58), (8, 1, 45), (9, 1, 59), (10, 1, 60)], 11, 48, [.int .u64 0, .int .u64 0, .int .u32 0, .int .u8 0, .int .u8 0, .int .u8 0, .int .u8 0, .nilFunc, .pointer none, .int .i32 0, .int .i32 0]⟩,
   ⟨.struct [(0, 1, 12), (1, 1, 12), (2, 1, 55), (3, 1, 56), (4, 1, 5), (5, 1, 5), (6, 1, 57), (7, 1, 58), (8, 1, 45), (9, 1, 59), (10, 1, 60)], 11, 48, [.int .u64 0, .int .u64 0, .int .u32 0, .int .u8 0, .int .u8 0, .int .u8 0, .int .u8 0, .nilFunc, .pointer none, .int .i32 0, .int .i32 0]⟩,
   ⟨.other, 0, 0, []⟩]]
theorem tabOk : TabOk Try.prog tab := tabOk_of (by kernel_rfl)
theorem row2 : tab.row 2 = ⟨.int .i64, 1, 8, [.int .i64 0]⟩ := Eq.trans rfl rfl
theorem row3 : tab.row 3 = ⟨.int .i64, 1, 8, [.int .i64 0]⟩ := Eq.trans rfl rfl
theorem row4 : tab.row 4 = ⟨.bool, 1, 1, [.bool false]⟩ := Eq.trans rfl rfl
theorem row5 : tab.row 5 = ⟨.int .u8, 1, 1, [.int .u8 0]⟩ := Eq.trans rfl rfl
theorem row6 : tab.row 6 = ⟨.int .u8, 1, 1, [.int .u8 0]⟩ := Eq.trans rfl rfl
theorem row7 : tab.row 7 = ⟨.struct [(0, 1, 2), (1, 1, 3), (2, 1, 4), (3, 1, 6)], 4, 24, [.int .i64 0, .int .i64 0, .bool false, .int .u8 0]⟩ := Eq.trans rfl rfl
theorem row8 : tab.row 8 = ⟨.struct [(0, 1, 2), (1, 1, 3), (2, 1, 4), (3, 1, 6)], 4, 24, [.int .i64 0, .int .i64 0, .bool false, .int .u8 0]⟩ := Eq.trans rfl rfl
theorem row9 : tab.row 9 = ⟨.string, 1, 16, [.string ⟨#[]⟩]⟩ := Eq.trans rfl rfl
theorem row10 : tab.row 10 = ⟨.string, 1, 16, [.string ⟨#[]⟩]⟩ := Eq.trans rfl rfl
theorem row11 : tab.row 11 = ⟨.string, 1, 16, [.string ⟨#[]⟩]⟩ := Eq.trans rfl rfl
theorem row12 : tab.row 12 = ⟨.int .u64, 1, 8, [.int .u64 0]⟩ := Eq.trans rfl rfl
theorem row13 : tab.row 13 = ⟨.struct [(0, 1, 9), (1, 1, 12)], 2, 24, [.string ⟨#[]⟩, .int .u64 0]⟩ := Eq.trans rfl rfl
theorem row14 : tab.row 14 = ⟨.struct [(0, 1, 9), (1, 1, 12)], 2, 24, [.string ⟨#[]⟩, .int .u64 0]⟩ := Eq.trans rfl rfl
theorem row15 : tab.row 15 = ⟨.pointer 50, 1, 8, [.pointer none]⟩ := Eq.trans rfl rfl
theorem row16 : tab.row 16 = ⟨.pointer 53, 1, 8, [.pointer none]⟩ := Eq.trans rfl rfl
theorem row17 : tab.row 17 = ⟨.pointer 62, 1, 8, [.pointer none]⟩ := Eq.trans rfl rfl
theorem row18 : tab.row 18 = ⟨.struct [(0, 1, 17)], 1, 8, [.pointer none]⟩ := Eq.trans rfl rfl
theorem row19 : tab.row 19 = ⟨.struct [(0, 1, 17)], 1, 8, [.pointer none]⟩ := Eq.trans rfl rfl
theorem row21 : tab.row 21 = ⟨.int .i32, 1, 4, [.int .i32 0]⟩ := Eq.trans rfl rfl
theorem row22 : tab.row 22 = ⟨.slice 9, 1, 24, [.slice none 0 0]⟩ := Eq.trans rfl rfl
theorem row29 : tab.row 29 = ⟨.slice 5, 1, 24, [.slice none 0 0]⟩ := Eq.trans rfl rfl
theorem row33 : tab.row 33 = ⟨.slice 35, 1, 24, [.slice none 0 0]⟩ := Eq.trans rfl rfl
theorem row34 : tab.row 34 = ⟨.struct [(0, 1, 3), (1, 1, 3)], 2, 16, [.int .i64 0, .int .i64 0]⟩ := Eq.trans rfl rfl
theorem row35 : tab.row 35 = ⟨.struct [(0, 1, 3), (1, 1, 3)], 2, 16, [.int .i64 0, .int .i64 0]⟩ := Eq.trans rfl rfl
theorem row36 : tab.row 36 = ⟨.pointer 38, 1, 8, [.pointer none]⟩ := Eq.trans rfl rfl
theorem row37 : tab.row 37 = ⟨.struct [(0, 1, 36), (1, 1, 29)], 2, 32, [.pointer none, .slice none 0 0]⟩ := Eq.trans rfl rfl
theorem row38 : tab.row 38 = ⟨.struct [(0, 1, 36), (1, 1, 29)], 2, 32, [.pointer none, .slice none 0 0]⟩ := Eq.trans rfl rfl
theorem row45 : tab.row 45 = ⟨.pointer 5, 1, 8, [.pointer none]⟩ := Eq.trans rfl rfl
theorem row49 : tab.row 49 = ⟨.struct [(0, 1, 17), (1, 1, 17), (2, 1, 17), (3, 1, 9)], 4, 40, [.pointer none, .pointer none, .pointer none, .string ⟨#[]⟩]⟩ := Eq.trans rfl rfl
theorem row50 : tab.row 50 = ⟨.struct [(0, 1, 17), (1, 1, 17), (2, 1, 17), (3, 1, 9)], 4, 40, [.pointer none, .pointer none, .pointer none, .string ⟨#[]⟩]⟩ := Eq.trans rfl rfl
theorem row55 : tab.row 55 = ⟨.int .u32, 1, 4, [.int .u32 0]⟩ := Eq.trans rfl rfl
theorem row56 : tab.row 56 = ⟨.int .u8, 1, 1, [.int .u8 0]⟩ := Eq.trans rfl rfl
theorem row57 : tab.row 57 = ⟨.int .u8, 1, 1, [.int .u8 0]⟩ := Eq.trans rfl rfl
theorem row59 : tab.row 59 = ⟨.int .i32, 1, 4, [.int .i32 0]⟩ := Eq.trans rfl rfl
theorem row60 : tab.row 60 = ⟨.int .i32, 1, 4, [.int .i32 0]⟩ := Eq.trans rfl rfl
theorem row61 : tab.row 61 = ⟨.struct [(0, 1, 12), (1, 1, 12), (2, 1, 55), (3, 1, 56), (4, 1, 5), (5, 1, 5), (6, 1, 57), (7, 1, 58), (8, 1, 45), (9, 1, 59), (10, 1, 60)], 11, 48, [.int .u64 0, .int .u64 0, .int .u32 0, .int .u8 0, .int .u8 0, .int .u8 0, .int .u8 0, .nilFunc, .pointer none, .int .i32 0, .int .i32 0]⟩ := Eq.trans rfl rfl
theorem row62 : tab.row 62 = ⟨.struct [(0, 1, 12), (1, 1, 12), (2, 1, 55), (3, 1, 56), (4, 1, 5), (5, 1, 5), (6, 1, 57), (7, 1, 58), (8, 1, 45), (9, 1, 59), (10, 1, 60)], 11, 48, [.int .u64 0, .int .u64 0, .int .u32 0, .int .u8 0, .int .u8 0, .int .u8 0, .int .u8 0, .nilFunc, .pointer none, .int .i32 0, .int .i32 0]⟩ := Eq.trans rfl rfl
attribute [go_sem] row2 row3 row4 row5 row6 row7 row8 row9 row10 row11 row12 row13 row14 row15 row16 row17 row18 row19 row21 row22 row29 row33 row34 row35 row36 row37 row38 row45 row49 row50 row55 row56 row57 row59 row60 row61 row62
end Go.Proofs.W

namespace Go.Proofs.W
open Go Go.AM
set_option linter.unusedSimpArgs false
set_option linter.unusedVariables false
variable (hm : Try.prog.follows .mixedOrders = true)

def inB (n a b : Int) : Bool := decide (a ≤ n) && decide (n ≤ b)
end Go.Proofs.W

namespace Go.Proofs.W
open Go Go.AM
set_option linter.unusedSimpArgs false
set_option linter.unusedVariables false

def mkS (l : List UInt8) : ByteArray := ⟨l.toArray⟩
theorem mkS_list (s : ByteArray) : mkS s.data.toList = s := by cases s; simp [mkS]
theorem mkS_size (l : List UInt8) : (mkS l).size = l.length := by simp [mkS, ByteArray.size]
theorem mkS_data (l : List UInt8) : (mkS l).data.toList = l := by simp [mkS]
theorem list_size (s : ByteArray) : s.data.toList.length = s.size := by rw [Array.length_toList]; rfl
theorem ext_list (s : ByteArray) (a b : Nat) : (s.extract a b).data.toList = (s.data.toList.drop a).take (b - a) := by
  rw [ByteArray.data_extract]; simp [List.extract_eq_take_drop]
theorem getD_lt {l : List UInt8} {i : Nat} (h : i < l.length) : l.getD i 0 = l[i] := by rw [List.getD, List.getElem?_eq_getElem h]; rfl
theorem mkS_ext (s : ByteArray) (a b : Nat) : s.extract a b = mkS ((s.data.toList.drop a).take (b - a)) := by
  rw [← ext_list, mkS_list]
theorem mkS_inj {a b : List UInt8} (h : mkS a = mkS b) : a = b := by rw [← mkS_data a, h, mkS_data]

/-- The parts of a text between marks. -/
def partsL (c : UInt8) : List UInt8 → List (List UInt8)
  | [] => [[]]
  | b :: l => if b = c then [] :: partsL c l else match partsL c l with
    | [] => [[b]]
    | p :: r => (b :: p) :: r
theorem partsL_ne (c : UInt8) (l : List UInt8) : partsL c l ≠ [] := by
  cases l with
  | nil => simp [partsL]
  | cons b l => unfold partsL; split; simp; split <;> simp
theorem partsL_cut (c : UInt8) : ∀ (p r : List UInt8), (∀ b ∈ p, b ≠ c) → partsL c (p ++ c :: r) = p :: partsL c r
  | [], r, _ => by simp [partsL]
  | b :: p, r, h => by
    rw [List.cons_append, partsL, if_neg (h b (by simp)), partsL_cut c p r fun x hx => h x (by simp [hx])]
theorem partsL_no (c : UInt8) : ∀ (p : List UInt8), (∀ b ∈ p, b ≠ c) → partsL c p = [p]
  | [], _ => by simp [partsL]
  | b :: p, h => by
    rw [partsL, if_neg (h b (by simp)), partsL_no c p fun x hx => h x (by simp [hx])]
theorem partsL_len (c : UInt8) : ∀ l : List UInt8, (partsL c l).length = l.count c + 1
  | [] => by simp [partsL]
  | b :: l => by
    have ih := partsL_len c l
    unfold partsL
    split
    · rename_i h; subst h; simp [ih]
    · rename_i h
      rw [List.count_cons_of_ne (by simpa using h)]
      split
      · rename_i e; rw [e] at ih; simp at ih
      · rename_i p r e; rw [e] at ih; simpa using ih
theorem partsL_sum (c : UInt8) : ∀ (l : List UInt8), ∀ p ∈ partsL c l, p.length ≤ l.length
  | [], p, h => by simp [partsL] at h; simp [h]
  | b :: l, p, h => by
    have ih := partsL_sum c l
    unfold partsL at h
    split at h
    · rcases List.mem_cons.mp h with h | h
      · simp [h]
      · have := ih p h; simp; omega
    · split at h
      · simp at h; simp [h]
      · rename_i q r e
        rw [e] at ih
        rcases List.mem_cons.mp h with h | h
        · have := ih q (by simp); simp [h]; omega
        · have := ih p (by simp [h]); simp; omega
theorem idx_none {c : UInt8} {l : List UInt8} (h : Lib.indexByte l c = -1) : ∀ b ∈ l, b ≠ c := by
  intro b hb e
  obtain ⟨i, hi, e2⟩ := List.getElem_of_mem hb
  exact Lib.indexByte_none h i (by rw [List.getElem?_eq_getElem hi, e2, e])
theorem idx_some {c : UInt8} {l : List UInt8} {m : Nat} (h : Lib.indexByte l c = m) : ∃ p r, l = p ++ c :: r ∧ p.length = m ∧ ∀ b ∈ p, b ≠ c := by
  obtain ⟨h1, h2⟩ := Lib.indexByte_some h
  obtain ⟨hm, e⟩ := List.getElem?_eq_some_iff.mp h1
  refine ⟨l.take m, l.drop (m + 1), ?_, by simp; omega, ?_⟩
  · rw [← e, ← List.drop_eq_getElem_cons hm, List.take_append_drop]
  · intro b hb e2
    obtain ⟨i, hi, e3⟩ := List.getElem_of_mem hb
    simp at hi
    rw [List.getElem_take] at e3
    exact h2 i (by omega) (by rw [List.getElem?_eq_getElem (by omega), e3, e2])
theorem count_none {c : UInt8} {l : List UInt8} (h : l.count c = 0) : ∀ b ∈ l, b ≠ c := by
  intro b hb e
  subst e
  exact absurd (List.count_pos_iff.mpr hb) (by omega)
theorem count_cut {c : UInt8} {p r : List UInt8} (h : ∀ b ∈ p, b ≠ c) : (p ++ c :: r).count c = r.count c + 1 := by
  rw [List.count_append, List.count_cons_self, List.count_eq_zero.mpr fun hc => h c hc rfl]; omega

def partsB (s : ByteArray) : List ByteArray := (partsL 46 s.data.toList).map mkS
theorem partsB_len (s : ByteArray) : (partsB s).length = s.data.toList.count 46 + 1 := by simp [partsB, partsL_len]
theorem partsB_le (s : ByteArray) : (partsB s).length ≤ s.size + 1 := by
  rw [partsB_len, ← list_size]
  have := List.count_le_length (a := (46 : UInt8)) (l := s.data.toList)
  omega
theorem partsB_sz (s : ByteArray) : ∀ p ∈ partsB s, p.size ≤ s.size := by
  intro p hp
  obtain ⟨q, hq, rfl⟩ := List.mem_map.mp hp
  rw [mkS_size, ← list_size]
  exact partsL_sum 46 _ q hq

def digC (b : UInt8) : Bool := inB b.toNat 48 57
def dashC (b : UInt8) : Bool := decide ((b.toNat : Int) = 45)
def okC (b : UInt8) : Bool := inB b.toNat 97 122 || digC b || dashC b
def labelB (s : ByteArray) : Bool := s.data.toList.all okC && inB s.size 1 20 && !dashC (s.data.toList.getD 0 0) && !dashC (s.data.toList.getD (s.size - 1) 0)
def digitsB (s : ByteArray) : Bool := s.data.toList.all digC && decide ((s.size : Int) > 0)
def lastB (L : List ByteArray) : ByteArray := L.getD (L.length - 1) ⟨#[]⟩
def hostB (s : ByteArray) : Bool := decide (s.size ≤ 80) && (partsB s).all labelB && decide ((partsB s).length ≤ 8) && !(lastB (partsB s)).data.toList.all digC
def dotC (b : UInt8) : Bool := decide ((b.toNat : Int) = 46)
def underB (b h : ByteArray) : Bool := hostB b && hostB h && ((b.toList == h.toList) || (decide ((h.size : Int) - b.size > 0) && ((h.extract (h.size - b.size) h.size).toList == b.toList) && dotC (h.data.toList.getD (h.size - b.size - 1) 0)))
def allowedB (al de : List ByteArray) (h : ByteArray) : Bool := hostB h && (decide (al.length = 0) || al.any fun b => underB b h) && !(de.any fun b => underB b h)
end Go.Proofs.W

namespace Go.Proofs.W
open Go Go.AM
set_option linter.unusedSimpArgs false
set_option linter.unusedVariables false
variable (hm : Try.prog.follows .mixedOrders = true)

def lowU (b : UInt8) : UInt8 := if 65 ≤ b.toNat ∧ b.toNat ≤ 90 then UInt8.ofNat (b.toNat + 32) else b
def lowerB (s : ByteArray) : ByteArray := mkS (s.data.toList.map lowU)
theorem lowU_nat (b : UInt8) : ((lowU b).toNat : Int) = if 65 ≤ (b.toNat : Int) ∧ (b.toNat : Int) ≤ 90 then (b.toNat : Int) + 32 else b.toNat := by
  unfold lowU
  have := UInt8.toNat_lt b
  by_cases h : 65 ≤ b.toNat ∧ b.toNat ≤ 90
  · rw [if_pos h, if_pos (by omega)]
    rw [UInt8.toNat_ofNat_of_lt' (by show _ < 256; omega)]; omega
  · rw [if_neg h, if_neg (by omega)]
theorem bytes_all (l : List UInt8) : (l.map byteA).all isByte = true := by
  rw [List.all_map, List.all_eq_true]
  intro b _
  have := UInt8.toNat_lt b
  simp [byteA, isByte]; omega
theorem bytes_back (l : List UInt8) : (l.map byteA).map AM.byteOf = l := by
  rw [List.map_map]
  conv => rhs; rw [← List.map_id l]
  refine List.map_congr_left fun b _ => ?_
  simp [byteA, AM.byteOf]
def lowRow (s : ByteArray) (i : Nat) : List A := ((s.data.toList.take i).map lowU).map byteA
theorem lowRow_zero (s : ByteArray) : lowRow s 0 = [] := by simp [lowRow]
theorem lowRow_all (s : ByteArray) : lowRow s s.size = (s.data.toList.map lowU).map byteA := by rw [lowRow, List.take_of_length_le (by rw [list_size]; exact Nat.le_refl _)]
def slAnn : Ann := [(0, [0, 3, 4])]
def slSt (s : ByteArray) (i : Nat) : St := ⟨[.v (.string s), .any, .any, .ms (.l 0) 0 i i, .v (.int .i64 i), .any, .any, .any, .any, .any, .any, .any, .any, .any, .any, .any, .any, .any, .any, .any, .any, .any, .any, .any, .any, .any, .any, .any, .any, .any, .any], [(0, ⟨true, 1, false, lowRow s i⟩)], []⟩
set_option maxHeartbeats 1000000 in
set_option maxRecDepth 10000 in
include hm in
theorem sLower (s : ByteArray) (h : s.size ≤ 1073741823) : Holds Try.prog 13 [.v (.string s)] [] (.v (.string (lowerB s))) [] := by
  refine holds_of (ann := slAnn) tabOk hm Try.func13 (by kernel_rfl) rfl ?_
  simp (decide := true) only [Try.f13, go_sem, Nat.reduceAdd, Nat.reduceMul, Nat.reduceSub]
  have hz := list_size s
  refine Runs.while (α := Nat) (slSt s) (fun i => s.size - i) (fun i => i ≤ s.size) 0 (by omega) ?_ ?_
  · simp [go_sem, slAnn, slSt, lowRow_zero]
  · intro i hi ih
    have hlen : (lowRow s i).length = i := by simp [lowRow]; omega
    simp (decide := true) only [slSt, hlen, go_sem, Nat.reduceAdd, Nat.reduceMul, Nat.reduceSub]
    refine Runs.split (fun h => ?_) (fun h => ?_)
    · have hlt : i < s.data.toList.length := by simp at h; omega
      obtain ⟨c, hc⟩ : ∃ c, s.data.toList[i] = c := ⟨_, rfl⟩
      have hg : s.data.toList.getD i 0 = c := (getD_lt hlt).trans hc
      have hb := UInt8.toNat_lt c
      have hn := lowU_nat c
      have hnext : lowRow s i ++ [.v (.int .u8 ((lowU c).toNat : Int))] = lowRow s (i + 1) := by
        rw [lowRow, lowRow, List.take_succ_eq_append_getElem hlt, hc]; simp [byteA]
      simp (decide := true) (disch := first | omega | (simp only [List.length_map, List.length_cons, List.length_append, List.length_nil]; omega)) only [hg, hlen, if_pos, go_sem, Nat.reduceAdd, Nat.reduceMul, Nat.reduceSub]
      cases h1 : decide ((c.toNat : Int) ≥ 65)
      · have e : ((lowU c).toNat : Int) = c.toNat := by rw [hn, if_neg (by simp only [decide_eq_false_iff_not] at h1; omega)]
        rw [e] at hnext
        simp (decide := true) (disch := first | omega | (simp only [List.length_map, List.length_cons, List.length_append, List.length_nil]; omega)) only [hlen, if_pos, go_sem, Nat.reduceAdd, Nat.reduceMul, Nat.reduceSub]
        refine ih (i + 1) _ (by omega) (by omega) ?_
        simp [go_sem, slAnn, slSt, hnext]
      · simp (decide := true) (disch := first | omega | (simp only [List.length_map, List.length_cons, List.length_append, List.length_nil]; omega)) only [if_pos, go_sem, Nat.reduceAdd, Nat.reduceMul, Nat.reduceSub]
        cases h2 : decide ((c.toNat : Int) ≤ 90)
        · have e : ((lowU c).toNat : Int) = c.toNat := by rw [hn, if_neg (by simp only [decide_eq_false_iff_not] at h2; omega)]
          rw [e] at hnext
          simp (decide := true) (disch := first | omega | (simp only [List.length_map, List.length_cons, List.length_append, List.length_nil]; omega)) only [hlen, if_pos, go_sem, Nat.reduceAdd, Nat.reduceMul, Nat.reduceSub]
          refine ih (i + 1) _ (by omega) (by omega) ?_
          simp [go_sem, slAnn, slSt, hnext]
        · have e : ((lowU c).toNat : Int) = (c.toNat : Int) + 97 - 65 := by rw [hn, if_pos (by simp only [decide_eq_true_eq] at h1 h2; omega)]; omega
          rw [e] at hnext
          have w1 : IntKind.u8.wrap ((c.toNat : Int) + 97) = (c.toNat : Int) + 97 := by
            simp only [decide_eq_true_eq] at h1 h2; unfold IntKind.wrap; simp [IntKind.bits, IntKind.signed]; omega
          have w2 : IntKind.u8.wrap ((c.toNat : Int) + 97 - 65) = (c.toNat : Int) + 97 - 65 := by
            simp only [decide_eq_true_eq] at h1 h2; unfold IntKind.wrap; simp [IntKind.bits, IntKind.signed]; omega
          simp (decide := true) (disch := first | omega | (simp only [List.length_map, List.length_cons, List.length_append, List.length_nil]; omega)) only [hlen, w1, w2, if_pos, go_sem, Nat.reduceAdd, Nat.reduceMul, Nat.reduceSub]
          refine ih (i + 1) _ (by omega) (by omega) ?_
          simp [go_sem, slAnn, slSt, hnext]
    · have hge : i = s.size := by simp at h; omega
      subst hge
      have htk : List.take s.size (lowRow s s.size) = lowRow s s.size := List.take_of_length_le (by rw [hlen]; exact Nat.le_refl _)
      have ha : (lowRow s s.size).all isByte = true := by rw [lowRow_all]; exact bytes_all _
      have hbk : (lowRow s s.size).map AM.byteOf = s.data.toList.map lowU := by rw [lowRow_all]; exact bytes_back _
      have t0 : Int.toNat 0 = 0 := rfl
      simp (decide := true) (disch := first | omega | (simp only [List.length_map, List.length_cons, List.length_append, List.length_nil]; omega)) only [hlen, htk, ha, hbk, List.drop_zero, if_pos, go_sem, Nat.reduceAdd, Nat.reduceMul, Nat.reduceSub]
      exact Runs.ret_eq rfl
def mixRow (s : ByteArray) (i : Nat) : List A := ((s.data.toList.take i).map lowU ++ s.data.toList.drop i).map byteA
theorem mixRow_zero (s : ByteArray) : mixRow s 0 = s.data.toList.map byteA := by simp [mixRow]
theorem mixRow_len {s : ByteArray} {i : Nat} (h : i ≤ s.size) : (mixRow s i).length = s.size := by simp only [mixRow, List.length_map, List.length_append, List.length_take, List.length_drop]; have := list_size s; omega
theorem mixRow_all (s : ByteArray) : mixRow s s.size = (s.data.toList.map lowU).map byteA := by
  rw [mixRow, List.take_of_length_le (by rw [list_size]; exact Nat.le_refl _), List.drop_of_length_le (by rw [list_size]; exact Nat.le_refl _), List.append_nil]
theorem mixRow_get {s : ByteArray} {i : Nat} (h : i < s.data.toList.length) : (mixRow s i).getD i .any = .v (.int .u8 (s.data.toList[i].toNat : Int)) := by
  have hl : ((s.data.toList.take i).map lowU).length = i := by rw [List.length_map, List.length_take]; omega
  rw [mixRow, List.getD, List.getElem?_map, List.getElem?_append_right (by omega), hl, Nat.sub_self, List.getElem?_drop, Nat.add_zero, List.getElem?_eq_getElem h]
  rfl
theorem mixRow_same {s : ByteArray} {i : Nat} (h : i < s.data.toList.length) (e : lowU s.data.toList[i] = s.data.toList[i]) : mixRow s i = mixRow s (i + 1) := by
  rw [mixRow, mixRow, List.drop_eq_getElem_cons h, List.take_succ_eq_append_getElem h]
  simp only [List.map_append, List.map_cons, List.map_nil, e, List.append_assoc, List.cons_append, List.nil_append]
theorem mixRow_set {s : ByteArray} {i : Nat} (h : i < s.data.toList.length) : (mixRow s i).set i (.v (.int .u8 ((lowU s.data.toList[i]).toNat : Int))) = mixRow s (i + 1) := by
  have hl : (((s.data.toList.take i).map lowU).map byteA).length = i := by rw [List.length_map, List.length_map, List.length_take]; omega
  rw [mixRow, mixRow, List.map_append, List.set_append_right _ _ (by omega), hl, Nat.sub_self, List.drop_eq_getElem_cons h, List.map_cons, List.set_cons_zero, List.take_succ_eq_append_getElem h]
  simp [byteA]
def ilwAnn : Ann := [(0, [0, 3, 8, 9, 10])]
def ilwSt (s : ByteArray) (i : Nat) : St := ⟨[.v (.string s), .any, .any, .ms (.l 0) 0 s.size s.size, .any, .any, .any, .any, .ms (.l 0) 0 s.size s.size, .v (.int .i64 s.size), .v (.int .i64 i), .any, .any, .any, .any, .any, .any, .any, .any, .any, .any, .any, .any, .any, .any, .any, .any, .any, .any, .any], [(0, ⟨true, 1, false, mixRow s i⟩)], []⟩
set_option maxHeartbeats 1000000 in
set_option maxRecDepth 10000 in
include hm in
theorem iLower (s : ByteArray) (h : s.size ≤ 1073741823) : Holds Try.prog 15 [.v (.string s)] [] (.v (.string (lowerB s))) [] := by
  refine holds_of (ann := ilwAnn) tabOk hm Try.func15 (by kernel_rfl) rfl ?_
  have hz := list_size s
  have hlz : (s.data.toList.map byteA).length = s.size := by rw [List.length_map, hz]
  simp (decide := true) (disch := first | omega | (simp only [List.length_map, List.length_cons, List.length_append, List.length_nil]; omega)) only [Try.f15, hlz, if_pos, go_sem, Nat.reduceAdd, Nat.reduceMul, Nat.reduceSub]
  refine Runs.while (α := Nat) (ilwSt s) (fun i => s.size - i) (fun i => i ≤ s.size) 0 (by omega) ?_ ?_
  · simp [go_sem, ilwAnn, ilwSt, mixRow_zero]
  · intro i hi ih
    have hlen := mixRow_len hi
    simp (decide := true) only [ilwSt, hlen, go_sem, Nat.reduceAdd, Nat.reduceMul, Nat.reduceSub]
    refine Runs.split (fun h => ?_) (fun h => ?_)
    · have hlt : i < s.data.toList.length := by simp at h; omega
      have hgt := mixRow_get hlt
      have hst := mixRow_set hlt
      have hsm := mixRow_same hlt
      have hn := lowU_nat s.data.toList[i]
      obtain ⟨c, hc⟩ : ∃ c, s.data.toList[i] = c := ⟨_, rfl⟩
      rw [hc] at hgt hst hsm hn
      have hb := UInt8.toNat_lt c
      simp (decide := true) (disch := first | omega | (simp only [List.length_map, List.length_cons, List.length_append, List.length_nil]; omega)) only [hlen, hgt, if_pos, go_sem, Nat.reduceAdd, Nat.reduceMul, Nat.reduceSub]
      cases h1 : decide ((c.toNat : Int) ≥ 65)
      · have e : lowU c = c := by unfold lowU; rw [if_neg (by simp only [decide_eq_false_iff_not] at h1; omega)]
        simp (decide := true) (disch := first | omega | (simp only [List.length_map, List.length_cons, List.length_append, List.length_nil]; omega)) only [hlen, if_pos, go_sem, Nat.reduceAdd, Nat.reduceMul, Nat.reduceSub]
        refine ih (i + 1) _ (by omega) (by omega) ?_
        simp [go_sem, ilwAnn, ilwSt, hsm e]
      · simp (decide := true) (disch := first | omega | (simp only [List.length_map, List.length_cons, List.length_append, List.length_nil]; omega)) only [if_pos, go_sem, Nat.reduceAdd, Nat.reduceMul, Nat.reduceSub]
        cases h2 : decide ((c.toNat : Int) ≤ 90)
        · have e : lowU c = c := by unfold lowU; rw [if_neg (by simp only [decide_eq_false_iff_not] at h2; omega)]
          simp (decide := true) (disch := first | omega | (simp only [List.length_map, List.length_cons, List.length_append, List.length_nil]; omega)) only [hlen, if_pos, go_sem, Nat.reduceAdd, Nat.reduceMul, Nat.reduceSub]
          refine ih (i + 1) _ (by omega) (by omega) ?_
          simp [go_sem, ilwAnn, ilwSt, hsm e]
        · have e : ((lowU c).toNat : Int) = (c.toNat : Int) + 97 - 65 := by rw [hn, if_pos (by simp only [decide_eq_true_eq] at h1 h2; omega)]; omega
          rw [e] at hst
          have w1 : IntKind.u8.wrap ((c.toNat : Int) + 97) = (c.toNat : Int) + 97 := by
            simp only [decide_eq_true_eq] at h1 h2; unfold IntKind.wrap; simp [IntKind.bits, IntKind.signed]; omega
          have w2 : IntKind.u8.wrap ((c.toNat : Int) + 97 - 65) = (c.toNat : Int) + 97 - 65 := by
            simp only [decide_eq_true_eq] at h1 h2; unfold IntKind.wrap; simp [IntKind.bits, IntKind.signed]; omega
          simp (decide := true) (disch := first | omega | (simp only [List.length_map, List.length_cons, List.length_append, List.length_nil]; omega)) only [hlen, hgt, hst, w1, w2, if_pos, go_sem, Nat.reduceAdd, Nat.reduceMul, Nat.reduceSub]
          refine ih (i + 1) _ (by omega) (by omega) ?_
          simp [go_sem, ilwAnn, ilwSt, hst]
    · have hge : i = s.size := by simp at h; omega
      subst hge
      have htk : List.take s.size (mixRow s s.size) = mixRow s s.size := List.take_of_length_le (by rw [hlen]; exact Nat.le_refl _)
      have ha : (mixRow s s.size).all isByte = true := by rw [mixRow_all]; exact bytes_all _
      have hbk : (mixRow s s.size).map AM.byteOf = s.data.toList.map lowU := by rw [mixRow_all]; exact bytes_back _
      simp (decide := true) (disch := first | omega | (simp only [List.length_map, List.length_cons, List.length_append, List.length_nil]; omega)) only [hlen, htk, ha, hbk, List.drop_zero, if_pos, go_sem, Nat.reduceAdd, Nat.reduceMul, Nat.reduceSub]
      exact Runs.ret_eq rfl
end Go.Proofs.W

namespace Go.Proofs.W
open Go Go.AM
set_option linter.unusedSimpArgs false
set_option linter.unusedVariables false
variable (hm : Try.prog.follows .mixedOrders = true)

theorem repL_vs {C : Ctx} {w : World} : ∀ {vs xs : List Value} {f}, RepL C w (vs.map A.v) xs f → xs = vs ∧ ∀ b, f b = 0
  | [], _, _, h => by cases h with | nil h => exact ⟨rfl, h⟩
  | v :: vs, _, _, h => by
    rw [List.map_cons] at h
    cases h with | v h => have := repL_vs h; exact ⟨by rw [this.1], this.2⟩

/-- A function of Go's library whose contract the kit's walker has shown: values in, a value out, the world as it was. -/
theorem holds_same {P : Program} {f : Nat} {vs : List Value} {r : Value} (hf : ∃ fn c, P.funcs[f]? = some fn ∧ (fn.name == "runtime.NumGoroutine") = false ∧ fn.body = some c)
    (h : ∀ w, Calls P f vs.toArray w fun e w' => e = .returned r ∧ w' = w) : Holds P f (vs.map .v) [] (.v r) [] where
  fn := hf
  calls := by
    intro C w xs fx fa hF hB hI hX hM hle hno hR
    obtain ⟨rfl, h0⟩ := repL_vs hR
    have hx : ∀ b, fx b = 0 := by
      have hM : MemR C w [] fx := hM
      cases hM with | nil h => exact h
    refine (h w).mono ?_
    rintro e w' ⟨rfl, rfl⟩
    refine ⟨C, fun _ => 0, fun _ => 0, Ctx.ToX.refl C, rfl, hB, fun _ h => h, fun _ h => .inl h, hI, hX, Same.refl _ _, .nil fun _ => rfl, .v (.nil fun _ => rfl), fun _ => Nat.zero_le _, fun b hb => absurd hb (by simp)⟩
end Go.Proofs.W

namespace Go.Proofs.W
open Go Go.AM Go.RowKit Go.Shelf
set_option linter.unusedSimpArgs false
set_option linter.unusedVariables false
variable (hm : Try.prog.follows .mixedOrders = true)

theorem repL_of_vs {C : Ctx} {w : World} (vs : List Value) : RepL C w (vs.map A.v) vs fun _ => 0 := by
  induction vs with
  | nil => exact .nil fun _ => rfl
  | cons v l ih => exact .v ih
theorem flat_strA (ss : List ByteArray) : flat (ss.map strA) = (ss.map Value.string).map A.v := by
  induction ss with
  | nil => rfl
  | cons a l ih => rw [List.map_cons, List.map_cons, List.map_cons, ← ih]; rfl
/-- A function of Go's library that returns a new row of strings. -/
theorem holds_row {P : Program} {f : Nat} {vs : List Value} {ss : List ByteArray} {t : TypeId} (hf : ∃ fn c, P.funcs[f]? = some fn ∧ (fn.name == "runtime.NumGoroutine") = false ∧ fn.body = some c)
    (h : ∀ w, Calls P f vs.toArray w fun e w' => ∃ A, e = .returned (.slice (some ⟨A, 0, none⟩) ss.length ss.length) ∧ w.heap.size ≤ A ∧
      w'.ownsRow w.heap.size t 1 (.slice (some ⟨A, 0, none⟩) ss.length ss.length) ss.length (ss.map Value.string) ∧ Below w.heap.size w w') : Holds P f (vs.map .v) [] (.sl (.ow 1) (ss.map strA)) [] where
  fn := hf
  calls := by
    intro C w xs fx fa hF hB hI hX hM hle hno hR
    obtain ⟨rfl, h0⟩ := repL_vs hR
    have hx : ∀ b, fx b = 0 := by
      have hM : MemR C w [] fx := hM
      cases hM with | nil h => exact h
    refine (h w).mono ?_
    rintro e w' ⟨A, rfl, hA, ⟨hl, ho⟩, hb⟩
    rcases ho with ⟨ho, _⟩ | ⟨g, cap, cur, hv, hg, hrow, hn, hcm, hsz, htk⟩
    · cases ho
    · have e1 : g = A := by injection hv with a1; injection a1 with a2; injection a2 with a3; exact a3.symm
      have e2 : cap = ss.length := by injection hv with _ _ a3; exact a3.symm
      subst e1 e2
      have hfl := flat_strA ss
      have hrep : Rep1 C w' (.sl (.ow 1) (ss.map strA)) (.slice (some ⟨g, 0, none⟩) ss.length ss.length) fun b => if b = g then 1 else 0 := by
        have := RepL.ow (C := C) (w := w') (k := 1) (es := ss.map strA) (a := ⟨g, 0, none⟩) (cap := ss.length) (c := cur) (e := t) (fz := (0, 0)) (r := []) (xs := []) (f := fun b => if b = g then 1 else 0) (f1 := fun _ => 0) (f2 := fun _ => 0)
          hrow rfl (by intro x hx; obtain ⟨s, _, rfl⟩ := List.mem_map.mp hx; rfl) (by simp) (by simp; omega) trivial (by intro o ho; simp)
          (by
            rw [List.length_map, List.drop_zero, htk]
            intro v hv; obtain ⟨s, _, rfl⟩ := List.mem_map.mp hv; rfl)
          (by intro b; simp) (by rw [List.length_map, List.drop_zero, htk, hfl]; exact repL_of_vs _) (.nil fun _ => rfl)
        rw [List.length_map] at this
        exact this
      refine ⟨C, _, fun _ => 0, Ctx.ToX.refl C, rfl, hB, fun _ h => h, fun _ h => .inl h, fun b h => Nat.lt_of_lt_of_le (hI b h) hb.size, hX, ⟨hb.os, hb.tape, hb.output, hb.size, fun b h _ => hb.block b h⟩, .nil fun _ => rfl, hrep, fun b => ?_, fun b hb1 => ?_⟩
      · simp only; split <;> omega
      · have e3 : b = g := by
          simp only [Nat.zero_add] at hb1
          split at hb1
          · assumption
          · omega
        subst e3
        refine ⟨fun hc => ?_, .inr hA, ?_⟩
        · have := hI b hc; omega
        · exact (Array.getElem?_eq_some_iff.mp hrow).1
def lay229_ren : Go.Shelf.Ren :=
  {
  f := fun x =>
    match x with
    | 229 => 14
    | n => n,
  t := fun x =>
    match x with
    | 9 => 9
    | 40 => 31
    | 31 => 22
    | 152 => 33
    | 3 => 3
    | 0 => 0
    | 4 => 4
    | 21 => 21
    | 154 => 35
    | n => n,
  g := fun n => n }
set_option maxRecDepth 100000 in
theorem lay229 : Lays.n229 Try.prog lay229_ren :=
  { mixed := by kernel_rfl
    f229 := Eq.trans Try.func14 (congrArg some (by kernel_rfl))
    t0 := Try.underlying0
    a0 := Try.isAgg0
    z0 := Try.sizeOf0
    v0 := Try.zeroValue0
    t3 := Try.underlying3
    a3 := Try.isAgg3
    z3 := Try.sizeOf3
    v3 := Try.zeroValue3
    t4 := Try.underlying4
    a4 := Try.isAgg4
    z4 := Try.sizeOf4
    v4 := Try.zeroValue4
    t9 := Try.underlying9
    a9 := Try.isAgg9
    z9 := Try.sizeOf9
    v9 := Try.zeroValue9
    t21 := Try.underlying21
    a21 := Try.isAgg21
    z21 := Try.sizeOf21
    v21 := Try.zeroValue21
    t31 := Try.underlying22
    a31 := Try.isAgg22
    z31 := Try.sizeOf22
    v31 := Try.zeroValue22
    t40 := Try.underlying31
    a40 := Try.isAgg31
    z40 := Try.sizeOf31
    v40 := Try.zeroValue31
    t152 := Try.underlying33
    a152 := Try.isAgg33
    z152 := Try.sizeOf33
    v152 := Try.zeroValue33
    t154 := Try.underlying35
    a154 := Try.isAgg35
    z154 := Try.sizeOf35
    v154 := Try.zeroValue35 }

def lay156_ren : Go.Shelf.Ren :=
  {
  f := fun x =>
    match x with
    | 156 => 17
    | 165 => 18
    | 166 => 19
    | 169 => 20
    | 240 => 21
    | 241 => 22
    | 276 => 23
    | 277 => 24
    | n => n,
  t := fun x =>
    match x with
    | 31 => 22
    | 9 => 9
    | 3 => 3
    | 4 => 4
    | 0 => 0
    | 20 => 20
    | 72 => 38
    | 76 => 42
    | 70 => 36
    | 37 => 29
    | 75 => 41
    | 127 => 45
    | 164 => 46
    | 5 => 5
    | 80 => 44
    | n => n,
  g := fun n => n }
set_option maxRecDepth 100000 in
theorem lay156 : Lays.n156 Try.prog lay156_ren :=
  { mixed := by kernel_rfl
    f156 := Eq.trans Try.func17 (congrArg some (by kernel_rfl))
    f165 := Eq.trans Try.func18 (congrArg some (by kernel_rfl))
    f166 := Eq.trans Try.func19 (congrArg some (by kernel_rfl))
    f169 := Eq.trans Try.func20 (congrArg some (by kernel_rfl))
    f240 := Eq.trans Try.func21 (congrArg some (by kernel_rfl))
    f241 := Eq.trans Try.func22 (congrArg some (by kernel_rfl))
    f276 := Eq.trans Try.func23 (congrArg some (by kernel_rfl))
    f277 := Eq.trans Try.func24 (congrArg some (by kernel_rfl))
    t0 := Try.underlying0
    a0 := Try.isAgg0
    z0 := Try.sizeOf0
    v0 := Try.zeroValue0
    t3 := Try.underlying3
    a3 := Try.isAgg3
    z3 := Try.sizeOf3
    v3 := Try.zeroValue3
    t4 := Try.underlying4
    a4 := Try.isAgg4
    z4 := Try.sizeOf4
    v4 := Try.zeroValue4
    t9 := Try.underlying9
    a9 := Try.isAgg9
    z9 := Try.sizeOf9
    v9 := Try.zeroValue9
    t20 := Try.underlying20
    a20 := Try.isAgg20
    z20 := Try.sizeOf20
    v20 := Try.zeroValue20
    t31 := Try.underlying22
    a31 := Try.isAgg22
    z31 := Try.sizeOf22
    v31 := Try.zeroValue22
    t37 := Try.underlying29
    a37 := Try.isAgg29
    z37 := Try.sizeOf29
    v37 := Try.zeroValue29
    t70 := Try.underlying36
    a70 := Try.isAgg36
    z70 := Try.sizeOf36
    v70 := Try.zeroValue36
    t72 := Try.underlying38
    a72 := Try.isAgg38
    z72 := Try.sizeOf38
    v72 := Try.zeroValue38
    t75 := Try.underlying41
    a75 := Try.isAgg41
    z75 := Try.sizeOf41
    v75 := Try.zeroValue41
    t76 := Try.underlying42
    a76 := Try.isAgg42
    z76 := Try.sizeOf42
    v76 := Try.zeroValue42
    t127 := Try.underlying45
    a127 := Try.isAgg45
    z127 := Try.sizeOf45
    v127 := Try.zeroValue45
    t164 := Try.underlying46
    a164 := Try.isAgg46
    z164 := Try.sizeOf46
    v164 := Try.zeroValue46 }

def spP (x : Nat) : Bool := decide (x = 32)
set_option maxRecDepth 10000 in
theorem spaceC (x : Nat) (hx : x ≤ 1114111) (w : World) : Calls Try.prog 16 #[.int .i32 x] w fun e w' => e = .returned (.bool (spP x)) ∧ w' = w := by
  go_enter Try.func16, Try.ntmps16
  go_wp2
  go_ret
  exact ⟨by simp [spP]; omega, rfl⟩
theorem fieldsH (s : ByteArray) (h : s.size ≤ 1048576) : Holds Try.prog 14 [.v (.string s), .v (.func (.func 16) #[] #[])] [] (.sl (.ow 1) ((Lib.goFieldsP spP s).map strA)) [] := by
  refine holds_row (vs := [.string s, .func (.func 16) #[] #[]]) (t := lay229_ren.t 9) ⟨_, _, Try.func14, by kernel_rfl, rfl⟩ fun w => ?_
  exact Any.strings_FieldsFunc_runes lay229 16 #[] (enters_of Try.func16 (by kernel_rfl) rfl) spP s w (by omega)
    (fun W x hx hb => (spaceC x hx W).mono fun e w' ⟨he, hw⟩ => ⟨he, 0, hw⟩) (by kernel_rfl) (by kernel_rfl)
end Go.Proofs.W

namespace Go.Proofs.W
open Go Go.AM Go.RowKit Go.Shelf
set_option linter.unusedSimpArgs false
set_option linter.unusedVariables false
variable (hm : Try.prog.follows .mixedOrders = true)

def joinB (ss : List ByteArray) (sep : ByteArray) : ByteArray := ⟨(Lib.join (ss.map (·.data.toList)) sep.data.toList).toArray⟩
set_option maxRecDepth 100000 in
theorem lay156X : Builder.Extra Try.prog lay156_ren where
  sizeBuilder := by kernel_rfl
  liesBuilder := by kernel_rfl
  t5 := Try.underlying5
  a5 := Try.isAgg5
  z5 := Try.sizeOf5
  v5 := Try.zeroValue5
  infoByte := by kernel_rfl
  cellsByte := by kernel_rfl
  sizeByte := by kernel_rfl
  neB5 := by decide
theorem joinH (ss : List ByteArray) (sep : ByteArray) (hN : ss.length ≤ 140737488355328) (hlen : (Lib.join (ss.map (·.data.toList)) sep.data.toList).length ≤ 140737488355328) :
    Holds Try.prog 17 [.sl .sh (ss.map strA), .v (.string sep)] [] (.v (.string (joinB ss sep))) [] where
  fn := ⟨_, _, Try.func17, by kernel_rfl, rfl⟩
  calls := by
    intro C w xs fx fa hF hB hI hX hM hle hno hR
    have hx : ∀ b, fx b = 0 := by
      have hM : MemR C w [] fx := hM
      cases hM with | nil h => exact h
    have main : Calls Try.prog 17 xs.toArray w fun e w' => e = .returned (.string (joinB ss sep)) ∧ Below w.heap.size w w' := by
      generalize hes : ss.map strA = es at hR
      cases hR with
      | nils h =>
        cases h with
        | v h =>
          cases h with
          | nil h =>
            have : ss = [] := List.map_eq_nil_iff.mp hes
            subst this
            exact (Any.strings_Join_none lay156 lay156X _ _ sep w).mono fun e w' ⟨he, hw⟩ => ⟨he, hw ▸ Below.refl _ _⟩
      | sl hrow hsp hk hcap hsz hI' hs ho hf h1 h =>
        rename_i a cap k c e fz r1 f1
        cases h with
        | v h =>
          cases h with
          | nil h =>
            subst hes
            rw [flat_strA] at h1
            have hk1 : (ss.map strA).length * k = ss.length := by
              rw [List.length_map]
              cases ss with
              | nil => simp
              | cons s l =>
                have := hk (strA s) (by simp)
                have : k = 1 := by rw [← this]; rfl
                rw [this, Nat.mul_one]
            rw [hk1] at h1
            obtain ⟨e1, _⟩ := repL_vs h1
            have hcells : ∀ (j : Nat) x, ss[j]? = some x → w.cell? ⟨a.block, a.off + j, none⟩ = some (.string x) := by
              intro j x hj
              have e2 : ((c.toList.drop a.off).take ss.length)[j]? = some (.string x) := by rw [e1, List.getElem?_map, hj]; rfl
              have hjl := (List.getElem?_eq_some_iff.mp hj).1
              rw [List.getElem?_take_of_lt hjl, List.getElem?_drop, Array.getElem?_toList] at e2
              simp only [World.cell?, hrow]
              exact e2
            have ha : a = ⟨a.block, a.off, none⟩ := by cases a; simp at hsp; rw [hsp]
            have hbk : a.block < w.heap.size := (Array.getElem?_eq_some_iff.mp hrow).1
            rw [ha, List.length_map]
            rw [List.length_map] at hcap
            exact Any.strings_Join lay156 lay156X a.block a.off cap ss sep w hcells hbk hN hcap hlen
    refine main.mono ?_
    rintro e w' ⟨rfl, hb⟩
    exact ⟨C, fun _ => 0, fun _ => 0, Ctx.ToX.refl C, rfl, hB, fun _ h => h, fun _ h => .inl h, fun b h => Nat.lt_of_lt_of_le (hI b h) hb.size, hX, ⟨hb.os, hb.tape, hb.output, hb.size, fun b h _ => hb.block b h⟩, .nil fun _ => rfl, .v (.nil fun _ => rfl), fun _ => Nat.zero_le _, fun b hb => absurd hb (by simp)⟩
end Go.Proofs.W

namespace Go.Proofs.W
open Go Go.AM
set_option linter.unusedSimpArgs false
set_option linter.unusedVariables false
variable (hm : Try.prog.follows .mixedOrders = true)

/-- A text with its runs of blanks made one, none ahead of it and none behind it: one more byte. -/
def colStep (out : List UInt8) (prev b : UInt8) : List UInt8 := if b = 32 then out else (if out ≠ [] ∧ prev = 32 then out ++ [32] else out) ++ [b]
def colG : List UInt8 → UInt8 → List UInt8 → List UInt8
  | out, _, [] => out
  | out, prev, b :: r => colG (colStep out prev b) b r
theorem colStep_nil (p q b : UInt8) : colStep [] p b = colStep [] q b := by simp [colStep]
theorem colG_nil (p q : UInt8) (l : List UInt8) : colG [] p l = colG [] q l := by
  cases l with
  | nil => rfl
  | cons b r => rw [colG, colG, colStep_nil p q]
def plainB (s : ByteArray) : ByteArray := lowerB (mkS (colG [] 0 s.data.toList))
def lpAnn : Ann := [(0, [0, 3, 4])]
def lpSt (s : ByteArray) (p : Nat × List UInt8) : St := ⟨[.v (.string s), .any, .any, .ms (.l 0) 0 p.2.length p.2.length, .v (.int .i64 p.1), .any, .any, .any, .any, .any, .any, .any, .any, .any, .any, .any, .any, .any, .any, .any, .any, .any, .any, .any, .any, .any, .any, .any, .any, .any, .any, .any, .any, .any, .any, .any, .any, .any], [(0, ⟨true, 1, false, p.2.map byteA⟩)], []⟩
set_option maxHeartbeats 1000000 in
set_option maxRecDepth 10000 in
include hm in
theorem l10Plain (s : ByteArray) (h : s.size ≤ 1048576) : Holds Try.prog 9 [.v (.string s)] [] (.v (.string (plainB s))) [] := by
  refine holds_of (ann := lpAnn) tabOk hm Try.func9 (by kernel_rfl) rfl ?_
  simp (decide := true) only [Try.f9, go_sem, Nat.reduceAdd, Nat.reduceMul, Nat.reduceSub]
  have hz := list_size s
  refine Runs.while (α := Nat × List UInt8) (lpSt s) (fun p => s.size - p.1) (fun p => p.1 ≤ s.size ∧ p.2.length ≤ 2 * p.1 ∧ (p.1 = 0 → p.2 = []) ∧ colG p.2 (s.data.toList.getD (p.1 - 1) 0) (s.data.toList.drop p.1) = colG [] 0 s.data.toList) (0, []) ⟨Nat.zero_le _, Nat.zero_le _, fun _ => rfl, by simp only [List.drop_zero]; exact colG_nil _ _ _⟩ ?_ ?_
  · simp [go_sem, lpAnn, lpSt]
  · rintro ⟨i, out⟩ ⟨hi, ho, h0, hr⟩ ih
    simp only at hi ho h0 hr
    have hlen : (out.map byteA).length = out.length := List.length_map _
    simp (decide := true) only [lpSt, hlen, go_sem, Nat.reduceAdd, Nat.reduceMul, Nat.reduceSub]
    refine Runs.split (fun h => ?_) (fun h => ?_)
    · have hlt : i < s.data.toList.length := by simp at h; omega
      obtain ⟨c, hc⟩ : ∃ c, s.data.toList[i] = c := ⟨_, rfl⟩
      have hg : s.data.toList.getD i 0 = c := (getD_lt hlt).trans hc
      rw [List.drop_eq_getElem_cons hlt, hc, colG] at hr
      have hb := UInt8.toNat_lt c
      have hprev : s.data.toList.getD (i + 1 - 1) 0 = c := by rw [Nat.add_sub_cancel]; exact hg
      have go : ∀ out2 : List UInt8, colStep out (s.data.toList.getD (i - 1) 0) c = out2 → colG out2 (s.data.toList.getD (i + 1 - 1) 0) (s.data.toList.drop (i + 1)) = colG [] 0 s.data.toList := by
        intro out2 e; rw [hprev, ← e]; exact hr
      simp (decide := true) (disch := first | omega | (simp only [List.length_map, List.length_cons, List.length_append, List.length_nil]; omega)) only [hg, hlen, if_pos, go_sem, Nat.reduceAdd, Nat.reduceMul, Nat.reduceSub]
      cases h1 : decide ((c.toNat : Int) = 32)
      · have hc32 : c ≠ 32 := by intro e; subst e; simp at h1
        simp (decide := true) (disch := first | omega | (simp only [List.length_map, List.length_cons, List.length_append, List.length_nil]; omega)) only [hlen, if_pos, go_sem, Nat.reduceAdd, Nat.reduceMul, Nat.reduceSub]
        cases h2 : decide ((out.length : Int) > 0)
        · have hnil : out = [] := by
            have : out.length = 0 := by simp only [decide_eq_false_iff_not] at h2; omega
            exact List.length_eq_zero_iff.mp this
          subst hnil
          simp (decide := true) (disch := first | omega | (simp only [List.length_map, List.length_cons, List.length_append, List.length_nil]; omega)) only [hg, hlen, List.length_nil, List.map_nil, if_pos, go_sem, Nat.reduceAdd, Nat.reduceMul, Nat.reduceSub]
          refine ih (i + 1, [c]) _ (by simp only; omega) ⟨by simp only; omega, by simp only [List.length_cons, List.length_nil]; omega, by simp, go [c] (by simp [colStep, hc32])⟩ ?_
          simp [go_sem, lpAnn, lpSt, byteA]
        · have hne : out ≠ [] := by intro e; subst e; simp at h2
          have hi1 : 1 ≤ i := by
            rcases Nat.eq_zero_or_pos i with e | e
            · exact absurd (h0 e) hne
            · exact e
          have ht : ((i : Int) - 1).toNat = i - 1 := by omega
          have hb1 : decide (0 ≤ (i : Int) - 1 ∧ (i : Int) - 1 < s.size) = true := by simp; omega
          obtain ⟨p, hp⟩ : ∃ p, s.data.toList.getD (i - 1) 0 = p := ⟨_, rfl⟩
          rw [hp] at go
          simp (decide := true) (disch := first | omega | (simp only [List.length_map, List.length_cons, List.length_append, List.length_nil]; omega)) only [ht, hb1, hp, if_pos, go_sem, Nat.reduceAdd, Nat.reduceMul, Nat.reduceSub]
          cases h3 : decide ((p.toNat : Int) = 32)
          · have hp32 : p ≠ 32 := by intro e; subst e; simp at h3
            simp (decide := true) (disch := first | omega | (simp only [List.length_map, List.length_cons, List.length_append, List.length_nil]; omega)) only [hg, hlen, if_pos, go_sem, Nat.reduceAdd, Nat.reduceMul, Nat.reduceSub]
            refine ih (i + 1, out ++ [c]) _ (by simp only; omega) ⟨by simp only; omega, by simp only [List.length_append, List.length_cons, List.length_nil]; omega, by simp, go _ (by simp [colStep, hc32, hp32])⟩ ?_
            simp [go_sem, lpAnn, lpSt, byteA]
          · have hp32 : p = 32 := by
              simp only [decide_eq_true_eq] at h3
              exact UInt8.toNat_inj.mp (Int.ofNat.inj h3)
            have hl2 : (out.map byteA ++ [A.v (.int .u8 32)]).length = out.length + 1 := by simp
            simp (decide := true) (disch := first | omega | (simp only [List.length_map, List.length_cons, List.length_append, List.length_nil]; omega)) only [hg, hlen, hl2, if_pos, go_sem, Nat.reduceAdd, Nat.reduceMul, Nat.reduceSub]
            refine ih (i + 1, out ++ [32] ++ [c]) _ (by simp only; omega) ⟨by simp only; omega, by simp only [List.length_append, List.length_cons, List.length_nil]; omega, by simp, go _ (by simp [colStep, hc32, hp32, hne])⟩ ?_
            simp [go_sem, lpAnn, lpSt, byteA]
      · have hc32 : c = 32 := by
          simp only [decide_eq_true_eq] at h1
          exact UInt8.toNat_inj.mp (Int.ofNat.inj h1)
        simp (decide := true) (disch := first | omega | (simp only [List.length_map, List.length_cons, List.length_append, List.length_nil]; omega)) only [hlen, if_pos, go_sem, Nat.reduceAdd, Nat.reduceMul, Nat.reduceSub]
        refine ih (i + 1, out) _ (by simp only; omega) ⟨by simp only; omega, by simp only; omega, by simp, go out (by simp [colStep, hc32])⟩ ?_
        simp [go_sem, lpAnn, lpSt]
    · have hge : i = s.size := by simp at h; omega
      rw [hge, List.drop_of_length_le (by omega), colG] at hr
      have htk : List.take out.length (out.map byteA) = out.map byteA := List.take_of_length_le (by rw [hlen]; exact Nat.le_refl _)
      have ha := bytes_all out
      have hbk := bytes_back out
      simp (decide := true) (disch := first | omega | (simp only [List.length_map, List.length_cons, List.length_append, List.length_nil]; omega)) only [hlen, htk, ha, hbk, List.drop_zero, if_pos, go_sem, Nat.reduceAdd, Nat.reduceMul, Nat.reduceSub]
      have c := sLower hm (mkS out) (by rw [mkS_size]; omega)
      rw [mkS] at c
      refine Runs.call c ?_
      simp (decide := true) only [go_sem, Nat.reduceAdd, Nat.reduceMul, Nat.reduceSub]
      exact Runs.ret_eq (by rw [plainB, ← hr]; rfl)
end Go.Proofs.W

namespace Go.Proofs.W
open Go Go.AM
set_option linter.unusedSimpArgs false
set_option linter.unusedVariables false
variable (hm : Try.prog.follows .mixedOrders = true)

theorem lowerB_size (s : ByteArray) : (lowerB s).size = s.size := by rw [lowerB, mkS_size, List.length_map, list_size]
theorem colG_len : ∀ (l out : List UInt8) (p : UInt8), (colG out p l).length ≤ out.length + 2 * l.length
  | [], out, p => by simp [colG]
  | b :: r, out, p => by
    have := colG_len r (colStep out p b) b
    rw [colG]
    have h2 : (colStep out p b).length ≤ out.length + 2 := by
      unfold colStep
      split
      · omega
      · split <;> simp
    simp only [List.length_cons]; omega
theorem plainB_size (s : ByteArray) : (plainB s).size ≤ 2 * s.size := by
  rw [plainB, lowerB_size, mkS_size]
  have := colG_len s.data.toList [] 0
  rw [list_size] at this
  simpa using this
/-- What the library's fields, joined, are: the law that is still owed. -/
def PlainLaw : Prop := ∀ s : ByteArray, joinB (Lib.goFieldsP spP (lowerB s)) ⟨#[32]⟩ = plainB s
theorem fields_len (s : ByteArray) (hl : PlainLaw) : (Lib.join ((Lib.goFieldsP spP (lowerB s)).map (·.data.toList)) [32]).length = (plainB s).size := by
  rw [← hl s, joinB]; simp [ByteArray.size]
set_option maxRecDepth 10000 in
include hm in
theorem iPlain (hl : PlainLaw) (s : ByteArray) (h : s.size ≤ 1048576) (hf : (Lib.goFieldsP spP (lowerB s)).length ≤ 140737488355328) : Holds Try.prog 12 [.v (.string s)] [] (.v (.string (plainB s))) [] := by
  refine holds_of (ann := []) tabOk hm Try.func12 (by kernel_rfl) rfl ?_
  simp (decide := true) only [Try.f12, go_sem, Nat.reduceAdd, Nat.reduceMul, Nat.reduceSub]
  refine Runs.call (iLower hm s (by omega)) ?_
  simp (decide := true) only [go_sem, Nat.reduceAdd, Nat.reduceMul, Nat.reduceSub]
  refine Runs.call (fieldsH (lowerB s) (by rw [lowerB_size]; exact h)) ?_
  simp (decide := true) only [go_sem, Nat.reduceAdd, Nat.reduceMul, Nat.reduceSub]
  have hp := plainB_size s
  refine Runs.call (joinH (Lib.goFieldsP spP (lowerB s)) ⟨#[32]⟩ hf (by have := fields_len s hl; show (Lib.join _ [32]).length ≤ _; rw [this]; omega)) ?_
  simp (decide := true) only [go_sem, Nat.reduceAdd, Nat.reduceMul, Nat.reduceSub]
  exact Runs.ret_eq (by rw [hl s])
end Go.Proofs.W

namespace Go.Proofs.W
open Go Go.AM
set_option linter.unusedSimpArgs false
set_option linter.unusedVariables false

theorem get_list {s : ByteArray} {i : Nat} (hi : i < s.size) : s.get! i = s.data.toList.getD i 0 := by
  have h2 : i < s.data.toList.length := by rw [list_size]; exact hi
  rw [getD_lt h2, Array.getElem_toList]
  show s.data[i]! = _
  rw [getElem!_pos s.data i (by simpa using h2)]
/-- A rune that is read steps over no blank but itself. -/
theorem dec_space {s : ByteArray} {i : Nat} (hi : i < s.size) (h : (s.data.toList.getD i 0).toNat = 32) : Utf8.decode s i = (32, 1) := by
  have e : (s.get! i).toNat = 32 := by rw [get_list hi]; exact h
  unfold Utf8.decode
  simp [e]
theorem dec_other {s : ByteArray} {i : Nat} (hi : i < s.size) (h : (s.data.toList.getD i 0).toNat ≠ 32) :
    (Utf8.decode s i).1 ≠ 32 ∧ 1 ≤ (Utf8.decode s i).2 ∧ i + (Utf8.decode s i).2 ≤ s.size ∧ ∀ k, k < (Utf8.decode s i).2 → (s.data.toList.getD (i + k) 0).toNat ≠ 32 := by
  have e : (s.get! (i + 0)).toNat ≠ 32 := by rw [Nat.add_zero, get_list hi]; exact h
  have one : ∀ k, k < 1 → (s.data.toList.getD (i + k) 0).toNat ≠ 32 := fun k hk => by
    have : k = 0 := by omega
    subst this; exact h
  have more : ∀ k, (decide (i + k < s.size) && (s.get! (i + k)).toNat / 64 == 2) = true → i + k < s.size ∧ (s.data.toList.getD (i + k) 0).toNat ≠ 32 := by
    intro k hk
    simp only [Bool.and_eq_true, decide_eq_true_eq, beq_iff_eq] at hk
    refine ⟨hk.1, ?_⟩
    rw [← get_list hk.1]; omega
  unfold Utf8.decode
  simp only
  split
  · exact ⟨e, Nat.le_refl _, by omega, one⟩
  split
  · rename_i h2
    rw [Bool.and_eq_true] at h2
    have m1 := more 1 h2.2
    split
    · refine ⟨by simp only; omega, by simp, by simp only; omega, fun k hk => ?_⟩
      simp only at hk
      rcases (show k = 0 ∨ k = 1 by omega) with rfl | rfl
      · exact h
      · exact m1.2
    · exact ⟨by decide, Nat.le_refl _, by simp only; omega, one⟩
  split
  · rename_i h2
    simp only [Bool.and_eq_true] at h2
    have m1 := more 1 (by simp only [Bool.and_eq_true]; exact h2.1.2)
    have m2 := more 2 (by simp only [Bool.and_eq_true]; exact h2.2)
    split
    · rename_i h3
      simp only [Bool.and_eq_true, decide_eq_true_eq] at h3
      refine ⟨by simp only; omega, by simp, by simp only; omega, fun k hk => ?_⟩
      simp only at hk
      rcases (show k = 0 ∨ k = 1 ∨ k = 2 by omega) with rfl | rfl | rfl
      · exact h
      · exact m1.2
      · exact m2.2
    · exact ⟨by decide, Nat.le_refl _, by simp only; omega, one⟩
  split
  · rename_i h2
    simp only [Bool.and_eq_true] at h2
    have m1 := more 1 (by simp only [Bool.and_eq_true]; exact h2.1.1.2)
    have m2 := more 2 (by simp only [Bool.and_eq_true]; exact h2.1.2)
    have m3 := more 3 (by simp only [Bool.and_eq_true]; exact h2.2)
    split
    · rename_i h3
      simp only [Bool.and_eq_true, decide_eq_true_eq] at h3
      refine ⟨by simp only; omega, by simp, by simp only; omega, fun k hk => ?_⟩
      simp only at hk
      rcases (show k = 0 ∨ k = 1 ∨ k = 2 ∨ k = 3 by omega) with rfl | rfl | rfl | rfl
      · exact h
      · exact m1.2
      · exact m2.2
      · exact m3.2
    · exact ⟨by decide, Nat.le_refl _, by simp only; omega, one⟩
  · exact ⟨by decide, Nat.le_refl _, by simp only; omega, one⟩
theorem lowU_32 (b : UInt8) : lowU b = 32 ↔ b = 32 := by
  have h := lowU_nat b
  constructor
  · intro e
    rw [e] at h
    have h2 : (b.toNat : Int) = 32 := by
      split at h
      · have : ((32 : UInt8).toNat : Int) = 32 := rfl
        omega
      · exact h.symm
    exact UInt8.toNat_inj.mp (Int.ofNat.inj h2)
  · intro e; subst e; rfl
theorem colG_low : ∀ (l out : List UInt8) (p : UInt8), (colG out p l).map lowU = colG (out.map lowU) (lowU p) (l.map lowU)
  | [], out, p => rfl
  | b :: r, out, p => by
    rw [colG, List.map_cons, colG, colG_low r]
    congr 1
    unfold colStep
    by_cases hb : b = 32
    · rw [if_pos hb, if_pos ((lowU_32 b).mpr hb)]
    · rw [if_neg hb, if_neg (fun e => hb ((lowU_32 b).mp e))]
      by_cases hp : out ≠ [] ∧ p = 32
      · rw [if_pos hp, if_pos ⟨by simpa using hp.1, (lowU_32 p).mpr hp.2⟩]
        simp; rfl
      · rw [if_neg hp, if_neg (fun e => hp ⟨by simpa using e.1, (lowU_32 p).mp e.2⟩)]
        simp
theorem colG_run : ∀ (r out rest : List UInt8) (p : UInt8), out ≠ [] → p ≠ 32 → (∀ b ∈ r, b ≠ 32) → colG out p (r ++ rest) = colG (out ++ r) ((p :: r).getLast (by simp)) rest
  | [], out, rest, p, _, _, _ => by simp
  | b :: r, out, rest, p, h1, h2, h3 => by
    have hb := h3 b (by simp)
    rw [List.cons_append, colG]
    have e : colStep out p b = out ++ [b] := by simp [colStep, hb, h2]
    rw [e, colG_run r (out ++ [b]) rest b (by simp) hb (fun x hx => h3 x (by simp [hx]))]
    simp
def joinL (A : List (List UInt8)) : List UInt8 := Lib.join A [32]
theorem joinL_snoc (A : List (List UInt8)) (x : List UInt8) : joinL (A ++ [x]) = if A = [] then x else joinL A ++ [32] ++ x := by
  induction A with
  | nil => simp [joinL, Lib.join, List.intercalate]
  | cons a A ih =>
    rw [if_neg (by simp)]
    cases A with
    | nil => simp [joinL, Lib.join, List.intercalate]
    | cons b B =>
      rw [if_neg (by simp)] at ih
      have e : ∀ C : List (List UInt8), joinL (a :: b :: C) = a ++ [32] ++ joinL (b :: C) := by intro C; simp [joinL, Lib.join, List.intercalate]
      rw [List.cons_append, List.cons_append, e, ← List.cons_append, ih, e]
      simp
def pcs (s : ByteArray) (acc : List (Nat × Nat)) : List (List UInt8) := acc.map fun x => (s.extract x.1 x.2).data.toList
theorem pcs_snoc (s : ByteArray) (acc : List (Nat × Nat)) (a b : Nat) : pcs s (acc ++ [(a, b)]) = pcs s acc ++ [(s.data.toList.drop a).take (b - a)] := by
  simp only [pcs, List.map_append, List.map_cons, List.map_nil, ext_list]
/-- What stands when so much of the text has been gone through. -/
def Stand (s : ByteArray) (pos : Nat) (st : Option Nat) (acc : List (Nat × Nat)) (out : List UInt8) (prev : UInt8) : Prop :=
  match st with
  | none => out = joinL (pcs s acc) ∧ (pcs s acc ≠ [] → out ≠ [] ∧ prev = 32)
  | some a => a < pos ∧ out = joinL (pcs s acc ++ [(s.data.toList.drop a).take (pos - a)]) ∧ out ≠ [] ∧ prev ≠ 32
theorem sp_succ (p : Nat → Bool) (s : ByteArray) (f pos : Nat) (st : Option Nat) (acc : List (Nat × Nat)) : Lib.spansFromP p s (f + 1) pos st acc =
    if pos < s.size then (if p (Utf8.decode s pos).1 = true then Lib.spansFromP p s f (pos + (Utf8.decode s pos).2) none (match st with | some a => acc ++ [(a, pos)] | none => acc)
      else Lib.spansFromP p s f (pos + (Utf8.decode s pos).2) (match st with | some a => some a | none => some pos) acc) else (acc, st) := by
  cases st <;> rfl
theorem colStep_32 (out : List UInt8) (p : UInt8) : colStep out p 32 = out := by simp [colStep]
theorem fields_go (s : ByteArray) : ∀ (f pos : Nat) (st : Option Nat) (acc : List (Nat × Nat)) (out : List UInt8) (prev : UInt8), s.size - pos ≤ f → pos ≤ s.size → Stand s pos st acc out prev →
    joinL (pcs s (Lib.closeSpans s (Lib.spansFromP spP s f pos st acc))) = colG out prev (s.data.toList.drop pos) := by
  have hz := list_size s
  have fin : ∀ (pos : Nat) (st : Option Nat) (acc : List (Nat × Nat)) (out : List UInt8) (prev : UInt8), pos = s.size → Stand s pos st acc out prev → joinL (pcs s (Lib.closeSpans s (acc, st))) = colG out prev (s.data.toList.drop pos) := by
    intro pos st acc out prev hp h
    rw [List.drop_of_length_le (by omega), colG]
    cases st with
    | none => exact h.1.symm
    | some a => simp only [Lib.closeSpans]; rw [pcs_snoc, ← hp]; exact h.2.1.symm
  intro f
  induction f with
  | zero =>
    intro pos st acc out prev hf hp h
    show joinL (pcs s (Lib.closeSpans s (acc, st))) = _
    exact fin pos st acc out prev (by omega) h
  | succ f ih =>
    intro pos st acc out prev hf hp h
    rw [sp_succ]
    by_cases hlt : pos < s.size
    · rw [if_pos hlt]
      have hl : pos < s.data.toList.length := by omega
      have hg := getD_lt hl
      by_cases h32 : (s.data.toList.getD pos 0).toNat = 32
      · rw [dec_space hlt h32, if_pos (by simp [spP])]
        have hb : s.data.toList[pos] = 32 := by rw [← hg]; exact UInt8.toNat_inj.mp h32
        rw [List.drop_eq_getElem_cons hl, hb, colG, colStep_32]
        cases st with
        | none => exact ih (pos + 1) none acc out 32 (by omega) (by omega) ⟨h.1, fun hne => ⟨(h.2 hne).1, rfl⟩⟩
        | some a => exact ih (pos + 1) none (acc ++ [(a, pos)]) out 32 (by omega) (by omega) ⟨by rw [pcs_snoc]; exact h.2.1, fun _ => ⟨h.2.2.1, rfl⟩⟩
      · obtain ⟨d1, d2, d3, d4⟩ := dec_other hlt h32
        generalize hw : (Utf8.decode s pos).2 = w at *
        rw [if_neg (by simpa [spP] using d1)]
        have hsplit : s.data.toList.drop pos = (s.data.toList.drop pos).take w ++ s.data.toList.drop (pos + w) := by
          rw [← List.drop_drop, List.take_append_drop]
        have hr : ∀ b ∈ (s.data.toList.drop pos).take w, b ≠ 32 := by
          intro b hb e
          obtain ⟨k, hk, e2⟩ := List.getElem_of_mem hb
          simp only [List.length_take, List.length_drop] at hk
          have := d4 k (by omega)
          rw [getD_lt (by omega)] at this
          rw [List.getElem_take, List.getElem_drop] at e2
          rw [e2, e] at this
          exact this rfl
        have hlast : ∀ p : UInt8, p ≠ 32 → (p :: (s.data.toList.drop pos).take w).getLast (by simp) ≠ 32 := by
          intro p hp e
          rcases List.mem_cons.mp (List.getLast_mem (l := p :: (s.data.toList.drop pos).take w) (by simp)) with h1 | h1
          · exact hp (h1.symm.trans e)
          · exact hr _ h1 e
        cases st with
        | some a =>
          obtain ⟨h1, h2, h3, h4⟩ := h
          rw [hsplit, colG_run _ out _ prev h3 h4 hr]
          refine ih (pos + w) (some a) acc _ _ (by omega) (by omega) ⟨by omega, ?_, by simp [h3], hlast prev h4⟩
          have e : (s.data.toList.drop a).take (pos + w - a) = (s.data.toList.drop a).take (pos - a) ++ (s.data.toList.drop pos).take w := by
            rw [show pos + w - a = (pos - a) + w by omega, List.take_add, List.drop_drop, show a + (pos - a) = pos by omega]
          rw [h2, e, joinL_snoc, joinL_snoc]
          split <;> simp
        | none =>
          obtain ⟨h1, h2⟩ := h
          have hc : s.data.toList[pos] ≠ 32 := by rw [← hg]; intro e; exact h32 (by rw [e]; rfl)
          obtain ⟨r, hr2⟩ : ∃ r, (s.data.toList.drop pos).take w = s.data.toList[pos] :: r := by
            rw [List.drop_eq_getElem_cons hl]
            obtain ⟨w', rfl⟩ : ∃ w', w = w' + 1 := ⟨w - 1, by omega⟩
            exact ⟨_, rfl⟩
          have key : colStep out prev s.data.toList[pos] = (if pcs s acc = [] then [] else joinL (pcs s acc) ++ [32]) ++ [s.data.toList[pos]] := by
            unfold colStep
            rw [if_neg hc]
            by_cases hA : pcs s acc = []
            · have ho : out = [] := by rw [h1, hA]; rfl
              rw [if_pos hA, if_neg (by simp [ho]), ho]
            · obtain ⟨q1, q2⟩ := h2 hA
              rw [if_neg hA, if_pos ⟨q1, q2⟩, h1]
          rw [hsplit, hr2, List.cons_append, colG, key]
          rw [colG_run r _ _ _ (by simp) hc (fun b hb => hr b (by rw [hr2]; simp [hb]))]
          refine ih (pos + w) (some pos) acc _ _ (by omega) (by omega) ⟨by omega, ?_, by simp, ?_⟩
          · rw [show pos + w - pos = w by omega, hr2, joinL_snoc]
            split <;> simp
          · intro e
            rcases List.mem_cons.mp (List.getLast_mem (l := s.data.toList[pos] :: r) (by simp)) with h1 | h1
            · exact hc (h1.symm.trans e)
            · exact hr _ (by rw [hr2]; simp [h1]) e
    · rw [if_neg hlt]
      exact fin pos st acc out prev (by omega) h
theorem plainLaw : PlainLaw := by
  intro s
  have h := fields_go (lowerB s) (lowerB s).size 0 none [] [] 0 (by omega) (Nat.zero_le _) ⟨rfl, fun h => absurd rfl h⟩
  have e : joinB (Lib.goFieldsP spP (lowerB s)) ⟨#[32]⟩ = mkS (joinL (pcs (lowerB s) (Lib.closeSpans (lowerB s) (Lib.spansFromP spP (lowerB s) (lowerB s).size 0 none [])))) := by
    unfold joinB Lib.goFieldsP Lib.spansOfP pcs joinL mkS
    rw [List.map_map]; rfl
  have e2 : (lowerB s).data.toList = s.data.toList.map lowU := by rw [lowerB, mkS_data]
  have e3 : plainB s = mkS ((colG [] 0 s.data.toList).map lowU) := by rw [plainB]; conv => lhs; rw [lowerB, mkS_data]
  rw [List.drop_zero, e2] at h
  rw [e, h, e3, colG_low]
  first | done | (congr 1; exact colG_nil _ _ _) | rfl
end Go.Proofs.W

namespace Go.Proofs.W
open Go Go.AM
set_option linter.unusedSimpArgs false
set_option linter.unusedVariables false
variable (hm : Try.prog.follows .mixedOrders = true)

theorem sp_len (p : Nat → Bool) (s : ByteArray) : ∀ (f pos : Nat) (st : Option Nat) (acc : List (Nat × Nat)), (Lib.closeSpans s (Lib.spansFromP p s f pos st acc)).length ≤ acc.length + f + 1 := by
  have fin : ∀ (st : Option Nat) (acc : List (Nat × Nat)), (Lib.closeSpans s (acc, st)).length ≤ acc.length + 1 := by
    intro st acc; cases st <;> simp [Lib.closeSpans]
  intro f
  induction f with
  | zero => intro pos st acc; exact fin st acc
  | succ f ih =>
    intro pos st acc
    rw [sp_succ]
    split
    · split
      · refine Nat.le_trans (ih _ _ _) ?_
        cases st <;> simp <;> omega
      · refine Nat.le_trans (ih _ _ _) ?_
        omega
    · have := fin st acc; omega
theorem fields_le (s : ByteArray) : (Lib.goFieldsP spP s).length ≤ s.size + 1 := by
  rw [Lib.goFieldsP, List.length_map, Lib.spansOfP]
  have := sp_len spP s s.size 0 none []
  simpa using this
include hm in
theorem iPlain' (s : ByteArray) (h : s.size ≤ 1048576) : Holds Try.prog 12 [.v (.string s)] [] (.v (.string (plainB s))) [] :=
  iPlain hm plainLaw s h (by have := fields_le (lowerB s); rw [lowerB_size] at this; omega)
set_option maxRecDepth 10000 in
include hm in
theorem nameSame1 (a b : ByteArray) (ha : a.size ≤ 1048576) (hb : b.size ≤ 1048576) : Holds Try.prog 11 [.v (.string a), .v (.string b)] [] (.v (.bool ((plainB a).toList == (plainB b).toList))) [] := by
  refine holds_of (ann := []) tabOk hm Try.func11 (by kernel_rfl) rfl ?_
  simp (decide := true) only [Try.f11, go_sem, Nat.reduceAdd, Nat.reduceMul, Nat.reduceSub]
  refine Runs.call (iPlain' hm a ha) ?_
  simp (decide := true) only [go_sem, Nat.reduceAdd, Nat.reduceMul, Nat.reduceSub]
  refine Runs.call (iPlain' hm b hb) ?_
  simp (decide := true) only [go_sem, Nat.reduceAdd, Nat.reduceMul, Nat.reduceSub]
  exact Runs.ret_v
def sameB (a b : List ByteArray) : Bool := decide (a.length = b.length) && (List.range a.length).all fun i => (plainB (a.getD i ⟨#[]⟩)).toList == (plainB (b.getD i ⟨#[]⟩)).toList
def sameFrom (a b : List ByteArray) (i : Nat) : Bool := (List.range' i (a.length - i)).all fun i => (plainB (a.getD i ⟨#[]⟩)).toList == (plainB (b.getD i ⟨#[]⟩)).toList
theorem sameFrom_succ {a b : List ByteArray} {i : Nat} (h : i < a.length) : sameFrom a b i = (((plainB (a.getD i ⟨#[]⟩)).toList == (plainB (b.getD i ⟨#[]⟩)).toList) && sameFrom a b (i + 1)) := by
  unfold sameFrom
  obtain ⟨k, hk⟩ : ∃ k, a.length - i = k + 1 := ⟨a.length - i - 1, by omega⟩
  rw [hk, List.range'_succ, List.all_cons, show a.length - (i + 1) = k by omega]
theorem sameFrom_end {a b : List ByteArray} : sameFrom a b a.length = true := by unfold sameFrom; rw [Nat.sub_self]; rfl
theorem sameFrom_zero {a b : List ByteArray} (h : a.length = b.length) : sameB a b = sameFrom a b 0 := by
  rw [sameB, decide_eq_true h, Bool.true_and, sameFrom, List.range_eq_range', Nat.sub_zero]
def nsAnn : Ann := [(0, [0, 1, 5])]
def nsSt (a b : List ByteArray) (i : Nat) : St := ⟨[.sl .sh (a.map strA), .sl .sh (b.map strA), .any, .any, .any, .v (.int .i64 i), .any, .any, .any, .any, .any, .any, .any, .any, .any, .any, .any, .any, .any, .any, .any, .any, .any, .any, .any, .any, .any, .any, .any, .any, .any, .any, .any, .any, .any], [], []⟩
def nsS : Sched := .take 0 (.take 1 (.take 2 (.take 5 (.take 6 (.take 7 (.ld 3 (.ld 8 (.alt 4 (.alt 9 (.take 10 .fin) .nil) .nil))))))))
attribute [local go_sem] nsS
set_option maxHeartbeats 1000000 in
set_option maxRecDepth 10000 in
include hm in
theorem sNameSame (a b : List ByteArray) (ha : a.length ≤ 1048576) (hb : b.length ≤ 1048576) (h1 : ∀ s ∈ a, s.size ≤ 1048576) (h2 : ∀ s ∈ b, s.size ≤ 1048576) : Holds Try.prog 5 [.sl .sh (a.map strA), .sl .sh (b.map strA)] [] (.v (.bool (sameB a b))) [] := by
  refine holds_of (ann := nsAnn) tabOk hm Try.func5 (by kernel_rfl) rfl ?_
  simp (decide := true) only [Try.f5, go_sem, Nat.reduceAdd, Nat.reduceMul, Nat.reduceSub]
  have la : (a.map strA).length = a.length := List.length_map _
  have lb : (b.map strA).length = b.length := List.length_map _
  refine Runs.while (α := Nat) (nsSt a b) (fun i => a.length - i) (fun i => i ≤ a.length ∧ (i ≠ 0 → a.length = b.length) ∧ sameFrom a b i = sameFrom a b 0) 0 ⟨Nat.zero_le _, fun h => absurd rfl h, rfl⟩ ?_ ?_
  · simp [go_sem, nsAnn, nsSt]
  · rintro i ⟨hi, h0, hr⟩ ih
    simp (decide := true) only [nsSt, la, lb, go_sem, Nat.reduceAdd, Nat.reduceMul, Nat.reduceSub]
    cases g1 : decide ((i : Int) < (a.length : Int))
    · have hge : i = a.length := by simp at g1; omega
      simp (decide := true) only [la, lb, go_sem, Nat.reduceAdd, Nat.reduceMul, Nat.reduceSub]
      rw [hge, sameFrom_end] at hr
      refine Runs.ret_eq ?_
      by_cases e : a.length = b.length
      · rw [sameFrom_zero e, ← hr]; simp [e]
      · rw [sameB, decide_eq_false e]; simp; omega
    · have hlt : i < a.length := by simpa using g1
      cases g2 : decide ((a.length : Int) = (b.length : Int))
      · simp (decide := true) only [la, lb, g2, go_sem, Nat.reduceAdd, Nat.reduceMul, Nat.reduceSub]
        have e : ¬ a.length = b.length := by simp at g2; omega
        exact Runs.ret_eq (by simp [sameB, e])
      · have e : a.length = b.length := by simp at g2; omega
        have hlb : i < b.length := by omega
        have ga : (a.map strA).getD i .any = .v (.string a[i]) := by simp [List.getD, hlt, strA]
        have gb : (b.map strA).getD i .any = .v (.string b[i]) := by simp [List.getD, hlb, strA]
        have qa : a.getD i ⟨#[]⟩ = a[i] := by simp [List.getD, hlt]
        have qb : b.getD i ⟨#[]⟩ = b[i] := by simp [List.getD, hlb]
        rw [sameFrom_succ hlt, qa, qb] at hr
        have ca := l10Plain hm a[i] (h1 _ (List.getElem_mem hlt))
        have cb := l10Plain hm b[i] (h2 _ (List.getElem_mem hlb))
        simp (decide := true) only [la, lb, g2, go_sem, Nat.reduceAdd, Nat.reduceMul, Nat.reduceSub]
        refine Runs.draw (st1 := ?s1) (draws_by (ann := nsAnn) tabOk nsS (by kernel_rfl) ?p1) ?q1
        case p1 =>
          intro K r X hK
          simp (decide := true) (maxSteps := 2000000) (disch := first | omega | (simp only [List.length_map, List.length_cons, List.length_append, List.length_nil]; omega)) only [la, lb, ga, gb, if_pos, go_sem, Nat.reduceAdd, Nat.reduceMul, Nat.reduceSub]
          repeat' apply And.intro
          all_goals
            refine Runs.call ca ?_
            simp (decide := true) (maxSteps := 2000000) (disch := first | omega | (simp only [List.length_map, List.length_cons, List.length_append, List.length_nil]; omega)) only [la, lb, ga, gb, if_pos, go_sem, Nat.reduceAdd, Nat.reduceMul, Nat.reduceSub]
            refine Runs.call cb ?_
            simp (decide := true) (maxSteps := 2000000) (disch := first | omega | (simp only [List.length_map, List.length_cons, List.length_append, List.length_nil]; omega)) only [if_pos, go_sem, Nat.reduceAdd, Nat.reduceMul, Nat.reduceSub]
            exact hK
        case q1 =>
          simp (decide := true) (disch := first | omega | (simp only [List.length_map, List.length_cons, List.length_append, List.length_nil]; omega)) only [if_pos, go_sem, Nat.reduceAdd, Nat.reduceMul, Nat.reduceSub]
          cases g3 : ((plainB a[i]).toList == (plainB b[i]).toList)
          · simp (decide := true) (disch := first | omega | (simp only [List.length_map, List.length_cons, List.length_append, List.length_nil]; omega)) only [g3, if_pos, go_sem, Nat.reduceAdd, Nat.reduceMul, Nat.reduceSub]
            refine Runs.ret_eq ?_
            rw [g3, Bool.false_and] at hr
            rw [sameFrom_zero e, ← hr]
          · rw [g3, Bool.true_and] at hr
            simp (decide := true) (disch := first | omega | (simp only [List.length_map, List.length_cons, List.length_append, List.length_nil]; omega)) only [g3, if_pos, go_sem, Nat.reduceAdd, Nat.reduceMul, Nat.reduceSub]
            refine ih (i + 1) _ (by omega) ⟨by omega, fun _ => e, hr⟩ ?_
            simp [go_sem, nsAnn, nsSt]
def efAnn : Ann := [(0, [0, 1, 2, 15, 16, 17])]
def efSt (g : Nat) (a b : List ByteArray) (i : Nat) : St := ⟨[.sl .sh (a.map strA), .sl .sh (b.map strA), .v (.func (.func g) #[] #[]), .any, .any, .any, .any, .any, .any, .any, .any, .any, .any, .any, .any, .sl .sh (a.map strA), .v (.int .i64 a.length), .v (.int .i64 i), .any, .any, .any, .any, .any, .any, .any, .any, .any, .any, .any, .any, .any, .any], [], []⟩
set_option maxRecDepth 10000 in
include hm in
theorem equalFunc (a b : List ByteArray) (ha : a.length ≤ 1048576) (hb : b.length ≤ 1048576) (h1 : ∀ s ∈ a, s.size ≤ 1048576) (h2 : ∀ s ∈ b, s.size ≤ 1048576) :
    Holds Try.prog 10 [.sl .sh (a.map strA), .sl .sh (b.map strA), .v (.func (.func 11) #[] #[])] [] (.v (.bool (sameB a b))) [] := by
  refine holds_of (ann := efAnn) tabOk hm Try.func10 (by kernel_rfl) rfl ?_
  have la : (a.map strA).length = a.length := List.length_map _
  have lb : (b.map strA).length = b.length := List.length_map _
  simp (decide := true) only [Try.f10, la, lb, go_sem, Nat.reduceAdd, Nat.reduceMul, Nat.reduceSub]
  cases g2 : decide ((a.length : Int) = (b.length : Int))
  · simp (decide := true) only [g2, go_sem, Nat.reduceAdd, Nat.reduceMul, Nat.reduceSub]
    have e : ¬ a.length = b.length := by simp at g2; omega
    exact Runs.ret_eq (by simp [sameB, e])
  · have e : a.length = b.length := by simp at g2; omega
    simp (decide := true) only [g2, la, lb, go_sem, Nat.reduceAdd, Nat.reduceMul, Nat.reduceSub]
    refine Runs.while (α := Nat) (efSt 11 a b) (fun i => a.length - i) (fun i => i ≤ a.length ∧ sameFrom a b i = sameFrom a b 0) 0 ⟨Nat.zero_le _, rfl⟩ ?_ ?_
    · simp [go_sem, efAnn, efSt]
    · rintro i ⟨hi, hr⟩ ih
      simp (decide := true) only [efSt, la, lb, go_sem, Nat.reduceAdd, Nat.reduceMul, Nat.reduceSub]
      refine Runs.split (fun h => ?_) (fun h => ?_)
      · have hlt : i < a.length := by simpa using h
        have hlb : i < b.length := by omega
        have ga : (a.map strA).getD i .any = .v (.string a[i]) := by simp [List.getD, hlt, strA]
        have gb : (b.map strA).getD i .any = .v (.string b[i]) := by simp [List.getD, hlb, strA]
        have qa : a.getD i ⟨#[]⟩ = a[i] := by simp [List.getD, hlt]
        have qb : b.getD i ⟨#[]⟩ = b[i] := by simp [List.getD, hlb]
        rw [sameFrom_succ hlt, qa, qb] at hr
        simp (decide := true) (disch := first | omega | (simp only [List.length_map, List.length_cons, List.length_append, List.length_nil]; omega)) only [la, lb, ga, gb, if_pos, go_sem, Nat.reduceAdd, Nat.reduceMul, Nat.reduceSub]
        refine Runs.call (nameSame1 hm a[i] b[i] (h1 _ (List.getElem_mem hlt)) (h2 _ (List.getElem_mem hlb))) ?_
        cases g3 : ((plainB a[i]).toList == (plainB b[i]).toList)
        · simp (decide := true) (disch := first | omega | (simp only [List.length_map, List.length_cons, List.length_append, List.length_nil]; omega)) only [if_pos, go_sem, Nat.reduceAdd, Nat.reduceMul, Nat.reduceSub]
          rw [g3, Bool.false_and] at hr
          exact Runs.ret_eq (by rw [sameFrom_zero e, ← hr])
        · rw [g3, Bool.true_and] at hr
          simp (decide := true) (disch := first | omega | (simp only [List.length_map, List.length_cons, List.length_append, List.length_nil]; omega)) only [if_pos, go_sem, Nat.reduceAdd, Nat.reduceMul, Nat.reduceSub]
          refine ih (i + 1) _ (by omega) ⟨by omega, hr⟩ ?_
          simp [go_sem, efAnn, efSt]
      · have hge : i = a.length := by simp at h; omega
        rw [hge, sameFrom_end] at hr
        simp (decide := true) only [go_sem, Nat.reduceAdd, Nat.reduceMul, Nat.reduceSub]
        exact Runs.ret_eq (by rw [sameFrom_zero e, ← hr])
set_option maxRecDepth 10000 in
include hm in
theorem iNameSame (a b : List ByteArray) (ha : a.length ≤ 1048576) (hb : b.length ≤ 1048576) (h1 : ∀ s ∈ a, s.size ≤ 1048576) (h2 : ∀ s ∈ b, s.size ≤ 1048576) :
    Holds Try.prog 7 [.sl .sh (a.map strA), .sl .sh (b.map strA)] [] (.v (.bool (sameB a b))) [] := by
  refine holds_of (ann := []) tabOk hm Try.func7 (by kernel_rfl) rfl ?_
  simp (decide := true) only [Try.f7, go_sem, Nat.reduceAdd, Nat.reduceMul, Nat.reduceSub]
  refine Runs.call (equalFunc hm a b ha hb h1 h2) ?_
  simp (decide := true) only [go_sem, Nat.reduceAdd, Nat.reduceMul, Nat.reduceSub]
  exact Runs.ret_v
end Go.Proofs.W

namespace Go.Proofs.W
open Go Go.AM
set_option linter.unusedSimpArgs false
set_option linter.unusedVariables false
variable (hm : Try.prog.follows .mixedOrders = true)

def szI (n : Nat) (left : Int) : Int := if left - n < 0 then -1 else left - n
def szGo : List ByteArray → Int → Int
  | [], l => l
  | s :: r, l => if l - s.size < 0 then -1 else szGo r (l - s.size)
def szS (L : List ByteArray) (left : Int) : Int := if left - L.length < 0 then -1 else szGo L (left - L.length)
theorem szGo_le (L : List ByteArray) (l : Int) (h : 0 ≤ l) : szGo L l ≤ l ∧ -1 ≤ szGo L l := by
  induction L generalizing l with
  | nil => simp [szGo]; omega
  | cons s r ih =>
    simp only [szGo]
    split
    · omega
    · have := ih (l - s.size) (by omega); omega
theorem szS_le (L : List ByteArray) (l : Int) (h : 0 ≤ l) : szS L l ≤ l := by
  unfold szS
  split
  · omega
  · have := szGo_le L (l - L.length) (by omega); omega
theorem szI_le (n : Nat) (l : Int) (h : 0 ≤ l) : szI n l ≤ l ∧ -1 ≤ szI n l := by
  unfold szI
  split <;> omega
theorem szS_len (L : List ByteArray) (l : Int) (h : ¬ szS L l < 0) (hl : l ≤ 1048576) : L.length ≤ 1048576 := by
  unfold szS at h
  split at h
  · exact absurd (by omega) h
  · omega
theorem szI_len (n : Nat) (l : Int) (h : ¬ szI n l < 0) (hl : l ≤ 1048576) : n ≤ 1048576 := by
  unfold szI at h
  split at h
  · exact absurd (by omega) h
  · omega
def szAnn : Ann := [(0, [0, 1, 5])]
def szSt (L : List ByteArray) (p : Nat × Int) : St := ⟨[.sl .sh (L.map strA), .v (.int .i64 p.2), .any, .any, .any, .v (.int .i64 p.1), .any, .any, .any, .any, .any, .any, .any, .any, .any, .any, .any, .any, .any, .any, .any, .any, .any, .any, .any, .any, .any, .any], [], []⟩
set_option maxRecDepth 10000 in
include hm in
theorem szStringS (L : List ByteArray) (left : Int) (h1 : 0 ≤ left) (h2 : left ≤ 1048576) (h3 : L.length ≤ 9223372036854775807) (h4 : ∀ s ∈ L, s.size ≤ 9223372036854775807) :
    Holds Try.prog 4 [.sl .sh (L.map strA), .v (.int .i64 left)] [] (.v (.int .i64 (szS L left))) [] := by
  refine holds_of (ann := szAnn) tabOk hm Try.func4 (by kernel_rfl) rfl ?_
  simp (decide := true) (disch := first | omega | (simp only [List.length_map, List.length_cons, List.length_append, List.length_nil]; omega)) only [Try.f4, if_pos, go_sem, Nat.reduceAdd, Nat.reduceMul, Nat.reduceSub]
  refine Runs.split (fun h => ?_) (fun h => ?_)
  · simp only [decide_eq_true_eq] at h
    simp (decide := true) only [szS, if_pos h, go_sem, Nat.reduceAdd, Nat.reduceMul, Nat.reduceSub]
    exact Runs.ret_v
  · simp only [decide_eq_false_iff_not] at h
    simp (decide := true) only [go_sem, Nat.reduceAdd, Nat.reduceMul, Nat.reduceSub]
    refine Runs.while (α := Nat × Int) (szSt L) (fun p => L.length - p.1) (fun p => p.1 ≤ L.length ∧ 0 ≤ p.2 ∧ p.2 ≤ 1048576 ∧ szGo (L.drop p.1) p.2 = szS L left) (0, left - L.length) ⟨by simp, by simp; omega, by simp; omega, by simp [szS, h]⟩ ?_ ?_
    · simp [go_sem, szAnn, szSt]
    · rintro ⟨i, l⟩ ⟨hi, hl1, hl2, hr⟩ ih
      simp only at hi hl1 hl2 hr
      simp (decide := true) only [szSt, go_sem, Nat.reduceAdd, Nat.reduceMul, Nat.reduceSub]
      refine Runs.split (fun h => ?_) (fun h => ?_)
      · have hlt : i < L.length := by simpa using h
        have hsz := h4 L[i] (List.getElem_mem hlt)
        rw [List.drop_eq_getElem_cons hlt] at hr
        simp only [szGo] at hr
        simp (decide := true) (disch := first | omega | (simp only [List.length_map, List.length_cons, List.length_append, List.length_nil]; omega)) only [if_pos, go_sem, Nat.reduceAdd, Nat.reduceMul, Nat.reduceSub]
        refine Runs.split (fun h => ?_) (fun h => ?_)
        · simp only [decide_eq_true_eq] at h
          rw [if_pos h] at hr
          simp (decide := true) only [← hr, go_sem, Nat.reduceAdd, Nat.reduceMul, Nat.reduceSub]
          exact Runs.ret_v
        · simp only [decide_eq_false_iff_not] at h
          rw [if_neg h] at hr
          simp (decide := true) (disch := first | omega | (simp only [List.length_map, List.length_cons, List.length_append, List.length_nil]; omega)) only [if_pos, go_sem, Nat.reduceAdd, Nat.reduceMul, Nat.reduceSub]
          refine ih (i + 1, l - L[i].size) _ (by simp only; omega) ⟨hlt, by simp only; omega, by simp only; omega, hr⟩ ?_
          simp [go_sem, szAnn, szSt]
      · have hge : i = L.length := by simp at h; omega
        subst hge
        simp only [List.drop_length, szGo] at hr
        simp (decide := true) only [← hr, go_sem, Nat.reduceAdd, Nat.reduceMul, Nat.reduceSub]
        exact Runs.ret_v
end Go.Proofs.W

namespace Go.Proofs.W
open Go Go.AM
set_option linter.unusedSimpArgs false
set_option linter.unusedVariables false
variable (hm : Try.prog.follows .mixedOrders = true)

def fillS {α : Type} (g : α → A) (L : List α) (z : A) (i : Nat) : List A := (L.take i).map g ++ List.replicate (L.length - i) z
theorem fillS_length {α : Type} (g : α → A) (L : List α) (z : A) (i : Nat) (h : i ≤ L.length) : (fillS g L z i).length = L.length := by simp [fillS]; omega
theorem fillS_zero {α : Type} (g : α → A) (L : List α) (z : A) : fillS g L z 0 = List.replicate L.length z := by simp [fillS]
theorem fillS_all {α : Type} (g : α → A) (L : List α) (z : A) : fillS g L z L.length = L.map g := by simp [fillS]
theorem fillS_set {α : Type} (g : α → A) (L : List α) (z : A) (i : Nat) (h : i < L.length) : (fillS g L z i).set i (g L[i]) = fillS g L z (i + 1) := by
  unfold fillS
  have e : L.length - i = (L.length - (i + 1)) + 1 := by omega
  rw [List.set_append_right _ _ (by simp; omega), e, List.replicate_succ]
  have hl : ((L.take i).map g).length = i := by simp; omega
  rw [hl, Nat.sub_self, List.set_cons_zero, List.take_succ_eq_append_getElem h, List.map_append, List.append_assoc]
  rfl
theorem fillS_get {α : Type} (g : α → A) (L : List α) (z : A) (i : Nat) (h : i < L.length) : (fillS g L z i).getD i .any = z := by
  unfold fillS
  have hl : ((L.take i).map g).length = i := by simp; omega
  rw [List.getD, List.getElem?_append_right (by omega), hl, Nat.sub_self]
  have e : L.length - i = (L.length - (i + 1)) + 1 := by omega
  rw [e, List.replicate_succ]
  rfl

def toAnn : Ann := [(0, [0, 3, 4])]
def toStringSt (L : List ByteArray) (i : Nat) : St := ⟨[.sl .sh (L.map strA), .any, .any, .ms (.l 0) 0 L.length L.length, .v (.int .i64 i), .any, .any, .any, .any, .any, .any, .any, .any, .any, .any, .any, .any, .any, .any, .any, .any, .any], [(0, ⟨true, 1, false, fillS strA L (.v (.string ⟨#[]⟩)) i⟩)], []⟩
set_option maxRecDepth 10000 in
include hm in
theorem toStringS (L : List ByteArray) (h3 : L.length ≤ 1048576) : Holds Try.prog 6 [.sl .sh (L.map strA)] [] (.sl (.ow 1) (L.map strA)) [] := by
  refine holds_of (ann := toAnn) tabOk hm Try.func6 (by kernel_rfl) rfl ?_
  simp (decide := true) (disch := first | omega | (simp only [List.length_map, List.length_cons, List.length_append, List.length_nil]; omega)) only [Try.f6, if_pos, go_sem, Nat.reduceAdd, Nat.reduceMul, Nat.reduceSub]
  refine Runs.while (α := Nat) (toStringSt L) (fun i => L.length - i) (fun i => i ≤ L.length) 0 (by omega) ?_ ?_
  · simp [go_sem, toAnn, toStringSt, fillS_zero]
  · intro i hi ih
    have hlen := fillS_length strA L (.v (.string ⟨#[]⟩)) i hi
    simp (decide := true) only [toStringSt, hlen, go_sem, Nat.reduceAdd, Nat.reduceMul, Nat.reduceSub]
    refine Runs.split (fun h => ?_) (fun h => ?_)
    · have hlt : i < L.length := by simpa using h
      have hg := fillS_get strA L (.v (.string ⟨#[]⟩)) i hlt
      have hs : (fillS strA L (.v (.string ⟨#[]⟩)) i).set i (strA L[i]) = _ := fillS_set strA L (.v (.string ⟨#[]⟩)) i hlt
      simp only [strA] at hs
      simp (decide := true) (disch := first | omega | (simp only [List.length_map, List.length_cons, List.length_append, List.length_nil]; omega)) only [hlen, hg, hs, if_pos, go_sem, Nat.reduceAdd, Nat.reduceMul, Nat.reduceSub]
      refine ih (i + 1) _ (by omega) hlt ?_
      simp [go_sem, toAnn, toStringSt]
    · have hge : i = L.length := by simp at h; omega
      subst hge
      simp (decide := true) only [hlen, fillS_all, go_sem, Nat.reduceAdd, Nat.reduceMul, Nat.reduceSub]
      exact Runs.ret_refl
end Go.Proofs.W

namespace Go.Proofs.W
open Go Go.AM
set_option linter.unusedSimpArgs false
set_option linter.unusedVariables false
variable (hm : Try.prog.follows .mixedOrders = true)

def eqAnn : Ann := [(0, [0, 1, 5])]
def eqSched : Sched := .take 0 (.take 1 (.take 2 (.take 4 (.take 5 (.take 6 (.alt 3 (.alt 7 (.take 8 .fin) .nil) (.alt 7 (.alt 3 (.take 8 .fin) .nil) .nil)))))))
attribute [local go_sem] eqSched
def eqStringSt (L : List ByteArray) (i : Nat) : St := ⟨[.sl .sh (L.map strA), .sl .sh (L.map strA), .any, .any, .any, .v (.int .i64 i), .any, .any, .any, .any, .any, .any, .any, .any, .any, .any, .any, .any, .any, .any, .any, .any, .any, .any, .any, .any], [], []⟩
set_option maxRecDepth 10000 in
include hm in
theorem eqStringS (L : List ByteArray) (h3 : L.length ≤ 9223372036854775807) : Holds Try.prog 8 [.sl .sh (L.map strA), .sl .sh (L.map strA)] [] (.v (.bool true)) [] := by
  refine holds_of (ann := eqAnn) tabOk hm Try.func8 (by kernel_rfl) rfl ?_
  simp (decide := true) only [Try.f8, go_sem, Nat.reduceAdd, Nat.reduceMul, Nat.reduceSub]
  refine Runs.while (α := Nat) (eqStringSt L) (fun i => L.length - i) (fun i => i ≤ L.length) 0 (by omega) ?_ ?_
  · simp [go_sem, eqAnn, eqStringSt]
  · intro i hi ih
    simp (decide := true) only [eqStringSt, go_sem, Nat.reduceAdd, Nat.reduceMul, Nat.reduceSub]
    refine Runs.split (fun h => ?_) (fun h => ?_)
    · have hlt : i < L.length := by simpa using h
      simp (decide := true) only [go_sem, Nat.reduceAdd, Nat.reduceMul, Nat.reduceSub]
      refine Runs.draw (st1 := ?s1) (draws_by (ann := []) tabOk eqSched (by kernel_rfl) ?p1) ?q1
      case p1 =>
        intro K r X hK
        simp (decide := true) (disch := first | omega | (simp only [List.length_map, List.length_cons, List.length_append, List.length_nil]; omega)) only [if_pos, go_sem, Nat.reduceAdd, Nat.reduceMul, Nat.reduceSub]
        exact hK
      case q1 =>
        simp (decide := true) (disch := first | omega | (simp only [List.length_map, List.length_cons, List.length_append, List.length_nil]; omega)) only [if_pos, go_sem, Nat.reduceAdd, Nat.reduceMul, Nat.reduceSub]
        refine ih (i + 1) _ (by omega) hlt ?_
        simp [go_sem, eqAnn, eqStringSt]
    · simp (decide := true) only [go_sem, Nat.reduceAdd, Nat.reduceMul, Nat.reduceSub]
      exact Runs.ret_v
end Go.Proofs.W

namespace Go.Proofs.W
open Go Go.AM
set_option linter.unusedSimpArgs false
set_option linter.unusedVariables false
variable (hm : Try.prog.follows .mixedOrders = true)
theorem szGo_szN (L : List ByteArray) (l : Int) (h : 0 ≤ l) (h2 : 0 ≤ szGo L l) : ∀ s ∈ L, (s.size : Int) ≤ l := by
  induction L generalizing l with
  | nil => simp
  | cons a r ih =>
    simp only [szGo] at h2
    split at h2
    · omega
    · intro s hs
      rcases List.mem_cons.mp hs with e | e
      · subst e; omega
      · have := ih (l - a.size) (by omega) h2 s e; omega
theorem szS_szN (L : List ByteArray) (l : Int) (h : 0 ≤ l) (hl : l ≤ 1048576) (h2 : ¬ szS L l < 0) : ∀ s ∈ L, s.size ≤ 1048576 := by
  unfold szS at h2
  split at h2
  · exact absurd (by omega) h2
  · intro s hs
    have := szGo_szN L (l - L.length) (by omega) (by omega) s hs
    omega
set_option maxHeartbeats 4000000 in
set_option maxRecDepth 10000 in
include hm in
theorem lawNameSame (a b : List ByteArray) (h1 : a.length ≤ 9223372036854775807) (h2 : ∀ s ∈ a, s.size ≤ 9223372036854775807) (h3 : b.length ≤ 9223372036854775807) (h4 : ∀ s ∈ b, s.size ≤ 9223372036854775807) :
    Holds Try.prog 3 [.sl .sh (a.map strA), .sl .sh (b.map strA)] [] (.v (.bool true)) [] := by
  refine holds_of (ann := []) tabOk hm Try.func3 (by kernel_rfl) rfl ?_
  simp (decide := true) only [Try.f3, go_sem, Nat.reduceAdd, Nat.reduceMul, Nat.reduceSub]
  refine Runs.call (szStringS hm a 1048576 (by omega) (by omega) h1 h2) ?_
  simp (decide := true) only [go_sem, Nat.reduceAdd, Nat.reduceMul, Nat.reduceSub]
  refine Runs.split (fun e => by simp (decide := true) only [go_sem, Nat.reduceAdd, Nat.reduceMul, Nat.reduceSub]; exact Runs.ret_v) (fun e => ?_)
  simp only [decide_eq_false_iff_not] at e
  have b1 := szS_le a 1048576 (by omega)
  simp (decide := true) only [go_sem, Nat.reduceAdd, Nat.reduceMul, Nat.reduceSub]
  refine Runs.call (szStringS hm b _ (by omega) (by omega) h3 h4) ?_
  simp (decide := true) only [go_sem, Nat.reduceAdd, Nat.reduceMul, Nat.reduceSub]
  refine Runs.split (fun e2 => by simp (decide := true) only [go_sem, Nat.reduceAdd, Nat.reduceMul, Nat.reduceSub]; exact Runs.ret_v) (fun e2 => ?_)
  simp only [decide_eq_false_iff_not] at e2
  have ka := szS_len a _ e (by omega)
  have kb := szS_len b _ e2 (by omega)
  have sa := szS_szN a _ (by omega) (by omega) e
  have sb := szS_szN b _ (by omega) (by omega) e2
  have cs := sNameSame hm a b ka kb sa sb
  have ci := iNameSame hm a b ka kb sa sb
  have ta := toStringS hm a ka
  have tb := toStringS hm b kb
  have ea := eqStringS hm a h1
  have eb := eqStringS hm b h3
  simp (decide := true) only [go_sem, Nat.reduceAdd, Nat.reduceMul, Nat.reduceSub]
  refine Runs.call ta ?_
  simp (decide := true) only [go_sem, Nat.reduceAdd, Nat.reduceMul, Nat.reduceSub]
  refine Runs.call tb ?_
  simp (decide := true) only [go_sem, Nat.reduceAdd, Nat.reduceMul, Nat.reduceSub]
  refine Runs.call cs ?_
  simp (decide := true) only [go_sem, Nat.reduceAdd, Nat.reduceMul, Nat.reduceSub]
  refine Runs.call ta ?_
  simp (decide := true) only [go_sem, Nat.reduceAdd, Nat.reduceMul, Nat.reduceSub]
  refine Runs.call tb ?_
  simp (decide := true) only [go_sem, Nat.reduceAdd, Nat.reduceMul, Nat.reduceSub]
  refine Runs.call ci ?_
  generalize sameB a b = bb
  have hbb : (bb != bb) = false := by cases bb <;> rfl
  have hbb2 : (bb == bb) = true := by cases bb <;> rfl
  simp (decide := true) only [hbb, hbb2, go_sem, Nat.reduceAdd, Nat.reduceMul, Nat.reduceSub]
  refine Runs.call ta ?_
  simp (decide := true) only [go_sem, Nat.reduceAdd, Nat.reduceMul, Nat.reduceSub]
  refine Runs.call ea ?_
  simp (decide := true) only [go_sem, Nat.reduceAdd, Nat.reduceMul, Nat.reduceSub]
  refine Runs.call tb ?_
  simp (decide := true) only [go_sem, Nat.reduceAdd, Nat.reduceMul, Nat.reduceSub]
  refine Runs.call eb ?_
  simp (decide := true) only [go_sem, Nat.reduceAdd, Nat.reduceMul, Nat.reduceSub]
  exact Runs.ret_v
end Go.Proofs.W
