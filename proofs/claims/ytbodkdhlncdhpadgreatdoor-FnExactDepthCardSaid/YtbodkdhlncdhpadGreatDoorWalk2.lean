import Derived.Lib.IndexLaws
import Derived.Lib.Strings
import Derived.Lib.Slices
import Derived.Lib.Walk
import Derived.Lib.Bytealg
import Derived.Test.YtbodkdhlncdhpadGreatDoorWalk1
set_option linter.unusedVariables false
set_option linter.unusedSimpArgs false
namespace Go.Proofs.W
open Go Go.AM
set_option linter.unusedSimpArgs false
set_option linter.unusedVariables false
variable (hm : Tryz.prog.follows .mixedOrders = true)

def szI (n : Nat) (left : Int) : Int := if left - n < 0 then -1 else left - n
def szGo : List ByteArray → Int → Int
  | [], l => l
  | s :: r, l => if l - s.size < 0 then -1 else szGo r (l - s.size)
def szS (L : List ByteArray) (left : Int) : Int := if left - L.length < 0 then -1 else szGo L (left - L.length)
theorem szGo_le (L : List ByteArray) (l : Int) (h : 0 ≤ l) : szGo L l ≤ l ∧ -1 ≤ szGo L l := by
  induction L generalizing l with
  | nil => simp [szGo]; omega
  | cons s r ih =>
    simp only [szGo]
    split
    · omega
    · have := ih (l - s.size) (by omega); omega
theorem szS_le (L : List ByteArray) (l : Int) (h : 0 ≤ l) : szS L l ≤ l := by
  unfold szS
  split
  · omega
  · have := szGo_le L (l - L.length) (by omega); omega
theorem szI_le (n : Nat) (l : Int) (h : 0 ≤ l) : szI n l ≤ l ∧ -1 ≤ szI n l := by
  unfold szI
  split <;> omega
theorem szS_len (L : List ByteArray) (l : Int) (h : ¬ szS L l < 0) (hl : l ≤ 1048576) : L.length ≤ 1048576 := by
  unfold szS at h
  split at h
  · exact absurd (by omega) h
  · omega
theorem szI_len (n : Nat) (l : Int) (h : ¬ szI n l < 0) (hl : l ≤ 1048576) : n ≤ 1048576 := by
  unfold szI at h
  split at h
  · exact absurd (by omega) h
  · omega
set_option maxRecDepth 10000 in
include hm in
theorem szIntS (es : List A) (left : Int) (h1 : 0 ≤ left) (h2 : left ≤ 1048576) (h3 : es.length ≤ 9223372036854775807) :
    Holds Tryz.prog 36 [.sl .sh es, .v (.int .i64 left)] [] (.v (.int .i64 (szI es.length left))) [] := by
  refine holds_of (ann := []) tabOk hm Tryz.func36 (by kernel_rfl) rfl ?_
  simp (decide := true) (disch := first | omega | (simp only [List.length_map, List.length_cons, List.length_append, List.length_nil]; omega)) only [Tryz.f36, if_pos, go_sem, Nat.reduceAdd, Nat.reduceMul, Nat.reduceSub]
  refine Runs.split (fun h => ?_) (fun h => ?_)
  · simp only [decide_eq_true_eq] at h
    simp (decide := true) only [szI, if_pos h, go_sem, Nat.reduceAdd, Nat.reduceMul, Nat.reduceSub]
    exact Runs.ret_v
  · simp only [decide_eq_false_iff_not] at h
    simp (decide := true) only [szI, if_neg h, go_sem, Nat.reduceAdd, Nat.reduceMul, Nat.reduceSub]
    exact Runs.ret_v
set_option maxRecDepth 10000 in
include hm in
theorem szByteS (es : List A) (left : Int) (h1 : 0 ≤ left) (h2 : left ≤ 1048576) (h3 : es.length ≤ 9223372036854775807) :
    Holds Tryz.prog 19 [.sl .sh es, .v (.int .i64 left)] [] (.v (.int .i64 (szI es.length left))) [] := by
  refine holds_of (ann := []) tabOk hm Tryz.func19 (by kernel_rfl) rfl ?_
  simp (decide := true) (disch := first | omega | (simp only [List.length_map, List.length_cons, List.length_append, List.length_nil]; omega)) only [Tryz.f19, if_pos, go_sem, Nat.reduceAdd, Nat.reduceMul, Nat.reduceSub]
  refine Runs.split (fun h => ?_) (fun h => ?_)
  · simp only [decide_eq_true_eq] at h
    simp (decide := true) only [szI, if_pos h, go_sem, Nat.reduceAdd, Nat.reduceMul, Nat.reduceSub]
    exact Runs.ret_v
  · simp only [decide_eq_false_iff_not] at h
    simp (decide := true) only [szI, if_neg h, go_sem, Nat.reduceAdd, Nat.reduceMul, Nat.reduceSub]
    exact Runs.ret_v
def szAnn : Ann := [(0, [0, 1, 5])]
def szSt (L : List ByteArray) (p : Nat × Int) : St := ⟨[.sl .sh (L.map strA), .v (.int .i64 p.2), .any, .any, .any, .v (.int .i64 p.1), .any, .any, .any, .any, .any, .any, .any, .any, .any, .any, .any, .any, .any, .any, .any, .any, .any, .any, .any, .any, .any, .any], [], []⟩
set_option maxRecDepth 10000 in
include hm in
theorem szStringS (L : List ByteArray) (left : Int) (h1 : 0 ≤ left) (h2 : left ≤ 1048576) (h3 : L.length ≤ 9223372036854775807) (h4 : ∀ s ∈ L, s.size ≤ 9223372036854775807) :
    Holds Tryz.prog 16 [.sl .sh (L.map strA), .v (.int .i64 left)] [] (.v (.int .i64 (szS L left))) [] := by
  refine holds_of (ann := szAnn) tabOk hm Tryz.func16 (by kernel_rfl) rfl ?_
  simp (decide := true) (disch := first | omega | (simp only [List.length_map, List.length_cons, List.length_append, List.length_nil]; omega)) only [Tryz.f16, if_pos, go_sem, Nat.reduceAdd, Nat.reduceMul, Nat.reduceSub]
  refine Runs.split (fun h => ?_) (fun h => ?_)
  · simp only [decide_eq_true_eq] at h
    simp (decide := true) only [szS, if_pos h, go_sem, Nat.reduceAdd, Nat.reduceMul, Nat.reduceSub]
    exact Runs.ret_v
  · simp only [decide_eq_false_iff_not] at h
    simp (decide := true) only [go_sem, Nat.reduceAdd, Nat.reduceMul, Nat.reduceSub]
    refine Runs.while (α := Nat × Int) (szSt L) (fun p => L.length - p.1) (fun p => p.1 ≤ L.length ∧ 0 ≤ p.2 ∧ p.2 ≤ 1048576 ∧ szGo (L.drop p.1) p.2 = szS L left) (0, left - L.length) ⟨by simp, by simp; omega, by simp; omega, by simp [szS, h]⟩ ?_ ?_
    · simp [go_sem, szAnn, szSt]
    · rintro ⟨i, l⟩ ⟨hi, hl1, hl2, hr⟩ ih
      simp only at hi hl1 hl2 hr
      simp (decide := true) only [szSt, go_sem, Nat.reduceAdd, Nat.reduceMul, Nat.reduceSub]
      refine Runs.split (fun h => ?_) (fun h => ?_)
      · have hlt : i < L.length := by simpa using h
        have hsz := h4 L[i] (List.getElem_mem hlt)
        rw [List.drop_eq_getElem_cons hlt] at hr
        simp only [szGo] at hr
        simp (decide := true) (disch := first | omega | (simp only [List.length_map, List.length_cons, List.length_append, List.length_nil]; omega)) only [if_pos, go_sem, Nat.reduceAdd, Nat.reduceMul, Nat.reduceSub]
        refine Runs.split (fun h => ?_) (fun h => ?_)
        · simp only [decide_eq_true_eq] at h
          rw [if_pos h] at hr
          simp (decide := true) only [← hr, go_sem, Nat.reduceAdd, Nat.reduceMul, Nat.reduceSub]
          exact Runs.ret_v
        · simp only [decide_eq_false_iff_not] at h
          rw [if_neg h] at hr
          simp (decide := true) (disch := first | omega | (simp only [List.length_map, List.length_cons, List.length_append, List.length_nil]; omega)) only [if_pos, go_sem, Nat.reduceAdd, Nat.reduceMul, Nat.reduceSub]
          refine ih (i + 1, l - L[i].size) _ (by simp only; omega) ⟨hlt, by simp only; omega, by simp only; omega, hr⟩ ?_
          simp [go_sem, szAnn, szSt]
      · have hge : i = L.length := by simp at h; omega
        subst hge
        simp only [List.drop_length, szGo] at hr
        simp (decide := true) only [← hr, go_sem, Nat.reduceAdd, Nat.reduceMul, Nat.reduceSub]
        exact Runs.ret_v
end Go.Proofs.W

namespace Go.Proofs.W
open Go Go.AM
set_option linter.unusedSimpArgs false
set_option linter.unusedVariables false
variable (hm : Tryz.prog.follows .mixedOrders = true)

def fillS {α : Type} (g : α → A) (L : List α) (z : A) (i : Nat) : List A := (L.take i).map g ++ List.replicate (L.length - i) z
theorem fillS_length {α : Type} (g : α → A) (L : List α) (z : A) (i : Nat) (h : i ≤ L.length) : (fillS g L z i).length = L.length := by simp [fillS]; omega
theorem fillS_zero {α : Type} (g : α → A) (L : List α) (z : A) : fillS g L z 0 = List.replicate L.length z := by simp [fillS]
theorem fillS_all {α : Type} (g : α → A) (L : List α) (z : A) : fillS g L z L.length = L.map g := by simp [fillS]
theorem fillS_set {α : Type} (g : α → A) (L : List α) (z : A) (i : Nat) (h : i < L.length) : (fillS g L z i).set i (g L[i]) = fillS g L z (i + 1) := by
  unfold fillS
  have e : L.length - i = (L.length - (i + 1)) + 1 := by omega
  rw [List.set_append_right _ _ (by simp; omega), e, List.replicate_succ]
  have hl : ((L.take i).map g).length = i := by simp; omega
  rw [hl, Nat.sub_self, List.set_cons_zero, List.take_succ_eq_append_getElem h, List.map_append, List.append_assoc]
  rfl
theorem fillS_get {α : Type} (g : α → A) (L : List α) (z : A) (i : Nat) (h : i < L.length) : (fillS g L z i).getD i .any = z := by
  unfold fillS
  have hl : ((L.take i).map g).length = i := by simp; omega
  rw [List.getD, List.getElem?_append_right (by omega), hl, Nat.sub_self]
  have e : L.length - i = (L.length - (i + 1)) + 1 := by omega
  rw [e, List.replicate_succ]
  rfl

def toAnn : Ann := [(0, [0, 3, 4])]
def toStringSt (L : List ByteArray) (i : Nat) : St := ⟨[.sl .sh (L.map strA), .any, .any, .ms (.l 0) 0 L.length L.length, .v (.int .i64 i), .any, .any, .any, .any, .any, .any, .any, .any, .any, .any, .any, .any, .any, .any, .any, .any, .any], [(0, ⟨true, 1, false, fillS strA L (.v (.string ⟨#[]⟩)) i⟩)], []⟩
set_option maxRecDepth 10000 in
include hm in
theorem toStringS (L : List ByteArray) (h3 : L.length ≤ 1048576) : Holds Tryz.prog 23 [.sl .sh (L.map strA)] [] (.sl (.ow 1) (L.map strA)) [] := by
  refine holds_of (ann := toAnn) tabOk hm Tryz.func23 (by kernel_rfl) rfl ?_
  simp (decide := true) (disch := first | omega | (simp only [List.length_map, List.length_cons, List.length_append, List.length_nil]; omega)) only [Tryz.f23, if_pos, go_sem, Nat.reduceAdd, Nat.reduceMul, Nat.reduceSub]
  refine Runs.while (α := Nat) (toStringSt L) (fun i => L.length - i) (fun i => i ≤ L.length) 0 (by omega) ?_ ?_
  · simp [go_sem, toAnn, toStringSt, fillS_zero]
  · intro i hi ih
    have hlen := fillS_length strA L (.v (.string ⟨#[]⟩)) i hi
    simp (decide := true) only [toStringSt, hlen, go_sem, Nat.reduceAdd, Nat.reduceMul, Nat.reduceSub]
    refine Runs.split (fun h => ?_) (fun h => ?_)
    · have hlt : i < L.length := by simpa using h
      have hg := fillS_get strA L (.v (.string ⟨#[]⟩)) i hlt
      have hs : (fillS strA L (.v (.string ⟨#[]⟩)) i).set i (strA L[i]) = _ := fillS_set strA L (.v (.string ⟨#[]⟩)) i hlt
      simp only [strA] at hs
      simp (decide := true) (disch := first | omega | (simp only [List.length_map, List.length_cons, List.length_append, List.length_nil]; omega)) only [hlen, hg, hs, if_pos, go_sem, Nat.reduceAdd, Nat.reduceMul, Nat.reduceSub]
      refine ih (i + 1) _ (by omega) hlt ?_
      simp [go_sem, toAnn, toStringSt]
    · have hge : i = L.length := by simp at h; omega
      subst hge
      simp (decide := true) only [hlen, fillS_all, go_sem, Nat.reduceAdd, Nat.reduceMul, Nat.reduceSub]
      exact Runs.ret_refl
def toIntSt (L : List Int) (i : Nat) : St := ⟨[.sl .sh (L.map intA), .any, .any, .ms (.l 0) 0 L.length L.length, .v (.int .i64 i), .any, .any, .any, .any, .any, .any, .any, .any, .any, .any, .any, .any, .any, .any, .any, .any, .any], [(0, ⟨true, 1, false, fillS intA L (.v (.int .i64 0)) i⟩)], []⟩
set_option maxRecDepth 10000 in
include hm in
theorem toIntS (L : List Int) (h3 : L.length ≤ 1048576) : Holds Tryz.prog 43 [.sl .sh (L.map intA)] [] (.sl (.ow 1) (L.map intA)) [] := by
  refine holds_of (ann := toAnn) tabOk hm Tryz.func43 (by kernel_rfl) rfl ?_
  simp (decide := true) (disch := first | omega | (simp only [List.length_map, List.length_cons, List.length_append, List.length_nil]; omega)) only [Tryz.f43, if_pos, go_sem, Nat.reduceAdd, Nat.reduceMul, Nat.reduceSub]
  refine Runs.while (α := Nat) (toIntSt L) (fun i => L.length - i) (fun i => i ≤ L.length) 0 (by omega) ?_ ?_
  · simp [go_sem, toAnn, toIntSt, fillS_zero]
  · intro i hi ih
    have hlen := fillS_length intA L (.v (.int .i64 0)) i hi
    simp (decide := true) only [toIntSt, hlen, go_sem, Nat.reduceAdd, Nat.reduceMul, Nat.reduceSub]
    refine Runs.split (fun h => ?_) (fun h => ?_)
    · have hlt : i < L.length := by simpa using h
      have hg := fillS_get intA L (.v (.int .i64 0)) i hlt
      have hs : (fillS intA L (.v (.int .i64 0)) i).set i (intA L[i]) = _ := fillS_set intA L (.v (.int .i64 0)) i hlt
      simp only [intA] at hs
      simp (decide := true) (disch := first | omega | (simp only [List.length_map, List.length_cons, List.length_append, List.length_nil]; omega)) only [hlen, hg, hs, if_pos, go_sem, Nat.reduceAdd, Nat.reduceMul, Nat.reduceSub]
      refine ih (i + 1) _ (by omega) hlt ?_
      simp [go_sem, toAnn, toIntSt]
    · have hge : i = L.length := by simp at h; omega
      subst hge
      simp (decide := true) only [hlen, fillS_all, go_sem, Nat.reduceAdd, Nat.reduceMul, Nat.reduceSub]
      exact Runs.ret_refl
def toByteSt (L : List Int) (i : Nat) : St := ⟨[.sl .sh (L.map u8A), .any, .any, .ms (.l 0) 0 L.length L.length, .v (.int .i64 i), .any, .any, .any, .any, .any, .any, .any, .any, .any, .any, .any, .any, .any, .any, .any, .any, .any], [(0, ⟨true, 1, false, fillS u8A L (.v (.int .u8 0)) i⟩)], []⟩
set_option maxRecDepth 10000 in
include hm in
theorem toByteS (L : List Int) (h3 : L.length ≤ 1048576) : Holds Tryz.prog 26 [.sl .sh (L.map u8A)] [] (.sl (.ow 1) (L.map u8A)) [] := by
  refine holds_of (ann := toAnn) tabOk hm Tryz.func26 (by kernel_rfl) rfl ?_
  simp (decide := true) (disch := first | omega | (simp only [List.length_map, List.length_cons, List.length_append, List.length_nil]; omega)) only [Tryz.f26, if_pos, go_sem, Nat.reduceAdd, Nat.reduceMul, Nat.reduceSub]
  refine Runs.while (α := Nat) (toByteSt L) (fun i => L.length - i) (fun i => i ≤ L.length) 0 (by omega) ?_ ?_
  · simp [go_sem, toAnn, toByteSt, fillS_zero]
  · intro i hi ih
    have hlen := fillS_length u8A L (.v (.int .u8 0)) i hi
    simp (decide := true) only [toByteSt, hlen, go_sem, Nat.reduceAdd, Nat.reduceMul, Nat.reduceSub]
    refine Runs.split (fun h => ?_) (fun h => ?_)
    · have hlt : i < L.length := by simpa using h
      have hg := fillS_get u8A L (.v (.int .u8 0)) i hlt
      have hs : (fillS u8A L (.v (.int .u8 0)) i).set i (u8A L[i]) = _ := fillS_set u8A L (.v (.int .u8 0)) i hlt
      simp only [u8A] at hs
      simp (decide := true) (disch := first | omega | (simp only [List.length_map, List.length_cons, List.length_append, List.length_nil]; omega)) only [hlen, hg, hs, if_pos, go_sem, Nat.reduceAdd, Nat.reduceMul, Nat.reduceSub]
      refine ih (i + 1) _ (by omega) hlt ?_
      simp [go_sem, toAnn, toByteSt]
    · have hge : i = L.length := by simp at h; omega
      subst hge
      simp (decide := true) only [hlen, fillS_all, go_sem, Nat.reduceAdd, Nat.reduceMul, Nat.reduceSub]
      exact Runs.ret_refl
end Go.Proofs.W

namespace Go.Proofs.W
open Go Go.AM
set_option linter.unusedSimpArgs false
set_option linter.unusedVariables false
variable (hm : Tryz.prog.follows .mixedOrders = true)

def eqAnn : Ann := [(0, [0, 1, 5])]
def eqSched : Sched := .take 0 (.take 1 (.take 2 (.take 4 (.take 5 (.take 6 (.alt 3 (.alt 7 (.take 8 .fin) .nil) (.alt 7 (.alt 3 (.take 8 .fin) .nil) .nil)))))))
attribute [local go_sem] eqSched
def eqStringSt (L : List ByteArray) (i : Nat) : St := ⟨[.sl .sh (L.map strA), .sl .sh (L.map strA), .any, .any, .any, .v (.int .i64 i), .any, .any, .any, .any, .any, .any, .any, .any, .any, .any, .any, .any, .any, .any, .any, .any, .any, .any, .any, .any], [], []⟩
set_option maxRecDepth 10000 in
include hm in
theorem eqStringS (L : List ByteArray) (h3 : L.length ≤ 9223372036854775807) : Holds Tryz.prog 32 [.sl .sh (L.map strA), .sl .sh (L.map strA)] [] (.v (.bool true)) [] := by
  refine holds_of (ann := eqAnn) tabOk hm Tryz.func32 (by kernel_rfl) rfl ?_
  simp (decide := true) only [Tryz.f32, go_sem, Nat.reduceAdd, Nat.reduceMul, Nat.reduceSub]
  refine Runs.while (α := Nat) (eqStringSt L) (fun i => L.length - i) (fun i => i ≤ L.length) 0 (by omega) ?_ ?_
  · simp [go_sem, eqAnn, eqStringSt]
  · intro i hi ih
    simp (decide := true) only [eqStringSt, go_sem, Nat.reduceAdd, Nat.reduceMul, Nat.reduceSub]
    refine Runs.split (fun h => ?_) (fun h => ?_)
    · have hlt : i < L.length := by simpa using h
      simp (decide := true) only [go_sem, Nat.reduceAdd, Nat.reduceMul, Nat.reduceSub]
      refine Runs.draw (st1 := ?s1) (draws_by (ann := []) tabOk eqSched (by kernel_rfl) ?p1) ?q1
      case p1 =>
        intro K r X hK
        simp (decide := true) (disch := first | omega | (simp only [List.length_map, List.length_cons, List.length_append, List.length_nil]; omega)) only [if_pos, go_sem, Nat.reduceAdd, Nat.reduceMul, Nat.reduceSub]
        exact hK
      case q1 =>
        simp (decide := true) (disch := first | omega | (simp only [List.length_map, List.length_cons, List.length_append, List.length_nil]; omega)) only [if_pos, go_sem, Nat.reduceAdd, Nat.reduceMul, Nat.reduceSub]
        refine ih (i + 1) _ (by omega) hlt ?_
        simp [go_sem, eqAnn, eqStringSt]
    · simp (decide := true) only [go_sem, Nat.reduceAdd, Nat.reduceMul, Nat.reduceSub]
      exact Runs.ret_v
def eqIntSt (L : List Int) (i : Nat) : St := ⟨[.sl .sh (L.map intA), .sl .sh (L.map intA), .any, .any, .any, .v (.int .i64 i), .any, .any, .any, .any, .any, .any, .any, .any, .any, .any, .any, .any, .any, .any, .any, .any, .any, .any, .any, .any], [], []⟩
set_option maxRecDepth 10000 in
include hm in
theorem eqIntS (L : List Int) (h3 : L.length ≤ 9223372036854775807) : Holds Tryz.prog 56 [.sl .sh (L.map intA), .sl .sh (L.map intA)] [] (.v (.bool true)) [] := by
  refine holds_of (ann := eqAnn) tabOk hm Tryz.func56 (by kernel_rfl) rfl ?_
  simp (decide := true) only [Tryz.f56, go_sem, Nat.reduceAdd, Nat.reduceMul, Nat.reduceSub]
  refine Runs.while (α := Nat) (eqIntSt L) (fun i => L.length - i) (fun i => i ≤ L.length) 0 (by omega) ?_ ?_
  · simp [go_sem, eqAnn, eqIntSt]
  · intro i hi ih
    simp (decide := true) only [eqIntSt, go_sem, Nat.reduceAdd, Nat.reduceMul, Nat.reduceSub]
    refine Runs.split (fun h => ?_) (fun h => ?_)
    · have hlt : i < L.length := by simpa using h
      simp (decide := true) only [go_sem, Nat.reduceAdd, Nat.reduceMul, Nat.reduceSub]
      refine Runs.draw (st1 := ?s1) (draws_by (ann := []) tabOk eqSched (by kernel_rfl) ?p1) ?q1
      case p1 =>
        intro K r X hK
        simp (decide := true) (disch := first | omega | (simp only [List.length_map, List.length_cons, List.length_append, List.length_nil]; omega)) only [if_pos, go_sem, Nat.reduceAdd, Nat.reduceMul, Nat.reduceSub]
        exact hK
      case q1 =>
        simp (decide := true) (disch := first | omega | (simp only [List.length_map, List.length_cons, List.length_append, List.length_nil]; omega)) only [if_pos, go_sem, Nat.reduceAdd, Nat.reduceMul, Nat.reduceSub]
        refine ih (i + 1) _ (by omega) hlt ?_
        simp [go_sem, eqAnn, eqIntSt]
    · simp (decide := true) only [go_sem, Nat.reduceAdd, Nat.reduceMul, Nat.reduceSub]
      exact Runs.ret_v
def eqByteSt (L : List Int) (i : Nat) : St := ⟨[.sl .sh (L.map u8A), .sl .sh (L.map u8A), .any, .any, .any, .v (.int .i64 i), .any, .any, .any, .any, .any, .any, .any, .any, .any, .any, .any, .any, .any, .any, .any, .any, .any, .any, .any, .any], [], []⟩
set_option maxRecDepth 10000 in
include hm in
theorem eqByteS (L : List Int) (h3 : L.length ≤ 9223372036854775807) : Holds Tryz.prog 35 [.sl .sh (L.map u8A), .sl .sh (L.map u8A)] [] (.v (.bool true)) [] := by
  refine holds_of (ann := eqAnn) tabOk hm Tryz.func35 (by kernel_rfl) rfl ?_
  simp (decide := true) only [Tryz.f35, go_sem, Nat.reduceAdd, Nat.reduceMul, Nat.reduceSub]
  refine Runs.while (α := Nat) (eqByteSt L) (fun i => L.length - i) (fun i => i ≤ L.length) 0 (by omega) ?_ ?_
  · simp [go_sem, eqAnn, eqByteSt]
  · intro i hi ih
    simp (decide := true) only [eqByteSt, go_sem, Nat.reduceAdd, Nat.reduceMul, Nat.reduceSub]
    refine Runs.split (fun h => ?_) (fun h => ?_)
    · have hlt : i < L.length := by simpa using h
      simp (decide := true) only [go_sem, Nat.reduceAdd, Nat.reduceMul, Nat.reduceSub]
      refine Runs.draw (st1 := ?s1) (draws_by (ann := []) tabOk eqSched (by kernel_rfl) ?p1) ?q1
      case p1 =>
        intro K r X hK
        simp (decide := true) (disch := first | omega | (simp only [List.length_map, List.length_cons, List.length_append, List.length_nil]; omega)) only [if_pos, go_sem, Nat.reduceAdd, Nat.reduceMul, Nat.reduceSub]
        exact hK
      case q1 =>
        simp (decide := true) (disch := first | omega | (simp only [List.length_map, List.length_cons, List.length_append, List.length_nil]; omega)) only [if_pos, go_sem, Nat.reduceAdd, Nat.reduceMul, Nat.reduceSub]
        refine ih (i + 1) _ (by omega) hlt ?_
        simp [go_sem, eqAnn, eqByteSt]
    · simp (decide := true) only [go_sem, Nat.reduceAdd, Nat.reduceMul, Nat.reduceSub]
      exact Runs.ret_v
end Go.Proofs.W

namespace Go.Proofs.W
open Go Go.AM Go.Proofs.G
set_option linter.unusedSimpArgs false
set_option linter.unusedVariables false
variable (hm : Tryz.prog.follows .mixedOrders = true)
attribute [local go_sem] edA prA cvA ptA keyA

def keyO (k : GKey) : A := .agg [.v (.int .i64 k.kind), .sl (.ow 1) (k.N.map intA), .v (.int .i64 k.e), .v (.int .i64 k.cv.p), .v (.int .i64 k.cv.a), .v (.int .i64 k.cv.b), .v (.int .i64 k.cv.n), .v (.int .i64 k.cv.gx), .v (.int .i64 k.cv.gy),
  .v (.int .i64 k.q.x), .v (.int .i64 k.q.y), .v (.bool k.q.far), .v (.int .i64 k.ed.p), .v (.int .i64 k.ed.d), .v (.int .i64 k.ed.l), .v (.int .i64 k.ed.bx), .v (.int .i64 k.ed.by'), .v (.int .i64 k.a.1), .v (.int .i64 k.a.2)]
attribute [local go_sem] keyO
theorem bne_self (b : Bool) : (b != b) = false := by cases b <;> rfl
attribute [local go_sem] bne_self
set_option maxRecDepth 10000 in
include hm in
theorem toCurve (k : GCv) : Holds Tryz.prog 44 [cvA k] [] (cvA k) [] := by
  refine holds_ref (ann := []) tabOk hm (byL [] [1000001]) Tryz.func44 (by kernel_rfl) rfl ?_
  simp (decide := true) only [Tryz.f44, go_sem, Nat.reduceAdd, Nat.reduceMul, Nat.reduceSub]
  exact Runs.ret_refl
set_option maxRecDepth 10000 in
include hm in
theorem eqLCurve (k : GCv) : Holds Tryz.prog 57 [cvA k, cvA k] [] (.v (.bool true)) [] := by
  refine holds_ref (ann := []) tabOk hm (byL [] [1000002, 1000003]) Tryz.func57 (by kernel_rfl) rfl ?_
  simp (decide := true) only [Tryz.f57, go_sem, Nat.reduceAdd, Nat.reduceMul, Nat.reduceSub]
  exact Runs.ret_v
set_option maxRecDepth 10000 in
include hm in
theorem toPoint (k : GPt) : Holds Tryz.prog 45 [ptA k] [] (ptA k) [] := by
  refine holds_ref (ann := []) tabOk hm (byL [] [1000001]) Tryz.func45 (by kernel_rfl) rfl ?_
  simp (decide := true) only [Tryz.f45, go_sem, Nat.reduceAdd, Nat.reduceMul, Nat.reduceSub]
  exact Runs.ret_refl
set_option maxRecDepth 10000 in
include hm in
theorem eqLPoint (k : GPt) : Holds Tryz.prog 58 [ptA k, ptA k] [] (.v (.bool true)) [] := by
  refine holds_ref (ann := []) tabOk hm (byL [] [1000002, 1000003]) Tryz.func58 (by kernel_rfl) rfl ?_
  simp (decide := true) only [Tryz.f58, go_sem, Nat.reduceAdd, Nat.reduceMul, Nat.reduceSub]
  exact Runs.ret_v
set_option maxRecDepth 10000 in
include hm in
theorem toEd (k : GEd) : Holds Tryz.prog 46 [edA k] [] (edA k) [] := by
  refine holds_ref (ann := []) tabOk hm (byL [] [1000001]) Tryz.func46 (by kernel_rfl) rfl ?_
  simp (decide := true) only [Tryz.f46, go_sem, Nat.reduceAdd, Nat.reduceMul, Nat.reduceSub]
  exact Runs.ret_refl
set_option maxRecDepth 10000 in
include hm in
theorem eqLEd (k : GEd) : Holds Tryz.prog 59 [edA k, edA k] [] (.v (.bool true)) [] := by
  refine holds_ref (ann := []) tabOk hm (byL [] [1000002, 1000003]) Tryz.func59 (by kernel_rfl) rfl ?_
  simp (decide := true) only [Tryz.f59, go_sem, Nat.reduceAdd, Nat.reduceMul, Nat.reduceSub]
  exact Runs.ret_v
set_option maxRecDepth 10000 in
include hm in
theorem toPair (k : GPr) : Holds Tryz.prog 47 [prA k] [] (prA k) [] := by
  refine holds_ref (ann := []) tabOk hm (byL [] [1000001]) Tryz.func47 (by kernel_rfl) rfl ?_
  simp (decide := true) only [Tryz.f47, go_sem, Nat.reduceAdd, Nat.reduceMul, Nat.reduceSub]
  exact Runs.ret_refl
set_option maxRecDepth 10000 in
include hm in
theorem eqLPair (k : GPr) : Holds Tryz.prog 60 [prA k, prA k] [] (.v (.bool true)) [] := by
  refine holds_ref (ann := []) tabOk hm (byL [] [1000002, 1000003]) Tryz.func60 (by kernel_rfl) rfl ?_
  simp (decide := true) only [Tryz.f60, go_sem, Nat.reduceAdd, Nat.reduceMul, Nat.reduceSub]
  exact Runs.ret_v
set_option maxRecDepth 10000 in
include hm in
theorem szKey (k : GKey) (left : Int) (l1 : 0 ≤ left) (l2 : left ≤ 1048576) (h3 : k.N.length ≤ 9223372036854775807) : Holds Tryz.prog 17 [keyA k, .v (.int .i64 left)] [] (.v (.int .i64 (szI k.N.length left))) [] := by
  refine holds_ref (ann := []) tabOk hm (byL [] [1000002]) Tryz.func17 (by kernel_rfl) rfl ?_
  simp (decide := true) only [Tryz.f17, go_sem, Nat.reduceAdd, Nat.reduceMul, Nat.reduceSub]
  refine Runs.call (szIntS hm (k.N.map intA) left l1 l2 (by simpa using h3)) ?_
  simp (decide := true) only [List.length_map, go_sem, Nat.reduceAdd, Nat.reduceMul, Nat.reduceSub]
  have b := szI_le k.N.length left l1
  refine Runs.split (fun e => ?_) (fun e => ?_)
  · simp only [decide_eq_true_eq] at e
    have e3 : szI k.N.length left = -1 := by omega
    simp (decide := true) only [e3, go_sem, Nat.reduceAdd, Nat.reduceMul, Nat.reduceSub]
    exact Runs.ret_v
  · simp (decide := true) only [go_sem, Nat.reduceAdd, Nat.reduceMul, Nat.reduceSub]
    exact Runs.ret_v
set_option maxHeartbeats 4000000 in
set_option maxRecDepth 10000 in
include hm in
theorem toKey (k : GKey) (h3 : k.N.length ≤ 1048576) : Holds Tryz.prog 24 [keyA k] [] (keyO k) [] := by
  refine holds_ref (ann := []) tabOk hm (byL [] [1000001]) Tryz.func24 (by kernel_rfl) rfl ?_
  have c1 := toCurve hm k.cv
  have c2 := toPoint hm k.q
  have c3 := toEd hm k.ed
  have c4 := toPair hm k.a
  simp only [cvA, ptA, edA, prA] at c1 c2 c3 c4
  simp (decide := true) only [Tryz.f24, go_sem, Nat.reduceAdd, Nat.reduceMul, Nat.reduceSub]
  refine Runs.call (toIntS hm k.N h3) ?_
  simp (decide := true) only [go_sem, Nat.reduceAdd, Nat.reduceMul, Nat.reduceSub]
  refine Runs.call c1 ?_
  simp (decide := true) only [go_sem, Nat.reduceAdd, Nat.reduceMul, Nat.reduceSub]
  refine Runs.call c2 ?_
  simp (decide := true) only [go_sem, Nat.reduceAdd, Nat.reduceMul, Nat.reduceSub]
  refine Runs.call c3 ?_
  simp (decide := true) only [go_sem, Nat.reduceAdd, Nat.reduceMul, Nat.reduceSub]
  refine Runs.call c4 ?_
  simp (decide := true) only [go_sem, Nat.reduceAdd, Nat.reduceMul, Nat.reduceSub]
  exact Runs.ret_refl
set_option maxHeartbeats 4000000 in
set_option maxRecDepth 10000 in
include hm in
theorem eqKey (k : GKey) (h3 : k.N.length ≤ 1048576) : Holds Tryz.prog 33 [keyA k, keyA k] [] (.v (.bool true)) [] := by
  refine holds_ref (ann := []) tabOk hm (byL [] [1000002, 1000003]) Tryz.func33 (by kernel_rfl) rfl ?_
  have c1 := eqLCurve hm k.cv
  have c2 := eqLPoint hm k.q
  have c3 := eqLEd hm k.ed
  have c4 := eqLPair hm k.a
  simp only [cvA, ptA, edA, prA] at c1 c2 c3 c4
  simp (decide := true) only [Tryz.f33, go_sem, Nat.reduceAdd, Nat.reduceMul, Nat.reduceSub]
  refine Runs.call (eqIntS hm k.N (by omega)) ?_
  simp (decide := true) only [go_sem, Nat.reduceAdd, Nat.reduceMul, Nat.reduceSub]
  refine Runs.call c1 ?_
  simp (decide := true) only [go_sem, Nat.reduceAdd, Nat.reduceMul, Nat.reduceSub]
  refine Runs.call c2 ?_
  simp (decide := true) only [go_sem, Nat.reduceAdd, Nat.reduceMul, Nat.reduceSub]
  refine Runs.call c3 ?_
  simp (decide := true) only [go_sem, Nat.reduceAdd, Nat.reduceMul, Nat.reduceSub]
  refine Runs.call c4 ?_
  simp (decide := true) only [go_sem, Nat.reduceAdd, Nat.reduceMul, Nat.reduceSub]
  exact Runs.ret_v
end Go.Proofs.W

namespace Go.Proofs.W
open Go Go.AM
set_option linter.unusedSimpArgs false
set_option linter.unusedVariables false

def mkS (l : List UInt8) : ByteArray := ⟨l.toArray⟩
theorem mkS_list (s : ByteArray) : mkS s.data.toList = s := by cases s; simp [mkS]
theorem mkS_size (l : List UInt8) : (mkS l).size = l.length := by simp [mkS, ByteArray.size]
theorem mkS_data (l : List UInt8) : (mkS l).data.toList = l := by simp [mkS]
theorem list_size (s : ByteArray) : s.data.toList.length = s.size := by rw [Array.length_toList]; rfl
theorem ext_list (s : ByteArray) (a b : Nat) : (s.extract a b).data.toList = (s.data.toList.drop a).take (b - a) := by
  rw [ByteArray.data_extract]; simp [List.extract_eq_take_drop]
theorem getD_lt {l : List UInt8} {i : Nat} (h : i < l.length) : l.getD i 0 = l[i] := by rw [List.getD, List.getElem?_eq_getElem h]; rfl
theorem mkS_ext (s : ByteArray) (a b : Nat) : s.extract a b = mkS ((s.data.toList.drop a).take (b - a)) := by
  rw [← ext_list, mkS_list]
theorem mkS_inj {a b : List UInt8} (h : mkS a = mkS b) : a = b := by rw [← mkS_data a, h, mkS_data]

/-- The parts of a text between marks. -/
def partsL (c : UInt8) : List UInt8 → List (List UInt8)
  | [] => [[]]
  | b :: l => if b = c then [] :: partsL c l else match partsL c l with
    | [] => [[b]]
    | p :: r => (b :: p) :: r
theorem partsL_ne (c : UInt8) (l : List UInt8) : partsL c l ≠ [] := by
  cases l with
  | nil => simp [partsL]
  | cons b l => unfold partsL; split; simp; split <;> simp
theorem partsL_cut (c : UInt8) : ∀ (p r : List UInt8), (∀ b ∈ p, b ≠ c) → partsL c (p ++ c :: r) = p :: partsL c r
  | [], r, _ => by simp [partsL]
  | b :: p, r, h => by
    rw [List.cons_append, partsL, if_neg (h b (by simp)), partsL_cut c p r fun x hx => h x (by simp [hx])]
theorem partsL_no (c : UInt8) : ∀ (p : List UInt8), (∀ b ∈ p, b ≠ c) → partsL c p = [p]
  | [], _ => by simp [partsL]
  | b :: p, h => by
    rw [partsL, if_neg (h b (by simp)), partsL_no c p fun x hx => h x (by simp [hx])]
theorem partsL_len (c : UInt8) : ∀ l : List UInt8, (partsL c l).length = l.count c + 1
  | [] => by simp [partsL]
  | b :: l => by
    have ih := partsL_len c l
    unfold partsL
    split
    · rename_i h; subst h; simp [ih]
    · rename_i h
      rw [List.count_cons_of_ne (by simpa using h)]
      split
      · rename_i e; rw [e] at ih; simp at ih
      · rename_i p r e; rw [e] at ih; simpa using ih
theorem partsL_sum (c : UInt8) : ∀ (l : List UInt8), ∀ p ∈ partsL c l, p.length ≤ l.length
  | [], p, h => by simp [partsL] at h; simp [h]
  | b :: l, p, h => by
    have ih := partsL_sum c l
    unfold partsL at h
    split at h
    · rcases List.mem_cons.mp h with h | h
      · simp [h]
      · have := ih p h; simp; omega
    · split at h
      · simp at h; simp [h]
      · rename_i q r e
        rw [e] at ih
        rcases List.mem_cons.mp h with h | h
        · have := ih q (by simp); simp [h]; omega
        · have := ih p (by simp [h]); simp; omega
theorem idx_none {c : UInt8} {l : List UInt8} (h : Lib.indexByte l c = -1) : ∀ b ∈ l, b ≠ c := by
  intro b hb e
  obtain ⟨i, hi, e2⟩ := List.getElem_of_mem hb
  exact Lib.indexByte_none h i (by rw [List.getElem?_eq_getElem hi, e2, e])
theorem idx_some {c : UInt8} {l : List UInt8} {m : Nat} (h : Lib.indexByte l c = m) : ∃ p r, l = p ++ c :: r ∧ p.length = m ∧ ∀ b ∈ p, b ≠ c := by
  obtain ⟨h1, h2⟩ := Lib.indexByte_some h
  obtain ⟨hm, e⟩ := List.getElem?_eq_some_iff.mp h1
  refine ⟨l.take m, l.drop (m + 1), ?_, by simp; omega, ?_⟩
  · rw [← e, ← List.drop_eq_getElem_cons hm, List.take_append_drop]
  · intro b hb e2
    obtain ⟨i, hi, e3⟩ := List.getElem_of_mem hb
    simp at hi
    rw [List.getElem_take] at e3
    exact h2 i (by omega) (by rw [List.getElem?_eq_getElem (by omega), e3, e2])
theorem count_none {c : UInt8} {l : List UInt8} (h : l.count c = 0) : ∀ b ∈ l, b ≠ c := by
  intro b hb e
  subst e
  exact absurd (List.count_pos_iff.mpr hb) (by omega)
theorem count_cut {c : UInt8} {p r : List UInt8} (h : ∀ b ∈ p, b ≠ c) : (p ++ c :: r).count c = r.count c + 1 := by
  rw [List.count_append, List.count_cons_self, List.count_eq_zero.mpr fun hc => h c hc rfl]; omega

def partsB (s : ByteArray) : List ByteArray := (partsL 46 s.data.toList).map mkS
theorem partsB_len (s : ByteArray) : (partsB s).length = s.data.toList.count 46 + 1 := by simp [partsB, partsL_len]
theorem partsB_le (s : ByteArray) : (partsB s).length ≤ s.size + 1 := by
  rw [partsB_len, ← list_size]
  have := List.count_le_length (a := (46 : UInt8)) (l := s.data.toList)
  omega
theorem partsB_sz (s : ByteArray) : ∀ p ∈ partsB s, p.size ≤ s.size := by
  intro p hp
  obtain ⟨q, hq, rfl⟩ := List.mem_map.mp hp
  rw [mkS_size, ← list_size]
  exact partsL_sum 46 _ q hq

def digC (b : UInt8) : Bool := inB b.toNat 48 57
def dashC (b : UInt8) : Bool := decide ((b.toNat : Int) = 45)
def okC (b : UInt8) : Bool := inB b.toNat 97 122 || digC b || dashC b
def labelB (s : ByteArray) : Bool := s.data.toList.all okC && inB s.size 1 20 && !dashC (s.data.toList.getD 0 0) && !dashC (s.data.toList.getD (s.size - 1) 0)
def digitsB (s : ByteArray) : Bool := s.data.toList.all digC && decide ((s.size : Int) > 0)
def lastB (L : List ByteArray) : ByteArray := L.getD (L.length - 1) ⟨#[]⟩
def hostB (s : ByteArray) : Bool := decide (s.size ≤ 80) && (partsB s).all labelB && decide ((partsB s).length ≤ 8) && !(lastB (partsB s)).data.toList.all digC
def dotC (b : UInt8) : Bool := decide ((b.toNat : Int) = 46)
def underB (b h : ByteArray) : Bool := hostB b && hostB h && ((b.toList == h.toList) || (decide ((h.size : Int) - b.size > 0) && ((h.extract (h.size - b.size) h.size).toList == b.toList) && dotC (h.data.toList.getD (h.size - b.size - 1) 0)))
def allowedB (al de : List ByteArray) (h : ByteArray) : Bool := hostB h && (decide (al.length = 0) || al.any fun b => underB b h) && !(de.any fun b => underB b h)
end Go.Proofs.W

namespace Go.Proofs.W
open Go Go.AM
set_option linter.unusedSimpArgs false
set_option linter.unusedVariables false
variable (hm : Tryz.prog.follows .mixedOrders = true)

theorem repL_vs {C : Ctx} {w : World} : ∀ {vs xs : List Value} {f}, RepL C w (vs.map A.v) xs f → xs = vs ∧ ∀ b, f b = 0
  | [], _, _, h => by cases h with | nil h => exact ⟨rfl, h⟩
  | v :: vs, _, _, h => by
    rw [List.map_cons] at h
    cases h with | v h => have := repL_vs h; exact ⟨by rw [this.1], this.2⟩

/-- A function of Go's library whose contract the kit's walker has shown: values in, a value out, the world as it was. -/
theorem holds_same {P : Program} {f : Nat} {vs : List Value} {r : Value} (hf : ∃ fn c, P.funcs[f]? = some fn ∧ (fn.name == "runtime.NumGoroutine") = false ∧ fn.body = some c)
    (h : ∀ w, Calls P f vs.toArray w fun e w' => e = .returned r ∧ w' = w) : Holds P f (vs.map .v) [] (.v r) [] where
  fn := hf
  calls := by
    intro C w xs fx fa hF hB hI hX hM hle hno hR
    obtain ⟨rfl, h0⟩ := repL_vs hR
    have hx : ∀ b, fx b = 0 := by
      have hM : MemR C w [] fx := hM
      cases hM with | nil h => exact h
    refine (h w).mono ?_
    rintro e w' ⟨rfl, rfl⟩
    refine ⟨C, fun _ => 0, fun _ => 0, Ctx.ToX.refl C, rfl, hB, fun _ h => h, fun _ h => .inl h, hI, hX, Same.refl _ _, .nil fun _ => rfl, .v (.nil fun _ => rfl), fun _ => Nat.zero_le _, fun b hb => absurd hb (by simp)⟩
set_option maxHeartbeats 1000000 in
set_option maxRecDepth 100000 in
theorem indexByteC (s : ByteArray) (c : Int) (w : World) :
    Calls Tryz.prog 163 #[.string s, .int .u8 c] w fun e w' => e = .returned (.int .i64 (Lib.indexByte s.data.toList c.toNat.toUInt8)) ∧ w' = w := by
  go_enter Tryz.func163, Tryz.ntmps163
  go_wp2
  rw [run_callFunc_extern Tryz.func174 (by kernel_rfl) (by kernel_rfl) (by kernel_rfl) (e := Extern.BytealgIndexByte.indexByte) (by kernel_rfl), Lib.run_indexByteString]
  simp only [Result.andThen]
  rw [Oper.upon_value]
  go_wp2
  go_ret
  exact ⟨rfl, rfl⟩

theorem indexByteH (s : ByteArray) (c : Int) : Holds Tryz.prog 163 [.v (.string s), .v (.int .u8 c)] [] (.v (.int .i64 (Lib.indexByte s.data.toList c.toNat.toUInt8))) [] :=
  holds_same (vs := [.string s, .int .u8 c]) ⟨_, _, Tryz.func163, by kernel_rfl, rfl⟩ fun w => indexByteC s c w
set_option maxHeartbeats 1000000 in
set_option maxRecDepth 100000 in
theorem countC (s : ByteArray) (c : UInt8) (w : World) :
    Calls Tryz.prog 155 #[.string s, .string ⟨#[c]⟩] w fun e w' => e = .returned (.int .i64 (Lib.countByte s.data.toList c)) ∧ w' = w := by
  go_enter Tryz.func155, Tryz.ntmps155
  go_wp2
  rw [run_callFunc_extern Tryz.func168 (by kernel_rfl) (by kernel_rfl) (by kernel_rfl) (e := Extern.BytealgCount.count) (by kernel_rfl), Lib.run_countString]
  simp only [Result.andThen]
  rw [Oper.upon_value]
  go_wp2
  go_ret
  exact ⟨rfl, rfl⟩

theorem countH (s : ByteArray) (c : UInt8) : Holds Tryz.prog 155 [.v (.string s), .v (.string ⟨#[c]⟩)] [] (.v (.int .i64 (Lib.countByte s.data.toList c))) [] :=
  holds_same (vs := [.string s, .string ⟨#[c]⟩]) ⟨_, _, Tryz.func155, by kernel_rfl, rfl⟩ fun w => countC s c w
end Go.Proofs.W

namespace Go.Proofs.W
open Go Go.AM
set_option linter.unusedSimpArgs false
set_option linter.unusedVariables false
variable (hm : Tryz.prog.follows .mixedOrders = true)

theorem indexByte_lt (l : List UInt8) (c : UInt8) : Lib.indexByte l c = -1 ∨ ∃ m : Nat, Lib.indexByte l c = m ∧ m < l.length := by
  have := Lib.indexByte_ge l c
  rcases Int.lt_or_le (Lib.indexByte l c) 0 with h | h
  · left; omega
  · right
    obtain ⟨m, e⟩ := Int.eq_ofNat_of_zero_le h
    refine ⟨m, e, ?_⟩
    obtain ⟨p, r, e1, e2, _⟩ := idx_some e
    rw [e1]; simp; omega
set_option maxRecDepth 10000 in
include hm in
theorem index1 (s : ByteArray) : Holds Tryz.prog 153 [.v (.string s), .v (.string ⟨#[46]⟩)] [] (.v (.int .i64 (Lib.indexByte s.data.toList 46))) [] := by
  refine holds_of (ann := []) tabOk hm Tryz.func153 (by kernel_rfl) rfl ?_
  simp (decide := true) only [Tryz.f153, go_sem, Nat.reduceAdd, Nat.reduceMul, Nat.reduceSub]
  have e2 : Int.toNat 0 = 0 := rfl
  refine Runs.split (fun h => ?_) (fun h => ?_)
  · have e : s = ⟨#[46]⟩ := by
      rw [beq_iff_eq, Lib.toList_data, Lib.toList_data] at h
      rw [← mkS_list s, ← h]; rfl
    rw [e]
    simp (decide := true) only [go_sem, Nat.reduceAdd, Nat.reduceMul, Nat.reduceSub]
    exact Runs.ret_eq (by rw [show Lib.indexByte (ByteArray.mk #[46]).data.toList 46 = 0 by decide])
  · simp (decide := true) only [e2, go_sem, Nat.reduceAdd, Nat.reduceMul, Nat.reduceSub]
    refine Runs.call (indexByteH s 46) ?_
    simp (decide := true) only [go_sem, Nat.reduceAdd, Nat.reduceMul, Nat.reduceSub]
    exact Runs.ret_eq rfl

include hm in
theorem sindex1 (s : ByteArray) : Holds Tryz.prog 129 [.v (.string s), .v (.string ⟨#[46]⟩)] [] (.v (.int .i64 (Lib.indexByte s.data.toList 46))) [] := by
  refine holds_of (ann := []) tabOk hm Tryz.func129 (by kernel_rfl) rfl ?_
  simp (decide := true) only [Tryz.f129, go_sem, Nat.reduceAdd, Nat.reduceMul, Nat.reduceSub]
  refine Runs.call (index1 hm s) ?_
  simp (decide := true) only [go_sem, Nat.reduceAdd, Nat.reduceMul, Nat.reduceSub]
  exact Runs.ret_v
def gsRow (N : Nat) (D : List ByteArray) : List A := D.map strA ++ List.replicate (N - D.length) (.v (.string ⟨#[]⟩))
theorem gsRow_len {N : Nat} {D : List ByteArray} (h : D.length ≤ N) : (gsRow N D).length = N := by simp [gsRow]; omega
theorem gsRow_zero (N : Nat) : gsRow N [] = List.replicate N (.v (.string ⟨#[]⟩)) := by simp [gsRow]
theorem gsRow_set {N : Nat} {D : List ByteArray} (h : D.length < N) (p : ByteArray) : (gsRow N D).set D.length (.v (.string p)) = gsRow N (D ++ [p]) := by
  unfold gsRow
  have e : N - D.length = (N - (D.length + 1)) + 1 := by omega
  rw [List.set_append_right _ _ (by simp), List.length_map, Nat.sub_self, e, List.replicate_succ, List.set_cons_zero]
  simp [strA]
theorem gsRow_get {N : Nat} {D : List ByteArray} (h : D.length < N) : (gsRow N D).getD D.length .any = .v (.string ⟨#[]⟩) := by
  unfold gsRow
  have e : N - D.length = (N - (D.length + 1)) + 1 := by omega
  rw [List.getD, List.getElem?_append_right (by simp), List.length_map, Nat.sub_self, e, List.replicate_succ]
  rfl
def gsAnn : Ann := [(0, [0, 1, 2, 3, 9, 10])]
def gsSt (N : Nat) (p : List ByteArray × ByteArray) : St := ⟨[.v (.string p.2), .v (.string ⟨#[46]⟩), .v (.int .i64 0), .v (.int .i64 ((N : Int) - 1)), .any, .any, .any, .any, .any, .ms (.l 0) 0 N N, .v (.int .i64 p.1.length), .any, .any, .any, .any, .any, .any, .any, .any, .any, .any, .any, .any, .any, .any, .any, .any, .any, .any, .any, .any, .any, .any, .any, .any, .any, .any, .any, .any, .any, .any, .any, .any, .any, .any, .any, .any, .any, .any, .any, .any, .any, .any, .any, .any, .any, .any, .any, .any, .any, .any, .any, .any, .any, .any, .any], [(0, ⟨true, 1, false, gsRow N p.1⟩)], []⟩
set_option maxHeartbeats 4000000 in
set_option maxRecDepth 10000 in
include hm in
theorem genSplit1 (s : ByteArray) (h : s.size ≤ 1048576) : Holds Tryz.prog 130 [.v (.string s), .v (.string ⟨#[46]⟩), .v (.int .i64 0), .v (.int .i64 (-1))] [] (.sl (.ow 1) ((partsB s).map strA)) [] := by
  refine holds_of (ann := gsAnn) tabOk hm Tryz.func130 (by kernel_rfl) rfl ?_
  have hz := list_size s
  have hle := partsB_le s
  obtain ⟨N, hN⟩ : ∃ N, N = (partsB s).length := ⟨_, rfl⟩
  have hN2 := hN
  rw [partsB_len] at hN2
  have hb46 : ((⟨#[46]⟩ : ByteArray).toList == (⟨#[]⟩ : ByteArray).toList) = false := by rw [Lib.toList_data, Lib.toList_data]; decide
  simp (decide := true) only [Tryz.f130, hb46, go_sem, Nat.reduceAdd, Nat.reduceMul, Nat.reduceSub]
  refine Runs.call (countH s 46) ?_
  have e0 : (Lib.countByte s.data.toList 46 : Int) = (N : Int) - 1 := by rw [hN2, Lib.countByte]; omega
  have e1 : IntKind.i64.wrap ((N : Int) - 1 + 1) = N := by rw [wrap_i64 (by omega) (by omega)]; omega
  have e3 : IntKind.i64.wrap ((s.size : Int) + 1) = (s.size : Int) + 1 := wrap_i64 (by omega) (by omega)
  have e4 : (if (s.size : Int) + 1 < N then (s.size : Int) + 1 else (N : Int)) = N := if_neg (by omega)
  simp (decide := true) (disch := first | omega | (simp only [List.length_map, List.length_cons, List.length_append, List.length_nil]; omega)) only [e0, e1, e3, e4, if_pos, go_sem, Nat.reduceAdd, Nat.reduceMul, Nat.reduceSub]
  refine Runs.while (α := List ByteArray × ByteArray) (gsSt N) (fun p => N - p.1.length) (fun p => p.1.length < N ∧ partsB s = p.1 ++ partsB p.2 ∧ p.2.size ≤ s.size) ([], s) ⟨by simp; omega, by simp, Nat.le_refl _⟩ ?_ ?_
  · simp [go_sem, gsAnn, gsSt, gsRow_zero]
  · rintro ⟨D, r⟩ ⟨hd, hp, hr⟩ ih
    simp only at hd hp hr
    have hlen := gsRow_len (Nat.le_of_lt hd)
    have hcnt : N = D.length + (partsB r).length := by rw [hN, hp, List.length_append]
    have hrz := list_size r
    have hset := gsRow_set hd
    have hlen2 : ∀ x, (gsRow N (D ++ [x])).length = N := fun x => gsRow_len (by simp; omega)
    have hget := gsRow_get hd
    simp (decide := true) (disch := first | omega | (simp only [List.length_map, List.length_cons, List.length_append, List.length_nil]; omega)) only [gsSt, hlen, if_pos, go_sem, Nat.reduceAdd, Nat.reduceMul, Nat.reduceSub]
    refine Runs.split (fun h => ?_) (fun h => ?_)
    · have h2 : 2 ≤ (partsB r).length := by simp at h; omega
      simp (decide := true) only [go_sem, Nat.reduceAdd, Nat.reduceMul, Nat.reduceSub]
      refine Runs.call (sindex1 hm r) ?_
      rcases indexByte_lt r.data.toList 46 with hi | ⟨m, hi, hml⟩
      · rw [partsB, List.length_map, partsL_no 46 _ (idx_none hi)] at h2
        simp at h2
      · obtain ⟨p, q, e5, e6, e7⟩ := idx_some hi
        rw [hi]
        have e8 : partsB r = mkS p :: partsB (mkS q) := by rw [partsB, e5, partsL_cut 46 p q e7, partsB, mkS_data]; rfl
        have x1 : r.extract 0 m = mkS p := by rw [mkS_ext, e5, ← e6]; simp
        have x2 : r.extract (m + 1) r.size = mkS q := by
          rw [mkS_ext, e5]
          rw [show p ++ 46 :: q = (p ++ [46]) ++ q by simp, List.drop_left' (by simp; omega), List.take_of_length_le]
          rw [e5] at hrz; simp at hrz; omega
        have x3 : (mkS q).size ≤ r.size := by rw [mkS_size]; rw [e5] at hrz; simp at hrz; omega
        have d0 : decide ((m : Int) < 0) = false := by simp
        have x4 : ((m : Int) + 1).toNat = m + 1 := by omega
        have y1 : ((#[(46 : UInt8)].size : Nat) : Int) = 1 := rfl
        simp (decide := true) (disch := first | omega | (simp only [List.length_map, List.length_cons, List.length_append, List.length_nil]; omega)) only [d0, y1, Int.add_zero, x1, x2, x4, hlen, hset, hget, hlen2, if_pos, go_sem, Nat.reduceAdd, Nat.reduceMul, Nat.reduceSub]
        refine ih (D ++ [mkS p], mkS q) _ (by simp only [List.length_append, List.length_cons, List.length_nil]; omega) ⟨by simp; simp at h; omega, ?_, by simp only; omega⟩ ?_
        · simp only; rw [hp, e8]; simp
        · simp [go_sem, gsAnn, gsSt, x1]
    · have h1 : (partsB r).length = 1 := by
        have : 1 ≤ (partsB r).length := by rw [partsB_len]; omega
        simp at h; omega
      have e5 : partsB r = [r] := by
        have hc : r.data.toList.count 46 = 0 := by rw [partsB_len] at h1; omega
        rw [partsB, partsL_no 46 _ (count_none hc)]; simp [mkS_list]
      have hN1 : N = D.length + 1 := by omega
      have e6 : gsRow N (D ++ [r]) = (partsB s).map strA := by rw [gsRow, hp, e5]; simp [hN1]
      have b1 : decide (0 ≤ (D.length : Int) + 1 ∧ (D.length : Int) + 1 ≤ N ∧ (D.length : Int) + 1 ≤ (D.length : Int) + 1 ∧ (D.length : Int) + 1 ≤ N) = true := by simp; omega
      have t1 : ((D.length : Int) + 1).toNat = N := by omega
      have t0 : Int.toNat 0 = 0 := rfl
      simp (decide := true) (disch := first | omega | (simp only [List.length_map, List.length_cons, List.length_append, List.length_nil]; omega)) only [hlen, hset, hget, hlen2, b1, t1, t0, Nat.sub_zero, if_pos, go_sem, Nat.reduceAdd, Nat.reduceMul, Nat.reduceSub]
      refine Runs.ret_eq ?_
      rw [List.take_of_length_le (by rw [hlen2]; exact Nat.le_refl _), e6]
end Go.Proofs.W

namespace Go.Proofs.W
open Go Go.AM
set_option linter.unusedSimpArgs false
set_option linter.unusedVariables false
variable (hm : Tryz.prog.follows .mixedOrders = true)

set_option maxRecDepth 10000 in
include hm in
theorem split1 (s : ByteArray) (h : s.size ≤ 1048576) : Holds Tryz.prog 101 [.v (.string s), .v (.string ⟨#[46]⟩)] [] (.sl (.ow 1) ((partsB s).map strA)) [] := by
  refine holds_of (ann := []) tabOk hm Tryz.func101 (by kernel_rfl) rfl ?_
  simp (decide := true) only [Tryz.f101, go_sem, Nat.reduceAdd, Nat.reduceMul, Nat.reduceSub]
  refine Runs.call (genSplit1 hm s h) ?_
  simp (decide := true) (disch := first | omega | (simp only [List.length_map, List.length_cons, List.length_append, List.length_nil]; omega)) only [if_pos, go_sem, Nat.reduceAdd, Nat.reduceMul, Nat.reduceSub]
  exact Runs.ret_refl
set_option maxRecDepth 10000 in
include hm in
theorem isDigit (b : UInt8) : Holds Tryz.prog 131 [.v (.int .u8 b.toNat)] [] (.v (.bool (digC b))) [] := by
  refine holds_of (ann := []) tabOk hm Tryz.func131 (by kernel_rfl) rfl ?_
  simp (decide := true) only [Tryz.f131, go_sem, Nat.reduceAdd, Nat.reduceMul, Nat.reduceSub]
  refine Runs.split (fun h => ?_) (fun h => ?_)
  · simp (decide := true) only [go_sem, Nat.reduceAdd, Nat.reduceMul, Nat.reduceSub]
    exact Runs.ret_eq (by simp at h; simp [digC, inB]; omega)
  · simp (decide := true) only [go_sem, Nat.reduceAdd, Nat.reduceMul, Nat.reduceSub]
    exact Runs.ret_eq (by simp at h; simp [digC, inB]; omega)
def ilAnn : Ann := [(0, [0, 6, 7])]
def ilSt (s : ByteArray) (i : Nat) : St := ⟨[.v (.string s), .any, .any, .any, .any, .any, .v (.int .i64 s.size), .v (.int .i64 i), .any, .any, .any, .any, .any, .any, .any, .any, .any, .any, .any, .any, .any, .any, .any, .any, .any, .any, .any, .any, .any, .any, .any, .any, .any, .any, .any, .any, .any, .any, .any, .any, .any, .any, .any, .any, .any], [], []⟩
set_option maxRecDepth 10000 in
include hm in
theorem isLabel (s : ByteArray) (h : s.size ≤ 1048576) : Holds Tryz.prog 103 [.v (.string s)] [] (.v (.bool (labelB s))) [] := by
  refine holds_of (ann := ilAnn) tabOk hm Tryz.func103 (by kernel_rfl) rfl ?_
  simp (decide := true) only [Tryz.f103, go_sem, Nat.reduceAdd, Nat.reduceMul, Nat.reduceSub]
  have hz := list_size s
  refine Runs.while (α := Nat) (ilSt s) (fun i => s.size - i) (fun i => i ≤ s.size ∧ (s.data.toList.drop i).all okC = s.data.toList.all okC) 0 ⟨by omega, by simp⟩ ?_ ?_
  · simp [go_sem, ilAnn, ilSt]
  · rintro i ⟨hi, hr⟩ ih
    simp (decide := true) only [ilSt, go_sem, Nat.reduceAdd, Nat.reduceMul, Nat.reduceSub]
    refine Runs.split (fun h => ?_) (fun h => ?_)
    · have hlt : i < s.data.toList.length := by simp at h; omega
      have hg : s.data.toList.getD i 0 = s.data.toList[i] := getD_lt hlt
      have hb := UInt8.toNat_lt s.data.toList[i]
      rw [List.drop_eq_getElem_cons hlt, List.all_cons] at hr
      have next : okC s.data.toList[i] = true → (s.data.toList.drop (i + 1)).all okC = s.data.toList.all okC := fun h => by rw [← hr, h, Bool.true_and]
      have stop : okC s.data.toList[i] = false → labelB s = false := fun h => by rw [labelB, ← hr, h]; simp
      simp (decide := true) (disch := first | omega | (simp only [List.length_map, List.length_cons, List.length_append, List.length_nil]; omega)) only [hg, if_pos, go_sem, Nat.reduceAdd, Nat.reduceMul, Nat.reduceSub]
      refine Runs.call (isDigit hm _) ?_
      cases h1 : digC s.data.toList[i]
      · simp (decide := true) only [go_sem, Nat.reduceAdd, Nat.reduceMul, Nat.reduceSub]
        cases h2 : decide ((s.data.toList[i].toNat : Int) < 97)
        · simp (decide := true) only [go_sem, Nat.reduceAdd, Nat.reduceMul, Nat.reduceSub]
          cases h3 : decide ((s.data.toList[i].toNat : Int) > 122)
          · simp (decide := true) (disch := first | omega | (simp only [List.length_map, List.length_cons, List.length_append, List.length_nil]; omega)) only [if_pos, go_sem, Nat.reduceAdd, Nat.reduceMul, Nat.reduceSub]
            have ho : okC s.data.toList[i] = true := by simp at h2 h3; simp [okC, inB]; omega
            refine ih (i + 1) _ (by omega) ⟨by omega, next ho⟩ ?_
            simp [go_sem, ilAnn, ilSt]
          · simp (decide := true) only [go_sem, Nat.reduceAdd, Nat.reduceMul, Nat.reduceSub]
            cases h4 : decide ((s.data.toList[i].toNat : Int) = 45)
            · simp (decide := true) (disch := first | omega | (simp only [List.length_map, List.length_cons, List.length_append, List.length_nil]; omega)) only [if_pos, go_sem, Nat.reduceAdd, Nat.reduceMul, Nat.reduceSub]
              have ho : okC s.data.toList[i] = false := by simp only [okC, h1, dashC, h4, inB, Bool.or_false]; simp at h2 h3; simp; omega
              exact Runs.ret_eq (by rw [stop ho])
            · simp (decide := true) (disch := first | omega | (simp only [List.length_map, List.length_cons, List.length_append, List.length_nil]; omega)) only [if_pos, go_sem, Nat.reduceAdd, Nat.reduceMul, Nat.reduceSub]
              have ho : okC s.data.toList[i] = true := by simp only [okC, h1, dashC, h4, Bool.or_true]
              refine ih (i + 1) _ (by omega) ⟨by omega, next ho⟩ ?_
              simp [go_sem, ilAnn, ilSt]
        · simp (decide := true) only [go_sem, Nat.reduceAdd, Nat.reduceMul, Nat.reduceSub]
          cases h4 : decide ((s.data.toList[i].toNat : Int) = 45)
          · simp (decide := true) (disch := first | omega | (simp only [List.length_map, List.length_cons, List.length_append, List.length_nil]; omega)) only [if_pos, go_sem, Nat.reduceAdd, Nat.reduceMul, Nat.reduceSub]
            have ho : okC s.data.toList[i] = false := by simp only [okC, h1, dashC, h4, inB, Bool.or_false]; simp at h2; simp; omega
            exact Runs.ret_eq (by rw [stop ho])
          · simp (decide := true) (disch := first | omega | (simp only [List.length_map, List.length_cons, List.length_append, List.length_nil]; omega)) only [if_pos, go_sem, Nat.reduceAdd, Nat.reduceMul, Nat.reduceSub]
            have ho : okC s.data.toList[i] = true := by simp only [okC, h1, dashC, h4, Bool.or_true]
            refine ih (i + 1) _ (by omega) ⟨by omega, next ho⟩ ?_
            simp [go_sem, ilAnn, ilSt]
      · simp (decide := true) (disch := first | omega | (simp only [List.length_map, List.length_cons, List.length_append, List.length_nil]; omega)) only [if_pos, go_sem, Nat.reduceAdd, Nat.reduceMul, Nat.reduceSub]
        refine ih (i + 1) _ (by omega) ⟨by omega, next (by simp only [okC, h1]; simp)⟩ ?_
        simp [go_sem, ilAnn, ilSt]
    · have hge : i = s.size := by simp at h; omega
      rw [List.drop_of_length_le (by omega), List.all_nil] at hr
      simp (decide := true) only [go_sem, Nat.reduceAdd, Nat.reduceMul, Nat.reduceSub]
      refine Runs.call (within hm _ 1 20) ?_
      cases h1 : inB s.size 1 20
      · simp (decide := true) only [go_sem, Nat.reduceAdd, Nat.reduceMul, Nat.reduceSub]
        exact Runs.ret_eq (by rw [labelB, h1]; simp)
      · have hp : 1 ≤ s.size := by simp [inB] at h1; omega
        have ht : ((s.size : Int) - 1).toNat = s.size - 1 := by omega
        have hb0 : decide ((0 : Int) ≤ 0 ∧ (0 : Int) < s.size) = true := by simp; omega
        have hb1 : decide (0 ≤ (s.size : Int) - 1 ∧ (s.size : Int) - 1 < s.size) = true := by simp; omega
        have t0 : Int.toNat 0 = 0 := rfl
        simp (decide := true) (disch := first | omega | (simp only [List.length_map, List.length_cons, List.length_append, List.length_nil]; omega)) only [hb0, t0, if_pos, go_sem, Nat.reduceAdd, Nat.reduceMul, Nat.reduceSub]
        cases h2 : dashC (s.data.toList.getD 0 0) <;> (unfold dashC at h2; simp (decide := true) (disch := first | omega | (simp only [List.length_map, List.length_cons, List.length_append, List.length_nil]; omega)) only [h2, ht, hb1, if_pos, go_sem, Nat.reduceAdd, Nat.reduceMul, Nat.reduceSub]; exact Runs.ret_eq (by simp only [labelB, dashC, ← hr, h1, h2, Bool.true_and, Bool.not_false, Bool.not_true, Bool.false_and]))
include hm in
theorem notLabel (s : ByteArray) (h : s.size ≤ 1048576) : Holds Tryz.prog 102 [.v (.string s)] [] (.v (.bool (!labelB s))) [] := by
  refine holds_of (ann := []) tabOk hm Tryz.func102 (by kernel_rfl) rfl ?_
  simp (decide := true) only [Tryz.f102, go_sem, Nat.reduceAdd, Nat.reduceMul, Nat.reduceSub]
  refine Runs.call (isLabel hm s h) ?_
  simp (decide := true) only [go_sem, Nat.reduceAdd, Nat.reduceMul, Nat.reduceSub]
  exact Runs.ret_v
def ifAnn : Ann := [(0, [0, 1, 7, 8])]
def ifSt (f : A) (L : List ByteArray) (i : Nat) : St := ⟨[.sl .sh (L.map strA), f, .any, .any, .any, .any, .any, .v (.int .i64 L.length), .v (.int .i64 i), .any, .any, .any, .any, .any, .any, .any, .any, .any, .any], [], []⟩
set_option maxRecDepth 10000 in
include hm in
theorem indexFunc0 (g : Nat) (L : List ByteArray) (q : ByteArray → Bool) (h : L.length ≤ 1048576) (hq : ∀ s ∈ L, Holds Tryz.prog g [.v (.string s)] [] (.v (.bool (q s))) []) :
    ∃ n : Int, decide (n ≥ 0) = L.any q ∧ Holds Tryz.prog 127 [.sl .sh (L.map strA), .v (.func (.func g) #[] #[])] [] (.v (.int .i64 n)) [] := by
  refine ⟨if L.any q = true then (L.findIdx q : Int) else -1, by cases h : L.any q <;> simp, ?_⟩
  refine holds_of (ann := ifAnn) tabOk hm Tryz.func127 (by kernel_rfl) rfl ?_
  simp (decide := true) only [Tryz.f127, go_sem, Nat.reduceAdd, Nat.reduceMul, Nat.reduceSub]
  have ha : (L.map strA).length = L.length := List.length_map _
  refine Runs.while (α := Nat) (ifSt (.v (.func (.func g) #[] #[])) L) (fun i => L.length - i) (fun i => i ≤ L.length ∧ ∀ j (hj : j < L.length), j < i → q L[j] = false) 0 ⟨by omega, fun _ _ h => absurd h (by omega)⟩ ?_ ?_
  · simp [go_sem, ifAnn, ifSt]
  · rintro i ⟨hi, hn⟩ ih
    simp (decide := true) only [ifSt, ha, go_sem, Nat.reduceAdd, Nat.reduceMul, Nat.reduceSub]
    refine Runs.split (fun h => ?_) (fun h => ?_)
    · have hlt : i < L.length := by simpa using h
      have hg : (L.map strA).getD i .any = .v (.string L[i]) := by simp [List.getD, hlt, strA]
      simp (decide := true) (disch := first | omega | (simp only [List.length_map, List.length_cons, List.length_append, List.length_nil]; omega)) only [ha, hg, if_pos, go_sem, Nat.reduceAdd, Nat.reduceMul, Nat.reduceSub]
      refine Runs.call (hq L[i] (List.getElem_mem hlt)) ?_
      cases h2 : q L[i]
      · simp (decide := true) (disch := first | omega | (simp only [List.length_map, List.length_cons, List.length_append, List.length_nil]; omega)) only [if_pos, go_sem, Nat.reduceAdd, Nat.reduceMul, Nat.reduceSub]
        refine ih (i + 1) _ (by omega) ⟨by omega, fun j hj hji => ?_⟩ ?_
        · rcases Nat.lt_or_ge j i with h3 | h3
          · exact hn j hj h3
          · have : j = i := by omega
            subst this; exact h2
        · simp [go_sem, ifAnn, ifSt]
      · simp (decide := true) (disch := first | omega | (simp only [List.length_map, List.length_cons, List.length_append, List.length_nil]; omega)) only [if_pos, go_sem, Nat.reduceAdd, Nat.reduceMul, Nat.reduceSub]
        have e1 : L.any q = true := List.any_eq_true.mpr ⟨L[i], List.getElem_mem hlt, h2⟩
        have e2 : L.findIdx q = i := (List.findIdx_eq hlt).mpr ⟨h2, fun j hj => hn j (by omega) hj⟩
        exact Runs.ret_eq (by rw [e1, e2]; rfl)
    · have hge : i = L.length := by simp at h; omega
      have e1 : L.any q = false := by
        rw [List.any_eq_false]
        intro x hx
        obtain ⟨j, hj, rfl⟩ := List.getElem_of_mem hx
        rw [hn j hj (by omega)]; simp
      simp (decide := true) only [go_sem, Nat.reduceAdd, Nat.reduceMul, Nat.reduceSub]
      exact Runs.ret_eq (by rw [e1]; rfl)
include hm in
theorem contFunc0 (g : Nat) (L : List ByteArray) (q : ByteArray → Bool) (h : L.length ≤ 1048576) (hq : ∀ s ∈ L, Holds Tryz.prog g [.v (.string s)] [] (.v (.bool (q s))) []) :
    Holds Tryz.prog 97 [.sl .sh (L.map strA), .v (.func (.func g) #[] #[])] [] (.v (.bool (L.any q))) [] := by
  refine holds_of (ann := []) tabOk hm Tryz.func97 (by kernel_rfl) rfl ?_
  simp (decide := true) only [Tryz.f97, go_sem, Nat.reduceAdd, Nat.reduceMul, Nat.reduceSub]
  obtain ⟨n, hn, hc⟩ := indexFunc0 hm g L q h hq
  refine Runs.call hc ?_
  simp (decide := true) only [hn, go_sem, Nat.reduceAdd, Nat.reduceMul, Nat.reduceSub]
  exact Runs.ret_v
set_option maxRecDepth 10000 in
include hm in
theorem indexFunc1 (g : Nat) (hst : ByteArray) (L : List ByteArray) (q : ByteArray → Bool) (h : L.length ≤ 1048576) (hq : ∀ s ∈ L, Holds Tryz.prog g [.v (.string s), .ptr [.v (.string hst)] 0 0] [] (.v (.bool (q s))) []) :
    ∃ n : Int, decide (n ≥ 0) = L.any q ∧ Holds Tryz.prog 127 [.sl .sh (L.map strA), .fn (.func g) [] [.ptr [.v (.string hst)] 0 0]] [] (.v (.int .i64 n)) [] := by
  refine ⟨if L.any q = true then (L.findIdx q : Int) else -1, by cases h : L.any q <;> simp, ?_⟩
  refine holds_of (ann := ifAnn) tabOk hm Tryz.func127 (by kernel_rfl) rfl ?_
  simp (decide := true) only [Tryz.f127, go_sem, Nat.reduceAdd, Nat.reduceMul, Nat.reduceSub]
  have ha : (L.map strA).length = L.length := List.length_map _
  refine Runs.while (α := Nat) (ifSt (.fn (.func g) [] [.ptr [.v (.string hst)] 0 0]) L) (fun i => L.length - i) (fun i => i ≤ L.length ∧ ∀ j (hj : j < L.length), j < i → q L[j] = false) 0 ⟨by omega, fun _ _ h => absurd h (by omega)⟩ ?_ ?_
  · simp [go_sem, ifAnn, ifSt]
  · rintro i ⟨hi, hn⟩ ih
    simp (decide := true) only [ifSt, ha, go_sem, Nat.reduceAdd, Nat.reduceMul, Nat.reduceSub]
    refine Runs.split (fun h => ?_) (fun h => ?_)
    · have hlt : i < L.length := by simpa using h
      have hg : (L.map strA).getD i .any = .v (.string L[i]) := by simp [List.getD, hlt, strA]
      simp (decide := true) (disch := first | omega | (simp only [List.length_map, List.length_cons, List.length_append, List.length_nil]; omega)) only [ha, hg, if_pos, go_sem, Nat.reduceAdd, Nat.reduceMul, Nat.reduceSub]
      refine Runs.call (hq L[i] (List.getElem_mem hlt)) ?_
      cases h2 : q L[i]
      · simp (decide := true) (disch := first | omega | (simp only [List.length_map, List.length_cons, List.length_append, List.length_nil]; omega)) only [if_pos, go_sem, Nat.reduceAdd, Nat.reduceMul, Nat.reduceSub]
        refine ih (i + 1) _ (by omega) ⟨by omega, fun j hj hji => ?_⟩ ?_
        · rcases Nat.lt_or_ge j i with h3 | h3
          · exact hn j hj h3
          · have : j = i := by omega
            subst this; exact h2
        · simp [go_sem, ifAnn, ifSt]
      · simp (decide := true) (disch := first | omega | (simp only [List.length_map, List.length_cons, List.length_append, List.length_nil]; omega)) only [if_pos, go_sem, Nat.reduceAdd, Nat.reduceMul, Nat.reduceSub]
        have e1 : L.any q = true := List.any_eq_true.mpr ⟨L[i], List.getElem_mem hlt, h2⟩
        have e2 : L.findIdx q = i := (List.findIdx_eq hlt).mpr ⟨h2, fun j hj => hn j (by omega) hj⟩
        exact Runs.ret_eq (by rw [e1, e2]; rfl)
    · have hge : i = L.length := by simp at h; omega
      have e1 : L.any q = false := by
        rw [List.any_eq_false]
        intro x hx
        obtain ⟨j, hj, rfl⟩ := List.getElem_of_mem hx
        rw [hn j hj (by omega)]; simp
      simp (decide := true) only [go_sem, Nat.reduceAdd, Nat.reduceMul, Nat.reduceSub]
      exact Runs.ret_eq (by rw [e1]; rfl)
include hm in
theorem contFunc1 (g : Nat) (hst : ByteArray) (L : List ByteArray) (q : ByteArray → Bool) (h : L.length ≤ 1048576) (hq : ∀ s ∈ L, Holds Tryz.prog g [.v (.string s), .ptr [.v (.string hst)] 0 0] [] (.v (.bool (q s))) []) :
    Holds Tryz.prog 97 [.sl .sh (L.map strA), .fn (.func g) [] [.ptr [.v (.string hst)] 0 0]] [] (.v (.bool (L.any q))) [] := by
  refine holds_of (ann := []) tabOk hm Tryz.func97 (by kernel_rfl) rfl ?_
  simp (decide := true) only [Tryz.f97, go_sem, Nat.reduceAdd, Nat.reduceMul, Nat.reduceSub]
  obtain ⟨n, hn, hc⟩ := indexFunc1 hm g hst L q h hq
  refine Runs.call hc ?_
  simp (decide := true) only [hn, go_sem, Nat.reduceAdd, Nat.reduceMul, Nat.reduceSub]
  exact Runs.ret_v
set_option maxRecDepth 10000 in
include hm in
theorem indexFunc2 (g : Nat) (hst : Nat) (L : List ByteArray) (q : ByteArray → Bool) (h : L.length ≤ 1048576) (hq : ∀ s ∈ L, Holds Tryz.prog g [.v (.string s), .ptr [.v (.func (.func hst) #[] #[])] 0 0] [] (.v (.bool (q s))) []) :
    ∃ n : Int, decide (n ≥ 0) = L.any q ∧ Holds Tryz.prog 127 [.sl .sh (L.map strA), .fn (.func g) [] [.ptr [.v (.func (.func hst) #[] #[])] 0 0]] [] (.v (.int .i64 n)) [] := by
  refine ⟨if L.any q = true then (L.findIdx q : Int) else -1, by cases h : L.any q <;> simp, ?_⟩
  refine holds_of (ann := ifAnn) tabOk hm Tryz.func127 (by kernel_rfl) rfl ?_
  simp (decide := true) only [Tryz.f127, go_sem, Nat.reduceAdd, Nat.reduceMul, Nat.reduceSub]
  have ha : (L.map strA).length = L.length := List.length_map _
  refine Runs.while (α := Nat) (ifSt (.fn (.func g) [] [.ptr [.v (.func (.func hst) #[] #[])] 0 0]) L) (fun i => L.length - i) (fun i => i ≤ L.length ∧ ∀ j (hj : j < L.length), j < i → q L[j] = false) 0 ⟨by omega, fun _ _ h => absurd h (by omega)⟩ ?_ ?_
  · simp [go_sem, ifAnn, ifSt]
  · rintro i ⟨hi, hn⟩ ih
    simp (decide := true) only [ifSt, ha, go_sem, Nat.reduceAdd, Nat.reduceMul, Nat.reduceSub]
    refine Runs.split (fun h => ?_) (fun h => ?_)
    · have hlt : i < L.length := by simpa using h
      have hg : (L.map strA).getD i .any = .v (.string L[i]) := by simp [List.getD, hlt, strA]
      simp (decide := true) (disch := first | omega | (simp only [List.length_map, List.length_cons, List.length_append, List.length_nil]; omega)) only [ha, hg, if_pos, go_sem, Nat.reduceAdd, Nat.reduceMul, Nat.reduceSub]
      refine Runs.call (hq L[i] (List.getElem_mem hlt)) ?_
      cases h2 : q L[i]
      · simp (decide := true) (disch := first | omega | (simp only [List.length_map, List.length_cons, List.length_append, List.length_nil]; omega)) only [if_pos, go_sem, Nat.reduceAdd, Nat.reduceMul, Nat.reduceSub]
        refine ih (i + 1) _ (by omega) ⟨by omega, fun j hj hji => ?_⟩ ?_
        · rcases Nat.lt_or_ge j i with h3 | h3
          · exact hn j hj h3
          · have : j = i := by omega
            subst this; exact h2
        · simp [go_sem, ifAnn, ifSt]
      · simp (decide := true) (disch := first | omega | (simp only [List.length_map, List.length_cons, List.length_append, List.length_nil]; omega)) only [if_pos, go_sem, Nat.reduceAdd, Nat.reduceMul, Nat.reduceSub]
        have e1 : L.any q = true := List.any_eq_true.mpr ⟨L[i], List.getElem_mem hlt, h2⟩
        have e2 : L.findIdx q = i := (List.findIdx_eq hlt).mpr ⟨h2, fun j hj => hn j (by omega) hj⟩
        exact Runs.ret_eq (by rw [e1, e2]; rfl)
    · have hge : i = L.length := by simp at h; omega
      have e1 : L.any q = false := by
        rw [List.any_eq_false]
        intro x hx
        obtain ⟨j, hj, rfl⟩ := List.getElem_of_mem hx
        rw [hn j hj (by omega)]; simp
      simp (decide := true) only [go_sem, Nat.reduceAdd, Nat.reduceMul, Nat.reduceSub]
      exact Runs.ret_eq (by rw [e1]; rfl)
include hm in
theorem contFunc2 (g : Nat) (hst : Nat) (L : List ByteArray) (q : ByteArray → Bool) (h : L.length ≤ 1048576) (hq : ∀ s ∈ L, Holds Tryz.prog g [.v (.string s), .ptr [.v (.func (.func hst) #[] #[])] 0 0] [] (.v (.bool (q s))) []) :
    Holds Tryz.prog 97 [.sl .sh (L.map strA), .fn (.func g) [] [.ptr [.v (.func (.func hst) #[] #[])] 0 0]] [] (.v (.bool (L.any q))) [] := by
  refine holds_of (ann := []) tabOk hm Tryz.func97 (by kernel_rfl) rfl ?_
  simp (decide := true) only [Tryz.f97, go_sem, Nat.reduceAdd, Nat.reduceMul, Nat.reduceSub]
  obtain ⟨n, hn, hc⟩ := indexFunc2 hm g hst L q h hq
  refine Runs.call hc ?_
  simp (decide := true) only [hn, go_sem, Nat.reduceAdd, Nat.reduceMul, Nat.reduceSub]
  exact Runs.ret_v
end Go.Proofs.W

namespace Go.Proofs.W
open Go Go.AM
set_option linter.unusedSimpArgs false
set_option linter.unusedVariables false
variable (hm : Tryz.prog.follows .mixedOrders = true)

def digS : ByteArray := ⟨#[48, 49, 50, 51, 52, 53, 54, 55, 56, 57]⟩
def digSet (i : Nat) : List A := (List.range 256).map fun j => .v (.bool (decide (48 ≤ j ∧ j < 48 + i)))
theorem digSet_len (i : Nat) : (digSet i).length = 256 := by simp [digSet]
theorem digSet_get {i j : Nat} (h : j < 256) : (digSet i).getD j .any = .v (.bool (decide (48 ≤ j ∧ j < 48 + i))) := by
  rw [digSet, List.getD, List.getElem?_map, List.getElem?_range h]; rfl
theorem digSet_set {i : Nat} (h : i < 10) : (digSet i).set (48 + i) (.v (.bool true)) = digSet (i + 1) := by
  apply List.ext_getElem
  · rw [List.length_set, digSet_len, digSet_len]
  · intro j h1 h2
    rw [List.getElem_set]
    simp only [digSet, List.getElem_map, List.getElem_range]
    split
    · rename_i e
      rw [decide_eq_true (by omega)]
    · rename_i e
      have : decide (48 ≤ j ∧ j < 48 + i) = decide (48 ≤ j ∧ j < 48 + (i + 1)) := by
        rw [decide_eq_decide]; constructor <;> (intro h; omega)
      rw [this]
theorem digSet_zero : (repV 256 (.bool false)).map A.v = digSet 0 := by
  rw [digSet, repV]
  apply List.ext_getElem
  · rw [List.length_map, List.length_replicate, List.length_map, List.length_range]
  · intro j h1 h2
    rw [List.getElem_map, List.getElem_replicate, List.getElem_map, List.getElem_range, decide_eq_false (by omega)]
theorem repV_len (v : Value) : (repV 256 v).length = 256 := by rw [repV, List.length_replicate]
theorem digSet_one (i : Nat) : (digSet i).all A.one = true := by
  rw [digSet, List.all_map, List.all_eq_true]; intro x _; rfl
theorem digSet_plain (i : Nat) : plainL (digSet i) = true := by
  rw [digSet, plainL_map, List.all_eq_true]; intro x _; rfl
theorem digSet_keep (st : St) (ks : List Nat) (i : Nat) : (digSet i).map (keepC st ks) = digSet i := by
  rw [digSet, List.map_map]; rfl
theorem digSet_ids (i : Nat) : (digSet i).flatMap cellIds = [] := by
  rw [List.flatMap_eq_nil_iff]
  intro x hx
  rw [digSet, List.mem_map] at hx
  obtain ⟨j, _, rfl⟩ := hx; rfl
theorem roL_vs (g : Go.AM.Id → Option Go.AM.Id) (vs : List Value) : roL g (vs.map .v) = vs.map .v := by
  induction vs with
  | nil => simp [roL]
  | cons v l ih => rw [List.map_cons, roL, A.ro, ih]
theorem outL_bs (st : St) (vs : List Bool) : outL st (vs.map fun b => .v (.bool b)) = some (vs.map fun b => .v (.bool b), st) := by
  induction vs with
  | nil => simp [outL]
  | cons v l ih => simp [outL, ih, outC, insC, Value.oneCell']
theorem inL_bs (st : St) (n : Nat) (vs : List Bool) : inL st n (vs.map fun b => .v (.bool b)) = some (vs.map fun b => .v (.bool b), st) := by
  induction vs generalizing n with
  | nil => simp [inL]
  | cons v l ih => simp [inL, ih, inC]
theorem digSet_in (st : St) (n i : Nat) : inL st n (digSet i) = some (digSet i, st) := by
  have e : digSet i = ((List.range 256).map fun j => decide (48 ≤ j ∧ j < 48 + i)).map fun b => .v (.bool b) := by rw [digSet, List.map_map]; rfl
  rw [e, inL_bs]
theorem digSet_vs (i : Nat) : digSet i = ((List.range 256).map fun j => Value.bool (decide (48 ≤ j ∧ j < 48 + i))).map .v := by
  rw [digSet, List.map_map]; rfl
theorem rnL_vs (g : Go.AM.Id → Go.AM.Id) (vs : List Value) : rnL g (vs.map .v) = vs.map .v := by
  rw [rnL_eq, List.map_map]; rfl
theorem rdL_vs (g : Go.AM.Id → Option Go.AM.Id) (vs : List Value) : rdL g (vs.map .v) = vs.map .v := by
  rw [rdL_eq, List.map_map]; rfl
theorem digSet_rn (g : Go.AM.Id → Go.AM.Id) (i : Nat) : rnL g (digSet i) = digSet i := by rw [digSet_vs, rnL_vs]
theorem digSet_rd (g : Go.AM.Id → Option Go.AM.Id) (i : Nat) : rdL g (digSet i) = digSet i := by rw [digSet_vs, rdL_vs]
theorem digSet_ro (g : Go.AM.Id → Option Go.AM.Id) (i : Nat) : roL g (digSet i) = digSet i := by rw [digSet_vs, roL_vs]
theorem digSet_out (st : St) (i : Nat) : outL st (digSet i) = some (digSet i, st) := by
  have e : digSet i = ((List.range 256).map fun j => decide (48 ≤ j ∧ j < 48 + i)).map fun b => .v (.bool b) := by rw [digSet, List.map_map]; rfl
  rw [e, outL_bs]
theorem setCells_end : ∀ (vs cs : List A) (off : Nat), off + vs.length = cs.length → setCells cs off vs = cs.take off ++ vs
  | [], cs, off, h => by simp [setCells]; rw [List.take_of_length_le (by simp at h; omega)]
  | v :: vs, cs, off, h => by
    simp at h
    rw [setCells, setCells_end vs _ _ (by simp; omega), List.take_add_one, List.getElem?_set_self (by omega)]
    rw [List.take_set_of_le (Nat.le_refl _)]; simp
theorem digSet_setCells (i j : Nat) : setCells (digSet i) 0 (digSet j) = digSet j := by
  rw [setCells_end _ _ _ (by rw [digSet_len, digSet_len])]; rfl
theorem digSet_take (i : Nat) : (digSet i).take 256 = digSet i := List.take_of_length_le (by rw [digSet_len]; exact Nat.le_refl _)
attribute [local go_sem] digSet_keep digSet_ids digSet_ro digSet_out digSet_setCells digSet_take digSet_len digSet_one digSet_plain digSet_zero repV_len
theorem digS_get {i : Nat} (h : i < 10) : (digS.data.toList.getD i 0).toNat = 48 + i := by
  have : i = 0 ∨ i = 1 ∨ i = 2 ∨ i = 3 ∨ i = 4 ∨ i = 5 ∨ i = 6 ∨ i = 7 ∨ i = 8 ∨ i = 9 := by omega
  rcases this with h | h | h | h | h | h | h | h | h | h <;> subst h <;> rfl
def maAnn : Ann := [(0, [0, 2, 3, 4])]
def maSt (i : Nat) : St := ⟨[.v (.string digS), .any, .ref (.l 0) 0 0 1, .v (.bool false), .v (.int .i64 i), .any, .any, .any, .any, .any, .any, .any, .any, .any, .any, .any, .any, .any, .any, .any, .any], [(0, ⟨true, 256, true, [.agg (digSet i)]⟩)], []⟩
set_option maxRecDepth 10000 in
include hm in
theorem makeSet : Holds Tryz.prog 134 [.v (.string digS)] [] (.tup [.agg (digSet 10), .v (.bool true)]) [] := by
  refine holds_of (ann := maAnn) tabOk hm Tryz.func134 (by kernel_rfl) rfl ?_
  simp (decide := true) only [Tryz.f134, go_sem, Nat.reduceAdd, Nat.reduceMul, Nat.reduceSub]
  have hsz : digS.size = 10 := rfl
  have hl := digSet_len
  refine Runs.while (α := Nat) maSt (fun i => 10 - i) (fun i => i ≤ 10) 0 (by omega) ?_ ?_
  · simp [go_sem, maAnn, maSt]
  · intro i hi ih
    have hs10 : ((digS.size : Nat) : Int) = 10 := rfl
    simp (decide := true) only [maSt, hs10, go_sem, Nat.reduceAdd, Nat.reduceMul, Nat.reduceSub]
    refine Runs.split (fun h => ?_) (fun h => ?_)
    · have hlt : i < 10 := by simp at h; omega
      have hg := digS_get hlt
      have t1 : (((48 + i : Nat) : Int)).toNat = 48 + i := by omega
      simp (decide := true) (disch := first | omega | (simp only [List.length_map, List.length_cons, List.length_append, List.length_nil]; omega)) only [hg, hs10, hsz, t1, if_pos, go_sem, Nat.reduceAdd, Nat.reduceMul, Nat.reduceSub]
      have d1 : decide (((48 + i : Nat) : Int) ≥ 128) = false := by simp; omega
      have hb : decide ((0 : Int) ≤ ((48 + i : Nat) : Int) ∧ ((48 + i : Nat) : Int) < 256) = true := by simp; omega
      have hset := digSet_set hlt
      simp (decide := true) (disch := first | omega | (simp only [List.length_map, List.length_cons, List.length_append, List.length_nil]; omega)) only [d1, hb, t1, Nat.mul_one, hset, if_pos, go_sem, Nat.reduceAdd, Nat.reduceMul, Nat.reduceSub]
      refine ih (i + 1) _ (by omega) (by omega) ?_
      simp [go_sem, maAnn, maSt]
    · have hge : i = 10 := by simp at h; omega
      subst hge
      simp (decide := true) (disch := first | omega | (simp only [List.length_map, List.length_cons, List.length_append, List.length_nil]; omega)) only [if_pos, go_sem, Nat.reduceAdd, Nat.reduceMul, Nat.reduceSub]
      exact Runs.ret_refl
end Go.Proofs.W

namespace Go.Proofs.W
open Go Go.AM
set_option linter.unusedSimpArgs false
set_option linter.unusedVariables false
variable (hm : Tryz.prog.follows .mixedOrders = true)
attribute [local go_sem] digSet_keep digSet_ids digSet_ro digSet_out digSet_setCells digSet_take digSet_len digSet_one digSet_plain digSet_zero repV_len digSet_rn digSet_rd digSet_in

def setBlk : Blk := ⟨true, 256, true, [.agg (digSet 10)]⟩
attribute [local go_sem] setBlk
def trR (l : List UInt8) : List UInt8 := (l.reverse.dropWhile digC).reverse
def trimD (s : ByteArray) : ByteArray := mkS ((trR s.data.toList).dropWhile digC)
theorem trR_snoc (l : List UInt8) (b : UInt8) : trR (l ++ [b]) = if digC b = true then trR l else l ++ [b] := by
  simp only [trR, List.reverse_append, List.reverse_cons, List.reverse_nil, List.nil_append, List.cons_append, List.dropWhile_cons]
  split <;> simp
theorem drop_nil (l : List UInt8) : l.dropWhile digC = [] ↔ l.all digC = true := by
  induction l with
  | nil => simp
  | cons b l ih => cases h : digC b <;> simp [h, ih]
theorem trimD_nil (s : ByteArray) : ((trimD s).toList == (⟨#[]⟩ : ByteArray).toList) = s.data.toList.all digC := by
  have e1 : ((trimD s).toList == (⟨#[]⟩ : ByteArray).toList) = decide ((trR s.data.toList).dropWhile digC = []) := by
    rw [Lib.toList_data, Lib.toList_data, trimD, mkS_data, Bool.eq_iff_iff, beq_iff_eq, decide_eq_true_iff]
  rw [e1, Bool.eq_iff_iff, decide_eq_true_iff, drop_nil]
  rw [trR, List.all_reverse]
  have h := drop_nil s.data.toList.reverse
  rw [List.all_reverse] at h
  rw [← h]
  have h2 : ∀ m : List UInt8, (m.dropWhile digC).all digC = true ↔ m.dropWhile digC = [] := by
    intro m
    induction m with
    | nil => simp
    | cons b l ih => cases h : digC b <;> simp [List.dropWhile_cons, h, ih]
  exact h2 _
set_option maxRecDepth 10000 in
include hm in
theorem setHas (b : UInt8) : Holds Tryz.prog 156 [.ref (.x 0) 0 0 1, .v (.int .u8 b.toNat)] [setBlk] (.v (.bool (digC b))) [setBlk] := by
  refine holds_ref (ann := []) tabOk hm (byL [156] []) Tryz.func156 (by kernel_rfl) rfl ?_
  have hb := UInt8.toNat_lt b
  have hg : (digSet 10).getD b.toNat .any = .v (.bool (digC b)) := by
    rw [digSet_get (by omega)]; congr 2; simp only [digC, inB]; rw [Bool.eq_iff_iff]; simp; omega
  have hb1 : decide ((0 : Int) ≤ (b.toNat : Int) ∧ (b.toNat : Int) < 256) = true := by simp; omega
  simp (decide := true) (disch := first | omega | (simp only [List.length_map, List.length_cons, List.length_append, List.length_nil]; omega)) only [Tryz.f156, setBlk, hg, hb1, Nat.mul_one, Nat.zero_add, if_pos, go_sem, Nat.reduceAdd, Nat.reduceMul, Nat.reduceSub]
  exact Runs.ret_v
def tlAnn : Ann := [(0, [0, 1])]
def tlSt (l : List UInt8) : St := ⟨[.v (.string (mkS l)), .ref (.x 0) 0 0 1, .any, .any, .any, .any, .any, .any, .any, .any, .any, .any, .any, .any, .any, .any], [], [setBlk]⟩
set_option maxRecDepth 10000 in
include hm in
theorem trimLeft (l : List UInt8) (h : l.length ≤ 1048576) : Holds Tryz.prog 135 [.v (.string (mkS l)), .ref (.x 0) 0 0 1] [setBlk] (.v (.string (mkS (l.dropWhile digC)))) [setBlk] := by
  refine holds_ref (ann := tlAnn) tabOk hm (byL [156] []) Tryz.func135 (by kernel_rfl) rfl ?_
  simp (decide := true) only [Tryz.f135, setBlk, go_sem, Nat.reduceAdd, Nat.reduceMul, Nat.reduceSub]
  refine Runs.while (α := List UInt8) tlSt (fun r => r.length) (fun r => r.length ≤ l.length ∧ r.dropWhile digC = l.dropWhile digC) l ⟨Nat.le_refl _, rfl⟩ ?_ ?_
  · simp [go_sem, tlAnn, tlSt, setBlk]
  · rintro r ⟨hr1, hr2⟩ ih
    have hz := mkS_size r
    simp (decide := true) only [tlSt, setBlk, go_sem, Nat.reduceAdd, Nat.reduceMul, Nat.reduceSub]
    refine Runs.split (fun h => ?_) (fun h => ?_)
    · cases r with
      | nil => rw [hz] at h; simp at h
      | cons b r =>
        have hg : (mkS (b :: r)).data.toList.getD (Int.toNat 0) 0 = b := by rw [mkS_data]; rfl
        have hb0 : decide ((0 : Int) < ((mkS (b :: r)).size : Int)) = true := by rw [hz]; simp
        simp (decide := true) (disch := first | omega | (simp only [List.length_map, List.length_cons, List.length_append, List.length_nil]; omega)) only [hg, hb0, if_pos, go_sem, Nat.reduceAdd, Nat.reduceMul, Nat.reduceSub]
        have e1 : (mkS (b :: r)).extract 1 (mkS (b :: r)).size = mkS r := by rw [mkS_ext, mkS_data, hz]; simp
        refine Runs.call (setHas hm b) ?_
        cases hb : digC b
        · simp (decide := true) only [go_sem, Nat.reduceAdd, Nat.reduceMul, Nat.reduceSub]
          refine Runs.ret_eq ?_
          rw [← hr2, List.dropWhile_cons, hb]; rfl
        · have hb2 : decide ((1 : Int) ≤ ((mkS (b :: r)).size : Int) ∧ ((mkS (b :: r)).size : Int) ≤ ((mkS (b :: r)).size : Int)) = true := by rw [hz]; simp; omega
          have t1 : Int.toNat 1 = 1 := rfl
          have hb3 : decide ((0 : Int) ≤ 1 ∧ (1 : Int) ≤ ((mkS (b :: r)).size : Int) ∧ ((mkS (b :: r)).size : Int) ≤ ((mkS (b :: r)).size : Int)) = true := by rw [hz]; simp; omega
          simp (decide := true) (disch := first | omega | (simp only [List.length_map, List.length_cons, List.length_append, List.length_nil]; omega)) only [e1, hb2, t1, hb3, if_pos, go_sem, Nat.reduceAdd, Nat.reduceMul, Nat.reduceSub]
          refine ih r _ (by simp) ⟨by simp at hr1; omega, by rw [← hr2, List.dropWhile_cons, hb]; rfl⟩ ?_
          simp [go_sem, tlAnn, tlSt, setBlk, e1]
    · have : r = [] := by rw [hz] at h; simp at h; exact h
      subst this
      simp (decide := true) only [go_sem, Nat.reduceAdd, Nat.reduceMul, Nat.reduceSub]
      exact Runs.ret_eq (by rw [← hr2]; rfl)
def trAnn : Ann := [(0, [0, 1])]
def trSt (l : List UInt8) : St := ⟨[.v (.string (mkS l)), .ref (.x 0) 0 0 1, .any, .any, .any, .any, .any, .any, .any, .any, .any, .any, .any, .any, .any, .any, .any, .any, .any, .any, .any, .any], [], [setBlk]⟩
set_option maxRecDepth 10000 in
include hm in
theorem trimRight (l : List UInt8) (h : l.length ≤ 1048576) : Holds Tryz.prog 136 [.v (.string (mkS l)), .ref (.x 0) 0 0 1] [setBlk] (.v (.string (mkS (trR l)))) [setBlk] := by
  refine holds_ref (ann := trAnn) tabOk hm (byL [156] []) Tryz.func136 (by kernel_rfl) rfl ?_
  simp (decide := true) only [Tryz.f136, setBlk, go_sem, Nat.reduceAdd, Nat.reduceMul, Nat.reduceSub]
  refine Runs.while (α := List UInt8) trSt (fun r => r.length) (fun r => r.length ≤ l.length ∧ trR r = trR l) l ⟨Nat.le_refl _, rfl⟩ ?_ ?_
  · simp [go_sem, trAnn, trSt, setBlk]
  · rintro r ⟨hr1, hr2⟩ ih
    have hz := mkS_size r
    simp (decide := true) only [trSt, setBlk, go_sem, Nat.reduceAdd, Nat.reduceMul, Nat.reduceSub]
    refine Runs.split (fun h => ?_) (fun h => ?_)
    · obtain ⟨q, b, rfl⟩ : ∃ q b, r = q ++ [b] := by
        have hne : r ≠ [] := by intro e; rw [hz, e] at h; simp at h
        exact ⟨r.dropLast, r.getLast hne, (List.dropLast_concat_getLast hne).symm⟩
      have hzn : (mkS (q ++ [b])).size = q.length + 1 := by rw [hz]; simp
      have t2 : (((mkS (q ++ [b])).size : Int) - 1).toNat = q.length := by rw [hzn]; omega
      have hg : (mkS (q ++ [b])).data.toList.getD q.length 0 = b := by rw [mkS_data]; simp [List.getD]
      have hb0 : decide ((0 : Int) ≤ ((mkS (q ++ [b])).size : Int) - 1 ∧ ((mkS (q ++ [b])).size : Int) - 1 < ((mkS (q ++ [b])).size : Int)) = true := by rw [hzn]; simp; omega
      have w1 : IntKind.i64.wrap (((mkS (q ++ [b])).size : Int) - 1) = ((mkS (q ++ [b])).size : Int) - 1 := wrap_i64 (by omega) (by rw [hz]; omega)
      simp (decide := true) (disch := first | omega | (simp only [List.length_map, List.length_cons, List.length_append, List.length_nil]; omega)) only [w1, t2, hg, hb0, if_pos, go_sem, Nat.reduceAdd, Nat.reduceMul, Nat.reduceSub]
      refine Runs.call (setHas hm b) ?_
      have e1 : (mkS (q ++ [b])).extract 0 q.length = mkS q := by rw [mkS_ext, mkS_data]; simp
      cases hb : digC b
      · simp (decide := true) only [go_sem, Nat.reduceAdd, Nat.reduceMul, Nat.reduceSub]
        refine Runs.ret_eq ?_
        rw [← hr2, trR_snoc, hb]; rfl
      · have hb3 : decide ((0 : Int) ≤ 0 ∧ (0 : Int) ≤ ((mkS (q ++ [b])).size : Int) - 1 ∧ ((mkS (q ++ [b])).size : Int) - 1 ≤ ((mkS (q ++ [b])).size : Int)) = true := by rw [hzn]; simp; omega
        have hb4 : decide ((0 : Int) ≤ ((mkS (q ++ [b])).size : Int) - 1 ∧ ((mkS (q ++ [b])).size : Int) - 1 ≤ ((mkS (q ++ [b])).size : Int)) = true := by rw [hzn]; simp; omega
        have t0 : Int.toNat 0 = 0 := rfl
        simp (decide := true) (disch := first | omega | (simp only [List.length_map, List.length_cons, List.length_append, List.length_nil]; omega)) only [w1, t0, t2, e1, hb3, hb4, if_pos, go_sem, Nat.reduceAdd, Nat.reduceMul, Nat.reduceSub]
        refine ih q _ (by simp) ⟨by simp at hr1; omega, by rw [← hr2, trR_snoc, hb]; rfl⟩ ?_
        simp [go_sem, trAnn, trSt, setBlk, e1]
    · have : r = [] := by rw [hz] at h; simp at h; exact h
      subst this
      simp (decide := true) only [go_sem, Nat.reduceAdd, Nat.reduceMul, Nat.reduceSub]
      exact Runs.ret_eq (by rw [← hr2]; rfl)
set_option maxRecDepth 10000 in
include hm in
theorem trim1 (s : ByteArray) (h : s.size ≤ 1048576) : Holds Tryz.prog 104 [.v (.string s), .v (.string digS)] [] (.v (.string (trimD s))) [] := by
  refine holds_ref (ann := []) tabOk hm (byL [136, 135] []) Tryz.func104 (by kernel_rfl) rfl ?_
  have hd : (digS.toList == (⟨#[]⟩ : ByteArray).toList) = false := by rw [Lib.toList_data, Lib.toList_data]; decide
  have hs10 : ((digS.size : Nat) : Int) = 10 := rfl
  have hz := list_size s
  have hle : (trR s.data.toList).length ≤ s.size := by
    rw [trR, List.length_reverse]
    have := (List.dropWhile_sublist (p := digC) (l := s.data.toList.reverse)).length_le
    rw [List.length_reverse, hz] at this; exact this
  simp (decide := true) only [Tryz.f104, go_sem, Nat.reduceAdd, Nat.reduceMul, Nat.reduceSub]
  refine Runs.split (fun h2 => ?_) (fun h2 => ?_)
  · have e : s = ⟨#[]⟩ := by
      rw [beq_iff_eq, Lib.toList_data, Lib.toList_data] at h2
      rw [← mkS_list s, h2]; rfl
    simp (decide := true) only [go_sem, Nat.reduceAdd, Nat.reduceMul, Nat.reduceSub]
    exact Runs.ret_eq (by rw [e]; rfl)
  · simp (decide := true) only [hd, hs10, go_sem, Nat.reduceAdd, Nat.reduceMul, Nat.reduceSub]
    refine Runs.call (makeSet hm) ?_
    simp (decide := true) only [go_sem, Nat.reduceAdd, Nat.reduceMul, Nat.reduceSub]
    have c1 := trimRight hm s.data.toList (by omega)
    rw [mkS_list, setBlk] at c1
    refine Runs.call c1 ?_
    simp (decide := true) only [go_sem, Nat.reduceAdd, Nat.reduceMul, Nat.reduceSub]
    have c2 := trimLeft hm (trR s.data.toList) (by omega)
    rw [setBlk] at c2
    refine Runs.call c2 ?_
    simp (decide := true) only [go_sem, Nat.reduceAdd, Nat.reduceMul, Nat.reduceSub]
    exact Runs.ret_eq rfl
end Go.Proofs.W

namespace Go.Proofs.W
open Go Go.AM
set_option linter.unusedSimpArgs false
set_option linter.unusedVariables false
variable (hm : Tryz.prog.follows .mixedOrders = true)

def l8pAnn : Ann := [(0, [0, 1, 5, 6, 7])]
def l8pSt (s : ByteArray) (p : List ByteArray × Nat × Nat) : St := ⟨[.v (.string s), .v (.int .u8 46), .any, .any, .any, .ms (.l 0) 0 p.1.length p.1.length, .v (.int .i64 p.2.1), .v (.int .i64 p.2.2), .any, .any, .any, .any, .any, .any, .any, .any, .any, .any, .any, .any, .any, .any, .any, .any, .any, .any, .any, .any, .any, .any, .any, .any, .any, .any, .any], [(0, ⟨true, 1, false, p.1.map strA⟩)], []⟩
set_option maxRecDepth 10000 in
include hm in
theorem l8Parts (s : ByteArray) (h : s.size ≤ 1048576) : Holds Tryz.prog 124 [.v (.string s), .v (.int .u8 46)] [] (.sl (.ow 1) ((partsB s).map strA)) [] := by
  refine holds_of (ann := l8pAnn) tabOk hm Tryz.func124 (by kernel_rfl) rfl ?_
  simp (decide := true) only [Tryz.f124, go_sem, Nat.reduceAdd, Nat.reduceMul, Nat.reduceSub]
  have hz := list_size s
  refine Runs.while (α := List ByteArray × Nat × Nat) (l8pSt s) (fun p => s.size - p.2.2) (fun p => p.2.1 ≤ p.2.2 ∧ p.2.2 ≤ s.size ∧ p.1.length ≤ p.2.2 ∧ (∀ b ∈ (s.data.toList.drop p.2.1).take (p.2.2 - p.2.1), b ≠ 46) ∧ partsB s = p.1 ++ partsB (mkS (s.data.toList.drop p.2.1))) ([], 0, 0) ⟨Nat.le_refl _, Nat.zero_le _, Nat.zero_le _, by simp, by simp [mkS_list]⟩ ?_ ?_
  · simp [go_sem, l8pAnn, l8pSt]
  · rintro ⟨D, f, i⟩ ⟨hf, hi, hd, hn, hp⟩ ih
    simp only at hf hi hd hn hp
    have hD : (D.map strA).length = D.length := List.length_map _
    simp (decide := true) only [l8pSt, hD, go_sem, Nat.reduceAdd, Nat.reduceMul, Nat.reduceSub]
    refine Runs.split (fun h => ?_) (fun h => ?_)
    · have hlt : i < s.data.toList.length := by simp at h; omega
      have hg : s.data.toList.getD i 0 = s.data.toList[i] := getD_lt hlt
      have hb := UInt8.toNat_lt s.data.toList[i]
      simp (decide := true) (disch := first | omega | (simp only [List.length_map, List.length_cons, List.length_append, List.length_nil]; omega)) only [hg, if_pos, go_sem, Nat.reduceAdd, Nat.reduceMul, Nat.reduceSub]
      have e1 : s.data.toList.drop f = (s.data.toList.drop f).take (i - f) ++ s.data.toList[i] :: s.data.toList.drop (i + 1) := by
        conv => lhs; rw [← List.take_append_drop (i - f) (s.data.toList.drop f)]
        rw [List.drop_drop, show f + (i - f) = i by omega, List.drop_eq_getElem_cons hlt]
      refine Runs.split (fun h2 => ?_) (fun h2 => ?_)
      · have h46 : s.data.toList[i] = 46 := by
          simp only [decide_eq_true_eq] at h2
          exact UInt8.toNat_inj.mp (by simpa using Int.ofNat.inj h2)
        rw [h46] at e1
        simp (decide := true) (disch := first | omega | (simp only [List.length_map, List.length_cons, List.length_append, List.length_nil]; omega)) only [if_pos, go_sem, Nat.reduceAdd, Nat.reduceMul, Nat.reduceSub]
        have e2 : s.extract f i = mkS ((s.data.toList.drop f).take (i - f)) := mkS_ext s f i
        refine ih (D ++ [s.extract f i], i + 1, i + 1) _ (by simp only; omega) ⟨Nat.le_refl _, by simp only; omega, by simp; omega, by simp, ?_⟩ ?_
        · simp only
          rw [hp, partsB, mkS_data, e1, partsL_cut 46 _ _ hn, partsB, mkS_data, e2]
          simp
        · simp [go_sem, l8pAnn, l8pSt, strA]
      · have h46 : s.data.toList[i] ≠ 46 := by
          intro e
          simp [e] at h2
        simp (decide := true) (disch := first | omega | (simp only [List.length_map, List.length_cons, List.length_append, List.length_nil]; omega)) only [if_pos, go_sem, Nat.reduceAdd, Nat.reduceMul, Nat.reduceSub]
        refine ih (D, f, i + 1) _ (by simp only; omega) ⟨by simp only; omega, by simp only; omega, by simp only; omega, ?_, hp⟩ ?_
        · simp only
          intro b hb2
          rw [show i + 1 - f = i - f + 1 by omega, List.take_add_one, List.mem_append] at hb2
          rcases hb2 with hb2 | hb2
          · exact hn b hb2
          · rw [List.getElem?_drop, show f + (i - f) = i by omega, List.getElem?_eq_getElem hlt] at hb2
            simp at hb2
            rw [hb2]; exact h46
        · simp [go_sem, l8pAnn, l8pSt]
    · have hge : i = s.size := by simp at h; omega
      subst hge
      have hn2 : ∀ b ∈ s.data.toList.drop f, b ≠ 46 := by
        intro b hb
        refine hn b ?_
        rw [List.take_of_length_le (by simp)]; exact hb
      have hq : partsB (mkS (s.data.toList.drop f)) = [mkS (s.data.toList.drop f)] := by rw [partsB, mkS_data, partsL_no 46 _ hn2]; rfl
      rw [hq] at hp
      have e2 : s.extract f s.size = mkS (s.data.toList.drop f) := by
        rw [mkS_ext, List.take_of_length_le (by simp)]
      simp (decide := true) (disch := first | omega | (simp only [List.length_map, List.length_cons, List.length_append, List.length_nil]; omega)) only [List.length_append, List.length_cons, List.length_nil, if_pos, go_sem, Nat.reduceAdd, Nat.reduceMul, Nat.reduceSub]
      refine Runs.ret_eq ?_
      rw [hp, e2]
      simp [strA]
def l8dAnn : Ann := [(0, [0, 3])]
def l8dSt (s : ByteArray) (i : Nat) : St := ⟨[.v (.string s), .any, .any, .v (.int .i64 i), .any, .any, .any, .any, .any, .any, .any, .any, .any, .any, .any, .any, .any, .any, .any], [], []⟩
set_option maxRecDepth 10000 in
include hm in
theorem l8Digits (s : ByteArray) (h : s.size ≤ 1048576) : Holds Tryz.prog 126 [.v (.string s)] [] (.v (.bool (digitsB s))) [] := by
  refine holds_of (ann := l8dAnn) tabOk hm Tryz.func126 (by kernel_rfl) rfl ?_
  simp (decide := true) only [Tryz.f126, go_sem, Nat.reduceAdd, Nat.reduceMul, Nat.reduceSub]
  have hz := list_size s
  refine Runs.while (α := Nat) (l8dSt s) (fun i => s.size - i) (fun i => i ≤ s.size ∧ (s.data.toList.drop i).all digC = s.data.toList.all digC) 0 ⟨by omega, by simp⟩ ?_ ?_
  · simp [go_sem, l8dAnn, l8dSt]
  · rintro i ⟨hi, hr⟩ ih
    simp (decide := true) only [l8dSt, go_sem, Nat.reduceAdd, Nat.reduceMul, Nat.reduceSub]
    refine Runs.split (fun h => ?_) (fun h => ?_)
    · have hlt : i < s.data.toList.length := by simp at h; omega
      have hg : s.data.toList.getD i 0 = s.data.toList[i] := getD_lt hlt
      have hb := UInt8.toNat_lt s.data.toList[i]
      rw [List.drop_eq_getElem_cons hlt, List.all_cons] at hr
      simp (decide := true) (disch := first | omega | (simp only [List.length_map, List.length_cons, List.length_append, List.length_nil]; omega)) only [hg, if_pos, go_sem, Nat.reduceAdd, Nat.reduceMul, Nat.reduceSub]
      refine Runs.call (l1In hm _ 48 57) ?_
      simp (decide := true) only [go_sem, Nat.reduceAdd, Nat.reduceMul, Nat.reduceSub]
      refine Runs.split (fun h2 => ?_) (fun h2 => ?_)
      · simp only [Bool.not_eq_true'] at h2
        simp (decide := true) only [go_sem, Nat.reduceAdd, Nat.reduceMul, Nat.reduceSub]
        exact Runs.ret_eq (by rw [digitsB, ← hr, digC, h2]; simp)
      · simp only [Bool.not_eq_false'] at h2
        rw [digC, h2, Bool.true_and] at hr
        simp (decide := true) (disch := first | omega | (simp only [List.length_map, List.length_cons, List.length_append, List.length_nil]; omega)) only [if_pos, go_sem, Nat.reduceAdd, Nat.reduceMul, Nat.reduceSub]
        refine ih (i + 1) _ (by omega) ⟨by omega, hr⟩ ?_
        simp [go_sem, l8dAnn, l8dSt]
    · have hge : i = s.size := by simp at h; omega
      rw [List.drop_of_length_le (by omega), List.all_nil] at hr
      simp (decide := true) only [go_sem, Nat.reduceAdd, Nat.reduceMul, Nat.reduceSub]
      exact Runs.ret_eq (by rw [digitsB, ← hr]; simp)
def l8lAnn : Ann := [(0, [0, 3])]
def l8lSt (s : ByteArray) (i : Nat) : St := ⟨[.v (.string s), .any, .any, .v (.int .i64 i), .any, .any, .any, .any, .any, .any, .any, .any, .any, .any, .any, .any, .any, .any, .any, .any, .any, .any, .any, .any, .any, .any, .any, .any, .any, .any, .any, .any, .any, .any, .any, .any, .any, .any, .any, .any, .any, .any, .any], [], []⟩
set_option maxRecDepth 10000 in
include hm in
theorem l8Label (s : ByteArray) (h : s.size ≤ 1048576) : Holds Tryz.prog 125 [.v (.string s)] [] (.v (.bool (labelB s))) [] := by
  refine holds_of (ann := l8lAnn) tabOk hm Tryz.func125 (by kernel_rfl) rfl ?_
  simp (decide := true) only [Tryz.f125, go_sem, Nat.reduceAdd, Nat.reduceMul, Nat.reduceSub]
  have hz := list_size s
  refine Runs.while (α := Nat) (l8lSt s) (fun i => s.size - i) (fun i => i ≤ s.size ∧ (s.data.toList.drop i).all okC = s.data.toList.all okC) 0 ⟨by omega, by simp⟩ ?_ ?_
  · simp [go_sem, l8lAnn, l8lSt]
  · rintro i ⟨hi, hr⟩ ih
    simp (decide := true) only [l8lSt, go_sem, Nat.reduceAdd, Nat.reduceMul, Nat.reduceSub]
    refine Runs.split (fun h => ?_) (fun h => ?_)
    · have hlt : i < s.data.toList.length := by simp at h; omega
      have hg : s.data.toList.getD i 0 = s.data.toList[i] := getD_lt hlt
      have hb := UInt8.toNat_lt s.data.toList[i]
      rw [List.drop_eq_getElem_cons hlt, List.all_cons] at hr
      have next : okC s.data.toList[i] = true → (s.data.toList.drop (i + 1)).all okC = s.data.toList.all okC := fun h => by rw [← hr, h, Bool.true_and]
      have stop : okC s.data.toList[i] = false → labelB s = false := fun h => by rw [labelB, ← hr, h]; simp
      simp (decide := true) (disch := first | omega | (simp only [List.length_map, List.length_cons, List.length_append, List.length_nil]; omega)) only [hg, if_pos, go_sem, Nat.reduceAdd, Nat.reduceMul, Nat.reduceSub]
      refine Runs.call (l1In hm _ 97 122) ?_
      cases h1 : inB s.data.toList[i].toNat 97 122
      · simp (decide := true) only [go_sem, Nat.reduceAdd, Nat.reduceMul, Nat.reduceSub]
        refine Runs.call (l1In hm _ 48 57) ?_
        cases h2 : inB s.data.toList[i].toNat 48 57
        · simp (decide := true) only [go_sem, Nat.reduceAdd, Nat.reduceMul, Nat.reduceSub]
          cases h3 : decide ((s.data.toList[i].toNat : Int) = 45)
          · simp (decide := true) only [go_sem, Nat.reduceAdd, Nat.reduceMul, Nat.reduceSub]
            exact Runs.ret_eq (by rw [stop (by simp only [okC, digC, dashC, h1, h2, h3]; rfl)])
          · simp (decide := true) (disch := first | omega | (simp only [List.length_map, List.length_cons, List.length_append, List.length_nil]; omega)) only [if_pos, go_sem, Nat.reduceAdd, Nat.reduceMul, Nat.reduceSub]
            refine ih (i + 1) _ (by omega) ⟨by omega, next (by simp only [okC, digC, dashC, h1, h2, h3]; rfl)⟩ ?_
            simp [go_sem, l8lAnn, l8lSt]
        · simp (decide := true) (disch := first | omega | (simp only [List.length_map, List.length_cons, List.length_append, List.length_nil]; omega)) only [if_pos, go_sem, Nat.reduceAdd, Nat.reduceMul, Nat.reduceSub]
          refine ih (i + 1) _ (by omega) ⟨by omega, next (by simp only [okC, digC, dashC, h1, h2]; rfl)⟩ ?_
          simp [go_sem, l8lAnn, l8lSt]
      · simp (decide := true) (disch := first | omega | (simp only [List.length_map, List.length_cons, List.length_append, List.length_nil]; omega)) only [if_pos, go_sem, Nat.reduceAdd, Nat.reduceMul, Nat.reduceSub]
        refine ih (i + 1) _ (by omega) ⟨by omega, next (by simp only [okC, digC, dashC, h1]; rfl)⟩ ?_
        simp [go_sem, l8lAnn, l8lSt]
    · have hge : i = s.size := by simp at h; omega
      rw [List.drop_of_length_le (by omega), List.all_nil] at hr
      simp (decide := true) only [go_sem, Nat.reduceAdd, Nat.reduceMul, Nat.reduceSub]
      refine Runs.call (l1In hm _ 1 20) ?_
      cases h1 : inB s.size 1 20
      · simp (decide := true) only [go_sem, Nat.reduceAdd, Nat.reduceMul, Nat.reduceSub]
        exact Runs.ret_eq (by rw [labelB, h1]; simp)
      · have hp : 1 ≤ s.size := by simp [inB] at h1; omega
        have ht : ((s.size : Int) - 1).toNat = s.size - 1 := by omega
        have hb0 : decide ((0 : Int) ≤ 0 ∧ (0 : Int) < s.size) = true := by simp; omega
        have hb1 : decide (0 ≤ (s.size : Int) - 1 ∧ (s.size : Int) - 1 < s.size) = true := by simp; omega
        have t0 : Int.toNat 0 = 0 := rfl
        simp (decide := true) (disch := first | omega | (simp only [List.length_map, List.length_cons, List.length_append, List.length_nil]; omega)) only [hb0, t0, if_pos, go_sem, Nat.reduceAdd, Nat.reduceMul, Nat.reduceSub]
        cases h2 : dashC (s.data.toList.getD 0 0) <;> (unfold dashC at h2; simp (decide := true) (disch := first | omega | (simp only [List.length_map, List.length_cons, List.length_append, List.length_nil]; omega)) only [h2, ht, hb1, if_pos, go_sem, Nat.reduceAdd, Nat.reduceMul, Nat.reduceSub]; exact Runs.ret_eq (by simp only [labelB, dashC, ← hr, h1, h2, Bool.true_and, Bool.not_false, Bool.not_true, Bool.false_and]))
def shAnn : Ann := [(0, [0, 3, 4])]
def shSt (s : ByteArray) (i : Nat) : St := ⟨[.v (.string s), .any, .any, .ms (.l 0) 0 (partsB s).length (partsB s).length, .v (.int .i64 i), .any, .any, .any, .any, .any, .any, .any, .any, .any, .any, .any, .any, .any, .any, .any, .any, .any, .any, .any, .any, .any, .any, .any, .any, .any, .any, .any, .any, .any, .any], [(0, ⟨true, 1, false, (partsB s).map strA⟩)], []⟩
set_option maxRecDepth 10000 in
include hm in
theorem sHostOk (s : ByteArray) : Holds Tryz.prog 95 [.v (.string s)] [] (.v (.bool (hostB s))) [] := by
  refine holds_of (ann := shAnn) tabOk hm Tryz.func95 (by kernel_rfl) rfl ?_
  simp (decide := true) only [Tryz.f95, go_sem, Nat.reduceAdd, Nat.reduceMul, Nat.reduceSub]
  refine Runs.split (fun h => ?_) (fun h => ?_)
  · simp (decide := true) only [go_sem, Nat.reduceAdd, Nat.reduceMul, Nat.reduceSub]
    exact Runs.ret_eq (by simp at h; simp [hostB]; intros; omega)
  · have h80 : s.size ≤ 80 := by simp at h; omega
    simp (decide := true) only [go_sem, Nat.reduceAdd, Nat.reduceMul, Nat.reduceSub]
    refine Runs.call (l8Parts hm s (by omega)) ?_
    have hlen : ((partsB s).map strA).length = (partsB s).length := List.length_map _
    have hle := partsB_le s
    have hpos : 1 ≤ (partsB s).length := by rw [partsB_len]; omega
    simp (decide := true) (disch := first | omega | (simp only [List.length_map, List.length_cons, List.length_append, List.length_nil]; omega)) only [if_pos, go_sem, Nat.reduceAdd, Nat.reduceMul, Nat.reduceSub]
    refine Runs.while (α := Nat) (shSt s) (fun i => (partsB s).length - i) (fun i => i ≤ (partsB s).length ∧ ((partsB s).drop i).all labelB = (partsB s).all labelB) 0 ⟨by omega, by simp⟩ ?_ ?_
    · simp [go_sem, shAnn, shSt]
    · rintro i ⟨hi, hr⟩ ih
      simp (decide := true) only [shSt, hlen, go_sem, Nat.reduceAdd, Nat.reduceMul, Nat.reduceSub]
      refine Runs.split (fun h => ?_) (fun h => ?_)
      · have hlt : i < (partsB s).length := by simpa using h
        have hg : ((partsB s).map strA).getD i .any = strA (partsB s)[i] := by simp [List.getD, hlt]
        have hs := partsB_sz s (partsB s)[i] (List.getElem_mem hlt)
        rw [List.drop_eq_getElem_cons hlt, List.all_cons] at hr
        rw [strA] at hg
        simp (decide := true) (disch := first | omega | (simp only [List.length_map, List.length_cons, List.length_append, List.length_nil]; omega)) only [hlen, hg, if_pos, go_sem, Nat.reduceAdd, Nat.reduceMul, Nat.reduceSub]
        refine Runs.call (l8Label hm _ (by omega)) ?_
        cases h1 : labelB (partsB s)[i]
        · simp (decide := true) only [go_sem, Nat.reduceAdd, Nat.reduceMul, Nat.reduceSub]
          exact Runs.ret_eq (by rw [hostB, ← hr, h1]; simp)
        · rw [h1, Bool.true_and] at hr
          simp (decide := true) (disch := first | omega | (simp only [List.length_map, List.length_cons, List.length_append, List.length_nil]; omega)) only [if_pos, go_sem, Nat.reduceAdd, Nat.reduceMul, Nat.reduceSub]
          refine ih (i + 1) _ (by omega) ⟨by omega, hr⟩ ?_
          simp [go_sem, shAnn, shSt]
      · have hge : i = (partsB s).length := by simp at h; omega
        rw [hge, List.drop_of_length_le (Nat.le_refl _), List.all_nil] at hr
        simp (decide := true) only [go_sem, Nat.reduceAdd, Nat.reduceMul, Nat.reduceSub]
        refine Runs.split (fun h2 => ?_) (fun h2 => ?_)
        · have hlt : (partsB s).length - 1 < (partsB s).length := by omega
          have ht : (((partsB s).length : Int) - 1).toNat = (partsB s).length - 1 := by omega
          have hg : ((partsB s).map strA).getD ((partsB s).length - 1) .any = strA (lastB (partsB s)) := by simp [List.getD, hlt, lastB]
          rw [strA] at hg
          have hb1 : decide (0 ≤ ((partsB s).length : Int) - 1 ∧ ((partsB s).length : Int) - 1 < (partsB s).length) = true := by simp; omega
          have hmem : lastB (partsB s) ∈ partsB s := by
            rw [lastB, List.getD, List.getElem?_eq_getElem hlt]; exact List.getElem_mem hlt
          have hs := partsB_sz s _ hmem
          simp (decide := true) (disch := first | omega | (simp only [List.length_map, List.length_cons, List.length_append, List.length_nil]; omega)) only [hlen, ht, hg, hb1, if_pos, go_sem, Nat.reduceAdd, Nat.reduceMul, Nat.reduceSub]
          refine Runs.call (l8Digits hm _ (by omega)) ?_
          simp (decide := true) only [go_sem, Nat.reduceAdd, Nat.reduceMul, Nat.reduceSub]
          refine Runs.ret_eq ?_
          have hl := List.all_eq_true.mp hr.symm _ hmem
          have hp : 1 ≤ (lastB (partsB s)).size := by
            simp only [labelB, Bool.and_eq_true, inB, decide_eq_true_eq] at hl; omega
          have hp2 : decide (((lastB (partsB s)).size : Int) > 0) = true := by simp; omega
          have h80' : decide (s.size ≤ 80) = true := by simp; omega
          have h8 : decide ((partsB s).length ≤ 8) = true := by simp at h2; simp; omega
          simp only [hostB, digitsB, h80', ← hr, h8, hp2, Bool.true_and, Bool.and_true]
        · simp (decide := true) only [go_sem, Nat.reduceAdd, Nat.reduceMul, Nat.reduceSub]
          exact Runs.ret_eq (by simp at h2; simp [hostB]; intros; omega)
end Go.Proofs.W

namespace Go.Proofs.W
open Go Go.AM
set_option linter.unusedSimpArgs false
set_option linter.unusedVariables false
variable (hm : Tryz.prog.follows .mixedOrders = true)

theorem not_all_label (L : List ByteArray) : (L.any fun s => !labelB s) = !L.all labelB := by
  induction L with
  | nil => rfl
  | cons a l ih => rw [List.any_cons, List.all_cons, ih, Bool.not_and]
set_option maxRecDepth 10000 in
include hm in
theorem iHostOk (s : ByteArray) : Holds Tryz.prog 75 [.v (.string s)] [] (.v (.bool (hostB s))) [] := by
  refine holds_of (ann := []) tabOk hm Tryz.func75 (by kernel_rfl) rfl ?_
  simp (decide := true) only [Tryz.f75, go_sem, Nat.reduceAdd, Nat.reduceMul, Nat.reduceSub]
  refine Runs.split (fun h => ?_) (fun h => ?_)
  · simp (decide := true) only [go_sem, Nat.reduceAdd, Nat.reduceMul, Nat.reduceSub]
    exact Runs.ret_eq (by simp at h; simp [hostB]; intros; omega)
  · have h80 : s.size ≤ 80 := by simp at h; omega
    simp (decide := true) only [go_sem, Nat.reduceAdd, Nat.reduceMul, Nat.reduceSub]
    refine Runs.call (split1 hm s (by omega)) ?_
    have hlen : ((partsB s).map strA).length = (partsB s).length := List.length_map _
    have hle := partsB_le s
    have hpos : 1 ≤ (partsB s).length := by rw [partsB_len]; omega
    simp (decide := true) (disch := first | omega | (simp only [List.length_map, List.length_cons, List.length_append, List.length_nil]; omega)) only [hlen, if_pos, go_sem, Nat.reduceAdd, Nat.reduceMul, Nat.reduceSub]
    refine Runs.split (fun h2 => ?_) (fun h2 => ?_)
    · simp (decide := true) only [go_sem, Nat.reduceAdd, Nat.reduceMul, Nat.reduceSub]
      exact Runs.ret_eq (by simp at h2; simp [hostB]; intros; omega)
    · simp (decide := true) only [hlen, go_sem, Nat.reduceAdd, Nat.reduceMul, Nat.reduceSub]
      have c := contFunc0 hm 102 (partsB s) (fun s => !labelB s) (by omega) (fun p hp => notLabel hm p (by have := partsB_sz s p hp; omega))
      rw [not_all_label] at c
      refine Runs.call c ?_
      cases h3 : (partsB s).all labelB
      · simp (decide := true) only [go_sem, Nat.reduceAdd, Nat.reduceMul, Nat.reduceSub]
        exact Runs.ret_eq (by simp [hostB, h3])
      · have hlt : (partsB s).length - 1 < (partsB s).length := by omega
        have ht : (((partsB s).length : Int) - 1).toNat = (partsB s).length - 1 := by omega
        have hg : ((partsB s).map strA).getD ((partsB s).length - 1) .any = .v (.string (lastB (partsB s))) := by simp [List.getD, hlt, lastB, strA]
        have hb1 : decide (0 ≤ ((partsB s).length : Int) - 1 ∧ ((partsB s).length : Int) - 1 < (partsB s).length) = true := by simp; omega
        have hmem : lastB (partsB s) ∈ partsB s := by
          rw [lastB, List.getD, List.getElem?_eq_getElem hlt]; exact List.getElem_mem hlt
        have hs := partsB_sz s _ hmem
        simp (decide := true) (disch := first | omega | (simp only [List.length_map, List.length_cons, List.length_append, List.length_nil]; omega)) only [hlen, ht, hg, hb1, if_pos, go_sem, Nat.reduceAdd, Nat.reduceMul, Nat.reduceSub]
        have c2 := trim1 hm (lastB (partsB s)) (by omega)
        rw [digS] at c2
        refine Runs.call c2 ?_
        simp (decide := true) only [go_sem, Nat.reduceAdd, Nat.reduceMul, Nat.reduceSub]
        refine Runs.ret_eq ?_
        have h80' : decide (s.size ≤ 80) = true := by simp; omega
        have h8 : decide ((partsB s).length ≤ 8) = true := by simp at h2; simp; omega
        rw [trimD_nil]
        simp only [hostB, h80', h3, h8, Bool.true_and]
theorem suffix_eq (b s : ByteArray) : (decide ((((⟨#[46]⟩ : ByteArray) ++ b).size : Nat) ≤ s.size) && ((s.extract (s.size - ((⟨#[46]⟩ : ByteArray) ++ b).size) s.size).toList == ((⟨#[46]⟩ : ByteArray) ++ b).toList)) =
    (decide ((s.size : Int) - b.size > 0) && ((s.extract (s.size - b.size) s.size).toList == b.toList) && dotC (s.data.toList.getD (s.size - b.size - 1) 0)) := by
  have hz := list_size s
  have e1 : ((⟨#[46]⟩ : ByteArray) ++ b).size = b.size + 1 := by rw [ByteArray.size_append]; show 1 + b.size = _; omega
  have e2 : ((⟨#[46]⟩ : ByteArray) ++ b).data.toList = 46 :: b.data.toList := by rw [ByteArray.data_append, Array.toList_append]; rfl
  rw [e1]
  by_cases h : b.size < s.size
  · rw [decide_eq_true (show b.size + 1 ≤ s.size by omega), decide_eq_true (show (s.size : Int) - b.size > 0 by omega), Bool.true_and, Bool.true_and]
    simp only [Lib.toList_data, ext_list, e2]
    rw [List.take_of_length_le (by simp), List.take_of_length_le (by simp)]
    have hk : s.size - (b.size + 1) < s.data.toList.length := by omega
    rw [List.drop_eq_getElem_cons hk, show s.size - (b.size + 1) + 1 = s.size - b.size by omega, show s.size - b.size - 1 = s.size - (b.size + 1) by omega, getD_lt hk]
    rw [List.cons_beq_cons, Bool.and_comm]
    congr 1
    rw [dotC, Bool.eq_iff_iff, beq_iff_eq, decide_eq_true_iff]
    constructor
    · intro e; rw [e]; rfl
    · intro e; exact UInt8.toNat_inj.mp (Int.ofNat.inj e)
  · rw [decide_eq_false (show ¬ b.size + 1 ≤ s.size by omega), decide_eq_false (show ¬ (s.size : Int) - b.size > 0 by omega)]
    simp
end Go.Proofs.W

namespace Go.Proofs.W
open Go Go.AM
set_option linter.unusedSimpArgs false
set_option linter.unusedVariables false
variable (hm : Tryz.prog.follows .mixedOrders = true)

def starP : ByteArray := ⟨#[42, 46]⟩
def starB (s : ByteArray) : Bool := decide (s.size ≥ 2) && ((s.extract 0 2).toList == starP.toList)
def patB (s : ByteArray) : Bool := if starB s = true then hostB (s.extract 2 s.size) && decide ((partsB (s.extract 2 s.size)).length ≥ 2) else hostB s
theorem host_nil : hostB ⟨#[]⟩ = false := by
  have e : (partsB ⟨#[]⟩) = [mkS []] := rfl
  simp only [hostB, e, List.all_cons, labelB, mkS_size, inB]
  simp
theorem starP_size : starP.size = 2 := rfl
/-- Just the star and the dot: no host either way. -/
theorem host_star2 {s : ByteArray} (h : s.size = 2) (h2 : starB s = true) : hostB s = false := by
  have hz := list_size s
  have e : s.extract 0 2 = s := by
    rw [mkS_ext]
    conv => rhs; rw [← mkS_list s]
    rw [List.drop_zero, List.take_of_length_le (by omega)]
  simp only [starB, e, Bool.and_eq_true, beq_iff_eq, Lib.toList_data] at h2
  have e3 : s = starP := by rw [← mkS_list s, h2.2]; rfl
  rw [e3]
  have e4 : partsB starP = [mkS [42], mkS []] := rfl
  simp only [hostB, e4, List.all_cons, labelB, mkS_size, inB]
  simp
set_option maxRecDepth 10000 in
include hm in
theorem l8Star (s : ByteArray) (h : s.size ≤ 1048576) : Holds Tryz.prog 123 [.v (.string s)] [] (.v (.bool (decide (s.size > 2) && starB s))) [] := by
  refine holds_of (ann := []) tabOk hm Tryz.func123 (by kernel_rfl) rfl ?_
  simp (decide := true) only [Tryz.f123, go_sem, Nat.reduceAdd, Nat.reduceMul, Nat.reduceSub]
  cases h2 : decide ((s.size : Int) > 2)
  · have e : decide (s.size > 2) = false := by simp at h2; simp; omega
    simp (decide := true) only [e, Bool.false_and, go_sem, Nat.reduceAdd, Nat.reduceMul, Nat.reduceSub]
    exact Runs.ret_v
  · have e : decide (s.size > 2) = true := by simp at h2; simp; omega
    have e2 : decide (s.size ≥ 2) = true := by simp at h2; simp; omega
    have b1 : decide ((0 : Int) ≤ 0 ∧ (0 : Int) ≤ 2 ∧ (2 : Int) ≤ s.size) = true := by simp at h2; simp; omega
    have b2 : decide ((0 : Int) ≤ 2 ∧ (2 : Int) ≤ s.size) = true := by simp at h2; simp; omega
    have b3 : decide ((2 : Int) ≤ s.size) = true := by simp at h2; simp; omega
    have t0 : Int.toNat 0 = 0 := rfl
    have t2 : Int.toNat 2 = 2 := rfl
    simp (decide := true) (disch := first | omega | (simp only [List.length_map, List.length_cons, List.length_append, List.length_nil]; omega)) only [e, b1, b2, b3, t0, t2, if_pos, go_sem, Nat.reduceAdd, Nat.reduceMul, Nat.reduceSub]
    exact Runs.ret_eq (by simp only [starB, e2, Bool.true_and, starP])
set_option maxRecDepth 10000 in
include hm in
theorem sPatOk (s : ByteArray) (h : s.size ≤ 1048576) : Holds Tryz.prog 94 [.v (.string s)] [] (.v (.bool (patB s))) [] := by
  refine holds_of (ann := []) tabOk hm Tryz.func94 (by kernel_rfl) rfl ?_
  simp (decide := true) only [Tryz.f94, go_sem, Nat.reduceAdd, Nat.reduceMul, Nat.reduceSub]
  refine Runs.call (l8Star hm s h) ?_
  cases h2 : decide (s.size > 2) && starB s
  · simp (decide := true) only [go_sem, Nat.reduceAdd, Nat.reduceMul, Nat.reduceSub]
    refine Runs.call (sHostOk hm s) ?_
    simp (decide := true) only [go_sem, Nat.reduceAdd, Nat.reduceMul, Nat.reduceSub]
    refine Runs.ret_eq ?_
    rw [patB]
    cases h3 : starB s
    · rfl
    · have hs : s.size = 2 := by
        rw [h3, Bool.and_true] at h2
        simp at h2
        simp only [starB, Bool.and_eq_true, decide_eq_true_eq] at h3
        omega
      rw [host_star2 hs h3]
      have e : s.extract 2 s.size = ⟨#[]⟩ := by rw [mkS_ext, hs]; simp [mkS]
      rw [e, host_nil]; rfl
  · rw [Bool.and_eq_true] at h2
    have h3 := h2.1
    have hs : 2 < s.size := by simpa using h3
    have b1 : decide ((0 : Int) ≤ 2 ∧ (2 : Int) ≤ s.size ∧ (s.size : Int) ≤ s.size) = true := by simp; omega
    have b2 : decide ((2 : Int) ≤ s.size ∧ (s.size : Int) ≤ s.size) = true := by simp; omega
    have t2 : Int.toNat 2 = 2 := rfl
    simp (decide := true) (disch := first | omega | (simp only [List.length_map, List.length_cons, List.length_append, List.length_nil]; omega)) only [b1, b2, t2, if_pos, go_sem, Nat.reduceAdd, Nat.reduceMul, Nat.reduceSub]
    refine Runs.call (sHostOk hm _) ?_
    cases h4 : hostB (s.extract 2 s.size)
    · simp (decide := true) only [go_sem, Nat.reduceAdd, Nat.reduceMul, Nat.reduceSub]
      exact Runs.ret_eq (by rw [patB, h2.2, h4]; simp)
    · have hsz : (s.extract 2 s.size).size ≤ 1048576 := by rw [mkS_ext, mkS_size]; simp; have := list_size s; omega
      have hl : ((partsB (s.extract 2 s.size)).map strA).length = (partsB (s.extract 2 s.size)).length := List.length_map _
      simp (decide := true) (disch := first | omega | (simp only [List.length_map, List.length_cons, List.length_append, List.length_nil]; omega)) only [b1, b2, t2, if_pos, go_sem, Nat.reduceAdd, Nat.reduceMul, Nat.reduceSub]
      refine Runs.call (l8Parts hm _ hsz) ?_
      simp (decide := true) (disch := first | omega | (simp only [List.length_map, List.length_cons, List.length_append, List.length_nil]; omega)) only [hl, if_pos, go_sem, Nat.reduceAdd, Nat.reduceMul, Nat.reduceSub]
      refine Runs.ret_eq ?_
      have e9 : decide (((partsB (s.extract 2 s.size)).length : Int) ≥ 2) = decide ((partsB (s.extract 2 s.size)).length ≥ 2) := by rw [decide_eq_decide]; omega
      rw [patB, h2.2, h4, if_pos rfl, Bool.true_and, e9]
set_option maxRecDepth 10000 in
include hm in
theorem cutStar (s : ByteArray) (h : s.size ≤ 1048576) : Holds Tryz.prog 99 [.v (.string s), .v (.string starP)] [] (.tup [.v (.string (if starB s = true then s.extract 2 s.size else s)), .v (.bool (starB s))]) [] := by
  have hs2 : ((starP.size : Nat) : Int) = 2 := rfl
  have t0 : Int.toNat 0 = 0 := rfl
  have t2 : Int.toNat 2 = 2 := rfl
  have c1 : Holds Tryz.prog 152 [.v (.string s), .v (.string starP)] [] (.v (.bool (starB s))) [] := by
    refine holds_of (ann := []) tabOk hm Tryz.func152 (by kernel_rfl) rfl ?_
    simp (decide := true) only [Tryz.f152, hs2, go_sem, Nat.reduceAdd, Nat.reduceMul, Nat.reduceSub]
    cases h2 : decide ((s.size : Int) ≥ 2)
    · have e2 : decide (s.size ≥ 2) = false := by simp at h2; simp; omega
      simp (decide := true) only [go_sem, Nat.reduceAdd, Nat.reduceMul, Nat.reduceSub]
      exact Runs.ret_eq (by rw [starB, e2, Bool.false_and])
    · have e2 : decide (s.size ≥ 2) = true := by simp at h2; simp; omega
      have b1 : decide ((0 : Int) ≤ 0 ∧ (0 : Int) ≤ 2 ∧ (2 : Int) ≤ s.size) = true := by simp at h2; simp; omega
      have b3 : decide ((2 : Int) ≤ s.size) = true := by simp at h2; simp; omega
      simp (decide := true) (disch := first | omega | (simp only [List.length_map, List.length_cons, List.length_append, List.length_nil]; omega)) only [hs2, b1, b3, t0, t2, if_pos, go_sem, Nat.reduceAdd, Nat.reduceMul, Nat.reduceSub]
      exact Runs.ret_eq (by rw [starB, e2, Bool.true_and])
  have c2 : Holds Tryz.prog 128 [.v (.string s), .v (.string starP)] [] (.tup [.v (.string (if starB s = true then s.extract 2 s.size else s)), .v (.bool (starB s))]) [] := by
    refine holds_of (ann := []) tabOk hm Tryz.func128 (by kernel_rfl) rfl ?_
    simp (decide := true) only [Tryz.f128, go_sem, Nat.reduceAdd, Nat.reduceMul, Nat.reduceSub]
    refine Runs.call c1 ?_
    cases h2 : starB s
    · simp (decide := true) only [go_sem, Nat.reduceAdd, Nat.reduceMul, Nat.reduceSub]
      exact Runs.ret_refl
    · have hsz : 2 ≤ s.size := by simp only [starB, Bool.and_eq_true, decide_eq_true_eq] at h2; omega
      have b1 : decide ((0 : Int) ≤ 2 ∧ (2 : Int) ≤ s.size ∧ (s.size : Int) ≤ s.size) = true := by simp; omega
      have b2 : decide ((2 : Int) ≤ s.size ∧ (s.size : Int) ≤ s.size) = true := by simp; omega
      simp (decide := true) (disch := first | omega | (simp only [List.length_map, List.length_cons, List.length_append, List.length_nil]; omega)) only [hs2, b1, b2, t2, if_pos, go_sem, Nat.reduceAdd, Nat.reduceMul, Nat.reduceSub]
      exact Runs.ret_refl
  refine holds_of (ann := []) tabOk hm Tryz.func99 (by kernel_rfl) rfl ?_
  simp (decide := true) only [Tryz.f99, go_sem, Nat.reduceAdd, Nat.reduceMul, Nat.reduceSub]
  refine Runs.call c2 ?_
  simp (decide := true) only [go_sem, Nat.reduceAdd, Nat.reduceMul, Nat.reduceSub]
  exact Runs.ret_refl
set_option maxRecDepth 10000 in
include hm in
theorem hasDot (s : ByteArray) : Holds Tryz.prog 100 [.v (.string s), .v (.string ⟨#[46]⟩)] [] (.v (.bool (decide ((partsB s).length ≥ 2)))) [] := by
  refine holds_of (ann := []) tabOk hm Tryz.func100 (by kernel_rfl) rfl ?_
  simp (decide := true) only [Tryz.f100, go_sem, Nat.reduceAdd, Nat.reduceMul, Nat.reduceSub]
  refine Runs.call (sindex1 hm s) ?_
  simp (decide := true) only [go_sem, Nat.reduceAdd, Nat.reduceMul, Nat.reduceSub]
  refine Runs.ret_eq ?_
  congr 2
  rw [decide_eq_decide, partsB_len]
  rcases indexByte_lt s.data.toList 46 with h | ⟨m, h, hl⟩
  · have := List.count_eq_zero.mpr (fun hc => idx_none h 46 hc rfl)
    rw [h, this]; omega
  · obtain ⟨p, r, e1, e2, e3⟩ := idx_some h
    rw [h, e1, count_cut e3]; omega
set_option maxRecDepth 10000 in
include hm in
theorem iPatOk (s : ByteArray) (h : s.size ≤ 1048576) : Holds Tryz.prog 74 [.v (.string s)] [] (.v (.bool (patB s))) [] := by
  refine holds_of (ann := []) tabOk hm Tryz.func74 (by kernel_rfl) rfl ?_
  simp (decide := true) only [Tryz.f74, go_sem, Nat.reduceAdd, Nat.reduceMul, Nat.reduceSub]
  have c := cutStar hm s h
  rw [starP] at c
  refine Runs.call c ?_
  cases h2 : starB s
  · simp (decide := true) only [go_sem, Nat.reduceAdd, Nat.reduceMul, Nat.reduceSub]
    refine Runs.call (iHostOk hm s) ?_
    cases h3 : hostB s
    · simp (decide := true) only [go_sem, Nat.reduceAdd, Nat.reduceMul, Nat.reduceSub]
      exact Runs.ret_eq (by simp [patB, h2, h3])
    · simp (decide := true) only [go_sem, Nat.reduceAdd, Nat.reduceMul, Nat.reduceSub]
      exact Runs.ret_eq (by simp [patB, h2, h3])
  · simp (decide := true) only [go_sem, Nat.reduceAdd, Nat.reduceMul, Nat.reduceSub]
    refine Runs.call (iHostOk hm _) ?_
    cases h3 : hostB (s.extract 2 s.size)
    · simp (decide := true) only [go_sem, Nat.reduceAdd, Nat.reduceMul, Nat.reduceSub]
      exact Runs.ret_eq (by simp [patB, h2, h3])
    · simp (decide := true) only [go_sem, Nat.reduceAdd, Nat.reduceMul, Nat.reduceSub]
      refine Runs.call (hasDot hm _) ?_
      simp (decide := true) only [go_sem, Nat.reduceAdd, Nat.reduceMul, Nat.reduceSub]
      exact Runs.ret_eq (by simp [patB, h2, h3])
end Go.Proofs.W

namespace Go.Proofs.W
open Go Go.AM
set_option linter.unusedSimpArgs false
set_option linter.unusedVariables false
variable (hm : Tryz.prog.follows .mixedOrders = true)

def rowS (l : List Int) : A := .sl .sh (l.map intA)
def rowO (l : List Int) : A := .sl (.ow 1) (l.map intA)
theorem rowS_plain (ne : List (List Int)) : plainL (ne.map rowS) = true := by
  induction ne with
  | nil => simp [plainL]
  | cons a l ih => simp [plainL, rowS, A.plain, ih, Sh.own, pl_intA]
theorem rowS_dn (ne : List (List Int)) : dnL (ne.map rowS) = ne.map rowS := by
  induction ne with
  | nil => simp [dnL]
  | cons a l ih => simp [dnL, rowS, A.dn, ih, dn_intA]
theorem rowO_dn (ne : List (List Int)) : dnL (ne.map rowO) = ne.map rowS := by
  induction ne with
  | nil => simp [dnL]
  | cons a l ih => simp [dnL, rowO, rowS, A.dn, ih, dn_intA]
attribute [local go_sem] rowS_plain rowS_dn rowO_dn
def szII : List (List Int) → Int → Int
  | [], l => l
  | r :: R, l => if szI r.length l < 0 then -1 else szII R (szI r.length l)
def szSS (L : List (List Int)) (left : Int) : Int := if left - L.length < 0 then -1 else szII L (left - L.length)
theorem szII_le (L : List (List Int)) (l : Int) (h : 0 ≤ l) : szII L l ≤ l ∧ -1 ≤ szII L l ∧ (0 ≤ szII L l → ∀ r ∈ L, r.length ≤ l) := by
  induction L generalizing l with
  | nil => simp [szII]; omega
  | cons r R ih =>
    simp only [szII]
    have hs := szI_le r.length l h
    split
    · exact ⟨by omega, by omega, fun h => by omega⟩
    · have := ih (szI r.length l) (by omega)
      refine ⟨by omega, by omega, fun h2 x hx => ?_⟩
      rcases List.mem_cons.mp hx with h3 | h3
      · subst h3; unfold szI at *; split at * <;> omega
      · have := this.2.2 h2 x h3; omega
theorem szSS_le (L : List (List Int)) (l : Int) (h : 0 ≤ l) : szSS L l ≤ l ∧ -1 ≤ szSS L l ∧ (0 ≤ szSS L l → L.length ≤ l ∧ ∀ r ∈ L, r.length ≤ l) := by
  unfold szSS
  split
  · exact ⟨by omega, by omega, fun h => by omega⟩
  · have := szII_le L (l - L.length) (by omega)
    exact ⟨by omega, by omega, fun h2 => ⟨by omega, fun r hr => by have := this.2.2 h2 r hr; omega⟩⟩
def ssAnn : Ann := [(0, [0, 1, 5])]
def ssSt (L : List (List Int)) (p : Nat × Int) : St := ⟨[.sl .sh (L.map rowS), .v (.int .i64 p.2), .any, .any, .any, .v (.int .i64 p.1), .any, .any, .any, .any, .any, .any, .any, .any, .any, .any, .any, .any, .any, .any, .any, .any, .any, .any, .any, .any, .any], [], []⟩
set_option maxRecDepth 10000 in
include hm in
theorem szIntSS (L : List (List Int)) (left : Int) (h1 : 0 ≤ left) (h2 : left ≤ 1048576) (h3 : L.length ≤ 9223372036854775807) (h4 : ∀ s ∈ L, s.length ≤ 9223372036854775807) :
    Holds Tryz.prog 37 [.sl .sh (L.map rowS), .v (.int .i64 left)] [] (.v (.int .i64 (szSS L left))) [] := by
  refine holds_of (ann := ssAnn) tabOk hm Tryz.func37 (by kernel_rfl) rfl ?_
  simp (decide := true) (disch := first | omega | (simp only [List.length_map, List.length_cons, List.length_append, List.length_nil]; omega)) only [Tryz.f37, if_pos, go_sem, Nat.reduceAdd, Nat.reduceMul, Nat.reduceSub]
  refine Runs.split (fun h => ?_) (fun h => ?_)
  · simp only [decide_eq_true_eq] at h
    simp (decide := true) only [szSS, if_pos h, go_sem, Nat.reduceAdd, Nat.reduceMul, Nat.reduceSub]
    exact Runs.ret_v
  · simp only [decide_eq_false_iff_not] at h
    simp (decide := true) only [go_sem, Nat.reduceAdd, Nat.reduceMul, Nat.reduceSub]
    refine Runs.while (α := Nat × Int) (ssSt L) (fun p => L.length - p.1) (fun p => p.1 ≤ L.length ∧ 0 ≤ p.2 ∧ p.2 ≤ 1048576 ∧ szII (L.drop p.1) p.2 = szSS L left) (0, left - L.length) ⟨by simp, by simp; omega, by simp; omega, by simp [szSS, h]⟩ ?_ ?_
    · simp [go_sem, ssAnn, ssSt]
    · rintro ⟨i, l⟩ ⟨hi, hl1, hl2, hr⟩ ih
      simp only at hi hl1 hl2 hr
      simp (decide := true) only [ssSt, go_sem, Nat.reduceAdd, Nat.reduceMul, Nat.reduceSub]
      refine Runs.split (fun h => ?_) (fun h => ?_)
      · have hlt : i < L.length := by simpa using h
        have hsz := h4 L[i] (List.getElem_mem hlt)
        have hg : (L.map rowS).getD i .any = .sl .sh (L[i].map intA) := by simp [List.getD, hlt, rowS]
        rw [List.drop_eq_getElem_cons hlt] at hr
        simp only [szII] at hr
        have hb := szI_le L[i].length l hl1
        simp (decide := true) (disch := first | omega | (simp only [List.length_map, List.length_cons, List.length_append, List.length_nil]; omega)) only [hg, if_pos, go_sem, Nat.reduceAdd, Nat.reduceMul, Nat.reduceSub]
        refine Runs.call (szIntS hm (L[i].map intA) l hl1 hl2 (by simpa using hsz)) ?_
        simp (decide := true) only [List.length_map, go_sem, Nat.reduceAdd, Nat.reduceMul, Nat.reduceSub]
        refine Runs.split (fun h => ?_) (fun h => ?_)
        · simp only [decide_eq_true_eq] at h
          rw [if_pos h] at hr
          simp (decide := true) only [← hr, go_sem, Nat.reduceAdd, Nat.reduceMul, Nat.reduceSub]
          exact Runs.ret_v
        · simp only [decide_eq_false_iff_not] at h
          rw [if_neg h] at hr
          simp (decide := true) (disch := first | omega | (simp only [List.length_map, List.length_cons, List.length_append, List.length_nil]; omega)) only [if_pos, go_sem, Nat.reduceAdd, Nat.reduceMul, Nat.reduceSub]
          refine ih (i + 1, szI L[i].length l) _ (by simp only; omega) ⟨hlt, by simp only; omega, by simp only; omega, hr⟩ ?_
          simp [go_sem, ssAnn, ssSt]
      · have hge : i = L.length := by simp at h; omega
        subst hge
        simp only [List.drop_length, szII] at hr
        simp (decide := true) only [← hr, go_sem, Nat.reduceAdd, Nat.reduceMul, Nat.reduceSub]
        exact Runs.ret_v
def tssSt (L : List (List Int)) (i : Nat) : St := ⟨[.sl .sh (L.map rowS), .any, .any, .ms (.l 0) 0 L.length L.length, .v (.int .i64 i), .any, .any, .any, .any, .any, .any, .any, .any, .any, .any, .any, .any, .any, .any, .any, .any, .any, .any], [(0, ⟨true, 1, false, fillS rowO L (.v (.slice none 0 0)) i⟩)], []⟩
set_option maxRecDepth 10000 in
include hm in
theorem toIntSS (L : List (List Int)) (h3 : L.length ≤ 1048576) (h4 : ∀ s ∈ L, s.length ≤ 1048576) : Holds Tryz.prog 48 [.sl .sh (L.map rowS)] [] (.sl (.ow 1) (L.map rowO)) [] := by
  refine holds_of (ann := toAnn) tabOk hm Tryz.func48 (by kernel_rfl) rfl ?_
  simp (decide := true) (disch := first | omega | (simp only [List.length_map, List.length_cons, List.length_append, List.length_nil]; omega)) only [Tryz.f48, if_pos, go_sem, Nat.reduceAdd, Nat.reduceMul, Nat.reduceSub]
  refine Runs.while (α := Nat) (tssSt L) (fun i => L.length - i) (fun i => i ≤ L.length) 0 (by omega) ?_ ?_
  · simp [go_sem, toAnn, tssSt, fillS_zero]
  · intro i hi ih
    have hlen := fillS_length rowO L (.v (.slice none 0 0)) i hi
    simp (decide := true) only [tssSt, hlen, go_sem, Nat.reduceAdd, Nat.reduceMul, Nat.reduceSub]
    refine Runs.split (fun h => ?_) (fun h => ?_)
    · have hlt : i < L.length := by simpa using h
      have hg := fillS_get rowO L (.v (.slice none 0 0)) i hlt
      have hg2 : (L.map rowS).getD i .any = .sl .sh (L[i].map intA) := by simp [List.getD, hlt, rowS]
      have hs : (fillS rowO L (.v (.slice none 0 0)) i).set i (rowO L[i]) = _ := fillS_set rowO L (.v (.slice none 0 0)) i hlt
      simp only [rowO] at hs
      simp (decide := true) (disch := first | omega | (simp only [List.length_map, List.length_cons, List.length_append, List.length_nil]; omega)) only [hlen, hg, hg2, if_pos, go_sem, Nat.reduceAdd, Nat.reduceMul, Nat.reduceSub]
      refine Runs.call (toIntS hm L[i] (h4 _ (List.getElem_mem hlt))) ?_
      simp (decide := true) (disch := first | omega | (simp only [List.length_map, List.length_cons, List.length_append, List.length_nil]; omega)) only [hlen, hg, hs, Nat.mul_one, Nat.zero_add, Nat.add_zero, if_pos, go_sem, Nat.reduceAdd, Nat.reduceMul, Nat.reduceSub]
      refine ih (i + 1) _ (by omega) hlt ?_
      simp [go_sem, toAnn, tssSt]
    · have hge : i = L.length := by simp at h; omega
      subst hge
      simp (decide := true) only [hlen, fillS_all, go_sem, Nat.reduceAdd, Nat.reduceMul, Nat.reduceSub]
      exact Runs.ret_refl
def esS : Sched := .take 0 (.take 1 (.take 2 (.take 4 (.take 5 (.take 6 (.alt 3 (.alt 7 (.alt 8 (.take 9 .fin) .nil) .nil) (.alt 7 (.alt 3 (.alt 8 (.take 9 .fin) .nil) .nil) .nil)))))))
attribute [local go_sem] esS
def essSt (L : List (List Int)) (i : Nat) : St := ⟨[.sl .sh (L.map rowS), .sl .sh (L.map rowS), .any, .any, .any, .v (.int .i64 i), .any, .any, .any, .any, .any, .any, .any, .any, .any, .any, .any, .any, .any, .any, .any, .any, .any, .any, .any, .any, .any], [], []⟩
set_option maxRecDepth 10000 in
include hm in
theorem eqIntSS (L : List (List Int)) (h3 : L.length ≤ 1048576) (h4 : ∀ s ∈ L, s.length ≤ 1048576) : Holds Tryz.prog 61 [.sl .sh (L.map rowS), .sl .sh (L.map rowS)] [] (.v (.bool true)) [] := by
  refine holds_of (ann := eqAnn) tabOk hm Tryz.func61 (by kernel_rfl) rfl ?_
  simp (decide := true) only [Tryz.f61, go_sem, Nat.reduceAdd, Nat.reduceMul, Nat.reduceSub]
  refine Runs.while (α := Nat) (essSt L) (fun i => L.length - i) (fun i => i ≤ L.length) 0 (by omega) ?_ ?_
  · simp [go_sem, eqAnn, essSt]
  · intro i hi ih
    simp (decide := true) only [essSt, go_sem, Nat.reduceAdd, Nat.reduceMul, Nat.reduceSub]
    refine Runs.split (fun h => ?_) (fun h => ?_)
    · have hlt : i < L.length := by simpa using h
      have hsz := h4 _ (List.getElem_mem hlt)
      have hg : (L.map rowS).getD i .any = .sl .sh (L[i].map intA) := by simp [List.getD, hlt, rowS]
      simp (decide := true) only [go_sem, Nat.reduceAdd, Nat.reduceMul, Nat.reduceSub]
      refine Runs.draw (st1 := ?s1) (draws_by (ann := []) tabOk esS (by kernel_rfl) ?p1) ?q1
      case p1 =>
        intro K r X hK
        simp (decide := true) (disch := first | omega | (simp only [List.length_map, List.length_cons, List.length_append, List.length_nil]; omega)) only [hg, if_pos, go_sem, Nat.reduceAdd, Nat.reduceMul, Nat.reduceSub]
        repeat' apply And.intro
        all_goals
          refine Runs.call (eqIntS hm L[i] (by omega)) ?_
          simp (decide := true) only [go_sem, Nat.reduceAdd, Nat.reduceMul, Nat.reduceSub]
          exact hK
      case q1 =>
        simp (decide := true) (disch := first | omega | (simp only [List.length_map, List.length_cons, List.length_append, List.length_nil]; omega)) only [if_pos, go_sem, Nat.reduceAdd, Nat.reduceMul, Nat.reduceSub]
        refine ih (i + 1) _ (by omega) hlt ?_
        simp [go_sem, eqAnn, essSt]
    · simp (decide := true) only [go_sem, Nat.reduceAdd, Nat.reduceMul, Nat.reduceSub]
      exact Runs.ret_v
def exS (ca : Bool) (path usage : Int) (ho : List ByteArray) (ne : List (List Int)) (al de : List ByteArray) (pu : List Int) : A :=
  .agg [.v (.bool ca), .v (.int .i64 path), .v (.int .i64 usage), .sl .sh (ho.map strA), .sl .sh (ne.map rowS), .sl .sh (al.map strA), .sl .sh (de.map strA), .sl .sh (pu.map intA)]
def exO (ca : Bool) (path usage : Int) (ho : List ByteArray) (ne : List (List Int)) (al de : List ByteArray) (pu : List Int) : A :=
  .agg [.v (.bool ca), .v (.int .i64 path), .v (.int .i64 usage), .sl (.ow 1) (ho.map strA), .sl (.ow 1) (ne.map rowO), .sl (.ow 1) (al.map strA), .sl (.ow 1) (de.map strA), .sl (.ow 1) (pu.map intA)]
attribute [local go_sem] exS exO
def szExV (ho : List ByteArray) (ne : List (List Int)) (al de : List ByteArray) (pu : List Int) (left : Int) : Int :=
  if szS ho left < 0 then -1 else if szSS ne (szS ho left) < 0 then -1 else if szS al (szSS ne (szS ho left)) < 0 then -1 else
  if szS de (szS al (szSS ne (szS ho left))) < 0 then -1 else if szI pu.length (szS de (szS al (szSS ne (szS ho left)))) < 0 then -1 else szI pu.length (szS de (szS al (szSS ne (szS ho left))))
/-- The bounds that the law's guard tells of the lists. -/
def ExFit (ho : List ByteArray) (ne : List (List Int)) (al de : List ByteArray) (pu : List Int) : Prop :=
  ho.length ≤ 1048576 ∧ ne.length ≤ 1048576 ∧ (∀ r ∈ ne, r.length ≤ 1048576) ∧ al.length ≤ 1048576 ∧ de.length ≤ 1048576 ∧ pu.length ≤ 1048576
theorem szExV_le (ho : List ByteArray) (ne : List (List Int)) (al de : List ByteArray) (pu : List Int) (left : Int) (h : 0 ≤ left) (h2 : left ≤ 1048576) :
    szExV ho ne al de pu left ≤ left ∧ -1 ≤ szExV ho ne al de pu left ∧ (¬ szExV ho ne al de pu left < 0 → ExFit ho ne al de pu) := by
  have b1 := szS_le ho left h
  unfold szExV
  split
  · exact ⟨by omega, by omega, fun h => by omega⟩
  · rename_i e1
    have k1 := szS_len ho _ e1 (by omega)
    have b2 := szSS_le ne (szS ho left) (by omega)
    split
    · exact ⟨by omega, by omega, fun h => by omega⟩
    · rename_i e2
      have k2 := b2.2.2 (by omega)
      have b3 := szS_le al (szSS ne (szS ho left)) (by omega)
      split
      · exact ⟨by omega, by omega, fun h => by omega⟩
      · rename_i e3
        have k3 := szS_len al _ e3 (by omega)
        have b4 := szS_le de (szS al (szSS ne (szS ho left))) (by omega)
        split
        · exact ⟨by omega, by omega, fun h => by omega⟩
        · rename_i e4
          have k4 := szS_len de _ e4 (by omega)
          have b5 := szI_le pu.length (szS de (szS al (szSS ne (szS ho left)))) (by omega)
          split
          · exact ⟨by omega, by omega, fun h => by omega⟩
          · rename_i e5
            have k5 := szI_len pu.length _ e5 (by omega)
            exact ⟨by omega, by omega, fun _ => ⟨k1, by omega, fun r hr => by have := k2.2 r hr; omega, k3, k4, k5⟩⟩
set_option maxRecDepth 10000 in
include hm in
theorem szExts (ca : Bool) (path usage : Int) (ho : List ByteArray) (ne : List (List Int)) (al de : List ByteArray) (pu : List Int) (left : Int) (l1 : 0 ≤ left) (l2 : left ≤ 1048576)
    (h1 : ho.length ≤ 9223372036854775807) (h2 : ∀ s ∈ ho, s.size ≤ 9223372036854775807) (h3 : ne.length ≤ 9223372036854775807) (h4 : ∀ s ∈ ne, s.length ≤ 9223372036854775807)
    (h5 : al.length ≤ 9223372036854775807) (h6 : ∀ s ∈ al, s.size ≤ 9223372036854775807) (h7 : de.length ≤ 9223372036854775807) (h8 : ∀ s ∈ de, s.size ≤ 9223372036854775807) (h9 : pu.length ≤ 9223372036854775807) :
    Holds Tryz.prog 18 [exS ca path usage ho ne al de pu, .v (.int .i64 left)] [] (.v (.int .i64 (szExV ho ne al de pu left))) [] := by
  have b1 := szS_le ho left l1
  refine holds_ref (ann := []) tabOk hm (byL [] [1000002]) Tryz.func18 (by kernel_rfl) rfl ?_
  simp (decide := true) only [Tryz.f18, go_sem, Nat.reduceAdd, Nat.reduceMul, Nat.reduceSub]
  refine Runs.call (szStringS hm ho left l1 l2 h1 h2) ?_
  simp (decide := true) only [go_sem, Nat.reduceAdd, Nat.reduceMul, Nat.reduceSub]
  refine Runs.split (fun e => ?_) (fun e => ?_)
  · simp only [decide_eq_true_eq] at e
    simp (decide := true) only [szExV, if_pos e, go_sem, Nat.reduceAdd, Nat.reduceMul, Nat.reduceSub]
    exact Runs.ret_v
  simp only [decide_eq_false_iff_not] at e
  have b2 := szSS_le ne (szS ho left) (by omega)
  simp (decide := true) only [go_sem, Nat.reduceAdd, Nat.reduceMul, Nat.reduceSub]
  refine Runs.call (szIntSS hm ne _ (by omega) (by omega) h3 h4) ?_
  simp (decide := true) only [go_sem, Nat.reduceAdd, Nat.reduceMul, Nat.reduceSub]
  refine Runs.split (fun e2 => ?_) (fun e2 => ?_)
  · simp only [decide_eq_true_eq] at e2
    simp (decide := true) only [szExV, if_neg e, if_pos e2, go_sem, Nat.reduceAdd, Nat.reduceMul, Nat.reduceSub]
    exact Runs.ret_v
  simp only [decide_eq_false_iff_not] at e2
  have b3 := szS_le al (szSS ne (szS ho left)) (by omega)
  simp (decide := true) only [go_sem, Nat.reduceAdd, Nat.reduceMul, Nat.reduceSub]
  refine Runs.call (szStringS hm al _ (by omega) (by omega) h5 h6) ?_
  simp (decide := true) only [go_sem, Nat.reduceAdd, Nat.reduceMul, Nat.reduceSub]
  refine Runs.split (fun e3 => ?_) (fun e3 => ?_)
  · simp only [decide_eq_true_eq] at e3
    simp (decide := true) only [szExV, if_neg e, if_neg e2, if_pos e3, go_sem, Nat.reduceAdd, Nat.reduceMul, Nat.reduceSub]
    exact Runs.ret_v
  simp only [decide_eq_false_iff_not] at e3
  have b4 := szS_le de (szS al (szSS ne (szS ho left))) (by omega)
  simp (decide := true) only [go_sem, Nat.reduceAdd, Nat.reduceMul, Nat.reduceSub]
  refine Runs.call (szStringS hm de _ (by omega) (by omega) h7 h8) ?_
  simp (decide := true) only [go_sem, Nat.reduceAdd, Nat.reduceMul, Nat.reduceSub]
  refine Runs.split (fun e4 => ?_) (fun e4 => ?_)
  · simp only [decide_eq_true_eq] at e4
    simp (decide := true) only [szExV, if_neg e, if_neg e2, if_neg e3, if_pos e4, go_sem, Nat.reduceAdd, Nat.reduceMul, Nat.reduceSub]
    exact Runs.ret_v
  simp only [decide_eq_false_iff_not] at e4
  simp (decide := true) only [go_sem, Nat.reduceAdd, Nat.reduceMul, Nat.reduceSub]
  refine Runs.call (szIntS hm (pu.map intA) _ (by omega) (by omega) (by simpa using h9)) ?_
  simp (decide := true) only [List.length_map, go_sem, Nat.reduceAdd, Nat.reduceMul, Nat.reduceSub]
  refine Runs.split (fun e5 => ?_) (fun e5 => ?_)
  · simp only [decide_eq_true_eq] at e5
    simp (decide := true) only [szExV, if_neg e, if_neg e2, if_neg e3, if_neg e4, if_pos e5, go_sem, Nat.reduceAdd, Nat.reduceMul, Nat.reduceSub]
    exact Runs.ret_v
  simp only [decide_eq_false_iff_not] at e5
  simp (decide := true) only [szExV, if_neg e, if_neg e2, if_neg e3, if_neg e4, if_neg e5, go_sem, Nat.reduceAdd, Nat.reduceMul, Nat.reduceSub]
  exact Runs.ret_v
set_option maxRecDepth 10000 in
include hm in
theorem toExts (ca : Bool) (path usage : Int) (ho : List ByteArray) (ne : List (List Int)) (al de : List ByteArray) (pu : List Int) (h : ExFit ho ne al de pu) :
    Holds Tryz.prog 25 [exS ca path usage ho ne al de pu] [] (exO ca path usage ho ne al de pu) [] := by
  obtain ⟨h1, h2, h3, h4, h5, h6⟩ := h
  refine holds_ref (ann := []) tabOk hm (byL [] [1000001]) Tryz.func25 (by kernel_rfl) rfl ?_
  simp (decide := true) only [Tryz.f25, go_sem, Nat.reduceAdd, Nat.reduceMul, Nat.reduceSub]
  refine Runs.call (toStringS hm ho h1) ?_
  simp (decide := true) only [go_sem, Nat.reduceAdd, Nat.reduceMul, Nat.reduceSub]
  refine Runs.call (toIntSS hm ne h2 h3) ?_
  simp (decide := true) only [go_sem, Nat.reduceAdd, Nat.reduceMul, Nat.reduceSub]
  refine Runs.call (toStringS hm al h4) ?_
  simp (decide := true) only [go_sem, Nat.reduceAdd, Nat.reduceMul, Nat.reduceSub]
  refine Runs.call (toStringS hm de h5) ?_
  simp (decide := true) only [go_sem, Nat.reduceAdd, Nat.reduceMul, Nat.reduceSub]
  refine Runs.call (toIntS hm pu h6) ?_
  simp (decide := true) only [go_sem, Nat.reduceAdd, Nat.reduceMul, Nat.reduceSub]
  exact Runs.ret_refl
set_option maxRecDepth 10000 in
include hm in
theorem eqExts (ca : Bool) (path usage : Int) (ho : List ByteArray) (ne : List (List Int)) (al de : List ByteArray) (pu : List Int) (h : ExFit ho ne al de pu) :
    Holds Tryz.prog 34 [exS ca path usage ho ne al de pu, exS ca path usage ho ne al de pu] [] (.v (.bool true)) [] := by
  obtain ⟨h1, h2, h3, h4, h5, h6⟩ := h
  refine holds_ref (ann := []) tabOk hm (byL [] [1000002, 1000003]) Tryz.func34 (by kernel_rfl) rfl ?_
  simp (decide := true) only [Tryz.f34, go_sem, Nat.reduceAdd, Nat.reduceMul, Nat.reduceSub]
  refine Runs.call (eqStringS hm ho (by omega)) ?_
  simp (decide := true) only [go_sem, Nat.reduceAdd, Nat.reduceMul, Nat.reduceSub]
  refine Runs.call (eqIntSS hm ne h2 h3) ?_
  simp (decide := true) only [go_sem, Nat.reduceAdd, Nat.reduceMul, Nat.reduceSub]
  refine Runs.call (eqStringS hm al (by omega)) ?_
  simp (decide := true) only [go_sem, Nat.reduceAdd, Nat.reduceMul, Nat.reduceSub]
  refine Runs.call (eqStringS hm de (by omega)) ?_
  simp (decide := true) only [go_sem, Nat.reduceAdd, Nat.reduceMul, Nat.reduceSub]
  refine Runs.call (eqIntS hm pu (by omega)) ?_
  simp (decide := true) only [go_sem, Nat.reduceAdd, Nat.reduceMul, Nat.reduceSub]
  exact Runs.ret_v
end Go.Proofs.W

namespace Go.Proofs.W
open Go Go.AM
set_option linter.unusedSimpArgs false
set_option linter.unusedVariables false
variable (hm : Tryz.prog.follows .mixedOrders = true)

def charOk (b : UInt8) : Bool := inB b.toNat 32 126
def textOk (s : ByteArray) : Bool := inB s.size 1 40 && s.data.toList.all charOk
def nameOk (L : List ByteArray) : Bool := L.all textOk && inB L.length 1 4

theorem bs_len (s : ByteArray) : s.data.toList.length = s.size := by rw [Array.length_toList]; rfl

def ann13 : Ann := [(0, [0, 3]), (2, [0, 3, 4])]
def st13 (L : List ByteArray) (i : Nat) : St := ⟨[.sl .sh (L.map strA), .any, .any, .v (.int .i64 i), .any, .any, .any, .any, .any, .any, .any, .any, .any, .any, .any, .any, .any, .any, .any, .any, .any, .any, .any, .any, .any, .any, .any, .any, .any, .any, .any, .any, .any, .any, .any, .any, .any, .any, .any], [], []⟩
def st13b (L : List ByteArray) (i k : Nat) : St := ⟨[.sl .sh (L.map strA), .any, .any, .v (.int .i64 i), .v (.int .i64 k), .any, .any, .any, .any, .any, .any, .any, .any, .any, .any, .any, .any, .any, .any, .any, .any, .any, .any, .any, .any, .any, .any, .any, .any, .any, .any, .any, .any, .any, .any, .any, .any, .any, .any], [], []⟩

set_option maxRecDepth 10000 in
include hm in
theorem l10Name (L : List ByteArray) (h3 : L.length ≤ 9223372036854775807) (h4 : ∀ s ∈ L, s.size ≤ 9223372036854775807) :
    Holds Tryz.prog 38 [.sl .sh (L.map strA)] [] (.v (.bool (nameOk L))) [] := by
  refine holds_of (ann := ann13) tabOk hm Tryz.func38 (by kernel_rfl) rfl ?_
  simp (decide := true) only [Tryz.f38, go_sem, Nat.reduceAdd, Nat.reduceMul, Nat.reduceSub]
  refine Runs.while (α := Nat) (st13 L) (fun i => L.length - i) (fun i => i ≤ L.length ∧ (L.drop i).all textOk = L.all textOk) 0 ⟨by omega, by simp⟩ ?_ ?_
  · simp [go_sem, ann13, st13]
  · rintro i ⟨hi1, hr⟩ ih
    simp (decide := true) only [st13, go_sem, Nat.reduceAdd, Nat.reduceMul, Nat.reduceSub]
    refine Runs.split (fun h => ?_) (fun h => ?_)
    · have hlt : i < L.length := by simpa using h
      have hs := h4 L[i] (List.getElem_mem hlt)
      rw [List.drop_eq_getElem_cons hlt, List.all_cons] at hr
      simp (decide := true) (disch := first | omega | (simp only [List.length_map, List.length_cons, List.length_append, List.length_nil]; omega)) only [if_pos, go_sem, Nat.reduceAdd, Nat.reduceMul, Nat.reduceSub]
      refine Runs.call (l1In hm L[i].size 1 40) ?_
      simp (decide := true) only [go_sem, Nat.reduceAdd, Nat.reduceMul, Nat.reduceSub]
      refine Runs.split (fun h => ?_) (fun h => ?_)
      · simp only [Bool.not_eq_true'] at h
        have e : nameOk L = false := by rw [nameOk, ← hr, textOk, h]; simp
        simp (decide := true) only [e, go_sem, Nat.reduceAdd, Nat.reduceMul, Nat.reduceSub]
        exact Runs.ret_v
      · simp only [Bool.not_eq_false'] at h
        simp (decide := true) only [go_sem, Nat.reduceAdd, Nat.reduceMul, Nat.reduceSub]
        refine Runs.while (α := Nat) (st13b L i) (fun k => L[i].size - k) (fun k => k ≤ L[i].size ∧ (L[i].data.toList.drop k).all charOk = L[i].data.toList.all charOk) 0 ⟨by omega, by simp⟩ ?_ ?_
        · simp [go_sem, ann13, st13b]
        · rintro k ⟨hk1, hk⟩ ihk
          simp (decide := true) (disch := first | omega | (simp only [List.length_map, List.length_cons, List.length_append, List.length_nil]; omega)) only [st13b, if_pos, go_sem, Nat.reduceAdd, Nat.reduceMul, Nat.reduceSub]
          refine Runs.split (fun h => ?_) (fun h => ?_)
          · have hltk : k < L[i].size := by simpa using h
            have hlen := bs_len L[i]
            rw [List.drop_eq_getElem_cons (by omega), List.all_cons] at hk
            have hg : L[i].data.toList.getD k 0 = L[i].data.toList[k] := by simp [List.getD, hltk]
            have hb := UInt8.toNat_lt L[i].data.toList[k]
            simp (decide := true) (disch := first | omega | (simp only [List.length_map, List.length_cons, List.length_append, List.length_nil]; omega)) only [hg, if_pos, go_sem, Nat.reduceAdd, Nat.reduceMul, Nat.reduceSub]
            refine Runs.call (l1In hm _ 32 126) ?_
            simp (decide := true) only [go_sem, Nat.reduceAdd, Nat.reduceMul, Nat.reduceSub]
            refine Runs.split (fun h' => ?_) (fun h' => ?_)
            · simp only [Bool.not_eq_true'] at h'
              have e : nameOk L = false := by rw [nameOk, ← hr, textOk, ← hk, charOk, h']; simp
              simp (decide := true) only [e, go_sem, Nat.reduceAdd, Nat.reduceMul, Nat.reduceSub]
              exact Runs.ret_v
            · simp only [Bool.not_eq_false'] at h'
              rw [charOk, h', Bool.true_and] at hk
              simp (decide := true) (disch := first | omega | (simp only [List.length_map, List.length_cons, List.length_append, List.length_nil]; omega)) only [if_pos, go_sem, Nat.reduceAdd, Nat.reduceMul, Nat.reduceSub]
              refine ihk (k + 1) _ (by omega) ⟨by omega, hk⟩ ?_
              simp [go_sem, ann13, st13b]
          · have hge : k = L[i].size := by simp at h; omega
            have hlen := bs_len L[i]
            rw [List.drop_of_length_le (by omega), List.all_nil] at hk
            rw [textOk, ‹inB _ 1 40 = true›, ← hk, Bool.true_and, Bool.true_and] at hr
            simp (decide := true) (disch := first | omega | (simp only [List.length_map, List.length_cons, List.length_append, List.length_nil]; omega)) only [if_pos, go_sem, Nat.reduceAdd, Nat.reduceMul, Nat.reduceSub]
            refine ih (i + 1) _ (by omega) ⟨by omega, hr⟩ ?_
            simp [go_sem, ann13, st13]
    · have hge : i = L.length := by simp at h; omega
      subst hge
      rw [List.drop_length, List.all_nil] at hr
      simp (decide := true) only [go_sem, Nat.reduceAdd, Nat.reduceMul, Nat.reduceSub]
      refine Runs.call (l1In hm _ 1 4) ?_
      simp (decide := true) only [nameOk, ← hr, go_sem, Nat.reduceAdd, Nat.reduceMul, Nat.reduceSub]
      exact Runs.ret_v

def ann18 : Ann := [(0, [0, 6, 7, 8]), (2, [0, 4, 6, 7, 8, 13, 14])]
def st18 (L : List ByteArray) (i : Nat) : St := ⟨[.sl .sh (L.map strA), .any, .any, .any, .any, .any, .sl .sh (L.map strA), .v (.int .i64 L.length), .v (.int .i64 i), .any, .any, .any, .any, .any, .any, .any, .any, .any, .any, .any, .any, .any, .any, .any, .any, .any, .any, .any, .any, .any, .any, .any, .any, .any, .any, .any], [], []⟩
def st18b (L : List ByteArray) (i : Nat) (s : ByteArray) (k : Nat) : St := ⟨[.sl .sh (L.map strA), .any, .any, .any, .v (.string s), .any, .sl .sh (L.map strA), .v (.int .i64 L.length), .v (.int .i64 i), .any, .any, .any, .any, .v (.int .i64 s.size), .v (.int .i64 k), .any, .any, .any, .any, .any, .any, .any, .any, .any, .any, .any, .any, .any, .any, .any, .any, .any, .any, .any, .any, .any], [], []⟩

theorem charOk_lo {b : UInt8} (h : (b.toNat : Int) < 32) : charOk b = false := by simp [charOk, inB]; omega
theorem charOk_hi {b : UInt8} (h : ¬ (b.toNat : Int) < 32) : charOk b = !decide ((b.toNat : Int) > 126) := by
  unfold charOk inB
  rw [decide_eq_true (by omega), Bool.true_and]
  by_cases h2 : (b.toNat : Int) > 126
  · rw [decide_eq_false (by omega), decide_eq_true h2]; rfl
  · rw [decide_eq_true (by omega), decide_eq_false h2]; rfl

set_option maxRecDepth 10000 in
include hm in
theorem isName (L : List ByteArray) (h3 : L.length ≤ 9223372036854775807) (h4 : ∀ s ∈ L, s.size ≤ 9223372036854775807) :
    Holds Tryz.prog 50 [.sl .sh (L.map strA)] [] (.v (.bool (nameOk L))) [] := by
  refine holds_of (ann := ann18) tabOk hm Tryz.func50 (by kernel_rfl) rfl ?_
  simp (decide := true) only [Tryz.f50, go_sem, Nat.reduceAdd, Nat.reduceMul, Nat.reduceSub]
  refine Runs.while (α := Nat) (st18 L) (fun i => L.length - i) (fun i => i ≤ L.length ∧ (L.drop i).all textOk = L.all textOk) 0 ⟨by omega, by simp⟩ ?_ ?_
  · simp [go_sem, ann18, st18]
  · rintro i ⟨hi1, hr⟩ ih
    simp (decide := true) only [st18, go_sem, Nat.reduceAdd, Nat.reduceMul, Nat.reduceSub]
    refine Runs.split (fun h => ?_) (fun h => ?_)
    · have hlt : i < L.length := by simpa using h
      have hs := h4 L[i] (List.getElem_mem hlt)
      rw [List.drop_eq_getElem_cons hlt, List.all_cons] at hr
      simp (decide := true) (disch := first | omega | (simp only [List.length_map, List.length_cons, List.length_append, List.length_nil]; omega)) only [if_pos, go_sem, Nat.reduceAdd, Nat.reduceMul, Nat.reduceSub]
      refine Runs.while (α := Nat) (st18b L i L[i]) (fun k => L[i].size - k) (fun k => k ≤ L[i].size ∧ (L[i].data.toList.drop k).all charOk = L[i].data.toList.all charOk) 0 ⟨by omega, by simp⟩ ?_ ?_
      · simp [go_sem, ann18, st18b]
      · rintro k ⟨hk1, hk⟩ ihk
        simp (decide := true) (disch := first | omega | (simp only [List.length_map, List.length_cons, List.length_append, List.length_nil]; omega)) only [st18b, if_pos, go_sem, Nat.reduceAdd, Nat.reduceMul, Nat.reduceSub]
        refine Runs.split (fun h => ?_) (fun h => ?_)
        · have hltk : k < L[i].size := by simpa using h
          have hlen := bs_len L[i]
          rw [List.drop_eq_getElem_cons (by omega), List.all_cons] at hk
          have hg : L[i].data.toList.getD k 0 = L[i].data.toList[k] := by simp [List.getD, hltk]
          have hb := UInt8.toNat_lt L[i].data.toList[k]
          simp (decide := true) (disch := first | omega | (simp only [List.length_map, List.length_cons, List.length_append, List.length_nil]; omega)) only [hg, if_pos, go_sem, Nat.reduceAdd, Nat.reduceMul, Nat.reduceSub]
          have stop : charOk L[i].data.toList[k] = false → nameOk L = false := fun h => by rw [nameOk, ← hr, textOk, ← hk, h]; simp
          refine Runs.split (fun h => ?_) (fun h => ?_)
          · simp only [decide_eq_true_eq] at h
            simp (decide := true) only [stop (charOk_lo h), go_sem, Nat.reduceAdd, Nat.reduceMul, Nat.reduceSub]
            exact Runs.ret_v
          · simp only [decide_eq_false_iff_not] at h
            simp (decide := true) (disch := first | omega | (simp only [List.length_map, List.length_cons, List.length_append, List.length_nil]; omega)) only [hg, if_pos, go_sem, Nat.reduceAdd, Nat.reduceMul, Nat.reduceSub]
            refine Runs.split (fun h2 => ?_) (fun h2 => ?_)
            · simp (decide := true) only [stop (by rw [charOk_hi h, h2]; rfl), go_sem, Nat.reduceAdd, Nat.reduceMul, Nat.reduceSub]
              exact Runs.ret_v
            · rw [charOk_hi h, h2, Bool.not_false, Bool.true_and] at hk
              simp (decide := true) (disch := first | omega | (simp only [List.length_map, List.length_cons, List.length_append, List.length_nil]; omega)) only [if_pos, go_sem, Nat.reduceAdd, Nat.reduceMul, Nat.reduceSub]
              refine ihk (k + 1) _ (by omega) ⟨by omega, hk⟩ ?_
              simp [go_sem, ann18, st18b]
        · have hge : k = L[i].size := by simp at h; omega
          have hlen := bs_len L[i]
          rw [List.drop_of_length_le (by omega), List.all_nil] at hk
          simp (decide := true) only [go_sem, Nat.reduceAdd, Nat.reduceMul, Nat.reduceSub]
          refine Runs.call (within hm _ 1 40) ?_
          simp (decide := true) only [go_sem, Nat.reduceAdd, Nat.reduceMul, Nat.reduceSub]
          refine Runs.split (fun h' => ?_) (fun h' => ?_)
          · simp only [Bool.not_eq_true'] at h'
            have e : nameOk L = false := by rw [nameOk, ← hr, textOk, h']; simp
            simp (decide := true) only [e, go_sem, Nat.reduceAdd, Nat.reduceMul, Nat.reduceSub]
            exact Runs.ret_v
          · simp only [Bool.not_eq_false'] at h'
            rw [textOk, h', ← hk, Bool.true_and, Bool.true_and] at hr
            simp (decide := true) (disch := first | omega | (simp only [List.length_map, List.length_cons, List.length_append, List.length_nil]; omega)) only [if_pos, go_sem, Nat.reduceAdd, Nat.reduceMul, Nat.reduceSub]
            refine ih (i + 1) _ (by omega) ⟨by omega, hr⟩ ?_
            simp [go_sem, ann18, st18]
    · have hge : i = L.length := by simp at h; omega
      subst hge
      rw [List.drop_length, List.all_nil] at hr
      simp (decide := true) only [go_sem, Nat.reduceAdd, Nat.reduceMul, Nat.reduceSub]
      refine Runs.call (within hm _ 1 4) ?_
      simp (decide := true) only [nameOk, ← hr, go_sem, Nat.reduceAdd, Nat.reduceMul, Nat.reduceSub]
      exact Runs.ret_v
set_option maxRecDepth 10000 in
include hm in
theorem isSig (es : List A) : Holds Tryz.prog 53 [.sl .sh es] [] (.v (.bool (inB es.length 1 64))) [] := by
  refine holds_of (ann := []) tabOk hm Tryz.func53 (by kernel_rfl) rfl ?_
  simp (decide := true) only [Tryz.f53, go_sem, Nat.reduceAdd, Nat.reduceMul, Nat.reduceSub]
  refine Runs.call (within hm es.length 1 64) ?_
  simp (decide := true) only [go_sem, Nat.reduceAdd, Nat.reduceMul, Nat.reduceSub]
  exact Runs.ret_v
def ann21 : Ann := [(0, [0, 1, 2, 7])]
def st21 (L : List Int) (lo hi : Int) (i : Nat) : St := ⟨[.sl .sh (L.map intA), .v (.int .i64 lo), .v (.int .i64 hi), .any, .any, .any, .any, .v (.int .i64 i), .any, .any, .any, .any, .any, .any, .any, .any, .any, .any, .any, .any, .any, .any, .any, .any, .any, .any, .any, .any], [], []⟩
def sched21 : Sched := .take 0 (.take 1 (.take 2 (.take 3 (.take 5 (.take 6 (.take 7 (.alt 4 (.alt 8 (.take 9 .fin) .nil) (.alt 8 (.alt 4 (.take 9 .fin) .nil) .nil))))))))
/-- Each greater than the one before it, from a place on. -/
def risesFrom (L : List Int) (i : Nat) : Bool := (List.range' i (L.length - i)).all fun j => decide (L.getD (j - 1) 0 < L.getD j 0)

theorem risesFrom_succ {L : List Int} {i : Nat} (h : i < L.length) : risesFrom L i = (decide (L.getD (i - 1) 0 < L.getD i 0) && risesFrom L (i + 1)) := by
  unfold risesFrom
  obtain ⟨k, hk⟩ : ∃ k, L.length - i = k + 1 := ⟨L.length - i - 1, by omega⟩
  rw [hk, List.range'_succ, List.all_cons, show L.length - (i + 1) = k by omega]

set_option maxRecDepth 10000 in
include hm in
theorem isRising (L : List Int) (lo hi : Int) (h3 : L.length ≤ 9223372036854775807) :
    Holds Tryz.prog 79 [.sl .sh (L.map intA), .v (.int .i64 lo), .v (.int .i64 hi)] [] (.v (.bool (risesFrom L 1 && L.all fun n => inB n lo hi))) [] := by
  refine holds_of (ann := ann21) tabOk hm Tryz.func79 (by kernel_rfl) rfl ?_
  simp (decide := true) only [Tryz.f79, go_sem, Nat.reduceAdd, Nat.reduceMul, Nat.reduceSub]
  refine Runs.while (α := Nat) (st21 L lo hi) (fun i => L.length - i) (fun i => 1 ≤ i ∧ i ≤ max L.length 1 ∧ risesFrom L i = risesFrom L 1) 1 ⟨by omega, by omega, rfl⟩ ?_ ?_
  · simp [go_sem, ann21, st21]
  · rintro i ⟨hi0, hi1, hr⟩ ih
    simp (decide := true) only [st21, go_sem, Nat.reduceAdd, Nat.reduceMul, Nat.reduceSub]
    refine Runs.split (fun h => ?_) (fun h => ?_)
    · have hlt : i < L.length := by simpa using h
      rw [risesFrom_succ hlt] at hr
      have he : (L.map intA).getD i .any = .v (.int .i64 (L.getD i 0)) := by simp [List.getD, hlt, intA]
      have he1 : (L.map intA).getD (i - 1) .any = .v (.int .i64 (L.getD (i - 1) 0)) := by simp [List.getD, show i - 1 < L.length by omega, intA]
      have ht : ((i : Int) - 1).toNat = i - 1 := by omega
      have hw : IntKind.i64.wrap ((i : Int) - 1) = (i : Int) - 1 := wrap_i64 (by omega) (by omega)
      simp (decide := true) only [go_sem, Nat.reduceAdd, Nat.reduceMul, Nat.reduceSub]
      refine Runs.draw (st1 := ?s1) (draws_by (ann := []) tabOk sched21 (by kernel_rfl) ?h1) ?h2
      case h1 =>
        intro K r X hK
        simp (decide := true) only [sched21, hw, ht, he, he1, go_sem, Nat.reduceAdd, Nat.reduceMul, Nat.reduceSub]
        refine Runs.chk (by simp; omega) (Runs.chk (by simp; omega) (Runs.both (Runs.both ?_ Runs.done) (Runs.both (Runs.both ?_ Runs.done) Runs.done)))
        · exact hK
        · exact hK
      case h2 =>
        simp (decide := true) only [go_sem, Nat.reduceAdd, Nat.reduceMul, Nat.reduceSub]
        refine Runs.split (fun h => ?_) (fun h => ?_)
        · simp only [decide_eq_true_eq] at h
          rw [decide_eq_false (by omega), Bool.false_and] at hr
          simp (decide := true) only [← hr, go_sem, Nat.reduceAdd, Nat.reduceMul, Nat.reduceSub]
          exact Runs.ret_v
        · simp only [decide_eq_false_iff_not] at h
          rw [decide_eq_true (by omega), Bool.true_and] at hr
          simp (decide := true) (disch := first | omega | (simp only [List.length_map, List.length_cons, List.length_append, List.length_nil]; omega)) only [if_pos, go_sem, Nat.reduceAdd, Nat.reduceMul, Nat.reduceSub]
          refine ih (i + 1) _ (by omega) ⟨by omega, by omega, hr⟩ ?_
          simp [go_sem, ann21, st21]
    · have hge : L.length ≤ i := by simp at h; omega
      have hz : risesFrom L i = true := by unfold risesFrom; rw [show L.length - i = 0 by omega]; rfl
      rw [hz] at hr
      simp (decide := true) only [dn_intA, go_sem, Nat.reduceAdd, Nat.reduceMul, Nat.reduceSub]
      refine Runs.call (allWithin hm L lo hi h3) ?_
      simp (decide := true) only [← hr, go_sem, Nat.reduceAdd, Nat.reduceMul, Nat.reduceSub]
      exact Runs.ret_v
end Go.Proofs.W

namespace Go.Proofs.W
open Go Go.AM
set_option linter.unusedSimpArgs false
set_option linter.unusedVariables false
variable (hm : Tryz.prog.follows .mixedOrders = true)
attribute [local go_sem] exS rowS_plain rowS_dn rowO_dn

def hostsB (q : ByteArray → Bool) (L : List ByteArray) : Bool := L.all q && decide ((L.length : Int) ≤ 6)
def addrB (l : List Int) : Bool := decide ((l.length : Int) = 4) && l.all fun n => inB n 0 255
def risE (S : List Int) : Bool := risesFrom S 1 && S.all fun n => inB n 1 1000
def exB (ca : Bool) (path usage : Int) (ho : List ByteArray) (ne : List (List Int)) (al de : List ByteArray) (pu : List Int) : Bool :=
  inB path (-1) 10 && (ca || decide (path = -1)) && inB usage 0 7 && hostsB patB ho && hostsB hostB al && hostsB hostB de && decide ((ne.length : Int) ≤ 6) && decide ((pu.length : Int) ≤ 6) && ne.all addrB && risE pu
def stepE (S : List Int) (i : Nat) : Bool := inB (S.getD i 0) 1 1000 && (decide (i = 0) || decide (S.getD (i - 1) 0 < S.getD i 0))
def stepsE (S : List Int) (i : Nat) : Bool := (List.range' i (S.length - i)).all (stepE S)
theorem stepsE_succ {S : List Int} {i : Nat} (h : i < S.length) : stepsE S i = (stepE S i && stepsE S (i + 1)) := by
  unfold stepsE
  obtain ⟨k, hk⟩ : ∃ k, S.length - i = k + 1 := ⟨S.length - i - 1, by omega⟩
  rw [hk, List.range'_succ, List.all_cons, show S.length - (i + 1) = k by omega]
theorem stepsE_end {S : List Int} {i : Nat} (h : S.length ≤ i) : stepsE S i = true := by
  unfold stepsE
  rw [show S.length - i = 0 by omega]; rfl
theorem stepsE_eq (S : List Int) : stepsE S 0 = risE S := by
  rw [Bool.eq_iff_iff]
  simp only [stepsE, risE, risesFrom, Bool.and_eq_true, List.all_eq_true, List.mem_range'_1, stepE, Bool.or_eq_true, decide_eq_true_eq]
  constructor
  · intro h
    refine ⟨fun j hj => ?_, fun n hn => ?_⟩
    · rcases (h j ⟨by omega, by omega⟩).2 with e | e
      · omega
      · exact e
    · obtain ⟨j, hj, rfl⟩ := List.getElem_of_mem hn
      have := (h j ⟨by omega, by omega⟩).1
      simpa [List.getD, hj] using this
  · rintro ⟨h1, h2⟩ j ⟨-, hj⟩
    have hj' : j < S.length := by omega
    refine ⟨?_, ?_⟩
    · have := h2 S[j] (List.getElem_mem hj')
      simpa [List.getD, hj'] using this
    · rcases Nat.eq_zero_or_pos j with e | e
      · exact .inl e
      · exact .inr (h1 j ⟨by omega, by omega⟩)
def lhAnn : Ann := [(0, [0, 1, 5])]
def lhSt (L : List ByteArray) (b : Bool) (i : Nat) : St := ⟨[.sl .sh (L.map strA), .v (.bool b), .any, .any, .any, .v (.int .i64 i), .any, .any, .any, .any, .any, .any, .any, .any, .any, .any, .any, .any, .any, .any, .any, .any, .any, .any, .any, .any, .any, .any, .any, .any, .any, .any, .any, .any, .any, .any], [], []⟩
set_option maxRecDepth 10000 in
include hm in
theorem l10Hosts (b : Bool) (L : List ByteArray) (h : L.length ≤ 1048576) (h4 : ∀ s ∈ L, s.size ≤ 1048576) : Holds Tryz.prog 70 [.sl .sh (L.map strA), .v (.bool b)] [] (.v (.bool (hostsB (if b = true then patB else hostB) L))) [] := by
  refine holds_of (ann := lhAnn) tabOk hm Tryz.func70 (by kernel_rfl) rfl ?_
  simp (decide := true) only [Tryz.f70, go_sem, Nat.reduceAdd, Nat.reduceMul, Nat.reduceSub]
  have ha : (L.map strA).length = L.length := List.length_map _
  obtain ⟨q, hq⟩ : ∃ q, q = (if b = true then patB else hostB) := ⟨_, rfl⟩
  rw [← hq]
  refine Runs.while (α := Nat) (lhSt L b) (fun i => L.length - i) (fun i => i ≤ L.length ∧ (L.drop i).all q = L.all q) 0 ⟨by omega, by simp⟩ ?_ ?_
  · simp [go_sem, lhAnn, lhSt]
  · rintro i ⟨hi, hr⟩ ih
    simp (decide := true) only [lhSt, ha, go_sem, Nat.reduceAdd, Nat.reduceMul, Nat.reduceSub]
    refine Runs.split (fun h => ?_) (fun h => ?_)
    · have hlt : i < L.length := by simpa using h
      have hg : (L.map strA).getD i .any = .v (.string L[i]) := by simp [List.getD, hlt, strA]
      rw [List.drop_eq_getElem_cons hlt, List.all_cons] at hr
      have hs := h4 _ (List.getElem_mem hlt)
      cases b
      · simp (decide := true) (disch := first | omega | (simp only [List.length_map, List.length_cons, List.length_append, List.length_nil]; omega)) only [ha, hg, if_pos, go_sem, Nat.reduceAdd, Nat.reduceMul, Nat.reduceSub]
        refine Runs.call (sHostOk hm L[i]) ?_
        have e : q L[i] = hostB L[i] := by rw [hq]; rfl
        rw [e] at hr
        cases h2 : hostB L[i]
        · simp (decide := true) only [go_sem, Nat.reduceAdd, Nat.reduceMul, Nat.reduceSub]
          exact Runs.ret_eq (by rw [hostsB, ← hr, h2]; simp)
        · rw [h2, Bool.true_and] at hr
          simp (decide := true) (disch := first | omega | (simp only [List.length_map, List.length_cons, List.length_append, List.length_nil]; omega)) only [if_pos, go_sem, Nat.reduceAdd, Nat.reduceMul, Nat.reduceSub]
          refine ih (i + 1) _ (by omega) ⟨by omega, hr⟩ ?_
          simp [go_sem, lhAnn, lhSt]
      · simp (decide := true) (disch := first | omega | (simp only [List.length_map, List.length_cons, List.length_append, List.length_nil]; omega)) only [ha, hg, if_pos, go_sem, Nat.reduceAdd, Nat.reduceMul, Nat.reduceSub]
        refine Runs.call (sPatOk hm L[i] hs) ?_
        have e : q L[i] = patB L[i] := by rw [hq]; rfl
        rw [e] at hr
        cases h2 : patB L[i]
        · simp (decide := true) only [go_sem, Nat.reduceAdd, Nat.reduceMul, Nat.reduceSub]
          exact Runs.ret_eq (by rw [hostsB, ← hr, h2]; simp)
        · rw [h2, Bool.true_and] at hr
          simp (decide := true) (disch := first | omega | (simp only [List.length_map, List.length_cons, List.length_append, List.length_nil]; omega)) only [if_pos, go_sem, Nat.reduceAdd, Nat.reduceMul, Nat.reduceSub]
          refine ih (i + 1) _ (by omega) ⟨by omega, hr⟩ ?_
          simp [go_sem, lhAnn, lhSt]
    · have hge : i = L.length := by simp at h; omega
      rw [hge, List.drop_length, List.all_nil] at hr
      simp (decide := true) only [go_sem, Nat.reduceAdd, Nat.reduceMul, Nat.reduceSub]
      exact Runs.ret_eq (by rw [hostsB, ← hr, Bool.true_and])
def lfAnn : Ann := [(0, [0, 3])]
def lfSt (L : List Int) (i : Nat) : St := ⟨[.sl .sh (L.map intA), .any, .any, .v (.int .i64 i), .any, .any, .any, .any, .any, .any, .any, .any, .any, .any, .any, .any, .any, .any, .any], [], []⟩
set_option maxRecDepth 10000 in
include hm in
theorem l8Four (L : List Int) (h : L.length ≤ 1048576) : Holds Tryz.prog 71 [.sl .sh (L.map intA)] [] (.v (.bool (addrB L))) [] := by
  refine holds_of (ann := lfAnn) tabOk hm Tryz.func71 (by kernel_rfl) rfl ?_
  simp (decide := true) only [Tryz.f71, go_sem, Nat.reduceAdd, Nat.reduceMul, Nat.reduceSub]
  have ha : (L.map intA).length = L.length := List.length_map _
  refine Runs.while (α := Nat) (lfSt L) (fun i => L.length - i) (fun i => i ≤ L.length ∧ ((L.drop i).all fun n => inB n 0 255) = L.all fun n => inB n 0 255) 0 ⟨by omega, by simp⟩ ?_ ?_
  · simp [go_sem, lfAnn, lfSt]
  · rintro i ⟨hi, hr⟩ ih
    simp (decide := true) only [lfSt, ha, go_sem, Nat.reduceAdd, Nat.reduceMul, Nat.reduceSub]
    refine Runs.split (fun h => ?_) (fun h => ?_)
    · have hlt : i < L.length := by simpa using h
      have hg : (L.map intA).getD i .any = .v (.int .i64 L[i]) := by simp [List.getD, hlt, intA]
      rw [List.drop_eq_getElem_cons hlt, List.all_cons] at hr
      simp (decide := true) (disch := first | omega | (simp only [List.length_map, List.length_cons, List.length_append, List.length_nil]; omega)) only [ha, hg, if_pos, go_sem, Nat.reduceAdd, Nat.reduceMul, Nat.reduceSub]
      refine Runs.call (l1In hm _ 0 255) ?_
      cases h2 : inB L[i] 0 255
      · simp (decide := true) only [go_sem, Nat.reduceAdd, Nat.reduceMul, Nat.reduceSub]
        exact Runs.ret_eq (by rw [addrB, ← hr, h2]; simp)
      · rw [h2, Bool.true_and] at hr
        simp (decide := true) (disch := first | omega | (simp only [List.length_map, List.length_cons, List.length_append, List.length_nil]; omega)) only [if_pos, go_sem, Nat.reduceAdd, Nat.reduceMul, Nat.reduceSub]
        refine ih (i + 1) _ (by omega) ⟨by omega, hr⟩ ?_
        simp [go_sem, lfAnn, lfSt]
    · have hge : i = L.length := by simp at h; omega
      rw [hge, List.drop_length, List.all_nil] at hr
      simp (decide := true) only [go_sem, Nat.reduceAdd, Nat.reduceMul, Nat.reduceSub]
      exact Runs.ret_eq (by rw [addrB, ← hr, Bool.and_true])
def leeAnn : Ann := [(0, [1, 3]), (2, [1, 4])]
def leeSt (x : A) (i : Nat) : St := ⟨[.any, .ptr [x] 0 0, .any, .v (.int .i64 i), .any, .any, .any, .any, .any, .any, .any, .any, .any, .any, .any, .any, .any, .any, .any, .any, .any, .any, .any, .any, .any, .any, .any, .any, .any, .any, .any, .any, .any, .any, .any, .any, .any, .any, .any, .any, .any, .any, .any, .any, .any, .any, .any, .any, .any, .any, .any, .any, .any, .any, .any, .any, .any, .any, .any, .any, .any, .any, .any, .any, .any, .any, .any, .any, .any, .any, .any, .any, .any, .any, .any, .any, .any, .any, .any, .any, .any, .any, .any, .any, .any, .any, .any, .any, .any, .any, .any, .any, .any, .any, .any, .any, .any, .any, .any, .any, .any], [], []⟩
def leeSt2 (x : A) (i : Nat) : St := ⟨[.any, .ptr [x] 0 0, .any, .any, .v (.int .i64 i), .any, .any, .any, .any, .any, .any, .any, .any, .any, .any, .any, .any, .any, .any, .any, .any, .any, .any, .any, .any, .any, .any, .any, .any, .any, .any, .any, .any, .any, .any, .any, .any, .any, .any, .any, .any, .any, .any, .any, .any, .any, .any, .any, .any, .any, .any, .any, .any, .any, .any, .any, .any, .any, .any, .any, .any, .any, .any, .any, .any, .any, .any, .any, .any, .any, .any, .any, .any, .any, .any, .any, .any, .any, .any, .any, .any, .any, .any, .any, .any, .any, .any, .any, .any, .any, .any, .any, .any, .any, .any, .any, .any, .any, .any, .any, .any], [], []⟩
def leeS : Sched := .take 0 (.take 2 (.ld 1 (.take 3 (.ld 4 (.alt 5 (.take 6 (.take 7 (.take 8 (.take 9 (.take 10 (.take 11 (.take 13 (.take 14 (.take 17 (.take 19 (.ld 12 (.take 15 (.ld 16 (.ld 18 (.take 20 (.ld 21 (.take 22 (.take 23 (.take 24 .fin))))))))))))))))))) .nil)))))
attribute [local go_sem] leeS
set_option maxHeartbeats 4000000 in
set_option maxRecDepth 10000 in
include hm in
theorem l10Exts (ca : Bool) (path usage : Int) (ho : List ByteArray) (ne : List (List Int)) (al de : List ByteArray) (pu : List Int) (h : ExFit ho ne al de pu)
    (s1 : ∀ s ∈ ho, s.size ≤ 1048576) (s2 : ∀ s ∈ al, s.size ≤ 1048576) (s3 : ∀ s ∈ de, s.size ≤ 1048576) :
    Holds Tryz.prog 41 [exS ca path usage ho ne al de pu] [] (.v (.bool (exB ca path usage ho ne al de pu))) [] := by
  obtain ⟨f1, f2, f3, f4, f5, f6⟩ := h
  refine holds_ref (ann := leeAnn) tabOk hm (byL [] [1000001]) Tryz.func41 (by kernel_rfl) rfl ?_
  have hN : (ne.map rowS).length = ne.length := List.length_map _
  have hP : (pu.map intA).length = pu.length := List.length_map _
  simp (decide := true) only [Tryz.f41, hN, hP, go_sem, Nat.reduceAdd, Nat.reduceMul, Nat.reduceSub]
  refine Runs.call (l1In hm path (-1) 10) ?_
  cases c1 : inB path (-1) 10
  · simp (decide := true) only [go_sem, Nat.reduceAdd, Nat.reduceMul, Nat.reduceSub]
    exact Runs.ret_eq (by simp only [exB, c1, Bool.false_and])
  simp (decide := true) only [go_sem, Nat.reduceAdd, Nat.reduceMul, Nat.reduceSub]
  have h1 := l10Hosts hm true ho f1 s1
  have h2 := l10Hosts hm false al f4 s2
  have h3 := l10Hosts hm false de f5 s3
  simp only [if_true, Bool.false_eq_true, if_false] at h1 h2 h3
  cases c2 : (ca || decide (path = -1))
  · simp only [Bool.or_eq_false_iff] at c2
    obtain ⟨d1, d2⟩ := c2
    subst d1
    simp (decide := true) only [d2, go_sem, Nat.reduceAdd, Nat.reduceMul, Nat.reduceSub]
    exact Runs.ret_eq (by simp only [exB, c1, d2, Bool.or_false, Bool.and_false, Bool.false_and])
  cases ca
  · simp only [Bool.false_or, Bool.true_or] at c2
    simp (decide := true) only [c2, go_sem, Nat.reduceAdd, Nat.reduceMul, Nat.reduceSub]
    refine Runs.call (l1In hm usage 0 7) ?_
    cases c3 : inB usage 0 7
    · simp (decide := true) only [go_sem, Nat.reduceAdd, Nat.reduceMul, Nat.reduceSub]
      exact Runs.ret_eq (by simp only [exB, c3, Bool.and_false, Bool.false_and])
    simp (decide := true) only [go_sem, Nat.reduceAdd, Nat.reduceMul, Nat.reduceSub]
    refine Runs.call h1 ?_
    cases c4 : hostsB patB ho
    · simp (decide := true) only [go_sem, Nat.reduceAdd, Nat.reduceMul, Nat.reduceSub]
      exact Runs.ret_eq (by simp only [exB, c4, Bool.and_false, Bool.false_and])
    simp (decide := true) only [go_sem, Nat.reduceAdd, Nat.reduceMul, Nat.reduceSub]
    refine Runs.call h2 ?_
    cases c5 : hostsB hostB al
    · simp (decide := true) only [go_sem, Nat.reduceAdd, Nat.reduceMul, Nat.reduceSub]
      exact Runs.ret_eq (by simp only [exB, c5, Bool.and_false, Bool.false_and])
    simp (decide := true) only [go_sem, Nat.reduceAdd, Nat.reduceMul, Nat.reduceSub]
    refine Runs.call h3 ?_
    cases c6 : hostsB hostB de
    · simp (decide := true) only [go_sem, Nat.reduceAdd, Nat.reduceMul, Nat.reduceSub]
      exact Runs.ret_eq (by simp only [exB, c6, Bool.and_false, Bool.false_and])
    simp (decide := true) only [hN, hP, go_sem, Nat.reduceAdd, Nat.reduceMul, Nat.reduceSub]
    refine Runs.split (fun g => ?_) (fun g => ?_)
    · have c7 : decide ((ne.length : Int) ≤ 6) = false := by simp at g; simp; omega
      simp (decide := true) only [go_sem, Nat.reduceAdd, Nat.reduceMul, Nat.reduceSub]
      exact Runs.ret_eq (by simp only [exB, c7, Bool.and_false, Bool.false_and])
    have c7 : decide ((ne.length : Int) ≤ 6) = true := by simp at g; simp; omega
    simp (decide := true) only [hN, hP, go_sem, Nat.reduceAdd, Nat.reduceMul, Nat.reduceSub]
    refine Runs.split (fun g => ?_) (fun g => ?_)
    · have c8 : decide ((pu.length : Int) ≤ 6) = false := by simp at g; simp; omega
      simp (decide := true) only [go_sem, Nat.reduceAdd, Nat.reduceMul, Nat.reduceSub]
      exact Runs.ret_eq (by simp only [exB, c8, Bool.and_false, Bool.false_and])
    have c8 : decide ((pu.length : Int) ≤ 6) = true := by simp at g; simp; omega
    simp (decide := true) only [hN, hP, go_sem, Nat.reduceAdd, Nat.reduceMul, Nat.reduceSub]
    refine Runs.while (α := Nat) (leeSt (exS false path usage ho ne al de pu)) (fun i => ne.length - i) (fun i => i ≤ ne.length ∧ (ne.drop i).all addrB = ne.all addrB) 0 ⟨by omega, by simp⟩ ?_ ?_
    · simp [go_sem, leeAnn, leeSt]
    rintro i ⟨hi, hr⟩ ih
    simp (decide := true) only [leeSt, hN, go_sem, Nat.reduceAdd, Nat.reduceMul, Nat.reduceSub]
    refine Runs.split (fun h => ?_) (fun h => ?_)
    · have hlt : i < ne.length := by simpa using h
      have hg : (ne.map rowS).getD i .any = .sl .sh (ne[i].map intA) := by simp [List.getD, hlt, rowS]
      rw [List.drop_eq_getElem_cons hlt, List.all_cons] at hr
      simp (decide := true) (disch := first | omega | (simp only [List.length_map, List.length_cons, List.length_append, List.length_nil]; omega)) only [hN, hg, if_pos, go_sem, Nat.reduceAdd, Nat.reduceMul, Nat.reduceSub]
      refine Runs.call (l8Four hm ne[i] (f3 _ (List.getElem_mem hlt))) ?_
      cases g2 : addrB ne[i]
      · simp (decide := true) only [go_sem, Nat.reduceAdd, Nat.reduceMul, Nat.reduceSub]
        exact Runs.ret_eq (by simp only [exB, ← hr, g2, Bool.and_false, Bool.false_and])
      · rw [g2, Bool.true_and] at hr
        simp (decide := true) (disch := first | omega | (simp only [List.length_map, List.length_cons, List.length_append, List.length_nil]; omega)) only [if_pos, go_sem, Nat.reduceAdd, Nat.reduceMul, Nat.reduceSub]
        refine ih (i + 1) _ (by omega) ⟨by omega, hr⟩ ?_
        simp [go_sem, leeAnn, leeSt]
    have hge : i = ne.length := by simp at h; omega
    rw [hge, List.drop_length, List.all_nil] at hr
    simp (decide := true) only [go_sem, Nat.reduceAdd, Nat.reduceMul, Nat.reduceSub]
    refine Runs.while (α := Nat) (leeSt2 (exS false path usage ho ne al de pu)) (fun i => pu.length - i) (fun i => i ≤ pu.length ∧ stepsE pu i = stepsE pu 0) 0 ⟨by omega, rfl⟩ ?_ ?_
    · simp [go_sem, leeAnn, leeSt2]
    rintro i ⟨hi1, hr1⟩ ih
    simp (decide := true) only [leeSt2, hP, go_sem, Nat.reduceAdd, Nat.reduceMul, Nat.reduceSub]
    refine Runs.split (fun h => ?_) (fun h => ?_)
    · have hlt : i < pu.length := by simpa using h
      rw [stepsE_succ hlt] at hr1
      have hg : pu.getD i 0 = pu[i] := by simp [List.getD, hlt]
      have hgA : (pu.map intA).getD i .any = .v (.int .i64 pu[i]) := by simp [List.getD, hlt, intA]
      have stop : stepE pu i = false → exB false path usage ho ne al de pu = false := fun e => by
        rw [exB, ← stepsE_eq, ← hr1, e]; simp
      simp (decide := true) only [go_sem, Nat.reduceAdd, Nat.reduceMul, Nat.reduceSub]
      cases hb : inB pu[i] 1 1000 with
      | false =>
        refine Runs.draw (st1 := ?s1a) (draws_ref (ann := leeAnn) tabOk (byL [] [1000001]) leeS (by kernel_rfl) ?p1a) ?q1a
        case p1a =>
          intro K r X hK
          simp (decide := true) (maxSteps := 2000000) (disch := first | omega | (simp only [List.length_map, List.length_cons, List.length_append, List.length_nil]; omega)) only [hP, hgA, if_pos, go_sem, Nat.reduceAdd, Nat.reduceMul, Nat.reduceSub]
          refine Runs.call (l1In hm _ 1 _) ?_
          simp (decide := true) (maxSteps := 2000000) (disch := first | omega | (simp only [List.length_map, List.length_cons, List.length_append, List.length_nil]; omega)) only [hb, if_pos, go_sem, Nat.reduceAdd, Nat.reduceMul, Nat.reduceSub]
          exact hK
        case q1a =>
          have e : exB false path usage ho ne al de pu = false := stop (by rw [stepE, hg, hb, Bool.false_and])
          simp (decide := true) (disch := first | omega | (simp only [List.length_map, List.length_cons, List.length_append, List.length_nil]; omega)) only [if_pos, go_sem, Nat.reduceAdd, Nat.reduceMul, Nat.reduceSub]
          exact Runs.ret_eq (by rw [e])
      | true =>
        rcases Nat.eq_zero_or_pos i with h0 | h0
        · subst h0
          refine Runs.draw (st1 := ?s2a) (draws_ref (ann := leeAnn) tabOk (byL [] [1000001]) leeS (by kernel_rfl) ?p2a) ?q2a
          case p2a =>
            intro K r X hK
            simp (decide := true) (maxSteps := 2000000) (disch := first | omega | (simp only [List.length_map, List.length_cons, List.length_append, List.length_nil]; omega)) only [hP, hgA, Int.natCast_zero, if_pos, go_sem, Nat.reduceAdd, Nat.reduceMul, Nat.reduceSub]
            refine Runs.call (l1In hm _ 1 _) ?_
            have hb0 : inB pu[Int.toNat 0] 1 1000 = true := hb
            simp (decide := true) (maxSteps := 2000000) (disch := first | omega | (simp only [List.length_map, List.length_cons, List.length_append, List.length_nil]; omega)) only [hb, hb0, Int.natCast_zero, gt_iff_lt, Int.lt_irrefl, if_pos, go_sem, Nat.reduceAdd, Nat.reduceMul, Nat.reduceSub]
            exact hK
          case q2a =>
            have e : stepE pu 0 = true := by rw [stepE, hg, hb]; rfl
            rw [e, Bool.true_and] at hr1
            simp (decide := true) (disch := first | omega | (simp only [List.length_map, List.length_cons, List.length_append, List.length_nil]; omega)) only [if_pos, go_sem, Nat.reduceAdd, Nat.reduceMul, Nat.reduceSub]
            refine ih 1 _ (by omega) ⟨by omega, hr1⟩ ?_
            simp [go_sem, leeAnn, leeSt2]
        · have hd : decide ((i : Int) > 0) = true := by simp; omega
          have ht : ((i : Int) - 1).toNat = i - 1 := by omega
          have hg1 : (pu.map intA).getD (i - 1) .any = .v (.int .i64 (pu.getD (i - 1) 0)) := by simp [List.getD, show i - 1 < pu.length by omega, intA]
          cases h5 : decide (pu.getD (i - 1) 0 ≥ pu[i])
          · refine Runs.draw (st1 := ?s3a) (draws_ref (ann := leeAnn) tabOk (byL [] [1000001]) leeS (by kernel_rfl) ?p3a) ?q3a
            case p3a =>
              intro K r X hK
              simp (decide := true) (maxSteps := 2000000) (disch := first | omega | (simp only [List.length_map, List.length_cons, List.length_append, List.length_nil]; omega)) only [hP, hgA, hd, ht, hg1, if_pos, go_sem, Nat.reduceAdd, Nat.reduceMul, Nat.reduceSub]
              refine Runs.call (l1In hm _ 1 _) ?_
              simp (decide := true) (maxSteps := 2000000) (disch := first | omega | (simp only [List.length_map, List.length_cons, List.length_append, List.length_nil]; omega)) only [hP, hb, hd, ht, hg1, hgA, h5, if_pos, go_sem, Nat.reduceAdd, Nat.reduceMul, Nat.reduceSub]
              exact hK
            case q3a =>
              have e : stepE pu i = true := by rw [stepE, hg, hb]; simp at h5; simp; right; exact h5
              rw [e, Bool.true_and] at hr1
              simp (decide := true) (disch := first | omega | (simp only [List.length_map, List.length_cons, List.length_append, List.length_nil]; omega)) only [if_pos, go_sem, Nat.reduceAdd, Nat.reduceMul, Nat.reduceSub]
              refine ih (i + 1) _ (by omega) ⟨by omega, hr1⟩ ?_
              simp [go_sem, leeAnn, leeSt2]
          · refine Runs.draw (st1 := ?s4a) (draws_ref (ann := leeAnn) tabOk (byL [] [1000001]) leeS (by kernel_rfl) ?p4a) ?q4a
            case p4a =>
              intro K r X hK
              simp (decide := true) (maxSteps := 2000000) (disch := first | omega | (simp only [List.length_map, List.length_cons, List.length_append, List.length_nil]; omega)) only [hP, hgA, hd, ht, hg1, if_pos, go_sem, Nat.reduceAdd, Nat.reduceMul, Nat.reduceSub]
              refine Runs.call (l1In hm _ 1 _) ?_
              simp (decide := true) (maxSteps := 2000000) (disch := first | omega | (simp only [List.length_map, List.length_cons, List.length_append, List.length_nil]; omega)) only [hP, hb, hd, ht, hg1, hgA, h5, if_pos, go_sem, Nat.reduceAdd, Nat.reduceMul, Nat.reduceSub]
              exact hK
            case q4a =>
              have e : exB false path usage ho ne al de pu = false := stop (by rw [stepE, hg, hb]; simp at h5; simp; omega)
              simp (decide := true) (disch := first | omega | (simp only [List.length_map, List.length_cons, List.length_append, List.length_nil]; omega)) only [if_pos, go_sem, Nat.reduceAdd, Nat.reduceMul, Nat.reduceSub]
              exact Runs.ret_eq (by rw [e])
    have hge : i = pu.length := by simp at h; omega
    rw [hge, stepsE_end (Nat.le_refl _)] at hr1
    simp (decide := true) only [go_sem, Nat.reduceAdd, Nat.reduceMul, Nat.reduceSub]
    exact Runs.ret_eq (by simp only [exB, c1, c2, c3, c4, c5, c6, c7, c8, ← hr, ← stepsE_eq, ← hr1, Bool.true_and, Bool.and_true, Bool.true_or, Bool.false_or])
  · simp only [Bool.false_or, Bool.true_or] at c2
    simp (decide := true) only [c2, go_sem, Nat.reduceAdd, Nat.reduceMul, Nat.reduceSub]
    refine Runs.call (l1In hm usage 0 7) ?_
    cases c3 : inB usage 0 7
    · simp (decide := true) only [go_sem, Nat.reduceAdd, Nat.reduceMul, Nat.reduceSub]
      exact Runs.ret_eq (by simp only [exB, c3, Bool.and_false, Bool.false_and])
    simp (decide := true) only [go_sem, Nat.reduceAdd, Nat.reduceMul, Nat.reduceSub]
    refine Runs.call h1 ?_
    cases c4 : hostsB patB ho
    · simp (decide := true) only [go_sem, Nat.reduceAdd, Nat.reduceMul, Nat.reduceSub]
      exact Runs.ret_eq (by simp only [exB, c4, Bool.and_false, Bool.false_and])
    simp (decide := true) only [go_sem, Nat.reduceAdd, Nat.reduceMul, Nat.reduceSub]
    refine Runs.call h2 ?_
    cases c5 : hostsB hostB al
    · simp (decide := true) only [go_sem, Nat.reduceAdd, Nat.reduceMul, Nat.reduceSub]
      exact Runs.ret_eq (by simp only [exB, c5, Bool.and_false, Bool.false_and])
    simp (decide := true) only [go_sem, Nat.reduceAdd, Nat.reduceMul, Nat.reduceSub]
    refine Runs.call h3 ?_
    cases c6 : hostsB hostB de
    · simp (decide := true) only [go_sem, Nat.reduceAdd, Nat.reduceMul, Nat.reduceSub]
      exact Runs.ret_eq (by simp only [exB, c6, Bool.and_false, Bool.false_and])
    simp (decide := true) only [hN, hP, go_sem, Nat.reduceAdd, Nat.reduceMul, Nat.reduceSub]
    refine Runs.split (fun g => ?_) (fun g => ?_)
    · have c7 : decide ((ne.length : Int) ≤ 6) = false := by simp at g; simp; omega
      simp (decide := true) only [go_sem, Nat.reduceAdd, Nat.reduceMul, Nat.reduceSub]
      exact Runs.ret_eq (by simp only [exB, c7, Bool.and_false, Bool.false_and])
    have c7 : decide ((ne.length : Int) ≤ 6) = true := by simp at g; simp; omega
    simp (decide := true) only [hN, hP, go_sem, Nat.reduceAdd, Nat.reduceMul, Nat.reduceSub]
    refine Runs.split (fun g => ?_) (fun g => ?_)
    · have c8 : decide ((pu.length : Int) ≤ 6) = false := by simp at g; simp; omega
      simp (decide := true) only [go_sem, Nat.reduceAdd, Nat.reduceMul, Nat.reduceSub]
      exact Runs.ret_eq (by simp only [exB, c8, Bool.and_false, Bool.false_and])
    have c8 : decide ((pu.length : Int) ≤ 6) = true := by simp at g; simp; omega
    simp (decide := true) only [hN, hP, go_sem, Nat.reduceAdd, Nat.reduceMul, Nat.reduceSub]
    refine Runs.while (α := Nat) (leeSt (exS true path usage ho ne al de pu)) (fun i => ne.length - i) (fun i => i ≤ ne.length ∧ (ne.drop i).all addrB = ne.all addrB) 0 ⟨by omega, by simp⟩ ?_ ?_
    · simp [go_sem, leeAnn, leeSt]
    rintro i ⟨hi, hr⟩ ih
    simp (decide := true) only [leeSt, hN, go_sem, Nat.reduceAdd, Nat.reduceMul, Nat.reduceSub]
    refine Runs.split (fun h => ?_) (fun h => ?_)
    · have hlt : i < ne.length := by simpa using h
      have hg : (ne.map rowS).getD i .any = .sl .sh (ne[i].map intA) := by simp [List.getD, hlt, rowS]
      rw [List.drop_eq_getElem_cons hlt, List.all_cons] at hr
      simp (decide := true) (disch := first | omega | (simp only [List.length_map, List.length_cons, List.length_append, List.length_nil]; omega)) only [hN, hg, if_pos, go_sem, Nat.reduceAdd, Nat.reduceMul, Nat.reduceSub]
      refine Runs.call (l8Four hm ne[i] (f3 _ (List.getElem_mem hlt))) ?_
      cases g2 : addrB ne[i]
      · simp (decide := true) only [go_sem, Nat.reduceAdd, Nat.reduceMul, Nat.reduceSub]
        exact Runs.ret_eq (by simp only [exB, ← hr, g2, Bool.and_false, Bool.false_and])
      · rw [g2, Bool.true_and] at hr
        simp (decide := true) (disch := first | omega | (simp only [List.length_map, List.length_cons, List.length_append, List.length_nil]; omega)) only [if_pos, go_sem, Nat.reduceAdd, Nat.reduceMul, Nat.reduceSub]
        refine ih (i + 1) _ (by omega) ⟨by omega, hr⟩ ?_
        simp [go_sem, leeAnn, leeSt]
    have hge : i = ne.length := by simp at h; omega
    rw [hge, List.drop_length, List.all_nil] at hr
    simp (decide := true) only [go_sem, Nat.reduceAdd, Nat.reduceMul, Nat.reduceSub]
    refine Runs.while (α := Nat) (leeSt2 (exS true path usage ho ne al de pu)) (fun i => pu.length - i) (fun i => i ≤ pu.length ∧ stepsE pu i = stepsE pu 0) 0 ⟨by omega, rfl⟩ ?_ ?_
    · simp [go_sem, leeAnn, leeSt2]
    rintro i ⟨hi1, hr1⟩ ih
    simp (decide := true) only [leeSt2, hP, go_sem, Nat.reduceAdd, Nat.reduceMul, Nat.reduceSub]
    refine Runs.split (fun h => ?_) (fun h => ?_)
    · have hlt : i < pu.length := by simpa using h
      rw [stepsE_succ hlt] at hr1
      have hg : pu.getD i 0 = pu[i] := by simp [List.getD, hlt]
      have hgA : (pu.map intA).getD i .any = .v (.int .i64 pu[i]) := by simp [List.getD, hlt, intA]
      have stop : stepE pu i = false → exB true path usage ho ne al de pu = false := fun e => by
        rw [exB, ← stepsE_eq, ← hr1, e]; simp
      simp (decide := true) only [go_sem, Nat.reduceAdd, Nat.reduceMul, Nat.reduceSub]
      cases hb : inB pu[i] 1 1000 with
      | false =>
        refine Runs.draw (st1 := ?s1b) (draws_ref (ann := leeAnn) tabOk (byL [] [1000001]) leeS (by kernel_rfl) ?p1b) ?q1b
        case p1b =>
          intro K r X hK
          simp (decide := true) (maxSteps := 2000000) (disch := first | omega | (simp only [List.length_map, List.length_cons, List.length_append, List.length_nil]; omega)) only [hP, hgA, if_pos, go_sem, Nat.reduceAdd, Nat.reduceMul, Nat.reduceSub]
          refine Runs.call (l1In hm _ 1 _) ?_
          simp (decide := true) (maxSteps := 2000000) (disch := first | omega | (simp only [List.length_map, List.length_cons, List.length_append, List.length_nil]; omega)) only [hb, if_pos, go_sem, Nat.reduceAdd, Nat.reduceMul, Nat.reduceSub]
          exact hK
        case q1b =>
          have e : exB true path usage ho ne al de pu = false := stop (by rw [stepE, hg, hb, Bool.false_and])
          simp (decide := true) (disch := first | omega | (simp only [List.length_map, List.length_cons, List.length_append, List.length_nil]; omega)) only [if_pos, go_sem, Nat.reduceAdd, Nat.reduceMul, Nat.reduceSub]
          exact Runs.ret_eq (by rw [e])
      | true =>
        rcases Nat.eq_zero_or_pos i with h0 | h0
        · subst h0
          refine Runs.draw (st1 := ?s2b) (draws_ref (ann := leeAnn) tabOk (byL [] [1000001]) leeS (by kernel_rfl) ?p2b) ?q2b
          case p2b =>
            intro K r X hK
            simp (decide := true) (maxSteps := 2000000) (disch := first | omega | (simp only [List.length_map, List.length_cons, List.length_append, List.length_nil]; omega)) only [hP, hgA, Int.natCast_zero, if_pos, go_sem, Nat.reduceAdd, Nat.reduceMul, Nat.reduceSub]
            refine Runs.call (l1In hm _ 1 _) ?_
            have hb0 : inB pu[Int.toNat 0] 1 1000 = true := hb
            simp (decide := true) (maxSteps := 2000000) (disch := first | omega | (simp only [List.length_map, List.length_cons, List.length_append, List.length_nil]; omega)) only [hb, hb0, Int.natCast_zero, gt_iff_lt, Int.lt_irrefl, if_pos, go_sem, Nat.reduceAdd, Nat.reduceMul, Nat.reduceSub]
            exact hK
          case q2b =>
            have e : stepE pu 0 = true := by rw [stepE, hg, hb]; rfl
            rw [e, Bool.true_and] at hr1
            simp (decide := true) (disch := first | omega | (simp only [List.length_map, List.length_cons, List.length_append, List.length_nil]; omega)) only [if_pos, go_sem, Nat.reduceAdd, Nat.reduceMul, Nat.reduceSub]
            refine ih 1 _ (by omega) ⟨by omega, hr1⟩ ?_
            simp [go_sem, leeAnn, leeSt2]
        · have hd : decide ((i : Int) > 0) = true := by simp; omega
          have ht : ((i : Int) - 1).toNat = i - 1 := by omega
          have hg1 : (pu.map intA).getD (i - 1) .any = .v (.int .i64 (pu.getD (i - 1) 0)) := by simp [List.getD, show i - 1 < pu.length by omega, intA]
          cases h5 : decide (pu.getD (i - 1) 0 ≥ pu[i])
          · refine Runs.draw (st1 := ?s3b) (draws_ref (ann := leeAnn) tabOk (byL [] [1000001]) leeS (by kernel_rfl) ?p3b) ?q3b
            case p3b =>
              intro K r X hK
              simp (decide := true) (maxSteps := 2000000) (disch := first | omega | (simp only [List.length_map, List.length_cons, List.length_append, List.length_nil]; omega)) only [hP, hgA, hd, ht, hg1, if_pos, go_sem, Nat.reduceAdd, Nat.reduceMul, Nat.reduceSub]
              refine Runs.call (l1In hm _ 1 _) ?_
              simp (decide := true) (maxSteps := 2000000) (disch := first | omega | (simp only [List.length_map, List.length_cons, List.length_append, List.length_nil]; omega)) only [hP, hb, hd, ht, hg1, hgA, h5, if_pos, go_sem, Nat.reduceAdd, Nat.reduceMul, Nat.reduceSub]
              exact hK
            case q3b =>
              have e : stepE pu i = true := by rw [stepE, hg, hb]; simp at h5; simp; right; exact h5
              rw [e, Bool.true_and] at hr1
              simp (decide := true) (disch := first | omega | (simp only [List.length_map, List.length_cons, List.length_append, List.length_nil]; omega)) only [if_pos, go_sem, Nat.reduceAdd, Nat.reduceMul, Nat.reduceSub]
              refine ih (i + 1) _ (by omega) ⟨by omega, hr1⟩ ?_
              simp [go_sem, leeAnn, leeSt2]
          · refine Runs.draw (st1 := ?s4b) (draws_ref (ann := leeAnn) tabOk (byL [] [1000001]) leeS (by kernel_rfl) ?p4b) ?q4b
            case p4b =>
              intro K r X hK
              simp (decide := true) (maxSteps := 2000000) (disch := first | omega | (simp only [List.length_map, List.length_cons, List.length_append, List.length_nil]; omega)) only [hP, hgA, hd, ht, hg1, if_pos, go_sem, Nat.reduceAdd, Nat.reduceMul, Nat.reduceSub]
              refine Runs.call (l1In hm _ 1 _) ?_
              simp (decide := true) (maxSteps := 2000000) (disch := first | omega | (simp only [List.length_map, List.length_cons, List.length_append, List.length_nil]; omega)) only [hP, hb, hd, ht, hg1, hgA, h5, if_pos, go_sem, Nat.reduceAdd, Nat.reduceMul, Nat.reduceSub]
              exact hK
            case q4b =>
              have e : exB true path usage ho ne al de pu = false := stop (by rw [stepE, hg, hb]; simp at h5; simp; omega)
              simp (decide := true) (disch := first | omega | (simp only [List.length_map, List.length_cons, List.length_append, List.length_nil]; omega)) only [if_pos, go_sem, Nat.reduceAdd, Nat.reduceMul, Nat.reduceSub]
              exact Runs.ret_eq (by rw [e])
    have hge : i = pu.length := by simp at h; omega
    rw [hge, stepsE_end (Nat.le_refl _)] at hr1
    simp (decide := true) only [go_sem, Nat.reduceAdd, Nat.reduceMul, Nat.reduceSub]
    exact Runs.ret_eq (by simp only [exB, c1, c2, c3, c4, c5, c6, c7, c8, ← hr, ← stepsE_eq, ← hr1, Bool.true_and, Bool.and_true, Bool.true_or, Bool.false_or])
end Go.Proofs.W

namespace Go.Proofs.W
open Go Go.AM
set_option linter.unusedSimpArgs false
set_option linter.unusedVariables false
variable (hm : Tryz.prog.follows .mixedOrders = true)
attribute [local go_sem] exS rowS_plain rowS_dn rowO_dn

def iexAnn : Ann := [(0, [0, 1, 7, 8])]
def iexSt (f : A) (L : List (List Int)) (i : Nat) : St := ⟨[.sl .sh (L.map rowS), f, .any, .any, .any, .any, .any, .v (.int .i64 L.length), .v (.int .i64 i), .any, .any, .any, .any, .any, .any, .any, .any, .any, .any], [], []⟩
set_option maxRecDepth 10000 in
include hm in
theorem indexFuncI (g : Nat) (L : List (List Int)) (q : List Int → Bool) (h : L.length ≤ 1048576) (hq : ∀ s ∈ L, Holds Tryz.prog g [.sl .sh (s.map intA)] [] (.v (.bool (q s))) []) :
    ∃ n : Int, decide (n ≥ 0) = L.any q ∧ Holds Tryz.prog 105 [.sl .sh (L.map rowS), .v (.func (.func g) #[] #[])] [] (.v (.int .i64 n)) [] := by
  refine ⟨if L.any q = true then (L.findIdx q : Int) else -1, by cases h : L.any q <;> simp, ?_⟩
  refine holds_of (ann := iexAnn) tabOk hm Tryz.func105 (by kernel_rfl) rfl ?_
  simp (decide := true) only [Tryz.f105, go_sem, Nat.reduceAdd, Nat.reduceMul, Nat.reduceSub]
  have ha : (L.map rowS).length = L.length := List.length_map _
  refine Runs.while (α := Nat) (iexSt (.v (.func (.func g) #[] #[])) L) (fun i => L.length - i) (fun i => i ≤ L.length ∧ ∀ j (hj : j < L.length), j < i → q L[j] = false) 0 ⟨by omega, fun _ _ h => absurd h (by omega)⟩ ?_ ?_
  · simp [go_sem, iexAnn, iexSt]
  · rintro i ⟨hi, hn⟩ ih
    simp (decide := true) only [iexSt, ha, go_sem, Nat.reduceAdd, Nat.reduceMul, Nat.reduceSub]
    refine Runs.split (fun h => ?_) (fun h => ?_)
    · have hlt : i < L.length := by simpa using h
      have hg : (L.map rowS).getD i .any = .sl .sh (L[i].map intA) := by simp [List.getD, hlt, rowS]
      simp (decide := true) (disch := first | omega | (simp only [List.length_map, List.length_cons, List.length_append, List.length_nil]; omega)) only [ha, hg, if_pos, go_sem, Nat.reduceAdd, Nat.reduceMul, Nat.reduceSub]
      refine Runs.call (hq L[i] (List.getElem_mem hlt)) ?_
      cases h2 : q L[i]
      · simp (decide := true) (disch := first | omega | (simp only [List.length_map, List.length_cons, List.length_append, List.length_nil]; omega)) only [if_pos, go_sem, Nat.reduceAdd, Nat.reduceMul, Nat.reduceSub]
        refine ih (i + 1) _ (by omega) ⟨by omega, fun j hj hji => ?_⟩ ?_
        · rcases Nat.lt_or_ge j i with h3 | h3
          · exact hn j hj h3
          · have : j = i := by omega
            subst this; exact h2
        · simp [go_sem, iexAnn, iexSt]
      · simp (decide := true) (disch := first | omega | (simp only [List.length_map, List.length_cons, List.length_append, List.length_nil]; omega)) only [if_pos, go_sem, Nat.reduceAdd, Nat.reduceMul, Nat.reduceSub]
        have e1 : L.any q = true := List.any_eq_true.mpr ⟨L[i], List.getElem_mem hlt, h2⟩
        have e2 : L.findIdx q = i := (List.findIdx_eq hlt).mpr ⟨h2, fun j hj => hn j (by omega) hj⟩
        exact Runs.ret_eq (by rw [e1, e2]; rfl)
    · have hge : i = L.length := by simp at h; omega
      have e1 : L.any q = false := by
        rw [List.any_eq_false]
        intro x hx
        obtain ⟨j, hj, rfl⟩ := List.getElem_of_mem hx
        rw [hn j hj (by omega)]; simp
      simp (decide := true) only [go_sem, Nat.reduceAdd, Nat.reduceMul, Nat.reduceSub]
      exact Runs.ret_eq (by rw [e1]; rfl)
include hm in
theorem contFuncI (g : Nat) (L : List (List Int)) (q : List Int → Bool) (h : L.length ≤ 1048576) (hq : ∀ s ∈ L, Holds Tryz.prog g [.sl .sh (s.map intA)] [] (.v (.bool (q s))) []) :
    Holds Tryz.prog 76 [.sl .sh (L.map rowS), .v (.func (.func g) #[] #[])] [] (.v (.bool (L.any q))) [] := by
  refine holds_of (ann := []) tabOk hm Tryz.func76 (by kernel_rfl) rfl ?_
  simp (decide := true) only [Tryz.f76, go_sem, Nat.reduceAdd, Nat.reduceMul, Nat.reduceSub]
  obtain ⟨n, hn, hc⟩ := indexFuncI hm g L q h hq
  refine Runs.call hc ?_
  simp (decide := true) only [hn, go_sem, Nat.reduceAdd, Nat.reduceMul, Nat.reduceSub]
  exact Runs.ret_v
theorem any_not_all {α : Type} (L : List α) (q : α → Bool) : (L.any fun s => !q s) = !L.all q := by
  induction L with
  | nil => rfl
  | cons a l ih => rw [List.any_cons, List.all_cons, ih, Bool.not_and]
set_option maxRecDepth 10000 in
include hm in
theorem isAddress (L : List Int) (h : L.length ≤ 1048576) : Holds Tryz.prog 78 [.sl .sh (L.map intA)] [] (.v (.bool (addrB L))) [] := by
  refine holds_of (ann := []) tabOk hm Tryz.func78 (by kernel_rfl) rfl ?_
  have ha : (L.map intA).length = L.length := List.length_map _
  simp (decide := true) only [Tryz.f78, ha, go_sem, Nat.reduceAdd, Nat.reduceMul, Nat.reduceSub]
  cases h2 : decide ((L.length : Int) = 4)
  · simp (decide := true) only [go_sem, Nat.reduceAdd, Nat.reduceMul, Nat.reduceSub]
    exact Runs.ret_eq (by rw [addrB, h2, Bool.false_and])
  · simp (decide := true) only [go_sem, Nat.reduceAdd, Nat.reduceMul, Nat.reduceSub]
    refine Runs.call (allWithin hm L 0 255 (by omega)) ?_
    simp (decide := true) only [go_sem, Nat.reduceAdd, Nat.reduceMul, Nat.reduceSub]
    exact Runs.ret_eq (by rw [addrB, h2, Bool.true_and])
include hm in
theorem notAddress (L : List Int) (h : L.length ≤ 1048576) : Holds Tryz.prog 77 [.sl .sh (L.map intA)] [] (.v (.bool (!addrB L))) [] := by
  refine holds_of (ann := []) tabOk hm Tryz.func77 (by kernel_rfl) rfl ?_
  simp (decide := true) only [Tryz.f77, go_sem, Nat.reduceAdd, Nat.reduceMul, Nat.reduceSub]
  refine Runs.call (isAddress hm L h) ?_
  simp (decide := true) only [go_sem, Nat.reduceAdd, Nat.reduceMul, Nat.reduceSub]
  exact Runs.ret_v
set_option maxRecDepth 10000 in
include hm in
theorem areAll1 (g : Nat) (q : ByteArray → Bool) (s : ByteArray) (hq : Holds Tryz.prog g [.v (.string s)] [] (.v (.bool (q s))) []) :
    Holds Tryz.prog 98 [.v (.string s), .ptr [.v (.func (.func g) #[] #[])] 0 0] [] (.v (.bool (!q s))) [] := by
  refine holds_of (ann := []) tabOk hm Tryz.func98 (by kernel_rfl) rfl ?_
  simp (decide := true) only [Tryz.f98, go_sem, Nat.reduceAdd, Nat.reduceMul, Nat.reduceSub]
  refine Runs.call hq ?_
  simp (decide := true) only [go_sem, Nat.reduceAdd, Nat.reduceMul, Nat.reduceSub]
  exact Runs.ret_v
set_option maxRecDepth 10000 in
include hm in
theorem areAll (g : Nat) (q : ByteArray → Bool) (L : List ByteArray) (h : L.length ≤ 1048576) (hq : ∀ s ∈ L, Holds Tryz.prog g [.v (.string s)] [] (.v (.bool (q s))) []) :
    Holds Tryz.prog 73 [.sl .sh (L.map strA), .v (.func (.func g) #[] #[])] [] (.v (.bool (hostsB q L))) [] := by
  refine holds_ref (ann := []) tabOk hm (byL [] [1000003]) Tryz.func73 (by kernel_rfl) rfl ?_
  have ha : (L.map strA).length = L.length := List.length_map _
  simp (decide := true) only [Tryz.f73, ha, go_sem, Nat.reduceAdd, Nat.reduceMul, Nat.reduceSub]
  cases h2 : decide ((L.length : Int) ≤ 6)
  · simp (decide := true) only [go_sem, Nat.reduceAdd, Nat.reduceMul, Nat.reduceSub]
    exact Runs.ret_eq (by rw [hostsB, h2, Bool.and_false])
  · simp (decide := true) only [go_sem, Nat.reduceAdd, Nat.reduceMul, Nat.reduceSub]
    have c := contFunc2 hm 98 g L (fun s => !q s) h (fun s hs => areAll1 hm g q s (hq s hs))
    rw [any_not_all] at c
    refine Runs.call c ?_
    simp (decide := true) only [go_sem, Nat.reduceAdd, Nat.reduceMul, Nat.reduceSub]
    exact Runs.ret_eq (by rw [hostsB, h2, Bool.and_true, Bool.not_not])
set_option maxHeartbeats 4000000 in
set_option maxRecDepth 10000 in
include hm in
theorem extsOk (ca : Bool) (path usage : Int) (ho : List ByteArray) (ne : List (List Int)) (al de : List ByteArray) (pu : List Int) (h : ExFit ho ne al de pu)
    (s1 : ∀ s ∈ ho, s.size ≤ 1048576) (s2 : ∀ s ∈ al, s.size ≤ 1048576) (s3 : ∀ s ∈ de, s.size ≤ 1048576) :
    Holds Tryz.prog 52 [exS ca path usage ho ne al de pu] [] (.v (.bool (exB ca path usage ho ne al de pu))) [] := by
  obtain ⟨f1, f2, f3, f4, f5, f6⟩ := h
  refine holds_ref (ann := []) tabOk hm (byL [] [1000001]) Tryz.func52 (by kernel_rfl) rfl ?_
  have hN : (ne.map rowS).length = ne.length := List.length_map _
  have hP : (pu.map intA).length = pu.length := List.length_map _
  have h1 := areAll hm 74 patB ho f1 fun s hs => iPatOk hm s (s1 s hs)
  have h2 := areAll hm 75 hostB al f4 fun s hs => iHostOk hm s
  have h3 := areAll hm 75 hostB de f5 fun s hs => iHostOk hm s
  have h4 := contFuncI hm 77 ne (fun l => !addrB l) f2 fun l hl => notAddress hm l (f3 l hl)
  rw [any_not_all] at h4
  have h5 := isRising hm pu 1 1000 (by omega)
  simp (decide := true) only [Tryz.f52, hN, hP, go_sem, Nat.reduceAdd, Nat.reduceMul, Nat.reduceSub]
  refine Runs.call (within hm path (-1) 10) ?_
  cases c1 : inB path (-1) 10
  · simp (decide := true) only [go_sem, Nat.reduceAdd, Nat.reduceMul, Nat.reduceSub]
    exact Runs.ret_eq (by simp only [exB, c1, Bool.false_and])
  simp (decide := true) only [go_sem, Nat.reduceAdd, Nat.reduceMul, Nat.reduceSub]
  cases c2 : (ca || decide (path = -1))
  · simp only [Bool.or_eq_false_iff] at c2
    obtain ⟨d1, d2⟩ := c2
    subst d1
    simp (decide := true) only [d2, go_sem, Nat.reduceAdd, Nat.reduceMul, Nat.reduceSub]
    exact Runs.ret_eq (by simp only [exB, c1, d2, Bool.or_false, Bool.and_false, Bool.false_and])
  cases ca
  all_goals
    simp only [Bool.false_or, Bool.true_or] at c2
    simp (decide := true) only [c2, go_sem, Nat.reduceAdd, Nat.reduceMul, Nat.reduceSub]
    refine Runs.call (within hm usage 0 7) ?_
    cases c3 : inB usage 0 7
    · simp (decide := true) only [go_sem, Nat.reduceAdd, Nat.reduceMul, Nat.reduceSub]
      exact Runs.ret_eq (by simp only [exB, c3, Bool.and_false, Bool.false_and])
    simp (decide := true) only [go_sem, Nat.reduceAdd, Nat.reduceMul, Nat.reduceSub]
    refine Runs.call h1 ?_
    cases c4 : hostsB patB ho
    · simp (decide := true) only [go_sem, Nat.reduceAdd, Nat.reduceMul, Nat.reduceSub]
      exact Runs.ret_eq (by simp only [exB, c4, Bool.and_false, Bool.false_and])
    simp (decide := true) only [go_sem, Nat.reduceAdd, Nat.reduceMul, Nat.reduceSub]
    refine Runs.call h2 ?_
    cases c5 : hostsB hostB al
    · simp (decide := true) only [go_sem, Nat.reduceAdd, Nat.reduceMul, Nat.reduceSub]
      exact Runs.ret_eq (by simp only [exB, c5, Bool.and_false, Bool.false_and])
    simp (decide := true) only [go_sem, Nat.reduceAdd, Nat.reduceMul, Nat.reduceSub]
    refine Runs.call h3 ?_
    cases c6 : hostsB hostB de
    · simp (decide := true) only [go_sem, Nat.reduceAdd, Nat.reduceMul, Nat.reduceSub]
      exact Runs.ret_eq (by simp only [exB, c6, Bool.and_false, Bool.false_and])
    simp (decide := true) only [hN, hP, go_sem, Nat.reduceAdd, Nat.reduceMul, Nat.reduceSub]
    refine Runs.split (fun g => ?_) (fun g => ?_)
    · have c7 : decide ((ne.length : Int) ≤ 6) = false := by simp at g; simp; omega
      simp (decide := true) only [go_sem, Nat.reduceAdd, Nat.reduceMul, Nat.reduceSub]
      exact Runs.ret_eq (by simp only [exB, c7, Bool.and_false, Bool.false_and])
    have c7 : decide ((ne.length : Int) ≤ 6) = true := by simp at g; simp; omega
    simp (decide := true) only [hN, hP, go_sem, Nat.reduceAdd, Nat.reduceMul, Nat.reduceSub]
    refine Runs.call h4 ?_
    cases c8 : ne.all addrB
    · simp (decide := true) only [go_sem, Nat.reduceAdd, Nat.reduceMul, Nat.reduceSub]
      exact Runs.ret_eq (by simp only [exB, c8, Bool.and_false, Bool.false_and])
    simp (decide := true) only [hN, hP, go_sem, Nat.reduceAdd, Nat.reduceMul, Nat.reduceSub]
    cases c9 : decide ((pu.length : Int) ≤ 6)
    · simp (decide := true) only [go_sem, Nat.reduceAdd, Nat.reduceMul, Nat.reduceSub]
      exact Runs.ret_eq (by simp only [exB, c9, Bool.and_false, Bool.false_and])
    simp (decide := true) only [go_sem, Nat.reduceAdd, Nat.reduceMul, Nat.reduceSub]
    refine Runs.call h5 ?_
    simp (decide := true) only [go_sem, Nat.reduceAdd, Nat.reduceMul, Nat.reduceSub]
    exact Runs.ret_eq (by simp only [exB, risE, c1, c2, c3, c4, c5, c6, c7, c8, c9, Bool.true_and, Bool.and_true, Bool.true_or, Bool.false_or])
end Go.Proofs.W

namespace Go.Proofs.W
open Go Go.AM Go.Proofs.G
set_option linter.unusedSimpArgs false
set_option linter.unusedVariables false
variable (hm : Tryz.prog.follows .mixedOrders = true)
attribute [local go_sem] keyA keyO exS exO rowS_plain rowS_dn rowO_dn bne_self

structure GCert where
  serial : Int
  issuer : List ByteArray
  subject : List ByteArray
  from' : Int
  tu : Int
  key : GKey
  alg : Int
  ca : Bool
  path : Int
  usage : Int
  ho : List ByteArray
  ne : List (List Int)
  al : List ByteArray
  de : List ByteArray
  pu : List Int
  sig : List Int
def certA (c : GCert) : A := .agg [.v (.int .i64 c.serial), .sl .sh (c.issuer.map strA), .sl .sh (c.subject.map strA), .v (.int .i64 c.from'), .v (.int .i64 c.tu), .v (.int .i64 c.key.kind), .sl .sh (c.key.N.map intA), .v (.int .i64 c.key.e), .v (.int .i64 c.key.cv.p), .v (.int .i64 c.key.cv.a), .v (.int .i64 c.key.cv.b), .v (.int .i64 c.key.cv.n), .v (.int .i64 c.key.cv.gx), .v (.int .i64 c.key.cv.gy), .v (.int .i64 c.key.q.x), .v (.int .i64 c.key.q.y), .v (.bool c.key.q.far), .v (.int .i64 c.key.ed.p), .v (.int .i64 c.key.ed.d), .v (.int .i64 c.key.ed.l), .v (.int .i64 c.key.ed.bx), .v (.int .i64 c.key.ed.by'), .v (.int .i64 c.key.a.1), .v (.int .i64 c.key.a.2), .v (.int .i64 c.alg), .v (.bool c.ca), .v (.int .i64 c.path), .v (.int .i64 c.usage), .sl .sh (c.ho.map strA), .sl .sh (c.ne.map rowS), .sl .sh (c.al.map strA), .sl .sh (c.de.map strA), .sl .sh (c.pu.map intA), .sl .sh (c.sig.map u8A)]
def certO (c : GCert) : A := .agg [.v (.int .i64 c.serial), .sl (.ow 1) (c.issuer.map strA), .sl (.ow 1) (c.subject.map strA), .v (.int .i64 c.from'), .v (.int .i64 c.tu), .v (.int .i64 c.key.kind), .sl (.ow 1) (c.key.N.map intA), .v (.int .i64 c.key.e), .v (.int .i64 c.key.cv.p), .v (.int .i64 c.key.cv.a), .v (.int .i64 c.key.cv.b), .v (.int .i64 c.key.cv.n), .v (.int .i64 c.key.cv.gx), .v (.int .i64 c.key.cv.gy), .v (.int .i64 c.key.q.x), .v (.int .i64 c.key.q.y), .v (.bool c.key.q.far), .v (.int .i64 c.key.ed.p), .v (.int .i64 c.key.ed.d), .v (.int .i64 c.key.ed.l), .v (.int .i64 c.key.ed.bx), .v (.int .i64 c.key.ed.by'), .v (.int .i64 c.key.a.1), .v (.int .i64 c.key.a.2), .v (.int .i64 c.alg), .v (.bool c.ca), .v (.int .i64 c.path), .v (.int .i64 c.usage), .sl (.ow 1) (c.ho.map strA), .sl (.ow 1) (c.ne.map rowO), .sl (.ow 1) (c.al.map strA), .sl (.ow 1) (c.de.map strA), .sl (.ow 1) (c.pu.map intA), .sl (.ow 1) (c.sig.map u8A)]
attribute [local go_sem] certA certO
noncomputable def certB (c : GCert) : Bool := inB c.serial 1 1000000000000000 && nameOk c.issuer && nameOk c.subject && inB c.from' (-631152000) 4102444799 && inB c.tu (-631152000) 4102444799 && decide (c.from' ≤ c.tu) && keyB c.key && inB c.alg 1 4 && exB c.ca c.path c.usage c.ho c.ne c.al c.de c.pu && inB c.sig.length 1 64
/-- What every argument of Go keeps to. -/
def CertIn (c : GCert) : Prop :=
  (c.issuer.length ≤ 9223372036854775807 ∧ ∀ s ∈ c.issuer, s.size ≤ 9223372036854775807) ∧ (c.subject.length ≤ 9223372036854775807 ∧ ∀ s ∈ c.subject, s.size ≤ 9223372036854775807) ∧ c.key.N.length ≤ 9223372036854775807 ∧
  (c.ho.length ≤ 9223372036854775807 ∧ ∀ s ∈ c.ho, s.size ≤ 9223372036854775807) ∧ (c.ne.length ≤ 9223372036854775807 ∧ ∀ s ∈ c.ne, s.length ≤ 9223372036854775807) ∧ (c.al.length ≤ 9223372036854775807 ∧ ∀ s ∈ c.al, s.size ≤ 9223372036854775807) ∧
  (c.de.length ≤ 9223372036854775807 ∧ ∀ s ∈ c.de, s.size ≤ 9223372036854775807) ∧ c.pu.length ≤ 9223372036854775807 ∧ c.sig.length ≤ 9223372036854775807
/-- What the law's guard lets in. -/
def CertFit (c : GCert) : Prop :=
  (c.issuer.length ≤ 1048576 ∧ ∀ s ∈ c.issuer, s.size ≤ 1048576) ∧ (c.subject.length ≤ 1048576 ∧ ∀ s ∈ c.subject, s.size ≤ 1048576) ∧ c.key.N.length ≤ 1048576 ∧ ExFit c.ho c.ne c.al c.de c.pu ∧
  (∀ s ∈ c.ho, s.size ≤ 1048576) ∧ (∀ s ∈ c.al, s.size ≤ 1048576) ∧ (∀ s ∈ c.de, s.size ≤ 1048576) ∧ c.sig.length ≤ 1048576
theorem szGo_sz (L : List ByteArray) (l : Int) (h : 0 ≤ l) (h2 : 0 ≤ szGo L l) : ∀ s ∈ L, (s.size : Int) ≤ l := by
  induction L generalizing l with
  | nil => simp
  | cons a r ih =>
    simp only [szGo] at h2
    split at h2
    · omega
    · intro s hs
      rcases List.mem_cons.mp hs with e | e
      · subst e; omega
      · have := ih (l - a.size) (by omega) h2 s e; omega
theorem szS_sz (L : List ByteArray) (l : Int) (h : 0 ≤ l) (hl : l ≤ 1048576) (h2 : ¬ szS L l < 0) : ∀ s ∈ L, s.size ≤ 1048576 := by
  unfold szS at h2
  split at h2
  · exact absurd (by omega) h2
  · intro s hs
    have := szGo_sz L (l - L.length) (by omega) (by omega) s hs
    omega
theorem szExV_sz (ho : List ByteArray) (ne : List (List Int)) (al de : List ByteArray) (pu : List Int) (left : Int) (h : 0 ≤ left) (h2 : left ≤ 1048576) (h3 : ¬ szExV ho ne al de pu left < 0) :
    (∀ s ∈ ho, s.size ≤ 1048576) ∧ (∀ s ∈ al, s.size ≤ 1048576) ∧ (∀ s ∈ de, s.size ≤ 1048576) := by
  have b1 := szS_le ho left h
  unfold szExV at h3
  split at h3
  · omega
  rename_i e1
  have b2 := szSS_le ne (szS ho left) (by omega)
  split at h3
  · omega
  rename_i e2
  have b3 := szS_le al (szSS ne (szS ho left)) (by omega)
  split at h3
  · omega
  rename_i e3
  split at h3
  · omega
  rename_i e4
  exact ⟨szS_sz ho left h h2 e1, szS_sz al _ (by omega) (by omega) e3, szS_sz de _ (by omega) (by omega) e4⟩
def szCertV (c : GCert) (left : Int) : Int :=
  if szS c.issuer left < 0 then -1 else if szS c.subject (szS c.issuer left) < 0 then -1 else if szI c.key.N.length (szS c.subject (szS c.issuer left)) < 0 then -1 else
  if szExV c.ho c.ne c.al c.de c.pu (szI c.key.N.length (szS c.subject (szS c.issuer left))) < 0 then -1 else szI c.sig.length (szExV c.ho c.ne c.al c.de c.pu (szI c.key.N.length (szS c.subject (szS c.issuer left))))
theorem szCertV_fit (c : GCert) (left : Int) (h : 0 ≤ left) (h2 : left ≤ 1048576) (h3 : ¬ szCertV c left < 0) : CertFit c := by
  have b1 := szS_le c.issuer left h
  unfold szCertV at h3
  split at h3
  · omega
  rename_i e1
  have b2 := szS_le c.subject (szS c.issuer left) (by omega)
  split at h3
  · omega
  rename_i e2
  have b3 := szI_le c.key.N.length (szS c.subject (szS c.issuer left)) (by omega)
  split at h3
  · omega
  rename_i e3
  have b4 := szExV_le c.ho c.ne c.al c.de c.pu (szI c.key.N.length (szS c.subject (szS c.issuer left))) (by omega) (by omega)
  split at h3
  · omega
  rename_i e4
  have k4 := szExV_sz c.ho c.ne c.al c.de c.pu _ (by omega) (by omega) e4
  exact ⟨⟨szS_len _ _ e1 (by omega), szS_sz _ _ (by omega) (by omega) e1⟩, ⟨szS_len _ _ e2 (by omega), szS_sz _ _ (by omega) (by omega) e2⟩, szI_len _ _ e3 (by omega), b4.2.2 e4, k4.1, k4.2.1, k4.2.2, szI_len _ _ h3 (by omega)⟩
set_option maxHeartbeats 4000000 in
set_option maxRecDepth 10000 in
include hm in
theorem szCert (c : GCert) (left : Int) (l1 : 0 ≤ left) (l2 : left ≤ 1048576) (h : CertIn c) : Holds Tryz.prog 9 [certA c, .v (.int .i64 left)] [] (.v (.int .i64 (szCertV c left))) [] := by
  obtain ⟨⟨i1, i2⟩, ⟨j1, j2⟩, kn, ⟨o1, o2⟩, ⟨n1, n2⟩, ⟨a1, a2⟩, ⟨d1, d2⟩, p1, g1⟩ := h
  have b1 := szS_le c.issuer left l1
  refine holds_ref (ann := []) tabOk hm (byL [] [1000002]) Tryz.func9 (by kernel_rfl) rfl ?_
  simp (decide := true) only [Tryz.f9, go_sem, Nat.reduceAdd, Nat.reduceMul, Nat.reduceSub]
  refine Runs.call (szStringS hm c.issuer left l1 l2 i1 i2) ?_
  simp (decide := true) only [go_sem, Nat.reduceAdd, Nat.reduceMul, Nat.reduceSub]
  refine Runs.split (fun e => ?_) (fun e => ?_)
  · simp only [decide_eq_true_eq] at e
    simp (decide := true) only [szCertV, if_pos e, go_sem, Nat.reduceAdd, Nat.reduceMul, Nat.reduceSub]
    exact Runs.ret_v
  simp only [decide_eq_false_iff_not] at e
  have b2 := szS_le c.subject (szS c.issuer left) (by omega)
  simp (decide := true) only [go_sem, Nat.reduceAdd, Nat.reduceMul, Nat.reduceSub]
  refine Runs.call (szStringS hm c.subject _ (by omega) (by omega) j1 j2) ?_
  simp (decide := true) only [go_sem, Nat.reduceAdd, Nat.reduceMul, Nat.reduceSub]
  refine Runs.split (fun e2 => ?_) (fun e2 => ?_)
  · simp only [decide_eq_true_eq] at e2
    simp (decide := true) only [szCertV, if_neg e, if_pos e2, go_sem, Nat.reduceAdd, Nat.reduceMul, Nat.reduceSub]
    exact Runs.ret_v
  simp only [decide_eq_false_iff_not] at e2
  have b3 := szI_le c.key.N.length (szS c.subject (szS c.issuer left)) (by omega)
  have ck := szKey hm c.key (szS c.subject (szS c.issuer left)) (by omega) (by omega) kn
  rw [keyA] at ck
  simp (decide := true) only [go_sem, Nat.reduceAdd, Nat.reduceMul, Nat.reduceSub]
  refine Runs.call ck ?_
  simp (decide := true) only [go_sem, Nat.reduceAdd, Nat.reduceMul, Nat.reduceSub]
  refine Runs.split (fun e3 => ?_) (fun e3 => ?_)
  · simp only [decide_eq_true_eq] at e3
    simp (decide := true) only [szCertV, if_neg e, if_neg e2, if_pos e3, go_sem, Nat.reduceAdd, Nat.reduceMul, Nat.reduceSub]
    exact Runs.ret_v
  simp only [decide_eq_false_iff_not] at e3
  have b4 := szExV_le c.ho c.ne c.al c.de c.pu (szI c.key.N.length (szS c.subject (szS c.issuer left))) (by omega) (by omega)
  have cx := szExts hm c.ca c.path c.usage c.ho c.ne c.al c.de c.pu (szI c.key.N.length (szS c.subject (szS c.issuer left))) (by omega) (by omega) o1 o2 n1 n2 a1 a2 d1 d2 p1
  rw [exS] at cx
  simp (decide := true) only [go_sem, Nat.reduceAdd, Nat.reduceMul, Nat.reduceSub]
  refine Runs.call cx ?_
  simp (decide := true) only [go_sem, Nat.reduceAdd, Nat.reduceMul, Nat.reduceSub]
  refine Runs.split (fun e4 => ?_) (fun e4 => ?_)
  · simp only [decide_eq_true_eq] at e4
    simp (decide := true) only [szCertV, if_neg e, if_neg e2, if_neg e3, if_pos e4, go_sem, Nat.reduceAdd, Nat.reduceMul, Nat.reduceSub]
    exact Runs.ret_v
  simp only [decide_eq_false_iff_not] at e4
  have b5 := szI_le c.sig.length (szExV c.ho c.ne c.al c.de c.pu (szI c.key.N.length (szS c.subject (szS c.issuer left)))) (by omega)
  simp (decide := true) only [go_sem, Nat.reduceAdd, Nat.reduceMul, Nat.reduceSub]
  refine Runs.call (szByteS hm (c.sig.map u8A) _ (by omega) (by omega) (by simpa using g1)) ?_
  simp (decide := true) only [List.length_map, go_sem, Nat.reduceAdd, Nat.reduceMul, Nat.reduceSub]
  refine Runs.split (fun e5 => ?_) (fun e5 => ?_)
  · simp only [decide_eq_true_eq] at e5
    refine Runs.ret_eq ?_ |> fun h => by simp (decide := true) only [go_sem, Nat.reduceAdd, Nat.reduceMul, Nat.reduceSub]; exact h
    have e6 : szI c.sig.length (szExV c.ho c.ne c.al c.de c.pu (szI c.key.N.length (szS c.subject (szS c.issuer left)))) = -1 := by omega
    rw [szCertV, if_neg e, if_neg e2, if_neg e3, if_neg e4, e6]
  simp (decide := true) only [szCertV, if_neg e, if_neg e2, if_neg e3, if_neg e4, go_sem, Nat.reduceAdd, Nat.reduceMul, Nat.reduceSub]
  exact Runs.ret_v
set_option maxHeartbeats 4000000 in
set_option maxRecDepth 10000 in
include hm in
theorem toCert (c : GCert) (h : CertFit c) : Holds Tryz.prog 12 [certA c] [] (certO c) [] := by
  obtain ⟨⟨i1, i2⟩, ⟨j1, j2⟩, kn, hx, s1, s2, s3, g1⟩ := h
  refine holds_ref (ann := []) tabOk hm (byL [] [1000001]) Tryz.func12 (by kernel_rfl) rfl ?_
  have ck := toKey hm c.key kn
  rw [keyA, keyO] at ck
  have cx := toExts hm c.ca c.path c.usage c.ho c.ne c.al c.de c.pu hx
  rw [exS, exO] at cx
  simp (decide := true) only [Tryz.f12, go_sem, Nat.reduceAdd, Nat.reduceMul, Nat.reduceSub]
  refine Runs.call (toStringS hm c.issuer i1) ?_
  simp (decide := true) only [go_sem, Nat.reduceAdd, Nat.reduceMul, Nat.reduceSub]
  refine Runs.call (toStringS hm c.subject j1) ?_
  simp (decide := true) only [go_sem, Nat.reduceAdd, Nat.reduceMul, Nat.reduceSub]
  refine Runs.call ck ?_
  simp (decide := true) only [go_sem, Nat.reduceAdd, Nat.reduceMul, Nat.reduceSub]
  refine Runs.call cx ?_
  simp (decide := true) only [go_sem, Nat.reduceAdd, Nat.reduceMul, Nat.reduceSub]
  refine Runs.call (toByteS hm c.sig g1) ?_
  simp (decide := true) only [go_sem, Nat.reduceAdd, Nat.reduceMul, Nat.reduceSub]
  exact Runs.ret_refl
set_option maxHeartbeats 4000000 in
set_option maxRecDepth 10000 in
include hm in
theorem eqCert (c : GCert) (h : CertFit c) : Holds Tryz.prog 15 [certA c, certA c] [] (.v (.bool true)) [] := by
  obtain ⟨⟨i1, i2⟩, ⟨j1, j2⟩, kn, hx, s1, s2, s3, g1⟩ := h
  refine holds_ref (ann := []) tabOk hm (byL [] [1000002, 1000003]) Tryz.func15 (by kernel_rfl) rfl ?_
  have ck := eqKey hm c.key kn
  rw [keyA] at ck
  have cx := eqExts hm c.ca c.path c.usage c.ho c.ne c.al c.de c.pu hx
  rw [exS] at cx
  simp (decide := true) only [Tryz.f15, go_sem, Nat.reduceAdd, Nat.reduceMul, Nat.reduceSub]
  refine Runs.call (eqStringS hm c.issuer (by omega)) ?_
  simp (decide := true) only [go_sem, Nat.reduceAdd, Nat.reduceMul, Nat.reduceSub]
  refine Runs.call (eqStringS hm c.subject (by omega)) ?_
  simp (decide := true) only [go_sem, Nat.reduceAdd, Nat.reduceMul, Nat.reduceSub]
  refine Runs.call ck ?_
  simp (decide := true) only [go_sem, Nat.reduceAdd, Nat.reduceMul, Nat.reduceSub]
  refine Runs.call cx ?_
  simp (decide := true) only [go_sem, Nat.reduceAdd, Nat.reduceMul, Nat.reduceSub]
  refine Runs.call (eqByteS hm c.sig (by omega)) ?_
  simp (decide := true) only [go_sem, Nat.reduceAdd, Nat.reduceMul, Nat.reduceSub]
  exact Runs.ret_v
set_option maxHeartbeats 4000000 in
set_option maxRecDepth 10000 in
include hm in
theorem sCertOk (c : GCert) (h : CertFit c) : Holds Tryz.prog 20 [certA c] [] (.v (.bool (certB c))) [] := by
  obtain ⟨⟨i1, i2⟩, ⟨j1, j2⟩, kn, hx, s1, s2, s3, g1⟩ := h
  refine holds_ref (ann := []) tabOk hm (byL [] [1000001]) Tryz.func20 (by kernel_rfl) rfl ?_
  have ck := sKeyOk hm c.key (by omega)
  rw [keyA] at ck
  have cx := l10Exts hm c.ca c.path c.usage c.ho c.ne c.al c.de c.pu hx s1 s2 s3
  rw [exS] at cx
  have hl : (c.sig.map u8A).length = c.sig.length := List.length_map _
  simp (decide := true) only [Tryz.f20, go_sem, Nat.reduceAdd, Nat.reduceMul, Nat.reduceSub]
  refine Runs.call (l1In hm c.serial 1 1000000000000000) ?_
  cases c1 : inB c.serial 1 1000000000000000
  · simp (decide := true) only [go_sem, Nat.reduceAdd, Nat.reduceMul, Nat.reduceSub]
    exact Runs.ret_eq (by simp only [certB, c1, Bool.false_and])
  simp (decide := true) only [go_sem, Nat.reduceAdd, Nat.reduceMul, Nat.reduceSub]
  refine Runs.call (l10Name hm c.issuer (by omega) (fun s hs => by have := i2 s hs; omega)) ?_
  cases c2 : nameOk c.issuer
  · simp (decide := true) only [go_sem, Nat.reduceAdd, Nat.reduceMul, Nat.reduceSub]
    exact Runs.ret_eq (by simp only [certB, c2, Bool.and_false, Bool.false_and])
  simp (decide := true) only [go_sem, Nat.reduceAdd, Nat.reduceMul, Nat.reduceSub]
  refine Runs.call (l10Name hm c.subject (by omega) (fun s hs => by have := j2 s hs; omega)) ?_
  cases c3 : nameOk c.subject
  · simp (decide := true) only [go_sem, Nat.reduceAdd, Nat.reduceMul, Nat.reduceSub]
    exact Runs.ret_eq (by simp only [certB, c3, Bool.and_false, Bool.false_and])
  simp (decide := true) only [go_sem, Nat.reduceAdd, Nat.reduceMul, Nat.reduceSub]
  refine Runs.call (l9Ok hm c.from') ?_
  cases c4 : inB c.from' (-631152000) 4102444799
  · simp (decide := true) only [go_sem, Nat.reduceAdd, Nat.reduceMul, Nat.reduceSub]
    exact Runs.ret_eq (by simp only [certB, c4, Bool.and_false, Bool.false_and])
  simp (decide := true) only [go_sem, Nat.reduceAdd, Nat.reduceMul, Nat.reduceSub]
  refine Runs.call (l9Ok hm c.tu) ?_
  cases c5 : inB c.tu (-631152000) 4102444799
  · simp (decide := true) only [go_sem, Nat.reduceAdd, Nat.reduceMul, Nat.reduceSub]
    exact Runs.ret_eq (by simp only [certB, c5, Bool.and_false, Bool.false_and])
  simp (decide := true) only [go_sem, Nat.reduceAdd, Nat.reduceMul, Nat.reduceSub]
  cases c6 : decide (c.from' ≤ c.tu)
  · simp (decide := true) only [go_sem, Nat.reduceAdd, Nat.reduceMul, Nat.reduceSub]
    exact Runs.ret_eq (by simp only [certB, c6, Bool.and_false, Bool.false_and])
  simp (decide := true) only [go_sem, Nat.reduceAdd, Nat.reduceMul, Nat.reduceSub]
  refine Runs.call ck ?_
  cases c7 : keyB c.key
  · simp (decide := true) only [go_sem, Nat.reduceAdd, Nat.reduceMul, Nat.reduceSub]
    exact Runs.ret_eq (by simp only [certB, c7, Bool.and_false, Bool.false_and])
  simp (decide := true) only [hl, go_sem, Nat.reduceAdd, Nat.reduceMul, Nat.reduceSub]
  refine Runs.call (l1In hm c.alg 1 4) ?_
  cases c8 : inB c.alg 1 4
  · simp (decide := true) only [go_sem, Nat.reduceAdd, Nat.reduceMul, Nat.reduceSub]
    exact Runs.ret_eq (by simp only [certB, c8, Bool.and_false, Bool.false_and])
  simp (decide := true) only [hl, go_sem, Nat.reduceAdd, Nat.reduceMul, Nat.reduceSub]
  refine Runs.call cx ?_
  cases c9 : exB c.ca c.path c.usage c.ho c.ne c.al c.de c.pu
  · simp (decide := true) only [go_sem, Nat.reduceAdd, Nat.reduceMul, Nat.reduceSub]
    exact Runs.ret_eq (by simp only [certB, c9, Bool.and_false, Bool.false_and])
  simp (decide := true) only [hl, go_sem, Nat.reduceAdd, Nat.reduceMul, Nat.reduceSub]
  refine Runs.call (l1In hm _ 1 64) ?_
  cases c10 : inB c.sig.length 1 64
  · simp (decide := true) only [go_sem, Nat.reduceAdd, Nat.reduceMul, Nat.reduceSub]
    exact Runs.ret_eq (by simp only [certB, c10, Bool.and_false, Bool.false_and])
  simp (decide := true) only [hl, go_sem, Nat.reduceAdd, Nat.reduceMul, Nat.reduceSub]
  exact Runs.ret_eq (by simp only [certB, c1, c2, c3, c4, c5, c6, c7, c8, c9, c10, Bool.true_and])
set_option maxHeartbeats 4000000 in
set_option maxRecDepth 10000 in
include hm in
theorem iCertOk (c : GCert) (h : CertFit c) : Holds Tryz.prog 30 [certA c] [] (.v (.bool (certB c))) [] := by
  obtain ⟨⟨i1, i2⟩, ⟨j1, j2⟩, kn, hx, s1, s2, s3, g1⟩ := h
  refine holds_ref (ann := []) tabOk hm (byL [] [1000001]) Tryz.func30 (by kernel_rfl) rfl ?_
  have ck := iKeyOk hm c.key (by omega)
  rw [keyA] at ck
  have cx := extsOk hm c.ca c.path c.usage c.ho c.ne c.al c.de c.pu hx s1 s2 s3
  rw [exS] at cx
  have hl : (c.sig.map u8A).length = c.sig.length := List.length_map _
  simp (decide := true) only [Tryz.f30, go_sem, Nat.reduceAdd, Nat.reduceMul, Nat.reduceSub]
  refine Runs.call (within hm c.serial 1 1000000000000000) ?_
  cases c1 : inB c.serial 1 1000000000000000
  · simp (decide := true) only [go_sem, Nat.reduceAdd, Nat.reduceMul, Nat.reduceSub]
    exact Runs.ret_eq (by simp only [certB, c1, Bool.false_and])
  simp (decide := true) only [go_sem, Nat.reduceAdd, Nat.reduceMul, Nat.reduceSub]
  refine Runs.call (isName hm c.issuer (by omega) (fun s hs => by have := i2 s hs; omega)) ?_
  cases c2 : nameOk c.issuer
  · simp (decide := true) only [go_sem, Nat.reduceAdd, Nat.reduceMul, Nat.reduceSub]
    exact Runs.ret_eq (by simp only [certB, c2, Bool.and_false, Bool.false_and])
  simp (decide := true) only [go_sem, Nat.reduceAdd, Nat.reduceMul, Nat.reduceSub]
  refine Runs.call (isName hm c.subject (by omega) (fun s hs => by have := j2 s hs; omega)) ?_
  cases c3 : nameOk c.subject
  · simp (decide := true) only [go_sem, Nat.reduceAdd, Nat.reduceMul, Nat.reduceSub]
    exact Runs.ret_eq (by simp only [certB, c3, Bool.and_false, Bool.false_and])
  simp (decide := true) only [go_sem, Nat.reduceAdd, Nat.reduceMul, Nat.reduceSub]
  refine Runs.call (isTime hm c.from') ?_
  cases c4 : inB c.from' (-631152000) 4102444799
  · simp (decide := true) only [go_sem, Nat.reduceAdd, Nat.reduceMul, Nat.reduceSub]
    exact Runs.ret_eq (by simp only [certB, c4, Bool.and_false, Bool.false_and])
  simp (decide := true) only [go_sem, Nat.reduceAdd, Nat.reduceMul, Nat.reduceSub]
  refine Runs.call (isTime hm c.tu) ?_
  cases c5 : inB c.tu (-631152000) 4102444799
  · simp (decide := true) only [go_sem, Nat.reduceAdd, Nat.reduceMul, Nat.reduceSub]
    exact Runs.ret_eq (by simp only [certB, c5, Bool.and_false, Bool.false_and])
  simp (decide := true) only [go_sem, Nat.reduceAdd, Nat.reduceMul, Nat.reduceSub]
  cases c6 : decide (c.from' ≤ c.tu)
  · simp (decide := true) only [go_sem, Nat.reduceAdd, Nat.reduceMul, Nat.reduceSub]
    exact Runs.ret_eq (by simp only [certB, c6, Bool.and_false, Bool.false_and])
  simp (decide := true) only [go_sem, Nat.reduceAdd, Nat.reduceMul, Nat.reduceSub]
  refine Runs.call (within hm c.alg 1 4) ?_
  cases c8 : inB c.alg 1 4
  · simp (decide := true) only [go_sem, Nat.reduceAdd, Nat.reduceMul, Nat.reduceSub]
    exact Runs.ret_eq (by simp only [certB, c8, Bool.and_false, Bool.false_and])
  simp (decide := true) only [hl, go_sem, Nat.reduceAdd, Nat.reduceMul, Nat.reduceSub]
  refine Runs.call cx ?_
  cases c9 : exB c.ca c.path c.usage c.ho c.ne c.al c.de c.pu
  · simp (decide := true) only [go_sem, Nat.reduceAdd, Nat.reduceMul, Nat.reduceSub]
    exact Runs.ret_eq (by simp only [certB, c9, Bool.and_false, Bool.false_and])
  simp (decide := true) only [hl, go_sem, Nat.reduceAdd, Nat.reduceMul, Nat.reduceSub]
  refine Runs.call (by have q := isSig hm (c.sig.map u8A); rw [hl] at q; exact q) ?_
  cases c10 : inB c.sig.length 1 64
  · simp (decide := true) only [go_sem, Nat.reduceAdd, Nat.reduceMul, Nat.reduceSub]
    exact Runs.ret_eq (by simp only [certB, c10, Bool.and_false, Bool.false_and])
  simp (decide := true) only [hl, go_sem, Nat.reduceAdd, Nat.reduceMul, Nat.reduceSub]
  refine Runs.call ck ?_
  cases c7 : keyB c.key
  · simp (decide := true) only [go_sem, Nat.reduceAdd, Nat.reduceMul, Nat.reduceSub]
    exact Runs.ret_eq (by simp only [certB, c7, Bool.and_false, Bool.false_and])
  simp (decide := true) only [hl, go_sem, Nat.reduceAdd, Nat.reduceMul, Nat.reduceSub]
  exact Runs.ret_eq (by simp only [certB, c1, c2, c3, c4, c5, c6, c7, c8, c9, c10, Bool.true_and])
end Go.Proofs.W

namespace Go.Proofs.W
open Go Go.AM Go.Proofs.G
set_option linter.unusedSimpArgs false
set_option linter.unusedVariables false
variable (hm : Tryz.prog.follows .mixedOrders = true)
attribute [local go_sem] rowS_plain rowS_dn rowO_dn bne_self
def certZ : A := .agg [.v (.int .i64 0), .v (.slice none 0 0), .v (.slice none 0 0), .v (.int .i64 0), .v (.int .i64 0), .v (.int .i64 0), .v (.slice none 0 0), .v (.int .i64 0), .v (.int .i64 0), .v (.int .i64 0), .v (.int .i64 0), .v (.int .i64 0), .v (.int .i64 0), .v (.int .i64 0), .v (.int .i64 0), .v (.int .i64 0), .v (.bool false), .v (.int .i64 0), .v (.int .i64 0), .v (.int .i64 0), .v (.int .i64 0), .v (.int .i64 0), .v (.int .i64 0), .v (.int .i64 0), .v (.int .i64 0), .v (.bool false), .v (.int .i64 0), .v (.int .i64 0), .v (.slice none 0 0), .v (.slice none 0 0), .v (.slice none 0 0), .v (.slice none 0 0), .v (.slice none 0 0), .v (.slice none 0 0)]
theorem rowO_md (ne : List (List Int)) : mdL (ne.map rowO) = ne.map rowO := by
  rw [mdL_eq, List.map_map]
  congr 1
  funext l
  simp [rowO, A.md, md_intA]
theorem rowO_fr (ne : List (List Int)) : freeL (ne.map rowO) = true := by
  induction ne with
  | nil => rfl
  | cons a l ih => simp [freeL, ih, rowO, A.free, fr_intA]
theorem certA_dn (c : GCert) : (certA c).dn = certA c := by simp [certA, A.dn, dnL, dn_strA, rowS_dn, dn_intA, dn_u8A]
theorem certO_dn (c : GCert) : (certO c).dn = certA c := by simp [certA, certO, A.dn, dnL, dn_strA, rowO_dn, dn_intA, dn_u8A]
theorem certO_md (c : GCert) : (certO c).md = certO c := by simp [certO, A.md, mdL, md_strA, rowO_md, md_intA, md_u8A]
theorem certA_len (c : GCert) : (certA c).cells.length = 34 := rfl
theorem certO_len (c : GCert) : (certO c).cells.length = 34 := rfl
theorem certsA_dn (L : List GCert) : dnL (L.map certA) = L.map certA := by rw [dnL_map]; simp only [certA_dn]
theorem certsO_dn (L : List GCert) : dnL (L.map certO) = L.map certA := by rw [dnL_map]; simp only [certO_dn]
theorem certsO_md (L : List GCert) : mdL (L.map certO) = L.map certO := by rw [mdL_eq, List.map_map]; congr 1; funext c; exact certO_md c
theorem certA_plain (c : GCert) : (certA c).plain = true := by simp [certA, A.plain, plainL, pl_strA, rowS_plain, pl_intA, pl_u8A, Sh.own]
theorem certsA_plain (L : List GCert) : plainL (L.map certA) = true := by rw [plainL_map]; simp [certA_plain]
theorem certsA_all (L : List GCert) : ((L.map certA).all fun a => a.cells.length == 34) = true := by simp [certA_len]
attribute [local go_sem] certsA_dn certsO_dn certsO_md certsA_plain certsA_all rowO_md
theorem szCertV_le (c : GCert) (l : Int) (h : 0 ≤ l) (h2 : l ≤ 1048576) : szCertV c l ≤ l ∧ -1 ≤ szCertV c l := by
  have b1 := szS_le c.issuer l h
  unfold szCertV
  split
  · omega
  have b2 := szS_le c.subject (szS c.issuer l) (by omega)
  split
  · omega
  have b3 := szI_le c.key.N.length (szS c.subject (szS c.issuer l)) (by omega)
  split
  · omega
  have b4 := szExV_le c.ho c.ne c.al c.de c.pu (szI c.key.N.length (szS c.subject (szS c.issuer l))) (by omega) (by omega)
  split
  · omega
  have b5 := szI_le c.sig.length (szExV c.ho c.ne c.al c.de c.pu (szI c.key.N.length (szS c.subject (szS c.issuer l)))) (by omega)
  omega
def szCG : List GCert → Int → Int
  | [], l => l
  | c :: r, l => if szCertV c l < 0 then -1 else szCG r (szCertV c l)
def szCSV (L : List GCert) (left : Int) : Int := if left - L.length < 0 then -1 else szCG L (left - L.length)
theorem szCG_le (L : List GCert) (l : Int) (h : 0 ≤ l) (h2 : l ≤ 1048576) : szCG L l ≤ l ∧ -1 ≤ szCG L l ∧ (¬ szCG L l < 0 → ∀ c ∈ L, CertFit c) := by
  induction L generalizing l with
  | nil => simp [szCG]; omega
  | cons c r ih =>
    simp only [szCG]
    have hs := szCertV_le c l h h2
    split
    · exact ⟨by omega, by omega, fun h => absurd (by omega) h⟩
    · rename_i h3
      have := ih (szCertV c l) (by omega) (by omega)
      refine ⟨by omega, by omega, fun h4 x hx => ?_⟩
      rcases List.mem_cons.mp hx with e | e
      · subst e; exact szCertV_fit x l h h2 h3
      · exact this.2.2 h4 x e
theorem szCSV_le (L : List GCert) (l : Int) (h : 0 ≤ l) (h2 : l ≤ 1048576) : szCSV L l ≤ l ∧ -1 ≤ szCSV L l ∧ (¬ szCSV L l < 0 → L.length ≤ 1048576 ∧ ∀ c ∈ L, CertFit c) := by
  unfold szCSV
  split
  · exact ⟨by omega, by omega, fun h => absurd (by omega) h⟩
  · have := szCG_le L (l - L.length) (by omega) (by omega)
    exact ⟨by omega, by omega, fun h3 => ⟨by omega, this.2.2 h3⟩⟩
def csAnn : Ann := [(0, [0, 1, 5])]
def csSt (L : List GCert) (p : Nat × Int) : St := ⟨[.sl .sh (L.map certA), .v (.int .i64 p.2), .any, .any, .any, .v (.int .i64 p.1), .any, .any, .any, .any, .any, .any, .any, .any, .any, .any, .any, .any, .any, .any, .any, .any, .any, .any, .any, .any, .any], [], []⟩
set_option maxHeartbeats 2000000 in
set_option maxRecDepth 10000 in
include hm in
theorem szCertS (L : List GCert) (left : Int) (h1 : 0 ≤ left) (h2 : left ≤ 1048576) (h3 : L.length ≤ 9223372036854775807) (h4 : ∀ c ∈ L, CertIn c) :
    Holds Tryz.prog 4 [.sl .sh (L.map certA), .v (.int .i64 left)] [] (.v (.int .i64 (szCSV L left))) [] := by
  refine holds_of (ann := csAnn) tabOk hm Tryz.func4 (by kernel_rfl) rfl ?_
  have hlen : (L.map certA).length = L.length := List.length_map _
  simp (decide := true) (disch := first | omega | (simp only [List.length_map, List.length_cons, List.length_append, List.length_nil]; omega)) only [Tryz.f4, hlen, if_pos, go_sem, Nat.reduceAdd, Nat.reduceMul, Nat.reduceSub]
  refine Runs.split (fun h => ?_) (fun h => ?_)
  · simp only [decide_eq_true_eq] at h
    simp (decide := true) only [szCSV, if_pos h, go_sem, Nat.reduceAdd, Nat.reduceMul, Nat.reduceSub]
    exact Runs.ret_v
  · simp only [decide_eq_false_iff_not] at h
    simp (decide := true) only [go_sem, Nat.reduceAdd, Nat.reduceMul, Nat.reduceSub]
    refine Runs.while (α := Nat × Int) (csSt L) (fun p => L.length - p.1) (fun p => p.1 ≤ L.length ∧ 0 ≤ p.2 ∧ p.2 ≤ 1048576 ∧ szCG (L.drop p.1) p.2 = szCSV L left) (0, left - L.length) ⟨by simp, by simp; omega, by simp; omega, by simp [szCSV, h]⟩ ?_ ?_
    · simp [go_sem, csAnn, csSt]
    · rintro ⟨i, l⟩ ⟨hi, hl1, hl2, hr⟩ ih
      simp only at hi hl1 hl2 hr
      simp (decide := true) only [csSt, hlen, go_sem, Nat.reduceAdd, Nat.reduceMul, Nat.reduceSub]
      refine Runs.split (fun h => ?_) (fun h => ?_)
      · have hlt : i < L.length := by simpa using h
        have hg : (L.map certA).getD i .any = certA L[i] := by simp [List.getD, hlt]
        rw [List.drop_eq_getElem_cons hlt] at hr
        simp only [szCG] at hr
        have hb := szCertV_le L[i] l hl1 hl2
        have hc := szCert hm L[i] l hl1 hl2 (h4 _ (List.getElem_mem hlt))
        rw [certA] at hg hc
        simp (decide := true) (disch := first | omega | (simp only [List.length_map, List.length_cons, List.length_append, List.length_nil]; omega)) only [hlen, hg, if_pos, go_sem, Nat.reduceAdd, Nat.reduceMul, Nat.reduceSub]
        refine Runs.call hc ?_
        simp (decide := true) only [go_sem, Nat.reduceAdd, Nat.reduceMul, Nat.reduceSub]
        refine Runs.split (fun h => ?_) (fun h => ?_)
        · simp only [decide_eq_true_eq] at h
          rw [if_pos h] at hr
          simp (decide := true) only [← hr, go_sem, Nat.reduceAdd, Nat.reduceMul, Nat.reduceSub]
          exact Runs.ret_v
        · simp only [decide_eq_false_iff_not] at h
          rw [if_neg h] at hr
          simp (decide := true) (disch := first | omega | (simp only [List.length_map, List.length_cons, List.length_append, List.length_nil]; omega)) only [if_pos, go_sem, Nat.reduceAdd, Nat.reduceMul, Nat.reduceSub]
          refine ih (i + 1, szCertV L[i] l) _ (by simp only; omega) ⟨hlt, by simp only; omega, by simp only; omega, hr⟩ ?_
          simp [go_sem, csAnn, csSt]
      · have hge : i = L.length := by simp at h; omega
        subst hge
        simp only [List.drop_length, szCG] at hr
        simp (decide := true) only [← hr, go_sem, Nat.reduceAdd, Nat.reduceMul, Nat.reduceSub]
        exact Runs.ret_v
def tcsSt (L : List GCert) (i : Nat) : St := ⟨[.sl .sh (L.map certA), .any, .any, .ms (.l 0) 0 L.length L.length, .v (.int .i64 i), .any, .any, .any, .any, .any, .any, .any, .any, .any, .any, .any, .any, .any, .any, .any, .any, .any, .any], [(0, ⟨true, 34, false, fillS certO L certZ i⟩)], []⟩
set_option maxHeartbeats 4000000 in
set_option maxRecDepth 10000 in
include hm in
theorem toCertS (L : List GCert) (h3 : L.length ≤ 1048576) (h4 : ∀ c ∈ L, CertFit c) : Holds Tryz.prog 6 [.sl .sh (L.map certA)] [] (.sl (.ow 34) (L.map certO)) [] := by
  refine holds_of (ann := toAnn) tabOk hm Tryz.func6 (by kernel_rfl) rfl ?_
  have hl0 : (L.map certA).length = L.length := List.length_map _
  simp (decide := true) (disch := first | omega | (simp only [List.length_map, List.length_cons, List.length_append, List.length_nil]; omega)) only [Tryz.f6, hl0, if_pos, go_sem, Nat.reduceAdd, Nat.reduceMul, Nat.reduceSub]
  refine Runs.while (α := Nat) (tcsSt L) (fun i => L.length - i) (fun i => i ≤ L.length) 0 (by omega) ?_ ?_
  · simp [go_sem, toAnn, tcsSt, fillS_zero, certZ]
  · intro i hi ih
    have hlen := fillS_length certO L certZ i hi
    simp (decide := true) only [tcsSt, hlen, hl0, go_sem, Nat.reduceAdd, Nat.reduceMul, Nat.reduceSub]
    refine Runs.split (fun h => ?_) (fun h => ?_)
    · have hlt : i < L.length := by simpa using h
      have hg := fillS_get certO L certZ i hlt
      have hg2 : (L.map certA).getD i .any = certA L[i] := by simp [List.getD, hlt]
      have hs : (fillS certO L certZ i).set i (certO L[i]) = _ := fillS_set certO L certZ i hlt
      have hc := toCert hm L[i] (h4 _ (List.getElem_mem hlt))
      have hg := hg.trans (show certZ = _ from by rw [certZ])
      rw [certO] at hs hc
      rw [certA] at hg2 hc
      simp (decide := true) (disch := first | omega | (simp only [List.length_map, List.length_cons, List.length_append, List.length_nil]; omega)) only [hlen, hl0, hg, hg2, if_pos, go_sem, Nat.reduceAdd, Nat.reduceMul, Nat.reduceSub]
      refine Runs.call hc ?_
      simp (decide := true) (maxSteps := 2000000) (disch := first | omega | (simp only [List.length_map, List.length_cons, List.length_append, List.length_nil]; omega)) only [hlen, hl0, hg, hs, Nat.mul_one, Nat.zero_add, Nat.add_zero, if_pos, go_sem, Nat.reduceAdd, Nat.reduceMul, Nat.reduceSub]
      refine ih (i + 1) _ (by omega) hlt ?_
      simp [go_sem, toAnn, tcsSt]
    · have hge : i = L.length := by simp at h; omega
      subst hge
      simp (decide := true) only [hlen, fillS_all, go_sem, Nat.reduceAdd, Nat.reduceMul, Nat.reduceSub]
      exact Runs.ret_refl
def ecsS : Sched := .take 0 (.take 1 (.take 2 (.take 4 (.take 5 (.take 6 (.alt 3 (.alt 7 (.alt 8 (.take 9 .fin) .nil) .nil) (.alt 7 (.alt 3 (.alt 8 (.take 9 .fin) .nil) .nil) .nil)))))))
attribute [local go_sem] ecsS
def ecsSt (L : List GCert) (i : Nat) : St := ⟨[.sl .sh (L.map certA), .sl .sh (L.map certA), .any, .any, .any, .v (.int .i64 i), .any, .any, .any, .any, .any, .any, .any, .any, .any, .any, .any, .any, .any, .any, .any, .any, .any, .any, .any, .any, .any], [], []⟩
set_option maxHeartbeats 4000000 in
set_option maxRecDepth 10000 in
include hm in
theorem eqCertS (L : List GCert) (h3 : L.length ≤ 1048576) (h4 : ∀ c ∈ L, CertFit c) : Holds Tryz.prog 8 [.sl .sh (L.map certA), .sl .sh (L.map certA)] [] (.v (.bool true)) [] := by
  refine holds_of (ann := csAnn) tabOk hm Tryz.func8 (by kernel_rfl) rfl ?_
  have hl0 : (L.map certA).length = L.length := List.length_map _
  simp (decide := true) only [Tryz.f8, hl0, go_sem, Nat.reduceAdd, Nat.reduceMul, Nat.reduceSub]
  refine Runs.while (α := Nat) (ecsSt L) (fun i => L.length - i) (fun i => i ≤ L.length) 0 (by omega) ?_ ?_
  · simp [go_sem, csAnn, ecsSt]
  · intro i hi ih
    simp (decide := true) only [ecsSt, hl0, go_sem, Nat.reduceAdd, Nat.reduceMul, Nat.reduceSub]
    refine Runs.split (fun h => ?_) (fun h => ?_)
    · have hlt : i < L.length := by simpa using h
      have hg : (L.map certA).getD i .any = certA L[i] := by simp [List.getD, hlt]
      have hc := eqCert hm L[i] (h4 _ (List.getElem_mem hlt))
      rw [certA] at hg hc
      simp (decide := true) only [go_sem, Nat.reduceAdd, Nat.reduceMul, Nat.reduceSub]
      refine Runs.draw (st1 := ?s1) (draws_by (ann := csAnn) tabOk ecsS (by kernel_rfl) ?p1) ?q1
      case p1 =>
        intro K r X hK
        simp (decide := true) (maxSteps := 2000000) (disch := first | omega | (simp only [List.length_map, List.length_cons, List.length_append, List.length_nil]; omega)) only [hg, hl0, if_pos, go_sem, Nat.reduceAdd, Nat.reduceMul, Nat.reduceSub]
        repeat' apply And.intro
        all_goals
          refine Runs.call hc ?_
          simp (decide := true) (maxSteps := 2000000) (disch := first | omega | (simp only [List.length_map, List.length_cons, List.length_append, List.length_nil]; omega)) only [if_pos, go_sem, Nat.reduceAdd, Nat.reduceMul, Nat.reduceSub]
          exact hK
      case q1 =>
        simp (decide := true) (disch := first | omega | (simp only [List.length_map, List.length_cons, List.length_append, List.length_nil]; omega)) only [hg, hl0, if_pos, go_sem, Nat.reduceAdd, Nat.reduceMul, Nat.reduceSub]
        refine ih (i + 1) _ (by omega) hlt ?_
        simp [go_sem, csAnn, ecsSt]
    · simp (decide := true) only [go_sem, Nat.reduceAdd, Nat.reduceMul, Nat.reduceSub]
      exact Runs.ret_v
end Go.Proofs.W

namespace Go.Proofs.W
open Go Go.AM
set_option linter.unusedSimpArgs false
set_option linter.unusedVariables false
variable (hm : Tryz.prog.follows .mixedOrders = true)

def lowU (b : UInt8) : UInt8 := if 65 ≤ b.toNat ∧ b.toNat ≤ 90 then UInt8.ofNat (b.toNat + 32) else b
def lowerB (s : ByteArray) : ByteArray := mkS (s.data.toList.map lowU)
theorem lowU_nat (b : UInt8) : ((lowU b).toNat : Int) = if 65 ≤ (b.toNat : Int) ∧ (b.toNat : Int) ≤ 90 then (b.toNat : Int) + 32 else b.toNat := by
  unfold lowU
  have := UInt8.toNat_lt b
  by_cases h : 65 ≤ b.toNat ∧ b.toNat ≤ 90
  · rw [if_pos h, if_pos (by omega)]
    rw [UInt8.toNat_ofNat_of_lt' (by show _ < 256; omega)]; omega
  · rw [if_neg h, if_neg (by omega)]
theorem bytes_all (l : List UInt8) : (l.map byteA).all isByte = true := by
  rw [List.all_map, List.all_eq_true]
  intro b _
  have := UInt8.toNat_lt b
  simp [byteA, isByte]; omega
theorem bytes_back (l : List UInt8) : (l.map byteA).map AM.byteOf = l := by
  rw [List.map_map]
  conv => rhs; rw [← List.map_id l]
  refine List.map_congr_left fun b _ => ?_
  simp [byteA, AM.byteOf]
def lowRow (s : ByteArray) (i : Nat) : List A := ((s.data.toList.take i).map lowU).map byteA
theorem lowRow_zero (s : ByteArray) : lowRow s 0 = [] := by simp [lowRow]
theorem lowRow_all (s : ByteArray) : lowRow s s.size = (s.data.toList.map lowU).map byteA := by rw [lowRow, List.take_of_length_le (by rw [list_size]; exact Nat.le_refl _)]
def slAnn : Ann := [(0, [0, 3, 4])]
def slSt (s : ByteArray) (i : Nat) : St := ⟨[.v (.string s), .any, .any, .ms (.l 0) 0 i i, .v (.int .i64 i), .any, .any, .any, .any, .any, .any, .any, .any, .any, .any, .any, .any, .any, .any, .any, .any, .any, .any, .any, .any, .any, .any, .any, .any, .any, .any], [(0, ⟨true, 1, false, lowRow s i⟩)], []⟩
set_option maxHeartbeats 1000000 in
set_option maxRecDepth 10000 in
include hm in
theorem sLower (s : ByteArray) (h : s.size ≤ 1073741823) : Holds Tryz.prog 96 [.v (.string s)] [] (.v (.string (lowerB s))) [] := by
  refine holds_of (ann := slAnn) tabOk hm Tryz.func96 (by kernel_rfl) rfl ?_
  simp (decide := true) only [Tryz.f96, go_sem, Nat.reduceAdd, Nat.reduceMul, Nat.reduceSub]
  have hz := list_size s
  refine Runs.while (α := Nat) (slSt s) (fun i => s.size - i) (fun i => i ≤ s.size) 0 (by omega) ?_ ?_
  · simp [go_sem, slAnn, slSt, lowRow_zero]
  · intro i hi ih
    have hlen : (lowRow s i).length = i := by simp [lowRow]; omega
    simp (decide := true) only [slSt, hlen, go_sem, Nat.reduceAdd, Nat.reduceMul, Nat.reduceSub]
    refine Runs.split (fun h => ?_) (fun h => ?_)
    · have hlt : i < s.data.toList.length := by simp at h; omega
      obtain ⟨c, hc⟩ : ∃ c, s.data.toList[i] = c := ⟨_, rfl⟩
      have hg : s.data.toList.getD i 0 = c := (getD_lt hlt).trans hc
      have hb := UInt8.toNat_lt c
      have hn := lowU_nat c
      have hnext : lowRow s i ++ [.v (.int .u8 ((lowU c).toNat : Int))] = lowRow s (i + 1) := by
        rw [lowRow, lowRow, List.take_succ_eq_append_getElem hlt, hc]; simp [byteA]
      simp (decide := true) (disch := first | omega | (simp only [List.length_map, List.length_cons, List.length_append, List.length_nil]; omega)) only [hg, hlen, if_pos, go_sem, Nat.reduceAdd, Nat.reduceMul, Nat.reduceSub]
      cases h1 : decide ((c.toNat : Int) ≥ 65)
      · have e : ((lowU c).toNat : Int) = c.toNat := by rw [hn, if_neg (by simp only [decide_eq_false_iff_not] at h1; omega)]
        rw [e] at hnext
        simp (decide := true) (disch := first | omega | (simp only [List.length_map, List.length_cons, List.length_append, List.length_nil]; omega)) only [hlen, if_pos, go_sem, Nat.reduceAdd, Nat.reduceMul, Nat.reduceSub]
        refine ih (i + 1) _ (by omega) (by omega) ?_
        simp [go_sem, slAnn, slSt, hnext]
      · simp (decide := true) (disch := first | omega | (simp only [List.length_map, List.length_cons, List.length_append, List.length_nil]; omega)) only [if_pos, go_sem, Nat.reduceAdd, Nat.reduceMul, Nat.reduceSub]
        cases h2 : decide ((c.toNat : Int) ≤ 90)
        · have e : ((lowU c).toNat : Int) = c.toNat := by rw [hn, if_neg (by simp only [decide_eq_false_iff_not] at h2; omega)]
          rw [e] at hnext
          simp (decide := true) (disch := first | omega | (simp only [List.length_map, List.length_cons, List.length_append, List.length_nil]; omega)) only [hlen, if_pos, go_sem, Nat.reduceAdd, Nat.reduceMul, Nat.reduceSub]
          refine ih (i + 1) _ (by omega) (by omega) ?_
          simp [go_sem, slAnn, slSt, hnext]
        · have e : ((lowU c).toNat : Int) = (c.toNat : Int) + 97 - 65 := by rw [hn, if_pos (by simp only [decide_eq_true_eq] at h1 h2; omega)]; omega
          rw [e] at hnext
          have w1 : IntKind.u8.wrap ((c.toNat : Int) + 97) = (c.toNat : Int) + 97 := by
            simp only [decide_eq_true_eq] at h1 h2; unfold IntKind.wrap; simp [IntKind.bits, IntKind.signed]; omega
          have w2 : IntKind.u8.wrap ((c.toNat : Int) + 97 - 65) = (c.toNat : Int) + 97 - 65 := by
            simp only [decide_eq_true_eq] at h1 h2; unfold IntKind.wrap; simp [IntKind.bits, IntKind.signed]; omega
          simp (decide := true) (disch := first | omega | (simp only [List.length_map, List.length_cons, List.length_append, List.length_nil]; omega)) only [hlen, w1, w2, if_pos, go_sem, Nat.reduceAdd, Nat.reduceMul, Nat.reduceSub]
          refine ih (i + 1) _ (by omega) (by omega) ?_
          simp [go_sem, slAnn, slSt, hnext]
    · have hge : i = s.size := by simp at h; omega
      subst hge
      have htk : List.take s.size (lowRow s s.size) = lowRow s s.size := List.take_of_length_le (by rw [hlen]; exact Nat.le_refl _)
      have ha : (lowRow s s.size).all isByte = true := by rw [lowRow_all]; exact bytes_all _
      have hbk : (lowRow s s.size).map AM.byteOf = s.data.toList.map lowU := by rw [lowRow_all]; exact bytes_back _
      have t0 : Int.toNat 0 = 0 := rfl
      simp (decide := true) (disch := first | omega | (simp only [List.length_map, List.length_cons, List.length_append, List.length_nil]; omega)) only [hlen, htk, ha, hbk, List.drop_zero, if_pos, go_sem, Nat.reduceAdd, Nat.reduceMul, Nat.reduceSub]
      exact Runs.ret_eq rfl
def mixRow (s : ByteArray) (i : Nat) : List A := ((s.data.toList.take i).map lowU ++ s.data.toList.drop i).map byteA
theorem mixRow_zero (s : ByteArray) : mixRow s 0 = s.data.toList.map byteA := by simp [mixRow]
theorem mixRow_len {s : ByteArray} {i : Nat} (h : i ≤ s.size) : (mixRow s i).length = s.size := by simp only [mixRow, List.length_map, List.length_append, List.length_take, List.length_drop]; have := list_size s; omega
theorem mixRow_all (s : ByteArray) : mixRow s s.size = (s.data.toList.map lowU).map byteA := by
  rw [mixRow, List.take_of_length_le (by rw [list_size]; exact Nat.le_refl _), List.drop_of_length_le (by rw [list_size]; exact Nat.le_refl _), List.append_nil]
theorem mixRow_get {s : ByteArray} {i : Nat} (h : i < s.data.toList.length) : (mixRow s i).getD i .any = .v (.int .u8 (s.data.toList[i].toNat : Int)) := by
  have hl : ((s.data.toList.take i).map lowU).length = i := by rw [List.length_map, List.length_take]; omega
  rw [mixRow, List.getD, List.getElem?_map, List.getElem?_append_right (by omega), hl, Nat.sub_self, List.getElem?_drop, Nat.add_zero, List.getElem?_eq_getElem h]
  rfl
theorem mixRow_same {s : ByteArray} {i : Nat} (h : i < s.data.toList.length) (e : lowU s.data.toList[i] = s.data.toList[i]) : mixRow s i = mixRow s (i + 1) := by
  rw [mixRow, mixRow, List.drop_eq_getElem_cons h, List.take_succ_eq_append_getElem h]
  simp only [List.map_append, List.map_cons, List.map_nil, e, List.append_assoc, List.cons_append, List.nil_append]
theorem mixRow_set {s : ByteArray} {i : Nat} (h : i < s.data.toList.length) : (mixRow s i).set i (.v (.int .u8 ((lowU s.data.toList[i]).toNat : Int))) = mixRow s (i + 1) := by
  have hl : (((s.data.toList.take i).map lowU).map byteA).length = i := by rw [List.length_map, List.length_map, List.length_take]; omega
  rw [mixRow, mixRow, List.map_append, List.set_append_right _ _ (by omega), hl, Nat.sub_self, List.drop_eq_getElem_cons h, List.map_cons, List.set_cons_zero, List.take_succ_eq_append_getElem h]
  simp [byteA]
def ilwAnn : Ann := [(0, [0, 3, 8, 9, 10])]
def ilwSt (s : ByteArray) (i : Nat) : St := ⟨[.v (.string s), .any, .any, .ms (.l 0) 0 s.size s.size, .any, .any, .any, .any, .ms (.l 0) 0 s.size s.size, .v (.int .i64 s.size), .v (.int .i64 i), .any, .any, .any, .any, .any, .any, .any, .any, .any, .any, .any, .any, .any, .any, .any, .any, .any, .any, .any], [(0, ⟨true, 1, false, mixRow s i⟩)], []⟩
set_option maxHeartbeats 1000000 in
set_option maxRecDepth 10000 in
include hm in
theorem iLower (s : ByteArray) (h : s.size ≤ 1073741823) : Holds Tryz.prog 115 [.v (.string s)] [] (.v (.string (lowerB s))) [] := by
  refine holds_of (ann := ilwAnn) tabOk hm Tryz.func115 (by kernel_rfl) rfl ?_
  have hz := list_size s
  have hlz : (s.data.toList.map byteA).length = s.size := by rw [List.length_map, hz]
  simp (decide := true) (disch := first | omega | (simp only [List.length_map, List.length_cons, List.length_append, List.length_nil]; omega)) only [Tryz.f115, hlz, if_pos, go_sem, Nat.reduceAdd, Nat.reduceMul, Nat.reduceSub]
  refine Runs.while (α := Nat) (ilwSt s) (fun i => s.size - i) (fun i => i ≤ s.size) 0 (by omega) ?_ ?_
  · simp [go_sem, ilwAnn, ilwSt, mixRow_zero]
  · intro i hi ih
    have hlen := mixRow_len hi
    simp (decide := true) only [ilwSt, hlen, go_sem, Nat.reduceAdd, Nat.reduceMul, Nat.reduceSub]
    refine Runs.split (fun h => ?_) (fun h => ?_)
    · have hlt : i < s.data.toList.length := by simp at h; omega
      have hgt := mixRow_get hlt
      have hst := mixRow_set hlt
      have hsm := mixRow_same hlt
      have hn := lowU_nat s.data.toList[i]
      obtain ⟨c, hc⟩ : ∃ c, s.data.toList[i] = c := ⟨_, rfl⟩
      rw [hc] at hgt hst hsm hn
      have hb := UInt8.toNat_lt c
      simp (decide := true) (disch := first | omega | (simp only [List.length_map, List.length_cons, List.length_append, List.length_nil]; omega)) only [hlen, hgt, if_pos, go_sem, Nat.reduceAdd, Nat.reduceMul, Nat.reduceSub]
      cases h1 : decide ((c.toNat : Int) ≥ 65)
      · have e : lowU c = c := by unfold lowU; rw [if_neg (by simp only [decide_eq_false_iff_not] at h1; omega)]
        simp (decide := true) (disch := first | omega | (simp only [List.length_map, List.length_cons, List.length_append, List.length_nil]; omega)) only [hlen, if_pos, go_sem, Nat.reduceAdd, Nat.reduceMul, Nat.reduceSub]
        refine ih (i + 1) _ (by omega) (by omega) ?_
        simp [go_sem, ilwAnn, ilwSt, hsm e]
      · simp (decide := true) (disch := first | omega | (simp only [List.length_map, List.length_cons, List.length_append, List.length_nil]; omega)) only [if_pos, go_sem, Nat.reduceAdd, Nat.reduceMul, Nat.reduceSub]
        cases h2 : decide ((c.toNat : Int) ≤ 90)
        · have e : lowU c = c := by unfold lowU; rw [if_neg (by simp only [decide_eq_false_iff_not] at h2; omega)]
          simp (decide := true) (disch := first | omega | (simp only [List.length_map, List.length_cons, List.length_append, List.length_nil]; omega)) only [hlen, if_pos, go_sem, Nat.reduceAdd, Nat.reduceMul, Nat.reduceSub]
          refine ih (i + 1) _ (by omega) (by omega) ?_
          simp [go_sem, ilwAnn, ilwSt, hsm e]
        · have e : ((lowU c).toNat : Int) = (c.toNat : Int) + 97 - 65 := by rw [hn, if_pos (by simp only [decide_eq_true_eq] at h1 h2; omega)]; omega
          rw [e] at hst
          have w1 : IntKind.u8.wrap ((c.toNat : Int) + 97) = (c.toNat : Int) + 97 := by
            simp only [decide_eq_true_eq] at h1 h2; unfold IntKind.wrap; simp [IntKind.bits, IntKind.signed]; omega
          have w2 : IntKind.u8.wrap ((c.toNat : Int) + 97 - 65) = (c.toNat : Int) + 97 - 65 := by
            simp only [decide_eq_true_eq] at h1 h2; unfold IntKind.wrap; simp [IntKind.bits, IntKind.signed]; omega
          simp (decide := true) (disch := first | omega | (simp only [List.length_map, List.length_cons, List.length_append, List.length_nil]; omega)) only [hlen, hgt, hst, w1, w2, if_pos, go_sem, Nat.reduceAdd, Nat.reduceMul, Nat.reduceSub]
          refine ih (i + 1) _ (by omega) (by omega) ?_
          simp [go_sem, ilwAnn, ilwSt, hst]
    · have hge : i = s.size := by simp at h; omega
      subst hge
      have htk : List.take s.size (mixRow s s.size) = mixRow s s.size := List.take_of_length_le (by rw [hlen]; exact Nat.le_refl _)
      have ha : (mixRow s s.size).all isByte = true := by rw [mixRow_all]; exact bytes_all _
      have hbk : (mixRow s s.size).map AM.byteOf = s.data.toList.map lowU := by rw [mixRow_all]; exact bytes_back _
      simp (decide := true) (disch := first | omega | (simp only [List.length_map, List.length_cons, List.length_append, List.length_nil]; omega)) only [hlen, htk, ha, hbk, List.drop_zero, if_pos, go_sem, Nat.reduceAdd, Nat.reduceMul, Nat.reduceSub]
      exact Runs.ret_eq rfl
end Go.Proofs.W
