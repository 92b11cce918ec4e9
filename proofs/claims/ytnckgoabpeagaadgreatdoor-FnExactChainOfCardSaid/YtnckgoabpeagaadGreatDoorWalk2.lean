import Derived.Test.YtnckgoabpeagaadGreatDoorWalk1
set_option linter.unusedVariables false
set_option linter.unusedSimpArgs false
namespace Go.Proofs.W
open Go Go.AM
set_option maxRecDepth 10000
variable (hm : Tryz.prog.follows .mixedOrders = true)
def l8pAnn : Ann := [(0, [0, 1, 5, 6, 7])]
def l8pSt (s : ByteArray) (p : List ByteArray × Nat × Nat) : St := ⟨[.v (.string s), .v (.int .u8 46), .any, .any, .any, .ms (.l 0) 0 p.1.length p.1.length, .v (.int .i64 p.2.1), .v (.int .i64 p.2.2), .any, .any, .any, .any, .any, .any, .any, .any, .any, .any, .any, .any, .any, .any, .any, .any, .any, .any, .any, .any, .any, .any, .any, .any, .any, .any, .any], [(0, ⟨true, 1, false, p.1.map strA⟩)], []⟩
include hm in
theorem l8Parts (s : ByteArray) (h : s.size ≤ 1048576) : Holds Tryz.prog 117 [.v (.string s), .v (.int .u8 46)] [] (.sl (.ow 1) ((partsB s).map strA)) [] := by
 refine holds_of (ann := l8pAnn) tabOk hm Tryz.func117 (by kernel_rfl) rfl ?_
 simp +decide only [Tryz.f117, go_sem]
 have hz := list_size s
 refine Runs.while (α := List ByteArray × Nat × Nat) (l8pSt s) (fun p => s.size - p.2.2) (fun p => p.2.1 ≤ p.2.2 ∧ p.2.2 ≤ s.size ∧ p.1.length ≤ p.2.2 ∧ (∀ b ∈ (s.data.toList.drop p.2.1).take (p.2.2 - p.2.1), b ≠ 46) ∧ partsB s = p.1 ++ partsB (mkS (s.data.toList.drop p.2.1))) ([], 0, 0) ⟨Nat.le_refl _, Nat.zero_le _, Nat.zero_le _, by simp, by simp [mkS_list]⟩ ?_ ?_
 ·simp [go_sem, l8pAnn, l8pSt]
 ·rintro ⟨D, f, i⟩ ⟨hf, hi, hd, hn, hp⟩ ih
  simp only at hf hi hd hn hp
  have hD : (D.map strA).length = D.length := List.length_map _
  simp +decide only [l8pSt, hD, go_sem]
  refine Runs.split (fun h => ?_) (fun h => ?_)
  ·have hlt : i < s.data.toList.length := by simp at h; omega
   have hg : s.data.toList.getD i 0 = s.data.toList[i] := getD_lt hlt
   have hb := UInt8.toNat_lt s.data.toList[i]
   simp +decide (disch := first | omega | (simp only [ll]; omega)) only [hg, if_pos, go_sem]
   have e1 : s.data.toList.drop f = (s.data.toList.drop f).take (i - f) ++ s.data.toList[i] :: s.data.toList.drop (i + 1) := by
    conv => lhs; rw [← List.take_append_drop (i - f) (s.data.toList.drop f)]
    rw [List.drop_drop, show f + (i - f) = i by omega, List.drop_eq_getElem_cons hlt]
   refine Runs.split (fun h2 => ?_) (fun h2 => ?_)
   ·have h46 : s.data.toList[i] = 46 := by
     simp only [decide_eq_true_eq] at h2
     exact UInt8.toNat_inj.mp (by simpa using Int.ofNat.inj h2)
    rw [h46] at e1
    simp +decide (disch := first | omega | (simp only [ll]; omega)) only [if_pos, go_sem]
    have e2 : s.extract f i = mkS ((s.data.toList.drop f).take (i - f)) := mkS_ext s f i
    refine ih (D ++ [s.extract f i], i + 1, i + 1) _ (by simp only; omega) ⟨Nat.le_refl _, by simp only; omega, by simp; omega, by simp, ?_⟩ ?_
    ·simp only
     rw [hp, partsB, mkS_data, e1, partsL_cut 46 _ _ hn, partsB, mkS_data, e2]
     simp
    ·simp [go_sem, l8pAnn, l8pSt, strA]
   ·have h46 : s.data.toList[i] ≠ 46 := by
     intro e
     simp [e] at h2
    simp +decide (disch := first | omega | (simp only [ll]; omega)) only [if_pos, go_sem]
    refine ih (D, f, i + 1) _ (by simp only; omega) ⟨by simp only; omega, by simp only; omega, by simp only; omega, ?_, hp⟩ ?_
    ·simp only
     intro b hb2
     rw [show i + 1 - f = i - f + 1 by omega, List.take_add_one, List.mem_append] at hb2
     rcases hb2 with hb2 | hb2
     ·exact hn b hb2
     ·rw [List.getElem?_drop, show f + (i - f) = i by omega, List.getElem?_eq_getElem hlt] at hb2
      simp at hb2
      rw [hb2]; exact h46
    ·simp [go_sem, l8pAnn, l8pSt]
  ·have hge : i = s.size := by simp at h; omega
   subst hge
   have hn2 : ∀ b ∈ s.data.toList.drop f, b ≠ 46 := by
    intro b hb
    refine hn b ?_
    rw [List.take_of_length_le (by simp)]; exact hb
   have hq : partsB (mkS (s.data.toList.drop f)) = [mkS (s.data.toList.drop f)] := by rw [partsB, mkS_data, partsL_no 46 _ hn2]; rfl
   rw [hq] at hp
   have e2 : s.extract f s.size = mkS (s.data.toList.drop f) := by
    rw [mkS_ext, List.take_of_length_le (by simp)]
   simp +decide (disch := first | omega | (simp only [ll]; omega)) only [List.length_append, List.length_cons, List.length_nil, if_pos, go_sem]
   refine Runs.ret_eq ?_
   rw [hp, e2]
   simp [strA]
def l8dAnn : Ann := [(0, [0, 3])]
def l8dSt (s : ByteArray) (i : Nat) : St := ⟨[.v (.string s), .any, .any, .v (.int .i64 i), .any, .any, .any, .any, .any, .any, .any, .any, .any, .any, .any, .any, .any, .any, .any], [], []⟩
include hm in
theorem l8Digits (s : ByteArray) (h : s.size ≤ 1048576) : Holds Tryz.prog 119 [.v (.string s)] [] (.v (.bool (digitsB s))) [] := by
 refine holds_of (ann := l8dAnn) tabOk hm Tryz.func119 (by kernel_rfl) rfl ?_
 simp +decide only [Tryz.f119, go_sem]
 have hz := list_size s
 refine Runs.while (α := Nat) (l8dSt s) (fun i => s.size - i) (fun i => i ≤ s.size ∧ (s.data.toList.drop i).all digC = s.data.toList.all digC) 0 ⟨by omega, by simp⟩ ?_ ?_
 ·simp [go_sem, l8dAnn, l8dSt]
 ·rintro i ⟨hi, hr⟩ ih
  simp +decide only [l8dSt, go_sem]
  refine Runs.split (fun h => ?_) (fun h => ?_)
  ·have hlt : i < s.data.toList.length := by simp at h; omega
   have hg : s.data.toList.getD i 0 = s.data.toList[i] := getD_lt hlt
   have hb := UInt8.toNat_lt s.data.toList[i]
   rw [List.drop_eq_getElem_cons hlt, List.all_cons] at hr
   simp +decide (disch := first | omega | (simp only [ll]; omega)) only [hg, if_pos, go_sem]
   refine Runs.call (l1In hm _ 48 57) ?_
   simp +decide only [go_sem]
   refine Runs.split (fun h2 => ?_) (fun h2 => ?_)
   ·simp only [Bool.not_eq_true'] at h2
    simp +decide only [go_sem]
    exact Runs.ret_eq (by rw [digitsB, ← hr, digC, h2]; simp)
   ·simp only [Bool.not_eq_false'] at h2
    rw [digC, h2, Bool.true_and] at hr
    simp +decide (disch := first | omega | (simp only [ll]; omega)) only [if_pos, go_sem]
    refine ih (i + 1) _ (by omega) ⟨by omega, hr⟩ ?_
    simp [go_sem, l8dAnn, l8dSt]
  ·have hge : i = s.size := by simp at h; omega
   rw [List.drop_of_length_le (by omega), List.all_nil] at hr
   simp +decide only [go_sem]
   exact Runs.ret_eq (by rw [digitsB, ← hr]; simp)
def l8lAnn : Ann := [(0, [0, 3])]
def l8lSt (s : ByteArray) (i : Nat) : St := ⟨[.v (.string s), .any, .any, .v (.int .i64 i), .any, .any, .any, .any, .any, .any, .any, .any, .any, .any, .any, .any, .any, .any, .any, .any, .any, .any, .any, .any, .any, .any, .any, .any, .any, .any, .any, .any, .any, .any, .any, .any, .any, .any, .any, .any, .any, .any, .any], [], []⟩
include hm in
theorem l8Label (s : ByteArray) (h : s.size ≤ 1048576) : Holds Tryz.prog 118 [.v (.string s)] [] (.v (.bool (labelB s))) [] := by
 refine holds_of (ann := l8lAnn) tabOk hm Tryz.func118 (by kernel_rfl) rfl ?_
 simp +decide only [Tryz.f118, go_sem]
 have hz := list_size s
 refine Runs.while (α := Nat) (l8lSt s) (fun i => s.size - i) (fun i => i ≤ s.size ∧ (s.data.toList.drop i).all okC = s.data.toList.all okC) 0 ⟨by omega, by simp⟩ ?_ ?_
 ·simp [go_sem, l8lAnn, l8lSt]
 ·rintro i ⟨hi, hr⟩ ih
  simp +decide only [l8lSt, go_sem]
  refine Runs.split (fun h => ?_) (fun h => ?_)
  ·have hlt : i < s.data.toList.length := by simp at h; omega
   have hg : s.data.toList.getD i 0 = s.data.toList[i] := getD_lt hlt
   have hb := UInt8.toNat_lt s.data.toList[i]
   rw [List.drop_eq_getElem_cons hlt, List.all_cons] at hr
   have next : okC s.data.toList[i] = true → (s.data.toList.drop (i + 1)).all okC = s.data.toList.all okC := fun h => by rw [← hr, h, Bool.true_and]
   have stop : okC s.data.toList[i] = false → labelB s = false := fun h => by rw [labelB, ← hr, h]; simp
   simp +decide (disch := first | omega | (simp only [ll]; omega)) only [hg, if_pos, go_sem]
   refine Runs.call (l1In hm _ 97 122) ?_
   cases h1 : inB s.data.toList[i].toNat 97 122
   ·simp +decide only [go_sem]
    refine Runs.call (l1In hm _ 48 57) ?_
    cases h2 : inB s.data.toList[i].toNat 48 57
    ·simp +decide only [go_sem]
     cases h3 : decide ((s.data.toList[i].toNat : Int) = 45)
     ·simp +decide only [go_sem]
      exact Runs.ret_eq (by rw [stop (by simp only [okC, digC, dashC, h1, h2, h3]; rfl)])
     ·simp +decide (disch := first | omega | (simp only [ll]; omega)) only [if_pos, go_sem]
      refine ih (i + 1) _ (by omega) ⟨by omega, next (by simp only [okC, digC, dashC, h1, h2, h3]; rfl)⟩ ?_
      simp [go_sem, l8lAnn, l8lSt]
    ·simp +decide (disch := first | omega | (simp only [ll]; omega)) only [if_pos, go_sem]
     refine ih (i + 1) _ (by omega) ⟨by omega, next (by simp only [okC, digC, dashC, h1, h2]; rfl)⟩ ?_
     simp [go_sem, l8lAnn, l8lSt]
   ·simp +decide (disch := first | omega | (simp only [ll]; omega)) only [if_pos, go_sem]
    refine ih (i + 1) _ (by omega) ⟨by omega, next (by simp only [okC, digC, dashC, h1]; rfl)⟩ ?_
    simp [go_sem, l8lAnn, l8lSt]
  ·have hge : i = s.size := by simp at h; omega
   rw [List.drop_of_length_le (by omega), List.all_nil] at hr
   simp +decide only [go_sem]
   refine Runs.call (l1In hm _ 1 20) ?_
   cases h1 : inB s.size 1 20
   ·simp +decide only [go_sem]
    exact Runs.ret_eq (by rw [labelB, h1]; simp)
   ·have hp : 1 ≤ s.size := by simp [inB] at h1; omega
    have ht : ((s.size : Int) - 1).toNat = s.size - 1 := by omega
    have hb0 : decide ((0 : Int) ≤ 0 ∧ (0 : Int) < s.size) = true := by simp; omega
    have hb1 : decide (0 ≤ (s.size : Int) - 1 ∧ (s.size : Int) - 1 < s.size) = true := by simp; omega
    have t0 : Int.toNat 0 = 0 := rfl
    simp +decide (disch := first | omega | (simp only [ll]; omega)) only [hb0, t0, if_pos, go_sem]
    cases h2 : dashC (s.data.toList.getD 0 0) <;> (unfold dashC at h2; simp +decide (disch := first | omega | (simp only [ll]; omega)) only [h2, ht, hb1, if_pos, go_sem]; exact Runs.ret_eq (by simp only [labelB, dashC, ← hr, h1, h2, Bool.true_and, Bool.not_false, Bool.not_true, Bool.false_and]))
def shAnn : Ann := [(0, [0, 3, 4])]
def shSt (s : ByteArray) (i : Nat) : St := ⟨[.v (.string s), .any, .any, .ms (.l 0) 0 (partsB s).length (partsB s).length, .v (.int .i64 i), .any, .any, .any, .any, .any, .any, .any, .any, .any, .any, .any, .any, .any, .any, .any, .any, .any, .any, .any, .any, .any, .any, .any, .any, .any, .any, .any, .any, .any, .any], [(0, ⟨true, 1, false, (partsB s).map strA⟩)], []⟩
include hm in
theorem sHostOk (s : ByteArray) : Holds Tryz.prog 97 [.v (.string s)] [] (.v (.bool (hostB s))) [] := by
 refine holds_of (ann := shAnn) tabOk hm Tryz.func97 (by kernel_rfl) rfl ?_
 simp +decide only [Tryz.f97, go_sem]
 refine Runs.split (fun h => ?_) (fun h => ?_)
 ·simp +decide only [go_sem]
  exact Runs.ret_eq (by simp at h; simp [hostB]; intros; omega)
 ·have h80 : s.size ≤ 80 := by simp at h; omega
  simp +decide only [go_sem]
  refine Runs.call (l8Parts hm s (by omega)) ?_
  have hlen : ((partsB s).map strA).length = (partsB s).length := List.length_map _
  have hle := partsB_le s
  have hpos : 1 ≤ (partsB s).length := by rw [partsB_len]; omega
  simp +decide (disch := first | omega | (simp only [ll]; omega)) only [if_pos, go_sem]
  refine Runs.while (α := Nat) (shSt s) (fun i => (partsB s).length - i) (fun i => i ≤ (partsB s).length ∧ ((partsB s).drop i).all labelB = (partsB s).all labelB) 0 ⟨by omega, by simp⟩ ?_ ?_
  ·simp [go_sem, shAnn, shSt]
  ·rintro i ⟨hi, hr⟩ ih
   simp +decide only [shSt, hlen, go_sem]
   refine Runs.split (fun h => ?_) (fun h => ?_)
   ·have hlt : i < (partsB s).length := by simpa using h
    have hg : ((partsB s).map strA).getD i .any = strA (partsB s)[i] := by simp [List.getD, hlt]
    have hs := partsB_sz s (partsB s)[i] (List.getElem_mem hlt)
    rw [List.drop_eq_getElem_cons hlt, List.all_cons] at hr
    rw [strA] at hg
    simp +decide (disch := first | omega | (simp only [ll]; omega)) only [hlen, hg, if_pos, go_sem]
    refine Runs.call (l8Label hm _ (by omega)) ?_
    cases h1 : labelB (partsB s)[i]
    ·simp +decide only [go_sem]
     exact Runs.ret_eq (by rw [hostB, ← hr, h1]; simp)
    ·rw [h1, Bool.true_and] at hr
     simp +decide (disch := first | omega | (simp only [ll]; omega)) only [if_pos, go_sem]
     refine ih (i + 1) _ (by omega) ⟨by omega, hr⟩ ?_
     simp [go_sem, shAnn, shSt]
   ·have hge : i = (partsB s).length := by simp at h; omega
    rw [hge, List.drop_of_length_le (Nat.le_refl _), List.all_nil] at hr
    simp +decide only [go_sem]
    refine Runs.split (fun h2 => ?_) (fun h2 => ?_)
    ·have hlt : (partsB s).length - 1 < (partsB s).length := by omega
     have ht : (((partsB s).length : Int) - 1).toNat = (partsB s).length - 1 := by omega
     have hg : ((partsB s).map strA).getD ((partsB s).length - 1) .any = strA (lastB (partsB s)) := by simp [List.getD, hlt, lastB]
     rw [strA] at hg
     have hb1 : decide (0 ≤ ((partsB s).length : Int) - 1 ∧ ((partsB s).length : Int) - 1 < (partsB s).length) = true := by simp; omega
     have hmem : lastB (partsB s) ∈ partsB s := by
      rw [lastB, List.getD, List.getElem?_eq_getElem hlt]; exact List.getElem_mem hlt
     have hs := partsB_sz s _ hmem
     simp +decide (disch := first | omega | (simp only [ll]; omega)) only [hlen, ht, hg, hb1, if_pos, go_sem]
     refine Runs.call (l8Digits hm _ (by omega)) ?_
     simp +decide only [go_sem]
     refine Runs.ret_eq ?_
     have hl := List.all_eq_true.mp hr.symm _ hmem
     have hp : 1 ≤ (lastB (partsB s)).size := by
      simp only [labelB, Bool.and_eq_true, inB, decide_eq_true_eq] at hl; omega
     have hp2 : decide (((lastB (partsB s)).size : Int) > 0) = true := by simp; omega
     have h80' : decide (s.size ≤ 80) = true := by simp; omega
     have h8 : decide ((partsB s).length ≤ 8) = true := by simp at h2; simp; omega
     simp only [hostB, digitsB, h80', ← hr, h8, hp2, Bool.true_and, Bool.and_true]
    ·simp +decide only [go_sem]
     exact Runs.ret_eq (by simp at h2; simp [hostB]; intros; omega)
end Go.Proofs.W

namespace Go.Proofs.W
open Go Go.AM
variable (hm : Tryz.prog.follows .mixedOrders = true)
theorem not_all_label (L : List ByteArray) : (L.any fun s => !labelB s) = !L.all labelB := by
 induction L with
 | nil => rfl
 | cons a l ih => rw [List.any_cons, List.all_cons, ih, Bool.not_and]
set_option maxRecDepth 10000 in
include hm in
theorem iHostOk (s : ByteArray) : Holds Tryz.prog 100 [.v (.string s)] [] (.v (.bool (hostB s))) [] := by
 refine holds_of (ann := []) tabOk hm Tryz.func100 (by kernel_rfl) rfl ?_
 simp +decide only [Tryz.f100, go_sem]
 refine Runs.split (fun h => ?_) (fun h => ?_)
 ·simp +decide only [go_sem]
  exact Runs.ret_eq (by simp at h; simp [hostB]; intros; omega)
 ·have h80 : s.size ≤ 80 := by simp at h; omega
  simp +decide only [go_sem]
  refine Runs.call (split1 hm s (by omega)) ?_
  have hlen : ((partsB s).map strA).length = (partsB s).length := List.length_map _
  have hle := partsB_le s
  have hpos : 1 ≤ (partsB s).length := by rw [partsB_len]; omega
  simp +decide (disch := first | omega | (simp only [ll]; omega)) only [hlen, if_pos, go_sem]
  refine Runs.split (fun h2 => ?_) (fun h2 => ?_)
  ·simp +decide only [go_sem]
   exact Runs.ret_eq (by simp at h2; simp [hostB]; intros; omega)
  ·simp +decide only [hlen, go_sem]
   have c := contFunc0 hm 125 (partsB s) (fun s => !labelB s) (by omega) (fun p hp => notLabel hm p (by have := partsB_sz s p hp; omega))
   rw [not_all_label] at c
   refine Runs.call c ?_
   cases h3 : (partsB s).all labelB
   ·simp +decide only [go_sem]
    exact Runs.ret_eq (by simp [hostB, h3])
   ·have hlt : (partsB s).length - 1 < (partsB s).length := by omega
    have ht : (((partsB s).length : Int) - 1).toNat = (partsB s).length - 1 := by omega
    have hg : ((partsB s).map strA).getD ((partsB s).length - 1) .any = .v (.string (lastB (partsB s))) := by simp [List.getD, hlt, lastB, strA]
    have hb1 : decide (0 ≤ ((partsB s).length : Int) - 1 ∧ ((partsB s).length : Int) - 1 < (partsB s).length) = true := by simp; omega
    have hmem : lastB (partsB s) ∈ partsB s := by
     rw [lastB, List.getD, List.getElem?_eq_getElem hlt]; exact List.getElem_mem hlt
    have hs := partsB_sz s _ hmem
    simp +decide (disch := first | omega | (simp only [ll]; omega)) only [hlen, ht, hg, hb1, if_pos, go_sem]
    have c2 := trim1 hm (lastB (partsB s)) (by omega)
    rw [digS] at c2
    refine Runs.call c2 ?_
    simp +decide only [go_sem]
    refine Runs.ret_eq ?_
    have h80' : decide (s.size ≤ 80) = true := by simp; omega
    have h8 : decide ((partsB s).length ≤ 8) = true := by simp at h2; simp; omega
    rw [trimD_nil]
    simp only [hostB, h80', h3, h8, Bool.true_and]
end Go.Proofs.W

namespace Go.Proofs.W
open Go Go.AM
set_option maxRecDepth 10000
variable (hm : Tryz.prog.follows .mixedOrders = true)
def starP : ByteArray := ⟨#[42, 46]⟩
def starB (s : ByteArray) : Bool := decide (s.size ≥ 2) && ((s.extract 0 2).toList == starP.toList)
def patB (s : ByteArray) : Bool := if starB s = true then hostB (s.extract 2 s.size) && decide ((partsB (s.extract 2 s.size)).length ≥ 2) else hostB s
theorem host_nil : hostB ⟨#[]⟩ = false := by
 have e : (partsB ⟨#[]⟩) = [mkS []] := rfl
 simp only [hostB, e, List.all_cons, labelB, mkS_size, inB]
 simp
theorem starP_size : starP.size = 2 := rfl
theorem host_star2 {s : ByteArray} (h : s.size = 2) (h2 : starB s = true) : hostB s = false := by
 have hz := list_size s
 have e : s.extract 0 2 = s := by
  rw [mkS_ext]
  conv => rhs; rw [← mkS_list s]
  rw [List.drop_zero, List.take_of_length_le (by omega)]
 simp only [starB, e, Bool.and_eq_true, beq_iff_eq, Lib.toList_data] at h2
 have e3 : s = starP := by rw [← mkS_list s, h2.2]; rfl
 rw [e3]
 have e4 : partsB starP = [mkS [42], mkS []] := rfl
 simp only [hostB, e4, List.all_cons, labelB, mkS_size, inB]
 simp
include hm in
theorem l8Star (s : ByteArray) (h : s.size ≤ 1048576) : Holds Tryz.prog 116 [.v (.string s)] [] (.v (.bool (decide (s.size > 2) && starB s))) [] := by
 refine holds_of (ann := []) tabOk hm Tryz.func116 (by kernel_rfl) rfl ?_
 simp +decide only [Tryz.f116, go_sem]
 cases h2 : decide ((s.size : Int) > 2)
 ·have e : decide (s.size > 2) = false := by simp at h2; simp; omega
  simp +decide only [e, Bool.false_and, go_sem]
  exact Runs.ret_v
 ·have e : decide (s.size > 2) = true := by simp at h2; simp; omega
  have e2 : decide (s.size ≥ 2) = true := by simp at h2; simp; omega
  have b1 : decide ((0 : Int) ≤ 0 ∧ (0 : Int) ≤ 2 ∧ (2 : Int) ≤ s.size) = true := by simp at h2; simp; omega
  have b2 : decide ((0 : Int) ≤ 2 ∧ (2 : Int) ≤ s.size) = true := by simp at h2; simp; omega
  have b3 : decide ((2 : Int) ≤ s.size) = true := by simp at h2; simp; omega
  have t0 : Int.toNat 0 = 0 := rfl
  have t2 : Int.toNat 2 = 2 := rfl
  simp +decide (disch := first | omega | (simp only [ll]; omega)) only [e, b1, b2, b3, t0, t2, if_pos, go_sem]
  exact Runs.ret_eq (by simp only [starB, e2, Bool.true_and, starP])
include hm in
theorem sPatOk (s : ByteArray) (h : s.size ≤ 1048576) : Holds Tryz.prog 96 [.v (.string s)] [] (.v (.bool (patB s))) [] := by
 refine holds_of (ann := []) tabOk hm Tryz.func96 (by kernel_rfl) rfl ?_
 simp +decide only [Tryz.f96, go_sem]
 refine Runs.call (l8Star hm s h) ?_
 cases h2 : decide (s.size > 2) && starB s
 ·simp +decide only [go_sem]
  refine Runs.call (sHostOk hm s) ?_
  simp +decide only [go_sem]
  refine Runs.ret_eq ?_
  rw [patB]
  cases h3 : starB s
  ·rfl
  ·have hs : s.size = 2 := by
    rw [h3, Bool.and_true] at h2
    simp at h2
    simp only [starB, Bool.and_eq_true, decide_eq_true_eq] at h3
    omega
   rw [host_star2 hs h3]
   have e : s.extract 2 s.size = ⟨#[]⟩ := by rw [mkS_ext, hs]; simp [mkS]
   rw [e, host_nil]; rfl
 ·rw [Bool.and_eq_true] at h2
  have h3 := h2.1
  have hs : 2 < s.size := by simpa using h3
  have b1 : decide ((0 : Int) ≤ 2 ∧ (2 : Int) ≤ s.size ∧ (s.size : Int) ≤ s.size) = true := by simp; omega
  have b2 : decide ((2 : Int) ≤ s.size ∧ (s.size : Int) ≤ s.size) = true := by simp; omega
  have t2 : Int.toNat 2 = 2 := rfl
  simp +decide (disch := first | omega | (simp only [ll]; omega)) only [b1, b2, t2, if_pos, go_sem]
  refine Runs.call (sHostOk hm _) ?_
  cases h4 : hostB (s.extract 2 s.size)
  ·simp +decide only [go_sem]
   exact Runs.ret_eq (by rw [patB, h2.2, h4]; simp)
  ·have hsz : (s.extract 2 s.size).size ≤ 1048576 := by rw [mkS_ext, mkS_size]; simp; have := list_size s; omega
   have hl : ((partsB (s.extract 2 s.size)).map strA).length = (partsB (s.extract 2 s.size)).length := List.length_map _
   simp +decide (disch := first | omega | (simp only [ll]; omega)) only [b1, b2, t2, if_pos, go_sem]
   refine Runs.call (l8Parts hm _ hsz) ?_
   simp +decide (disch := first | omega | (simp only [ll]; omega)) only [hl, if_pos, go_sem]
   refine Runs.ret_eq ?_
   have e9 : decide (((partsB (s.extract 2 s.size)).length : Int) ≥ 2) = decide ((partsB (s.extract 2 s.size)).length ≥ 2) := by rw [decide_eq_decide]; omega
   rw [patB, h2.2, h4, if_pos rfl, Bool.true_and, e9]
include hm in
theorem cutStar (s : ByteArray) (h : s.size ≤ 1048576) : Holds Tryz.prog 122 [.v (.string s), .v (.string starP)] [] (.tup [.v (.string (if starB s = true then s.extract 2 s.size else s)), .v (.bool (starB s))]) [] := by
 have hs2 : ((starP.size : Nat) : Int) = 2 := rfl
 have t0 : Int.toNat 0 = 0 := rfl
 have t2 : Int.toNat 2 = 2 := rfl
 have c1 : Holds Tryz.prog 159 [.v (.string s), .v (.string starP)] [] (.v (.bool (starB s))) [] := by
  refine holds_of (ann := []) tabOk hm Tryz.func159 (by kernel_rfl) rfl ?_
  simp +decide only [Tryz.f159, hs2, go_sem]
  cases h2 : decide ((s.size : Int) ≥ 2)
  ·have e2 : decide (s.size ≥ 2) = false := by simp at h2; simp; omega
   simp +decide only [go_sem]
   exact Runs.ret_eq (by rw [starB, e2, Bool.false_and])
  ·have e2 : decide (s.size ≥ 2) = true := by simp at h2; simp; omega
   have b1 : decide ((0 : Int) ≤ 0 ∧ (0 : Int) ≤ 2 ∧ (2 : Int) ≤ s.size) = true := by simp at h2; simp; omega
   have b3 : decide ((2 : Int) ≤ s.size) = true := by simp at h2; simp; omega
   simp +decide (disch := first | omega | (simp only [ll]; omega)) only [hs2, b1, b3, t0, t2, if_pos, go_sem]
   exact Runs.ret_eq (by rw [starB, e2, Bool.true_and])
 have c2 : Holds Tryz.prog 139 [.v (.string s), .v (.string starP)] [] (.tup [.v (.string (if starB s = true then s.extract 2 s.size else s)), .v (.bool (starB s))]) [] := by
  refine holds_of (ann := []) tabOk hm Tryz.func139 (by kernel_rfl) rfl ?_
  simp +decide only [Tryz.f139, go_sem]
  refine Runs.call c1 ?_
  cases h2 : starB s
  ·simp +decide only [go_sem]
   exact Runs.ret_refl
  ·have hsz : 2 ≤ s.size := by simp only [starB, Bool.and_eq_true, decide_eq_true_eq] at h2; omega
   have b1 : decide ((0 : Int) ≤ 2 ∧ (2 : Int) ≤ s.size ∧ (s.size : Int) ≤ s.size) = true := by simp; omega
   have b2 : decide ((2 : Int) ≤ s.size ∧ (s.size : Int) ≤ s.size) = true := by simp; omega
   simp +decide (disch := first | omega | (simp only [ll]; omega)) only [hs2, b1, b2, t2, if_pos, go_sem]
   exact Runs.ret_refl
 refine holds_of (ann := []) tabOk hm Tryz.func122 (by kernel_rfl) rfl ?_
 simp +decide only [Tryz.f122, go_sem]
 refine Runs.call c2 ?_
 simp +decide only [go_sem]
 exact Runs.ret_refl
include hm in
theorem hasDot (s : ByteArray) : Holds Tryz.prog 123 [.v (.string s), .v (.string ⟨#[46]⟩)] [] (.v (.bool (decide ((partsB s).length ≥ 2)))) [] := by
 refine holds_of (ann := []) tabOk hm Tryz.func123 (by kernel_rfl) rfl ?_
 simp +decide only [Tryz.f123, go_sem]
 refine Runs.call (sindex1 hm s) ?_
 simp +decide only [go_sem]
 refine Runs.ret_eq ?_
 congr 2
 rw [decide_eq_decide, partsB_len]
 rcases indexByte_lt s.data.toList 46 with h | ⟨m, h, hl⟩
 ·have := List.count_eq_zero.mpr (fun hc => idx_none h 46 hc rfl)
  rw [h, this]; omega
 ·obtain ⟨p, r, e1, e2, e3⟩ := idx_some h
  rw [h, e1, count_cut e3]; omega
include hm in
theorem iPatOk (s : ByteArray) (h : s.size ≤ 1048576) : Holds Tryz.prog 99 [.v (.string s)] [] (.v (.bool (patB s))) [] := by
 refine holds_of (ann := []) tabOk hm Tryz.func99 (by kernel_rfl) rfl ?_
 simp +decide only [Tryz.f99, go_sem]
 have c := cutStar hm s h
 rw [starP] at c
 refine Runs.call c ?_
 cases h2 : starB s
 ·simp +decide only [go_sem]
  refine Runs.call (iHostOk hm s) ?_
  cases h3 : hostB s
  ·simp +decide only [go_sem]
   exact Runs.ret_eq (by simp [patB, h2, h3])
  ·simp +decide only [go_sem]
   exact Runs.ret_eq (by simp [patB, h2, h3])
 ·simp +decide only [go_sem]
  refine Runs.call (iHostOk hm _) ?_
  cases h3 : hostB (s.extract 2 s.size)
  ·simp +decide only [go_sem]
   exact Runs.ret_eq (by simp [patB, h2, h3])
  ·simp +decide only [go_sem]
   refine Runs.call (hasDot hm _) ?_
   simp +decide only [go_sem]
   exact Runs.ret_eq (by simp [patB, h2, h3])
end Go.Proofs.W

namespace Go.Proofs.W
open Go Go.AM
set_option maxRecDepth 10000
variable (hm : Tryz.prog.follows .mixedOrders = true)
def rowS (l : List Int) : A := .sl .sh (l.map intA)
def rowO (l : List Int) : A := .sl (.ow 1) (l.map intA)
theorem rowS_plain (ne : List (List Int)) : plainL (ne.map rowS) = true := by
 induction ne with
 | nil => simp [plainL]
 | cons a l ih => simp [plainL, rowS, A.plain, ih, Sh.own, pl_intA]
theorem rowS_dn (ne : List (List Int)) : dnL (ne.map rowS) = ne.map rowS := by
 induction ne with
 | nil => simp [dnL]
 | cons a l ih => simp [dnL, rowS, A.dn, ih, dn_intA]
theorem rowO_dn (ne : List (List Int)) : dnL (ne.map rowO) = ne.map rowS := by
 induction ne with
 | nil => simp [dnL]
 | cons a l ih => simp [dnL, rowO, rowS, A.dn, ih, dn_intA]
attribute [local go_sem] rowS_plain rowS_dn rowO_dn
def szII : List (List Int) → Int → Int
 | [], l => l
 | r :: R, l => if szI r.length l < 0 then -1 else szII R (szI r.length l)
def szSS (L : List (List Int)) (left : Int) : Int := if left - L.length < 0 then -1 else szII L (left - L.length)
theorem szII_le (L : List (List Int)) (l : Int) (h : 0 ≤ l) : szII L l ≤ l ∧ -1 ≤ szII L l ∧ (0 ≤ szII L l → ∀ r ∈ L, r.length ≤ l) := by
 induction L generalizing l with
 | nil => simp [szII]; omega
 | cons r R ih =>
  simp only [szII]
  have hs := szI_le r.length l h
  split
  ·exact ⟨by omega, by omega, fun h => by omega⟩
  ·have := ih (szI r.length l) (by omega)
   refine ⟨by omega, by omega, fun h2 x hx => ?_⟩
   rcases List.mem_cons.mp hx with h3 | h3
   ·subst h3; unfold szI at *; split at * <;> omega
   ·have := this.2.2 h2 x h3; omega
theorem szSS_le (L : List (List Int)) (l : Int) (h : 0 ≤ l) : szSS L l ≤ l ∧ -1 ≤ szSS L l ∧ (0 ≤ szSS L l → L.length ≤ l ∧ ∀ r ∈ L, r.length ≤ l) := by
 unfold szSS
 split
 ·exact ⟨by omega, by omega, fun h => by omega⟩
 ·have := szII_le L (l - L.length) (by omega)
  exact ⟨by omega, by omega, fun h2 => ⟨by omega, fun r hr => by have := this.2.2 h2 r hr; omega⟩⟩
def ssAnn : Ann := [(0, [0, 1, 5])]
def ssSt (L : List (List Int)) (p : Nat × Int) : St := ⟨[.sl .sh (L.map rowS), .v (.int .i64 p.2), .any, .any, .any, .v (.int .i64 p.1), .any, .any, .any, .any, .any, .any, .any, .any, .any, .any, .any, .any, .any, .any, .any, .any, .any, .any, .any, .any, .any], [], []⟩
include hm in
theorem szIntSS (L : List (List Int)) (left : Int) (h1 : 0 ≤ left) (h2 : left ≤ 1048576) (h3 : L.length ≤ 9223372036854775807) (h4 : ∀ s ∈ L, s.length ≤ 9223372036854775807) :
  Holds Tryz.prog 47 [.sl .sh (L.map rowS), .v (.int .i64 left)] [] (.v (.int .i64 (szSS L left))) [] := by
 refine holds_of (ann := ssAnn) tabOk hm Tryz.func47 (by kernel_rfl) rfl ?_
 simp +decide (disch := first | omega | (simp only [ll]; omega)) only [Tryz.f47, if_pos, go_sem]
 refine Runs.split (fun h => ?_) (fun h => ?_)
 ·simp only [decide_eq_true_eq] at h
  simp +decide only [szSS, if_pos h, go_sem]
  exact Runs.ret_v
 ·simp only [decide_eq_false_iff_not] at h
  simp +decide only [go_sem]
  refine Runs.while (α := Nat × Int) (ssSt L) (fun p => L.length - p.1) (fun p => p.1 ≤ L.length ∧ 0 ≤ p.2 ∧ p.2 ≤ 1048576 ∧ szII (L.drop p.1) p.2 = szSS L left) (0, left - L.length) ⟨by simp, by simp; omega, by simp; omega, by simp [szSS, h]⟩ ?_ ?_
  ·simp [go_sem, ssAnn, ssSt]
  ·rintro ⟨i, l⟩ ⟨hi, hl1, hl2, hr⟩ ih
   simp only at hi hl1 hl2 hr
   simp +decide only [ssSt, go_sem]
   refine Runs.split (fun h => ?_) (fun h => ?_)
   ·have hlt : i < L.length := by simpa using h
    have hsz := h4 L[i] (List.getElem_mem hlt)
    have hg : (L.map rowS).getD i .any = .sl .sh (L[i].map intA) := by simp [List.getD, hlt, rowS]
    rw [List.drop_eq_getElem_cons hlt] at hr
    simp only [szII] at hr
    have hb := szI_le L[i].length l hl1
    simp +decide (disch := first | omega | (simp only [ll]; omega)) only [hg, if_pos, go_sem]
    refine Runs.call (szIntS hm (L[i].map intA) l hl1 hl2 (by simpa using hsz)) ?_
    simp +decide only [List.length_map, go_sem]
    refine Runs.split (fun h => ?_) (fun h => ?_)
    ·simp only [decide_eq_true_eq] at h
     rw [if_pos h] at hr
     simp +decide only [← hr, go_sem]
     exact Runs.ret_v
    ·simp only [decide_eq_false_iff_not] at h
     rw [if_neg h] at hr
     simp +decide (disch := first | omega | (simp only [ll]; omega)) only [if_pos, go_sem]
     refine ih (i + 1, szI L[i].length l) _ (by simp only; omega) ⟨hlt, by simp only; omega, by simp only; omega, hr⟩ ?_
     simp [go_sem, ssAnn, ssSt]
   ·have hge : i = L.length := by simp at h; omega
    subst hge
    simp only [List.drop_length, szII] at hr
    simp +decide only [← hr, go_sem]
    exact Runs.ret_v
def tssSt (L : List (List Int)) (i : Nat) : St := ⟨[.sl .sh (L.map rowS), .any, .any, .ms (.l 0) 0 L.length L.length, .v (.int .i64 i), .any, .any, .any, .any, .any, .any, .any, .any, .any, .any, .any, .any, .any, .any, .any, .any, .any, .any], [(0, ⟨true, 1, false, fillS rowO L (.v (.slice none 0 0)) i⟩)], []⟩
include hm in
theorem toIntSS (L : List (List Int)) (h3 : L.length ≤ 1048576) (h4 : ∀ s ∈ L, s.length ≤ 1048576) : Holds Tryz.prog 56 [.sl .sh (L.map rowS)] [] (.sl (.ow 1) (L.map rowO)) [] := by
 refine holds_of (ann := toAnn) tabOk hm Tryz.func56 (by kernel_rfl) rfl ?_
 simp +decide (disch := first | omega | (simp only [ll]; omega)) only [Tryz.f56, if_pos, go_sem]
 refine Runs.while (α := Nat) (tssSt L) (fun i => L.length - i) (fun i => i ≤ L.length) 0 (by omega) ?_ ?_
 ·simp [go_sem, toAnn, tssSt, fillS_zero]
 ·intro i hi ih
  have hlen := fillS_length rowO L (.v (.slice none 0 0)) i hi
  simp +decide only [tssSt, hlen, go_sem]
  refine Runs.split (fun h => ?_) (fun h => ?_)
  ·have hlt : i < L.length := by simpa using h
   have hg := fillS_get rowO L (.v (.slice none 0 0)) i hlt
   have hg2 : (L.map rowS).getD i .any = .sl .sh (L[i].map intA) := by simp [List.getD, hlt, rowS]
   have hs : (fillS rowO L (.v (.slice none 0 0)) i).set i (rowO L[i]) = _ := fillS_set rowO L (.v (.slice none 0 0)) i hlt
   simp only [rowO] at hs
   simp +decide (disch := first | omega | (simp only [ll]; omega)) only [hlen, hg, hg2, if_pos, go_sem]
   refine Runs.call (toIntS hm L[i] (h4 _ (List.getElem_mem hlt))) ?_
   simp +decide (disch := first | omega | (simp only [ll]; omega)) only [hlen, hg, hs, Nat.mul_one, Nat.zero_add, Nat.add_zero, if_pos, go_sem]
   refine ih (i + 1) _ (by omega) hlt ?_
   simp [go_sem, toAnn, tssSt]
  ·have hge : i = L.length := by simp at h; omega
   subst hge
   simp +decide only [hlen, fillS_all, go_sem]
   exact Runs.ret_refl
def esS : Sched := .take 0 (.take 1 (.take 2 (.take 4 (.take 5 (.take 6 (.alt 3 (.alt 7 (.alt 8 (.take 9 .fin) .nil) .nil) (.alt 7 (.alt 3 (.alt 8 (.take 9 .fin) .nil) .nil) .nil)))))))
attribute [local go_sem] esS
def essSt (L : List (List Int)) (i : Nat) : St := ⟨[.sl .sh (L.map rowS), .sl .sh (L.map rowS), .any, .any, .any, .v (.int .i64 i), .any, .any, .any, .any, .any, .any, .any, .any, .any, .any, .any, .any, .any, .any, .any, .any, .any, .any, .any, .any, .any], [], []⟩
include hm in
theorem eqIntSS (L : List (List Int)) (h3 : L.length ≤ 1048576) (h4 : ∀ s ∈ L, s.length ≤ 1048576) : Holds Tryz.prog 66 [.sl .sh (L.map rowS), .sl .sh (L.map rowS)] [] (.v (.bool true)) [] := by
 refine holds_of (ann := eqAnn) tabOk hm Tryz.func66 (by kernel_rfl) rfl ?_
 simp +decide only [Tryz.f66, go_sem]
 refine Runs.while (α := Nat) (essSt L) (fun i => L.length - i) (fun i => i ≤ L.length) 0 (by omega) ?_ ?_
 ·simp [go_sem, eqAnn, essSt]
 ·intro i hi ih
  simp +decide only [essSt, go_sem]
  refine Runs.split (fun h => ?_) (fun h => ?_)
  ·have hlt : i < L.length := by simpa using h
   have hsz := h4 _ (List.getElem_mem hlt)
   have hg : (L.map rowS).getD i .any = .sl .sh (L[i].map intA) := by simp [List.getD, hlt, rowS]
   simp +decide only [go_sem]
   refine Runs.draw (st1 := ?s1) (draws_by (ann := []) tabOk esS (by kernel_rfl) ?p1) ?q1
   case p1 =>
    intro K r X hK
    simp +decide (disch := first | omega | (simp only [ll]; omega)) only [hg, if_pos, go_sem]
    repeat' apply And.intro
    all_goals
     refine Runs.call (eqIntS hm L[i] (by omega)) ?_
     simp +decide only [go_sem]
     exact hK
   case q1 =>
    simp +decide (disch := first | omega | (simp only [ll]; omega)) only [if_pos, go_sem]
    refine ih (i + 1) _ (by omega) hlt ?_
    simp [go_sem, eqAnn, essSt]
  ·simp +decide only [go_sem]
   exact Runs.ret_v
def exS (ca : Bool) (path usage : Int) (ho : List ByteArray) (ne : List (List Int)) (al de : List ByteArray) (pu : List Int) : A :=
 .agg [.v (.bool ca), .v (.int .i64 path), .v (.int .i64 usage), .sl .sh (ho.map strA), .sl .sh (ne.map rowS), .sl .sh (al.map strA), .sl .sh (de.map strA), .sl .sh (pu.map intA)]
def exO (ca : Bool) (path usage : Int) (ho : List ByteArray) (ne : List (List Int)) (al de : List ByteArray) (pu : List Int) : A :=
 .agg [.v (.bool ca), .v (.int .i64 path), .v (.int .i64 usage), .sl (.ow 1) (ho.map strA), .sl (.ow 1) (ne.map rowO), .sl (.ow 1) (al.map strA), .sl (.ow 1) (de.map strA), .sl (.ow 1) (pu.map intA)]
attribute [local go_sem] exS exO
def szExV (ho : List ByteArray) (ne : List (List Int)) (al de : List ByteArray) (pu : List Int) (left : Int) : Int :=
 if szS ho left < 0 then -1 else if szSS ne (szS ho left) < 0 then -1 else if szS al (szSS ne (szS ho left)) < 0 then -1 else
 if szS de (szS al (szSS ne (szS ho left))) < 0 then -1 else if szI pu.length (szS de (szS al (szSS ne (szS ho left)))) < 0 then -1 else szI pu.length (szS de (szS al (szSS ne (szS ho left))))
def ExFit (ho : List ByteArray) (ne : List (List Int)) (al de : List ByteArray) (pu : List Int) : Prop :=
 ho.length ≤ 1048576 ∧ ne.length ≤ 1048576 ∧ (∀ r ∈ ne, r.length ≤ 1048576) ∧ al.length ≤ 1048576 ∧ de.length ≤ 1048576 ∧ pu.length ≤ 1048576
theorem szExV_le (ho : List ByteArray) (ne : List (List Int)) (al de : List ByteArray) (pu : List Int) (left : Int) (h : 0 ≤ left) (h2 : left ≤ 1048576) :
  szExV ho ne al de pu left ≤ left ∧ -1 ≤ szExV ho ne al de pu left ∧ (¬ szExV ho ne al de pu left < 0 → ExFit ho ne al de pu) := by
 have b1 := szS_le ho left h
 unfold szExV
 split
 ·exact ⟨by omega, by omega, fun h => by omega⟩
 ·rename_i e1
  have k1 := szS_len ho _ e1 (by omega)
  have b2 := szSS_le ne (szS ho left) (by omega)
  split
  ·exact ⟨by omega, by omega, fun h => by omega⟩
  ·rename_i e2
   have k2 := b2.2.2 (by omega)
   have b3 := szS_le al (szSS ne (szS ho left)) (by omega)
   split
   ·exact ⟨by omega, by omega, fun h => by omega⟩
   ·rename_i e3
    have k3 := szS_len al _ e3 (by omega)
    have b4 := szS_le de (szS al (szSS ne (szS ho left))) (by omega)
    split
    ·exact ⟨by omega, by omega, fun h => by omega⟩
    ·rename_i e4
     have k4 := szS_len de _ e4 (by omega)
     have b5 := szI_le pu.length (szS de (szS al (szSS ne (szS ho left)))) (by omega)
     split
     ·exact ⟨by omega, by omega, fun h => by omega⟩
     ·rename_i e5
      have k5 := szI_len pu.length _ e5 (by omega)
      exact ⟨by omega, by omega, fun _ => ⟨k1, by omega, fun r hr => by have := k2.2 r hr; omega, k3, k4, k5⟩⟩
include hm in
theorem szExts (ca : Bool) (path usage : Int) (ho : List ByteArray) (ne : List (List Int)) (al de : List ByteArray) (pu : List Int) (left : Int) (l1 : 0 ≤ left) (l2 : left ≤ 1048576)
  (h1 : ho.length ≤ 9223372036854775807) (h2 : ∀ s ∈ ho, s.size ≤ 9223372036854775807) (h3 : ne.length ≤ 9223372036854775807) (h4 : ∀ s ∈ ne, s.length ≤ 9223372036854775807)
  (h5 : al.length ≤ 9223372036854775807) (h6 : ∀ s ∈ al, s.size ≤ 9223372036854775807) (h7 : de.length ≤ 9223372036854775807) (h8 : ∀ s ∈ de, s.size ≤ 9223372036854775807) (h9 : pu.length ≤ 9223372036854775807) :
  Holds Tryz.prog 20 [exS ca path usage ho ne al de pu, .v (.int .i64 left)] [] (.v (.int .i64 (szExV ho ne al de pu left))) [] := by
 have b1 := szS_le ho left l1
 refine holds_ref (ann := []) tabOk hm (byL [] [1000002]) Tryz.func20 (by kernel_rfl) rfl ?_
 simp +decide only [Tryz.f20, go_sem]
 refine Runs.call (szStringS hm ho left l1 l2 h1 h2) ?_
 simp +decide only [go_sem]
 refine Runs.split (fun e => ?_) (fun e => ?_)
 ·simp only [decide_eq_true_eq] at e
  simp +decide only [szExV, if_pos e, go_sem]
  exact Runs.ret_v
 simp only [decide_eq_false_iff_not] at e
 have b2 := szSS_le ne (szS ho left) (by omega)
 simp +decide only [go_sem]
 refine Runs.call (szIntSS hm ne _ (by omega) (by omega) h3 h4) ?_
 simp +decide only [go_sem]
 refine Runs.split (fun e2 => ?_) (fun e2 => ?_)
 ·simp only [decide_eq_true_eq] at e2
  simp +decide only [szExV, if_neg e, if_pos e2, go_sem]
  exact Runs.ret_v
 simp only [decide_eq_false_iff_not] at e2
 have b3 := szS_le al (szSS ne (szS ho left)) (by omega)
 simp +decide only [go_sem]
 refine Runs.call (szStringS hm al _ (by omega) (by omega) h5 h6) ?_
 simp +decide only [go_sem]
 refine Runs.split (fun e3 => ?_) (fun e3 => ?_)
 ·simp only [decide_eq_true_eq] at e3
  simp +decide only [szExV, if_neg e, if_neg e2, if_pos e3, go_sem]
  exact Runs.ret_v
 simp only [decide_eq_false_iff_not] at e3
 have b4 := szS_le de (szS al (szSS ne (szS ho left))) (by omega)
 simp +decide only [go_sem]
 refine Runs.call (szStringS hm de _ (by omega) (by omega) h7 h8) ?_
 simp +decide only [go_sem]
 refine Runs.split (fun e4 => ?_) (fun e4 => ?_)
 ·simp only [decide_eq_true_eq] at e4
  simp +decide only [szExV, if_neg e, if_neg e2, if_neg e3, if_pos e4, go_sem]
  exact Runs.ret_v
 simp only [decide_eq_false_iff_not] at e4
 simp +decide only [go_sem]
 refine Runs.call (szIntS hm (pu.map intA) _ (by omega) (by omega) (by simpa using h9)) ?_
 simp +decide only [List.length_map, go_sem]
 refine Runs.split (fun e5 => ?_) (fun e5 => ?_)
 ·simp only [decide_eq_true_eq] at e5
  simp +decide only [szExV, if_neg e, if_neg e2, if_neg e3, if_neg e4, if_pos e5, go_sem]
  exact Runs.ret_v
 simp only [decide_eq_false_iff_not] at e5
 simp +decide only [szExV, if_neg e, if_neg e2, if_neg e3, if_neg e4, if_neg e5, go_sem]
 exact Runs.ret_v
include hm in
theorem toExts (ca : Bool) (path usage : Int) (ho : List ByteArray) (ne : List (List Int)) (al de : List ByteArray) (pu : List Int) (h : ExFit ho ne al de pu) :
  Holds Tryz.prog 28 [exS ca path usage ho ne al de pu] [] (exO ca path usage ho ne al de pu) [] := by
 obtain ⟨h1, h2, h3, h4, h5, h6⟩ := h
 refine holds_ref (ann := []) tabOk hm (byL [] [1000001]) Tryz.func28 (by kernel_rfl) rfl ?_
 simp +decide only [Tryz.f28, go_sem]
 refine Runs.call (toStringS hm ho h1) ?_
 simp +decide only [go_sem]
 refine Runs.call (toIntSS hm ne h2 h3) ?_
 simp +decide only [go_sem]
 refine Runs.call (toStringS hm al h4) ?_
 simp +decide only [go_sem]
 refine Runs.call (toStringS hm de h5) ?_
 simp +decide only [go_sem]
 refine Runs.call (toIntS hm pu h6) ?_
 simp +decide only [go_sem]
 exact Runs.ret_refl
include hm in
theorem eqExts (ca : Bool) (path usage : Int) (ho : List ByteArray) (ne : List (List Int)) (al de : List ByteArray) (pu : List Int) (h : ExFit ho ne al de pu) :
  Holds Tryz.prog 35 [exS ca path usage ho ne al de pu, exS ca path usage ho ne al de pu] [] (.v (.bool true)) [] := by
 obtain ⟨h1, h2, h3, h4, h5, h6⟩ := h
 refine holds_ref (ann := []) tabOk hm (byL [] [1000002, 1000003]) Tryz.func35 (by kernel_rfl) rfl ?_
 simp +decide only [Tryz.f35, go_sem]
 refine Runs.call (eqStringS hm ho (by omega)) ?_
 simp +decide only [go_sem]
 refine Runs.call (eqIntSS hm ne h2 h3) ?_
 simp +decide only [go_sem]
 refine Runs.call (eqStringS hm al (by omega)) ?_
 simp +decide only [go_sem]
 refine Runs.call (eqStringS hm de (by omega)) ?_
 simp +decide only [go_sem]
 refine Runs.call (eqIntS hm pu (by omega)) ?_
 simp +decide only [go_sem]
 exact Runs.ret_v
end Go.Proofs.W

namespace Go.Proofs.W
open Go Go.AM
set_option maxRecDepth 10000
variable (hm : Tryz.prog.follows .mixedOrders = true)
def charOk (b : UInt8) : Bool := inB b.toNat 32 126
def textOk (s : ByteArray) : Bool := inB s.size 1 40 && s.data.toList.all charOk
def nameOk (L : List ByteArray) : Bool := L.all textOk && inB L.length 1 4
theorem bs_len (s : ByteArray) : s.data.toList.length = s.size := by rw [Array.length_toList]; rfl
def ann13 : Ann := [(0, [0, 3]), (2, [0, 3, 4])]
def st13 (L : List ByteArray) (i : Nat) : St := ⟨[.sl .sh (L.map strA), .any, .any, .v (.int .i64 i), .any, .any, .any, .any, .any, .any, .any, .any, .any, .any, .any, .any, .any, .any, .any, .any, .any, .any, .any, .any, .any, .any, .any, .any, .any, .any, .any, .any, .any, .any, .any, .any, .any, .any, .any], [], []⟩
def st13b (L : List ByteArray) (i k : Nat) : St := ⟨[.sl .sh (L.map strA), .any, .any, .v (.int .i64 i), .v (.int .i64 k), .any, .any, .any, .any, .any, .any, .any, .any, .any, .any, .any, .any, .any, .any, .any, .any, .any, .any, .any, .any, .any, .any, .any, .any, .any, .any, .any, .any, .any, .any, .any, .any, .any, .any], [], []⟩
include hm in
theorem l10Name (L : List ByteArray) (h3 : L.length ≤ 9223372036854775807) (h4 : ∀ s ∈ L, s.size ≤ 9223372036854775807) :
  Holds Tryz.prog 68 [.sl .sh (L.map strA)] [] (.v (.bool (nameOk L))) [] := by
 refine holds_of (ann := ann13) tabOk hm Tryz.func68 (by kernel_rfl) rfl ?_
 simp +decide only [Tryz.f68, go_sem]
 refine Runs.while (α := Nat) (st13 L) (fun i => L.length - i) (fun i => i ≤ L.length ∧ (L.drop i).all textOk = L.all textOk) 0 ⟨by omega, by simp⟩ ?_ ?_
 ·simp [go_sem, ann13, st13]
 ·rintro i ⟨hi1, hr⟩ ih
  simp +decide only [st13, go_sem]
  refine Runs.split (fun h => ?_) (fun h => ?_)
  ·have hlt : i < L.length := by simpa using h
   have hs := h4 L[i] (List.getElem_mem hlt)
   rw [List.drop_eq_getElem_cons hlt, List.all_cons] at hr
   simp +decide (disch := first | omega | (simp only [ll]; omega)) only [if_pos, go_sem]
   refine Runs.call (l1In hm L[i].size 1 40) ?_
   simp +decide only [go_sem]
   refine Runs.split (fun h => ?_) (fun h => ?_)
   ·simp only [Bool.not_eq_true'] at h
    have e : nameOk L = false := by rw [nameOk, ← hr, textOk, h]; simp
    simp +decide only [e, go_sem]
    exact Runs.ret_v
   ·simp only [Bool.not_eq_false'] at h
    simp +decide only [go_sem]
    refine Runs.while (α := Nat) (st13b L i) (fun k => L[i].size - k) (fun k => k ≤ L[i].size ∧ (L[i].data.toList.drop k).all charOk = L[i].data.toList.all charOk) 0 ⟨by omega, by simp⟩ ?_ ?_
    ·simp [go_sem, ann13, st13b]
    ·rintro k ⟨hk1, hk⟩ ihk
     simp +decide (disch := first | omega | (simp only [ll]; omega)) only [st13b, if_pos, go_sem]
     refine Runs.split (fun h => ?_) (fun h => ?_)
     ·have hltk : k < L[i].size := by simpa using h
      have hlen := bs_len L[i]
      rw [List.drop_eq_getElem_cons (by omega), List.all_cons] at hk
      have hg : L[i].data.toList.getD k 0 = L[i].data.toList[k] := by simp [List.getD, hltk]
      have hb := UInt8.toNat_lt L[i].data.toList[k]
      simp +decide (disch := first | omega | (simp only [ll]; omega)) only [hg, if_pos, go_sem]
      refine Runs.call (l1In hm _ 32 126) ?_
      simp +decide only [go_sem]
      refine Runs.split (fun h' => ?_) (fun h' => ?_)
      ·simp only [Bool.not_eq_true'] at h'
       have e : nameOk L = false := by rw [nameOk, ← hr, textOk, ← hk, charOk, h']; simp
       simp +decide only [e, go_sem]
       exact Runs.ret_v
      ·simp only [Bool.not_eq_false'] at h'
       rw [charOk, h', Bool.true_and] at hk
       simp +decide (disch := first | omega | (simp only [ll]; omega)) only [if_pos, go_sem]
       refine ihk (k + 1) _ (by omega) ⟨by omega, hk⟩ ?_
       simp [go_sem, ann13, st13b]
     ·have hge : k = L[i].size := by simp at h; omega
      have hlen := bs_len L[i]
      rw [List.drop_of_length_le (by omega), List.all_nil] at hk
      rw [textOk, ‹inB _ 1 40 = true›, ← hk, Bool.true_and, Bool.true_and] at hr
      simp +decide (disch := first | omega | (simp only [ll]; omega)) only [if_pos, go_sem]
      refine ih (i + 1) _ (by omega) ⟨by omega, hr⟩ ?_
      simp [go_sem, ann13, st13]
  ·have hge : i = L.length := by simp at h; omega
   subst hge
   rw [List.drop_length, List.all_nil] at hr
   simp +decide only [go_sem]
   refine Runs.call (l1In hm _ 1 4) ?_
   simp +decide only [nameOk, ← hr, go_sem]
   exact Runs.ret_v
def ann18 : Ann := [(0, [0, 6, 7, 8]), (2, [0, 4, 6, 7, 8, 13, 14])]
def st18 (L : List ByteArray) (i : Nat) : St := ⟨[.sl .sh (L.map strA), .any, .any, .any, .any, .any, .sl .sh (L.map strA), .v (.int .i64 L.length), .v (.int .i64 i), .any, .any, .any, .any, .any, .any, .any, .any, .any, .any, .any, .any, .any, .any, .any, .any, .any, .any, .any, .any, .any, .any, .any, .any, .any, .any, .any], [], []⟩
def st18b (L : List ByteArray) (i : Nat) (s : ByteArray) (k : Nat) : St := ⟨[.sl .sh (L.map strA), .any, .any, .any, .v (.string s), .any, .sl .sh (L.map strA), .v (.int .i64 L.length), .v (.int .i64 i), .any, .any, .any, .any, .v (.int .i64 s.size), .v (.int .i64 k), .any, .any, .any, .any, .any, .any, .any, .any, .any, .any, .any, .any, .any, .any, .any, .any, .any, .any, .any, .any, .any], [], []⟩
theorem charOk_lo {b : UInt8} (h : (b.toNat : Int) < 32) : charOk b = false := by simp [charOk, inB]; omega
theorem charOk_hi {b : UInt8} (h : ¬ (b.toNat : Int) < 32) : charOk b = !decide ((b.toNat : Int) > 126) := by
 unfold charOk inB
 rw [decide_eq_true (by omega), Bool.true_and]
 by_cases h2 : (b.toNat : Int) > 126
 ·rw [decide_eq_false (by omega), decide_eq_true h2]; rfl
 ·rw [decide_eq_true (by omega), decide_eq_false h2]; rfl
include hm in
theorem isName (L : List ByteArray) (h3 : L.length ≤ 9223372036854775807) (h4 : ∀ s ∈ L, s.size ≤ 9223372036854775807) :
  Holds Tryz.prog 86 [.sl .sh (L.map strA)] [] (.v (.bool (nameOk L))) [] := by
 refine holds_of (ann := ann18) tabOk hm Tryz.func86 (by kernel_rfl) rfl ?_
 simp +decide only [Tryz.f86, go_sem]
 refine Runs.while (α := Nat) (st18 L) (fun i => L.length - i) (fun i => i ≤ L.length ∧ (L.drop i).all textOk = L.all textOk) 0 ⟨by omega, by simp⟩ ?_ ?_
 ·simp [go_sem, ann18, st18]
 ·rintro i ⟨hi1, hr⟩ ih
  simp +decide only [st18, go_sem]
  refine Runs.split (fun h => ?_) (fun h => ?_)
  ·have hlt : i < L.length := by simpa using h
   have hs := h4 L[i] (List.getElem_mem hlt)
   rw [List.drop_eq_getElem_cons hlt, List.all_cons] at hr
   simp +decide (disch := first | omega | (simp only [ll]; omega)) only [if_pos, go_sem]
   refine Runs.while (α := Nat) (st18b L i L[i]) (fun k => L[i].size - k) (fun k => k ≤ L[i].size ∧ (L[i].data.toList.drop k).all charOk = L[i].data.toList.all charOk) 0 ⟨by omega, by simp⟩ ?_ ?_
   ·simp [go_sem, ann18, st18b]
   ·rintro k ⟨hk1, hk⟩ ihk
    simp +decide (disch := first | omega | (simp only [ll]; omega)) only [st18b, if_pos, go_sem]
    refine Runs.split (fun h => ?_) (fun h => ?_)
    ·have hltk : k < L[i].size := by simpa using h
     have hlen := bs_len L[i]
     rw [List.drop_eq_getElem_cons (by omega), List.all_cons] at hk
     have hg : L[i].data.toList.getD k 0 = L[i].data.toList[k] := by simp [List.getD, hltk]
     have hb := UInt8.toNat_lt L[i].data.toList[k]
     simp +decide (disch := first | omega | (simp only [ll]; omega)) only [hg, if_pos, go_sem]
     have stop : charOk L[i].data.toList[k] = false → nameOk L = false := fun h => by rw [nameOk, ← hr, textOk, ← hk, h]; simp
     refine Runs.split (fun h => ?_) (fun h => ?_)
     ·simp only [decide_eq_true_eq] at h
      simp +decide only [stop (charOk_lo h), go_sem]
      exact Runs.ret_v
     ·simp only [decide_eq_false_iff_not] at h
      simp +decide (disch := first | omega | (simp only [ll]; omega)) only [hg, if_pos, go_sem]
      refine Runs.split (fun h2 => ?_) (fun h2 => ?_)
      ·simp +decide only [stop (by rw [charOk_hi h, h2]; rfl), go_sem]
       exact Runs.ret_v
      ·rw [charOk_hi h, h2, Bool.not_false, Bool.true_and] at hk
       simp +decide (disch := first | omega | (simp only [ll]; omega)) only [if_pos, go_sem]
       refine ihk (k + 1) _ (by omega) ⟨by omega, hk⟩ ?_
       simp [go_sem, ann18, st18b]
    ·have hge : k = L[i].size := by simp at h; omega
     have hlen := bs_len L[i]
     rw [List.drop_of_length_le (by omega), List.all_nil] at hk
     simp +decide only [go_sem]
     refine Runs.call (within hm _ 1 40) ?_
     simp +decide only [go_sem]
     refine Runs.split (fun h' => ?_) (fun h' => ?_)
     ·simp only [Bool.not_eq_true'] at h'
      have e : nameOk L = false := by rw [nameOk, ← hr, textOk, h']; simp
      simp +decide only [e, go_sem]
      exact Runs.ret_v
     ·simp only [Bool.not_eq_false'] at h'
      rw [textOk, h', ← hk, Bool.true_and, Bool.true_and] at hr
      simp +decide (disch := first | omega | (simp only [ll]; omega)) only [if_pos, go_sem]
      refine ih (i + 1) _ (by omega) ⟨by omega, hr⟩ ?_
      simp [go_sem, ann18, st18]
  ·have hge : i = L.length := by simp at h; omega
   subst hge
   rw [List.drop_length, List.all_nil] at hr
   simp +decide only [go_sem]
   refine Runs.call (within hm _ 1 4) ?_
   simp +decide only [nameOk, ← hr, go_sem]
   exact Runs.ret_v
include hm in
theorem isSig (es : List A) : Holds Tryz.prog 89 [.sl .sh es] [] (.v (.bool (inB es.length 1 64))) [] := by
 refine holds_of (ann := []) tabOk hm Tryz.func89 (by kernel_rfl) rfl ?_
 simp +decide only [Tryz.f89, go_sem]
 refine Runs.call (within hm es.length 1 64) ?_
 simp +decide only [go_sem]
 exact Runs.ret_v
def ann21 : Ann := [(0, [0, 1, 2, 7])]
def st21 (L : List Int) (lo hi : Int) (i : Nat) : St := ⟨[.sl .sh (L.map intA), .v (.int .i64 lo), .v (.int .i64 hi), .any, .any, .any, .any, .v (.int .i64 i), .any, .any, .any, .any, .any, .any, .any, .any, .any, .any, .any, .any, .any, .any, .any, .any, .any, .any, .any, .any], [], []⟩
def sched21 : Sched := .take 0 (.take 1 (.take 2 (.take 3 (.take 5 (.take 6 (.take 7 (.alt 4 (.alt 8 (.take 9 .fin) .nil) (.alt 8 (.alt 4 (.take 9 .fin) .nil) .nil))))))))
def risesFrom (L : List Int) (i : Nat) : Bool := (List.range' i (L.length - i)).all fun j => decide (L.getD (j - 1) 0 < L.getD j 0)
theorem risesFrom_succ {L : List Int} {i : Nat} (h : i < L.length) : risesFrom L i = (decide (L.getD (i - 1) 0 < L.getD i 0) && risesFrom L (i + 1)) := by
 unfold risesFrom
 obtain ⟨k, hk⟩ : ∃ k, L.length - i = k + 1 := ⟨L.length - i - 1, by omega⟩
 rw [hk, List.range'_succ, List.all_cons, show L.length - (i + 1) = k by omega]
include hm in
theorem isRising (L : List Int) (lo hi : Int) (h3 : L.length ≤ 9223372036854775807) :
  Holds Tryz.prog 104 [.sl .sh (L.map intA), .v (.int .i64 lo), .v (.int .i64 hi)] [] (.v (.bool (risesFrom L 1 && L.all fun n => inB n lo hi))) [] := by
 refine holds_of (ann := ann21) tabOk hm Tryz.func104 (by kernel_rfl) rfl ?_
 simp +decide only [Tryz.f104, go_sem]
 refine Runs.while (α := Nat) (st21 L lo hi) (fun i => L.length - i) (fun i => 1 ≤ i ∧ i ≤ max L.length 1 ∧ risesFrom L i = risesFrom L 1) 1 ⟨by omega, by omega, rfl⟩ ?_ ?_
 ·simp [go_sem, ann21, st21]
 ·rintro i ⟨hi0, hi1, hr⟩ ih
  simp +decide only [st21, go_sem]
  refine Runs.split (fun h => ?_) (fun h => ?_)
  ·have hlt : i < L.length := by simpa using h
   rw [risesFrom_succ hlt] at hr
   have he : (L.map intA).getD i .any = .v (.int .i64 (L.getD i 0)) := by simp [List.getD, hlt, intA]
   have he1 : (L.map intA).getD (i - 1) .any = .v (.int .i64 (L.getD (i - 1) 0)) := by simp [List.getD, show i - 1 < L.length by omega, intA]
   have ht : ((i : Int) - 1).toNat = i - 1 := by omega
   have hw : IntKind.i64.wrap ((i : Int) - 1) = (i : Int) - 1 := wrap_i64 (by omega) (by omega)
   simp +decide only [go_sem]
   refine Runs.draw (st1 := ?s1) (draws_by (ann := []) tabOk sched21 (by kernel_rfl) ?h1) ?h2
   case h1 =>
    intro K r X hK
    simp +decide only [sched21, hw, ht, he, he1, go_sem]
    refine Runs.chk (by simp; omega) (Runs.chk (by simp; omega) (Runs.both (Runs.both ?_ Runs.done) (Runs.both (Runs.both ?_ Runs.done) Runs.done)))
    ·exact hK
    ·exact hK
   case h2 =>
    simp +decide only [go_sem]
    refine Runs.split (fun h => ?_) (fun h => ?_)
    ·simp only [decide_eq_true_eq] at h
     rw [decide_eq_false (by omega), Bool.false_and] at hr
     simp +decide only [← hr, go_sem]
     exact Runs.ret_v
    ·simp only [decide_eq_false_iff_not] at h
     rw [decide_eq_true (by omega), Bool.true_and] at hr
     simp +decide (disch := first | omega | (simp only [ll]; omega)) only [if_pos, go_sem]
     refine ih (i + 1) _ (by omega) ⟨by omega, by omega, hr⟩ ?_
     simp [go_sem, ann21, st21]
  ·have hge : L.length ≤ i := by simp at h; omega
   have hz : risesFrom L i = true := by unfold risesFrom; rw [show L.length - i = 0 by omega]; rfl
   rw [hz] at hr
   simp +decide only [dn_intA, go_sem]
   refine Runs.call (allWithin hm L lo hi h3) ?_
   simp +decide only [← hr, go_sem]
   exact Runs.ret_v
end Go.Proofs.W

namespace Go.Proofs.W
open Go Go.AM
set_option maxRecDepth 10000
variable (hm : Tryz.prog.follows .mixedOrders = true)
attribute [local go_sem] exS rowS_plain rowS_dn rowO_dn
def hostsB (q : ByteArray → Bool) (L : List ByteArray) : Bool := L.all q && decide ((L.length : Int) ≤ 6)
def addrB (l : List Int) : Bool := decide ((l.length : Int) = 4) && l.all fun n => inB n 0 255
def risE (S : List Int) : Bool := risesFrom S 1 && S.all fun n => inB n 1 1000
def exB (ca : Bool) (path usage : Int) (ho : List ByteArray) (ne : List (List Int)) (al de : List ByteArray) (pu : List Int) : Bool :=
 inB path (-1) 10 && (ca || decide (path = -1)) && inB usage 0 7 && hostsB patB ho && hostsB hostB al && hostsB hostB de && decide ((ne.length : Int) ≤ 6) && decide ((pu.length : Int) ≤ 6) && ne.all addrB && risE pu
def stepE (S : List Int) (i : Nat) : Bool := inB (S.getD i 0) 1 1000 && (decide (i = 0) || decide (S.getD (i - 1) 0 < S.getD i 0))
def stepsE (S : List Int) (i : Nat) : Bool := (List.range' i (S.length - i)).all (stepE S)
theorem stepsE_succ {S : List Int} {i : Nat} (h : i < S.length) : stepsE S i = (stepE S i && stepsE S (i + 1)) := by
 unfold stepsE
 obtain ⟨k, hk⟩ : ∃ k, S.length - i = k + 1 := ⟨S.length - i - 1, by omega⟩
 rw [hk, List.range'_succ, List.all_cons, show S.length - (i + 1) = k by omega]
theorem stepsE_end {S : List Int} {i : Nat} (h : S.length ≤ i) : stepsE S i = true := by
 unfold stepsE
 rw [show S.length - i = 0 by omega]; rfl
theorem stepsE_eq (S : List Int) : stepsE S 0 = risE S := by
 rw [Bool.eq_iff_iff]
 simp only [stepsE, risE, risesFrom, Bool.and_eq_true, List.all_eq_true, List.mem_range'_1, stepE, Bool.or_eq_true, decide_eq_true_eq]
 constructor
 ·intro h
  refine ⟨fun j hj => ?_, fun n hn => ?_⟩
  ·rcases (h j ⟨by omega, by omega⟩).2 with e | e
   ·omega
   ·exact e
  ·obtain ⟨j, hj, rfl⟩ := List.getElem_of_mem hn
   have := (h j ⟨by omega, by omega⟩).1
   simpa [List.getD, hj] using this
 ·rintro ⟨h1, h2⟩ j ⟨-, hj⟩
  have hj' : j < S.length := by omega
  refine ⟨?_, ?_⟩
  ·have := h2 S[j] (List.getElem_mem hj')
   simpa [List.getD, hj'] using this
  ·rcases Nat.eq_zero_or_pos j with e | e
   ·exact .inl e
   ·exact .inr (h1 j ⟨by omega, by omega⟩)
def lhAnn : Ann := [(0, [0, 1, 5])]
def lhSt (L : List ByteArray) (b : Bool) (i : Nat) : St := ⟨[.sl .sh (L.map strA), .v (.bool b), .any, .any, .any, .v (.int .i64 i), .any, .any, .any, .any, .any, .any, .any, .any, .any, .any, .any, .any, .any, .any, .any, .any, .any, .any, .any, .any, .any, .any, .any, .any, .any, .any, .any, .any, .any, .any], [], []⟩
include hm in
theorem l10Hosts (b : Bool) (L : List ByteArray) (h : L.length ≤ 1048576) (h4 : ∀ s ∈ L, s.size ≤ 1048576) : Holds Tryz.prog 83 [.sl .sh (L.map strA), .v (.bool b)] [] (.v (.bool (hostsB (if b = true then patB else hostB) L))) [] := by
 refine holds_of (ann := lhAnn) tabOk hm Tryz.func83 (by kernel_rfl) rfl ?_
 simp +decide only [Tryz.f83, go_sem]
 have ha : (L.map strA).length = L.length := List.length_map _
 obtain ⟨q, hq⟩ : ∃ q, q = (if b = true then patB else hostB) := ⟨_, rfl⟩
 rw [← hq]
 refine Runs.while (α := Nat) (lhSt L b) (fun i => L.length - i) (fun i => i ≤ L.length ∧ (L.drop i).all q = L.all q) 0 ⟨by omega, by simp⟩ ?_ ?_
 ·simp [go_sem, lhAnn, lhSt]
 ·rintro i ⟨hi, hr⟩ ih
  simp +decide only [lhSt, ha, go_sem]
  refine Runs.split (fun h => ?_) (fun h => ?_)
  ·have hlt : i < L.length := by simpa using h
   have hg : (L.map strA).getD i .any = .v (.string L[i]) := by simp [List.getD, hlt, strA]
   rw [List.drop_eq_getElem_cons hlt, List.all_cons] at hr
   have hs := h4 _ (List.getElem_mem hlt)
   cases b
   ·simp +decide (disch := first | omega | (simp only [ll]; omega)) only [ha, hg, if_pos, go_sem]
    refine Runs.call (sHostOk hm L[i]) ?_
    have e : q L[i] = hostB L[i] := by rw [hq]; rfl
    rw [e] at hr
    cases h2 : hostB L[i]
    ·simp +decide only [go_sem]
     exact Runs.ret_eq (by rw [hostsB, ← hr, h2]; simp)
    ·rw [h2, Bool.true_and] at hr
     simp +decide (disch := first | omega | (simp only [ll]; omega)) only [if_pos, go_sem]
     refine ih (i + 1) _ (by omega) ⟨by omega, hr⟩ ?_
     simp [go_sem, lhAnn, lhSt]
   ·simp +decide (disch := first | omega | (simp only [ll]; omega)) only [ha, hg, if_pos, go_sem]
    refine Runs.call (sPatOk hm L[i] hs) ?_
    have e : q L[i] = patB L[i] := by rw [hq]; rfl
    rw [e] at hr
    cases h2 : patB L[i]
    ·simp +decide only [go_sem]
     exact Runs.ret_eq (by rw [hostsB, ← hr, h2]; simp)
    ·rw [h2, Bool.true_and] at hr
     simp +decide (disch := first | omega | (simp only [ll]; omega)) only [if_pos, go_sem]
     refine ih (i + 1) _ (by omega) ⟨by omega, hr⟩ ?_
     simp [go_sem, lhAnn, lhSt]
  ·have hge : i = L.length := by simp at h; omega
   rw [hge, List.drop_length, List.all_nil] at hr
   simp +decide only [go_sem]
   exact Runs.ret_eq (by rw [hostsB, ← hr, Bool.true_and])
def lfAnn : Ann := [(0, [0, 3])]
def lfSt (L : List Int) (i : Nat) : St := ⟨[.sl .sh (L.map intA), .any, .any, .v (.int .i64 i), .any, .any, .any, .any, .any, .any, .any, .any, .any, .any, .any, .any, .any, .any, .any], [], []⟩
include hm in
theorem l8Four (L : List Int) (h : L.length ≤ 1048576) : Holds Tryz.prog 84 [.sl .sh (L.map intA)] [] (.v (.bool (addrB L))) [] := by
 refine holds_of (ann := lfAnn) tabOk hm Tryz.func84 (by kernel_rfl) rfl ?_
 simp +decide only [Tryz.f84, go_sem]
 have ha : (L.map intA).length = L.length := List.length_map _
 refine Runs.while (α := Nat) (lfSt L) (fun i => L.length - i) (fun i => i ≤ L.length ∧ ((L.drop i).all fun n => inB n 0 255) = L.all fun n => inB n 0 255) 0 ⟨by omega, by simp⟩ ?_ ?_
 ·simp [go_sem, lfAnn, lfSt]
 ·rintro i ⟨hi, hr⟩ ih
  simp +decide only [lfSt, ha, go_sem]
  refine Runs.split (fun h => ?_) (fun h => ?_)
  ·have hlt : i < L.length := by simpa using h
   have hg : (L.map intA).getD i .any = .v (.int .i64 L[i]) := by simp [List.getD, hlt, intA]
   rw [List.drop_eq_getElem_cons hlt, List.all_cons] at hr
   simp +decide (disch := first | omega | (simp only [ll]; omega)) only [ha, hg, if_pos, go_sem]
   refine Runs.call (l1In hm _ 0 255) ?_
   cases h2 : inB L[i] 0 255
   ·simp +decide only [go_sem]
    exact Runs.ret_eq (by rw [addrB, ← hr, h2]; simp)
   ·rw [h2, Bool.true_and] at hr
    simp +decide (disch := first | omega | (simp only [ll]; omega)) only [if_pos, go_sem]
    refine ih (i + 1) _ (by omega) ⟨by omega, hr⟩ ?_
    simp [go_sem, lfAnn, lfSt]
  ·have hge : i = L.length := by simp at h; omega
   rw [hge, List.drop_length, List.all_nil] at hr
   simp +decide only [go_sem]
   exact Runs.ret_eq (by rw [addrB, ← hr, Bool.and_true])
def leeAnn : Ann := [(0, [1, 3]), (2, [1, 4])]
def leeSt (x : A) (i : Nat) : St := ⟨[.any, .ptr [x] 0 0, .any, .v (.int .i64 i), .any, .any, .any, .any, .any, .any, .any, .any, .any, .any, .any, .any, .any, .any, .any, .any, .any, .any, .any, .any, .any, .any, .any, .any, .any, .any, .any, .any, .any, .any, .any, .any, .any, .any, .any, .any, .any, .any, .any, .any, .any, .any, .any, .any, .any, .any, .any, .any, .any, .any, .any, .any, .any, .any, .any, .any, .any, .any, .any, .any, .any, .any, .any, .any, .any, .any, .any, .any, .any, .any, .any, .any, .any, .any, .any, .any, .any, .any, .any, .any, .any, .any, .any, .any, .any, .any, .any, .any, .any, .any, .any, .any, .any, .any, .any, .any, .any], [], []⟩
def leeSt2 (x : A) (i : Nat) : St := ⟨[.any, .ptr [x] 0 0, .any, .any, .v (.int .i64 i), .any, .any, .any, .any, .any, .any, .any, .any, .any, .any, .any, .any, .any, .any, .any, .any, .any, .any, .any, .any, .any, .any, .any, .any, .any, .any, .any, .any, .any, .any, .any, .any, .any, .any, .any, .any, .any, .any, .any, .any, .any, .any, .any, .any, .any, .any, .any, .any, .any, .any, .any, .any, .any, .any, .any, .any, .any, .any, .any, .any, .any, .any, .any, .any, .any, .any, .any, .any, .any, .any, .any, .any, .any, .any, .any, .any, .any, .any, .any, .any, .any, .any, .any, .any, .any, .any, .any, .any, .any, .any, .any, .any, .any, .any, .any, .any], [], []⟩
def leeS : Sched := .take 0 (.take 2 (.ld 1 (.take 3 (.ld 4 (.alt 5 (.take 6 (.take 7 (.take 8 (.take 9 (.take 10 (.take 11 (.take 13 (.take 14 (.take 17 (.take 19 (.ld 12 (.take 15 (.ld 16 (.ld 18 (.take 20 (.ld 21 (.take 22 (.take 23 (.take 24 .fin))))))))))))))))))) .nil)))))
attribute [local go_sem] leeS
set_option maxHeartbeats 4000000 in
include hm in
theorem l10Exts (ca : Bool) (path usage : Int) (ho : List ByteArray) (ne : List (List Int)) (al de : List ByteArray) (pu : List Int) (h : ExFit ho ne al de pu)
  (s1 : ∀ s ∈ ho, s.size ≤ 1048576) (s2 : ∀ s ∈ al, s.size ≤ 1048576) (s3 : ∀ s ∈ de, s.size ≤ 1048576) :
  Holds Tryz.prog 71 [exS ca path usage ho ne al de pu] [] (.v (.bool (exB ca path usage ho ne al de pu))) [] := by
 obtain ⟨f1, f2, f3, f4, f5, f6⟩ := h
 refine holds_ref (ann := leeAnn) tabOk hm (byL [] [1000001]) Tryz.func71 (by kernel_rfl) rfl ?_
 have hN : (ne.map rowS).length = ne.length := List.length_map _
 have hP : (pu.map intA).length = pu.length := List.length_map _
 simp +decide only [Tryz.f71, hN, hP, go_sem]
 refine Runs.call (l1In hm path (-1) 10) ?_
 cases c1 : inB path (-1) 10
 ·simp +decide only [go_sem]
  exact Runs.ret_eq (by simp only [exB, c1, Bool.false_and])
 simp +decide only [go_sem]
 have h1 := l10Hosts hm true ho f1 s1
 have h2 := l10Hosts hm false al f4 s2
 have h3 := l10Hosts hm false de f5 s3
 simp only [if_true, Bool.false_eq_true, if_false] at h1 h2 h3
 cases c2 : (ca || decide (path = -1))
 ·simp only [Bool.or_eq_false_iff] at c2
  obtain ⟨d1, d2⟩ := c2
  subst d1
  simp +decide only [d2, go_sem]
  exact Runs.ret_eq (by simp only [exB, c1, d2, Bool.or_false, Bool.and_false, Bool.false_and])
 cases ca
 ·simp only [Bool.false_or, Bool.true_or] at c2
  simp +decide only [c2, go_sem]
  refine Runs.call (l1In hm usage 0 7) ?_
  cases c3 : inB usage 0 7
  ·simp +decide only [go_sem]
   exact Runs.ret_eq (by simp only [exB, c3, Bool.and_false, Bool.false_and])
  simp +decide only [go_sem]
  refine Runs.call h1 ?_
  cases c4 : hostsB patB ho
  ·simp +decide only [go_sem]
   exact Runs.ret_eq (by simp only [exB, c4, Bool.and_false, Bool.false_and])
  simp +decide only [go_sem]
  refine Runs.call h2 ?_
  cases c5 : hostsB hostB al
  ·simp +decide only [go_sem]
   exact Runs.ret_eq (by simp only [exB, c5, Bool.and_false, Bool.false_and])
  simp +decide only [go_sem]
  refine Runs.call h3 ?_
  cases c6 : hostsB hostB de
  ·simp +decide only [go_sem]
   exact Runs.ret_eq (by simp only [exB, c6, Bool.and_false, Bool.false_and])
  simp +decide only [hN, hP, go_sem]
  refine Runs.split (fun g => ?_) (fun g => ?_)
  ·have c7 : decide ((ne.length : Int) ≤ 6) = false := by simp at g; simp; omega
   simp +decide only [go_sem]
   exact Runs.ret_eq (by simp only [exB, c7, Bool.and_false, Bool.false_and])
  have c7 : decide ((ne.length : Int) ≤ 6) = true := by simp at g; simp; omega
  simp +decide only [hN, hP, go_sem]
  refine Runs.split (fun g => ?_) (fun g => ?_)
  ·have c8 : decide ((pu.length : Int) ≤ 6) = false := by simp at g; simp; omega
   simp +decide only [go_sem]
   exact Runs.ret_eq (by simp only [exB, c8, Bool.and_false, Bool.false_and])
  have c8 : decide ((pu.length : Int) ≤ 6) = true := by simp at g; simp; omega
  simp +decide only [hN, hP, go_sem]
  refine Runs.while (α := Nat) (leeSt (exS false path usage ho ne al de pu)) (fun i => ne.length - i) (fun i => i ≤ ne.length ∧ (ne.drop i).all addrB = ne.all addrB) 0 ⟨by omega, by simp⟩ ?_ ?_
  ·simp [go_sem, leeAnn, leeSt]
  rintro i ⟨hi, hr⟩ ih
  simp +decide only [leeSt, hN, go_sem]
  refine Runs.split (fun h => ?_) (fun h => ?_)
  ·have hlt : i < ne.length := by simpa using h
   have hg : (ne.map rowS).getD i .any = .sl .sh (ne[i].map intA) := by simp [List.getD, hlt, rowS]
   rw [List.drop_eq_getElem_cons hlt, List.all_cons] at hr
   simp +decide (disch := first | omega | (simp only [ll]; omega)) only [hN, hg, if_pos, go_sem]
   refine Runs.call (l8Four hm ne[i] (f3 _ (List.getElem_mem hlt))) ?_
   cases g2 : addrB ne[i]
   ·simp +decide only [go_sem]
    exact Runs.ret_eq (by simp only [exB, ← hr, g2, Bool.and_false, Bool.false_and])
   ·rw [g2, Bool.true_and] at hr
    simp +decide (disch := first | omega | (simp only [ll]; omega)) only [if_pos, go_sem]
    refine ih (i + 1) _ (by omega) ⟨by omega, hr⟩ ?_
    simp [go_sem, leeAnn, leeSt]
  have hge : i = ne.length := by simp at h; omega
  rw [hge, List.drop_length, List.all_nil] at hr
  simp +decide only [go_sem]
  refine Runs.while (α := Nat) (leeSt2 (exS false path usage ho ne al de pu)) (fun i => pu.length - i) (fun i => i ≤ pu.length ∧ stepsE pu i = stepsE pu 0) 0 ⟨by omega, rfl⟩ ?_ ?_
  ·simp [go_sem, leeAnn, leeSt2]
  rintro i ⟨hi1, hr1⟩ ih
  simp +decide only [leeSt2, hP, go_sem]
  refine Runs.split (fun h => ?_) (fun h => ?_)
  ·have hlt : i < pu.length := by simpa using h
   rw [stepsE_succ hlt] at hr1
   have hg : pu.getD i 0 = pu[i] := by simp [List.getD, hlt]
   have hgA : (pu.map intA).getD i .any = .v (.int .i64 pu[i]) := by simp [List.getD, hlt, intA]
   have stop : stepE pu i = false → exB false path usage ho ne al de pu = false := fun e => by
    rw [exB, ← stepsE_eq, ← hr1, e]; simp
   simp +decide only [go_sem]
   cases hb : inB pu[i] 1 1000 with
   | false =>
    refine Runs.draw (st1 := ?s1a) (draws_ref (ann := leeAnn) tabOk (byL [] [1000001]) leeS (by kernel_rfl) ?p1a) ?q1a
    case p1a =>
     intro K r X hK
     simp +decide (maxSteps := 9^7) (disch := first | omega | (simp only [ll]; omega)) only [hP, hgA, if_pos, go_sem]
     refine Runs.call (l1In hm _ 1 _) ?_
     simp +decide (maxSteps := 9^7) (disch := first | omega | (simp only [ll]; omega)) only [hb, if_pos, go_sem]
     exact hK
    case q1a =>
     have e : exB false path usage ho ne al de pu = false := stop (by rw [stepE, hg, hb, Bool.false_and])
     simp +decide (disch := first | omega | (simp only [ll]; omega)) only [if_pos, go_sem]
     exact Runs.ret_eq (by rw [e])
   | true =>
    rcases Nat.eq_zero_or_pos i with h0 | h0
    ·subst h0
     refine Runs.draw (st1 := ?s2a) (draws_ref (ann := leeAnn) tabOk (byL [] [1000001]) leeS (by kernel_rfl) ?p2a) ?q2a
     case p2a =>
      intro K r X hK
      simp +decide (maxSteps := 9^7) (disch := first | omega | (simp only [ll]; omega)) only [hP, hgA, Int.natCast_zero, if_pos, go_sem]
      refine Runs.call (l1In hm _ 1 _) ?_
      have hb0 : inB pu[Int.toNat 0] 1 1000 = true := hb
      simp +decide (maxSteps := 9^7) (disch := first | omega | (simp only [ll]; omega)) only [hb, hb0, Int.natCast_zero, gt_iff_lt, Int.lt_irrefl, if_pos, go_sem]
      exact hK
     case q2a =>
      have e : stepE pu 0 = true := by rw [stepE, hg, hb]; rfl
      rw [e, Bool.true_and] at hr1
      simp +decide (disch := first | omega | (simp only [ll]; omega)) only [if_pos, go_sem]
      refine ih 1 _ (by omega) ⟨by omega, hr1⟩ ?_
      simp [go_sem, leeAnn, leeSt2]
    ·have hd : decide ((i : Int) > 0) = true := by simp; omega
     have ht : ((i : Int) - 1).toNat = i - 1 := by omega
     have hg1 : (pu.map intA).getD (i - 1) .any = .v (.int .i64 (pu.getD (i - 1) 0)) := by simp [List.getD, show i - 1 < pu.length by omega, intA]
     cases h5 : decide (pu.getD (i - 1) 0 ≥ pu[i])
     ·refine Runs.draw (st1 := ?s3a) (draws_ref (ann := leeAnn) tabOk (byL [] [1000001]) leeS (by kernel_rfl) ?p3a) ?q3a
      case p3a =>
       intro K r X hK
       simp +decide (maxSteps := 9^7) (disch := first | omega | (simp only [ll]; omega)) only [hP, hgA, hd, ht, hg1, if_pos, go_sem]
       refine Runs.call (l1In hm _ 1 _) ?_
       simp +decide (maxSteps := 9^7) (disch := first | omega | (simp only [ll]; omega)) only [hP, hb, hd, ht, hg1, hgA, h5, if_pos, go_sem]
       exact hK
      case q3a =>
       have e : stepE pu i = true := by rw [stepE, hg, hb]; simp at h5; simp; right; exact h5
       rw [e, Bool.true_and] at hr1
       simp +decide (disch := first | omega | (simp only [ll]; omega)) only [if_pos, go_sem]
       refine ih (i + 1) _ (by omega) ⟨by omega, hr1⟩ ?_
       simp [go_sem, leeAnn, leeSt2]
     ·refine Runs.draw (st1 := ?s4a) (draws_ref (ann := leeAnn) tabOk (byL [] [1000001]) leeS (by kernel_rfl) ?p4a) ?q4a
      case p4a =>
       intro K r X hK
       simp +decide (maxSteps := 9^7) (disch := first | omega | (simp only [ll]; omega)) only [hP, hgA, hd, ht, hg1, if_pos, go_sem]
       refine Runs.call (l1In hm _ 1 _) ?_
       simp +decide (maxSteps := 9^7) (disch := first | omega | (simp only [ll]; omega)) only [hP, hb, hd, ht, hg1, hgA, h5, if_pos, go_sem]
       exact hK
      case q4a =>
       have e : exB false path usage ho ne al de pu = false := stop (by rw [stepE, hg, hb]; simp at h5; simp; omega)
       simp +decide (disch := first | omega | (simp only [ll]; omega)) only [if_pos, go_sem]
       exact Runs.ret_eq (by rw [e])
  have hge : i = pu.length := by simp at h; omega
  rw [hge, stepsE_end (Nat.le_refl _)] at hr1
  simp +decide only [go_sem]
  exact Runs.ret_eq (by simp only [exB, c1, c2, c3, c4, c5, c6, c7, c8, ← hr, ← stepsE_eq, ← hr1, Bool.true_and, Bool.and_true, Bool.true_or, Bool.false_or])
 ·simp only [Bool.false_or, Bool.true_or] at c2
  simp +decide only [c2, go_sem]
  refine Runs.call (l1In hm usage 0 7) ?_
  cases c3 : inB usage 0 7
  ·simp +decide only [go_sem]
   exact Runs.ret_eq (by simp only [exB, c3, Bool.and_false, Bool.false_and])
  simp +decide only [go_sem]
  refine Runs.call h1 ?_
  cases c4 : hostsB patB ho
  ·simp +decide only [go_sem]
   exact Runs.ret_eq (by simp only [exB, c4, Bool.and_false, Bool.false_and])
  simp +decide only [go_sem]
  refine Runs.call h2 ?_
  cases c5 : hostsB hostB al
  ·simp +decide only [go_sem]
   exact Runs.ret_eq (by simp only [exB, c5, Bool.and_false, Bool.false_and])
  simp +decide only [go_sem]
  refine Runs.call h3 ?_
  cases c6 : hostsB hostB de
  ·simp +decide only [go_sem]
   exact Runs.ret_eq (by simp only [exB, c6, Bool.and_false, Bool.false_and])
  simp +decide only [hN, hP, go_sem]
  refine Runs.split (fun g => ?_) (fun g => ?_)
  ·have c7 : decide ((ne.length : Int) ≤ 6) = false := by simp at g; simp; omega
   simp +decide only [go_sem]
   exact Runs.ret_eq (by simp only [exB, c7, Bool.and_false, Bool.false_and])
  have c7 : decide ((ne.length : Int) ≤ 6) = true := by simp at g; simp; omega
  simp +decide only [hN, hP, go_sem]
  refine Runs.split (fun g => ?_) (fun g => ?_)
  ·have c8 : decide ((pu.length : Int) ≤ 6) = false := by simp at g; simp; omega
   simp +decide only [go_sem]
   exact Runs.ret_eq (by simp only [exB, c8, Bool.and_false, Bool.false_and])
  have c8 : decide ((pu.length : Int) ≤ 6) = true := by simp at g; simp; omega
  simp +decide only [hN, hP, go_sem]
  refine Runs.while (α := Nat) (leeSt (exS true path usage ho ne al de pu)) (fun i => ne.length - i) (fun i => i ≤ ne.length ∧ (ne.drop i).all addrB = ne.all addrB) 0 ⟨by omega, by simp⟩ ?_ ?_
  ·simp [go_sem, leeAnn, leeSt]
  rintro i ⟨hi, hr⟩ ih
  simp +decide only [leeSt, hN, go_sem]
  refine Runs.split (fun h => ?_) (fun h => ?_)
  ·have hlt : i < ne.length := by simpa using h
   have hg : (ne.map rowS).getD i .any = .sl .sh (ne[i].map intA) := by simp [List.getD, hlt, rowS]
   rw [List.drop_eq_getElem_cons hlt, List.all_cons] at hr
   simp +decide (disch := first | omega | (simp only [ll]; omega)) only [hN, hg, if_pos, go_sem]
   refine Runs.call (l8Four hm ne[i] (f3 _ (List.getElem_mem hlt))) ?_
   cases g2 : addrB ne[i]
   ·simp +decide only [go_sem]
    exact Runs.ret_eq (by simp only [exB, ← hr, g2, Bool.and_false, Bool.false_and])
   ·rw [g2, Bool.true_and] at hr
    simp +decide (disch := first | omega | (simp only [ll]; omega)) only [if_pos, go_sem]
    refine ih (i + 1) _ (by omega) ⟨by omega, hr⟩ ?_
    simp [go_sem, leeAnn, leeSt]
  have hge : i = ne.length := by simp at h; omega
  rw [hge, List.drop_length, List.all_nil] at hr
  simp +decide only [go_sem]
  refine Runs.while (α := Nat) (leeSt2 (exS true path usage ho ne al de pu)) (fun i => pu.length - i) (fun i => i ≤ pu.length ∧ stepsE pu i = stepsE pu 0) 0 ⟨by omega, rfl⟩ ?_ ?_
  ·simp [go_sem, leeAnn, leeSt2]
  rintro i ⟨hi1, hr1⟩ ih
  simp +decide only [leeSt2, hP, go_sem]
  refine Runs.split (fun h => ?_) (fun h => ?_)
  ·have hlt : i < pu.length := by simpa using h
   rw [stepsE_succ hlt] at hr1
   have hg : pu.getD i 0 = pu[i] := by simp [List.getD, hlt]
   have hgA : (pu.map intA).getD i .any = .v (.int .i64 pu[i]) := by simp [List.getD, hlt, intA]
   have stop : stepE pu i = false → exB true path usage ho ne al de pu = false := fun e => by
    rw [exB, ← stepsE_eq, ← hr1, e]; simp
   simp +decide only [go_sem]
   cases hb : inB pu[i] 1 1000 with
   | false =>
    refine Runs.draw (st1 := ?s1b) (draws_ref (ann := leeAnn) tabOk (byL [] [1000001]) leeS (by kernel_rfl) ?p1b) ?q1b
    case p1b =>
     intro K r X hK
     simp +decide (maxSteps := 9^7) (disch := first | omega | (simp only [ll]; omega)) only [hP, hgA, if_pos, go_sem]
     refine Runs.call (l1In hm _ 1 _) ?_
     simp +decide (maxSteps := 9^7) (disch := first | omega | (simp only [ll]; omega)) only [hb, if_pos, go_sem]
     exact hK
    case q1b =>
     have e : exB true path usage ho ne al de pu = false := stop (by rw [stepE, hg, hb, Bool.false_and])
     simp +decide (disch := first | omega | (simp only [ll]; omega)) only [if_pos, go_sem]
     exact Runs.ret_eq (by rw [e])
   | true =>
    rcases Nat.eq_zero_or_pos i with h0 | h0
    ·subst h0
     refine Runs.draw (st1 := ?s2b) (draws_ref (ann := leeAnn) tabOk (byL [] [1000001]) leeS (by kernel_rfl) ?p2b) ?q2b
     case p2b =>
      intro K r X hK
      simp +decide (maxSteps := 9^7) (disch := first | omega | (simp only [ll]; omega)) only [hP, hgA, Int.natCast_zero, if_pos, go_sem]
      refine Runs.call (l1In hm _ 1 _) ?_
      have hb0 : inB pu[Int.toNat 0] 1 1000 = true := hb
      simp +decide (maxSteps := 9^7) (disch := first | omega | (simp only [ll]; omega)) only [hb, hb0, Int.natCast_zero, gt_iff_lt, Int.lt_irrefl, if_pos, go_sem]
      exact hK
     case q2b =>
      have e : stepE pu 0 = true := by rw [stepE, hg, hb]; rfl
      rw [e, Bool.true_and] at hr1
      simp +decide (disch := first | omega | (simp only [ll]; omega)) only [if_pos, go_sem]
      refine ih 1 _ (by omega) ⟨by omega, hr1⟩ ?_
      simp [go_sem, leeAnn, leeSt2]
    ·have hd : decide ((i : Int) > 0) = true := by simp; omega
     have ht : ((i : Int) - 1).toNat = i - 1 := by omega
     have hg1 : (pu.map intA).getD (i - 1) .any = .v (.int .i64 (pu.getD (i - 1) 0)) := by simp [List.getD, show i - 1 < pu.length by omega, intA]
     cases h5 : decide (pu.getD (i - 1) 0 ≥ pu[i])
     ·refine Runs.draw (st1 := ?s3b) (draws_ref (ann := leeAnn) tabOk (byL [] [1000001]) leeS (by kernel_rfl) ?p3b) ?q3b
      case p3b =>
       intro K r X hK
       simp +decide (maxSteps := 9^7) (disch := first | omega | (simp only [ll]; omega)) only [hP, hgA, hd, ht, hg1, if_pos, go_sem]
       refine Runs.call (l1In hm _ 1 _) ?_
       simp +decide (maxSteps := 9^7) (disch := first | omega | (simp only [ll]; omega)) only [hP, hb, hd, ht, hg1, hgA, h5, if_pos, go_sem]
       exact hK
      case q3b =>
       have e : stepE pu i = true := by rw [stepE, hg, hb]; simp at h5; simp; right; exact h5
       rw [e, Bool.true_and] at hr1
       simp +decide (disch := first | omega | (simp only [ll]; omega)) only [if_pos, go_sem]
       refine ih (i + 1) _ (by omega) ⟨by omega, hr1⟩ ?_
       simp [go_sem, leeAnn, leeSt2]
     ·refine Runs.draw (st1 := ?s4b) (draws_ref (ann := leeAnn) tabOk (byL [] [1000001]) leeS (by kernel_rfl) ?p4b) ?q4b
      case p4b =>
       intro K r X hK
       simp +decide (maxSteps := 9^7) (disch := first | omega | (simp only [ll]; omega)) only [hP, hgA, hd, ht, hg1, if_pos, go_sem]
       refine Runs.call (l1In hm _ 1 _) ?_
       simp +decide (maxSteps := 9^7) (disch := first | omega | (simp only [ll]; omega)) only [hP, hb, hd, ht, hg1, hgA, h5, if_pos, go_sem]
       exact hK
      case q4b =>
       have e : exB true path usage ho ne al de pu = false := stop (by rw [stepE, hg, hb]; simp at h5; simp; omega)
       simp +decide (disch := first | omega | (simp only [ll]; omega)) only [if_pos, go_sem]
       exact Runs.ret_eq (by rw [e])
  have hge : i = pu.length := by simp at h; omega
  rw [hge, stepsE_end (Nat.le_refl _)] at hr1
  simp +decide only [go_sem]
  exact Runs.ret_eq (by simp only [exB, c1, c2, c3, c4, c5, c6, c7, c8, ← hr, ← stepsE_eq, ← hr1, Bool.true_and, Bool.and_true, Bool.true_or, Bool.false_or])
end Go.Proofs.W

namespace Go.Proofs.W
open Go Go.AM
set_option maxRecDepth 10000
variable (hm : Tryz.prog.follows .mixedOrders = true)
attribute [local go_sem] exS rowS_plain rowS_dn rowO_dn
def iexAnn : Ann := [(0, [0, 1, 7, 8])]
def iexSt (f : A) (L : List (List Int)) (i : Nat) : St := ⟨[.sl .sh (L.map rowS), f, .any, .any, .any, .any, .any, .v (.int .i64 L.length), .v (.int .i64 i), .any, .any, .any, .any, .any, .any, .any, .any, .any, .any], [], []⟩
include hm in
theorem indexFuncI (g : Nat) (L : List (List Int)) (q : List Int → Bool) (h : L.length ≤ 1048576) (hq : ∀ s ∈ L, Holds Tryz.prog g [.sl .sh (s.map intA)] [] (.v (.bool (q s))) []) :
  ∃ n : Int, decide (n ≥ 0) = L.any q ∧ Holds Tryz.prog 128 [.sl .sh (L.map rowS), .v (.func (.func g) #[] #[])] [] (.v (.int .i64 n)) [] := by
 refine ⟨if L.any q = true then (L.findIdx q : Int) else -1, by cases h : L.any q <;> simp, ?_⟩
 refine holds_of (ann := iexAnn) tabOk hm Tryz.func128 (by kernel_rfl) rfl ?_
 simp +decide only [Tryz.f128, go_sem]
 have ha : (L.map rowS).length = L.length := List.length_map _
 refine Runs.while (α := Nat) (iexSt (.v (.func (.func g) #[] #[])) L) (fun i => L.length - i) (fun i => i ≤ L.length ∧ ∀ j (hj : j < L.length), j < i → q L[j] = false) 0 ⟨by omega, fun _ _ h => absurd h (by omega)⟩ ?_ ?_
 ·simp [go_sem, iexAnn, iexSt]
 ·rintro i ⟨hi, hn⟩ ih
  simp +decide only [iexSt, ha, go_sem]
  refine Runs.split (fun h => ?_) (fun h => ?_)
  ·have hlt : i < L.length := by simpa using h
   have hg : (L.map rowS).getD i .any = .sl .sh (L[i].map intA) := by simp [List.getD, hlt, rowS]
   simp +decide (disch := first | omega | (simp only [ll]; omega)) only [ha, hg, if_pos, go_sem]
   refine Runs.call (hq L[i] (List.getElem_mem hlt)) ?_
   cases h2 : q L[i]
   ·simp +decide (disch := first | omega | (simp only [ll]; omega)) only [if_pos, go_sem]
    refine ih (i + 1) _ (by omega) ⟨by omega, fun j hj hji => ?_⟩ ?_
    ·rcases Nat.lt_or_ge j i with h3 | h3
     ·exact hn j hj h3
     ·have : j = i := by omega
      subst this; exact h2
    ·simp [go_sem, iexAnn, iexSt]
   ·simp +decide (disch := first | omega | (simp only [ll]; omega)) only [if_pos, go_sem]
    have e1 : L.any q = true := List.any_eq_true.mpr ⟨L[i], List.getElem_mem hlt, h2⟩
    have e2 : L.findIdx q = i := (List.findIdx_eq hlt).mpr ⟨h2, fun j hj => hn j (by omega) hj⟩
    exact Runs.ret_eq (by rw [e1, e2]; rfl)
  ·have hge : i = L.length := by simp at h; omega
   have e1 : L.any q = false := by
    rw [List.any_eq_false]
    intro x hx
    obtain ⟨j, hj, rfl⟩ := List.getElem_of_mem hx
    rw [hn j hj (by omega)]; simp
   simp +decide only [go_sem]
   exact Runs.ret_eq (by rw [e1]; rfl)
include hm in
theorem contFuncI (g : Nat) (L : List (List Int)) (q : List Int → Bool) (h : L.length ≤ 1048576) (hq : ∀ s ∈ L, Holds Tryz.prog g [.sl .sh (s.map intA)] [] (.v (.bool (q s))) []) :
  Holds Tryz.prog 101 [.sl .sh (L.map rowS), .v (.func (.func g) #[] #[])] [] (.v (.bool (L.any q))) [] := by
 refine holds_of (ann := []) tabOk hm Tryz.func101 (by kernel_rfl) rfl ?_
 simp +decide only [Tryz.f101, go_sem]
 obtain ⟨n, hn, hc⟩ := indexFuncI hm g L q h hq
 refine Runs.call hc ?_
 simp +decide only [hn, go_sem]
 exact Runs.ret_v
theorem any_not_all {α : Type} (L : List α) (q : α → Bool) : (L.any fun s => !q s) = !L.all q := by
 induction L with
 | nil => rfl
 | cons a l ih => rw [List.any_cons, List.all_cons, ih, Bool.not_and]
include hm in
theorem isAddress (L : List Int) (h : L.length ≤ 1048576) : Holds Tryz.prog 103 [.sl .sh (L.map intA)] [] (.v (.bool (addrB L))) [] := by
 refine holds_of (ann := []) tabOk hm Tryz.func103 (by kernel_rfl) rfl ?_
 have ha : (L.map intA).length = L.length := List.length_map _
 simp +decide only [Tryz.f103, ha, go_sem]
 cases h2 : decide ((L.length : Int) = 4)
 ·simp +decide only [go_sem]
  exact Runs.ret_eq (by rw [addrB, h2, Bool.false_and])
 ·simp +decide only [go_sem]
  refine Runs.call (allWithin hm L 0 255 (by omega)) ?_
  simp +decide only [go_sem]
  exact Runs.ret_eq (by rw [addrB, h2, Bool.true_and])
include hm in
theorem notAddress (L : List Int) (h : L.length ≤ 1048576) : Holds Tryz.prog 102 [.sl .sh (L.map intA)] [] (.v (.bool (!addrB L))) [] := by
 refine holds_of (ann := []) tabOk hm Tryz.func102 (by kernel_rfl) rfl ?_
 simp +decide only [Tryz.f102, go_sem]
 refine Runs.call (isAddress hm L h) ?_
 simp +decide only [go_sem]
 exact Runs.ret_v
include hm in
theorem areAll1 (g : Nat) (q : ByteArray → Bool) (s : ByteArray) (hq : Holds Tryz.prog g [.v (.string s)] [] (.v (.bool (q s))) []) :
  Holds Tryz.prog 121 [.v (.string s), .ptr [.v (.func (.func g) #[] #[])] 0 0] [] (.v (.bool (!q s))) [] := by
 refine holds_of (ann := []) tabOk hm Tryz.func121 (by kernel_rfl) rfl ?_
 simp +decide only [Tryz.f121, go_sem]
 refine Runs.call hq ?_
 simp +decide only [go_sem]
 exact Runs.ret_v
include hm in
theorem areAll (g : Nat) (q : ByteArray → Bool) (L : List ByteArray) (h : L.length ≤ 1048576) (hq : ∀ s ∈ L, Holds Tryz.prog g [.v (.string s)] [] (.v (.bool (q s))) []) :
  Holds Tryz.prog 98 [.sl .sh (L.map strA), .v (.func (.func g) #[] #[])] [] (.v (.bool (hostsB q L))) [] := by
 refine holds_ref (ann := []) tabOk hm (byL [] [1000003]) Tryz.func98 (by kernel_rfl) rfl ?_
 have ha : (L.map strA).length = L.length := List.length_map _
 simp +decide only [Tryz.f98, ha, go_sem]
 cases h2 : decide ((L.length : Int) ≤ 6)
 ·simp +decide only [go_sem]
  exact Runs.ret_eq (by rw [hostsB, h2, Bool.and_false])
 ·simp +decide only [go_sem]
  have c := contFunc2 hm 121 g L (fun s => !q s) h (fun s hs => areAll1 hm g q s (hq s hs))
  rw [any_not_all] at c
  refine Runs.call c ?_
  simp +decide only [go_sem]
  exact Runs.ret_eq (by rw [hostsB, h2, Bool.and_true, Bool.not_not])
set_option maxHeartbeats 4000000 in
include hm in
theorem extsOk (ca : Bool) (path usage : Int) (ho : List ByteArray) (ne : List (List Int)) (al de : List ByteArray) (pu : List Int) (h : ExFit ho ne al de pu)
  (s1 : ∀ s ∈ ho, s.size ≤ 1048576) (s2 : ∀ s ∈ al, s.size ≤ 1048576) (s3 : ∀ s ∈ de, s.size ≤ 1048576) :
  Holds Tryz.prog 88 [exS ca path usage ho ne al de pu] [] (.v (.bool (exB ca path usage ho ne al de pu))) [] := by
 obtain ⟨f1, f2, f3, f4, f5, f6⟩ := h
 refine holds_ref (ann := []) tabOk hm (byL [] [1000001]) Tryz.func88 (by kernel_rfl) rfl ?_
 have hN : (ne.map rowS).length = ne.length := List.length_map _
 have hP : (pu.map intA).length = pu.length := List.length_map _
 have h1 := areAll hm 99 patB ho f1 fun s hs => iPatOk hm s (s1 s hs)
 have h2 := areAll hm 100 hostB al f4 fun s hs => iHostOk hm s
 have h3 := areAll hm 100 hostB de f5 fun s hs => iHostOk hm s
 have h4 := contFuncI hm 102 ne (fun l => !addrB l) f2 fun l hl => notAddress hm l (f3 l hl)
 rw [any_not_all] at h4
 have h5 := isRising hm pu 1 1000 (by omega)
 simp +decide only [Tryz.f88, hN, hP, go_sem]
 refine Runs.call (within hm path (-1) 10) ?_
 cases c1 : inB path (-1) 10
 ·simp +decide only [go_sem]
  exact Runs.ret_eq (by simp only [exB, c1, Bool.false_and])
 simp +decide only [go_sem]
 cases c2 : (ca || decide (path = -1))
 ·simp only [Bool.or_eq_false_iff] at c2
  obtain ⟨d1, d2⟩ := c2
  subst d1
  simp +decide only [d2, go_sem]
  exact Runs.ret_eq (by simp only [exB, c1, d2, Bool.or_false, Bool.and_false, Bool.false_and])
 cases ca
 all_goals
  simp only [Bool.false_or, Bool.true_or] at c2
  simp +decide only [c2, go_sem]
  refine Runs.call (within hm usage 0 7) ?_
  cases c3 : inB usage 0 7
  ·simp +decide only [go_sem]
   exact Runs.ret_eq (by simp only [exB, c3, Bool.and_false, Bool.false_and])
  simp +decide only [go_sem]
  refine Runs.call h1 ?_
  cases c4 : hostsB patB ho
  ·simp +decide only [go_sem]
   exact Runs.ret_eq (by simp only [exB, c4, Bool.and_false, Bool.false_and])
  simp +decide only [go_sem]
  refine Runs.call h2 ?_
  cases c5 : hostsB hostB al
  ·simp +decide only [go_sem]
   exact Runs.ret_eq (by simp only [exB, c5, Bool.and_false, Bool.false_and])
  simp +decide only [go_sem]
  refine Runs.call h3 ?_
  cases c6 : hostsB hostB de
  ·simp +decide only [go_sem]
   exact Runs.ret_eq (by simp only [exB, c6, Bool.and_false, Bool.false_and])
  simp +decide only [hN, hP, go_sem]
  refine Runs.split (fun g => ?_) (fun g => ?_)
  ·have c7 : decide ((ne.length : Int) ≤ 6) = false := by simp at g; simp; omega
   simp +decide only [go_sem]
   exact Runs.ret_eq (by simp only [exB, c7, Bool.and_false, Bool.false_and])
  have c7 : decide ((ne.length : Int) ≤ 6) = true := by simp at g; simp; omega
  simp +decide only [hN, hP, go_sem]
  refine Runs.call h4 ?_
  cases c8 : ne.all addrB
  ·simp +decide only [go_sem]
   exact Runs.ret_eq (by simp only [exB, c8, Bool.and_false, Bool.false_and])
  simp +decide only [hN, hP, go_sem]
  cases c9 : decide ((pu.length : Int) ≤ 6)
  ·simp +decide only [go_sem]
   exact Runs.ret_eq (by simp only [exB, c9, Bool.and_false, Bool.false_and])
  simp +decide only [go_sem]
  refine Runs.call h5 ?_
  simp +decide only [go_sem]
  exact Runs.ret_eq (by simp only [exB, risE, c1, c2, c3, c4, c5, c6, c7, c8, c9, Bool.true_and, Bool.and_true, Bool.true_or, Bool.false_or])
end Go.Proofs.W

namespace Go.Proofs.W
open Go Go.AM Go.Proofs.G
set_option maxRecDepth 10000
variable (hm : Tryz.prog.follows .mixedOrders = true)
attribute [local go_sem] keyA keyO exS exO rowS_plain rowS_dn rowO_dn
structure GCert where
 serial : Int
 issuer : List ByteArray
 subject : List ByteArray
 from' : Int
 tu : Int
 key : GKey
 alg : Int
 ca : Bool
 path : Int
 usage : Int
 ho : List ByteArray
 ne : List (List Int)
 al : List ByteArray
 de : List ByteArray
 pu : List Int
 sig : List Int
def certA (c : GCert) : A := .agg [.v (.int .i64 c.serial), .sl .sh (c.issuer.map strA), .sl .sh (c.subject.map strA), .v (.int .i64 c.from'), .v (.int .i64 c.tu), .v (.int .i64 c.key.kind), .sl .sh (c.key.N.map intA), .v (.int .i64 c.key.e), .v (.int .i64 c.key.cv.p), .v (.int .i64 c.key.cv.a), .v (.int .i64 c.key.cv.b), .v (.int .i64 c.key.cv.n), .v (.int .i64 c.key.cv.gx), .v (.int .i64 c.key.cv.gy), .v (.int .i64 c.key.q.x), .v (.int .i64 c.key.q.y), .v (.bool c.key.q.far), .v (.int .i64 c.key.ed.p), .v (.int .i64 c.key.ed.d), .v (.int .i64 c.key.ed.l), .v (.int .i64 c.key.ed.bx), .v (.int .i64 c.key.ed.by'), .v (.int .i64 c.key.a.1), .v (.int .i64 c.key.a.2), .v (.int .i64 c.alg), .v (.bool c.ca), .v (.int .i64 c.path), .v (.int .i64 c.usage), .sl .sh (c.ho.map strA), .sl .sh (c.ne.map rowS), .sl .sh (c.al.map strA), .sl .sh (c.de.map strA), .sl .sh (c.pu.map intA), .sl .sh (c.sig.map u8A)]
def certO (c : GCert) : A := .agg [.v (.int .i64 c.serial), .sl (.ow 1) (c.issuer.map strA), .sl (.ow 1) (c.subject.map strA), .v (.int .i64 c.from'), .v (.int .i64 c.tu), .v (.int .i64 c.key.kind), .sl (.ow 1) (c.key.N.map intA), .v (.int .i64 c.key.e), .v (.int .i64 c.key.cv.p), .v (.int .i64 c.key.cv.a), .v (.int .i64 c.key.cv.b), .v (.int .i64 c.key.cv.n), .v (.int .i64 c.key.cv.gx), .v (.int .i64 c.key.cv.gy), .v (.int .i64 c.key.q.x), .v (.int .i64 c.key.q.y), .v (.bool c.key.q.far), .v (.int .i64 c.key.ed.p), .v (.int .i64 c.key.ed.d), .v (.int .i64 c.key.ed.l), .v (.int .i64 c.key.ed.bx), .v (.int .i64 c.key.ed.by'), .v (.int .i64 c.key.a.1), .v (.int .i64 c.key.a.2), .v (.int .i64 c.alg), .v (.bool c.ca), .v (.int .i64 c.path), .v (.int .i64 c.usage), .sl (.ow 1) (c.ho.map strA), .sl (.ow 1) (c.ne.map rowO), .sl (.ow 1) (c.al.map strA), .sl (.ow 1) (c.de.map strA), .sl (.ow 1) (c.pu.map intA), .sl (.ow 1) (c.sig.map u8A)]
attribute [local go_sem] certA certO
noncomputable def certB (c : GCert) : Bool := inB c.serial 1 1000000000000000 && nameOk c.issuer && nameOk c.subject && inB c.from' (-631152000) 4102444799 && inB c.tu (-631152000) 4102444799 && decide (c.from' ≤ c.tu) && keyB c.key && inB c.alg 1 4 && exB c.ca c.path c.usage c.ho c.ne c.al c.de c.pu && inB c.sig.length 1 64
def CertIn (c : GCert) : Prop :=
 (c.issuer.length ≤ 9223372036854775807 ∧ ∀ s ∈ c.issuer, s.size ≤ 9223372036854775807) ∧ (c.subject.length ≤ 9223372036854775807 ∧ ∀ s ∈ c.subject, s.size ≤ 9223372036854775807) ∧ c.key.N.length ≤ 9223372036854775807 ∧
 (c.ho.length ≤ 9223372036854775807 ∧ ∀ s ∈ c.ho, s.size ≤ 9223372036854775807) ∧ (c.ne.length ≤ 9223372036854775807 ∧ ∀ s ∈ c.ne, s.length ≤ 9223372036854775807) ∧ (c.al.length ≤ 9223372036854775807 ∧ ∀ s ∈ c.al, s.size ≤ 9223372036854775807) ∧
 (c.de.length ≤ 9223372036854775807 ∧ ∀ s ∈ c.de, s.size ≤ 9223372036854775807) ∧ c.pu.length ≤ 9223372036854775807 ∧ c.sig.length ≤ 9223372036854775807
def CertFit (c : GCert) : Prop :=
 (c.issuer.length ≤ 1048576 ∧ ∀ s ∈ c.issuer, s.size ≤ 1048576) ∧ (c.subject.length ≤ 1048576 ∧ ∀ s ∈ c.subject, s.size ≤ 1048576) ∧ c.key.N.length ≤ 1048576 ∧ ExFit c.ho c.ne c.al c.de c.pu ∧
 (∀ s ∈ c.ho, s.size ≤ 1048576) ∧ (∀ s ∈ c.al, s.size ≤ 1048576) ∧ (∀ s ∈ c.de, s.size ≤ 1048576) ∧ c.sig.length ≤ 1048576
theorem szGo_sz (L : List ByteArray) (l : Int) (h : 0 ≤ l) (h2 : 0 ≤ szGo L l) : ∀ s ∈ L, (s.size : Int) ≤ l := by
 induction L generalizing l with
 | nil => simp
 | cons a r ih =>
  simp only [szGo] at h2
  split at h2
  ·omega
  ·intro s hs
   rcases List.mem_cons.mp hs with e | e
   ·subst e; omega
   ·have := ih (l - a.size) (by omega) h2 s e; omega
theorem szS_sz (L : List ByteArray) (l : Int) (h : 0 ≤ l) (hl : l ≤ 1048576) (h2 : ¬ szS L l < 0) : ∀ s ∈ L, s.size ≤ 1048576 := by
 unfold szS at h2
 split at h2
 ·exact absurd (by omega) h2
 ·intro s hs
  have := szGo_sz L (l - L.length) (by omega) (by omega) s hs
  omega
theorem szExV_sz (ho : List ByteArray) (ne : List (List Int)) (al de : List ByteArray) (pu : List Int) (left : Int) (h : 0 ≤ left) (h2 : left ≤ 1048576) (h3 : ¬ szExV ho ne al de pu left < 0) :
  (∀ s ∈ ho, s.size ≤ 1048576) ∧ (∀ s ∈ al, s.size ≤ 1048576) ∧ (∀ s ∈ de, s.size ≤ 1048576) := by
 have b1 := szS_le ho left h
 unfold szExV at h3
 split at h3
 ·omega
 rename_i e1
 have b2 := szSS_le ne (szS ho left) (by omega)
 split at h3
 ·omega
 rename_i e2
 have b3 := szS_le al (szSS ne (szS ho left)) (by omega)
 split at h3
 ·omega
 rename_i e3
 split at h3
 ·omega
 rename_i e4
 exact ⟨szS_sz ho left h h2 e1, szS_sz al _ (by omega) (by omega) e3, szS_sz de _ (by omega) (by omega) e4⟩
def szCertV (c : GCert) (left : Int) : Int :=
 if szS c.issuer left < 0 then -1 else if szS c.subject (szS c.issuer left) < 0 then -1 else if szI c.key.N.length (szS c.subject (szS c.issuer left)) < 0 then -1 else
 if szExV c.ho c.ne c.al c.de c.pu (szI c.key.N.length (szS c.subject (szS c.issuer left))) < 0 then -1 else szI c.sig.length (szExV c.ho c.ne c.al c.de c.pu (szI c.key.N.length (szS c.subject (szS c.issuer left))))
theorem szCertV_fit (c : GCert) (left : Int) (h : 0 ≤ left) (h2 : left ≤ 1048576) (h3 : ¬ szCertV c left < 0) : CertFit c := by
 have b1 := szS_le c.issuer left h
 unfold szCertV at h3
 split at h3
 ·omega
 rename_i e1
 have b2 := szS_le c.subject (szS c.issuer left) (by omega)
 split at h3
 ·omega
 rename_i e2
 have b3 := szI_le c.key.N.length (szS c.subject (szS c.issuer left)) (by omega)
 split at h3
 ·omega
 rename_i e3
 have b4 := szExV_le c.ho c.ne c.al c.de c.pu (szI c.key.N.length (szS c.subject (szS c.issuer left))) (by omega) (by omega)
 split at h3
 ·omega
 rename_i e4
 have k4 := szExV_sz c.ho c.ne c.al c.de c.pu _ (by omega) (by omega) e4
 exact ⟨⟨szS_len _ _ e1 (by omega), szS_sz _ _ (by omega) (by omega) e1⟩, ⟨szS_len _ _ e2 (by omega), szS_sz _ _ (by omega) (by omega) e2⟩, szI_len _ _ e3 (by omega), b4.2.2 e4, k4.1, k4.2.1, k4.2.2, szI_len _ _ h3 (by omega)⟩
set_option maxHeartbeats 4000000 in
include hm in
theorem szCert (c : GCert) (left : Int) (l1 : 0 ≤ left) (l2 : left ≤ 1048576) (h : CertIn c) : Holds Tryz.prog 4 [certA c, .v (.int .i64 left)] [] (.v (.int .i64 (szCertV c left))) [] := by
 obtain ⟨⟨i1, i2⟩, ⟨j1, j2⟩, kn, ⟨o1, o2⟩, ⟨n1, n2⟩, ⟨a1, a2⟩, ⟨d1, d2⟩, p1, g1⟩ := h
 have b1 := szS_le c.issuer left l1
 refine holds_ref (ann := []) tabOk hm (byL [] [1000002]) Tryz.func4 (by kernel_rfl) rfl ?_
 simp +decide only [Tryz.f4, go_sem]
 refine Runs.call (szStringS hm c.issuer left l1 l2 i1 i2) ?_
 simp +decide only [go_sem]
 refine Runs.split (fun e => ?_) (fun e => ?_)
 ·simp only [decide_eq_true_eq] at e
  simp +decide only [szCertV, if_pos e, go_sem]
  exact Runs.ret_v
 simp only [decide_eq_false_iff_not] at e
 have b2 := szS_le c.subject (szS c.issuer left) (by omega)
 simp +decide only [go_sem]
 refine Runs.call (szStringS hm c.subject _ (by omega) (by omega) j1 j2) ?_
 simp +decide only [go_sem]
 refine Runs.split (fun e2 => ?_) (fun e2 => ?_)
 ·simp only [decide_eq_true_eq] at e2
  simp +decide only [szCertV, if_neg e, if_pos e2, go_sem]
  exact Runs.ret_v
 simp only [decide_eq_false_iff_not] at e2
 have b3 := szI_le c.key.N.length (szS c.subject (szS c.issuer left)) (by omega)
 have ck := szKey hm c.key (szS c.subject (szS c.issuer left)) (by omega) (by omega) kn
 rw [keyA] at ck
 simp +decide only [go_sem]
 refine Runs.call ck ?_
 simp +decide only [go_sem]
 refine Runs.split (fun e3 => ?_) (fun e3 => ?_)
 ·simp only [decide_eq_true_eq] at e3
  simp +decide only [szCertV, if_neg e, if_neg e2, if_pos e3, go_sem]
  exact Runs.ret_v
 simp only [decide_eq_false_iff_not] at e3
 have b4 := szExV_le c.ho c.ne c.al c.de c.pu (szI c.key.N.length (szS c.subject (szS c.issuer left))) (by omega) (by omega)
 have cx := szExts hm c.ca c.path c.usage c.ho c.ne c.al c.de c.pu (szI c.key.N.length (szS c.subject (szS c.issuer left))) (by omega) (by omega) o1 o2 n1 n2 a1 a2 d1 d2 p1
 rw [exS] at cx
 simp +decide only [go_sem]
 refine Runs.call cx ?_
 simp +decide only [go_sem]
 refine Runs.split (fun e4 => ?_) (fun e4 => ?_)
 ·simp only [decide_eq_true_eq] at e4
  simp +decide only [szCertV, if_neg e, if_neg e2, if_neg e3, if_pos e4, go_sem]
  exact Runs.ret_v
 simp only [decide_eq_false_iff_not] at e4
 have b5 := szI_le c.sig.length (szExV c.ho c.ne c.al c.de c.pu (szI c.key.N.length (szS c.subject (szS c.issuer left)))) (by omega)
 simp +decide only [go_sem]
 refine Runs.call (szByteS hm (c.sig.map u8A) _ (by omega) (by omega) (by simpa using g1)) ?_
 simp +decide only [List.length_map, go_sem]
 refine Runs.split (fun e5 => ?_) (fun e5 => ?_)
 ·simp only [decide_eq_true_eq] at e5
  refine Runs.ret_eq ?_ |> fun h => by simp +decide only [go_sem]; exact h
  have e6 : szI c.sig.length (szExV c.ho c.ne c.al c.de c.pu (szI c.key.N.length (szS c.subject (szS c.issuer left)))) = -1 := by omega
  rw [szCertV, if_neg e, if_neg e2, if_neg e3, if_neg e4, e6]
 simp +decide only [szCertV, if_neg e, if_neg e2, if_neg e3, if_neg e4, go_sem]
 exact Runs.ret_v
set_option maxHeartbeats 4000000 in
include hm in
theorem toCert (c : GCert) (h : CertFit c) : Holds Tryz.prog 7 [certA c] [] (certO c) [] := by
 obtain ⟨⟨i1, i2⟩, ⟨j1, j2⟩, kn, hx, s1, s2, s3, g1⟩ := h
 refine holds_ref (ann := []) tabOk hm (byL [] [1000001]) Tryz.func7 (by kernel_rfl) rfl ?_
 have ck := toKey hm c.key kn
 rw [keyA, keyO] at ck
 have cx := toExts hm c.ca c.path c.usage c.ho c.ne c.al c.de c.pu hx
 rw [exS, exO] at cx
 simp +decide only [Tryz.f7, go_sem]
 refine Runs.call (toStringS hm c.issuer i1) ?_
 simp +decide only [go_sem]
 refine Runs.call (toStringS hm c.subject j1) ?_
 simp +decide only [go_sem]
 refine Runs.call ck ?_
 simp +decide only [go_sem]
 refine Runs.call cx ?_
 simp +decide only [go_sem]
 refine Runs.call (toByteS hm c.sig g1) ?_
 simp +decide only [go_sem]
 exact Runs.ret_refl
set_option maxHeartbeats 4000000 in
include hm in
theorem eqCert (c : GCert) (h : CertFit c) : Holds Tryz.prog 12 [certA c, certA c] [] (.v (.bool true)) [] := by
 obtain ⟨⟨i1, i2⟩, ⟨j1, j2⟩, kn, hx, s1, s2, s3, g1⟩ := h
 refine holds_ref (ann := []) tabOk hm (byL [] [1000002, 1000003]) Tryz.func12 (by kernel_rfl) rfl ?_
 have ck := eqKey hm c.key kn
 rw [keyA] at ck
 have cx := eqExts hm c.ca c.path c.usage c.ho c.ne c.al c.de c.pu hx
 rw [exS] at cx
 simp +decide only [Tryz.f12, go_sem]
 refine Runs.call (eqStringS hm c.issuer (by omega)) ?_
 simp +decide only [go_sem]
 refine Runs.call (eqStringS hm c.subject (by omega)) ?_
 simp +decide only [go_sem]
 refine Runs.call ck ?_
 simp +decide only [go_sem]
 refine Runs.call cx ?_
 simp +decide only [go_sem]
 refine Runs.call (eqByteS hm c.sig (by omega)) ?_
 simp +decide only [go_sem]
 exact Runs.ret_v
set_option maxHeartbeats 4000000 in
include hm in
theorem sCertOk (c : GCert) (h : CertFit c) : Holds Tryz.prog 48 [certA c] [] (.v (.bool (certB c))) [] := by
 obtain ⟨⟨i1, i2⟩, ⟨j1, j2⟩, kn, hx, s1, s2, s3, g1⟩ := h
 refine holds_ref (ann := []) tabOk hm (byL [] [1000001]) Tryz.func48 (by kernel_rfl) rfl ?_
 have ck := sKeyOk hm c.key (by omega)
 rw [keyA] at ck
 have cx := l10Exts hm c.ca c.path c.usage c.ho c.ne c.al c.de c.pu hx s1 s2 s3
 rw [exS] at cx
 have hl : (c.sig.map u8A).length = c.sig.length := List.length_map _
 simp +decide only [Tryz.f48, go_sem]
 refine Runs.call (l1In hm c.serial 1 1000000000000000) ?_
 cases c1 : inB c.serial 1 1000000000000000
 ·simp +decide only [go_sem]
  exact Runs.ret_eq (by simp only [certB, c1, Bool.false_and])
 simp +decide only [go_sem]
 refine Runs.call (l10Name hm c.issuer (by omega) (fun s hs => by have := i2 s hs; omega)) ?_
 cases c2 : nameOk c.issuer
 ·simp +decide only [go_sem]
  exact Runs.ret_eq (by simp only [certB, c2, Bool.and_false, Bool.false_and])
 simp +decide only [go_sem]
 refine Runs.call (l10Name hm c.subject (by omega) (fun s hs => by have := j2 s hs; omega)) ?_
 cases c3 : nameOk c.subject
 ·simp +decide only [go_sem]
  exact Runs.ret_eq (by simp only [certB, c3, Bool.and_false, Bool.false_and])
 simp +decide only [go_sem]
 refine Runs.call (l9Ok hm c.from') ?_
 cases c4 : inB c.from' (-631152000) 4102444799
 ·simp +decide only [go_sem]
  exact Runs.ret_eq (by simp only [certB, c4, Bool.and_false, Bool.false_and])
 simp +decide only [go_sem]
 refine Runs.call (l9Ok hm c.tu) ?_
 cases c5 : inB c.tu (-631152000) 4102444799
 ·simp +decide only [go_sem]
  exact Runs.ret_eq (by simp only [certB, c5, Bool.and_false, Bool.false_and])
 simp +decide only [go_sem]
 cases c6 : decide (c.from' ≤ c.tu)
 ·simp +decide only [go_sem]
  exact Runs.ret_eq (by simp only [certB, c6, Bool.and_false, Bool.false_and])
 simp +decide only [go_sem]
 refine Runs.call ck ?_
 cases c7 : keyB c.key
 ·simp +decide only [go_sem]
  exact Runs.ret_eq (by simp only [certB, c7, Bool.and_false, Bool.false_and])
 simp +decide only [hl, go_sem]
 refine Runs.call (l1In hm c.alg 1 4) ?_
 cases c8 : inB c.alg 1 4
 ·simp +decide only [go_sem]
  exact Runs.ret_eq (by simp only [certB, c8, Bool.and_false, Bool.false_and])
 simp +decide only [hl, go_sem]
 refine Runs.call cx ?_
 cases c9 : exB c.ca c.path c.usage c.ho c.ne c.al c.de c.pu
 ·simp +decide only [go_sem]
  exact Runs.ret_eq (by simp only [certB, c9, Bool.and_false, Bool.false_and])
 simp +decide only [hl, go_sem]
 refine Runs.call (l1In hm _ 1 64) ?_
 cases c10 : inB c.sig.length 1 64
 ·simp +decide only [go_sem]
  exact Runs.ret_eq (by simp only [certB, c10, Bool.and_false, Bool.false_and])
 simp +decide only [hl, go_sem]
 exact Runs.ret_eq (by simp only [certB, c1, c2, c3, c4, c5, c6, c7, c8, c9, c10, Bool.true_and])
set_option maxHeartbeats 4000000 in
include hm in
theorem iCertOk (c : GCert) (h : CertFit c) : Holds Tryz.prog 74 [certA c] [] (.v (.bool (certB c))) [] := by
 obtain ⟨⟨i1, i2⟩, ⟨j1, j2⟩, kn, hx, s1, s2, s3, g1⟩ := h
 refine holds_ref (ann := []) tabOk hm (byL [] [1000001]) Tryz.func74 (by kernel_rfl) rfl ?_
 have ck := iKeyOk hm c.key (by omega)
 rw [keyA] at ck
 have cx := extsOk hm c.ca c.path c.usage c.ho c.ne c.al c.de c.pu hx s1 s2 s3
 rw [exS] at cx
 have hl : (c.sig.map u8A).length = c.sig.length := List.length_map _
 simp +decide only [Tryz.f74, go_sem]
 refine Runs.call (within hm c.serial 1 1000000000000000) ?_
 cases c1 : inB c.serial 1 1000000000000000
 ·simp +decide only [go_sem]
  exact Runs.ret_eq (by simp only [certB, c1, Bool.false_and])
 simp +decide only [go_sem]
 refine Runs.call (isName hm c.issuer (by omega) (fun s hs => by have := i2 s hs; omega)) ?_
 cases c2 : nameOk c.issuer
 ·simp +decide only [go_sem]
  exact Runs.ret_eq (by simp only [certB, c2, Bool.and_false, Bool.false_and])
 simp +decide only [go_sem]
 refine Runs.call (isName hm c.subject (by omega) (fun s hs => by have := j2 s hs; omega)) ?_
 cases c3 : nameOk c.subject
 ·simp +decide only [go_sem]
  exact Runs.ret_eq (by simp only [certB, c3, Bool.and_false, Bool.false_and])
 simp +decide only [go_sem]
 refine Runs.call (isTime hm c.from') ?_
 cases c4 : inB c.from' (-631152000) 4102444799
 ·simp +decide only [go_sem]
  exact Runs.ret_eq (by simp only [certB, c4, Bool.and_false, Bool.false_and])
 simp +decide only [go_sem]
 refine Runs.call (isTime hm c.tu) ?_
 cases c5 : inB c.tu (-631152000) 4102444799
 ·simp +decide only [go_sem]
  exact Runs.ret_eq (by simp only [certB, c5, Bool.and_false, Bool.false_and])
 simp +decide only [go_sem]
 cases c6 : decide (c.from' ≤ c.tu)
 ·simp +decide only [go_sem]
  exact Runs.ret_eq (by simp only [certB, c6, Bool.and_false, Bool.false_and])
 simp +decide only [go_sem]
 refine Runs.call (within hm c.alg 1 4) ?_
 cases c8 : inB c.alg 1 4
 ·simp +decide only [go_sem]
  exact Runs.ret_eq (by simp only [certB, c8, Bool.and_false, Bool.false_and])
 simp +decide only [hl, go_sem]
 refine Runs.call cx ?_
 cases c9 : exB c.ca c.path c.usage c.ho c.ne c.al c.de c.pu
 ·simp +decide only [go_sem]
  exact Runs.ret_eq (by simp only [certB, c9, Bool.and_false, Bool.false_and])
 simp +decide only [hl, go_sem]
 refine Runs.call (by have q := isSig hm (c.sig.map u8A); rw [hl] at q; exact q) ?_
 cases c10 : inB c.sig.length 1 64
 ·simp +decide only [go_sem]
  exact Runs.ret_eq (by simp only [certB, c10, Bool.and_false, Bool.false_and])
 simp +decide only [hl, go_sem]
 refine Runs.call ck ?_
 cases c7 : keyB c.key
 ·simp +decide only [go_sem]
  exact Runs.ret_eq (by simp only [certB, c7, Bool.and_false, Bool.false_and])
 simp +decide only [hl, go_sem]
 exact Runs.ret_eq (by simp only [certB, c1, c2, c3, c4, c5, c6, c7, c8, c9, c10, Bool.true_and])
end Go.Proofs.W

namespace Go.Proofs.W
open Go Go.AM Go.Proofs.G
set_option maxRecDepth 10000
variable (hm : Tryz.prog.follows .mixedOrders = true)
attribute [local go_sem] rowS_plain rowS_dn rowO_dn
def certZ : A := .agg [.v (.int .i64 0), .v (.slice none 0 0), .v (.slice none 0 0), .v (.int .i64 0), .v (.int .i64 0), .v (.int .i64 0), .v (.slice none 0 0), .v (.int .i64 0), .v (.int .i64 0), .v (.int .i64 0), .v (.int .i64 0), .v (.int .i64 0), .v (.int .i64 0), .v (.int .i64 0), .v (.int .i64 0), .v (.int .i64 0), .v (.bool false), .v (.int .i64 0), .v (.int .i64 0), .v (.int .i64 0), .v (.int .i64 0), .v (.int .i64 0), .v (.int .i64 0), .v (.int .i64 0), .v (.int .i64 0), .v (.bool false), .v (.int .i64 0), .v (.int .i64 0), .v (.slice none 0 0), .v (.slice none 0 0), .v (.slice none 0 0), .v (.slice none 0 0), .v (.slice none 0 0), .v (.slice none 0 0)]
theorem rowO_md (ne : List (List Int)) : mdL (ne.map rowO) = ne.map rowO := by
 rw [mdL_eq, List.map_map]
 congr 1
 funext l
 simp [rowO, A.md, md_intA]
theorem rowO_fr (ne : List (List Int)) : freeL (ne.map rowO) = true := by
 induction ne with
 | nil => rfl
 | cons a l ih => simp [freeL, ih, rowO, A.free, fr_intA]
theorem certA_dn (c : GCert) : (certA c).dn = certA c := by simp [certA, A.dn, dnL, dn_strA, rowS_dn, dn_intA, dn_u8A]
theorem certO_dn (c : GCert) : (certO c).dn = certA c := by simp [certA, certO, A.dn, dnL, dn_strA, rowO_dn, dn_intA, dn_u8A]
theorem certO_md (c : GCert) : (certO c).md = certO c := by simp [certO, A.md, mdL, md_strA, rowO_md, md_intA, md_u8A]
theorem certA_len (c : GCert) : (certA c).cells.length = 34 := rfl
theorem certO_len (c : GCert) : (certO c).cells.length = 34 := rfl
theorem certsA_dn (L : List GCert) : dnL (L.map certA) = L.map certA := by rw [dnL_map]; simp only [certA_dn]
theorem certsO_dn (L : List GCert) : dnL (L.map certO) = L.map certA := by rw [dnL_map]; simp only [certO_dn]
theorem certsO_md (L : List GCert) : mdL (L.map certO) = L.map certO := by rw [mdL_eq, List.map_map]; congr 1; funext c; exact certO_md c
theorem certA_plain (c : GCert) : (certA c).plain = true := by simp [certA, A.plain, plainL, pl_strA, rowS_plain, pl_intA, pl_u8A, Sh.own]
attribute [local go_sem] certsA_dn certsO_dn certsO_md rowO_md
theorem szCertV_le (c : GCert) (l : Int) (h : 0 ≤ l) (h2 : l ≤ 1048576) : szCertV c l ≤ l ∧ -1 ≤ szCertV c l := by
 have b1 := szS_le c.issuer l h
 unfold szCertV
 split
 ·omega
 have b2 := szS_le c.subject (szS c.issuer l) (by omega)
 split
 ·omega
 have b3 := szI_le c.key.N.length (szS c.subject (szS c.issuer l)) (by omega)
 split
 ·omega
 have b4 := szExV_le c.ho c.ne c.al c.de c.pu (szI c.key.N.length (szS c.subject (szS c.issuer l))) (by omega) (by omega)
 split
 ·omega
 have b5 := szI_le c.sig.length (szExV c.ho c.ne c.al c.de c.pu (szI c.key.N.length (szS c.subject (szS c.issuer l)))) (by omega)
 omega
def szCG : List GCert → Int → Int
 | [], l => l
 | c :: r, l => if szCertV c l < 0 then -1 else szCG r (szCertV c l)
def szCSV (L : List GCert) (left : Int) : Int := if left - L.length < 0 then -1 else szCG L (left - L.length)
theorem szCG_le (L : List GCert) (l : Int) (h : 0 ≤ l) (h2 : l ≤ 1048576) : szCG L l ≤ l ∧ -1 ≤ szCG L l ∧ (¬ szCG L l < 0 → ∀ c ∈ L, CertFit c) := by
 induction L generalizing l with
 | nil => simp [szCG]; omega
 | cons c r ih =>
  simp only [szCG]
  have hs := szCertV_le c l h h2
  split
  ·exact ⟨by omega, by omega, fun h => absurd (by omega) h⟩
  ·rename_i h3
   have := ih (szCertV c l) (by omega) (by omega)
   refine ⟨by omega, by omega, fun h4 x hx => ?_⟩
   rcases List.mem_cons.mp hx with e | e
   ·subst e; exact szCertV_fit x l h h2 h3
   ·exact this.2.2 h4 x e
theorem szCSV_le (L : List GCert) (l : Int) (h : 0 ≤ l) (h2 : l ≤ 1048576) : szCSV L l ≤ l ∧ -1 ≤ szCSV L l ∧ (¬ szCSV L l < 0 → L.length ≤ 1048576 ∧ ∀ c ∈ L, CertFit c) := by
 unfold szCSV
 split
 ·exact ⟨by omega, by omega, fun h => absurd (by omega) h⟩
 ·have := szCG_le L (l - L.length) (by omega) (by omega)
  exact ⟨by omega, by omega, fun h3 => ⟨by omega, this.2.2 h3⟩⟩
def csAnn : Ann := [(0, [0, 1, 5])]
def csSt (L : List GCert) (p : Nat × Int) : St := ⟨[.sl .sh (L.map certA), .v (.int .i64 p.2), .any, .any, .any, .v (.int .i64 p.1), .any, .any, .any, .any, .any, .any, .any, .any, .any, .any, .any, .any, .any, .any, .any, .any, .any, .any, .any, .any, .any], [], []⟩
set_option maxHeartbeats 2000000 in
include hm in
theorem szCertS (L : List GCert) (left : Int) (h1 : 0 ≤ left) (h2 : left ≤ 1048576) (h3 : L.length ≤ 9223372036854775807) (h4 : ∀ c ∈ L, CertIn c) :
  Holds Tryz.prog 5 [.sl .sh (L.map certA), .v (.int .i64 left)] [] (.v (.int .i64 (szCSV L left))) [] := by
 refine holds_of (ann := csAnn) tabOk hm Tryz.func5 (by kernel_rfl) rfl ?_
 have hlen : (L.map certA).length = L.length := List.length_map _
 simp +decide (disch := first | omega | (simp only [ll]; omega)) only [Tryz.f5, hlen, if_pos, go_sem]
 refine Runs.split (fun h => ?_) (fun h => ?_)
 ·simp only [decide_eq_true_eq] at h
  simp +decide only [szCSV, if_pos h, go_sem]
  exact Runs.ret_v
 ·simp only [decide_eq_false_iff_not] at h
  simp +decide only [go_sem]
  refine Runs.while (α := Nat × Int) (csSt L) (fun p => L.length - p.1) (fun p => p.1 ≤ L.length ∧ 0 ≤ p.2 ∧ p.2 ≤ 1048576 ∧ szCG (L.drop p.1) p.2 = szCSV L left) (0, left - L.length) ⟨by simp, by simp; omega, by simp; omega, by simp [szCSV, h]⟩ ?_ ?_
  ·simp [go_sem, csAnn, csSt]
  ·rintro ⟨i, l⟩ ⟨hi, hl1, hl2, hr⟩ ih
   simp only at hi hl1 hl2 hr
   simp +decide only [csSt, hlen, go_sem]
   refine Runs.split (fun h => ?_) (fun h => ?_)
   ·have hlt : i < L.length := by simpa using h
    have hg : (L.map certA).getD i .any = certA L[i] := by simp [List.getD, hlt]
    rw [List.drop_eq_getElem_cons hlt] at hr
    simp only [szCG] at hr
    have hb := szCertV_le L[i] l hl1 hl2
    have hc := szCert hm L[i] l hl1 hl2 (h4 _ (List.getElem_mem hlt))
    rw [certA] at hg hc
    simp +decide (disch := first | omega | (simp only [ll]; omega)) only [hlen, hg, if_pos, go_sem]
    refine Runs.call hc ?_
    simp +decide only [go_sem]
    refine Runs.split (fun h => ?_) (fun h => ?_)
    ·simp only [decide_eq_true_eq] at h
     rw [if_pos h] at hr
     simp +decide only [← hr, go_sem]
     exact Runs.ret_v
    ·simp only [decide_eq_false_iff_not] at h
     rw [if_neg h] at hr
     simp +decide (disch := first | omega | (simp only [ll]; omega)) only [if_pos, go_sem]
     refine ih (i + 1, szCertV L[i] l) _ (by simp only; omega) ⟨hlt, by simp only; omega, by simp only; omega, hr⟩ ?_
     simp [go_sem, csAnn, csSt]
   ·have hge : i = L.length := by simp at h; omega
    subst hge
    simp only [List.drop_length, szCG] at hr
    simp +decide only [← hr, go_sem]
    exact Runs.ret_v
def tcsSt (L : List GCert) (i : Nat) : St := ⟨[.sl .sh (L.map certA), .any, .any, .ms (.l 0) 0 L.length L.length, .v (.int .i64 i), .any, .any, .any, .any, .any, .any, .any, .any, .any, .any, .any, .any, .any, .any, .any, .any, .any, .any], [(0, ⟨true, 34, false, fillS certO L certZ i⟩)], []⟩
set_option maxHeartbeats 4000000 in
include hm in
theorem toCertS (L : List GCert) (h3 : L.length ≤ 1048576) (h4 : ∀ c ∈ L, CertFit c) : Holds Tryz.prog 8 [.sl .sh (L.map certA)] [] (.sl (.ow 34) (L.map certO)) [] := by
 refine holds_of (ann := toAnn) tabOk hm Tryz.func8 (by kernel_rfl) rfl ?_
 have hl0 : (L.map certA).length = L.length := List.length_map _
 simp +decide (disch := first | omega | (simp only [ll]; omega)) only [Tryz.f8, hl0, if_pos, go_sem]
 refine Runs.while (α := Nat) (tcsSt L) (fun i => L.length - i) (fun i => i ≤ L.length) 0 (by omega) ?_ ?_
 ·simp [go_sem, toAnn, tcsSt, fillS_zero, certZ]
 ·intro i hi ih
  have hlen := fillS_length certO L certZ i hi
  simp +decide only [tcsSt, hlen, hl0, go_sem]
  refine Runs.split (fun h => ?_) (fun h => ?_)
  ·have hlt : i < L.length := by simpa using h
   have hg := fillS_get certO L certZ i hlt
   have hg2 : (L.map certA).getD i .any = certA L[i] := by simp [List.getD, hlt]
   have hs : (fillS certO L certZ i).set i (certO L[i]) = _ := fillS_set certO L certZ i hlt
   have hc := toCert hm L[i] (h4 _ (List.getElem_mem hlt))
   have hg := hg.trans (show certZ = _ from by rw [certZ])
   rw [certO] at hs hc
   rw [certA] at hg2 hc
   simp +decide (disch := first | omega | (simp only [ll]; omega)) only [hlen, hl0, hg, hg2, if_pos, go_sem]
   refine Runs.call hc ?_
   simp +decide (maxSteps := 9^7) (disch := first | omega | (simp only [ll]; omega)) only [hlen, hl0, hg, hs, Nat.mul_one, Nat.zero_add, Nat.add_zero, if_pos, go_sem]
   refine ih (i + 1) _ (by omega) hlt ?_
   simp [go_sem, toAnn, tcsSt]
  ·have hge : i = L.length := by simp at h; omega
   subst hge
   simp +decide only [hlen, fillS_all, go_sem]
   exact Runs.ret_refl
def ecsS : Sched := .take 0 (.take 1 (.take 2 (.take 4 (.take 5 (.take 6 (.alt 3 (.alt 7 (.alt 8 (.take 9 .fin) .nil) .nil) (.alt 7 (.alt 3 (.alt 8 (.take 9 .fin) .nil) .nil) .nil)))))))
attribute [local go_sem] ecsS
def ecsSt (L : List GCert) (i : Nat) : St := ⟨[.sl .sh (L.map certA), .sl .sh (L.map certA), .any, .any, .any, .v (.int .i64 i), .any, .any, .any, .any, .any, .any, .any, .any, .any, .any, .any, .any, .any, .any, .any, .any, .any, .any, .any, .any, .any], [], []⟩
set_option maxHeartbeats 4000000 in
include hm in
theorem eqCertS (L : List GCert) (h3 : L.length ≤ 1048576) (h4 : ∀ c ∈ L, CertFit c) : Holds Tryz.prog 11 [.sl .sh (L.map certA), .sl .sh (L.map certA)] [] (.v (.bool true)) [] := by
 refine holds_of (ann := csAnn) tabOk hm Tryz.func11 (by kernel_rfl) rfl ?_
 have hl0 : (L.map certA).length = L.length := List.length_map _
 simp +decide only [Tryz.f11, hl0, go_sem]
 refine Runs.while (α := Nat) (ecsSt L) (fun i => L.length - i) (fun i => i ≤ L.length) 0 (by omega) ?_ ?_
 ·simp [go_sem, csAnn, ecsSt]
 ·intro i hi ih
  simp +decide only [ecsSt, hl0, go_sem]
  refine Runs.split (fun h => ?_) (fun h => ?_)
  ·have hlt : i < L.length := by simpa using h
   have hg : (L.map certA).getD i .any = certA L[i] := by simp [List.getD, hlt]
   have hc := eqCert hm L[i] (h4 _ (List.getElem_mem hlt))
   rw [certA] at hg hc
   simp +decide only [go_sem]
   refine Runs.draw (st1 := ?s1) (draws_by (ann := csAnn) tabOk ecsS (by kernel_rfl) ?p1) ?q1
   case p1 =>
    intro K r X hK
    simp +decide (maxSteps := 9^7) (disch := first | omega | (simp only [ll]; omega)) only [hg, hl0, if_pos, go_sem]
    repeat' apply And.intro
    all_goals
     refine Runs.call hc ?_
     simp +decide (maxSteps := 9^7) (disch := first | omega | (simp only [ll]; omega)) only [if_pos, go_sem]
     exact hK
   case q1 =>
    simp +decide (disch := first | omega | (simp only [ll]; omega)) only [hg, hl0, if_pos, go_sem]
    refine ih (i + 1) _ (by omega) hlt ?_
    simp [go_sem, csAnn, ecsSt]
  ·simp +decide only [go_sem]
   exact Runs.ret_v
end Go.Proofs.W

namespace Go.Proofs.W
open Go Go.AM
variable (hm : Tryz.prog.follows .mixedOrders = true)
def ib (n : Int) : Int := IntKind.u8.wrap n
def smallK (n : Int) (k : Nat) : Bool := decide (-128 ≤ n / 256 ^ k) && decide (n / 256 ^ k ≤ 127)
def firstK (n : Int) : Nat → Nat → Nat
 | 0, k => k
 | f + 1, k => if smallK n k = true then k else firstK n f (k + 1)
def kB (n : Int) : Nat := firstK n 7 0
def tailB (n : Int) (k : Nat) : List Int := (List.range (k + 1)).reverse.map fun i => ib (n / 256 ^ i)
def intB (n : Int) : List Int := tailB n (kB n)
def l7Len (n : Nat) : List Int := if n < 128 then [ib n] else if n < 256 then [129, ib n] else [130, ib (n / 256 : Nat), ib n]
end Go.Proofs.W

namespace Go.Proofs.W
open Go Go.AM
variable (hm : Tryz.prog.follows .mixedOrders = true)
def feb (y : Nat) : Nat := if y % 4 = 0 then 29 else 28
def yl (y : Nat) : Nat := 337 + feb y
def ml (y : Nat) : Nat → Nat
 | 2 => feb y | 4 => 30 | 6 => 30 | 9 => 30 | 11 => 30 | _ => 31
def remM (y : Nat) : Nat → Nat
 | 1 => 337 + feb y | 2 => 306 + feb y | 3 => 306 | 4 => 275 | 5 => 245 | 6 => 214 | 7 => 184 | 8 => 153 | 9 => 122 | 10 => 92 | 11 => 61 | 12 => 31 | _ => 0
def yearGo : Nat → Nat → Nat → Nat × Nat
 | 0, y, d => (y, d)
 | f + 1, y, d => if yl y ≤ d then yearGo f (y + 1) (d - yl y) else (y, d)
def monthGo : Nat → Nat → Nat → Nat → Nat × Nat
 | 0, _, m, d => (m, d)
 | f + 1, y, m, d => if ml y m ≤ d then monthGo f y (m + 1) (d - ml y m) else (m, d)
structure DayR where
 y : Nat
 m : Nat
 d : Nat
 s : Nat
def dayP (t : Int) : DayR :=
 if inB t (-631152000) 4102444799 = true then
  let n := (t + 631152000).toNat
  let a := yearGo (n / 86400 + 1) 1950 (n / 86400)
  let b := monthGo 12 a.1 1 a.2
  ⟨a.1, b.1, b.2 + 1, n % 86400⟩
 else ⟨0, 0, 0, 0⟩
def dayA (r : DayR) : A := .tup [.v (.int .i64 r.y), .v (.int .i64 r.m), .v (.int .i64 r.d), .v (.int .i64 r.s)]
end Go.Proofs.W

namespace Go.Proofs.W
open Go Go.AM
variable (hm : Tryz.prog.follows .mixedOrders = true)
def two (n : Nat) : ByteArray := ⟨#[UInt8.ofNat (48 + n / 10 % 10), UInt8.ofNat (48 + n % 10)]⟩
theorem two_size (n : Nat) : (two n).size = 2 := rfl
def restT (m d s : Nat) : ByteArray := two m ++ two d ++ two (s / 3600) ++ two (s / 60 % 60) ++ two (s % 60) ++ ⟨#[90]⟩
theorem z_size : (ByteArray.mk #[90]).size = 1 := rfl
attribute [local go_sem] two_size z_size
def shortOk (t : Int) : Bool := inB (dayP t).y 1950 2049
def shortT (t : Int) : ByteArray := if shortOk t = true then two (dayP t).y ++ restT (dayP t).m (dayP t).d (dayP t).s else ⟨#[]⟩
def longOk (t : Int) : Bool := !decide (((dayP t).y : Int) = 0)
def longT (t : Int) : ByteArray := if longOk t = true then two ((dayP t).y / 100) ++ two (dayP t).y ++ restT (dayP t).m (dayP t).d (dayP t).s else ⟨#[]⟩
end Go.Proofs.W

namespace Go.Proofs.W
open Go Go.AM
variable (hm : Tryz.prog.follows .mixedOrders = true)
structure It where
 tag : Int
 body : List Int
 kids : Int
def itemS (x : It) : A := .agg [.v (.int .i64 x.tag), .sl .sh (x.body.map u8A), .v (.int .i64 x.kids)]
def itemO (x : It) : A := .agg [.v (.int .i64 x.tag), .sl (.ow 1) (x.body.map u8A), .v (.int .i64 x.kids)]
theorem c_itemO (x : It) : (itemO x).cells.length = 3 := rfl
attribute [go_sem] c_itemO
def timeI (t : Int) : It := if shortOk t = true then ⟨23, bytesI (shortT t), 0⟩ else ⟨24, bytesI (longT t), 0⟩
end Go.Proofs.W

namespace Go.Proofs.W
open Go Go.AM
variable (hm : Tryz.prog.follows .mixedOrders = true)
inductive Nd where
 | mk (tag : Int) (body : List Int) (kids : List Nd)
mutual
def nodeO : Nd → A
 | .mk t b ks => .agg [.v (.int .i64 t), .sl (.ow 1) (b.map u8A), .sl (.ow 3) (nodesO ks)]
def nodesO : List Nd → List A
 | [] => []
 | n :: r => nodeO n :: nodesO r
end
mutual
def nodeS : Nd → A
 | .mk t b ks => .agg [.v (.int .i64 t), .sl .sh (b.map u8A), .sl .sh (nodesS ks)]
def nodesS : List Nd → List A
 | [] => []
 | n :: r => nodeS n :: nodesS r
end
def intN (n : Int) : Nd := .mk 2 (intB n) []
def txtN (t : Int) (s : ByteArray) : Nd := .mk t (bytesI s) []
def timeG (t : Int) : Int := if shortOk t = true then 23 else 24
def timeB (t : Int) : List Int := if shortOk t = true then bytesI (shortT t) else bytesI (longT t)
def timeN (t : Int) : Nd := .mk (timeG t) (timeB t) []
set_option maxRecDepth 10000 in
include hm in
theorem cloneB (B : List Int) (h : B.length ≤ 1073741824) : Holds Tryz.prog 61 [.sl .sh (B.map u8A)] [] (.sl (.ow 1) (B.map u8A)) [] := by
 refine holds_of (ann := []) tabOk hm Tryz.func61 (by kernel_rfl) rfl ?_
 cases B with
 | nil =>
  simp +decide only [Tryz.f61, go_sem]
  refine ⟨?_, ?_⟩
  ·exact Runs.ret (.nils _ .nil) rfl
  ·exact Runs.ret_refl
 | cons b B =>
  simp only [List.length_cons] at h
  simp +decide (disch := first | omega | (simp only [ll]; omega)) only [Tryz.f61, u8A, if_pos, go_sem]
  exact Runs.ret_refl
mutual
def itemsN : Nd → List It
 | .mk t b ks => ⟨t, b, ks.length⟩ :: itemsNL ks
def itemsNL : List Nd → List It
 | [] => []
 | n :: r => itemsN n ++ itemsNL r
end
def itPre (ks : List Nd) (i : Nat) : List It := itemsNL (ks.take i)
theorem itPre_zero (ks : List Nd) : itPre ks 0 = [] := rfl
mutual
def szN : Nd → Nat
 | .mk _ _ ks => szNL ks + 1
def szNL : List Nd → Nat
 | [] => 0
 | n :: r => szN n + szNL r
end
mutual
def bodiesLe (m : Nat) : Nd → Prop
 | .mk _ b ks => b.length ≤ m ∧ bodiesLeL m ks
def bodiesLeL (m : Nat) : List Nd → Prop
 | [] => True
 | n :: r => bodiesLe m n ∧ bodiesLeL m r
end
mutual
def kidsLe (m : Nat) : Nd → Prop
 | .mk _ _ ks => ks.length ≤ m ∧ kidsLeL m ks
def kidsLeL (m : Nat) : List Nd → Prop
 | [] => True
 | n :: r => kidsLe m n ∧ kidsLeL m r
end
end Go.Proofs.W

namespace Go.Proofs.W
open Go Go.AM Go.Proofs.G
set_option maxRecDepth 10000
variable (hm : Tryz.prog.follows .mixedOrders = true)
attribute [local go_sem] keyA keyO exS exO rowS_plain rowS_dn rowO_dn rowO_md certA
def certW (c : GCert) (is su n ho ne al de pu sg : A) : A := .agg [.v (.int .i64 c.serial), is, su, .v (.int .i64 c.from'), .v (.int .i64 c.tu), .v (.int .i64 c.key.kind), n, .v (.int .i64 c.key.e), .v (.int .i64 c.key.cv.p), .v (.int .i64 c.key.cv.a), .v (.int .i64 c.key.cv.b), .v (.int .i64 c.key.cv.n), .v (.int .i64 c.key.cv.gx), .v (.int .i64 c.key.cv.gy), .v (.int .i64 c.key.q.x), .v (.int .i64 c.key.q.y), .v (.bool c.key.q.far), .v (.int .i64 c.key.ed.p), .v (.int .i64 c.key.ed.d), .v (.int .i64 c.key.ed.l), .v (.int .i64 c.key.ed.bx), .v (.int .i64 c.key.ed.by'), .v (.int .i64 c.key.a.1), .v (.int .i64 c.key.a.2), .v (.int .i64 c.alg), .v (.bool c.ca), .v (.int .i64 c.path), .v (.int .i64 c.usage), ho, ne, al, de, pu, sg]
attribute [local go_sem] certW certZ
def msL (j n : Nat) : A := .ms (.l j) 0 n n
attribute [local go_sem] msL
def otAnn : Ann := [(0, [0, 3, 4])]
def otSt (L : List ByteArray) (i : Nat) : St := ⟨[.sl .sh (L.map strA), .any, .any, .ms (.l 0) 0 i i, .v (.int .i64 i), .any, .any, .any, .any, .any, .any, .any, .any, .any, .any, .any, .any, .any, .any, .any], [(0, ⟨true, 1, false, mpre strA L i⟩)], []⟩
include hm in
theorem l12Texts (L : List ByteArray) (h : L.length ≤ 1048576) : Holds Tryz.prog 50 [.sl .sh (L.map strA)] [] (.sl (.ow 1) (L.map strA)) [] := by
 refine holds_of (ann := otAnn) tabOk hm Tryz.func50 (by kernel_rfl) rfl ?_
 simp +decide only [Tryz.f50, go_sem]
 refine Runs.while (α := Nat) (otSt L) (fun i => L.length - i) (fun i => i ≤ L.length) 0 (by omega) ?_ ?_
 ·simp [go_sem, otAnn, otSt, mpre_zero]
 ·intro i hi ih
  have hlen := mpre_length strA hi
  simp +decide only [otSt, go_sem]
  refine Runs.split (fun h => ?_) (fun h => ?_)
  ·have hlt : i < L.length := by simpa using h
   have hg : (L.map strA).getD i .any = .v (.string L[i]) := by simp [List.getD, hlt, strA]
   simp +decide (disch := first | omega | (simp only [ll]; omega)) only [hlen, hg, if_pos, go_sem]
   refine ih (i + 1) _ (by omega) (by omega) ?_
   simp [go_sem, otAnn, otSt, mpre_succ _ hlt, strA]
  ·have hge : i = L.length := by simp at h; omega
   subst hge
   simp +decide only [hlen, mpre_all strA L, go_sem]
   exact Runs.ret_refl
def oiAnn : Ann := [(0, [0, 3, 4])]
def oiSt (L : List Int) (i : Nat) : St := ⟨[.sl .sh (L.map intA), .any, .any, .ms (.l 0) 0 i i, .v (.int .i64 i), .any, .any, .any, .any, .any, .any, .any, .any, .any, .any, .any, .any, .any, .any, .any], [(0, ⟨true, 1, false, mpre intA L i⟩)], []⟩
include hm in
theorem l12Ints (L : List Int) (h : L.length ≤ 1048576) : Holds Tryz.prog 51 [.sl .sh (L.map intA)] [] (.sl (.ow 1) (L.map intA)) [] := by
 refine holds_of (ann := oiAnn) tabOk hm Tryz.func51 (by kernel_rfl) rfl ?_
 simp +decide only [Tryz.f51, go_sem]
 refine Runs.while (α := Nat) (oiSt L) (fun i => L.length - i) (fun i => i ≤ L.length) 0 (by omega) ?_ ?_
 ·simp [go_sem, oiAnn, oiSt, mpre_zero]
 ·intro i hi ih
  have hlen := mpre_length intA hi
  simp +decide only [oiSt, go_sem]
  refine Runs.split (fun h => ?_) (fun h => ?_)
  ·have hlt : i < L.length := by simpa using h
   have hg : (L.map intA).getD i .any = .v (.int .i64 L[i]) := by simp [List.getD, hlt, intA]
   simp +decide (disch := first | omega | (simp only [ll]; omega)) only [hlen, hg, if_pos, go_sem]
   refine ih (i + 1) _ (by omega) (by omega) ?_
   simp [go_sem, oiAnn, oiSt, mpre_succ _ hlt, intA]
  ·have hge : i = L.length := by simp at h; omega
   subst hge
   simp +decide only [hlen, mpre_all intA L, go_sem]
   exact Runs.ret_refl
def soAnn : Ann := [(0, [1, 2, 3, 4, 5]), (2, [1, 2, 3, 6, 7])]
def soX (c : GCert) : A := certW c (msL 3 c.issuer.length) (msL 4 c.subject.length) (msL 5 c.key.N.length) (msL 6 c.ho.length) (.sl .sh (c.ne.map rowS)) (.sl .sh (c.al.map strA)) (.sl .sh (c.de.map strA)) (.sl .sh (c.pu.map intA)) (.sl .sh (c.sig.map u8A))
def soX2 (c : GCert) : A := certW c (msL 3 c.issuer.length) (msL 4 c.subject.length) (msL 5 c.key.N.length) (msL 6 c.ho.length) (msL 7 c.ne.length) (msL 8 c.al.length) (msL 9 c.de.length) (msL 10 c.pu.length) (.sl .sh (c.sig.map u8A))
def soSt (c : GCert) (i : Nat) : St := ⟨[.any, .ptr [certA c] 0 0, .ref (.l 0) 0 0 1, .ref (.l 1) 0 0 1, .ms (.l 2) 0 i i, .v (.int .i64 i), .any, .any, .any, .any, .any, .any, .any, .any, .any, .any, .any, .any, .any, .any, .any, .any, .any, .any, .any, .any, .any, .any, .any, .any, .any, .any, .any, .any, .any, .any, .any, .any, .any, .any, .any, .any, .any, .any, .any, .any, .any, .any, .any, .any, .any, .any, .any, .any, .any, .any, .any, .any, .any, .any, .any, .any, .any, .any, .any, .any, .any, .any, .any, .any, .any, .any, .any, .any, .any, .any, .any, .any, .any, .any, .any, .any, .any, .any, .any, .any, .any, .any], [(0, ⟨true, 34, true, [certZ]⟩), (1, ⟨true, 34, true, [soX c]⟩), (2, ⟨true, 1, false, mpre rowO c.ne i⟩), (3, ⟨true, 1, false, c.issuer.map strA⟩), (4, ⟨true, 1, false, c.subject.map strA⟩), (5, ⟨true, 1, false, c.key.N.map intA⟩), (6, ⟨true, 1, false, c.ho.map strA⟩)], []⟩
def soS2 (c : GCert) (i : Nat) : St := ⟨[.any, .ptr [certA c] 0 0, .ref (.l 0) 0 0 1, .ref (.l 1) 0 0 1, .any, .any, .ms (.l 2) 0 i i, .v (.int .i64 i), .any, .any, .any, .any, .any, .any, .any, .any, .any, .any, .any, .any, .any, .any, .any, .any, .any, .any, .any, .any, .any, .any, .any, .any, .any, .any, .any, .any, .any, .any, .any, .any, .any, .any, .any, .any, .any, .any, .any, .any, .any, .any, .any, .any, .any, .any, .any, .any, .any, .any, .any, .any, .any, .any, .any, .any, .any, .any, .any, .any, .any, .any, .any, .any, .any, .any, .any, .any, .any, .any, .any, .any, .any, .any, .any, .any, .any, .any, .any, .any], [(0, ⟨true, 34, true, [certZ]⟩), (1, ⟨true, 34, true, [soX2 c]⟩), (2, ⟨true, 1, false, mpre u8A c.sig i⟩), (3, ⟨true, 1, false, c.issuer.map strA⟩), (4, ⟨true, 1, false, c.subject.map strA⟩), (5, ⟨true, 1, false, c.key.N.map intA⟩), (6, ⟨true, 1, false, c.ho.map strA⟩), (7, ⟨true, 1, false, c.ne.map rowO⟩), (8, ⟨true, 1, false, c.al.map strA⟩), (9, ⟨true, 1, false, c.de.map strA⟩), (10, ⟨true, 1, false, c.pu.map intA⟩)], []⟩
set_option maxHeartbeats 8000000 in
include hm in
theorem l12Own (c : GCert) (fit : CertFit c) : Holds Tryz.prog 25 [certA c] [] (certO c) [] := by
 obtain ⟨⟨i1, i2⟩, ⟨j1, j2⟩, kn, ⟨f1, f2, f3, f4, f5, f6⟩, s1, s2, s3, g1⟩ := fit
 refine holds_ref (ann := soAnn) tabOk hm (byL [] [1000001]) Tryz.func25 (by kernel_rfl) rfl ?_
 simp +decide (maxSteps := 9^7) only [↓reduceIte, Tryz.f25, go_sem]
 refine Runs.call (l12Texts hm c.issuer i1) ?_
 simp +decide (maxSteps := 9^7) only [↓reduceIte, go_sem]
 refine Runs.call (l12Texts hm c.subject j1) ?_
 simp +decide (maxSteps := 9^7) only [↓reduceIte, go_sem]
 refine Runs.call (l12Ints hm c.key.N kn) ?_
 simp +decide (maxSteps := 9^7) only [↓reduceIte, go_sem]
 refine Runs.call (l12Texts hm c.ho (by omega)) ?_
 simp +decide (maxSteps := 9^7) only [↓reduceIte, go_sem]
 refine Runs.while (α := Nat) (soSt c) (fun i => c.ne.length - i) (fun i => i ≤ c.ne.length) 0 (by omega) ?_ ?_
 ·simp [go_sem, soAnn, soSt, soX, mpre_zero]
 ·intro i hi ih
  have hlen := mpre_length rowO hi
  have hl0 : (c.ne.map rowS).length = c.ne.length := List.length_map _
  simp +decide (maxSteps := 9^7) only [↓reduceIte, soSt, soX, hl0, go_sem]
  refine Runs.split (fun h => ?_) (fun h => ?_)
  ·have hlt : i < c.ne.length := by simpa using h
   have hg : (c.ne.map rowS).getD i .any = .sl .sh (c.ne[i].map intA) := by simp [List.getD, hlt, rowS]
   have hn := f3 c.ne[i] (List.getElem_mem hlt)
   have d1 : decide (0 ≤ (i : Int) ∧ (i : Int) < c.ne.length) = true := by simp; omega
   have w1 : IntKind.i64.wrap ((i : Int) + 1) = i + 1 := wrap_i64 (by omega) (by omega)
   have hd : decide (i + 1 ≤ 1073741824) = true := by simp; omega
   simp +decide (maxSteps := 9^7) only [↓reduceIte, hlen, hl0, hg, d1, Int.toNat_natCast, go_sem]
   refine Runs.call (l12Ints hm c.ne[i] hn) ?_
   simp +decide (maxSteps := 9^7) only [↓reduceIte, hlen, hl0, w1, hd, List.length_map, go_sem]
   refine ih (i + 1) _ (by omega) hlt ?_
   simp [go_sem, soAnn, soSt, soX, mpre_succ _ hlt, rowO]
  ·have hge : i = c.ne.length := by simp at h; omega
   subst hge
   rw [mpre_all]
   simp +decide (maxSteps := 9^7) only [↓reduceIte, List.length_map, go_sem]
   refine Runs.call (l12Texts hm c.al (by omega)) ?_
   simp +decide (maxSteps := 9^7) only [↓reduceIte, go_sem]
   refine Runs.call (l12Texts hm c.de (by omega)) ?_
   simp +decide (maxSteps := 9^7) only [↓reduceIte, go_sem]
   refine Runs.call (l12Ints hm c.pu (by omega)) ?_
   simp +decide (maxSteps := 9^7) only [↓reduceIte, go_sem]
   refine Runs.while (α := Nat) (soS2 c) (fun i => c.sig.length - i) (fun i => i ≤ c.sig.length) 0 (by omega) ?_ ?_
   ·simp [go_sem, soAnn, soS2, soX2, mpre_zero]
   ·intro i hi ih
    have hlen := mpre_length u8A hi
    have hl0 : (c.sig.map u8A).length = c.sig.length := List.length_map _
    simp +decide (maxSteps := 9^7) only [↓reduceIte, soS2, soX2, hl0, go_sem]
    refine Runs.split (fun h => ?_) (fun h => ?_)
    ·have hlt : i < c.sig.length := by simpa using h
     have hg : (c.sig.map u8A).getD i .any = .v (.int .u8 c.sig[i]) := by simp [List.getD, hlt, u8A]
     have d1 : decide (0 ≤ (i : Int) ∧ (i : Int) < c.sig.length) = true := by simp; omega
     have w1 : IntKind.i64.wrap ((i : Int) + 1) = i + 1 := wrap_i64 (by omega) (by omega)
     have hd : decide (i + 1 ≤ 1073741824) = true := by simp; omega
     simp +decide (maxSteps := 9^7) only [↓reduceIte, hlen, hl0, hg, d1, w1, hd, Int.toNat_natCast, go_sem]
     refine ih (i + 1) _ (by omega) hlt ?_
     simp [go_sem, soAnn, soS2, soX2, mpre_succ _ hlt, u8A]
    ·have hge : i = c.sig.length := by simp at h; omega
     subst hge
     rw [mpre_all]
     simp +decide (maxSteps := 9^7) only [↓reduceIte, List.length_map, certO, go_sem]
     exact Runs.ret_refl
end Go.Proofs.W

namespace Go.Proofs.W
open Go Go.AM Go.Proofs.G
set_option maxRecDepth 10000
variable (hm : Tryz.prog.follows .mixedOrders = true)
attribute [local go_sem] keyA keyO exS exO rowS_plain rowS_dn rowO_dn rowO_md certA certW certZ msL
include hm in
theorem cloneSt (L : List ByteArray) (h : L.length ≤ 1048576) : Holds Tryz.prog 60 [.sl .sh (L.map strA)] [] (.sl (.ow 1) (L.map strA)) [] := by
 refine holds_of (ann := []) tabOk hm Tryz.func60 (by kernel_rfl) rfl ?_
 cases L with
 | nil =>
  simp +decide only [Tryz.f60, go_sem]
  refine ⟨?_, ?_⟩
  ·exact Runs.ret (.nils _ .nil) rfl
  ·exact Runs.ret_refl
 | cons b B =>
  simp only [List.length_cons] at h
  simp +decide (disch := first | omega | (simp only [ll]; omega)) only [Tryz.f60, strA, if_pos, go_sem]
  exact Runs.ret_refl
include hm in
theorem cloneIn (L : List Int) (h : L.length ≤ 1048576) : Holds Tryz.prog 59 [.sl .sh (L.map intA)] [] (.sl (.ow 1) (L.map intA)) [] := by
 refine holds_of (ann := []) tabOk hm Tryz.func59 (by kernel_rfl) rfl ?_
 cases L with
 | nil =>
  simp +decide only [Tryz.f59, go_sem]
  refine ⟨?_, ?_⟩
  ·exact Runs.ret (.nils _ .nil) rfl
  ·exact Runs.ret_refl
 | cons b B =>
  simp only [List.length_cons] at h
  simp +decide (disch := first | omega | (simp only [ll]; omega)) only [Tryz.f59, intA, if_pos, go_sem]
  exact Runs.ret_refl
def ioAnn : Ann := [(0, [1, 2, 3, 10, 11, 12])]
def ioS1 : Sched := .take 0 (.take 2 (.take 4 (.take 6 (.take 9 (.take 10 (.take 13 (.take 16 (.lds 384 [1, 3, 5, 7, 11, 14, 17] (.alt 8 (.alt 12 (.alt 15 (.alt 18 (.alt 19 (.take 20 (.alt 21 .fin .nil)) .nil) .nil) .nil) .nil) .nil)))))))))
def ioS2 : Sched := .take 0 (.take 3 (.take 6 (.take 9 (.take 10 (.alt 1 (.alt 2 (.alt 4 (.alt 5 (.alt 7 (.alt 8 (.alt 11 (.take 13 (.alt 12 (.alt 14 (.take 15 (.alt 16 (.take 17 (.alt 18 (.take 19 (.take 20 (.alt 21 .fin .nil))) .nil)) .nil)) .nil) .nil)) .nil) (.alt 11 (.take 13 (.alt 8 (.alt 12 (.alt 14 (.take 15 (.alt 16 (.take 17 (.alt 18 (.take 19 (.take 20 (.alt 21 .fin .nil))) .nil)) .nil)) .nil) .nil) .nil)) .nil)) (.alt 11 (.alt 7 (.take 13 (.alt 8 (.alt 12 (.alt 14 (.take 15 (.alt 16 (.take 17 (.alt 18 (.take 19 (.take 20 (.alt 21 .fin .nil))) .nil)) .nil)) .nil) .nil) .nil)) .nil) .nil)) (.alt 7 (.alt 5 (.alt 8 (.alt 11 (.take 13 (.alt 12 (.alt 14 (.take 15 (.alt 16 (.take 17 (.alt 18 (.take 19 (.take 20 (.alt 21 .fin .nil))) .nil)) .nil)) .nil) .nil)) .nil) (.alt 11 (.take 13 (.alt 8 (.alt 12 (.alt 14 (.take 15 (.alt 16 (.take 17 (.alt 18 (.take 19 (.take 20 (.alt 21 .fin .nil))) .nil)) .nil)) .nil) .nil) .nil)) .nil)) (.alt 11 (.take 13 (.alt 5 (.alt 8 (.alt 12 (.alt 14 (.take 15 (.alt 16 (.take 17 (.alt 18 (.take 19 (.take 20 (.alt 21 .fin .nil))) .nil)) .nil)) .nil) .nil) .nil) .nil)) .nil)) (.alt 11 (.alt 5 (.alt 7 (.take 13 (.alt 8 (.alt 12 (.alt 14 (.take 15 (.alt 16 (.take 17 (.alt 18 (.take 19 (.take 20 (.alt 21 .fin .nil))) .nil)) .nil)) .nil) .nil) .nil)) .nil) (.alt 7 (.take 13 (.alt 5 (.alt 8 (.alt 12 (.alt 14 (.take 15 (.alt 16 (.take 17 (.alt 18 (.take 19 (.take 20 (.alt 21 .fin .nil))) .nil)) .nil)) .nil) .nil) .nil) .nil)) .nil)) .nil))) (.alt 7 (.alt 4 (.alt 5 (.alt 8 (.alt 11 (.take 13 (.alt 12 (.alt 14 (.take 15 (.alt 16 (.take 17 (.alt 18 (.take 19 (.take 20 (.alt 21 .fin .nil))) .nil)) .nil)) .nil) .nil)) .nil) (.alt 11 (.take 13 (.alt 8 (.alt 12 (.alt 14 (.take 15 (.alt 16 (.take 17 (.alt 18 (.take 19 (.take 20 (.alt 21 .fin .nil))) .nil)) .nil)) .nil) .nil) .nil)) .nil)) (.alt 11 (.take 13 (.alt 5 (.alt 8 (.alt 12 (.alt 14 (.take 15 (.alt 16 (.take 17 (.alt 18 (.take 19 (.take 20 (.alt 21 .fin .nil))) .nil)) .nil)) .nil) .nil) .nil) .nil)) .nil)) (.alt 11 (.alt 4 (.take 13 (.alt 5 (.alt 8 (.alt 12 (.alt 14 (.take 15 (.alt 16 (.take 17 (.alt 18 (.take 19 (.take 20 (.alt 21 .fin .nil))) .nil)) .nil)) .nil) .nil) .nil) .nil)) .nil) .nil)) (.alt 11 (.alt 4 (.alt 5 (.alt 7 (.take 13 (.alt 8 (.alt 12 (.alt 14 (.take 15 (.alt 16 (.take 17 (.alt 18 (.take 19 (.take 20 (.alt 21 .fin .nil))) .nil)) .nil)) .nil) .nil) .nil)) .nil) (.alt 7 (.take 13 (.alt 5 (.alt 8 (.alt 12 (.alt 14 (.take 15 (.alt 16 (.take 17 (.alt 18 (.take 19 (.take 20 (.alt 21 .fin .nil))) .nil)) .nil)) .nil) .nil) .nil) .nil)) .nil)) (.alt 7 (.alt 4 (.take 13 (.alt 5 (.alt 8 (.alt 12 (.alt 14 (.take 15 (.alt 16 (.take 17 (.alt 18 (.take 19 (.take 20 (.alt 21 .fin .nil))) .nil)) .nil)) .nil) .nil) .nil) .nil)) .nil) .nil)) .nil))) (.alt 4 (.alt 2 (.alt 5 (.alt 7 (.alt 8 (.alt 11 (.take 13 (.alt 12 (.alt 14 (.take 15 (.alt 16 (.take 17 (.alt 18 (.take 19 (.take 20 (.alt 21 .fin .nil))) .nil)) .nil)) .nil) .nil)) .nil) (.alt 11 (.take 13 (.alt 8 (.alt 12 (.alt 14 (.take 15 (.alt 16 (.take 17 (.alt 18 (.take 19 (.take 20 (.alt 21 .fin .nil))) .nil)) .nil)) .nil) .nil) .nil)) .nil)) (.alt 11 (.alt 7 (.take 13 (.alt 8 (.alt 12 (.alt 14 (.take 15 (.alt 16 (.take 17 (.alt 18 (.take 19 (.take 20 (.alt 21 .fin .nil))) .nil)) .nil)) .nil) .nil) .nil)) .nil) .nil)) (.alt 7 (.alt 5 (.alt 8 (.alt 11 (.take 13 (.alt 12 (.alt 14 (.take 15 (.alt 16 (.take 17 (.alt 18 (.take 19 (.take 20 (.alt 21 .fin .nil))) .nil)) .nil)) .nil) .nil)) .nil) (.alt 11 (.take 13 (.alt 8 (.alt 12 (.alt 14 (.take 15 (.alt 16 (.take 17 (.alt 18 (.take 19 (.take 20 (.alt 21 .fin .nil))) .nil)) .nil)) .nil) .nil) .nil)) .nil)) (.alt 11 (.take 13 (.alt 5 (.alt 8 (.alt 12 (.alt 14 (.take 15 (.alt 16 (.take 17 (.alt 18 (.take 19 (.take 20 (.alt 21 .fin .nil))) .nil)) .nil)) .nil) .nil) .nil) .nil)) .nil)) (.alt 11 (.alt 5 (.alt 7 (.take 13 (.alt 8 (.alt 12 (.alt 14 (.take 15 (.alt 16 (.take 17 (.alt 18 (.take 19 (.take 20 (.alt 21 .fin .nil))) .nil)) .nil)) .nil) .nil) .nil)) .nil) (.alt 7 (.take 13 (.alt 5 (.alt 8 (.alt 12 (.alt 14 (.take 15 (.alt 16 (.take 17 (.alt 18 (.take 19 (.take 20 (.alt 21 .fin .nil))) .nil)) .nil)) .nil) .nil) .nil) .nil)) .nil)) .nil))) (.alt 7 (.alt 2 (.alt 5 (.alt 8 (.alt 11 (.take 13 (.alt 12 (.alt 14 (.take 15 (.alt 16 (.take 17 (.alt 18 (.take 19 (.take 20 (.alt 21 .fin .nil))) .nil)) .nil)) .nil) .nil)) .nil) (.alt 11 (.take 13 (.alt 8 (.alt 12 (.alt 14 (.take 15 (.alt 16 (.take 17 (.alt 18 (.take 19 (.take 20 (.alt 21 .fin .nil))) .nil)) .nil)) .nil) .nil) .nil)) .nil)) (.alt 11 (.take 13 (.alt 5 (.alt 8 (.alt 12 (.alt 14 (.take 15 (.alt 16 (.take 17 (.alt 18 (.take 19 (.take 20 (.alt 21 .fin .nil))) .nil)) .nil)) .nil) .nil) .nil) .nil)) .nil)) (.alt 11 (.alt 2 (.take 13 (.alt 5 (.alt 8 (.alt 12 (.alt 14 (.take 15 (.alt 16 (.take 17 (.alt 18 (.take 19 (.take 20 (.alt 21 .fin .nil))) .nil)) .nil)) .nil) .nil) .nil) .nil)) .nil) .nil)) (.alt 11 (.alt 2 (.alt 5 (.alt 7 (.take 13 (.alt 8 (.alt 12 (.alt 14 (.take 15 (.alt 16 (.take 17 (.alt 18 (.take 19 (.take 20 (.alt 21 .fin .nil))) .nil)) .nil)) .nil) .nil) .nil)) .nil) (.alt 7 (.take 13 (.alt 5 (.alt 8 (.alt 12 (.alt 14 (.take 15 (.alt 16 (.take 17 (.alt 18 (.take 19 (.take 20 (.alt 21 .fin .nil))) .nil)) .nil)) .nil) .nil) .nil) .nil)) .nil)) (.alt 7 (.alt 2 (.take 13 (.alt 5 (.alt 8 (.alt 12 (.alt 14 (.take 15 (.alt 16 (.take 17 (.alt 18 (.take 19 (.take 20 (.alt 21 .fin .nil))) .nil)) .nil)) .nil) .nil) .nil) .nil)) .nil) .nil)) .nil))) (.alt 7 (.alt 2 (.alt 4 (.alt 5 (.alt 8 (.alt 11 (.take 13 (.alt 12 (.alt 14 (.take 15 (.alt 16 (.take 17 (.alt 18 (.take 19 (.take 20 (.alt 21 .fin .nil))) .nil)) .nil)) .nil) .nil)) .nil) (.alt 11 (.take 13 (.alt 8 (.alt 12 (.alt 14 (.take 15 (.alt 16 (.take 17 (.alt 18 (.take 19 (.take 20 (.alt 21 .fin .nil))) .nil)) .nil)) .nil) .nil) .nil)) .nil)) (.alt 11 (.take 13 (.alt 5 (.alt 8 (.alt 12 (.alt 14 (.take 15 (.alt 16 (.take 17 (.alt 18 (.take 19 (.take 20 (.alt 21 .fin .nil))) .nil)) .nil)) .nil) .nil) .nil) .nil)) .nil)) (.alt 11 (.alt 4 (.take 13 (.alt 5 (.alt 8 (.alt 12 (.alt 14 (.take 15 (.alt 16 (.take 17 (.alt 18 (.take 19 (.take 20 (.alt 21 .fin .nil))) .nil)) .nil)) .nil) .nil) .nil) .nil)) .nil) .nil)) (.alt 4 (.alt 2 (.alt 5 (.alt 8 (.alt 11 (.take 13 (.alt 12 (.alt 14 (.take 15 (.alt 16 (.take 17 (.alt 18 (.take 19 (.take 20 (.alt 21 .fin .nil))) .nil)) .nil)) .nil) .nil)) .nil) (.alt 11 (.take 13 (.alt 8 (.alt 12 (.alt 14 (.take 15 (.alt 16 (.take 17 (.alt 18 (.take 19 (.take 20 (.alt 21 .fin .nil))) .nil)) .nil)) .nil) .nil) .nil)) .nil)) (.alt 11 (.take 13 (.alt 5 (.alt 8 (.alt 12 (.alt 14 (.take 15 (.alt 16 (.take 17 (.alt 18 (.take 19 (.take 20 (.alt 21 .fin .nil))) .nil)) .nil)) .nil) .nil) .nil) .nil)) .nil)) (.alt 11 (.alt 2 (.take 13 (.alt 5 (.alt 8 (.alt 12 (.alt 14 (.take 15 (.alt 16 (.take 17 (.alt 18 (.take 19 (.take 20 (.alt 21 .fin .nil))) .nil)) .nil)) .nil) .nil) .nil) .nil)) .nil) .nil)) (.alt 11 (.alt 2 (.alt 4 (.take 13 (.alt 5 (.alt 8 (.alt 12 (.alt 14 (.take 15 (.alt 16 (.take 17 (.alt 18 (.take 19 (.take 20 (.alt 21 .fin .nil))) .nil)) .nil)) .nil) .nil) .nil) .nil)) .nil) (.alt 4 (.alt 2 (.take 13 (.alt 5 (.alt 8 (.alt 12 (.alt 14 (.take 15 (.alt 16 (.take 17 (.alt 18 (.take 19 (.take 20 (.alt 21 .fin .nil))) .nil)) .nil)) .nil) .nil) .nil) .nil)) .nil) .nil)) .nil))) (.alt 11 (.alt 2 (.alt 4 (.alt 5 (.alt 7 (.take 13 (.alt 8 (.alt 12 (.alt 14 (.take 15 (.alt 16 (.take 17 (.alt 18 (.take 19 (.take 20 (.alt 21 .fin .nil))) .nil)) .nil)) .nil) .nil) .nil)) .nil) (.alt 7 (.take 13 (.alt 5 (.alt 8 (.alt 12 (.alt 14 (.take 15 (.alt 16 (.take 17 (.alt 18 (.take 19 (.take 20 (.alt 21 .fin .nil))) .nil)) .nil)) .nil) .nil) .nil) .nil)) .nil)) (.alt 7 (.alt 4 (.take 13 (.alt 5 (.alt 8 (.alt 12 (.alt 14 (.take 15 (.alt 16 (.take 17 (.alt 18 (.take 19 (.take 20 (.alt 21 .fin .nil))) .nil)) .nil)) .nil) .nil) .nil) .nil)) .nil) .nil)) (.alt 4 (.alt 2 (.alt 5 (.alt 7 (.take 13 (.alt 8 (.alt 12 (.alt 14 (.take 15 (.alt 16 (.take 17 (.alt 18 (.take 19 (.take 20 (.alt 21 .fin .nil))) .nil)) .nil)) .nil) .nil) .nil)) .nil) (.alt 7 (.take 13 (.alt 5 (.alt 8 (.alt 12 (.alt 14 (.take 15 (.alt 16 (.take 17 (.alt 18 (.take 19 (.take 20 (.alt 21 .fin .nil))) .nil)) .nil)) .nil) .nil) .nil) .nil)) .nil)) (.alt 7 (.alt 2 (.take 13 (.alt 5 (.alt 8 (.alt 12 (.alt 14 (.take 15 (.alt 16 (.take 17 (.alt 18 (.take 19 (.take 20 (.alt 21 .fin .nil))) .nil)) .nil)) .nil) .nil) .nil) .nil)) .nil) .nil)) (.alt 7 (.alt 2 (.alt 4 (.take 13 (.alt 5 (.alt 8 (.alt 12 (.alt 14 (.take 15 (.alt 16 (.take 17 (.alt 18 (.take 19 (.take 20 (.alt 21 .fin .nil))) .nil)) .nil)) .nil) .nil) .nil) .nil)) .nil) (.alt 4 (.alt 2 (.take 13 (.alt 5 (.alt 8 (.alt 12 (.alt 14 (.take 15 (.alt 16 (.take 17 (.alt 18 (.take 19 (.take 20 (.alt 21 .fin .nil))) .nil)) .nil)) .nil) .nil) .nil) .nil)) .nil) .nil)) .nil))) .nil)))) (.alt 4 (.alt 1 (.alt 2 (.alt 5 (.alt 7 (.alt 8 (.alt 11 (.take 13 (.alt 12 (.alt 14 (.take 15 (.alt 16 (.take 17 (.alt 18 (.take 19 (.take 20 (.alt 21 .fin .nil))) .nil)) .nil)) .nil) .nil)) .nil) (.alt 11 (.take 13 (.alt 8 (.alt 12 (.alt 14 (.take 15 (.alt 16 (.take 17 (.alt 18 (.take 19 (.take 20 (.alt 21 .fin .nil))) .nil)) .nil)) .nil) .nil) .nil)) .nil)) (.alt 11 (.alt 7 (.take 13 (.alt 8 (.alt 12 (.alt 14 (.take 15 (.alt 16 (.take 17 (.alt 18 (.take 19 (.take 20 (.alt 21 .fin .nil))) .nil)) .nil)) .nil) .nil) .nil)) .nil) .nil)) (.alt 7 (.alt 5 (.alt 8 (.alt 11 (.take 13 (.alt 12 (.alt 14 (.take 15 (.alt 16 (.take 17 (.alt 18 (.take 19 (.take 20 (.alt 21 .fin .nil))) .nil)) .nil)) .nil) .nil)) .nil) (.alt 11 (.take 13 (.alt 8 (.alt 12 (.alt 14 (.take 15 (.alt 16 (.take 17 (.alt 18 (.take 19 (.take 20 (.alt 21 .fin .nil))) .nil)) .nil)) .nil) .nil) .nil)) .nil)) (.alt 11 (.take 13 (.alt 5 (.alt 8 (.alt 12 (.alt 14 (.take 15 (.alt 16 (.take 17 (.alt 18 (.take 19 (.take 20 (.alt 21 .fin .nil))) .nil)) .nil)) .nil) .nil) .nil) .nil)) .nil)) (.alt 11 (.alt 5 (.alt 7 (.take 13 (.alt 8 (.alt 12 (.alt 14 (.take 15 (.alt 16 (.take 17 (.alt 18 (.take 19 (.take 20 (.alt 21 .fin .nil))) .nil)) .nil)) .nil) .nil) .nil)) .nil) (.alt 7 (.take 13 (.alt 5 (.alt 8 (.alt 12 (.alt 14 (.take 15 (.alt 16 (.take 17 (.alt 18 (.take 19 (.take 20 (.alt 21 .fin .nil))) .nil)) .nil)) .nil) .nil) .nil) .nil)) .nil)) .nil))) (.alt 7 (.alt 2 (.alt 5 (.alt 8 (.alt 11 (.take 13 (.alt 12 (.alt 14 (.take 15 (.alt 16 (.take 17 (.alt 18 (.take 19 (.take 20 (.alt 21 .fin .nil))) .nil)) .nil)) .nil) .nil)) .nil) (.alt 11 (.take 13 (.alt 8 (.alt 12 (.alt 14 (.take 15 (.alt 16 (.take 17 (.alt 18 (.take 19 (.take 20 (.alt 21 .fin .nil))) .nil)) .nil)) .nil) .nil) .nil)) .nil)) (.alt 11 (.take 13 (.alt 5 (.alt 8 (.alt 12 (.alt 14 (.take 15 (.alt 16 (.take 17 (.alt 18 (.take 19 (.take 20 (.alt 21 .fin .nil))) .nil)) .nil)) .nil) .nil) .nil) .nil)) .nil)) (.alt 11 (.alt 2 (.take 13 (.alt 5 (.alt 8 (.alt 12 (.alt 14 (.take 15 (.alt 16 (.take 17 (.alt 18 (.take 19 (.take 20 (.alt 21 .fin .nil))) .nil)) .nil)) .nil) .nil) .nil) .nil)) .nil) .nil)) (.alt 11 (.alt 2 (.alt 5 (.alt 7 (.take 13 (.alt 8 (.alt 12 (.alt 14 (.take 15 (.alt 16 (.take 17 (.alt 18 (.take 19 (.take 20 (.alt 21 .fin .nil))) .nil)) .nil)) .nil) .nil) .nil)) .nil) (.alt 7 (.take 13 (.alt 5 (.alt 8 (.alt 12 (.alt 14 (.take 15 (.alt 16 (.take 17 (.alt 18 (.take 19 (.take 20 (.alt 21 .fin .nil))) .nil)) .nil)) .nil) .nil) .nil) .nil)) .nil)) (.alt 7 (.alt 2 (.take 13 (.alt 5 (.alt 8 (.alt 12 (.alt 14 (.take 15 (.alt 16 (.take 17 (.alt 18 (.take 19 (.take 20 (.alt 21 .fin .nil))) .nil)) .nil)) .nil) .nil) .nil) .nil)) .nil) .nil)) .nil))) (.alt 7 (.alt 1 (.alt 2 (.alt 5 (.alt 8 (.alt 11 (.take 13 (.alt 12 (.alt 14 (.take 15 (.alt 16 (.take 17 (.alt 18 (.take 19 (.take 20 (.alt 21 .fin .nil))) .nil)) .nil)) .nil) .nil)) .nil) (.alt 11 (.take 13 (.alt 8 (.alt 12 (.alt 14 (.take 15 (.alt 16 (.take 17 (.alt 18 (.take 19 (.take 20 (.alt 21 .fin .nil))) .nil)) .nil)) .nil) .nil) .nil)) .nil)) (.alt 11 (.take 13 (.alt 5 (.alt 8 (.alt 12 (.alt 14 (.take 15 (.alt 16 (.take 17 (.alt 18 (.take 19 (.take 20 (.alt 21 .fin .nil))) .nil)) .nil)) .nil) .nil) .nil) .nil)) .nil)) (.alt 11 (.alt 2 (.take 13 (.alt 5 (.alt 8 (.alt 12 (.alt 14 (.take 15 (.alt 16 (.take 17 (.alt 18 (.take 19 (.take 20 (.alt 21 .fin .nil))) .nil)) .nil)) .nil) .nil) .nil) .nil)) .nil) .nil)) (.alt 11 (.alt 1 (.alt 2 (.take 13 (.alt 5 (.alt 8 (.alt 12 (.alt 14 (.take 15 (.alt 16 (.take 17 (.alt 18 (.take 19 (.take 20 (.alt 21 .fin .nil))) .nil)) .nil)) .nil) .nil) .nil) .nil)) .nil) .nil) .nil)) (.alt 11 (.alt 1 (.alt 2 (.alt 5 (.alt 7 (.take 13 (.alt 8 (.alt 12 (.alt 14 (.take 15 (.alt 16 (.take 17 (.alt 18 (.take 19 (.take 20 (.alt 21 .fin .nil))) .nil)) .nil)) .nil) .nil) .nil)) .nil) (.alt 7 (.take 13 (.alt 5 (.alt 8 (.alt 12 (.alt 14 (.take 15 (.alt 16 (.take 17 (.alt 18 (.take 19 (.take 20 (.alt 21 .fin .nil))) .nil)) .nil)) .nil) .nil) .nil) .nil)) .nil)) (.alt 7 (.alt 2 (.take 13 (.alt 5 (.alt 8 (.alt 12 (.alt 14 (.take 15 (.alt 16 (.take 17 (.alt 18 (.take 19 (.take 20 (.alt 21 .fin .nil))) .nil)) .nil)) .nil) .nil) .nil) .nil)) .nil) .nil)) (.alt 7 (.alt 1 (.alt 2 (.take 13 (.alt 5 (.alt 8 (.alt 12 (.alt 14 (.take 15 (.alt 16 (.take 17 (.alt 18 (.take 19 (.take 20 (.alt 21 .fin .nil))) .nil)) .nil)) .nil) .nil) .nil) .nil)) .nil) .nil) .nil)) .nil))) (.alt 7 (.alt 1 (.alt 2 (.alt 4 (.alt 5 (.alt 8 (.alt 11 (.take 13 (.alt 12 (.alt 14 (.take 15 (.alt 16 (.take 17 (.alt 18 (.take 19 (.take 20 (.alt 21 .fin .nil))) .nil)) .nil)) .nil) .nil)) .nil) (.alt 11 (.take 13 (.alt 8 (.alt 12 (.alt 14 (.take 15 (.alt 16 (.take 17 (.alt 18 (.take 19 (.take 20 (.alt 21 .fin .nil))) .nil)) .nil)) .nil) .nil) .nil)) .nil)) (.alt 11 (.take 13 (.alt 5 (.alt 8 (.alt 12 (.alt 14 (.take 15 (.alt 16 (.take 17 (.alt 18 (.take 19 (.take 20 (.alt 21 .fin .nil))) .nil)) .nil)) .nil) .nil) .nil) .nil)) .nil)) (.alt 11 (.alt 4 (.take 13 (.alt 5 (.alt 8 (.alt 12 (.alt 14 (.take 15 (.alt 16 (.take 17 (.alt 18 (.take 19 (.take 20 (.alt 21 .fin .nil))) .nil)) .nil)) .nil) .nil) .nil) .nil)) .nil) .nil)) (.alt 4 (.alt 2 (.alt 5 (.alt 8 (.alt 11 (.take 13 (.alt 12 (.alt 14 (.take 15 (.alt 16 (.take 17 (.alt 18 (.take 19 (.take 20 (.alt 21 .fin .nil))) .nil)) .nil)) .nil) .nil)) .nil) (.alt 11 (.take 13 (.alt 8 (.alt 12 (.alt 14 (.take 15 (.alt 16 (.take 17 (.alt 18 (.take 19 (.take 20 (.alt 21 .fin .nil))) .nil)) .nil)) .nil) .nil) .nil)) .nil)) (.alt 11 (.take 13 (.alt 5 (.alt 8 (.alt 12 (.alt 14 (.take 15 (.alt 16 (.take 17 (.alt 18 (.take 19 (.take 20 (.alt 21 .fin .nil))) .nil)) .nil)) .nil) .nil) .nil) .nil)) .nil)) (.alt 11 (.alt 2 (.take 13 (.alt 5 (.alt 8 (.alt 12 (.alt 14 (.take 15 (.alt 16 (.take 17 (.alt 18 (.take 19 (.take 20 (.alt 21 .fin .nil))) .nil)) .nil)) .nil) .nil) .nil) .nil)) .nil) .nil)) (.alt 11 (.alt 2 (.alt 4 (.take 13 (.alt 5 (.alt 8 (.alt 12 (.alt 14 (.take 15 (.alt 16 (.take 17 (.alt 18 (.take 19 (.take 20 (.alt 21 .fin .nil))) .nil)) .nil)) .nil) .nil) .nil) .nil)) .nil) (.alt 4 (.alt 2 (.take 13 (.alt 5 (.alt 8 (.alt 12 (.alt 14 (.take 15 (.alt 16 (.take 17 (.alt 18 (.take 19 (.take 20 (.alt 21 .fin .nil))) .nil)) .nil)) .nil) .nil) .nil) .nil)) .nil) .nil)) .nil))) (.alt 4 (.alt 1 (.alt 2 (.alt 5 (.alt 8 (.alt 11 (.take 13 (.alt 12 (.alt 14 (.take 15 (.alt 16 (.take 17 (.alt 18 (.take 19 (.take 20 (.alt 21 .fin .nil))) .nil)) .nil)) .nil) .nil)) .nil) (.alt 11 (.take 13 (.alt 8 (.alt 12 (.alt 14 (.take 15 (.alt 16 (.take 17 (.alt 18 (.take 19 (.take 20 (.alt 21 .fin .nil))) .nil)) .nil)) .nil) .nil) .nil)) .nil)) (.alt 11 (.take 13 (.alt 5 (.alt 8 (.alt 12 (.alt 14 (.take 15 (.alt 16 (.take 17 (.alt 18 (.take 19 (.take 20 (.alt 21 .fin .nil))) .nil)) .nil)) .nil) .nil) .nil) .nil)) .nil)) (.alt 11 (.alt 2 (.take 13 (.alt 5 (.alt 8 (.alt 12 (.alt 14 (.take 15 (.alt 16 (.take 17 (.alt 18 (.take 19 (.take 20 (.alt 21 .fin .nil))) .nil)) .nil)) .nil) .nil) .nil) .nil)) .nil) .nil)) (.alt 11 (.alt 1 (.alt 2 (.take 13 (.alt 5 (.alt 8 (.alt 12 (.alt 14 (.take 15 (.alt 16 (.take 17 (.alt 18 (.take 19 (.take 20 (.alt 21 .fin .nil))) .nil)) .nil)) .nil) .nil) .nil) .nil)) .nil) .nil) .nil)) (.alt 11 (.alt 1 (.alt 2 (.alt 4 (.take 13 (.alt 5 (.alt 8 (.alt 12 (.alt 14 (.take 15 (.alt 16 (.take 17 (.alt 18 (.take 19 (.take 20 (.alt 21 .fin .nil))) .nil)) .nil)) .nil) .nil) .nil) .nil)) .nil) (.alt 4 (.alt 2 (.take 13 (.alt 5 (.alt 8 (.alt 12 (.alt 14 (.take 15 (.alt 16 (.take 17 (.alt 18 (.take 19 (.take 20 (.alt 21 .fin .nil))) .nil)) .nil)) .nil) .nil) .nil) .nil)) .nil) .nil)) (.alt 4 (.alt 1 (.alt 2 (.take 13 (.alt 5 (.alt 8 (.alt 12 (.alt 14 (.take 15 (.alt 16 (.take 17 (.alt 18 (.take 19 (.take 20 (.alt 21 .fin .nil))) .nil)) .nil)) .nil) .nil) .nil) .nil)) .nil) .nil) .nil)) .nil))) (.alt 11 (.alt 1 (.alt 2 (.alt 4 (.alt 5 (.alt 7 (.take 13 (.alt 8 (.alt 12 (.alt 14 (.take 15 (.alt 16 (.take 17 (.alt 18 (.take 19 (.take 20 (.alt 21 .fin .nil))) .nil)) .nil)) .nil) .nil) .nil)) .nil) (.alt 7 (.take 13 (.alt 5 (.alt 8 (.alt 12 (.alt 14 (.take 15 (.alt 16 (.take 17 (.alt 18 (.take 19 (.take 20 (.alt 21 .fin .nil))) .nil)) .nil)) .nil) .nil) .nil) .nil)) .nil)) (.alt 7 (.alt 4 (.take 13 (.alt 5 (.alt 8 (.alt 12 (.alt 14 (.take 15 (.alt 16 (.take 17 (.alt 18 (.take 19 (.take 20 (.alt 21 .fin .nil))) .nil)) .nil)) .nil) .nil) .nil) .nil)) .nil) .nil)) (.alt 4 (.alt 2 (.alt 5 (.alt 7 (.take 13 (.alt 8 (.alt 12 (.alt 14 (.take 15 (.alt 16 (.take 17 (.alt 18 (.take 19 (.take 20 (.alt 21 .fin .nil))) .nil)) .nil)) .nil) .nil) .nil)) .nil) (.alt 7 (.take 13 (.alt 5 (.alt 8 (.alt 12 (.alt 14 (.take 15 (.alt 16 (.take 17 (.alt 18 (.take 19 (.take 20 (.alt 21 .fin .nil))) .nil)) .nil)) .nil) .nil) .nil) .nil)) .nil)) (.alt 7 (.alt 2 (.take 13 (.alt 5 (.alt 8 (.alt 12 (.alt 14 (.take 15 (.alt 16 (.take 17 (.alt 18 (.take 19 (.take 20 (.alt 21 .fin .nil))) .nil)) .nil)) .nil) .nil) .nil) .nil)) .nil) .nil)) (.alt 7 (.alt 2 (.alt 4 (.take 13 (.alt 5 (.alt 8 (.alt 12 (.alt 14 (.take 15 (.alt 16 (.take 17 (.alt 18 (.take 19 (.take 20 (.alt 21 .fin .nil))) .nil)) .nil)) .nil) .nil) .nil) .nil)) .nil) (.alt 4 (.alt 2 (.take 13 (.alt 5 (.alt 8 (.alt 12 (.alt 14 (.take 15 (.alt 16 (.take 17 (.alt 18 (.take 19 (.take 20 (.alt 21 .fin .nil))) .nil)) .nil)) .nil) .nil) .nil) .nil)) .nil) .nil)) .nil))) (.alt 4 (.alt 1 (.alt 2 (.alt 5 (.alt 7 (.take 13 (.alt 8 (.alt 12 (.alt 14 (.take 15 (.alt 16 (.take 17 (.alt 18 (.take 19 (.take 20 (.alt 21 .fin .nil))) .nil)) .nil)) .nil) .nil) .nil)) .nil) (.alt 7 (.take 13 (.alt 5 (.alt 8 (.alt 12 (.alt 14 (.take 15 (.alt 16 (.take 17 (.alt 18 (.take 19 (.take 20 (.alt 21 .fin .nil))) .nil)) .nil)) .nil) .nil) .nil) .nil)) .nil)) (.alt 7 (.alt 2 (.take 13 (.alt 5 (.alt 8 (.alt 12 (.alt 14 (.take 15 (.alt 16 (.take 17 (.alt 18 (.take 19 (.take 20 (.alt 21 .fin .nil))) .nil)) .nil)) .nil) .nil) .nil) .nil)) .nil) .nil)) (.alt 7 (.alt 1 (.alt 2 (.take 13 (.alt 5 (.alt 8 (.alt 12 (.alt 14 (.take 15 (.alt 16 (.take 17 (.alt 18 (.take 19 (.take 20 (.alt 21 .fin .nil))) .nil)) .nil)) .nil) .nil) .nil) .nil)) .nil) .nil) .nil)) (.alt 7 (.alt 1 (.alt 2 (.alt 4 (.take 13 (.alt 5 (.alt 8 (.alt 12 (.alt 14 (.take 15 (.alt 16 (.take 17 (.alt 18 (.take 19 (.take 20 (.alt 21 .fin .nil))) .nil)) .nil)) .nil) .nil) .nil) .nil)) .nil) (.alt 4 (.alt 2 (.take 13 (.alt 5 (.alt 8 (.alt 12 (.alt 14 (.take 15 (.alt 16 (.take 17 (.alt 18 (.take 19 (.take 20 (.alt 21 .fin .nil))) .nil)) .nil)) .nil) .nil) .nil) .nil)) .nil) .nil)) (.alt 4 (.alt 1 (.alt 2 (.take 13 (.alt 5 (.alt 8 (.alt 12 (.alt 14 (.take 15 (.alt 16 (.take 17 (.alt 18 (.take 19 (.take 20 (.alt 21 .fin .nil))) .nil)) .nil)) .nil) .nil) .nil) .nil)) .nil) .nil) .nil)) .nil))) .nil))))))))
attribute [local go_sem] ioS1 ioS2
def ioSt (c : GCert) (i : Nat) : St := ⟨[.any, .ref (.l 0) 0 0 1, .ref (.l 1) 0 0 1, .ms (.l 2) 0 i i, .any, .any, .any, .any, .any, .any, .sl .sh (c.ne.map rowS), .v (.int .i64 c.ne.length), .v (.int .i64 i), .any, .any, .any, .any, .any, .any, .any, .any, .any, .any, .any, .any, .any, .any, .any, .any, .any, .any, .any, .any, .any, .any, .any, .any, .any, .any, .any, .any, .any, .any, .any, .any, .any, .any, .any, .any, .any, .any, .any, .any, .any, .any, .any, .any, .any, .any, .any, .any, .any, .any, .any], [(0, ⟨true, 34, true, [certA c]⟩), (1, ⟨true, 34, true, [certZ]⟩), (2, ⟨true, 1, false, mpre rowO c.ne i⟩)], []⟩
set_option maxHeartbeats 16000000 in
include hm in
theorem iOwnC (c : GCert) (fit : CertFit c) : Holds Tryz.prog 32 [certA c] [] (certO c) [] := by
 obtain ⟨⟨i1, i2⟩, ⟨j1, j2⟩, kn, ⟨f1, f2, f3, f4, f5, f6⟩, s1, s2, s3, g1⟩ := fit
 refine holds_of (ann := ioAnn) tabOk hm Tryz.func32 (by kernel_rfl) rfl ?_
 have hl0 : (c.ne.map rowS).length = c.ne.length := List.length_map _
 simp +decide (maxSteps := 9^7) only [↓reduceIte, Tryz.f32, hl0, go_sem]
 refine Runs.while (α := Nat) (ioSt c) (fun i => c.ne.length - i) (fun i => i ≤ c.ne.length) 0 (by omega) ?_ ?_
 ·simp [go_sem, ioAnn, ioSt, mpre_zero]
 ·intro i hi ih
  have hlen := mpre_length rowO hi
  simp +decide (maxSteps := 9^7) only [↓reduceIte, ioSt, hl0, go_sem]
  refine Runs.split (fun h => ?_) (fun h => ?_)
  ·have hlt : i < c.ne.length := by simpa using h
   have hg : (c.ne.map rowS).getD i .any = .sl .sh (c.ne[i].map intA) := by simp [List.getD, hlt, rowS]
   have hn := f3 c.ne[i] (List.getElem_mem hlt)
   have d1 : decide (0 ≤ (i : Int) ∧ (i : Int) < c.ne.length) = true := by simp; omega
   have w1 : IntKind.i64.wrap ((i : Int) + 1) = i + 1 := wrap_i64 (by omega) (by omega)
   have hd : decide (i + 1 ≤ 1073741824) = true := by simp; omega
   simp +decide (maxSteps := 9^7) only [↓reduceIte, hlen, hl0, hg, d1, Int.toNat_natCast, go_sem]
   refine Runs.call (cloneIn hm c.ne[i] hn) ?_
   simp +decide (maxSteps := 9^7) only [↓reduceIte, hlen, hl0, w1, hd, List.length_map, go_sem]
   refine ih (i + 1) _ (by omega) hlt ?_
   simp [go_sem, ioAnn, ioSt, mpre_succ _ hlt, rowO]
  ·have hge : i = c.ne.length := by simp at h; omega
   subst hge
   rw [mpre_all]
   have k1 := cloneSt hm c.ho (by omega)
   have k2 := cloneSt hm c.al (by omega)
   have k3 := cloneSt hm c.de (by omega)
   have k4 := cloneIn hm c.pu (by omega)
   have k5 := cloneSt hm c.issuer i1
   have k6 := cloneSt hm c.subject j1
   have k7 := cloneB hm c.sig (by omega)
   have k8 := cloneIn hm c.key.N kn
   simp +decide (maxSteps := 9^7) only [↓reduceIte, List.length_map, go_sem]
   refine Runs.draw (st1 := ?s1) (draws_by (ann := ioAnn) tabOk ioS1 (by kernel_rfl) ?p1) ?q1
   case p1 =>
    intro K r X hK
    simp +decide (maxSteps := 9^7) only [↓reduceIte, List.length_map, go_sem]
    repeat' (first | exact hK | apply And.intro | (refine Runs.call k1 ?_; simp +decide (maxSteps := 9^7) only [↓reduceIte, List.length_map, go_sem]) | (refine Runs.call k2 ?_; simp +decide (maxSteps := 9^7) only [↓reduceIte, List.length_map, go_sem]) | (refine Runs.call k3 ?_; simp +decide (maxSteps := 9^7) only [↓reduceIte, List.length_map, go_sem]) | (refine Runs.call k4 ?_; simp +decide (maxSteps := 9^7) only [↓reduceIte, List.length_map, go_sem]))
   case q1 =>
    simp +decide (maxSteps := 9^7) only [↓reduceIte, List.length_map, go_sem]
    refine Runs.draw (st1 := ?s2) (draws_by (ann := ioAnn) tabOk ioS2 (by kernel_rfl) ?p2) ?q2
    case p2 =>
     intro K r X hK
     simp +decide (maxSteps := 9^7) only [↓reduceIte, List.length_map, go_sem]
     repeat' (first | exact hK | apply And.intro | (refine Runs.call k5 ?_; simp +decide (maxSteps := 9^7) only [↓reduceIte, List.length_map, go_sem]) | (refine Runs.call k6 ?_; simp +decide (maxSteps := 9^7) only [↓reduceIte, List.length_map, go_sem]) | (refine Runs.call k7 ?_; simp +decide (maxSteps := 9^7) only [↓reduceIte, List.length_map, go_sem]) | (refine Runs.call k8 ?_; simp +decide (maxSteps := 9^7) only [↓reduceIte, List.length_map, go_sem]))
    case q2 =>
     simp +decide (maxSteps := 9^7) only [↓reduceIte, List.length_map, certO, go_sem]
     exact Runs.ret_refl
end Go.Proofs.W

namespace Go.Proofs.W
open Go Go.AM Go.Proofs.G
set_option maxRecDepth 10000
variable (hm : Tryz.prog.follows .mixedOrders = true)
attribute [local go_sem] rowS_plain rowS_dn rowO_dn certsA_dn certsO_dn certsO_md rowO_md certA_plain certA_dn
noncomputable def okCs (L : List GCert) (m : Int) : Bool := decide ((L.length : Int) ≤ m) && L.all certB
def srcC (po an : List GCert) (P : List Int) (i : Nat) : List GCert := if i + 1 = P.length then an else po
def stepC (po an : List GCert) (P : List Int) (i : Nat) : Bool := inB (P.getD i 0) 0 ((srcC po an P i).length - 1)
def pathB (po an : List GCert) (P : List Int) : Bool := inB P.length 1 5 && (List.range P.length).all (stepC po an P)
def chL (lf : GCert) (po an : List GCert) (P : List Int) (i : Nat) : List GCert := lf :: (List.range i).map fun j => (srcC po an P j).getD (P.getD j 0).toNat lf
theorem chL_succ (lf : GCert) (po an : List GCert) (P : List Int) (i : Nat) : chL lf po an P (i + 1) = chL lf po an P i ++ [(srcC po an P i).getD (P.getD i 0).toNat lf] := by
 simp [chL, List.range_succ]
theorem chL_len (lf : GCert) (po an : List GCert) (P : List Int) (i : Nat) : (chL lf po an P i).length = i + 1 := by simp [chL]
theorem getD_fit {L : List GCert} {lf : GCert} (n : Nat) (h1 : CertFit lf) (h2 : ∀ c ∈ L, CertFit c) : CertFit (L.getD n lf) := by
 by_cases h : n < L.length
 ·have := h2 L[n] (List.getElem_mem h)
  simpa [List.getD, h] using this
 ·simpa [List.getD, h] using h1
theorem chL_fit {lf : GCert} {po an : List GCert} {P : List Int} {i : Nat} (h1 : CertFit lf) (h2 : ∀ c ∈ po, CertFit c) (h3 : ∀ c ∈ an, CertFit c) : ∀ c ∈ chL lf po an P i, CertFit c := by
 intro c hc
 rcases List.mem_cons.1 hc with rfl | hc
 ·exact h1
 ·obtain ⟨j, _, rfl⟩ := List.mem_map.1 hc
  unfold srcC
  split
  ·exact getD_fit _ h1 h3
  ·exact getD_fit _ h1 h2
noncomputable def handB (lf : GCert) (po an : List GCert) : Bool := certB lf && okCs po 8 && okCs an 4
noncomputable def chOk (lf : GCert) (po an : List GCert) (P : List Int) : Bool := handB lf po an && pathB po an P
noncomputable def chV (lf : GCert) (po an : List GCert) (P : List Int) : List GCert := if chOk lf po an P = true then chL lf po an P P.length else []
theorem chV_no {lf : GCert} {po an : List GCert} {P : List Int} (h : chOk lf po an P = false) : chV lf po an P = [] := by rw [chV, h]; rfl
theorem step_no {po an : List GCert} {P : List Int} {i : Nat} (hi : i < P.length) (h : stepC po an P i = false) : pathB po an P = false := by
 have : (List.range P.length).all (stepC po an P) = false := by
  rw [Bool.eq_false_iff]
  intro h2
  rw [List.all_eq_true] at h2
  rw [h2 i (List.mem_range.2 hi)] at h
  exact Bool.noConfusion h
 rw [pathB, this, Bool.and_false]
theorem all_range_succ {p : Nat → Bool} {i : Nat} (h : (List.range i).all p = true) (h2 : p i = true) : (List.range (i + 1)).all p = true := by
 rw [List.range_succ, List.all_append, h]
 simp [h2]
theorem src_get {L : List GCert} {lf : GCert} {p : Int} (h : inB p 0 (L.length - 1) = true) : (L.map certA).getD p.toNat .any = certA (L.getD p.toNat lf) ∧ decide (0 ≤ p ∧ p < (L.length : Int)) = true := by
 simp only [inB, Bool.and_eq_true, decide_eq_true_eq] at h
 have hl : p.toNat < L.length := by omega
 exact ⟨by simp [List.getD, hl], by simp; omega⟩
def icAnnD : Ann := [(0, [0, 1, 7, 8])]
def icStD (f : A) (L : List GCert) (i : Nat) : St := ⟨[.sl .sh (L.map certA), f, .any, .any, .any, .any, .any, .v (.int .i64 L.length), .v (.int .i64 i), .any, .any, .any, .any, .any, .any, .any, .any, .any, .any], [], []⟩
set_option maxHeartbeats 4000000 in
include hm in
theorem indexFuncCD (g : Nat) (L : List GCert) (q : GCert → Bool) (h : L.length ≤ 1048576) (hq : ∀ c ∈ L, Holds Tryz.prog g [certA c] [] (.v (.bool (q c))) []) :
  ∃ n : Int, decide (n ≥ 0) = L.any q ∧ Holds Tryz.prog 85 [.sl .sh (L.map certA), .v (.func (.func g) #[] #[])] [] (.v (.int .i64 n)) [] := by
 refine ⟨if L.any q = true then (L.findIdx q : Int) else -1, by cases h : L.any q <;> simp, ?_⟩
 refine holds_of (ann := icAnnD) tabOk hm Tryz.func85 (by kernel_rfl) rfl ?_
 have ha : (L.map certA).length = L.length := List.length_map _
 simp +decide only [Tryz.f85, ha, go_sem]
 refine Runs.while (α := Nat) (icStD (.v (.func (.func g) #[] #[])) L) (fun i => L.length - i) (fun i => i ≤ L.length ∧ ∀ j (hj : j < L.length), j < i → q L[j] = false) 0 ⟨by omega, fun _ _ h => absurd h (by omega)⟩ ?_ ?_
 ·simp [go_sem, icAnnD, icStD]
 ·rintro i ⟨hi, hn⟩ ih
  simp +decide only [icStD, ha, go_sem]
  refine Runs.split (fun h => ?_) (fun h => ?_)
  ·have hlt : i < L.length := by simpa using h
   have hg : (L.map certA).getD i .any = certA L[i] := by simp [List.getD, hlt]
   have hc := hq L[i] (List.getElem_mem hlt)
   rw [certA] at hg hc
   simp +decide (disch := first | omega | (simp only [ll]; omega)) only [ha, hg, if_pos, go_sem]
   refine Runs.call hc ?_
   cases h2 : q L[i]
   ·simp +decide (disch := first | omega | (simp only [ll]; omega)) only [if_pos, go_sem]
    refine ih (i + 1) _ (by omega) ⟨by omega, fun j hj hji => ?_⟩ ?_
    ·rcases Nat.lt_or_ge j i with h3 | h3
     ·exact hn j hj h3
     ·have : j = i := by omega
      subst this; exact h2
    ·simp [go_sem, icAnnD, icStD]
   ·simp +decide (disch := first | omega | (simp only [ll]; omega)) only [if_pos, go_sem]
    have e1 : L.any q = true := List.any_eq_true.mpr ⟨L[i], List.getElem_mem hlt, h2⟩
    have e2 : L.findIdx q = i := (List.findIdx_eq hlt).mpr ⟨h2, fun j hj => hn j (by omega) hj⟩
    exact Runs.ret_eq (by rw [e1, e2]; rfl)
  ·have hge : i = L.length := by simp at h; omega
   have e1 : L.any q = false := by
    rw [List.any_eq_false]
    intro x hx
    obtain ⟨j, hj, rfl⟩ := List.getElem_of_mem hx
    rw [hn j hj (by omega)]; simp
   simp +decide only [go_sem]
   exact Runs.ret_eq (by rw [e1]; rfl)
include hm in
theorem contFuncCD (g : Nat) (L : List GCert) (q : GCert → Bool) (h : L.length ≤ 1048576) (hq : ∀ c ∈ L, Holds Tryz.prog g [certA c] [] (.v (.bool (q c))) []) :
  Holds Tryz.prog 72 [.sl .sh (L.map certA), .v (.func (.func g) #[] #[])] [] (.v (.bool (L.any q))) [] := by
 refine holds_of (ann := []) tabOk hm Tryz.func72 (by kernel_rfl) rfl ?_
 simp +decide only [Tryz.f72, go_sem]
 obtain ⟨n, hn, hc⟩ := indexFuncCD hm g L q h hq
 refine Runs.call hc ?_
 simp +decide only [hn, go_sem]
 exact Runs.ret_v
def laAnn : Ann := [(0, [0, 1, 5])]
def laSt (L : List GCert) (m : Int) (i : Nat) : St := ⟨[.sl .sh (L.map certA), .v (.int .i64 m), .any, .any, .any, .v (.int .i64 i), .any, .any, .any, .any, .any, .any, .any, .any, .any, .any, .any, .any, .any, .any, .any, .any], [], []⟩
set_option maxHeartbeats 4000000 in
include hm in
theorem l12All (L : List GCert) (m : Int) (h3 : L.length ≤ 1048576) (h4 : ∀ c ∈ L, CertFit c) : Holds Tryz.prog 49 [.sl .sh (L.map certA), .v (.int .i64 m)] [] (.v (.bool (okCs L m))) [] := by
 refine holds_of (ann := laAnn) tabOk hm Tryz.func49 (by kernel_rfl) rfl ?_
 have hl0 : (L.map certA).length = L.length := List.length_map _
 simp +decide only [Tryz.f49, hl0, go_sem]
 refine Runs.while (α := Nat) (laSt L m) (fun i => L.length - i) (fun i => i ≤ L.length ∧ L.all certB = (L.drop i).all certB) 0 ⟨by omega, rfl⟩ ?_ ?_
 ·simp [go_sem, laAnn, laSt]
 ·rintro i ⟨hi, hr⟩ ih
  simp +decide only [laSt, hl0, go_sem]
  refine Runs.split (fun h => ?_) (fun h => ?_)
  ·have hlt : i < L.length := by simpa using h
   have hg : (L.map certA).getD i .any = certA L[i] := by simp [List.getD, hlt]
   have hc := sCertOk hm L[i] (h4 _ (List.getElem_mem hlt))
   rw [certA] at hg hc
   rw [List.drop_eq_getElem_cons hlt, List.all_cons] at hr
   simp +decide (disch := first | omega | (simp only [ll]; omega)) only [hg, hl0, if_pos, go_sem]
   refine Runs.call hc ?_
   cases g : certB L[i]
   ·simp +decide only [go_sem]
    rw [g, Bool.false_and] at hr
    exact Runs.ret_eq (by rw [okCs, hr, Bool.and_false])
   ·simp +decide (disch := first | omega | (simp only [ll]; omega)) only [if_pos, go_sem]
    rw [g, Bool.true_and] at hr
    refine ih (i + 1) _ (by omega) ⟨hlt, hr⟩ ?_
    simp [go_sem, laAnn, laSt]
  ·have hge : i = L.length := by simp at h; omega
   subst hge
   simp only [List.drop_length, List.all_nil] at hr
   simp +decide only [hl0, go_sem]
   exact Runs.ret_eq (by rw [okCs, hr, Bool.and_true])
set_option maxHeartbeats 4000000 in
include hm in
theorem l12Ok (lf : GCert) (po an : List GCert) (h0 : CertFit lf) (h1 : po.length ≤ 1048576) (h2 : ∀ c ∈ po, CertFit c) (h3 : an.length ≤ 1048576) (h4 : ∀ c ∈ an, CertFit c) :
  Holds Tryz.prog 22 [certA lf, .sl .sh (po.map certA), .sl .sh (an.map certA)] [] (.v (.bool (handB lf po an))) [] := by
 refine holds_ref (ann := []) tabOk hm (byL [] [1000003]) Tryz.func22 (by kernel_rfl) rfl ?_
 have c1 := sCertOk hm lf h0
 have c2 := l12All hm po 8 h1 h2
 have c3 := l12All hm an 4 h3 h4
 rw [certA] at c1 ⊢
 simp +decide (maxSteps := 9^7) only [Tryz.f22, go_sem]
 refine Runs.call c1 ?_
 cases b1 : certB lf
 ·simp +decide (maxSteps := 9^7) only [go_sem]
  exact Runs.ret_eq (by simp only [handB, b1, Bool.false_and])
 simp +decide (maxSteps := 9^7) only [go_sem]
 refine Runs.call c2 ?_
 cases b2 : okCs po 8
 ·simp +decide (maxSteps := 9^7) only [go_sem]
  exact Runs.ret_eq (by simp only [handB, b2, Bool.and_false, Bool.false_and])
 simp +decide (maxSteps := 9^7) only [go_sem]
 refine Runs.call c3 ?_
 simp +decide (maxSteps := 9^7) only [go_sem]
 exact Runs.ret_eq (by simp only [handB, b1, b2, Bool.true_and])
def lcAnn : Ann := [(0, [1, 2, 3, 9, 10])]
def lcSt (lf : GCert) (po an : List GCert) (P : List Int) (i : Nat) : St := ⟨[.any, .sl .sh (po.map certA), .sl .sh (an.map certA), .sl .sh (P.map intA), .any, .any, .any, .any, .any, .ms (.l 0) 0 (i + 1) (i + 1), .v (.int .i64 i), .any, .any, .any, .any, .any, .any, .any, .any, .any, .any, .any, .any, .any, .any, .any, .any, .any, .any, .any, .any, .any, .any, .any, .any, .any, .any, .any, .any, .any, .any, .any], [(0, ⟨true, 34, false, (chL lf po an P i).map certA⟩)], []⟩
set_option maxHeartbeats 4000000 in
include hm in
theorem l12Chain (lf : GCert) (po an : List GCert) (P : List Int) (h1 : po.length ≤ 1048576) (h3 : an.length ≤ 1048576) (hP : pathB po an P = true) :
  Holds Tryz.prog 24 [certA lf, .sl .sh (po.map certA), .sl .sh (an.map certA), .sl .sh (P.map intA)] [] (.sl (.ow 34) ((chL lf po an P P.length).map certA)) [] := by
 refine holds_ref (ann := lcAnn) tabOk hm (byL [] [1000004]) Tryz.func24 (by kernel_rfl) rfl ?_
 simp only [pathB, inB, Bool.and_eq_true, decide_eq_true_eq, List.all_eq_true, List.mem_range] at hP
 obtain ⟨⟨p1, p2⟩, hst⟩ := hP
 have hPl : (P.map intA).length = P.length := List.length_map _
 have hpl : (po.map certA).length = po.length := List.length_map _
 have hal : (an.map certA).length = an.length := List.length_map _
 have hc0 : (chL lf po an P 0).map certA = [certA lf] := rfl
 rw [certA] at hc0 ⊢
 simp +decide (maxSteps := 9^7) only [Tryz.f24, hPl, go_sem]
 refine Runs.while (α := Nat) (lcSt lf po an P) (fun i => P.length - i) (fun i => i + 1 ≤ P.length) 0 (by omega) ?_ ?_
 ·simp [go_sem, lcAnn, lcSt, hc0]
 ·intro i hi ih
  have hS := chL_succ lf po an P i
  have hst0 := hst i (by omega)
  have hlen : ((chL lf po an P i).map certA).length = i + 1 := by rw [List.length_map, chL_len]
  have w0 : IntKind.i64.wrap ((i : Int) + 1) = i + 1 := wrap_i64 (by omega) (by omega)
  have wl : IntKind.i64.wrap ((P.length : Int) - 1) = (P.length : Int) - 1 := wrap_i64 (by omega) (by omega)
  have hgP : (P.map intA).getD i .any = .v (.int .i64 (P.getD i 0)) := by simp [List.getD, show i < P.length by omega, intA]
  have d1 : decide (0 ≤ (i : Int) ∧ (i : Int) < P.length) = true := by simp; omega
  have dl : decide (i + 1 + 1 ≤ 1073741824) = true := by simp; omega
  simp +decide (maxSteps := 9^7) only [lcSt, hPl, w0, hlen, go_sem]
  refine Runs.split (fun h => ?_) (fun h => ?_)
  ·have hlt : i + 1 < P.length := by simp at h; omega
   have hsrc : srcC po an P i = po := if_neg (by omega)
   rw [stepC, hsrc] at hst0
   rw [hsrc] at hS
   obtain ⟨g1, g2⟩ := src_get (lf := lf) hst0
   rw [certA] at g1
   simp +decide (maxSteps := 9^7) only [hPl, hpl, w0, hlen, hgP, d1, g1, g2, dl, Int.toNat_natCast, go_sem]
   refine ih (i + 1) _ (by omega) (by omega) ?_
   simp [go_sem, lcAnn, lcSt, hS, certA]
  ·have hge : i + 1 = P.length := by simp at h; omega
   have hsrc : srcC po an P i = an := if_pos hge
   rw [stepC, hsrc] at hst0
   rw [hsrc] at hS
   obtain ⟨g1, g2⟩ := src_get (lf := lf) hst0
   rw [certA] at g1
   have d2 : decide (0 ≤ (P.length : Int) - 1 ∧ (P.length : Int) - 1 < P.length) = true := by simp; omega
   have ht : ((P.length : Int) - 1).toNat = i := by omega
   simp +decide (maxSteps := 9^7) only [hPl, hal, wl, hlen, hgP, d2, ht, g1, g2, dl, Int.toNat_natCast, List.length_append, go_sem]
   refine Runs.ret_eq ?_
   rw [← hge, hS, List.map_append, List.map_cons, List.map_nil, certA]
def scAnnC : Ann := [(0, [1, 2, 3, 4, 10, 11]), (2, [13, 14, 15])]
def scStC (lf : GCert) (po an : List GCert) (P : List Int) (i : Nat) : St := ⟨[.any, .sl .sh (po.map certA), .sl .sh (an.map certA), .sl .sh (P.map intA), .ptr [certA lf] 0 0, .any, .any, .any, .any, .any, .ms (.l 0) 0 0 0, .v (.int .i64 i), .any, .any, .any, .any, .any, .any, .any, .any, .any, .any, .any, .any, .any, .any, .any, .any, .any, .any, .any, .any, .any, .any, .any, .any, .any, .any, .any, .any, .any, .any, .any, .any, .any, .any, .any, .any, .any, .any, .any, .any, .any, .any, .any, .any, .any, .any, .any, .any, .any, .any, .any, .any, .any, .any, .any, .any, .any, .any, .any, .any, .any, .any, .any], [(0, ⟨true, 34, false, []⟩)], []⟩
def scS2C (V : List GCert) (i : Nat) : St := ⟨[.any, .any, .any, .any, .any, .any, .any, .any, .any, .any, .any, .any, .any, .ms (.l 0) 0 V.length V.length, .ms (.l 1) 0 i i, .v (.int .i64 i), .any, .any, .any, .any, .any, .any, .any, .any, .any, .any, .any, .any, .any, .any, .any, .any, .any, .any, .any, .any, .any, .any, .any, .any, .any, .any, .any, .any, .any, .any, .any, .any, .any, .any, .any, .any, .any, .any, .any, .any, .any, .any, .any, .any, .any, .any, .any, .any, .any, .any, .any, .any, .any, .any, .any, .any, .any, .any, .any], [(0, ⟨true, 34, false, V.map certA⟩), (1, ⟨true, 34, false, mpre certO V i⟩)], []⟩
set_option maxHeartbeats 8000000 in
include hm in
theorem sChainOf (lf : GCert) (po an : List GCert) (P : List Int) (h0 : CertFit lf) (h1 : po.length ≤ 1048576) (h2 : ∀ c ∈ po, CertFit c) (h3 : an.length ≤ 1048576) (h4 : ∀ c ∈ an, CertFit c) (h5 : P.length ≤ 1048576) :
  Holds Tryz.prog 6 [certA lf, .sl .sh (po.map certA), .sl .sh (an.map certA), .sl .sh (P.map intA)] [] (.tup [.sl (.ow 34) ((chV lf po an P).map certO), .v (.bool (chOk lf po an P))]) [] := by
 refine holds_ref (ann := scAnnC) tabOk hm (byL [] [1000004]) Tryz.func6 (by kernel_rfl) rfl ?_
 have c1 := l12Ok hm lf po an h0 h1 h2 h3 h4
 have hPl : (P.map intA).length = P.length := List.length_map _
 have hpl : (po.map certA).length = po.length := List.length_map _
 have hal : (an.map certA).length = an.length := List.length_map _
 have no : ∀ {T : Tab} {b : Nat → AM.Mode} {an' : Ann} {Φ : Known}, chOk lf po an P = false → Runs T b an' Φ (.ret (.tup [.sl (.ow 34) [], .v (.bool false)]) []) (.tup [.sl (.ow 34) ((chV lf po an P).map certO), .v (.bool (chOk lf po an P))]) [] := by
  intro T b an' Φ hb
  rw [chV_no hb, hb]
  exact Runs.ret_refl
 rw [certA] at c1
 rw [certA]
 simp +decide (maxSteps := 9^7) only [Tryz.f6, go_sem]
 refine Runs.call c1 ?_
 cases b1 : handB lf po an
 ·simp +decide (maxSteps := 9^7) only [go_sem]
  exact no (by simp only [chOk, b1, Bool.false_and])
 simp +decide (maxSteps := 9^7) only [hPl, go_sem]
 refine Runs.call (l1In hm _ 1 5) ?_
 cases b2 : inB P.length 1 5
 ·simp +decide (maxSteps := 9^7) only [go_sem]
  exact no (by simp only [chOk, pathB, b2, Bool.false_and, Bool.and_false])
 have b2' := b2
 simp only [inB, Bool.and_eq_true, decide_eq_true_eq] at b2'
 simp +decide (maxSteps := 9^7) only [hPl, go_sem]
 refine Runs.while (α := Nat) (scStC lf po an P) (fun i => P.length - i) (fun i => i ≤ P.length ∧ (List.range i).all (stepC po an P) = true) 0 ⟨by omega, rfl⟩ ?_ ?_
 ·simp [go_sem, scAnnC, scStC, certA]
 ·rintro i ⟨hi, hall⟩ ih
  simp +decide (maxSteps := 9^7) only [scStC, hPl, go_sem]
  refine Runs.split (fun h => ?_) (fun h => ?_)
  ·have hlt : i < P.length := by simpa using h
   have w0 : IntKind.i64.wrap ((i : Int) + 1) = i + 1 := wrap_i64 (by omega) (by omega)
   have wl : IntKind.i64.wrap ((P.length : Int) - 1) = (P.length : Int) - 1 := wrap_i64 (by omega) (by omega)
   have wp : IntKind.i64.wrap ((po.length : Int) - 1) = (po.length : Int) - 1 := wrap_i64 (by omega) (by omega)
   have wa : IntKind.i64.wrap ((an.length : Int) - 1) = (an.length : Int) - 1 := wrap_i64 (by omega) (by omega)
   have hgP : (P.map intA).getD i .any = .v (.int .i64 (P.getD i 0)) := by simp [List.getD, hlt, intA]
   have d1 : decide (0 ≤ (i : Int) ∧ (i : Int) < P.length) = true := by simp; omega
   by_cases he : i + 1 = P.length
   ·have hsrc : srcC po an P i = an := if_pos he
    have de : decide ((i : Int) = (P.length : Int) - 1) = true := by simp; omega
    simp +decide (maxSteps := 9^7) only [hPl, hpl, hal, wl, wp, wa, de, hgP, d1, Int.toNat_natCast, go_sem]
    refine Runs.call (l1In hm _ 0 _) ?_
    cases b3 : inB (P.getD i 0) 0 ((an.length : Int) - 1)
    ·simp +decide (maxSteps := 9^7) only [go_sem]
     exact no (by rw [chOk, step_no hlt (by rw [stepC, hsrc]; exact b3), Bool.and_false])
    ·simp +decide (maxSteps := 9^7) only [w0, go_sem]
     refine ih (i + 1) _ (by omega) ⟨by omega, all_range_succ hall (by rw [stepC, hsrc]; exact b3)⟩ ?_
     simp [go_sem, scAnnC, scStC, certA]
   ·have hsrc : srcC po an P i = po := if_neg he
    have de : decide ((i : Int) = (P.length : Int) - 1) = false := by simp; omega
    simp +decide (maxSteps := 9^7) only [hPl, hpl, hal, wl, wp, wa, de, hgP, d1, Int.toNat_natCast, go_sem]
    refine Runs.call (l1In hm _ 0 _) ?_
    cases b3 : inB (P.getD i 0) 0 ((po.length : Int) - 1)
    ·simp +decide (maxSteps := 9^7) only [go_sem]
     exact no (by rw [chOk, step_no hlt (by rw [stepC, hsrc]; exact b3), Bool.and_false])
    ·simp +decide (maxSteps := 9^7) only [w0, go_sem]
     refine ih (i + 1) _ (by omega) ⟨by omega, all_range_succ hall (by rw [stepC, hsrc]; exact b3)⟩ ?_
     simp [go_sem, scAnnC, scStC, certA]
  ·have hge : i = P.length := by simp at h; omega
   subst hge
   have hpB : pathB po an P = true := by rw [pathB, b2, hall]; rfl
   have hok : chOk lf po an P = true := by rw [chOk, b1, hpB]; rfl
   have hV : chV lf po an P = chL lf po an P P.length := by rw [chV, hok]; rfl
   have cc := l12Chain hm lf po an P h1 h3 hpB
   have hVf := chL_fit (P := P) (i := P.length) h0 h2 h4
   have hVn := chL_len lf po an P P.length
   rw [hV, hok]
   rw [certA] at cc
   generalize chL lf po an P P.length = V at cc hVf hVn
   have hVl : (V.map certA).length = V.length := List.length_map _
   simp +decide (maxSteps := 9^7) only [certA, go_sem]
   refine Runs.call cc ?_
   simp +decide (maxSteps := 9^7) only [hVl, go_sem]
   refine Runs.while (α := Nat) (scS2C V) (fun i => V.length - i) (fun i => i ≤ V.length) 0 (by omega) ?_ ?_
   ·simp [go_sem, scAnnC, scS2C, mpre_zero]
   ·intro i hi ih
    have hlen := mpre_length certO hi
    simp +decide (maxSteps := 9^7) only [scS2C, hVl, go_sem]
    refine Runs.split (fun h => ?_) (fun h => ?_)
    ·have hlt : i < V.length := by simpa using h
     have hg : (V.map certA).getD i .any = certA V[i] := by simp [List.getD, hlt]
     have co := l12Own hm V[i] (hVf _ (List.getElem_mem hlt))
     have hpl2 := certA_plain V[i]
     have d1 : decide (0 ≤ (i : Int) ∧ (i : Int) < V.length) = true := by simp; omega
     have w1 : IntKind.i64.wrap ((i : Int) + 1) = i + 1 := wrap_i64 (by omega) (by omega)
     have dl : decide (i + 1 ≤ 1073741824) = true := by simp; omega
     rw [certA, certO] at co
     rw [certA] at hg hpl2
     simp +decide (maxSteps := 9^7) only [hVl, hlen, hg, d1, hpl2, Int.toNat_natCast, go_sem]
     refine Runs.call co ?_
     simp +decide (maxSteps := 9^7) only [hVl, hlen, w1, dl, Sh.own, go_sem]
     refine ih (i + 1) _ (by omega) hlt ?_
     simp [go_sem, scAnnC, scS2C, mpre_succ _ hlt, certO]
    ·have hge : i = V.length := by simp at h; omega
     subst hge
     rw [mpre_all]
     simp +decide (maxSteps := 9^7) only [List.length_map, go_sem]
     exact Runs.ret_refl
end Go.Proofs.W

namespace Go.Proofs.W
open Go Go.AM Go.Proofs.G
set_option maxRecDepth 10000
variable (hm : Tryz.prog.follows .mixedOrders = true)
attribute [local go_sem] rowS_plain rowS_dn rowO_dn certsA_dn certsO_dn certsO_md rowO_md certA_plain certA_dn
noncomputable def chV0 (lf : GCert) (po an : List GCert) (P : List Int) : List GCert := if pathB po an P = true then chL lf po an P P.length else []
theorem chV0_no {lf : GCert} {po an : List GCert} {P : List Int} (h : pathB po an P = false) : chV0 lf po an P = [] := by rw [chV0, h]; rfl
def mixC (L : List GCert) (i : Nat) : List A := (L.take i).map certO ++ (L.drop i).map certA
theorem mixC_length (L : List GCert) (i : Nat) (h : i ≤ L.length) : (mixC L i).length = L.length := by simp [mixC]; omega
theorem mixC_zero (L : List GCert) : mixC L 0 = L.map certA := by simp [mixC]
theorem mixC_all (L : List GCert) : mixC L L.length = L.map certO := by simp [mixC]
theorem mixC_get (L : List GCert) (i : Nat) (h : i < L.length) : (mixC L i).getD i .any = certA L[i] := by
 unfold mixC
 rw [List.getD, List.getElem?_append_right (by simp; omega)]
 simp [Nat.min_eq_left (Nat.le_of_lt h), h]
theorem mixC_set (L : List GCert) (i : Nat) (h : i < L.length) : (mixC L i).set i (certO L[i]) = mixC L (i + 1) := by
 unfold mixC
 rw [List.set_append_right _ _ (by simp; omega), List.length_map, List.length_take, Nat.min_eq_left (Nat.le_of_lt h), Nat.sub_self, List.drop_eq_getElem_cons h, List.map_cons, List.set_cons_zero, List.take_succ_eq_append_getElem h, List.map_append, List.append_assoc]
 rfl
set_option maxHeartbeats 4000000 in
include hm in
theorem areCerts1 (c : GCert) (h : CertFit c) : Holds Tryz.prog 73 [certA c] [] (.v (.bool (!certB c))) [] := by
 have hc := iCertOk hm c h
 rw [certA] at hc ⊢
 refine holds_ref (ann := []) tabOk hm (byL [] [1000001]) Tryz.func73 (by kernel_rfl) rfl ?_
 simp +decide only [Tryz.f73, go_sem]
 refine Runs.call hc ?_
 simp +decide only [go_sem]
 exact Runs.ret_v
include hm in
theorem areCerts (L : List GCert) (m : Int) (h3 : L.length ≤ 1048576) (h4 : ∀ c ∈ L, CertFit c) : Holds Tryz.prog 57 [.sl .sh (L.map certA), .v (.int .i64 m)] [] (.v (.bool (okCs L m))) [] := by
 refine holds_of (ann := []) tabOk hm Tryz.func57 (by kernel_rfl) rfl ?_
 have hl0 : (L.map certA).length = L.length := List.length_map _
 simp +decide only [Tryz.f57, hl0, go_sem]
 cases g : decide ((L.length : Int) ≤ m)
 ·simp +decide only [go_sem]
  exact Runs.ret_eq (by rw [okCs, g, Bool.false_and])
 ·simp +decide only [go_sem]
  have hc := contFuncCD hm 73 L (fun c => !certB c) h3 fun c hc => areCerts1 hm c (h4 c hc)
  rw [any_not_all] at hc
  refine Runs.call hc ?_
  simp +decide only [go_sem]
  exact Runs.ret_eq (by rw [okCs, g, Bool.true_and, Bool.not_not])
set_option maxHeartbeats 4000000 in
include hm in
theorem areHanded (lf : GCert) (po an : List GCert) (h0 : CertFit lf) (h1 : po.length ≤ 1048576) (h2 : ∀ c ∈ po, CertFit c) (h3 : an.length ≤ 1048576) (h4 : ∀ c ∈ an, CertFit c) :
  Holds Tryz.prog 30 [certA lf, .sl .sh (po.map certA), .sl .sh (an.map certA)] [] (.v (.bool (handB lf po an))) [] := by
 refine holds_ref (ann := []) tabOk hm (byL [] [1000003]) Tryz.func30 (by kernel_rfl) rfl ?_
 have c1 := areCerts hm [lf] 1 (by simp) (fun c hc => by rw [List.mem_singleton.1 hc]; exact h0)
 have c2 := areCerts hm po 8 h1 h2
 have c3 := areCerts hm an 4 h3 h4
 have e1 : okCs [lf] 1 = certB lf := by simp [okCs]
 have dn1 := certA_dn lf
 rw [e1, List.map_cons, List.map_nil] at c1
 rw [certA] at c1 dn1 ⊢
 simp +decide (maxSteps := 9^7) only [Tryz.f30, dn1, go_sem]
 refine Runs.call c1 ?_
 cases b1 : certB lf
 ·simp +decide (maxSteps := 9^7) only [go_sem]
  exact Runs.ret_eq (by simp only [handB, b1, Bool.false_and])
 simp +decide (maxSteps := 9^7) only [go_sem]
 refine Runs.call c2 ?_
 cases b2 : okCs po 8
 ·simp +decide (maxSteps := 9^7) only [go_sem]
  exact Runs.ret_eq (by simp only [handB, b2, Bool.and_false, Bool.false_and])
 simp +decide (maxSteps := 9^7) only [go_sem]
 refine Runs.call c3 ?_
 simp +decide (maxSteps := 9^7) only [go_sem]
 exact Runs.ret_eq (by simp only [handB, b1, b2, Bool.true_and])
def ioc0Ann : Ann := [(0, [1, 2, 3, 10, 20, 21, 22])]
def ioc0St (lf : GCert) (po an : List GCert) (P : List Int) (i : Nat) : St := ⟨[.any, .sl .sh (po.map certA), .sl .sh (an.map certA), .sl .sh (P.map intA), .any, .any, .any, .any, .any, .any, .ms (.l 0) 0 (i + 1) (i + 1), .any, .any, .any, .any, .any, .any, .any, .any, .any, .sl .sh (P.map intA), .v (.int .i64 P.length), .v (.int .i64 i), .any, .any, .any, .any, .any, .any, .any, .any, .any, .any, .any, .any, .any, .any, .any, .any, .any, .any, .any, .any, .any, .any, .any, .any, .any, .any], [(0, ⟨true, 34, false, (chL lf po an P i).map certA⟩)], []⟩
set_option maxHeartbeats 8000000 in
include hm in
theorem chainOf0 (lf : GCert) (po an : List GCert) (P : List Int) (h1 : po.length ≤ 1048576) (h3 : an.length ≤ 1048576) (h5 : P.length ≤ 1048576) :
  Holds Tryz.prog 31 [certA lf, .sl .sh (po.map certA), .sl .sh (an.map certA), .sl .sh (P.map intA)] [] (.tup [.sl (.ow 34) ((chV0 lf po an P).map certA), .v (.bool (pathB po an P))]) [] := by
 refine holds_ref (ann := ioc0Ann) tabOk hm (byL [] [1000004]) Tryz.func31 (by kernel_rfl) rfl ?_
 have hPl : (P.map intA).length = P.length := List.length_map _
 have hpl : (po.map certA).length = po.length := List.length_map _
 have hal : (an.map certA).length = an.length := List.length_map _
 have hc0 : (chL lf po an P 0).map certA = [certA lf] := rfl
 have no : ∀ {T : Tab} {b : Nat → AM.Mode} {an' : Ann} {Φ : Known}, pathB po an P = false → Runs T b an' Φ (.ret (.tup [.v (.slice none 0 0), .v (.bool false)]) []) (.tup [.sl (.ow 34) ((chV0 lf po an P).map certA), .v (.bool (pathB po an P))]) [] := by
  intro T b an' Φ hb
  rw [chV0_no hb, hb]
  exact Runs.ret (.tup (.nils _ (.same _ .nil)) .nil) rfl
 rw [certA] at hc0 ⊢
 simp +decide (maxSteps := 9^7) only [Tryz.f31, hPl, go_sem]
 refine Runs.call (within hm _ 1 5) ?_
 cases b2 : inB P.length 1 5
 ·simp +decide (maxSteps := 9^7) only [go_sem]
  exact no (by simp only [pathB, b2, Bool.false_and])
 have b2' := b2
 simp only [inB, Bool.and_eq_true, decide_eq_true_eq] at b2'
 simp +decide (maxSteps := 9^7) only [hPl, go_sem]
 refine Runs.while (α := Nat) (ioc0St lf po an P) (fun i => P.length - i) (fun i => i ≤ P.length ∧ (List.range i).all (stepC po an P) = true) 0 ⟨by omega, rfl⟩ ?_ ?_
 ·simp [go_sem, ioc0Ann, ioc0St, hc0]
 ·rintro i ⟨hi, hall⟩ ih
  simp +decide (maxSteps := 9^7) only [ioc0St, hPl, go_sem]
  refine Runs.split (fun h => ?_) (fun h => ?_)
  ·have hlt : i < P.length := by simpa using h
   have hS := chL_succ lf po an P i
   have hlen : ((chL lf po an P i).map certA).length = i + 1 := by rw [List.length_map, chL_len]
   have w0 : IntKind.i64.wrap ((i : Int) + 1) = i + 1 := wrap_i64 (by omega) (by omega)
   have wl : IntKind.i64.wrap ((P.length : Int) - 1) = (P.length : Int) - 1 := wrap_i64 (by omega) (by omega)
   have wp : IntKind.i64.wrap ((po.length : Int) - 1) = (po.length : Int) - 1 := wrap_i64 (by omega) (by omega)
   have wa : IntKind.i64.wrap ((an.length : Int) - 1) = (an.length : Int) - 1 := wrap_i64 (by omega) (by omega)
   have hgP : (P.map intA).getD i .any = .v (.int .i64 (P.getD i 0)) := by simp [List.getD, hlt, intA]
   have d1 : decide (0 ≤ (i : Int) ∧ (i : Int) < P.length) = true := by simp; omega
   have dl : decide (i + 1 + 1 ≤ 1073741824) = true := by simp; omega
   by_cases he : i + 1 = P.length
   ·have hsrc : srcC po an P i = an := if_pos he
    have de : decide ((i : Int) = (P.length : Int) - 1) = true := by simp; omega
    rw [hsrc] at hS
    simp +decide (maxSteps := 9^7) only [hPl, hpl, hal, wl, wp, wa, de, hgP, d1, Int.toNat_natCast, go_sem]
    refine Runs.call (within hm _ 0 _) ?_
    cases b3 : inB (P.getD i 0) 0 ((an.length : Int) - 1)
    ·simp +decide (maxSteps := 9^7) only [go_sem]
     exact no (step_no hlt (by rw [stepC, hsrc]; exact b3))
    ·obtain ⟨g1, g2⟩ := src_get (lf := lf) b3
     rw [certA] at g1
     simp +decide (maxSteps := 9^7) only [w0, hPl, hal, hlen, g1, g2, dl, List.length_append, go_sem]
     refine ih (i + 1) _ (by omega) ⟨by omega, all_range_succ hall (by rw [stepC, hsrc]; exact b3)⟩ ?_
     simp [go_sem, ioc0Ann, ioc0St, hS, certA]
   ·have hsrc : srcC po an P i = po := if_neg he
    have de : decide ((i : Int) = (P.length : Int) - 1) = false := by simp; omega
    rw [hsrc] at hS
    simp +decide (maxSteps := 9^7) only [hPl, hpl, hal, wl, wp, wa, de, hgP, d1, Int.toNat_natCast, go_sem]
    refine Runs.call (within hm _ 0 _) ?_
    cases b3 : inB (P.getD i 0) 0 ((po.length : Int) - 1)
    ·simp +decide (maxSteps := 9^7) only [go_sem]
     exact no (step_no hlt (by rw [stepC, hsrc]; exact b3))
    ·obtain ⟨g1, g2⟩ := src_get (lf := lf) b3
     rw [certA] at g1
     simp +decide (maxSteps := 9^7) only [w0, hPl, hpl, hlen, g1, g2, dl, List.length_append, go_sem]
     refine ih (i + 1) _ (by omega) ⟨by omega, all_range_succ hall (by rw [stepC, hsrc]; exact b3)⟩ ?_
     simp [go_sem, ioc0Ann, ioc0St, hS, certA]
  ·have hge : i = P.length := by simp at h; omega
   subst hge
   have hpB : pathB po an P = true := by rw [pathB, b2, hall]; rfl
   have hlen : ((chL lf po an P P.length).map certA).length = P.length + 1 := by rw [List.length_map, chL_len]
   simp +decide (maxSteps := 9^7) only [hlen, go_sem]
   refine Runs.ret_eq ?_
   rw [chV0, hpB, if_pos rfl]
def icoAnnC : Ann := [(0, [10, 11, 27, 28, 29])]
def icoStC (V : List GCert) (ok : Bool) (i : Nat) : St := ⟨[.any, .any, .any, .any, .any, .any, .any, .any, .any, .any, .ms (.l 0) 0 V.length V.length, .v (.bool ok), .any, .any, .any, .any, .any, .any, .any, .any, .any, .any, .any, .any, .any, .any, .any, .ms (.l 0) 0 V.length V.length, .v (.int .i64 V.length), .v (.int .i64 i), .any, .any, .any, .any, .any, .any, .any, .any, .any, .any, .any, .any], [(0, ⟨true, 34, false, mixC V i⟩)], []⟩
def icoS7 : Sched := .take 0 (.take 1 (.lds 832 [2] (.alt 3 (.take 4 (.alt 5 .fin .nil)) .nil)))
attribute [local go_sem] icoS7
set_option maxHeartbeats 8000000 in
include hm in
theorem iChainOf (lf : GCert) (po an : List GCert) (P : List Int) (h0 : CertFit lf) (h1 : po.length ≤ 1048576) (h2 : ∀ c ∈ po, CertFit c) (h3 : an.length ≤ 1048576) (h4 : ∀ c ∈ an, CertFit c) (h5 : P.length ≤ 1048576) :
  Holds Tryz.prog 10 [certA lf, .sl .sh (po.map certA), .sl .sh (an.map certA), .sl .sh (P.map intA)] [] (.tup [.sl (.ow 34) ((chV lf po an P).map certO), .v (.bool (chOk lf po an P))]) [] := by
 refine holds_ref (ann := icoAnnC) tabOk hm (byL [] [1000004]) Tryz.func10 (by kernel_rfl) rfl ?_
 have c1 := areHanded hm lf po an h0 h1 h2 h3 h4
 have c2 := chainOf0 hm lf po an P h1 h3 h5
 rw [certA] at c1 c2
 rw [certA]
 simp +decide (maxSteps := 9^7) only [Tryz.f10, go_sem]
 refine Runs.call c1 ?_
 cases b1 : handB lf po an
 ·simp +decide (maxSteps := 9^7) only [go_sem]
  have hb : chOk lf po an P = false := by simp only [chOk, b1, Bool.false_and]
  rw [chV_no hb, hb]
  exact Runs.ret (.tup (.nils _ (.same _ .nil)) .nil) rfl
 have hok : chOk lf po an P = pathB po an P := by rw [chOk, b1, Bool.true_and]
 have hV : chV lf po an P = chV0 lf po an P := by rw [chV, chV0, hok]
 have hVf : ∀ c ∈ chV0 lf po an P, CertFit c := by
  unfold chV0
  split
  ·exact chL_fit h0 h2 h4
  ·simp
 have hVn : (chV0 lf po an P).length ≤ 1048577 := by
  unfold chV0
  split
  ·rw [chL_len]; omega
  ·simp
 rw [hok, hV]
 generalize chV0 lf po an P = V at *
 generalize pathB po an P = ok at *
 have hVl : (V.map certA).length = V.length := List.length_map _
 simp +decide (maxSteps := 9^7) only [go_sem]
 refine Runs.call c2 ?_
 simp +decide (maxSteps := 9^7) only [hVl, go_sem]
 refine Runs.while (α := Nat) (icoStC V ok) (fun i => V.length - i) (fun i => i ≤ V.length) 0 (by omega) ?_ ?_
 ·simp [go_sem, icoAnnC, icoStC, mixC_zero]
 ·intro i hi ih
  have hlen := mixC_length V i hi
  simp +decide (maxSteps := 9^7) only [icoStC, hlen, go_sem]
  refine Runs.split (fun h => ?_) (fun h => ?_)
  ·have hlt : i < V.length := by simpa using h
   have hg := mixC_get V i hlt
   have hs := mixC_set V i hlt
   have co := iOwnC hm V[i] (hVf _ (List.getElem_mem hlt))
   have hpl2 := certA_plain V[i]
   have d1 : decide (0 ≤ (i : Int) ∧ (i : Int) < V.length) = true := by simp; omega
   have w1 : IntKind.i64.wrap ((i : Int) + 1) = i + 1 := wrap_i64 (by omega) (by omega)
   rw [certA, certO] at co
   rw [certA] at hg hpl2
   rw [certO] at hs
   simp +decide (maxSteps := 9^7) only [hlen, hg, d1, hpl2, Int.toNat_natCast, go_sem]
   refine Runs.call co ?_
   simp +decide (maxSteps := 9^7) only [hlen, hg, d1, hs, w1, Int.toNat_natCast, Sh.own, go_sem]
   refine ih (i + 1) _ (by omega) hlt ?_
   simp [go_sem, icoAnnC, icoStC]
  ·have hge : i = V.length := by simp at h; omega
   subst hge
   simp +decide (maxSteps := 9^7) only [hlen, mixC_all, List.length_map, go_sem]
   exact Runs.ret_refl
end Go.Proofs.W

namespace Go.Proofs.W
open Go Go.AM
set_option maxRecDepth 10000
variable (hm : Tryz.prog.follows .mixedOrders = true)
def mkFill (v : Nat → A) (es : List A) (i : Nat) : List A := (List.range i).map v ++ es.drop i
theorem mkFill_length (v : Nat → A) (es : List A) (i : Nat) (h : i ≤ es.length) : (mkFill v es i).length = es.length := by simp [mkFill]; omega
theorem mkFill_zero (v : Nat → A) (es : List A) : mkFill v es 0 = es := by simp [mkFill]
theorem mkFill_all (v : Nat → A) (es : List A) {n : Nat} (h : es.length = n) : mkFill v es n = (List.range n).map v := by subst h; simp [mkFill]
theorem mkFill_get (v : Nat → A) (es : List A) (i : Nat) (h : i < es.length) : (mkFill v es i).getD i .any = es[i] := by
 unfold mkFill
 rw [List.getD, List.getElem?_append_right (by simp)]
 simp [h]
theorem mkFill_set (v : Nat → A) (es : List A) (i : Nat) (h : i < es.length) : (mkFill v es i).set i (v i) = mkFill v es (i + 1) := by
 unfold mkFill
 rw [List.set_append_right _ _ (by simp), List.length_map, List.length_range, Nat.sub_self, List.drop_eq_getElem_cons h, List.set_cons_zero, List.range_succ, List.map_append, List.append_assoc]
 rfl
def mkAnn : Ann := [(0, [0, 1, 5])]
def mkInt (k : Int) (i : Nat) : A := intA (k + i)
def mkByte (k : Int) (i : Nat) : A := u8A (IntKind.u8.wrap (k + i))
attribute [local go_sem] mkInt mkByte
def markGo : Nat → Nat → ByteArray → ByteArray
 | 0, _, out => out
 | f + 1, n, out => if n = 0 then out else markGo f (n / 10) (⟨#[UInt8.ofNat (48 + n % 10)]⟩ ++ out)
def markT (k : Int) : ByteArray := if k ≤ 0 then ⟨#[109, 48]⟩ else ⟨#[109]⟩ ++ markGo (k.toNat + 1) k.toNat ⟨#[]⟩
def mkStr (k : Int) (i : Nat) : A := strA (markT (k + i))
attribute [local go_sem] mkStr
def markIntSt (L : List Int) (k : Int) (i : Nat) : St := ⟨[.ms (.x 0) 0 L.length L.length, .v (.int .i64 (k + i)), .any, .any, .any, .v (.int .i64 i), .any, .any, .any, .any, .any, .any, .any, .any, .any, .any, .any, .any, .any], [], [⟨true, 1, false, mkFill (mkInt k) (L.map intA) i⟩]⟩
include hm in
theorem markIntS (L : List Int) (k : Int) (h1 : 0 ≤ k) (h2 : k + L.length ≤ 4611686018427387904) :
  Holds Tryz.prog 16 [.ms (.x 0) 0 L.length L.length, .v (.int .i64 k)] [⟨true, 1, false, L.map intA⟩] (.v (.int .i64 (k + L.length))) [⟨true, 1, false, (List.range L.length).map (mkInt k)⟩] := by
 refine holds_of (ann := mkAnn) tabOk hm Tryz.func16 (by kernel_rfl) rfl ?_
 simp +decide only [Tryz.f16, go_sem]
 refine Runs.while (α := Nat) (markIntSt L k) (fun i => L.length - i) (fun i => i ≤ L.length) 0 (by omega) ?_ ?_
 ·simp [go_sem, mkAnn, markIntSt, mkFill_zero]
 ·intro i hi ih
  have hlen := mkFill_length (mkInt k) (L.map intA) i (by simpa using hi)
  rw [List.length_map] at hlen
  simp +decide only [markIntSt, hlen, go_sem]
  refine Runs.split (fun h => ?_) (fun h => ?_)
  ·have hlt : i < L.length := by simpa using h
   have hg := mkFill_get (mkInt k) (L.map intA) i (by simpa using hlt)
   have hs := mkFill_set (mkInt k) (L.map intA) i (by simpa using hlt)
   simp only [List.getElem_map, intA] at hg
   simp only [mkInt, intA] at hs
   simp +decide (disch := first | omega | (simp only [ll]; omega)) only [hlen, hg, hs, if_pos, go_sem]
   refine ih (i + 1) _ (by omega) (by omega) ?_
   simp [go_sem, mkAnn, markIntSt, Int.add_assoc]
  ·have hge : i = L.length := by simp at h; omega
   subst hge
   simp +decide only [hlen, mkFill_all _ _ (List.length_map _), go_sem]
   exact Runs.ret_refl
def heldIntSt (n : Nat) (k : Int) (i : Nat) : St := ⟨[.sl .sh ((List.range n).map (mkInt k)), .v (.int .i64 (k + i)), .any, .any, .any, .v (.int .i64 i), .any, .any, .any, .any, .any, .any, .any, .any, .any, .any, .any, .any, .any, .any, .any], [], []⟩
include hm in
theorem heldIntS (n : Nat) (k : Int) (h1 : 0 ≤ k) (h2 : k + n ≤ 4611686018427387904) :
  Holds Tryz.prog 43 [.sl .sh ((List.range n).map (mkInt k)), .v (.int .i64 k)] [] (.v (.int .i64 (k + n))) [] := by
 refine holds_of (ann := mkAnn) tabOk hm Tryz.func43 (by kernel_rfl) rfl ?_
 simp +decide only [Tryz.f43, go_sem]
 refine Runs.while (α := Nat) (heldIntSt n k) (fun i => n - i) (fun i => i ≤ n) 0 (by omega) ?_ ?_
 ·simp [go_sem, mkAnn, heldIntSt]
 ·intro i hi ih
  simp +decide only [heldIntSt, List.length_range, go_sem]
  refine Runs.split (fun h => ?_) (fun h => ?_)
  ·have hlt : i < n := by simpa using h
   have hg : ((List.range n).map (mkInt k)).getD i .any = mkInt k i := by simp [List.getD, hlt]
   simp +decide (disch := first | omega | (simp only [ll]; omega)) only [hg, List.length_range, if_pos, go_sem]
   refine ih (i + 1) _ (by omega) (by omega) ?_
   simp [go_sem, mkAnn, heldIntSt, Int.add_assoc]
  ·have hge : i = n := by simp at h; omega
   subst hge
   simp +decide only [go_sem]
   exact Runs.ret_refl
def markByteSt (L : List Int) (k : Int) (i : Nat) : St := ⟨[.ms (.x 0) 0 L.length L.length, .v (.int .i64 (k + i)), .any, .any, .any, .v (.int .i64 i), .any, .any, .any, .any, .any, .any, .any, .any, .any, .any, .any, .any, .any, .any], [], [⟨true, 1, false, mkFill (mkByte k) (L.map u8A) i⟩]⟩
include hm in
theorem markByteS (L : List Int) (k : Int) (h1 : 0 ≤ k) (h2 : k + L.length ≤ 4611686018427387904) :
  Holds Tryz.prog 40 [.ms (.x 0) 0 L.length L.length, .v (.int .i64 k)] [⟨true, 1, false, L.map u8A⟩] (.v (.int .i64 (k + L.length))) [⟨true, 1, false, (List.range L.length).map (mkByte k)⟩] := by
 refine holds_of (ann := mkAnn) tabOk hm Tryz.func40 (by kernel_rfl) rfl ?_
 simp +decide only [Tryz.f40, go_sem]
 refine Runs.while (α := Nat) (markByteSt L k) (fun i => L.length - i) (fun i => i ≤ L.length) 0 (by omega) ?_ ?_
 ·simp [go_sem, mkAnn, markByteSt, mkFill_zero]
 ·intro i hi ih
  have hlen := mkFill_length (mkByte k) (L.map u8A) i (by simpa using hi)
  rw [List.length_map] at hlen
  simp +decide only [markByteSt, hlen, go_sem]
  refine Runs.split (fun h => ?_) (fun h => ?_)
  ·have hlt : i < L.length := by simpa using h
   have hg := mkFill_get (mkByte k) (L.map u8A) i (by simpa using hlt)
   have hs := mkFill_set (mkByte k) (L.map u8A) i (by simpa using hlt)
   simp only [List.getElem_map, u8A] at hg
   simp only [mkByte, u8A] at hs
   simp +decide (disch := first | omega | (simp only [ll]; omega)) only [hlen, hg, hs, if_pos, go_sem]
   refine ih (i + 1) _ (by omega) (by omega) ?_
   simp [go_sem, mkAnn, markByteSt, Int.add_assoc]
  ·have hge : i = L.length := by simp at h; omega
   subst hge
   simp +decide only [hlen, mkFill_all _ _ (List.length_map _), go_sem]
   exact Runs.ret_refl
def heldByteSt (n : Nat) (k : Int) (i : Nat) : St := ⟨[.sl .sh ((List.range n).map (mkByte k)), .v (.int .i64 (k + i)), .any, .any, .any, .v (.int .i64 i), .any, .any, .any, .any, .any, .any, .any, .any, .any, .any, .any, .any, .any, .any, .any, .any], [], []⟩
include hm in
theorem heldByteS (n : Nat) (k : Int) (h1 : 0 ≤ k) (h2 : k + n ≤ 4611686018427387904) :
  Holds Tryz.prog 45 [.sl .sh ((List.range n).map (mkByte k)), .v (.int .i64 k)] [] (.v (.int .i64 (k + n))) [] := by
 refine holds_of (ann := mkAnn) tabOk hm Tryz.func45 (by kernel_rfl) rfl ?_
 simp +decide only [Tryz.f45, go_sem]
 refine Runs.while (α := Nat) (heldByteSt n k) (fun i => n - i) (fun i => i ≤ n) 0 (by omega) ?_ ?_
 ·simp [go_sem, mkAnn, heldByteSt]
 ·intro i hi ih
  simp +decide only [heldByteSt, List.length_range, go_sem]
  refine Runs.split (fun h => ?_) (fun h => ?_)
  ·have hlt : i < n := by simpa using h
   have hg : ((List.range n).map (mkByte k)).getD i .any = mkByte k i := by simp [List.getD, hlt]
   simp +decide (disch := first | omega | (simp only [ll]; omega)) only [hg, List.length_range, if_pos, go_sem]
   refine ih (i + 1) _ (by omega) (by omega) ?_
   simp [go_sem, mkAnn, heldByteSt, Int.add_assoc]
  ·have hge : i = n := by simp at h; omega
   subst hge
   simp +decide only [go_sem]
   exact Runs.ret_refl
def markTxAnn : Ann := [(0, [0, 3])]
def markTxSt (p : Nat × ByteArray) : St := ⟨[.v (.int .i64 p.1), .any, .any, .v (.string p.2), .any, .any, .any, .any, .any, .any, .any, .any, .any, .any, .any, .any, .any, .any, .any, .any], [], []⟩
theorem markGo_fuel : ∀ (f g n : Nat) (out : ByteArray), n < f → n < g → markGo f n out = markGo g n out
 | f + 1, g + 1, n, out, h1, h2 => by
  simp only [markGo]
  split
  ·rfl
  ·rename_i hn
   exact markGo_fuel f g (n / 10) _ (by omega) (by omega)
theorem markGo_size {n s n0 : Nat} (h : n * 10 ^ s ≤ n0) (hn : 0 < n) (h0 : n0 ≤ 4611686018427387904) : s ≤ 30 := by
 rcases Nat.lt_or_ge 30 s with h1 | h1
 ·have h2 : 10 ^ 31 ≤ 10 ^ s := Nat.pow_le_pow_right (by omega) h1
  have h3 : 1 * 10 ^ s ≤ n * 10 ^ s := Nat.mul_le_mul_right _ hn
  have h4 : (10 : Nat) ^ 31 = 10000000000000000000000000000000 := rfl
  omega
 ·exact h1
include hm in
theorem markText (k : Int) (h1 : 0 ≤ k) (h2 : k ≤ 4611686018427387904) : Holds Tryz.prog 67 [.v (.int .i64 k)] [] (.v (.string (markT k))) [] := by
 refine holds_of (ann := markTxAnn) tabOk hm Tryz.func67 (by kernel_rfl) rfl ?_
 simp +decide only [Tryz.f67, go_sem]
 refine Runs.split (fun h => ?_) (fun h => ?_)
 ·simp only [decide_eq_true_eq] at h
  simp +decide only [markT, if_pos h, go_sem]
  exact Runs.ret_v
 ·simp only [decide_eq_false_iff_not] at h
  simp +decide only [go_sem]
  obtain ⟨n0, rfl⟩ : ∃ n0 : Nat, k = n0 := ⟨k.toNat, by omega⟩
  refine Runs.while (α := Nat × ByteArray) markTxSt (fun p => p.1) (fun p => p.1 ≤ n0 ∧ p.1 * 10 ^ p.2.size ≤ n0 ∧ p.2.size ≤ 31 ∧ markGo (p.1 + 1) p.1 p.2 = markGo (n0 + 1) n0 ⟨#[]⟩) (n0, ⟨#[]⟩) ⟨by simp, Nat.le_of_eq (by show n0 * 10 ^ 0 = n0; omega), by show 0 ≤ 31; omega, rfl⟩ ?_ ?_
  ·simp [go_sem, markTxAnn, markTxSt]
  ·rintro ⟨n, out⟩ ⟨hn, hp, hs, hr⟩ ih
   simp only at hn hp hs hr
   simp +decide only [markTxSt, go_sem]
   refine Runs.split (fun h => ?_) (fun h => ?_)
   ·have hn0 : 0 < n := by simp at h; omega
    have hs' := markGo_size hp hn0 (by omega)
    have ht : (n : Int).tmod 10 = ((n % 10 : Nat) : Int) := by rw [Int.tmod_eq_emod_of_nonneg (by omega)]; omega
    have hq : (n : Int).tdiv 10 = ((n / 10 : Nat) : Int) := by rw [Int.tdiv_eq_ediv_of_nonneg (by omega)]; omega
    have hw : IntKind.i64.wrap (48 + ((n % 10 : Nat) : Int)) = ((48 + n % 10 : Nat) : Int) := by rw [wrap_i64 (by omega) (by omega)]; omega
    have hw2 : IntKind.u8.wrap ((48 + n % 10 : Nat) : Int) = ((48 + n % 10 : Nat) : Int) := wrap_u8 (by omega) (by omega)
    have hw3 : IntKind.i64.wrap ((n / 10 : Nat) : Int) = ((n / 10 : Nat) : Int) := wrap_i64 (by omega) (by omega)
    have hb : (0 ≤ ((48 + n % 10 : Nat) : Int) ∧ ((48 + n % 10 : Nat) : Int) < 256) := by omega
    simp +decide only [ht, hq, hw, hw2, hw3, hb, go_sem]
    refine Runs.chk (by simp; show 1 + out.size ≤ _; omega) ?_
    simp +decide only [go_sem]
    refine ih (n / 10, ⟨#[UInt8.ofNat (48 + n % 10)]⟩ ++ out) _ (by simp only; omega) ⟨by simp only; omega, ?_, ?_, ?_⟩ ?_
    ·simp only
     rw [ByteArray.size_append]
     show n / 10 * 10 ^ (1 + out.size) ≤ n0
     rw [Nat.pow_add, ← Nat.mul_assoc]
     exact Nat.le_trans (Nat.mul_le_mul_right _ (by omega)) hp
    ·simp only
     rw [ByteArray.size_append]
     show 1 + out.size ≤ 31
     omega
    ·simp only
     rw [← hr]
     conv => rhs; unfold markGo
     rw [if_neg (by omega)]
     exact markGo_fuel _ _ _ _ (by omega) (by omega)
    ·simp [go_sem, markTxAnn, markTxSt]
   ·have hn0 : n = 0 := by simp at h; omega
    subst hn0
    simp only [markGo, if_true] at hr
    simp +decide only [go_sem]
    refine Runs.chk (by simp; show 1 + out.size ≤ _; omega) ?_
    refine Runs.ret_eq ?_
    rw [markT, if_neg ‹¬ ((n0 : Int) ≤ 0)›, hr]
    rfl
def markStringSt (L : List ByteArray) (k : Int) (i : Nat) : St := ⟨[.ms (.x 0) 0 L.length L.length, .v (.int .i64 (k + i)), .any, .any, .any, .v (.int .i64 i), .any, .any, .any, .any, .any, .any, .any, .any, .any, .any, .any, .any, .any, .any], [], [⟨true, 1, false, mkFill (mkStr k) (L.map strA) i⟩]⟩
include hm in
theorem markStringS (L : List ByteArray) (k : Int) (h1 : 0 ≤ k) (h2 : k + L.length ≤ 4611686018427387904) :
  Holds Tryz.prog 37 [.ms (.x 0) 0 L.length L.length, .v (.int .i64 k)] [⟨true, 1, false, L.map strA⟩] (.v (.int .i64 (k + L.length))) [⟨true, 1, false, (List.range L.length).map (mkStr k)⟩] := by
 refine holds_of (ann := mkAnn) tabOk hm Tryz.func37 (by kernel_rfl) rfl ?_
 simp +decide only [Tryz.f37, go_sem]
 refine Runs.while (α := Nat) (markStringSt L k) (fun i => L.length - i) (fun i => i ≤ L.length) 0 (by omega) ?_ ?_
 ·simp [go_sem, mkAnn, markStringSt, mkFill_zero]
 ·intro i hi ih
  have hlen := mkFill_length (mkStr k) (L.map strA) i (by simpa using hi)
  rw [List.length_map] at hlen
  simp +decide only [markStringSt, hlen, go_sem]
  refine Runs.split (fun h => ?_) (fun h => ?_)
  ·have hlt : i < L.length := by simpa using h
   have hg := mkFill_get (mkStr k) (L.map strA) i (by simpa using hlt)
   have hs := mkFill_set (mkStr k) (L.map strA) i (by simpa using hlt)
   simp only [List.getElem_map, strA] at hg
   simp only [mkStr, strA] at hs
   simp +decide (disch := first | omega | (simp only [ll]; omega)) only [hlen, hg, if_pos, go_sem]
   refine Runs.call (markText hm (k + i) (by omega) (by omega)) ?_
   simp +decide (disch := first | omega | (simp only [ll]; omega)) only [hlen, hg, hs, if_pos, go_sem]
   refine ih (i + 1) _ (by omega) (by omega) ?_
   simp [go_sem, mkAnn, markStringSt, Int.add_assoc]
  ·have hge : i = L.length := by simp at h; omega
   subst hge
   simp +decide only [hlen, mkFill_all _ _ (List.length_map _), go_sem]
   exact Runs.ret_refl
def hssS : Sched := .take 0 (.take 1 (.take 2 (.take 4 (.alt 3 (.alt 5 (.take 6 .fin) .nil) (.alt 5 (.alt 3 (.take 6 .fin) .nil) .nil)))))
attribute [local go_sem] hssS
def heldStringSt (n : Nat) (k : Int) (i : Nat) : St := ⟨[.sl .sh ((List.range n).map (mkStr k)), .v (.int .i64 (k + i)), .any, .any, .any, .v (.int .i64 i), .any, .any, .any, .any, .any, .any, .any, .any, .any, .any, .any, .any, .any, .any, .any, .any], [], []⟩
include hm in
theorem heldStringS (n : Nat) (k : Int) (h1 : 0 ≤ k) (h2 : k + n ≤ 4611686018427387904) :
  Holds Tryz.prog 42 [.sl .sh ((List.range n).map (mkStr k)), .v (.int .i64 k)] [] (.v (.int .i64 (k + n))) [] := by
 refine holds_of (ann := mkAnn) tabOk hm Tryz.func42 (by kernel_rfl) rfl ?_
 simp +decide only [Tryz.f42, go_sem]
 refine Runs.while (α := Nat) (heldStringSt n k) (fun i => n - i) (fun i => i ≤ n) 0 (by omega) ?_ ?_
 ·simp [go_sem, mkAnn, heldStringSt]
 ·intro i hi ih
  simp +decide only [heldStringSt, List.length_range, go_sem]
  refine Runs.split (fun h => ?_) (fun h => ?_)
  ·have hlt : i < n := by simpa using h
   have hg : ((List.range n).map (mkStr k)).getD i .any = mkStr k i := by simp [List.getD, hlt]
   have ht := markText hm (k + i) (by omega) (by omega)
   simp +decide only [go_sem]
   refine Runs.draw (st1 := ?s1) (draws_by (ann := mkAnn) tabOk hssS (by kernel_rfl) ?p1) ?q1
   case p1 =>
    intro K r X hK
    simp +decide (maxSteps := 9^7) (disch := first | omega | (simp only [ll]; omega)) only [hg, List.length_range, if_pos, go_sem]
    repeat' (first | exact hK | apply And.intro | (refine Runs.call ht ?_; simp +decide (maxSteps := 9^7) (disch := first | omega | (simp only [ll]; omega)) only [hg, List.length_range, if_pos, go_sem]))
   case q1 =>
    simp +decide (disch := first | omega | (simp only [ll]; omega)) only [hg, List.length_range, if_pos, go_sem]
    refine ih (i + 1) _ (by omega) (by omega) ?_
    simp [go_sem, mkAnn, heldStringSt, Int.add_assoc]
  ·have hge : i = n := by simp at h; omega
   subst hge
   simp +decide only [go_sem]
   exact Runs.ret_refl
end Go.Proofs.W

namespace Go.Proofs.W
open Go Go.AM Go.Proofs.G
set_option maxRecDepth 10000
variable (hm : Tryz.prog.follows .mixedOrders = true)
attribute [local go_sem] rowS_plain rowS_dn rowO_dn rowO_md
def mkRow (k : Int) (l : List Int) : List Int := (List.range l.length).map fun i : Nat => k + i
def mkRows : Int → List (List Int) → List (List Int)
 | _, [] => []
 | k, l :: r => mkRow k l :: mkRows (k + l.length) r
def cntR : List (List Int) → Nat
 | [] => 0
 | l :: r => l.length + cntR r
theorem mkRow_map (k : Int) (l : List Int) : (mkRow k l).map intA = (List.range l.length).map (mkInt k) := by
 rw [mkRow, List.map_map]; rfl
theorem mkRow_length (k : Int) (l : List Int) : (mkRow k l).length = l.length := by simp [mkRow]
theorem cntR_append : ∀ l m : List (List Int), cntR (l ++ m) = cntR l + cntR m
 | [], m => by simp [cntR]
 | x :: l, m => by simp only [List.cons_append, cntR, cntR_append l m]; omega
theorem mkRows_append : ∀ (l m : List (List Int)) (k : Int), mkRows k (l ++ m) = mkRows k l ++ mkRows (k + cntR l) m
 | [], m, k => by simp [mkRows, cntR]
 | x :: l, m, k => by
  simp only [List.cons_append, mkRows, cntR, mkRows_append l m]
  congr 3
  omega
theorem mkRows_length : ∀ (l : List (List Int)) (k : Int), (mkRows k l).length = l.length
 | [], k => rfl
 | x :: l, k => by simp [mkRows, mkRows_length l]
def curR (k : Int) (L : List (List Int)) (i : Nat) : List (List Int) := mkRows k (L.take i) ++ L.drop i
theorem curR_zero (k : Int) (L : List (List Int)) : curR k L 0 = L := by simp [curR, mkRows]
theorem curR_all (k : Int) (L : List (List Int)) : curR k L L.length = mkRows k L := by simp [curR]
theorem curR_get (k : Int) (L : List (List Int)) (i : Nat) (h : i < L.length) : (curR k L i)[i]? = some L[i] := by
 unfold curR
 rw [List.getElem?_append_right (by simp [mkRows_length]; omega)]
 simp [mkRows_length, h, Nat.min_eq_left (Nat.le_of_lt h)]
theorem cntR_succ (L : List (List Int)) (i : Nat) (h : i < L.length) : cntR (L.take (i + 1)) = cntR (L.take i) + L[i].length := by
 rw [List.take_succ_eq_append_getElem h, cntR_append]
 simp [cntR]
theorem cntR_take_le (L : List (List Int)) (i : Nat) : cntR (L.take i) ≤ cntR L := by
 have := cntR_append (L.take i) (L.drop i)
 rw [List.take_append_drop] at this
 omega
theorem curR_set (k : Int) (L : List (List Int)) (i : Nat) (h : i < L.length) : (curR k L i).set i (mkRow (k + cntR (L.take i)) L[i]) = curR k L (i + 1) := by
 unfold curR
 have hl : (mkRows k (L.take i)).length = i := by simp [mkRows_length]; omega
 rw [List.set_append_right _ _ (by omega), hl, Nat.sub_self, List.drop_eq_getElem_cons h, List.set_cons_zero, List.take_succ_eq_append_getElem h, mkRows_append, List.append_assoc]
 rfl
def subR (l : List Int) : Blk := ⟨true, 1, false, l.map intA⟩
def xpR : Nat → List (List Int) → List A
 | _, [] => []
 | j, l :: r => .ms (.x j) 0 l.length l.length :: xpR (j + 1) r
theorem xpL_rows : ∀ (L : List (List Int)) (j : Nat), xpL j (L.map rowO) = (xpR j L, L.map subR)
 | [], j => rfl
 | x :: r, j => by
  have e : xpA j (rowO x) = (.ms (.x j) 0 x.length x.length, [subR x]) := by simp [xpA, rowO, xpC, subR]
  simp only [List.map_cons, xpL, e, xpL_rows r, xpR, List.length_cons, List.length_nil, Nat.zero_add, List.singleton_append]
theorem xpOk_rows (L : List (List Int)) : xpOk (L.map rowO) = true := by
 unfold xpOk flat
 rw [List.all_flatMap, List.all_map]
 simp [rowO, A.cells, xpOkC]
theorem xpR_length : ∀ (L : List (List Int)) (j : Nat), (xpR j L).length = L.length
 | [], j => rfl
 | x :: r, j => by simp [xpR, xpR_length r]
theorem xpR_get : ∀ (L : List (List Int)) (j i : Nat) (x : List Int), L[i]? = some x → (xpR j L).getD i .any = .ms (.x (j + i)) 0 x.length x.length
 | [], j, i, x, h => by simp at h
 | y :: r, j, 0, x, h => by simp at h; subst h; rfl
 | y :: r, j, i + 1, x, h => by
  simp only [List.getElem?_cons_succ] at h
  have := xpR_get r (j + 1) i x h
  rw [show j + (i + 1) = j + 1 + i by omega, ← this]
  rfl
theorem xpR_congr : ∀ (L M : List (List Int)) (j : Nat), L.map List.length = M.map List.length → xpR j L = xpR j M
 | [], [], j, _ => rfl
 | [], y :: M, j, h => by simp at h
 | x :: L, [], j, h => by simp at h
 | x :: L, y :: M, j, h => by
  simp only [List.map_cons, List.cons.injEq] at h
  rw [xpR, xpR, h.1, xpR_congr L M (j + 1) h.2]
theorem mkRows_lens : ∀ (L : List (List Int)) (k : Int), (mkRows k L).map List.length = L.map List.length
 | [], k => rfl
 | x :: L, k => by simp only [mkRows, List.map_cons, mkRow_length, mkRows_lens L]
theorem xpR_mk (L : List (List Int)) (k : Int) (j : Nat) : xpR j (mkRows k L) = xpR j L := xpR_congr _ _ j (mkRows_lens L k)
theorem xpR_ok : ∀ (L : List (List Int)) (j : Nat), okIL isXp (xpR j L) = true
 | [], j => rfl
 | x :: r, j => by simp [xpR, okIL, A.okI, isXp, xpR_ok r]
theorem subR_all (L : List (List Int)) : (L.map subR).all isXB = true := by simp [subR, isXB]
theorem rd_rows (L : List (List Int)) : (if plainL (L.map rowO) = true then L.map rowS else L.map rowO) = L.map rowO := by
 cases L with
 | nil => rfl
 | cons x r => simp [plainL, rowO, A.plain, Sh.own]
theorem mkI_dn (k : Int) (n : Nat) : dnL ((List.range n).map (mkInt k)) = (List.range n).map (mkInt k) := by rw [dnL_map]; rfl
theorem mkRows_get (k : Int) (L : List (List Int)) (i : Nat) (h : i < L.length) : (mkRows k L)[i]? = some (mkRow (k + cntR (L.take i)) L[i]) := by
 have e : L = L.take i ++ L[i] :: L.drop (i + 1) := by rw [← List.drop_eq_getElem_cons h, List.take_append_drop]
 have := mkRows_append (L.take i) (L[i] :: L.drop (i + 1)) k
 rw [← e] at this
 rw [this, List.getElem?_append_right (by simp [mkRows_length]; omega)]
 simp [mkRows_length, Nat.min_eq_left (Nat.le_of_lt h), mkRows]
def mrSt (L : List (List Int)) (k : Int) (i : Nat) : St := ⟨[.ms (.x 0) 0 L.length L.length, .v (.int .i64 (k + cntR (L.take i))), .any, .any, .any, .v (.int .i64 i), .any, .any, .any, .any, .any, .any, .any, .any, .any, .any, .any, .any, .any], [], ⟨true, 1, true, xpR 1 L⟩ :: (curR k L i).map subR⟩
set_option maxHeartbeats 1000000 in
include hm in
theorem markRowX (L : List (List Int)) (k : Int) (h0 : L.length ≤ 1048576) (h1 : 0 ≤ k) (h2 : k + cntR L ≤ 4611686018427387904) :
  Holds Tryz.prog 41 [.ms (.x 0) 0 L.length L.length, .v (.int .i64 k)] (⟨true, 1, true, xpR 1 L⟩ :: L.map subR) (.v (.int .i64 (k + cntR L))) (⟨true, 1, true, xpR 1 L⟩ :: (mkRows k L).map subR) := by
 refine holds_ref (ann := mkAnn) tabOk hm (byL [16] []) Tryz.func41 (by kernel_rfl) rfl ?_
 have hlen := xpR_length L 1
 simp +decide only [Tryz.f41, hlen, go_sem]
 refine Runs.while (α := Nat) (mrSt L k) (fun i => L.length - i) (fun i => i ≤ L.length) 0 (by omega) ?_ ?_
 ·refine (only_x rfl ?_).trans ?_
  ·rw [List.all_cons, subR_all]; simp [isXB, xpR_ok]
  ·simp [go_sem, mkAnn, mrSt, curR_zero, cntR]
 ·intro i hi ih
  simp +decide only [mrSt, hlen, go_sem]
  refine Runs.split (fun h => ?_) (fun h => ?_)
  ·have hlt : i < L.length := by simpa using h
   have hc := cntR_take_le L (i + 1)
   have hcs := cntR_succ L i hlt
   have hg := xpR_get L 1 i _ (List.getElem?_eq_getElem hlt)
   have hsub : ((curR k L i).map subR)[i]? = some ⟨true, 1, false, L[i].map intA⟩ := by rw [List.getElem?_map, curR_get k L i hlt]; rfl
   have hsub2 : ((curR k L i).map subR).set i ⟨true, 1, false, (List.range L[i].length).map (mkInt (k + cntR (L.take i)))⟩ = (curR k L (i + 1)).map subR := by
    rw [← curR_set k L i hlt, List.map_set]
    simp only [subR, mkRow_map]
   have hmb := markIntS hm L[i] (k + cntR (L.take i)) (by omega) (by omega)
   rw [show 1 + i = i + 1 by omega] at hg
   simp +decide (disch := first | omega | (simp only [ll]; omega)) only [hlen, hg, List.getElem?_cons_succ, hsub, List.not_mem_nil, List.mem_cons, true_or, if_false, if_true, idxOf, List.getD_cons_zero, List.length_map, if_pos, go_sem]
   refine Runs.call hmb ?_
   simp +decide (disch := first | omega | (simp only [ll]; omega)) only [hlen, hg, List.getElem?_cons_succ, List.set_cons_succ, hsub2, List.getD_cons_zero, List.length_map, if_pos, go_sem]
   refine ih (i + 1) _ (by omega) hlt ?_
   refine (only_x rfl ?_).trans ?_
   ·rw [List.all_cons, subR_all]; simp [isXB, xpR_ok]
   ·have e : k + ↑(cntR (List.take i L)) + L[i].length = k + ↑(cntR (List.take (i + 1) L)) := by omega
    simp [go_sem, mkAnn, mrSt, e]
  ·have hge : i = L.length := by simp at h; omega
   subst hge
   simp +decide only [hlen, curR_all, List.take_length, isXB, xpR_ok, subR_all, go_sem]
   exact Runs.ret_refl
include hm in
theorem markIntSS (L : List (List Int)) (k : Int) (h0 : L.length ≤ 1048576) (h1 : 0 ≤ k) (h2 : k + cntR L ≤ 4611686018427387904) :
  Holds Tryz.prog 41 [.ms (.x 0) 0 L.length L.length, .v (.int .i64 k)] [⟨true, 1, false, L.map rowO⟩] (.v (.int .i64 (k + cntR L))) [⟨true, 1, false, (mkRows k L).map rowO⟩] := by
 refine holds_explode (xpOk_rows L) (xpOk_rows _) ?_
 rw [xpL_rows, xpL_rows, xpR_mk]
 exact markRowX hm L k h0 h1 h2
def hrSt (L : List (List Int)) (k : Int) (i : Nat) : St := ⟨[.sl .sh ((mkRows k L).map rowS), .v (.int .i64 (k + cntR (L.take i))), .any, .any, .any, .v (.int .i64 i), .any, .any, .any, .any, .any, .any, .any, .any, .any, .any, .any, .any, .any, .any, .any], [], []⟩
set_option maxHeartbeats 1000000 in
include hm in
theorem heldIntSS (L : List (List Int)) (k : Int) (h0 : L.length ≤ 1048576) (h1 : 0 ≤ k) (h2 : k + cntR L ≤ 4611686018427387904) :
  Holds Tryz.prog 44 [.sl .sh ((mkRows k L).map rowS), .v (.int .i64 k)] [] (.v (.int .i64 (k + cntR L))) [] := by
 refine holds_of (ann := mkAnn) tabOk hm Tryz.func44 (by kernel_rfl) rfl ?_
 have hlen : ((mkRows k L).map rowS).length = L.length := by rw [List.length_map, mkRows_length]
 simp +decide only [Tryz.f44, hlen, go_sem]
 refine Runs.while (α := Nat) (hrSt L k) (fun i => L.length - i) (fun i => i ≤ L.length) 0 (by omega) ?_ ?_
 ·simp [go_sem, mkAnn, hrSt, cntR]
 ·intro i hi ih
  simp +decide only [hrSt, hlen, go_sem]
  refine Runs.split (fun h => ?_) (fun h => ?_)
  ·have hlt : i < L.length := by simpa using h
   have hc := cntR_take_le L (i + 1)
   have hcs := cntR_succ L i hlt
   have hg : ((mkRows k L).map rowS).getD i .any = .sl .sh ((List.range L[i].length).map (mkInt (k + cntR (L.take i)))) := by
    rw [List.getD, List.getElem?_map, mkRows_get k L i hlt]
    simp only [Option.map_some, Option.getD_some, rowS, mkRow_map]
   have hmb := heldIntS hm L[i].length (k + cntR (L.take i)) (by omega) (by omega)
   have hd : decide (k + cntR (L.take i) + (L[i].length : Int) < 0) = false := by simp; omega
   simp +decide (disch := first | omega | (simp only [ll]; omega)) only [hlen, hg, mkI_dn, if_pos, go_sem]
   refine Runs.call hmb ?_
   simp +decide (disch := first | omega | (simp only [ll]; omega)) only [hlen, hg, hd, mkI_dn, if_pos, go_sem]
   refine ih (i + 1) _ (by omega) hlt ?_
   have e : k + ↑(cntR (List.take i L)) + L[i].length = k + ↑(cntR (List.take (i + 1) L)) := by omega
   simp [go_sem, mkAnn, hrSt, e]
  ·have hge : i = L.length := by simp at h; omega
   subst hge
   simp +decide only [List.take_length, go_sem]
   exact Runs.ret_v
def certX (c : GCert) : A := .agg [.v (.int .i64 c.serial), .ms (.x 0) 0 c.issuer.length c.issuer.length, .ms (.x 1) 0 c.subject.length c.subject.length, .v (.int .i64 c.from'), .v (.int .i64 c.tu), .v (.int .i64 c.key.kind), .ms (.x 2) 0 c.key.N.length c.key.N.length, .v (.int .i64 c.key.e), .v (.int .i64 c.key.cv.p), .v (.int .i64 c.key.cv.a), .v (.int .i64 c.key.cv.b), .v (.int .i64 c.key.cv.n), .v (.int .i64 c.key.cv.gx), .v (.int .i64 c.key.cv.gy), .v (.int .i64 c.key.q.x), .v (.int .i64 c.key.q.y), .v (.bool c.key.q.far), .v (.int .i64 c.key.ed.p), .v (.int .i64 c.key.ed.d), .v (.int .i64 c.key.ed.l), .v (.int .i64 c.key.ed.bx), .v (.int .i64 c.key.ed.by'), .v (.int .i64 c.key.a.1), .v (.int .i64 c.key.a.2), .v (.int .i64 c.alg), .v (.bool c.ca), .v (.int .i64 c.path), .v (.int .i64 c.usage), .ms (.x 3) 0 c.ho.length c.ho.length, .ms (.x 4) 0 c.ne.length c.ne.length, .ms (.x 5) 0 c.al.length c.al.length, .ms (.x 6) 0 c.de.length c.de.length, .ms (.x 7) 0 c.pu.length c.pu.length, .ms (.x 8) 0 c.sig.length c.sig.length]
def strK (L : List ByteArray) : Blk := ⟨true, 1, false, L.map strA⟩
def intK (L : List Int) : Blk := ⟨true, 1, false, L.map intA⟩
def bytK (L : List Int) : Blk := ⟨true, 1, false, L.map u8A⟩
def rowK (L : List (List Int)) : Blk := ⟨true, 1, false, L.map rowO⟩
def certBs (c : GCert) : List Blk := [strK c.issuer, strK c.subject, intK c.key.N, strK c.ho, rowK c.ne, strK c.al, strK c.de, intK c.pu, bytK c.sig]
def exK (c : GCert) (k : Int) : Int := k + c.ho.length + cntR c.ne + c.al.length + c.de.length + c.pu.length
def certK0 (c : GCert) (k : Int) : Int := k + c.issuer.length + c.subject.length + c.key.N.length
def certK (c : GCert) (k : Int) : Int := exK c (certK0 c k) + c.sig.length
def strM (n : Nat) (k : Int) : Blk := ⟨true, 1, false, (List.range n).map (mkStr k)⟩
def intM (n : Nat) (k : Int) : Blk := ⟨true, 1, false, (List.range n).map (mkInt k)⟩
def bytM (n : Nat) (k : Int) : Blk := ⟨true, 1, false, (List.range n).map (mkByte k)⟩
def exBs (c : GCert) : List Blk := [strK c.ho, rowK c.ne, strK c.al, strK c.de, intK c.pu]
def exMs (c : GCert) (k : Int) : List Blk := [strM c.ho.length k, rowK (mkRows (k + c.ho.length) c.ne), strM c.al.length (k + c.ho.length + cntR c.ne), strM c.de.length (k + c.ho.length + cntR c.ne + c.al.length), intM c.pu.length (k + c.ho.length + cntR c.ne + c.al.length + c.de.length)]
def certMs (c : GCert) (k : Int) : List Blk := strM c.issuer.length k :: strM c.subject.length (k + c.issuer.length) :: intM c.key.N.length (k + c.issuer.length + c.subject.length) :: (exMs c (certK0 c k) ++ [bytM c.sig.length (exK c (certK0 c k))])
set_option maxHeartbeats 4000000 in
include hm in
theorem markExts (c : GCert) (k : Int) (h0 : c.ne.length ≤ 1048576) (h1 : 0 ≤ k) (h2 : exK c k ≤ 4611686018427387904) :
  Holds Tryz.prog 39 [.agg [.v (.bool c.ca), .v (.int .i64 c.path), .v (.int .i64 c.usage), .ms (.x 0) 0 c.ho.length c.ho.length, .ms (.x 1) 0 c.ne.length c.ne.length, .ms (.x 2) 0 c.al.length c.al.length, .ms (.x 3) 0 c.de.length c.de.length, .ms (.x 4) 0 c.pu.length c.pu.length], .v (.int .i64 k)] (exBs c) (.v (.int .i64 (exK c k))) (exMs c k) := by
 simp only [exK] at h2
 have m1 := markStringS hm c.ho k h1 (by omega)
 have m2 := markIntSS hm c.ne (k + c.ho.length) h0 (by omega) (by omega)
 have m3 := markStringS hm c.al (k + c.ho.length + cntR c.ne) (by omega) (by omega)
 have m4 := markStringS hm c.de (k + c.ho.length + cntR c.ne + c.al.length) (by omega) (by omega)
 have m5 := markIntS hm c.pu (k + c.ho.length + cntR c.ne + c.al.length + c.de.length) (by omega) (by omega)
 have hr := rd_rows c.ne
 refine holds_ref (ann := []) tabOk hm (byL [37, 41, 16] []) Tryz.func39 (by kernel_rfl) rfl ?_
 simp +decide only [Tryz.f39, exBs, strK, intK, rowK, hr, go_sem]
 refine Runs.call m1 ?_
 simp +decide only [hr, go_sem]
 refine Runs.call m2 ?_
 simp +decide only [hr, go_sem]
 refine Runs.call m3 ?_
 simp +decide only [go_sem]
 refine Runs.call m4 ?_
 simp +decide only [go_sem]
 refine Runs.call m5 ?_
 simp +decide only [exK, exMs, strM, intM, rowK, go_sem]
 exact Runs.ret_refl
set_option maxHeartbeats 4000000 in
include hm in
theorem markCKey (c : GCert) (m : Int) (h1 : 0 ≤ m) (h2 : m + c.key.N.length ≤ 4611686018427387904) :
  Holds Tryz.prog 38 [.agg [.v (.int .i64 c.key.kind), .ms (.x 0) 0 c.key.N.length c.key.N.length, .v (.int .i64 c.key.e), .v (.int .i64 c.key.cv.p), .v (.int .i64 c.key.cv.a), .v (.int .i64 c.key.cv.b), .v (.int .i64 c.key.cv.n), .v (.int .i64 c.key.cv.gx), .v (.int .i64 c.key.cv.gy), .v (.int .i64 c.key.q.x), .v (.int .i64 c.key.q.y), .v (.bool c.key.q.far), .v (.int .i64 c.key.ed.p), .v (.int .i64 c.key.ed.d), .v (.int .i64 c.key.ed.l), .v (.int .i64 c.key.ed.bx), .v (.int .i64 c.key.ed.by'), .v (.int .i64 c.key.a.1), .v (.int .i64 c.key.a.2)], .v (.int .i64 m)]
   [⟨true, 1, false, c.key.N.map intA⟩] (.v (.int .i64 (m + c.key.N.length))) [⟨true, 1, false, (List.range c.key.N.length).map (mkInt m)⟩] := by
 refine holds_ref (ann := []) tabOk hm (byL [16] []) Tryz.func38 (by kernel_rfl) rfl ?_
 simp +decide only [Tryz.f38, go_sem]
 refine Runs.call (markIntS hm c.key.N m h1 h2) ?_
 simp +decide only [go_sem]
 exact Runs.ret_refl
set_option maxHeartbeats 4000000 in
include hm in
theorem markCert (c : GCert) (k : Int) (h0 : c.ne.length ≤ 1048576) (h1 : 0 ≤ k) (h2 : certK c k ≤ 4611686018427387904) :
  Holds Tryz.prog 14 [certX c, .v (.int .i64 k)] (certBs c) (.v (.int .i64 (certK c k))) (certMs c k) := by
 have h3 := h2
 simp only [certK, exK, certK0] at h3
 have m1 := markStringS hm c.issuer k h1 (by omega)
 have m2 := markStringS hm c.subject (k + c.issuer.length) (by omega) (by omega)
 have m3 := markCKey hm c (k + c.issuer.length + c.subject.length) (by omega) (by omega)
 have m4 := markExts hm c (certK0 c k) h0 (by simp only [certK0]; omega) (by simp only [exK, certK0]; omega)
 have m5 := markByteS hm c.sig (exK c (certK0 c k)) (by simp only [exK, certK0]; omega) (by simp only [exK, certK0]; omega)
 have hr := rd_rows c.ne
 simp only [exBs, exMs, certK0, exK, strK, intK, rowK, strM, intM] at m4 m5
 refine holds_ref (ann := []) tabOk hm (byL [37, 38, 39, 40] []) Tryz.func14 (by kernel_rfl) rfl ?_
 simp +decide only [Tryz.f14, certX, certBs, strK, intK, rowK, bytK, hr, go_sem]
 refine Runs.call m1 ?_
 simp +decide only [hr, go_sem]
 refine Runs.call m2 ?_
 simp +decide only [hr, go_sem]
 refine Runs.call m3 ?_
 simp +decide only [hr, go_sem]
 refine Runs.call m4 ?_
 simp +decide only [hr, go_sem]
 refine Runs.call m5 ?_
 simp +decide only [certK, exK, certK0, certMs, exMs, strM, intM, bytM, rowK, List.cons_append, List.nil_append, go_sem]
 exact Runs.ret_refl
end Go.Proofs.W

namespace Go.Proofs.W
open Go Go.AM Go.Proofs.G
theorem cntR_four : ∀ L : List (List Int), (∀ r ∈ L, r.length ≤ 1048576) → cntR L ≤ L.length * 1048576
 | [], _ => by simp [cntR]
 | x :: r, h => by
  have h1 := h x (List.mem_cons_self ..)
  have h2 := cntR_four r fun y hy => h y (List.mem_cons_of_mem _ hy)
  simp only [cntR, List.length_cons, Nat.succ_mul]
  omega
theorem mkb_plain (k : Int) (n : Nat) : dnL ((List.range n).map (mkByte k)) = (List.range n).map (mkByte k) := by rw [dnL_map]; rfl
theorem mki_plain (k : Int) (n : Nat) : dnL ((List.range n).map (mkInt k)) = (List.range n).map (mkInt k) := by rw [dnL_map]; rfl
end Go.Proofs.W
