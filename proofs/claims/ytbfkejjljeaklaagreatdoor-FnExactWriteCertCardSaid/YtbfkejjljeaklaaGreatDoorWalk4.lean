import Derived.Test.YtbfkejjljeaklaaGreatDoorWalk3
set_option linter.unusedVariables false
set_option linter.unusedSimpArgs false
namespace Go.Proofs.W
open Go Go.AM
variable (hm : Tryz.prog.follows .mixedOrders = true)
theorem wNL_take (l : List Nd) (i : Nat) : wNL (l.take i) ≤ wNL l := by
  have := wNL_app (l.take i) (l.drop i)
  rw [List.take_append_drop] at this
  omega
theorem wN_get {ks : List Nd} {i : Nat} (h : i < ks.length) : wN ks[i] ≤ wNL ks := by
  have h1 := wNL_take ks (i + 1)
  rw [List.take_succ_eq_append_getElem h, wNL_app] at h1
  simp only [wNL] at h1
  omega
def byAnn : Ann := [(0, [1, 3, 11, 12, 13])]
def bySch : Sched := .take 0 (.take 1 (.take 2 (.take 3 (.take 4 (.alt 5 (.alt 6 (.alt 7 (.alt 8 (.take 9 .fin) .nil) .nil) .nil) (.alt 6 (.alt 5 (.alt 7 (.alt 8 (.take 9 .fin) .nil) .nil) (.alt 7 (.alt 5 (.alt 8 (.take 9 .fin) .nil) .nil) .nil)) .nil))))))
def bySt (t : Int) (b : List Int) (ks : List Nd) : Nat → St
  | 0 => ⟨[.any, .ptr [.agg [.v (.int .i64 t), .sl .sh (b.map u8A), .sl .sh (nodesS ks)]] 0 0, .any, .sl .sh (b.map u8A), .any, .any, .any, .any, .any, .any, .any, .sl .sh (nodesS ks), .v (.int .i64 ks.length), .v (.int .i64 0), .any, .any, .any, .any, .any, .any, .any, .any, .any, .any, .any, .any, .any, .any, .any, .any, .any, .any, .any, .any, .any, .any, .any, .any, .any, .any, .any, .any, .any, .any, .any, .any, .any, .any, .any, .any, .any, .any, .any, .any, .any, .any, .any, .any, .any, .any], [], []⟩
  | i + 1 => ⟨[.any, .ptr [.agg [.v (.int .i64 t), .sl .sh (b.map u8A), .sl .sh (nodesS ks)]] 0 0, .any, .ms (.l 0) 0 (encL (ks.take (i + 1))).length (encL (ks.take (i + 1))).length, .any, .any, .any, .any, .any, .any, .any, .sl .sh (nodesS ks), .v (.int .i64 ks.length), .v (.int .i64 (i + 1 : Nat)), .any, .any, .any, .any, .any, .any, .any, .any, .any, .any, .any, .any, .any, .any, .any, .any, .any, .any, .any, .any, .any, .any, .any, .any, .any, .any, .any, .any, .any, .any, .any, .any, .any, .any, .any, .any, .any, .any, .any, .any, .any, .any, .any, .any, .any, .any], [(0, ⟨true, 1, false, (encL (ks.take (i + 1))).map u8A⟩)], []⟩
attribute [local go_sem] bySch
set_option maxRecDepth 10000 in
set_option maxHeartbeats 2000000 in
include hm in
theorem bytes : ∀ (m : Nat) (n : Nd), szN n ≤ m → okN n → wN n ≤ 1000000 → kidsLe 1000000 n → Holds Tryz.prog 66 [nodeS n] [] (.sl (.ow 1) ((enc n).map u8A)) [] := by
  intro m
  induction m with
  | zero => intro n h; cases n; simp [szN] at h
  | succ m IH =>
    rintro ⟨t, b, ks⟩ hz ⟨hk1, hk2⟩ hw ⟨hl1, hl2⟩
    simp only [szN] at hz
    simp only [wN] at hw
    refine holds_ref (ann := byAnn) tabOk hm (byL [] [1000001]) Tryz.func66 (by kernel_rfl) rfl ?_
    simp +decide only [Tryz.f66, nodeS, go_sem, Nat.reduceAdd, Nat.reduceMul, Nat.reduceSub]
    refine Runs.while (α := Nat) (bySt t b ks) (fun i => ks.length - i) (fun i => i ≤ ks.length) 0 (by omega) ?_ ?_
    · simp [go_sem, byAnn, bySt]
    · intro i hi ih
      cases i with
      | zero =>
        cases ks with
        | nil =>
          simp +decide (disch := first | omega | (simp only [ll]; omega)) only [bySt, nodesS, if_pos, go_sem, Nat.reduceAdd, Nat.reduceMul, Nat.reduceSub]
          have hB : b.length ≤ 1000000 := by omega
          refine Runs.split (fun h1 => ?_) (fun h1 => ?_)
          · simp only [decide_eq_true_eq] at h1
            have w8 : IntKind.u8.wrap ((b.length : Nat) : Int) = (b.length : Nat) := wrap_u8 (by omega) (by omega)
            have e7 : l7Len b.length = [ib b.length] := by rw [l7Len, if_pos (by omega)]
            simp +decide (disch := first | omega | (simp only [ll]; omega)) only [if_pos, go_sem, Nat.reduceAdd, Nat.reduceMul, Nat.reduceSub]
            refine Runs.ret_eq ?_
            simp [enc, encL, e7, ib, u8A, w8]
          · simp only [decide_eq_false_iff_not] at h1
            simp +decide only [go_sem, Nat.reduceAdd, Nat.reduceMul, Nat.reduceSub]
            refine Runs.split (fun h2 => ?_) (fun h2 => ?_)
            · simp only [decide_eq_true_eq] at h2
              have w8 : IntKind.u8.wrap ((b.length : Nat) : Int) = (b.length : Nat) := wrap_u8 (by omega) (by omega)
              have e7 : l7Len b.length = [129, ib b.length] := by rw [l7Len, if_neg (by omega), if_pos (by omega)]
              simp +decide (disch := first | omega | (simp only [ll]; omega)) only [if_pos, go_sem, Nat.reduceAdd, Nat.reduceMul, Nat.reduceSub]
              refine Runs.ret_eq ?_
              simp [enc, encL, e7, ib, u8A, w8]
            · simp only [decide_eq_false_iff_not] at h2
              have e7 : l7Len b.length = [130, ib (b.length / 256 : Nat), ib b.length] := by rw [l7Len, if_neg (by omega), if_neg (by omega)]
              simp +decide (disch := first | omega | (simp only [ll]; omega)) only [shr8n, if_pos, go_sem, Nat.reduceAdd, Nat.reduceMul, Nat.reduceSub]
              refine Runs.ret_eq ?_
              simp [enc, encL, e7, ib, u8A]
        | cons k0 ks0 =>
          have hb : b = [] := by simpa using hk1
          have hlt : 0 < (k0 :: ks0).length := by simp
          subst hb
          generalize k0 :: ks0 = ks at *
          have e5 := IH ks[0] (by have := szN_get hlt; omega) (okN_get hlt hk2) (by have := wN_get hlt; omega) (kidsLe_get hlt hl2)
          have e6 := nodesS_get hlt
          have e8 := enc_le ks[0]
          have e9 := wN_get hlt
          have e10 : encL (ks.take 1) = enc ks[0] := by rw [List.take_succ_eq_append_getElem hlt]; simp [encL]
          generalize ks[0] = k at *
          obtain ⟨t', b', ks'⟩ := k
          rw [nodeS] at e5 e6
          have e6' : (nodesS ks).getD (Int.toNat 0) .any = _ := e6
          simp +decide only [bySt, go_sem, Nat.reduceAdd, Nat.reduceMul, Nat.reduceSub]
          refine Runs.split (fun h => ?_) (fun h => ?_)
          · simp +decide (disch := first | omega | (simp only [ll]; omega)) only [e6', if_pos, go_sem, Nat.reduceAdd, Nat.reduceMul, Nat.reduceSub]
            refine Runs.draw (st1 := ?s1) (draws_ref (ann := byAnn) tabOk (byL [] [1000001]) bySch (by kernel_rfl) ?p1) ?q1
            case p1 =>
              intro K r X hK
              simp +decide (disch := first | omega | (simp only [ll]; omega)) only [if_pos, go_sem, Nat.reduceAdd, Nat.reduceMul, Nat.reduceSub]
              repeat' apply And.intro
              all_goals
                refine Runs.call e5 ?_
                simp +decide (disch := first | omega | (simp only [ll]; omega)) only [if_pos, go_sem, Nat.reduceAdd, Nat.reduceMul, Nat.reduceSub]
                exact hK
            case q1 =>
              simp +decide (disch := first | omega | (simp only [ll]; omega)) only [if_pos, go_sem, Nat.reduceAdd, Nat.reduceMul, Nat.reduceSub]
              refine ih 1 _ (by omega) (by omega) ?_
              simp [go_sem, byAnn, bySt, e10]
          · have := of_decide_eq_false h; omega
      | succ i =>
        have hlen := encL_le (ks.take (i + 1))
        have hlw := wNL_take ks (i + 1)
        simp +decide only [bySt, go_sem, Nat.reduceAdd, Nat.reduceMul, Nat.reduceSub]
        refine Runs.split (fun h => ?_) (fun h => ?_)
        · have hlt : i + 1 < ks.length := by simp at h; omega
          have e5 := IH ks[i + 1] (by have := szN_get hlt; omega) (okN_get hlt hk2) (by have := wN_get hlt; omega) (kidsLe_get hlt hl2)
          have e6 := nodesS_get hlt
          have e8 := enc_le ks[i + 1]
          have e9 := wN_get hlt
          have e10 : encL (ks.take (i + 2)) = encL (ks.take (i + 1)) ++ enc ks[i + 1] := by rw [List.take_succ_eq_append_getElem hlt, encL_app, encL_one]
          have e11 : wNL (ks.take (i + 1)) + wN ks[i + 1] ≤ wNL ks := by
            have := wNL_take ks (i + 2)
            rw [List.take_succ_eq_append_getElem hlt, wNL_app] at this
            simpa [wNL] using this
          generalize ks[i + 1] = k at *
          obtain ⟨t', b', ks'⟩ := k
          rw [nodeS] at e5 e6
          have hw1 : IntKind.i64.wrap (((i + 1 : Nat) : Int) + 1) = ((i + 1 + 1 : Nat) : Int) := by rw [wrap_i64 (by omega) (by omega)]; omega
          simp +decide (disch := first | omega | (simp only [ll]; omega)) only [e6, if_pos, go_sem, Nat.reduceAdd, Nat.reduceMul, Nat.reduceSub]
          refine Runs.draw (st1 := ?s2) (draws_ref (ann := byAnn) tabOk (byL [] [1000001]) bySch (by kernel_rfl) ?p2) ?q2
          case p2 =>
            intro K r X hK
            simp +decide (disch := first | omega | (simp only [ll]; omega)) only [if_pos, go_sem, Nat.reduceAdd, Nat.reduceMul, Nat.reduceSub]
            repeat' apply And.intro
            all_goals
              refine Runs.call e5 ?_
              simp +decide (disch := first | omega | (simp only [ll]; omega)) only [if_pos, go_sem, Nat.reduceAdd, Nat.reduceMul, Nat.reduceSub]
              exact hK
          case q2 =>
            simp +decide (disch := first | omega | (simp only [ll]; omega)) only [hw1, if_pos, go_sem, Nat.reduceAdd, Nat.reduceMul, Nat.reduceSub]
            refine ih (i + 1 + 1) _ (by omega) (by omega) ?_
            simp [go_sem, byAnn, bySt, e10]
        · have hge : ks.length = i + 1 := by simp at h; omega
          have hb : b = [] := by
            rcases hk1 with h | h
            · subst h; simp at hge
            · exact h
          have ht : ks.take (i + 1) = ks := by rw [← hge, List.take_length]
          subst hb
          rw [ht] at hlen hlw
          simp +decide (disch := first | omega | (simp only [ll]; omega)) only [ht, if_pos, go_sem, Nat.reduceAdd, Nat.reduceMul, Nat.reduceSub]
          have hB : (encL ks).length ≤ 1000000 := by omega
          refine Runs.split (fun h1 => ?_) (fun h1 => ?_)
          · simp only [decide_eq_true_eq] at h1
            have w8 : IntKind.u8.wrap (((encL ks).length : Nat) : Int) = ((encL ks).length : Nat) := wrap_u8 (by omega) (by omega)
            have e7 : l7Len (encL ks).length = [ib (encL ks).length] := by rw [l7Len, if_pos (by omega)]
            simp +decide (disch := first | omega | (simp only [ll]; omega)) only [if_pos, go_sem, Nat.reduceAdd, Nat.reduceMul, Nat.reduceSub]
            refine Runs.ret_eq ?_
            simp [enc, e7, ib, u8A, w8]
          · simp only [decide_eq_false_iff_not] at h1
            simp +decide only [go_sem, Nat.reduceAdd, Nat.reduceMul, Nat.reduceSub]
            refine Runs.split (fun h2 => ?_) (fun h2 => ?_)
            · simp only [decide_eq_true_eq] at h2
              have w8 : IntKind.u8.wrap (((encL ks).length : Nat) : Int) = ((encL ks).length : Nat) := wrap_u8 (by omega) (by omega)
              have e7 : l7Len (encL ks).length = [129, ib (encL ks).length] := by rw [l7Len, if_neg (by omega), if_pos (by omega)]
              simp +decide (disch := first | omega | (simp only [ll]; omega)) only [if_pos, go_sem, Nat.reduceAdd, Nat.reduceMul, Nat.reduceSub]
              refine Runs.ret_eq ?_
              simp [enc, e7, ib, u8A, w8]
            · simp only [decide_eq_false_iff_not] at h2
              have e7 : l7Len (encL ks).length = [130, ib ((encL ks).length / 256 : Nat), ib (encL ks).length] := by rw [l7Len, if_neg (by omega), if_neg (by omega)]
              simp +decide (disch := first | omega | (simp only [ll]; omega)) only [shr8n, if_pos, go_sem, Nat.reduceAdd, Nat.reduceMul, Nat.reduceSub]
              refine Runs.ret_eq ?_
              simp [enc, e7, ib, u8A]
end Go.Proofs.W

namespace Go.Proofs.W
open Go Go.AM
variable (hm : Tryz.prog.follows .mixedOrders = true)
def sumB (L : List It) : Nat := (L.map fun x => x.body.length).sum
def derN (L : List It) : Nd := (nestP L 13 0).1
def derOk (L : List It) : Bool := treeOk L && decide (sumB L ≤ 4000) && decide ((enc (derN L)).length ≤ 4000)
def derB (L : List It) : List Int := if derOk L = true then enc (derN L) else []
def derA (L : List It) : A := .tup [.sl (.ow 1) ((derB L).map u8A), .v (.bool (derOk L))]
def sumT (L : List It) (i : Nat) : Nat := sumB (L.take i)
theorem sumT_succ {L : List It} {i : Nat} (h : i < L.length) : sumT L (i + 1) = sumT L i + L[i].body.length := by
  rw [sumT, List.take_succ_eq_append_getElem h, sumB, List.map_append, List.sum_append]
  rw [List.map_cons, List.map_nil, List.sum_cons, List.sum_nil, Nat.add_zero]
  rfl
theorem sumT_all (L : List It) : sumT L L.length = sumB L := by rw [sumT, List.take_length]
theorem sumT_le (L : List It) (i : Nat) : sumT L i ≤ sumB L := by
  rw [sumT, sumB, sumB, List.map_take]
  exact sum_take_le _ _
theorem wI_sum (L : List It) : wI L L.length = sumB L + 4 * L.length := by
  rw [wI, List.take_length, sumB]
  induction L with
  | nil => rfl
  | cons x L ih => simp only [List.map_cons, List.sum_cons, List.length_cons, ih]; omega
mutual
theorem kidsLe_w : ∀ {m : Nat} (n : Nd), wN n ≤ m → kidsLe m n
  | m, .mk t b ks, h => by
    simp only [wN] at h
    exact ⟨by have := len_w ks; omega, kidsLeL_w ks (by omega)⟩
theorem kidsLeL_w : ∀ {m : Nat} (l : List Nd), wNL l ≤ m → kidsLeL m l
  | m, [], h => trivial
  | m, n :: r, h => by
    simp only [wNL] at h
    exact ⟨kidsLe_w n (by omega), kidsLeL_w r (by omega)⟩
theorem len_w : ∀ (l : List Nd), l.length ≤ wNL l
  | [] => by simp
  | .mk t b ks :: r => by
    have := len_w r
    simp only [wNL, wN, List.length_cons]
    omega
end
theorem tree_end {L : List It} (h : treeOk L = true) : endP L 13 0 = some L.length := by
  simp only [treeOk, Bool.and_eq_true, decide_eq_true_eq] at h
  have := h.2
  cases e : endP L 13 0 with
  | none => rw [e, endI] at this; omega
  | some n => rw [e, endI] at this; congr 1; omega
theorem tree_len {L : List It} (h : treeOk L = true) : L.length ≤ 300 := by
  simp only [treeOk, inB, Bool.and_eq_true, decide_eq_true_eq] at h
  omega
theorem tree_all {L : List It} (h : treeOk L = true) : L.all itOk = true := by
  simp only [treeOk, Bool.and_eq_true, decide_eq_true_eq] at h
  exact h.1.2
theorem der_wt {L : List It} (h : treeOk L = true) : wN (derN L) = sumB L + 4 * L.length := by
  have h1 := (nestP_wt 13 0 _ (tree_end h)).2
  have h2 : wI L 0 = 0 := rfl
  rw [wI_sum, h2] at h1
  exact h1
theorem der_no {L : List It} (h : derOk L = false) : derA L = .tup [.sl (.ow 1) [], .v (.bool false)] := by
  rw [derA, derB, h]; rfl
def wdAnn : Ann := [(0, [0, 4, 5])]
def wdSt (L : List It) (i : Nat) : St := ⟨[.sl .sh (L.map itemS), .any, .any, .any, .v (.int .i64 (sumT L i)), .v (.int .i64 i), .any, .any, .any, .any, .any, .any, .any, .any, .any, .any, .any, .any, .any, .any, .any, .any, .any, .any, .any, .any, .any, .any, .any, .any, .any, .any, .any, .any, .any, .any, .any, .any, .any, .any, .any, .any, .any, .any, .any, .any, .any], [], []⟩
set_option maxRecDepth 10000 in
include hm in
theorem specWriteDer (L : List It) (hl : L.length ≤ 1000000) : Holds Tryz.prog 18 [.sl .sh (L.map itemS)] [] (derA L) [] := by
  refine holds_of (ann := wdAnn) tabOk hm Tryz.func18 (by kernel_rfl) rfl ?_
  simp +decide only [Tryz.f18, go_sem, Nat.reduceAdd, Nat.reduceMul, Nat.reduceSub]
  refine Runs.call (specTreeOk hm L hl) ?_
  simp +decide only [go_sem, Nat.reduceAdd, Nat.reduceMul, Nat.reduceSub]
  refine Runs.split (fun h => ?_) (fun h => ?_)
  · have h' : treeOk L = false := by simpa using h
    simp +decide only [go_sem, Nat.reduceAdd, Nat.reduceMul, Nat.reduceSub]
    exact Runs.ret_eq (by rw [der_no (by simp [derOk, h'])])
  · have h' : treeOk L = true := by simpa using h
    have hlen := tree_len h'
    simp +decide only [go_sem, Nat.reduceAdd, Nat.reduceMul, Nat.reduceSub]
    refine Runs.while (α := Nat) (wdSt L) (fun i => L.length - i) (fun i => i ≤ L.length ∧ sumT L i ≤ 4000 * i) 0 ⟨by omega, by simp [sumT, sumB]⟩ ?_ ?_
    · simp [go_sem, wdAnn, wdSt, sumT, sumB]
    · rintro i ⟨hi, hs⟩ ih
      simp +decide only [wdSt, go_sem, Nat.reduceAdd, Nat.reduceMul, Nat.reduceSub]
      refine Runs.split (fun h => ?_) (fun h => ?_)
      · have hlt : i < L.length := by simpa using h
        have hsu := sumT_succ hlt
        have hle := sumT_le L (i + 1)
        simp +decide (disch := first | omega | (simp only [ll]; omega)) only [getItem hlt, if_pos, go_sem, Nat.reduceAdd, Nat.reduceMul, Nat.reduceSub]
        refine Runs.split (fun h => ?_) (fun h => ?_)
        · have hb : 4000 < L[i].body.length := by simp at h; omega
          simp +decide (disch := first | omega | (simp only [ll]; omega)) only [if_pos, go_sem, Nat.reduceAdd, Nat.reduceMul, Nat.reduceSub]
          refine Runs.ret_eq (by rw [der_no]; simp [derOk]; omega)
        · have hb : ¬ 4000 < L[i].body.length := by simp at h; omega
          have hw1 : IntKind.i64.wrap ((sumT L i : Int) + (L[i].body.length : Int)) = (sumT L i : Int) + (L[i].body.length : Int) := wrap_i64 (by omega) (by omega)
          simp +decide (disch := first | omega | (simp only [ll]; omega)) only [hw1, if_pos, go_sem, Nat.reduceAdd, Nat.reduceMul, Nat.reduceSub]
          refine ih (i + 1) _ (by omega) ⟨by omega, by omega⟩ ?_
          simp [go_sem, wdAnn, wdSt, hsu, hw1]
      · have hge : i = L.length := by simp at h; omega
        subst hge
        rw [sumT_all]
        simp +decide only [go_sem, Nat.reduceAdd, Nat.reduceMul, Nat.reduceSub]
        refine Runs.split (fun h => ?_) (fun h => ?_)
        · have hb : 4000 < sumB L := by simp at h; omega
          simp +decide only [go_sem, Nat.reduceAdd, Nat.reduceMul, Nat.reduceSub]
          refine Runs.ret_eq (by rw [der_no]; simp [derOk]; omega)
        · have hb : sumB L ≤ 4000 := by simp at h; omega
          have hw := enc_le (derN L)
          rw [der_wt h'] at hw
          simp +decide only [go_sem, Nat.reduceAdd, Nat.reduceMul, Nat.reduceSub]
          refine Runs.call (l7Write hm L (kidsOk_of (tree_all h')) hl (by rw [wI_sum]; omega) 13 0 L.length (tree_end h')) ?_
          rw [show (nestP L 13 0).1 = derN L from rfl]
          simp +decide (disch := first | omega | (simp only [ll]; omega)) only [if_pos, go_sem, Nat.reduceAdd, Nat.reduceMul, Nat.reduceSub]
          refine Runs.split (fun h => ?_) (fun h => ?_)
          · have hd : derOk L = false := by simp at h; simp [derOk, h', hb]; omega
            simp +decide (disch := first | omega | (simp only [ll]; omega)) only [if_pos, go_sem, Nat.reduceAdd, Nat.reduceMul, Nat.reduceSub]
            refine Runs.ret_eq (by rw [der_no hd])
          · have hd : derOk L = true := by simp at h; simp [derOk, h', hb]; omega
            simp +decide (disch := first | omega | (simp only [ll]; omega)) only [if_pos, go_sem, Nat.reduceAdd, Nat.reduceMul, Nat.reduceSub]
            refine Runs.ret_eq (by rw [derA, derB, hd]; simp)
def weAnn : Ann := [(0, [0, 4, 10, 11, 12])]
def weSt (L : List It) (i : Nat) : St := ⟨[.sl .sh (L.map itemS), .any, .any, .any, .v (.int .i64 (sumT L i)), .any, .any, .any, .any, .any, .sl .sh (L.map itemS), .v (.int .i64 L.length), .v (.int .i64 i), .any, .any, .any, .any, .any, .any, .any, .any, .any, .any, .any, .any, .any, .any, .any, .any, .any, .any, .any, .any, .any, .any, .any, .any, .any, .any, .any], [], []⟩
set_option maxRecDepth 10000 in
include hm in
theorem implWriteDer (L : List It) (hl : L.length ≤ 1000000) (hb : ∀ x ∈ L, x.body.length ≤ 1073741824) : Holds Tryz.prog 27 [.sl .sh (L.map itemS)] [] (derA L) [] := by
  refine holds_of (ann := weAnn) tabOk hm Tryz.func27 (by kernel_rfl) rfl ?_
  simp +decide only [Tryz.f27, go_sem, Nat.reduceAdd, Nat.reduceMul, Nat.reduceSub]
  refine Runs.while (α := Nat) (weSt L) (fun i => L.length - i) (fun i => i ≤ L.length ∧ sumT L i ≤ 1073741824 * i) 0 ⟨by omega, by simp [sumT, sumB]⟩ ?_ ?_
  · simp [go_sem, weAnn, weSt, sumT, sumB]
  · rintro i ⟨hi, hs⟩ ih
    simp +decide only [weSt, go_sem, Nat.reduceAdd, Nat.reduceMul, Nat.reduceSub]
    refine Runs.split (fun h => ?_) (fun h => ?_)
    · have hlt : i < L.length := by simpa using h
      have hsu := sumT_succ hlt
      have hx := hb L[i] (List.getElem_mem hlt)
      simp +decide (disch := first | omega | (simp only [ll]; omega)) only [getItem hlt, if_pos, go_sem, Nat.reduceAdd, Nat.reduceMul, Nat.reduceSub]
      refine ih (i + 1) _ (by omega) ⟨by omega, by omega⟩ ?_
      simp [go_sem, weAnn, weSt, hsu]
    · have hge : i = L.length := by simp at h; omega
      subst hge
      rw [sumT_all]
      simp +decide only [go_sem, Nat.reduceAdd, Nat.reduceMul, Nat.reduceSub]
      refine Runs.call (implTreeOk hm L hl) ?_
      simp +decide only [go_sem, Nat.reduceAdd, Nat.reduceMul, Nat.reduceSub]
      refine Runs.split (fun h => ?_) (fun h => ?_)
      · have h' : treeOk L = false := by simpa using h
        simp +decide only [h', go_sem, Nat.reduceAdd, Nat.reduceMul, Nat.reduceSub]
        refine Runs.ret ?_ rfl
        rw [der_no (by simp [derOk, h'])]
        exact .tup (.nils _ (.same _ .nil)) .nil
      · have h' : treeOk L = true := by simpa using h
        have hlen := tree_len h'
        simp +decide only [h', go_sem, Nat.reduceAdd, Nat.reduceMul, Nat.reduceSub]
        refine Runs.split (fun h => ?_) (fun h => ?_)
        · have hb : 4000 < sumB L := by simp at h; omega
          simp +decide only [go_sem, Nat.reduceAdd, Nat.reduceMul, Nat.reduceSub]
          refine Runs.ret ?_ rfl
          rw [der_no (by simp [derOk]; omega)]
          exact .tup (.nils _ (.same _ .nil)) .nil
        · have hb : sumB L ≤ 4000 := by simp at h; omega
          have hwt := der_wt h'
          have hw := enc_le (derN L)
          rw [der_wt h'] at hw
          have hc := nested hm L (kidsOk_of (tree_all h')) hl 13 0 L.length (tree_end h')
          have hy := bytes hm _ (derN L) (Nat.le_refl _) (nestP_ok (tree_all h') 13 0) (by omega) (kidsLe_w _ (by omega))
          rw [show (nestP L 13 0).1 = derN L from rfl] at hc
          have ed : (if sumB L ≤ 4000 ∧ (enc (derN L)).length ≤ 4000 then derA L = .tup [.sl (.ow 1) ((enc (derN L)).map u8A), .v (.bool true)] else derA L = .tup [.sl (.ow 1) [], .v (.bool false)]) := by
            split
            · rename_i h1
              have : derOk L = true := by simp [derOk, h', h1]
              rw [derA, derB, this]; simp
            · rename_i h1
              exact der_no (by simp [derOk, h', hb] at h1 ⊢; omega)
          generalize derN L = nd at hc hy ed hw hwt
          obtain ⟨t', b', ks'⟩ := nd
          rw [nodeM] at hc
          rw [nodeS] at hy
          simp +decide (disch := first | omega | (simp only [ll]; omega)) only [if_pos, go_sem, Nat.reduceAdd, Nat.reduceMul, Nat.reduceSub]
          refine Runs.call hc ?_
          simp +decide (disch := first | omega | (simp only [ll]; omega)) only [if_pos, go_sem, Nat.reduceAdd, Nat.reduceMul, Nat.reduceSub]
          refine Runs.call hy ?_
          generalize enc (Nd.mk t' b' ks') = E at *
          simp +decide (disch := first | omega | (simp only [ll]; omega)) only [if_pos, go_sem, Nat.reduceAdd, Nat.reduceMul, Nat.reduceSub]
          refine Runs.split (fun h => ?_) (fun h => ?_)
          · rw [if_neg (by simp at h; omega)] at ed
            simp +decide only [go_sem, Nat.reduceAdd, Nat.reduceMul, Nat.reduceSub]
            refine Runs.ret ?_ rfl
            rw [ed]
            exact .tup (.nils _ (.same _ .nil)) .nil
          · rw [if_pos (by simp at h; omega)] at ed
            simp +decide (disch := first | omega | (simp only [ll]; omega)) only [if_pos, go_sem, Nat.reduceAdd, Nat.reduceMul, Nat.reduceSub]
            exact Runs.ret_eq (by rw [ed])
end Go.Proofs.W

namespace Go.Proofs.W
open Go Go.AM Go.Proofs.G
variable (hm : Tryz.prog.follows .mixedOrders = true)
attribute [local go_sem] keyA keyO exS exO rowS_plain rowS_dn rowO_dn certA certO
mutual
def nLe (m : Nat) : Nd → Prop
  | .mk _ b ks => b.length ≤ 2 * m ∧ ks.length ≤ m ∧ nLeL m ks
def nLeL (m : Nat) : List Nd → Prop
  | [] => True
  | n :: r => nLe m n ∧ nLeL m r
end
mutual
theorem nLe_b {m k : Nat} (h : 2 * m ≤ k) : ∀ n, nLe m n → bodiesLe k n
  | .mk t b ks, ⟨h1, _, h3⟩ => ⟨by omega, nLeL_b h ks h3⟩
theorem nLeL_b {m k : Nat} (h : 2 * m ≤ k) : ∀ l, nLeL m l → bodiesLeL k l
  | [], _ => trivial
  | n :: r, ⟨h1, h2⟩ => ⟨nLe_b h n h1, nLeL_b h r h2⟩
end
mutual
theorem nLe_k {m k : Nat} (h : m ≤ k) : ∀ n, nLe m n → kidsLe k n
  | .mk t b ks, ⟨_, h1, h3⟩ => ⟨by omega, nLeL_k h ks h3⟩
theorem nLeL_k {m k : Nat} (h : m ≤ k) : ∀ l, nLeL m l → kidsLeL k l
  | [], _ => trivial
  | n :: r, ⟨h1, h2⟩ => ⟨nLe_k h n h1, nLeL_k h r h2⟩
end
mutual
theorem bk_nLe {m : Nat} : ∀ n, bodiesLe (2 * m) n → kidsLe m n → nLe m n
  | .mk t b ks, ⟨h1, h2⟩, ⟨h3, h4⟩ => ⟨h1, h3, bk_nLeL ks h2 h4⟩
theorem bk_nLeL {m : Nat} : ∀ l, bodiesLeL (2 * m) l → kidsLeL m l → nLeL m l
  | [], _, _ => trivial
  | n :: r, ⟨h1, h2⟩, ⟨h3, h4⟩ => ⟨bk_nLe n h1 h3, bk_nLeL r h2 h4⟩
end
mutual
theorem nLe_items {m : Nat} : ∀ n, nLe m n → ∀ x ∈ itemsN n, x.body.length ≤ 2 * m
  | .mk t b ks, ⟨h1, _, h3⟩, x, hx => by
    rw [itemsN_mk, List.mem_cons] at hx
    rcases hx with rfl | hx
    · exact h1
    · exact nLeL_items ks h3 x hx
theorem nLeL_items {m : Nat} : ∀ l, nLeL m l → ∀ x ∈ itemsNL l, x.body.length ≤ 2 * m
  | [], _, x, hx => by simp [itemsNL] at hx
  | n :: r, ⟨h1, h2⟩, x, hx => by
    rw [itemsNL, List.mem_append] at hx
    rcases hx with hx | hx
    · exact nLe_items n h1 x hx
    · exact nLeL_items r h2 x hx
end
theorem nLeL_app {m : Nat} : ∀ l n : List Nd, nLeL m l → nLeL m n → nLeL m (l ++ n)
  | [], n, _, h => h
  | a :: l, n, ⟨h1, h2⟩, h => ⟨h1, nLeL_app l n h2 h⟩
theorem nLeL_map {α : Type} {m : Nat} (f : α → Nd) : ∀ L : List α, (∀ a ∈ L, nLe m (f a)) → nLeL m (L.map f)
  | [], _ => trivial
  | a :: L, h => ⟨h a (List.mem_cons_self ..), nLeL_map f L fun b hb => h b (List.mem_cons_of_mem _ hb)⟩
theorem nLeL_ite {m : Nat} {p : Prop} [Decidable p] {l : List Nd} (h : p → nLeL m l) : nLeL m (if p then l else []) := by
  split
  · exact h (by assumption)
  · trivial
theorem nLeL_iten {m : Nat} {p : Prop} [Decidable p] {l : List Nd} (h : ¬ p → nLeL m l) : nLeL m (if p then [] else l) := by
  split
  · trivial
  · exact h (by assumption)
def bdM : Nat := 1000000
theorem int_n (n : Int) : nLe bdM (intN n) := ⟨by have := intB_le n; unfold bdM; omega, Nat.zero_le _, trivial⟩
theorem time_n (n : Int) : nLe bdM (timeN n) := ⟨by have := timeB_le n; unfold bdM; omega, Nat.zero_le _, trivial⟩
theorem txt_n {t : Int} {s : ByteArray} (h : s.size ≤ 1048576) : nLe bdM (txtN t s) := ⟨by simp [bytesI, bdM]; omega, Nat.zero_le _, trivial⟩
theorem one_n {k : Int} {n : Nd} (h : nLe bdM n) : nLe bdM (oneN k n) := ⟨Nat.zero_le _, by simp [bdM], int_n k, h, trivial⟩
theorem key_n {k : GKey} (h : keyB k = true) : nLe bdM (keyNd k) := bk_nLe _ (key_bodies h _ (by unfold bdM; omega)) (key_kids k _ (by unfold bdM; omega))
theorem tbs_n {c : GCert} (fit : CertFit c) (h : certB c = true) : nLe bdM (tbsN c) := by
  have w := cert_w h
  have f1 := fit.2.2.2.2.1
  have f2 := fit.2.2.2.2.2.1
  have f3 := fit.2.2.2.2.2.2.1
  have l1 := w.ho
  have l2 := w.ne.1
  have l3 := w.al
  have l4 := w.de
  have l5 := w.pu.1
  have hX := (cEx_le w).2
  have hx : nLeL bdM (cExNs c) := by
    refine nLeL_app _ _ (nLeL_app _ _ (nLeL_app _ _ (nLeL_app _ _ ?_ ?_) ?_) ?_) ?_
    · refine nLeL_ite fun _ => ⟨one_n ⟨Nat.zero_le _, ?_, ⟨by simp [bdM], Nat.zero_le _, trivial⟩, ?_⟩, trivial⟩
      · have := (exCa_items c.path).2; show (exCa c.path).length ≤ _; unfold bdM; omega
      · exact nLeL_iten fun _ => ⟨int_n _, trivial⟩
    · exact nLeL_iten fun _ => ⟨one_n ⟨by simp [bdM], Nat.zero_le _, trivial⟩, trivial⟩
    · refine nLeL_ite fun _ => ⟨one_n ⟨Nat.zero_le _, by simp [bdM]; omega, nLeL_app _ _ (nLeL_map _ _ fun s hs => txt_n (f1 s hs)) (nLeL_map _ _ fun a _ => ⟨by simp [netBy, bdM], Nat.zero_le _, trivial⟩)⟩, trivial⟩
    · have a1 : ∀ (t : Int) (L : List ByteArray), L.length ≤ 6 → (∀ s ∈ L, s.size ≤ 1048576) → nLeL bdM (exAl t L) := fun t L hL hs =>
        nLeL_ite fun _ => ⟨⟨Nat.zero_le _, by simp [bdM]; omega, nLeL_map _ _ fun s h => txt_n (hs s h)⟩, trivial⟩
      refine nLeL_ite fun _ => ⟨one_n ⟨Nat.zero_le _, ?_, nLeL_app _ _ (a1 _ _ l3 f2) (a1 _ _ l4 f3)⟩, trivial⟩
      have := (exAl_le 160 l3).2
      have := (exAl_le 161 l4).2
      rw [List.length_append]; unfold bdM; omega
    · exact nLeL_ite fun _ => ⟨one_n ⟨Nat.zero_le _, by simp [bdM]; omega, nLeL_map _ _ fun n _ => int_n n⟩, trivial⟩
  have ht : nLeL bdM (exTop (cExNs c)) := by
    unfold exTop
    exact nLeL_iten fun _ => ⟨⟨Nat.zero_le _, by simp [bdM], ⟨Nat.zero_le _, by unfold bdM; omega, hx⟩, trivial⟩, trivial⟩
  have hi := w.iss
  have hs := w.sub
  refine ⟨Nat.zero_le _, ?_, nLeL_app _ _ ⟨int_n _, int_n _, ⟨Nat.zero_le _, by simp [bdM]; omega, nLeL_map _ _ fun s h => txt_n (by have := hi.2 s h; omega)⟩, ⟨Nat.zero_le _, by simp [bdM], time_n _, time_n _, trivial⟩, ⟨Nat.zero_le _, by simp [bdM]; omega, nLeL_map _ _ fun s h => txt_n (by have := hs.2 s h; omega)⟩, key_n w.key, trivial⟩ ht⟩
  have : (exTop (cExNs c)).length ≤ 1 := by unfold exTop; split <;> simp
  rw [tbsKs, List.length_append]; simp [bdM]; omega
theorem tbsT_len {c : GCert} (h : certB c = true) : (tbsT c).length ≤ 100 := by
  have w := cert_w h
  have hx := cEx_le w
  have k := keyT_len c.key
  have a := w.iss.1
  have b := w.sub.1
  unfold tbsT
  split <;> simp [hd5, hd4, hd3, hd2, hd1] <;> omega
noncomputable def tbOk (c : GCert) : Bool := certB c && derOk (tbsT c)
noncomputable def tbB (c : GCert) : List Int := if certB c = true then derB (tbsT c) else []
noncomputable def tbA (c : GCert) : A := .tup [.sl (.ow 1) ((tbB c).map u8A), .v (.bool (tbOk c))]
end Go.Proofs.W

namespace Go.Proofs.W
open Go Go.AM Go.Proofs.G
variable (hm : Tryz.prog.follows .mixedOrders = true)
attribute [local go_sem] keyA keyO exS exO rowS_plain rowS_dn rowO_dn certA certO
def sgI (G : List Int) : It := ⟨3, 0 :: G, 0⟩
def sgN (G : List Int) : Nd := .mk 3 (0 :: G) []
def wcT (c : GCert) : List It := ⟨48, [], 2⟩ :: (tbsT c ++ [sgI c.sig])
def wcN (c : GCert) : Nd := .mk 48 [] [tbsN c, sgN c.sig]
theorem items_wc (c : GCert) : itemsN (wcN c) = wcT c := by
  rw [wcN, itemsN_mk, itemsNL, items_tbs]
  simp only [itemsNL, sgN, itemsN_mk, wcT, sgI, List.length_cons, List.length_nil, List.append_nil]
  rfl
theorem wc_n {c : GCert} (fit : CertFit c) (h : certB c = true) : nLe bdM (wcN c) := by
  have hs := (cert_w h).sig
  exact ⟨Nat.zero_le _, by simp [bdM], tbs_n fit h, ⟨by simp [bdM]; omega, Nat.zero_le _, trivial⟩, trivial⟩
theorem wcT_len {c : GCert} (h : certB c = true) : (wcT c).length ≤ 102 := by
  have := tbsT_len h
  simp [wcT]; omega
theorem wcT_body {c : GCert} (fit : CertFit c) (h : certB c = true) : ∀ x ∈ wcT c, x.body.length ≤ 1073741824 := by
  intro x hx
  rw [← items_wc] at hx
  have := nLe_items _ (wc_n fit h) x hx
  unfold bdM at this
  omega
noncomputable def wcOk (c : GCert) : Bool := certB c && derOk (wcT c)
noncomputable def wcB (c : GCert) : List Int := if certB c = true then derB (wcT c) else []
noncomputable def wcA (c : GCert) : A := .tup [.sl (.ow 1) ((wcB c).map u8A), .v (.bool (wcOk c))]
theorem wcB_le (c : GCert) : (wcB c).length ≤ 4000 := by
  unfold wcB
  split
  · unfold derB
    split
    · rename_i h
      simp [derOk] at h
      omega
    · simp
  · simp
def sWc : Sched := .take 3 (.ld 0 (.ld 4 (.alt 1 (.alt 2 (.alt 5 (.alt 6 (.alt 7 (.alt 8 (.alt 9 (.take 10 (.take 11 (.take 12 (.take 13 .fin)))) .nil) .nil) .nil) .nil) .nil) .nil) (.alt 2 (.alt 1 (.alt 5 (.alt 6 (.alt 7 (.alt 8 (.alt 9 (.take 10 (.take 11 (.take 12 (.take 13 .fin)))) .nil) .nil) .nil) .nil) .nil) .nil) .nil))))
attribute [local go_sem] sWc
set_option maxHeartbeats 1000000 in
set_option maxRecDepth 10000 in
include hm in
theorem specWriteCert (c : GCert) (fit : CertFit c) : Holds Tryz.prog 5 [certA c] [] (wcA c) [] := by
  refine holds_ref (ann := []) tabOk hm (byL [] [21, 19, 1000001]) Tryz.func5 (by kernel_rfl) rfl ?_
  have hc := sCertOk hm c fit
  rw [certA] at hc
  simp +decide (maxSteps := 9^7) only [Tryz.f5, go_sem, Nat.reduceAdd, Nat.reduceMul, Nat.reduceSub]
  refine Runs.call hc ?_
  cases h : certB c
  · simp +decide (maxSteps := 9^7) only [go_sem, Nat.reduceAdd, Nat.reduceMul, Nat.reduceSub]
    exact Runs.ret_eq (by simp [wcA, wcB, wcOk, h])
  · have hT := l10Tree hm c fit h
    have hl := tbsT_len h
    have hs := (cert_w h).sig
    have hM := l10Made hm 48 2 (tbsT c ++ [sgI c.sig]) (by simp; omega)
    have hI := l10Item hm 3 (0 :: c.sig)
    have hD := specWriteDer hm (wcT c) (by have := wcT_len h; omega)
    have e : wcA c = derA (wcT c) := by simp [wcA, wcB, wcOk, h, derA]
    rw [e]
    rw [certA] at hT
    simp only [wcT, derA, List.map_append, List.map_cons, List.map_nil] at hM hI hD ⊢
    simp only [sgI] at hM hD ⊢
    simp only [u8A] at hI
    have hTl : ((tbsT c).map itemO).length = (tbsT c).length := List.length_map _
    have hTt : List.take (tbsT c).length ((tbsT c).map itemO) = (tbsT c).map itemO := take_map_len
    generalize tbsT c = T at *
    generalize derB _ = B at hD ⊢
    generalize derOk _ = ok at hD ⊢
    have hBl : (B.map u8A).length = B.length := List.length_map _
    have hBt : List.take B.length (B.map u8A) = B.map u8A := take_map_len
    simp +decide (maxSteps := 9^7) only [go_sem, Nat.reduceAdd, Nat.reduceMul, Nat.reduceSub]
    refine Runs.draw (st1 := ?s1) (draws_ref (ann := []) tabOk (byL [] [21, 19, 1000001]) sWc (by kernel_rfl) ?p1) ?q1
    case p1 =>
      intro K r X hK
      simp +decide (maxSteps := 9^7) only [go_sem, Nat.reduceAdd, Nat.reduceMul, Nat.reduceSub]
      repeat' (first
        | apply And.intro
        | exact hK
        | (refine Runs.call hT ?_; simp +decide (maxSteps := 9^7) (disch := first | omega | (simp only [ll]; omega)) only [hTl, hTt, List.length_append, mdL_append, dnL_append, freeL_app, mdL, dnL, freeL, if_pos, go_sem, Nat.reduceAdd, Nat.reduceMul, Nat.reduceSub])
        | (refine Runs.call hI ?_; simp +decide (maxSteps := 9^7) (disch := first | omega | (simp only [ll]; omega)) only [hTl, hTt, List.length_append, mdL_append, dnL_append, freeL_app, mdL, dnL, freeL, if_pos, go_sem, Nat.reduceAdd, Nat.reduceMul, Nat.reduceSub])
        | (refine Runs.call hM ?_; simp +decide (maxSteps := 9^7) (disch := first | omega | (simp only [ll]; omega)) only [hTl, hTt, List.length_append, mdL_append, dnL_append, freeL_app, mdL, dnL, freeL, if_pos, go_sem, Nat.reduceAdd, Nat.reduceMul, Nat.reduceSub])
        | (refine Runs.call hD ?_; simp +decide (maxSteps := 9^7) (disch := first | omega | (simp only [ll]; omega)) only [hBl, hBt, if_pos, go_sem, Nat.reduceAdd, Nat.reduceMul, Nat.reduceSub]))
    case q1 =>
      simp +decide (maxSteps := 9^7) (disch := first | omega | (simp only [ll]; omega)) only [if_pos, go_sem, Nat.reduceAdd, Nat.reduceMul, Nat.reduceSub]
      exact Runs.ret_refl
def iWc : Sched := .take 2 (.ld 0 (.ld 3 (.alt 1 (.alt 4 (.alt 5 (.alt 6 (.alt 7 (.alt 8 (.take 9 (.take 10 (.take 11 (.take 12 .fin)))) .nil) .nil) .nil) .nil) .nil) .nil)))
attribute [local go_sem] iWc
set_option maxHeartbeats 1000000 in
set_option maxRecDepth 10000 in
include hm in
theorem implWriteCert (c : GCert) (fit : CertFit c) : Holds Tryz.prog 7 [certA c] [] (wcA c) [] := by
  refine holds_ref (ann := []) tabOk hm (byL [] [28, 1000001]) Tryz.func7 (by kernel_rfl) rfl ?_
  have hc := iCertOk hm c fit
  rw [certA] at hc
  simp +decide (maxSteps := 9^7) only [Tryz.f7, go_sem, Nat.reduceAdd, Nat.reduceMul, Nat.reduceSub]
  refine Runs.call hc ?_
  cases h : certB c
  · simp +decide (maxSteps := 9^7) only [go_sem, Nat.reduceAdd, Nat.reduceMul, Nat.reduceSub]
    refine Runs.ret ?_ rfl
    simp only [wcA, wcB, wcOk, h]
    exact .tup (.nils _ (.same _ .nil)) .nil
  · have hT := tbsNode hm c fit h
    have hs := (cert_w h).sig
    have hb := bitsOf hm c.sig (by omega)
    have hn := wc_n fit h
    have hl := wcT_len h
    have hi := items hm _ (wcN c) (Nat.le_refl _) (by rw [items_wc]; omega) (nLe_b (m := bdM) (k := 1073741824) (by unfold bdM; omega) _ hn) (nLe_k (m := bdM) (k := 1000000) (by unfold bdM; omega) _ hn)
    rw [items_wc] at hi
    have hd := implWriteDer hm (wcT c) (by omega) (wcT_body fit h)
    have hw := listN hm 48 [tbsN c, sgN c.sig]
    have e : wcA c = derA (wcT c) := by simp [wcA, wcB, wcOk, h, derA]
    rw [e]
    rw [certA] at hT
    have hTl : ((wcT c).map itemO).length = (wcT c).length := List.length_map _
    have hTt : List.take (wcT c).length ((wcT c).map itemO) = (wcT c).map itemO := take_map_len
    rw [derA] at hd ⊢
    rw [wcN] at hi
    generalize wcT c = T at *
    clear hn
    generalize tbsN c = n at *
    obtain ⟨t, b, ks⟩ := n
    simp only [nodeO, nodesO, sgN, List.map_nil, List.map_cons, u8A] at hT hb hw
    rw [nodeS] at hi
    have hk : List.take ks.length (nodesO ks) = nodesO ks := List.take_of_length_le (by simp [nodesO_length])
    have hkn : (nodesO ks).length = ks.length := nodesO_length ks
    have hbn : (b.map u8A).length = b.length := List.length_map _
    have hbt : List.take b.length (b.map u8A) = b.map u8A := take_map_len
    have hBl : ((derB T).map u8A).length = (derB T).length := List.length_map _
    have hBt : List.take (derB T).length ((derB T).map u8A) = (derB T).map u8A := take_map_len
    have hGn : (c.sig.map u8A).length = c.sig.length := List.length_map _
    have hGt : List.take c.sig.length (c.sig.map u8A) = c.sig.map u8A := take_map_len
    simp +decide (maxSteps := 9^7) only [go_sem, Nat.reduceAdd, Nat.reduceMul, Nat.reduceSub]
    refine Runs.draw (st1 := ?s1) (draws_ref (ann := []) tabOk (byL [] [28, 1000001]) iWc (by kernel_rfl) ?p1) ?q1
    case p1 =>
      intro K r X hK
      simp +decide (maxSteps := 9^7) only [go_sem, Nat.reduceAdd, Nat.reduceMul, Nat.reduceSub]
      repeat' (first
        | apply And.intro
        | exact hK
        | (refine Runs.call hT ?_; simp +decide (maxSteps := 9^7) (disch := first | omega | (simp only [ll]; omega)) only [hk, hkn, hbn, hbt, hGn, hGt, if_pos, go_sem, Nat.reduceAdd, Nat.reduceMul, Nat.reduceSub])
        | (refine Runs.call hb ?_; simp +decide (maxSteps := 9^7) (disch := first | omega | (simp only [ll]; omega)) only [hk, hkn, hbn, hbt, hGn, hGt, if_pos, go_sem, Nat.reduceAdd, Nat.reduceMul, Nat.reduceSub])
        | (refine Runs.call hw ?_; simp +decide (maxSteps := 9^7) (disch := first | omega | (simp only [ll]; omega)) only [hk, hkn, hbn, hbt, hGn, hGt, if_pos, go_sem, Nat.reduceAdd, Nat.reduceMul, Nat.reduceSub])
        | (refine Runs.call hi ?_; simp +decide (maxSteps := 9^7) (disch := first | omega | (simp only [ll]; omega)) only [hTl, hTt, if_pos, go_sem, Nat.reduceAdd, Nat.reduceMul, Nat.reduceSub])
        | (refine Runs.call hd ?_; simp +decide (maxSteps := 9^7) (disch := first | omega | (simp only [ll]; omega)) only [hBl, hBt, if_pos, go_sem, Nat.reduceAdd, Nat.reduceMul, Nat.reduceSub]))
    case q1 =>
      simp +decide (maxSteps := 9^7) (disch := first | omega | (simp only [ll]; omega)) only [if_pos, go_sem, Nat.reduceAdd, Nat.reduceMul, Nat.reduceSub]
      exact Runs.ret_refl
end Go.Proofs.W

namespace Go.Proofs.W
open Go Go.AM Go.Proofs.G
variable (hm : Tryz.prog.follows .mixedOrders = true)
attribute [local go_sem] rowS_plain rowS_dn rowO_dn
def certZ : A := .agg [.v (.int .i64 0), .v (.slice none 0 0), .v (.slice none 0 0), .v (.int .i64 0), .v (.int .i64 0), .v (.int .i64 0), .v (.slice none 0 0), .v (.int .i64 0), .v (.int .i64 0), .v (.int .i64 0), .v (.int .i64 0), .v (.int .i64 0), .v (.int .i64 0), .v (.int .i64 0), .v (.int .i64 0), .v (.int .i64 0), .v (.bool false), .v (.int .i64 0), .v (.int .i64 0), .v (.int .i64 0), .v (.int .i64 0), .v (.int .i64 0), .v (.int .i64 0), .v (.int .i64 0), .v (.int .i64 0), .v (.bool false), .v (.int .i64 0), .v (.int .i64 0), .v (.slice none 0 0), .v (.slice none 0 0), .v (.slice none 0 0), .v (.slice none 0 0), .v (.slice none 0 0), .v (.slice none 0 0)]
theorem rowO_md (ne : List (List Int)) : mdL (ne.map rowO) = ne.map rowO := by
  rw [mdL_eq, List.map_map]
  congr 1
  funext l
  simp [rowO, A.md, md_intA]
theorem certA_len (c : GCert) : (certA c).cells.length = 34 := rfl
theorem certO_len (c : GCert) : (certO c).cells.length = 34 := rfl
attribute [local go_sem] rowO_md
def szCG : List GCert → Int → Int
  | [], l => l
  | c :: r, l => if szCertV c l < 0 then -1 else szCG r (szCertV c l)
def szCSV (L : List GCert) (left : Int) : Int := if left - L.length < 0 then -1 else szCG L (left - L.length)
end Go.Proofs.W

namespace Go.Proofs.W
open Go Go.AM Go.Proofs.G
set_option maxRecDepth 10000
variable (hm : Tryz.prog.follows .mixedOrders = true)
attribute [local go_sem] rowS_plain rowS_dn rowO_dn rowO_md
def mkRow (k : Int) (l : List Int) : List Int := (List.range l.length).map fun i : Nat => k + i
def mkRows : Int → List (List Int) → List (List Int)
  | _, [] => []
  | k, l :: r => mkRow k l :: mkRows (k + l.length) r
def cntR : List (List Int) → Nat
  | [] => 0
  | l :: r => l.length + cntR r
theorem mkRow_map (k : Int) (l : List Int) : (mkRow k l).map intA = (List.range l.length).map (mkInt k) := by
  rw [mkRow, List.map_map]; rfl
theorem mkRow_length (k : Int) (l : List Int) : (mkRow k l).length = l.length := by simp [mkRow]
theorem cntR_append : ∀ l m : List (List Int), cntR (l ++ m) = cntR l + cntR m
  | [], m => by simp [cntR]
  | x :: l, m => by simp only [List.cons_append, cntR, cntR_append l m]; omega
theorem mkRows_append : ∀ (l m : List (List Int)) (k : Int), mkRows k (l ++ m) = mkRows k l ++ mkRows (k + cntR l) m
  | [], m, k => by simp [mkRows, cntR]
  | x :: l, m, k => by
    simp only [List.cons_append, mkRows, cntR, mkRows_append l m]
    congr 3
    omega
theorem mkRows_length : ∀ (l : List (List Int)) (k : Int), (mkRows k l).length = l.length
  | [], k => rfl
  | x :: l, k => by simp [mkRows, mkRows_length l]
def curR (k : Int) (L : List (List Int)) (i : Nat) : List (List Int) := mkRows k (L.take i) ++ L.drop i
theorem curR_zero (k : Int) (L : List (List Int)) : curR k L 0 = L := by simp [curR, mkRows]
theorem curR_all (k : Int) (L : List (List Int)) : curR k L L.length = mkRows k L := by simp [curR]
theorem curR_get (k : Int) (L : List (List Int)) (i : Nat) (h : i < L.length) : (curR k L i)[i]? = some L[i] := by
  unfold curR
  rw [List.getElem?_append_right (by simp [mkRows_length]; omega)]
  simp [mkRows_length, h, Nat.min_eq_left (Nat.le_of_lt h)]
theorem cntR_succ (L : List (List Int)) (i : Nat) (h : i < L.length) : cntR (L.take (i + 1)) = cntR (L.take i) + L[i].length := by
  rw [List.take_succ_eq_append_getElem h, cntR_append]
  simp [cntR]
theorem cntR_take_le (L : List (List Int)) (i : Nat) : cntR (L.take i) ≤ cntR L := by
  have := cntR_append (L.take i) (L.drop i)
  rw [List.take_append_drop] at this
  omega
theorem curR_set (k : Int) (L : List (List Int)) (i : Nat) (h : i < L.length) : (curR k L i).set i (mkRow (k + cntR (L.take i)) L[i]) = curR k L (i + 1) := by
  unfold curR
  have hl : (mkRows k (L.take i)).length = i := by simp [mkRows_length]; omega
  rw [List.set_append_right _ _ (by omega), hl, Nat.sub_self, List.drop_eq_getElem_cons h, List.set_cons_zero, List.take_succ_eq_append_getElem h, mkRows_append, List.append_assoc]
  rfl
def subR (l : List Int) : Blk := ⟨true, 1, false, l.map intA⟩
def xpR : Nat → List (List Int) → List A
  | _, [] => []
  | j, l :: r => .ms (.x j) 0 l.length l.length :: xpR (j + 1) r
theorem xpL_rows : ∀ (L : List (List Int)) (j : Nat), xpL j (L.map rowO) = (xpR j L, L.map subR)
  | [], j => rfl
  | x :: r, j => by
    have e : xpA j (rowO x) = (.ms (.x j) 0 x.length x.length, [subR x]) := by simp [xpA, rowO, xpC, subR]
    simp only [List.map_cons, xpL, e, xpL_rows r, xpR, List.length_cons, List.length_nil, Nat.zero_add, List.singleton_append]
theorem xpOk_rows (L : List (List Int)) : xpOk (L.map rowO) = true := by
  unfold xpOk flat
  rw [List.all_flatMap, List.all_map]
  simp [rowO, A.cells, xpOkC]
theorem xpR_length : ∀ (L : List (List Int)) (j : Nat), (xpR j L).length = L.length
  | [], j => rfl
  | x :: r, j => by simp [xpR, xpR_length r]
theorem xpR_get : ∀ (L : List (List Int)) (j i : Nat) (x : List Int), L[i]? = some x → (xpR j L).getD i .any = .ms (.x (j + i)) 0 x.length x.length
  | [], j, i, x, h => by simp at h
  | y :: r, j, 0, x, h => by simp at h; subst h; rfl
  | y :: r, j, i + 1, x, h => by
    simp only [List.getElem?_cons_succ] at h
    have := xpR_get r (j + 1) i x h
    rw [show j + (i + 1) = j + 1 + i by omega, ← this]
    rfl
theorem xpR_congr : ∀ (L M : List (List Int)) (j : Nat), L.map List.length = M.map List.length → xpR j L = xpR j M
  | [], [], j, _ => rfl
  | [], y :: M, j, h => by simp at h
  | x :: L, [], j, h => by simp at h
  | x :: L, y :: M, j, h => by
    simp only [List.map_cons, List.cons.injEq] at h
    rw [xpR, xpR, h.1, xpR_congr L M (j + 1) h.2]
theorem mkRows_lens : ∀ (L : List (List Int)) (k : Int), (mkRows k L).map List.length = L.map List.length
  | [], k => rfl
  | x :: L, k => by simp only [mkRows, List.map_cons, mkRow_length, mkRows_lens L]
theorem xpR_mk (L : List (List Int)) (k : Int) (j : Nat) : xpR j (mkRows k L) = xpR j L := xpR_congr _ _ j (mkRows_lens L k)
theorem xpR_ok : ∀ (L : List (List Int)) (j : Nat), okIL isXp (xpR j L) = true
  | [], j => rfl
  | x :: r, j => by simp [xpR, okIL, A.okI, isXp, xpR_ok r]
theorem subR_all (L : List (List Int)) : (L.map subR).all isXB = true := by simp [subR, isXB]
theorem rd_rows (L : List (List Int)) : (if plainL (L.map rowO) = true then L.map rowS else L.map rowO) = L.map rowO := by
  cases L with
  | nil => rfl
  | cons x r => simp [plainL, rowO, A.plain, Sh.own]
def mrSt (L : List (List Int)) (k : Int) (i : Nat) : St := ⟨[.ms (.x 0) 0 L.length L.length, .v (.int .i64 (k + cntR (L.take i))), .any, .any, .any, .v (.int .i64 i), .any, .any, .any, .any, .any, .any, .any, .any, .any, .any, .any, .any, .any], [], ⟨true, 1, true, xpR 1 L⟩ :: (curR k L i).map subR⟩
set_option maxHeartbeats 1000000 in
include hm in
theorem markRowX (L : List (List Int)) (k : Int) (h0 : L.length ≤ 1048576) (h1 : 0 ≤ k) (h2 : k + cntR L ≤ 4611686018427387904) :
    Holds Tryz.prog 82 [.ms (.x 0) 0 L.length L.length, .v (.int .i64 k)] (⟨true, 1, true, xpR 1 L⟩ :: L.map subR) (.v (.int .i64 (k + cntR L))) (⟨true, 1, true, xpR 1 L⟩ :: (mkRows k L).map subR) := by
  refine holds_ref (ann := mkAnn) tabOk hm (byL [81] []) Tryz.func82 (by kernel_rfl) rfl ?_
  have hlen := xpR_length L 1
  simp +decide only [Tryz.f82, hlen, go_sem, Nat.reduceAdd, Nat.reduceMul, Nat.reduceSub]
  refine Runs.while (α := Nat) (mrSt L k) (fun i => L.length - i) (fun i => i ≤ L.length) 0 (by omega) ?_ ?_
  · refine (only_x rfl ?_).trans ?_
    · rw [List.all_cons, subR_all]; simp [isXB, xpR_ok]
    · simp [go_sem, mkAnn, mrSt, curR_zero, cntR]
  · intro i hi ih
    simp +decide only [mrSt, hlen, go_sem, Nat.reduceAdd, Nat.reduceMul, Nat.reduceSub]
    refine Runs.split (fun h => ?_) (fun h => ?_)
    · have hlt : i < L.length := by simpa using h
      have hc := cntR_take_le L (i + 1)
      have hcs := cntR_succ L i hlt
      have hg := xpR_get L 1 i _ (List.getElem?_eq_getElem hlt)
      have hsub : ((curR k L i).map subR)[i]? = some ⟨true, 1, false, L[i].map intA⟩ := by rw [List.getElem?_map, curR_get k L i hlt]; rfl
      have hsub2 : ((curR k L i).map subR).set i ⟨true, 1, false, (List.range L[i].length).map (mkInt (k + cntR (L.take i)))⟩ = (curR k L (i + 1)).map subR := by
        rw [← curR_set k L i hlt, List.map_set]
        simp only [subR, mkRow_map]
      have hmb := markIntS hm L[i] (k + cntR (L.take i)) (by omega) (by omega)
      rw [show 1 + i = i + 1 by omega] at hg
      simp +decide (disch := first | omega | (simp only [ll]; omega)) only [hlen, hg, List.getElem?_cons_succ, hsub, List.not_mem_nil, List.mem_cons, true_or, if_false, if_true, idxOf, List.getD_cons_zero, List.length_map, if_pos, go_sem, Nat.reduceAdd, Nat.reduceMul, Nat.reduceSub]
      refine Runs.call hmb ?_
      simp +decide (disch := first | omega | (simp only [ll]; omega)) only [hlen, hg, List.getElem?_cons_succ, List.set_cons_succ, hsub2, List.getD_cons_zero, List.length_map, if_pos, go_sem, Nat.reduceAdd, Nat.reduceMul, Nat.reduceSub]
      refine ih (i + 1) _ (by omega) hlt ?_
      refine (only_x rfl ?_).trans ?_
      · rw [List.all_cons, subR_all]; simp [isXB, xpR_ok]
      · have e : k + ↑(cntR (List.take i L)) + L[i].length = k + ↑(cntR (List.take (i + 1) L)) := by omega
        simp [go_sem, mkAnn, mrSt, e]
    · have hge : i = L.length := by simp at h; omega
      subst hge
      simp +decide only [hlen, curR_all, List.take_length, isXB, xpR_ok, subR_all, go_sem, Nat.reduceAdd, Nat.reduceMul, Nat.reduceSub]
      exact Runs.ret_refl
include hm in
theorem markIntSS (L : List (List Int)) (k : Int) (h0 : L.length ≤ 1048576) (h1 : 0 ≤ k) (h2 : k + cntR L ≤ 4611686018427387904) :
    Holds Tryz.prog 82 [.ms (.x 0) 0 L.length L.length, .v (.int .i64 k)] [⟨true, 1, false, L.map rowO⟩] (.v (.int .i64 (k + cntR L))) [⟨true, 1, false, (mkRows k L).map rowO⟩] := by
  refine holds_explode (xpOk_rows L) (xpOk_rows _) ?_
  rw [xpL_rows, xpL_rows, xpR_mk]
  exact markRowX hm L k h0 h1 h2
def certX (c : GCert) : A := .agg [.v (.int .i64 c.serial), .ms (.x 0) 0 c.issuer.length c.issuer.length, .ms (.x 1) 0 c.subject.length c.subject.length, .v (.int .i64 c.from'), .v (.int .i64 c.tu), .v (.int .i64 c.key.kind), .ms (.x 2) 0 c.key.N.length c.key.N.length, .v (.int .i64 c.key.e), .v (.int .i64 c.key.cv.p), .v (.int .i64 c.key.cv.a), .v (.int .i64 c.key.cv.b), .v (.int .i64 c.key.cv.n), .v (.int .i64 c.key.cv.gx), .v (.int .i64 c.key.cv.gy), .v (.int .i64 c.key.q.x), .v (.int .i64 c.key.q.y), .v (.bool c.key.q.far), .v (.int .i64 c.key.ed.p), .v (.int .i64 c.key.ed.d), .v (.int .i64 c.key.ed.l), .v (.int .i64 c.key.ed.bx), .v (.int .i64 c.key.ed.by'), .v (.int .i64 c.key.a.1), .v (.int .i64 c.key.a.2), .v (.int .i64 c.alg), .v (.bool c.ca), .v (.int .i64 c.path), .v (.int .i64 c.usage), .ms (.x 3) 0 c.ho.length c.ho.length, .ms (.x 4) 0 c.ne.length c.ne.length, .ms (.x 5) 0 c.al.length c.al.length, .ms (.x 6) 0 c.de.length c.de.length, .ms (.x 7) 0 c.pu.length c.pu.length, .ms (.x 8) 0 c.sig.length c.sig.length]
def strK (L : List ByteArray) : Blk := ⟨true, 1, false, L.map strA⟩
def intK (L : List Int) : Blk := ⟨true, 1, false, L.map intA⟩
def bytK (L : List Int) : Blk := ⟨true, 1, false, L.map u8A⟩
def rowK (L : List (List Int)) : Blk := ⟨true, 1, false, L.map rowO⟩
def certBs (c : GCert) : List Blk := [strK c.issuer, strK c.subject, intK c.key.N, strK c.ho, rowK c.ne, strK c.al, strK c.de, intK c.pu, bytK c.sig]
def exK (c : GCert) (k : Int) : Int := k + c.ho.length + cntR c.ne + c.al.length + c.de.length + c.pu.length
def certK0 (c : GCert) (k : Int) : Int := k + c.issuer.length + c.subject.length + c.key.N.length
def certK (c : GCert) (k : Int) : Int := exK c (certK0 c k) + c.sig.length
def strM (n : Nat) (k : Int) : Blk := ⟨true, 1, false, (List.range n).map (mkStr k)⟩
def intM (n : Nat) (k : Int) : Blk := ⟨true, 1, false, (List.range n).map (mkInt k)⟩
def bytM (n : Nat) (k : Int) : Blk := ⟨true, 1, false, (List.range n).map (mkByte k)⟩
def exBs (c : GCert) : List Blk := [strK c.ho, rowK c.ne, strK c.al, strK c.de, intK c.pu]
def exMs (c : GCert) (k : Int) : List Blk := [strM c.ho.length k, rowK (mkRows (k + c.ho.length) c.ne), strM c.al.length (k + c.ho.length + cntR c.ne), strM c.de.length (k + c.ho.length + cntR c.ne + c.al.length), intM c.pu.length (k + c.ho.length + cntR c.ne + c.al.length + c.de.length)]
def certMs (c : GCert) (k : Int) : List Blk := strM c.issuer.length k :: strM c.subject.length (k + c.issuer.length) :: intM c.key.N.length (k + c.issuer.length + c.subject.length) :: (exMs c (certK0 c k) ++ [bytM c.sig.length (exK c (certK0 c k))])
set_option maxHeartbeats 4000000 in
include hm in
theorem markExts (c : GCert) (k : Int) (h0 : c.ne.length ≤ 1048576) (h1 : 0 ≤ k) (h2 : exK c k ≤ 4611686018427387904) :
    Holds Tryz.prog 37 [.agg [.v (.bool c.ca), .v (.int .i64 c.path), .v (.int .i64 c.usage), .ms (.x 0) 0 c.ho.length c.ho.length, .ms (.x 1) 0 c.ne.length c.ne.length, .ms (.x 2) 0 c.al.length c.al.length, .ms (.x 3) 0 c.de.length c.de.length, .ms (.x 4) 0 c.pu.length c.pu.length], .v (.int .i64 k)] (exBs c) (.v (.int .i64 (exK c k))) (exMs c k) := by
  simp only [exK] at h2
  have m1 := markStringS hm c.ho k h1 (by omega)
  have m2 := markIntSS hm c.ne (k + c.ho.length) h0 (by omega) (by omega)
  have m3 := markStringS hm c.al (k + c.ho.length + cntR c.ne) (by omega) (by omega)
  have m4 := markStringS hm c.de (k + c.ho.length + cntR c.ne + c.al.length) (by omega) (by omega)
  have m5 := markIntS hm c.pu (k + c.ho.length + cntR c.ne + c.al.length + c.de.length) (by omega) (by omega)
  have hr := rd_rows c.ne
  refine holds_ref (ann := []) tabOk hm (byL [35, 82, 81] []) Tryz.func37 (by kernel_rfl) rfl ?_
  simp +decide only [Tryz.f37, exBs, strK, intK, rowK, hr, go_sem, Nat.reduceAdd, Nat.reduceMul, Nat.reduceSub]
  refine Runs.call m1 ?_
  simp +decide only [hr, go_sem, Nat.reduceAdd, Nat.reduceMul, Nat.reduceSub]
  refine Runs.call m2 ?_
  simp +decide only [hr, go_sem, Nat.reduceAdd, Nat.reduceMul, Nat.reduceSub]
  refine Runs.call m3 ?_
  simp +decide only [go_sem, Nat.reduceAdd, Nat.reduceMul, Nat.reduceSub]
  refine Runs.call m4 ?_
  simp +decide only [go_sem, Nat.reduceAdd, Nat.reduceMul, Nat.reduceSub]
  refine Runs.call m5 ?_
  simp +decide only [exK, exMs, strM, intM, rowK, go_sem, Nat.reduceAdd, Nat.reduceMul, Nat.reduceSub]
  exact Runs.ret_refl
set_option maxHeartbeats 4000000 in
include hm in
theorem markCKey (c : GCert) (m : Int) (h1 : 0 ≤ m) (h2 : m + c.key.N.length ≤ 4611686018427387904) :
    Holds Tryz.prog 36 [.agg [.v (.int .i64 c.key.kind), .ms (.x 0) 0 c.key.N.length c.key.N.length, .v (.int .i64 c.key.e), .v (.int .i64 c.key.cv.p), .v (.int .i64 c.key.cv.a), .v (.int .i64 c.key.cv.b), .v (.int .i64 c.key.cv.n), .v (.int .i64 c.key.cv.gx), .v (.int .i64 c.key.cv.gy), .v (.int .i64 c.key.q.x), .v (.int .i64 c.key.q.y), .v (.bool c.key.q.far), .v (.int .i64 c.key.ed.p), .v (.int .i64 c.key.ed.d), .v (.int .i64 c.key.ed.l), .v (.int .i64 c.key.ed.bx), .v (.int .i64 c.key.ed.by'), .v (.int .i64 c.key.a.1), .v (.int .i64 c.key.a.2)], .v (.int .i64 m)]
      [⟨true, 1, false, c.key.N.map intA⟩] (.v (.int .i64 (m + c.key.N.length))) [⟨true, 1, false, (List.range c.key.N.length).map (mkInt m)⟩] := by
  refine holds_ref (ann := []) tabOk hm (byL [81] []) Tryz.func36 (by kernel_rfl) rfl ?_
  simp +decide only [Tryz.f36, go_sem, Nat.reduceAdd, Nat.reduceMul, Nat.reduceSub]
  refine Runs.call (markIntS hm c.key.N m h1 h2) ?_
  simp +decide only [go_sem, Nat.reduceAdd, Nat.reduceMul, Nat.reduceSub]
  exact Runs.ret_refl
set_option maxHeartbeats 4000000 in
include hm in
theorem markCert (c : GCert) (k : Int) (h0 : c.ne.length ≤ 1048576) (h1 : 0 ≤ k) (h2 : certK c k ≤ 4611686018427387904) :
    Holds Tryz.prog 10 [certX c, .v (.int .i64 k)] (certBs c) (.v (.int .i64 (certK c k))) (certMs c k) := by
  have h3 := h2
  simp only [certK, exK, certK0] at h3
  have m1 := markStringS hm c.issuer k h1 (by omega)
  have m2 := markStringS hm c.subject (k + c.issuer.length) (by omega) (by omega)
  have m3 := markCKey hm c (k + c.issuer.length + c.subject.length) (by omega) (by omega)
  have m4 := markExts hm c (certK0 c k) h0 (by simp only [certK0]; omega) (by simp only [exK, certK0]; omega)
  have m5 := markByteS hm c.sig (exK c (certK0 c k)) (by simp only [exK, certK0]; omega) (by simp only [exK, certK0]; omega)
  have hr := rd_rows c.ne
  simp only [exBs, exMs, certK0, exK, strK, intK, rowK, strM, intM] at m4 m5
  refine holds_ref (ann := []) tabOk hm (byL [35, 36, 37, 11] []) Tryz.func10 (by kernel_rfl) rfl ?_
  simp +decide only [Tryz.f10, certX, certBs, strK, intK, rowK, bytK, hr, go_sem, Nat.reduceAdd, Nat.reduceMul, Nat.reduceSub]
  refine Runs.call m1 ?_
  simp +decide only [hr, go_sem, Nat.reduceAdd, Nat.reduceMul, Nat.reduceSub]
  refine Runs.call m2 ?_
  simp +decide only [hr, go_sem, Nat.reduceAdd, Nat.reduceMul, Nat.reduceSub]
  refine Runs.call m3 ?_
  simp +decide only [hr, go_sem, Nat.reduceAdd, Nat.reduceMul, Nat.reduceSub]
  refine Runs.call m4 ?_
  simp +decide only [hr, go_sem, Nat.reduceAdd, Nat.reduceMul, Nat.reduceSub]
  refine Runs.call m5 ?_
  simp +decide only [certK, exK, certK0, certMs, exMs, strM, intM, bytM, rowK, List.cons_append, List.nil_append, go_sem, Nat.reduceAdd, Nat.reduceMul, Nat.reduceSub]
  exact Runs.ret_refl
end Go.Proofs.W

namespace Go.Proofs.W
open Go Go.AM Go.Proofs.G
theorem cntR_four : ∀ L : List (List Int), (∀ r ∈ L, r.length ≤ 1048576) → cntR L ≤ L.length * 1048576
  | [], _ => by simp [cntR]
  | x :: r, h => by
    have h1 := h x (List.mem_cons_self ..)
    have h2 := cntR_four r fun y hy => h y (List.mem_cons_of_mem _ hy)
    simp only [cntR, List.length_cons, Nat.succ_mul]
    omega
theorem mkb_plain (k : Int) (n : Nat) : dnL ((List.range n).map (mkByte k)) = (List.range n).map (mkByte k) := by rw [dnL_map]; rfl
theorem tk_mkb (k : Int) (n : Nat) : List.take n ((List.range n).map (mkByte k)) = (List.range n).map (mkByte k) := List.take_of_length_le (by simp)
theorem certK_le {c : GCert} (fit : CertFit c) : certK c 1 ≤ 4611686018427387904 ∧ 1 ≤ certK c 1 := by
  obtain ⟨⟨f1, _⟩, ⟨f2, _⟩, f3, ⟨f4, f5, f6, f7, f8, f9⟩, _, _, _, f10⟩ := fit
  have := cntR_four c.ne f6
  simp only [certK, exK, certK0]
  omega
end Go.Proofs.W

namespace Go.Proofs.W
open Go Go.AM Go.Proofs.G
variable (hm : Tryz.prog.follows .mixedOrders = true)
attribute [local go_sem] keyA keyO exS exO rowS_plain rowS_dn rowO_dn certA certO rd_rows rowO_md
def sLWc : Sched := .alt 0 (.alt 1 (.alt 2 (.alt 3 (.take 4 .fin) .nil) .nil) .nil) (.alt 1 (.alt 0 (.alt 2 (.alt 3 (.take 4 .fin) .nil) .nil) (.alt 2 (.alt 0 (.alt 3 (.take 4 .fin) .nil) .nil) .nil)) .nil)
attribute [local go_sem] sLWc
set_option maxRecDepth 10000 in
set_option maxHeartbeats 8000000 in
include hm in
theorem lawWriteCert (c : GCert) (h : CertIn c) : Holds Tryz.prog 3 [certA c] [] (.v (.bool true)) [] := by
  refine holds_ref (ann := []) tabOk hm (byL [10, 11] [1000001]) Tryz.func3 (by kernel_rfl) rfl ?_
  have cz := szCert hm c 1048576 (by omega) (by omega) h
  rw [certA] at cz
  simp +decide (maxSteps := 9^7) only [Tryz.f3, go_sem, Nat.reduceAdd, Nat.reduceMul, Nat.reduceSub]
  refine Runs.call cz ?_
  simp +decide (maxSteps := 9^7) only [go_sem, Nat.reduceAdd, Nat.reduceMul, Nat.reduceSub]
  refine Runs.split (fun e => by simp +decide (maxSteps := 9^7) only [go_sem, Nat.reduceAdd, Nat.reduceMul, Nat.reduceSub]; exact Runs.ret_v) (fun e => ?_)
  simp only [decide_eq_false_iff_not] at e
  have fit := szCertV_fit c 1048576 (by omega) (by omega) e
  have ct := toCert hm c fit
  rw [certA, certO] at ct
  have ce := eqCert hm c fit
  have hT := implWriteCert hm c fit
  have hT' := specWriteCert hm c fit
  rw [certA] at ce hT hT'
  have hle := wcB_le c
  rw [wcA] at hT hT'
  generalize wcB c = B at hT hT' hle
  generalize wcOk c = ok at hT hT'
  have hk := certK_le fit
  have hmk := markCert hm c 1 fit.2.2.2.1.2.1 (by omega) hk.1
  rw [certX, certBs] at hmk
  simp only [strK, intK, bytK, rowK, certMs, exMs, strM, intM, bytM, List.cons_append, List.nil_append] at hmk
  have hB := markByteS hm B 1 (by omega) (by omega)
  have hH := heldByteS hm B.length 1 (by omega) (by omega)
  have hE := eqByteS hm B (by omega)
  have hd : decide (certK c 1 < 0) = false := by simp; omega
  have hd2 : decide ((1 : Int) + B.length < 0) = false := by simp; omega
  have hbb : (ok != ok) = false := by cases ok <;> rfl
  generalize certK c 1 = kk at *
  simp +decide (maxSteps := 9^7) only [go_sem, Nat.reduceAdd, Nat.reduceMul, Nat.reduceSub]
  refine Runs.call ct ?_
  simp +decide (maxSteps := 9^7) only [go_sem, Nat.reduceAdd, Nat.reduceMul, Nat.reduceSub]
  refine Runs.call hT' ?_
  simp +decide (maxSteps := 9^7) only [go_sem, Nat.reduceAdd, Nat.reduceMul, Nat.reduceSub]
  refine Runs.call ct ?_
  simp +decide (maxSteps := 9^7) only [go_sem, Nat.reduceAdd, Nat.reduceMul, Nat.reduceSub]
  refine Runs.call hT ?_
  simp +decide (maxSteps := 9^7) only [go_sem, Nat.reduceAdd, Nat.reduceMul, Nat.reduceSub]
  refine Runs.call hE ?_
  simp +decide (maxSteps := 9^7) only [hbb, go_sem, Nat.reduceAdd, Nat.reduceMul, Nat.reduceSub]
  refine Runs.draw (st1 := ?s1) (draws_ref (ann := []) tabOk (byL [10, 11] [1000001]) sLWc (by kernel_rfl) ?p1) ?q1
  case p1 =>
    intro K r X hK
    simp +decide (maxSteps := 9^7) only [go_sem, Nat.reduceAdd, Nat.reduceMul, Nat.reduceSub]
    repeat' apply And.intro
    all_goals
      refine Runs.call ct ?_
      simp +decide (maxSteps := 9^7) only [go_sem, Nat.reduceAdd, Nat.reduceMul, Nat.reduceSub]
      refine Runs.call ce ?_
      simp +decide (maxSteps := 9^7) only [go_sem, Nat.reduceAdd, Nat.reduceMul, Nat.reduceSub]
      exact hK
  case q1 =>
    simp +decide (maxSteps := 9^7) only [go_sem, Nat.reduceAdd, Nat.reduceMul, Nat.reduceSub]
    refine Runs.call hmk ?_
    simp +decide (maxSteps := 9^7) only [hd, hd2, hbb, List.length_range, mkb_plain, tk_mkb, go_sem, Nat.reduceAdd, Nat.reduceMul, Nat.reduceSub]
    refine Runs.call hE ?_
    simp +decide (maxSteps := 9^7) only [hd, hd2, hbb, List.length_range, mkb_plain, tk_mkb, go_sem, Nat.reduceAdd, Nat.reduceMul, Nat.reduceSub]
    refine Runs.call hB ?_
    simp +decide (maxSteps := 9^7) only [hd, hd2, hbb, List.length_range, mkb_plain, tk_mkb, go_sem, Nat.reduceAdd, Nat.reduceMul, Nat.reduceSub]
    refine Runs.call hH ?_
    simp +decide (maxSteps := 9^7) only [hd, hd2, hbb, List.length_range, mkb_plain, tk_mkb, go_sem, Nat.reduceAdd, Nat.reduceMul, Nat.reduceSub]
    refine Runs.call ct ?_
    simp +decide (maxSteps := 9^7) only [hbb, List.length_range, mkb_plain, tk_mkb, go_sem, Nat.reduceAdd, Nat.reduceMul, Nat.reduceSub]
    refine Runs.call hT ?_
    simp +decide (maxSteps := 9^7) only [hbb, List.length_range, mkb_plain, tk_mkb, go_sem, Nat.reduceAdd, Nat.reduceMul, Nat.reduceSub]
    refine Runs.call hE ?_
    simp +decide (maxSteps := 9^7) only [hd, hd2, hbb, List.length_range, mkb_plain, tk_mkb, go_sem, Nat.reduceAdd, Nat.reduceMul, Nat.reduceSub]
    refine Runs.call hH ?_
    simp +decide (maxSteps := 9^7) only [hd, hd2, hbb, List.length_range, mkb_plain, tk_mkb, go_sem, Nat.reduceAdd, Nat.reduceMul, Nat.reduceSub]
    exact Runs.ret_v
end Go.Proofs.W
