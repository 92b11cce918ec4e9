import Derived.Test.YtbfkejjljeaklaaGreatDoorWalk1
set_option linter.unusedVariables false
set_option linter.unusedSimpArgs false
namespace Go.Proofs.W
open Go Go.AM
set_option maxRecDepth 10000
variable (hm : Tryz.prog.follows .mixedOrders = true)
attribute [local go_sem] exS rowS_plain rowS_dn rowO_dn
def hostsB (q : ByteArray → Bool) (L : List ByteArray) : Bool := L.all q && decide ((L.length : Int) ≤ 6)
def addrB (l : List Int) : Bool := decide ((l.length : Int) = 4) && l.all fun n => inB n 0 255
def risE (S : List Int) : Bool := risesFrom S 1 && S.all fun n => inB n 1 1000
def exB (ca : Bool) (path usage : Int) (ho : List ByteArray) (ne : List (List Int)) (al de : List ByteArray) (pu : List Int) : Bool :=
  inB path (-1) 10 && (ca || decide (path = -1)) && inB usage 0 7 && hostsB patB ho && hostsB hostB al && hostsB hostB de && decide ((ne.length : Int) ≤ 6) && decide ((pu.length : Int) ≤ 6) && ne.all addrB && risE pu
def stepE (S : List Int) (i : Nat) : Bool := inB (S.getD i 0) 1 1000 && (decide (i = 0) || decide (S.getD (i - 1) 0 < S.getD i 0))
def stepsE (S : List Int) (i : Nat) : Bool := (List.range' i (S.length - i)).all (stepE S)
theorem stepsE_succ {S : List Int} {i : Nat} (h : i < S.length) : stepsE S i = (stepE S i && stepsE S (i + 1)) := by
  unfold stepsE
  obtain ⟨k, hk⟩ : ∃ k, S.length - i = k + 1 := ⟨S.length - i - 1, by omega⟩
  rw [hk, List.range'_succ, List.all_cons, show S.length - (i + 1) = k by omega]
theorem stepsE_end {S : List Int} {i : Nat} (h : S.length ≤ i) : stepsE S i = true := by
  unfold stepsE
  rw [show S.length - i = 0 by omega]; rfl
theorem stepsE_eq (S : List Int) : stepsE S 0 = risE S := by
  rw [Bool.eq_iff_iff]
  simp only [stepsE, risE, risesFrom, Bool.and_eq_true, List.all_eq_true, List.mem_range'_1, stepE, Bool.or_eq_true, decide_eq_true_eq]
  constructor
  · intro h
    refine ⟨fun j hj => ?_, fun n hn => ?_⟩
    · rcases (h j ⟨by omega, by omega⟩).2 with e | e
      · omega
      · exact e
    · obtain ⟨j, hj, rfl⟩ := List.getElem_of_mem hn
      have := (h j ⟨by omega, by omega⟩).1
      simpa [List.getD, hj] using this
  · rintro ⟨h1, h2⟩ j ⟨-, hj⟩
    have hj' : j < S.length := by omega
    refine ⟨?_, ?_⟩
    · have := h2 S[j] (List.getElem_mem hj')
      simpa [List.getD, hj'] using this
    · rcases Nat.eq_zero_or_pos j with e | e
      · exact .inl e
      · exact .inr (h1 j ⟨by omega, by omega⟩)
def lhAnn : Ann := [(0, [0, 1, 5])]
def lhSt (L : List ByteArray) (b : Bool) (i : Nat) : St := ⟨[.sl .sh (L.map strA), .v (.bool b), .any, .any, .any, .v (.int .i64 i), .any, .any, .any, .any, .any, .any, .any, .any, .any, .any, .any, .any, .any, .any, .any, .any, .any, .any, .any, .any, .any, .any, .any, .any, .any, .any, .any, .any, .any, .any], [], []⟩
include hm in
theorem l10Hosts (b : Bool) (L : List ByteArray) (h : L.length ≤ 1048576) (h4 : ∀ s ∈ L, s.size ≤ 1048576) : Holds Tryz.prog 91 [.sl .sh (L.map strA), .v (.bool b)] [] (.v (.bool (hostsB (if b = true then patB else hostB) L))) [] := by
  refine holds_of (ann := lhAnn) tabOk hm Tryz.func91 (by kernel_rfl) rfl ?_
  simp +decide only [Tryz.f91, go_sem, Nat.reduceAdd, Nat.reduceMul, Nat.reduceSub]
  have ha : (L.map strA).length = L.length := List.length_map _
  obtain ⟨q, hq⟩ : ∃ q, q = (if b = true then patB else hostB) := ⟨_, rfl⟩
  rw [← hq]
  refine Runs.while (α := Nat) (lhSt L b) (fun i => L.length - i) (fun i => i ≤ L.length ∧ (L.drop i).all q = L.all q) 0 ⟨by omega, by simp⟩ ?_ ?_
  · simp [go_sem, lhAnn, lhSt]
  · rintro i ⟨hi, hr⟩ ih
    simp +decide only [lhSt, ha, go_sem, Nat.reduceAdd, Nat.reduceMul, Nat.reduceSub]
    refine Runs.split (fun h => ?_) (fun h => ?_)
    · have hlt : i < L.length := by simpa using h
      have hg : (L.map strA).getD i .any = .v (.string L[i]) := by simp [List.getD, hlt, strA]
      rw [List.drop_eq_getElem_cons hlt, List.all_cons] at hr
      have hs := h4 _ (List.getElem_mem hlt)
      cases b
      · simp +decide (disch := first | omega | (simp only [ll]; omega)) only [ha, hg, if_pos, go_sem, Nat.reduceAdd, Nat.reduceMul, Nat.reduceSub]
        refine Runs.call (sHostOk hm L[i]) ?_
        have e : q L[i] = hostB L[i] := by rw [hq]; rfl
        rw [e] at hr
        cases h2 : hostB L[i]
        · simp +decide only [go_sem, Nat.reduceAdd, Nat.reduceMul, Nat.reduceSub]
          exact Runs.ret_eq (by rw [hostsB, ← hr, h2]; simp)
        · rw [h2, Bool.true_and] at hr
          simp +decide (disch := first | omega | (simp only [ll]; omega)) only [if_pos, go_sem, Nat.reduceAdd, Nat.reduceMul, Nat.reduceSub]
          refine ih (i + 1) _ (by omega) ⟨by omega, hr⟩ ?_
          simp [go_sem, lhAnn, lhSt]
      · simp +decide (disch := first | omega | (simp only [ll]; omega)) only [ha, hg, if_pos, go_sem, Nat.reduceAdd, Nat.reduceMul, Nat.reduceSub]
        refine Runs.call (sPatOk hm L[i] hs) ?_
        have e : q L[i] = patB L[i] := by rw [hq]; rfl
        rw [e] at hr
        cases h2 : patB L[i]
        · simp +decide only [go_sem, Nat.reduceAdd, Nat.reduceMul, Nat.reduceSub]
          exact Runs.ret_eq (by rw [hostsB, ← hr, h2]; simp)
        · rw [h2, Bool.true_and] at hr
          simp +decide (disch := first | omega | (simp only [ll]; omega)) only [if_pos, go_sem, Nat.reduceAdd, Nat.reduceMul, Nat.reduceSub]
          refine ih (i + 1) _ (by omega) ⟨by omega, hr⟩ ?_
          simp [go_sem, lhAnn, lhSt]
    · have hge : i = L.length := by simp at h; omega
      rw [hge, List.drop_length, List.all_nil] at hr
      simp +decide only [go_sem, Nat.reduceAdd, Nat.reduceMul, Nat.reduceSub]
      exact Runs.ret_eq (by rw [hostsB, ← hr, Bool.true_and])
def lfAnn : Ann := [(0, [0, 3])]
def lfSt (L : List Int) (i : Nat) : St := ⟨[.sl .sh (L.map intA), .any, .any, .v (.int .i64 i), .any, .any, .any, .any, .any, .any, .any, .any, .any, .any, .any, .any, .any, .any, .any], [], []⟩
include hm in
theorem l8Four (L : List Int) (h : L.length ≤ 1048576) : Holds Tryz.prog 92 [.sl .sh (L.map intA)] [] (.v (.bool (addrB L))) [] := by
  refine holds_of (ann := lfAnn) tabOk hm Tryz.func92 (by kernel_rfl) rfl ?_
  simp +decide only [Tryz.f92, go_sem, Nat.reduceAdd, Nat.reduceMul, Nat.reduceSub]
  have ha : (L.map intA).length = L.length := List.length_map _
  refine Runs.while (α := Nat) (lfSt L) (fun i => L.length - i) (fun i => i ≤ L.length ∧ ((L.drop i).all fun n => inB n 0 255) = L.all fun n => inB n 0 255) 0 ⟨by omega, by simp⟩ ?_ ?_
  · simp [go_sem, lfAnn, lfSt]
  · rintro i ⟨hi, hr⟩ ih
    simp +decide only [lfSt, ha, go_sem, Nat.reduceAdd, Nat.reduceMul, Nat.reduceSub]
    refine Runs.split (fun h => ?_) (fun h => ?_)
    · have hlt : i < L.length := by simpa using h
      have hg : (L.map intA).getD i .any = .v (.int .i64 L[i]) := by simp [List.getD, hlt, intA]
      rw [List.drop_eq_getElem_cons hlt, List.all_cons] at hr
      simp +decide (disch := first | omega | (simp only [ll]; omega)) only [ha, hg, if_pos, go_sem, Nat.reduceAdd, Nat.reduceMul, Nat.reduceSub]
      refine Runs.call (l1In hm _ 0 255) ?_
      cases h2 : inB L[i] 0 255
      · simp +decide only [go_sem, Nat.reduceAdd, Nat.reduceMul, Nat.reduceSub]
        exact Runs.ret_eq (by rw [addrB, ← hr, h2]; simp)
      · rw [h2, Bool.true_and] at hr
        simp +decide (disch := first | omega | (simp only [ll]; omega)) only [if_pos, go_sem, Nat.reduceAdd, Nat.reduceMul, Nat.reduceSub]
        refine ih (i + 1) _ (by omega) ⟨by omega, hr⟩ ?_
        simp [go_sem, lfAnn, lfSt]
    · have hge : i = L.length := by simp at h; omega
      rw [hge, List.drop_length, List.all_nil] at hr
      simp +decide only [go_sem, Nat.reduceAdd, Nat.reduceMul, Nat.reduceSub]
      exact Runs.ret_eq (by rw [addrB, ← hr, Bool.and_true])
def leeAnn : Ann := [(0, [1, 3]), (2, [1, 4])]
def leeSt (x : A) (i : Nat) : St := ⟨[.any, .ptr [x] 0 0, .any, .v (.int .i64 i), .any, .any, .any, .any, .any, .any, .any, .any, .any, .any, .any, .any, .any, .any, .any, .any, .any, .any, .any, .any, .any, .any, .any, .any, .any, .any, .any, .any, .any, .any, .any, .any, .any, .any, .any, .any, .any, .any, .any, .any, .any, .any, .any, .any, .any, .any, .any, .any, .any, .any, .any, .any, .any, .any, .any, .any, .any, .any, .any, .any, .any, .any, .any, .any, .any, .any, .any, .any, .any, .any, .any, .any, .any, .any, .any, .any, .any, .any, .any, .any, .any, .any, .any, .any, .any, .any, .any, .any, .any, .any, .any, .any, .any, .any, .any, .any, .any], [], []⟩
def leeSt2 (x : A) (i : Nat) : St := ⟨[.any, .ptr [x] 0 0, .any, .any, .v (.int .i64 i), .any, .any, .any, .any, .any, .any, .any, .any, .any, .any, .any, .any, .any, .any, .any, .any, .any, .any, .any, .any, .any, .any, .any, .any, .any, .any, .any, .any, .any, .any, .any, .any, .any, .any, .any, .any, .any, .any, .any, .any, .any, .any, .any, .any, .any, .any, .any, .any, .any, .any, .any, .any, .any, .any, .any, .any, .any, .any, .any, .any, .any, .any, .any, .any, .any, .any, .any, .any, .any, .any, .any, .any, .any, .any, .any, .any, .any, .any, .any, .any, .any, .any, .any, .any, .any, .any, .any, .any, .any, .any, .any, .any, .any, .any, .any, .any], [], []⟩
def leeS : Sched := .take 0 (.take 2 (.ld 1 (.take 3 (.ld 4 (.alt 5 (.take 6 (.take 7 (.take 8 (.take 9 (.take 10 (.take 11 (.take 13 (.take 14 (.take 17 (.take 19 (.ld 12 (.take 15 (.ld 16 (.ld 18 (.take 20 (.ld 21 (.take 22 (.take 23 (.take 24 .fin))))))))))))))))))) .nil)))))
attribute [local go_sem] leeS
set_option maxHeartbeats 4000000 in
include hm in
theorem l10Exts (ca : Bool) (path usage : Int) (ho : List ByteArray) (ne : List (List Int)) (al de : List ByteArray) (pu : List Int) (h : ExFit ho ne al de pu)
    (s1 : ∀ s ∈ ho, s.size ≤ 1048576) (s2 : ∀ s ∈ al, s.size ≤ 1048576) (s3 : ∀ s ∈ de, s.size ≤ 1048576) :
    Holds Tryz.prog 44 [exS ca path usage ho ne al de pu] [] (.v (.bool (exB ca path usage ho ne al de pu))) [] := by
  obtain ⟨f1, f2, f3, f4, f5, f6⟩ := h
  refine holds_ref (ann := leeAnn) tabOk hm (byL [] [1000001]) Tryz.func44 (by kernel_rfl) rfl ?_
  have hN : (ne.map rowS).length = ne.length := List.length_map _
  have hP : (pu.map intA).length = pu.length := List.length_map _
  simp +decide only [Tryz.f44, hN, hP, go_sem, Nat.reduceAdd, Nat.reduceMul, Nat.reduceSub]
  refine Runs.call (l1In hm path (-1) 10) ?_
  cases c1 : inB path (-1) 10
  · simp +decide only [go_sem, Nat.reduceAdd, Nat.reduceMul, Nat.reduceSub]
    exact Runs.ret_eq (by simp only [exB, c1, Bool.false_and])
  simp +decide only [go_sem, Nat.reduceAdd, Nat.reduceMul, Nat.reduceSub]
  have h1 := l10Hosts hm true ho f1 s1
  have h2 := l10Hosts hm false al f4 s2
  have h3 := l10Hosts hm false de f5 s3
  simp only [if_true, Bool.false_eq_true, if_false] at h1 h2 h3
  cases c2 : (ca || decide (path = -1))
  · simp only [Bool.or_eq_false_iff] at c2
    obtain ⟨d1, d2⟩ := c2
    subst d1
    simp +decide only [d2, go_sem, Nat.reduceAdd, Nat.reduceMul, Nat.reduceSub]
    exact Runs.ret_eq (by simp only [exB, c1, d2, Bool.or_false, Bool.and_false, Bool.false_and])
  cases ca
  · simp only [Bool.false_or, Bool.true_or] at c2
    simp +decide only [c2, go_sem, Nat.reduceAdd, Nat.reduceMul, Nat.reduceSub]
    refine Runs.call (l1In hm usage 0 7) ?_
    cases c3 : inB usage 0 7
    · simp +decide only [go_sem, Nat.reduceAdd, Nat.reduceMul, Nat.reduceSub]
      exact Runs.ret_eq (by simp only [exB, c3, Bool.and_false, Bool.false_and])
    simp +decide only [go_sem, Nat.reduceAdd, Nat.reduceMul, Nat.reduceSub]
    refine Runs.call h1 ?_
    cases c4 : hostsB patB ho
    · simp +decide only [go_sem, Nat.reduceAdd, Nat.reduceMul, Nat.reduceSub]
      exact Runs.ret_eq (by simp only [exB, c4, Bool.and_false, Bool.false_and])
    simp +decide only [go_sem, Nat.reduceAdd, Nat.reduceMul, Nat.reduceSub]
    refine Runs.call h2 ?_
    cases c5 : hostsB hostB al
    · simp +decide only [go_sem, Nat.reduceAdd, Nat.reduceMul, Nat.reduceSub]
      exact Runs.ret_eq (by simp only [exB, c5, Bool.and_false, Bool.false_and])
    simp +decide only [go_sem, Nat.reduceAdd, Nat.reduceMul, Nat.reduceSub]
    refine Runs.call h3 ?_
    cases c6 : hostsB hostB de
    · simp +decide only [go_sem, Nat.reduceAdd, Nat.reduceMul, Nat.reduceSub]
      exact Runs.ret_eq (by simp only [exB, c6, Bool.and_false, Bool.false_and])
    simp +decide only [hN, hP, go_sem, Nat.reduceAdd, Nat.reduceMul, Nat.reduceSub]
    refine Runs.split (fun g => ?_) (fun g => ?_)
    · have c7 : decide ((ne.length : Int) ≤ 6) = false := by simp at g; simp; omega
      simp +decide only [go_sem, Nat.reduceAdd, Nat.reduceMul, Nat.reduceSub]
      exact Runs.ret_eq (by simp only [exB, c7, Bool.and_false, Bool.false_and])
    have c7 : decide ((ne.length : Int) ≤ 6) = true := by simp at g; simp; omega
    simp +decide only [hN, hP, go_sem, Nat.reduceAdd, Nat.reduceMul, Nat.reduceSub]
    refine Runs.split (fun g => ?_) (fun g => ?_)
    · have c8 : decide ((pu.length : Int) ≤ 6) = false := by simp at g; simp; omega
      simp +decide only [go_sem, Nat.reduceAdd, Nat.reduceMul, Nat.reduceSub]
      exact Runs.ret_eq (by simp only [exB, c8, Bool.and_false, Bool.false_and])
    have c8 : decide ((pu.length : Int) ≤ 6) = true := by simp at g; simp; omega
    simp +decide only [hN, hP, go_sem, Nat.reduceAdd, Nat.reduceMul, Nat.reduceSub]
    refine Runs.while (α := Nat) (leeSt (exS false path usage ho ne al de pu)) (fun i => ne.length - i) (fun i => i ≤ ne.length ∧ (ne.drop i).all addrB = ne.all addrB) 0 ⟨by omega, by simp⟩ ?_ ?_
    · simp [go_sem, leeAnn, leeSt]
    rintro i ⟨hi, hr⟩ ih
    simp +decide only [leeSt, hN, go_sem, Nat.reduceAdd, Nat.reduceMul, Nat.reduceSub]
    refine Runs.split (fun h => ?_) (fun h => ?_)
    · have hlt : i < ne.length := by simpa using h
      have hg : (ne.map rowS).getD i .any = .sl .sh (ne[i].map intA) := by simp [List.getD, hlt, rowS]
      rw [List.drop_eq_getElem_cons hlt, List.all_cons] at hr
      simp +decide (disch := first | omega | (simp only [ll]; omega)) only [hN, hg, if_pos, go_sem, Nat.reduceAdd, Nat.reduceMul, Nat.reduceSub]
      refine Runs.call (l8Four hm ne[i] (f3 _ (List.getElem_mem hlt))) ?_
      cases g2 : addrB ne[i]
      · simp +decide only [go_sem, Nat.reduceAdd, Nat.reduceMul, Nat.reduceSub]
        exact Runs.ret_eq (by simp only [exB, ← hr, g2, Bool.and_false, Bool.false_and])
      · rw [g2, Bool.true_and] at hr
        simp +decide (disch := first | omega | (simp only [ll]; omega)) only [if_pos, go_sem, Nat.reduceAdd, Nat.reduceMul, Nat.reduceSub]
        refine ih (i + 1) _ (by omega) ⟨by omega, hr⟩ ?_
        simp [go_sem, leeAnn, leeSt]
    have hge : i = ne.length := by simp at h; omega
    rw [hge, List.drop_length, List.all_nil] at hr
    simp +decide only [go_sem, Nat.reduceAdd, Nat.reduceMul, Nat.reduceSub]
    refine Runs.while (α := Nat) (leeSt2 (exS false path usage ho ne al de pu)) (fun i => pu.length - i) (fun i => i ≤ pu.length ∧ stepsE pu i = stepsE pu 0) 0 ⟨by omega, rfl⟩ ?_ ?_
    · simp [go_sem, leeAnn, leeSt2]
    rintro i ⟨hi1, hr1⟩ ih
    simp +decide only [leeSt2, hP, go_sem, Nat.reduceAdd, Nat.reduceMul, Nat.reduceSub]
    refine Runs.split (fun h => ?_) (fun h => ?_)
    · have hlt : i < pu.length := by simpa using h
      rw [stepsE_succ hlt] at hr1
      have hg : pu.getD i 0 = pu[i] := by simp [List.getD, hlt]
      have hgA : (pu.map intA).getD i .any = .v (.int .i64 pu[i]) := by simp [List.getD, hlt, intA]
      have stop : stepE pu i = false → exB false path usage ho ne al de pu = false := fun e => by
        rw [exB, ← stepsE_eq, ← hr1, e]; simp
      simp +decide only [go_sem, Nat.reduceAdd, Nat.reduceMul, Nat.reduceSub]
      cases hb : inB pu[i] 1 1000 with
      | false =>
        refine Runs.draw (st1 := ?s1a) (draws_ref (ann := leeAnn) tabOk (byL [] [1000001]) leeS (by kernel_rfl) ?p1a) ?q1a
        case p1a =>
          intro K r X hK
          simp +decide (maxSteps := 9^7) (disch := first | omega | (simp only [ll]; omega)) only [hP, hgA, if_pos, go_sem, Nat.reduceAdd, Nat.reduceMul, Nat.reduceSub]
          refine Runs.call (l1In hm _ 1 _) ?_
          simp +decide (maxSteps := 9^7) (disch := first | omega | (simp only [ll]; omega)) only [hb, if_pos, go_sem, Nat.reduceAdd, Nat.reduceMul, Nat.reduceSub]
          exact hK
        case q1a =>
          have e : exB false path usage ho ne al de pu = false := stop (by rw [stepE, hg, hb, Bool.false_and])
          simp +decide (disch := first | omega | (simp only [ll]; omega)) only [if_pos, go_sem, Nat.reduceAdd, Nat.reduceMul, Nat.reduceSub]
          exact Runs.ret_eq (by rw [e])
      | true =>
        rcases Nat.eq_zero_or_pos i with h0 | h0
        · subst h0
          refine Runs.draw (st1 := ?s2a) (draws_ref (ann := leeAnn) tabOk (byL [] [1000001]) leeS (by kernel_rfl) ?p2a) ?q2a
          case p2a =>
            intro K r X hK
            simp +decide (maxSteps := 9^7) (disch := first | omega | (simp only [ll]; omega)) only [hP, hgA, Int.natCast_zero, if_pos, go_sem, Nat.reduceAdd, Nat.reduceMul, Nat.reduceSub]
            refine Runs.call (l1In hm _ 1 _) ?_
            have hb0 : inB pu[Int.toNat 0] 1 1000 = true := hb
            simp +decide (maxSteps := 9^7) (disch := first | omega | (simp only [ll]; omega)) only [hb, hb0, Int.natCast_zero, gt_iff_lt, Int.lt_irrefl, if_pos, go_sem, Nat.reduceAdd, Nat.reduceMul, Nat.reduceSub]
            exact hK
          case q2a =>
            have e : stepE pu 0 = true := by rw [stepE, hg, hb]; rfl
            rw [e, Bool.true_and] at hr1
            simp +decide (disch := first | omega | (simp only [ll]; omega)) only [if_pos, go_sem, Nat.reduceAdd, Nat.reduceMul, Nat.reduceSub]
            refine ih 1 _ (by omega) ⟨by omega, hr1⟩ ?_
            simp [go_sem, leeAnn, leeSt2]
        · have hd : decide ((i : Int) > 0) = true := by simp; omega
          have ht : ((i : Int) - 1).toNat = i - 1 := by omega
          have hg1 : (pu.map intA).getD (i - 1) .any = .v (.int .i64 (pu.getD (i - 1) 0)) := by simp [List.getD, show i - 1 < pu.length by omega, intA]
          cases h5 : decide (pu.getD (i - 1) 0 ≥ pu[i])
          · refine Runs.draw (st1 := ?s3a) (draws_ref (ann := leeAnn) tabOk (byL [] [1000001]) leeS (by kernel_rfl) ?p3a) ?q3a
            case p3a =>
              intro K r X hK
              simp +decide (maxSteps := 9^7) (disch := first | omega | (simp only [ll]; omega)) only [hP, hgA, hd, ht, hg1, if_pos, go_sem, Nat.reduceAdd, Nat.reduceMul, Nat.reduceSub]
              refine Runs.call (l1In hm _ 1 _) ?_
              simp +decide (maxSteps := 9^7) (disch := first | omega | (simp only [ll]; omega)) only [hP, hb, hd, ht, hg1, hgA, h5, if_pos, go_sem, Nat.reduceAdd, Nat.reduceMul, Nat.reduceSub]
              exact hK
            case q3a =>
              have e : stepE pu i = true := by rw [stepE, hg, hb]; simp at h5; simp; right; exact h5
              rw [e, Bool.true_and] at hr1
              simp +decide (disch := first | omega | (simp only [ll]; omega)) only [if_pos, go_sem, Nat.reduceAdd, Nat.reduceMul, Nat.reduceSub]
              refine ih (i + 1) _ (by omega) ⟨by omega, hr1⟩ ?_
              simp [go_sem, leeAnn, leeSt2]
          · refine Runs.draw (st1 := ?s4a) (draws_ref (ann := leeAnn) tabOk (byL [] [1000001]) leeS (by kernel_rfl) ?p4a) ?q4a
            case p4a =>
              intro K r X hK
              simp +decide (maxSteps := 9^7) (disch := first | omega | (simp only [ll]; omega)) only [hP, hgA, hd, ht, hg1, if_pos, go_sem, Nat.reduceAdd, Nat.reduceMul, Nat.reduceSub]
              refine Runs.call (l1In hm _ 1 _) ?_
              simp +decide (maxSteps := 9^7) (disch := first | omega | (simp only [ll]; omega)) only [hP, hb, hd, ht, hg1, hgA, h5, if_pos, go_sem, Nat.reduceAdd, Nat.reduceMul, Nat.reduceSub]
              exact hK
            case q4a =>
              have e : exB false path usage ho ne al de pu = false := stop (by rw [stepE, hg, hb]; simp at h5; simp; omega)
              simp +decide (disch := first | omega | (simp only [ll]; omega)) only [if_pos, go_sem, Nat.reduceAdd, Nat.reduceMul, Nat.reduceSub]
              exact Runs.ret_eq (by rw [e])
    have hge : i = pu.length := by simp at h; omega
    rw [hge, stepsE_end (Nat.le_refl _)] at hr1
    simp +decide only [go_sem, Nat.reduceAdd, Nat.reduceMul, Nat.reduceSub]
    exact Runs.ret_eq (by simp only [exB, c1, c2, c3, c4, c5, c6, c7, c8, ← hr, ← stepsE_eq, ← hr1, Bool.true_and, Bool.and_true, Bool.true_or, Bool.false_or])
  · simp only [Bool.false_or, Bool.true_or] at c2
    simp +decide only [c2, go_sem, Nat.reduceAdd, Nat.reduceMul, Nat.reduceSub]
    refine Runs.call (l1In hm usage 0 7) ?_
    cases c3 : inB usage 0 7
    · simp +decide only [go_sem, Nat.reduceAdd, Nat.reduceMul, Nat.reduceSub]
      exact Runs.ret_eq (by simp only [exB, c3, Bool.and_false, Bool.false_and])
    simp +decide only [go_sem, Nat.reduceAdd, Nat.reduceMul, Nat.reduceSub]
    refine Runs.call h1 ?_
    cases c4 : hostsB patB ho
    · simp +decide only [go_sem, Nat.reduceAdd, Nat.reduceMul, Nat.reduceSub]
      exact Runs.ret_eq (by simp only [exB, c4, Bool.and_false, Bool.false_and])
    simp +decide only [go_sem, Nat.reduceAdd, Nat.reduceMul, Nat.reduceSub]
    refine Runs.call h2 ?_
    cases c5 : hostsB hostB al
    · simp +decide only [go_sem, Nat.reduceAdd, Nat.reduceMul, Nat.reduceSub]
      exact Runs.ret_eq (by simp only [exB, c5, Bool.and_false, Bool.false_and])
    simp +decide only [go_sem, Nat.reduceAdd, Nat.reduceMul, Nat.reduceSub]
    refine Runs.call h3 ?_
    cases c6 : hostsB hostB de
    · simp +decide only [go_sem, Nat.reduceAdd, Nat.reduceMul, Nat.reduceSub]
      exact Runs.ret_eq (by simp only [exB, c6, Bool.and_false, Bool.false_and])
    simp +decide only [hN, hP, go_sem, Nat.reduceAdd, Nat.reduceMul, Nat.reduceSub]
    refine Runs.split (fun g => ?_) (fun g => ?_)
    · have c7 : decide ((ne.length : Int) ≤ 6) = false := by simp at g; simp; omega
      simp +decide only [go_sem, Nat.reduceAdd, Nat.reduceMul, Nat.reduceSub]
      exact Runs.ret_eq (by simp only [exB, c7, Bool.and_false, Bool.false_and])
    have c7 : decide ((ne.length : Int) ≤ 6) = true := by simp at g; simp; omega
    simp +decide only [hN, hP, go_sem, Nat.reduceAdd, Nat.reduceMul, Nat.reduceSub]
    refine Runs.split (fun g => ?_) (fun g => ?_)
    · have c8 : decide ((pu.length : Int) ≤ 6) = false := by simp at g; simp; omega
      simp +decide only [go_sem, Nat.reduceAdd, Nat.reduceMul, Nat.reduceSub]
      exact Runs.ret_eq (by simp only [exB, c8, Bool.and_false, Bool.false_and])
    have c8 : decide ((pu.length : Int) ≤ 6) = true := by simp at g; simp; omega
    simp +decide only [hN, hP, go_sem, Nat.reduceAdd, Nat.reduceMul, Nat.reduceSub]
    refine Runs.while (α := Nat) (leeSt (exS true path usage ho ne al de pu)) (fun i => ne.length - i) (fun i => i ≤ ne.length ∧ (ne.drop i).all addrB = ne.all addrB) 0 ⟨by omega, by simp⟩ ?_ ?_
    · simp [go_sem, leeAnn, leeSt]
    rintro i ⟨hi, hr⟩ ih
    simp +decide only [leeSt, hN, go_sem, Nat.reduceAdd, Nat.reduceMul, Nat.reduceSub]
    refine Runs.split (fun h => ?_) (fun h => ?_)
    · have hlt : i < ne.length := by simpa using h
      have hg : (ne.map rowS).getD i .any = .sl .sh (ne[i].map intA) := by simp [List.getD, hlt, rowS]
      rw [List.drop_eq_getElem_cons hlt, List.all_cons] at hr
      simp +decide (disch := first | omega | (simp only [ll]; omega)) only [hN, hg, if_pos, go_sem, Nat.reduceAdd, Nat.reduceMul, Nat.reduceSub]
      refine Runs.call (l8Four hm ne[i] (f3 _ (List.getElem_mem hlt))) ?_
      cases g2 : addrB ne[i]
      · simp +decide only [go_sem, Nat.reduceAdd, Nat.reduceMul, Nat.reduceSub]
        exact Runs.ret_eq (by simp only [exB, ← hr, g2, Bool.and_false, Bool.false_and])
      · rw [g2, Bool.true_and] at hr
        simp +decide (disch := first | omega | (simp only [ll]; omega)) only [if_pos, go_sem, Nat.reduceAdd, Nat.reduceMul, Nat.reduceSub]
        refine ih (i + 1) _ (by omega) ⟨by omega, hr⟩ ?_
        simp [go_sem, leeAnn, leeSt]
    have hge : i = ne.length := by simp at h; omega
    rw [hge, List.drop_length, List.all_nil] at hr
    simp +decide only [go_sem, Nat.reduceAdd, Nat.reduceMul, Nat.reduceSub]
    refine Runs.while (α := Nat) (leeSt2 (exS true path usage ho ne al de pu)) (fun i => pu.length - i) (fun i => i ≤ pu.length ∧ stepsE pu i = stepsE pu 0) 0 ⟨by omega, rfl⟩ ?_ ?_
    · simp [go_sem, leeAnn, leeSt2]
    rintro i ⟨hi1, hr1⟩ ih
    simp +decide only [leeSt2, hP, go_sem, Nat.reduceAdd, Nat.reduceMul, Nat.reduceSub]
    refine Runs.split (fun h => ?_) (fun h => ?_)
    · have hlt : i < pu.length := by simpa using h
      rw [stepsE_succ hlt] at hr1
      have hg : pu.getD i 0 = pu[i] := by simp [List.getD, hlt]
      have hgA : (pu.map intA).getD i .any = .v (.int .i64 pu[i]) := by simp [List.getD, hlt, intA]
      have stop : stepE pu i = false → exB true path usage ho ne al de pu = false := fun e => by
        rw [exB, ← stepsE_eq, ← hr1, e]; simp
      simp +decide only [go_sem, Nat.reduceAdd, Nat.reduceMul, Nat.reduceSub]
      cases hb : inB pu[i] 1 1000 with
      | false =>
        refine Runs.draw (st1 := ?s1b) (draws_ref (ann := leeAnn) tabOk (byL [] [1000001]) leeS (by kernel_rfl) ?p1b) ?q1b
        case p1b =>
          intro K r X hK
          simp +decide (maxSteps := 9^7) (disch := first | omega | (simp only [ll]; omega)) only [hP, hgA, if_pos, go_sem, Nat.reduceAdd, Nat.reduceMul, Nat.reduceSub]
          refine Runs.call (l1In hm _ 1 _) ?_
          simp +decide (maxSteps := 9^7) (disch := first | omega | (simp only [ll]; omega)) only [hb, if_pos, go_sem, Nat.reduceAdd, Nat.reduceMul, Nat.reduceSub]
          exact hK
        case q1b =>
          have e : exB true path usage ho ne al de pu = false := stop (by rw [stepE, hg, hb, Bool.false_and])
          simp +decide (disch := first | omega | (simp only [ll]; omega)) only [if_pos, go_sem, Nat.reduceAdd, Nat.reduceMul, Nat.reduceSub]
          exact Runs.ret_eq (by rw [e])
      | true =>
        rcases Nat.eq_zero_or_pos i with h0 | h0
        · subst h0
          refine Runs.draw (st1 := ?s2b) (draws_ref (ann := leeAnn) tabOk (byL [] [1000001]) leeS (by kernel_rfl) ?p2b) ?q2b
          case p2b =>
            intro K r X hK
            simp +decide (maxSteps := 9^7) (disch := first | omega | (simp only [ll]; omega)) only [hP, hgA, Int.natCast_zero, if_pos, go_sem, Nat.reduceAdd, Nat.reduceMul, Nat.reduceSub]
            refine Runs.call (l1In hm _ 1 _) ?_
            have hb0 : inB pu[Int.toNat 0] 1 1000 = true := hb
            simp +decide (maxSteps := 9^7) (disch := first | omega | (simp only [ll]; omega)) only [hb, hb0, Int.natCast_zero, gt_iff_lt, Int.lt_irrefl, if_pos, go_sem, Nat.reduceAdd, Nat.reduceMul, Nat.reduceSub]
            exact hK
          case q2b =>
            have e : stepE pu 0 = true := by rw [stepE, hg, hb]; rfl
            rw [e, Bool.true_and] at hr1
            simp +decide (disch := first | omega | (simp only [ll]; omega)) only [if_pos, go_sem, Nat.reduceAdd, Nat.reduceMul, Nat.reduceSub]
            refine ih 1 _ (by omega) ⟨by omega, hr1⟩ ?_
            simp [go_sem, leeAnn, leeSt2]
        · have hd : decide ((i : Int) > 0) = true := by simp; omega
          have ht : ((i : Int) - 1).toNat = i - 1 := by omega
          have hg1 : (pu.map intA).getD (i - 1) .any = .v (.int .i64 (pu.getD (i - 1) 0)) := by simp [List.getD, show i - 1 < pu.length by omega, intA]
          cases h5 : decide (pu.getD (i - 1) 0 ≥ pu[i])
          · refine Runs.draw (st1 := ?s3b) (draws_ref (ann := leeAnn) tabOk (byL [] [1000001]) leeS (by kernel_rfl) ?p3b) ?q3b
            case p3b =>
              intro K r X hK
              simp +decide (maxSteps := 9^7) (disch := first | omega | (simp only [ll]; omega)) only [hP, hgA, hd, ht, hg1, if_pos, go_sem, Nat.reduceAdd, Nat.reduceMul, Nat.reduceSub]
              refine Runs.call (l1In hm _ 1 _) ?_
              simp +decide (maxSteps := 9^7) (disch := first | omega | (simp only [ll]; omega)) only [hP, hb, hd, ht, hg1, hgA, h5, if_pos, go_sem, Nat.reduceAdd, Nat.reduceMul, Nat.reduceSub]
              exact hK
            case q3b =>
              have e : stepE pu i = true := by rw [stepE, hg, hb]; simp at h5; simp; right; exact h5
              rw [e, Bool.true_and] at hr1
              simp +decide (disch := first | omega | (simp only [ll]; omega)) only [if_pos, go_sem, Nat.reduceAdd, Nat.reduceMul, Nat.reduceSub]
              refine ih (i + 1) _ (by omega) ⟨by omega, hr1⟩ ?_
              simp [go_sem, leeAnn, leeSt2]
          · refine Runs.draw (st1 := ?s4b) (draws_ref (ann := leeAnn) tabOk (byL [] [1000001]) leeS (by kernel_rfl) ?p4b) ?q4b
            case p4b =>
              intro K r X hK
              simp +decide (maxSteps := 9^7) (disch := first | omega | (simp only [ll]; omega)) only [hP, hgA, hd, ht, hg1, if_pos, go_sem, Nat.reduceAdd, Nat.reduceMul, Nat.reduceSub]
              refine Runs.call (l1In hm _ 1 _) ?_
              simp +decide (maxSteps := 9^7) (disch := first | omega | (simp only [ll]; omega)) only [hP, hb, hd, ht, hg1, hgA, h5, if_pos, go_sem, Nat.reduceAdd, Nat.reduceMul, Nat.reduceSub]
              exact hK
            case q4b =>
              have e : exB true path usage ho ne al de pu = false := stop (by rw [stepE, hg, hb]; simp at h5; simp; omega)
              simp +decide (disch := first | omega | (simp only [ll]; omega)) only [if_pos, go_sem, Nat.reduceAdd, Nat.reduceMul, Nat.reduceSub]
              exact Runs.ret_eq (by rw [e])
    have hge : i = pu.length := by simp at h; omega
    rw [hge, stepsE_end (Nat.le_refl _)] at hr1
    simp +decide only [go_sem, Nat.reduceAdd, Nat.reduceMul, Nat.reduceSub]
    exact Runs.ret_eq (by simp only [exB, c1, c2, c3, c4, c5, c6, c7, c8, ← hr, ← stepsE_eq, ← hr1, Bool.true_and, Bool.and_true, Bool.true_or, Bool.false_or])
end Go.Proofs.W

namespace Go.Proofs.W
open Go Go.AM
variable (hm : Tryz.prog.follows .mixedOrders = true)
attribute [local go_sem] exS rowS_plain rowS_dn rowO_dn
def netBy (a : List Int) : List Int := [ib (a.getD 0 0), ib (a.getD 1 0), ib (a.getD 2 0), ib (a.getD 3 0)]
def netN (a : List Int) : Nd := .mk 135 (netBy a) []
def netI (a : List Int) : It := ⟨135, netBy a, 0⟩
def oneN (k : Int) (n : Nd) : Nd := .mk 48 [] [intN k, n]
def exCa (path : Int) : List Nd := .mk 1 [255] [] :: if path = -1 then [] else [intN path]
def ex1 (ca : Bool) (path : Int) : List Nd := if ca = true then [oneN 1 (.mk 48 [] (exCa path))] else []
def ex2 (usage : Int) : List Nd := if usage = 0 then [] else [oneN 2 (.mk 3 [5, ib (32 * usage)] [])]
def ex3 (ho : List ByteArray) (ne : List (List Int)) : List Nd := if 0 < ho.length + ne.length then [oneN 3 (.mk 48 [] (ho.map (txtN 130) ++ ne.map netN))] else []
def exAl (t : Int) (al : List ByteArray) : List Nd := if 0 < al.length then [.mk t [] (al.map (txtN 130))] else []
def ex4 (al de : List ByteArray) : List Nd := if 0 < al.length + de.length then [oneN 4 (.mk 48 [] (exAl 160 al ++ exAl 161 de))] else []
def ex5 (pu : List Int) : List Nd := if 0 < pu.length then [oneN 5 (.mk 48 [] (pu.map intN))] else []
def exNs (ca : Bool) (path usage : Int) (ho : List ByteArray) (ne : List (List Int)) (al de : List ByteArray) (pu : List Int) : List Nd :=
  ex1 ca path ++ ex2 usage ++ ex3 ho ne ++ ex4 al de ++ ex5 pu
theorem itemsN_net (a : List Int) : itemsN (netN a) = [netI a] := by simp [netN, itemsN_mk, itemsNL, netI]
theorem items_one (k : Int) (n : Nd) : itemsN (oneN k n) = ⟨48, [], 2⟩ :: intI k :: itemsN n := by
  rw [oneN, itemsN_mk]
  simp only [itemsNL, itemsN_int, List.append_nil, List.singleton_append, List.length_cons, List.length_nil]
  rfl
theorem itemsN_cons (n : Nd) : ∃ x T, itemsN n = x :: T := by obtain ⟨t, b, ks⟩ := n; exact ⟨_, _, itemsN_mk t b ks⟩
theorem itemsNL_one (n : Nd) : itemsNL [n] = itemsN n := by simp [itemsNL]
theorem items_txts (t : Int) (L : List ByteArray) : itemsNL (L.map (txtN t)) = L.map (txtI t) := itemsNL_map _ _ (itemsN_txt t) L
theorem items_nets (L : List (List Int)) : itemsNL (L.map netN) = L.map netI := itemsNL_map _ _ itemsN_net L
theorem items_ints (L : List Int) : itemsNL (L.map intN) = L.map intI := itemsNL_map _ _ itemsN_int L
theorem itemsNL_nil : itemsNL [] = [] := by simp [itemsNL]
theorem one_len (k : Int) (n : Nd) : (itemsN (oneN k n)).length = (itemsN n).length + 2 := by rw [items_one]; simp
theorem exCa_items (path : Int) : (itemsNL (exCa path)).length = (exCa path).length ∧ (exCa path).length ≤ 2 := by
  unfold exCa
  split <;> simp [itemsNL, itemsN_mk, intN]
theorem ex1_le (ca : Bool) (path : Int) : (itemsNL (ex1 ca path)).length ≤ 5 := by
  have := exCa_items path
  unfold ex1
  split
  · rw [itemsNL_one, one_len, itemsN_mk]; simp; omega
  · simp [itemsNL]
theorem ex2_le (usage : Int) : (itemsNL (ex2 usage)).length ≤ 3 := by
  unfold ex2
  split
  · simp [itemsNL]
  · rw [itemsNL_one, one_len, itemsN_mk]; simp [itemsNL]
theorem ex3_le {ho : List ByteArray} {ne : List (List Int)} (h1 : ho.length ≤ 6) (h2 : ne.length ≤ 6) : (itemsNL (ex3 ho ne)).length ≤ 15 := by
  unfold ex3
  split
  · rw [itemsNL_one, one_len, itemsN_mk, itemsNL_app, items_txts, items_nets]; simp; omega
  · simp [itemsNL]
theorem exAl_items (t : Int) (al : List ByteArray) (h : 0 < al.length) : itemsNL (exAl t al) = ⟨t, [], al.length⟩ :: al.map (txtI 130) := by
  rw [exAl, if_pos h, itemsNL_one, itemsN_mk, items_txts, List.length_map]
theorem exAl_none (t : Int) (al : List ByteArray) (h : ¬ 0 < al.length) : exAl t al = [] := by rw [exAl, if_neg h]
theorem exAl_le (t : Int) {al : List ByteArray} (h : al.length ≤ 6) : (itemsNL (exAl t al)).length ≤ 7 ∧ (exAl t al).length ≤ 1 := by
  by_cases h0 : 0 < al.length
  · rw [exAl_items t al h0, exAl, if_pos h0]; simp; omega
  · rw [exAl_none t al h0]; simp [itemsNL]
theorem ex4_le {al de : List ByteArray} (h1 : al.length ≤ 6) (h2 : de.length ≤ 6) : (itemsNL (ex4 al de)).length ≤ 17 := by
  have := exAl_le 160 h1
  have := exAl_le 161 h2
  unfold ex4
  split
  · rw [itemsNL_one, one_len, itemsN_mk, itemsNL_app]; simp; omega
  · simp [itemsNL]
theorem ex5_le {pu : List Int} (h : pu.length ≤ 6) : (itemsNL (ex5 pu)).length ≤ 9 := by
  unfold ex5
  split
  · rw [itemsNL_one, one_len, itemsN_mk, items_ints]; simp; omega
  · simp [itemsNL]
set_option maxRecDepth 10000 in
include hm in
theorem l10One (k : Int) (n : Nd) (h1 : -9223372036854775808 ≤ k) (h2 : k < 9223372036854775808) (h3 : (itemsN n).length ≤ 900000) :
    Holds Tryz.prog 104 [.v (.int .i64 k), .sl (.ow 3) ((itemsN n).map itemO)] [] (.sl (.ow 3) ((itemsN (oneN k n)).map itemO)) [] := by
  refine holds_ref (ann := []) tabOk hm (byL [] [19]) Tryz.func104 (by kernel_rfl) rfl ?_
  obtain ⟨x, T, hT⟩ := itemsN_cons n
  rw [items_one]
  rw [hT] at h3 ⊢
  simp only [List.length_cons] at h3
  have hl : (T.map itemO).length = T.length := List.length_map _
  have hi := l10Int hm k h1 h2
  have hmd := l10Made hm 48 2 (intI k :: x :: T) (by simp; omega)
  have ht : List.take (T.length + 1) (itemO x :: T.map itemO) = itemO x :: T.map itemO := List.take_of_length_le (by simp)
  simp +decide (disch := first | omega | (simp only [ll]; omega)) only [Tryz.f104, hl, List.map_cons, List.length_cons, if_pos, go_sem, Nat.reduceAdd, Nat.reduceMul, Nat.reduceSub]
  refine Runs.call hi ?_
  simp +decide (disch := first | omega | (simp only [ll]; omega)) only [hl, ht, List.length_cons, if_pos, go_sem, Nat.reduceAdd, Nat.reduceMul, Nat.reduceSub]
  refine Runs.call' (as' := [.v (.int .i64 48), .v (.int .i64 2), .sl (.ow 3) ((intI k :: x :: T).map itemO)]) (by simp [intI, mdL, md1_itemO, md_itemO, -List.map_map]) hmd ?_
  simp +decide (disch := first | omega | (simp only [ll]; omega)) only [hl, List.map_cons, if_pos, go_sem, Nat.reduceAdd, Nat.reduceMul, Nat.reduceSub]
  exact Runs.ret_refl
end Go.Proofs.W

namespace Go.Proofs.W
open Go Go.AM
variable (hm : Tryz.prog.follows .mixedOrders = true)
attribute [local go_sem] exS rowS_plain rowS_dn rowO_dn
theorem itemsNL_snoc (y : List Nd) (n : Nd) : (itemsNL y).map itemO ++ (itemsN n).map itemO = (itemsNL (y ++ [n])).map itemO := by
  rw [itemsNL_app, itemsNL_one, List.map_append]
theorem itemsNL_len (y : List Nd) (n : Nd) : (itemsNL (y ++ [n])).length = (itemsNL y).length + (itemsN n).length := by
  rw [itemsNL_app, itemsNL_one, List.length_append]
theorem xs_next (y : List Nd) (n : Nd) {x : It} {T : List It} (hT : itemsN n = x :: T) : (itemsNL y).map itemO ++ itemO x :: T.map itemO = (itemsNL (y ++ [n])).map itemO := by
  rw [← itemsNL_snoc, hT]; rfl
theorem xs_len (y : List Nd) (n : Nd) {x : It} {T : List It} (hT : itemsN n = x :: T) : (itemsNL (y ++ [n])).length = (itemsNL y).length + (T.length + 1) := by
  rw [itemsNL_len, hT]; rfl
theorem four_of {l : List Int} (h : l.length = 4) : ∃ a b c d, l = [a, b, c, d] := by
  match l, h with
  | [a, b, c, d], _ => exact ⟨a, b, c, d, rfl⟩
def kidI (ho : List ByteArray) (ne : List (List Int)) (i : Nat) : List A := (ho.map (txtI 130) ++ (ne.take i).map netI).map itemO
theorem kidI_length (ho : List ByteArray) (ne : List (List Int)) (i : Nat) (h : i ≤ ne.length) : (kidI ho ne i).length = ho.length + i := by simp [kidI]; omega
theorem kidI_zero (ho : List ByteArray) (ne : List (List Int)) : kidI ho ne 0 = (ho.map (txtI 130)).map itemO := by simp [kidI]
theorem kidI_succ (ho : List ByteArray) (ne : List (List Int)) (i : Nat) (h : i < ne.length) : kidI ho ne i ++ [itemO (netI ne[i])] = kidI ho ne (i + 1) := by
  simp only [kidI, List.take_succ_eq_append_getElem h, List.map_append, List.map_cons, List.map_nil, List.append_assoc]
theorem kidI_all (ho : List ByteArray) (ne : List (List Int)) : kidI ho ne ne.length = (itemsNL (ho.map (txtN 130) ++ ne.map netN)).map itemO := by
  rw [kidI, List.take_length, itemsNL_app, items_txts, items_nets]
def xsAnn : Ann := [(0, [1, 4, 5, 7, 8])]
def xsS18 : Sched := .take 0 (.take 1 (.take 2 (.take 5 (.take 6 (.take 9 (.take 10 (.take 13 (.take 14 (.ld 3 (.cv 4 (.ld 7 (.cv 8 (.ld 11 (.cv 12 (.ld 15 (.cv 16 (.alt 17 (.alt 18 (.alt 19 (.alt 20 (.take 21 .fin) .nil) .nil) .nil) .nil)))))))))))))))))
attribute [local go_sem] xsS18
def xsS25 : Sched := .take 0 (.take 1 (.take 4 (.ld 2 (.take 3 (.ld 5 (.alt 6 (.alt 7 (.alt 8 (.take 9 .fin) .nil) .nil) .nil))))))
def xsS28 : Sched := .take 0 (.take 1 (.take 4 (.ld 2 (.take 3 (.ld 5 (.alt 6 (.alt 7 (.alt 8 (.take 9 .fin) .nil) .nil) .nil))))))
def xsS33 : Sched := .take 0 (.take 1 (.take 4 (.ld 2 (.take 3 (.ld 5 (.alt 6 (.alt 7 (.alt 8 (.alt 9 (.take 10 .fin) .nil) .nil) .nil) .nil))))))
attribute [local go_sem] xsS25 xsS28 xsS33
def xsSt10 (ca : Bool) (path usage : Int) (ho : List ByteArray) (ne : List (List Int)) (al de : List ByteArray) (pu : List Int) (y z : List Nd) : St :=
  ⟨[.any, .ptr [exS ca path usage ho ne al de pu] 0 0, .any, .any, .ms (.l 0) 0 (itemsNL y).length (itemsNL y).length, .v (.int .i64 y.length), .any, .any, .any, .any, .ms (.l 1) 0 (itemsNL z).length (itemsNL z).length, .v (.int .i64 z.length), .any, .any, .any, .any, .any, .any, .any, .any, .any, .any, .any, .any, .any, .any, .any, .any, .any, .any, .any, .any, .any, .any, .any, .any, .any, .any, .any, .any, .any, .any, .any, .any, .any, .any, .any, .any, .any, .any, .any, .any, .any, .any, .any, .any, .any, .any, .any, .any, .any, .any, .any, .any, .any, .any, .any, .any, .any, .any, .any, .any, .any, .any, .any, .any, .any, .any, .any, .any, .any, .any, .any, .any, .any, .any, .any, .any, .any, .any, .any, .any, .any, .any, .any, .any, .any, .any, .any, .any, .any, .any, .any, .any, .any, .any, .any, .any, .any, .any, .any, .any, .any, .any, .any, .any, .any, .any, .any, .any, .any, .any, .any, .any, .any, .any, .any, .any, .any, .any, .any, .any, .any, .any, .any, .any, .any, .any, .any, .any, .any, .any, .any, .any, .any, .any, .any, .any, .any, .any, .any, .any, .any, .any, .any, .any, .any, .any, .any, .any, .any, .any, .any, .any, .any, .any], [(0, ⟨true, 3, false, (itemsNL y).map itemO⟩), (1, ⟨true, 3, false, (itemsNL z).map itemO⟩)], []⟩
def xsStL (ca : Bool) (path usage : Int) (ho : List ByteArray) (ne : List (List Int)) (al de : List ByteArray) (pu : List Int) (y : List Nd) (i : Nat) : St :=
  ⟨[.any, .ptr [exS ca path usage ho ne al de pu] 0 0, .any, .any, .ms (.l 0) 0 (itemsNL y).length (itemsNL y).length, .v (.int .i64 y.length), .any, .ms (.l 1) 0 (ho.length + i) (ho.length + i), .v (.int .i64 i), .any, .any, .any, .any, .any, .any, .any, .any, .any, .any, .any, .any, .any, .any, .any, .any, .any, .any, .any, .any, .any, .any, .any, .any, .any, .any, .any, .any, .any, .any, .any, .any, .any, .any, .any, .any, .any, .any, .any, .any, .any, .any, .any, .any, .any, .any, .any, .any, .any, .any, .any, .any, .any, .any, .any, .any, .any, .any, .any, .any, .any, .any, .any, .any, .any, .any, .any, .any, .any, .any, .any, .any, .any, .any, .any, .any, .any, .any, .any, .any, .any, .any, .any, .any, .any, .any, .any, .any, .any, .any, .any, .any, .any, .any, .any, .any, .any, .any, .any, .any, .any, .any, .any, .any, .any, .any, .any, .any, .any, .any, .any, .any, .any, .any, .any, .any, .any, .any, .any, .any, .any, .any, .any, .any, .any, .any, .any, .any, .any, .any, .any, .any, .any, .any, .any, .any, .any, .any, .any, .any, .any, .any, .any, .any, .any, .any, .any, .any, .any, .any, .any, .any, .any, .any, .any, .any, .any], [(0, ⟨true, 3, false, (itemsNL y).map itemO⟩), (1, ⟨true, 3, false, kidI ho ne i⟩)], []⟩
def xsK : List Nat := [1, 4, 5]
def xsSt (ca : Bool) (path usage : Int) (ho : List ByteArray) (ne : List (List Int)) (al de : List ByteArray) (pu : List Int) (y : List Nd) : St :=
  ⟨[.any, .ptr [exS ca path usage ho ne al de pu] 0 0, .any, .any, .ms (.l 0) 0 (itemsNL y).length (itemsNL y).length, .v (.int .i64 y.length), .any, .any, .any, .any, .any, .any, .any, .any, .any, .any, .any, .any, .any, .any, .any, .any, .any, .any, .any, .any, .any, .any, .any, .any, .any, .any, .any, .any, .any, .any, .any, .any, .any, .any, .any, .any, .any, .any, .any, .any, .any, .any, .any, .any, .any, .any, .any, .any, .any, .any, .any, .any, .any, .any, .any, .any, .any, .any, .any, .any, .any, .any, .any, .any, .any, .any, .any, .any, .any, .any, .any, .any, .any, .any, .any, .any, .any, .any, .any, .any, .any, .any, .any, .any, .any, .any, .any, .any, .any, .any, .any, .any, .any, .any, .any, .any, .any, .any, .any, .any, .any, .any, .any, .any, .any, .any, .any, .any, .any, .any, .any, .any, .any, .any, .any, .any, .any, .any, .any, .any, .any, .any, .any, .any, .any, .any, .any, .any, .any, .any, .any, .any, .any, .any, .any, .any, .any, .any, .any, .any, .any, .any, .any, .any, .any, .any, .any, .any, .any, .any, .any, .any, .any, .any, .any, .any, .any, .any, .any, .any], [(0, ⟨true, 3, false, (itemsNL y).map itemO⟩)], []⟩
def xsSt7 (ca : Bool) (path usage : Int) (ho : List ByteArray) (ne : List (List Int)) (al de : List ByteArray) (pu : List Int) (y z : List Nd) : St :=
  ⟨[.any, .ptr [exS ca path usage ho ne al de pu] 0 0, .any, .any, .ms (.l 0) 0 (itemsNL y).length (itemsNL y).length, .v (.int .i64 y.length), .ms (.l 1) 0 (itemsNL z).length (itemsNL z).length, .any, .any, .any, .any, .any, .any, .any, .any, .any, .any, .any, .any, .any, .any, .any, .any, .any, .any, .any, .any, .any, .any, .any, .any, .any, .any, .any, .any, .any, .any, .any, .any, .any, .any, .any, .any, .any, .any, .any, .any, .any, .any, .any, .any, .any, .any, .any, .any, .any, .any, .any, .any, .any, .any, .any, .any, .any, .any, .any, .any, .any, .any, .any, .any, .any, .any, .any, .any, .any, .any, .any, .any, .any, .any, .any, .any, .any, .any, .any, .any, .any, .any, .any, .any, .any, .any, .any, .any, .any, .any, .any, .any, .any, .any, .any, .any, .any, .any, .any, .any, .any, .any, .any, .any, .any, .any, .any, .any, .any, .any, .any, .any, .any, .any, .any, .any, .any, .any, .any, .any, .any, .any, .any, .any, .any, .any, .any, .any, .any, .any, .any, .any, .any, .any, .any, .any, .any, .any, .any, .any, .any, .any, .any, .any, .any, .any, .any, .any, .any, .any, .any, .any, .any, .any, .any, .any, .any, .any, .any], [(0, ⟨true, 3, false, (itemsNL y).map itemO⟩), (1, ⟨true, 3, false, (itemsNL z).map itemO⟩)], []⟩
set_option maxHeartbeats 8000000 in
set_option maxRecDepth 10000 in
include hm in
theorem l10Exts2 (ca : Bool) (path usage : Int) (ho : List ByteArray) (ne : List (List Int)) (al de : List ByteArray) (pu : List Int) (hp : -1 ≤ path ∧ path ≤ 10) (hu : 0 ≤ usage ∧ usage ≤ 7)
    (l1 : ho.length ≤ 6) (l2 : ne.length ≤ 6) (l3 : al.length ≤ 6) (l4 : de.length ≤ 6) (l5 : pu.length ≤ 6) (s1 : ∀ s ∈ ho, s.size ≤ 1048576) (s2 : ∀ a ∈ ne, a.length = 4) (s3 : ∀ s ∈ al, s.size ≤ 1048576) (s4 : ∀ s ∈ de, s.size ≤ 1048576) (s5 : ∀ n ∈ pu, 1 ≤ n ∧ n ≤ 1000) :
    Holds Tryz.prog 51 [exS ca path usage ho ne al de pu] [] (.tup [.sl (.ow 3) ((itemsNL (exNs ca path usage ho ne al de pu)).map itemO), .v (.int .i64 (exNs ca path usage ho ne al de pu).length)]) [] := by
  obtain ⟨R, hR⟩ : ∃ R, R = A.tup [.sl (.ow 3) ((itemsNL (exNs ca path usage ho ne al de pu)).map itemO), .v (.int .i64 (exNs ca path usage ho ne al de pu).length)] := ⟨_, rfl⟩
  rw [← hR]
  refine holds_ref (ann := xsAnn) tabOk hm (byJ [(7, [1, 4, 5, 6]), (9, xsK), (12, xsK), (21, xsK), (32, xsK), (35, xsK), (27, [1, 4, 5, 10, 11]), (30, [1, 4, 5, 10, 11])] (byL [] [104, 19, 21, 1000001])) Tryz.func51 (by kernel_rfl) rfl ?_
  simp +decide (maxSteps := 9^7) only [Tryz.f51, go_sem, Nat.reduceAdd, Nat.reduceMul, Nat.reduceSub]
  refine Runs.meet (α := Unit) (keep := xsK) (kj := ?kj9) (fun _ => xsSt ca path usage ho ne al de pu (ex1 ca path)) ?tail9 ?h1 ?h2
  case h1 =>
    intro J e
    have c1 : Holds Tryz.prog 21 [.v (.int .i64 1), .sl (.ow 1) [.v (.int .u8 255)]] [] (.sl (.ow 3) [itemO ⟨1, [255], 0⟩]) [] := l10Item hm 1 [255]
    simp +decide (maxSteps := 9^7) only [e, go_sem, Nat.reduceAdd, Nat.reduceMul, Nat.reduceSub]
    refine Runs.call c1 ?_
    simp +decide (maxSteps := 9^7) (disch := first | omega | (simp only [ll]; omega)) only [e, itemO, if_pos, go_sem, Nat.reduceAdd, Nat.reduceMul, Nat.reduceSub]
    refine Runs.meet (α := Unit) (keep := [1, 4, 5, 6]) (kj := ?kj7) (fun _ => xsSt7 ca path usage ho ne al de pu [] (exCa path)) ?tail7 ?g1 ?g2
    case g1 =>
      intro J2 e2
      have c2 := l10Int hm path (by omega) (by omega)
      simp +decide (maxSteps := 9^7) only [e, go_sem, Nat.reduceAdd, Nat.reduceMul, Nat.reduceSub]
      refine Runs.call c2 ?_
      simp +decide (maxSteps := 9^7) (disch := first | omega | (simp only [ll]; omega)) only [e, if_pos, go_sem, Nat.reduceAdd, Nat.reduceMul, Nat.reduceSub]
      refine J2 () _ ?_
      have hne : path ≠ -1 := by simp at e2; omega
      simp [go_sem, xsSt7, e, exCa, hne, itemsNL, itemsN_mk, intN, itemO]
    case g2 =>
      intro J2 e2
      simp +decide (maxSteps := 9^7) only [e, go_sem, Nat.reduceAdd, Nat.reduceMul, Nat.reduceSub]
      refine J2 () _ ?_
      have hne : path = -1 := by simp at e2; omega
      simp [go_sem, xsSt7, e, exCa, hne, itemsNL, itemsN_mk, itemO]
    case tail7 =>
      intro _
      have hz : itemsNL (exCa path) = ⟨1, [255], 0⟩ :: itemsNL (if path = -1 then [] else [intN path]) := by simp [exCa, itemsNL, itemsN_mk]
      have hzl : (itemsNL (exCa path)).length = (exCa path).length := by
        unfold exCa
        split <;> simp [itemsNL, itemsN_mk, intN]
      have hz2 : (itemsNL (exCa path)).length ≤ 2 := by
        rw [hzl]; unfold exCa; split <;> simp
      have c3 := l10Made hm 48 (itemsNL (exCa path)).length (itemsNL (exCa path)) (by omega)
      have c4 := l10One hm 1 (.mk 48 [] (exCa path)) (by omega) (by omega) (by rw [itemsN_mk]; simp; omega)
      rw [itemsN_mk] at c4
      have e1 : ex1 ca path = [oneN 1 (.mk 48 [] (exCa path))] := by rw [ex1, if_pos e]
      have e2 : itemsNL (ex1 ca path) = itemsN (oneN 1 (.mk 48 [] (exCa path))) := by rw [e1, itemsNL_one]
      simp +decide (maxSteps := 9^7) only [xsSt7, go_sem, Nat.reduceAdd, Nat.reduceMul, Nat.reduceSub]
      refine Runs.call c3 ?_
      obtain ⟨x, T, hT⟩ := itemsN_cons (oneN 1 (.mk 48 [] (exCa path)))
      rw [hT] at c4 e2
      have hn := xs_next [] _ hT
      have hnl := xs_len [] _ hT
      have hTl : (T.map itemO).length = T.length := List.length_map _
      have hTt : List.take (T.length + 1) (itemO x :: T.map itemO) = itemO x :: T.map itemO := List.take_of_length_le (by simp)
      have hb := ex1_le ca path
      rw [e2, List.length_cons] at hb
      rw [List.nil_append, ← e1] at hn hnl
      simp only [List.map_cons] at c4
      simp +decide (maxSteps := 9^7) (disch := first | omega | (simp only [ll]; omega)) only [hzl, if_pos, go_sem, Nat.reduceAdd, Nat.reduceMul, Nat.reduceSub]
      refine Runs.call c4 ?_
      simp +decide (maxSteps := 9^7) (disch := first | omega | (simp only [ll]; omega)) only [hzl, hTl, hTt, List.length_cons, itemsNL_nil, List.length_nil, if_pos, go_sem, Nat.reduceAdd, Nat.reduceMul, Nat.reduceSub]
      refine J () _ ?_
      have e4 : (ex1 ca path).length = 1 := by rw [e1]; rfl
      simp [go_sem, xsK, xsSt, e2, e4, itemsNL]
  case h2 =>
    intro J e
    simp +decide (maxSteps := 9^7) only [e, go_sem, Nat.reduceAdd, Nat.reduceMul, Nat.reduceSub]
    refine J () _ ?_
    simp [go_sem, xsK, xsSt, ex1, e, itemsNL]
  case tail9 =>
    intro _
    simp +decide (maxSteps := 9^7) only [xsSt, go_sem, Nat.reduceAdd, Nat.reduceMul, Nat.reduceSub]
    refine Runs.meet (α := Unit) (keep := xsK) (kj := ?kj12) (fun _ => xsSt ca path usage ho ne al de pu (ex1 ca path ++ ex2 usage)) ?tail12 ?h1 ?h2
    case h1 =>
      intro J e
      have hne : usage ≠ 0 := by simp at e; omega
      have e1 : ex2 usage = [oneN 2 (.mk 3 [5, ib (32 * usage)] [])] := by rw [ex2, if_neg hne]
      have c3 : Holds Tryz.prog 21 [.v (.int .i64 3), .sl (.ow 1) [.v (.int .u8 5), .v (.int .u8 (ib (32 * usage)))]] [] (.sl (.ow 3) [itemO ⟨3, [5, ib (32 * usage)], 0⟩]) [] := l10Item hm 3 [5, ib (32 * usage)]
      have c4 := l10One hm 2 (.mk 3 [5, ib (32 * usage)] []) (by omega) (by omega) (by simp [itemsN_mk, itemsNL])
      have e3 : itemsN (.mk 3 [5, ib (32 * usage)] []) = [⟨3, [5, ib (32 * usage)], 0⟩] := by simp [itemsN_mk, itemsNL]
      rw [e3] at c4
      obtain ⟨x, T, hT⟩ := itemsN_cons (oneN 2 (.mk 3 [5, ib (32 * usage)] []))
      rw [hT] at c4
      have hn := xs_next (ex1 ca path) _ hT
      have hnl := xs_len (ex1 ca path) _ hT
      rw [← e1] at hn hnl
      have hy := ex1_le ca path
      have hb : T.length ≤ 100 := by have := one_len 2 (.mk 3 [5, ib (32 * usage)] []); rw [hT, e3] at this; simp at this; omega
      have e5 : (ex1 ca path ++ ex2 usage).length = (ex1 ca path).length + 1 := by rw [e1]; simp
      have hyl : (ex1 ca path).length ≤ 1 := by unfold ex1; split <;> simp
      have hib : ib (32 * usage) = 32 * usage := wrap_u8 (by omega) (by omega)
      rw [hib] at c3 c4
      generalize ex1 ca path ++ ex2 usage = y2 at *
      generalize ex1 ca path = y at *
      have hTl : (T.map itemO).length = T.length := List.length_map _
      have hTt : List.take (T.length + 1) (itemO x :: T.map itemO) = itemO x :: T.map itemO := List.take_of_length_le (by simp)
      simp only [List.map_cons, List.map_nil] at c4
      simp +decide (maxSteps := 9^7) (disch := first | omega | (simp only [ll]; omega)) only [if_pos, go_sem, Nat.reduceAdd, Nat.reduceMul, Nat.reduceSub]
      refine Runs.call c3 ?_
      simp +decide (maxSteps := 9^7) (disch := first | omega | (simp only [ll]; omega)) only [itemO, if_pos, go_sem, Nat.reduceAdd, Nat.reduceMul, Nat.reduceSub]
      refine Runs.call c4 ?_
      simp +decide (maxSteps := 9^7) (disch := first | omega | (simp only [ll]; omega)) only [hTl, hTt, List.length_cons, List.length_append, if_pos, go_sem, Nat.reduceAdd, Nat.reduceMul, Nat.reduceSub]
      refine J () _ ?_
      simp [go_sem, xsK, xsSt, hn, hnl, e5]
    case h2 =>
      intro J e
      have hne : usage = 0 := by simp at e; omega
      have e1 : ex2 usage = [] := by rw [ex2, if_pos hne]
      simp +decide (maxSteps := 9^7) only [go_sem, Nat.reduceAdd, Nat.reduceMul, Nat.reduceSub]
      refine J () _ ?_
      simp [go_sem, xsK, xsSt, e1]
    case tail12 =>
      intro _
      have hy0 : (itemsNL (ex1 ca path ++ ex2 usage)).length ≤ 8 := by have := ex1_le ca path; have := ex2_le usage; rw [itemsNL_app, List.length_append]; omega
      have hyl0 : (ex1 ca path ++ ex2 usage).length ≤ 2 := by unfold ex1 ex2; split <;> split <;> simp
      have hexp : exNs ca path usage ho ne al de pu = (ex1 ca path ++ ex2 usage) ++ ex3 ho ne ++ ex4 al de ++ ex5 pu := rfl
      rw [hexp] at hR
      clear hexp
      generalize ex1 ca path ++ ex2 usage = y at *
      simp +decide (maxSteps := 9^7) (disch := first | omega | (simp only [ll]; omega)) only [xsSt, List.length_map, if_pos, go_sem, Nat.reduceAdd, Nat.reduceMul, Nat.reduceSub]
      refine Runs.meet (α := Unit) (keep := xsK) (kj := ?kj21) (fun _ => xsSt ca path usage ho ne al de pu (y ++ ex3 ho ne)) ?tail21 ?h1 ?h2
      case h1 =>
        intro J e
        have hne : 0 < ho.length + ne.length := by simp at e; omega
        have e1 : ex3 ho ne = [oneN 3 (.mk 48 [] (ho.map (txtN 130) ++ ne.map netN))] := by rw [ex3, if_pos hne]
        have c2 := l10Texts hm 130 ho (by omega) (fun s hs => by have := s1 s hs; omega)
        have hk0 := kidI_length ho ne 0 (by omega)
        rw [← kidI_zero ho ne] at c2
        have htk : List.take (ho.length + 0) (kidI ho ne 0) = kidI ho ne 0 := List.take_of_length_le (by omega)
        simp +decide (maxSteps := 9^7) (disch := first | omega | (simp only [ll]; omega)) only [if_pos, go_sem, Nat.reduceAdd, Nat.reduceMul, Nat.reduceSub]
        refine Runs.call c2 ?_
        simp +decide (maxSteps := 9^7) (disch := first | omega | (simp only [ll]; omega)) only [hk0, if_pos, go_sem, Nat.reduceAdd, Nat.reduceMul, Nat.reduceSub]
        refine Runs.while (α := Nat) (xsStL ca path usage ho ne al de pu y) (fun i => ne.length - i) (fun i => i ≤ ne.length) 0 (by omega) ?_ ?_
        · simp [go_sem, xsAnn, xsStL]
        · intro i hi ih
          have hki := kidI_length ho ne i hi
          simp +decide (maxSteps := 9^7) only [xsStL, List.length_map, go_sem, Nat.reduceAdd, Nat.reduceMul, Nat.reduceSub]
          refine Runs.split (fun h => ?_) (fun h => ?_)
          · have hlt : i < ne.length := by simpa using h
            obtain ⟨a0, a1, a2, a3, h4⟩ := four_of (s2 ne[i] (List.getElem_mem hlt))
            have hg : (ne.map rowS).getD i .any = .sl .sh [.v (.int .i64 a0), .v (.int .i64 a1), .v (.int .i64 a2), .v (.int .i64 a3)] := by simp [List.getD, hlt, rowS, h4, intA]
            have hs := kidI_succ ho ne i hlt
            rw [h4] at hs
            simp only [itemO, netI, netBy, ib, List.getD_cons_zero, List.getD_cons_succ, List.map_cons, List.map_nil, u8A] at hs
            have t0 : Int.toNat 0 = 0 := rfl
            have t1 : Int.toNat 1 = 1 := rfl
            have t2 : Int.toNat 2 = 2 := rfl
            have t3 : Int.toNat 3 = 3 := rfl
            have d1 : decide (0 ≤ (i : Int) ∧ (i : Int) < ne.length) = true := by simp; omega
            have d2 : decide (ho.length + i + 1 ≤ 1073741824) = true := by simp; omega
            have w1 : IntKind.i64.wrap ((i : Int) + 1) = i + 1 := wrap_i64 (by omega) (by omega)
            simp +decide (maxSteps := 9^7) only [hg, List.length_map, Int.toNat_natCast, d1, go_sem, Nat.reduceAdd, Nat.reduceMul, Nat.reduceSub]
            refine Runs.draw (st1 := ?s1) (draws_ref (ann := xsAnn) tabOk (byJ [(7, [1, 4, 5, 6]), (9, xsK), (12, xsK), (21, xsK), (32, xsK), (35, xsK), (27, [1, 4, 5, 10, 11]), (30, [1, 4, 5, 10, 11])] (byL [] [104, 19, 21, 1000001])) xsS18 (by kernel_rfl) ?p1) ?q1
            case p1 =>
              intro K r X hK
              simp +decide (maxSteps := 9^7) only [t0, t1, t2, t3, hki, hs, d2, go_sem, Nat.reduceAdd, Nat.reduceMul, Nat.reduceSub]
              exact hK
            case q1 =>
              simp +decide (maxSteps := 9^7) only [t0, t1, t2, t3, hki, hs, d2, w1, go_sem, Nat.reduceAdd, Nat.reduceMul, Nat.reduceSub]
              refine ih (i + 1) _ (by omega) (by omega) ?_
              simp [go_sem, xsAnn, xsStL, Nat.add_assoc]
          · have hge : i = ne.length := by simp at h; omega
            subst hge
            have hka : List.take (ho.length + ne.length) (kidI ho ne ne.length) = (itemsNL (ho.map (txtN 130) ++ ne.map netN)).map itemO := by rw [← kidI_all]; exact List.take_of_length_le (by omega)
            have hil : (itemsNL (ho.map (txtN 130) ++ ne.map netN)).length = ho.length + ne.length := by rw [itemsNL_app, items_txts, items_nets]; simp
            have c3 := l10Made hm 48 (ho.length + ne.length : Nat) (itemsNL (ho.map (txtN 130) ++ ne.map netN)) (by omega)
            have c4 := l10One hm 3 (.mk 48 [] (ho.map (txtN 130) ++ ne.map netN)) (by omega) (by omega) (by rw [itemsN_mk]; simp; omega)
            have e3 : itemsN (.mk 48 [] (ho.map (txtN 130) ++ ne.map netN)) = ⟨48, [], (ho.length + ne.length : Nat)⟩ :: itemsNL (ho.map (txtN 130) ++ ne.map netN) := by rw [itemsN_mk]; simp
            rw [e3] at c4
            obtain ⟨x, T, hT⟩ := itemsN_cons (oneN 3 (.mk 48 [] (ho.map (txtN 130) ++ ne.map netN)))
            rw [hT] at c4
            have hn := xs_next y _ hT
            have hnl := xs_len y _ hT
            have hb : T.length ≤ 100 := by have := one_len 3 (.mk 48 [] (ho.map (txtN 130) ++ ne.map netN)); rw [hT, e3] at this; simp only [List.length_cons] at this; omega
            rw [← e1] at hn hnl
            have e5 : (y ++ ex3 ho ne).length = y.length + 1 := by rw [e1]; simp
            generalize itemsNL (ho.map (txtN 130) ++ ne.map netN) = Q at *
            have hTl : (T.map itemO).length = T.length := List.length_map _
            have hTt : List.take (T.length + 1) (itemO x :: T.map itemO) = itemO x :: T.map itemO := List.take_of_length_le (by simp)
            have hQl : (Q.map itemO).length = ho.length + ne.length := by rw [List.length_map, hil]
            simp only [List.map_cons] at c4
            simp +decide (maxSteps := 9^7) (disch := first | omega | (simp only [ll]; omega)) only [hka, hki, if_pos, go_sem, Nat.reduceAdd, Nat.reduceMul, Nat.reduceSub]
            refine Runs.call c3 ?_
            simp +decide (maxSteps := 9^7) (disch := first | omega | (simp only [ll]; omega)) only [hQl, hil, if_pos, go_sem, Nat.reduceAdd, Nat.reduceMul, Nat.reduceSub]
            refine Runs.call c4 ?_
            simp +decide (maxSteps := 9^7) (disch := first | omega | (simp only [ll]; omega)) only [hTl, hTt, List.length_cons, List.length_append, List.length_map, if_pos, go_sem, Nat.reduceAdd, Nat.reduceMul, Nat.reduceSub]
            refine J () _ ?_
            simp [go_sem, xsK, xsSt, hn, hnl, e5]
      case h2 =>
        intro J e
        have hne : ¬ 0 < ho.length + ne.length := by simp at e; omega
        have e1 : ex3 ho ne = [] := by rw [ex3, if_neg hne]
        simp +decide (maxSteps := 9^7) only [go_sem, Nat.reduceAdd, Nat.reduceMul, Nat.reduceSub]
        refine J () _ ?_
        simp [go_sem, xsK, xsSt, e1]
      case tail21 =>
        intro _
        have hy3 : (itemsNL (y ++ ex3 ho ne)).length ≤ 30 := by have := ex3_le (ho := ho) (ne := ne) l1 l2; rw [itemsNL_app, List.length_append]; omega
        have hyl3 : (y ++ ex3 ho ne).length ≤ 3 := by unfold ex3; split <;> simp <;> omega
        clear hy0 hyl0
        generalize y ++ ex3 ho ne = y at *
        simp +decide (maxSteps := 9^7) (disch := first | omega | (simp only [ll]; omega)) only [xsSt, List.length_map, if_pos, go_sem, Nat.reduceAdd, Nat.reduceMul, Nat.reduceSub]
        refine Runs.meet (α := Unit) (keep := xsK) (kj := ?kj32) (fun _ => xsSt ca path usage ho ne al de pu (y ++ ex4 al de)) ?tail32 ?h1 ?h2
        case h1 =>
          intro J e
          have hne : 0 < al.length + de.length := by simp at e; omega
          have e1 : ex4 al de = [oneN 4 (.mk 48 [] (exAl 160 al ++ exAl 161 de))] := by rw [ex4, if_pos hne]
          simp +decide (maxSteps := 9^7) only [List.length_map, go_sem, Nat.reduceAdd, Nat.reduceMul, Nat.reduceSub]
          refine Runs.meet (α := Unit) (keep := [1, 4, 5, 10, 11]) (kj := ?kj27) (fun _ => xsSt10 ca path usage ho ne al de pu y (exAl 160 al)) ?tail27 ?a27 ?b27
          case a27 =>
            intro J2 e2
            have hne2 : 0 < al.length := by simpa using e2
            have c2 := l10Texts hm 130 al (by omega) (fun s hs => by have := s3 s hs; omega)
            have c3 := l10Made hm 160 al.length (al.map (txtI 130)) (by simp; omega)
            have hz := exAl_items 160 al hne2
            have hze : (exAl 160 al).length = 1 := by rw [exAl, if_pos hne2]; rfl
            have hTl : ((al.map (txtI 130)).map itemO).length = al.length := by simp
            have hTt : List.take al.length ((al.map (txtI 130)).map itemO) = (al.map (txtI 130)).map itemO := List.take_of_length_le (by simp)
            simp +decide (maxSteps := 9^7) only [List.length_map, go_sem, Nat.reduceAdd, Nat.reduceMul, Nat.reduceSub]
            refine Runs.draw (st1 := ?s25) (draws_ref (ann := xsAnn) tabOk (byJ [(7, [1, 4, 5, 6]), (9, xsK), (12, xsK), (21, xsK), (32, xsK), (35, xsK), (27, [1, 4, 5, 10, 11]), (30, [1, 4, 5, 10, 11])] (byL [] [104, 19, 21, 1000001])) xsS25 (by kernel_rfl) ?p25) ?q25
            case p25 =>
              intro K r X hK
              simp +decide (maxSteps := 9^7) (disch := first | omega | (simp only [ll]; omega)) only [List.length_map, if_pos, go_sem, Nat.reduceAdd, Nat.reduceMul, Nat.reduceSub]
              repeat' apply And.intro
              all_goals
                refine Runs.call c2 ?_
                simp +decide (maxSteps := 9^7) (disch := first | omega | (simp only [ll]; omega)) only [hTl, hTt, if_pos, go_sem, Nat.reduceAdd, Nat.reduceMul, Nat.reduceSub]
                refine Runs.call c3 ?_
                simp +decide (maxSteps := 9^7) (disch := first | omega | (simp only [ll]; omega)) only [hTl, hTt, List.length_cons, List.length_append, List.length_map, if_pos, go_sem, Nat.reduceAdd, Nat.reduceMul, Nat.reduceSub]
                exact hK
            case q25 =>
              simp +decide (maxSteps := 9^7) (disch := first | omega | (simp only [ll]; omega)) only [hTl, hTt, List.length_cons, List.length_append, List.length_map, if_pos, go_sem, Nat.reduceAdd, Nat.reduceMul, Nat.reduceSub]
              refine J2 () _ ?_
              simp [go_sem, xsSt10, hz, hze, itemsNL_nil]
          case b27 =>
            intro J2 e2
            have hne2 : ¬ 0 < al.length := by simpa using e2
            have hz := exAl_none 160 al hne2
            simp +decide (maxSteps := 9^7) only [go_sem, Nat.reduceAdd, Nat.reduceMul, Nat.reduceSub]
            refine J2 () _ ?_
            simp [go_sem, xsSt10, hz, itemsNL_nil]
          case tail27 =>
            intro _
            simp +decide (maxSteps := 9^7) (disch := first | omega | (simp only [ll]; omega)) only [xsSt10, List.length_map, if_pos, go_sem, Nat.reduceAdd, Nat.reduceMul, Nat.reduceSub]
            refine Runs.meet (α := Unit) (keep := [1, 4, 5, 10, 11]) (kj := ?kj30) (fun _ => xsSt10 ca path usage ho ne al de pu y (exAl 160 al ++ exAl 161 de)) ?tail30 ?a30 ?b30
            case a30 =>
              intro J2 e2
              have hne2 : 0 < de.length := by simpa using e2
              have c2 := l10Texts hm 130 de (by omega) (fun s hs => by have := s4 s hs; omega)
              have c3 := l10Made hm 161 de.length (de.map (txtI 130)) (by simp; omega)
              have hz := exAl_items 161 de hne2
              have hze : (exAl 161 de).length = 1 := by rw [exAl, if_pos hne2]; rfl
              have hTl : ((de.map (txtI 130)).map itemO).length = de.length := by simp
              have hTt : List.take de.length ((de.map (txtI 130)).map itemO) = (de.map (txtI 130)).map itemO := List.take_of_length_le (by simp)
              have hv := exAl_le 160 l3
              have hq1 : (itemsNL (exAl 160 al ++ exAl 161 de)).map itemO = (itemsNL (exAl 160 al)).map itemO ++ itemO ⟨161, [], de.length⟩ :: (de.map (txtI 130)).map itemO := by rw [itemsNL_app, hz, List.map_append, List.map_cons]
              have hq2 : (itemsNL (exAl 160 al ++ exAl 161 de)).length = (itemsNL (exAl 160 al)).length + (de.length + 1) := by rw [itemsNL_app, hz, List.length_append, List.length_cons, List.length_map]
              have hq3 : (exAl 160 al ++ exAl 161 de).length = (exAl 160 al).length + 1 := by rw [List.length_append, hze]
              simp +decide (maxSteps := 9^7) only [List.length_map, go_sem, Nat.reduceAdd, Nat.reduceMul, Nat.reduceSub]
              refine Runs.draw (st1 := ?s28) (draws_ref (ann := xsAnn) tabOk (byJ [(7, [1, 4, 5, 6]), (9, xsK), (12, xsK), (21, xsK), (32, xsK), (35, xsK), (27, [1, 4, 5, 10, 11]), (30, [1, 4, 5, 10, 11])] (byL [] [104, 19, 21, 1000001])) xsS28 (by kernel_rfl) ?p28) ?q28
              case p28 =>
                intro K r X hK
                simp +decide (maxSteps := 9^7) (disch := first | omega | (simp only [ll]; omega)) only [List.length_map, if_pos, go_sem, Nat.reduceAdd, Nat.reduceMul, Nat.reduceSub]
                repeat' apply And.intro
                all_goals
                  refine Runs.call c2 ?_
                  simp +decide (maxSteps := 9^7) (disch := first | omega | (simp only [ll]; omega)) only [hTl, hTt, if_pos, go_sem, Nat.reduceAdd, Nat.reduceMul, Nat.reduceSub]
                  refine Runs.call c3 ?_
                  simp +decide (maxSteps := 9^7) (disch := first | omega | (simp only [ll]; omega)) only [hTl, hTt, List.length_cons, List.length_append, List.length_map, if_pos, go_sem, Nat.reduceAdd, Nat.reduceMul, Nat.reduceSub]
                  exact hK
              case q28 =>
                simp +decide (maxSteps := 9^7) (disch := first | omega | (simp only [ll]; omega)) only [hTl, hTt, List.length_cons, List.length_append, List.length_map, if_pos, go_sem, Nat.reduceAdd, Nat.reduceMul, Nat.reduceSub]
                refine J2 () _ ?_
                simp [go_sem, xsSt10, hq1, hq2, hq3]
            case b30 =>
              intro J2 e2
              have hne2 : ¬ 0 < de.length := by simpa using e2
              have hz := exAl_none 161 de hne2
              simp +decide (maxSteps := 9^7) only [go_sem, Nat.reduceAdd, Nat.reduceMul, Nat.reduceSub]
              refine J2 () _ ?_
              simp [go_sem, xsSt10, hz, itemsNL_nil]
            case tail30 =>
              intro _
              have hv1 := exAl_le 160 l3
              have hv2 := exAl_le 161 l4
              have hv : (itemsNL (exAl 160 al ++ exAl 161 de)).length ≤ 14 ∧ (exAl 160 al ++ exAl 161 de).length ≤ 2 := by rw [itemsNL_app, List.length_append, List.length_append]; omega
              have c3 := l10Made hm 48 (exAl 160 al ++ exAl 161 de).length (itemsNL (exAl 160 al ++ exAl 161 de)) (by omega)
              have c4 := l10One hm 4 (.mk 48 [] (exAl 160 al ++ exAl 161 de)) (by omega) (by omega) (by rw [itemsN_mk]; simp only [List.length_cons]; omega)
              have e3 : itemsN (.mk 48 [] (exAl 160 al ++ exAl 161 de)) = ⟨48, [], (exAl 160 al ++ exAl 161 de).length⟩ :: itemsNL (exAl 160 al ++ exAl 161 de) := itemsN_mk _ _ _
              rw [e3] at c4
              obtain ⟨x, T, hT⟩ := itemsN_cons (oneN 4 (.mk 48 [] (exAl 160 al ++ exAl 161 de)))
              rw [hT] at c4
              have hn := xs_next y _ hT
              have hnl := xs_len y _ hT
              have hb : T.length ≤ 100 := by have := one_len 4 (.mk 48 [] (exAl 160 al ++ exAl 161 de)); rw [hT, e3] at this; simp only [List.length_cons] at this; omega
              rw [← e1] at hn hnl
              have e5 : (y ++ ex4 al de).length = y.length + 1 := by rw [e1]; simp
              have hTl : (T.map itemO).length = T.length := List.length_map _
              have hTt : List.take (T.length + 1) (itemO x :: T.map itemO) = itemO x :: T.map itemO := List.take_of_length_le (by simp)
              have hQl : ((itemsNL (exAl 160 al ++ exAl 161 de)).map itemO).length = (itemsNL (exAl 160 al ++ exAl 161 de)).length := List.length_map _
              have hQt : List.take (itemsNL (exAl 160 al ++ exAl 161 de)).length ((itemsNL (exAl 160 al ++ exAl 161 de)).map itemO) = (itemsNL (exAl 160 al ++ exAl 161 de)).map itemO := take_map_len
              simp only [List.map_cons] at c4
              clear hv1 hv2
              generalize exAl 160 al ++ exAl 161 de = z at *
              simp +decide (maxSteps := 9^7) (disch := first | omega | (simp only [ll]; omega)) only [xsSt10, hQl, hQt, if_pos, go_sem, Nat.reduceAdd, Nat.reduceMul, Nat.reduceSub]
              refine Runs.call c3 ?_
              simp +decide (maxSteps := 9^7) (disch := first | omega | (simp only [ll]; omega)) only [hQl, hQt, if_pos, go_sem, Nat.reduceAdd, Nat.reduceMul, Nat.reduceSub]
              refine Runs.call c4 ?_
              simp +decide (maxSteps := 9^7) (disch := first | omega | (simp only [ll]; omega)) only [hTl, hTt, List.length_cons, List.length_append, List.length_map, if_pos, go_sem, Nat.reduceAdd, Nat.reduceMul, Nat.reduceSub]
              refine J () _ ?_
              simp [go_sem, xsK, xsSt, hn, hnl, e5]
        case h2 =>
          intro J e
          have hne : ¬ 0 < al.length + de.length := by simp at e; omega
          have e1 : ex4 al de = [] := by rw [ex4, if_neg hne]
          simp +decide (maxSteps := 9^7) only [go_sem, Nat.reduceAdd, Nat.reduceMul, Nat.reduceSub]
          refine J () _ ?_
          simp [go_sem, xsK, xsSt, e1]
        case tail32 =>
          intro _
          have hy4 : (itemsNL (y ++ ex4 al de)).length ≤ 50 := by have := ex4_le (al := al) (de := de) l3 l4; rw [itemsNL_app, List.length_append]; omega
          have hyl4 : (y ++ ex4 al de).length ≤ 4 := by unfold ex4; split <;> simp <;> omega
          clear hy3 hyl3
          generalize y ++ ex4 al de = y at *
          simp +decide (maxSteps := 9^7) (disch := first | omega | (simp only [ll]; omega)) only [xsSt, List.length_map, if_pos, go_sem, Nat.reduceAdd, Nat.reduceMul, Nat.reduceSub]
          refine Runs.meet (α := Unit) (keep := xsK) (kj := ?kj35) (fun _ => xsSt ca path usage ho ne al de pu (y ++ ex5 pu)) ?tail35 ?h1 ?h2
          case h1 =>
            intro J e
            have hne : 0 < pu.length := by simpa using e
            have e1 : ex5 pu = [oneN 5 (.mk 48 [] (pu.map intN))] := by rw [ex5, if_pos hne]
            have c2 := l10Ints hm pu (by omega) (fun n hn => by have := s5 n hn; omega)
            have c3 := l10Made hm 48 pu.length (pu.map intI) (by simp; omega)
            have e3 : itemsN (.mk 48 [] (pu.map intN)) = ⟨48, [], pu.length⟩ :: pu.map intI := by rw [itemsN_mk, items_ints, List.length_map]
            have c4 := l10One hm 5 (.mk 48 [] (pu.map intN)) (by omega) (by omega) (by rw [e3]; simp; omega)
            rw [e3] at c4
            obtain ⟨x, T, hT⟩ := itemsN_cons (oneN 5 (.mk 48 [] (pu.map intN)))
            rw [hT] at c4
            have hn := xs_next y _ hT
            have hnl := xs_len y _ hT
            have hb : T.length ≤ 100 := by have := one_len 5 (.mk 48 [] (pu.map intN)); rw [hT, e3] at this; simp only [List.length_cons, List.length_map] at this; omega
            rw [← e1] at hn hnl
            have e5 : (y ++ ex5 pu).length = y.length + 1 := by rw [e1]; simp
            have hTl : (T.map itemO).length = T.length := List.length_map _
            have hTt : List.take (T.length + 1) (itemO x :: T.map itemO) = itemO x :: T.map itemO := List.take_of_length_le (by simp)
            have hQl : ((pu.map intI).map itemO).length = pu.length := by simp
            have hQt : List.take pu.length ((pu.map intI).map itemO) = (pu.map intI).map itemO := List.take_of_length_le (by simp)
            simp only [List.map_cons] at c4
            simp +decide (maxSteps := 9^7) only [List.length_map, go_sem, Nat.reduceAdd, Nat.reduceMul, Nat.reduceSub]
            refine Runs.draw (st1 := ?s33) (draws_ref (ann := xsAnn) tabOk (byJ [(7, [1, 4, 5, 6]), (9, xsK), (12, xsK), (21, xsK), (32, xsK), (35, xsK), (27, [1, 4, 5, 10, 11]), (30, [1, 4, 5, 10, 11])] (byL [] [104, 19, 21, 1000001])) xsS33 (by kernel_rfl) ?p33) ?q33
            case p33 =>
              intro K r X hK
              simp +decide (maxSteps := 9^7) (disch := first | omega | (simp only [ll]; omega)) only [List.length_map, if_pos, go_sem, Nat.reduceAdd, Nat.reduceMul, Nat.reduceSub]
              repeat' apply And.intro
              all_goals
                refine Runs.call c2 ?_
                simp +decide (maxSteps := 9^7) (disch := first | omega | (simp only [ll]; omega)) only [hQl, hQt, if_pos, go_sem, Nat.reduceAdd, Nat.reduceMul, Nat.reduceSub]
                refine Runs.call c3 ?_
                simp +decide (maxSteps := 9^7) (disch := first | omega | (simp only [ll]; omega)) only [hQl, hQt, if_pos, go_sem, Nat.reduceAdd, Nat.reduceMul, Nat.reduceSub]
                refine Runs.call c4 ?_
                simp +decide (maxSteps := 9^7) (disch := first | omega | (simp only [ll]; omega)) only [hTl, hTt, List.length_cons, List.length_append, List.length_map, if_pos, go_sem, Nat.reduceAdd, Nat.reduceMul, Nat.reduceSub]
                exact hK
            case q33 =>
              simp +decide (maxSteps := 9^7) (disch := first | omega | (simp only [ll]; omega)) only [hTl, hTt, List.length_cons, List.length_append, List.length_map, if_pos, go_sem, Nat.reduceAdd, Nat.reduceMul, Nat.reduceSub]
              refine J () _ ?_
              simp [go_sem, xsK, xsSt, hn, hnl, e5]
          case h2 =>
            intro J e
            have hne : ¬ 0 < pu.length := by simpa using e
            have e1 : ex5 pu = [] := by rw [ex5, if_neg hne]
            simp +decide (maxSteps := 9^7) only [go_sem, Nat.reduceAdd, Nat.reduceMul, Nat.reduceSub]
            refine J () _ ?_
            simp [go_sem, xsK, xsSt, e1]
          case tail35 =>
            intro _
            generalize y ++ ex5 pu = y at *
            have hQl : ((itemsNL y).map itemO).length = (itemsNL y).length := List.length_map _
            have hQt : List.take (itemsNL y).length ((itemsNL y).map itemO) = (itemsNL y).map itemO := take_map_len
            simp +decide (maxSteps := 9^7) only [xsSt, hQl, hQt, go_sem, Nat.reduceAdd, Nat.reduceMul, Nat.reduceSub]
            exact Runs.ret_eq hR.symm
end Go.Proofs.W

namespace Go.Proofs.W
open Go Go.AM Go.Proofs.G
set_option maxRecDepth 10000
variable (hm : Tryz.prog.follows .mixedOrders = true)
include hm in
theorem l2Left (a m : Int) (h1 : 0 < m) (h2 : m ≤ 4611686018427387904) : Holds Tryz.prog 168 [.v (.int .i64 a), .v (.int .i64 m)] [] (.v (.int .i64 (a % m))) [] := by
  refine holds_of (ann := []) tabOk hm Tryz.func168 (by kernel_rfl) rfl ?_
  have hb := tmod_bd (a := a) h1
  have he := left_eq (a := a) h1
  simp +decide (disch := first | omega | (simp only [ll]; omega)) only [Tryz.f168, he, if_pos, go_sem, Nat.reduceAdd, Nat.reduceMul, Nat.reduceSub]
  exact Runs.ret_v
include hm in
theorem rest (a m : Int) (h1 : 0 < m) (h2 : m ≤ 4611686018427387904) : Holds Tryz.prog 195 [.v (.int .i64 a), .v (.int .i64 m)] [] (.v (.int .i64 (a % m))) [] := by
  refine holds_of (ann := []) tabOk hm Tryz.func195 (by kernel_rfl) rfl ?_
  have hb := tmod_bd (a := a) h1
  have he := left_eq (a := a) h1
  simp +decide (disch := first | omega | (simp only [ll]; omega)) only [Tryz.f195, he, if_pos, go_sem, Nat.reduceAdd, Nat.reduceMul, Nat.reduceSub]
  exact Runs.ret_v
theorem nat_of {m : Int} (h : 0 ≤ m) : ∃ n : Nat, m = n := ⟨m.toNat, (Int.toNat_of_nonneg h).symm⟩
theorem tdiv_nat (r s : Nat) : (r : Int).tdiv s = ((r / s : Nat) : Int) := by rw [Int.tdiv_eq_ediv_of_nonneg (by omega)]; rfl
theorem tmod_nat (r s : Nat) : (r : Int).tmod s = ((r % s : Nat) : Int) := by rw [Int.tmod_eq_emod_of_nonneg (by omega)]; rfl
def liAnn : Ann := [(0, [1, 5, 6, 7, 8])]
def liSt (m : Nat) (p : Nat × Nat × Int × Int) : St := ⟨[.any, .v (.int .i64 m), .any, .any, .any, .v (.int .i64 p.1), .v (.int .i64 p.2.1), .v (.int .i64 p.2.2.1), .v (.int .i64 p.2.2.2), .any, .any, .any, .any, .any, .any, .any, .any, .any, .any, .any, .any, .any, .any, .any, .any, .any, .any, .any, .any, .any, .any, .any, .any, .any], [], []⟩
def liS : Sched := .take 0 (.take 1 (.take 2 (.take 3 (.take 4 (.take 5 .fin)))))
attribute [local go_sem] liS
include hm in
theorem l2Inv (a m : Int) (h1 : 1 ≤ m) (h2 : m ≤ 1073741824) : Holds Tryz.prog 167 [.v (.int .i64 a), .v (.int .i64 m)] [] (.v (.int .i64 (invI a m))) [] := by
  refine holds_of (ann := liAnn) tabOk hm Tryz.func167 (by kernel_rfl) rfl ?_
  obtain ⟨n, rfl⟩ := nat_of (m := m) (by omega)
  simp +decide only [Tryz.f167, go_sem, Nat.reduceAdd, Nat.reduceMul, Nat.reduceSub]
  refine Runs.call (l2Left hm a n (by omega) (by omega)) ?_
  simp +decide only [go_sem, Nat.reduceAdd, Nat.reduceMul, Nat.reduceSub]
  obtain ⟨s0, hs0⟩ := nat_of (Int.emod_nonneg a (show (n : Int) ≠ 0 by omega))
  refine Runs.while (α := Nat × Nat × Int × Int) (liSt n) (fun p => p.2.1) (fun p => InvS n p.1 p.2.1 p.2.2.1 p.2.2.2 ∧ invGo p.1 p.2.1 p.2.2.1 p.2.2.2 = invGo n s0 0 1 ∧ p.1 ≤ n ∧ p.2.1 ≤ n) (n, s0, 0, 1) ⟨InvS.zero (by omega), rfl, Nat.le_refl _, by have := Int.emod_lt_of_pos a (show (0 : Int) < n by omega); simp only; omega⟩ ?_ ?_
  · simp [go_sem, liAnn, liSt, hs0]
  · rintro ⟨r, s, x, y⟩ ⟨hi, hg, hr1, hs1⟩ ih
    simp only at hi hg hr1 hs1
    simp +decide only [liSt, go_sem, Nat.reduceAdd, Nat.reduceMul, Nat.reduceSub]
    refine Runs.split (fun h => ?_) (fun h => ?_)
    · have hs : s ≠ 0 := by simp at h; omega
      obtain ⟨i1, b1, b2, b3, b4⟩ := hi.next hs
      have e1 := tdiv_nat r s
      have e2 := tmod_nat r s
      have w0 : ∀ q : Nat, q ≤ r → IntKind.i64.wrap (q : Int) = q := fun q h => wrap_i64 (by omega) (by omega)
      have w1 := w0 _ (Nat.div_le_self r s)
      generalize hq : ((r / s : Nat) : Int) = q at *
      have w2 : IntKind.i64.wrap (q * y) = q * y := wrap_i64 (by omega) (by omega)
      have w3 : IntKind.i64.wrap (x - q * y) = x - q * y := wrap_i64 (by omega) (by omega)
      simp +decide (disch := first | omega | (simp only [ll]; omega)) only [e1, w1, if_pos, go_sem, Nat.reduceAdd, Nat.reduceMul, Nat.reduceSub]
      refine Runs.draw (st1 := ?s1) (draws_by (ann := liAnn) tabOk liS (by kernel_rfl) ?p1) ?q1
      case p1 =>
        intro K r' X hK
        simp +decide (disch := first | omega | (simp only [ll]; omega)) only [e2, if_pos, go_sem, Nat.reduceAdd, Nat.reduceMul, Nat.reduceSub]
        exact hK
      case q1 =>
        simp +decide (disch := first | omega | (simp only [ll]; omega)) only [w2, w3, if_pos, go_sem, Nat.reduceAdd, Nat.reduceMul, Nat.reduceSub]
        refine ih (s, r % s, y, x - q * y) _ (by simp only; exact Nat.mod_lt _ (by omega)) ⟨i1, ?_, hs1, by simp only; have := Nat.mod_le r s; omega⟩ ?_
        · rw [← hg, ← hq]
          conv => rhs; rw [invGo, dif_neg hs]
        · simp [go_sem, liAnn, liSt]
    · have hs : s = 0 := by simp at h; omega
      subst hs
      rw [invGo, dif_pos rfl] at hg
      simp +decide only [go_sem, Nat.reduceAdd, Nat.reduceMul, Nat.reduceSub]
      have hv : invI a n = if r = 1 then x % n else 0 := by
        unfold invI
        rw [hs0, Int.toNat_natCast, Int.toNat_natCast, ← hg]
      refine Runs.split (fun h => ?_) (fun h => ?_)
      · have hr : r ≠ 1 := by simp at h; omega
        simp +decide only [hv, hr, go_sem, Nat.reduceAdd, Nat.reduceMul, Nat.reduceSub]
        exact Runs.ret_v
      · have hr : r = 1 := by simp at h; omega
        simp +decide only [go_sem, Nat.reduceAdd, Nat.reduceMul, Nat.reduceSub]
        refine Runs.call (l2Left hm x n (by omega) (by omega)) ?_
        simp +decide only [hv, hr, go_sem, Nat.reduceAdd, Nat.reduceMul, Nat.reduceSub]
        exact Runs.ret_v
def iiAnn : Ann := [(0, [1, 6, 7, 8, 9])]
def iiSt (m : Nat) (p : Nat × Nat × Int × Int) : St := ⟨[.any, .v (.int .i64 m), .any, .any, .any, .any, .v (.int .i64 p.1), .v (.int .i64 p.2.1), .v (.int .i64 p.2.2.1), .v (.int .i64 p.2.2.2), .any, .any, .any, .any, .any, .any, .any, .any, .any, .any, .any, .any, .any, .any, .any, .any, .any, .any, .any, .any, .any, .any, .any, .any, .any, .any, .any, .any], [], []⟩
def iiS : Sched := .take 0 (.take 1 (.take 2 (.take 3 (.take 4 (.take 5 .fin)))))
attribute [local go_sem] iiS
include hm in
theorem invInt (a m : Int) (h1 : 2 ≤ m) (h2 : m ≤ 1073741824) : Holds Tryz.prog 194 [.v (.int .i64 a), .v (.int .i64 m)] [] (.tup [.v (.int .i64 (invI a m)), .v (.bool (invOk a m))]) [] := by
  refine holds_of (ann := iiAnn) tabOk hm Tryz.func194 (by kernel_rfl) rfl ?_
  obtain ⟨n, rfl⟩ := nat_of (m := m) (by omega)
  simp +decide only [Tryz.f194, go_sem, Nat.reduceAdd, Nat.reduceMul, Nat.reduceSub]
  refine Runs.call (within hm n 2 1073741824) ?_
  have hw : inB n 2 1073741824 = true := by simp [inB]; omega
  simp +decide only [hw, go_sem, Nat.reduceAdd, Nat.reduceMul, Nat.reduceSub]
  refine Runs.call (rest hm a n (by omega) (by omega)) ?_
  simp +decide only [go_sem, Nat.reduceAdd, Nat.reduceMul, Nat.reduceSub]
  obtain ⟨s0, hs0⟩ := nat_of (Int.emod_nonneg a (show (n : Int) ≠ 0 by omega))
  refine Runs.while (α := Nat × Nat × Int × Int) (iiSt n) (fun p => p.2.1) (fun p => InvS n p.1 p.2.1 p.2.2.1 p.2.2.2 ∧ invGo p.1 p.2.1 p.2.2.1 p.2.2.2 = invGo n s0 0 1 ∧ p.1 ≤ n ∧ p.2.1 ≤ n) (n, s0, 0, 1) ⟨InvS.zero (by omega), rfl, Nat.le_refl _, by have := Int.emod_lt_of_pos a (show (0 : Int) < n by omega); simp only; omega⟩ ?_ ?_
  · simp [go_sem, iiAnn, iiSt, hs0]
  · rintro ⟨r, s, x, y⟩ ⟨hi, hg, hr1, hs1⟩ ih
    simp only at hi hg hr1 hs1
    simp +decide only [iiSt, go_sem, Nat.reduceAdd, Nat.reduceMul, Nat.reduceSub]
    refine Runs.split (fun h => ?_) (fun h => ?_)
    · have hs : s ≠ 0 := by simp at h; omega
      obtain ⟨i1, b1, b2, b3, b4⟩ := hi.next hs
      have e1 := tdiv_nat r s
      have e2 := tmod_nat r s
      have w0 : ∀ q : Nat, q ≤ r → IntKind.i64.wrap (q : Int) = q := fun q h => wrap_i64 (by omega) (by omega)
      have w1 := w0 _ (Nat.div_le_self r s)
      generalize hq : ((r / s : Nat) : Int) = q at *
      have w2 : IntKind.i64.wrap (q * y) = q * y := wrap_i64 (by omega) (by omega)
      have w3 : IntKind.i64.wrap (x - q * y) = x - q * y := wrap_i64 (by omega) (by omega)
      simp +decide (disch := first | omega | (simp only [ll]; omega)) only [e1, w1, if_pos, go_sem, Nat.reduceAdd, Nat.reduceMul, Nat.reduceSub]
      refine Runs.draw (st1 := ?s1) (draws_by (ann := iiAnn) tabOk iiS (by kernel_rfl) ?p1) ?q1
      case p1 =>
        intro K r' X hK
        simp +decide (disch := first | omega | (simp only [ll]; omega)) only [e2, if_pos, go_sem, Nat.reduceAdd, Nat.reduceMul, Nat.reduceSub]
        exact hK
      case q1 =>
        simp +decide (disch := first | omega | (simp only [ll]; omega)) only [w2, w3, if_pos, go_sem, Nat.reduceAdd, Nat.reduceMul, Nat.reduceSub]
        refine ih (s, r % s, y, x - q * y) _ (by simp only; exact Nat.mod_lt _ (by omega)) ⟨i1, ?_, hs1, by simp only; have := Nat.mod_le r s; omega⟩ ?_
        · rw [← hg, ← hq]
          conv => rhs; rw [invGo, dif_neg hs]
        · simp [go_sem, iiAnn, iiSt]
    · have hs : s = 0 := by simp at h; omega
      subst hs
      rw [invGo, dif_pos rfl] at hg
      simp +decide only [go_sem, Nat.reduceAdd, Nat.reduceMul, Nat.reduceSub]
      have hv : invI a n = if r = 1 then x % n else 0 := by
        unfold invI
        rw [hs0, Int.toNat_natCast, Int.toNat_natCast, ← hg]
      have hv2 : invOk a n = (r == 1) := by
        unfold invOk
        rw [hs0, Int.toNat_natCast, Int.toNat_natCast, ← hg]
      refine Runs.split (fun h => ?_) (fun h => ?_)
      · have hr : r ≠ 1 := by simp at h; omega
        simp +decide only [hv, hv2, hr, go_sem, Nat.reduceAdd, Nat.reduceMul, Nat.reduceSub]
        exact Runs.ret_eq (by simp [hr])
      · have hr : r = 1 := by simp at h; omega
        simp +decide only [go_sem, Nat.reduceAdd, Nat.reduceMul, Nat.reduceSub]
        refine Runs.call (rest hm x n (by omega) (by omega)) ?_
        simp +decide only [hv, hv2, hr, go_sem, Nat.reduceAdd, Nat.reduceMul, Nat.reduceSub]
        exact Runs.ret_refl
theorem prime_in (n : Int) (h : inB n 2 1099511627776 = false) : primeZ n = false := by
  unfold primeZ
  unfold inB at h
  rw [h, Bool.false_and]
def spAnn : Ann := [(0, [0, 3])]
def spSt (n d : Int) : St := ⟨[.v (.int .i64 n), .any, .any, .v (.int .i64 d), .any, .any, .any, .any, .any, .any, .any, .any, .any, .any, .any, .any, .any, .any], [], []⟩
include hm in
theorem sPrime (n : Int) : Holds Tryz.prog 166 [.v (.int .i64 n)] [] (.v (.bool (primeZ n))) [] := by
  refine holds_of (ann := spAnn) tabOk hm Tryz.func166 (by kernel_rfl) rfl ?_
  simp +decide only [Tryz.f166, go_sem, Nat.reduceAdd, Nat.reduceMul, Nat.reduceSub]
  refine Runs.call (l1In hm n 2 1099511627776) ?_
  simp +decide only [go_sem, Nat.reduceAdd, Nat.reduceMul, Nat.reduceSub]
  refine Runs.split (fun h => ?_) (fun h => ?_)
  · have e := prime_in n (by simpa using h)
    simp +decide only [e, go_sem, Nat.reduceAdd, Nat.reduceMul, Nat.reduceSub]
    exact Runs.ret_v
  · have hn : 2 ≤ n ∧ n ≤ 1099511627776 := by simpa [inB] using h
    simp +decide only [go_sem, Nat.reduceAdd, Nat.reduceMul, Nat.reduceSub]
    refine Runs.while (α := Int) (spSt n) (fun d => (1048578 - d).toNat) (fun d => 2 ≤ d ∧ d ≤ 1048577 ∧ ∀ e, 2 ≤ e → e < d → e * e ≤ n → n.tmod e ≠ 0) 2 ⟨by omega, by omega, fun e _ _ => by omega⟩ ?_ ?_
    · simp [go_sem, spAnn, spSt]
    · rintro d ⟨d1, d2, hd⟩ ih
      have b1 : d * d ≤ 1048577 * 1048577 := Int.mul_le_mul d2 d2 (by omega) (by omega)
      have b2 : 0 ≤ d * d := Int.mul_nonneg (by omega) (by omega)
      have w1 : IntKind.i64.wrap (d * d) = d * d := wrap_i64 (by omega) (by omega)
      simp +decide only [spSt, w1, go_sem, Nat.reduceAdd, Nat.reduceMul, Nat.reduceSub]
      refine Runs.split (fun h => ?_) (fun h => ?_)
      · have hle : d * d ≤ n := by simpa using h
        have hb := sq_bd (by omega) hle hn.2
        simp +decide (disch := first | omega | (simp only [ll]; omega)) only [if_pos, go_sem, Nat.reduceAdd, Nat.reduceMul, Nat.reduceSub]
        refine Runs.split (fun h => ?_) (fun h => ?_)
        · have e := prime_no d1 hle (by simpa using h)
          simp +decide only [e, go_sem, Nat.reduceAdd, Nat.reduceMul, Nat.reduceSub]
          exact Runs.ret_v
        · have hz : n.tmod d ≠ 0 := by simpa using h
          simp +decide (disch := first | omega | (simp only [ll]; omega)) only [if_pos, go_sem, Nat.reduceAdd, Nat.reduceMul, Nat.reduceSub]
          refine ih (d + 1) _ (by omega) ⟨by omega, by omega, fun e e1 e2 e3 => ?_⟩ ?_
          · rcases Int.lt_or_le e d with h | h
            · exact hd e e1 h e3
            · have : e = d := by omega
              subst this
              exact hz
          · simp [go_sem, spAnn, spSt]
      · have hgt : n < d * d := by simpa using h
        have e := prime_yes hn.1 hn.2 d1 hgt hd
        simp +decide only [e, go_sem, Nat.reduceAdd, Nat.reduceMul, Nat.reduceSub]
        exact Runs.ret_v
def ipAnn : Ann := [(0, [0, 3])]
def ipSt (n d : Int) : St := ⟨[.v (.int .i64 n), .any, .any, .v (.int .i64 d), .any, .any, .any, .any, .any, .any, .any, .any, .any, .any, .any, .any, .any, .any], [], []⟩
include hm in
theorem iPrime (n : Int) : Holds Tryz.prog 192 [.v (.int .i64 n)] [] (.v (.bool (primeZ n))) [] := by
  refine holds_of (ann := ipAnn) tabOk hm Tryz.func192 (by kernel_rfl) rfl ?_
  simp +decide only [Tryz.f192, go_sem, Nat.reduceAdd, Nat.reduceMul, Nat.reduceSub]
  refine Runs.call (within hm n 2 1099511627776) ?_
  simp +decide only [go_sem, Nat.reduceAdd, Nat.reduceMul, Nat.reduceSub]
  refine Runs.split (fun h => ?_) (fun h => ?_)
  · have e := prime_in n (by simpa using h)
    simp +decide only [e, go_sem, Nat.reduceAdd, Nat.reduceMul, Nat.reduceSub]
    exact Runs.ret_v
  · have hn : 2 ≤ n ∧ n ≤ 1099511627776 := by simpa [inB] using h
    simp +decide only [go_sem, Nat.reduceAdd, Nat.reduceMul, Nat.reduceSub]
    refine Runs.while (α := Int) (ipSt n) (fun d => (1048578 - d).toNat) (fun d => 2 ≤ d ∧ d ≤ 1048577 ∧ ∀ e, 2 ≤ e → e < d → e * e ≤ n → n.tmod e ≠ 0) 2 ⟨by omega, by omega, fun e _ _ => by omega⟩ ?_ ?_
    · simp [go_sem, ipAnn, ipSt]
    · rintro d ⟨d1, d2, hd⟩ ih
      have b1 : d * d ≤ 1048577 * 1048577 := Int.mul_le_mul d2 d2 (by omega) (by omega)
      have b2 : 0 ≤ d * d := Int.mul_nonneg (by omega) (by omega)
      have w1 : IntKind.i64.wrap (d * d) = d * d := wrap_i64 (by omega) (by omega)
      simp +decide only [ipSt, w1, go_sem, Nat.reduceAdd, Nat.reduceMul, Nat.reduceSub]
      refine Runs.split (fun h => ?_) (fun h => ?_)
      · have hle : d * d ≤ n := by simpa using h
        have hb := sq_bd (by omega) hle hn.2
        simp +decide (disch := first | omega | (simp only [ll]; omega)) only [if_pos, go_sem, Nat.reduceAdd, Nat.reduceMul, Nat.reduceSub]
        refine Runs.split (fun h => ?_) (fun h => ?_)
        · have e := prime_no d1 hle (by simpa using h)
          simp +decide only [e, go_sem, Nat.reduceAdd, Nat.reduceMul, Nat.reduceSub]
          exact Runs.ret_v
        · have hz : n.tmod d ≠ 0 := by simpa using h
          simp +decide (disch := first | omega | (simp only [ll]; omega)) only [if_pos, go_sem, Nat.reduceAdd, Nat.reduceMul, Nat.reduceSub]
          refine ih (d + 1) _ (by omega) ⟨by omega, by omega, fun e e1 e2 e3 => ?_⟩ ?_
          · rcases Int.lt_or_le e d with h | h
            · exact hd e e1 h e3
            · have : e = d := by omega
              subst this
              exact hz
          · simp [go_sem, ipAnn, ipSt]
      · have hgt : n < d * d := by simpa using h
        have e := prime_yes hn.1 hn.2 d1 hgt hd
        simp +decide only [e, go_sem, Nat.reduceAdd, Nat.reduceMul, Nat.reduceSub]
        exact Runs.ret_v
def lpAnn : Ann := [(0, [1, 2, 7, 8])]
def lpSt (m : Int) (p : Nat × Int × Int) : St := ⟨[.any, .v (.int .i64 p.1), .v (.int .i64 m), .any, .any, .any, .any, .v (.int .i64 p.2.1), .v (.int .i64 p.2.2), .any, .any, .any, .any, .any, .any, .any, .any, .any, .any, .any, .any, .any, .any, .any, .any, .any, .any, .any, .any, .any, .any, .any], [], []⟩
def lpS : Sched := .take 0 (.take 1 (.take 2 (.take 3 (.take 4 (.take 5 (.take 6 .fin))))))
attribute [local go_sem] lpS
include hm in
theorem l2Pow (a m : Int) (e : Nat) (h0 : 0 ≤ a) (h1 : 0 < m) (h2 : m ≤ 2147483648) (h3 : e ≤ 9223372036854775807) : Holds Tryz.prog 169 [.v (.int .i64 a), .v (.int .i64 e), .v (.int .i64 m)] [] (.v (.int .i64 (powZ a e m))) [] := by
  refine holds_of (ann := lpAnn) tabOk hm Tryz.func169 (by kernel_rfl) rfl ?_
  have e1 : (1 : Int).tmod m = 1 % m := Int.tmod_eq_emod_of_nonneg (by omega)
  have e2 : a.tmod m = a % m := Int.tmod_eq_emod_of_nonneg h0
  have hin : ∀ n : Int, 0 ≤ n % m ∧ n % m < m := fun n => ⟨Int.emod_nonneg _ (by omega), Int.emod_lt_of_pos _ h1⟩
  simp +decide only [Tryz.f169, go_sem, Nat.reduceAdd, Nat.reduceMul, Nat.reduceSub]
  refine Runs.draw (st1 := ?s1) (draws_by (ann := lpAnn) tabOk lpS (by kernel_rfl) ?p1) ?q1
  case p1 =>
    intro K r' X hK
    simp +decide (disch := first | omega | (simp only [ll]; omega)) only [e1, e2, if_pos, go_sem, Nat.reduceAdd, Nat.reduceMul, Nat.reduceSub]
    exact hK
  case q1 =>
    simp +decide only [go_sem, Nat.reduceAdd, Nat.reduceMul, Nat.reduceSub]
    refine Runs.while (α := Nat × Int × Int) (lpSt m) (fun p => p.1) (fun p => p.1 ≤ e ∧ (0 ≤ p.2.1 ∧ p.2.1 < m) ∧ (0 ≤ p.2.2 ∧ p.2.2 < m) ∧ mulL (mulZ m) p.1 p.2.1 p.2.2 = powZ a e m) (e, 1 % m, a % m) ⟨Nat.le_refl _, hin _, hin _, powZ_L h1 a e⟩ ?_ ?_
    · simp [go_sem, lpAnn, lpSt]
    · rintro ⟨n, out, base⟩ ⟨hn, ho, hb, hg⟩ ih
      simp only at hn ho hb hg
      have b1 := mul_bd ho hb h2
      have b2 := mul_bd hb hb h2
      have w1 : IntKind.i64.wrap (out * base) = out * base := wrap_i64 (by omega) (by omega)
      have w2 : IntKind.i64.wrap (base * base) = base * base := wrap_i64 (by omega) (by omega)
      have t1 : (out * base).tmod m = mulZ m out base := Int.tmod_eq_emod_of_nonneg b1.1
      have t2 : (base * base).tmod m = mulZ m base base := Int.tmod_eq_emod_of_nonneg b2.1
      have e3 := tmod_nat n 2
      have e4 := tdiv_nat n 2
      have w3 : IntKind.i64.wrap ((n / 2 : Nat) : Int) = ((n / 2 : Nat) : Int) := wrap_i64 (by omega) (by omega)
      simp +decide only [lpSt, go_sem, Nat.reduceAdd, Nat.reduceMul, Nat.reduceSub]
      refine Runs.split (fun h => ?_) (fun h => ?_)
      · have hs : n ≠ 0 := by simp at h; omega
        rw [mulL_step _ _ _ _ hs] at hg
        simp +decide (disch := first | omega | (simp only [ll]; omega)) only [if_pos, go_sem, Nat.reduceAdd, Nat.reduceMul, Nat.reduceSub]
        rw [show (2 : Int) = ((2 : Nat) : Int) from rfl, e3]
        refine Runs.split (fun h => ?_) (fun h => ?_)
        · have hbit : n % 2 = 1 := by simp at h; omega
          rw [if_pos hbit] at hg
          simp +decide (disch := first | omega | (simp only [ll]; omega)) only [w1, w2, t1, t2, e4, w3, if_pos, go_sem, Nat.reduceAdd, Nat.reduceMul, Nat.reduceSub]
          refine ih (n / 2, mulZ m out base, mulZ m base base) _ (by simp only; omega) ⟨by simp only; omega, hin _, hin _, hg⟩ ?_
          simp [go_sem, lpAnn, lpSt]
        · have hbit : ¬ n % 2 = 1 := by simp at h; omega
          rw [if_neg hbit] at hg
          simp +decide (disch := first | omega | (simp only [ll]; omega)) only [w1, w2, t1, t2, e4, w3, if_pos, go_sem, Nat.reduceAdd, Nat.reduceMul, Nat.reduceSub]
          refine ih (n / 2, out, mulZ m base base) _ (by simp only; omega) ⟨by simp only; omega, ho, hin _, hg⟩ ?_
          simp [go_sem, lpAnn, lpSt]
      · have hs : n = 0 := by simp at h; omega
        subst hs
        rw [mulL_zero] at hg
        simp +decide only [hg, go_sem, Nat.reduceAdd, Nat.reduceMul, Nat.reduceSub]
        exact Runs.ret_v
end Go.Proofs.W

namespace Go.Proofs.W
open Go Go.AM Go.Proofs.G
set_option maxRecDepth 10000
variable (hm : Tryz.prog.follows .mixedOrders = true)
theorem shr_nat (n k : Nat) : (n : Int).fdiv (2 ^ k) = ((n / 2 ^ k : Nat) : Int) := by
  rw [Int.fdiv_eq_ediv_of_nonneg _ (Int.le_of_lt (Int.pow_pos (by decide)))]
  have : ((2 : Int) ^ k) = ((2 ^ k : Nat) : Int) := by simp
  rw [this]
  rfl
theorem s32 : min (32 : Int).toNat 64 = 32 := by decide
theorem s16 : min (16 : Int).toNat 64 = 16 := by decide
theorem s8 : min (8 : Int).toNat 64 = 8 := by decide
def tabOk8 (L : List UInt8) : Bool := L.length == 256 && (List.range 256).all fun i => decide (i < 2 ^ (L.getD i 0).toNat) && ((L.getD i 0).toNat == 0 || decide (2 ^ ((L.getD i 0).toNat - 1) ≤ i))
theorem len_get {L : List UInt8} (h : tabOk8 L = true) {x : Nat} (hx : x < 256) : (L.getD x 0).toNat = blen x := by
  simp only [tabOk8, Bool.and_eq_true, List.all_eq_true, List.mem_range, decide_eq_true_eq, Bool.or_eq_true, beq_iff_eq] at h
  have := h.2 x hx
  exact (blen_uniq this.1 this.2).symm
theorem len_size {L : List UInt8} (h : tabOk8 L = true) : (⟨L.toArray⟩ : ByteArray).size = 256 := by
  simp only [tabOk8, Bool.and_eq_true, beq_iff_eq] at h
  show L.toArray.size = 256
  simpa using h.1
theorem len_fin {L : List UInt8} (h : tabOk8 L = true) {x n : Nat} {a : Int} (b : Nat) (hx : x < 256) (ha : a = b) (hb : b ≤ 56) (hn : blen n = b + blen x) :
    A.v (.int .i64 (IntKind.i64.wrap (a + IntKind.i64.wrap ((L.getD x 0).toNat : Nat)))) = A.v (.int .i64 (blen n : Nat)) := by
  subst ha
  have h8 : blen x ≤ 8 := blen_le (by omega)
  have w1 : IntKind.i64.wrap (blen x : Nat) = (blen x : Nat) := wrap_i64 (by omega) (by omega)
  have w2 : IntKind.i64.wrap ((b : Int) + (blen x : Nat)) = (b : Int) + (blen x : Nat) := wrap_i64 (by omega) (by omega)
  rw [len_get h hx, w1, w2, hn]
  rfl
theorem len_in {L : List UInt8} (h : tabOk8 L = true) {x : Nat} (hx : x < 256) : 0 ≤ (x : Int) ∧ (x : Int) < ((⟨L.toArray⟩ : ByteArray).size : Nat) := by
  rw [len_size h]
  omega
include hm in
theorem len64 (n : Nat) (h : n < 2 ^ 64) : Holds Tryz.prog 191 [.v (.int .u64 n)] [] (.v (.int .i64 (blen n))) [] := by
  refine holds_of (ann := []) tabOk hm Tryz.func191 (by kernel_rfl) rfl ?_
  simp +decide only [Tryz.f191, go_sem, Nat.reduceAdd, Nat.reduceMul, Nat.reduceSub]
  refine Runs.split (fun h => ?_) (fun h => ?_)
  all_goals
    simp +decide only [s32, shr_nat, go_sem, Nat.reduceAdd, Nat.reduceMul, Nat.reduceSub]
    refine Runs.split (fun h1 => ?_) (fun h1 => ?_)
  all_goals
    simp +decide (disch := first | omega | (simp only [ll]; omega)) only [s16, shr_nat, if_pos, go_sem, Nat.reduceAdd, Nat.reduceMul, Nat.reduceSub]
    refine Runs.split (fun h2 => ?_) (fun h2 => ?_)
  all_goals
    simp only [decide_eq_true_eq, decide_eq_false_iff_not] at h h1 h2
    simp +decide (disch := first | omega | (simp only [ll]; omega)) only [s8, shr_nat, if_pos, go_sem, Nat.reduceAdd, Nat.reduceMul, Nat.reduceSub]
  all_goals
    try simp only [s32, s16, s8] at *
  · refine Runs.chk (decide_eq_true (len_in (by decide +kernel) (by omega))) (Runs.ret_eq (len_fin (by decide +kernel) 56 (by omega) ?_ (by omega) ?_))
    · rfl
    · rw [blen_shift 32 (by omega), blen_shift 16 (by omega), blen_shift 8 (by omega)]; omega
  · refine Runs.chk (decide_eq_true (len_in (by decide +kernel) (by omega))) (Runs.ret_eq (len_fin (by decide +kernel) 48 (by omega) ?_ (by omega) ?_))
    · rfl
    · rw [blen_shift 32 (by omega), blen_shift 16 (by omega)]; omega
  · refine Runs.chk (decide_eq_true (len_in (by decide +kernel) (by omega))) (Runs.ret_eq (len_fin (by decide +kernel) 40 (by omega) ?_ (by omega) ?_))
    · rfl
    · rw [blen_shift 32 (by omega), blen_shift 8 (by omega)]; omega
  · refine Runs.chk (decide_eq_true (len_in (by decide +kernel) (by omega))) (Runs.ret_eq (len_fin (by decide +kernel) 32 (by omega) ?_ (by omega) ?_))
    · rfl
    · rw [blen_shift 32 (by omega)]
  · refine Runs.chk (decide_eq_true (len_in (by decide +kernel) (by omega))) (Runs.ret_eq (len_fin (by decide +kernel) 24 (by omega) ?_ (by omega) ?_))
    · rfl
    · rw [blen_shift 16 (by omega), blen_shift 8 (by omega)]; omega
  · refine Runs.chk (decide_eq_true (len_in (by decide +kernel) (by omega))) (Runs.ret_eq (len_fin (by decide +kernel) 16 (by omega) ?_ (by omega) ?_))
    · rfl
    · rw [blen_shift 16 (by omega)]
  · refine Runs.chk (decide_eq_true (len_in (by decide +kernel) (by omega))) (Runs.ret_eq (len_fin (by decide +kernel) 8 (by omega) ?_ (by omega) ?_))
    · rfl
    · rw [blen_shift 8 (by omega)]
  · refine Runs.chk (decide_eq_true (len_in (by decide +kernel) (by omega))) (Runs.ret_eq (len_fin (by decide +kernel) 0 (by omega) ?_ (by omega) ?_))
    · rfl
    · omega
include hm in
theorem bitsLen (n : Nat) (h : n < 2 ^ 64) : Holds Tryz.prog 153 [.v (.int .u64 n)] [] (.v (.int .i64 (blen n))) [] := by
  refine holds_of (ann := []) tabOk hm Tryz.func153 (by kernel_rfl) rfl ?_
  simp +decide only [Tryz.f153, go_sem, Nat.reduceAdd, Nat.reduceMul, Nat.reduceSub]
  refine Runs.call (len64 hm n h) ?_
  simp +decide only [go_sem, Nat.reduceAdd, Nat.reduceMul, Nat.reduceSub]
  exact Runs.ret_v
theorem andI_one (n : Nat) (h : n < 2 ^ 63) : andI .i64 n 1 = ((n % 2 : Nat) : Int) := by
  unfold andI
  have e : (BitVec.ofInt IntKind.i64.bits (n : Int) &&& BitVec.ofInt IntKind.i64.bits 1).toNat = n % 2 := by
    rw [BitVec.toNat_and]
    simp only [IntKind.bits, BitVec.toNat_ofInt]
    have e1 : ((n : Int) % (2 ^ 64 : Nat)).toNat = n := by omega
    have e2 : ((1 : Int) % (2 ^ 64 : Nat)).toNat = 1 := by decide
    rw [e1, e2, Nat.and_one_is_mod]
  rw [e]
  exact wrap_i64 (by omega) (by omega)
def piAnn : Ann := [(0, [0, 1, 2, 7, 8])]
def piSt (m a e : Int) (p : Int × Int) : St := ⟨[.v (.int .i64 a), .v (.int .i64 e), .v (.int .i64 m), .any, .any, .any, .any, .v (.int .i64 p.2), .v (.int .i64 p.1), .any, .any, .any, .any, .any, .any, .any, .any, .any, .any, .any, .any, .any, .any, .any, .any, .any, .any, .any, .any, .any, .any, .any, .any, .any, .any, .any, .any, .any], [], []⟩
include hm in
theorem powInt (a m : Int) (e : Nat) (h0 : 0 ≤ a) (h1 : 0 < m) (h2 : m ≤ 2147483648) (h3 : e ≤ 9223372036854775807) : Holds Tryz.prog 196 [.v (.int .i64 a), .v (.int .i64 e), .v (.int .i64 m)] [] (.v (.int .i64 (powZ a e m))) [] := by
  refine holds_of (ann := piAnn) tabOk hm Tryz.func196 (by kernel_rfl) rfl ?_
  have e1 : (1 : Int).tmod m = 1 % m := Int.tmod_eq_emod_of_nonneg (by omega)
  have e2 : a.tmod m = a % m := Int.tmod_eq_emod_of_nonneg h0
  have hin : ∀ n : Int, 0 ≤ n % m ∧ n % m < m := fun n => ⟨Int.emod_nonneg _ (by omega), Int.emod_lt_of_pos _ h1⟩
  have hl : blen e ≤ 63 := blen_le (by omega)
  simp +decide (disch := first | omega | (simp only [ll]; omega)) only [Tryz.f196, e1, e2, if_pos, go_sem, Nat.reduceAdd, Nat.reduceMul, Nat.reduceSub]
  refine Runs.call (bitsLen hm e (by omega)) ?_
  simp +decide (disch := first | omega | (simp only [ll]; omega)) only [if_pos, go_sem, Nat.reduceAdd, Nat.reduceMul, Nat.reduceSub]
  have ha := hin a
  rw [← powZ_M h1 a e]
  generalize a % m = b at ha ⊢
  refine Runs.while (α := Int × Int) (piSt m b e) (fun p => (p.1 + 1).toNat) (fun p => -1 ≤ p.1 ∧ p.1 ≤ 62 ∧ (0 ≤ p.2 ∧ p.2 < m) ∧ (p.1 = -1 ∨ 2 ^ p.1.toNat ≤ e) ∧ p.2 = mulM (mulZ m) (1 % m) (e / 2 ^ (p.1 + 1).toNat) b) ((blen e : Int) - 1, 1 % m) ⟨by simp only; omega, by simp only; omega, hin _, ?_, ?_⟩ ?_ ?_
  · simp only
    by_cases hz : e = 0
    · left; subst hz; rw [blen_zero]; rfl
    · right
      have := blen_ge hz
      have hp := blen_pos hz
      have e : ((blen e : Int) - 1).toNat = blen e - 1 := by omega
      rw [e]
      exact this
  · simp only
    have e : ((blen e : Int) - 1 + 1).toNat = blen e := by omega
    rw [e, Nat.div_eq_of_lt blen_lt, mulM_zero]
  · simp [go_sem, piAnn, piSt]
  · rintro ⟨i, out⟩ ⟨hi1, hi2, ho, hi3, hg⟩ ih
    simp only at hi1 hi2 ho hi3 hg
    simp +decide only [piSt, go_sem, Nat.reduceAdd, Nat.reduceMul, Nat.reduceSub]
    refine Runs.split (fun h => ?_) (fun h => ?_)
    · have hs : 0 ≤ i := by simpa using h
      obtain ⟨k, rfl⟩ := nat_of hs
      have hk : 2 ^ k ≤ e := by
        rcases hi3 with h | h
        · omega
        · simpa using h
      have ek : ((k : Int) + 1).toNat = k + 1 := by omega
      rw [ek] at hg
      have hst := mulM_step (mulZ m) (1 % m) e k b hk
      rw [← hg] at hst
      have b1 := mul_bd ho ho h2
      have w1 : IntKind.i64.wrap (out * out) = out * out := wrap_i64 (by omega) (by omega)
      have t1 : (out * out).tmod m = mulZ m out out := Int.tmod_eq_emod_of_nonneg b1.1
      have ho' : 0 ≤ mulZ m out out ∧ mulZ m out out < m := hin _
      have b2 := mul_bd ho' ha h2
      have w2 : IntKind.i64.wrap (mulZ m out out * b) = mulZ m out out * b := wrap_i64 (by omega) (by omega)
      have t2 : (mulZ m out out * b).tmod m = mulZ m (mulZ m out out) b := Int.tmod_eq_emod_of_nonneg b2.1
      have hq := Nat.div_le_self e (2 ^ k)
      have ea := andI_one (e / 2 ^ k) (by omega)
      have em : min k 64 = k := by omega
      have es := shr_nat e k
      have hpow : k = 0 ∨ 2 ^ (k - 1) ≤ e := by
        rcases Nat.eq_zero_or_pos k with h | h
        · exact .inl h
        · right; exact Nat.le_trans (Nat.pow_le_pow_right (by omega) (by omega)) hk
      simp +decide (disch := first | omega | (simp only [ll]; omega)) only [w1, t1, em, es, ea, if_pos, go_sem, Nat.reduceAdd, Nat.reduceMul, Nat.reduceSub]
      refine Runs.split (fun h => ?_) (fun h => ?_)
      · have hbit : e / 2 ^ k % 2 = 1 := by simp only [decide_eq_true_eq] at h; omega
        rw [if_pos hbit] at hst
        simp +decide (disch := first | omega | (simp only [ll]; omega)) only [w2, t2, if_pos, go_sem, Nat.reduceAdd, Nat.reduceMul, Nat.reduceSub]
        refine ih ((k : Int) - 1, mulZ m (mulZ m out out) b) _ (by simp only; omega) ⟨by simp only; omega, by simp only; omega, hin _, ?_, ?_⟩ ?_
        · simp only
          rcases hpow with h | h
          · left; omega
          · right
            have e : ((k : Int) - 1).toNat = k - 1 := by omega
            rw [e]; exact h
        · simp only
          have e : ((k : Int) - 1 + 1).toNat = k := by omega
          rw [e, hst]
        · simp [go_sem, piAnn, piSt]
      · have hbit : ¬ e / 2 ^ k % 2 = 1 := by simp only [decide_eq_false_iff_not] at h; omega
        rw [if_neg hbit] at hst
        simp +decide (disch := first | omega | (simp only [ll]; omega)) only [if_pos, go_sem, Nat.reduceAdd, Nat.reduceMul, Nat.reduceSub]
        refine ih ((k : Int) - 1, mulZ m out out) _ (by simp only; omega) ⟨by simp only; omega, by simp only; omega, hin _, ?_, ?_⟩ ?_
        · simp only
          rcases hpow with h | h
          · left; omega
          · right
            have e : ((k : Int) - 1).toNat = k - 1 := by omega
            rw [e]; exact h
        · simp only
          have e : ((k : Int) - 1 + 1).toNat = k := by omega
          rw [e, hst]
        · simp [go_sem, piAnn, piSt]
    · have hs : i = -1 := by simp at h; omega
      subst hs
      simp at hg
      simp +decide only [hg, go_sem, Nat.reduceAdd, Nat.reduceMul, Nat.reduceSub]
      exact Runs.ret_v
end Go.Proofs.W

namespace Go.Proofs.W
open Go Go.AM Go.Proofs.G
set_option maxRecDepth 10000
variable (hm : Tryz.prog.follows .mixedOrders = true)
structure GCv where
  p : Int
  a : Int
  b : Int
  n : Int
  gx : Int
  gy : Int
def cvA (k : GCv) : A := .agg [.v (.int .i64 k.p), .v (.int .i64 k.a), .v (.int .i64 k.b), .v (.int .i64 k.n), .v (.int .i64 k.gx), .v (.int .i64 k.gy)]
def ptA (P : GPt) : A := .agg [.v (.int .i64 P.x), .v (.int .i64 P.y), .v (.bool P.far)]
def CvIn (k : GCv) : Prop := 5 ≤ k.p ∧ k.p ≤ 1048576 ∧ (0 ≤ k.a ∧ k.a < k.p) ∧ (0 ≤ k.b ∧ k.b < k.p)
def PtIn (p : Int) (P : GPt) : Prop := (0 ≤ P.x ∧ P.x < p) ∧ (0 ≤ P.y ∧ P.y < p)
theorem mul_in {a b m : Int} (h1 : 0 ≤ a ∧ a < m) (h2 : 0 ≤ b ∧ b < m) (hm : m ≤ 2097152) : 0 ≤ a * b ∧ a * b ≤ 4398046511104 := by
  have : a * b ≤ 2097152 * 2097152 := Int.mul_le_mul (by omega) (by omega) h2.1 (by omega)
  exact ⟨Int.mul_nonneg h1.1 h2.1, by omega⟩
theorem mod_in' {m : Int} (h : 0 < m) (n : Int) : 0 ≤ n % m ∧ n % m < m := ⟨Int.emod_nonneg _ (by omega), Int.emod_lt_of_pos _ h⟩
attribute [local go_sem] cvA ptA
def soS : Sched := .take 0 (.take 2 (.take 5 (.take 8 (.take 10 (.take 13 (.take 16 (.take 19 (.take 22 (.take 25 (.ld 1 (.ld 3 (.take 4 (.ld 6 (.take 7 (.ld 9 (.ld 11 (.take 12 (.ld 14 (.take 15 (.ld 17 (.take 18 (.ld 20 (.take 21 (.ld 23 (.take 24 (.ld 26 (.take 27 (.take 28 (.take 29 .fin)))))))))))))))))))))))))))))
attribute [local go_sem] soS
include hm in
theorem l3On (k : GCv) (P : GPt) (hk : CvIn k) : Holds Tryz.prog 131 [cvA k, ptA P] [] (.v (.bool (onZ k.p k.a k.b P))) [] := by
  refine holds_ref (ann := []) tabOk hm (byL [] [1000002, 1000003]) Tryz.func131 (by kernel_rfl) rfl ?_
  obtain ⟨p, a, b, n, gx, gy⟩ := k
  obtain ⟨x, y, far⟩ := P
  obtain ⟨h1, h2, h3, h4⟩ := hk
  simp only at h1 h2 h3 h4
  simp +decide only [Tryz.f131, go_sem, Nat.reduceAdd, Nat.reduceMul, Nat.reduceSub]
  refine Runs.split (fun h => ?_) (fun h => ?_)
  · subst h
    simp +decide only [go_sem, Nat.reduceAdd, Nat.reduceMul, Nat.reduceSub]
    refine Runs.split (fun h => ?_) (fun h => ?_)
    · have hx : x = 0 := by simpa using h
      subst hx
      simp +decide only [go_sem, Nat.reduceAdd, Nat.reduceMul, Nat.reduceSub]
      exact Runs.ret_eq (by simp [onZ])
    · have hx : x ≠ 0 := by simpa using h
      simp +decide only [go_sem, Nat.reduceAdd, Nat.reduceMul, Nat.reduceSub]
      exact Runs.ret_eq (by simp [onZ, hx])
  · subst h
    simp +decide (disch := first | omega | (simp only [ll]; omega)) only [if_pos, go_sem, Nat.reduceAdd, Nat.reduceMul, Nat.reduceSub]
    refine Runs.call (l1In hm x 0 (p - 1)) ?_
    simp +decide only [go_sem, Nat.reduceAdd, Nat.reduceMul, Nat.reduceSub]
    refine Runs.split (fun h => ?_) (fun h => ?_)
    · have e : onZ p a b ⟨x, y, false⟩ = false := by simp [inB] at h; simp [onZ]; omega
      simp +decide only [e, go_sem, Nat.reduceAdd, Nat.reduceMul, Nat.reduceSub]
      exact Runs.ret_v
    · have hx : 0 ≤ x ∧ x < p := by simp [inB] at h; omega
      simp +decide (disch := first | omega | (simp only [ll]; omega)) only [if_pos, go_sem, Nat.reduceAdd, Nat.reduceMul, Nat.reduceSub]
      refine Runs.call (l1In hm y 0 (p - 1)) ?_
      simp +decide only [go_sem, Nat.reduceAdd, Nat.reduceMul, Nat.reduceSub]
      refine Runs.split (fun h => ?_) (fun h => ?_)
      · have e : onZ p a b ⟨x, y, false⟩ = false := by simp [inB] at h; simp [onZ]; omega
        simp +decide only [e, go_sem, Nat.reduceAdd, Nat.reduceMul, Nat.reduceSub]
        exact Runs.ret_v
      · have hy : 0 ≤ y ∧ y < p := by simp [inB] at h; omega
        have b1 := mul_in hy hy (by omega)
        have b2 := mul_in hx hx (by omega)
        have w1 : IntKind.i64.wrap (y * y) = y * y := wrap_i64 (by omega) (by omega)
        have w2 : IntKind.i64.wrap (x * x) = x * x := wrap_i64 (by omega) (by omega)
        have t1 : (y * y).tmod p = y * y % p := Int.tmod_eq_emod_of_nonneg b1.1
        have t2 : (x * x).tmod p = x * x % p := Int.tmod_eq_emod_of_nonneg b2.1
        have m1 := mod_in' (show 0 < p by omega) (x * x)
        have w3 : IntKind.i64.wrap (x * x % p + a) = x * x % p + a := wrap_i64 (by omega) (by omega)
        have b3 := mul_in (m := 2097152) (show 0 ≤ x * x % p + a ∧ x * x % p + a < 2097152 by omega) (show 0 ≤ x ∧ x < 2097152 by omega) (by omega)
        have w4 : IntKind.i64.wrap ((x * x % p + a) * x) = (x * x % p + a) * x := wrap_i64 (by omega) (by omega)
        have w5 : IntKind.i64.wrap ((x * x % p + a) * x + b) = (x * x % p + a) * x + b := wrap_i64 (by omega) (by omega)
        have t3 : ((x * x % p + a) * x + b).tmod p = ((x * x % p + a) * x + b) % p := Int.tmod_eq_emod_of_nonneg (by omega)
        simp +decide only [go_sem, Nat.reduceAdd, Nat.reduceMul, Nat.reduceSub]
        refine Runs.draw (st1 := ?s1) (draws_ref (ann := []) tabOk (byL [] [1000002, 1000003]) soS (by kernel_rfl) ?p1) ?q1
        case p1 =>
          intro K r X hK
          simp +decide (maxSteps := 9^7) (disch := first | omega | (simp only [ll]; omega)) only [w1, w2, w3, w4, w5, t1, t2, t3, if_pos, go_sem, Nat.reduceAdd, Nat.reduceMul, Nat.reduceSub]
          exact hK
        case q1 =>
          simp +decide only [go_sem, Nat.reduceAdd, Nat.reduceMul, Nat.reduceSub]
          exact Runs.ret_eq (by simp [onZ, hx, hy]; omega)
def ipS : Sched := .take 0 (.take 2 (.ld 1 (.ld 3 (.take 4 (.alt 5 (.take 6 (.take 7 (.take 9 (.ld 8 (.ld 10 (.take 11 (.alt 12 (.take 13 (.take 14 (.take 15 (.take 17 (.take 20 (.take 23 (.take 25 (.take 28 (.take 31 (.take 34 (.take 37 (.take 40 (.ld 16 (.ld 18 (.take 19 (.ld 21 (.take 22 (.ld 24 (.ld 26 (.take 27 (.ld 29 (.take 30 (.ld 32 (.take 33 (.ld 35 (.take 36 (.ld 38 (.take 39 (.ld 41 (.take 42 (.take 43 (.take 44 (.take 45 .fin))))))))))))))))))))))))))))))))) .nil))))))) .nil)))))
attribute [local go_sem] ipS
include hm in
theorem isPoint (k : GCv) (P : GPt) (hk : CvIn k) : Holds Tryz.prog 155 [cvA k, ptA P] [] (.v (.bool (onZ k.p k.a k.b P))) [] := by
  refine holds_ref (ann := []) tabOk hm (byL [] [1000002, 1000003]) Tryz.func155 (by kernel_rfl) rfl ?_
  obtain ⟨p, a, b, n, gx, gy⟩ := k
  obtain ⟨x, y, far⟩ := P
  obtain ⟨h1, h2, h3, h4⟩ := hk
  simp only at h1 h2 h3 h4
  simp +decide only [Tryz.f155, go_sem, Nat.reduceAdd, Nat.reduceMul, Nat.reduceSub]
  refine Runs.split (fun h => ?_) (fun h => ?_)
  · subst h
    simp +decide only [go_sem, Nat.reduceAdd, Nat.reduceMul, Nat.reduceSub]
    refine Runs.split (fun h => ?_) (fun h => ?_)
    · have hx : x = 0 := by simpa using h
      subst hx
      simp +decide only [go_sem, Nat.reduceAdd, Nat.reduceMul, Nat.reduceSub]
      exact Runs.ret_eq (by simp [onZ])
    · have hx : x ≠ 0 := by simpa using h
      simp +decide only [go_sem, Nat.reduceAdd, Nat.reduceMul, Nat.reduceSub]
      exact Runs.ret_eq (by simp [onZ, hx])
  · subst h
    have c1 := within hm x 0 (p - 1)
    have c2 := within hm y 0 (p - 1)
    simp +decide only [go_sem, Nat.reduceAdd, Nat.reduceMul, Nat.reduceSub]
    cases e1 : inB x 0 (p - 1) with
    | false =>
      rw [e1] at c1
      have e : onZ p a b ⟨x, y, false⟩ = false := by simp [inB] at e1; simp [onZ]; omega
      refine Runs.draw (st1 := ?s1) (draws_ref (ann := []) tabOk (byL [] [1000002, 1000003]) ipS (by kernel_rfl) ?p1) ?q1
      case p1 =>
        intro K r X hK
        simp +decide (maxSteps := 9^7) (disch := first | omega | (simp only [ll]; omega)) only [if_pos, go_sem, Nat.reduceAdd, Nat.reduceMul, Nat.reduceSub]
        refine Runs.call c1 ?_
        simp +decide (maxSteps := 9^7) (disch := first | omega | (simp only [ll]; omega)) only [if_pos, go_sem, Nat.reduceAdd, Nat.reduceMul, Nat.reduceSub]
        exact hK
      case q1 =>
        simp +decide only [go_sem, Nat.reduceAdd, Nat.reduceMul, Nat.reduceSub]
        exact Runs.ret_eq (by rw [e])
    | true =>
      have hx : 0 ≤ x ∧ x < p := by simp [inB] at e1; omega
      rw [e1] at c1
      cases e2 : inB y 0 (p - 1) with
      | false =>
        rw [e2] at c2
        have e : onZ p a b ⟨x, y, false⟩ = false := by simp [inB] at e2; simp [onZ]; omega
        refine Runs.draw (st1 := ?s2) (draws_ref (ann := []) tabOk (byL [] [1000002, 1000003]) ipS (by kernel_rfl) ?p2) ?q2
        case p2 =>
          intro K r X hK
          simp +decide (maxSteps := 9^7) (disch := first | omega | (simp only [ll]; omega)) only [if_pos, go_sem, Nat.reduceAdd, Nat.reduceMul, Nat.reduceSub]
          refine Runs.call c1 ?_
          simp +decide (maxSteps := 9^7) (disch := first | omega | (simp only [ll]; omega)) only [if_pos, go_sem, Nat.reduceAdd, Nat.reduceMul, Nat.reduceSub]
          refine Runs.call c2 ?_
          simp +decide (maxSteps := 9^7) (disch := first | omega | (simp only [ll]; omega)) only [if_pos, go_sem, Nat.reduceAdd, Nat.reduceMul, Nat.reduceSub]
          exact hK
        case q2 =>
          simp +decide only [go_sem, Nat.reduceAdd, Nat.reduceMul, Nat.reduceSub]
          exact Runs.ret_eq (by rw [e])
      | true =>
        rw [e2] at c2
        have hy : 0 ≤ y ∧ y < p := by simp [inB] at e2; omega
        have b1 := mul_in hy hy (by omega)
        have b2 := mul_in hx hx (by omega)
        have w1 : IntKind.i64.wrap (y * y) = y * y := wrap_i64 (by omega) (by omega)
        have w2 : IntKind.i64.wrap (x * x) = x * x := wrap_i64 (by omega) (by omega)
        have t1 : (y * y).tmod p = y * y % p := Int.tmod_eq_emod_of_nonneg b1.1
        have w3 : IntKind.i64.wrap (x * x + a) = x * x + a := wrap_i64 (by omega) (by omega)
        have t2 : (x * x + a).tmod p = (x * x + a) % p := Int.tmod_eq_emod_of_nonneg (by omega)
        have m1 := mod_in' (show 0 < p by omega) (x * x + a)
        have b3 := mul_in (m := 2097152) (show 0 ≤ (x * x + a) % p ∧ (x * x + a) % p < 2097152 by omega) (show 0 ≤ x ∧ x < 2097152 by omega) (by omega)
        have w4 : IntKind.i64.wrap ((x * x + a) % p * x) = (x * x + a) % p * x := wrap_i64 (by omega) (by omega)
        have w5 : IntKind.i64.wrap ((x * x + a) % p * x + b) = (x * x + a) % p * x + b := wrap_i64 (by omega) (by omega)
        have t3 : ((x * x + a) % p * x + b).tmod p = ((x * x + a) % p * x + b) % p := Int.tmod_eq_emod_of_nonneg (by omega)
        refine Runs.draw (st1 := ?s3) (draws_ref (ann := []) tabOk (byL [] [1000002, 1000003]) ipS (by kernel_rfl) ?p3) ?q3
        case p3 =>
          intro K r X hK
          simp +decide (maxSteps := 9^7) (disch := first | omega | (simp only [ll]; omega)) only [if_pos, go_sem, Nat.reduceAdd, Nat.reduceMul, Nat.reduceSub]
          refine Runs.call c1 ?_
          simp +decide (maxSteps := 9^7) (disch := first | omega | (simp only [ll]; omega)) only [if_pos, go_sem, Nat.reduceAdd, Nat.reduceMul, Nat.reduceSub]
          refine Runs.call c2 ?_
          simp +decide (maxSteps := 9^7) (disch := first | omega | (simp only [ll]; omega)) only [w1, w2, w3, w4, w5, t1, t2, t3, if_pos, go_sem, Nat.reduceAdd, Nat.reduceMul, Nat.reduceSub]
          exact hK
        case q3 =>
          simp +decide only [go_sem, Nat.reduceAdd, Nat.reduceMul, Nat.reduceSub]
          have e3 := mod_on x a b p
          exact Runs.ret_eq (by rw [e3]; simp [onZ, hx, hy]; omega)
include hm in
theorem baseP (k : GCv) : Holds Tryz.prog 193 [cvA k] [] (ptA ⟨k.gx, k.gy, false⟩) [] := by
  refine holds_ref (ann := []) tabOk hm (byL [] [1000001]) Tryz.func193 (by kernel_rfl) rfl ?_
  simp +decide only [Tryz.f193, go_sem, Nat.reduceAdd, Nat.reduceMul, Nat.reduceSub]
  exact Runs.ret_refl
end Go.Proofs.W

namespace Go.Proofs.W
open Go Go.AM Go.Proofs.G
variable (hm : Tryz.prog.follows .mixedOrders = true)
attribute [local go_sem] cvA ptA
def sumEnd (p : Int) (a b : GPt) (s : Int) : GPt := ⟨(s * s - a.x - b.x) % p, (s * (a.x - (s * s - a.x - b.x) % p) - a.y) % p, false⟩
theorem sumEnd_in {p : Int} (h : 0 < p) (a b : GPt) (s : Int) : PtIn p (sumEnd p a b s) := ⟨mod_in' h _, mod_in' h _⟩
theorem addZ_in {p A : Int} (h : 0 < p) {a b : GPt} (ha : PtIn p a) (hb : PtIn p b) : PtIn p (addZ p A a b) := by
  unfold addZ
  split
  · exact hb
  · split
    · exact ha
    · split
      · exact ⟨⟨by show (0 : Int) ≤ 0; omega, by show (0 : Int) < p; omega⟩, ⟨by show (0 : Int) ≤ 0; omega, by show (0 : Int) < p; omega⟩⟩
      · exact sumEnd_in h a b _
theorem sumZ_in {p A : Int} (h : 0 < p) {a b : GPt} (ha : PtIn p a) (hb : PtIn p b) : PtIn p (sumZ p A a b) := by
  unfold sumZ
  split
  · exact hb
  · split
    · exact ha
    · split
      · exact ⟨⟨by show (0 : Int) ≤ 0; omega, by show (0 : Int) < p; omega⟩, ⟨by show (0 : Int) ≤ 0; omega, by show (0 : Int) < p; omega⟩⟩
      · exact sumEnd_in h a b _
theorem mul_sg {a b m : Int} (h1 : 0 ≤ a ∧ a < m) (h2 : -m < b ∧ b < m) (hm : m ≤ 2097152) : -4398046511104 ≤ a * b ∧ a * b ≤ 4398046511104 := by
  rcases Int.le_total 0 b with h | h
  · have := mul_in h1 (show 0 ≤ b ∧ b < m by omega) hm
    omega
  · have := mul_in h1 (show 0 ≤ -b ∧ -b < m by omega) hm
    have e : a * -b = -(a * b) := by grind
    omega
theorem farPt : ptA farP = .agg [.v (.int .i64 0), .v (.int .i64 0), .v (.bool true)] := rfl
def laA : Sched := .take 0 (.take 3 (.take 6 (.take 9 (.take 12 (.take 15 (.take 18 (.take 22 (.ld 1 (.take 2 (.ld 4 (.take 5 (.ld 7 (.take 8 (.ld 10 (.take 11 (.ld 13 (.take 14 (.ld 16 (.take 17 (.ld 19 (.ld 23 (.alt 20 (.take 21 (.take 24 (.take 25 .fin))) .nil))))))))))))))))))))))
def laB : Sched := .take 0 (.take 2 (.take 5 (.take 8 (.take 10 (.take 13 (.take 17 (.ld 1 (.ld 3 (.take 4 (.ld 6 (.ld 9 (.ld 11 (.take 12 (.ld 14 (.ld 18 (.alt 7 (.alt 15 (.take 16 (.take 19 (.take 20 .fin))) .nil) .nil))))))))))))))))
attribute [local go_sem] laA laB
set_option maxRecDepth 10000 in
set_option maxHeartbeats 4000000 in
include hm in
theorem l3Add (k : GCv) (P Q : GPt) (hk : CvIn k) (hP : PtIn k.p P) (hQ : PtIn k.p Q) : Holds Tryz.prog 132 [cvA k, ptA P, ptA Q] [] (ptA (addZ k.p k.a P Q)) [] := by
  refine holds_ref (ann := []) tabOk hm (byL [] [1000003, 1000004, 1000005]) Tryz.func132 (by kernel_rfl) rfl ?_
  obtain ⟨p, a, b, n, gx, gy⟩ := k
  obtain ⟨x, y, far⟩ := P
  obtain ⟨u, v, far'⟩ := Q
  obtain ⟨h1, h2, h3, h4⟩ := hk
  obtain ⟨hx, hy⟩ := hP
  obtain ⟨hu, hv⟩ := hQ
  simp only at h1 h2 h3 h4 hx hy hu hv
  simp +decide only [Tryz.f132, go_sem, Nat.reduceAdd, Nat.reduceMul, Nat.reduceSub]
  refine Runs.split (fun h => ?_) (fun h => ?_)
  · subst h
    simp +decide only [go_sem, Nat.reduceAdd, Nat.reduceMul, Nat.reduceSub]
    exact Runs.ret_eq (by simp [addZ, ptA])
  · subst h
    simp +decide only [go_sem, Nat.reduceAdd, Nat.reduceMul, Nat.reduceSub]
    refine Runs.split (fun h => ?_) (fun h => ?_)
    · subst h
      simp +decide only [go_sem, Nat.reduceAdd, Nat.reduceMul, Nat.reduceSub]
      exact Runs.ret_eq (by simp [addZ, ptA])
    · subst h
      by_cases e : x = u
      · subst e
        simp +decide (disch := first | omega | (simp only [ll]; omega)) only [Int.tmod_eq_emod_of_nonneg, if_pos, go_sem, Nat.reduceAdd, Nat.reduceMul, Nat.reduceSub]
        refine Runs.split (fun h => ?_) (fun h => ?_)
        · have h' : (y + v) % p = 0 := by simpa using h
          simp +decide only [go_sem, Nat.reduceAdd, Nat.reduceMul, Nat.reduceSub]
          exact Runs.ret_eq (by simp [addZ, ptA, farP, h'])
        · have h' : (y + v) % p ≠ 0 := by simpa using h
          have m1 := mod_in' (show 0 < p by omega) (3 * x)
          have b1 := mul_in m1 hx (by omega)
          have m2 := mod_in' (show 0 < p by omega) (3 * x % p * x + a)
          have m3 := invI_range (a := 2 * y) (m := p) (by omega)
          have b2 := mul_in m2 m3 (by omega)
          simp +decide only [go_sem, Nat.reduceAdd, Nat.reduceMul, Nat.reduceSub]
          refine Runs.draw (st1 := ?s1) (draws_ref (ann := []) tabOk (byL [] [1000003, 1000004, 1000005]) laA (by kernel_rfl) ?p1) ?q1
          case p1 =>
            intro K r X hK
            simp +decide (maxSteps := 9^7) (disch := first | omega | (simp only [ll]; omega)) only [Int.tmod_eq_emod_of_nonneg, if_pos, go_sem, Nat.reduceAdd, Nat.reduceMul, Nat.reduceSub]
            refine Runs.call (l2Inv hm (2 * y) p (by omega) (by omega)) ?_
            simp +decide (maxSteps := 9^7) (disch := first | omega | (simp only [ll]; omega)) only [Int.tmod_eq_emod_of_nonneg, if_pos, go_sem, Nat.reduceAdd, Nat.reduceMul, Nat.reduceSub]
            exact hK
          case q1 =>
            have ev : addZ p a ⟨x, y, false⟩ ⟨x, v, false⟩ = sumEnd p ⟨x, y, false⟩ ⟨x, v, false⟩ ((3 * x % p * x + a) % p * invI (2 * y) p % p) := by simp [addZ, h', sumEnd]
            rw [ev]
            simp only [sumEnd]
            have m0 := mod_in' (show 0 < p by omega) ((3 * x % p * x + a) % p * invI (2 * y) p)
            generalize ((3 * x % p * x + a) % p * invI (2 * y) p) % p = s at *
            have q1 := mul_in m0 m0 (by omega)
            have m2 := mod_in' (show 0 < p by omega) (s * s - x - x)
            have q2 := mul_sg (b := x - (s * s - x - x) % p) m0 (by omega) (by omega)
            simp +decide (maxSteps := 9^7) (disch := first | omega | (simp only [ll]; omega)) only [if_pos, go_sem, Nat.reduceAdd, Nat.reduceMul, Nat.reduceSub]
            refine Runs.call (l2Left hm (s * s - x - x) p (by omega) (by omega)) ?_
            generalize hX : (s * s - x - x) % p = X at *
            simp +decide (maxSteps := 9^7) (disch := first | omega | (simp only [ll]; omega)) only [if_pos, go_sem, Nat.reduceAdd, Nat.reduceMul, Nat.reduceSub]
            refine Runs.call (l2Left hm (s * (x - X) - y) p (by omega) (by omega)) ?_
            simp +decide (maxSteps := 9^7) (disch := first | omega | (simp only [ll]; omega)) only [if_pos, go_sem, Nat.reduceAdd, Nat.reduceMul, Nat.reduceSub]
            exact Runs.ret_eq (by simp [ptA, hX])
      · simp +decide (disch := first | omega | (simp only [ll]; omega)) only [e, if_pos, go_sem, Nat.reduceAdd, Nat.reduceMul, Nat.reduceSub]
        have m1 := mod_in' (show 0 < p by omega) (v - y)
        have m3 := invI_range (a := u - x) (m := p) (by omega)
        have b2 := mul_in m1 m3 (by omega)
        refine Runs.draw (st1 := ?s2) (draws_ref (ann := []) tabOk (byL [] [1000003, 1000004, 1000005]) laB (by kernel_rfl) ?p2) ?q2
        case p2 =>
          intro K r X hK
          simp +decide (maxSteps := 9^7) (disch := first | omega | (simp only [ll]; omega)) only [Int.tmod_eq_emod_of_nonneg, if_pos, go_sem, Nat.reduceAdd, Nat.reduceMul, Nat.reduceSub]
          refine Runs.call (l2Left hm (v - y) p (by omega) (by omega)) ?_
          simp +decide (maxSteps := 9^7) (disch := first | omega | (simp only [ll]; omega)) only [Int.tmod_eq_emod_of_nonneg, if_pos, go_sem, Nat.reduceAdd, Nat.reduceMul, Nat.reduceSub]
          refine Runs.call (l2Inv hm (u - x) p (by omega) (by omega)) ?_
          simp +decide (maxSteps := 9^7) (disch := first | omega | (simp only [ll]; omega)) only [Int.tmod_eq_emod_of_nonneg, if_pos, go_sem, Nat.reduceAdd, Nat.reduceMul, Nat.reduceSub]
          exact hK
        case q2 =>
          have ev : addZ p a ⟨x, y, false⟩ ⟨u, v, false⟩ = sumEnd p ⟨x, y, false⟩ ⟨u, v, false⟩ ((v - y) % p * invI (u - x) p % p) := by simp [addZ, e, sumEnd]
          rw [ev]
          simp only [sumEnd]
          have m0 := mod_in' (show 0 < p by omega) ((v - y) % p * invI (u - x) p)
          generalize ((v - y) % p * invI (u - x) p) % p = s at *
          have q1 := mul_in m0 m0 (by omega)
          have m2 := mod_in' (show 0 < p by omega) (s * s - x - u)
          have q2 := mul_sg (b := x - (s * s - x - u) % p) m0 (by omega) (by omega)
          simp +decide (maxSteps := 9^7) (disch := first | omega | (simp only [ll]; omega)) only [if_pos, go_sem, Nat.reduceAdd, Nat.reduceMul, Nat.reduceSub]
          refine Runs.call (l2Left hm (s * s - x - u) p (by omega) (by omega)) ?_
          generalize hX : (s * s - x - u) % p = X at *
          simp +decide (maxSteps := 9^7) (disch := first | omega | (simp only [ll]; omega)) only [if_pos, go_sem, Nat.reduceAdd, Nat.reduceMul, Nat.reduceSub]
          refine Runs.call (l2Left hm (s * (x - X) - y) p (by omega) (by omega)) ?_
          simp +decide (maxSteps := 9^7) (disch := first | omega | (simp only [ll]; omega)) only [if_pos, go_sem, Nat.reduceAdd, Nat.reduceMul, Nat.reduceSub]
          exact Runs.ret_eq (by simp [ptA, hX])
def suA : Sched := .take 0 (.take 2 (.take 5 (.take 7 (.ld 1 (.ld 3 (.take 4 (.take 10 (.ld 6 (.ld 8 (.take 9 (.take 11 .fin)))))))))))
def suB : Sched := .take 0 (.take 3 (.take 6 (.take 9 (.ld 1 (.take 2 (.ld 4 (.take 5 (.ld 7 (.take 8 (.take 12 (.ld 10 (.take 11 (.take 13 .fin)))))))))))))
def suC : Sched := .take 0 (.take 1 (.take 4 (.take 6 (.ld 2 (.ld 7 (.alt 3 (.take 5 (.take 8 (.take 9 .fin))) .nil))))))
attribute [local go_sem] suA suB suC
set_option maxRecDepth 10000 in
set_option maxHeartbeats 4000000 in
include hm in
theorem sumC (k : GCv) (P Q : GPt) (hk : CvIn k) (hP : PtIn k.p P) (hQ : PtIn k.p Q) : Holds Tryz.prog 156 [cvA k, ptA P, ptA Q] [] (ptA (sumZ k.p k.a P Q)) [] := by
  refine holds_ref (ann := []) tabOk hm (byL [] [1000003, 1000004, 1000005]) Tryz.func156 (by kernel_rfl) rfl ?_
  obtain ⟨p, a, b, n, gx, gy⟩ := k
  obtain ⟨x, y, far⟩ := P
  obtain ⟨u, v, far'⟩ := Q
  obtain ⟨h1, h2, h3, h4⟩ := hk
  obtain ⟨hx, hy⟩ := hP
  obtain ⟨hu, hv⟩ := hQ
  simp only at h1 h2 h3 h4 hx hy hu hv
  simp +decide only [Tryz.f156, go_sem, Nat.reduceAdd, Nat.reduceMul, Nat.reduceSub]
  refine Runs.split (fun h => ?_) (fun h => ?_)
  · subst h
    simp +decide only [go_sem, Nat.reduceAdd, Nat.reduceMul, Nat.reduceSub]
    exact Runs.ret_eq (by simp [sumZ, ptA])
  · subst h
    simp +decide only [go_sem, Nat.reduceAdd, Nat.reduceMul, Nat.reduceSub]
    refine Runs.split (fun h => ?_) (fun h => ?_)
    · subst h
      simp +decide only [go_sem, Nat.reduceAdd, Nat.reduceMul, Nat.reduceSub]
      exact Runs.ret_eq (by simp [sumZ, ptA])
    · subst h
      by_cases e : x = u
      · subst e
        simp +decide (disch := first | omega | (simp only [ll]; omega)) only [Int.tmod_eq_emod_of_nonneg, if_pos, go_sem, Nat.reduceAdd, Nat.reduceMul, Nat.reduceSub]
        refine Runs.split (fun h => ?_) (fun h => ?_)
        · have h' : (y + v) % p = 0 := by simpa using h
          simp +decide only [go_sem, Nat.reduceAdd, Nat.reduceMul, Nat.reduceSub]
          exact Runs.ret_eq (by simp [sumZ, ptA, farP, h'])
        · have h' : (y + v) % p ≠ 0 := by simpa using h
          simp +decide only [go_sem, Nat.reduceAdd, Nat.reduceMul, Nat.reduceSub]
          refine Runs.draw (st1 := ?s1) (draws_ref (ann := []) tabOk (byL [] [1000003, 1000004, 1000005]) suA (by kernel_rfl) ?p1) ?q1
          case p1 =>
            intro K r X hK
            simp +decide (maxSteps := 9^7) (disch := first | omega | (simp only [ll]; omega)) only [if_pos, go_sem, Nat.reduceAdd, Nat.reduceMul, Nat.reduceSub]
            exact hK
          case q1 =>
            by_cases e2 : y = v
            · subst e2
              have b0 := mul_in hx hx (by omega)
              have b1 : 3 * x * x = 3 * (x * x) := Int.mul_assoc 3 x x
              simp +decide (maxSteps := 9^7) (disch := first | omega | (simp only [ll]; omega)) only [if_pos, go_sem, Nat.reduceAdd, Nat.reduceMul, Nat.reduceSub]
              refine Runs.draw (st1 := ?s2) (draws_ref (ann := []) tabOk (byL [] [1000003, 1000004, 1000005]) suB (by kernel_rfl) ?p2) ?q2
              case p2 =>
                intro K r X hK
                simp +decide (maxSteps := 9^7) (disch := first | omega | (simp only [ll]; omega)) only [if_pos, go_sem, Nat.reduceAdd, Nat.reduceMul, Nat.reduceSub]
                exact hK
              case q2 =>
                simp +decide (maxSteps := 9^7) (disch := first | omega | (simp only [ll]; omega)) only [Int.tmod_eq_emod_of_nonneg, if_pos, go_sem, Nat.reduceAdd, Nat.reduceMul, Nat.reduceSub]
                have m1 := mod_in' (show 0 < p by omega) (3 * x * x + a)
                have m3 := invI_range (a := 2 * y) (m := p) (by omega)
                have b2 := mul_in m1 m3 (by omega)
                refine Runs.call (invInt hm (2 * y) p (by omega) (by omega)) ?_
                simp +decide (maxSteps := 9^7) (disch := first | omega | (simp only [ll]; omega)) only [if_pos, go_sem, Nat.reduceAdd, Nat.reduceMul, Nat.reduceSub]
                refine Runs.draw (st1 := ?t1s) (draws_ref (ann := []) tabOk (byL [] [1000003, 1000004, 1000005]) suC (by kernel_rfl) ?t1p) ?t1q
                case t1p =>
                  intro K r X hK
                  simp +decide (maxSteps := 9^7) (disch := first | omega | (simp only [ll]; omega)) only [Int.tmod_eq_emod_of_nonneg, if_pos, go_sem, Nat.reduceAdd, Nat.reduceMul, Nat.reduceSub]
                  refine Runs.call (rest hm (3 * x * x + a) p (by omega) (by omega)) ?_
                  simp +decide (maxSteps := 9^7) (disch := first | omega | (simp only [ll]; omega)) only [Int.tmod_eq_emod_of_nonneg, if_pos, go_sem, Nat.reduceAdd, Nat.reduceMul, Nat.reduceSub]
                  exact hK
                case t1q =>
                  have ev : sumZ p a ⟨x, y, false⟩ ⟨x, y, false⟩ = sumEnd p ⟨x, y, false⟩ ⟨x, y, false⟩ ((3 * x * x + a) % p * invI (2 * y) p % p) := by simp [sumZ, h', sumEnd]
                  rw [ev]
                  simp only [sumEnd]
                  have m0 := mod_in' (show 0 < p by omega) ((3 * x * x + a) % p * invI (2 * y) p)
                  generalize (3 * x * x + a) % p * invI (2 * y) p % p = s at *
                  have q1 := mul_in m0 m0 (by omega)
                  have m2 := mod_in' (show 0 < p by omega) (s * s - x - x)
                  have q2 := mul_sg (b := x - (s * s - x - x) % p) m0 (by omega) (by omega)
                  simp +decide (maxSteps := 9^7) (disch := first | omega | (simp only [ll]; omega)) only [if_pos, go_sem, Nat.reduceAdd, Nat.reduceMul, Nat.reduceSub]
                  refine Runs.call (rest hm (s * s - x - x) p (by omega) (by omega)) ?_
                  generalize hX : (s * s - x - x) % p = X at *
                  simp +decide (maxSteps := 9^7) (disch := first | omega | (simp only [ll]; omega)) only [if_pos, go_sem, Nat.reduceAdd, Nat.reduceMul, Nat.reduceSub]
                  refine Runs.call (rest hm (s * (x - X) - y) p (by omega) (by omega)) ?_
                  simp +decide (maxSteps := 9^7) (disch := first | omega | (simp only [ll]; omega)) only [if_pos, go_sem, Nat.reduceAdd, Nat.reduceMul, Nat.reduceSub]
                  exact Runs.ret_eq (by simp [ptA, hX])
            · simp +decide (maxSteps := 9^7) (disch := first | omega | (simp only [ll]; omega)) only [e2, Int.tmod_eq_emod_of_nonneg, if_pos, go_sem, Nat.reduceAdd, Nat.reduceMul, Nat.reduceSub]
              have m1 := mod_in' (show 0 < p by omega) (v - y)
              have m3 := invI_range (a := x - x) (m := p) (by omega)
              have b2 := mul_in m1 m3 (by omega)
              refine Runs.call (invInt hm (x - x) p (by omega) (by omega)) ?_
              simp +decide (maxSteps := 9^7) (disch := first | omega | (simp only [ll]; omega)) only [if_pos, go_sem, Nat.reduceAdd, Nat.reduceMul, Nat.reduceSub]
              refine Runs.draw (st1 := ?t2s) (draws_ref (ann := []) tabOk (byL [] [1000003, 1000004, 1000005]) suC (by kernel_rfl) ?t2p) ?t2q
              case t2p =>
                intro K r X hK
                simp +decide (maxSteps := 9^7) (disch := first | omega | (simp only [ll]; omega)) only [Int.tmod_eq_emod_of_nonneg, if_pos, go_sem, Nat.reduceAdd, Nat.reduceMul, Nat.reduceSub]
                refine Runs.call (rest hm (v - y) p (by omega) (by omega)) ?_
                simp +decide (maxSteps := 9^7) (disch := first | omega | (simp only [ll]; omega)) only [Int.tmod_eq_emod_of_nonneg, if_pos, go_sem, Nat.reduceAdd, Nat.reduceMul, Nat.reduceSub]
                exact hK
              case t2q =>
                have ev : sumZ p a ⟨x, y, false⟩ ⟨x, v, false⟩ = sumEnd p ⟨x, y, false⟩ ⟨x, v, false⟩ ((v - y) % p * invI (x - x) p % p) := by simp [sumZ, h', sumEnd, e2]
                rw [ev]
                simp only [sumEnd]
                have m0 := mod_in' (show 0 < p by omega) ((v - y) % p * invI (x - x) p)
                generalize (v - y) % p * invI (x - x) p % p = s at *
                have q1 := mul_in m0 m0 (by omega)
                have m2 := mod_in' (show 0 < p by omega) (s * s - x - x)
                have q2 := mul_sg (b := x - (s * s - x - x) % p) m0 (by omega) (by omega)
                simp +decide (maxSteps := 9^7) (disch := first | omega | (simp only [ll]; omega)) only [if_pos, go_sem, Nat.reduceAdd, Nat.reduceMul, Nat.reduceSub]
                refine Runs.call (rest hm (s * s - x - x) p (by omega) (by omega)) ?_
                generalize hX : (s * s - x - x) % p = X at *
                simp +decide (maxSteps := 9^7) (disch := first | omega | (simp only [ll]; omega)) only [if_pos, go_sem, Nat.reduceAdd, Nat.reduceMul, Nat.reduceSub]
                refine Runs.call (rest hm (s * (x - X) - y) p (by omega) (by omega)) ?_
                simp +decide (maxSteps := 9^7) (disch := first | omega | (simp only [ll]; omega)) only [if_pos, go_sem, Nat.reduceAdd, Nat.reduceMul, Nat.reduceSub]
                exact Runs.ret_eq (by simp [ptA, hX])
      · simp +decide (disch := first | omega | (simp only [ll]; omega)) only [e, if_pos, go_sem, Nat.reduceAdd, Nat.reduceMul, Nat.reduceSub]
        refine Runs.draw (st1 := ?s3) (draws_ref (ann := []) tabOk (byL [] [1000003, 1000004, 1000005]) suA (by kernel_rfl) ?p3) ?q3
        case p3 =>
          intro K r X hK
          simp +decide (maxSteps := 9^7) (disch := first | omega | (simp only [ll]; omega)) only [if_pos, go_sem, Nat.reduceAdd, Nat.reduceMul, Nat.reduceSub]
          exact hK
        case q3 =>
          simp +decide (maxSteps := 9^7) (disch := first | omega | (simp only [ll]; omega)) only [e, Int.tmod_eq_emod_of_nonneg, if_pos, go_sem, Nat.reduceAdd, Nat.reduceMul, Nat.reduceSub]
          have m1 := mod_in' (show 0 < p by omega) (v - y)
          have m3 := invI_range (a := u - x) (m := p) (by omega)
          have b2 := mul_in m1 m3 (by omega)
          refine Runs.call (invInt hm (u - x) p (by omega) (by omega)) ?_
          simp +decide (maxSteps := 9^7) (disch := first | omega | (simp only [ll]; omega)) only [if_pos, go_sem, Nat.reduceAdd, Nat.reduceMul, Nat.reduceSub]
          refine Runs.draw (st1 := ?t3s) (draws_ref (ann := []) tabOk (byL [] [1000003, 1000004, 1000005]) suC (by kernel_rfl) ?t3p) ?t3q
          case t3p =>
            intro K r X hK
            simp +decide (maxSteps := 9^7) (disch := first | omega | (simp only [ll]; omega)) only [Int.tmod_eq_emod_of_nonneg, if_pos, go_sem, Nat.reduceAdd, Nat.reduceMul, Nat.reduceSub]
            refine Runs.call (rest hm (v - y) p (by omega) (by omega)) ?_
            simp +decide (maxSteps := 9^7) (disch := first | omega | (simp only [ll]; omega)) only [Int.tmod_eq_emod_of_nonneg, if_pos, go_sem, Nat.reduceAdd, Nat.reduceMul, Nat.reduceSub]
            exact hK
          case t3q =>
            have ev : sumZ p a ⟨x, y, false⟩ ⟨u, v, false⟩ = sumEnd p ⟨x, y, false⟩ ⟨u, v, false⟩ ((v - y) % p * invI (u - x) p % p) := by simp [sumZ, e, sumEnd]
            rw [ev]
            simp only [sumEnd]
            have m0 := mod_in' (show 0 < p by omega) ((v - y) % p * invI (u - x) p)
            generalize (v - y) % p * invI (u - x) p % p = s at *
            have q1 := mul_in m0 m0 (by omega)
            have m2 := mod_in' (show 0 < p by omega) (s * s - x - u)
            have q2 := mul_sg (b := x - (s * s - x - u) % p) m0 (by omega) (by omega)
            simp +decide (maxSteps := 9^7) (disch := first | omega | (simp only [ll]; omega)) only [if_pos, go_sem, Nat.reduceAdd, Nat.reduceMul, Nat.reduceSub]
            refine Runs.call (rest hm (s * s - x - u) p (by omega) (by omega)) ?_
            generalize hX : (s * s - x - u) % p = X at *
            simp +decide (maxSteps := 9^7) (disch := first | omega | (simp only [ll]; omega)) only [if_pos, go_sem, Nat.reduceAdd, Nat.reduceMul, Nat.reduceSub]
            refine Runs.call (rest hm (s * (x - X) - y) p (by omega) (by omega)) ?_
            simp +decide (maxSteps := 9^7) (disch := first | omega | (simp only [ll]; omega)) only [if_pos, go_sem, Nat.reduceAdd, Nat.reduceMul, Nat.reduceSub]
            exact Runs.ret_eq (by simp [ptA, hX])
end Go.Proofs.W

namespace Go.Proofs.W
open Go Go.AM Go.Proofs.G
variable (hm : Tryz.prog.follows .mixedOrders = true)
attribute [local go_sem] cvA ptA
def zPt : A := .agg [.v (.int .i64 0), .v (.int .i64 0), .v (.bool false)]
theorem far_in {p : Int} (h : 0 < p) : PtIn p farP := ⟨⟨by show (0 : Int) ≤ 0; omega, by show (0 : Int) < p; omega⟩, ⟨by show (0 : Int) ≤ 0; omega, by show (0 : Int) < p; omega⟩⟩
def lmAnn : Ann := [(0, [1, 3, 5, 6, 7])]
def lmSt (k : GCv) (p : Nat × GPt × GPt) : St := ⟨[.any, .v (.int .i64 p.1), .any, .ptr [cvA k] 0 0, .any, .ref (.l 0) 0 0 1, .ref (.l 1) 0 0 1, .ref (.l 2) 0 0 1, .any, .any, .any, .any, .any, .any, .any, .any, .any, .any, .any, .any, .any, .any, .any, .any, .any], [(0, ⟨true, 3, true, [ptA p.2.2]⟩), (1, ⟨true, 3, true, [zPt]⟩), (2, ⟨true, 3, true, [ptA p.2.1]⟩)], []⟩
set_option maxRecDepth 10000 in
set_option maxHeartbeats 4000000 in
include hm in
theorem l3Mul (k : GCv) (n : Nat) (P : GPt) (hk : CvIn k) (hP : PtIn k.p P) (hn : n ≤ 9223372036854775807) : Holds Tryz.prog 89 [cvA k, .v (.int .i64 n), ptA P] [] (ptA (mulL (addZ k.p k.a) n farP P)) [] := by
  refine holds_ref (ann := lmAnn) tabOk hm (byL [] [1000003]) Tryz.func89 (by kernel_rfl) rfl ?_
  have hp : 0 < k.p := by have := hk.1; omega
  simp +decide only [Tryz.f89, go_sem, Nat.reduceAdd, Nat.reduceMul, Nat.reduceSub]
  refine Runs.while (α := Nat × GPt × GPt) (lmSt k) (fun p => p.1) (fun p => p.1 ≤ n ∧ PtIn k.p p.2.1 ∧ PtIn k.p p.2.2 ∧ mulL (addZ k.p k.a) p.1 p.2.1 p.2.2 = mulL (addZ k.p k.a) n farP P) (n, farP, P) ⟨Nat.le_refl _, far_in hp, hP, rfl⟩ ?_ ?_
  · simp [go_sem, lmAnn, lmSt, farP, zPt]
  · rintro ⟨i, out, a⟩ ⟨hi, ho, ha, hg⟩ ih
    simp only at hi ho ha hg
    have e3 := tmod_nat i 2
    have e4 := tdiv_nat i 2
    have w3 : IntKind.i64.wrap ((i / 2 : Nat) : Int) = ((i / 2 : Nat) : Int) := wrap_i64 (by omega) (by omega)
    have c1 := l3Add hm k out a hk ho ha
    have c2 := l3Add hm k a a hk ha ha
    have o1 := addZ_in (A := k.a) hp ho ha
    have o2 := addZ_in (A := k.a) hp ha ha
    simp +decide only [lmSt, zPt, go_sem, Nat.reduceAdd, Nat.reduceMul, Nat.reduceSub]
    refine Runs.split (fun h => ?_) (fun h => ?_)
    · have hs : i ≠ 0 := by simp at h; omega
      rw [mulL_step _ _ _ _ hs] at hg
      simp +decide (disch := first | omega | (simp only [ll]; omega)) only [if_pos, go_sem, Nat.reduceAdd, Nat.reduceMul, Nat.reduceSub]
      rw [show (2 : Int) = ((2 : Nat) : Int) from rfl, e3]
      refine Runs.split (fun h => ?_) (fun h => ?_)
      · have hbit : i % 2 = 1 := by simp at h; omega
        rw [if_pos hbit] at hg
        simp +decide (disch := first | omega | (simp only [ll]; omega)) only [if_pos, go_sem, Nat.reduceAdd, Nat.reduceMul, Nat.reduceSub]
        refine Runs.call c1 ?_
        simp +decide (disch := first | omega | (simp only [ll]; omega)) only [if_pos, go_sem, Nat.reduceAdd, Nat.reduceMul, Nat.reduceSub]
        refine Runs.call c2 ?_
        simp +decide (disch := first | omega | (simp only [ll]; omega)) only [e4, w3, if_pos, go_sem, Nat.reduceAdd, Nat.reduceMul, Nat.reduceSub]
        refine ih (i / 2, addZ k.p k.a out a, addZ k.p k.a a a) _ (by simp only; omega) ⟨by simp only; omega, o1, o2, hg⟩ ?_
        simp [go_sem, lmAnn, lmSt, zPt]
      · have hbit : ¬ i % 2 = 1 := by simp at h; omega
        rw [if_neg hbit] at hg
        simp +decide (disch := first | omega | (simp only [ll]; omega)) only [if_pos, go_sem, Nat.reduceAdd, Nat.reduceMul, Nat.reduceSub]
        refine Runs.call c2 ?_
        simp +decide (disch := first | omega | (simp only [ll]; omega)) only [e4, w3, if_pos, go_sem, Nat.reduceAdd, Nat.reduceMul, Nat.reduceSub]
        refine ih (i / 2, out, addZ k.p k.a a a) _ (by simp only; omega) ⟨by simp only; omega, ho, o2, hg⟩ ?_
        simp [go_sem, lmAnn, lmSt, zPt]
    · have hs : i = 0 := by simp at h; omega
      subst hs
      rw [mulL_zero] at hg
      simp +decide only [go_sem, Nat.reduceAdd, Nat.reduceMul, Nat.reduceSub]
      exact Runs.ret_eq (by rw [← hg])
def tiAnn : Ann := [(0, [1, 3, 5, 6, 7, 8])]
def tiSt (k : GCv) (n : Nat) (P : GPt) (p : Int × GPt) : St := ⟨[.any, .v (.int .i64 n), .any, .ptr [cvA k] 0 0, .any, .ptr [ptA P] 0 0, .ref (.l 0) 0 0 1, .ref (.l 1) 0 0 1, .v (.int .i64 p.1), .any, .any, .any, .any, .any, .any, .any, .any, .any, .any, .any, .any, .any, .any, .any, .any, .any, .any, .any, .any, .any, .any, .any], [(0, ⟨true, 3, true, [zPt]⟩), (1, ⟨true, 3, true, [ptA p.2]⟩)], []⟩
set_option maxRecDepth 10000 in
set_option maxHeartbeats 4000000 in
include hm in
theorem timesC (k : GCv) (n : Nat) (P : GPt) (hk : CvIn k) (hP : PtIn k.p P) (hn : n ≤ 9223372036854775807) : Holds Tryz.prog 116 [cvA k, .v (.int .i64 n), ptA P] [] (ptA (mulM (sumZ k.p k.a) farP n P)) [] := by
  refine holds_ref (ann := tiAnn) tabOk hm (byL [] [1000003, 1000005]) Tryz.func116 (by kernel_rfl) rfl ?_
  have hp : 0 < k.p := by have := hk.1; omega
  have hl : blen n ≤ 63 := blen_le (by omega)
  simp +decide (disch := first | omega | (simp only [ll]; omega)) only [Tryz.f116, if_pos, go_sem, Nat.reduceAdd, Nat.reduceMul, Nat.reduceSub]
  refine Runs.call (bitsLen hm n (by omega)) ?_
  simp +decide (disch := first | omega | (simp only [ll]; omega)) only [if_pos, go_sem, Nat.reduceAdd, Nat.reduceMul, Nat.reduceSub]
  refine Runs.while (α := Int × GPt) (tiSt k n P) (fun p => (p.1 + 1).toNat) (fun p => -1 ≤ p.1 ∧ p.1 ≤ 62 ∧ PtIn k.p p.2 ∧ (p.1 = -1 ∨ 2 ^ p.1.toNat ≤ n) ∧ p.2 = mulM (sumZ k.p k.a) farP (n / 2 ^ (p.1 + 1).toNat) P) ((blen n : Int) - 1, farP) ⟨by simp only; omega, by simp only; omega, far_in hp, ?_, ?_⟩ ?_ ?_
  · simp only
    by_cases hz : n = 0
    · left; subst hz; rw [blen_zero]; rfl
    · right
      have := blen_ge hz
      have hp := blen_pos hz
      have e : ((blen n : Int) - 1).toNat = blen n - 1 := by omega
      rw [e]
      exact this
  · simp only
    have e : ((blen n : Int) - 1 + 1).toNat = blen n := by omega
    rw [e, Nat.div_eq_of_lt blen_lt, mulM_zero]
  · simp [go_sem, tiAnn, tiSt, farP, zPt]
  · rintro ⟨i, out⟩ ⟨hi1, hi2, ho, hi3, hg⟩ ih
    simp only at hi1 hi2 ho hi3 hg
    simp +decide only [tiSt, zPt, go_sem, Nat.reduceAdd, Nat.reduceMul, Nat.reduceSub]
    refine Runs.split (fun h => ?_) (fun h => ?_)
    · have hs : 0 ≤ i := by simpa using h
      obtain ⟨j, rfl⟩ := nat_of hs
      have hk' : 2 ^ j ≤ n := by
        rcases hi3 with h | h
        · omega
        · simpa using h
      have ek : ((j : Int) + 1).toNat = j + 1 := by omega
      rw [ek] at hg
      have hst := mulM_step (sumZ k.p k.a) farP n j P hk'
      rw [← hg] at hst
      have c1 := sumC hm k out out hk ho ho
      have o1 := sumZ_in (A := k.a) hp ho ho
      have c2 := sumC hm k (sumZ k.p k.a out out) P hk o1 hP
      have o2 := sumZ_in (A := k.a) hp o1 hP
      have hq := Nat.div_le_self n (2 ^ j)
      have ea := andI_one (n / 2 ^ j) (by omega)
      have em : min j 64 = j := by omega
      have es := shr_nat n j
      have hpow : j = 0 ∨ 2 ^ (j - 1) ≤ n := by
        rcases Nat.eq_zero_or_pos j with h | h
        · exact .inl h
        · right; exact Nat.le_trans (Nat.pow_le_pow_right (by omega) (by omega)) hk'
      simp +decide (disch := first | omega | (simp only [ll]; omega)) only [if_pos, go_sem, Nat.reduceAdd, Nat.reduceMul, Nat.reduceSub]
      refine Runs.call c1 ?_
      simp +decide (disch := first | omega | (simp only [ll]; omega)) only [em, es, ea, if_pos, go_sem, Nat.reduceAdd, Nat.reduceMul, Nat.reduceSub]
      refine Runs.split (fun h => ?_) (fun h => ?_)
      · have hbit : n / 2 ^ j % 2 = 1 := by simp only [decide_eq_true_eq] at h; omega
        rw [if_pos hbit] at hst
        simp +decide (disch := first | omega | (simp only [ll]; omega)) only [if_pos, go_sem, Nat.reduceAdd, Nat.reduceMul, Nat.reduceSub]
        refine Runs.call c2 ?_
        simp +decide (disch := first | omega | (simp only [ll]; omega)) only [if_pos, go_sem, Nat.reduceAdd, Nat.reduceMul, Nat.reduceSub]
        refine ih ((j : Int) - 1, sumZ k.p k.a (sumZ k.p k.a out out) P) _ (by simp only; omega) ⟨by simp only; omega, by simp only; omega, o2, ?_, ?_⟩ ?_
        · simp only
          rcases hpow with h | h
          · left; omega
          · right
            have e : ((j : Int) - 1).toNat = j - 1 := by omega
            rw [e]; exact h
        · simp only
          have e : ((j : Int) - 1 + 1).toNat = j := by omega
          rw [e, hst]
        · simp [go_sem, tiAnn, tiSt, zPt]
      · have hbit : ¬ n / 2 ^ j % 2 = 1 := by simp only [decide_eq_false_iff_not] at h; omega
        rw [if_neg hbit] at hst
        simp +decide (disch := first | omega | (simp only [ll]; omega)) only [if_pos, go_sem, Nat.reduceAdd, Nat.reduceMul, Nat.reduceSub]
        refine ih ((j : Int) - 1, sumZ k.p k.a out out) _ (by simp only; omega) ⟨by simp only; omega, by simp only; omega, o1, ?_, ?_⟩ ?_
        · simp only
          rcases hpow with h | h
          · left; omega
          · right
            have e : ((j : Int) - 1).toNat = j - 1 := by omega
            rw [e]; exact h
        · simp only
          have e : ((j : Int) - 1 + 1).toNat = j := by omega
          rw [e, hst]
        · simp [go_sem, tiAnn, tiSt, zPt]
    · have hs : i = -1 := by simp at h; omega
      subst hs
      simp at hg
      simp +decide only [go_sem, Nat.reduceAdd, Nat.reduceMul, Nat.reduceSub]
      exact Runs.ret_eq (by rw [← hg])
end Go.Proofs.W

namespace Go.Proofs.W
open Go Go.AM Go.Proofs.G
set_option maxRecDepth 10000
variable (hm : Tryz.prog.follows .mixedOrders = true)
attribute [local go_sem] cvA ptA
noncomputable def curveB (k : GCv) : Bool :=
  inB k.p 5 1048576 && decide (k.p.tmod 4 = 3) && primeZ k.p && inB k.a 0 (k.p - 1) && inB k.b 0 (k.p - 1) && inB k.n 5 2097152 && primeZ k.n &&
  !decide ((4 * (k.a * k.a % k.p) * k.a + 27 * (k.b * k.b % k.p)) % k.p = 0) && onZ k.p k.a k.b ⟨k.gx, k.gy, false⟩ && (mulL (addZ k.p k.a) k.n.toNat farP ⟨k.gx, k.gy, false⟩).far
theorem onZ_in {p A B : Int} {P : GPt} (h0 : 0 < p) (h : onZ p A B P = true) : PtIn p P := by
  unfold onZ at h
  split at h
  · simp only [Bool.and_eq_true, decide_eq_true_eq] at h
    exact ⟨by omega, by omega⟩
  · simp only [Bool.and_eq_true, decide_eq_true_eq] at h
    exact ⟨by omega, by omega⟩
theorem inB_t {n a b : Int} (h : inB n a b = true) : a ≤ n ∧ n ≤ b := by simpa [inB] using h
theorem curve_in {k : GCv} (h : curveB k = true) : CvIn k := by
  simp only [curveB, Bool.and_eq_true] at h
  obtain ⟨⟨⟨⟨⟨⟨⟨⟨⟨c1, _⟩, _⟩, c4⟩, c5⟩, _⟩, _⟩, _⟩, _⟩, _⟩ := h
  have := inB_t c1
  have := inB_t c4
  have := inB_t c5
  exact ⟨by omega, by omega, by omega, by omega⟩
def scS : Sched := .take 0 (.take 2 (.take 5 (.take 9 (.take 12 (.take 14 (.take 17 (.take 22 (.ld 1 (.ld 3 (.take 4 (.ld 6 (.take 7 (.take 8 (.ld 10 (.take 11 (.ld 13 (.ld 15 (.take 16 (.ld 18 (.take 19 (.take 20 (.take 21 (.ld 23 (.take 24 (.take 25 .fin)))))))))))))))))))))))))
attribute [local go_sem] scS
set_option maxHeartbeats 4000000 in
include hm in
theorem sCurveOk (k : GCv) : Holds Tryz.prog 130 [cvA k] [] (.v (.bool (curveB k))) [] := by
  refine holds_ref (ann := []) tabOk hm (byL [] [1000001]) Tryz.func130 (by kernel_rfl) rfl ?_
  have hk : k = ⟨k.p, k.a, k.b, k.n, k.gx, k.gy⟩ := rfl
  obtain ⟨p, a, b, n, gx, gy⟩ := k
  simp +decide only [Tryz.f130, go_sem, Nat.reduceAdd, Nat.reduceMul, Nat.reduceSub]
  refine Runs.call (l1In hm p 5 1048576) ?_
  simp +decide (maxSteps := 9^7) only [go_sem, Nat.reduceAdd, Nat.reduceMul, Nat.reduceSub]
  refine Runs.split (fun c1 => ?_) (fun c1 => ?_)
  · have e : curveB ⟨p, a, b, n, gx, gy⟩ = false := by simp only [Bool.not_eq_true'] at c1; simp [curveB, c1]
    simp +decide (maxSteps := 9^7) only [e, go_sem, Nat.reduceAdd, Nat.reduceMul, Nat.reduceSub]
    exact Runs.ret_v
  simp only [Bool.not_eq_false'] at c1
  obtain ⟨p1, p2⟩ := inB_t c1
  simp +decide (maxSteps := 9^7) (disch := first | omega | (simp only [ll]; omega)) only [if_pos, go_sem, Nat.reduceAdd, Nat.reduceMul, Nat.reduceSub]
  refine Runs.split (fun c2 => ?_) (fun c2 => ?_)
  · have e : curveB ⟨p, a, b, n, gx, gy⟩ = false := by
      have : ¬ p.tmod 4 = 3 := by simpa using c2
      simp [curveB, this]
    simp +decide (maxSteps := 9^7) only [e, go_sem, Nat.reduceAdd, Nat.reduceMul, Nat.reduceSub]
    exact Runs.ret_v
  have c2' : p.tmod 4 = 3 := by simpa using c2
  simp +decide (maxSteps := 9^7) (disch := first | omega | (simp only [ll]; omega)) only [if_pos, go_sem, Nat.reduceAdd, Nat.reduceMul, Nat.reduceSub]
  refine Runs.call (sPrime hm p) ?_
  simp +decide (maxSteps := 9^7) only [go_sem, Nat.reduceAdd, Nat.reduceMul, Nat.reduceSub]
  refine Runs.split (fun c3 => ?_) (fun c3 => ?_)
  · have e : curveB ⟨p, a, b, n, gx, gy⟩ = false := by simp only [Bool.not_eq_true'] at c3; simp [curveB, c3]
    simp +decide (maxSteps := 9^7) only [e, go_sem, Nat.reduceAdd, Nat.reduceMul, Nat.reduceSub]
    exact Runs.ret_v
  simp only [Bool.not_eq_false'] at c3
  simp +decide (maxSteps := 9^7) (disch := first | omega | (simp only [ll]; omega)) only [if_pos, go_sem, Nat.reduceAdd, Nat.reduceMul, Nat.reduceSub]
  refine Runs.call (l1In hm a 0 (p - 1)) ?_
  simp +decide (maxSteps := 9^7) only [go_sem, Nat.reduceAdd, Nat.reduceMul, Nat.reduceSub]
  refine Runs.split (fun c4 => ?_) (fun c4 => ?_)
  · have e : curveB ⟨p, a, b, n, gx, gy⟩ = false := by simp only [Bool.not_eq_true'] at c4; simp [curveB, c4]
    simp +decide (maxSteps := 9^7) only [e, go_sem, Nat.reduceAdd, Nat.reduceMul, Nat.reduceSub]
    exact Runs.ret_v
  simp only [Bool.not_eq_false'] at c4
  simp +decide (maxSteps := 9^7) (disch := first | omega | (simp only [ll]; omega)) only [if_pos, go_sem, Nat.reduceAdd, Nat.reduceMul, Nat.reduceSub]
  refine Runs.call (l1In hm b 0 (p - 1)) ?_
  simp +decide (maxSteps := 9^7) only [go_sem, Nat.reduceAdd, Nat.reduceMul, Nat.reduceSub]
  refine Runs.split (fun c5 => ?_) (fun c5 => ?_)
  · have e : curveB ⟨p, a, b, n, gx, gy⟩ = false := by simp only [Bool.not_eq_true'] at c5; simp [curveB, c5]
    simp +decide (maxSteps := 9^7) only [e, go_sem, Nat.reduceAdd, Nat.reduceMul, Nat.reduceSub]
    exact Runs.ret_v
  simp only [Bool.not_eq_false'] at c5
  simp +decide (maxSteps := 9^7) (disch := first | omega | (simp only [ll]; omega)) only [if_pos, go_sem, Nat.reduceAdd, Nat.reduceMul, Nat.reduceSub]
  refine Runs.call (l1In hm n 5 2097152) ?_
  simp +decide (maxSteps := 9^7) only [go_sem, Nat.reduceAdd, Nat.reduceMul, Nat.reduceSub]
  refine Runs.split (fun c6 => ?_) (fun c6 => ?_)
  · have e : curveB ⟨p, a, b, n, gx, gy⟩ = false := by simp only [Bool.not_eq_true'] at c6; simp [curveB, c6]
    simp +decide (maxSteps := 9^7) only [e, go_sem, Nat.reduceAdd, Nat.reduceMul, Nat.reduceSub]
    exact Runs.ret_v
  simp only [Bool.not_eq_false'] at c6
  simp +decide (maxSteps := 9^7) (disch := first | omega | (simp only [ll]; omega)) only [if_pos, go_sem, Nat.reduceAdd, Nat.reduceMul, Nat.reduceSub]
  refine Runs.call (sPrime hm n) ?_
  simp +decide (maxSteps := 9^7) only [go_sem, Nat.reduceAdd, Nat.reduceMul, Nat.reduceSub]
  refine Runs.split (fun c7 => ?_) (fun c7 => ?_)
  · have e : curveB ⟨p, a, b, n, gx, gy⟩ = false := by simp only [Bool.not_eq_true'] at c7; simp [curveB, c7]
    simp +decide (maxSteps := 9^7) only [e, go_sem, Nat.reduceAdd, Nat.reduceMul, Nat.reduceSub]
    exact Runs.ret_v
  simp only [Bool.not_eq_false'] at c7
  have ia := inB_t c4
  have ib := inB_t c5
  have iN := inB_t c6
  have b1 := mul_in (a := a) (b := a) (m := p) (by omega) (by omega) (by omega)
  have b2 := mul_in (a := b) (b := b) (m := p) (by omega) (by omega) (by omega)
  have m1 := mod_in' (show 0 < p by omega) (a * a)
  have m2 := mod_in' (show 0 < p by omega) (b * b)
  have b3 := mul_in (a := a * a % p) (b := a) (m := p) (by omega) (by omega) (by omega)
  have e3 : 4 * (a * a % p) * a = 4 * (a * a % p * a) := Int.mul_assoc 4 _ _
  have hn : ((n.toNat : Nat) : Int) = n := Int.toNat_of_nonneg (by omega)
  simp +decide (maxSteps := 9^7) (disch := first | omega | (simp only [ll]; omega)) only [if_pos, go_sem, Nat.reduceAdd, Nat.reduceMul, Nat.reduceSub]
  refine Runs.draw (st1 := ?s1) (draws_ref (ann := []) tabOk (byL [] [1000001]) scS (by kernel_rfl) ?p1) ?q1
  case p1 =>
    intro K r X hK
    simp +decide (maxSteps := 9^7) (disch := first | omega | (simp only [ll]; omega)) only [Int.tmod_eq_emod_of_nonneg, if_pos, go_sem, Nat.reduceAdd, Nat.reduceMul, Nat.reduceSub]
    exact hK
  case q1 =>
    simp +decide (maxSteps := 9^7) only [go_sem, Nat.reduceAdd, Nat.reduceMul, Nat.reduceSub]
    refine Runs.split (fun c8 => ?_) (fun c8 => ?_)
    · have e : curveB ⟨p, a, b, n, gx, gy⟩ = false := by simp only [decide_eq_true_eq] at c8; simp [curveB, c8]
      simp +decide (maxSteps := 9^7) only [e, go_sem, Nat.reduceAdd, Nat.reduceMul, Nat.reduceSub]
      exact Runs.ret_v
    simp only [decide_eq_false_iff_not] at c8
    have kin : CvIn ⟨p, a, b, n, gx, gy⟩ := ⟨by simp only; omega, by simp only; omega, by simp only; omega, by simp only; omega⟩
    simp +decide (maxSteps := 9^7) only [go_sem, Nat.reduceAdd, Nat.reduceMul, Nat.reduceSub]
    refine Runs.call (l3On hm ⟨p, a, b, n, gx, gy⟩ ⟨gx, gy, false⟩ kin) ?_
    simp +decide (maxSteps := 9^7) only [go_sem, Nat.reduceAdd, Nat.reduceMul, Nat.reduceSub]
    refine Runs.split (fun c9 => ?_) (fun c9 => ?_)
    · have gin := onZ_in (by omega) c9
      have hM := l3Mul hm ⟨p, a, b, n, gx, gy⟩ n.toNat ⟨gx, gy, false⟩ kin gin (by omega)
      rw [hn] at hM
      simp +decide (maxSteps := 9^7) only [go_sem, Nat.reduceAdd, Nat.reduceMul, Nat.reduceSub]
      refine Runs.call hM ?_
      simp +decide (maxSteps := 9^7) only [go_sem, Nat.reduceAdd, Nat.reduceMul, Nat.reduceSub]
      exact Runs.ret_eq (by simp [curveB, c1, c2', c3, c4, c5, c6, c7, c8, c9])
    · have e : curveB ⟨p, a, b, n, gx, gy⟩ = false := by simp [curveB, c9]
      simp +decide (maxSteps := 9^7) only [e, go_sem, Nat.reduceAdd, Nat.reduceMul, Nat.reduceSub]
      exact Runs.ret_v
def icS : Sched := .take 0 (.take 3 (.take 6 (.take 9 (.take 12 (.take 15 (.take 19 (.ld 1 (.take 2 (.ld 4 (.take 5 (.ld 7 (.take 8 (.ld 10 (.take 11 (.ld 13 (.take 14 (.ld 16 (.take 17 (.take 18 (.ld 20 (.take 21 (.take 22 (.take 23 (.ld 24 (.ld 25 (.alt 26 (.alt 27 (.take 28 (.take 29 .fin)) .nil) .nil))))))))))))))))))))))))))
def icT : Sched := .take 1 (.ld 0 (.ld 2 (.ld 3 (.alt 4 (.alt 5 (.take 6 (.take 7 .fin)) .nil) .nil))))
attribute [local go_sem] icS icT
set_option maxHeartbeats 4000000 in
include hm in
theorem iCurveOk (k : GCv) : Holds Tryz.prog 154 [cvA k] [] (.v (.bool (curveB k))) [] := by
  refine holds_ref (ann := []) tabOk hm (byL [] [1000001]) Tryz.func154 (by kernel_rfl) rfl ?_
  obtain ⟨p, a, b, n, gx, gy⟩ := k
  simp +decide only [Tryz.f154, go_sem, Nat.reduceAdd, Nat.reduceMul, Nat.reduceSub]
  refine Runs.call (within hm p 5 1048576) ?_
  simp +decide (maxSteps := 9^7) only [go_sem, Nat.reduceAdd, Nat.reduceMul, Nat.reduceSub]
  refine Runs.split (fun c1 => ?_) (fun c1 => ?_)
  · have e : curveB ⟨p, a, b, n, gx, gy⟩ = false := by simp only [Bool.not_eq_true'] at c1; simp [curveB, c1]
    simp +decide (maxSteps := 9^7) only [e, go_sem, Nat.reduceAdd, Nat.reduceMul, Nat.reduceSub]
    exact Runs.ret_v
  simp only [Bool.not_eq_false'] at c1
  obtain ⟨p1, p2⟩ := inB_t c1
  simp +decide (maxSteps := 9^7) (disch := first | omega | (simp only [ll]; omega)) only [if_pos, go_sem, Nat.reduceAdd, Nat.reduceMul, Nat.reduceSub]
  refine Runs.split (fun c2 => ?_) (fun c2 => ?_)
  · have e : curveB ⟨p, a, b, n, gx, gy⟩ = false := by
      have : ¬ p.tmod 4 = 3 := by simpa using c2
      simp [curveB, this]
    simp +decide (maxSteps := 9^7) only [e, go_sem, Nat.reduceAdd, Nat.reduceMul, Nat.reduceSub]
    exact Runs.ret_v
  have c2' : p.tmod 4 = 3 := by simpa using c2
  simp +decide (maxSteps := 9^7) (disch := first | omega | (simp only [ll]; omega)) only [if_pos, go_sem, Nat.reduceAdd, Nat.reduceMul, Nat.reduceSub]
  refine Runs.call (within hm a 0 (p - 1)) ?_
  simp +decide (maxSteps := 9^7) only [go_sem, Nat.reduceAdd, Nat.reduceMul, Nat.reduceSub]
  refine Runs.split (fun c4 => ?_) (fun c4 => ?_)
  · have e : curveB ⟨p, a, b, n, gx, gy⟩ = false := by simp only [Bool.not_eq_true'] at c4; simp [curveB, c4]
    simp +decide (maxSteps := 9^7) only [e, go_sem, Nat.reduceAdd, Nat.reduceMul, Nat.reduceSub]
    exact Runs.ret_v
  simp only [Bool.not_eq_false'] at c4
  simp +decide (maxSteps := 9^7) (disch := first | omega | (simp only [ll]; omega)) only [if_pos, go_sem, Nat.reduceAdd, Nat.reduceMul, Nat.reduceSub]
  refine Runs.call (within hm b 0 (p - 1)) ?_
  simp +decide (maxSteps := 9^7) only [go_sem, Nat.reduceAdd, Nat.reduceMul, Nat.reduceSub]
  refine Runs.split (fun c5 => ?_) (fun c5 => ?_)
  · have e : curveB ⟨p, a, b, n, gx, gy⟩ = false := by simp only [Bool.not_eq_true'] at c5; simp [curveB, c5]
    simp +decide (maxSteps := 9^7) only [e, go_sem, Nat.reduceAdd, Nat.reduceMul, Nat.reduceSub]
    exact Runs.ret_v
  simp only [Bool.not_eq_false'] at c5
  simp +decide (maxSteps := 9^7) (disch := first | omega | (simp only [ll]; omega)) only [if_pos, go_sem, Nat.reduceAdd, Nat.reduceMul, Nat.reduceSub]
  refine Runs.call (within hm n 5 2097152) ?_
  simp +decide (maxSteps := 9^7) only [go_sem, Nat.reduceAdd, Nat.reduceMul, Nat.reduceSub]
  refine Runs.split (fun c6 => ?_) (fun c6 => ?_)
  · have e : curveB ⟨p, a, b, n, gx, gy⟩ = false := by simp only [Bool.not_eq_true'] at c6; simp [curveB, c6]
    simp +decide (maxSteps := 9^7) only [e, go_sem, Nat.reduceAdd, Nat.reduceMul, Nat.reduceSub]
    exact Runs.ret_v
  simp only [Bool.not_eq_false'] at c6
  simp +decide (maxSteps := 9^7) (disch := first | omega | (simp only [ll]; omega)) only [if_pos, go_sem, Nat.reduceAdd, Nat.reduceMul, Nat.reduceSub]
  refine Runs.call (iPrime hm p) ?_
  simp +decide (maxSteps := 9^7) only [go_sem, Nat.reduceAdd, Nat.reduceMul, Nat.reduceSub]
  refine Runs.split (fun c3 => ?_) (fun c3 => ?_)
  · have e : curveB ⟨p, a, b, n, gx, gy⟩ = false := by simp only [Bool.not_eq_true'] at c3; simp [curveB, c3]
    simp +decide (maxSteps := 9^7) only [e, go_sem, Nat.reduceAdd, Nat.reduceMul, Nat.reduceSub]
    exact Runs.ret_v
  simp only [Bool.not_eq_false'] at c3
  simp +decide (maxSteps := 9^7) (disch := first | omega | (simp only [ll]; omega)) only [if_pos, go_sem, Nat.reduceAdd, Nat.reduceMul, Nat.reduceSub]
  refine Runs.call (iPrime hm n) ?_
  simp +decide (maxSteps := 9^7) only [go_sem, Nat.reduceAdd, Nat.reduceMul, Nat.reduceSub]
  refine Runs.split (fun c7 => ?_) (fun c7 => ?_)
  · have e : curveB ⟨p, a, b, n, gx, gy⟩ = false := by simp only [Bool.not_eq_true'] at c7; simp [curveB, c7]
    simp +decide (maxSteps := 9^7) only [e, go_sem, Nat.reduceAdd, Nat.reduceMul, Nat.reduceSub]
    exact Runs.ret_v
  simp only [Bool.not_eq_false'] at c7
  have ia := inB_t c4
  have ib := inB_t c5
  have iN := inB_t c6
  have b1 := mul_in (a := a) (b := a) (m := p) (by omega) (by omega) (by omega)
  have b2 := mul_in (a := b) (b := b) (m := p) (by omega) (by omega) (by omega)
  have m1 := mod_in' (show 0 < p by omega) (4 * a * a)
  have e1 : 4 * a * a = 4 * (a * a) := Int.mul_assoc 4 a a
  have e2 : 27 * b * b = 27 * (b * b) := Int.mul_assoc 27 b b
  have b3 := mul_in (a := 4 * a * a % p) (b := a) (m := p) (by omega) (by omega) (by omega)
  have hn : ((n.toNat : Nat) : Int) = n := Int.toNat_of_nonneg (by omega)
  have kin : CvIn ⟨p, a, b, n, gx, gy⟩ := ⟨by simp only; omega, by simp only; omega, by simp only; omega, by simp only; omega⟩
  have hB := baseP hm ⟨p, a, b, n, gx, gy⟩
  have hP := isPoint hm ⟨p, a, b, n, gx, gy⟩ ⟨gx, gy, false⟩ kin
  have dm := disc_mod a b p
  simp +decide (maxSteps := 9^7) (disch := first | omega | (simp only [ll]; omega)) only [if_pos, go_sem, Nat.reduceAdd, Nat.reduceMul, Nat.reduceSub]
  by_cases c8 : (4 * (a * a % p) * a + 27 * (b * b % p)) % p = 0
  · have e : curveB ⟨p, a, b, n, gx, gy⟩ = false := by simp [curveB, c8]
    rw [c8] at dm
    refine Runs.draw (st1 := ?s1) (draws_ref (ann := []) tabOk (byL [] [1000001]) icS (by kernel_rfl) ?p1) ?q1
    case p1 =>
      intro K r X hK
      simp +decide (maxSteps := 9^7) (disch := first | omega | (simp only [ll]; omega)) only [Int.tmod_eq_emod_of_nonneg, dm, if_pos, go_sem, Nat.reduceAdd, Nat.reduceMul, Nat.reduceSub]
      exact hK
    case q1 =>
      simp +decide (maxSteps := 9^7) only [e, go_sem, Nat.reduceAdd, Nat.reduceMul, Nat.reduceSub]
      exact Runs.ret_v
  · have dm' : ¬ (4 * a * a % p * a + 27 * b * b) % p = 0 := by rw [dm]; exact c8
    cases c9 : onZ p a b ⟨gx, gy, false⟩ with
    | false =>
      have e : curveB ⟨p, a, b, n, gx, gy⟩ = false := by simp [curveB, c9]
      simp only [c9] at hP
      refine Runs.draw (st1 := ?s2) (draws_ref (ann := []) tabOk (byL [] [1000001]) icS (by kernel_rfl) ?p2) ?q2
      case p2 =>
        intro K r X hK
        simp +decide (maxSteps := 9^7) (disch := first | omega | (simp only [ll]; omega)) only [Int.tmod_eq_emod_of_nonneg, dm', if_pos, go_sem, Nat.reduceAdd, Nat.reduceMul, Nat.reduceSub]
        refine Runs.call hB ?_
        simp +decide (maxSteps := 9^7) (disch := first | omega | (simp only [ll]; omega)) only [if_pos, go_sem, Nat.reduceAdd, Nat.reduceMul, Nat.reduceSub]
        refine Runs.call hP ?_
        simp +decide (maxSteps := 9^7) (disch := first | omega | (simp only [ll]; omega)) only [if_pos, go_sem, Nat.reduceAdd, Nat.reduceMul, Nat.reduceSub]
        exact hK
      case q2 =>
        simp +decide (maxSteps := 9^7) only [e, go_sem, Nat.reduceAdd, Nat.reduceMul, Nat.reduceSub]
        exact Runs.ret_v
    | true =>
      simp only [c9] at hP
      have gin := onZ_in (by omega) c9
      have hM := timesC hm ⟨p, a, b, n, gx, gy⟩ n.toNat ⟨gx, gy, false⟩ kin gin (by omega)
      simp only at hM
      rw [hn, times_same (by omega) (primeZ_of c3).2.2 c8 c9 n.toNat] at hM
      refine Runs.draw (st1 := ?s3) (draws_ref (ann := []) tabOk (byL [] [1000001]) icS (by kernel_rfl) ?p3) ?q3
      case p3 =>
        intro K r X hK
        simp +decide (maxSteps := 9^7) (disch := first | omega | (simp only [ll]; omega)) only [Int.tmod_eq_emod_of_nonneg, dm', if_pos, go_sem, Nat.reduceAdd, Nat.reduceMul, Nat.reduceSub]
        refine Runs.call hB ?_
        simp +decide (maxSteps := 9^7) (disch := first | omega | (simp only [ll]; omega)) only [if_pos, go_sem, Nat.reduceAdd, Nat.reduceMul, Nat.reduceSub]
        refine Runs.call hP ?_
        simp +decide (maxSteps := 9^7) (disch := first | omega | (simp only [ll]; omega)) only [if_pos, go_sem, Nat.reduceAdd, Nat.reduceMul, Nat.reduceSub]
        exact hK
      case q3 =>
        simp +decide (maxSteps := 9^7) only [go_sem, Nat.reduceAdd, Nat.reduceMul, Nat.reduceSub]
        refine Runs.draw (st1 := ?s4) (draws_ref (ann := []) tabOk (byL [] [1000001]) icT (by kernel_rfl) ?p4) ?q4
        case p4 =>
          intro K r X hK
          simp +decide (maxSteps := 9^7) (disch := first | omega | (simp only [ll]; omega)) only [if_pos, go_sem, Nat.reduceAdd, Nat.reduceMul, Nat.reduceSub]
          repeat' apply And.intro
          all_goals
            refine Runs.call hB ?_
            simp +decide (maxSteps := 9^7) (disch := first | omega | (simp only [ll]; omega)) only [if_pos, go_sem, Nat.reduceAdd, Nat.reduceMul, Nat.reduceSub]
            refine Runs.call hM ?_
            simp +decide (maxSteps := 9^7) (disch := first | omega | (simp only [ll]; omega)) only [if_pos, go_sem, Nat.reduceAdd, Nat.reduceMul, Nat.reduceSub]
            exact hK
        case q4 =>
          simp +decide (maxSteps := 9^7) only [go_sem, Nat.reduceAdd, Nat.reduceMul, Nat.reduceSub]
          exact Runs.ret_eq (by simp [curveB, c1, c2', c3, c4, c5, c6, c7, c8, c9])
include hm in
theorem sPointOk (k : GCv) (P : GPt) : Holds Tryz.prog 88 [cvA k, ptA P] [] (.v (.bool (curveB k && onZ k.p k.a k.b P))) [] := by
  refine holds_ref (ann := []) tabOk hm (byL [] [1000002, 1000003]) Tryz.func88 (by kernel_rfl) rfl ?_
  simp +decide only [Tryz.f88, go_sem, Nat.reduceAdd, Nat.reduceMul, Nat.reduceSub]
  refine Runs.call (sCurveOk hm k) ?_
  simp +decide only [go_sem, Nat.reduceAdd, Nat.reduceMul, Nat.reduceSub]
  refine Runs.split (fun c => ?_) (fun c => ?_)
  · simp +decide only [go_sem, Nat.reduceAdd, Nat.reduceMul, Nat.reduceSub]
    refine Runs.call (l3On hm k P (curve_in c)) ?_
    simp +decide only [c, go_sem, Nat.reduceAdd, Nat.reduceMul, Nat.reduceSub]
    exact Runs.ret_eq (by simp)
  · simp +decide only [c, go_sem, Nat.reduceAdd, Nat.reduceMul, Nat.reduceSub]
    exact Runs.ret_eq (by simp)
include hm in
theorem iPointOk (k : GCv) (P : GPt) : Holds Tryz.prog 115 [cvA k, ptA P] [] (.v (.bool (curveB k && onZ k.p k.a k.b P))) [] := by
  refine holds_ref (ann := []) tabOk hm (byL [] [1000002, 1000003]) Tryz.func115 (by kernel_rfl) rfl ?_
  simp +decide only [Tryz.f115, go_sem, Nat.reduceAdd, Nat.reduceMul, Nat.reduceSub]
  refine Runs.call (iCurveOk hm k) ?_
  simp +decide only [go_sem, Nat.reduceAdd, Nat.reduceMul, Nat.reduceSub]
  refine Runs.split (fun c => ?_) (fun c => ?_)
  · simp +decide only [go_sem, Nat.reduceAdd, Nat.reduceMul, Nat.reduceSub]
    refine Runs.call (isPoint hm k P (curve_in c)) ?_
    simp +decide only [c, go_sem, Nat.reduceAdd, Nat.reduceMul, Nat.reduceSub]
    exact Runs.ret_eq (by simp)
  · simp +decide only [c, go_sem, Nat.reduceAdd, Nat.reduceMul, Nat.reduceSub]
    exact Runs.ret_eq (by simp)
end Go.Proofs.W

namespace Go.Proofs.W
open Go Go.AM Go.Proofs.G
set_option maxRecDepth 10000
variable (hm : Tryz.prog.follows .mixedOrders = true)
structure GEd where
  p : Int
  d : Int
  l : Int
  bx : Int
  by' : Int
def edA (k : GEd) : A := .agg [.v (.int .i64 k.p), .v (.int .i64 k.d), .v (.int .i64 k.l), .v (.int .i64 k.bx), .v (.int .i64 k.by')]
def prA (P : GPr) : A := .agg [.v (.int .i64 P.1), .v (.int .i64 P.2)]
def EdIn (k : GEd) : Prop := 13 ≤ k.p ∧ k.p ≤ 1048576 ∧ (0 ≤ k.d ∧ k.d < k.p)
def PrIn (p : Int) (P : GPr) : Prop := (0 ≤ P.1 ∧ P.1 < p) ∧ (0 ≤ P.2 ∧ P.2 < p)
attribute [local go_sem] edA prA
theorem eadd_in {p D : Int} (h : 0 < p) (a b : GPr) : PrIn p (eaddZ p D a b) := ⟨mod_in' h _, mod_in' h _⟩
theorem esum_in {p D : Int} (h : 0 < p) (a b : GPr) : PrIn p (esumZ p D a b) := ⟨mod_in' h _, mod_in' h _⟩
def eoA : Sched := .take 0 (.take 2 (.take 5 (.take 8 (.take 10 (.take 13 (.ld 1 (.ld 3 (.take 4 (.ld 6 (.take 7 (.take 16 (.ld 9 (.ld 11 (.take 12 (.ld 14 (.take 15 (.take 17 .fin)))))))))))))))))
def eoB : Sched := .take 0 (.take 1 (.take 2 (.take 3 (.take 6 (.take 8 (.take 10 (.take 13 (.take 16 (.ld 4 (.ld 7 (.take 9 (.ld 11 (.take 12 (.take 14 (.take 15 (.ld 17 (.take 18 (.alt 5 (.take 19 (.take 20 .fin)) .nil))))))))))))))))))
attribute [local go_sem] eoA eoB
set_option maxHeartbeats 4000000 in
include hm in
theorem l4On (k : GEd) (P : GPr) (hk : EdIn k) : Holds Tryz.prog 134 [edA k, prA P] [] (.v (.bool (eonZ k.p k.d P))) [] := by
  refine holds_ref (ann := []) tabOk hm (byL [] [1000002, 1000003]) Tryz.func134 (by kernel_rfl) rfl ?_
  obtain ⟨p, d, l, bx, by'⟩ := k
  obtain ⟨x, y⟩ := P
  obtain ⟨h1, h2, h3⟩ := hk
  simp only at h1 h2 h3
  simp +decide (disch := first | omega | (simp only [ll]; omega)) only [Tryz.f134, if_pos, go_sem, Nat.reduceAdd, Nat.reduceMul, Nat.reduceSub]
  refine Runs.call (l1In hm x 0 (p - 1)) ?_
  simp +decide only [go_sem, Nat.reduceAdd, Nat.reduceMul, Nat.reduceSub]
  refine Runs.split (fun h => ?_) (fun h => ?_)
  · have e : eonZ p d (x, y) = false := by simp [inB] at h; simp [eonZ]; omega
    simp +decide only [e, go_sem, Nat.reduceAdd, Nat.reduceMul, Nat.reduceSub]
    exact Runs.ret_v
  · have hx : 0 ≤ x ∧ x < p := by simp [inB] at h; omega
    simp +decide (disch := first | omega | (simp only [ll]; omega)) only [if_pos, go_sem, Nat.reduceAdd, Nat.reduceMul, Nat.reduceSub]
    refine Runs.call (l1In hm y 0 (p - 1)) ?_
    simp +decide only [go_sem, Nat.reduceAdd, Nat.reduceMul, Nat.reduceSub]
    refine Runs.split (fun h => ?_) (fun h => ?_)
    · have e : eonZ p d (x, y) = false := by simp [inB] at h; simp [eonZ]; omega
      simp +decide only [e, go_sem, Nat.reduceAdd, Nat.reduceMul, Nat.reduceSub]
      exact Runs.ret_v
    · have hy : 0 ≤ y ∧ y < p := by simp [inB] at h; omega
      have b1 := mul_in hy hy (by omega)
      have b2 := mul_in hx hx (by omega)
      have m1 := mod_in' (show 0 < p by omega) (x * x)
      have m2 := mod_in' (show 0 < p by omega) (y * y)
      have b3 := mul_in h3 m1 (by omega)
      have m3 := mod_in' (show 0 < p by omega) (d * (x * x % p))
      have b4 := mul_in m3 m2 (by omega)
      simp +decide only [go_sem, Nat.reduceAdd, Nat.reduceMul, Nat.reduceSub]
      refine Runs.draw (st1 := ?s1) (draws_ref (ann := []) tabOk (byL [] [1000002, 1000003]) eoA (by kernel_rfl) ?p1) ?q1
      case p1 =>
        intro K r X hK
        simp +decide (maxSteps := 9^7) (disch := first | omega | (simp only [ll]; omega)) only [Int.tmod_eq_emod_of_nonneg, if_pos, go_sem, Nat.reduceAdd, Nat.reduceMul, Nat.reduceSub]
        exact hK
      case q1 =>
        simp +decide only [go_sem, Nat.reduceAdd, Nat.reduceMul, Nat.reduceSub]
        refine Runs.draw (st1 := ?s2) (draws_ref (ann := []) tabOk (byL [] [1000002, 1000003]) eoB (by kernel_rfl) ?p2) ?q2
        case p2 =>
          intro K r X hK
          simp +decide (maxSteps := 9^7) (disch := first | omega | (simp only [ll]; omega)) only [Int.tmod_eq_emod_of_nonneg, if_pos, go_sem, Nat.reduceAdd, Nat.reduceMul, Nat.reduceSub]
          refine Runs.call (l2Left hm (y * y % p - x * x % p) p (by omega) (by omega)) ?_
          simp +decide (maxSteps := 9^7) (disch := first | omega | (simp only [ll]; omega)) only [Int.tmod_eq_emod_of_nonneg, if_pos, go_sem, Nat.reduceAdd, Nat.reduceMul, Nat.reduceSub]
          exact hK
        case q2 =>
          simp +decide only [go_sem, Nat.reduceAdd, Nat.reduceMul, Nat.reduceSub]
          exact Runs.ret_eq (by simp [eonZ, hx, hy]; omega)
def eoC : Sched := .take 0 (.take 2 (.take 5 (.take 8 (.take 10 (.take 13 (.ld 1 (.ld 3 (.take 4 (.ld 6 (.take 7 (.take 16 (.ld 9 (.ld 11 (.take 12 (.ld 14 (.take 15 (.take 17 .fin)))))))))))))))))
def eoD : Sched := .take 0 (.take 1 (.take 2 (.take 3 (.take 6 (.take 8 (.take 10 (.take 13 (.take 16 (.ld 4 (.ld 7 (.take 9 (.ld 11 (.take 12 (.take 14 (.take 15 (.ld 17 (.take 18 (.alt 5 (.take 19 (.take 20 .fin)) .nil))))))))))))))))))
attribute [local go_sem] eoC eoD
set_option maxHeartbeats 4000000 in
include hm in
theorem isPair (k : GEd) (P : GPr) (hk : EdIn k) : Holds Tryz.prog 158 [edA k, prA P] [] (.v (.bool (eonZ k.p k.d P))) [] := by
  refine holds_ref (ann := []) tabOk hm (byL [] [1000002, 1000003]) Tryz.func158 (by kernel_rfl) rfl ?_
  obtain ⟨p, d, l, bx, by'⟩ := k
  obtain ⟨x, y⟩ := P
  obtain ⟨h1, h2, h3⟩ := hk
  simp only at h1 h2 h3
  simp +decide (disch := first | omega | (simp only [ll]; omega)) only [Tryz.f158, if_pos, go_sem, Nat.reduceAdd, Nat.reduceMul, Nat.reduceSub]
  refine Runs.call (within hm x 0 (p - 1)) ?_
  simp +decide only [go_sem, Nat.reduceAdd, Nat.reduceMul, Nat.reduceSub]
  refine Runs.split (fun h => ?_) (fun h => ?_)
  · have e : eonZ p d (x, y) = false := by simp [inB] at h; simp [eonZ]; omega
    simp +decide only [e, go_sem, Nat.reduceAdd, Nat.reduceMul, Nat.reduceSub]
    exact Runs.ret_v
  · have hx : 0 ≤ x ∧ x < p := by simp [inB] at h; omega
    simp +decide (disch := first | omega | (simp only [ll]; omega)) only [if_pos, go_sem, Nat.reduceAdd, Nat.reduceMul, Nat.reduceSub]
    refine Runs.call (within hm y 0 (p - 1)) ?_
    simp +decide only [go_sem, Nat.reduceAdd, Nat.reduceMul, Nat.reduceSub]
    refine Runs.split (fun h => ?_) (fun h => ?_)
    · have e : eonZ p d (x, y) = false := by simp [inB] at h; simp [eonZ]; omega
      simp +decide only [e, go_sem, Nat.reduceAdd, Nat.reduceMul, Nat.reduceSub]
      exact Runs.ret_v
    · have hy : 0 ≤ y ∧ y < p := by simp [inB] at h; omega
      have b1 := mul_in hy hy (by omega)
      have b2 := mul_in hx hx (by omega)
      have m1 := mod_in' (show 0 < p by omega) (x * x)
      have m2 := mod_in' (show 0 < p by omega) (y * y)
      have b3 := mul_in h3 m1 (by omega)
      have m3 := mod_in' (show 0 < p by omega) (d * (x * x % p))
      have b4 := mul_in m3 m2 (by omega)
      simp +decide only [go_sem, Nat.reduceAdd, Nat.reduceMul, Nat.reduceSub]
      refine Runs.draw (st1 := ?s1) (draws_ref (ann := []) tabOk (byL [] [1000002, 1000003]) eoC (by kernel_rfl) ?p1) ?q1
      case p1 =>
        intro K r X hK
        simp +decide (maxSteps := 9^7) (disch := first | omega | (simp only [ll]; omega)) only [Int.tmod_eq_emod_of_nonneg, if_pos, go_sem, Nat.reduceAdd, Nat.reduceMul, Nat.reduceSub]
        exact hK
      case q1 =>
        simp +decide only [go_sem, Nat.reduceAdd, Nat.reduceMul, Nat.reduceSub]
        refine Runs.draw (st1 := ?s2) (draws_ref (ann := []) tabOk (byL [] [1000002, 1000003]) eoD (by kernel_rfl) ?p2) ?q2
        case p2 =>
          intro K r X hK
          simp +decide (maxSteps := 9^7) (disch := first | omega | (simp only [ll]; omega)) only [Int.tmod_eq_emod_of_nonneg, if_pos, go_sem, Nat.reduceAdd, Nat.reduceMul, Nat.reduceSub]
          refine Runs.call (rest hm (y * y % p - x * x % p) p (by omega) (by omega)) ?_
          simp +decide (maxSteps := 9^7) (disch := first | omega | (simp only [ll]; omega)) only [Int.tmod_eq_emod_of_nonneg, if_pos, go_sem, Nat.reduceAdd, Nat.reduceMul, Nat.reduceSub]
          exact hK
        case q2 =>
          simp +decide only [go_sem, Nat.reduceAdd, Nat.reduceMul, Nat.reduceSub]
          exact Runs.ret_eq (by simp [eonZ, hx, hy]; omega)
include hm in
theorem baseE (k : GEd) : Holds Tryz.prog 197 [edA k] [] (prA (k.bx, k.by')) [] := by
  refine holds_ref (ann := []) tabOk hm (byL [] [1000001]) Tryz.func197 (by kernel_rfl) rfl ?_
  simp +decide only [Tryz.f197, go_sem, Nat.reduceAdd, Nat.reduceMul, Nat.reduceSub]
  exact Runs.ret_refl
def eaA : Sched := .take 0 (.take 2 (.take 5 (.take 8 (.take 10 (.take 13 (.ld 1 (.ld 3 (.take 4 (.ld 6 (.take 7 (.take 16 (.ld 9 (.ld 11 (.take 12 (.ld 14 (.take 15 (.take 17 .fin)))))))))))))))))
def eaB : Sched := .take 0 (.take 2 (.take 4 (.take 7 (.take 9 (.ld 1 (.take 3 (.ld 5 (.take 6 (.take 8 (.ld 10 (.take 11 (.take 12 .fin))))))))))))
def eaC : Sched := .take 0 (.take 1 (.take 2 (.take 3 (.take 7 (.take 10 (.take 11 (.take 12 (.take 13 (.take 16 (.take 17 (.take 18 (.take 22 (.ld 4 (.ld 8 (.ld 14 (.take 15 (.ld 19 (.ld 23 (.alt 5 (.take 6 (.take 9 (.alt 20 (.take 21 (.take 24 (.alt 25 (.alt 26 .fin .nil) .nil))) .nil))) .nil)))))))))))))))))))
attribute [local go_sem] eaA eaB eaC
set_option maxHeartbeats 4000000 in
include hm in
theorem l4Add (k : GEd) (P Q : GPr) (hk : EdIn k) (hP : PrIn k.p P) (hQ : PrIn k.p Q) : Holds Tryz.prog 201 [edA k, prA P, prA Q] [] (prA (eaddZ k.p k.d P Q)) [] := by
  refine holds_ref (ann := []) tabOk hm (byL [] [1000003, 1000004, 1000005]) Tryz.func201 (by kernel_rfl) rfl ?_
  obtain ⟨p, d, l, bx, by'⟩ := k
  obtain ⟨x, y⟩ := P
  obtain ⟨u, v⟩ := Q
  obtain ⟨h1, h2, h3⟩ := hk
  obtain ⟨hx, hy⟩ := hP
  obtain ⟨hu, hv⟩ := hQ
  simp only at h1 h2 h3 hx hy hu hv
  have hp : 0 < p := by omega
  have b1 := mul_in hx hu (by omega)
  have b2 := mul_in hy hv (by omega)
  have b3 := mul_in hx hv (by omega)
  have b4 := mul_in hy hu (by omega)
  have m1 := mod_in' hp (x * u)
  have m2 := mod_in' hp (y * v)
  have b5 := mul_in h3 m1 (by omega)
  have m3 := mod_in' hp (d * (x * u % p))
  have b6 := mul_in m3 m2 (by omega)
  have m4 := mod_in' hp (d * (x * u % p) % p * (y * v % p))
  have m5 := mod_in' hp (x * v + y * u)
  have m6 := mod_in' hp (y * v % p + x * u % p)
  have i1 := invI_range (a := 1 + d * (x * u % p) % p * (y * v % p) % p) (m := p) hp
  have i2 := invI_range (a := 1 - d * (x * u % p) % p * (y * v % p) % p) (m := p) hp
  have b7 := mul_in m5 i1 (by omega)
  have b8 := mul_in m6 i2 (by omega)
  simp +decide only [Tryz.f201, go_sem, Nat.reduceAdd, Nat.reduceMul, Nat.reduceSub]
  refine Runs.draw (st1 := ?s1) (draws_ref (ann := []) tabOk (byL [] [1000003, 1000004, 1000005]) eaA (by kernel_rfl) ?p1) ?q1
  case p1 =>
    intro K r X hK
    simp +decide (maxSteps := 9^7) (disch := first | omega | (simp only [ll]; omega)) only [Int.tmod_eq_emod_of_nonneg, if_pos, go_sem, Nat.reduceAdd, Nat.reduceMul, Nat.reduceSub]
    exact hK
  case q1 =>
    simp +decide only [go_sem, Nat.reduceAdd, Nat.reduceMul, Nat.reduceSub]
    refine Runs.draw (st1 := ?s2) (draws_ref (ann := []) tabOk (byL [] [1000003, 1000004, 1000005]) eaB (by kernel_rfl) ?p2) ?q2
    case p2 =>
      intro K r X hK
      simp +decide (maxSteps := 9^7) (disch := first | omega | (simp only [ll]; omega)) only [Int.tmod_eq_emod_of_nonneg, if_pos, go_sem, Nat.reduceAdd, Nat.reduceMul, Nat.reduceSub]
      exact hK
    case q2 =>
      simp +decide (maxSteps := 9^7) (disch := first | omega | (simp only [ll]; omega)) only [Int.tmod_eq_emod_of_nonneg, if_pos, go_sem, Nat.reduceAdd, Nat.reduceMul, Nat.reduceSub]
      refine Runs.draw (st1 := ?s3) (draws_ref (ann := []) tabOk (byL [] [1000003, 1000004, 1000005]) eaC (by kernel_rfl) ?p3) ?q3
      case p3 =>
        intro K r X hK
        simp +decide (maxSteps := 9^7) (disch := first | omega | (simp only [ll]; omega)) only [Int.tmod_eq_emod_of_nonneg, if_pos, go_sem, Nat.reduceAdd, Nat.reduceMul, Nat.reduceSub]
        refine Runs.call (l2Inv hm (1 + d * (x * u % p) % p * (y * v % p) % p) p (by omega) (by omega)) ?_
        simp +decide (maxSteps := 9^7) (disch := first | omega | (simp only [ll]; omega)) only [Int.tmod_eq_emod_of_nonneg, if_pos, go_sem, Nat.reduceAdd, Nat.reduceMul, Nat.reduceSub]
        refine Runs.call (l2Inv hm (1 - d * (x * u % p) % p * (y * v % p) % p) p (by omega) (by omega)) ?_
        simp +decide (maxSteps := 9^7) (disch := first | omega | (simp only [ll]; omega)) only [Int.tmod_eq_emod_of_nonneg, if_pos, go_sem, Nat.reduceAdd, Nat.reduceMul, Nat.reduceSub]
        exact hK
      case q3 =>
        simp +decide only [go_sem, Nat.reduceAdd, Nat.reduceMul, Nat.reduceSub]
        exact Runs.ret_eq (by simp [prA, eaddZ])
def esA : Sched := .take 0 (.take 2 (.take 5 (.take 8 (.take 11 (.take 14 (.take 17 (.take 20 (.take 23 (.ld 1 (.ld 3 (.take 4 (.ld 6 (.take 7 (.ld 9 (.take 10 (.ld 12 (.take 13 (.ld 15 (.take 16 (.ld 18 (.take 19 (.ld 21 (.take 22 (.ld 24 (.take 25 (.take 26 .fin))))))))))))))))))))))))))
def esB : Sched := .take 0 (.take 2 (.take 5 (.take 7 (.take 11 (.take 14 (.take 16 (.take 19 (.take 21 (.take 24 (.take 26 (.take 30 (.take 33 (.take 35 (.ld 1 (.ld 3 (.take 4 (.ld 6 (.ld 8 (.take 9 (.take 10 (.ld 12 (.take 13 (.take 15 (.ld 17 (.take 18 (.ld 20 (.ld 22 (.take 23 (.ld 25 (.ld 27 (.take 28 (.take 29 (.ld 31 (.take 32 (.take 34 (.ld 36 (.take 37 (.alt 38 (.alt 39 .fin .nil) .nil))))))))))))))))))))))))))))))))))))))
attribute [local go_sem] esA esB
set_option maxHeartbeats 4000000 in
include hm in
theorem sumE (k : GEd) (P Q : GPr) (hk : EdIn k) (hP : PrIn k.p P) (hQ : PrIn k.p Q) : Holds Tryz.prog 210 [edA k, prA P, prA Q] [] (prA (esumZ k.p k.d P Q)) [] := by
  refine holds_ref (ann := []) tabOk hm (byL [] [1000003, 1000004, 1000005]) Tryz.func210 (by kernel_rfl) rfl ?_
  obtain ⟨p, d, l, bx, by'⟩ := k
  obtain ⟨x, y⟩ := P
  obtain ⟨u, v⟩ := Q
  obtain ⟨h1, h2, h3⟩ := hk
  obtain ⟨hx, hy⟩ := hP
  obtain ⟨hu, hv⟩ := hQ
  simp only at h1 h2 h3 hx hy hu hv
  have hp : 0 < p := by omega
  have b1 := mul_in hx hu (by omega)
  have b2 := mul_in hy hv (by omega)
  have b3 := mul_in hx hv (by omega)
  have b4 := mul_in hy hu (by omega)
  have c1 := mul_in h3 hx (by omega)
  have n1 := mod_in' hp (d * x)
  have c2 := mul_in n1 hu (by omega)
  have n2 := mod_in' hp (d * x % p * u)
  have c3 := mul_in n2 hy (by omega)
  have n3 := mod_in' hp (d * x % p * u % p * y)
  have c4 := mul_in n3 hv (by omega)
  have n4 := mod_in' hp (d * x % p * u % p * y % p * v)
  have m5 := mod_in' hp (x * v + y * u)
  have m6 := mod_in' hp (y * v + x * u)
  have i1 := invI_range (a := 1 + d * x % p * u % p * y % p * v % p) (m := p) hp
  have i2 := invI_range (a := 1 - d * x % p * u % p * y % p * v % p) (m := p) hp
  have b7 := mul_in m5 i1 (by omega)
  have b8 := mul_in m6 i2 (by omega)
  simp +decide only [Tryz.f210, go_sem, Nat.reduceAdd, Nat.reduceMul, Nat.reduceSub]
  refine Runs.draw (st1 := ?s1) (draws_ref (ann := []) tabOk (byL [] [1000003, 1000004, 1000005]) esA (by kernel_rfl) ?p1) ?q1
  case p1 =>
    intro K r X hK
    simp +decide (maxSteps := 9^7) (disch := first | omega | (simp only [ll]; omega)) only [Int.tmod_eq_emod_of_nonneg, if_pos, go_sem, Nat.reduceAdd, Nat.reduceMul, Nat.reduceSub]
    exact hK
  case q1 =>
    simp +decide (disch := first | omega | (simp only [ll]; omega)) only [if_pos, go_sem, Nat.reduceAdd, Nat.reduceMul, Nat.reduceSub]
    refine Runs.call (invInt hm (1 + d * x % p * u % p * y % p * v % p) p (by omega) (by omega)) ?_
    simp +decide (maxSteps := 9^7) (disch := first | omega | (simp only [ll]; omega)) only [if_pos, go_sem, Nat.reduceAdd, Nat.reduceMul, Nat.reduceSub]
    refine Runs.call (invInt hm (1 - d * x % p * u % p * y % p * v % p) p (by omega) (by omega)) ?_
    simp +decide (maxSteps := 9^7) (disch := first | omega | (simp only [ll]; omega)) only [if_pos, go_sem, Nat.reduceAdd, Nat.reduceMul, Nat.reduceSub]
    refine Runs.draw (st1 := ?s2) (draws_ref (ann := []) tabOk (byL [] [1000003, 1000004, 1000005]) esB (by kernel_rfl) ?p2) ?q2
    case p2 =>
      intro K r X hK
      simp +decide (maxSteps := 9^7) (disch := first | omega | (simp only [ll]; omega)) only [Int.tmod_eq_emod_of_nonneg, if_pos, go_sem, Nat.reduceAdd, Nat.reduceMul, Nat.reduceSub]
      exact hK
    case q2 =>
      simp +decide only [go_sem, Nat.reduceAdd, Nat.reduceMul, Nat.reduceSub]
      exact Runs.ret_eq (by simp [prA, esumZ])
end Go.Proofs.W

namespace Go.Proofs.W
open Go Go.AM Go.Proofs.G
variable (hm : Tryz.prog.follows .mixedOrders = true)
attribute [local go_sem] edA prA
def zPr : A := .agg [.v (.int .i64 0), .v (.int .i64 0)]
theorem one_in {p : Int} (h : 13 ≤ p) : PrIn p (0, 1) := ⟨⟨by show (0 : Int) ≤ 0; omega, by show (0 : Int) < p; omega⟩, ⟨by show (0 : Int) ≤ 1; omega, by show (1 : Int) < p; omega⟩⟩
def leAnn : Ann := [(0, [1, 3, 5, 6, 7])]
def leSt (k : GEd) (p : Nat × GPr × GPr) : St := ⟨[.any, .v (.int .i64 p.1), .any, .ptr [edA k] 0 0, .any, .ref (.l 0) 0 0 1, .ref (.l 1) 0 0 1, .ref (.l 2) 0 0 1, .any, .any, .any, .any, .any, .any, .any, .any, .any, .any, .any, .any, .any, .any, .any, .any, .any], [(0, ⟨true, 2, true, [prA p.2.2]⟩), (1, ⟨true, 2, true, [zPr]⟩), (2, ⟨true, 2, true, [prA p.2.1]⟩)], []⟩
set_option maxRecDepth 10000 in
set_option maxHeartbeats 4000000 in
include hm in
theorem l4Mul (k : GEd) (n : Nat) (P : GPr) (hk : EdIn k) (hP : PrIn k.p P) (hn : n ≤ 9223372036854775807) : Holds Tryz.prog 170 [edA k, .v (.int .i64 n), prA P] [] (prA (mulL (eaddZ k.p k.d) n (0, 1) P)) [] := by
  refine holds_ref (ann := leAnn) tabOk hm (byL [] [1000003]) Tryz.func170 (by kernel_rfl) rfl ?_
  have hp : 0 < k.p := by have := hk.1; omega
  simp +decide only [Tryz.f170, go_sem, Nat.reduceAdd, Nat.reduceMul, Nat.reduceSub]
  refine Runs.while (α := Nat × GPr × GPr) (leSt k) (fun p => p.1) (fun p => p.1 ≤ n ∧ PrIn k.p p.2.1 ∧ PrIn k.p p.2.2 ∧ mulL (eaddZ k.p k.d) p.1 p.2.1 p.2.2 = mulL (eaddZ k.p k.d) n (0, 1) P) (n, (0, 1), P) ⟨Nat.le_refl _, one_in hk.1, hP, rfl⟩ ?_ ?_
  · simp [go_sem, leAnn, leSt, zPr]
  · rintro ⟨i, out, a⟩ ⟨hi, ho, ha, hg⟩ ih
    simp only at hi ho ha hg
    have e3 := tmod_nat i 2
    have e4 := tdiv_nat i 2
    have w3 : IntKind.i64.wrap ((i / 2 : Nat) : Int) = ((i / 2 : Nat) : Int) := wrap_i64 (by omega) (by omega)
    have c1 := l4Add hm k out a hk ho ha
    have c2 := l4Add hm k a a hk ha ha
    have o1 := eadd_in (D := k.d) hp out a
    have o2 := eadd_in (D := k.d) hp a a
    simp +decide only [leSt, zPr, go_sem, Nat.reduceAdd, Nat.reduceMul, Nat.reduceSub]
    refine Runs.split (fun h => ?_) (fun h => ?_)
    · have hs : i ≠ 0 := by simp at h; omega
      rw [mulL_step _ _ _ _ hs] at hg
      simp +decide (disch := first | omega | (simp only [ll]; omega)) only [if_pos, go_sem, Nat.reduceAdd, Nat.reduceMul, Nat.reduceSub]
      rw [show (2 : Int) = ((2 : Nat) : Int) from rfl, e3]
      refine Runs.split (fun h => ?_) (fun h => ?_)
      · have hbit : i % 2 = 1 := by simp at h; omega
        rw [if_pos hbit] at hg
        simp +decide (disch := first | omega | (simp only [ll]; omega)) only [if_pos, go_sem, Nat.reduceAdd, Nat.reduceMul, Nat.reduceSub]
        refine Runs.call c1 ?_
        simp +decide (disch := first | omega | (simp only [ll]; omega)) only [if_pos, go_sem, Nat.reduceAdd, Nat.reduceMul, Nat.reduceSub]
        refine Runs.call c2 ?_
        simp +decide (disch := first | omega | (simp only [ll]; omega)) only [e4, w3, if_pos, go_sem, Nat.reduceAdd, Nat.reduceMul, Nat.reduceSub]
        refine ih (i / 2, eaddZ k.p k.d out a, eaddZ k.p k.d a a) _ (by simp only; omega) ⟨by simp only; omega, o1, o2, hg⟩ ?_
        simp [go_sem, leAnn, leSt, zPr]
      · have hbit : ¬ i % 2 = 1 := by simp at h; omega
        rw [if_neg hbit] at hg
        simp +decide (disch := first | omega | (simp only [ll]; omega)) only [if_pos, go_sem, Nat.reduceAdd, Nat.reduceMul, Nat.reduceSub]
        refine Runs.call c2 ?_
        simp +decide (disch := first | omega | (simp only [ll]; omega)) only [e4, w3, if_pos, go_sem, Nat.reduceAdd, Nat.reduceMul, Nat.reduceSub]
        refine ih (i / 2, out, eaddZ k.p k.d a a) _ (by simp only; omega) ⟨by simp only; omega, ho, o2, hg⟩ ?_
        simp [go_sem, leAnn, leSt, zPr]
    · have hs : i = 0 := by simp at h; omega
      subst hs
      rw [mulL_zero] at hg
      simp +decide only [go_sem, Nat.reduceAdd, Nat.reduceMul, Nat.reduceSub]
      exact Runs.ret_eq (by rw [← hg])
def teAnn : Ann := [(0, [1, 3, 5, 6, 7, 8])]
def teSt (k : GEd) (n : Nat) (P : GPr) (p : Int × GPr) : St := ⟨[.any, .v (.int .i64 n), .any, .ptr [edA k] 0 0, .any, .ptr [prA P] 0 0, .ref (.l 0) 0 0 1, .ref (.l 1) 0 0 1, .v (.int .i64 p.1), .any, .any, .any, .any, .any, .any, .any, .any, .any, .any, .any, .any, .any, .any, .any, .any, .any, .any, .any, .any, .any, .any, .any], [(0, ⟨true, 2, true, [zPr]⟩), (1, ⟨true, 2, true, [prA p.2]⟩)], []⟩
set_option maxRecDepth 10000 in
set_option maxHeartbeats 4000000 in
include hm in
theorem timesE (k : GEd) (n : Nat) (P : GPr) (hk : EdIn k) (hP : PrIn k.p P) (hn : n ≤ 9223372036854775807) : Holds Tryz.prog 198 [edA k, .v (.int .i64 n), prA P] [] (prA (mulM (esumZ k.p k.d) (0, 1) n P)) [] := by
  refine holds_ref (ann := teAnn) tabOk hm (byL [] [1000003, 1000005]) Tryz.func198 (by kernel_rfl) rfl ?_
  have hp : 0 < k.p := by have := hk.1; omega
  have hl : blen n ≤ 63 := blen_le (by omega)
  simp +decide (disch := first | omega | (simp only [ll]; omega)) only [Tryz.f198, if_pos, go_sem, Nat.reduceAdd, Nat.reduceMul, Nat.reduceSub]
  refine Runs.call (bitsLen hm n (by omega)) ?_
  simp +decide (disch := first | omega | (simp only [ll]; omega)) only [if_pos, go_sem, Nat.reduceAdd, Nat.reduceMul, Nat.reduceSub]
  refine Runs.while (α := Int × GPr) (teSt k n P) (fun p => (p.1 + 1).toNat) (fun p => -1 ≤ p.1 ∧ p.1 ≤ 62 ∧ PrIn k.p p.2 ∧ (p.1 = -1 ∨ 2 ^ p.1.toNat ≤ n) ∧ p.2 = mulM (esumZ k.p k.d) (0, 1) (n / 2 ^ (p.1 + 1).toNat) P) ((blen n : Int) - 1, (0, 1)) ⟨by simp only; omega, by simp only; omega, one_in hk.1, ?_, ?_⟩ ?_ ?_
  · simp only
    by_cases hz : n = 0
    · left; subst hz; rw [blen_zero]; rfl
    · right
      have := blen_ge hz
      have hp := blen_pos hz
      have e : ((blen n : Int) - 1).toNat = blen n - 1 := by omega
      rw [e]
      exact this
  · simp only
    have e : ((blen n : Int) - 1 + 1).toNat = blen n := by omega
    rw [e, Nat.div_eq_of_lt blen_lt, mulM_zero]
  · simp [go_sem, teAnn, teSt, zPr]
  · rintro ⟨i, out⟩ ⟨hi1, hi2, ho, hi3, hg⟩ ih
    simp only at hi1 hi2 ho hi3 hg
    simp +decide only [teSt, zPr, go_sem, Nat.reduceAdd, Nat.reduceMul, Nat.reduceSub]
    refine Runs.split (fun h => ?_) (fun h => ?_)
    · have hs : 0 ≤ i := by simpa using h
      obtain ⟨j, rfl⟩ := nat_of hs
      have hk' : 2 ^ j ≤ n := by
        rcases hi3 with h | h
        · omega
        · simpa using h
      have ek : ((j : Int) + 1).toNat = j + 1 := by omega
      rw [ek] at hg
      have hst := mulM_step (esumZ k.p k.d) (0, 1) n j P hk'
      rw [← hg] at hst
      have c1 := sumE hm k out out hk ho ho
      have o1 := esum_in (D := k.d) hp out out
      have c2 := sumE hm k (esumZ k.p k.d out out) P hk o1 hP
      have o2 := esum_in (D := k.d) hp (esumZ k.p k.d out out) P
      have hq := Nat.div_le_self n (2 ^ j)
      have ea := andI_one (n / 2 ^ j) (by omega)
      have em : min j 64 = j := by omega
      have es := shr_nat n j
      have hpow : j = 0 ∨ 2 ^ (j - 1) ≤ n := by
        rcases Nat.eq_zero_or_pos j with h | h
        · exact .inl h
        · right; exact Nat.le_trans (Nat.pow_le_pow_right (by omega) (by omega)) hk'
      simp +decide (disch := first | omega | (simp only [ll]; omega)) only [if_pos, go_sem, Nat.reduceAdd, Nat.reduceMul, Nat.reduceSub]
      refine Runs.call c1 ?_
      simp +decide (disch := first | omega | (simp only [ll]; omega)) only [em, es, ea, if_pos, go_sem, Nat.reduceAdd, Nat.reduceMul, Nat.reduceSub]
      refine Runs.split (fun h => ?_) (fun h => ?_)
      · have hbit : n / 2 ^ j % 2 = 1 := by simp only [decide_eq_true_eq] at h; omega
        rw [if_pos hbit] at hst
        simp +decide (disch := first | omega | (simp only [ll]; omega)) only [if_pos, go_sem, Nat.reduceAdd, Nat.reduceMul, Nat.reduceSub]
        refine Runs.call c2 ?_
        simp +decide (disch := first | omega | (simp only [ll]; omega)) only [if_pos, go_sem, Nat.reduceAdd, Nat.reduceMul, Nat.reduceSub]
        refine ih ((j : Int) - 1, esumZ k.p k.d (esumZ k.p k.d out out) P) _ (by simp only; omega) ⟨by simp only; omega, by simp only; omega, o2, ?_, ?_⟩ ?_
        · simp only
          rcases hpow with h | h
          · left; omega
          · right
            have e : ((j : Int) - 1).toNat = j - 1 := by omega
            rw [e]; exact h
        · simp only
          have e : ((j : Int) - 1 + 1).toNat = j := by omega
          rw [e, hst]
        · simp [go_sem, teAnn, teSt, zPr]
      · have hbit : ¬ n / 2 ^ j % 2 = 1 := by simp only [decide_eq_false_iff_not] at h; omega
        rw [if_neg hbit] at hst
        simp +decide (disch := first | omega | (simp only [ll]; omega)) only [if_pos, go_sem, Nat.reduceAdd, Nat.reduceMul, Nat.reduceSub]
        refine ih ((j : Int) - 1, esumZ k.p k.d out out) _ (by simp only; omega) ⟨by simp only; omega, by simp only; omega, o1, ?_, ?_⟩ ?_
        · simp only
          rcases hpow with h | h
          · left; omega
          · right
            have e : ((j : Int) - 1).toNat = j - 1 := by omega
            rw [e]; exact h
        · simp only
          have e : ((j : Int) - 1 + 1).toNat = j := by omega
          rw [e, hst]
        · simp [go_sem, teAnn, teSt, zPr]
    · have hs : i = -1 := by simp at h; omega
      subst hs
      simp at hg
      simp +decide only [go_sem, Nat.reduceAdd, Nat.reduceMul, Nat.reduceSub]
      exact Runs.ret_eq (by rw [← hg])
end Go.Proofs.W

namespace Go.Proofs.W
open Go Go.AM Go.Proofs.G
set_option maxRecDepth 10000
variable (hm : Tryz.prog.follows .mixedOrders = true)
attribute [local go_sem] edA prA
noncomputable def edB (k : GEd) : Bool :=
  inB k.p 13 1048576 && decide (k.p.tmod 8 = 5) && primeZ k.p && inB k.d 2 (k.p - 1) && decide (powZ k.d ((k.p.toNat - 1) / 2) k.p = k.p - 1) && inB k.l 5 2097152 && primeZ k.l &&
  eonZ k.p k.d (k.bx, k.by') && !(decide (k.bx = 0) && decide (k.by' = 1)) && (decide ((mulL (eaddZ k.p k.d) k.l.toNat (0, 1) (k.bx, k.by')).1 = 0) && decide ((mulL (eaddZ k.p k.d) k.l.toNat (0, 1) (k.bx, k.by')).2 = 1))
theorem eonZ_in {p D : Int} {P : GPr} (h : eonZ p D P = true) : PrIn p P := by
  unfold eonZ at h
  simp only [Bool.and_eq_true, decide_eq_true_eq] at h
  exact ⟨by omega, by omega⟩
theorem ed_in {k : GEd} (h : edB k = true) : EdIn k := by
  simp only [edB, Bool.and_eq_true] at h
  obtain ⟨⟨⟨⟨⟨⟨⟨⟨⟨c1, _⟩, _⟩, c4⟩, _⟩, _⟩, _⟩, _⟩, _⟩, _⟩ := h
  have := inB_t c1
  have := inB_t c4
  exact ⟨by omega, by omega, by omega⟩
theorem half_p {p : Int} (h : 1 ≤ p) : (p - 1).tdiv 2 = ((p.toNat - 1) / 2 : Nat) := by
  rw [Int.tdiv_eq_ediv_of_nonneg (by omega)]
  omega
def seS : Sched := .take 0 (.ld 1 (.alt 2 (.take 3 (.take 4 (.take 5 (.ld 6 (.take 7 (.take 8 (.take 9 (.take 10 (.take 11 (.ld 12 (.alt 13 (.take 14 (.take 15 (.take 16 (.take 17 (.take 19 (.ld 18 (.ld 20 (.take 21 (.alt 22 (.take 23 (.take 24 (.take 25 (.take 26 (.take 28 (.take 32 (.take 35 (.ld 27 (.ld 29 (.take 30 (.take 31 (.ld 33 (.ld 36 (.take 37 (.alt 34 (.take 38 (.take 39 (.take 40 (.take 41 (.ld 42 (.alt 43 (.take 44 (.take 45 (.take 46 (.take 47 (.ld 48 (.alt 49 (.take 50 (.take 51 .fin)) .nil)))))) .nil)))))) .nil))))))))))))))) .nil))))))))) .nil))))))))))) .nil))
attribute [local go_sem] seS
set_option maxHeartbeats 8000000 in
include hm in
theorem sEdOk (k : GEd) : Holds Tryz.prog 133 [edA k] [] (.v (.bool (edB k))) [] := by
  refine holds_ref (ann := []) tabOk hm (byL [] [1000001]) Tryz.func133 (by kernel_rfl) rfl ?_
  obtain ⟨p, d, l, bx, by'⟩ := k
  have hc1 := l1In hm p 13 1048576
  have hc3 := sPrime hm p
  have hc4 := l1In hm d 2 (p - 1)
  have hc6 := l1In hm l 5 2097152
  have hc7 := sPrime hm l
  simp +decide only [Tryz.f133, go_sem, Nat.reduceAdd, Nat.reduceMul, Nat.reduceSub]
  cases e1 : inB p 13 1048576 with
  | false =>
    rw [e1] at hc1
    have e : edB ⟨p, d, l, bx, by'⟩ = false := by simp [edB, e1]
    refine Runs.draw (st1 := ?s1) (draws_ref (ann := []) tabOk (byL [] [1000001]) seS (by kernel_rfl) ?p1) ?q1
    case p1 =>
      intro K r X hK
      simp +decide (maxSteps := 9^7) (disch := first | omega | (simp only [ll]; omega)) only [if_pos, go_sem, Nat.reduceAdd, Nat.reduceMul, Nat.reduceSub]
      refine Runs.call hc1 ?_
      simp +decide (maxSteps := 9^7) (disch := first | omega | (simp only [ll]; omega)) only [if_pos, go_sem, Nat.reduceAdd, Nat.reduceMul, Nat.reduceSub]
      exact hK
    case q1 =>
      simp +decide (maxSteps := 9^7) only [e, go_sem, Nat.reduceAdd, Nat.reduceMul, Nat.reduceSub]
      exact Runs.ret_v
  | true =>
    rw [e1] at hc1
    have ip := inB_t e1
    have hh := half_p (p := p) (by omega)
    by_cases e2 : p.tmod 8 = 5
    case neg =>
      have e : edB ⟨p, d, l, bx, by'⟩ = false := by simp [edB, e2]
      refine Runs.draw (st1 := ?s2) (draws_ref (ann := []) tabOk (byL [] [1000001]) seS (by kernel_rfl) ?p2) ?q2
      case p2 =>
        intro K r X hK
        simp +decide (maxSteps := 9^7) (disch := first | omega | (simp only [ll]; omega)) only [if_pos, go_sem, Nat.reduceAdd, Nat.reduceMul, Nat.reduceSub]
        refine Runs.call hc1 ?_
        simp +decide (maxSteps := 9^7) (disch := first | omega | (simp only [ll]; omega)) only [e2, if_pos, go_sem, Nat.reduceAdd, Nat.reduceMul, Nat.reduceSub]
        exact hK
      case q2 =>
        simp +decide (maxSteps := 9^7) only [e, go_sem, Nat.reduceAdd, Nat.reduceMul, Nat.reduceSub]
        exact Runs.ret_v
    case pos =>
    cases e3 : primeZ p with
    | false =>
      rw [e3] at hc3
      have e : edB ⟨p, d, l, bx, by'⟩ = false := by simp [edB, e3]
      refine Runs.draw (st1 := ?s3) (draws_ref (ann := []) tabOk (byL [] [1000001]) seS (by kernel_rfl) ?p3) ?q3
      case p3 =>
        intro K r X hK
        simp +decide (maxSteps := 9^7) (disch := first | omega | (simp only [ll]; omega)) only [if_pos, go_sem, Nat.reduceAdd, Nat.reduceMul, Nat.reduceSub]
        refine Runs.call hc1 ?_
        simp +decide (maxSteps := 9^7) (disch := first | omega | (simp only [ll]; omega)) only [e2, if_pos, go_sem, Nat.reduceAdd, Nat.reduceMul, Nat.reduceSub]
        refine Runs.call hc3 ?_
        simp +decide (maxSteps := 9^7) (disch := first | omega | (simp only [ll]; omega)) only [if_pos, go_sem, Nat.reduceAdd, Nat.reduceMul, Nat.reduceSub]
        exact hK
      case q3 =>
        simp +decide (maxSteps := 9^7) only [e, go_sem, Nat.reduceAdd, Nat.reduceMul, Nat.reduceSub]
        exact Runs.ret_v
    | true =>
      rw [e3] at hc3
      cases e4 : inB d 2 (p - 1) with
      | false =>
        rw [e4] at hc4
        have e : edB ⟨p, d, l, bx, by'⟩ = false := by simp [edB, e4]
        refine Runs.draw (st1 := ?s4) (draws_ref (ann := []) tabOk (byL [] [1000001]) seS (by kernel_rfl) ?p4) ?q4
        case p4 =>
          intro K r X hK
          simp +decide (maxSteps := 9^7) (disch := first | omega | (simp only [ll]; omega)) only [if_pos, go_sem, Nat.reduceAdd, Nat.reduceMul, Nat.reduceSub]
          refine Runs.call hc1 ?_
          simp +decide (maxSteps := 9^7) (disch := first | omega | (simp only [ll]; omega)) only [e2, if_pos, go_sem, Nat.reduceAdd, Nat.reduceMul, Nat.reduceSub]
          refine Runs.call hc3 ?_
          simp +decide (maxSteps := 9^7) (disch := first | omega | (simp only [ll]; omega)) only [if_pos, go_sem, Nat.reduceAdd, Nat.reduceMul, Nat.reduceSub]
          refine Runs.call hc4 ?_
          simp +decide (maxSteps := 9^7) (disch := first | omega | (simp only [ll]; omega)) only [if_pos, go_sem, Nat.reduceAdd, Nat.reduceMul, Nat.reduceSub]
          exact hK
        case q4 =>
          simp +decide (maxSteps := 9^7) only [e, go_sem, Nat.reduceAdd, Nat.reduceMul, Nat.reduceSub]
          exact Runs.ret_v
      | true =>
        rw [e4] at hc4
        have id := inB_t e4
        have hc5 := l2Pow hm d p ((p.toNat - 1) / 2) (by omega) (by omega) (by omega) (by omega)
        by_cases e5 : powZ d ((p.toNat - 1) / 2) p = p - 1
        case neg =>
          have e : edB ⟨p, d, l, bx, by'⟩ = false := by simp [edB, e5]
          refine Runs.draw (st1 := ?s5) (draws_ref (ann := []) tabOk (byL [] [1000001]) seS (by kernel_rfl) ?p5) ?q5
          case p5 =>
            intro K r X hK
            simp +decide (maxSteps := 9^7) (disch := first | omega | (simp only [ll]; omega)) only [if_pos, go_sem, Nat.reduceAdd, Nat.reduceMul, Nat.reduceSub]
            refine Runs.call hc1 ?_
            simp +decide (maxSteps := 9^7) (disch := first | omega | (simp only [ll]; omega)) only [e2, if_pos, go_sem, Nat.reduceAdd, Nat.reduceMul, Nat.reduceSub]
            refine Runs.call hc3 ?_
            simp +decide (maxSteps := 9^7) (disch := first | omega | (simp only [ll]; omega)) only [if_pos, go_sem, Nat.reduceAdd, Nat.reduceMul, Nat.reduceSub]
            refine Runs.call hc4 ?_
            simp +decide (maxSteps := 9^7) (disch := first | omega | (simp only [ll]; omega)) only [hh, if_pos, go_sem, Nat.reduceAdd, Nat.reduceMul, Nat.reduceSub]
            refine Runs.call hc5 ?_
            simp +decide (maxSteps := 9^7) (disch := first | omega | (simp only [ll]; omega)) only [e5, if_pos, go_sem, Nat.reduceAdd, Nat.reduceMul, Nat.reduceSub]
            exact hK
          case q5 =>
            simp +decide (maxSteps := 9^7) only [e, go_sem, Nat.reduceAdd, Nat.reduceMul, Nat.reduceSub]
            exact Runs.ret_v
        case pos =>
        cases e6 : inB l 5 2097152 with
        | false =>
          rw [e6] at hc6
          have e : edB ⟨p, d, l, bx, by'⟩ = false := by simp [edB, e6]
          refine Runs.draw (st1 := ?s6) (draws_ref (ann := []) tabOk (byL [] [1000001]) seS (by kernel_rfl) ?p6) ?q6
          case p6 =>
            intro K r X hK
            simp +decide (maxSteps := 9^7) (disch := first | omega | (simp only [ll]; omega)) only [if_pos, go_sem, Nat.reduceAdd, Nat.reduceMul, Nat.reduceSub]
            refine Runs.call hc1 ?_
            simp +decide (maxSteps := 9^7) (disch := first | omega | (simp only [ll]; omega)) only [e2, if_pos, go_sem, Nat.reduceAdd, Nat.reduceMul, Nat.reduceSub]
            refine Runs.call hc3 ?_
            simp +decide (maxSteps := 9^7) (disch := first | omega | (simp only [ll]; omega)) only [if_pos, go_sem, Nat.reduceAdd, Nat.reduceMul, Nat.reduceSub]
            refine Runs.call hc4 ?_
            simp +decide (maxSteps := 9^7) (disch := first | omega | (simp only [ll]; omega)) only [hh, if_pos, go_sem, Nat.reduceAdd, Nat.reduceMul, Nat.reduceSub]
            refine Runs.call hc5 ?_
            simp +decide (maxSteps := 9^7) (disch := first | omega | (simp only [ll]; omega)) only [e5, if_pos, go_sem, Nat.reduceAdd, Nat.reduceMul, Nat.reduceSub]
            refine Runs.call hc6 ?_
            simp +decide (maxSteps := 9^7) (disch := first | omega | (simp only [ll]; omega)) only [if_pos, go_sem, Nat.reduceAdd, Nat.reduceMul, Nat.reduceSub]
            exact hK
          case q6 =>
            simp +decide (maxSteps := 9^7) only [e, go_sem, Nat.reduceAdd, Nat.reduceMul, Nat.reduceSub]
            exact Runs.ret_v
        | true =>
          rw [e6] at hc6
          cases e7 : primeZ l with
          | false =>
            rw [e7] at hc7
            have e : edB ⟨p, d, l, bx, by'⟩ = false := by simp [edB, e7]
            refine Runs.draw (st1 := ?s7) (draws_ref (ann := []) tabOk (byL [] [1000001]) seS (by kernel_rfl) ?p7) ?q7
            case p7 =>
              intro K r X hK
              simp +decide (maxSteps := 9^7) (disch := first | omega | (simp only [ll]; omega)) only [if_pos, go_sem, Nat.reduceAdd, Nat.reduceMul, Nat.reduceSub]
              refine Runs.call hc1 ?_
              simp +decide (maxSteps := 9^7) (disch := first | omega | (simp only [ll]; omega)) only [e2, if_pos, go_sem, Nat.reduceAdd, Nat.reduceMul, Nat.reduceSub]
              refine Runs.call hc3 ?_
              simp +decide (maxSteps := 9^7) (disch := first | omega | (simp only [ll]; omega)) only [if_pos, go_sem, Nat.reduceAdd, Nat.reduceMul, Nat.reduceSub]
              refine Runs.call hc4 ?_
              simp +decide (maxSteps := 9^7) (disch := first | omega | (simp only [ll]; omega)) only [hh, if_pos, go_sem, Nat.reduceAdd, Nat.reduceMul, Nat.reduceSub]
              refine Runs.call hc5 ?_
              simp +decide (maxSteps := 9^7) (disch := first | omega | (simp only [ll]; omega)) only [e5, if_pos, go_sem, Nat.reduceAdd, Nat.reduceMul, Nat.reduceSub]
              refine Runs.call hc6 ?_
              simp +decide (maxSteps := 9^7) (disch := first | omega | (simp only [ll]; omega)) only [if_pos, go_sem, Nat.reduceAdd, Nat.reduceMul, Nat.reduceSub]
              refine Runs.call hc7 ?_
              simp +decide (maxSteps := 9^7) (disch := first | omega | (simp only [ll]; omega)) only [if_pos, go_sem, Nat.reduceAdd, Nat.reduceMul, Nat.reduceSub]
              exact hK
            case q7 =>
              simp +decide (maxSteps := 9^7) only [e, go_sem, Nat.reduceAdd, Nat.reduceMul, Nat.reduceSub]
              exact Runs.ret_v
          | true =>
            rw [e7] at hc7
            have il := inB_t e6
            have hl : ((l.toNat : Nat) : Int) = l := Int.toNat_of_nonneg (by omega)
            have kin : EdIn ⟨p, d, l, bx, by'⟩ := ⟨by simp only; omega, by simp only; omega, by simp only; omega⟩
            refine Runs.draw (st1 := ?s8) (draws_ref (ann := []) tabOk (byL [] [1000001]) seS (by kernel_rfl) ?p8) ?q8
            case p8 =>
              intro K r X hK
              simp +decide (maxSteps := 9^7) (disch := first | omega | (simp only [ll]; omega)) only [if_pos, go_sem, Nat.reduceAdd, Nat.reduceMul, Nat.reduceSub]
              refine Runs.call hc1 ?_
              simp +decide (maxSteps := 9^7) (disch := first | omega | (simp only [ll]; omega)) only [e2, if_pos, go_sem, Nat.reduceAdd, Nat.reduceMul, Nat.reduceSub]
              refine Runs.call hc3 ?_
              simp +decide (maxSteps := 9^7) (disch := first | omega | (simp only [ll]; omega)) only [if_pos, go_sem, Nat.reduceAdd, Nat.reduceMul, Nat.reduceSub]
              refine Runs.call hc4 ?_
              simp +decide (maxSteps := 9^7) (disch := first | omega | (simp only [ll]; omega)) only [hh, if_pos, go_sem, Nat.reduceAdd, Nat.reduceMul, Nat.reduceSub]
              refine Runs.call hc5 ?_
              simp +decide (maxSteps := 9^7) (disch := first | omega | (simp only [ll]; omega)) only [e5, if_pos, go_sem, Nat.reduceAdd, Nat.reduceMul, Nat.reduceSub]
              refine Runs.call hc6 ?_
              simp +decide (maxSteps := 9^7) (disch := first | omega | (simp only [ll]; omega)) only [if_pos, go_sem, Nat.reduceAdd, Nat.reduceMul, Nat.reduceSub]
              refine Runs.call hc7 ?_
              simp +decide (maxSteps := 9^7) (disch := first | omega | (simp only [ll]; omega)) only [if_pos, go_sem, Nat.reduceAdd, Nat.reduceMul, Nat.reduceSub]
              exact hK
            case q8 =>
              simp +decide (maxSteps := 9^7) only [go_sem, Nat.reduceAdd, Nat.reduceMul, Nat.reduceSub]
              refine Runs.call (l4On hm ⟨p, d, l, bx, by'⟩ (bx, by') kin) ?_
              simp +decide (maxSteps := 9^7) only [go_sem, Nat.reduceAdd, Nat.reduceMul, Nat.reduceSub]
              refine Runs.split (fun c9 => ?_) (fun c9 => ?_)
              · have gin := eonZ_in c9
                have hM := l4Mul hm ⟨p, d, l, bx, by'⟩ l.toNat (bx, by') kin gin (by omega)
                simp only at hM
                rw [hl] at hM
                simp +decide (maxSteps := 9^7) only [go_sem, Nat.reduceAdd, Nat.reduceMul, Nat.reduceSub]
                refine Runs.split (fun c10 => ?_) (fun c10 => ?_)
                · simp +decide (maxSteps := 9^7) only [go_sem, Nat.reduceAdd, Nat.reduceMul, Nat.reduceSub]
                  refine Runs.call hM ?_
                  simp +decide (maxSteps := 9^7) only [go_sem, Nat.reduceAdd, Nat.reduceMul, Nat.reduceSub]
                  exact Runs.ret_eq (by simp at c10; simp [edB, e1, e2, e3, e4, e5, e6, e7, c9]; exact fun _ _ => c10)
                · have e : edB ⟨p, d, l, bx, by'⟩ = false := by simp at c10; simp [edB, c10]
                  simp +decide (maxSteps := 9^7) only [e, go_sem, Nat.reduceAdd, Nat.reduceMul, Nat.reduceSub]
                  exact Runs.ret_v
              · have e : edB ⟨p, d, l, bx, by'⟩ = false := by simp [edB, c9]
                simp +decide (maxSteps := 9^7) only [e, go_sem, Nat.reduceAdd, Nat.reduceMul, Nat.reduceSub]
                exact Runs.ret_v
def ieS : Sched := .take 0 (.take 2 (.take 6 (.ld 1 (.ld 3 (.take 4 (.take 5 (.ld 7 (.alt 8 (.take 9 (.take 10 (.ld 11 (.ld 12 (.alt 13 (.alt 14 (.take 15 (.take 16 (.take 17 (.ld 18 (.alt 19 (.alt 20 (.take 21 (.take 22 .fin)) .nil) (.alt 20 (.alt 19 (.take 21 (.take 22 .fin)) .nil) .nil)))))) .nil) .nil))))) .nil))))))))
def ieT : Sched := .take 1 (.ld 0 (.ld 2 (.ld 3 (.alt 4 (.alt 5 (.alt 6 (.take 7 (.take 8 .fin)) .nil) (.alt 6 (.alt 5 (.take 7 (.take 8 .fin)) .nil) .nil)) (.alt 6 (.alt 4 (.alt 5 (.take 7 (.take 8 .fin)) .nil) .nil) .nil)))))
attribute [local go_sem] ieS ieT
set_option maxHeartbeats 8000000 in
include hm in
theorem iEdOk (k : GEd) : Holds Tryz.prog 157 [edA k] [] (.v (.bool (edB k))) [] := by
  refine holds_ref (ann := []) tabOk hm (byL [] [1000001]) Tryz.func157 (by kernel_rfl) rfl ?_
  obtain ⟨p, d, l, bx, by'⟩ := k
  simp +decide only [Tryz.f157, go_sem, Nat.reduceAdd, Nat.reduceMul, Nat.reduceSub]
  refine Runs.call (within hm p 13 1048576) ?_
  simp +decide (maxSteps := 9^7) only [go_sem, Nat.reduceAdd, Nat.reduceMul, Nat.reduceSub]
  refine Runs.split (fun e1 => ?_) (fun e1 => ?_)
  · have e : edB ⟨p, d, l, bx, by'⟩ = false := by simp only [Bool.not_eq_true'] at e1; simp [edB, e1]
    simp +decide (maxSteps := 9^7) only [e, go_sem, Nat.reduceAdd, Nat.reduceMul, Nat.reduceSub]
    exact Runs.ret_v
  simp only [Bool.not_eq_false'] at e1
  have ip := inB_t e1
  simp +decide (maxSteps := 9^7) (disch := first | omega | (simp only [ll]; omega)) only [if_pos, go_sem, Nat.reduceAdd, Nat.reduceMul, Nat.reduceSub]
  refine Runs.split (fun c2 => ?_) (fun c2 => ?_)
  · have e : edB ⟨p, d, l, bx, by'⟩ = false := by
      have : ¬ p.tmod 8 = 5 := by simpa using c2
      simp [edB, this]
    simp +decide (maxSteps := 9^7) only [e, go_sem, Nat.reduceAdd, Nat.reduceMul, Nat.reduceSub]
    exact Runs.ret_v
  have e2 : p.tmod 8 = 5 := by simpa using c2
  simp +decide (maxSteps := 9^7) (disch := first | omega | (simp only [ll]; omega)) only [if_pos, go_sem, Nat.reduceAdd, Nat.reduceMul, Nat.reduceSub]
  refine Runs.call (within hm d 2 (p - 1)) ?_
  simp +decide (maxSteps := 9^7) only [go_sem, Nat.reduceAdd, Nat.reduceMul, Nat.reduceSub]
  refine Runs.split (fun e4 => ?_) (fun e4 => ?_)
  · have e : edB ⟨p, d, l, bx, by'⟩ = false := by simp only [Bool.not_eq_true'] at e4; simp [edB, e4]
    simp +decide (maxSteps := 9^7) only [e, go_sem, Nat.reduceAdd, Nat.reduceMul, Nat.reduceSub]
    exact Runs.ret_v
  simp only [Bool.not_eq_false'] at e4
  have id := inB_t e4
  simp +decide (maxSteps := 9^7) (disch := first | omega | (simp only [ll]; omega)) only [if_pos, go_sem, Nat.reduceAdd, Nat.reduceMul, Nat.reduceSub]
  refine Runs.call (within hm l 5 2097152) ?_
  simp +decide (maxSteps := 9^7) only [go_sem, Nat.reduceAdd, Nat.reduceMul, Nat.reduceSub]
  refine Runs.split (fun e6 => ?_) (fun e6 => ?_)
  · have e : edB ⟨p, d, l, bx, by'⟩ = false := by simp only [Bool.not_eq_true'] at e6; simp [edB, e6]
    simp +decide (maxSteps := 9^7) only [e, go_sem, Nat.reduceAdd, Nat.reduceMul, Nat.reduceSub]
    exact Runs.ret_v
  simp only [Bool.not_eq_false'] at e6
  have il := inB_t e6
  simp +decide (maxSteps := 9^7) (disch := first | omega | (simp only [ll]; omega)) only [if_pos, go_sem, Nat.reduceAdd, Nat.reduceMul, Nat.reduceSub]
  refine Runs.call (iPrime hm p) ?_
  simp +decide (maxSteps := 9^7) only [go_sem, Nat.reduceAdd, Nat.reduceMul, Nat.reduceSub]
  refine Runs.split (fun e3 => ?_) (fun e3 => ?_)
  · have e : edB ⟨p, d, l, bx, by'⟩ = false := by simp only [Bool.not_eq_true'] at e3; simp [edB, e3]
    simp +decide (maxSteps := 9^7) only [e, go_sem, Nat.reduceAdd, Nat.reduceMul, Nat.reduceSub]
    exact Runs.ret_v
  simp only [Bool.not_eq_false'] at e3
  have ep := (primeZ_of e3).2.2
  simp +decide (maxSteps := 9^7) (disch := first | omega | (simp only [ll]; omega)) only [if_pos, go_sem, Nat.reduceAdd, Nat.reduceMul, Nat.reduceSub]
  refine Runs.call (iPrime hm l) ?_
  simp +decide (maxSteps := 9^7) only [go_sem, Nat.reduceAdd, Nat.reduceMul, Nat.reduceSub]
  refine Runs.split (fun e7 => ?_) (fun e7 => ?_)
  · have e : edB ⟨p, d, l, bx, by'⟩ = false := by simp only [Bool.not_eq_true'] at e7; simp [edB, e7]
    simp +decide (maxSteps := 9^7) only [e, go_sem, Nat.reduceAdd, Nat.reduceMul, Nat.reduceSub]
    exact Runs.ret_v
  simp only [Bool.not_eq_false'] at e7
  skip
  simp +decide (maxSteps := 9^7) (disch := first | omega | (simp only [ll]; omega)) only [if_pos, go_sem, Nat.reduceAdd, Nat.reduceMul, Nat.reduceSub]
  have hl : ((l.toNat : Nat) : Int) = l := Int.toNat_of_nonneg (by omega)
  have kin : EdIn ⟨p, d, l, bx, by'⟩ := ⟨by simp only; omega, by simp only; omega, by simp only; omega⟩
  have hh := half_p (p := p) (by omega)
  have e8 : p % 8 = 5 := by rw [Int.tmod_eq_emod_of_nonneg (by omega)] at e2; exact e2
  have hd := d_same (D := d) (by omega) ep e8 (by omega)
  have hc5 := powInt hm d p ((p.toNat - 1) / 2) (by omega) (by omega) (by omega) (by omega)
  have hB := baseE hm ⟨p, d, l, bx, by'⟩
  have hP := isPair hm ⟨p, d, l, bx, by'⟩ (bx, by') kin
  simp only at hB hP
  by_cases e5 : powZ d ((p.toNat - 1) / 2) p = 1
  · have e : edB ⟨p, d, l, bx, by'⟩ = false := by
      have : ¬ powZ d ((p.toNat - 1) / 2) p = p - 1 := fun h => hd.mp h e5
      simp [edB, this]
    rw [e5] at hc5
    refine Runs.draw (st1 := ?s1) (draws_ref (ann := []) tabOk (byL [] [1000001]) ieS (by kernel_rfl) ?p1) ?q1
    case p1 =>
      intro K r X hK
      simp +decide (maxSteps := 9^7) (disch := first | omega | (simp only [ll]; omega)) only [hh, if_pos, go_sem, Nat.reduceAdd, Nat.reduceMul, Nat.reduceSub]
      refine Runs.call hc5 ?_
      simp +decide (maxSteps := 9^7) (disch := first | omega | (simp only [ll]; omega)) only [if_pos, go_sem, Nat.reduceAdd, Nat.reduceMul, Nat.reduceSub]
      exact hK
    case q1 =>
      simp +decide (maxSteps := 9^7) only [e, go_sem, Nat.reduceAdd, Nat.reduceMul, Nat.reduceSub]
      exact Runs.ret_v
  · have e5' := hd.mpr e5
    cases e9 : eonZ p d (bx, by') with
    | false =>
      have e : edB ⟨p, d, l, bx, by'⟩ = false := by simp [edB, e9]
      rw [e9] at hP
      refine Runs.draw (st1 := ?s2) (draws_ref (ann := []) tabOk (byL [] [1000001]) ieS (by kernel_rfl) ?p2) ?q2
      case p2 =>
        intro K r X hK
        simp +decide (maxSteps := 9^7) (disch := first | omega | (simp only [ll]; omega)) only [hh, if_pos, go_sem, Nat.reduceAdd, Nat.reduceMul, Nat.reduceSub]
        refine Runs.call hc5 ?_
        simp +decide (maxSteps := 9^7) (disch := first | omega | (simp only [ll]; omega)) only [e5, if_pos, go_sem, Nat.reduceAdd, Nat.reduceMul, Nat.reduceSub]
        refine Runs.call hB ?_
        simp +decide (maxSteps := 9^7) (disch := first | omega | (simp only [ll]; omega)) only [if_pos, go_sem, Nat.reduceAdd, Nat.reduceMul, Nat.reduceSub]
        refine Runs.call hP ?_
        simp +decide (maxSteps := 9^7) (disch := first | omega | (simp only [ll]; omega)) only [if_pos, go_sem, Nat.reduceAdd, Nat.reduceMul, Nat.reduceSub]
        exact hK
      case q2 =>
        simp +decide (maxSteps := 9^7) only [e, go_sem, Nat.reduceAdd, Nat.reduceMul, Nat.reduceSub]
        exact Runs.ret_v
    | true =>
      rw [e9] at hP
      by_cases e10 : bx = 0 ∧ by' = 1
      · obtain ⟨rfl, rfl⟩ := e10
        have e : edB ⟨p, d, l, 0, 1⟩ = false := by simp [edB]
        refine Runs.draw (st1 := ?s3) (draws_ref (ann := []) tabOk (byL [] [1000001]) ieS (by kernel_rfl) ?p3) ?q3
        case p3 =>
          intro K r X hK
          simp +decide (maxSteps := 9^7) (disch := first | omega | (simp only [ll]; omega)) only [hh, if_pos, go_sem, Nat.reduceAdd, Nat.reduceMul, Nat.reduceSub]
          refine Runs.call hc5 ?_
          simp +decide (maxSteps := 9^7) (disch := first | omega | (simp only [ll]; omega)) only [e5, if_pos, go_sem, Nat.reduceAdd, Nat.reduceMul, Nat.reduceSub]
          refine Runs.call hB ?_
          simp +decide (maxSteps := 9^7) (disch := first | omega | (simp only [ll]; omega)) only [if_pos, go_sem, Nat.reduceAdd, Nat.reduceMul, Nat.reduceSub]
          refine Runs.call hP ?_
          simp +decide (maxSteps := 9^7) (disch := first | omega | (simp only [ll]; omega)) only [if_pos, go_sem, Nat.reduceAdd, Nat.reduceMul, Nat.reduceSub]
          repeat' apply And.intro
          all_goals
            refine Runs.call hB ?_
            simp +decide (maxSteps := 9^7) (disch := first | omega | (simp only [ll]; omega)) only [if_pos, go_sem, Nat.reduceAdd, Nat.reduceMul, Nat.reduceSub]
            exact hK
        case q3 =>
          simp +decide (maxSteps := 9^7) only [e, go_sem, Nat.reduceAdd, Nat.reduceMul, Nat.reduceSub]
          exact Runs.ret_v
      · have e10' : (decide (bx = 0) && decide (by' = 1)) = false := by simp; omega
        have gin := eonZ_in e9
        have hM := timesE hm ⟨p, d, l, bx, by'⟩ l.toNat (bx, by') kin gin (by omega)
        simp only at hM
        rw [hl, etimes_same (by omega) ep e8 (by omega) e5' e9 l.toNat] at hM
        refine Runs.draw (st1 := ?s4) (draws_ref (ann := []) tabOk (byL [] [1000001]) ieS (by kernel_rfl) ?p4) ?q4
        case p4 =>
          intro K r X hK
          simp +decide (maxSteps := 9^7) (disch := first | omega | (simp only [ll]; omega)) only [hh, if_pos, go_sem, Nat.reduceAdd, Nat.reduceMul, Nat.reduceSub]
          refine Runs.call hc5 ?_
          simp +decide (maxSteps := 9^7) (disch := first | omega | (simp only [ll]; omega)) only [e5, if_pos, go_sem, Nat.reduceAdd, Nat.reduceMul, Nat.reduceSub]
          refine Runs.call hB ?_
          simp +decide (maxSteps := 9^7) (disch := first | omega | (simp only [ll]; omega)) only [if_pos, go_sem, Nat.reduceAdd, Nat.reduceMul, Nat.reduceSub]
          refine Runs.call hP ?_
          simp +decide (maxSteps := 9^7) (disch := first | omega | (simp only [ll]; omega)) only [if_pos, go_sem, Nat.reduceAdd, Nat.reduceMul, Nat.reduceSub]
          repeat' apply And.intro
          all_goals
            refine Runs.call hB ?_
            simp +decide (maxSteps := 9^7) (disch := first | omega | (simp only [ll]; omega)) only [e10', if_pos, go_sem, Nat.reduceAdd, Nat.reduceMul, Nat.reduceSub]
            exact hK
        case q4 =>
          simp +decide (maxSteps := 9^7) only [e10', go_sem, Nat.reduceAdd, Nat.reduceMul, Nat.reduceSub]
          refine Runs.draw (st1 := ?s5) (draws_ref (ann := []) tabOk (byL [] [1000001]) ieT (by kernel_rfl) ?p5) ?q5
          case p5 =>
            intro K r X hK
            simp +decide (maxSteps := 9^7) (disch := first | omega | (simp only [ll]; omega)) only [if_pos, go_sem, Nat.reduceAdd, Nat.reduceMul, Nat.reduceSub]
            repeat' apply And.intro
            all_goals
              refine Runs.call hB ?_
              simp +decide (maxSteps := 9^7) (disch := first | omega | (simp only [ll]; omega)) only [if_pos, go_sem, Nat.reduceAdd, Nat.reduceMul, Nat.reduceSub]
              repeat' apply And.intro
              all_goals
                refine Runs.call hM ?_
                simp +decide (maxSteps := 9^7) (disch := first | omega | (simp only [ll]; omega)) only [if_pos, go_sem, Nat.reduceAdd, Nat.reduceMul, Nat.reduceSub]
                exact hK
          case q5 =>
            simp +decide (maxSteps := 9^7) only [go_sem, Nat.reduceAdd, Nat.reduceMul, Nat.reduceSub]
            exact Runs.ret_eq (by simp [edB, e1, e2, e3, e4, e5', e6, e7, e9, e10'])
include hm in
theorem sPairOk (k : GEd) (P : GPr) : Holds Tryz.prog 90 [edA k, prA P] [] (.v (.bool (edB k && eonZ k.p k.d P))) [] := by
  refine holds_ref (ann := []) tabOk hm (byL [] [1000002, 1000003]) Tryz.func90 (by kernel_rfl) rfl ?_
  simp +decide only [Tryz.f90, go_sem, Nat.reduceAdd, Nat.reduceMul, Nat.reduceSub]
  refine Runs.call (sEdOk hm k) ?_
  simp +decide only [go_sem, Nat.reduceAdd, Nat.reduceMul, Nat.reduceSub]
  refine Runs.split (fun c => ?_) (fun c => ?_)
  · simp +decide only [go_sem, Nat.reduceAdd, Nat.reduceMul, Nat.reduceSub]
    refine Runs.call (l4On hm k P (ed_in c)) ?_
    simp +decide only [c, go_sem, Nat.reduceAdd, Nat.reduceMul, Nat.reduceSub]
    exact Runs.ret_eq (by simp)
  · simp +decide only [c, go_sem, Nat.reduceAdd, Nat.reduceMul, Nat.reduceSub]
    exact Runs.ret_eq (by simp)
include hm in
theorem iPairOk (k : GEd) (P : GPr) : Holds Tryz.prog 117 [edA k, prA P] [] (.v (.bool (edB k && eonZ k.p k.d P))) [] := by
  refine holds_ref (ann := []) tabOk hm (byL [] [1000002, 1000003]) Tryz.func117 (by kernel_rfl) rfl ?_
  simp +decide only [Tryz.f117, go_sem, Nat.reduceAdd, Nat.reduceMul, Nat.reduceSub]
  refine Runs.call (iEdOk hm k) ?_
  simp +decide only [go_sem, Nat.reduceAdd, Nat.reduceMul, Nat.reduceSub]
  refine Runs.split (fun c => ?_) (fun c => ?_)
  · simp +decide only [go_sem, Nat.reduceAdd, Nat.reduceMul, Nat.reduceSub]
    refine Runs.call (isPair hm k P (ed_in c)) ?_
    simp +decide only [c, go_sem, Nat.reduceAdd, Nat.reduceMul, Nat.reduceSub]
    exact Runs.ret_eq (by simp)
  · simp +decide only [c, go_sem, Nat.reduceAdd, Nat.reduceMul, Nat.reduceSub]
    exact Runs.ret_eq (by simp)
end Go.Proofs.W

namespace Go.Proofs.W
open Go Go.AM Go.Proofs.G
set_option maxRecDepth 10000
variable (hm : Tryz.prog.follows .mixedOrders = true)
attribute [local go_sem] edA prA cvA ptA
structure GKey where
  kind : Int
  N : List Int
  e : Int
  cv : GCv
  q : GPt
  ed : GEd
  a : GPr
def keyA (k : GKey) : A := .agg [.v (.int .i64 k.kind), .sl .sh (k.N.map intA), .v (.int .i64 k.e), .v (.int .i64 k.cv.p), .v (.int .i64 k.cv.a), .v (.int .i64 k.cv.b), .v (.int .i64 k.cv.n), .v (.int .i64 k.cv.gx), .v (.int .i64 k.cv.gy),
  .v (.int .i64 k.q.x), .v (.int .i64 k.q.y), .v (.bool k.q.far), .v (.int .i64 k.ed.p), .v (.int .i64 k.ed.d), .v (.int .i64 k.ed.l), .v (.int .i64 k.ed.bx), .v (.int .i64 k.ed.by'), .v (.int .i64 k.a.1), .v (.int .i64 k.a.2)]
attribute [local go_sem] keyA
def eqCv (k k' : GCv) : Bool := decide (k.p = k'.p) && (decide (k.a = k'.a) && (decide (k.b = k'.b) && (decide (k.n = k'.n) && (decide (k.gx = k'.gx) && decide (k.gy = k'.gy)))))
def eqPt (k k' : GPt) : Bool := decide (k.x = k'.x) && (decide (k.y = k'.y) && (k.far == k'.far))
def eqEd (k k' : GEd) : Bool := decide (k.p = k'.p) && (decide (k.d = k'.d) && (decide (k.l = k'.l) && (decide (k.bx = k'.bx) && decide (k.by' = k'.by'))))
def eqPr (k k' : GPr) : Bool := decide (k.1 = k'.1) && decide (k.2 = k'.2)
def cv0 : GCv := ⟨0, 0, 0, 0, 0, 0⟩
def pt0 : GPt := ⟨0, 0, false⟩
def ed0 : GEd := ⟨0, 0, 0, 0, 0⟩
def pr0 : GPr := (0, 0)
def noCurve (k : GKey) : Bool := eqCv k.cv cv0 && eqPt k.q pt0
def noEd (k : GKey) : Bool := eqEd k.ed ed0 && eqPr k.a pr0
def noRsa (k : GKey) : Bool := decide (k.N.length = 0) && decide (k.e = 0)
def lowD (N : List Int) : Int := N.getD 0 0
def topD (N : List Int) : Int := N.getD (N.length - 1) 0
def natB (N : List Int) : Bool := (N.all fun n => inB n 0 65535) && (decide (N.length ≤ 64) && (decide (N.length = 0) || !decide (topD N = 0)))
def bitsZ (N : List Int) : Int := if N.length = 0 then 0 else 16 * ((N.length : Int) - 1) + blen (topD N).toNat
noncomputable def keyB (k : GKey) : Bool :=
  if k.kind = 1 then noCurve k && (noEd k && (natB k.N && (inB (bitsZ k.N) 128 512 && (decide ((lowD k.N).tmod 2 = 1) && (inB k.e 3 65537 && decide (k.e.tmod 2 = 1))))))
  else if k.kind = 2 then noRsa k && (noEd k && ((curveB k.cv && onZ k.cv.p k.cv.a k.cv.b k.q) && (!k.q.far && (mulL (addZ k.cv.p k.cv.a) k.cv.n.toNat farP k.q).far)))
  else if k.kind = 3 then noRsa k && (noCurve k && (edB k.ed && eonZ k.ed.p k.ed.d k.a))
  else false
theorem getIntA {N : List Int} {i : Nat} (h : i < N.length) : (N.map intA).getD i .any = .v (.int .i64 (N.getD i 0)) := by simp [List.getD, h, intA]
theorem nat_top {N : List Int} (h : natB N = true) (h0 : N.length ≠ 0) : N.length ≤ 64 ∧ 0 < topD N ∧ topD N ≤ 65535 := by
  simp only [natB, Bool.and_eq_true, decide_eq_true_eq, Bool.or_eq_true, List.all_eq_true, Bool.not_eq_true', decide_eq_false_iff_not] at h
  obtain ⟨h1, h2, h3⟩ := h
  have hm := h1 (topD N) (by
    have : topD N = N[N.length - 1] := by simp [topD, List.getD, show N.length - 1 < N.length by omega]
    rw [this]
    exact List.getElem_mem _)
  have := inB_t hm
  omega
def snAnn : Ann := [(0, [0, 3])]
def snSt (L : List Int) (i : Nat) : St := ⟨[.sl .sh (L.map intA), .any, .any, .v (.int .i64 i), .any, .any, .any, .any, .any, .any, .any, .any, .any, .any, .any, .any, .any, .any, .any, .any, .any, .any, .any, .any, .any, .any, .any, .any, .any, .any, .any, .any, .any], [], []⟩
include hm in
theorem sNatOk (L : List Int) (h3 : L.length ≤ 9223372036854775807) : Holds Tryz.prog 85 [.sl .sh (L.map intA)] [] (.v (.bool (natB L))) [] := by
  refine holds_of (ann := snAnn) tabOk hm Tryz.func85 (by kernel_rfl) rfl ?_
  simp +decide only [Tryz.f85, go_sem, Nat.reduceAdd, Nat.reduceMul, Nat.reduceSub]
  refine Runs.while (α := Nat) (snSt L) (fun i => L.length - i) (fun i => i ≤ L.length ∧ ((L.drop i).all fun n => inB n 0 65535) = L.all fun n => inB n 0 65535) 0 ⟨by omega, by simp⟩ ?_ ?_
  · simp [go_sem, snAnn, snSt]
  · rintro i ⟨hi1, hr⟩ ih
    simp +decide only [snSt, go_sem, Nat.reduceAdd, Nat.reduceMul, Nat.reduceSub]
    refine Runs.split (fun h => ?_) (fun h => ?_)
    · have hlt : i < L.length := by simpa using h
      rw [List.drop_eq_getElem_cons hlt, List.all_cons] at hr
      simp +decide (disch := first | omega | (simp only [ll]; omega)) only [if_pos, go_sem, Nat.reduceAdd, Nat.reduceMul, Nat.reduceSub]
      refine Runs.call (l1In hm L[i] 0 65535) ?_
      simp +decide only [go_sem, Nat.reduceAdd, Nat.reduceMul, Nat.reduceSub]
      refine Runs.split (fun h => ?_) (fun h => ?_)
      · simp only [Bool.not_eq_true'] at h
        have e : natB L = false := by rw [natB, ← hr, h]; rfl
        simp +decide only [e, go_sem, Nat.reduceAdd, Nat.reduceMul, Nat.reduceSub]
        exact Runs.ret_v
      · simp only [Bool.not_eq_false'] at h
        rw [h, Bool.true_and] at hr
        simp +decide (disch := first | omega | (simp only [ll]; omega)) only [if_pos, go_sem, Nat.reduceAdd, Nat.reduceMul, Nat.reduceSub]
        refine ih (i + 1) _ (by omega) ⟨by omega, hr⟩ ?_
        simp [go_sem, snAnn, snSt]
    · have hge : i = L.length := by simp at h; omega
      subst hge
      rw [List.drop_length, List.all_nil] at hr
      simp +decide only [go_sem, Nat.reduceAdd, Nat.reduceMul, Nat.reduceSub]
      refine Runs.split (fun h => ?_) (fun h => ?_)
      · have hle : L.length ≤ 64 := by simp at h; omega
        simp +decide only [go_sem, Nat.reduceAdd, Nat.reduceMul, Nat.reduceSub]
        refine Runs.split (fun h => ?_) (fun h => ?_)
        · have h0 : L.length = 0 := by simp at h; exact List.length_eq_zero_iff.mpr h
          simp +decide only [go_sem, Nat.reduceAdd, Nat.reduceMul, Nat.reduceSub]
          exact Runs.ret_eq (by simp [natB, ← hr, hle, h0])
        · have h0 : L.length ≠ 0 := by simp at h; intro e; exact h (List.length_eq_zero_iff.mp e)
          have ht : ((L.length : Int) - 1).toNat = L.length - 1 := by omega
          have hg := getIntA (N := L) (i := L.length - 1) (by omega)
          have hb : decide (0 ≤ (L.length : Int) - 1 ∧ (L.length : Int) - 1 < L.length) = true := by simp; omega
          simp +decide (disch := first | omega | (simp only [ll]; omega)) only [ht, hg, hb, if_pos, go_sem, Nat.reduceAdd, Nat.reduceMul, Nat.reduceSub]
          exact Runs.ret_eq (by simp [natB, ← hr, hle, h0, topD])
      · have hle : ¬ L.length ≤ 64 := by simp at h; omega
        simp +decide only [go_sem, Nat.reduceAdd, Nat.reduceMul, Nat.reduceSub]
        exact Runs.ret_eq (by simp [natB, hle])
include hm in
theorem iNatOk (L : List Int) (h3 : L.length ≤ 9223372036854775807) : Holds Tryz.prog 113 [.sl .sh (L.map intA)] [] (.v (.bool (natB L))) [] := by
  refine holds_of (ann := []) tabOk hm Tryz.func113 (by kernel_rfl) rfl ?_
  simp +decide only [Tryz.f113, go_sem, Nat.reduceAdd, Nat.reduceMul, Nat.reduceSub]
  refine Runs.split (fun h => ?_) (fun h => ?_)
  · have hle : L.length ≤ 64 := by simp at h; omega
    simp +decide only [go_sem, Nat.reduceAdd, Nat.reduceMul, Nat.reduceSub]
    refine Runs.call (allWithin hm L 0 65535 h3) ?_
    simp +decide only [go_sem, Nat.reduceAdd, Nat.reduceMul, Nat.reduceSub]
    refine Runs.split (fun ha => ?_) (fun ha => ?_)
    · simp +decide only [go_sem, Nat.reduceAdd, Nat.reduceMul, Nat.reduceSub]
      refine Runs.split (fun h => ?_) (fun h => ?_)
      · have h0 : L.length = 0 := by simp at h; exact List.length_eq_zero_iff.mpr h
        simp +decide only [go_sem, Nat.reduceAdd, Nat.reduceMul, Nat.reduceSub]
        exact Runs.ret_eq (by simp only [natB, ha, hle, h0]; simp)
      · have h0 : L.length ≠ 0 := by simp at h; intro e; exact h (List.length_eq_zero_iff.mp e)
        have ht : ((L.length : Int) - 1).toNat = L.length - 1 := by omega
        have hg := getIntA (N := L) (i := L.length - 1) (by omega)
        have hb : decide (0 ≤ (L.length : Int) - 1 ∧ (L.length : Int) - 1 < L.length) = true := by simp; omega
        simp +decide (disch := first | omega | (simp only [ll]; omega)) only [ht, hg, hb, if_pos, go_sem, Nat.reduceAdd, Nat.reduceMul, Nat.reduceSub]
        exact Runs.ret_eq (by simp only [natB, ha, hle, h0, topD]; simp)
    · simp +decide only [go_sem, Nat.reduceAdd, Nat.reduceMul, Nat.reduceSub]
      exact Runs.ret_eq (by simp only [natB, ha]; rfl)
  · have hle : ¬ L.length ≤ 64 := by simp at h; omega
    simp +decide only [go_sem, Nat.reduceAdd, Nat.reduceMul, Nat.reduceSub]
    exact Runs.ret_eq (by simp [natB, hle])
def lbAnn : Ann := [(0, [3, 4])]
def lbSt (p : Nat × Int) : St := ⟨[.any, .any, .any, .v (.int .i64 p.2), .v (.int .i64 p.1), .any, .any, .any, .any, .any, .any, .any, .any, .any, .any, .any, .any, .any, .any, .any, .any, .any, .any, .any, .any], [], []⟩
include hm in
theorem l1Bits (L : List Int) (h : natB L = true) : Holds Tryz.prog 86 [.sl .sh (L.map intA)] [] (.v (.int .i64 (bitsZ L))) [] := by
  refine holds_of (ann := lbAnn) tabOk hm Tryz.func86 (by kernel_rfl) rfl ?_
  by_cases h0 : L.length = 0
  · simp +decide only [Tryz.f86, h0, go_sem, Nat.reduceAdd, Nat.reduceMul, Nat.reduceSub]
    exact Runs.ret_eq (by simp [bitsZ, h0])
  · obtain ⟨l1, l2, l3⟩ := nat_top h h0
    have ht : ((L.length : Int) - 1).toNat = L.length - 1 := by omega
    have hg := getIntA (N := L) (i := L.length - 1) (by omega)
    have hb : decide (0 ≤ (L.length : Int) - 1 ∧ (L.length : Int) - 1 < L.length) = true := by simp; omega
    have hz : decide ((L.length : Int) = 0) = false := by simp; intro e; exact h0 (by simp [e])
    rw [show L.getD (L.length - 1) 0 = topD L from rfl] at hg
    obtain ⟨x0, hx0⟩ := nat_of (show 0 ≤ topD L by omega)
    have hbits : bitsZ L = 16 * ((L.length : Int) - 1) + blen x0 := by simp [bitsZ, h0, hx0]
    have hl : blen x0 ≤ 16 := blen_le (by omega)
    rw [hbits]
    simp +decide (disch := first | omega | (simp only [ll]; omega)) only [Tryz.f86, ht, hg, hb, hz, hx0, if_pos, go_sem, Nat.reduceAdd, Nat.reduceMul, Nat.reduceSub]
    refine Runs.while (α := Nat × Int) lbSt (fun p => p.1) (fun p => p.1 ≤ x0 ∧ 0 ≤ p.2 ∧ p.2 + blen p.1 = 16 * ((L.length : Int) - 1) + blen x0) (x0, 16 * ((L.length : Int) - 1)) ⟨Nat.le_refl _, by simp only; omega, rfl⟩ ?_ ?_
    · simp [go_sem, lbAnn, lbSt]
    · rintro ⟨x, r⟩ ⟨hx, hr0, hr⟩ ih
      simp only at hx hr0 hr
      simp +decide only [lbSt, go_sem, Nat.reduceAdd, Nat.reduceMul, Nat.reduceSub]
      refine Runs.split (fun h => ?_) (fun h => ?_)
      · have hs : x ≠ 0 := by simp at h; omega
        rw [blen_pos hs] at hr
        have e4 := tdiv_nat x 2
        have w3 : IntKind.i64.wrap ((x / 2 : Nat) : Int) = ((x / 2 : Nat) : Int) := wrap_i64 (by omega) (by omega)
        simp +decide (disch := first | omega | (simp only [ll]; omega)) only [e4, w3, if_pos, go_sem, Nat.reduceAdd, Nat.reduceMul, Nat.reduceSub]
        refine ih (x / 2, r + 1) _ (by simp only; omega) ⟨by simp only; omega, by simp only; omega, by simp only; omega⟩ ?_
        have w4 : IntKind.i64.wrap ((x : Int) / 2) = (x : Int) / 2 := w3
        simp [go_sem, lbAnn, lbSt, w4]
      · have hs : x = 0 := by simp at h; omega
        subst hs
        rw [blen_zero] at hr
        simp +decide only [go_sem, Nat.reduceAdd, Nat.reduceMul, Nat.reduceSub]
        exact Runs.ret_eq (by rw [← hr]; simp)
include hm in
theorem natBits (L : List Int) (h : natB L = true) : Holds Tryz.prog 114 [.sl .sh (L.map intA)] [] (.v (.int .i64 (bitsZ L))) [] := by
  refine holds_of (ann := []) tabOk hm Tryz.func114 (by kernel_rfl) rfl ?_
  by_cases h0 : L.length = 0
  · simp +decide only [Tryz.f114, h0, go_sem, Nat.reduceAdd, Nat.reduceMul, Nat.reduceSub]
    exact Runs.ret_eq (by simp [bitsZ, h0])
  · obtain ⟨l1, l2, l3⟩ := nat_top h h0
    have ht : ((L.length : Int) - 1).toNat = L.length - 1 := by omega
    have hg := getIntA (N := L) (i := L.length - 1) (by omega)
    have hb : decide (0 ≤ (L.length : Int) - 1 ∧ (L.length : Int) - 1 < L.length) = true := by simp; omega
    have hz : decide ((L.length : Int) = 0) = false := by simp; intro e; exact h0 (by simp [e])
    rw [show L.getD (L.length - 1) 0 = topD L from rfl] at hg
    obtain ⟨x0, hx0⟩ := nat_of (show 0 ≤ topD L by omega)
    have hbits : bitsZ L = 16 * ((L.length : Int) - 1) + blen x0 := by simp [bitsZ, h0, hx0]
    have hl : blen x0 ≤ 16 := blen_le (by omega)
    rw [hbits]
    simp +decide (disch := first | omega | (simp only [ll]; omega)) only [Tryz.f114, ht, hg, hb, hz, hx0, if_pos, go_sem, Nat.reduceAdd, Nat.reduceMul, Nat.reduceSub]
    refine Runs.call (bitsLen hm x0 (by omega)) ?_
    simp +decide (disch := first | omega | (simp only [ll]; omega)) only [if_pos, go_sem, Nat.reduceAdd, Nat.reduceMul, Nat.reduceSub]
    exact Runs.ret_v
def seqAnn : Ann := [(0, [0, 1, 11, 12, 13])]
def seqSt (L M : List Int) (n i : Nat) : St := ⟨[.sl .sh (L.map intA), .sl .sh (M.map intA), .any, .any, .any, .any, .any, .any, .any, .any, .any, .sl .sh (L.map intA), .v (.int .i64 n), .v (.int .i64 i), .any, .any, .any, .any, .any, .any, .any, .any, .any, .any, .any, .any], [], []⟩
def seqS : Sched := .take 0 (.take 1 (.take 2 (.take 4 (.take 5 (.take 6 (.ld 3 (.ld 7 (.take 8 .fin))))))))
attribute [local go_sem] seqS
include hm in
theorem equalInt (L M : List Int) (h3 : L.length ≤ 9223372036854775807) (h4 : M.length ≤ 9223372036854775807) : Holds Tryz.prog 152 [.sl .sh (L.map intA), .sl .sh (M.map intA)] [] (.v (.bool (decide (L = M)))) [] := by
  refine holds_of (ann := seqAnn) tabOk hm Tryz.func152 (by kernel_rfl) rfl ?_
  simp +decide only [Tryz.f152, go_sem, Nat.reduceAdd, Nat.reduceMul, Nat.reduceSub]
  refine Runs.split (fun h => ?_) (fun h => ?_)
  · have hne : L ≠ M := by intro e; subst e; simp at h
    simp +decide only [go_sem, Nat.reduceAdd, Nat.reduceMul, Nat.reduceSub]
    exact Runs.ret_eq (by simp [hne])
  · have hlen : L.length = M.length := by simp at h; omega
    simp +decide only [go_sem, Nat.reduceAdd, Nat.reduceMul, Nat.reduceSub]
    refine Runs.while (α := Nat) (seqSt L M L.length) (fun i => L.length - i) (fun i => i ≤ L.length ∧ L.take i = M.take i) 0 ⟨by omega, by simp⟩ ?_ ?_
    · simp [go_sem, seqAnn, seqSt]
    · rintro i ⟨hi, he⟩ ih
      simp +decide only [seqSt, go_sem, Nat.reduceAdd, Nat.reduceMul, Nat.reduceSub]
      refine Runs.split (fun h => ?_) (fun h => ?_)
      · have hlt : i < L.length := by simpa using h
        have hlt' : i < M.length := by omega
        simp +decide only [go_sem, Nat.reduceAdd, Nat.reduceMul, Nat.reduceSub]
        refine Runs.draw (st1 := ?s1) (draws_by (ann := []) tabOk seqS (by kernel_rfl) ?p1) ?q1
        case p1 =>
          intro K r X hK
          simp +decide (disch := first | omega | (simp only [ll]; omega)) only [if_pos, go_sem, Nat.reduceAdd, Nat.reduceMul, Nat.reduceSub]
          exact hK
        case q1 =>
          simp +decide only [go_sem, Nat.reduceAdd, Nat.reduceMul, Nat.reduceSub]
          refine Runs.split (fun h => ?_) (fun h => ?_)
          · have hne : L ≠ M := by
              intro e
              subst e
              simp at h
            simp +decide only [go_sem, Nat.reduceAdd, Nat.reduceMul, Nat.reduceSub]
            exact Runs.ret_eq (by simp [hne])
          · have hx : L[i] = M[i] := by simpa using h
            simp +decide (disch := first | omega | (simp only [ll]; omega)) only [if_pos, go_sem, Nat.reduceAdd, Nat.reduceMul, Nat.reduceSub]
            refine ih (i + 1) _ (by omega) ⟨by omega, by rw [List.take_succ_eq_append_getElem hlt, List.take_succ_eq_append_getElem hlt', he, hx]⟩ ?_
            simp [go_sem, seqAnn, seqSt]
      · have hge : i = L.length := by simp at h; omega
        subst hge
        rw [List.take_length, List.take_of_length_le (by omega)] at he
        simp +decide only [go_sem, Nat.reduceAdd, Nat.reduceMul, Nat.reduceSub]
        exact Runs.ret_eq (by simp [he])
theorem bv {a b : Bool} (h : a = true ↔ b = true) : A.v (.bool a) = A.v (.bool b) := by
  have : a = b := by cases a <;> cases b <;> simp_all
  rw [this]
include hm in
theorem noCurveS (k : GKey) : Holds Tryz.prog 83 [keyA k] [] (.v (.bool (noCurve k))) [] := by
  refine holds_ref (ann := []) tabOk hm (byL [] [1000001]) Tryz.func83 (by kernel_rfl) rfl ?_
  simp +decide (maxSteps := 9^7) only [Tryz.f83, go_sem, Nat.reduceAdd, Nat.reduceMul, Nat.reduceSub]
  refine Runs.split (fun h => ?_) (fun h => ?_)
  · simp +decide (maxSteps := 9^7) only [go_sem, Nat.reduceAdd, Nat.reduceMul, Nat.reduceSub]
    exact Runs.ret_eq (bv (by simp [noCurve, eqCv, eqPt, cv0, pt0] at h ⊢; grind))
  · simp +decide (maxSteps := 9^7) only [go_sem, Nat.reduceAdd, Nat.reduceMul, Nat.reduceSub]
    exact Runs.ret_eq (bv (by simp [noCurve, eqCv, eqPt, cv0, pt0] at h ⊢; grind))
include hm in
theorem noEdS (k : GKey) : Holds Tryz.prog 84 [keyA k] [] (.v (.bool (noEd k))) [] := by
  refine holds_ref (ann := []) tabOk hm (byL [] [1000001]) Tryz.func84 (by kernel_rfl) rfl ?_
  simp +decide (maxSteps := 9^7) only [Tryz.f84, go_sem, Nat.reduceAdd, Nat.reduceMul, Nat.reduceSub]
  refine Runs.split (fun h => ?_) (fun h => ?_)
  · simp +decide (maxSteps := 9^7) only [go_sem, Nat.reduceAdd, Nat.reduceMul, Nat.reduceSub]
    exact Runs.ret_eq (bv (by simp [noEd, eqEd, eqPr, ed0, pr0] at h ⊢; grind))
  · simp +decide (maxSteps := 9^7) only [go_sem, Nat.reduceAdd, Nat.reduceMul, Nat.reduceSub]
    exact Runs.ret_eq (bv (by simp [noEd, eqEd, eqPr, ed0, pr0] at h ⊢; grind))
include hm in
theorem noRsaS (k : GKey) : Holds Tryz.prog 87 [keyA k] [] (.v (.bool (noRsa k))) [] := by
  refine holds_ref (ann := []) tabOk hm (byL [] [1000001]) Tryz.func87 (by kernel_rfl) rfl ?_
  simp +decide (maxSteps := 9^7) only [Tryz.f87, go_sem, Nat.reduceAdd, Nat.reduceMul, Nat.reduceSub]
  refine Runs.split (fun h => ?_) (fun h => ?_)
  · simp +decide (maxSteps := 9^7) only [go_sem, Nat.reduceAdd, Nat.reduceMul, Nat.reduceSub]
    exact Runs.ret_eq (bv (by simp [noRsa] at h ⊢; simp [h]))
  · simp +decide (maxSteps := 9^7) only [go_sem, Nat.reduceAdd, Nat.reduceMul, Nat.reduceSub]
    exact Runs.ret_eq (bv (by simp [noRsa] at h ⊢; grind))
def keySame (k k' : GKey) : Bool := decide (k.kind = k'.kind) && (decide (k.N = k'.N) && (decide (k.e = k'.e) && (eqCv k.cv k'.cv && (eqPt k.q k'.q && (eqEd k.ed k'.ed && eqPr k.a k'.a)))))
set_option maxHeartbeats 4000000 in
include hm in
theorem sameK (k k' : GKey) (h3 : k.N.length ≤ 9223372036854775807) (h4 : k'.N.length ≤ 9223372036854775807) : Holds Tryz.prog 112 [keyA k, keyA k'] [] (.v (.bool (keySame k k'))) [] := by
  refine holds_ref (ann := []) tabOk hm (byL [] [1000002, 1000003]) Tryz.func112 (by kernel_rfl) rfl ?_
  have hE := equalInt hm k.N k'.N h3 h4
  simp +decide (maxSteps := 9^7) only [Tryz.f112, go_sem, Nat.reduceAdd, Nat.reduceMul, Nat.reduceSub]
  refine Runs.split (fun c1 => ?_) (fun c1 => ?_)
  case _ =>
    simp +decide (maxSteps := 9^7) only [go_sem, Nat.reduceAdd, Nat.reduceMul, Nat.reduceSub]
    refine Runs.call hE ?_
    simp +decide (maxSteps := 9^7) only [go_sem, Nat.reduceAdd, Nat.reduceMul, Nat.reduceSub]
    refine Runs.split (fun c2 => ?_) (fun c2 => ?_)
    case _ =>
      simp +decide (maxSteps := 9^7) only [go_sem, Nat.reduceAdd, Nat.reduceMul, Nat.reduceSub]
      refine Runs.split (fun c3 => ?_) (fun c3 => ?_)
      case _ =>
        simp +decide (maxSteps := 9^7) only [go_sem, Nat.reduceAdd, Nat.reduceMul, Nat.reduceSub]
        refine Runs.split (fun c4 => ?_) (fun c4 => ?_)
        case _ =>
          simp +decide (maxSteps := 9^7) only [go_sem, Nat.reduceAdd, Nat.reduceMul, Nat.reduceSub]
          refine Runs.split (fun c5 => ?_) (fun c5 => ?_)
          case _ =>
            simp +decide (maxSteps := 9^7) only [go_sem, Nat.reduceAdd, Nat.reduceMul, Nat.reduceSub]
            refine Runs.split (fun c6 => ?_) (fun c6 => ?_)
            case _ =>
              simp +decide (maxSteps := 9^7) only [go_sem, Nat.reduceAdd, Nat.reduceMul, Nat.reduceSub]
              exact Runs.ret_eq (bv (by simp [keySame, eqCv, eqPt, eqEd, eqPr] at c1 c2 c3 c4 c5 c6 ⊢; simp [c1, c2, c3, c4, c5, c6]))
            simp +decide (maxSteps := 9^7) only [go_sem, Nat.reduceAdd, Nat.reduceMul, Nat.reduceSub]
            exact Runs.ret_eq (bv (by simp [keySame, eqCv, eqPt, eqEd, eqPr] at c6 ⊢; grind))
          simp +decide (maxSteps := 9^7) only [go_sem, Nat.reduceAdd, Nat.reduceMul, Nat.reduceSub]
          exact Runs.ret_eq (bv (by simp [keySame, eqCv, eqPt, eqEd, eqPr] at c5 ⊢; grind))
        simp +decide (maxSteps := 9^7) only [go_sem, Nat.reduceAdd, Nat.reduceMul, Nat.reduceSub]
        exact Runs.ret_eq (bv (by simp [keySame, eqCv, eqPt, eqEd, eqPr] at c4 ⊢; grind))
      simp +decide (maxSteps := 9^7) only [go_sem, Nat.reduceAdd, Nat.reduceMul, Nat.reduceSub]
      exact Runs.ret_eq (bv (by simp [keySame, eqCv, eqPt, eqEd, eqPr] at c3 ⊢; grind))
    simp +decide (maxSteps := 9^7) only [go_sem, Nat.reduceAdd, Nat.reduceMul, Nat.reduceSub]
    exact Runs.ret_eq (bv (by simp [keySame, eqCv, eqPt, eqEd, eqPr] at c2 ⊢; grind))
  simp +decide (maxSteps := 9^7) only [go_sem, Nat.reduceAdd, Nat.reduceMul, Nat.reduceSub]
  exact Runs.ret_eq (bv (by simp [keySame] at c1 ⊢; grind))
end Go.Proofs.W
